/-
  A part of what LawD rests on: the logic, walks and plain laws. No condition.
-/
import Derived.Test.YtkdolgnpkjihpaaGreatDoorJD5
import Derived.Test.YtkdolgnpkjihpaaGreatDoorRows
import Derived.WalkKit
import Derived.ProofKit
import Derived.OpenShut
import Derived.Lib.SmallJoins
import Derived.Deep.SlicePairs
import Derived.Test.YtkdolgnpkjihpaaGreatDoorCards
import Derived.Test.YtkdolgnpkjihpaaGreatDoorTie
import Derived.Deep.DeepHandedRow
namespace Go.Proofs.YtkdolgnpkjihpaaGreatDoor
open _root_.Go.Proofs.Tryz
open Go.RowKit
set_option linter.unusedVariables false
set_option linter.unusedSimpArgs false
theorem nodup_of : ∀ {l l' : List Nat}, l.Nodup → (∀ x ∈ l, x ∈ l') → l'.length ≤ l.length → l'.Nodup
 | [], l', _, _, h => by
  have : l' = [] := List.eq_nil_of_length_eq_zero (by simpa using h)
  subst this; exact .nil
 | x :: l, l', hn, hs, hl => by
  have hn' := List.nodup_cons.1 hn
  obtain ⟨p, q, rfl⟩ := List.append_of_mem (hs x (by simp))
  have hlen : (p ++ q).length ≤ l.length := by simp at hl ⊢; omega
  have hsub : ∀ y ∈ l, y ∈ p ++ q := fun y hy => by
   have h1 := hs y (by simp [hy])
   have h2 : ¬ y = x := fun e => by subst e; exact hn'.1 hy
   simp only [List.mem_append, List.mem_cons] at h1 ⊢
   rcases h1 with h1 | h1 | h1
   ·exact .inl h1
   ·exact absurd h1 h2
   ·exact .inr h1
  have hpq := nodup_of hn'.2 hsub hlen
  have hx : x ∉ p ++ q := fun hm => by
   have := nodup_le hn (l' := p ++ q) fun y hy => by
    rcases List.mem_cons.1 hy with rfl | hy
    ·exact hm
    ·exact hsub y hy
   simp only [List.length_cons] at this; omega
  exact (List.perm_middle.nodup_iff).2 (List.nodup_cons.2 ⟨hx, hpq⟩)
theorem idx_addL {l : List (List Int)} {s x : List Int} (h : x ∈ l) : idx (addL l s) x = idx l x := by
 unfold addL; split
 ·rfl
 ·have h1 := Dw h
  exact idx_at (by simp; omega) (by rw [gdp_l h1]; exact idx_get h) fun j hj e => idx_before hj (by omega) (by rw [gdp_l (by omega)] at e; exact e)
theorem mem_addL {l : List (List Int)} {s x : List Int} : x ∈ addL l s ↔ x ∈ l ∨ x = s := by
 unfold addL; split
 ·rename_i h
  constructor
  ·exact .inl
  ·rintro (h2 | rfl)
   ·exact h2
   ·exact h
 ·simp
theorem addL_nd {l : List (List Int)} {s : List Int} (h : l.Nodup) : (addL l s).Nodup := by
 unfold addL; split
 ·exact h
 ·rename_i h2
  exact List.nodup_append.2 ⟨h, by simp, fun a ha b hb e => by simp at hb; subst hb; subst e; exact h2 ha⟩
theorem sgK_sem (m : PM) (b : List Nat) : ∀ i, (sgK m b i).1.Nodup ∧ (∀ x, x ∈ (sgK m b i).1 ↔ ∃ j, j < i ∧ toInts (sgR m b j) = x) ∧ ∀ j, j < i → gd (sgK m b i).2 j = idx (sgK m b i).1 (toInts (sgR m b j))
 | 0 => ⟨.nil, fun x => ⟨(fun h => by cases h), fun ⟨j, h, _⟩ => absurd h (Nat.not_lt_zero _)⟩, fun j h => absurd h (Nat.not_lt_zero _)⟩
 | i + 1 => by
  obtain ⟨h1, h2, h3⟩ := sgK_sem m b i
  have hl := (sgK_len m b i).1
  rw [sgK_succ]
  refine ⟨addL_nd h1, fun x => ?_, fun j hj => ?_⟩
  ·show x ∈ addL _ _ ↔ _
   rw [mem_addL, h2]
   constructor
   ·rintro (⟨j, h4, h5⟩ | rfl)
    ·exact ⟨j, by omega, h5⟩
    ·exact ⟨i, by omega, rfl⟩
   ·rintro ⟨j, h4, h5⟩
    by_cases e : j = i
    ·subst e; exact .inr h5.symm
    ·exact .inl ⟨j, by omega, h5⟩
  ·show gd ((sgK m b i).2 ++ _) j = idx (addL _ _) _
   by_cases e : j < i
   ·rw [gdp_l (by omega), h3 j e, idx_addL ((h2 _).2 ⟨j, e, rfl⟩)]
   ·obtain rfl : j = i := by omega
    have e2 : gd ((sgK m b j).2 ++ [idx (sgK m b j).1 (toInts (sgR m b j))]) (sgK m b j).2.length = idx (sgK m b j).1 (toInts (sgR m b j)) := gdp_r
    rw [hl] at e2
    rw [e2]
    by_cases hm : toInts (sgR m b j) ∈ (sgK m b j).1
    ·rw [idx_addL hm]
    ·unfold addL; rw [if_neg hm, idx_app hm]
theorem sg_iff (m : PM) (b : List Nat) {n i k : Nat} (hi : i < n) (hk : k < n) : gd (sgK m b n).2 i = gd (sgK m b n).2 k ↔ sgR m b i = sgR m b k := by
 obtain ⟨h1, h2, h3⟩ := sgK_sem m b n
 rw [h3 i hi, h3 k hk]
 constructor
 ·intro e
  have a1 := idx_get ((h2 _).2 ⟨i, hi, rfl⟩)
  have a2 := idx_get ((h2 _).2 ⟨k, hk, rfl⟩)
  rw [e, a2] at a1
  exact (toInts_inj a1).symm
 ·intro e; rw [e]
theorem sgR_iff {m : PM} (hp : PMok m) (b : List Nat) {i k : Nat} (hi : i < m.next.length) (hk : k < m.next.length) : sgR m b i = sgR m b k ↔ gd b i = gd b k ∧ ∀ a, a < m.names.length + 1 → gd b (nx m i a) = gd b (nx m k a) := by
 have r1 := (hp.row _ (Ax hi)).1
 have r2 := (hp.row _ (Ax hk)).1
 unfold sgR
 rw [List.cons.injEq]
 refine and_congr_right fun _ => ?_
 constructor
 ·intro e a ha
  have e2 : gd ((gd m.next i).map (gd b)) a = gd ((gd m.next k).map (gd b)) a := by rw [e]
  rw [C4 (by omega), C4 (by omega)] at e2
  exact e2
 ·intro h
  refine list_eq (by simp [r1, r2]) fun j hj => ?_
  rw [List.length_map] at hj
  rw [C4 hj, C4 (by omega)]
  exact h j (by omega)
structure Cls (m : PM) (b : List Nat) : Prop where
 acc : ∀ i, i < m.next.length → ∀ k, k < m.next.length → gd b i = gd b k → gd m.acc i = gd m.acc k
 dst : ∀ i, i < m.next.length → ∀ k, k < m.next.length → ¬ gd b i = gd b k → Dst m i k
theorem Cls.next {m : PM} (hp : PMok m) {b : List Nat} (h : Cls m b) : Cls m (sgK m b m.next.length).2 := by
 refine ⟨fun i hi k hk e => ?_, fun i hi k hk e => ?_⟩
 ·exact h.acc i hi k hk ((sgR_iff hp b hi hk).1 ((sg_iff m b hi hk).1 e)).1
 ·by_cases e1 : gd b i = gd b k
  ·have h2 : ¬ ∀ a, a < m.names.length + 1 → gd b (nx m i a) = gd b (nx m k a) := fun h3 => e ((sg_iff m b hi hk).2 ((sgR_iff hp b hi hk).2 ⟨e1, h3⟩))
   obtain ⟨a, ha⟩ := Classical.not_forall.1 h2
   obtain ⟨ha1, ha2⟩ := Classical.not_imp.1 ha
   exact .step ha1 (h.dst _ (Ee hp hi ha1) _ (Ee hp hk ha1) ha2)
  ·exact h.dst i hi k hk e1
def Full (n : Nat) (b : List Nat) (c : Nat) : Prop := ∀ v, v < c → ∃ i, i < n ∧ gd b i = v
theorem sg_full (m : PM) (b : List Nat) (n : Nat) : Full n (sgK m b n).2 (sgK m b n).1.length := fun v hv => by
 obtain ⟨h1, h2, h3⟩ := sgK_sem m b n
 obtain ⟨j, hj, e⟩ := (h2 _).1 (Ax hv)
 refine ⟨j, hj, ?_⟩
 rw [h3 j hj, e]
 refine idx_at hv U fun k hk e2 => ?_
 rw [Bo (by omega), Bo hv] at e2
 exact List.pairwise_iff_getElem.1 h1 k v (by omega) hv hk e2
theorem sg_same {m : PM} {b : List Nat} {n c : Nat} (hf : Full n b c) (hlt : ∀ i, i < n → gd b i < c) (hc : (sgK m b n).1.length ≤ c) {i k : Nat} (hi : i < n) (hk : k < n) (e : gd b i = gd b k) : gd (sgK m b n).2 i = gd (sgK m b n).2 k := by
 obtain ⟨h1, h2, h3⟩ := sgK_sem m b n
 have hd : ∀ j, ((toInts (sgR m b j)).headD 0).toNat = gd b j := fun j => by simp [sgR, toInts]
 have hnd : ((sgK m b n).1.map fun s => (s.headD 0).toNat).Nodup := by
  refine nodup_of (l := List.range c) List.nodup_range (fun v hv => ?_) (by simpa using hc)
  obtain ⟨j, hj, rfl⟩ := hf v (List.mem_range.1 hv)
  exact List.mem_map.2 ⟨_, (h2 _).2 ⟨j, hj, rfl⟩, hd j⟩
 rw [h3 i hi, h3 k hk]
 have m1 := (h2 _).2 ⟨i, hi, rfl⟩
 have m2 := (h2 _).2 ⟨k, hk, rfl⟩
 have l1 := Dw m1
 have l2 := Dw m2
 refine Classical.byContradiction fun hne => ?_
 have hg : ∀ x (hx : x < (sgK m b n).1.length) , ((sgK m b n).1.map fun s => (s.headD 0).toNat)[x]'(by simpa using hx) = ((gd (sgK m b n).1 x).headD 0).toNat := fun x hx => by rw [Bo hx]; simp
 have e1 := hg _ l1
 have e2 := hg _ l2
 rw [idx_get m1, hd] at e1
 rw [idx_get m2, hd] at e2
 rcases Nat.lt_or_gt_of_ne hne with h | h
 ·exact List.pairwise_iff_getElem.1 hnd _ _ (by simpa using l1) (by simpa using l2) h (by rw [e1, e2, e])
 ·exact List.pairwise_iff_getElem.1 hnd _ _ (by simpa using l2) (by simpa using l1) h (by rw [e1, e2, e])
theorem sg_part {m : PM} (hp : PMok m) {b : List Nat} {c : Nat} (h : Cls m b) (hf : Full m.next.length b c) (hlt : ∀ i, i < m.next.length → gd b i < c) (hc : (sgK m b m.next.length).1.length ≤ c) : Part m (sgK m b m.next.length).2 := by
 have h2 := h.next hp
 refine ⟨h2.acc, fun i hi k hk e a ha => ?_, h2.dst⟩
 have h3 := ((sgR_iff hp b hi hk).1 ((sg_iff m b hi hk).1 e)).2 a ha
 exact sg_same hf hlt hc (Ee hp hi ha) (Ee hp hk ha) h3
theorem cl_part {m : PM} (hp : PMok m) : ∀ (f : Nat) {b : List Nat} {c : Nat}, Cls m b → 0 < c → Full m.next.length b c → (∀ i, i < m.next.length → gd b i < c) → c ≤ m.next.length → 201 ≤ f + c → Part m (clR m f b c)
 | 0, b, c, _, _, _, _, hc, hf => by have := hp.few; omega
 | f + 1, b, c, h, h0, hfu, hlt, hc, hf => by
  rw [clR_succ]
  split
  ·rename_i hlt2
   have hl := sgK_len m b m.next.length
   refine cl_part hp f (h.next hp) (by omega) (sg_full m b _) (fun i hi => ?_) hl.2 (by omega)
   obtain ⟨h1, h2, h3⟩ := sgK_sem m b m.next.length
   rw [h3 i hi]
   exact Dw ((h2 _).2 ⟨i, hi, rfl⟩)
  ·rename_i hge
   exact sg_part hp h hfu hlt (by omega)
theorem classes_part {m : PM} (hp : PMok m) : Part m (classesR m) := by
 have hs := hp.some'
 have h0 : Cls m (initB m) := by
  have h1 : Prt m (initB m) := .init hp
  exact ⟨h1.acc, h1.dst⟩
 obtain ⟨h1, h2, h3⟩ := sgK_sem m (initB m) m.next.length
 have hl := sgK_len m (initB m) m.next.length
 have hpos : 0 < (sgK m (initB m) m.next.length).1.length := by
  have := (h2 _).2 ⟨0, hs, rfl⟩
  exact List.length_pos_of_mem this
 unfold classesR
 rw [show (201 : Nat) = 200 + 1 from rfl, clR_succ, if_pos hpos]
 refine cl_part hp 200 (h0.next hp) hpos (sg_full m _ _) (fun i hi => ?_) hl.2 (by omega)
 rw [h3 i hi]
 exact Dw ((h2 _).2 ⟨i, hi, rfl⟩)
theorem idx_congr {m : PM} {b b' : List Nat} {n : Nat} (h : ∀ i, i < n → ∀ k, k < n → (gd b i = gd b k ↔ gd b' i = gd b' k)) {order : List Nat} (ho : ∀ x ∈ order, x < n) {t : Nat} (ht : t < n) : idx (order.map (gd b)) (gd b t) = idx (order.map (gd b')) (gd b' t) ∧ (gd b t ∈ order.map (gd b) ↔ gd b' t ∈ order.map (gd b')) := by
 have hlt : ∀ j, j < order.length → gd order j < n := fun j hj => ho _ (Ax hj)
 by_cases hm : gd b t ∈ order.map (gd b)
 ·have h1 := Dw hm
  have h2 := idx_get hm
  rw [List.length_map] at h1
  rw [C4 h1] at h2
  have h3 := (h _ (hlt _ h1) _ ht).1 h2
  refine ⟨(idx_at (by simpa using h1) (by rw [C4 h1]; exact h3) fun j hj e => ?_).symm, fun _ => List.mem_map.2 ⟨_, Ax h1, h3⟩, fun _ => hm⟩
  rw [C4 (by omega)] at e
  refine idx_before hj (by rw [List.length_map]; omega) ?_
  rw [C4 (by omega)]
  exact (h _ (hlt _ (by omega)) _ ht).2 e
 ·have hm2 : gd b' t ∉ order.map (gd b') := fun hM => by
   obtain ⟨x, hx, e⟩ := List.mem_map.1 hM
   exact hm (List.mem_map.2 ⟨x, hx, (h _ (ho x hx) _ ht).2 e⟩)
  exact ⟨by rw [idx_not hm, idx_not hm2]; simp, fun e => absurd e hm, fun e => absurd e hm2⟩
theorem numK_congr {m : PM} {b b' : List Nat} {n : Nat} (h : ∀ i, i < n → ∀ k, k < n → (gd b i = gd b k ↔ gd b' i = gd b' k)) {tos order : List Nat} (ho : ∀ x ∈ order, x < n) (ht : ∀ x ∈ tos, x < n) : ∀ i, i ≤ tos.length → numK b tos order i = numK b' tos order i ∧ ∀ x ∈ (numK b tos order i).1, x < n
 | 0, _ => ⟨rfl, ho⟩
 | i + 1, hi => by
  obtain ⟨h1, h2⟩ := numK_congr (m := m) h ho ht i (by omega)
  have h3 := ht _ (Ax (show i < tos.length by omega))
  obtain ⟨h4, h5⟩ := idx_congr (m := m) h h2 h3
  rw [Cx, Cx, ← h1, h4]
  constructor
  ·by_cases hm : gd b (gd tos i) ∈ (numK b tos order i).1.map (gd b)
   ·rw [if_pos hm, if_pos (h5.1 hm)]
   ·rw [if_neg hm, if_neg (fun e => hm (h5.2 e))]
  ·intro x hx
   simp only [] at hx
   split at hx
   ·exact h2 x hx
   ·rcases List.mem_append.1 hx with hx | hx
    ·exact h2 x hx
    ·simp at hx; subst hx; exact h3
theorem numGo_congr {m : PM} (hp : PMok m) {b b' : List Nat} (h : ∀ i, i < m.next.length → ∀ k, k < m.next.length → (gd b i = gd b k ↔ gd b' i = gd b' k)) : ∀ (f k : Nat) (order : List Nat) (rows : List (List Nat)) (acc : List Bool), (∀ x ∈ order, x < m.next.length) → numGo m b f k order rows acc = numGo m b' f k order rows acc
 | 0, _, _, _, _, _ => rfl
 | f + 1, k, order, rows, acc, ho => by
  rw [numGo_succ, numGo_succ]
  by_cases hk : k < order.length
  ·have ht : ∀ x ∈ gd m.next (gd order k), x < m.next.length := (hp.row _ (Ax (ho _ (Ax hk)))).2
   obtain ⟨h1, h2⟩ := numK_congr (m := m) h ho ht _ (Nat.le_refl _)
   rw [if_pos hk, if_pos hk, ← h1]
   exact numGo_congr hp h f (k + 1) _ _ _ h2
  ·rw [if_neg hk, if_neg hk]
theorem least_same {m : PM} (hp : PMok m) : numF m (classesR m) = leastF m := by
 have h : ∀ i, i < m.next.length → ∀ k, k < m.next.length → (gd (classesR m) i = gd (classesR m) k ↔ gd (refineF m 201 (initB m)) i = gd (refineF m 201 (initB m)) k) := fun i hi k hk => by
  rw [(classes_part hp).iff hp hi hk, (refine_part0 hp).iff hp hi hk]
 unfold leastF numF
 rw [numGo_congr hp h 201 0 [0] [] [] (fun x hx => by simp at hx; subst hx; exact hp.some')]
end Go.Proofs.YtkdolgnpkjihpaaGreatDoor
namespace Go.Proofs.YtkdolgnpkjihpaaGreatDoor
open _root_.Go.Proofs.Tryz
open Go.RowKit
set_option linter.unusedVariables false
set_option linter.unusedSimpArgs false
theorem rbuild_s {w0 : World} {H : List (Nat × Obj)} (m : Rxm) (e : Re) (hI : Is m e) (hM : RxM w0 H m) (hl : e.lv ≤ 64) (hz : m.sz ≤ 90000) :
    FSpec Tryz.prog w0 13 #[.agg (encRx m).toArray] H (fun v H' => ∃ (mc : Mc) (M : List (Nat × Obj)), (v = .tuple #[.agg (encMc mc).toArray, .int .i64 (buildF leastF e).2] ∧ McOk w0 (M ++ H) mc ∧ mc.pl = (buildF leastF e).1) ∧ H' = M ++ H) := by
  refine Bc Tryz.func13 U ntmps13 U (Ag (Ab (e_ (Bj (T U) cs_) ?_ U)))
  rintro _ _ ⟨n1, rfl, rfl⟩
  refine e_ (Aq zeroValue29 cs_) ?_ U
  rintro _ _ ⟨n2, rfl, rfl⟩
  refine y_ (Ad Ak) (Af (Ae (Ag (Ab (y_ (Am (T U) isAgg24 sizeOf24 U (by first | exact Bf)) ?_ U))))) U
  refine e_ (Au (.cons (T U) .nil) call55 (sets_s m e hI (hM.mono sbt) hl hz)) ?_ U
  rintro _ _ ⟨mc, M, ⟨rfl, hmc, hsm, hnn⟩, rfl⟩
  rw [ntR_let hI, rawR_eq hl] at hsm hnn ⊢
  obtain ⟨er, her⟩ : ∃ er : Int, er = (if (rawF e).isSome = true then 0 else 2) := ⟨_, rfl⟩
  rw [← her]
  refine y_ (Ac (T U)) (y_ (Ba (T U) U) (y_ (Ba (T U) U) (e_ (Aq zeroValue29 cs_) ?_ U) U) U) U
  rintro _ _ ⟨n4, rfl, rfl⟩
  first | refine A6 (As (T U) (T U) sizeOf29) U Ah ?_
  rintro _ _ ⟨rfl, rfl⟩
  refine y_ (Ad (T U)) (Af (Ae (Ag (Ag (Ab (y_ (Ac (T U)) (y_ (Cy (T U) Ak) (Af (Ae ?_)) U) U)))))) U
  first | refine Ao (Aa U) (fun c12 => ?_) (fun c12 => ?_) | refine A5 (Aa U) (fun c12 => ?_) (fun c12 => ?_)
  · have hr : rawF e = none := by
      cases h : rawF e with
      | none => rfl
      | some r => rw [h] at her; simp at her; exact absurd her c12
    have he2 : er = 2 := by rw [her, hr]; rfl
    refine Ag (Ab (y_ (Bq .nil (bd29_z)) (y_ (Ac (T U)) ?_ U) U))
    first | refine A6 (As (T U) (T U) sizeOf29) U Ah ?_
    rintro _ _ ⟨rfl, rfl⟩
    refine y_ (Ad (T U)) (Af (Ae (A7 (Ap (A8 U (.cellA (Aa U) isAgg29 sizeOf29 U (by first | exact Bf) (.tmp (Aa U) .nil)) ?_))))) U
    have hb : buildF leastF e = (⟨[], [], []⟩, 2) := by unfold buildF; rw [hr]
    rw [hb, he2]
    exact ⟨_, ⟨⟨[], [], [], none, 0, none, 0, none, 0⟩, [], ⟨rfl, ⟨(fun i x hi => by cases hi), (fun i x hi => by cases hi), (fun i x hi => by cases hi), (fun r hr => by cases hr)⟩, rfl⟩, rfl⟩, sbt⟩
  · obtain ⟨r, hr⟩ : ∃ r, rawF e = some r := by
      cases h : rawF e with
      | none => rw [h] at her; simp at her; exact absurd (show er = 2 from her) (by omega)
      | some r => exact ⟨r, rfl⟩
    have hpl := hsm r hr
    have hpo : PMok mc.pl := by rw [hpl]; exact rawF_ok hl hr
    have hnl : mc.names.length ≤ 90001 := by have h1 : mc.names = letF e := congrArg PM.names hpl
                                             rw [h1]; have := letF_few hl; omega
    refine A4 (Ae (Ag (Ab (y_ (Am (T U) isAgg29 sizeOf29 U (by first | exact Bf)) ?_ U))))
    refine e_ (Au (.cons (T U) .nil) call56 (rleast_s mc ((hmc H).mono sbt) hpo hnl)) ?_ U
    rintro _ _ ⟨mc2, M2, ⟨rfl, hmc2, hpl2⟩, rfl⟩
    first | refine A6 (As (T U) (T U) sizeOf29) U Ah ?_
    rintro _ _ ⟨rfl, rfl⟩
    refine y_ (Ad Ak) (Af (Ae (A7 (A8 U (.cellA (Aa U) isAgg29 sizeOf29 U (by first | exact Bf) (.tmp (Aa U) .nil)) ?_)))) U
    have hb : buildF leastF e = (leastF mc.pl, 0) := by unfold buildF; rw [hr, hpl]; rfl
    rw [hb]
    exact ⟨_, ⟨mc2, M2 ++ M, ⟨rfl, by rw [List.append_assoc]; exact hmc2 _ (hmc H), by rw [hpl2]; exact least_same hpo⟩, rfl⟩, by rw [List.append_assoc]; exact sbt⟩
end Go.Proofs.YtkdolgnpkjihpaaGreatDoor
namespace Go.Proofs.YtkdolgnpkjihpaaGreatDoor
open _root_.Go.Proofs.Tryz
open Go.RowKit
set_option linter.unusedVariables false
set_option linter.unusedSimpArgs false
end Go.Proofs.YtkdolgnpkjihpaaGreatDoor
namespace Go.Proofs.YtkdolgnpkjihpaaGreatDoor
open _root_.Go.Proofs.Tryz
open Go.RowKit
set_option linter.unusedVariables false
set_option linter.unusedSimpArgs false
end Go.Proofs.YtkdolgnpkjihpaaGreatDoor
namespace Go.Proofs.YtkdolgnpkjihpaaGreatDoor
open _root_.Go.Proofs.Tryz
open Go.RowKit
set_option linter.unusedVariables false
set_option linter.unusedSimpArgs false
structure Vs where
 p : Pl
 q : Option Addr
 c : Nat
 l : List ByteArray
instance : Inhabited Vs := ⟨⟨(0, 0), none, 0, []⟩⟩
abbrev encVs (v : Vs) : List Value := [.int .i64 (v.p.1 : Int), .int .i64 (v.p.2 : Int), .slice v.q v.l.length v.c]
structure VT (vs : List Vs) (st : BS ByteArray) : Prop where
 len : vs.length = st.l.length
 at' : ∀ i, i < vs.length → (gd vs i).p = gd st.l i ∧ (gd vs i).l = pth st.w i
theorem VT.mem {vs : List Vs} {st : BS ByteArray} (h : VT vs st) (p : Pl) : p ∈ st.l ↔ ∃ j, j < vs.length ∧ (gd vs j).p = p := by
 constructor
 ·intro hp
  obtain ⟨j, hj, e⟩ := memPl hp
  exact ⟨j, by rw [h.len]; exact hj, by rw [(h.at' j (by rw [h.len]; exact hj)).1]; exact e⟩
 ·rintro ⟨j, hj, e⟩
  rw [← e, (h.at' j hj).1]
  exact Ax (by rw [← h.len]; exact hj)
theorem VT.start (p : Pl) : VT [⟨p, none, 0, []⟩] ⟨[p], [(-1, default)]⟩ := ⟨rfl, fun i hi => by
 simp at hi; subst hi
 exact ⟨rfl, rfl⟩⟩
theorem VT.old {Pd : Pl → Prop} {k k' : Nat} {st : BS ByteArray} {vs : List Vs} (h : VT vs st) {x : Pl × ByteArray} (hx : x.1 ∈ st.l) : VT vs (visF k st x) := by
 unfold visF; rw [if_pos hx]; exact h
theorem VT.new {Pd : Pl → Prop} {k k' : Nat} {st : BS ByteArray} {vs : List Vs} (h : VT vs st) (hb : BSok Pd k' st) (hk : k < st.l.length) {x : Pl × ByteArray} (hx : x.1 ∉ st.l) (q : Option Addr) (c : Nat) : VT (vs ++ [⟨x.1, q, c, (gd vs k).l ++ [x.2]⟩]) (visF k st x) := by
 have hw := hb.len
 have hl := h.len
 have hback : ∀ i, i < (st.w ++ [((k : Int), x.2)]).length → -1 ≤ (gd (st.w ++ [((k : Int), x.2)]) i).1 ∧ (gd (st.w ++ [((k : Int), x.2)]) i).1 < i := fun i hi => by
  by_cases e : i = st.w.length
  ·subst e; rw [Cz]; simp only []; omega
  ·have hi' : i < st.w.length := by simp at hi; omega
   rw [Cj hi']; exact hb.back i hi'
 unfold visF; rw [if_neg hx]
 refine ⟨by simp [hl], fun i hi => ?_⟩
 by_cases e : i = vs.length
 ·subst e
  rw [Cz]
  simp only []
  have e1 : gd (st.l ++ [x.1]) vs.length = x.1 := by rw [hl]; exact Cz
  refine ⟨e1.symm, ?_⟩
  have e2 : gd (st.w ++ [((k : Int), x.2)]) vs.length = ((k : Int), x.2) := by rw [hl, ← hw]; exact Cz
  rw [pth_snoc hback (by simp; omega) (by rw [e2]; simp only []; omega), e2]
  simp only [Int.toNat_natCast]
  rw [pth_app hb.back _ (by omega), (h.at' k (by omega)).2]
 ·have hi' : i < vs.length := by simp at hi; omega
  rw [Cj hi']
  simp only []
  rw [Cj (by omega), pth_app hb.back _ (by omega)]
  exact h.at' i hi'
structure VsOk (w0 : World) (M : List (Nat × Obj)) (vs : List Vs) (d : Sl) (st : BS ByteArray) : Prop where
 ok : SlOk d vs.length 3
 vr : VT vs st
 pa : ∀ u ∈ vs, ∀ X, Arr w0 (M ++ X) u.q 1 encS u.l
theorem ntR_two {m1 m2 : Rxm} {a b : Re} (ha : Is m1 a) (hb : Is m2 b) : ntR m2 (ntR m1 []) = letF (.alt a b) := by
 obtain ⟨h1, h2⟩ := ntR_is ha (l := []) .nil
 obtain ⟨h3, h4⟩ := ntR_is hb h1
 exact srt_ext h3 (letF_srt _) fun x => by rw [h4, h2, Dn]; simp [Re.nms]
end Go.Proofs.YtkdolgnpkjihpaaGreatDoor
namespace Go.Proofs.YtkdolgnpkjihpaaGreatDoor
open _root_.Go.Proofs.Tryz
open Go.RowKit
set_option linter.unusedVariables false
set_option linter.unusedSimpArgs false
def OwnB (q : Option Addr) (c : Nat) (l : List ByteArray) (q' : Option Addr) (c' : Nat) (l' : List ByteArray) (M : List (Nat × Obj)) : Prop :=
 (q' = q ∧ c' = c ∧ l' = l) ∨ ∃ (d : Sl) (A B : List (Nat × Obj)), q' = slQ d ∧ c' = slC d ∧ SlOk d l'.length 1 ∧ M = A ++ (slH d (l'.flatMap encS) 9 ++ B)
theorem OwnB.trans {q q1 q2 : Option Addr} {c c1 c2 : Nat} {l l1 l2 : List ByteArray} {M M2 : List (Nat × Obj)} (h : OwnB q c l q1 c1 l1 M) (h2 : OwnB q1 c1 l1 q2 c2 l2 M2) : OwnB q c l q2 c2 l2 (M2 ++ M) := by
 rcases h2 with ⟨rfl, rfl, rfl⟩ | ⟨d, A, B, e1, e2, e3, rfl⟩
 ·rcases h with h | ⟨d, A, B, e1, e2, e3, rfl⟩
  ·exact .inl h
  ·exact .inr ⟨d, M2 ++ A, B, e1, e2, e3, by simp⟩
 ·exact .inr ⟨d, A, B ++ M, e1, e2, e3, by simp⟩
theorem name_o {w0 : World} {H : List (Nat × Obj)} (l : List ByteArray) (q : Option Addr) (c : Nat) (hA : Arr w0 H q 1 encS l) (hc : l.length ≤ c) (hl : l.length ≤ 100000) (s : ByteArray) :
  FSpec Tryz.prog w0 121 #[.slice q l.length c, .string s] H (fun v H' => ∃ (q' : Option Addr) (c' : Nat) (M : List (Nat × Obj)), (v = .slice q' (nameF s l).length c' ∧ (nameF s l).length ≤ c' ∧ (∀ X, Arr w0 X q 1 encS l → Arr w0 (M ++ X) q' 1 encS (nameF s l)) ∧ OwnB q c l q' c' (nameF s l) M) ∧ H' = M ++ H) := by
 refine Bc Tryz.func121 U ntmps121 U (Ag (Ab (y_ (Ad Ak) (Af (Ae (Ag (Ab (y_ (Ad Ak) (Af (Ae (Ag (Aw ?_)))) U))))) U)))
 refine Ci (X := Nat) (V := fun k => [(5, .int .i64 (k : Nat))]) (C := [(0, _), (1, _)]) (φ := fun k => k ≤ l.length ∧ ∀ j, j < k → toL (gd l j) < toL s) (μ := fun k => l.length - k) (x0 := 0) ?_ ⟨Aa U, Aa U, trivial⟩ ⟨atd, trivial⟩ ?_
 ·exact ⟨Nat.zero_le _, fun j hj => by omega⟩
 rintro k ⟨hk, hlt⟩
 refine Ag (Ag (Ab (y_ (Ac (T U)) (y_ (Ac (T U)) (y_ (Bn (T U) runUnderlying25) (y_ (B1 (T U) (T U)) (y_ (Ac (T U)) ?_ U) U) U) U) U)))
 first | refine Cb (s := 11) (Aa U) (fun c11 => ?_) (fun c11 => ?_) | refine Cu (s := 11) (Aa U) (fun c11 => ?_) (fun c11 => ?_)
 ·refine Be (Ac (T U)) U (Ar U U (Aa U)) (Be (Ac (T U)) U (Ar U U (Aa U)) (Be (Bb (T U) (T U) runUnderlying25 sizeOf9 (by omega) (by first | exact rfl | exact hA.b (i := k) (by omega))) U (Ar U U (Aa U)) ?_))
  refine Be (Aj (T U) isAgg9 (by first | exact c_o | exact cell1 ((hA.mono sbt).cs (i := k) (by omega)))) U (Ar U U (Aa U)) ?_
  refine Be (Ac (T U)) U (Ar U U (Aa U)) (Be (yl_ltS (T U) (T U)) U (Ar U U (Aa U)) (y_ (Az (T U) (T U)) (Af (Ae ?_)) U))
  first | refine Ao (Aa U) (fun c18 => ?_) (fun c18 => ?_) | refine A5 (Aa U) (fun c18 => ?_) (fun c18 => ?_)
  ·refine A4 (Ae (Aw (Ab (y_ (Ac (T U)) (y_ (Bt (T U) Ak (by omega)) ?_ U) U))))
   refine y_ (Ad (T U)) (Af (Bi ?_)) U
   refine Bk (k + 1) ?_ ?_ ⟨atd, trivial⟩ ⟨Aa U, Aa U, trivial⟩ ?_
   ·refine ⟨by omega, fun j hj => ?_⟩
    by_cases e : j = k
    ·subst e; exact c18
    ·exact hlt j (by omega)
   ·first | omega | (simp only []; omega)
   ·exact sbt
  ·refine B2 (Ay (A2 (A3 (Ae (Ag (Ag (Ab (y_ (Ac (T U)) (y_ (Ac (T U)) (y_ (Bn (T U) runUnderlying25) (y_ (B1 (T U) (T U)) (y_ (Ac (T U)) ?_ U) U) U) U) U))))))))
   first | refine Cb (s := 25) (Aa U) (fun c25 => ?_) (fun c25 => ?_) | refine Cu (s := 25) (Aa U) (fun c25 => ?_) (fun c25 => ?_)
   ·refine Be (Ac (T U)) U (Ar U U (Aa U)) (Be (Ac (T U)) U (Ar U U (Aa U)) (Be (Bb (T U) (T U) runUnderlying25 sizeOf9 (by omega) (by first | exact rfl | exact hA.b (i := k) (by omega))) U (Ar U U (Aa U)) ?_))
    refine Be (Aj (T U) isAgg9 (by first | exact c_o | exact cell1 ((hA.mono sbt).cs (i := k) (by omega)))) U (Ar U U (Aa U)) ?_
    refine Be (Ac (T U)) U (Ar U U (Aa U)) (Be (D0 (T U) (T U)) U (Ar U U (Aa U)) (y_ (Az (T U) (T U)) (Af (Ae (Bl [(0, _), (1, _), (5, _), (32, _)] ⟨Aa U, Aa U, Aa U, Aa U, trivial⟩ ?_))) U))
    first | refine Ao (Aa U) (fun c32 => ?_) (fun c32 => ?_) | refine A5 (Aa U) (fun c32 => ?_) (fun c32 => ?_)
    ·refine Ag (Ab (y_ (Ac (T U)) (y_ (Ad (T U)) (Af (Ae (A7 (Ap (A8 U (.tmp (Aa U) .nil) ?_))))) U) U))
     first | (have hp : nameF s l = l := Dp (k := k) (by omega) hlt (C6 c32); exact ⟨_, ⟨q, c, [], ⟨by rw [hp]; rfl, by rw [hp]; exact hc, fun X hX => by rw [hp]; exact hX, .inl ⟨rfl, rfl, hp⟩⟩, rfl⟩, sbt⟩) | (have hp : nameF s l = l.take k ++ [s] ++ l.drop k := Dq (by omega) hlt (fun h => ⟨by first | exact c18 | (exfalso; omega), fun e => by first | exact c32 (by rw [e]) | (exfalso; omega)⟩); exact ⟨_, ⟨slQ d3, slC d3, slH d3 ((l.take k ++ [s] ++ l.drop k).flatMap encS) 9, ⟨by rw [hp]; rfl, by rw [hp]; exact D4 hd3, fun X _ => by rw [hp]; exact A1 (fun _ => rfl) hd3, .inr ⟨d3, [], [], rfl, rfl, by rw [hp]; exact hd3, by rw [hp]; simp⟩⟩, rfl⟩, sbt⟩)
    ·refine A4 (Ae (Ag (Ab (y_ (Ad Ak) (Af (Ae (Ag (Ab (y_ (Ac (T U)) (y_ (Ac (T U)) (y_ (Ac (T U)) (y_ (Df  (T U) (T U) runUnderlying25 sizeOf9 (by omega)) ?_ U) U) U) U))))) U))))
     refine e_ (C7 (l.take k) (by' := 16) (by first | exact (by simp; omega) | omega) (T U) (T U) runUnderlying25 runUnderlying25 sizeOf9 typeInfo9 U zeroValue9 U (fun _ => rfl) (fun _ => rfl) (by decide) (by simp; omega) ((hA.mono sbt).take k)) ?_ U
     rintro _ _ ⟨d1, rfl, hd1, rfl⟩
     refine y_ (Ad (T U)) (Af (Ae (Ag (Ab (y_ (Ac (T U)) (y_ (Ac (T U)) (e_ (Al (.cons (T U) .nil) (Cw _)) ?_ U) U) U))))) U
     rintro _ _ ⟨n41, rfl, rfl⟩
     refine e_ (B8 (s) (by' := 16) (enc := encS) (by repeat (first | exact LocL.h | apply LocL.t | apply LocL.a)) (T U) (T U) runUnderlying25 runUnderlying25 sizeOf9 typeInfo9 U zeroValue9 U (fun _ => rfl) U hd1 (by decide) (by simp; omega)) ?_ U
     rintro _ _ ⟨d2, rfl, hd2, rfl⟩
     refine y_ (Ad (T U)) (Af (Ae (Ag (Ab (y_ (Ac (T U)) (y_ (Ac (T U)) (y_ (Ac (T U)) (y_ (Dg  (T U) (T U) runUnderlying25 sizeOf9 (by omega)) ?_ U) U) U) U))))) U
     refine e_ (C9 (l.drop k) (by' := 16) (enc := encS) (by first | exact (by simp) | omega) (by repeat (first | exact LocL.h | apply LocL.t | apply LocL.a)) (T U) (T U) runUnderlying25 runUnderlying25 sizeOf9 typeInfo9 U zeroValue9 U (fun _ => rfl) (fun _ => rfl) hd2 (by decide) (by simp; omega) ((hA.mono sbt).drop hc k)) ?_ U
     rintro _ _ ⟨d3, rfl, hd3, rfl⟩
     refine y_ (Ad (T U)) (Af (Ae (A7 (A8 U (.tmp (Aa U) .nil) ?_)))) U
     first | (have hp : nameF s l = l := Dp (k := k) (by omega) hlt (C6 c32); exact ⟨_, ⟨q, c, [], ⟨by rw [hp]; rfl, by rw [hp]; exact hc, fun X hX => by rw [hp]; exact hX, .inl ⟨rfl, rfl, hp⟩⟩, rfl⟩, sbt⟩) | (have hp : nameF s l = l.take k ++ [s] ++ l.drop k := Dq (by omega) hlt (fun h => ⟨by first | exact c18 | (exfalso; omega), fun e => by first | exact c32 (by rw [e]) | (exfalso; omega)⟩); exact ⟨_, ⟨slQ d3, slC d3, slH d3 ((l.take k ++ [s] ++ l.drop k).flatMap encS) 9, ⟨by rw [hp]; rfl, by rw [hp]; exact D4 hd3, fun X _ => by rw [hp]; exact A1 (fun _ => rfl) hd3, .inr ⟨d3, [], [], rfl, rfl, by rw [hp]; exact hd3, by rw [hp]; simp⟩⟩, rfl⟩, sbt⟩)
   ·refine B6 (B6 (B6 (B6 (B6 (B6 (y_ (A9 (T U) Ak) (Af (Ae (Bl [(0, _), (1, _), (5, _), (32, _)] ⟨Aa U, Aa U, Aa U, Aa U, trivial⟩ ?_))) U) U U U U) U U U U) U U U U) U U U U) U U U U) U U U U
    first | refine Br (Aa U) ?_ | refine Br (Ai (Aa U) (vbool (decide_eq_false c32))) ?_
    refine A4 (Ae (Ag (Ab (y_ (Ad Ak) (Af (Ae (Ag (Ab (y_ (Ac (T U)) (y_ (Ac (T U)) (y_ (Ac (T U)) (y_ (Df  (T U) (T U) runUnderlying25 sizeOf9 (by omega)) ?_ U) U) U) U))))) U))))
    refine e_ (C7 (l.take k) (by' := 16) (by first | exact (by simp; omega) | omega) (T U) (T U) runUnderlying25 runUnderlying25 sizeOf9 typeInfo9 U zeroValue9 U (fun _ => rfl) (fun _ => rfl) (by decide) (by simp; omega) ((hA.mono sbt).take k)) ?_ U
    rintro _ _ ⟨d1, rfl, hd1, rfl⟩
    refine y_ (Ad (T U)) (Af (Ae (Ag (Ab (y_ (Ac (T U)) (y_ (Ac (T U)) (e_ (Al (.cons (T U) .nil) (Cw _)) ?_ U) U) U))))) U
    rintro _ _ ⟨n41, rfl, rfl⟩
    refine e_ (B8 (s) (by' := 16) (enc := encS) (by repeat (first | exact LocL.h | apply LocL.t | apply LocL.a)) (T U) (T U) runUnderlying25 runUnderlying25 sizeOf9 typeInfo9 U zeroValue9 U (fun _ => rfl) U hd1 (by decide) (by simp; omega)) ?_ U
    rintro _ _ ⟨d2, rfl, hd2, rfl⟩
    refine y_ (Ad (T U)) (Af (Ae (Ag (Ab (y_ (Ac (T U)) (y_ (Ac (T U)) (y_ (Ac (T U)) (y_ (Dg  (T U) (T U) runUnderlying25 sizeOf9 (by omega)) ?_ U) U) U) U))))) U
    refine e_ (C9 (l.drop k) (by' := 16) (enc := encS) (by first | exact (by simp) | omega) (by repeat (first | exact LocL.h | apply LocL.t | apply LocL.a)) (T U) (T U) runUnderlying25 runUnderlying25 sizeOf9 typeInfo9 U zeroValue9 U (fun _ => rfl) (fun _ => rfl) hd2 (by decide) (by simp; omega) ((hA.mono sbt).drop hc k)) ?_ U
    rintro _ _ ⟨d3, rfl, hd3, rfl⟩
    refine y_ (Ad (T U)) (Af (Ae (A7 (A8 U (.tmp (Aa U) .nil) ?_)))) U
    first | (have hp : nameF s l = l := Dp (k := k) (by omega) hlt (C6 c32); exact ⟨_, ⟨q, c, [], ⟨by rw [hp]; rfl, by rw [hp]; exact hc, fun X hX => by rw [hp]; exact hX, .inl ⟨rfl, rfl, hp⟩⟩, rfl⟩, sbt⟩) | (have hp : nameF s l = l.take k ++ [s] ++ l.drop k := Dq (by omega) hlt (fun h => ⟨by first | exact c18 | (exfalso; omega), fun e => by first | exact c32 (by rw [e]) | (exfalso; omega)⟩); exact ⟨_, ⟨slQ d3, slC d3, slH d3 ((l.take k ++ [s] ++ l.drop k).flatMap encS) 9, ⟨by rw [hp]; rfl, by rw [hp]; exact D4 hd3, fun X _ => by rw [hp]; exact A1 (fun _ => rfl) hd3, .inr ⟨d3, [], [], rfl, rfl, by rw [hp]; exact hd3, by rw [hp]; simp⟩⟩, rfl⟩, sbt⟩)
 ·refine B6 (B6 (B6 (B6 (B6 (B6 (y_ (A9 (T U) Ak) (Af (Ae ?_)) U) U U U U) U U U U) U U U U) U U U U) U U U U) U U U U
  first | refine Br (Aa U) ?_ | refine Br (Ai (Aa U) (vbool (decide_eq_false c18))) ?_
  refine B2 (Ay (A2 (A3 (Ae (Ag (Ag (Ab (y_ (Ac (T U)) (y_ (Ac (T U)) (y_ (Bn (T U) runUnderlying25) (y_ (B1 (T U) (T U)) (y_ (Ac (T U)) ?_ U) U) U) U) U))))))))
  first | refine Cb (s := 25) (Aa U) (fun c25 => ?_) (fun c25 => ?_) | refine Cu (s := 25) (Aa U) (fun c25 => ?_) (fun c25 => ?_)
  ·refine Be (Ac (T U)) U (Ar U U (Aa U)) (Be (Ac (T U)) U (Ar U U (Aa U)) (Be (Bb (T U) (T U) runUnderlying25 sizeOf9 (by omega) (by first | exact rfl | exact hA.b (i := k) (by omega))) U (Ar U U (Aa U)) ?_))
   refine Be (Aj (T U) isAgg9 (by first | exact c_o | exact cell1 ((hA.mono sbt).cs (i := k) (by omega)))) U (Ar U U (Aa U)) ?_
   refine Be (Ac (T U)) U (Ar U U (Aa U)) (Be (D0 (T U) (T U)) U (Ar U U (Aa U)) (y_ (Az (T U) (T U)) (Af (Ae (Bl [(0, _), (1, _), (5, _), (32, _)] ⟨Aa U, Aa U, Aa U, Aa U, trivial⟩ ?_))) U))
   first | refine Ao (Aa U) (fun c32 => ?_) (fun c32 => ?_) | refine A5 (Aa U) (fun c32 => ?_) (fun c32 => ?_)
   ·refine Ag (Ab (y_ (Ac (T U)) (y_ (Ad (T U)) (Af (Ae (A7 (Ap (A8 U (.tmp (Aa U) .nil) ?_))))) U) U))
    first | (have hp : nameF s l = l := Dp (k := k) (by omega) hlt (C6 c32); exact ⟨_, ⟨q, c, [], ⟨by rw [hp]; rfl, by rw [hp]; exact hc, fun X hX => by rw [hp]; exact hX, .inl ⟨rfl, rfl, hp⟩⟩, rfl⟩, sbt⟩) | (have hp : nameF s l = l.take k ++ [s] ++ l.drop k := Dq (by omega) hlt (fun h => ⟨by first | exact c18 | (exfalso; omega), fun e => by first | exact c32 (by rw [e]) | (exfalso; omega)⟩); exact ⟨_, ⟨slQ d3, slC d3, slH d3 ((l.take k ++ [s] ++ l.drop k).flatMap encS) 9, ⟨by rw [hp]; rfl, by rw [hp]; exact D4 hd3, fun X _ => by rw [hp]; exact A1 (fun _ => rfl) hd3, .inr ⟨d3, [], [], rfl, rfl, by rw [hp]; exact hd3, by rw [hp]; simp⟩⟩, rfl⟩, sbt⟩)
   ·refine A4 (Ae (Ag (Ab (y_ (Ad Ak) (Af (Ae (Ag (Ab (y_ (Ac (T U)) (y_ (Ac (T U)) (y_ (Ac (T U)) (y_ (Df  (T U) (T U) runUnderlying25 sizeOf9 (by omega)) ?_ U) U) U) U))))) U))))
    refine e_ (C7 (l.take k) (by' := 16) (by first | exact (by simp; omega) | omega) (T U) (T U) runUnderlying25 runUnderlying25 sizeOf9 typeInfo9 U zeroValue9 U (fun _ => rfl) (fun _ => rfl) (by decide) (by simp; omega) ((hA.mono sbt).take k)) ?_ U
    rintro _ _ ⟨d1, rfl, hd1, rfl⟩
    refine y_ (Ad (T U)) (Af (Ae (Ag (Ab (y_ (Ac (T U)) (y_ (Ac (T U)) (e_ (Al (.cons (T U) .nil) (Cw _)) ?_ U) U) U))))) U
    rintro _ _ ⟨n41, rfl, rfl⟩
    refine e_ (B8 (s) (by' := 16) (enc := encS) (by repeat (first | exact LocL.h | apply LocL.t | apply LocL.a)) (T U) (T U) runUnderlying25 runUnderlying25 sizeOf9 typeInfo9 U zeroValue9 U (fun _ => rfl) U hd1 (by decide) (by simp; omega)) ?_ U
    rintro _ _ ⟨d2, rfl, hd2, rfl⟩
    refine y_ (Ad (T U)) (Af (Ae (Ag (Ab (y_ (Ac (T U)) (y_ (Ac (T U)) (y_ (Ac (T U)) (y_ (Dg  (T U) (T U) runUnderlying25 sizeOf9 (by omega)) ?_ U) U) U) U))))) U
    refine e_ (C9 (l.drop k) (by' := 16) (enc := encS) (by first | exact (by simp) | omega) (by repeat (first | exact LocL.h | apply LocL.t | apply LocL.a)) (T U) (T U) runUnderlying25 runUnderlying25 sizeOf9 typeInfo9 U zeroValue9 U (fun _ => rfl) (fun _ => rfl) hd2 (by decide) (by simp; omega) ((hA.mono sbt).drop hc k)) ?_ U
    rintro _ _ ⟨d3, rfl, hd3, rfl⟩
    refine y_ (Ad (T U)) (Af (Ae (A7 (A8 U (.tmp (Aa U) .nil) ?_)))) U
    first | (have hp : nameF s l = l := Dp (k := k) (by omega) hlt (C6 c32); exact ⟨_, ⟨q, c, [], ⟨by rw [hp]; rfl, by rw [hp]; exact hc, fun X hX => by rw [hp]; exact hX, .inl ⟨rfl, rfl, hp⟩⟩, rfl⟩, sbt⟩) | (have hp : nameF s l = l.take k ++ [s] ++ l.drop k := Dq (by omega) hlt (fun h => ⟨by first | exact c18 | (exfalso; omega), fun e => by first | exact c32 (by rw [e]) | (exfalso; omega)⟩); exact ⟨_, ⟨slQ d3, slC d3, slH d3 ((l.take k ++ [s] ++ l.drop k).flatMap encS) 9, ⟨by rw [hp]; rfl, by rw [hp]; exact D4 hd3, fun X _ => by rw [hp]; exact A1 (fun _ => rfl) hd3, .inr ⟨d3, [], [], rfl, rfl, by rw [hp]; exact hd3, by rw [hp]; simp⟩⟩, rfl⟩, sbt⟩)
  ·refine B6 (B6 (B6 (B6 (B6 (B6 (y_ (A9 (T U) Ak) (Af (Ae (Bl [(0, _), (1, _), (5, _), (32, _)] ⟨Aa U, Aa U, Aa U, Aa U, trivial⟩ ?_))) U) U U U U) U U U U) U U U U) U U U U) U U U U) U U U U
   first | refine Br (Aa U) ?_ | refine Br (Ai (Aa U) (vbool (decide_eq_false c32))) ?_
   refine A4 (Ae (Ag (Ab (y_ (Ad Ak) (Af (Ae (Ag (Ab (y_ (Ac (T U)) (y_ (Ac (T U)) (y_ (Ac (T U)) (y_ (Df  (T U) (T U) runUnderlying25 sizeOf9 (by omega)) ?_ U) U) U) U))))) U))))
   refine e_ (C7 (l.take k) (by' := 16) (by first | exact (by simp; omega) | omega) (T U) (T U) runUnderlying25 runUnderlying25 sizeOf9 typeInfo9 U zeroValue9 U (fun _ => rfl) (fun _ => rfl) (by decide) (by simp; omega) ((hA.mono sbt).take k)) ?_ U
   rintro _ _ ⟨d1, rfl, hd1, rfl⟩
   refine y_ (Ad (T U)) (Af (Ae (Ag (Ab (y_ (Ac (T U)) (y_ (Ac (T U)) (e_ (Al (.cons (T U) .nil) (Cw _)) ?_ U) U) U))))) U
   rintro _ _ ⟨n41, rfl, rfl⟩
   refine e_ (B8 (s) (by' := 16) (enc := encS) (by repeat (first | exact LocL.h | apply LocL.t | apply LocL.a)) (T U) (T U) runUnderlying25 runUnderlying25 sizeOf9 typeInfo9 U zeroValue9 U (fun _ => rfl) U hd1 (by decide) (by simp; omega)) ?_ U
   rintro _ _ ⟨d2, rfl, hd2, rfl⟩
   refine y_ (Ad (T U)) (Af (Ae (Ag (Ab (y_ (Ac (T U)) (y_ (Ac (T U)) (y_ (Ac (T U)) (y_ (Dg  (T U) (T U) runUnderlying25 sizeOf9 (by omega)) ?_ U) U) U) U))))) U
   refine e_ (C9 (l.drop k) (by' := 16) (enc := encS) (by first | exact (by simp) | omega) (by repeat (first | exact LocL.h | apply LocL.t | apply LocL.a)) (T U) (T U) runUnderlying25 runUnderlying25 sizeOf9 typeInfo9 U zeroValue9 U (fun _ => rfl) (fun _ => rfl) hd2 (by decide) (by simp; omega) ((hA.mono sbt).drop hc k)) ?_ U
   rintro _ _ ⟨d3, rfl, hd3, rfl⟩
   refine y_ (Ad (T U)) (Af (Ae (A7 (A8 U (.tmp (Aa U) .nil) ?_)))) U
   first | (have hp : nameF s l = l := Dp (k := k) (by omega) hlt (C6 c32); exact ⟨_, ⟨q, c, [], ⟨by rw [hp]; rfl, by rw [hp]; exact hc, fun X hX => by rw [hp]; exact hX, .inl ⟨rfl, rfl, hp⟩⟩, rfl⟩, sbt⟩) | (have hp : nameF s l = l.take k ++ [s] ++ l.drop k := Dq (by omega) hlt (fun h => ⟨by first | exact c18 | (exfalso; omega), fun e => by first | exact c32 (by rw [e]) | (exfalso; omega)⟩); exact ⟨_, ⟨slQ d3, slC d3, slH d3 ((l.take k ++ [s] ++ l.drop k).flatMap encS) 9, ⟨by rw [hp]; rfl, by rw [hp]; exact D4 hd3, fun X _ => by rw [hp]; exact A1 (fun _ => rfl) hd3, .inr ⟨d3, [], [], rfl, rfl, by rw [hp]; exact hd3, by rw [hp]; simp⟩⟩, rfl⟩, sbt⟩)
def LoS (w0 : World) (m : Rxm) : Prop := ∀ (H : List (Nat × Obj)) (l : List ByteArray) (q : Option Addr) (c : Nat), Arr w0 H q 1 encS l → l.length ≤ c → RxM w0 H m → l.length + m.sz ≤ 100000 → FSpec Tryz.prog w0 74 #[.slice q l.length c, .agg (encRx m).toArray] H (fun v H' => ∃ (q' : Option Addr) (c' : Nat) (M : List (Nat × Obj)), (v = .slice q' (ntR m l).length c' ∧ (ntR m l).length ≤ c' ∧ (∀ X, Arr w0 X q 1 encS l → Arr w0 (M ++ X) q' 1 encS (ntR m l)) ∧ OwnB q c l q' c' (ntR m l) M) ∧ H' = M ++ H)
theorem lo_step {w0 : World} {H : List (Nat × Obj)} (m : Rxm) (ih : ∀ a ∈ m.args, LoS w0 a) (l : List ByteArray) (q : Option Addr) (c : Nat) (hA : Arr w0 H q 1 encS l) (hc : l.length ≤ c) (hM : RxM w0 H m) (hz : l.length + m.sz ≤ 100000) :
  FSpec Tryz.prog w0 74 #[.slice q l.length c, .agg (encRx m).toArray] H (fun v H' => ∃ (q' : Option Addr) (c' : Nat) (M : List (Nat × Obj)), (v = .slice q' (ntR m l).length c' ∧ (ntR m l).length ≤ c' ∧ (∀ X, Arr w0 X q 1 encS l → Arr w0 (M ++ X) q' 1 encS (ntR m l)) ∧ OwnB q c l q' c' (ntR m l) M) ∧ H' = M ++ H) := by
 refine Bc Tryz.func74 U ntmps74 U ?_
 have hse := sz_eq m
 have hln := szL_len m.args
 have hX := hM.arr
 have h0l : (if m.kind = 2 then nameF m.node l else l).length ≤ l.length + 1 := by
  split
  ·exact nameF_len _ _
  ·omega
 have hkey : ∀ i, i ≤ m.args.length → (ntL (m.args.take i) (if m.kind = 2 then nameF m.node l else l)).length ≤ l.length + 1 + szL (m.args.take i) := fun i => by
  induction i with
  | zero => intro _; simpa [ntL, szL] using h0l
  | succ i ih2 =>
   intro h
   have h1 := ih2 (by omega)
   have h2 := ntR_len (gd m.args i) (ntL (m.args.take i) (if m.kind = 2 then nameF m.node l else l))
   rw [ntL_take (by omega), szL_take (by omega)]; omega
 refine Ag (Ab (e_ (Bj (T U) cs_) ?_ U))
 rintro _ _ ⟨n3, rfl, rfl⟩
 refine y_ (Ad Ak) (Af (Ae ?_)) U
 refine Du (X := Option Addr × Nat × List (Nat × Obj)) (V := fun ⟨g1, g2, g3⟩ => [(0, .slice g1 (if m.kind = 2 then nameF m.node l else l).length g2)]) (C := [(3, _)]) (G := fun ⟨g1, g2, g3⟩ => g3 ++ ((n3, Cl (encRx m) 24) :: H)) (φ := fun ⟨g1, g2, g3⟩ => (if m.kind = 2 then nameF m.node l else l).length ≤ g2 ∧ (∀ X, Arr w0 X q 1 encS l → Arr w0 (g3 ++ X) g1 1 encS (if m.kind = 2 then nameF m.node l else l)) ∧ OwnB q c l g1 g2 (if m.kind = 2 then nameF m.node l else l) g3) ⟨Aa rfl, trivial⟩ ?_ ?_
 ·refine Ag (Ab (y_ (Bm (T U) Dk) (y_ (Aj (T U) isAgg3 (by first | exact c_o)) ?_ U) U))
  refine y_ (By (T U) Ak) (Af (Ae ?_)) U
  first | refine Ao (Aa U) (fun c8 => ?_) (fun c8 => ?_) | refine A5 (Aa U) (fun c8 => ?_) (fun c8 => ?_)
  ·have h0e : (if m.kind = 2 then nameF m.node l else l) = nameF m.node l := if_pos c8
   refine Ab (y_ (Ac (T U)) (y_ (Bg (T U) fa24_1) (y_ (Aj (T U) isAgg9 (by first | exact c_o)) ?_ U) U) U)
   refine e_ (Au (.cons (T U) (.cons (T U) .nil)) call121 (name_o l q c (hA.mono sbt) hc (by omega) m.node)) ?_ U
   rintro _ _ ⟨q2, c2, M2, ⟨rfl, hc2, hA2, hO2⟩, rfl⟩
   refine y_ (Ad (T U)) (Af ?_) U
   refine Bp ((q2, c2, M2)) ?_ ⟨(by first | exact Aa U | (refine Ai (Aa U) (vint ?_); omega) | (refine Ai (Aa U) ?_; simp; done) | (refine Ai (Aa U) ?_; exact by rw [hlt]) | (refine Ai (Aa U) ?_; exact by simp only [h0e])), trivial⟩ ⟨Aa U, trivial⟩ sbt
   first | exact ⟨by rw [h0e]; exact hc2, fun X hX => by rw [h0e]; exact hA2 X hX, by rw [h0e]; exact hO2⟩ | exact ⟨by rw [h0e]; exact hc, fun X hX => by rw [h0e]; exact hX, by rw [h0e]; exact .inl ⟨rfl, rfl, rfl⟩⟩
  ·have h0e : (if m.kind = 2 then nameF m.node l else l) = l := if_neg c8
   refine A4 ?_
   refine Bp ((q, c, [])) ?_ ⟨(by first | exact Aa U | (refine Ai (Aa U) (vint ?_); omega) | (refine Ai (Aa U) ?_; simp; done) | (refine Ai (Aa U) ?_; exact by rw [hlt]) | (refine Ai (Aa U) ?_; exact by simp only [h0e])), trivial⟩ ⟨Aa U, trivial⟩ sbt
   first | exact ⟨by rw [h0e]; exact hc2, fun X hX => by rw [h0e]; exact hA2 X hX, by rw [h0e]; exact hO2⟩ | exact ⟨by rw [h0e]; exact hc, fun X hX => by rw [h0e]; exact hX, by rw [h0e]; exact .inl ⟨rfl, rfl, rfl⟩⟩
 rintro ⟨g1, g2, g3⟩ ⟨hg1, hg2, hgO⟩
 refine Ag (Ag (Ab (y_ (Ad Ak) (Af (Ae (Aw ?_))) U)))
 refine Cd (X := Nat × Option Addr × Nat × List (Nat × Obj)) (V := fun ⟨i, q1, c1, M⟩ => [(5, .int .i64 (i : Nat)), (0, .slice q1 (ntL (m.args.take i) (if m.kind = 2 then nameF m.node l else l)).length c1)]) (C := [(3, _)]) (G := fun ⟨i, q1, c1, M⟩ => M ++ ((n3, Cl (encRx m) 24) :: H)) (φ := fun ⟨i, q1, c1, M⟩ => i ≤ m.args.length ∧ (ntL (m.args.take i) (if m.kind = 2 then nameF m.node l else l)).length ≤ c1 ∧ (∀ X, Arr w0 X q 1 encS l → Arr w0 (M ++ X) q1 1 encS (ntL (m.args.take i) (if m.kind = 2 then nameF m.node l else l))) ∧ OwnB q c l q1 c1 (ntL (m.args.take i) (if m.kind = 2 then nameF m.node l else l)) M) (μ := fun ⟨i, q1, c1, M⟩ => m.args.length - i) (x0 := (0, g1, g2, g3)) ?_ ⟨Aa rfl, trivial⟩ ⟨(by first | exact Aa rfl | (refine Ai (Aa rfl) (vint ?_); omega) | (refine Ai (Aa rfl) ?_; simp; done) | (refine Ai (Aa rfl) ?_; exact by rw [hlt]) | (refine Ai (Aa rfl) ?_; exact by simp only [h0e])), (by first | exact Aa rfl | (refine Ai (Aa rfl) (vint ?_); omega) | (refine Ai (Aa rfl) ?_; simp; done) | (refine Ai (Aa rfl) ?_; exact by rw [hlt]) | (refine Ai (Aa rfl) ?_; exact by simp only [h0e])), trivial⟩ sb0 ?_
 ·exact ⟨Nat.zero_le _, hg1, hg2, hgO⟩
 rintro ⟨i, q1, c1, M⟩ ⟨hi, hc1, hA1, hO1⟩
 refine Ag (Ag (Ab (y_ (Ac (T U)) (y_ (Bg (T U) C8) (y_ (Aj (T U) isAgg22 (by first | exact c_o)) ?_ U) U) U)))
 refine y_ (Bn (T U) runUnderlying22) (y_ (B1 (T U) (T U)) (Af (Ae ?_)) U) U
 first | refine Ao (Aa U) (fun c17 => ?_) (fun c17 => ?_) | refine A5 (Aa U) (fun c17 => ?_) (fun c17 => ?_)
 ·refine A4 (Ae (Ag (Aw (Ab (y_ (Ac (T U)) (y_ (Bg (T U) C8) (y_ (Aj (T U) isAgg22 (by first | exact c_o)) ?_ U) U) U)))))
  refine y_ (Ac (T U)) (y_ (Bb (T U) (T U) runUnderlying22 sizeOf24 (by omega) (by first | exact rfl | exact hX.b (i := i) (by omega))) ?_ U) U
  refine y_ (Am (T U) isAgg24 sizeOf24 U (by first | exact (hX.mono sbt).cs (i := i) (by omega) | exact Bf)) ?_ U
  refine e_ (Au (.cons (T U) (.cons (T U) .nil)) call74 (ih _ (Ax (by omega)) _ _ q1 c1 ((hA1 _ hA).mono sbt) hc1 ((hM.arg (Ax (i := i) (by omega))).mono sbt) (by have h1 := hkey i (by omega); have h2 := Eb m.args (i + 1); rw [szL_take (by omega)] at h2; omega))) ?_ U
  rintro _ _ ⟨q2, c2, M2, ⟨rfl, hc2, hA2, hO2⟩, rfl⟩
  refine y_ (Ad (T U)) (Af (Bi (Ae (Ab (y_ (Ac (T U)) (y_ (Bt (T U) Ak (by omega)) ?_ U) U))))) U
  refine y_ (Ad (T U)) (Af ?_) U
  have hlt := ntL_take (xs := m.args) (i := i) (by omega) (if m.kind = 2 then nameF m.node l else l)
  refine Bk ((i + 1, q2, c2, M2 ++ M)) ?_ ?_ ⟨(by first | exact Aa U | (refine Ai (Aa U) (vint ?_); omega) | (refine Ai (Aa U) ?_; simp; done) | (refine Ai (Aa U) ?_; exact by rw [hlt]) | (refine Ai (Aa U) ?_; exact by simp only [h0e])), (by first | exact Aa U | (refine Ai (Aa U) (vint ?_); omega) | (refine Ai (Aa U) ?_; simp; done) | (refine Ai (Aa U) ?_; exact by rw [hlt]) | (refine Ai (Aa U) ?_; exact by simp only [h0e])), trivial⟩ ⟨Aa U, trivial⟩ ?_
  ·exact ⟨by omega, by rw [hlt]; exact hc2, fun X hX => by rw [hlt, List.append_assoc]; exact hA2 _ (hA1 X hX), by rw [hlt]; exact hO1.trans hO2⟩
  ·first | omega | (simp only []; omega)
  ·show (M2 ++ M ++ _).Sublist _; rw [List.append_assoc]; exact sbt
 ·refine B2 (Ay (A2 (A3 (Ae (Ag (Ab (y_ (Ac (T U)) (y_ (Ad (T U)) (Af (Ae (A7 (A8 U (.tmp (Aa U) .nil) ?_)))) U) U)))))))
  have hi2 : m.args.take i = m.args := List.take_of_length_le (by omega)
  rw [hi2] at hc1 hA1 hO1 ⊢
  rw [ntR_eq]
  exact ⟨_, ⟨q1, c1, M, ⟨rfl, hc1, hA1, hO1⟩, rfl⟩, sbt⟩
theorem lo_s {w0 : World} : ∀ m : Rxm, LoS w0 m := rx_ind (Q := LoS w0) fun m ih H l q c hA hc hM hz => lo_step m ih l q c hA hc hM hz
end Go.Proofs.YtkdolgnpkjihpaaGreatDoor
namespace Go.Proofs.YtkdolgnpkjihpaaGreatDoor
open _root_.Go.Proofs.Tryz
open Go.RowKit
set_option linter.unusedVariables false
set_option linter.unusedSimpArgs false
theorem oth_not {names : List ByteArray} (h : names.length < 100) : otherF names ∉ names := by
 intro hm
 have hm2 : toL (otherF names) ∈ names.map toL := List.mem_map_of_mem hm
 unfold otherF othN at hm2
 cases hf : (List.range 100).findSome? (fun k => if toL (othK k) ∈ names.map toL then none else some k) with
 | none =>
  have h1 := List.findSome?_eq_none_iff.1 hf
  have := oth_few (names := names) (k := 100) (Nat.le_refl _) fun j hj => by
   have h2 := h1 j (by simpa using hj)
   by_cases h3 : toL (othK j) ∈ names.map toL
   ·exact h3
   ·rw [if_neg h3] at h2; cases h2
  omega
 | some k =>
  rw [hf] at hm2
  obtain ⟨a, _, ha⟩ := List.exists_of_findSome?_eq_some hf
  by_cases h3 : toL (othK a) ∈ names.map toL
  ·rw [if_pos h3] at ha; cases ha
  ·rw [if_neg h3] at ha
   obtain rfl : a = k := Option.some.inj ha
   exact h3 hm2
theorem lett_not {names : List ByteArray} {s : ByteArray} (h : s ∉ names) : lett names s = names.length := by
 unfold lett
 rw [if_neg]
 rintro ⟨h1, h2⟩
 exact h (C6 h2 ▸ Ax h1)
open Classical in
noncomputable def toA (all : List ByteArray) (o s : ByteArray) : ByteArray := if s ∈ all then s else o
theorem after_toA {m : PM} {all : List ByteArray} {o : ByteArray} (hm : ∀ x ∈ m.names, x ∈ all) (ho : o ∉ all) (st : Nat) (s : ByteArray) : afterF m st (toA all o s) = afterF m st s := by
 unfold toA
 by_cases h : s ∈ all
 ·rw [if_pos h]
 ·rw [if_neg h]
  unfold afterF
  rw [lett_not (fun h2 => h (hm _ h2)), lett_not (fun h2 => ho (hm _ h2))]
theorem run_toA {m : PM} {all : List ByteArray} {o : ByteArray} (hm : ∀ x ∈ m.names, x ∈ all) (ho : o ∉ all) (l : List ByteArray) : runM m (l.map (toA all o)) = runM m l := by
 unfold runM
 suffices ∀ st, (l.map (toA all o)).foldl (afterF m) st = l.foldl (afterF m) st from this 0
 induction l with
 | nil => intro st; rfl
 | cons s l ih => intro st; rw [List.map_cons, List.foldl_cons, List.foldl_cons, after_toA hm ho]; exact ih _
theorem chnE_run {A B : PM} {all ls : List ByteArray} {q : Pl} (h : Chn (stepsF A B all) (0, 0) ls q) : q = (runM A ls, runM B ls) := by
 induction h with
 | nil => rfl
 | snoc hc hm ih =>
  unfold stepsF at hm
  obtain ⟨s', _, e⟩ := List.mem_map.1 hm
  obtain ⟨rfl, rfl⟩ := Prod.mk.inj e
  rw [ih, runM_snoc, runM_snoc]
theorem chnE_of {A B : PM} {all : List ByteArray} : ∀ {ls : List ByteArray}, (∀ s ∈ ls, s ∈ all) → Chn (stepsF A B all) (0, 0) ls (runM A ls, runM B ls) := by
 intro ls
 suffices ∀ n, ∀ ls : List ByteArray, ls.length = n → (∀ s ∈ ls, s ∈ all) → Chn (stepsF A B all) (0, 0) ls (runM A ls, runM B ls) from this _ ls U
 intro n
 induction n with
 | zero => intro ls hl _; have : ls = [] := List.eq_nil_of_length_eq_zero hl; subst this; exact .nil
 | succ n ih =>
  intro ls hl h
  rcases List.eq_nil_or_concat ls with rfl | ⟨l, s, rfl⟩
  ·simp at hl
  ·rw [List.concat_eq_append] at *
   rw [runM_snoc, runM_snoc]
   refine .snoc (ih l (by simpa using hl) fun x hx => h x (by simp [hx])) ?_
   unfold stepsF
   exact List.mem_map.2 ⟨s, h s (by simp), rfl⟩
def rkA (l : List ByteArray) (s : ByteArray) : Nat := (l.map toL).idxOf (toL s)
theorem idx_pw {l : List ByteArray} (h : l.Nodup) : l.Pairwise fun a b => rkA l a < rkA l b := by
 have hn : (l.map toL).Nodup := by
  rw [List.Nodup, List.pairwise_map]
  exact h.imp fun {a b} hab e => hab (C6 e)
 rw [List.pairwise_iff_getElem]
 intro i j hi hj hij
 have e : ∀ (i : Nat) (hi : i < l.length), rkA l l[i] = i := fun i hi => by
  unfold rkA
  have := hn.idxOf_getElem i (by simpa using hi)
  rw [List.getElem_map] at this; exact this
 rw [e i hi, e j hj]; exact hij
theorem srt_nodup {l : List ByteArray} (h : Srt l) : l.Nodup := h.imp fun {a b} hab e => by subst e; exact absurd hab (ltU_irrefl _)
theorem all_nodup {a b : Re} (h : (Re.alt a b).lv ≤ 64) : (allF a b).Nodup := by
 unfold allF
 rw [List.nodup_append]
 have := letF_few h
 refine ⟨srt_nodup (letF_srt _), by simp, fun x hx y hy e => ?_⟩
 simp at hy; subst hy; subst e
 exact oth_not (by omega) hx
theorem equal_sem {a b : Re} (hab : (Re.alt a b).lv ≤ 64) (h0 : (equalF a b).2.2 = 0) :
  ((equalF a b).2.1 = true → (equalF a b).1 = [] ∧ ∀ l, matchF a l = matchF b l) ∧ ((equalF a b).2.1 = false → matchF a (equalF a b).1 ≠ matchF b (equalF a b).1 ∧ (∀ l, matchF a l ≠ matchF b l → (equalF a b).1.length ≤ l.length)) := by
 have hlv : (Re.alt a b).lv = a.lv + b.lv := rfl
 have hla : a.lv ≤ 64 := by omega
 have hlb : b.lv ≤ 64 := by omega
 by_cases hok : (buildF leastF a).2 = 0 ∧ (buildF leastF b).2 = 0
 ·obtain ⟨h1, h2⟩ := hok
  obtain ⟨pa, sa⟩ := C3 hla h1
  obtain ⟨pb, sb⟩ := C3 hlb h2
  have hal := letF_few hab
  have hoth := oth_not (names := letF (.alt a b)) (by omega)
  have hna : ∀ x ∈ (buildF leastF a).1.names, x ∈ letF (.alt a b) := fun x hx => by
   rw [build_names h1, Dn] at hx; rw [Dn]; simp [Re.nms, hx]
  have hnb : ∀ x ∈ (buildF leastF b).1.names, x ∈ letF (.alt a b) := fun x hx => by
   rw [build_names h2, Dn] at hx; rw [Dn]; simp [Re.nms, hx]
  have hdif : ∀ l, difF (buildF leastF a).1 (buildF leastF b).1 (runM (buildF leastF a).1 l, runM (buildF leastF b).1 l) = (matchF a l != matchF b l) := fun l => by
   unfold difF; simp only []; rw [build_acc hla h1, build_acc hlb h2]
  have hany : ∀ l : List ByteArray, Chn (stepsF (buildF leastF a).1 (buildF leastF b).1 (allF a b)) (0, 0) (l.map (toA (letF (.alt a b)) (otherF (letF (.alt a b))))) (runM (buildF leastF a).1 l, runM (buildF leastF b).1 l) := fun l => by
   have := chnE_of (A := (buildF leastF a).1) (B := (buildF leastF b).1) (all := allF a b) (ls := l.map (toA (letF (.alt a b)) (otherF (letF (.alt a b))))) fun s hs => by
    obtain ⟨x, _, rfl⟩ := List.mem_map.1 hs
    unfold toA allF
    by_cases hx : x ∈ letF (.alt a b)
    ·rw [if_pos hx]; simp [hx]
    ·rw [if_neg hx]; simp
   rwa [run_toA hna hoth, run_toA hnb hoth] at this
  have he : equalF a b = ((eqR a b).1, !(eqR a b).2.1, 0) := if_pos ⟨h1, h2⟩
  have hts := fun p hp => steps_ok pa pb (allF a b) p hp
  have hr : ∀ p, DuOk (buildF leastF a).1 (buildF leastF b).1 p → (stepsF (buildF leastF a).1 (buildF leastF b).1 (allF a b) p).Pairwise fun x y => rkA (allF a b) x.2 < rkA (allF a b) y.2 := fun p _ => by
   unfold stepsF; rw [List.pairwise_map]; exact idx_pw (all_nodup hab)
  have hN : ∀ l : List Pl, l.Nodup → (∀ p ∈ l, DuOk (buildF leastF a).1 (buildF leastF b).1 p) → l.length ≤ (buildF leastF a).1.next.length * (buildF leastF b).1.next.length := fun l g1 g2 => grid_few g1 g2
  have hp0 : DuOk (buildF leastF a).1 (buildF leastF b).1 (0, 0) := ⟨pa.some', pb.some'⟩
  rw [he]
  simp only [Bool.not_eq_true', Bool.not_eq_false']
  refine ⟨fun hs => ?_, fun hs => ?_⟩
  ·obtain ⟨g1, _, g3⟩ := srF_no (rk := rkA (allF a b)) hts hr hN (difF (buildF leastF a).1 (buildF leastF b).1) hp0 hs
   refine ⟨g1, fun l => ?_⟩
   have := g3 _ _ (hany l)
   rw [hdif] at this
   simpa using this
  ·obtain ⟨⟨q, g1, g2⟩, g3⟩ := srF_yes (rk := rkA (allF a b)) hts hr hN (difF (buildF leastF a).1 (buildF leastF b).1) hp0 hs
   have hq := chnE_run g1
   refine ⟨?_, fun l hl => ?_⟩
   ·rw [hq, hdif] at g2
    simpa [eqR] using g2
   ·have := leL_len (g3 _ _ (hany l) (by rw [hdif]; simpa using hl))
    simpa [eqR] using this
 ·have he : equalF a b = ([], false, 2) := if_neg hok
  rw [he] at h0; cases h0
end Go.Proofs.YtkdolgnpkjihpaaGreatDoor
namespace Go.Proofs.YtkdolgnpkjihpaaGreatDoor
open _root_.Go.Proofs.Tryz
open Go.RowKit
set_option linter.unusedVariables false
set_option linter.unusedSimpArgs false
theorem bd121_0_1 (a0 : Int) (a1 : Int) (w : World) : (Instr.build 121 #[(0, .int .i64 a0), (1, .int .i64 a1)]).run Tryz.prog w = .ok (.agg #[.int .i64 a0, .int .i64 a1, .slice none 0 0]) w := by kernel_rfl
theorem bd121_z  (w : World) : (Instr.build 121 #[]).run Tryz.prog w = .ok (.agg #[.int .i64 0, .int .i64 0, .slice none 0 0]) w := by kernel_rfl
theorem bs122_1_0 (a0 : Int) (a1 : Int) (a2 : Option Addr) (a2n a2c : Nat) (w : World) : (Instr.buildSlice 122 1 #[(0, .agg #[.int .i64 a0, .int .i64 a1, .slice a2 a2n a2c])]).run Tryz.prog w = .ok (.slice (some ⟨w.heap.size, 0, none⟩) 1 1) (w.alloc (Cl [.int .i64 a0, .int .i64 a1, .slice a2 a2n a2c] 121)) := by kernel_rfl
theorem fa121_0 (b o : Nat) (w : World) : (Instr.fieldAt 121 (.pointer (some ⟨b, o, none⟩)) 0).run Tryz.prog w = .ok (.pointer (some ⟨b, o, none⟩)) w := by kernel_rfl
theorem fa121_1 (b o : Nat) (w : World) : (Instr.fieldAt 121 (.pointer (some ⟨b, o, none⟩)) 1).run Tryz.prog w = .ok (.pointer (some ⟨b, o + 1, none⟩)) w := by kernel_rfl
theorem fa121_2 (b o : Nat) (w : World) : (Instr.fieldAt 121 (.pointer (some ⟨b, o, none⟩)) 2).run Tryz.prog w = .ok (.pointer (some ⟨b, o + 2, none⟩)) w := by kernel_rfl
theorem own_nil {q' : Option Addr} {c' : Nat} {l' : List ByteArray} {M : List (Nat × Obj)} (h : OwnB none 0 [] q' c' l' M) : ∃ (d : Sl) (A B : List (Nat × Obj)), q' = slQ d ∧ c' = slC d ∧ SlOk d l'.length 1 ∧ M = A ++ (slH d (l'.flatMap encS) 9 ++ B) := by
 rcases h with ⟨rfl, rfl, rfl⟩ | h
 ·exact ⟨.nil, M, [], rfl, rfl, rfl, by simp [slH]⟩
 ·exact h
theorem arr_none {w0 : World} {X : List (Nat × Obj)} {q : Option Addr} {sz : Nat} {α : Type} {enc : α → List Value} : Arr w0 X q sz enc [] := fun i x h => by cases h
theorem lo2_s {w0 : World} {H M1 : List (Nat × Obj)} {q1 : Option Addr} {c1 : Nat} {m1 m2 : Rxm} {ea eb : Re} (hIa : Is m1 ea) (hIb : Is m2 eb) (hO1 : OwnB none 0 [] q1 c1 (ntR m1 []) M1) (hc : (ntR m1 []).length ≤ c1) (hA : ∀ X, Arr w0 X none 1 encS [] → Arr w0 (M1 ++ X) q1 1 encS (ntR m1 [])) (hM : RxM w0 (M1 ++ H) m2) (hz : m1.sz + m2.sz ≤ 100000) :
  FSpec Tryz.prog w0 74 #[.slice q1 (ntR m1 []).length c1, .agg (encRx m2).toArray] (M1 ++ H) (fun v H' => ∃ (d : Sl) (A B : List (Nat × Obj)), (v = slV d (letF (.alt ea eb)).length ∧ SlOk d (letF (.alt ea eb)).length 1) ∧ H' = A ++ (slH d ((letF (.alt ea eb)).flatMap encS) 9 ++ (B ++ H))) := by
 have h1 := ntR_len m1 []
 refine (lo_s m2 (M1 ++ H) (ntR m1 []) q1 c1 (hA _ arr_none) hc hM (by simp only [List.length_nil] at h1; omega)).mono ?_
 rintro _ _ ⟨q2, c2, M2, ⟨rfl, hc2, hA2, hO2⟩, rfl⟩
 obtain ⟨d, A, B, e1, e2, e3, e4⟩ := own_nil (hO1.trans hO2)
 rw [ntR_two hIa hIb] at *
 subst e1; subst e2
 refine ⟨d, A, B, ⟨rfl, e3⟩, ?_⟩
 rw [← List.append_assoc, e4]; simp
theorem VsOk.arr {w0 : World} {M X : List (Nat × Obj)} {vs : List Vs} {d : Sl} {st : BS ByteArray} (h : VsOk w0 M vs d st) : Arr w0 (slH d (vs.flatMap encVs) 121 ++ X) (slQ d) 3 encVs vs := A1 (fun _ => rfl) h.ok
theorem VsOk.old {w0 : World} {M : List (Nat × Obj)} {vs : List Vs} {d : Sl} {st : BS ByteArray} (h : VsOk w0 M vs d st) {k : Nat} {x : Pl × ByteArray} (hx : x.1 ∈ st.l) : VsOk w0 M vs d (visF k st x) := ⟨h.ok, h.vr.old (Pd := fun _ => True) (k' := 0) hx, h.pa⟩
theorem VsOk.new {w0 : World} {M M' : List (Nat × Obj)} {vs : List Vs} {d d' : Sl} {st : BS ByteArray} (h : VsOk w0 M vs d st) {Pd : Pl → Prop} {k k' : Nat} (hb : BSok Pd k' st) (hk : k < st.l.length) {x : Pl × ByteArray} (hx : x.1 ∉ st.l) {q : Option Addr} {c : Nat} (hd : SlOk d' (vs ++ [(⟨x.1, q, c, (gd vs k).l ++ [x.2]⟩ : Vs)]).length 3) (hs : M.Sublist M') (hA : ∀ X, Arr w0 (M' ++ X) q 1 encS ((gd vs k).l ++ [x.2])) : VsOk w0 M' (vs ++ [(⟨x.1, q, c, (gd vs k).l ++ [x.2]⟩ : Vs)]) d' (visF k st x) :=
 ⟨hd, h.vr.new (Pd := Pd) (k' := k') hb hk hx q c, fun u hu X => by
  rcases List.mem_append.1 hu with hu | hu
  ·exact (h.pa u hu X).mono (hs.append (List.Sublist.refl _))
  ·simp at hu; subst hu; exact hA X⟩
theorem eqR_yes {a b : Re} {k : Nat} {st : BS ByteArray} {f : Nat} (h0 : (buildF leastF a).2 = 0 ∧ (buildF leastF b).2 = 0) (h : goF (stepsF (buildF leastF a).1 (buildF leastF b).1 (allF a b)) (difF (buildF leastF a).1 (buildF leastF b).1) ((buildF leastF a).1.next.length * (buildF leastF b).1.next.length + 1) 0 ⟨[(0, 0)], [(-1, default)]⟩ = goF (stepsF (buildF leastF a).1 (buildF leastF b).1 (allF a b)) (difF (buildF leastF a).1 (buildF leastF b).1) (f + 1) k st) (hk : k < st.l.length) (hd : difF (buildF leastF a).1 (buildF leastF b).1 (gd st.l k) = true) : equalF a b = (pth st.w k, false, 0) := by
 rw [show equalF a b = ((eqR a b).1, !(eqR a b).2.1, 0) from if_pos h0]
 unfold eqR srF
 rw [h, goF_succ, if_pos hk, if_pos hd]; rfl
theorem eqR_no {a b : Re} {k : Nat} {st : BS ByteArray} {f : Nat} (h0 : (buildF leastF a).2 = 0 ∧ (buildF leastF b).2 = 0) (h : goF (stepsF (buildF leastF a).1 (buildF leastF b).1 (allF a b)) (difF (buildF leastF a).1 (buildF leastF b).1) ((buildF leastF a).1.next.length * (buildF leastF b).1.next.length + 1) 0 ⟨[(0, 0)], [(-1, default)]⟩ = goF (stepsF (buildF leastF a).1 (buildF leastF b).1 (allF a b)) (difF (buildF leastF a).1 (buildF leastF b).1) (f + 1) k st) (hk : ¬ k < st.l.length) : equalF a b = ([], true, 0) := by
 rw [show equalF a b = ((eqR a b).1, !(eqR a b).2.1, 0) from if_pos h0]
 unfold eqR srF
 rw [h, goF_succ, if_neg hk]; rfl
theorem requal_s {w0 : World} {H : List (Nat × Obj)} (m1 m2 : Rxm) (ea eb : Re) (hIa : Is m1 ea) (hIb : Is m2 eb) (hMa : RxM w0 H m1) (hMb : RxM w0 H m2) (hla : ea.lv ≤ 32) (hlb : eb.lv ≤ 32) (hza : m1.sz ≤ 40) (hzb : m2.sz ≤ 40) :
  FSpec Tryz.prog w0 24 #[.agg (encRx m1).toArray, .agg (encRx m2).toArray] H (fun v H' => ∃ (q : Option Addr) (c : Nat) (M : List (Nat × Obj)), (v = .tuple #[.slice q (equalF ea eb).1.length c, .bool (equalF ea eb).2.1, .int .i64 (equalF ea eb).2.2] ∧ Arr w0 (M ++ H) q 1 encS (equalF ea eb).1 ∧ (equalF ea eb).1.length ≤ 50000) ∧ H' = M ++ H) := by
 refine Bc Tryz.func24 U ntmps24 U ?_
 have hla2 : ea.lv ≤ 64 := by omega
 have hlb2 : eb.lv ≤ 64 := by omega
 have hlab : (Re.alt ea eb).lv ≤ 64 := by simp only [Re.lv]; omega
 have hln := letF_few hlab
 refine Ag (Ab (e_ (Bj (T U) cs_) ?_ U))
 rintro _ _ ⟨n2, rfl, rfl⟩
 refine e_ (Bj (T U) cs_) ?_ U
 rintro _ _ ⟨n3, rfl, rfl⟩
 refine y_ (Ad Ak) (y_ (Ad Ak) (y_ (Ad Ak) (Af (Ae (Ag (Ab (y_ (Am (T U) isAgg24 sizeOf24 U (by first | exact Bf)) ?_ U))))) U) U) U
 refine e_ (Au (.cons (T U) .nil) call13 (rbuild_s m1 ea hIa (hMa.mono sbt) hla2 (by omega))) ?_ U
 rintro _ _ ⟨ma, BM1, ⟨rfl, hma, hpla⟩, rfl⟩
 refine y_ (Ac (T U)) (y_ (Ba (T U) U) (y_ (Ba (T U) U) (e_ (Aq zeroValue29 cs_) ?_ U) U) U) U
 rintro _ _ ⟨n7, rfl, rfl⟩
 first | refine A6 (As (T U) (T U) sizeOf29) U Ah ?_
 rintro _ _ ⟨rfl, rfl⟩
 refine y_ (Ad (T U)) (Af (Ae (Ag (Ab (y_ (Am (T U) isAgg24 sizeOf24 U (by first | exact Bf)) ?_ U))))) U
 refine e_ (Au (.cons (T U) .nil) call13 (rbuild_s m2 eb hIb (hMb.mono sbt) hlb2 (by omega))) ?_ U
 rintro _ _ ⟨mb, BM2, ⟨rfl, hmb, hplb⟩, rfl⟩
 refine y_ (Ac (T U)) (y_ (Ba (T U) U) (y_ (Ba (T U) U) (e_ (Aq zeroValue29 cs_) ?_ U) U) U) U
 rintro _ _ ⟨n9, rfl, rfl⟩
 first | refine A6 (As (T U) (T U) sizeOf29) U Ah ?_
 rintro _ _ ⟨rfl, rfl⟩
 refine y_ (Ad (T U)) (Af (Ae (Ag (Ag (Ab (y_ (Ac (T U)) (y_ (Cy (T U) Ak) (y_ (Ac (T U)) ?_ U) U) U)))))) U
 first | refine Cb (s := 30) (Aa U) (fun c30 => ?_) (fun c30 => ?_) | refine Cu (s := 30) (Aa U) (fun c30 => ?_) (fun c30 => ?_)
 ·have hbad : ¬ ((buildF leastF ea).2 = 0 ∧ (buildF leastF eb).2 = 0) := fun h => c30 h.1
  refine Cv (Cv (y_ (Az (T U) Ak) (Af (Ae (Bl [(2, _), (3, _), (7, _), (9, _), (33, _)] ⟨Aa U, Aa U, Aa U, Aa U, Aa U, trivial⟩ ?_))) U) U U U U) U U U U
  first | refine Bx (Aa U) ?_ | refine Bx (Ai (Aa U) (vbool (decide_eq_true c33))) ?_
  refine Ag (Ab (y_ (Ad Ak) (y_ (Ad Ak) (y_ (Ad Ak) (Af (Ae (A7 (Ap (A8 U (.tmp (Aa U) (.tmp (Aa U) (.tmp (Aa U) .nil))) ?_))))) U) U) U))
  have he : equalF ea eb = ([], false, 2) := if_neg hbad
  rw [he]; exact ⟨_, ⟨none, 0, [], ⟨rfl, arr_none, Nat.zero_le _⟩, rfl⟩, sbt⟩
 ·refine Be (Ac (T U)) U (Ar U U (Aa U)) (Be (Cy (T U) Ak) U (Ar U U (Aa U)) (y_ (A9 (T U) (T U)) (Af (Ae (Bl [(2, _), (3, _), (7, _), (9, _), (33, _)] ⟨Aa U, Aa U, Aa U, Aa U, Aa U, trivial⟩ ?_))) U))
  first | refine Ao (Aa U) (fun c33 => ?_) (fun c33 => ?_) | refine A5 (Aa U) (fun c33 => ?_) (fun c33 => ?_)
  ·have hbad : ¬ ((buildF leastF ea).2 = 0 ∧ (buildF leastF eb).2 = 0) := fun h => by first | exact c30 h.1 | exact c33 h.2
   refine Ag (Ab (y_ (Ad Ak) (y_ (Ad Ak) (y_ (Ad Ak) (Af (Ae (A7 (Ap (A8 U (.tmp (Aa U) (.tmp (Aa U) (.tmp (Aa U) .nil))) ?_))))) U) U) U))
   have he : equalF ea eb = ([], false, 2) := if_neg hbad
   rw [he]; exact ⟨_, ⟨none, 0, [], ⟨rfl, arr_none, Nat.zero_le _⟩, rfl⟩, sbt⟩
  ·have hea : (buildF leastF ea).2 = 0 := Classical.not_not.1 c30
   have heb : (buildF leastF eb).2 = 0 := Classical.not_not.1 c33
   obtain ⟨hpa0, hsa0⟩ := C3 hla2 hea
   obtain ⟨hpb0, hsb0⟩ := C3 hlb2 heb
   have hsa : Srt ma.names := by rw [show ma.names = ma.pl.names from rfl, hpla]; exact hsa0
   have hsb : Srt mb.names := by rw [show mb.names = mb.pl.names from rfl, hplb]; exact hsb0
   have hpa : PMok ma.pl := by rw [hpla]; exact hpa0
   have hpb : PMok mb.pl := by rw [hplb]; exact hpb0
   have hlna : ma.names.length ≤ 4611686018427387903 := by rw [show ma.names = ma.pl.names from rfl, hpla, build_names hea]; have := letF_few hla2; omega
   have hlnb : mb.names.length ≤ 4611686018427387903 := by rw [show mb.names = mb.pl.names from rfl, hplb, build_names heb]; have := letF_few hlb2; omega
   have hra : ma.pl.next.length = ma.rows.length := List.length_map ..
   have hrb : mb.pl.next.length = mb.rows.length := List.length_map ..
   have hts := fun p hp => steps_ok hpa0 hpb0 (allF ea eb) p hp
   have hNE : ((buildF leastF ea).1.next.length * (buildF leastF eb).1.next.length) ≤ 40000 := Nat.le_trans (Nat.mul_le_mul hpa0.few hpb0.few) (by decide)
   refine A4 (Ae (Ag (Cm 3 [(0, true), (2, true), (1, false)] _ mixd (by kernel_rfl) sb0 ?_)))
   refine o_y U (Am (T U) isAgg24 sizeOf24 U (by first | exact Bf)) ?_ U Ah
   refine o_y U (Am (T U) isAgg24 sizeOf24 U (by first | exact Bf)) ?_ U Ah
   refine o_e U (Au (.cons Ak (.cons (T U) .nil)) call74 (lo_s m1 _ [] none 0 arr_none (Nat.le_refl _) (hMa.mono sbt) (by simp only [List.length_nil]; omega))) ?_ U Ah
   rintro _ _ ⟨q1, c1, M1, ⟨rfl, hc1, hA1, hO1⟩, rfl⟩
   refine ⟨sbt, (B3 U (e_ (Au (.cons (T U) (.cons (T U) .nil)) call74 (lo2_s hIa hIb hO1 hc1 hA1 (hMb.mono sbt) (by omega))) ?_ U))⟩
   rintro _ _ ⟨dl0, A, B, ⟨rfl, hdl0⟩, rfl⟩
   refine y_ (Ad (T U)) (Af (Ae (Ag (Ab (y_ (Ac (T U)) (y_ (Ac (T U)) (y_ (Av (.cons (T U) .nil) call20 (fun H' hs => rother_s (letF (.alt ea eb)) _ _ ((A1 (X := H) (enc := encS) (sz := 1) (e := 9) (l := (letF (.alt ea eb))) (fun _ => rfl) hdl0).mono (List.Sublist.trans sbt hs)) (by omega))) ?_ U) U) U))))) U
   refine e_ (Al (.cons (T U) .nil) (Cw _)) ?_ U
   rintro _ _ ⟨n41, rfl, rfl⟩
   refine e_ (Bw (otherF (letF (.alt ea eb))) (by' := 16) (by repeat (first | exact LocL.h | apply LocL.t | apply LocL.a)) (T U) (T U) runUnderlying25 runUnderlying25 sizeOf9 typeInfo9 U zeroValue9 U (fun _ => rfl) U hdl0 (by decide) (by omega)) ?_ U
   rintro _ _ ⟨dl, rfl, hdl, rfl⟩
   have hal : (allF ea eb).length = (letF (.alt ea eb)).length + 1 := by unfold allF; simp
   have hdall : SlOk dl (allF ea eb).length 1 := by rw [hal]; exact hdl
   refine y_ (Ad (T U)) (Af (Ae (Ag (Ab (y_ (Bq .nil (bd121_z)) (e_ (Al (.cons (T U) .nil) (bs122_1_0 _ _ _ _ _)) ?_ U) U))))) U
   rintro _ _ ⟨n44, rfl, rfl⟩
   refine y_ (Ad (T U)) (Af (Ae (Ag (Ag (Ab (y_ (Ad Ak) (Af (Ae (Aw ?_))) U)))))) U
   refine Cd (X := Nat × Sl × List Vs × List (Nat × Obj) × BS ByteArray) (V := fun ⟨k, d, vs, M, st⟩ => [(13, .int .i64 (k : Nat)), (12, slV d vs.length)]) (C := [(7, _), (9, _), (11, _)]) (G := fun ⟨k, d, vs, M, st⟩ => M ++ (slH d (vs.flatMap encVs) 121 ++ (A ++ (slH dl ((allF ea eb).flatMap encS) 9 ++ (B ++ ((n9, Cl (encMc mb) 29) :: (BM2 ++ ((n7, Cl (encMc ma) 29) :: (BM1 ++ ((n3, Cl (encRx m2) 24) :: ((n2, Cl (encRx m1) 24) :: H))))))))))) (φ := fun ⟨k, d, vs, M, st⟩ => (k ≤ vs.length ∧ VsOk w0 M vs d st) ∧ BSok (DuOk (buildF leastF ea).1 (buildF leastF eb).1) k st ∧ goF (stepsF (buildF leastF ea).1 (buildF leastF eb).1 (allF ea eb)) (difF (buildF leastF ea).1 (buildF leastF eb).1) (((buildF leastF ea).1.next.length * (buildF leastF eb).1.next.length) + 1) 0 ⟨[(0, 0)], [(-1, default)]⟩ = goF (stepsF (buildF leastF ea).1 (buildF leastF eb).1 (allF ea eb)) (difF (buildF leastF ea).1 (buildF leastF eb).1) (((buildF leastF ea).1.next.length * (buildF leastF eb).1.next.length) + 1 - k) k st) (μ := fun ⟨k, d, vs, M, st⟩ => ((buildF leastF ea).1.next.length * (buildF leastF eb).1.next.length) + 1 - k) (x0 := (0, .blk n44 1 [], [⟨(0, 0), none, 0, []⟩], [], ⟨[(0, 0)], [(-1, default)]⟩)) ?_ ⟨Aa rfl, Aa rfl, Aa rfl, trivial⟩ ⟨atd, atd, trivial⟩ (by simp only [List.nil_append]; exact sbt) ?_
   ·refine ⟨⟨Nat.zero_le _, ⟨⟨Nat.le_refl _, by simp⟩, .start _, fun u hu X => ?_⟩⟩, ⟨by simp, fun p hp => by simp at hp; subst hp; exact (⟨hpa0.some', hpb0.some'⟩ : DuOk (buildF leastF ea).1 (buildF leastF eb).1 (0, 0)), rfl, fun i hi => ?_, Nat.zero_le _⟩, rfl⟩
    ·simp at hu; subst hu; exact arr_none
    ·simp at hi; subst hi; show -1 ≤ (-1 : Int) ∧ (-1 : Int) < ((0 : Nat) : Int); omega
   rintro ⟨k, d, vs, M, st⟩ ⟨⟨hk, hv⟩, hb, hgo⟩
   have hfw : st.l.length ≤ ((buildF leastF ea).1.next.length * (buildF leastF eb).1.next.length) := grid_few hb.nd hb.ok
   have hvl := hv.vr.len
   refine Ag (Ag (Ab (y_ (Ac (T U)) (y_ (Ac (T U)) (y_ (Bn (T U) runUnderlying122) (y_ (B1 (T U) (T U)) (Af (Ae ?_)) U) U) U) U)))
   first | refine Ao (Aa U) (fun c48 => ?_) (fun c48 => ?_) | refine A5 (Aa U) (fun c48 => ?_) (fun c48 => ?_)
   ·have hkl : k < st.l.length := by rw [← hv.vr.len]; omega
    have hpk := hb.ok _ (Ax hkl)
    have hvk : (gd vs k).p = gd st.l k := (hv.vr.at' k (by omega)).1
    have hp1r : (gd st.l k).1 < ma.rows.length := by have := hpk.1; rw [← hpla] at this; omega
    have hp2r : (gd st.l k).2 < mb.rows.length := by have := hpk.2; rw [← hplb] at this; omega
    have hp1 : (gd st.l k).1 < ma.acc.length := by have := hpa.acc; rw [show ma.pl.acc = ma.acc from rfl] at this; omega
    have hp2 : (gd st.l k).2 < mb.acc.length := by have := hpb.acc; rw [show mb.pl.acc = mb.acc from rfl] at this; omega
    have hdk : difF (buildF leastF ea).1 (buildF leastF eb).1 (gd st.l k) = (gd ma.acc (gd st.l k).1 != gd mb.acc (gd st.l k).2) := by rw [← hpla, ← hplb]; rfl
    refine A4 (Ae (Ag (Aw (Ag (Ag (Cm 19 [(0, true), (1, true), (2, true), (3, true), (4, true), (5, true), (6, true), (7, true), (8, true), (9, true), (10, true), (11, true), (12, true), (13, true), (14, true), (15, true), (16, true), (17, true), (18, true)] _ mixd (by kernel_rfl) sb0 ?_))))))
    refine o_y U (Bg (T U) Dd) (o_y U (Aj (T U) isAgg27 (by first | exact c_o)) ?_ U Ah) U Ah
    refine o_y U (Ac (T U)) (o_y U (Ac (T U)) (o_y U (Bb (T U) (T U) runUnderlying122 sizeOf121 (by omega) (by first | exact rfl | exact hma.a3.b (i := (gd st.l k).1) hp1 | exact hmb.a3.b (i := (gd st.l k).2) hp2 | exact (hv.arr (X := [])).b (i := k) (by omega) | exact (A1 (w0 := w0) (enc := encS) (sz := 1) (e := 9) (l := (allF ea eb)) (X := []) (fun _ => rfl) hdall).b (i := i) (by omega) | exact (hv2.arr (X := [])).b (i := k) (by omega) | exact (hv2.arr (X := [])).b (i := j) (by omega))) ?_ U Ah) U Ah) U Ah
    refine o_y U (Bm (T U) fa121_0) (o_y U (Aj (T U) isAgg3 (by first | exact c_o | exact cell_e (v' := .int .i64 ((gd st.l k).1 : Int)) (by rw [hvk]) (c_m ((hv.arr (X := H)).f0 (i := k) (by omega) U)))) ?_ U Ah) U Ah
    refine o_y U (Ct (T U) (T U) runUnderlying27 sizeOf4 (by omega) (by first | exact rfl | exact hma.a3.b (i := (gd st.l k).1) hp1 | exact hmb.a3.b (i := (gd st.l k).2) hp2 | exact (hv.arr (X := [])).b (i := k) (by omega) | exact (A1 (w0 := w0) (enc := encS) (sz := 1) (e := 9) (l := (allF ea eb)) (X := []) (fun _ => rfl) hdall).b (i := i) (by omega) | exact (hv2.arr (X := [])).b (i := k) (by omega) | exact (hv2.arr (X := [])).b (i := j) (by omega))) ?_ U Ah
    refine o_y U (Aj (T U) isAgg4 (by first | exact c_o | exact cell1 ((hma.a3.mono sbt).cs (i := (gd st.l k).1) hp1))) ?_ U Ah
    refine o_y U (Bg (T U) Dd) (o_y U (Aj (T U) isAgg27 (by first | exact c_o)) ?_ U Ah) U Ah
    refine o_y U (Ac (T U)) (o_y U (Ac (T U)) (o_y U (Bb (T U) (T U) runUnderlying122 sizeOf121 (by omega) (by first | exact rfl | exact hma.a3.b (i := (gd st.l k).1) hp1 | exact hmb.a3.b (i := (gd st.l k).2) hp2 | exact (hv.arr (X := [])).b (i := k) (by omega) | exact (A1 (w0 := w0) (enc := encS) (sz := 1) (e := 9) (l := (allF ea eb)) (X := []) (fun _ => rfl) hdall).b (i := i) (by omega) | exact (hv2.arr (X := [])).b (i := k) (by omega) | exact (hv2.arr (X := [])).b (i := j) (by omega))) ?_ U Ah) U Ah) U Ah
    refine o_y U (Bg (T U) fa121_1) (o_y U (Aj (T U) isAgg3 (by first | exact c_o | exact cell_e (v' := .int .i64 ((gd st.l k).2 : Int)) (by rw [hvk]) (c_m ((hv.arr (X := H)).f (i := k) (j := 1) (by omega) U)))) ?_ U Ah) U Ah
    refine o_y U (Ct (T U) (T U) runUnderlying27 sizeOf4 (by omega) (by first | exact rfl | exact hma.a3.b (i := (gd st.l k).1) hp1 | exact hmb.a3.b (i := (gd st.l k).2) hp2 | exact (hv.arr (X := [])).b (i := k) (by omega) | exact (A1 (w0 := w0) (enc := encS) (sz := 1) (e := 9) (l := (allF ea eb)) (X := []) (fun _ => rfl) hdall).b (i := i) (by omega) | exact (hv2.arr (X := [])).b (i := k) (by omega) | exact (hv2.arr (X := [])).b (i := j) (by omega))) ?_ U Ah
    refine o_y U (Aj (T U) isAgg4 (by first | exact c_o | exact cell1 ((hmb.a3.mono sbt).cs (i := (gd st.l k).2) hp2))) ?_ U Ah
    refine o_y U (yl_neB (T U) (T U)) (B3 U (Af (Ae (Bl [(7, _), (9, _), (11, _), (12, _), (13, _), (69, _)] ⟨Aa U, Aa U, Aa U, Aa U, Aa U, Aa U, trivial⟩ ?_)))) U Ah
    first | refine Ao (Aa U) (fun c69 => ?_) (fun c69 => ?_) | refine A5 (Aa U) (fun c69 => ?_) (fun c69 => ?_)
    ·refine Ag (Ab (y_ (Ac (T U)) (y_ (Ac (T U)) (y_ (Bb (T U) (T U) runUnderlying122 sizeOf121 (by omega) (by first | exact rfl | exact hma.a3.b (i := (gd st.l k).1) hp1 | exact hmb.a3.b (i := (gd st.l k).2) hp2 | exact (hv.arr (X := [])).b (i := k) (by omega) | exact (A1 (w0 := w0) (enc := encS) (sz := 1) (e := 9) (l := (allF ea eb)) (X := []) (fun _ => rfl) hdall).b (i := i) (by omega) | exact (hv2.arr (X := [])).b (i := k) (by omega) | exact (hv2.arr (X := [])).b (i := j) (by omega))) ?_ U) U) U))
     refine y_ (Bg (T U) fa121_2) (y_ (Aj (T U) isAgg25 (by first | exact c_o | exact c_m ((hv.arr (X := H)).f (i := k) (j := 2) (by omega) U))) ?_ U) U
     refine y_ (Ad (T U)) (y_ (Ad Ak) (y_ (Ad Ak) (Af (Ae (A7 (Ap (A0 (Ap (B9 (A0 (Ap (A8 U (.tmp (Aa U) (.tmp (Aa U) (.tmp (Aa U) .nil))) ?_)))))))))) U) U) U
     have he : equalF ea eb = (pth st.w k, false, 0) := eqR_yes ⟨hea, heb⟩ (f := ((buildF leastF ea).1.next.length * (buildF leastF eb).1.next.length) - k) (by rw [hgo]; congr 1; omega) hkl (by rw [hdk]; exact c69)
     rw [he, ← (hv.vr.at' k (by omega)).2]; exact ⟨_, ⟨(gd vs k).q, (gd vs k).c, M, ⟨rfl, hv.pa _ (Ax (i := k) (by omega)) _, by show (gd vs k).l.length ≤ 50000; rw [(hv.vr.at' k (by omega)).2]; have := pth_len st.w k; omega⟩, rfl⟩, sbt⟩
    ·refine A4 (Ae (Ag (Ab (y_ (Ad Ak) (Af (Ae (Aw ?_))) U))))
     refine Cd (X := Nat × Sl × List Vs × List (Nat × Obj)) (V := fun ⟨i, d2, vs2, M2⟩ => [(14, .int .i64 (i : Nat)), (12, slV d2 vs2.length)]) (C := [(7, _), (9, _), (11, _), (13, _)]) (G := fun ⟨i, d2, vs2, M2⟩ => M2 ++ (slH d2 (vs2.flatMap encVs) 121 ++ (A ++ (slH dl ((allF ea eb).flatMap encS) 9 ++ (B ++ ((n9, Cl (encMc mb) 29) :: (BM2 ++ ((n7, Cl (encMc ma) 29) :: (BM1 ++ ((n3, Cl (encRx m2) 24) :: ((n2, Cl (encRx m1) 24) :: H))))))))))) (φ := fun ⟨i, d2, vs2, M2⟩ => i ≤ (allF ea eb).length ∧ VsOk w0 M2 vs2 d2 (visAll k st (((stepsF (buildF leastF ea).1 (buildF leastF eb).1 (allF ea eb)) (gd st.l k)).take i))) (μ := fun ⟨i, d2, vs2, M2⟩ => (allF ea eb).length - i) (x0 := (0, d, vs, M)) ?_ ⟨Aa rfl, Aa rfl, Aa rfl, Aa rfl, trivial⟩ ⟨atd, atd, trivial⟩ sb0 ?_
     ·exact ⟨Nat.zero_le _, hv⟩
     rintro ⟨i, d2, vs2, M2⟩ ⟨hi, hv2⟩
     have htl : ((stepsF (buildF leastF ea).1 (buildF leastF eb).1 (allF ea eb)) (gd st.l k)).length = (allF ea eb).length := List.length_map ..
     obtain ⟨hbi, hbl⟩ := hb.visAll (k' := k) (((stepsF (buildF leastF ea).1 (buildF leastF eb).1 (allF ea eb)) (gd st.l k)).take i) hkl (fun y hy => hts _ hpk y (List.mem_of_mem_take hy))
     have hgk := (visAll_get (k := k) (i := k) (((stepsF (buildF leastF ea).1 (buildF leastF eb).1 (allF ea eb)) (gd st.l k)).take i) (st := st) hkl).1
     have hvl2 := hv2.vr.len
     have hfw2 : (visAll k st (((stepsF (buildF leastF ea).1 (buildF leastF eb).1 (allF ea eb)) (gd st.l k)).take i)).l.length ≤ ((buildF leastF ea).1.next.length * (buildF leastF eb).1.next.length) := grid_few hbi.nd hbi.ok
     have hvk2 : (gd vs2 k).p = gd st.l k := by rw [(hv2.vr.at' k (by omega)).1, hgk]
     have hvk1 := (hv2.vr.at' k (by omega)).2
     refine Ag (Ag (Ab (y_ (Ac (T U)) (y_ (Ac (T U)) (y_ (Bn (T U) runUnderlying25) (y_ (B1 (T U) (T U)) (Af (Ae ?_)) U) U) U) U)))
     first | refine Ao (Aa U) (fun c78 => ?_) (fun c78 => ?_) | refine A5 (Aa U) (fun c78 => ?_) (fun c78 => ?_)
     ·have htk : ((stepsF (buildF leastF ea).1 (buildF leastF eb).1 (allF ea eb)) (gd st.l k)).take (i + 1) = ((stepsF (buildF leastF ea).1 (buildF leastF eb).1 (allF ea eb)) (gd st.l k)).take i ++ [(((afterF ma.pl (gd st.l k).1 (gd (allF ea eb) i), afterF mb.pl (gd st.l k).2 (gd (allF ea eb) i)) : Pl), gd (allF ea eb) i)] := by
       rw [List.take_add_one, steps_get (by omega), hpla, hplb]; rfl
      refine A4 (Ae (Ag (Aw (Ag (Cm 24 [(0, true), (1, true), (2, true), (3, true), (4, true), (5, true), (6, true), (7, true), (8, true), (9, true), (10, true), (11, true), (12, true), (13, true), (14, true), (15, true), (16, true), (17, true), (18, true), (19, true), (20, true), (21, true), (22, true), (23, false)] _ mixd (by kernel_rfl) sb0 ?_)))))
      refine o_y U (Am (T U) isAgg29 sizeOf29 U (by first | exact Bf)) ?_ U Ah
      refine o_y U (Ac (T U)) (o_y U (Ac (T U)) (o_y U (Bb (T U) (T U) runUnderlying122 sizeOf121 (by omega) (by first | exact rfl | exact hma.a3.b (i := (gd st.l k).1) hp1 | exact hmb.a3.b (i := (gd st.l k).2) hp2 | exact (hv.arr (X := [])).b (i := k) (by omega) | exact (A1 (w0 := w0) (enc := encS) (sz := 1) (e := 9) (l := (allF ea eb)) (X := []) (fun _ => rfl) hdall).b (i := i) (by omega) | exact (hv2.arr (X := [])).b (i := k) (by omega) | exact (hv2.arr (X := [])).b (i := j) (by omega))) ?_ U Ah) U Ah) U Ah
      refine o_y U (Bm (T U) fa121_0) (o_y U (Aj (T U) isAgg3 (by first | exact c_o | exact cell_e (v' := .int .i64 ((gd st.l k).1 : Int)) (by rw [hvk2]) (c_m ((hv2.arr (X := H)).f0 (i := k) (by omega) U)))) ?_ U Ah) U Ah
      refine o_y U (Ac (T U)) (o_y U (Ac (T U)) (o_y U (Bb (T U) (T U) runUnderlying25 sizeOf9 (by omega) (by first | exact rfl | exact hma.a3.b (i := (gd st.l k).1) hp1 | exact hmb.a3.b (i := (gd st.l k).2) hp2 | exact (hv.arr (X := [])).b (i := k) (by omega) | exact (A1 (w0 := w0) (enc := encS) (sz := 1) (e := 9) (l := (allF ea eb)) (X := []) (fun _ => rfl) hdall).b (i := i) (by omega) | exact (hv2.arr (X := [])).b (i := k) (by omega) | exact (hv2.arr (X := [])).b (i := j) (by omega))) ?_ U Ah) U Ah) U Ah
      refine o_y U (Aj (T U) isAgg9 (by first | exact c_o | exact cell1 (((A1 (w0 := w0) (enc := encS) (sz := 1) (e := 9) (l := (allF ea eb)) (X := H) (fun _ => rfl) hdall).mono sbt).cs (i := i) (by omega)))) ?_ U Ah
      refine o_y U (Av (.cons (T U) (.cons (T U) (.cons (T U) .nil))) call70 (fun H' hs => rstep_s ma (hma.mono (List.Sublist.trans sbt hs)) hsa hlna hpa (gd st.l k).1 hp1r (gd (allF ea eb) i))) (o_y U (Am (T U) isAgg29 sizeOf29 U (by first | exact Bf)) ?_ U Ah) U Ah
      refine o_y U (Ac (T U)) (o_y U (Ac (T U)) (o_y U (Bb (T U) (T U) runUnderlying122 sizeOf121 (by omega) (by first | exact rfl | exact hma.a3.b (i := (gd st.l k).1) hp1 | exact hmb.a3.b (i := (gd st.l k).2) hp2 | exact (hv.arr (X := [])).b (i := k) (by omega) | exact (A1 (w0 := w0) (enc := encS) (sz := 1) (e := 9) (l := (allF ea eb)) (X := []) (fun _ => rfl) hdall).b (i := i) (by omega) | exact (hv2.arr (X := [])).b (i := k) (by omega) | exact (hv2.arr (X := [])).b (i := j) (by omega))) ?_ U Ah) U Ah) U Ah
      refine o_y U (Bg (T U) fa121_1) (o_y U (Aj (T U) isAgg3 (by first | exact c_o | exact cell_e (v' := .int .i64 ((gd st.l k).2 : Int)) (by rw [hvk2]) (c_m ((hv2.arr (X := H)).f (i := k) (j := 1) (by omega) U)))) ?_ U Ah) U Ah
      refine o_y U (Ac (T U)) (o_y U (Ac (T U)) (o_y U (Bb (T U) (T U) runUnderlying25 sizeOf9 (by omega) (by first | exact rfl | exact hma.a3.b (i := (gd st.l k).1) hp1 | exact hmb.a3.b (i := (gd st.l k).2) hp2 | exact (hv.arr (X := [])).b (i := k) (by omega) | exact (A1 (w0 := w0) (enc := encS) (sz := 1) (e := 9) (l := (allF ea eb)) (X := []) (fun _ => rfl) hdall).b (i := i) (by omega) | exact (hv2.arr (X := [])).b (i := k) (by omega) | exact (hv2.arr (X := [])).b (i := j) (by omega))) ?_ U Ah) U Ah) U Ah
      refine o_y U (Aj (T U) isAgg9 (by first | exact c_o | exact cell1 (((A1 (w0 := w0) (enc := encS) (sz := 1) (e := 9) (l := (allF ea eb)) (X := H) (fun _ => rfl) hdall).mono sbt).cs (i := i) (by omega)))) ?_ U Ah
      refine o_y U (Av (.cons (T U) (.cons (T U) (.cons (T U) .nil))) call70 (fun H' hs => rstep_s mb (hmb.mono (List.Sublist.trans sbt hs)) hsb hlnb hpb (gd st.l k).2 hp2r (gd (allF ea eb) i))) (o_y U (Bq (.cons (T U) (.cons (T U) .nil)) (bd121_0_1 _ _)) (o_e U (Aq zeroValue121 cs_) ?_ U Ah) U Ah) U Ah
      rintro _ _ ⟨n15, rfl, rfl⟩
      refine ⟨sbt, (B3 U ?_)⟩
      first | refine A6 (As (T U) (T U) sizeOf121) U Ah ?_
      rintro _ _ ⟨rfl, rfl⟩
      refine Af (Ae (Bl [(7, _), (9, _), (11, _), (12, _), (13, _), (14, _), (15, _)] ⟨Aa U, Aa U, Aa U, Aa U, Aa U, Aa U, Aa U, trivial⟩ (Ag (Ab (y_ (Ad Ak) (Af (Ae (Ag (Ag (Ab (y_ (Ad Ak) (Af (Ae (Aw ?_))) U)))))) U)))))
      refine Ci (X := Nat × Bool) (V := fun ⟨j, kn⟩ => [(17, .int .i64 (j : Nat)), (16, .bool kn)]) (C := [(7, _), (9, _), (11, _), (12, _), (13, _), (14, _), (15, _)]) (φ := fun ⟨j, kn⟩ => j ≤ vs2.length ∧ (kn = true ↔ ∃ j', j' < j ∧ (gd vs2 j').p = ((afterF ma.pl (gd st.l k).1 (gd (allF ea eb) i), afterF mb.pl (gd st.l k).2 (gd (allF ea eb) i)) : Pl))) (μ := fun ⟨j, kn⟩ => vs2.length - j) (x0 := (0, false)) ?_ ⟨Aa rfl, Aa rfl, Aa rfl, Aa rfl, Aa rfl, Aa rfl, Aa rfl, trivial⟩ ⟨atd, atd, trivial⟩ ?_
      ·exact ⟨Nat.zero_le _, ⟨(fun h => by cases h), fun ⟨j', h, _⟩ => by omega⟩⟩
      rintro ⟨j, kn⟩ ⟨hj, hkn⟩
      refine Ag (Ag (Ab (y_ (Ac (T U)) (y_ (Ac (T U)) (y_ (Bn (T U) runUnderlying122) (y_ (B1 (T U) (T U)) (Af (Ae ?_)) U) U) U) U)))
      first | refine Ao (Aa U) (fun c107 => ?_) (fun c107 => ?_) | refine A5 (Aa U) (fun c107 => ?_) (fun c107 => ?_)
      ·refine A4 (Ae (Ag (Aw (Cm 22 [(0, true), (1, true), (2, true), (3, true), (4, true), (5, true), (6, true), (7, true), (8, true), (9, true), (10, true), (11, true), (12, true), (13, true), (14, true), (15, true), (16, true), (17, true), (18, true), (19, true), (20, true), (21, true)] _ mixd (by kernel_rfl) sb0 ?_))))
       refine o_y U (Ac (T U)) (o_y U (Ac (T U)) ?_ U Ah) U Ah
       first | refine C5 (s := 111) (Aa U) (fun c111 => ?_) (fun c111 => ?_) | refine D5 (s := 111) (Aa U) (fun c111 => ?_) (fun c111 => ?_)
       ·refine o_n U (o_n U (o_n U (o_n U (o_n U (o_n U (o_n U (o_n U (o_n U (o_n U (o_n U (o_n U (o_n U (o_n U (o_n U (o_n U (o_n U (o_n U (o_y U (Az (T U) Ak) (o_y U (Ad (T U)) (B3 U (Af (Bi (Ae (Bl [(7, _), (9, _), (11, _), (12, _), (13, _), (14, _), (15, _), (16, _), (17, _)] ⟨Aa U, Aa U, Aa U, Aa U, Aa U, Aa U, Aa U, Aa U, Aa U, trivial⟩ (Ab (y_ (Ac (T U)) (y_ (Bt (T U) Ak (by omega)) ?_ U) U))))))) U Ah) U Ah) U (Bh U U (Aa U))) U (Cg U U (Aa U))) U (Cg U U (Aa U))) U (Cg U U (Aa U))) U (Cg U U (Aa U))) U (Cg U U (Aa U))) U (Cg U U (Aa U))) U (Cg U U (Aa U))) U (Cg U U (Aa U))) U (Bh U U (Aa U))) U (Bh U U (Aa U))) U (Bh U U (Aa U))) U (Bh U U (Aa U))) U (Bh U U (Aa U))) U (Bh U U (Aa U))) U (Bh U U (Aa U))) U (Bh U U (Aa U))) U (Bh U U (Aa U))
        refine y_ (Ad (T U)) (Af ?_) U
        refine Bk ((j + 1, true)) ?_ ?_ ⟨atd, atd, trivial⟩ ⟨Aa U, Aa U, Aa U, Aa U, Aa U, Aa U, Aa U, trivial⟩ ?_
        ·refine ⟨by omega, fun _ => ?_, fun _ => rfl⟩
         obtain ⟨j', h1, h2⟩ := hkn.1 c111
         exact ⟨j', by omega, h2⟩
        ·first | omega | (simp only []; omega)
        ·exact sbt
       ·refine o_y U (Ac (T U)) (o_y U (Ac (T U)) (o_y U (Bb (T U) (T U) runUnderlying122 sizeOf121 (by omega) (by first | exact rfl | exact hma.a3.b (i := (gd st.l k).1) hp1 | exact hmb.a3.b (i := (gd st.l k).2) hp2 | exact (hv.arr (X := [])).b (i := k) (by omega) | exact (A1 (w0 := w0) (enc := encS) (sz := 1) (e := 9) (l := (allF ea eb)) (X := []) (fun _ => rfl) hdall).b (i := i) (by omega) | exact (hv2.arr (X := [])).b (i := k) (by omega) | exact (hv2.arr (X := [])).b (i := j) (by omega))) ?_ U (Ar U U (Aa U))) U (Ar U U (Aa U))) U (Ar U U (Aa U))
        refine o_y U (Bm (T U) fa121_0) (o_y U (Aj (T U) isAgg3 (by first | exact c_o | exact c_m ((hv2.arr (X := H)).f0 (i := j) (by omega) U))) ?_ U (Ar U U (Aa U))) U (Ar U U (Aa U))
        refine o_y U (Bm (T U) fa121_0) (o_y U (Aj (T U) isAgg3 (by first | exact c_o)) ?_ U (Ar U U (Aa U))) U (Ar U U (Aa U))
        refine o_y U (By (T U) (T U)) (o_y U (Ac (T U)) ?_ U (Ar U U (Aa U))) U (Ar U U (Aa U))
        first | refine C5 (s := 120) (Aa U) (fun c120 => ?_) (fun c120 => ?_) | refine D5 (s := 120) (Aa U) (fun c120 => ?_) (fun c120 => ?_)
        ·refine o_y U (Ac (T U)) (o_y U (Ac (T U)) (o_y U (Bb (T U) (T U) runUnderlying122 sizeOf121 (by omega) (by first | exact rfl | exact hma.a3.b (i := (gd st.l k).1) hp1 | exact hmb.a3.b (i := (gd st.l k).2) hp2 | exact (hv.arr (X := [])).b (i := k) (by omega) | exact (A1 (w0 := w0) (enc := encS) (sz := 1) (e := 9) (l := (allF ea eb)) (X := []) (fun _ => rfl) hdall).b (i := i) (by omega) | exact (hv2.arr (X := [])).b (i := k) (by omega) | exact (hv2.arr (X := [])).b (i := j) (by omega))) ?_ U (Ar U U (Aa U))) U (Ar U U (Aa U))) U (Ar U U (Aa U))
         refine o_y U (Bg (T U) fa121_1) (o_y U (Aj (T U) isAgg3 (by first | exact c_o | exact c_m ((hv2.arr (X := H)).f (i := j) (j := 1) (by omega) U))) ?_ U (Ar U U (Aa U))) U (Ar U U (Aa U))
         refine o_y U (Bg (T U) fa121_1) (o_y U (Aj (T U) isAgg3 (by first | exact c_o)) ?_ U (Ar U U (Aa U))) U (Ar U U (Aa U))
         refine o_y U (By (T U) (T U)) (o_y U (Az (T U) (T U)) (o_y U (A9 (T U) (T U)) (o_y U (Ad (T U)) (B3 U (Af (Bi (Ae (Bl [(7, _), (9, _), (11, _), (12, _), (13, _), (14, _), (15, _), (16, _), (17, _)] ⟨Aa U, Aa U, Aa U, Aa U, Aa U, Aa U, Aa U, Aa U, Aa U, trivial⟩ (Ab (y_ (Ac (T U)) (y_ (Bt (T U) Ak (by omega)) ?_ U) U))))))) U Ah) U Ah) U (Ar U U (Aa U))) U (Ar U U (Aa U))
         refine y_ (Ad (T U)) (Af ?_) U
         refine Bk ((j + 1, decide (((gd vs2 j).p.2 : Int) = (((afterF ma.pl (gd st.l k).1 (gd (allF ea eb) i), afterF mb.pl (gd st.l k).2 (gd (allF ea eb) i)) : Pl).2 : Nat)))) ?_ ?_ ⟨atd, atd, trivial⟩ ⟨Aa U, Aa U, Aa U, Aa U, Aa U, Aa U, Aa U, trivial⟩ ?_
         ·refine ⟨by omega, fun h => ⟨j, by omega, Prod.ext (Int.ofNat.inj c120) (Int.ofNat.inj (of_decide_eq_true h))⟩, fun ⟨j', h1, h2⟩ => decide_eq_true ?_⟩
          by_cases ej : j' = j
          ·subst ej; rw [h2]
          ·exact absurd (hkn.2 ⟨j', by omega, h2⟩) (by rw [c111]; exact Bool.false_ne_true)
         ·first | omega | (simp only []; omega)
         ·exact sbt
        ·refine o_n U (o_n U (o_n U (o_n U (o_n U (o_n U (o_n U (o_n U (o_y U (A9 (T U) Ak) (o_y U (A9 (T U) (T U)) (o_y U (Ad (T U)) (B3 U (Af (Bi (Ae (Bl [(7, _), (9, _), (11, _), (12, _), (13, _), (14, _), (15, _), (16, _), (17, _)] ⟨Aa U, Aa U, Aa U, Aa U, Aa U, Aa U, Aa U, Aa U, Aa U, trivial⟩ (Ab (y_ (Ac (T U)) (y_ (Bt (T U) Ak (by omega)) ?_ U) U))))))) U Ah) U Ah) U (Ar U U (Aa U))) U (Ce U U (Aa U))) U (Ce U U (Aa U))) U (Ce U U (Aa U))) U (Ce U U (Aa U))) U (Ce U U (Aa U))) U (Ce U U (Aa U))) U (Ce U U (Aa U))) U (Ce U U (Aa U))
         refine y_ (Ad (T U)) (Af ?_) U
         refine Bk ((j + 1, false)) ?_ ?_ ⟨atd, atd, trivial⟩ ⟨Aa U, Aa U, Aa U, Aa U, Aa U, Aa U, Aa U, trivial⟩ ?_
         ·refine ⟨by omega, fun h => (by cases h), fun ⟨j', h1, h2⟩ => ?_⟩
          by_cases ej : j' = j
          ·subst ej; exact absurd (by rw [h2]) c120
          ·exact absurd (hkn.2 ⟨j', by omega, h2⟩) (by rw [c111]; exact Bool.false_ne_true)
         ·first | omega | (simp only []; omega)
         ·exact sbt
      ·refine B2 (Ay (A2 (A3 (Ae (Ag (Ab (y_ (Ac (T U)) ?_ U)))))))
       first | refine Be (Cp (T U)) U Ah ?_ | refine Be (C1 (T U)) U Ah ?_
       refine Af (Ae ?_)
       first | refine Ao (Aa U) (fun c132 => ?_) (fun c132 => ?_) | refine A5 (Aa U) (fun c132 => ?_) (fun c132 => ?_)
       ·have hnin : ((afterF ma.pl (gd st.l k).1 (gd (allF ea eb) i), afterF mb.pl (gd st.l k).2 (gd (allF ea eb) i)) : Pl) ∉ (visAll k st (((stepsF (buildF leastF ea).1 (buildF leastF eb).1 (allF ea eb)) (gd st.l k)).take i)).l := fun hm => by
         obtain ⟨j', h1, h2⟩ := (hv2.vr.mem _).1 hm
         have := hkn.2 ⟨j', by omega, h2⟩
         rw [this] at c132; cases c132
        have hpl2 : (gd vs2 k).l.length ≤ 50000 := by rw [hvk1]; have := pth_len (visAll k st (((stepsF (buildF leastF ea).1 (buildF leastF eb).1 (allF ea eb)) (gd st.l k)).take i)).w k; omega
        refine Ag (j_anyX 12 _ mixd (by kernel_rfl) sb0 ?_)
        refine x_y (i := 1) U (by kernel_rfl) (Ac (T U)) ?_ U Ah
        refine x_y (i := 2) U (by kernel_rfl) (Ac (T U)) ?_ U Ah
        refine x_y (i := 3) U (by kernel_rfl) (Bb (T U) (T U) runUnderlying122 sizeOf121 (by omega) (by first | exact rfl | exact hma.a3.b (i := (gd st.l k).1) hp1 | exact hmb.a3.b (i := (gd st.l k).2) hp2 | exact (hv.arr (X := [])).b (i := k) (by omega) | exact (A1 (w0 := w0) (enc := encS) (sz := 1) (e := 9) (l := (allF ea eb)) (X := []) (fun _ => rfl) hdall).b (i := i) (by omega) | exact (hv2.arr (X := [])).b (i := k) (by omega) | exact (hv2.arr (X := [])).b (i := j) (by omega))) ?_ U Ah
        refine x_y (i := 4) U (by kernel_rfl) (Bg (T U) fa121_2) ?_ U Ah
        refine x_y (i := 5) U (by kernel_rfl) (Aj (T U) isAgg25 (by first | exact c_o | exact c_m ((hv2.arr (X := H)).f (i := k) (j := 2) (by omega) U))) ?_ U Ah
        refine x_y (i := 7) U (by kernel_rfl) (Ac (T U)) ?_ U Ah
        refine x_y (i := 8) U (by kernel_rfl) (Ac (T U)) ?_ U Ah
        refine x_y (i := 9) U (by kernel_rfl) (Bb (T U) (T U) runUnderlying25 sizeOf9 (by omega) (by first | exact rfl | exact hma.a3.b (i := (gd st.l k).1) hp1 | exact hmb.a3.b (i := (gd st.l k).2) hp2 | exact (hv.arr (X := [])).b (i := k) (by omega) | exact (A1 (w0 := w0) (enc := encS) (sz := 1) (e := 9) (l := (allF ea eb)) (X := []) (fun _ => rfl) hdall).b (i := i) (by omega) | exact (hv2.arr (X := [])).b (i := k) (by omega) | exact (hv2.arr (X := [])).b (i := j) (by omega))) ?_ U Ah
        refine x_y (i := 10) U (by kernel_rfl) (Aj (T U) isAgg9 (by first | exact c_o | exact cell1 (((A1 (w0 := w0) (enc := encS) (sz := 1) (e := 9) (l := (allF ea eb)) (X := H) (fun _ => rfl) hdall).mono sbt).cs (i := i) (by omega)))) ?_ U Ah
        refine Db (i := 0) (j := 11) (by kernel_rfl) (by kernel_rfl) ?_ ?_
        ·refine B0 U (Al .nil (bs25_0_z)) ?_ U Ah
         rintro _ _ ⟨n133, rfl, rfl⟩
         refine ⟨sbt, ?_⟩
         refine Db (i := 6) (j := 11) (by kernel_rfl) (by kernel_rfl) ?_ ?_
         ·refine B0 U (eff_appEmp ((gd vs2 k).l) (by' := 16) (by first | exact rfl | omega) (by repeat (first | exact locH1 | exact LocL.h | apply LocL.t | apply LocL.a)) (T U) (T U) runUnderlying25 runUnderlying25 sizeOf9 typeInfo9 U zeroValue9 U (fun _ => rfl) (fun _ => rfl) (by decide) (by omega) (hv2.pa _ (Ax (i := k) (by omega)) _ |>.mono sbt)) ?_ U Ah
          rintro _ _ ⟨d1, rfl, hd1, rfl⟩
          refine ⟨sbt, (B4 (i := 11) (by kernel_rfl) (by kernel_rfl) ?_)⟩
          refine B0 U (Al (.cons (T U) .nil) (Cw _)) ?_ U Ah
          rintro _ _ ⟨n144, rfl, rfl⟩
          refine ⟨sbt, (Cn (by kernel_rfl) U ?_)⟩
          refine e_ (B8 (gd (allF ea eb) i) (by' := 16) (enc := encS) (l := (gd vs2 k).l) (by repeat (first | exact LocL.h | apply LocL.t | apply LocL.a)) (T U) (T U) runUnderlying25 runUnderlying25 sizeOf9 typeInfo9 U zeroValue9 U (fun _ => rfl) U hd1 (by decide) (by omega)) ?_ U
          rintro _ _ ⟨dp, rfl, hdp, rfl⟩
          refine y_ (Bg (T U) fa121_2) ?_ U
          first | refine A6 (As (T U) (T U) sizeOf25) U Ah ?_ | refine A6 (B5 (T U) (T U) U sizeOf25) U Ah ?_ | refine A6 (Bz (T U) (T U) U sizeOf25) U Ah ?_
          rintro _ _ ⟨rfl, rfl⟩
          refine Af (Ae (Bl [(7, _), (9, _), (11, _), (12, _), (13, _), (14, _), (15, _)] ⟨Aa U, Aa U, Aa U, Aa U, Aa U, Aa U, Aa U, trivial⟩ (Ab (y_ (Ac (T U)) (y_ (Am (T U) isAgg121 sizeOf121 U (by first | exact Bf)) ?_ U) U))))
          refine e_ (Al (.cons (T U) .nil) (bs122_1_0 _ _ _ _ _)) ?_ U
          rintro _ _ ⟨n149, rfl, rfl⟩
          refine e_ (B8 ((⟨((afterF ma.pl (gd st.l k).1 (gd (allF ea eb) i), afterF mb.pl (gd st.l k).2 (gd (allF ea eb) i)) : Pl), slQ dp, slC dp, (gd vs2 k).l ++ [gd (allF ea eb) i]⟩ : Vs)) (by' := 40) (enc := encVs) (l := vs2) (by repeat (first | exact LocL.h | apply LocL.t | apply LocL.a)) (T U) (T U) runUnderlying122 runUnderlying122 sizeOf121 typeInfo121 U zeroValue121 U (fun _ => rfl) U hv2.ok (by decide) (by omega)) ?_ U
          rintro _ _ ⟨d3, rfl, hd3, rfl⟩
          refine y_ (Ad (T U)) (Af (Bi (Ae (Ab (y_ (Ac (T U)) (y_ (Bt (T U) Ak (by omega)) ?_ U) U))))) U
          refine y_ (Ad (T U)) (Af ?_) U
          refine Bk ((i + 1, d3, vs2 ++ [⟨((afterF ma.pl (gd st.l k).1 (gd (allF ea eb) i), afterF mb.pl (gd st.l k).2 (gd (allF ea eb) i)) : Pl), slQ dp, slC dp, (gd vs2 k).l ++ [gd (allF ea eb) i]⟩], slH dp (((gd vs2 k).l ++ [gd (allF ea eb) i]).flatMap encS) 9 ++ M2)) ?_ ?_ ⟨atd, atd, trivial⟩ ⟨Aa U, Aa U, Aa U, Aa U, trivial⟩ ?_
          ·show i + 1 ≤ _ ∧ VsOk w0 _ _ _ (visAll k st (((stepsF (buildF leastF ea).1 (buildF leastF eb).1 (allF ea eb)) (gd st.l k)).take (i + 1)))
           rw [htk, visAll_snoc]
           exact ⟨by omega, hv2.new (k := k) (x := (((afterF ma.pl (gd st.l k).1 (gd (allF ea eb) i), afterF mb.pl (gd st.l k).2 (gd (allF ea eb) i)) : Pl), gd (allF ea eb) i)) (q := slQ dp) (c := slC dp) hbi (by omega) hnin hd3 (List.sublist_append_right _ _) (fun X => by rw [List.append_assoc]; exact A1 (fun _ => rfl) hdp)⟩
          ·first | omega | (simp only []; omega)
          ·first | (show ((slH dp (((gd vs2 k).l ++ [gd (allF ea eb) i]).flatMap encS) 9 ++ M2) ++ _).Sublist _; rw [List.append_assoc]; exact sbt) | exact sbt
         ·refine B0 U (Al (.cons (T U) .nil) (Cw _)) ?_ U Ah
          rintro _ _ ⟨n144, rfl, rfl⟩
          refine ⟨sbt, (B4 (i := 6) (by kernel_rfl) (by kernel_rfl) ?_)⟩
          refine B0 U (eff_appEmp ((gd vs2 k).l) (by' := 16) (by first | exact rfl | omega) (by repeat (first | exact locH1 | exact LocL.h | apply LocL.t | apply LocL.a)) (T U) (T U) runUnderlying25 runUnderlying25 sizeOf9 typeInfo9 U zeroValue9 U (fun _ => rfl) (fun _ => rfl) (by decide) (by omega) (hv2.pa _ (Ax (i := k) (by omega)) _ |>.mono sbt)) ?_ U Ah
          rintro _ _ ⟨d1, rfl, hd1, rfl⟩
          refine ⟨sbt, (Cn (by kernel_rfl) U ?_)⟩
          refine e_ (B8 (gd (allF ea eb) i) (by' := 16) (enc := encS) (l := (gd vs2 k).l) (by repeat (first | exact LocL.h | apply LocL.t | apply LocL.a)) (T U) (T U) runUnderlying25 runUnderlying25 sizeOf9 typeInfo9 U zeroValue9 U (fun _ => rfl) U hd1 (by decide) (by omega)) ?_ U
          rintro _ _ ⟨dp, rfl, hdp, rfl⟩
          refine y_ (Bg (T U) fa121_2) ?_ U
          first | refine A6 (As (T U) (T U) sizeOf25) U Ah ?_ | refine A6 (B5 (T U) (T U) U sizeOf25) U Ah ?_ | refine A6 (Bz (T U) (T U) U sizeOf25) U Ah ?_
          rintro _ _ ⟨rfl, rfl⟩
          refine Af (Ae (Bl [(7, _), (9, _), (11, _), (12, _), (13, _), (14, _), (15, _)] ⟨Aa U, Aa U, Aa U, Aa U, Aa U, Aa U, Aa U, trivial⟩ (Ab (y_ (Ac (T U)) (y_ (Am (T U) isAgg121 sizeOf121 U (by first | exact Bf)) ?_ U) U))))
          refine e_ (Al (.cons (T U) .nil) (bs122_1_0 _ _ _ _ _)) ?_ U
          rintro _ _ ⟨n149, rfl, rfl⟩
          refine e_ (B8 ((⟨((afterF ma.pl (gd st.l k).1 (gd (allF ea eb) i), afterF mb.pl (gd st.l k).2 (gd (allF ea eb) i)) : Pl), slQ dp, slC dp, (gd vs2 k).l ++ [gd (allF ea eb) i]⟩ : Vs)) (by' := 40) (enc := encVs) (l := vs2) (by repeat (first | exact LocL.h | apply LocL.t | apply LocL.a)) (T U) (T U) runUnderlying122 runUnderlying122 sizeOf121 typeInfo121 U zeroValue121 U (fun _ => rfl) U hv2.ok (by decide) (by omega)) ?_ U
          rintro _ _ ⟨d3, rfl, hd3, rfl⟩
          refine y_ (Ad (T U)) (Af (Bi (Ae (Ab (y_ (Ac (T U)) (y_ (Bt (T U) Ak (by omega)) ?_ U) U))))) U
          refine y_ (Ad (T U)) (Af ?_) U
          refine Bk ((i + 1, d3, vs2 ++ [⟨((afterF ma.pl (gd st.l k).1 (gd (allF ea eb) i), afterF mb.pl (gd st.l k).2 (gd (allF ea eb) i)) : Pl), slQ dp, slC dp, (gd vs2 k).l ++ [gd (allF ea eb) i]⟩], slH dp (((gd vs2 k).l ++ [gd (allF ea eb) i]).flatMap encS) 9 ++ M2)) ?_ ?_ ⟨atd, atd, trivial⟩ ⟨Aa U, Aa U, Aa U, Aa U, trivial⟩ ?_
          ·show i + 1 ≤ _ ∧ VsOk w0 _ _ _ (visAll k st (((stepsF (buildF leastF ea).1 (buildF leastF eb).1 (allF ea eb)) (gd st.l k)).take (i + 1)))
           rw [htk, visAll_snoc]
           exact ⟨by omega, hv2.new (k := k) (x := (((afterF ma.pl (gd st.l k).1 (gd (allF ea eb) i), afterF mb.pl (gd st.l k).2 (gd (allF ea eb) i)) : Pl), gd (allF ea eb) i)) (q := slQ dp) (c := slC dp) hbi (by omega) hnin hd3 (List.sublist_append_right _ _) (fun X => by rw [List.append_assoc]; exact A1 (fun _ => rfl) hdp)⟩
          ·first | omega | (simp only []; omega)
          ·first | (show ((slH dp (((gd vs2 k).l ++ [gd (allF ea eb) i]).flatMap encS) 9 ++ M2) ++ _).Sublist _; rw [List.append_assoc]; exact sbt) | exact sbt
        ·refine B0 U (Al (.cons (T U) .nil) (Cw _)) ?_ U Ah
         rintro _ _ ⟨n144, rfl, rfl⟩
         refine ⟨sbt, (B4 (i := 0) (by kernel_rfl) (by kernel_rfl) ?_)⟩
         refine B0 U (Al .nil (bs25_0_z)) ?_ U Ah
         rintro _ _ ⟨n133, rfl, rfl⟩
         refine ⟨sbt, (B4 (i := 6) (by kernel_rfl) (by kernel_rfl) ?_)⟩
         refine B0 U (eff_appEmp ((gd vs2 k).l) (by' := 16) (by first | exact rfl | omega) (by repeat (first | exact locH1 | exact LocL.h | apply LocL.t | apply LocL.a)) (T U) (T U) runUnderlying25 runUnderlying25 sizeOf9 typeInfo9 U zeroValue9 U (fun _ => rfl) (fun _ => rfl) (by decide) (by omega) (hv2.pa _ (Ax (i := k) (by omega)) _ |>.mono sbt)) ?_ U Ah
         rintro _ _ ⟨d1, rfl, hd1, rfl⟩
         refine ⟨sbt, (Cn (by kernel_rfl) U ?_)⟩
         refine e_ (B8 (gd (allF ea eb) i) (by' := 16) (enc := encS) (l := (gd vs2 k).l) (by repeat (first | exact LocL.h | apply LocL.t | apply LocL.a)) (T U) (T U) runUnderlying25 runUnderlying25 sizeOf9 typeInfo9 U zeroValue9 U (fun _ => rfl) U hd1 (by decide) (by omega)) ?_ U
         rintro _ _ ⟨dp, rfl, hdp, rfl⟩
         refine y_ (Bg (T U) fa121_2) ?_ U
         first | refine A6 (As (T U) (T U) sizeOf25) U Ah ?_ | refine A6 (B5 (T U) (T U) U sizeOf25) U Ah ?_ | refine A6 (Bz (T U) (T U) U sizeOf25) U Ah ?_
         rintro _ _ ⟨rfl, rfl⟩
         refine Af (Ae (Bl [(7, _), (9, _), (11, _), (12, _), (13, _), (14, _), (15, _)] ⟨Aa U, Aa U, Aa U, Aa U, Aa U, Aa U, Aa U, trivial⟩ (Ab (y_ (Ac (T U)) (y_ (Am (T U) isAgg121 sizeOf121 U (by first | exact Bf)) ?_ U) U))))
         refine e_ (Al (.cons (T U) .nil) (bs122_1_0 _ _ _ _ _)) ?_ U
         rintro _ _ ⟨n149, rfl, rfl⟩
         refine e_ (B8 ((⟨((afterF ma.pl (gd st.l k).1 (gd (allF ea eb) i), afterF mb.pl (gd st.l k).2 (gd (allF ea eb) i)) : Pl), slQ dp, slC dp, (gd vs2 k).l ++ [gd (allF ea eb) i]⟩ : Vs)) (by' := 40) (enc := encVs) (l := vs2) (by repeat (first | exact LocL.h | apply LocL.t | apply LocL.a)) (T U) (T U) runUnderlying122 runUnderlying122 sizeOf121 typeInfo121 U zeroValue121 U (fun _ => rfl) U hv2.ok (by decide) (by omega)) ?_ U
         rintro _ _ ⟨d3, rfl, hd3, rfl⟩
         refine y_ (Ad (T U)) (Af (Bi (Ae (Ab (y_ (Ac (T U)) (y_ (Bt (T U) Ak (by omega)) ?_ U) U))))) U
         refine y_ (Ad (T U)) (Af ?_) U
         refine Bk ((i + 1, d3, vs2 ++ [⟨((afterF ma.pl (gd st.l k).1 (gd (allF ea eb) i), afterF mb.pl (gd st.l k).2 (gd (allF ea eb) i)) : Pl), slQ dp, slC dp, (gd vs2 k).l ++ [gd (allF ea eb) i]⟩], slH dp (((gd vs2 k).l ++ [gd (allF ea eb) i]).flatMap encS) 9 ++ M2)) ?_ ?_ ⟨atd, atd, trivial⟩ ⟨Aa U, Aa U, Aa U, Aa U, trivial⟩ ?_
         ·show i + 1 ≤ _ ∧ VsOk w0 _ _ _ (visAll k st (((stepsF (buildF leastF ea).1 (buildF leastF eb).1 (allF ea eb)) (gd st.l k)).take (i + 1)))
          rw [htk, visAll_snoc]
          exact ⟨by omega, hv2.new (k := k) (x := (((afterF ma.pl (gd st.l k).1 (gd (allF ea eb) i), afterF mb.pl (gd st.l k).2 (gd (allF ea eb) i)) : Pl), gd (allF ea eb) i)) (q := slQ dp) (c := slC dp) hbi (by omega) hnin hd3 (List.sublist_append_right _ _) (fun X => by rw [List.append_assoc]; exact A1 (fun _ => rfl) hdp)⟩
         ·first | omega | (simp only []; omega)
         ·first | (show ((slH dp (((gd vs2 k).l ++ [gd (allF ea eb) i]).flatMap encS) 9 ++ M2) ++ _).Sublist _; rw [List.append_assoc]; exact sbt) | exact sbt
       ·have hin : ((afterF ma.pl (gd st.l k).1 (gd (allF ea eb) i), afterF mb.pl (gd st.l k).2 (gd (allF ea eb) i)) : Pl) ∈ (visAll k st (((stepsF (buildF leastF ea).1 (buildF leastF eb).1 (allF ea eb)) (gd st.l k)).take i)).l := by
         obtain ⟨j', h1, h2⟩ := hkn.1 (by simpa using c132)
         exact (hv2.vr.mem _).2 ⟨j', by omega, h2⟩
        refine A4 (Bi (Ae (Ab (y_ (Ac (T U)) (y_ (Bt (T U) Ak (by omega)) ?_ U) U))))
        refine y_ (Ad (T U)) (Af ?_) U
        refine Bk ((i + 1, d2, vs2, M2)) ?_ ?_ ⟨atd, atd, trivial⟩ ⟨Aa U, Aa U, Aa U, Aa U, trivial⟩ ?_
        ·show i + 1 ≤ _ ∧ VsOk w0 _ _ _ (visAll k st (((stepsF (buildF leastF ea).1 (buildF leastF eb).1 (allF ea eb)) (gd st.l k)).take (i + 1)))
         rw [htk, visAll_snoc]
         exact ⟨by omega, hv2.old hin⟩
        ·first | omega | (simp only []; omega)
        ·first | (show ((slH dp (((gd vs2 k).l ++ [gd (allF ea eb) i]).flatMap encS) 9 ++ M2) ++ _).Sublist _; rw [List.append_assoc]; exact sbt) | exact sbt
     ·refine B2 (Ay (A2 (A3 (Bi (Ae (Ab (y_ (Ac (T U)) (y_ (Bt (T U) Ak (by omega)) ?_ U) U)))))))
      refine y_ (Ad (T U)) (Af ?_) U
      have hi2 : i = ((stepsF (buildF leastF ea).1 (buildF leastF eb).1 (allF ea eb)) (gd st.l k)).length := by rw [htl]; omega
      subst hi2
      rw [List.take_length] at hv2
      refine Bk ((k + 1, d2, vs2, M2, visAll k st ((stepsF (buildF leastF ea).1 (buildF leastF eb).1 (allF ea eb)) (gd st.l k)))) ?_ ?_ ⟨atd, atd, trivial⟩ ⟨Aa U, Aa U, Aa U, trivial⟩ ?_
      ·obtain ⟨hb1, hb2⟩ := hb.visAll (k' := k) ((stepsF (buildF leastF ea).1 (buildF leastF eb).1 (allF ea eb)) (gd st.l k)) hkl (hts _ hpk)
       refine ⟨⟨by have := hv2.vr.len; omega, hv2⟩, ⟨hb1.nd, hb1.ok, hb1.len, hb1.back, by omega⟩, ?_⟩
       rw [hgo, show ((buildF leastF ea).1.next.length * (buildF leastF eb).1.next.length) + 1 - k = (((buildF leastF ea).1.next.length * (buildF leastF eb).1.next.length) + 1 - (k + 1)) + 1 by omega, goF_succ, if_pos hkl, if_neg (by rw [hdk]; simpa using c69)]
      ·first | omega | (simp only []; omega)
      ·exact sbt
   ·have hkl : ¬ k < st.l.length := by rw [← hv.vr.len]; omega
    refine B2 (Ay (A2 (A3 (Ae (Ag (Ab (y_ (Ad Ak) (y_ (Ad Ak) (y_ (Ad Ak) (Af (Ae (A7 (A8 U (.tmp (Aa U) (.tmp (Aa U) (.tmp (Aa U) .nil))) ?_)))) U) U) U)))))))
    have he : equalF ea eb = ([], true, 0) := eqR_no ⟨hea, heb⟩ (f := ((buildF leastF ea).1.next.length * (buildF leastF eb).1.next.length) - k) (by rw [hgo]; congr 1; omega) hkl
    rw [he]; exact ⟨_, ⟨none, 0, [], ⟨rfl, arr_none, Nat.zero_le _⟩, rfl⟩, sbt⟩
end Go.Proofs.YtkdolgnpkjihpaaGreatDoor
namespace Go.Proofs.YtkdolgnpkjihpaaGreatDoor
open _root_.Go.Proofs.Tryz
open Go.RowKit
set_option linter.unusedVariables false
set_option linter.unusedSimpArgs false
theorem yl_notT {P : Program} {w0 : World} {L : Fm} {H : List (Nat × Obj)} {ty xt : TypeId} {x : Operand} {t : Bool} (hx : Ev L x (.bool t)) (h : t = false) : Yl P w0 (.unOp .not xt x) ty L H (.bool true) := by
 have := C1 (P := P) (w0 := w0) (H := H) (ty := ty) (xt := xt) hx
 rwa [h] at this
theorem yl_neBT {w0 : World} {L : Fm} {H : List (Nat × Obj)} {ty yt : TypeId} {x y : Operand} {a b : Bool} (hx : Ev L x (.bool a)) (hy : Ev L y (.bool b)) (h : a ≠ b) : Yl Tryz.prog w0 (.binOp .neq 4 x y yt) ty L H (.bool true) := by
 have := yl_neB (w0 := w0) (H := H) (ty := ty) (yt := yt) hx hy
 rwa [show (a != b) = true by simpa using h] at this
theorem requalE_s {w0 : World} {H : List (Nat × Obj)} (m1 m2 : Rxm) (ea eb : Re) (hIa : Is m1 ea) (hIb : Is m2 eb) (hMa : RxM w0 H m1) (hMb : RxM w0 H m2) (hla : ea.lv ≤ 32) (hlb : eb.lv ≤ 32) (hza : m1.sz ≤ 40) (hzb : m2.sz ≤ 40) {l : List ByteArray} {b : Bool} {c : Int} (he : equalF ea eb = (l, b, c)) :
  FSpec Tryz.prog w0 24 #[.agg (encRx m1).toArray, .agg (encRx m2).toArray] H (fun v H' => ∃ (q : Option Addr) (k : Nat) (M : List (Nat × Obj)), (v = .tuple #[.slice q l.length k, .bool b, .int .i64 c] ∧ Arr w0 (M ++ H) q 1 encS l ∧ l.length ≤ 50000) ∧ H' = M ++ H) := by
 have h := requal_s (w0 := w0) (H := H) m1 m2 ea eb hIa hIb hMa hMb hla hlb hza hzb
 rw [he] at h; exact h
theorem equal_err {a b : Re} {l : List ByteArray} {s : Bool} {c : Int} (he : equalF a b = (l, s, c)) (h : ¬ c = 0) : l = [] ∧ s = false ∧ c = 2 := by
 unfold equalF at he
 split at he
 ·obtain ⟨_, h2⟩ := Prod.mk.inj he
  obtain ⟨_, h3⟩ := Prod.mk.inj h2
  exact absurd h3.symm h
 ·obtain ⟨h1, h2⟩ := Prod.mk.inj he
  obtain ⟨h3, h4⟩ := Prod.mk.inj h2
  exact ⟨h1.symm, h3.symm, h4.symm⟩
theorem equal_semE {a b : Re} {l : List ByteArray} {s : Bool} {c : Int} (he : equalF a b = (l, s, c)) (hab : (Re.alt a b).lv ≤ 64) (h : c = 0) : (s = true → l = [] ∧ ∀ x, matchF a x = matchF b x) ∧ (s = false → matchF a l ≠ matchF b l ∧ ∀ x, matchF a x ≠ matchF b x → l.length ≤ x.length) := by
 have := equal_sem hab (by rw [he]; exact h)
 rw [he] at this; exact this
theorem eqdec_s {w0 : World} {H : List (Nat × Obj)} (r1 : Rxm) (hM1 : RxM w0 H r1) (hz1 : r1.sz ≤ 1048576) (r2 : Rxm) (hM2 : RxM w0 H r2) (hz2 : r2.sz ≤ 1048576) (l : List ByteArray) (q : Option Addr) (cp : Nat) (hL : Arr w0 H q 1 encS l) (hll : l.length ≤ 9223372036854775807) :
  FSpec Tryz.prog w0 5 #[.agg (encRx r1).toArray, .agg (encRx r2).toArray, .slice q l.length cp] H (Still (.bool true) H) := by
 refine Bc Tryz.func5 U ntmps5 U (Ag (Ab (e_ (Bj (T U) cs_) ?_ U)))
 rintro _ _ ⟨n3, rfl, rfl⟩
 refine e_ (Bj (T U) cs_) ?_ U
 rintro _ _ ⟨n4, rfl, rfl⟩
 refine y_ (Ad Ak) (Af (Ae (Ag (Ag (Ab (y_ (Am (T U) isAgg24 sizeOf24 U (by first | exact Bf)) ?_ U)))))) U
 refine e_ (Au (.cons (T U) .nil) call10 (few_s r1 (hM1.mono sbt) hz1)) ?_ U
 rintro _ _ ⟨⟨tf, rfl, hfew1⟩, rfl⟩
 first | refine Be (Cp (T U)) U Ah ?_ | refine Be (C1 (T U)) U Ah ?_
 refine y_ (Ac (T U)) ?_ U
 first | refine Cb (s := 17) (Aa U) (fun c17 => ?_) (fun c17 => ?_) | refine Cu (s := 17) (Aa U) (fun c17 => ?_) (fun c17 => ?_)
 ·refine Cv (Cv (Cv (y_ (Az (T U) Ak) (y_ (Ac (T U)) (Cv (Cv (Cv (y_ (Az (T U) Ak) (Af (Ae ?_)) U) U U U U) U U U U) U U U U) U) U) U U U U) U U U U) U U U U
  first | refine Bx (Aa U) ?_ | refine Bx (Ai (Aa U) (vbool (decide_eq_true c26))) ?_
  refine Ag (Ab (y_ (Av .nil call11 (fun H' hs => sanity_s)) (y_ (Ad (T U)) (Af (Ae (A7 (Ap (A8 U (.tmp (Aa U) .nil) ?_))))) U) U))
  first | exact ⟨_, ⟨rfl, rfl⟩, sbt⟩ | exact ⟨_, ⟨vbool (decide_eq_true U), rfl⟩, sbt⟩ | exact ⟨_, ⟨vbool (decide_eq_true (Int.ofNat_le.2 ((hsem.2 c75).2 l (by simpa using c99)))), rfl⟩, sbt⟩
 ·refine Be (Am (T U) isAgg24 sizeOf24 U (by first | exact Bf)) U (Ar U U (Aa U)) ?_
  refine A6 (Au (.cons (T U) .nil) call10 (few_s r2 (hM2.mono sbt) hz2)) U (Ar U U (Aa U)) ?_
  rintro _ _ ⟨⟨tg, rfl, hfew2⟩, rfl⟩
  first | refine Be (Cp (T U)) U (Ar U U (Aa U)) ?_ | refine Be (C1 (T U)) U (Ar U U (Aa U)) ?_
  refine y_ (A9 (T U) (T U)) (y_ (Ac (T U)) ?_ U) U
  first | refine Cb (s := 22) (Aa U) (fun c22 => ?_) (fun c22 => ?_) | refine Cu (s := 22) (Aa U) (fun c22 => ?_) (fun c22 => ?_)
  ·refine Cv (Cv (Cv (y_ (Az (T U) Ak) (Af (Ae ?_)) U) U U U U) U U U U) U U U U
   first | refine Bx (Aa U) ?_ | refine Bx (Ai (Aa U) (vbool (decide_eq_true c26))) ?_
   refine Ag (Ab (y_ (Av .nil call11 (fun H' hs => sanity_s)) (y_ (Ad (T U)) (Af (Ae (A7 (Ap (A8 U (.tmp (Aa U) .nil) ?_))))) U) U))
   first | exact ⟨_, ⟨rfl, rfl⟩, sbt⟩ | exact ⟨_, ⟨vbool (decide_eq_true U), rfl⟩, sbt⟩ | exact ⟨_, ⟨vbool (decide_eq_true (Int.ofNat_le.2 ((hsem.2 c75).2 l (by simpa using c99)))), rfl⟩, sbt⟩
  ·refine Be (Ac (T U)) U (Ar U U (Aa U)) (Be (Bn (T U) runUnderlying25) U (Ar U U (Aa U)) (Be (yl_gtr (T U) Ak) U (Ar U U (Aa U)) (y_ (A9 (T U) (T U)) (Af (Ae ?_)) U)))
   first | refine Ao (Aa U) (fun c26 => ?_) (fun c26 => ?_) | refine A5 (Aa U) (fun c26 => ?_) (fun c26 => ?_)
   ·refine Ag (Ab (y_ (Av .nil call11 (fun H' hs => sanity_s)) (y_ (Ad (T U)) (Af (Ae (A7 (Ap (A8 U (.tmp (Aa U) .nil) ?_))))) U) U))
    first | exact ⟨_, ⟨rfl, rfl⟩, sbt⟩ | exact ⟨_, ⟨vbool (decide_eq_true U), rfl⟩, sbt⟩ | exact ⟨_, ⟨vbool (decide_eq_true (Int.ofNat_le.2 ((hsem.2 c75).2 l (by simpa using c99)))), rfl⟩, sbt⟩
   ·obtain ⟨ea, hI1, hs1⟩ := hfew1 (by simpa using c17)
    obtain ⟨eb, hI2, hs2⟩ := hfew2 (by simpa using c22)
    have hv1 := hI1.lvz
    have hv2 := hI2.lvz
    have hl1 : ea.lv ≤ 64 := by omega
    have hl2 : eb.lv ≤ 64 := by omega
    have hab : (Re.alt ea eb).lv ≤ 64 := by show ea.lv + eb.lv ≤ 64; omega
    rcases hE : equalF ea eb with ⟨wd, sm, er⟩
    refine A4 (Ae (Ag (Ab (y_ (Am (T U) isAgg24 sizeOf24 U (by first | exact Bf)) ?_ U))))
    refine y_ (Am (T U) isAgg24 sizeOf24 U (by first | exact Bf)) ?_ U
    refine e_ (Au (.cons (T U) (.cons (T U) .nil)) call23 (Di r1 r2 ea eb hI1 hI2 (hM1.mono sbt) (hM2.mono sbt) (by omega) (by omega) hE)) ?_ U
    rintro _ _ ⟨d, ⟨rfl, hd⟩, rfl⟩
    refine y_ (Ac (T U)) (y_ (Ba (T U) U) (y_ (Ba (T U) U) (y_ (Ba (T U) U) (y_ (Ad (T U)) (y_ (Ad (T U)) (y_ (Ad (T U)) (Af (Ae (Bl [(2, _), (3, _), (4, _), (7, _), (8, _), (9, _)] ⟨Aa U, Aa U, Aa U, Aa U, Aa U, Aa U, trivial⟩ (Ag (Ab (y_ (Am (T U) isAgg24 sizeOf24 U (by first | exact Bf)) ?_ U)))))) U) U) U) U) U) U) U
    refine y_ (Am (T U) isAgg24 sizeOf24 U (by first | exact Bf)) ?_ U
    refine e_ (Au (.cons (T U) (.cons (T U) .nil)) call24 (requalE_s r1 r2 ea eb hI1 hI2 (hM1.mono sbt) (hM2.mono sbt) (by omega) (by omega) hs1 hs2 hE)) ?_ U
    rintro _ _ ⟨q2, c2, M2, ⟨rfl, hA2, hwl⟩, rfl⟩
    refine y_ (Ac (T U)) (y_ (Ba (T U) U) (y_ (Ba (T U) U) (y_ (Ba (T U) U) (y_ (Ad (T U)) (y_ (Ad (T U)) (y_ (Ad (T U)) (Af (Ae (Ag (Ag (Ab (y_ (Ac (T U)) (y_ (Ac (T U)) (y_ (Av (.cons (T U) (.cons (T U) .nil)) call25 (fun H' hs => still_b (decide_eq_true U) (sameNames_s (slQ d) q2 (slC d) c2 wd wd ((A1 (X := H) (enc := encS) (sz := 1) (e := 9) (l := wd) (fun _ => rfl) hd).mono (List.Sublist.trans sbt hs)) (hA2.mono (List.Sublist.trans sbt hs)) (by omega)))) ?_ U) U) U)))))) U) U) U) U) U) U) U
    first | refine Be (Cp (T U)) U Ah ?_ | refine Be (C1 (T U)) U Ah ?_
    refine y_ (Ac (T U)) (Be (Ac (T U)) U (Ar U U (Aa U)) (Be (Ac (T U)) U (Ar U U (Aa U)) (Be (yl_neBs (T U) (T U)) U (Ar U U (Aa U)) (y_ (A9 (T U) (T U)) (y_ (Ac (T U)) (Be (Ac (T U)) U (Ar U U (Aa U)) (Be (Ac (T U)) U (Ar U U (Aa U)) (Be (yl_neqs (T U) (T U)) U (Ar U U (Aa U)) (y_ (A9 (T U) (T U)) (Af (Ae (Bl [(2, _), (3, _), (4, _), (7, _), (8, _), (9, _), (55, _)] ⟨Aa U, Aa U, Aa U, Aa U, Aa U, Aa U, Aa U, trivial⟩ ?_))) U)))) U) U)))) U
    first | refine Br (Aa U) ?_ | refine Br (Ai (Aa U) (vbool (decide_eq_false c55))) ?_
    refine A4 (Ae (Ag (Ag (Ab (y_ (Ac (T U)) (y_ (Cy (T U) Ak) (Af (Ae ?_)) U) U)))))
    first | refine Ao (Aa U) (fun c57 => ?_) (fun c57 => ?_) | refine A5 (Aa U) (fun c57 => ?_) (fun c57 => ?_)
    ·obtain ⟨rfl, rfl, rfl⟩ := equal_err hE c57
     refine Ag (Ab (y_ (Av .nil call11 (fun H' hs => sanity_s)) (y_ (Ac (T U)) (Be (Ac (T U)) U (Ar U U (Aa U)) ?_) U) U))
     first | refine Be (Cp (T U)) U (Ar U U (Aa U)) ?_ | refine Be (C1 (T U)) U (Ar U U (Aa U)) ?_
     refine y_ (Az (T U) (T U)) (y_ (Ac (T U)) (Be (Ac (T U)) U (Ar U U (Aa U)) (Be (Bn (T U) runUnderlying25) U (Ar U U (Aa U)) (Be (By (T U) Ak) U (Ar U U (Aa U)) (y_ (Az (T U) (T U)) (y_ (Ad (T U)) (Af (Ae (A7 (Ap (A8 U (.tmp (Aa U) .nil) ?_))))) U) U)))) U) U
     first | exact ⟨_, ⟨rfl, rfl⟩, sbt⟩ | exact ⟨_, ⟨vbool (decide_eq_true U), rfl⟩, sbt⟩ | exact ⟨_, ⟨vbool (decide_eq_true (Int.ofNat_le.2 ((hsem.2 c75).2 l (by simpa using c99)))), rfl⟩, sbt⟩
    ·have hsem := equal_semE hE hab (Classical.not_not.1 c57)
     refine A4 (Ae (Ag (Cm 8 [(0, true), (1, true), (2, true), (3, true), (4, true), (5, true), (6, true), (7, true)] _ mixd (by kernel_rfl) sb0 ?_)))
     refine o_y U (Am (T U) isAgg24 sizeOf24 U (by first | exact Bf)) ?_ U Ah
     refine o_y rfl (Ac (T rfl)) (o_y rfl (Av (.cons (T rfl) (.cons (T rfl) .nil)) call16 (fun H' hs => match_s r1 ea q cp l hI1 (hM1.mono (List.Sublist.trans sbt hs)) hl1 (hL.mono (List.Sublist.trans sbt hs)) hll)) (o_y rfl (Am (T rfl) isAgg24 sizeOf24 rfl (by first | exact Bf)) ?_ rfl Ah) rfl Ah) rfl Ah
     refine o_y rfl (Ac (T rfl)) (o_y rfl (Av (.cons (T rfl) (.cons (T rfl) .nil)) call16 (fun H' hs => match_s r2 eb q cp l hI2 (hM2.mono (List.Sublist.trans sbt hs)) hl2 (hL.mono (List.Sublist.trans sbt hs)) hll)) (o_y rfl (yl_neB (T rfl) (T rfl)) (o_y rfl (Ad (T rfl)) (B3 rfl (Af (Ae (Ag (Ag (Ab (y_ (Ac (T rfl)) (Af (Ae ?_)) rfl))))))) rfl Ah) rfl Ah) rfl Ah) rfl Ah
     first | refine Ao (Aa U) (fun c75 => ?_) (fun c75 => ?_) | refine A5 (Aa U) (fun c75 => ?_) (fun c75 => ?_)
     ·obtain ⟨hw0, hsame⟩ := hsem.1 c75
      subst hw0
      refine Ag (Ab (y_ (Av .nil call11 (fun H' hs => sanity_s)) (y_ (Ac (T rfl)) (Be (Ac (T rfl)) rfl (Ar rfl rfl (Aa rfl)) (Be (yl_notT (T rfl) (by simp [hsame])) rfl (Ar rfl rfl (Aa rfl)) ?_)) rfl) rfl))
      refine y_ (Az (T U) (T U)) (y_ (Ac (T U)) (Be (Ac (T U)) U (Ar U U (Aa U)) (Be (Bn (T U) runUnderlying25) U (Ar U U (Aa U)) (Be (By (T U) Ak) U (Ar U U (Aa U)) (y_ (Az (T U) (T U)) (y_ (Ad (T U)) (Af (Ae (Bl [(6, _)] ⟨Aa U, trivial⟩ (A7 (Ap (A8 U (.tmp (Aa U) .nil) ?_)))))) U) U)))) U) U
      first | exact ⟨_, ⟨rfl, rfl⟩, sbt⟩ | exact ⟨_, ⟨vbool (decide_eq_true U), rfl⟩, sbt⟩ | exact ⟨_, ⟨vbool (decide_eq_true (Int.ofNat_le.2 ((hsem.2 c75).2 l (by simpa using c99)))), rfl⟩, sbt⟩
     ·refine A4 (Ae (Ag (Cm 22 [(0, true), (1, true), (2, true), (3, true), (4, true), (5, true), (6, true), (7, true), (8, true), (9, true), (10, true), (11, true), (12, true), (13, true), (14, true), (15, true), (16, true), (17, true), (18, true), (19, true), (20, true), (21, true)] _ mixd (by kernel_rfl) sb0 ?_)))
      refine o_y U (Av .nil call11 (fun H' hs => sanity_s)) (o_y U (Ac (T U)) (o_y U (Am (T U) isAgg24 sizeOf24 U (by first | exact Bf)) ?_ U (Ar U U (Aa U))) U Ah) U Ah
      refine o_y rfl (Ac (T rfl)) (o_y rfl (Av (.cons (T rfl) (.cons (T rfl) .nil)) call16 (fun H' hs => match_s r1 ea (slQ d) (slC d) wd hI1 (hM1.mono (List.Sublist.trans sbt hs)) hl1 ((A1 (X := H) (enc := encS) (sz := 1) (e := 9) (l := wd) (fun _ => rfl) hd).mono (List.Sublist.trans sbt hs)) (by omega))) ?_ rfl (Ar rfl rfl (Aa rfl))) rfl (Ar rfl rfl (Aa rfl))
      refine o_y U (Am (T U) isAgg24 sizeOf24 U (by first | exact Bf)) ?_ U (Ar U U (Aa U))
      refine o_y rfl (Ac (T rfl)) (o_y rfl (Av (.cons (T rfl) (.cons (T rfl) .nil)) call16 (fun H' hs => match_s r2 eb (slQ d) (slC d) wd hI2 (hM2.mono (List.Sublist.trans sbt hs)) hl2 ((A1 (X := H) (enc := encS) (sz := 1) (e := 9) (l := wd) (fun _ => rfl) hd).mono (List.Sublist.trans sbt hs)) (by omega))) ?_ rfl (Ar rfl rfl (Aa rfl))) rfl (Ar rfl rfl (Aa rfl))
      refine o_y U (yl_neBT (T U) (T U) (hsem.2 c75).1) (o_y U (Az (T U) (T U)) (o_y U (Ac (T U)) (o_y U (Ac (T U)) ?_ U (Ar U U (Aa U))) U Ah) U Ah) U (Ar U U (Aa U))
      first | refine o_y U (Cp (T U)) ?_ U (Ar U U (Aa U)) | refine o_y U (C1 (T U)) ?_ U (Ar U U (Aa U))
      refine o_y U (Ac (T U)) ?_ U (Ar U U (Aa U))
      first | refine C5 (s := 99) (Aa U) (fun c99 => ?_) (fun c99 => ?_) | refine D5 (s := 99) (Aa U) (fun c99 => ?_) (fun c99 => ?_)
      ·refine o_n U (o_n U (o_n U (o_n U (o_n U (o_y U (Az (T U) Ak) (o_y U (Az (T U) (T U)) (o_y U (Ad (T U)) (B3 U (Af (Ae (Bl [(6, _)] ⟨Aa U, trivial⟩ (A7 (A8 U (.tmp (Aa U) .nil) ?_)))))) U Ah) U Ah) U (Ar U U (Aa U))) U (Bh U U (Aa U))) U (Bh U U (Aa U))) U (Bh U U (Aa U))) U (Bh U U (Aa U))) U (Bh U U (Aa U))
       first | exact ⟨_, ⟨rfl, rfl⟩, sbt⟩ | exact ⟨_, ⟨vbool (decide_eq_true U), rfl⟩, sbt⟩ | exact ⟨_, ⟨vbool (decide_eq_true (Int.ofNat_le.2 ((hsem.2 c75).2 l (by simpa using c99)))), rfl⟩, sbt⟩
      ·refine o_y U (Ac (T U)) (o_y U (Bn (T U) runUnderlying25) (o_y U (Ac (T U)) (o_y U (Bn (T U) runUnderlying25) (o_y U (D1 (T U) (T U)) (o_y U (A9 (T U) (T U)) (o_y U (Az (T U) (T U)) (o_y U (Ad (T U)) (B3 U (Af (Ae (Bl [(6, _)] ⟨Aa U, trivial⟩ (A7 (A8 U (.tmp (Aa U) .nil) ?_)))))) U Ah) U Ah) U (Ar U U (Aa U))) U (Ar U U (Aa U))) U (Ar U U (Aa U))) U (Ar U U (Aa U))) U (Ar U U (Aa U))) U (Ar U U (Aa U))
       first | exact ⟨_, ⟨rfl, rfl⟩, sbt⟩ | exact ⟨_, ⟨vbool (decide_eq_true U), rfl⟩, sbt⟩ | exact ⟨_, ⟨vbool (decide_eq_true (Int.ofNat_le.2 ((hsem.2 c75).2 l (by simpa using c99)))), rfl⟩, sbt⟩
end Go.Proofs.YtkdolgnpkjihpaaGreatDoor
namespace Go.Proofs.YtkdolgnpkjihpaaGreatDoor
open _root_.Go.Proofs.Tryz
open Go.ChangeShapes Go.WideShapes Go.ChangeAt Go.RowKit Go.Joins Go.Deep
set_option linter.unusedSimpArgs false
set_option linter.unusedVariables false
set_option maxRecDepth 100000
theorem below_cell {W w : World} {p : Addr} {v : Value} (hb : Below W.heap.size W w) (h : W.cell? p = some v) : w.cell? p = some v := by
 have hlt := World.block_lt_of_cell? _ _ h
 have := hb.block p.block hlt
 unfold World.cell? at h ⊢
 rw [this]; exact h
theorem cell_arg {W : World} {p : Addr} {v : Value} (h : W.cell? p = some v) : Cell W [] p v := fun w hO => below_cell hO.below h
theorem blk_pos {H : Type} (d : DataW H) : 1 ≤ Rows.uptoBulk d := by
 cases d with
 | lit l => cases l <;> simp [Rows.uptoBulk]
 | nil => simp [Rows.uptoBulk]
 | ptr d => simp [Rows.uptoBulk]
 | slice elems spare => simp [Rows.uptoBulk]
 | agg parts => simp [Rows.uptoBulk]
 | iface t d => simp [Rows.uptoBulk]
 | map entries => simp [Rows.uptoBulk]
 | held h => simp [Rows.uptoBulk]
theorem blk_sum {H : Type} {f : Nat → Nat} {D : Nat → DataW H} : ∀ (l : List Nat), (∀ i ∈ l, f i ≤ Rows.uptoBulk (D i)) → (l.map f).sum ≤ Rows.uptoBulkAll (l.map D)
 | [], _ => Nat.le_refl _
 | x :: l, h => by
  have h1 := h x (by simp)
  have h2 := blk_sum l fun i hi => h i (by simp [hi])
  simp only [List.map_cons, List.sum_cons, Rows.uptoBulkAll]
  omega
theorem blk_mem {H : Type} {D : Nat → DataW H} : ∀ {l : List Nat} {i : Nat}, i ∈ l → Rows.uptoBulk (D i) ≤ Rows.uptoBulkAll (l.map D)
 | x :: l, i, h => by
  simp only [List.map_cons, Rows.uptoBulkAll]
  rcases List.mem_cons.1 h with rfl | h
  ·exact Nat.le_add_right _ _
  ·have := blk_mem (D := D) h; omega
section
variable {H : Type} {enc : TypeId × Value → H} {P : Program} {W : World} {b0 : Nat} {sp1 : Nat → Bool} {held : Bool}
theorem open_arr {α : Type} {t e sz fuel : Nat} {cs : List Value} {x : DataW H × List MemPlace} {el : α → List Value} {φ : α → Prop} {szf : α → Nat} (ht : P.underlying t = some (.slice e)) (hc : P.cellsOf e = sz) (hsz : 0 < sz)
  (hel : ∀ n cs y, Rows.uptoBulk y.1 < Rows.uptoBulk x.1 → DataW.trod enc P W b0 sp1 held n e cs = some y → ∃ u : α, cs = el u ∧ φ u ∧ szf u ≤ Rows.uptoBulk y.1) (h : DataW.trod enc P W b0 sp1 held fuel t cs = some x) :
  ∃ (q : Option Addr) (l : List α) (cap : Nat), cs = [.slice q l.length cap] ∧ Arr W [] q sz el l ∧ l.length ≤ cap ∧ l.length ≤ 9223372036854775807 ∧ (∀ u ∈ l, φ u) ∧ (l.map szf).sum + 1 ≤ Rows.uptoBulk x.1 := by
 rcases open_slice ht h with ⟨rfl, rfl⟩ | ⟨a, len, cap, m, n, D, Pl, rfl, hb, hl, hm, hmm, rfl, hx⟩
 ·exact ⟨none, [], 0, rfl, fun i u hi => by simp at hi, by simp, by simp, by simp, by simp [Rows.uptoBulk]⟩
 have hlm : len ≤ m := by rw [hmm]; split <;> omega
 have hlen : len ≤ 9223372036854775807 := by unfold maxLen at hm; omega
 cases len with
 | zero => exact ⟨some a, [], cap, rfl, fun i u hi => by simp at hi, by simp, by simp, by simp, by simp [Rows.uptoBulk]⟩
 | succ k =>
  have hbk : Rows.uptoBulkAll ((List.range (k + 1)).map D) + 1 ≤ Rows.uptoBulk (DataW.slice ((List.range (k + 1)).map D) ((List.range (m - (k + 1))).map fun j => D (k + 1 + j))) := by
   simp only [Rows.uptoBulk]; omega
  have each : ∀ i, i < k + 1 → ∃ u : α, W.cells? b0 (a.add (i * sz)) sz = some (el u) ∧ φ u ∧ szf u ≤ Rows.uptoBulk (D i) := fun i hi => by
   obtain ⟨cs', h1, h2⟩ := hx i (by omega)
   rw [hc] at h1
   have h3 := blk_mem (D := D) (List.mem_range.2 hi)
   obtain ⟨u, rfl, hu⟩ := hel _ _ _ (by simp only []; omega) h2
   exact ⟨u, h1, hu⟩
  obtain ⟨u0, h00, hu0⟩ := each 0 (by omega)
  letI : Inhabited α := ⟨u0⟩
  obtain ⟨f, hf⟩ := choose_lt each
  refine ⟨some a, (List.range (k + 1)).map f, cap, by simp, fun i u hi => ?_, by simpa using hl, by simpa using hlen, fun u hu => ?_, ?_⟩
  ·have hik : i < k + 1 := by have := (List.getElem?_eq_some_iff.1 hi).1; simpa using this
   have hfu : f i = u := by simpa [hik] using hi
   obtain ⟨sb, so, spot⟩ := a
   obtain ⟨_, hl0, hc0⟩ := World.cells?_some h00
   have hspot : spot = none := by
    have h6 := (hc0 0 hsz).trans (List.getElem?_eq_getElem (by omega))
    simpa [Addr.add] using World.cell?_spot h6
   subst hspot
   refine ⟨rfl, fun j v hj => cell_arg ?_⟩
   obtain ⟨_, hl1, hc1⟩ := World.cells?_some (hf i hik).1
   rw [hfu] at hl1 hc1
   have hjl := (List.getElem?_eq_some_iff.1 hj).1
   have h5 := hc1 j (by omega)
   rw [add_add, add_plain] at h5
   have h6 := h5.trans hj
   rw [← Nat.add_assoc] at h6
   exact h6
  ·obtain ⟨i, hi, rfl⟩ := List.mem_map.1 hu
   exact (hf i (List.mem_range.1 hi)).2.1
  ·have := blk_sum (f := fun i => szf (f i)) (D := D) (List.range (k + 1)) fun i hi => (hf i (List.mem_range.1 hi)).2.2
   rw [List.map_map]
   have e : (szf ∘ f) = fun i => szf (f i) := rfl
   rw [e]; simp only [] at hbk ⊢; omega
end
theorem cells3 : Tryz.prog.cellsOf 3 = 1 := by kernel_rfl
theorem cells9 : Tryz.prog.cellsOf 9 = 1 := by kernel_rfl
theorem cells22 : Tryz.prog.cellsOf 22 = 1 := by kernel_rfl
theorem cells24 : Tryz.prog.cellsOf 24 = 3 := by kernel_rfl
theorem own_knob : ownKnob Tryz.prog.godebug = none := by kernel_rfl
theorem i64_bd {n : Int} (h : (Lit.int .i64 n).wf = true) : -9223372036854775808 ≤ n ∧ n ≤ 9223372036854775807 := by
 have := bounds_i64 h; exact this
theorem sum_len {α : Type} (l : List α) : (l.map fun _ => 1).sum = l.length := by
 induction l with
 | nil => rfl
 | cons x l ih => simp only [List.map_cons, List.sum_cons, List.length_cons, ih]; omega
theorem szL_sum : ∀ l : List Rxm, szL l = (l.map Rxm.sz).sum
 | [] => rfl
 | x :: l => by simp only [szL, List.map_cons, List.sum_cons, szL_sum l]
section
variable {H : Type} {enc : TypeId × Value → H} {W : World} {b0 n : Nat} {sp1 : Nat → Bool} {held : Bool} {y : DataW H × List MemPlace} {cs : List Value}
theorem rd_int {c : Value} (h : DataW.trod enc Tryz.prog W b0 sp1 held n 3 [c] = some y) : ∃ a : Int, c = .int .i64 a ∧ (-9223372036854775808 ≤ a ∧ a ≤ 9223372036854775807) := by
 obtain ⟨a, e0, _, wa⟩ := DataW.trod_int underlying3 h
 simp at e0
 exact ⟨a, e0, i64_bd wa⟩
theorem rd_str (h : DataW.trod enc Tryz.prog W b0 sp1 held n 9 cs = some y) : ∃ u : ByteArray, cs = encS u ∧ u.size ≤ 9223372036854775807 := by
 obtain ⟨s, e0, _, ws⟩ := DataW.trod_string underlying9 h
 exact ⟨s, e0, by unfold maxLen at ws; omega⟩
theorem rd_strs (h : DataW.trod enc Tryz.prog W b0 sp1 held n 25 cs = some y) : ∃ (q : Option Addr) (l : List ByteArray) (cap : Nat), cs = [.slice q l.length cap] ∧ Arr W [] q 1 encS l ∧ l.length ≤ cap ∧ l.length ≤ 9223372036854775807 ∧ l.length ≤ Rows.uptoBulk y.1 := by
 obtain ⟨q, l, cap, e, a, c, b, _, s⟩ := open_arr (el := encS) (φ := fun _ => True) (szf := fun _ => 1) underlying25 cells9 (by omega) (fun n cs y _ h => by obtain ⟨u, e, _⟩ := rd_str h; exact ⟨u, e, trivial, blk_pos _⟩) h
 rw [sum_len] at s
 exact ⟨q, l, cap, e, a, c, b, by omega⟩
theorem rd_rx : ∀ (N : Nat) {n : Nat} {y : DataW H × List MemPlace} {cs : List Value}, Rows.uptoBulk y.1 ≤ N → DataW.trod enc Tryz.prog W b0 sp1 held n 24 cs = some y → ∃ u : Rxm, cs = encRx u ∧ RxM W [] u ∧ u.sz ≤ Rows.uptoBulk y.1
 | 0, n, y, cs, hN, _ => by have := blk_pos y.1; omega
 | N + 1, n, y, cs, hN, h => by
  obtain ⟨xs, m, rfl, rfl, hlen, hxl, hall⟩ := DataW.trod_struct underlying24 h
  rw [cells24] at hlen
  match xs, hxl, cs, hlen with
  | [x0, x1, x2], _, [c0, c1, c2], _ =>
   have f0 : DataW.trod enc Tryz.prog W b0 sp1 held m 3 [c0] = some x0 := by have := hall 0 _ rfl; simpa [cells3] using this
   have f1 : DataW.trod enc Tryz.prog W b0 sp1 held m 9 [c1] = some x1 := by have := hall 1 _ rfl; simpa [cells9] using this
   have f2 : DataW.trod enc Tryz.prog W b0 sp1 held m 22 [c2] = some x2 := by have := hall 2 _ rfl; simpa [cells22] using this
   have hb : Rows.uptoBulk x2.1 + 2 ≤ Rows.uptoBulk (DataW.agg (H := H) ([x0, x1, x2].map (·.1))) := by
    have := blk_pos x0.1; have := blk_pos x1.1
    simp only [Rows.uptoBulk, Rows.uptoBulkAll, List.map_cons, List.map_nil] at *; omega
   have hN' : Rows.uptoBulk (DataW.agg (H := H) ([x0, x1, x2].map (·.1))) ≤ N + 1 := hN
   obtain ⟨k, rfl, _⟩ := rd_int f0
   obtain ⟨s, e1, hs⟩ := rd_str f1
   obtain ⟨q, l, cap, e2, ha, hc, hl, hf, hsum⟩ := open_arr (el := encRx) (φ := RxM W []) (szf := Rxm.sz) underlying22 cells24 (by omega) (fun n cs y hy h => rd_rx N (by omega) h) f2
   simp at e1 e2
   refine ⟨.mk k s q cap l, by rw [e1, e2]; rfl, .mk ha hf hs hl, ?_⟩
   rw [sz_eq, show (Rxm.mk k s q cap l).args = l from rfl, szL_sum]
   exact Nat.le_trans (by omega : 1 + (l.map Rxm.sz).sum ≤ Rows.uptoBulk x2.1 + 2) hb
theorem open_rx {base : Nat} {r : _root_.Go.Reach} {v : Value} {d : DataW H} {p : List MemPlace} (hv : Value.okWide Tryz.prog W r base 24 v) (h : DataW.Trod enc Tryz.prog W b0 sp1 held 24 v d p) : ∃ u : Rxm, v = .agg (encRx u).toArray ∧ RxM W [] u ∧ u.sz ≤ Rows.uptoBulk d := by
 obtain ⟨cs, rfl, hsz⟩ := okWide_struct underlying24 hv
 obtain ⟨fuel, hf⟩ := h
 obtain ⟨l⟩ := cs
 obtain ⟨u, e, hu⟩ := rd_rx _ (Nat.le_refl _) hf
 simp only [Value.cells] at e
 exact ⟨u, by rw [← e], hu⟩
theorem open_strs {base : Nat} {r : _root_.Go.Reach} {v : Value} {d : DataW H} {p : List MemPlace} (hv : Value.okWide Tryz.prog W r base 25 v) (h : DataW.Trod enc Tryz.prog W b0 sp1 held 25 v d p) : ∃ (q : Option Addr) (l : List ByteArray) (cap : Nat), v = .slice q l.length cap ∧ Arr W [] q 1 encS l ∧ l.length ≤ cap ∧ l.length ≤ 9223372036854775807 ∧ l.length ≤ Rows.uptoBulk d := by
 obtain ⟨a0, len0, cap0, rfl⟩ := okWide_slice underlying25 hv
 obtain ⟨fuel, hf⟩ := h
 obtain ⟨q, l, cap, e, r⟩ := rd_strs hf
 simp only [Value.cells, List.cons.injEq, and_true] at e
 exact ⟨q, l, cap, e, r⟩
end
end Go.Proofs.YtkdolgnpkjihpaaGreatDoor
namespace Go.Proofs.YtkdolgnpkjihpaaGreatDoor
open _root_.Go.Proofs.Tryz
open Go.ChangeShapes Go.WideShapes Go.ChangeAt Go.RowKit Go.Joins
set_option linter.unusedSimpArgs false
set_option linter.unusedVariables false
set_option maxRecDepth 100000
section
variable {H : Type} {enc : TypeId × Value → H} {W : World}
theorem laid_out : laidOutB Tryz.prog = true := by kernel_rfl
theorem trodAll_stays : ∀ {ts : List TypeId} {vs : List Value} {ds : List (DataW H)} {ps : List MemPlace} {W' : World}, (∀ t ∈ ts, Tryz.prog.readableRec t = true ∧ t < Tryz.prog.types.size) → DataW.TrodAll enc Tryz.prog W 0 (fun _ => true) true ts vs ds ps → Below W.heap.size W W' → (∀ x ∈ ps, x.block < W.heap.size) →
  DataW.TrodAll enc Tryz.prog W' 0 (fun b => decide (b < W.heap.size)) true ts vs ds ps
 | [], _, _, _, _, _, h, _, _ => by obtain ⟨rfl, rfl, rfl⟩ := trodAll_nil h; exact trodAll_mk0
 | t :: ts, _, _, _, _, hr, h, hb, hlt => by
  obtain ⟨v, vs, d, ds, p, q, rfl, rfl, rfl, h0, r0⟩ := trodAll_cons h
  exact trodAll_cons_mk (Below.trod laid_out (hr t (by simp)).1 (hr t (by simp)).2 h0 hb (fun x hx => hlt x (by simp [hx]))) (trodAll_stays (fun t ht => hr t (by simp [ht])) r0 hb (fun x hx => hlt x (by simp [hx])))
end
theorem calls_true {f : FuncId} {args : Array Value} {W : World} (h : FSpec Tryz.prog W f args [] (Still (.bool true) [])) : Calls Tryz.prog f args W fun e W' => e = .returned (.bool true) ∧ Below W.heap.size W W' :=
 (h W (Own.start W)).mono fun e W' ⟨v, H', he, hO, hv, _⟩ => ⟨by rw [he, hv], hO.below⟩
def tab32 : Array Value := #[.int .u8 0, .int .u8 1, .int .u8 28, .int .u8 2, .int .u8 29, .int .u8 14, .int .u8 24, .int .u8 3, .int .u8 30, .int .u8 22, .int .u8 20, .int .u8 15, .int .u8 25, .int .u8 17, .int .u8 4, .int .u8 8, .int .u8 31, .int .u8 27, .int .u8 13, .int .u8 23, .int .u8 21, .int .u8 19, .int .u8 16, .int .u8 7, .int .u8 26, .int .u8 12, .int .u8 18, .int .u8 6, .int .u8 11, .int .u8 5, .int .u8 10, .int .u8 9]
def tab64 : Array Value := #[.int .u8 0, .int .u8 1, .int .u8 56, .int .u8 2, .int .u8 57, .int .u8 49, .int .u8 28, .int .u8 3, .int .u8 61, .int .u8 58, .int .u8 42, .int .u8 50, .int .u8 38, .int .u8 29, .int .u8 17, .int .u8 4, .int .u8 62, .int .u8 47, .int .u8 59, .int .u8 36, .int .u8 45, .int .u8 43, .int .u8 51, .int .u8 22, .int .u8 53, .int .u8 39, .int .u8 33, .int .u8 30, .int .u8 24, .int .u8 18, .int .u8 12, .int .u8 5, .int .u8 63, .int .u8 55, .int .u8 48, .int .u8 27, .int .u8 60, .int .u8 41, .int .u8 37, .int .u8 16, .int .u8 46, .int .u8 35, .int .u8 44, .int .u8 21, .int .u8 52, .int .u8 32, .int .u8 23, .int .u8 11, .int .u8 54, .int .u8 26, .int .u8 40, .int .u8 15, .int .u8 34, .int .u8 20, .int .u8 31, .int .u8 10, .int .u8 25, .int .u8 14, .int .u8 19, .int .u8 9, .int .u8 13, .int .u8 8, .int .u8 7, .int .u8 6]
def tab10 : Array Value := #[.int .u64 1, .int .u64 10, .int .u64 100, .int .u64 1000, .int .u64 10000, .int .u64 100000, .int .u64 1000000, .int .u64 10000000, .int .u64 100000000, .int .u64 1000000000, .int .u64 10000000000, .int .u64 100000000000, .int .u64 1000000000000, .int .u64 10000000000000, .int .u64 100000000000000, .int .u64 1000000000000000, .int .u64 10000000000000000, .int .u64 100000000000000000, .int .u64 1000000000000000000, .int .u64 10000000000000000000]
def layObj (a : Array Value) : Obj → Obj
 | .cells _ t frozen => .cells a t frozen
 | o => o
noncomputable def laidWorld (os : Os) : World :=
 { World.holding Tryz.prog os ⟨#[], #[], []⟩ with heap := (((World.holding Tryz.prog os ⟨#[], #[], []⟩).heap.modify 0 (layObj tab10)).modify 1 (layObj tab32)).modify 2 (layObj tab64) }
end Go.Proofs.YtkdolgnpkjihpaaGreatDoor
