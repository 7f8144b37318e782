/-
  A part of what LawP rests on: the logic, walks and plain laws. No condition.
-/
import Derived.Test.YtkdolgnpkjihpaaGreatDoorJP4
namespace Go.Proofs.YtkdolgnpkjihpaaGreatDoor
open _root_.Go.Proofs.Tryz
open Go.RowKit
set_option linter.unusedVariables false
set_option linter.unusedSimpArgs false
def lx : List Nat → List Nat → Prop
 | x :: a, y :: b => x < y ∨ (x = y ∧ lx a b)
 | _, _ => False
theorem lx_app : ∀ {a b : List Nat} (c d : List Nat), lx a b → lx (a ++ c) (b ++ d)
 | [], _, _, _, h => by cases h
 | _ :: _, [], _, _, h => by cases h
 | x :: a, y :: b, c, d, h => by
  simp only [lx, List.cons_append] at h ⊢
  exact h.imp id fun h => ⟨h.1, lx_app c d h.2⟩
theorem lx_last : ∀ (a : List Nat) {x y : Nat}, x < y → lx (a ++ [x]) (a ++ [y])
 | [], x, y, h => .inl h
 | z :: a, x, y, h => .inr ⟨rfl, lx_last a h⟩
def ltL (a b : List Nat) : Prop := a.length < b.length ∨ (a.length = b.length ∧ lx a b)
def leL (a b : List Nat) : Prop := ltL a b ∨ a = b
theorem ltL_snoc {a b : List Nat} (x y : Nat) (h : ltL a b) : ltL (a ++ [x]) (b ++ [y]) := by
 unfold ltL at *
 simp only [List.length_append, List.length_cons, List.length_nil]
 rcases h with h | ⟨h, h2⟩
 ·left; omega
 ·right; exact ⟨by omega, lx_app _ _ h2⟩
section
variable {σ : Type} [Inhabited σ]
def pth (w : List (Int × σ)) (i : Nat) : List σ := (backF w (i + 1) i).reverse
theorem pth_zero {w : List (Int × σ)} (h : (gd w 0).1 = -1) : pth w 0 = [] := by
 unfold pth; rw [backF_succ, if_neg (by omega)]; rfl
theorem pth_snoc {w : List (Int × σ)} (hw : ∀ i, i < w.length → -1 ≤ (gd w i).1 ∧ (gd w i).1 < i) {i : Nat} (hi : i < w.length) (h0 : 0 ≤ (gd w i).1) : pth w i = pth w (gd w i).1.toNat ++ [(gd w i).2] := by
 have h1 := (hw i hi).2
 unfold pth
 rw [backF_succ, if_pos h0, List.reverse_cons]
 rw [backF_fuel hw i (gd w i).1.toNat (by omega) (by omega)]
theorem backF_app {w : List (Int × σ)} (hw : ∀ i, i < w.length → -1 ≤ (gd w i).1 ∧ (gd w i).1 < i) (x : List (Int × σ)) : ∀ (f i : Nat), i < w.length → backF (w ++ x) f i = backF w f i
 | 0, _, _ => rfl
 | f + 1, i, hi => by
  rw [backF_succ, backF_succ, Cn hi]
  split
  ·rename_i h0
   have h1 := (hw i hi).2
   rw [backF_app hw x f _ (by omega)]
  ·rfl
theorem pth_app {w : List (Int × σ)} (hw : ∀ i, i < w.length → -1 ≤ (gd w i).1 ∧ (gd w i).1 < i) (x : List (Int × σ)) {i : Nat} (hi : i < w.length) : pth (w ++ x) i = pth w i := by
 unfold pth; rw [backF_app hw x _ _ hi]
inductive Chn (ts : Pl → List (Pl × σ)) (p : Pl) : List σ → Pl → Prop
 | nil : Chn ts p [] p
 | snoc {ls : List σ} {q r : Pl} {s : σ} : Chn ts p ls q → (r, s) ∈ ts q → Chn ts p (ls ++ [s]) r
structure BI (ts : Pl → List (Pl × σ)) (rk : σ → Nat) (p0 : Pl) (k : Nat) (d : List (Pl × σ)) (st : BS σ) : Prop where
 nd : st.l.Nodup
 len : st.w.length = st.l.length
 fst : gd st.l 0 = p0 ∧ (gd st.w 0).1 = -1 ∧ 0 < st.l.length
 kl : k ≤ st.l.length
 edge : ∀ i, 0 < i → i < st.l.length → 0 ≤ (gd st.w i).1 ∧ (gd st.w i).1 < i ∧ (gd st.l i, (gd st.w i).2) ∈ ts (gd st.l (gd st.w i).1.toNat) ∧ ((gd st.w i).1 < k ∨ ((gd st.w i).1 = k ∧ (gd st.l i, (gd st.w i).2) ∈ d))
 mono : ∀ i j, 0 < i → i < j → j < st.l.length → (gd st.w i).1 < (gd st.w j).1 ∨ ((gd st.w i).1 = (gd st.w j).1 ∧ rk (gd st.w i).2 < rk (gd st.w j).2)
 done : ∀ j, j < k → ∀ x ∈ ts (gd st.l j), ∃ i, i < st.l.length ∧ gd st.l i = x.1 ∧ (i = 0 ∨ (gd st.w i).1 < j ∨ ((gd st.w i).1 = j ∧ rk (gd st.w i).2 ≤ rk x.2))
 part : ∀ x ∈ d, ∃ i, i < st.l.length ∧ gd st.l i = x.1 ∧ (i = 0 ∨ (gd st.w i).1 < k ∨ ((gd st.w i).1 = k ∧ rk (gd st.w i).2 ≤ rk x.2))
variable {ts : Pl → List (Pl × σ)} {rk : σ → Nat} {p0 : Pl}
theorem BI.start : BI ts rk p0 0 [] ⟨[p0], [(-1, default)]⟩ where
 nd := by simp
 len := rfl
 fst := ⟨rfl, rfl, by simp⟩
 kl := Nat.zero_le _
 edge i h1 h2 := by simp at h2; omega
 mono i j h1 h2 h3 := by simp at h3; omega
 done j hj := by omega
 part x hx := by cases hx
theorem BI.back {k : Nat} {d : List (Pl × σ)} {st : BS σ} (h : BI ts rk p0 k d st) : ∀ i, i < st.w.length → -1 ≤ (gd st.w i).1 ∧ (gd st.w i).1 < i := fun i hi => by
 rw [h.len] at hi
 rcases Nat.eq_zero_or_pos i with rfl | h0
 ·rw [h.fst.2.1]; omega
 ·have := h.edge i h0 hi; omega
theorem memPl {l : List Pl} {p : Pl} (h : p ∈ l) : ∃ i, i < l.length ∧ gd l i = p := by
 obtain ⟨i, hi, e⟩ := List.getElem_of_mem h
 exact ⟨i, hi, by rw [Bg hi]; exact e⟩
theorem BI.vis {k : Nat} {d rest : List (Pl × σ)} {x : Pl × σ} {st : BS σ} (h : BI ts rk p0 k d st) (hk : k < st.l.length) (ht : ts (gd st.l k) = d ++ x :: rest) (hr : (ts (gd st.l k)).Pairwise fun a b => rk a.2 < rk b.2) : BI ts rk p0 k (d ++ [x]) (visF k st x) := by
 have hlt : ∀ y ∈ d, rk y.2 < rk x.2 := fun y hy => by
  rw [ht] at hr
  exact (List.pairwise_append.1 hr).2.2 y hy x (by simp)
 have hxm : x ∈ ts (gd st.l k) := by rw [ht]; simp
 unfold visF
 by_cases hx : x.1 ∈ st.l
 ·rw [if_pos hx]
  refine ⟨h.nd, h.len, h.fst, h.kl, fun i h1 h2 => ?_, h.mono, h.done, fun y hy => ?_⟩
  ·obtain ⟨a, b, c, e⟩ := h.edge i h1 h2
   exact ⟨a, b, c, e.imp id fun e => ⟨e.1, List.mem_append_left _ e.2⟩⟩
  ·rcases List.mem_append.1 hy with hy | hy
   ·exact h.part y hy
   ·simp only [List.mem_cons, List.not_mem_nil, or_false] at hy
    subst hy
    obtain ⟨i, hi, e⟩ := memPl hx
    refine ⟨i, hi, e, ?_⟩
    rcases Nat.eq_zero_or_pos i with h0 | h0
    ·exact .inl h0
    ·obtain ⟨_, _, _, e2⟩ := h.edge i h0 hi
     rcases e2 with e2 | e2
     ·exact .inr (.inl e2)
     ·exact .inr (.inr ⟨e2.1, Nat.le_of_lt (hlt _ e2.2)⟩)
 ·rw [if_neg hx]
  have hln := h.len
  have g1 : ∀ i, i < st.l.length → gd (st.l ++ [x.1]) i = gd st.l i := fun i hi => Cn hi
  have g2 : ∀ i, i < st.l.length → gd (st.w ++ [((k : Int), x.2)]) i = gd st.w i := fun i hi => Cn (by omega)
  have g3 : gd (st.l ++ [x.1]) st.l.length = x.1 := C6
  have g4 : gd (st.w ++ [((k : Int), x.2)]) st.l.length = ((k : Int), x.2) := by rw [← hln]; exact C6
  have hp0 := h.fst.2.2
  refine ⟨?_, by simp [hln], ⟨by simp only []; rw [g1 0 hp0]; exact h.fst.1, by simp only []; rw [g2 0 hp0]; exact h.fst.2.1, by simp⟩, by simp; have := h.kl; omega, fun i h1 h2 => ?_, fun i j h1 h2 h3 => ?_, fun j hj y hy => ?_, fun y hy => ?_⟩
  ·exact List.nodup_append.2 ⟨h.nd, by simp, fun a ha b hb => by simp at hb; subst hb; rintro rfl; exact hx ha⟩
  ·simp only [] at h2 ⊢
   simp only [List.length_append, List.length_cons, List.length_nil] at h2
   by_cases e : i = st.l.length
   ·subst e
    rw [g3, g4]
    simp only [Int.toNat_natCast]
    rw [g1 k hk]
    exact ⟨by omega, by omega, hxm, .inr ⟨by simp, by simp⟩⟩
   ·have hi : i < st.l.length := by omega
    obtain ⟨a, b, c, e⟩ := h.edge i h1 hi
    rw [g1 i hi, g2 i hi, g1 _ (by omega)]
    exact ⟨a, b, c, e.imp id fun e => ⟨e.1, List.mem_append_left _ e.2⟩⟩
  ·simp only [] at h3 ⊢
   simp only [List.length_append, List.length_cons, List.length_nil] at h3
   have hi : i < st.l.length := by omega
   rw [g2 i hi]
   by_cases e : j = st.l.length
   ·subst e
    rw [g4]
    obtain ⟨a, b, c, e⟩ := h.edge i h1 hi
    exact e.imp id fun e => ⟨e.1, hlt _ e.2⟩
   ·rw [g2 j (by omega)]
    exact h.mono i j h1 h2 (by omega)
  ·simp only [] at hy ⊢
   rw [g1 j (by omega)] at hy
   obtain ⟨i, hi, e1, e2⟩ := h.done j hj y hy
   exact ⟨i, by simp; omega, by rw [g1 i hi]; exact e1, by rw [g2 i hi]; exact e2⟩
  ·simp only []
   rcases List.mem_append.1 hy with hy | hy
   ·obtain ⟨i, hi, e1, e2⟩ := h.part y hy
    exact ⟨i, by simp; omega, by rw [g1 i hi]; exact e1, by rw [g2 i hi]; exact e2⟩
   ·simp only [List.mem_cons, List.not_mem_nil, or_false] at hy
    subst hy
    exact ⟨st.l.length, by simp, g3, by rw [g4]; exact .inr (.inr ⟨rfl, Nat.le_refl _⟩)⟩
theorem BI.all' {k : Nat} : ∀ (rest d : List (Pl × σ)) {st : BS σ}, BI ts rk p0 k d st → k < st.l.length → ts (gd st.l k) = d ++ rest → ((ts (gd st.l k)).Pairwise fun a b => rk a.2 < rk b.2) → BI ts rk p0 k (d ++ rest) (visAll k st rest)
 | [], d, st, h, _, _, _ => by rw [List.append_nil]; exact h
 | x :: rest, d, st, h, hk, ht, hr => by
  have h1 := h.vis hk ht hr
  have hg : gd (visF k st x).l k = gd st.l k := visF_get hk
  have h2 := BI.all' rest (d ++ [x]) h1 (by
   unfold visF; split
   ·exact hk
   ·simp; omega) (by rw [hg, ht]; simp) (by rw [hg]; exact hr)
  rw [List.append_assoc] at h2
  exact h2
theorem BI.next {k : Nat} {st : BS σ} (h : BI ts rk p0 k [] st) (hk : k < st.l.length) (hr : (ts (gd st.l k)).Pairwise fun a b => rk a.2 < rk b.2) : BI ts rk p0 (k + 1) [] (visAll k st (ts (gd st.l k))) := by
 have h1 := h.all' (ts (gd st.l k)) [] hk U hr
 obtain ⟨hg, hl⟩ := visAll_get (k := k) (ts (gd st.l k)) (st := st) hk
 rw [List.nil_append] at h1
 refine ⟨h1.nd, h1.len, h1.fst, by omega, fun i a b => ?_, h1.mono, fun j hj x hx => ?_, fun x hx => by cases hx⟩
 ·obtain ⟨e1, e2, e3, e4⟩ := h1.edge i a b
  exact ⟨e1, e2, e3, .inl (by omega)⟩
 ·by_cases e : j = k
  ·subst e
   rw [hg] at hx
   exact h1.part x hx
  ·exact h1.done j (by omega) x hx
theorem BI.lt {k : Nat} {d : List (Pl × σ)} {st : BS σ} (h : BI ts rk p0 k d st) : ∀ (n i j : Nat), j ≤ n → i < j → j < st.l.length → ltL ((pth st.w i).map rk) ((pth st.w j).map rk)
 | 0, i, j, hn, hij, _ => by omega
 | n + 1, i, j, hn, hij, hj => by
  obtain ⟨a, b, c, e⟩ := h.edge j (by omega) hj
  rw [pth_snoc h.back (by rw [h.len]; exact hj) a]
  rcases Nat.eq_zero_or_pos i with rfl | h0
  ·rw [pth_zero h.fst.2.1]; left; simp
  ·obtain ⟨a2, b2, c2, e2⟩ := h.edge i h0 (by omega)
   rw [pth_snoc h.back (by rw [h.len]; omega) a2]
   simp only [List.map_append, List.map_cons, List.map_nil]
   rcases h.mono i j h0 hij hj with hm | ⟨hm, hm2⟩
   ·exact ltL_snoc _ _ (h.lt n (gd st.w i).1.toNat (gd st.w j).1.toNat (by omega) (by omega) (by omega))
   ·rw [hm]; exact .inr ⟨by simp, lx_last _ hm2⟩
theorem BI.le {k : Nat} {d : List (Pl × σ)} {st : BS σ} (h : BI ts rk p0 k d st) {i j : Nat} (hij : i ≤ j) (hj : j < st.l.length) : leL ((pth st.w i).map rk) ((pth st.w j).map rk) := by
 rcases Nat.lt_or_ge i j with h1 | h1
 ·exact .inl (h.lt j i j (Nat.le_refl _) h1 hj)
 ·rw [show i = j by omega]; exact .inr U
end
end Go.Proofs.YtkdolgnpkjihpaaGreatDoor
namespace Go.Proofs.YtkdolgnpkjihpaaGreatDoor
open _root_.Go.Proofs.Tryz
open Go.RowKit
set_option linter.unusedVariables false
set_option linter.unusedSimpArgs false
def lnOf (l : Lnk) : Ln := ⟨l.src.toNat, l.dst.toNat, l.cap⟩
def nnOf (n : Nm) : Nn := ⟨n.nodes, n.links.map lnOf, n.edges, n.qn, n.cn, n.ql, n.cl, n.qe, n.ce⟩
abbrev toInts (l : List Nat) : List Int := l.map fun k : Nat => (k : Int)
structure Rch (n : Nn) (f : Flr) (m : PM) (x : Nat) (ks : List Pl) : Prop where
 mem : ∀ q, q ∈ ks ↔ ¬ f.node = x ∧ ∃ ls, Chn (movesF n f m) (p0F n m x) ls q
 srt : ks.Pairwise plLt
 ok : ∀ q ∈ ks, PlOk n m q
end Go.Proofs.YtkdolgnpkjihpaaGreatDoor
namespace Go.Proofs.YtkdolgnpkjihpaaGreatDoor
open _root_.Go.Proofs.Tryz
open Go.RowKit
set_option linter.unusedVariables false
set_option linter.unusedSimpArgs false
section
variable {w0 : World} {H : List (Nat × Obj)} {n : Nm} {f : Flr} {m : Mc} {x to : Nat}
structure NF (w0 : World) (H : List (Nat × Obj)) (n : Nm) (f : Flr) (x to : Nat) : Prop where
 nm : NetM w0 H n
 fl : Arr w0 H f.q 1 encI f.links
 rg : RgtOk n f x to
theorem NF.mono {H' : List (Nat × Obj)} (h : NF w0 H n f x to) (hs : H.Sublist H' := by exact sbt) : NF w0 H' n f x to := ⟨h.nm.mono hs, h.fl.mono hs, h.rg⟩
theorem NF.hx (h : NF w0 H n f x to) : x < (nnOf n).nodes.length := by have := h.rg.x; show x < n.nodes.length; omega
end
theorem Rch.nd {n : Nn} {f : Flr} {m : PM} {x : Nat} {ks : List Pl} (h : Rch n f m x ks) : ks.Nodup := h.srt.imp fun {a b} hab e => by
 subst e; unfold plLt at hab; omega
end Go.Proofs.YtkdolgnpkjihpaaGreatDoor
namespace Go.Proofs.YtkdolgnpkjihpaaGreatDoor
open _root_.Go.Proofs.Tryz
open Go.RowKit
set_option linter.unusedVariables false
set_option linter.unusedSimpArgs false
set_option linter.unusedSectionVars false
structure Vi where
 p : Pl
 q : Option Addr
 c : Nat
 l : List Nat
instance : Inhabited Vi := ⟨⟨(0, 0), none, 0, []⟩⟩
abbrev encVi (v : Vi) : List Value := [.int .i64 (v.p.1 : Int), .int .i64 (v.p.2 : Int), .slice v.q v.l.length v.c]
structure VR (vs : List Vi) (st : BS Nat) : Prop where
 len : vs.length = st.l.length
 at' : ∀ i, i < vs.length → (gd vs i).p = gd st.l i ∧ (gd vs i).l = pth st.w i
theorem VR.mem {vs : List Vi} {st : BS Nat} (h : VR vs st) (p : Pl) : p ∈ st.l ↔ ∃ j, j < vs.length ∧ (gd vs j).p = p := by
 constructor
 ·intro hp
  obtain ⟨j, hj, e⟩ := memPl hp
  exact ⟨j, by rw [h.len]; exact hj, by rw [(h.at' j (by rw [h.len]; exact hj)).1]; exact e⟩
 ·rintro ⟨j, hj, e⟩
  rw [← e, (h.at' j hj).1]
  exact Az (by rw [← h.len]; exact hj)
theorem VR.start (p : Pl) : VR [⟨p, none, 0, []⟩] ⟨[p], [(-1, default)]⟩ := ⟨rfl, fun i hi => by
 simp at hi; subst hi
 exact ⟨rfl, rfl⟩⟩
theorem VR.old {Pd : Pl → Prop} {k k' : Nat} {st : BS Nat} {vs : List Vi} (h : VR vs st) {x : Pl × Nat} (hx : x.1 ∈ st.l) : VR vs (visF k st x) := by
 unfold visF; rw [if_pos hx]; exact h
theorem VR.new {Pd : Pl → Prop} {k k' : Nat} {st : BS Nat} {vs : List Vi} (h : VR vs st) (hb : BSok Pd k' st) (hk : k < st.l.length) {x : Pl × Nat} (hx : x.1 ∉ st.l) (q : Option Addr) (c : Nat) : VR (vs ++ [⟨x.1, q, c, (gd vs k).l ++ [x.2]⟩]) (visF k st x) := by
 have hw := hb.len
 have hl := h.len
 have hback : ∀ i, i < (st.w ++ [((k : Int), x.2)]).length → -1 ≤ (gd (st.w ++ [((k : Int), x.2)]) i).1 ∧ (gd (st.w ++ [((k : Int), x.2)]) i).1 < i := fun i hi => by
  by_cases e : i = st.w.length
  ·subst e; rw [C6]; simp only []; omega
  ·have hi' : i < st.w.length := by simp at hi; omega
   rw [Cn hi']; exact hb.back i hi'
 unfold visF; rw [if_neg hx]
 refine ⟨by simp [hl], fun i hi => ?_⟩
 by_cases e : i = vs.length
 ·subst e
  rw [C6]
  simp only []
  have e1 : gd (st.l ++ [x.1]) vs.length = x.1 := by rw [hl]; exact C6
  refine ⟨e1.symm, ?_⟩
  have e2 : gd (st.w ++ [((k : Int), x.2)]) vs.length = ((k : Int), x.2) := by rw [hl, ← hw]; exact C6
  rw [pth_snoc hback (by simp; omega) (by rw [e2]; simp only []; omega), e2]
  simp only [Int.toNat_natCast]
  rw [pth_app hb.back _ (by omega), (h.at' k (by omega)).2]
 ·have hi' : i < vs.length := by simp at hi; omega
  rw [Cn hi']
  simp only []
  rw [Cn (by omega), pth_app hb.back _ (by omega)]
  exact h.at' i hi'
end Go.Proofs.YtkdolgnpkjihpaaGreatDoor
namespace Go.Proofs.YtkdolgnpkjihpaaGreatDoor
open _root_.Go.Proofs.Tryz
open Go.RowKit
set_option linter.unusedVariables false
set_option linter.unusedSimpArgs false
structure VOk (w0 : World) (H M : List (Nat × Obj)) (vs : List Vi) (d : Sl) (st : BS Nat) : Prop where
 ok : SlOk d vs.length 3
 vr : VR vs st
 pa : ∀ u ∈ vs, Arr w0 (M ++ H) u.q 1 encU u.l
theorem VOk.path {w0 : World} {H M : List (Nat × Obj)} {vs : List Vi} {d : Sl} {st : BS Nat} (h : VOk w0 H M vs d st) {i : Nat} (hi : i < vs.length) : Arr w0 (M ++ H) (gd vs i).q 1 encU (gd vs i).l := h.pa _ (Az hi)
theorem VOk.arr {w0 : World} {H M X : List (Nat × Obj)} {vs : List Vi} {d : Sl} {st : BS Nat} (h : VOk w0 H M vs d st) : Arr w0 (slH d (vs.flatMap encVi) 135 ++ X) (slQ d) 3 encVi vs := Ba (fun _ => rfl) h.ok
theorem VOk.old {w0 : World} {H M : List (Nat × Obj)} {vs : List Vi} {d : Sl} {st : BS Nat} (h : VOk w0 H M vs d st) {k : Nat} {x : Pl × Nat} (hx : x.1 ∈ st.l) : VOk w0 H M vs d (visF k st x) := ⟨h.ok, h.vr.old (Pd := fun _ => True) (k' := 0) hx, h.pa⟩
theorem VOk.new {w0 : World} {H M M' : List (Nat × Obj)} {vs : List Vi} {d d' : Sl} {st : BS Nat} (h : VOk w0 H M vs d st) {Pd : Pl → Prop} {k k' : Nat} (hb : BSok Pd k' st) (hk : k < st.l.length) {x : Pl × Nat} (hx : x.1 ∉ st.l) {q : Option Addr} {c : Nat} (hd : SlOk d' (vs ++ [(⟨x.1, q, c, (gd vs k).l ++ [x.2]⟩ : Vi)]).length 3) (hs : (M ++ H).Sublist (M' ++ H)) (hA : Arr w0 (M' ++ H) q 1 encU ((gd vs k).l ++ [x.2])) : VOk w0 H M' (vs ++ [(⟨x.1, q, c, (gd vs k).l ++ [x.2]⟩ : Vi)]) d' (visF k st x) :=
 ⟨hd, h.vr.new (Pd := Pd) (k' := k') hb hk hx q c, fun u hu => by
  rcases List.mem_append.1 hu with hu | hu
  ·exact (h.pa u hu).mono hs
  ·simp at hu; subst hu; exact hA⟩
end Go.Proofs.YtkdolgnpkjihpaaGreatDoor
namespace Go.Proofs.YtkdolgnpkjihpaaGreatDoor
open _root_.Go.Proofs.Tryz
open Go.RowKit
set_option linter.unusedVariables false
set_option linter.unusedSimpArgs false
end Go.Proofs.YtkdolgnpkjihpaaGreatDoor
namespace Go.Proofs.YtkdolgnpkjihpaaGreatDoor
open _root_.Go.Proofs.Tryz
open Go.RowKit
set_option linter.unusedVariables false
set_option linter.unusedSimpArgs false
end Go.Proofs.YtkdolgnpkjihpaaGreatDoor
namespace Go.Proofs.YtkdolgnpkjihpaaGreatDoor
open _root_.Go.Proofs.Tryz
open Go.RowKit
set_option linter.unusedVariables false
set_option linter.unusedSimpArgs false
theorem yl_geSD {P : Program} {w0 : World} {L : Fm} {H : List (Nat × Obj)} {x y : Operand} {xt yt ty : TypeId} {a b : ByteArray} (hx : Ev L x (.string a)) (hy : Ev L y (.string b)) : Yl P w0 (.binOp .geq xt x y yt) ty L H (.bool (decide (¬ toL a < toL b))) := Ca U fun b' w => by
 have e1 : Op.bytesLess a.toList b.toList = decide (a.data.toList < b.data.toList) := by rw [Go.Proofs.bytesLess_eq, ByteArray.toList_eq, ByteArray.toList_eq]
 have e2 : (!(decide (a.data.toList < b.data.toList))) = decide (¬ toL a < toL b) := by
  rw [Bool.eq_iff_iff]; simp [toL]
 rw [← e2]
 simp [exO, execOp, hx b', hy b', binOp, eqGuard, Op.stringOp, Sem.run_bind, Result.andThen, e1]
def rrowOk (k n : Nat) (l : List Int) : Prop := l.length = k + 1 ∧ ∀ j, j < l.length → 0 ≤ gd l j ∧ gd l j < n
def RChk (m : Mi) : Prop := (1 ≤ m.rows.length ∧ m.rows.length ≤ 200 ∧ m.acc.length = m.rows.length) ∧ (∀ i, i < m.names.length → 0 < i → toL (gd m.names (i - 1)) < toL (gd m.names i)) ∧ (∀ i, i < m.rows.length → rrowOk m.names.length m.rows.length (gd m.rows i).l)
theorem srt_adj {names : List ByteArray} (h : ∀ i, i < names.length → 0 < i → toL (gd names (i - 1)) < toL (gd names i)) : Srt names := by
 have key : ∀ d i, i + d + 1 < names.length → toL (gd names i) < toL (gd names (i + d + 1)) := by
  intro d
  induction d with
  | zero => intro i hi; have := h (i + 1) (by omega) (by omega); simpa using this
  | succ d ih =>
   intro i hi
   have h1 := ih i (by omega)
   have h2 := h (i + (d + 1) + 1) hi (by omega)
   rw [show i + (d + 1) + 1 - 1 = i + d + 1 by omega] at h2
   exact List.lt_trans h1 h2
 refine List.pairwise_iff_getElem.2 fun i j hi hj hij => ?_
 have := key (j - i - 1) i (by omega)
 rw [show i + (j - i - 1) + 1 = j by omega, Bg hi, Bg hj] at this
 exact this
def mcI (m : Mi) : Mc := ⟨m.names, m.rows.map fun r => ⟨r.q, r.c, r.l.map Int.toNat⟩, m.acc, m.q1, m.c1, m.q2, m.c2, m.q3, m.c3⟩
theorem mcI_enc (m : Mi) : encMc (mcI m) = encMi m := by simp [mcI]
theorem mcI_ok {w0 : World} {H : List (Nat × Obj)} {m : Mi} (h : MiOk w0 H m) (hc : RChk m) : McOk w0 H (mcI m) := by
 refine ⟨h.a1, fun i x hi => ?_, h.a3, fun r hr => ?_⟩
 ·simp only [mcI, List.getElem?_map] at hi
  cases hl : m.rows[i]? with
  | none => rw [hl] at hi; cases hi
  | some r =>
   rw [hl] at hi
   have h1 := h.a2 i r hl
   have : (⟨r.q, r.c, r.l.map Int.toNat⟩ : RowQ) = x := by simpa using hi
   subst this
   have e : encRQ ⟨r.q, r.c, r.l.map Int.toNat⟩ = encRI r := by simp [encRI, encRQ]
   rw [e]; exact h1
 ·simp only [mcI, List.mem_map] at hr
  obtain ⟨r0, h0, rfl⟩ := hr
  have h1 := h.r r0 h0
  intro i x hi
  simp only [List.getElem?_map] at hi
  cases hl : r0.l[i]? with
  | none => rw [hl] at hi; cases hi
  | some z =>
   rw [hl] at hi
   have hz : z.toNat = x := by simpa using hi
   obtain ⟨k, hk, rfl⟩ := List.getElem_of_mem h0
   have h2 := hc.2.2 k hk
   rw [Bg hk] at h2
   have hlt : i < (m.rows[k]).l.length := (List.getElem?_eq_some_iff.1 hl).1
   have h3 := (h2.2 i hlt).1
   have h4 : gd (m.rows[k]).l i = z := by rw [Bg hlt]; exact (List.getElem?_eq_some_iff.1 hl).2
   rw [h4] at h3
   have h5 := h1 i z hl
   have e : encU x = encI z := by subst hz; show [Value.int .i64 ((z.toNat : Nat) : Int)] = [.int .i64 z]; rw [Int.toNat_of_nonneg h3]
   rw [e]; exact h5
theorem mcI_pm {m : Mi} (hc : RChk m) : PMok (mcI m).pl := by
 obtain ⟨⟨h1, h2, h3⟩, _, h5⟩ := hc
 have hrl : (mcI m).pl.next.length = m.rows.length := by simp [mcI, Mc.pl]
 refine ⟨by omega, by omega, by rw [hrl]; exact h3, fun r hr => ?_⟩
 simp only [mcI, Mc.pl, List.mem_map, List.map_map] at hr
 obtain ⟨r0, h0, rfl⟩ := hr
 obtain ⟨k, hk, rfl⟩ := List.getElem_of_mem h0
 have h6 := h5 k hk
 rw [Bg hk] at h6
 refine ⟨by show ((m.rows[k]).l.map Int.toNat).length = m.names.length + 1; rw [List.length_map]; exact h6.1, fun s hs => ?_⟩
 have hs' : s ∈ (m.rows[k]).l.map Int.toNat := hs
 obtain ⟨z, hz, rfl⟩ := List.mem_map.1 hs'
 obtain ⟨j, hj, rfl⟩ := List.getElem_of_mem hz
 have h7 := h6.2 j hj
 rw [Bg hj] at h7
 rw [hrl]; omega
theorem mcI_srt {m : Mi} (hc : RChk m) : Srt (mcI m).names := srt_adj hc.2.1
theorem rcheck_s {w0 : World} {H : List (Nat × Obj)} (m : Mi) (hm : MiOk w0 H m) :
  FSpec Tryz.prog w0 14 #[.agg (encMi m).toArray] H (fun v H' => (∃ b, v = .bool b ∧ (b = true ↔ RChk m)) ∧ H' = H) := by
 refine A8 Tryz.func14 U ntmps14 U ?_
 have hl1 := hm.l1
 have hl2 := hm.l2
 have hl3 : ∀ i, i < m.rows.length → (gd m.rows i).l.length ≤ 1048576 := fun i hi => hm.l3 _ (Az hi)
 refine Ag (Ab (e_ (Bi (T U) cs_) ?_ U))
 rintro _ _ ⟨n1, rfl, rfl⟩
 refine y_ (Ad Ak) (Af (Ae (Ag (Ag (Ab (y_ (Be (T U) Ck) (y_ (Aj (T U) isAgg26 (by first | exact c_o)) ?_ U) U)))))) U
 refine y_ (Bm (T U) runUnderlying26) (y_ (Bz (T U) Ak) (y_ (Ac (T U)) ?_ U) U) U
 first | refine Cb (s := 10) (Aa U) (fun c10 => ?_) (fun c10 => ?_) | refine Cw (s := 10) (Aa U) (fun c10 => ?_) (fun c10 => ?_)
 ·refine Cm (Cm (Cm (Cm (y_ (A4 (T U) Ak) (y_ (Ac (T U)) (Cm (Cm (Cm (Cm (Cm (Cm (Cm (y_ (A4 (T U) Ak) (Af (Ae ?_)) U) U U U U) U U U U) U U U U) U U U U) U U U U) U U U U) U U U U) U) U) U U U U) U U U U) U U U U) U U U U
  first | refine Bp (Aa U) ?_ | refine Bp (Ai (Aa U) (vbool (decide_eq_true c24))) ?_
  refine Ag (Ab (y_ (Ad Ak) (Af (Ae (A5 (An (A6 U (.tmp (Aa U) .nil) ?_))))) U))
  first | exact ⟨_, ⟨⟨_, rfl, (fun h => by cases h), fun h => by have := h.1; omega⟩, rfl⟩, sbt⟩ | exact ⟨_, ⟨⟨_, rfl, (fun h => by cases h), fun h => by have h2 := h.2.1 i (by omega) (by omega); rw [hi1] at c43; exact absurd h2 c43⟩, rfl⟩, sbt⟩ | exact ⟨_, ⟨⟨_, rfl, (fun h => by cases h), fun h => by have h2 := (h.2.2 i (by omega)).1; omega⟩, rfl⟩, sbt⟩ | exact ⟨_, ⟨⟨_, rfl, (fun h => by cases h), fun h => by have h2 := (h.2.2 i (by omega)).2 j (by omega); omega⟩, rfl⟩, sbt⟩ | exact ⟨_, ⟨⟨_, rfl, (fun _ => ⟨by omega, hsr, fun k hk => hro k (by omega)⟩), fun _ => rfl⟩, rfl⟩, sbt⟩
 ·refine Bj (Be (T U) Ck) U (As U U (Aa U)) (Bj (Aj (T U) isAgg26 (by first | exact c_o)) U (As U U (Aa U)) ?_)
  refine Bj (Bm (T U) runUnderlying26) U (As U U (Aa U)) (Bj (Dw (T U) Ak) U (As U U (Aa U)) (y_ (A9 (T U) (T U)) (y_ (Ac (T U)) ?_ U) U))
  first | refine Cb (s := 16) (Aa U) (fun c16 => ?_) (fun c16 => ?_) | refine Cw (s := 16) (Aa U) (fun c16 => ?_) (fun c16 => ?_)
  ·refine Cm (Cm (Cm (Cm (Cm (Cm (Cm (y_ (A4 (T U) Ak) (Af (Ae ?_)) U) U U U U) U U U U) U U U U) U U U U) U U U U) U U U U) U U U U
   first | refine Bp (Aa U) ?_ | refine Bp (Ai (Aa U) (vbool (decide_eq_true c24))) ?_
   refine Ag (Ab (y_ (Ad Ak) (Af (Ae (A5 (An (A6 U (.tmp (Aa U) .nil) ?_))))) U))
   first | exact ⟨_, ⟨⟨_, rfl, (fun h => by cases h), fun h => by have := h.1; omega⟩, rfl⟩, sbt⟩ | exact ⟨_, ⟨⟨_, rfl, (fun h => by cases h), fun h => by have h2 := h.2.1 i (by omega) (by omega); rw [hi1] at c43; exact absurd h2 c43⟩, rfl⟩, sbt⟩ | exact ⟨_, ⟨⟨_, rfl, (fun h => by cases h), fun h => by have h2 := (h.2.2 i (by omega)).1; omega⟩, rfl⟩, sbt⟩ | exact ⟨_, ⟨⟨_, rfl, (fun h => by cases h), fun h => by have h2 := (h.2.2 i (by omega)).2 j (by omega); omega⟩, rfl⟩, sbt⟩ | exact ⟨_, ⟨⟨_, rfl, (fun _ => ⟨by omega, hsr, fun k hk => hro k (by omega)⟩), fun _ => rfl⟩, rfl⟩, sbt⟩
  ·refine Bj (Be (T U) C5) U (As U U (Aa U)) (Bj (Aj (T U) isAgg27 (by first | exact c_o)) U (As U U (Aa U)) ?_)
   refine Bj (Bm (T U) runUnderlying27) U (As U U (Aa U)) (Bj (Be (T U) Ck) U (As U U (Aa U)) (Bj (Aj (T U) isAgg26 (by first | exact c_o)) U (As U U (Aa U)) ?_))
   refine Bj (Bm (T U) runUnderlying26) U (As U U (Aa U)) (Bj (C0 (T U) (T U)) U (As U U (Aa U)) (y_ (A9 (T U) (T U)) (Af (Ae ?_)) U))
   first | refine Ao (Aa U) (fun c24 => ?_) (fun c24 => ?_) | refine A3 (Aa U) (fun c24 => ?_) (fun c24 => ?_)
   ·refine Ag (Ab (y_ (Ad Ak) (Af (Ae (A5 (An (A6 U (.tmp (Aa U) .nil) ?_))))) U))
    first | exact ⟨_, ⟨⟨_, rfl, (fun h => by cases h), fun h => by have := h.1; omega⟩, rfl⟩, sbt⟩ | exact ⟨_, ⟨⟨_, rfl, (fun h => by cases h), fun h => by have h2 := h.2.1 i (by omega) (by omega); rw [hi1] at c43; exact absurd h2 c43⟩, rfl⟩, sbt⟩ | exact ⟨_, ⟨⟨_, rfl, (fun h => by cases h), fun h => by have h2 := (h.2.2 i (by omega)).1; omega⟩, rfl⟩, sbt⟩ | exact ⟨_, ⟨⟨_, rfl, (fun h => by cases h), fun h => by have h2 := (h.2.2 i (by omega)).2 j (by omega); omega⟩, rfl⟩, sbt⟩ | exact ⟨_, ⟨⟨_, rfl, (fun _ => ⟨by omega, hsr, fun k hk => hro k (by omega)⟩), fun _ => rfl⟩, rfl⟩, sbt⟩
   ·refine A2 (Ae (Ag (Ag (Ab (y_ (Ad Ak) (Af (Ae (Au ?_))) U)))))
    refine Ce (X := Nat) (V := fun i => [(3, .int .i64 (i : Nat))]) (C := [(1, _)]) (φ := fun i => (1 ≤ i ∧ i ≤ m.names.length + 1) ∧ ∀ j, j < i → 0 < j → toL (gd m.names (j - 1)) < toL (gd m.names j)) (μ := fun i => m.names.length + 1 - i) (x0 := 1) ?_ ⟨Aa U, trivial⟩ ⟨atd, trivial⟩ ?_
    ·exact ⟨⟨Nat.le_refl _, by omega⟩, fun j h1 h2 => by omega⟩
    rintro i ⟨⟨hi0, hi⟩, hso⟩
    refine Ag (Ag (Ab (y_ (Ac (T U)) (y_ (Bn (T U) Da) (y_ (Aj (T U) isAgg25 (by first | exact c_o)) ?_ U) U) U)))
    refine y_ (Bm (T U) runUnderlying25) (y_ (Bz (T U) (T U)) (Af (Ae ?_)) U) U
    first | refine Ao (Aa U) (fun c29 => ?_) (fun c29 => ?_) | refine A3 (Aa U) (fun c29 => ?_) (fun c29 => ?_)
    ·have hi1 : ((i : Int) - 1).toNat = i - 1 := by omega
     refine A2 (Ae (Ag (Au (Ag (Cj 12 [(0, true), (1, true), (2, true), (3, true), (4, true), (5, true), (6, true), (7, true), (8, true), (9, true), (10, true), (11, true)] _ mixd (by kernel_rfl) sb0 ?_)))))
     refine o_y U (Bn (T U) Da) (o_y U (Aj (T U) isAgg25 (by first | exact c_o)) ?_ U Ah) U Ah
     refine o_y U (Ac (T U)) (o_y U (yl_sub (T U) Ak (by omega)) ?_ U Ah) U Ah
     refine o_y U (Cp (T U) (T U) runUnderlying25 sizeOf9 (by omega) (by first | exact rfl | exact hm.a1.b (i := ((i : Int) - 1).toNat) (by omega) | exact hm.a1.b (i := i) (by omega) | exact hm.a2.b (i := i) (by omega) | exact hr.b (i := j) (by omega))) ?_ U Ah
     refine o_y U (Aj (T U) isAgg9 (by first | exact c_o | exact cell1 ((hm.a1.mono sbt).cs (i := ((i : Int) - 1).toNat) (by omega)))) ?_ U Ah
     refine o_y U (Bn (T U) Da) (o_y U (Aj (T U) isAgg25 (by first | exact c_o)) ?_ U Ah) U Ah
     refine o_y U (Ac (T U)) (o_y U (Bb (T U) (T U) runUnderlying25 sizeOf9 (by omega) (by first | exact rfl | exact hm.a1.b (i := ((i : Int) - 1).toNat) (by omega) | exact hm.a1.b (i := i) (by omega) | exact hm.a2.b (i := i) (by omega) | exact hr.b (i := j) (by omega))) ?_ U Ah) U Ah
     refine o_y U (Aj (T U) isAgg9 (by first | exact c_o | exact cell1 ((hm.a1.mono sbt).cs (i := i) (by omega)))) ?_ U Ah
     refine o_y U (yl_geSD (T U) (T U)) (B2 U (Af (Ae ?_))) U Ah
     first | refine Ao (Aa U) (fun c43 => ?_) (fun c43 => ?_) | refine A3 (Aa U) (fun c43 => ?_) (fun c43 => ?_)
     ·refine Ag (Ab (y_ (Ad Ak) (Af (Ae (A5 (Aq (An (B4 (Aq (An (A6 U (.tmp (Aa U) .nil) ?_))))))))) U))
      first | exact ⟨_, ⟨⟨_, rfl, (fun h => by cases h), fun h => by have := h.1; omega⟩, rfl⟩, sbt⟩ | exact ⟨_, ⟨⟨_, rfl, (fun h => by cases h), fun h => by have h2 := h.2.1 i (by omega) (by omega); rw [hi1] at c43; exact absurd h2 c43⟩, rfl⟩, sbt⟩ | exact ⟨_, ⟨⟨_, rfl, (fun h => by cases h), fun h => by have h2 := (h.2.2 i (by omega)).1; omega⟩, rfl⟩, sbt⟩ | exact ⟨_, ⟨⟨_, rfl, (fun h => by cases h), fun h => by have h2 := (h.2.2 i (by omega)).2 j (by omega); omega⟩, rfl⟩, sbt⟩ | exact ⟨_, ⟨⟨_, rfl, (fun _ => ⟨by omega, hsr, fun k hk => hro k (by omega)⟩), fun _ => rfl⟩, rfl⟩, sbt⟩
     ·refine A2 (Bl (Ae (Ab (y_ (Ac (T U)) (y_ (Bu (T U) Ak (by omega)) ?_ U) U))))
      refine y_ (Ad (T U)) (Af ?_) U
      refine Bo (i + 1) ?_ ?_ ⟨atd, trivial⟩ ⟨Aa U, trivial⟩ ?_
      ·refine ⟨⟨by omega, by omega⟩, fun j h1 h2 => ?_⟩
       by_cases e : j = i
       ·subst e; rw [hi1] at c43; exact Decidable.not_not.1 c43
       ·exact hso j (by omega) h2
      ·first | omega | (simp only []; omega)
      ·exact sbt
    ·have hsr : ∀ j, j < m.names.length → 0 < j → toL (gd m.names (j - 1)) < toL (gd m.names j) := fun j h1 h2 => hso j (by omega) h2
     refine B1 (Ay (A0 (A1 (Ae (Ag (Ag (Ab (y_ (Ad Ak) (Af (Ae (Au ?_))) U))))))))
     refine Ce (X := Nat) (V := fun i => [(4, .int .i64 (i : Nat))]) (C := [(1, _)]) (φ := fun i => i ≤ m.rows.length ∧ ∀ j, j < i → rrowOk m.names.length m.rows.length (gd m.rows j).l) (μ := fun i => m.rows.length - i) (x0 := 0) ?_ ⟨Aa U, trivial⟩ ⟨atd, trivial⟩ ?_
     ·exact ⟨Nat.zero_le _, fun j h1 => by omega⟩
     rintro i ⟨hi2, hro⟩
     refine Ag (Ag (Ab (y_ (Ac (T U)) (y_ (Be (T U) Ck) (y_ (Aj (T U) isAgg26 (by first | exact c_o)) ?_ U) U) U)))
     refine y_ (Bm (T U) runUnderlying26) (y_ (Bz (T U) (T U)) (Af (Ae ?_)) U) U
     first | refine Ao (Aa U) (fun c48 => ?_) (fun c48 => ?_) | refine A3 (Aa U) (fun c48 => ?_) (fun c48 => ?_)
     ·have hr := hm.r _ (Az (l := m.rows) (i := i) (by omega))
      have hrl := hl3 i (by omega)
      refine A2 (Ae (Ag (Au (Ag (Ag (Cj 11 [(0, true), (1, true), (2, true), (3, true), (4, true), (5, true), (6, true), (7, true), (8, true), (9, true), (10, true)] _ mixd (by kernel_rfl) sb0 ?_))))))
      refine o_y U (Be (T U) Ck) (o_y U (Aj (T U) isAgg26 (by first | exact c_o)) ?_ U Ah) U Ah
      refine o_y U (Ac (T U)) (o_y U (Bb (T U) (T U) runUnderlying26 sizeOf42 (by omega) (by first | exact rfl | exact hm.a1.b (i := ((i : Int) - 1).toNat) (by omega) | exact hm.a1.b (i := i) (by omega) | exact hm.a2.b (i := i) (by omega) | exact hr.b (i := j) (by omega))) ?_ U Ah) U Ah
      refine o_y U (Aj (T U) isAgg42 (by first | exact c_o | exact cell1 ((hm.a2.mono sbt).cs (i := i) (by omega)))) ?_ U Ah
      refine o_y U (Bm (T U) runUnderlying42) (o_y U (Bn (T U) Da) (o_y U (Aj (T U) isAgg25 (by first | exact c_o)) ?_ U Ah) U Ah) U Ah
      refine o_y U (Bm (T U) runUnderlying25) (o_y U (Bu (T U) Ak (by omega)) ?_ U Ah) U Ah
      refine o_y U (C0 (T U) (T U)) (B2 U (Af (Ae ?_))) U Ah
      first | refine Ao (Aa U) (fun c61 => ?_) (fun c61 => ?_) | refine A3 (Aa U) (fun c61 => ?_) (fun c61 => ?_)
      ·refine Ag (Ab (y_ (Ad Ak) (Af (Ae (A5 (An (Aq (An (B4 (Aq (An (A6 U (.tmp (Aa U) .nil) ?_)))))))))) U))
       first | exact ⟨_, ⟨⟨_, rfl, (fun h => by cases h), fun h => by have := h.1; omega⟩, rfl⟩, sbt⟩ | exact ⟨_, ⟨⟨_, rfl, (fun h => by cases h), fun h => by have h2 := h.2.1 i (by omega) (by omega); rw [hi1] at c43; exact absurd h2 c43⟩, rfl⟩, sbt⟩ | exact ⟨_, ⟨⟨_, rfl, (fun h => by cases h), fun h => by have h2 := (h.2.2 i (by omega)).1; omega⟩, rfl⟩, sbt⟩ | exact ⟨_, ⟨⟨_, rfl, (fun h => by cases h), fun h => by have h2 := (h.2.2 i (by omega)).2 j (by omega); omega⟩, rfl⟩, sbt⟩ | exact ⟨_, ⟨⟨_, rfl, (fun _ => ⟨by omega, hsr, fun k hk => hro k (by omega)⟩), fun _ => rfl⟩, rfl⟩, sbt⟩
      ·refine A2 (Ae (Ag (Ab (y_ (Ad Ak) (Af (Ae (Au ?_))) U))))
       refine Ce (X := Nat) (V := fun j => [(5, .int .i64 (j : Nat))]) (C := [(1, _), (4, _)]) (φ := fun j => j ≤ (gd m.rows i).l.length ∧ ∀ k, k < j → 0 ≤ gd (gd m.rows i).l k ∧ gd (gd m.rows i).l k < m.rows.length) (μ := fun j => (gd m.rows i).l.length - j) (x0 := 0) ?_ ⟨Aa U, Aa U, trivial⟩ ⟨atd, trivial⟩ ?_
       ·exact ⟨Nat.zero_le _, fun k h1 => by omega⟩
       rintro j ⟨hj, hcell⟩
       refine Ag (Ag (Ab (y_ (Ac (T U)) (y_ (Be (T U) Ck) (y_ (Aj (T U) isAgg26 (by first | exact c_o)) ?_ U) U) U)))
       refine y_ (Ac (T U)) (y_ (Bb (T U) (T U) runUnderlying26 sizeOf42 (by omega) (by first | exact rfl | exact hm.a1.b (i := ((i : Int) - 1).toNat) (by omega) | exact hm.a1.b (i := i) (by omega) | exact hm.a2.b (i := i) (by omega) | exact hr.b (i := j) (by omega))) ?_ U) U
       refine y_ (Aj (T U) isAgg42 (by first | exact c_o | exact cell1 ((hm.a2.mono sbt).cs (i := i) (by omega)))) ?_ U
       refine y_ (Bm (T U) runUnderlying42) (y_ (Bz (T U) (T U)) (Af (Ae ?_)) U) U
       first | refine Ao (Aa U) (fun c69 => ?_) (fun c69 => ?_) | refine A3 (Aa U) (fun c69 => ?_) (fun c69 => ?_)
       ·refine A2 (Ae (Ag (Au (Ag (Cj 23 [(0, true), (1, true), (2, true), (3, true), (4, true), (5, true), (6, true), (7, true), (8, true), (9, true), (10, true), (11, true), (12, true), (13, true), (14, true), (15, true), (16, true), (17, true), (18, true), (19, true), (20, true), (21, true), (22, true)] _ mixd (by kernel_rfl) sb0 ?_)))))
        refine o_y U (Be (T U) Ck) (o_y U (Aj (T U) isAgg26 (by first | exact c_o)) ?_ U Ah) U Ah
        refine o_y U (Ac (T U)) (o_y U (Bb (T U) (T U) runUnderlying26 sizeOf42 (by omega) (by first | exact rfl | exact hm.a1.b (i := ((i : Int) - 1).toNat) (by omega) | exact hm.a1.b (i := i) (by omega) | exact hm.a2.b (i := i) (by omega) | exact hr.b (i := j) (by omega))) ?_ U Ah) U Ah
        refine o_y U (Aj (T U) isAgg42 (by first | exact c_o | exact cell1 ((hm.a2.mono sbt).cs (i := i) (by omega)))) ?_ U Ah
        refine o_y U (Ac (T U)) (o_y U (Bb (T U) (T U) runUnderlying42 sizeOf3 (by omega) (by first | exact rfl | exact hm.a1.b (i := ((i : Int) - 1).toNat) (by omega) | exact hm.a1.b (i := i) (by omega) | exact hm.a2.b (i := i) (by omega) | exact hr.b (i := j) (by omega))) ?_ U Ah) U Ah
        refine o_y U (Aj (T U) isAgg3 (by first | exact c_o | exact cell1 ((hr.mono sbt).cs (i := j) (by omega)))) ?_ U Ah
        refine o_y U (Bz (T U) Ak) (o_y U (Ac (T U)) ?_ U Ah) U Ah
        first | refine C3 (s := 81) (Aa U) (fun c81 => ?_) (fun c81 => ?_) | refine D0 (s := 81) (Aa U) (fun c81 => ?_) (fun c81 => ?_)
        ·refine o_n U (o_n U (o_n U (o_n U (o_n U (o_n U (o_n U (o_n U (o_n U (o_n U (o_n U (o_n U (o_y U (A4 (T U) Ak) (B2 U (Af (Ae (Bq [(1, _), (4, _), (5, _), (94, _)] ⟨Aa U, Aa U, Aa U, Aa U, trivial⟩ ?_)))) U Ah) U (Bk U U (Aa U))) U (Bk U U (Aa U))) U (Bk U U (Aa U))) U (Bk U U (Aa U))) U (Bk U U (Aa U))) U (Bk U U (Aa U))) U (Bk U U (Aa U))) U (Bk U U (Aa U))) U (Bk U U (Aa U))) U (Bk U U (Aa U))) U (Bk U U (Aa U))) U (Bk U U (Aa U))
         first | refine Bp (Aa U) ?_ | refine Bp (Ai (Aa U) (vbool (decide_eq_true c94))) ?_
         refine Ag (Ab (y_ (Ad Ak) (Af (Ae (A5 (Aq (An (B4 (Aq (Aq (An (B4 (Aq (An (A6 U (.tmp (Aa U) .nil) ?_))))))))))))) U))
         first | exact ⟨_, ⟨⟨_, rfl, (fun h => by cases h), fun h => by have := h.1; omega⟩, rfl⟩, sbt⟩ | exact ⟨_, ⟨⟨_, rfl, (fun h => by cases h), fun h => by have h2 := h.2.1 i (by omega) (by omega); rw [hi1] at c43; exact absurd h2 c43⟩, rfl⟩, sbt⟩ | exact ⟨_, ⟨⟨_, rfl, (fun h => by cases h), fun h => by have h2 := (h.2.2 i (by omega)).1; omega⟩, rfl⟩, sbt⟩ | exact ⟨_, ⟨⟨_, rfl, (fun h => by cases h), fun h => by have h2 := (h.2.2 i (by omega)).2 j (by omega); omega⟩, rfl⟩, sbt⟩ | exact ⟨_, ⟨⟨_, rfl, (fun _ => ⟨by omega, hsr, fun k hk => hro k (by omega)⟩), fun _ => rfl⟩, rfl⟩, sbt⟩
        ·refine o_y U (Be (T U) Ck) (o_y U (Aj (T U) isAgg26 (by first | exact c_o)) ?_ U (As U U (Aa U))) U (As U U (Aa U))
         refine o_y U (Ac (T U)) (o_y U (Bb (T U) (T U) runUnderlying26 sizeOf42 (by omega) (by first | exact rfl | exact hm.a1.b (i := ((i : Int) - 1).toNat) (by omega) | exact hm.a1.b (i := i) (by omega) | exact hm.a2.b (i := i) (by omega) | exact hr.b (i := j) (by omega))) ?_ U (As U U (Aa U))) U (As U U (Aa U))
         refine o_y U (Aj (T U) isAgg42 (by first | exact c_o | exact cell1 ((hm.a2.mono sbt).cs (i := i) (by omega)))) ?_ U (As U U (Aa U))
         refine o_y U (Ac (T U)) (o_y U (Bb (T U) (T U) runUnderlying42 sizeOf3 (by omega) (by first | exact rfl | exact hm.a1.b (i := ((i : Int) - 1).toNat) (by omega) | exact hm.a1.b (i := i) (by omega) | exact hm.a2.b (i := i) (by omega) | exact hr.b (i := j) (by omega))) ?_ U (As U U (Aa U))) U (As U U (Aa U))
         refine o_y U (Aj (T U) isAgg3 (by first | exact c_o | exact cell1 ((hr.mono sbt).cs (i := j) (by omega)))) ?_ U (As U U (Aa U))
         refine o_y U (Be (T U) Ck) (o_y U (Aj (T U) isAgg26 (by first | exact c_o)) ?_ U (As U U (Aa U))) U (As U U (Aa U))
         refine o_y U (Bm (T U) runUnderlying26) (o_y U (Dx (T U) (T U)) (o_y U (A9 (T U) (T U)) (B2 U (Af (Ae (Bq [(1, _), (4, _), (5, _), (94, _)] ⟨Aa U, Aa U, Aa U, Aa U, trivial⟩ ?_)))) U Ah) U (As U U (Aa U))) U (As U U (Aa U))
         first | refine Ao (Aa U) (fun c94 => ?_) (fun c94 => ?_) | refine A3 (Aa U) (fun c94 => ?_) (fun c94 => ?_)
         ·refine Ag (Ab (y_ (Ad Ak) (Af (Ae (A5 (Aq (An (B4 (Aq (Aq (An (B4 (Aq (An (A6 U (.tmp (Aa U) .nil) ?_))))))))))))) U))
          first | exact ⟨_, ⟨⟨_, rfl, (fun h => by cases h), fun h => by have := h.1; omega⟩, rfl⟩, sbt⟩ | exact ⟨_, ⟨⟨_, rfl, (fun h => by cases h), fun h => by have h2 := h.2.1 i (by omega) (by omega); rw [hi1] at c43; exact absurd h2 c43⟩, rfl⟩, sbt⟩ | exact ⟨_, ⟨⟨_, rfl, (fun h => by cases h), fun h => by have h2 := (h.2.2 i (by omega)).1; omega⟩, rfl⟩, sbt⟩ | exact ⟨_, ⟨⟨_, rfl, (fun h => by cases h), fun h => by have h2 := (h.2.2 i (by omega)).2 j (by omega); omega⟩, rfl⟩, sbt⟩ | exact ⟨_, ⟨⟨_, rfl, (fun _ => ⟨by omega, hsr, fun k hk => hro k (by omega)⟩), fun _ => rfl⟩, rfl⟩, sbt⟩
         ·refine A2 (Bl (Ae (Ab (y_ (Ac (T U)) (y_ (Bu (T U) Ak (by omega)) ?_ U) U))))
          refine y_ (Ad (T U)) (Af ?_) U
          refine Bo (j + 1) ?_ ?_ ⟨atd, trivial⟩ ⟨Aa U, Aa U, trivial⟩ ?_
          ·refine ⟨by omega, fun k h1 => ?_⟩
           by_cases e : k = j
           ·subst e; exact ⟨by omega, by omega⟩
           ·exact hcell k (by omega)
          ·first | omega | (simp only []; omega)
          ·exact sbt
       ·refine B1 (Ay (A0 (A1 (Bl (Ae (Ab (y_ (Ac (T U)) (y_ (Bu (T U) Ak (by omega)) ?_ U) U)))))))
        refine y_ (Ad (T U)) (Af ?_) U
        refine Bo (i + 1) ?_ ?_ ⟨atd, trivial⟩ ⟨Aa U, trivial⟩ ?_
        ·refine ⟨by omega, fun j2 h1 => ?_⟩
         by_cases e : j2 = i
         ·subst e; exact ⟨by omega, fun k hk => hcell k (by omega)⟩
         ·exact hro j2 (by omega)
        ·first | omega | (simp only []; omega)
        ·exact sbt
     ·refine B1 (Ay (A0 (A1 (Ae (Ag (Ab (y_ (Ad Ak) (Af (Ae (A5 (A6 U (.tmp (Aa U) .nil) ?_)))) U)))))))
      first | exact ⟨_, ⟨⟨_, rfl, (fun h => by cases h), fun h => by have := h.1; omega⟩, rfl⟩, sbt⟩ | exact ⟨_, ⟨⟨_, rfl, (fun h => by cases h), fun h => by have h2 := h.2.1 i (by omega) (by omega); rw [hi1] at c43; exact absurd h2 c43⟩, rfl⟩, sbt⟩ | exact ⟨_, ⟨⟨_, rfl, (fun h => by cases h), fun h => by have h2 := (h.2.2 i (by omega)).1; omega⟩, rfl⟩, sbt⟩ | exact ⟨_, ⟨⟨_, rfl, (fun h => by cases h), fun h => by have h2 := (h.2.2 i (by omega)).2 j (by omega); omega⟩, rfl⟩, sbt⟩ | exact ⟨_, ⟨⟨_, rfl, (fun _ => ⟨by omega, hsr, fun k hk => hro k (by omega)⟩), fun _ => rfl⟩, rfl⟩, sbt⟩
end Go.Proofs.YtkdolgnpkjihpaaGreatDoor
namespace Go.Proofs.YtkdolgnpkjihpaaGreatDoor
open _root_.Go.Proofs.Tryz
open Go.RowKit
set_option linter.unusedVariables false
set_option linter.unusedSimpArgs false
theorem yl_neBs {w0 : World} {L : Fm} {H : List (Nat × Obj)} {ty yt : TypeId} {x y : Operand} {a : Bool} (hx : Ev L x (.bool a)) (hy : Ev L y (.bool a)) : Yl Tryz.prog w0 (.binOp .neq 4 x y yt) ty L H (.bool false) := by
 have h := yl_neB (w0 := w0) (H := H) (ty := ty) (yt := yt) hx hy
 rwa [show (a != a) = false by simp] at h
theorem yl_neqs {w0 : World} {L : Fm} {H : List (Nat × Obj)} {ty yt xt : TypeId} {x y : Operand} {a : Int} {k : IntKind} (hx : Ev L x (.int k a)) (hy : Ev L y (.int k a)) : Yl Tryz.prog w0 (.binOp .neq xt x y yt) ty L H (.bool false) := by
 have h := C0 (P := Tryz.prog) (w0 := w0) (H := H) (ty := ty) (yt := yt) (xt := xt) hx hy
 rwa [show decide (¬ a = a) = false by simp] at h
theorem wpO_up {P : Program} {r : Option Nat} {ops : Array Oper} {Q : Exit → Act → World → Prop} {w0 : World} {H0 H1 : List (Nat × Obj)} {t : Nat} (hs : H0.Sublist H1) : ∀ (f : Nat) (listed : Array Bool) (a : Act) (H : List (Nat × Obj)), wpO P r ops Q w0 H1 t f listed a H → wpO P r ops Q w0 H0 t f listed a H
 | 0, _, _, _, h => h
 | f + 1, _, _, _, ⟨h1, h2⟩ => ⟨h1, fun i hi hit w hO => wpOpIn_mono (fun a' w' ⟨H', hs', hO', h'⟩ => ⟨H', hs.trans hs', hO', wpO_up hs f _ a' H' h'⟩) (h2 i hi hit w hO)⟩
theorem o_up {P : Program} {r : Option Nat} {N : Nat} {w0 : World} {H0 H : List (Nat × Obj)} {ops : Array Oper} {t : Nat} {plan : List (Nat × Bool)} {Q : Post} {L : Fm} {ds : List Deferred} (h : JO P r N w0 H ops t plan Q L ds H) : JO P r N w0 H0 ops t plan Q L ds H := fun hT hD hS hP hs listed inv hp b a hsz hf hd =>
 wpO_up hs _ _ _ _ (h hT hD hS hP (List.Sublist.refl _) listed inv hp b a hsz hf hd)
end Go.Proofs.YtkdolgnpkjihpaaGreatDoor
namespace Go.Proofs.YtkdolgnpkjihpaaGreatDoor
open _root_.Go.Proofs.Tryz
open Go.RowKit
set_option linter.unusedVariables false
set_option linter.unusedSimpArgs false
theorem rrun_s {w0 : World} {H : List (Nat × Obj)} (m : Mc) (hm : McOk w0 H m) (hsr : Srt m.names) (hl : m.names.length ≤ 4611686018427387903) (hp : PMok m.pl) (l : List ByteArray) (q : Option Addr) (c : Nat) (hA : Arr w0 H q 1 encS l) (hlen : l.length ≤ 9223372036854775807) :
  FSpec Tryz.prog w0 22 #[.agg (encMc m).toArray, .slice q l.length c] H (Still (.int .i64 (runM m.pl l : Nat)) H) := by
 refine A8 Tryz.func22 U ntmps22 U (Ag (Ab (e_ (Bi (T U) cs_) ?_ U)))
 rintro _ _ ⟨n2, rfl, rfl⟩
 refine y_ (Ad Ak) (Af (Ae (Ag (Ab (y_ (Ad Ak) (Af (Ae (Ag (Ag (Ab (y_ (Ad Ak) (Af (Ae (Au ?_))) U)))))) U))))) U
 refine Ce (X := Nat) (V := fun i => [(6, .int .i64 (i : Nat)), (5, .int .i64 (runM m.pl (l.take i) : Nat))]) (C := [(1, _), (2, _)]) (φ := fun i => i ≤ l.length) (μ := fun i => l.length - i) (x0 := 0) ?_ ⟨Aa U, Aa U, trivial⟩ ⟨(by first | exact Aa U | (refine Ai (Aa U) (vint ?_); omega) | (refine Ai (Aa U) ?_; simp; done) | (refine Ai (Aa U) ?_; exact by rw [hrt])), (by first | exact Aa U | (refine Ai (Aa U) (vint ?_); omega) | (refine Ai (Aa U) ?_; simp; done) | (refine Ai (Aa U) ?_; exact by rw [hrt])), trivial⟩ ?_
 ·exact Nat.zero_le _
 rintro i hi
 refine Ag (Ag (Ab (y_ (Ac (T U)) (y_ (Ac (T U)) (y_ (Bm (T U) runUnderlying25) (y_ (Bz (T U) (T U)) (Af (Ae ?_)) U) U) U) U)))
 first | refine Ao (Aa U) (fun c10 => ?_) (fun c10 => ?_) | refine A3 (Aa U) (fun c10 => ?_) (fun c10 => ?_)
 ·refine A2 (Ae (Ag (Au (Cj 8 [(0, true), (1, true), (2, true), (3, true), (4, true), (5, true), (6, true), (7, true)] _ mixd (by kernel_rfl) sb0 ?_))))
  refine o_y U (Am (T U) isAgg29 sizeOf29 U (by first | exact Bh)) ?_ U Ah
  refine o_y U (Ac (T U)) (o_y U (Ac (T U)) (o_y U (Ac (T U)) (o_y U (Bb (T U) (T U) runUnderlying25 sizeOf9 (by omega) (by first | exact rfl | exact hA.b (i := i) (by omega))) ?_ U Ah) U Ah) U Ah) U Ah
  refine o_y U (Aj (T U) isAgg9 (by first | exact c_o | exact cell1 ((hA.mono sbt).cs (i := i) (by omega)))) ?_ U Ah
  refine o_y U (Ax (.cons (T U) (.cons (T U) (.cons (T U) .nil))) call70 (fun H' hs => rstep_s m (hm.mono (List.Sublist.trans sbt hs)) hsr hl hp _ (by have := runM_lt hp (l.take i); rw [show m.pl.next.length = m.rows.length from List.length_map ..] at this; exact this) _)) ?_ U Ah
  refine o_y U (Ad (T U)) (B2 U (Af (Bl (Ae (Ab (y_ (Ac (T U)) (y_ (Bu (T U) Ak (by omega)) ?_ U) U)))))) U Ah
  refine y_ (Ad (T U)) (Af ?_) U
  have hrt := runM_take (m := m.pl) (l := l) (i := i) (by omega)
  refine Bo (i + 1) ?_ ?_ ⟨(by first | exact Aa U | (refine Ai (Aa U) (vint ?_); omega) | (refine Ai (Aa U) ?_; simp; done) | (refine Ai (Aa U) ?_; exact by rw [hrt])), (by first | exact Aa U | (refine Ai (Aa U) (vint ?_); omega) | (refine Ai (Aa U) ?_; simp; done) | (refine Ai (Aa U) ?_; exact by rw [hrt])), trivial⟩ ⟨Aa U, Aa U, trivial⟩ ?_
  ·show i + 1 ≤ _; omega
  ·first | omega | (simp only []; omega)
  ·exact sbt
 ·refine B1 (Ay (A0 (A1 (Ae (Ag (Ab (y_ (Ac (T U)) (y_ (Ad (T U)) (Af (Ae (A5 (A6 U (.tmp (Aa U) .nil) ?_)))) U) U)))))))
  have hi2 : i = l.length := by omega
  rw [hi2, List.take_length]
  exact ⟨_, ⟨rfl, rfl⟩, sbt⟩
theorem oth_in {names : List ByteArray} {s : ByteArray} : toL s ∈ names.map toL ↔ ∃ j, j < names.length ∧ toL (gd names j) = toL s := by
 rw [List.mem_map]
 constructor
 ·rintro ⟨x, hx, e⟩
  obtain ⟨j, hj, rfl⟩ := List.getElem_of_mem hx
  exact ⟨j, hj, by rw [Bg hj]; exact e⟩
 ·rintro ⟨j, hj, e⟩
  exact ⟨_, Az hj, e⟩
theorem rother_s {w0 : World} {H : List (Nat × Obj)} (names : List ByteArray) (q : Option Addr) (c : Nat) (hA : Arr w0 H q 1 encS names) (hlen : names.length ≤ 90) :
  FSpec Tryz.prog w0 20 #[.slice q names.length c] H (Still (.string (otherF names)) H) := by
 refine A8 Tryz.func20 U ntmps20 U (Ag (Ab (y_ (Ad Ak) (Af (Ae (Ag (Ab (y_ (Ad Ak) (Af (Ae (Ag (Ab (y_ (Ad Ak) (Af (Ae (Ag (Ag (Ab (y_ (Ad Ak) (Af (Ae (Au ?_))) U)))))) U))))) U))))) U)))
 refine Ce (X := Nat × Bool) (V := fun ⟨k, b⟩ => [(3, .string (othK k)), (4, .int .i64 (k : Nat)), (5, .bool b)]) (C := [(0, _)]) (φ := fun ⟨k, b⟩ => k ≤ 90 ∧ (∀ j, j < k → toL (othK j) ∈ names.map toL) ∧ (b = false → ¬ toL (othK k) ∈ names.map toL)) (μ := fun ⟨k, b⟩ => 2 * (91 - k) + b.toNat) (x0 := (0, true)) ?_ ⟨Aa rfl, trivial⟩ ⟨atd, atd, atd, trivial⟩ ?_
 ·exact ⟨Nat.zero_le _, fun j hj => absurd hj (Nat.not_lt_zero _), fun h => by cases h⟩
 rintro ⟨k, b⟩ ⟨hk, hin, hno⟩
 refine Ag (Ag (Ab (y_ (Ac (T U)) (Af (Ae ?_)) U)))
 first | refine Ao (Aa U) (fun c7 => ?_) (fun c7 => ?_) | refine A3 (Aa U) (fun c7 => ?_) (fun c7 => ?_)
 ·subst c7
  refine A2 (Ae (Au (Ag (Ab (y_ (Ad Ak) (Af (Ae (Ag (Ag (Ab (y_ (Ad Ak) (Af (Ae (Au ?_))) U)))))) U)))))
  refine Ce (X := Nat × Bool) (V := fun ⟨i, fd⟩ => [(6, .int .i64 (i : Nat)), (5, .bool fd)]) (C := [(0, _), (3, _), (4, _)]) (φ := fun ⟨i, fd⟩ => i ≤ names.length ∧ (fd = true ↔ ∃ j, j < i ∧ toL (gd names j) = toL (othK k))) (μ := fun ⟨i, fd⟩ => names.length - i) (x0 := (0, false)) ?_ ⟨Aa rfl, Aa rfl, Aa rfl, trivial⟩ ⟨atd, atd, trivial⟩ ?_
  ·exact ⟨Nat.zero_le _, ⟨(fun h => by cases h), fun ⟨j, h, _⟩ => by omega⟩⟩
  rintro ⟨i, fd⟩ ⟨hi, hfd⟩
  refine Ag (Ag (Ab (y_ (Ac (T U)) (y_ (Ac (T U)) (y_ (Bm (T U) runUnderlying25) (y_ (Bz (T U) (T U)) (Af (Ae ?_)) U) U) U) U)))
  first | refine Ao (Aa U) (fun c11 => ?_) (fun c11 => ?_) | refine A3 (Aa U) (fun c11 => ?_) (fun c11 => ?_)
  ·refine A2 (Ae (Ag (Au (Ab (y_ (Ac (T U)) (y_ (Ac (T U)) ?_ U) U)))))
   first | refine Cb (s := 15) (Aa U) (fun c15 => ?_) (fun c15 => ?_) | refine Cw (s := 15) (Aa U) (fun c15 => ?_) (fun c15 => ?_)
   ·refine Cm (Cm (Cm (Cm (Cm (Cm (y_ (A4 (T U) Ak) (y_ (Ad (T U)) (Af (Bl (Ae (Ab (y_ (Ac (T U)) (y_ (Bu (T U) Ak (by omega)) ?_ U) U))))) U) U) U U U U) U U U U) U U U U) U U U U) U U U U) U U U U
    refine y_ (Ad (T U)) (Af ?_) U
    refine Bo ((i + 1, true)) ?_ ?_ ⟨atd, atd, trivial⟩ ⟨Aa U, Aa U, Aa U, trivial⟩ ?_
    ·refine ⟨by omega, fun _ => ?_, fun _ => rfl⟩
     obtain ⟨j, h1, h2⟩ := hfd.1 c15
     exact ⟨j, by omega, h2⟩
    ·first | omega | (simp only []; omega)
    ·exact sbt
   ·refine Bj (Ac (T U)) U (As U U (Aa U)) (Bj (Ac (T U)) U (As U U (Aa U)) (Bj (Bb (T U) (T U) runUnderlying25 sizeOf9 (by omega) (by first | exact rfl | exact hA.b (i := i) (by omega))) U (As U U (Aa U)) ?_))
    refine Bj (Aj (T U) isAgg9 (by first | exact c_o | exact cell1 ((hA.mono sbt).cs (i := i) (by omega)))) U (As U U (Aa U)) ?_
    refine Bj (Ac (T U)) U (As U U (Aa U)) (Bj (yl_eqSD (T U) (T U)) U (As U U (Aa U)) (y_ (A9 (T U) (T U)) (y_ (Ad (T U)) (Af (Bl (Ae (Ab (y_ (Ac (T U)) (y_ (Bu (T U) Ak (by omega)) ?_ U) U))))) U) U))
    refine y_ (Ad (T U)) (Af ?_) U
    refine Bo ((i + 1, decide (toL (gd names i) = toL (othK k)))) ?_ ?_ ⟨atd, atd, trivial⟩ ⟨Aa U, Aa U, Aa U, trivial⟩ ?_
    ·refine ⟨by omega, fun h => ⟨i, by omega, of_decide_eq_true h⟩, fun ⟨j, h1, h2⟩ => decide_eq_true ?_⟩
     by_cases ej : j = i
     ·subst ej; exact h2
     ·exact absurd (hfd.2 ⟨j, by omega, h2⟩) (by rw [c15]; exact Bool.false_ne_true)
    ·first | omega | (simp only []; omega)
    ·exact sbt
  ·refine B1 (Ay (A0 (A1 (Ae (Ag (Ab (y_ (Ac (T U)) (Af (Ae ?_)) U)))))))
   first | refine Ao (Aa U) (fun c23 => ?_) (fun c23 => ?_) | refine A3 (Aa U) (fun c23 => ?_) (fun c23 => ?_)
   ·subst c23
    have hy : ∀ j, j < k + 1 → toL (othK j) ∈ names.map toL := fun j hj => by
     by_cases e : j = k
     ·subst e; obtain ⟨j2, h1, h2⟩ := hfd.1 rfl; exact oth_in.2 ⟨j2, by omega, h2⟩
     ·exact hin j (by omega)
    have hkf := oth_few (k := k + 1) (by omega) hy
    refine Ag (Ab (y_ (Ac (T U)) (y_ (Bu (T U) Ak (by omega)) ?_ U) U))
    refine y_ (Ad (T U)) (Af (Ae (Ab (y_ (Ac (T U)) (y_ (Ax (.cons (T U) .nil) call68 (fun H' hs => itoa_s (k + 1) (by omega))) ?_ U) U)))) U
    refine y_ (yl_catS Ak (T U) (by have := itoa_size ⟨k + 1, by omega⟩; simp only [] at this; show 5 + _ ≤ _; omega)) ?_ U
    refine y_ (Ad (T U)) (Af (Bl ?_)) U
    refine Bo ((k + 1, true)) ?_ ?_ ⟨atd, atd, atd, trivial⟩ ⟨Aa U, trivial⟩ ?_
    ·exact ⟨by omega, hy, fun h => by cases h⟩
    ·first | (show 2 * (91 - (k + 1)) + 1 < 2 * (91 - k) + 1; omega) | (show 2 * (91 - k) + 0 < 2 * (91 - k) + 1; omega)
    ·exact sbt
   ·subst c23
    refine A2 (Bl ?_)
    refine Bo ((k, false)) ?_ ?_ ⟨atd, atd, atd, trivial⟩ ⟨Aa U, trivial⟩ ?_
    ·refine ⟨hk, hin, fun _ h => ?_⟩
     obtain ⟨j, h1, h2⟩ := oth_in.1 h
     exact Bool.false_ne_true (hfd.2 ⟨j, by omega, h2⟩)
    ·first | (show 2 * (91 - (k + 1)) + 1 < 2 * (91 - k) + 1; omega) | (show 2 * (91 - k) + 0 < 2 * (91 - k) + 1; omega)
    ·exact sbt
 ·subst c7
  have hoth : otherF names = othK k := by
   unfold otherF othN
   rw [fs_some (k := k) (x := k) (by omega) (if_neg (hno U)) (fun j hj => if_pos (hin j hj))]; rfl
  refine B1 (Ay (A0 (A1 (Ae (Ag (Ab (y_ (Ac (T U)) (y_ (Ad (T U)) (Af (Ae (A5 (A6 U (.tmp (Aa U) .nil) ?_)))) U) U)))))))
  exact ⟨_, ⟨by rw [hoth]; rfl, rfl⟩, sbt⟩
theorem yl_neqE {w0 : World} {L : Fm} {H : List (Nat × Obj)} {ty yt xt : TypeId} {x y : Operand} {a b : Int} {k : IntKind} (hx : Ev L x (.int k a)) (hy : Ev L y (.int k b)) (e : a = b) : Yl Tryz.prog w0 (.binOp .neq xt x y yt) ty L H (.bool false) := by
 subst e; exact yl_neqs hx hy
theorem sameUE_s {w0 : World} {H : List (Nat × Obj)} (l l2 : List Nat) (e : l = l2) (q q2 : Option Addr) (c c2 : Nat) (hA : Arr w0 H q 1 encU l) (hB : Arr w0 H q2 1 encU l2) (hl : l.length ≤ 1001000) :
  FSpec Tryz.prog w0 31 #[.slice q l.length c, .slice q2 l2.length c2] H (Still (.bool true) H) := by
 subst e
 have h := Dq (b := decide (l.map (fun k : Nat => (k : Int)) = l.map fun k : Nat => (k : Int))) (c := true) (decide_eq_true U) (sameInts_s q q2 c c2 _ _ (arrUI hA) (arrUI hB) (by simp; omega))
 rw [List.length_map] at h; exact h
theorem sameM_s {w0 : World} {H : List (Nat × Obj)} (m m2 : Mc) (hm : McOk w0 H m) (hm2 : McOk w0 H m2) (hl : m.pl = m2.pl) (hac : m.acc.length = m.rows.length) (hfw : m.rows.length ≤ 200) (hrw : ∀ i, i < m.rows.length → (gd m.rows i).l.length ≤ 1000900) (hn : m.names.length ≤ 1000000) :
  FSpec Tryz.prog w0 15 #[.agg (encMc m).toArray, .agg (encMc m2).toArray] H (Still (.bool true) H) := by
 refine A8 Tryz.func15 U ntmps15 U ?_
 have e1 : m.names = m2.names := congrArg PM.names hl
 have e3 : m.acc = m2.acc := congrArg PM.acc hl
 have e2 : m.rows.map RowQ.l = m2.rows.map RowQ.l := congrArg PM.next hl
 have e4 : m.rows.length = m2.rows.length := by have := congrArg List.length e2; simpa using this
 have e5 : ∀ i, i < m.rows.length → (gd m.rows i).l = (gd m2.rows i).l := fun i hi => by rw [← Cz (f := RowQ.l) hi, ← Cz (f := RowQ.l) (show i < m2.rows.length by omega), e2]
 have hac2 : m2.acc.length = m2.rows.length := by rw [← e3, ← e4]; exact hac
 refine Ag (Ab (e_ (Bi (T U) cs_) ?_ U))
 rintro _ _ ⟨n2, rfl, rfl⟩
 refine e_ (Bi (T U) cs_) ?_ U
 rintro _ _ ⟨n3, rfl, rfl⟩
 refine y_ (Ad Ak) (Af (Ae (Ag (Ab (y_ (Bn (T U) Da) (y_ (Aj (T U) isAgg25 (by first | exact c_o)) ?_ U) U))))) U
 refine y_ (Bn (T U) Da) (y_ (Aj (T U) isAgg25 (by first | exact c_o)) ?_ U) U
 refine y_ (Ax (.cons (T U) (.cons (T U) .nil)) call25 (fun H' hs => Dq (decide_eq_true e1) (sameNames_s m.q1 m2.q1 m.c1 m2.c1 m.names m2.names (hm.a1.mono (List.Sublist.trans sbt hs)) (hm2.a1.mono (List.Sublist.trans sbt hs)) (by omega)))) ?_ U
 refine y_ (Ad (T U)) (Af (Ae (Ag (Ag (Ab (y_ (Ac (T U)) ?_ U)))))) U
 first | refine Bj (Cv (T U)) U Ah ?_ | refine Bj (C2 (T U)) U Ah ?_
 refine y_ (Ac (T U)) (Bj (Be (T U) Ck) U (As U U (Aa U)) (Bj (Aj (T U) isAgg26 (by first | exact c_o)) U (As U U (Aa U)) ?_)) U
 refine Bj (Bm (T U) runUnderlying26) U (As U U (Aa U)) (Bj (Be (T U) Ck) U (As U U (Aa U)) (Bj (Aj (T U) isAgg26 (by first | exact c_o)) U (As U U (Aa U)) ?_))
 refine Bj (Bm (T U) runUnderlying26) U (As U U (Aa U)) (Bj (yl_neqE (T U) (T U) (by omega)) U (As U U (Aa U)) ?_)
 refine y_ (A9 (T U) (T U)) (y_ (Ac (T U)) (Bj (Be (T U) C5) U (As U U (Aa U)) (Bj (Aj (T U) isAgg27 (by first | exact c_o)) U (As U U (Aa U)) ?_)) U) U
 refine Bj (Bm (T U) runUnderlying27) U (As U U (Aa U)) (Bj (Be (T U) C5) U (As U U (Aa U)) (Bj (Aj (T U) isAgg27 (by first | exact c_o)) U (As U U (Aa U)) ?_))
 refine Bj (Bm (T U) runUnderlying27) U (As U U (Aa U)) (Bj (yl_neqE (T U) (T U) (by omega)) U (As U U (Aa U)) ?_)
 refine y_ (A9 (T U) (T U)) (Af (Ae (Bq [(2, _), (3, _), (33, _)] ⟨Aa U, Aa U, Aa U, trivial⟩ ?_))) U
 first | refine Bc (Aa U) ?_ | refine Bc (Ai (Aa U) (vbool (decide_eq_false c33))) ?_
 refine A2 (Ae (Ag (Ag (Ab (y_ (Ad Ak) (Af (Ae (Au ?_))) U)))))
 refine Ce (X := Nat) (V := fun i => [(6, .int .i64 (i : Nat))]) (C := [(2, _), (3, _)]) (φ := fun i => i ≤ m.rows.length) (μ := fun i => m.rows.length - i) (x0 := 0) ?_ ⟨Aa U, Aa U, trivial⟩ ⟨atd, trivial⟩ ?_
 ·exact Nat.zero_le _
 rintro i hi
 refine Ag (Ag (Ab (y_ (Ac (T U)) (y_ (Be (T U) Ck) (y_ (Aj (T U) isAgg26 (by first | exact c_o)) ?_ U) U) U)))
 refine y_ (Bm (T U) runUnderlying26) (y_ (Bz (T U) (T U)) (Af (Ae ?_)) U) U
 first | refine Ao (Aa U) (fun c38 => ?_) (fun c38 => ?_) | refine A3 (Aa U) (fun c38 => ?_) (fun c38 => ?_)
 ·refine A2 (Ae (Ag (Au (Ag (Cj 12 [(0, true), (1, true), (2, true), (3, true), (4, true), (5, true), (6, true), (7, true), (8, true), (9, true), (10, true), (11, true)] _ mixd (by kernel_rfl) sb0 ?_)))))
  refine o_y U (Be (T U) Ck) (o_y U (Aj (T U) isAgg26 (by first | exact c_o)) ?_ U Ah) U Ah
  refine o_y U (Ac (T U)) (o_y U (Bb (T U) (T U) runUnderlying26 sizeOf42 (by omega) (by first | exact rfl | exact hm.a2.b (i := i) (by omega) | exact hm2.a2.b (i := i) (by omega) | exact hm.a3.b (i := i) (by omega) | exact hm2.a3.b (i := i) (by omega))) ?_ U Ah) U Ah
  refine o_y U (Aj (T U) isAgg42 (by first | exact c_o | exact cell1 ((hm.a2.mono sbt).cs (i := i) (by omega)))) ?_ U Ah
  refine o_y U (Be (T U) Ck) (o_y U (Aj (T U) isAgg26 (by first | exact c_o)) ?_ U Ah) U Ah
  refine o_y U (Ac (T U)) (o_y U (Bb (T U) (T U) runUnderlying26 sizeOf42 (by omega) (by first | exact rfl | exact hm.a2.b (i := i) (by omega) | exact hm2.a2.b (i := i) (by omega) | exact hm.a3.b (i := i) (by omega) | exact hm2.a3.b (i := i) (by omega))) ?_ U Ah) U Ah
  refine o_y U (Aj (T U) isAgg42 (by first | exact c_o | exact cell1 ((hm2.a2.mono sbt).cs (i := i) (by omega)))) ?_ U Ah
  refine o_y U (Ax (.cons (T U) (.cons (T U) .nil)) call31 (fun H' hs => sameUE_s _ _ (e5 i (by omega)) _ _ _ _ ((hm.r _ (Az (by omega))).mono (List.Sublist.trans sbt hs)) ((hm2.r _ (Az (by omega))).mono (List.Sublist.trans sbt hs)) (by have := hrw i (by omega); omega))) ?_ U Ah
  refine o_y U (Ad (T U)) (B2 U (Af (Ae (Ag (Ab (y_ (Ac (T U)) ?_ U)))))) U Ah
  first | refine Bj (Cv (T U)) U Ah ?_ | refine Bj (C2 (T U)) U Ah ?_
  refine Af (Ae ?_)
  first | refine Bc (Aa U) ?_ | refine Bc (Ai (Aa U) (vbool (decide_eq_false c53))) ?_
  refine A2 (Bl (Ae (Ab (y_ (Ac (T U)) (y_ (Bu (T U) Ak (by omega)) ?_ U) U))))
  refine y_ (Ad (T U)) (Af ?_) U
  refine Bo (i + 1) ?_ ?_ ⟨atd, trivial⟩ ⟨Aa U, Aa U, trivial⟩ ?_
  ·show i + 1 ≤ _; omega
  ·first | omega | (simp only []; omega)
  ·exact sbt
 ·refine B1 (Ay (A0 (A1 (Ae (Ag (Ag (Ab (y_ (Ad Ak) (Af (Ae (Au ?_))) U))))))))
  refine Ce (X := Nat) (V := fun i => [(8, .int .i64 (i : Nat))]) (C := [(2, _), (3, _)]) (φ := fun i => i ≤ m.acc.length) (μ := fun i => m.acc.length - i) (x0 := 0) ?_ ⟨Aa U, Aa U, trivial⟩ ⟨atd, trivial⟩ ?_
  ·exact Nat.zero_le _
  rintro i hi
  refine Ag (Ag (Ab (y_ (Ac (T U)) (y_ (Be (T U) C5) (y_ (Aj (T U) isAgg27 (by first | exact c_o)) ?_ U) U) U)))
  refine y_ (Bm (T U) runUnderlying27) (y_ (Bz (T U) (T U)) (Af (Ae ?_)) U) U
  first | refine Ao (Aa U) (fun c58 => ?_) (fun c58 => ?_) | refine A3 (Aa U) (fun c58 => ?_) (fun c58 => ?_)
  ·refine A2 (Ae (Ag (Au (Ag (Cj 11 [(0, true), (1, true), (2, true), (3, true), (4, true), (5, true), (6, true), (7, true), (8, true), (9, true), (10, true)] _ mixd (by kernel_rfl) sb0 ?_)))))
   refine o_y U (Be (T U) C5) (o_y U (Aj (T U) isAgg27 (by first | exact c_o)) ?_ U Ah) U Ah
   refine o_y U (Ac (T U)) (o_y U (Bb (T U) (T U) runUnderlying27 sizeOf4 (by omega) (by first | exact rfl | exact hm.a2.b (i := i) (by omega) | exact hm2.a2.b (i := i) (by omega) | exact hm.a3.b (i := i) (by omega) | exact hm2.a3.b (i := i) (by omega))) ?_ U Ah) U Ah
   refine o_y U (Aj (T U) isAgg4 (by first | exact c_o | exact cell1 ((hm.a3.mono sbt).cs (i := i) (by omega)))) ?_ U Ah
   refine o_y U (Be (T U) C5) (o_y U (Aj (T U) isAgg27 (by first | exact c_o)) ?_ U Ah) U Ah
   refine o_y U (Ac (T U)) (o_y U (Bb (T U) (T U) runUnderlying27 sizeOf4 (by omega) (by first | exact rfl | exact hm.a2.b (i := i) (by omega) | exact hm2.a2.b (i := i) (by omega) | exact hm.a3.b (i := i) (by omega) | exact hm2.a3.b (i := i) (by omega))) ?_ U Ah) U Ah
   refine o_y U (Aj (T U) isAgg4 (by first | exact c_o | exact cell_e (v' := .bool (gd m.acc i)) (by rw [e3]) (cell1 ((hm2.a3.mono sbt).cs (i := i) (by omega))))) ?_ U Ah
   refine o_y U (yl_neBs (T U) (T U)) (B2 U (Af (Ae ?_))) U Ah
   first | refine Bc (Aa U) ?_ | refine Bc (Ai (Aa U) (vbool (decide_eq_false c71))) ?_
   refine A2 (Bl (Ae (Ab (y_ (Ac (T U)) (y_ (Bu (T U) Ak (by omega)) ?_ U) U))))
   refine y_ (Ad (T U)) (Af ?_) U
   refine Bo (i + 1) ?_ ?_ ⟨atd, trivial⟩ ⟨Aa U, Aa U, trivial⟩ ?_
   ·show i + 1 ≤ _; omega
   ·first | omega | (simp only []; omega)
   ·exact sbt
  ·refine B1 (Ay (A0 (A1 (Ae (Ag (Ab (y_ (Ad Ak) (Af (Ae (A5 (A6 U (.tmp (Aa U) .nil) ?_)))) U)))))))
   exact ⟨_, ⟨rfl, rfl⟩, sbt⟩
end Go.Proofs.YtkdolgnpkjihpaaGreatDoor
namespace Go.Proofs.YtkdolgnpkjihpaaGreatDoor
open _root_.Go.Proofs.Tryz
open Go.RowKit
set_option linter.unusedVariables false
set_option linter.unusedSimpArgs false
theorem idx_at {α : Type} [DecidableEq α] [Inhabited α] {l : List α} {x : α} {k : Nat} (hk : k < l.length) (h : gd l k = x) (hj : ∀ j, j < k → ¬ gd l j = x) : idx l x = k := by
 have hm : x ∈ l := by rw [← h]; exact Az hk
 have h1 := Dn hm
 have h2 := idx_get hm
 rcases Nat.lt_trichotomy (idx l x) k with h3 | h3 | h3
 ·exact absurd h2 (hj _ h3)
 ·exact h3
 ·exfalso
  have h4 : k < l.findIdx (fun y => y == x) := h3
  have h5 := List.not_of_lt_findIdx h4
  rw [Bg hk] at h
  simp [h] at h5
theorem idx_none {α : Type} [DecidableEq α] [Inhabited α] {l : List α} {x : α} (hj : ∀ j, j < l.length → ¬ gd l j = x) : idx l x = l.length := idx_not fun hm => by
 obtain ⟨j, hj2, e⟩ := List.getElem_of_mem hm
 exact hj j hj2 (by rw [Bg hj2]; exact e)
theorem place_s {w0 : World} {H : List (Nat × Obj)} (rows : List RowI) (q : Option Addr) (c : Nat) (hA : Arr w0 H q 1 encRI rows) (hr : ∀ r ∈ rows, Arr w0 H r.q 1 encI r.l) (hn : ∀ r ∈ rows, r.l.length ≤ 100000) (hl : rows.length ≤ 100000) (st : List Int) (q2 : Option Addr) (c2 : Nat) (hB : Arr w0 H q2 1 encI st) :
  FSpec Tryz.prog w0 109 #[.slice q rows.length c, .slice q2 st.length c2] H (Still (.int .i64 (idx (rows.map RowI.l) st : Nat)) H) := by
 refine A8 Tryz.func109 U ntmps109 U (Ag (Ab (y_ (Ad Ak) (Af (Ae (Ag (Ag (Ab (y_ (Ad Ak) (Af (Ae (Au ?_))) U)))))) U)))
 refine Ce (X := Nat) (V := fun k => [(5, .int .i64 (k : Nat))]) (C := [(0, _), (1, _)]) (φ := fun k => k ≤ rows.length ∧ ∀ j, j < k → ¬ gd (rows.map RowI.l) j = st) (μ := fun k => rows.length - k) (x0 := 0) ?_ ⟨Aa U, Aa U, trivial⟩ ⟨atd, trivial⟩ ?_
 ·exact ⟨Nat.zero_le _, fun j hj => by omega⟩
 rintro k ⟨hk, hno⟩
 refine Ag (Ag (Ab (y_ (Ac (T U)) (y_ (Ac (T U)) (y_ (Bm (T U) runUnderlying26) (y_ (Bz (T U) (T U)) (Af (Ae ?_)) U) U) U) U)))
 first | refine Ao (Aa U) (fun c10 => ?_) (fun c10 => ?_) | refine A3 (Aa U) (fun c10 => ?_) (fun c10 => ?_)
 ·refine A2 (Ae (Ag (Au (Ag (Ab (y_ (Ac (T U)) (y_ (Ac (T U)) (y_ (Bb (T U) (T U) runUnderlying26 sizeOf42 (by omega) (by first | exact rfl | exact hA.b (i := k) (by omega))) ?_ U) U) U))))))
  refine y_ (Aj (T U) isAgg42 (by first | exact c_o | exact cell1 ((hA.mono sbt).cs (i := k) (by omega)))) ?_ U
  refine y_ (Ac (T U)) (y_ (Ax (.cons (T U) (.cons (T U) .nil)) call31 (fun H' hs => sameInts_s (gd rows k).q q2 (gd rows k).c c2 (gd rows k).l st ((hr _ (Az (by omega))).mono (List.Sublist.trans sbt hs)) (hB.mono (List.Sublist.trans sbt hs)) (by have := hn _ (Az (l := rows) (i := k) (by omega)); omega))) ?_ U) U
  refine y_ (Ad (T U)) (Af (Ae (Ag (Ab (y_ (Ac (T U)) (Af (Ae ?_)) U))))) U
  first | refine Ao (Aa U) (fun c19 => ?_) (fun c19 => ?_) | refine A3 (Aa U) (fun c19 => ?_) (fun c19 => ?_)
  ·refine Ag (Ab (y_ (Ac (T U)) (y_ (Ad (T U)) (Af (Ae (A5 (Aq (An (B4 (Aq (An (A6 U (.tmp (Aa U) .nil) ?_))))))))) U) U))
   exact ⟨_, ⟨by rw [idx_at (k := k) (by simp; omega) (by rw [Cz (by omega)]; exact c19) hno]; rfl, rfl⟩, sbt⟩
  ·refine A2 (Bl (Ae (Ab (y_ (Ac (T U)) (y_ (Bu (T U) Ak (by omega)) ?_ U) U))))
   refine y_ (Ad (T U)) (Af ?_) U
   refine Bo (k + 1) ?_ ?_ ⟨atd, trivial⟩ ⟨Aa U, Aa U, trivial⟩ ?_
   ·refine ⟨by omega, fun j hj => ?_⟩
    by_cases e : j = k
    ·subst e; rw [Cz (by omega)]; exact c19
    ·exact hno j (by omega)
   ·first | omega | (simp only []; omega)
   ·exact sbt
 ·refine B1 (Ay (A0 (A1 (Ae (Ag (Ab (y_ (Ac (T U)) (y_ (Bm (T U) runUnderlying26) (y_ (Ad (T U)) (Af (Ae (A5 (A6 U (.tmp (Aa U) .nil) ?_)))) U) U) U)))))))
  exact ⟨_, ⟨by rw [idx_none (fun j hj => hno j (by simp at hj; omega)), List.length_map]; rfl, rfl⟩, sbt⟩
def takR (m : Rxm) (names : List ByteArray) (a : Nat) : Bool := decide (m.kind = 3) || (decide (a < names.length) && decide (m.node = gd names a))
theorem takes_s {w0 : World} {H : List (Nat × Obj)} (m : Rxm) (names : List ByteArray) (q : Option Addr) (c : Nat) (hA : Arr w0 H q 1 encS names) (hl : names.length ≤ 9223372036854775807) (a : Nat) :
  FSpec Tryz.prog w0 107 #[.agg (encRx m).toArray, .slice q names.length c, .int .i64 (a : Int)] H (Still (.bool (takR m names a)) H) := by
 refine A8 Tryz.func107 U ntmps107 U (Ag (Ab (e_ (Bi (T U) cs_) ?_ U)))
 rintro _ _ ⟨n3, rfl, rfl⟩
 refine y_ (Ad Ak) (Af (Ae (Ag (Cj 19 [(0, true), (1, true), (2, true), (3, true), (4, true), (5, true), (6, true), (7, true), (8, true), (9, true), (10, true), (11, true), (12, true), (13, true), (14, true), (15, true), (16, true), (17, true), (18, true)] _ mixd (by kernel_rfl) sb0 ?_)))) U
 refine o_y U (Bn (T U) C4) (o_y U (Aj (T U) isAgg3 (by first | exact c_o)) ?_ U Ah) U Ah
 refine o_y U (Bs (T U) Ak) (o_y U (Ac (T U)) ?_ U Ah) U Ah
 first | refine C3 (s := 10) (Aa U) (fun c10 => ?_) (fun c10 => ?_) | refine D0 (s := 10) (Aa U) (fun c10 => ?_) (fun c10 => ?_)
 ·refine o_n U (o_n U (o_n U (o_n U (o_n U (o_n U (o_n U (o_n U (o_n U (o_n U (o_n U (o_n U (o_n U (o_y U (A4 (T U) Ak) (o_y U (Ad (T U)) (B2 U (Af (Ae (A5 (A6 U (.tmp (Aa U) .nil) (⟨_, ⟨vbool ?_, rfl⟩, sbt⟩)))))) U Ah) U Ah) U (Bk U U (Aa U))) U (Co U U (Aa U))) U (Co U U (Aa U))) U (Co U U (Aa U))) U (Co U U (Aa U))) U (Co U U (Aa U))) U (Co U U (Aa U))) U (Co U U (Aa U))) U (Bk U U (Aa U))) U (Bk U U (Aa U))) U (Bk U U (Aa U))) U (Bk U U (Aa U))) U (Bk U U (Aa U))
  unfold takR
  first | (rw [decide_eq_true c10]; rfl) | (rw [decide_eq_false c10, decide_eq_true (show a < names.length by omega), Bool.false_or, Bool.true_and]; exact decide_eq_decide.2 ⟨fun h => Dv h, fun h => by rw [h]⟩) | (rw [decide_eq_false c10, decide_eq_false (show ¬ a < names.length by omega)]; rfl)
 ·refine o_y U (Ac (T U)) (o_y U (Ac (T U)) (o_y U (Bm (T U) runUnderlying25) (o_y U (Bz (T U) (T U)) (o_y U (Ac (T U)) ?_ U (As U U (Aa U))) U (As U U (Aa U))) U (As U U (Aa U))) U (As U U (Aa U))) U (As U U (Aa U))
  first | refine C3 (s := 15) (Aa U) (fun c15 => ?_) (fun c15 => ?_) | refine D0 (s := 15) (Aa U) (fun c15 => ?_) (fun c15 => ?_)
  ·refine o_y U (Be (T U) fa24_1) (o_y U (Aj (T U) isAgg9 (by first | exact c_o)) ?_ U (As U U (Aa U))) U (As U U (Aa U))
   refine o_y U (Ac (T U)) (o_y U (Ac (T U)) (o_y U (Bb (T U) (T U) runUnderlying25 sizeOf9 (by omega) (by first | exact rfl | exact hA.b (i := a) (by omega))) ?_ U (As U U (Aa U))) U (As U U (Aa U))) U (As U U (Aa U))
   refine o_y U (Aj (T U) isAgg9 (by first | exact c_o | exact cell1 ((hA.mono sbt).cs (i := a) (by omega)))) ?_ U (As U U (Aa U))
   refine o_y U (yl_eqSD (T U) (T U)) (o_y U (A4 (T U) (T U)) (o_y U (A9 (T U) (T U)) (o_y U (Ad (T U)) (B2 U (Af (Ae (A5 (A6 U (.tmp (Aa U) .nil) (⟨_, ⟨vbool ?_, rfl⟩, sbt⟩)))))) U Ah) U Ah) U (As U U (Aa U))) U (As U U (Aa U))
   unfold takR
   first | (rw [decide_eq_true c10]; rfl) | (rw [decide_eq_false c10, decide_eq_true (show a < names.length by omega), Bool.false_or, Bool.true_and]; exact decide_eq_decide.2 ⟨fun h => Dv h, fun h => by rw [h]⟩) | (rw [decide_eq_false c10, decide_eq_false (show ¬ a < names.length by omega)]; rfl)
  ·refine o_n U (o_n U (o_n U (o_n U (o_n U (o_n U (o_n U (o_y U (A9 (T U) Ak) (o_y U (A9 (T U) (T U)) (o_y U (Ad (T U)) (B2 U (Af (Ae (A5 (A6 U (.tmp (Aa U) .nil) (⟨_, ⟨vbool ?_, rfl⟩, sbt⟩)))))) U Ah) U Ah) U (As U U (Aa U))) U (Cd U U (Aa U))) U (Cd U U (Aa U))) U (Cd U U (Aa U))) U (Cd U U (Aa U))) U (Cd U U (Aa U))) U (Cd U U (Aa U))) U (Cd U U (Aa U))
   unfold takR
   first | (rw [decide_eq_true c10]; rfl) | (rw [decide_eq_false c10, decide_eq_true (show a < names.length by omega), Bool.false_or, Bool.true_and]; exact decide_eq_decide.2 ⟨fun h => Dv h, fun h => by rw [h]⟩) | (rw [decide_eq_false c10, decide_eq_false (show ¬ a < names.length by omega)]; rfl)
def nameF (s : ByteArray) : List ByteArray → List ByteArray
 | [] => [s]
 | x :: l => if toL x < toL s then x :: nameF s l else if x = s then x :: l else s :: x :: l
theorem nameF_in {s : ByteArray} : ∀ {l : List ByteArray} {k : Nat}, k < l.length → (∀ j, j < k → toL (gd l j) < toL s) → gd l k = s → nameF s l = l
 | [], k, h, _, _ => by simp at h
 | x :: l, 0, _, _, h => by
  have h : x = s := h
  subst h; unfold nameF
  rw [if_neg (List.lt_irrefl _), if_pos rfl]
 | x :: l, k + 1, h, hj, hk => by
  have h0 : toL x < toL s := hj 0 (by omega)
  unfold nameF
  rw [if_pos h0, nameF_in (k := k) (by simpa using h) (fun j hj2 => hj (j + 1) (by omega)) hk]
theorem nameF_at {s : ByteArray} : ∀ {l : List ByteArray} {k : Nat}, k ≤ l.length → (∀ j, j < k → toL (gd l j) < toL s) → (k < l.length → ¬ toL (gd l k) < toL s ∧ ¬ gd l k = s) → nameF s l = l.take k ++ [s] ++ l.drop k
 | [], 0, _, _, _ => rfl
 | x :: l, 0, _, _, h => by
  have h : ¬ toL x < toL s ∧ ¬ x = s := h (by simp)
  unfold nameF
  rw [if_neg h.1, if_neg h.2]; rfl
 | x :: l, k + 1, h, hj, hk => by
  have h0 : toL x < toL s := hj 0 (by omega)
  unfold nameF
  rw [if_pos h0, nameF_at (k := k) (by simpa using h) (fun j hj2 => hj (j + 1) (by omega)) fun h2 => hk (by simpa using h2)]
  simp
theorem nameF_len (s : ByteArray) : ∀ l : List ByteArray, (nameF s l).length ≤ l.length + 1
 | [] => by simp [nameF]
 | x :: l => by
  have := nameF_len s l
  unfold nameF; split
  ·simp only [List.length_cons]; omega
  ·split <;> simp
theorem name_r {w0 : World} {H : List (Nat × Obj)} (l : List ByteArray) (q : Option Addr) (c : Nat) (hA : Arr w0 H q 1 encS l) (hc : l.length ≤ c) (hl : l.length ≤ 100000) (s : ByteArray) :
  FSpec Tryz.prog w0 121 #[.slice q l.length c, .string s] H (fun v H' => ∃ (q' : Option Addr) (c' : Nat) (M : List (Nat × Obj)), (v = .slice q' (nameF s l).length c' ∧ (nameF s l).length ≤ c' ∧ ∀ X, Arr w0 X q 1 encS l → Arr w0 (M ++ X) q' 1 encS (nameF s l)) ∧ H' = M ++ H) := by
 refine A8 Tryz.func121 U ntmps121 U (Ag (Ab (y_ (Ad Ak) (Af (Ae (Ag (Ab (y_ (Ad Ak) (Af (Ae (Ag (Au ?_)))) U))))) U)))
 refine Ce (X := Nat) (V := fun k => [(5, .int .i64 (k : Nat))]) (C := [(0, _), (1, _)]) (φ := fun k => k ≤ l.length ∧ ∀ j, j < k → toL (gd l j) < toL s) (μ := fun k => l.length - k) (x0 := 0) ?_ ⟨Aa U, Aa U, trivial⟩ ⟨atd, trivial⟩ ?_
 ·exact ⟨Nat.zero_le _, fun j hj => by omega⟩
 rintro k ⟨hk, hlt⟩
 refine Ag (Ag (Ab (y_ (Ac (T U)) (y_ (Ac (T U)) (y_ (Bm (T U) runUnderlying25) (y_ (Bz (T U) (T U)) (y_ (Ac (T U)) ?_ U) U) U) U) U)))
 first | refine Cb (s := 11) (Aa U) (fun c11 => ?_) (fun c11 => ?_) | refine Cw (s := 11) (Aa U) (fun c11 => ?_) (fun c11 => ?_)
 ·refine Bj (Ac (T U)) U (As U U (Aa U)) (Bj (Ac (T U)) U (As U U (Aa U)) (Bj (Bb (T U) (T U) runUnderlying25 sizeOf9 (by omega) (by first | exact rfl | exact hA.b (i := k) (by omega))) U (As U U (Aa U)) ?_))
  refine Bj (Aj (T U) isAgg9 (by first | exact c_o | exact cell1 ((hA.mono sbt).cs (i := k) (by omega)))) U (As U U (Aa U)) ?_
  refine Bj (Ac (T U)) U (As U U (Aa U)) (Bj (yl_ltS (T U) (T U)) U (As U U (Aa U)) (y_ (A4 (T U) (T U)) (Af (Ae ?_)) U))
  first | refine Ao (Aa U) (fun c18 => ?_) (fun c18 => ?_) | refine A3 (Aa U) (fun c18 => ?_) (fun c18 => ?_)
  ·refine A2 (Ae (Au (Ab (y_ (Ac (T U)) (y_ (Bu (T U) Ak (by omega)) ?_ U) U))))
   refine y_ (Ad (T U)) (Af (Bl ?_)) U
   refine Bo (k + 1) ?_ ?_ ⟨atd, trivial⟩ ⟨Aa U, Aa U, trivial⟩ ?_
   ·refine ⟨by omega, fun j hj => ?_⟩
    by_cases e : j = k
    ·subst e; exact c18
    ·exact hlt j (by omega)
   ·first | omega | (simp only []; omega)
   ·exact sbt
  ·refine B1 (Ay (A0 (A1 (Ae (Ag (Ag (Ab (y_ (Ac (T U)) (y_ (Ac (T U)) (y_ (Bm (T U) runUnderlying25) (y_ (Bz (T U) (T U)) (y_ (Ac (T U)) ?_ U) U) U) U) U))))))))
   first | refine Cb (s := 25) (Aa U) (fun c25 => ?_) (fun c25 => ?_) | refine Cw (s := 25) (Aa U) (fun c25 => ?_) (fun c25 => ?_)
   ·refine Bj (Ac (T U)) U (As U U (Aa U)) (Bj (Ac (T U)) U (As U U (Aa U)) (Bj (Bb (T U) (T U) runUnderlying25 sizeOf9 (by omega) (by first | exact rfl | exact hA.b (i := k) (by omega))) U (As U U (Aa U)) ?_))
    refine Bj (Aj (T U) isAgg9 (by first | exact c_o | exact cell1 ((hA.mono sbt).cs (i := k) (by omega)))) U (As U U (Aa U)) ?_
    refine Bj (Ac (T U)) U (As U U (Aa U)) (Bj (yl_eqSD (T U) (T U)) U (As U U (Aa U)) (y_ (A4 (T U) (T U)) (Af (Ae (Bq [(0, _), (1, _), (5, _), (32, _)] ⟨Aa U, Aa U, Aa U, Aa U, trivial⟩ ?_))) U))
    first | refine Ao (Aa U) (fun c32 => ?_) (fun c32 => ?_) | refine A3 (Aa U) (fun c32 => ?_) (fun c32 => ?_)
    ·refine Ag (Ab (y_ (Ac (T U)) (y_ (Ad (T U)) (Af (Ae (A5 (An (A6 U (.tmp (Aa U) .nil) ?_))))) U) U))
     first | (have hp : nameF s l = l := nameF_in (k := k) (by omega) hlt (Dv c32); exact ⟨_, ⟨q, c, [], ⟨by rw [hp]; rfl, by rw [hp]; exact hc, fun X hX => by rw [hp]; exact hX⟩, rfl⟩, sbt⟩) | (have hp : nameF s l = l.take k ++ [s] ++ l.drop k := nameF_at (by omega) hlt (fun h => ⟨by first | exact c18 | (exfalso; omega), fun e => by first | exact c32 (by rw [e]) | (exfalso; omega)⟩); exact ⟨_, ⟨slQ d3, slC d3, slH d3 ((l.take k ++ [s] ++ l.drop k).flatMap encS) 9, ⟨by rw [hp]; rfl, by rw [hp]; exact Ea hd3, fun X _ => by rw [hp]; exact Ba (fun _ => rfl) hd3⟩, rfl⟩, sbt⟩)
    ·refine A2 (Ae (Ag (Ab (y_ (Ad Ak) (Af (Ae (Ag (Ab (y_ (Ac (T U)) (y_ (Ac (T U)) (y_ (Ac (T U)) (y_ (yl_sliceH  (T U) (T U) runUnderlying25 sizeOf9 (by omega)) ?_ U) U) U) U))))) U))))
     refine e_ (eff_appNil (l.take k) (by' := 16) (by first | exact (by simp; omega) | omega) (T U) (T U) runUnderlying25 runUnderlying25 sizeOf9 typeInfo9 U zeroValue9 U (fun _ => rfl) (fun _ => rfl) (by decide) (by simp; omega) ((hA.mono sbt).take k)) ?_ U
     rintro _ _ ⟨d1, rfl, hd1, rfl⟩
     refine y_ (Ad (T U)) (Af (Ae (Ag (Ab (y_ (Ac (T U)) (y_ (Ac (T U)) (e_ (Al (.cons (T U) .nil) (Di _)) ?_ U) U) U))))) U
     rintro _ _ ⟨n41, rfl, rfl⟩
     refine e_ (Ch (s) (by' := 16) (enc := encS) (by repeat (first | exact LocL.h | apply LocL.t | apply LocL.a)) (T U) (T U) runUnderlying25 runUnderlying25 sizeOf9 typeInfo9 U zeroValue9 U (fun _ => rfl) U hd1 (by decide) (by simp; omega)) ?_ U
     rintro _ _ ⟨d2, rfl, hd2, rfl⟩
     refine y_ (Ad (T U)) (Af (Ae (Ag (Ab (y_ (Ac (T U)) (y_ (Ac (T U)) (y_ (Ac (T U)) (y_ (yl_sliceL  (T U) (T U) runUnderlying25 sizeOf9 (by omega)) ?_ U) U) U) U))))) U
     refine e_ (eff_appTo (l.drop k) (by' := 16) (enc := encS) (by first | exact (by simp) | omega) (by repeat (first | exact LocL.h | apply LocL.t | apply LocL.a)) (T U) (T U) runUnderlying25 runUnderlying25 sizeOf9 typeInfo9 U zeroValue9 U (fun _ => rfl) (fun _ => rfl) hd2 (by decide) (by simp; omega) ((hA.mono sbt).drop hc k)) ?_ U
     rintro _ _ ⟨d3, rfl, hd3, rfl⟩
     refine y_ (Ad (T U)) (Af (Ae (A5 (A6 U (.tmp (Aa U) .nil) ?_)))) U
     first | (have hp : nameF s l = l := nameF_in (k := k) (by omega) hlt (Dv c32); exact ⟨_, ⟨q, c, [], ⟨by rw [hp]; rfl, by rw [hp]; exact hc, fun X hX => by rw [hp]; exact hX⟩, rfl⟩, sbt⟩) | (have hp : nameF s l = l.take k ++ [s] ++ l.drop k := nameF_at (by omega) hlt (fun h => ⟨by first | exact c18 | (exfalso; omega), fun e => by first | exact c32 (by rw [e]) | (exfalso; omega)⟩); exact ⟨_, ⟨slQ d3, slC d3, slH d3 ((l.take k ++ [s] ++ l.drop k).flatMap encS) 9, ⟨by rw [hp]; rfl, by rw [hp]; exact Ea hd3, fun X _ => by rw [hp]; exact Ba (fun _ => rfl) hd3⟩, rfl⟩, sbt⟩)
   ·refine B9 (B9 (B9 (B9 (B9 (B9 (y_ (A9 (T U) Ak) (Af (Ae (Bq [(0, _), (1, _), (5, _), (32, _)] ⟨Aa U, Aa U, Aa U, Aa U, trivial⟩ ?_))) U) U U U U) U U U U) U U U U) U U U U) U U U U) U U U U
    first | refine Bc (Aa U) ?_ | refine Bc (Ai (Aa U) (vbool (decide_eq_false c32))) ?_
    refine A2 (Ae (Ag (Ab (y_ (Ad Ak) (Af (Ae (Ag (Ab (y_ (Ac (T U)) (y_ (Ac (T U)) (y_ (Ac (T U)) (y_ (yl_sliceH  (T U) (T U) runUnderlying25 sizeOf9 (by omega)) ?_ U) U) U) U))))) U))))
    refine e_ (eff_appNil (l.take k) (by' := 16) (by first | exact (by simp; omega) | omega) (T U) (T U) runUnderlying25 runUnderlying25 sizeOf9 typeInfo9 U zeroValue9 U (fun _ => rfl) (fun _ => rfl) (by decide) (by simp; omega) ((hA.mono sbt).take k)) ?_ U
    rintro _ _ ⟨d1, rfl, hd1, rfl⟩
    refine y_ (Ad (T U)) (Af (Ae (Ag (Ab (y_ (Ac (T U)) (y_ (Ac (T U)) (e_ (Al (.cons (T U) .nil) (Di _)) ?_ U) U) U))))) U
    rintro _ _ ⟨n41, rfl, rfl⟩
    refine e_ (Ch (s) (by' := 16) (enc := encS) (by repeat (first | exact LocL.h | apply LocL.t | apply LocL.a)) (T U) (T U) runUnderlying25 runUnderlying25 sizeOf9 typeInfo9 U zeroValue9 U (fun _ => rfl) U hd1 (by decide) (by simp; omega)) ?_ U
    rintro _ _ ⟨d2, rfl, hd2, rfl⟩
    refine y_ (Ad (T U)) (Af (Ae (Ag (Ab (y_ (Ac (T U)) (y_ (Ac (T U)) (y_ (Ac (T U)) (y_ (yl_sliceL  (T U) (T U) runUnderlying25 sizeOf9 (by omega)) ?_ U) U) U) U))))) U
    refine e_ (eff_appTo (l.drop k) (by' := 16) (enc := encS) (by first | exact (by simp) | omega) (by repeat (first | exact LocL.h | apply LocL.t | apply LocL.a)) (T U) (T U) runUnderlying25 runUnderlying25 sizeOf9 typeInfo9 U zeroValue9 U (fun _ => rfl) (fun _ => rfl) hd2 (by decide) (by simp; omega) ((hA.mono sbt).drop hc k)) ?_ U
    rintro _ _ ⟨d3, rfl, hd3, rfl⟩
    refine y_ (Ad (T U)) (Af (Ae (A5 (A6 U (.tmp (Aa U) .nil) ?_)))) U
    first | (have hp : nameF s l = l := nameF_in (k := k) (by omega) hlt (Dv c32); exact ⟨_, ⟨q, c, [], ⟨by rw [hp]; rfl, by rw [hp]; exact hc, fun X hX => by rw [hp]; exact hX⟩, rfl⟩, sbt⟩) | (have hp : nameF s l = l.take k ++ [s] ++ l.drop k := nameF_at (by omega) hlt (fun h => ⟨by first | exact c18 | (exfalso; omega), fun e => by first | exact c32 (by rw [e]) | (exfalso; omega)⟩); exact ⟨_, ⟨slQ d3, slC d3, slH d3 ((l.take k ++ [s] ++ l.drop k).flatMap encS) 9, ⟨by rw [hp]; rfl, by rw [hp]; exact Ea hd3, fun X _ => by rw [hp]; exact Ba (fun _ => rfl) hd3⟩, rfl⟩, sbt⟩)
 ·refine B9 (B9 (B9 (B9 (B9 (B9 (y_ (A9 (T U) Ak) (Af (Ae ?_)) U) U U U U) U U U U) U U U U) U U U U) U U U U) U U U U
  first | refine Bc (Aa U) ?_ | refine Bc (Ai (Aa U) (vbool (decide_eq_false c18))) ?_
  refine B1 (Ay (A0 (A1 (Ae (Ag (Ag (Ab (y_ (Ac (T U)) (y_ (Ac (T U)) (y_ (Bm (T U) runUnderlying25) (y_ (Bz (T U) (T U)) (y_ (Ac (T U)) ?_ U) U) U) U) U))))))))
  first | refine Cb (s := 25) (Aa U) (fun c25 => ?_) (fun c25 => ?_) | refine Cw (s := 25) (Aa U) (fun c25 => ?_) (fun c25 => ?_)
  ·refine Bj (Ac (T U)) U (As U U (Aa U)) (Bj (Ac (T U)) U (As U U (Aa U)) (Bj (Bb (T U) (T U) runUnderlying25 sizeOf9 (by omega) (by first | exact rfl | exact hA.b (i := k) (by omega))) U (As U U (Aa U)) ?_))
   refine Bj (Aj (T U) isAgg9 (by first | exact c_o | exact cell1 ((hA.mono sbt).cs (i := k) (by omega)))) U (As U U (Aa U)) ?_
   refine Bj (Ac (T U)) U (As U U (Aa U)) (Bj (yl_eqSD (T U) (T U)) U (As U U (Aa U)) (y_ (A4 (T U) (T U)) (Af (Ae (Bq [(0, _), (1, _), (5, _), (32, _)] ⟨Aa U, Aa U, Aa U, Aa U, trivial⟩ ?_))) U))
   first | refine Ao (Aa U) (fun c32 => ?_) (fun c32 => ?_) | refine A3 (Aa U) (fun c32 => ?_) (fun c32 => ?_)
   ·refine Ag (Ab (y_ (Ac (T U)) (y_ (Ad (T U)) (Af (Ae (A5 (An (A6 U (.tmp (Aa U) .nil) ?_))))) U) U))
    first | (have hp : nameF s l = l := nameF_in (k := k) (by omega) hlt (Dv c32); exact ⟨_, ⟨q, c, [], ⟨by rw [hp]; rfl, by rw [hp]; exact hc, fun X hX => by rw [hp]; exact hX⟩, rfl⟩, sbt⟩) | (have hp : nameF s l = l.take k ++ [s] ++ l.drop k := nameF_at (by omega) hlt (fun h => ⟨by first | exact c18 | (exfalso; omega), fun e => by first | exact c32 (by rw [e]) | (exfalso; omega)⟩); exact ⟨_, ⟨slQ d3, slC d3, slH d3 ((l.take k ++ [s] ++ l.drop k).flatMap encS) 9, ⟨by rw [hp]; rfl, by rw [hp]; exact Ea hd3, fun X _ => by rw [hp]; exact Ba (fun _ => rfl) hd3⟩, rfl⟩, sbt⟩)
   ·refine A2 (Ae (Ag (Ab (y_ (Ad Ak) (Af (Ae (Ag (Ab (y_ (Ac (T U)) (y_ (Ac (T U)) (y_ (Ac (T U)) (y_ (yl_sliceH  (T U) (T U) runUnderlying25 sizeOf9 (by omega)) ?_ U) U) U) U))))) U))))
    refine e_ (eff_appNil (l.take k) (by' := 16) (by first | exact (by simp; omega) | omega) (T U) (T U) runUnderlying25 runUnderlying25 sizeOf9 typeInfo9 U zeroValue9 U (fun _ => rfl) (fun _ => rfl) (by decide) (by simp; omega) ((hA.mono sbt).take k)) ?_ U
    rintro _ _ ⟨d1, rfl, hd1, rfl⟩
    refine y_ (Ad (T U)) (Af (Ae (Ag (Ab (y_ (Ac (T U)) (y_ (Ac (T U)) (e_ (Al (.cons (T U) .nil) (Di _)) ?_ U) U) U))))) U
    rintro _ _ ⟨n41, rfl, rfl⟩
    refine e_ (Ch (s) (by' := 16) (enc := encS) (by repeat (first | exact LocL.h | apply LocL.t | apply LocL.a)) (T U) (T U) runUnderlying25 runUnderlying25 sizeOf9 typeInfo9 U zeroValue9 U (fun _ => rfl) U hd1 (by decide) (by simp; omega)) ?_ U
    rintro _ _ ⟨d2, rfl, hd2, rfl⟩
    refine y_ (Ad (T U)) (Af (Ae (Ag (Ab (y_ (Ac (T U)) (y_ (Ac (T U)) (y_ (Ac (T U)) (y_ (yl_sliceL  (T U) (T U) runUnderlying25 sizeOf9 (by omega)) ?_ U) U) U) U))))) U
    refine e_ (eff_appTo (l.drop k) (by' := 16) (enc := encS) (by first | exact (by simp) | omega) (by repeat (first | exact LocL.h | apply LocL.t | apply LocL.a)) (T U) (T U) runUnderlying25 runUnderlying25 sizeOf9 typeInfo9 U zeroValue9 U (fun _ => rfl) (fun _ => rfl) hd2 (by decide) (by simp; omega) ((hA.mono sbt).drop hc k)) ?_ U
    rintro _ _ ⟨d3, rfl, hd3, rfl⟩
    refine y_ (Ad (T U)) (Af (Ae (A5 (A6 U (.tmp (Aa U) .nil) ?_)))) U
    first | (have hp : nameF s l = l := nameF_in (k := k) (by omega) hlt (Dv c32); exact ⟨_, ⟨q, c, [], ⟨by rw [hp]; rfl, by rw [hp]; exact hc, fun X hX => by rw [hp]; exact hX⟩, rfl⟩, sbt⟩) | (have hp : nameF s l = l.take k ++ [s] ++ l.drop k := nameF_at (by omega) hlt (fun h => ⟨by first | exact c18 | (exfalso; omega), fun e => by first | exact c32 (by rw [e]) | (exfalso; omega)⟩); exact ⟨_, ⟨slQ d3, slC d3, slH d3 ((l.take k ++ [s] ++ l.drop k).flatMap encS) 9, ⟨by rw [hp]; rfl, by rw [hp]; exact Ea hd3, fun X _ => by rw [hp]; exact Ba (fun _ => rfl) hd3⟩, rfl⟩, sbt⟩)
  ·refine B9 (B9 (B9 (B9 (B9 (B9 (y_ (A9 (T U) Ak) (Af (Ae (Bq [(0, _), (1, _), (5, _), (32, _)] ⟨Aa U, Aa U, Aa U, Aa U, trivial⟩ ?_))) U) U U U U) U U U U) U U U U) U U U U) U U U U) U U U U
   first | refine Bc (Aa U) ?_ | refine Bc (Ai (Aa U) (vbool (decide_eq_false c32))) ?_
   refine A2 (Ae (Ag (Ab (y_ (Ad Ak) (Af (Ae (Ag (Ab (y_ (Ac (T U)) (y_ (Ac (T U)) (y_ (Ac (T U)) (y_ (yl_sliceH  (T U) (T U) runUnderlying25 sizeOf9 (by omega)) ?_ U) U) U) U))))) U))))
   refine e_ (eff_appNil (l.take k) (by' := 16) (by first | exact (by simp; omega) | omega) (T U) (T U) runUnderlying25 runUnderlying25 sizeOf9 typeInfo9 U zeroValue9 U (fun _ => rfl) (fun _ => rfl) (by decide) (by simp; omega) ((hA.mono sbt).take k)) ?_ U
   rintro _ _ ⟨d1, rfl, hd1, rfl⟩
   refine y_ (Ad (T U)) (Af (Ae (Ag (Ab (y_ (Ac (T U)) (y_ (Ac (T U)) (e_ (Al (.cons (T U) .nil) (Di _)) ?_ U) U) U))))) U
   rintro _ _ ⟨n41, rfl, rfl⟩
   refine e_ (Ch (s) (by' := 16) (enc := encS) (by repeat (first | exact LocL.h | apply LocL.t | apply LocL.a)) (T U) (T U) runUnderlying25 runUnderlying25 sizeOf9 typeInfo9 U zeroValue9 U (fun _ => rfl) U hd1 (by decide) (by simp; omega)) ?_ U
   rintro _ _ ⟨d2, rfl, hd2, rfl⟩
   refine y_ (Ad (T U)) (Af (Ae (Ag (Ab (y_ (Ac (T U)) (y_ (Ac (T U)) (y_ (Ac (T U)) (y_ (yl_sliceL  (T U) (T U) runUnderlying25 sizeOf9 (by omega)) ?_ U) U) U) U))))) U
   refine e_ (eff_appTo (l.drop k) (by' := 16) (enc := encS) (by first | exact (by simp) | omega) (by repeat (first | exact LocL.h | apply LocL.t | apply LocL.a)) (T U) (T U) runUnderlying25 runUnderlying25 sizeOf9 typeInfo9 U zeroValue9 U (fun _ => rfl) (fun _ => rfl) hd2 (by decide) (by simp; omega) ((hA.mono sbt).drop hc k)) ?_ U
   rintro _ _ ⟨d3, rfl, hd3, rfl⟩
   refine y_ (Ad (T U)) (Af (Ae (A5 (A6 U (.tmp (Aa U) .nil) ?_)))) U
   first | (have hp : nameF s l = l := nameF_in (k := k) (by omega) hlt (Dv c32); exact ⟨_, ⟨q, c, [], ⟨by rw [hp]; rfl, by rw [hp]; exact hc, fun X hX => by rw [hp]; exact hX⟩, rfl⟩, sbt⟩) | (have hp : nameF s l = l.take k ++ [s] ++ l.drop k := nameF_at (by omega) hlt (fun h => ⟨by first | exact c18 | (exfalso; omega), fun e => by first | exact c32 (by rw [e]) | (exfalso; omega)⟩); exact ⟨_, ⟨slQ d3, slC d3, slH d3 ((l.take k ++ [s] ++ l.drop k).flatMap encS) 9, ⟨by rw [hp]; rfl, by rw [hp]; exact Ea hd3, fun X _ => by rw [hp]; exact Ba (fun _ => rfl) hd3⟩, rfl⟩, sbt⟩)
end Go.Proofs.YtkdolgnpkjihpaaGreatDoor
namespace Go.Proofs.YtkdolgnpkjihpaaGreatDoor
open _root_.Go.Proofs.Tryz
open Go.RowKit
set_option linter.unusedVariables false
set_option linter.unusedSimpArgs false
mutual
def ntR : Rxm → List ByteArray → List ByteArray
 | .mk k s _ _ xs, l => ntL xs (if k = 2 then nameF s l else l)
def ntL : List Rxm → List ByteArray → List ByteArray
 | [], l => l
 | x :: xs, l => ntL xs (ntR x l)
end
theorem ntR_eq (m : Rxm) (l : List ByteArray) : ntR m l = ntL m.args (if m.kind = 2 then nameF m.node l else l) := by cases m; rfl
theorem ntL_app : ∀ (a b : List Rxm) (l : List ByteArray), ntL (a ++ b) l = ntL b (ntL a l)
 | [], b, l => rfl
 | x :: a, b, l => by simp only [List.cons_append, ntL]; exact ntL_app a b _
theorem ntL_take {xs : List Rxm} {i : Nat} (h : i < xs.length) (l : List ByteArray) : ntL (xs.take (i + 1)) l = ntR (gd xs i) (ntL (xs.take i) l) := by
 rw [Du h, ntL_app]; rfl
theorem ntR_len : ∀ (m : Rxm) (l : List ByteArray), (ntR m l).length ≤ l.length + m.sz := rx_ind (Q := fun m => ∀ l : List ByteArray, (ntR m l).length ≤ l.length + m.sz) fun m ih l => by
 have key : ∀ (xs : List Rxm), (∀ a ∈ xs, a ∈ m.args) → ∀ l : List ByteArray, (ntL xs l).length ≤ l.length + szL xs := fun xs => by
  induction xs with
  | nil => intro _ l; exact Nat.le_refl _
  | cons x xs ih2 =>
   intro hm l
   have h1 := ih2 (fun a ha => hm a (by simp [ha])) (ntR x l)
   have h2 := ih x (hm x (by simp)) l
   simp only [ntL, szL]; omega
 rw [ntR_eq, sz_eq]
 have h1 := key m.args (fun a h => h) (if m.kind = 2 then nameF m.node l else l)
 have h2 : (if m.kind = 2 then nameF m.node l else l).length ≤ l.length + 1 := by
  split
  ·exact nameF_len _ _
  ·omega
 omega
def LtS (w0 : World) (m : Rxm) : Prop := ∀ (H : List (Nat × Obj)) (l : List ByteArray) (q : Option Addr) (c : Nat), Arr w0 H q 1 encS l → l.length ≤ c → RxM w0 H m → l.length + m.sz ≤ 100000 → FSpec Tryz.prog w0 74 #[.slice q l.length c, .agg (encRx m).toArray] H (fun v H' => ∃ (q' : Option Addr) (c' : Nat) (M : List (Nat × Obj)), (v = .slice q' (ntR m l).length c' ∧ (ntR m l).length ≤ c' ∧ ∀ X, Arr w0 X q 1 encS l → Arr w0 (M ++ X) q' 1 encS (ntR m l)) ∧ H' = M ++ H)
theorem lt_step {w0 : World} {H : List (Nat × Obj)} (m : Rxm) (ih : ∀ a ∈ m.args, LtS w0 a) (l : List ByteArray) (q : Option Addr) (c : Nat) (hA : Arr w0 H q 1 encS l) (hc : l.length ≤ c) (hM : RxM w0 H m) (hz : l.length + m.sz ≤ 100000) :
  FSpec Tryz.prog w0 74 #[.slice q l.length c, .agg (encRx m).toArray] H (fun v H' => ∃ (q' : Option Addr) (c' : Nat) (M : List (Nat × Obj)), (v = .slice q' (ntR m l).length c' ∧ (ntR m l).length ≤ c' ∧ ∀ X, Arr w0 X q 1 encS l → Arr w0 (M ++ X) q' 1 encS (ntR m l)) ∧ H' = M ++ H) := by
 refine A8 Tryz.func74 U ntmps74 U ?_
 have hse := sz_eq m
 have hln := szL_len m.args
 have hX := hM.arr
 have h0l : (if m.kind = 2 then nameF m.node l else l).length ≤ l.length + 1 := by
  split
  ·exact nameF_len _ _
  ·omega
 have hkey : ∀ i, i ≤ m.args.length → (ntL (m.args.take i) (if m.kind = 2 then nameF m.node l else l)).length ≤ l.length + 1 + szL (m.args.take i) := fun i => by
  induction i with
  | zero => intro _; simpa [ntL, szL] using h0l
  | succ i ih2 =>
   intro h
   have h1 := ih2 (by omega)
   have h2 := ntR_len (gd m.args i) (ntL (m.args.take i) (if m.kind = 2 then nameF m.node l else l))
   rw [ntL_take (by omega), szL_take (by omega)]; omega
 refine Ag (Ab (e_ (Bi (T U) cs_) ?_ U))
 rintro _ _ ⟨n3, rfl, rfl⟩
 refine y_ (Ad Ak) (Af (Ae ?_)) U
 refine Dr (X := Option Addr × Nat × List (Nat × Obj)) (V := fun ⟨g1, g2, g3⟩ => [(0, .slice g1 (if m.kind = 2 then nameF m.node l else l).length g2)]) (C := [(3, _)]) (G := fun ⟨g1, g2, g3⟩ => g3 ++ ((n3, Cl (encRx m) 24) :: H)) (φ := fun ⟨g1, g2, g3⟩ => (if m.kind = 2 then nameF m.node l else l).length ≤ g2 ∧ ∀ X, Arr w0 X q 1 encS l → Arr w0 (g3 ++ X) g1 1 encS (if m.kind = 2 then nameF m.node l else l)) ⟨Aa rfl, trivial⟩ ?_ ?_
 ·refine Ag (Ab (y_ (Bn (T U) C4) (y_ (Aj (T U) isAgg3 (by first | exact c_o)) ?_ U) U))
  refine y_ (Bs (T U) Ak) (Af (Ae ?_)) U
  first | refine Ao (Aa U) (fun c8 => ?_) (fun c8 => ?_) | refine A3 (Aa U) (fun c8 => ?_) (fun c8 => ?_)
  ·have h0e : (if m.kind = 2 then nameF m.node l else l) = nameF m.node l := if_pos c8
   refine Ab (y_ (Ac (T U)) (y_ (Be (T U) fa24_1) (y_ (Aj (T U) isAgg9 (by first | exact c_o)) ?_ U) U) U)
   refine e_ (Aw (.cons (T U) (.cons (T U) .nil)) call121 (name_r l q c (hA.mono sbt) hc (by omega) m.node)) ?_ U
   rintro _ _ ⟨q2, c2, M2, ⟨rfl, hc2, hA2⟩, rfl⟩
   refine y_ (Ad (T U)) (Af ?_) U
   refine Br ((q2, c2, M2)) ?_ ⟨(by first | exact Aa U | (refine Ai (Aa U) (vint ?_); omega) | (refine Ai (Aa U) ?_; simp; done) | (refine Ai (Aa U) ?_; exact by rw [hlt]) | (refine Ai (Aa U) ?_; exact by simp only [h0e])), trivial⟩ ⟨Aa U, trivial⟩ sbt
   first | exact ⟨by rw [h0e]; exact hc2, fun X hX => by rw [h0e]; exact hA2 X hX⟩ | exact ⟨by rw [h0e]; exact hc, fun X hX => by rw [h0e]; exact hX⟩
  ·have h0e : (if m.kind = 2 then nameF m.node l else l) = l := if_neg c8
   refine A2 ?_
   refine Br ((q, c, [])) ?_ ⟨(by first | exact Aa U | (refine Ai (Aa U) (vint ?_); omega) | (refine Ai (Aa U) ?_; simp; done) | (refine Ai (Aa U) ?_; exact by rw [hlt]) | (refine Ai (Aa U) ?_; exact by simp only [h0e])), trivial⟩ ⟨Aa U, trivial⟩ sbt
   first | exact ⟨by rw [h0e]; exact hc2, fun X hX => by rw [h0e]; exact hA2 X hX⟩ | exact ⟨by rw [h0e]; exact hc, fun X hX => by rw [h0e]; exact hX⟩
 rintro ⟨g1, g2, g3⟩ ⟨hg1, hg2⟩
 refine Ag (Ag (Ab (y_ (Ad Ak) (Af (Ae (Au ?_))) U)))
 refine Cc (X := Nat × Option Addr × Nat × List (Nat × Obj)) (V := fun ⟨i, q1, c1, M⟩ => [(5, .int .i64 (i : Nat)), (0, .slice q1 (ntL (m.args.take i) (if m.kind = 2 then nameF m.node l else l)).length c1)]) (C := [(3, _)]) (G := fun ⟨i, q1, c1, M⟩ => M ++ ((n3, Cl (encRx m) 24) :: H)) (φ := fun ⟨i, q1, c1, M⟩ => i ≤ m.args.length ∧ (ntL (m.args.take i) (if m.kind = 2 then nameF m.node l else l)).length ≤ c1 ∧ ∀ X, Arr w0 X q 1 encS l → Arr w0 (M ++ X) q1 1 encS (ntL (m.args.take i) (if m.kind = 2 then nameF m.node l else l))) (μ := fun ⟨i, q1, c1, M⟩ => m.args.length - i) (x0 := (0, g1, g2, g3)) ?_ ⟨Aa rfl, trivial⟩ ⟨(by first | exact Aa rfl | (refine Ai (Aa rfl) (vint ?_); omega) | (refine Ai (Aa rfl) ?_; simp; done) | (refine Ai (Aa rfl) ?_; exact by rw [hlt]) | (refine Ai (Aa rfl) ?_; exact by simp only [h0e])), (by first | exact Aa rfl | (refine Ai (Aa rfl) (vint ?_); omega) | (refine Ai (Aa rfl) ?_; simp; done) | (refine Ai (Aa rfl) ?_; exact by rw [hlt]) | (refine Ai (Aa rfl) ?_; exact by simp only [h0e])), trivial⟩ sb0 ?_
 ·exact ⟨Nat.zero_le _, hg1, hg2⟩
 rintro ⟨i, q1, c1, M⟩ ⟨hi, hc1, hA1⟩
 refine Ag (Ag (Ab (y_ (Ac (T U)) (y_ (Be (T U) C1) (y_ (Aj (T U) isAgg22 (by first | exact c_o)) ?_ U) U) U)))
 refine y_ (Bm (T U) runUnderlying22) (y_ (Bz (T U) (T U)) (Af (Ae ?_)) U) U
 first | refine Ao (Aa U) (fun c17 => ?_) (fun c17 => ?_) | refine A3 (Aa U) (fun c17 => ?_) (fun c17 => ?_)
 ·refine A2 (Ae (Ag (Au (Ab (y_ (Ac (T U)) (y_ (Be (T U) C1) (y_ (Aj (T U) isAgg22 (by first | exact c_o)) ?_ U) U) U)))))
  refine y_ (Ac (T U)) (y_ (Bb (T U) (T U) runUnderlying22 sizeOf24 (by omega) (by first | exact rfl | exact hX.b (i := i) (by omega))) ?_ U) U
  refine y_ (Am (T U) isAgg24 sizeOf24 U (by first | exact (hX.mono sbt).cs (i := i) (by omega) | exact Bh)) ?_ U
  refine e_ (Aw (.cons (T U) (.cons (T U) .nil)) call74 (ih _ (Az (by omega)) _ _ q1 c1 ((hA1 _ hA).mono sbt) hc1 ((hM.arg (Az (i := i) (by omega))).mono sbt) (by have h1 := hkey i (by omega); have h2 := szL_le m.args (i + 1); rw [szL_take (by omega)] at h2; omega))) ?_ U
  rintro _ _ ⟨q2, c2, M2, ⟨rfl, hc2, hA2⟩, rfl⟩
  refine y_ (Ad (T U)) (Af (Bl (Ae (Ab (y_ (Ac (T U)) (y_ (Bu (T U) Ak (by omega)) ?_ U) U))))) U
  refine y_ (Ad (T U)) (Af ?_) U
  have hlt := ntL_take (xs := m.args) (i := i) (by omega) (if m.kind = 2 then nameF m.node l else l)
  refine Bo ((i + 1, q2, c2, M2 ++ M)) ?_ ?_ ⟨(by first | exact Aa U | (refine Ai (Aa U) (vint ?_); omega) | (refine Ai (Aa U) ?_; simp; done) | (refine Ai (Aa U) ?_; exact by rw [hlt]) | (refine Ai (Aa U) ?_; exact by simp only [h0e])), (by first | exact Aa U | (refine Ai (Aa U) (vint ?_); omega) | (refine Ai (Aa U) ?_; simp; done) | (refine Ai (Aa U) ?_; exact by rw [hlt]) | (refine Ai (Aa U) ?_; exact by simp only [h0e])), trivial⟩ ⟨Aa U, trivial⟩ ?_
  ·exact ⟨by omega, by rw [hlt]; exact hc2, fun X hX => by rw [hlt, List.append_assoc]; exact hA2 _ (hA1 X hX)⟩
  ·first | omega | (simp only []; omega)
  ·show (M2 ++ M ++ _).Sublist _; rw [List.append_assoc]; exact sbt
 ·refine B1 (Ay (A0 (A1 (Ae (Ag (Ab (y_ (Ac (T U)) (y_ (Ad (T U)) (Af (Ae (A5 (A6 U (.tmp (Aa U) .nil) ?_)))) U) U)))))))
  have hi2 : m.args.take i = m.args := List.take_of_length_le (by omega)
  rw [hi2] at hc1 hA1 ⊢
  rw [ntR_eq]
  exact ⟨_, ⟨q1, c1, M, ⟨rfl, hc1, hA1⟩, rfl⟩, sbt⟩
theorem lt_s {w0 : World} : ∀ m : Rxm, LtS w0 m := rx_ind (Q := LtS w0) fun m ih H l q c hA hc hM hz => lt_step m ih l q c hA hc hM hz
end Go.Proofs.YtkdolgnpkjihpaaGreatDoor
namespace Go.Proofs.YtkdolgnpkjihpaaGreatDoor
open _root_.Go.Proofs.Tryz
open Go.RowKit
set_option linter.unusedVariables false
set_option linter.unusedSimpArgs false
theorem fa161_1 (b o : Nat) (w : World) : (Instr.fieldAt 161 (.pointer (some ⟨b, o, none⟩)) 1).run Tryz.prog w = .ok (.pointer (some ⟨b, o + 1, none⟩)) w := by kernel_rfl
def Srn (n : Nat) (l : List Nat) : Prop := l.Pairwise (· < ·) ∧ ∀ x ∈ l, x < n
theorem Srn.nil {n : Nat} : Srn n [] := ⟨.nil, fun x hx => by cases hx⟩
theorem Srn.le {n m : Nat} {l : List Nat} (h : Srn n l) (hm : n ≤ m) : Srn m l := ⟨h.1, fun x hx => Nat.lt_of_lt_of_le (h.2 x hx) hm⟩
theorem Srn.len {n : Nat} {l : List Nat} (h : Srn n l) : l.length ≤ n := by
 have h1 : l.Nodup := h.1.imp fun h => Nat.ne_of_lt h
 have := nodup_le h1 (l' := List.range n) fun s hs => List.mem_range.2 (h.2 s hs)
 simpa using this
theorem mem_putF {n x : Nat} : ∀ {l : List Nat}, x ∈ putF n l ↔ x = n ∨ x ∈ l
 | [] => by simp [putF]
 | y :: l => by
  have ih := mem_putF (n := n) (x := x) (l := l)
  unfold putF
  split
  ·simp only [List.mem_cons, ih]
   constructor
   ·rintro (h | h | h)
    ·exact .inr (.inl h)
    ·exact .inl h
    ·exact .inr (.inr h)
   ·rintro (h | h | h)
    ·exact .inr (.inl h)
    ·exact .inl h
    ·exact .inr (.inr h)
  ·split
   ·rename_i h; subst h; simp only [List.mem_cons]
    constructor
    ·exact fun h => .inr h
    ·rintro (h | h)
     ·exact .inl h
     ·exact h
   ·simp only [List.mem_cons]
theorem putF_srt {n : Nat} : ∀ {l : List Nat}, l.Pairwise (· < ·) → (putF n l).Pairwise (· < ·)
 | [], _ => by simp [putF]
 | y :: l, h => by
  rw [List.pairwise_cons] at h
  unfold putF
  split
  ·rename_i h0
   rw [List.pairwise_cons]
   refine ⟨fun x hx => ?_, putF_srt h.2⟩
   rcases mem_putF.1 hx with e | e
   ·subst e; exact h0
   ·exact h.1 x e
  ·split
   ·rw [List.pairwise_cons]; exact h
   ·rename_i h0 h1
    rw [List.pairwise_cons]
    refine ⟨fun x hx => ?_, by rw [List.pairwise_cons]; exact h⟩
    rcases List.mem_cons.1 hx with e | e
    ·subst e; omega
    ·have := h.1 x e; omega
theorem mem_mergeF {x : Nat} : ∀ {b a : List Nat}, x ∈ mergeF a b ↔ x ∈ a ∨ x ∈ b
 | [], a => by simp [mergeF]
 | y :: b, a => by
  have ih := mem_mergeF (x := x) (b := b) (a := putF y a)
  have e : mergeF a (y :: b) = mergeF (putF y a) b := rfl
  rw [e, ih, mem_putF, List.mem_cons]
  constructor
  ·rintro ((h | h) | h)
   ·exact .inr (.inl h)
   ·exact .inl h
   ·exact .inr (.inr h)
  ·rintro (h | h | h)
   ·exact .inl (.inr h)
   ·exact .inl (.inl h)
   ·exact .inr h
theorem mergeF_srt : ∀ {b a : List Nat}, a.Pairwise (· < ·) → (mergeF a b).Pairwise (· < ·)
 | [], _, h => h
 | y :: b, a, h => mergeF_srt (b := b) (putF_srt h)
theorem Srn.merge {n : Nat} {a b : List Nat} (ha : Srn n a) (hb : Srn n b) : Srn n (mergeF a b) := ⟨mergeF_srt ha.1, fun x hx => (mem_mergeF.1 hx).elim (ha.2 x) (hb.2 x)⟩
structure PT where
 nms : List ByteArray
 fol : List (List Nat)
structure PE where
 first : List Nat
 last : List Nat
 emp : Bool
def leadP (fol : List (List Nat)) (fr to : List Nat) : List (List Nat) := fr.foldl (fun f i => f.set i (mergeF (gd f i) to)) fol
theorem leadP_take {fol : List (List Nat)} {fr to : List Nat} {i : Nat} (h : i < fr.length) : leadP fol (fr.take (i + 1)) to = (leadP fol (fr.take i) to).set (gd fr i) (mergeF (gd (leadP fol (fr.take i) to) (gd fr i)) to) := by
 unfold leadP; rw [Du h]; simp
theorem leadP_len (fr to : List Nat) : ∀ fol : List (List Nat), (leadP fol fr to).length = fol.length := by
 unfold leadP
 induction fr with
 | nil => intro fol; rfl
 | cons x fr ih => intro fol; simp only [List.foldl_cons]; rw [ih]; simp
def readP : Re → PT → PT × PE
 | .emp, t => (t, ⟨[], [], true⟩)
 | .nod s, t => (⟨t.nms ++ [s], t.fol ++ [[]]⟩, ⟨[t.fol.length], [t.fol.length], false⟩)
 | .any, t => (⟨t.nms ++ [⟨#[]⟩], t.fol ++ [[]]⟩, ⟨[t.fol.length], [t.fol.length], false⟩)
 | .alt a b, t =>
  let x := readP a t
  let y := readP b x.1
  (y.1, ⟨mergeF x.2.first y.2.first, mergeF x.2.last y.2.last, x.2.emp || y.2.emp⟩)
 | .seq a b, t =>
  let x := readP a t
  let y := readP b x.1
  (⟨y.1.nms, leadP y.1.fol x.2.last y.2.first⟩, ⟨if x.2.emp then mergeF x.2.first y.2.first else x.2.first, if y.2.emp then mergeF y.2.last x.2.last else y.2.last, x.2.emp && y.2.emp⟩)
 | .star a, t =>
  let x := readP a t
  (⟨x.1.nms, leadP x.1.fol x.2.last x.2.first⟩, ⟨x.2.first, x.2.last, true⟩)
structure LT where
 lv : List Rxm
 fol : List RowQ
def LT.pl (t : LT) : PT := ⟨t.lv.map Rxm.node, t.fol.map RowQ.l⟩
def LfOk (m : Rxm) : Prop := (m.kind = 2 ∧ m.node.size ≠ 0) ∨ (m.kind = 3 ∧ m.node = ⟨#[]⟩)
structure LtOk (w0 : World) (X : List (Nat × Obj)) (t : LT) : Prop where
 len : t.fol.length = t.lv.length
 few : t.lv.length ≤ 64
 lf : ∀ m ∈ t.lv, LfOk m
 arr : ∀ r ∈ t.fol, Arr w0 X r.q 1 encU r.l
 cap : ∀ r ∈ t.fol, r.l.length ≤ r.c
 srt : ∀ r ∈ t.fol, Srn t.lv.length r.l
theorem LtOk.mono {w0 : World} {X Y : List (Nat × Obj)} {t : LT} (h : LtOk w0 X t) (hs : X.Sublist Y := by exact sbt) : LtOk w0 Y t := ⟨h.len, h.few, h.lf, fun r hr => (h.arr r hr).mono hs, h.cap, h.srt⟩
def ltH (nt : Nat) (d1 d2 : Sl) (t : LT) : List (Nat × Obj) := (nt, Cl [slV d1 t.lv.length, slV d2 t.fol.length] 161) :: (slH d1 (t.lv.flatMap encRx) 24 ++ slH d2 (t.fol.flatMap encRQ) 42)
theorem lt_app (nt : Nat) (d1 d2 : Sl) (t : LT) (R : List (Nat × Obj)) : ltH nt d1 d2 t ++ R = (nt, Cl [slV d1 t.lv.length, slV d2 t.fol.length] 161) :: (slH d1 (t.lv.flatMap encRx) 24 ++ (slH d2 (t.fol.flatMap encRQ) 42 ++ R)) := by
 unfold ltH; rw [List.cons_append, List.append_assoc]
theorem LtOk.set {w0 : World} {X Y : List (Nat × Obj)} {t : LT} (h : LtOk w0 X t) {k : Nat} {r : RowQ} (hs : X.Sublist Y) (hA : Arr w0 Y r.q 1 encU r.l) (hc : r.l.length ≤ r.c) (hr : Srn t.lv.length r.l) : LtOk w0 Y { t with fol := t.fol.set k r } := by
 have hm : ∀ x ∈ t.fol.set k r, x ∈ t.fol ∨ x = r := fun x hx => List.mem_or_eq_of_mem_set hx
 refine ⟨by simpa using h.len, h.few, h.lf, fun x hx => ?_, fun x hx => ?_, fun x hx => ?_⟩
 ·rcases hm x hx with e | e
  ·exact (h.arr x e).mono hs
  ·subst e; exact hA
 ·rcases hm x hx with e | e
  ·exact h.cap x e
  ·subst e; exact hc
 ·rcases hm x hx with e | e
  ·exact h.srt x e
  ·subst e; exact hr
theorem lead_s {w0 : World} {R : List (Nat × Obj)} (nt : Nat) (d1 d2 : Sl) (t : LT) (hok2 : SlOk d2 t.fol.length 1) (ht : LtOk w0 R t) (fr to : List Nat) (q1 q2 : Option Addr) (c1 c2 : Nat) (hA : Arr w0 R q1 1 encU fr) (hB : Arr w0 R q2 1 encU to) (hf : Srn t.lv.length fr) (hto : Srn t.lv.length to) :
  FSpec Tryz.prog w0 140 #[.pointer (some ⟨nt, 0, none⟩), .slice q1 fr.length c1, .slice q2 to.length c2] (ltH nt d1 d2 t ++ R) (fun _ H' => ∃ y : List RowQ × List (Nat × Obj), (y.1.map RowQ.l = leadP t.pl.fol fr to ∧ (∀ X, LtOk w0 X t → LtOk w0 (y.2 ++ X) ⟨t.lv, y.1⟩) ∧ SlOk d2 y.1.length 1) ∧ H' = (y.2 ++ ltH nt d1 d2 ⟨t.lv, y.1⟩) ++ R) := by
 rw [lt_app]
 have hfl := hf.len
 have htl := hto.len
 have hfw := ht.few
 have hfn := ht.len
 refine A8 Tryz.func140 U ntmps140 U (Ag (Ab (y_ (Ad Ak) (Af (Ae (Au ?_))) U)))
 refine Cc (X := Nat × List RowQ × List (Nat × Obj)) (V := fun ⟨i, fol1, M⟩ => [(6, .int .i64 (i : Nat))]) (C := [(0, _), (1, _), (2, _)]) (G := fun ⟨i, fol1, M⟩ => M ++ ((nt, Cl [slV d1 t.lv.length, slV d2 fol1.length] 161) :: (slH d1 (t.lv.flatMap encRx) 24 ++ (slH d2 (fol1.flatMap encRQ) 42 ++ R)))) (φ := fun ⟨i, fol1, M⟩ => i ≤ fr.length ∧ fol1.map RowQ.l = leadP t.pl.fol (fr.take i) to ∧ (∀ X, LtOk w0 X t → LtOk w0 (M ++ X) ⟨t.lv, fol1⟩) ∧ SlOk d2 fol1.length 1) (μ := fun ⟨i, fol1, M⟩ => fr.length - i) (x0 := (0, t.fol, [])) ?_ ⟨Aa rfl, Aa rfl, Aa rfl, trivial⟩ ⟨atd, trivial⟩ sb0 ?_
 ·exact ⟨Nat.zero_le _, rfl, fun X hX => hX, hok2⟩
 rintro ⟨i, fol1, M⟩ ⟨hi, hfo, hx1, hd2⟩
 have ht1 := hx1 R ht
 have hf1 : fol1.length = t.lv.length := ht1.len
 refine Ag (Ag (Ab (y_ (Ac (T U)) (y_ (Ac (T U)) (y_ (Bm (T U) runUnderlying42) (y_ (Bz (T U) (T U)) (Af (Ae ?_)) U) U) U) U)))
 first | refine Ao (Aa U) (fun c10 => ?_) (fun c10 => ?_) | refine A3 (Aa U) (fun c10 => ?_) (fun c10 => ?_)
 ·have hfr : gd fr i < t.lv.length := hf.2 _ (Az (by omega))
  have hrl := (ht1.srt _ (Az (l := fol1) (i := gd fr i) (by omega))).len
  have hrl2 : (gd fol1 (gd fr i)).l.length ≤ t.lv.length := hrl
  refine A2 (Ae (Ag (Au (Cj 21 [(0, true), (1, true), (2, true), (3, true), (4, true), (5, true), (6, true), (7, true), (8, true), (9, true), (10, true), (11, true), (12, true), (13, true), (14, true), (15, true), (16, true), (17, true), (18, true), (19, false), (20, true)] _ mixd (by kernel_rfl) sb0 ?_))))
  refine o_y U (Ac (T U)) (o_y U (Bw (T U)) (o_y U (Be (T U) fa161_1) (o_y U (Aj (T U) isAgg26 (by first | exact c_o)) ?_ U Ah) U Ah) U Ah) U Ah
  refine o_y U (Ac (T U)) (o_y U (Ac (T U)) (o_y U (Bb (T U) (T U) runUnderlying42 sizeOf3 (by omega) (by first | exact rfl | exact hA.b (i := i) (by omega) | exact (Ba (w0 := w0) (enc := encRQ) (sz := 1) (e := 42) (X := []) (fun _ => rfl) hd2).b (i := (gd fr i)) (by omega))) ?_ U Ah) U Ah) U Ah
  refine o_y U (Aj (T U) isAgg3 (by first | exact c_o | exact cell1 ((hA.mono sbt).cs (i := i) (by omega)))) ?_ U Ah
  refine o_y U (Ac (T U)) (o_y U (Bw (T U)) (o_y U (Be (T U) fa161_1) (o_y U (Aj (T U) isAgg26 (by first | exact c_o)) ?_ U Ah) U Ah) U Ah) U Ah
  refine o_y U (Ac (T U)) (o_y U (Ac (T U)) (o_y U (Bb (T U) (T U) runUnderlying42 sizeOf3 (by omega) (by first | exact rfl | exact hA.b (i := i) (by omega) | exact (Ba (w0 := w0) (enc := encRQ) (sz := 1) (e := 42) (X := []) (fun _ => rfl) hd2).b (i := (gd fr i)) (by omega))) ?_ U Ah) U Ah) U Ah
  refine o_y U (Aj (T U) isAgg3 (by first | exact c_o | exact cell1 ((hA.mono sbt).cs (i := i) (by omega)))) ?_ U Ah
  refine o_y U (Bb (T U) (T U) runUnderlying26 sizeOf42 (by omega) (by first | exact rfl | exact hA.b (i := i) (by omega) | exact (Ba (w0 := w0) (enc := encRQ) (sz := 1) (e := 42) (X := []) (fun _ => rfl) hd2).b (i := (gd fr i)) (by omega))) ?_ U Ah
  refine o_y U (Aj (T U) isAgg42 (by first | exact c_o | exact cell1 (((Ba (w0 := w0) (enc := encRQ) (sz := 1) (e := 42) (X := R) (fun _ => rfl) hd2).mono sbt).cs (i := (gd fr i)) (by omega)))) ?_ U Ah
  refine o_y U (Ac (T U)) (o_e U (Aw (.cons (T U) (.cons (T U) .nil)) call111 (merge_x (gd fol1 (gd fr i)).l (gd fol1 (gd fr i)).q (gd fol1 (gd fr i)).c ((ht1.arr _ (Az (l := fol1) (by omega))).mono sbt) (ht1.cap _ (Az (l := fol1) (by omega))) to q2 c2 (hB.mono sbt) (by omega))) ?_ U Ah) U Ah
  rintro _ _ ⟨q3, c3, M3, ⟨rfl, hc3, hA3⟩, rfl⟩
  refine ⟨sbt, (o_y U (Bb (T U) (T U) runUnderlying26 sizeOf42 (by omega) (by first | exact rfl | exact hA.b (i := i) (by omega) | exact (Ba (w0 := w0) (enc := encRQ) (sz := 1) (e := 42) (X := []) (fun _ => rfl) hd2).b (i := (gd fr i)) (by omega))) ?_ U Ah)⟩
  refine B2 U (e_ (eff_sElem (l := fol1) (e := 42) (enc := encRQ) (sz := 1) (i := (gd fr i)) (⟨q3, c3, mergeF (gd fol1 (gd fr i)).l to⟩ : RowQ) (fun _ => rfl) (by repeat (first | exact LocL.h | apply LocL.t | apply LocL.a)) (T U) (T U) (.one U) U sizeOf42 (by omega) hd2) ?_ U)
  rintro _ _ ⟨rfl, rfl⟩
  refine Af (Bl (Ae (Bq [(0, _), (1, _), (2, _), (6, _)] ⟨Aa U, Aa U, Aa U, Aa U, trivial⟩ (Ab (y_ (Ac (T U)) (y_ (Bu (T U) Ak (by omega)) ?_ U) U)))))
  refine y_ (Ad (T U)) (Af ?_) U
  refine Bo ((i + 1, fol1.set (gd fr i) ⟨q3, c3, mergeF (gd fol1 (gd fr i)).l to⟩, M3 ++ M)) ?_ ?_ ⟨atd, trivial⟩ ⟨Aa U, Aa U, Aa U, trivial⟩ ?_
  ·refine ⟨by omega, ?_, ?_, by simpa using hd2⟩
   ·rw [leadP_take (by omega), ← hfo, List.map_set, Cz (by omega)]
   ·exact fun X hX => (hx1 X hX).set (r := ⟨q3, c3, mergeF (gd fol1 (gd fr i)).l to⟩) (by rw [List.append_assoc]; exact List.sublist_append_right _ _) (by rw [List.append_assoc]; exact hA3 _ ((hx1 X hX).arr _ (Az (l := fol1) (by omega)))) hc3 (Srn.merge (ht1.srt _ (Az (l := fol1) (i := gd fr i) (by omega))) hto)
  ·first | omega | (simp only []; omega)
  ·simp only [List.append_assoc, List.length_set]; exact sbt
 ·refine B1 (Ay (A0 (A1 (Dh U .nil ?_))))
  have he : fr.take i = fr := List.take_of_length_le (by omega)
  rw [he] at hfo
  exact ⟨_, ⟨(fol1, M), ⟨hfo, hx1, hd2⟩, rfl⟩, by rw [List.append_assoc, lt_app]; exact sbt⟩
end Go.Proofs.YtkdolgnpkjihpaaGreatDoor
namespace Go.Proofs.YtkdolgnpkjihpaaGreatDoor
open _root_.Go.Proofs.Tryz
open Go.RowKit
set_option linter.unusedVariables false
set_option linter.unusedSimpArgs false
theorem bd163_0_1 (a0 : Option Addr) (a0n a0c : Nat) (a1 : Option Addr) (a1n a1c : Nat) (w : World) : (Instr.build 163 #[(0, .slice a0 a0n a0c), (1, .slice a1 a1n a1c)]).run Tryz.prog w = .ok (.agg #[.slice a0 a0n a0c, .slice a1 a1n a1c, .bool false]) w := by kernel_rfl
theorem bd163_2 (a0 : Bool) (w : World) : (Instr.build 163 #[(2, .bool a0)]).run Tryz.prog w = .ok (.agg #[.slice none 0 0, .slice none 0 0, .bool a0]) w := by kernel_rfl
theorem fa161_0 (b o : Nat) (w : World) : (Instr.fieldAt 161 (.pointer (some ⟨b, o, none⟩)) 0).run Tryz.prog w = .ok (.pointer (some ⟨b, o, none⟩)) w := by kernel_rfl
structure EQ where
 pe : PE
 q1 : Option Addr
 c1 : Nat
 q2 : Option Addr
 c2 : Nat
abbrev encEQ (E : EQ) : List Value := [.slice E.q1 E.pe.first.length E.c1, .slice E.q2 E.pe.last.length E.c2, .bool E.pe.emp]
structure EqOk (w0 : World) (X : List (Nat × Obj)) (n : Nat) (E : EQ) : Prop where
 a1 : Arr w0 X E.q1 1 encU E.pe.first
 a2 : Arr w0 X E.q2 1 encU E.pe.last
 k1 : E.pe.first.length ≤ E.c1
 k2 : E.pe.last.length ≤ E.c2
 s1 : Srn n E.pe.first
 s2 : Srn n E.pe.last
theorem EqOk.mono {w0 : World} {X Y : List (Nat × Obj)} {n m : Nat} {E : EQ} (h : EqOk w0 X n E) (hm : n ≤ m) (hs : X.Sublist Y := by exact sbt) : EqOk w0 Y m E := ⟨h.a1.mono hs, h.a2.mono hs, h.k1, h.k2, h.s1.le hm, h.s2.le hm⟩
structure RdOk (w0 : World) (e : Re) (t t' : LT) (E : EQ) (M : List (Nat × Obj)) : Prop where
 pl : t'.pl = (readP e t.pl).1
 pe : E.pe = (readP e t.pl).2
 len : t'.lv.length = t.lv.length + e.lv
 ok : ∀ X, LtOk w0 X t → LtOk w0 (M ++ X) t' ∧ EqOk w0 (M ++ X) t'.lv.length E
def ReadS (w0 : World) (m : Rxm) (e : Re) : Prop := ∀ (R : List (Nat × Obj)) (nt : Nat) (d1 d2 : Sl) (t : LT), RxM w0 R m → SlOk d1 t.lv.length 3 → SlOk d2 t.fol.length 1 → LtOk w0 R t → t.lv.length + e.lv ≤ 64 →
  FSpec Tryz.prog w0 106 #[.pointer (some ⟨nt, 0, none⟩), .agg (encRx m).toArray] (ltH nt d1 d2 t ++ R) (fun v H' => ∃ y : Sl × Sl × LT × EQ × List (Nat × Obj), (v = .agg (encEQ y.2.2.2.1).toArray ∧ SlOk y.1 y.2.2.1.lv.length 3 ∧ SlOk y.2.1 y.2.2.1.fol.length 1 ∧ RdOk w0 e t y.2.2.1 y.2.2.2.1 y.2.2.2.2) ∧ H' = (y.2.2.2.2 ++ ltH nt y.1 y.2.1 y.2.2.1) ++ R)
theorem LtOk.push {w0 : World} {X Y : List (Nat × Obj)} {t : LT} (h : LtOk w0 X t) (hs : X.Sublist Y) (hl : t.lv.length + 1 ≤ 64) {m : Rxm} (hm : LfOk m) : LtOk w0 Y ⟨t.lv ++ [m], t.fol ++ [⟨none, 0, []⟩]⟩ := by
 refine ⟨by simp [h.len], by simpa using hl, fun x hx => ?_, fun r hr => ?_, fun r hr => ?_, fun r hr => ?_⟩
 ·rcases List.mem_append.1 hx with e | e
  ·exact h.lf x e
  ·simp at e; subst e; exact hm
 ·rcases List.mem_append.1 hr with e | e
  ·exact (h.arr r e).mono hs
  ·simp at e; subst e; exact fun i x hi => by cases hi
 ·rcases List.mem_append.1 hr with e | e
  ·exact h.cap r e
  ·simp at e; subst e; exact Nat.le_refl _
 ·rcases List.mem_append.1 hr with e | e
  ·exact (h.srt r e).le (by simp)
  ·simp at e; subst e; exact .nil
theorem set_last {α : Type} (l : List α) (a b : α) : (l ++ [a]).set l.length b = l ++ [b] := by simp
theorem Srn.one {k n : Nat} (h : k < n) : Srn n [k] := ⟨by simp, by simpa using h⟩
theorem read_nod {w0 : World} {q : Option Addr} {c : Nat} {s : ByteArray} (hs : s.size ≠ 0) : ReadS w0 (.mk 2 s q c []) (.nod s) := by
 intro R nt d1 d2 t hM hok1 hok2 ht hl
 show FSpec Tryz.prog w0 106 #[.pointer (some ⟨nt, 0, none⟩), .agg #[.int .i64 2, .string s, .slice q 0 c]] (ltH nt d1 d2 t ++ R) _
 simp only [Re.lv] at hl
 have hfew := ht.few
 have hlen := ht.len
 have hlf : LfOk (.mk 2 s q c []) := .inl ⟨rfl, hs⟩
 rw [lt_app]
 refine A8 Tryz.func106 U ntmps106 U (Ag (Ab (e_ (Bi (T U) cs_) ?_ U)))
 rintro _ _ ⟨n3, rfl, rfl⟩
 refine e_ (Ar zeroValue163 cs_) ?_ U
 rintro _ _ ⟨n4, rfl, rfl⟩
 refine Af (Ae (Ag (Ag (Ab (y_ (Bn (T U) C4) (y_ (Aj (T U) isAgg3 (by first | exact c_o)) ?_ U) U)))))
 refine Af (Ae (Au (Ag (Ab (y_ (Bs (T U) Ak) (y_ (Ad (T U)) (Af (Ae ?_)) U) U)))))
 first | refine Bc (Aa U) ?_ | refine Bc (Ai (Aa U) (vbool (decide_eq_false c14))) ?_
 refine Ag (Ag (Ab (y_ (Bs (T U) Ak) (y_ (Ad (T U)) (Af (Ae ?_)) U) U)))
 first | refine Ao (Aa U) (fun c17 => ?_) (fun c17 => ?_) | refine A3 (Aa U) (fun c17 => ?_) (fun c17 => ?_)
 ·refine A2 (Ae ?_)
  first | refine Bp (Aa U) ?_ | refine Bp (Ai (Aa U) (vbool (decide_eq_true c17))) ?_
  refine Ag (Ab (y_ (Ac (T U)) (y_ (Bw (T U)) (y_ (Bn (T U) fa161_0) (y_ (Aj (T U) isAgg22 (by first | exact c_o)) ?_ U) U) U) U))
  refine y_ (Bm (T U) runUnderlying22) (y_ (Ad (T U)) (Af (Ae (Ag (j_anyW 12 13 ((n4, Cl [.slice none 0 0, .slice none 0 0, .bool false] 163) :: (n3, Cl [.int .i64 2, .string s, .slice q 0 c] 24) :: R) ((n4, Cl [.slice none 0 0, .slice none 0 0, .bool false] 163) :: (n3, Cl [.int .i64 2, .string s, .slice q 0 c] 24) :: (nt, Cl [slV d1 t.lv.length, slV d2 t.fol.length] 161) :: R) mixd (by kernel_rfl) (by repeat (first | exact List.Sublist.refl _ | apply List.Sublist.cons_cons | exact sbt)) (by repeat (first | exact List.Sublist.refl _ | apply List.Sublist.cons_cons | exact sbt)) ?_)))) U) U
  refine Cr [0] (by kernel_rfl) U (i := 0) U (by kernel_rfl) (Ac (T U)) ?_ U Ah
  refine Cr [1] (by kernel_rfl) U (i := 1) U (by kernel_rfl) (Bw (T U)) ?_ U Ah
  refine Cr [2] (by kernel_rfl) U (i := 2) U (by kernel_rfl) (Bn (T U) fa161_0) ?_ U Ah
  refine Cr [3] (by kernel_rfl) U (i := 3) U (by kernel_rfl) (Aj (T U) isAgg22 (by first | exact c_o)) ?_ U Ah
  refine Cr [4] (by kernel_rfl) U (i := 4) U (by kernel_rfl) (Am (T U) isAgg24 sizeOf24 U (by first | exact Bh)) ?_ U Ah
  refine Cr [5] (by kernel_rfl) U (i := 5) U (by kernel_rfl) (Bm (T U) runUnderlying22) ?_ U Ah
  refine Dc (i := 6) (by kernel_rfl) (by kernel_rfl) ?_
  refine Dz U (Al (.cons Ak .nil) (B7 _ _ _ _ _)) ?_ U Ah (by kernel_rfl)
  rintro _ _ ⟨n31, rfl, rfl⟩
  refine ⟨sbt, (Dc (i := 7) (by kernel_rfl) (by kernel_rfl) ?_)⟩
  refine Dz U (Ch ((default : Rxm)) (by' := 48) (enc := encRx) (l := t.lv) (by repeat (first | exact LocL.h | apply LocL.t | apply LocL.a)) (T U) (T U) runUnderlying22 runUnderlying22 sizeOf24 typeInfo24 U zeroValue24 U (fun _ => rfl) U hok1 (by decide) (by omega)) ?_ U Ah (by kernel_rfl)
  rintro _ _ ⟨e1, rfl, ho1, rfl⟩
  refine ⟨sbt, (w_y (i := 8) U (by kernel_rfl) (Cp (T U) (T U) runUnderlying22 sizeOf24 (by simp; omega) (by first | exact rfl | exact (Ba (w0 := w0) (enc := encRx) (sz := 3) (e := 24) (X := []) (l := t.lv ++ [default]) (fun _ => rfl) ho1).b (i := t.lv.length) (by simp))) ?_ U Ah)⟩
  refine Cr [11, 10] (by kernel_rfl) U (i := 10) U (by kernel_rfl) (Bw (T U)) ?_ U Ah
  refine Cr [11] (by kernel_rfl) U (i := 11) U (by kernel_rfl) (Bn (T U) fa161_0) ?_ U Ah
  refine w_two (i := 9) (j := 12) (by kernel_rfl) (by kernel_rfl) ?_ ?_
  ·refine Dz U (eff_sElem (l := t.lv ++ [default]) (e := 24) (enc := encRx) (sz := 3) (i := t.lv.length) (.mk 2 s q c []) (fun _ => rfl) (by repeat (first | exact LocL.h | apply LocL.t | apply LocL.a)) (T U) (T U) .agg U sizeOf24 (by simp) ho1) ?_ U Ah (by kernel_rfl)
   rintro _ _ ⟨rfl, rfl⟩
   refine ⟨sbt, (Dc (i := 12) (by kernel_rfl) (by kernel_rfl) ?_)⟩
   first | refine Dp U (Av (T U) (T U) sizeOf22) ?_ U Ah (by kernel_rfl) | refine Dp U (B6 (T U) (T U) U sizeOf22) ?_ U Ah (by kernel_rfl) | refine Dp U (B0 (T U) (T U) U sizeOf22) ?_ U Ah (by kernel_rfl)
   rintro _ _ ⟨rfl, rfl⟩
   refine ⟨sbt, (D9 (by kernel_rfl) U ?_)⟩
   refine Af (Ae (Bq [(0, _), (4, _), (5, _)] ⟨Aa U, Aa U, Aa U, trivial⟩ (Ag (Ab (y_ (Ac (T U)) (y_ (Ac (T U)) (y_ (Bw (T U)) (y_ (Be (T U) fa161_1) (y_ (Aj (T U) isAgg26 (by first | exact c_o)) ?_ U) U) U) U) U)))))
   refine e_ (Al (.cons Ak .nil) (bs26_1_0 _ _ _)) ?_ U
   rintro _ _ ⟨n41, rfl, rfl⟩
   refine e_ (Ch ((⟨none, 0, []⟩ : RowQ)) (by' := 24) (enc := encRQ) (l := t.fol) (by repeat (first | exact LocL.h | apply LocL.t | apply LocL.a)) (T U) (T U) runUnderlying26 runUnderlying26 sizeOf42 typeInfo42 U zeroValue42 U (fun _ => rfl) U hok2 (by decide) (by omega)) ?_ U
   rintro _ _ ⟨e2, rfl, ho2, rfl⟩
   refine y_ (Bw (T U)) (y_ (Be (T U) fa161_1) ?_ U) U
   first | refine A7 (Av (T U) (T U) sizeOf26) U Ah ?_ | refine A7 (B6 (T U) (T U) U sizeOf26) U Ah ?_ | refine A7 (B0 (T U) (T U) U sizeOf26) U Ah ?_
   rintro _ _ ⟨rfl, rfl⟩
   refine Af (Ae (Ag (Ab (y_ (Ac (T U)) (e_ (Al (.cons (T U) .nil) (Cg _)) ?_ U) U))))
   rintro _ _ ⟨n46, rfl, rfl⟩
   refine y_ (Ac (T U)) (e_ (Al (.cons (T U) .nil) (Cg _)) ?_ U) U
   rintro _ _ ⟨n48, rfl, rfl⟩
   refine y_ (Bv (.cons (T U) (.cons (T U) .nil)) (bd163_0_1 _ _ _ _ _ _)) ?_ U
   first | refine A7 (Av (T U) (T U) sizeOf163) U Ah ?_
   rintro _ _ ⟨rfl, rfl⟩
   refine Af (Ae (A5 (Aq (An (A6 U (.cellA (Aa U) isAgg163 sizeOf163 U (by first | exact Bh) .nil) ?_)))))
   refine ⟨_, ⟨(e1, e2, ⟨t.lv ++ [.mk 2 s q c []], t.fol ++ [⟨none, 0, []⟩]⟩, ⟨⟨[t.lv.length], [t.lv.length], false⟩, some ⟨n46, 0, none⟩, 1, some ⟨n48, 0, none⟩, 1⟩, [(n48, Cl [.int .i64 (t.lv.length : Nat)] 3), (n46, Cl [.int .i64 (t.lv.length : Nat)] 3)]), ⟨?_, by simpa using ho1, by simpa using ho2, by simp [LT.pl, readP, Rxm.node], by simp [LT.pl, readP, hlen], by simp [Re.lv], fun X hX => ⟨hX.push (by exact sbt) (by omega) hlf, Cx (fun _ => rfl) (by simp [encU]) (Ap Bt), Cx (fun _ => rfl) (by simp [encU]) Bt, Nat.le_refl _, Nat.le_refl _, .one (by simp), .one (by simp)⟩⟩, rfl⟩, ?_⟩
   ·rfl
   ·simp only [lt_app, set_last, List.append_assoc, List.cons_append, List.nil_append, List.length_append, List.length_cons, List.length_nil, Nat.zero_add, List.length_set]; exact sbt
  ·first | refine Dp U (Av (T U) (T U) sizeOf22) ?_ U Ah (by kernel_rfl) | refine Dp U (B6 (T U) (T U) U sizeOf22) ?_ U Ah (by kernel_rfl) | refine Dp U (B0 (T U) (T U) U sizeOf22) ?_ U Ah (by kernel_rfl)
   rintro _ _ ⟨rfl, rfl⟩
   refine ⟨sbt, (Dc (i := 9) (by kernel_rfl) (by kernel_rfl) ?_)⟩
   refine Dp U (eff_sElem (l := t.lv ++ [default]) (e := 24) (enc := encRx) (sz := 3) (i := t.lv.length) (.mk 2 s q c []) (fun _ => rfl) (by repeat (first | exact LocL.h | apply LocL.t | apply LocL.a)) (T U) (T U) .agg U sizeOf24 (by simp) ho1) ?_ U Ah (by kernel_rfl)
   rintro _ _ ⟨rfl, rfl⟩
   refine ⟨sbt, (D9 (by kernel_rfl) U ?_)⟩
   refine Af (Ae (Bq [(0, _), (4, _), (5, _)] ⟨Aa U, Aa U, Aa U, trivial⟩ (Ag (Ab (y_ (Ac (T U)) (y_ (Ac (T U)) (y_ (Bw (T U)) (y_ (Be (T U) fa161_1) (y_ (Aj (T U) isAgg26 (by first | exact c_o)) ?_ U) U) U) U) U)))))
   refine e_ (Al (.cons Ak .nil) (bs26_1_0 _ _ _)) ?_ U
   rintro _ _ ⟨n41, rfl, rfl⟩
   refine e_ (Ch ((⟨none, 0, []⟩ : RowQ)) (by' := 24) (enc := encRQ) (l := t.fol) (by repeat (first | exact LocL.h | apply LocL.t | apply LocL.a)) (T U) (T U) runUnderlying26 runUnderlying26 sizeOf42 typeInfo42 U zeroValue42 U (fun _ => rfl) U hok2 (by decide) (by omega)) ?_ U
   rintro _ _ ⟨e2, rfl, ho2, rfl⟩
   refine y_ (Bw (T U)) (y_ (Be (T U) fa161_1) ?_ U) U
   first | refine A7 (Av (T U) (T U) sizeOf26) U Ah ?_ | refine A7 (B6 (T U) (T U) U sizeOf26) U Ah ?_ | refine A7 (B0 (T U) (T U) U sizeOf26) U Ah ?_
   rintro _ _ ⟨rfl, rfl⟩
   refine Af (Ae (Ag (Ab (y_ (Ac (T U)) (e_ (Al (.cons (T U) .nil) (Cg _)) ?_ U) U))))
   rintro _ _ ⟨n46, rfl, rfl⟩
   refine y_ (Ac (T U)) (e_ (Al (.cons (T U) .nil) (Cg _)) ?_ U) U
   rintro _ _ ⟨n48, rfl, rfl⟩
   refine y_ (Bv (.cons (T U) (.cons (T U) .nil)) (bd163_0_1 _ _ _ _ _ _)) ?_ U
   first | refine A7 (Av (T U) (T U) sizeOf163) U Ah ?_
   rintro _ _ ⟨rfl, rfl⟩
   refine Af (Ae (A5 (Aq (An (A6 U (.cellA (Aa U) isAgg163 sizeOf163 U (by first | exact Bh) .nil) ?_)))))
   refine ⟨_, ⟨(e1, e2, ⟨t.lv ++ [.mk 2 s q c []], t.fol ++ [⟨none, 0, []⟩]⟩, ⟨⟨[t.lv.length], [t.lv.length], false⟩, some ⟨n46, 0, none⟩, 1, some ⟨n48, 0, none⟩, 1⟩, [(n48, Cl [.int .i64 (t.lv.length : Nat)] 3), (n46, Cl [.int .i64 (t.lv.length : Nat)] 3)]), ⟨?_, by simpa using ho1, by simpa using ho2, by simp [LT.pl, readP, Rxm.node], by simp [LT.pl, readP, hlen], by simp [Re.lv], fun X hX => ⟨hX.push (by exact sbt) (by omega) hlf, Cx (fun _ => rfl) (by simp [encU]) (Ap Bt), Cx (fun _ => rfl) (by simp [encU]) Bt, Nat.le_refl _, Nat.le_refl _, .one (by simp), .one (by simp)⟩⟩, rfl⟩, ?_⟩
   ·rfl
   ·simp only [lt_app, set_last, List.append_assoc, List.cons_append, List.nil_append, List.length_append, List.length_cons, List.length_nil, Nat.zero_add, List.length_set]; exact sbt
 ·exfalso; omega
theorem read_any {w0 : World} {q : Option Addr} {c : Nat} : ReadS w0 (.mk 3 ⟨#[]⟩ q c []) (.any) := by
 intro R nt d1 d2 t hM hok1 hok2 ht hl
 show FSpec Tryz.prog w0 106 #[.pointer (some ⟨nt, 0, none⟩), .agg #[.int .i64 3, .string ⟨#[]⟩, .slice q 0 c]] (ltH nt d1 d2 t ++ R) _
 simp only [Re.lv] at hl
 have hfew := ht.few
 have hlen := ht.len
 have hlf : LfOk (.mk 3 ⟨#[]⟩ q c []) := .inr ⟨rfl, rfl⟩
 rw [lt_app]
 refine A8 Tryz.func106 U ntmps106 U (Ag (Ab (e_ (Bi (T U) cs_) ?_ U)))
 rintro _ _ ⟨n3, rfl, rfl⟩
 refine e_ (Ar zeroValue163 cs_) ?_ U
 rintro _ _ ⟨n4, rfl, rfl⟩
 refine Af (Ae (Ag (Ag (Ab (y_ (Bn (T U) C4) (y_ (Aj (T U) isAgg3 (by first | exact c_o)) ?_ U) U)))))
 refine Af (Ae (Au (Ag (Ab (y_ (Bs (T U) Ak) (y_ (Ad (T U)) (Af (Ae ?_)) U) U)))))
 first | refine Bc (Aa U) ?_ | refine Bc (Ai (Aa U) (vbool (decide_eq_false c14))) ?_
 refine Ag (Ag (Ab (y_ (Bs (T U) Ak) (y_ (Ad (T U)) (Af (Ae ?_)) U) U)))
 first | refine Ao (Aa U) (fun c17 => ?_) (fun c17 => ?_) | refine A3 (Aa U) (fun c17 => ?_) (fun c17 => ?_)
 ·exfalso; omega
 ·refine Ab (y_ (Bs (T U) Ak) (y_ (Ad (T U)) (Af (Ae ?_)) U) U)
  first | refine Ao (Aa U) (fun c17 => ?_) (fun c17 => ?_) | refine A3 (Aa U) (fun c17 => ?_) (fun c17 => ?_)
  ·refine Ag (Ab (y_ (Ac (T U)) (y_ (Bw (T U)) (y_ (Bn (T U) fa161_0) (y_ (Aj (T U) isAgg22 (by first | exact c_o)) ?_ U) U) U) U))
   refine y_ (Bm (T U) runUnderlying22) (y_ (Ad (T U)) (Af (Ae (Ag (j_anyW 12 13 ((n4, Cl [.slice none 0 0, .slice none 0 0, .bool false] 163) :: (n3, Cl [.int .i64 3, .string ⟨#[]⟩, .slice q 0 c] 24) :: R) ((n4, Cl [.slice none 0 0, .slice none 0 0, .bool false] 163) :: (n3, Cl [.int .i64 3, .string ⟨#[]⟩, .slice q 0 c] 24) :: (nt, Cl [slV d1 t.lv.length, slV d2 t.fol.length] 161) :: R) mixd (by kernel_rfl) (by repeat (first | exact List.Sublist.refl _ | apply List.Sublist.cons_cons | exact sbt)) (by repeat (first | exact List.Sublist.refl _ | apply List.Sublist.cons_cons | exact sbt)) ?_)))) U) U
   refine Cr [0] (by kernel_rfl) U (i := 0) U (by kernel_rfl) (Ac (T U)) ?_ U Ah
   refine Cr [1] (by kernel_rfl) U (i := 1) U (by kernel_rfl) (Bw (T U)) ?_ U Ah
   refine Cr [2] (by kernel_rfl) U (i := 2) U (by kernel_rfl) (Bn (T U) fa161_0) ?_ U Ah
   refine Cr [3] (by kernel_rfl) U (i := 3) U (by kernel_rfl) (Aj (T U) isAgg22 (by first | exact c_o)) ?_ U Ah
   refine Cr [4] (by kernel_rfl) U (i := 4) U (by kernel_rfl) (Am (T U) isAgg24 sizeOf24 U (by first | exact Bh)) ?_ U Ah
   refine Cr [5] (by kernel_rfl) U (i := 5) U (by kernel_rfl) (Bm (T U) runUnderlying22) ?_ U Ah
   refine Dc (i := 6) (by kernel_rfl) (by kernel_rfl) ?_
   refine Dz U (Al (.cons Ak .nil) (B7 _ _ _ _ _)) ?_ U Ah (by kernel_rfl)
   rintro _ _ ⟨n31, rfl, rfl⟩
   refine ⟨sbt, (Dc (i := 7) (by kernel_rfl) (by kernel_rfl) ?_)⟩
   refine Dz U (Ch ((default : Rxm)) (by' := 48) (enc := encRx) (l := t.lv) (by repeat (first | exact LocL.h | apply LocL.t | apply LocL.a)) (T U) (T U) runUnderlying22 runUnderlying22 sizeOf24 typeInfo24 U zeroValue24 U (fun _ => rfl) U hok1 (by decide) (by omega)) ?_ U Ah (by kernel_rfl)
   rintro _ _ ⟨e1, rfl, ho1, rfl⟩
   refine ⟨sbt, (w_y (i := 8) U (by kernel_rfl) (Cp (T U) (T U) runUnderlying22 sizeOf24 (by simp; omega) (by first | exact rfl | exact (Ba (w0 := w0) (enc := encRx) (sz := 3) (e := 24) (X := []) (l := t.lv ++ [default]) (fun _ => rfl) ho1).b (i := t.lv.length) (by simp))) ?_ U Ah)⟩
   refine Cr [11, 10] (by kernel_rfl) U (i := 10) U (by kernel_rfl) (Bw (T U)) ?_ U Ah
   refine Cr [11] (by kernel_rfl) U (i := 11) U (by kernel_rfl) (Bn (T U) fa161_0) ?_ U Ah
   refine w_two (i := 9) (j := 12) (by kernel_rfl) (by kernel_rfl) ?_ ?_
   ·refine Dz U (eff_sElem (l := t.lv ++ [default]) (e := 24) (enc := encRx) (sz := 3) (i := t.lv.length) (.mk 3 ⟨#[]⟩ q c []) (fun _ => rfl) (by repeat (first | exact LocL.h | apply LocL.t | apply LocL.a)) (T U) (T U) .agg U sizeOf24 (by simp) ho1) ?_ U Ah (by kernel_rfl)
    rintro _ _ ⟨rfl, rfl⟩
    refine ⟨sbt, (Dc (i := 12) (by kernel_rfl) (by kernel_rfl) ?_)⟩
    first | refine Dp U (Av (T U) (T U) sizeOf22) ?_ U Ah (by kernel_rfl) | refine Dp U (B6 (T U) (T U) U sizeOf22) ?_ U Ah (by kernel_rfl) | refine Dp U (B0 (T U) (T U) U sizeOf22) ?_ U Ah (by kernel_rfl)
    rintro _ _ ⟨rfl, rfl⟩
    refine ⟨sbt, (D9 (by kernel_rfl) U ?_)⟩
    refine Af (Ae (Bq [(0, _), (4, _), (5, _)] ⟨Aa U, Aa U, Aa U, trivial⟩ (Ag (Ab (y_ (Ac (T U)) (y_ (Ac (T U)) (y_ (Bw (T U)) (y_ (Be (T U) fa161_1) (y_ (Aj (T U) isAgg26 (by first | exact c_o)) ?_ U) U) U) U) U)))))
    refine e_ (Al (.cons Ak .nil) (bs26_1_0 _ _ _)) ?_ U
    rintro _ _ ⟨n41, rfl, rfl⟩
    refine e_ (Ch ((⟨none, 0, []⟩ : RowQ)) (by' := 24) (enc := encRQ) (l := t.fol) (by repeat (first | exact LocL.h | apply LocL.t | apply LocL.a)) (T U) (T U) runUnderlying26 runUnderlying26 sizeOf42 typeInfo42 U zeroValue42 U (fun _ => rfl) U hok2 (by decide) (by omega)) ?_ U
    rintro _ _ ⟨e2, rfl, ho2, rfl⟩
    refine y_ (Bw (T U)) (y_ (Be (T U) fa161_1) ?_ U) U
    first | refine A7 (Av (T U) (T U) sizeOf26) U Ah ?_ | refine A7 (B6 (T U) (T U) U sizeOf26) U Ah ?_ | refine A7 (B0 (T U) (T U) U sizeOf26) U Ah ?_
    rintro _ _ ⟨rfl, rfl⟩
    refine Af (Ae (Ag (Ab (y_ (Ac (T U)) (e_ (Al (.cons (T U) .nil) (Cg _)) ?_ U) U))))
    rintro _ _ ⟨n46, rfl, rfl⟩
    refine y_ (Ac (T U)) (e_ (Al (.cons (T U) .nil) (Cg _)) ?_ U) U
    rintro _ _ ⟨n48, rfl, rfl⟩
    refine y_ (Bv (.cons (T U) (.cons (T U) .nil)) (bd163_0_1 _ _ _ _ _ _)) ?_ U
    first | refine A7 (Av (T U) (T U) sizeOf163) U Ah ?_
    rintro _ _ ⟨rfl, rfl⟩
    refine Af (Ae (A5 (Aq (An (A6 U (.cellA (Aa U) isAgg163 sizeOf163 U (by first | exact Bh) .nil) ?_)))))
    refine ⟨_, ⟨(e1, e2, ⟨t.lv ++ [.mk 3 ⟨#[]⟩ q c []], t.fol ++ [⟨none, 0, []⟩]⟩, ⟨⟨[t.lv.length], [t.lv.length], false⟩, some ⟨n46, 0, none⟩, 1, some ⟨n48, 0, none⟩, 1⟩, [(n48, Cl [.int .i64 (t.lv.length : Nat)] 3), (n46, Cl [.int .i64 (t.lv.length : Nat)] 3)]), ⟨?_, by simpa using ho1, by simpa using ho2, by simp [LT.pl, readP, Rxm.node], by simp [LT.pl, readP, hlen], by simp [Re.lv], fun X hX => ⟨hX.push (by exact sbt) (by omega) hlf, Cx (fun _ => rfl) (by simp [encU]) (Ap Bt), Cx (fun _ => rfl) (by simp [encU]) Bt, Nat.le_refl _, Nat.le_refl _, .one (by simp), .one (by simp)⟩⟩, rfl⟩, ?_⟩
    ·rfl
    ·simp only [lt_app, set_last, List.append_assoc, List.cons_append, List.nil_append, List.length_append, List.length_cons, List.length_nil, Nat.zero_add, List.length_set]; exact sbt
   ·first | refine Dp U (Av (T U) (T U) sizeOf22) ?_ U Ah (by kernel_rfl) | refine Dp U (B6 (T U) (T U) U sizeOf22) ?_ U Ah (by kernel_rfl) | refine Dp U (B0 (T U) (T U) U sizeOf22) ?_ U Ah (by kernel_rfl)
    rintro _ _ ⟨rfl, rfl⟩
    refine ⟨sbt, (Dc (i := 9) (by kernel_rfl) (by kernel_rfl) ?_)⟩
    refine Dp U (eff_sElem (l := t.lv ++ [default]) (e := 24) (enc := encRx) (sz := 3) (i := t.lv.length) (.mk 3 ⟨#[]⟩ q c []) (fun _ => rfl) (by repeat (first | exact LocL.h | apply LocL.t | apply LocL.a)) (T U) (T U) .agg U sizeOf24 (by simp) ho1) ?_ U Ah (by kernel_rfl)
    rintro _ _ ⟨rfl, rfl⟩
    refine ⟨sbt, (D9 (by kernel_rfl) U ?_)⟩
    refine Af (Ae (Bq [(0, _), (4, _), (5, _)] ⟨Aa U, Aa U, Aa U, trivial⟩ (Ag (Ab (y_ (Ac (T U)) (y_ (Ac (T U)) (y_ (Bw (T U)) (y_ (Be (T U) fa161_1) (y_ (Aj (T U) isAgg26 (by first | exact c_o)) ?_ U) U) U) U) U)))))
    refine e_ (Al (.cons Ak .nil) (bs26_1_0 _ _ _)) ?_ U
    rintro _ _ ⟨n41, rfl, rfl⟩
    refine e_ (Ch ((⟨none, 0, []⟩ : RowQ)) (by' := 24) (enc := encRQ) (l := t.fol) (by repeat (first | exact LocL.h | apply LocL.t | apply LocL.a)) (T U) (T U) runUnderlying26 runUnderlying26 sizeOf42 typeInfo42 U zeroValue42 U (fun _ => rfl) U hok2 (by decide) (by omega)) ?_ U
    rintro _ _ ⟨e2, rfl, ho2, rfl⟩
    refine y_ (Bw (T U)) (y_ (Be (T U) fa161_1) ?_ U) U
    first | refine A7 (Av (T U) (T U) sizeOf26) U Ah ?_ | refine A7 (B6 (T U) (T U) U sizeOf26) U Ah ?_ | refine A7 (B0 (T U) (T U) U sizeOf26) U Ah ?_
    rintro _ _ ⟨rfl, rfl⟩
    refine Af (Ae (Ag (Ab (y_ (Ac (T U)) (e_ (Al (.cons (T U) .nil) (Cg _)) ?_ U) U))))
    rintro _ _ ⟨n46, rfl, rfl⟩
    refine y_ (Ac (T U)) (e_ (Al (.cons (T U) .nil) (Cg _)) ?_ U) U
    rintro _ _ ⟨n48, rfl, rfl⟩
    refine y_ (Bv (.cons (T U) (.cons (T U) .nil)) (bd163_0_1 _ _ _ _ _ _)) ?_ U
    first | refine A7 (Av (T U) (T U) sizeOf163) U Ah ?_
    rintro _ _ ⟨rfl, rfl⟩
    refine Af (Ae (A5 (Aq (An (A6 U (.cellA (Aa U) isAgg163 sizeOf163 U (by first | exact Bh) .nil) ?_)))))
    refine ⟨_, ⟨(e1, e2, ⟨t.lv ++ [.mk 3 ⟨#[]⟩ q c []], t.fol ++ [⟨none, 0, []⟩]⟩, ⟨⟨[t.lv.length], [t.lv.length], false⟩, some ⟨n46, 0, none⟩, 1, some ⟨n48, 0, none⟩, 1⟩, [(n48, Cl [.int .i64 (t.lv.length : Nat)] 3), (n46, Cl [.int .i64 (t.lv.length : Nat)] 3)]), ⟨?_, by simpa using ho1, by simpa using ho2, by simp [LT.pl, readP, Rxm.node], by simp [LT.pl, readP, hlen], by simp [Re.lv], fun X hX => ⟨hX.push (by exact sbt) (by omega) hlf, Cx (fun _ => rfl) (by simp [encU]) (Ap Bt), Cx (fun _ => rfl) (by simp [encU]) Bt, Nat.le_refl _, Nat.le_refl _, .one (by simp), .one (by simp)⟩⟩, rfl⟩, ?_⟩
    ·rfl
    ·simp only [lt_app, set_last, List.append_assoc, List.cons_append, List.nil_append, List.length_append, List.length_cons, List.length_nil, Nat.zero_add, List.length_set]; exact sbt
  ·exfalso; omega
theorem read_emp {w0 : World} {q : Option Addr} {c : Nat} : ReadS w0 (.mk 1 ⟨#[]⟩ q c []) (.emp) := by
 intro R nt d1 d2 t hM hok1 hok2 ht hl
 show FSpec Tryz.prog w0 106 #[.pointer (some ⟨nt, 0, none⟩), .agg #[.int .i64 1, .string ⟨#[]⟩, .slice q 0 c]] (ltH nt d1 d2 t ++ R) _
 refine A8 Tryz.func106 U ntmps106 U (Ag (Ab (e_ (Bi (T U) cs_) ?_ U)))
 rintro _ _ ⟨n3, rfl, rfl⟩
 refine e_ (Ar zeroValue163 cs_) ?_ U
 rintro _ _ ⟨n4, rfl, rfl⟩
 refine Af (Ae (Ag (Ag (Ab (y_ (Bn (T U) C4) (y_ (Aj (T U) isAgg3 (by first | exact c_o)) ?_ U) U)))))
 refine Af (Ae (Au (Ag (Ab (y_ (Bs (T U) Ak) (y_ (Ad (T U)) (Af (Ae ?_)) U) U)))))
 first | refine Bp (Aa U) ?_ | refine Bp (Ai (Aa U) (vbool (decide_eq_true c14))) ?_
 refine Ag (Ab (y_ (Bv (.cons Ak .nil) (bd163_2 _)) ?_ U))
 first | refine A7 (Av (T U) (T U) sizeOf163) U Ah ?_
 rintro _ _ ⟨rfl, rfl⟩
 refine Af (Ae (A5 (Aq (An (A6 U (.cellA (Aa U) isAgg163 sizeOf163 U (by first | exact Bh) .nil) ?_)))))
 exact ⟨_, ⟨(d1, d2, t, ⟨⟨[], [], true⟩, none, 0, none, 0⟩, []), ⟨rfl, hok1, hok2, rfl, rfl, rfl, fun X hX => ⟨hX, (fun i x hi => by cases hi), (fun i x hi => by cases hi), Nat.le_refl _, Nat.le_refl _, .nil, .nil⟩⟩, rfl⟩, sbt⟩
end Go.Proofs.YtkdolgnpkjihpaaGreatDoor
namespace Go.Proofs.YtkdolgnpkjihpaaGreatDoor
open _root_.Go.Proofs.Tryz
open Go.RowKit
set_option linter.unusedVariables false
set_option linter.unusedSimpArgs false
theorem bd163_0_1_2 (a0 : Option Addr) (a0n a0c : Nat) (a1 : Option Addr) (a1n a1c : Nat) (a2 : Bool) (w : World) : (Instr.build 163 #[(0, .slice a0 a0n a0c), (1, .slice a1 a1n a1c), (2, .bool a2)]).run Tryz.prog w = .ok (.agg #[.slice a0 a0n a0c, .slice a1 a1n a1c, .bool a2]) w := by kernel_rfl
theorem fa163_0 (b o : Nat) (w : World) : (Instr.fieldAt 163 (.pointer (some ⟨b, o, none⟩)) 0).run Tryz.prog w = .ok (.pointer (some ⟨b, o, none⟩)) w := by kernel_rfl
theorem fa163_1 (b o : Nat) (w : World) : (Instr.fieldAt 163 (.pointer (some ⟨b, o, none⟩)) 1).run Tryz.prog w = .ok (.pointer (some ⟨b, o + 1, none⟩)) w := by kernel_rfl
theorem fa163_2 (b o : Nat) (w : World) : (Instr.fieldAt 163 (.pointer (some ⟨b, o, none⟩)) 2).run Tryz.prog w = .ok (.pointer (some ⟨b, o + 2, none⟩)) w := by kernel_rfl
theorem RdOk.alt {w0 : World} {a b : Re} {t t1 t2 : LT} {E1 E2 : EQ} {M1 M2 M5 M6 : List (Nat × Obj)} {q5 q6 : Option Addr} {c5 c6 : Nat} (h1 : RdOk w0 a t t1 E1 M1) (h2 : RdOk w0 b t1 t2 E2 M2)
  (k5 : (mergeF E1.pe.first E2.pe.first).length ≤ c5) (h5 : ∀ X, Arr w0 X E1.q1 1 encU E1.pe.first → Arr w0 (M5 ++ X) q5 1 encU (mergeF E1.pe.first E2.pe.first))
  (k6 : (mergeF E1.pe.last E2.pe.last).length ≤ c6) (h6 : ∀ X, Arr w0 X E1.q2 1 encU E1.pe.last → Arr w0 (M6 ++ X) q6 1 encU (mergeF E1.pe.last E2.pe.last)) {x : Bool} (hx : x = (E1.pe.emp || E2.pe.emp)) :
  RdOk w0 (.alt a b) t t2 ⟨⟨mergeF E1.pe.first E2.pe.first, mergeF E1.pe.last E2.pe.last, x⟩, q5, c5, q6, c6⟩ (M6 ++ (M5 ++ (M2 ++ M1))) := by
 have hl1 := h1.len
 have hl2 := h2.len
 refine ⟨by rw [h2.pl, h1.pl]; rfl, by rw [hx, h1.pe, h2.pe, h1.pl]; rfl, by rw [hl2, hl1]; simp only [Re.lv]; omega, fun X hX => ?_⟩
 obtain ⟨g1, b1⟩ := h1.ok X hX
 obtain ⟨g2, b2⟩ := h2.ok _ g1
 have hS : (M2 ++ (M1 ++ X)).Sublist (M6 ++ (M5 ++ (M2 ++ M1)) ++ X) := by simp only [List.append_assoc]; exact (List.sublist_append_right _ _).trans (List.sublist_append_right _ _)
 have b1' : EqOk w0 (M2 ++ (M1 ++ X)) t2.lv.length E1 := b1.mono (by omega) (List.sublist_append_right _ _)
 refine ⟨g2.mono hS, ?_, ?_, k5, k6, b1'.s1.merge b2.s1, b1'.s2.merge b2.s2⟩
 ·refine (h5 _ b1'.a1).mono ?_
  simp only [List.append_assoc]; exact List.sublist_append_right _ _
 ·refine (h6 _ b1'.a2).mono ?_
  simp only [List.append_assoc]; exact (List.Sublist.refl _).append (List.sublist_append_right _ _)
theorem RdOk.seq {w0 : World} {a b : Re} {t t1 t2 : LT} {fol3 : List RowQ} {E1 E2 : EQ} {M1 M2 M3 M5 M6 : List (Nat × Obj)} {q5 q6 : Option Addr} {c5 c6 : Nat} {l5 l6 : List Nat} (h1 : RdOk w0 a t t1 E1 M1) (h2 : RdOk w0 b t1 t2 E2 M2)
  (hf : fol3.map RowQ.l = leadP t2.pl.fol E1.pe.last E2.pe.first) (h3 : ∀ X, LtOk w0 X t2 → LtOk w0 (M3 ++ X) ⟨t2.lv, fol3⟩)
  (e5 : l5 = if E1.pe.emp then mergeF E1.pe.first E2.pe.first else E1.pe.first) (k5 : l5.length ≤ c5) (h5 : ∀ X, Arr w0 X E1.q1 1 encU E1.pe.first → Arr w0 (M5 ++ X) q5 1 encU l5)
  (e6 : l6 = if E2.pe.emp then mergeF E2.pe.last E1.pe.last else E2.pe.last) (k6 : l6.length ≤ c6) (h6 : ∀ X, Arr w0 X E2.q2 1 encU E2.pe.last → Arr w0 (M6 ++ X) q6 1 encU l6) {x : Bool} (hx : x = (E1.pe.emp && E2.pe.emp)) :
  RdOk w0 (.seq a b) t ⟨t2.lv, fol3⟩ ⟨⟨l5, l6, x⟩, q5, c5, q6, c6⟩ (M6 ++ (M5 ++ (M3 ++ (M2 ++ M1)))) := by
 have hl1 := h1.len
 have hl2 := h2.len
 refine ⟨?_, by rw [hx, e5, e6, h1.pe, h2.pe, h1.pl]; rfl, by show t2.lv.length = _; rw [hl2, hl1]; simp only [Re.lv]; omega, fun X hX => ?_⟩
 ·show (⟨t2.lv.map Rxm.node, fol3.map RowQ.l⟩ : PT) = _
  rw [hf, h1.pe, h2.pe, show t2.lv.map Rxm.node = t2.pl.nms from rfl, h2.pl, h1.pl]; rfl
 obtain ⟨g1, b1⟩ := h1.ok X hX
 obtain ⟨g2, b2⟩ := h2.ok _ g1
 have g3 := h3 _ g2
 have b1' : EqOk w0 (M2 ++ (M1 ++ X)) t2.lv.length E1 := b1.mono (by omega) (List.sublist_append_right _ _)
 refine ⟨g3.mono (by simp only [List.append_assoc]; exact (List.sublist_append_right _ _).trans (List.sublist_append_right _ _)), ?_, ?_, k5, k6, ?_, ?_⟩
 ·refine (h5 _ b1'.a1).mono ?_
  simp only [List.append_assoc]; exact ((List.Sublist.refl _).append (List.sublist_append_right _ _)).trans (List.sublist_append_right _ _)
 ·refine (h6 _ b2.a2).mono ?_
  simp only [List.append_assoc]; exact (List.Sublist.refl _).append ((List.sublist_append_right _ _).trans (List.sublist_append_right _ _))
 ·show Srn t2.lv.length l5
  rw [e5]; split
  ·exact b1'.s1.merge b2.s1
  ·exact b1'.s1
 ·show Srn t2.lv.length l6
  rw [e6]; split
  ·exact b2.s2.merge b1'.s2
  ·exact b2.s2
theorem RdOk.star {w0 : World} {a : Re} {t t1 : LT} {fol3 : List RowQ} {E1 : EQ} {M1 M3 : List (Nat × Obj)} (h1 : RdOk w0 a t t1 E1 M1)
  (hf : fol3.map RowQ.l = leadP t1.pl.fol E1.pe.last E1.pe.first) (h3 : ∀ X, LtOk w0 X t1 → LtOk w0 (M3 ++ X) ⟨t1.lv, fol3⟩) :
  RdOk w0 (.star a) t ⟨t1.lv, fol3⟩ ⟨⟨E1.pe.first, E1.pe.last, true⟩, E1.q1, E1.c1, E1.q2, E1.c2⟩ (M3 ++ M1) := by
 refine ⟨?_, by rw [h1.pe]; rfl, h1.len, fun X hX => ?_⟩
 ·show (⟨t1.lv.map Rxm.node, fol3.map RowQ.l⟩ : PT) = _
  rw [hf, h1.pe, show t1.lv.map Rxm.node = t1.pl.nms from rfl, h1.pl]; rfl
 obtain ⟨g1, b1⟩ := h1.ok X hX
 have g3 := h3 _ g1
 have b1' : EqOk w0 (M3 ++ M1 ++ X) t1.lv.length E1 := b1.mono (Nat.le_refl _) (by simp only [List.append_assoc]; exact List.sublist_append_right _ _)
 exact ⟨g3.mono (by simp only [List.append_assoc]; exact List.Sublist.refl _), b1'.a1, b1'.a2, b1'.k1, b1'.k2, b1'.s1, b1'.s2⟩
theorem read_alt {w0 : World} {q : Option Addr} {c : Nat} {ma mb : Rxm} {a b : Re} (iha : ReadS w0 ma a) (ihb : ReadS w0 mb b) : ReadS w0 (.mk 5 ⟨#[]⟩ q c [ma, mb]) (.alt a b) := by
 intro R nt d1 d2 t hM hok1 hok2 ht hl
 show FSpec Tryz.prog w0 106 #[.pointer (some ⟨nt, 0, none⟩), .agg #[.int .i64 5, .string ⟨#[]⟩, .slice q 2 c]] (ltH nt d1 d2 t ++ R) _
 simp only [Re.lv] at hl
 obtain ⟨hA, hMM, _, _⟩ := hM
 have hMa := hMM ma (by simp)
 have hMb := hMM mb (by simp)
 refine A8 Tryz.func106 U ntmps106 U (Ag (Ab (e_ (Bi (T U) cs_) ?_ U)))
 rintro _ _ ⟨n3, rfl, rfl⟩
 refine e_ (Ar zeroValue163 cs_) ?_ U
 rintro _ _ ⟨n4, rfl, rfl⟩
 refine Af (Ae (Ag (Ag (Ab (y_ (Bn (T U) C4) (y_ (Aj (T U) isAgg3 (by first | exact c_o)) ?_ U) U)))))
 refine Af (Ae (Au (Ag (Ab (y_ (Bs (T U) Ak) (y_ (Ad (T U)) (Af (Ae ?_)) U) U)))))
 first | refine Bc (Aa U) ?_ | refine Bc (Ai (Aa U) (vbool (decide_eq_false c14))) ?_
 refine Ag (Ag (Ab (y_ (Bs (T U) Ak) (y_ (Ad (T U)) (Af (Ae ?_)) U) U)))
 first | refine Ao (Aa U) (fun c17 => ?_) (fun c17 => ?_) | refine A3 (Aa U) (fun c17 => ?_) (fun c17 => ?_)
 ·exfalso; omega
 ·refine Ab (y_ (Bs (T U) Ak) (y_ (Ad (T U)) (Af (Ae ?_)) U) U)
  first | refine Ao (Aa U) (fun c17 => ?_) (fun c17 => ?_) | refine A3 (Aa U) (fun c17 => ?_) (fun c17 => ?_)
  ·exfalso; omega
  ·refine Ag (Ab (y_ (Bs (T U) Ak) (y_ (Ad (T U)) (Af (Ae ?_)) U) U))
   first | refine Bp (Aa U) ?_ | refine Bp (Ai (Aa U) (vbool (decide_eq_true c50))) ?_
   refine Ag (Ab (y_ (Ac (T U)) (y_ (Be (T U) C1) (y_ (Aj (T U) isAgg22 (by first | exact c_o)) ?_ U) U) U))
   refine y_ (Cp (T U) Ak runUnderlying22 sizeOf24 (by omega) (by first | exact rfl | exact hA.b0 | exact hA.b1)) ?_ U
   refine y_ (Am (T U) isAgg24 sizeOf24 U (by first | exact hA.cs0 | exact Bh)) ?_ U
   refine e_ (Aw (.cons (T U) (.cons (T U) .nil)) call106 (Bx (ltH nt d1 d2 t) (by repeat (first | exact LocL.h | apply LocL.t | apply LocL.a)) (iha _ nt d1 d2 t (hMa.mono sbt) hok1 hok2 (ht.mono sbt) (by omega)))) ?_ U
   rintro _ _ ⟨⟨e1, e2, t1, E1, M1⟩, ⟨rfl, ho1, ho2, hr1⟩, rfl⟩
   simp only [List.append_assoc] at hr1 ⊢
   have hl1 := hr1.len
   obtain ⟨ht1, hE1⟩ := hr1.ok R ht
   refine e_ (Ar zeroValue163 cs_) ?_ U
   rintro _ _ ⟨n6, rfl, rfl⟩
   first | refine A7 (Av (T U) (T U) sizeOf163) U Ah ?_
   rintro _ _ ⟨rfl, rfl⟩
   refine Af (Ae (Ag (Ab (y_ (Ac (T U)) (y_ (Be (T U) C1) (y_ (Aj (T U) isAgg22 (by first | exact c_o)) ?_ U) U) U))))
   refine y_ (Cp (T U) Ak runUnderlying22 sizeOf24 (by omega) (by first | exact rfl | exact hA.b0 | exact hA.b1)) ?_ U
   refine y_ (Am (T U) isAgg24 sizeOf24 U (by first | exact hA.cs1 | exact Bh)) ?_ U
   refine e_ (Aw (.cons (T U) (.cons (T U) .nil)) call106 (Bx (ltH nt e1 e2 t1) (by repeat (first | exact LocL.h | apply LocL.t | apply LocL.a)) (ihb _ nt e1 e2 t1 (hMb.mono sbt) ho1 ho2 (ht1.mono sbt) (by omega)))) ?_ U
   rintro _ _ ⟨⟨f1, f2, t2, E2, M2⟩, ⟨rfl, ho3, ho4, hr2⟩, rfl⟩
   simp only [List.append_assoc] at hr2 ⊢
   have hl2 := hr2.len
   obtain ⟨ht2, hE2⟩ := hr2.ok (M1 ++ R) ht1
   have hE1b : EqOk w0 (M2 ++ (M1 ++ R)) t2.lv.length E1 := hE1.mono (by omega) (List.sublist_append_right _ _)
   have w1 := hE1b.s1.len
   have w2 := hE1b.s2.len
   have w3 := hE2.s1.len
   have w4 := hE2.s2.len
   have w5 := ht2.few
   refine jl_perm (List.Perm.cons _ (List.Perm.cons _ (List.Perm.cons _ (List.perm_append_comm_assoc _ _ _)))) (e_ (Ar zeroValue163 cs_) ?_ U)
   rintro _ _ ⟨n7, rfl, rfl⟩
   first | refine A7 (Av (T U) (T U) sizeOf163) U Ah ?_
   rintro _ _ ⟨rfl, rfl⟩
   refine Af (Ae (Bq [(4, _), (6, _), (7, _)] ⟨Aa U, Aa U, Aa U, trivial⟩ (Ag (Cj 17 [(0, true), (1, true), (2, true), (3, true), (5, true), (6, true), (7, true), (8, true), (10, true), (11, true), (4, false), (9, false), (12, true), (13, true), (14, true), (15, true), (16, true)] _ mixd (by kernel_rfl) sb0 ?_))))
   refine o_y U (Bn (T U) fa163_0) (o_y U (Aj (T U) isAgg42 (by first | exact c_o)) ?_ U Ah) U Ah
   refine o_y U (Bn (T U) fa163_0) (o_y U (Aj (T U) isAgg42 (by first | exact c_o)) ?_ U Ah) U Ah
   refine o_y U (Be (T U) fa163_1) (o_y U (Aj (T U) isAgg42 (by first | exact c_o)) ?_ U Ah) U Ah
   refine o_y U (Be (T U) fa163_1) (o_y U (Aj (T U) isAgg42 (by first | exact c_o)) ?_ U Ah) U Ah
   refine o_y U (Be (T U) fa163_2) (o_y U (Aj (T U) isAgg4 (by first | exact c_o)) ?_ U Ah) U Ah
   refine o_e U (Aw (.cons (T U) (.cons (T U) .nil)) call111 (merge_x E1.pe.first E1.q1 E1.c1 (hE1b.a1.mono sbt) hE1b.k1 E2.pe.first E2.q1 E2.c1 (hE2.a1.mono sbt) (by omega))) ?_ U Ah
   rintro _ _ ⟨q5, c5, M5, ⟨rfl, hc5, hA5⟩, rfl⟩
   refine ⟨sbt, (o_e U (Aw (.cons (T U) (.cons (T U) .nil)) call111 (merge_x E1.pe.last E1.q2 E1.c2 (hE1b.a2.mono sbt) hE1b.k2 E2.pe.last E2.q2 E2.c2 (hE2.a2.mono sbt) (by omega))) ?_ U Ah)⟩
   rintro _ _ ⟨q6, c6, M6, ⟨rfl, hc6, hA6⟩, rfl⟩
   refine ⟨sbt, (o_y U (Ac (T U)) ?_ U Ah)⟩
   first | refine C3 (s := 76) (Aa U) (fun c76 => ?_) (fun c76 => ?_) | refine D0 (s := 76) (Aa U) (fun c76 => ?_) (fun c76 => ?_)
   ·refine o_n U (o_n U (o_y U (A4 (T U) Ak) (o_y U (Bv (.cons (T U) (.cons (T U) (.cons (T U) .nil))) (bd163_0_1_2 _ _ _ _ _ _ _)) (B2 U ?_) U Ah) U Ah) U (Bk U U (Aa U))) U (Bk U U (Aa U))
    first | refine A7 (Av (T U) (T U) sizeOf163) U Ah ?_
    rintro _ _ ⟨rfl, rfl⟩
    refine Af (Ae (A5 (Aq (An (A6 U (.cellA (Aa U) isAgg163 sizeOf163 U (by first | exact Bh) .nil) ?_)))))
    exact ⟨_, ⟨(f1, f2, t2, ⟨⟨mergeF E1.pe.first E2.pe.first, mergeF E1.pe.last E2.pe.last, _⟩, q5, c5, q6, c6⟩, M6 ++ (M5 ++ (M2 ++ M1))), ⟨rfl, ho3, ho4, RdOk.alt hr1 hr2 hc5 hA5 hc6 hA6 (by simp [c76])⟩, rfl⟩, by simp only [List.append_assoc]; exact sbt⟩
   ·refine o_y U (Be (T U) fa163_2) (o_y U (Aj (T U) isAgg4 (by first | exact c_o)) ?_ U (As U U (Aa U))) U (As U U (Aa U))
    refine o_y U (A9 (T U) (T U)) (o_y U (Bv (.cons (T U) (.cons (T U) (.cons (T U) .nil))) (bd163_0_1_2 _ _ _ _ _ _ _)) (B2 U ?_) U Ah) U Ah
    first | refine A7 (Av (T U) (T U) sizeOf163) U Ah ?_
    rintro _ _ ⟨rfl, rfl⟩
    refine Af (Ae (A5 (Aq (An (A6 U (.cellA (Aa U) isAgg163 sizeOf163 U (by first | exact Bh) .nil) ?_)))))
    exact ⟨_, ⟨(f1, f2, t2, ⟨⟨mergeF E1.pe.first E2.pe.first, mergeF E1.pe.last E2.pe.last, _⟩, q5, c5, q6, c6⟩, M6 ++ (M5 ++ (M2 ++ M1))), ⟨rfl, ho3, ho4, RdOk.alt hr1 hr2 hc5 hA5 hc6 hA6 (by simp [c76])⟩, rfl⟩, by simp only [List.append_assoc]; exact sbt⟩
end Go.Proofs.YtkdolgnpkjihpaaGreatDoor
namespace Go.Proofs.YtkdolgnpkjihpaaGreatDoor
open _root_.Go.Proofs.Tryz
open Go.RowKit
set_option linter.unusedVariables false
set_option linter.unusedSimpArgs false
theorem read_seq {w0 : World} {q : Option Addr} {c : Nat} {ma mb : Rxm} {a b : Re} (iha : ReadS w0 ma a) (ihb : ReadS w0 mb b) : ReadS w0 (.mk 4 ⟨#[]⟩ q c [ma, mb]) (.seq a b) := by
 intro R nt d1 d2 t hM hok1 hok2 ht hl
 show FSpec Tryz.prog w0 106 #[.pointer (some ⟨nt, 0, none⟩), .agg #[.int .i64 4, .string ⟨#[]⟩, .slice q 2 c]] (ltH nt d1 d2 t ++ R) _
 simp only [Re.lv] at hl
 obtain ⟨hA, hMM, _, _⟩ := hM
 have hMa := hMM ma (by simp)
 have hMb := hMM mb (by simp)
 refine A8 Tryz.func106 U ntmps106 U (Ag (Ab (e_ (Bi (T U) cs_) ?_ U)))
 rintro _ _ ⟨n3, rfl, rfl⟩
 refine e_ (Ar zeroValue163 cs_) ?_ U
 rintro _ _ ⟨n4, rfl, rfl⟩
 refine Af (Ae (Ag (Ag (Ab (y_ (Bn (T U) C4) (y_ (Aj (T U) isAgg3 (by first | exact c_o)) ?_ U) U)))))
 refine Af (Ae (Au (Ag (Ab (y_ (Bs (T U) Ak) (y_ (Ad (T U)) (Af (Ae ?_)) U) U)))))
 first | refine Bc (Aa U) ?_ | refine Bc (Ai (Aa U) (vbool (decide_eq_false c14))) ?_
 refine Ag (Ag (Ab (y_ (Bs (T U) Ak) (y_ (Ad (T U)) (Af (Ae ?_)) U) U)))
 first | refine Ao (Aa U) (fun c17 => ?_) (fun c17 => ?_) | refine A3 (Aa U) (fun c17 => ?_) (fun c17 => ?_)
 ·exfalso; omega
 ·refine Ab (y_ (Bs (T U) Ak) (y_ (Ad (T U)) (Af (Ae ?_)) U) U)
  first | refine Ao (Aa U) (fun c17 => ?_) (fun c17 => ?_) | refine A3 (Aa U) (fun c17 => ?_) (fun c17 => ?_)
  ·exfalso; omega
  ·refine Ag (Ab (y_ (Bs (T U) Ak) (y_ (Ad (T U)) (Af (Ae ?_)) U) U))
   first | refine Bc (Aa U) ?_ | refine Bc (Ai (Aa U) (vbool (decide_eq_false c50))) ?_
   refine Ag (Ab (y_ (Bs (T U) Ak) (y_ (Ad (T U)) (Af (Ae ?_)) U) U))
   first | refine Bp (Aa U) ?_ | refine Bp (Ai (Aa U) (vbool (decide_eq_true c81))) ?_
   refine Ag (Ab (y_ (Ac (T U)) (y_ (Be (T U) C1) (y_ (Aj (T U) isAgg22 (by first | exact c_o)) ?_ U) U) U))
   refine y_ (Cp (T U) Ak runUnderlying22 sizeOf24 (by omega) (by first | exact rfl | exact hA.b0 | exact hA.b1)) ?_ U
   refine y_ (Am (T U) isAgg24 sizeOf24 U (by first | exact hA.cs0 | exact Bh)) ?_ U
   refine e_ (Aw (.cons (T U) (.cons (T U) .nil)) call106 (Bx (ltH nt d1 d2 t) (by repeat (first | exact LocL.h | apply LocL.t | apply LocL.a)) (iha _ nt d1 d2 t (hMa.mono sbt) hok1 hok2 (ht.mono sbt) (by omega)))) ?_ U
   rintro _ _ ⟨⟨e1, e2, t1, E1, M1⟩, ⟨rfl, ho1, ho2, hr1⟩, rfl⟩
   simp only [List.append_assoc] at hr1 ⊢
   have hl1 := hr1.len
   obtain ⟨ht1, hE1⟩ := hr1.ok R ht
   refine e_ (Ar zeroValue163 cs_) ?_ U
   rintro _ _ ⟨n8, rfl, rfl⟩
   first | refine A7 (Av (T U) (T U) sizeOf163) U Ah ?_
   rintro _ _ ⟨rfl, rfl⟩
   refine Af (Ae (Ag (Ab (y_ (Ac (T U)) (y_ (Be (T U) C1) (y_ (Aj (T U) isAgg22 (by first | exact c_o)) ?_ U) U) U))))
   refine y_ (Cp (T U) Ak runUnderlying22 sizeOf24 (by omega) (by first | exact rfl | exact hA.b0 | exact hA.b1)) ?_ U
   refine y_ (Am (T U) isAgg24 sizeOf24 U (by first | exact hA.cs1 | exact Bh)) ?_ U
   refine e_ (Aw (.cons (T U) (.cons (T U) .nil)) call106 (Bx (ltH nt e1 e2 t1) (by repeat (first | exact LocL.h | apply LocL.t | apply LocL.a)) (ihb _ nt e1 e2 t1 (hMb.mono sbt) ho1 ho2 (ht1.mono sbt) (by omega)))) ?_ U
   rintro _ _ ⟨⟨f1, f2, t2, E2, M2⟩, ⟨rfl, ho3, ho4, hr2⟩, rfl⟩
   simp only [List.append_assoc] at hr2 ⊢
   have hl2 := hr2.len
   obtain ⟨ht2, hE2⟩ := hr2.ok (M1 ++ R) ht1
   have hE1b : EqOk w0 (M2 ++ (M1 ++ R)) t2.lv.length E1 := hE1.mono (by omega) (List.sublist_append_right _ _)
   have w1 := hE1b.s1.len
   have w2 := hE1b.s2.len
   have w3 := hE2.s1.len
   have w4 := hE2.s2.len
   have w5 := ht2.few
   refine jl_perm (List.Perm.cons _ (List.Perm.cons _ (List.Perm.cons _ (List.perm_append_comm_assoc _ _ _)))) (e_ (Ar zeroValue163 cs_) ?_ U)
   rintro _ _ ⟨n9, rfl, rfl⟩
   first | refine A7 (Av (T U) (T U) sizeOf163) U Ah ?_
   rintro _ _ ⟨rfl, rfl⟩
   refine Af (Ae (Bq [(0, _), (4, _), (8, _), (9, _)] ⟨Aa U, Aa U, Aa U, Aa U, trivial⟩ (Ag (Ab (y_ (Ac (T U)) (y_ (Be (T U) fa163_1) (y_ (Aj (T U) isAgg42 (by first | exact c_o)) ?_ U) U) U)))))
   refine y_ (Bn (T U) fa163_0) (y_ (Aj (T U) isAgg42 (by first | exact c_o)) ?_ U) U
   refine e_ (Aw (.cons (T U) (.cons (T U) (.cons (T U) .nil))) call140 (Bx (ltH nt f1 f2 t2) (by repeat (first | exact LocL.h | apply LocL.t | apply LocL.a)) (lead_s nt f1 f2 t2 ho4 (ht2.mono sbt) E1.pe.last E2.pe.first E1.q2 E2.q1 E1.c2 E2.c1 (hE1b.a2.mono sbt) (hE2.a1.mono sbt) hE1b.s2 hE2.s1))) ?_ U
   rintro _ _ ⟨⟨fol3, M3⟩, ⟨hfo3, hx3, ho5⟩, rfl⟩
   simp only [List.append_assoc] at hx3 ⊢
   refine jl_perm (List.Perm.cons _ (List.Perm.cons _ (List.Perm.cons _ (List.Perm.cons _ (List.Perm.trans (List.Perm.append_left _ (List.perm_append_comm_assoc _ _ _)) (List.perm_append_comm_assoc _ _ _)))))) (Af (Ae ?_))
   refine Dr (X := Nat × Bool) (V := fun ⟨m10, x⟩ => [(10, .pointer (some ⟨m10, 0, none⟩))]) (C := [(4, _), (8, _), (9, _)]) (G := fun ⟨m10, x⟩ => (m10, Cl [.slice E1.q1 E1.pe.first.length E1.c1, .slice E2.q2 E2.pe.last.length E2.c2, .bool x] 163) :: (n9, Cl (encEQ E2) 163) :: (n8, Cl (encEQ E1) 163) :: (n4, Cl [.slice none 0 0, .slice none 0 0, .bool false] 163) :: (n3, Cl [.int .i64 4, .string ⟨#[]⟩, .slice q 2 c] 24) :: (M3 ++ (M2 ++ (M1 ++ (ltH nt f1 f2 ⟨t2.lv, fol3⟩ ++ R))))) (φ := fun ⟨m10, x⟩ => x = (E1.pe.emp && E2.pe.emp)) ⟨Aa rfl, Aa rfl, Aa rfl, trivial⟩ ?_ ?_
   ·refine Ab (y_ (Bn (T U) fa163_0) (y_ (Aj (T U) isAgg42 (by first | exact c_o)) ?_ U) U)
    refine y_ (Be (T U) fa163_1) (y_ (Aj (T U) isAgg42 (by first | exact c_o)) ?_ U) U
    refine y_ (Be (T U) fa163_2) (y_ (Aj (T U) isAgg4 (by first | exact c_o)) ?_ U) U
    refine y_ (Ac (T U)) ?_ U
    first | refine Cb (s := 107) (Aa U) (fun c107 => ?_) (fun c107 => ?_) | refine Cw (s := 107) (Aa U) (fun c107 => ?_) (fun c107 => ?_)
    ·refine Bj (Be (T U) fa163_2) U (As U U (Aa U)) (Bj (Aj (T U) isAgg4 (by first | exact c_o)) U (As U U (Aa U)) ?_)
     refine y_ (A4 (T U) (T U)) (y_ (Bv (.cons (T U) (.cons (T U) (.cons (T U) .nil))) (bd163_0_1_2 _ _ _ _ _ _ _)) (e_ (Ar zeroValue163 cs_) ?_ U) U) U
     rintro _ _ ⟨n10, rfl, rfl⟩
     first | refine A7 (Av (T U) (T U) sizeOf163) U Ah ?_
     rintro _ _ ⟨rfl, rfl⟩
     refine Af ?_
     refine Br ((n10, E2.pe.emp)) ?_ ⟨atd, trivial⟩ ⟨Aa U, Aa U, Aa U, trivial⟩ sbt
     simp [c107]
    ·refine B9 (B9 (y_ (A9 (T U) Ak) (y_ (Bv (.cons (T U) (.cons (T U) (.cons (T U) .nil))) (bd163_0_1_2 _ _ _ _ _ _ _)) (e_ (Ar zeroValue163 cs_) ?_ U) U) U) U U U U) U U U U
     rintro _ _ ⟨n10, rfl, rfl⟩
     first | refine A7 (Av (T U) (T U) sizeOf163) U Ah ?_
     rintro _ _ ⟨rfl, rfl⟩
     refine Af ?_
     refine Br ((n10, false)) ?_ ⟨atd, trivial⟩ ⟨Aa U, Aa U, Aa U, trivial⟩ sbt
     simp [c107]
   rintro ⟨m10, x⟩ hxe
   refine Dr (X := Option Addr × Nat × List Nat × List (Nat × Obj)) (V := fun ⟨q5, c5, l5, M5⟩ => []) (C := [(4, _), (8, _), (9, _), (10, _)]) (G := fun ⟨q5, c5, l5, M5⟩ => M5 ++ ((m10, Cl [.slice q5 l5.length c5, .slice E2.q2 E2.pe.last.length E2.c2, .bool x] 163) :: (n9, Cl (encEQ E2) 163) :: (n8, Cl (encEQ E1) 163) :: (n4, Cl [.slice none 0 0, .slice none 0 0, .bool false] 163) :: (n3, Cl [.int .i64 4, .string ⟨#[]⟩, .slice q 2 c] 24) :: (M3 ++ (M2 ++ (M1 ++ (ltH nt f1 f2 ⟨t2.lv, fol3⟩ ++ R)))))) (φ := fun ⟨q5, c5, l5, M5⟩ => l5 = (if E1.pe.emp then mergeF E1.pe.first E2.pe.first else E1.pe.first) ∧ l5.length ≤ c5 ∧ ∀ X, Arr w0 X E1.q1 1 encU E1.pe.first → Arr w0 (M5 ++ X) q5 1 encU l5) ⟨Aa rfl, Aa rfl, Aa rfl, Aa rfl, trivial⟩ ?_ ?_
   ·refine Ag (Ab (y_ (Be (T U) fa163_2) (y_ (Aj (T U) isAgg4 (by first | exact c_o)) ?_ U) U))
    refine Af (Ae ?_)
    first | refine Ao (Aa U) (fun c113 => ?_) (fun c113 => ?_) | refine A3 (Aa U) (fun c113 => ?_) (fun c113 => ?_)
    ·refine Ab (y_ (Bn (T U) fa163_0) (y_ (Aj (T U) isAgg42 (by first | exact c_o)) ?_ U) U)
     refine y_ (Bn (T U) fa163_0) (y_ (Aj (T U) isAgg42 (by first | exact c_o)) ?_ U) U
     refine e_ (Aw (.cons (T U) (.cons (T U) .nil)) call111 (merge_x E1.pe.first E1.q1 E1.c1 (hE1b.a1.mono sbt) hE1b.k1 E2.pe.first E2.q1 E2.c1 (hE2.a1.mono sbt) (by omega))) ?_ U
     rintro _ _ ⟨q7, c7, M7, ⟨rfl, hc7, hA7⟩, rfl⟩
     refine y_ (Bn (T U) fa163_0) ?_ U
     first | refine A7 (Av (T U) (T U) sizeOf42) U Ah ?_ | refine A7 (B6 (T U) (T U) U sizeOf42) U Ah ?_ | refine A7 (B0 (T U) (T U) U sizeOf42) U Ah ?_
     rintro _ _ ⟨rfl, rfl⟩
     refine Af (Br ((q7, c7, mergeF E1.pe.first E2.pe.first, M7)) ?_ trivial ⟨Aa U, Aa U, Aa U, Aa U, trivial⟩ sbt)
     first | exact ⟨by rw [if_pos c113], hc7, hA7⟩ | exact ⟨by rw [if_neg (by rw [c113]; exact Bool.false_ne_true)], hE1b.k1, fun X hX => hX⟩
    ·refine A2 (Br ((E1.q1, E1.c1, E1.pe.first, [])) ?_ trivial ⟨Aa U, Aa U, Aa U, Aa U, trivial⟩ sbt)
     first | exact ⟨by rw [if_pos c113], hc7, hA7⟩ | exact ⟨by rw [if_neg (by rw [c113]; exact Bool.false_ne_true)], hE1b.k1, fun X hX => hX⟩
   rintro ⟨q5, c5, l5, M5⟩ ⟨e5, k5, h5⟩
   refine Dr (X := Option Addr × Nat × List Nat × List (Nat × Obj)) (V := fun ⟨q6, c6, l6, M6⟩ => []) (C := [(4, _), (10, _)]) (G := fun ⟨q6, c6, l6, M6⟩ => M6 ++ (M5 ++ ((m10, Cl [.slice q5 l5.length c5, .slice q6 l6.length c6, .bool x] 163) :: (n9, Cl (encEQ E2) 163) :: (n8, Cl (encEQ E1) 163) :: (n4, Cl [.slice none 0 0, .slice none 0 0, .bool false] 163) :: (n3, Cl [.int .i64 4, .string ⟨#[]⟩, .slice q 2 c] 24) :: (M3 ++ (M2 ++ (M1 ++ (ltH nt f1 f2 ⟨t2.lv, fol3⟩ ++ R))))))) (φ := fun ⟨q6, c6, l6, M6⟩ => l6 = (if E2.pe.emp then mergeF E2.pe.last E1.pe.last else E2.pe.last) ∧ l6.length ≤ c6 ∧ ∀ X, Arr w0 X E2.q2 1 encU E2.pe.last → Arr w0 (M6 ++ X) q6 1 encU l6) ⟨Aa rfl, Aa rfl, trivial⟩ ?_ ?_
   ·refine Ag (Ab (y_ (Be (T U) fa163_2) (y_ (Aj (T U) isAgg4 (by first | exact c_o)) ?_ U) U))
    refine Af (Ae ?_)
    first | refine Ao (Aa U) (fun c121 => ?_) (fun c121 => ?_) | refine A3 (Aa U) (fun c121 => ?_) (fun c121 => ?_)
    ·refine Ab (y_ (Be (T U) fa163_1) (y_ (Aj (T U) isAgg42 (by first | exact c_o)) ?_ U) U)
     refine y_ (Be (T U) fa163_1) (y_ (Aj (T U) isAgg42 (by first | exact c_o)) ?_ U) U
     refine e_ (Aw (.cons (T U) (.cons (T U) .nil)) call111 (merge_x E2.pe.last E2.q2 E2.c2 (hE2.a2.mono sbt) hE2.k2 E1.pe.last E1.q2 E1.c2 (hE1b.a2.mono sbt) (by omega))) ?_ U
     rintro _ _ ⟨q7, c7, M7, ⟨rfl, hc7, hA7⟩, rfl⟩
     refine y_ (Be (T U) fa163_1) ?_ U
     first | refine A7 (Av (T U) (T U) sizeOf42) U Ah ?_ | refine A7 (B6 (T U) (T U) U sizeOf42) U Ah ?_ | refine A7 (B0 (T U) (T U) U sizeOf42) U Ah ?_
     rintro _ _ ⟨rfl, rfl⟩
     refine Af (Br ((q7, c7, mergeF E2.pe.last E1.pe.last, M7)) ?_ trivial ⟨Aa U, Aa U, trivial⟩ sbt)
     first | exact ⟨by rw [if_pos c121], hc7, hA7⟩ | exact ⟨by rw [if_neg (by rw [c121]; exact Bool.false_ne_true)], hE2.k2, fun X hX => hX⟩
    ·refine A2 (Br ((E2.q2, E2.c2, E2.pe.last, [])) ?_ trivial ⟨Aa U, Aa U, trivial⟩ sbt)
     first | exact ⟨by rw [if_pos c121], hc7, hA7⟩ | exact ⟨by rw [if_neg (by rw [c121]; exact Bool.false_ne_true)], hE2.k2, fun X hX => hX⟩
   rintro ⟨q6, c6, l6, M6⟩ ⟨e6, k6, h6⟩
   refine Ag (Ab (y_ (Am (T U) isAgg163 sizeOf163 U (by first | exact Bh)) ?_ U))
   first | refine A7 (Av (T U) (T U) sizeOf163) U Ah ?_
   rintro _ _ ⟨rfl, rfl⟩
   refine Af (Ae (A5 (Aq (An (A6 U (.cellA (Aa U) isAgg163 sizeOf163 U (by first | exact Bh) .nil) ?_)))))
   exact ⟨_, ⟨(f1, f2, ⟨t2.lv, fol3⟩, ⟨⟨l5, l6, x⟩, q5, c5, q6, c6⟩, M6 ++ (M5 ++ (M3 ++ (M2 ++ M1)))), ⟨rfl, ho3, ho5, RdOk.seq hr1 hr2 hfo3 hx3 e5 k5 h5 e6 k6 h6 hxe⟩, rfl⟩, by simp only [List.append_assoc]; exact sbt⟩
theorem read_star {w0 : World} {q : Option Addr} {c : Nat} {ma : Rxm} {a : Re} (iha : ReadS w0 ma a) : ReadS w0 (.mk 6 ⟨#[]⟩ q c [ma]) (.star a) := by
 intro R nt d1 d2 t hM hok1 hok2 ht hl
 show FSpec Tryz.prog w0 106 #[.pointer (some ⟨nt, 0, none⟩), .agg #[.int .i64 6, .string ⟨#[]⟩, .slice q 1 c]] (ltH nt d1 d2 t ++ R) _
 simp only [Re.lv] at hl
 obtain ⟨hA, hMM, _, _⟩ := hM
 have hMa := hMM ma (by simp)
 refine A8 Tryz.func106 U ntmps106 U (Ag (Ab (e_ (Bi (T U) cs_) ?_ U)))
 rintro _ _ ⟨n3, rfl, rfl⟩
 refine e_ (Ar zeroValue163 cs_) ?_ U
 rintro _ _ ⟨n4, rfl, rfl⟩
 refine Af (Ae (Ag (Ag (Ab (y_ (Bn (T U) C4) (y_ (Aj (T U) isAgg3 (by first | exact c_o)) ?_ U) U)))))
 refine Af (Ae (Au (Ag (Ab (y_ (Bs (T U) Ak) (y_ (Ad (T U)) (Af (Ae ?_)) U) U)))))
 first | refine Bc (Aa U) ?_ | refine Bc (Ai (Aa U) (vbool (decide_eq_false c14))) ?_
 refine Ag (Ag (Ab (y_ (Bs (T U) Ak) (y_ (Ad (T U)) (Af (Ae ?_)) U) U)))
 first | refine Ao (Aa U) (fun c17 => ?_) (fun c17 => ?_) | refine A3 (Aa U) (fun c17 => ?_) (fun c17 => ?_)
 ·exfalso; omega
 ·refine Ab (y_ (Bs (T U) Ak) (y_ (Ad (T U)) (Af (Ae ?_)) U) U)
  first | refine Ao (Aa U) (fun c17 => ?_) (fun c17 => ?_) | refine A3 (Aa U) (fun c17 => ?_) (fun c17 => ?_)
  ·exfalso; omega
  ·refine Ag (Ab (y_ (Bs (T U) Ak) (y_ (Ad (T U)) (Af (Ae ?_)) U) U))
   first | refine Bc (Aa U) ?_ | refine Bc (Ai (Aa U) (vbool (decide_eq_false c50))) ?_
   refine Ag (Ab (y_ (Bs (T U) Ak) (y_ (Ad (T U)) (Af (Ae ?_)) U) U))
   first | refine Bc (Aa U) ?_ | refine Bc (Ai (Aa U) (vbool (decide_eq_false c81))) ?_
   refine A2 (Bl (Ae (Ag (Ab (y_ (Ac (T U)) (y_ (Be (T U) C1) (y_ (Aj (T U) isAgg22 (by first | exact c_o)) ?_ U) U) U)))))
   refine y_ (Cp (T U) Ak runUnderlying22 sizeOf24 (by omega) (by first | exact rfl | exact hA.b0)) ?_ U
   refine y_ (Am (T U) isAgg24 sizeOf24 U (by first | exact hA.cs0 | exact Bh)) ?_ U
   refine e_ (Aw (.cons (T U) (.cons (T U) .nil)) call106 (Bx (ltH nt d1 d2 t) (by repeat (first | exact LocL.h | apply LocL.t | apply LocL.a)) (iha _ nt d1 d2 t (hMa.mono sbt) hok1 hok2 (ht.mono sbt) (by omega)))) ?_ U
   rintro _ _ ⟨⟨e1, e2, t1, E1, M1⟩, ⟨rfl, ho1, ho2, hr1⟩, rfl⟩
   simp only [List.append_assoc] at hr1 ⊢
   obtain ⟨ht1, hE1⟩ := hr1.ok R ht
   refine e_ (Ar zeroValue163 cs_) ?_ U
   rintro _ _ ⟨n11, rfl, rfl⟩
   first | refine A7 (Av (T U) (T U) sizeOf163) U Ah ?_
   rintro _ _ ⟨rfl, rfl⟩
   refine Af (Ae (Ag (Ab (y_ (Ac (T U)) (y_ (Be (T U) fa163_1) (y_ (Aj (T U) isAgg42 (by first | exact c_o)) ?_ U) U) U))))
   refine y_ (Bn (T U) fa163_0) (y_ (Aj (T U) isAgg42 (by first | exact c_o)) ?_ U) U
   refine e_ (Aw (.cons (T U) (.cons (T U) (.cons (T U) .nil))) call140 (Bx (ltH nt e1 e2 t1) (by repeat (first | exact LocL.h | apply LocL.t | apply LocL.a)) (lead_s nt e1 e2 t1 ho2 (ht1.mono sbt) E1.pe.last E1.pe.first E1.q2 E1.q1 E1.c2 E1.c1 (hE1.a2.mono sbt) (hE1.a1.mono sbt) hE1.s2 hE1.s1))) ?_ U
   rintro _ _ ⟨⟨fol3, M3⟩, ⟨hfo3, hx3, ho5⟩, rfl⟩
   simp only [List.append_assoc] at hx3 ⊢
   refine jl_perm (List.Perm.cons _ (List.Perm.cons _ (List.Perm.cons _ (List.perm_append_comm_assoc _ _ _)))) (Af (Ae (Bq [(4, _), (11, _)] ⟨Aa U, Aa U, trivial⟩ (Ag (Ab (y_ (Bn (T U) fa163_0) (y_ (Aj (T U) isAgg42 (by first | exact c_o)) ?_ U) U))))))
   refine y_ (Be (T U) fa163_1) (y_ (Aj (T U) isAgg42 (by first | exact c_o)) ?_ U) U
   refine y_ (Bv (.cons (T U) (.cons (T U) (.cons Ak .nil))) (bd163_0_1_2 _ _ _ _ _ _ _)) ?_ U
   first | refine A7 (Av (T U) (T U) sizeOf163) U Ah ?_
   rintro _ _ ⟨rfl, rfl⟩
   refine Af (Ae (A5 (A6 U (.cellA (Aa U) isAgg163 sizeOf163 U (by first | exact Bh) .nil) ?_)))
   exact ⟨_, ⟨(e1, e2, ⟨t1.lv, fol3⟩, ⟨⟨E1.pe.first, E1.pe.last, true⟩, E1.q1, E1.c1, E1.q2, E1.c2⟩, M3 ++ M1), ⟨rfl, ho1, ho5, RdOk.star hr1 hfo3 hx3⟩, rfl⟩, by simp only [List.append_assoc]; exact sbt⟩
theorem read_s {w0 : World} {m : Rxm} {e : Re} (h : Is m e) : ReadS w0 m e := by
 induction h with
 | emp => exact read_emp
 | nod h => exact read_nod h
 | any => exact read_any
 | seq _ _ ih1 ih2 => exact read_seq ih1 ih2
 | alt _ _ ih1 ih2 => exact read_alt ih1 ih2
 | star _ ih => exact read_star ih
end Go.Proofs.YtkdolgnpkjihpaaGreatDoor
namespace Go.Proofs.YtkdolgnpkjihpaaGreatDoor
open _root_.Go.Proofs.Tryz
open Go.RowKit
set_option linter.unusedVariables false
set_option linter.unusedSimpArgs false
def takP (s : ByteArray) (names : List ByteArray) (a : Nat) : Bool := decide (s = ⟨#[]⟩) || (decide (a < names.length) && decide (s = gd names a))
theorem takR_eq {m : Rxm} (h : LfOk m) (names : List ByteArray) (a : Nat) : takR m names a = takP m.node names a := by
 unfold takR takP
 rcases h with ⟨h1, h2⟩ | ⟨h1, h2⟩
 ·rw [decide_eq_false (show ¬ m.kind = 3 by omega), decide_eq_false (show ¬ m.node = ⟨#[]⟩ from fun e => h2 (by rw [e]; rfl))]
 ·rw [decide_eq_true h1, decide_eq_true h2, Bool.true_or]
def nxR (fol : List (List Nat)) (first : List Nat) (s : Int) : List Nat := if 0 ≤ s then gd fol s.toNat else first
def tkR (nms names : List ByteArray) (a : Nat) (to nx : List Nat) : List Nat := nx.foldl (fun to i => if takP (gd nms i) names a then putF i to else to) to
theorem tkR_take {nms names : List ByteArray} {a : Nat} {to nx : List Nat} {i : Nat} (h : i < nx.length) : tkR nms names a to (nx.take (i + 1)) = if takP (gd nms (gd nx i)) names a then putF (gd nx i) (tkR nms names a to (nx.take i)) else tkR nms names a to (nx.take i) := by
 unfold tkR; rw [Du h]; simp
theorem Srn.put {n k : Nat} {l : List Nat} (h : Srn n l) (hk : k < n) : Srn n (putF k l) := ⟨putF_srt h.1, fun x hx => (mem_putF.1 hx).elim (fun e => by rw [e]; exact hk) (h.2 x)⟩
theorem tkR_srn {n : Nat} {nms names : List ByteArray} {a : Nat} : ∀ {nx to : List Nat}, Srn n to → (∀ x ∈ nx, x < n) → Srn n (tkR nms names a to nx)
 | [], _, h, _ => h
 | x :: nx, to, h, hn => by
  have e : tkR nms names a to (x :: nx) = tkR nms names a (if takP (gd nms x) names a then putF x to else to) nx := rfl
  rw [e]
  refine tkR_srn ?_ fun y hy => hn y (by simp [hy])
  split
  ·exact h.put (hn x (by simp))
  ·exact h
def stR (t : PT) (first : List Nat) (names : List ByteArray) (a : Nat) (st : List Int) : List Nat := st.foldl (fun to s => tkR t.nms names a to (nxR t.fol first s)) []
theorem stR_take {t : PT} {first : List Nat} {names : List ByteArray} {a : Nat} {st : List Int} {j : Nat} (h : j < st.length) : stR t first names a (st.take (j + 1)) = tkR t.nms names a (stR t first names a (st.take j)) (nxR t.fol first (gd st j)) := by
 unfold stR; rw [Du h]; simp
def addL (l : List (List Int)) (s : List Int) : List (List Int) := if s ∈ l then l else l ++ [s]
def rwR (t : PT) (first : List Nat) (names : List ByteArray) (st : List Int) (l : List (List Int)) : Nat → List (List Int) × List Nat
 | 0 => (l, [])
 | a + 1 => (addL (rwR t first names st l a).1 (toInts (stR t first names a st)), (rwR t first names st l a).2 ++ [idx (rwR t first names st l a).1 (toInts (stR t first names a st))])
theorem rwR_succ (t : PT) (first : List Nat) (names : List ByteArray) (st : List Int) (l : List (List Int)) (a : Nat) : rwR t first names st l (a + 1) = (addL (rwR t first names st l a).1 (toInts (stR t first names a st)), (rwR t first names st l a).2 ++ [idx (rwR t first names st l a).1 (toInts (stR t first names a st))]) := rfl
theorem addL_len (l : List (List Int)) (s : List Int) : l.length ≤ (addL l s).length := by
 unfold addL; split <;> simp
theorem addL_get {l : List (List Int)} {s : List Int} {k : Nat} (h : k < l.length) : gd (addL l s) k = gd l k := by
 unfold addL; split
 ·rfl
 ·rw [Bg h, Bg (by simp; omega)]; simp [List.getElem_append, h]
theorem rwR_len (t : PT) (first : List Nat) (names : List ByteArray) (st : List Int) (l : List (List Int)) : ∀ a, (rwR t first names st l a).2.length = a ∧ l.length ≤ (rwR t first names st l a).1.length
 | 0 => ⟨rfl, Nat.le_refl _⟩
 | a + 1 => by
  obtain ⟨h1, h2⟩ := rwR_len t first names st l a
  have h4 := addL_len (rwR t first names st l a).1 (toInts (stR t first names a st))
  rw [rwR_succ]
  exact ⟨by simp [h1], by simp only []; omega⟩
theorem rwR_mono (t : PT) (first : List Nat) (names : List ByteArray) (st : List Int) (l : List (List Int)) (a : Nat) : ∀ d, (rwR t first names st l a).1.length ≤ (rwR t first names st l (a + d)).1.length
 | 0 => Nat.le_refl _
 | d + 1 => by
  have h1 := rwR_mono t first names st l a d
  have h4 := addL_len (rwR t first names st l (a + d)).1 (toInts (stR t first names (a + d) st))
  rw [← Nat.add_assoc, rwR_succ]; simp only []; omega
theorem rwR_get (t : PT) (first : List Nat) (names : List ByteArray) (st : List Int) (l : List (List Int)) {k : Nat} (h : k < l.length) : ∀ a, gd (rwR t first names st l a).1 k = gd l k
 | 0 => rfl
 | a + 1 => by
  rw [rwR_succ]
  have := (rwR_len t first names st l a).2
  rw [addL_get (by omega)]
  exact rwR_get t first names st l h a
def acR (E : PE) (k : Nat) (st : List Int) : Bool := (decide (k = 0) && E.emp) || st.any fun s => decide (s ∈ toInts E.last)
def rawGoR (t : PT) (E : PE) (names : List ByteArray) : Nat → Nat → List (List Int) → List (List Nat) → List Bool → Option (List (List Nat) × List Bool)
 | 0, _, _, _, _ => none
 | f + 1, k, l, rows, acc => if k < l.length then (if 200 < (rwR t E.first names (gd l k) l (names.length + 1)).1.length then none else rawGoR t E names f (k + 1) (rwR t E.first names (gd l k) l (names.length + 1)).1 (rows ++ [(rwR t E.first names (gd l k) l (names.length + 1)).2]) (acc ++ [acR E k (gd l k)])) else some (rows, acc)
theorem rawGoR_succ (t : PT) (E : PE) (names : List ByteArray) (f k : Nat) (l : List (List Int)) (rows : List (List Nat)) (acc : List Bool) : rawGoR t E names (f + 1) k l rows acc = if k < l.length then (if 200 < (rwR t E.first names (gd l k) l (names.length + 1)).1.length then none else rawGoR t E names f (k + 1) (rwR t E.first names (gd l k) l (names.length + 1)).1 (rows ++ [(rwR t E.first names (gd l k) l (names.length + 1)).2]) (acc ++ [acR E k (gd l k)])) else some (rows, acc) := rfl
def rawR (e : Re) (names : List ByteArray) : Option (List (List Nat) × List Bool) := rawGoR (readP e ⟨[], []⟩).1 (readP e ⟨[], []⟩).2 names 201 0 [[-1]] [] []
theorem mem_toInts {l : List Nat} {x : Int} : x ∈ toInts l ↔ ∃ k : Nat, k ∈ l ∧ (k : Int) = x := by simp [toInts]
theorem hasZ_s {w0 : World} {H : List (Nat × Obj)} (l : List Nat) (q : Option Addr) (c : Nat) (hA : Arr w0 H q 1 encU l) (hl : l.length ≤ 100000) (n : Int) :
  FSpec Tryz.prog w0 59 #[.slice q l.length c, .int .i64 n] H (Still (.bool (decide (n ∈ toInts l))) H) := by
 refine A8 Tryz.func59 U ntmps59 U (Ag (Ab (y_ (Ad Ak) (Af (Ae (Ag (Ag (Ab (y_ (Ad Ak) (Af (Ae (Au ?_))) U)))))) U)))
 refine Ce (X := Nat) (V := fun k => [(5, .int .i64 (k : Nat))]) (C := [(0, _), (1, _)]) (φ := fun k => k ≤ l.length ∧ ∀ j, j < k → ¬ ((gd l j : Nat) : Int) = n) (μ := fun k => l.length - k) (x0 := 0) ?_ ⟨Aa U, Aa U, trivial⟩ ⟨atd, trivial⟩ ?_
 ·exact ⟨Nat.zero_le _, fun j hj => by omega⟩
 rintro k ⟨hk, hno⟩
 refine Ag (Ag (Ab (y_ (Ac (T U)) (y_ (Ac (T U)) (y_ (Bm (T U) runUnderlying42) (y_ (Bz (T U) (T U)) (Af (Ae ?_)) U) U) U) U)))
 first | refine Ao (Aa U) (fun c9 => ?_) (fun c9 => ?_) | refine A3 (Aa U) (fun c9 => ?_) (fun c9 => ?_)
 ·refine A2 (Ae (Ag (Au (Ag (Ab (y_ (Ac (T U)) (y_ (Ac (T U)) (y_ (Bb (T U) (T U) runUnderlying42 sizeOf3 (by omega) (by first | exact rfl | exact hA.b (i := k) (by omega))) ?_ U) U) U))))))
  refine y_ (Aj (T U) isAgg3 (by first | exact c_o | exact cell1 ((hA.mono sbt).cs (i := k) (by omega)))) ?_ U
  refine y_ (Ac (T U)) (y_ (Bs (T U) (T U)) (Af (Ae ?_)) U) U
  first | refine Ao (Aa U) (fun c17 => ?_) (fun c17 => ?_) | refine A3 (Aa U) (fun c17 => ?_) (fun c17 => ?_)
  ·refine Ag (Ab (y_ (Ad Ak) (Af (Ae (A5 (Aq (An (B4 (Aq (An (A6 U (.tmp (Aa U) .nil) ?_))))))))) U))
   exact ⟨_, ⟨vbool (by symm; exact decide_eq_true (mem_toInts.2 ⟨gd l k, Az (by omega), by omega⟩)), rfl⟩, sbt⟩
  ·refine A2 (Bl (Ae (Ab (y_ (Ac (T U)) (y_ (Bu (T U) Ak (by omega)) ?_ U) U))))
   refine y_ (Ad (T U)) (Af ?_) U
   refine Bo (k + 1) ?_ ?_ ⟨atd, trivial⟩ ⟨Aa U, Aa U, trivial⟩ ?_
   ·refine ⟨by omega, fun j hj => ?_⟩
    by_cases e : j = k
    ·subst e; omega
    ·exact hno j (by omega)
   ·first | omega | (simp only []; omega)
   ·exact sbt
 ·refine B1 (Ay (A0 (A1 (Ae (Ag (Ab (y_ (Ad Ak) (Af (Ae (A5 (A6 U (.tmp (Aa U) .nil) ?_)))) U)))))))
  exact ⟨_, ⟨vbool (by symm; exact decide_eq_false fun hm => by obtain ⟨x, h1, h2⟩ := mem_toInts.1 hm; obtain ⟨j, h3, h4⟩ := mem_gd.1 h1; exact hno j (by omega) (by rw [h4]; exact h2)), rfl⟩, sbt⟩
end Go.Proofs.YtkdolgnpkjihpaaGreatDoor
namespace Go.Proofs.YtkdolgnpkjihpaaGreatDoor
open _root_.Go.Proofs.Tryz
open Go.RowKit
set_option linter.unusedVariables false
set_option linter.unusedSimpArgs false
theorem bd161_z  (w : World) : (Instr.build 161 #[]).run Tryz.prog w = .ok (.agg #[.slice none 0 0, .slice none 0 0]) w := by kernel_rfl
def StI (n : Nat) (l : List Int) : Prop := l = [-1] ∨ ∃ ns, Srn n ns ∧ l = toInts ns
theorem StI.len {n : Nat} {l : List Int} (h : StI n l) : l.length ≤ n + 1 := by
 rcases h with rfl | ⟨ns, h, rfl⟩
 ·simp
 ·have := h.len; simp [toInts]; omega
theorem StI.at {n : Nat} {l : List Int} (h : StI n l) {x : Int} (hx : x ∈ l) : x = -1 ∨ (0 ≤ x ∧ x.toNat < n) := by
 rcases h with rfl | ⟨ns, h, rfl⟩
 ·left; simpa using hx
 ·obtain ⟨k, hk, rfl⟩ := mem_toInts.1 hx
  have := h.2 k hk
  right; omega
theorem stR_srn {n : Nat} {t : PT} {first : List Nat} {names : List ByteArray} {a : Nat} (hf : ∀ x ∈ first, x < n) (hfo : ∀ i, i < n → ∀ x ∈ gd t.fol i, x < n) : ∀ {st : List Int} {to : List Nat}, Srn n to → (∀ x ∈ st, x = -1 ∨ (0 ≤ x ∧ x.toNat < n)) → Srn n (st.foldl (fun to s => tkR t.nms names a to (nxR t.fol first s)) to)
 | [], _, h, _ => h
 | x :: st, to, h, hs => by
  simp only [List.foldl_cons]
  refine stR_srn hf hfo (tkR_srn h ?_) fun y hy => hs y (by simp [hy])
  unfold nxR
  split
  ·rcases hs x (by simp) with e | ⟨_, e⟩
   ·omega
   ·exact hfo _ e
  ·exact hf
structure SsOk (w0 : World) (X : List (Nat × Obj)) (n : Nat) (S : List RowI) : Prop where
 arr : ∀ r ∈ S, Arr w0 X r.q 1 encI r.l
 st : ∀ r ∈ S, StI n r.l
theorem SsOk.mono {w0 : World} {X Y : List (Nat × Obj)} {n : Nat} {S : List RowI} (h : SsOk w0 X n S) (hs : X.Sublist Y := by exact sbt) : SsOk w0 Y n S := ⟨fun r hr => (h.arr r hr).mono hs, h.st⟩
theorem SsOk.push {w0 : World} {X Y : List (Nat × Obj)} {n : Nat} {S : List RowI} (h : SsOk w0 X n S) (hs : X.Sublist Y) {r : RowI} (hA : Arr w0 Y r.q 1 encI r.l) (hst : StI n r.l) : SsOk w0 Y n (S ++ [r]) := ⟨fun x hx => by
  rcases List.mem_append.1 hx with e | e
  ·exact (h.arr x e).mono hs
  ·simp at e; subst e; exact hA, fun x hx => by
  rcases List.mem_append.1 hx with e | e
  ·exact h.st x e
  ·simp at e; subst e; exact hst⟩
theorem addL_yes {l : List (List Int)} {s : List Int} (h : idx l s = l.length) : addL l s = l ++ [s] := by
 unfold addL; rw [if_neg]
 intro hm; have := Dn hm; omega
theorem addL_no {l : List (List Int)} {s : List Int} (h : ¬ idx l s = l.length) : addL l s = l := by
 unfold addL; rw [if_pos]
 exact Classical.byContradiction fun hm => h (idx_not hm)
theorem any_take {l : List Int} {f : Int → Bool} {i : Nat} (h : i < l.length) : (l.take (i + 1)).any f = ((l.take i).any f || f (gd l i)) := by
 rw [Du h, List.any_append]; simp
theorem rowQ_push {w0 : World} {X Y : List (Nat × Obj)} {rows : List RowQ} (h : ∀ r ∈ rows, Arr w0 X r.q 1 encU r.l) (hs : X.Sublist Y) {r : RowQ} (hA : Arr w0 Y r.q 1 encU r.l) : ∀ x ∈ rows ++ [r], Arr w0 Y x.q 1 encU x.l := fun x hx => by
 rcases List.mem_append.1 hx with e | e
 ·exact (h x e).mono hs
 ·simp at e; subst e; exact hA
theorem rawGoR_big {t : PT} {E : PE} {names : List ByteArray} {f k : Nat} {l : List (List Int)} {rows : List (List Nat)} {acc : List Bool} (hk : k < l.length) {a : Nat} (ha : a < names.length + 1) (h : 200 < (rwR t E.first names (gd l k) l (a + 1)).1.length) : rawGoR t E names (f + 1) k l rows acc = none := by
 have h1 := rwR_mono t E.first names (gd l k) l (a + 1) (names.length + 1 - (a + 1))
 rw [show a + 1 + (names.length + 1 - (a + 1)) = names.length + 1 by omega] at h1
 rw [rawGoR_succ, if_pos hk, if_pos (by omega)]
theorem rowI_u (q : Option Addr) (c : Nat) (l : List Nat) : encRI ⟨q, c, toInts l⟩ = [.slice q l.length c] := by simp [encRI, toInts]
theorem place_u {w0 : World} {H : List (Nat × Obj)} (rows : List RowI) (q : Option Addr) (c : Nat) (hA : Arr w0 H q 1 encRI rows) (hr : ∀ r ∈ rows, Arr w0 H r.q 1 encI r.l) (hn : ∀ r ∈ rows, r.l.length ≤ 100000) (hl : rows.length ≤ 100000) (to : List Nat) (q2 : Option Addr) (c2 : Nat) (hB : Arr w0 H q2 1 encU to) :
  FSpec Tryz.prog w0 109 #[.slice q rows.length c, .slice q2 to.length c2] H (Still (.int .i64 (idx (rows.map RowI.l) (toInts to) : Nat)) H) := by
 have h := place_s rows q c hA hr hn hl (toInts to) q2 c2 (arrUI hB)
 rw [show (toInts to).length = to.length by simp [toInts]] at h; exact h
theorem sets_s {w0 : World} {H : List (Nat × Obj)} (m : Rxm) (e : Re) (hI : Is m e) (hM : RxM w0 H m) (hl : e.lv ≤ 64) (hz : m.sz ≤ 90000) :
  FSpec Tryz.prog w0 55 #[.agg (encRx m).toArray] H (fun v H' => ∃ (mc : Mc) (M : List (Nat × Obj)), (v = .tuple #[.agg (encMc mc).toArray, .int .i64 (if (rawR e (ntR m [])).isSome then 0 else 2)] ∧ (∀ X, McOk w0 (M ++ X) mc) ∧ (∀ r, rawR e (ntR m []) = some r → mc.pl = ⟨ntR m [], r.1, r.2⟩) ∧ (rawR e (ntR m []) = none → mc.pl = ⟨[], [], []⟩)) ∧ H' = M ++ H) := by
 refine A8 Tryz.func55 U ntmps55 U ?_
 have hl0 : (ntR m []).length ≤ 90001 := by have := ntR_len m []; simp at this; omega
 refine Ag (Ab (e_ (Bi (T U) cs_) ?_ U))
 rintro _ _ ⟨n1, rfl, rfl⟩
 refine e_ (Ar zeroValue29 cs_) ?_ U
 rintro _ _ ⟨n2, rfl, rfl⟩
 refine y_ (Ad Ak) (Af (Ae (Ag (Ab (y_ (Bv .nil (bd161_z)) (e_ (Bi (T U) cs_) ?_ U) U))))) U
 rintro _ _ ⟨n21, rfl, rfl⟩
 refine y_ (Ad (T U)) (Af (Ae (Ag (Ab (y_ (Ac (T U)) (y_ (Am (T U) isAgg24 sizeOf24 U (by first | exact Bh)) ?_ U) U))))) U
 refine e_ (Aw (.cons (T U) (.cons (T U) .nil)) call106 (Bx (ltH n21 .nil .nil ⟨[], []⟩) (show LocL (ltH n21 .nil .nil ⟨[], []⟩ ++ _) _ _ _ from .h) (read_s hI _ n21 .nil .nil ⟨[], []⟩ (hM.mono sbt) U U ⟨rfl, Nat.zero_le _, (fun x h => by cases h), (fun x h => by cases h), (fun x h => by cases h), (fun x h => by cases h)⟩ (by simpa using hl)))) ?_ U
 rintro _ _ ⟨⟨e1, e2, t1, E, M1⟩, ⟨rfl, ho1, ho2, hr1⟩, rfl⟩
 simp only [List.append_assoc, lt_app] at hr1 ⊢
 replace ho1 : SlOk e1 t1.lv.length 3 := ho1
 replace ho2 : SlOk e2 t1.fol.length 1 := ho2
 have hrp := hr1.pl
 have hre := hr1.pe
 obtain ⟨ht1, hE⟩ := hr1.ok H ⟨rfl, Nat.zero_le _, (fun x h => by cases h), (fun x h => by cases h), (fun x h => by cases h), (fun x h => by cases h)⟩
 have hlf := ht1.few
 have hfl := ht1.len
 have w1 := hE.s1.len
 have w2 := hE.s2.len
 refine e_ (Ar zeroValue163 cs_) ?_ U
 rintro _ _ ⟨n5, rfl, rfl⟩
 first | refine A7 (Av (T U) (T U) sizeOf163) U Ah ?_
 rintro _ _ ⟨rfl, rfl⟩
 refine Af (Ae (Ag (Ab (y_ (Am (T U) isAgg24 sizeOf24 U (by first | exact Bh)) ?_ U))))
 refine e_ (Aw (.cons Ak (.cons (T U) .nil)) call74 (lt_s m _ [] none 0 (fun i x hi => by cases hi) (Nat.le_refl _) (hM.mono sbt) (by simp; omega))) ?_ U
 rintro _ _ ⟨q7, c7, M7, ⟨rfl, hc7, hA7⟩, rfl⟩
 obtain ⟨nm, hnm⟩ : ∃ nm, nm = ntR m [] := ⟨_, rfl⟩
 simp only [← hnm] at hc7 hA7 ⊢
 have hnl : nm.length ≤ 90001 := by rw [hnm]; exact hl0
 have hN : Arr w0 (M7 ++ H) q7 1 encS nm := hA7 H (fun i x hi => by cases hi)
 have hraw : rawR e nm = rawGoR t1.pl E.pe nm 201 0 [[-1]] [] [] := by unfold rawR; rw [hrp, hre]; rfl
 refine y_ (Bv (.cons (T U) .nil) (bd29_0 _ _ _)) (e_ (Ar zeroValue29 cs_) ?_ U) U
 rintro _ _ ⟨n6, rfl, rfl⟩
 first | refine A7 (Av (T U) (T U) sizeOf29) U Ah ?_
 rintro _ _ ⟨rfl, rfl⟩
 refine Af (Ae (Ag (Ab (e_ (Al (.cons Ak .nil) (Cg _)) ?_ U))))
 rintro _ _ ⟨n28, rfl, rfl⟩
 refine e_ (Al (.cons (T U) .nil) (bs26_1_0 _ _ _)) ?_ U
 rintro _ _ ⟨n29, rfl, rfl⟩
 refine jl_perm (List.Perm.swap _ _ _) (y_ (Ad (T U)) (Af (Ae (Ag (Ag (Ab (y_ (Ad Ak) (Af (Ae (Au ?_))) U)))))) U)
 refine Cc (X := Nat × List RowI × List RowQ × List Bool × Sl × Sl × Sl × List (Nat × Obj)) (V := fun ⟨k, S, rows, acc, ds, dr, da, M⟩ => [(8, .int .i64 (k : Nat)), (7, slV ds S.length)]) (C := [(2, _), (4, _), (5, _), (6, _)]) (G := fun ⟨k, S, rows, acc, ds, dr, da, M⟩ => M ++ (slH ds (S.flatMap encRI) 42 ++ (slH dr (rows.flatMap encRQ) 42 ++ (slH da (acc.flatMap encB1) 4 ++ ((n6, Cl [.slice q7 nm.length c7, slV dr rows.length, slV da acc.length] 29) :: (M7 ++ ((n5, Cl (encEQ E) 163) :: (M1 ++ ((n21, Cl [slV e1 t1.lv.length, slV e2 t1.fol.length] 161) :: (slH e1 (t1.lv.flatMap encRx) 24 ++ (slH e2 (t1.fol.flatMap encRQ) 42 ++ ((n2, Cl [.slice none 0 0, .slice none 0 0, .slice none 0 0] 29) :: (n1, Cl (encRx m) 24) :: H)))))))))))) (φ := fun ⟨k, S, rows, acc, ds, dr, da, M⟩ => (k ≤ S.length ∧ S.length ≤ 200 ∧ rows.length = k ∧ acc.length = k) ∧ (SlOk ds S.length 1 ∧ SlOk dr rows.length 1 ∧ SlOk da acc.length 1) ∧ SsOk w0 (M ++ H) t1.lv.length S ∧ (∀ r ∈ rows, ∀ X, Arr w0 (M ++ X) r.q 1 encU r.l) ∧ rawGoR t1.pl E.pe nm (201 - k) k (S.map RowI.l) (rows.map RowQ.l) acc = rawGoR t1.pl E.pe nm 201 0 [[-1]] [] []) (μ := fun ⟨k, S, rows, acc, ds, dr, da, M⟩ => 201 - k) (x0 := (0, [⟨some ⟨n28, 0, none⟩, 1, [-1]⟩], [], [], .blk n29 1 [], .nil, .nil, [(n28, Cl [.int .i64 (-1)] 3)])) ?_ ⟨Aa rfl, Aa rfl, Aa rfl, Aa rfl, trivial⟩ ⟨(by first | exact Aa rfl | (refine Ai (Aa rfl) (vint ?_); omega) | (refine Ai (Aa rfl) ?_; simp; done) | (refine Ai (Aa rfl) ?_; exact by rw [htk2]) | (refine Ai (Aa rfl) ?_; exact by rw [hstk]) | (refine Ai (Aa rfl) ?_; exact by rw [hrw2])), (by first | exact Aa rfl | (refine Ai (Aa rfl) (vint ?_); omega) | (refine Ai (Aa rfl) ?_; simp; done) | (refine Ai (Aa rfl) ?_; exact by rw [htk2]) | (refine Ai (Aa rfl) ?_; exact by rw [hstk]) | (refine Ai (Aa rfl) ?_; exact by rw [hrw2])), trivial⟩ sb0 ?_
 ·exact ⟨⟨Nat.zero_le _, by simp, rfl, rfl⟩, ⟨⟨Nat.le_refl _, rfl⟩, rfl, rfl⟩, ⟨fun r hr => by simp at hr; subst hr; exact Cx (fun _ => rfl) rfl Bt, fun r hr => by simp at hr; subst hr; exact .inl rfl⟩, (fun r hr => by cases hr), rfl⟩
 rintro ⟨k, S, rows, acc, ds, dr, da, M⟩ ⟨⟨hk, hS2, hrl, hacl⟩, ⟨hds, hdr, hda⟩, hS, hro, hgo⟩
 refine Ag (Ag (Ab (y_ (Ac (T U)) (y_ (Ac (T U)) (y_ (Bm (T U) runUnderlying26) (y_ (Bz (T U) (T U)) (Af (Ae ?_)) U) U) U) U)))
 first | refine Ao (Aa U) (fun c33 => ?_) (fun c33 => ?_) | refine A3 (Aa U) (fun c33 => ?_) (fun c33 => ?_)
 ·have hkS : k < S.length := by omega
  refine A2 (Ae (Ag (Au (Ag (Ab (y_ (Ad Ak) (Af (Ae (Ag (Ag (Ab (y_ (Ad Ak) (Af (Ae (Au ?_))) U)))))) U))))))
  refine Cc (X := Nat × List RowI × Sl × Sl × List (Nat × Obj)) (V := fun ⟨a, S1, d7, d9, Ma⟩ => [(10, .int .i64 (a : Nat)), (7, slV d7 S1.length), (9, slV d9 (rwR t1.pl E.pe.first nm (gd S k).l (S.map RowI.l) a).2.length)]) (C := [(2, _), (4, _), (5, _), (6, _), (8, _)]) (G := fun ⟨a, S1, d7, d9, Ma⟩ => Ma ++ (slH d9 ((rwR t1.pl E.pe.first nm (gd S k).l (S.map RowI.l) a).2.flatMap encU) 3 ++ (slH d7 (S1.flatMap encRI) 42 ++ (slH dr (rows.flatMap encRQ) 42 ++ (slH da (acc.flatMap encB1) 4 ++ ((n6, Cl [.slice q7 nm.length c7, slV dr rows.length, slV da acc.length] 29) :: (M7 ++ ((n5, Cl (encEQ E) 163) :: (M1 ++ ((n21, Cl [slV e1 t1.lv.length, slV e2 t1.fol.length] 161) :: (slH e1 (t1.lv.flatMap encRx) 24 ++ (slH e2 (t1.fol.flatMap encRQ) 42 ++ ((n2, Cl [.slice none 0 0, .slice none 0 0, .slice none 0 0] 29) :: (n1, Cl (encRx m) 24) :: H))))))))))))) (φ := fun ⟨a, S1, d7, d9, Ma⟩ => (a ≤ nm.length + 1 ∧ S1.length ≤ 200) ∧ S1.map RowI.l = (rwR t1.pl E.pe.first nm (gd S k).l (S.map RowI.l) a).1 ∧ (SlOk d7 S1.length 1 ∧ SlOk d9 (rwR t1.pl E.pe.first nm (gd S k).l (S.map RowI.l) a).2.length 1) ∧ SsOk w0 (Ma ++ H) t1.lv.length S1 ∧ M.Sublist Ma) (μ := fun ⟨a, S1, d7, d9, Ma⟩ => nm.length + 1 - a) (x0 := (0, S, ds, .nil, M)) ?_ ⟨Aa rfl, Aa rfl, Aa rfl, Aa rfl, Aa rfl, trivial⟩ ⟨(by first | exact Aa rfl | (refine Ai (Aa rfl) (vint ?_); omega) | (refine Ai (Aa rfl) ?_; simp; done) | (refine Ai (Aa rfl) ?_; exact by rw [htk2]) | (refine Ai (Aa rfl) ?_; exact by rw [hstk]) | (refine Ai (Aa rfl) ?_; exact by rw [hrw2])), (by first | exact Aa rfl | (refine Ai (Aa rfl) (vint ?_); omega) | (refine Ai (Aa rfl) ?_; simp; done) | (refine Ai (Aa rfl) ?_; exact by rw [htk2]) | (refine Ai (Aa rfl) ?_; exact by rw [hstk]) | (refine Ai (Aa rfl) ?_; exact by rw [hrw2])), (by first | exact Aa rfl | (refine Ai (Aa rfl) (vint ?_); omega) | (refine Ai (Aa rfl) ?_; simp; done) | (refine Ai (Aa rfl) ?_; exact by rw [htk2]) | (refine Ai (Aa rfl) ?_; exact by rw [hstk]) | (refine Ai (Aa rfl) ?_; exact by rw [hrw2])), trivial⟩ sb0 ?_
  ·exact ⟨⟨Nat.zero_le _, hS2⟩, rfl, ⟨hds, rfl⟩, hS, List.Sublist.refl _⟩
  rintro ⟨a, S1, d7, d9, Ma⟩ ⟨⟨ha, hS12⟩, hSm, ⟨hd7, hd9⟩, hS1, hsub⟩
  have hrwl := rwR_len t1.pl E.pe.first nm (gd S k).l (S.map RowI.l) a
  rw [← hSm] at hrwl
  simp only [List.length_map] at hrwl
  have hkS1 : k < S1.length := by omega
  have hS1k : (gd S1 k).l = (gd S k).l := by
   have h1 := rwR_get t1.pl E.pe.first nm (gd S k).l (S.map RowI.l) (k := k) (by simp; omega) a
   rw [← hSm, Cz hkS1, Cz hkS] at h1; exact h1
  have hSk : Arr w0 (Ma ++ H) (gd S1 k).q 1 encI (gd S1 k).l := hS1.arr _ (Az hkS1)
  have hSt : ∀ k, k < S1.length → StI t1.lv.length (gd S1 k).l := fun k hk => hS1.st _ (Az hk)
  have hSkl := (hSt k hkS1).len
  refine Ag (Ag (Ab (y_ (Ac (T U)) (y_ (Bn (T U) Da) (y_ (Aj (T U) isAgg25 (by first | exact c_o)) ?_ U) U) U)))
  refine y_ (Bm (T U) runUnderlying25) (y_ (yl_leq (T U) (T U)) (Af (Ae ?_)) U) U
  first | refine Ao (Aa U) (fun c40 => ?_) (fun c40 => ?_) | refine A3 (Aa U) (fun c40 => ?_) (fun c40 => ?_)
  ·refine A2 (Ae (Ag (Au (Ag (Ab (y_ (Ad Ak) (Af (Ae (Ag (Ag (Ab (y_ (Ad Ak) (Af (Ae (Au ?_))) U)))))) U))))))
   refine Cc (X := Nat × Option Addr × Nat × List (Nat × Obj)) (V := fun ⟨j, qt, ct, Mt⟩ => [(12, .int .i64 (j : Nat)), (11, .slice qt (stR t1.pl E.pe.first nm a ((gd S1 k).l.take j)).length ct)]) (C := [(2, _), (4, _), (5, _), (6, _), (7, _), (8, _), (9, _), (10, _)]) (G := fun ⟨j, qt, ct, Mt⟩ => Mt ++ (Ma ++ (slH d9 ((rwR t1.pl E.pe.first nm (gd S k).l (S.map RowI.l) a).2.flatMap encU) 3 ++ (slH d7 (S1.flatMap encRI) 42 ++ (slH dr (rows.flatMap encRQ) 42 ++ (slH da (acc.flatMap encB1) 4 ++ ((n6, Cl [.slice q7 nm.length c7, slV dr rows.length, slV da acc.length] 29) :: (M7 ++ ((n5, Cl (encEQ E) 163) :: (M1 ++ ((n21, Cl [slV e1 t1.lv.length, slV e2 t1.fol.length] 161) :: (slH e1 (t1.lv.flatMap encRx) 24 ++ (slH e2 (t1.fol.flatMap encRQ) 42 ++ ((n2, Cl [.slice none 0 0, .slice none 0 0, .slice none 0 0] 29) :: (n1, Cl (encRx m) 24) :: H)))))))))))))) (φ := fun ⟨j, qt, ct, Mt⟩ => j ≤ (gd S1 k).l.length ∧ (stR t1.pl E.pe.first nm a ((gd S1 k).l.take j)).length ≤ ct ∧ ∀ X, Arr w0 (Mt ++ X) qt 1 encU (stR t1.pl E.pe.first nm a ((gd S1 k).l.take j))) (μ := fun ⟨j, qt, ct, Mt⟩ => (gd S1 k).l.length - j) (x0 := (0, none, 0, [])) ?_ ⟨Aa rfl, Aa rfl, Aa rfl, Aa rfl, Aa rfl, Aa rfl, Aa rfl, Aa rfl, trivial⟩ ⟨(by first | exact Aa rfl | (refine Ai (Aa rfl) (vint ?_); omega) | (refine Ai (Aa rfl) ?_; simp; done) | (refine Ai (Aa rfl) ?_; exact by rw [htk2]) | (refine Ai (Aa rfl) ?_; exact by rw [hstk]) | (refine Ai (Aa rfl) ?_; exact by rw [hrw2])), (by first | exact Aa rfl | (refine Ai (Aa rfl) (vint ?_); omega) | (refine Ai (Aa rfl) ?_; simp; done) | (refine Ai (Aa rfl) ?_; exact by rw [htk2]) | (refine Ai (Aa rfl) ?_; exact by rw [hstk]) | (refine Ai (Aa rfl) ?_; exact by rw [hrw2])), trivial⟩ sb0 ?_
   ·exact ⟨Nat.zero_le _, Nat.le_refl _, fun X i x hi => by cases hi⟩
   rintro ⟨j, qt, ct, Mt⟩ ⟨hj, hct, hqt⟩
   have hto : Srn t1.lv.length (stR t1.pl E.pe.first nm a ((gd S1 k).l.take j)) := stR_srn hE.s1.2 (fun i hi => (ht1.srt (gd t1.fol i) (Az (by omega))).2 |> fun h => by rw [show gd t1.pl.fol i = (gd t1.fol i).l from Cz (by omega)]; exact h) .nil (fun x hx => (hSt k hkS1).at (List.mem_of_mem_take hx))
   refine Ag (Ag (Ab (y_ (Ac (T U)) (y_ (Ac (T U)) (y_ (Ac (T U)) (y_ (Bb (T U) (T U) runUnderlying26 sizeOf42 (by omega) (by first | exact rfl | exact (Ba (w0 := w0) (enc := encRI) (sz := 1) (e := 42) (X := []) (fun _ => rfl) hd7).b (i := k) (by omega) | exact hSk.b (i := j) (by omega) | exact hSk.b (i := i) (by omega) | exact (Ba (w0 := w0) (enc := encRQ) (sz := 1) (e := 42) (X := []) (fun _ => rfl) ho2).b (i := (gd (gd S1 k).l j).toNat) (by omega) | exact hnA.b (i := i) (by omega) | exact (Ba (w0 := w0) (enc := encRx) (sz := 3) (e := 24) (X := []) (fun _ => rfl) ho1).b (i := gd nx i) hnx)) ?_ U) U) U) U)))
   refine y_ (Aj (T U) isAgg42 (by first | exact c_o | exact cell1 (((Ba (w0 := w0) (enc := encRI) (sz := 1) (e := 42) (X := H) (fun _ => rfl) hd7).mono sbt).cs (i := k) (by omega)))) ?_ U
   refine y_ (Bm (T U) runUnderlying42) (y_ (Bz (T U) (T U)) (Af (Ae ?_)) U) U
   first | refine Ao (Aa U) (fun c49 => ?_) (fun c49 => ?_) | refine A3 (Aa U) (fun c49 => ?_) (fun c49 => ?_)
   ·have hsx := (hSt k (by omega)).at (Az (l := (gd S1 k).l) (i := j) (by omega))
    refine A2 (Ae (Ag (Au (Ag (Ab (y_ (Bn (T U) fa163_0) (y_ (Aj (T U) isAgg42 (by first | exact c_o)) ?_ U) U))))))
    refine y_ (Ad (T U)) (Af (Ae ?_)) U
    refine Dr (X := Option Addr × Nat × List Nat) (V := fun ⟨qn, cn, nx⟩ => [(13, .slice qn nx.length cn)]) (C := [(2, _), (4, _), (5, _), (6, _), (7, _), (8, _), (9, _), (10, _), (11, _), (12, _)]) (G := fun ⟨qn, cn, nx⟩ => Mt ++ (Ma ++ (slH d9 ((rwR t1.pl E.pe.first nm (gd S k).l (S.map RowI.l) a).2.flatMap encU) 3 ++ (slH d7 (S1.flatMap encRI) 42 ++ (slH dr (rows.flatMap encRQ) 42 ++ (slH da (acc.flatMap encB1) 4 ++ ((n6, Cl [.slice q7 nm.length c7, slV dr rows.length, slV da acc.length] 29) :: (M7 ++ ((n5, Cl (encEQ E) 163) :: (M1 ++ ((n21, Cl [slV e1 t1.lv.length, slV e2 t1.fol.length] 161) :: (slH e1 (t1.lv.flatMap encRx) 24 ++ (slH e2 (t1.fol.flatMap encRQ) 42 ++ ((n2, Cl [.slice none 0 0, .slice none 0 0, .slice none 0 0] 29) :: (n1, Cl (encRx m) 24) :: H)))))))))))))) (φ := fun ⟨qn, cn, nx⟩ => nx = nxR t1.pl.fol E.pe.first (gd (gd S1 k).l j) ∧ Srn t1.lv.length nx ∧ Arr w0 (M1 ++ H) qn 1 encU nx) ⟨Aa rfl, Aa rfl, Aa rfl, Aa rfl, Aa rfl, Aa rfl, Aa rfl, Aa rfl, Aa rfl, Aa rfl, trivial⟩ ?_ ?_
    ·refine Ag (Ab (y_ (Ac (T U)) (y_ (Ac (T U)) (y_ (Bb (T U) (T U) runUnderlying26 sizeOf42 (by omega) (by first | exact rfl | exact (Ba (w0 := w0) (enc := encRI) (sz := 1) (e := 42) (X := []) (fun _ => rfl) hd7).b (i := k) (by omega) | exact hSk.b (i := j) (by omega) | exact hSk.b (i := i) (by omega) | exact (Ba (w0 := w0) (enc := encRQ) (sz := 1) (e := 42) (X := []) (fun _ => rfl) ho2).b (i := (gd (gd S1 k).l j).toNat) (by omega) | exact hnA.b (i := i) (by omega) | exact (Ba (w0 := w0) (enc := encRx) (sz := 3) (e := 24) (X := []) (fun _ => rfl) ho1).b (i := gd nx i) hnx)) ?_ U) U) U))
     refine y_ (Aj (T U) isAgg42 (by first | exact c_o | exact cell1 (((Ba (w0 := w0) (enc := encRI) (sz := 1) (e := 42) (X := H) (fun _ => rfl) hd7).mono sbt).cs (i := k) (by omega)))) ?_ U
     refine y_ (Ac (T U)) (y_ (Bb (T U) (T U) runUnderlying42 sizeOf3 (by omega) (by first | exact rfl | exact (Ba (w0 := w0) (enc := encRI) (sz := 1) (e := 42) (X := []) (fun _ => rfl) hd7).b (i := k) (by omega) | exact hSk.b (i := j) (by omega) | exact hSk.b (i := i) (by omega) | exact (Ba (w0 := w0) (enc := encRQ) (sz := 1) (e := 42) (X := []) (fun _ => rfl) ho2).b (i := (gd (gd S1 k).l j).toNat) (by omega) | exact hnA.b (i := i) (by omega) | exact (Ba (w0 := w0) (enc := encRx) (sz := 3) (e := 24) (X := []) (fun _ => rfl) ho1).b (i := gd nx i) hnx)) ?_ U) U
     refine y_ (Aj (T U) isAgg3 (by first | exact c_o | exact cell1 ((hSk.mono sbt).cs (i := j) (by omega)))) ?_ U
     refine y_ (Dx (T U) Ak) (Af (Ae (Bq [(2, _), (4, _), (5, _), (6, _), (7, _), (8, _), (9, _), (10, _), (11, _), (12, _), (13, _), (61, _)] ⟨Aa U, Aa U, Aa U, Aa U, Aa U, Aa U, Aa U, Aa U, Aa U, Aa U, Aa U, Aa U, trivial⟩ ?_))) U
     first | refine Ao (Aa U) (fun c61 => ?_) (fun c61 => ?_) | refine A3 (Aa U) (fun c61 => ?_) (fun c61 => ?_)
     ·have hsi : (gd (gd S1 k).l j).toNat < t1.lv.length := hsx.elim (fun h => by omega) (fun h => h.2)
      refine Cj 14 [(0, true), (1, true), (2, true), (3, true), (4, true), (5, true), (6, true), (7, true), (8, true), (9, true), (10, true), (11, true), (12, true), (13, true)] _ mixd (by kernel_rfl) sb0 ?_
      refine o_y U (Ac (T U)) (o_y U (Bw (T U)) (o_y U (Be (T U) fa161_1) (o_y U (Aj (T U) isAgg26 (by first | exact c_o)) ?_ U Ah) U Ah) U Ah) U Ah
      refine o_y U (Ac (T U)) (o_y U (Ac (T U)) (o_y U (Bb (T U) (T U) runUnderlying26 sizeOf42 (by omega) (by first | exact rfl | exact (Ba (w0 := w0) (enc := encRI) (sz := 1) (e := 42) (X := []) (fun _ => rfl) hd7).b (i := k) (by omega) | exact hSk.b (i := j) (by omega) | exact hSk.b (i := i) (by omega) | exact (Ba (w0 := w0) (enc := encRQ) (sz := 1) (e := 42) (X := []) (fun _ => rfl) ho2).b (i := (gd (gd S1 k).l j).toNat) (by omega) | exact hnA.b (i := i) (by omega) | exact (Ba (w0 := w0) (enc := encRx) (sz := 3) (e := 24) (X := []) (fun _ => rfl) ho1).b (i := gd nx i) hnx)) ?_ U Ah) U Ah) U Ah
      refine o_y U (Aj (T U) isAgg42 (by first | exact c_o | exact cell1 (((Ba (w0 := w0) (enc := encRI) (sz := 1) (e := 42) (X := H) (fun _ => rfl) hd7).mono sbt).cs (i := k) (by omega)))) ?_ U Ah
      refine o_y U (Ac (T U)) (o_y U (Bb (T U) (T U) runUnderlying42 sizeOf3 (by omega) (by first | exact rfl | exact (Ba (w0 := w0) (enc := encRI) (sz := 1) (e := 42) (X := []) (fun _ => rfl) hd7).b (i := k) (by omega) | exact hSk.b (i := j) (by omega) | exact hSk.b (i := i) (by omega) | exact (Ba (w0 := w0) (enc := encRQ) (sz := 1) (e := 42) (X := []) (fun _ => rfl) ho2).b (i := (gd (gd S1 k).l j).toNat) (by omega) | exact hnA.b (i := i) (by omega) | exact (Ba (w0 := w0) (enc := encRx) (sz := 3) (e := 24) (X := []) (fun _ => rfl) ho1).b (i := gd nx i) hnx)) ?_ U Ah) U Ah
      refine o_y U (Aj (T U) isAgg3 (by first | exact c_o | exact cell1 ((hSk.mono sbt).cs (i := j) (by omega)))) ?_ U Ah
      refine o_y U (Cp (T U) (T U) runUnderlying26 sizeOf42 (by omega) (by first | exact rfl | exact (Ba (w0 := w0) (enc := encRI) (sz := 1) (e := 42) (X := []) (fun _ => rfl) hd7).b (i := k) (by omega) | exact hSk.b (i := j) (by omega) | exact hSk.b (i := i) (by omega) | exact (Ba (w0 := w0) (enc := encRQ) (sz := 1) (e := 42) (X := []) (fun _ => rfl) ho2).b (i := (gd (gd S1 k).l j).toNat) (by omega) | exact hnA.b (i := i) (by omega) | exact (Ba (w0 := w0) (enc := encRx) (sz := 3) (e := 24) (X := []) (fun _ => rfl) ho1).b (i := gd nx i) hnx)) ?_ U Ah
      refine o_y U (Aj (T U) isAgg42 (by first | exact c_o | exact cell1 (((Ba (w0 := w0) (enc := encRQ) (sz := 1) (e := 42) (X := H) (fun _ => rfl) ho2).mono sbt).cs (i := (gd (gd S1 k).l j).toNat) (by omega)))) ?_ U Ah
      refine o_y U (Ad (T U)) (B2 U (Af ?_)) U Ah
      refine Br (((gd t1.fol (gd (gd S1 k).l j).toNat).q, (gd t1.fol (gd (gd S1 k).l j).toNat).c, (gd t1.fol (gd (gd S1 k).l j).toNat).l)) ?_ ⟨(by first | exact Aa U | (refine Ai (Aa U) (vint ?_); omega) | (refine Ai (Aa U) ?_; simp; done) | (refine Ai (Aa U) ?_; exact by rw [htk2]) | (refine Ai (Aa U) ?_; exact by rw [hstk]) | (refine Ai (Aa U) ?_; exact by rw [hrw2])), trivial⟩ ⟨Aa U, Aa U, Aa U, Aa U, Aa U, Aa U, Aa U, Aa U, Aa U, Aa U, trivial⟩ sbt
      first | exact ⟨by unfold nxR; rw [if_pos (by omega)]; exact (Cz (by omega)).symm, ht1.srt _ (Az (by omega)), ht1.arr _ (Az (by omega))⟩ | exact ⟨by unfold nxR; rw [if_neg (by omega)], hE.s1, hE.a1⟩
     ·refine A2 ?_
      refine Br ((E.q1, E.c1, E.pe.first)) ?_ ⟨(by first | exact Aa U | (refine Ai (Aa U) (vint ?_); omega) | (refine Ai (Aa U) ?_; simp; done) | (refine Ai (Aa U) ?_; exact by rw [htk2]) | (refine Ai (Aa U) ?_; exact by rw [hstk]) | (refine Ai (Aa U) ?_; exact by rw [hrw2])), trivial⟩ ⟨Aa U, Aa U, Aa U, Aa U, Aa U, Aa U, Aa U, Aa U, Aa U, Aa U, trivial⟩ sbt
      first | exact ⟨by unfold nxR; rw [if_pos (by omega)]; exact (Cz (by omega)).symm, ht1.srt _ (Az (by omega)), ht1.arr _ (Az (by omega))⟩ | exact ⟨by unfold nxR; rw [if_neg (by omega)], hE.s1, hE.a1⟩
    rintro ⟨qn, cn, nx⟩ ⟨hnxe, hns, hnA⟩
    have hnl2 := hns.len
    refine Ag (Ab (y_ (Ad Ak) (Af (Ae (Au ?_))) U))
    refine Cc (X := Nat × Option Addr × Nat × List (Nat × Obj)) (V := fun ⟨i, qu, cu, Mu⟩ => [(14, .int .i64 (i : Nat)), (11, .slice qu (tkR t1.pl.nms nm a (stR t1.pl E.pe.first nm a ((gd S1 k).l.take j)) (nx.take i)).length cu)]) (C := [(2, _), (4, _), (5, _), (6, _), (7, _), (8, _), (9, _), (10, _), (12, _), (13, _)]) (G := fun ⟨i, qu, cu, Mu⟩ => Mu ++ (Ma ++ (slH d9 ((rwR t1.pl E.pe.first nm (gd S k).l (S.map RowI.l) a).2.flatMap encU) 3 ++ (slH d7 (S1.flatMap encRI) 42 ++ (slH dr (rows.flatMap encRQ) 42 ++ (slH da (acc.flatMap encB1) 4 ++ ((n6, Cl [.slice q7 nm.length c7, slV dr rows.length, slV da acc.length] 29) :: (M7 ++ ((n5, Cl (encEQ E) 163) :: (M1 ++ ((n21, Cl [slV e1 t1.lv.length, slV e2 t1.fol.length] 161) :: (slH e1 (t1.lv.flatMap encRx) 24 ++ (slH e2 (t1.fol.flatMap encRQ) 42 ++ ((n2, Cl [.slice none 0 0, .slice none 0 0, .slice none 0 0] 29) :: (n1, Cl (encRx m) 24) :: H)))))))))))))) (φ := fun ⟨i, qu, cu, Mu⟩ => i ≤ nx.length ∧ (tkR t1.pl.nms nm a (stR t1.pl E.pe.first nm a ((gd S1 k).l.take j)) (nx.take i)).length ≤ cu ∧ ∀ X, Arr w0 (Mu ++ X) qu 1 encU (tkR t1.pl.nms nm a (stR t1.pl E.pe.first nm a ((gd S1 k).l.take j)) (nx.take i))) (μ := fun ⟨i, qu, cu, Mu⟩ => nx.length - i) (x0 := (0, qt, ct, Mt)) ?_ ⟨Aa rfl, Aa rfl, Aa rfl, Aa rfl, Aa rfl, Aa rfl, Aa rfl, Aa rfl, Aa rfl, Aa rfl, trivial⟩ ⟨(by first | exact Aa rfl | (refine Ai (Aa rfl) (vint ?_); omega) | (refine Ai (Aa rfl) ?_; simp; done) | (refine Ai (Aa rfl) ?_; exact by rw [htk2]) | (refine Ai (Aa rfl) ?_; exact by rw [hstk]) | (refine Ai (Aa rfl) ?_; exact by rw [hrw2])), (by first | exact Aa rfl | (refine Ai (Aa rfl) (vint ?_); omega) | (refine Ai (Aa rfl) ?_; simp; done) | (refine Ai (Aa rfl) ?_; exact by rw [htk2]) | (refine Ai (Aa rfl) ?_; exact by rw [hstk]) | (refine Ai (Aa rfl) ?_; exact by rw [hrw2])), trivial⟩ sb0 ?_
    ·exact ⟨Nat.zero_le _, hct, hqt⟩
    rintro ⟨i, qu, cu, Mu⟩ ⟨hi, hcu, hqu⟩
    have htkl := (tkR_srn (nms := t1.pl.nms) (names := nm) (a := a) (nx := nx.take i) hto (fun x hx => hns.2 x (List.mem_of_mem_take hx))).len
    refine Ag (Ag (Ab (y_ (Ac (T U)) (y_ (Ac (T U)) (y_ (Bm (T U) runUnderlying42) (y_ (Bz (T U) (T U)) (Af (Ae ?_)) U) U) U) U)))
    first | refine Ao (Aa U) (fun c78 => ?_) (fun c78 => ?_) | refine A3 (Aa U) (fun c78 => ?_) (fun c78 => ?_)
    ·have hnx : gd nx i < t1.lv.length := hns.2 _ (Az (by omega))
     have hnmg : gd t1.pl.nms (gd nx i) = (gd t1.lv (gd nx i)).node := Cz hnx
     refine A2 (Ae (Ag (Au (Ag (Cj 15 [(0, true), (1, true), (2, true), (3, true), (4, true), (5, true), (6, true), (7, true), (8, true), (9, true), (10, true), (11, true), (12, true), (13, true), (14, true)] _ mixd (by kernel_rfl) sb0 ?_)))))
     refine o_y U (Ac (T U)) (o_y U (Bw (T U)) (o_y U (Bn (T U) fa161_0) (o_y U (Aj (T U) isAgg22 (by first | exact c_o)) ?_ U Ah) U Ah) U Ah) U Ah
     refine o_y U (Ac (T U)) (o_y U (Ac (T U)) (o_y U (Bb (T U) (T U) runUnderlying42 sizeOf3 (by omega) (by first | exact rfl | exact (Ba (w0 := w0) (enc := encRI) (sz := 1) (e := 42) (X := []) (fun _ => rfl) hd7).b (i := k) (by omega) | exact hSk.b (i := j) (by omega) | exact hSk.b (i := i) (by omega) | exact (Ba (w0 := w0) (enc := encRQ) (sz := 1) (e := 42) (X := []) (fun _ => rfl) ho2).b (i := (gd (gd S1 k).l j).toNat) (by omega) | exact hnA.b (i := i) (by omega) | exact (Ba (w0 := w0) (enc := encRx) (sz := 3) (e := 24) (X := []) (fun _ => rfl) ho1).b (i := gd nx i) hnx)) ?_ U Ah) U Ah) U Ah
     refine o_y U (Aj (T U) isAgg3 (by first | exact c_o | exact cell1 ((hnA.mono sbt).cs (i := i) (by omega)))) ?_ U Ah
     refine o_y U (Bb (T U) (T U) runUnderlying22 sizeOf24 (by omega) (by first | exact rfl | exact (Ba (w0 := w0) (enc := encRI) (sz := 1) (e := 42) (X := []) (fun _ => rfl) hd7).b (i := k) (by omega) | exact hSk.b (i := j) (by omega) | exact hSk.b (i := i) (by omega) | exact (Ba (w0 := w0) (enc := encRQ) (sz := 1) (e := 42) (X := []) (fun _ => rfl) ho2).b (i := (gd (gd S1 k).l j).toNat) (by omega) | exact hnA.b (i := i) (by omega) | exact (Ba (w0 := w0) (enc := encRx) (sz := 3) (e := 24) (X := []) (fun _ => rfl) ho1).b (i := gd nx i) hnx)) ?_ U Ah
     refine o_y U (Am (T U) isAgg24 sizeOf24 U (by first | exact ((Ba (w0 := w0) (enc := encRx) (sz := 3) (e := 24) (X := H) (fun _ => rfl) ho1).mono sbt).cs (i := gd nx i) hnx | exact Bh)) ?_ U Ah
     refine o_y U (Bn (T U) Da) (o_y U (Aj (T U) isAgg25 (by first | exact c_o)) ?_ U Ah) U Ah
     refine o_y U (Ac (T U)) (o_y U (Ax (.cons (T U) (.cons (T U) (.cons (T U) .nil))) call107 (fun H' hs => Dq (takR_eq (ht1.lf _ (Az hnx)) nm a) (takes_s (gd t1.lv (gd nx i)) nm q7 c7 (hN.mono (List.Sublist.trans sbt hs)) (by omega) a))) ?_ U Ah) U Ah
     refine o_y U (Ad (T U)) (B2 U (Af (Ae (Bq [(2, _), (4, _), (5, _), (6, _), (7, _), (8, _), (9, _), (10, _), (11, _), (12, _), (13, _), (14, _), (15, _)] ⟨Aa U, Aa U, Aa U, Aa U, Aa U, Aa U, Aa U, Aa U, Aa U, Aa U, Aa U, Aa U, Aa U, trivial⟩ (Ag (Ab (y_ (Ac (T U)) (Af (Ae ?_)) U))))))) U Ah
     first | refine Ao (Aa U) (fun c95 => ?_) (fun c95 => ?_) | refine A3 (Aa U) (fun c95 => ?_) (fun c95 => ?_)
     ·have htk2 := tkR_take (nms := t1.pl.nms) (names := nm) (a := a) (to := (stR t1.pl E.pe.first nm a ((gd S1 k).l.take j))) (nx := nx) (i := i) (by omega)
      rw [hnmg, if_pos c95] at htk2
      refine Ab (y_ (Ac (T U)) (y_ (Ac (T U)) (y_ (Ac (T U)) (y_ (Bb (T U) (T U) runUnderlying42 sizeOf3 (by omega) (by first | exact rfl | exact (Ba (w0 := w0) (enc := encRI) (sz := 1) (e := 42) (X := []) (fun _ => rfl) hd7).b (i := k) (by omega) | exact hSk.b (i := j) (by omega) | exact hSk.b (i := i) (by omega) | exact (Ba (w0 := w0) (enc := encRQ) (sz := 1) (e := 42) (X := []) (fun _ => rfl) ho2).b (i := (gd (gd S1 k).l j).toNat) (by omega) | exact hnA.b (i := i) (by omega) | exact (Ba (w0 := w0) (enc := encRx) (sz := 3) (e := 24) (X := []) (fun _ => rfl) ho1).b (i := gd nx i) hnx)) ?_ U) U) U) U)
      refine y_ (Aj (T U) isAgg3 (by first | exact c_o | exact cell1 ((hnA.mono sbt).cs (i := i) (by omega)))) ?_ U
      refine e_ (Aw (.cons (T U) (.cons (T U) .nil)) call108 (put_x (tkR t1.pl.nms nm a (stR t1.pl E.pe.first nm a ((gd S1 k).l.take j)) (nx.take i)) qu cu ((hqu H).mono sbt) hcu (by omega) (gd nx i))) ?_ U
      rintro _ _ ⟨q9, c9, M9, ⟨rfl, hc9, hA9⟩, rfl⟩
      refine y_ (Ad (T U)) (Af (Bl (Ae (Ab (y_ (Ac (T U)) (y_ (Bu (T U) Ak (by omega)) ?_ U) U))))) U
      refine y_ (Ad (T U)) (Af ?_) U
      refine Bo ((i + 1, q9, c9, M9 ++ Mu)) ?_ ?_ ⟨(by first | exact Aa U | (refine Ai (Aa U) (vint ?_); omega) | (refine Ai (Aa U) ?_; simp; done) | (refine Ai (Aa U) ?_; exact by rw [htk2]) | (refine Ai (Aa U) ?_; exact by rw [hstk]) | (refine Ai (Aa U) ?_; exact by rw [hrw2])), (by first | exact Aa U | (refine Ai (Aa U) (vint ?_); omega) | (refine Ai (Aa U) ?_; simp; done) | (refine Ai (Aa U) ?_; exact by rw [htk2]) | (refine Ai (Aa U) ?_; exact by rw [hstk]) | (refine Ai (Aa U) ?_; exact by rw [hrw2])), trivial⟩ ⟨Aa U, Aa U, Aa U, Aa U, Aa U, Aa U, Aa U, Aa U, Aa U, Aa U, trivial⟩ ?_
      ·exact ⟨by omega, by rw [htk2]; exact hc9, fun X => by rw [htk2, List.append_assoc]; exact hA9 _ (hqu X)⟩
      ·first | omega | (simp only []; omega)
      ·first | (show (M9 ++ Mu ++ _).Sublist _; rw [List.append_assoc]; exact sbt) | exact sbt
     ·have htk2 := tkR_take (nms := t1.pl.nms) (names := nm) (a := a) (to := (stR t1.pl E.pe.first nm a ((gd S1 k).l.take j))) (nx := nx) (i := i) (by omega)
      rw [hnmg, if_neg (by rw [c95]; exact Bool.false_ne_true)] at htk2
      refine A2 (Bl (Ae (Ab (y_ (Ac (T U)) (y_ (Bu (T U) Ak (by omega)) ?_ U) U))))
      refine y_ (Ad (T U)) (Af ?_) U
      refine Bo ((i + 1, qu, cu, Mu)) ?_ ?_ ⟨(by first | exact Aa U | (refine Ai (Aa U) (vint ?_); omega) | (refine Ai (Aa U) ?_; simp; done) | (refine Ai (Aa U) ?_; exact by rw [htk2]) | (refine Ai (Aa U) ?_; exact by rw [hstk]) | (refine Ai (Aa U) ?_; exact by rw [hrw2])), (by first | exact Aa U | (refine Ai (Aa U) (vint ?_); omega) | (refine Ai (Aa U) ?_; simp; done) | (refine Ai (Aa U) ?_; exact by rw [htk2]) | (refine Ai (Aa U) ?_; exact by rw [hstk]) | (refine Ai (Aa U) ?_; exact by rw [hrw2])), trivial⟩ ⟨Aa U, Aa U, Aa U, Aa U, Aa U, Aa U, Aa U, Aa U, Aa U, Aa U, trivial⟩ ?_
      ·exact ⟨by omega, by rw [htk2]; exact hcu, by rw [htk2]; exact hqu⟩
      ·first | omega | (simp only []; omega)
      ·first | (show (M9 ++ Mu ++ _).Sublist _; rw [List.append_assoc]; exact sbt) | exact sbt
    ·refine B1 (Ay (A0 (A1 (Bl (Ae (Ab (y_ (Ac (T U)) (y_ (Bu (T U) Ak (by omega)) ?_ U) U)))))))
     refine y_ (Ad (T U)) (Af ?_) U
     have hi2 : nx.take i = nx := List.take_of_length_le (by omega)
     have hstk : (stR t1.pl E.pe.first nm a ((gd S1 k).l.take (j + 1))) = (tkR t1.pl.nms nm a (stR t1.pl E.pe.first nm a ((gd S1 k).l.take j)) (nx.take i)) := by rw [stR_take (by omega), ← hnxe, hi2]
     refine Bo ((j + 1, qu, cu, Mu)) ?_ ?_ ⟨(by first | exact Aa U | (refine Ai (Aa U) (vint ?_); omega) | (refine Ai (Aa U) ?_; simp; done) | (refine Ai (Aa U) ?_; exact by rw [htk2]) | (refine Ai (Aa U) ?_; exact by rw [hstk]) | (refine Ai (Aa U) ?_; exact by rw [hrw2])), (by first | exact Aa U | (refine Ai (Aa U) (vint ?_); omega) | (refine Ai (Aa U) ?_; simp; done) | (refine Ai (Aa U) ?_; exact by rw [htk2]) | (refine Ai (Aa U) ?_; exact by rw [hstk]) | (refine Ai (Aa U) ?_; exact by rw [hrw2])), trivial⟩ ⟨Aa U, Aa U, Aa U, Aa U, Aa U, Aa U, Aa U, Aa U, trivial⟩ ?_
     ·exact ⟨by omega, by rw [hstk]; exact hcu, by rw [hstk]; exact hqu⟩
     ·show _ - (j + 1) < _ - j; omega
     ·exact sbt
   ·have hj2 : (gd S1 k).l.take j = (gd S k).l := by rw [List.take_of_length_le (by omega)]; exact hS1k
    simp only [hj2] at hct hqt hto ⊢
    refine B1 (Ay (A0 (A1 (Ae (Ag (Ab (y_ (Ac (T U)) (y_ (Ac (T U)) (y_ (Ax (.cons (T U) (.cons (T U) .nil)) call109 (fun H' hs => place_u S1 (slQ d7) (slC d7) (((Ba (w0 := w0) (enc := encRI) (sz := 1) (e := 42) (X := H) (fun _ => rfl) hd7)).mono (List.Sublist.trans sbt hs)) (fun r hr => (hS1.arr r hr).mono (List.Sublist.trans sbt hs)) (fun r hr => by have := (hS1.st r hr).len; omega) (by omega) (stR t1.pl E.pe.first nm a (gd S k).l) qt ct ((hqt H).mono (List.Sublist.trans sbt hs)))) ?_ U) U) U)))))))
    refine y_ (Ad (T U)) (Af (Ae ?_)) U
    refine Dr (X := List RowI × Sl × List (Nat × Obj)) (V := fun ⟨S2, d8, Mb⟩ => [(7, slV d8 S2.length)]) (C := [(2, _), (4, _), (5, _), (6, _), (8, _), (9, _), (10, _), (16, _)]) (G := fun ⟨S2, d8, Mb⟩ => Mb ++ (slH d9 ((rwR t1.pl E.pe.first nm (gd S k).l (S.map RowI.l) a).2.flatMap encU) 3 ++ (slH d8 (S2.flatMap encRI) 42 ++ (slH dr (rows.flatMap encRQ) 42 ++ (slH da (acc.flatMap encB1) 4 ++ ((n6, Cl [.slice q7 nm.length c7, slV dr rows.length, slV da acc.length] 29) :: (M7 ++ ((n5, Cl (encEQ E) 163) :: (M1 ++ ((n21, Cl [slV e1 t1.lv.length, slV e2 t1.fol.length] 161) :: (slH e1 (t1.lv.flatMap encRx) 24 ++ (slH e2 (t1.fol.flatMap encRQ) 42 ++ ((n2, Cl [.slice none 0 0, .slice none 0 0, .slice none 0 0] 29) :: (n1, Cl (encRx m) 24) :: H))))))))))))) (φ := fun ⟨S2, d8, Mb⟩ => S2.map RowI.l = addL (S1.map RowI.l) (toInts (stR t1.pl E.pe.first nm a (gd S k).l)) ∧ SlOk d8 S2.length 1 ∧ SsOk w0 (Mb ++ H) t1.lv.length S2 ∧ Ma.Sublist Mb) ⟨Aa rfl, Aa rfl, Aa rfl, Aa rfl, Aa rfl, Aa rfl, Aa rfl, Aa rfl, trivial⟩ ?_ ?_
    ·refine Ag (Ab (y_ (Ac (T U)) (y_ (Ac (T U)) (y_ (Bm (T U) runUnderlying26) (y_ (Bs (T U) (T U)) (Af (Ae (Bq [(2, _), (4, _), (5, _), (6, _), (7, _), (8, _), (9, _), (10, _), (11, _), (16, _), (108, _)] ⟨Aa U, Aa U, Aa U, Aa U, Aa U, Aa U, Aa U, Aa U, Aa U, Aa U, Aa U, trivial⟩ ?_))) U) U) U) U))
     first | refine Ao (Aa U) (fun c108 => ?_) (fun c108 => ?_) | refine A3 (Aa U) (fun c108 => ?_) (fun c108 => ?_)
     ·refine Ab (y_ (Ac (T U)) (y_ (Ac (T U)) (e_ (Al (.cons (T U) .nil) (bs26_1_0 _ _ _)) ?_ U) U) U)
      rintro _ _ ⟨n111, rfl, rfl⟩
      refine e_ (Ch ((⟨qt, ct, toInts (stR t1.pl E.pe.first nm a (gd S k).l)⟩ : RowI)) (by' := 24) (enc := encRI) (l := S1) (by repeat (first | exact LocL.h | apply LocL.t | apply LocL.a)) (T U) (T U) runUnderlying26 runUnderlying26 sizeOf42 typeInfo42 U zeroValue42 U (fun _ => rfl) U hd7 (by decide) (by omega) (hn := by rw [rowI_u]; exact Bh)) ?_ U
      rintro _ _ ⟨d8', rfl, hok8, rfl⟩
      refine y_ (Ad (T U)) (Af ?_) U
      refine Br ((S1 ++ [⟨qt, ct, toInts (stR t1.pl E.pe.first nm a (gd S k).l)⟩], d8', Mt ++ Ma)) ?_ ⟨(by first | exact Aa U | (refine Ai (Aa U) (vint ?_); omega) | (refine Ai (Aa U) ?_; simp; done) | (refine Ai (Aa U) ?_; exact by rw [htk2]) | (refine Ai (Aa U) ?_; exact by rw [hstk]) | (refine Ai (Aa U) ?_; exact by rw [hrw2])), trivial⟩ ⟨Aa U, Aa U, Aa U, Aa U, Aa U, Aa U, Aa U, Aa U, trivial⟩ (by simp only [List.append_assoc]; exact sbt)
      first | exact ⟨by rw [addL_yes (by simp; omega), List.map_append]; rfl, hok8, hS1.push (by rw [List.append_assoc]; exact List.sublist_append_right _ _) (by rw [List.append_assoc]; exact arrUI (hqt _)) (.inr ⟨_, hto, rfl⟩), List.sublist_append_right _ _⟩ | exact ⟨by rw [addL_no (by simp; omega)], hd7, hS1.mono (by rw [List.append_assoc]; exact List.sublist_append_right _ _), List.sublist_append_right _ _⟩
     ·refine A2 ?_
      refine Br ((S1, d7, Mt ++ Ma)) ?_ ⟨(by first | exact Aa U | (refine Ai (Aa U) (vint ?_); omega) | (refine Ai (Aa U) ?_; simp; done) | (refine Ai (Aa U) ?_; exact by rw [htk2]) | (refine Ai (Aa U) ?_; exact by rw [hstk]) | (refine Ai (Aa U) ?_; exact by rw [hrw2])), trivial⟩ ⟨Aa U, Aa U, Aa U, Aa U, Aa U, Aa U, Aa U, Aa U, trivial⟩ (by simp only [List.append_assoc]; exact sbt)
      first | exact ⟨by rw [addL_yes (by simp; omega), List.map_append]; rfl, hok8, hS1.push (by rw [List.append_assoc]; exact List.sublist_append_right _ _) (by rw [List.append_assoc]; exact arrUI (hqt _)) (.inr ⟨_, hto, rfl⟩), List.sublist_append_right _ _⟩ | exact ⟨by rw [addL_no (by simp; omega)], hd7, hS1.mono (by rw [List.append_assoc]; exact List.sublist_append_right _ _), List.sublist_append_right _ _⟩
    rintro ⟨S2, d8, Mb⟩ ⟨hm2, hd8, hSS2, hsub2⟩
    refine Ag (Ag (Ab (y_ (Ac (T U)) (y_ (Bm (T U) runUnderlying26) (y_ (Dw (T U) Ak) (Af (Ae ?_)) U) U) U)))
    first | refine Ao (Aa U) (fun c115 => ?_) (fun c115 => ?_) | refine A3 (Aa U) (fun c115 => ?_) (fun c115 => ?_)
    ·refine Ag (Ab (y_ (Bv .nil (bd29_z)) ?_ U))
     first | refine A7 (Av (T U) (T U) sizeOf29) U Ah ?_
     rintro _ _ ⟨rfl, rfl⟩
     refine y_ (Ad Ak) (Af (Ae (A5 (An (Aq (An (B4 (Aq (An (Aq (An (B4 (Aq (An (A6 U (.cellA (Aa U) isAgg29 sizeOf29 U (by first | exact Bh) (.tmp (Aa U) .nil)) ?_))))))))))))))) U
     have hnone : rawR e nm = none := by rw [hraw, ← hgo, show 201 - k = (200 - k) + 1 by omega]; exact rawGoR_big (a := a) (by simp; omega) (by omega) (by rw [Cz (show k < S.length by omega), rwR_succ, ← hSm, ← hm2]; simp; omega)
     exact ⟨_, ⟨⟨[], [], [], none, 0, none, 0, none, 0⟩, [], ⟨by rw [hnone]; rfl, fun X => ⟨(fun i x hi => by cases hi), (fun i x hi => by cases hi), (fun i x hi => by cases hi), (fun r hr => by cases hr)⟩, (fun r hr => by rw [hnone] at hr; cases hr), fun _ => rfl⟩, rfl⟩, sbt⟩
    ·refine A2 (Ae (Ab (y_ (Ac (T U)) (y_ (Ac (T U)) (e_ (Al (.cons (T U) .nil) (Cg _)) ?_ U) U) U)))
     rintro _ _ ⟨n119, rfl, rfl⟩
     refine e_ (Ch ((idx (S1.map RowI.l) (toInts (stR t1.pl E.pe.first nm a (gd S k).l)))) (by' := 8) (enc := encU) (l := (rwR t1.pl E.pe.first nm (gd S k).l (S.map RowI.l) a).2) (by repeat (first | exact LocL.h | apply LocL.t | apply LocL.a)) (T U) (T U) runUnderlying42 runUnderlying42 sizeOf3 typeInfo3 U zeroValue3 U (fun _ => rfl) U hd9 (by decide) (by omega)) ?_ U
     rintro _ _ ⟨d9', rfl, hok9, rfl⟩
     refine y_ (Ad (T U)) (Af (Bl (Ae (Ab (y_ (Ac (T U)) (y_ (Bu (T U) Ak (by omega)) ?_ U) U))))) U
     refine y_ (Ad (T U)) (Af ?_) U
     have hrw2 : (rwR t1.pl E.pe.first nm (gd S k).l (S.map RowI.l) (a + 1)).2 = (rwR t1.pl E.pe.first nm (gd S k).l (S.map RowI.l) a).2 ++ [(idx (S1.map RowI.l) (toInts (stR t1.pl E.pe.first nm a (gd S k).l)))] := by rw [rwR_succ, ← hSm]
     refine Bo ((a + 1, S2, d8, d9', Mb)) ?_ ?_ ⟨(by first | exact Aa U | (refine Ai (Aa U) (vint ?_); omega) | (refine Ai (Aa U) ?_; simp; done) | (refine Ai (Aa U) ?_; exact by rw [htk2]) | (refine Ai (Aa U) ?_; exact by rw [hstk]) | (refine Ai (Aa U) ?_; exact by rw [hrw2])), (by first | exact Aa U | (refine Ai (Aa U) (vint ?_); omega) | (refine Ai (Aa U) ?_; simp; done) | (refine Ai (Aa U) ?_; exact by rw [htk2]) | (refine Ai (Aa U) ?_; exact by rw [hstk]) | (refine Ai (Aa U) ?_; exact by rw [hrw2])), (by first | exact Aa U | (refine Ai (Aa U) (vint ?_); omega) | (refine Ai (Aa U) ?_; simp; done) | (refine Ai (Aa U) ?_; exact by rw [htk2]) | (refine Ai (Aa U) ?_; exact by rw [hstk]) | (refine Ai (Aa U) ?_; exact by rw [hrw2])), trivial⟩ ⟨Aa U, Aa U, Aa U, Aa U, Aa U, trivial⟩ ?_
     ·refine ⟨⟨by omega, show S2.length ≤ 200 by omega⟩, ?_, ⟨hd8, by rw [hrw2]; exact hok9⟩, hSS2, hsub.trans hsub2⟩
      rw [hm2, rwR_succ, hSm]
     ·show nm.length + 1 - (a + 1) < nm.length + 1 - a; omega
     ·simp only [hrw2]; exact sbt
  ·refine B1 (Ay (A0 (A1 (Ae (Ag (Ab (y_ (Be (T U) Ck) (y_ (Aj (T U) isAgg26 (by first | exact c_o)) ?_ U) U)))))))
   refine y_ (Ac (T U)) (e_ (Al (.cons (T U) .nil) (bs26_1_0 _ _ _)) ?_ U) U
   rintro _ _ ⟨n124, rfl, rfl⟩
   refine e_ (Ch ((⟨slQ d9, slC d9, (rwR t1.pl E.pe.first nm (gd S k).l (S.map RowI.l) a).2⟩ : RowQ)) (by' := 24) (enc := encRQ) (l := rows) (by repeat (first | exact LocL.h | apply LocL.t | apply LocL.a)) (T U) (T U) runUnderlying26 runUnderlying26 sizeOf42 typeInfo42 U zeroValue42 U (fun _ => rfl) U hdr (by decide) (by omega)) ?_ U
   rintro _ _ ⟨dr', rfl, hokr, rfl⟩
   refine y_ (Be (T U) Ck) ?_ U
   first | refine A7 (Av (T U) (T U) sizeOf26) U Ah ?_ | refine A7 (B6 (T U) (T U) U sizeOf26) U Ah ?_ | refine A7 (B0 (T U) (T U) U sizeOf26) U Ah ?_
   rintro _ _ ⟨rfl, rfl⟩
   refine Af (Ae ?_)
   refine j_cutH (X := Bool) (V := fun b0 => [(17, .bool b0)]) (C := [(2, _), (4, _), (5, _), (6, _), (7, _), (8, _)]) (φ := fun b0 => b0 = (decide (k = 0) && E.pe.emp)) ⟨Aa U, Aa U, Aa U, Aa U, Aa U, Aa U, trivial⟩ ?_ ?_
   ·refine Ab (y_ (Ac (T U)) (y_ (Bs (T U) Ak) (y_ (Ac (T U)) ?_ U) U) U)
    first | refine Cb (s := 129) (Aa U) (fun c129 => ?_) (fun c129 => ?_) | refine Cw (s := 129) (Aa U) (fun c129 => ?_) (fun c129 => ?_)
    ·refine Bj (Be (T U) fa163_2) U (As U U (Aa U)) (Bj (Aj (T U) isAgg4 (by first | exact c_o)) U (As U U (Aa U)) ?_)
     refine y_ (A4 (T U) (T U)) (y_ (Ad (T U)) (Af ?_) U) U
     refine Br (E.pe.emp) ?_ ⟨(by first | exact Aa U | (refine Ai (Aa U) (vint ?_); omega) | (refine Ai (Aa U) ?_; simp; done) | (refine Ai (Aa U) ?_; exact by rw [htk2]) | (refine Ai (Aa U) ?_; exact by rw [hstk]) | (refine Ai (Aa U) ?_; exact by rw [hrw2])), trivial⟩ ⟨Aa U, Aa U, Aa U, Aa U, Aa U, Aa U, trivial⟩ sbt
     first | (rw [decide_eq_true (show k = 0 by omega)]; simp) | (rw [decide_eq_false (show ¬ k = 0 by omega)]; simp)
    ·refine B9 (B9 (y_ (A9 (T U) Ak) (y_ (Ad (T U)) (Af ?_) U) U) U U U U) U U U U
     refine Br (false) ?_ ⟨(by first | exact Aa U | (refine Ai (Aa U) (vint ?_); omega) | (refine Ai (Aa U) ?_; simp; done) | (refine Ai (Aa U) ?_; exact by rw [htk2]) | (refine Ai (Aa U) ?_; exact by rw [hstk]) | (refine Ai (Aa U) ?_; exact by rw [hrw2])), trivial⟩ ⟨Aa U, Aa U, Aa U, Aa U, Aa U, Aa U, trivial⟩ sbt
     first | (rw [decide_eq_true (show k = 0 by omega)]; simp) | (rw [decide_eq_false (show ¬ k = 0 by omega)]; simp)
   rintro b0 hb0
   refine Ag (Ag (Ab (y_ (Ad Ak) (Af (Ae (Au ?_))) U)))
   refine Ce (X := Nat × Bool) (V := fun ⟨i, b⟩ => [(18, .int .i64 (i : Nat)), (17, .bool b)]) (C := [(2, _), (4, _), (5, _), (6, _), (7, _), (8, _)]) (φ := fun ⟨i, b⟩ => i ≤ (gd S1 k).l.length ∧ b = ((decide (k = 0) && E.pe.emp) || ((gd S1 k).l.take i).any fun s => decide (s ∈ toInts E.pe.last))) (μ := fun ⟨i, b⟩ => (gd S1 k).l.length - i) (x0 := (0, b0)) ?_ ⟨Aa rfl, Aa rfl, Aa rfl, Aa rfl, Aa rfl, Aa rfl, trivial⟩ ⟨(by first | exact Aa rfl | (refine Ai (Aa rfl) (vint ?_); omega) | (refine Ai (Aa rfl) ?_; simp; done) | (refine Ai (Aa rfl) ?_; exact by rw [htk2]) | (refine Ai (Aa rfl) ?_; exact by rw [hstk]) | (refine Ai (Aa rfl) ?_; exact by rw [hrw2])), (by first | exact Aa rfl | (refine Ai (Aa rfl) (vint ?_); omega) | (refine Ai (Aa rfl) ?_; simp; done) | (refine Ai (Aa rfl) ?_; exact by rw [htk2]) | (refine Ai (Aa rfl) ?_; exact by rw [hstk]) | (refine Ai (Aa rfl) ?_; exact by rw [hrw2])), trivial⟩ ?_
   ·exact ⟨Nat.zero_le _, by simp [hb0]⟩
   rintro ⟨i, b⟩ ⟨hi, hb⟩
   refine Ag (Ag (Ab (y_ (Ac (T U)) (y_ (Ac (T U)) (y_ (Ac (T U)) (y_ (Bb (T U) (T U) runUnderlying26 sizeOf42 (by omega) (by first | exact rfl | exact (Ba (w0 := w0) (enc := encRI) (sz := 1) (e := 42) (X := []) (fun _ => rfl) hd7).b (i := k) (by omega) | exact hSk.b (i := j) (by omega) | exact hSk.b (i := i) (by omega) | exact (Ba (w0 := w0) (enc := encRQ) (sz := 1) (e := 42) (X := []) (fun _ => rfl) ho2).b (i := (gd (gd S1 k).l j).toNat) (by omega) | exact hnA.b (i := i) (by omega) | exact (Ba (w0 := w0) (enc := encRx) (sz := 3) (e := 24) (X := []) (fun _ => rfl) ho1).b (i := gd nx i) hnx)) ?_ U) U) U) U)))
   refine y_ (Aj (T U) isAgg42 (by first | exact c_o | exact cell1 (((Ba (w0 := w0) (enc := encRI) (sz := 1) (e := 42) (X := H) (fun _ => rfl) hd7).mono sbt).cs (i := k) (by omega)))) ?_ U
   refine y_ (Bm (T U) runUnderlying42) (y_ (Bz (T U) (T U)) (Af (Ae ?_)) U) U
   first | refine Ao (Aa U) (fun c139 => ?_) (fun c139 => ?_) | refine A3 (Aa U) (fun c139 => ?_) (fun c139 => ?_)
   ·refine A2 (Ae (Ag (Au (Ag (Cj 11 [(0, true), (1, true), (2, true), (3, true), (4, true), (5, true), (6, true), (7, true), (8, true), (9, true), (10, true)] _ mixd (by kernel_rfl) sb0 ?_)))))
    refine o_y U (Be (T U) fa163_1) (o_y U (Aj (T U) isAgg42 (by first | exact c_o)) ?_ U Ah) U Ah
    refine o_y U (Ac (T U)) (o_y U (Ac (T U)) (o_y U (Bb (T U) (T U) runUnderlying26 sizeOf42 (by omega) (by first | exact rfl | exact (Ba (w0 := w0) (enc := encRI) (sz := 1) (e := 42) (X := []) (fun _ => rfl) hd7).b (i := k) (by omega) | exact hSk.b (i := j) (by omega) | exact hSk.b (i := i) (by omega) | exact (Ba (w0 := w0) (enc := encRQ) (sz := 1) (e := 42) (X := []) (fun _ => rfl) ho2).b (i := (gd (gd S1 k).l j).toNat) (by omega) | exact hnA.b (i := i) (by omega) | exact (Ba (w0 := w0) (enc := encRx) (sz := 3) (e := 24) (X := []) (fun _ => rfl) ho1).b (i := gd nx i) hnx)) ?_ U Ah) U Ah) U Ah
    refine o_y U (Aj (T U) isAgg42 (by first | exact c_o | exact cell1 (((Ba (w0 := w0) (enc := encRI) (sz := 1) (e := 42) (X := H) (fun _ => rfl) hd7).mono sbt).cs (i := k) (by omega)))) ?_ U Ah
    refine o_y U (Ac (T U)) (o_y U (Bb (T U) (T U) runUnderlying42 sizeOf3 (by omega) (by first | exact rfl | exact (Ba (w0 := w0) (enc := encRI) (sz := 1) (e := 42) (X := []) (fun _ => rfl) hd7).b (i := k) (by omega) | exact hSk.b (i := j) (by omega) | exact hSk.b (i := i) (by omega) | exact (Ba (w0 := w0) (enc := encRQ) (sz := 1) (e := 42) (X := []) (fun _ => rfl) ho2).b (i := (gd (gd S1 k).l j).toNat) (by omega) | exact hnA.b (i := i) (by omega) | exact (Ba (w0 := w0) (enc := encRx) (sz := 3) (e := 24) (X := []) (fun _ => rfl) ho1).b (i := gd nx i) hnx)) ?_ U Ah) U Ah
    refine o_y U (Aj (T U) isAgg3 (by first | exact c_o | exact cell1 ((hSk.mono sbt).cs (i := i) (by omega)))) ?_ U Ah
    refine o_y U (Ax (.cons (T U) (.cons (T U) .nil)) call59 (fun H' hs => hasZ_s E.pe.last E.q2 E.c2 (hE.a2.mono (List.Sublist.trans sbt hs)) (by omega) (gd (gd S1 k).l i))) ?_ U Ah
    refine o_y U (Ad (T U)) (B2 U (Af (Ae (Bq [(2, _), (4, _), (5, _), (6, _), (7, _), (8, _), (17, _), (18, _), (19, _)] ⟨Aa U, Aa U, Aa U, Aa U, Aa U, Aa U, Aa U, Aa U, Aa U, trivial⟩ (Ab (y_ (Ac (T U)) (y_ (Ac (T U)) ?_ U) U)))))) U Ah
    first | refine Cb (s := 153) (Aa U) (fun c153 => ?_) (fun c153 => ?_) | refine Cw (s := 153) (Aa U) (fun c153 => ?_) (fun c153 => ?_)
    ·refine Cm (y_ (A4 (T U) Ak) (y_ (Ad (T U)) (Af (Bl (Ae (Ab (y_ (Ac (T U)) (y_ (Bu (T U) Ak (by omega)) ?_ U) U))))) U) U) U U U U
     refine y_ (Ad (T U)) (Af ?_) U
     refine Bo ((i + 1, true)) ?_ ?_ ⟨(by first | exact Aa U | (refine Ai (Aa U) (vint ?_); omega) | (refine Ai (Aa U) ?_; simp; done) | (refine Ai (Aa U) ?_; exact by rw [htk2]) | (refine Ai (Aa U) ?_; exact by rw [hstk]) | (refine Ai (Aa U) ?_; exact by rw [hrw2])), (by first | exact Aa U | (refine Ai (Aa U) (vint ?_); omega) | (refine Ai (Aa U) ?_; simp; done) | (refine Ai (Aa U) ?_; exact by rw [htk2]) | (refine Ai (Aa U) ?_; exact by rw [hstk]) | (refine Ai (Aa U) ?_; exact by rw [hrw2])), trivial⟩ ⟨Aa U, Aa U, Aa U, Aa U, Aa U, Aa U, trivial⟩ ?_
     ·refine ⟨by omega, ?_⟩
      rw [any_take (by omega), ← Bool.or_assoc, ← hb, c153]; rfl
     ·first | omega | (simp only []; omega)
     ·exact sbt
    ·refine Bj (Ac (T U)) U (As U U (Aa U)) (y_ (A9 (T U) (T U)) (y_ (Ad (T U)) (Af (Bl (Ae (Ab (y_ (Ac (T U)) (y_ (Bu (T U) Ak (by omega)) ?_ U) U))))) U) U)
     refine y_ (Ad (T U)) (Af ?_) U
     refine Bo ((i + 1, decide (gd (gd S1 k).l i ∈ toInts E.pe.last))) ?_ ?_ ⟨(by first | exact Aa U | (refine Ai (Aa U) (vint ?_); omega) | (refine Ai (Aa U) ?_; simp; done) | (refine Ai (Aa U) ?_; exact by rw [htk2]) | (refine Ai (Aa U) ?_; exact by rw [hstk]) | (refine Ai (Aa U) ?_; exact by rw [hrw2])), (by first | exact Aa U | (refine Ai (Aa U) (vint ?_); omega) | (refine Ai (Aa U) ?_; simp; done) | (refine Ai (Aa U) ?_; exact by rw [htk2]) | (refine Ai (Aa U) ?_; exact by rw [hstk]) | (refine Ai (Aa U) ?_; exact by rw [hrw2])), trivial⟩ ⟨Aa U, Aa U, Aa U, Aa U, Aa U, Aa U, trivial⟩ ?_
     ·refine ⟨by omega, ?_⟩
      rw [any_take (by omega), ← Bool.or_assoc, ← hb, c153]; rfl
     ·first | omega | (simp only []; omega)
     ·exact sbt
   ·refine B1 (Ay (A0 (A1 (Ae (Ab (y_ (Be (T U) C5) (y_ (Aj (T U) isAgg27 (by first | exact c_o)) ?_ U) U))))))
    refine y_ (Ac (T U)) (e_ (Al (.cons (T U) .nil) (bs27_1_0 _)) ?_ U) U
    rintro _ _ ⟨n159, rfl, rfl⟩
    refine e_ (Ch (b) (by' := 1) (enc := encB1) (l := acc) (by repeat (first | exact LocL.h | apply LocL.t | apply LocL.a)) (T U) (T U) runUnderlying27 runUnderlying27 sizeOf4 typeInfo4 U zeroValue4 U (fun _ => rfl) U hda (by decide) (by omega)) ?_ U
    rintro _ _ ⟨da', rfl, hoka, rfl⟩
    refine y_ (Be (T U) C5) ?_ U
    first | refine A7 (Av (T U) (T U) sizeOf27) U Ah ?_ | refine A7 (B6 (T U) (T U) U sizeOf27) U Ah ?_ | refine A7 (B0 (T U) (T U) U sizeOf27) U Ah ?_
    rintro _ _ ⟨rfl, rfl⟩
    refine Af (Bl (Ae (Ab (y_ (Ac (T U)) (y_ (Bu (T U) Ak (by omega)) ?_ U) U))))
    refine y_ (Ad (T U)) (Af ?_) U
    have ha2 : a = nm.length + 1 := by omega
    subst ha2
    have hb2 : b = acR E.pe k (gd S k).l := by rw [hb, List.take_of_length_le (by omega), hS1k]; rfl
    refine Bo ((k + 1, S1, rows ++ [⟨slQ d9, slC d9, (rwR t1.pl E.pe.first nm (gd S k).l (S.map RowI.l) (nm.length + 1)).2⟩], acc ++ [b], d7, dr', da', Ma ++ slH d9 ((rwR t1.pl E.pe.first nm (gd S k).l (S.map RowI.l) (nm.length + 1)).2.flatMap encU) 3)) ?_ ?_ ⟨(by first | exact Aa U | (refine Ai (Aa U) (vint ?_); omega) | (refine Ai (Aa U) ?_; simp; done) | (refine Ai (Aa U) ?_; exact by rw [htk2]) | (refine Ai (Aa U) ?_; exact by rw [hstk]) | (refine Ai (Aa U) ?_; exact by rw [hrw2])), (by first | exact Aa U | (refine Ai (Aa U) (vint ?_); omega) | (refine Ai (Aa U) ?_; simp; done) | (refine Ai (Aa U) ?_; exact by rw [htk2]) | (refine Ai (Aa U) ?_; exact by rw [hstk]) | (refine Ai (Aa U) ?_; exact by rw [hrw2])), trivial⟩ ⟨Aa U, Aa U, Aa U, Aa U, trivial⟩ ?_
    ·refine ⟨⟨by have := (rwR_len t1.pl E.pe.first nm (gd S k).l (S.map RowI.l) (nm.length + 1)).2; rw [← hSm] at this; simp at this; omega, hS12, by simp [hrl], by simp [hacl]⟩, ⟨hd7, by simpa using hokr, by simpa using hoka⟩, hS1.mono (by simp only [List.append_assoc]; exact (List.Sublist.refl _).append (List.sublist_append_right _ _)), ?_, ?_⟩
     ·exact fun x hx X => rowQ_push (fun r hr => hro r hr X) (by simp only [List.append_assoc]; exact hsub.append (List.sublist_append_right _ _)) (by simp only [List.append_assoc]; exact (Ba (w0 := w0) (enc := encU) (sz := 1) (e := 3) (X := X) (fun _ => rfl) hd9).mono (List.sublist_append_right _ _)) x hx
     ·have hlen : (rwR t1.pl E.pe.first nm (gd S k).l (S.map RowI.l) (nm.length + 1)).1.length ≤ 200 := by rw [← hSm]; simpa using hS12
      rw [← hgo, show 201 - k = (200 - k) + 1 by omega, rawGoR_succ, if_pos (by simp; omega), Cz (show k < S.length by omega), if_neg (by omega), show 201 - (k + 1) = 200 - k by omega, List.map_append, hSm, hb2]; rfl
    ·show 201 - (k + 1) < 201 - k; omega
    ·simp only [List.append_assoc, List.length_append, List.length_cons, List.length_nil, Nat.zero_add]; exact sbt
 ·refine B1 (Ay (A0 (A1 (Ae (Ag (Ab (y_ (Am (T U) isAgg29 sizeOf29 U (by first | exact Bh)) ?_ U)))))))
  first | refine A7 (Av (T U) (T U) sizeOf29) U Ah ?_
  rintro _ _ ⟨rfl, rfl⟩
  refine y_ (Ad Ak) (Af (Ae (A5 (A6 U (.cellA (Aa U) isAgg29 sizeOf29 U (by first | exact Bh) (.tmp (Aa U) .nil)) ?_)))) U
  have hsome : rawR e nm = some (rows.map RowQ.l, acc) := by rw [hraw, ← hgo, show 201 - k = (200 - k) + 1 by omega, rawGoR_succ, if_neg (by simp; omega)]
  exact ⟨_, ⟨⟨nm, rows, acc, q7, c7, slQ dr, slC dr, slQ da, slC da⟩, M ++ (slH dr (rows.flatMap encRQ) 42 ++ (slH da (acc.flatMap encB1) 4 ++ M7)), ⟨by rw [hsome]; rfl, fun X => ⟨(hA7 X (fun i x hi => by cases hi)).mono (by simp only [List.append_assoc]; exact sbt), ((Ba (w0 := w0) (enc := encRQ) (sz := 1) (e := 42) (X := X) (fun _ => rfl) hdr)).mono (by simp only [List.append_assoc]; exact sbt), ((Ba (w0 := w0) (enc := encB1) (sz := 1) (e := 4) (X := X) (fun _ => rfl) hda)).mono (by simp only [List.append_assoc]; exact sbt), fun r hr => (hro r hr X).mono (by simp only [List.append_assoc]; exact sbt)⟩, (fun r hr => by rw [hsome] at hr; cases hr; rfl), (fun h => by rw [hsome] at h; cases h)⟩, rfl⟩, by simp only [List.append_assoc]; exact sbt⟩
end Go.Proofs.YtkdolgnpkjihpaaGreatDoor
