/-
  A part of what LawF rests on: the logic, walks and plain laws. No condition.
-/
import Derived.Test.YtkdolgnpkjihpaaGreatDoorJF5
import Derived.Test.YtkdolgnpkjihpaaGreatDoorRows
import Derived.WalkKit
import Derived.ProofKit
import Derived.OpenShut
import Derived.Lib.SmallJoins
import Derived.Deep.SlicePairs
import Derived.Test.YtkdolgnpkjihpaaGreatDoorCards
import Derived.Test.YtkdolgnpkjihpaaGreatDoorTie
import Derived.Deep.DeepHandedRow
namespace Go.Proofs.YtkdolgnpkjihpaaGreatDoor
open _root_.Go.Proofs.Tryz
open Go.RowKit
set_option linter.unusedVariables false
set_option linter.unusedSimpArgs false
set_option linter.unusedSectionVars false
structure Vi where
 p : Pl
 q : Option Addr
 c : Nat
 l : List Nat
instance : Inhabited Vi := ⟨⟨(0, 0), none, 0, []⟩⟩
abbrev encVi (v : Vi) : List Value := [.int .i64 (v.p.1 : Int), .int .i64 (v.p.2 : Int), .slice v.q v.l.length v.c]
structure VR (vs : List Vi) (st : BS Nat) : Prop where
 len : vs.length = st.l.length
 at' : ∀ i, i < vs.length → (gd vs i).p = gd st.l i ∧ (gd vs i).l = pth st.w i
theorem VR.mem {vs : List Vi} {st : BS Nat} (h : VR vs st) (p : Pl) : p ∈ st.l ↔ ∃ j, j < vs.length ∧ (gd vs j).p = p := by
 constructor
 ·intro hp
  obtain ⟨j, hj, e⟩ := memPl hp
  exact ⟨j, by rw [h.len]; exact hj, by rw [(h.at' j (by rw [h.len]; exact hj)).1]; exact e⟩
 ·rintro ⟨j, hj, e⟩
  rw [← e, (h.at' j hj).1]
  exact Bg (by rw [← h.len]; exact hj)
theorem VR.start (p : Pl) : VR [⟨p, none, 0, []⟩] ⟨[p], [(-1, default)]⟩ := ⟨rfl, fun i hi => by
 simp at hi; subst hi
 exact ⟨rfl, rfl⟩⟩
theorem VR.old {Pd : Pl → Prop} {k k' : Nat} {st : BS Nat} {vs : List Vi} (h : VR vs st) {x : Pl × Nat} (hx : x.1 ∈ st.l) : VR vs (visF k st x) := by
 unfold visF; rw [if_pos hx]; exact h
theorem VR.new {Pd : Pl → Prop} {k k' : Nat} {st : BS Nat} {vs : List Vi} (h : VR vs st) (hb : BSok Pd k' st) (hk : k < st.l.length) {x : Pl × Nat} (hx : x.1 ∉ st.l) (q : Option Addr) (c : Nat) : VR (vs ++ [⟨x.1, q, c, (gd vs k).l ++ [x.2]⟩]) (visF k st x) := by
 have hw := hb.len
 have hl := h.len
 have hback : ∀ i, i < (st.w ++ [((k : Int), x.2)]).length → -1 ≤ (gd (st.w ++ [((k : Int), x.2)]) i).1 ∧ (gd (st.w ++ [((k : Int), x.2)]) i).1 < i := fun i hi => by
  by_cases e : i = st.w.length
  ·subst e; rw [C0]; simp only []; omega
  ·have hi' : i < st.w.length := by simp at hi; omega
   rw [Cp hi']; exact hb.back i hi'
 unfold visF; rw [if_neg hx]
 refine ⟨by simp [hl], fun i hi => ?_⟩
 by_cases e : i = vs.length
 ·subst e
  rw [C0]
  simp only []
  have e1 : gd (st.l ++ [x.1]) vs.length = x.1 := by rw [hl]; exact C0
  refine ⟨e1.symm, ?_⟩
  have e2 : gd (st.w ++ [((k : Int), x.2)]) vs.length = ((k : Int), x.2) := by rw [hl, ← hw]; exact C0
  rw [pth_snoc hback (by simp; omega) (by rw [e2]; simp only []; omega), e2]
  simp only [Int.toNat_natCast]
  rw [pth_app hb.back _ (by omega), (h.at' k (by omega)).2]
 ·have hi' : i < vs.length := by simp at hi; omega
  rw [Cp hi']
  simp only []
  rw [Cp (by omega), pth_app hb.back _ (by omega)]
  exact h.at' i hi'
theorem pth_len {σ : Type} [Inhabited σ] (w : List (Int × σ)) (i : Nat) : (pth w i).length ≤ i + 1 := by
 unfold pth; rw [List.length_reverse]; exact backF_len _ _ _
section
variable {σ : Type} [Inhabited σ]
theorem visF_ext (k : Nat) (st : BS σ) (x : Pl × σ) : (∃ a, (visF k st x).l = st.l ++ a) ∧ ∃ b, (visF k st x).w = st.w ++ b := by
 unfold visF; split
 ·exact ⟨⟨[], by simp⟩, ⟨[], by simp⟩⟩
 ·exact ⟨⟨_, rfl⟩, ⟨_, rfl⟩⟩
theorem visAll_ext (k : Nat) : ∀ (ts : List (Pl × σ)) (st : BS σ), (∃ a, (visAll k st ts).l = st.l ++ a) ∧ ∃ b, (visAll k st ts).w = st.w ++ b
 | [], st => ⟨⟨[], by simp [visAll]⟩, ⟨[], by simp [visAll]⟩⟩
 | x :: ts, st => by
  obtain ⟨⟨a, h1⟩, b, h2⟩ := visF_ext k st x
  obtain ⟨⟨a', h3⟩, b', h4⟩ := visAll_ext k ts (visF k st x)
  rw [show visAll k st (x :: ts) = visAll k (visF k st x) ts from rfl, h3, h4, h1, h2]
  exact ⟨⟨a ++ a', by simp⟩, ⟨b ++ b', by simp⟩⟩
theorem goF_ext (ts : Pl → List (Pl × σ)) (fnd : Pl → Bool) : ∀ (f k : Nat) (st : BS σ), (∃ a, (goF ts fnd f k st).2.l = st.l ++ a) ∧ ∃ b, (goF ts fnd f k st).2.w = st.w ++ b
 | 0, k, st => ⟨⟨[], by simp [goF]⟩, ⟨[], by simp [goF]⟩⟩
 | f + 1, k, st => by
  rw [Da]
  split
  ·split
   ·exact ⟨⟨[], by simp⟩, ⟨[], by simp⟩⟩
   ·obtain ⟨⟨a, h1⟩, b, h2⟩ := visAll_ext k (ts (gd st.l k)) st
    obtain ⟨⟨a', h3⟩, b', h4⟩ := goF_ext ts fnd f (k + 1) (visAll k st (ts (gd st.l k)))
    rw [h3, h4, h1, h2]
    exact ⟨⟨a ++ a', by simp⟩, ⟨b ++ b', by simp⟩⟩
  ·exact ⟨⟨[], by simp⟩, ⟨[], by simp⟩⟩
theorem go_full (ts : Pl → List (Pl × σ)) (fnd : Pl → Bool) : ∀ (f k : Nat) (st : BS σ),
  (∀ k', (goF ts fnd f k st).1 = some k' → (∃ a, (goF ts (fun _ => false) f k st).2.l = (goF ts fnd f k st).2.l ++ a) ∧ ∃ b, (goF ts (fun _ => false) f k st).2.w = (goF ts fnd f k st).2.w ++ b) ∧
  ((goF ts fnd f k st).1 = none → goF ts (fun _ => false) f k st = goF ts fnd f k st)
 | 0, k, st => ⟨(fun k' h => by cases h), fun _ => rfl⟩
 | f + 1, k, st => by
  have ih := go_full ts fnd f (k + 1) (visAll k st (ts (gd st.l k)))
  rw [Da, Da]
  simp only [Bool.false_eq_true, if_false]
  split
  ·split
   ·refine ⟨fun k' h => ?_, fun h => by cases h⟩
    obtain ⟨⟨a, h1⟩, b, h2⟩ := visAll_ext k (ts (gd st.l k)) st
    obtain ⟨⟨a', h3⟩, b', h4⟩ := goF_ext ts (fun _ => false) f (k + 1) (visAll k st (ts (gd st.l k)))
    rw [h3, h4, h1, h2]
    exact ⟨⟨a ++ a', by simp⟩, ⟨b ++ b', by simp⟩⟩
   ·exact ih
  ·exact ⟨(fun k' h => by cases h), fun _ => rfl⟩
end
def allSt (n : Nn) (f : Flr) (m : PM) (x : Nat) : BS Nat := (goF (movesF n f m) (fun _ => false) (NPl n m + 1) 0 ⟨[p0F n m x], [(-1, default)]⟩).2
theorem find_vis {n : Nn} (hok : NnOk n) {f : Flr} {m : PM} (hp : PMok m) {x to : Nat} (hx : x < n.nodes.length) (hf : ¬ f.node = x) :
  (∀ k, k < (allSt n f m x).l.length → (∀ j, j < k → fndF to m (gd (allSt n f m x).l j) = false) → fndF to m (gd (allSt n f m x).l k) = true → findF n f m x to = (pth (allSt n f m x).w k, 0)) ∧
  ((∀ j, j < (allSt n f m x).l.length → fndF to m (gd (allSt n f m x).l j) = false) → findF n f m x to = ([], 18)) := by
 have hg := goF_sem0 (rk := id) (moves_okE hok hp) (fun p _ => moves_pw n f m p) (pl_few n m) (fndF to m) (p0_ok hp hx) (N := NPl n m)
 have hF := go_full (movesF n f m) (fndF to m) (NPl n m + 1) 0 ⟨[p0F n m x], [(-1, default)]⟩
 unfold findF srF
 rw [if_neg hf]
 unfold allSt
 generalize goF (movesF n f m) (fun _ => false) (NPl n m + 1) 0 ⟨[p0F n m x], [(-1, default)]⟩ = F at *
 generalize goF (movesF n f m) (fndF to m) (NPl n m + 1) 0 ⟨[p0F n m x], [(-1, default)]⟩ = r at *
 obtain ⟨k0, st⟩ := r
 cases k0 with
 | none =>
  have e := hF.2 E
  obtain ⟨_, h2⟩ := hg.none' rfl
  subst e
  simp only [] at h2 ⊢
  refine ⟨fun k hk _ ht => ?_, fun _ => by simp⟩
  rw [h2 k hk] at ht; cases ht
 | some k0 =>
  obtain ⟨⟨a, ha⟩, b, hb⟩ := hF.1 k0 rfl
  obtain ⟨h1, h2, h3, h4⟩ := hg.some' k0 rfl
  simp only [] at ha hb h1 h2 h3 h4 ⊢
  have hgl : ∀ j, j < st.l.length → gd F.2.l j = gd st.l j := fun j hj => by rw [ha, Cp hj]
  refine ⟨fun k hk hj ht => ?_, fun hall => ?_⟩
  ·have e : k = k0 := by
    rcases Nat.lt_trichotomy k k0 with h | h | h
    ·have := h4 k h
     rw [hgl k (by omega), this] at ht; cases ht
    ·exact h
    ·have := hj k0 h
     rw [hgl k0 h2, h3] at this; cases this
   subst e
   simp only [if_true]
   rw [hb, pth_app h1.back _ (by rw [h1.len]; exact h2)]
   rfl
  ·have := hall k0 (by rw [ha]; simp; omega)
   rw [hgl k0 h2, h3] at this; cases this
theorem all_ok {n : Nn} (hok : NnOk n) {f : Flr} {m : PM} (hp : PMok m) {x : Nat} (hx : x < n.nodes.length) : (allSt n f m x).l = metF n f m x := by
 unfold allSt metF srF
 have h := srF_all (movesF n f m) (NPl n m) (p0F n m x)
 unfold srF at h
 generalize goF (movesF n f m) (fun _ => false) (NPl n m + 1) 0 ⟨[p0F n m x], [(-1, default)]⟩ = r at *
 obtain ⟨k, st⟩ := r
 cases k with
 | none => rfl
 | some k => cases h
def insP (p : Pl) : List Pl → List Pl
 | [] => [p]
 | x :: l => if plLt x p then x :: insP p l else p :: x :: l
theorem insP_at {p : Pl} : ∀ {l : List Pl} {k : Nat}, k ≤ l.length → (∀ j, j < k → plLt (gd l j) p) → (k < l.length → ¬ plLt (gd l k) p) → insP p l = l.take k ++ [p] ++ l.drop k
 | [], 0, _, _, _ => rfl
 | x :: l, 0, _, _, h => by
  have h : ¬ plLt x p := h (by simp)
  unfold insP; rw [if_neg h]; rfl
 | x :: l, k + 1, h, hj, hk => by
  have h0 : plLt x p := hj 0 (by omega)
  unfold insP
  rw [if_pos h0, insP_at (k := k) (by simpa using h) (fun j hj2 => hj (j + 1) (by omega)) fun h2 => hk (by simpa using h2)]
  simp
theorem insP_mem {p y : Pl} : ∀ {l : List Pl}, y ∈ insP p l ↔ y = p ∨ y ∈ l
 | [] => by simp [insP]
 | x :: l => by
  unfold insP; split
  ·simp only [List.mem_cons, insP_mem (l := l)]
   constructor
   ·rintro (h | h | h) <;> simp [h]
   ·rintro (h | h | h) <;> simp [h]
  ·simp
theorem insP_len {p : Pl} : ∀ l : List Pl, (insP p l).length = l.length + 1
 | [] => rfl
 | x :: l => by unfold insP; split <;> simp [insP_len l]
theorem plLt_tri {a b : Pl} (h : ¬ plLt a b) : a = b ∨ plLt b a := by
 unfold plLt at *
 by_cases e : a.1 = b.1 ∧ a.2 = b.2
 ·exact .inl (Prod.ext e.1 e.2)
 ·right; omega
theorem plLt_trans {a b c : Pl} (h1 : plLt a b) (h2 : plLt b c) : plLt a c := by unfold plLt at *; omega
theorem insP_pw {p : Pl} : ∀ {l : List Pl}, p ∉ l → l.Pairwise plLt → (insP p l).Pairwise plLt
 | [], _, _ => List.pairwise_singleton ..
 | x :: l, hn, h => by
  have h' := List.pairwise_cons.1 h
  unfold insP; split
  ·rename_i hlt
   refine List.pairwise_cons.2 ⟨fun y hy => ?_, insP_pw (fun hm => hn (by simp [hm])) h'.2⟩
   rcases insP_mem.1 hy with rfl | hy
   ·exact hlt
   ·exact h'.1 y hy
  ·rename_i hlt
   have hpx : plLt p x := (plLt_tri hlt).resolve_left fun e => hn (by simp [e])
   refine List.pairwise_cons.2 ⟨fun y hy => ?_, h⟩
   rcases List.mem_cons.1 hy with rfl | hy
   ·exact hpx
   ·exact plLt_trans hpx (h'.1 y hy)
def insAll (l : List Pl) : List Pl := l.foldl (fun o p => insP p o) []
theorem insAll_take {l : List Pl} {k : Nat} (h : k < l.length) : insAll (l.take (k + 1)) = insP (gd l k) (insAll (l.take k)) := by
 unfold insAll; rw [take_gd h]; simp
theorem insAll_ok : ∀ {l : List Pl}, l.Nodup → (insAll l).Pairwise plLt ∧ (∀ y, y ∈ insAll l ↔ y ∈ l) ∧ (insAll l).length = l.length := by
 intro l
 induction l using snoc_ind with
 | h0 => intro _; exact ⟨.nil, fun y => Iff.rfl, rfl⟩
 | h1 l a ih =>
  intro h
  have h2 := List.nodup_append.1 h
  obtain ⟨h3, h4, h5⟩ := ih h2.1
  have e : insAll (l ++ [a]) = insP a (insAll l) := by simp [insAll]
  rw [e]
  refine ⟨insP_pw (fun hm => h2.2.2 a ((h4 a).1 hm) a (by simp) E) h3, fun y => ?_, by rw [insP_len, h5]; simp⟩
  rw [insP_mem, h4]; simp [or_comm]
theorem pl_ext : ∀ {l l' : List Pl}, l.Pairwise plLt → l'.Pairwise plLt → (∀ x, x ∈ l ↔ x ∈ l') → l = l'
 | [], [], _, _, _ => rfl
 | [], y :: l', _, _, h => absurd ((h y).2 (by simp)) (by simp)
 | x :: l, [], _, _, h => absurd ((h x).1 (by simp)) (by simp)
 | x :: l, y :: l', h1, h2, h => by
  have p1 := List.pairwise_cons.1 h1
  have p2 := List.pairwise_cons.1 h2
  have hirr : ∀ a : Pl, ¬ plLt a a := fun a => by unfold plLt; omega
  have e : x = y := by
   rcases List.mem_cons.1 ((h x).1 (by simp)) with e | e
   ·exact e
   ·rcases List.mem_cons.1 ((h y).2 (by simp)) with e2 | e2
    ·exact e2.symm
    ·exact absurd (plLt_trans (p1.1 y e2) (p2.1 x e)) (hirr _)
  subst e
  rw [pl_ext p1.2 p2.2 fun z => ?_]
  constructor
  ·intro hz
   rcases List.mem_cons.1 ((h z).1 (List.mem_cons_of_mem _ hz)) with e | e
   ·subst e; exact absurd (p1.1 z hz) (hirr _)
   ·exact e
  ·intro hz
   rcases List.mem_cons.1 ((h z).2 (List.mem_cons_of_mem _ hz)) with e | e
   ·subst e; exact absurd (p2.1 z hz) (hirr _)
   ·exact e
theorem reach_eq {n : Nn} (hok : NnOk n) {f : Flr} {m : PM} (hp : PMok m) {x : Nat} (hx : x < n.nodes.length) {ks : List Pl} (h : Rch n f m x ks) : ks = insAll (if f.node = x then [] else metF n f m x) := by
 have hm := met_nd hok hp hx (f := f)
 split
 ·rename_i hf
  rw [show insAll [] = [] from rfl]
  refine pl_ext h.srt .nil fun q => ?_
  rw [h.mem q]; simp [hf]
 ·rename_i hf
  obtain ⟨h1, h2, _⟩ := insAll_ok hm.1
  refine pl_ext h.srt h1 fun q => ?_
  rw [h.mem q, h2, met_iff hok hp hx]; simp [hf]
end Go.Proofs.YtkdolgnpkjihpaaGreatDoor
namespace Go.Proofs.YtkdolgnpkjihpaaGreatDoor
open _root_.Go.Proofs.Tryz
open Go.RowKit
set_option linter.unusedVariables false
set_option linter.unusedSimpArgs false
theorem bd135_0 (a0 : Int) (a1 : Int) (w : World) : (Instr.build 135 #[(0, .agg #[.int .i64 a0, .int .i64 a1])]).run Tryz.prog w = .ok (.agg #[.int .i64 a0, .int .i64 a1, .slice none 0 0]) w := by kernel_rfl
theorem bd135_0_1 (a0 : Int) (a1 : Int) (a2 : Option Addr) (a2n a2c : Nat) (w : World) : (Instr.build 135 #[(0, .agg #[.int .i64 a0, .int .i64 a1]), (1, .slice a2 a2n a2c)]).run Tryz.prog w = .ok (.agg #[.int .i64 a0, .int .i64 a1, .slice a2 a2n a2c]) w := by kernel_rfl
theorem bs132_1_0 (a0 : Int) (a1 : Int) (a2 : Option Addr) (a2n a2c : Nat) (w : World) : (Instr.buildSlice 132 1 #[(0, .agg #[.int .i64 a0, .int .i64 a1, .slice a2 a2n a2c])]).run Tryz.prog w = .ok (.slice (some ⟨w.heap.size, 0, none⟩) 1 1) (w.alloc (Cl [.int .i64 a0, .int .i64 a1, .slice a2 a2n a2c] 135)) := by kernel_rfl
theorem bs42_0_z  (w : World) : (Instr.buildSlice 42 0 #[]).run Tryz.prog w = .ok (.slice (some ⟨w.heap.size, 0, none⟩) 0 0) (w.alloc (Cl [] 3)) := by kernel_rfl
theorem fa135_0 (b o : Nat) (w : World) : (Instr.fieldAt 135 (.pointer (some ⟨b, o, none⟩)) 0).run Tryz.prog w = .ok (.pointer (some ⟨b, o, none⟩)) w := by kernel_rfl
theorem fa135_1 (b o : Nat) (w : World) : (Instr.fieldAt 135 (.pointer (some ⟨b, o, none⟩)) 1).run Tryz.prog w = .ok (.pointer (some ⟨b, o + 2, none⟩)) w := by kernel_rfl
theorem eff_appEmp {P : Program} {w0 : World} {L : Fm} {ty : TypeId} {H : List (Nat × Obj)} {x y : Operand} {t t2 e : TypeId} {α : Type} {enc : α → List Value} (l2 : List α) {R : List (Nat × Obj)} {F : List (Nat × Obj) → List (Nat × Obj)} {n : Nat} {q : Option Addr} {k c sz by' : Nat} {z : Value} {i0 : TypeInfo} {e2 : TypeId} (hk : k = l2.length) (hl : LocL H [(n, Cl [] e)] R F) (hx : Ev L x (.slice (some ⟨n, 0, none⟩) 0 0)) (hy : Ev L y (.slice q k c))
  (ht : ∀ w, (underlying t).run P w = .ok (.slice e) w) (ht2 : ∀ w, (underlying t2).run P w = .ok (.slice e2) w) (hz : ∀ w, (sizeOf e).run P w = .ok sz w) (hi : ∀ w, (typeInfo e).run P w = .ok i0 w) (hby : i0.bytes = by') (hzv : ∀ w, (zeroValue e).run P w = .ok z w) (hzs : z.cells.size = sz)
  (he : ∀ u, (enc u).length = sz) (h1 : ∀ u, (enc u).all oneB = true) (hb0 : by' ≠ 0) (hb : (2 * l2.length + 600) * by' ≤ 281474976710656) (hA : Arr w0 H q sz enc l2) :
  Eff P w0 (.call { callee := .builtin .append, args := #[x, y], argTypes := #[t, t2] }) ty L H (fun u H' => ∃ d', u = slV d' l2.length ∧ SlOk d' l2.length sz ∧ H' = F (slH d' (l2.flatMap enc) e)) := by
 have h := eff_appTo (P := P) (w0 := w0) (L := L) (ty := ty) (H := H) (x := x) (y := y) (t := t) (t2 := t2) (e := e) (enc := enc) l2 (d := .blk n 0 []) (l := []) (R := R) (F := F) hk hl hx hy ht ht2 hz hi hby hzv hzs he h1 ⟨Nat.le_refl _, by simp⟩ hb0 (by simpa using hb) hA
 simpa using h
theorem locH1 {e : Nat × Obj} {X : List (Nat × Obj)} : LocL (e :: X) [e] X (fun M' => M' ++ X) := show LocL ([e] ++ X) _ _ _ from .h
structure VOk (w0 : World) (H M : List (Nat × Obj)) (vs : List Vi) (d : Sl) (st : BS Nat) : Prop where
 ok : SlOk d vs.length 3
 vr : VR vs st
 pa : ∀ u ∈ vs, Arr w0 (M ++ H) u.q 1 encU u.l
theorem VOk.path {w0 : World} {H M : List (Nat × Obj)} {vs : List Vi} {d : Sl} {st : BS Nat} (h : VOk w0 H M vs d st) {i : Nat} (hi : i < vs.length) : Arr w0 (M ++ H) (gd vs i).q 1 encU (gd vs i).l := h.pa _ (Bg hi)
theorem VOk.arr {w0 : World} {H M X : List (Nat × Obj)} {vs : List Vi} {d : Sl} {st : BS Nat} (h : VOk w0 H M vs d st) : Arr w0 (slH d (vs.flatMap encVi) 135 ++ X) (slQ d) 3 encVi vs := Bq (fun _ => rfl) h.ok
theorem VOk.old {w0 : World} {H M : List (Nat × Obj)} {vs : List Vi} {d : Sl} {st : BS Nat} (h : VOk w0 H M vs d st) {k : Nat} {x : Pl × Nat} (hx : x.1 ∈ st.l) : VOk w0 H M vs d (visF k st x) := ⟨h.ok, h.vr.old (Pd := fun _ => True) (k' := 0) hx, h.pa⟩
theorem VOk.new {w0 : World} {H M M' : List (Nat × Obj)} {vs : List Vi} {d d' : Sl} {st : BS Nat} (h : VOk w0 H M vs d st) {Pd : Pl → Prop} {k k' : Nat} (hb : BSok Pd k' st) (hk : k < st.l.length) {x : Pl × Nat} (hx : x.1 ∉ st.l) {q : Option Addr} {c : Nat} (hd : SlOk d' (vs ++ [(⟨x.1, q, c, (gd vs k).l ++ [x.2]⟩ : Vi)]).length 3) (hs : (M ++ H).Sublist (M' ++ H)) (hA : Arr w0 (M' ++ H) q 1 encU ((gd vs k).l ++ [x.2])) : VOk w0 H M' (vs ++ [(⟨x.1, q, c, (gd vs k).l ++ [x.2]⟩ : Vi)]) d' (visF k st x) :=
 ⟨hd, h.vr.new (Pd := Pd) (k' := k') hb hk hx q c, fun u hu => by
  rcases List.mem_append.1 hu with hu | hu
  ·exact (h.pa u hu).mono hs
  ·simp at hu; subst hu; exact hA⟩
theorem movK_mem {n : Nn} {f : Flr} {m : PM} {p : Pl} {i : Nat} : ∀ y ∈ movK n f m p i, y ∈ movesF n f m p := fun y hy => by
 unfold movK at hy
 unfold movesF
 obtain ⟨l, hl, rfl⟩ := List.mem_map.1 hy
 have h2 := List.mem_filter.1 hl
 exact List.mem_map.2 ⟨l, List.mem_filter.2 ⟨List.mem_of_mem_take h2.1, h2.2⟩, rfl⟩
theorem visAll_snoc {σ : Type} (k : Nat) (st : BS σ) (ts : List (Pl × σ)) (x : Pl × σ) : visAll k st (ts ++ [x]) = visF k (visAll k st ts) x := by simp [visAll]
theorem movesF_lab {n : Nn} {f : Flr} {m : PM} {p : Pl} {l : Nat} (h : l ∈ outF n p.1) : l < n.links.length := ((mem_outK n p.1 l _).1 h).1
theorem visits_s {w0 : World} {H : List (Nat × Obj)} (n : Nn) (f : Flr) (m : Mc) (he : Env w0 H n f m) (ho : EnvOk n f m) (x : Nat) (hx : x < n.nodes.length) :
  FSpec Tryz.prog w0 82 #[.agg (encNn n).toArray, .agg (encFl f).toArray, .agg (encMc m).toArray, .int .i64 (x : Int)] H (fun v H' => ∃ (d : Sl) (vs : List Vi) (M : List (Nat × Obj)), (v = slV d vs.length ∧ SlOk d vs.length 3 ∧ (∀ u ∈ vs, Arr w0 (M ++ H) u.q 1 encU u.l) ∧ (f.node = x → vs = []) ∧ (¬ f.node = x → VR vs (allSt n f m.pl x))) ∧ H' = M ++ (slH d (vs.flatMap encVi) 135 ++ H)) := by
 refine A9 Tryz.func82 E ntmps82 E ?_
 have hp0 := p0_ok (n := n) (m := m.pl) ho.om hx
 have hml : m.rows.length = m.pl.next.length := by simp [Mc.pl]
 have hNP := NPl_le ho.on ho.om
 have hsome := ho.om.some'
 refine Ag (Ab (e_ (Ba (T E) cs_) ?_ E))
 rintro _ _ ⟨n4, rfl, rfl⟩
 refine e_ (Ba (T E) cs_) ?_ E
 rintro _ _ ⟨n5, rfl, rfl⟩
 refine e_ (Ba (T E) cs_) ?_ E
 rintro _ _ ⟨n6, rfl, rfl⟩
 refine y_ (Ad Aj) (Af (Ae (Ag (Ab (y_ (Ad Aj) (Af (Ae (Ag (Ab (y_ (Am (T E) isAgg58 sizeOf58 E (by first | exact Bb | exact Dq (he.n.nodes.f0 (i := x) hx E))) ?_ E))))) E))))) E
 refine y_ (Ac (T E)) (y_ (Av (.cons (T E) (.cons (T E) .nil)) call85 (fun H' hs => down_s f x)) (y_ (Ad (T E)) (Af (Ae (Ag (Ag (Ab (y_ (Ac (T E)) (Af (Ae ?_)) E)))))) E) E) E
 first | refine Ar (Aa E) (fun c22 => ?_) (fun c22 => ?_) | refine A6 (Aa E) (fun c22 => ?_) (fun c22 => ?_)
 ·refine Ag (Ab (y_ (Ac (T E)) (y_ (Ad (T E)) (Af (Ae (Ay (Al (Az E (.tmp (Aa E) .nil) ?_))))) E) E))
  exact ⟨_, ⟨.nil, [], [], ⟨rfl, rfl, fun u hu => (by cases hu), fun _ => rfl, fun h => absurd c22 h⟩, rfl⟩, sbt⟩
 ·refine A2 (Ae (Ag (Ch 13 [(0, true), (1, true), (2, true), (3, true), (4, true), (5, true), (6, true), (7, true), (8, true), (9, true), (10, true), (11, true), (12, false)] _ mixd (by kernel_rfl) sb0 ?_)))
  refine o_y E (Ac (T E)) (o_y E (Ac (T E)) (o_y E (Am (T E) isAgg29 sizeOf29 E (by first | exact Bb | exact Dq (he.n.nodes.f0 (i := x) hx E))) ?_ E Ah) E Ah) E Ah
  refine o_y E (Bc (T E) C8) (o_y E (Ai (T E) isAgg52 (by first | exact c_o | exact c_m (he.n.nodes.f0 (i := x) hx E))) ?_ E Ah) E Ah
  refine o_y E (Ac (T E)) (o_y E (Be (T E) (T E) runUnderlying52 sizeOf138 (by omega) (by first | exact rfl | exact he.n.nodes.b (i := x) hx | exact (hv.arr (X := [])).b (i := k) (by omega) | exact (Bq (w0 := w0) (enc := encU) (sz := 1) (e := 3) (X := []) (fun _ => rfl) hd12).b (i := i) (by omega) | exact he.n.links.b (i := (gd (outF n (gd st.l k).1) i)) hlk | exact (hv2.arr (X := [])).b (i := k) (by omega) | exact (hv2.arr (X := [])).b (i := j) (by omega) | exact he.n.nodes.b (i := (gd n.links (gd (outF n (gd st.l k).1) i)).dst) hdst)) ?_ E Ah) E Ah
  refine o_y E (Bc (T E) Dw) (o_y E (Ai (T E) isAgg9 (by first | exact c_o | exact c_m (he.n.nodes.f0 (i := x) hx E))) ?_ E Ah) E Ah
  refine o_y E (Av (.cons (T E) (.cons Aj (.cons (T E) .nil))) call70 (fun H' hs => rstep_s m (he.m.mono (List.Sublist.trans sbt hs)) ho.sr ho.ln ho.om 0 (by omega) (nmF n x))) ?_ E Ah
  refine o_y E (B1 (.cons (T E) (.cons (T E) .nil)) (bd74_0_1 _ _)) (o_y E (B1 (.cons (T E) .nil) (bd135_0 _ _)) (o_e E (Ap (.cons (T E) .nil) (bs132_1_0 _ _ _ _ _)) ?_ E Ah) E Ah) E Ah
  rintro _ _ ⟨n36, rfl, rfl⟩
  refine ⟨sbt, (Bx E (e_ (Cz ((⟨p0F n m.pl x, none, 0, []⟩ : Vi)) (by' := 40) (d := .nil) (l := []) (enc := encVi) loc_nil (T E) (T E) runUnderlying132 runUnderlying132 sizeOf135 typeInfo135 E zeroValue135 E (fun _ => rfl) E E (by decide) (by simp only [List.length_nil]; omega)) ?_ E))⟩
  rintro _ _ ⟨d1, rfl, hd1, rfl⟩
  refine y_ (Ad (T E)) (Af (Ae (Bh [(4, _), (5, _), (6, _), (9, _)] ⟨Aa E, Aa E, Aa E, Aa E, trivial⟩ (Ag (Ag (Ab (y_ (Ad Aj) (Af (Ae (Aw ?_))) E))))))) E
  refine Cm (X := Nat × Sl × List Vi × List (Nat × Obj) × BS Nat) (V := fun ⟨k, d, vs, M, st⟩ => [(11, .int .i64 (k : Nat)), (9, slV d vs.length)]) (C := [(4, _), (5, _), (6, _)]) (G := fun ⟨k, d, vs, M, st⟩ => M ++ (slH d (vs.flatMap encVi) 135 ++ ((n6, Cl (encMc m) 29) :: (n5, Cl (encFl f) 58) :: (n4, Cl (encNn n) 56) :: H))) (φ := fun ⟨k, d, vs, M, st⟩ => (k ≤ vs.length ∧ VOk w0 H M vs d st) ∧ BSok (PlOk n m.pl) k st ∧ goF (movesF n f m.pl) (fun _ => false) (NPl n m.pl + 1) 0 ⟨[p0F n m.pl x], [(-1, default)]⟩ = goF (movesF n f m.pl) (fun _ => false) (NPl n m.pl + 1 - k) k st) (μ := fun ⟨k, d, vs, M, st⟩ => NPl n m.pl + 1 - k) (x0 := (0, d1, [⟨p0F n m.pl x, none, 0, []⟩], [], ⟨[p0F n m.pl x], [(-1, default)]⟩)) ?_ ⟨Aa rfl, Aa rfl, Aa rfl, trivial⟩ ⟨(by first | exact Aa rfl | (refine Ak (Aa rfl) (vint ?_); omega) | (refine Ak (Aa rfl) ?_; simp; done)), (by first | exact Aa rfl | (refine Ak (Aa rfl) (vint ?_); omega) | (refine Ak (Aa rfl) ?_; simp; done)), trivial⟩ (by simp only [List.nil_append]; exact sbt) ?_
  ·refine ⟨⟨Nat.zero_le _, hd1, .start _, fun u hu => ?_⟩, ⟨by simp, by simpa using hp0, rfl, fun i hi => ?_, Nat.zero_le _⟩, rfl⟩
   ·simp at hu; subst hu; exact fun i x hi => by cases hi
   ·simp at hi; subst hi; show -1 ≤ (-1 : Int) ∧ (-1 : Int) < ((0 : Nat) : Int); omega
  rintro ⟨k, d, vs, M, st⟩ ⟨⟨hk, hv⟩, hb, hgo⟩
  have hfw : st.l.length ≤ NPl n m.pl := pl_few n m.pl st.l hb.nd hb.ok
  have hvl := hv.vr.len
  refine Ag (Ag (Ab (y_ (Ac (T E)) (y_ (Ac (T E)) (y_ (Bp (T E) runUnderlying132) (y_ (Bu (T E) (T E)) (Af (Ae ?_)) E) E) E) E)))
  first | refine Ar (Aa E) (fun c41 => ?_) (fun c41 => ?_) | refine A6 (Aa E) (fun c41 => ?_) (fun c41 => ?_)
  ·have hkl : k < st.l.length := by rw [← hv.vr.len]; omega
   have hpk := hb.ok _ (Bg hkl)
   have hvk0 := (hv.vr.at' k (by omega)).1
   have hol : (outF n (gd st.l k).1).length ≤ 30 := Nat.le_trans (outK_len n (gd st.l k).1 n.links.length) ho.on.fewL
   refine A2 (Ae (Ag (Aw (Ag (Ch 7 [(0, true), (1, true), (2, true), (3, true), (4, true), (5, true), (6, true)] _ mixd (by kernel_rfl) sb0 ?_)))))
   refine o_y E (Am (T E) isAgg56 sizeOf56 E (by first | exact Bb | exact Dq (he.n.nodes.f0 (i := x) hx E))) ?_ E Ah
   refine o_y E (Ac (T E)) (o_y E (Ac (T E)) (o_y E (Be (T E) (T E) runUnderlying132 sizeOf135 (by omega) (by first | exact rfl | exact he.n.nodes.b (i := x) hx | exact (hv.arr (X := [])).b (i := k) (by omega) | exact (Bq (w0 := w0) (enc := encU) (sz := 1) (e := 3) (X := []) (fun _ => rfl) hd12).b (i := i) (by omega) | exact he.n.links.b (i := (gd (outF n (gd st.l k).1) i)) hlk | exact (hv2.arr (X := [])).b (i := k) (by omega) | exact (hv2.arr (X := [])).b (i := j) (by omega) | exact he.n.nodes.b (i := (gd n.links (gd (outF n (gd st.l k).1) i)).dst) hdst)) ?_ E Ah) E Ah) E Ah
   refine o_y E (Bc (T E) fa135_0) (o_y E (Bc (T E) Dm) (o_y E (Ai (T E) isAgg3 (by first | exact c_o | exact c_m (hv.arr.f0 (i := k) (by omega) E) | exact c_m (he.n.nodes.f0 (i := x) hx E))) ?_ E Ah) E Ah) E Ah
   refine Bx E (e_ (A1 (.cons (T E) (.cons (T E) .nil)) call95 (rout_s n (he.n.mono sbt) ho.on (gd vs k).p.1)) ?_ E)
   rintro _ _ ⟨d12, ⟨rfl, hd12⟩, rfl⟩
   rw [hvk0] at hd12 ⊢
   refine jl_perm (List.perm_append_comm_assoc _ _ _) (y_ (Ad (T E)) (Af (Ae (Ag (Ab (y_ (Ad Aj) (Af (Ae (Aw ?_))) E))))) E)
   refine Cm (X := Nat × Sl × List Vi × List (Nat × Obj)) (V := fun ⟨i, d2, vs2, M2⟩ => [(13, .int .i64 (i : Nat)), (9, slV d2 vs2.length)]) (C := [(4, _), (5, _), (6, _), (11, _), (12, _)]) (G := fun ⟨i, d2, vs2, M2⟩ => M2 ++ (slH d12 ((outF n (gd st.l k).1).flatMap encU) 3 ++ (slH d2 (vs2.flatMap encVi) 135 ++ ((n6, Cl (encMc m) 29) :: (n5, Cl (encFl f) 58) :: (n4, Cl (encNn n) 56) :: H)))) (φ := fun ⟨i, d2, vs2, M2⟩ => i ≤ (outF n (gd st.l k).1).length ∧ VOk w0 H M2 vs2 d2 (visAll k st (movK n f m.pl (gd st.l k) i))) (μ := fun ⟨i, d2, vs2, M2⟩ => (outF n (gd st.l k).1).length - i) (x0 := (0, d, vs, M)) ?_ ⟨Aa rfl, Aa rfl, Aa rfl, Aa rfl, Aa rfl, trivial⟩ ⟨(by first | exact Aa rfl | (refine Ak (Aa rfl) (vint ?_); omega) | (refine Ak (Aa rfl) ?_; simp; done)), (by first | exact Aa rfl | (refine Ak (Aa rfl) (vint ?_); omega) | (refine Ak (Aa rfl) ?_; simp; done)), trivial⟩ sb0 ?_
   ·exact ⟨Nat.zero_le _, hv⟩
   rintro ⟨i, d2, vs2, M2⟩ ⟨hi, hv2⟩
   obtain ⟨hbi, hbl⟩ := hb.visAll (k' := k) (movK n f m.pl (gd st.l k) i) hkl (fun y hy => moves_ok ho.on ho.om _ hpk y (movK_mem y hy))
   have hgk := (visAll_get (k := k) (i := k) (movK n f m.pl (gd st.l k) i) (st := st) hkl).1
   have hvl2 := hv2.vr.len
   have hfw2 : (visAll k st (movK n f m.pl (gd st.l k) i)).l.length ≤ NPl n m.pl := pl_few n m.pl _ hbi.nd hbi.ok
   have hvk : (gd vs2 k).p = gd st.l k := by rw [(hv2.vr.at' k (by omega)).1, hgk]
   have hvk1 := (hv2.vr.at' k (by omega)).2
   refine Ag (Ag (Ab (y_ (Ac (T E)) (y_ (Ac (T E)) (y_ (Bp (T E) runUnderlying42) (y_ (Bu (T E) (T E)) (Af (Ae ?_)) E) E) E) E)))
   first | refine Ar (Aa E) (fun c55 => ?_) (fun c55 => ?_) | refine A6 (Aa E) (fun c55 => ?_) (fun c55 => ?_)
   ·have hlk := movesF_lab (n := n) (f := f) (m := m.pl) (p := gd st.l k) (Bg (i := i) (by omega))
    have hdst := (ho.on.ends _ (Bg hlk)).2
    refine A2 (Ae (Ag (Aw (Ag (Ch 8 [(0, true), (1, true), (2, true), (3, true), (4, true), (5, true), (6, true), (7, true)] _ mixd (by kernel_rfl) sb0 ?_)))))
    refine o_y E (Am (T E) isAgg56 sizeOf56 E (by first | exact Bb | exact Dq (he.n.nodes.f0 (i := x) hx E))) ?_ E Ah
    refine o_y E (Am (T E) isAgg58 sizeOf58 E (by first | exact Bb | exact Dq (he.n.nodes.f0 (i := x) hx E))) ?_ E Ah
    refine o_y E (Ac (T E)) (o_y E (Ac (T E)) (o_y E (Be (T E) (T E) runUnderlying42 sizeOf3 (by omega) (by first | exact rfl | exact he.n.nodes.b (i := x) hx | exact (hv.arr (X := [])).b (i := k) (by omega) | exact (Bq (w0 := w0) (enc := encU) (sz := 1) (e := 3) (X := []) (fun _ => rfl) hd12).b (i := i) (by omega) | exact he.n.links.b (i := (gd (outF n (gd st.l k).1) i)) hlk | exact (hv2.arr (X := [])).b (i := k) (by omega) | exact (hv2.arr (X := [])).b (i := j) (by omega) | exact he.n.nodes.b (i := (gd n.links (gd (outF n (gd st.l k).1) i)).dst) hdst)) ?_ E Ah) E Ah) E Ah
    refine o_y E (Ai (T E) isAgg3 (by first | exact c_o | exact cell1 (((Bq (w0 := w0) (enc := encU) (sz := 1) (e := 3) (X := H) (fun _ => rfl) hd12).mono sbt).cs (i := i) (by omega)) | exact c_m (he.n.nodes.f0 (i := x) hx E))) ?_ E Ah
    refine o_y E (Av (.cons (T E) (.cons (T E) (.cons (T E) .nil))) call86 (fun H' hs => rup_s n (he.n.mono (List.Sublist.trans sbt hs)) f (he.f.mono (List.Sublist.trans sbt hs)) ho.fl (gd (outF n (gd st.l k).1) i) hlk)) (o_y E (Ad (T E)) (Bx E (Af (Ae (Ag (Ag (Ab (y_ (Ac (T E)) ?_ E))))))) E Ah) E Ah
    first | refine Ax (Ca (T E)) E Ah ?_ | refine Ax (Co (T E)) E Ah ?_
    refine Af (Ae ?_)
    first | refine Ar (Aa E) (fun c66 => ?_) (fun c66 => ?_) | refine A6 (Aa E) (fun c66 => ?_) (fun c66 => ?_)
    ·have hmy := movK_no (m := m.pl) (p := gd st.l k) (f := f) (n := n) (i := i) (by omega) (by simpa using c66)
     refine B4 (A0 (A3 (Ae (Ab (y_ (Ac (T E)) (y_ (Bt (T E) Aj (by omega)) ?_ E) E)))))
     refine y_ (Ad (T E)) (Af ?_) E
     refine Bn ((i + 1, d2, vs2, M2)) ?_ ?_ ⟨(by first | exact Aa E | (refine Ak (Aa E) (vint ?_); omega) | (refine Ak (Aa E) ?_; simp; done)), (by first | exact Aa E | (refine Ak (Aa E) (vint ?_); omega) | (refine Ak (Aa E) ?_; simp; done)), trivial⟩ ⟨Aa E, Aa E, Aa E, Aa E, Aa E, trivial⟩ ?_
     ·show i + 1 ≤ _ ∧ VOk w0 H _ _ _ (visAll k st (movK n f m.pl (gd st.l k) (i + 1)))
      rw [hmy]; exact ⟨by omega, hv2⟩
     ·first | omega | (simp only []; omega)
     ·first | (show ((slH dp (((gd vs2 k).l ++ [(gd (outF n (gd st.l k).1) i)]).flatMap encU) 3 ++ M2) ++ _).Sublist _; rw [List.append_assoc]; exact sbt) | exact sbt
    ·have hmy := movK_yes (m := m.pl) (p := gd st.l k) (f := f) (n := n) (i := i) (by omega) (by simpa using c66)
     refine A2 (Ae (Ag (Ch 10 [(0, true), (1, true), (2, true), (3, true), (4, true), (5, true), (6, true), (7, true), (8, true), (9, true)] _ mixd (by kernel_rfl) sb0 ?_)))
     refine o_y E (Bi (T E) C6) (o_y E (Ai (T E) isAgg53 (by first | exact c_o | exact c_m (he.n.nodes.f0 (i := x) hx E))) ?_ E Ah) E Ah
     refine o_y E (Ac (T E)) (o_y E (Ac (T E)) (o_y E (Be (T E) (T E) runUnderlying42 sizeOf3 (by omega) (by first | exact rfl | exact he.n.nodes.b (i := x) hx | exact (hv.arr (X := [])).b (i := k) (by omega) | exact (Bq (w0 := w0) (enc := encU) (sz := 1) (e := 3) (X := []) (fun _ => rfl) hd12).b (i := i) (by omega) | exact he.n.links.b (i := (gd (outF n (gd st.l k).1) i)) hlk | exact (hv2.arr (X := [])).b (i := k) (by omega) | exact (hv2.arr (X := [])).b (i := j) (by omega) | exact he.n.nodes.b (i := (gd n.links (gd (outF n (gd st.l k).1) i)).dst) hdst)) ?_ E Ah) E Ah) E Ah
     refine o_y E (Ai (T E) isAgg3 (by first | exact c_o | exact cell1 (((Bq (w0 := w0) (enc := encU) (sz := 1) (e := 3) (X := H) (fun _ => rfl) hd12).mono sbt).cs (i := i) (by omega)) | exact c_m (he.n.nodes.f0 (i := x) hx E))) ?_ E Ah
     refine o_y E (Be (T E) (T E) runUnderlying53 sizeOf71 (by omega) (by first | exact rfl | exact he.n.nodes.b (i := x) hx | exact (hv.arr (X := [])).b (i := k) (by omega) | exact (Bq (w0 := w0) (enc := encU) (sz := 1) (e := 3) (X := []) (fun _ => rfl) hd12).b (i := i) (by omega) | exact he.n.links.b (i := (gd (outF n (gd st.l k).1) i)) hlk | exact (hv2.arr (X := [])).b (i := k) (by omega) | exact (hv2.arr (X := [])).b (i := j) (by omega) | exact he.n.nodes.b (i := (gd n.links (gd (outF n (gd st.l k).1) i)).dst) hdst)) ?_ E Ah
     refine o_y E (Bi (T E) fa71_1) (o_y E (Ai (T E) isAgg3 (by first | exact c_o | exact c_m (he.n.links.f (i := (gd (outF n (gd st.l k).1) i)) hlk E) | exact c_m (he.n.nodes.f0 (i := x) hx E))) ?_ E Ah) E Ah
     refine o_y E (Ad (T E)) (Bx E (Af (Ae (Bh [(4, _), (5, _), (6, _), (9, _), (11, _), (12, _), (13, _), (15, _)] ⟨Aa E, Aa E, Aa E, Aa E, Aa E, Aa E, Aa E, Aa E, trivial⟩ (Ag (Ch 17 [(0, true), (1, true), (2, true), (3, true), (4, true), (5, true), (6, true), (7, true), (8, true), (9, true), (10, true), (11, true), (12, true), (13, true), (14, true), (15, true), (16, false)] _ mixd (by kernel_rfl) sb0 ?_)))))) E Ah
     refine o_y E (Ac (T E)) (o_y E (Am (T E) isAgg29 sizeOf29 E (by first | exact Bb | exact Dq (he.n.nodes.f0 (i := x) hx E))) ?_ E Ah) E Ah
     refine o_y E (Ac (T E)) (o_y E (Ac (T E)) (o_y E (Ck (T E) (T E) runUnderlying132 sizeOf135 (by omega) (by first | exact rfl | exact he.n.nodes.b (i := x) hx | exact (hv.arr (X := [])).b (i := k) (by omega) | exact (Bq (w0 := w0) (enc := encU) (sz := 1) (e := 3) (X := []) (fun _ => rfl) hd12).b (i := i) (by omega) | exact he.n.links.b (i := (gd (outF n (gd st.l k).1) i)) hlk | exact (hv2.arr (X := [])).b (i := k) (by omega) | exact (hv2.arr (X := [])).b (i := j) (by omega) | exact he.n.nodes.b (i := (gd n.links (gd (outF n (gd st.l k).1) i)).dst) hdst)) ?_ E Ah) E Ah) E Ah
     refine o_y E (Bc (T E) fa135_0) (o_y E (Bi (T E) Du) (o_y E (Ai (T E) isAgg3 (by first | exact c_o | exact cell_e (v' := .int .i64 ((gd st.l k).2 : Int)) (by rw [hvk]) (c_m ((hv2.arr (X := H)).f (i := k) (j := 1) (by omega) E)) | exact c_m (he.n.nodes.f0 (i := x) hx E))) ?_ E Ah) E Ah) E Ah
     refine o_y E (Bc (T E) C8) (o_y E (Ai (T E) isAgg52 (by first | exact c_o | exact c_m (he.n.nodes.f0 (i := x) hx E))) ?_ E Ah) E Ah
     refine o_y E (Ac (T E)) (o_y E (Be (T E) (T E) runUnderlying52 sizeOf138 (by omega) (by first | exact rfl | exact he.n.nodes.b (i := x) hx | exact (hv.arr (X := [])).b (i := k) (by omega) | exact (Bq (w0 := w0) (enc := encU) (sz := 1) (e := 3) (X := []) (fun _ => rfl) hd12).b (i := i) (by omega) | exact he.n.links.b (i := (gd (outF n (gd st.l k).1) i)) hlk | exact (hv2.arr (X := [])).b (i := k) (by omega) | exact (hv2.arr (X := [])).b (i := j) (by omega) | exact he.n.nodes.b (i := (gd n.links (gd (outF n (gd st.l k).1) i)).dst) hdst)) ?_ E Ah) E Ah
     refine o_y E (Bc (T E) Dw) (o_y E (Ai (T E) isAgg9 (by first | exact c_o | exact c_m (he.n.nodes.f0 (i := (gd n.links (gd (outF n (gd st.l k).1) i)).dst) hdst E) | exact c_m (he.n.nodes.f0 (i := x) hx E))) ?_ E Ah) E Ah
     refine o_y E (Av (.cons (T E) (.cons (T E) (.cons (T E) .nil))) call70 (fun H' hs => rstep_s m (he.m.mono (List.Sublist.trans sbt hs)) ho.sr ho.ln ho.om (gd st.l k).2 (by have := hpk.2; omega) (nmF n (gd n.links (gd (outF n (gd st.l k).1) i)).dst))) ?_ E Ah
     refine o_y E (B1 (.cons (T E) (.cons (T E) .nil)) (bd74_0_1 _ _)) (o_e E (A5 zeroValue74 cs_) ?_ E Ah) E Ah
     rintro _ _ ⟨n16, rfl, rfl⟩
     refine ⟨sbt, (Bx E ?_)⟩
     first | refine Bk (A7 (T E) (T E) sizeOf74) E Ah ?_
     rintro _ _ ⟨rfl, rfl⟩
     refine Af (Ae (Bh [(4, _), (5, _), (6, _), (9, _), (11, _), (12, _), (13, _), (16, _)] ⟨Aa E, Aa E, Aa E, Aa E, Aa E, Aa E, Aa E, Aa E, trivial⟩ (Ag (Ab (y_ (Ad Aj) (Af (Ae (Ag (Ag (Ab (y_ (Ad Aj) (Af (Ae (Aw ?_))) E)))))) E)))))
     refine Cc (X := Nat × Bool) (V := fun ⟨j, kn⟩ => [(18, .int .i64 (j : Nat)), (17, .bool kn)]) (C := [(4, _), (5, _), (6, _), (9, _), (11, _), (12, _), (13, _), (16, _)]) (φ := fun ⟨j, kn⟩ => j ≤ vs2.length ∧ (kn = true ↔ ∃ j', j' < j ∧ (gd vs2 j').p = (mvF n m.pl (gd st.l k).2 (gd (outF n (gd st.l k).1) i)).1)) (μ := fun ⟨j, kn⟩ => vs2.length - j) (x0 := (0, false)) ?_ ⟨Aa rfl, Aa rfl, Aa rfl, Aa rfl, Aa rfl, Aa rfl, Aa rfl, Aa rfl, trivial⟩ ⟨(by first | exact Aa rfl | (refine Ak (Aa rfl) (vint ?_); omega) | (refine Ak (Aa rfl) ?_; simp; done)), (by first | exact Aa rfl | (refine Ak (Aa rfl) (vint ?_); omega) | (refine Ak (Aa rfl) ?_; simp; done)), trivial⟩ ?_
     ·exact ⟨Nat.zero_le _, ⟨(fun h => by cases h), fun ⟨j', h, _⟩ => by omega⟩⟩
     rintro ⟨j, kn⟩ ⟨hj, hkn⟩
     refine Ag (Ag (Ab (y_ (Ac (T E)) (y_ (Ac (T E)) (y_ (Bp (T E) runUnderlying132) (y_ (Bu (T E) (T E)) (Af (Ae ?_)) E) E) E) E)))
     first | refine Ar (Aa E) (fun c95 => ?_) (fun c95 => ?_) | refine A6 (Aa E) (fun c95 => ?_) (fun c95 => ?_)
     ·refine A2 (Ae (Ag (Aw (Ch 11 [(0, true), (1, true), (2, true), (3, true), (4, true), (5, true), (6, true), (7, true), (8, true), (9, true), (10, true)] _ mixd (by kernel_rfl) sb0 ?_))))
      refine o_y E (Ac (T E)) (o_y E (Ac (T E)) ?_ E Ah) E Ah
      first | refine Cy (s := 99) (Aa E) (fun c99 => ?_) (fun c99 => ?_) | refine Dx (s := 99) (Aa E) (fun c99 => ?_) (fun c99 => ?_)
      ·refine o_n E (o_n E (o_n E (o_n E (o_n E (o_n E (o_n E (o_y E (Aq (T E) Aj) (o_y E (Ad (T E)) (Bx E (Af (Bl (Ae (Bh [(4, _), (5, _), (6, _), (9, _), (11, _), (12, _), (13, _), (16, _), (17, _), (18, _)] ⟨Aa E, Aa E, Aa E, Aa E, Aa E, Aa E, Aa E, Aa E, Aa E, Aa E, trivial⟩ (Ab (y_ (Ac (T E)) (y_ (Bt (T E) Aj (by omega)) ?_ E) E))))))) E Ah) E Ah) E (Bj E E (Aa E))) E (Bj E E (Aa E))) E (Bj E E (Aa E))) E (Bj E E (Aa E))) E (Bj E E (Aa E))) E (Bj E E (Aa E))) E (Bj E E (Aa E))
       refine y_ (Ad (T E)) (Af ?_) E
       refine Bn ((j + 1, true)) ?_ ?_ ⟨(by first | exact Aa E | (refine Ak (Aa E) (vint ?_); omega) | (refine Ak (Aa E) ?_; simp; done)), (by first | exact Aa E | (refine Ak (Aa E) (vint ?_); omega) | (refine Ak (Aa E) ?_; simp; done)), trivial⟩ ⟨Aa E, Aa E, Aa E, Aa E, Aa E, Aa E, Aa E, Aa E, trivial⟩ ?_
       ·refine ⟨by omega, fun _ => ?_, fun _ => rfl⟩
        obtain ⟨j', h1, h2⟩ := hkn.1 c99
        exact ⟨j', by omega, h2⟩
       ·first | omega | (simp only []; omega)
       ·exact sbt
      ·refine o_y E (Ac (T E)) (o_y E (Ac (T E)) (o_y E (Be (T E) (T E) runUnderlying132 sizeOf135 (by omega) (by first | exact rfl | exact he.n.nodes.b (i := x) hx | exact (hv.arr (X := [])).b (i := k) (by omega) | exact (Bq (w0 := w0) (enc := encU) (sz := 1) (e := 3) (X := []) (fun _ => rfl) hd12).b (i := i) (by omega) | exact he.n.links.b (i := (gd (outF n (gd st.l k).1) i)) hlk | exact (hv2.arr (X := [])).b (i := k) (by omega) | exact (hv2.arr (X := [])).b (i := j) (by omega) | exact he.n.nodes.b (i := (gd n.links (gd (outF n (gd st.l k).1) i)).dst) hdst)) ?_ E (Ao E E (Aa E))) E (Ao E E (Aa E))) E (Ao E E (Aa E))
       refine o_y E (Bc (T E) fa135_0) (o_y E (Am (T E) isAgg74 sizeOf74 E (by first | exact cells_take (k := 2) (((hv2.arr (X := H)).mono sbt).cs (i := j) (by omega)) | exact Bb | exact Dq (he.n.nodes.f0 (i := x) hx E))) ?_ E (Ao E E (Aa E))) E (Ao E E (Aa E))
       refine o_y E (Am (T E) isAgg74 sizeOf74 E (by first | exact Bb | exact Dq (he.n.nodes.f0 (i := x) hx E))) ?_ E (Ao E E (Aa E))
       refine o_y E (yl_eqA (T E) (T E) eqGuardType74 (eqPl (toI (gd vs2 j).p) (toI (mvF n m.pl (gd st.l k).2 (gd (outF n (gd st.l k).1) i)).1))) (o_y E (Au (T E) (T E)) (o_y E (Ad (T E)) (Bx E (Af (Bl (Ae (Bh [(4, _), (5, _), (6, _), (9, _), (11, _), (12, _), (13, _), (16, _), (17, _), (18, _)] ⟨Aa E, Aa E, Aa E, Aa E, Aa E, Aa E, Aa E, Aa E, Aa E, Aa E, trivial⟩ (Ab (y_ (Ac (T E)) (y_ (Bt (T E) Aj (by omega)) ?_ E) E))))))) E Ah) E Ah) E (Ao E E (Aa E))
       refine y_ (Ad (T E)) (Af ?_) E
       refine Bn ((j + 1, decide (toI (mvF n m.pl (gd st.l k).2 (gd (outF n (gd st.l k).1) i)).1 = toI (gd vs2 j).p))) ?_ ?_ ⟨(by first | exact Aa E | (refine Ak (Aa E) (vint ?_); omega) | (refine Ak (Aa E) ?_; simp; done)), (by first | exact Aa E | (refine Ak (Aa E) (vint ?_); omega) | (refine Ak (Aa E) ?_; simp; done)), trivial⟩ ⟨Aa E, Aa E, Aa E, Aa E, Aa E, Aa E, Aa E, Aa E, trivial⟩ ?_
       ·refine ⟨by omega, fun h => ⟨j, by omega, (toI_inj.1 (of_decide_eq_true h)).symm⟩, fun ⟨j', h1, h2⟩ => decide_eq_true ?_⟩
        by_cases ej : j' = j
        ·subst ej; rw [h2]
        ·exact absurd (hkn.2 ⟨j', by omega, h2⟩) (by rw [c99]; exact Bool.false_ne_true)
       ·first | omega | (simp only []; omega)
       ·exact sbt
     ·refine B4 (A0 (A4 (A3 (Ae (Ag (Ab (y_ (Ac (T E)) ?_ E)))))))
      first | refine Ax (Ca (T E)) E Ah ?_ | refine Ax (Co (T E)) E Ah ?_
      refine Af (Ae ?_)
      first | refine Ar (Aa E) (fun c109 => ?_) (fun c109 => ?_) | refine A6 (Aa E) (fun c109 => ?_) (fun c109 => ?_)
      ·have hnin : (mvF n m.pl (gd st.l k).2 (gd (outF n (gd st.l k).1) i)).1 ∉ (visAll k st (movK n f m.pl (gd st.l k) i)).l := fun hm => by
        obtain ⟨j', h1, h2⟩ := (hv2.vr.mem _).1 hm
        have := hkn.2 ⟨j', by omega, h2⟩
        rw [this] at c109; cases c109
       have hpl2 : (gd vs2 k).l.length ≤ 2500 := by rw [hvk1]; have := pth_len (visAll k st (movK n f m.pl (gd st.l k) i)).w k; omega
       refine j_anyX 17 _ mixd (by kernel_rfl) sb0 ?_
       refine x_y (i := 0) E (by kernel_rfl) (Ac (T E)) ?_ E Ah
       refine x_y (i := 1) E (by kernel_rfl) (Am (T E) isAgg74 sizeOf74 E (by first | exact Bb | exact Dq (he.n.nodes.f0 (i := x) hx E))) ?_ E Ah
       refine x_y (i := 3) E (by kernel_rfl) (Ac (T E)) ?_ E Ah
       refine x_y (i := 4) E (by kernel_rfl) (Ac (T E)) ?_ E Ah
       refine x_y (i := 5) E (by kernel_rfl) (Ck (T E) (T E) runUnderlying132 sizeOf135 (by omega) (by first | exact rfl | exact he.n.nodes.b (i := x) hx | exact (hv.arr (X := [])).b (i := k) (by omega) | exact (Bq (w0 := w0) (enc := encU) (sz := 1) (e := 3) (X := []) (fun _ => rfl) hd12).b (i := i) (by omega) | exact he.n.links.b (i := (gd (outF n (gd st.l k).1) i)) hlk | exact (hv2.arr (X := [])).b (i := k) (by omega) | exact (hv2.arr (X := [])).b (i := j) (by omega) | exact he.n.nodes.b (i := (gd n.links (gd (outF n (gd st.l k).1) i)).dst) hdst)) ?_ E Ah
       refine x_y (i := 6) E (by kernel_rfl) (Bi (T E) fa135_1) ?_ E Ah
       refine x_y (i := 7) E (by kernel_rfl) (Ai (T E) isAgg42 (by first | exact c_o | exact c_m ((hv2.arr (X := H)).f (i := k) (j := 2) (by omega) E) | exact c_m (he.n.nodes.f0 (i := x) hx E))) ?_ E Ah
       refine x_y (i := 9) E (by kernel_rfl) (Ac (T E)) ?_ E Ah
       refine x_y (i := 10) E (by kernel_rfl) (Ac (T E)) ?_ E Ah
       refine x_y (i := 11) E (by kernel_rfl) (Ck (T E) (T E) runUnderlying42 sizeOf3 (by omega) (by first | exact rfl | exact he.n.nodes.b (i := x) hx | exact (hv.arr (X := [])).b (i := k) (by omega) | exact (Bq (w0 := w0) (enc := encU) (sz := 1) (e := 3) (X := []) (fun _ => rfl) hd12).b (i := i) (by omega) | exact he.n.links.b (i := (gd (outF n (gd st.l k).1) i)) hlk | exact (hv2.arr (X := [])).b (i := k) (by omega) | exact (hv2.arr (X := [])).b (i := j) (by omega) | exact he.n.nodes.b (i := (gd n.links (gd (outF n (gd st.l k).1) i)).dst) hdst)) ?_ E Ah
       refine x_y (i := 12) E (by kernel_rfl) (Ai (T E) isAgg3 (by first | exact c_o | exact cell1 (((Bq (w0 := w0) (enc := encU) (sz := 1) (e := 3) (X := H) (fun _ => rfl) hd12).mono sbt).cs (i := i) (by omega)) | exact c_m (he.n.nodes.f0 (i := x) hx E))) ?_ E Ah
       refine C4 (i := 2) (j := 13) (by kernel_rfl) (by kernel_rfl) ?_ ?_
       ·refine B3 E (Ap .nil (bs42_0_z)) ?_ E Ah
        rintro _ _ ⟨n112, rfl, rfl⟩
        refine ⟨sbt, ?_⟩
        refine C4 (i := 8) (j := 13) (by kernel_rfl) (by kernel_rfl) ?_ ?_
        ·refine B3 E (eff_appEmp ((gd vs2 k).l) (by' := 8) (by first | exact rfl | omega) (by repeat (first | exact locH1 | exact LocL.h | apply LocL.t | apply LocL.a)) (T E) (T E) runUnderlying42 runUnderlying42 sizeOf3 typeInfo3 E zeroValue3 E (fun _ => rfl) (fun _ => rfl) (by decide) (by omega) ((hv2.path (by omega)).mono sbt)) ?_ E Ah
         rintro _ _ ⟨d1, rfl, hd1, rfl⟩
         refine ⟨sbt, (B6 (i := 13) (by kernel_rfl) (by kernel_rfl) ?_)⟩
         refine B3 E (Ap (.cons (T E) .nil) (Cw _)) ?_ E Ah
         rintro _ _ ⟨n123, rfl, rfl⟩
         refine ⟨sbt, (B6 (i := 14) (by kernel_rfl) (by kernel_rfl) ?_)⟩
         refine B3 E (Cz ((gd (outF n (gd st.l k).1) i)) (by' := 8) (enc := encU) (l := (gd vs2 k).l) (by repeat (first | exact LocL.h | apply LocL.t | apply LocL.a)) (T E) (T E) runUnderlying42 runUnderlying42 sizeOf3 typeInfo3 E zeroValue3 E (fun _ => rfl) E hd1 (by decide) (by omega)) ?_ E Ah
         rintro _ _ ⟨dp, rfl, hdp, rfl⟩
         refine ⟨sbt, (x_y (i := 15) E (by kernel_rfl) (B1 (.cons (T E) (.cons (T E) .nil)) (bd135_0_1 _ _ _ _ _)) ?_ E Ah)⟩
         refine B6 (i := 16) (by kernel_rfl) (by kernel_rfl) ?_
         refine B3 E (Ap (.cons (T E) .nil) (bs132_1_0 _ _ _ _ _)) ?_ E Ah
         rintro _ _ ⟨n126, rfl, rfl⟩
         refine ⟨sbt, (Cq (by kernel_rfl) E ?_)⟩
         refine e_ (Cz ((⟨(mvF n m.pl (gd st.l k).2 (gd (outF n (gd st.l k).1) i)).1, slQ dp, slC dp, (gd vs2 k).l ++ [(gd (outF n (gd st.l k).1) i)]⟩ : Vi)) (by' := 40) (enc := encVi) (l := vs2) (by repeat (first | exact LocL.h | apply LocL.t | apply LocL.a)) (T E) (T E) runUnderlying132 runUnderlying132 sizeOf135 typeInfo135 E zeroValue135 E (fun _ => rfl) E hv2.ok (by decide) (by omega)) ?_ E
         rintro _ _ ⟨d3, rfl, hd3, rfl⟩
         refine y_ (Ad (T E)) (Af (Bl (Ae (Bh [(4, _), (5, _), (6, _), (9, _), (11, _), (12, _), (13, _)] ⟨Aa E, Aa E, Aa E, Aa E, Aa E, Aa E, Aa E, trivial⟩ (Ab (y_ (Ac (T E)) (y_ (Bt (T E) Aj (by omega)) ?_ E) E)))))) E
         refine y_ (Ad (T E)) (Af ?_) E
         refine Bn ((i + 1, d3, vs2 ++ [⟨(mvF n m.pl (gd st.l k).2 (gd (outF n (gd st.l k).1) i)).1, slQ dp, slC dp, (gd vs2 k).l ++ [(gd (outF n (gd st.l k).1) i)]⟩], slH dp (((gd vs2 k).l ++ [(gd (outF n (gd st.l k).1) i)]).flatMap encU) 3 ++ M2)) ?_ ?_ ⟨(by first | exact Aa E | (refine Ak (Aa E) (vint ?_); omega) | (refine Ak (Aa E) ?_; simp; done)), (by first | exact Aa E | (refine Ak (Aa E) (vint ?_); omega) | (refine Ak (Aa E) ?_; simp; done)), trivial⟩ ⟨Aa E, Aa E, Aa E, Aa E, Aa E, trivial⟩ ?_
         ·show i + 1 ≤ _ ∧ VOk w0 H _ _ _ (visAll k st (movK n f m.pl (gd st.l k) (i + 1)))
          rw [hmy, visAll_snoc]
          exact ⟨by omega, hv2.new hbi (by omega) hnin hd3 (by rw [List.append_assoc]; exact List.sublist_append_right _ _) (by rw [List.append_assoc]; exact Bq (fun _ => rfl) hdp)⟩
         ·first | omega | (simp only []; omega)
         ·first | (show ((slH dp (((gd vs2 k).l ++ [(gd (outF n (gd st.l k).1) i)]).flatMap encU) 3 ++ M2) ++ _).Sublist _; rw [List.append_assoc]; exact sbt) | exact sbt
        ·refine B3 E (Ap (.cons (T E) .nil) (Cw _)) ?_ E Ah
         rintro _ _ ⟨n123, rfl, rfl⟩
         refine ⟨sbt, (B6 (i := 8) (by kernel_rfl) (by kernel_rfl) ?_)⟩
         refine B3 E (eff_appEmp ((gd vs2 k).l) (by' := 8) (by first | exact rfl | omega) (by repeat (first | exact locH1 | exact LocL.h | apply LocL.t | apply LocL.a)) (T E) (T E) runUnderlying42 runUnderlying42 sizeOf3 typeInfo3 E zeroValue3 E (fun _ => rfl) (fun _ => rfl) (by decide) (by omega) ((hv2.path (by omega)).mono sbt)) ?_ E Ah
         rintro _ _ ⟨d1, rfl, hd1, rfl⟩
         refine ⟨sbt, (B6 (i := 14) (by kernel_rfl) (by kernel_rfl) ?_)⟩
         refine B3 E (Cz ((gd (outF n (gd st.l k).1) i)) (by' := 8) (enc := encU) (l := (gd vs2 k).l) (by repeat (first | exact LocL.h | apply LocL.t | apply LocL.a)) (T E) (T E) runUnderlying42 runUnderlying42 sizeOf3 typeInfo3 E zeroValue3 E (fun _ => rfl) E hd1 (by decide) (by omega)) ?_ E Ah
         rintro _ _ ⟨dp, rfl, hdp, rfl⟩
         refine ⟨sbt, (x_y (i := 15) E (by kernel_rfl) (B1 (.cons (T E) (.cons (T E) .nil)) (bd135_0_1 _ _ _ _ _)) ?_ E Ah)⟩
         refine B6 (i := 16) (by kernel_rfl) (by kernel_rfl) ?_
         refine B3 E (Ap (.cons (T E) .nil) (bs132_1_0 _ _ _ _ _)) ?_ E Ah
         rintro _ _ ⟨n126, rfl, rfl⟩
         refine ⟨sbt, (Cq (by kernel_rfl) E ?_)⟩
         refine e_ (Cz ((⟨(mvF n m.pl (gd st.l k).2 (gd (outF n (gd st.l k).1) i)).1, slQ dp, slC dp, (gd vs2 k).l ++ [(gd (outF n (gd st.l k).1) i)]⟩ : Vi)) (by' := 40) (enc := encVi) (l := vs2) (by repeat (first | exact LocL.h | apply LocL.t | apply LocL.a)) (T E) (T E) runUnderlying132 runUnderlying132 sizeOf135 typeInfo135 E zeroValue135 E (fun _ => rfl) E hv2.ok (by decide) (by omega)) ?_ E
         rintro _ _ ⟨d3, rfl, hd3, rfl⟩
         refine y_ (Ad (T E)) (Af (Bl (Ae (Bh [(4, _), (5, _), (6, _), (9, _), (11, _), (12, _), (13, _)] ⟨Aa E, Aa E, Aa E, Aa E, Aa E, Aa E, Aa E, trivial⟩ (Ab (y_ (Ac (T E)) (y_ (Bt (T E) Aj (by omega)) ?_ E) E)))))) E
         refine y_ (Ad (T E)) (Af ?_) E
         refine Bn ((i + 1, d3, vs2 ++ [⟨(mvF n m.pl (gd st.l k).2 (gd (outF n (gd st.l k).1) i)).1, slQ dp, slC dp, (gd vs2 k).l ++ [(gd (outF n (gd st.l k).1) i)]⟩], slH dp (((gd vs2 k).l ++ [(gd (outF n (gd st.l k).1) i)]).flatMap encU) 3 ++ M2)) ?_ ?_ ⟨(by first | exact Aa E | (refine Ak (Aa E) (vint ?_); omega) | (refine Ak (Aa E) ?_; simp; done)), (by first | exact Aa E | (refine Ak (Aa E) (vint ?_); omega) | (refine Ak (Aa E) ?_; simp; done)), trivial⟩ ⟨Aa E, Aa E, Aa E, Aa E, Aa E, trivial⟩ ?_
         ·show i + 1 ≤ _ ∧ VOk w0 H _ _ _ (visAll k st (movK n f m.pl (gd st.l k) (i + 1)))
          rw [hmy, visAll_snoc]
          exact ⟨by omega, hv2.new hbi (by omega) hnin hd3 (by rw [List.append_assoc]; exact List.sublist_append_right _ _) (by rw [List.append_assoc]; exact Bq (fun _ => rfl) hdp)⟩
         ·first | omega | (simp only []; omega)
         ·first | (show ((slH dp (((gd vs2 k).l ++ [(gd (outF n (gd st.l k).1) i)]).flatMap encU) 3 ++ M2) ++ _).Sublist _; rw [List.append_assoc]; exact sbt) | exact sbt
       ·refine B3 E (Ap (.cons (T E) .nil) (Cw _)) ?_ E Ah
        rintro _ _ ⟨n123, rfl, rfl⟩
        refine ⟨sbt, (B6 (i := 2) (by kernel_rfl) (by kernel_rfl) ?_)⟩
        refine B3 E (Ap .nil (bs42_0_z)) ?_ E Ah
        rintro _ _ ⟨n112, rfl, rfl⟩
        refine ⟨sbt, (B6 (i := 8) (by kernel_rfl) (by kernel_rfl) ?_)⟩
        refine B3 E (eff_appEmp ((gd vs2 k).l) (by' := 8) (by first | exact rfl | omega) (by repeat (first | exact locH1 | exact LocL.h | apply LocL.t | apply LocL.a)) (T E) (T E) runUnderlying42 runUnderlying42 sizeOf3 typeInfo3 E zeroValue3 E (fun _ => rfl) (fun _ => rfl) (by decide) (by omega) ((hv2.path (by omega)).mono sbt)) ?_ E Ah
        rintro _ _ ⟨d1, rfl, hd1, rfl⟩
        refine ⟨sbt, (B6 (i := 14) (by kernel_rfl) (by kernel_rfl) ?_)⟩
        refine B3 E (Cz ((gd (outF n (gd st.l k).1) i)) (by' := 8) (enc := encU) (l := (gd vs2 k).l) (by repeat (first | exact LocL.h | apply LocL.t | apply LocL.a)) (T E) (T E) runUnderlying42 runUnderlying42 sizeOf3 typeInfo3 E zeroValue3 E (fun _ => rfl) E hd1 (by decide) (by omega)) ?_ E Ah
        rintro _ _ ⟨dp, rfl, hdp, rfl⟩
        refine ⟨sbt, (x_y (i := 15) E (by kernel_rfl) (B1 (.cons (T E) (.cons (T E) .nil)) (bd135_0_1 _ _ _ _ _)) ?_ E Ah)⟩
        refine B6 (i := 16) (by kernel_rfl) (by kernel_rfl) ?_
        refine B3 E (Ap (.cons (T E) .nil) (bs132_1_0 _ _ _ _ _)) ?_ E Ah
        rintro _ _ ⟨n126, rfl, rfl⟩
        refine ⟨sbt, (Cq (by kernel_rfl) E ?_)⟩
        refine e_ (Cz ((⟨(mvF n m.pl (gd st.l k).2 (gd (outF n (gd st.l k).1) i)).1, slQ dp, slC dp, (gd vs2 k).l ++ [(gd (outF n (gd st.l k).1) i)]⟩ : Vi)) (by' := 40) (enc := encVi) (l := vs2) (by repeat (first | exact LocL.h | apply LocL.t | apply LocL.a)) (T E) (T E) runUnderlying132 runUnderlying132 sizeOf135 typeInfo135 E zeroValue135 E (fun _ => rfl) E hv2.ok (by decide) (by omega)) ?_ E
        rintro _ _ ⟨d3, rfl, hd3, rfl⟩
        refine y_ (Ad (T E)) (Af (Bl (Ae (Bh [(4, _), (5, _), (6, _), (9, _), (11, _), (12, _), (13, _)] ⟨Aa E, Aa E, Aa E, Aa E, Aa E, Aa E, Aa E, trivial⟩ (Ab (y_ (Ac (T E)) (y_ (Bt (T E) Aj (by omega)) ?_ E) E)))))) E
        refine y_ (Ad (T E)) (Af ?_) E
        refine Bn ((i + 1, d3, vs2 ++ [⟨(mvF n m.pl (gd st.l k).2 (gd (outF n (gd st.l k).1) i)).1, slQ dp, slC dp, (gd vs2 k).l ++ [(gd (outF n (gd st.l k).1) i)]⟩], slH dp (((gd vs2 k).l ++ [(gd (outF n (gd st.l k).1) i)]).flatMap encU) 3 ++ M2)) ?_ ?_ ⟨(by first | exact Aa E | (refine Ak (Aa E) (vint ?_); omega) | (refine Ak (Aa E) ?_; simp; done)), (by first | exact Aa E | (refine Ak (Aa E) (vint ?_); omega) | (refine Ak (Aa E) ?_; simp; done)), trivial⟩ ⟨Aa E, Aa E, Aa E, Aa E, Aa E, trivial⟩ ?_
        ·show i + 1 ≤ _ ∧ VOk w0 H _ _ _ (visAll k st (movK n f m.pl (gd st.l k) (i + 1)))
         rw [hmy, visAll_snoc]
         exact ⟨by omega, hv2.new hbi (by omega) hnin hd3 (by rw [List.append_assoc]; exact List.sublist_append_right _ _) (by rw [List.append_assoc]; exact Bq (fun _ => rfl) hdp)⟩
        ·first | omega | (simp only []; omega)
        ·first | (show ((slH dp (((gd vs2 k).l ++ [(gd (outF n (gd st.l k).1) i)]).flatMap encU) 3 ++ M2) ++ _).Sublist _; rw [List.append_assoc]; exact sbt) | exact sbt
      ·have hin : (mvF n m.pl (gd st.l k).2 (gd (outF n (gd st.l k).1) i)).1 ∈ (visAll k st (movK n f m.pl (gd st.l k) i)).l := by
        obtain ⟨j', h1, h2⟩ := hkn.1 (by simpa using c109)
        exact (hv2.vr.mem _).2 ⟨j', by omega, h2⟩
       refine A2 (Bl (Ae (Ab (y_ (Ac (T E)) (y_ (Bt (T E) Aj (by omega)) ?_ E) E))))
       refine y_ (Ad (T E)) (Af ?_) E
       refine Bn ((i + 1, d2, vs2, M2)) ?_ ?_ ⟨(by first | exact Aa E | (refine Ak (Aa E) (vint ?_); omega) | (refine Ak (Aa E) ?_; simp; done)), (by first | exact Aa E | (refine Ak (Aa E) (vint ?_); omega) | (refine Ak (Aa E) ?_; simp; done)), trivial⟩ ⟨Aa E, Aa E, Aa E, Aa E, Aa E, trivial⟩ ?_
       ·show i + 1 ≤ _ ∧ VOk w0 H _ _ _ (visAll k st (movK n f m.pl (gd st.l k) (i + 1)))
        rw [hmy, visAll_snoc]
        exact ⟨by omega, hv2.old hin⟩
       ·first | omega | (simp only []; omega)
       ·first | (show ((slH dp (((gd vs2 k).l ++ [(gd (outF n (gd st.l k).1) i)]).flatMap encU) 3 ++ M2) ++ _).Sublist _; rw [List.append_assoc]; exact sbt) | exact sbt
   ·refine B4 (A0 (A4 (A3 (Bl (Ae (Ab (y_ (Ac (T E)) (y_ (Bt (T E) Aj (by omega)) ?_ E) E)))))))
    refine y_ (Ad (T E)) (Af ?_) E
    have hi2 : i = (outF n (gd st.l k).1).length := by omega
    subst hi2
    rw [movK_all] at hv2
    refine Bn ((k + 1, d2, vs2, M2, visAll k st ((movesF n f m.pl) (gd st.l k)))) ?_ ?_ ⟨(by first | exact Aa E | (refine Ak (Aa E) (vint ?_); omega) | (refine Ak (Aa E) ?_; simp; done)), (by first | exact Aa E | (refine Ak (Aa E) (vint ?_); omega) | (refine Ak (Aa E) ?_; simp; done)), trivial⟩ ⟨Aa E, Aa E, Aa E, trivial⟩ ?_
    ·obtain ⟨hb1, hb2⟩ := hb.visAll (k' := k) ((movesF n f m.pl) (gd st.l k)) hkl (moves_ok ho.on ho.om _ hpk)
     refine ⟨⟨by have := hv2.vr.len; omega, hv2⟩, ⟨hb1.nd, hb1.ok, hb1.len, hb1.back, by omega⟩, ?_⟩
     rw [hgo, show NPl n m.pl + 1 - k = (NPl n m.pl + 1 - (k + 1)) + 1 by omega, Da, if_pos hkl]
     simp
    ·first | omega | (simp only []; omega)
    ·exact sbt
  ·refine B4 (A0 (A4 (A3 (Ae (Ag (Ab (y_ (Ac (T E)) (y_ (Ad (T E)) (Af (Ae (Ay (Az E (.tmp (Aa E) .nil) (⟨_, ⟨d, vs, M, ⟨rfl, hv.ok, hv.pa, fun h => absurd h c22, fun _ => ?_⟩, rfl⟩, sbt⟩))))) E) E)))))))
   have hz : allSt n f m.pl x = st := by
    unfold allSt
    rw [hgo, show NPl n m.pl + 1 - k = (NPl n m.pl - k) + 1 by omega, Da, if_neg (by omega)]
   rw [hz]; exact hv.vr
end Go.Proofs.YtkdolgnpkjihpaaGreatDoor
namespace Go.Proofs.YtkdolgnpkjihpaaGreatDoor
open _root_.Go.Proofs.Tryz
open Go.RowKit
set_option linter.unusedVariables false
set_option linter.unusedSimpArgs false
theorem vis_few {n : Nn} (hok : NnOk n) {f : Flr} {m : PM} (hp : PMok m) {x : Nat} (hx : x < n.nodes.length) {vs : List Vi} (h1 : f.node = x → vs = []) (h2 : ¬ f.node = x → VR vs (allSt n f m x)) : vs.length ≤ 2400 := by
 by_cases hf : f.node = x
 ·rw [h1 hf]; exact Nat.zero_le _
 ·rw [(h2 hf).len, all_ok hok hp hx]
  have hm := met_nd hok hp hx (f := f)
  exact Nat.le_trans (pl_few n m _ hm.1 hm.2) (NPl_le hok hp)
theorem vis_at {n : Nn} (hok : NnOk n) {f : Flr} {m : PM} (hp : PMok m) {x : Nat} (hx : x < n.nodes.length) {vs : List Vi} (h1 : f.node = x → vs = []) (h2 : ¬ f.node = x → VR vs (allSt n f m x)) {k : Nat} (hk : k < vs.length) : ¬ f.node = x ∧ (gd vs k).p = gd (allSt n f m x).l k ∧ (gd vs k).l = pth (allSt n f m x).w k ∧ k < (allSt n f m x).l.length ∧ PlOk n m (gd vs k).p := by
 have hf : ¬ f.node = x := fun h => by rw [h1 h] at hk; simp at hk
 have hv := h2 hf
 have hm := met_nd hok hp hx (f := f)
 obtain ⟨e1, e2⟩ := hv.at' k hk
 refine ⟨hf, e1, e2, by rw [← hv.len]; exact hk, ?_⟩
 rw [e1, all_ok hok hp hx]
 exact hm.2 _ (Bg (by rw [← all_ok hok hp hx, ← hv.len]; exact hk))
theorem vis_map {n : Nn} (hok : NnOk n) {f : Flr} {m : PM} (hp : PMok m) {x : Nat} (hx : x < n.nodes.length) {vs : List Vi} (h1 : f.node = x → vs = []) (h2 : ¬ f.node = x → VR vs (allSt n f m x)) : vs.map Vi.p = if f.node = x then [] else metF n f m x := by
 split
 ·rename_i h; rw [h1 h]; rfl
 ·rename_i h
  have hv := h2 h
  rw [← all_ok hok hp hx]
  refine list_eq (by simp [hv.len]) fun j hj => ?_
  have hj' : j < vs.length := by simpa using hj
  rw [gd_map hj', (hv.at' j hj').1]
theorem rfind_s {w0 : World} {H : List (Nat × Obj)} (n : Nn) (f : Flr) (m : Mc) (he : Env w0 H n f m) (ho : EnvOk n f m) (x : Nat) (hx : x < n.nodes.length) (to : Nat) :
  FSpec Tryz.prog w0 30 #[.agg (encNn n).toArray, .agg (encFl f).toArray, .agg (encMc m).toArray, .int .i64 (x : Int), .int .i64 (to : Int)] H (fun v H' => ∃ (q : Option Addr) (c : Nat) (M : List (Nat × Obj)), (v = .tuple #[.slice q (findF n f m.pl x to).1.length c, .int .i64 (findF n f m.pl x to).2] ∧ Arr w0 (M ++ H) q 1 encU (findF n f m.pl x to).1) ∧ H' = M ++ H) := by
 refine A9 Tryz.func30 E ntmps30 E ?_
 have hml : m.rows.length = m.pl.next.length := by simp [Mc.pl]
 have haa : m.acc.length = m.pl.next.length := ho.om.acc
 refine Ag (Ab (e_ (Ba (T E) cs_) ?_ E))
 rintro _ _ ⟨n5, rfl, rfl⟩
 refine e_ (Ba (T E) cs_) ?_ E
 rintro _ _ ⟨n6, rfl, rfl⟩
 refine e_ (Ba (T E) cs_) ?_ E
 rintro _ _ ⟨n7, rfl, rfl⟩
 refine y_ (Ad Aj) (y_ (Ad Aj) (Af (Ae (Ag (Ab (y_ (Am (T E) isAgg56 sizeOf56 E (by first | exact Bb)) ?_ E))))) E) E
 refine y_ (Am (T E) isAgg58 sizeOf58 E (by first | exact Bb)) ?_ E
 refine y_ (Am (T E) isAgg29 sizeOf29 E (by first | exact Bb)) ?_ E
 refine y_ (Ac (T E)) (e_ (A1 (.cons (T E) (.cons (T E) (.cons (T E) (.cons (T E) .nil)))) call82 (visits_s n f m (he.mono sbt) ho x hx)) ?_ E) E
 rintro _ _ ⟨d, vs, M, ⟨rfl, hd, hpa, hdead, hvr⟩, rfl⟩
 have hvl : vs.length ≤ 2400 := vis_few ho.on ho.om hx hdead hvr
 refine y_ (Ad (T E)) (Af (Ae (Ag (Ag (Ab (y_ (Ad Aj) (Af (Ae (Aw ?_))) E)))))) E
 refine Cc (X := Nat) (V := fun k => [(13, .int .i64 (k : Nat))]) (C := [(4, _), (7, _), (12, _)]) (φ := fun k => k ≤ vs.length ∧ ∀ j, j < k → fndF to m.pl (gd vs j).p = false) (μ := fun k => vs.length - k) (x0 := 0) ?_ ⟨Aa E, Aa E, Aa E, trivial⟩ ⟨(by first | exact Aa E | (refine Ak (Aa E) (vint ?_); omega) | (refine Ak (Aa E) ?_; simp; done)), trivial⟩ ?_
 ·exact ⟨Nat.zero_le _, fun j hj => by omega⟩
 rintro k ⟨hk, hno⟩
 refine Ag (Ag (Ab (y_ (Ac (T E)) (y_ (Ac (T E)) (y_ (Bp (T E) runUnderlying132) (y_ (Bu (T E) (T E)) (Af (Ae ?_)) E) E) E) E)))
 first | refine Ar (Aa E) (fun c22 => ?_) (fun c22 => ?_) | refine A6 (Aa E) (fun c22 => ?_) (fun c22 => ?_)
 ·obtain ⟨hnd, hvp, hvpl, hka, hpo⟩ := vis_at ho.on ho.om hx hdead hvr (k := k) (by omega)
  refine A2 (Ae (Ag (Aw (Ag (Ch 20 [(0, true), (1, true), (2, true), (3, true), (4, true), (5, true), (6, true), (7, true), (8, true), (9, true), (10, true), (11, true), (12, true), (13, true), (14, true), (15, true), (16, true), (17, true), (18, true), (19, true)] _ mixd (by kernel_rfl) sb0 ?_)))))
  refine o_y E (Ac (T E)) (o_y E (Ac (T E)) (o_y E (Be (T E) (T E) runUnderlying132 sizeOf135 (by omega) (by first | exact rfl | exact (Bq (w0 := w0) (enc := encVi) (sz := 3) (e := 135) (X := []) (fun _ => rfl) hd).b (i := k) (by omega) | exact he.m.a3.b (i := (gd vs k).p.2) (by have := hpo.2; omega))) ?_ E Ah) E Ah) E Ah
  refine o_y E (Bc (T E) fa135_0) (o_y E (Bc (T E) Dm) (o_y E (Ai (T E) isAgg3 (by first | exact c_o | exact c_m ((Bq (w0 := w0) (enc := encVi) (sz := 3) (e := 135) (X := H) (fun _ => rfl) hd).f0 (i := k) (by omega) E))) ?_ E Ah) E Ah) E Ah
  refine o_y E (Ac (T E)) (o_y E (B2 (T E) (T E)) (o_y E (Ac (T E)) ?_ E Ah) E Ah) E Ah
  first | refine Cy (s := 33) (Aa E) (fun c33 => ?_) (fun c33 => ?_) | refine Dx (s := 33) (Aa E) (fun c33 => ?_) (fun c33 => ?_)
  ·refine o_y E (Bi (T E) Dr) (o_y E (Ai (T E) isAgg27 (by first | exact c_o)) ?_ E (Ao E E (Aa E))) E (Ao E E (Aa E))
   refine o_y E (Ac (T E)) (o_y E (Ac (T E)) (o_y E (Be (T E) (T E) runUnderlying132 sizeOf135 (by omega) (by first | exact rfl | exact (Bq (w0 := w0) (enc := encVi) (sz := 3) (e := 135) (X := []) (fun _ => rfl) hd).b (i := k) (by omega) | exact he.m.a3.b (i := (gd vs k).p.2) (by have := hpo.2; omega))) ?_ E (Ao E E (Aa E))) E (Ao E E (Aa E))) E (Ao E E (Aa E))
   refine o_y E (Bc (T E) fa135_0) (o_y E (Bi (T E) Du) (o_y E (Ai (T E) isAgg3 (by first | exact c_o | exact c_m ((Bq (w0 := w0) (enc := encVi) (sz := 3) (e := 135) (X := H) (fun _ => rfl) hd).f (i := k) (j := 1) (by omega) E))) ?_ E (Ao E E (Aa E))) E (Ao E E (Aa E))) E (Ao E E (Aa E))
   refine o_y E (Be (T E) (T E) runUnderlying27 sizeOf4 (by have := hpo.2; omega) (by first | exact rfl | exact (Bq (w0 := w0) (enc := encVi) (sz := 3) (e := 135) (X := []) (fun _ => rfl) hd).b (i := k) (by omega) | exact he.m.a3.b (i := (gd vs k).p.2) (by have := hpo.2; omega))) ?_ E (Ao E E (Aa E))
   refine o_y E (Ai (T E) isAgg4 (by first | exact c_o | exact cell1 ((he.m.a3.mono sbt).cs (i := (gd vs k).p.2) (by have := hpo.2; omega)))) ?_ E (Ao E E (Aa E))
   refine o_y E (Aq (T E) (T E)) (Bx E (Af (Ae (Bh [(4, _), (7, _), (12, _), (13, _), (44, _)] ⟨Aa E, Aa E, Aa E, Aa E, Aa E, trivial⟩ ?_)))) E Ah
   first | refine Ar (Aa E) (fun c44 => ?_) (fun c44 => ?_) | refine A6 (Aa E) (fun c44 => ?_) (fun c44 => ?_)
   ·refine Ag (Ab (y_ (Ac (T E)) (y_ (Ac (T E)) (y_ (Be (T E) (T E) runUnderlying132 sizeOf135 (by omega) (by first | exact rfl | exact (Bq (w0 := w0) (enc := encVi) (sz := 3) (e := 135) (X := []) (fun _ => rfl) hd).b (i := k) (by omega) | exact he.m.a3.b (i := (gd vs k).p.2) (by have := hpo.2; omega))) ?_ E) E) E))
    refine y_ (Bi (T E) fa135_1) (y_ (Ai (T E) isAgg42 (by first | exact c_o | exact c_m ((Bq (w0 := w0) (enc := encVi) (sz := 3) (e := 135) (X := H) (fun _ => rfl) hd).f (i := k) (j := 2) (by omega) E))) ?_ E) E
    refine y_ (Ad (T E)) (y_ (Ad Aj) (Af (Ae (Ay (An (Al (Bo (An (Al (Az E (.tmp (Aa E) (.tmp (Aa E) .nil)) ?_))))))))) E) E
    have hz := (find_vis ho.on ho.om hx (to := to) hnd).1 k hka (fun j hj => by rw [← (vis_at ho.on ho.om hx hdead hvr (k := j) (by omega)).2.1]; exact hno j hj) (by rw [← hvp]; unfold fndF; rw [decide_eq_true (by omega), (show gd m.pl.acc (gd vs k).p.2 = true from (by simpa using c44 : gd m.acc (gd vs k).p.2 = true))]; rfl)
    have hl : (gd vs k).l = (findF n f m.pl x to).1 := by rw [hz]; exact hvpl
    have hA := hpa _ (Bg (show k < vs.length by omega))
    rw [hl] at hA
    refine ⟨_, ⟨(gd vs k).q, (gd vs k).c, M ++ [(n7, Cl (encMc m) 29), (n6, Cl (encFl f) 58), (n5, Cl (encNn n) 56)], ⟨by rw [← hl, show (findF n f m.pl x to).2 = 0 by rw [hz]]; rfl, by simpa only [List.append_assoc, List.cons_append, List.nil_append] using hA⟩, rfl⟩, by simp only [List.append_assoc, List.cons_append, List.nil_append]; exact sbt⟩
   ·refine A2 (Bl (Ae (Ab (y_ (Ac (T E)) (y_ (Bt (T E) Aj (by omega)) ?_ E) E))))
    refine y_ (Ad (T E)) (Af ?_) E
    refine Bn (k + 1) ?_ ?_ ⟨(by first | exact Aa E | (refine Ak (Aa E) (vint ?_); omega) | (refine Ak (Aa E) ?_; simp; done)), trivial⟩ ⟨Aa E, Aa E, Aa E, trivial⟩ ?_
    ·refine ⟨by omega, fun j hj => ?_⟩
     by_cases e : j = k
     ·subst e; unfold fndF; first | (rw [decide_eq_false (by omega)]; rfl) | (rw [(show gd m.pl.acc (gd vs j).p.2 = false from (by simpa using c44 : gd m.acc (gd vs j).p.2 = false))]; simp) | (rw [(show gd m.pl.acc (gd vs j).p.2 = false from (by simpa using c33 : gd m.acc (gd vs j).p.2 = false))]; simp)
     ·exact hno j (by omega)
    ·first | omega | (simp only []; omega)
    ·exact sbt
  ·refine o_n E (o_n E (o_n E (o_n E (o_n E (o_n E (o_n E (o_n E (o_n E (o_n E (o_y E (Au (T E) Aj) (Bx E (Af (Ae (Bh [(4, _), (7, _), (12, _), (13, _), (44, _)] ⟨Aa E, Aa E, Aa E, Aa E, Aa E, trivial⟩ ?_)))) E Ah) E (B8 E E (Aa E))) E (B8 E E (Aa E))) E (B8 E E (Aa E))) E (B8 E E (Aa E))) E (B8 E E (Aa E))) E (B8 E E (Aa E))) E (B8 E E (Aa E))) E (B8 E E (Aa E))) E (B8 E E (Aa E))) E (B8 E E (Aa E))
   first | refine Br (Aa E) ?_ | refine Br (Ak (Aa E) (vbool (decide_eq_false c44))) ?_
   refine A2 (Bl (Ae (Ab (y_ (Ac (T E)) (y_ (Bt (T E) Aj (by omega)) ?_ E) E))))
   refine y_ (Ad (T E)) (Af ?_) E
   refine Bn (k + 1) ?_ ?_ ⟨(by first | exact Aa E | (refine Ak (Aa E) (vint ?_); omega) | (refine Ak (Aa E) ?_; simp; done)), trivial⟩ ⟨Aa E, Aa E, Aa E, trivial⟩ ?_
   ·refine ⟨by omega, fun j hj => ?_⟩
    by_cases e : j = k
    ·subst e; unfold fndF; first | (rw [decide_eq_false (by omega)]; rfl) | (rw [(show gd m.pl.acc (gd vs j).p.2 = false from (by simpa using c44 : gd m.acc (gd vs j).p.2 = false))]; simp) | (rw [(show gd m.pl.acc (gd vs j).p.2 = false from (by simpa using c33 : gd m.acc (gd vs j).p.2 = false))]; simp)
    ·exact hno j (by omega)
   ·first | omega | (simp only []; omega)
   ·exact sbt
 ·refine B4 (A0 (A4 (A3 (Ae (Ag (Ab (y_ (Ad Aj) (y_ (Ad Aj) (Af (Ae (Ay (Az E (.tmp (Aa E) (.tmp (Aa E) .nil)) ?_)))) E) E)))))))
  have hz : findF n f m.pl x to = ([], 18) := by
   by_cases hf : f.node = x
   ·unfold findF; rw [if_pos hf]
   ·have hv := hvr hf
    exact (find_vis ho.on ho.om hx (to := to) hf).2 fun j hj => by rw [← (vis_at ho.on ho.om hx hdead hvr (k := j) (by rw [hv.len]; exact hj)).2.1]; exact hno j (by rw [← hv.len] at hj; omega)
  rw [hz]
  exact ⟨_, ⟨none, 0, [], ⟨rfl, fun i x hi => by cases hi⟩, rfl⟩, sbt⟩
theorem befF_lt (a b : Pl) : befF (toI a) (toI b) = decide (plLt a b) := by unfold befF plLt toI; exact decide_eq_decide.2 (by omega)
theorem insLen : ∀ l : List Pl, (insAll l).length = l.length := by
 intro l
 induction l using snoc_ind with
 | h0 => rfl
 | h1 l a ih =>
  have e : insAll (l ++ [a]) = insP a (insAll l) := by simp [insAll]
  rw [e, insP_len, ih]; simp
theorem rreach_s {w0 : World} {H : List (Nat × Obj)} (n : Nn) (f : Flr) (m : Mc) (he : Env w0 H n f m) (ho : EnvOk n f m) (x : Nat) (hx : x < n.nodes.length) :
  FSpec Tryz.prog w0 36 #[.agg (encNn n).toArray, .agg (encFl f).toArray, .agg (encMc m).toArray, .int .i64 (x : Int)] H (fun v H' => ∃ d, (v = slV d (insAll (if f.node = x then [] else metF n f m.pl x)).length ∧ SlOk d (insAll (if f.node = x then [] else metF n f m.pl x)).length 2) ∧ H' = slH d ((insAll (if f.node = x then [] else metF n f m.pl x)).flatMap encPl) 74 ++ H) := by
 refine A9 Tryz.func36 E ntmps36 E (Ag (Ab (e_ (Ba (T E) cs_) ?_ E)))
 rintro _ _ ⟨n4, rfl, rfl⟩
 refine e_ (Ba (T E) cs_) ?_ E
 rintro _ _ ⟨n5, rfl, rfl⟩
 refine e_ (Ba (T E) cs_) ?_ E
 rintro _ _ ⟨n6, rfl, rfl⟩
 refine y_ (Ad Aj) (Af (Ae (Ag (Ab (y_ (Ad Aj) (Af (Ae (Ag (Ab (y_ (Am (T E) isAgg56 sizeOf56 E (by first | exact Bb)) ?_ E))))) E))))) E
 refine y_ (Am (T E) isAgg58 sizeOf58 E (by first | exact Bb)) ?_ E
 refine y_ (Am (T E) isAgg29 sizeOf29 E (by first | exact Bb)) ?_ E
 refine y_ (Ac (T E)) (e_ (A1 (.cons (T E) (.cons (T E) (.cons (T E) (.cons (T E) .nil)))) call82 (visits_s n f m (he.mono sbt) ho x hx)) ?_ E) E
 rintro _ _ ⟨d, vs, M, ⟨rfl, hd, hpa, hdead, hvr⟩, rfl⟩
 have hvl : vs.length ≤ 2400 := vis_few ho.on ho.om hx hdead hvr
 refine y_ (Ad (T E)) (Af (Ae (Ag (Ag (Ab (y_ (Ad Aj) (Af (Ae (Aw ?_))) E)))))) E
 refine Cm (X := Nat × Sl) (V := fun ⟨k, d9⟩ => [(11, .int .i64 (k : Nat)), (9, slV d9 (insAll ((vs.map Vi.p).take k)).length)]) (C := [(10, _)]) (G := fun ⟨k, d9⟩ => slH d9 ((insAll ((vs.map Vi.p).take k)).flatMap encPl) 74 ++ (M ++ (slH d (vs.flatMap encVi) 135 ++ ((n6, Cl (encMc m) 29) :: (n5, Cl (encFl f) 58) :: (n4, Cl (encNn n) 56) :: H)))) (φ := fun ⟨k, d9⟩ => k ≤ vs.length ∧ SlOk d9 (insAll ((vs.map Vi.p).take k)).length 2) (μ := fun ⟨k, d9⟩ => vs.length - k) (x0 := (0, .nil)) ?_ ⟨Aa rfl, trivial⟩ ⟨(by first | exact Aa rfl | (refine Ak (Aa rfl) (vint ?_); omega) | (refine Ak (Aa rfl) ?_; simp; done) | (refine Ak (Aa rfl) ?_; exact by rw [hin])), (by first | exact Aa rfl | (refine Ak (Aa rfl) (vint ?_); omega) | (refine Ak (Aa rfl) ?_; simp; done) | (refine Ak (Aa rfl) ?_; exact by rw [hin])), trivial⟩ sb0 ?_
 ·exact ⟨Nat.zero_le _, rfl⟩
 rintro ⟨k, d9⟩ ⟨hk, hd9⟩
 have hol : (insAll ((vs.map Vi.p).take k)).length ≤ 2400 := by
  have hz : (insAll ((vs.map Vi.p).take k)).length = ((vs.map Vi.p).take k).length := insLen _
  rw [hz, List.length_take, List.length_map]; omega
 have hcap9 := sl_le hd9
 refine Ag (Ag (Ab (y_ (Ac (T E)) (y_ (Ac (T E)) (y_ (Bp (T E) runUnderlying132) (y_ (Bu (T E) (T E)) (Af (Ae ?_)) E) E) E) E)))
 first | refine Ar (Aa E) (fun c22 => ?_) (fun c22 => ?_) | refine A6 (Aa E) (fun c22 => ?_) (fun c22 => ?_)
 ·have hit := insAll_take (l := vs.map Vi.p) (k := k) (by simp; omega)
  rw [gd_map (show k < vs.length by omega)] at hit
  refine A2 (Ae (Ag (Aw (Ag (Ab (y_ (Ad Aj) (Af (Ae (Ag (Aw ?_)))) E))))))
  refine Cc (X := Nat) (V := fun i => [(12, .int .i64 (i : Nat))]) (C := [(9, _), (10, _), (11, _)]) (φ := fun i => i ≤ (insAll ((vs.map Vi.p).take k)).length ∧ ∀ j, j < i → plLt (gd (insAll ((vs.map Vi.p).take k)) j) (gd vs k).p) (μ := fun i => (insAll ((vs.map Vi.p).take k)).length - i) (x0 := 0) ?_ ⟨Aa E, Aa E, Aa E, trivial⟩ ⟨(by first | exact Aa E | (refine Ak (Aa E) (vint ?_); omega) | (refine Ak (Aa E) ?_; simp; done) | (refine Ak (Aa E) ?_; exact by rw [hin])), trivial⟩ ?_
  ·exact ⟨Nat.zero_le _, fun j hj => by omega⟩
  rintro i ⟨hi, hlt⟩
  refine Ag (Ag (Ch 16 [(0, true), (1, true), (2, true), (3, true), (4, true), (5, true), (6, true), (7, true), (8, true), (9, true), (10, true), (11, true), (12, true), (13, true), (14, true), (15, true)] _ mixd (by kernel_rfl) sb0 ?_))
  refine o_y E (Ac (T E)) (o_y E (Ac (T E)) (o_y E (Bp (T E) runUnderlying59) (o_y E (Bu (T E) (T E)) (o_y E (Ac (T E)) ?_ E Ah) E Ah) E Ah) E Ah) E Ah
  first | refine Cy (s := 29) (Aa E) (fun c29 => ?_) (fun c29 => ?_) | refine Dx (s := 29) (Aa E) (fun c29 => ?_) (fun c29 => ?_)
  ·refine o_y E (Ac (T E)) (o_y E (Ac (T E)) (o_y E (Be (T E) (T E) runUnderlying59 sizeOf74 (by omega) (by first | exact rfl | exact (Bq (w0 := w0) (enc := encVi) (sz := 3) (e := 135) (X := []) (fun _ => rfl) hd).b (i := k) (by omega) | exact (Bq (w0 := w0) (enc := encPl) (sz := 2) (e := 74) (X := []) (fun _ => rfl) hd9).b (i := i) (by omega))) ?_ E (Ao E E (Aa E))) E (Ao E E (Aa E))) E (Ao E E (Aa E))
   refine o_y E (Am (T E) isAgg74 sizeOf74 E (by first | exact ((Bq (w0 := w0) (enc := encPl) (sz := 2) (e := 74) (X := H) (fun _ => rfl) hd9).mono sbt).cs (i := i) (by omega) | exact Bb)) ?_ E (Ao E E (Aa E))
   refine o_y E (Ac (T E)) (o_y E (Ac (T E)) (o_y E (Ck (T E) (T E) runUnderlying132 sizeOf135 (by omega) (by first | exact rfl | exact (Bq (w0 := w0) (enc := encVi) (sz := 3) (e := 135) (X := []) (fun _ => rfl) hd).b (i := k) (by omega) | exact (Bq (w0 := w0) (enc := encPl) (sz := 2) (e := 74) (X := []) (fun _ => rfl) hd9).b (i := i) (by omega))) ?_ E (Ao E E (Aa E))) E (Ao E E (Aa E))) E (Ao E E (Aa E))
   refine o_y E (Bc (T E) fa135_0) (o_y E (Am (T E) isAgg74 sizeOf74 E (by first | exact cells_take (k := 2) (((Bq (w0 := w0) (enc := encVi) (sz := 3) (e := 135) (X := H) (fun _ => rfl) hd).mono sbt).cs (i := k) (by omega)) | exact Bb)) ?_ E (Ao E E (Aa E))) E (Ao E E (Aa E))
   refine o_y E (Av (.cons (T E) (.cons (T E) .nil)) call91 (fun H' hs => before_s (toI (gd (insAll ((vs.map Vi.p).take k)) i)) (toI (gd vs k).p))) (o_y E (Aq (T E) (T E)) (Bx E (Af (Ae ?_))) E Ah) E (Ao E E (Aa E))
   first | refine Ar (Aa E) (fun c40 => ?_) (fun c40 => ?_) | refine A6 (Aa E) (fun c40 => ?_) (fun c40 => ?_)
   ·refine A2 (Ae (Aw (Ab (y_ (Ac (T E)) (y_ (Bt (T E) Aj (by omega)) ?_ E) E))))
    refine y_ (Ad (T E)) (Af (Bl ?_)) E
    refine Bn (i + 1) ?_ ?_ ⟨(by first | exact Aa E | (refine Ak (Aa E) (vint ?_); omega) | (refine Ak (Aa E) ?_; simp; done) | (refine Ak (Aa E) ?_; exact by rw [hin])), trivial⟩ ⟨Aa E, Aa E, Aa E, trivial⟩ ?_
    ·refine ⟨by omega, fun j hj => ?_⟩
     by_cases e : j = i
     ·subst e
      have h2 : befF (toI (gd (insAll ((vs.map Vi.p).take k)) j)) (toI (gd vs k).p) = true := decide_eq_true c40
      rw [befF_lt] at h2; exact of_decide_eq_true h2
     ·exact hlt j (by omega)
    ·first | omega | (simp only []; omega)
    ·exact sbt
   ·refine B4 (A0 (A4 (A3 (Ae (Ag (Ab (y_ (Ad Aj) (Af (Ae (Ag (Ab (y_ (Ac (T E)) (y_ (Ac (T E)) (y_ (Ac (T E)) (y_ (yl_sliceH  (T E) (T E) runUnderlying59 sizeOf74 (by omega)) ?_ E) E) E) E))))) E)))))))
    refine e_ (eff_appNil ((insAll ((vs.map Vi.p).take k)).take i) (by' := 16) (by first | exact (by simp; omega) | omega) (T E) (T E) runUnderlying59 runUnderlying59 sizeOf74 typeInfo74 E zeroValue74 E (fun _ => rfl) (fun _ => rfl) (by decide) (by simp; omega) (((Bq (w0 := w0) (enc := encPl) (sz := 2) (e := 74) (X := H) (fun _ => rfl) hd9).mono sbt).take i)) ?_ E
    rintro _ _ ⟨d1, rfl, hd1, rfl⟩
    refine y_ (Ad (T E)) (Af (Ae (Bh [(9, _), (10, _), (11, _), (12, _), (13, _)] ⟨Aa E, Aa E, Aa E, Aa E, Aa E, trivial⟩ (Ag (Ab (y_ (Ac (T E)) (y_ (Ac (T E)) (y_ (Ac (T E)) (y_ (Ck (T E) (T E) runUnderlying132 sizeOf135 (by omega) (by first | exact rfl | exact (Bq (w0 := w0) (enc := encVi) (sz := 3) (e := 135) (X := []) (fun _ => rfl) hd).b (i := k) (by omega) | exact (Bq (w0 := w0) (enc := encPl) (sz := 2) (e := 74) (X := []) (fun _ => rfl) hd9).b (i := i) (by omega))) ?_ E) E) E) E)))))) E
    refine y_ (Bc (T E) fa135_0) (y_ (Am (T E) isAgg74 sizeOf74 E (by first | exact cells_take (k := 2) (((Bq (w0 := w0) (enc := encVi) (sz := 3) (e := 135) (X := H) (fun _ => rfl) hd).mono sbt).cs (i := k) (by omega)) | exact Bb)) ?_ E) E
    refine e_ (Ap (.cons (T E) .nil) (bs59_1_0 _ _)) ?_ E
    rintro _ _ ⟨n54, rfl, rfl⟩
    refine e_ (Cz ((gd vs k).p) (by' := 16) (enc := encPl) (by repeat (first | exact LocL.h | apply LocL.t | apply LocL.a)) (T E) (T E) runUnderlying59 runUnderlying59 sizeOf74 typeInfo74 E zeroValue74 E (fun _ => rfl) E hd1 (by decide) (by simp; omega)) ?_ E
    rintro _ _ ⟨d2, rfl, hd2, rfl⟩
    refine y_ (Ad (T E)) (Af (Ae (Ab (y_ (Ac (T E)) (y_ (Ac (T E)) (y_ (Ac (T E)) (y_ (yl_sliceL  (T E) (T E) runUnderlying59 sizeOf74 (by omega)) ?_ E) E) E) E)))) E
    refine e_ (eff_appTo ((insAll ((vs.map Vi.p).take k)).drop i) (by' := 16) (enc := encPl) (by first | exact (by simp) | omega) (by repeat (first | exact LocL.h | apply LocL.t | apply LocL.a)) (T E) (T E) runUnderlying59 runUnderlying59 sizeOf74 typeInfo74 E zeroValue74 E (fun _ => rfl) (fun _ => rfl) hd2 (by decide) (by simp; omega) (((Bq (w0 := w0) (enc := encPl) (sz := 2) (e := 74) (X := H) (fun _ => rfl) hd9).mono sbt).drop (sl_le hd9) i)) ?_ E
    rintro _ _ ⟨d3, rfl, hd3, rfl⟩
    refine y_ (Ad (T E)) (Af (Bl (Ae (Ab (y_ (Ac (T E)) (y_ (Bt (T E) Aj (by omega)) ?_ E) E))))) E
    refine y_ (Ad (T E)) (Af ?_) E
    have hin : insAll ((vs.map Vi.p).take (k + 1)) = (insAll ((vs.map Vi.p).take k)).take i ++ [(gd vs k).p] ++ (insAll ((vs.map Vi.p).take k)).drop i := by
     rw [hit]
     exact insP_at hi hlt (fun h => by first | omega | (have h2 : befF (toI (gd (insAll ((vs.map Vi.p).take k)) i)) (toI (gd vs k).p) = false := decide_eq_false c40; rw [befF_lt] at h2; exact of_decide_eq_false h2))
    refine Bn ((k + 1, d3)) ?_ ?_ ⟨(by first | exact Aa E | (refine Ak (Aa E) (vint ?_); omega) | (refine Ak (Aa E) ?_; simp; done) | (refine Ak (Aa E) ?_; exact by rw [hin])), (by first | exact Aa E | (refine Ak (Aa E) (vint ?_); omega) | (refine Ak (Aa E) ?_; simp; done) | (refine Ak (Aa E) ?_; exact by rw [hin])), trivial⟩ ⟨Aa E, trivial⟩ ?_
    ·show k + 1 ≤ _ ∧ SlOk d3 (insAll ((vs.map Vi.p).take (k + 1))).length 2
     rw [hin]; exact ⟨by omega, hd3⟩
    ·first | omega | (simp only []; omega)
    ·show (slH d3 ((insAll ((vs.map Vi.p).take (k + 1))).flatMap encPl) 74 ++ _).Sublist _
     rw [hin]; exact sbt
  ·refine o_n E (o_n E (o_n E (o_n E (o_n E (o_n E (o_n E (o_n E (o_n E (o_n E (o_y E (Au (T E) Aj) (Bx E (Af (Ae ?_))) E Ah) E (B8 E E (Aa E))) E (B8 E E (Aa E))) E (B8 E E (Aa E))) E (B8 E E (Aa E))) E (B8 E E (Aa E))) E (B8 E E (Aa E))) E (B8 E E (Aa E))) E (B8 E E (Aa E))) E (B8 E E (Aa E))) E (B8 E E (Aa E))
   first | refine Br (Aa E) ?_ | refine Br (Ak (Aa E) (vbool (decide_eq_false c40))) ?_
   refine B4 (A0 (A4 (A3 (Ae (Ag (Ab (y_ (Ad Aj) (Af (Ae (Ag (Ab (y_ (Ac (T E)) (y_ (Ac (T E)) (y_ (Ac (T E)) (y_ (yl_sliceH  (T E) (T E) runUnderlying59 sizeOf74 (by omega)) ?_ E) E) E) E))))) E)))))))
   refine e_ (eff_appNil ((insAll ((vs.map Vi.p).take k)).take i) (by' := 16) (by first | exact (by simp; omega) | omega) (T E) (T E) runUnderlying59 runUnderlying59 sizeOf74 typeInfo74 E zeroValue74 E (fun _ => rfl) (fun _ => rfl) (by decide) (by simp; omega) (((Bq (w0 := w0) (enc := encPl) (sz := 2) (e := 74) (X := H) (fun _ => rfl) hd9).mono sbt).take i)) ?_ E
   rintro _ _ ⟨d1, rfl, hd1, rfl⟩
   refine y_ (Ad (T E)) (Af (Ae (Bh [(9, _), (10, _), (11, _), (12, _), (13, _)] ⟨Aa E, Aa E, Aa E, Aa E, Aa E, trivial⟩ (Ag (Ab (y_ (Ac (T E)) (y_ (Ac (T E)) (y_ (Ac (T E)) (y_ (Ck (T E) (T E) runUnderlying132 sizeOf135 (by omega) (by first | exact rfl | exact (Bq (w0 := w0) (enc := encVi) (sz := 3) (e := 135) (X := []) (fun _ => rfl) hd).b (i := k) (by omega) | exact (Bq (w0 := w0) (enc := encPl) (sz := 2) (e := 74) (X := []) (fun _ => rfl) hd9).b (i := i) (by omega))) ?_ E) E) E) E)))))) E
   refine y_ (Bc (T E) fa135_0) (y_ (Am (T E) isAgg74 sizeOf74 E (by first | exact cells_take (k := 2) (((Bq (w0 := w0) (enc := encVi) (sz := 3) (e := 135) (X := H) (fun _ => rfl) hd).mono sbt).cs (i := k) (by omega)) | exact Bb)) ?_ E) E
   refine e_ (Ap (.cons (T E) .nil) (bs59_1_0 _ _)) ?_ E
   rintro _ _ ⟨n54, rfl, rfl⟩
   refine e_ (Cz ((gd vs k).p) (by' := 16) (enc := encPl) (by repeat (first | exact LocL.h | apply LocL.t | apply LocL.a)) (T E) (T E) runUnderlying59 runUnderlying59 sizeOf74 typeInfo74 E zeroValue74 E (fun _ => rfl) E hd1 (by decide) (by simp; omega)) ?_ E
   rintro _ _ ⟨d2, rfl, hd2, rfl⟩
   refine y_ (Ad (T E)) (Af (Ae (Ab (y_ (Ac (T E)) (y_ (Ac (T E)) (y_ (Ac (T E)) (y_ (yl_sliceL  (T E) (T E) runUnderlying59 sizeOf74 (by omega)) ?_ E) E) E) E)))) E
   refine e_ (eff_appTo ((insAll ((vs.map Vi.p).take k)).drop i) (by' := 16) (enc := encPl) (by first | exact (by simp) | omega) (by repeat (first | exact LocL.h | apply LocL.t | apply LocL.a)) (T E) (T E) runUnderlying59 runUnderlying59 sizeOf74 typeInfo74 E zeroValue74 E (fun _ => rfl) (fun _ => rfl) hd2 (by decide) (by simp; omega) (((Bq (w0 := w0) (enc := encPl) (sz := 2) (e := 74) (X := H) (fun _ => rfl) hd9).mono sbt).drop (sl_le hd9) i)) ?_ E
   rintro _ _ ⟨d3, rfl, hd3, rfl⟩
   refine y_ (Ad (T E)) (Af (Bl (Ae (Ab (y_ (Ac (T E)) (y_ (Bt (T E) Aj (by omega)) ?_ E) E))))) E
   refine y_ (Ad (T E)) (Af ?_) E
   have hin : insAll ((vs.map Vi.p).take (k + 1)) = (insAll ((vs.map Vi.p).take k)).take i ++ [(gd vs k).p] ++ (insAll ((vs.map Vi.p).take k)).drop i := by
    rw [hit]
    exact insP_at hi hlt (fun h => by first | omega | (have h2 : befF (toI (gd (insAll ((vs.map Vi.p).take k)) i)) (toI (gd vs k).p) = false := decide_eq_false c40; rw [befF_lt] at h2; exact of_decide_eq_false h2))
   refine Bn ((k + 1, d3)) ?_ ?_ ⟨(by first | exact Aa E | (refine Ak (Aa E) (vint ?_); omega) | (refine Ak (Aa E) ?_; simp; done) | (refine Ak (Aa E) ?_; exact by rw [hin])), (by first | exact Aa E | (refine Ak (Aa E) (vint ?_); omega) | (refine Ak (Aa E) ?_; simp; done) | (refine Ak (Aa E) ?_; exact by rw [hin])), trivial⟩ ⟨Aa E, trivial⟩ ?_
   ·show k + 1 ≤ _ ∧ SlOk d3 (insAll ((vs.map Vi.p).take (k + 1))).length 2
    rw [hin]; exact ⟨by omega, hd3⟩
   ·first | omega | (simp only []; omega)
   ·show (slH d3 ((insAll ((vs.map Vi.p).take (k + 1))).flatMap encPl) 74 ++ _).Sublist _
    rw [hin]; exact sbt
 ·refine B4 (A0 (A4 (A3 (Ae (Ag (Ab (y_ (Ac (T E)) (y_ (Ad (T E)) (Af (Ae (Ay (Az E (.tmp (Aa E) .nil) ?_)))) E) E)))))))
  have hk2 : (vs.map Vi.p).take k = if f.node = x then [] else metF n f m.pl x := by
   rw [List.take_of_length_le (by simp; omega)]; exact vis_map ho.on ho.om hx hdead hvr
  refine ⟨slH d9 ((insAll ((vs.map Vi.p).take k)).flatMap encPl) 74 ++ H, ?_, sbt⟩
  rw [hk2] at hd9 ⊢
  exact ⟨d9, ⟨rfl, hd9⟩, rfl⟩
end Go.Proofs.YtkdolgnpkjihpaaGreatDoor
namespace Go.Proofs.YtkdolgnpkjihpaaGreatDoor
open _root_.Go.Proofs.Tryz
open Go.RowKit
set_option linter.unusedVariables false
set_option linter.unusedSimpArgs false
theorem plIn_nat {n : Nn} {m : PM} {to : Nat} {l : List (Int × Int)} {k : Nat} (h : PlIn n m to l k) : gd l k = toI (toN (gd l k)) ∧ PlOk n m (toN (gd l k)) := by
 obtain ⟨⟨a1, a3⟩, ⟨a2, a4⟩, _, _⟩ := h
 refine ⟨?_, ?_, ?_⟩
 ·show gd l k = (((gd l k).1.toNat : Int), ((gd l k).2.toNat : Int))
  rw [Int.toNat_of_nonneg a1, Int.toNat_of_nonneg a2]
 ·show (gd l k).1.toNat < _; omega
 ·show (gd l k).2.toNat < _; omega
theorem rrefutes_s {w0 : World} {H : List (Nat × Obj)} (n : Nn) (f : Flr) (m : Mc) (he : Env w0 H n f m) (ho : EnvOk n f m) (x : Nat) (hx : x < n.nodes.length) (to : Nat) (l : List (Int × Int)) (q : Option Addr) (c : Nat) (hA : Arr w0 H q 2 encPI l) (hlen : l.length ≤ 1000000) :
  FSpec Tryz.prog w0 38 #[.agg (encNn n).toArray, .agg (encFl f).toArray, .agg (encMc m).toArray, .int .i64 (x : Int), .int .i64 (to : Int), .slice q l.length c] H (Still (.bool (decide (RefOk n f m.pl x to l))) H) := by
 refine A9 Tryz.func38 E ntmps38 E ?_
 have hrl : m.pl.next.length = m.rows.length := List.length_map ..
 have hal : m.acc.length = m.rows.length := by have := ho.om.acc; rw [hrl] at this; exact this
 have hp0 := p0_ok (n := n) (m := m.pl) ho.om hx
 have hsome := ho.om.some'
 refine Ag (Ab (e_ (Ba (T E) cs_) ?_ E))
 rintro _ _ ⟨n6, rfl, rfl⟩
 refine e_ (Ba (T E) cs_) ?_ E
 rintro _ _ ⟨n7, rfl, rfl⟩
 refine e_ (Ba (T E) cs_) ?_ E
 rintro _ _ ⟨n8, rfl, rfl⟩
 refine y_ (Ad Aj) (Af (Ae (Ag (Ag (Ab (y_ (Ad Aj) (Af (Ae (Aw ?_))) E)))))) E
 refine Cc (X := Nat) (V := fun k => [(13, .int .i64 (k : Nat))]) (C := [(3, _), (4, _), (5, _), (6, _), (7, _), (8, _)]) (φ := fun k => k ≤ l.length ∧ ∀ j, j < k → PlIn n m.pl to l j) (μ := fun k => l.length - k) (x0 := 0) ?_ ⟨Aa E, Aa E, Aa E, Aa E, Aa E, Aa E, trivial⟩ ⟨(by first | exact Aa E | (refine Ak (Aa E) (vint ?_); omega) | (refine Ak (Aa E) ?_; simp; done)), trivial⟩ ?_
 ·exact ⟨Nat.zero_le _, fun j hj => absurd hj (Nat.not_lt_zero _)⟩
 rintro k ⟨hk, hall⟩
 refine Ag (Ag (Ab (y_ (Ac (T E)) (y_ (Ac (T E)) (y_ (Bp (T E) runUnderlying59) (y_ (Bu (T E) (T E)) (Af (Ae ?_)) E) E) E) E)))
 first | refine Ar (Aa E) (fun c27 => ?_) (fun c27 => ?_) | refine A6 (Aa E) (fun c27 => ?_) (fun c27 => ?_)
 ·refine A2 (Ae (Ag (Aw (Ag (Ab (y_ (Ac (T E)) (y_ (Ac (T E)) (y_ (Be (T E) (T E) runUnderlying59 sizeOf74 (by omega) (by first | exact rfl | exact hA.b (i := k) (by omega) | exact he.m.a3.b (i := (gd l k).2.toNat) (by omega) | exact hA.b (i := ((k : Int) - 1).toNat) (by omega) | exact he.n.nodes.b (i := x) hx | exact he.n.links.b (i := (gd (outF n (toN (gd l k)).1) i)) hlk | exact he.n.nodes.b (i := (gd n.links (gd (outF n (toN (gd l k)).1) i)).dst) hdst | exact (Bq (w0 := w0) (enc := encU) (sz := 1) (e := 3) (X := []) (fun _ => rfl) hd12).b (i := i) (by omega))) ?_ E) E) E))))))
  refine y_ (Am (T E) isAgg74 sizeOf74 E (by first | exact (hA.mono sbt).cs (i := k) (by omega) | exact Bb)) ?_ E
  refine e_ (A5 zeroValue74 cs_) ?_ E
  rintro _ _ ⟨n14, rfl, rfl⟩
  first | refine Bk (A7 (T E) (T E) sizeOf74) E Ah ?_
  rintro _ _ ⟨rfl, rfl⟩
  refine Af (Ae (Ag (Ag (Ab (y_ (Bc (T E) Dm) (y_ (Ai (T E) isAgg3 (by first | exact c_o)) ?_ E) E)))))
  refine y_ (Bu (T E) Aj) (y_ (Ac (T E)) ?_ E) E
  first | refine Bz (s := 37) (Aa E) (fun c37 => ?_) (fun c37 => ?_) | refine Cf (s := 37) (Aa E) (fun c37 => ?_) (fun c37 => ?_)
  ·have hbad : ¬ PlIn n m.pl to l k := fun hq => by
    obtain ⟨q1, q2, q3, q4⟩ := hq
    omega
   refine Bm (Bm (Bm (Bm (Bm (Bm (y_ (Aq (T E) Aj) (y_ (Ac (T E)) (Bm (Bm (Bm (y_ (Aq (T E) Aj) (y_ (Ac (T E)) (Bm (Bm (Bm (Bm (Bm (Bm (y_ (Aq (T E) Aj) (y_ (Ac (T E)) (Bm (Bm (Bm (Bm (Bm (n_u (n_u (n_u (n_u (n_u (n_u (Bm (y_ (Aq (T E) Aj) (Af (Ae (Bh [(3, _), (4, _), (5, _), (6, _), (7, _), (8, _), (13, _), (14, _), (71, _)] ⟨Aa E, Aa E, Aa E, Aa E, Aa E, Aa E, Aa E, Aa E, Aa E, trivial⟩ ?_))) E) E E E E) E E E E) E E E E) E E E E) E E E E) E E E E) E E E E) E E E E) E E E E) E E E E) E E E E) E E E E) E) E) E E E E) E E E E) E E E E) E E E E) E E E E) E E E E) E) E) E E E E) E E E E) E E E E) E) E) E E E E) E E E E) E E E E) E E E E) E E E E) E E E E
   first | refine A8 (Aa E) ?_ | refine A8 (Ak (Aa E) (vbool (decide_eq_true c71))) ?_
   refine Ag (Ab (y_ (Ad Aj) (Af (Ae (Ay (Al (An (Al (Bo (An (Al (Az E (.tmp (Aa E) .nil) ?_)))))))))) E))
   first | exact ⟨_, ⟨vbool (by rw [C1 (by omega) hbad]), rfl⟩, sbt⟩ | exact ⟨_, ⟨vbool (by symm; exact decide_eq_false hno), rfl⟩, sbt⟩ | exact ⟨_, ⟨vbool (by symm; exact decide_eq_true ⟨hall2, hpp, fun j hj => hcl j (by omega)⟩), rfl⟩, sbt⟩
  ·refine Ax (Bc (T E) Dm) E (Ao E E (Aa E)) (Ax (Ai (T E) isAgg3 (by first | exact c_o)) E (Ao E E (Aa E)) ?_)
   refine Ax (Bc (T E) C8) E (Ao E E (Aa E)) (Ax (Ai (T E) isAgg52 (by first | exact c_o)) E (Ao E E (Aa E)) ?_)
   refine Ax (Bp (T E) runUnderlying52) E (Ao E E (Aa E)) (Ax (C2 (T E) (T E)) E (Ao E E (Aa E)) (y_ (Au (T E) (T E)) (y_ (Ac (T E)) ?_ E) E))
   first | refine Bz (s := 45) (Aa E) (fun c45 => ?_) (fun c45 => ?_) | refine Cf (s := 45) (Aa E) (fun c45 => ?_) (fun c45 => ?_)
   ·have hbad : ¬ PlIn n m.pl to l k := fun hq => by
     obtain ⟨q1, q2, q3, q4⟩ := hq
     omega
    refine Bm (Bm (Bm (y_ (Aq (T E) Aj) (y_ (Ac (T E)) (Bm (Bm (Bm (Bm (Bm (Bm (y_ (Aq (T E) Aj) (y_ (Ac (T E)) (Bm (Bm (Bm (Bm (Bm (n_u (n_u (n_u (n_u (n_u (n_u (Bm (y_ (Aq (T E) Aj) (Af (Ae (Bh [(3, _), (4, _), (5, _), (6, _), (7, _), (8, _), (13, _), (14, _), (71, _)] ⟨Aa E, Aa E, Aa E, Aa E, Aa E, Aa E, Aa E, Aa E, Aa E, trivial⟩ ?_))) E) E E E E) E E E E) E E E E) E E E E) E E E E) E E E E) E E E E) E E E E) E E E E) E E E E) E E E E) E E E E) E) E) E E E E) E E E E) E E E E) E E E E) E E E E) E E E E) E) E) E E E E) E E E E) E E E E
    first | refine A8 (Aa E) ?_ | refine A8 (Ak (Aa E) (vbool (decide_eq_true c71))) ?_
    refine Ag (Ab (y_ (Ad Aj) (Af (Ae (Ay (Al (An (Al (Bo (An (Al (Az E (.tmp (Aa E) .nil) ?_)))))))))) E))
    first | exact ⟨_, ⟨vbool (by rw [C1 (by omega) hbad]), rfl⟩, sbt⟩ | exact ⟨_, ⟨vbool (by symm; exact decide_eq_false hno), rfl⟩, sbt⟩ | exact ⟨_, ⟨vbool (by symm; exact decide_eq_true ⟨hall2, hpp, fun j hj => hcl j (by omega)⟩), rfl⟩, sbt⟩
   ·refine Ax (Bi (T E) Du) E (Ao E E (Aa E)) (Ax (Ai (T E) isAgg3 (by first | exact c_o)) E (Ao E E (Aa E)) ?_)
    refine Ax (Bu (T E) Aj) E (Ao E E (Aa E)) (y_ (Au (T E) (T E)) (y_ (Ac (T E)) ?_ E) E)
    first | refine Bz (s := 50) (Aa E) (fun c50 => ?_) (fun c50 => ?_) | refine Cf (s := 50) (Aa E) (fun c50 => ?_) (fun c50 => ?_)
    ·have hbad : ¬ PlIn n m.pl to l k := fun hq => by
      obtain ⟨q1, q2, q3, q4⟩ := hq
      omega
     refine Bm (Bm (Bm (Bm (Bm (Bm (y_ (Aq (T E) Aj) (y_ (Ac (T E)) (Bm (Bm (Bm (Bm (Bm (n_u (n_u (n_u (n_u (n_u (n_u (Bm (y_ (Aq (T E) Aj) (Af (Ae (Bh [(3, _), (4, _), (5, _), (6, _), (7, _), (8, _), (13, _), (14, _), (71, _)] ⟨Aa E, Aa E, Aa E, Aa E, Aa E, Aa E, Aa E, Aa E, Aa E, trivial⟩ ?_))) E) E E E E) E E E E) E E E E) E E E E) E E E E) E E E E) E E E E) E E E E) E E E E) E E E E) E E E E) E E E E) E) E) E E E E) E E E E) E E E E) E E E E) E E E E) E E E E
     first | refine A8 (Aa E) ?_ | refine A8 (Ak (Aa E) (vbool (decide_eq_true c71))) ?_
     refine Ag (Ab (y_ (Ad Aj) (Af (Ae (Ay (Al (An (Al (Bo (An (Al (Az E (.tmp (Aa E) .nil) ?_)))))))))) E))
     first | exact ⟨_, ⟨vbool (by rw [C1 (by omega) hbad]), rfl⟩, sbt⟩ | exact ⟨_, ⟨vbool (by symm; exact decide_eq_false hno), rfl⟩, sbt⟩ | exact ⟨_, ⟨vbool (by symm; exact decide_eq_true ⟨hall2, hpp, fun j hj => hcl j (by omega)⟩), rfl⟩, sbt⟩
    ·refine Ax (Bi (T E) Du) E (Ao E E (Aa E)) (Ax (Ai (T E) isAgg3 (by first | exact c_o)) E (Ao E E (Aa E)) ?_)
     refine Ax (Bi (T E) Cv) E (Ao E E (Aa E)) (Ax (Ai (T E) isAgg26 (by first | exact c_o)) E (Ao E E (Aa E)) ?_)
     refine Ax (Bp (T E) runUnderlying26) E (Ao E E (Aa E)) (Ax (C2 (T E) (T E)) E (Ao E E (Aa E)) (y_ (Au (T E) (T E)) (y_ (Ac (T E)) ?_ E) E))
     first | refine Bz (s := 58) (Aa E) (fun c58 => ?_) (fun c58 => ?_) | refine Cf (s := 58) (Aa E) (fun c58 => ?_) (fun c58 => ?_)
     ·have hbad : ¬ PlIn n m.pl to l k := fun hq => by
       obtain ⟨q1, q2, q3, q4⟩ := hq
       omega
      refine Bm (Bm (Bm (Bm (Bm (n_u (n_u (n_u (n_u (n_u (n_u (Bm (y_ (Aq (T E) Aj) (Af (Ae (Bh [(3, _), (4, _), (5, _), (6, _), (7, _), (8, _), (13, _), (14, _), (71, _)] ⟨Aa E, Aa E, Aa E, Aa E, Aa E, Aa E, Aa E, Aa E, Aa E, trivial⟩ ?_))) E) E E E E) E E E E) E E E E) E E E E) E E E E) E E E E) E E E E) E E E E) E E E E) E E E E) E E E E) E E E E
      first | refine A8 (Aa E) ?_ | refine A8 (Ak (Aa E) (vbool (decide_eq_true c71))) ?_
      refine Ag (Ab (y_ (Ad Aj) (Af (Ae (Ay (Al (An (Al (Bo (An (Al (Az E (.tmp (Aa E) .nil) ?_)))))))))) E))
      first | exact ⟨_, ⟨vbool (by rw [C1 (by omega) hbad]), rfl⟩, sbt⟩ | exact ⟨_, ⟨vbool (by symm; exact decide_eq_false hno), rfl⟩, sbt⟩ | exact ⟨_, ⟨vbool (by symm; exact decide_eq_true ⟨hall2, hpp, fun j hj => hcl j (by omega)⟩), rfl⟩, sbt⟩
     ·refine Ax (Bc (T E) Dm) E (Ao E E (Aa E)) (Ax (Ai (T E) isAgg3 (by first | exact c_o)) E (Ao E E (Aa E)) ?_)
      refine Ax (Ac (T E)) E (Ao E E (Aa E)) (Ax (B2 (T E) (T E)) E (Ao E E (Aa E)) (Ax (Ac (T E)) E (Ao E E (Aa E)) ?_))
      first | refine Bz (s := 63) (Aa E) (fun c63 => ?_) (fun c63 => ?_) | refine Cf (s := 63) (Aa E) (fun c63 => ?_) (fun c63 => ?_)
      ·refine Ax (Bi (T E) Dr) E (Ao E E (Aa E)) (Ax (Ai (T E) isAgg27 (by first | exact c_o)) E (Ao E E (Aa E)) ?_)
       refine Ax (Bi (T E) Du) E (Ao E E (Aa E)) (Ax (Ai (T E) isAgg3 (by first | exact c_o)) E (Ao E E (Aa E)) ?_)
       refine Ax (Ck (T E) (T E) runUnderlying27 sizeOf4 (by omega) (by first | exact rfl | exact hA.b (i := k) (by omega) | exact he.m.a3.b (i := (gd l k).2.toNat) (by omega) | exact hA.b (i := ((k : Int) - 1).toNat) (by omega) | exact he.n.nodes.b (i := x) hx | exact he.n.links.b (i := (gd (outF n (toN (gd l k)).1) i)) hlk | exact he.n.nodes.b (i := (gd n.links (gd (outF n (toN (gd l k)).1) i)).dst) hdst | exact (Bq (w0 := w0) (enc := encU) (sz := 1) (e := 3) (X := []) (fun _ => rfl) hd12).b (i := i) (by omega))) E (Ao E E (Aa E)) ?_
       refine Ax (Ai (T E) isAgg4 (by first | exact c_o | exact cell1 ((he.m.a3.mono sbt).cs (i := (gd l k).2.toNat) (by omega)))) E (Ao E E (Aa E)) ?_
       refine Ax (Aq (T E) (T E)) E (Ao E E (Aa E)) (y_ (Au (T E) (T E)) (Af (Ae (Bh [(3, _), (4, _), (5, _), (6, _), (7, _), (8, _), (13, _), (14, _), (71, _)] ⟨Aa E, Aa E, Aa E, Aa E, Aa E, Aa E, Aa E, Aa E, Aa E, trivial⟩ ?_))) E)
       first | refine Ar (Aa E) (fun c71 => ?_) (fun c71 => ?_) | refine A6 (Aa E) (fun c71 => ?_) (fun c71 => ?_)
       ·have hbad : ¬ PlIn n m.pl to l k := fun hq => by
         obtain ⟨q1, q2, q3, q4⟩ := hq
         exact q4 ⟨by omega, c71⟩
        refine Ag (Ab (y_ (Ad Aj) (Af (Ae (Ay (Al (An (Al (Bo (An (Al (Az E (.tmp (Aa E) .nil) ?_)))))))))) E))
        first | exact ⟨_, ⟨vbool (by rw [C1 (by omega) hbad]), rfl⟩, sbt⟩ | exact ⟨_, ⟨vbool (by symm; exact decide_eq_false hno), rfl⟩, sbt⟩ | exact ⟨_, ⟨vbool (by symm; exact decide_eq_true ⟨hall2, hpp, fun j hj => hcl j (by omega)⟩), rfl⟩, sbt⟩
       ·have hg4 : ¬ ((gd l k).1 = to ∧ gd m.pl.acc (gd l k).2.toNat = true) := fun hq => Bool.false_ne_true (c71.symm.trans hq.2)
        refine A2 (Ae (Ag (Ab (y_ (Ac (T E)) (y_ (C7 (T E) Aj) (Af (Ae ?_)) E) E))))
        first | refine Ar (Aa E) (fun c73 => ?_) (fun c73 => ?_) | refine A6 (Aa E) (fun c73 => ?_) (fun c73 => ?_)
        ·have hk1 : ((k : Int) - 1).toNat = k - 1 := by omega
         refine Ag (Ch 8 [(0, true), (1, true), (2, true), (3, true), (4, true), (5, true), (6, true), (7, true)] _ mixd (by kernel_rfl) sb0 ?_)
         refine o_y E (Ac (T E)) (o_y E (Ac (T E)) (o_y E (Dz (T E) Aj (by omega)) ?_ E Ah) E Ah) E Ah
         refine o_y E (Ck (T E) (T E) runUnderlying59 sizeOf74 (by omega) (by first | exact rfl | exact hA.b (i := k) (by omega) | exact he.m.a3.b (i := (gd l k).2.toNat) (by omega) | exact hA.b (i := ((k : Int) - 1).toNat) (by omega) | exact he.n.nodes.b (i := x) hx | exact he.n.links.b (i := (gd (outF n (toN (gd l k)).1) i)) hlk | exact he.n.nodes.b (i := (gd n.links (gd (outF n (toN (gd l k)).1) i)).dst) hdst | exact (Bq (w0 := w0) (enc := encU) (sz := 1) (e := 3) (X := []) (fun _ => rfl) hd12).b (i := i) (by omega))) ?_ E Ah
         refine o_y E (Am (T E) isAgg74 sizeOf74 E (by first | exact (hA.mono sbt).cs (i := ((k : Int) - 1).toNat) (by omega) | exact Bb)) ?_ E Ah
         refine o_y E (Am (T E) isAgg74 sizeOf74 E (by first | exact Bb)) ?_ E Ah
         refine o_y E (Av (.cons (T E) (.cons (T E) .nil)) call91 (fun H' hs => before_s (gd l ((k : Int) - 1).toNat) (gd l k))) (o_y E (Ad (T E)) (Bx E (Af (Ae (Ag (Ab (y_ (Ac (T E)) ?_ E)))))) E Ah) E Ah
         first | refine Ax (Ca (T E)) E Ah ?_ | refine Ax (Co (T E)) E Ah ?_
         refine Af (Ae ?_)
         first | refine Ar (Aa E) (fun c82 => ?_) (fun c82 => ?_) | refine A6 (Aa E) (fun c82 => ?_) (fun c82 => ?_)
         ·have hbad : ¬ PlIn n m.pl to l k := fun hq => by
           obtain ⟨q1, q2, q3, q4⟩ := hq
           rw [hk1] at c82
           exact c82 ((cmpPl_lt _ _).1 (q3 (by omega)))
          refine Ag (Ab (y_ (Ad Aj) (Af (Ae (Ay (An (Al (Bo (An (Al (Az E (.tmp (Aa E) .nil) ?_))))))))) E))
          first | exact ⟨_, ⟨vbool (by rw [C1 (by omega) hbad]), rfl⟩, sbt⟩ | exact ⟨_, ⟨vbool (by symm; exact decide_eq_false hno), rfl⟩, sbt⟩ | exact ⟨_, ⟨vbool (by symm; exact decide_eq_true ⟨hall2, hpp, fun j hj => hcl j (by omega)⟩), rfl⟩, sbt⟩
         ·have hgood : PlIn n m.pl to l k := ⟨by omega, by omega, fun hk0 => by first | (exfalso; omega) | (rw [hk1] at c82; rw [cmpPl_lt]; exact Decidable.not_not.1 c82), hg4⟩
          refine A2 (Bl (Ae (Ab (y_ (Ac (T E)) (y_ (Bt (T E) Aj (by omega)) ?_ E) E))))
          refine y_ (Ad (T E)) (Af ?_) E
          refine Bn (k + 1) ?_ ?_ ⟨(by first | exact Aa E | (refine Ak (Aa E) (vint ?_); omega) | (refine Ak (Aa E) ?_; simp; done)), trivial⟩ ⟨Aa E, Aa E, Aa E, Aa E, Aa E, Aa E, trivial⟩ ?_
          ·refine ⟨by omega, fun j hj => ?_⟩
           by_cases e : j = k
           ·subst e; exact hgood
           ·exact hall j (by omega)
          ·first | omega | (simp only []; omega)
          ·exact sbt
        ·have hgood : PlIn n m.pl to l k := ⟨by omega, by omega, fun hk0 => by first | (exfalso; omega) | (rw [hk1] at c82; rw [cmpPl_lt]; exact Decidable.not_not.1 c82), hg4⟩
         refine A2 (Bl (Ae (Ab (y_ (Ac (T E)) (y_ (Bt (T E) Aj (by omega)) ?_ E) E))))
         refine y_ (Ad (T E)) (Af ?_) E
         refine Bn (k + 1) ?_ ?_ ⟨(by first | exact Aa E | (refine Ak (Aa E) (vint ?_); omega) | (refine Ak (Aa E) ?_; simp; done)), trivial⟩ ⟨Aa E, Aa E, Aa E, Aa E, Aa E, Aa E, trivial⟩ ?_
         ·refine ⟨by omega, fun j hj => ?_⟩
          by_cases e : j = k
          ·subst e; exact hgood
          ·exact hall j (by omega)
         ·first | omega | (simp only []; omega)
         ·exact sbt
      ·have hg4 : ¬ ((gd l k).1 = to ∧ gd m.pl.acc (gd l k).2.toNat = true) := fun hq => c63 hq.1
       refine Bs (Bs (Bs (Bs (Bs (Bs (Ax (Au (T E) Aj) E (Ao E E (Aa E)) (y_ (Au (T E) (T E)) (Af (Ae (Bh [(3, _), (4, _), (5, _), (6, _), (7, _), (8, _), (13, _), (14, _), (71, _)] ⟨Aa E, Aa E, Aa E, Aa E, Aa E, Aa E, Aa E, Aa E, Aa E, trivial⟩ ?_))) E)) E E E E) E E E E) E E E E) E E E E) E E E E) E E E E
       first | refine Br (Aa E) ?_ | refine Br (Ak (Aa E) (vbool (decide_eq_false c71))) ?_
       refine A2 (Ae (Ag (Ab (y_ (Ac (T E)) (y_ (C7 (T E) Aj) (Af (Ae ?_)) E) E))))
       first | refine Ar (Aa E) (fun c73 => ?_) (fun c73 => ?_) | refine A6 (Aa E) (fun c73 => ?_) (fun c73 => ?_)
       ·have hk1 : ((k : Int) - 1).toNat = k - 1 := by omega
        refine Ag (Ch 8 [(0, true), (1, true), (2, true), (3, true), (4, true), (5, true), (6, true), (7, true)] _ mixd (by kernel_rfl) sb0 ?_)
        refine o_y E (Ac (T E)) (o_y E (Ac (T E)) (o_y E (Dz (T E) Aj (by omega)) ?_ E Ah) E Ah) E Ah
        refine o_y E (Ck (T E) (T E) runUnderlying59 sizeOf74 (by omega) (by first | exact rfl | exact hA.b (i := k) (by omega) | exact he.m.a3.b (i := (gd l k).2.toNat) (by omega) | exact hA.b (i := ((k : Int) - 1).toNat) (by omega) | exact he.n.nodes.b (i := x) hx | exact he.n.links.b (i := (gd (outF n (toN (gd l k)).1) i)) hlk | exact he.n.nodes.b (i := (gd n.links (gd (outF n (toN (gd l k)).1) i)).dst) hdst | exact (Bq (w0 := w0) (enc := encU) (sz := 1) (e := 3) (X := []) (fun _ => rfl) hd12).b (i := i) (by omega))) ?_ E Ah
        refine o_y E (Am (T E) isAgg74 sizeOf74 E (by first | exact (hA.mono sbt).cs (i := ((k : Int) - 1).toNat) (by omega) | exact Bb)) ?_ E Ah
        refine o_y E (Am (T E) isAgg74 sizeOf74 E (by first | exact Bb)) ?_ E Ah
        refine o_y E (Av (.cons (T E) (.cons (T E) .nil)) call91 (fun H' hs => before_s (gd l ((k : Int) - 1).toNat) (gd l k))) (o_y E (Ad (T E)) (Bx E (Af (Ae (Ag (Ab (y_ (Ac (T E)) ?_ E)))))) E Ah) E Ah
        first | refine Ax (Ca (T E)) E Ah ?_ | refine Ax (Co (T E)) E Ah ?_
        refine Af (Ae ?_)
        first | refine Ar (Aa E) (fun c82 => ?_) (fun c82 => ?_) | refine A6 (Aa E) (fun c82 => ?_) (fun c82 => ?_)
        ·have hbad : ¬ PlIn n m.pl to l k := fun hq => by
          obtain ⟨q1, q2, q3, q4⟩ := hq
          rw [hk1] at c82
          exact c82 ((cmpPl_lt _ _).1 (q3 (by omega)))
         refine Ag (Ab (y_ (Ad Aj) (Af (Ae (Ay (An (Al (Bo (An (Al (Az E (.tmp (Aa E) .nil) ?_))))))))) E))
         first | exact ⟨_, ⟨vbool (by rw [C1 (by omega) hbad]), rfl⟩, sbt⟩ | exact ⟨_, ⟨vbool (by symm; exact decide_eq_false hno), rfl⟩, sbt⟩ | exact ⟨_, ⟨vbool (by symm; exact decide_eq_true ⟨hall2, hpp, fun j hj => hcl j (by omega)⟩), rfl⟩, sbt⟩
        ·have hgood : PlIn n m.pl to l k := ⟨by omega, by omega, fun hk0 => by first | (exfalso; omega) | (rw [hk1] at c82; rw [cmpPl_lt]; exact Decidable.not_not.1 c82), hg4⟩
         refine A2 (Bl (Ae (Ab (y_ (Ac (T E)) (y_ (Bt (T E) Aj (by omega)) ?_ E) E))))
         refine y_ (Ad (T E)) (Af ?_) E
         refine Bn (k + 1) ?_ ?_ ⟨(by first | exact Aa E | (refine Ak (Aa E) (vint ?_); omega) | (refine Ak (Aa E) ?_; simp; done)), trivial⟩ ⟨Aa E, Aa E, Aa E, Aa E, Aa E, Aa E, trivial⟩ ?_
         ·refine ⟨by omega, fun j hj => ?_⟩
          by_cases e : j = k
          ·subst e; exact hgood
          ·exact hall j (by omega)
         ·first | omega | (simp only []; omega)
         ·exact sbt
       ·have hgood : PlIn n m.pl to l k := ⟨by omega, by omega, fun hk0 => by first | (exfalso; omega) | (rw [hk1] at c82; rw [cmpPl_lt]; exact Decidable.not_not.1 c82), hg4⟩
        refine A2 (Bl (Ae (Ab (y_ (Ac (T E)) (y_ (Bt (T E) Aj (by omega)) ?_ E) E))))
        refine y_ (Ad (T E)) (Af ?_) E
        refine Bn (k + 1) ?_ ?_ ⟨(by first | exact Aa E | (refine Ak (Aa E) (vint ?_); omega) | (refine Ak (Aa E) ?_; simp; done)), trivial⟩ ⟨Aa E, Aa E, Aa E, Aa E, Aa E, Aa E, trivial⟩ ?_
        ·refine ⟨by omega, fun j hj => ?_⟩
         by_cases e : j = k
         ·subst e; exact hgood
         ·exact hall j (by omega)
        ·first | omega | (simp only []; omega)
        ·exact sbt
 ·have hall2 : ∀ j, j < l.length → PlIn n m.pl to l j := fun j hj => hall j (by omega)
  refine B4 (A0 (A4 (A3 (Ae (Ag (Ab (y_ (Am (T E) isAgg58 sizeOf58 E (by first | exact Bb)) ?_ E)))))))
  refine y_ (Ac (T E)) (y_ (Av (.cons (T E) (.cons (T E) .nil)) call85 (fun H' hs => down_s f x)) (y_ (Ad (T E)) (Af (Ae ?_)) E) E) E
  refine j_cutC (X := Unit) (V := fun _ => []) (C := [(5, _), (6, _), (7, _), (8, _)]) (G := fun _ => (n8, Cl (encMc m) 29) :: (n7, Cl (encFl f) 58) :: (n6, Cl (encNn n) 56) :: H) (φ := fun _ => ¬ f.node = x → toI (p0F n m.pl x) ∈ l) ⟨Aa E, Aa E, Aa E, Aa E, trivial⟩ ?_ ?_
  ·refine Ag (Ab (y_ (Ac (T E)) ?_ E))
   first | refine Ax (Ca (T E)) E Ah ?_ | refine Ax (Co (T E)) E Ah ?_
   refine Af (Ae ?_)
   first | refine Ar (Aa E) (fun c87 => ?_) (fun c87 => ?_) | refine A6 (Aa E) (fun c87 => ?_) (fun c87 => ?_)
   ·refine Ag (Ch 13 [(0, true), (1, true), (2, true), (3, true), (4, true), (5, true), (6, true), (7, true), (8, true), (9, true), (10, true), (11, true), (12, true)] _ mixd (by kernel_rfl) sb0 ?_)
    refine o_y E (Ac (T E)) (o_y E (Ac (T E)) (o_y E (Am (T E) isAgg29 sizeOf29 E (by first | exact Bb)) ?_ E Ah) E Ah) E Ah
    refine o_y E (Bc (T E) C8) (o_y E (Ai (T E) isAgg52 (by first | exact c_o)) ?_ E Ah) E Ah
    refine o_y E (Ac (T E)) (o_y E (Be (T E) (T E) runUnderlying52 sizeOf138 (by omega) (by first | exact rfl | exact hA.b (i := k) (by omega) | exact he.m.a3.b (i := (gd l k).2.toNat) (by omega) | exact hA.b (i := ((k : Int) - 1).toNat) (by omega) | exact he.n.nodes.b (i := x) hx | exact he.n.links.b (i := (gd (outF n (toN (gd l k)).1) i)) hlk | exact he.n.nodes.b (i := (gd n.links (gd (outF n (toN (gd l k)).1) i)).dst) hdst | exact (Bq (w0 := w0) (enc := encU) (sz := 1) (e := 3) (X := []) (fun _ => rfl) hd12).b (i := i) (by omega))) ?_ E Ah) E Ah
    refine o_y E (Bc (T E) Dw) (o_y E (Ai (T E) isAgg9 (by first | exact c_o | exact c_m (he.n.nodes.f0 (i := x) hx E))) ?_ E Ah) E Ah
    refine o_y E (Av (.cons (T E) (.cons Aj (.cons (T E) .nil))) call70 (fun H' hs => rstep_s m (he.m.mono (List.Sublist.trans sbt hs)) ho.sr ho.ln ho.om 0 (by omega) (nmF n x))) ?_ E Ah
    refine o_y E (B1 (.cons (T E) (.cons (T E) .nil)) (bd74_0_1 _ _)) (o_y E (Av (.cons (T E) (.cons (T E) .nil)) call94 (fun H' hs => in_s l q c (hA.mono (List.Sublist.trans sbt hs)) hlen (toI (p0F n m.pl x)))) (o_y E (Ad (T E)) (Bx E (Af (Ae (Bh [(5, _), (6, _), (7, _), (8, _), (17, _)] ⟨Aa E, Aa E, Aa E, Aa E, Aa E, trivial⟩ (Ag (Ab (y_ (Ac (T E)) ?_ E))))))) E Ah) E Ah) E Ah
    first | refine Ax (Ca (T E)) E Ah ?_ | refine Ax (Co (T E)) E Ah ?_
    refine Af (Ae ?_)
    first | refine Ar (Aa E) (fun c101 => ?_) (fun c101 => ?_) | refine A6 (Aa E) (fun c101 => ?_) (fun c101 => ?_)
    ·have hno : ¬ RefOk n f m.pl x to l := fun h => absurd (h.2.1 c87) (by simpa using c101)
     refine Ag (Ab (y_ (Ad Aj) (Af (Ae (Ay (q_cut_ret (Az E (.tmp (Aa E) .nil) ?_))))) E))
     first | exact ⟨_, ⟨vbool (by rw [C1 (by omega) hbad]), rfl⟩, sbt⟩ | exact ⟨_, ⟨vbool (by symm; exact decide_eq_false hno), rfl⟩, sbt⟩ | exact ⟨_, ⟨vbool (by symm; exact decide_eq_true ⟨hall2, hpp, fun j hj => hcl j (by omega)⟩), rfl⟩, sbt⟩
    ·refine A2 (Bw (()) ?_ trivial ⟨Aa E, Aa E, Aa E, Aa E, trivial⟩ sbt)
     first | (exact fun h => absurd c87 (by simpa using h)) | (exact fun _ => by simpa using c101) | (intro h; simp_all)
   ·refine A2 (Bw (()) ?_ trivial ⟨Aa E, Aa E, Aa E, Aa E, trivial⟩ sbt)
    first | (exact fun h => absurd c87 (by simpa using h)) | (exact fun _ => by simpa using c101) | (intro h; simp_all)
  rintro _ hpp
  refine Ag (Ag (Ab (y_ (Ad Aj) (Af (Ae (Aw ?_))) E)))
  refine Cc (X := Nat) (V := fun k => [(18, .int .i64 (k : Nat))]) (C := [(5, _), (6, _), (7, _), (8, _)]) (φ := fun k => k ≤ l.length ∧ ∀ j, j < k → ∀ y ∈ movesF n f m.pl (toN (gd l j)), toI y.1 ∈ l) (μ := fun k => l.length - k) (x0 := 0) ?_ ⟨Aa E, Aa E, Aa E, Aa E, trivial⟩ ⟨(by first | exact Aa E | (refine Ak (Aa E) (vint ?_); omega) | (refine Ak (Aa E) ?_; simp; done)), trivial⟩ ?_
  ·exact ⟨Nat.zero_le _, fun j hj => absurd hj (Nat.not_lt_zero _)⟩
  rintro k ⟨hk2, hcl⟩
  refine Ag (Ag (Ab (y_ (Ac (T E)) (y_ (Ac (T E)) (y_ (Bp (T E) runUnderlying59) (y_ (Bu (T E) (T E)) (Af (Ae ?_)) E) E) E) E)))
  first | refine Ar (Aa E) (fun c105 => ?_) (fun c105 => ?_) | refine A6 (Aa E) (fun c105 => ?_) (fun c105 => ?_)
  ·obtain ⟨hpn, hpk⟩ := plIn_nat (hall2 k (by omega))
   have hol : (outF n (toN (gd l k)).1).length ≤ 30 := Nat.le_trans (outK_len n (toN (gd l k)).1 n.links.length) ho.on.fewL
   refine A2 (Ae (Ag (Aw (Ag (Ch 6 [(0, true), (1, true), (2, true), (3, true), (4, true), (5, true)] _ mixd (by kernel_rfl) sb0 ?_)))))
   refine o_y E (Am (T E) isAgg56 sizeOf56 E (by first | exact Bb)) ?_ E Ah
   refine o_y E (Ac (T E)) (o_y E (Ac (T E)) (o_y E (Be (T E) (T E) runUnderlying59 sizeOf74 (by omega) (by first | exact rfl | exact hA.b (i := k) (by omega) | exact he.m.a3.b (i := (gd l k).2.toNat) (by omega) | exact hA.b (i := ((k : Int) - 1).toNat) (by omega) | exact he.n.nodes.b (i := x) hx | exact he.n.links.b (i := (gd (outF n (toN (gd l k)).1) i)) hlk | exact he.n.nodes.b (i := (gd n.links (gd (outF n (toN (gd l k)).1) i)).dst) hdst | exact (Bq (w0 := w0) (enc := encU) (sz := 1) (e := 3) (X := []) (fun _ => rfl) hd12).b (i := i) (by omega))) ?_ E Ah) E Ah) E Ah
   refine o_y E (Bc (T E) Dm) (o_y E (Ai (T E) isAgg3 (by first | exact c_o | exact cell_e (v' := .int .i64 ((toN (gd l k)).1 : Int)) (congrArg (fun p : Int × Int => Value.int .i64 p.1) hpn) (c_m (hA.f0 (i := k) (by omega) E)))) ?_ E Ah) E Ah
   refine Bx E (e_ (A1 (.cons (T E) (.cons (T E) .nil)) call95 (rout_s n (he.n.mono sbt) ho.on (toN (gd l k)).1)) ?_ E)
   rintro _ _ ⟨d12, ⟨rfl, hd12⟩, rfl⟩
   refine y_ (Ad (T E)) (Af (Ae (Ag (Ab (y_ (Ad Aj) (Af (Ae (Aw ?_))) E))))) E
   refine Cc (X := Nat) (V := fun i => [(20, .int .i64 (i : Nat))]) (C := [(5, _), (6, _), (7, _), (8, _), (18, _), (19, _)]) (φ := fun i => i ≤ (outF n (toN (gd l k)).1).length ∧ ∀ y ∈ movK n f m.pl (toN (gd l k)) i, toI y.1 ∈ l) (μ := fun i => (outF n (toN (gd l k)).1).length - i) (x0 := 0) ?_ ⟨Aa E, Aa E, Aa E, Aa E, Aa E, Aa E, trivial⟩ ⟨(by first | exact Aa E | (refine Ak (Aa E) (vint ?_); omega) | (refine Ak (Aa E) ?_; simp; done)), trivial⟩ ?_
   ·exact ⟨Nat.zero_le _, fun y hy => by simp [movK] at hy⟩
   rintro i ⟨hi, hmk⟩
   refine Ag (Ag (Ab (y_ (Ac (T E)) (y_ (Ac (T E)) (y_ (Bp (T E) runUnderlying42) (y_ (Bu (T E) (T E)) (Af (Ae ?_)) E) E) E) E)))
   first | refine Ar (Aa E) (fun c118 => ?_) (fun c118 => ?_) | refine A6 (Aa E) (fun c118 => ?_) (fun c118 => ?_)
   ·have hlk := movesF_lab (n := n) (f := f) (m := m.pl) (p := toN (gd l k)) (Bg (i := i) (by omega))
    have hdst := (ho.on.ends _ (Bg hlk)).2
    refine A2 (Ae (Ag (Aw (Ag (Ch 8 [(0, true), (1, true), (2, true), (3, true), (4, true), (5, true), (6, true), (7, true)] _ mixd (by kernel_rfl) sb0 ?_)))))
    refine o_y E (Am (T E) isAgg56 sizeOf56 E (by first | exact Bb)) ?_ E Ah
    refine o_y E (Am (T E) isAgg58 sizeOf58 E (by first | exact Bb)) ?_ E Ah
    refine o_y E (Ac (T E)) (o_y E (Ac (T E)) (o_y E (Be (T E) (T E) runUnderlying42 sizeOf3 (by omega) (by first | exact rfl | exact hA.b (i := k) (by omega) | exact he.m.a3.b (i := (gd l k).2.toNat) (by omega) | exact hA.b (i := ((k : Int) - 1).toNat) (by omega) | exact he.n.nodes.b (i := x) hx | exact he.n.links.b (i := (gd (outF n (toN (gd l k)).1) i)) hlk | exact he.n.nodes.b (i := (gd n.links (gd (outF n (toN (gd l k)).1) i)).dst) hdst | exact (Bq (w0 := w0) (enc := encU) (sz := 1) (e := 3) (X := []) (fun _ => rfl) hd12).b (i := i) (by omega))) ?_ E Ah) E Ah) E Ah
    refine o_y E (Ai (T E) isAgg3 (by first | exact c_o | exact cell1 (((Bq (w0 := w0) (enc := encU) (sz := 1) (e := 3) (X := H) (fun _ => rfl) hd12).mono sbt).cs (i := i) (by omega)))) ?_ E Ah
    refine o_y E (Av (.cons (T E) (.cons (T E) (.cons (T E) .nil))) call86 (fun H' hs => rup_s n (he.n.mono (List.Sublist.trans sbt hs)) f (he.f.mono (List.Sublist.trans sbt hs)) ho.fl (gd (outF n (toN (gd l k)).1) i) hlk)) (o_y E (Ad (T E)) (Bx E (Af (Ae (Ag (Ag (Ab (y_ (Ac (T E)) ?_ E))))))) E Ah) E Ah
    first | refine Ax (Ca (T E)) E Ah ?_ | refine Ax (Co (T E)) E Ah ?_
    refine Af (Ae ?_)
    first | refine Ar (Aa E) (fun c129 => ?_) (fun c129 => ?_) | refine A6 (Aa E) (fun c129 => ?_) (fun c129 => ?_)
    ·have hmy := movK_no (m := m.pl) (p := toN (gd l k)) (f := f) (n := n) (i := i) (by omega) (by simpa using c129)
     refine B4 (A0 (A3 (Ae (Ab (y_ (Ac (T E)) (y_ (Bt (T E) Aj (by omega)) ?_ E) E)))))
     refine y_ (Ad (T E)) (Af ?_) E
     refine Bn (i + 1) ?_ ?_ ⟨(by first | exact Aa E | (refine Ak (Aa E) (vint ?_); omega) | (refine Ak (Aa E) ?_; simp; done)), trivial⟩ ⟨Aa E, Aa E, Aa E, Aa E, Aa E, Aa E, trivial⟩ ?_
     ·refine ⟨by omega, ?_⟩
      rw [hmy]; exact hmk
     ·first | omega | (simp only []; omega)
     ·exact sbt
    ·have hmy := movK_yes (m := m.pl) (p := toN (gd l k)) (f := f) (n := n) (i := i) (by omega) (by simpa using c129)
     refine A2 (Ae (Ag (Ch 10 [(0, true), (1, true), (2, true), (3, true), (4, true), (5, true), (6, true), (7, true), (8, true), (9, true)] _ mixd (by kernel_rfl) sb0 ?_)))
     refine o_y E (Bi (T E) C6) (o_y E (Ai (T E) isAgg53 (by first | exact c_o)) ?_ E Ah) E Ah
     refine o_y E (Ac (T E)) (o_y E (Ac (T E)) (o_y E (Be (T E) (T E) runUnderlying42 sizeOf3 (by omega) (by first | exact rfl | exact hA.b (i := k) (by omega) | exact he.m.a3.b (i := (gd l k).2.toNat) (by omega) | exact hA.b (i := ((k : Int) - 1).toNat) (by omega) | exact he.n.nodes.b (i := x) hx | exact he.n.links.b (i := (gd (outF n (toN (gd l k)).1) i)) hlk | exact he.n.nodes.b (i := (gd n.links (gd (outF n (toN (gd l k)).1) i)).dst) hdst | exact (Bq (w0 := w0) (enc := encU) (sz := 1) (e := 3) (X := []) (fun _ => rfl) hd12).b (i := i) (by omega))) ?_ E Ah) E Ah) E Ah
     refine o_y E (Ai (T E) isAgg3 (by first | exact c_o | exact cell1 (((Bq (w0 := w0) (enc := encU) (sz := 1) (e := 3) (X := H) (fun _ => rfl) hd12).mono sbt).cs (i := i) (by omega)))) ?_ E Ah
     refine o_y E (Be (T E) (T E) runUnderlying53 sizeOf71 (by omega) (by first | exact rfl | exact hA.b (i := k) (by omega) | exact he.m.a3.b (i := (gd l k).2.toNat) (by omega) | exact hA.b (i := ((k : Int) - 1).toNat) (by omega) | exact he.n.nodes.b (i := x) hx | exact he.n.links.b (i := (gd (outF n (toN (gd l k)).1) i)) hlk | exact he.n.nodes.b (i := (gd n.links (gd (outF n (toN (gd l k)).1) i)).dst) hdst | exact (Bq (w0 := w0) (enc := encU) (sz := 1) (e := 3) (X := []) (fun _ => rfl) hd12).b (i := i) (by omega))) ?_ E Ah
     refine o_y E (Bi (T E) fa71_1) (o_y E (Ai (T E) isAgg3 (by first | exact c_o | exact c_m (he.n.links.f (i := (gd (outF n (toN (gd l k)).1) i)) hlk E))) ?_ E Ah) E Ah
     refine o_y E (Ad (T E)) (Bx E (Af (Ae (Bh [(5, _), (6, _), (7, _), (8, _), (18, _), (19, _), (20, _), (22, _)] ⟨Aa E, Aa E, Aa E, Aa E, Aa E, Aa E, Aa E, Aa E, trivial⟩ (Ag (Ch 18 [(0, true), (1, true), (2, true), (3, true), (4, true), (5, true), (6, true), (7, true), (8, true), (9, true), (10, true), (11, true), (12, true), (13, true), (14, true), (15, true), (16, true), (17, true)] _ mixd (by kernel_rfl) sb0 ?_)))))) E Ah
     refine o_y E (Ac (T E)) (o_y E (Ac (T E)) (o_y E (Am (T E) isAgg29 sizeOf29 E (by first | exact Bb)) ?_ E Ah) E Ah) E Ah
     refine o_y E (Ac (T E)) (o_y E (Ac (T E)) (o_y E (Ck (T E) (T E) runUnderlying59 sizeOf74 (by omega) (by first | exact rfl | exact hA.b (i := k) (by omega) | exact he.m.a3.b (i := (gd l k).2.toNat) (by omega) | exact hA.b (i := ((k : Int) - 1).toNat) (by omega) | exact he.n.nodes.b (i := x) hx | exact he.n.links.b (i := (gd (outF n (toN (gd l k)).1) i)) hlk | exact he.n.nodes.b (i := (gd n.links (gd (outF n (toN (gd l k)).1) i)).dst) hdst | exact (Bq (w0 := w0) (enc := encU) (sz := 1) (e := 3) (X := []) (fun _ => rfl) hd12).b (i := i) (by omega))) ?_ E Ah) E Ah) E Ah
     refine o_y E (Bi (T E) Du) (o_y E (Ai (T E) isAgg3 (by first | exact c_o | exact cell_e (v' := .int .i64 ((toN (gd l k)).2 : Int)) (congrArg (fun p : Int × Int => Value.int .i64 p.2) hpn) (c_m (hA.f (i := k) (j := 1) (by omega) E)))) ?_ E Ah) E Ah
     refine o_y E (Bc (T E) C8) (o_y E (Ai (T E) isAgg52 (by first | exact c_o)) ?_ E Ah) E Ah
     refine o_y E (Ac (T E)) (o_y E (Be (T E) (T E) runUnderlying52 sizeOf138 (by omega) (by first | exact rfl | exact hA.b (i := k) (by omega) | exact he.m.a3.b (i := (gd l k).2.toNat) (by omega) | exact hA.b (i := ((k : Int) - 1).toNat) (by omega) | exact he.n.nodes.b (i := x) hx | exact he.n.links.b (i := (gd (outF n (toN (gd l k)).1) i)) hlk | exact he.n.nodes.b (i := (gd n.links (gd (outF n (toN (gd l k)).1) i)).dst) hdst | exact (Bq (w0 := w0) (enc := encU) (sz := 1) (e := 3) (X := []) (fun _ => rfl) hd12).b (i := i) (by omega))) ?_ E Ah) E Ah
     refine o_y E (Bc (T E) Dw) (o_y E (Ai (T E) isAgg9 (by first | exact c_o | exact c_m (he.n.nodes.f0 (i := (gd n.links (gd (outF n (toN (gd l k)).1) i)).dst) hdst E))) ?_ E Ah) E Ah
     refine o_y E (Av (.cons (T E) (.cons (T E) (.cons (T E) .nil))) call70 (fun H' hs => rstep_s m (he.m.mono (List.Sublist.trans sbt hs)) ho.sr ho.ln ho.om (toN (gd l k)).2 (by have := hpk.2; omega) (nmF n (gd n.links (gd (outF n (toN (gd l k)).1) i)).dst))) ?_ E Ah
     refine o_y E (B1 (.cons (T E) (.cons (T E) .nil)) (bd74_0_1 _ _)) (o_y E (Av (.cons (T E) (.cons (T E) .nil)) call94 (fun H' hs => in_s l q c (hA.mono (List.Sublist.trans sbt hs)) hlen (toI (mvF n m.pl (toN (gd l k)).2 (gd (outF n (toN (gd l k)).1) i)).1))) (o_y E (Ad (T E)) (Bx E (Af (Ae (Bh [(5, _), (6, _), (7, _), (8, _), (18, _), (19, _), (20, _), (23, _)] ⟨Aa E, Aa E, Aa E, Aa E, Aa E, Aa E, Aa E, Aa E, trivial⟩ (Ag (Ab (y_ (Ac (T E)) ?_ E))))))) E Ah) E Ah) E Ah
     first | refine Ax (Ca (T E)) E Ah ?_ | refine Ax (Co (T E)) E Ah ?_
     refine Af (Ae ?_)
     first | refine Ar (Aa E) (fun c157 => ?_) (fun c157 => ?_) | refine A6 (Aa E) (fun c157 => ?_) (fun c157 => ?_)
     ·have hno : ¬ RefOk n f m.pl x to l := fun h => absurd (h.2.2 k (by omega) (mvF n m.pl (toN (gd l k)).2 (gd (outF n (toN (gd l k)).1) i)) (movK_mem (i := i + 1) _ (by rw [hmy]; exact List.mem_append.2 (.inr (List.mem_singleton.2 E))))) (by simpa using c157)
      refine Ag (Ab (y_ (Ad Aj) (Af (Ae (Ay (An (Al (Bo (An (An (Al (Bo (An (Al (Az E (.tmp (Aa E) .nil) ?_))))))))))))) E))
      first | exact ⟨_, ⟨vbool (by rw [C1 (by omega) hbad]), rfl⟩, sbt⟩ | exact ⟨_, ⟨vbool (by symm; exact decide_eq_false hno), rfl⟩, sbt⟩ | exact ⟨_, ⟨vbool (by symm; exact decide_eq_true ⟨hall2, hpp, fun j hj => hcl j (by omega)⟩), rfl⟩, sbt⟩
     ·refine A2 (Bl (Ae (Ab (y_ (Ac (T E)) (y_ (Bt (T E) Aj (by omega)) ?_ E) E))))
      refine y_ (Ad (T E)) (Af ?_) E
      refine Bn (i + 1) ?_ ?_ ⟨(by first | exact Aa E | (refine Ak (Aa E) (vint ?_); omega) | (refine Ak (Aa E) ?_; simp; done)), trivial⟩ ⟨Aa E, Aa E, Aa E, Aa E, Aa E, Aa E, trivial⟩ ?_
      ·refine ⟨by omega, ?_⟩
       rw [hmy]
       intro y hy
       rcases List.mem_append.1 hy with hy | hy
       ·exact hmk y hy
       ·simp at hy; subst hy; simpa using c157
      ·first | omega | (simp only []; omega)
      ·exact sbt
   ·refine B4 (A0 (A4 (A3 (Bl (Ae (Ab (y_ (Ac (T E)) (y_ (Bt (T E) Aj (by omega)) ?_ E) E)))))))
    refine y_ (Ad (T E)) (Af ?_) E
    refine Bn (k + 1) ?_ ?_ ⟨(by first | exact Aa E | (refine Ak (Aa E) (vint ?_); omega) | (refine Ak (Aa E) ?_; simp; done)), trivial⟩ ⟨Aa E, Aa E, Aa E, Aa E, trivial⟩ ?_
    ·refine ⟨by omega, fun j hj => ?_⟩
     by_cases e : j = k
     ·subst e
      have hi2 : i = (outF n (toN (gd l j)).1).length := by omega
      subst hi2
      rw [movK_all] at hmk; exact hmk
     ·exact hcl j (by omega)
    ·first | omega | (simp only []; omega)
    ·exact sbt
  ·refine B4 (A0 (A4 (A3 (Ae (Ag (Ab (y_ (Ad Aj) (Af (Ae (Ay (Az E (.tmp (Aa E) .nil) ?_)))) E)))))))
   first | exact ⟨_, ⟨vbool (by rw [C1 (by omega) hbad]), rfl⟩, sbt⟩ | exact ⟨_, ⟨vbool (by symm; exact decide_eq_false hno), rfl⟩, sbt⟩ | exact ⟨_, ⟨vbool (by symm; exact decide_eq_true ⟨hall2, hpp, fun j hj => hcl j (by omega)⟩), rfl⟩, sbt⟩
end Go.Proofs.YtkdolgnpkjihpaaGreatDoor
namespace Go.Proofs.YtkdolgnpkjihpaaGreatDoor
open _root_.Go.Proofs.Tryz
open Go.RowKit
set_option linter.unusedVariables false
set_option linter.unusedSimpArgs false
theorem yl_geSD {P : Program} {w0 : World} {L : Fm} {H : List (Nat × Obj)} {x y : Operand} {xt yt ty : TypeId} {a b : ByteArray} (hx : Ev L x (.string a)) (hy : Ev L y (.string b)) : Yl P w0 (.binOp .geq xt x y yt) ty L H (.bool (decide (¬ toL a < toL b))) := Cd E fun b' w => by
 have e1 : Op.bytesLess a.toList b.toList = decide (a.data.toList < b.data.toList) := by rw [Go.Proofs.bytesLess_eq, ByteArray.toList_eq, ByteArray.toList_eq]
 have e2 : (!(decide (a.data.toList < b.data.toList))) = decide (¬ toL a < toL b) := by
  rw [Bool.eq_iff_iff]; simp [toL]
 rw [← e2]
 simp [exO, execOp, hx b', hy b', binOp, eqGuard, Op.stringOp, Sem.run_bind, Result.andThen, e1]
def rrowOk (k n : Nat) (l : List Int) : Prop := l.length = k + 1 ∧ ∀ j, j < l.length → 0 ≤ gd l j ∧ gd l j < n
def RChk (m : Mi) : Prop := (1 ≤ m.rows.length ∧ m.rows.length ≤ 200 ∧ m.acc.length = m.rows.length) ∧ (∀ i, i < m.names.length → 0 < i → toL (gd m.names (i - 1)) < toL (gd m.names i)) ∧ (∀ i, i < m.rows.length → rrowOk m.names.length m.rows.length (gd m.rows i).l)
theorem srt_adj {names : List ByteArray} (h : ∀ i, i < names.length → 0 < i → toL (gd names (i - 1)) < toL (gd names i)) : Srt names := by
 have key : ∀ d i, i + d + 1 < names.length → toL (gd names i) < toL (gd names (i + d + 1)) := by
  intro d
  induction d with
  | zero => intro i hi; have := h (i + 1) (by omega) (by omega); simpa using this
  | succ d ih =>
   intro i hi
   have h1 := ih i (by omega)
   have h2 := h (i + (d + 1) + 1) hi (by omega)
   rw [show i + (d + 1) + 1 - 1 = i + d + 1 by omega] at h2
   exact List.lt_trans h1 h2
 refine List.pairwise_iff_getElem.2 fun i j hi hj hij => ?_
 have := key (j - i - 1) i (by omega)
 rw [show i + (j - i - 1) + 1 = j by omega, Bv hi, Bv hj] at this
 exact this
def mcI (m : Mi) : Mc := ⟨m.names, m.rows.map fun r => ⟨r.q, r.c, r.l.map Int.toNat⟩, m.acc, m.q1, m.c1, m.q2, m.c2, m.q3, m.c3⟩
theorem mcI_enc (m : Mi) : encMc (mcI m) = encMi m := by simp [mcI]
theorem mcI_ok {w0 : World} {H : List (Nat × Obj)} {m : Mi} (h : MiOk w0 H m) (hc : RChk m) : McOk w0 H (mcI m) := by
 refine ⟨h.a1, fun i x hi => ?_, h.a3, fun r hr => ?_⟩
 ·simp only [mcI, List.getElem?_map] at hi
  cases hl : m.rows[i]? with
  | none => rw [hl] at hi; cases hi
  | some r =>
   rw [hl] at hi
   have h1 := h.a2 i r hl
   have : (⟨r.q, r.c, r.l.map Int.toNat⟩ : RowQ) = x := by simpa using hi
   subst this
   have e : encRQ ⟨r.q, r.c, r.l.map Int.toNat⟩ = encRI r := by simp [encRI, encRQ]
   rw [e]; exact h1
 ·simp only [mcI, List.mem_map] at hr
  obtain ⟨r0, h0, rfl⟩ := hr
  have h1 := h.r r0 h0
  intro i x hi
  simp only [List.getElem?_map] at hi
  cases hl : r0.l[i]? with
  | none => rw [hl] at hi; cases hi
  | some z =>
   rw [hl] at hi
   have hz : z.toNat = x := by simpa using hi
   obtain ⟨k, hk, rfl⟩ := List.getElem_of_mem h0
   have h2 := hc.2.2 k hk
   rw [Bv hk] at h2
   have hlt : i < (m.rows[k]).l.length := (List.getElem?_eq_some_iff.1 hl).1
   have h3 := (h2.2 i hlt).1
   have h4 : gd (m.rows[k]).l i = z := by rw [Bv hlt]; exact (List.getElem?_eq_some_iff.1 hl).2
   rw [h4] at h3
   have h5 := h1 i z hl
   have e : encU x = encI z := by subst hz; show [Value.int .i64 ((z.toNat : Nat) : Int)] = [.int .i64 z]; rw [Int.toNat_of_nonneg h3]
   rw [e]; exact h5
theorem mcI_pm {m : Mi} (hc : RChk m) : PMok (mcI m).pl := by
 obtain ⟨⟨h1, h2, h3⟩, _, h5⟩ := hc
 have hrl : (mcI m).pl.next.length = m.rows.length := by simp [mcI, Mc.pl]
 refine ⟨by omega, by omega, by rw [hrl]; exact h3, fun r hr => ?_⟩
 simp only [mcI, Mc.pl, List.mem_map, List.map_map] at hr
 obtain ⟨r0, h0, rfl⟩ := hr
 obtain ⟨k, hk, rfl⟩ := List.getElem_of_mem h0
 have h6 := h5 k hk
 rw [Bv hk] at h6
 refine ⟨by show ((m.rows[k]).l.map Int.toNat).length = m.names.length + 1; rw [List.length_map]; exact h6.1, fun s hs => ?_⟩
 have hs' : s ∈ (m.rows[k]).l.map Int.toNat := hs
 obtain ⟨z, hz, rfl⟩ := List.mem_map.1 hs'
 obtain ⟨j, hj, rfl⟩ := List.getElem_of_mem hz
 have h7 := h6.2 j hj
 rw [Bv hj] at h7
 rw [hrl]; omega
theorem mcI_srt {m : Mi} (hc : RChk m) : Srt (mcI m).names := srt_adj hc.2.1
theorem rcheck_s {w0 : World} {H : List (Nat × Obj)} (m : Mi) (hm : MiOk w0 H m) :
  FSpec Tryz.prog w0 14 #[.agg (encMi m).toArray] H (fun v H' => (∃ b, v = .bool b ∧ (b = true ↔ RChk m)) ∧ H' = H) := by
 refine A9 Tryz.func14 E ntmps14 E ?_
 have hl1 := hm.l1
 have hl2 := hm.l2
 have hl3 : ∀ i, i < m.rows.length → (gd m.rows i).l.length ≤ 1048576 := fun i hi => hm.l3 _ (Bg hi)
 refine Ag (Ab (e_ (Ba (T E) cs_) ?_ E))
 rintro _ _ ⟨n1, rfl, rfl⟩
 refine y_ (Ad Aj) (Af (Ae (Ag (Ag (Ab (y_ (Bi (T E) Cv) (y_ (Ai (T E) isAgg26 (by first | exact c_o)) ?_ E) E)))))) E
 refine y_ (Bp (T E) runUnderlying26) (y_ (Bu (T E) Aj) (y_ (Ac (T E)) ?_ E) E) E
 first | refine Bz (s := 10) (Aa E) (fun c10 => ?_) (fun c10 => ?_) | refine Cf (s := 10) (Aa E) (fun c10 => ?_) (fun c10 => ?_)
 ·refine Bm (Bm (Bm (Bm (y_ (Aq (T E) Aj) (y_ (Ac (T E)) (Bm (Bm (Bm (Bm (Bm (Bm (Bm (y_ (Aq (T E) Aj) (Af (Ae ?_)) E) E E E E) E E E E) E E E E) E E E E) E E E E) E E E E) E E E E) E) E) E E E E) E E E E) E E E E) E E E E
  first | refine A8 (Aa E) ?_ | refine A8 (Ak (Aa E) (vbool (decide_eq_true c24))) ?_
  refine Ag (Ab (y_ (Ad Aj) (Af (Ae (Ay (Al (Az E (.tmp (Aa E) .nil) ?_))))) E))
  first | exact ⟨_, ⟨⟨_, rfl, (fun h => by cases h), fun h => by have := h.1; omega⟩, rfl⟩, sbt⟩ | exact ⟨_, ⟨⟨_, rfl, (fun h => by cases h), fun h => by have h2 := h.2.1 i (by omega) (by omega); rw [hi1] at c43; exact absurd h2 c43⟩, rfl⟩, sbt⟩ | exact ⟨_, ⟨⟨_, rfl, (fun h => by cases h), fun h => by have h2 := (h.2.2 i (by omega)).1; omega⟩, rfl⟩, sbt⟩ | exact ⟨_, ⟨⟨_, rfl, (fun h => by cases h), fun h => by have h2 := (h.2.2 i (by omega)).2 j (by omega); omega⟩, rfl⟩, sbt⟩ | exact ⟨_, ⟨⟨_, rfl, (fun _ => ⟨by omega, hsr, fun k hk => hro k (by omega)⟩), fun _ => rfl⟩, rfl⟩, sbt⟩
 ·refine Ax (Bi (T E) Cv) E (Ao E E (Aa E)) (Ax (Ai (T E) isAgg26 (by first | exact c_o)) E (Ao E E (Aa E)) ?_)
  refine Ax (Bp (T E) runUnderlying26) E (Ao E E (Aa E)) (Ax (C7 (T E) Aj) E (Ao E E (Aa E)) (y_ (Au (T E) (T E)) (y_ (Ac (T E)) ?_ E) E))
  first | refine Bz (s := 16) (Aa E) (fun c16 => ?_) (fun c16 => ?_) | refine Cf (s := 16) (Aa E) (fun c16 => ?_) (fun c16 => ?_)
  ·refine Bm (Bm (Bm (Bm (Bm (Bm (Bm (y_ (Aq (T E) Aj) (Af (Ae ?_)) E) E E E E) E E E E) E E E E) E E E E) E E E E) E E E E) E E E E
   first | refine A8 (Aa E) ?_ | refine A8 (Ak (Aa E) (vbool (decide_eq_true c24))) ?_
   refine Ag (Ab (y_ (Ad Aj) (Af (Ae (Ay (Al (Az E (.tmp (Aa E) .nil) ?_))))) E))
   first | exact ⟨_, ⟨⟨_, rfl, (fun h => by cases h), fun h => by have := h.1; omega⟩, rfl⟩, sbt⟩ | exact ⟨_, ⟨⟨_, rfl, (fun h => by cases h), fun h => by have h2 := h.2.1 i (by omega) (by omega); rw [hi1] at c43; exact absurd h2 c43⟩, rfl⟩, sbt⟩ | exact ⟨_, ⟨⟨_, rfl, (fun h => by cases h), fun h => by have h2 := (h.2.2 i (by omega)).1; omega⟩, rfl⟩, sbt⟩ | exact ⟨_, ⟨⟨_, rfl, (fun h => by cases h), fun h => by have h2 := (h.2.2 i (by omega)).2 j (by omega); omega⟩, rfl⟩, sbt⟩ | exact ⟨_, ⟨⟨_, rfl, (fun _ => ⟨by omega, hsr, fun k hk => hro k (by omega)⟩), fun _ => rfl⟩, rfl⟩, sbt⟩
  ·refine Ax (Bi (T E) Dr) E (Ao E E (Aa E)) (Ax (Ai (T E) isAgg27 (by first | exact c_o)) E (Ao E E (Aa E)) ?_)
   refine Ax (Bp (T E) runUnderlying27) E (Ao E E (Aa E)) (Ax (Bi (T E) Cv) E (Ao E E (Aa E)) (Ax (Ai (T E) isAgg26 (by first | exact c_o)) E (Ao E E (Aa E)) ?_))
   refine Ax (Bp (T E) runUnderlying26) E (Ao E E (Aa E)) (Ax (Cu (T E) (T E)) E (Ao E E (Aa E)) (y_ (Au (T E) (T E)) (Af (Ae ?_)) E))
   first | refine Ar (Aa E) (fun c24 => ?_) (fun c24 => ?_) | refine A6 (Aa E) (fun c24 => ?_) (fun c24 => ?_)
   ·refine Ag (Ab (y_ (Ad Aj) (Af (Ae (Ay (Al (Az E (.tmp (Aa E) .nil) ?_))))) E))
    first | exact ⟨_, ⟨⟨_, rfl, (fun h => by cases h), fun h => by have := h.1; omega⟩, rfl⟩, sbt⟩ | exact ⟨_, ⟨⟨_, rfl, (fun h => by cases h), fun h => by have h2 := h.2.1 i (by omega) (by omega); rw [hi1] at c43; exact absurd h2 c43⟩, rfl⟩, sbt⟩ | exact ⟨_, ⟨⟨_, rfl, (fun h => by cases h), fun h => by have h2 := (h.2.2 i (by omega)).1; omega⟩, rfl⟩, sbt⟩ | exact ⟨_, ⟨⟨_, rfl, (fun h => by cases h), fun h => by have h2 := (h.2.2 i (by omega)).2 j (by omega); omega⟩, rfl⟩, sbt⟩ | exact ⟨_, ⟨⟨_, rfl, (fun _ => ⟨by omega, hsr, fun k hk => hro k (by omega)⟩), fun _ => rfl⟩, rfl⟩, sbt⟩
   ·refine A2 (Ae (Ag (Ag (Ab (y_ (Ad Aj) (Af (Ae (Aw ?_))) E)))))
    refine Cc (X := Nat) (V := fun i => [(3, .int .i64 (i : Nat))]) (C := [(1, _)]) (φ := fun i => (1 ≤ i ∧ i ≤ m.names.length + 1) ∧ ∀ j, j < i → 0 < j → toL (gd m.names (j - 1)) < toL (gd m.names j)) (μ := fun i => m.names.length + 1 - i) (x0 := 1) ?_ ⟨Aa E, trivial⟩ ⟨(by first | exact Aa E | (refine Ak (Aa E) (vint ?_); omega) | (refine Ak (Aa E) ?_; simp; done)), trivial⟩ ?_
    ·exact ⟨⟨Nat.le_refl _, by omega⟩, fun j h1 h2 => by omega⟩
    rintro i ⟨⟨hi0, hi⟩, hso⟩
    refine Ag (Ag (Ab (y_ (Ac (T E)) (y_ (Bc (T E) Dl) (y_ (Ai (T E) isAgg25 (by first | exact c_o)) ?_ E) E) E)))
    refine y_ (Bp (T E) runUnderlying25) (y_ (Bu (T E) (T E)) (Af (Ae ?_)) E) E
    first | refine Ar (Aa E) (fun c29 => ?_) (fun c29 => ?_) | refine A6 (Aa E) (fun c29 => ?_) (fun c29 => ?_)
    ·have hi1 : ((i : Int) - 1).toNat = i - 1 := by omega
     refine A2 (Ae (Ag (Aw (Ag (Ch 12 [(0, true), (1, true), (2, true), (3, true), (4, true), (5, true), (6, true), (7, true), (8, true), (9, true), (10, true), (11, true)] _ mixd (by kernel_rfl) sb0 ?_)))))
     refine o_y E (Bc (T E) Dl) (o_y E (Ai (T E) isAgg25 (by first | exact c_o)) ?_ E Ah) E Ah
     refine o_y E (Ac (T E)) (o_y E (Dz (T E) Aj (by omega)) ?_ E Ah) E Ah
     refine o_y E (Ck (T E) (T E) runUnderlying25 sizeOf9 (by omega) (by first | exact rfl | exact hm.a1.b (i := ((i : Int) - 1).toNat) (by omega) | exact hm.a1.b (i := i) (by omega) | exact hm.a2.b (i := i) (by omega) | exact hr.b (i := j) (by omega))) ?_ E Ah
     refine o_y E (Ai (T E) isAgg9 (by first | exact c_o | exact cell1 ((hm.a1.mono sbt).cs (i := ((i : Int) - 1).toNat) (by omega)))) ?_ E Ah
     refine o_y E (Bc (T E) Dl) (o_y E (Ai (T E) isAgg25 (by first | exact c_o)) ?_ E Ah) E Ah
     refine o_y E (Ac (T E)) (o_y E (Be (T E) (T E) runUnderlying25 sizeOf9 (by omega) (by first | exact rfl | exact hm.a1.b (i := ((i : Int) - 1).toNat) (by omega) | exact hm.a1.b (i := i) (by omega) | exact hm.a2.b (i := i) (by omega) | exact hr.b (i := j) (by omega))) ?_ E Ah) E Ah
     refine o_y E (Ai (T E) isAgg9 (by first | exact c_o | exact cell1 ((hm.a1.mono sbt).cs (i := i) (by omega)))) ?_ E Ah
     refine o_y E (yl_geSD (T E) (T E)) (Bx E (Af (Ae ?_))) E Ah
     first | refine Ar (Aa E) (fun c43 => ?_) (fun c43 => ?_) | refine A6 (Aa E) (fun c43 => ?_) (fun c43 => ?_)
     ·refine Ag (Ab (y_ (Ad Aj) (Af (Ae (Ay (An (Al (Bo (An (Al (Az E (.tmp (Aa E) .nil) ?_))))))))) E))
      first | exact ⟨_, ⟨⟨_, rfl, (fun h => by cases h), fun h => by have := h.1; omega⟩, rfl⟩, sbt⟩ | exact ⟨_, ⟨⟨_, rfl, (fun h => by cases h), fun h => by have h2 := h.2.1 i (by omega) (by omega); rw [hi1] at c43; exact absurd h2 c43⟩, rfl⟩, sbt⟩ | exact ⟨_, ⟨⟨_, rfl, (fun h => by cases h), fun h => by have h2 := (h.2.2 i (by omega)).1; omega⟩, rfl⟩, sbt⟩ | exact ⟨_, ⟨⟨_, rfl, (fun h => by cases h), fun h => by have h2 := (h.2.2 i (by omega)).2 j (by omega); omega⟩, rfl⟩, sbt⟩ | exact ⟨_, ⟨⟨_, rfl, (fun _ => ⟨by omega, hsr, fun k hk => hro k (by omega)⟩), fun _ => rfl⟩, rfl⟩, sbt⟩
     ·refine A2 (Bl (Ae (Ab (y_ (Ac (T E)) (y_ (Bt (T E) Aj (by omega)) ?_ E) E))))
      refine y_ (Ad (T E)) (Af ?_) E
      refine Bn (i + 1) ?_ ?_ ⟨(by first | exact Aa E | (refine Ak (Aa E) (vint ?_); omega) | (refine Ak (Aa E) ?_; simp; done)), trivial⟩ ⟨Aa E, trivial⟩ ?_
      ·refine ⟨⟨by omega, by omega⟩, fun j h1 h2 => ?_⟩
       by_cases e : j = i
       ·subst e; rw [hi1] at c43; exact Decidable.not_not.1 c43
       ·exact hso j (by omega) h2
      ·first | omega | (simp only []; omega)
      ·exact sbt
    ·have hsr : ∀ j, j < m.names.length → 0 < j → toL (gd m.names (j - 1)) < toL (gd m.names j) := fun j h1 h2 => hso j (by omega) h2
     refine B4 (A0 (A4 (A3 (Ae (Ag (Ag (Ab (y_ (Ad Aj) (Af (Ae (Aw ?_))) E))))))))
     refine Cc (X := Nat) (V := fun i => [(4, .int .i64 (i : Nat))]) (C := [(1, _)]) (φ := fun i => i ≤ m.rows.length ∧ ∀ j, j < i → rrowOk m.names.length m.rows.length (gd m.rows j).l) (μ := fun i => m.rows.length - i) (x0 := 0) ?_ ⟨Aa E, trivial⟩ ⟨(by first | exact Aa E | (refine Ak (Aa E) (vint ?_); omega) | (refine Ak (Aa E) ?_; simp; done)), trivial⟩ ?_
     ·exact ⟨Nat.zero_le _, fun j h1 => by omega⟩
     rintro i ⟨hi2, hro⟩
     refine Ag (Ag (Ab (y_ (Ac (T E)) (y_ (Bi (T E) Cv) (y_ (Ai (T E) isAgg26 (by first | exact c_o)) ?_ E) E) E)))
     refine y_ (Bp (T E) runUnderlying26) (y_ (Bu (T E) (T E)) (Af (Ae ?_)) E) E
     first | refine Ar (Aa E) (fun c48 => ?_) (fun c48 => ?_) | refine A6 (Aa E) (fun c48 => ?_) (fun c48 => ?_)
     ·have hr := hm.r _ (Bg (l := m.rows) (i := i) (by omega))
      have hrl := hl3 i (by omega)
      refine A2 (Ae (Ag (Aw (Ag (Ag (Ch 11 [(0, true), (1, true), (2, true), (3, true), (4, true), (5, true), (6, true), (7, true), (8, true), (9, true), (10, true)] _ mixd (by kernel_rfl) sb0 ?_))))))
      refine o_y E (Bi (T E) Cv) (o_y E (Ai (T E) isAgg26 (by first | exact c_o)) ?_ E Ah) E Ah
      refine o_y E (Ac (T E)) (o_y E (Be (T E) (T E) runUnderlying26 sizeOf42 (by omega) (by first | exact rfl | exact hm.a1.b (i := ((i : Int) - 1).toNat) (by omega) | exact hm.a1.b (i := i) (by omega) | exact hm.a2.b (i := i) (by omega) | exact hr.b (i := j) (by omega))) ?_ E Ah) E Ah
      refine o_y E (Ai (T E) isAgg42 (by first | exact c_o | exact cell1 ((hm.a2.mono sbt).cs (i := i) (by omega)))) ?_ E Ah
      refine o_y E (Bp (T E) runUnderlying42) (o_y E (Bc (T E) Dl) (o_y E (Ai (T E) isAgg25 (by first | exact c_o)) ?_ E Ah) E Ah) E Ah
      refine o_y E (Bp (T E) runUnderlying25) (o_y E (Bt (T E) Aj (by omega)) ?_ E Ah) E Ah
      refine o_y E (Cu (T E) (T E)) (Bx E (Af (Ae ?_))) E Ah
      first | refine Ar (Aa E) (fun c61 => ?_) (fun c61 => ?_) | refine A6 (Aa E) (fun c61 => ?_) (fun c61 => ?_)
      ·refine Ag (Ab (y_ (Ad Aj) (Af (Ae (Ay (Al (An (Al (Bo (An (Al (Az E (.tmp (Aa E) .nil) ?_)))))))))) E))
       first | exact ⟨_, ⟨⟨_, rfl, (fun h => by cases h), fun h => by have := h.1; omega⟩, rfl⟩, sbt⟩ | exact ⟨_, ⟨⟨_, rfl, (fun h => by cases h), fun h => by have h2 := h.2.1 i (by omega) (by omega); rw [hi1] at c43; exact absurd h2 c43⟩, rfl⟩, sbt⟩ | exact ⟨_, ⟨⟨_, rfl, (fun h => by cases h), fun h => by have h2 := (h.2.2 i (by omega)).1; omega⟩, rfl⟩, sbt⟩ | exact ⟨_, ⟨⟨_, rfl, (fun h => by cases h), fun h => by have h2 := (h.2.2 i (by omega)).2 j (by omega); omega⟩, rfl⟩, sbt⟩ | exact ⟨_, ⟨⟨_, rfl, (fun _ => ⟨by omega, hsr, fun k hk => hro k (by omega)⟩), fun _ => rfl⟩, rfl⟩, sbt⟩
      ·refine A2 (Ae (Ag (Ab (y_ (Ad Aj) (Af (Ae (Aw ?_))) E))))
       refine Cc (X := Nat) (V := fun j => [(5, .int .i64 (j : Nat))]) (C := [(1, _), (4, _)]) (φ := fun j => j ≤ (gd m.rows i).l.length ∧ ∀ k, k < j → 0 ≤ gd (gd m.rows i).l k ∧ gd (gd m.rows i).l k < m.rows.length) (μ := fun j => (gd m.rows i).l.length - j) (x0 := 0) ?_ ⟨Aa E, Aa E, trivial⟩ ⟨(by first | exact Aa E | (refine Ak (Aa E) (vint ?_); omega) | (refine Ak (Aa E) ?_; simp; done)), trivial⟩ ?_
       ·exact ⟨Nat.zero_le _, fun k h1 => by omega⟩
       rintro j ⟨hj, hcell⟩
       refine Ag (Ag (Ab (y_ (Ac (T E)) (y_ (Bi (T E) Cv) (y_ (Ai (T E) isAgg26 (by first | exact c_o)) ?_ E) E) E)))
       refine y_ (Ac (T E)) (y_ (Be (T E) (T E) runUnderlying26 sizeOf42 (by omega) (by first | exact rfl | exact hm.a1.b (i := ((i : Int) - 1).toNat) (by omega) | exact hm.a1.b (i := i) (by omega) | exact hm.a2.b (i := i) (by omega) | exact hr.b (i := j) (by omega))) ?_ E) E
       refine y_ (Ai (T E) isAgg42 (by first | exact c_o | exact cell1 ((hm.a2.mono sbt).cs (i := i) (by omega)))) ?_ E
       refine y_ (Bp (T E) runUnderlying42) (y_ (Bu (T E) (T E)) (Af (Ae ?_)) E) E
       first | refine Ar (Aa E) (fun c69 => ?_) (fun c69 => ?_) | refine A6 (Aa E) (fun c69 => ?_) (fun c69 => ?_)
       ·refine A2 (Ae (Ag (Aw (Ag (Ch 23 [(0, true), (1, true), (2, true), (3, true), (4, true), (5, true), (6, true), (7, true), (8, true), (9, true), (10, true), (11, true), (12, true), (13, true), (14, true), (15, true), (16, true), (17, true), (18, true), (19, true), (20, true), (21, true), (22, true)] _ mixd (by kernel_rfl) sb0 ?_)))))
        refine o_y E (Bi (T E) Cv) (o_y E (Ai (T E) isAgg26 (by first | exact c_o)) ?_ E Ah) E Ah
        refine o_y E (Ac (T E)) (o_y E (Be (T E) (T E) runUnderlying26 sizeOf42 (by omega) (by first | exact rfl | exact hm.a1.b (i := ((i : Int) - 1).toNat) (by omega) | exact hm.a1.b (i := i) (by omega) | exact hm.a2.b (i := i) (by omega) | exact hr.b (i := j) (by omega))) ?_ E Ah) E Ah
        refine o_y E (Ai (T E) isAgg42 (by first | exact c_o | exact cell1 ((hm.a2.mono sbt).cs (i := i) (by omega)))) ?_ E Ah
        refine o_y E (Ac (T E)) (o_y E (Be (T E) (T E) runUnderlying42 sizeOf3 (by omega) (by first | exact rfl | exact hm.a1.b (i := ((i : Int) - 1).toNat) (by omega) | exact hm.a1.b (i := i) (by omega) | exact hm.a2.b (i := i) (by omega) | exact hr.b (i := j) (by omega))) ?_ E Ah) E Ah
        refine o_y E (Ai (T E) isAgg3 (by first | exact c_o | exact cell1 ((hr.mono sbt).cs (i := j) (by omega)))) ?_ E Ah
        refine o_y E (Bu (T E) Aj) (o_y E (Ac (T E)) ?_ E Ah) E Ah
        first | refine Cy (s := 81) (Aa E) (fun c81 => ?_) (fun c81 => ?_) | refine Dx (s := 81) (Aa E) (fun c81 => ?_) (fun c81 => ?_)
        ·refine o_n E (o_n E (o_n E (o_n E (o_n E (o_n E (o_n E (o_n E (o_n E (o_n E (o_n E (o_n E (o_y E (Aq (T E) Aj) (Bx E (Af (Ae (Bh [(1, _), (4, _), (5, _), (94, _)] ⟨Aa E, Aa E, Aa E, Aa E, trivial⟩ ?_)))) E Ah) E (Bj E E (Aa E))) E (Bj E E (Aa E))) E (Bj E E (Aa E))) E (Bj E E (Aa E))) E (Bj E E (Aa E))) E (Bj E E (Aa E))) E (Bj E E (Aa E))) E (Bj E E (Aa E))) E (Bj E E (Aa E))) E (Bj E E (Aa E))) E (Bj E E (Aa E))) E (Bj E E (Aa E))
         first | refine A8 (Aa E) ?_ | refine A8 (Ak (Aa E) (vbool (decide_eq_true c94))) ?_
         refine Ag (Ab (y_ (Ad Aj) (Af (Ae (Ay (An (Al (Bo (An (An (Al (Bo (An (Al (Az E (.tmp (Aa E) .nil) ?_))))))))))))) E))
         first | exact ⟨_, ⟨⟨_, rfl, (fun h => by cases h), fun h => by have := h.1; omega⟩, rfl⟩, sbt⟩ | exact ⟨_, ⟨⟨_, rfl, (fun h => by cases h), fun h => by have h2 := h.2.1 i (by omega) (by omega); rw [hi1] at c43; exact absurd h2 c43⟩, rfl⟩, sbt⟩ | exact ⟨_, ⟨⟨_, rfl, (fun h => by cases h), fun h => by have h2 := (h.2.2 i (by omega)).1; omega⟩, rfl⟩, sbt⟩ | exact ⟨_, ⟨⟨_, rfl, (fun h => by cases h), fun h => by have h2 := (h.2.2 i (by omega)).2 j (by omega); omega⟩, rfl⟩, sbt⟩ | exact ⟨_, ⟨⟨_, rfl, (fun _ => ⟨by omega, hsr, fun k hk => hro k (by omega)⟩), fun _ => rfl⟩, rfl⟩, sbt⟩
        ·refine o_y E (Bi (T E) Cv) (o_y E (Ai (T E) isAgg26 (by first | exact c_o)) ?_ E (Ao E E (Aa E))) E (Ao E E (Aa E))
         refine o_y E (Ac (T E)) (o_y E (Be (T E) (T E) runUnderlying26 sizeOf42 (by omega) (by first | exact rfl | exact hm.a1.b (i := ((i : Int) - 1).toNat) (by omega) | exact hm.a1.b (i := i) (by omega) | exact hm.a2.b (i := i) (by omega) | exact hr.b (i := j) (by omega))) ?_ E (Ao E E (Aa E))) E (Ao E E (Aa E))
         refine o_y E (Ai (T E) isAgg42 (by first | exact c_o | exact cell1 ((hm.a2.mono sbt).cs (i := i) (by omega)))) ?_ E (Ao E E (Aa E))
         refine o_y E (Ac (T E)) (o_y E (Be (T E) (T E) runUnderlying42 sizeOf3 (by omega) (by first | exact rfl | exact hm.a1.b (i := ((i : Int) - 1).toNat) (by omega) | exact hm.a1.b (i := i) (by omega) | exact hm.a2.b (i := i) (by omega) | exact hr.b (i := j) (by omega))) ?_ E (Ao E E (Aa E))) E (Ao E E (Aa E))
         refine o_y E (Ai (T E) isAgg3 (by first | exact c_o | exact cell1 ((hr.mono sbt).cs (i := j) (by omega)))) ?_ E (Ao E E (Aa E))
         refine o_y E (Bi (T E) Cv) (o_y E (Ai (T E) isAgg26 (by first | exact c_o)) ?_ E (Ao E E (Aa E))) E (Ao E E (Aa E))
         refine o_y E (Bp (T E) runUnderlying26) (o_y E (C2 (T E) (T E)) (o_y E (Au (T E) (T E)) (Bx E (Af (Ae (Bh [(1, _), (4, _), (5, _), (94, _)] ⟨Aa E, Aa E, Aa E, Aa E, trivial⟩ ?_)))) E Ah) E (Ao E E (Aa E))) E (Ao E E (Aa E))
         first | refine Ar (Aa E) (fun c94 => ?_) (fun c94 => ?_) | refine A6 (Aa E) (fun c94 => ?_) (fun c94 => ?_)
         ·refine Ag (Ab (y_ (Ad Aj) (Af (Ae (Ay (An (Al (Bo (An (An (Al (Bo (An (Al (Az E (.tmp (Aa E) .nil) ?_))))))))))))) E))
          first | exact ⟨_, ⟨⟨_, rfl, (fun h => by cases h), fun h => by have := h.1; omega⟩, rfl⟩, sbt⟩ | exact ⟨_, ⟨⟨_, rfl, (fun h => by cases h), fun h => by have h2 := h.2.1 i (by omega) (by omega); rw [hi1] at c43; exact absurd h2 c43⟩, rfl⟩, sbt⟩ | exact ⟨_, ⟨⟨_, rfl, (fun h => by cases h), fun h => by have h2 := (h.2.2 i (by omega)).1; omega⟩, rfl⟩, sbt⟩ | exact ⟨_, ⟨⟨_, rfl, (fun h => by cases h), fun h => by have h2 := (h.2.2 i (by omega)).2 j (by omega); omega⟩, rfl⟩, sbt⟩ | exact ⟨_, ⟨⟨_, rfl, (fun _ => ⟨by omega, hsr, fun k hk => hro k (by omega)⟩), fun _ => rfl⟩, rfl⟩, sbt⟩
         ·refine A2 (Bl (Ae (Ab (y_ (Ac (T E)) (y_ (Bt (T E) Aj (by omega)) ?_ E) E))))
          refine y_ (Ad (T E)) (Af ?_) E
          refine Bn (j + 1) ?_ ?_ ⟨(by first | exact Aa E | (refine Ak (Aa E) (vint ?_); omega) | (refine Ak (Aa E) ?_; simp; done)), trivial⟩ ⟨Aa E, Aa E, trivial⟩ ?_
          ·refine ⟨by omega, fun k h1 => ?_⟩
           by_cases e : k = j
           ·subst e; exact ⟨by omega, by omega⟩
           ·exact hcell k (by omega)
          ·first | omega | (simp only []; omega)
          ·exact sbt
       ·refine B4 (A0 (A4 (A3 (Bl (Ae (Ab (y_ (Ac (T E)) (y_ (Bt (T E) Aj (by omega)) ?_ E) E)))))))
        refine y_ (Ad (T E)) (Af ?_) E
        refine Bn (i + 1) ?_ ?_ ⟨(by first | exact Aa E | (refine Ak (Aa E) (vint ?_); omega) | (refine Ak (Aa E) ?_; simp; done)), trivial⟩ ⟨Aa E, trivial⟩ ?_
        ·refine ⟨by omega, fun j2 h1 => ?_⟩
         by_cases e : j2 = i
         ·subst e; exact ⟨by omega, fun k hk => hcell k (by omega)⟩
         ·exact hro j2 (by omega)
        ·first | omega | (simp only []; omega)
        ·exact sbt
     ·refine B4 (A0 (A4 (A3 (Ae (Ag (Ab (y_ (Ad Aj) (Af (Ae (Ay (Az E (.tmp (Aa E) .nil) ?_)))) E)))))))
      first | exact ⟨_, ⟨⟨_, rfl, (fun h => by cases h), fun h => by have := h.1; omega⟩, rfl⟩, sbt⟩ | exact ⟨_, ⟨⟨_, rfl, (fun h => by cases h), fun h => by have h2 := h.2.1 i (by omega) (by omega); rw [hi1] at c43; exact absurd h2 c43⟩, rfl⟩, sbt⟩ | exact ⟨_, ⟨⟨_, rfl, (fun h => by cases h), fun h => by have h2 := (h.2.2 i (by omega)).1; omega⟩, rfl⟩, sbt⟩ | exact ⟨_, ⟨⟨_, rfl, (fun h => by cases h), fun h => by have h2 := (h.2.2 i (by omega)).2 j (by omega); omega⟩, rfl⟩, sbt⟩ | exact ⟨_, ⟨⟨_, rfl, (fun _ => ⟨by omega, hsr, fun k hk => hro k (by omega)⟩), fun _ => rfl⟩, rfl⟩, sbt⟩
end Go.Proofs.YtkdolgnpkjihpaaGreatDoor
namespace Go.Proofs.YtkdolgnpkjihpaaGreatDoor
open _root_.Go.Proofs.Tryz
open Go.RowKit
set_option linter.unusedVariables false
set_option linter.unusedSimpArgs false
theorem yl_neBs {w0 : World} {L : Fm} {H : List (Nat × Obj)} {ty yt : TypeId} {x y : Operand} {a : Bool} (hx : Ev L x (.bool a)) (hy : Ev L y (.bool a)) : Yl Tryz.prog w0 (.binOp .neq 4 x y yt) ty L H (.bool false) := by
 have h := yl_neB (w0 := w0) (H := H) (ty := ty) (yt := yt) hx hy
 rwa [show (a != a) = false by simp] at h
theorem yl_eqBs {w0 : World} {L : Fm} {H : List (Nat × Obj)} {ty yt : TypeId} {x y : Operand} {a : Bool} (hx : Ev L x (.bool a)) (hy : Ev L y (.bool a)) : Yl Tryz.prog w0 (.binOp .eql 4 x y yt) ty L H (.bool true) := by
 have h := yl_eqB (w0 := w0) (H := H) (ty := ty) (yt := yt) hx hy
 rwa [show (a == a) = true by simp] at h
theorem yl_neqs {w0 : World} {L : Fm} {H : List (Nat × Obj)} {ty yt xt : TypeId} {x y : Operand} {a : Int} {k : IntKind} (hx : Ev L x (.int k a)) (hy : Ev L y (.int k a)) : Yl Tryz.prog w0 (.binOp .neq xt x y yt) ty L H (.bool false) := by
 have h := Cu (P := Tryz.prog) (w0 := w0) (H := H) (ty := ty) (yt := yt) (xt := xt) hx hy
 rwa [show decide (¬ a = a) = false by simp] at h
theorem wpO_up {P : Program} {r : Option Nat} {ops : Array Oper} {Q : Exit → Act → World → Prop} {w0 : World} {H0 H1 : List (Nat × Obj)} {t : Nat} (hs : H0.Sublist H1) : ∀ (f : Nat) (listed : Array Bool) (a : Act) (H : List (Nat × Obj)), wpO P r ops Q w0 H1 t f listed a H → wpO P r ops Q w0 H0 t f listed a H
 | 0, _, _, _, h => h
 | f + 1, _, _, _, ⟨h1, h2⟩ => ⟨h1, fun i hi hit w hO => wpOpIn_mono (fun a' w' ⟨H', hs', hO', h'⟩ => ⟨H', hs.trans hs', hO', wpO_up hs f _ a' H' h'⟩) (h2 i hi hit w hO)⟩
theorem o_up {P : Program} {r : Option Nat} {N : Nat} {w0 : World} {H0 H : List (Nat × Obj)} {ops : Array Oper} {t : Nat} {plan : List (Nat × Bool)} {Q : Post} {L : Fm} {ds : List Deferred} (h : JO P r N w0 H ops t plan Q L ds H) : JO P r N w0 H0 ops t plan Q L ds H := fun hT hD hS hP hs listed inv hp b a hsz hf hd =>
 wpO_up hs _ _ _ _ (h hT hD hS hP (List.Sublist.refl _) listed inv hp b a hsz hf hd)
section
variable {w0 : World} {H : List (Nat × Obj)} {n : Nm} {f : Flr} {m : Mc} {x to : Nat}
theorem NF.eo (h : NF w0 H n f x to) (hp : PMok m.pl) (hs : Srt m.names) (hl : m.names.length ≤ 1048576) : EnvOk (nnOf n) f m := ⟨nn_ok h.rg, by have := h.rg.fl; omega, hp, hs, by omega⟩
theorem findV_s (h : NF w0 H n f x to) (hm : McOk w0 H m) (ho : EnvOk (nnOf n) f m) :
  FSpec Tryz.prog w0 29 #[.agg (encNm n).toArray, .agg (encFl f).toArray, .agg (encMc m).toArray, .int .i64 (x : Int), .int .i64 (to : Int)] H (fun v H' => ∃ d : Sl, (v = .tuple #[slV d (findF (nnOf n) f m.pl x to).1.length, .int .i64 (findF (nnOf n) f m.pl x to).2] ∧ SlOk d (findF (nnOf n) f m.pl x to).1.length 1) ∧ H' = slH d ((findF (nnOf n) f m.pl x to).1.flatMap encU) 3 ++ H) := by
 rw [← nn_enc n]; exact find_s (nnOf n) f m (h.env hm) ho x h.hx to
theorem rfindV_s (h : NF w0 H n f x to) (hm : McOk w0 H m) (ho : EnvOk (nnOf n) f m) :
  FSpec Tryz.prog w0 30 #[.agg (encNm n).toArray, .agg (encFl f).toArray, .agg (encMc m).toArray, .int .i64 (x : Int), .int .i64 (to : Int)] H (fun v H' => ∃ (q : Option Addr) (c : Nat) (M : List (Nat × Obj)), (v = .tuple #[.slice q (findF (nnOf n) f m.pl x to).1.length c, .int .i64 (findF (nnOf n) f m.pl x to).2] ∧ Arr w0 (M ++ H) q 1 encU (findF (nnOf n) f m.pl x to).1) ∧ H' = M ++ H) := by
 rw [← nn_enc n]; exact rfind_s (nnOf n) f m (h.env hm) ho x h.hx to
theorem reachE_s (h : NF w0 H n f x to) (hm : McOk w0 H m) (ho : EnvOk (nnOf n) f m) :
  FSpec Tryz.prog w0 35 #[.agg (encNm n).toArray, .agg (encFl f).toArray, .agg (encMc m).toArray, .int .i64 (x : Int)] H (fun v H' => ∃ d, (v = slV d (insAll (if f.node = x then [] else metF (nnOf n) f m.pl x)).length ∧ SlOk d (insAll (if f.node = x then [] else metF (nnOf n) f m.pl x)).length 2) ∧ H' = slH d ((insAll (if f.node = x then [] else metF (nnOf n) f m.pl x)).flatMap encPl) 74 ++ H) := by
 rw [← nn_enc n]
 refine (reachedE_s (nnOf n) f m (h.env hm) ho x h.hx).mono fun v H' ⟨d, l, ⟨h1, h2, h3⟩, h4⟩ => ?_
 have e := reach_eq (nn_ok h.rg) ho.om h.hx (rch_of (nn_ok h.rg) ho.om h.hx h3)
 rw [e] at h1 h2 h4
 exact ⟨d, ⟨h1, h2⟩, h4⟩
theorem rreachE_s (h : NF w0 H n f x to) (hm : McOk w0 H m) (ho : EnvOk (nnOf n) f m) :
  FSpec Tryz.prog w0 36 #[.agg (encNm n).toArray, .agg (encFl f).toArray, .agg (encMc m).toArray, .int .i64 (x : Int)] H (fun v H' => ∃ d, (v = slV d (insAll (if f.node = x then [] else metF (nnOf n) f m.pl x)).length ∧ SlOk d (insAll (if f.node = x then [] else metF (nnOf n) f m.pl x)).length 2) ∧ H' = slH d ((insAll (if f.node = x then [] else metF (nnOf n) f m.pl x)).flatMap encPl) 74 ++ H) := by
 rw [← nn_enc n]; exact rreach_s (nnOf n) f m (h.env hm) ho x h.hx
theorem refE_s (h : NF w0 H n f x to) (hm : McOk w0 H m) (ho : EnvOk (nnOf n) f m) (l : List (Int × Int)) (q : Option Addr) (c : Nat) (hA : Arr w0 H q 2 encPI l) (hlen : l.length ≤ 1000000) :
  FSpec Tryz.prog w0 37 #[.agg (encNm n).toArray, .agg (encFl f).toArray, .agg (encMc m).toArray, .int .i64 (x : Int), .int .i64 (to : Int), .slice q l.length c] H (Still (.bool (decide (RefOk (nnOf n) f m.pl x to l))) H) := by
 rw [← nn_enc n]; exact refutes_s (nnOf n) f m (h.env hm) ho x h.hx to l q c hA hlen
theorem rrefE_s (h : NF w0 H n f x to) (hm : McOk w0 H m) (ho : EnvOk (nnOf n) f m) (l : List (Int × Int)) (q : Option Addr) (c : Nat) (hA : Arr w0 H q 2 encPI l) (hlen : l.length ≤ 1000000) :
  FSpec Tryz.prog w0 38 #[.agg (encNm n).toArray, .agg (encFl f).toArray, .agg (encMc m).toArray, .int .i64 (x : Int), .int .i64 (to : Int), .slice q l.length c] H (Still (.bool (decide (RefOk (nnOf n) f m.pl x to l))) H) := by
 rw [← nn_enc n]; exact rrefutes_s (nnOf n) f m (h.env hm) ho x h.hx to l q c hA hlen
theorem rholdE_s (h : NF w0 H n f x to) (r : Rxm) (e : Re) (hI : Is r e) (hM : RxM w0 H r) (hl : e.lv ≤ 64) (ls : List Int) (q : Option Addr) (c : Nat) (hA : Arr w0 H q 1 encI ls) (hlen : ls.length ≤ 50) :
  FSpec Tryz.prog w0 33 #[.agg (encNm n).toArray, .agg (encFl f).toArray, .agg (encRx r).toArray, .int .i64 (x : Int), .int .i64 (to : Int), .slice q ls.length c] H (Still (.bool (holdsF (nnOf n) f e x to ls)) H) := by
 rw [← nn_enc n]; exact rholds_s (nnOf n) (nn_net h.nm h.rg.net) (nn_ok h.rg) f h.fl (by have := h.rg.fl; omega) r e hI hM hl x to h.hx ls q c hA hlen
theorem sameU_s (l : List Nat) (q q2 : Option Addr) (c c2 : Nat) (hA : Arr w0 H q 1 encU l) (hB : Arr w0 H q2 1 encU l) (hl : l.length ≤ 1000000) :
  FSpec Tryz.prog w0 31 #[.slice q l.length c, .slice q2 l.length c2] H (Still (.bool true) H) := by
 have h := still_b (b := decide (l.map (fun k : Nat => (k : Int)) = l.map fun k : Nat => (k : Int))) (c := true) (decide_eq_true E) (sameInts_s q q2 c c2 _ _ (arrUI hA) (arrUI hB) (by simp; omega))
 rw [List.length_map] at h; exact h
theorem sameP_s (l : List Pl) (q q2 : Option Addr) (c c2 : Nat) (hA : Arr w0 H q 2 encPl l) (hB : Arr w0 H q2 2 encPl l) (hl : l.length ≤ 1000000) :
  FSpec Tryz.prog w0 34 #[.slice q l.length c, .slice q2 l.length c2] H (Still (.bool true) H) := by
 have h := still_b (b := decide (l.map toI = l.map toI)) (c := true) (decide_eq_true E) (samePl_s (l.map toI) q c (arrPP hA) (by simpa using hl) (l.map toI) q2 c2 (arrPP hB))
 rw [List.length_map] at h; exact h
end
theorem ins_few {n : Nn} (hok : NnOk n) {f : Flr} {m : PM} (hp : PMok m) {x : Nat} (hx : x < n.nodes.length) : (insAll (if f.node = x then [] else metF n f m x)).length ≤ 2400 := by
 rw [insLen]
 split
 ·exact Nat.zero_le _
 ·have hm := met_nd hok hp hx (f := f)
  exact Nat.le_trans (pl_few n m _ hm.1 hm.2) (NPl_le hok hp)
theorem finds_s {w0 : World} {H : List (Nat × Obj)} (n : Nm) (hn : NetM w0 H n) (f : Flr) (hf : Arr w0 H f.q 1 encI f.links) (hfl : f.links.length ≤ 9223372036854775807) (r : Rxm) (hM : RxM w0 H r) (hz : r.sz ≤ 1048576) (m : Mi) (hm : MiOk w0 H m) (x y : Int) (ls : List Int) (q : Option Addr) (cp : Nat) (hL : Arr w0 H q 1 encI ls) (hll : ls.length ≤ 9223372036854775807) (pl : List (Int × Int)) (q2 : Option Addr) (cp2 : Nat) (hP : Arr w0 H q2 2 encPI pl) (hpl0 : pl.length ≤ 9223372036854775807) :
  FSpec Tryz.prog w0 7 #[.agg (encNm n).toArray, .agg (encFl f).toArray, .agg (encRx r).toArray, .agg (encMi m).toArray, .int .i64 x, .int .i64 y, .slice q ls.length cp, .slice q2 pl.length cp2] H (Still (.bool true) H) := by
 refine A9 Tryz.func7 E ntmps7 E (Ag (Ab (e_ (Ba (T E) cs_) ?_ E)))
 rintro _ _ ⟨n8, rfl, rfl⟩
 refine e_ (Ba (T E) cs_) ?_ E
 rintro _ _ ⟨n9, rfl, rfl⟩
 refine e_ (Ba (T E) cs_) ?_ E
 rintro _ _ ⟨n10, rfl, rfl⟩
 refine e_ (Ba (T E) cs_) ?_ E
 rintro _ _ ⟨n11, rfl, rfl⟩
 refine y_ (Ad Aj) (Af (Ae (Ag (Ag (Ab (y_ (Am (T E) isAgg56 sizeOf56 E (by first | exact Bb)) ?_ E)))))) E
 refine y_ (Am (T E) isAgg58 sizeOf58 E (by first | exact Bb)) ?_ E
 refine y_ (Ac (T E)) (y_ (Ac (T E)) (e_ (A1 (.cons (T E) (.cons (T E) (.cons (T E) (.cons (T E) .nil)))) call28 (right_s n (hn.mono sbt) f (hf.mono sbt) hfl x y)) ?_ E) E) E
 rintro _ _ ⟨⟨tr, rfl, hrt⟩, rfl⟩
 first | refine Ax (Ca (T E)) E Ah ?_ | refine Ax (Co (T E)) E Ah ?_
 refine y_ (Ac (T E)) ?_ E
 first | refine Bz (s := 27) (Aa E) (fun c27 => ?_) (fun c27 => ?_) | refine Cf (s := 27) (Aa E) (fun c27 => ?_) (fun c27 => ?_)
 ·refine Bm (Bm (Bm (y_ (Aq (T E) Aj) (y_ (Ac (T E)) (Bm (Bm (Bm (y_ (Aq (T E) Aj) (y_ (Ac (T E)) (Bm (Bm (Bm (Bm (y_ (Aq (T E) Aj) (y_ (Ac (T E)) (Bm (Bm (Bm (y_ (Aq (T E) Aj) (y_ (Ac (T E)) (Bm (Bm (Bm (y_ (Aq (T E) Aj) (Af (Ae (Bh [(4, _), (5, _), (6, _), (7, _), (8, _), (9, _), (10, _), (11, _), (52, _)] ⟨Aa E, Aa E, Aa E, Aa E, Aa E, Aa E, Aa E, Aa E, Aa E, trivial⟩ ?_))) E) E E E E) E E E E) E E E E) E) E) E E E E) E E E E) E E E E) E) E) E E E E) E E E E) E E E E) E E E E) E) E) E E E E) E E E E) E E E E) E) E) E E E E) E E E E) E E E E
  first | refine A8 (Aa E) ?_ | refine A8 (Ak (Aa E) (vbool (decide_eq_true c52))) ?_
  refine Ag (Ab (y_ (Av .nil call11 (fun H' hs => sanity_s)) (y_ (Ad (T E)) (Af (Ae (Ay (Al (Az E (.tmp (Aa E) .nil) ?_))))) E) E))
  exact ⟨_, ⟨rfl, rfl⟩, sbt⟩
 ·refine Ax (Am (T E) isAgg24 sizeOf24 E (by first | exact Bb)) E (Ao E E (Aa E)) ?_
  refine Bk (A1 (.cons (T E) .nil) call10 (few_s r (hM.mono sbt) hz)) E (Ao E E (Aa E)) ?_
  rintro _ _ ⟨⟨tf, rfl, hfew⟩, rfl⟩
  first | refine Ax (Ca (T E)) E (Ao E E (Aa E)) ?_ | refine Ax (Co (T E)) E (Ao E E (Aa E)) ?_
  refine y_ (Au (T E) (T E)) (y_ (Ac (T E)) ?_ E) E
  first | refine Bz (s := 32) (Aa E) (fun c32 => ?_) (fun c32 => ?_) | refine Cf (s := 32) (Aa E) (fun c32 => ?_) (fun c32 => ?_)
  ·refine Bm (Bm (Bm (y_ (Aq (T E) Aj) (y_ (Ac (T E)) (Bm (Bm (Bm (Bm (y_ (Aq (T E) Aj) (y_ (Ac (T E)) (Bm (Bm (Bm (y_ (Aq (T E) Aj) (y_ (Ac (T E)) (Bm (Bm (Bm (y_ (Aq (T E) Aj) (Af (Ae (Bh [(4, _), (5, _), (6, _), (7, _), (8, _), (9, _), (10, _), (11, _), (52, _)] ⟨Aa E, Aa E, Aa E, Aa E, Aa E, Aa E, Aa E, Aa E, Aa E, trivial⟩ ?_))) E) E E E E) E E E E) E E E E) E) E) E E E E) E E E E) E E E E) E) E) E E E E) E E E E) E E E E) E E E E) E) E) E E E E) E E E E) E E E E
   first | refine A8 (Aa E) ?_ | refine A8 (Ak (Aa E) (vbool (decide_eq_true c52))) ?_
   refine Ag (Ab (y_ (Av .nil call11 (fun H' hs => sanity_s)) (y_ (Ad (T E)) (Af (Ae (Ay (Al (Az E (.tmp (Aa E) .nil) ?_))))) E) E))
   exact ⟨_, ⟨rfl, rfl⟩, sbt⟩
  ·refine Ax (Am (T E) isAgg29 sizeOf29 E (by first | exact Bb)) E (Ao E E (Aa E)) ?_
   refine Bk (A1 (.cons (T E) .nil) call14 (rcheck_s m (hm.mono sbt))) E (Ao E E (Aa E)) ?_
   rintro _ _ ⟨⟨tc, rfl, htc⟩, rfl⟩
   first | refine Ax (Ca (T E)) E (Ao E E (Aa E)) ?_ | refine Ax (Co (T E)) E (Ao E E (Aa E)) ?_
   refine y_ (Au (T E) (T E)) (y_ (Ac (T E)) ?_ E) E
   first | refine Bz (s := 37) (Aa E) (fun c37 => ?_) (fun c37 => ?_) | refine Cf (s := 37) (Aa E) (fun c37 => ?_) (fun c37 => ?_)
   ·refine Bm (Bm (Bm (Bm (y_ (Aq (T E) Aj) (y_ (Ac (T E)) (Bm (Bm (Bm (y_ (Aq (T E) Aj) (y_ (Ac (T E)) (Bm (Bm (Bm (y_ (Aq (T E) Aj) (Af (Ae (Bh [(4, _), (5, _), (6, _), (7, _), (8, _), (9, _), (10, _), (11, _), (52, _)] ⟨Aa E, Aa E, Aa E, Aa E, Aa E, Aa E, Aa E, Aa E, Aa E, trivial⟩ ?_))) E) E E E E) E E E E) E E E E) E) E) E E E E) E E E E) E E E E) E) E) E E E E) E E E E) E E E E) E E E E
    first | refine A8 (Aa E) ?_ | refine A8 (Ak (Aa E) (vbool (decide_eq_true c52))) ?_
    refine Ag (Ab (y_ (Av .nil call11 (fun H' hs => sanity_s)) (y_ (Ad (T E)) (Af (Ae (Ay (Al (Az E (.tmp (Aa E) .nil) ?_))))) E) E))
    exact ⟨_, ⟨rfl, rfl⟩, sbt⟩
   ·refine Ax (Bi (T E) Cv) E (Ao E E (Aa E)) (Ax (Ai (T E) isAgg26 (by first | exact c_o)) E (Ao E E (Aa E)) ?_)
    refine Ax (Bp (T E) runUnderlying26) E (Ao E E (Aa E)) (Ax (C7 (T E) Aj) E (Ao E E (Aa E)) (y_ (Au (T E) (T E)) (y_ (Ac (T E)) ?_ E) E))
    first | refine Bz (s := 43) (Aa E) (fun c43 => ?_) (fun c43 => ?_) | refine Cf (s := 43) (Aa E) (fun c43 => ?_) (fun c43 => ?_)
    ·refine Bm (Bm (Bm (y_ (Aq (T E) Aj) (y_ (Ac (T E)) (Bm (Bm (Bm (y_ (Aq (T E) Aj) (Af (Ae (Bh [(4, _), (5, _), (6, _), (7, _), (8, _), (9, _), (10, _), (11, _), (52, _)] ⟨Aa E, Aa E, Aa E, Aa E, Aa E, Aa E, Aa E, Aa E, Aa E, trivial⟩ ?_))) E) E E E E) E E E E) E E E E) E) E) E E E E) E E E E) E E E E
     first | refine A8 (Aa E) ?_ | refine A8 (Ak (Aa E) (vbool (decide_eq_true c52))) ?_
     refine Ag (Ab (y_ (Av .nil call11 (fun H' hs => sanity_s)) (y_ (Ad (T E)) (Af (Ae (Ay (Al (Az E (.tmp (Aa E) .nil) ?_))))) E) E))
     exact ⟨_, ⟨rfl, rfl⟩, sbt⟩
    ·refine Ax (Ac (T E)) E (Ao E E (Aa E)) (Ax (Bp (T E) runUnderlying42) E (Ao E E (Aa E)) (Ax (C7 (T E) Aj) E (Ao E E (Aa E)) (y_ (Au (T E) (T E)) (y_ (Ac (T E)) ?_ E) E)))
     first | refine Bz (s := 48) (Aa E) (fun c48 => ?_) (fun c48 => ?_) | refine Cf (s := 48) (Aa E) (fun c48 => ?_) (fun c48 => ?_)
     ·refine Bm (Bm (Bm (y_ (Aq (T E) Aj) (Af (Ae (Bh [(4, _), (5, _), (6, _), (7, _), (8, _), (9, _), (10, _), (11, _), (52, _)] ⟨Aa E, Aa E, Aa E, Aa E, Aa E, Aa E, Aa E, Aa E, Aa E, trivial⟩ ?_))) E) E E E E) E E E E) E E E E
      first | refine A8 (Aa E) ?_ | refine A8 (Ak (Aa E) (vbool (decide_eq_true c52))) ?_
      refine Ag (Ab (y_ (Av .nil call11 (fun H' hs => sanity_s)) (y_ (Ad (T E)) (Af (Ae (Ay (Al (Az E (.tmp (Aa E) .nil) ?_))))) E) E))
      exact ⟨_, ⟨rfl, rfl⟩, sbt⟩
     ·refine Ax (Ac (T E)) E (Ao E E (Aa E)) (Ax (Bp (T E) runUnderlying59) E (Ao E E (Aa E)) (Ax (C7 (T E) Aj) E (Ao E E (Aa E)) (y_ (Au (T E) (T E)) (Af (Ae (Bh [(4, _), (5, _), (6, _), (7, _), (8, _), (9, _), (10, _), (11, _), (52, _)] ⟨Aa E, Aa E, Aa E, Aa E, Aa E, Aa E, Aa E, Aa E, Aa E, trivial⟩ ?_))) E)))
      first | refine Ar (Aa E) (fun c52 => ?_) (fun c52 => ?_) | refine A6 (Aa E) (fun c52 => ?_) (fun c52 => ?_)
      ·refine Ag (Ab (y_ (Av .nil call11 (fun H' hs => sanity_s)) (y_ (Ad (T E)) (Af (Ae (Ay (Al (Az E (.tmp (Aa E) .nil) ?_))))) E) E))
       exact ⟨_, ⟨rfl, rfl⟩, sbt⟩
      ·have hR := hrt (by simpa using c27)
       obtain ⟨e, hI, hz40⟩ := hfew (by simpa using c32)
       have hlv := hI.lvz
       have hl64 : e.lv ≤ 64 := by omega
       obtain ⟨x, rfl⟩ : ∃ k : Nat, x = (k : Int) := ⟨x.toNat, by have := hR.x; omega⟩
       obtain ⟨y, rfl⟩ : ∃ k : Nat, y = (k : Int) := ⟨y.toNat, by have := hR.y; omega⟩
       have hNF : NF w0 H n f x y := ⟨hn, hf, hR⟩
       have hok := nn_ok hR
       have hC := htc.1 (by simpa using c37)
       have hmc := mcI_ok hm hC
       have hpo := mcI_pm hC
       have hsr := mcI_srt hC
       have hEO := hNF.eo hpo hsr hm.l1
       have hx := hNF.hx
       have hal := find_few (f := f) (to := y) hok hpo hx
       have hil := ins_few (f := f) hok hpo hx
       rw [← mcI_enc m]
       refine A2 (Ae (Ag (Ab (y_ (Am (T E) isAgg56 sizeOf56 E (by first | exact Bb)) ?_ E))))
       refine y_ (Am (T E) isAgg58 sizeOf58 E (by first | exact Bb)) ?_ E
       refine y_ (Am (T E) isAgg29 sizeOf29 E (by first | exact Bb)) ?_ E
       refine y_ (Ac (T E)) (y_ (Ac (T E)) (e_ (A1 (.cons (T E) (.cons (T E) (.cons (T E) (.cons (T E) (.cons (T E) .nil))))) call29 (findV_s (hNF.mono sbt) (hmc.mono sbt) hEO)) ?_ E) E) E
       rintro _ _ ⟨d, ⟨rfl, hokd⟩, rfl⟩
       refine y_ (Ac (T E)) (y_ (Bf (T E) E) (y_ (Bf (T E) E) (y_ (Ad (T E)) (y_ (Ad (T E)) (Af (Ae (Ag (Ab (y_ (Am (T E) isAgg56 sizeOf56 E (by first | exact Bb)) ?_ E))))) E) E) E) E) E
       refine y_ (Am (T E) isAgg58 sizeOf58 E (by first | exact Bb)) ?_ E
       refine y_ (Am (T E) isAgg29 sizeOf29 E (by first | exact Bb)) ?_ E
       refine y_ (Ac (T E)) (y_ (Ac (T E)) (e_ (A1 (.cons (T E) (.cons (T E) (.cons (T E) (.cons (T E) (.cons (T E) .nil))))) call30 (rfindV_s (hNF.mono sbt) (hmc.mono sbt) hEO)) ?_ E) E) E
       rintro _ _ ⟨q3, c3, M3, ⟨rfl, hA3⟩, rfl⟩
       refine y_ (Ac (T E)) (y_ (Bf (T E) E) (y_ (Bf (T E) E) (y_ (Ad (T E)) (y_ (Ad (T E)) (Af (Ae (Bh [(4, _), (5, _), (6, _), (7, _), (8, _), (9, _), (10, _), (11, _), (17, _), (18, _), (19, _), (20, _)] ⟨Aa E, Aa E, Aa E, Aa E, Aa E, Aa E, Aa E, Aa E, Aa E, Aa E, Aa E, Aa E, trivial⟩ (Ag (Ag (Ch 26 [(0, true), (1, true), (2, true), (3, true), (4, true), (5, true), (6, true), (7, true), (8, true), (9, true), (10, true), (11, true), (12, true), (13, true), (14, true), (15, true), (16, true), (17, true), (18, true), (19, true), (20, true), (21, true), (22, true), (23, true), (24, true), (25, true)] _ mixd (by kernel_rfl) sb0 ?_)))))) E) E) E) E) E
       refine o_y E (Ac (T E)) (o_y E (Ac (T E)) (o_y E (Av (.cons (T E) (.cons (T E) .nil)) call31 (fun H' hs => sameU_s (findF (nnOf n) f (mcI m).pl x y).1 (slQ d) q3 (slC d) c3 ((Bq (w0 := w0) (enc := encU) (sz := 1) (e := 3) (X := H) (fun _ => rfl) hokd).mono (List.Sublist.trans sbt hs)) (hA3.mono (List.Sublist.trans sbt hs)) (by omega))) ?_ E Ah) E Ah) E Ah
       first | refine o_y E (Ca (T E)) ?_ E Ah | refine o_y E (Co (T E)) ?_ E Ah
       refine o_y E (Ac (T E)) (o_y E (Ac (T E)) (o_y E (Ac (T E)) (o_y E (yl_neqs (T E) (T E)) (o_y E (Au (T E) (T E)) (o_y E (Ac (T E)) (o_y E (Am (T E) isAgg56 sizeOf56 E (by first | exact Bb)) ?_ E (Ao E E (Aa E))) E Ah) E Ah) E (Ao E E (Aa E))) E (Ao E E (Aa E))) E (Ao E E (Aa E))) E Ah
       refine o_y E (Am (T E) isAgg58 sizeOf58 E (by first | exact Bb)) ?_ E (Ao E E (Aa E))
       refine o_y E (Am (T E) isAgg24 sizeOf24 E (by first | exact Bb)) ?_ E (Ao E E (Aa E))
       refine o_y E (Ac (T E)) (o_y E (Ac (T E)) (o_y E (Ac (T E)) (o_y E (Av (.cons (T E) (.cons (T E) (.cons (T E) (.cons (T E) (.cons (T E) (.cons (T E) .nil)))))) call32 (fun H' hs => holdN_s (hNF.mono (List.Sublist.trans sbt hs)) r e hI (hM.mono (List.Sublist.trans sbt hs)) hl64 ls q cp (hL.mono (List.Sublist.trans sbt hs)) (by omega))) ?_ E (Ao E E (Aa E))) E (Ao E E (Aa E))) E (Ao E E (Aa E))) E (Ao E E (Aa E))
       refine o_y E (Am (T E) isAgg56 sizeOf56 E (by first | exact Bb)) ?_ E (Ao E E (Aa E))
       refine o_y E (Am (T E) isAgg58 sizeOf58 E (by first | exact Bb)) ?_ E (Ao E E (Aa E))
       refine o_y E (Am (T E) isAgg24 sizeOf24 E (by first | exact Bb)) ?_ E (Ao E E (Aa E))
       refine o_y E (Ac (T E)) (o_y E (Ac (T E)) (o_y E (Ac (T E)) (o_y E (Av (.cons (T E) (.cons (T E) (.cons (T E) (.cons (T E) (.cons (T E) (.cons (T E) .nil)))))) call33 (fun H' hs => rholdE_s (hNF.mono (List.Sublist.trans sbt hs)) r e hI (hM.mono (List.Sublist.trans sbt hs)) hl64 ls q cp (hL.mono (List.Sublist.trans sbt hs)) (by omega))) ?_ E (Ao E E (Aa E))) E (Ao E E (Aa E))) E (Ao E E (Aa E))) E (Ao E E (Aa E))
       refine o_y E (yl_neBs (T E) (T E)) (o_y E (Au (T E) (T E)) (Bx E (Af (Ae (Bh [(4, _), (5, _), (7, _), (8, _), (9, _), (11, _), (97, _)] ⟨Aa E, Aa E, Aa E, Aa E, Aa E, Aa E, Aa E, trivial⟩ ?_)))) E Ah) E (Ao E E (Aa E))
       first | refine Br (Aa E) ?_ | refine Br (Ak (Aa E) (vbool (decide_eq_false c97))) ?_
       refine A2 (Ae (Ag (Ch 32 [(0, true), (1, true), (2, true), (3, true), (4, true), (5, true), (7, true), (8, true), (9, true), (10, true), (6, false), (11, false), (12, true), (13, true), (14, true), (15, true), (16, true), (17, true), (18, true), (19, true), (20, true), (21, true), (22, true), (23, true), (24, true), (25, true), (26, true), (27, true), (28, true), (29, true), (30, true), (31, true)] _ mixd (by kernel_rfl) sb0 ?_)))
       refine o_y E (Av .nil call11 (fun H' hs => sanity_s)) (o_y E (Ac (T E)) (o_y E (Am (T E) isAgg56 sizeOf56 E (by first | exact Bb)) ?_ E (Ao E E (Aa E))) E Ah) E Ah
       refine o_y E (Am (T E) isAgg58 sizeOf58 E (by first | exact Bb)) ?_ E (Ao E E (Aa E))
       refine o_y E (Am (T E) isAgg29 sizeOf29 E (by first | exact Bb)) ?_ E (Ao E E (Aa E))
       refine o_y E (Ac (T E)) (o_y E (Am (T E) isAgg56 sizeOf56 E (by first | exact Bb)) ?_ E (Ao E E (Aa E))) E (Ao E E (Aa E))
       refine o_y E (Am (T E) isAgg58 sizeOf58 E (by first | exact Bb)) ?_ E (Ao E E (Aa E))
       refine o_y E (Am (T E) isAgg29 sizeOf29 E (by first | exact Bb)) ?_ E (Ao E E (Aa E))
       refine o_y E (Ac (T E)) (o_e E (A1 (.cons (T E) (.cons (T E) (.cons (T E) (.cons (T E) .nil)))) call35 (reachE_s (hNF.mono sbt) (hmc.mono sbt) hEO)) ?_ E (Ao E E (Aa E))) E (Ao E E (Aa E))
       rintro _ _ ⟨d4, ⟨rfl, hok4⟩, rfl⟩
       refine ⟨sbt, (o_up (o_e E (A1 (.cons (T E) (.cons (T E) (.cons (T E) (.cons (T E) .nil)))) call36 (rreachE_s (hNF.mono sbt) (hmc.mono sbt) hEO)) ?_ E (Ao E E (Aa E))))⟩
       rintro _ _ ⟨d5, ⟨rfl, hok5⟩, rfl⟩
       refine ⟨sbt, (o_up (o_y E (Av (.cons (T E) (.cons (T E) .nil)) call34 (fun H' hs => sameP_s (insAll (if f.node = x then [] else metF (nnOf n) f (mcI m).pl x)) (slQ d4) (slQ d5) (slC d4) (slC d5) ((Bq (w0 := w0) (enc := encPl) (sz := 2) (e := 74) (X := H) (fun _ => rfl) hok4).mono (List.Sublist.trans sbt hs)) ((Bq (w0 := w0) (enc := encPl) (sz := 2) (e := 74) (X := H) (fun _ => rfl) hok5).mono (List.Sublist.trans sbt hs)) (by omega))) ?_ E (Ao E E (Aa E))))⟩
       refine o_y E (Aq (T E) (T E)) (o_y E (Ac (T E)) (o_y E (Am (T E) isAgg56 sizeOf56 E (by first | exact Bb)) ?_ E (Ao E E (Aa E))) E Ah) E Ah
       refine o_y E (Am (T E) isAgg58 sizeOf58 E (by first | exact Bb)) ?_ E (Ao E E (Aa E))
       refine o_y E (Am (T E) isAgg29 sizeOf29 E (by first | exact Bb)) ?_ E (Ao E E (Aa E))
       refine o_y E (Ac (T E)) (o_y E (Ac (T E)) (o_y E (Ac (T E)) (o_y E (Av (.cons (T E) (.cons (T E) (.cons (T E) (.cons (T E) (.cons (T E) (.cons (T E) .nil)))))) call37 (fun H' hs => refE_s (hNF.mono (List.Sublist.trans sbt hs)) (hmc.mono (List.Sublist.trans sbt hs)) hEO pl q2 cp2 (hP.mono (List.Sublist.trans sbt hs)) (by omega))) ?_ E (Ao E E (Aa E))) E (Ao E E (Aa E))) E (Ao E E (Aa E))) E (Ao E E (Aa E))
       refine o_y E (Am (T E) isAgg56 sizeOf56 E (by first | exact Bb)) ?_ E (Ao E E (Aa E))
       refine o_y E (Am (T E) isAgg58 sizeOf58 E (by first | exact Bb)) ?_ E (Ao E E (Aa E))
       refine o_y E (Am (T E) isAgg29 sizeOf29 E (by first | exact Bb)) ?_ E (Ao E E (Aa E))
       refine o_y E (Ac (T E)) (o_y E (Ac (T E)) (o_y E (Ac (T E)) (o_y E (Av (.cons (T E) (.cons (T E) (.cons (T E) (.cons (T E) (.cons (T E) (.cons (T E) .nil)))))) call38 (fun H' hs => rrefE_s (hNF.mono (List.Sublist.trans sbt hs)) (hmc.mono (List.Sublist.trans sbt hs)) hEO pl q2 cp2 (hP.mono (List.Sublist.trans sbt hs)) (by omega))) ?_ E (Ao E E (Aa E))) E (Ao E E (Aa E))) E (Ao E E (Aa E))) E (Ao E E (Aa E))
       refine o_y E (yl_eqBs (T E) (T E)) (o_y E (Aq (T E) (T E)) (o_y E (Ad (T E)) (Bx E (Af (Ae (Bh [(16, _)] ⟨Aa E, trivial⟩ (Ay (Az E (.tmp (Aa E) .nil) ?_)))))) E Ah) E Ah) E (Ao E E (Aa E))
       exact ⟨_, ⟨rfl, rfl⟩, sbt⟩
end Go.Proofs.YtkdolgnpkjihpaaGreatDoor
namespace Go.Proofs.YtkdolgnpkjihpaaGreatDoor
open _root_.Go.Proofs.Tryz
open Go.ChangeShapes Go.WideShapes Go.ChangeAt Go.RowKit Go.Joins Go.Deep
set_option linter.unusedSimpArgs false
set_option linter.unusedVariables false
set_option maxRecDepth 100000
theorem below_cell {W w : World} {p : Addr} {v : Value} (hb : Below W.heap.size W w) (h : W.cell? p = some v) : w.cell? p = some v := by
 have hlt := World.block_lt_of_cell? _ _ h
 have := hb.block p.block hlt
 unfold World.cell? at h ⊢
 rw [this]; exact h
theorem cell_arg {W : World} {p : Addr} {v : Value} (h : W.cell? p = some v) : Cell W [] p v := fun w hO => below_cell hO.below h
theorem blk_pos {H : Type} (d : DataW H) : 1 ≤ Rows.uptoBulk d := by
 cases d with
 | lit l => cases l <;> simp [Rows.uptoBulk]
 | nil => simp [Rows.uptoBulk]
 | ptr d => simp [Rows.uptoBulk]
 | slice elems spare => simp [Rows.uptoBulk]
 | agg parts => simp [Rows.uptoBulk]
 | iface t d => simp [Rows.uptoBulk]
 | map entries => simp [Rows.uptoBulk]
 | held h => simp [Rows.uptoBulk]
theorem blk_sum {H : Type} {f : Nat → Nat} {D : Nat → DataW H} : ∀ (l : List Nat), (∀ i ∈ l, f i ≤ Rows.uptoBulk (D i)) → (l.map f).sum ≤ Rows.uptoBulkAll (l.map D)
 | [], _ => Nat.le_refl _
 | x :: l, h => by
  have h1 := h x (by simp)
  have h2 := blk_sum l fun i hi => h i (by simp [hi])
  simp only [List.map_cons, List.sum_cons, Rows.uptoBulkAll]
  omega
theorem blk_mem {H : Type} {D : Nat → DataW H} : ∀ {l : List Nat} {i : Nat}, i ∈ l → Rows.uptoBulk (D i) ≤ Rows.uptoBulkAll (l.map D)
 | x :: l, i, h => by
  simp only [List.map_cons, Rows.uptoBulkAll]
  rcases List.mem_cons.1 h with rfl | h
  ·exact Nat.le_add_right _ _
  ·have := blk_mem (D := D) h; omega
section
variable {H : Type} {enc : TypeId × Value → H} {P : Program} {W : World} {b0 : Nat} {sp1 : Nat → Bool} {held : Bool}
theorem open_arr {α : Type} {t e sz fuel : Nat} {cs : List Value} {x : DataW H × List MemPlace} {el : α → List Value} {φ : α → Prop} {szf : α → Nat} (ht : P.underlying t = some (.slice e)) (hc : P.cellsOf e = sz) (hsz : 0 < sz)
  (hel : ∀ n cs y, Rows.uptoBulk y.1 < Rows.uptoBulk x.1 → DataW.trod enc P W b0 sp1 held n e cs = some y → ∃ u : α, cs = el u ∧ φ u ∧ szf u ≤ Rows.uptoBulk y.1) (h : DataW.trod enc P W b0 sp1 held fuel t cs = some x) :
  ∃ (q : Option Addr) (l : List α) (cap : Nat), cs = [.slice q l.length cap] ∧ Arr W [] q sz el l ∧ l.length ≤ cap ∧ l.length ≤ 9223372036854775807 ∧ (∀ u ∈ l, φ u) ∧ (l.map szf).sum + 1 ≤ Rows.uptoBulk x.1 := by
 rcases open_slice ht h with ⟨rfl, rfl⟩ | ⟨a, len, cap, m, n, D, Pl, rfl, hb, hl, hm, hmm, rfl, hx⟩
 ·exact ⟨none, [], 0, rfl, fun i u hi => by simp at hi, by simp, by simp, by simp, by simp [Rows.uptoBulk]⟩
 have hlm : len ≤ m := by rw [hmm]; split <;> omega
 have hlen : len ≤ 9223372036854775807 := by unfold maxLen at hm; omega
 cases len with
 | zero => exact ⟨some a, [], cap, rfl, fun i u hi => by simp at hi, by simp, by simp, by simp, by simp [Rows.uptoBulk]⟩
 | succ k =>
  have hbk : Rows.uptoBulkAll ((List.range (k + 1)).map D) + 1 ≤ Rows.uptoBulk (DataW.slice ((List.range (k + 1)).map D) ((List.range (m - (k + 1))).map fun j => D (k + 1 + j))) := by
   simp only [Rows.uptoBulk]; omega
  have each : ∀ i, i < k + 1 → ∃ u : α, W.cells? b0 (a.add (i * sz)) sz = some (el u) ∧ φ u ∧ szf u ≤ Rows.uptoBulk (D i) := fun i hi => by
   obtain ⟨cs', h1, h2⟩ := hx i (by omega)
   rw [hc] at h1
   have h3 := blk_mem (D := D) (List.mem_range.2 hi)
   obtain ⟨u, rfl, hu⟩ := hel _ _ _ (by simp only []; omega) h2
   exact ⟨u, h1, hu⟩
  obtain ⟨u0, h00, hu0⟩ := each 0 (by omega)
  letI : Inhabited α := ⟨u0⟩
  obtain ⟨f, hf⟩ := choose_lt each
  refine ⟨some a, (List.range (k + 1)).map f, cap, by simp, fun i u hi => ?_, by simpa using hl, by simpa using hlen, fun u hu => ?_, ?_⟩
  ·have hik : i < k + 1 := by have := (List.getElem?_eq_some_iff.1 hi).1; simpa using this
   have hfu : f i = u := by simpa [hik] using hi
   obtain ⟨sb, so, spot⟩ := a
   obtain ⟨_, hl0, hc0⟩ := World.cells?_some h00
   have hspot : spot = none := by
    have h6 := (hc0 0 hsz).trans (List.getElem?_eq_getElem (by omega))
    simpa [Addr.add] using World.cell?_spot h6
   subst hspot
   refine ⟨rfl, fun j v hj => cell_arg ?_⟩
   obtain ⟨_, hl1, hc1⟩ := World.cells?_some (hf i hik).1
   rw [hfu] at hl1 hc1
   have hjl := (List.getElem?_eq_some_iff.1 hj).1
   have h5 := hc1 j (by omega)
   rw [add_add, add_plain] at h5
   have h6 := h5.trans hj
   rw [← Nat.add_assoc] at h6
   exact h6
  ·obtain ⟨i, hi, rfl⟩ := List.mem_map.1 hu
   exact (hf i (List.mem_range.1 hi)).2.1
  ·have := blk_sum (f := fun i => szf (f i)) (D := D) (List.range (k + 1)) fun i hi => (hf i (List.mem_range.1 hi)).2.2
   rw [List.map_map]
   have e : (szf ∘ f) = fun i => szf (f i) := rfl
   rw [e]; simp only [] at hbk ⊢; omega
end
theorem cells3 : Tryz.prog.cellsOf 3 = 1 := by kernel_rfl
theorem cells4 : Tryz.prog.cellsOf 4 = 1 := by kernel_rfl
theorem cells9 : Tryz.prog.cellsOf 9 = 1 := by kernel_rfl
theorem cells22 : Tryz.prog.cellsOf 22 = 1 := by kernel_rfl
theorem cells24 : Tryz.prog.cellsOf 24 = 3 := by kernel_rfl
theorem cells25 : Tryz.prog.cellsOf 25 = 1 := by kernel_rfl
theorem cells26 : Tryz.prog.cellsOf 26 = 1 := by kernel_rfl
theorem cells27 : Tryz.prog.cellsOf 27 = 1 := by kernel_rfl
theorem cells29 : Tryz.prog.cellsOf 29 = 3 := by kernel_rfl
theorem cells42 : Tryz.prog.cellsOf 42 = 1 := by kernel_rfl
theorem cells52 : Tryz.prog.cellsOf 52 = 1 := by kernel_rfl
theorem cells53 : Tryz.prog.cellsOf 53 = 1 := by kernel_rfl
theorem cells54 : Tryz.prog.cellsOf 54 = 1 := by kernel_rfl
theorem cells56 : Tryz.prog.cellsOf 56 = 3 := by kernel_rfl
theorem cells58 : Tryz.prog.cellsOf 58 = 2 := by kernel_rfl
theorem cells74 : Tryz.prog.cellsOf 74 = 2 := by kernel_rfl
theorem cells71 : Tryz.prog.cellsOf 71 = 3 := by kernel_rfl
theorem cells138 : Tryz.prog.cellsOf 138 = 4 := by kernel_rfl
theorem cells154 : Tryz.prog.cellsOf 154 = 2 := by kernel_rfl
theorem own_knob : ownKnob Tryz.prog.godebug = none := by kernel_rfl
theorem i64_bd {n : Int} (h : (Lit.int .i64 n).wf = true) : -9223372036854775808 ≤ n ∧ n ≤ 9223372036854775807 := by
 have := bounds_i64 h; exact this
theorem sum_len {α : Type} (l : List α) : (l.map fun _ => 1).sum = l.length := by
 induction l with
 | nil => rfl
 | cons x l ih => simp only [List.map_cons, List.sum_cons, List.length_cons, ih]; omega
theorem sum_mem {α : Type} {f : α → Nat} : ∀ {l : List α} {x : α}, x ∈ l → f x ≤ (l.map f).sum
 | y :: l, x, h => by
  simp only [List.map_cons, List.sum_cons]
  rcases List.mem_cons.1 h with rfl | h
  ·omega
  ·have := sum_mem (f := f) h; omega
theorem sum_ge {α : Type} {f : α → Nat} (h : ∀ x, 1 ≤ f x) : ∀ l : List α, l.length ≤ (l.map f).sum
 | [] => Nat.le_refl _
 | x :: l => by simp only [List.map_cons, List.sum_cons, List.length_cons]; have := h x; have := sum_ge h l; omega
theorem szL_sum : ∀ l : List Rxm, szL l = (l.map Rxm.sz).sum
 | [] => rfl
 | x :: l => by simp only [szL, List.map_cons, List.sum_cons, szL_sum l]
section
variable {H : Type} {enc : TypeId × Value → H} {W : World} {b0 n : Nat} {sp1 : Nat → Bool} {held : Bool} {y : DataW H × List MemPlace} {cs : List Value}
theorem rd_int {c : Value} (h : DataW.trod enc Tryz.prog W b0 sp1 held n 3 [c] = some y) : ∃ a : Int, c = .int .i64 a ∧ (-9223372036854775808 ≤ a ∧ a ≤ 9223372036854775807) := by
 obtain ⟨a, e0, _, wa⟩ := DataW.trod_int underlying3 h
 simp at e0
 exact ⟨a, e0, i64_bd wa⟩
theorem rd_str (h : DataW.trod enc Tryz.prog W b0 sp1 held n 9 cs = some y) : ∃ u : ByteArray, cs = encS u ∧ u.size ≤ 9223372036854775807 := by
 obtain ⟨s, e0, _, ws⟩ := DataW.trod_string underlying9 h
 exact ⟨s, e0, by unfold maxLen at ws; omega⟩
theorem rd_strs (h : DataW.trod enc Tryz.prog W b0 sp1 held n 25 cs = some y) : ∃ (q : Option Addr) (l : List ByteArray) (cap : Nat), cs = [.slice q l.length cap] ∧ Arr W [] q 1 encS l ∧ l.length ≤ cap ∧ l.length ≤ 9223372036854775807 ∧ l.length ≤ Rows.uptoBulk y.1 := by
 obtain ⟨q, l, cap, e, a, c, b, _, s⟩ := open_arr (el := encS) (φ := fun _ => True) (szf := fun _ => 1) underlying25 cells9 (by omega) (fun n cs y _ h => by obtain ⟨u, e, _⟩ := rd_str h; exact ⟨u, e, trivial, blk_pos _⟩) h
 rw [sum_len] at s
 exact ⟨q, l, cap, e, a, c, b, by omega⟩
theorem rd_ints (h : DataW.trod enc Tryz.prog W b0 sp1 held n 42 cs = some y) : ∃ (q : Option Addr) (l : List Int) (cap : Nat), cs = [.slice q l.length cap] ∧ Arr W [] q 1 encI l ∧ l.length ≤ cap ∧ l.length ≤ 9223372036854775807 ∧ (∀ u ∈ l, -9223372036854775808 ≤ u ∧ u ≤ 9223372036854775807) ∧ l.length + 1 ≤ Rows.uptoBulk y.1 := by
 obtain ⟨q, l, cap, e, a, c, b, f, s⟩ := open_arr (el := encI) (φ := fun u => -9223372036854775808 ≤ u ∧ u ≤ 9223372036854775807) (szf := fun _ => 1) underlying42 cells3 (by omega) (fun n cs y _ h => by
  obtain ⟨a, e0, _, wa⟩ := DataW.trod_int underlying3 h
  exact ⟨a, e0, i64_bd wa, blk_pos _⟩) h
 rw [sum_len] at s
 exact ⟨q, l, cap, e, a, c, b, f, s⟩
theorem rd_rx : ∀ (N : Nat) {n : Nat} {y : DataW H × List MemPlace} {cs : List Value}, Rows.uptoBulk y.1 ≤ N → DataW.trod enc Tryz.prog W b0 sp1 held n 24 cs = some y → ∃ u : Rxm, cs = encRx u ∧ RxM W [] u ∧ u.sz ≤ Rows.uptoBulk y.1
 | 0, n, y, cs, hN, _ => by have := blk_pos y.1; omega
 | N + 1, n, y, cs, hN, h => by
  obtain ⟨xs, m, rfl, rfl, hlen, hxl, hall⟩ := DataW.trod_struct underlying24 h
  rw [cells24] at hlen
  match xs, hxl, cs, hlen with
  | [x0, x1, x2], _, [c0, c1, c2], _ =>
   have f0 : DataW.trod enc Tryz.prog W b0 sp1 held m 3 [c0] = some x0 := by have := hall 0 _ rfl; simpa [cells3] using this
   have f1 : DataW.trod enc Tryz.prog W b0 sp1 held m 9 [c1] = some x1 := by have := hall 1 _ rfl; simpa [cells9] using this
   have f2 : DataW.trod enc Tryz.prog W b0 sp1 held m 22 [c2] = some x2 := by have := hall 2 _ rfl; simpa [cells22] using this
   have hb : Rows.uptoBulk x2.1 + 2 ≤ Rows.uptoBulk (DataW.agg (H := H) ([x0, x1, x2].map (·.1))) := by
    have := blk_pos x0.1; have := blk_pos x1.1
    simp only [Rows.uptoBulk, Rows.uptoBulkAll, List.map_cons, List.map_nil] at *; omega
   have hN' : Rows.uptoBulk (DataW.agg (H := H) ([x0, x1, x2].map (·.1))) ≤ N + 1 := hN
   obtain ⟨k, rfl, _⟩ := rd_int f0
   obtain ⟨s, e1, hs⟩ := rd_str f1
   obtain ⟨q, l, cap, e2, ha, hc, hl, hf, hsum⟩ := open_arr (el := encRx) (φ := RxM W []) (szf := Rxm.sz) underlying22 cells24 (by omega) (fun n cs y hy h => rd_rx N (by omega) h) f2
   simp at e1 e2
   refine ⟨.mk k s q cap l, by rw [e1, e2]; rfl, .mk ha hf hs hl, ?_⟩
   rw [sz_eq, show (Rxm.mk k s q cap l).args = l from rfl, szL_sum]
   exact Nat.le_trans (by omega : 1 + (l.map Rxm.sz).sum ≤ Rows.uptoBulk x2.1 + 2) hb
theorem open_rx {base : Nat} {r : _root_.Go.Reach} {v : Value} {d : DataW H} {p : List MemPlace} (hv : Value.okWide Tryz.prog W r base 24 v) (h : DataW.Trod enc Tryz.prog W b0 sp1 held 24 v d p) : ∃ u : Rxm, v = .agg (encRx u).toArray ∧ RxM W [] u ∧ u.sz ≤ Rows.uptoBulk d := by
 obtain ⟨cs, rfl, hsz⟩ := okWide_struct underlying24 hv
 obtain ⟨fuel, hf⟩ := h
 obtain ⟨l⟩ := cs
 obtain ⟨u, e, hu⟩ := rd_rx _ (Nat.le_refl _) hf
 simp only [Value.cells] at e
 exact ⟨u, by rw [← e], hu⟩
theorem open_ints {base : Nat} {r : _root_.Go.Reach} {v : Value} {d : DataW H} {p : List MemPlace} (hv : Value.okWide Tryz.prog W r base 42 v) (h : DataW.Trod enc Tryz.prog W b0 sp1 held 42 v d p) : ∃ (q : Option Addr) (l : List Int) (cap : Nat), v = .slice q l.length cap ∧ Arr W [] q 1 encI l ∧ l.length ≤ cap ∧ l.length ≤ 9223372036854775807 ∧ (∀ u ∈ l, -9223372036854775808 ≤ u ∧ u ≤ 9223372036854775807) ∧ l.length + 1 ≤ Rows.uptoBulk d := by
 obtain ⟨a0, len0, cap0, rfl⟩ := okWide_slice underlying42 hv
 obtain ⟨fuel, hf⟩ := h
 obtain ⟨q, l, cap, e, r⟩ := rd_ints hf
 simp only [Value.cells, List.cons.injEq, and_true] at e
 exact ⟨q, l, cap, e, r⟩
theorem open_mach {base : Nat} {r : _root_.Go.Reach} {v : Value} {d : DataW H} {p : List MemPlace} (hv : Value.okWide Tryz.prog W r base 29 v) (h : DataW.Trod enc Tryz.prog W b0 sp1 held 29 v d p) (hb : Rows.uptoBulk d ≤ 1048576) : ∃ m : Mi, v = .agg (encMi m).toArray ∧ MiOk W [] m := by
 obtain ⟨cs, rfl, hsz⟩ := okWide_struct underlying29 hv
 obtain ⟨fuel, hf⟩ := h
 obtain ⟨xs, m, rfl, hx, hlen, hxl, hall⟩ := DataW.trod_struct underlying29 hf
 obtain ⟨l⟩ := cs
 simp only [Value.cells, cells29] at hlen hall
 match xs, hxl, l, hlen with
 | [x0, x1, x2], _, [c0, c1, c2], _ =>
  have f0 : DataW.trod enc Tryz.prog W b0 sp1 held m 25 [c0] = some x0 := by have := hall 0 _ rfl; simpa [cells25] using this
  have f1 : DataW.trod enc Tryz.prog W b0 sp1 held m 26 [c1] = some x1 := by have := hall 1 _ rfl; simpa [cells26] using this
  have f2 : DataW.trod enc Tryz.prog W b0 sp1 held m 27 [c2] = some x2 := by have := hall 2 _ rfl; simpa [cells27] using this
  have hd : Rows.uptoBulk x0.1 + Rows.uptoBulk x1.1 ≤ 1048576 := by
   have h1 := (Prod.mk.inj hx).1
   have h2 : Rows.uptoBulk d = Rows.uptoBulk (DataW.agg (H := H) ([x0, x1, x2].map (·.1))) := by rw [h1]
   simp only [Rows.uptoBulk, Rows.uptoBulkAll, List.map_cons, List.map_nil] at *; omega
  obtain ⟨q0, l0, k0, e0, a0, _, _, b0⟩ := rd_strs f0
  obtain ⟨q1, l1, k1, e1, a1, _, _, g1, s1⟩ := open_arr (el := encRI) (φ := fun r : RowI => Arr W [] r.q 1 encI r.l) (szf := fun r => r.l.length + 1) underlying26 cells42 (by omega) (fun n cs y _ h => by
   obtain ⟨q, l, cap, e, a, _, _, _, s⟩ := rd_ints h
   exact ⟨⟨q, cap, l⟩, e, a, s⟩) f1
  obtain ⟨q2, l2, k2, e2, a2, _, _, _, _⟩ := open_arr (el := encB1) (φ := fun _ => True) (szf := fun _ => 1) underlying27 cells4 (by omega) (fun n cs y _ h => by
   obtain ⟨b, e1, _⟩ := DataW.trod_bool underlying4 h
   exact ⟨b, e1, trivial, blk_pos _⟩) f2
  simp at e0 e1 e2
  refine ⟨⟨l0, l1, l2, q0, k0, q1, k1, q2, k2⟩, by rw [e0, e1, e2], ⟨a0, a1, a2, g1, by simp only []; omega, ?_, fun r hr => ?_⟩⟩
  ·have := sum_ge (f := fun r : RowI => r.l.length + 1) (fun _ => by omega) l1
   simp only []; omega
  ·have := sum_mem (f := fun r : RowI => r.l.length + 1) hr
   simp only [] at this; omega
theorem rd_node (h : DataW.trod enc Tryz.prog W b0 sp1 held n 138 cs = some y) : ∃ u : Nod, cs = encN u ∧ u.name.size ≤ 9223372036854775807 := by
 obtain ⟨xs, m, rfl, hx, hlen, hxl, hall⟩ := DataW.trod_struct underlying138 h
 rw [cells138] at hlen
 match xs, hxl, cs, hlen with
 | [x0, x1, x2, x3], _, [c0, c1, c2, c3], _ =>
  have f0 : DataW.trod enc Tryz.prog W b0 sp1 held m 9 [c0] = some x0 := by have := hall 0 _ rfl; simpa [cells9] using this
  have f1 : DataW.trod enc Tryz.prog W b0 sp1 held m 4 [c1] = some x1 := by have := hall 1 _ rfl; simpa [cells4] using this
  have f2 : DataW.trod enc Tryz.prog W b0 sp1 held m 3 [c2] = some x2 := by have := hall 2 _ rfl; simpa [cells3] using this
  have f3 : DataW.trod enc Tryz.prog W b0 sp1 held m 3 [c3] = some x3 := by have := hall 3 _ rfl; simpa [cells3] using this
  obtain ⟨s, e0, hs⟩ := rd_str f0
  obtain ⟨b, e1, _⟩ := DataW.trod_bool underlying4 f1
  obtain ⟨a2, rfl, _⟩ := rd_int f2
  obtain ⟨a3, rfl, _⟩ := rd_int f3
  simp at e0 e1
  exact ⟨⟨s, b, a2, a3⟩, by rw [e0, e1], hs⟩
theorem rd_link (h : DataW.trod enc Tryz.prog W b0 sp1 held n 71 cs = some y) : ∃ u : Lnk, cs = encL u ∧ True := by
 obtain ⟨xs, m, rfl, hx, hlen, hxl, hall⟩ := DataW.trod_struct underlying71 h
 rw [cells71] at hlen
 match xs, hxl, cs, hlen with
 | [x0, x1, x2], _, [c0, c1, c2], _ =>
  have f0 : DataW.trod enc Tryz.prog W b0 sp1 held m 3 [c0] = some x0 := by have := hall 0 _ rfl; simpa [cells3] using this
  have f1 : DataW.trod enc Tryz.prog W b0 sp1 held m 3 [c1] = some x1 := by have := hall 1 _ rfl; simpa [cells3] using this
  have f2 : DataW.trod enc Tryz.prog W b0 sp1 held m 3 [c2] = some x2 := by have := hall 2 _ rfl; simpa [cells3] using this
  obtain ⟨a0, rfl, _⟩ := rd_int f0
  obtain ⟨a1, rfl, _⟩ := rd_int f1
  obtain ⟨a2, rfl, _⟩ := rd_int f2
  exact ⟨⟨a0, a1, a2⟩, rfl, trivial⟩
theorem rd_edge (h : DataW.trod enc Tryz.prog W b0 sp1 held n 154 cs = some y) : ∃ u : Edg, cs = encE u ∧ u.name.size ≤ 9223372036854775807 := by
 obtain ⟨xs, m, rfl, hx, hlen, hxl, hall⟩ := DataW.trod_struct underlying154 h
 rw [cells154] at hlen
 match xs, hxl, cs, hlen with
 | [x0, x1], _, [c0, c1], _ =>
  have f0 : DataW.trod enc Tryz.prog W b0 sp1 held m 9 [c0] = some x0 := by have := hall 0 _ rfl; simpa [cells9] using this
  have f1 : DataW.trod enc Tryz.prog W b0 sp1 held m 3 [c1] = some x1 := by have := hall 1 _ rfl; simpa [cells3] using this
  obtain ⟨s, e0, hs⟩ := rd_str f0
  obtain ⟨a1, rfl, _⟩ := rd_int f1
  simp at e0
  exact ⟨⟨s, a1⟩, by rw [e0], hs⟩
theorem rd_place (h : DataW.trod enc Tryz.prog W b0 sp1 held n 74 cs = some y) : ∃ u : Int × Int, cs = encPI u ∧ True := by
 obtain ⟨xs, m, rfl, hx, hlen, hxl, hall⟩ := DataW.trod_struct underlying74 h
 rw [cells74] at hlen
 match xs, hxl, cs, hlen with
 | [x0, x1], _, [c0, c1], _ =>
  have f0 : DataW.trod enc Tryz.prog W b0 sp1 held m 3 [c0] = some x0 := by have := hall 0 _ rfl; simpa [cells3] using this
  have f1 : DataW.trod enc Tryz.prog W b0 sp1 held m 3 [c1] = some x1 := by have := hall 1 _ rfl; simpa [cells3] using this
  obtain ⟨a0, rfl, _⟩ := rd_int f0
  obtain ⟨a1, rfl, _⟩ := rd_int f1
  exact ⟨(a0, a1), rfl, trivial⟩
theorem open_net {base : Nat} {r : _root_.Go.Reach} {v : Value} {d : DataW H} {p : List MemPlace} (hv : Value.okWide Tryz.prog W r base 56 v) (h : DataW.Trod enc Tryz.prog W b0 sp1 held 56 v d p) : ∃ n : Nm, v = .agg (encNm n).toArray ∧ NetM W [] n := by
 obtain ⟨cs, rfl, hsz⟩ := okWide_struct underlying56 hv
 obtain ⟨fuel, hf⟩ := h
 obtain ⟨xs, m, rfl, hx, hlen, hxl, hall⟩ := DataW.trod_struct underlying56 hf
 obtain ⟨l⟩ := cs
 simp only [Value.cells, cells56] at hlen hall
 match xs, hxl, l, hlen with
 | [x0, x1, x2], _, [c0, c1, c2], _ =>
  have f0 : DataW.trod enc Tryz.prog W b0 sp1 held m 52 [c0] = some x0 := by have := hall 0 _ rfl; simpa [cells52] using this
  have f1 : DataW.trod enc Tryz.prog W b0 sp1 held m 53 [c1] = some x1 := by have := hall 1 _ rfl; simpa [cells53] using this
  have f2 : DataW.trod enc Tryz.prog W b0 sp1 held m 54 [c2] = some x2 := by have := hall 2 _ rfl; simpa [cells54] using this
  obtain ⟨q0, l0, k0, e0, a0, _, b0, s0, _⟩ := open_arr (el := encN) (szf := fun _ => 0) underlying52 cells138 (by omega) (fun n cs y _ h => by obtain ⟨u, h1, h2⟩ := rd_node h; exact ⟨u, h1, h2, Nat.zero_le _⟩) f0
  obtain ⟨q1, l1, k1, e1, a1, _, b1, _, _⟩ := open_arr (el := encL) (szf := fun _ => 0) underlying53 cells71 (by omega) (fun n cs y _ h => by obtain ⟨u, h1, h2⟩ := rd_link h; exact ⟨u, h1, h2, Nat.zero_le _⟩) f1
  obtain ⟨q2, l2, k2, e2, a2, _, b2, s2, _⟩ := open_arr (el := encE) (szf := fun _ => 0) underlying54 cells154 (by omega) (fun n cs y _ h => by obtain ⟨u, h1, h2⟩ := rd_edge h; exact ⟨u, h1, h2, Nat.zero_le _⟩) f2
  simp at e0 e1 e2
  exact ⟨⟨l0, l1, l2, q0, k0, q1, k1, q2, k2⟩, by rw [e0, e1, e2], ⟨a0, a1, a2, b0, b1, b2, s0, s2⟩⟩
theorem open_fail {base : Nat} {r : _root_.Go.Reach} {v : Value} {d : DataW H} {p : List MemPlace} (hv : Value.okWide Tryz.prog W r base 58 v) (h : DataW.Trod enc Tryz.prog W b0 sp1 held 58 v d p) : ∃ f : Flr, v = .agg (encFl f).toArray ∧ Arr W [] f.q 1 encI f.links ∧ f.links.length ≤ 9223372036854775807 := by
 obtain ⟨cs, rfl, hsz⟩ := okWide_struct underlying58 hv
 obtain ⟨fuel, hf⟩ := h
 obtain ⟨xs, m, rfl, hx, hlen, hxl, hall⟩ := DataW.trod_struct underlying58 hf
 obtain ⟨l⟩ := cs
 simp only [Value.cells, cells58] at hlen hall
 match xs, hxl, l, hlen with
 | [x0, x1], _, [c0, c1], _ =>
  have f0 : DataW.trod enc Tryz.prog W b0 sp1 held m 42 [c0] = some x0 := by have := hall 0 _ rfl; simpa [cells42] using this
  have f1 : DataW.trod enc Tryz.prog W b0 sp1 held m 3 [c1] = some x1 := by have := hall 1 _ rfl; simpa [cells3] using this
  obtain ⟨q, l, cap, e, a, _, b, _, _⟩ := rd_ints f0
  obtain ⟨k, rfl, _⟩ := rd_int f1
  simp at e
  exact ⟨⟨q, cap, l, k⟩, by rw [e], a, b⟩
theorem open_places {base : Nat} {r : _root_.Go.Reach} {v : Value} {d : DataW H} {p : List MemPlace} (hv : Value.okWide Tryz.prog W r base 59 v) (h : DataW.Trod enc Tryz.prog W b0 sp1 held 59 v d p) : ∃ (q : Option Addr) (l : List (Int × Int)) (cap : Nat), v = .slice q l.length cap ∧ Arr W [] q 2 encPI l ∧ l.length ≤ cap ∧ l.length ≤ 9223372036854775807 := by
 obtain ⟨a0, len0, cap0, rfl⟩ := okWide_slice underlying59 hv
 obtain ⟨fuel, hf⟩ := h
 obtain ⟨q, l, cap, e, a, c, b, _, _⟩ := open_arr (el := encPI) (szf := fun _ => 0) underlying59 cells74 (by omega) (fun n cs y _ h => by obtain ⟨u, h1, h2⟩ := rd_place h; exact ⟨u, h1, h2, Nat.zero_le _⟩) hf
 simp only [Value.cells, List.cons.injEq, and_true] at e
 exact ⟨q, l, cap, e, a, c, b⟩
end
end Go.Proofs.YtkdolgnpkjihpaaGreatDoor
namespace Go.Proofs.YtkdolgnpkjihpaaGreatDoor
open _root_.Go.Proofs.Tryz
open Go.ChangeShapes Go.WideShapes Go.ChangeAt Go.RowKit Go.Joins
set_option linter.unusedSimpArgs false
set_option linter.unusedVariables false
set_option maxRecDepth 100000
section
variable {H : Type} {enc : TypeId × Value → H} {W : World}
theorem laid_out : laidOutB Tryz.prog = true := by kernel_rfl
theorem trodAll_stays : ∀ {ts : List TypeId} {vs : List Value} {ds : List (DataW H)} {ps : List MemPlace} {W' : World}, (∀ t ∈ ts, Tryz.prog.readableRec t = true ∧ t < Tryz.prog.types.size) → DataW.TrodAll enc Tryz.prog W 0 (fun _ => true) true ts vs ds ps → Below W.heap.size W W' → (∀ x ∈ ps, x.block < W.heap.size) →
  DataW.TrodAll enc Tryz.prog W' 0 (fun b => decide (b < W.heap.size)) true ts vs ds ps
 | [], _, _, _, _, _, h, _, _ => by obtain ⟨rfl, rfl, rfl⟩ := trodAll_nil h; exact trodAll_mk0
 | t :: ts, _, _, _, _, hr, h, hb, hlt => by
  obtain ⟨v, vs, d, ds, p, q, rfl, rfl, rfl, h0, r0⟩ := trodAll_cons h
  exact trodAll_cons_mk (Below.trod laid_out (hr t (by simp)).1 (hr t (by simp)).2 h0 hb (fun x hx => hlt x (by simp [hx]))) (trodAll_stays (fun t ht => hr t (by simp [ht])) r0 hb (fun x hx => hlt x (by simp [hx])))
end
theorem calls_true {f : FuncId} {args : Array Value} {W : World} (h : FSpec Tryz.prog W f args [] (Still (.bool true) [])) : Calls Tryz.prog f args W fun e W' => e = .returned (.bool true) ∧ Below W.heap.size W W' :=
 (h W (Own.start W)).mono fun e W' ⟨v, H', he, hO, hv, _⟩ => ⟨by rw [he, hv], hO.below⟩
def tab32 : Array Value := #[.int .u8 0, .int .u8 1, .int .u8 28, .int .u8 2, .int .u8 29, .int .u8 14, .int .u8 24, .int .u8 3, .int .u8 30, .int .u8 22, .int .u8 20, .int .u8 15, .int .u8 25, .int .u8 17, .int .u8 4, .int .u8 8, .int .u8 31, .int .u8 27, .int .u8 13, .int .u8 23, .int .u8 21, .int .u8 19, .int .u8 16, .int .u8 7, .int .u8 26, .int .u8 12, .int .u8 18, .int .u8 6, .int .u8 11, .int .u8 5, .int .u8 10, .int .u8 9]
def tab64 : Array Value := #[.int .u8 0, .int .u8 1, .int .u8 56, .int .u8 2, .int .u8 57, .int .u8 49, .int .u8 28, .int .u8 3, .int .u8 61, .int .u8 58, .int .u8 42, .int .u8 50, .int .u8 38, .int .u8 29, .int .u8 17, .int .u8 4, .int .u8 62, .int .u8 47, .int .u8 59, .int .u8 36, .int .u8 45, .int .u8 43, .int .u8 51, .int .u8 22, .int .u8 53, .int .u8 39, .int .u8 33, .int .u8 30, .int .u8 24, .int .u8 18, .int .u8 12, .int .u8 5, .int .u8 63, .int .u8 55, .int .u8 48, .int .u8 27, .int .u8 60, .int .u8 41, .int .u8 37, .int .u8 16, .int .u8 46, .int .u8 35, .int .u8 44, .int .u8 21, .int .u8 52, .int .u8 32, .int .u8 23, .int .u8 11, .int .u8 54, .int .u8 26, .int .u8 40, .int .u8 15, .int .u8 34, .int .u8 20, .int .u8 31, .int .u8 10, .int .u8 25, .int .u8 14, .int .u8 19, .int .u8 9, .int .u8 13, .int .u8 8, .int .u8 7, .int .u8 6]
def tab10 : Array Value := #[.int .u64 1, .int .u64 10, .int .u64 100, .int .u64 1000, .int .u64 10000, .int .u64 100000, .int .u64 1000000, .int .u64 10000000, .int .u64 100000000, .int .u64 1000000000, .int .u64 10000000000, .int .u64 100000000000, .int .u64 1000000000000, .int .u64 10000000000000, .int .u64 100000000000000, .int .u64 1000000000000000, .int .u64 10000000000000000, .int .u64 100000000000000000, .int .u64 1000000000000000000, .int .u64 10000000000000000000]
def layObj (a : Array Value) : Obj → Obj
 | .cells _ t frozen => .cells a t frozen
 | o => o
noncomputable def laidWorld (os : Os) : World :=
 { World.holding Tryz.prog os ⟨#[], #[], []⟩ with heap := (((World.holding Tryz.prog os ⟨#[], #[], []⟩).heap.modify 0 (layObj tab10)).modify 1 (layObj tab32)).modify 2 (layObj tab64) }
end Go.Proofs.YtkdolgnpkjihpaaGreatDoor
