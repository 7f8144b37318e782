/-
  The examples of the documentation, reckoned.
-/
import Derived.Test.YtdbffighngmibaaVj
namespace Go.Proofs.Ytdbffighngmibaa
open Go.RowKit
set_option linter.unusedVariables false
set_option linter.unusedSimpArgs false
abbrev wA : Way := ⟨0, [0, 1], 10001, 0, -1⟩
abbrev wB : Way := ⟨0, [2, 3], 10001, 0, -1⟩
abbrev wC : Way := ⟨2, [3], 10001, 0, -1⟩
abbrev wD : Way := ⟨1, [1], 10001, 0, -1⟩
abbrev wE : Way := ⟨0, [0, 4, 3], 10001, 0, -1⟩
abbrev wF : Way := ⟨1, [1], 10001, 7, -1⟩
abbrev wG : Way := ⟨0, [], 20000, 0, -1⟩
theorem ev1 : asgRes exLinks 1 [wA, wB] = ([1, 2], 0) := by decide +kernel
theorem ev2 : asgRes exLinks 1 [wA, wC, wD] = ([1, 1, 1], 0) := by decide +kernel
theorem ev3 : asgRes exLinks 1 [wA, wE, wD] = ([1, 2, 1], 0) := by decide +kernel
theorem ev4 : asgRes exLinks 1 [wA, wF] = ([1, 2], 0) := by decide +kernel
theorem ev5 : asgRes exLinks 1 [wG, wD] = ([1, 1], 0) := by decide +kernel
theorem evC : confI exLinks wA wF = 3 := by decide +kernel
theorem evR1 : rgtF exLinks [] [wA, wE, wD] [1, 2, 1] = true := by decide +kernel
theorem evR2 : rgtF exLinks [] [wA, wB] [1, 1] = false := by decide +kernel
theorem evU : usedF [1, 2, 1] = [1, 2] := by
  refine incr_same (usedTo_incr _ _) (by decide) fun x => ?_
  unfold usedF
  rw [usedTo_mem]
  simp only [List.mem_cons, List.not_mem_nil, or_false]
  omega
theorem evT : (rulesRes 4 10 [1, 2] (planR exLinks [(wD, 1), (wE, 2), (wA, 1)])).2 = 0 ∧ (rulesRes 4 10 [1, 2] (planR exLinks [(wD, 1), (wE, 2), (wA, 1)])).1.map List.length = [2, 2, 1, 2] := by decide +kernel
structure ExW (w : Way) : Prop where
  nd : (nodesF exLinks w).Nodup
  inr : InR exLinks w.links
  at' : ∀ p ∈ hops exLinks w, 0 ≤ p.1 ∧ p.1 < 4
  len : w.links.length + 1 ≤ 100
theorem inr_all {ls : List Lnk} {path : List Int} (h : path.all (fun l => decide (0 ≤ l) && decide (l < ls.length)) = true) : InR ls path := fun i hi => by
  rw [List.all_eq_true] at h
  have := h _ (gd_mem hi)
  simpa using this
theorem exA : ExW wA := ⟨by decide +kernel, inr_all (by decide +kernel), by decide +kernel, by decide +kernel⟩
theorem exB : ExW wB := ⟨by decide +kernel, inr_all (by decide +kernel), by decide +kernel, by decide +kernel⟩
theorem exCC : ExW wC := ⟨by decide +kernel, inr_all (by decide +kernel), by decide +kernel, by decide +kernel⟩
theorem exD : ExW wD := ⟨by decide +kernel, inr_all (by decide +kernel), by decide +kernel, by decide +kernel⟩
theorem exE : ExW wE := ⟨by decide +kernel, inr_all (by decide +kernel), by decide +kernel, by decide +kernel⟩
theorem exF : ExW wF := ⟨by decide +kernel, inr_all (by decide +kernel), by decide +kernel, by decide +kernel⟩
theorem exG : ExW wG := ⟨by decide +kernel, inr_all (by decide +kernel), by decide +kernel, by decide +kernel⟩
section
variable {n1 n2 n3 : Nat} {a b c d : ByteArray}
theorem ex_gw {l : List Wm} (h : ∀ m ∈ l, ExW m.way) : Gw (exN n1 n2 n3 a b c d) l := ⟨fun m hm => (h m hm).nd, fun m hm => (h m hm).inr, fun m hm => (h m hm).at', fun m hm => by have := (h m hm).len; omega⟩
theorem ex_two {m1 m2 : Wm} (h1 : ExW m1.way) (h2 : ExW m2.way) : ∀ m ∈ [m1, m2], ExW m.way := fun m hm => by simp at hm; rcases hm with rfl | rfl; exact h1; exact h2
theorem ex_three {m1 m2 m3 : Wm} (h1 : ExW m1.way) (h2 : ExW m2.way) (h3 : ExW m3.way) : ∀ m ∈ [m1, m2, m3], ExW m.way := fun m hm => by simp at hm; rcases hm with rfl | rfl | rfl; exact h1; exact h2; exact h3
theorem ex_ok : NetOk (exN n1 n2 n3 a b c d) where
  links := fun i hi => by
    have hi' : i < 6 := hi
    match i, hi' with
    | 0, _ => exact ⟨of_decide_eq_true rfl, of_decide_eq_true rfl, of_decide_eq_true rfl, of_decide_eq_true rfl, of_decide_eq_true rfl, of_decide_eq_true rfl, of_decide_eq_true rfl⟩
    | 1, _ => exact ⟨of_decide_eq_true rfl, of_decide_eq_true rfl, of_decide_eq_true rfl, of_decide_eq_true rfl, of_decide_eq_true rfl, of_decide_eq_true rfl, of_decide_eq_true rfl⟩
    | 2, _ => exact ⟨of_decide_eq_true rfl, of_decide_eq_true rfl, of_decide_eq_true rfl, of_decide_eq_true rfl, of_decide_eq_true rfl, of_decide_eq_true rfl, of_decide_eq_true rfl⟩
    | 3, _ => exact ⟨of_decide_eq_true rfl, of_decide_eq_true rfl, of_decide_eq_true rfl, of_decide_eq_true rfl, of_decide_eq_true rfl, of_decide_eq_true rfl, of_decide_eq_true rfl⟩
    | 4, _ => exact ⟨of_decide_eq_true rfl, of_decide_eq_true rfl, of_decide_eq_true rfl, of_decide_eq_true rfl, of_decide_eq_true rfl, of_decide_eq_true rfl, of_decide_eq_true rfl⟩
    | 5, _ => exact ⟨of_decide_eq_true rfl, of_decide_eq_true rfl, of_decide_eq_true rfl, of_decide_eq_true rfl, of_decide_eq_true rfl, of_decide_eq_true rfl, of_decide_eq_true rfl⟩
  edges := fun i hi => by
    have hi' : i < 2 := hi
    match i, hi' with
    | 0, _ => exact ⟨of_decide_eq_true rfl, of_decide_eq_true rfl⟩
    | 1, _ => exact ⟨of_decide_eq_true rfl, of_decide_eq_true rfl⟩
theorem ev_chk {m1 m2 m3 : Wm} (h1 : m1.way = wA) (h2 : m2.way = wE) (h3 : m3.way = wD) : chkF (exN n1 n2 n3 a b c d) 0 [m1, m2, m3] = (0, 0) := by
  have k1 : oneF (exN n1 n2 n3 a b c d) 0 wA = 0 := by kernel_rfl
  have k2 : oneF (exN n1 n2 n3 a b c d) 0 wE = 0 := by kernel_rfl
  have k3 : oneF (exN n1 n2 n3 a b c d) 0 wD = 0 := by kernel_rfl
  unfold chkF
  rw [if_neg (by decide), if_neg (by simp)]
  simp only [chkG, h1, h2, h3, k1, k2, k3, if_true]
theorem ev_mg {m1 m2 m3 : Wm} (h1 : m1.way = wA) (h2 : m2.way = wE) (h3 : m3.way = wD) : mgL (apI (exN n1 n2 n3 a b c d) [m1, m2, m3] [1, 2, 1]) (usedF [1, 2, 1]) = none := by
  rw [evU]
  obtain ⟨w1, q1, c1⟩ := m1
  obtain ⟨w2, q2, c2⟩ := m2
  obtain ⟨w3, q3, c3⟩ := m3
  simp only at h1 h2 h3
  subst h1 h2 h3
  kernel_rfl
variable {w0 : World} {H : List (Nat × Obj)}
theorem way_m {n cap : Nat} {src port tag step : Int} {path : List Int} {cells : List Value} (hc : cells = path.flatMap encI) (hf : Fnd H n (Cl cells 3)) (hl : path.length ≤ 9223372036854775807) (hp : -9223372036854775808 ≤ port ∧ port ≤ 9223372036854775807) : WayM w0 H ⟨⟨src, path, port, tag, step⟩, some ⟨n, 0, none⟩, cap⟩ := ⟨arr_blk (fun _ => rfl) hc hf, hl, hp⟩
theorem way_e {cap : Nat} {src port tag step : Int} (hp : -9223372036854775808 ≤ port ∧ port ≤ 9223372036854775807) : WayM w0 H ⟨⟨src, [], port, tag, step⟩, none, cap⟩ := ⟨fun i x hi => by simp at hi, by simp, hp⟩
theorem ways2 {n : Nat} {m1 m2 : Wm} {cells : List Value} (h1 : WayM w0 H m1) (h2 : WayM w0 H m2) (hc : cells = [m1, m2].flatMap encW) (hf : Fnd H n (Cl cells 48)) : WaysM w0 H (some ⟨n, 0, none⟩) [m1, m2] := ⟨arr_blk (fun _ => rfl) hc hf, fun m hm => by simp at hm; rcases hm with rfl | rfl; exact h1; exact h2, by simp⟩
theorem ways3 {n : Nat} {m1 m2 m3 : Wm} {cells : List Value} (h1 : WayM w0 H m1) (h2 : WayM w0 H m2) (h3 : WayM w0 H m3) (hc : cells = [m1, m2, m3].flatMap encW) (hf : Fnd H n (Cl cells 48)) : WaysM w0 H (some ⟨n, 0, none⟩) [m1, m2, m3] := ⟨arr_blk (fun _ => rfl) hc hf, fun m hm => by simp at hm; rcases hm with rfl | rfl | rfl; exact h1; exact h2; exact h3, by simp⟩
theorem tb_cell {X : List (Nat × Obj)} {d : Sl} {ts : List Tb} {i m : Nat} (hok : SlOk d ts.length 1) (hi : i < ts.length) (hl : (gd ts i).rs.length = m) (hs : (slH d (ts.flatMap encTb) 51 ++ X).Sublist H := by exact sbt) : Cell w0 H ⟨bq (slQ d), oq (slQ d) + i * 1, none⟩ (.slice (slQ (gd ts i).d) m (slC (gd ts i).d)) := by
  have h := Arr.f0 (sl_arr (w0 := w0) (enc := encTb) (sz := 1) (e := 51) (X := X) (fun _ => rfl) hok) hi (v := tbV (gd ts i)) rfl
  simp only [tbV, hl] at h
  exact h.mono hs
end
end Go.Proofs.Ytdbffighngmibaa
