/-
  How slices, networks and ways read as arguments.
-/
import Derived.Test.YtdbffighngmibaaWa
import Derived.Test.YtdbffighngmibaaRows
import Derived.WalkKit
import Derived.ProofKit
import Derived.OpenShut
import Derived.Lib.SmallJoins
import Derived.Deep.SlicePairs
namespace Go.Proofs.Ytdbffighngmibaa
open Go.ChangeShapes Go.WideShapes Go.ChangeAt Go.RowKit Go.Joins Go.Deep
set_option linter.unusedSimpArgs false
set_option linter.unusedVariables false
set_option maxRecDepth 100000
theorem below_cell {W w : World} {p : Addr} {v : Value} (hb : Below W.heap.size W w) (h : W.cell? p = some v) : w.cell? p = some v := by
  have hlt := World.block_lt_of_cell? _ _ h
  have := hb.block p.block hlt
  unfold World.cell? at h ⊢
  rw [this]; exact h
theorem cell_arg {W : World} {p : Addr} {v : Value} (h : W.cell? p = some v) : Cell W [] p v := fun w hO => below_cell hO.below h
section
variable {H : Type} {enc : TypeId × Value → H} {P : Program} {W : World} {b0 : Nat} {sp1 : Nat → Bool} {held : Bool}
/-- a slice as an argument: its elements, and what is known of each -/
theorem open_arr {α : Type} {t e sz fuel : Nat} {cs : List Value} {x : DataW H × List MemPlace} {el : α → List Value} {φ : α → Prop} (ht : P.underlying t = some (.slice e)) (hc : P.cellsOf e = sz) (hsz : 0 < sz)
    (hel : ∀ n cs y, DataW.trod enc P W b0 sp1 held n e cs = some y → ∃ u : α, cs = el u ∧ φ u) (h : DataW.trod enc P W b0 sp1 held fuel t cs = some x) :
    ∃ (q : Option Addr) (l : List α) (cap : Nat), cs = [.slice q l.length cap] ∧ Arr W [] q sz el l ∧ l.length ≤ cap ∧ l.length ≤ 9223372036854775807 ∧ ∀ u ∈ l, φ u := by
  rcases open_slice ht h with ⟨rfl, _⟩ | ⟨a, len, cap, m, n, D, Pl, rfl, hb, hl, hm, hmm, rfl, hx⟩
  · exact ⟨none, [], 0, rfl, fun i u hi => by simp at hi, by simp, by simp, by simp⟩
  have hlm : len ≤ m := by rw [hmm]; split <;> omega
  have hlen : len ≤ 9223372036854775807 := by unfold maxLen at hm; omega
  cases len with
  | zero => exact ⟨some a, [], cap, rfl, fun i u hi => by simp at hi, by simp, by simp, by simp⟩
  | succ k =>
    have each : ∀ i, i < k + 1 → ∃ u : α, W.cells? b0 (a.add (i * sz)) sz = some (el u) ∧ φ u := fun i hi => by
      obtain ⟨cs', h1, h2⟩ := hx i (by omega)
      rw [hc] at h1
      obtain ⟨u, rfl, hu⟩ := hel _ _ _ h2
      exact ⟨u, h1, hu⟩
    obtain ⟨u0, h00, hu0⟩ := each 0 (by omega)
    letI : Inhabited α := ⟨u0⟩
    obtain ⟨f, hf⟩ := choose_lt each
    refine ⟨some a, (List.range (k + 1)).map f, cap, by simp, fun i u hi => ?_, by simpa using hl, by simpa using hlen, fun u hu => ?_⟩
    · have hik : i < k + 1 := by have := (List.getElem?_eq_some_iff.1 hi).1; simpa using this
      have hfu : f i = u := by simpa [hik] using hi
      obtain ⟨sb, so, spot⟩ := a
      obtain ⟨_, hl0, hc0⟩ := World.cells?_some h00
      have hspot : spot = none := by
        have h6 := (hc0 0 hsz).trans (List.getElem?_eq_getElem (by omega))
        simpa [Addr.add] using World.cell?_spot h6
      subst hspot
      refine ⟨rfl, fun j v hj => cell_arg ?_⟩
      obtain ⟨_, hl1, hc1⟩ := World.cells?_some (hf i hik).1
      rw [hfu] at hl1 hc1
      have hjl := (List.getElem?_eq_some_iff.1 hj).1
      have h5 := hc1 j (by omega)
      rw [add_add, add_plain] at h5
      have h6 := h5.trans hj
      rw [← Nat.add_assoc] at h6
      exact h6
    · obtain ⟨i, hi, rfl⟩ := List.mem_map.1 hu
      exact (hf i (List.mem_range.1 hi)).2
end
end Go.Proofs.Ytdbffighngmibaa
