/-
  How a slice of spans reads as an argument.
-/
import Derived.Test.YthebnpophckgcaaWm
import Derived.Test.YthebnpophckgcaaWj
import Derived.Deep.SlicePairs
namespace Go.Proofs.Ythebnpophckgcaa
open Go.ChangeShapes Go.WideShapes Go.ChangeAt Go.RowKit Go.Joins Go.Deep
set_option linter.unusedSimpArgs false
set_option linter.unusedVariables false
set_option maxRecDepth 100000
theorem open_spans {H : Type} {enc : TypeId × Value → H} {W : World} {base b0 : Nat} {sp1 : Nat → Bool} {held : Bool} {r : Reach} {v : Value} {d : DataW H} {p : List MemPlace} (hv : Value.okWide Try.prog W r base 36 v) (h : DataW.Trod enc Try.prog W b0 sp1 held 36 v d p) :
    ∃ l : List (Int × Int), Spans W v l ∧ l.length ≤ 9223372036854775807 := by
  obtain ⟨a0, len0, cap0, rfl⟩ := okWide_slice Try.underlying36 hv
  obtain ⟨fuel, hf⟩ := h
  rcases open_slice_pairs Try.underlying36 Try.underlying23 Try.cells23 rfl rfl Try.cells3' Try.cells3' hf with ⟨hc, hx⟩ | ⟨a, len, cap, m, k, V0, V1, D0, D1, P0, P1, hc, _, hl, hm, hmm, hx, hall⟩
  · simp only [Value.cells, List.cons.injEq, and_true] at hc
    rw [hc]
    exact ⟨[], ⟨none, 0, rfl, .inl rfl⟩, by simp⟩
  · simp only [Value.cells, List.cons.injEq, and_true] at hc
    rw [hc]
    have hlm : len ≤ m := by rw [hmm]; split <;> omega
    have hcap : len ≤ 9223372036854775807 := by unfold maxLen at hm; omega
    cases len with
    | zero => exact ⟨[], ⟨_, _, rfl, .inl rfl⟩, by simp⟩
    | succ n =>
      obtain ⟨sb, so, spot⟩ := a
      have hspot : spot = none := by simpa [Addr.add] using World.cell?_spot (hall 0 (by omega)).1
      subst hspot
      have e : ∀ i, i < n + 1 → ∃ y : Int × Int, V0 i = .int .i64 y.1 ∧ V1 i = .int .i64 y.2 := by
        intro i hi
        obtain ⟨x, e0, _, _⟩ := DataW.trod_int Try.underlying3 (hall i (by omega)).2.2.1
        obtain ⟨y, e1, _, _⟩ := DataW.trod_int Try.underlying3 (hall i (by omega)).2.2.2
        simp at e0 e1
        exact ⟨(x, y), e0, e1⟩
      obtain ⟨f, hff⟩ := choose_lt e
      refine ⟨(List.range (n + 1)).map f, ⟨_, cap, by simp, .inr ⟨sb, so, rfl, ?_, ?_⟩⟩, by simpa using hcap⟩
      · have := World.block_lt_of_cell? _ _ (hall 0 (by omega)).1
        simpa [Addr.add] using this
      · intro i hi
        have hi' : i < n + 1 := by simpa using hi
        have h0 := (hall i (by omega)).1
        have h1 := (hall i (by omega)).2.1
        rw [add_plain] at h0 h1
        rw [(hff i hi').1] at h0
        rw [(hff i hi').2] at h1
        have hg : ((List.range (n + 1)).map f).getD i (0, 0) = f i := by simp [List.getD, hi']
        rw [hg]
        exact ⟨h0, by rw [Nat.add_assoc]; exact h1⟩
end Go.Proofs.Ythebnpophckgcaa
