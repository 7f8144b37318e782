/-
  Plain laws about the readings that a clock can show at a time.
-/
import Derived.Test.YthebnpophckgcaaWh
namespace Go.Proofs.Ythebnpophckgcaa
open Go.RowKit
/-- a reading can be shown at a time -/
def shF (r l a b n t : Int) : Bool := decide (l ≤ n) && (decide (a + loE r (n - l) ≤ t) && decide (t ≤ b + hiE r (n - l)))
theorem loE_le {r e k : Int} (h1 : 0 ≤ r) : loE r e ≤ k ↔ e ≤ mostE r k := by
  unfold loE mostE
  rw [Int.le_ediv_iff_mul_le (by omega)]
  have := Int.ediv_lt_iff_lt_mul (a := e * 1000000) (b := k + 1) (c := 1000000 + r) (by omega)
  omega
theorem le_hiE {r e k : Int} (h1 : 0 ≤ r) (h2 : r ≤ 100000) (h : 0 ≤ e) : k ≤ hiE r e ↔ leastE r k ≤ e := by
  rw [← hiE_alt r e h1 h2]
  unfold leastE
  rw [Int.le_ediv_iff_mul_le (by omega)]
  have he : k * (1000000 - r) = (k - 1) * (1000000 - r) + (1000000 - r) := by rw [Int.sub_mul]; omega
  split
  · have := Int.ediv_lt_iff_lt_mul (a := (k - 1) * (1000000 - r)) (b := e) (c := 1000000) (by omega)
    omega
  · have : k * (1000000 - r) ≤ 0 := Int.mul_nonpos_of_nonpos_of_nonneg (by omega) (by omega)
    have : 0 ≤ e * 1000000 := by omega
    constructor <;> intro _ <;> omega
theorem shF_eq {r l a b n t : Int} (h1 : 0 ≤ r) (h2 : r ≤ 100000) : shF r l a b n t = (decide (l ≤ n) && (decide (n - l ≤ mostE r (t - a)) && decide (leastE r (t - b) ≤ n - l))) := by
  unfold shF
  by_cases hn : l ≤ n
  · have e1 := loE_le (r := r) (e := n - l) (k := t - a) h1
    have e2 := le_hiE (r := r) (e := n - l) (k := t - b) h1 h2 (by omega)
    congr 2
    · apply decide_eq_decide.mpr; omega
    · apply decide_eq_decide.mpr; omega
  · simp [hn]
theorem leastE_nonneg {r k : Int} (h1 : 0 ≤ r) (h2 : r ≤ 100000) : 0 ≤ leastE r k := by
  unfold leastE
  split
  · have : 0 ≤ (k - 1) * (1000000 - r) / 1000000 := Int.ediv_nonneg (Int.mul_nonneg (by omega) (by omega)) (by omega)
    omega
  · omega
theorem mostE_neg {r k : Int} (h1 : 0 ≤ r) (h : k < 0) : mostE r k < 0 := by
  unfold mostE
  have : (k + 1) * (1000000 + r) ≤ 0 := Int.mul_nonpos_of_nonpos_of_nonneg (by omega) (by omega)
  omega
/-- every way of Local -/
theorem loc_ways (r l a b t : Int) : (locF r l a b t = ((0, 0), 1) ∧ (okc r l a b = false ∨ isT t = false)) ∨
    (okc r l a b = true ∧ isT t = true ∧ locF r l a b t = ((0, 0), 16) ∧ ∀ n, n ≤ 1099511627776 → shF r l a b n t = false) ∨
    (okc r l a b = true ∧ isT t = true ∧ ∃ x y, locF r l a b t = ((x, y), 0) ∧ l ≤ x ∧ x ≤ y ∧ y ≤ 1099511627776 ∧ y ≤ l + mostE r (t - a) ∧ ∀ n, n ≤ 1099511627776 → shF r l a b n t = (decide (x ≤ n) && decide (n ≤ y))) := by
  cases h1 : okc r l a b
  · exact .inl ⟨locF_arg (.inl h1), .inl rfl⟩
  cases h2 : isT t
  · exact .inl ⟨locF_arg (.inr h2), .inr rfl⟩
  obtain ⟨k1, k2, k3, k4⟩ := okc_t h1
  have hn := leastE_nonneg (k := t - b) k1 k2
  rcases Int.lt_or_le (t - a) 0 with h | h
  · refine .inr (.inl ⟨rfl, rfl, locF_early h1 h2 h, fun n hn => ?_⟩)
    have := mostE_neg k1 h
    rw [shF_eq k1 k2]; simp; omega
  rcases Int.lt_or_le (min (mostE r (t - a)) (1099511627776 - l)) (leastE r (t - b)) with h3 | h3
  · refine .inr (.inl ⟨rfl, rfl, locF_late h1 h2 h rfl rfl h3, fun n hn => ?_⟩)
    rw [shF_eq k1 k2]; simp; omega
  · refine .inr (.inr ⟨rfl, rfl, _, _, locF_ok h1 h2 h rfl rfl h3, by omega, by omega, by omega, by omega, fun n hn => ?_⟩)
    rw [shF_eq k1 k2, Bool.eq_iff_iff]; simp; omega
end Go.Proofs.Ythebnpophckgcaa
