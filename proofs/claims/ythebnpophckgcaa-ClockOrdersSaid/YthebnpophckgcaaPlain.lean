/-
  Plain functions on integers that the clock computes, and plain laws about them. No program.
-/
import Derived.Below
namespace Go.Proofs.Ythebnpophckgcaa
open Go.RowKit

/-- a number is a time -/
def isT (n : Int) : Bool := decide (0 ≤ n) && decide (n ≤ 1099511627776)
/-- a span is valid -/
def vld (lo hi : Int) : Bool := isT lo && isT hi && decide (lo ≤ hi)
/-- a clock is valid -/
def okc (r l a b : Int) : Bool := decide (0 ≤ r) && decide (r ≤ 100000) && isT l && vld a b
/-- the least and the greatest true time that passes -/
def loE (r e : Int) : Int := e * 1000000 / (1000000 + r)
def hiE (r e : Int) : Int := e * 1000000 / (1000000 - r) + if 0 < e * 1000000 % (1000000 - r) then 1 else 0

theorem isT_t {n : Int} (h : isT n = true) : 0 ≤ n ∧ n ≤ 1099511627776 := by simpa [isT] using h
theorem isT_f {n : Int} (h : isT n = false) : n < 0 ∨ 1099511627776 < n := by simp [isT] at h; omega
theorem isT_mk {n : Int} (h1 : 0 ≤ n) (h2 : n ≤ 1099511627776) : isT n = true := by simp [isT, h1, h2]
theorem isT_no {n : Int} (h : n < 0 ∨ 1099511627776 < n) : isT n = false := by simp [isT]; omega
theorem vld_t {lo hi : Int} (h : vld lo hi = true) : 0 ≤ lo ∧ lo ≤ hi ∧ hi ≤ 1099511627776 := by
  simp [vld, isT] at h; omega
theorem vld_mk {lo hi : Int} (h1 : 0 ≤ lo) (h2 : lo ≤ hi) (h3 : hi ≤ 1099511627776) : vld lo hi = true := by
  simp [vld, isT]; omega
theorem vld_f {lo hi : Int} (h : vld lo hi = false) : ¬ (0 ≤ lo ∧ lo ≤ hi ∧ hi ≤ 1099511627776) := by
  intro k; rw [vld_mk k.1 k.2.1 k.2.2] at h; cases h
theorem vld_no {lo hi : Int} (h : ¬ (0 ≤ lo ∧ lo ≤ hi ∧ hi ≤ 1099511627776)) : vld lo hi = false := by
  cases hv : vld lo hi
  · rfl
  · exact (h (vld_t hv)).elim
theorem okc_t {r l a b : Int} (h : okc r l a b = true) : 0 ≤ r ∧ r ≤ 100000 ∧ isT l = true ∧ vld a b = true := by
  simpa [okc, and_assoc] using h
theorem okc_mk {r l a b : Int} (h1 : 0 ≤ r) (h2 : r ≤ 100000) (h3 : isT l = true) (h4 : vld a b = true) : okc r l a b = true := by
  simp [okc, *]

theorem loE_bd {r e : Int} (h1 : 0 ≤ r) (h2 : r ≤ 100000) (h3 : 0 ≤ e) (h4 : e ≤ 1099511627776) : 0 ≤ loE r e ∧ loE r e ≤ e := by
  refine ⟨Int.ediv_nonneg (by omega) (by omega), ?_⟩
  unfold loE
  have h := Int.ediv_mul_le (e * 1000000) (b := 1000000 + r) (by omega)
  generalize e * 1000000 / (1000000 + r) = q at h
  rcases Int.lt_or_le e q with k | k
  · have : e * (1000000 + r) < q * (1000000 + r) := Int.mul_lt_mul_of_pos_right k (by omega)
    rw [Int.mul_add] at this
    have : 0 ≤ e * r := Int.mul_nonneg h3 h1
    omega
  · exact k
theorem quo_bd {r e : Int} (_h1 : 0 ≤ r) (h2 : r ≤ 100000) (h3 : 0 ≤ e) (h4 : e ≤ 1099511627776) : 0 ≤ e * 1000000 / (1000000 - r) ∧ e * 1000000 / (1000000 - r) ≤ 1221679586418 := by
  refine ⟨Int.ediv_nonneg (by omega) (by omega), ?_⟩
  have h := Int.ediv_mul_le (e * 1000000) (b := 1000000 - r) (by omega)
  generalize e * 1000000 / (1000000 - r) = q at h
  rcases Int.lt_or_le 1221679586418 q with k | k
  · have : 1221679586419 * 900000 ≤ q * (1000000 - r) := Int.mul_le_mul (by omega) (by omega) (by omega) (by omega)
    omega
  · exact k
theorem hiE_bd {r e : Int} (h1 : 0 ≤ r) (h2 : r ≤ 100000) (h3 : 0 ≤ e) (h4 : e ≤ 1099511627776) : e ≤ hiE r e ∧ hiE r e ≤ 1221679586419 := by
  have hqb := quo_bd h1 h2 h3 h4
  unfold hiE
  refine ⟨?_, by split <;> omega⟩
  have h := Int.mul_ediv_add_emod (e * 1000000) (1000000 - r)
  have hm := Int.emod_nonneg (e * 1000000) (b := 1000000 - r) (by omega)
  have hl := Int.emod_lt_of_pos (e * 1000000) (b := 1000000 - r) (by omega)
  generalize e * 1000000 / (1000000 - r) = q at *
  generalize e * 1000000 % (1000000 - r) = m at *
  have hD : (1000000 - r) * e = 1000000 * e - r * e := by rw [Int.sub_mul]
  have hre : 0 ≤ r * e := Int.mul_nonneg h1 h3
  generalize hd : 1000000 - r = D at *
  rcases Int.lt_or_le (q + if 0 < m then 1 else 0) e with k | k
  · exfalso
    rcases Int.lt_or_le 0 m with km | km
    · rw [if_pos km] at k
      have a2 : D * q ≤ D * (e - 2) := Int.mul_le_mul_of_nonneg_left (by omega) (by omega)
      rw [Int.mul_sub] at a2
      omega
    · rw [if_neg (by omega)] at k
      have a1 : D * q ≤ D * (e - 1) := Int.mul_le_mul_of_nonneg_left (by omega) (by omega)
      rw [Int.mul_sub] at a1
      omega
  · exact k

theorem hiE_alt (r e : Int) (_h1 : 0 ≤ r) (h2 : r ≤ 100000) : (e * 1000000 + 1000000 - r - 1) / (1000000 - r) = hiE r e := by
  unfold hiE
  have h := Int.mul_ediv_add_emod (e * 1000000) (1000000 - r)
  have hm := Int.emod_nonneg (e * 1000000) (b := 1000000 - r) (by omega)
  have hl := Int.emod_lt_of_pos (e * 1000000) (b := 1000000 - r) (by omega)
  generalize e * 1000000 / (1000000 - r) = q at *
  generalize e * 1000000 % (1000000 - r) = m at *
  have hE : e * 1000000 + 1000000 - r - 1 = (1000000 - r) * q + (m + (1000000 - r) - 1) := by omega
  rw [hE]
  generalize hd : 1000000 - r = D at *
  rw [Int.mul_add_ediv_left _ _ (by omega)]
  split
  · have : m + D - 1 = D * 1 + (m - 1) := by omega
    rw [this, Int.mul_add_ediv_left _ _ (by omega), Int.ediv_eq_zero_of_lt (by omega) (by omega)]; omega
  · rw [Int.ediv_eq_zero_of_lt (by omega) (by omega)]

/-- what At returns -/
def atF (r l a b n : Int) : (Int × Int) × Int :=
  if !okc r l a b || !isT n then ((0, 0), 1) else if n < l then ((0, 0), 16)
  else if vld (a + loE r (n - l)) (b + hiE r (n - l)) then ((a + loE r (n - l), b + hiE r (n - l)), 0) else ((0, 0), 16)
/-- what Common returns -/
def comF (a b c d : Int) : (Int × Int) × Bool := if min b d < max a c then ((0, 0), false) else ((max a c, min b d), true)
/-- what Sync returns: the clock (rate, local, lo, hi) and the error -/
def synF (r l a b n c d : Int) : (Int × Int × Int × Int) × Int :=
  if (atF r l a b n).2 = 0 then
    (if (comF (atF r l a b n).1.1 (atF r l a b n).1.2 c d).2 then ((r, n, (comF (atF r l a b n).1.1 (atF r l a b n).1.2 c d).1.1, (comF (atF r l a b n).1.1 (atF r l a b n).1.2 c d).1.2), 0) else ((0, 0, 0, 0), 16))
  else ((0, 0, 0, 0), (atF r l a b n).2)
/-- what Exchange returns -/
def excF (r l a b s n c d : Int) : (Int × Int × Int × Int) × Int :=
  if !okc r l a b || !isT s || !isT n then ((0, 0, 0, 0), 1) else if n < s then ((0, 0, 0, 0), 16)
  else if vld c (d + hiE r (n - s)) then synF r l a b n c (d + hiE r (n - s)) else ((0, 0, 0, 0), 16)

theorem atF_arg {r l a b n : Int} (h : okc r l a b = false ∨ isT n = false) : atF r l a b n = ((0, 0), 1) := by
  unfold atF; rw [if_pos (by rcases h with h | h <;> simp [h])]
theorem atF_early {r l a b n : Int} (h1 : okc r l a b = true) (h2 : isT n = true) (h : n < l) : atF r l a b n = ((0, 0), 16) := by
  unfold atF; rw [if_neg (by simp [h1, h2]), if_pos h]
theorem atF_late {r l a b n : Int} (h1 : okc r l a b = true) (h2 : isT n = true) (h : l ≤ n) (hv : vld (a + loE r (n - l)) (b + hiE r (n - l)) = false) : atF r l a b n = ((0, 0), 16) := by
  unfold atF; rw [if_neg (by simp [h1, h2]), if_neg (by omega), if_neg (by simp [hv])]
theorem atF_ok {r l a b n : Int} (h1 : okc r l a b = true) (h2 : isT n = true) (h : l ≤ n) (hv : vld (a + loE r (n - l)) (b + hiE r (n - l)) = true) : atF r l a b n = ((a + loE r (n - l), b + hiE r (n - l)), 0) := by
  unfold atF; rw [if_neg (by simp [h1, h2]), if_neg (by omega), if_pos hv]
/-- every way of At -/
theorem atF_ways (r l a b n : Int) : (atF r l a b n = ((0, 0), 1) ∧ (okc r l a b = false ∨ isT n = false)) ∨
    (okc r l a b = true ∧ isT n = true ∧ atF r l a b n = ((0, 0), 16)) ∨
    (okc r l a b = true ∧ isT n = true ∧ l ≤ n ∧ vld (a + loE r (n - l)) (b + hiE r (n - l)) = true ∧ atF r l a b n = ((a + loE r (n - l), b + hiE r (n - l)), 0)) := by
  cases h1 : okc r l a b
  · exact .inl ⟨atF_arg (.inl h1), .inl rfl⟩
  cases h2 : isT n
  · exact .inl ⟨atF_arg (.inr h2), .inr rfl⟩
  rcases Int.lt_or_le n l with h | h
  · exact .inr (.inl ⟨rfl, rfl, atF_early h1 h2 h⟩)
  cases hv : vld (a + loE r (n - l)) (b + hiE r (n - l))
  · exact .inr (.inl ⟨rfl, rfl, atF_late h1 h2 h hv⟩)
  · exact .inr (.inr ⟨rfl, rfl, h, rfl, atF_ok h1 h2 h hv⟩)
end Go.Proofs.Ythebnpophckgcaa
