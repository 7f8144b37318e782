/-
  Plain laws of the clock: At is monotone; Sync stays within; the spans of a synchronized clock. No program.
-/
import Derived.Test.YthebnpophckgcaaWe
namespace Go.Proofs.Ythebnpophckgcaa
open Go.RowKit
set_option linter.unusedVariables false
theorem loE_mono {r e f : Int} (h1 : 0 ≤ r) (h2 : r ≤ 100000) (h : e ≤ f) : loE r e ≤ loE r f := by
  unfold loE; exact Int.ediv_le_ediv (by omega) (by omega)
theorem hiE_mono {r e f : Int} (h1 : 0 ≤ r) (h2 : r ≤ 100000) (h : e ≤ f) : hiE r e ≤ hiE r f := by
  rw [← hiE_alt r e h1 h2, ← hiE_alt r f h1 h2]; exact Int.ediv_le_ediv (by omega) (by omega)
theorem loE_zero (e : Int) : loE 0 e = e := by unfold loE; omega
theorem hiE_zero (e : Int) : hiE 0 e = e := by rw [← hiE_alt 0 e (by omega) (by omega)]; omega
theorem mono_plain {r l a b x y p1 p2 q1 q2 : Int} (hx : atF r l a b x = ((p1, p2), 0)) (hy : atF r l a b y = ((q1, q2), 0)) (hxy : x ≤ y) :
    p1 ≤ q1 ∧ p2 ≤ q2 ∧ (r = 0 → p2 - p1 = q2 - q1) ∧ b - a ≤ p2 - p1 ∧ 0 ≤ r ∧ (0 ≤ p1 ∧ p1 ≤ p2 ∧ p2 ≤ 1099511627776) ∧ (0 ≤ q1 ∧ q1 ≤ q2 ∧ q2 ≤ 1099511627776) ∧ 0 ≤ a ∧ a ≤ b ∧ b ≤ 1099511627776 := by
  rcases atF_ways r l a b x with ⟨h, _⟩ | ⟨_, _, h⟩ | ⟨h1, h2, h3, h4, h⟩
  · rw [h] at hx; simp at hx
  · rw [h] at hx; simp at hx
  rcases atF_ways r l a b y with ⟨k, _⟩ | ⟨_, _, k⟩ | ⟨k1, k2, k3, k4, k⟩
  · rw [k] at hy; simp at hy
  · rw [k] at hy; simp at hy
  rw [h] at hx; rw [k] at hy
  simp only [Prod.mk.injEq, and_true] at hx hy
  obtain ⟨rfl, rfl⟩ := hx
  obtain ⟨rfl, rfl⟩ := hy
  obtain ⟨r1, r2, r3, r4⟩ := okc_t h1
  obtain ⟨l1, l2⟩ := isT_t r3
  obtain ⟨a1, a2, a3⟩ := vld_t r4
  obtain ⟨x1, x2⟩ := isT_t h2
  obtain ⟨y1, y2⟩ := isT_t k2
  have e1 := loE_mono r1 r2 (show x - l ≤ y - l by omega)
  have e2 := hiE_mono r1 r2 (show x - l ≤ y - l by omega)
  have e3 := loE_bd r1 r2 (show 0 ≤ x - l by omega) (by omega)
  have e4 := hiE_bd r1 r2 (show 0 ≤ x - l by omega) (by omega)
  have v1 := vld_t h4
  have v2 := vld_t k4
  refine ⟨by omega, by omega, ?_, by omega, r1, v1, v2, a1, a2, a3⟩
  intro h0; subst h0; rw [loE_zero, loE_zero, hiE_zero, hiE_zero]; omega
theorem atF_three (r l a b n : Int) : atF r l a b n = ((0, 0), 1) ∨ atF r l a b n = ((0, 0), 16) ∨ ∃ p q, atF r l a b n = ((p, q), 0) := by
  rcases atF_ways r l a b n with ⟨h, _⟩ | ⟨_, _, h⟩ | ⟨_, _, _, _, h⟩
  · exact .inl h
  · exact .inr (.inl h)
  · exact .inr (.inr ⟨_, _, h⟩)
theorem ediv_add_le {x y d : Int} (hd : 0 < d) : x / d + y / d ≤ (x + y) / d ∧ (x + y) / d ≤ x / d + y / d + 1 := by
  have h1 := Int.mul_ediv_add_emod x d
  have h2 := Int.mul_ediv_add_emod y d
  have m1 := Int.emod_nonneg x (b := d) (by omega)
  have m2 := Int.emod_nonneg y (b := d) (by omega)
  have l1 := Int.emod_lt_of_pos x hd
  have l2 := Int.emod_lt_of_pos y hd
  have e : x + y = d * (x / d + y / d) + (x % d + y % d) := by rw [Int.mul_add]; omega
  rw [e, Int.mul_add_ediv_left _ _ (by omega)]
  have k1 : 0 ≤ (x % d + y % d) / d := Int.ediv_nonneg (by omega) (by omega)
  have k2 : (x % d + y % d) / d ≤ 1 := by
    rcases Int.lt_or_le 1 ((x % d + y % d) / d) with k | k
    · have h := Int.ediv_mul_le (x % d + y % d) (b := d) (by omega)
      have : 2 * d ≤ (x % d + y % d) / d * d := Int.mul_le_mul_of_nonneg_right (by omega) (by omega)
      omega
    · exact k
  omega
theorem loE_add {r e f : Int} (h1 : 0 ≤ r) (h2 : r ≤ 100000) : loE r (e + f) ≤ loE r e + loE r f + 1 := by
  unfold loE
  have := (ediv_add_le (x := e * 1000000) (y := f * 1000000) (d := 1000000 + r) (by omega)).2
  rw [← Int.add_mul] at this
  exact this
theorem hiE_add {r e f : Int} (h1 : 0 ≤ r) (h2 : r ≤ 100000) : hiE r e + hiE r f ≤ hiE r (e + f) + 1 := by
  have a1 : ∀ g, hiE r g = - ((-(g * 1000000)) / (1000000 - r)) := by
    intro g
    rw [← hiE_alt r g h1 h2]
    generalize hd : 1000000 - r = d
    have hdp : 0 < d := by omega
    have e1 : g * 1000000 + 1000000 - r - 1 = g * 1000000 + (d - 1) := by omega
    rw [e1]
    have q := Int.mul_ediv_add_emod (-(g * 1000000)) d
    have m := Int.emod_nonneg (-(g * 1000000)) (b := d) (by omega)
    have l := Int.emod_lt_of_pos (-(g * 1000000)) hdp
    generalize -(g * 1000000) / d = z at *
    have e2 : g * 1000000 + (d - 1) = d * (-z) + (d - 1 - (-(g * 1000000)) % d) := by rw [Int.mul_neg]; omega
    rw [e2, Int.mul_add_ediv_left _ _ (by omega), Int.ediv_eq_zero_of_lt (by omega) (by omega)]; omega
  rw [a1, a1, a1]
  have := (ediv_add_le (x := -(e * 1000000)) (y := -(f * 1000000)) (d := 1000000 - r) (by omega)).2
  rw [show -(e * 1000000) + -(f * 1000000) = -((e + f) * 1000000) by rw [Int.add_mul]; omega] at this
  omega
theorem sync_plain {r l a b n c d x y p q : Int} (hx : atF r l a b n = ((x, y), 0)) (hk : vld c d = true) (hc : comF x y c d = ((p, q), true)) :
    atF r n p q n = ((p, q), 0) ∧ x ≤ p ∧ q ≤ y ∧ c ≤ p ∧ q ≤ d ∧ (0 ≤ x ∧ x ≤ y ∧ y ≤ 1099511627776) ∧ (0 ≤ p ∧ p ≤ q ∧ q ≤ 1099511627776) ∧ 0 ≤ r ∧ r ≤ 100000 ∧ l ≤ n ∧ x = a + loE r (n - l) ∧ y = b + hiE r (n - l) ∧ okc r n p q = true := by
  rcases atF_ways r l a b n with ⟨h, _⟩ | ⟨_, _, h⟩ | ⟨h1, h2, h3, h4, h⟩
  · rw [h] at hx; simp at hx
  · rw [h] at hx; simp at hx
  rw [h] at hx
  simp only [Prod.mk.injEq, and_true] at hx
  obtain ⟨rfl, rfl⟩ := hx
  obtain ⟨r1, r2, r3, r4⟩ := okc_t h1
  have v1 := vld_t h4
  have v2 := vld_t hk
  rcases comF_ways (a + loE r (n - l)) (b + hiE r (n - l)) c d with ⟨_, k⟩ | ⟨k0, k⟩
  · rw [k] at hc; simp at hc
  rw [k] at hc
  simp only [Prod.mk.injEq, and_true] at hc
  obtain ⟨rfl, rfl⟩ := hc
  have hv : vld (max (a + loE r (n - l)) c) (min (b + hiE r (n - l)) d) = true := vld_mk (by omega) (by omega) (by omega)
  have hok := okc_mk r1 r2 h2 hv
  have e0 : loE r (n - n) = 0 := by rw [Int.sub_self]; unfold loE; simp
  have e1 : hiE r (n - n) = 0 := by rw [Int.sub_self, ← hiE_alt r 0 r1 r2]; exact Int.ediv_eq_zero_of_lt (by omega) (by omega)
  refine ⟨?_, by omega, by omega, by omega, by omega, v1, by have := vld_t hv; omega, r1, r2, h3, rfl, rfl, hok⟩
  have := atF_ok hok h2 (Int.le_refl n) (by rw [e0, e1, Int.add_zero, Int.add_zero]; exact hv)
  rw [this, e0, e1, Int.add_zero, Int.add_zero]
theorem later_plain {r l a b n m x y p q s t u v : Int} (hx : x = a + loE r (n - l)) (hy : y = b + hiE r (n - l)) (hp : x ≤ p) (hq : q ≤ y) (r1 : 0 ≤ r) (r2 : r ≤ 100000) (hm : n ≤ m)
    (h1 : atF r l a b m = ((s, t), 0)) (h2 : atF r n p q m = ((u, v), 0)) : s - 1 ≤ u ∧ v ≤ t + 1 ∧ (0 ≤ s ∧ s ≤ t ∧ t ≤ 1099511627776) := by
  rcases atF_ways r l a b m with ⟨h, _⟩ | ⟨_, _, h⟩ | ⟨_, _, _, vv, h⟩
  · rw [h] at h1; simp at h1
  · rw [h] at h1; simp at h1
  rcases atF_ways r n p q m with ⟨k, _⟩ | ⟨_, _, k⟩ | ⟨_, _, _, _, k⟩
  · rw [k] at h2; simp at h2
  · rw [k] at h2; simp at h2
  rw [h] at h1; rw [k] at h2
  simp only [Prod.mk.injEq, and_true] at h1 h2
  obtain ⟨rfl, rfl⟩ := h1
  obtain ⟨rfl, rfl⟩ := h2
  have a1 := loE_add (e := n - l) (f := m - n) r1 r2
  have a2 := hiE_add (e := n - l) (f := m - n) r1 r2
  rw [show n - l + (m - n) = m - l by omega] at a1 a2
  have := vld_t vv
  omega
end Go.Proofs.Ythebnpophckgcaa
