/-
  Plain laws: a clock that goes at speeds within its bounds stays right.
-/
import Derived.Test.YthebnpophckgcaaPb
import Derived.Test.YthebnpophckgcaaPc
namespace Go.Proofs.Ythebnpophckgcaa
open Go.RowKit
set_option linter.unusedVariables false
def leastS (r d : Int) : Int := (d * (1000000 - r) + 999999) / 1000000
def mostS (r d : Int) : Int := d * (1000000 + r) / 1000000
/-- the ticks of a step -/
def tickS (r d s : Int) : Int := leastS r d + (mostS r d - leastS r d) * s / 255
theorem tick_bd {r d s : Int} (h1 : 0 ≤ r) (h2 : r ≤ 100000) (h3 : 0 ≤ d) (h4 : d < 1073741824) (h5 : 0 ≤ s) (h6 : s ≤ 255) :
    d * (1000000 - r) ≤ tickS r d s * 1000000 ∧ tickS r d s * 1000000 ≤ d * (1000000 + r) ∧ 0 ≤ leastS r d ∧ leastS r d ≤ mostS r d ∧ mostS r d ≤ 1181116007 ∧ leastS r d ≤ tickS r d s ∧ tickS r d s ≤ mostS r d ∧
    (0 ≤ d * (1000000 - r) ∧ d * (1000000 - r) ≤ 1073741824000000) ∧ (0 ≤ d * (1000000 + r) ∧ d * (1000000 + r) ≤ 1181116006400000) ∧ (0 ≤ (mostS r d - leastS r d) * s ∧ (mostS r d - leastS r d) * s ≤ 301184581785) := by
  have e1 : 0 ≤ d * r := Int.mul_nonneg h3 h1
  have e2 : d * r ≤ 1073741824 * 100000 := Int.mul_le_mul (by omega) h2 h1 (by omega)
  have e3 : d * (1000000 - r) = d * 1000000 - d * r := Int.mul_sub _ _ _
  have e4 : d * (1000000 + r) = d * 1000000 + d * r := Int.mul_add _ _ _
  have e5 : d * r ≤ d * 1000000 := Int.mul_le_mul_of_nonneg_left (by omega) h3
  have m1 : 0 ≤ leastS r d ∧ leastS r d ≤ d ∧ d * (1000000 - r) ≤ leastS r d * 1000000 := by unfold leastS; omega
  have m2 : d ≤ mostS r d ∧ mostS r d ≤ 1181116007 ∧ mostS r d * 1000000 ≤ d * (1000000 + r) := by unfold mostS; omega
  have m3 : 0 ≤ (mostS r d - leastS r d) * s := Int.mul_nonneg (by omega) h5
  have m4 : (mostS r d - leastS r d) * s ≤ (mostS r d - leastS r d) * 255 := Int.mul_le_mul_of_nonneg_left h6 (by omega)
  have m5 : leastS r d ≤ tickS r d s ∧ tickS r d s ≤ mostS r d := by unfold tickS; omega
  refine ⟨by omega, by omega, by omega, by omega, by omega, by omega, by omega, by omega, by omega, by omega⟩
/-- the clock is right at a true time and a reading -/
def Right (r now reading l a b : Int) : Prop :=
  (0 ≤ r ∧ r ≤ 100000) ∧ (0 ≤ l ∧ l ≤ reading ∧ 0 ≤ now) ∧ (0 ≤ a ∧ b ≤ 2097152 + 2 * l) ∧
  ∃ t, a ≤ t ∧ t ≤ b ∧ t ≤ now ∧ (now - t) * (1000000 - r) ≤ (reading - l) * 1000000 ∧ (reading - l) * 1000000 ≤ (now - t) * (1000000 + r)
theorem Right.step {r now reading l a b d e : Int} (h : Right r now reading l a b) (hd : 0 ≤ d) (he : 0 ≤ e) (h1 : d * (1000000 - r) ≤ e * 1000000) (h2 : e * 1000000 ≤ d * (1000000 + r)) :
    Right r (now + d) (reading + e) l a b := by
  obtain ⟨hr, ⟨l1, l2, l3⟩, hab, t, t1, t2, t3, t4, t5⟩ := h
  refine ⟨hr, ⟨l1, by omega, by omega⟩, hab, t, t1, t2, by omega, ?_, ?_⟩
  · rw [show now + d - t = (now - t) + d by omega, Int.add_mul]; omega
  · rw [show now + d - t = (now - t) + d by omega, Int.add_mul]; omega
theorem hiE_two {r e : Int} (h1 : 0 ≤ r) (h2 : r ≤ 100000) (h : 0 ≤ e) : hiE r e ≤ 2 * e := by
  rcases Int.lt_or_le (2 * e) (hiE r e) with k | k
  · exfalso
    have h3 := (le_hiE (k := 2 * e + 1) h1 h2 h).1 (by omega)
    unfold leastE at h3
    rw [if_pos (by omega)] at h3
    rw [show 2 * e + 1 - 1 = 2 * e by omega] at h3
    have e1 : 2 * e * (1000000 - r) = 2 * e * 1000000 - 2 * e * r := Int.mul_sub _ _ _
    have e2 : 2 * e * r ≤ 2 * e * 100000 := Int.mul_le_mul_of_nonneg_left h2 (by omega)
    rw [e1] at h3
    omega
  · exact k
theorem Right.at {r now reading l a b : Int} (h : Right r now reading l a b) (h1 : reading ≤ 30000000000) (h2 : now ≤ 30000000000) :
    ∃ x y, atF r l a b reading = ((x, y), 0) ∧ x ≤ now ∧ now ≤ y ∧ 0 ≤ x ∧ y ≤ 2097152 + 2 * reading := by
  obtain ⟨⟨r1, r2⟩, ⟨l1, l2, l3⟩, ⟨a1, b1⟩, t, t1, t2, t3, t4, t5⟩ := h
  have he : 0 ≤ reading - l := by omega
  have k1 : loE r (reading - l) ≤ now - t := by
    rw [loE_le r1]; unfold mostE
    have : (now - t + 1) * (1000000 + r) = (now - t) * (1000000 + r) + (1000000 + r) := by rw [Int.add_mul]; omega
    omega
  have k2 : now - t ≤ hiE r (reading - l) := by
    rw [le_hiE r1 r2 he]; unfold leastE
    split
    · have : (now - t - 1) * (1000000 - r) = (now - t) * (1000000 - r) - (1000000 - r) := by rw [Int.sub_mul]; omega
      omega
    · exact he
  have k3 := hiE_two r1 r2 he
  have k4 := loE_bd r1 r2 he (by omega)
  exact ⟨_, _, atF_ok (okc_mk r1 r2 (isT_mk l1 (by omega)) (vld_mk a1 (by omega) (by omega))) (isT_mk (by omega) (by omega)) l2 (vld_mk (by omega) (by omega) (by omega)), by omega, by omega, by omega, by omega⟩
theorem Right.sync {r now reading l a b c d : Int} (h : Right r now reading l a b) (h1 : reading ≤ 30000000000) (h2 : now ≤ 30000000000) (hc : c ≤ now) (hd : now ≤ d) :
    ∃ p q, synF r l a b reading c d = ((r, reading, p, q), 0) ∧ Right r now reading reading p q := by
  obtain ⟨x, y, hat, x1, y1, x2, y2⟩ := h.at h1 h2
  obtain ⟨⟨r1, r2⟩, ⟨l1, l2, l3⟩, _⟩ := h
  rcases comF_ways x y c d with ⟨k, _⟩ | ⟨k, hk⟩
  · omega
  · exact ⟨_, _, synF_ok hat hk, ⟨r1, r2⟩, ⟨by omega, by omega, l3⟩, ⟨by omega, by omega⟩, now, by omega, by omega, by omega, by simp, by simp⟩
theorem Right.exch {r now reading l a b s c d : Int} (h : Right r now reading l a b) (h1 : reading ≤ 30000000000) (h2 : now ≤ 30000000000) (h0 : 0 ≤ c) (hc : c ≤ now) (hs : 0 ≤ s) (hsr : s ≤ reading)
    (hd : now ≤ d + hiE r (reading - s)) (hd2 : d ≤ 40000000000) :
    ∃ p q, excF r l a b s reading c d = ((r, reading, p, q), 0) ∧ Right r now reading reading p q := by
  obtain ⟨p, q, hsy, hR⟩ := h.sync (c := c) (d := d + hiE r (reading - s)) h1 h2 hc hd
  obtain ⟨⟨r1, r2⟩, ⟨l1, l2, l3⟩, ⟨a1, b1⟩, t, t1, t2, t3, t4, t5⟩ := h
  have k3 := hiE_two r1 r2 (show 0 ≤ reading - s by omega)
  exact ⟨p, q, by rw [excF_ok (okc_mk r1 r2 (isT_mk l1 (by omega)) (vld_mk a1 (by omega) (by omega))) (isT_mk hs (by omega)) (isT_mk (by omega) (by omega)) hsr (vld_mk h0 (by omega) (by omega))]; exact hsy, hR⟩
/-- the time of the server's answer, which is widened by the ticks of the step -/
theorem long_step {r d s : Int} (h1 : 0 ≤ r) (h2 : r ≤ 100000) (h3 : 0 ≤ d) (h4 : d < 1073741824) (h5 : 0 ≤ s) (h6 : s ≤ 255) : d ≤ hiE r (tickS r d s) := by
  obtain ⟨k1, k2, k3, k4, k5, k6, k7, _⟩ := tick_bd h1 h2 h3 h4 h5 h6
  rw [le_hiE h1 h2 (by omega)]
  unfold leastE
  split
  · have : (d - 1) * (1000000 - r) = d * (1000000 - r) - (1000000 - r) := by rw [Int.sub_mul]; omega
    omega
  · omega
end Go.Proofs.Ythebnpophckgcaa
