/-
  ClockLocalMatchesSpec holds for every input, without a condition: for every clock and time, valid or not, the law returns true and its arguments read afterwards as before.
-/
import Derived.Test.YthebnpophckgcaaWl
import Derived.Test.YthebnpophckgcaaWm
import Derived.Test.YthebnpophckgcaaWo
namespace Go.Proofs.Ythebnpophckgcaa
open Go.ChangeShapes Go.WideShapes Go.ChangeAt Go.RowKit
set_option linter.unusedSimpArgs false
set_option linter.unusedVariables false
set_option maxHeartbeats 2000000
set_option maxRecDepth 100000
theorem seek_none {r l a b t : Int} (hs : ∀ n, n ≤ 1099511627776 → shF r l a b n t = false) : ∀ k : Nat, l + k ≤ 1099511627777 → seekF r l a b t k = (false, 0, 0)
  | 0, _ => rfl
  | k + 1, h => seek_no (seek_none hs k (by omega)) (hs _ (by omega))
theorem seek_some {r l a b t x y : Int} (hx : l ≤ x) (hxy : x ≤ y) (hs : ∀ n, n ≤ 1099511627776 → shF r l a b n t = (decide (x ≤ n) && decide (n ≤ y))) :
    ∀ k : Nat, l + k ≤ 1099511627777 → (l + k ≤ x → seekF r l a b t k = (false, 0, 0)) ∧ (x < l + k → seekF r l a b t k = (true, x, min (l + k - 1) y))
  | 0, h => ⟨fun _ => rfl, fun h => by simp at h; omega⟩
  | k + 1, h => by
    obtain ⟨h1, h2⟩ := seek_some hx hxy hs k (by omega)
    have hk := hs (l + k) (by omega)
    refine ⟨fun hl => ?_, fun hl => ?_⟩
    · exact seek_no (h1 (by omega)) (by rw [hk]; simp; omega)
    · rcases Int.lt_or_le x (l + k) with hc | hc
      · rcases Int.lt_or_le y (l + k) with hd | hd
        · rw [seek_no (h2 hc) (by rw [hk]; simp; omega)]; congr 2; omega
        · rw [seek_more (h2 hc) (by rw [hk]; simp; omega)]; congr 2; omega
      · have hxe : x = l + k := by omega
        rw [seek_first (h1 (by omega)) (by rw [hk]; simp; omega)]
        rw [hxe]; congr 2; omega
theorem most_small {r k : Int} (h1 : 0 ≤ r) (h2 : r ≤ 100000) (hk : k ≤ 1000) : mostE r k ≤ 1101 := by
  unfold mostE
  rcases Int.lt_or_le (k + 1) 0 with h | h
  · have : (k + 1) * (1000000 + r) ≤ 0 := Int.mul_nonpos_of_nonpos_of_nonneg (by omega) (by omega)
    omega
  · have : (k + 1) * (1000000 + r) ≤ 1001 * 1100000 := Int.mul_le_mul (by omega) (by omega) (by omega) (by omega)
    omega
/-- what both return -/
theorem local_same {r l a b t m : Int} (hok : okc r l a b = true) (ht : isT t = true) (hm : m = 1099511627776 ∨ l ≤ 2000 ∧ t ≤ 1000 ∧ m = 4000) :
    ∃ (s : Bool) (x y : Int), seekF r l a b t (m + 1 - l).toNat = (s, x, y) ∧ locF r l a b t = if s then ((x, y), 0) else ((0, 0), 16) := by
  obtain ⟨k1, k2, k3, k4⟩ := okc_t hok
  have l0 := isT_t k3
  have a0 := vld_t k4
  have e : l + ((m + 1 - l).toNat : Int) = m + 1 := by omega
  rcases loc_ways r l a b t with ⟨_, h | h⟩ | ⟨_, _, h, hs⟩ | ⟨_, _, x, y, h, x1, x2, x3, x4, hs⟩
  · rw [hok] at h; cases h
  · rw [ht] at h; cases h
  · exact ⟨false, 0, 0, seek_none hs _ (by omega), h⟩
  · refine ⟨true, x, y, ?_, h⟩
    have hy : y ≤ m := by
      rcases hm with rfl | ⟨g1, g2, rfl⟩
      · omega
      · have := most_small (k := t - a) k1 k2 (by omega); omega
    rw [(seek_some x1 x2 hs _ (by omega)).2 (by omega)]; congr 2; omega
theorem locals_walk (r l a b t : Int) (w : World) : Calls Try.prog 5 #[ck r l a b, .int .i64 t] w fun e w' => e = .returned (.bool true) ∧ Below w.heap.size w w' := by
  have h23 := eq23
  cases hok : okc r l a b
  · have A1 := loc_eq (locF_arg (r := r) (l := l) (a := a) (b := b) (t := t) (.inl hok))
    go_enter Try.func5, Try.ntmps5
    go_wp2_with fail
    (go_at_call 21; refine (rcheck_no _ _ _ _ _ hok).mono ?_; rintro e w1 ⟨rfl, hb1⟩; have hc1 := (bcell hb1).1; have hf1 := (bcell hb1).2.1; have hs1 := (bcell hb1).2.2; (try simp [go_sem] at hs1); have z1_0 : w.heap.size < w1.heap.size := (by omega); have y1_0 : (w.heap.size = w1.heap.size) = False := eq_false (by omega); have c1_0_0 := hc1 (w.heap.size) 0 (by first | omega | (simp; done) | (simp; omega)); have c1_0_1 := hc1 (w.heap.size) 1 (by first | omega | (simp; done) | (simp; omega)); have c1_0_2 := hc1 (w.heap.size) 2 (by first | omega | (simp; done) | (simp; omega)); have c1_0_3 := hc1 (w.heap.size) 3 (by first | omega | (simp; done) | (simp; omega)); have f1_0 : ∀ i, w1.frozen? ⟨w.heap.size, i, none⟩ = false := fun i => (hf1 (w.heap.size) i (by first | omega | (simp; done) | (simp; omega))).trans (by simp [go_sem, *]); clear hc1 hf1; simp [go_sem, *] at c1_0_0; simp [go_sem, *] at c1_0_1; simp [go_sem, *] at c1_0_2; simp [go_sem, *] at c1_0_3)
    go_wp2_with fail
    (go_at_call 35; refine (A1 _).mono ?_; rintro e w2 ⟨rfl, hb2⟩; have hc2 := (bcell hb2).1; have hf2 := (bcell hb2).2.1; have hs2 := (bcell hb2).2.2; (try simp [go_sem] at hs2); have z2_0 : w.heap.size < w2.heap.size := (by omega); have y2_0 : (w.heap.size = w2.heap.size) = False := eq_false (by omega); have c2_0_0 := hc2 (w.heap.size) 0 (by first | omega | (simp; done) | (simp; omega)); have c2_0_1 := hc2 (w.heap.size) 1 (by first | omega | (simp; done) | (simp; omega)); have c2_0_2 := hc2 (w.heap.size) 2 (by first | omega | (simp; done) | (simp; omega)); have c2_0_3 := hc2 (w.heap.size) 3 (by first | omega | (simp; done) | (simp; omega)); have f2_0 : ∀ i, w2.frozen? ⟨w.heap.size, i, none⟩ = false := fun i => (hf2 (w.heap.size) i (by first | omega | (simp; done) | (simp; omega))).trans (by simp [go_sem, *]); clear hc2 hf2; simp [go_sem, *] at c2_0_0; simp [go_sem, *] at c2_0_1; simp [go_sem, *] at c2_0_2; simp [go_sem, *] at c2_0_3; (try clear y1_0 f1_0 c1_0_0 c1_0_1 c1_0_2 c1_0_3))
    go_wp2_with fail
    (go_at_call 36; refine (rlocal_no _ _ _ _ _ _ _ (.inl hok)).mono ?_; rintro e w3 ⟨rfl, hb3⟩; have hc3 := (bcell hb3).1; have hf3 := (bcell hb3).2.1; have hs3 := (bcell hb3).2.2; (try simp [go_sem] at hs3); have z3_0 : w.heap.size < w3.heap.size := (by omega); have y3_0 : (w.heap.size = w3.heap.size) = False := eq_false (by omega); have c3_0_0 := hc3 (w.heap.size) 0 (by first | omega | (simp; done) | (simp; omega)); have c3_0_1 := hc3 (w.heap.size) 1 (by first | omega | (simp; done) | (simp; omega)); have c3_0_2 := hc3 (w.heap.size) 2 (by first | omega | (simp; done) | (simp; omega)); have c3_0_3 := hc3 (w.heap.size) 3 (by first | omega | (simp; done) | (simp; omega)); have f3_0 : ∀ i, w3.frozen? ⟨w.heap.size, i, none⟩ = false := fun i => (hf3 (w.heap.size) i (by first | omega | (simp; done) | (simp; omega))).trans (by simp [go_sem, *]); have z3_1 : w2.heap.size < w3.heap.size := (by omega); have y3_1 : (w2.heap.size = w3.heap.size) = False := eq_false (by omega); have c3_1_0 := hc3 (w2.heap.size) 0 (by first | omega | (simp; done) | (simp; omega)); have c3_1_1 := hc3 (w2.heap.size) 1 (by first | omega | (simp; done) | (simp; omega)); have f3_1 : ∀ i, w3.frozen? ⟨w2.heap.size, i, none⟩ = false := fun i => (hf3 (w2.heap.size) i (by first | omega | (simp; done) | (simp; omega))).trans (by simp [go_sem, *]); clear hc3 hf3; simp [go_sem, *] at c3_0_0; simp [go_sem, *] at c3_0_1; simp [go_sem, *] at c3_0_2; simp [go_sem, *] at c3_0_3; simp [go_sem, *] at c3_1_0; simp [go_sem, *] at c3_1_1; (try clear y2_0 f2_0 c2_0_0 c2_0_1 c2_0_2 c2_0_3))
    go_wp2_with fail
    (go_at_call 12; refine (sanity_any _).mono ?_; rintro e w4 ⟨rfl, hb4⟩; have hc4 := (bcell hb4).1; have hf4 := (bcell hb4).2.1; have hs4 := (bcell hb4).2.2; (try simp [go_sem] at hs4); have z4_0 : w.heap.size < w4.heap.size := (by omega); have y4_0 : (w.heap.size = w4.heap.size) = False := eq_false (by omega); have c4_0_0 := hc4 (w.heap.size) 0 (by first | omega | (simp; done) | (simp; omega)); have c4_0_1 := hc4 (w.heap.size) 1 (by first | omega | (simp; done) | (simp; omega)); have c4_0_2 := hc4 (w.heap.size) 2 (by first | omega | (simp; done) | (simp; omega)); have c4_0_3 := hc4 (w.heap.size) 3 (by first | omega | (simp; done) | (simp; omega)); have f4_0 : ∀ i, w4.frozen? ⟨w.heap.size, i, none⟩ = false := fun i => (hf4 (w.heap.size) i (by first | omega | (simp; done) | (simp; omega))).trans (by simp [go_sem, *]); have z4_1 : w2.heap.size < w4.heap.size := (by omega); have y4_1 : (w2.heap.size = w4.heap.size) = False := eq_false (by omega); have c4_1_0 := hc4 (w2.heap.size) 0 (by first | omega | (simp; done) | (simp; omega)); have c4_1_1 := hc4 (w2.heap.size) 1 (by first | omega | (simp; done) | (simp; omega)); have f4_1 : ∀ i, w4.frozen? ⟨w2.heap.size, i, none⟩ = false := fun i => (hf4 (w2.heap.size) i (by first | omega | (simp; done) | (simp; omega))).trans (by simp [go_sem, *]); have z4_2 : w3.heap.size < w4.heap.size := (by omega); have y4_2 : (w3.heap.size = w4.heap.size) = False := eq_false (by omega); have c4_2_0 := hc4 (w3.heap.size) 0 (by first | omega | (simp; done) | (simp; omega)); have c4_2_1 := hc4 (w3.heap.size) 1 (by first | omega | (simp; done) | (simp; omega)); have f4_2 : ∀ i, w4.frozen? ⟨w3.heap.size, i, none⟩ = false := fun i => (hf4 (w3.heap.size) i (by first | omega | (simp; done) | (simp; omega))).trans (by simp [go_sem, *]); clear hc4 hf4; simp [go_sem, *] at c4_0_0; simp [go_sem, *] at c4_0_1; simp [go_sem, *] at c4_0_2; simp [go_sem, *] at c4_0_3; simp [go_sem, *] at c4_1_0; simp [go_sem, *] at c4_1_1; simp [go_sem, *] at c4_2_0; simp [go_sem, *] at c4_2_1; (try clear y3_0 f3_0 c3_0_0 c3_0_1 c3_0_2 c3_0_3 y3_1 f3_1 c3_1_0 c3_1_1))
    go_wp2_with fail
    go_ret
    refine ⟨rfl, ?_⟩
    (repeat (first | exact Below.refl _ _ | refine Below.setCell ?_ (by first | omega | (simp; done) | (simp; omega)) _ | refine Below.alloc ?_ (by first | omega | (simp; done) | (simp; omega)) _ | refine below_drewN ?_ _ | refine Below.drew ?_ | refine Below.trans ?_ (Below.mono (by assumption) (by first | omega | (simp; done) | (simp; omega)))))
  have go1 : ∀ (m : Int) (z : Value), (l < 1099511624776 → l ≤ 2000 ∧ t ≤ 1000) → (1099511624776 ≤ l → m = 1099511627776) → (l < 1099511624776 → m = 4000) →
      (∀ w, Calls Try.prog 35 #[ck r l a b, .int .i64 t] w fun e w' => e = .returned z ∧ Below w.heap.size w w') → (∀ w, Calls Try.prog 36 #[ck r l a b, .int .i64 t, .int .i64 m] w fun e w' => e = .returned z ∧ Below w.heap.size w w') →
      (∃ x y z', z = .tuple #[sp x y, .int .i64 z']) → Calls Try.prog 5 #[ck r l a b, .int .i64 t] w fun e w' => e = .returned (.bool true) ∧ Below w.heap.size w w' := by
    rintro m z g1 g2 g3 A1 A2 ⟨x, y, z', rfl⟩
    rcases Int.lt_or_le l 1099511624776 with c1 | c1
    · obtain ⟨d1, d2⟩ := g1 c1
      obtain rfl := g3 c1
      clear g1 g2 g3
      go_enter Try.func5, Try.ntmps5
      go_wp2_with fail
      (go_at_call 21; refine (rcheck_yes _ _ _ _ _ hok).mono ?_; rintro e w1 ⟨rfl, hb1⟩; have hc1 := (bcell hb1).1; have hf1 := (bcell hb1).2.1; have hs1 := (bcell hb1).2.2; (try simp [go_sem] at hs1); have z1_0 : w.heap.size < w1.heap.size := (by omega); have y1_0 : (w.heap.size = w1.heap.size) = False := eq_false (by omega); have c1_0_0 := hc1 (w.heap.size) 0 (by first | omega | (simp; done) | (simp; omega)); have c1_0_1 := hc1 (w.heap.size) 1 (by first | omega | (simp; done) | (simp; omega)); have c1_0_2 := hc1 (w.heap.size) 2 (by first | omega | (simp; done) | (simp; omega)); have c1_0_3 := hc1 (w.heap.size) 3 (by first | omega | (simp; done) | (simp; omega)); have f1_0 : ∀ i, w1.frozen? ⟨w.heap.size, i, none⟩ = false := fun i => (hf1 (w.heap.size) i (by first | omega | (simp; done) | (simp; omega))).trans (by simp [go_sem, *]); clear hc1 hf1; simp [go_sem, *] at c1_0_0; simp [go_sem, *] at c1_0_1; simp [go_sem, *] at c1_0_2; simp [go_sem, *] at c1_0_3)
      go_wp2_with fail
      (go_at_call 35; refine (A1 _).mono ?_; rintro e w2 ⟨rfl, hb2⟩; have hc2 := (bcell hb2).1; have hf2 := (bcell hb2).2.1; have hs2 := (bcell hb2).2.2; (try simp [go_sem] at hs2); have z2_0 : w.heap.size < w2.heap.size := (by omega); have y2_0 : (w.heap.size = w2.heap.size) = False := eq_false (by omega); have c2_0_0 := hc2 (w.heap.size) 0 (by first | omega | (simp; done) | (simp; omega)); have c2_0_1 := hc2 (w.heap.size) 1 (by first | omega | (simp; done) | (simp; omega)); have c2_0_2 := hc2 (w.heap.size) 2 (by first | omega | (simp; done) | (simp; omega)); have c2_0_3 := hc2 (w.heap.size) 3 (by first | omega | (simp; done) | (simp; omega)); have f2_0 : ∀ i, w2.frozen? ⟨w.heap.size, i, none⟩ = false := fun i => (hf2 (w.heap.size) i (by first | omega | (simp; done) | (simp; omega))).trans (by simp [go_sem, *]); clear hc2 hf2; simp [go_sem, *] at c2_0_0; simp [go_sem, *] at c2_0_1; simp [go_sem, *] at c2_0_2; simp [go_sem, *] at c2_0_3; (try clear y1_0 f1_0 c1_0_0 c1_0_1 c1_0_2 c1_0_3))
      go_wp2_with fail
      (go_at_call 36; refine (A2 _).mono ?_; rintro e w3 ⟨rfl, hb3⟩; have hc3 := (bcell hb3).1; have hf3 := (bcell hb3).2.1; have hs3 := (bcell hb3).2.2; (try simp [go_sem] at hs3); have z3_0 : w.heap.size < w3.heap.size := (by omega); have y3_0 : (w.heap.size = w3.heap.size) = False := eq_false (by omega); have c3_0_0 := hc3 (w.heap.size) 0 (by first | omega | (simp; done) | (simp; omega)); have c3_0_1 := hc3 (w.heap.size) 1 (by first | omega | (simp; done) | (simp; omega)); have c3_0_2 := hc3 (w.heap.size) 2 (by first | omega | (simp; done) | (simp; omega)); have c3_0_3 := hc3 (w.heap.size) 3 (by first | omega | (simp; done) | (simp; omega)); have f3_0 : ∀ i, w3.frozen? ⟨w.heap.size, i, none⟩ = false := fun i => (hf3 (w.heap.size) i (by first | omega | (simp; done) | (simp; omega))).trans (by simp [go_sem, *]); have z3_1 : w2.heap.size < w3.heap.size := (by omega); have y3_1 : (w2.heap.size = w3.heap.size) = False := eq_false (by omega); have c3_1_0 := hc3 (w2.heap.size) 0 (by first | omega | (simp; done) | (simp; omega)); have c3_1_1 := hc3 (w2.heap.size) 1 (by first | omega | (simp; done) | (simp; omega)); have f3_1 : ∀ i, w3.frozen? ⟨w2.heap.size, i, none⟩ = false := fun i => (hf3 (w2.heap.size) i (by first | omega | (simp; done) | (simp; omega))).trans (by simp [go_sem, *]); clear hc3 hf3; simp [go_sem, *] at c3_0_0; simp [go_sem, *] at c3_0_1; simp [go_sem, *] at c3_0_2; simp [go_sem, *] at c3_0_3; simp [go_sem, *] at c3_1_0; simp [go_sem, *] at c3_1_1; (try clear y2_0 f2_0 c2_0_0 c2_0_1 c2_0_2 c2_0_3))
      go_wp2_with fail
      (go_at_call 12; refine (sanity_any _).mono ?_; rintro e w4 ⟨rfl, hb4⟩; have hc4 := (bcell hb4).1; have hf4 := (bcell hb4).2.1; have hs4 := (bcell hb4).2.2; (try simp [go_sem] at hs4); have z4_0 : w.heap.size < w4.heap.size := (by omega); have y4_0 : (w.heap.size = w4.heap.size) = False := eq_false (by omega); have c4_0_0 := hc4 (w.heap.size) 0 (by first | omega | (simp; done) | (simp; omega)); have c4_0_1 := hc4 (w.heap.size) 1 (by first | omega | (simp; done) | (simp; omega)); have c4_0_2 := hc4 (w.heap.size) 2 (by first | omega | (simp; done) | (simp; omega)); have c4_0_3 := hc4 (w.heap.size) 3 (by first | omega | (simp; done) | (simp; omega)); have f4_0 : ∀ i, w4.frozen? ⟨w.heap.size, i, none⟩ = false := fun i => (hf4 (w.heap.size) i (by first | omega | (simp; done) | (simp; omega))).trans (by simp [go_sem, *]); have z4_1 : w2.heap.size < w4.heap.size := (by omega); have y4_1 : (w2.heap.size = w4.heap.size) = False := eq_false (by omega); have c4_1_0 := hc4 (w2.heap.size) 0 (by first | omega | (simp; done) | (simp; omega)); have c4_1_1 := hc4 (w2.heap.size) 1 (by first | omega | (simp; done) | (simp; omega)); have f4_1 : ∀ i, w4.frozen? ⟨w2.heap.size, i, none⟩ = false := fun i => (hf4 (w2.heap.size) i (by first | omega | (simp; done) | (simp; omega))).trans (by simp [go_sem, *]); have z4_2 : w3.heap.size < w4.heap.size := (by omega); have y4_2 : (w3.heap.size = w4.heap.size) = False := eq_false (by omega); have c4_2_0 := hc4 (w3.heap.size) 0 (by first | omega | (simp; done) | (simp; omega)); have c4_2_1 := hc4 (w3.heap.size) 1 (by first | omega | (simp; done) | (simp; omega)); have f4_2 : ∀ i, w4.frozen? ⟨w3.heap.size, i, none⟩ = false := fun i => (hf4 (w3.heap.size) i (by first | omega | (simp; done) | (simp; omega))).trans (by simp [go_sem, *]); clear hc4 hf4; simp [go_sem, *] at c4_0_0; simp [go_sem, *] at c4_0_1; simp [go_sem, *] at c4_0_2; simp [go_sem, *] at c4_0_3; simp [go_sem, *] at c4_1_0; simp [go_sem, *] at c4_1_1; simp [go_sem, *] at c4_2_0; simp [go_sem, *] at c4_2_1; (try clear y3_0 f3_0 c3_0_0 c3_0_1 c3_0_2 c3_0_3 y3_1 f3_1 c3_1_0 c3_1_1))
      go_wp2_with fail
      go_ret
      refine ⟨rfl, ?_⟩
      (repeat (first | exact Below.refl _ _ | refine Below.setCell ?_ (by first | omega | (simp; done) | (simp; omega)) _ | refine Below.alloc ?_ (by first | omega | (simp; done) | (simp; omega)) _ | refine below_drewN ?_ _ | refine Below.drew ?_ | refine Below.trans ?_ (Below.mono (by assumption) (by first | omega | (simp; done) | (simp; omega)))))
    · obtain rfl := g2 c1
      clear g1 g2 g3
      go_enter Try.func5, Try.ntmps5
      go_wp2_with fail
      (go_at_call 21; refine (rcheck_yes _ _ _ _ _ hok).mono ?_; rintro e w1 ⟨rfl, hb1⟩; have hc1 := (bcell hb1).1; have hf1 := (bcell hb1).2.1; have hs1 := (bcell hb1).2.2; (try simp [go_sem] at hs1); have z1_0 : w.heap.size < w1.heap.size := (by omega); have y1_0 : (w.heap.size = w1.heap.size) = False := eq_false (by omega); have c1_0_0 := hc1 (w.heap.size) 0 (by first | omega | (simp; done) | (simp; omega)); have c1_0_1 := hc1 (w.heap.size) 1 (by first | omega | (simp; done) | (simp; omega)); have c1_0_2 := hc1 (w.heap.size) 2 (by first | omega | (simp; done) | (simp; omega)); have c1_0_3 := hc1 (w.heap.size) 3 (by first | omega | (simp; done) | (simp; omega)); have f1_0 : ∀ i, w1.frozen? ⟨w.heap.size, i, none⟩ = false := fun i => (hf1 (w.heap.size) i (by first | omega | (simp; done) | (simp; omega))).trans (by simp [go_sem, *]); clear hc1 hf1; simp [go_sem, *] at c1_0_0; simp [go_sem, *] at c1_0_1; simp [go_sem, *] at c1_0_2; simp [go_sem, *] at c1_0_3)
      go_wp2_with fail
      (go_at_call 35; refine (A1 _).mono ?_; rintro e w2 ⟨rfl, hb2⟩; have hc2 := (bcell hb2).1; have hf2 := (bcell hb2).2.1; have hs2 := (bcell hb2).2.2; (try simp [go_sem] at hs2); have z2_0 : w.heap.size < w2.heap.size := (by omega); have y2_0 : (w.heap.size = w2.heap.size) = False := eq_false (by omega); have c2_0_0 := hc2 (w.heap.size) 0 (by first | omega | (simp; done) | (simp; omega)); have c2_0_1 := hc2 (w.heap.size) 1 (by first | omega | (simp; done) | (simp; omega)); have c2_0_2 := hc2 (w.heap.size) 2 (by first | omega | (simp; done) | (simp; omega)); have c2_0_3 := hc2 (w.heap.size) 3 (by first | omega | (simp; done) | (simp; omega)); have f2_0 : ∀ i, w2.frozen? ⟨w.heap.size, i, none⟩ = false := fun i => (hf2 (w.heap.size) i (by first | omega | (simp; done) | (simp; omega))).trans (by simp [go_sem, *]); clear hc2 hf2; simp [go_sem, *] at c2_0_0; simp [go_sem, *] at c2_0_1; simp [go_sem, *] at c2_0_2; simp [go_sem, *] at c2_0_3; (try clear y1_0 f1_0 c1_0_0 c1_0_1 c1_0_2 c1_0_3))
      go_wp2_with fail
      (go_at_call 36; refine (A2 _).mono ?_; rintro e w3 ⟨rfl, hb3⟩; have hc3 := (bcell hb3).1; have hf3 := (bcell hb3).2.1; have hs3 := (bcell hb3).2.2; (try simp [go_sem] at hs3); have z3_0 : w.heap.size < w3.heap.size := (by omega); have y3_0 : (w.heap.size = w3.heap.size) = False := eq_false (by omega); have c3_0_0 := hc3 (w.heap.size) 0 (by first | omega | (simp; done) | (simp; omega)); have c3_0_1 := hc3 (w.heap.size) 1 (by first | omega | (simp; done) | (simp; omega)); have c3_0_2 := hc3 (w.heap.size) 2 (by first | omega | (simp; done) | (simp; omega)); have c3_0_3 := hc3 (w.heap.size) 3 (by first | omega | (simp; done) | (simp; omega)); have f3_0 : ∀ i, w3.frozen? ⟨w.heap.size, i, none⟩ = false := fun i => (hf3 (w.heap.size) i (by first | omega | (simp; done) | (simp; omega))).trans (by simp [go_sem, *]); have z3_1 : w2.heap.size < w3.heap.size := (by omega); have y3_1 : (w2.heap.size = w3.heap.size) = False := eq_false (by omega); have c3_1_0 := hc3 (w2.heap.size) 0 (by first | omega | (simp; done) | (simp; omega)); have c3_1_1 := hc3 (w2.heap.size) 1 (by first | omega | (simp; done) | (simp; omega)); have f3_1 : ∀ i, w3.frozen? ⟨w2.heap.size, i, none⟩ = false := fun i => (hf3 (w2.heap.size) i (by first | omega | (simp; done) | (simp; omega))).trans (by simp [go_sem, *]); clear hc3 hf3; simp [go_sem, *] at c3_0_0; simp [go_sem, *] at c3_0_1; simp [go_sem, *] at c3_0_2; simp [go_sem, *] at c3_0_3; simp [go_sem, *] at c3_1_0; simp [go_sem, *] at c3_1_1; (try clear y2_0 f2_0 c2_0_0 c2_0_1 c2_0_2 c2_0_3))
      go_wp2_with fail
      (go_at_call 12; refine (sanity_any _).mono ?_; rintro e w4 ⟨rfl, hb4⟩; have hc4 := (bcell hb4).1; have hf4 := (bcell hb4).2.1; have hs4 := (bcell hb4).2.2; (try simp [go_sem] at hs4); have z4_0 : w.heap.size < w4.heap.size := (by omega); have y4_0 : (w.heap.size = w4.heap.size) = False := eq_false (by omega); have c4_0_0 := hc4 (w.heap.size) 0 (by first | omega | (simp; done) | (simp; omega)); have c4_0_1 := hc4 (w.heap.size) 1 (by first | omega | (simp; done) | (simp; omega)); have c4_0_2 := hc4 (w.heap.size) 2 (by first | omega | (simp; done) | (simp; omega)); have c4_0_3 := hc4 (w.heap.size) 3 (by first | omega | (simp; done) | (simp; omega)); have f4_0 : ∀ i, w4.frozen? ⟨w.heap.size, i, none⟩ = false := fun i => (hf4 (w.heap.size) i (by first | omega | (simp; done) | (simp; omega))).trans (by simp [go_sem, *]); have z4_1 : w2.heap.size < w4.heap.size := (by omega); have y4_1 : (w2.heap.size = w4.heap.size) = False := eq_false (by omega); have c4_1_0 := hc4 (w2.heap.size) 0 (by first | omega | (simp; done) | (simp; omega)); have c4_1_1 := hc4 (w2.heap.size) 1 (by first | omega | (simp; done) | (simp; omega)); have f4_1 : ∀ i, w4.frozen? ⟨w2.heap.size, i, none⟩ = false := fun i => (hf4 (w2.heap.size) i (by first | omega | (simp; done) | (simp; omega))).trans (by simp [go_sem, *]); have z4_2 : w3.heap.size < w4.heap.size := (by omega); have y4_2 : (w3.heap.size = w4.heap.size) = False := eq_false (by omega); have c4_2_0 := hc4 (w3.heap.size) 0 (by first | omega | (simp; done) | (simp; omega)); have c4_2_1 := hc4 (w3.heap.size) 1 (by first | omega | (simp; done) | (simp; omega)); have f4_2 : ∀ i, w4.frozen? ⟨w3.heap.size, i, none⟩ = false := fun i => (hf4 (w3.heap.size) i (by first | omega | (simp; done) | (simp; omega))).trans (by simp [go_sem, *]); clear hc4 hf4; simp [go_sem, *] at c4_0_0; simp [go_sem, *] at c4_0_1; simp [go_sem, *] at c4_0_2; simp [go_sem, *] at c4_0_3; simp [go_sem, *] at c4_1_0; simp [go_sem, *] at c4_1_1; simp [go_sem, *] at c4_2_0; simp [go_sem, *] at c4_2_1; (try clear y3_0 f3_0 c3_0_0 c3_0_1 c3_0_2 c3_0_3 y3_1 f3_1 c3_1_0 c3_1_1))
      go_wp2_with fail
      go_ret
      refine ⟨rfl, ?_⟩
      (repeat (first | exact Below.refl _ _ | refine Below.setCell ?_ (by first | omega | (simp; done) | (simp; omega)) _ | refine Below.alloc ?_ (by first | omega | (simp; done) | (simp; omega)) _ | refine below_drewN ?_ _ | refine Below.drew ?_ | refine Below.trans ?_ (Below.mono (by assumption) (by first | omega | (simp; done) | (simp; omega)))))
  have no1 : (l < 1099511624776 ∧ (2000 < l ∨ l ≤ 2000 ∧ 1000 < t)) → Calls Try.prog 5 #[ck r l a b, .int .i64 t] w fun e w' => e = .returned (.bool true) ∧ Below w.heap.size w w' := by
    clear go1
    rintro ⟨c1, c2 | ⟨c2, c3⟩⟩
    · go_enter Try.func5, Try.ntmps5
      go_wp2_with fail
      (go_at_call 21; refine (rcheck_yes _ _ _ _ _ hok).mono ?_; rintro e w1 ⟨rfl, hb1⟩; have hc1 := (bcell hb1).1; have hf1 := (bcell hb1).2.1; have hs1 := (bcell hb1).2.2; (try simp [go_sem] at hs1); have z1_0 : w.heap.size < w1.heap.size := (by omega); have y1_0 : (w.heap.size = w1.heap.size) = False := eq_false (by omega); have c1_0_0 := hc1 (w.heap.size) 0 (by first | omega | (simp; done) | (simp; omega)); have c1_0_1 := hc1 (w.heap.size) 1 (by first | omega | (simp; done) | (simp; omega)); have c1_0_2 := hc1 (w.heap.size) 2 (by first | omega | (simp; done) | (simp; omega)); have c1_0_3 := hc1 (w.heap.size) 3 (by first | omega | (simp; done) | (simp; omega)); have f1_0 : ∀ i, w1.frozen? ⟨w.heap.size, i, none⟩ = false := fun i => (hf1 (w.heap.size) i (by first | omega | (simp; done) | (simp; omega))).trans (by simp [go_sem, *]); clear hc1 hf1; simp [go_sem, *] at c1_0_0; simp [go_sem, *] at c1_0_1; simp [go_sem, *] at c1_0_2; simp [go_sem, *] at c1_0_3)
      go_wp2_with fail
      (go_at_call 12; refine (sanity_any _).mono ?_; rintro e w2 ⟨rfl, hb2⟩; have hc2 := (bcell hb2).1; have hf2 := (bcell hb2).2.1; have hs2 := (bcell hb2).2.2; (try simp [go_sem] at hs2); have z2_0 : w.heap.size < w2.heap.size := (by omega); have y2_0 : (w.heap.size = w2.heap.size) = False := eq_false (by omega); have c2_0_0 := hc2 (w.heap.size) 0 (by first | omega | (simp; done) | (simp; omega)); have c2_0_1 := hc2 (w.heap.size) 1 (by first | omega | (simp; done) | (simp; omega)); have c2_0_2 := hc2 (w.heap.size) 2 (by first | omega | (simp; done) | (simp; omega)); have c2_0_3 := hc2 (w.heap.size) 3 (by first | omega | (simp; done) | (simp; omega)); have f2_0 : ∀ i, w2.frozen? ⟨w.heap.size, i, none⟩ = false := fun i => (hf2 (w.heap.size) i (by first | omega | (simp; done) | (simp; omega))).trans (by simp [go_sem, *]); clear hc2 hf2; simp [go_sem, *] at c2_0_0; simp [go_sem, *] at c2_0_1; simp [go_sem, *] at c2_0_2; simp [go_sem, *] at c2_0_3; (try clear y1_0 f1_0 c1_0_0 c1_0_1 c1_0_2 c1_0_3))
      go_wp2_with fail
      go_ret
      refine ⟨rfl, ?_⟩
      (repeat (first | exact Below.refl _ _ | refine Below.setCell ?_ (by first | omega | (simp; done) | (simp; omega)) _ | refine Below.alloc ?_ (by first | omega | (simp; done) | (simp; omega)) _ | refine below_drewN ?_ _ | refine Below.drew ?_ | refine Below.trans ?_ (Below.mono (by assumption) (by first | omega | (simp; done) | (simp; omega)))))
    · go_enter Try.func5, Try.ntmps5
      go_wp2_with fail
      (go_at_call 21; refine (rcheck_yes _ _ _ _ _ hok).mono ?_; rintro e w1 ⟨rfl, hb1⟩; have hc1 := (bcell hb1).1; have hf1 := (bcell hb1).2.1; have hs1 := (bcell hb1).2.2; (try simp [go_sem] at hs1); have z1_0 : w.heap.size < w1.heap.size := (by omega); have y1_0 : (w.heap.size = w1.heap.size) = False := eq_false (by omega); have c1_0_0 := hc1 (w.heap.size) 0 (by first | omega | (simp; done) | (simp; omega)); have c1_0_1 := hc1 (w.heap.size) 1 (by first | omega | (simp; done) | (simp; omega)); have c1_0_2 := hc1 (w.heap.size) 2 (by first | omega | (simp; done) | (simp; omega)); have c1_0_3 := hc1 (w.heap.size) 3 (by first | omega | (simp; done) | (simp; omega)); have f1_0 : ∀ i, w1.frozen? ⟨w.heap.size, i, none⟩ = false := fun i => (hf1 (w.heap.size) i (by first | omega | (simp; done) | (simp; omega))).trans (by simp [go_sem, *]); clear hc1 hf1; simp [go_sem, *] at c1_0_0; simp [go_sem, *] at c1_0_1; simp [go_sem, *] at c1_0_2; simp [go_sem, *] at c1_0_3)
      go_wp2_with fail
      (go_at_call 12; refine (sanity_any _).mono ?_; rintro e w2 ⟨rfl, hb2⟩; have hc2 := (bcell hb2).1; have hf2 := (bcell hb2).2.1; have hs2 := (bcell hb2).2.2; (try simp [go_sem] at hs2); have z2_0 : w.heap.size < w2.heap.size := (by omega); have y2_0 : (w.heap.size = w2.heap.size) = False := eq_false (by omega); have c2_0_0 := hc2 (w.heap.size) 0 (by first | omega | (simp; done) | (simp; omega)); have c2_0_1 := hc2 (w.heap.size) 1 (by first | omega | (simp; done) | (simp; omega)); have c2_0_2 := hc2 (w.heap.size) 2 (by first | omega | (simp; done) | (simp; omega)); have c2_0_3 := hc2 (w.heap.size) 3 (by first | omega | (simp; done) | (simp; omega)); have f2_0 : ∀ i, w2.frozen? ⟨w.heap.size, i, none⟩ = false := fun i => (hf2 (w.heap.size) i (by first | omega | (simp; done) | (simp; omega))).trans (by simp [go_sem, *]); clear hc2 hf2; simp [go_sem, *] at c2_0_0; simp [go_sem, *] at c2_0_1; simp [go_sem, *] at c2_0_2; simp [go_sem, *] at c2_0_3; (try clear y1_0 f1_0 c1_0_0 c1_0_1 c1_0_2 c1_0_3))
      go_wp2_with fail
      go_ret
      refine ⟨rfl, ?_⟩
      (repeat (first | exact Below.refl _ _ | refine Below.setCell ?_ (by first | omega | (simp; done) | (simp; omega)) _ | refine Below.alloc ?_ (by first | omega | (simp; done) | (simp; omega)) _ | refine below_drewN ?_ _ | refine Below.drew ?_ | refine Below.trans ?_ (Below.mono (by assumption) (by first | omega | (simp; done) | (simp; omega)))))
  have l0 := isT_t (okc_t hok).2.2.1
  by_cases hd : l < 1099511624776 ∧ (2000 < l ∨ l ≤ 2000 ∧ 1000 < t)
  · exact no1 hd
  obtain ⟨m, hm1, hm2⟩ : ∃ m : Int, (1099511624776 ≤ l → m = 1099511627776) ∧ (l < 1099511624776 → m = 4000) := by
    rcases Int.lt_or_le l 1099511624776 with c | c
    · exact ⟨4000, by omega, by omega⟩
    · exact ⟨1099511627776, by omega, by omega⟩
  cases ht : isT t
  · exact go1 m (.tuple #[sp 0 0, .int .i64 1]) (by omega) hm1 hm2 (loc_eq (locF_arg (.inr ht))) (fun w => rlocal_no _ _ _ _ _ _ _ (.inr ht)) ⟨_, _, _, rfl⟩
  · have hmm : m = 1099511627776 ∨ l ≤ 2000 ∧ t ≤ 1000 ∧ m = 4000 := by omega
    obtain ⟨s, x, y, hs, hl⟩ := local_same hok ht hmm
    have A2 := fun w => rlocal_any r l a b t m w hok ht (by omega) (by omega) s x y hs
    cases s
    · exact go1 m (.tuple #[sp 0 0, .int .i64 16]) (by omega) hm1 hm2 (loc_eq hl) A2 ⟨_, _, _, rfl⟩
    · exact go1 m (.tuple #[sp x y, .int .i64 0]) (by omega) hm1 hm2 (loc_eq hl) A2 ⟨_, _, _, rfl⟩
theorem locals_lifted (os : Os) (started : os.Started) (H : Type) (enc : TypeId × Value → H) :
    ReturnsInHanded {} Try.checked os 5 .any (Rows.clockLocalMatchesSpecSpec.pre6 enc Try.prog Try.f5 Rows.clockLocalMatchesSpecRow.domain false) (Rows.clockLocalMatchesSpecSpec.post enc Try.prog Try.f5 false true false false) := by
  refine returnsInHanded_of_change (C := Try.checked) Try.own started (by kernel_rfl) Try.func5
    (ChangeSpec.witness6 (enc := enc) (C := Try.checked) false ⟨#[], #[.agg #[.int .i64 0, .int .i64 0, .int .i64 0, .int .i64 0], .int .i64 0], []⟩ 8 (by kernel_rfl) (by kernel_rfl) (by kernel_rfl) (by kernel_rfl)) ?_
  intro W base args ds gs before hval0 hW hcnd _
  have hval : ∀ (j : Nat) t v, Try.f5.params[j]? = some t → args[j]? = some v → Value.okWide Try.prog W .any base t v := hval0
  have hW' := hW
  obtain ⟨p, q, hA0, hV, rfl, hfz, hnd⟩ := hW
  have hA : DataW.TrodAll enc Try.prog W 0 (fun _ => true) true Try.f5.params.toList args.toList ds p := hA0
  rw [Try.params5] at hA hval
  have hAk := hA
  obtain ⟨v0, vs0, d0, ds0, p0, q0, hargs, rfl, rfl, h0, r0⟩ := trodAll_cons hA
  obtain ⟨v1, vs1, d1, ds1, p1, q1, rfl, rfl, rfl, h1, r1⟩ := trodAll_cons r0
  obtain ⟨rfl, rfl, rfl⟩ := trodAll_nil r1
  obtain rfl : args = #[v0, v1] := by cases args; simp_all
  obtain ⟨rfl, rfl⟩ := trodVars_none hV
  obtain ⟨r, l, a, b, rfl, _, _, _, _⟩ := open_clock (hval 0 25 v0 rfl rfl) h0
  obtain ⟨t, rfl, _, _, w1⟩ := open_int Try.underlying3 (hval 1 3 v1 rfl rfl) h1
  clear hA0 hval0
  simp only [List.append_nil] at hW'
  refine (locals_walk r l a b t W).mono fun e W' ⟨he, hb⟩ => ?_
  subst he
  refine ⟨_, rfl, _, _, _, [], _, [], hW', trodAll_mk1 (shut_bool Try.underlying4 _), trodAll_stays ?_ hAk hb ?_, rfl, hb.frame _, fun h => by cases h⟩
  · intro t ht
    have ht' : t = 25 ∨ t = 3 := by simpa using ht
    rcases ht' with rfl | rfl
    · exact ⟨by kernel_rfl, of_decide_eq_true (by kernel_rfl)⟩
    · exact ⟨by kernel_rfl, of_decide_eq_true (by kernel_rfl)⟩
  · intro x hx; exact hW'.lt x (by simpa using hx)

/-- the statement -/
theorem locals_holds : Rows.ClockLocalMatchesSpecSaid :=
  OpenClaim.holds_of_wide 5 Try.f5 rfl rfl rfl rfl rfl rfl rfl ⟨rfl, rfl, rfl, rfl, rfl⟩ rfl rfl rfl rfl rfl (by kernel_rfl) Try.func5 (by kernel_rfl)
    (of_decide_eq_true (by kernel_rfl)) (by unfold Func.isWrapper; first | (rw [if_pos (by decide +kernel)]; kernel_rfl) | (rw [if_neg (by decide +kernel)]; exact ⟨rfl, rfl⟩))
    (fun os started H enc _ => locals_lifted os started H enc)
end Go.Proofs.Ythebnpophckgcaa
