/-
  The walk of Local, of Shows and of the reference's small functions.
-/
import Derived.Test.YthebnpophckgcaaWg
namespace Go.Proofs.Ythebnpophckgcaa
open Go.RowKit
set_option linter.unusedSimpArgs false
set_option linter.unusedVariables false
set_option maxHeartbeats 1000000
/-- the greatest number of ticks, before the cut at the greatest reading; the least one -/
def mostE (r k : Int) : Int := ((k + 1) * (1000000 + r) - 1) / 1000000
def leastE (r k : Int) : Int := if 0 < k then (k - 1) * (1000000 - r) / 1000000 + 1 else 0
/-- what Local returns -/
def locF (r l a b t : Int) : (Int × Int) × Int :=
  if !okc r l a b || !isT t then ((0, 0), 1) else if t - a < 0 then ((0, 0), 16)
  else if min (mostE r (t - a)) (1099511627776 - l) < leastE r (t - b) then ((0, 0), 16)
  else ((l + leastE r (t - b), l + min (mostE r (t - a)) (1099511627776 - l)), 0)
theorem locF_arg {r l a b t : Int} (h : okc r l a b = false ∨ isT t = false) : locF r l a b t = ((0, 0), 1) := by
  unfold locF; rw [if_pos (by rcases h with h | h <;> simp [h])]
theorem locF_early {r l a b t : Int} (h1 : okc r l a b = true) (h2 : isT t = true) (h : t - a < 0) : locF r l a b t = ((0, 0), 16) := by
  unfold locF; rw [if_neg (by simp [h1, h2]), if_pos h]
theorem locF_late {r l a b t x y : Int} (h1 : okc r l a b = true) (h2 : isT t = true) (h : 0 ≤ t - a) (hx : leastE r (t - b) = x) (hy : mostE r (t - a) = y) (h3 : min y (1099511627776 - l) < x) : locF r l a b t = ((0, 0), 16) := by
  unfold locF; rw [if_neg (by simp [h1, h2]), if_neg (by omega), if_pos (by rw [hx, hy]; exact h3)]
theorem locF_ok {r l a b t x y : Int} (h1 : okc r l a b = true) (h2 : isT t = true) (h : 0 ≤ t - a) (hx : leastE r (t - b) = x) (hy : mostE r (t - a) = y) (h3 : x ≤ min y (1099511627776 - l)) : locF r l a b t = ((l + x, l + min y (1099511627776 - l)), 0) := by
  unfold locF; rw [if_neg (by simp [h1, h2]), if_neg (by omega), if_neg (by rw [hx, hy]; omega), hx, hy]
theorem mostE_bd {r k : Int} (h1 : 0 ≤ r) (h2 : r ≤ 100000) (h3 : 0 ≤ k) (h4 : k ≤ 1099511627776) : 0 ≤ (k + 1) * (1000000 + r) ∧ (k + 1) * (1000000 + r) ≤ 1209462790554700000 ∧ k ≤ mostE r k ∧ mostE r k ≤ 1209462790555 := by
  have e1 : 0 ≤ (k + 1) * r := Int.mul_nonneg (by omega) h1
  have e2 : (k + 1) * r ≤ 1099511627777 * 100000 := Int.mul_le_mul (by omega) h2 h1 (by omega)
  have e3 : (k + 1) * (1000000 + r) = (k + 1) * 1000000 + (k + 1) * r := Int.mul_add _ _ _
  unfold mostE
  rw [e3]
  omega
theorem least_bd {r k : Int} (h1 : 0 ≤ r) (h2 : r ≤ 100000) (h3 : 0 < k) (h4 : k ≤ 1099511627776) : 0 ≤ (k - 1) * (1000000 - r) ∧ (k - 1) * (1000000 - r) ≤ 1099511627776000000 := by
  have e1 : 0 ≤ (k - 1) * r := Int.mul_nonneg (by omega) h1
  have e2 : (k - 1) * r ≤ (k - 1) * 1000000 := Int.mul_le_mul_of_nonneg_left (by omega) (by omega)
  rw [Int.mul_sub]
  omega
theorem loc_any (r l a b t : Int) (w : World) : Calls Try.prog 35 #[ck r l a b, .int .i64 t] w fun e w' => e = .returned (.tuple #[sp (locF r l a b t).1.1 (locF r l a b t).1.2, .int .i64 (locF r l a b t).2]) ∧ Below w.heap.size w w' := by
  cases h1 : okc r l a b
  · rw [locF_arg (.inl h1)]
    go_enter Try.func35, Try.ntmps35
    go_wp2_with fail
    (go_at_call 20; refine (check_no _ _ _ _ _ h1).mono ?_; rintro e w1 ⟨rfl, hb1⟩; have hc1 := (bcell hb1).1; have hf1 := (bcell hb1).2.1; have hs1 := (bcell hb1).2.2; (try simp [go_sem] at hs1); have z1_0 : w.heap.size < w1.heap.size := (by omega); have y1_0 : (w.heap.size = w1.heap.size) = False := eq_false (by omega); have c1_0_0 := hc1 (w.heap.size) 0 (by first | omega | (simp; done) | (simp; omega)); have c1_0_1 := hc1 (w.heap.size) 1 (by first | omega | (simp; done) | (simp; omega)); have c1_0_2 := hc1 (w.heap.size) 2 (by first | omega | (simp; done) | (simp; omega)); have c1_0_3 := hc1 (w.heap.size) 3 (by first | omega | (simp; done) | (simp; omega)); have f1_0 : ∀ i, w1.frozen? ⟨w.heap.size, i, none⟩ = false := fun i => (hf1 (w.heap.size) i (by first | omega | (simp; done) | (simp; omega))).trans (by simp [go_sem, *]); have z1_1 : w.heap.size + 1 < w1.heap.size := (by omega); have y1_1 : (w.heap.size + 1 = w1.heap.size) = False := eq_false (by omega); have c1_1_0 := hc1 (w.heap.size + 1) 0 (by first | omega | (simp; done) | (simp; omega)); have c1_1_1 := hc1 (w.heap.size + 1) 1 (by first | omega | (simp; done) | (simp; omega)); have f1_1 : ∀ i, w1.frozen? ⟨w.heap.size + 1, i, none⟩ = false := fun i => (hf1 (w.heap.size + 1) i (by first | omega | (simp; done) | (simp; omega))).trans (by simp [go_sem, *]); clear hc1 hf1; simp [go_sem, *] at c1_0_0; simp [go_sem, *] at c1_0_1; simp [go_sem, *] at c1_0_2; simp [go_sem, *] at c1_0_3; simp [go_sem, *] at c1_1_0; simp [go_sem, *] at c1_1_1)
    go_wp2_with fail
    refine bodyPost_ret (v := .tuple #[sp 0 0, .int .i64 1]) (by simp [results, Try.results35, go_sem, *]) rfl ⟨rfl, ?_⟩
    (repeat (first | exact Below.refl _ _ | refine Below.setCell ?_ (by first | omega | (simp; done) | (simp; omega)) _ | refine Below.alloc ?_ (by first | omega | (simp; done) | (simp; omega)) _ | refine below_drewN ?_ _ | refine Below.drew ?_ | refine Below.trans ?_ (Below.mono (by assumption) (by first | omega | (simp; done) | (simp; omega)))))
  cases h2 : isT t
  · rw [locF_arg (.inr h2)]
    go_enter Try.func35, Try.ntmps35
    go_wp2_with fail
    (go_at_call 20; refine (check_yes _ _ _ _ _ h1).mono ?_; rintro e w1 ⟨rfl, hb1⟩; have hc1 := (bcell hb1).1; have hf1 := (bcell hb1).2.1; have hs1 := (bcell hb1).2.2; (try simp [go_sem] at hs1); have z1_0 : w.heap.size < w1.heap.size := (by omega); have y1_0 : (w.heap.size = w1.heap.size) = False := eq_false (by omega); have c1_0_0 := hc1 (w.heap.size) 0 (by first | omega | (simp; done) | (simp; omega)); have c1_0_1 := hc1 (w.heap.size) 1 (by first | omega | (simp; done) | (simp; omega)); have c1_0_2 := hc1 (w.heap.size) 2 (by first | omega | (simp; done) | (simp; omega)); have c1_0_3 := hc1 (w.heap.size) 3 (by first | omega | (simp; done) | (simp; omega)); have f1_0 : ∀ i, w1.frozen? ⟨w.heap.size, i, none⟩ = false := fun i => (hf1 (w.heap.size) i (by first | omega | (simp; done) | (simp; omega))).trans (by simp [go_sem, *]); have z1_1 : w.heap.size + 1 < w1.heap.size := (by omega); have y1_1 : (w.heap.size + 1 = w1.heap.size) = False := eq_false (by omega); have c1_1_0 := hc1 (w.heap.size + 1) 0 (by first | omega | (simp; done) | (simp; omega)); have c1_1_1 := hc1 (w.heap.size + 1) 1 (by first | omega | (simp; done) | (simp; omega)); have f1_1 : ∀ i, w1.frozen? ⟨w.heap.size + 1, i, none⟩ = false := fun i => (hf1 (w.heap.size + 1) i (by first | omega | (simp; done) | (simp; omega))).trans (by simp [go_sem, *]); clear hc1 hf1; simp [go_sem, *] at c1_0_0; simp [go_sem, *] at c1_0_1; simp [go_sem, *] at c1_0_2; simp [go_sem, *] at c1_0_3; simp [go_sem, *] at c1_1_0; simp [go_sem, *] at c1_1_1)
    go_wp2_with fail
    (go_at_call 40; refine (isTime_any _ _).mono ?_; rintro e w' ⟨rfl, rfl⟩)
    go_wp2_with fail
    refine bodyPost_ret (v := .tuple #[sp 0 0, .int .i64 1]) (by simp [results, Try.results35, go_sem, *]) rfl ⟨rfl, ?_⟩
    (repeat (first | exact Below.refl _ _ | refine Below.setCell ?_ (by first | omega | (simp; done) | (simp; omega)) _ | refine Below.alloc ?_ (by first | omega | (simp; done) | (simp; omega)) _ | refine below_drewN ?_ _ | refine Below.drew ?_ | refine Below.trans ?_ (Below.mono (by assumption) (by first | omega | (simp; done) | (simp; omega)))))
  obtain ⟨k1, k2, k3, k4⟩ := okc_t h1
  obtain ⟨l1, l2⟩ := isT_t k3
  obtain ⟨t1, t2⟩ := isT_t h2
  obtain ⟨a1, a2, a3⟩ := vld_t k4
  rcases Int.lt_or_le (t - a) 0 with h3 | h3
  · rw [locF_early h1 h2 h3]
    go_enter Try.func35, Try.ntmps35
    go_wp2_with fail
    (go_at_call 20; refine (check_yes _ _ _ _ _ h1).mono ?_; rintro e w1 ⟨rfl, hb1⟩; have hc1 := (bcell hb1).1; have hf1 := (bcell hb1).2.1; have hs1 := (bcell hb1).2.2; (try simp [go_sem] at hs1); have z1_0 : w.heap.size < w1.heap.size := (by omega); have y1_0 : (w.heap.size = w1.heap.size) = False := eq_false (by omega); have c1_0_0 := hc1 (w.heap.size) 0 (by first | omega | (simp; done) | (simp; omega)); have c1_0_1 := hc1 (w.heap.size) 1 (by first | omega | (simp; done) | (simp; omega)); have c1_0_2 := hc1 (w.heap.size) 2 (by first | omega | (simp; done) | (simp; omega)); have c1_0_3 := hc1 (w.heap.size) 3 (by first | omega | (simp; done) | (simp; omega)); have f1_0 : ∀ i, w1.frozen? ⟨w.heap.size, i, none⟩ = false := fun i => (hf1 (w.heap.size) i (by first | omega | (simp; done) | (simp; omega))).trans (by simp [go_sem, *]); have z1_1 : w.heap.size + 1 < w1.heap.size := (by omega); have y1_1 : (w.heap.size + 1 = w1.heap.size) = False := eq_false (by omega); have c1_1_0 := hc1 (w.heap.size + 1) 0 (by first | omega | (simp; done) | (simp; omega)); have c1_1_1 := hc1 (w.heap.size + 1) 1 (by first | omega | (simp; done) | (simp; omega)); have f1_1 : ∀ i, w1.frozen? ⟨w.heap.size + 1, i, none⟩ = false := fun i => (hf1 (w.heap.size + 1) i (by first | omega | (simp; done) | (simp; omega))).trans (by simp [go_sem, *]); clear hc1 hf1; simp [go_sem, *] at c1_0_0; simp [go_sem, *] at c1_0_1; simp [go_sem, *] at c1_0_2; simp [go_sem, *] at c1_0_3; simp [go_sem, *] at c1_1_0; simp [go_sem, *] at c1_1_1)
    go_wp2_with fail
    (go_at_call 40; refine (isTime_any _ _).mono ?_; rintro e w' ⟨rfl, rfl⟩)
    go_wp2_with fail
    refine wp_region_ext (by kernel_rfl) ?_
    refine wpE_yes (i := 0) rfl (by kernel_rfl) (by kernel_rfl) (by kernel_rfl) (fun _ _ _ _ h => h) (by rfl) ?_; apply Exists.intro; refine ⟨fun w' hw' => ?_, ?_⟩
    · (have hcw := (bcell hw').1; have hfw := (bcell hw').2.1; go_simp; (try simp (disch := omega) only [IntWalk.i64_quo, IntWalk.i64_in, IntWalk.rem_in]); exact calm_value)
    simp only [Act.put, List.setIfInBounds_toArray, List.set_cons_zero, List.set_cons_succ]
    refine wpE_yes (i := 1) rfl (by kernel_rfl) (by kernel_rfl) (by kernel_rfl) (fun _ _ _ _ h => h) (by rfl) ?_; apply Exists.intro; refine ⟨fun w' hw' => ?_, ?_⟩
    · (have hcw := (bcell hw').1; have hfw := (bcell hw').2.1; go_simp; (try simp (disch := omega) only [IntWalk.i64_quo, IntWalk.i64_in, IntWalk.rem_in]); exact calm_value)
    simp only [Act.put, List.setIfInBounds_toArray, List.set_cons_zero, List.set_cons_succ]
    refine wpE_yes (i := 2) rfl (by kernel_rfl) (by kernel_rfl) (by kernel_rfl) (fun _ _ _ _ h => h) (by rfl) ?_; apply Exists.intro; refine ⟨fun w' hw' => ?_, ?_⟩
    · (have hcw := (bcell hw').1; have hfw := (bcell hw').2.1; go_simp; (try simp (disch := omega) only [IntWalk.i64_quo, IntWalk.i64_in, IntWalk.rem_in]); exact calm_value)
    simp only [Act.put, List.setIfInBounds_toArray, List.set_cons_zero, List.set_cons_succ]
    refine wpE_yes (i := 3) rfl (by kernel_rfl) (by kernel_rfl) (by kernel_rfl) (fun _ _ _ _ h => h) (by rfl) ?_; apply Exists.intro; refine ⟨fun w' hw' => ?_, ?_⟩
    · (have hcw := (bcell hw').1; have hfw := (bcell hw').2.1; go_simp; (try simp (disch := omega) only [IntWalk.i64_quo, IntWalk.i64_in, IntWalk.rem_in]); exact calm_value)
    simp only [Act.put, List.setIfInBounds_toArray, List.set_cons_zero, List.set_cons_succ]
    refine wpE_yes (i := 4) rfl (by kernel_rfl) (by kernel_rfl) (by kernel_rfl) (fun _ _ _ _ h => h) (by rfl) ?_; apply Exists.intro; refine ⟨fun w' hw' => ?_, ?_⟩
    · (have hcw := (bcell hw').1; have hfw := (bcell hw').2.1; go_simp; (try simp (disch := omega) only [IntWalk.i64_quo, IntWalk.i64_in, IntWalk.rem_in]); exact calm_value)
    simp only [Act.put, List.setIfInBounds_toArray, List.set_cons_zero, List.set_cons_succ]
    refine wpE_yes (i := 5) rfl (by kernel_rfl) (by kernel_rfl) (by kernel_rfl) (fun _ _ _ _ h => h) (by rfl) ?_; apply Exists.intro; refine ⟨fun w' hw' => ?_, ?_⟩
    · (have hcw := (bcell hw').1; have hfw := (bcell hw').2.1; go_simp; (try simp (disch := omega) only [IntWalk.i64_quo, IntWalk.i64_in, IntWalk.rem_in]); exact calm_value)
    simp only [Act.put, List.setIfInBounds_toArray, List.set_cons_zero, List.set_cons_succ]
    refine wpE_yes (i := 6) rfl (by kernel_rfl) (by kernel_rfl) (by kernel_rfl) (fun _ _ _ _ h => h) (by rfl) ?_; apply Exists.intro; refine ⟨fun w' hw' => ?_, ?_⟩
    · (have hcw := (bcell hw').1; have hfw := (bcell hw').2.1; go_simp; (try simp (disch := omega) only [IntWalk.i64_quo, IntWalk.i64_in, IntWalk.rem_in]); exact calm_value)
    simp only [Act.put, List.setIfInBounds_toArray, List.set_cons_zero, List.set_cons_succ]
    refine wpE_yes (i := 7) rfl (by kernel_rfl) (by kernel_rfl) (by kernel_rfl) (fun _ _ _ _ h => h) (by rfl) ?_; apply Exists.intro; refine ⟨fun w' hw' => ?_, ?_⟩
    · (have hcw := (bcell hw').1; have hfw := (bcell hw').2.1; go_simp; (try simp (disch := omega) only [IntWalk.i64_quo, IntWalk.i64_in, IntWalk.rem_in]); exact calm_value)
    simp only [Act.put, List.setIfInBounds_toArray, List.set_cons_zero, List.set_cons_succ]
    refine wpE_yes (i := 8) rfl (by kernel_rfl) (by kernel_rfl) (by kernel_rfl) (fun _ _ _ _ h => h) (by rfl) ?_; apply Exists.intro; refine ⟨fun w' hw' => ?_, ?_⟩
    · (have hcw := (bcell hw').1; have hfw := (bcell hw').2.1; go_simp; (try simp (disch := omega) only [IntWalk.i64_quo, IntWalk.i64_in, IntWalk.rem_in]); exact calm_value)
    simp only [Act.put, List.setIfInBounds_toArray, List.set_cons_zero, List.set_cons_succ]
    refine wpE_yes (i := 9) rfl (by kernel_rfl) (by kernel_rfl) (by kernel_rfl) (fun _ _ _ _ h => h) (by rfl) ?_; apply Exists.intro; refine ⟨fun w' hw' => ?_, ?_⟩
    · (have hcw := (bcell hw').1; have hfw := (bcell hw').2.1; go_simp; (try simp (disch := omega) only [IntWalk.i64_quo, IntWalk.i64_in, IntWalk.rem_in]); exact calm_value)
    simp only [Act.put, List.setIfInBounds_toArray, List.set_cons_zero, List.set_cons_succ]
    refine wpE_yes (i := 10) rfl (by kernel_rfl) (by kernel_rfl) (by kernel_rfl) (fun _ _ _ _ h => h) (by rfl) ?_; apply Exists.intro; refine ⟨fun w' hw' => ?_, ?_⟩
    · (have hcw := (bcell hw').1; have hfw := (bcell hw').2.1; go_simp; (try simp (disch := omega) only [IntWalk.i64_quo, IntWalk.i64_in, IntWalk.rem_in]); exact calm_value)
    simp only [Act.put, List.setIfInBounds_toArray, List.set_cons_zero, List.set_cons_succ]
    refine wpE_yes (i := 11) rfl (by kernel_rfl) (by kernel_rfl) (by kernel_rfl) (fun _ _ _ _ h => h) (by rfl) ?_; apply Exists.intro; refine ⟨fun w' hw' => ?_, ?_⟩
    · (have hcw := (bcell hw').1; have hfw := (bcell hw').2.1; go_simp; (try simp (disch := omega) only [IntWalk.i64_quo, IntWalk.i64_in, IntWalk.rem_in]); exact calm_value)
    simp only [Act.put, List.setIfInBounds_toArray, List.set_cons_zero, List.set_cons_succ]
    refine wpE_done (by kernel_rfl) (fun w2 hb2 hC2 => ?_) _
    (have hc2 := (bcell hb2).1; have hf2 := (bcell hb2).2.1; have hs2 := (bcell hb2).2.2; (try simp [go_sem] at hs2); have z2_0 : w.heap.size < w2.heap.size := (by omega); have y2_0 : (w.heap.size = w2.heap.size) = False := eq_false (by omega); have c2_0_0 := hc2 (w.heap.size) 0 (by first | omega | (simp; done) | (simp; omega)); have c2_0_1 := hc2 (w.heap.size) 1 (by first | omega | (simp; done) | (simp; omega)); have c2_0_2 := hc2 (w.heap.size) 2 (by first | omega | (simp; done) | (simp; omega)); have c2_0_3 := hc2 (w.heap.size) 3 (by first | omega | (simp; done) | (simp; omega)); have f2_0 : ∀ i, w2.frozen? ⟨w.heap.size, i, none⟩ = false := fun i => (hf2 (w.heap.size) i (by first | omega | (simp; done) | (simp; omega))).trans (by simp [go_sem, *]); have z2_1 : w.heap.size + 1 < w2.heap.size := (by omega); have y2_1 : (w.heap.size + 1 = w2.heap.size) = False := eq_false (by omega); have c2_1_0 := hc2 (w.heap.size + 1) 0 (by first | omega | (simp; done) | (simp; omega)); have c2_1_1 := hc2 (w.heap.size + 1) 1 (by first | omega | (simp; done) | (simp; omega)); have f2_1 : ∀ i, w2.frozen? ⟨w.heap.size + 1, i, none⟩ = false := fun i => (hf2 (w.heap.size + 1) i (by first | omega | (simp; done) | (simp; omega))).trans (by simp [go_sem, *]); clear hc2 hf2; simp [go_sem, *] at c2_0_0; simp [go_sem, *] at c2_0_1; simp [go_sem, *] at c2_0_2; simp [go_sem, *] at c2_0_3; simp [go_sem, *] at c2_1_0; simp [go_sem, *] at c2_1_1; (try clear y1_0 f1_0 c1_0_0 c1_0_1 c1_0_2 c1_0_3 y1_1 f1_1 c1_1_0 c1_1_1))
    clear hC2
    go_wp2_with fail
    refine bodyPost_ret (v := .tuple #[sp 0 0, .int .i64 16]) (by simp [results, Try.results35, go_sem, *]) rfl ⟨rfl, ?_⟩
    (repeat (first | exact Below.refl _ _ | refine Below.setCell ?_ (by first | omega | (simp; done) | (simp; omega)) _ | refine Below.alloc ?_ (by first | omega | (simp; done) | (simp; omega)) _ | refine below_drewN ?_ _ | refine Below.drew ?_ | refine Below.trans ?_ (Below.mono (by assumption) (by first | omega | (simp; done) | (simp; omega)))))
  have hm := mostE_bd k1 k2 h3 (by omega)
  obtain ⟨m1, m2, m3, m4⟩ := hm
  have hmn := mn
  rcases Int.lt_or_le 0 (t - b) with h4 | h4
  · obtain ⟨n1, n2⟩ := least_bd k1 k2 h4 (by omega)
    obtain ⟨x, hx⟩ : ∃ x, leastE r (t - b) = x := ⟨_, rfl⟩
    obtain ⟨y, hy⟩ : ∃ y, mostE r (t - a) = y := ⟨_, rfl⟩
    have hx' : (t - b - 1) * (1000000 - r) / 1000000 + 1 = x := by rw [← hx]; unfold leastE; rw [if_pos h4]
    have hx2 : 1 ≤ x ∧ x ≤ 1099511627777 := by omega
    have hy' : ((t - a + 1) * (1000000 + r) - 1) / 1000000 = y := hy
    rw [hy] at m3 m4
    rcases Int.lt_or_le (min y (1099511627776 - l)) x with h5 | h5
    · rw [locF_late h1 h2 h3 hx hy h5]
      clear hx hy
      go_enter Try.func35, Try.ntmps35
      go_wp2_with fail
      (go_at_call 20; refine (check_yes _ _ _ _ _ h1).mono ?_; rintro e w1 ⟨rfl, hb1⟩; have hc1 := (bcell hb1).1; have hf1 := (bcell hb1).2.1; have hs1 := (bcell hb1).2.2; (try simp [go_sem] at hs1); have z1_0 : w.heap.size < w1.heap.size := (by omega); have y1_0 : (w.heap.size = w1.heap.size) = False := eq_false (by omega); have c1_0_0 := hc1 (w.heap.size) 0 (by first | omega | (simp; done) | (simp; omega)); have c1_0_1 := hc1 (w.heap.size) 1 (by first | omega | (simp; done) | (simp; omega)); have c1_0_2 := hc1 (w.heap.size) 2 (by first | omega | (simp; done) | (simp; omega)); have c1_0_3 := hc1 (w.heap.size) 3 (by first | omega | (simp; done) | (simp; omega)); have f1_0 : ∀ i, w1.frozen? ⟨w.heap.size, i, none⟩ = false := fun i => (hf1 (w.heap.size) i (by first | omega | (simp; done) | (simp; omega))).trans (by simp [go_sem, *]); have z1_1 : w.heap.size + 1 < w1.heap.size := (by omega); have y1_1 : (w.heap.size + 1 = w1.heap.size) = False := eq_false (by omega); have c1_1_0 := hc1 (w.heap.size + 1) 0 (by first | omega | (simp; done) | (simp; omega)); have c1_1_1 := hc1 (w.heap.size + 1) 1 (by first | omega | (simp; done) | (simp; omega)); have f1_1 : ∀ i, w1.frozen? ⟨w.heap.size + 1, i, none⟩ = false := fun i => (hf1 (w.heap.size + 1) i (by first | omega | (simp; done) | (simp; omega))).trans (by simp [go_sem, *]); clear hc1 hf1; simp [go_sem, *] at c1_0_0; simp [go_sem, *] at c1_0_1; simp [go_sem, *] at c1_0_2; simp [go_sem, *] at c1_0_3; simp [go_sem, *] at c1_1_0; simp [go_sem, *] at c1_1_1)
      go_wp2_with fail
      (go_at_call 40; refine (isTime_any _ _).mono ?_; rintro e w' ⟨rfl, rfl⟩)
      go_wp2_with fail
      refine wp_region_ext (by kernel_rfl) ?_
      refine wpE_yes (i := 0) rfl (by kernel_rfl) (by kernel_rfl) (by kernel_rfl) (fun _ _ _ _ h => h) (by rfl) ?_; apply Exists.intro; refine ⟨fun w' hw' => ?_, ?_⟩
      · (have hcw := (bcell hw').1; have hfw := (bcell hw').2.1; go_simp; (try simp (disch := omega) only [IntWalk.i64_quo, IntWalk.i64_in, IntWalk.rem_in]); exact calm_value)
      simp only [Act.put, List.setIfInBounds_toArray, List.set_cons_zero, List.set_cons_succ]
      refine wpE_yes (i := 1) rfl (by kernel_rfl) (by kernel_rfl) (by kernel_rfl) (fun _ _ _ _ h => h) (by rfl) ?_; apply Exists.intro; refine ⟨fun w' hw' => ?_, ?_⟩
      · (have hcw := (bcell hw').1; have hfw := (bcell hw').2.1; go_simp; (try simp (disch := omega) only [IntWalk.i64_quo, IntWalk.i64_in, IntWalk.rem_in]); exact calm_value)
      simp only [Act.put, List.setIfInBounds_toArray, List.set_cons_zero, List.set_cons_succ]
      refine wpE_yes (i := 2) rfl (by kernel_rfl) (by kernel_rfl) (by kernel_rfl) (fun _ _ _ _ h => h) (by rfl) ?_; apply Exists.intro; refine ⟨fun w' hw' => ?_, ?_⟩
      · (have hcw := (bcell hw').1; have hfw := (bcell hw').2.1; go_simp; (try simp (disch := omega) only [IntWalk.i64_quo, IntWalk.i64_in, IntWalk.rem_in]); exact calm_value)
      simp only [Act.put, List.setIfInBounds_toArray, List.set_cons_zero, List.set_cons_succ]
      refine wpE_yes (i := 3) rfl (by kernel_rfl) (by kernel_rfl) (by kernel_rfl) (fun _ _ _ _ h => h) (by rfl) ?_; apply Exists.intro; refine ⟨fun w' hw' => ?_, ?_⟩
      · (have hcw := (bcell hw').1; have hfw := (bcell hw').2.1; go_simp; (try simp (disch := omega) only [IntWalk.i64_quo, IntWalk.i64_in, IntWalk.rem_in]); exact calm_value)
      simp only [Act.put, List.setIfInBounds_toArray, List.set_cons_zero, List.set_cons_succ]
      refine wpE_yes (i := 4) rfl (by kernel_rfl) (by kernel_rfl) (by kernel_rfl) (fun _ _ _ _ h => h) (by rfl) ?_; apply Exists.intro; refine ⟨fun w' hw' => ?_, ?_⟩
      · (have hcw := (bcell hw').1; have hfw := (bcell hw').2.1; go_simp; (try simp (disch := omega) only [IntWalk.i64_quo, IntWalk.i64_in, IntWalk.rem_in]); exact calm_value)
      simp only [Act.put, List.setIfInBounds_toArray, List.set_cons_zero, List.set_cons_succ]
      refine wpE_yes (i := 5) rfl (by kernel_rfl) (by kernel_rfl) (by kernel_rfl) (fun _ _ _ _ h => h) (by rfl) ?_; apply Exists.intro; refine ⟨fun w' hw' => ?_, ?_⟩
      · (have hcw := (bcell hw').1; have hfw := (bcell hw').2.1; go_simp; (try simp (disch := omega) only [IntWalk.i64_quo, IntWalk.i64_in, IntWalk.rem_in]); exact calm_value)
      simp only [Act.put, List.setIfInBounds_toArray, List.set_cons_zero, List.set_cons_succ]
      refine wpE_yes (i := 6) rfl (by kernel_rfl) (by kernel_rfl) (by kernel_rfl) (fun _ _ _ _ h => h) (by rfl) ?_; apply Exists.intro; refine ⟨fun w' hw' => ?_, ?_⟩
      · (have hcw := (bcell hw').1; have hfw := (bcell hw').2.1; go_simp; (try simp (disch := omega) only [IntWalk.i64_quo, IntWalk.i64_in, IntWalk.rem_in]); exact calm_value)
      simp only [Act.put, List.setIfInBounds_toArray, List.set_cons_zero, List.set_cons_succ]
      refine wpE_yes (i := 7) rfl (by kernel_rfl) (by kernel_rfl) (by kernel_rfl) (fun _ _ _ _ h => h) (by rfl) ?_; apply Exists.intro; refine ⟨fun w' hw' => ?_, ?_⟩
      · (have hcw := (bcell hw').1; have hfw := (bcell hw').2.1; go_simp; (try simp (disch := omega) only [IntWalk.i64_quo, IntWalk.i64_in, IntWalk.rem_in]); exact calm_value)
      simp only [Act.put, List.setIfInBounds_toArray, List.set_cons_zero, List.set_cons_succ]
      refine wpE_yes (i := 8) rfl (by kernel_rfl) (by kernel_rfl) (by kernel_rfl) (fun _ _ _ _ h => h) (by rfl) ?_; apply Exists.intro; refine ⟨fun w' hw' => ?_, ?_⟩
      · (have hcw := (bcell hw').1; have hfw := (bcell hw').2.1; go_simp; (try simp (disch := omega) only [IntWalk.i64_quo, IntWalk.i64_in, IntWalk.rem_in]); exact calm_value)
      simp only [Act.put, List.setIfInBounds_toArray, List.set_cons_zero, List.set_cons_succ]
      refine wpE_yes (i := 9) rfl (by kernel_rfl) (by kernel_rfl) (by kernel_rfl) (fun _ _ _ _ h => h) (by rfl) ?_; apply Exists.intro; refine ⟨fun w' hw' => ?_, ?_⟩
      · (have hcw := (bcell hw').1; have hfw := (bcell hw').2.1; go_simp; (try simp (disch := omega) only [IntWalk.i64_quo, IntWalk.i64_in, IntWalk.rem_in]); exact calm_value)
      simp only [Act.put, List.setIfInBounds_toArray, List.set_cons_zero, List.set_cons_succ]
      refine wpE_yes (i := 10) rfl (by kernel_rfl) (by kernel_rfl) (by kernel_rfl) (fun _ _ _ _ h => h) (by rfl) ?_; apply Exists.intro; refine ⟨fun w' hw' => ?_, ?_⟩
      · (have hcw := (bcell hw').1; have hfw := (bcell hw').2.1; go_simp; (try simp (disch := omega) only [IntWalk.i64_quo, IntWalk.i64_in, IntWalk.rem_in]); exact calm_value)
      simp only [Act.put, List.setIfInBounds_toArray, List.set_cons_zero, List.set_cons_succ]
      refine wpE_yes (i := 11) rfl (by kernel_rfl) (by kernel_rfl) (by kernel_rfl) (fun _ _ _ _ h => h) (by rfl) ?_; apply Exists.intro; refine ⟨fun w' hw' => ?_, ?_⟩
      · (have hcw := (bcell hw').1; have hfw := (bcell hw').2.1; go_simp; (try simp (disch := omega) only [IntWalk.i64_quo, IntWalk.i64_in, IntWalk.rem_in]); exact calm_value)
      simp only [Act.put, List.setIfInBounds_toArray, List.set_cons_zero, List.set_cons_succ]
      refine wpE_done (by kernel_rfl) (fun w2 hb2 hC2 => ?_) _
      (have hc2 := (bcell hb2).1; have hf2 := (bcell hb2).2.1; have hs2 := (bcell hb2).2.2; (try simp [go_sem] at hs2); have z2_0 : w.heap.size < w2.heap.size := (by omega); have y2_0 : (w.heap.size = w2.heap.size) = False := eq_false (by omega); have c2_0_0 := hc2 (w.heap.size) 0 (by first | omega | (simp; done) | (simp; omega)); have c2_0_1 := hc2 (w.heap.size) 1 (by first | omega | (simp; done) | (simp; omega)); have c2_0_2 := hc2 (w.heap.size) 2 (by first | omega | (simp; done) | (simp; omega)); have c2_0_3 := hc2 (w.heap.size) 3 (by first | omega | (simp; done) | (simp; omega)); have f2_0 : ∀ i, w2.frozen? ⟨w.heap.size, i, none⟩ = false := fun i => (hf2 (w.heap.size) i (by first | omega | (simp; done) | (simp; omega))).trans (by simp [go_sem, *]); have z2_1 : w.heap.size + 1 < w2.heap.size := (by omega); have y2_1 : (w.heap.size + 1 = w2.heap.size) = False := eq_false (by omega); have c2_1_0 := hc2 (w.heap.size + 1) 0 (by first | omega | (simp; done) | (simp; omega)); have c2_1_1 := hc2 (w.heap.size + 1) 1 (by first | omega | (simp; done) | (simp; omega)); have f2_1 : ∀ i, w2.frozen? ⟨w.heap.size + 1, i, none⟩ = false := fun i => (hf2 (w.heap.size + 1) i (by first | omega | (simp; done) | (simp; omega))).trans (by simp [go_sem, *]); clear hc2 hf2; simp [go_sem, *] at c2_0_0; simp [go_sem, *] at c2_0_1; simp [go_sem, *] at c2_0_2; simp [go_sem, *] at c2_0_3; simp [go_sem, *] at c2_1_0; simp [go_sem, *] at c2_1_1; (try clear y1_0 f1_0 c1_0_0 c1_0_1 c1_0_2 c1_0_3 y1_1 f1_1 c1_1_0 c1_1_1))
      clear hC2
      go_wp2_with fail
      refine wp_region_ext (by kernel_rfl) ?_
      refine wpE_yes (i := 0) rfl (by kernel_rfl) (by kernel_rfl) (by kernel_rfl) (fun _ _ _ _ h => h) (by rfl) ?_; apply Exists.intro; refine ⟨fun w' hw' => ?_, ?_⟩
      · (have hcw := (bcell hw').1; have hfw := (bcell hw').2.1; go_simp; (try simp (disch := omega) only [IntWalk.i64_quo, IntWalk.i64_in, IntWalk.rem_in]); exact calm_value)
      simp only [Act.put, List.setIfInBounds_toArray, List.set_cons_zero, List.set_cons_succ]
      refine wpE_yes (i := 1) rfl (by kernel_rfl) (by kernel_rfl) (by kernel_rfl) (fun _ _ _ _ h => h) (by rfl) ?_; apply Exists.intro; refine ⟨fun w' hw' => ?_, ?_⟩
      · (have hcw := (bcell hw').1; have hfw := (bcell hw').2.1; go_simp; (try simp (disch := omega) only [IntWalk.i64_quo, IntWalk.i64_in, IntWalk.rem_in]); exact calm_value)
      simp only [Act.put, List.setIfInBounds_toArray, List.set_cons_zero, List.set_cons_succ]
      refine wpE_yes (i := 2) rfl (by kernel_rfl) (by kernel_rfl) (by kernel_rfl) (fun _ _ _ _ h => h) (by rfl) ?_; apply Exists.intro; refine ⟨fun w' hw' => ?_, ?_⟩
      · (have hcw := (bcell hw').1; have hfw := (bcell hw').2.1; go_simp; (try simp (disch := omega) only [IntWalk.i64_quo, IntWalk.i64_in, IntWalk.rem_in]); exact calm_value)
      simp only [Act.put, List.setIfInBounds_toArray, List.set_cons_zero, List.set_cons_succ]
      refine wpE_yes (i := 3) rfl (by kernel_rfl) (by kernel_rfl) (by kernel_rfl) (fun _ _ _ _ h => h) (by rfl) ?_; apply Exists.intro; refine ⟨fun w' hw' => ?_, ?_⟩
      · (have hcw := (bcell hw').1; have hfw := (bcell hw').2.1; go_simp; (try simp (disch := omega) only [IntWalk.i64_quo, IntWalk.i64_in, IntWalk.rem_in]); exact calm_value)
      simp only [Act.put, List.setIfInBounds_toArray, List.set_cons_zero, List.set_cons_succ]
      refine wpE_yes (i := 4) rfl (by kernel_rfl) (by kernel_rfl) (by kernel_rfl) (fun _ _ _ _ h => h) (by rfl) ?_; apply Exists.intro; refine ⟨fun w' hw' => ?_, ?_⟩
      · (have hcw := (bcell hw').1; have hfw := (bcell hw').2.1; go_simp; (try simp (disch := omega) only [IntWalk.i64_quo, IntWalk.i64_in, IntWalk.rem_in]); exact calm_value)
      simp only [Act.put, List.setIfInBounds_toArray, List.set_cons_zero, List.set_cons_succ]
      refine wpE_yes (i := 5) rfl (by kernel_rfl) (by kernel_rfl) (by kernel_rfl) (fun _ _ _ _ h => h) (by rfl) ?_; apply Exists.intro; refine ⟨fun w' hw' => ?_, ?_⟩
      · (have hcw := (bcell hw').1; have hfw := (bcell hw').2.1; go_simp; (try simp (disch := omega) only [IntWalk.i64_quo, IntWalk.i64_in, IntWalk.rem_in]); exact calm_value)
      simp only [Act.put, List.setIfInBounds_toArray, List.set_cons_zero, List.set_cons_succ]
      refine wpE_yes (i := 6) rfl (by kernel_rfl) (by kernel_rfl) (by kernel_rfl) (fun _ _ _ _ h => h) (by rfl) ?_; apply Exists.intro; refine ⟨fun w' hw' => ?_, ?_⟩
      · (have hcw := (bcell hw').1; have hfw := (bcell hw').2.1; go_simp; (try simp (disch := omega) only [IntWalk.i64_quo, IntWalk.i64_in, IntWalk.rem_in]); exact calm_value)
      simp only [Act.put, List.setIfInBounds_toArray, List.set_cons_zero, List.set_cons_succ]
      refine wpE_yes (i := 7) rfl (by kernel_rfl) (by kernel_rfl) (by kernel_rfl) (fun _ _ _ _ h => h) (by rfl) ?_; apply Exists.intro; refine ⟨fun w' hw' => ?_, ?_⟩
      · (have hcw := (bcell hw').1; have hfw := (bcell hw').2.1; go_simp; (try simp (disch := omega) only [IntWalk.i64_quo, IntWalk.i64_in, IntWalk.rem_in]); exact calm_value)
      simp only [Act.put, List.setIfInBounds_toArray, List.set_cons_zero, List.set_cons_succ]
      refine wpE_yes (i := 8) rfl (by kernel_rfl) (by kernel_rfl) (by kernel_rfl) (fun _ _ _ _ h => h) (by rfl) ?_; apply Exists.intro; refine ⟨fun w' hw' => ?_, ?_⟩
      · (have hcw := (bcell hw').1; have hfw := (bcell hw').2.1; go_simp; (try simp (disch := omega) only [IntWalk.i64_quo, IntWalk.i64_in, IntWalk.rem_in]); exact calm_value)
      simp only [Act.put, List.setIfInBounds_toArray, List.set_cons_zero, List.set_cons_succ]
      refine wpE_yes (i := 9) rfl (by kernel_rfl) (by kernel_rfl) (by kernel_rfl) (fun _ _ _ _ h => h) (by rfl) ?_; apply Exists.intro; refine ⟨fun w' hw' => ?_, ?_⟩
      · (have hcw := (bcell hw').1; have hfw := (bcell hw').2.1; go_simp; (try simp (disch := omega) only [IntWalk.i64_quo, IntWalk.i64_in, IntWalk.rem_in]); exact calm_value)
      simp only [Act.put, List.setIfInBounds_toArray, List.set_cons_zero, List.set_cons_succ]
      refine wpE_done (by kernel_rfl) (fun w3 hb3 hC3 => ?_) _
      (have hc3 := (bcell hb3).1; have hf3 := (bcell hb3).2.1; have hs3 := (bcell hb3).2.2; (try simp [go_sem] at hs3); have z3_0 : w.heap.size < w3.heap.size := (by omega); have y3_0 : (w.heap.size = w3.heap.size) = False := eq_false (by omega); have c3_0_0 := hc3 (w.heap.size) 0 (by first | omega | (simp; done) | (simp; omega)); have c3_0_1 := hc3 (w.heap.size) 1 (by first | omega | (simp; done) | (simp; omega)); have c3_0_2 := hc3 (w.heap.size) 2 (by first | omega | (simp; done) | (simp; omega)); have c3_0_3 := hc3 (w.heap.size) 3 (by first | omega | (simp; done) | (simp; omega)); have f3_0 : ∀ i, w3.frozen? ⟨w.heap.size, i, none⟩ = false := fun i => (hf3 (w.heap.size) i (by first | omega | (simp; done) | (simp; omega))).trans (by simp [go_sem, *]); have z3_1 : w.heap.size + 1 < w3.heap.size := (by omega); have y3_1 : (w.heap.size + 1 = w3.heap.size) = False := eq_false (by omega); have c3_1_0 := hc3 (w.heap.size + 1) 0 (by first | omega | (simp; done) | (simp; omega)); have c3_1_1 := hc3 (w.heap.size + 1) 1 (by first | omega | (simp; done) | (simp; omega)); have f3_1 : ∀ i, w3.frozen? ⟨w.heap.size + 1, i, none⟩ = false := fun i => (hf3 (w.heap.size + 1) i (by first | omega | (simp; done) | (simp; omega))).trans (by simp [go_sem, *]); clear hc3 hf3; simp [go_sem, *] at c3_0_0; simp [go_sem, *] at c3_0_1; simp [go_sem, *] at c3_0_2; simp [go_sem, *] at c3_0_3; simp [go_sem, *] at c3_1_0; simp [go_sem, *] at c3_1_1; (try clear y2_0 f2_0 c2_0_0 c2_0_1 c2_0_2 c2_0_3 y2_1 f2_1 c2_1_0 c2_1_1))
      clear hC3
      go_wp2
      refine bodyPost_ret (v := .tuple #[sp 0 0, .int .i64 16]) (by simp [results, Try.results35, go_sem, *]) rfl ⟨rfl, ?_⟩
      (repeat (first | exact Below.refl _ _ | refine Below.setCell ?_ (by first | omega | (simp; done) | (simp; omega)) _ | refine Below.alloc ?_ (by first | omega | (simp; done) | (simp; omega)) _ | refine below_drewN ?_ _ | refine Below.drew ?_ | refine Below.trans ?_ (Below.mono (by assumption) (by first | omega | (simp; done) | (simp; omega)))))
    · rw [locF_ok h1 h2 h3 hx hy h5]
      clear hx hy
      go_enter Try.func35, Try.ntmps35
      go_wp2_with fail
      (go_at_call 20; refine (check_yes _ _ _ _ _ h1).mono ?_; rintro e w1 ⟨rfl, hb1⟩; have hc1 := (bcell hb1).1; have hf1 := (bcell hb1).2.1; have hs1 := (bcell hb1).2.2; (try simp [go_sem] at hs1); have z1_0 : w.heap.size < w1.heap.size := (by omega); have y1_0 : (w.heap.size = w1.heap.size) = False := eq_false (by omega); have c1_0_0 := hc1 (w.heap.size) 0 (by first | omega | (simp; done) | (simp; omega)); have c1_0_1 := hc1 (w.heap.size) 1 (by first | omega | (simp; done) | (simp; omega)); have c1_0_2 := hc1 (w.heap.size) 2 (by first | omega | (simp; done) | (simp; omega)); have c1_0_3 := hc1 (w.heap.size) 3 (by first | omega | (simp; done) | (simp; omega)); have f1_0 : ∀ i, w1.frozen? ⟨w.heap.size, i, none⟩ = false := fun i => (hf1 (w.heap.size) i (by first | omega | (simp; done) | (simp; omega))).trans (by simp [go_sem, *]); have z1_1 : w.heap.size + 1 < w1.heap.size := (by omega); have y1_1 : (w.heap.size + 1 = w1.heap.size) = False := eq_false (by omega); have c1_1_0 := hc1 (w.heap.size + 1) 0 (by first | omega | (simp; done) | (simp; omega)); have c1_1_1 := hc1 (w.heap.size + 1) 1 (by first | omega | (simp; done) | (simp; omega)); have f1_1 : ∀ i, w1.frozen? ⟨w.heap.size + 1, i, none⟩ = false := fun i => (hf1 (w.heap.size + 1) i (by first | omega | (simp; done) | (simp; omega))).trans (by simp [go_sem, *]); clear hc1 hf1; simp [go_sem, *] at c1_0_0; simp [go_sem, *] at c1_0_1; simp [go_sem, *] at c1_0_2; simp [go_sem, *] at c1_0_3; simp [go_sem, *] at c1_1_0; simp [go_sem, *] at c1_1_1)
      go_wp2_with fail
      (go_at_call 40; refine (isTime_any _ _).mono ?_; rintro e w' ⟨rfl, rfl⟩)
      go_wp2_with fail
      refine wp_region_ext (by kernel_rfl) ?_
      refine wpE_yes (i := 0) rfl (by kernel_rfl) (by kernel_rfl) (by kernel_rfl) (fun _ _ _ _ h => h) (by rfl) ?_; apply Exists.intro; refine ⟨fun w' hw' => ?_, ?_⟩
      · (have hcw := (bcell hw').1; have hfw := (bcell hw').2.1; go_simp; (try simp (disch := omega) only [IntWalk.i64_quo, IntWalk.i64_in, IntWalk.rem_in]); exact calm_value)
      simp only [Act.put, List.setIfInBounds_toArray, List.set_cons_zero, List.set_cons_succ]
      refine wpE_yes (i := 1) rfl (by kernel_rfl) (by kernel_rfl) (by kernel_rfl) (fun _ _ _ _ h => h) (by rfl) ?_; apply Exists.intro; refine ⟨fun w' hw' => ?_, ?_⟩
      · (have hcw := (bcell hw').1; have hfw := (bcell hw').2.1; go_simp; (try simp (disch := omega) only [IntWalk.i64_quo, IntWalk.i64_in, IntWalk.rem_in]); exact calm_value)
      simp only [Act.put, List.setIfInBounds_toArray, List.set_cons_zero, List.set_cons_succ]
      refine wpE_yes (i := 2) rfl (by kernel_rfl) (by kernel_rfl) (by kernel_rfl) (fun _ _ _ _ h => h) (by rfl) ?_; apply Exists.intro; refine ⟨fun w' hw' => ?_, ?_⟩
      · (have hcw := (bcell hw').1; have hfw := (bcell hw').2.1; go_simp; (try simp (disch := omega) only [IntWalk.i64_quo, IntWalk.i64_in, IntWalk.rem_in]); exact calm_value)
      simp only [Act.put, List.setIfInBounds_toArray, List.set_cons_zero, List.set_cons_succ]
      refine wpE_yes (i := 3) rfl (by kernel_rfl) (by kernel_rfl) (by kernel_rfl) (fun _ _ _ _ h => h) (by rfl) ?_; apply Exists.intro; refine ⟨fun w' hw' => ?_, ?_⟩
      · (have hcw := (bcell hw').1; have hfw := (bcell hw').2.1; go_simp; (try simp (disch := omega) only [IntWalk.i64_quo, IntWalk.i64_in, IntWalk.rem_in]); exact calm_value)
      simp only [Act.put, List.setIfInBounds_toArray, List.set_cons_zero, List.set_cons_succ]
      refine wpE_yes (i := 4) rfl (by kernel_rfl) (by kernel_rfl) (by kernel_rfl) (fun _ _ _ _ h => h) (by rfl) ?_; apply Exists.intro; refine ⟨fun w' hw' => ?_, ?_⟩
      · (have hcw := (bcell hw').1; have hfw := (bcell hw').2.1; go_simp; (try simp (disch := omega) only [IntWalk.i64_quo, IntWalk.i64_in, IntWalk.rem_in]); exact calm_value)
      simp only [Act.put, List.setIfInBounds_toArray, List.set_cons_zero, List.set_cons_succ]
      refine wpE_yes (i := 5) rfl (by kernel_rfl) (by kernel_rfl) (by kernel_rfl) (fun _ _ _ _ h => h) (by rfl) ?_; apply Exists.intro; refine ⟨fun w' hw' => ?_, ?_⟩
      · (have hcw := (bcell hw').1; have hfw := (bcell hw').2.1; go_simp; (try simp (disch := omega) only [IntWalk.i64_quo, IntWalk.i64_in, IntWalk.rem_in]); exact calm_value)
      simp only [Act.put, List.setIfInBounds_toArray, List.set_cons_zero, List.set_cons_succ]
      refine wpE_yes (i := 6) rfl (by kernel_rfl) (by kernel_rfl) (by kernel_rfl) (fun _ _ _ _ h => h) (by rfl) ?_; apply Exists.intro; refine ⟨fun w' hw' => ?_, ?_⟩
      · (have hcw := (bcell hw').1; have hfw := (bcell hw').2.1; go_simp; (try simp (disch := omega) only [IntWalk.i64_quo, IntWalk.i64_in, IntWalk.rem_in]); exact calm_value)
      simp only [Act.put, List.setIfInBounds_toArray, List.set_cons_zero, List.set_cons_succ]
      refine wpE_yes (i := 7) rfl (by kernel_rfl) (by kernel_rfl) (by kernel_rfl) (fun _ _ _ _ h => h) (by rfl) ?_; apply Exists.intro; refine ⟨fun w' hw' => ?_, ?_⟩
      · (have hcw := (bcell hw').1; have hfw := (bcell hw').2.1; go_simp; (try simp (disch := omega) only [IntWalk.i64_quo, IntWalk.i64_in, IntWalk.rem_in]); exact calm_value)
      simp only [Act.put, List.setIfInBounds_toArray, List.set_cons_zero, List.set_cons_succ]
      refine wpE_yes (i := 8) rfl (by kernel_rfl) (by kernel_rfl) (by kernel_rfl) (fun _ _ _ _ h => h) (by rfl) ?_; apply Exists.intro; refine ⟨fun w' hw' => ?_, ?_⟩
      · (have hcw := (bcell hw').1; have hfw := (bcell hw').2.1; go_simp; (try simp (disch := omega) only [IntWalk.i64_quo, IntWalk.i64_in, IntWalk.rem_in]); exact calm_value)
      simp only [Act.put, List.setIfInBounds_toArray, List.set_cons_zero, List.set_cons_succ]
      refine wpE_yes (i := 9) rfl (by kernel_rfl) (by kernel_rfl) (by kernel_rfl) (fun _ _ _ _ h => h) (by rfl) ?_; apply Exists.intro; refine ⟨fun w' hw' => ?_, ?_⟩
      · (have hcw := (bcell hw').1; have hfw := (bcell hw').2.1; go_simp; (try simp (disch := omega) only [IntWalk.i64_quo, IntWalk.i64_in, IntWalk.rem_in]); exact calm_value)
      simp only [Act.put, List.setIfInBounds_toArray, List.set_cons_zero, List.set_cons_succ]
      refine wpE_yes (i := 10) rfl (by kernel_rfl) (by kernel_rfl) (by kernel_rfl) (fun _ _ _ _ h => h) (by rfl) ?_; apply Exists.intro; refine ⟨fun w' hw' => ?_, ?_⟩
      · (have hcw := (bcell hw').1; have hfw := (bcell hw').2.1; go_simp; (try simp (disch := omega) only [IntWalk.i64_quo, IntWalk.i64_in, IntWalk.rem_in]); exact calm_value)
      simp only [Act.put, List.setIfInBounds_toArray, List.set_cons_zero, List.set_cons_succ]
      refine wpE_yes (i := 11) rfl (by kernel_rfl) (by kernel_rfl) (by kernel_rfl) (fun _ _ _ _ h => h) (by rfl) ?_; apply Exists.intro; refine ⟨fun w' hw' => ?_, ?_⟩
      · (have hcw := (bcell hw').1; have hfw := (bcell hw').2.1; go_simp; (try simp (disch := omega) only [IntWalk.i64_quo, IntWalk.i64_in, IntWalk.rem_in]); exact calm_value)
      simp only [Act.put, List.setIfInBounds_toArray, List.set_cons_zero, List.set_cons_succ]
      refine wpE_done (by kernel_rfl) (fun w2 hb2 hC2 => ?_) _
      (have hc2 := (bcell hb2).1; have hf2 := (bcell hb2).2.1; have hs2 := (bcell hb2).2.2; (try simp [go_sem] at hs2); have z2_0 : w.heap.size < w2.heap.size := (by omega); have y2_0 : (w.heap.size = w2.heap.size) = False := eq_false (by omega); have c2_0_0 := hc2 (w.heap.size) 0 (by first | omega | (simp; done) | (simp; omega)); have c2_0_1 := hc2 (w.heap.size) 1 (by first | omega | (simp; done) | (simp; omega)); have c2_0_2 := hc2 (w.heap.size) 2 (by first | omega | (simp; done) | (simp; omega)); have c2_0_3 := hc2 (w.heap.size) 3 (by first | omega | (simp; done) | (simp; omega)); have f2_0 : ∀ i, w2.frozen? ⟨w.heap.size, i, none⟩ = false := fun i => (hf2 (w.heap.size) i (by first | omega | (simp; done) | (simp; omega))).trans (by simp [go_sem, *]); have z2_1 : w.heap.size + 1 < w2.heap.size := (by omega); have y2_1 : (w.heap.size + 1 = w2.heap.size) = False := eq_false (by omega); have c2_1_0 := hc2 (w.heap.size + 1) 0 (by first | omega | (simp; done) | (simp; omega)); have c2_1_1 := hc2 (w.heap.size + 1) 1 (by first | omega | (simp; done) | (simp; omega)); have f2_1 : ∀ i, w2.frozen? ⟨w.heap.size + 1, i, none⟩ = false := fun i => (hf2 (w.heap.size + 1) i (by first | omega | (simp; done) | (simp; omega))).trans (by simp [go_sem, *]); clear hc2 hf2; simp [go_sem, *] at c2_0_0; simp [go_sem, *] at c2_0_1; simp [go_sem, *] at c2_0_2; simp [go_sem, *] at c2_0_3; simp [go_sem, *] at c2_1_0; simp [go_sem, *] at c2_1_1; (try clear y1_0 f1_0 c1_0_0 c1_0_1 c1_0_2 c1_0_3 y1_1 f1_1 c1_1_0 c1_1_1))
      clear hC2
      go_wp2_with fail
      refine wp_region_ext (by kernel_rfl) ?_
      refine wpE_yes (i := 0) rfl (by kernel_rfl) (by kernel_rfl) (by kernel_rfl) (fun _ _ _ _ h => h) (by rfl) ?_; apply Exists.intro; refine ⟨fun w' hw' => ?_, ?_⟩
      · (have hcw := (bcell hw').1; have hfw := (bcell hw').2.1; go_simp; (try simp (disch := omega) only [IntWalk.i64_quo, IntWalk.i64_in, IntWalk.rem_in]); exact calm_value)
      simp only [Act.put, List.setIfInBounds_toArray, List.set_cons_zero, List.set_cons_succ]
      refine wpE_yes (i := 1) rfl (by kernel_rfl) (by kernel_rfl) (by kernel_rfl) (fun _ _ _ _ h => h) (by rfl) ?_; apply Exists.intro; refine ⟨fun w' hw' => ?_, ?_⟩
      · (have hcw := (bcell hw').1; have hfw := (bcell hw').2.1; go_simp; (try simp (disch := omega) only [IntWalk.i64_quo, IntWalk.i64_in, IntWalk.rem_in]); exact calm_value)
      simp only [Act.put, List.setIfInBounds_toArray, List.set_cons_zero, List.set_cons_succ]
      refine wpE_yes (i := 2) rfl (by kernel_rfl) (by kernel_rfl) (by kernel_rfl) (fun _ _ _ _ h => h) (by rfl) ?_; apply Exists.intro; refine ⟨fun w' hw' => ?_, ?_⟩
      · (have hcw := (bcell hw').1; have hfw := (bcell hw').2.1; go_simp; (try simp (disch := omega) only [IntWalk.i64_quo, IntWalk.i64_in, IntWalk.rem_in]); exact calm_value)
      simp only [Act.put, List.setIfInBounds_toArray, List.set_cons_zero, List.set_cons_succ]
      refine wpE_yes (i := 3) rfl (by kernel_rfl) (by kernel_rfl) (by kernel_rfl) (fun _ _ _ _ h => h) (by rfl) ?_; apply Exists.intro; refine ⟨fun w' hw' => ?_, ?_⟩
      · (have hcw := (bcell hw').1; have hfw := (bcell hw').2.1; go_simp; (try simp (disch := omega) only [IntWalk.i64_quo, IntWalk.i64_in, IntWalk.rem_in]); exact calm_value)
      simp only [Act.put, List.setIfInBounds_toArray, List.set_cons_zero, List.set_cons_succ]
      refine wpE_yes (i := 4) rfl (by kernel_rfl) (by kernel_rfl) (by kernel_rfl) (fun _ _ _ _ h => h) (by rfl) ?_; apply Exists.intro; refine ⟨fun w' hw' => ?_, ?_⟩
      · (have hcw := (bcell hw').1; have hfw := (bcell hw').2.1; go_simp; (try simp (disch := omega) only [IntWalk.i64_quo, IntWalk.i64_in, IntWalk.rem_in]); exact calm_value)
      simp only [Act.put, List.setIfInBounds_toArray, List.set_cons_zero, List.set_cons_succ]
      refine wpE_yes (i := 5) rfl (by kernel_rfl) (by kernel_rfl) (by kernel_rfl) (fun _ _ _ _ h => h) (by rfl) ?_; apply Exists.intro; refine ⟨fun w' hw' => ?_, ?_⟩
      · (have hcw := (bcell hw').1; have hfw := (bcell hw').2.1; go_simp; (try simp (disch := omega) only [IntWalk.i64_quo, IntWalk.i64_in, IntWalk.rem_in]); exact calm_value)
      simp only [Act.put, List.setIfInBounds_toArray, List.set_cons_zero, List.set_cons_succ]
      refine wpE_yes (i := 6) rfl (by kernel_rfl) (by kernel_rfl) (by kernel_rfl) (fun _ _ _ _ h => h) (by rfl) ?_; apply Exists.intro; refine ⟨fun w' hw' => ?_, ?_⟩
      · (have hcw := (bcell hw').1; have hfw := (bcell hw').2.1; go_simp; (try simp (disch := omega) only [IntWalk.i64_quo, IntWalk.i64_in, IntWalk.rem_in]); exact calm_value)
      simp only [Act.put, List.setIfInBounds_toArray, List.set_cons_zero, List.set_cons_succ]
      refine wpE_yes (i := 7) rfl (by kernel_rfl) (by kernel_rfl) (by kernel_rfl) (fun _ _ _ _ h => h) (by rfl) ?_; apply Exists.intro; refine ⟨fun w' hw' => ?_, ?_⟩
      · (have hcw := (bcell hw').1; have hfw := (bcell hw').2.1; go_simp; (try simp (disch := omega) only [IntWalk.i64_quo, IntWalk.i64_in, IntWalk.rem_in]); exact calm_value)
      simp only [Act.put, List.setIfInBounds_toArray, List.set_cons_zero, List.set_cons_succ]
      refine wpE_yes (i := 8) rfl (by kernel_rfl) (by kernel_rfl) (by kernel_rfl) (fun _ _ _ _ h => h) (by rfl) ?_; apply Exists.intro; refine ⟨fun w' hw' => ?_, ?_⟩
      · (have hcw := (bcell hw').1; have hfw := (bcell hw').2.1; go_simp; (try simp (disch := omega) only [IntWalk.i64_quo, IntWalk.i64_in, IntWalk.rem_in]); exact calm_value)
      simp only [Act.put, List.setIfInBounds_toArray, List.set_cons_zero, List.set_cons_succ]
      refine wpE_yes (i := 9) rfl (by kernel_rfl) (by kernel_rfl) (by kernel_rfl) (fun _ _ _ _ h => h) (by rfl) ?_; apply Exists.intro; refine ⟨fun w' hw' => ?_, ?_⟩
      · (have hcw := (bcell hw').1; have hfw := (bcell hw').2.1; go_simp; (try simp (disch := omega) only [IntWalk.i64_quo, IntWalk.i64_in, IntWalk.rem_in]); exact calm_value)
      simp only [Act.put, List.setIfInBounds_toArray, List.set_cons_zero, List.set_cons_succ]
      refine wpE_done (by kernel_rfl) (fun w3 hb3 hC3 => ?_) _
      (have hc3 := (bcell hb3).1; have hf3 := (bcell hb3).2.1; have hs3 := (bcell hb3).2.2; (try simp [go_sem] at hs3); have z3_0 : w.heap.size < w3.heap.size := (by omega); have y3_0 : (w.heap.size = w3.heap.size) = False := eq_false (by omega); have c3_0_0 := hc3 (w.heap.size) 0 (by first | omega | (simp; done) | (simp; omega)); have c3_0_1 := hc3 (w.heap.size) 1 (by first | omega | (simp; done) | (simp; omega)); have c3_0_2 := hc3 (w.heap.size) 2 (by first | omega | (simp; done) | (simp; omega)); have c3_0_3 := hc3 (w.heap.size) 3 (by first | omega | (simp; done) | (simp; omega)); have f3_0 : ∀ i, w3.frozen? ⟨w.heap.size, i, none⟩ = false := fun i => (hf3 (w.heap.size) i (by first | omega | (simp; done) | (simp; omega))).trans (by simp [go_sem, *]); have z3_1 : w.heap.size + 1 < w3.heap.size := (by omega); have y3_1 : (w.heap.size + 1 = w3.heap.size) = False := eq_false (by omega); have c3_1_0 := hc3 (w.heap.size + 1) 0 (by first | omega | (simp; done) | (simp; omega)); have c3_1_1 := hc3 (w.heap.size + 1) 1 (by first | omega | (simp; done) | (simp; omega)); have f3_1 : ∀ i, w3.frozen? ⟨w.heap.size + 1, i, none⟩ = false := fun i => (hf3 (w.heap.size + 1) i (by first | omega | (simp; done) | (simp; omega))).trans (by simp [go_sem, *]); clear hc3 hf3; simp [go_sem, *] at c3_0_0; simp [go_sem, *] at c3_0_1; simp [go_sem, *] at c3_0_2; simp [go_sem, *] at c3_0_3; simp [go_sem, *] at c3_1_0; simp [go_sem, *] at c3_1_1; (try clear y2_0 f2_0 c2_0_0 c2_0_1 c2_0_2 c2_0_3 y2_1 f2_1 c2_1_0 c2_1_1))
      clear hC3
      go_wp2
      refine bodyPost_ret (v := .tuple #[sp (l + x) (l + min y (1099511627776 - l)), .int .i64 0]) (by simp [results, Try.results35, go_sem, *]) rfl ⟨rfl, ?_⟩
      (repeat (first | exact Below.refl _ _ | refine Below.setCell ?_ (by first | omega | (simp; done) | (simp; omega)) _ | refine Below.alloc ?_ (by first | omega | (simp; done) | (simp; omega)) _ | refine below_drewN ?_ _ | refine Below.drew ?_ | refine Below.trans ?_ (Below.mono (by assumption) (by first | omega | (simp; done) | (simp; omega)))))
  · obtain ⟨x, hx⟩ : ∃ x, leastE r (t - b) = x := ⟨_, rfl⟩
    obtain ⟨y, hy⟩ : ∃ y, mostE r (t - a) = y := ⟨_, rfl⟩
    have hx0 : x = 0 := by rw [← hx]; unfold leastE; rw [if_neg (by omega)]
    subst hx0
    have hy' : ((t - a + 1) * (1000000 + r) - 1) / 1000000 = y := hy
    rw [hy] at m3 m4
    rcases Int.lt_or_le (min y (1099511627776 - l)) 0 with h5 | h5
    · exfalso; omega
    · rw [locF_ok h1 h2 h3 hx hy h5, Int.add_zero]
      clear hx hy
      go_enter Try.func35, Try.ntmps35
      go_wp2_with fail
      (go_at_call 20; refine (check_yes _ _ _ _ _ h1).mono ?_; rintro e w1 ⟨rfl, hb1⟩; have hc1 := (bcell hb1).1; have hf1 := (bcell hb1).2.1; have hs1 := (bcell hb1).2.2; (try simp [go_sem] at hs1); have z1_0 : w.heap.size < w1.heap.size := (by omega); have y1_0 : (w.heap.size = w1.heap.size) = False := eq_false (by omega); have c1_0_0 := hc1 (w.heap.size) 0 (by first | omega | (simp; done) | (simp; omega)); have c1_0_1 := hc1 (w.heap.size) 1 (by first | omega | (simp; done) | (simp; omega)); have c1_0_2 := hc1 (w.heap.size) 2 (by first | omega | (simp; done) | (simp; omega)); have c1_0_3 := hc1 (w.heap.size) 3 (by first | omega | (simp; done) | (simp; omega)); have f1_0 : ∀ i, w1.frozen? ⟨w.heap.size, i, none⟩ = false := fun i => (hf1 (w.heap.size) i (by first | omega | (simp; done) | (simp; omega))).trans (by simp [go_sem, *]); have z1_1 : w.heap.size + 1 < w1.heap.size := (by omega); have y1_1 : (w.heap.size + 1 = w1.heap.size) = False := eq_false (by omega); have c1_1_0 := hc1 (w.heap.size + 1) 0 (by first | omega | (simp; done) | (simp; omega)); have c1_1_1 := hc1 (w.heap.size + 1) 1 (by first | omega | (simp; done) | (simp; omega)); have f1_1 : ∀ i, w1.frozen? ⟨w.heap.size + 1, i, none⟩ = false := fun i => (hf1 (w.heap.size + 1) i (by first | omega | (simp; done) | (simp; omega))).trans (by simp [go_sem, *]); clear hc1 hf1; simp [go_sem, *] at c1_0_0; simp [go_sem, *] at c1_0_1; simp [go_sem, *] at c1_0_2; simp [go_sem, *] at c1_0_3; simp [go_sem, *] at c1_1_0; simp [go_sem, *] at c1_1_1)
      go_wp2_with fail
      (go_at_call 40; refine (isTime_any _ _).mono ?_; rintro e w' ⟨rfl, rfl⟩)
      go_wp2_with fail
      refine wp_region_ext (by kernel_rfl) ?_
      refine wpE_yes (i := 0) rfl (by kernel_rfl) (by kernel_rfl) (by kernel_rfl) (fun _ _ _ _ h => h) (by rfl) ?_; apply Exists.intro; refine ⟨fun w' hw' => ?_, ?_⟩
      · (have hcw := (bcell hw').1; have hfw := (bcell hw').2.1; go_simp; (try simp (disch := omega) only [IntWalk.i64_quo, IntWalk.i64_in, IntWalk.rem_in]); exact calm_value)
      simp only [Act.put, List.setIfInBounds_toArray, List.set_cons_zero, List.set_cons_succ]
      refine wpE_yes (i := 1) rfl (by kernel_rfl) (by kernel_rfl) (by kernel_rfl) (fun _ _ _ _ h => h) (by rfl) ?_; apply Exists.intro; refine ⟨fun w' hw' => ?_, ?_⟩
      · (have hcw := (bcell hw').1; have hfw := (bcell hw').2.1; go_simp; (try simp (disch := omega) only [IntWalk.i64_quo, IntWalk.i64_in, IntWalk.rem_in]); exact calm_value)
      simp only [Act.put, List.setIfInBounds_toArray, List.set_cons_zero, List.set_cons_succ]
      refine wpE_yes (i := 2) rfl (by kernel_rfl) (by kernel_rfl) (by kernel_rfl) (fun _ _ _ _ h => h) (by rfl) ?_; apply Exists.intro; refine ⟨fun w' hw' => ?_, ?_⟩
      · (have hcw := (bcell hw').1; have hfw := (bcell hw').2.1; go_simp; (try simp (disch := omega) only [IntWalk.i64_quo, IntWalk.i64_in, IntWalk.rem_in]); exact calm_value)
      simp only [Act.put, List.setIfInBounds_toArray, List.set_cons_zero, List.set_cons_succ]
      refine wpE_yes (i := 3) rfl (by kernel_rfl) (by kernel_rfl) (by kernel_rfl) (fun _ _ _ _ h => h) (by rfl) ?_; apply Exists.intro; refine ⟨fun w' hw' => ?_, ?_⟩
      · (have hcw := (bcell hw').1; have hfw := (bcell hw').2.1; go_simp; (try simp (disch := omega) only [IntWalk.i64_quo, IntWalk.i64_in, IntWalk.rem_in]); exact calm_value)
      simp only [Act.put, List.setIfInBounds_toArray, List.set_cons_zero, List.set_cons_succ]
      refine wpE_yes (i := 4) rfl (by kernel_rfl) (by kernel_rfl) (by kernel_rfl) (fun _ _ _ _ h => h) (by rfl) ?_; apply Exists.intro; refine ⟨fun w' hw' => ?_, ?_⟩
      · (have hcw := (bcell hw').1; have hfw := (bcell hw').2.1; go_simp; (try simp (disch := omega) only [IntWalk.i64_quo, IntWalk.i64_in, IntWalk.rem_in]); exact calm_value)
      simp only [Act.put, List.setIfInBounds_toArray, List.set_cons_zero, List.set_cons_succ]
      refine wpE_yes (i := 5) rfl (by kernel_rfl) (by kernel_rfl) (by kernel_rfl) (fun _ _ _ _ h => h) (by rfl) ?_; apply Exists.intro; refine ⟨fun w' hw' => ?_, ?_⟩
      · (have hcw := (bcell hw').1; have hfw := (bcell hw').2.1; go_simp; (try simp (disch := omega) only [IntWalk.i64_quo, IntWalk.i64_in, IntWalk.rem_in]); exact calm_value)
      simp only [Act.put, List.setIfInBounds_toArray, List.set_cons_zero, List.set_cons_succ]
      refine wpE_yes (i := 6) rfl (by kernel_rfl) (by kernel_rfl) (by kernel_rfl) (fun _ _ _ _ h => h) (by rfl) ?_; apply Exists.intro; refine ⟨fun w' hw' => ?_, ?_⟩
      · (have hcw := (bcell hw').1; have hfw := (bcell hw').2.1; go_simp; (try simp (disch := omega) only [IntWalk.i64_quo, IntWalk.i64_in, IntWalk.rem_in]); exact calm_value)
      simp only [Act.put, List.setIfInBounds_toArray, List.set_cons_zero, List.set_cons_succ]
      refine wpE_yes (i := 7) rfl (by kernel_rfl) (by kernel_rfl) (by kernel_rfl) (fun _ _ _ _ h => h) (by rfl) ?_; apply Exists.intro; refine ⟨fun w' hw' => ?_, ?_⟩
      · (have hcw := (bcell hw').1; have hfw := (bcell hw').2.1; go_simp; (try simp (disch := omega) only [IntWalk.i64_quo, IntWalk.i64_in, IntWalk.rem_in]); exact calm_value)
      simp only [Act.put, List.setIfInBounds_toArray, List.set_cons_zero, List.set_cons_succ]
      refine wpE_yes (i := 8) rfl (by kernel_rfl) (by kernel_rfl) (by kernel_rfl) (fun _ _ _ _ h => h) (by rfl) ?_; apply Exists.intro; refine ⟨fun w' hw' => ?_, ?_⟩
      · (have hcw := (bcell hw').1; have hfw := (bcell hw').2.1; go_simp; (try simp (disch := omega) only [IntWalk.i64_quo, IntWalk.i64_in, IntWalk.rem_in]); exact calm_value)
      simp only [Act.put, List.setIfInBounds_toArray, List.set_cons_zero, List.set_cons_succ]
      refine wpE_yes (i := 9) rfl (by kernel_rfl) (by kernel_rfl) (by kernel_rfl) (fun _ _ _ _ h => h) (by rfl) ?_; apply Exists.intro; refine ⟨fun w' hw' => ?_, ?_⟩
      · (have hcw := (bcell hw').1; have hfw := (bcell hw').2.1; go_simp; (try simp (disch := omega) only [IntWalk.i64_quo, IntWalk.i64_in, IntWalk.rem_in]); exact calm_value)
      simp only [Act.put, List.setIfInBounds_toArray, List.set_cons_zero, List.set_cons_succ]
      refine wpE_yes (i := 10) rfl (by kernel_rfl) (by kernel_rfl) (by kernel_rfl) (fun _ _ _ _ h => h) (by rfl) ?_; apply Exists.intro; refine ⟨fun w' hw' => ?_, ?_⟩
      · (have hcw := (bcell hw').1; have hfw := (bcell hw').2.1; go_simp; (try simp (disch := omega) only [IntWalk.i64_quo, IntWalk.i64_in, IntWalk.rem_in]); exact calm_value)
      simp only [Act.put, List.setIfInBounds_toArray, List.set_cons_zero, List.set_cons_succ]
      refine wpE_yes (i := 11) rfl (by kernel_rfl) (by kernel_rfl) (by kernel_rfl) (fun _ _ _ _ h => h) (by rfl) ?_; apply Exists.intro; refine ⟨fun w' hw' => ?_, ?_⟩
      · (have hcw := (bcell hw').1; have hfw := (bcell hw').2.1; go_simp; (try simp (disch := omega) only [IntWalk.i64_quo, IntWalk.i64_in, IntWalk.rem_in]); exact calm_value)
      simp only [Act.put, List.setIfInBounds_toArray, List.set_cons_zero, List.set_cons_succ]
      refine wpE_done (by kernel_rfl) (fun w2 hb2 hC2 => ?_) _
      (have hc2 := (bcell hb2).1; have hf2 := (bcell hb2).2.1; have hs2 := (bcell hb2).2.2; (try simp [go_sem] at hs2); have z2_0 : w.heap.size < w2.heap.size := (by omega); have y2_0 : (w.heap.size = w2.heap.size) = False := eq_false (by omega); have c2_0_0 := hc2 (w.heap.size) 0 (by first | omega | (simp; done) | (simp; omega)); have c2_0_1 := hc2 (w.heap.size) 1 (by first | omega | (simp; done) | (simp; omega)); have c2_0_2 := hc2 (w.heap.size) 2 (by first | omega | (simp; done) | (simp; omega)); have c2_0_3 := hc2 (w.heap.size) 3 (by first | omega | (simp; done) | (simp; omega)); have f2_0 : ∀ i, w2.frozen? ⟨w.heap.size, i, none⟩ = false := fun i => (hf2 (w.heap.size) i (by first | omega | (simp; done) | (simp; omega))).trans (by simp [go_sem, *]); have z2_1 : w.heap.size + 1 < w2.heap.size := (by omega); have y2_1 : (w.heap.size + 1 = w2.heap.size) = False := eq_false (by omega); have c2_1_0 := hc2 (w.heap.size + 1) 0 (by first | omega | (simp; done) | (simp; omega)); have c2_1_1 := hc2 (w.heap.size + 1) 1 (by first | omega | (simp; done) | (simp; omega)); have f2_1 : ∀ i, w2.frozen? ⟨w.heap.size + 1, i, none⟩ = false := fun i => (hf2 (w.heap.size + 1) i (by first | omega | (simp; done) | (simp; omega))).trans (by simp [go_sem, *]); clear hc2 hf2; simp [go_sem, *] at c2_0_0; simp [go_sem, *] at c2_0_1; simp [go_sem, *] at c2_0_2; simp [go_sem, *] at c2_0_3; simp [go_sem, *] at c2_1_0; simp [go_sem, *] at c2_1_1; (try clear y1_0 f1_0 c1_0_0 c1_0_1 c1_0_2 c1_0_3 y1_1 f1_1 c1_1_0 c1_1_1))
      clear hC2
      go_wp2_with fail
      refine wp_region_ext (by kernel_rfl) ?_
      refine wpE_yes (i := 0) rfl (by kernel_rfl) (by kernel_rfl) (by kernel_rfl) (fun _ _ _ _ h => h) (by rfl) ?_; apply Exists.intro; refine ⟨fun w' hw' => ?_, ?_⟩
      · (have hcw := (bcell hw').1; have hfw := (bcell hw').2.1; go_simp; (try simp (disch := omega) only [IntWalk.i64_quo, IntWalk.i64_in, IntWalk.rem_in]); exact calm_value)
      simp only [Act.put, List.setIfInBounds_toArray, List.set_cons_zero, List.set_cons_succ]
      refine wpE_yes (i := 1) rfl (by kernel_rfl) (by kernel_rfl) (by kernel_rfl) (fun _ _ _ _ h => h) (by rfl) ?_; apply Exists.intro; refine ⟨fun w' hw' => ?_, ?_⟩
      · (have hcw := (bcell hw').1; have hfw := (bcell hw').2.1; go_simp; (try simp (disch := omega) only [IntWalk.i64_quo, IntWalk.i64_in, IntWalk.rem_in]); exact calm_value)
      simp only [Act.put, List.setIfInBounds_toArray, List.set_cons_zero, List.set_cons_succ]
      refine wpE_yes (i := 2) rfl (by kernel_rfl) (by kernel_rfl) (by kernel_rfl) (fun _ _ _ _ h => h) (by rfl) ?_; apply Exists.intro; refine ⟨fun w' hw' => ?_, ?_⟩
      · (have hcw := (bcell hw').1; have hfw := (bcell hw').2.1; go_simp; (try simp (disch := omega) only [IntWalk.i64_quo, IntWalk.i64_in, IntWalk.rem_in]); exact calm_value)
      simp only [Act.put, List.setIfInBounds_toArray, List.set_cons_zero, List.set_cons_succ]
      refine wpE_yes (i := 3) rfl (by kernel_rfl) (by kernel_rfl) (by kernel_rfl) (fun _ _ _ _ h => h) (by rfl) ?_; apply Exists.intro; refine ⟨fun w' hw' => ?_, ?_⟩
      · (have hcw := (bcell hw').1; have hfw := (bcell hw').2.1; go_simp; (try simp (disch := omega) only [IntWalk.i64_quo, IntWalk.i64_in, IntWalk.rem_in]); exact calm_value)
      simp only [Act.put, List.setIfInBounds_toArray, List.set_cons_zero, List.set_cons_succ]
      refine wpE_yes (i := 4) rfl (by kernel_rfl) (by kernel_rfl) (by kernel_rfl) (fun _ _ _ _ h => h) (by rfl) ?_; apply Exists.intro; refine ⟨fun w' hw' => ?_, ?_⟩
      · (have hcw := (bcell hw').1; have hfw := (bcell hw').2.1; go_simp; (try simp (disch := omega) only [IntWalk.i64_quo, IntWalk.i64_in, IntWalk.rem_in]); exact calm_value)
      simp only [Act.put, List.setIfInBounds_toArray, List.set_cons_zero, List.set_cons_succ]
      refine wpE_yes (i := 5) rfl (by kernel_rfl) (by kernel_rfl) (by kernel_rfl) (fun _ _ _ _ h => h) (by rfl) ?_; apply Exists.intro; refine ⟨fun w' hw' => ?_, ?_⟩
      · (have hcw := (bcell hw').1; have hfw := (bcell hw').2.1; go_simp; (try simp (disch := omega) only [IntWalk.i64_quo, IntWalk.i64_in, IntWalk.rem_in]); exact calm_value)
      simp only [Act.put, List.setIfInBounds_toArray, List.set_cons_zero, List.set_cons_succ]
      refine wpE_yes (i := 6) rfl (by kernel_rfl) (by kernel_rfl) (by kernel_rfl) (fun _ _ _ _ h => h) (by rfl) ?_; apply Exists.intro; refine ⟨fun w' hw' => ?_, ?_⟩
      · (have hcw := (bcell hw').1; have hfw := (bcell hw').2.1; go_simp; (try simp (disch := omega) only [IntWalk.i64_quo, IntWalk.i64_in, IntWalk.rem_in]); exact calm_value)
      simp only [Act.put, List.setIfInBounds_toArray, List.set_cons_zero, List.set_cons_succ]
      refine wpE_yes (i := 7) rfl (by kernel_rfl) (by kernel_rfl) (by kernel_rfl) (fun _ _ _ _ h => h) (by rfl) ?_; apply Exists.intro; refine ⟨fun w' hw' => ?_, ?_⟩
      · (have hcw := (bcell hw').1; have hfw := (bcell hw').2.1; go_simp; (try simp (disch := omega) only [IntWalk.i64_quo, IntWalk.i64_in, IntWalk.rem_in]); exact calm_value)
      simp only [Act.put, List.setIfInBounds_toArray, List.set_cons_zero, List.set_cons_succ]
      refine wpE_yes (i := 8) rfl (by kernel_rfl) (by kernel_rfl) (by kernel_rfl) (fun _ _ _ _ h => h) (by rfl) ?_; apply Exists.intro; refine ⟨fun w' hw' => ?_, ?_⟩
      · (have hcw := (bcell hw').1; have hfw := (bcell hw').2.1; go_simp; (try simp (disch := omega) only [IntWalk.i64_quo, IntWalk.i64_in, IntWalk.rem_in]); exact calm_value)
      simp only [Act.put, List.setIfInBounds_toArray, List.set_cons_zero, List.set_cons_succ]
      refine wpE_yes (i := 9) rfl (by kernel_rfl) (by kernel_rfl) (by kernel_rfl) (fun _ _ _ _ h => h) (by rfl) ?_; apply Exists.intro; refine ⟨fun w' hw' => ?_, ?_⟩
      · (have hcw := (bcell hw').1; have hfw := (bcell hw').2.1; go_simp; (try simp (disch := omega) only [IntWalk.i64_quo, IntWalk.i64_in, IntWalk.rem_in]); exact calm_value)
      simp only [Act.put, List.setIfInBounds_toArray, List.set_cons_zero, List.set_cons_succ]
      refine wpE_done (by kernel_rfl) (fun w3 hb3 hC3 => ?_) _
      (have hc3 := (bcell hb3).1; have hf3 := (bcell hb3).2.1; have hs3 := (bcell hb3).2.2; (try simp [go_sem] at hs3); have z3_0 : w.heap.size < w3.heap.size := (by omega); have y3_0 : (w.heap.size = w3.heap.size) = False := eq_false (by omega); have c3_0_0 := hc3 (w.heap.size) 0 (by first | omega | (simp; done) | (simp; omega)); have c3_0_1 := hc3 (w.heap.size) 1 (by first | omega | (simp; done) | (simp; omega)); have c3_0_2 := hc3 (w.heap.size) 2 (by first | omega | (simp; done) | (simp; omega)); have c3_0_3 := hc3 (w.heap.size) 3 (by first | omega | (simp; done) | (simp; omega)); have f3_0 : ∀ i, w3.frozen? ⟨w.heap.size, i, none⟩ = false := fun i => (hf3 (w.heap.size) i (by first | omega | (simp; done) | (simp; omega))).trans (by simp [go_sem, *]); have z3_1 : w.heap.size + 1 < w3.heap.size := (by omega); have y3_1 : (w.heap.size + 1 = w3.heap.size) = False := eq_false (by omega); have c3_1_0 := hc3 (w.heap.size + 1) 0 (by first | omega | (simp; done) | (simp; omega)); have c3_1_1 := hc3 (w.heap.size + 1) 1 (by first | omega | (simp; done) | (simp; omega)); have f3_1 : ∀ i, w3.frozen? ⟨w.heap.size + 1, i, none⟩ = false := fun i => (hf3 (w.heap.size + 1) i (by first | omega | (simp; done) | (simp; omega))).trans (by simp [go_sem, *]); clear hc3 hf3; simp [go_sem, *] at c3_0_0; simp [go_sem, *] at c3_0_1; simp [go_sem, *] at c3_0_2; simp [go_sem, *] at c3_0_3; simp [go_sem, *] at c3_1_0; simp [go_sem, *] at c3_1_1; (try clear y2_0 f2_0 c2_0_0 c2_0_1 c2_0_2 c2_0_3 y2_1 f2_1 c2_1_0 c2_1_1))
      clear hC3
      go_wp2
      refine bodyPost_ret (v := .tuple #[sp l (l + min y (1099511627776 - l)), .int .i64 0]) (by simp [results, Try.results35, go_sem, *]) rfl ⟨rfl, ?_⟩
      (repeat (first | exact Below.refl _ _ | refine Below.setCell ?_ (by first | omega | (simp; done) | (simp; omega)) _ | refine Below.alloc ?_ (by first | omega | (simp; done) | (simp; omega)) _ | refine below_drewN ?_ _ | refine Below.drew ?_ | refine Below.trans ?_ (Below.mono (by assumption) (by first | omega | (simp; done) | (simp; omega)))))
end Go.Proofs.Ythebnpophckgcaa
