/-
  The walks of the reference's Shows.
-/
import Derived.Test.YthebnpophckgcaaPc
namespace Go.Proofs.Ythebnpophckgcaa
open Go.RowKit
set_option linter.unusedSimpArgs false
set_option linter.unusedVariables false
set_option maxHeartbeats 1000000
theorem shows_any (r l a b n t : Int) (w : World) (h : okc r l a b = true) (hn : n ≤ 1099511627776) (hn0 : -1 ≤ n) : Calls Try.prog 37 #[ck r l a b, .int .i64 n, .int .i64 t] w fun e w' => e = .returned (.bool (shF r l a b n t)) ∧ Below w.heap.size w w' := by
  obtain ⟨k1, k2, k3, k4⟩ := okc_t h
  obtain ⟨l1, l2⟩ := isT_t k3
  obtain ⟨a1, a2, a3⟩ := vld_t k4
  rcases Int.lt_or_le n l with hl | hl
  · have hs : shF r l a b n t = false := by unfold shF; simp; omega
    rw [hs]
    clear h k3 k4 hs
    have g1 : decide (l ≤ n) = false := by simp; omega
    go_enter Try.func37, Try.ntmps37
    go_wp2_with fail
    refine wp_region_ext (by kernel_rfl) ?_
    refine wpE_yes (i := 0) rfl (by kernel_rfl) (by kernel_rfl) (by kernel_rfl) (fun _ _ _ _ h => h) (by rfl) ?_; apply Exists.intro; refine ⟨fun w' hw' => ?_, ?_⟩
    · (have hcw := (bcell hw').1; have hfw := (bcell hw').2.1; go_simp; (try simp (disch := omega) only [IntWalk.i64_quo, IntWalk.i64_in, IntWalk.rem_in]); exact calm_value)
    simp only [Act.put, List.setIfInBounds_toArray, List.set_cons_zero, List.set_cons_succ]
    refine wpE_yes (i := 1) rfl (by kernel_rfl) (by kernel_rfl) (by kernel_rfl) (fun _ _ _ _ h => h) (by rfl) ?_; apply Exists.intro; refine ⟨fun w' hw' => ?_, ?_⟩
    · (have hcw := (bcell hw').1; have hfw := (bcell hw').2.1; go_simp; (try simp (disch := omega) only [IntWalk.i64_quo, IntWalk.i64_in, IntWalk.rem_in]); exact calm_value)
    simp only [Act.put, List.setIfInBounds_toArray, List.set_cons_zero, List.set_cons_succ]
    refine wpE_yes (i := 2) rfl (by kernel_rfl) (by kernel_rfl) (by kernel_rfl) (fun _ _ _ _ h => h) (by rfl) ?_; apply Exists.intro; refine ⟨fun w' hw' => ?_, ?_⟩
    · (have hcw := (bcell hw').1; have hfw := (bcell hw').2.1; go_simp; (try simp (disch := omega) only [IntWalk.i64_quo, IntWalk.i64_in, IntWalk.rem_in]); exact calm_value)
    simp only [Act.put, List.setIfInBounds_toArray, List.set_cons_zero, List.set_cons_succ]
    first
      | (refine wpE_nope (i := 3) rfl (by kernel_rfl) (by kernel_rfl) (by kernel_rfl) (fun _ _ _ _ h => h) (by rfl) ?_; simp only [Act.put, List.setIfInBounds_toArray, List.set_cons_zero, List.set_cons_succ])
      | (refine wpE_yes (i := 3) rfl (by kernel_rfl) (by kernel_rfl) (by kernel_rfl) (fun _ _ _ _ h => h) (by rfl) ?_; apply Exists.intro; refine ⟨fun w' hw' => ?_, ?_⟩; (· (have hcw := (bcell hw').1; have hfw := (bcell hw').2.1; go_simp; (try simp (disch := omega) only [IntWalk.i64_quo, IntWalk.i64_in, IntWalk.rem_in]); exact calm_value)); simp only [Act.put, List.setIfInBounds_toArray, List.set_cons_zero, List.set_cons_succ])
    first
      | (refine wpE_nope (i := 4) rfl (by kernel_rfl) (by kernel_rfl) (by kernel_rfl) (fun _ _ _ _ h => h) (by rfl) ?_; simp only [Act.put, List.setIfInBounds_toArray, List.set_cons_zero, List.set_cons_succ])
      | (refine wpE_yes (i := 4) rfl (by kernel_rfl) (by kernel_rfl) (by kernel_rfl) (fun _ _ _ _ h => h) (by rfl) ?_; apply Exists.intro; refine ⟨fun w' hw' => ?_, ?_⟩; (· (have hcw := (bcell hw').1; have hfw := (bcell hw').2.1; go_simp; (try simp (disch := omega) only [IntWalk.i64_quo, IntWalk.i64_in, IntWalk.rem_in]); exact calm_value)); simp only [Act.put, List.setIfInBounds_toArray, List.set_cons_zero, List.set_cons_succ])
    first
      | (refine wpE_nope (i := 5) rfl (by kernel_rfl) (by kernel_rfl) (by kernel_rfl) (fun _ _ _ _ h => h) (by rfl) ?_; simp only [Act.put, List.setIfInBounds_toArray, List.set_cons_zero, List.set_cons_succ])
      | (refine wpE_yes (i := 5) rfl (by kernel_rfl) (by kernel_rfl) (by kernel_rfl) (fun _ _ _ _ h => h) (by rfl) ?_; apply Exists.intro; refine ⟨fun w' hw' => ?_, ?_⟩; (· (have hcw := (bcell hw').1; have hfw := (bcell hw').2.1; go_simp; (try simp (disch := omega) only [IntWalk.i64_quo, IntWalk.i64_in, IntWalk.rem_in]); exact calm_value)); simp only [Act.put, List.setIfInBounds_toArray, List.set_cons_zero, List.set_cons_succ])
    first
      | (refine wpE_nope (i := 6) rfl (by kernel_rfl) (by kernel_rfl) (by kernel_rfl) (fun _ _ _ _ h => h) (by rfl) ?_; simp only [Act.put, List.setIfInBounds_toArray, List.set_cons_zero, List.set_cons_succ])
      | (refine wpE_yes (i := 6) rfl (by kernel_rfl) (by kernel_rfl) (by kernel_rfl) (fun _ _ _ _ h => h) (by rfl) ?_; apply Exists.intro; refine ⟨fun w' hw' => ?_, ?_⟩; (· (have hcw := (bcell hw').1; have hfw := (bcell hw').2.1; go_simp; (try simp (disch := omega) only [IntWalk.i64_quo, IntWalk.i64_in, IntWalk.rem_in]); exact calm_value)); simp only [Act.put, List.setIfInBounds_toArray, List.set_cons_zero, List.set_cons_succ])
    first
      | (refine wpE_nope (i := 7) rfl (by kernel_rfl) (by kernel_rfl) (by kernel_rfl) (fun _ _ _ _ h => h) (by rfl) ?_; simp only [Act.put, List.setIfInBounds_toArray, List.set_cons_zero, List.set_cons_succ])
      | (refine wpE_yes (i := 7) rfl (by kernel_rfl) (by kernel_rfl) (by kernel_rfl) (fun _ _ _ _ h => h) (by rfl) ?_; apply Exists.intro; refine ⟨fun w' hw' => ?_, ?_⟩; (· (have hcw := (bcell hw').1; have hfw := (bcell hw').2.1; go_simp; (try simp (disch := omega) only [IntWalk.i64_quo, IntWalk.i64_in, IntWalk.rem_in]); exact calm_value)); simp only [Act.put, List.setIfInBounds_toArray, List.set_cons_zero, List.set_cons_succ])
    first
      | (refine wpE_nope (i := 8) rfl (by kernel_rfl) (by kernel_rfl) (by kernel_rfl) (fun _ _ _ _ h => h) (by rfl) ?_; simp only [Act.put, List.setIfInBounds_toArray, List.set_cons_zero, List.set_cons_succ])
      | (refine wpE_yes (i := 8) rfl (by kernel_rfl) (by kernel_rfl) (by kernel_rfl) (fun _ _ _ _ h => h) (by rfl) ?_; apply Exists.intro; refine ⟨fun w' hw' => ?_, ?_⟩; (· (have hcw := (bcell hw').1; have hfw := (bcell hw').2.1; go_simp; (try simp (disch := omega) only [IntWalk.i64_quo, IntWalk.i64_in, IntWalk.rem_in]); exact calm_value)); simp only [Act.put, List.setIfInBounds_toArray, List.set_cons_zero, List.set_cons_succ])
    refine wpE_nope (i := 9) rfl (by kernel_rfl) (by kernel_rfl) (by kernel_rfl) (fun _ _ _ _ h => h) (by rfl) ?_
    simp only [Act.put, List.setIfInBounds_toArray, List.set_cons_zero, List.set_cons_succ]
    first
      | (refine wpE_nope (i := 10) rfl (by kernel_rfl) (by kernel_rfl) (by kernel_rfl) (fun _ _ _ _ h => h) (by rfl) ?_; simp only [Act.put, List.setIfInBounds_toArray, List.set_cons_zero, List.set_cons_succ])
      | (refine wpE_yes (i := 10) rfl (by kernel_rfl) (by kernel_rfl) (by kernel_rfl) (fun _ _ _ _ h => h) (by rfl) ?_; apply Exists.intro; refine ⟨fun w' hw' => ?_, ?_⟩; (· (have hcw := (bcell hw').1; have hfw := (bcell hw').2.1; go_simp; (try simp (disch := omega) only [IntWalk.i64_quo, IntWalk.i64_in, IntWalk.rem_in]); exact calm_value)); simp only [Act.put, List.setIfInBounds_toArray, List.set_cons_zero, List.set_cons_succ])
    first
      | (refine wpE_nope (i := 11) rfl (by kernel_rfl) (by kernel_rfl) (by kernel_rfl) (fun _ _ _ _ h => h) (by rfl) ?_; simp only [Act.put, List.setIfInBounds_toArray, List.set_cons_zero, List.set_cons_succ])
      | (refine wpE_yes (i := 11) rfl (by kernel_rfl) (by kernel_rfl) (by kernel_rfl) (fun _ _ _ _ h => h) (by rfl) ?_; apply Exists.intro; refine ⟨fun w' hw' => ?_, ?_⟩; (· (have hcw := (bcell hw').1; have hfw := (bcell hw').2.1; go_simp; (try simp (disch := omega) only [IntWalk.i64_quo, IntWalk.i64_in, IntWalk.rem_in]); exact calm_value)); simp only [Act.put, List.setIfInBounds_toArray, List.set_cons_zero, List.set_cons_succ])
    refine wpE_yes (i := 12) rfl (by kernel_rfl) (by kernel_rfl) (by kernel_rfl) (fun _ _ _ _ h => h) (by rfl) ?_; apply Exists.intro; refine ⟨fun w' hw' => ?_, ?_⟩
    · (have hcw := (bcell hw').1; have hfw := (bcell hw').2.1; go_simp; (try simp (disch := omega) only [IntWalk.i64_quo, IntWalk.i64_in, IntWalk.rem_in]); exact calm_value)
    simp only [Act.put, List.setIfInBounds_toArray, List.set_cons_zero, List.set_cons_succ]
    refine wpE_yes (i := 13) rfl (by kernel_rfl) (by kernel_rfl) (by kernel_rfl) (fun _ _ _ _ h => h) (by rfl) ?_; apply Exists.intro; refine ⟨fun w' hw' => ?_, ?_⟩
    · (have hcw := (bcell hw').1; have hfw := (bcell hw').2.1; go_simp; (try simp (disch := omega) only [IntWalk.i64_quo, IntWalk.i64_in, IntWalk.rem_in]); exact calm_value)
    simp only [Act.put, List.setIfInBounds_toArray, List.set_cons_zero, List.set_cons_succ]
    first
      | (refine wpE_nope (i := 14) rfl (by kernel_rfl) (by kernel_rfl) (by kernel_rfl) (fun _ _ _ _ h => h) (by rfl) ?_; simp only [Act.put, List.setIfInBounds_toArray, List.set_cons_zero, List.set_cons_succ])
      | (refine wpE_yes (i := 14) rfl (by kernel_rfl) (by kernel_rfl) (by kernel_rfl) (fun _ _ _ _ h => h) (by rfl) ?_; apply Exists.intro; refine ⟨fun w' hw' => ?_, ?_⟩; (· (have hcw := (bcell hw').1; have hfw := (bcell hw').2.1; go_simp; (try simp (disch := omega) only [IntWalk.i64_quo, IntWalk.i64_in, IntWalk.rem_in]); exact calm_value)); simp only [Act.put, List.setIfInBounds_toArray, List.set_cons_zero, List.set_cons_succ])
    first
      | (refine wpE_nope (i := 15) rfl (by kernel_rfl) (by kernel_rfl) (by kernel_rfl) (fun _ _ _ _ h => h) (by rfl) ?_; simp only [Act.put, List.setIfInBounds_toArray, List.set_cons_zero, List.set_cons_succ])
      | (refine wpE_yes (i := 15) rfl (by kernel_rfl) (by kernel_rfl) (by kernel_rfl) (fun _ _ _ _ h => h) (by rfl) ?_; apply Exists.intro; refine ⟨fun w' hw' => ?_, ?_⟩; (· (have hcw := (bcell hw').1; have hfw := (bcell hw').2.1; go_simp; (try simp (disch := omega) only [IntWalk.i64_quo, IntWalk.i64_in, IntWalk.rem_in]); exact calm_value)); simp only [Act.put, List.setIfInBounds_toArray, List.set_cons_zero, List.set_cons_succ])
    first
      | (refine wpE_nope (i := 16) rfl (by kernel_rfl) (by kernel_rfl) (by kernel_rfl) (fun _ _ _ _ h => h) (by rfl) ?_; simp only [Act.put, List.setIfInBounds_toArray, List.set_cons_zero, List.set_cons_succ])
      | (refine wpE_yes (i := 16) rfl (by kernel_rfl) (by kernel_rfl) (by kernel_rfl) (fun _ _ _ _ h => h) (by rfl) ?_; apply Exists.intro; refine ⟨fun w' hw' => ?_, ?_⟩; (· (have hcw := (bcell hw').1; have hfw := (bcell hw').2.1; go_simp; (try simp (disch := omega) only [IntWalk.i64_quo, IntWalk.i64_in, IntWalk.rem_in]); exact calm_value)); simp only [Act.put, List.setIfInBounds_toArray, List.set_cons_zero, List.set_cons_succ])
    first
      | (refine wpE_nope (i := 17) rfl (by kernel_rfl) (by kernel_rfl) (by kernel_rfl) (fun _ _ _ _ h => h) (by rfl) ?_; simp only [Act.put, List.setIfInBounds_toArray, List.set_cons_zero, List.set_cons_succ])
      | (refine wpE_yes (i := 17) rfl (by kernel_rfl) (by kernel_rfl) (by kernel_rfl) (fun _ _ _ _ h => h) (by rfl) ?_; apply Exists.intro; refine ⟨fun w' hw' => ?_, ?_⟩; (· (have hcw := (bcell hw').1; have hfw := (bcell hw').2.1; go_simp; (try simp (disch := omega) only [IntWalk.i64_quo, IntWalk.i64_in, IntWalk.rem_in]); exact calm_value)); simp only [Act.put, List.setIfInBounds_toArray, List.set_cons_zero, List.set_cons_succ])
    first
      | (refine wpE_nope (i := 18) rfl (by kernel_rfl) (by kernel_rfl) (by kernel_rfl) (fun _ _ _ _ h => h) (by rfl) ?_; simp only [Act.put, List.setIfInBounds_toArray, List.set_cons_zero, List.set_cons_succ])
      | (refine wpE_yes (i := 18) rfl (by kernel_rfl) (by kernel_rfl) (by kernel_rfl) (fun _ _ _ _ h => h) (by rfl) ?_; apply Exists.intro; refine ⟨fun w' hw' => ?_, ?_⟩; (· (have hcw := (bcell hw').1; have hfw := (bcell hw').2.1; go_simp; (try simp (disch := omega) only [IntWalk.i64_quo, IntWalk.i64_in, IntWalk.rem_in]); exact calm_value)); simp only [Act.put, List.setIfInBounds_toArray, List.set_cons_zero, List.set_cons_succ])
    first
      | (refine wpE_nope (i := 19) rfl (by kernel_rfl) (by kernel_rfl) (by kernel_rfl) (fun _ _ _ _ h => h) (by rfl) ?_; simp only [Act.put, List.setIfInBounds_toArray, List.set_cons_zero, List.set_cons_succ])
      | (refine wpE_yes (i := 19) rfl (by kernel_rfl) (by kernel_rfl) (by kernel_rfl) (fun _ _ _ _ h => h) (by rfl) ?_; apply Exists.intro; refine ⟨fun w' hw' => ?_, ?_⟩; (· (have hcw := (bcell hw').1; have hfw := (bcell hw').2.1; go_simp; (try simp (disch := omega) only [IntWalk.i64_quo, IntWalk.i64_in, IntWalk.rem_in]); exact calm_value)); simp only [Act.put, List.setIfInBounds_toArray, List.set_cons_zero, List.set_cons_succ])
    refine wpE_nope (i := 20) rfl (by kernel_rfl) (by kernel_rfl) (by kernel_rfl) (fun _ _ _ _ h => h) (by rfl) ?_
    simp only [Act.put, List.setIfInBounds_toArray, List.set_cons_zero, List.set_cons_succ]
    first
      | (refine wpE_nope (i := 21) rfl (by kernel_rfl) (by kernel_rfl) (by kernel_rfl) (fun _ _ _ _ h => h) (by rfl) ?_; simp only [Act.put, List.setIfInBounds_toArray, List.set_cons_zero, List.set_cons_succ])
      | (refine wpE_yes (i := 21) rfl (by kernel_rfl) (by kernel_rfl) (by kernel_rfl) (fun _ _ _ _ h => h) (by rfl) ?_; apply Exists.intro; refine ⟨fun w' hw' => ?_, ?_⟩; (· (have hcw := (bcell hw').1; have hfw := (bcell hw').2.1; go_simp; (try simp (disch := omega) only [IntWalk.i64_quo, IntWalk.i64_in, IntWalk.rem_in]); exact calm_value)); simp only [Act.put, List.setIfInBounds_toArray, List.set_cons_zero, List.set_cons_succ])
    first
      | (refine wpE_nope (i := 22) rfl (by kernel_rfl) (by kernel_rfl) (by kernel_rfl) (fun _ _ _ _ h => h) (by rfl) ?_; simp only [Act.put, List.setIfInBounds_toArray, List.set_cons_zero, List.set_cons_succ])
      | (refine wpE_yes (i := 22) rfl (by kernel_rfl) (by kernel_rfl) (by kernel_rfl) (fun _ _ _ _ h => h) (by rfl) ?_; apply Exists.intro; refine ⟨fun w' hw' => ?_, ?_⟩; (· (have hcw := (bcell hw').1; have hfw := (bcell hw').2.1; go_simp; (try simp (disch := omega) only [IntWalk.i64_quo, IntWalk.i64_in, IntWalk.rem_in]); exact calm_value)); simp only [Act.put, List.setIfInBounds_toArray, List.set_cons_zero, List.set_cons_succ])
    refine wpE_yes (i := 23) rfl (by kernel_rfl) (by kernel_rfl) (by kernel_rfl) (fun _ _ _ _ h => h) (by rfl) ?_; apply Exists.intro; refine ⟨fun w' hw' => ?_, ?_⟩
    · (have hcw := (bcell hw').1; have hfw := (bcell hw').2.1; go_simp; (try simp (disch := omega) only [IntWalk.i64_quo, IntWalk.i64_in, IntWalk.rem_in]); exact calm_value)
    simp only [Act.put, List.setIfInBounds_toArray, List.set_cons_zero, List.set_cons_succ]
    refine wpE_yes (i := 24) rfl (by kernel_rfl) (by kernel_rfl) (by kernel_rfl) (fun _ _ _ _ h => h) (by rfl) ?_; apply Exists.intro; refine ⟨fun w' hw' => ?_, ?_⟩
    · (have hcw := (bcell hw').1; have hfw := (bcell hw').2.1; go_simp; (try simp (disch := omega) only [IntWalk.i64_quo, IntWalk.i64_in, IntWalk.rem_in]); exact calm_value)
    simp only [Act.put, List.setIfInBounds_toArray, List.set_cons_zero, List.set_cons_succ]
    refine wpE_done (by kernel_rfl) (fun w1 hb1 hC1 => ?_) _
    (have hc1 := (bcell hb1).1; have hf1 := (bcell hb1).2.1; have hs1 := (bcell hb1).2.2; (try simp [go_sem] at hs1); have z1_0 : w.heap.size < w1.heap.size := (by omega); have y1_0 : (w.heap.size = w1.heap.size) = False := eq_false (by omega); have c1_0_0 := hc1 (w.heap.size) 0 (by first | omega | (simp; done) | (simp; omega)); have c1_0_1 := hc1 (w.heap.size) 1 (by first | omega | (simp; done) | (simp; omega)); have c1_0_2 := hc1 (w.heap.size) 2 (by first | omega | (simp; done) | (simp; omega)); have c1_0_3 := hc1 (w.heap.size) 3 (by first | omega | (simp; done) | (simp; omega)); have f1_0 : ∀ i, w1.frozen? ⟨w.heap.size, i, none⟩ = false := fun i => (hf1 (w.heap.size) i (by first | omega | (simp; done) | (simp; omega))).trans (by simp [go_sem, *]); clear hc1 hf1; simp [go_sem, *] at c1_0_0; simp [go_sem, *] at c1_0_1; simp [go_sem, *] at c1_0_2; simp [go_sem, *] at c1_0_3)
    clear hC1
    go_wp2_with fail
    go_ret
    refine ⟨rfl, ?_⟩
    (repeat (first | exact Below.refl _ _ | refine Below.setCell ?_ (by first | omega | (simp; done) | (simp; omega)) _ | refine Below.alloc ?_ (by first | omega | (simp; done) | (simp; omega)) _ | refine below_drewN ?_ _ | refine Below.drew ?_ | refine Below.trans ?_ (Below.mono (by assumption) (by first | omega | (simp; done) | (simp; omega)))))
  obtain ⟨b1, b2⟩ := loE_bd k1 k2 (show 0 ≤ n - l by omega) (by omega)
  obtain ⟨b3, b4⟩ := hiE_bd k1 k2 (show 0 ≤ n - l by omega) (by omega)
  have g1 : decide (l ≤ n) = true := by simp; omega
  cases g2 : decide (a + loE r (n - l) ≤ t)
  · have hs : shF r l a b n t = false := by unfold shF; rw [g2]; simp
    rw [hs]
    clear h k3 k4 hs
    go_enter Try.func37, Try.ntmps37
    go_wp2_with fail
    refine wp_region_ext (by kernel_rfl) ?_
    refine wpE_yes (i := 0) rfl (by kernel_rfl) (by kernel_rfl) (by kernel_rfl) (fun _ _ _ _ h => h) (by rfl) ?_; apply Exists.intro; refine ⟨fun w' hw' => ?_, ?_⟩
    · (have hcw := (bcell hw').1; have hfw := (bcell hw').2.1; go_simp; (try simp (disch := omega) only [IntWalk.i64_quo, IntWalk.i64_in, IntWalk.rem_in]); exact calm_value)
    simp only [Act.put, List.setIfInBounds_toArray, List.set_cons_zero, List.set_cons_succ]
    refine wpE_yes (i := 1) rfl (by kernel_rfl) (by kernel_rfl) (by kernel_rfl) (fun _ _ _ _ h => h) (by rfl) ?_; apply Exists.intro; refine ⟨fun w' hw' => ?_, ?_⟩
    · (have hcw := (bcell hw').1; have hfw := (bcell hw').2.1; go_simp; (try simp (disch := omega) only [IntWalk.i64_quo, IntWalk.i64_in, IntWalk.rem_in]); exact calm_value)
    simp only [Act.put, List.setIfInBounds_toArray, List.set_cons_zero, List.set_cons_succ]
    refine wpE_yes (i := 2) rfl (by kernel_rfl) (by kernel_rfl) (by kernel_rfl) (fun _ _ _ _ h => h) (by rfl) ?_; apply Exists.intro; refine ⟨fun w' hw' => ?_, ?_⟩
    · (have hcw := (bcell hw').1; have hfw := (bcell hw').2.1; go_simp; (try simp (disch := omega) only [IntWalk.i64_quo, IntWalk.i64_in, IntWalk.rem_in]); exact calm_value)
    simp only [Act.put, List.setIfInBounds_toArray, List.set_cons_zero, List.set_cons_succ]
    first
      | (refine wpE_nope (i := 3) rfl (by kernel_rfl) (by kernel_rfl) (by kernel_rfl) (fun _ _ _ _ h => h) (by rfl) ?_; simp only [Act.put, List.setIfInBounds_toArray, List.set_cons_zero, List.set_cons_succ])
      | (refine wpE_yes (i := 3) rfl (by kernel_rfl) (by kernel_rfl) (by kernel_rfl) (fun _ _ _ _ h => h) (by rfl) ?_; apply Exists.intro; refine ⟨fun w' hw' => ?_, ?_⟩; (· (have hcw := (bcell hw').1; have hfw := (bcell hw').2.1; go_simp; (try simp (disch := omega) only [IntWalk.i64_quo, IntWalk.i64_in, IntWalk.rem_in]); exact calm_value)); simp only [Act.put, List.setIfInBounds_toArray, List.set_cons_zero, List.set_cons_succ])
    first
      | (refine wpE_nope (i := 4) rfl (by kernel_rfl) (by kernel_rfl) (by kernel_rfl) (fun _ _ _ _ h => h) (by rfl) ?_; simp only [Act.put, List.setIfInBounds_toArray, List.set_cons_zero, List.set_cons_succ])
      | (refine wpE_yes (i := 4) rfl (by kernel_rfl) (by kernel_rfl) (by kernel_rfl) (fun _ _ _ _ h => h) (by rfl) ?_; apply Exists.intro; refine ⟨fun w' hw' => ?_, ?_⟩; (· (have hcw := (bcell hw').1; have hfw := (bcell hw').2.1; go_simp; (try simp (disch := omega) only [IntWalk.i64_quo, IntWalk.i64_in, IntWalk.rem_in]); exact calm_value)); simp only [Act.put, List.setIfInBounds_toArray, List.set_cons_zero, List.set_cons_succ])
    first
      | (refine wpE_nope (i := 5) rfl (by kernel_rfl) (by kernel_rfl) (by kernel_rfl) (fun _ _ _ _ h => h) (by rfl) ?_; simp only [Act.put, List.setIfInBounds_toArray, List.set_cons_zero, List.set_cons_succ])
      | (refine wpE_yes (i := 5) rfl (by kernel_rfl) (by kernel_rfl) (by kernel_rfl) (fun _ _ _ _ h => h) (by rfl) ?_; apply Exists.intro; refine ⟨fun w' hw' => ?_, ?_⟩; (· (have hcw := (bcell hw').1; have hfw := (bcell hw').2.1; go_simp; (try simp (disch := omega) only [IntWalk.i64_quo, IntWalk.i64_in, IntWalk.rem_in]); exact calm_value)); simp only [Act.put, List.setIfInBounds_toArray, List.set_cons_zero, List.set_cons_succ])
    first
      | (refine wpE_nope (i := 6) rfl (by kernel_rfl) (by kernel_rfl) (by kernel_rfl) (fun _ _ _ _ h => h) (by rfl) ?_; simp only [Act.put, List.setIfInBounds_toArray, List.set_cons_zero, List.set_cons_succ])
      | (refine wpE_yes (i := 6) rfl (by kernel_rfl) (by kernel_rfl) (by kernel_rfl) (fun _ _ _ _ h => h) (by rfl) ?_; apply Exists.intro; refine ⟨fun w' hw' => ?_, ?_⟩; (· (have hcw := (bcell hw').1; have hfw := (bcell hw').2.1; go_simp; (try simp (disch := omega) only [IntWalk.i64_quo, IntWalk.i64_in, IntWalk.rem_in]); exact calm_value)); simp only [Act.put, List.setIfInBounds_toArray, List.set_cons_zero, List.set_cons_succ])
    first
      | (refine wpE_nope (i := 7) rfl (by kernel_rfl) (by kernel_rfl) (by kernel_rfl) (fun _ _ _ _ h => h) (by rfl) ?_; simp only [Act.put, List.setIfInBounds_toArray, List.set_cons_zero, List.set_cons_succ])
      | (refine wpE_yes (i := 7) rfl (by kernel_rfl) (by kernel_rfl) (by kernel_rfl) (fun _ _ _ _ h => h) (by rfl) ?_; apply Exists.intro; refine ⟨fun w' hw' => ?_, ?_⟩; (· (have hcw := (bcell hw').1; have hfw := (bcell hw').2.1; go_simp; (try simp (disch := omega) only [IntWalk.i64_quo, IntWalk.i64_in, IntWalk.rem_in]); exact calm_value)); simp only [Act.put, List.setIfInBounds_toArray, List.set_cons_zero, List.set_cons_succ])
    first
      | (refine wpE_nope (i := 8) rfl (by kernel_rfl) (by kernel_rfl) (by kernel_rfl) (fun _ _ _ _ h => h) (by rfl) ?_; simp only [Act.put, List.setIfInBounds_toArray, List.set_cons_zero, List.set_cons_succ])
      | (refine wpE_yes (i := 8) rfl (by kernel_rfl) (by kernel_rfl) (by kernel_rfl) (fun _ _ _ _ h => h) (by rfl) ?_; apply Exists.intro; refine ⟨fun w' hw' => ?_, ?_⟩; (· (have hcw := (bcell hw').1; have hfw := (bcell hw').2.1; go_simp; (try simp (disch := omega) only [IntWalk.i64_quo, IntWalk.i64_in, IntWalk.rem_in]); exact calm_value)); simp only [Act.put, List.setIfInBounds_toArray, List.set_cons_zero, List.set_cons_succ])
    refine wpE_yes (i := 9) rfl (by kernel_rfl) (by kernel_rfl) (by kernel_rfl) (fun _ _ _ _ h => h) (by rfl) ?_; apply Exists.intro; refine ⟨fun w' hw' => ?_, ?_⟩
    · (have hcw := (bcell hw').1; have hfw := (bcell hw').2.1; go_simp; exact calm_call (shortest_any _ _ _ _ _ _ (by omega) (by omega) (by omega) (by omega)) (fun _ hb => Grew.trans hw' hb))
    simp only [Act.put, List.setIfInBounds_toArray, List.set_cons_zero, List.set_cons_succ]
    first
      | (refine wpE_nope (i := 10) rfl (by kernel_rfl) (by kernel_rfl) (by kernel_rfl) (fun _ _ _ _ h => h) (by rfl) ?_; simp only [Act.put, List.setIfInBounds_toArray, List.set_cons_zero, List.set_cons_succ])
      | (refine wpE_yes (i := 10) rfl (by kernel_rfl) (by kernel_rfl) (by kernel_rfl) (fun _ _ _ _ h => h) (by rfl) ?_; apply Exists.intro; refine ⟨fun w' hw' => ?_, ?_⟩; (· (have hcw := (bcell hw').1; have hfw := (bcell hw').2.1; go_simp; (try simp (disch := omega) only [IntWalk.i64_quo, IntWalk.i64_in, IntWalk.rem_in]); exact calm_value)); simp only [Act.put, List.setIfInBounds_toArray, List.set_cons_zero, List.set_cons_succ])
    first
      | (refine wpE_nope (i := 11) rfl (by kernel_rfl) (by kernel_rfl) (by kernel_rfl) (fun _ _ _ _ h => h) (by rfl) ?_; simp only [Act.put, List.setIfInBounds_toArray, List.set_cons_zero, List.set_cons_succ])
      | (refine wpE_yes (i := 11) rfl (by kernel_rfl) (by kernel_rfl) (by kernel_rfl) (fun _ _ _ _ h => h) (by rfl) ?_; apply Exists.intro; refine ⟨fun w' hw' => ?_, ?_⟩; (· (have hcw := (bcell hw').1; have hfw := (bcell hw').2.1; go_simp; (try simp (disch := omega) only [IntWalk.i64_quo, IntWalk.i64_in, IntWalk.rem_in]); exact calm_value)); simp only [Act.put, List.setIfInBounds_toArray, List.set_cons_zero, List.set_cons_succ])
    refine wpE_yes (i := 12) rfl (by kernel_rfl) (by kernel_rfl) (by kernel_rfl) (fun _ _ _ _ h => h) (by rfl) ?_; apply Exists.intro; refine ⟨fun w' hw' => ?_, ?_⟩
    · (have hcw := (bcell hw').1; have hfw := (bcell hw').2.1; go_simp; (try simp (disch := omega) only [IntWalk.i64_quo, IntWalk.i64_in, IntWalk.rem_in]); exact calm_value)
    simp only [Act.put, List.setIfInBounds_toArray, List.set_cons_zero, List.set_cons_succ]
    refine wpE_yes (i := 13) rfl (by kernel_rfl) (by kernel_rfl) (by kernel_rfl) (fun _ _ _ _ h => h) (by rfl) ?_; apply Exists.intro; refine ⟨fun w' hw' => ?_, ?_⟩
    · (have hcw := (bcell hw').1; have hfw := (bcell hw').2.1; go_simp; (try simp (disch := omega) only [IntWalk.i64_quo, IntWalk.i64_in, IntWalk.rem_in]); exact calm_value)
    simp only [Act.put, List.setIfInBounds_toArray, List.set_cons_zero, List.set_cons_succ]
    first
      | (refine wpE_nope (i := 14) rfl (by kernel_rfl) (by kernel_rfl) (by kernel_rfl) (fun _ _ _ _ h => h) (by rfl) ?_; simp only [Act.put, List.setIfInBounds_toArray, List.set_cons_zero, List.set_cons_succ])
      | (refine wpE_yes (i := 14) rfl (by kernel_rfl) (by kernel_rfl) (by kernel_rfl) (fun _ _ _ _ h => h) (by rfl) ?_; apply Exists.intro; refine ⟨fun w' hw' => ?_, ?_⟩; (· (have hcw := (bcell hw').1; have hfw := (bcell hw').2.1; go_simp; (try simp (disch := omega) only [IntWalk.i64_quo, IntWalk.i64_in, IntWalk.rem_in]); exact calm_value)); simp only [Act.put, List.setIfInBounds_toArray, List.set_cons_zero, List.set_cons_succ])
    first
      | (refine wpE_nope (i := 15) rfl (by kernel_rfl) (by kernel_rfl) (by kernel_rfl) (fun _ _ _ _ h => h) (by rfl) ?_; simp only [Act.put, List.setIfInBounds_toArray, List.set_cons_zero, List.set_cons_succ])
      | (refine wpE_yes (i := 15) rfl (by kernel_rfl) (by kernel_rfl) (by kernel_rfl) (fun _ _ _ _ h => h) (by rfl) ?_; apply Exists.intro; refine ⟨fun w' hw' => ?_, ?_⟩; (· (have hcw := (bcell hw').1; have hfw := (bcell hw').2.1; go_simp; (try simp (disch := omega) only [IntWalk.i64_quo, IntWalk.i64_in, IntWalk.rem_in]); exact calm_value)); simp only [Act.put, List.setIfInBounds_toArray, List.set_cons_zero, List.set_cons_succ])
    first
      | (refine wpE_nope (i := 16) rfl (by kernel_rfl) (by kernel_rfl) (by kernel_rfl) (fun _ _ _ _ h => h) (by rfl) ?_; simp only [Act.put, List.setIfInBounds_toArray, List.set_cons_zero, List.set_cons_succ])
      | (refine wpE_yes (i := 16) rfl (by kernel_rfl) (by kernel_rfl) (by kernel_rfl) (fun _ _ _ _ h => h) (by rfl) ?_; apply Exists.intro; refine ⟨fun w' hw' => ?_, ?_⟩; (· (have hcw := (bcell hw').1; have hfw := (bcell hw').2.1; go_simp; (try simp (disch := omega) only [IntWalk.i64_quo, IntWalk.i64_in, IntWalk.rem_in]); exact calm_value)); simp only [Act.put, List.setIfInBounds_toArray, List.set_cons_zero, List.set_cons_succ])
    first
      | (refine wpE_nope (i := 17) rfl (by kernel_rfl) (by kernel_rfl) (by kernel_rfl) (fun _ _ _ _ h => h) (by rfl) ?_; simp only [Act.put, List.setIfInBounds_toArray, List.set_cons_zero, List.set_cons_succ])
      | (refine wpE_yes (i := 17) rfl (by kernel_rfl) (by kernel_rfl) (by kernel_rfl) (fun _ _ _ _ h => h) (by rfl) ?_; apply Exists.intro; refine ⟨fun w' hw' => ?_, ?_⟩; (· (have hcw := (bcell hw').1; have hfw := (bcell hw').2.1; go_simp; (try simp (disch := omega) only [IntWalk.i64_quo, IntWalk.i64_in, IntWalk.rem_in]); exact calm_value)); simp only [Act.put, List.setIfInBounds_toArray, List.set_cons_zero, List.set_cons_succ])
    first
      | (refine wpE_nope (i := 18) rfl (by kernel_rfl) (by kernel_rfl) (by kernel_rfl) (fun _ _ _ _ h => h) (by rfl) ?_; simp only [Act.put, List.setIfInBounds_toArray, List.set_cons_zero, List.set_cons_succ])
      | (refine wpE_yes (i := 18) rfl (by kernel_rfl) (by kernel_rfl) (by kernel_rfl) (fun _ _ _ _ h => h) (by rfl) ?_; apply Exists.intro; refine ⟨fun w' hw' => ?_, ?_⟩; (· (have hcw := (bcell hw').1; have hfw := (bcell hw').2.1; go_simp; (try simp (disch := omega) only [IntWalk.i64_quo, IntWalk.i64_in, IntWalk.rem_in]); exact calm_value)); simp only [Act.put, List.setIfInBounds_toArray, List.set_cons_zero, List.set_cons_succ])
    first
      | (refine wpE_nope (i := 19) rfl (by kernel_rfl) (by kernel_rfl) (by kernel_rfl) (fun _ _ _ _ h => h) (by rfl) ?_; simp only [Act.put, List.setIfInBounds_toArray, List.set_cons_zero, List.set_cons_succ])
      | (refine wpE_yes (i := 19) rfl (by kernel_rfl) (by kernel_rfl) (by kernel_rfl) (fun _ _ _ _ h => h) (by rfl) ?_; apply Exists.intro; refine ⟨fun w' hw' => ?_, ?_⟩; (· (have hcw := (bcell hw').1; have hfw := (bcell hw').2.1; go_simp; (try simp (disch := omega) only [IntWalk.i64_quo, IntWalk.i64_in, IntWalk.rem_in]); exact calm_value)); simp only [Act.put, List.setIfInBounds_toArray, List.set_cons_zero, List.set_cons_succ])
    refine wpE_nope (i := 20) rfl (by kernel_rfl) (by kernel_rfl) (by kernel_rfl) (fun _ _ _ _ h => h) (by rfl) ?_
    simp only [Act.put, List.setIfInBounds_toArray, List.set_cons_zero, List.set_cons_succ]
    first
      | (refine wpE_nope (i := 21) rfl (by kernel_rfl) (by kernel_rfl) (by kernel_rfl) (fun _ _ _ _ h => h) (by rfl) ?_; simp only [Act.put, List.setIfInBounds_toArray, List.set_cons_zero, List.set_cons_succ])
      | (refine wpE_yes (i := 21) rfl (by kernel_rfl) (by kernel_rfl) (by kernel_rfl) (fun _ _ _ _ h => h) (by rfl) ?_; apply Exists.intro; refine ⟨fun w' hw' => ?_, ?_⟩; (· (have hcw := (bcell hw').1; have hfw := (bcell hw').2.1; go_simp; (try simp (disch := omega) only [IntWalk.i64_quo, IntWalk.i64_in, IntWalk.rem_in]); exact calm_value)); simp only [Act.put, List.setIfInBounds_toArray, List.set_cons_zero, List.set_cons_succ])
    first
      | (refine wpE_nope (i := 22) rfl (by kernel_rfl) (by kernel_rfl) (by kernel_rfl) (fun _ _ _ _ h => h) (by rfl) ?_; simp only [Act.put, List.setIfInBounds_toArray, List.set_cons_zero, List.set_cons_succ])
      | (refine wpE_yes (i := 22) rfl (by kernel_rfl) (by kernel_rfl) (by kernel_rfl) (fun _ _ _ _ h => h) (by rfl) ?_; apply Exists.intro; refine ⟨fun w' hw' => ?_, ?_⟩; (· (have hcw := (bcell hw').1; have hfw := (bcell hw').2.1; go_simp; (try simp (disch := omega) only [IntWalk.i64_quo, IntWalk.i64_in, IntWalk.rem_in]); exact calm_value)); simp only [Act.put, List.setIfInBounds_toArray, List.set_cons_zero, List.set_cons_succ])
    refine wpE_yes (i := 23) rfl (by kernel_rfl) (by kernel_rfl) (by kernel_rfl) (fun _ _ _ _ h => h) (by rfl) ?_; apply Exists.intro; refine ⟨fun w' hw' => ?_, ?_⟩
    · (have hcw := (bcell hw').1; have hfw := (bcell hw').2.1; go_simp; (try simp (disch := omega) only [IntWalk.i64_quo, IntWalk.i64_in, IntWalk.rem_in]); exact calm_value)
    simp only [Act.put, List.setIfInBounds_toArray, List.set_cons_zero, List.set_cons_succ]
    refine wpE_yes (i := 24) rfl (by kernel_rfl) (by kernel_rfl) (by kernel_rfl) (fun _ _ _ _ h => h) (by rfl) ?_; apply Exists.intro; refine ⟨fun w' hw' => ?_, ?_⟩
    · (have hcw := (bcell hw').1; have hfw := (bcell hw').2.1; go_simp; (try simp (disch := omega) only [IntWalk.i64_quo, IntWalk.i64_in, IntWalk.rem_in]); exact calm_value)
    simp only [Act.put, List.setIfInBounds_toArray, List.set_cons_zero, List.set_cons_succ]
    refine wpE_done (by kernel_rfl) (fun w1 hb1 hC1 => ?_) _
    (have hc1 := (bcell hb1).1; have hf1 := (bcell hb1).2.1; have hs1 := (bcell hb1).2.2; (try simp [go_sem] at hs1); have z1_0 : w.heap.size < w1.heap.size := (by omega); have y1_0 : (w.heap.size = w1.heap.size) = False := eq_false (by omega); have c1_0_0 := hc1 (w.heap.size) 0 (by first | omega | (simp; done) | (simp; omega)); have c1_0_1 := hc1 (w.heap.size) 1 (by first | omega | (simp; done) | (simp; omega)); have c1_0_2 := hc1 (w.heap.size) 2 (by first | omega | (simp; done) | (simp; omega)); have c1_0_3 := hc1 (w.heap.size) 3 (by first | omega | (simp; done) | (simp; omega)); have f1_0 : ∀ i, w1.frozen? ⟨w.heap.size, i, none⟩ = false := fun i => (hf1 (w.heap.size) i (by first | omega | (simp; done) | (simp; omega))).trans (by simp [go_sem, *]); clear hc1 hf1; simp [go_sem, *] at c1_0_0; simp [go_sem, *] at c1_0_1; simp [go_sem, *] at c1_0_2; simp [go_sem, *] at c1_0_3)
    clear hC1
    go_wp2_with fail
    go_ret
    refine ⟨rfl, ?_⟩
    (repeat (first | exact Below.refl _ _ | refine Below.setCell ?_ (by first | omega | (simp; done) | (simp; omega)) _ | refine Below.alloc ?_ (by first | omega | (simp; done) | (simp; omega)) _ | refine below_drewN ?_ _ | refine Below.drew ?_ | refine Below.trans ?_ (Below.mono (by assumption) (by first | omega | (simp; done) | (simp; omega)))))
  · have hs : shF r l a b n t = decide (t ≤ b + hiE r (n - l)) := by unfold shF; rw [g2]; simp [hl]
    rw [hs]
    clear h k3 k4 hs
    go_enter Try.func37, Try.ntmps37
    go_wp2_with fail
    refine wp_region_ext (by kernel_rfl) ?_
    refine wpE_yes (i := 0) rfl (by kernel_rfl) (by kernel_rfl) (by kernel_rfl) (fun _ _ _ _ h => h) (by rfl) ?_; apply Exists.intro; refine ⟨fun w' hw' => ?_, ?_⟩
    · (have hcw := (bcell hw').1; have hfw := (bcell hw').2.1; go_simp; (try simp (disch := omega) only [IntWalk.i64_quo, IntWalk.i64_in, IntWalk.rem_in]); exact calm_value)
    simp only [Act.put, List.setIfInBounds_toArray, List.set_cons_zero, List.set_cons_succ]
    refine wpE_yes (i := 1) rfl (by kernel_rfl) (by kernel_rfl) (by kernel_rfl) (fun _ _ _ _ h => h) (by rfl) ?_; apply Exists.intro; refine ⟨fun w' hw' => ?_, ?_⟩
    · (have hcw := (bcell hw').1; have hfw := (bcell hw').2.1; go_simp; (try simp (disch := omega) only [IntWalk.i64_quo, IntWalk.i64_in, IntWalk.rem_in]); exact calm_value)
    simp only [Act.put, List.setIfInBounds_toArray, List.set_cons_zero, List.set_cons_succ]
    refine wpE_yes (i := 2) rfl (by kernel_rfl) (by kernel_rfl) (by kernel_rfl) (fun _ _ _ _ h => h) (by rfl) ?_; apply Exists.intro; refine ⟨fun w' hw' => ?_, ?_⟩
    · (have hcw := (bcell hw').1; have hfw := (bcell hw').2.1; go_simp; (try simp (disch := omega) only [IntWalk.i64_quo, IntWalk.i64_in, IntWalk.rem_in]); exact calm_value)
    simp only [Act.put, List.setIfInBounds_toArray, List.set_cons_zero, List.set_cons_succ]
    first
      | (refine wpE_nope (i := 3) rfl (by kernel_rfl) (by kernel_rfl) (by kernel_rfl) (fun _ _ _ _ h => h) (by rfl) ?_; simp only [Act.put, List.setIfInBounds_toArray, List.set_cons_zero, List.set_cons_succ])
      | (refine wpE_yes (i := 3) rfl (by kernel_rfl) (by kernel_rfl) (by kernel_rfl) (fun _ _ _ _ h => h) (by rfl) ?_; apply Exists.intro; refine ⟨fun w' hw' => ?_, ?_⟩; (· (have hcw := (bcell hw').1; have hfw := (bcell hw').2.1; go_simp; (try simp (disch := omega) only [IntWalk.i64_quo, IntWalk.i64_in, IntWalk.rem_in]); exact calm_value)); simp only [Act.put, List.setIfInBounds_toArray, List.set_cons_zero, List.set_cons_succ])
    first
      | (refine wpE_nope (i := 4) rfl (by kernel_rfl) (by kernel_rfl) (by kernel_rfl) (fun _ _ _ _ h => h) (by rfl) ?_; simp only [Act.put, List.setIfInBounds_toArray, List.set_cons_zero, List.set_cons_succ])
      | (refine wpE_yes (i := 4) rfl (by kernel_rfl) (by kernel_rfl) (by kernel_rfl) (fun _ _ _ _ h => h) (by rfl) ?_; apply Exists.intro; refine ⟨fun w' hw' => ?_, ?_⟩; (· (have hcw := (bcell hw').1; have hfw := (bcell hw').2.1; go_simp; (try simp (disch := omega) only [IntWalk.i64_quo, IntWalk.i64_in, IntWalk.rem_in]); exact calm_value)); simp only [Act.put, List.setIfInBounds_toArray, List.set_cons_zero, List.set_cons_succ])
    first
      | (refine wpE_nope (i := 5) rfl (by kernel_rfl) (by kernel_rfl) (by kernel_rfl) (fun _ _ _ _ h => h) (by rfl) ?_; simp only [Act.put, List.setIfInBounds_toArray, List.set_cons_zero, List.set_cons_succ])
      | (refine wpE_yes (i := 5) rfl (by kernel_rfl) (by kernel_rfl) (by kernel_rfl) (fun _ _ _ _ h => h) (by rfl) ?_; apply Exists.intro; refine ⟨fun w' hw' => ?_, ?_⟩; (· (have hcw := (bcell hw').1; have hfw := (bcell hw').2.1; go_simp; (try simp (disch := omega) only [IntWalk.i64_quo, IntWalk.i64_in, IntWalk.rem_in]); exact calm_value)); simp only [Act.put, List.setIfInBounds_toArray, List.set_cons_zero, List.set_cons_succ])
    first
      | (refine wpE_nope (i := 6) rfl (by kernel_rfl) (by kernel_rfl) (by kernel_rfl) (fun _ _ _ _ h => h) (by rfl) ?_; simp only [Act.put, List.setIfInBounds_toArray, List.set_cons_zero, List.set_cons_succ])
      | (refine wpE_yes (i := 6) rfl (by kernel_rfl) (by kernel_rfl) (by kernel_rfl) (fun _ _ _ _ h => h) (by rfl) ?_; apply Exists.intro; refine ⟨fun w' hw' => ?_, ?_⟩; (· (have hcw := (bcell hw').1; have hfw := (bcell hw').2.1; go_simp; (try simp (disch := omega) only [IntWalk.i64_quo, IntWalk.i64_in, IntWalk.rem_in]); exact calm_value)); simp only [Act.put, List.setIfInBounds_toArray, List.set_cons_zero, List.set_cons_succ])
    first
      | (refine wpE_nope (i := 7) rfl (by kernel_rfl) (by kernel_rfl) (by kernel_rfl) (fun _ _ _ _ h => h) (by rfl) ?_; simp only [Act.put, List.setIfInBounds_toArray, List.set_cons_zero, List.set_cons_succ])
      | (refine wpE_yes (i := 7) rfl (by kernel_rfl) (by kernel_rfl) (by kernel_rfl) (fun _ _ _ _ h => h) (by rfl) ?_; apply Exists.intro; refine ⟨fun w' hw' => ?_, ?_⟩; (· (have hcw := (bcell hw').1; have hfw := (bcell hw').2.1; go_simp; (try simp (disch := omega) only [IntWalk.i64_quo, IntWalk.i64_in, IntWalk.rem_in]); exact calm_value)); simp only [Act.put, List.setIfInBounds_toArray, List.set_cons_zero, List.set_cons_succ])
    first
      | (refine wpE_nope (i := 8) rfl (by kernel_rfl) (by kernel_rfl) (by kernel_rfl) (fun _ _ _ _ h => h) (by rfl) ?_; simp only [Act.put, List.setIfInBounds_toArray, List.set_cons_zero, List.set_cons_succ])
      | (refine wpE_yes (i := 8) rfl (by kernel_rfl) (by kernel_rfl) (by kernel_rfl) (fun _ _ _ _ h => h) (by rfl) ?_; apply Exists.intro; refine ⟨fun w' hw' => ?_, ?_⟩; (· (have hcw := (bcell hw').1; have hfw := (bcell hw').2.1; go_simp; (try simp (disch := omega) only [IntWalk.i64_quo, IntWalk.i64_in, IntWalk.rem_in]); exact calm_value)); simp only [Act.put, List.setIfInBounds_toArray, List.set_cons_zero, List.set_cons_succ])
    refine wpE_yes (i := 9) rfl (by kernel_rfl) (by kernel_rfl) (by kernel_rfl) (fun _ _ _ _ h => h) (by rfl) ?_; apply Exists.intro; refine ⟨fun w' hw' => ?_, ?_⟩
    · (have hcw := (bcell hw').1; have hfw := (bcell hw').2.1; go_simp; exact calm_call (shortest_any _ _ _ _ _ _ (by omega) (by omega) (by omega) (by omega)) (fun _ hb => Grew.trans hw' hb))
    simp only [Act.put, List.setIfInBounds_toArray, List.set_cons_zero, List.set_cons_succ]
    first
      | (refine wpE_nope (i := 10) rfl (by kernel_rfl) (by kernel_rfl) (by kernel_rfl) (fun _ _ _ _ h => h) (by rfl) ?_; simp only [Act.put, List.setIfInBounds_toArray, List.set_cons_zero, List.set_cons_succ])
      | (refine wpE_yes (i := 10) rfl (by kernel_rfl) (by kernel_rfl) (by kernel_rfl) (fun _ _ _ _ h => h) (by rfl) ?_; apply Exists.intro; refine ⟨fun w' hw' => ?_, ?_⟩; (· (have hcw := (bcell hw').1; have hfw := (bcell hw').2.1; go_simp; (try simp (disch := omega) only [IntWalk.i64_quo, IntWalk.i64_in, IntWalk.rem_in]); exact calm_value)); simp only [Act.put, List.setIfInBounds_toArray, List.set_cons_zero, List.set_cons_succ])
    first
      | (refine wpE_nope (i := 11) rfl (by kernel_rfl) (by kernel_rfl) (by kernel_rfl) (fun _ _ _ _ h => h) (by rfl) ?_; simp only [Act.put, List.setIfInBounds_toArray, List.set_cons_zero, List.set_cons_succ])
      | (refine wpE_yes (i := 11) rfl (by kernel_rfl) (by kernel_rfl) (by kernel_rfl) (fun _ _ _ _ h => h) (by rfl) ?_; apply Exists.intro; refine ⟨fun w' hw' => ?_, ?_⟩; (· (have hcw := (bcell hw').1; have hfw := (bcell hw').2.1; go_simp; (try simp (disch := omega) only [IntWalk.i64_quo, IntWalk.i64_in, IntWalk.rem_in]); exact calm_value)); simp only [Act.put, List.setIfInBounds_toArray, List.set_cons_zero, List.set_cons_succ])
    refine wpE_yes (i := 12) rfl (by kernel_rfl) (by kernel_rfl) (by kernel_rfl) (fun _ _ _ _ h => h) (by rfl) ?_; apply Exists.intro; refine ⟨fun w' hw' => ?_, ?_⟩
    · (have hcw := (bcell hw').1; have hfw := (bcell hw').2.1; go_simp; (try simp (disch := omega) only [IntWalk.i64_quo, IntWalk.i64_in, IntWalk.rem_in]); exact calm_value)
    simp only [Act.put, List.setIfInBounds_toArray, List.set_cons_zero, List.set_cons_succ]
    refine wpE_yes (i := 13) rfl (by kernel_rfl) (by kernel_rfl) (by kernel_rfl) (fun _ _ _ _ h => h) (by rfl) ?_; apply Exists.intro; refine ⟨fun w' hw' => ?_, ?_⟩
    · (have hcw := (bcell hw').1; have hfw := (bcell hw').2.1; go_simp; (try simp (disch := omega) only [IntWalk.i64_quo, IntWalk.i64_in, IntWalk.rem_in]); exact calm_value)
    simp only [Act.put, List.setIfInBounds_toArray, List.set_cons_zero, List.set_cons_succ]
    first
      | (refine wpE_nope (i := 14) rfl (by kernel_rfl) (by kernel_rfl) (by kernel_rfl) (fun _ _ _ _ h => h) (by rfl) ?_; simp only [Act.put, List.setIfInBounds_toArray, List.set_cons_zero, List.set_cons_succ])
      | (refine wpE_yes (i := 14) rfl (by kernel_rfl) (by kernel_rfl) (by kernel_rfl) (fun _ _ _ _ h => h) (by rfl) ?_; apply Exists.intro; refine ⟨fun w' hw' => ?_, ?_⟩; (· (have hcw := (bcell hw').1; have hfw := (bcell hw').2.1; go_simp; (try simp (disch := omega) only [IntWalk.i64_quo, IntWalk.i64_in, IntWalk.rem_in]); exact calm_value)); simp only [Act.put, List.setIfInBounds_toArray, List.set_cons_zero, List.set_cons_succ])
    first
      | (refine wpE_nope (i := 15) rfl (by kernel_rfl) (by kernel_rfl) (by kernel_rfl) (fun _ _ _ _ h => h) (by rfl) ?_; simp only [Act.put, List.setIfInBounds_toArray, List.set_cons_zero, List.set_cons_succ])
      | (refine wpE_yes (i := 15) rfl (by kernel_rfl) (by kernel_rfl) (by kernel_rfl) (fun _ _ _ _ h => h) (by rfl) ?_; apply Exists.intro; refine ⟨fun w' hw' => ?_, ?_⟩; (· (have hcw := (bcell hw').1; have hfw := (bcell hw').2.1; go_simp; (try simp (disch := omega) only [IntWalk.i64_quo, IntWalk.i64_in, IntWalk.rem_in]); exact calm_value)); simp only [Act.put, List.setIfInBounds_toArray, List.set_cons_zero, List.set_cons_succ])
    first
      | (refine wpE_nope (i := 16) rfl (by kernel_rfl) (by kernel_rfl) (by kernel_rfl) (fun _ _ _ _ h => h) (by rfl) ?_; simp only [Act.put, List.setIfInBounds_toArray, List.set_cons_zero, List.set_cons_succ])
      | (refine wpE_yes (i := 16) rfl (by kernel_rfl) (by kernel_rfl) (by kernel_rfl) (fun _ _ _ _ h => h) (by rfl) ?_; apply Exists.intro; refine ⟨fun w' hw' => ?_, ?_⟩; (· (have hcw := (bcell hw').1; have hfw := (bcell hw').2.1; go_simp; (try simp (disch := omega) only [IntWalk.i64_quo, IntWalk.i64_in, IntWalk.rem_in]); exact calm_value)); simp only [Act.put, List.setIfInBounds_toArray, List.set_cons_zero, List.set_cons_succ])
    first
      | (refine wpE_nope (i := 17) rfl (by kernel_rfl) (by kernel_rfl) (by kernel_rfl) (fun _ _ _ _ h => h) (by rfl) ?_; simp only [Act.put, List.setIfInBounds_toArray, List.set_cons_zero, List.set_cons_succ])
      | (refine wpE_yes (i := 17) rfl (by kernel_rfl) (by kernel_rfl) (by kernel_rfl) (fun _ _ _ _ h => h) (by rfl) ?_; apply Exists.intro; refine ⟨fun w' hw' => ?_, ?_⟩; (· (have hcw := (bcell hw').1; have hfw := (bcell hw').2.1; go_simp; (try simp (disch := omega) only [IntWalk.i64_quo, IntWalk.i64_in, IntWalk.rem_in]); exact calm_value)); simp only [Act.put, List.setIfInBounds_toArray, List.set_cons_zero, List.set_cons_succ])
    first
      | (refine wpE_nope (i := 18) rfl (by kernel_rfl) (by kernel_rfl) (by kernel_rfl) (fun _ _ _ _ h => h) (by rfl) ?_; simp only [Act.put, List.setIfInBounds_toArray, List.set_cons_zero, List.set_cons_succ])
      | (refine wpE_yes (i := 18) rfl (by kernel_rfl) (by kernel_rfl) (by kernel_rfl) (fun _ _ _ _ h => h) (by rfl) ?_; apply Exists.intro; refine ⟨fun w' hw' => ?_, ?_⟩; (· (have hcw := (bcell hw').1; have hfw := (bcell hw').2.1; go_simp; (try simp (disch := omega) only [IntWalk.i64_quo, IntWalk.i64_in, IntWalk.rem_in]); exact calm_value)); simp only [Act.put, List.setIfInBounds_toArray, List.set_cons_zero, List.set_cons_succ])
    first
      | (refine wpE_nope (i := 19) rfl (by kernel_rfl) (by kernel_rfl) (by kernel_rfl) (fun _ _ _ _ h => h) (by rfl) ?_; simp only [Act.put, List.setIfInBounds_toArray, List.set_cons_zero, List.set_cons_succ])
      | (refine wpE_yes (i := 19) rfl (by kernel_rfl) (by kernel_rfl) (by kernel_rfl) (fun _ _ _ _ h => h) (by rfl) ?_; apply Exists.intro; refine ⟨fun w' hw' => ?_, ?_⟩; (· (have hcw := (bcell hw').1; have hfw := (bcell hw').2.1; go_simp; (try simp (disch := omega) only [IntWalk.i64_quo, IntWalk.i64_in, IntWalk.rem_in]); exact calm_value)); simp only [Act.put, List.setIfInBounds_toArray, List.set_cons_zero, List.set_cons_succ])
    refine wpE_yes (i := 20) rfl (by kernel_rfl) (by kernel_rfl) (by kernel_rfl) (fun _ _ _ _ h => h) (by rfl) ?_; apply Exists.intro; refine ⟨fun w' hw' => ?_, ?_⟩
    · (have hcw := (bcell hw').1; have hfw := (bcell hw').2.1; go_simp; exact calm_call (longest_any _ _ _ _ _ _ (by omega) (by omega) (by omega) (by omega)) (fun _ hb => Grew.trans hw' hb))
    simp only [Act.put, List.setIfInBounds_toArray, List.set_cons_zero, List.set_cons_succ]
    first
      | (refine wpE_nope (i := 21) rfl (by kernel_rfl) (by kernel_rfl) (by kernel_rfl) (fun _ _ _ _ h => h) (by rfl) ?_; simp only [Act.put, List.setIfInBounds_toArray, List.set_cons_zero, List.set_cons_succ])
      | (refine wpE_yes (i := 21) rfl (by kernel_rfl) (by kernel_rfl) (by kernel_rfl) (fun _ _ _ _ h => h) (by rfl) ?_; apply Exists.intro; refine ⟨fun w' hw' => ?_, ?_⟩; (· (have hcw := (bcell hw').1; have hfw := (bcell hw').2.1; go_simp; (try simp (disch := omega) only [IntWalk.i64_quo, IntWalk.i64_in, IntWalk.rem_in]); exact calm_value)); simp only [Act.put, List.setIfInBounds_toArray, List.set_cons_zero, List.set_cons_succ])
    first
      | (refine wpE_nope (i := 22) rfl (by kernel_rfl) (by kernel_rfl) (by kernel_rfl) (fun _ _ _ _ h => h) (by rfl) ?_; simp only [Act.put, List.setIfInBounds_toArray, List.set_cons_zero, List.set_cons_succ])
      | (refine wpE_yes (i := 22) rfl (by kernel_rfl) (by kernel_rfl) (by kernel_rfl) (fun _ _ _ _ h => h) (by rfl) ?_; apply Exists.intro; refine ⟨fun w' hw' => ?_, ?_⟩; (· (have hcw := (bcell hw').1; have hfw := (bcell hw').2.1; go_simp; (try simp (disch := omega) only [IntWalk.i64_quo, IntWalk.i64_in, IntWalk.rem_in]); exact calm_value)); simp only [Act.put, List.setIfInBounds_toArray, List.set_cons_zero, List.set_cons_succ])
    refine wpE_yes (i := 23) rfl (by kernel_rfl) (by kernel_rfl) (by kernel_rfl) (fun _ _ _ _ h => h) (by rfl) ?_; apply Exists.intro; refine ⟨fun w' hw' => ?_, ?_⟩
    · (have hcw := (bcell hw').1; have hfw := (bcell hw').2.1; go_simp; (try simp (disch := omega) only [IntWalk.i64_quo, IntWalk.i64_in, IntWalk.rem_in]); exact calm_value)
    simp only [Act.put, List.setIfInBounds_toArray, List.set_cons_zero, List.set_cons_succ]
    refine wpE_yes (i := 24) rfl (by kernel_rfl) (by kernel_rfl) (by kernel_rfl) (fun _ _ _ _ h => h) (by rfl) ?_; apply Exists.intro; refine ⟨fun w' hw' => ?_, ?_⟩
    · (have hcw := (bcell hw').1; have hfw := (bcell hw').2.1; go_simp; (try simp (disch := omega) only [IntWalk.i64_quo, IntWalk.i64_in, IntWalk.rem_in]); exact calm_value)
    simp only [Act.put, List.setIfInBounds_toArray, List.set_cons_zero, List.set_cons_succ]
    refine wpE_done (by kernel_rfl) (fun w1 hb1 hC1 => ?_) _
    (have hc1 := (bcell hb1).1; have hf1 := (bcell hb1).2.1; have hs1 := (bcell hb1).2.2; (try simp [go_sem] at hs1); have z1_0 : w.heap.size < w1.heap.size := (by omega); have y1_0 : (w.heap.size = w1.heap.size) = False := eq_false (by omega); have c1_0_0 := hc1 (w.heap.size) 0 (by first | omega | (simp; done) | (simp; omega)); have c1_0_1 := hc1 (w.heap.size) 1 (by first | omega | (simp; done) | (simp; omega)); have c1_0_2 := hc1 (w.heap.size) 2 (by first | omega | (simp; done) | (simp; omega)); have c1_0_3 := hc1 (w.heap.size) 3 (by first | omega | (simp; done) | (simp; omega)); have f1_0 : ∀ i, w1.frozen? ⟨w.heap.size, i, none⟩ = false := fun i => (hf1 (w.heap.size) i (by first | omega | (simp; done) | (simp; omega))).trans (by simp [go_sem, *]); clear hc1 hf1; simp [go_sem, *] at c1_0_0; simp [go_sem, *] at c1_0_1; simp [go_sem, *] at c1_0_2; simp [go_sem, *] at c1_0_3)
    clear hC1
    go_wp2_with fail
    go_ret
    refine ⟨rfl, ?_⟩
    (repeat (first | exact Below.refl _ _ | refine Below.setCell ?_ (by first | omega | (simp; done) | (simp; omega)) _ | refine Below.alloc ?_ (by first | omega | (simp; done) | (simp; omega)) _ | refine below_drewN ?_ _ | refine Below.drew ?_ | refine Below.trans ?_ (Below.mono (by assumption) (by first | omega | (simp; done) | (simp; omega)))))
end Go.Proofs.Ythebnpophckgcaa
