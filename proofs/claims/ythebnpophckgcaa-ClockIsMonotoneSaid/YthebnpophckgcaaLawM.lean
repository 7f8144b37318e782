/-
  ClockIsMonotone holds for every input, without a condition: for every clock and any two readings, valid or not, the law returns true and its arguments read afterwards as before.
-/
import Derived.Test.YthebnpophckgcaaWl
import Derived.Test.YthebnpophckgcaaWm
namespace Go.Proofs.Ythebnpophckgcaa
open Go.ChangeShapes Go.WideShapes Go.ChangeAt Go.RowKit
set_option linter.unusedSimpArgs false
set_option linter.unusedVariables false
set_option maxHeartbeats 2000000
set_option maxRecDepth 100000
theorem loE_mono {r e f : Int} (h1 : 0 ≤ r) (h2 : r ≤ 100000) (h : e ≤ f) : loE r e ≤ loE r f := by
  unfold loE; exact Int.ediv_le_ediv (by omega) (by omega)
theorem hiE_mono {r e f : Int} (h1 : 0 ≤ r) (h2 : r ≤ 100000) (h : e ≤ f) : hiE r e ≤ hiE r f := by
  rw [← hiE_alt r e h1 h2, ← hiE_alt r f h1 h2]; exact Int.ediv_le_ediv (by omega) (by omega)
theorem loE_zero (e : Int) : loE 0 e = e := by unfold loE; omega
theorem hiE_zero (e : Int) : hiE 0 e = e := by rw [← hiE_alt 0 e (by omega) (by omega)]; omega
theorem mono_plain {r l a b x y p1 p2 q1 q2 : Int} (hx : atF r l a b x = ((p1, p2), 0)) (hy : atF r l a b y = ((q1, q2), 0)) (hxy : x ≤ y) :
    p1 ≤ q1 ∧ p2 ≤ q2 ∧ (r = 0 → p2 - p1 = q2 - q1) ∧ b - a ≤ p2 - p1 ∧ 0 ≤ r ∧ (0 ≤ p1 ∧ p1 ≤ p2 ∧ p2 ≤ 1099511627776) ∧ (0 ≤ q1 ∧ q1 ≤ q2 ∧ q2 ≤ 1099511627776) ∧ 0 ≤ a ∧ a ≤ b ∧ b ≤ 1099511627776 := by
  rcases atF_ways r l a b x with ⟨h, _⟩ | ⟨_, _, h⟩ | ⟨h1, h2, h3, h4, h⟩
  · rw [h] at hx; simp at hx
  · rw [h] at hx; simp at hx
  rcases atF_ways r l a b y with ⟨k, _⟩ | ⟨_, _, k⟩ | ⟨k1, k2, k3, k4, k⟩
  · rw [k] at hy; simp at hy
  · rw [k] at hy; simp at hy
  rw [h] at hx; rw [k] at hy
  simp only [Prod.mk.injEq, and_true] at hx hy
  obtain ⟨rfl, rfl⟩ := hx
  obtain ⟨rfl, rfl⟩ := hy
  obtain ⟨r1, r2, r3, r4⟩ := okc_t h1
  obtain ⟨l1, l2⟩ := isT_t r3
  obtain ⟨a1, a2, a3⟩ := vld_t r4
  obtain ⟨x1, x2⟩ := isT_t h2
  obtain ⟨y1, y2⟩ := isT_t k2
  have e1 := loE_mono r1 r2 (show x - l ≤ y - l by omega)
  have e2 := hiE_mono r1 r2 (show x - l ≤ y - l by omega)
  have e3 := loE_bd r1 r2 (show 0 ≤ x - l by omega) (by omega)
  have e4 := hiE_bd r1 r2 (show 0 ≤ x - l by omega) (by omega)
  have v1 := vld_t h4
  have v2 := vld_t k4
  refine ⟨by omega, by omega, ?_, by omega, r1, v1, v2, a1, a2, a3⟩
  intro h0; subst h0; rw [loE_zero, loE_zero, hiE_zero, hiE_zero]; omega
theorem atF_three (r l a b n : Int) : atF r l a b n = ((0, 0), 1) ∨ atF r l a b n = ((0, 0), 16) ∨ ∃ p q, atF r l a b n = ((p, q), 0) := by
  rcases atF_ways r l a b n with ⟨h, _⟩ | ⟨_, _, h⟩ | ⟨_, _, _, _, h⟩
  · exact .inl h
  · exact .inr (.inl h)
  · exact .inr (.inr ⟨_, _, h⟩)
theorem monotone_walk (r l a b one two : Int) (w : World) : Calls Try.prog 9 #[ck r l a b, .int .i64 one, .int .i64 two] w fun e w' => e = .returned (.bool true) ∧ Below w.heap.size w w' := by
  have hmn := mn
  have hmx := mx
  have herr : ∀ z : Int, (z = 1 ∨ z = 16) → atF r l a b (min one two) = ((0, 0), z) → Calls Try.prog 9 #[ck r l a b, .int .i64 one, .int .i64 two] w fun e w' => e = .returned (.bool true) ∧ Below w.heap.size w w' := by
    intro z hz h
    rcases hz with rfl | rfl
    all_goals
      have A1 := at_eq h
      clear h
      go_enter Try.func9, Try.ntmps9
      go_wp2_with fail
      (go_at_call 14; refine (A1 _).mono ?_; rintro e w1 ⟨rfl, hb1⟩; have hc1 := (bcell hb1).1; have hf1 := (bcell hb1).2.1; have hs1 := (bcell hb1).2.2; (try simp [go_sem] at hs1); have z1_0 : w.heap.size < w1.heap.size := (by omega); have y1_0 : (w.heap.size = w1.heap.size) = False := eq_false (by omega); have c1_0_0 := hc1 (w.heap.size) 0 (by first | omega | (simp; done) | (simp; omega)); have c1_0_1 := hc1 (w.heap.size) 1 (by first | omega | (simp; done) | (simp; omega)); have c1_0_2 := hc1 (w.heap.size) 2 (by first | omega | (simp; done) | (simp; omega)); have c1_0_3 := hc1 (w.heap.size) 3 (by first | omega | (simp; done) | (simp; omega)); have f1_0 : ∀ i, w1.frozen? ⟨w.heap.size, i, none⟩ = false := fun i => (hf1 (w.heap.size) i (by first | omega | (simp; done) | (simp; omega))).trans (by simp [go_sem, *]); clear hc1 hf1; simp [go_sem, *] at c1_0_0; simp [go_sem, *] at c1_0_1; simp [go_sem, *] at c1_0_2; simp [go_sem, *] at c1_0_3)
      go_wp2_with fail
      (go_at_call 14; refine (at_any _ _ _ _ _ _).mono ?_; rintro e w2 ⟨rfl, hb2⟩; have hc2 := (bcell hb2).1; have hf2 := (bcell hb2).2.1; have hs2 := (bcell hb2).2.2; (try simp [go_sem] at hs2); have z2_0 : w.heap.size < w2.heap.size := (by omega); have y2_0 : (w.heap.size = w2.heap.size) = False := eq_false (by omega); have c2_0_0 := hc2 (w.heap.size) 0 (by first | omega | (simp; done) | (simp; omega)); have c2_0_1 := hc2 (w.heap.size) 1 (by first | omega | (simp; done) | (simp; omega)); have c2_0_2 := hc2 (w.heap.size) 2 (by first | omega | (simp; done) | (simp; omega)); have c2_0_3 := hc2 (w.heap.size) 3 (by first | omega | (simp; done) | (simp; omega)); have f2_0 : ∀ i, w2.frozen? ⟨w.heap.size, i, none⟩ = false := fun i => (hf2 (w.heap.size) i (by first | omega | (simp; done) | (simp; omega))).trans (by simp [go_sem, *]); clear hc2 hf2; simp [go_sem, *] at c2_0_0; simp [go_sem, *] at c2_0_1; simp [go_sem, *] at c2_0_2; simp [go_sem, *] at c2_0_3; (try clear y1_0 f1_0 c1_0_0 c1_0_1 c1_0_2 c1_0_3))
      go_wp2_with fail
      (go_at_call 12; refine (sanity_any _).mono ?_; rintro e w3 ⟨rfl, hb3⟩; have hc3 := (bcell hb3).1; have hf3 := (bcell hb3).2.1; have hs3 := (bcell hb3).2.2; (try simp [go_sem] at hs3); have z3_0 : w.heap.size < w3.heap.size := (by omega); have y3_0 : (w.heap.size = w3.heap.size) = False := eq_false (by omega); have c3_0_0 := hc3 (w.heap.size) 0 (by first | omega | (simp; done) | (simp; omega)); have c3_0_1 := hc3 (w.heap.size) 1 (by first | omega | (simp; done) | (simp; omega)); have c3_0_2 := hc3 (w.heap.size) 2 (by first | omega | (simp; done) | (simp; omega)); have c3_0_3 := hc3 (w.heap.size) 3 (by first | omega | (simp; done) | (simp; omega)); have f3_0 : ∀ i, w3.frozen? ⟨w.heap.size, i, none⟩ = false := fun i => (hf3 (w.heap.size) i (by first | omega | (simp; done) | (simp; omega))).trans (by simp [go_sem, *]); clear hc3 hf3; simp [go_sem, *] at c3_0_0; simp [go_sem, *] at c3_0_1; simp [go_sem, *] at c3_0_2; simp [go_sem, *] at c3_0_3; (try clear y2_0 f2_0 c2_0_0 c2_0_1 c2_0_2 c2_0_3))
      go_wp2_with fail
      go_ret
      refine ⟨rfl, ?_⟩
      (repeat (first | exact Below.refl _ _ | refine Below.setCell ?_ (by first | omega | (simp; done) | (simp; omega)) _ | refine Below.alloc ?_ (by first | omega | (simp; done) | (simp; omega)) _ | refine below_drewN ?_ _ | refine Below.drew ?_ | refine Below.trans ?_ (Below.mono (by assumption) (by first | omega | (simp; done) | (simp; omega)))))
  rcases atF_three r l a b (min one two) with h | h | ⟨p1, p2, h⟩
  · exact herr 1 (.inl rfl) h
  · exact herr 16 (.inr rfl) h
  clear herr
  have herr : ∀ z : Int, (z = 1 ∨ z = 16) → atF r l a b (max one two) = ((0, 0), z) → Calls Try.prog 9 #[ck r l a b, .int .i64 one, .int .i64 two] w fun e w' => e = .returned (.bool true) ∧ Below w.heap.size w w' := by
    intro z hz k
    rcases hz with rfl | rfl
    all_goals
      have A1 := at_eq h
      have A2 := at_eq k
      clear h k
      go_enter Try.func9, Try.ntmps9
      go_wp2_with fail
      (go_at_call 14; refine (A1 _).mono ?_; rintro e w1 ⟨rfl, hb1⟩; have hc1 := (bcell hb1).1; have hf1 := (bcell hb1).2.1; have hs1 := (bcell hb1).2.2; (try simp [go_sem] at hs1); have z1_0 : w.heap.size < w1.heap.size := (by omega); have y1_0 : (w.heap.size = w1.heap.size) = False := eq_false (by omega); have c1_0_0 := hc1 (w.heap.size) 0 (by first | omega | (simp; done) | (simp; omega)); have c1_0_1 := hc1 (w.heap.size) 1 (by first | omega | (simp; done) | (simp; omega)); have c1_0_2 := hc1 (w.heap.size) 2 (by first | omega | (simp; done) | (simp; omega)); have c1_0_3 := hc1 (w.heap.size) 3 (by first | omega | (simp; done) | (simp; omega)); have f1_0 : ∀ i, w1.frozen? ⟨w.heap.size, i, none⟩ = false := fun i => (hf1 (w.heap.size) i (by first | omega | (simp; done) | (simp; omega))).trans (by simp [go_sem, *]); clear hc1 hf1; simp [go_sem, *] at c1_0_0; simp [go_sem, *] at c1_0_1; simp [go_sem, *] at c1_0_2; simp [go_sem, *] at c1_0_3)
      go_wp2_with fail
      (go_at_call 14; refine (A2 _).mono ?_; rintro e w2 ⟨rfl, hb2⟩; have hc2 := (bcell hb2).1; have hf2 := (bcell hb2).2.1; have hs2 := (bcell hb2).2.2; (try simp [go_sem] at hs2); have z2_0 : w.heap.size < w2.heap.size := (by omega); have y2_0 : (w.heap.size = w2.heap.size) = False := eq_false (by omega); have c2_0_0 := hc2 (w.heap.size) 0 (by first | omega | (simp; done) | (simp; omega)); have c2_0_1 := hc2 (w.heap.size) 1 (by first | omega | (simp; done) | (simp; omega)); have c2_0_2 := hc2 (w.heap.size) 2 (by first | omega | (simp; done) | (simp; omega)); have c2_0_3 := hc2 (w.heap.size) 3 (by first | omega | (simp; done) | (simp; omega)); have f2_0 : ∀ i, w2.frozen? ⟨w.heap.size, i, none⟩ = false := fun i => (hf2 (w.heap.size) i (by first | omega | (simp; done) | (simp; omega))).trans (by simp [go_sem, *]); clear hc2 hf2; simp [go_sem, *] at c2_0_0; simp [go_sem, *] at c2_0_1; simp [go_sem, *] at c2_0_2; simp [go_sem, *] at c2_0_3; (try clear y1_0 f1_0 c1_0_0 c1_0_1 c1_0_2 c1_0_3))
      go_wp2_with fail
      (go_at_call 12; refine (sanity_any _).mono ?_; rintro e w3 ⟨rfl, hb3⟩; have hc3 := (bcell hb3).1; have hf3 := (bcell hb3).2.1; have hs3 := (bcell hb3).2.2; (try simp [go_sem] at hs3); have z3_0 : w.heap.size < w3.heap.size := (by omega); have y3_0 : (w.heap.size = w3.heap.size) = False := eq_false (by omega); have c3_0_0 := hc3 (w.heap.size) 0 (by first | omega | (simp; done) | (simp; omega)); have c3_0_1 := hc3 (w.heap.size) 1 (by first | omega | (simp; done) | (simp; omega)); have c3_0_2 := hc3 (w.heap.size) 2 (by first | omega | (simp; done) | (simp; omega)); have c3_0_3 := hc3 (w.heap.size) 3 (by first | omega | (simp; done) | (simp; omega)); have f3_0 : ∀ i, w3.frozen? ⟨w.heap.size, i, none⟩ = false := fun i => (hf3 (w.heap.size) i (by first | omega | (simp; done) | (simp; omega))).trans (by simp [go_sem, *]); clear hc3 hf3; simp [go_sem, *] at c3_0_0; simp [go_sem, *] at c3_0_1; simp [go_sem, *] at c3_0_2; simp [go_sem, *] at c3_0_3; (try clear y2_0 f2_0 c2_0_0 c2_0_1 c2_0_2 c2_0_3))
      go_wp2_with fail
      go_ret
      refine ⟨rfl, ?_⟩
      (repeat (first | exact Below.refl _ _ | refine Below.setCell ?_ (by first | omega | (simp; done) | (simp; omega)) _ | refine Below.alloc ?_ (by first | omega | (simp; done) | (simp; omega)) _ | refine below_drewN ?_ _ | refine Below.drew ?_ | refine Below.trans ?_ (Below.mono (by assumption) (by first | omega | (simp; done) | (simp; omega)))))
  rcases atF_three r l a b (max one two) with k | k | ⟨q1, q2, k⟩
  · exact herr 1 (.inl rfl) k
  · exact herr 16 (.inr rfl) k
  clear herr
  obtain ⟨e1, e2, e3, e4, e5, ⟨p3, p4, p5⟩, ⟨q3, q4, q5⟩, a1, a2, a3⟩ := mono_plain h k (by omega)
  have A1 := at_eq h
  have A2 := at_eq k
  clear h k
  rcases Int.lt_or_le 0 r with hr | hr
  · clear e3
    go_enter Try.func9, Try.ntmps9
    go_wp2_with fail
    (go_at_call 14; refine (A1 _).mono ?_; rintro e w1 ⟨rfl, hb1⟩; have hc1 := (bcell hb1).1; have hf1 := (bcell hb1).2.1; have hs1 := (bcell hb1).2.2; (try simp [go_sem] at hs1); have z1_0 : w.heap.size < w1.heap.size := (by omega); have y1_0 : (w.heap.size = w1.heap.size) = False := eq_false (by omega); have c1_0_0 := hc1 (w.heap.size) 0 (by first | omega | (simp; done) | (simp; omega)); have c1_0_1 := hc1 (w.heap.size) 1 (by first | omega | (simp; done) | (simp; omega)); have c1_0_2 := hc1 (w.heap.size) 2 (by first | omega | (simp; done) | (simp; omega)); have c1_0_3 := hc1 (w.heap.size) 3 (by first | omega | (simp; done) | (simp; omega)); have f1_0 : ∀ i, w1.frozen? ⟨w.heap.size, i, none⟩ = false := fun i => (hf1 (w.heap.size) i (by first | omega | (simp; done) | (simp; omega))).trans (by simp [go_sem, *]); clear hc1 hf1; simp [go_sem, *] at c1_0_0; simp [go_sem, *] at c1_0_1; simp [go_sem, *] at c1_0_2; simp [go_sem, *] at c1_0_3)
    go_wp2_with fail
    (go_at_call 14; refine (A2 _).mono ?_; rintro e w2 ⟨rfl, hb2⟩; have hc2 := (bcell hb2).1; have hf2 := (bcell hb2).2.1; have hs2 := (bcell hb2).2.2; (try simp [go_sem] at hs2); have z2_0 : w.heap.size < w2.heap.size := (by omega); have y2_0 : (w.heap.size = w2.heap.size) = False := eq_false (by omega); have c2_0_0 := hc2 (w.heap.size) 0 (by first | omega | (simp; done) | (simp; omega)); have c2_0_1 := hc2 (w.heap.size) 1 (by first | omega | (simp; done) | (simp; omega)); have c2_0_2 := hc2 (w.heap.size) 2 (by first | omega | (simp; done) | (simp; omega)); have c2_0_3 := hc2 (w.heap.size) 3 (by first | omega | (simp; done) | (simp; omega)); have f2_0 : ∀ i, w2.frozen? ⟨w.heap.size, i, none⟩ = false := fun i => (hf2 (w.heap.size) i (by first | omega | (simp; done) | (simp; omega))).trans (by simp [go_sem, *]); have z2_1 : w1.heap.size < w2.heap.size := (by omega); have y2_1 : (w1.heap.size = w2.heap.size) = False := eq_false (by omega); have c2_1_0 := hc2 (w1.heap.size) 0 (by first | omega | (simp; done) | (simp; omega)); have c2_1_1 := hc2 (w1.heap.size) 1 (by first | omega | (simp; done) | (simp; omega)); have f2_1 : ∀ i, w2.frozen? ⟨w1.heap.size, i, none⟩ = false := fun i => (hf2 (w1.heap.size) i (by first | omega | (simp; done) | (simp; omega))).trans (by simp [go_sem, *]); clear hc2 hf2; simp [go_sem, *] at c2_0_0; simp [go_sem, *] at c2_0_1; simp [go_sem, *] at c2_0_2; simp [go_sem, *] at c2_0_3; simp [go_sem, *] at c2_1_0; simp [go_sem, *] at c2_1_1; (try clear y1_0 f1_0 c1_0_0 c1_0_1 c1_0_2 c1_0_3))
    go_wp2_with fail
    refine wp_region_ext (by kernel_rfl) ?_
    refine wpE_yes (i := 0) rfl (by kernel_rfl) (by kernel_rfl) (by kernel_rfl) (fun _ _ _ _ h => h) (by rfl) ?_; apply Exists.intro; refine ⟨fun w' hw' => ?_, ?_⟩
    · (have hcw := (bcell hw').1; have hfw := (bcell hw').2.1; go_simp; exact calm_call (sanity_any _) (fun _ hb => Grew.trans hw' hb))
    simp only [Act.put, List.setIfInBounds_toArray, List.set_cons_zero, List.set_cons_succ]
    refine wpE_yes (i := 1) rfl (by kernel_rfl) (by kernel_rfl) (by kernel_rfl) (fun _ _ _ _ h => h) (by rfl) ?_; apply Exists.intro; refine ⟨fun w' hw' => ?_, ?_⟩
    · (have hcw := (bcell hw').1; have hfw := (bcell hw').2.1; go_simp; (try simp (disch := omega) only [IntWalk.i64_quo, IntWalk.i64_in, IntWalk.rem_in]); exact calm_value)
    simp only [Act.put, List.setIfInBounds_toArray, List.set_cons_zero, List.set_cons_succ]
    first
      | (refine wpE_nope (i := 2) rfl (by kernel_rfl) (by kernel_rfl) (by kernel_rfl) (fun _ _ _ _ h => h) (by rfl) ?_; simp only [Act.put, List.setIfInBounds_toArray, List.set_cons_zero, List.set_cons_succ])
      | (refine wpE_yes (i := 2) rfl (by kernel_rfl) (by kernel_rfl) (by kernel_rfl) (fun _ _ _ _ h => h) (by rfl) ?_; apply Exists.intro; refine ⟨fun w' hw' => ?_, ?_⟩; (· (have hcw := (bcell hw').1; have hfw := (bcell hw').2.1; go_simp; (try simp (disch := omega) only [IntWalk.i64_quo, IntWalk.i64_in, IntWalk.rem_in]); exact calm_value)); simp only [Act.put, List.setIfInBounds_toArray, List.set_cons_zero, List.set_cons_succ])
    first
      | (refine wpE_nope (i := 3) rfl (by kernel_rfl) (by kernel_rfl) (by kernel_rfl) (fun _ _ _ _ h => h) (by rfl) ?_; simp only [Act.put, List.setIfInBounds_toArray, List.set_cons_zero, List.set_cons_succ])
      | (refine wpE_yes (i := 3) rfl (by kernel_rfl) (by kernel_rfl) (by kernel_rfl) (fun _ _ _ _ h => h) (by rfl) ?_; apply Exists.intro; refine ⟨fun w' hw' => ?_, ?_⟩; (· (have hcw := (bcell hw').1; have hfw := (bcell hw').2.1; go_simp; (try simp (disch := omega) only [IntWalk.i64_quo, IntWalk.i64_in, IntWalk.rem_in]); exact calm_value)); simp only [Act.put, List.setIfInBounds_toArray, List.set_cons_zero, List.set_cons_succ])
    first
      | (refine wpE_nope (i := 4) rfl (by kernel_rfl) (by kernel_rfl) (by kernel_rfl) (fun _ _ _ _ h => h) (by rfl) ?_; simp only [Act.put, List.setIfInBounds_toArray, List.set_cons_zero, List.set_cons_succ])
      | (refine wpE_yes (i := 4) rfl (by kernel_rfl) (by kernel_rfl) (by kernel_rfl) (fun _ _ _ _ h => h) (by rfl) ?_; apply Exists.intro; refine ⟨fun w' hw' => ?_, ?_⟩; (· (have hcw := (bcell hw').1; have hfw := (bcell hw').2.1; go_simp; (try simp (disch := omega) only [IntWalk.i64_quo, IntWalk.i64_in, IntWalk.rem_in]); exact calm_value)); simp only [Act.put, List.setIfInBounds_toArray, List.set_cons_zero, List.set_cons_succ])
    first
      | (refine wpE_nope (i := 5) rfl (by kernel_rfl) (by kernel_rfl) (by kernel_rfl) (fun _ _ _ _ h => h) (by rfl) ?_; simp only [Act.put, List.setIfInBounds_toArray, List.set_cons_zero, List.set_cons_succ])
      | (refine wpE_yes (i := 5) rfl (by kernel_rfl) (by kernel_rfl) (by kernel_rfl) (fun _ _ _ _ h => h) (by rfl) ?_; apply Exists.intro; refine ⟨fun w' hw' => ?_, ?_⟩; (· (have hcw := (bcell hw').1; have hfw := (bcell hw').2.1; go_simp; (try simp (disch := omega) only [IntWalk.i64_quo, IntWalk.i64_in, IntWalk.rem_in]); exact calm_value)); simp only [Act.put, List.setIfInBounds_toArray, List.set_cons_zero, List.set_cons_succ])
    first
      | (refine wpE_nope (i := 6) rfl (by kernel_rfl) (by kernel_rfl) (by kernel_rfl) (fun _ _ _ _ h => h) (by rfl) ?_; simp only [Act.put, List.setIfInBounds_toArray, List.set_cons_zero, List.set_cons_succ])
      | (refine wpE_yes (i := 6) rfl (by kernel_rfl) (by kernel_rfl) (by kernel_rfl) (fun _ _ _ _ h => h) (by rfl) ?_; apply Exists.intro; refine ⟨fun w' hw' => ?_, ?_⟩; (· (have hcw := (bcell hw').1; have hfw := (bcell hw').2.1; go_simp; (try simp (disch := omega) only [IntWalk.i64_quo, IntWalk.i64_in, IntWalk.rem_in]); exact calm_value)); simp only [Act.put, List.setIfInBounds_toArray, List.set_cons_zero, List.set_cons_succ])
    refine wpE_yes (i := 7) rfl (by kernel_rfl) (by kernel_rfl) (by kernel_rfl) (fun _ _ _ _ h => h) (by rfl) ?_; apply Exists.intro; refine ⟨fun w' hw' => ?_, ?_⟩
    · (have hcw := (bcell hw').1; have hfw := (bcell hw').2.1; go_simp; (try simp (disch := omega) only [IntWalk.i64_quo, IntWalk.i64_in, IntWalk.rem_in]); exact calm_value)
    simp only [Act.put, List.setIfInBounds_toArray, List.set_cons_zero, List.set_cons_succ]
    refine wpE_yes (i := 8) rfl (by kernel_rfl) (by kernel_rfl) (by kernel_rfl) (fun _ _ _ _ h => h) (by rfl) ?_; apply Exists.intro; refine ⟨fun w' hw' => ?_, ?_⟩
    · (have hcw := (bcell hw').1; have hfw := (bcell hw').2.1; go_simp; (try simp (disch := omega) only [IntWalk.i64_quo, IntWalk.i64_in, IntWalk.rem_in]); exact calm_value)
    simp only [Act.put, List.setIfInBounds_toArray, List.set_cons_zero, List.set_cons_succ]
    first
      | (refine wpE_nope (i := 9) rfl (by kernel_rfl) (by kernel_rfl) (by kernel_rfl) (fun _ _ _ _ h => h) (by rfl) ?_; simp only [Act.put, List.setIfInBounds_toArray, List.set_cons_zero, List.set_cons_succ])
      | (refine wpE_yes (i := 9) rfl (by kernel_rfl) (by kernel_rfl) (by kernel_rfl) (fun _ _ _ _ h => h) (by rfl) ?_; apply Exists.intro; refine ⟨fun w' hw' => ?_, ?_⟩; (· (have hcw := (bcell hw').1; have hfw := (bcell hw').2.1; go_simp; (try simp (disch := omega) only [IntWalk.i64_quo, IntWalk.i64_in, IntWalk.rem_in]); exact calm_value)); simp only [Act.put, List.setIfInBounds_toArray, List.set_cons_zero, List.set_cons_succ])
    first
      | (refine wpE_nope (i := 10) rfl (by kernel_rfl) (by kernel_rfl) (by kernel_rfl) (fun _ _ _ _ h => h) (by rfl) ?_; simp only [Act.put, List.setIfInBounds_toArray, List.set_cons_zero, List.set_cons_succ])
      | (refine wpE_yes (i := 10) rfl (by kernel_rfl) (by kernel_rfl) (by kernel_rfl) (fun _ _ _ _ h => h) (by rfl) ?_; apply Exists.intro; refine ⟨fun w' hw' => ?_, ?_⟩; (· (have hcw := (bcell hw').1; have hfw := (bcell hw').2.1; go_simp; (try simp (disch := omega) only [IntWalk.i64_quo, IntWalk.i64_in, IntWalk.rem_in]); exact calm_value)); simp only [Act.put, List.setIfInBounds_toArray, List.set_cons_zero, List.set_cons_succ])
    first
      | (refine wpE_nope (i := 11) rfl (by kernel_rfl) (by kernel_rfl) (by kernel_rfl) (fun _ _ _ _ h => h) (by rfl) ?_; simp only [Act.put, List.setIfInBounds_toArray, List.set_cons_zero, List.set_cons_succ])
      | (refine wpE_yes (i := 11) rfl (by kernel_rfl) (by kernel_rfl) (by kernel_rfl) (fun _ _ _ _ h => h) (by rfl) ?_; apply Exists.intro; refine ⟨fun w' hw' => ?_, ?_⟩; (· (have hcw := (bcell hw').1; have hfw := (bcell hw').2.1; go_simp; (try simp (disch := omega) only [IntWalk.i64_quo, IntWalk.i64_in, IntWalk.rem_in]); exact calm_value)); simp only [Act.put, List.setIfInBounds_toArray, List.set_cons_zero, List.set_cons_succ])
    first
      | (refine wpE_nope (i := 12) rfl (by kernel_rfl) (by kernel_rfl) (by kernel_rfl) (fun _ _ _ _ h => h) (by rfl) ?_; simp only [Act.put, List.setIfInBounds_toArray, List.set_cons_zero, List.set_cons_succ])
      | (refine wpE_yes (i := 12) rfl (by kernel_rfl) (by kernel_rfl) (by kernel_rfl) (fun _ _ _ _ h => h) (by rfl) ?_; apply Exists.intro; refine ⟨fun w' hw' => ?_, ?_⟩; (· (have hcw := (bcell hw').1; have hfw := (bcell hw').2.1; go_simp; (try simp (disch := omega) only [IntWalk.i64_quo, IntWalk.i64_in, IntWalk.rem_in]); exact calm_value)); simp only [Act.put, List.setIfInBounds_toArray, List.set_cons_zero, List.set_cons_succ])
    first
      | (refine wpE_nope (i := 13) rfl (by kernel_rfl) (by kernel_rfl) (by kernel_rfl) (fun _ _ _ _ h => h) (by rfl) ?_; simp only [Act.put, List.setIfInBounds_toArray, List.set_cons_zero, List.set_cons_succ])
      | (refine wpE_yes (i := 13) rfl (by kernel_rfl) (by kernel_rfl) (by kernel_rfl) (fun _ _ _ _ h => h) (by rfl) ?_; apply Exists.intro; refine ⟨fun w' hw' => ?_, ?_⟩; (· (have hcw := (bcell hw').1; have hfw := (bcell hw').2.1; go_simp; (try simp (disch := omega) only [IntWalk.i64_quo, IntWalk.i64_in, IntWalk.rem_in]); exact calm_value)); simp only [Act.put, List.setIfInBounds_toArray, List.set_cons_zero, List.set_cons_succ])
    refine wpE_yes (i := 14) rfl (by kernel_rfl) (by kernel_rfl) (by kernel_rfl) (fun _ _ _ _ h => h) (by rfl) ?_; apply Exists.intro; refine ⟨fun w' hw' => ?_, ?_⟩
    · (have hcw := (bcell hw').1; have hfw := (bcell hw').2.1; go_simp; (try simp (disch := omega) only [IntWalk.i64_quo, IntWalk.i64_in, IntWalk.rem_in]); exact calm_value)
    simp only [Act.put, List.setIfInBounds_toArray, List.set_cons_zero, List.set_cons_succ]
    refine wpE_yes (i := 15) rfl (by kernel_rfl) (by kernel_rfl) (by kernel_rfl) (fun _ _ _ _ h => h) (by rfl) ?_; apply Exists.intro; refine ⟨fun w' hw' => ?_, ?_⟩
    · (have hcw := (bcell hw').1; have hfw := (bcell hw').2.1; go_simp; (try simp (disch := omega) only [IntWalk.i64_quo, IntWalk.i64_in, IntWalk.rem_in]); exact calm_value)
    simp only [Act.put, List.setIfInBounds_toArray, List.set_cons_zero, List.set_cons_succ]
    first
      | (refine wpE_nope (i := 16) rfl (by kernel_rfl) (by kernel_rfl) (by kernel_rfl) (fun _ _ _ _ h => h) (by rfl) ?_; simp only [Act.put, List.setIfInBounds_toArray, List.set_cons_zero, List.set_cons_succ])
      | (refine wpE_yes (i := 16) rfl (by kernel_rfl) (by kernel_rfl) (by kernel_rfl) (fun _ _ _ _ h => h) (by rfl) ?_; apply Exists.intro; refine ⟨fun w' hw' => ?_, ?_⟩; (· (have hcw := (bcell hw').1; have hfw := (bcell hw').2.1; go_simp; (try simp (disch := omega) only [IntWalk.i64_quo, IntWalk.i64_in, IntWalk.rem_in]); exact calm_value)); simp only [Act.put, List.setIfInBounds_toArray, List.set_cons_zero, List.set_cons_succ])
    first
      | (refine wpE_nope (i := 17) rfl (by kernel_rfl) (by kernel_rfl) (by kernel_rfl) (fun _ _ _ _ h => h) (by rfl) ?_; simp only [Act.put, List.setIfInBounds_toArray, List.set_cons_zero, List.set_cons_succ])
      | (refine wpE_yes (i := 17) rfl (by kernel_rfl) (by kernel_rfl) (by kernel_rfl) (fun _ _ _ _ h => h) (by rfl) ?_; apply Exists.intro; refine ⟨fun w' hw' => ?_, ?_⟩; (· (have hcw := (bcell hw').1; have hfw := (bcell hw').2.1; go_simp; (try simp (disch := omega) only [IntWalk.i64_quo, IntWalk.i64_in, IntWalk.rem_in]); exact calm_value)); simp only [Act.put, List.setIfInBounds_toArray, List.set_cons_zero, List.set_cons_succ])
    first
      | (refine wpE_nope (i := 18) rfl (by kernel_rfl) (by kernel_rfl) (by kernel_rfl) (fun _ _ _ _ h => h) (by rfl) ?_; simp only [Act.put, List.setIfInBounds_toArray, List.set_cons_zero, List.set_cons_succ])
      | (refine wpE_yes (i := 18) rfl (by kernel_rfl) (by kernel_rfl) (by kernel_rfl) (fun _ _ _ _ h => h) (by rfl) ?_; apply Exists.intro; refine ⟨fun w' hw' => ?_, ?_⟩; (· (have hcw := (bcell hw').1; have hfw := (bcell hw').2.1; go_simp; (try simp (disch := omega) only [IntWalk.i64_quo, IntWalk.i64_in, IntWalk.rem_in]); exact calm_value)); simp only [Act.put, List.setIfInBounds_toArray, List.set_cons_zero, List.set_cons_succ])
    first
      | (refine wpE_nope (i := 19) rfl (by kernel_rfl) (by kernel_rfl) (by kernel_rfl) (fun _ _ _ _ h => h) (by rfl) ?_; simp only [Act.put, List.setIfInBounds_toArray, List.set_cons_zero, List.set_cons_succ])
      | (refine wpE_yes (i := 19) rfl (by kernel_rfl) (by kernel_rfl) (by kernel_rfl) (fun _ _ _ _ h => h) (by rfl) ?_; apply Exists.intro; refine ⟨fun w' hw' => ?_, ?_⟩; (· (have hcw := (bcell hw').1; have hfw := (bcell hw').2.1; go_simp; (try simp (disch := omega) only [IntWalk.i64_quo, IntWalk.i64_in, IntWalk.rem_in]); exact calm_value)); simp only [Act.put, List.setIfInBounds_toArray, List.set_cons_zero, List.set_cons_succ])
    first
      | (refine wpE_nope (i := 20) rfl (by kernel_rfl) (by kernel_rfl) (by kernel_rfl) (fun _ _ _ _ h => h) (by rfl) ?_; simp only [Act.put, List.setIfInBounds_toArray, List.set_cons_zero, List.set_cons_succ])
      | (refine wpE_yes (i := 20) rfl (by kernel_rfl) (by kernel_rfl) (by kernel_rfl) (fun _ _ _ _ h => h) (by rfl) ?_; apply Exists.intro; refine ⟨fun w' hw' => ?_, ?_⟩; (· (have hcw := (bcell hw').1; have hfw := (bcell hw').2.1; go_simp; (try simp (disch := omega) only [IntWalk.i64_quo, IntWalk.i64_in, IntWalk.rem_in]); exact calm_value)); simp only [Act.put, List.setIfInBounds_toArray, List.set_cons_zero, List.set_cons_succ])
    refine wpE_nope (i := 21) rfl (by kernel_rfl) (by kernel_rfl) (by kernel_rfl) (fun _ _ _ _ h => h) (by rfl) ?_
    simp only [Act.put, List.setIfInBounds_toArray, List.set_cons_zero, List.set_cons_succ]
    first
      | (refine wpE_nope (i := 22) rfl (by kernel_rfl) (by kernel_rfl) (by kernel_rfl) (fun _ _ _ _ h => h) (by rfl) ?_; simp only [Act.put, List.setIfInBounds_toArray, List.set_cons_zero, List.set_cons_succ])
      | (refine wpE_yes (i := 22) rfl (by kernel_rfl) (by kernel_rfl) (by kernel_rfl) (fun _ _ _ _ h => h) (by rfl) ?_; apply Exists.intro; refine ⟨fun w' hw' => ?_, ?_⟩; (· (have hcw := (bcell hw').1; have hfw := (bcell hw').2.1; go_simp; (try simp (disch := omega) only [IntWalk.i64_quo, IntWalk.i64_in, IntWalk.rem_in]); exact calm_value)); simp only [Act.put, List.setIfInBounds_toArray, List.set_cons_zero, List.set_cons_succ])
    refine wpE_nope (i := 23) rfl (by kernel_rfl) (by kernel_rfl) (by kernel_rfl) (fun _ _ _ _ h => h) (by rfl) ?_
    simp only [Act.put, List.setIfInBounds_toArray, List.set_cons_zero, List.set_cons_succ]
    first
      | (refine wpE_nope (i := 24) rfl (by kernel_rfl) (by kernel_rfl) (by kernel_rfl) (fun _ _ _ _ h => h) (by rfl) ?_; simp only [Act.put, List.setIfInBounds_toArray, List.set_cons_zero, List.set_cons_succ])
      | (refine wpE_yes (i := 24) rfl (by kernel_rfl) (by kernel_rfl) (by kernel_rfl) (fun _ _ _ _ h => h) (by rfl) ?_; apply Exists.intro; refine ⟨fun w' hw' => ?_, ?_⟩; (· (have hcw := (bcell hw').1; have hfw := (bcell hw').2.1; go_simp; (try simp (disch := omega) only [IntWalk.i64_quo, IntWalk.i64_in, IntWalk.rem_in]); exact calm_value)); simp only [Act.put, List.setIfInBounds_toArray, List.set_cons_zero, List.set_cons_succ])
    first
      | (refine wpE_nope (i := 25) rfl (by kernel_rfl) (by kernel_rfl) (by kernel_rfl) (fun _ _ _ _ h => h) (by rfl) ?_; simp only [Act.put, List.setIfInBounds_toArray, List.set_cons_zero, List.set_cons_succ])
      | (refine wpE_yes (i := 25) rfl (by kernel_rfl) (by kernel_rfl) (by kernel_rfl) (fun _ _ _ _ h => h) (by rfl) ?_; apply Exists.intro; refine ⟨fun w' hw' => ?_, ?_⟩; (· (have hcw := (bcell hw').1; have hfw := (bcell hw').2.1; go_simp; (try simp (disch := omega) only [IntWalk.i64_quo, IntWalk.i64_in, IntWalk.rem_in]); exact calm_value)); simp only [Act.put, List.setIfInBounds_toArray, List.set_cons_zero, List.set_cons_succ])
    refine wpE_yes (i := 26) rfl (by kernel_rfl) (by kernel_rfl) (by kernel_rfl) (fun _ _ _ _ h => h) (by rfl) ?_; apply Exists.intro; refine ⟨fun w' hw' => ?_, ?_⟩
    · (have hcw := (bcell hw').1; have hfw := (bcell hw').2.1; go_simp; (try simp (disch := omega) only [IntWalk.i64_quo, IntWalk.i64_in, IntWalk.rem_in]); exact calm_value)
    simp only [Act.put, List.setIfInBounds_toArray, List.set_cons_zero, List.set_cons_succ]
    refine wpE_yes (i := 27) rfl (by kernel_rfl) (by kernel_rfl) (by kernel_rfl) (fun _ _ _ _ h => h) (by rfl) ?_; apply Exists.intro; refine ⟨fun w' hw' => ?_, ?_⟩
    · (have hcw := (bcell hw').1; have hfw := (bcell hw').2.1; go_simp; (try simp (disch := omega) only [IntWalk.i64_quo, IntWalk.i64_in, IntWalk.rem_in]); exact calm_value)
    simp only [Act.put, List.setIfInBounds_toArray, List.set_cons_zero, List.set_cons_succ]
    first
      | (refine wpE_nope (i := 28) rfl (by kernel_rfl) (by kernel_rfl) (by kernel_rfl) (fun _ _ _ _ h => h) (by rfl) ?_; simp only [Act.put, List.setIfInBounds_toArray, List.set_cons_zero, List.set_cons_succ])
      | (refine wpE_yes (i := 28) rfl (by kernel_rfl) (by kernel_rfl) (by kernel_rfl) (fun _ _ _ _ h => h) (by rfl) ?_; apply Exists.intro; refine ⟨fun w' hw' => ?_, ?_⟩; (· (have hcw := (bcell hw').1; have hfw := (bcell hw').2.1; go_simp; (try simp (disch := omega) only [IntWalk.i64_quo, IntWalk.i64_in, IntWalk.rem_in]); exact calm_value)); simp only [Act.put, List.setIfInBounds_toArray, List.set_cons_zero, List.set_cons_succ])
    refine wpE_yes (i := 29) rfl (by kernel_rfl) (by kernel_rfl) (by kernel_rfl) (fun _ _ _ _ h => h) (by rfl) ?_; apply Exists.intro; refine ⟨fun w' hw' => ?_, ?_⟩
    · (have hcw := (bcell hw').1; have hfw := (bcell hw').2.1; go_simp; exact calm_call (width_any _ _ _ (by omega) (by omega)) (fun _ hb => Grew.trans hw' hb))
    simp only [Act.put, List.setIfInBounds_toArray, List.set_cons_zero, List.set_cons_succ]
    first
      | (refine wpE_nope (i := 30) rfl (by kernel_rfl) (by kernel_rfl) (by kernel_rfl) (fun _ _ _ _ h => h) (by rfl) ?_; simp only [Act.put, List.setIfInBounds_toArray, List.set_cons_zero, List.set_cons_succ])
      | (refine wpE_yes (i := 30) rfl (by kernel_rfl) (by kernel_rfl) (by kernel_rfl) (fun _ _ _ _ h => h) (by rfl) ?_; apply Exists.intro; refine ⟨fun w' hw' => ?_, ?_⟩; (· (have hcw := (bcell hw').1; have hfw := (bcell hw').2.1; go_simp; (try simp (disch := omega) only [IntWalk.i64_quo, IntWalk.i64_in, IntWalk.rem_in]); exact calm_value)); simp only [Act.put, List.setIfInBounds_toArray, List.set_cons_zero, List.set_cons_succ])
    first
      | (refine wpE_nope (i := 31) rfl (by kernel_rfl) (by kernel_rfl) (by kernel_rfl) (fun _ _ _ _ h => h) (by rfl) ?_; simp only [Act.put, List.setIfInBounds_toArray, List.set_cons_zero, List.set_cons_succ])
      | (refine wpE_yes (i := 31) rfl (by kernel_rfl) (by kernel_rfl) (by kernel_rfl) (fun _ _ _ _ h => h) (by rfl) ?_; apply Exists.intro; refine ⟨fun w' hw' => ?_, ?_⟩; (· (have hcw := (bcell hw').1; have hfw := (bcell hw').2.1; go_simp; (try simp (disch := omega) only [IntWalk.i64_quo, IntWalk.i64_in, IntWalk.rem_in]); exact calm_value)); simp only [Act.put, List.setIfInBounds_toArray, List.set_cons_zero, List.set_cons_succ])
    refine wpE_yes (i := 32) rfl (by kernel_rfl) (by kernel_rfl) (by kernel_rfl) (fun _ _ _ _ h => h) (by rfl) ?_; apply Exists.intro; refine ⟨fun w' hw' => ?_, ?_⟩
    · (have hcw := (bcell hw').1; have hfw := (bcell hw').2.1; go_simp; exact calm_call (width_any _ _ _ (by omega) (by omega)) (fun _ hb => Grew.trans hw' hb))
    simp only [Act.put, List.setIfInBounds_toArray, List.set_cons_zero, List.set_cons_succ]
    first
      | (refine wpE_nope (i := 33) rfl (by kernel_rfl) (by kernel_rfl) (by kernel_rfl) (fun _ _ _ _ h => h) (by rfl) ?_; simp only [Act.put, List.setIfInBounds_toArray, List.set_cons_zero, List.set_cons_succ])
      | (refine wpE_yes (i := 33) rfl (by kernel_rfl) (by kernel_rfl) (by kernel_rfl) (fun _ _ _ _ h => h) (by rfl) ?_; apply Exists.intro; refine ⟨fun w' hw' => ?_, ?_⟩; (· (have hcw := (bcell hw').1; have hfw := (bcell hw').2.1; go_simp; (try simp (disch := omega) only [IntWalk.i64_quo, IntWalk.i64_in, IntWalk.rem_in]); exact calm_value)); simp only [Act.put, List.setIfInBounds_toArray, List.set_cons_zero, List.set_cons_succ])
    refine wpE_yes (i := 34) rfl (by kernel_rfl) (by kernel_rfl) (by kernel_rfl) (fun _ _ _ _ h => h) (by rfl) ?_; apply Exists.intro; refine ⟨fun w' hw' => ?_, ?_⟩
    · (have hcw := (bcell hw').1; have hfw := (bcell hw').2.1; go_simp; (try simp (disch := omega) only [IntWalk.i64_quo, IntWalk.i64_in, IntWalk.rem_in]); exact calm_value)
    simp only [Act.put, List.setIfInBounds_toArray, List.set_cons_zero, List.set_cons_succ]
    refine wpE_yes (i := 35) rfl (by kernel_rfl) (by kernel_rfl) (by kernel_rfl) (fun _ _ _ _ h => h) (by rfl) ?_; apply Exists.intro; refine ⟨fun w' hw' => ?_, ?_⟩
    · (have hcw := (bcell hw').1; have hfw := (bcell hw').2.1; go_simp; (try simp (disch := omega) only [IntWalk.i64_quo, IntWalk.i64_in, IntWalk.rem_in]); exact calm_value)
    simp only [Act.put, List.setIfInBounds_toArray, List.set_cons_zero, List.set_cons_succ]
    refine wpE_done (by kernel_rfl) (fun w3 hb3 hC3 => ?_) _
    (have hc3 := (bcell hb3).1; have hf3 := (bcell hb3).2.1; have hs3 := (bcell hb3).2.2; (try simp [go_sem] at hs3); clear hc3 hf3; (try clear y2_0 f2_0 c2_0_0 c2_0_1 c2_0_2 c2_0_3 y2_1 f2_1 c2_1_0 c2_1_1))
    clear hC3
    go_wp2_with fail
    go_ret
    refine ⟨rfl, ?_⟩
    (repeat (first | exact Below.refl _ _ | refine Below.setCell ?_ (by first | omega | (simp; done) | (simp; omega)) _ | refine Below.alloc ?_ (by first | omega | (simp; done) | (simp; omega)) _ | refine below_drewN ?_ _ | refine Below.drew ?_ | refine Below.trans ?_ (Below.mono (by assumption) (by first | omega | (simp; done) | (simp; omega)))))
  · have hr0 : r = 0 := by omega
    have hw := e3 hr0
    have hwb : (p2 - p1 == q2 - q1) = true := by simp [hw]
    have hd : decide (0 < r) = false := by simp; omega
    clear e3 hw hr0
    go_enter Try.func9, Try.ntmps9
    go_wp2_with fail
    (go_at_call 14; refine (A1 _).mono ?_; rintro e w1 ⟨rfl, hb1⟩; have hc1 := (bcell hb1).1; have hf1 := (bcell hb1).2.1; have hs1 := (bcell hb1).2.2; (try simp [go_sem] at hs1); have z1_0 : w.heap.size < w1.heap.size := (by omega); have y1_0 : (w.heap.size = w1.heap.size) = False := eq_false (by omega); have c1_0_0 := hc1 (w.heap.size) 0 (by first | omega | (simp; done) | (simp; omega)); have c1_0_1 := hc1 (w.heap.size) 1 (by first | omega | (simp; done) | (simp; omega)); have c1_0_2 := hc1 (w.heap.size) 2 (by first | omega | (simp; done) | (simp; omega)); have c1_0_3 := hc1 (w.heap.size) 3 (by first | omega | (simp; done) | (simp; omega)); have f1_0 : ∀ i, w1.frozen? ⟨w.heap.size, i, none⟩ = false := fun i => (hf1 (w.heap.size) i (by first | omega | (simp; done) | (simp; omega))).trans (by simp [go_sem, *]); clear hc1 hf1; simp [go_sem, *] at c1_0_0; simp [go_sem, *] at c1_0_1; simp [go_sem, *] at c1_0_2; simp [go_sem, *] at c1_0_3)
    go_wp2_with fail
    (go_at_call 14; refine (A2 _).mono ?_; rintro e w2 ⟨rfl, hb2⟩; have hc2 := (bcell hb2).1; have hf2 := (bcell hb2).2.1; have hs2 := (bcell hb2).2.2; (try simp [go_sem] at hs2); have z2_0 : w.heap.size < w2.heap.size := (by omega); have y2_0 : (w.heap.size = w2.heap.size) = False := eq_false (by omega); have c2_0_0 := hc2 (w.heap.size) 0 (by first | omega | (simp; done) | (simp; omega)); have c2_0_1 := hc2 (w.heap.size) 1 (by first | omega | (simp; done) | (simp; omega)); have c2_0_2 := hc2 (w.heap.size) 2 (by first | omega | (simp; done) | (simp; omega)); have c2_0_3 := hc2 (w.heap.size) 3 (by first | omega | (simp; done) | (simp; omega)); have f2_0 : ∀ i, w2.frozen? ⟨w.heap.size, i, none⟩ = false := fun i => (hf2 (w.heap.size) i (by first | omega | (simp; done) | (simp; omega))).trans (by simp [go_sem, *]); have z2_1 : w1.heap.size < w2.heap.size := (by omega); have y2_1 : (w1.heap.size = w2.heap.size) = False := eq_false (by omega); have c2_1_0 := hc2 (w1.heap.size) 0 (by first | omega | (simp; done) | (simp; omega)); have c2_1_1 := hc2 (w1.heap.size) 1 (by first | omega | (simp; done) | (simp; omega)); have f2_1 : ∀ i, w2.frozen? ⟨w1.heap.size, i, none⟩ = false := fun i => (hf2 (w1.heap.size) i (by first | omega | (simp; done) | (simp; omega))).trans (by simp [go_sem, *]); clear hc2 hf2; simp [go_sem, *] at c2_0_0; simp [go_sem, *] at c2_0_1; simp [go_sem, *] at c2_0_2; simp [go_sem, *] at c2_0_3; simp [go_sem, *] at c2_1_0; simp [go_sem, *] at c2_1_1; (try clear y1_0 f1_0 c1_0_0 c1_0_1 c1_0_2 c1_0_3))
    go_wp2_with fail
    refine wp_region_ext (by kernel_rfl) ?_
    refine wpE_yes (i := 0) rfl (by kernel_rfl) (by kernel_rfl) (by kernel_rfl) (fun _ _ _ _ h => h) (by rfl) ?_; apply Exists.intro; refine ⟨fun w' hw' => ?_, ?_⟩
    · (have hcw := (bcell hw').1; have hfw := (bcell hw').2.1; go_simp; exact calm_call (sanity_any _) (fun _ hb => Grew.trans hw' hb))
    simp only [Act.put, List.setIfInBounds_toArray, List.set_cons_zero, List.set_cons_succ]
    refine wpE_yes (i := 1) rfl (by kernel_rfl) (by kernel_rfl) (by kernel_rfl) (fun _ _ _ _ h => h) (by rfl) ?_; apply Exists.intro; refine ⟨fun w' hw' => ?_, ?_⟩
    · (have hcw := (bcell hw').1; have hfw := (bcell hw').2.1; go_simp; (try simp (disch := omega) only [IntWalk.i64_quo, IntWalk.i64_in, IntWalk.rem_in]); exact calm_value)
    simp only [Act.put, List.setIfInBounds_toArray, List.set_cons_zero, List.set_cons_succ]
    first
      | (refine wpE_nope (i := 2) rfl (by kernel_rfl) (by kernel_rfl) (by kernel_rfl) (fun _ _ _ _ h => h) (by rfl) ?_; simp only [Act.put, List.setIfInBounds_toArray, List.set_cons_zero, List.set_cons_succ])
      | (refine wpE_yes (i := 2) rfl (by kernel_rfl) (by kernel_rfl) (by kernel_rfl) (fun _ _ _ _ h => h) (by rfl) ?_; apply Exists.intro; refine ⟨fun w' hw' => ?_, ?_⟩; (· (have hcw := (bcell hw').1; have hfw := (bcell hw').2.1; go_simp; (try simp (disch := omega) only [IntWalk.i64_quo, IntWalk.i64_in, IntWalk.rem_in]); exact calm_value)); simp only [Act.put, List.setIfInBounds_toArray, List.set_cons_zero, List.set_cons_succ])
    first
      | (refine wpE_nope (i := 3) rfl (by kernel_rfl) (by kernel_rfl) (by kernel_rfl) (fun _ _ _ _ h => h) (by rfl) ?_; simp only [Act.put, List.setIfInBounds_toArray, List.set_cons_zero, List.set_cons_succ])
      | (refine wpE_yes (i := 3) rfl (by kernel_rfl) (by kernel_rfl) (by kernel_rfl) (fun _ _ _ _ h => h) (by rfl) ?_; apply Exists.intro; refine ⟨fun w' hw' => ?_, ?_⟩; (· (have hcw := (bcell hw').1; have hfw := (bcell hw').2.1; go_simp; (try simp (disch := omega) only [IntWalk.i64_quo, IntWalk.i64_in, IntWalk.rem_in]); exact calm_value)); simp only [Act.put, List.setIfInBounds_toArray, List.set_cons_zero, List.set_cons_succ])
    first
      | (refine wpE_nope (i := 4) rfl (by kernel_rfl) (by kernel_rfl) (by kernel_rfl) (fun _ _ _ _ h => h) (by rfl) ?_; simp only [Act.put, List.setIfInBounds_toArray, List.set_cons_zero, List.set_cons_succ])
      | (refine wpE_yes (i := 4) rfl (by kernel_rfl) (by kernel_rfl) (by kernel_rfl) (fun _ _ _ _ h => h) (by rfl) ?_; apply Exists.intro; refine ⟨fun w' hw' => ?_, ?_⟩; (· (have hcw := (bcell hw').1; have hfw := (bcell hw').2.1; go_simp; (try simp (disch := omega) only [IntWalk.i64_quo, IntWalk.i64_in, IntWalk.rem_in]); exact calm_value)); simp only [Act.put, List.setIfInBounds_toArray, List.set_cons_zero, List.set_cons_succ])
    first
      | (refine wpE_nope (i := 5) rfl (by kernel_rfl) (by kernel_rfl) (by kernel_rfl) (fun _ _ _ _ h => h) (by rfl) ?_; simp only [Act.put, List.setIfInBounds_toArray, List.set_cons_zero, List.set_cons_succ])
      | (refine wpE_yes (i := 5) rfl (by kernel_rfl) (by kernel_rfl) (by kernel_rfl) (fun _ _ _ _ h => h) (by rfl) ?_; apply Exists.intro; refine ⟨fun w' hw' => ?_, ?_⟩; (· (have hcw := (bcell hw').1; have hfw := (bcell hw').2.1; go_simp; (try simp (disch := omega) only [IntWalk.i64_quo, IntWalk.i64_in, IntWalk.rem_in]); exact calm_value)); simp only [Act.put, List.setIfInBounds_toArray, List.set_cons_zero, List.set_cons_succ])
    first
      | (refine wpE_nope (i := 6) rfl (by kernel_rfl) (by kernel_rfl) (by kernel_rfl) (fun _ _ _ _ h => h) (by rfl) ?_; simp only [Act.put, List.setIfInBounds_toArray, List.set_cons_zero, List.set_cons_succ])
      | (refine wpE_yes (i := 6) rfl (by kernel_rfl) (by kernel_rfl) (by kernel_rfl) (fun _ _ _ _ h => h) (by rfl) ?_; apply Exists.intro; refine ⟨fun w' hw' => ?_, ?_⟩; (· (have hcw := (bcell hw').1; have hfw := (bcell hw').2.1; go_simp; (try simp (disch := omega) only [IntWalk.i64_quo, IntWalk.i64_in, IntWalk.rem_in]); exact calm_value)); simp only [Act.put, List.setIfInBounds_toArray, List.set_cons_zero, List.set_cons_succ])
    refine wpE_yes (i := 7) rfl (by kernel_rfl) (by kernel_rfl) (by kernel_rfl) (fun _ _ _ _ h => h) (by rfl) ?_; apply Exists.intro; refine ⟨fun w' hw' => ?_, ?_⟩
    · (have hcw := (bcell hw').1; have hfw := (bcell hw').2.1; go_simp; (try simp (disch := omega) only [IntWalk.i64_quo, IntWalk.i64_in, IntWalk.rem_in]); exact calm_value)
    simp only [Act.put, List.setIfInBounds_toArray, List.set_cons_zero, List.set_cons_succ]
    refine wpE_yes (i := 8) rfl (by kernel_rfl) (by kernel_rfl) (by kernel_rfl) (fun _ _ _ _ h => h) (by rfl) ?_; apply Exists.intro; refine ⟨fun w' hw' => ?_, ?_⟩
    · (have hcw := (bcell hw').1; have hfw := (bcell hw').2.1; go_simp; (try simp (disch := omega) only [IntWalk.i64_quo, IntWalk.i64_in, IntWalk.rem_in]); exact calm_value)
    simp only [Act.put, List.setIfInBounds_toArray, List.set_cons_zero, List.set_cons_succ]
    first
      | (refine wpE_nope (i := 9) rfl (by kernel_rfl) (by kernel_rfl) (by kernel_rfl) (fun _ _ _ _ h => h) (by rfl) ?_; simp only [Act.put, List.setIfInBounds_toArray, List.set_cons_zero, List.set_cons_succ])
      | (refine wpE_yes (i := 9) rfl (by kernel_rfl) (by kernel_rfl) (by kernel_rfl) (fun _ _ _ _ h => h) (by rfl) ?_; apply Exists.intro; refine ⟨fun w' hw' => ?_, ?_⟩; (· (have hcw := (bcell hw').1; have hfw := (bcell hw').2.1; go_simp; (try simp (disch := omega) only [IntWalk.i64_quo, IntWalk.i64_in, IntWalk.rem_in]); exact calm_value)); simp only [Act.put, List.setIfInBounds_toArray, List.set_cons_zero, List.set_cons_succ])
    first
      | (refine wpE_nope (i := 10) rfl (by kernel_rfl) (by kernel_rfl) (by kernel_rfl) (fun _ _ _ _ h => h) (by rfl) ?_; simp only [Act.put, List.setIfInBounds_toArray, List.set_cons_zero, List.set_cons_succ])
      | (refine wpE_yes (i := 10) rfl (by kernel_rfl) (by kernel_rfl) (by kernel_rfl) (fun _ _ _ _ h => h) (by rfl) ?_; apply Exists.intro; refine ⟨fun w' hw' => ?_, ?_⟩; (· (have hcw := (bcell hw').1; have hfw := (bcell hw').2.1; go_simp; (try simp (disch := omega) only [IntWalk.i64_quo, IntWalk.i64_in, IntWalk.rem_in]); exact calm_value)); simp only [Act.put, List.setIfInBounds_toArray, List.set_cons_zero, List.set_cons_succ])
    first
      | (refine wpE_nope (i := 11) rfl (by kernel_rfl) (by kernel_rfl) (by kernel_rfl) (fun _ _ _ _ h => h) (by rfl) ?_; simp only [Act.put, List.setIfInBounds_toArray, List.set_cons_zero, List.set_cons_succ])
      | (refine wpE_yes (i := 11) rfl (by kernel_rfl) (by kernel_rfl) (by kernel_rfl) (fun _ _ _ _ h => h) (by rfl) ?_; apply Exists.intro; refine ⟨fun w' hw' => ?_, ?_⟩; (· (have hcw := (bcell hw').1; have hfw := (bcell hw').2.1; go_simp; (try simp (disch := omega) only [IntWalk.i64_quo, IntWalk.i64_in, IntWalk.rem_in]); exact calm_value)); simp only [Act.put, List.setIfInBounds_toArray, List.set_cons_zero, List.set_cons_succ])
    first
      | (refine wpE_nope (i := 12) rfl (by kernel_rfl) (by kernel_rfl) (by kernel_rfl) (fun _ _ _ _ h => h) (by rfl) ?_; simp only [Act.put, List.setIfInBounds_toArray, List.set_cons_zero, List.set_cons_succ])
      | (refine wpE_yes (i := 12) rfl (by kernel_rfl) (by kernel_rfl) (by kernel_rfl) (fun _ _ _ _ h => h) (by rfl) ?_; apply Exists.intro; refine ⟨fun w' hw' => ?_, ?_⟩; (· (have hcw := (bcell hw').1; have hfw := (bcell hw').2.1; go_simp; (try simp (disch := omega) only [IntWalk.i64_quo, IntWalk.i64_in, IntWalk.rem_in]); exact calm_value)); simp only [Act.put, List.setIfInBounds_toArray, List.set_cons_zero, List.set_cons_succ])
    first
      | (refine wpE_nope (i := 13) rfl (by kernel_rfl) (by kernel_rfl) (by kernel_rfl) (fun _ _ _ _ h => h) (by rfl) ?_; simp only [Act.put, List.setIfInBounds_toArray, List.set_cons_zero, List.set_cons_succ])
      | (refine wpE_yes (i := 13) rfl (by kernel_rfl) (by kernel_rfl) (by kernel_rfl) (fun _ _ _ _ h => h) (by rfl) ?_; apply Exists.intro; refine ⟨fun w' hw' => ?_, ?_⟩; (· (have hcw := (bcell hw').1; have hfw := (bcell hw').2.1; go_simp; (try simp (disch := omega) only [IntWalk.i64_quo, IntWalk.i64_in, IntWalk.rem_in]); exact calm_value)); simp only [Act.put, List.setIfInBounds_toArray, List.set_cons_zero, List.set_cons_succ])
    refine wpE_yes (i := 14) rfl (by kernel_rfl) (by kernel_rfl) (by kernel_rfl) (fun _ _ _ _ h => h) (by rfl) ?_; apply Exists.intro; refine ⟨fun w' hw' => ?_, ?_⟩
    · (have hcw := (bcell hw').1; have hfw := (bcell hw').2.1; go_simp; (try simp (disch := omega) only [IntWalk.i64_quo, IntWalk.i64_in, IntWalk.rem_in]); exact calm_value)
    simp only [Act.put, List.setIfInBounds_toArray, List.set_cons_zero, List.set_cons_succ]
    refine wpE_yes (i := 15) rfl (by kernel_rfl) (by kernel_rfl) (by kernel_rfl) (fun _ _ _ _ h => h) (by rfl) ?_; apply Exists.intro; refine ⟨fun w' hw' => ?_, ?_⟩
    · (have hcw := (bcell hw').1; have hfw := (bcell hw').2.1; go_simp; (try simp (disch := omega) only [IntWalk.i64_quo, IntWalk.i64_in, IntWalk.rem_in]); exact calm_value)
    simp only [Act.put, List.setIfInBounds_toArray, List.set_cons_zero, List.set_cons_succ]
    first
      | (refine wpE_nope (i := 16) rfl (by kernel_rfl) (by kernel_rfl) (by kernel_rfl) (fun _ _ _ _ h => h) (by rfl) ?_; simp only [Act.put, List.setIfInBounds_toArray, List.set_cons_zero, List.set_cons_succ])
      | (refine wpE_yes (i := 16) rfl (by kernel_rfl) (by kernel_rfl) (by kernel_rfl) (fun _ _ _ _ h => h) (by rfl) ?_; apply Exists.intro; refine ⟨fun w' hw' => ?_, ?_⟩; (· (have hcw := (bcell hw').1; have hfw := (bcell hw').2.1; go_simp; (try simp (disch := omega) only [IntWalk.i64_quo, IntWalk.i64_in, IntWalk.rem_in]); exact calm_value)); simp only [Act.put, List.setIfInBounds_toArray, List.set_cons_zero, List.set_cons_succ])
    first
      | (refine wpE_nope (i := 17) rfl (by kernel_rfl) (by kernel_rfl) (by kernel_rfl) (fun _ _ _ _ h => h) (by rfl) ?_; simp only [Act.put, List.setIfInBounds_toArray, List.set_cons_zero, List.set_cons_succ])
      | (refine wpE_yes (i := 17) rfl (by kernel_rfl) (by kernel_rfl) (by kernel_rfl) (fun _ _ _ _ h => h) (by rfl) ?_; apply Exists.intro; refine ⟨fun w' hw' => ?_, ?_⟩; (· (have hcw := (bcell hw').1; have hfw := (bcell hw').2.1; go_simp; (try simp (disch := omega) only [IntWalk.i64_quo, IntWalk.i64_in, IntWalk.rem_in]); exact calm_value)); simp only [Act.put, List.setIfInBounds_toArray, List.set_cons_zero, List.set_cons_succ])
    first
      | (refine wpE_nope (i := 18) rfl (by kernel_rfl) (by kernel_rfl) (by kernel_rfl) (fun _ _ _ _ h => h) (by rfl) ?_; simp only [Act.put, List.setIfInBounds_toArray, List.set_cons_zero, List.set_cons_succ])
      | (refine wpE_yes (i := 18) rfl (by kernel_rfl) (by kernel_rfl) (by kernel_rfl) (fun _ _ _ _ h => h) (by rfl) ?_; apply Exists.intro; refine ⟨fun w' hw' => ?_, ?_⟩; (· (have hcw := (bcell hw').1; have hfw := (bcell hw').2.1; go_simp; (try simp (disch := omega) only [IntWalk.i64_quo, IntWalk.i64_in, IntWalk.rem_in]); exact calm_value)); simp only [Act.put, List.setIfInBounds_toArray, List.set_cons_zero, List.set_cons_succ])
    first
      | (refine wpE_nope (i := 19) rfl (by kernel_rfl) (by kernel_rfl) (by kernel_rfl) (fun _ _ _ _ h => h) (by rfl) ?_; simp only [Act.put, List.setIfInBounds_toArray, List.set_cons_zero, List.set_cons_succ])
      | (refine wpE_yes (i := 19) rfl (by kernel_rfl) (by kernel_rfl) (by kernel_rfl) (fun _ _ _ _ h => h) (by rfl) ?_; apply Exists.intro; refine ⟨fun w' hw' => ?_, ?_⟩; (· (have hcw := (bcell hw').1; have hfw := (bcell hw').2.1; go_simp; (try simp (disch := omega) only [IntWalk.i64_quo, IntWalk.i64_in, IntWalk.rem_in]); exact calm_value)); simp only [Act.put, List.setIfInBounds_toArray, List.set_cons_zero, List.set_cons_succ])
    first
      | (refine wpE_nope (i := 20) rfl (by kernel_rfl) (by kernel_rfl) (by kernel_rfl) (fun _ _ _ _ h => h) (by rfl) ?_; simp only [Act.put, List.setIfInBounds_toArray, List.set_cons_zero, List.set_cons_succ])
      | (refine wpE_yes (i := 20) rfl (by kernel_rfl) (by kernel_rfl) (by kernel_rfl) (fun _ _ _ _ h => h) (by rfl) ?_; apply Exists.intro; refine ⟨fun w' hw' => ?_, ?_⟩; (· (have hcw := (bcell hw').1; have hfw := (bcell hw').2.1; go_simp; (try simp (disch := omega) only [IntWalk.i64_quo, IntWalk.i64_in, IntWalk.rem_in]); exact calm_value)); simp only [Act.put, List.setIfInBounds_toArray, List.set_cons_zero, List.set_cons_succ])
    refine wpE_yes (i := 21) rfl (by kernel_rfl) (by kernel_rfl) (by kernel_rfl) (fun _ _ _ _ h => h) (by rfl) ?_; apply Exists.intro; refine ⟨fun w' hw' => ?_, ?_⟩
    · (have hcw := (bcell hw').1; have hfw := (bcell hw').2.1; go_simp; exact calm_call (width_any _ _ _ (by omega) (by omega)) (fun _ hb => Grew.trans hw' hb))
    simp only [Act.put, List.setIfInBounds_toArray, List.set_cons_zero, List.set_cons_succ]
    first
      | (refine wpE_nope (i := 22) rfl (by kernel_rfl) (by kernel_rfl) (by kernel_rfl) (fun _ _ _ _ h => h) (by rfl) ?_; simp only [Act.put, List.setIfInBounds_toArray, List.set_cons_zero, List.set_cons_succ])
      | (refine wpE_yes (i := 22) rfl (by kernel_rfl) (by kernel_rfl) (by kernel_rfl) (fun _ _ _ _ h => h) (by rfl) ?_; apply Exists.intro; refine ⟨fun w' hw' => ?_, ?_⟩; (· (have hcw := (bcell hw').1; have hfw := (bcell hw').2.1; go_simp; (try simp (disch := omega) only [IntWalk.i64_quo, IntWalk.i64_in, IntWalk.rem_in]); exact calm_value)); simp only [Act.put, List.setIfInBounds_toArray, List.set_cons_zero, List.set_cons_succ])
    refine wpE_yes (i := 23) rfl (by kernel_rfl) (by kernel_rfl) (by kernel_rfl) (fun _ _ _ _ h => h) (by rfl) ?_; apply Exists.intro; refine ⟨fun w' hw' => ?_, ?_⟩
    · (have hcw := (bcell hw').1; have hfw := (bcell hw').2.1; go_simp; exact calm_call (width_any _ _ _ (by omega) (by omega)) (fun _ hb => Grew.trans hw' hb))
    simp only [Act.put, List.setIfInBounds_toArray, List.set_cons_zero, List.set_cons_succ]
    first
      | (refine wpE_nope (i := 24) rfl (by kernel_rfl) (by kernel_rfl) (by kernel_rfl) (fun _ _ _ _ h => h) (by rfl) ?_; simp only [Act.put, List.setIfInBounds_toArray, List.set_cons_zero, List.set_cons_succ])
      | (refine wpE_yes (i := 24) rfl (by kernel_rfl) (by kernel_rfl) (by kernel_rfl) (fun _ _ _ _ h => h) (by rfl) ?_; apply Exists.intro; refine ⟨fun w' hw' => ?_, ?_⟩; (· (have hcw := (bcell hw').1; have hfw := (bcell hw').2.1; go_simp; (try simp (disch := omega) only [IntWalk.i64_quo, IntWalk.i64_in, IntWalk.rem_in]); exact calm_value)); simp only [Act.put, List.setIfInBounds_toArray, List.set_cons_zero, List.set_cons_succ])
    first
      | (refine wpE_nope (i := 25) rfl (by kernel_rfl) (by kernel_rfl) (by kernel_rfl) (fun _ _ _ _ h => h) (by rfl) ?_; simp only [Act.put, List.setIfInBounds_toArray, List.set_cons_zero, List.set_cons_succ])
      | (refine wpE_yes (i := 25) rfl (by kernel_rfl) (by kernel_rfl) (by kernel_rfl) (fun _ _ _ _ h => h) (by rfl) ?_; apply Exists.intro; refine ⟨fun w' hw' => ?_, ?_⟩; (· (have hcw := (bcell hw').1; have hfw := (bcell hw').2.1; go_simp; (try simp (disch := omega) only [IntWalk.i64_quo, IntWalk.i64_in, IntWalk.rem_in]); exact calm_value)); simp only [Act.put, List.setIfInBounds_toArray, List.set_cons_zero, List.set_cons_succ])
    refine wpE_yes (i := 26) rfl (by kernel_rfl) (by kernel_rfl) (by kernel_rfl) (fun _ _ _ _ h => h) (by rfl) ?_; apply Exists.intro; refine ⟨fun w' hw' => ?_, ?_⟩
    · (have hcw := (bcell hw').1; have hfw := (bcell hw').2.1; go_simp; (try simp (disch := omega) only [IntWalk.i64_quo, IntWalk.i64_in, IntWalk.rem_in]); exact calm_value)
    simp only [Act.put, List.setIfInBounds_toArray, List.set_cons_zero, List.set_cons_succ]
    refine wpE_yes (i := 27) rfl (by kernel_rfl) (by kernel_rfl) (by kernel_rfl) (fun _ _ _ _ h => h) (by rfl) ?_; apply Exists.intro; refine ⟨fun w' hw' => ?_, ?_⟩
    · (have hcw := (bcell hw').1; have hfw := (bcell hw').2.1; go_simp; (try simp (disch := omega) only [IntWalk.i64_quo, IntWalk.i64_in, IntWalk.rem_in]); exact calm_value)
    simp only [Act.put, List.setIfInBounds_toArray, List.set_cons_zero, List.set_cons_succ]
    first
      | (refine wpE_nope (i := 28) rfl (by kernel_rfl) (by kernel_rfl) (by kernel_rfl) (fun _ _ _ _ h => h) (by rfl) ?_; simp only [Act.put, List.setIfInBounds_toArray, List.set_cons_zero, List.set_cons_succ])
      | (refine wpE_yes (i := 28) rfl (by kernel_rfl) (by kernel_rfl) (by kernel_rfl) (fun _ _ _ _ h => h) (by rfl) ?_; apply Exists.intro; refine ⟨fun w' hw' => ?_, ?_⟩; (· (have hcw := (bcell hw').1; have hfw := (bcell hw').2.1; go_simp; (try simp (disch := omega) only [IntWalk.i64_quo, IntWalk.i64_in, IntWalk.rem_in]); exact calm_value)); simp only [Act.put, List.setIfInBounds_toArray, List.set_cons_zero, List.set_cons_succ])
    refine wpE_yes (i := 29) rfl (by kernel_rfl) (by kernel_rfl) (by kernel_rfl) (fun _ _ _ _ h => h) (by rfl) ?_; apply Exists.intro; refine ⟨fun w' hw' => ?_, ?_⟩
    · (have hcw := (bcell hw').1; have hfw := (bcell hw').2.1; go_simp; exact calm_call (width_any _ _ _ (by omega) (by omega)) (fun _ hb => Grew.trans hw' hb))
    simp only [Act.put, List.setIfInBounds_toArray, List.set_cons_zero, List.set_cons_succ]
    first
      | (refine wpE_nope (i := 30) rfl (by kernel_rfl) (by kernel_rfl) (by kernel_rfl) (fun _ _ _ _ h => h) (by rfl) ?_; simp only [Act.put, List.setIfInBounds_toArray, List.set_cons_zero, List.set_cons_succ])
      | (refine wpE_yes (i := 30) rfl (by kernel_rfl) (by kernel_rfl) (by kernel_rfl) (fun _ _ _ _ h => h) (by rfl) ?_; apply Exists.intro; refine ⟨fun w' hw' => ?_, ?_⟩; (· (have hcw := (bcell hw').1; have hfw := (bcell hw').2.1; go_simp; (try simp (disch := omega) only [IntWalk.i64_quo, IntWalk.i64_in, IntWalk.rem_in]); exact calm_value)); simp only [Act.put, List.setIfInBounds_toArray, List.set_cons_zero, List.set_cons_succ])
    first
      | (refine wpE_nope (i := 31) rfl (by kernel_rfl) (by kernel_rfl) (by kernel_rfl) (fun _ _ _ _ h => h) (by rfl) ?_; simp only [Act.put, List.setIfInBounds_toArray, List.set_cons_zero, List.set_cons_succ])
      | (refine wpE_yes (i := 31) rfl (by kernel_rfl) (by kernel_rfl) (by kernel_rfl) (fun _ _ _ _ h => h) (by rfl) ?_; apply Exists.intro; refine ⟨fun w' hw' => ?_, ?_⟩; (· (have hcw := (bcell hw').1; have hfw := (bcell hw').2.1; go_simp; (try simp (disch := omega) only [IntWalk.i64_quo, IntWalk.i64_in, IntWalk.rem_in]); exact calm_value)); simp only [Act.put, List.setIfInBounds_toArray, List.set_cons_zero, List.set_cons_succ])
    refine wpE_yes (i := 32) rfl (by kernel_rfl) (by kernel_rfl) (by kernel_rfl) (fun _ _ _ _ h => h) (by rfl) ?_; apply Exists.intro; refine ⟨fun w' hw' => ?_, ?_⟩
    · (have hcw := (bcell hw').1; have hfw := (bcell hw').2.1; go_simp; exact calm_call (width_any _ _ _ (by omega) (by omega)) (fun _ hb => Grew.trans hw' hb))
    simp only [Act.put, List.setIfInBounds_toArray, List.set_cons_zero, List.set_cons_succ]
    first
      | (refine wpE_nope (i := 33) rfl (by kernel_rfl) (by kernel_rfl) (by kernel_rfl) (fun _ _ _ _ h => h) (by rfl) ?_; simp only [Act.put, List.setIfInBounds_toArray, List.set_cons_zero, List.set_cons_succ])
      | (refine wpE_yes (i := 33) rfl (by kernel_rfl) (by kernel_rfl) (by kernel_rfl) (fun _ _ _ _ h => h) (by rfl) ?_; apply Exists.intro; refine ⟨fun w' hw' => ?_, ?_⟩; (· (have hcw := (bcell hw').1; have hfw := (bcell hw').2.1; go_simp; (try simp (disch := omega) only [IntWalk.i64_quo, IntWalk.i64_in, IntWalk.rem_in]); exact calm_value)); simp only [Act.put, List.setIfInBounds_toArray, List.set_cons_zero, List.set_cons_succ])
    refine wpE_yes (i := 34) rfl (by kernel_rfl) (by kernel_rfl) (by kernel_rfl) (fun _ _ _ _ h => h) (by rfl) ?_; apply Exists.intro; refine ⟨fun w' hw' => ?_, ?_⟩
    · (have hcw := (bcell hw').1; have hfw := (bcell hw').2.1; go_simp; (try simp (disch := omega) only [IntWalk.i64_quo, IntWalk.i64_in, IntWalk.rem_in]); exact calm_value)
    simp only [Act.put, List.setIfInBounds_toArray, List.set_cons_zero, List.set_cons_succ]
    refine wpE_yes (i := 35) rfl (by kernel_rfl) (by kernel_rfl) (by kernel_rfl) (fun _ _ _ _ h => h) (by rfl) ?_; apply Exists.intro; refine ⟨fun w' hw' => ?_, ?_⟩
    · (have hcw := (bcell hw').1; have hfw := (bcell hw').2.1; go_simp; (try simp (disch := omega) only [IntWalk.i64_quo, IntWalk.i64_in, IntWalk.rem_in]); exact calm_value)
    simp only [Act.put, List.setIfInBounds_toArray, List.set_cons_zero, List.set_cons_succ]
    refine wpE_done (by kernel_rfl) (fun w3 hb3 hC3 => ?_) _
    (have hc3 := (bcell hb3).1; have hf3 := (bcell hb3).2.1; have hs3 := (bcell hb3).2.2; (try simp [go_sem] at hs3); clear hc3 hf3; (try clear y2_0 f2_0 c2_0_0 c2_0_1 c2_0_2 c2_0_3 y2_1 f2_1 c2_1_0 c2_1_1))
    clear hC3
    go_wp2_with fail
    go_ret
    refine ⟨rfl, ?_⟩
    (repeat (first | exact Below.refl _ _ | refine Below.setCell ?_ (by first | omega | (simp; done) | (simp; omega)) _ | refine Below.alloc ?_ (by first | omega | (simp; done) | (simp; omega)) _ | refine below_drewN ?_ _ | refine Below.drew ?_ | refine Below.trans ?_ (Below.mono (by assumption) (by first | omega | (simp; done) | (simp; omega)))))

theorem monotone_lifted (os : Os) (started : os.Started) (H : Type) (enc : TypeId × Value → H) :
    ReturnsInHanded {} Try.checked os 9 .any (Rows.clockIsMonotoneSpec.pre6 enc Try.prog Try.f9 Rows.clockIsMonotoneRow.domain false) (Rows.clockIsMonotoneSpec.post enc Try.prog Try.f9 false true false false) := by
  refine returnsInHanded_of_change (C := Try.checked) Try.own started (by kernel_rfl) Try.func9
    (ChangeSpec.witness6 (enc := enc) (C := Try.checked) false ⟨#[], #[.agg #[.int .i64 0, .int .i64 0, .int .i64 0, .int .i64 0], .int .i64 0, .int .i64 0], []⟩ 8 (by kernel_rfl) (by kernel_rfl) (by kernel_rfl) (by kernel_rfl)) ?_
  intro W base args ds gs before hval0 hW hcnd _
  have hval : ∀ (j : Nat) t v, Try.f9.params[j]? = some t → args[j]? = some v → Value.okWide Try.prog W .any base t v := hval0
  have hW' := hW
  obtain ⟨p, q, hA0, hV, rfl, hfz, hnd⟩ := hW
  have hA : DataW.TrodAll enc Try.prog W 0 (fun _ => true) true Try.f9.params.toList args.toList ds p := hA0
  rw [Try.params9] at hA hval
  have hAk := hA
  obtain ⟨v0, vs0, d0, ds0, p0, q0, hargs, rfl, rfl, h0, r0⟩ := trodAll_cons hA
  obtain ⟨v1, vs1, d1, ds1, p1, q1, rfl, rfl, rfl, h1, r1⟩ := trodAll_cons r0
  obtain ⟨v2, vs2, d2, ds2, p2, q2, rfl, rfl, rfl, h2, r2⟩ := trodAll_cons r1
  obtain ⟨rfl, rfl, rfl⟩ := trodAll_nil r2
  obtain rfl : args = #[v0, v1, v2] := by cases args; simp_all
  obtain ⟨rfl, rfl⟩ := trodVars_none hV
  obtain ⟨r, l, a, b, rfl, _, _, _, _⟩ := open_clock (hval 0 25 v0 rfl rfl) h0
  obtain ⟨one, rfl, _, _, w1⟩ := open_int Try.underlying3 (hval 1 3 v1 rfl rfl) h1
  obtain ⟨two, rfl, _, _, w2⟩ := open_int Try.underlying3 (hval 2 3 v2 rfl rfl) h2
  clear hA0 hval0
  simp only [List.append_nil] at hW'
  refine (monotone_walk r l a b one two W).mono fun e W' ⟨he, hb⟩ => ?_
  subst he
  refine ⟨_, rfl, _, _, _, [], _, [], hW', trodAll_mk1 (shut_bool Try.underlying4 _), trodAll_stays ?_ hAk hb ?_, rfl, hb.frame _, fun h => by cases h⟩
  · intro t ht
    have ht' : t = 25 ∨ t = 3 := by simpa using ht
    rcases ht' with rfl | rfl
    · exact ⟨by kernel_rfl, of_decide_eq_true (by kernel_rfl)⟩
    · exact ⟨by kernel_rfl, of_decide_eq_true (by kernel_rfl)⟩
  · intro x hx; exact hW'.lt x (by simpa using hx)

/-- the statement -/
theorem monotone_holds : Rows.ClockIsMonotoneSaid :=
  OpenClaim.holds_of_wide 9 Try.f9 rfl rfl rfl rfl rfl rfl rfl ⟨rfl, rfl, rfl, rfl, rfl⟩ rfl rfl rfl rfl rfl (by kernel_rfl) Try.func9 (by kernel_rfl)
    (of_decide_eq_true (by kernel_rfl)) (by unfold Func.isWrapper; first | (rw [if_pos (by decide +kernel)]; kernel_rfl) | (rw [if_neg (by decide +kernel)]; exact ⟨rfl, rfl⟩))
    (fun os started H enc _ => monotone_lifted os started H enc)
end Go.Proofs.Ythebnpophckgcaa
