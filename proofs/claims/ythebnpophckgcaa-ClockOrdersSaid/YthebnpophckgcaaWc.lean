/-
  The walks of clock.At, Common and their kin, and of the reference's.
-/
import Derived.Test.YthebnpophckgcaaWb
namespace Go.Proofs.Ythebnpophckgcaa
open Go.RowKit
theorem span_any (a b : Int) (w : World) : Calls Try.prog 39 #[.int .i64 a, .int .i64 b] w fun e w' => e = .returned (sp a b) ∧ Below w.heap.size w w' := by
  go_enter Try.func39, Try.ntmps39
  go_wp2
  refine bodyPost_ret (v := sp a b) (by simp [results, Try.results39, go_sem, *]) rfl ⟨rfl, ?_⟩
  (repeat (first | exact Below.refl _ _ | refine Below.setCell ?_ (by first | omega | (simp; done) | (simp; omega)) _ | refine Below.alloc ?_ (by first | omega | (simp; done) | (simp; omega)) _ | refine below_drewN ?_ _ | refine Below.drew ?_ | refine Below.trans ?_ (Below.mono (by assumption) (by first | omega | (simp; done) | (simp; omega)))))
theorem before_any (a b c d : Int) (w : World) : Calls Try.prog 25 #[sp a b, sp c d] w fun e w' => e = .returned (.bool (decide (b < c))) ∧ Below w.heap.size w w' := by
  go_enter Try.func25, Try.ntmps25
  go_wp2
  go_ret
  refine ⟨rfl, ?_⟩
  (repeat (first | exact Below.refl _ _ | refine Below.setCell ?_ (by first | omega | (simp; done) | (simp; omega)) _ | refine Below.alloc ?_ (by first | omega | (simp; done) | (simp; omega)) _ | refine below_drewN ?_ _ | refine Below.drew ?_ | refine Below.trans ?_ (Below.mono (by assumption) (by first | omega | (simp; done) | (simp; omega)))))
theorem rbefore_any (a b c d : Int) (w : World) : Calls Try.prog 26 #[sp a b, sp c d] w fun e w' => e = .returned (.bool (decide (b < c))) ∧ Below w.heap.size w w' := by
  go_enter Try.func26, Try.ntmps26
  go_wp2
  go_ret
  refine ⟨rfl, ?_⟩
  (repeat (first | exact Below.refl _ _ | refine Below.setCell ?_ (by first | omega | (simp; done) | (simp; omega)) _ | refine Below.alloc ?_ (by first | omega | (simp; done) | (simp; omega)) _ | refine below_drewN ?_ _ | refine Below.drew ?_ | refine Below.trans ?_ (Below.mono (by assumption) (by first | omega | (simp; done) | (simp; omega)))))
theorem may_any (a b c d : Int) (w : World) : Calls Try.prog 27 #[sp a b, sp c d] w fun e w' => e = .returned (.bool (decide (a < d))) ∧ Below w.heap.size w w' := by
  go_enter Try.func27, Try.ntmps27
  go_wp2
  go_ret
  refine ⟨rfl, ?_⟩
  (repeat (first | exact Below.refl _ _ | refine Below.setCell ?_ (by first | omega | (simp; done) | (simp; omega)) _ | refine Below.alloc ?_ (by first | omega | (simp; done) | (simp; omega)) _ | refine below_drewN ?_ _ | refine Below.drew ?_ | refine Below.trans ?_ (Below.mono (by assumption) (by first | omega | (simp; done) | (simp; omega)))))
theorem rmay_any (a b c d : Int) (w : World) : Calls Try.prog 28 #[sp a b, sp c d] w fun e w' => e = .returned (.bool (decide (a < d))) ∧ Below w.heap.size w w' := by
  go_enter Try.func28, Try.ntmps28
  go_wp2
  go_ret
  refine ⟨rfl, ?_⟩
  (repeat (first | exact Below.refl _ _ | refine Below.setCell ?_ (by first | omega | (simp; done) | (simp; omega)) _ | refine Below.alloc ?_ (by first | omega | (simp; done) | (simp; omega)) _ | refine below_drewN ?_ _ | refine Below.drew ?_ | refine Below.trans ?_ (Below.mono (by assumption) (by first | omega | (simp; done) | (simp; omega)))))
theorem width_any (a b : Int) (w : World) (h1 : -4611686018427387904 ≤ b - a) (h2 : b - a ≤ 4611686018427387904) : Calls Try.prog 29 #[sp a b] w fun e w' => e = .returned (.int .i64 (b - a)) ∧ Below w.heap.size w w' := by
  go_enter Try.func29, Try.ntmps29
  go_wp2
  go_ret
  refine ⟨rfl, ?_⟩
  (repeat (first | exact Below.refl _ _ | refine Below.setCell ?_ (by first | omega | (simp; done) | (simp; omega)) _ | refine Below.alloc ?_ (by first | omega | (simp; done) | (simp; omega)) _ | refine below_drewN ?_ _ | refine Below.drew ?_ | refine Below.trans ?_ (Below.mono (by assumption) (by first | omega | (simp; done) | (simp; omega)))))
theorem mx (a c : Int) : (if a < c then c else a) = max a c := by omega
theorem mx0 (a d : Int) : (if d < a then a - d else 0) = max 0 (a - d) := by omega
theorem mn (a c : Int) : (if c < a then c else a) = min a c := by omega
theorem age_any (a b c d : Int) (w : World) (h1 : vld a b = true) (h2 : vld c d = true) : Calls Try.prog 30 #[sp a b, sp c d] w fun e w' => e = .returned (sp (max 0 (a - d)) (max 0 (b - c))) ∧ Below w.heap.size w w' := by
  obtain ⟨a1, a2, a3⟩ := vld_t h1
  obtain ⟨b1, b2, b3⟩ := vld_t h2
  clear h1 h2
  have h1 := mx0
  go_enter Try.func30, Try.ntmps30
  go_wp2
  refine bodyPost_ret (v := sp (max 0 (a - d)) (max 0 (b - c))) (by simp [results, Try.results30, go_sem, *]) rfl ⟨rfl, ?_⟩
  (repeat (first | exact Below.refl _ _ | refine Below.setCell ?_ (by first | omega | (simp; done) | (simp; omega)) _ | refine Below.alloc ?_ (by first | omega | (simp; done) | (simp; omega)) _ | refine below_drewN ?_ _ | refine Below.drew ?_ | refine Below.trans ?_ (Below.mono (by assumption) (by first | omega | (simp; done) | (simp; omega)))))
theorem rage_any (a b c d : Int) (w : World) (h1 : vld a b = true) (h2 : vld c d = true) : Calls Try.prog 31 #[sp a b, sp c d] w fun e w' => e = .returned (sp (max 0 (a - d)) (max 0 (b - c))) ∧ Below w.heap.size w w' := by
  obtain ⟨a1, a2, a3⟩ := vld_t h1
  obtain ⟨b1, b2, b3⟩ := vld_t h2
  clear h1 h2
  have h1 := mx0
  go_enter Try.func31, Try.ntmps31
  go_wp2
  refine bodyPost_ret (v := sp (max 0 (a - d)) (max 0 (b - c))) (by simp [results, Try.results31, go_sem, *]) rfl ⟨rfl, ?_⟩
  (repeat (first | exact Below.refl _ _ | refine Below.setCell ?_ (by first | omega | (simp; done) | (simp; omega)) _ | refine Below.alloc ?_ (by first | omega | (simp; done) | (simp; omega)) _ | refine below_drewN ?_ _ | refine Below.drew ?_ | refine Below.trans ?_ (Below.mono (by assumption) (by first | omega | (simp; done) | (simp; omega)))))
theorem ret_com {a b c d x y : Int} {t : Bool} (h : comF a b c d = ((x, y), t)) : Ending.returned (.tuple #[sp x y, .bool t]) = .returned (.tuple #[sp (comF a b c d).1.1 (comF a b c d).1.2, .bool (comF a b c d).2]) := by rw [h]
theorem com_yes {a b c d x y : Int} (h1 : x = max a c) (h2 : y = min b d) (h : x ≤ y) : comF a b c d = ((x, y), true) := by
  subst h1 h2; unfold comF; rw [if_neg (by omega)]
theorem com_no {a b c d : Int} (h : min b d < max a c) : comF a b c d = ((0, 0), false) := by unfold comF; rw [if_pos h]
theorem com_any (a b c d : Int) (w : World) : Calls Try.prog 23 #[sp a b, sp c d] w fun e w' => e = .returned (.tuple #[sp (comF a b c d).1.1 (comF a b c d).1.2, .bool (comF a b c d).2]) ∧ Below w.heap.size w w' := by
  have h1 := mx
  have h2 := mn
  go_enter Try.func23, Try.ntmps23
  go_wp2
  · refine bodyPost_ret (v := .tuple #[sp 0 0, .bool false]) (by simp [results, Try.results23, go_sem, *]) rfl ⟨ret_com (com_no (by assumption)), ?_⟩
    (repeat (first | exact Below.refl _ _ | refine Below.setCell ?_ (by first | omega | (simp; done) | (simp; omega)) _ | refine Below.alloc ?_ (by first | omega | (simp; done) | (simp; omega)) _ | refine below_drewN ?_ _ | refine Below.drew ?_ | refine Below.trans ?_ (Below.mono (by assumption) (by first | omega | (simp; done) | (simp; omega)))))
  · refine bodyPost_ret (v := .tuple #[sp (max a c) (min b d), .bool true]) (by simp [results, Try.results23, go_sem, *]) rfl ⟨ret_com (com_yes rfl rfl (by assumption)), ?_⟩
    (repeat (first | exact Below.refl _ _ | refine Below.setCell ?_ (by first | omega | (simp; done) | (simp; omega)) _ | refine Below.alloc ?_ (by first | omega | (simp; done) | (simp; omega)) _ | refine below_drewN ?_ _ | refine Below.drew ?_ | refine Below.trans ?_ (Below.mono (by assumption) (by first | omega | (simp; done) | (simp; omega)))))
theorem rcom_any (a b c d : Int) (w : World) : Calls Try.prog 24 #[sp a b, sp c d] w fun e w' => e = .returned (.tuple #[sp (comF a b c d).1.1 (comF a b c d).1.2, .bool (comF a b c d).2]) ∧ Below w.heap.size w w' := by
  have h1 := mx
  have h2 := mn
  go_enter Try.func24, Try.ntmps24
  go_wp2
  · refine bodyPost_ret (v := .tuple #[sp 0 0, .bool false]) (by simp [results, Try.results24, go_sem, *]) rfl ⟨ret_com (com_no (by assumption)), ?_⟩
    (repeat (first | exact Below.refl _ _ | refine Below.setCell ?_ (by first | omega | (simp; done) | (simp; omega)) _ | refine Below.alloc ?_ (by first | omega | (simp; done) | (simp; omega)) _ | refine below_drewN ?_ _ | refine Below.drew ?_ | refine Below.trans ?_ (Below.mono (by assumption) (by first | omega | (simp; done) | (simp; omega)))))
  · refine bodyPost_ret (v := .tuple #[sp (max a c) (min b d), .bool true]) (by simp [results, Try.results24, go_sem, *]) rfl ⟨ret_com (com_yes rfl rfl (by assumption)), ?_⟩
    (repeat (first | exact Below.refl _ _ | refine Below.setCell ?_ (by first | omega | (simp; done) | (simp; omega)) _ | refine Below.alloc ?_ (by first | omega | (simp; done) | (simp; omega)) _ | refine below_drewN ?_ _ | refine Below.drew ?_ | refine Below.trans ?_ (Below.mono (by assumption) (by first | omega | (simp; done) | (simp; omega)))))

theorem checked_yes (a b : Int) (w : World) (h : vld a b = true) : Calls Try.prog 42 #[sp a b] w fun e w' => e = .returned (.tuple #[sp a b, .int .i64 0]) ∧ Below w.heap.size w w' := by
  go_enter Try.func42, Try.ntmps42
  go_wp2_with (go_at_call 13; refine (valid_any _ _ _).mono ?_; rintro e w' ⟨rfl, hb⟩; obtain ⟨hc, hf, hs⟩ := bcell hb; try simp only [World.size_alloc] at hc hf hs; have z0 : w.heap.size < w'.heap.size := (by omega); have z1 : w.heap.size + 1 < w'.heap.size := (by omega))
  refine bodyPost_ret (v := .tuple #[sp a b, .int .i64 0]) (by simp [results, Try.results42, go_sem, *]) rfl ⟨rfl, ?_⟩
  (repeat (first | exact Below.refl _ _ | refine Below.setCell ?_ (by first | omega | (simp; done) | (simp; omega)) _ | refine Below.alloc ?_ (by first | omega | (simp; done) | (simp; omega)) _ | refine below_drewN ?_ _ | refine Below.drew ?_ | refine Below.trans ?_ (Below.mono (by assumption) (by first | omega | (simp; done) | (simp; omega)))))
theorem checked_no (a b : Int) (w : World) (h : vld a b = false) : Calls Try.prog 42 #[sp a b] w fun e w' => e = .returned (.tuple #[sp 0 0, .int .i64 16]) ∧ Below w.heap.size w w' := by
  go_enter Try.func42, Try.ntmps42
  go_wp2_with (go_at_call 13; refine (valid_any _ _ _).mono ?_; rintro e w' ⟨rfl, hb⟩; obtain ⟨hc, hf, hs⟩ := bcell hb; try simp only [World.size_alloc] at hc hf hs; have z0 : w.heap.size < w'.heap.size := (by omega); have z1 : w.heap.size + 1 < w'.heap.size := (by omega))
  refine bodyPost_ret (v := .tuple #[sp 0 0, .int .i64 16]) (by simp [results, Try.results42, go_sem, *]) rfl ⟨rfl, ?_⟩
  (repeat (first | exact Below.refl _ _ | refine Below.setCell ?_ (by first | omega | (simp; done) | (simp; omega)) _ | refine Below.alloc ?_ (by first | omega | (simp; done) | (simp; omega)) _ | refine below_drewN ?_ _ | refine Below.drew ?_ | refine Below.trans ?_ (Below.mono (by assumption) (by first | omega | (simp; done) | (simp; omega)))))
theorem ret_at {r l a b n x y z : Int} (h : atF r l a b n = ((x, y), z)) : Ending.returned (.tuple #[sp x y, .int .i64 z]) = .returned (.tuple #[sp (atF r l a b n).1.1 (atF r l a b n).1.2, .int .i64 (atF r l a b n).2]) := by rw [h]
theorem at_any (r l a b n : Int) (w : World) : Calls Try.prog 14 #[ck r l a b, .int .i64 n] w fun e w' => e = .returned (.tuple #[sp (atF r l a b n).1.1 (atF r l a b n).1.2, .int .i64 (atF r l a b n).2]) ∧ Below w.heap.size w w' := by
  cases h1 : okc r l a b
  · rw [atF_arg (.inl h1)]
    go_enter Try.func14, Try.ntmps14
    go_wp2_with (go_at_call 20; refine (check_no _ _ _ _ _ h1).mono ?_; rintro e w' ⟨rfl, hb⟩; obtain ⟨hc, hf, hs⟩ := bcell hb; try simp only [World.size_alloc] at hc hf hs; have z0 : w.heap.size < w'.heap.size := (by omega); have z1 : w.heap.size + 1 < w'.heap.size := (by omega))
    refine bodyPost_ret (v := .tuple #[sp 0 0, .int .i64 1]) (by simp [results, Try.results14, go_sem, *]) rfl ⟨rfl, ?_⟩
    (repeat (first | exact Below.refl _ _ | refine Below.setCell ?_ (by first | omega | (simp; done) | (simp; omega)) _ | refine Below.alloc ?_ (by first | omega | (simp; done) | (simp; omega)) _ | refine below_drewN ?_ _ | refine Below.drew ?_ | refine Below.trans ?_ (Below.mono (by assumption) (by first | omega | (simp; done) | (simp; omega)))))
  cases h2 : isT n
  · rw [atF_arg (.inr h2)]
    go_enter Try.func14, Try.ntmps14
    go_wp2_with (first | (go_at_call 20; refine (check_yes _ _ _ _ _ h1).mono ?_; rintro e w' ⟨rfl, hb⟩; obtain ⟨hc, hf, hs⟩ := bcell hb; try simp only [World.size_alloc] at hc hf hs; have z0 : w.heap.size < w'.heap.size := (by omega); have z1 : w.heap.size + 1 < w'.heap.size := (by omega)) | (go_at_call 40; refine (isTime_any _ _).mono ?_; rintro e w' ⟨rfl, rfl⟩))
    refine bodyPost_ret (v := .tuple #[sp 0 0, .int .i64 1]) (by simp [results, Try.results14, go_sem, *]) rfl ⟨rfl, ?_⟩
    (repeat (first | exact Below.refl _ _ | refine Below.setCell ?_ (by first | omega | (simp; done) | (simp; omega)) _ | refine Below.alloc ?_ (by first | omega | (simp; done) | (simp; omega)) _ | refine below_drewN ?_ _ | refine Below.drew ?_ | refine Below.trans ?_ (Below.mono (by assumption) (by first | omega | (simp; done) | (simp; omega)))))
  rcases Int.lt_or_le n l with h3 | h3
  · rw [atF_early h1 h2 h3]
    go_enter Try.func14, Try.ntmps14
    go_wp2_with (first | (go_at_call 20; refine (check_yes _ _ _ _ _ h1).mono ?_; rintro e w' ⟨rfl, hb⟩; obtain ⟨hc, hf, hs⟩ := bcell hb; try simp only [World.size_alloc] at hc hf hs; have z0 : w.heap.size < w'.heap.size := (by omega); have z1 : w.heap.size + 1 < w'.heap.size := (by omega)) | (go_at_call 40; refine (isTime_any _ _).mono ?_; rintro e w' ⟨rfl, rfl⟩))
    refine bodyPost_ret (v := .tuple #[sp 0 0, .int .i64 16]) (by simp [results, Try.results14, go_sem, *]) rfl ⟨rfl, ?_⟩
    (repeat (first | exact Below.refl _ _ | refine Below.setCell ?_ (by first | omega | (simp; done) | (simp; omega)) _ | refine Below.alloc ?_ (by first | omega | (simp; done) | (simp; omega)) _ | refine below_drewN ?_ _ | refine Below.drew ?_ | refine Below.trans ?_ (Below.mono (by assumption) (by first | omega | (simp; done) | (simp; omega)))))
  obtain ⟨k1, k2, k3, k4⟩ := okc_t h1
  obtain ⟨l1, l2⟩ := isT_t k3
  obtain ⟨n1, n2⟩ := isT_t h2
  obtain ⟨a1, a2, a3⟩ := vld_t k4
  have q1 := loE_bd k1 k2 (show 0 ≤ n - l by omega) (by omega)
  have q2 := hiE_bd k1 k2 (show 0 ≤ n - l by omega) (by omega)
  cases hv : vld (a + loE r (n - l)) (b + hiE r (n - l))
  · rw [atF_late h1 h2 h3 hv]
    go_enter Try.func14, Try.ntmps14
    go_wp2_with fail
    (go_at_call 20; refine (check_yes _ _ _ _ _ h1).mono ?_; rintro e w1 ⟨rfl, hb1⟩; obtain ⟨hc1, hf1, hs1⟩ := bcell hb1; (try simp [go_sem] at hs1); have z1_0 : w.heap.size < w1.heap.size := (by omega); have y1_0 : (w.heap.size = w1.heap.size) = False := eq_false (by omega); have c1_0_0 := hc1 (w.heap.size) 0 (by first | omega | (simp; done) | (simp; omega)); have c1_0_1 := hc1 (w.heap.size) 1 (by first | omega | (simp; done) | (simp; omega)); have c1_0_2 := hc1 (w.heap.size) 2 (by first | omega | (simp; done) | (simp; omega)); have c1_0_3 := hc1 (w.heap.size) 3 (by first | omega | (simp; done) | (simp; omega)); have f1_0 : ∀ i, w1.frozen? ⟨w.heap.size, i, none⟩ = false := fun i => (hf1 (w.heap.size) i (by first | omega | (simp; done) | (simp; omega))).trans (by simp [go_sem, *]); have z1_1 : w.heap.size + 1 < w1.heap.size := (by omega); have y1_1 : (w.heap.size + 1 = w1.heap.size) = False := eq_false (by omega); have c1_1_0 := hc1 (w.heap.size + 1) 0 (by first | omega | (simp; done) | (simp; omega)); have c1_1_1 := hc1 (w.heap.size + 1) 1 (by first | omega | (simp; done) | (simp; omega)); have f1_1 : ∀ i, w1.frozen? ⟨w.heap.size + 1, i, none⟩ = false := fun i => (hf1 (w.heap.size + 1) i (by first | omega | (simp; done) | (simp; omega))).trans (by simp [go_sem, *]); clear hc1 hf1; simp [go_sem, *] at c1_0_0; simp [go_sem, *] at c1_0_1; simp [go_sem, *] at c1_0_2; simp [go_sem, *] at c1_0_3; simp [go_sem, *] at c1_1_0; simp [go_sem, *] at c1_1_1)
    go_wp2_with fail
    (go_at_call 40; refine (isTime_any _ _).mono ?_; rintro e w' ⟨rfl, rfl⟩)
    go_wp2_with fail
    (go_at_call 41; refine (elapsed_any _ _ _ (by omega) (by omega) (by omega) (by omega)).mono ?_; rintro e w2 ⟨rfl, hb2⟩; obtain ⟨hc2, hf2, hs2⟩ := bcell hb2; (try simp [go_sem] at hs2); have z2_0 : w.heap.size < w2.heap.size := (by omega); have y2_0 : (w.heap.size = w2.heap.size) = False := eq_false (by omega); have c2_0_0 := hc2 (w.heap.size) 0 (by first | omega | (simp; done) | (simp; omega)); have c2_0_1 := hc2 (w.heap.size) 1 (by first | omega | (simp; done) | (simp; omega)); have c2_0_2 := hc2 (w.heap.size) 2 (by first | omega | (simp; done) | (simp; omega)); have c2_0_3 := hc2 (w.heap.size) 3 (by first | omega | (simp; done) | (simp; omega)); have f2_0 : ∀ i, w2.frozen? ⟨w.heap.size, i, none⟩ = false := fun i => (hf2 (w.heap.size) i (by first | omega | (simp; done) | (simp; omega))).trans (by simp [go_sem, *]); have z2_1 : w.heap.size + 1 < w2.heap.size := (by omega); have y2_1 : (w.heap.size + 1 = w2.heap.size) = False := eq_false (by omega); have c2_1_0 := hc2 (w.heap.size + 1) 0 (by first | omega | (simp; done) | (simp; omega)); have c2_1_1 := hc2 (w.heap.size + 1) 1 (by first | omega | (simp; done) | (simp; omega)); have f2_1 : ∀ i, w2.frozen? ⟨w.heap.size + 1, i, none⟩ = false := fun i => (hf2 (w.heap.size + 1) i (by first | omega | (simp; done) | (simp; omega))).trans (by simp [go_sem, *]); clear hc2 hf2; simp [go_sem, *] at c2_0_0; simp [go_sem, *] at c2_0_1; simp [go_sem, *] at c2_0_2; simp [go_sem, *] at c2_0_3; simp [go_sem, *] at c2_1_0; simp [go_sem, *] at c2_1_1; clear y1_0 f1_0 c1_0_0 c1_0_1 c1_0_2 c1_0_3 y1_1 f1_1 c1_1_0 c1_1_1)
    go_wp2_with fail
    (go_at_call 42; refine (checked_no _ _ _ hv).mono ?_; rintro e w3 ⟨rfl, hb3⟩; obtain ⟨hc3, hf3, hs3⟩ := bcell hb3; (try simp [go_sem] at hs3); have z3_0 : w.heap.size < w3.heap.size := (by omega); have y3_0 : (w.heap.size = w3.heap.size) = False := eq_false (by omega); have c3_0_0 := hc3 (w.heap.size) 0 (by first | omega | (simp; done) | (simp; omega)); have c3_0_1 := hc3 (w.heap.size) 1 (by first | omega | (simp; done) | (simp; omega)); have c3_0_2 := hc3 (w.heap.size) 2 (by first | omega | (simp; done) | (simp; omega)); have c3_0_3 := hc3 (w.heap.size) 3 (by first | omega | (simp; done) | (simp; omega)); have f3_0 : ∀ i, w3.frozen? ⟨w.heap.size, i, none⟩ = false := fun i => (hf3 (w.heap.size) i (by first | omega | (simp; done) | (simp; omega))).trans (by simp [go_sem, *]); have z3_1 : w.heap.size + 1 < w3.heap.size := (by omega); have y3_1 : (w.heap.size + 1 = w3.heap.size) = False := eq_false (by omega); have c3_1_0 := hc3 (w.heap.size + 1) 0 (by first | omega | (simp; done) | (simp; omega)); have c3_1_1 := hc3 (w.heap.size + 1) 1 (by first | omega | (simp; done) | (simp; omega)); have f3_1 : ∀ i, w3.frozen? ⟨w.heap.size + 1, i, none⟩ = false := fun i => (hf3 (w.heap.size + 1) i (by first | omega | (simp; done) | (simp; omega))).trans (by simp [go_sem, *]); clear hc3 hf3; simp [go_sem, *] at c3_0_0; simp [go_sem, *] at c3_0_1; simp [go_sem, *] at c3_0_2; simp [go_sem, *] at c3_0_3; simp [go_sem, *] at c3_1_0; simp [go_sem, *] at c3_1_1; clear y2_0 f2_0 c2_0_0 c2_0_1 c2_0_2 c2_0_3 y2_1 f2_1 c2_1_0 c2_1_1)
    go_wp2_with fail
    refine bodyPost_ret (v := .tuple #[sp 0 0, .int .i64 16]) (by simp [results, Try.results14, go_sem, *]) rfl ⟨rfl, ?_⟩
    (repeat (first | exact Below.refl _ _ | refine Below.setCell ?_ (by first | omega | (simp; done) | (simp; omega)) _ | refine Below.alloc ?_ (by first | omega | (simp; done) | (simp; omega)) _ | refine below_drewN ?_ _ | refine Below.drew ?_ | refine Below.trans ?_ (Below.mono (by assumption) (by first | omega | (simp; done) | (simp; omega)))))
  · rw [atF_ok h1 h2 h3 hv]
    go_enter Try.func14, Try.ntmps14
    go_wp2_with fail
    (go_at_call 20; refine (check_yes _ _ _ _ _ h1).mono ?_; rintro e w1 ⟨rfl, hb1⟩; obtain ⟨hc1, hf1, hs1⟩ := bcell hb1; (try simp [go_sem] at hs1); have z1_0 : w.heap.size < w1.heap.size := (by omega); have y1_0 : (w.heap.size = w1.heap.size) = False := eq_false (by omega); have c1_0_0 := hc1 (w.heap.size) 0 (by first | omega | (simp; done) | (simp; omega)); have c1_0_1 := hc1 (w.heap.size) 1 (by first | omega | (simp; done) | (simp; omega)); have c1_0_2 := hc1 (w.heap.size) 2 (by first | omega | (simp; done) | (simp; omega)); have c1_0_3 := hc1 (w.heap.size) 3 (by first | omega | (simp; done) | (simp; omega)); have f1_0 : ∀ i, w1.frozen? ⟨w.heap.size, i, none⟩ = false := fun i => (hf1 (w.heap.size) i (by first | omega | (simp; done) | (simp; omega))).trans (by simp [go_sem, *]); have z1_1 : w.heap.size + 1 < w1.heap.size := (by omega); have y1_1 : (w.heap.size + 1 = w1.heap.size) = False := eq_false (by omega); have c1_1_0 := hc1 (w.heap.size + 1) 0 (by first | omega | (simp; done) | (simp; omega)); have c1_1_1 := hc1 (w.heap.size + 1) 1 (by first | omega | (simp; done) | (simp; omega)); have f1_1 : ∀ i, w1.frozen? ⟨w.heap.size + 1, i, none⟩ = false := fun i => (hf1 (w.heap.size + 1) i (by first | omega | (simp; done) | (simp; omega))).trans (by simp [go_sem, *]); clear hc1 hf1; simp [go_sem, *] at c1_0_0; simp [go_sem, *] at c1_0_1; simp [go_sem, *] at c1_0_2; simp [go_sem, *] at c1_0_3; simp [go_sem, *] at c1_1_0; simp [go_sem, *] at c1_1_1)
    go_wp2_with fail
    (go_at_call 40; refine (isTime_any _ _).mono ?_; rintro e w' ⟨rfl, rfl⟩)
    go_wp2_with fail
    (go_at_call 41; refine (elapsed_any _ _ _ (by omega) (by omega) (by omega) (by omega)).mono ?_; rintro e w2 ⟨rfl, hb2⟩; obtain ⟨hc2, hf2, hs2⟩ := bcell hb2; (try simp [go_sem] at hs2); have z2_0 : w.heap.size < w2.heap.size := (by omega); have y2_0 : (w.heap.size = w2.heap.size) = False := eq_false (by omega); have c2_0_0 := hc2 (w.heap.size) 0 (by first | omega | (simp; done) | (simp; omega)); have c2_0_1 := hc2 (w.heap.size) 1 (by first | omega | (simp; done) | (simp; omega)); have c2_0_2 := hc2 (w.heap.size) 2 (by first | omega | (simp; done) | (simp; omega)); have c2_0_3 := hc2 (w.heap.size) 3 (by first | omega | (simp; done) | (simp; omega)); have f2_0 : ∀ i, w2.frozen? ⟨w.heap.size, i, none⟩ = false := fun i => (hf2 (w.heap.size) i (by first | omega | (simp; done) | (simp; omega))).trans (by simp [go_sem, *]); have z2_1 : w.heap.size + 1 < w2.heap.size := (by omega); have y2_1 : (w.heap.size + 1 = w2.heap.size) = False := eq_false (by omega); have c2_1_0 := hc2 (w.heap.size + 1) 0 (by first | omega | (simp; done) | (simp; omega)); have c2_1_1 := hc2 (w.heap.size + 1) 1 (by first | omega | (simp; done) | (simp; omega)); have f2_1 : ∀ i, w2.frozen? ⟨w.heap.size + 1, i, none⟩ = false := fun i => (hf2 (w.heap.size + 1) i (by first | omega | (simp; done) | (simp; omega))).trans (by simp [go_sem, *]); clear hc2 hf2; simp [go_sem, *] at c2_0_0; simp [go_sem, *] at c2_0_1; simp [go_sem, *] at c2_0_2; simp [go_sem, *] at c2_0_3; simp [go_sem, *] at c2_1_0; simp [go_sem, *] at c2_1_1; clear y1_0 f1_0 c1_0_0 c1_0_1 c1_0_2 c1_0_3 y1_1 f1_1 c1_1_0 c1_1_1)
    go_wp2_with fail
    (go_at_call 42; refine (checked_yes _ _ _ hv).mono ?_; rintro e w3 ⟨rfl, hb3⟩; obtain ⟨hc3, hf3, hs3⟩ := bcell hb3; (try simp [go_sem] at hs3); have z3_0 : w.heap.size < w3.heap.size := (by omega); have y3_0 : (w.heap.size = w3.heap.size) = False := eq_false (by omega); have c3_0_0 := hc3 (w.heap.size) 0 (by first | omega | (simp; done) | (simp; omega)); have c3_0_1 := hc3 (w.heap.size) 1 (by first | omega | (simp; done) | (simp; omega)); have c3_0_2 := hc3 (w.heap.size) 2 (by first | omega | (simp; done) | (simp; omega)); have c3_0_3 := hc3 (w.heap.size) 3 (by first | omega | (simp; done) | (simp; omega)); have f3_0 : ∀ i, w3.frozen? ⟨w.heap.size, i, none⟩ = false := fun i => (hf3 (w.heap.size) i (by first | omega | (simp; done) | (simp; omega))).trans (by simp [go_sem, *]); have z3_1 : w.heap.size + 1 < w3.heap.size := (by omega); have y3_1 : (w.heap.size + 1 = w3.heap.size) = False := eq_false (by omega); have c3_1_0 := hc3 (w.heap.size + 1) 0 (by first | omega | (simp; done) | (simp; omega)); have c3_1_1 := hc3 (w.heap.size + 1) 1 (by first | omega | (simp; done) | (simp; omega)); have f3_1 : ∀ i, w3.frozen? ⟨w.heap.size + 1, i, none⟩ = false := fun i => (hf3 (w.heap.size + 1) i (by first | omega | (simp; done) | (simp; omega))).trans (by simp [go_sem, *]); clear hc3 hf3; simp [go_sem, *] at c3_0_0; simp [go_sem, *] at c3_0_1; simp [go_sem, *] at c3_0_2; simp [go_sem, *] at c3_0_3; simp [go_sem, *] at c3_1_0; simp [go_sem, *] at c3_1_1; clear y2_0 f2_0 c2_0_0 c2_0_1 c2_0_2 c2_0_3 y2_1 f2_1 c2_1_0 c2_1_1)
    go_wp2_with fail
    refine bodyPost_ret (v := .tuple #[sp (a + loE r (n - l)) (b + hiE r (n - l)), .int .i64 0]) (by simp [results, Try.results14, go_sem, *]) rfl ⟨rfl, ?_⟩
    (repeat (first | exact Below.refl _ _ | refine Below.setCell ?_ (by first | omega | (simp; done) | (simp; omega)) _ | refine Below.alloc ?_ (by first | omega | (simp; done) | (simp; omega)) _ | refine below_drewN ?_ _ | refine Below.drew ?_ | refine Below.trans ?_ (Below.mono (by assumption) (by first | omega | (simp; done) | (simp; omega)))))
end Go.Proofs.Ythebnpophckgcaa
