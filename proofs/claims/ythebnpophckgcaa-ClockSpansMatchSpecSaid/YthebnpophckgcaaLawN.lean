/-
  ClockSpansMatchSpec holds for every input, without a condition: for every list of spans the law returns true and its argument reads afterwards as before.
-/
import Derived.Test.YthebnpophckgcaaWl
import Derived.Test.YthebnpophckgcaaWq
import Derived.Test.YthebnpophckgcaaWp
import Derived.Deep.DeepCutAuto
namespace Go.Proofs.Ythebnpophckgcaa
open Go.ChangeShapes Go.WideShapes Go.ChangeAt Go.RowKit
set_option linter.unusedSimpArgs false
set_option linter.unusedVariables false
set_option maxHeartbeats 2000000
set_option maxRecDepth 100000
theorem valid_eq {v : Value} {l : List (Int × Int)} {w : World} {t : Bool} (hS : Spans w v l) (hm : l.length ≤ 9223372036854775807) (ht : (l.all fun x => vld x.1 x.2) = t) :
    Calls Try.prog 22 #[v] w fun e w' => e = .returned (.bool t) ∧ Below w.heap.size w w' := by
  have := valid_spans v l w hS hm; rw [ht] at this; exact this
theorem spans_no (a : Option Addr) (cap : Nat) (l : List (Int × Int)) (w : World) (hS : Spans w (.slice a l.length cap) l) (hm : l.length ≤ 9223372036854775807)
    (h : l.length < 2 ∨ 2 ≤ l.length ∧ 12 < l.length ∨ 2 ≤ l.length ∧ l.length ≤ 12 ∧ (l.all fun x => vld x.1 x.2) = false) :
    Calls Try.prog 4 #[.slice a l.length cap] w fun e w' => e = .returned (.bool true) ∧ Below w.heap.size w w' := by
  rcases h with h | ⟨h1, h⟩ | ⟨h1, h2, h⟩
  · clear hS
    go_enter Try.func4, Try.ntmps4
    go_wp2_with fail
    (go_at_call 12; refine (sanity_any _).mono ?_; rintro e w1 ⟨rfl, hb1⟩; have hc1 := (bcell hb1).1; have hf1 := (bcell hb1).2.1; have hs1 := (bcell hb1).2.2; (try simp [go_sem] at hs1); clear hc1 hf1)
    go_wp2_with fail
    go_ret
    refine ⟨rfl, ?_⟩
    (repeat (first | exact Below.refl _ _ | refine Below.setCell ?_ (by first | omega | (simp; done) | (simp; omega)) _ | refine Below.alloc ?_ (by first | omega | (simp; done) | (simp; omega)) _ | refine below_drewN ?_ _ | refine Below.drew ?_ | refine Below.trans ?_ (Below.mono (by assumption) (by first | omega | (simp; done) | (simp; omega)))))
  · clear hS
    go_enter Try.func4, Try.ntmps4
    go_wp2_with fail
    (go_at_call 12; refine (sanity_any _).mono ?_; rintro e w1 ⟨rfl, hb1⟩; have hc1 := (bcell hb1).1; have hf1 := (bcell hb1).2.1; have hs1 := (bcell hb1).2.2; (try simp [go_sem] at hs1); clear hc1 hf1)
    go_wp2_with fail
    go_ret
    refine ⟨rfl, ?_⟩
    (repeat (first | exact Below.refl _ _ | refine Below.setCell ?_ (by first | omega | (simp; done) | (simp; omega)) _ | refine Below.alloc ?_ (by first | omega | (simp; done) | (simp; omega)) _ | refine below_drewN ?_ _ | refine Below.drew ?_ | refine Below.trans ?_ (Below.mono (by assumption) (by first | omega | (simp; done) | (simp; omega)))))
  · have A := Lib.hid (valid_eq hS hm h)
    clear hS h
    go_enter Try.func4, Try.ntmps4
    go_wp2_with fail
    (go_at_call 22; refine (A.out).mono ?_; rintro e w1 ⟨rfl, hb1⟩; have hc1 := (bcell hb1).1; have hf1 := (bcell hb1).2.1; have hs1 := (bcell hb1).2.2; (try simp [go_sem] at hs1); clear hc1 hf1)
    go_wp2_with fail
    (go_at_call 12; refine (sanity_any _).mono ?_; rintro e w2 ⟨rfl, hb2⟩; have hc2 := (bcell hb2).1; have hf2 := (bcell hb2).2.1; have hs2 := (bcell hb2).2.2; (try simp [go_sem] at hs2); clear hc2 hf2)
    go_wp2_with fail
    go_ret
    refine ⟨rfl, ?_⟩
    (repeat (first | exact Below.refl _ _ | refine Below.setCell ?_ (by first | omega | (simp; done) | (simp; omega)) _ | refine Below.alloc ?_ (by first | omega | (simp; done) | (simp; omega)) _ | refine below_drewN ?_ _ | refine Below.drew ?_ | refine Below.trans ?_ (Below.mono (by assumption) (by first | omega | (simp; done) | (simp; omega)))))
theorem spans_yes (b0 off cap : Nat) (a b c d : Int) (l : List (Int × Int)) (w : World) (hS : SpanCells w b0 off ((a, b) :: (c, d) :: l)) (hm : l.length ≤ 10)
    (hv : (((a, b) :: (c, d) :: l).all fun x => vld x.1 x.2) = true) :
    Calls Try.prog 4 #[.slice (some ⟨b0, off, none⟩) (l.length + 2) cap] w fun e w' => e = .returned (.bool true) ∧ Below w.heap.size w w' := by
  have hS0 : Spans w (.slice (some ⟨b0, off, none⟩) (l.length + 2) cap) ((a, b) :: (c, d) :: l) := ⟨_, _, rfl, .inr ⟨b0, off, rfl, hS⟩⟩
  have HS := Lib.hid hS0
  have A := Lib.hid (valid_eq hS0 (by simp; omega) hv)
  have hab : vld a b = true := by simp at hv; exact hv.1
  have hcd : vld c d = true := by simp at hv; exact hv.2.1
  have e1 : w.cell? ⟨b0, off, none⟩ = some (.int .i64 a) := by simpa using (hS.2 0 (by simp)).1
  have e2 : w.cell? ⟨b0, off + 1, none⟩ = some (.int .i64 b) := by simpa using (hS.2 0 (by simp)).2
  have e3 : w.cell? ⟨b0, off + 2, none⟩ = some (.int .i64 c) := by simpa using (hS.2 1 (by simp)).1
  have e4 : w.cell? ⟨b0, off + 3, none⟩ = some (.int .i64 d) := by simpa using (hS.2 1 (by simp)).2
  have hb0 := hS.1
  clear hS hS0 hv
  obtain ⟨⟨⟨x, y⟩, t⟩, hx⟩ : ∃ v, comF a b c d = v := ⟨_, rfl⟩
  have A1 := Lib.hid (com_eq hx)
  have A2 := Lib.hid (rcom_eq hx)
  clear hx
  have B1 := Lib.hid (vld_t hab)
  obtain ⟨a1, a2, a3⟩ := vld_t hab
  obtain ⟨c1, c2, c3⟩ := vld_t hcd
  have HAB := Lib.hid hab
  have HCD := Lib.hid hcd
  clear hab hcd
  have h23 := eq23
  have k1 : (0 : Int) < (l.length : Int) + 2 := by omega
  have k2 : (1 : Int) < (l.length : Int) + 2 := by omega
  go_enter Try.func4, Try.ntmps4
  go_wp2_with fail
  (go_at_call 22; refine (A.out).mono ?_; rintro e w1 ⟨rfl, hb1⟩; have hc1 := (bcell hb1).1; have hf1 := (bcell hb1).2.1; have hs1 := (bcell hb1).2.2; (try simp [go_sem] at hs1); clear hc1 hf1)
  have e1' : w1.cell? ⟨b0, off, none⟩ = some (.int .i64 a) := by rw [(bcell hb1).1 _ _ hb0]; exact e1
  have e2' : w1.cell? ⟨b0, off + 1, none⟩ = some (.int .i64 b) := by rw [(bcell hb1).1 _ _ hb0]; exact e2
  have e3' : w1.cell? ⟨b0, off + 2, none⟩ = some (.int .i64 c) := by rw [(bcell hb1).1 _ _ hb0]; exact e3
  have e4' : w1.cell? ⟨b0, off + 3, none⟩ = some (.int .i64 d) := by rw [(bcell hb1).1 _ _ hb0]; exact e4
  clear e1 e2 e3 e4
  have hb1' : b0 < w1.heap.size := Nat.lt_of_lt_of_le hb0 (bcell hb1).2.2
  go_upto_region 3 with fail
  go_cut [3, 4] (fun s3 s4 wx => ∃ B3 B4 : Nat, s3 = .pointer (some ⟨B3, 0, none⟩) ∧ s4 = .pointer (some ⟨B4, 0, none⟩) ∧ Below w.heap.size w wx ∧ w.heap.size ≤ B3 ∧ B3 < wx.heap.size ∧ w.heap.size ≤ B4 ∧ B4 < wx.heap.size ∧ wx.cell? ⟨B3, 0, none⟩ = some (.int .i64 a) ∧ wx.cell? ⟨B3, 1, none⟩ = some (.int .i64 b) ∧ wx.cell? ⟨B4, 0, none⟩ = some (.int .i64 c) ∧ wx.cell? ⟨B4, 1, none⟩ = some (.int .i64 d) ∧ (∀ i, wx.frozen? ⟨B3, i, none⟩ = false) ∧ (∀ i, wx.frozen? ⟨B4, i, none⟩ = false))
  case first =>
    refine wp_region_ext (by kernel_rfl) ?_
    refine wpE_yes (i := 0) rfl (by kernel_rfl) (by kernel_rfl) (by kernel_rfl) (fun _ _ _ _ h => h) (by rfl) ?_; apply Exists.intro; refine ⟨fun w' hw' => ?_, ?_⟩
    · (have hcw := (bcell hw').1; have hfw := (bcell hw').2.1; go_simp; (try simp (disch := omega) only [IntWalk.i64_quo, IntWalk.i64_in, IntWalk.rem_in]); exact calm_value)
    simp only [Act.put, List.setIfInBounds_toArray, List.set_cons_zero, List.set_cons_succ]
    refine wpE_yes (i := 1) rfl (by kernel_rfl) (by kernel_rfl) (by kernel_rfl) (fun _ _ _ _ h => h) (by rfl) ?_; apply Exists.intro; refine ⟨fun w' hw' => ?_, ?_⟩
    · (have hcw := (bcell hw').1; have hfw := (bcell hw').2.1; go_simp; (try simp (disch := omega) only [IntWalk.i64_quo, IntWalk.i64_in, IntWalk.rem_in]); exact calm_value)
    simp only [Act.put, List.setIfInBounds_toArray, List.set_cons_zero, List.set_cons_succ]
    refine wpE_yes (i := 2) rfl (by kernel_rfl) (by kernel_rfl) (by kernel_rfl) (fun _ _ _ _ h => h) (by rfl) ?_; apply Exists.intro; refine ⟨fun w' hw' => ?_, ?_⟩
    · (have hcw := (bcell hw').1; have hfw := (bcell hw').2.1; go_simp; (try simp (disch := omega) only [IntWalk.i64_quo, IntWalk.i64_in, IntWalk.rem_in]); exact calm_value)
    simp only [Act.put, List.setIfInBounds_toArray, List.set_cons_zero, List.set_cons_succ]
    refine wpE_yes (i := 3) rfl (by kernel_rfl) (by kernel_rfl) (by kernel_rfl) (fun _ _ _ _ h => h) (by rfl) ?_; apply Exists.intro; refine ⟨fun w' hw' => ?_, ?_⟩
    · (have hcw := (bcell hw').1; have hfw := (bcell hw').2.1; go_simp; (try simp (disch := omega) only [IntWalk.i64_quo, IntWalk.i64_in, IntWalk.rem_in]); exact calm_value)
    simp only [Act.put, List.setIfInBounds_toArray, List.set_cons_zero, List.set_cons_succ]
    refine wpE_yes (i := 4) rfl (by kernel_rfl) (by kernel_rfl) (by kernel_rfl) (fun _ _ _ _ h => h) (by rfl) ?_; apply Exists.intro; refine ⟨fun w' hw' => ?_, ?_⟩
    · (have hcw := (bcell hw').1; have hfw := (bcell hw').2.1; go_simp; (try simp (disch := omega) only [IntWalk.i64_quo, IntWalk.i64_in, IntWalk.rem_in]); exact calm_value)
    simp only [Act.put, List.setIfInBounds_toArray, List.set_cons_zero, List.set_cons_succ]
    refine wpE_yes (i := 5) rfl (by kernel_rfl) (by kernel_rfl) (by kernel_rfl) (fun _ _ _ _ h => h) (by rfl) ?_; apply Exists.intro; refine ⟨fun w' hw' => ?_, ?_⟩
    · (have hcw := (bcell hw').1; have hfw := (bcell hw').2.1; go_simp; (try simp (disch := omega) only [IntWalk.i64_quo, IntWalk.i64_in, IntWalk.rem_in]); exact calm_value)
    simp only [Act.put, List.setIfInBounds_toArray, List.set_cons_zero, List.set_cons_succ]
    refine wpE_two (i := 6) (j := 7) (by kernel_rfl) ?_ ?_
    · refine turnE rfl (by rfl) (fun w11 hb11 hC11 K hK => ?_)
      (have hc11 := (bcell hb11).1; have hf11 := (bcell hb11).2.1; have hs11 := (bcell hb11).2.2; (try simp [go_sem] at hs11); clear hc11 hf11)
      go_simp
      refine hK _ _ ?_ ?_
      · (repeat (first | assumption | refine Below.setCell ?_ (by first | omega | (simp; done) | (simp; omega)) _ | refine Below.alloc ?_ (by first | omega | (simp; done) | (simp; omega)) _))
      clear hK K hC11
      refine wpE_one (i := 7) (by kernel_rfl) rfl (by rfl) (fun w12 hb12 hC12 K hK => ?_)
      (have hc12 := (bcell hb12).1; have hf12 := (bcell hb12).2.1; have hs12 := (bcell hb12).2.2; (try simp [go_sem] at hs12); have z12_0 : w11.heap.size < w12.heap.size := (by omega); have y12_0 : (w11.heap.size = w12.heap.size) = False := eq_false (by omega); have c12_0_0 := hc12 (w11.heap.size) 0 (by first | omega | (simp; done) | (simp; omega)); have c12_0_1 := hc12 (w11.heap.size) 1 (by first | omega | (simp; done) | (simp; omega)); have f12_0 : ∀ i, w12.frozen? ⟨w11.heap.size, i, none⟩ = false := fun i => (hf12 (w11.heap.size) i (by first | omega | (simp; done) | (simp; omega))).trans (by simp [go_sem, *]); clear hc12 hf12; simp [go_sem, *] at c12_0_0; simp [go_sem, *] at c12_0_1)
      go_simp
      refine hK _ _ ?_ ?_
      · (repeat (first | assumption | refine Below.setCell ?_ (by first | omega | (simp; done) | (simp; omega)) _ | refine Below.alloc ?_ (by first | omega | (simp; done) | (simp; omega)) _))
      clear hK K hC12
      refine wpE_one (i := 8) (by kernel_rfl) rfl (by rfl) (fun w13 hb13 hC13 K hK => ?_)
      (have hc13 := (bcell hb13).1; have hf13 := (bcell hb13).2.1; have hs13 := (bcell hb13).2.2; (try simp [go_sem] at hs13); have z13_0 : w11.heap.size < w13.heap.size := (by omega); have y13_0 : (w11.heap.size = w13.heap.size) = False := eq_false (by omega); have c13_0_0 := hc13 (w11.heap.size) 0 (by first | omega | (simp; done) | (simp; omega)); have c13_0_1 := hc13 (w11.heap.size) 1 (by first | omega | (simp; done) | (simp; omega)); have f13_0 : ∀ i, w13.frozen? ⟨w11.heap.size, i, none⟩ = false := fun i => (hf13 (w11.heap.size) i (by first | omega | (simp; done) | (simp; omega))).trans (by simp [go_sem, *]); have z13_1 : w12.heap.size < w13.heap.size := (by omega); have y13_1 : (w12.heap.size = w13.heap.size) = False := eq_false (by omega); have c13_1_0 := hc13 (w12.heap.size) 0 (by first | omega | (simp; done) | (simp; omega)); have c13_1_1 := hc13 (w12.heap.size) 1 (by first | omega | (simp; done) | (simp; omega)); have f13_1 : ∀ i, w13.frozen? ⟨w12.heap.size, i, none⟩ = false := fun i => (hf13 (w12.heap.size) i (by first | omega | (simp; done) | (simp; omega))).trans (by simp [go_sem, *]); clear hc13 hf13; simp [go_sem, *] at c13_0_0; simp [go_sem, *] at c13_0_1; simp [go_sem, *] at c13_1_0; simp [go_sem, *] at c13_1_1; (try clear y12_0 f12_0 c12_0_0 c12_0_1))
      go_simp
      refine hK _ _ ?_ ?_
      · (repeat (first | assumption | refine Below.setCell ?_ (by first | omega | (simp; done) | (simp; omega)) _ | refine Below.alloc ?_ (by first | omega | (simp; done) | (simp; omega)) _))
      clear hK K hC13
      refine wpE_one (i := 9) (by kernel_rfl) rfl (by rfl) (fun w14 hb14 hC14 K hK => ?_)
      (have hc14 := (bcell hb14).1; have hf14 := (bcell hb14).2.1; have hs14 := (bcell hb14).2.2; (try simp [go_sem] at hs14); have z14_0 : w11.heap.size < w14.heap.size := (by omega); have y14_0 : (w11.heap.size = w14.heap.size) = False := eq_false (by omega); have c14_0_0 := hc14 (w11.heap.size) 0 (by first | omega | (simp; done) | (simp; omega)); have c14_0_1 := hc14 (w11.heap.size) 1 (by first | omega | (simp; done) | (simp; omega)); have f14_0 : ∀ i, w14.frozen? ⟨w11.heap.size, i, none⟩ = false := fun i => (hf14 (w11.heap.size) i (by first | omega | (simp; done) | (simp; omega))).trans (by simp [go_sem, *]); have z14_1 : w12.heap.size < w14.heap.size := (by omega); have y14_1 : (w12.heap.size = w14.heap.size) = False := eq_false (by omega); have c14_1_0 := hc14 (w12.heap.size) 0 (by first | omega | (simp; done) | (simp; omega)); have c14_1_1 := hc14 (w12.heap.size) 1 (by first | omega | (simp; done) | (simp; omega)); have f14_1 : ∀ i, w14.frozen? ⟨w12.heap.size, i, none⟩ = false := fun i => (hf14 (w12.heap.size) i (by first | omega | (simp; done) | (simp; omega))).trans (by simp [go_sem, *]); clear hc14 hf14; simp [go_sem, *] at c14_0_0; simp [go_sem, *] at c14_0_1; simp [go_sem, *] at c14_1_0; simp [go_sem, *] at c14_1_1; (try clear y13_0 f13_0 c13_0_0 c13_0_1 y13_1 f13_1 c13_1_0 c13_1_1))
      go_simp
      refine hK _ _ ?_ ?_
      · (repeat (first | assumption | refine Below.setCell ?_ (by first | omega | (simp; done) | (simp; omega)) _ | refine Below.alloc ?_ (by first | omega | (simp; done) | (simp; omega)) _))
      clear hK K hC14
      refine wpE_done (by kernel_rfl) (fun w15 hb15 hC15 => ?_) _
      (have hc15 := (bcell hb15).1; have hf15 := (bcell hb15).2.1; have hs15 := (bcell hb15).2.2; (try simp [go_sem] at hs15); have z15_0 : w11.heap.size < w15.heap.size := (by omega); have y15_0 : (w11.heap.size = w15.heap.size) = False := eq_false (by omega); have c15_0_0 := hc15 (w11.heap.size) 0 (by first | omega | (simp; done) | (simp; omega)); have c15_0_1 := hc15 (w11.heap.size) 1 (by first | omega | (simp; done) | (simp; omega)); have f15_0 : ∀ i, w15.frozen? ⟨w11.heap.size, i, none⟩ = false := fun i => (hf15 (w11.heap.size) i (by first | omega | (simp; done) | (simp; omega))).trans (by simp [go_sem, *]); have z15_1 : w12.heap.size < w15.heap.size := (by omega); have y15_1 : (w12.heap.size = w15.heap.size) = False := eq_false (by omega); have c15_1_0 := hc15 (w12.heap.size) 0 (by first | omega | (simp; done) | (simp; omega)); have c15_1_1 := hc15 (w12.heap.size) 1 (by first | omega | (simp; done) | (simp; omega)); have f15_1 : ∀ i, w15.frozen? ⟨w12.heap.size, i, none⟩ = false := fun i => (hf15 (w12.heap.size) i (by first | omega | (simp; done) | (simp; omega))).trans (by simp [go_sem, *]); clear hc15 hf15; simp [go_sem, *] at c15_0_0; simp [go_sem, *] at c15_0_1; simp [go_sem, *] at c15_1_0; simp [go_sem, *] at c15_1_1; (try clear y14_0 f14_0 c14_0_0 c14_0_1 y14_1 f14_1 c14_1_0 c14_1_1))
      clear hC15
      go_wp2_with fail
      go_meet
      exact ⟨w11.heap.size, w12.heap.size, rfl, rfl, by (repeat (first | exact Below.refl _ _ | refine Below.setCell ?_ (by first | omega | (simp; done) | (simp; omega)) _ | refine Below.alloc ?_ (by first | omega | (simp; done) | (simp; omega)) _ | refine below_drewN ?_ _ | refine Below.drew ?_ | refine Below.trans ?_ (Below.mono (by assumption) (by first | omega | (simp; done) | (simp; omega))))), by omega, by omega, by omega, by omega, by assumption, by assumption, by assumption, by assumption, by assumption, by assumption⟩
    · refine turnE rfl (by rfl) (fun w11 hb11 hC11 K hK => ?_)
      (have hc11 := (bcell hb11).1; have hf11 := (bcell hb11).2.1; have hs11 := (bcell hb11).2.2; (try simp [go_sem] at hs11); clear hc11 hf11; (try clear y15_0 f15_0 c15_0_0 c15_0_1 y15_1 f15_1 c15_1_0 c15_1_1))
      go_simp
      refine hK _ _ ?_ ?_
      · (repeat (first | assumption | refine Below.setCell ?_ (by first | omega | (simp; done) | (simp; omega)) _ | refine Below.alloc ?_ (by first | omega | (simp; done) | (simp; omega)) _))
      clear hK K hC11
      refine wpE_one (i := 6) (by kernel_rfl) rfl (by rfl) (fun w12 hb12 hC12 K hK => ?_)
      (have hc12 := (bcell hb12).1; have hf12 := (bcell hb12).2.1; have hs12 := (bcell hb12).2.2; (try simp [go_sem] at hs12); have z12_0 : w11.heap.size < w12.heap.size := (by omega); have y12_0 : (w11.heap.size = w12.heap.size) = False := eq_false (by omega); have c12_0_0 := hc12 (w11.heap.size) 0 (by first | omega | (simp; done) | (simp; omega)); have c12_0_1 := hc12 (w11.heap.size) 1 (by first | omega | (simp; done) | (simp; omega)); have f12_0 : ∀ i, w12.frozen? ⟨w11.heap.size, i, none⟩ = false := fun i => (hf12 (w11.heap.size) i (by first | omega | (simp; done) | (simp; omega))).trans (by simp [go_sem, *]); clear hc12 hf12; simp [go_sem, *] at c12_0_0; simp [go_sem, *] at c12_0_1)
      go_simp
      refine hK _ _ ?_ ?_
      · (repeat (first | assumption | refine Below.setCell ?_ (by first | omega | (simp; done) | (simp; omega)) _ | refine Below.alloc ?_ (by first | omega | (simp; done) | (simp; omega)) _))
      clear hK K hC12
      refine wpE_one (i := 8) (by kernel_rfl) rfl (by rfl) (fun w13 hb13 hC13 K hK => ?_)
      (have hc13 := (bcell hb13).1; have hf13 := (bcell hb13).2.1; have hs13 := (bcell hb13).2.2; (try simp [go_sem] at hs13); have z13_0 : w11.heap.size < w13.heap.size := (by omega); have y13_0 : (w11.heap.size = w13.heap.size) = False := eq_false (by omega); have c13_0_0 := hc13 (w11.heap.size) 0 (by first | omega | (simp; done) | (simp; omega)); have c13_0_1 := hc13 (w11.heap.size) 1 (by first | omega | (simp; done) | (simp; omega)); have f13_0 : ∀ i, w13.frozen? ⟨w11.heap.size, i, none⟩ = false := fun i => (hf13 (w11.heap.size) i (by first | omega | (simp; done) | (simp; omega))).trans (by simp [go_sem, *]); have z13_1 : w12.heap.size < w13.heap.size := (by omega); have y13_1 : (w12.heap.size = w13.heap.size) = False := eq_false (by omega); have c13_1_0 := hc13 (w12.heap.size) 0 (by first | omega | (simp; done) | (simp; omega)); have c13_1_1 := hc13 (w12.heap.size) 1 (by first | omega | (simp; done) | (simp; omega)); have f13_1 : ∀ i, w13.frozen? ⟨w12.heap.size, i, none⟩ = false := fun i => (hf13 (w12.heap.size) i (by first | omega | (simp; done) | (simp; omega))).trans (by simp [go_sem, *]); clear hc13 hf13; simp [go_sem, *] at c13_0_0; simp [go_sem, *] at c13_0_1; simp [go_sem, *] at c13_1_0; simp [go_sem, *] at c13_1_1; (try clear y12_0 f12_0 c12_0_0 c12_0_1))
      go_simp
      refine hK _ _ ?_ ?_
      · (repeat (first | assumption | refine Below.setCell ?_ (by first | omega | (simp; done) | (simp; omega)) _ | refine Below.alloc ?_ (by first | omega | (simp; done) | (simp; omega)) _))
      clear hK K hC13
      refine wpE_one (i := 9) (by kernel_rfl) rfl (by rfl) (fun w14 hb14 hC14 K hK => ?_)
      (have hc14 := (bcell hb14).1; have hf14 := (bcell hb14).2.1; have hs14 := (bcell hb14).2.2; (try simp [go_sem] at hs14); have z14_0 : w11.heap.size < w14.heap.size := (by omega); have y14_0 : (w11.heap.size = w14.heap.size) = False := eq_false (by omega); have c14_0_0 := hc14 (w11.heap.size) 0 (by first | omega | (simp; done) | (simp; omega)); have c14_0_1 := hc14 (w11.heap.size) 1 (by first | omega | (simp; done) | (simp; omega)); have f14_0 : ∀ i, w14.frozen? ⟨w11.heap.size, i, none⟩ = false := fun i => (hf14 (w11.heap.size) i (by first | omega | (simp; done) | (simp; omega))).trans (by simp [go_sem, *]); have z14_1 : w12.heap.size < w14.heap.size := (by omega); have y14_1 : (w12.heap.size = w14.heap.size) = False := eq_false (by omega); have c14_1_0 := hc14 (w12.heap.size) 0 (by first | omega | (simp; done) | (simp; omega)); have c14_1_1 := hc14 (w12.heap.size) 1 (by first | omega | (simp; done) | (simp; omega)); have f14_1 : ∀ i, w14.frozen? ⟨w12.heap.size, i, none⟩ = false := fun i => (hf14 (w12.heap.size) i (by first | omega | (simp; done) | (simp; omega))).trans (by simp [go_sem, *]); clear hc14 hf14; simp [go_sem, *] at c14_0_0; simp [go_sem, *] at c14_0_1; simp [go_sem, *] at c14_1_0; simp [go_sem, *] at c14_1_1; (try clear y13_0 f13_0 c13_0_0 c13_0_1 y13_1 f13_1 c13_1_0 c13_1_1))
      go_simp
      refine hK _ _ ?_ ?_
      · (repeat (first | assumption | refine Below.setCell ?_ (by first | omega | (simp; done) | (simp; omega)) _ | refine Below.alloc ?_ (by first | omega | (simp; done) | (simp; omega)) _))
      clear hK K hC14
      refine wpE_done (by kernel_rfl) (fun w15 hb15 hC15 => ?_) _
      (have hc15 := (bcell hb15).1; have hf15 := (bcell hb15).2.1; have hs15 := (bcell hb15).2.2; (try simp [go_sem] at hs15); have z15_0 : w11.heap.size < w15.heap.size := (by omega); have y15_0 : (w11.heap.size = w15.heap.size) = False := eq_false (by omega); have c15_0_0 := hc15 (w11.heap.size) 0 (by first | omega | (simp; done) | (simp; omega)); have c15_0_1 := hc15 (w11.heap.size) 1 (by first | omega | (simp; done) | (simp; omega)); have f15_0 : ∀ i, w15.frozen? ⟨w11.heap.size, i, none⟩ = false := fun i => (hf15 (w11.heap.size) i (by first | omega | (simp; done) | (simp; omega))).trans (by simp [go_sem, *]); have z15_1 : w12.heap.size < w15.heap.size := (by omega); have y15_1 : (w12.heap.size = w15.heap.size) = False := eq_false (by omega); have c15_1_0 := hc15 (w12.heap.size) 0 (by first | omega | (simp; done) | (simp; omega)); have c15_1_1 := hc15 (w12.heap.size) 1 (by first | omega | (simp; done) | (simp; omega)); have f15_1 : ∀ i, w15.frozen? ⟨w12.heap.size, i, none⟩ = false := fun i => (hf15 (w12.heap.size) i (by first | omega | (simp; done) | (simp; omega))).trans (by simp [go_sem, *]); clear hc15 hf15; simp [go_sem, *] at c15_0_0; simp [go_sem, *] at c15_0_1; simp [go_sem, *] at c15_1_0; simp [go_sem, *] at c15_1_1; (try clear y14_0 f14_0 c14_0_0 c14_0_1 y14_1 f14_1 c14_1_0 c14_1_1))
      clear hC15
      go_wp2_with fail
      go_meet
      exact ⟨w12.heap.size, w11.heap.size, rfl, rfl, by (repeat (first | exact Below.refl _ _ | refine Below.setCell ?_ (by first | omega | (simp; done) | (simp; omega)) _ | refine Below.alloc ?_ (by first | omega | (simp; done) | (simp; omega)) _ | refine below_drewN ?_ _ | refine Below.drew ?_ | refine Below.trans ?_ (Below.mono (by assumption) (by first | omega | (simp; done) | (simp; omega))))), by omega, by omega, by omega, by omega, by assumption, by assumption, by assumption, by assumption, by assumption, by assumption⟩
  case rest =>
    obtain ⟨B3, B4, rfl, rfl, hg, hB3, hb3, hB4, hb4, d1, d2, d3, d4, z1, z2⟩ := hcut
    have HS := Lib.hid (HS.out.grow hg)
    go_wp2_with fail
    (go_at_call 23; refine (A1.out _).mono ?_; rintro e w2 ⟨rfl, hb2⟩; have hc2 := (bcell hb2).1; have hf2 := (bcell hb2).2.1; have hs2 := (bcell hb2).2.2; (try simp [go_sem] at hs2); have z2_0 : B3 < w2.heap.size := (by omega); have y2_0 : (B3 = w2.heap.size) = False := eq_false (by omega); have c2_0_0 := hc2 (B3) 0 (by first | omega | (simp; done) | (simp; omega)); have c2_0_1 := hc2 (B3) 1 (by first | omega | (simp; done) | (simp; omega)); have z2_1 : B4 < w2.heap.size := (by omega); have y2_1 : (B4 = w2.heap.size) = False := eq_false (by omega); have c2_1_0 := hc2 (B4) 0 (by first | omega | (simp; done) | (simp; omega)); have c2_1_1 := hc2 (B4) 1 (by first | omega | (simp; done) | (simp; omega)); clear hc2 hf2; simp [go_sem, *] at c2_0_0; simp [go_sem, *] at c2_0_1; simp [go_sem, *] at c2_1_0; simp [go_sem, *] at c2_1_1; (try clear y15_0 f15_0 c15_0_0 c15_0_1 y15_1 f15_1 c15_1_0 c15_1_1))
    go_wp2_with fail
    (go_at_call 24; refine (A2.out _).mono ?_; rintro e w3 ⟨rfl, hb3⟩; have hc3 := (bcell hb3).1; have hf3 := (bcell hb3).2.1; have hs3 := (bcell hb3).2.2; (try simp [go_sem] at hs3); have z3_0 : B3 < w3.heap.size := (by omega); have y3_0 : (B3 = w3.heap.size) = False := eq_false (by omega); have c3_0_0 := hc3 (B3) 0 (by first | omega | (simp; done) | (simp; omega)); have c3_0_1 := hc3 (B3) 1 (by first | omega | (simp; done) | (simp; omega)); have z3_1 : B4 < w3.heap.size := (by omega); have y3_1 : (B4 = w3.heap.size) = False := eq_false (by omega); have c3_1_0 := hc3 (B4) 0 (by first | omega | (simp; done) | (simp; omega)); have c3_1_1 := hc3 (B4) 1 (by first | omega | (simp; done) | (simp; omega)); have z3_2 : w2.heap.size < w3.heap.size := (by omega); have y3_2 : (w2.heap.size = w3.heap.size) = False := eq_false (by omega); have c3_2_0 := hc3 (w2.heap.size) 0 (by first | omega | (simp; done) | (simp; omega)); have c3_2_1 := hc3 (w2.heap.size) 1 (by first | omega | (simp; done) | (simp; omega)); have f3_2 : ∀ i, w3.frozen? ⟨w2.heap.size, i, none⟩ = false := fun i => (hf3 (w2.heap.size) i (by first | omega | (simp; done) | (simp; omega))).trans (by simp [go_sem, *]); clear hc3 hf3; simp [go_sem, *] at c3_0_0; simp [go_sem, *] at c3_0_1; simp [go_sem, *] at c3_1_0; simp [go_sem, *] at c3_1_1; simp [go_sem, *] at c3_2_0; simp [go_sem, *] at c3_2_1; (try clear y2_0 c2_0_0 c2_0_1 y2_1 c2_1_0 c2_1_1))
    go_wp2_with fail
    refine wp_region_ext (by kernel_rfl) ?_
    refine wpE_yes (i := 0) rfl (by kernel_rfl) (by kernel_rfl) (by kernel_rfl) (fun _ _ _ _ h => h) (by rfl) ?_; apply Exists.intro; refine ⟨fun w' hw' => ?_, ?_⟩
    · (have hcw := (bcell hw').1; have hfw := (bcell hw').2.1; go_simp; exact calm_call (sanity_any _) (fun _ hb => Grew.trans hw' hb))
    simp only [Act.put, List.setIfInBounds_toArray, List.set_cons_zero, List.set_cons_succ]
    refine wpE_yes (i := 1) rfl (by kernel_rfl) (by kernel_rfl) (by kernel_rfl) (fun _ _ _ _ h => h) (by rfl) ?_; apply Exists.intro; refine ⟨fun w' hw' => ?_, ?_⟩
    · (have hcw := (bcell hw').1; have hfw := (bcell hw').2.1; go_simp; (try simp (disch := omega) only [IntWalk.i64_quo, IntWalk.i64_in, IntWalk.rem_in]); exact calm_value)
    simp only [Act.put, List.setIfInBounds_toArray, List.set_cons_zero, List.set_cons_succ]
    first
      | (refine wpE_nope (i := 2) rfl (by kernel_rfl) (by kernel_rfl) (by kernel_rfl) (fun _ _ _ _ h => h) (by rfl) ?_; simp only [Act.put, List.setIfInBounds_toArray, List.set_cons_zero, List.set_cons_succ])
      | (refine wpE_yes (i := 2) rfl (by kernel_rfl) (by kernel_rfl) (by kernel_rfl) (fun _ _ _ _ h => h) (by rfl) ?_; apply Exists.intro; refine ⟨fun w' hw' => ?_, ?_⟩; (· (have hcw := (bcell hw').1; have hfw := (bcell hw').2.1; go_simp; (try simp (disch := omega) only [IntWalk.i64_quo, IntWalk.i64_in, IntWalk.rem_in]); exact calm_value)); simp only [Act.put, List.setIfInBounds_toArray, List.set_cons_zero, List.set_cons_succ])
    first
      | (refine wpE_nope (i := 3) rfl (by kernel_rfl) (by kernel_rfl) (by kernel_rfl) (fun _ _ _ _ h => h) (by rfl) ?_; simp only [Act.put, List.setIfInBounds_toArray, List.set_cons_zero, List.set_cons_succ])
      | (refine wpE_yes (i := 3) rfl (by kernel_rfl) (by kernel_rfl) (by kernel_rfl) (fun _ _ _ _ h => h) (by rfl) ?_; apply Exists.intro; refine ⟨fun w' hw' => ?_, ?_⟩; (· (have hcw := (bcell hw').1; have hfw := (bcell hw').2.1; go_simp; (try simp (disch := omega) only [IntWalk.i64_quo, IntWalk.i64_in, IntWalk.rem_in]); exact calm_value)); simp only [Act.put, List.setIfInBounds_toArray, List.set_cons_zero, List.set_cons_succ])
    first
      | (refine wpE_nope (i := 4) rfl (by kernel_rfl) (by kernel_rfl) (by kernel_rfl) (fun _ _ _ _ h => h) (by rfl) ?_; simp only [Act.put, List.setIfInBounds_toArray, List.set_cons_zero, List.set_cons_succ])
      | (refine wpE_yes (i := 4) rfl (by kernel_rfl) (by kernel_rfl) (by kernel_rfl) (fun _ _ _ _ h => h) (by rfl) ?_; apply Exists.intro; refine ⟨fun w' hw' => ?_, ?_⟩; (· (have hcw := (bcell hw').1; have hfw := (bcell hw').2.1; go_simp; (try simp (disch := omega) only [IntWalk.i64_quo, IntWalk.i64_in, IntWalk.rem_in]); exact calm_value)); simp only [Act.put, List.setIfInBounds_toArray, List.set_cons_zero, List.set_cons_succ])
    refine wpE_yes (i := 5) rfl (by kernel_rfl) (by kernel_rfl) (by kernel_rfl) (fun _ _ _ _ h => h) (by rfl) ?_; apply Exists.intro; refine ⟨fun w' hw' => ?_, ?_⟩
    · (have hcw := (bcell hw').1; have hfw := (bcell hw').2.1; go_simp; (try simp (disch := omega) only [IntWalk.i64_quo, IntWalk.i64_in, IntWalk.rem_in]); exact calm_value)
    simp only [Act.put, List.setIfInBounds_toArray, List.set_cons_zero, List.set_cons_succ]
    refine wpE_yes (i := 6) rfl (by kernel_rfl) (by kernel_rfl) (by kernel_rfl) (fun _ _ _ _ h => h) (by rfl) ?_; apply Exists.intro; refine ⟨fun w' hw' => ?_, ?_⟩
    · (have hcw := (bcell hw').1; have hfw := (bcell hw').2.1; go_simp; (try simp (disch := omega) only [IntWalk.i64_quo, IntWalk.i64_in, IntWalk.rem_in]); exact calm_value)
    simp only [Act.put, List.setIfInBounds_toArray, List.set_cons_zero, List.set_cons_succ]
    first
      | (refine wpE_nope (i := 7) rfl (by kernel_rfl) (by kernel_rfl) (by kernel_rfl) (fun _ _ _ _ h => h) (by rfl) ?_; simp only [Act.put, List.setIfInBounds_toArray, List.set_cons_zero, List.set_cons_succ])
      | (refine wpE_yes (i := 7) rfl (by kernel_rfl) (by kernel_rfl) (by kernel_rfl) (fun _ _ _ _ h => h) (by rfl) ?_; apply Exists.intro; refine ⟨fun w' hw' => ?_, ?_⟩; (· (have hcw := (bcell hw').1; have hfw := (bcell hw').2.1; go_simp; (try simp (disch := omega) only [IntWalk.i64_quo, IntWalk.i64_in, IntWalk.rem_in]); exact calm_value)); simp only [Act.put, List.setIfInBounds_toArray, List.set_cons_zero, List.set_cons_succ])
    first
      | (refine wpE_nope (i := 8) rfl (by kernel_rfl) (by kernel_rfl) (by kernel_rfl) (fun _ _ _ _ h => h) (by rfl) ?_; simp only [Act.put, List.setIfInBounds_toArray, List.set_cons_zero, List.set_cons_succ])
      | (refine wpE_yes (i := 8) rfl (by kernel_rfl) (by kernel_rfl) (by kernel_rfl) (fun _ _ _ _ h => h) (by rfl) ?_; apply Exists.intro; refine ⟨fun w' hw' => ?_, ?_⟩; (· (have hcw := (bcell hw').1; have hfw := (bcell hw').2.1; go_simp; (try simp (disch := omega) only [IntWalk.i64_quo, IntWalk.i64_in, IntWalk.rem_in]); exact calm_value)); simp only [Act.put, List.setIfInBounds_toArray, List.set_cons_zero, List.set_cons_succ])
    first
      | (refine wpE_nope (i := 9) rfl (by kernel_rfl) (by kernel_rfl) (by kernel_rfl) (fun _ _ _ _ h => h) (by rfl) ?_; simp only [Act.put, List.setIfInBounds_toArray, List.set_cons_zero, List.set_cons_succ])
      | (refine wpE_yes (i := 9) rfl (by kernel_rfl) (by kernel_rfl) (by kernel_rfl) (fun _ _ _ _ h => h) (by rfl) ?_; apply Exists.intro; refine ⟨fun w' hw' => ?_, ?_⟩; (· (have hcw := (bcell hw').1; have hfw := (bcell hw').2.1; go_simp; (try simp (disch := omega) only [IntWalk.i64_quo, IntWalk.i64_in, IntWalk.rem_in]); exact calm_value)); simp only [Act.put, List.setIfInBounds_toArray, List.set_cons_zero, List.set_cons_succ])
    refine wpE_yes (i := 10) rfl (by kernel_rfl) (by kernel_rfl) (by kernel_rfl) (fun _ _ _ _ h => h) (by rfl) ?_; apply Exists.intro; refine ⟨fun w' hw' => ?_, ?_⟩
    · (have hcw := (bcell hw').1; have hfw := (bcell hw').2.1; go_simp; (try simp (disch := omega) only [IntWalk.i64_quo, IntWalk.i64_in, IntWalk.rem_in]); exact calm_value)
    simp only [Act.put, List.setIfInBounds_toArray, List.set_cons_zero, List.set_cons_succ]
    refine wpE_yes (i := 11) rfl (by kernel_rfl) (by kernel_rfl) (by kernel_rfl) (fun _ _ _ _ h => h) (by rfl) ?_; apply Exists.intro; refine ⟨fun w' hw' => ?_, ?_⟩
    · (have hcw := (bcell hw').1; have hfw := (bcell hw').2.1; go_simp; (try simp (disch := omega) only [IntWalk.i64_quo, IntWalk.i64_in, IntWalk.rem_in]); exact calm_value)
    simp only [Act.put, List.setIfInBounds_toArray, List.set_cons_zero, List.set_cons_succ]
    first
      | (refine wpE_nope (i := 12) rfl (by kernel_rfl) (by kernel_rfl) (by kernel_rfl) (fun _ _ _ _ h => h) (by rfl) ?_; simp only [Act.put, List.setIfInBounds_toArray, List.set_cons_zero, List.set_cons_succ])
      | (refine wpE_yes (i := 12) rfl (by kernel_rfl) (by kernel_rfl) (by kernel_rfl) (fun _ _ _ _ h => h) (by rfl) ?_; apply Exists.intro; refine ⟨fun w' hw' => ?_, ?_⟩; (· (have hcw := (bcell hw').1; have hfw := (bcell hw').2.1; go_simp; (try simp (disch := omega) only [IntWalk.i64_quo, IntWalk.i64_in, IntWalk.rem_in]); exact calm_value)); simp only [Act.put, List.setIfInBounds_toArray, List.set_cons_zero, List.set_cons_succ])
    first
      | (refine wpE_nope (i := 13) rfl (by kernel_rfl) (by kernel_rfl) (by kernel_rfl) (fun _ _ _ _ h => h) (by rfl) ?_; simp only [Act.put, List.setIfInBounds_toArray, List.set_cons_zero, List.set_cons_succ])
      | (refine wpE_yes (i := 13) rfl (by kernel_rfl) (by kernel_rfl) (by kernel_rfl) (fun _ _ _ _ h => h) (by rfl) ?_; apply Exists.intro; refine ⟨fun w' hw' => ?_, ?_⟩; (· (have hcw := (bcell hw').1; have hfw := (bcell hw').2.1; go_simp; (try simp (disch := omega) only [IntWalk.i64_quo, IntWalk.i64_in, IntWalk.rem_in]); exact calm_value)); simp only [Act.put, List.setIfInBounds_toArray, List.set_cons_zero, List.set_cons_succ])
    refine wpE_yes (i := 14) rfl (by kernel_rfl) (by kernel_rfl) (by kernel_rfl) (fun _ _ _ _ h => h) (by rfl) ?_; apply Exists.intro; refine ⟨fun w' hw' => ?_, ?_⟩
    · (have hcw := (bcell hw').1; have hfw := (bcell hw').2.1; go_simp; exact calm_call (before_any _ _ _ _ _) (fun _ hb => Grew.trans hw' hb))
    simp only [Act.put, List.setIfInBounds_toArray, List.set_cons_zero, List.set_cons_succ]
    first
      | (refine wpE_nope (i := 15) rfl (by kernel_rfl) (by kernel_rfl) (by kernel_rfl) (fun _ _ _ _ h => h) (by rfl) ?_; simp only [Act.put, List.setIfInBounds_toArray, List.set_cons_zero, List.set_cons_succ])
      | (refine wpE_yes (i := 15) rfl (by kernel_rfl) (by kernel_rfl) (by kernel_rfl) (fun _ _ _ _ h => h) (by rfl) ?_; apply Exists.intro; refine ⟨fun w' hw' => ?_, ?_⟩; (· (have hcw := (bcell hw').1; have hfw := (bcell hw').2.1; go_simp; (try simp (disch := omega) only [IntWalk.i64_quo, IntWalk.i64_in, IntWalk.rem_in]); exact calm_value)); simp only [Act.put, List.setIfInBounds_toArray, List.set_cons_zero, List.set_cons_succ])
    first
      | (refine wpE_nope (i := 16) rfl (by kernel_rfl) (by kernel_rfl) (by kernel_rfl) (fun _ _ _ _ h => h) (by rfl) ?_; simp only [Act.put, List.setIfInBounds_toArray, List.set_cons_zero, List.set_cons_succ])
      | (refine wpE_yes (i := 16) rfl (by kernel_rfl) (by kernel_rfl) (by kernel_rfl) (fun _ _ _ _ h => h) (by rfl) ?_; apply Exists.intro; refine ⟨fun w' hw' => ?_, ?_⟩; (· (have hcw := (bcell hw').1; have hfw := (bcell hw').2.1; go_simp; (try simp (disch := omega) only [IntWalk.i64_quo, IntWalk.i64_in, IntWalk.rem_in]); exact calm_value)); simp only [Act.put, List.setIfInBounds_toArray, List.set_cons_zero, List.set_cons_succ])
    refine wpE_yes (i := 17) rfl (by kernel_rfl) (by kernel_rfl) (by kernel_rfl) (fun _ _ _ _ h => h) (by rfl) ?_; apply Exists.intro; refine ⟨fun w' hw' => ?_, ?_⟩
    · (have hcw := (bcell hw').1; have hfw := (bcell hw').2.1; go_simp; exact calm_call (rbefore_any _ _ _ _ _) (fun _ hb => Grew.trans hw' hb))
    simp only [Act.put, List.setIfInBounds_toArray, List.set_cons_zero, List.set_cons_succ]
    first
      | (refine wpE_nope (i := 18) rfl (by kernel_rfl) (by kernel_rfl) (by kernel_rfl) (fun _ _ _ _ h => h) (by rfl) ?_; simp only [Act.put, List.setIfInBounds_toArray, List.set_cons_zero, List.set_cons_succ])
      | (refine wpE_yes (i := 18) rfl (by kernel_rfl) (by kernel_rfl) (by kernel_rfl) (fun _ _ _ _ h => h) (by rfl) ?_; apply Exists.intro; refine ⟨fun w' hw' => ?_, ?_⟩; (· (have hcw := (bcell hw').1; have hfw := (bcell hw').2.1; go_simp; (try simp (disch := omega) only [IntWalk.i64_quo, IntWalk.i64_in, IntWalk.rem_in]); exact calm_value)); simp only [Act.put, List.setIfInBounds_toArray, List.set_cons_zero, List.set_cons_succ])
    refine wpE_yes (i := 19) rfl (by kernel_rfl) (by kernel_rfl) (by kernel_rfl) (fun _ _ _ _ h => h) (by rfl) ?_; apply Exists.intro; refine ⟨fun w' hw' => ?_, ?_⟩
    · (have hcw := (bcell hw').1; have hfw := (bcell hw').2.1; go_simp; (try simp (disch := omega) only [IntWalk.i64_quo, IntWalk.i64_in, IntWalk.rem_in]); exact calm_value)
    simp only [Act.put, List.setIfInBounds_toArray, List.set_cons_zero, List.set_cons_succ]
    refine wpE_yes (i := 20) rfl (by kernel_rfl) (by kernel_rfl) (by kernel_rfl) (fun _ _ _ _ h => h) (by rfl) ?_; apply Exists.intro; refine ⟨fun w' hw' => ?_, ?_⟩
    · (have hcw := (bcell hw').1; have hfw := (bcell hw').2.1; go_simp; (try simp (disch := omega) only [IntWalk.i64_quo, IntWalk.i64_in, IntWalk.rem_in]); exact calm_value)
    simp only [Act.put, List.setIfInBounds_toArray, List.set_cons_zero, List.set_cons_succ]
    first
      | (refine wpE_nope (i := 21) rfl (by kernel_rfl) (by kernel_rfl) (by kernel_rfl) (fun _ _ _ _ h => h) (by rfl) ?_; simp only [Act.put, List.setIfInBounds_toArray, List.set_cons_zero, List.set_cons_succ])
      | (refine wpE_yes (i := 21) rfl (by kernel_rfl) (by kernel_rfl) (by kernel_rfl) (fun _ _ _ _ h => h) (by rfl) ?_; apply Exists.intro; refine ⟨fun w' hw' => ?_, ?_⟩; (· (have hcw := (bcell hw').1; have hfw := (bcell hw').2.1; go_simp; (try simp (disch := omega) only [IntWalk.i64_quo, IntWalk.i64_in, IntWalk.rem_in]); exact calm_value)); simp only [Act.put, List.setIfInBounds_toArray, List.set_cons_zero, List.set_cons_succ])
    first
      | (refine wpE_nope (i := 22) rfl (by kernel_rfl) (by kernel_rfl) (by kernel_rfl) (fun _ _ _ _ h => h) (by rfl) ?_; simp only [Act.put, List.setIfInBounds_toArray, List.set_cons_zero, List.set_cons_succ])
      | (refine wpE_yes (i := 22) rfl (by kernel_rfl) (by kernel_rfl) (by kernel_rfl) (fun _ _ _ _ h => h) (by rfl) ?_; apply Exists.intro; refine ⟨fun w' hw' => ?_, ?_⟩; (· (have hcw := (bcell hw').1; have hfw := (bcell hw').2.1; go_simp; (try simp (disch := omega) only [IntWalk.i64_quo, IntWalk.i64_in, IntWalk.rem_in]); exact calm_value)); simp only [Act.put, List.setIfInBounds_toArray, List.set_cons_zero, List.set_cons_succ])
    refine wpE_yes (i := 23) rfl (by kernel_rfl) (by kernel_rfl) (by kernel_rfl) (fun _ _ _ _ h => h) (by rfl) ?_; apply Exists.intro; refine ⟨fun w' hw' => ?_, ?_⟩
    · (have hcw := (bcell hw').1; have hfw := (bcell hw').2.1; go_simp; exact calm_call (may_any _ _ _ _ _) (fun _ hb => Grew.trans hw' hb))
    simp only [Act.put, List.setIfInBounds_toArray, List.set_cons_zero, List.set_cons_succ]
    first
      | (refine wpE_nope (i := 24) rfl (by kernel_rfl) (by kernel_rfl) (by kernel_rfl) (fun _ _ _ _ h => h) (by rfl) ?_; simp only [Act.put, List.setIfInBounds_toArray, List.set_cons_zero, List.set_cons_succ])
      | (refine wpE_yes (i := 24) rfl (by kernel_rfl) (by kernel_rfl) (by kernel_rfl) (fun _ _ _ _ h => h) (by rfl) ?_; apply Exists.intro; refine ⟨fun w' hw' => ?_, ?_⟩; (· (have hcw := (bcell hw').1; have hfw := (bcell hw').2.1; go_simp; (try simp (disch := omega) only [IntWalk.i64_quo, IntWalk.i64_in, IntWalk.rem_in]); exact calm_value)); simp only [Act.put, List.setIfInBounds_toArray, List.set_cons_zero, List.set_cons_succ])
    first
      | (refine wpE_nope (i := 25) rfl (by kernel_rfl) (by kernel_rfl) (by kernel_rfl) (fun _ _ _ _ h => h) (by rfl) ?_; simp only [Act.put, List.setIfInBounds_toArray, List.set_cons_zero, List.set_cons_succ])
      | (refine wpE_yes (i := 25) rfl (by kernel_rfl) (by kernel_rfl) (by kernel_rfl) (fun _ _ _ _ h => h) (by rfl) ?_; apply Exists.intro; refine ⟨fun w' hw' => ?_, ?_⟩; (· (have hcw := (bcell hw').1; have hfw := (bcell hw').2.1; go_simp; (try simp (disch := omega) only [IntWalk.i64_quo, IntWalk.i64_in, IntWalk.rem_in]); exact calm_value)); simp only [Act.put, List.setIfInBounds_toArray, List.set_cons_zero, List.set_cons_succ])
    refine wpE_yes (i := 26) rfl (by kernel_rfl) (by kernel_rfl) (by kernel_rfl) (fun _ _ _ _ h => h) (by rfl) ?_; apply Exists.intro; refine ⟨fun w' hw' => ?_, ?_⟩
    · (have hcw := (bcell hw').1; have hfw := (bcell hw').2.1; go_simp; exact calm_call (rmay_any _ _ _ _ _) (fun _ hb => Grew.trans hw' hb))
    simp only [Act.put, List.setIfInBounds_toArray, List.set_cons_zero, List.set_cons_succ]
    first
      | (refine wpE_nope (i := 27) rfl (by kernel_rfl) (by kernel_rfl) (by kernel_rfl) (fun _ _ _ _ h => h) (by rfl) ?_; simp only [Act.put, List.setIfInBounds_toArray, List.set_cons_zero, List.set_cons_succ])
      | (refine wpE_yes (i := 27) rfl (by kernel_rfl) (by kernel_rfl) (by kernel_rfl) (fun _ _ _ _ h => h) (by rfl) ?_; apply Exists.intro; refine ⟨fun w' hw' => ?_, ?_⟩; (· (have hcw := (bcell hw').1; have hfw := (bcell hw').2.1; go_simp; (try simp (disch := omega) only [IntWalk.i64_quo, IntWalk.i64_in, IntWalk.rem_in]); exact calm_value)); simp only [Act.put, List.setIfInBounds_toArray, List.set_cons_zero, List.set_cons_succ])
    refine wpE_yes (i := 28) rfl (by kernel_rfl) (by kernel_rfl) (by kernel_rfl) (fun _ _ _ _ h => h) (by rfl) ?_; apply Exists.intro; refine ⟨fun w' hw' => ?_, ?_⟩
    · (have hcw := (bcell hw').1; have hfw := (bcell hw').2.1; go_simp; (try simp (disch := omega) only [IntWalk.i64_quo, IntWalk.i64_in, IntWalk.rem_in]); exact calm_value)
    simp only [Act.put, List.setIfInBounds_toArray, List.set_cons_zero, List.set_cons_succ]
    refine wpE_yes (i := 29) rfl (by kernel_rfl) (by kernel_rfl) (by kernel_rfl) (fun _ _ _ _ h => h) (by rfl) ?_; apply Exists.intro; refine ⟨fun w' hw' => ?_, ?_⟩
    · (have hcw := (bcell hw').1; have hfw := (bcell hw').2.1; go_simp; (try simp (disch := omega) only [IntWalk.i64_quo, IntWalk.i64_in, IntWalk.rem_in]); exact calm_value)
    simp only [Act.put, List.setIfInBounds_toArray, List.set_cons_zero, List.set_cons_succ]
    first
      | (refine wpE_nope (i := 30) rfl (by kernel_rfl) (by kernel_rfl) (by kernel_rfl) (fun _ _ _ _ h => h) (by rfl) ?_; simp only [Act.put, List.setIfInBounds_toArray, List.set_cons_zero, List.set_cons_succ])
      | (refine wpE_yes (i := 30) rfl (by kernel_rfl) (by kernel_rfl) (by kernel_rfl) (fun _ _ _ _ h => h) (by rfl) ?_; apply Exists.intro; refine ⟨fun w' hw' => ?_, ?_⟩; (· (have hcw := (bcell hw').1; have hfw := (bcell hw').2.1; go_simp; (try simp (disch := omega) only [IntWalk.i64_quo, IntWalk.i64_in, IntWalk.rem_in]); exact calm_value)); simp only [Act.put, List.setIfInBounds_toArray, List.set_cons_zero, List.set_cons_succ])
    refine wpE_yes (i := 31) rfl (by kernel_rfl) (by kernel_rfl) (by kernel_rfl) (fun _ _ _ _ h => h) (by rfl) ?_; apply Exists.intro; refine ⟨fun w' hw' => ?_, ?_⟩
    · (have hcw := (bcell hw').1; have hfw := (bcell hw').2.1; go_simp; exact calm_call (width_any _ _ _ (by omega) (by omega)) (fun _ hb => Grew.trans hw' hb))
    simp only [Act.put, List.setIfInBounds_toArray, List.set_cons_zero, List.set_cons_succ]
    first
      | (refine wpE_nope (i := 32) rfl (by kernel_rfl) (by kernel_rfl) (by kernel_rfl) (fun _ _ _ _ h => h) (by rfl) ?_; simp only [Act.put, List.setIfInBounds_toArray, List.set_cons_zero, List.set_cons_succ])
      | (refine wpE_yes (i := 32) rfl (by kernel_rfl) (by kernel_rfl) (by kernel_rfl) (fun _ _ _ _ h => h) (by rfl) ?_; apply Exists.intro; refine ⟨fun w' hw' => ?_, ?_⟩; (· (have hcw := (bcell hw').1; have hfw := (bcell hw').2.1; go_simp; (try simp (disch := omega) only [IntWalk.i64_quo, IntWalk.i64_in, IntWalk.rem_in]); exact calm_value)); simp only [Act.put, List.setIfInBounds_toArray, List.set_cons_zero, List.set_cons_succ])
    first
      | (refine wpE_nope (i := 33) rfl (by kernel_rfl) (by kernel_rfl) (by kernel_rfl) (fun _ _ _ _ h => h) (by rfl) ?_; simp only [Act.put, List.setIfInBounds_toArray, List.set_cons_zero, List.set_cons_succ])
      | (refine wpE_yes (i := 33) rfl (by kernel_rfl) (by kernel_rfl) (by kernel_rfl) (fun _ _ _ _ h => h) (by rfl) ?_; apply Exists.intro; refine ⟨fun w' hw' => ?_, ?_⟩; (· (have hcw := (bcell hw').1; have hfw := (bcell hw').2.1; go_simp; (try simp (disch := omega) only [IntWalk.i64_quo, IntWalk.i64_in, IntWalk.rem_in]); exact calm_value)); simp only [Act.put, List.setIfInBounds_toArray, List.set_cons_zero, List.set_cons_succ])
    first
      | (refine wpE_nope (i := 34) rfl (by kernel_rfl) (by kernel_rfl) (by kernel_rfl) (fun _ _ _ _ h => h) (by rfl) ?_; simp only [Act.put, List.setIfInBounds_toArray, List.set_cons_zero, List.set_cons_succ])
      | (refine wpE_yes (i := 34) rfl (by kernel_rfl) (by kernel_rfl) (by kernel_rfl) (fun _ _ _ _ h => h) (by rfl) ?_; apply Exists.intro; refine ⟨fun w' hw' => ?_, ?_⟩; (· (have hcw := (bcell hw').1; have hfw := (bcell hw').2.1; go_simp; (try simp (disch := omega) only [IntWalk.i64_quo, IntWalk.i64_in, IntWalk.rem_in]); exact calm_value)); simp only [Act.put, List.setIfInBounds_toArray, List.set_cons_zero, List.set_cons_succ])
    first
      | (refine wpE_nope (i := 35) rfl (by kernel_rfl) (by kernel_rfl) (by kernel_rfl) (fun _ _ _ _ h => h) (by rfl) ?_; simp only [Act.put, List.setIfInBounds_toArray, List.set_cons_zero, List.set_cons_succ])
      | (refine wpE_yes (i := 35) rfl (by kernel_rfl) (by kernel_rfl) (by kernel_rfl) (fun _ _ _ _ h => h) (by rfl) ?_; apply Exists.intro; refine ⟨fun w' hw' => ?_, ?_⟩; (· (have hcw := (bcell hw').1; have hfw := (bcell hw').2.1; go_simp; (try simp (disch := omega) only [IntWalk.i64_quo, IntWalk.i64_in, IntWalk.rem_in]); exact calm_value)); simp only [Act.put, List.setIfInBounds_toArray, List.set_cons_zero, List.set_cons_succ])
    first
      | (refine wpE_nope (i := 36) rfl (by kernel_rfl) (by kernel_rfl) (by kernel_rfl) (fun _ _ _ _ h => h) (by rfl) ?_; simp only [Act.put, List.setIfInBounds_toArray, List.set_cons_zero, List.set_cons_succ])
      | (refine wpE_yes (i := 36) rfl (by kernel_rfl) (by kernel_rfl) (by kernel_rfl) (fun _ _ _ _ h => h) (by rfl) ?_; apply Exists.intro; refine ⟨fun w' hw' => ?_, ?_⟩; (· (have hcw := (bcell hw').1; have hfw := (bcell hw').2.1; go_simp; (try simp (disch := omega) only [IntWalk.i64_quo, IntWalk.i64_in, IntWalk.rem_in]); exact calm_value)); simp only [Act.put, List.setIfInBounds_toArray, List.set_cons_zero, List.set_cons_succ])
    first
      | (refine wpE_nope (i := 37) rfl (by kernel_rfl) (by kernel_rfl) (by kernel_rfl) (fun _ _ _ _ h => h) (by rfl) ?_; simp only [Act.put, List.setIfInBounds_toArray, List.set_cons_zero, List.set_cons_succ])
      | (refine wpE_yes (i := 37) rfl (by kernel_rfl) (by kernel_rfl) (by kernel_rfl) (fun _ _ _ _ h => h) (by rfl) ?_; apply Exists.intro; refine ⟨fun w' hw' => ?_, ?_⟩; (· (have hcw := (bcell hw').1; have hfw := (bcell hw').2.1; go_simp; (try simp (disch := omega) only [IntWalk.i64_quo, IntWalk.i64_in, IntWalk.rem_in]); exact calm_value)); simp only [Act.put, List.setIfInBounds_toArray, List.set_cons_zero, List.set_cons_succ])
    refine wpE_yes (i := 38) rfl (by kernel_rfl) (by kernel_rfl) (by kernel_rfl) (fun _ _ _ _ h => h) (by rfl) ?_; apply Exists.intro; refine ⟨fun w' hw' => ?_, ?_⟩
    · (have hcw := (bcell hw').1; have hfw := (bcell hw').2.1; go_simp; (try simp (disch := omega) only [IntWalk.i64_quo, IntWalk.i64_in, IntWalk.rem_in]); exact calm_value)
    simp only [Act.put, List.setIfInBounds_toArray, List.set_cons_zero, List.set_cons_succ]
    refine wpE_yes (i := 39) rfl (by kernel_rfl) (by kernel_rfl) (by kernel_rfl) (fun _ _ _ _ h => h) (by rfl) ?_; apply Exists.intro; refine ⟨fun w' hw' => ?_, ?_⟩
    · (have hcw := (bcell hw').1; have hfw := (bcell hw').2.1; go_simp; (try simp (disch := omega) only [IntWalk.i64_quo, IntWalk.i64_in, IntWalk.rem_in]); exact calm_value)
    simp only [Act.put, List.setIfInBounds_toArray, List.set_cons_zero, List.set_cons_succ]
    first
      | (refine wpE_nope (i := 40) rfl (by kernel_rfl) (by kernel_rfl) (by kernel_rfl) (fun _ _ _ _ h => h) (by rfl) ?_; simp only [Act.put, List.setIfInBounds_toArray, List.set_cons_zero, List.set_cons_succ])
      | (refine wpE_yes (i := 40) rfl (by kernel_rfl) (by kernel_rfl) (by kernel_rfl) (fun _ _ _ _ h => h) (by rfl) ?_; apply Exists.intro; refine ⟨fun w' hw' => ?_, ?_⟩; (· (have hcw := (bcell hw').1; have hfw := (bcell hw').2.1; go_simp; (try simp (disch := omega) only [IntWalk.i64_quo, IntWalk.i64_in, IntWalk.rem_in]); exact calm_value)); simp only [Act.put, List.setIfInBounds_toArray, List.set_cons_zero, List.set_cons_succ])
    first
      | (refine wpE_nope (i := 41) rfl (by kernel_rfl) (by kernel_rfl) (by kernel_rfl) (fun _ _ _ _ h => h) (by rfl) ?_; simp only [Act.put, List.setIfInBounds_toArray, List.set_cons_zero, List.set_cons_succ])
      | (refine wpE_yes (i := 41) rfl (by kernel_rfl) (by kernel_rfl) (by kernel_rfl) (fun _ _ _ _ h => h) (by rfl) ?_; apply Exists.intro; refine ⟨fun w' hw' => ?_, ?_⟩; (· (have hcw := (bcell hw').1; have hfw := (bcell hw').2.1; go_simp; (try simp (disch := omega) only [IntWalk.i64_quo, IntWalk.i64_in, IntWalk.rem_in]); exact calm_value)); simp only [Act.put, List.setIfInBounds_toArray, List.set_cons_zero, List.set_cons_succ])
    refine wpE_yes (i := 42) rfl (by kernel_rfl) (by kernel_rfl) (by kernel_rfl) (fun _ _ _ _ h => h) (by rfl) ?_; apply Exists.intro; refine ⟨fun w' hw' => ?_, ?_⟩
    · (have hcw := (bcell hw').1; have hfw := (bcell hw').2.1; go_simp; exact calm_call (age_any _ _ _ _ _ HAB.out HCD.out) (fun _ hb => Grew.trans hw' hb))
    simp only [Act.put, List.setIfInBounds_toArray, List.set_cons_zero, List.set_cons_succ]
    first
      | (refine wpE_nope (i := 43) rfl (by kernel_rfl) (by kernel_rfl) (by kernel_rfl) (fun _ _ _ _ h => h) (by rfl) ?_; simp only [Act.put, List.setIfInBounds_toArray, List.set_cons_zero, List.set_cons_succ])
      | (refine wpE_yes (i := 43) rfl (by kernel_rfl) (by kernel_rfl) (by kernel_rfl) (fun _ _ _ _ h => h) (by rfl) ?_; apply Exists.intro; refine ⟨fun w' hw' => ?_, ?_⟩; (· (have hcw := (bcell hw').1; have hfw := (bcell hw').2.1; go_simp; (try simp (disch := omega) only [IntWalk.i64_quo, IntWalk.i64_in, IntWalk.rem_in]); exact calm_value)); simp only [Act.put, List.setIfInBounds_toArray, List.set_cons_zero, List.set_cons_succ])
    first
      | (refine wpE_nope (i := 44) rfl (by kernel_rfl) (by kernel_rfl) (by kernel_rfl) (fun _ _ _ _ h => h) (by rfl) ?_; simp only [Act.put, List.setIfInBounds_toArray, List.set_cons_zero, List.set_cons_succ])
      | (refine wpE_yes (i := 44) rfl (by kernel_rfl) (by kernel_rfl) (by kernel_rfl) (fun _ _ _ _ h => h) (by rfl) ?_; apply Exists.intro; refine ⟨fun w' hw' => ?_, ?_⟩; (· (have hcw := (bcell hw').1; have hfw := (bcell hw').2.1; go_simp; (try simp (disch := omega) only [IntWalk.i64_quo, IntWalk.i64_in, IntWalk.rem_in]); exact calm_value)); simp only [Act.put, List.setIfInBounds_toArray, List.set_cons_zero, List.set_cons_succ])
    refine wpE_yes (i := 45) rfl (by kernel_rfl) (by kernel_rfl) (by kernel_rfl) (fun _ _ _ _ h => h) (by rfl) ?_; apply Exists.intro; refine ⟨fun w' hw' => ?_, ?_⟩
    · (have hcw := (bcell hw').1; have hfw := (bcell hw').2.1; go_simp; exact calm_call (rage_any _ _ _ _ _ HAB.out HCD.out) (fun _ hb => Grew.trans hw' hb))
    simp only [Act.put, List.setIfInBounds_toArray, List.set_cons_zero, List.set_cons_succ]
    first
      | (refine wpE_nope (i := 46) rfl (by kernel_rfl) (by kernel_rfl) (by kernel_rfl) (fun _ _ _ _ h => h) (by rfl) ?_; simp only [Act.put, List.setIfInBounds_toArray, List.set_cons_zero, List.set_cons_succ])
      | (refine wpE_yes (i := 46) rfl (by kernel_rfl) (by kernel_rfl) (by kernel_rfl) (fun _ _ _ _ h => h) (by rfl) ?_; apply Exists.intro; refine ⟨fun w' hw' => ?_, ?_⟩; (· (have hcw := (bcell hw').1; have hfw := (bcell hw').2.1; go_simp; (try simp (disch := omega) only [IntWalk.i64_quo, IntWalk.i64_in, IntWalk.rem_in]); exact calm_value)); simp only [Act.put, List.setIfInBounds_toArray, List.set_cons_zero, List.set_cons_succ])
    refine wpE_yes (i := 47) rfl (by kernel_rfl) (by kernel_rfl) (by kernel_rfl) (fun _ _ _ _ h => h) (by rfl) ?_; apply Exists.intro; refine ⟨fun w' hw' => ?_, ?_⟩
    · (have hcw := (bcell hw').1; have hfw := (bcell hw').2.1; go_simp; (try simp (disch := omega) only [IntWalk.i64_quo, IntWalk.i64_in, IntWalk.rem_in]); exact calm_value)
    simp only [Act.put, List.setIfInBounds_toArray, List.set_cons_zero, List.set_cons_succ]
    refine wpE_yes (i := 48) rfl (by kernel_rfl) (by kernel_rfl) (by kernel_rfl) (fun _ _ _ _ h => h) (by rfl) ?_; apply Exists.intro; refine ⟨fun w' hw' => ?_, ?_⟩
    · (have hcw := (bcell hw').1; have hfw := (bcell hw').2.1; go_simp; (try simp (disch := omega) only [IntWalk.i64_quo, IntWalk.i64_in, IntWalk.rem_in]); exact calm_value)
    simp only [Act.put, List.setIfInBounds_toArray, List.set_cons_zero, List.set_cons_succ]
    first
      | (refine wpE_nope (i := 49) rfl (by kernel_rfl) (by kernel_rfl) (by kernel_rfl) (fun _ _ _ _ h => h) (by rfl) ?_; simp only [Act.put, List.setIfInBounds_toArray, List.set_cons_zero, List.set_cons_succ])
      | (refine wpE_yes (i := 49) rfl (by kernel_rfl) (by kernel_rfl) (by kernel_rfl) (fun _ _ _ _ h => h) (by rfl) ?_; apply Exists.intro; refine ⟨fun w' hw' => ?_, ?_⟩; (· (have hcw := (bcell hw').1; have hfw := (bcell hw').2.1; go_simp; (try simp (disch := omega) only [IntWalk.i64_quo, IntWalk.i64_in, IntWalk.rem_in]); exact calm_value)); simp only [Act.put, List.setIfInBounds_toArray, List.set_cons_zero, List.set_cons_succ])
    first
      | (refine wpE_nope (i := 51) rfl (by kernel_rfl) (by kernel_rfl) (by kernel_rfl) (fun _ _ _ _ h => h) (by rfl) ?_; simp only [Act.put, List.setIfInBounds_toArray, List.set_cons_zero, List.set_cons_succ])
      | (refine wpE_yes (i := 51) rfl (by kernel_rfl) (by kernel_rfl) (by kernel_rfl) (fun _ _ _ _ h => h) (by rfl) ?_; apply Exists.intro; refine ⟨fun w' hw' => ?_, ?_⟩; (· (have hcw := (bcell hw').1; have hfw := (bcell hw').2.1; go_simp; (try simp (disch := omega) only [IntWalk.i64_quo, IntWalk.i64_in, IntWalk.rem_in]); exact calm_value)); simp only [Act.put, List.setIfInBounds_toArray, List.set_cons_zero, List.set_cons_succ])
    refine wpE_one (i := 50) (by kernel_rfl) rfl (by rfl) (fun w4 hb4 hC4 K hK => ?_)
    (have hc4 := (bcell hb4).1; have hf4 := (bcell hb4).2.1; have hs4 := (bcell hb4).2.2; (try simp [go_sem] at hs4); clear hc4 hf4; (try clear y3_0 c3_0_0 c3_0_1 y3_1 c3_1_0 c3_1_1 y3_2 f3_2 c3_2_0 c3_2_1))
    go_simp
    have HS4 := Lib.hid (HS.out.grow (show Grew wc w4 by (repeat (first | exact Below.refl _ _ | refine Below.setCell ?_ (by first | omega | (simp; done) | (simp; omega)) _ | refine Below.alloc ?_ (by first | omega | (simp; done) | (simp; omega)) _ | refine below_drewN ?_ _ | refine Below.drew ?_ | refine Below.trans ?_ (Below.mono (by assumption) (by first | omega | (simp; done) | (simp; omega)))))))
    have hlen : ((a, b) :: (c, d) :: l).length ≤ 1000 := by simp; omega
    have hl2 := Lib.hid (show (ordF ((a, b) :: (c, d) :: l)).length ≤ 9223372036854775807 from by
      have h1 := ordP_len ((a, b) :: (c, d) :: l) ((a, b) :: (c, d) :: l).length
      have h2 : ((a, b) :: (c, d) :: l).length * ((a, b) :: (c, d) :: l).length ≤ 12 * 12 := Nat.mul_le_mul (by simp; omega) (by simp; omega)
      unfold ordF; omega)
    refine (order_any _ _ w4 HS4.out hlen).mono ?_
    rintro e w5 ⟨u, rfl, hu, hb5⟩
    have HU := Lib.hid (Pairs.read hu); clear hu
    have hs5 := hb5.size
    refine hK _ _ ?_ ?_
    · exact Grew.trans hC4 hb5
    clear hK K
    refine wpE_one (i := 52) (by kernel_rfl) rfl (by rfl) (fun w6 hb6 hC6 K hK => ?_)
    (have hc6 := (bcell hb6).1; have hf6 := (bcell hb6).2.1; have hs6 := (bcell hb6).2.2; (try simp [go_sem] at hs6); clear hc6 hf6)
    go_simp
    have HS6 := Lib.hid (HS4.out.grow (Grew.trans hb5 hb6))
    refine (rorder_any _ _ w6 HS6.out hlen).mono ?_
    rintro e w7 ⟨v, rfl, hv, hb7⟩
    have HV := Lib.hid (Pairs.read hv); clear hv
    have hs7 := hb7.size
    refine hK _ _ ?_ ?_
    · exact Grew.trans hC6 hb7
    clear hK K
    refine wpE_one (i := 53) (by kernel_rfl) rfl (by rfl) (fun w8 hb8 hC8 K hK => ?_)
    (have hc8 := (bcell hb8).1; have hf8 := (bcell hb8).2.1; have hs8 := (bcell hb8).2.2; (try simp [go_sem] at hs8); clear hc8 hf8)
    go_simp
    have HU8 := Lib.hid (HU.out.grow (Grew.trans hb6 (Grew.trans hb7 hb8)))
    have HV8 := Lib.hid (HV.out.grow hb8)
    refine (same_true u v _ w8 HU8.out HV8.out hl2.out).mono ?_
    rintro e w9 ⟨rfl, hb9⟩
    have hs9 := hb9.size
    refine hK _ _ ?_ ?_
    · exact Grew.trans hC8 hb9
    clear hK K hC4 hC6 hC8
    refine wpE_yes (i := 54) rfl (by kernel_rfl) (by kernel_rfl) (by kernel_rfl) (fun _ _ _ _ h => h) (by rfl) ?_; apply Exists.intro; refine ⟨fun w' hw' => ?_, ?_⟩
    · (have hcw := (bcell hw').1; have hfw := (bcell hw').2.1; go_simp; (try simp (disch := omega) only [IntWalk.i64_quo, IntWalk.i64_in, IntWalk.rem_in]); exact calm_value)
    simp only [Act.put, List.setIfInBounds_toArray, List.set_cons_zero, List.set_cons_succ]
    refine wpE_yes (i := 55) rfl (by kernel_rfl) (by kernel_rfl) (by kernel_rfl) (fun _ _ _ _ h => h) (by rfl) ?_; apply Exists.intro; refine ⟨fun w' hw' => ?_, ?_⟩
    · (have hcw := (bcell hw').1; have hfw := (bcell hw').2.1; go_simp; (try simp (disch := omega) only [IntWalk.i64_quo, IntWalk.i64_in, IntWalk.rem_in]); exact calm_value)
    simp only [Act.put, List.setIfInBounds_toArray, List.set_cons_zero, List.set_cons_succ]
    refine wpE_done (by kernel_rfl) (fun w10 hb10 hC10 => ?_) _
    (have hc10 := (bcell hb10).1; have hf10 := (bcell hb10).2.1; have hs10 := (bcell hb10).2.2; (try simp [go_sem] at hs10); clear hc10 hf10)
    clear hC10
    go_wp2_with fail
    go_ret
    refine ⟨rfl, ?_⟩
    (repeat (first | exact Below.refl _ _ | refine Below.setCell ?_ (by first | omega | (simp; done) | (simp; omega)) _ | refine Below.alloc ?_ (by first | omega | (simp; done) | (simp; omega)) _ | refine below_drewN ?_ _ | refine Below.drew ?_ | refine Below.trans ?_ (Below.mono (by assumption) (by first | omega | (simp; done) | (simp; omega)))))
theorem spans_walk (v : Value) (l : List (Int × Int)) (w : World) (hS : Spans w v l) (hm : l.length ≤ 9223372036854775807) :
    Calls Try.prog 4 #[v] w fun e w' => e = .returned (.bool true) ∧ Below w.heap.size w w' := by
  have hS0 := hS
  obtain ⟨a, cap, rfl, hs⟩ := hS
  by_cases h : l.length < 2 ∨ 2 ≤ l.length ∧ 12 < l.length ∨ 2 ≤ l.length ∧ l.length ≤ 12 ∧ (l.all fun x => vld x.1 x.2) = false
  · exact spans_no a cap l w hS0 hm h
  · simp only [not_or, not_and, Nat.not_lt, Bool.not_eq_false] at h
    obtain ⟨h1, h2, h3⟩ := h
    have h2 := h2 h1
    have h3 := h3 h1 h2
    rcases hs with rfl | ⟨b0, off, rfl, hs⟩
    · simp at h1
    · match l, h1, h2, h3, hs with
      | (a', b') :: (c', d') :: l, h1, h2, h3, hs => exact spans_yes b0 off cap a' b' c' d' l w hs (by simpa using h2) h3
theorem spans_lifted (os : Os) (started : os.Started) (H : Type) (enc : TypeId × Value → H) :
    ReturnsInHanded {} Try.checked os 4 .any (Rows.clockSpansMatchSpecSpec.pre6 enc Try.prog Try.f4 Rows.clockSpansMatchSpecRow.domain false) (Rows.clockSpansMatchSpecSpec.post enc Try.prog Try.f4 false true false false) := by
  refine returnsInHanded_of_change (C := Try.checked) Try.own started (by kernel_rfl) Try.func4
    (ChangeSpec.witness6 (enc := enc) (C := Try.checked) false ⟨#[], #[.slice none 0 0], []⟩ 8 (by kernel_rfl) (by kernel_rfl) (by kernel_rfl) (by kernel_rfl)) ?_
  intro W base args ds gs before hval0 hW hcnd _
  have hval : ∀ (j : Nat) t v, Try.f4.params[j]? = some t → args[j]? = some v → Value.okWide Try.prog W .any base t v := hval0
  have hW' := hW
  obtain ⟨p, q, hA0, hV, rfl, hfz, hnd⟩ := hW
  have hA : DataW.TrodAll enc Try.prog W 0 (fun _ => true) true Try.f4.params.toList args.toList ds p := hA0
  rw [Try.params4] at hA hval
  have hAk := hA
  obtain ⟨v0, vs0, d0, ds0, p0, q0, hargs, rfl, rfl, h0, r0⟩ := trodAll_cons hA
  obtain ⟨rfl, rfl, rfl⟩ := trodAll_nil r0
  obtain rfl : args = #[v0] := by cases args; simp_all
  obtain ⟨rfl, rfl⟩ := trodVars_none hV
  obtain ⟨l, hS, hm⟩ := open_spans (hval 0 36 v0 rfl rfl) h0
  clear hA0 hval0
  simp only [List.append_nil] at hW'
  refine (spans_walk v0 l W hS hm).mono fun e W' ⟨he, hb⟩ => ?_
  subst he
  refine ⟨_, rfl, _, _, _, [], _, [], hW', trodAll_mk1 (shut_bool Try.underlying4 _), trodAll_stays ?_ hAk hb ?_, rfl, hb.frame _, fun h => by cases h⟩
  · intro t ht
    have ht' : t = 36 := by simpa using ht
    rcases ht' with rfl
    · exact ⟨by kernel_rfl, of_decide_eq_true (by kernel_rfl)⟩
  · intro x hx; exact hW'.lt x (by simpa using hx)

/-- the statement -/
theorem spans_holds : Rows.ClockSpansMatchSpecSaid :=
  OpenClaim.holds_of_wide 4 Try.f4 rfl rfl rfl rfl rfl rfl rfl ⟨rfl, rfl, rfl, rfl, rfl⟩ rfl rfl rfl rfl rfl (by kernel_rfl) Try.func4 (by kernel_rfl)
    (of_decide_eq_true (by kernel_rfl)) (by unfold Func.isWrapper; first | (rw [if_pos (by decide +kernel)]; kernel_rfl) | (rw [if_neg (by decide +kernel)]; exact ⟨rfl, rfl⟩))
    (fun os started H enc _ => spans_lifted os started H enc)
end Go.Proofs.Ythebnpophckgcaa
