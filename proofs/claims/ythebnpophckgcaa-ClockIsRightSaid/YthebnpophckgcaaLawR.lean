/-
  ClockIsRight holds for every input, without a condition: for every rate, reading and time, and every list of steps, the law returns true and its arguments read afterwards as before.
-/
import Derived.Test.YthebnpophckgcaaWl
import Derived.Test.YthebnpophckgcaaWm
import Derived.Test.YthebnpophckgcaaPd
import Derived.Test.YthebnpophckgcaaWs
namespace Go.Proofs.Ythebnpophckgcaa
open Go.ChangeShapes Go.WideShapes Go.ChangeAt Go.RowKit
set_option linter.unusedSimpArgs false
set_option linter.unusedVariables false
set_option maxHeartbeats 4000000
set_option maxRecDepth 100000
section
variable {P : Program} {Q : Exit → Act → World → Prop}
/-- A region that draws its order and turns a block of its own function's: the class keeps the blocks below that one. -/
theorem wp_region_low {N : Nat} {id : Nat} {a : Act} {w : World} {l : List Oper} (hN : N ≤ w.heap.size) (hm : P.follows .mixedOrders = true)
    (h : wpE P .any l.toArray Q (fun w' => Below N w w') l.length (Array.replicate l.length false) a w) : (Code.region id l.toArray true).wp P Q a w := by
  have hg : Grew w { w with drawn := w.drawn + 1 } := ⟨rfl, rfl, rfl, Nat.le_refl _, fun _ _ => rfl⟩
  refine wp_region_any hm (wpAny_of_wpE _ _ _ _ (hg.mono hN) ?_)
  have := wpE_grow hg h
  simpa using this
end
theorem bcellN {N : Nat} {W w1 : World} (hb : Below N W w1) : (∀ b o, b < N → w1.cell? ⟨b, o, none⟩ = W.cell? ⟨b, o, none⟩) ∧ (∀ b o, b < N → w1.frozen? ⟨b, o, none⟩ = W.frozen? ⟨b, o, none⟩) ∧ W.heap.size ≤ w1.heap.size :=
  ⟨fun b o h => hb.cell (p := ⟨b, o, none⟩) h, fun b o h => hb.frozen (p := ⟨b, o, none⟩) h, hb.size⟩
theorem right_many (a : Option Addr) (cap n : Nat) (r l t e f : Int) (w : World) (hn : 12 < n) (hr : 0 ≤ r ∧ r ≤ 4294967295) (hl : 0 ≤ l ∧ l ≤ 4294967295) (ht : 0 ≤ t ∧ t ≤ 4294967295) (he : 0 ≤ e ∧ e ≤ 65535) (hf : 0 ≤ f ∧ f ≤ 65535) :
    Calls Try.prog 7 #[.int .u32 r, .int .u32 l, .int .u32 t, .int .u16 e, .int .u16 f, .slice a n cap] w fun e w' => e = .returned (.bool true) ∧ Below w.heap.size w w' := by
  obtain ⟨r1, r2⟩ := hr
  obtain ⟨l1, l2⟩ := hl
  obtain ⟨t1, t2⟩ := ht
  obtain ⟨e1, e2⟩ := he
  obtain ⟨f1, f2⟩ := hf
  go_enter Try.func7, Try.ntmps7
  go_wp2_with fail
  (go_at_call 38; refine (around_any _ _ _ _ (by omega) (by omega) e1 e2 f1 f2).mono ?_; rintro e w1 ⟨rfl, hb1⟩; have hc1 := (bcell hb1).1; have hf1 := (bcell hb1).2.1; have hs1 := (bcell hb1).2.2; (try simp [go_sem] at hs1); clear hc1 hf1)
  go_wp2_with fail
  (go_at_call 12; refine (sanity_any _).mono ?_; rintro e w2 ⟨rfl, hb2⟩; have hc2 := (bcell hb2).1; have hf2 := (bcell hb2).2.1; have hs2 := (bcell hb2).2.2; (try simp [go_sem] at hs2); clear hc2 hf2)
  go_wp2_with fail
  go_ret
  refine ⟨rfl, ?_⟩
  (repeat (first | exact Below.refl _ _ | refine Below.setCell ?_ (by first | omega | (simp; done) | (simp; omega)) _ | refine Below.alloc ?_ (by first | omega | (simp; done) | (simp; omega)) _ | refine below_drewN ?_ _ | refine Below.drew ?_ | refine Below.trans ?_ (Below.mono (by assumption) (by first | omega | (simp; done) | (simp; omega)))))
theorem right_few (v : Value) (xs : List Stp) (r l t e f : Int) (w : World) (hS : Steps w v xs) (hn : xs.length ≤ 12) (hr : 0 ≤ r ∧ r ≤ 4294967295) (hl : 0 ≤ l ∧ l ≤ 4294967295) (ht : 0 ≤ t ∧ t ≤ 4294967295) (he : 0 ≤ e ∧ e ≤ 65535) (hf : 0 ≤ f ∧ f ≤ 65535) :
    Calls Try.prog 7 #[.int .u32 r, .int .u32 l, .int .u32 t, .int .u16 e, .int .u16 f, v] w fun e w' => e = .returned (.bool true) ∧ Below w.heap.size w w' := by
  obtain ⟨a, cap, rfl, hS⟩ := hS
  obtain ⟨r1, r2⟩ := hr
  obtain ⟨l1, l2⟩ := hl
  obtain ⟨t1, t2⟩ := ht
  obtain ⟨e1, e2⟩ := he
  obtain ⟨f1, f2⟩ := hf
  obtain ⟨rr, hrr⟩ : ∃ x, r % 100001 = x := ⟨_, rfl⟩
  obtain ⟨now0, hnow0⟩ : ∃ x, t % 1048576 = x := ⟨_, rfl⟩
  obtain ⟨rd0, hrd0⟩ : ∃ x, l % 1048576 = x := ⟨_, rfl⟩
  have rr1 : 0 ≤ rr ∧ rr ≤ 100000 := by omega
  have now1 : 0 ≤ now0 ∧ now0 ≤ 1048575 := by omega
  have rd1 : 0 ≤ rd0 ∧ rd0 ≤ 1048575 := by omega
  obtain ⟨a0, ha0⟩ : ∃ x, max 0 (now0 - e % 1000) = x := ⟨_, rfl⟩
  obtain ⟨b0, hb0⟩ : ∃ x, now0 + f % 1000 = x := ⟨_, rfl⟩
  have hR0 : Right rr now0 rd0 rd0 a0 b0 := ⟨rr1, ⟨rd1.1, by omega, now1.1⟩, ⟨by omega, by omega⟩, now0, by omega, by omega, by omega, by simp, by simp⟩
  have HR0 := Lib.hid hR0
  have A0 := fun w => around_any now0 e f w (by omega) (by omega) e1 e2 f1 f2
  rw [ha0, hb0] at A0
  have HS0 := Lib.hid hS
  clear hR0 ha0 hb0 hS
  go_enter Try.func7, Try.ntmps7
  go_wp2_with fail
  (go_at_call 38; refine (A0 _).mono ?_; rintro e w1 ⟨rfl, hb1⟩; have hc1 := (bcell hb1).1; have hf1 := (bcell hb1).2.1; have hs1 := (bcell hb1).2.2; (try simp [go_sem] at hs1); clear hc1 hf1)
  go_wp2_with fail
  clear hrr hnow0 hrd0
  go_loopw [14, 15, 50] (fun nw rd i wr => ∃ (k : Nat) (now reading l a b : Int), k ≤ xs.length ∧ i = .int .i64 k ∧ nw = .int .i64 now ∧ rd = .int .i64 reading ∧ Right rr now reading l a b ∧ now ≤ 1048576 + k * 1073741824 ∧ reading ≤ 1048576 + k * 2147483648 ∧ Below w1.heap.size w1 wr ∧ w1.heap.size < wr.heap.size ∧ wr.cell? ⟨w1.heap.size, 0, none⟩ = some (.int .i64 rr) ∧ wr.cell? ⟨w1.heap.size, 1, none⟩ = some (.int .i64 l) ∧ wr.cell? ⟨w1.heap.size, 2, none⟩ = some (.int .i64 a) ∧ wr.cell? ⟨w1.heap.size, 3, none⟩ = some (.int .i64 b) ∧ ∀ i, wr.frozen? ⟨w1.heap.size, i, none⟩ = false) (fun _ _ i _ => xs.length - (intOf i).toNat)
  case atStart => exact ⟨0, now0, rd0, rd0, a0, b0, Nat.zero_le _, rfl, rfl, rfl, HR0.out, by omega, by omega, bl1 _ _, by simp, by simp [go_sem], by simp [go_sem], by simp [go_sem], by simp [go_sem], by simp [go_sem]⟩
  case round =>
    obtain ⟨k, now, reading, l, a, b, hk, rfl, rfl, rfl, hR, hnw, hrd, hg, hz, d0, d1, d2, d3, hfz⟩ := hrel
    by_cases hlt : k < xs.length
    · rcases HS0.out with h0 | ⟨bb, off, rfl, hS⟩
      · rw [h0] at hlt; simp at hlt
      have hS2 := hS.grow (Grew.trans hb1 hg)
      have hbb := hS2.1
      obtain ⟨⟨kind, passes, speed, earlier, later, whn⟩, hx⟩ : ∃ s, xs.getD k default = s := ⟨_, rfl⟩
      have hc := hS2.2 k hlt
      rw [hx] at hc
      have q0 : wr.cell? ⟨bb, off + k * 6, none⟩ = some (.int .i64 kind) := hc.1.1
      have q1 : wr.cell? ⟨bb, off + k * 6 + 1, none⟩ = some (.int .u32 passes) := hc.1.2.1
      have q2 : wr.cell? ⟨bb, off + k * 6 + 2, none⟩ = some (.int .u8 speed) := hc.1.2.2.1
      have q3 : wr.cell? ⟨bb, off + k * 6 + 3, none⟩ = some (.int .u16 earlier) := hc.1.2.2.2.1
      have q4 : wr.cell? ⟨bb, off + k * 6 + 4, none⟩ = some (.int .u16 later) := hc.1.2.2.2.2.1
      have q5 : wr.cell? ⟨bb, off + k * 6 + 5, none⟩ = some (.int .u16 whn) := hc.1.2.2.2.2.2
      obtain ⟨⟨o1, o2⟩, ⟨o3, o4⟩, ⟨o5, o6⟩, ⟨o7, o8⟩, o9, o10⟩ : (0 ≤ passes ∧ passes ≤ 4294967295) ∧ (0 ≤ speed ∧ speed ≤ 255) ∧ (0 ≤ earlier ∧ earlier ≤ 65535) ∧ (0 ≤ later ∧ later ≤ 65535) ∧ (0 ≤ whn ∧ whn ≤ 65535) := hc.2
      clear hx hc hS2 hS
      obtain ⟨d, hd⟩ : ∃ x, passes % 1073741824 = x := ⟨_, rfl⟩
      have g1 : 0 ≤ d := by omega
      have g2 : d < 1073741824 := by omega
      obtain ⟨T1, T2, T3, T4, T5, T6, T7, ⟨P1, P2⟩, ⟨P3, P4⟩, P5, P6⟩ := tick_bd rr1.1 rr1.2 g1 g2 o3 o4
      obtain ⟨x1, hx1⟩ : ∃ x, leastS rr d = x := ⟨_, rfl⟩
      obtain ⟨x2, hx2⟩ : ∃ x, mostS rr d = x := ⟨_, rfl⟩
      obtain ⟨x3, hx3⟩ : ∃ x, (x2 - x1) * speed / 255 = x := ⟨_, rfl⟩
      have hx4 : tickS rr d speed = x1 + x3 := by unfold tickS; rw [hx1, hx2, hx3]
      have hlong := long_step rr1.1 rr1.2 g1 g2 o3 o4
      rw [hx4] at T1 T2 T6 T7 hlong
      rw [hx1] at T3 T4 T6
      rw [hx2] at T4 T5 T7
      rw [hx1, hx2] at P5 P6
      have hy1 : (d * (1000000 - rr) + 999999) / 1000000 = x1 := hx1
      have hy2 : d * (1000000 + rr) / 1000000 = x2 := hx2
      clear hx1 hx2 hx4
      have R1 := hR.step g1 (by omega) T1 T2
      obtain ⟨u1, u2, hat, hu1, hu2, hu3, hu4⟩ := R1.at (by omega) (by omega)
      have A1 := at_eq hat
      have hl0 := hR.2.1.1
      have hl1 := hR.2.1.2.1
      have hl2 := hR.2.1.2.2
      have hz1 := hR.2.2.1.2
      have r1' := rr1.1
      have r2' := rr1.2
      have HR1 := Lib.hid R1
      have Hg := Lib.hid hg
      have HT := Lib.hid (And.intro T1 T2)
      clear hat R1 hR HS0 HR0 A0 hg T1 T2 now1 rd1 rr1
      by_cases hk1 : kind = 1
      · obtain ⟨p, q, hsy, R2⟩ := HR1.out.sync (c := max 0 (now + d - earlier % 1000)) (d := now + d + later % 1000) (by omega) (by omega) (by omega) (by omega)
        obtain ⟨v1, v2, hat2, hv1, hv2, hv3, hv4⟩ := R2.at (by omega) (by omega)
        have B1 := fun w => around_any (now + d) earlier later w (by omega) (by omega) o5 o6 o7 o8
        have A2 := sync_eq hsy
        have A3 := at_eq hat2
        have HR2 := Lib.hid R2
        clear hsy hat2 R2 hlong
        subst hk1
        go_wp2_with fail
        (go_at_call 14; refine (A1 _).mono ?_; rintro e w2 ⟨rfl, hb2⟩; have hc2 := (bcell hb2).1; have hf2 := (bcell hb2).2.1; have hs2 := (bcell hb2).2.2; (try simp [go_sem] at hs2); have z2_0 : w1.heap.size < w2.heap.size := (by omega); have y2_0 : (w1.heap.size = w2.heap.size) = False := eq_false (by omega); have c2_0_0 := hc2 (w1.heap.size) 0 (by first | omega | (simp; done) | (simp; omega)); have c2_0_1 := hc2 (w1.heap.size) 1 (by first | omega | (simp; done) | (simp; omega)); have c2_0_2 := hc2 (w1.heap.size) 2 (by first | omega | (simp; done) | (simp; omega)); have c2_0_3 := hc2 (w1.heap.size) 3 (by first | omega | (simp; done) | (simp; omega)); have f2_0 : ∀ i, w2.frozen? ⟨w1.heap.size, i, none⟩ = false := fun i => (hf2 (w1.heap.size) i (by first | omega | (simp; done) | (simp; omega))).trans (by simp [go_sem, *]); have z2_1 : wr.heap.size < w2.heap.size := (by omega); have y2_1 : (wr.heap.size = w2.heap.size) = False := eq_false (by omega); have c2_1_0 := hc2 (wr.heap.size) 0 (by first | omega | (simp; done) | (simp; omega)); have c2_1_1 := hc2 (wr.heap.size) 1 (by first | omega | (simp; done) | (simp; omega)); have c2_1_2 := hc2 (wr.heap.size) 2 (by first | omega | (simp; done) | (simp; omega)); have c2_1_3 := hc2 (wr.heap.size) 3 (by first | omega | (simp; done) | (simp; omega)); have c2_1_4 := hc2 (wr.heap.size) 4 (by first | omega | (simp; done) | (simp; omega)); have c2_1_5 := hc2 (wr.heap.size) 5 (by first | omega | (simp; done) | (simp; omega)); have f2_1 : ∀ i, w2.frozen? ⟨wr.heap.size, i, none⟩ = false := fun i => (hf2 (wr.heap.size) i (by first | omega | (simp; done) | (simp; omega))).trans (by simp [go_sem, *]); clear hc2 hf2; simp [go_sem, *] at c2_0_0; simp [go_sem, *] at c2_0_1; simp [go_sem, *] at c2_0_2; simp [go_sem, *] at c2_0_3; simp [go_sem, *] at c2_1_0; simp [go_sem, *] at c2_1_1; simp [go_sem, *] at c2_1_2; simp [go_sem, *] at c2_1_3; simp [go_sem, *] at c2_1_4; simp [go_sem, *] at c2_1_5)
        go_wp2_with fail
        have zz0 : w1.heap.size < w2.heap.size + 1 := by omega
        have zz1 : wr.heap.size < w2.heap.size + 1 := by omega
        refine wp_region_low (N := w2.heap.size + 1) (by first | omega | (simp; done) | (simp; omega)) (by kernel_rfl) ?_
        refine wpE_yes (i := 0) rfl (by kernel_rfl) (by kernel_rfl) (by kernel_rfl) (fun _ _ _ _ h => h) (by rfl) ?_; apply Exists.intro; refine ⟨fun w' hw' => ?_, ?_⟩
        · (have hcw := (bcellN hw').1; have hfw := (bcellN hw').2.1; go_simp; (try simp (disch := omega) only [IntWalk.i64_quo, IntWalk.i64_in, IntWalk.rem_in]); exact calm_value)
        simp only [Act.put, List.setIfInBounds_toArray, List.set_cons_zero, List.set_cons_succ]
        refine wpE_yes (i := 1) rfl (by kernel_rfl) (by kernel_rfl) (by kernel_rfl) (fun _ _ _ _ h => h) (by rfl) ?_; apply Exists.intro; refine ⟨fun w' hw' => ?_, ?_⟩
        · (have hcw := (bcellN hw').1; have hfw := (bcellN hw').2.1; go_simp; (try simp (disch := omega) only [IntWalk.i64_quo, IntWalk.i64_in, IntWalk.rem_in]); exact calm_value)
        simp only [Act.put, List.setIfInBounds_toArray, List.set_cons_zero, List.set_cons_succ]
        refine wpE_yes (i := 2) rfl (by kernel_rfl) (by kernel_rfl) (by kernel_rfl) (fun _ _ _ _ h => h) (by rfl) ?_; apply Exists.intro; refine ⟨fun w' hw' => ?_, ?_⟩
        · (have hcw := (bcellN hw').1; have hfw := (bcellN hw').2.1; go_simp; (try simp (disch := omega) only [IntWalk.i64_quo, IntWalk.i64_in, IntWalk.rem_in]); exact calm_value)
        simp only [Act.put, List.setIfInBounds_toArray, List.set_cons_zero, List.set_cons_succ]
        refine wpE_yes (i := 3) rfl (by kernel_rfl) (by kernel_rfl) (by kernel_rfl) (fun _ _ _ _ h => h) (by rfl) ?_; apply Exists.intro; refine ⟨fun w' hw' => ?_, ?_⟩
        · (have hcw := (bcellN hw').1; have hfw := (bcellN hw').2.1; go_simp; (try simp (disch := omega) only [IntWalk.i64_quo, IntWalk.i64_in, IntWalk.rem_in]); exact calm_value)
        simp only [Act.put, List.setIfInBounds_toArray, List.set_cons_zero, List.set_cons_succ]
        refine wpE_yes (i := 4) rfl (by kernel_rfl) (by kernel_rfl) (by kernel_rfl) (fun _ _ _ _ h => h) (by rfl) ?_; apply Exists.intro; refine ⟨fun w' hw' => ?_, ?_⟩
        · (have hcw := (bcellN hw').1; have hfw := (bcellN hw').2.1; go_simp; (try simp (disch := omega) only [IntWalk.i64_quo, IntWalk.i64_in, IntWalk.rem_in]); exact calm_value)
        simp only [Act.put, List.setIfInBounds_toArray, List.set_cons_zero, List.set_cons_succ]
        refine wpE_yes (i := 5) rfl (by kernel_rfl) (by kernel_rfl) (by kernel_rfl) (fun _ _ _ _ h => h) (by rfl) ?_; apply Exists.intro; refine ⟨fun w' hw' => ?_, ?_⟩
        · (have hcw := (bcellN hw').1; have hfw := (bcellN hw').2.1; go_simp; (try simp (disch := omega) only [IntWalk.i64_quo, IntWalk.i64_in, IntWalk.rem_in]); exact calm_value)
        simp only [Act.put, List.setIfInBounds_toArray, List.set_cons_zero, List.set_cons_succ]
        refine wpE_yes (i := 6) rfl (by kernel_rfl) (by kernel_rfl) (by kernel_rfl) (fun _ _ _ _ h => h) (by rfl) ?_; apply Exists.intro; refine ⟨fun w' hw' => ?_, ?_⟩
        · (have hcw := (bcellN hw').1; have hfw := (bcellN hw').2.1; go_simp; (try simp (disch := omega) only [IntWalk.i64_quo, IntWalk.i64_in, IntWalk.rem_in]); exact calm_value)
        simp only [Act.put, List.setIfInBounds_toArray, List.set_cons_zero, List.set_cons_succ]
        refine wpE_yes (i := 7) rfl (by kernel_rfl) (by kernel_rfl) (by kernel_rfl) (fun _ _ _ _ h => h) (by rfl) ?_; apply Exists.intro; refine ⟨fun w' hw' => ?_, ?_⟩
        · (have hcw := (bcellN hw').1; have hfw := (bcellN hw').2.1; go_simp; exact calm_call (B1 _) (fun _ hb => Below.trans hw' (hb.mono (by have := hw'.size; simp at this; omega))))
        simp only [Act.put, List.setIfInBounds_toArray, List.set_cons_zero, List.set_cons_succ]
        refine wpE_yes (i := 8) rfl (by kernel_rfl) (by kernel_rfl) (by kernel_rfl) (fun _ _ _ _ h => h) (by rfl) ?_; apply Exists.intro; refine ⟨fun w' hw' => ?_, ?_⟩
        · (have hcw := (bcellN hw').1; have hfw := (bcellN hw').2.1; go_simp; exact calm_call (A2 _) (fun _ hb => Below.trans hw' (hb.mono (by have := hw'.size; simp at this; omega))))
        simp only [Act.put, List.setIfInBounds_toArray, List.set_cons_zero, List.set_cons_succ]
        refine wpE_yes (i := 9) rfl (by kernel_rfl) (by kernel_rfl) (by kernel_rfl) (fun _ _ _ _ h => h) (by rfl) ?_; apply Exists.intro; refine ⟨fun w' hw' => ?_, ?_⟩
        · (have hcw := (bcellN hw').1; have hfw := (bcellN hw').2.1; go_simp; (try simp (disch := omega) only [IntWalk.i64_quo, IntWalk.i64_in, IntWalk.rem_in]); exact calm_value)
        simp only [Act.put, List.setIfInBounds_toArray, List.set_cons_zero, List.set_cons_succ]
        refine wpE_yes (i := 10) rfl (by kernel_rfl) (by kernel_rfl) (by kernel_rfl) (fun _ _ _ _ h => h) (by rfl) ?_; apply Exists.intro; refine ⟨fun w' hw' => ?_, ?_⟩
        · (have hcw := (bcellN hw').1; have hfw := (bcellN hw').2.1; go_simp; (try simp (disch := omega) only [IntWalk.i64_quo, IntWalk.i64_in, IntWalk.rem_in]); exact calm_value)
        simp only [Act.put, List.setIfInBounds_toArray, List.set_cons_zero, List.set_cons_succ]
        refine wpE_yes (i := 11) rfl (by kernel_rfl) (by kernel_rfl) (by kernel_rfl) (fun _ _ _ _ h => h) (by rfl) ?_; apply Exists.intro; refine ⟨fun w' hw' => ?_, ?_⟩
        · (have hcw := (bcellN hw').1; have hfw := (bcellN hw').2.1; go_simp; (try simp (disch := omega) only [IntWalk.i64_quo, IntWalk.i64_in, IntWalk.rem_in]); exact calm_value)
        simp only [Act.put, List.setIfInBounds_toArray, List.set_cons_zero, List.set_cons_succ]
        refine wpE_one (i := 12) (by kernel_rfl) rfl (by rfl) (fun w3 hb3 hC3 K hK => ?_)
        (have hc3 := (bcell hb3).1; have hf3 := (bcell hb3).2.1; have hs3 := (bcell hb3).2.2; (try simp [go_sem] at hs3); have z3_0 : w1.heap.size < w3.heap.size := (by omega); have y3_0 : (w1.heap.size = w3.heap.size) = False := eq_false (by omega); have c3_0_0 := hc3 (w1.heap.size) 0 (by first | omega | (simp; done) | (simp; omega)); have c3_0_1 := hc3 (w1.heap.size) 1 (by first | omega | (simp; done) | (simp; omega)); have c3_0_2 := hc3 (w1.heap.size) 2 (by first | omega | (simp; done) | (simp; omega)); have c3_0_3 := hc3 (w1.heap.size) 3 (by first | omega | (simp; done) | (simp; omega)); have f3_0 : ∀ i, w3.frozen? ⟨w1.heap.size, i, none⟩ = false := fun i => (hf3 (w1.heap.size) i (by first | omega | (simp; done) | (simp; omega))).trans (by simp [go_sem, *]); have z3_1 : wr.heap.size < w3.heap.size := (by omega); have y3_1 : (wr.heap.size = w3.heap.size) = False := eq_false (by omega); have c3_1_0 := hc3 (wr.heap.size) 0 (by first | omega | (simp; done) | (simp; omega)); have c3_1_1 := hc3 (wr.heap.size) 1 (by first | omega | (simp; done) | (simp; omega)); have c3_1_2 := hc3 (wr.heap.size) 2 (by first | omega | (simp; done) | (simp; omega)); have c3_1_3 := hc3 (wr.heap.size) 3 (by first | omega | (simp; done) | (simp; omega)); have c3_1_4 := hc3 (wr.heap.size) 4 (by first | omega | (simp; done) | (simp; omega)); have c3_1_5 := hc3 (wr.heap.size) 5 (by first | omega | (simp; done) | (simp; omega)); have f3_1 : ∀ i, w3.frozen? ⟨wr.heap.size, i, none⟩ = false := fun i => (hf3 (wr.heap.size) i (by first | omega | (simp; done) | (simp; omega))).trans (by simp [go_sem, *]); have z3_2 : w2.heap.size < w3.heap.size := (by omega); have y3_2 : (w2.heap.size = w3.heap.size) = False := eq_false (by omega); have c3_2_0 := hc3 (w2.heap.size) 0 (by first | omega | (simp; done) | (simp; omega)); have c3_2_1 := hc3 (w2.heap.size) 1 (by first | omega | (simp; done) | (simp; omega)); have f3_2 : ∀ i, w3.frozen? ⟨w2.heap.size, i, none⟩ = false := fun i => (hf3 (w2.heap.size) i (by first | omega | (simp; done) | (simp; omega))).trans (by simp [go_sem, *]); have z3_3 : w2.heap.size + 1 < w3.heap.size := (by omega); have y3_3 : (w2.heap.size + 1 = w3.heap.size) = False := eq_false (by omega); have c3_3_0 := hc3 (w2.heap.size + 1) 0 (by first | omega | (simp; done) | (simp; omega)); have c3_3_1 := hc3 (w2.heap.size + 1) 1 (by first | omega | (simp; done) | (simp; omega)); have c3_3_2 := hc3 (w2.heap.size + 1) 2 (by first | omega | (simp; done) | (simp; omega)); have c3_3_3 := hc3 (w2.heap.size + 1) 3 (by first | omega | (simp; done) | (simp; omega)); have f3_3 : ∀ i, w3.frozen? ⟨w2.heap.size + 1, i, none⟩ = false := fun i => (hf3 (w2.heap.size + 1) i (by first | omega | (simp; done) | (simp; omega))).trans (by simp [go_sem, *]); clear hc3 hf3; simp [go_sem, *] at c3_0_0; simp [go_sem, *] at c3_0_1; simp [go_sem, *] at c3_0_2; simp [go_sem, *] at c3_0_3; simp [go_sem, *] at c3_1_0; simp [go_sem, *] at c3_1_1; simp [go_sem, *] at c3_1_2; simp [go_sem, *] at c3_1_3; simp [go_sem, *] at c3_1_4; simp [go_sem, *] at c3_1_5; simp [go_sem, *] at c3_2_0; simp [go_sem, *] at c3_2_1; simp [go_sem, *] at c3_3_0; simp [go_sem, *] at c3_3_1; simp [go_sem, *] at c3_3_2; simp [go_sem, *] at c3_3_3; (try clear y2_0 f2_0 c2_0_0 c2_0_1 c2_0_2 c2_0_3 y2_1 f2_1 c2_1_0 c2_1_1 c2_1_2 c2_1_3 c2_1_4 c2_1_5))
        go_simp
        refine hK _ _ ?_ ?_
        · (repeat (first | assumption | refine Below.setCell ?_ (by first | omega | (simp; done) | (simp; omega)) _ | refine Below.alloc ?_ (by first | omega | (simp; done) | (simp; omega)) _))
        clear hK K hC3
        refine wpE_yes (i := 13) rfl (by kernel_rfl) (by kernel_rfl) (by kernel_rfl) (fun _ _ _ _ h => h) (by rfl) ?_; apply Exists.intro; refine ⟨fun w' hw' => ?_, ?_⟩
        · (have hcw := (bcellN hw').1; have hfw := (bcellN hw').2.1; go_simp; (try simp (disch := omega) only [IntWalk.i64_quo, IntWalk.i64_in, IntWalk.rem_in]); exact calm_value)
        simp only [Act.put, List.setIfInBounds_toArray, List.set_cons_zero, List.set_cons_succ]
        refine wpE_done (by kernel_rfl) (fun w4 hb4 hC4 => ?_) _
        (have hc4 := (bcell hb4).1; have hf4 := (bcell hb4).2.1; have hs4 := (bcell hb4).2.2; (try simp [go_sem] at hs4); have z4_0 : w1.heap.size < w4.heap.size := (by omega); have y4_0 : (w1.heap.size = w4.heap.size) = False := eq_false (by omega); have c4_0_0 := hc4 (w1.heap.size) 0 (by first | omega | (simp; done) | (simp; omega)); have c4_0_1 := hc4 (w1.heap.size) 1 (by first | omega | (simp; done) | (simp; omega)); have c4_0_2 := hc4 (w1.heap.size) 2 (by first | omega | (simp; done) | (simp; omega)); have c4_0_3 := hc4 (w1.heap.size) 3 (by first | omega | (simp; done) | (simp; omega)); have f4_0 : ∀ i, w4.frozen? ⟨w1.heap.size, i, none⟩ = false := fun i => (hf4 (w1.heap.size) i (by first | omega | (simp; done) | (simp; omega))).trans (by simp [go_sem, *]); have z4_1 : wr.heap.size < w4.heap.size := (by omega); have y4_1 : (wr.heap.size = w4.heap.size) = False := eq_false (by omega); have c4_1_0 := hc4 (wr.heap.size) 0 (by first | omega | (simp; done) | (simp; omega)); have c4_1_1 := hc4 (wr.heap.size) 1 (by first | omega | (simp; done) | (simp; omega)); have c4_1_2 := hc4 (wr.heap.size) 2 (by first | omega | (simp; done) | (simp; omega)); have c4_1_3 := hc4 (wr.heap.size) 3 (by first | omega | (simp; done) | (simp; omega)); have c4_1_4 := hc4 (wr.heap.size) 4 (by first | omega | (simp; done) | (simp; omega)); have c4_1_5 := hc4 (wr.heap.size) 5 (by first | omega | (simp; done) | (simp; omega)); have f4_1 : ∀ i, w4.frozen? ⟨wr.heap.size, i, none⟩ = false := fun i => (hf4 (wr.heap.size) i (by first | omega | (simp; done) | (simp; omega))).trans (by simp [go_sem, *]); have z4_2 : w2.heap.size < w4.heap.size := (by omega); have y4_2 : (w2.heap.size = w4.heap.size) = False := eq_false (by omega); have c4_2_0 := hc4 (w2.heap.size) 0 (by first | omega | (simp; done) | (simp; omega)); have c4_2_1 := hc4 (w2.heap.size) 1 (by first | omega | (simp; done) | (simp; omega)); have f4_2 : ∀ i, w4.frozen? ⟨w2.heap.size, i, none⟩ = false := fun i => (hf4 (w2.heap.size) i (by first | omega | (simp; done) | (simp; omega))).trans (by simp [go_sem, *]); have z4_3 : w2.heap.size + 1 < w4.heap.size := (by omega); have y4_3 : (w2.heap.size + 1 = w4.heap.size) = False := eq_false (by omega); have c4_3_0 := hc4 (w2.heap.size + 1) 0 (by first | omega | (simp; done) | (simp; omega)); have c4_3_1 := hc4 (w2.heap.size + 1) 1 (by first | omega | (simp; done) | (simp; omega)); have c4_3_2 := hc4 (w2.heap.size + 1) 2 (by first | omega | (simp; done) | (simp; omega)); have c4_3_3 := hc4 (w2.heap.size + 1) 3 (by first | omega | (simp; done) | (simp; omega)); have f4_3 : ∀ i, w4.frozen? ⟨w2.heap.size + 1, i, none⟩ = false := fun i => (hf4 (w2.heap.size + 1) i (by first | omega | (simp; done) | (simp; omega))).trans (by simp [go_sem, *]); clear hc4 hf4; simp [go_sem, *] at c4_0_0; simp [go_sem, *] at c4_0_1; simp [go_sem, *] at c4_0_2; simp [go_sem, *] at c4_0_3; simp [go_sem, *] at c4_1_0; simp [go_sem, *] at c4_1_1; simp [go_sem, *] at c4_1_2; simp [go_sem, *] at c4_1_3; simp [go_sem, *] at c4_1_4; simp [go_sem, *] at c4_1_5; simp [go_sem, *] at c4_2_0; simp [go_sem, *] at c4_2_1; simp [go_sem, *] at c4_3_0; simp [go_sem, *] at c4_3_1; simp [go_sem, *] at c4_3_2; simp [go_sem, *] at c4_3_3; (try clear y3_0 f3_0 c3_0_0 c3_0_1 c3_0_2 c3_0_3 y3_1 f3_1 c3_1_0 c3_1_1 c3_1_2 c3_1_3 c3_1_4 c3_1_5 y3_2 f3_2 c3_2_0 c3_2_1 y3_3 f3_3 c3_3_0 c3_3_1 c3_3_2 c3_3_3))
        clear hC4
        go_wp2_with fail
        (go_at_call 14; refine (A3 _).mono ?_; rintro e w5 ⟨rfl, hb5⟩; have hc5 := (bcell hb5).1; have hf5 := (bcell hb5).2.1; have hs5 := (bcell hb5).2.2; (try simp [go_sem] at hs5); have z5_0 : w1.heap.size < w5.heap.size := (by omega); have y5_0 : (w1.heap.size = w5.heap.size) = False := eq_false (by omega); have c5_0_0 := hc5 (w1.heap.size) 0 (by first | omega | (simp; done) | (simp; omega)); have c5_0_1 := hc5 (w1.heap.size) 1 (by first | omega | (simp; done) | (simp; omega)); have c5_0_2 := hc5 (w1.heap.size) 2 (by first | omega | (simp; done) | (simp; omega)); have c5_0_3 := hc5 (w1.heap.size) 3 (by first | omega | (simp; done) | (simp; omega)); have f5_0 : ∀ i, w5.frozen? ⟨w1.heap.size, i, none⟩ = false := fun i => (hf5 (w1.heap.size) i (by first | omega | (simp; done) | (simp; omega))).trans (by simp [go_sem, *]); have z5_1 : wr.heap.size < w5.heap.size := (by omega); have y5_1 : (wr.heap.size = w5.heap.size) = False := eq_false (by omega); have c5_1_0 := hc5 (wr.heap.size) 0 (by first | omega | (simp; done) | (simp; omega)); have c5_1_1 := hc5 (wr.heap.size) 1 (by first | omega | (simp; done) | (simp; omega)); have c5_1_2 := hc5 (wr.heap.size) 2 (by first | omega | (simp; done) | (simp; omega)); have c5_1_3 := hc5 (wr.heap.size) 3 (by first | omega | (simp; done) | (simp; omega)); have c5_1_4 := hc5 (wr.heap.size) 4 (by first | omega | (simp; done) | (simp; omega)); have c5_1_5 := hc5 (wr.heap.size) 5 (by first | omega | (simp; done) | (simp; omega)); have f5_1 : ∀ i, w5.frozen? ⟨wr.heap.size, i, none⟩ = false := fun i => (hf5 (wr.heap.size) i (by first | omega | (simp; done) | (simp; omega))).trans (by simp [go_sem, *]); have z5_2 : w2.heap.size < w5.heap.size := (by omega); have y5_2 : (w2.heap.size = w5.heap.size) = False := eq_false (by omega); have c5_2_0 := hc5 (w2.heap.size) 0 (by first | omega | (simp; done) | (simp; omega)); have c5_2_1 := hc5 (w2.heap.size) 1 (by first | omega | (simp; done) | (simp; omega)); have f5_2 : ∀ i, w5.frozen? ⟨w2.heap.size, i, none⟩ = false := fun i => (hf5 (w2.heap.size) i (by first | omega | (simp; done) | (simp; omega))).trans (by simp [go_sem, *]); have z5_3 : w2.heap.size + 1 < w5.heap.size := (by omega); have y5_3 : (w2.heap.size + 1 = w5.heap.size) = False := eq_false (by omega); have c5_3_0 := hc5 (w2.heap.size + 1) 0 (by first | omega | (simp; done) | (simp; omega)); have c5_3_1 := hc5 (w2.heap.size + 1) 1 (by first | omega | (simp; done) | (simp; omega)); have c5_3_2 := hc5 (w2.heap.size + 1) 2 (by first | omega | (simp; done) | (simp; omega)); have c5_3_3 := hc5 (w2.heap.size + 1) 3 (by first | omega | (simp; done) | (simp; omega)); have f5_3 : ∀ i, w5.frozen? ⟨w2.heap.size + 1, i, none⟩ = false := fun i => (hf5 (w2.heap.size + 1) i (by first | omega | (simp; done) | (simp; omega))).trans (by simp [go_sem, *]); clear hc5 hf5; simp [go_sem, *] at c5_0_0; simp [go_sem, *] at c5_0_1; simp [go_sem, *] at c5_0_2; simp [go_sem, *] at c5_0_3; simp [go_sem, *] at c5_1_0; simp [go_sem, *] at c5_1_1; simp [go_sem, *] at c5_1_2; simp [go_sem, *] at c5_1_3; simp [go_sem, *] at c5_1_4; simp [go_sem, *] at c5_1_5; simp [go_sem, *] at c5_2_0; simp [go_sem, *] at c5_2_1; simp [go_sem, *] at c5_3_0; simp [go_sem, *] at c5_3_1; simp [go_sem, *] at c5_3_2; simp [go_sem, *] at c5_3_3; (try clear y4_0 f4_0 c4_0_0 c4_0_1 c4_0_2 c4_0_3 y4_1 f4_1 c4_1_0 c4_1_1 c4_1_2 c4_1_3 c4_1_4 c4_1_5 y4_2 f4_2 c4_2_0 c4_2_1 y4_3 f4_3 c4_3_0 c4_3_1 c4_3_2 c4_3_3))
        go_wp2_with fail
        go_roundw
        case rel => exact ⟨k + 1, now + d, reading + (x1 + x3), reading + (x1 + x3), p, q, by omega, by go_num, rfl, rfl, HR2.out, by omega, by omega, by have := Hg.out; (repeat (first | exact Below.refl _ _ | refine Below.setCell ?_ (by first | omega | (simp; done) | (simp; omega)) _ | refine Below.alloc ?_ (by first | omega | (simp; done) | (simp; omega)) _ | refine below_drewN ?_ _ | refine Below.drew ?_ | refine Below.trans ?_ (Below.mono (by assumption) (by first | omega | (simp; done) | (simp; omega))))), by simp; omega, by simp [go_sem, *], by simp [go_sem, *], by simp [go_sem, *], by simp [go_sem, *], by simp [go_sem, *]⟩
        case measure => simp [intOf]; omega
      by_cases hk2 : kind = 2
      · have m1 : 0 ≤ d * whn := Int.mul_nonneg g1 o9
        have m2 : d * whn ≤ d * 65535 := Int.mul_le_mul_of_nonneg_left o10 g1
        obtain ⟨x4, hx4⟩ : ∃ x, d * whn / 65535 = x := ⟨_, rfl⟩
        have hx5 : 0 ≤ x4 ∧ x4 ≤ d := by omega
        obtain ⟨p, q, hsy, R2⟩ := HR1.out.exch (s := reading) (c := max 0 (now + x4 - earlier % 1000)) (d := now + x4 + later % 1000) (by omega) (by omega) (by omega) (by omega) (by omega) (by omega) (by rw [show reading + (x1 + x3) - reading = x1 + x3 by omega]; omega) (by omega)
        obtain ⟨v1, v2, hat2, hv1, hv2, hv3, hv4⟩ := R2.at (by omega) (by omega)
        have B1 := fun w => around_any (now + x4) earlier later w (by omega) (by omega) o5 o6 o7 o8
        have A2 := exch_eq hsy (vld_mk (by omega) (by omega) (by omega))
        have A3 := at_eq hat2
        have HR2 := Lib.hid R2
        clear hsy hat2 R2 hlong hk1
        subst hk2
        go_wp2_with fail
        (go_at_call 14; refine (A1 _).mono ?_; rintro e w2 ⟨rfl, hb2⟩; have hc2 := (bcell hb2).1; have hf2 := (bcell hb2).2.1; have hs2 := (bcell hb2).2.2; (try simp [go_sem] at hs2); have z2_0 : w1.heap.size < w2.heap.size := (by omega); have y2_0 : (w1.heap.size = w2.heap.size) = False := eq_false (by omega); have c2_0_0 := hc2 (w1.heap.size) 0 (by first | omega | (simp; done) | (simp; omega)); have c2_0_1 := hc2 (w1.heap.size) 1 (by first | omega | (simp; done) | (simp; omega)); have c2_0_2 := hc2 (w1.heap.size) 2 (by first | omega | (simp; done) | (simp; omega)); have c2_0_3 := hc2 (w1.heap.size) 3 (by first | omega | (simp; done) | (simp; omega)); have f2_0 : ∀ i, w2.frozen? ⟨w1.heap.size, i, none⟩ = false := fun i => (hf2 (w1.heap.size) i (by first | omega | (simp; done) | (simp; omega))).trans (by simp [go_sem, *]); have z2_1 : wr.heap.size < w2.heap.size := (by omega); have y2_1 : (wr.heap.size = w2.heap.size) = False := eq_false (by omega); have c2_1_0 := hc2 (wr.heap.size) 0 (by first | omega | (simp; done) | (simp; omega)); have c2_1_1 := hc2 (wr.heap.size) 1 (by first | omega | (simp; done) | (simp; omega)); have c2_1_2 := hc2 (wr.heap.size) 2 (by first | omega | (simp; done) | (simp; omega)); have c2_1_3 := hc2 (wr.heap.size) 3 (by first | omega | (simp; done) | (simp; omega)); have c2_1_4 := hc2 (wr.heap.size) 4 (by first | omega | (simp; done) | (simp; omega)); have c2_1_5 := hc2 (wr.heap.size) 5 (by first | omega | (simp; done) | (simp; omega)); have f2_1 : ∀ i, w2.frozen? ⟨wr.heap.size, i, none⟩ = false := fun i => (hf2 (wr.heap.size) i (by first | omega | (simp; done) | (simp; omega))).trans (by simp [go_sem, *]); clear hc2 hf2; simp [go_sem, *] at c2_0_0; simp [go_sem, *] at c2_0_1; simp [go_sem, *] at c2_0_2; simp [go_sem, *] at c2_0_3; simp [go_sem, *] at c2_1_0; simp [go_sem, *] at c2_1_1; simp [go_sem, *] at c2_1_2; simp [go_sem, *] at c2_1_3; simp [go_sem, *] at c2_1_4; simp [go_sem, *] at c2_1_5; (try clear y5_0 f5_0 c5_0_0 c5_0_1 c5_0_2 c5_0_3 y5_1 f5_1 c5_1_0 c5_1_1 c5_1_2 c5_1_3 c5_1_4 c5_1_5 y5_2 f5_2 c5_2_0 c5_2_1 y5_3 f5_3 c5_3_0 c5_3_1 c5_3_2 c5_3_3))
        go_wp2_with fail
        have zz0 : w1.heap.size < w2.heap.size + 1 := by omega
        have zz1 : wr.heap.size < w2.heap.size + 1 := by omega
        refine wp_region_low (N := w2.heap.size + 1) (by first | omega | (simp; done) | (simp; omega)) (by kernel_rfl) ?_
        refine wpE_yes (i := 0) rfl (by kernel_rfl) (by kernel_rfl) (by kernel_rfl) (fun _ _ _ _ h => h) (by rfl) ?_; apply Exists.intro; refine ⟨fun w' hw' => ?_, ?_⟩
        · (have hcw := (bcellN hw').1; have hfw := (bcellN hw').2.1; go_simp; (try simp (disch := omega) only [IntWalk.i64_quo, IntWalk.i64_in, IntWalk.rem_in]); exact calm_value)
        simp only [Act.put, List.setIfInBounds_toArray, List.set_cons_zero, List.set_cons_succ]
        refine wpE_yes (i := 1) rfl (by kernel_rfl) (by kernel_rfl) (by kernel_rfl) (fun _ _ _ _ h => h) (by rfl) ?_; apply Exists.intro; refine ⟨fun w' hw' => ?_, ?_⟩
        · (have hcw := (bcellN hw').1; have hfw := (bcellN hw').2.1; go_simp; (try simp (disch := omega) only [IntWalk.i64_quo, IntWalk.i64_in, IntWalk.rem_in]); exact calm_value)
        simp only [Act.put, List.setIfInBounds_toArray, List.set_cons_zero, List.set_cons_succ]
        refine wpE_yes (i := 2) rfl (by kernel_rfl) (by kernel_rfl) (by kernel_rfl) (fun _ _ _ _ h => h) (by rfl) ?_; apply Exists.intro; refine ⟨fun w' hw' => ?_, ?_⟩
        · (have hcw := (bcellN hw').1; have hfw := (bcellN hw').2.1; go_simp; (try simp (disch := omega) only [IntWalk.i64_quo, IntWalk.i64_in, IntWalk.rem_in]); exact calm_value)
        simp only [Act.put, List.setIfInBounds_toArray, List.set_cons_zero, List.set_cons_succ]
        refine wpE_yes (i := 3) rfl (by kernel_rfl) (by kernel_rfl) (by kernel_rfl) (fun _ _ _ _ h => h) (by rfl) ?_; apply Exists.intro; refine ⟨fun w' hw' => ?_, ?_⟩
        · (have hcw := (bcellN hw').1; have hfw := (bcellN hw').2.1; go_simp; (try simp (disch := omega) only [IntWalk.i64_quo, IntWalk.i64_in, IntWalk.rem_in]); exact calm_value)
        simp only [Act.put, List.setIfInBounds_toArray, List.set_cons_zero, List.set_cons_succ]
        refine wpE_yes (i := 4) rfl (by kernel_rfl) (by kernel_rfl) (by kernel_rfl) (fun _ _ _ _ h => h) (by rfl) ?_; apply Exists.intro; refine ⟨fun w' hw' => ?_, ?_⟩
        · (have hcw := (bcellN hw').1; have hfw := (bcellN hw').2.1; go_simp; (try simp (disch := omega) only [IntWalk.i64_quo, IntWalk.i64_in, IntWalk.rem_in]); exact calm_value)
        simp only [Act.put, List.setIfInBounds_toArray, List.set_cons_zero, List.set_cons_succ]
        refine wpE_yes (i := 5) rfl (by kernel_rfl) (by kernel_rfl) (by kernel_rfl) (fun _ _ _ _ h => h) (by rfl) ?_; apply Exists.intro; refine ⟨fun w' hw' => ?_, ?_⟩
        · (have hcw := (bcellN hw').1; have hfw := (bcellN hw').2.1; go_simp; (try simp (disch := omega) only [IntWalk.i64_quo, IntWalk.i64_in, IntWalk.rem_in]); exact calm_value)
        simp only [Act.put, List.setIfInBounds_toArray, List.set_cons_zero, List.set_cons_succ]
        refine wpE_yes (i := 6) rfl (by kernel_rfl) (by kernel_rfl) (by kernel_rfl) (fun _ _ _ _ h => h) (by rfl) ?_; apply Exists.intro; refine ⟨fun w' hw' => ?_, ?_⟩
        · (have hcw := (bcellN hw').1; have hfw := (bcellN hw').2.1; go_simp; (try simp (disch := omega) only [IntWalk.i64_quo, IntWalk.i64_in, IntWalk.rem_in]); exact calm_value)
        simp only [Act.put, List.setIfInBounds_toArray, List.set_cons_zero, List.set_cons_succ]
        refine wpE_yes (i := 7) rfl (by kernel_rfl) (by kernel_rfl) (by kernel_rfl) (fun _ _ _ _ h => h) (by rfl) ?_; apply Exists.intro; refine ⟨fun w' hw' => ?_, ?_⟩
        · (have hcw := (bcellN hw').1; have hfw := (bcellN hw').2.1; go_simp; (try simp (disch := omega) only [IntWalk.i64_quo, IntWalk.i64_in, IntWalk.rem_in]); exact calm_value)
        simp only [Act.put, List.setIfInBounds_toArray, List.set_cons_zero, List.set_cons_succ]
        refine wpE_yes (i := 8) rfl (by kernel_rfl) (by kernel_rfl) (by kernel_rfl) (fun _ _ _ _ h => h) (by rfl) ?_; apply Exists.intro; refine ⟨fun w' hw' => ?_, ?_⟩
        · (have hcw := (bcellN hw').1; have hfw := (bcellN hw').2.1; go_simp; (try simp (disch := omega) only [IntWalk.i64_quo, IntWalk.i64_in, IntWalk.rem_in]); exact calm_value)
        simp only [Act.put, List.setIfInBounds_toArray, List.set_cons_zero, List.set_cons_succ]
        refine wpE_yes (i := 9) rfl (by kernel_rfl) (by kernel_rfl) (by kernel_rfl) (fun _ _ _ _ h => h) (by rfl) ?_; apply Exists.intro; refine ⟨fun w' hw' => ?_, ?_⟩
        · (have hcw := (bcellN hw').1; have hfw := (bcellN hw').2.1; go_simp; (try simp (disch := omega) only [IntWalk.i64_quo, IntWalk.i64_in, IntWalk.rem_in]); exact calm_value)
        simp only [Act.put, List.setIfInBounds_toArray, List.set_cons_zero, List.set_cons_succ]
        refine wpE_yes (i := 10) rfl (by kernel_rfl) (by kernel_rfl) (by kernel_rfl) (fun _ _ _ _ h => h) (by rfl) ?_; apply Exists.intro; refine ⟨fun w' hw' => ?_, ?_⟩
        · (have hcw := (bcellN hw').1; have hfw := (bcellN hw').2.1; go_simp; (try simp (disch := omega) only [IntWalk.i64_quo, IntWalk.i64_in, IntWalk.rem_in]); exact calm_value)
        simp only [Act.put, List.setIfInBounds_toArray, List.set_cons_zero, List.set_cons_succ]
        refine wpE_yes (i := 11) rfl (by kernel_rfl) (by kernel_rfl) (by kernel_rfl) (fun _ _ _ _ h => h) (by rfl) ?_; apply Exists.intro; refine ⟨fun w' hw' => ?_, ?_⟩
        · (have hcw := (bcellN hw').1; have hfw := (bcellN hw').2.1; go_simp; (try simp (disch := omega) only [IntWalk.i64_quo, IntWalk.i64_in, IntWalk.rem_in]); exact calm_value)
        simp only [Act.put, List.setIfInBounds_toArray, List.set_cons_zero, List.set_cons_succ]
        refine wpE_yes (i := 12) rfl (by kernel_rfl) (by kernel_rfl) (by kernel_rfl) (fun _ _ _ _ h => h) (by rfl) ?_; apply Exists.intro; refine ⟨fun w' hw' => ?_, ?_⟩
        · (have hcw := (bcellN hw').1; have hfw := (bcellN hw').2.1; go_simp; (try simp (disch := omega) only [IntWalk.i64_quo, IntWalk.i64_in, IntWalk.rem_in]); exact calm_value)
        simp only [Act.put, List.setIfInBounds_toArray, List.set_cons_zero, List.set_cons_succ]
        refine wpE_yes (i := 13) rfl (by kernel_rfl) (by kernel_rfl) (by kernel_rfl) (fun _ _ _ _ h => h) (by rfl) ?_; apply Exists.intro; refine ⟨fun w' hw' => ?_, ?_⟩
        · (have hcw := (bcellN hw').1; have hfw := (bcellN hw').2.1; go_simp; (try simp (disch := omega) only [IntWalk.i64_quo, IntWalk.i64_in, IntWalk.rem_in]); exact calm_value)
        simp only [Act.put, List.setIfInBounds_toArray, List.set_cons_zero, List.set_cons_succ]
        refine wpE_yes (i := 14) rfl (by kernel_rfl) (by kernel_rfl) (by kernel_rfl) (fun _ _ _ _ h => h) (by rfl) ?_; apply Exists.intro; refine ⟨fun w' hw' => ?_, ?_⟩
        · (have hcw := (bcellN hw').1; have hfw := (bcellN hw').2.1; go_simp; (try simp (disch := omega) only [IntWalk.i64_quo, IntWalk.i64_in, IntWalk.rem_in]); exact calm_value)
        simp only [Act.put, List.setIfInBounds_toArray, List.set_cons_zero, List.set_cons_succ]
        refine wpE_yes (i := 15) rfl (by kernel_rfl) (by kernel_rfl) (by kernel_rfl) (fun _ _ _ _ h => h) (by rfl) ?_; apply Exists.intro; refine ⟨fun w' hw' => ?_, ?_⟩
        · (have hcw := (bcellN hw').1; have hfw := (bcellN hw').2.1; go_simp; exact calm_call (B1 _) (fun _ hb => Below.trans hw' (hb.mono (by have := hw'.size; simp at this; omega))))
        simp only [Act.put, List.setIfInBounds_toArray, List.set_cons_zero, List.set_cons_succ]
        refine wpE_yes (i := 16) rfl (by kernel_rfl) (by kernel_rfl) (by kernel_rfl) (fun _ _ _ _ h => h) (by rfl) ?_; apply Exists.intro; refine ⟨fun w' hw' => ?_, ?_⟩
        · (have hcw := (bcellN hw').1; have hfw := (bcellN hw').2.1; go_simp; exact calm_call (A2 _) (fun _ hb => Below.trans hw' (hb.mono (by have := hw'.size; simp at this; omega))))
        simp only [Act.put, List.setIfInBounds_toArray, List.set_cons_zero, List.set_cons_succ]
        refine wpE_yes (i := 17) rfl (by kernel_rfl) (by kernel_rfl) (by kernel_rfl) (fun _ _ _ _ h => h) (by rfl) ?_; apply Exists.intro; refine ⟨fun w' hw' => ?_, ?_⟩
        · (have hcw := (bcellN hw').1; have hfw := (bcellN hw').2.1; go_simp; (try simp (disch := omega) only [IntWalk.i64_quo, IntWalk.i64_in, IntWalk.rem_in]); exact calm_value)
        simp only [Act.put, List.setIfInBounds_toArray, List.set_cons_zero, List.set_cons_succ]
        refine wpE_yes (i := 18) rfl (by kernel_rfl) (by kernel_rfl) (by kernel_rfl) (fun _ _ _ _ h => h) (by rfl) ?_; apply Exists.intro; refine ⟨fun w' hw' => ?_, ?_⟩
        · (have hcw := (bcellN hw').1; have hfw := (bcellN hw').2.1; go_simp; (try simp (disch := omega) only [IntWalk.i64_quo, IntWalk.i64_in, IntWalk.rem_in]); exact calm_value)
        simp only [Act.put, List.setIfInBounds_toArray, List.set_cons_zero, List.set_cons_succ]
        refine wpE_yes (i := 19) rfl (by kernel_rfl) (by kernel_rfl) (by kernel_rfl) (fun _ _ _ _ h => h) (by rfl) ?_; apply Exists.intro; refine ⟨fun w' hw' => ?_, ?_⟩
        · (have hcw := (bcellN hw').1; have hfw := (bcellN hw').2.1; go_simp; (try simp (disch := omega) only [IntWalk.i64_quo, IntWalk.i64_in, IntWalk.rem_in]); exact calm_value)
        simp only [Act.put, List.setIfInBounds_toArray, List.set_cons_zero, List.set_cons_succ]
        refine wpE_one (i := 20) (by kernel_rfl) rfl (by rfl) (fun w3 hb3 hC3 K hK => ?_)
        (have hc3 := (bcell hb3).1; have hf3 := (bcell hb3).2.1; have hs3 := (bcell hb3).2.2; (try simp [go_sem] at hs3); have z3_0 : w1.heap.size < w3.heap.size := (by omega); have y3_0 : (w1.heap.size = w3.heap.size) = False := eq_false (by omega); have c3_0_0 := hc3 (w1.heap.size) 0 (by first | omega | (simp; done) | (simp; omega)); have c3_0_1 := hc3 (w1.heap.size) 1 (by first | omega | (simp; done) | (simp; omega)); have c3_0_2 := hc3 (w1.heap.size) 2 (by first | omega | (simp; done) | (simp; omega)); have c3_0_3 := hc3 (w1.heap.size) 3 (by first | omega | (simp; done) | (simp; omega)); have f3_0 : ∀ i, w3.frozen? ⟨w1.heap.size, i, none⟩ = false := fun i => (hf3 (w1.heap.size) i (by first | omega | (simp; done) | (simp; omega))).trans (by simp [go_sem, *]); have z3_1 : wr.heap.size < w3.heap.size := (by omega); have y3_1 : (wr.heap.size = w3.heap.size) = False := eq_false (by omega); have c3_1_0 := hc3 (wr.heap.size) 0 (by first | omega | (simp; done) | (simp; omega)); have c3_1_1 := hc3 (wr.heap.size) 1 (by first | omega | (simp; done) | (simp; omega)); have c3_1_2 := hc3 (wr.heap.size) 2 (by first | omega | (simp; done) | (simp; omega)); have c3_1_3 := hc3 (wr.heap.size) 3 (by first | omega | (simp; done) | (simp; omega)); have c3_1_4 := hc3 (wr.heap.size) 4 (by first | omega | (simp; done) | (simp; omega)); have c3_1_5 := hc3 (wr.heap.size) 5 (by first | omega | (simp; done) | (simp; omega)); have f3_1 : ∀ i, w3.frozen? ⟨wr.heap.size, i, none⟩ = false := fun i => (hf3 (wr.heap.size) i (by first | omega | (simp; done) | (simp; omega))).trans (by simp [go_sem, *]); have z3_2 : w2.heap.size < w3.heap.size := (by omega); have y3_2 : (w2.heap.size = w3.heap.size) = False := eq_false (by omega); have c3_2_0 := hc3 (w2.heap.size) 0 (by first | omega | (simp; done) | (simp; omega)); have c3_2_1 := hc3 (w2.heap.size) 1 (by first | omega | (simp; done) | (simp; omega)); have f3_2 : ∀ i, w3.frozen? ⟨w2.heap.size, i, none⟩ = false := fun i => (hf3 (w2.heap.size) i (by first | omega | (simp; done) | (simp; omega))).trans (by simp [go_sem, *]); have z3_3 : w2.heap.size + 1 < w3.heap.size := (by omega); have y3_3 : (w2.heap.size + 1 = w3.heap.size) = False := eq_false (by omega); have c3_3_0 := hc3 (w2.heap.size + 1) 0 (by first | omega | (simp; done) | (simp; omega)); have c3_3_1 := hc3 (w2.heap.size + 1) 1 (by first | omega | (simp; done) | (simp; omega)); have c3_3_2 := hc3 (w2.heap.size + 1) 2 (by first | omega | (simp; done) | (simp; omega)); have c3_3_3 := hc3 (w2.heap.size + 1) 3 (by first | omega | (simp; done) | (simp; omega)); have f3_3 : ∀ i, w3.frozen? ⟨w2.heap.size + 1, i, none⟩ = false := fun i => (hf3 (w2.heap.size + 1) i (by first | omega | (simp; done) | (simp; omega))).trans (by simp [go_sem, *]); clear hc3 hf3; simp [go_sem, *] at c3_0_0; simp [go_sem, *] at c3_0_1; simp [go_sem, *] at c3_0_2; simp [go_sem, *] at c3_0_3; simp [go_sem, *] at c3_1_0; simp [go_sem, *] at c3_1_1; simp [go_sem, *] at c3_1_2; simp [go_sem, *] at c3_1_3; simp [go_sem, *] at c3_1_4; simp [go_sem, *] at c3_1_5; simp [go_sem, *] at c3_2_0; simp [go_sem, *] at c3_2_1; simp [go_sem, *] at c3_3_0; simp [go_sem, *] at c3_3_1; simp [go_sem, *] at c3_3_2; simp [go_sem, *] at c3_3_3; (try clear y2_0 f2_0 c2_0_0 c2_0_1 c2_0_2 c2_0_3 y2_1 f2_1 c2_1_0 c2_1_1 c2_1_2 c2_1_3 c2_1_4 c2_1_5))
        go_simp
        refine hK _ _ ?_ ?_
        · (repeat (first | assumption | refine Below.setCell ?_ (by first | omega | (simp; done) | (simp; omega)) _ | refine Below.alloc ?_ (by first | omega | (simp; done) | (simp; omega)) _))
        clear hK K hC3
        refine wpE_yes (i := 21) rfl (by kernel_rfl) (by kernel_rfl) (by kernel_rfl) (fun _ _ _ _ h => h) (by rfl) ?_; apply Exists.intro; refine ⟨fun w' hw' => ?_, ?_⟩
        · (have hcw := (bcellN hw').1; have hfw := (bcellN hw').2.1; go_simp; (try simp (disch := omega) only [IntWalk.i64_quo, IntWalk.i64_in, IntWalk.rem_in]); exact calm_value)
        simp only [Act.put, List.setIfInBounds_toArray, List.set_cons_zero, List.set_cons_succ]
        refine wpE_done (by kernel_rfl) (fun w4 hb4 hC4 => ?_) _
        (have hc4 := (bcell hb4).1; have hf4 := (bcell hb4).2.1; have hs4 := (bcell hb4).2.2; (try simp [go_sem] at hs4); have z4_0 : w1.heap.size < w4.heap.size := (by omega); have y4_0 : (w1.heap.size = w4.heap.size) = False := eq_false (by omega); have c4_0_0 := hc4 (w1.heap.size) 0 (by first | omega | (simp; done) | (simp; omega)); have c4_0_1 := hc4 (w1.heap.size) 1 (by first | omega | (simp; done) | (simp; omega)); have c4_0_2 := hc4 (w1.heap.size) 2 (by first | omega | (simp; done) | (simp; omega)); have c4_0_3 := hc4 (w1.heap.size) 3 (by first | omega | (simp; done) | (simp; omega)); have f4_0 : ∀ i, w4.frozen? ⟨w1.heap.size, i, none⟩ = false := fun i => (hf4 (w1.heap.size) i (by first | omega | (simp; done) | (simp; omega))).trans (by simp [go_sem, *]); have z4_1 : wr.heap.size < w4.heap.size := (by omega); have y4_1 : (wr.heap.size = w4.heap.size) = False := eq_false (by omega); have c4_1_0 := hc4 (wr.heap.size) 0 (by first | omega | (simp; done) | (simp; omega)); have c4_1_1 := hc4 (wr.heap.size) 1 (by first | omega | (simp; done) | (simp; omega)); have c4_1_2 := hc4 (wr.heap.size) 2 (by first | omega | (simp; done) | (simp; omega)); have c4_1_3 := hc4 (wr.heap.size) 3 (by first | omega | (simp; done) | (simp; omega)); have c4_1_4 := hc4 (wr.heap.size) 4 (by first | omega | (simp; done) | (simp; omega)); have c4_1_5 := hc4 (wr.heap.size) 5 (by first | omega | (simp; done) | (simp; omega)); have f4_1 : ∀ i, w4.frozen? ⟨wr.heap.size, i, none⟩ = false := fun i => (hf4 (wr.heap.size) i (by first | omega | (simp; done) | (simp; omega))).trans (by simp [go_sem, *]); have z4_2 : w2.heap.size < w4.heap.size := (by omega); have y4_2 : (w2.heap.size = w4.heap.size) = False := eq_false (by omega); have c4_2_0 := hc4 (w2.heap.size) 0 (by first | omega | (simp; done) | (simp; omega)); have c4_2_1 := hc4 (w2.heap.size) 1 (by first | omega | (simp; done) | (simp; omega)); have f4_2 : ∀ i, w4.frozen? ⟨w2.heap.size, i, none⟩ = false := fun i => (hf4 (w2.heap.size) i (by first | omega | (simp; done) | (simp; omega))).trans (by simp [go_sem, *]); have z4_3 : w2.heap.size + 1 < w4.heap.size := (by omega); have y4_3 : (w2.heap.size + 1 = w4.heap.size) = False := eq_false (by omega); have c4_3_0 := hc4 (w2.heap.size + 1) 0 (by first | omega | (simp; done) | (simp; omega)); have c4_3_1 := hc4 (w2.heap.size + 1) 1 (by first | omega | (simp; done) | (simp; omega)); have c4_3_2 := hc4 (w2.heap.size + 1) 2 (by first | omega | (simp; done) | (simp; omega)); have c4_3_3 := hc4 (w2.heap.size + 1) 3 (by first | omega | (simp; done) | (simp; omega)); have f4_3 : ∀ i, w4.frozen? ⟨w2.heap.size + 1, i, none⟩ = false := fun i => (hf4 (w2.heap.size + 1) i (by first | omega | (simp; done) | (simp; omega))).trans (by simp [go_sem, *]); clear hc4 hf4; simp [go_sem, *] at c4_0_0; simp [go_sem, *] at c4_0_1; simp [go_sem, *] at c4_0_2; simp [go_sem, *] at c4_0_3; simp [go_sem, *] at c4_1_0; simp [go_sem, *] at c4_1_1; simp [go_sem, *] at c4_1_2; simp [go_sem, *] at c4_1_3; simp [go_sem, *] at c4_1_4; simp [go_sem, *] at c4_1_5; simp [go_sem, *] at c4_2_0; simp [go_sem, *] at c4_2_1; simp [go_sem, *] at c4_3_0; simp [go_sem, *] at c4_3_1; simp [go_sem, *] at c4_3_2; simp [go_sem, *] at c4_3_3; (try clear y3_0 f3_0 c3_0_0 c3_0_1 c3_0_2 c3_0_3 y3_1 f3_1 c3_1_0 c3_1_1 c3_1_2 c3_1_3 c3_1_4 c3_1_5 y3_2 f3_2 c3_2_0 c3_2_1 y3_3 f3_3 c3_3_0 c3_3_1 c3_3_2 c3_3_3))
        clear hC4
        go_wp2_with fail
        (go_at_call 14; refine (A3 _).mono ?_; rintro e w5 ⟨rfl, hb5⟩; have hc5 := (bcell hb5).1; have hf5 := (bcell hb5).2.1; have hs5 := (bcell hb5).2.2; (try simp [go_sem] at hs5); have z5_0 : w1.heap.size < w5.heap.size := (by omega); have y5_0 : (w1.heap.size = w5.heap.size) = False := eq_false (by omega); have c5_0_0 := hc5 (w1.heap.size) 0 (by first | omega | (simp; done) | (simp; omega)); have c5_0_1 := hc5 (w1.heap.size) 1 (by first | omega | (simp; done) | (simp; omega)); have c5_0_2 := hc5 (w1.heap.size) 2 (by first | omega | (simp; done) | (simp; omega)); have c5_0_3 := hc5 (w1.heap.size) 3 (by first | omega | (simp; done) | (simp; omega)); have f5_0 : ∀ i, w5.frozen? ⟨w1.heap.size, i, none⟩ = false := fun i => (hf5 (w1.heap.size) i (by first | omega | (simp; done) | (simp; omega))).trans (by simp [go_sem, *]); have z5_1 : wr.heap.size < w5.heap.size := (by omega); have y5_1 : (wr.heap.size = w5.heap.size) = False := eq_false (by omega); have c5_1_0 := hc5 (wr.heap.size) 0 (by first | omega | (simp; done) | (simp; omega)); have c5_1_1 := hc5 (wr.heap.size) 1 (by first | omega | (simp; done) | (simp; omega)); have c5_1_2 := hc5 (wr.heap.size) 2 (by first | omega | (simp; done) | (simp; omega)); have c5_1_3 := hc5 (wr.heap.size) 3 (by first | omega | (simp; done) | (simp; omega)); have c5_1_4 := hc5 (wr.heap.size) 4 (by first | omega | (simp; done) | (simp; omega)); have c5_1_5 := hc5 (wr.heap.size) 5 (by first | omega | (simp; done) | (simp; omega)); have f5_1 : ∀ i, w5.frozen? ⟨wr.heap.size, i, none⟩ = false := fun i => (hf5 (wr.heap.size) i (by first | omega | (simp; done) | (simp; omega))).trans (by simp [go_sem, *]); have z5_2 : w2.heap.size < w5.heap.size := (by omega); have y5_2 : (w2.heap.size = w5.heap.size) = False := eq_false (by omega); have c5_2_0 := hc5 (w2.heap.size) 0 (by first | omega | (simp; done) | (simp; omega)); have c5_2_1 := hc5 (w2.heap.size) 1 (by first | omega | (simp; done) | (simp; omega)); have f5_2 : ∀ i, w5.frozen? ⟨w2.heap.size, i, none⟩ = false := fun i => (hf5 (w2.heap.size) i (by first | omega | (simp; done) | (simp; omega))).trans (by simp [go_sem, *]); have z5_3 : w2.heap.size + 1 < w5.heap.size := (by omega); have y5_3 : (w2.heap.size + 1 = w5.heap.size) = False := eq_false (by omega); have c5_3_0 := hc5 (w2.heap.size + 1) 0 (by first | omega | (simp; done) | (simp; omega)); have c5_3_1 := hc5 (w2.heap.size + 1) 1 (by first | omega | (simp; done) | (simp; omega)); have c5_3_2 := hc5 (w2.heap.size + 1) 2 (by first | omega | (simp; done) | (simp; omega)); have c5_3_3 := hc5 (w2.heap.size + 1) 3 (by first | omega | (simp; done) | (simp; omega)); have f5_3 : ∀ i, w5.frozen? ⟨w2.heap.size + 1, i, none⟩ = false := fun i => (hf5 (w2.heap.size + 1) i (by first | omega | (simp; done) | (simp; omega))).trans (by simp [go_sem, *]); clear hc5 hf5; simp [go_sem, *] at c5_0_0; simp [go_sem, *] at c5_0_1; simp [go_sem, *] at c5_0_2; simp [go_sem, *] at c5_0_3; simp [go_sem, *] at c5_1_0; simp [go_sem, *] at c5_1_1; simp [go_sem, *] at c5_1_2; simp [go_sem, *] at c5_1_3; simp [go_sem, *] at c5_1_4; simp [go_sem, *] at c5_1_5; simp [go_sem, *] at c5_2_0; simp [go_sem, *] at c5_2_1; simp [go_sem, *] at c5_3_0; simp [go_sem, *] at c5_3_1; simp [go_sem, *] at c5_3_2; simp [go_sem, *] at c5_3_3; (try clear y4_0 f4_0 c4_0_0 c4_0_1 c4_0_2 c4_0_3 y4_1 f4_1 c4_1_0 c4_1_1 c4_1_2 c4_1_3 c4_1_4 c4_1_5 y4_2 f4_2 c4_2_0 c4_2_1 y4_3 f4_3 c4_3_0 c4_3_1 c4_3_2 c4_3_3))
        go_wp2_with fail
        go_roundw
        case rel => exact ⟨k + 1, now + d, reading + (x1 + x3), reading + (x1 + x3), p, q, by omega, by go_num, rfl, rfl, HR2.out, by omega, by omega, by have := Hg.out; (repeat (first | exact Below.refl _ _ | refine Below.setCell ?_ (by first | omega | (simp; done) | (simp; omega)) _ | refine Below.alloc ?_ (by first | omega | (simp; done) | (simp; omega)) _ | refine below_drewN ?_ _ | refine Below.drew ?_ | refine Below.trans ?_ (Below.mono (by assumption) (by first | omega | (simp; done) | (simp; omega))))), by simp; omega, by simp [go_sem, *], by simp [go_sem, *], by simp [go_sem, *], by simp [go_sem, *], by simp [go_sem, *]⟩
        case measure => simp [intOf]; omega
      · have hk1' : (kind == 1) = false := by simp [hk1]
        have hk2' : (kind == 2) = false := by simp [hk2]
        clear hk1 hk2 hlong
        go_wp2_with fail
        (go_at_call 14; refine (A1 _).mono ?_; rintro e w2 ⟨rfl, hb2⟩; have hc2 := (bcell hb2).1; have hf2 := (bcell hb2).2.1; have hs2 := (bcell hb2).2.2; (try simp [go_sem] at hs2); have z2_0 : w1.heap.size < w2.heap.size := (by omega); have y2_0 : (w1.heap.size = w2.heap.size) = False := eq_false (by omega); have c2_0_0 := hc2 (w1.heap.size) 0 (by first | omega | (simp; done) | (simp; omega)); have c2_0_1 := hc2 (w1.heap.size) 1 (by first | omega | (simp; done) | (simp; omega)); have c2_0_2 := hc2 (w1.heap.size) 2 (by first | omega | (simp; done) | (simp; omega)); have c2_0_3 := hc2 (w1.heap.size) 3 (by first | omega | (simp; done) | (simp; omega)); have f2_0 : ∀ i, w2.frozen? ⟨w1.heap.size, i, none⟩ = false := fun i => (hf2 (w1.heap.size) i (by first | omega | (simp; done) | (simp; omega))).trans (by simp [go_sem, *]); have z2_1 : wr.heap.size < w2.heap.size := (by omega); have y2_1 : (wr.heap.size = w2.heap.size) = False := eq_false (by omega); have c2_1_0 := hc2 (wr.heap.size) 0 (by first | omega | (simp; done) | (simp; omega)); have c2_1_1 := hc2 (wr.heap.size) 1 (by first | omega | (simp; done) | (simp; omega)); have c2_1_2 := hc2 (wr.heap.size) 2 (by first | omega | (simp; done) | (simp; omega)); have c2_1_3 := hc2 (wr.heap.size) 3 (by first | omega | (simp; done) | (simp; omega)); have c2_1_4 := hc2 (wr.heap.size) 4 (by first | omega | (simp; done) | (simp; omega)); have c2_1_5 := hc2 (wr.heap.size) 5 (by first | omega | (simp; done) | (simp; omega)); have f2_1 : ∀ i, w2.frozen? ⟨wr.heap.size, i, none⟩ = false := fun i => (hf2 (wr.heap.size) i (by first | omega | (simp; done) | (simp; omega))).trans (by simp [go_sem, *]); clear hc2 hf2; simp [go_sem, *] at c2_0_0; simp [go_sem, *] at c2_0_1; simp [go_sem, *] at c2_0_2; simp [go_sem, *] at c2_0_3; simp [go_sem, *] at c2_1_0; simp [go_sem, *] at c2_1_1; simp [go_sem, *] at c2_1_2; simp [go_sem, *] at c2_1_3; simp [go_sem, *] at c2_1_4; simp [go_sem, *] at c2_1_5; (try clear y5_0 f5_0 c5_0_0 c5_0_1 c5_0_2 c5_0_3 y5_1 f5_1 c5_1_0 c5_1_1 c5_1_2 c5_1_3 c5_1_4 c5_1_5 y5_2 f5_2 c5_2_0 c5_2_1 y5_3 f5_3 c5_3_0 c5_3_1 c5_3_2 c5_3_3))
        go_wp2_with fail
        (go_at_call 14; refine (A1 _).mono ?_; rintro e w5 ⟨rfl, hb5⟩; have hc5 := (bcell hb5).1; have hf5 := (bcell hb5).2.1; have hs5 := (bcell hb5).2.2; (try simp [go_sem] at hs5); have z5_0 : w1.heap.size < w5.heap.size := (by omega); have y5_0 : (w1.heap.size = w5.heap.size) = False := eq_false (by omega); have c5_0_0 := hc5 (w1.heap.size) 0 (by first | omega | (simp; done) | (simp; omega)); have c5_0_1 := hc5 (w1.heap.size) 1 (by first | omega | (simp; done) | (simp; omega)); have c5_0_2 := hc5 (w1.heap.size) 2 (by first | omega | (simp; done) | (simp; omega)); have c5_0_3 := hc5 (w1.heap.size) 3 (by first | omega | (simp; done) | (simp; omega)); have f5_0 : ∀ i, w5.frozen? ⟨w1.heap.size, i, none⟩ = false := fun i => (hf5 (w1.heap.size) i (by first | omega | (simp; done) | (simp; omega))).trans (by simp [go_sem, *]); have z5_1 : wr.heap.size < w5.heap.size := (by omega); have y5_1 : (wr.heap.size = w5.heap.size) = False := eq_false (by omega); have c5_1_0 := hc5 (wr.heap.size) 0 (by first | omega | (simp; done) | (simp; omega)); have c5_1_1 := hc5 (wr.heap.size) 1 (by first | omega | (simp; done) | (simp; omega)); have c5_1_2 := hc5 (wr.heap.size) 2 (by first | omega | (simp; done) | (simp; omega)); have c5_1_3 := hc5 (wr.heap.size) 3 (by first | omega | (simp; done) | (simp; omega)); have c5_1_4 := hc5 (wr.heap.size) 4 (by first | omega | (simp; done) | (simp; omega)); have c5_1_5 := hc5 (wr.heap.size) 5 (by first | omega | (simp; done) | (simp; omega)); have f5_1 : ∀ i, w5.frozen? ⟨wr.heap.size, i, none⟩ = false := fun i => (hf5 (wr.heap.size) i (by first | omega | (simp; done) | (simp; omega))).trans (by simp [go_sem, *]); have z5_2 : w2.heap.size < w5.heap.size := (by omega); have y5_2 : (w2.heap.size = w5.heap.size) = False := eq_false (by omega); have c5_2_0 := hc5 (w2.heap.size) 0 (by first | omega | (simp; done) | (simp; omega)); have c5_2_1 := hc5 (w2.heap.size) 1 (by first | omega | (simp; done) | (simp; omega)); have f5_2 : ∀ i, w5.frozen? ⟨w2.heap.size, i, none⟩ = false := fun i => (hf5 (w2.heap.size) i (by first | omega | (simp; done) | (simp; omega))).trans (by simp [go_sem, *]); have z5_3 : w2.heap.size + 1 < w5.heap.size := (by omega); have y5_3 : (w2.heap.size + 1 = w5.heap.size) = False := eq_false (by omega); have c5_3_0 := hc5 (w2.heap.size + 1) 0 (by first | omega | (simp; done) | (simp; omega)); have c5_3_1 := hc5 (w2.heap.size + 1) 1 (by first | omega | (simp; done) | (simp; omega)); have c5_3_2 := hc5 (w2.heap.size + 1) 2 (by first | omega | (simp; done) | (simp; omega)); have c5_3_3 := hc5 (w2.heap.size + 1) 3 (by first | omega | (simp; done) | (simp; omega)); have f5_3 : ∀ i, w5.frozen? ⟨w2.heap.size + 1, i, none⟩ = false := fun i => (hf5 (w2.heap.size + 1) i (by first | omega | (simp; done) | (simp; omega))).trans (by simp [go_sem, *]); clear hc5 hf5; simp [go_sem, *] at c5_0_0; simp [go_sem, *] at c5_0_1; simp [go_sem, *] at c5_0_2; simp [go_sem, *] at c5_0_3; simp [go_sem, *] at c5_1_0; simp [go_sem, *] at c5_1_1; simp [go_sem, *] at c5_1_2; simp [go_sem, *] at c5_1_3; simp [go_sem, *] at c5_1_4; simp [go_sem, *] at c5_1_5; simp [go_sem, *] at c5_2_0; simp [go_sem, *] at c5_2_1; simp [go_sem, *] at c5_3_0; simp [go_sem, *] at c5_3_1; simp [go_sem, *] at c5_3_2; simp [go_sem, *] at c5_3_3; (try clear y2_0 f2_0 c2_0_0 c2_0_1 c2_0_2 c2_0_3 y2_1 f2_1 c2_1_0 c2_1_1 c2_1_2 c2_1_3 c2_1_4 c2_1_5))
        go_wp2_with fail
        go_roundw
        case rel => exact ⟨k + 1, now + d, reading + (x1 + x3), l, a, b, by omega, by go_num, rfl, rfl, HR1.out, by omega, by omega, by have := Hg.out; (repeat (first | exact Below.refl _ _ | refine Below.setCell ?_ (by first | omega | (simp; done) | (simp; omega)) _ | refine Below.alloc ?_ (by first | omega | (simp; done) | (simp; omega)) _ | refine below_drewN ?_ _ | refine Below.drew ?_ | refine Below.trans ?_ (Below.mono (by assumption) (by first | omega | (simp; done) | (simp; omega))))), by simp; omega, by simp [go_sem, *], by simp [go_sem, *], by simp [go_sem, *], by simp [go_sem, *], by simp [go_sem, *]⟩
        case measure => simp [intOf]; omega
    · clear HS0 HR0 A0
      go_wp2_with fail
      (go_at_call 12; refine (sanity_any _).mono ?_; rintro e w2 ⟨rfl, hb2⟩; have hc2 := (bcell hb2).1; have hf2 := (bcell hb2).2.1; have hs2 := (bcell hb2).2.2; (try simp [go_sem] at hs2); clear hc2 hf2; (try clear y5_0 f5_0 c5_0_0 c5_0_1 c5_0_2 c5_0_3 y5_1 f5_1 c5_1_0 c5_1_1 c5_1_2 c5_1_3 c5_1_4 c5_1_5 y5_2 f5_2 c5_2_0 c5_2_1 y5_3 f5_3 c5_3_0 c5_3_1 c5_3_2 c5_3_3))
      go_wp2_with fail
      go_ret
      refine ⟨rfl, ?_⟩
      (repeat (first | exact Below.refl _ _ | refine Below.setCell ?_ (by first | omega | (simp; done) | (simp; omega)) _ | refine Below.alloc ?_ (by first | omega | (simp; done) | (simp; omega)) _ | refine below_drewN ?_ _ | refine Below.drew ?_ | refine Below.trans ?_ (Below.mono (by assumption) (by first | omega | (simp; done) | (simp; omega)))))
theorem right_walk (r l t e f : Int) (v : Value) (xs : List Stp) (w : World) (hS : Steps w v xs) (hm : xs.length ≤ 9223372036854775807) (hr : 0 ≤ r ∧ r ≤ 4294967295) (hl : 0 ≤ l ∧ l ≤ 4294967295) (ht : 0 ≤ t ∧ t ≤ 4294967295) (he : 0 ≤ e ∧ e ≤ 65535) (hf : 0 ≤ f ∧ f ≤ 65535) :
    Calls Try.prog 7 #[.int .u32 r, .int .u32 l, .int .u32 t, .int .u16 e, .int .u16 f, v] w fun e w' => e = .returned (.bool true) ∧ Below w.heap.size w w' := by
  rcases Nat.lt_or_ge 12 xs.length with h | h
  · obtain ⟨a, cap, rfl, hS⟩ := hS
    exact right_many a cap xs.length r l t e f w h hr hl ht he hf
  · exact right_few v xs r l t e f w hS h hr hl ht he hf
theorem right_lifted (os : Os) (started : os.Started) (H : Type) (enc : TypeId × Value → H) :
    ReturnsInHanded {} Try.checked os 7 .any (Rows.clockIsRightSpec.pre6 enc Try.prog Try.f7 Rows.clockIsRightRow.domain false) (Rows.clockIsRightSpec.post enc Try.prog Try.f7 false true false false) := by
  refine returnsInHanded_of_change (C := Try.checked) Try.own started (by kernel_rfl) Try.func7
    (ChangeSpec.witness6 (enc := enc) (C := Try.checked) false ⟨#[], #[.int .u32 0, .int .u32 0, .int .u32 0, .int .u16 0, .int .u16 0, .slice none 0 0], []⟩ 8 (by kernel_rfl) (by kernel_rfl) (by kernel_rfl) (by kernel_rfl)) ?_
  intro W base args ds gs before hval0 hW hcnd _
  have hval : ∀ (j : Nat) t v, Try.f7.params[j]? = some t → args[j]? = some v → Value.okWide Try.prog W .any base t v := hval0
  have hW' := hW
  obtain ⟨p, q, hA0, hV, rfl, hfz, hnd⟩ := hW
  have hA : DataW.TrodAll enc Try.prog W 0 (fun _ => true) true Try.f7.params.toList args.toList ds p := hA0
  rw [Try.params7] at hA hval
  have hAk := hA
  obtain ⟨v0, vs0, d0, ds0, p0, q0, hargs, rfl, rfl, h0, r0⟩ := trodAll_cons hA
  obtain ⟨v1, vs1, d1, ds1, p1, q1, rfl, rfl, rfl, h1, r1⟩ := trodAll_cons r0
  obtain ⟨v2, vs2, d2, ds2, p2, q2, rfl, rfl, rfl, h2, r2⟩ := trodAll_cons r1
  obtain ⟨v3, vs3, d3, ds3, p3, q3, rfl, rfl, rfl, h3, r3⟩ := trodAll_cons r2
  obtain ⟨v4, vs4, d4, ds4, p4, q4, rfl, rfl, rfl, h4, r4⟩ := trodAll_cons r3
  obtain ⟨v5, vs5, d5, ds5, p5, q5, rfl, rfl, rfl, h5, r5⟩ := trodAll_cons r4
  obtain ⟨rfl, rfl, rfl⟩ := trodAll_nil r5
  obtain rfl : args = #[v0, v1, v2, v3, v4, v5] := by cases args; simp_all
  obtain ⟨rfl, rfl⟩ := trodVars_none hV
  obtain ⟨r, rfl, _, _, w0⟩ := open_int Try.underlying49 (hval 0 49 v0 rfl rfl) h0
  obtain ⟨l, rfl, _, _, w1⟩ := open_int Try.underlying49 (hval 1 49 v1 rfl rfl) h1
  obtain ⟨t, rfl, _, _, w2⟩ := open_int Try.underlying49 (hval 2 49 v2 rfl rfl) h2
  obtain ⟨e, rfl, _, _, w3⟩ := open_int Try.underlying50 (hval 3 50 v3 rfl rfl) h3
  obtain ⟨f, rfl, _, _, w4⟩ := open_int Try.underlying50 (hval 4 50 v4 rfl rfl) h4
  obtain ⟨xs, hS, hm⟩ := open_steps (hval 5 51 v5 rfl rfl) h5
  clear hA0 hval0
  simp only [List.append_nil] at hW'
  refine (right_walk r l t e f v5 xs W hS hm (bounds_u32 w0) (bounds_u32 w1) (bounds_u32 w2) (bounds_u16 w3) (bounds_u16 w4)).mono fun e W' ⟨he, hb⟩ => ?_
  subst he
  refine ⟨_, rfl, _, _, _, [], _, [], hW', trodAll_mk1 (shut_bool Try.underlying4 _), trodAll_stays ?_ hAk hb ?_, rfl, hb.frame _, fun h => by cases h⟩
  · intro t ht
    have ht' : t = 49 ∨ t = 50 ∨ t = 51 := by simpa using ht
    rcases ht' with rfl | rfl | rfl
    · exact ⟨by kernel_rfl, of_decide_eq_true (by kernel_rfl)⟩
    · exact ⟨by kernel_rfl, of_decide_eq_true (by kernel_rfl)⟩
    · exact ⟨by kernel_rfl, of_decide_eq_true (by kernel_rfl)⟩
  · intro x hx; exact hW'.lt x (by simpa using hx)

/-- the statement -/
theorem right_holds : Rows.ClockIsRightSaid :=
  OpenClaim.holds_of_wide 7 Try.f7 rfl rfl rfl rfl rfl rfl rfl ⟨rfl, rfl, rfl, rfl, rfl⟩ rfl rfl rfl rfl rfl (by kernel_rfl) Try.func7 (by kernel_rfl)
    (of_decide_eq_true (by kernel_rfl)) (by unfold Func.isWrapper; first | (rw [if_pos (by decide +kernel)]; kernel_rfl) | (rw [if_neg (by decide +kernel)]; exact ⟨rfl, rfl⟩))
    (fun os started H enc _ => right_lifted os started H enc)
end Go.Proofs.Ythebnpophckgcaa
