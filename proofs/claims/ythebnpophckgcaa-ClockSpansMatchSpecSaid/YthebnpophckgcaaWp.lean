/-
  The walk of the reference's Order.
-/
import Derived.Test.YthebnpophckgcaaWj
namespace Go.Proofs.Ythebnpophckgcaa
open Go.RowKit
set_option linter.unusedSimpArgs false
set_option linter.unusedVariables false
set_option maxHeartbeats 2000000
theorem rbefore_eq {a b c d : Int} {v : Bool} (h : decide (b < c) = v) (w : World) : Calls Try.prog 26 #[sp a b, sp c d] w fun e w' => e = .returned (.bool v) ∧ Below w.heap.size w w' := by
  have := rbefore_any a b c d w; rw [h] at this; exact this
/-- whether a pair is direct, as far as some of the spans are looked at -/
def dirF (l : List (Int × Int)) (i j n : Nat) : Bool := decide ((l.getD i (0, 0)).2 < (l.getD j (0, 0)).1) && !betw (l.take n) (l.getD i (0, 0)) (l.getD j (0, 0))
theorem dir_zero (l : List (Int × Int)) (i j : Nat) : dirF l i j 0 = decide ((l.getD i (0, 0)).2 < (l.getD j (0, 0)).1) := by simp [dirF, betw]
theorem dir_end (l : List (Int × Int)) (i j : Nat) : dirF l i j l.length = ordC l i j := by simp [dirF, ordC]
theorem dir_succ {l : List (Int × Int)} {i j n : Nat} (h : n < l.length) : dirF l i j (n + 1) = (dirF l i j n && !(decide ((l.getD i (0, 0)).2 < (l.getD n (0, 0)).1) && decide ((l.getD n (0, 0)).2 < (l.getD j (0, 0)).1))) := by
  unfold dirF betw
  rw [List.take_succ_eq_append_getElem h, List.any_append]
  have hn : l.getD n (0, 0) = l[n] := by simp [List.getD, h]
  rw [hn]
  simp only [List.any_cons, List.any_nil, Bool.or_false, Bool.not_or, Bool.and_assoc]
theorem rorder_cells (l : List (Int × Int)) (b off cap : Nat) (w : World) (hS : SpanCells w b off l) (hm : l.length ≤ 1000) :
    Calls Try.prog 34 #[.slice (some ⟨b, off, none⟩) l.length cap] w fun e w' => ∃ u, e = .returned u ∧ Pairs w' w.heap.size u (ordF l) ∧ Below w.heap.size w w' := by
  obtain ⟨i0, hi, hz0, hz1, hz2⟩ := info_parts Try.info59
  go_enter Try.func34, Try.ntmps34
  go_wp2_with fail
  go_loopw [3, 4] (fun o i wr => ∃ k : Nat, k ≤ l.length ∧ i = .int .i64 k ∧ Grew w wr ∧ wr.ownsRow w.heap.size 59 2 o (ordP l k).length (flatP (ordP l k))) (fun _ i _ => l.length - (intOf i).toNat)
  case atStart => exact ⟨0, Nat.zero_le _, rfl, Below.refl _ _, World.ownsRow_nil _ _ _ _⟩
  case round =>
    obtain ⟨k, hk, rfl, hg, hown⟩ := hrel
    by_cases hlt : k < l.length
    · have HO := Lib.hid hown; clear hown
      have Hg := Lib.hid hg; clear hg
      obtain ⟨k1, hk1⟩ : ∃ v, (l.getD k (0, 0)).1 = v := ⟨_, rfl⟩
      obtain ⟨k2, hk2⟩ : ∃ v, (l.getD k (0, 0)).2 = v := ⟨_, rfl⟩
      go_wp2_with fail
      go_loopw [3, 5] (fun o i w2 => ∃ m : Nat, m ≤ l.length ∧ i = .int .i64 m ∧ Grew w w2 ∧ w2.ownsRow w.heap.size 59 2 o (ordP l k ++ rowP l k m).length (flatP (ordP l k ++ rowP l k m))) (fun _ i _ => l.length - (intOf i).toNat)
      case atStart => exact ⟨0, Nat.zero_le _, rfl, Hg.out, by rw [rowP_zero, List.append_nil]; exact HO.out⟩
      case round =>
        obtain ⟨m, hm', rfl, hg2, hown2⟩ := hrel
        obtain ⟨w2, rfl⟩ : ∃ wq : World, wq = wr := ⟨_, rfl⟩
        have HO2 := Lib.hid hown2; clear hown2
        have Hg2 := Lib.hid hg2; clear hg2
        by_cases hlt2 : m < l.length
        · obtain ⟨m1, hm1⟩ : ∃ v, (l.getD m (0, 0)).1 = v := ⟨_, rfl⟩
          obtain ⟨m2, hm2⟩ : ∃ v, (l.getD m (0, 0)).2 = v := ⟨_, rfl⟩
          have hS2 := hS.grow Hg2.out
          have hbw := hS2.1
          have e1 := (hS2.2 k hlt).1
          have e2 := (hS2.2 k hlt).2
          have e3 := (hS2.2 m hlt2).1
          have e4 := (hS2.2 m hlt2).2
          rw [hk1] at e1
          rw [hk2] at e2
          rw [hm1] at e3
          rw [hm2] at e4
          have HS2 := Lib.hid hS2; clear hS2
          have HS := Lib.hid hS; clear hS
          go_wp2_with fail
          refine wp_region_ext (by kernel_rfl) ?_
          refine wpE_yes (i := 0) rfl (by kernel_rfl) (by kernel_rfl) (by kernel_rfl) (fun _ _ _ _ h => h) (by rfl) ?_; apply Exists.intro; refine ⟨fun w' hw' => ?_, ?_⟩
          · (have hcw := (bcell hw').1; have hfw := (bcell hw').2.1; go_simp; (try simp (disch := omega) only [IntWalk.i64_quo, IntWalk.i64_in, IntWalk.rem_in]); exact calm_value)
          simp only [Act.put, List.setIfInBounds_toArray, List.set_cons_zero, List.set_cons_succ]
          refine wpE_yes (i := 1) rfl (by kernel_rfl) (by kernel_rfl) (by kernel_rfl) (fun _ _ _ _ h => h) (by rfl) ?_; apply Exists.intro; refine ⟨fun w' hw' => ?_, ?_⟩
          · (have hcw := (bcell hw').1; have hfw := (bcell hw').2.1; go_simp; (try simp (disch := omega) only [IntWalk.i64_quo, IntWalk.i64_in, IntWalk.rem_in]); exact calm_value)
          simp only [Act.put, List.setIfInBounds_toArray, List.set_cons_zero, List.set_cons_succ]
          refine wpE_yes (i := 2) rfl (by kernel_rfl) (by kernel_rfl) (by kernel_rfl) (fun _ _ _ _ h => h) (by rfl) ?_; apply Exists.intro; refine ⟨fun w' hw' => ?_, ?_⟩
          · (have hcw := (bcell hw').1; have hfw := (bcell hw').2.1; go_simp; (try simp (disch := omega) only [IntWalk.i64_quo, IntWalk.i64_in, IntWalk.rem_in]); exact calm_value)
          simp only [Act.put, List.setIfInBounds_toArray, List.set_cons_zero, List.set_cons_succ]
          refine wpE_yes (i := 3) rfl (by kernel_rfl) (by kernel_rfl) (by kernel_rfl) (fun _ _ _ _ h => h) (by rfl) ?_; apply Exists.intro; refine ⟨fun w' hw' => ?_, ?_⟩
          · (have hcw := (bcell hw').1; have hfw := (bcell hw').2.1; go_simp; (try simp (disch := omega) only [IntWalk.i64_quo, IntWalk.i64_in, IntWalk.rem_in]); exact calm_value)
          simp only [Act.put, List.setIfInBounds_toArray, List.set_cons_zero, List.set_cons_succ]
          refine wpE_yes (i := 4) rfl (by kernel_rfl) (by kernel_rfl) (by kernel_rfl) (fun _ _ _ _ h => h) (by rfl) ?_; apply Exists.intro; refine ⟨fun w' hw' => ?_, ?_⟩
          · (have hcw := (bcell hw').1; have hfw := (bcell hw').2.1; go_simp; (try simp (disch := omega) only [IntWalk.i64_quo, IntWalk.i64_in, IntWalk.rem_in]); exact calm_value)
          simp only [Act.put, List.setIfInBounds_toArray, List.set_cons_zero, List.set_cons_succ]
          refine wpE_yes (i := 5) rfl (by kernel_rfl) (by kernel_rfl) (by kernel_rfl) (fun _ _ _ _ h => h) (by rfl) ?_; apply Exists.intro; refine ⟨fun w' hw' => ?_, ?_⟩
          · (have hcw := (bcell hw').1; have hfw := (bcell hw').2.1; go_simp; (try simp (disch := omega) only [IntWalk.i64_quo, IntWalk.i64_in, IntWalk.rem_in]); exact calm_value)
          simp only [Act.put, List.setIfInBounds_toArray, List.set_cons_zero, List.set_cons_succ]
          refine wpE_yes (i := 6) rfl (by kernel_rfl) (by kernel_rfl) (by kernel_rfl) (fun _ _ _ _ h => h) (by rfl) ?_; apply Exists.intro; refine ⟨fun w' hw' => ?_, ?_⟩
          · (have hcw := (bcell hw').1; have hfw := (bcell hw').2.1; go_simp; (try simp (disch := omega) only [IntWalk.i64_quo, IntWalk.i64_in, IntWalk.rem_in]); exact calm_value)
          simp only [Act.put, List.setIfInBounds_toArray, List.set_cons_zero, List.set_cons_succ]
          refine wpE_yes (i := 7) rfl (by kernel_rfl) (by kernel_rfl) (by kernel_rfl) (fun _ _ _ _ h => h) (by rfl) ?_; apply Exists.intro; refine ⟨fun w' hw' => ?_, ?_⟩
          · (have hcw := (bcell hw').1; have hfw := (bcell hw').2.1; go_simp; (try simp (disch := omega) only [IntWalk.i64_quo, IntWalk.i64_in, IntWalk.rem_in]); exact calm_value)
          simp only [Act.put, List.setIfInBounds_toArray, List.set_cons_zero, List.set_cons_succ]
          refine wpE_yes (i := 8) rfl (by kernel_rfl) (by kernel_rfl) (by kernel_rfl) (fun _ _ _ _ h => h) (by rfl) ?_; apply Exists.intro; refine ⟨fun w' hw' => ?_, ?_⟩
          · (have hcw := (bcell hw').1; have hfw := (bcell hw').2.1; go_simp; exact calm_call (rbefore_eq rfl _) (fun _ hb => Grew.trans hw' hb))
          simp only [Act.put, List.setIfInBounds_toArray, List.set_cons_zero, List.set_cons_succ]
          refine wpE_yes (i := 9) rfl (by kernel_rfl) (by kernel_rfl) (by kernel_rfl) (fun _ _ _ _ h => h) (by rfl) ?_; apply Exists.intro; refine ⟨fun w' hw' => ?_, ?_⟩
          · (have hcw := (bcell hw').1; have hfw := (bcell hw').2.1; go_simp; (try simp (disch := omega) only [IntWalk.i64_quo, IntWalk.i64_in, IntWalk.rem_in]); exact calm_value)
          simp only [Act.put, List.setIfInBounds_toArray, List.set_cons_zero, List.set_cons_succ]
          refine wpE_done (by kernel_rfl) (fun w1 hb1 hC1 => ?_) _
          (have hc1 := (bcell hb1).1; have hf1 := (bcell hb1).2.1; have hs1 := (bcell hb1).2.2; (try simp [go_sem] at hs1); clear hc1 hf1)
          clear hC1
          clear e1 e2 e3 e4
          go_wp2_with fail
          go_loopw [6, 7] (fun d i w3 => ∃ (n : Nat) (dv : Bool), n ≤ l.length ∧ i = .int .i64 n ∧ d = .bool dv ∧ dirF l k m n = dv ∧ Grew w1 w3) (fun _ i _ => l.length - (intOf i).toNat)
          case atStart => exact ⟨0, decide (k2 < m1), Nat.zero_le _, rfl, rfl, by rw [dir_zero, hk2, hm1], Below.refl _ _⟩
          case round =>
            obtain ⟨n, dv, hn, rfl, rfl, hdir, hg3⟩ := hrel
            by_cases hlt3 : n < l.length
            · obtain ⟨n1, hn1⟩ : ∃ v, (l.getD n (0, 0)).1 = v := ⟨_, rfl⟩
              obtain ⟨n2, hn2⟩ : ∃ v, (l.getD n (0, 0)).2 = v := ⟨_, rfl⟩
              have hS3 := (HS2.out.grow hb1).grow hg3
              have hbw3 := hS3.1
              have e1 := (hS3.2 k hlt).1
              have e2 := (hS3.2 k hlt).2
              have e3 := (hS3.2 m hlt2).1
              have e4 := (hS3.2 m hlt2).2
              have e5 := (hS3.2 n hlt3).1
              have e6 := (hS3.2 n hlt3).2
              rw [hk1] at e1
              rw [hk2] at e2
              rw [hm1] at e3
              rw [hm2] at e4
              rw [hn1] at e5
              rw [hn2] at e6
              have HS3 := Lib.hid hS3; clear hS3
              have hd2 := dir_succ (i := k) (j := m) hlt3
              rw [hdir, hk2, hn1, hn2, hm1] at hd2
              have HD := Lib.hid hdir; clear hdir
              have Hg3 := Lib.hid hg3; clear hg3
              obtain ⟨o1, ho1⟩ : ∃ v, decide (k2 < n1) = v := ⟨_, rfl⟩
              obtain ⟨o2, ho2⟩ : ∃ v, decide (n2 < m1) = v := ⟨_, rfl⟩
              rw [ho1, ho2] at hd2
              have HD2 := Lib.hid hd2; clear hd2
              have R1 := fun w => rbefore_eq (a := k1) (d := n2) ho1 w
              have R2 := fun w => rbefore_eq (a := n1) (d := m2) ho2 w
              clear ho1 ho2
              go_wp2_with fail
              refine wp_region_ext (by kernel_rfl) ?_
              refine wpE_yes (i := 0) rfl (by kernel_rfl) (by kernel_rfl) (by kernel_rfl) (fun _ _ _ _ h => h) (by rfl) ?_; apply Exists.intro; refine ⟨fun w' hw' => ?_, ?_⟩
              · (have hcw := (bcell hw').1; have hfw := (bcell hw').2.1; go_simp; (try simp (disch := omega) only [IntWalk.i64_quo, IntWalk.i64_in, IntWalk.rem_in]); exact calm_value)
              simp only [Act.put, List.setIfInBounds_toArray, List.set_cons_zero, List.set_cons_succ]
              refine wpE_yes (i := 1) rfl (by kernel_rfl) (by kernel_rfl) (by kernel_rfl) (fun _ _ _ _ h => h) (by rfl) ?_; apply Exists.intro; refine ⟨fun w' hw' => ?_, ?_⟩
              · (have hcw := (bcell hw').1; have hfw := (bcell hw').2.1; go_simp; (try simp (disch := omega) only [IntWalk.i64_quo, IntWalk.i64_in, IntWalk.rem_in]); exact calm_value)
              simp only [Act.put, List.setIfInBounds_toArray, List.set_cons_zero, List.set_cons_succ]
              refine wpE_yes (i := 2) rfl (by kernel_rfl) (by kernel_rfl) (by kernel_rfl) (fun _ _ _ _ h => h) (by rfl) ?_; apply Exists.intro; refine ⟨fun w' hw' => ?_, ?_⟩
              · (have hcw := (bcell hw').1; have hfw := (bcell hw').2.1; go_simp; (try simp (disch := omega) only [IntWalk.i64_quo, IntWalk.i64_in, IntWalk.rem_in]); exact calm_value)
              simp only [Act.put, List.setIfInBounds_toArray, List.set_cons_zero, List.set_cons_succ]
              refine wpE_yes (i := 3) rfl (by kernel_rfl) (by kernel_rfl) (by kernel_rfl) (fun _ _ _ _ h => h) (by rfl) ?_; apply Exists.intro; refine ⟨fun w' hw' => ?_, ?_⟩
              · (have hcw := (bcell hw').1; have hfw := (bcell hw').2.1; go_simp; (try simp (disch := omega) only [IntWalk.i64_quo, IntWalk.i64_in, IntWalk.rem_in]); exact calm_value)
              simp only [Act.put, List.setIfInBounds_toArray, List.set_cons_zero, List.set_cons_succ]
              refine wpE_yes (i := 4) rfl (by kernel_rfl) (by kernel_rfl) (by kernel_rfl) (fun _ _ _ _ h => h) (by rfl) ?_; apply Exists.intro; refine ⟨fun w' hw' => ?_, ?_⟩
              · (have hcw := (bcell hw').1; have hfw := (bcell hw').2.1; go_simp; (try simp (disch := omega) only [IntWalk.i64_quo, IntWalk.i64_in, IntWalk.rem_in]); exact calm_value)
              simp only [Act.put, List.setIfInBounds_toArray, List.set_cons_zero, List.set_cons_succ]
              refine wpE_yes (i := 5) rfl (by kernel_rfl) (by kernel_rfl) (by kernel_rfl) (fun _ _ _ _ h => h) (by rfl) ?_; apply Exists.intro; refine ⟨fun w' hw' => ?_, ?_⟩
              · (have hcw := (bcell hw').1; have hfw := (bcell hw').2.1; go_simp; (try simp (disch := omega) only [IntWalk.i64_quo, IntWalk.i64_in, IntWalk.rem_in]); exact calm_value)
              simp only [Act.put, List.setIfInBounds_toArray, List.set_cons_zero, List.set_cons_succ]
              refine wpE_yes (i := 6) rfl (by kernel_rfl) (by kernel_rfl) (by kernel_rfl) (fun _ _ _ _ h => h) (by rfl) ?_; apply Exists.intro; refine ⟨fun w' hw' => ?_, ?_⟩
              · (have hcw := (bcell hw').1; have hfw := (bcell hw').2.1; go_simp; (try simp (disch := omega) only [IntWalk.i64_quo, IntWalk.i64_in, IntWalk.rem_in]); exact calm_value)
              simp only [Act.put, List.setIfInBounds_toArray, List.set_cons_zero, List.set_cons_succ]
              refine wpE_yes (i := 7) rfl (by kernel_rfl) (by kernel_rfl) (by kernel_rfl) (fun _ _ _ _ h => h) (by rfl) ?_; apply Exists.intro; refine ⟨fun w' hw' => ?_, ?_⟩
              · (have hcw := (bcell hw').1; have hfw := (bcell hw').2.1; go_simp; (try simp (disch := omega) only [IntWalk.i64_quo, IntWalk.i64_in, IntWalk.rem_in]); exact calm_value)
              simp only [Act.put, List.setIfInBounds_toArray, List.set_cons_zero, List.set_cons_succ]
              refine wpE_yes (i := 8) rfl (by kernel_rfl) (by kernel_rfl) (by kernel_rfl) (fun _ _ _ _ h => h) (by rfl) ?_; apply Exists.intro; refine ⟨fun w' hw' => ?_, ?_⟩
              · (have hcw := (bcell hw').1; have hfw := (bcell hw').2.1; go_simp; exact calm_call (R1 _) (fun _ hb => Grew.trans hw' hb))
              simp only [Act.put, List.setIfInBounds_toArray, List.set_cons_zero, List.set_cons_succ]
              refine wpE_yes (i := 9) rfl (by kernel_rfl) (by kernel_rfl) (by kernel_rfl) (fun _ _ _ _ h => h) (by rfl) ?_; apply Exists.intro; refine ⟨fun w' hw' => ?_, ?_⟩
              · (have hcw := (bcell hw').1; have hfw := (bcell hw').2.1; go_simp; (try simp (disch := omega) only [IntWalk.i64_quo, IntWalk.i64_in, IntWalk.rem_in]); exact calm_value)
              simp only [Act.put, List.setIfInBounds_toArray, List.set_cons_zero, List.set_cons_succ]
              refine wpE_done (by kernel_rfl) (fun w2 hb2 hC2 => ?_) _
              (have hc2 := (bcell hb2).1; have hf2 := (bcell hb2).2.1; have hs2 := (bcell hb2).2.2; (try simp [go_sem] at hs2); clear hc2 hf2)
              clear hC2
              have hS4 := HS3.out.grow hb2
              have hbw4 := hS4.1
              have f1 := (hS4.2 n hlt3).1
              have f2 := (hS4.2 n hlt3).2
              have f3 := (hS4.2 m hlt2).1
              have f4 := (hS4.2 m hlt2).2
              rw [hn1] at f1
              rw [hn2] at f2
              rw [hm1] at f3
              rw [hm2] at f4
              clear hS4 e1 e2 e3 e4 e5 e6
              go_wp2_with fail
              refine wp_region_ext (by kernel_rfl) ?_
              refine wpE_yes (i := 0) rfl (by kernel_rfl) (by kernel_rfl) (by kernel_rfl) (fun _ _ _ _ h => h) (by rfl) ?_; apply Exists.intro; refine ⟨fun w' hw' => ?_, ?_⟩
              · (have hcw := (bcell hw').1; have hfw := (bcell hw').2.1; go_simp; (try simp (disch := omega) only [IntWalk.i64_quo, IntWalk.i64_in, IntWalk.rem_in]); exact calm_value)
              simp only [Act.put, List.setIfInBounds_toArray, List.set_cons_zero, List.set_cons_succ]
              refine wpE_yes (i := 1) rfl (by kernel_rfl) (by kernel_rfl) (by kernel_rfl) (fun _ _ _ _ h => h) (by rfl) ?_; apply Exists.intro; refine ⟨fun w' hw' => ?_, ?_⟩
              · (have hcw := (bcell hw').1; have hfw := (bcell hw').2.1; go_simp; (try simp (disch := omega) only [IntWalk.i64_quo, IntWalk.i64_in, IntWalk.rem_in]); exact calm_value)
              simp only [Act.put, List.setIfInBounds_toArray, List.set_cons_zero, List.set_cons_succ]
              refine wpE_yes (i := 2) rfl (by kernel_rfl) (by kernel_rfl) (by kernel_rfl) (fun _ _ _ _ h => h) (by rfl) ?_; apply Exists.intro; refine ⟨fun w' hw' => ?_, ?_⟩
              · (have hcw := (bcell hw').1; have hfw := (bcell hw').2.1; go_simp; (try simp (disch := omega) only [IntWalk.i64_quo, IntWalk.i64_in, IntWalk.rem_in]); exact calm_value)
              simp only [Act.put, List.setIfInBounds_toArray, List.set_cons_zero, List.set_cons_succ]
              refine wpE_yes (i := 3) rfl (by kernel_rfl) (by kernel_rfl) (by kernel_rfl) (fun _ _ _ _ h => h) (by rfl) ?_; apply Exists.intro; refine ⟨fun w' hw' => ?_, ?_⟩
              · (have hcw := (bcell hw').1; have hfw := (bcell hw').2.1; go_simp; (try simp (disch := omega) only [IntWalk.i64_quo, IntWalk.i64_in, IntWalk.rem_in]); exact calm_value)
              simp only [Act.put, List.setIfInBounds_toArray, List.set_cons_zero, List.set_cons_succ]
              refine wpE_yes (i := 4) rfl (by kernel_rfl) (by kernel_rfl) (by kernel_rfl) (fun _ _ _ _ h => h) (by rfl) ?_; apply Exists.intro; refine ⟨fun w' hw' => ?_, ?_⟩
              · (have hcw := (bcell hw').1; have hfw := (bcell hw').2.1; go_simp; (try simp (disch := omega) only [IntWalk.i64_quo, IntWalk.i64_in, IntWalk.rem_in]); exact calm_value)
              simp only [Act.put, List.setIfInBounds_toArray, List.set_cons_zero, List.set_cons_succ]
              refine wpE_yes (i := 5) rfl (by kernel_rfl) (by kernel_rfl) (by kernel_rfl) (fun _ _ _ _ h => h) (by rfl) ?_; apply Exists.intro; refine ⟨fun w' hw' => ?_, ?_⟩
              · (have hcw := (bcell hw').1; have hfw := (bcell hw').2.1; go_simp; (try simp (disch := omega) only [IntWalk.i64_quo, IntWalk.i64_in, IntWalk.rem_in]); exact calm_value)
              simp only [Act.put, List.setIfInBounds_toArray, List.set_cons_zero, List.set_cons_succ]
              refine wpE_yes (i := 6) rfl (by kernel_rfl) (by kernel_rfl) (by kernel_rfl) (fun _ _ _ _ h => h) (by rfl) ?_; apply Exists.intro; refine ⟨fun w' hw' => ?_, ?_⟩
              · (have hcw := (bcell hw').1; have hfw := (bcell hw').2.1; go_simp; (try simp (disch := omega) only [IntWalk.i64_quo, IntWalk.i64_in, IntWalk.rem_in]); exact calm_value)
              simp only [Act.put, List.setIfInBounds_toArray, List.set_cons_zero, List.set_cons_succ]
              refine wpE_yes (i := 7) rfl (by kernel_rfl) (by kernel_rfl) (by kernel_rfl) (fun _ _ _ _ h => h) (by rfl) ?_; apply Exists.intro; refine ⟨fun w' hw' => ?_, ?_⟩
              · (have hcw := (bcell hw').1; have hfw := (bcell hw').2.1; go_simp; (try simp (disch := omega) only [IntWalk.i64_quo, IntWalk.i64_in, IntWalk.rem_in]); exact calm_value)
              simp only [Act.put, List.setIfInBounds_toArray, List.set_cons_zero, List.set_cons_succ]
              refine wpE_yes (i := 8) rfl (by kernel_rfl) (by kernel_rfl) (by kernel_rfl) (fun _ _ _ _ h => h) (by rfl) ?_; apply Exists.intro; refine ⟨fun w' hw' => ?_, ?_⟩
              · (have hcw := (bcell hw').1; have hfw := (bcell hw').2.1; go_simp; exact calm_call (R2 _) (fun _ hb => Grew.trans hw' hb))
              simp only [Act.put, List.setIfInBounds_toArray, List.set_cons_zero, List.set_cons_succ]
              refine wpE_yes (i := 9) rfl (by kernel_rfl) (by kernel_rfl) (by kernel_rfl) (fun _ _ _ _ h => h) (by rfl) ?_; apply Exists.intro; refine ⟨fun w' hw' => ?_, ?_⟩
              · (have hcw := (bcell hw').1; have hfw := (bcell hw').2.1; go_simp; (try simp (disch := omega) only [IntWalk.i64_quo, IntWalk.i64_in, IntWalk.rem_in]); exact calm_value)
              simp only [Act.put, List.setIfInBounds_toArray, List.set_cons_zero, List.set_cons_succ]
              refine wpE_done (by kernel_rfl) (fun w3 hb3 hC3 => ?_) _
              (have hc3 := (bcell hb3).1; have hf3 := (bcell hb3).2.1; have hs3 := (bcell hb3).2.2; (try simp [go_sem] at hs3); clear hc3 hf3)
              clear hC3
              clear f1 f2 f3 f4
              cases dv <;> cases o1 <;> cases o2
              all_goals
                go_wp2_with fail
                go_roundw
                case rel => exact ⟨n + 1, _, by omega, by go_num, rfl, HD2.out, Grew.trans Hg3.out (Grew.trans hb2 hb3)⟩
                case measure => simp [intOf]; omega
            · have hnl : n = l.length := by omega
              subst hnl
              rw [dir_end] at hdir
              have HG := Lib.hid (Grew.trans hb1 hg3); clear hg3
              cases dv
              · go_wp2_with fail
                go_roundw
                case rel => exact ⟨m + 1, by omega, by go_num, Grew.trans Hg2.out HG.out, by rw [rowP_no hdir]; exact ownsRow_grow HO2.out HG.out⟩
                case measure => simp [intOf]; omega
              · have HDR := Lib.hid hdir; clear hdir
                have hgw2 : Grew w2 (wr.alloc (.cells #[.int .i64 k, .int .i64 m] 59)) := Grew.trans HG.out (bl1 _ _)
                have HOW := Lib.hid (ownsRow_grow HO2.out hgw2); clear HO2
                have Hn := Lib.hid (ordP_len l k)
                have hl1 : (ordP l k ++ rowP l k m).length ≤ 1001000 := by
                  have h1 := rowP_len l k m
                  have h2 := Nat.mul_le_mul (show k ≤ 1000 by omega) (show l.length ≤ 1000 by omega)
                  have h3 := Hn.out
                  rw [List.length_append]; omega
                have hq1 := Hg2.out.size
                have hq2 := HG.out.size
                have HGG := Lib.hid hgw2; clear hgw2
                go_wp2_with (at_builtin; refine wpList_append_own _ rfl _ _ 44 rfl w.heap.size 59 i0 (.agg #[.int .i64 0, .int .i64 0]) 2 16 Try.underlying44 hi hz0 hz1 hz2 rfl (by decide) _ _ _ rfl HOW.out ⟨wr.heap.size, 0, none⟩ 1 1 [.int .i64 k, .int .i64 m] rfl rfl ?c1 ?c2 ?c3 ?c4 ?c5 ?_)
                case c1 =>
                  intro j u hj
                  match j, hj with
                  | 0, hj => simp at hj; subst hj; simp [Addr.add]
                  | 1, hj => simp at hj; subst hj; simp [Addr.add]
                case c2 => intro u hu; simp at hu; rcases hu with rfl | rfl <;> rfl
                case c3 => unfold maxLen; omega
                case c4 => omega
                case c5 => simp; omega
                intro v' w5 hown5 hgrow5 _
                have hlt5 := HOW.out.lt
                have hG5 : Grew w w5 := (Grew.trans Hg2.out HGG.out).grown hgrow5 (by have := (Grew.trans Hg2.out HGG.out).size; exact this) (fun j hj => by have := (hlt5 j hj).1; omega)
                have hown6 : w5.ownsRow w.heap.size 59 2 v' (ordP l k ++ rowP l k (m + 1)).length (flatP (ordP l k ++ rowP l k (m + 1))) := by
                  rw [rowP_yes HDR.out, ← List.append_assoc, flatP_append, show (ordP l k ++ rowP l k m ++ [(k, m)]).length = (ordP l k).length + (rowP l k m).length + 1 by simp only [List.length_append, List.length_cons, List.length_nil]]; exact hown5
                have H5 := Lib.hid (And.intro hG5 hown6)
                clear hown5 hgrow5 hG5 hown6 hlt5
                go_wp2_with fail
                go_roundw
                case rel => exact ⟨m + 1, by omega, by go_num, H5.out.1, H5.out.2⟩
                case measure => simp [intOf]; omega
        · go_wp2_with fail
          go_roundw
          case rel => exact ⟨k + 1, by omega, by go_num, Hg2.out, by rw [ordP_succ, show l.length = m by omega]; exact HO2.out⟩
          case measure => simp [intOf]; omega
    · go_wp2_with fail
      go_ret
      have hkl : k = l.length := by omega
      subst hkl
      exact ⟨_, rfl, hown, hg⟩
theorem rorder_nil (a : Option Addr) (cap : Nat) (w : World) :
    Calls Try.prog 34 #[.slice a 0 cap] w fun e w' => ∃ u, e = .returned u ∧ Pairs w' w.heap.size u [] ∧ Below w.heap.size w w' := by
  go_enter Try.func34, Try.ntmps34
  go_wp2_with fail
  go_loopw [3, 4] (fun o i wr => o = .slice none 0 0 ∧ i = .int .i64 0 ∧ w = wr) (fun _ i _ => 0)
  case atStart => exact ⟨rfl, rfl, rfl⟩
  case round =>
    obtain ⟨rfl, rfl, rfl⟩ := hrel
    go_wp2_with fail
    go_ret
    exact ⟨_, rfl, World.ownsRow_nil _ _ _ _, Below.refl _ _⟩
theorem rorder_any (v : Value) (l : List (Int × Int)) (w : World) (hS : Spans w v l) (hm : l.length ≤ 1000) :
    Calls Try.prog 34 #[v] w fun e w' => ∃ u, e = .returned u ∧ Pairs w' w.heap.size u (ordF l) ∧ Below w.heap.size w w' := by
  obtain ⟨a, cap, rfl, rfl | ⟨b, off, rfl, hs⟩⟩ := hS
  · exact rorder_nil a cap w
  · exact rorder_cells l b off cap w hs hm
end Go.Proofs.Ythebnpophckgcaa
