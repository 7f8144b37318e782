/-
  The walk of SamePairs.
-/
import Derived.Test.YthebnpophckgcaaWj
import Derived.ChangeKeysEq
namespace Go.Proofs.Ythebnpophckgcaa
open Go.RowKit
set_option linter.unusedSimpArgs false
set_option linter.unusedVariables false
set_option maxHeartbeats 400000
theorem Try.cells3 : Try.prog.cellsOf 3 = 1 := by kernel_rfl
theorem Try.info3 : (Try.prog.info? 3).map (fun i => (i.zero, i.size, i.bytes)) = some (some (.int .i64 0), 1, 8) := by kernel_rfl
theorem eq23 (a b c d : Int) (w : World) : (Op.equalIn 10000 23 (sp a b) (sp c d)).run Try.prog w = .ok (a == c && b == d) w := by
  rw [run_equalIn_struct w 9999 23 _ _ (by kernel_rfl) (by kernel_rfl)]
  simp [go_sem, Program.fieldsOf, Try.underlying23, Op.eqFields]
  by_cases h : a = c <;> by_cases h2 : b = d <;> simp [h, h2]
theorem eq25 (r l a b r' l' a' b' : Int) (w : World) : (Op.equalIn 10000 25 (ck r l a b) (ck r' l' a' b')).run Try.prog w = .ok (r == r' && (l == l' && (a == a' && b == b'))) w := by
  rw [run_equalIn_struct w 9999 25 _ _ (by kernel_rfl) (by kernel_rfl)]
  simp [go_sem, Program.fieldsOf, Try.underlying25, Op.eqFields]
  by_cases h : r = r' <;> by_cases h2 : l = l' <;> by_cases h3 : a = a' <;> by_cases h4 : b = b' <;> simp [h, h2, h3, h4]
theorem eq59 (a b c d : Int) (w : World) : (Op.equalIn 10000 59 (sp a b) (sp c d)).run Try.prog w = .ok (a == c && b == d) w := by
  obtain ⟨i0, hi, _⟩ := info_parts Try.info3
  rw [run_equalIn_array w 9999 _ _ Try.underlying59 hi]
  simp [go_sem, Op.eqItems, Try.cells3, List.range_succ]
  by_cases h : a = c <;> by_cases h2 : b = d <;> simp [h, h2]
/-- the cells of a slice of pairs -/
def PairCells (w : World) (b off : Nat) (x : List (Nat × Nat)) : Prop :=
  b < w.heap.size ∧ ∀ i, i < x.length → w.cell? ⟨b, off + i * 2, none⟩ = some (.int .i64 (x.getD i (0, 0)).1) ∧ w.cell? ⟨b, off + i * 2 + 1, none⟩ = some (.int .i64 (x.getD i (0, 0)).2)
theorem PairCells.grow {w w' : World} {b off : Nat} {l : List (Nat × Nat)} (h : PairCells w b off l) (hg : Grew w w') : PairCells w' b off l :=
  ⟨Nat.lt_of_lt_of_le h.1 hg.size, fun i hi => by have := h.2 i hi; have hc := (bcell hg).1; rw [hc _ _ h.1, hc _ _ h.1]; exact this⟩
theorem same_any (x y : List (Nat × Nat)) (b off cap b' off' cap' : Nat) (w : World) (hx : PairCells w b off x) (hy : PairCells w b' off' y) (hlen : x.length = y.length) (hm : x.length ≤ 9223372036854775807) :
    Calls Try.prog 32 #[.slice (some ⟨b, off, none⟩) x.length cap, .slice (some ⟨b', off', none⟩) y.length cap'] w fun e w' => e = .returned (.bool (decide (x = y))) ∧ Below w.heap.size w w' := by
  rw [← hlen]
  go_enter Try.func32, Try.ntmps32
  go_wp2_with fail
  go_loopw [5] (fun i wr => ∃ k : Nat, k ≤ x.length ∧ i = .int .i64 k ∧ x.take k = y.take k ∧ Grew w wr) (fun i _ => x.length - (intOf i).toNat)
  case atStart => exact ⟨0, Nat.zero_le _, rfl, rfl, Below.refl _ _⟩
  case round =>
    obtain ⟨k, hk, rfl, heq, hg⟩ := hrel
    by_cases hlt : k < x.length
    · have hb1 := (hx.grow hg).1
      have hb2 := (hy.grow hg).1
      have HG := Lib.hid hg
      obtain ⟨e1, e2⟩ := (hx.grow hg).2 k hlt
      obtain ⟨e3, e4⟩ := (hy.grow hg).2 k (hlen ▸ hlt)
      have hlt' : k < y.length := hlen ▸ hlt
      clear hx hy
      have HL := Lib.hid hlen; clear hlen
      have h59 := eq59
      have HE := Lib.hid heq; clear heq
      by_cases hkk : x[k] = y[k]
      · have q1 : ((x[k].1 : Int) == (y[k].1 : Int)) = true := by rw [hkk]; simp
        have q2 : ((x[k].2 : Int) == (y[k].2 : Int)) = true := by rw [hkk]; simp
        have HK := Lib.hid hkk; clear hkk
        go_wp2_with fail
        refine wp_region_ext (by kernel_rfl) ?_
        refine wpE_yes (i := 0) rfl (by kernel_rfl) (by kernel_rfl) (by kernel_rfl) (fun _ _ _ _ h => h) (by rfl) ?_; apply Exists.intro; refine ⟨fun w' hw' => ?_, ?_⟩
        · (have hcw := (bcell hw').1; have hfw := (bcell hw').2.1; go_simp; (try simp (disch := omega) only [IntWalk.i64_quo, IntWalk.i64_in, IntWalk.rem_in]); exact calm_value)
        simp only [Act.put, List.setIfInBounds_toArray, List.set_cons_zero, List.set_cons_succ]
        refine wpE_yes (i := 1) rfl (by kernel_rfl) (by kernel_rfl) (by kernel_rfl) (fun _ _ _ _ h => h) (by rfl) ?_; apply Exists.intro; refine ⟨fun w' hw' => ?_, ?_⟩
        · (have hcw := (bcell hw').1; have hfw := (bcell hw').2.1; go_simp; (try simp (disch := omega) only [IntWalk.i64_quo, IntWalk.i64_in, IntWalk.rem_in]); exact calm_value)
        simp only [Act.put, List.setIfInBounds_toArray, List.set_cons_zero, List.set_cons_succ]
        refine wpE_yes (i := 2) rfl (by kernel_rfl) (by kernel_rfl) (by kernel_rfl) (fun _ _ _ _ h => h) (by rfl) ?_; apply Exists.intro; refine ⟨fun w' hw' => ?_, ?_⟩
        · (have hcw := (bcell hw').1; have hfw := (bcell hw').2.1; go_simp; (try simp (disch := omega) only [IntWalk.i64_quo, IntWalk.i64_in, IntWalk.rem_in]); exact calm_value)
        simp only [Act.put, List.setIfInBounds_toArray, List.set_cons_zero, List.set_cons_succ]
        refine wpE_yes (i := 3) rfl (by kernel_rfl) (by kernel_rfl) (by kernel_rfl) (fun _ _ _ _ h => h) (by rfl) ?_; apply Exists.intro; refine ⟨fun w' hw' => ?_, ?_⟩
        · (have hcw := (bcell hw').1; have hfw := (bcell hw').2.1; go_simp; (try simp (disch := omega) only [IntWalk.i64_quo, IntWalk.i64_in, IntWalk.rem_in]); exact calm_value)
        simp only [Act.put, List.setIfInBounds_toArray, List.set_cons_zero, List.set_cons_succ]
        refine wpE_yes (i := 4) rfl (by kernel_rfl) (by kernel_rfl) (by kernel_rfl) (fun _ _ _ _ h => h) (by rfl) ?_; apply Exists.intro; refine ⟨fun w' hw' => ?_, ?_⟩
        · (have hcw := (bcell hw').1; have hfw := (bcell hw').2.1; go_simp; (try simp (disch := omega) only [IntWalk.i64_quo, IntWalk.i64_in, IntWalk.rem_in]); exact calm_value)
        simp only [Act.put, List.setIfInBounds_toArray, List.set_cons_zero, List.set_cons_succ]
        refine wpE_yes (i := 5) rfl (by kernel_rfl) (by kernel_rfl) (by kernel_rfl) (fun _ _ _ _ h => h) (by rfl) ?_; apply Exists.intro; refine ⟨fun w' hw' => ?_, ?_⟩
        · (have hcw := (bcell hw').1; have hfw := (bcell hw').2.1; go_simp; (try simp (disch := omega) only [IntWalk.i64_quo, IntWalk.i64_in, IntWalk.rem_in]); exact calm_value)
        simp only [Act.put, List.setIfInBounds_toArray, List.set_cons_zero, List.set_cons_succ]
        refine wpE_yes (i := 6) rfl (by kernel_rfl) (by kernel_rfl) (by kernel_rfl) (fun _ _ _ _ h => h) (by rfl) ?_; apply Exists.intro; refine ⟨fun w' hw' => ?_, ?_⟩
        · (have hcw := (bcell hw').1; have hfw := (bcell hw').2.1; go_simp; (try simp (disch := omega) only [IntWalk.i64_quo, IntWalk.i64_in, IntWalk.rem_in]); exact calm_value)
        simp only [Act.put, List.setIfInBounds_toArray, List.set_cons_zero, List.set_cons_succ]
        refine wpE_yes (i := 7) rfl (by kernel_rfl) (by kernel_rfl) (by kernel_rfl) (fun _ _ _ _ h => h) (by rfl) ?_; apply Exists.intro; refine ⟨fun w' hw' => ?_, ?_⟩
        · (have hcw := (bcell hw').1; have hfw := (bcell hw').2.1; go_simp; (try simp (disch := omega) only [IntWalk.i64_quo, IntWalk.i64_in, IntWalk.rem_in]); exact calm_value)
        simp only [Act.put, List.setIfInBounds_toArray, List.set_cons_zero, List.set_cons_succ]
        refine wpE_yes (i := 8) rfl (by kernel_rfl) (by kernel_rfl) (by kernel_rfl) (fun _ _ _ _ h => h) (by rfl) ?_; apply Exists.intro; refine ⟨fun w' hw' => ?_, ?_⟩
        · (have hcw := (bcell hw').1; have hfw := (bcell hw').2.1; go_simp; (try simp (disch := omega) only [IntWalk.i64_quo, IntWalk.i64_in, IntWalk.rem_in]); exact calm_value)
        simp only [Act.put, List.setIfInBounds_toArray, List.set_cons_zero, List.set_cons_succ]
        refine wpE_done (by kernel_rfl) (fun w9 hb9 hC9 => ?_) _
        (have hc9 := (bcell hb9).1; have hf9 := (bcell hb9).2.1; have hs9 := (bcell hb9).2.2; (try simp [go_sem] at hs9); clear hc9 hf9)
        clear hC9
        clear h59 e1 e2 e3 e4
        go_wp2_with fail
        go_roundw
        case rel => exact ⟨k + 1, by omega, by go_num, by rw [List.take_succ_eq_append_getElem hlt, List.take_succ_eq_append_getElem hlt', HE.out, HK.out], Grew.trans hg hb9⟩
        case measure => simp [intOf]; omega
      · have q : ((x[k].1 : Int) == (y[k].1 : Int) && (x[k].2 : Int) == (y[k].2 : Int)) = false := by
          rw [Bool.eq_false_iff]; intro h; simp at h; exact hkk (Prod.ext (by omega) (by omega))
        have q' : ((x[k].1 : Int) == (y[k].1 : Int)) = true → ((x[k].2 : Int) == (y[k].2 : Int)) = false := by
          intro h; rw [h] at q; simpa using q
        have HK := Lib.hid hkk; clear hkk
        go_wp2_with fail
        refine wp_region_ext (by kernel_rfl) ?_
        refine wpE_yes (i := 0) rfl (by kernel_rfl) (by kernel_rfl) (by kernel_rfl) (fun _ _ _ _ h => h) (by rfl) ?_; apply Exists.intro; refine ⟨fun w' hw' => ?_, ?_⟩
        · (have hcw := (bcell hw').1; have hfw := (bcell hw').2.1; go_simp; (try simp (disch := omega) only [IntWalk.i64_quo, IntWalk.i64_in, IntWalk.rem_in]); exact calm_value)
        simp only [Act.put, List.setIfInBounds_toArray, List.set_cons_zero, List.set_cons_succ]
        refine wpE_yes (i := 1) rfl (by kernel_rfl) (by kernel_rfl) (by kernel_rfl) (fun _ _ _ _ h => h) (by rfl) ?_; apply Exists.intro; refine ⟨fun w' hw' => ?_, ?_⟩
        · (have hcw := (bcell hw').1; have hfw := (bcell hw').2.1; go_simp; (try simp (disch := omega) only [IntWalk.i64_quo, IntWalk.i64_in, IntWalk.rem_in]); exact calm_value)
        simp only [Act.put, List.setIfInBounds_toArray, List.set_cons_zero, List.set_cons_succ]
        refine wpE_yes (i := 2) rfl (by kernel_rfl) (by kernel_rfl) (by kernel_rfl) (fun _ _ _ _ h => h) (by rfl) ?_; apply Exists.intro; refine ⟨fun w' hw' => ?_, ?_⟩
        · (have hcw := (bcell hw').1; have hfw := (bcell hw').2.1; go_simp; (try simp (disch := omega) only [IntWalk.i64_quo, IntWalk.i64_in, IntWalk.rem_in]); exact calm_value)
        simp only [Act.put, List.setIfInBounds_toArray, List.set_cons_zero, List.set_cons_succ]
        refine wpE_yes (i := 3) rfl (by kernel_rfl) (by kernel_rfl) (by kernel_rfl) (fun _ _ _ _ h => h) (by rfl) ?_; apply Exists.intro; refine ⟨fun w' hw' => ?_, ?_⟩
        · (have hcw := (bcell hw').1; have hfw := (bcell hw').2.1; go_simp; (try simp (disch := omega) only [IntWalk.i64_quo, IntWalk.i64_in, IntWalk.rem_in]); exact calm_value)
        simp only [Act.put, List.setIfInBounds_toArray, List.set_cons_zero, List.set_cons_succ]
        refine wpE_yes (i := 4) rfl (by kernel_rfl) (by kernel_rfl) (by kernel_rfl) (fun _ _ _ _ h => h) (by rfl) ?_; apply Exists.intro; refine ⟨fun w' hw' => ?_, ?_⟩
        · (have hcw := (bcell hw').1; have hfw := (bcell hw').2.1; go_simp; (try simp (disch := omega) only [IntWalk.i64_quo, IntWalk.i64_in, IntWalk.rem_in]); exact calm_value)
        simp only [Act.put, List.setIfInBounds_toArray, List.set_cons_zero, List.set_cons_succ]
        refine wpE_yes (i := 5) rfl (by kernel_rfl) (by kernel_rfl) (by kernel_rfl) (fun _ _ _ _ h => h) (by rfl) ?_; apply Exists.intro; refine ⟨fun w' hw' => ?_, ?_⟩
        · (have hcw := (bcell hw').1; have hfw := (bcell hw').2.1; go_simp; (try simp (disch := omega) only [IntWalk.i64_quo, IntWalk.i64_in, IntWalk.rem_in]); exact calm_value)
        simp only [Act.put, List.setIfInBounds_toArray, List.set_cons_zero, List.set_cons_succ]
        refine wpE_yes (i := 6) rfl (by kernel_rfl) (by kernel_rfl) (by kernel_rfl) (fun _ _ _ _ h => h) (by rfl) ?_; apply Exists.intro; refine ⟨fun w' hw' => ?_, ?_⟩
        · (have hcw := (bcell hw').1; have hfw := (bcell hw').2.1; go_simp; (try simp (disch := omega) only [IntWalk.i64_quo, IntWalk.i64_in, IntWalk.rem_in]); exact calm_value)
        simp only [Act.put, List.setIfInBounds_toArray, List.set_cons_zero, List.set_cons_succ]
        refine wpE_yes (i := 7) rfl (by kernel_rfl) (by kernel_rfl) (by kernel_rfl) (fun _ _ _ _ h => h) (by rfl) ?_; apply Exists.intro; refine ⟨fun w' hw' => ?_, ?_⟩
        · (have hcw := (bcell hw').1; have hfw := (bcell hw').2.1; go_simp; (try simp (disch := omega) only [IntWalk.i64_quo, IntWalk.i64_in, IntWalk.rem_in]); exact calm_value)
        simp only [Act.put, List.setIfInBounds_toArray, List.set_cons_zero, List.set_cons_succ]
        refine wpE_yes (i := 8) rfl (by kernel_rfl) (by kernel_rfl) (by kernel_rfl) (fun _ _ _ _ h => h) (by rfl) ?_; apply Exists.intro; refine ⟨fun w' hw' => ?_, ?_⟩
        · (have hcw := (bcell hw').1; have hfw := (bcell hw').2.1; go_simp; (try simp (disch := omega) only [IntWalk.i64_quo, IntWalk.i64_in, IntWalk.rem_in]); exact calm_value)
        simp only [Act.put, List.setIfInBounds_toArray, List.set_cons_zero, List.set_cons_succ]
        refine wpE_done (by kernel_rfl) (fun w9 hb9 hC9 => ?_) _
        (have hc9 := (bcell hb9).1; have hf9 := (bcell hb9).2.1; have hs9 := (bcell hb9).2.2; (try simp [go_sem] at hs9); clear hc9 hf9)
        clear hC9
        clear h59 e1 e2 e3 e4
        go_wp2_with fail
        go_ret
        refine ⟨ret_bool ?_, Grew.trans hg hb9⟩
        symm; rw [decide_eq_false_iff_not]; intro hxy; exact HK.out (by simp [hxy])
    · have HL := Lib.hid hlen; clear hlen
      go_wp2_with fail
      go_ret
      refine ⟨ret_bool ?_, hg⟩
      rw [List.take_of_length_le (by omega), List.take_of_length_le (by have := HL.out; omega)] at heq
      simp [heq]
theorem same_len (a a' : Option Addr) (n n' cap cap' : Nat) (w : World) (h : n ≠ n') :
    Calls Try.prog 32 #[.slice a n cap, .slice a' n' cap'] w fun e w' => e = .returned (.bool false) ∧ Below w.heap.size w w' := by
  have h1 : ((n : Int) == (n' : Int)) = false := by simp; omega
  have h2 : ((n : Int) != (n' : Int)) = true := by simp; omega
  go_enter Try.func32, Try.ntmps32
  go_wp2_with fail
  go_ret
  exact ⟨rfl, Below.refl _ _⟩
theorem same_nil (a a' : Option Addr) (cap cap' : Nat) (w : World) :
    Calls Try.prog 32 #[.slice a 0 cap, .slice a' 0 cap'] w fun e w' => e = .returned (.bool true) ∧ Below w.heap.size w w' := by
  go_enter Try.func32, Try.ntmps32
  go_wp2_with fail
  go_loopw [5] (fun i wr => i = .int .i64 0 ∧ w = wr) (fun i _ => 0)
  case atStart => exact ⟨rfl, rfl⟩
  case round =>
    obtain ⟨rfl, rfl⟩ := hrel
    go_wp2_with fail
    go_ret
    exact ⟨rfl, Below.refl _ _⟩
/-- a slice that reads as a list of pairs -/
def PairsV (w : World) (v : Value) (x : List (Nat × Nat)) : Prop :=
  ∃ a cap, v = .slice a x.length cap ∧ (x = [] ∨ ∃ b off, a = some ⟨b, off, none⟩ ∧ PairCells w b off x)
theorem PairsV.grow {w w' : World} {v : Value} {x : List (Nat × Nat)} (h : PairsV w v x) (hg : Grew w w') : PairsV w' v x := by
  obtain ⟨a, cap, hv, h⟩ := h
  exact ⟨a, cap, hv, h.imp id fun ⟨b, off, ha, hs⟩ => ⟨b, off, ha, hs.grow hg⟩⟩
theorem flatP_at : ∀ (x : List (Nat × Nat)) (i : Nat), i < x.length → (flatP x)[i * 2]? = some (.int .i64 (x.getD i (0, 0)).1) ∧ (flatP x)[i * 2 + 1]? = some (.int .i64 (x.getD i (0, 0)).2)
  | [], i, h => by simp at h
  | p :: x, 0, _ => ⟨rfl, rfl⟩
  | p :: x, i + 1, h => by
    have ih := flatP_at x i (by simpa using h)
    have e : flatP (p :: x) = .int .i64 p.1 :: .int .i64 p.2 :: flatP x := rfl
    rw [e, show (i + 1) * 2 = i * 2 + 1 + 1 by omega]
    simpa using ih
theorem Pairs.read {w : World} {base : Nat} {v : Value} {x : List (Nat × Nat)} (h : Pairs w base v x) : PairsV w v x := by
  have h0 := h
  obtain ⟨h1, h2⟩ := h
  rcases h2 with ⟨rfl, hn⟩ | ⟨g, cap, cur, rfl, hg, hh, r⟩
  · exact ⟨none, 0, by rw [hn], .inl (List.eq_nil_of_length_eq_zero hn)⟩
  · refine ⟨_, cap, rfl, .inr ⟨g, 0, rfl, (h0.lt g rfl).2, fun i hi => ?_⟩⟩
    have hf := flatP_at x i hi
    rw [Nat.zero_add, World.ownsRow.cellAt h0 _ (by omega), World.ownsRow.cellAt h0 _ (by omega)]
    exact hf
theorem same_pairs (u v : Value) (x y : List (Nat × Nat)) (w : World) (hx : PairsV w u x) (hy : PairsV w v y) (hm : x.length ≤ 9223372036854775807) :
    Calls Try.prog 32 #[u, v] w fun e w' => e = .returned (.bool (decide (x = y))) ∧ Below w.heap.size w w' := by
  obtain ⟨a, cap, rfl, hx⟩ := hx
  obtain ⟨a', cap', rfl, hy⟩ := hy
  by_cases hlen : x.length = y.length
  · rcases hx with rfl | ⟨b, off, rfl, hx⟩
    · have : y = [] := List.eq_nil_of_length_eq_zero hlen.symm
      subst this
      exact same_nil a a' cap cap' w
    · rcases hy with rfl | ⟨b', off', rfl, hy⟩
      · have : x = [] := List.eq_nil_of_length_eq_zero hlen
        subst this
        exact same_nil _ a' cap cap' w
      · exact same_any x y b off cap b' off' cap' w hx hy hlen hm
  · rw [decide_eq_false (fun h => hlen (by rw [h]))]
    exact same_len a a' _ _ cap cap' w hlen
end Go.Proofs.Ythebnpophckgcaa
