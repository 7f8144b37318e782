/-
  Walks of what makes a rule.
-/
import Derived.Test.YtdbffighngmibaaVc
namespace Go.Proofs.Ytdbffighngmibaa
open Go.RowKit
set_option linter.unusedVariables false
set_option linter.unusedSimpArgs false
theorem bd56_0_2 (a0 : Int) (a1 : Int) (w : World) : (Instr.build 56 #[(0, .int .i64 a0), (2, .int .i64 a1)]).run Try.prog w = .ok (.agg #[.int .i64 a0, .int .i64 0, .int .i64 0, .int .i64 0, .int .i64 0, .int .i64 0, .int .i64 0, .int .i64 0, .int .i64 0, .int .i64 0, .int .i64 0, .int .i64 0, .int .i64 0, .int .i64 0, .int .i64 0, .int .i64 0, .int .i64 0, .int .i64 0, .int .i64 0, .int .i64 0, .int .i64 0, .int .i64 a1, .slice none 0 0]) w := by kernel_rfl
theorem bd67_0 (a0 : Int) (w : World) : (Instr.build 67 #[(0, .int .i64 a0)]).run Try.prog w = .ok (.agg #[.int .i64 a0, .int .i64 0, .int .i64 0, .int .i64 0, .int .i64 0, .int .i64 0, .int .i64 0, .int .i64 0, .int .i64 0, .int .i64 0, .int .i64 0, .int .i64 0, .int .i64 0, .int .i64 0, .int .i64 0, .int .i64 0, .int .i64 0, .int .i64 0, .int .i64 0, .int .i64 0, .int .i64 0]) w := by kernel_rfl
theorem bs54_1_0 (a0 : Option Addr) (a0n a0c : Nat) (w : World) : (Instr.buildSlice 54 1 #[(0, .slice a0 a0n a0c)]).run Try.prog w = .ok (.slice (some ⟨w.heap.size, 0, none⟩) 1 1) (w.alloc (Cl [.slice a0 a0n a0c] 64)) := by kernel_rfl
theorem bs64_1_0 (a0 : Int) (a1 : Int) (a2 : Int) (a3 : Int) (a4 : Int) (a5 : Int) (a6 : Int) (a7 : Int) (a8 : Int) (a9 : Int) (a10 : Int) (a11 : Int) (a12 : Int) (a13 : Int) (a14 : Int) (a15 : Int) (a16 : Int) (a17 : Int) (a18 : Int) (a19 : Int) (a20 : Int) (w : World) : (Instr.buildSlice 64 1 #[(0, .agg #[.int .i64 a0, .int .i64 a1, .int .i64 a2, .int .i64 a3, .int .i64 a4, .int .i64 a5, .int .i64 a6, .int .i64 a7, .int .i64 a8, .int .i64 a9, .int .i64 a10, .int .i64 a11, .int .i64 a12, .int .i64 a13, .int .i64 a14, .int .i64 a15, .int .i64 a16, .int .i64 a17, .int .i64 a18, .int .i64 a19, .int .i64 a20])]).run Try.prog w = .ok (.slice (some ⟨w.heap.size, 0, none⟩) 1 1) (w.alloc (Cl [.int .i64 a0, .int .i64 a1, .int .i64 a2, .int .i64 a3, .int .i64 a4, .int .i64 a5, .int .i64 a6, .int .i64 a7, .int .i64 a8, .int .i64 a9, .int .i64 a10, .int .i64 a11, .int .i64 a12, .int .i64 a13, .int .i64 a14, .int .i64 a15, .int .i64 a16, .int .i64 a17, .int .i64 a18, .int .i64 a19, .int .i64 a20] 67)) := by kernel_rfl
theorem fa53_0 (b o : Nat) (w : World) : (Instr.fieldAt 53 (.pointer (some ⟨b, o, none⟩)) 0).run Try.prog w = .ok (.pointer (some ⟨b, o, none⟩)) w := by kernel_rfl
theorem fa53_1 (b o : Nat) (w : World) : (Instr.fieldAt 53 (.pointer (some ⟨b, o, none⟩)) 1).run Try.prog w = .ok (.pointer (some ⟨b, o + 10, none⟩)) w := by kernel_rfl
theorem fa56_1 (b o : Nat) (w : World) : (Instr.fieldAt 56 (.pointer (some ⟨b, o, none⟩)) 1).run Try.prog w = .ok (.pointer (some ⟨b, o + 1, none⟩)) w := by kernel_rfl
theorem fa56_3 (b o : Nat) (w : World) : (Instr.fieldAt 56 (.pointer (some ⟨b, o, none⟩)) 3).run Try.prog w = .ok (.pointer (some ⟨b, o + 22, none⟩)) w := by kernel_rfl
theorem fa65_0 (b o : Nat) (w : World) : (Instr.fieldAt 65 (.pointer (some ⟨b, o, none⟩)) 0).run Try.prog w = .ok (.pointer (some ⟨b, o, none⟩)) w := by kernel_rfl
theorem fa65_1 (b o : Nat) (w : World) : (Instr.fieldAt 65 (.pointer (some ⟨b, o, none⟩)) 1).run Try.prog w = .ok (.pointer (some ⟨b, o + 10, none⟩)) w := by kernel_rfl
theorem fa67_1 (b o : Nat) (w : World) : (Instr.fieldAt 67 (.pointer (some ⟨b, o, none⟩)) 1).run Try.prog w = .ok (.pointer (some ⟨b, o + 1, none⟩)) w := by kernel_rfl
theorem fa72_0 (b o : Nat) (w : World) : (Instr.fieldAt 72 (.pointer (some ⟨b, o, none⟩)) 0).run Try.prog w = .ok (.pointer (some ⟨b, o, none⟩)) w := by kernel_rfl
theorem fa72_1 (b o : Nat) (w : World) : (Instr.fieldAt 72 (.pointer (some ⟨b, o, none⟩)) 1).run Try.prog w = .ok (.pointer (some ⟨b, o + 1, none⟩)) w := by kernel_rfl
theorem fa72_2 (b o : Nat) (w : World) : (Instr.fieldAt 72 (.pointer (some ⟨b, o, none⟩)) 2).run Try.prog w = .ok (.pointer (some ⟨b, o + 2, none⟩)) w := by kernel_rfl
theorem fa72_3 (b o : Nat) (w : World) : (Instr.fieldAt 72 (.pointer (some ⟨b, o, none⟩)) 3).run Try.prog w = .ok (.pointer (some ⟨b, o + 3, none⟩)) w := by kernel_rfl
theorem set9_s {w0 : World} {H : List (Nat × Obj)} (a0 a1 a2 a3 a4 a5 a6 a7 a8 a9 a10 a11 a12 a13 a14 a15 a16 a17 a18 a19 v : Int) :
    FSpec Try.prog w0 53 #[.agg #[.int .i64 a0, .int .i64 a1, .int .i64 a2, .int .i64 a3, .int .i64 a4, .int .i64 a5, .int .i64 a6, .int .i64 a7, .int .i64 a8, .int .i64 a9, .int .i64 a10, .int .i64 a11, .int .i64 a12, .int .i64 a13, .int .i64 a14, .int .i64 a15, .int .i64 a16, .int .i64 a17, .int .i64 a18, .int .i64 a19], .int .i64 9, .int .i64 v] H (Still (.agg #[.int .i64 a0, .int .i64 a1, .int .i64 a2, .int .i64 a3, .int .i64 a4, .int .i64 a5, .int .i64 a6, .int .i64 a7, .int .i64 a8, .int .i64 65535, .int .i64 a10, .int .i64 a11, .int .i64 a12, .int .i64 a13, .int .i64 a14, .int .i64 a15, .int .i64 a16, .int .i64 a17, .int .i64 a18, .int .i64 v]) H) := by
  refine fn_spec Try.func53 rfl Try.ntmps53 rfl (j_seq (j_region (e_ (eff_box (T rfl) cs_) ?_ rfl)))
  rintro _ _ ⟨n3, rfl, rfl⟩
  refine e_ (eff_alloc Try.zeroValue65 cs_) ?_ rfl
  rintro _ _ ⟨n6, rfl, rfl⟩
  refine jl_nil (q_then (j_seq (j_region (y_ (yl_move (T rfl)) (y_ (yl_move (T rfl)) (y_ (yl_move (T rfl)) (y_ (yl_fa0 (T rfl) fa65_0) (y_ (yl_ixA (T rfl) (T rfl) Try.runUnderlying45 Try.sizeOf3 (by omega)) ?_ rfl) rfl) rfl) rfl) rfl))))
  first | refine jl_e (eff_sW (T rfl) ev_c Try.sizeOf3) rfl gd_n ?_ | refine jl_e (eff_s1 (T rfl) ev_c rfl Try.sizeOf3) rfl gd_n ?_ | refine jl_e (eff_s1r (T rfl) ev_c rfl Try.sizeOf3) rfl gd_n ?_
  rintro _ _ ⟨rfl, rfl⟩
  refine y_ (yl_fa (T rfl) fa65_1) (y_ (yl_ixA (T rfl) (T rfl) Try.runUnderlying45 Try.sizeOf3 (by omega)) ?_ rfl) rfl
  first | refine jl_e (eff_sW (T rfl) (T rfl) Try.sizeOf3) rfl gd_n ?_ | refine jl_e (eff_s1 (T rfl) (T rfl) rfl Try.sizeOf3) rfl gd_n ?_ | refine jl_e (eff_s1r (T rfl) (T rfl) rfl Try.sizeOf3) rfl gd_n ?_
  rintro _ _ ⟨rfl, rfl⟩
  refine jl_nil (q_then (j_seq (j_region (y_ (yl_loadA (T rfl) Try.isAgg65 Try.sizeOf65 rfl (by first | exact cs_o)) ?_ rfl))))
  first | refine jl_e (eff_sW (T rfl) (T rfl) Try.sizeOf65) rfl gd_n ?_
  rintro _ _ ⟨rfl, rfl⟩
  refine jl_nil (q_then (j_ret (q_ret rfl (.cellA (at_f rfl) Try.isAgg65 Try.sizeOf65 rfl (by first | exact cs_o) .nil) ?_)))
  exact ⟨_, ⟨rfl, rfl⟩, sbt⟩
theorem set0_s {w0 : World} {H : List (Nat × Obj)} (a0 a1 a2 a3 a4 a5 a6 a7 a8 a9 a10 a11 a12 a13 a14 a15 a16 a17 a18 a19 v : Int) :
    FSpec Try.prog w0 53 #[.agg #[.int .i64 a0, .int .i64 a1, .int .i64 a2, .int .i64 a3, .int .i64 a4, .int .i64 a5, .int .i64 a6, .int .i64 a7, .int .i64 a8, .int .i64 a9, .int .i64 a10, .int .i64 a11, .int .i64 a12, .int .i64 a13, .int .i64 a14, .int .i64 a15, .int .i64 a16, .int .i64 a17, .int .i64 a18, .int .i64 a19], .int .i64 0, .int .i64 v] H (Still (.agg #[.int .i64 65535, .int .i64 a1, .int .i64 a2, .int .i64 a3, .int .i64 a4, .int .i64 a5, .int .i64 a6, .int .i64 a7, .int .i64 a8, .int .i64 a9, .int .i64 v, .int .i64 a11, .int .i64 a12, .int .i64 a13, .int .i64 a14, .int .i64 a15, .int .i64 a16, .int .i64 a17, .int .i64 a18, .int .i64 a19]) H) := by
  refine fn_spec Try.func53 rfl Try.ntmps53 rfl (j_seq (j_region (e_ (eff_box (T rfl) cs_) ?_ rfl)))
  rintro _ _ ⟨n3, rfl, rfl⟩
  refine e_ (eff_alloc Try.zeroValue65 cs_) ?_ rfl
  rintro _ _ ⟨n6, rfl, rfl⟩
  refine jl_nil (q_then (j_seq (j_region (y_ (yl_move (T rfl)) (y_ (yl_move (T rfl)) (y_ (yl_move (T rfl)) (y_ (yl_fa0 (T rfl) fa65_0) (y_ (yl_ixA (T rfl) (T rfl) Try.runUnderlying45 Try.sizeOf3 (by omega)) ?_ rfl) rfl) rfl) rfl) rfl))))
  first | refine jl_e (eff_sW (T rfl) ev_c Try.sizeOf3) rfl gd_n ?_ | refine jl_e (eff_s1 (T rfl) ev_c rfl Try.sizeOf3) rfl gd_n ?_ | refine jl_e (eff_s1r (T rfl) ev_c rfl Try.sizeOf3) rfl gd_n ?_
  rintro _ _ ⟨rfl, rfl⟩
  refine y_ (yl_fa (T rfl) fa65_1) (y_ (yl_ixA (T rfl) (T rfl) Try.runUnderlying45 Try.sizeOf3 (by omega)) ?_ rfl) rfl
  first | refine jl_e (eff_sW (T rfl) (T rfl) Try.sizeOf3) rfl gd_n ?_ | refine jl_e (eff_s1 (T rfl) (T rfl) rfl Try.sizeOf3) rfl gd_n ?_ | refine jl_e (eff_s1r (T rfl) (T rfl) rfl Try.sizeOf3) rfl gd_n ?_
  rintro _ _ ⟨rfl, rfl⟩
  refine jl_nil (q_then (j_seq (j_region (y_ (yl_loadA (T rfl) Try.isAgg65 Try.sizeOf65 rfl (by first | exact cs_o)) ?_ rfl))))
  first | refine jl_e (eff_sW (T rfl) (T rfl) Try.sizeOf65) rfl gd_n ?_
  rintro _ _ ⟨rfl, rfl⟩
  refine jl_nil (q_then (j_ret (q_ret rfl (.cellA (at_f rfl) Try.isAgg65 Try.sizeOf65 rfl (by first | exact cs_o) .nil) ?_)))
  exact ⟨_, ⟨rfl, rfl⟩, sbt⟩
theorem rule_s {w0 : World} {H : List (Nat × Obj)} (prio t : Int) (h : Hop) (hl : h.link = -1 ∨ 0 ≤ h.link) :
    FSpec Try.prog w0 54 #[.int .i64 prio, .int .i64 t, .agg (encH h).toArray] H (fun v H' => ∃ o a : Nat, v = .agg (encRule prio t h.step (outV o)).toArray ∧ H' = (o, Cl [outV a] 64) :: (a, Cl (encAlt h) 67) :: H) := by
  refine fn_spec Try.func54 rfl Try.ntmps54 rfl (j_seq (j_region (e_ (eff_box (T rfl) cs_) ?_ rfl)))
  rintro _ _ ⟨n5, rfl, rfl⟩
  refine e_ (eff_alloc Try.zeroValue56 cs_) ?_ rfl
  rintro _ _ ⟨n6, rfl, rfl⟩
  refine jl_nil (q_then (j_seq (j_region (y_ (yl_move (T rfl)) (y_ (yl_fa (T rfl) fa72_3) (y_ (yl_load (T rfl) Try.isAgg3 (by first | exact c_o)) ?_ rfl) rfl) rfl))))
  refine y_ (yl_build (.cons (T rfl) (.cons (T rfl) .nil)) (bd56_0_2 _ _)) (e_ (eff_alloc Try.zeroValue56 cs_) ?_ rfl) rfl
  rintro _ _ ⟨n7, rfl, rfl⟩
  first | refine jl_e (eff_sW (T rfl) (T rfl) Try.sizeOf56) rfl gd_n ?_
  rintro _ _ ⟨rfl, rfl⟩
  refine jl_nil (q_then (j_seq (j_region (y_ (yl_fa (T rfl) fa56_1) (y_ (yl_fa0 (T rfl) fa53_0) (y_ (yl_ixA (T rfl) ev_c Try.runUnderlying45 Try.sizeOf3 (by omega)) ?_ rfl) rfl) rfl))))
  first | refine jl_e (eff_sW (T rfl) ev_c Try.sizeOf3) rfl gd_n ?_ | refine jl_e (eff_s1 (T rfl) ev_c rfl Try.sizeOf3) rfl gd_n ?_ | refine jl_e (eff_s1r (T rfl) ev_c rfl Try.sizeOf3) rfl gd_n ?_
  rintro _ _ ⟨rfl, rfl⟩
  refine jl_nil (q_then (j_seq (j_region (y_ (yl_move (T rfl)) (y_ (yl_fa (T rfl) fa56_1) (y_ (yl_fa (T rfl) fa53_1) (y_ (yl_ixA (T rfl) ev_c Try.runUnderlying45 Try.sizeOf3 (by omega)) ?_ rfl) rfl) rfl) rfl))))
  first | refine jl_e (eff_sW (T rfl) (T rfl) Try.sizeOf3) rfl gd_n ?_ | refine jl_e (eff_s1 (T rfl) (T rfl) rfl Try.sizeOf3) rfl gd_n ?_ | refine jl_e (eff_s1r (T rfl) (T rfl) rfl Try.sizeOf3) rfl gd_n ?_
  rintro _ _ ⟨rfl, rfl⟩
  refine jl_nil (q_then (j_seq (j_region (y_ (yl_fa0 (T rfl) fa72_0) (y_ (yl_load (T rfl) Try.isAgg3 (by first | exact c_o)) ?_ rfl) rfl))))
  refine y_ (yl_build (.cons (T rfl) .nil) (bd67_0 _)) (e_ (eff_alloc Try.zeroValue67 cs_) ?_ rfl) rfl
  rintro _ _ ⟨n8, rfl, rfl⟩
  first | refine jl_e (eff_sW (T rfl) (T rfl) Try.sizeOf67) rfl gd_n ?_
  rintro _ _ ⟨rfl, rfl⟩
  refine jl_nil (q_then (j_seq (j_region (y_ (yl_fa (T rfl) fa67_1) (y_ (yl_fa0 (T rfl) fa65_0) (y_ (yl_ixA (T rfl) ev_c Try.runUnderlying45 Try.sizeOf3 (by omega)) ?_ rfl) rfl) rfl))))
  first | refine jl_e (eff_sW (T rfl) ev_c Try.sizeOf3) rfl gd_n ?_ | refine jl_e (eff_s1 (T rfl) ev_c rfl Try.sizeOf3) rfl gd_n ?_ | refine jl_e (eff_s1r (T rfl) ev_c rfl Try.sizeOf3) rfl gd_n ?_
  rintro _ _ ⟨rfl, rfl⟩
  refine jl_nil (q_then (j_keep [(5, _), (6, _), (7, _), (8, _)] ⟨at_f rfl, at_f rfl, at_f rfl, at_f rfl, trivial⟩ (j_seq (j_region (y_ (yl_fa (T rfl) fa72_1) (y_ (yl_load (T rfl) Try.isAgg3 (by first | exact c_o)) ?_ rfl) rfl)))))
  refine y_ (yl_fa (T rfl) fa67_1) (y_ (yl_fa (T rfl) fa65_1) (y_ (yl_ixA (T rfl) ev_c Try.runUnderlying45 Try.sizeOf3 (by omega)) ?_ rfl) rfl) rfl
  first | refine jl_e (eff_sW (T rfl) (T rfl) Try.sizeOf3) rfl gd_n ?_ | refine jl_e (eff_s1 (T rfl) (T rfl) rfl Try.sizeOf3) rfl gd_n ?_ | refine jl_e (eff_s1r (T rfl) (T rfl) rfl Try.sizeOf3) rfl gd_n ?_
  rintro _ _ ⟨rfl, rfl⟩
  refine jl_nil (q_then (j_seq (j_seq (j_region (y_ (yl_fa0 (T rfl) fa72_0) (y_ (yl_load (T rfl) Try.isAgg3 (by first | exact c_o)) ?_ rfl) rfl)))))
  refine y_ (yl_eql (T rfl) ev_c) (jl_nil (q_then ?_)) rfl
  first | refine j_cond_d (at_f rfl) (fun c33 => ?_) (fun c33 => ?_) | refine j_cond (at_f rfl) (fun c33 => ?_) (fun c33 => ?_)
  · refine j_seq (j_region (y_ (yl_fa (T rfl) fa67_1) (y_ (yl_fa0 (T rfl) fa65_0) (y_ (yl_ixA (T rfl) ev_c Try.runUnderlying45 Try.sizeOf3 (by omega)) ?_ rfl) rfl) rfl))
    first | refine jl_e (eff_sW (T rfl) ev_c Try.sizeOf3) rfl gd_n ?_ | refine jl_e (eff_s1 (T rfl) ev_c rfl Try.sizeOf3) rfl gd_n ?_ | refine jl_e (eff_s1r (T rfl) ev_c rfl Try.sizeOf3) rfl gd_n ?_
    rintro _ _ ⟨rfl, rfl⟩
    refine jl_nil (q_then (j_region (y_ (yl_fa (T rfl) fa72_2) (y_ (yl_load (T rfl) Try.isAgg3 (by first | exact c_o)) ?_ rfl) rfl)))
    refine y_ (yl_fa (T rfl) fa67_1) (y_ (yl_fa (T rfl) fa65_1) (y_ (yl_ixA (T rfl) ev_c Try.runUnderlying45 Try.sizeOf3 (by omega)) ?_ rfl) rfl) rfl
    first | refine jl_e (eff_sW (T rfl) (T rfl) Try.sizeOf3) rfl gd_n ?_ | refine jl_e (eff_s1 (T rfl) (T rfl) rfl Try.sizeOf3) rfl gd_n ?_ | refine jl_e (eff_s1r (T rfl) (T rfl) rfl Try.sizeOf3) rfl gd_n ?_
    rintro _ _ ⟨rfl, rfl⟩
    refine jl_nil (q_then (j_seq (j_region (y_ (yl_loadA (T rfl) Try.isAgg67 Try.sizeOf67 rfl (by first | exact cs_o)) ?_ rfl))))
    refine e_ (eff_bslice (.cons (T rfl) .nil) (bs64_1_0 _ _ _ _ _ _ _ _ _ _ _ _ _ _ _ _ _ _ _ _ _)) ?_ rfl
    rintro _ _ ⟨n43, rfl, rfl⟩
    refine e_ (eff_bslice (.cons (T rfl) .nil) (bs54_1_0 _ _ _)) ?_ rfl
    rintro _ _ ⟨n44, rfl, rfl⟩
    refine y_ (yl_fa (T rfl) fa56_3) ?_ rfl
    first | refine jl_e (eff_sW (T rfl) (T rfl) Try.sizeOf54) rfl gd_n ?_ | refine jl_e (eff_s1 (T rfl) (T rfl) rfl Try.sizeOf54) rfl gd_n ?_ | refine jl_e (eff_s1r (T rfl) (T rfl) rfl Try.sizeOf54) rfl gd_n ?_
    rintro _ _ ⟨rfl, rfl⟩
    refine jl_nil (q_then (j_keep [(6, _), (7, _)] ⟨at_f rfl, at_f rfl, trivial⟩ (j_seq (j_region (y_ (yl_loadA (T rfl) Try.isAgg56 Try.sizeOf56 rfl (by first | exact cs_o)) ?_ rfl)))))
    first | refine jl_e (eff_sW (T rfl) (T rfl) Try.sizeOf56) rfl gd_n ?_
    rintro _ _ ⟨rfl, rfl⟩
    refine jl_nil (q_then (j_ret (q_ret rfl (.cellA (at_f rfl) Try.isAgg56 Try.sizeOf56 rfl (by first | exact cs_o) .nil) ?_)))
    have ea : encAlt h = encAltE h.link h.port h.tag := by unfold encAlt; rw [if_pos (by omega)]
    exact ⟨_, ⟨n44, n43, rfl, by rw [ea]⟩, sbt⟩
  · refine j_skip (q_then (j_seq (j_region (y_ (yl_loadA (T rfl) Try.isAgg67 Try.sizeOf67 rfl (by first | exact cs_o)) ?_ rfl))))
    refine e_ (eff_bslice (.cons (T rfl) .nil) (bs64_1_0 _ _ _ _ _ _ _ _ _ _ _ _ _ _ _ _ _ _ _ _ _)) ?_ rfl
    rintro _ _ ⟨n43, rfl, rfl⟩
    refine e_ (eff_bslice (.cons (T rfl) .nil) (bs54_1_0 _ _ _)) ?_ rfl
    rintro _ _ ⟨n44, rfl, rfl⟩
    refine y_ (yl_fa (T rfl) fa56_3) ?_ rfl
    first | refine jl_e (eff_sW (T rfl) (T rfl) Try.sizeOf54) rfl gd_n ?_ | refine jl_e (eff_s1 (T rfl) (T rfl) rfl Try.sizeOf54) rfl gd_n ?_ | refine jl_e (eff_s1r (T rfl) (T rfl) rfl Try.sizeOf54) rfl gd_n ?_
    rintro _ _ ⟨rfl, rfl⟩
    refine jl_nil (q_then (j_seq (j_region (y_ (yl_loadA (T rfl) Try.isAgg56 Try.sizeOf56 rfl (by first | exact cs_o)) ?_ rfl))))
    first | refine jl_e (eff_sW (T rfl) (T rfl) Try.sizeOf56) rfl gd_n ?_
    rintro _ _ ⟨rfl, rfl⟩
    refine jl_nil (q_then (j_ret (q_ret rfl (.cellA (at_f rfl) Try.isAgg56 Try.sizeOf56 rfl (by first | exact cs_o) .nil) ?_)))
    have ea : encAlt h = encAltN h.link h.port := by unfold encAlt; rw [if_neg (by omega)]
    exact ⟨_, ⟨n44, n43, rfl, by rw [ea]⟩, sbt⟩
end Go.Proofs.Ytdbffighngmibaa
