/-
  Walk of the example.
-/
import Derived.Test.YtdbffighngmibaaVi
namespace Go.Proofs.Ytdbffighngmibaa
open Go.RowKit
set_option linter.unusedVariables false
set_option linter.unusedSimpArgs false
theorem bd121_2_3 (a0 : Int) (a1 : Int) (w : World) : (Instr.build 121 #[(2, .int .i64 a0), (3, .int .i64 a1)]).run Try.prog w = .ok (.agg #[.string ⟨#[]⟩, .bool false, .int .i64 a0, .int .i64 a1]) w := by kernel_rfl
theorem bd124_0_1 (a0 : ByteArray) (a1 : Int) (w : World) : (Instr.build 124 #[(0, .string a0), (1, .int .i64 a1)]).run Try.prog w = .ok (.agg #[.string a0, .int .i64 a1]) w := by kernel_rfl
theorem bd26_0 (a0 : Option Addr) (a0n a0c : Nat) (w : World) : (Instr.build 26 #[(0, .slice a0 a0n a0c)]).run Try.prog w = .ok (.agg #[.slice a0 a0n a0c, .slice none 0 0, .slice none 0 0]) w := by kernel_rfl
theorem bd48_0_1_2_4 (a0 : Int) (a1 : Option Addr) (a1n a1c : Nat) (a2 : Int) (a3 : Int) (w : World) : (Instr.build 48 #[(0, .int .i64 a0), (1, .slice a1 a1n a1c), (2, .int .i64 a2), (4, .int .i64 a3)]).run Try.prog w = .ok (.agg #[.int .i64 a0, .slice a1 a1n a1c, .int .i64 a2, .int .i64 0, .int .i64 a3]) w := by kernel_rfl
theorem bd63_0_1_2 (a0 : Int) (a1 : Int) (a2 : Int) (w : World) : (Instr.build 63 #[(0, .int .i64 a0), (1, .int .i64 a1), (2, .int .i64 a2)]).run Try.prog w = .ok (.agg #[.int .i64 a0, .int .i64 a1, .int .i64 a2]) w := by kernel_rfl
theorem bs127_1_0 (a0 : Int) (w : World) : (Instr.buildSlice 127 1 #[(0, .int .u8 a0)]).run Try.prog w = .ok (.slice (some ⟨w.heap.size, 0, none⟩) 1 1) (w.alloc (Cl [.int .u8 a0] 5)) := by kernel_rfl
theorem bs22_4_0_1_2_3 (a0 : ByteArray) (a1 : Bool) (a2 : Int) (a3 : Int) (a4 : ByteArray) (a5 : Bool) (a6 : Int) (a7 : Int) (a8 : ByteArray) (a9 : Bool) (a10 : Int) (a11 : Int) (a12 : ByteArray) (a13 : Bool) (a14 : Int) (a15 : Int) (w : World) : (Instr.buildSlice 22 4 #[(0, .agg #[.string a0, .bool a1, .int .i64 a2, .int .i64 a3]), (1, .agg #[.string a4, .bool a5, .int .i64 a6, .int .i64 a7]), (2, .agg #[.string a8, .bool a9, .int .i64 a10, .int .i64 a11]), (3, .agg #[.string a12, .bool a13, .int .i64 a14, .int .i64 a15])]).run Try.prog w = .ok (.slice (some ⟨w.heap.size, 0, none⟩) 4 4) (w.alloc (Cl [.string a0, .bool a1, .int .i64 a2, .int .i64 a3, .string a4, .bool a5, .int .i64 a6, .int .i64 a7, .string a8, .bool a9, .int .i64 a10, .int .i64 a11, .string a12, .bool a13, .int .i64 a14, .int .i64 a15] 121)) := by kernel_rfl
theorem bs23_6_0_1_2_3_4_5 (a0 : Int) (a1 : Int) (a2 : Int) (a3 : Int) (a4 : Int) (a5 : Int) (a6 : Int) (a7 : Int) (a8 : Int) (a9 : Int) (a10 : Int) (a11 : Int) (a12 : Int) (a13 : Int) (a14 : Int) (a15 : Int) (a16 : Int) (a17 : Int) (w : World) : (Instr.buildSlice 23 6 #[(0, .agg #[.int .i64 a0, .int .i64 a1, .int .i64 a2]), (1, .agg #[.int .i64 a3, .int .i64 a4, .int .i64 a5]), (2, .agg #[.int .i64 a6, .int .i64 a7, .int .i64 a8]), (3, .agg #[.int .i64 a9, .int .i64 a10, .int .i64 a11]), (4, .agg #[.int .i64 a12, .int .i64 a13, .int .i64 a14]), (5, .agg #[.int .i64 a15, .int .i64 a16, .int .i64 a17])]).run Try.prog w = .ok (.slice (some ⟨w.heap.size, 0, none⟩) 6 6) (w.alloc (Cl [.int .i64 a0, .int .i64 a1, .int .i64 a2, .int .i64 a3, .int .i64 a4, .int .i64 a5, .int .i64 a6, .int .i64 a7, .int .i64 a8, .int .i64 a9, .int .i64 a10, .int .i64 a11, .int .i64 a12, .int .i64 a13, .int .i64 a14, .int .i64 a15, .int .i64 a16, .int .i64 a17] 63)) := by kernel_rfl
theorem bs24_2_0_1 (a0 : ByteArray) (a1 : Int) (a2 : ByteArray) (a3 : Int) (w : World) : (Instr.buildSlice 24 2 #[(0, .agg #[.string a0, .int .i64 a1]), (1, .agg #[.string a2, .int .i64 a3])]).run Try.prog w = .ok (.slice (some ⟨w.heap.size, 0, none⟩) 2 2) (w.alloc (Cl [.string a0, .int .i64 a1, .string a2, .int .i64 a3] 124)) := by kernel_rfl
theorem example_s {w0 : World} {H : List (Nat × Obj)} :
    FSpec Try.prog w0 36 #[] H (fun v H' => ∃ (n1 n2 n3 : Nat) (a b c d : ByteArray), v = .agg (encNm (exN n1 n2 n3 a b c d)).toArray ∧ (a.size ≤ 1 ∧ b.size ≤ 1 ∧ c.size ≤ 1 ∧ d.size ≤ 1) ∧ H' = (n3, Cl (exEdges.flatMap encE) 124) :: (n2, Cl (exLinks.flatMap encL) 63) :: (n1, Cl (exC a b c d) 121) :: H) := by
  refine fn_spec Try.func36 rfl Try.ntmps36 rfl (j_seq (j_region (e_ (eff_alloc Try.zeroValue26 cs_) ?_ rfl)))
  rintro _ _ ⟨n0, rfl, rfl⟩
  refine jl_nil (q_then (j_seq (j_region (y_ (yl_build (.cons ev_c (.cons ev_c .nil)) (bd121_2_3 _ _)) (e_ (eff_alloc Try.zeroValue121 cs_) ?_ rfl) rfl))))
  rintro _ _ ⟨n1, rfl, rfl⟩
  first | refine jl_e (eff_sW (T rfl) (T rfl) Try.sizeOf121) rfl gd_n ?_
  rintro _ _ ⟨rfl, rfl⟩
  refine jl_nil (q_then (j_seq (j_region (y_ (yl_loadA (T rfl) Try.isAgg121 Try.sizeOf121 rfl (by first | exact cs_o)) ?_ rfl))))
  refine y_ (yl_loadA (T rfl) Try.isAgg121 Try.sizeOf121 rfl (by first | exact cs_o)) ?_ rfl
  refine y_ (yl_loadA (T rfl) Try.isAgg121 Try.sizeOf121 rfl (by first | exact cs_o)) ?_ rfl
  refine y_ (yl_loadA (T rfl) Try.isAgg121 Try.sizeOf121 rfl (by first | exact cs_o)) ?_ rfl
  refine e_ (eff_bslice (.cons (T rfl) (.cons (T rfl) (.cons (T rfl) (.cons (T rfl) .nil)))) (bs22_4_0_1_2_3 _ _ _ _ _ _ _ _ _ _ _ _ _ _ _ _)) ?_ rfl
  rintro _ _ ⟨n9, rfl, rfl⟩
  refine y_ (yl_build (.cons (T rfl) .nil) (bd26_0 _ _ _)) (e_ (eff_alloc Try.zeroValue26 cs_) ?_ rfl) rfl
  rintro _ _ ⟨n2, rfl, rfl⟩
  first | refine jl_e (eff_sW (T rfl) (T rfl) Try.sizeOf26) rfl gd_n ?_
  rintro _ _ ⟨rfl, rfl⟩
  refine jl_nil (q_then (j_seq (j_seq (j_region (y_ (yl_assign ev_c) (jl_nil (q_then (j_block ?_))) rfl)))))
  refine j_loopC (X := Nat × ByteArray × ByteArray × ByteArray × ByteArray) (V := fun ⟨k, a, b, c, d⟩ => [(3, .int .i64 (k : Nat))]) (C := [(0, _), (2, _)]) (G := fun ⟨k, a, b, c, d⟩ => (n2, Cl [.slice (some ⟨n9, 0, none⟩) 4 4, .slice none 0 0, .slice none 0 0] 26) :: (n9, Cl (exC a b c d) 121) :: (n1, Cl [.string ⟨#[]⟩, .bool false, .int .i64 100, .int .i64 100] 121) :: (n0, Cl [.slice none 0 0, .slice none 0 0, .slice none 0 0] 26) :: H) (φ := fun ⟨k, a, b, c, d⟩ => k ≤ 4 ∧ a.size ≤ 1 ∧ b.size ≤ 1 ∧ c.size ≤ 1 ∧ d.size ≤ 1) (μ := fun ⟨k, a, b, c, d⟩ => 4 - k) (x0 := (0, ⟨#[]⟩, ⟨#[]⟩, ⟨#[]⟩, ⟨#[]⟩)) ?_ ⟨at_f rfl, at_f rfl, trivial⟩ ⟨(by first | exact at_f rfl | (refine at_e (at_f rfl) (vint ?_); omega) | (refine at_e (at_f rfl) ?_; simp; done)), trivial⟩ sb0 ?_
  · exact ⟨by omega, by decide, by decide, by decide, by decide⟩
  rintro ⟨k, a, b, c, d⟩ ⟨hk, ha, hb, hc, hd⟩
  refine j_seq (j_seq (j_region (y_ (yl_move (T rfl)) (y_ (yl_lss (T rfl) ev_c) (jl_nil (q_then ?_)) rfl) rfl)))
  first | refine j_cond_d (at_f rfl) (fun c12 => ?_) (fun c12 => ?_) | refine j_cond (at_f rfl) (fun c12 => ?_) (fun c12 => ?_)
  · refine j_skip (q_then (j_seq (j_block (j_region (y_ (yl_fa0 (T rfl) fa26_0) (y_ (yl_load (T rfl) Try.isAgg22 (by first | exact c_o)) ?_ rfl) rfl)))))
    refine y_ (yl_move (T rfl)) (y_ (yl_move (T rfl)) (y_ (yl_add ev_c (T rfl) (by omega)) ?_ rfl) rfl) rfl
    refine y_ (yl_convI (T rfl) Try.runUnderlying3 Try.runUnderlying5) (e_ (eff_bslice (.cons (T rfl) .nil) (bs127_1_0 _)) ?_ rfl) rfl
    rintro _ _ ⟨n21, rfl, rfl⟩
    refine y_ (yl_convB (T rfl) Try.runUnderlying127 Try.runUnderlying5 Try.runUnderlying9 (by first | exact c_o)) ?_ rfl
    refine y_ (yl_ixQ (T rfl) (T rfl) Try.runUnderlying22 Try.sizeOf121 (by omega) (by first | exact rfl)) ?_ rfl
    refine y_ (yl_fa0 (T rfl) fa121_0) (e_ (eff_store1 (T rfl) (T rfl) rfl Try.sizeOf9 (ex_set (k := k) (by omega) a b c d _) (by repeat (first | exact Upd.h | apply Upd.t | apply upd_a))) ?_ rfl) rfl
    rintro _ _ ⟨rfl, rfl⟩
    refine jl_nil (q_block (q_then (j_region (y_ (yl_move (T rfl)) (y_ (yl_add (T rfl) ev_c (by omega)) ?_ rfl) rfl))))
    refine y_ (yl_assign (T rfl)) (jl_nil ?_) rfl
    refine q_loopC ((k + 1, if k = 0 then (⟨#[(IntKind.u8.wrap (97 + (k : Int))).toNat.toUInt8]⟩ : ByteArray) else a, if k = 1 then (⟨#[(IntKind.u8.wrap (97 + (k : Int))).toNat.toUInt8]⟩ : ByteArray) else b, if k = 2 then (⟨#[(IntKind.u8.wrap (97 + (k : Int))).toNat.toUInt8]⟩ : ByteArray) else c, if k = 3 then (⟨#[(IntKind.u8.wrap (97 + (k : Int))).toNat.toUInt8]⟩ : ByteArray) else d)) ?_ ?_ ⟨(by first | exact at_f rfl | (refine at_e (at_f rfl) (vint ?_); omega) | (refine at_e (at_f rfl) ?_; simp; done)), trivial⟩ ⟨at_f rfl, at_f rfl, trivial⟩ ?_
    · refine ⟨by omega, ?_, ?_, ?_, ?_⟩ <;> (split <;> first | assumption | exact Nat.le_refl _)
    · first | omega | (simp only []; omega)
    · exact sbt
  · refine j_exit (q_then_exit (q_loop_exit (q_block_hit (q_then (j_seq (j_region (y_ (yl_build (.cons ev_c (.cons ev_c (.cons ev_c .nil))) (bd63_0_1_2 _ _ _)) (y_ (yl_build (.cons ev_c (.cons ev_c (.cons ev_c .nil))) (bd63_0_1_2 _ _ _)) (y_ (yl_build (.cons ev_c (.cons ev_c (.cons ev_c .nil))) (bd63_0_1_2 _ _ _)) (y_ (yl_build (.cons ev_c (.cons ev_c (.cons ev_c .nil))) (bd63_0_1_2 _ _ _)) (y_ (yl_build (.cons ev_c (.cons ev_c (.cons ev_c .nil))) (bd63_0_1_2 _ _ _)) (y_ (yl_build (.cons ev_c (.cons ev_c (.cons ev_c .nil))) (bd63_0_1_2 _ _ _)) (e_ (eff_bslice (.cons (T rfl) (.cons (T rfl) (.cons (T rfl) (.cons (T rfl) (.cons (T rfl) (.cons (T rfl) .nil)))))) (bs23_6_0_1_2_3_4_5 _ _ _ _ _ _ _ _ _ _ _ _ _ _ _ _ _ _)) ?_ rfl) rfl) rfl) rfl) rfl) rfl) rfl)))))))
    rintro _ _ ⟨n31, rfl, rfl⟩
    refine y_ (yl_fa (T rfl) fa26_1) ?_ rfl
    first | refine jl_e (eff_sW (T rfl) (T rfl) Try.sizeOf23) rfl gd_n ?_ | refine jl_e (eff_s1 (T rfl) (T rfl) rfl Try.sizeOf23) rfl gd_n ?_ | refine jl_e (eff_s1r (T rfl) (T rfl) rfl Try.sizeOf23) rfl gd_n ?_
    rintro _ _ ⟨rfl, rfl⟩
    refine jl_nil (q_then (j_seq (j_region (y_ (yl_build (.cons ev_c (.cons ev_c .nil)) (bd124_0_1 _ _)) (y_ (yl_build (.cons ev_c (.cons ev_c .nil)) (bd124_0_1 _ _)) (e_ (eff_bslice (.cons (T rfl) (.cons (T rfl) .nil)) (bs24_2_0_1 _ _ _ _)) ?_ rfl) rfl) rfl))))
    rintro _ _ ⟨n35, rfl, rfl⟩
    refine y_ (yl_fa (T rfl) fa26_2) ?_ rfl
    first | refine jl_e (eff_sW (T rfl) (T rfl) Try.sizeOf24) rfl gd_n ?_ | refine jl_e (eff_s1 (T rfl) (T rfl) rfl Try.sizeOf24) rfl gd_n ?_ | refine jl_e (eff_s1r (T rfl) (T rfl) rfl Try.sizeOf24) rfl gd_n ?_
    rintro _ _ ⟨rfl, rfl⟩
    refine jl_nil (q_then (j_seq (j_region (y_ (yl_loadA (T rfl) Try.isAgg26 Try.sizeOf26 rfl (by first | exact cs_o)) ?_ rfl))))
    first | refine jl_e (eff_sW (T rfl) (T rfl) Try.sizeOf26) rfl gd_n ?_
    rintro _ _ ⟨rfl, rfl⟩
    refine jl_nil (q_then (j_ret (q_ret rfl (.cellA (at_f rfl) Try.isAgg26 Try.sizeOf26 rfl (by first | exact cs_o) .nil) ?_)))
    exact ⟨_, ⟨n9, n31, n35, a, b, c, d, rfl, ⟨ha, hb, hc, hd⟩, rfl⟩, sbt⟩
theorem way_s {w0 : World} {H : List (Nat × Obj)} (src : Int) (q : Option Addr) (path : List Int) (cap : Nat) :
    FSpec Try.prog w0 37 #[.int .i64 src, .slice q path.length cap] H (Still (.agg (encW ⟨⟨src, path, 10001, 0, -1⟩, q, cap⟩).toArray) H) := by
  refine fn_spec Try.func37 rfl Try.ntmps37 rfl (j_seq (j_region (e_ (eff_alloc Try.zeroValue48 cs_) ?_ rfl)))
  rintro _ _ ⟨n4, rfl, rfl⟩
  refine jl_nil (q_then (j_seq (j_region (y_ (yl_move (T rfl)) (y_ (yl_move (T rfl)) (y_ (yl_build (.cons (T rfl) (.cons (T rfl) (.cons ev_c (.cons ev_c .nil)))) (bd48_0_1_2_4 _ _ _ _ _ _)) ?_ rfl) rfl) rfl))))
  first | refine jl_e (eff_sW (T rfl) (T rfl) Try.sizeOf48) rfl gd_n ?_
  rintro _ _ ⟨rfl, rfl⟩
  refine jl_nil (q_then (j_ret (q_ret rfl (.cellA (at_f rfl) Try.isAgg48 Try.sizeOf48 rfl (by first | exact cs_o) .nil) ?_)))
  exact ⟨_, ⟨rfl, rfl⟩, sbt⟩
end Go.Proofs.Ytdbffighngmibaa
