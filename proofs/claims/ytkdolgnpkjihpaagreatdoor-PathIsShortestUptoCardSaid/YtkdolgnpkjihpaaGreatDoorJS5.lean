/-
  A part of what LawS rests on: the logic, walks and plain laws. No condition.
-/
import Derived.Test.YtkdolgnpkjihpaaGreatDoorJS4
import Derived.Test.YtkdolgnpkjihpaaGreatDoorRows
import Derived.WalkKit
import Derived.ProofKit
import Derived.OpenShut
import Derived.Lib.SmallJoins
import Derived.Deep.SlicePairs
import Derived.Test.YtkdolgnpkjihpaaGreatDoorCards
import Derived.Test.YtkdolgnpkjihpaaGreatDoorTie
import Derived.Deep.DeepHandedRow
namespace Go.Proofs.YtkdolgnpkjihpaaGreatDoor
open Go.RowKit
set_option linter.unusedVariables false
set_option linter.unusedSimpArgs false
theorem bs25_49_0_1_2_3_4_5_6_7_8_9_10_11_12_13_14_15_16_17_18_19_20_21_22_23_24_25_26_27_28_29_30_31_32_33_34_35_36_37_38_39_40_41_42_43_44_45_46_47_48 (a0 : ByteArray) (a1 : ByteArray) (a2 : ByteArray) (a3 : ByteArray) (a4 : ByteArray) (a5 : ByteArray) (a6 : ByteArray) (a7 : ByteArray) (a8 : ByteArray) (a9 : ByteArray) (a10 : ByteArray) (a11 : ByteArray) (a12 : ByteArray) (a13 : ByteArray) (a14 : ByteArray) (a15 : ByteArray) (a16 : ByteArray) (a17 : ByteArray) (a18 : ByteArray) (a19 : ByteArray) (a20 : ByteArray) (a21 : ByteArray) (a22 : ByteArray) (a23 : ByteArray) (a24 : ByteArray) (a25 : ByteArray) (a26 : ByteArray) (a27 : ByteArray) (a28 : ByteArray) (a29 : ByteArray) (a30 : ByteArray) (a31 : ByteArray) (a32 : ByteArray) (a33 : ByteArray) (a34 : ByteArray) (a35 : ByteArray) (a36 : ByteArray) (a37 : ByteArray) (a38 : ByteArray) (a39 : ByteArray) (a40 : ByteArray) (a41 : ByteArray) (a42 : ByteArray) (a43 : ByteArray) (a44 : ByteArray) (a45 : ByteArray) (a46 : ByteArray) (a47 : ByteArray) (a48 : ByteArray) (w : World) : (Instr.buildSlice 25 49 #[(0, .string a0), (1, .string a1), (2, .string a2), (3, .string a3), (4, .string a4), (5, .string a5), (6, .string a6), (7, .string a7), (8, .string a8), (9, .string a9), (10, .string a10), (11, .string a11), (12, .string a12), (13, .string a13), (14, .string a14), (15, .string a15), (16, .string a16), (17, .string a17), (18, .string a18), (19, .string a19), (20, .string a20), (21, .string a21), (22, .string a22), (23, .string a23), (24, .string a24), (25, .string a25), (26, .string a26), (27, .string a27), (28, .string a28), (29, .string a29), (30, .string a30), (31, .string a31), (32, .string a32), (33, .string a33), (34, .string a34), (35, .string a35), (36, .string a36), (37, .string a37), (38, .string a38), (39, .string a39), (40, .string a40), (41, .string a41), (42, .string a42), (43, .string a43), (44, .string a44), (45, .string a45), (46, .string a46), (47, .string a47), (48, .string a48)]).run Tryz.prog w = .ok (.slice (some ⟨w.heap.size, 0, none⟩) 49 49) (w.alloc (Cl [.string a0, .string a1, .string a2, .string a3, .string a4, .string a5, .string a6, .string a7, .string a8, .string a9, .string a10, .string a11, .string a12, .string a13, .string a14, .string a15, .string a16, .string a17, .string a18, .string a19, .string a20, .string a21, .string a22, .string a23, .string a24, .string a25, .string a26, .string a27, .string a28, .string a29, .string a30, .string a31, .string a32, .string a33, .string a34, .string a35, .string a36, .string a37, .string a38, .string a39, .string a40, .string a41, .string a42, .string a43, .string a44, .string a45, .string a46, .string a47, .string a48] 9)) := by kernel_rfl
theorem ch10_s {w0 : World} {H : List (Nat × Obj)} (c : Int) :
    FSpec Tryz.prog w0 176 #[.int .u8 c] H (fun v H' => (∃ t : Bool, v = .bool t) ∧ H' = H) := by
  refine fn_spec Tryz.func176 rfl Tryz.ntmps176 rfl (j_seq (j_region (y_ (yl_assign ev_c) (jl_nil (q_then (j_seq (j_region (y_ (yl_move (T rfl)) (y_ (yl_geq (T rfl) ev_c) (y_ (yl_move (T rfl)) ?_ rfl) rfl) rfl))))) rfl)))
  first | refine jl_if_d (s := 5) (at_f rfl) (fun c5 => ?_) (fun c5 => ?_) | refine jl_if (s := 5) (at_f rfl) (fun c5 => ?_) (fun c5 => ?_)
  · refine jl_y (yl_move (T rfl)) rfl (gd_y rfl rfl (at_f rfl)) (jl_y (yl_leq (T rfl) ev_c) rfl (gd_y rfl rfl (at_f rfl)) (y_ (yl_pick_t (T rfl) (T rfl)) (y_ (yl_assign (T rfl)) (jl_nil (q_then (j_ret (q_ret rfl (.tmp (at_f rfl) .nil) ?_)))) rfl) rfl))
    exact ⟨_, ⟨⟨_, rfl⟩, rfl⟩, sbt⟩
  · refine n_ft (n_ft (y_ (yl_pick_f (T rfl) ev_c) (y_ (yl_assign (T rfl)) (jl_nil (q_then (j_ret (q_ret rfl (.tmp (at_f rfl) .nil) ?_)))) rfl) rfl) rfl rfl rfl rfl) rfl rfl rfl rfl
    exact ⟨_, ⟨⟨_, rfl⟩, rfl⟩, sbt⟩
theorem dg10_s {w0 : World} {H : List (Nat × Obj)} (c : Int) :
    FSpec Tryz.prog w0 192 #[.int .u8 c] H (fun v H' => (∃ t : Bool, v = .bool t) ∧ H' = H) := by
  refine fn_spec Tryz.func192 rfl Tryz.ntmps192 rfl (j_seq (j_region (y_ (yl_assign ev_c) (jl_nil (q_then (j_seq (j_region (y_ (yl_move (T rfl)) (y_ (yl_geq (T rfl) ev_c) (y_ (yl_move (T rfl)) ?_ rfl) rfl) rfl))))) rfl)))
  first | refine jl_if_d (s := 5) (at_f rfl) (fun c5 => ?_) (fun c5 => ?_) | refine jl_if (s := 5) (at_f rfl) (fun c5 => ?_) (fun c5 => ?_)
  · refine jl_y (yl_move (T rfl)) rfl (gd_y rfl rfl (at_f rfl)) (jl_y (yl_leq (T rfl) ev_c) rfl (gd_y rfl rfl (at_f rfl)) (y_ (yl_pick_t (T rfl) (T rfl)) (y_ (yl_assign (T rfl)) (jl_nil (q_then (j_ret (q_ret rfl (.tmp (at_f rfl) .nil) ?_)))) rfl) rfl))
    exact ⟨_, ⟨⟨_, rfl⟩, rfl⟩, sbt⟩
  · refine n_ft (n_ft (y_ (yl_pick_f (T rfl) ev_c) (y_ (yl_assign (T rfl)) (jl_nil (q_then (j_ret (q_ret rfl (.tmp (at_f rfl) .nil) ?_)))) rfl) rfl) rfl rfl rfl rfl) rfl rfl rfl rfl
    exact ⟨_, ⟨⟨_, rfl⟩, rfl⟩, sbt⟩
theorem wb10_s {w0 : World} {H : List (Nat × Obj)} (c : Int) :
    FSpec Tryz.prog w0 188 #[.int .u8 c] H (fun v H' => (∃ t : Bool, v = .bool t) ∧ H' = H) := by
  refine fn_spec Tryz.func188 rfl Tryz.ntmps188 rfl (j_seq (j_region (y_ (yl_assign ev_c) (jl_nil (q_then (j_seq (j_region (y_ (yl_move (T rfl)) (e_ (eff_call (.cons (T rfl) .nil) Tryz.call176 (ch10_s _)) ?_ rfl) rfl))))) rfl)))
  rintro _ _ ⟨⟨t1, rfl⟩, rfl⟩
  refine y_ (yl_assign (T rfl)) (jl_nil (q_then (j_seq (j_region (y_ (yl_move (T rfl)) (e_ (eff_call (.cons (T rfl) .nil) Tryz.call192 (dg10_s _)) ?_ rfl) rfl))))) rfl
  rintro _ _ ⟨⟨t2, rfl⟩, rfl⟩
  refine y_ (yl_assign (T rfl)) (jl_nil (q_then (j_seq (j_region (y_ (yl_move (T rfl)) (y_ (yl_move (T rfl)) ?_ rfl) rfl))))) rfl
  first | refine jl_if_d (s := 10) (at_f rfl) (fun c10 => ?_) (fun c10 => ?_) | refine jl_if (s := 10) (at_f rfl) (fun c10 => ?_) (fun c10 => ?_)
  · refine n_tf (y_ (yl_pick_t (T rfl) ev_c) (y_ (yl_move (T rfl)) (n_tf (n_tf (y_ (yl_pick_t (T rfl) ev_c) (y_ (yl_assign (T rfl)) (jl_nil (q_then (j_ret (q_ret rfl (.tmp (at_f rfl) .nil) ?_)))) rfl) rfl) rfl rfl rfl rfl) rfl rfl rfl rfl) rfl) rfl) rfl rfl rfl rfl
    exact ⟨_, ⟨⟨_, rfl⟩, rfl⟩, sbt⟩
  · refine jl_y (yl_move (T rfl)) rfl (gd_y rfl rfl (at_f rfl)) (y_ (yl_pick_f (T rfl) (T rfl)) (y_ (yl_move (T rfl)) ?_ rfl) rfl)
    first | refine jl_if_d (s := 13) (at_f rfl) (fun c13 => ?_) (fun c13 => ?_) | refine jl_if (s := 13) (at_f rfl) (fun c13 => ?_) (fun c13 => ?_)
    · refine n_tf (n_tf (y_ (yl_pick_t (T rfl) ev_c) (y_ (yl_assign (T rfl)) (jl_nil (q_then (j_ret (q_ret rfl (.tmp (at_f rfl) .nil) ?_)))) rfl) rfl) rfl rfl rfl rfl) rfl rfl rfl rfl
      exact ⟨_, ⟨⟨_, rfl⟩, rfl⟩, sbt⟩
    · refine jl_y (yl_move (T rfl)) rfl (gd_y rfl rfl (at_f rfl)) (jl_y (yl_eql (T rfl) ev_c) rfl (gd_y rfl rfl (at_f rfl)) (y_ (yl_pick_f (T rfl) (T rfl)) (y_ (yl_assign (T rfl)) (jl_nil (q_then (j_ret (q_ret rfl (.tmp (at_f rfl) .nil) ?_)))) rfl) rfl))
      exact ⟨_, ⟨⟨_, rfl⟩, rfl⟩, sbt⟩
theorem run10_s {w0 : World} {H : List (Nat × Obj)} (s : ByteArray) (hs : s.size ≤ 9223372036854775807) :
    FSpec Tryz.prog w0 178 #[.string s] H (fun v H' => (∃ t : Int, v = .int .i64 t) ∧ H' = H) := by
  refine fn_spec Tryz.func178 rfl Tryz.ntmps178 rfl (j_seq (j_region (y_ (yl_assign ev_c) (jl_nil (q_then (j_seq (j_region (y_ (yl_assign ev_c) (jl_nil (q_then (j_seq (j_block ?_)))) rfl))))) rfl)))
  refine j_loopH (X := Nat) (V := fun k => [(3, .int .i64 (k : Nat))]) (C := [(0, _)]) (φ := fun k => k ≤ s.size) (μ := fun k => s.size - k) (x0 := 0) ?_ ⟨at_f rfl, trivial⟩ ⟨(by first | exact at_f rfl | (refine at_e (at_f rfl) (vint ?_); omega) | (refine at_e (at_f rfl) ?_; simp; done)), trivial⟩ ?_
  · exact Nat.zero_le _
  rintro k hk
  refine j_seq (j_seq (j_region (y_ (yl_move (T rfl)) (y_ (yl_move (T rfl)) (y_ (yl_len_s (T rfl) Tryz.runUnderlying9) (y_ (yl_lss (T rfl) (T rfl)) (jl_nil (q_then ?_)) rfl) rfl) rfl) rfl)))
  first | refine j_cond_d (at_f rfl) (fun c8 => ?_) (fun c8 => ?_) | refine j_cond (at_f rfl) (fun c8 => ?_) (fun c8 => ?_)
  · refine j_skip (q_then (j_block (j_seq (j_region (y_ (yl_move (T rfl)) (y_ (yl_move (T rfl)) (y_ (yl_sidx (T rfl) (T rfl) Tryz.runUnderlying9 (by omega)) ?_ rfl) rfl) rfl)))))
    refine e_ (eff_call (.cons (T rfl) .nil) Tryz.call188 (wb10_s _)) ?_ rfl
    rintro _ _ ⟨⟨t, rfl⟩, rfl⟩
    refine y_ (yl_assign (T rfl)) (jl_nil (q_then (j_seq (j_seq (j_region (y_ (yl_move (T rfl)) ?_ rfl)))))) rfl
    first | refine jl_y (yl_not_d (T rfl)) rfl gd_n ?_ | refine jl_y (yl_not (T rfl)) rfl gd_n ?_
    refine jl_nil (q_then ?_)
    first | refine j_cond_d (at_f rfl) (fun c14 => ?_) (fun c14 => ?_) | refine j_cond (at_f rfl) (fun c14 => ?_) (fun c14 => ?_)
    · refine j_exit (q_then_exit (q_block_miss rfl (q_loop_exit (q_block_hit (q_then (j_seq (j_region (y_ (yl_move (T rfl)) (y_ (yl_assign (T rfl)) (jl_nil (q_then (j_ret (q_ret rfl (.tmp (at_f rfl) .nil) ?_)))) rfl) rfl))))))))
      exact ⟨_, ⟨⟨_, rfl⟩, rfl⟩, sbt⟩
    · refine j_skip (q_then (j_region (y_ (yl_move (T rfl)) (y_ (yl_add (T rfl) ev_c (by omega)) ?_ rfl) rfl)))
      refine y_ (yl_assign (T rfl)) (jl_nil (q_block ?_)) rfl
      refine q_loopC (k + 1) ?_ ?_ ⟨(by first | exact at_f rfl | (refine at_e (at_f rfl) (vint ?_); omega) | (refine at_e (at_f rfl) ?_; simp; done)), trivial⟩ ⟨at_f rfl, trivial⟩ ?_
      · show k + 1 ≤ _; omega
      · first | omega | (simp only []; omega)
      · exact sbt
  · refine j_exit (q_then_exit (q_loop_exit (q_block_hit (q_then (j_seq (j_region (y_ (yl_move (T rfl)) (y_ (yl_assign (T rfl)) (jl_nil (q_then (j_ret (q_ret rfl (.tmp (at_f rfl) .nil) ?_)))) rfl) rfl)))))))
    exact ⟨_, ⟨⟨_, rfl⟩, rfl⟩, sbt⟩
def wordsL : List ByteArray := [⟨#[97,110,100]⟩, ⟨#[97,110,121]⟩, ⟨#[97,116]⟩, ⟨#[98,97,99,107]⟩, ⟨#[98,111,120]⟩, ⟨#[98,117,114,115,116]⟩, ⟨#[98,121]⟩, ⟨#[99,97,112,97,99,105,116,121]⟩, ⟨#[99,101,105,108,105,110,103]⟩, ⟨#[99,104,101,99,107]⟩, ⟨#[99,111,110,116,114,97,99,116]⟩, ⟨#[99,111,117,110,116]⟩, ⟨#[100,101,109,97,110,100]⟩, ⟨#[100,114,111,112]⟩, ⟨#[101,97,99,104]⟩, ⟨#[101,100,103,101]⟩, ⟨#[101,110,116,114,105,101,115]⟩, ⟨#[102,97,108,115,101]⟩, ⟨#[102,105,101,108,100]⟩, ⟨#[102,108,111,111,114]⟩, ⟨#[102,114,111,109]⟩, ⟨#[105,100]⟩, ⟨#[105,110]⟩, ⟨#[105,110,110,101,114]⟩, ⟨#[105,110,116,111]⟩, ⟨#[108,105,110,107]⟩, ⟨#[110,101,116,119,111,114,107]⟩, ⟨#[110,111,100,101]⟩, ⟨#[110,111,116]⟩, ⟨#[111,112,101,110]⟩, ⟨#[111,114]⟩, ⟨#[112,97,116,104]⟩, ⟨#[112,111,114,116]⟩, ⟨#[112,114,105,99,101]⟩, ⟨#[114,111,117,116,101]⟩, ⟨#[114,117,108,101,115]⟩, ⟨#[115,116,97,103,101]⟩, ⟨#[116,97,107,101]⟩, ⟨#[116,101,110,97,110,116]⟩, ⟨#[116,104,101,110]⟩, ⟨#[116,105,109,101]⟩, ⟨#[116,111]⟩, ⟨#[116,111,107,101,110]⟩, ⟨#[116,114,97,110,115,108,97,116,101]⟩, ⟨#[116,114,117,101]⟩, ⟨#[118,105,97]⟩, ⟨#[119,105,100,116,104]⟩, ⟨#[119,105,114,101]⟩, ⟨#[119,105,116,104,105,110]⟩]
theorem words_s {w0 : World} {H : List (Nat × Obj)}  :
    FSpec Tryz.prog w0 187 #[] H (fun v H' => (∃ n : Nat, v = .slice (some ⟨n, 0, none⟩) 49 49 ∧ H' = (n, Cl (wordsL.flatMap encS) 9) :: H)) := by
  refine fn_spec Tryz.func187 rfl Tryz.ntmps187 rfl (j_seq (j_region (y_ (yl_assign ev_c) (jl_nil (q_then (j_seq (j_region (e_ (eff_bslice (.cons ev_c (.cons ev_c (.cons ev_c (.cons ev_c (.cons ev_c (.cons ev_c (.cons ev_c (.cons ev_c (.cons ev_c (.cons ev_c (.cons ev_c (.cons ev_c (.cons ev_c (.cons ev_c (.cons ev_c (.cons ev_c (.cons ev_c (.cons ev_c (.cons ev_c (.cons ev_c (.cons ev_c (.cons ev_c (.cons ev_c (.cons ev_c (.cons ev_c (.cons ev_c (.cons ev_c (.cons ev_c (.cons ev_c (.cons ev_c (.cons ev_c (.cons ev_c (.cons ev_c (.cons ev_c (.cons ev_c (.cons ev_c (.cons ev_c (.cons ev_c (.cons ev_c (.cons ev_c (.cons ev_c (.cons ev_c (.cons ev_c (.cons ev_c (.cons ev_c (.cons ev_c (.cons ev_c (.cons ev_c (.cons ev_c .nil))))))))))))))))))))))))))))))))))))))))))))))))) (bs25_49_0_1_2_3_4_5_6_7_8_9_10_11_12_13_14_15_16_17_18_19_20_21_22_23_24_25_26_27_28_29_30_31_32_33_34_35_36_37_38_39_40_41_42_43_44_45_46_47_48 _ _ _ _ _ _ _ _ _ _ _ _ _ _ _ _ _ _ _ _ _ _ _ _ _ _ _ _ _ _ _ _ _ _ _ _ _ _ _ _ _ _ _ _ _ _ _ _ _)) ?_ rfl))))) rfl)))
  rintro _ _ ⟨n1, rfl, rfl⟩
  refine y_ (yl_assign (T rfl)) (jl_nil (q_then (j_ret (q_ret rfl (.tmp (at_f rfl) .nil) ?_)))) rfl
  exact ⟨_, ⟨_, rfl, rfl⟩, sbt⟩
theorem isw_s {w0 : World} {H : List (Nat × Obj)} (s : ByteArray) :
    FSpec Tryz.prog w0 177 #[.string s] H (fun v H' => (∃ t : Bool, v = .bool t) ∧ H' = H) := by
  refine fn_spec Tryz.func177 rfl Tryz.ntmps177 rfl (j_seq (j_region (y_ (yl_assign ev_c) (jl_nil (q_then (j_seq (j_region (e_ (eff_call .nil Tryz.call187 (words_s)) ?_ rfl))))) rfl)))
  rintro _ _ ⟨n5, rfl, rfl⟩
  refine y_ (yl_assign (T rfl)) (jl_nil (q_then (j_seq (j_seq (j_region (y_ (yl_assign ev_c) (jl_nil (q_then (j_block ?_))) rfl)))))) rfl
  refine j_loopH (X := Nat) (V := fun k => [(4, .int .i64 (k : Nat))]) (C := [(0, _), (3, _)]) (φ := fun k => k ≤ 49) (μ := fun k => 49 - k) (x0 := 0) ?_ ⟨at_f rfl, at_f rfl, trivial⟩ ⟨(by first | exact at_f rfl | (refine at_e (at_f rfl) (vint ?_); omega) | (refine at_e (at_f rfl) ?_; simp; done)), trivial⟩ ?_
  · exact Nat.zero_le _
  rintro k hk
  refine j_seq (j_seq (j_region (y_ (yl_move (T rfl)) (y_ (yl_move (T rfl)) (y_ (yl_len (T rfl) Tryz.runUnderlying25) (y_ (yl_lss (T rfl) (T rfl)) (jl_nil (q_then ?_)) rfl) rfl) rfl) rfl)))
  first | refine j_cond_d (at_f rfl) (fun c9 => ?_) (fun c9 => ?_) | refine j_cond (at_f rfl) (fun c9 => ?_) (fun c9 => ?_)
  · refine j_skip (q_then (j_seq (j_block (j_seq (j_region (y_ (yl_move (T rfl)) (y_ (yl_move (T rfl)) (y_ (yl_ixQ (T rfl) (T rfl) Tryz.runUnderlying25 Tryz.sizeOf9 (by omega) (by first | exact rfl | exact (by rfl))) ?_ rfl) rfl) rfl))))))
    refine y_ (yl_load (T rfl) Tryz.isAgg9 (by first | exact c_o | exact cell1 ((arr_blk (l := wordsL) (sz := 1) (enc := encS) (fun _ => rfl) rfl (by repeat (first | exact fnd_h | refine fnd_t ?_ | refine fnd_a ?_))).cs (i := k) (show k < 49 by omega)))) ?_ rfl
    refine y_ (yl_move (T rfl)) (y_ (yl_eqSD (T rfl) (T rfl)) (jl_nil (q_then ?_)) rfl) rfl
    first | refine j_cond_d (at_f rfl) (fun c17 => ?_) (fun c17 => ?_) | refine j_cond (at_f rfl) (fun c17 => ?_) (fun c17 => ?_)
    · refine j_seq (j_region (y_ (yl_assign ev_c) (jl_nil (q_then (j_ret (q_block_ret (q_then_ret (q_loop_ret (q_block_ret (q_then_ret (q_ret rfl (.tmp (at_f rfl) .nil) ?_))))))))) rfl))
      exact ⟨_, ⟨⟨_, rfl⟩, rfl⟩, sbt⟩
    · refine j_skip (q_block (q_then (j_region (y_ (yl_move (T rfl)) (y_ (yl_add (T rfl) ev_c (by omega)) ?_ rfl) rfl))))
      refine y_ (yl_assign (T rfl)) (jl_nil ?_) rfl
      refine q_loopC (k + 1) ?_ ?_ ⟨(by first | exact at_f rfl | (refine at_e (at_f rfl) (vint ?_); omega) | (refine at_e (at_f rfl) ?_; simp; done)), trivial⟩ ⟨at_f rfl, at_f rfl, trivial⟩ ?_
      · show k + 1 ≤ _; omega
      · first | omega | (simp only []; omega)
      · exact sbt
  · refine j_exit (q_then_exit (q_loop_exit (q_block_hit (q_then (j_seq (j_region (y_ (yl_assign ev_c) (jl_nil (q_then (j_ret (q_ret rfl (.tmp (at_f rfl) .nil) ?_)))) rfl)))))))
    exact ⟨_, ⟨⟨_, rfl⟩, rfl⟩, sbt⟩
theorem name10_s {w0 : World} {H : List (Nat × Obj)} (s : ByteArray) (hs : s.size ≤ 9223372036854775807) :
    FSpec Tryz.prog w0 158 #[.string s] H (fun v H' => (∃ t : Bool, v = .bool t ∧ (t = true → s.size ≠ 0)) ∧ H' = H) := by
  refine fn_spec Tryz.func158 rfl Tryz.ntmps158 rfl (j_seq (j_region (y_ (yl_assign ev_c) (jl_nil (q_then (j_seq (j_seq (j_region (y_ (yl_move (T rfl)) (y_ (yl_len_s (T rfl) Tryz.runUnderlying9) (y_ (yl_eql (T rfl) ev_c) (y_ (yl_move (T rfl)) ?_ rfl) rfl) rfl) rfl)))))) rfl)))
  first | refine jl_if_d (s := 8) (at_f rfl) (fun c8 => ?_) (fun c8 => ?_) | refine jl_if (s := 8) (at_f rfl) (fun c8 => ?_) (fun c8 => ?_)
  · refine n_tf (n_tf (n_tf (y_ (yl_pick_t (T rfl) ev_c) (jl_nil (q_then ?_)) rfl) rfl rfl rfl rfl) rfl rfl rfl rfl) rfl rfl rfl rfl
    first | refine j_cond_t (at_f rfl) ?_ | refine j_cond_t (at_e (at_f rfl) (vbool (decide_eq_true c12))) ?_
    refine j_seq (j_region (y_ (yl_assign ev_c) (jl_nil (q_then (j_ret (q_then_ret (q_ret rfl (.tmp (at_f rfl) .nil) ?_))))) rfl))
    exact ⟨_, ⟨⟨_, rfl, fun h => (by first | omega | cases h)⟩, rfl⟩, sbt⟩
  · refine jl_y (yl_move (T rfl)) rfl (gd_y rfl rfl (at_f rfl)) (jl_y (yl_len_s (T rfl) Tryz.runUnderlying9) rfl (gd_y rfl rfl (at_f rfl)) (jl_y (yl_gtr (T rfl) ev_c) rfl (gd_y rfl rfl (at_f rfl)) (y_ (yl_pick_f (T rfl) (T rfl)) (jl_nil (q_then ?_)) rfl)))
    first | refine j_cond_d (at_f rfl) (fun c12 => ?_) (fun c12 => ?_) | refine j_cond (at_f rfl) (fun c12 => ?_) (fun c12 => ?_)
    · refine j_seq (j_region (y_ (yl_assign ev_c) (jl_nil (q_then (j_ret (q_then_ret (q_ret rfl (.tmp (at_f rfl) .nil) ?_))))) rfl))
      exact ⟨_, ⟨⟨_, rfl, fun h => (by first | omega | cases h)⟩, rfl⟩, sbt⟩
    · refine j_skip (q_then (j_seq (j_region (y_ (yl_move (T rfl)) (y_ (yl_sidx (T rfl) ev_c Tryz.runUnderlying9 (by show 0 < s.size; omega)) ?_ rfl) rfl))))
      refine e_ (eff_call (.cons (T rfl) .nil) Tryz.call176 (ch10_s _)) ?_ rfl
      rintro _ _ ⟨⟨t1, rfl⟩, rfl⟩
      refine y_ (yl_assign (T rfl)) (jl_nil (q_then (j_seq (j_region (y_ (yl_move (T rfl)) (e_ (eff_call (.cons (T rfl) .nil) Tryz.call177 (isw_s s)) ?_ rfl) rfl))))) rfl
      rintro _ _ ⟨⟨t2, rfl⟩, rfl⟩
      refine y_ (yl_assign (T rfl)) (jl_nil (q_then (j_seq (j_region (y_ (yl_move (T rfl)) (y_ (yl_move (T rfl)) ?_ rfl) rfl))))) rfl
      first | refine jl_if_d (s := 19) (at_f rfl) (fun c19 => ?_) (fun c19 => ?_) | refine jl_if (s := 19) (at_f rfl) (fun c19 => ?_) (fun c19 => ?_)
      · refine jl_y (yl_move (T rfl)) rfl (gd_y rfl rfl (at_f rfl)) (jl_e (eff_call (.cons (T rfl) .nil) Tryz.call178 (run10_s s hs)) rfl (gd_y rfl rfl (at_f rfl)) ?_)
        rintro _ _ ⟨⟨t3, rfl⟩, rfl⟩
        refine jl_y (yl_move (T rfl)) rfl (gd_y rfl rfl (at_f rfl)) (jl_y (yl_len_s (T rfl) Tryz.runUnderlying9) rfl (gd_y rfl rfl (at_f rfl)) (jl_y (yl_eql (T rfl) (T rfl)) rfl (gd_y rfl rfl (at_f rfl)) (y_ (yl_pick_t (T rfl) (T rfl)) (y_ (yl_move (T rfl)) ?_ rfl) rfl)))
        first | refine jl_if_d (s := 26) (at_f rfl) (fun c26 => ?_) (fun c26 => ?_) | refine jl_if (s := 26) (at_f rfl) (fun c26 => ?_) (fun c26 => ?_)
        · refine jl_y (yl_move (T rfl)) rfl (gd_y rfl rfl (at_f rfl)) ?_
          first | refine jl_y (yl_not_d (T rfl)) rfl (gd_y rfl rfl (at_f rfl)) ?_ | refine jl_y (yl_not (T rfl)) rfl (gd_y rfl rfl (at_f rfl)) ?_
          refine y_ (yl_pick_t (T rfl) (T rfl)) (y_ (yl_assign (T rfl)) (jl_nil (q_then (j_keep [(2, _)] ⟨at_f rfl, trivial⟩ (j_ret (q_ret rfl (.tmp (at_f rfl) .nil) ?_))))) rfl) rfl
          exact ⟨_, ⟨⟨_, rfl, fun h => (by first | omega | cases h)⟩, rfl⟩, sbt⟩
        · refine n_ft (n_ft (y_ (yl_pick_f (T rfl) ev_c) (y_ (yl_assign (T rfl)) (jl_nil (q_then (j_keep [(2, _)] ⟨at_f rfl, trivial⟩ (j_ret (q_ret rfl (.tmp (at_f rfl) .nil) ?_))))) rfl) rfl) rfl rfl rfl rfl) rfl rfl rfl rfl
          exact ⟨_, ⟨⟨_, rfl, fun h => (by first | omega | cases h)⟩, rfl⟩, sbt⟩
      · refine n_ft (n_ft (n_ft (n_ft (n_ft (y_ (yl_pick_f (T rfl) ev_c) (y_ (yl_move (T rfl)) (n_ft (n_ft (y_ (yl_pick_f (T rfl) ev_c) (y_ (yl_assign (T rfl)) (jl_nil (q_then (j_keep [(2, _)] ⟨at_f rfl, trivial⟩ (j_ret (q_ret rfl (.tmp (at_f rfl) .nil) ?_))))) rfl) rfl) rfl rfl rfl rfl) rfl rfl rfl rfl) rfl) rfl) rfl rfl rfl rfl) rfl rfl rfl rfl) rfl rfl rfl rfl) rfl rfl rfl rfl) rfl rfl rfl rfl
        exact ⟨_, ⟨⟨_, rfl, fun h => (by first | omega | cases h)⟩, rfl⟩, sbt⟩
theorem plain_s {w0 : World} {H : List (Nat × Obj)} (s : ByteArray) (hs : s.size ≤ 9223372036854775807) :
    FSpec Tryz.prog w0 137 #[.string s] H (fun v H' => (∃ t : Bool, v = .bool t ∧ (t = true → s.size ≠ 0)) ∧ H' = H) := by
  refine fn_spec Tryz.func137 rfl Tryz.ntmps137 rfl (j_seq (j_region (y_ (yl_assign ev_c) (jl_nil (q_then (j_seq (j_region (y_ (yl_move (T rfl)) (e_ (eff_call (.cons (T rfl) .nil) Tryz.call158 (name10_s s hs)) ?_ rfl) rfl))))) rfl)))
  rintro _ _ ⟨⟨t1, rfl, h1⟩, rfl⟩
  refine y_ (yl_assign (T rfl)) (jl_nil (q_then (j_ret (q_ret rfl (.tmp (at_f rfl) .nil) ?_)))) rfl
  exact ⟨_, ⟨⟨_, rfl, h1⟩, rfl⟩, sbt⟩
end Go.Proofs.YtkdolgnpkjihpaaGreatDoor
namespace Go.Proofs.YtkdolgnpkjihpaaGreatDoor
open Go.RowKit
set_option linter.unusedVariables false
set_option linter.unusedSimpArgs false
theorem bd150_0_1 (a0 : Int) (a1 : Int) (w : World) : (Instr.build 150 #[(0, .int .i64 a0), (1, .int .i64 a1)]).run Tryz.prog w = .ok (.agg #[.int .i64 a0, .int .i64 a1]) w := by kernel_rfl
theorem fa150_0 (b o : Nat) (w : World) : (Instr.fieldAt 150 (.pointer (some ⟨b, o, none⟩)) 0).run Tryz.prog w = .ok (.pointer (some ⟨b, o, none⟩)) w := by kernel_rfl
theorem fa150_1 (b o : Nat) (w : World) : (Instr.fieldAt 150 (.pointer (some ⟨b, o, none⟩)) 1).run Tryz.prog w = .ok (.pointer (some ⟨b, o + 1, none⟩)) w := by kernel_rfl
mutual
def Rxm.sz : Rxm → Nat
  | .mk _ _ _ _ xs => 1 + szL xs
def szL : List Rxm → Nat
  | [] => 0
  | x :: xs => x.sz + szL xs
end
theorem sz_eq (m : Rxm) : m.sz = 1 + szL m.args := by cases m; rfl
theorem szL_app : ∀ (a b : List Rxm), szL (a ++ b) = szL a + szL b
  | [], b => by simp [szL]
  | x :: a, b => by simp only [List.cons_append, szL, szL_app a b]; omega
theorem szL_take {l : List Rxm} {i : Nat} (h : i < l.length) : szL (l.take (i + 1)) = szL (l.take i) + (gd l i).sz := by
  rw [take_gd h, szL_app]; simp [szL]
theorem szL_le : ∀ (l : List Rxm) (i : Nat), szL (l.take i) ≤ szL l
  | [], i => by simp [szL]
  | x :: l, 0 => by simp [szL]
  | x :: l, i + 1 => by simp only [List.take_succ_cons, szL]; have := szL_le l i; omega
theorem szL_len : ∀ l : List Rxm, l.length ≤ szL l
  | [] => Nat.le_refl _
  | x :: l => by simp only [List.length_cons, szL]; have := szL_len l; have := sz_eq x; omega
theorem sz_mem {m a : Rxm} (h : a ∈ m.args) : a.sz < m.sz := by
  rw [sz_eq m]
  have : ∀ l : List Rxm, a ∈ l → a.sz ≤ szL l := fun l => by
    induction l with
    | nil => intro h; cases h
    | cons x l ih =>
      intro h
      rcases List.mem_cons.1 h with rfl | h
      · simp only [szL]; omega
      · have := ih h; simp only [szL]; omega
  have := this _ h; omega
theorem RxM.arr {w0 : World} {H : List (Nat × Obj)} {m : Rxm} (h : RxM w0 H m) : Arr w0 H m.q 3 encRx m.args := by cases h; assumption
theorem RxM.arg {w0 : World} {H : List (Nat × Obj)} {m a : Rxm} (h : RxM w0 H m) (ha : a ∈ m.args) : RxM w0 H a := by cases h; rename_i h1 h2 h3 h4; exact h2 _ ha
theorem RxM.nl {w0 : World} {H : List (Nat × Obj)} {m : Rxm} (h : RxM w0 H m) : m.node.size ≤ 9223372036854775807 := by cases h; assumption
theorem RxM.al {w0 : World} {H : List (Nat × Obj)} {m : Rxm} (h : RxM w0 H m) : m.args.length ≤ 9223372036854775807 := by cases h; assumption
theorem rx_ind {Q : Rxm → Prop} (h : ∀ m, (∀ a ∈ m.args, Q a) → Q m) : ∀ m, Q m := fun m => by
  have : ∀ n (m : Rxm), m.sz ≤ n → Q m := fun n => by
    induction n with
    | zero => intro m hm; rw [sz_eq] at hm; omega
    | succ n ih => intro m hm; exact h m fun a ha => ih a (by have := sz_mem ha; omega)
  exact this _ m (Nat.le_refl _)
def cntS (w0 : World) (m : Rxm) : Prop := ∀ H : List (Nat × Obj), RxM w0 H m → m.sz ≤ 1048576 → FSpec Tryz.prog w0 41 #[.agg (encRx m).toArray] H (Still (.int .i64 (m.sz : Nat)) H)
theorem cnt_step {w0 : World} {H : List (Nat × Obj)} (m : Rxm) (hM : RxM w0 H m) (hz : m.sz ≤ 1048576) (ih : ∀ a ∈ m.args, cntS w0 a) :
    FSpec Tryz.prog w0 41 #[.agg (encRx m).toArray] H (Still (.int .i64 (m.sz : Nat)) H) := by
  refine fn_spec Tryz.func41 rfl Tryz.ntmps41 rfl ?_
  have hse := sz_eq m
  have hln := szL_len m.args
  have hA := hM.arr
  refine j_seq (j_region (e_ (eff_box (T rfl) cs_) ?_ rfl))
  rintro _ _ ⟨n1, rfl, rfl⟩
  refine y_ (yl_assign ev_c) (jl_nil (q_then (j_seq (j_region (y_ (yl_assign ev_c) (jl_nil (q_then (j_seq (j_seq (j_region (y_ (yl_assign ev_c) (jl_nil (q_then (j_block ?_))) rfl)))))) rfl))))) rfl
  refine j_loopH (X := Nat) (V := fun i => [(4, .int .i64 (i : Nat)), (3, .int .i64 (1 + szL (m.args.take i) : Nat))]) (C := [(1, _)]) (φ := fun i => i ≤ m.args.length) (μ := fun i => m.args.length - i) (x0 := 0) ?_ ⟨at_f rfl, trivial⟩ ⟨(by first | exact at_f rfl | (refine at_e (at_f rfl) (vint ?_); omega) | (refine at_e (at_f rfl) ?_; simp; done)), (by first | exact at_f rfl | (refine at_e (at_f rfl) (vint ?_); omega) | (refine at_e (at_f rfl) ?_; simp; done)), trivial⟩ ?_
  · exact Nat.zero_le _
  rintro i hi
  have htk : i < m.args.length → szL (m.args.take (i + 1)) = szL (m.args.take i) + (gd m.args i).sz := fun h => szL_take h
  have htl := szL_le m.args (i + 1)
  have htl0 := szL_le m.args i
  refine j_seq (j_seq (j_region (y_ (yl_move (T rfl)) (y_ (yl_fa (T rfl) fa24_2) (y_ (yl_load (T rfl) Tryz.isAgg22 (by first | exact c_o)) ?_ rfl) rfl) rfl)))
  refine y_ (yl_len (T rfl) Tryz.runUnderlying22) (y_ (yl_lss (T rfl) (T rfl)) (jl_nil (q_then ?_)) rfl) rfl
  first | refine j_cond_d (at_f rfl) (fun c9 => ?_) (fun c9 => ?_) | refine j_cond (at_f rfl) (fun c9 => ?_) (fun c9 => ?_)
  · refine j_skip (q_then (j_seq (j_block (j_region (y_ (yl_move (T rfl)) (y_ (yl_fa (T rfl) fa24_2) (y_ (yl_load (T rfl) Tryz.isAgg22 (by first | exact c_o)) ?_ rfl) rfl) rfl)))))
    refine y_ (yl_move (T rfl)) (y_ (yl_ixQ (T rfl) (T rfl) Tryz.runUnderlying22 Tryz.sizeOf24 (by omega) (by first | exact rfl | exact hA.b (i := i) (by omega))) ?_ rfl) rfl
    refine y_ (yl_loadA (T rfl) Tryz.isAgg24 Tryz.sizeOf24 rfl (by first | exact (hA.mono sbt).cs (i := i) (by omega) | exact cs_o)) ?_ rfl
    refine y_ (yl_call (.cons (T rfl) .nil) Tryz.call41 (fun H' hs => ih _ (gd_mem (i := i) (by omega)) _ ((hM.arg (gd_mem (i := i) (by omega))).mono (List.Sublist.trans sbt hs)) (by omega))) ?_ rfl
    refine y_ (yl_add (T rfl) (T rfl) (by omega)) ?_ rfl
    refine y_ (yl_assign (T rfl)) (jl_nil (q_block (q_then (j_region (y_ (yl_move (T rfl)) (y_ (yl_add (T rfl) ev_c (by omega)) ?_ rfl) rfl))))) rfl
    refine y_ (yl_assign (T rfl)) (jl_nil ?_) rfl
    refine q_loopC (i + 1) ?_ ?_ ⟨(by first | exact at_f rfl | (refine at_e (at_f rfl) (vint ?_); omega) | (refine at_e (at_f rfl) ?_; simp; done)), (by first | exact at_f rfl | (refine at_e (at_f rfl) (vint ?_); omega) | (refine at_e (at_f rfl) ?_; simp; done)), trivial⟩ ⟨at_f rfl, trivial⟩ ?_
    · show i + 1 ≤ _; omega
    · first | omega | (simp only []; omega)
    · exact sbt
  · refine j_exit (q_then_exit (q_loop_exit (q_block_hit (q_then (j_seq (j_region (y_ (yl_move (T rfl)) (y_ (yl_assign (T rfl)) (jl_nil (q_then (j_ret (q_ret rfl (.tmp (at_f rfl) .nil) ?_)))) rfl) rfl)))))))
    exact ⟨_, ⟨vint (by rw [List.take_of_length_le (by omega)]; omega), rfl⟩, sbt⟩
theorem cnt_s {w0 : World} {H : List (Nat × Obj)} (m : Rxm) (hM : RxM w0 H m) (hz : m.sz ≤ 1048576) : FSpec Tryz.prog w0 41 #[.agg (encRx m).toArray] H (Still (.int .i64 (m.sz : Nat)) H) :=
  rx_ind (Q := cntS w0) (fun m ih H hM hz => cnt_step m hM hz ih) m H hM hz
def strS (w0 : World) (m : Rxm) : Prop := ∀ H : List (Nat × Obj), RxM w0 H m → m.sz ≤ 1048576 → FSpec Tryz.prog w0 42 #[.agg (encRx m).toArray] H (fun v H' => (∃ t : Nat, v = .int .i64 (t : Nat) ∧ t ≤ m.sz) ∧ H' = H)
theorem str_step {w0 : World} {H : List (Nat × Obj)} (m : Rxm) (hM : RxM w0 H m) (hz : m.sz ≤ 1048576) (ih : ∀ a ∈ m.args, strS w0 a) :
    FSpec Tryz.prog w0 42 #[.agg (encRx m).toArray] H (fun v H' => (∃ t : Nat, v = .int .i64 (t : Nat) ∧ t ≤ m.sz) ∧ H' = H) := by
  refine fn_spec Tryz.func42 rfl Tryz.ntmps42 rfl ?_
  have hse := sz_eq m
  have hln := szL_len m.args
  have hA := hM.arr
  refine j_seq (j_region (e_ (eff_box (T rfl) cs_) ?_ rfl))
  rintro _ _ ⟨n1, rfl, rfl⟩
  refine y_ (yl_assign ev_c) (jl_nil (q_then (j_seq (j_region (y_ (yl_assign ev_c) (jl_nil (q_then (j_seq (j_seq (j_region (y_ (yl_assign ev_c) (jl_nil (q_then (j_block ?_))) rfl)))))) rfl))))) rfl
  refine j_loopH (X := Nat × Nat) (V := fun ⟨i, r⟩ => [(4, .int .i64 (i : Nat)), (3, .int .i64 (r : Nat))]) (C := [(1, _)]) (φ := fun ⟨i, r⟩ => i ≤ m.args.length ∧ r ≤ szL m.args) (μ := fun ⟨i, r⟩ => m.args.length - i) (x0 := (0, 0)) ?_ ⟨at_f rfl, trivial⟩ ⟨(by first | exact at_f rfl | (refine at_e (at_f rfl) (vint ?_); omega) | (refine at_e (at_f rfl) ?_; simp; done)), (by first | exact at_f rfl | (refine at_e (at_f rfl) (vint ?_); omega) | (refine at_e (at_f rfl) ?_; simp; done)), trivial⟩ ?_
  · exact ⟨Nat.zero_le _, Nat.zero_le _⟩
  rintro ⟨i, r⟩ ⟨hi, hr⟩
  have htk : i < m.args.length → szL (m.args.take (i + 1)) = szL (m.args.take i) + (gd m.args i).sz := fun h => szL_take h
  have htl := szL_le m.args (i + 1)
  have htl0 := szL_le m.args i
  refine j_seq (j_seq (j_region (y_ (yl_move (T rfl)) (y_ (yl_fa (T rfl) fa24_2) (y_ (yl_load (T rfl) Tryz.isAgg22 (by first | exact c_o)) ?_ rfl) rfl) rfl)))
  refine y_ (yl_len (T rfl) Tryz.runUnderlying22) (y_ (yl_lss (T rfl) (T rfl)) (jl_nil (q_then ?_)) rfl) rfl
  first | refine j_cond_d (at_f rfl) (fun c9 => ?_) (fun c9 => ?_) | refine j_cond (at_f rfl) (fun c9 => ?_) (fun c9 => ?_)
  · refine j_skip (q_then (j_seq (j_block (j_region (y_ (yl_move (T rfl)) (y_ (yl_fa (T rfl) fa24_2) (y_ (yl_load (T rfl) Tryz.isAgg22 (by first | exact c_o)) ?_ rfl) rfl) rfl)))))
    refine y_ (yl_move (T rfl)) (y_ (yl_ixQ (T rfl) (T rfl) Tryz.runUnderlying22 Tryz.sizeOf24 (by omega) (by first | exact rfl | exact hA.b (i := i) (by omega))) ?_ rfl) rfl
    refine y_ (yl_loadA (T rfl) Tryz.isAgg24 Tryz.sizeOf24 rfl (by first | exact (hA.mono sbt).cs (i := i) (by omega) | exact cs_o)) ?_ rfl
    refine e_ (eff_call (.cons (T rfl) .nil) Tryz.call42 (ih _ (gd_mem (i := i) (by omega)) _ ((hM.arg (gd_mem (i := i) (by omega))).mono sbt) (by omega))) ?_ rfl
    rintro _ _ ⟨⟨t, rfl, ht⟩, rfl⟩
    refine y_ (yl_max (T rfl) (T rfl)) (y_ (yl_assign (T rfl)) (jl_nil (q_block (q_then (j_region (y_ (yl_move (T rfl)) (y_ (yl_add (T rfl) ev_c (by omega)) ?_ rfl) rfl))))) rfl) rfl
    refine y_ (yl_assign (T rfl)) (jl_nil ?_) rfl
    refine q_loopC ((i + 1, max r t)) ?_ ?_ ⟨(by first | exact at_f rfl | (refine at_e (at_f rfl) (vint ?_); omega) | (refine at_e (at_f rfl) ?_; simp; done)), (by first | exact at_f rfl | (refine at_e (at_f rfl) (vint ?_); omega) | (refine at_e (at_f rfl) ?_; simp; done)), trivial⟩ ⟨at_f rfl, trivial⟩ ?_
    · exact ⟨by omega, by omega⟩
    · first | omega | (simp only []; omega)
    · exact sbt
  · refine j_exit (q_then_exit (q_loop_exit (q_block_hit (q_then (j_seq (j_seq (j_region (y_ (yl_fa0 (T rfl) fa24_0) (y_ (yl_load (T rfl) Tryz.isAgg3 (by first | exact c_o)) ?_ rfl) rfl))))))))
    refine y_ (yl_eql (T rfl) ev_c) (jl_nil (q_then ?_)) rfl
    first | refine j_cond_d (at_f rfl) (fun c22 => ?_) (fun c22 => ?_) | refine j_cond (at_f rfl) (fun c22 => ?_) (fun c22 => ?_)
    · refine j_region (y_ (yl_move (T rfl)) (y_ (yl_add (T rfl) ev_c (by omega)) ?_ rfl) rfl)
      refine y_ (yl_assign (T rfl)) (jl_nil (q_then (j_seq (j_region (y_ (yl_move (T rfl)) (y_ (yl_assign (T rfl)) (jl_nil (q_then (j_ret (q_ret rfl (.tmp (at_f rfl) .nil) ?_)))) rfl) rfl))))) rfl
      exact ⟨_, ⟨⟨r + 1, rfl, by omega⟩, rfl⟩, sbt⟩
    · refine j_skip (q_then (j_seq (j_region (y_ (yl_move (T rfl)) (y_ (yl_assign (T rfl)) (jl_nil (q_then (j_ret (q_ret rfl (.tmp (at_f rfl) .nil) ?_)))) rfl) rfl))))
      exact ⟨_, ⟨⟨r, rfl, by omega⟩, rfl⟩, sbt⟩
theorem str_s {w0 : World} {H : List (Nat × Obj)} (m : Rxm) (hM : RxM w0 H m) (hz : m.sz ≤ 1048576) : FSpec Tryz.prog w0 42 #[.agg (encRx m).toArray] H (fun v H' => (∃ t : Nat, v = .int .i64 (t : Nat) ∧ t ≤ m.sz) ∧ H' = H) :=
  rx_ind (Q := strS w0) (fun m ih H hM hz => str_step m hM hz ih) m H hM hz
theorem more_s {w0 : World} {H : List (Nat × Obj)} (a b c d : Nat) (h : a + b + c + d ≤ 1000000000) :
    FSpec Tryz.prog w0 136 #[.agg #[.int .i64 (a : Nat), .int .i64 (b : Nat)], .agg #[.int .i64 (c : Nat), .int .i64 (d : Nat)]] H (Still (.agg #[.int .i64 ((a + c : Nat) : Int), .int .i64 ((max b (d + 1) : Nat) : Int)]) H) := by
  refine fn_spec Tryz.func136 rfl Tryz.ntmps136 rfl (j_seq (j_region (e_ (eff_box (T rfl) cs_) ?_ rfl)))
  rintro _ _ ⟨n2, rfl, rfl⟩
  refine e_ (eff_box (T rfl) cs_) ?_ rfl
  rintro _ _ ⟨n3, rfl, rfl⟩
  refine e_ (eff_alloc Tryz.zeroValue150 cs_) ?_ rfl
  rintro _ _ ⟨n4, rfl, rfl⟩
  refine jl_nil (q_then (j_seq (j_region (y_ (yl_fa0 (T rfl) fa150_0) (y_ (yl_load (T rfl) Tryz.isAgg3 (by first | exact c_o)) ?_ rfl) rfl))))
  refine y_ (yl_fa0 (T rfl) fa150_0) (y_ (yl_load (T rfl) Tryz.isAgg3 (by first | exact c_o)) ?_ rfl) rfl
  refine y_ (yl_add (T rfl) (T rfl) (by omega)) ?_ rfl
  refine y_ (yl_fa (T rfl) fa150_1) (y_ (yl_load (T rfl) Tryz.isAgg3 (by first | exact c_o)) ?_ rfl) rfl
  refine y_ (yl_fa (T rfl) fa150_1) (y_ (yl_load (T rfl) Tryz.isAgg3 (by first | exact c_o)) ?_ rfl) rfl
  refine y_ (yl_add (T rfl) ev_c (by omega)) ?_ rfl
  refine y_ (yl_max (T rfl) (T rfl)) (y_ (yl_build (.cons (T rfl) (.cons (T rfl) .nil)) (bd150_0_1 _ _)) ?_ rfl) rfl
  first | refine jl_e (eff_sW (T rfl) (T rfl) Tryz.sizeOf150) rfl gd_n ?_
  rintro _ _ ⟨rfl, rfl⟩
  refine jl_nil (q_then (j_ret (q_ret rfl (.cellA (at_f rfl) Tryz.isAgg150 Tryz.sizeOf150 rfl (by first | exact cs_o) .nil) ?_)))
  exact ⟨_, ⟨by rw [show ((a + c : Nat) : Int) = a + c by omega, show ((max b (d + 1) : Nat) : Int) = max (b : Int) ((d : Int) + 1) by omega]; rfl, rfl⟩, sbt⟩
def sizS (w0 : World) (m : Rxm) : Prop := ∀ H : List (Nat × Obj), RxM w0 H m → m.sz ≤ 1048576 → FSpec Tryz.prog w0 98 #[.agg (encRx m).toArray] H (fun v H' => (∃ d : Nat, v = .agg #[.int .i64 (m.sz : Nat), .int .i64 (d : Nat)] ∧ d ≤ m.sz) ∧ H' = H)
theorem siz_step {w0 : World} {H : List (Nat × Obj)} (m : Rxm) (hM : RxM w0 H m) (hz : m.sz ≤ 1048576) (ih : ∀ a ∈ m.args, sizS w0 a) :
    FSpec Tryz.prog w0 98 #[.agg (encRx m).toArray] H (fun v H' => (∃ d : Nat, v = .agg #[.int .i64 (m.sz : Nat), .int .i64 (d : Nat)] ∧ d ≤ m.sz) ∧ H' = H) := by
  refine fn_spec Tryz.func98 rfl Tryz.ntmps98 rfl ?_
  have hse := sz_eq m
  have hln := szL_len m.args
  have hA := hM.arr
  refine j_seq (j_region (e_ (eff_box (T rfl) cs_) ?_ rfl))
  rintro _ _ ⟨n1, rfl, rfl⟩
  refine e_ (eff_alloc Tryz.zeroValue150 cs_) ?_ rfl
  rintro _ _ ⟨n2, rfl, rfl⟩
  refine jl_nil (q_then (j_seq (j_region (y_ (yl_build (.cons ev_c (.cons ev_c .nil)) (bd150_0_1 _ _)) (e_ (eff_alloc Tryz.zeroValue150 cs_) ?_ rfl) rfl))))
  rintro _ _ ⟨n3, rfl, rfl⟩
  first | refine jl_e (eff_sW (T rfl) (T rfl) Tryz.sizeOf150) rfl gd_n ?_
  rintro _ _ ⟨rfl, rfl⟩
  refine jl_nil (q_then (j_seq (j_seq (j_region (y_ (yl_assign ev_c) (jl_nil (q_then (j_block ?_))) rfl)))))
  refine j_loopC (X := Nat × Nat) (V := fun ⟨i, d⟩ => [(4, .int .i64 (i : Nat))]) (C := [(1, _), (2, _), (3, _)]) (G := fun ⟨i, d⟩ => (n3, Cl [.int .i64 ((1 + szL (m.args.take i) : Nat) : Int), .int .i64 (d : Nat)] 150) :: (n2, Cl [.int .i64 0, .int .i64 0] 150) :: (n1, Cl (encRx m) 24) :: H) (φ := fun ⟨i, d⟩ => i ≤ m.args.length ∧ d ≤ 1 + szL (m.args.take i)) (μ := fun ⟨i, d⟩ => m.args.length - i) (x0 := (0, 1)) ?_ ⟨at_f rfl, at_f rfl, at_f rfl, trivial⟩ ⟨(by first | exact at_f rfl | (refine at_e (at_f rfl) (vint ?_); omega) | (refine at_e (at_f rfl) ?_; simp; done)), trivial⟩ sb0 ?_
  · exact ⟨Nat.zero_le _, by omega⟩
  rintro ⟨i, d⟩ ⟨hi, hd⟩
  have htk : i < m.args.length → szL (m.args.take (i + 1)) = szL (m.args.take i) + (gd m.args i).sz := fun h => szL_take h
  have htl := szL_le m.args (i + 1)
  have htl0 := szL_le m.args i
  refine j_seq (j_seq (j_region (y_ (yl_move (T rfl)) (y_ (yl_fa (T rfl) fa24_2) (y_ (yl_load (T rfl) Tryz.isAgg22 (by first | exact c_o)) ?_ rfl) rfl) rfl)))
  refine y_ (yl_len (T rfl) Tryz.runUnderlying22) (y_ (yl_lss (T rfl) (T rfl)) (jl_nil (q_then ?_)) rfl) rfl
  first | refine j_cond_d (at_f rfl) (fun c10 => ?_) (fun c10 => ?_) | refine j_cond (at_f rfl) (fun c10 => ?_) (fun c10 => ?_)
  · refine j_skip (q_then (j_seq (j_block (j_any 8 [(0, true), (1, true), (2, true), (3, true), (4, true), (5, true), (6, false), (7, true)] _ mixd (by kernel_rfl) sb0 ?_))))
    refine o_y rfl (yl_loadA (T rfl) Tryz.isAgg150 Tryz.sizeOf150 rfl (by first | exact cs_o)) ?_ rfl gd_n
    refine o_y rfl (yl_fa (T rfl) fa24_2) (o_y rfl (yl_load (T rfl) Tryz.isAgg22 (by first | exact c_o)) ?_ rfl gd_n) rfl gd_n
    refine o_y rfl (yl_move (T rfl)) (o_y rfl (yl_ixQ (T rfl) (T rfl) Tryz.runUnderlying22 Tryz.sizeOf24 (by omega) (by first | exact rfl | exact hA.b (i := i) (by omega))) ?_ rfl gd_n) rfl gd_n
    refine o_y rfl (yl_loadA (T rfl) Tryz.isAgg24 Tryz.sizeOf24 rfl (by first | exact (hA.mono sbt).cs (i := i) (by omega) | exact cs_o)) ?_ rfl gd_n
    refine o_e rfl (eff_call (.cons (T rfl) .nil) Tryz.call98 (ih _ (gd_mem (i := i) (by omega)) _ ((hM.arg (gd_mem (i := i) (by omega))).mono sbt) (by omega))) ?_ rfl gd_n
    rintro _ _ ⟨⟨t, rfl, ht⟩, rfl⟩
    refine ⟨sbt, (o_y rfl (yl_call (.cons (T rfl) (.cons (T rfl) .nil)) Tryz.call136 (fun H' hs => more_s (1 + szL (m.args.take i)) d (gd m.args i).sz t (by omega))) ?_ rfl gd_n)⟩
    refine jo_nil rfl ?_
    first | refine jl_e (eff_sW (T rfl) (T rfl) Tryz.sizeOf150) rfl gd_n ?_
    rintro _ _ ⟨rfl, rfl⟩
    refine jl_nil (q_block (q_then (j_region (y_ (yl_move (T rfl)) (y_ (yl_add (T rfl) ev_c (by omega)) ?_ rfl) rfl))))
    refine y_ (yl_assign (T rfl)) (jl_nil ?_) rfl
    have htk := szL_take (l := m.args) (i := i) (by omega)
    have htl := szL_le m.args (i + 1)
    have hgm := sz_mem (gd_mem (l := m.args) (i := i) (by omega))
    rw [show 1 + szL (m.args.take i) + (gd m.args i).sz = 1 + szL (m.args.take (i + 1)) by omega]
    refine q_loopC ((i + 1, max d (t + 1))) ?_ ?_ ⟨(by first | exact at_f rfl | (refine at_e (at_f rfl) (vint ?_); omega) | (refine at_e (at_f rfl) ?_; simp; done)), trivial⟩ ⟨at_f rfl, at_f rfl, at_f rfl, trivial⟩ ?_
    · exact ⟨by omega, by omega⟩
    · first | omega | (simp only []; omega)
    · exact sbt
  · refine j_exit (q_then_exit (q_loop_exit (q_block_hit (q_then (j_seq (j_region (y_ (yl_loadA (T rfl) Tryz.isAgg150 Tryz.sizeOf150 rfl (by first | exact cs_o)) ?_ rfl)))))))
    first | refine jl_e (eff_sW (T rfl) (T rfl) Tryz.sizeOf150) rfl gd_n ?_
    rintro _ _ ⟨rfl, rfl⟩
    refine jl_nil (q_then (j_ret (q_ret rfl (.cellA (at_f rfl) Tryz.isAgg150 Tryz.sizeOf150 rfl (by first | exact cs_o) .nil) ?_)))
    rw [List.take_of_length_le (by omega)] at *
    exact ⟨_, ⟨⟨d, by rw [hse]; rfl, by omega⟩, rfl⟩, sbt⟩
theorem siz_s {w0 : World} {H : List (Nat × Obj)} (m : Rxm) (hM : RxM w0 H m) (hz : m.sz ≤ 1048576) : FSpec Tryz.prog w0 98 #[.agg (encRx m).toArray] H (fun v H' => (∃ d : Nat, v = .agg #[.int .i64 (m.sz : Nat), .int .i64 (d : Nat)] ∧ d ≤ m.sz) ∧ H' = H) :=
  rx_ind (Q := sizS w0) (fun m ih H hM hz => siz_step m hM hz ih) m H hM hz
end Go.Proofs.YtkdolgnpkjihpaaGreatDoor
namespace Go.Proofs.YtkdolgnpkjihpaaGreatDoor
open Go.RowKit
set_option linter.unusedVariables false
set_option linter.unusedSimpArgs false
def WantOk (m : Rxm) (w : Nat) (ok : Bool) : Prop := ((m.kind = 1 ∨ m.kind = 3) ∧ w = 0 ∧ (ok = true → m.node = ⟨#[]⟩)) ∨ (m.kind = 2 ∧ w = 0 ∧ (ok = true → m.node.size ≠ 0)) ∨ ((m.kind = 4 ∨ m.kind = 5) ∧ w = 2 ∧ (ok = true → m.node = ⟨#[]⟩)) ∨ (m.kind = 6 ∧ w = 1 ∧ (ok = true → m.node = ⟨#[]⟩))
theorem WantOk.le {m : Rxm} {w : Nat} {ok : Bool} (h : WantOk m w ok) : w ≤ 2 := by unfold WantOk at h; omega
theorem want_is {m : Rxm} {w : Nat} (h : WantOk m w true) (hl : m.args.length = w) (hp : ∀ j, j < w → ∃ e, Is (gd m.args j) e) : ∃ e, Is m e := by
  obtain ⟨k, s, q, c, xs⟩ := m
  simp only [WantOk, Rxm.kind, Rxm.node, Rxm.args] at h hl hp
  rcases h with ⟨hk, rfl, hn⟩ | ⟨rfl, rfl, hn⟩ | ⟨hk, rfl, hn⟩ | ⟨rfl, rfl, hn⟩
  · have := List.eq_nil_of_length_eq_zero hl; subst this
    have := hn trivial; subst this
    rcases hk with rfl | rfl
    · exact ⟨_, .emp⟩
    · exact ⟨_, .any⟩
  · have := List.eq_nil_of_length_eq_zero hl; subst this
    exact ⟨_, .nod (hn trivial)⟩
  · match xs, hl with
    | [a, b], _ =>
      have := hn trivial; subst this
      obtain ⟨e1, h1⟩ := hp 0 (by omega)
      obtain ⟨e2, h2⟩ := hp 1 (by omega)
      rcases hk with rfl | rfl
      · exact ⟨_, .seq h1 h2⟩
      · exact ⟨_, .alt h1 h2⟩
  · match xs, hl with
    | [a], _ =>
      have := hn trivial; subst this
      obtain ⟨e1, h1⟩ := hp 0 (by omega)
      exact ⟨_, .star h1⟩
theorem Is.lvz {m : Rxm} {e : Re} (h : Is m e) : 2 * e.lv ≤ m.sz + 1 := by
  induction h with
  | emp => simp [Re.lv]
  | nod _ => simp [Re.lv, Rxm.sz, szL]
  | any => simp [Re.lv, Rxm.sz, szL]
  | seq h1 h2 i1 i2 => simp only [Re.lv, Rxm.sz, szL]; omega
  | alt h1 h2 i1 i2 => simp only [Re.lv, Rxm.sz, szL]; omega
  | star h1 i1 => simp only [Re.lv, Rxm.sz, szL]; omega
theorem nd_nil {s : ByteArray} {b : Bool} (e : b = decide (s.data.toList = (⟨#[]⟩ : ByteArray).data.toList)) (h : b = true) : s = ⟨#[]⟩ := by
  rw [h] at e
  exact ByteArray.ext (Array.ext' (of_decide_eq_true e.symm))
def fmdS (w0 : World) (m : Rxm) : Prop := ∀ H : List (Nat × Obj), RxM w0 H m → m.sz ≤ 1048576 → FSpec Tryz.prog w0 99 #[.agg (encRx m).toArray] H (fun v H' => (∃ t : Bool, v = .bool t ∧ (t = true → ∃ e, Is m e)) ∧ H' = H)
theorem fmd_step {w0 : World} {H : List (Nat × Obj)} (m : Rxm) (hM : RxM w0 H m) (hz : m.sz ≤ 1048576) (ih : ∀ a ∈ m.args, fmdS w0 a) :
    FSpec Tryz.prog w0 99 #[.agg (encRx m).toArray] H (fun v H' => (∃ t : Bool, v = .bool t ∧ (t = true → ∃ e, Is m e)) ∧ H' = H) := by
  refine fn_spec Tryz.func99 rfl Tryz.ntmps99 rfl ?_
  have hse := sz_eq m
  have hln := szL_len m.args
  have hA := hM.arr
  refine j_seq (j_region (e_ (eff_box (T rfl) cs_) ?_ rfl))
  rintro _ _ ⟨n1, rfl, rfl⟩
  refine y_ (yl_assign ev_c) (jl_nil (q_then (j_seq (j_region (y_ (yl_fa (T rfl) fa24_1) (y_ (yl_load (T rfl) Tryz.isAgg9 (by first | exact c_o)) ?_ rfl) rfl))))) rfl
  refine e_ (eff_call (.cons (T rfl) .nil) Tryz.call137 (plain_s m.node hM.nl)) ?_ rfl
  rintro _ _ ⟨⟨t1, rfl, ht1⟩, rfl⟩
  refine y_ (yl_assign (T rfl)) (jl_nil (q_then (j_seq (j_region (y_ (yl_assign ev_c) (jl_nil (q_then (j_seq (j_region (y_ (yl_fa (T rfl) fa24_1) (y_ (yl_load (T rfl) Tryz.isAgg9 (by first | exact c_o)) ?_ rfl) rfl))))) rfl))))) rfl
  refine y_ (yl_eqSD (T rfl) ev_c) (y_ (yl_assign (T rfl)) (jl_nil (q_then ?_)) rfl) rfl
  refine j_cutH (X := Nat × Bool) (V := fun ⟨wn, ok⟩ => [(4, .int .i64 (wn : Nat)), (5, .bool ok)]) (C := [(1, _)]) (φ := fun ⟨wn, ok⟩ => WantOk m wn ok) ⟨at_f rfl, trivial⟩ ?_ ?_
  · refine j_seq (j_region (y_ (yl_fa0 (T rfl) fa24_0) (y_ (yl_load (T rfl) Tryz.isAgg3 (by first | exact c_o)) ?_ rfl) rfl))
    refine jl_nil (q_then (j_block (j_seq (j_seq (j_region (y_ (yl_eql (T rfl) ev_c) (y_ (yl_assign (T rfl)) (jl_nil (q_then ?_)) rfl) rfl))))))
    first | refine j_cond_d (at_f rfl) (fun c16 => ?_) (fun c16 => ?_) | refine j_cond (at_f rfl) (fun c16 => ?_) (fun c16 => ?_)
    · refine j_skip (q_then ?_)
      first | refine j_cond_t (at_f rfl) ?_ | refine j_cond_t (at_e (at_f rfl) (vbool (decide_eq_true c16))) ?_
      refine j_region (y_ (yl_assign ev_c) (jl_nil (q_block ?_)) rfl)
      refine q_cutC ((0, _)) ?_ ⟨(by first | exact at_f rfl | (refine at_e (at_f rfl) (vint ?_); omega) | (refine at_e (at_f rfl) ?_; simp; done)), (by first | exact at_f rfl | (refine at_e (at_f rfl) (vint ?_); omega) | (refine at_e (at_f rfl) ?_; simp; done)), trivial⟩ ⟨at_f rfl, trivial⟩ sbt
      first | exact .inl ⟨by omega, rfl, fun h => nd_nil rfl h⟩ | exact .inr (.inl ⟨by omega, rfl, ht1⟩) | exact .inr (.inr (.inl ⟨by omega, rfl, fun h => nd_nil rfl h⟩)) | exact .inr (.inr (.inr ⟨by omega, rfl, fun h => nd_nil rfl h⟩))
    · refine j_region (y_ (yl_eql (T rfl) ev_c) (y_ (yl_assign (T rfl)) (jl_nil (q_then ?_)) rfl) rfl)
      first | refine j_cond_d (at_f rfl) (fun c16 => ?_) (fun c16 => ?_) | refine j_cond (at_f rfl) (fun c16 => ?_) (fun c16 => ?_)
      · refine j_region (y_ (yl_assign ev_c) (jl_nil (q_block ?_)) rfl)
        refine q_cutC ((0, _)) ?_ ⟨(by first | exact at_f rfl | (refine at_e (at_f rfl) (vint ?_); omega) | (refine at_e (at_f rfl) ?_; simp; done)), (by first | exact at_f rfl | (refine at_e (at_f rfl) (vint ?_); omega) | (refine at_e (at_f rfl) ?_; simp; done)), trivial⟩ ⟨at_f rfl, trivial⟩ sbt
        first | exact .inl ⟨by omega, rfl, fun h => nd_nil rfl h⟩ | exact .inr (.inl ⟨by omega, rfl, ht1⟩) | exact .inr (.inr (.inl ⟨by omega, rfl, fun h => nd_nil rfl h⟩)) | exact .inr (.inr (.inr ⟨by omega, rfl, fun h => nd_nil rfl h⟩))
      · refine j_seq (j_region (y_ (yl_eql (T rfl) ev_c) (y_ (yl_assign (T rfl)) (jl_nil (q_then ?_)) rfl) rfl))
        first | refine j_cond_d (at_f rfl) (fun c19 => ?_) (fun c19 => ?_) | refine j_cond (at_f rfl) (fun c19 => ?_) (fun c19 => ?_)
        · refine j_region (y_ (yl_move (T rfl)) (y_ (yl_assign (T rfl)) (jl_nil (q_block ?_)) rfl) rfl)
          refine q_cutC ((0, _)) ?_ ⟨(by first | exact at_f rfl | (refine at_e (at_f rfl) (vint ?_); omega) | (refine at_e (at_f rfl) ?_; simp; done)), (by first | exact at_f rfl | (refine at_e (at_f rfl) (vint ?_); omega) | (refine at_e (at_f rfl) ?_; simp; done)), trivial⟩ ⟨at_f rfl, trivial⟩ sbt
          first | exact .inl ⟨by omega, rfl, fun h => nd_nil rfl h⟩ | exact .inr (.inl ⟨by omega, rfl, ht1⟩) | exact .inr (.inr (.inl ⟨by omega, rfl, fun h => nd_nil rfl h⟩)) | exact .inr (.inr (.inr ⟨by omega, rfl, fun h => nd_nil rfl h⟩))
        · refine j_seq (j_seq (j_region (y_ (yl_eql (T rfl) ev_c) (y_ (yl_assign (T rfl)) (jl_nil (q_then ?_)) rfl) rfl)))
          first | refine j_cond_d (at_f rfl) (fun c22 => ?_) (fun c22 => ?_) | refine j_cond (at_f rfl) (fun c22 => ?_) (fun c22 => ?_)
          · refine j_skip (q_then ?_)
            first | refine j_cond_t (at_f rfl) ?_ | refine j_cond_t (at_e (at_f rfl) (vbool (decide_eq_true c22))) ?_
            refine j_region (y_ (yl_assign ev_c) (jl_nil (q_block ?_)) rfl)
            refine q_cutC ((2, _)) ?_ ⟨(by first | exact at_f rfl | (refine at_e (at_f rfl) (vint ?_); omega) | (refine at_e (at_f rfl) ?_; simp; done)), (by first | exact at_f rfl | (refine at_e (at_f rfl) (vint ?_); omega) | (refine at_e (at_f rfl) ?_; simp; done)), trivial⟩ ⟨at_f rfl, trivial⟩ sbt
            first | exact .inl ⟨by omega, rfl, fun h => nd_nil rfl h⟩ | exact .inr (.inl ⟨by omega, rfl, ht1⟩) | exact .inr (.inr (.inl ⟨by omega, rfl, fun h => nd_nil rfl h⟩)) | exact .inr (.inr (.inr ⟨by omega, rfl, fun h => nd_nil rfl h⟩))
          · refine j_region (y_ (yl_eql (T rfl) ev_c) (y_ (yl_assign (T rfl)) (jl_nil (q_then ?_)) rfl) rfl)
            first | refine j_cond_d (at_f rfl) (fun c22 => ?_) (fun c22 => ?_) | refine j_cond (at_f rfl) (fun c22 => ?_) (fun c22 => ?_)
            · refine j_region (y_ (yl_assign ev_c) (jl_nil (q_block ?_)) rfl)
              refine q_cutC ((2, _)) ?_ ⟨(by first | exact at_f rfl | (refine at_e (at_f rfl) (vint ?_); omega) | (refine at_e (at_f rfl) ?_; simp; done)), (by first | exact at_f rfl | (refine at_e (at_f rfl) (vint ?_); omega) | (refine at_e (at_f rfl) ?_; simp; done)), trivial⟩ ⟨at_f rfl, trivial⟩ sbt
              first | exact .inl ⟨by omega, rfl, fun h => nd_nil rfl h⟩ | exact .inr (.inl ⟨by omega, rfl, ht1⟩) | exact .inr (.inr (.inl ⟨by omega, rfl, fun h => nd_nil rfl h⟩)) | exact .inr (.inr (.inr ⟨by omega, rfl, fun h => nd_nil rfl h⟩))
            · refine j_seq (j_region (y_ (yl_eql (T rfl) ev_c) (y_ (yl_assign (T rfl)) (jl_nil (q_then (j_keep [(1, _), (5, _), (25, _)] ⟨at_f rfl, at_f rfl, at_f rfl, trivial⟩ ?_))) rfl) rfl))
              first | refine j_cond_d (at_f rfl) (fun c25 => ?_) (fun c25 => ?_) | refine j_cond (at_f rfl) (fun c25 => ?_) (fun c25 => ?_)
              · refine j_region (y_ (yl_assign ev_c) (jl_nil (q_block ?_)) rfl)
                refine q_cutC ((1, _)) ?_ ⟨(by first | exact at_f rfl | (refine at_e (at_f rfl) (vint ?_); omega) | (refine at_e (at_f rfl) ?_; simp; done)), (by first | exact at_f rfl | (refine at_e (at_f rfl) (vint ?_); omega) | (refine at_e (at_f rfl) ?_; simp; done)), trivial⟩ ⟨at_f rfl, trivial⟩ sbt
                first | exact .inl ⟨by omega, rfl, fun h => nd_nil rfl h⟩ | exact .inr (.inl ⟨by omega, rfl, ht1⟩) | exact .inr (.inr (.inl ⟨by omega, rfl, fun h => nd_nil rfl h⟩)) | exact .inr (.inr (.inr ⟨by omega, rfl, fun h => nd_nil rfl h⟩))
              · refine j_seq (j_region (y_ (yl_assign ev_c) (jl_nil (q_then (j_ret (q_block_ret (q_cut_ret (q_ret rfl (.tmp (at_f rfl) .nil) ?_)))))) rfl))
                exact ⟨_, ⟨⟨_, rfl, fun h => by cases h⟩, rfl⟩, sbt⟩
  rintro ⟨wn, ok⟩ hw
  have hwl := hw.le
  refine j_seq (j_seq (j_region (y_ (yl_move (T rfl)) ?_ rfl)))
  first | refine jl_y (yl_not_d (T rfl)) rfl gd_n ?_ | refine jl_y (yl_not (T rfl)) rfl gd_n ?_
  refine y_ (yl_move (T rfl)) ?_ rfl
  first | refine jl_if_d (s := 29) (at_f rfl) (fun c29 => ?_) (fun c29 => ?_) | refine jl_if (s := 29) (at_f rfl) (fun c29 => ?_) (fun c29 => ?_)
  · refine n_tf (n_tf (n_tf (n_tf (n_tf (y_ (yl_pick_t (T rfl) ev_c) (jl_nil (q_then ?_)) rfl) rfl rfl rfl rfl) rfl rfl rfl rfl) rfl rfl rfl rfl) rfl rfl rfl rfl) rfl rfl rfl rfl
    first | refine j_cond_t (at_f rfl) ?_ | refine j_cond_t (at_e (at_f rfl) (vbool (decide_eq_true c35))) ?_
    refine j_seq (j_region (y_ (yl_assign ev_c) (jl_nil (q_then (j_ret (q_then_ret (q_ret rfl (.tmp (at_f rfl) .nil) ?_))))) rfl))
    exact ⟨_, ⟨⟨_, rfl, fun h => by cases h⟩, rfl⟩, sbt⟩
  · refine jl_y (yl_fa (T rfl) fa24_2) rfl (gd_y rfl rfl (at_f rfl)) (jl_y (yl_load (T rfl) Tryz.isAgg22 (by first | exact c_o)) rfl (gd_y rfl rfl (at_f rfl)) ?_)
    refine jl_y (yl_len (T rfl) Tryz.runUnderlying22) rfl (gd_y rfl rfl (at_f rfl)) (jl_y (yl_move (T rfl)) rfl (gd_y rfl rfl (at_f rfl)) (jl_y (yl_neq (T rfl) (T rfl)) rfl (gd_y rfl rfl (at_f rfl)) (y_ (yl_pick_f (T rfl) (T rfl)) (jl_nil (q_then ?_)) rfl)))
    first | refine j_cond_d (at_f rfl) (fun c35 => ?_) (fun c35 => ?_) | refine j_cond (at_f rfl) (fun c35 => ?_) (fun c35 => ?_)
    · refine j_seq (j_region (y_ (yl_assign ev_c) (jl_nil (q_then (j_ret (q_then_ret (q_ret rfl (.tmp (at_f rfl) .nil) ?_))))) rfl))
      exact ⟨_, ⟨⟨_, rfl, fun h => by cases h⟩, rfl⟩, sbt⟩
    · refine j_skip (q_then (j_seq (j_seq (j_region (y_ (yl_assign ev_c) (jl_nil (q_then (j_block ?_))) rfl)))))
      refine j_loopH (X := Nat) (V := fun i => [(6, .int .i64 (i : Nat))]) (C := [(1, _), (4, _)]) (φ := fun i => i ≤ wn ∧ m.args.length = wn ∧ ok = true ∧ ∀ j, j < i → ∃ e, Is (gd m.args j) e) (μ := fun i => wn - i) (x0 := 0) ?_ ⟨at_f rfl, at_f rfl, trivial⟩ ⟨(by first | exact at_f rfl | (refine at_e (at_f rfl) (vint ?_); omega) | (refine at_e (at_f rfl) ?_; simp; done)), trivial⟩ ?_
      · exact ⟨Nat.zero_le _, by omega, by simpa using c29, fun j hj => absurd hj (Nat.not_lt_zero _)⟩
      rintro i ⟨hi, hal, hok, hall⟩
      have htk : i < m.args.length → szL (m.args.take (i + 1)) = szL (m.args.take i) + (gd m.args i).sz := fun h => szL_take h
      have htl := szL_le m.args (i + 1)
      have htl0 := szL_le m.args i
      refine j_seq (j_seq (j_region (y_ (yl_move (T rfl)) (y_ (yl_move (T rfl)) (y_ (yl_lss (T rfl) (T rfl)) (jl_nil (q_then ?_)) rfl) rfl) rfl)))
      first | refine j_cond_d (at_f rfl) (fun c38 => ?_) (fun c38 => ?_) | refine j_cond (at_f rfl) (fun c38 => ?_) (fun c38 => ?_)
      · refine j_skip (q_then (j_seq (j_block (j_seq (j_region (y_ (yl_fa (T rfl) fa24_2) (y_ (yl_load (T rfl) Tryz.isAgg22 (by first | exact c_o)) ?_ rfl) rfl))))))
        refine y_ (yl_move (T rfl)) (y_ (yl_ixQ (T rfl) (T rfl) Tryz.runUnderlying22 Tryz.sizeOf24 (by omega) (by first | exact rfl | exact hA.b (i := i) (by omega))) ?_ rfl) rfl
        refine y_ (yl_loadA (T rfl) Tryz.isAgg24 Tryz.sizeOf24 rfl (by first | exact (hA.mono sbt).cs (i := i) (by omega) | exact cs_o)) ?_ rfl
        refine e_ (eff_call (.cons (T rfl) .nil) Tryz.call99 (ih _ (gd_mem (i := i) (by omega)) _ ((hM.arg (gd_mem (i := i) (by omega))).mono sbt) (by omega))) ?_ rfl
        rintro _ _ ⟨⟨t, rfl, ht⟩, rfl⟩
        refine y_ (yl_assign (T rfl)) (jl_nil (q_then (j_seq (j_region (y_ (yl_move (T rfl)) ?_ rfl))))) rfl
        first | refine jl_y (yl_not_d (T rfl)) rfl gd_n ?_ | refine jl_y (yl_not (T rfl)) rfl gd_n ?_
        refine jl_nil (q_then ?_)
        first | refine j_cond_d (at_f rfl) (fun c48 => ?_) (fun c48 => ?_) | refine j_cond (at_f rfl) (fun c48 => ?_) (fun c48 => ?_)
        · refine j_seq (j_region (y_ (yl_assign ev_c) (jl_nil (q_then (j_ret (q_block_ret (q_then_ret (q_loop_ret (q_block_ret (q_then_ret (q_ret rfl (.tmp (at_f rfl) .nil) ?_))))))))) rfl))
          exact ⟨_, ⟨⟨_, rfl, fun h => by cases h⟩, rfl⟩, sbt⟩
        · refine j_skip (q_block (q_then (j_region (y_ (yl_move (T rfl)) (y_ (yl_add (T rfl) ev_c (by omega)) ?_ rfl) rfl))))
          refine y_ (yl_assign (T rfl)) (jl_nil ?_) rfl
          refine q_loopC (i + 1) ?_ ?_ ⟨(by first | exact at_f rfl | (refine at_e (at_f rfl) (vint ?_); omega) | (refine at_e (at_f rfl) ?_; simp; done)), trivial⟩ ⟨at_f rfl, at_f rfl, trivial⟩ ?_
          · refine ⟨by omega, hal, hok, fun j hj => ?_⟩
            by_cases e : j = i
            · subst e; exact ht (by simpa using c48)
            · exact hall j (by omega)
          · first | omega | (simp only []; omega)
          · exact sbt
      · refine j_exit (q_then_exit (q_loop_exit (q_block_hit (q_then (j_seq (j_region (y_ (yl_assign ev_c) (jl_nil (q_then (j_ret (q_ret rfl (.tmp (at_f rfl) .nil) ?_)))) rfl)))))))
        exact ⟨_, ⟨⟨_, rfl, fun _ => want_is (hok ▸ hw) hal (fun j hj => hall j (by omega))⟩, rfl⟩, sbt⟩
theorem fmd_s {w0 : World} {H : List (Nat × Obj)} (m : Rxm) (hM : RxM w0 H m) (hz : m.sz ≤ 1048576) : FSpec Tryz.prog w0 99 #[.agg (encRx m).toArray] H (fun v H' => (∃ t : Bool, v = .bool t ∧ (t = true → ∃ e, Is m e)) ∧ H' = H) :=
  rx_ind (Q := fmdS w0) (fun m ih H hM hz => fmd_step m hM hz ih) m H hM hz
theorem lim_s {w0 : World} {H : List (Nat × Obj)} (a b : Nat) :
    FSpec Tryz.prog w0 135 #[.agg #[.int .i64 (a : Nat), .int .i64 (b : Nat)]] H (fun v H' => (∃ t : Int, v = .int .i64 t) ∧ H' = H) := by
  refine fn_spec Tryz.func135 rfl Tryz.ntmps135 rfl (j_seq (j_region (e_ (eff_box (T rfl) cs_) ?_ rfl)))
  rintro _ _ ⟨n1, rfl, rfl⟩
  refine y_ (yl_assign ev_c) (jl_nil (q_then (j_seq (j_seq (j_region (y_ (yl_fa0 (T rfl) fa150_0) (y_ (yl_load (T rfl) Tryz.isAgg3 (by first | exact c_o)) ?_ rfl) rfl)))))) rfl
  refine y_ (yl_gtr (T rfl) ev_c) (y_ (yl_move (T rfl)) ?_ rfl) rfl
  first | refine jl_if_d (s := 6) (at_f rfl) (fun c6 => ?_) (fun c6 => ?_) | refine jl_if (s := 6) (at_f rfl) (fun c6 => ?_) (fun c6 => ?_)
  · refine n_tf (n_tf (n_tf (y_ (yl_pick_t (T rfl) ev_c) (jl_nil (q_then ?_)) rfl) rfl rfl rfl rfl) rfl rfl rfl rfl) rfl rfl rfl rfl
    first | refine j_cond_t (at_f rfl) ?_ | refine j_cond_t (at_e (at_f rfl) (vbool (decide_eq_true c10))) ?_
    refine j_seq (j_region (y_ (yl_assign ev_c) (jl_nil (q_then (j_ret (q_then_ret (q_ret rfl (.tmp (at_f rfl) .nil) ?_))))) rfl))
    exact ⟨_, ⟨⟨_, rfl⟩, rfl⟩, sbt⟩
  · refine jl_y (yl_fa (T rfl) fa150_1) rfl (gd_y rfl rfl (at_f rfl)) (jl_y (yl_load (T rfl) Tryz.isAgg3 (by first | exact c_o)) rfl (gd_y rfl rfl (at_f rfl)) ?_)
    refine jl_y (yl_gtr (T rfl) ev_c) rfl (gd_y rfl rfl (at_f rfl)) (y_ (yl_pick_f (T rfl) (T rfl)) (jl_nil (q_then ?_)) rfl)
    first | refine j_cond_d (at_f rfl) (fun c10 => ?_) (fun c10 => ?_) | refine j_cond (at_f rfl) (fun c10 => ?_) (fun c10 => ?_)
    · refine j_seq (j_region (y_ (yl_assign ev_c) (jl_nil (q_then (j_ret (q_then_ret (q_ret rfl (.tmp (at_f rfl) .nil) ?_))))) rfl))
      exact ⟨_, ⟨⟨_, rfl⟩, rfl⟩, sbt⟩
    · refine j_skip (q_then (j_seq (j_region (y_ (yl_assign ev_c) (jl_nil (q_then (j_ret (q_ret rfl (.tmp (at_f rfl) .nil) ?_)))) rfl))))
      exact ⟨_, ⟨⟨_, rfl⟩, rfl⟩, sbt⟩
theorem frm_s {w0 : World} {H : List (Nat × Obj)} (a b : Nat) (t : Bool) :
    FSpec Tryz.prog w0 97 #[.agg #[.int .i64 (a : Nat), .int .i64 (b : Nat)], .bool t] H (fun v H' => (∃ e : Int, v = .int .i64 e ∧ (e = 0 → t = true)) ∧ H' = H) := by
  refine fn_spec Tryz.func97 rfl Tryz.ntmps97 rfl (j_seq (j_region (e_ (eff_box (T rfl) cs_) ?_ rfl)))
  rintro _ _ ⟨n2, rfl, rfl⟩
  refine y_ (yl_assign ev_c) (jl_nil (q_then (j_seq (j_region (y_ (yl_loadA (T rfl) Tryz.isAgg150 Tryz.sizeOf150 rfl (by first | exact cs_o)) ?_ rfl))))) rfl
  refine e_ (eff_call (.cons (T rfl) .nil) Tryz.call135 (lim_s a b)) ?_ rfl
  rintro _ _ ⟨⟨e0, rfl⟩, rfl⟩
  refine y_ (yl_assign (T rfl)) (jl_nil (q_then (j_seq (j_seq (j_region (y_ (yl_move (T rfl)) (y_ (yl_eql (T rfl) ev_c) (y_ (yl_move (T rfl)) ?_ rfl) rfl) rfl)))))) rfl
  first | refine jl_if_d (s := 10) (at_f rfl) (fun c10 => ?_) (fun c10 => ?_) | refine jl_if (s := 10) (at_f rfl) (fun c10 => ?_) (fun c10 => ?_)
  · refine jl_y (yl_move (T rfl)) rfl (gd_y rfl rfl (at_f rfl)) ?_
    first | refine jl_y (yl_not_d (T rfl)) rfl (gd_y rfl rfl (at_f rfl)) ?_ | refine jl_y (yl_not (T rfl)) rfl (gd_y rfl rfl (at_f rfl)) ?_
    refine y_ (yl_pick_t (T rfl) (T rfl)) (jl_nil (q_then ?_)) rfl
    first | refine j_cond_d (at_f rfl) (fun c13 => ?_) (fun c13 => ?_) | refine j_cond (at_f rfl) (fun c13 => ?_) (fun c13 => ?_)
    · refine j_seq (j_region (y_ (yl_assign ev_c) (jl_nil (q_then (j_ret (q_then_ret (q_ret rfl (.tmp (at_f rfl) .nil) ?_))))) rfl))
      exact ⟨_, ⟨⟨_, rfl, fun h => (by first | (exfalso; omega) | (simp_all; done) | (cases t <;> simp_all; done))⟩, rfl⟩, sbt⟩
    · refine j_skip (q_then (j_seq (j_region (y_ (yl_move (T rfl)) (y_ (yl_assign (T rfl)) (jl_nil (q_then (j_ret (q_ret rfl (.tmp (at_f rfl) .nil) ?_)))) rfl) rfl))))
      exact ⟨_, ⟨⟨_, rfl, fun h => (by first | (exfalso; omega) | (simp_all; done) | (cases t <;> simp_all; done))⟩, rfl⟩, sbt⟩
  · refine n_ft (n_ft (y_ (yl_pick_f (T rfl) ev_c) (jl_nil (q_then ?_)) rfl) rfl rfl rfl rfl) rfl rfl rfl rfl
    first | refine j_cond_f (at_f rfl) ?_ | refine j_cond_f (at_e (at_f rfl) (vbool (decide_eq_false c13))) ?_
    refine j_skip (q_then (j_seq (j_region (y_ (yl_move (T rfl)) (y_ (yl_assign (T rfl)) (jl_nil (q_then (j_ret (q_ret rfl (.tmp (at_f rfl) .nil) ?_)))) rfl) rfl))))
    exact ⟨_, ⟨⟨_, rfl, fun h => (by first | (exfalso; omega) | (simp_all; done) | (cases t <;> simp_all; done))⟩, rfl⟩, sbt⟩
theorem chkr_s {w0 : World} {H : List (Nat × Obj)} (m : Rxm) (hM : RxM w0 H m) (hz : m.sz ≤ 1048576) :
    FSpec Tryz.prog w0 40 #[.agg (encRx m).toArray] H (fun v H' => (∃ e : Int, v = .int .i64 e ∧ (e = 0 → ∃ x, Is m x)) ∧ H' = H) := by
  refine fn_spec Tryz.func40 rfl Tryz.ntmps40 rfl (j_seq (j_region (e_ (eff_box (T rfl) cs_) ?_ rfl)))
  rintro _ _ ⟨n1, rfl, rfl⟩
  refine y_ (yl_assign ev_c) (jl_nil (q_then (j_seq (j_any 3 [(0, true), (2, true), (1, false)] _ mixd (by kernel_rfl) sb0 ?_)))) rfl
  refine o_y rfl (yl_loadA (T rfl) Tryz.isAgg24 Tryz.sizeOf24 rfl (by first | exact cs_o)) ?_ rfl gd_n
  refine o_y rfl (yl_loadA (T rfl) Tryz.isAgg24 Tryz.sizeOf24 rfl (by first | exact cs_o)) ?_ rfl gd_n
  refine o_e rfl (eff_call (.cons (T rfl) .nil) Tryz.call98 (siz_s m (hM.mono sbt) hz)) ?_ rfl gd_n
  rintro _ _ ⟨⟨d, rfl, hd⟩, rfl⟩
  refine ⟨sbt, (jo_nil rfl (e_ (eff_call (.cons (T rfl) .nil) Tryz.call99 (fmd_s m (hM.mono sbt) hz)) ?_ rfl))⟩
  rintro _ _ ⟨⟨t, rfl, ht⟩, rfl⟩
  refine e_ (eff_call (.cons (T rfl) (.cons (T rfl) .nil)) Tryz.call97 (frm_s m.sz d t)) ?_ rfl
  rintro _ _ ⟨⟨e, rfl, he⟩, rfl⟩
  refine y_ (yl_assign (T rfl)) (jl_nil (q_then (j_ret (q_ret rfl (.tmp (at_f rfl) .nil) ?_)))) rfl
  exact ⟨_, ⟨⟨_, rfl, fun h => ht (he h)⟩, rfl⟩, sbt⟩
theorem few_s {w0 : World} {H : List (Nat × Obj)} (m : Rxm) (hM : RxM w0 H m) (hz : m.sz ≤ 1048576) :
    FSpec Tryz.prog w0 10 #[.agg (encRx m).toArray] H (fun v H' => (∃ t : Bool, v = .bool t ∧ (t = true → ∃ x, Is m x ∧ m.sz ≤ 40)) ∧ H' = H) := by
  refine fn_spec Tryz.func10 rfl Tryz.ntmps10 rfl (j_seq (j_region (e_ (eff_box (T rfl) cs_) ?_ rfl)))
  rintro _ _ ⟨n1, rfl, rfl⟩
  refine y_ (yl_assign ev_c) (jl_nil (q_then (j_seq (j_region (y_ (yl_loadA (T rfl) Tryz.isAgg24 Tryz.sizeOf24 rfl (by first | exact cs_o)) ?_ rfl))))) rfl
  refine e_ (eff_call (.cons (T rfl) .nil) Tryz.call40 (chkr_s m (hM.mono sbt) hz)) ?_ rfl
  rintro _ _ ⟨⟨e, rfl, he⟩, rfl⟩
  refine y_ (yl_assign (T rfl)) (jl_nil (q_then (j_seq (j_region (y_ (yl_move (T rfl)) (y_ (yl_eql (T rfl) ev_c) (y_ (yl_move (T rfl)) ?_ rfl) rfl) rfl))))) rfl
  first | refine jl_if_d (s := 8) (at_f rfl) (fun c8 => ?_) (fun c8 => ?_) | refine jl_if (s := 8) (at_f rfl) (fun c8 => ?_) (fun c8 => ?_)
  · refine jl_y (yl_loadA (T rfl) Tryz.isAgg24 Tryz.sizeOf24 rfl (by first | exact cs_o)) rfl (gd_y rfl rfl (at_f rfl)) ?_
    refine jl_y (yl_call (.cons (T rfl) .nil) Tryz.call41 (fun H' hs => cnt_s m (hM.mono (List.Sublist.trans sbt hs)) hz)) rfl (gd_y rfl rfl (at_f rfl)) (jl_y (yl_leq (T rfl) ev_c) rfl (gd_y rfl rfl (at_f rfl)) (y_ (yl_pick_t (T rfl) (T rfl)) (y_ (yl_move (T rfl)) ?_ rfl) rfl))
    first | refine jl_if_d (s := 13) (at_f rfl) (fun c13 => ?_) (fun c13 => ?_) | refine jl_if (s := 13) (at_f rfl) (fun c13 => ?_) (fun c13 => ?_)
    · refine jl_y (yl_loadA (T rfl) Tryz.isAgg24 Tryz.sizeOf24 rfl (by first | exact cs_o)) rfl (gd_y rfl rfl (at_f rfl)) ?_
      refine jl_e (eff_call (.cons (T rfl) .nil) Tryz.call42 (str_s m (hM.mono sbt) hz)) rfl (gd_y rfl rfl (at_f rfl)) ?_
      rintro _ _ ⟨⟨t, rfl, ht⟩, rfl⟩
      refine jl_y (yl_leq (T rfl) ev_c) rfl (gd_y rfl rfl (at_f rfl)) (y_ (yl_pick_t (T rfl) (T rfl)) (y_ (yl_assign (T rfl)) (jl_nil (q_then (j_ret (q_ret rfl (.tmp (at_f rfl) .nil) ?_)))) rfl) rfl)
      exact ⟨_, ⟨⟨_, rfl, fun h => (by first | (obtain ⟨x, hx⟩ := he (by omega); exact ⟨x, hx, by omega⟩) | cases h)⟩, rfl⟩, sbt⟩
    · refine n_ft (n_ft (n_ft (y_ (yl_pick_f (T rfl) ev_c) (y_ (yl_assign (T rfl)) (jl_nil (q_then (j_ret (q_ret rfl (.tmp (at_f rfl) .nil) ?_)))) rfl) rfl) rfl rfl rfl rfl) rfl rfl rfl rfl) rfl rfl rfl rfl
      exact ⟨_, ⟨⟨_, rfl, fun h => (by first | (obtain ⟨x, hx⟩ := he (by omega); exact ⟨x, hx, by omega⟩) | cases h)⟩, rfl⟩, sbt⟩
  · refine n_ft (n_ft (n_ft (y_ (yl_pick_f (T rfl) ev_c) (y_ (yl_move (T rfl)) (n_ft (n_ft (n_ft (y_ (yl_pick_f (T rfl) ev_c) (y_ (yl_assign (T rfl)) (jl_nil (q_then (j_ret (q_ret rfl (.tmp (at_f rfl) .nil) ?_)))) rfl) rfl) rfl rfl rfl rfl) rfl rfl rfl rfl) rfl rfl rfl rfl) rfl) rfl) rfl rfl rfl rfl) rfl rfl rfl rfl) rfl rfl rfl rfl
    exact ⟨_, ⟨⟨_, rfl, fun h => (by first | (obtain ⟨x, hx⟩ := he (by omega); exact ⟨x, hx, by omega⟩) | cases h)⟩, rfl⟩, sbt⟩
end Go.Proofs.YtkdolgnpkjihpaaGreatDoor
namespace Go.Proofs.YtkdolgnpkjihpaaGreatDoor
open Go.RowKit
set_option linter.unusedVariables false
set_option linter.unusedSimpArgs false
end Go.Proofs.YtkdolgnpkjihpaaGreatDoor
namespace Go.Proofs.YtkdolgnpkjihpaaGreatDoor
open Go.RowKit
set_option linter.unusedVariables false
set_option linter.unusedSimpArgs false
theorem fa138_2 (b o : Nat) (w : World) : (Instr.fieldAt 138 (.pointer (some ⟨b, o, none⟩)) 2).run Tryz.prog w = .ok (.pointer (some ⟨b, o + 2, none⟩)) w := by kernel_rfl
theorem fa138_3 (b o : Nat) (w : World) : (Instr.fieldAt 138 (.pointer (some ⟨b, o, none⟩)) 3).run Tryz.prog w = .ok (.pointer (some ⟨b, o + 3, none⟩)) w := by kernel_rfl
theorem fa154_0 (b o : Nat) (w : World) : (Instr.fieldAt 154 (.pointer (some ⟨b, o, none⟩)) 0).run Tryz.prog w = .ok (.pointer (some ⟨b, o, none⟩)) w := by kernel_rfl
theorem fa154_1 (b o : Nat) (w : World) : (Instr.fieldAt 154 (.pointer (some ⟨b, o, none⟩)) 1).run Tryz.prog w = .ok (.pointer (some ⟨b, o + 1, none⟩)) w := by kernel_rfl
theorem fa71_2 (b o : Nat) (w : World) : (Instr.fieldAt 71 (.pointer (some ⟨b, o, none⟩)) 2).run Tryz.prog w = .ok (.pointer (some ⟨b, o + 2, none⟩)) w := by kernel_rfl
theorem isNode_s {w0 : World} {H : List (Nat × Obj)} (n : Nm) (k : Int) :
    FSpec Tryz.prog w0 124 #[.agg (encNm n).toArray, .int .i64 k] H (Still (.bool (decide (0 ≤ k ∧ k < n.nodes.length))) H) := by
  refine fn_spec Tryz.func124 rfl Tryz.ntmps124 rfl (j_seq (j_region (e_ (eff_box (T rfl) cs_) ?_ rfl)))
  rintro _ _ ⟨n2, rfl, rfl⟩
  refine y_ (yl_assign ev_c) (jl_nil (q_then (j_seq (j_region (y_ (yl_move (T rfl)) (y_ (yl_geq (T rfl) ev_c) (y_ (yl_move (T rfl)) ?_ rfl) rfl) rfl))))) rfl
  first | refine jl_if_d (s := 7) (at_f rfl) (fun c7 => ?_) (fun c7 => ?_) | refine jl_if (s := 7) (at_f rfl) (fun c7 => ?_) (fun c7 => ?_)
  · refine jl_y (yl_move (T rfl)) rfl (gd_y rfl rfl (at_f rfl)) (jl_y (yl_fa0 (T rfl) fa56_0) rfl (gd_y rfl rfl (at_f rfl)) (jl_y (yl_load (T rfl) Tryz.isAgg52 (by first | exact c_o)) rfl (gd_y rfl rfl (at_f rfl)) ?_))
    refine jl_y (yl_len (T rfl) Tryz.runUnderlying52) rfl (gd_y rfl rfl (at_f rfl)) (jl_y (yl_lss (T rfl) (T rfl)) rfl (gd_y rfl rfl (at_f rfl)) (y_ (yl_pick_t (T rfl) (T rfl)) (y_ (yl_assign (T rfl)) (jl_nil (q_then (j_ret (q_ret rfl (.tmp (at_f rfl) .nil) ?_)))) rfl) rfl))
    exact ⟨_, ⟨by simp [resOf, c7], rfl⟩, sbt⟩
  · refine n_ft (n_ft (n_ft (n_ft (n_ft (y_ (yl_pick_f (T rfl) ev_c) (y_ (yl_assign (T rfl)) (jl_nil (q_then (j_ret (q_ret rfl (.tmp (at_f rfl) .nil) ?_)))) rfl) rfl) rfl rfl rfl rfl) rfl rfl rfl rfl) rfl rfl rfl rfl) rfl rfl rfl rfl) rfl rfl rfl rfl
    exact ⟨_, ⟨by simp [resOf, c7], rfl⟩, sbt⟩
theorem netFew_s {w0 : World} {H : List (Nat × Obj)} (n : Nm) (x y z : Int) :
    FSpec Tryz.prog w0 75 #[.agg (encNm n).toArray, .int .i64 x, .int .i64 y, .int .i64 z] H (Still (.bool (decide (n.nodes.length ≤ x ∧ n.links.length ≤ y ∧ n.edges.length ≤ z))) H) := by
  refine fn_spec Tryz.func75 rfl Tryz.ntmps75 rfl (j_seq (j_region (e_ (eff_box (T rfl) cs_) ?_ rfl)))
  rintro _ _ ⟨n4, rfl, rfl⟩
  refine y_ (yl_assign ev_c) (jl_nil (q_then (j_seq (j_region (y_ (yl_fa0 (T rfl) fa56_0) (y_ (yl_load (T rfl) Tryz.isAgg52 (by first | exact c_o)) ?_ rfl) rfl))))) rfl
  refine y_ (yl_len (T rfl) Tryz.runUnderlying52) (y_ (yl_move (T rfl)) (y_ (yl_leq (T rfl) (T rfl)) (y_ (yl_move (T rfl)) ?_ rfl) rfl) rfl) rfl
  first | refine jl_if_d (s := 14) (at_f rfl) (fun c14 => ?_) (fun c14 => ?_) | refine jl_if (s := 14) (at_f rfl) (fun c14 => ?_) (fun c14 => ?_)
  · refine jl_y (yl_fa (T rfl) fa56_1) rfl (gd_y rfl rfl (at_f rfl)) (jl_y (yl_load (T rfl) Tryz.isAgg53 (by first | exact c_o)) rfl (gd_y rfl rfl (at_f rfl)) ?_)
    refine jl_y (yl_len (T rfl) Tryz.runUnderlying53) rfl (gd_y rfl rfl (at_f rfl)) (jl_y (yl_move (T rfl)) rfl (gd_y rfl rfl (at_f rfl)) (jl_y (yl_leq (T rfl) (T rfl)) rfl (gd_y rfl rfl (at_f rfl)) (y_ (yl_pick_t (T rfl) (T rfl)) (y_ (yl_move (T rfl)) ?_ rfl) rfl)))
    first | refine jl_if_d (s := 21) (at_f rfl) (fun c21 => ?_) (fun c21 => ?_) | refine jl_if (s := 21) (at_f rfl) (fun c21 => ?_) (fun c21 => ?_)
    · refine jl_y (yl_fa (T rfl) fa56_2) rfl (gd_y rfl rfl (at_f rfl)) (jl_y (yl_load (T rfl) Tryz.isAgg54 (by first | exact c_o)) rfl (gd_y rfl rfl (at_f rfl)) ?_)
      refine jl_y (yl_len (T rfl) Tryz.runUnderlying54) rfl (gd_y rfl rfl (at_f rfl)) (jl_y (yl_move (T rfl)) rfl (gd_y rfl rfl (at_f rfl)) (jl_y (yl_leq (T rfl) (T rfl)) rfl (gd_y rfl rfl (at_f rfl)) (y_ (yl_pick_t (T rfl) (T rfl)) (y_ (yl_assign (T rfl)) (jl_nil (q_then (j_ret (q_ret rfl (.tmp (at_f rfl) .nil) ?_)))) rfl) rfl)))
      exact ⟨_, ⟨by simp [resOf, *], rfl⟩, sbt⟩
    · refine n_ft (n_ft (n_ft (n_ft (n_ft (y_ (yl_pick_f (T rfl) ev_c) (y_ (yl_assign (T rfl)) (jl_nil (q_then (j_ret (q_ret rfl (.tmp (at_f rfl) .nil) ?_)))) rfl) rfl) rfl rfl rfl rfl) rfl rfl rfl rfl) rfl rfl rfl rfl) rfl rfl rfl rfl) rfl rfl rfl rfl
      exact ⟨_, ⟨by simp [resOf, *], rfl⟩, sbt⟩
  · refine n_ft (n_ft (n_ft (n_ft (n_ft (y_ (yl_pick_f (T rfl) ev_c) (y_ (yl_move (T rfl)) (n_ft (n_ft (n_ft (n_ft (n_ft (y_ (yl_pick_f (T rfl) ev_c) (y_ (yl_assign (T rfl)) (jl_nil (q_then (j_ret (q_ret rfl (.tmp (at_f rfl) .nil) ?_)))) rfl) rfl) rfl rfl rfl rfl) rfl rfl rfl rfl) rfl rfl rfl rfl) rfl rfl rfl rfl) rfl rfl rfl rfl) rfl) rfl) rfl rfl rfl rfl) rfl rfl rfl rfl) rfl rfl rfl rfl) rfl rfl rfl rfl) rfl rfl rfl rfl
    exact ⟨_, ⟨by simp [resOf, *], rfl⟩, sbt⟩
theorem name_s {w0 : World} {H : List (Nat × Obj)} (s : ByteArray) (hs : s.size ≤ 9223372036854775807) :
    FSpec Tryz.prog w0 144 #[.string s] H (fun v H' => (∃ t : Bool, v = .bool t) ∧ H' = H) := by
  refine fn_spec Tryz.func144 rfl Tryz.ntmps144 rfl (j_seq (j_region (y_ (yl_assign ev_c) (jl_nil (q_then (j_seq (j_seq (j_region (y_ (yl_assign ev_c) (jl_nil (q_then (j_block ?_))) rfl)))))) rfl)))
  refine j_loopH (X := Nat) (V := fun k => [(3, .int .i64 (k : Nat))]) (C := [(0, _)]) (φ := fun k => k ≤ s.size) (μ := fun k => s.size - k) (x0 := 0) ?_ ⟨at_f rfl, trivial⟩ ⟨(by first | exact at_f rfl | (refine at_e (at_f rfl) (vint ?_); omega) | (refine at_e (at_f rfl) ?_; simp; done)), trivial⟩ ?_
  · exact Nat.zero_le _
  rintro k hk
  refine j_seq (j_seq (j_region (y_ (yl_move (T rfl)) (y_ (yl_move (T rfl)) (y_ (yl_len_s (T rfl) Tryz.runUnderlying9) (y_ (yl_lss (T rfl) (T rfl)) (jl_nil (q_then ?_)) rfl) rfl) rfl) rfl)))
  first | refine j_cond_d (at_f rfl) (fun c9 => ?_) (fun c9 => ?_) | refine j_cond (at_f rfl) (fun c9 => ?_) (fun c9 => ?_)
  · refine j_skip (q_then (j_seq (j_block ?_)))
    refine j_cutH (X := Bool) (V := fun t => [(4, .bool t)]) (C := [(0, _), (3, _)]) (φ := fun t => True) ⟨at_f rfl, at_f rfl, trivial⟩ ?_ ?_
    · refine j_region (y_ (yl_move (T rfl)) (y_ (yl_move (T rfl)) (y_ (yl_sidx (T rfl) (T rfl) Tryz.runUnderlying9 (by omega)) ?_ rfl) rfl) rfl)
      refine y_ (yl_geq (T rfl) ev_c) (y_ (yl_move (T rfl)) ?_ rfl) rfl
      first | refine jl_if_d (s := 16) (at_f rfl) (fun c16 => ?_) (fun c16 => ?_) | refine jl_if (s := 16) (at_f rfl) (fun c16 => ?_) (fun c16 => ?_)
      · refine jl_y (yl_move (T rfl)) rfl (gd_y rfl rfl (at_f rfl)) (jl_y (yl_move (T rfl)) rfl (gd_y rfl rfl (at_f rfl)) (jl_y (yl_sidx (T rfl) (T rfl) Tryz.runUnderlying9 (by omega)) rfl (gd_y rfl rfl (at_f rfl)) ?_))
        refine jl_y (yl_leq (T rfl) ev_c) rfl (gd_y rfl rfl (at_f rfl)) (y_ (yl_pick_t (T rfl) (T rfl)) (y_ (yl_assign (T rfl)) (jl_nil ?_) rfl) rfl)
        refine q_cutC (_) ?_ ⟨(by first | exact at_f rfl | (refine at_e (at_f rfl) (vint ?_); omega) | (refine at_e (at_f rfl) ?_; simp; done)), trivial⟩ ⟨at_f rfl, at_f rfl, trivial⟩ sbt
        trivial
      · refine n_ft (n_ft (n_ft (n_ft (y_ (yl_pick_f (T rfl) ev_c) (y_ (yl_assign (T rfl)) (jl_nil ?_) rfl) rfl) rfl rfl rfl rfl) rfl rfl rfl rfl) rfl rfl rfl rfl) rfl rfl rfl rfl
        refine q_cutC (_) ?_ ⟨(by first | exact at_f rfl | (refine at_e (at_f rfl) (vint ?_); omega) | (refine at_e (at_f rfl) ?_; simp; done)), trivial⟩ ⟨at_f rfl, at_f rfl, trivial⟩ sbt
        trivial
    rintro t -
    refine j_cutH (X := Bool) (V := fun t => [(5, .bool t)]) (C := [(0, _), (3, _), (4, _)]) (φ := fun t => True) ⟨at_f rfl, at_f rfl, at_f rfl, trivial⟩ ?_ ?_
    · refine j_region (y_ (yl_move (T rfl)) (y_ (yl_move (T rfl)) (y_ (yl_sidx (T rfl) (T rfl) Tryz.runUnderlying9 (by omega)) ?_ rfl) rfl) rfl)
      refine y_ (yl_geq (T rfl) ev_c) (y_ (yl_move (T rfl)) ?_ rfl) rfl
      first | refine jl_if_d (s := 26) (at_f rfl) (fun c26 => ?_) (fun c26 => ?_) | refine jl_if (s := 26) (at_f rfl) (fun c26 => ?_) (fun c26 => ?_)
      · refine jl_y (yl_move (T rfl)) rfl (gd_y rfl rfl (at_f rfl)) (jl_y (yl_move (T rfl)) rfl (gd_y rfl rfl (at_f rfl)) (jl_y (yl_sidx (T rfl) (T rfl) Tryz.runUnderlying9 (by omega)) rfl (gd_y rfl rfl (at_f rfl)) ?_))
        refine jl_y (yl_leq (T rfl) ev_c) rfl (gd_y rfl rfl (at_f rfl)) (y_ (yl_pick_t (T rfl) (T rfl)) (y_ (yl_move (T rfl)) ?_ rfl) rfl)
        first | refine jl_if_d (s := 32) (at_f rfl) (fun c32 => ?_) (fun c32 => ?_) | refine jl_if (s := 32) (at_f rfl) (fun c32 => ?_) (fun c32 => ?_)
        · refine n_tf (n_tf (n_tf (n_tf (y_ (yl_pick_t (T rfl) ev_c) (y_ (yl_assign (T rfl)) (jl_nil ?_) rfl) rfl) rfl rfl rfl rfl) rfl rfl rfl rfl) rfl rfl rfl rfl) rfl rfl rfl rfl
          refine q_cutC (_) ?_ ⟨(by first | exact at_f rfl | (refine at_e (at_f rfl) (vint ?_); omega) | (refine at_e (at_f rfl) ?_; simp; done)), trivial⟩ ⟨at_f rfl, at_f rfl, at_f rfl, trivial⟩ sbt
          trivial
        · refine jl_y (yl_move (T rfl)) rfl (gd_y rfl rfl (at_f rfl)) (jl_y (yl_move (T rfl)) rfl (gd_y rfl rfl (at_f rfl)) (jl_y (yl_sidx (T rfl) (T rfl) Tryz.runUnderlying9 (by omega)) rfl (gd_y rfl rfl (at_f rfl)) ?_))
          refine jl_y (yl_eql (T rfl) ev_c) rfl (gd_y rfl rfl (at_f rfl)) (y_ (yl_pick_f (T rfl) (T rfl)) (y_ (yl_assign (T rfl)) (jl_nil ?_) rfl) rfl)
          refine q_cutC (_) ?_ ⟨(by first | exact at_f rfl | (refine at_e (at_f rfl) (vint ?_); omega) | (refine at_e (at_f rfl) ?_; simp; done)), trivial⟩ ⟨at_f rfl, at_f rfl, at_f rfl, trivial⟩ sbt
          trivial
      · refine n_ft (n_ft (n_ft (n_ft (y_ (yl_pick_f (T rfl) ev_c) (y_ (yl_move (T rfl)) (jl_y (yl_move (T rfl)) rfl (gd_y rfl rfl (at_f rfl)) (jl_y (yl_move (T rfl)) rfl (gd_y rfl rfl (at_f rfl)) (jl_y (yl_sidx (T rfl) (T rfl) Tryz.runUnderlying9 (by omega)) rfl (gd_y rfl rfl (at_f rfl)) ?_))) rfl) rfl) rfl rfl rfl rfl) rfl rfl rfl rfl) rfl rfl rfl rfl) rfl rfl rfl rfl
        refine jl_y (yl_eql (T rfl) ev_c) rfl (gd_y rfl rfl (at_f rfl)) (y_ (yl_pick_f (T rfl) (T rfl)) (y_ (yl_assign (T rfl)) (jl_nil ?_) rfl) rfl)
        refine q_cutC (_) ?_ ⟨(by first | exact at_f rfl | (refine at_e (at_f rfl) (vint ?_); omega) | (refine at_e (at_f rfl) ?_; simp; done)), trivial⟩ ⟨at_f rfl, at_f rfl, at_f rfl, trivial⟩ sbt
        trivial
    rintro t -
    refine j_cutH (X := Bool) (V := fun t => [(47, .bool t)]) (C := [(0, _), (3, _)]) (φ := fun t => True) ⟨at_f rfl, at_f rfl, trivial⟩ ?_ ?_
    · refine j_region (y_ (yl_move (T rfl)) ?_ rfl)
      first | refine jl_y (yl_not_d (T rfl)) rfl gd_n ?_ | refine jl_y (yl_not (T rfl)) rfl gd_n ?_
      refine y_ (yl_move (T rfl)) ?_ rfl
      first | refine jl_if_d (s := 40) (at_f rfl) (fun c40 => ?_) (fun c40 => ?_) | refine jl_if (s := 40) (at_f rfl) (fun c40 => ?_) (fun c40 => ?_)
      · refine jl_y (yl_move (T rfl)) rfl (gd_y rfl rfl (at_f rfl)) ?_
        first | refine jl_y (yl_not_d (T rfl)) rfl (gd_y rfl rfl (at_f rfl)) ?_ | refine jl_y (yl_not (T rfl)) rfl (gd_y rfl rfl (at_f rfl)) ?_
        refine jl_y (yl_move (T rfl)) rfl (gd_y rfl rfl (at_f rfl)) ?_
        first | refine jl_if_d (s := 43) (at_f rfl) (fun c43 => ?_) (fun c43 => ?_) | refine jl_if (s := 43) (at_f rfl) (fun c43 => ?_) (fun c43 => ?_)
        · refine n_tf (n_tf (jl_y (yl_pick_t (T rfl) ev_c) rfl (gd_y rfl rfl (at_f rfl)) (y_ (yl_pick_t (T rfl) (T rfl)) (jl_nil ?_) rfl)) rfl rfl rfl rfl) rfl rfl rfl rfl
          refine q_cutC (_) ?_ ⟨(by first | exact at_f rfl | (refine at_e (at_f rfl) (vint ?_); omega) | (refine at_e (at_f rfl) ?_; simp; done)), trivial⟩ ⟨at_f rfl, at_f rfl, trivial⟩ sbt
          trivial
        · refine jl_y (yl_move (T rfl)) rfl (gd_y rfl rfl (at_f rfl)) (jl_y (yl_eql (T rfl) ev_c) rfl (gd_y rfl rfl (at_f rfl)) (jl_y (yl_pick_f (T rfl) (T rfl)) rfl (gd_y rfl rfl (at_f rfl)) (y_ (yl_pick_t (T rfl) (T rfl)) (jl_nil ?_) rfl)))
          refine q_cutC (_) ?_ ⟨(by first | exact at_f rfl | (refine at_e (at_f rfl) (vint ?_); omega) | (refine at_e (at_f rfl) ?_; simp; done)), trivial⟩ ⟨at_f rfl, at_f rfl, trivial⟩ sbt
          trivial
      · refine n_ft (n_ft (n_ft (n_u (n_u (n_ft (y_ (yl_pick_f (T rfl) ev_c) (jl_nil ?_) rfl) rfl rfl rfl rfl) rfl rfl rfl rfl) rfl rfl rfl rfl) rfl rfl rfl rfl) rfl rfl rfl rfl) rfl rfl rfl rfl
        refine q_cutC (_) ?_ ⟨(by first | exact at_f rfl | (refine at_e (at_f rfl) (vint ?_); omega) | (refine at_e (at_f rfl) ?_; simp; done)), trivial⟩ ⟨at_f rfl, at_f rfl, trivial⟩ sbt
        trivial
    rintro t -
    first | refine j_cond_d (at_f rfl) (fun c47 => ?_) (fun c47 => ?_) | refine j_cond (at_f rfl) (fun c47 => ?_) (fun c47 => ?_)
    · refine j_seq (j_region (y_ (yl_assign ev_c) (jl_nil (q_then (j_ret (q_block_ret (q_then_ret (q_loop_ret (q_block_ret (q_then_ret (q_ret rfl (.tmp (at_f rfl) .nil) ?_))))))))) rfl))
      exact ⟨_, ⟨⟨_, rfl⟩, rfl⟩, sbt⟩
    · refine j_skip (q_block (q_then (j_region (y_ (yl_move (T rfl)) (y_ (yl_add (T rfl) ev_c (by omega)) ?_ rfl) rfl))))
      refine y_ (yl_assign (T rfl)) (jl_nil ?_) rfl
      refine q_loopC (k + 1) ?_ ?_ ⟨(by first | exact at_f rfl | (refine at_e (at_f rfl) (vint ?_); omega) | (refine at_e (at_f rfl) ?_; simp; done)), trivial⟩ ⟨at_f rfl, trivial⟩ ?_
      · show k + 1 ≤ _; omega
      · first | omega | (simp only []; omega)
      · exact sbt
  · refine j_exit (q_then_exit (q_loop_exit (q_block_hit (q_then (j_seq (j_region (y_ (yl_move (T rfl)) (y_ (yl_len_s (T rfl) Tryz.runUnderlying9) (y_ (yl_geq (T rfl) ev_c) (y_ (yl_move (T rfl)) ?_ rfl) rfl) rfl) rfl)))))))
    first | refine jl_if_d (s := 51) (at_f rfl) (fun c51 => ?_) (fun c51 => ?_) | refine jl_if (s := 51) (at_f rfl) (fun c51 => ?_) (fun c51 => ?_)
    · refine jl_y (yl_move (T rfl)) rfl (gd_y rfl rfl (at_f rfl)) (jl_y (yl_len_s (T rfl) Tryz.runUnderlying9) rfl (gd_y rfl rfl (at_f rfl)) (jl_y (yl_leq (T rfl) ev_c) rfl (gd_y rfl rfl (at_f rfl)) (y_ (yl_pick_t (T rfl) (T rfl)) (y_ (yl_assign (T rfl)) (jl_nil (q_then (j_ret (q_ret rfl (.tmp (at_f rfl) .nil) ?_)))) rfl) rfl)))
      exact ⟨_, ⟨⟨_, rfl⟩, rfl⟩, sbt⟩
    · refine n_ft (n_ft (n_ft (y_ (yl_pick_f (T rfl) ev_c) (y_ (yl_assign (T rfl)) (jl_nil (q_then (j_ret (q_ret rfl (.tmp (at_f rfl) .nil) ?_)))) rfl) rfl) rfl rfl rfl rfl) rfl rfl rfl rfl) rfl rfl rfl rfl
      exact ⟨_, ⟨⟨_, rfl⟩, rfl⟩, sbt⟩
theorem names_s {w0 : World} {H : List (Nat × Obj)} (n : Nm) (hn : NetM w0 H n) (h1 : n.nodes.length ≤ 1000000) (h2 : n.edges.length ≤ 1000000) :
    FSpec Tryz.prog w0 122 #[.agg (encNm n).toArray] H (fun v H' => ∃ d1 d2 : Sl, v = .tuple #[slV d1 (n.nodes.map (·.name)).length, slV d2 (n.edges.map (·.name)).length] ∧ SlOk d1 (n.nodes.map (·.name)).length 1 ∧ SlOk d2 (n.edges.map (·.name)).length 1 ∧ H' = slH d2 ((n.edges.map (·.name)).flatMap encS) 9 ++ (slH d1 ((n.nodes.map (·.name)).flatMap encS) 9 ++ H)) := by
  refine fn_spec Tryz.func122 rfl Tryz.ntmps122 rfl (j_seq (j_region (e_ (eff_box (T rfl) cs_) ?_ rfl)))
  rintro _ _ ⟨n1, rfl, rfl⟩
  refine y_ (yl_assign ev_c) (y_ (yl_assign ev_c) (jl_nil (q_then (j_seq (j_region (y_ (yl_assign ev_c) (jl_nil (q_then (j_seq (j_region (y_ (yl_assign ev_c) (jl_nil (q_then (j_seq (j_seq (j_region (y_ (yl_assign ev_c) (jl_nil (q_then (j_block ?_))) rfl)))))) rfl))))) rfl))))) rfl) rfl
  refine j_loopG (X := Nat × Sl × List ByteArray) (V := fun ⟨k, d, l⟩ => [(6, .int .i64 (k : Nat)), (4, slV d l.length)]) (C := [(1, _), (5, _)]) (G := fun ⟨k, d, l⟩ => slH d (l.flatMap encS) 9) (Hc := _) (φ := fun ⟨k, d, l⟩ => k ≤ n.nodes.length ∧ l = (n.nodes.take k).map (·.name) ∧ SlOk d l.length 1) (μ := fun ⟨k, d, l⟩ => n.nodes.length - k) (x0 := (0, .nil, [])) ?_ ⟨at_f rfl, at_f rfl, trivial⟩ ⟨(by first | exact at_f rfl | (refine at_e (at_f rfl) (vint ?_); omega) | (refine at_e (at_f rfl) ?_; simp; done)), (by first | exact at_f rfl | (refine at_e (at_f rfl) (vint ?_); omega) | (refine at_e (at_f rfl) ?_; simp; done)), trivial⟩ sb0 ?_
  · exact ⟨Nat.zero_le _, rfl, rfl⟩
  rintro ⟨k, d, l⟩ ⟨hk, hl, hok⟩
  have hlen : l.length = k := by rw [hl]; simp; omega
  refine j_seq (j_seq (j_region (y_ (yl_move (T rfl)) (y_ (yl_fa0 (T rfl) fa56_0) (y_ (yl_load (T rfl) Tryz.isAgg52 (by first | exact c_o | exact c_m (hn.nodes.f0 (by omega) rfl) | exact c_m (hn.edges.f0 (by omega) rfl))) ?_ rfl) rfl) rfl)))
  refine y_ (yl_len (T rfl) Tryz.runUnderlying52) (y_ (yl_lss (T rfl) (T rfl)) (jl_nil (q_then ?_)) rfl) rfl
  first | refine j_cond_d (at_f rfl) (fun c12 => ?_) (fun c12 => ?_) | refine j_cond (at_f rfl) (fun c12 => ?_) (fun c12 => ?_)
  · refine j_skip (q_then (j_seq (j_block (j_region (y_ (yl_move (T rfl)) (y_ (yl_fa0 (T rfl) fa56_0) (y_ (yl_load (T rfl) Tryz.isAgg52 (by first | exact c_o | exact c_m (hn.nodes.f0 (by omega) rfl) | exact c_m (hn.edges.f0 (by omega) rfl))) ?_ rfl) rfl) rfl)))))
    refine y_ (yl_move (T rfl)) (y_ (yl_ixQ (T rfl) (T rfl) Tryz.runUnderlying52 Tryz.sizeOf138 (by omega) (by first | exact rfl | exact hn.nodes.b (i := k) (by omega) | exact hn.edges.b (i := k2) (by omega))) ?_ rfl) rfl
    refine y_ (yl_fa0 (T rfl) fa138_0) (y_ (yl_load (T rfl) Tryz.isAgg9 (by first | exact c_o | exact c_m (hn.nodes.f0 (by omega) rfl) | exact c_m (hn.edges.f0 (by omega) rfl))) ?_ rfl) rfl
    refine e_ (eff_bslice (.cons (T rfl) .nil) (bs25_1_0 _)) ?_ rfl
    rintro _ _ ⟨n22, rfl, rfl⟩
    refine e_ (eff_app1 ((gd n.nodes k).name) (A := [_]) (by' := 16) (T rfl) (T rfl) Tryz.runUnderlying25 Tryz.runUnderlying25 Tryz.sizeOf9 Tryz.typeInfo9 rfl Tryz.zeroValue9 rfl (fun _ => rfl) rfl hok (by decide) (by omega)) ?_ rfl
    rintro _ _ ⟨d', rfl, hok', rfl⟩
    refine y_ (yl_assign (T rfl)) (jl_nil (q_block (q_then (j_region (y_ (yl_move (T rfl)) (y_ (yl_add (T rfl) ev_c (by omega)) ?_ rfl) rfl))))) rfl
    refine y_ (yl_assign (T rfl)) (jl_nil ?_) rfl
    refine q_loopC ((k + 1, d', l ++ [(gd n.nodes k).name])) ?_ ?_ ⟨(by first | exact at_f rfl | (refine at_e (at_f rfl) (vint ?_); omega) | (refine at_e (at_f rfl) ?_; simp; done)), (by first | exact at_f rfl | (refine at_e (at_f rfl) (vint ?_); omega) | (refine at_e (at_f rfl) ?_; simp; done)), trivial⟩ ⟨at_f rfl, at_f rfl, trivial⟩ ?_
    · exact ⟨by omega, by rw [hl, take_gd (by omega), List.map_append]; rfl, by simpa using hok'⟩
    · first | omega | (simp only []; omega)
    · exact sbt
  · refine j_exit (q_then_exit (q_loop_exit (q_block_hit (q_then (j_seq (j_seq (j_region (y_ (yl_assign ev_c) (jl_nil (q_then (j_block ?_))) rfl))))))))
    refine j_loopG (X := Nat × Sl × List ByteArray) (V := fun ⟨k2, d2, l2⟩ => [(7, .int .i64 (k2 : Nat)), (5, slV d2 l2.length)]) (C := [(1, _), (4, _)]) (G := fun ⟨k2, d2, l2⟩ => slH d2 (l2.flatMap encS) 9) (Hc := _) (φ := fun ⟨k2, d2, l2⟩ => k2 ≤ n.edges.length ∧ l2 = (n.edges.take k2).map (·.name) ∧ SlOk d2 l2.length 1) (μ := fun ⟨k2, d2, l2⟩ => n.edges.length - k2) (x0 := (0, .nil, [])) ?_ ⟨at_f rfl, at_f rfl, trivial⟩ ⟨(by first | exact at_f rfl | (refine at_e (at_f rfl) (vint ?_); omega) | (refine at_e (at_f rfl) ?_; simp; done)), (by first | exact at_f rfl | (refine at_e (at_f rfl) (vint ?_); omega) | (refine at_e (at_f rfl) ?_; simp; done)), trivial⟩ sb0 ?_
    · exact ⟨Nat.zero_le _, rfl, rfl⟩
    rintro ⟨k2, d2, l2⟩ ⟨hk2, hl2, hok2⟩
    have hlen2 : l2.length = k2 := by rw [hl2]; simp; omega
    refine j_seq (j_seq (j_region (y_ (yl_move (T rfl)) (y_ (yl_fa (T rfl) fa56_2) (y_ (yl_load (T rfl) Tryz.isAgg54 (by first | exact c_o | exact c_m (hn.nodes.f0 (by omega) rfl) | exact c_m (hn.edges.f0 (by omega) rfl))) ?_ rfl) rfl) rfl)))
    refine y_ (yl_len (T rfl) Tryz.runUnderlying54) (y_ (yl_lss (T rfl) (T rfl)) (jl_nil (q_then ?_)) rfl) rfl
    first | refine j_cond_d (at_f rfl) (fun c28 => ?_) (fun c28 => ?_) | refine j_cond (at_f rfl) (fun c28 => ?_) (fun c28 => ?_)
    · refine j_skip (q_then (j_seq (j_block (j_region (y_ (yl_move (T rfl)) (y_ (yl_fa (T rfl) fa56_2) (y_ (yl_load (T rfl) Tryz.isAgg54 (by first | exact c_o | exact c_m (hn.nodes.f0 (by omega) rfl) | exact c_m (hn.edges.f0 (by omega) rfl))) ?_ rfl) rfl) rfl)))))
      refine y_ (yl_move (T rfl)) (y_ (yl_ixQ (T rfl) (T rfl) Tryz.runUnderlying54 Tryz.sizeOf154 (by omega) (by first | exact rfl | exact hn.nodes.b (i := k) (by omega) | exact hn.edges.b (i := k2) (by omega))) ?_ rfl) rfl
      refine y_ (yl_fa0 (T rfl) fa154_0) (y_ (yl_load (T rfl) Tryz.isAgg9 (by first | exact c_o | exact c_m (hn.nodes.f0 (by omega) rfl) | exact c_m (hn.edges.f0 (by omega) rfl))) ?_ rfl) rfl
      refine e_ (eff_bslice (.cons (T rfl) .nil) (bs25_1_0 _)) ?_ rfl
      rintro _ _ ⟨n38, rfl, rfl⟩
      refine e_ (eff_app1 ((gd n.edges k2).name) (A := [_]) (by' := 16) (T rfl) (T rfl) Tryz.runUnderlying25 Tryz.runUnderlying25 Tryz.sizeOf9 Tryz.typeInfo9 rfl Tryz.zeroValue9 rfl (fun _ => rfl) rfl hok2 (by decide) (by omega)) ?_ rfl
      rintro _ _ ⟨d', rfl, hok', rfl⟩
      refine y_ (yl_assign (T rfl)) (jl_nil (q_block (q_then (j_region (y_ (yl_move (T rfl)) (y_ (yl_add (T rfl) ev_c (by omega)) ?_ rfl) rfl))))) rfl
      refine y_ (yl_assign (T rfl)) (jl_nil ?_) rfl
      refine q_loopC ((k2 + 1, d', l2 ++ [(gd n.edges k2).name])) ?_ ?_ ⟨(by first | exact at_f rfl | (refine at_e (at_f rfl) (vint ?_); omega) | (refine at_e (at_f rfl) ?_; simp; done)), (by first | exact at_f rfl | (refine at_e (at_f rfl) (vint ?_); omega) | (refine at_e (at_f rfl) ?_; simp; done)), trivial⟩ ⟨at_f rfl, at_f rfl, trivial⟩ ?_
      · exact ⟨by omega, by rw [hl2, take_gd (by omega), List.map_append]; rfl, by simpa using hok'⟩
      · first | omega | (simp only []; omega)
      · exact sbt
    · refine j_exit (q_then_exit (q_loop_exit (q_block_hit (q_then (j_seq (j_region (y_ (yl_move (T rfl)) (y_ (yl_move (T rfl)) (y_ (yl_assign (T rfl)) (y_ (yl_assign (T rfl)) (jl_nil (q_then (j_ret (q_ret rfl (.tmp (at_f rfl) (.tmp (at_f rfl) .nil)) ?_)))) rfl) rfl) rfl) rfl)))))))
      rw [List.take_of_length_le (by omega)] at hl hl2
      rw [← hl, ← hl2]
      exact ⟨_, ⟨d, d2, rfl, hok, hok2, rfl⟩, sbt⟩
theorem named_s {w0 : World} {H : List (Nat × Obj)} (q : Option Addr) (cap : Nat) (l : List ByteArray) (ha : Arr w0 H q 1 encS l) (hb : ∀ x ∈ l, x.size ≤ 9223372036854775807) (hl : l.length ≤ 1000000) :
    FSpec Tryz.prog w0 123 #[.slice q l.length cap] H (fun v H' => (∃ t : Bool, v = .bool t) ∧ H' = H) := by
  refine fn_spec Tryz.func123 rfl Tryz.ntmps123 rfl (j_seq (j_region (y_ (yl_assign ev_c) (jl_nil (q_then (j_seq (j_seq (j_region (y_ (yl_assign ev_c) (jl_nil (q_then (j_block ?_))) rfl)))))) rfl)))
  refine j_loopH (X := Nat) (V := fun k => [(3, .int .i64 (k : Nat))]) (C := [(0, _)]) (φ := fun k => k ≤ l.length) (μ := fun k => l.length - k) (x0 := 0) ?_ ⟨at_f rfl, trivial⟩ ⟨(by first | exact at_f rfl | (refine at_e (at_f rfl) (vint ?_); omega) | (refine at_e (at_f rfl) ?_; simp; done)), trivial⟩ ?_
  · exact Nat.zero_le _
  rintro k hk
  refine j_seq (j_seq (j_region (y_ (yl_move (T rfl)) (y_ (yl_move (T rfl)) (y_ (yl_len (T rfl) Tryz.runUnderlying25) (y_ (yl_lss (T rfl) (T rfl)) (jl_nil (q_then ?_)) rfl) rfl) rfl) rfl)))
  first | refine j_cond_d (at_f rfl) (fun c9 => ?_) (fun c9 => ?_) | refine j_cond (at_f rfl) (fun c9 => ?_) (fun c9 => ?_)
  · refine j_skip (q_then (j_seq (j_block (j_seq (j_region (y_ (yl_move (T rfl)) (y_ (yl_move (T rfl)) (y_ (yl_ixQ (T rfl) (T rfl) Tryz.runUnderlying25 Tryz.sizeOf9 (by omega) (by first | exact rfl | exact ha.b (i := k) (by omega))) ?_ rfl) rfl) rfl))))))
    refine y_ (yl_load (T rfl) Tryz.isAgg9 (by first | exact c_o | exact c_m (ha.f0 (i := k) (by omega) rfl) | exact c_m (ha.f0 (i := k2) (by omega) rfl))) ?_ rfl
    refine e_ (eff_call (.cons (T rfl) .nil) Tryz.call144 (name_s _ (hb _ (gd_mem (i := k) (by omega))))) ?_ rfl
    rintro _ _ ⟨⟨t, rfl⟩, rfl⟩
    refine y_ (yl_assign (T rfl)) (jl_nil (q_then (j_seq (j_seq (j_region (y_ (yl_move (T rfl)) ?_ rfl)))))) rfl
    first | refine jl_y (yl_not_d (T rfl)) rfl gd_n ?_ | refine jl_y (yl_not (T rfl)) rfl gd_n ?_
    refine jl_nil (q_then ?_)
    first | refine j_cond_d (at_f rfl) (fun c18 => ?_) (fun c18 => ?_) | refine j_cond (at_f rfl) (fun c18 => ?_) (fun c18 => ?_)
    · refine j_seq (j_region (y_ (yl_assign ev_c) (jl_nil (q_then (j_ret (q_then_ret (q_block_ret (q_then_ret (q_loop_ret (q_block_ret (q_then_ret (q_ret rfl (.tmp (at_f rfl) .nil) ?_)))))))))) rfl))
      exact ⟨_, ⟨⟨_, rfl⟩, rfl⟩, sbt⟩
    · refine j_skip (q_then (j_seq (j_region (y_ (yl_assign ev_c) (jl_nil (q_then (j_block ?_))) rfl))))
      refine j_loopH (X := Nat) (V := fun k2 => [(5, .int .i64 (k2 : Nat))]) (C := [(0, _), (3, _)]) (φ := fun k2 => k2 ≤ k) (μ := fun k2 => k - k2) (x0 := 0) ?_ ⟨at_f rfl, at_f rfl, trivial⟩ ⟨(by first | exact at_f rfl | (refine at_e (at_f rfl) (vint ?_); omega) | (refine at_e (at_f rfl) ?_; simp; done)), trivial⟩ ?_
      · exact Nat.zero_le _
      rintro k2 hk2
      refine j_seq (j_seq (j_region (y_ (yl_move (T rfl)) (y_ (yl_move (T rfl)) (y_ (yl_lss (T rfl) (T rfl)) (jl_nil (q_then ?_)) rfl) rfl) rfl)))
      first | refine j_cond_d (at_f rfl) (fun c21 => ?_) (fun c21 => ?_) | refine j_cond (at_f rfl) (fun c21 => ?_) (fun c21 => ?_)
      · refine j_skip (q_then (j_seq (j_block (j_seq (j_any 9 [(0, true), (1, true), (2, true), (3, true), (4, true), (5, true), (6, true), (7, true), (8, true)] _ mixd (by kernel_rfl) sb0 ?_)))))
        refine o_y rfl (yl_move (T rfl)) (o_y rfl (yl_move (T rfl)) (o_y rfl (yl_ixQ (T rfl) (T rfl) Tryz.runUnderlying25 Tryz.sizeOf9 (by omega) (by first | exact rfl | exact ha.b (i := k) (by omega))) ?_ rfl gd_n) rfl gd_n) rfl gd_n
        refine o_y rfl (yl_load (T rfl) Tryz.isAgg9 (by first | exact c_o | exact c_m (ha.f0 (i := k) (by omega) rfl) | exact c_m (ha.f0 (i := k2) (by omega) rfl))) ?_ rfl gd_n
        refine o_y rfl (yl_move (T rfl)) (o_y rfl (yl_move (T rfl)) (o_y rfl (yl_ixR (T rfl) (T rfl) Tryz.runUnderlying25 Tryz.sizeOf9 (by omega) (by first | exact rfl | exact ha.b (i := k) (by omega))) ?_ rfl gd_n) rfl gd_n) rfl gd_n
        refine o_y rfl (yl_load (T rfl) Tryz.isAgg9 (by first | exact c_o | exact c_m (ha.f0 (i := k) (by omega) rfl) | exact c_m (ha.f0 (i := k2) (by omega) rfl))) ?_ rfl gd_n
        refine o_y rfl (yl_eqS (T rfl) (T rfl)) (jo_nil rfl (jl_nil (q_then ?_))) rfl gd_n
        first | refine j_cond_d (at_f rfl) (fun c32 => ?_) (fun c32 => ?_) | refine j_cond (at_f rfl) (fun c32 => ?_) (fun c32 => ?_)
        · refine j_seq (j_region (y_ (yl_assign ev_c) (jl_nil (q_then (j_ret (q_block_ret (q_then_ret (q_loop_ret (q_block_ret (q_block_ret (q_then_ret (q_loop_ret (q_block_ret (q_then_ret (q_ret rfl (.tmp (at_f rfl) .nil) ?_))))))))))))) rfl))
          exact ⟨_, ⟨⟨_, rfl⟩, rfl⟩, sbt⟩
        · refine j_skip (q_block (q_then (j_region (y_ (yl_move (T rfl)) (y_ (yl_add (T rfl) ev_c (by omega)) ?_ rfl) rfl))))
          refine y_ (yl_assign (T rfl)) (jl_nil ?_) rfl
          refine q_loopC (k2 + 1) ?_ ?_ ⟨(by first | exact at_f rfl | (refine at_e (at_f rfl) (vint ?_); omega) | (refine at_e (at_f rfl) ?_; simp; done)), trivial⟩ ⟨at_f rfl, at_f rfl, trivial⟩ ?_
          · show k2 + 1 ≤ _; omega
          · first | omega | (simp only []; omega)
          · exact sbt
      · refine j_exit (q_then_exit (q_loop_exit (q_block_hit (q_block (q_then (j_region (y_ (yl_move (T rfl)) (y_ (yl_add (T rfl) ev_c (by omega)) ?_ rfl) rfl)))))))
        refine y_ (yl_assign (T rfl)) (jl_nil ?_) rfl
        refine q_loopC (k + 1) ?_ ?_ ⟨(by first | exact at_f rfl | (refine at_e (at_f rfl) (vint ?_); omega) | (refine at_e (at_f rfl) ?_; simp; done)), trivial⟩ ⟨at_f rfl, trivial⟩ ?_
        · show k + 1 ≤ _; omega
        · first | omega | (simp only []; omega)
        · exact sbt
  · refine j_exit (q_then_exit (q_loop_exit (q_block_hit (q_then (j_seq (j_region (y_ (yl_assign ev_c) (jl_nil (q_then (j_ret (q_ret rfl (.tmp (at_f rfl) .nil) ?_)))) rfl)))))))
    exact ⟨_, ⟨⟨_, rfl⟩, rfl⟩, sbt⟩
theorem netCheck_s {w0 : World} {H : List (Nat × Obj)} (n : Nm) (hn : NetM w0 H n) :
    FSpec Tryz.prog w0 76 #[.agg (encNm n).toArray] H (fun v H' => (∃ e : Int, v = .int .i64 e ∧ (e = 0 → NetOk n)) ∧ H' = H) := by
  refine fn_spec Tryz.func76 rfl Tryz.ntmps76 rfl ?_
  have hln := hn.ln; have hll := hn.ll; have hle := hn.le
  refine j_seq (j_region (e_ (eff_box (T rfl) cs_) ?_ rfl))
  rintro _ _ ⟨n1, rfl, rfl⟩
  refine y_ (yl_assign ev_c) (jl_nil (q_then (j_seq (j_seq (j_region (y_ (yl_fa0 (T rfl) fa56_0) (y_ (yl_load (T rfl) Tryz.isAgg52 (by first | exact c_o | exact c_m (hn.nodes.f0 (i := k) (by omega) rfl) | exact c_m (hn.edges.f0 (i := k3) (by omega) rfl) | exact c_m (hn.edges.f (i := k3) (by omega) rfl))) ?_ rfl) rfl)))))) rfl
  refine y_ (yl_len (T rfl) Tryz.runUnderlying52) (y_ (yl_gtr (T rfl) ev_c) (y_ (yl_move (T rfl)) ?_ rfl) rfl) rfl
  first | refine jl_if_d (s := 16) (at_f rfl) (fun c16 => ?_) (fun c16 => ?_) | refine jl_if (s := 16) (at_f rfl) (fun c16 => ?_) (fun c16 => ?_)
  · refine n_tf (n_tf (n_tf (n_tf (y_ (yl_pick_t (T rfl) ev_c) (y_ (yl_move (T rfl)) (n_tf (n_tf (n_tf (n_tf (y_ (yl_pick_t (T rfl) ev_c) (jl_nil (q_then ?_)) rfl) rfl rfl rfl rfl) rfl rfl rfl rfl) rfl rfl rfl rfl) rfl rfl rfl rfl) rfl) rfl) rfl rfl rfl rfl) rfl rfl rfl rfl) rfl rfl rfl rfl) rfl rfl rfl rfl
    first | refine j_cond_t (at_f rfl) ?_ | refine j_cond_t (at_e (at_f rfl) (vbool (decide_eq_true c27))) ?_
    refine j_seq (j_region (y_ (yl_assign ev_c) (jl_nil (q_then (j_ret (q_then_ret (q_ret rfl (.tmp (at_f rfl) .nil) ?_))))) rfl))
    exact ⟨_, ⟨⟨_, rfl, fun h => by first | (exfalso; omega) | exact ⟨fun i hi => hl2 i (by omega), fun i hi => hl3 i (by omega)⟩⟩, rfl⟩, sbt⟩
  · refine jl_y (yl_fa (T rfl) fa56_1) rfl (gd_y rfl rfl (at_f rfl)) (jl_y (yl_load (T rfl) Tryz.isAgg53 (by first | exact c_o | exact c_m (hn.nodes.f0 (i := k) (by omega) rfl) | exact c_m (hn.edges.f0 (i := k3) (by omega) rfl) | exact c_m (hn.edges.f (i := k3) (by omega) rfl))) rfl (gd_y rfl rfl (at_f rfl)) ?_)
    refine jl_y (yl_len (T rfl) Tryz.runUnderlying53) rfl (gd_y rfl rfl (at_f rfl)) (jl_y (yl_gtr (T rfl) ev_c) rfl (gd_y rfl rfl (at_f rfl)) (y_ (yl_pick_f (T rfl) (T rfl)) (y_ (yl_move (T rfl)) ?_ rfl) rfl))
    first | refine jl_if_d (s := 22) (at_f rfl) (fun c22 => ?_) (fun c22 => ?_) | refine jl_if (s := 22) (at_f rfl) (fun c22 => ?_) (fun c22 => ?_)
    · refine n_tf (n_tf (n_tf (n_tf (y_ (yl_pick_t (T rfl) ev_c) (jl_nil (q_then ?_)) rfl) rfl rfl rfl rfl) rfl rfl rfl rfl) rfl rfl rfl rfl) rfl rfl rfl rfl
      first | refine j_cond_t (at_f rfl) ?_ | refine j_cond_t (at_e (at_f rfl) (vbool (decide_eq_true c27))) ?_
      refine j_seq (j_region (y_ (yl_assign ev_c) (jl_nil (q_then (j_ret (q_then_ret (q_ret rfl (.tmp (at_f rfl) .nil) ?_))))) rfl))
      exact ⟨_, ⟨⟨_, rfl, fun h => by first | (exfalso; omega) | exact ⟨fun i hi => hl2 i (by omega), fun i hi => hl3 i (by omega)⟩⟩, rfl⟩, sbt⟩
    · refine jl_y (yl_fa (T rfl) fa56_2) rfl (gd_y rfl rfl (at_f rfl)) (jl_y (yl_load (T rfl) Tryz.isAgg54 (by first | exact c_o | exact c_m (hn.nodes.f0 (i := k) (by omega) rfl) | exact c_m (hn.edges.f0 (i := k3) (by omega) rfl) | exact c_m (hn.edges.f (i := k3) (by omega) rfl))) rfl (gd_y rfl rfl (at_f rfl)) ?_)
      refine jl_y (yl_len (T rfl) Tryz.runUnderlying54) rfl (gd_y rfl rfl (at_f rfl)) (jl_y (yl_gtr (T rfl) ev_c) rfl (gd_y rfl rfl (at_f rfl)) (y_ (yl_pick_f (T rfl) (T rfl)) (jl_nil (q_then ?_)) rfl))
      first | refine j_cond_d (at_f rfl) (fun c27 => ?_) (fun c27 => ?_) | refine j_cond (at_f rfl) (fun c27 => ?_) (fun c27 => ?_)
      · refine j_seq (j_region (y_ (yl_assign ev_c) (jl_nil (q_then (j_ret (q_then_ret (q_ret rfl (.tmp (at_f rfl) .nil) ?_))))) rfl))
        exact ⟨_, ⟨⟨_, rfl, fun h => by first | (exfalso; omega) | exact ⟨fun i hi => hl2 i (by omega), fun i hi => hl3 i (by omega)⟩⟩, rfl⟩, sbt⟩
      · refine j_skip (q_then (j_seq (j_region (y_ (yl_loadA (T rfl) Tryz.isAgg56 Tryz.sizeOf56 rfl (by first | exact cs_o | exact cs_m (hn.nodes.f0 (i := k) (by omega) rfl) | exact cs_m (hn.edges.f0 (i := k3) (by omega) rfl) | exact cs_m (hn.edges.f (i := k3) (by omega) rfl))) ?_ rfl))))
        refine e_ (eff_call (.cons (T rfl) .nil) Tryz.call122 (names_s n (hn.mono) (by omega) (by omega))) ?_ rfl
        rintro _ _ ⟨d1, d2, rfl, hok1, hok2, rfl⟩
        refine y_ (yl_move (T rfl)) (y_ (yl_extract (T rfl) rfl) (y_ (yl_extract (T rfl) rfl) (y_ (yl_assign (T rfl)) (y_ (yl_assign (T rfl)) (jl_nil (q_then (j_keep [(1, _), (3, _), (4, _)] ⟨at_f rfl, at_f rfl, at_f rfl, trivial⟩ (j_seq (j_region (y_ (yl_move (T rfl)) (e_ (eff_call (.cons (T rfl) .nil) Tryz.call123 (named_s _ _ _ ((sl_arr (enc := encS) (sz := 1) (fun _ => rfl) hok1).mono (List.sublist_append_right _ _)) (by intro x hx; obtain ⟨y, hy, rfl⟩ := List.mem_map.1 hx; exact hn.sn y hy) (by simp; omega))) ?_ rfl) rfl)))))) rfl) rfl) rfl) rfl) rfl
        rintro _ _ ⟨⟨t1, rfl⟩, rfl⟩
        refine y_ (yl_assign (T rfl)) (jl_nil (q_then (j_seq (j_region (y_ (yl_move (T rfl)) (e_ (eff_call (.cons (T rfl) .nil) Tryz.call123 (named_s _ _ _ (sl_arr (enc := encS) (sz := 1) (fun _ => rfl) hok2) (by intro x hx; obtain ⟨y, hy, rfl⟩ := List.mem_map.1 hx; exact hn.se y hy) (by simp; omega))) ?_ rfl) rfl))))) rfl
        rintro _ _ ⟨⟨t2, rfl⟩, rfl⟩
        refine y_ (yl_assign (T rfl)) (jl_nil (q_then (j_seq (j_seq (j_region (y_ (yl_move (T rfl)) ?_ rfl)))))) rfl
        first | refine jl_y (yl_not_d (T rfl)) rfl gd_n ?_ | refine jl_y (yl_not (T rfl)) rfl gd_n ?_
        refine y_ (yl_move (T rfl)) ?_ rfl
        first | refine jl_if_d (s := 39) (at_f rfl) (fun c39 => ?_) (fun c39 => ?_) | refine jl_if (s := 39) (at_f rfl) (fun c39 => ?_) (fun c39 => ?_)
        · refine n_tf (n_tf (y_ (yl_pick_t (T rfl) ev_c) (jl_nil (q_then ?_)) rfl) rfl rfl rfl rfl) rfl rfl rfl rfl
          first | refine j_cond_t (at_f rfl) ?_ | refine j_cond_t (at_e (at_f rfl) (vbool (decide_eq_true c42))) ?_
          refine j_seq (j_region (y_ (yl_assign ev_c) (jl_nil (q_then (j_ret (q_then_ret (q_ret rfl (.tmp (at_f rfl) .nil) ?_))))) rfl))
          exact ⟨_, ⟨⟨_, rfl, fun h => by first | (exfalso; omega) | exact ⟨fun i hi => hl2 i (by omega), fun i hi => hl3 i (by omega)⟩⟩, rfl⟩, sbt⟩
        · refine jl_y (yl_move (T rfl)) rfl (gd_y rfl rfl (at_f rfl)) ?_
          first | refine jl_y (yl_not_d (T rfl)) rfl (gd_y rfl rfl (at_f rfl)) ?_ | refine jl_y (yl_not (T rfl)) rfl (gd_y rfl rfl (at_f rfl)) ?_
          refine y_ (yl_pick_f (T rfl) (T rfl)) (jl_nil (q_then ?_)) rfl
          first | refine j_cond_d (at_f rfl) (fun c42 => ?_) (fun c42 => ?_) | refine j_cond (at_f rfl) (fun c42 => ?_) (fun c42 => ?_)
          · refine j_seq (j_region (y_ (yl_assign ev_c) (jl_nil (q_then (j_ret (q_then_ret (q_ret rfl (.tmp (at_f rfl) .nil) ?_))))) rfl))
            exact ⟨_, ⟨⟨_, rfl, fun h => by first | (exfalso; omega) | exact ⟨fun i hi => hl2 i (by omega), fun i hi => hl3 i (by omega)⟩⟩, rfl⟩, sbt⟩
          · refine j_skip (q_then (j_seq (j_seq (j_region (y_ (yl_assign ev_c) (jl_nil (q_then (j_block ?_))) rfl)))))
            refine j_loopH (X := Nat) (V := fun k => [(7, .int .i64 (k : Nat))]) (C := [(1, _)]) (φ := fun k => k ≤ n.nodes.length) (μ := fun k => n.nodes.length - k) (x0 := 0) ?_ ⟨at_f rfl, trivial⟩ ⟨(by first | exact at_f rfl | (refine at_e (at_f rfl) (vint ?_); omega) | (refine at_e (at_f rfl) ?_; simp; done)), trivial⟩ ?_
            · exact Nat.zero_le _
            rintro k hk
            refine j_seq (j_seq (j_region (y_ (yl_move (T rfl)) (y_ (yl_fa0 (T rfl) fa56_0) (y_ (yl_load (T rfl) Tryz.isAgg52 (by first | exact c_o | exact c_m (hn.nodes.f0 (i := k) (by omega) rfl) | exact c_m (hn.edges.f0 (i := k3) (by omega) rfl) | exact c_m (hn.edges.f (i := k3) (by omega) rfl))) ?_ rfl) rfl) rfl)))
            refine y_ (yl_len (T rfl) Tryz.runUnderlying52) (y_ (yl_lss (T rfl) (T rfl)) (jl_nil (q_then ?_)) rfl) rfl
            first | refine j_cond_d (at_f rfl) (fun c47 => ?_) (fun c47 => ?_) | refine j_cond (at_f rfl) (fun c47 => ?_) (fun c47 => ?_)
            · refine j_skip (q_then (j_seq (j_block (j_seq (j_region (y_ (yl_fa0 (T rfl) fa56_0) (y_ (yl_load (T rfl) Tryz.isAgg52 (by first | exact c_o | exact c_m (hn.nodes.f0 (i := k) (by omega) rfl) | exact c_m (hn.edges.f0 (i := k3) (by omega) rfl) | exact c_m (hn.edges.f (i := k3) (by omega) rfl))) ?_ rfl) rfl))))))
              refine y_ (yl_move (T rfl)) (y_ (yl_ixQ (T rfl) (T rfl) Tryz.runUnderlying52 Tryz.sizeOf138 (by omega) (by first | exact rfl | exact hn.nodes.b (i := k) (by omega) | exact hn.links.b (i := k2) (by omega) | exact hn.edges.b (i := k3) (by omega))) ?_ rfl) rfl
              refine y_ (yl_loadA (T rfl) Tryz.isAgg138 Tryz.sizeOf138 rfl (by first | exact cs_m (hn.nodes.cs (i := k) (by omega)) | exact cs_o | exact cs_m (hn.nodes.f0 (i := k) (by omega) rfl) | exact cs_m (hn.edges.f0 (i := k3) (by omega) rfl) | exact cs_m (hn.edges.f (i := k3) (by omega) rfl))) ?_ rfl
              refine e_ (eff_alloc Tryz.zeroValue138 cs_) ?_ rfl
              rintro _ _ ⟨n8, rfl, rfl⟩
              first | refine jl_e (eff_sW (T rfl) (T rfl) Tryz.sizeOf138) rfl gd_n ?_
              rintro _ _ ⟨rfl, rfl⟩
              refine jl_nil (q_then (j_seq (j_region (y_ (yl_fa (T rfl) fa138_2) (y_ (yl_load (T rfl) Tryz.isAgg3 (by first | exact c_o | exact c_m (hn.nodes.f0 (i := k) (by omega) rfl) | exact c_m (hn.edges.f0 (i := k3) (by omega) rfl) | exact c_m (hn.edges.f (i := k3) (by omega) rfl))) ?_ rfl) rfl))))
              refine y_ (yl_lss (T rfl) ev_c) (y_ (yl_move (T rfl)) ?_ rfl) rfl
              first | refine jl_if_d (s := 58) (at_f rfl) (fun c58 => ?_) (fun c58 => ?_) | refine jl_if (s := 58) (at_f rfl) (fun c58 => ?_) (fun c58 => ?_)
              · refine n_tf (n_tf (n_tf (y_ (yl_pick_t (T rfl) ev_c) (y_ (yl_move (T rfl)) (n_tf (n_tf (n_tf (y_ (yl_pick_t (T rfl) ev_c) (y_ (yl_move (T rfl)) (n_tf (n_tf (n_tf (y_ (yl_pick_t (T rfl) ev_c) (jl_nil (q_then (j_keep [(1, _), (7, _), (72, _)] ⟨at_f rfl, at_f rfl, at_f rfl, trivial⟩ ?_))) rfl) rfl rfl rfl rfl) rfl rfl rfl rfl) rfl rfl rfl rfl) rfl) rfl) rfl rfl rfl rfl) rfl rfl rfl rfl) rfl rfl rfl rfl) rfl) rfl) rfl rfl rfl rfl) rfl rfl rfl rfl) rfl rfl rfl rfl
                first | refine j_cond_t (at_f rfl) ?_ | refine j_cond_t (at_e (at_f rfl) (vbool (decide_eq_true c72))) ?_
                refine j_seq (j_region (y_ (yl_assign ev_c) (jl_nil (q_then (j_ret (q_block_ret (q_then_ret (q_loop_ret (q_block_ret (q_then_ret (q_ret rfl (.tmp (at_f rfl) .nil) ?_))))))))) rfl))
                exact ⟨_, ⟨⟨_, rfl, fun h => by first | (exfalso; omega) | exact ⟨fun i hi => hl2 i (by omega), fun i hi => hl3 i (by omega)⟩⟩, rfl⟩, sbt⟩
              · refine jl_y (yl_fa (T rfl) fa138_2) rfl (gd_y rfl rfl (at_f rfl)) (jl_y (yl_load (T rfl) Tryz.isAgg3 (by first | exact c_o | exact c_m (hn.nodes.f0 (i := k) (by omega) rfl) | exact c_m (hn.edges.f0 (i := k3) (by omega) rfl) | exact c_m (hn.edges.f (i := k3) (by omega) rfl))) rfl (gd_y rfl rfl (at_f rfl)) ?_)
                refine jl_y (yl_gtr (T rfl) ev_c) rfl (gd_y rfl rfl (at_f rfl)) (y_ (yl_pick_f (T rfl) (T rfl)) (y_ (yl_move (T rfl)) ?_ rfl) rfl)
                first | refine jl_if_d (s := 63) (at_f rfl) (fun c63 => ?_) (fun c63 => ?_) | refine jl_if (s := 63) (at_f rfl) (fun c63 => ?_) (fun c63 => ?_)
                · refine n_tf (n_tf (n_tf (y_ (yl_pick_t (T rfl) ev_c) (y_ (yl_move (T rfl)) (n_tf (n_tf (n_tf (y_ (yl_pick_t (T rfl) ev_c) (jl_nil (q_then (j_keep [(1, _), (7, _), (72, _)] ⟨at_f rfl, at_f rfl, at_f rfl, trivial⟩ ?_))) rfl) rfl rfl rfl rfl) rfl rfl rfl rfl) rfl rfl rfl rfl) rfl) rfl) rfl rfl rfl rfl) rfl rfl rfl rfl) rfl rfl rfl rfl
                  first | refine j_cond_t (at_f rfl) ?_ | refine j_cond_t (at_e (at_f rfl) (vbool (decide_eq_true c72))) ?_
                  refine j_seq (j_region (y_ (yl_assign ev_c) (jl_nil (q_then (j_ret (q_block_ret (q_then_ret (q_loop_ret (q_block_ret (q_then_ret (q_ret rfl (.tmp (at_f rfl) .nil) ?_))))))))) rfl))
                  exact ⟨_, ⟨⟨_, rfl, fun h => by first | (exfalso; omega) | exact ⟨fun i hi => hl2 i (by omega), fun i hi => hl3 i (by omega)⟩⟩, rfl⟩, sbt⟩
                · refine jl_y (yl_fa (T rfl) fa138_3) rfl (gd_y rfl rfl (at_f rfl)) (jl_y (yl_load (T rfl) Tryz.isAgg3 (by first | exact c_o | exact c_m (hn.nodes.f0 (i := k) (by omega) rfl) | exact c_m (hn.edges.f0 (i := k3) (by omega) rfl) | exact c_m (hn.edges.f (i := k3) (by omega) rfl))) rfl (gd_y rfl rfl (at_f rfl)) ?_)
                  refine jl_y (yl_lss (T rfl) ev_c) rfl (gd_y rfl rfl (at_f rfl)) (y_ (yl_pick_f (T rfl) (T rfl)) (y_ (yl_move (T rfl)) ?_ rfl) rfl)
                  first | refine jl_if_d (s := 68) (at_f rfl) (fun c68 => ?_) (fun c68 => ?_) | refine jl_if (s := 68) (at_f rfl) (fun c68 => ?_) (fun c68 => ?_)
                  · refine n_tf (n_tf (n_tf (y_ (yl_pick_t (T rfl) ev_c) (jl_nil (q_then (j_keep [(1, _), (7, _), (72, _)] ⟨at_f rfl, at_f rfl, at_f rfl, trivial⟩ ?_))) rfl) rfl rfl rfl rfl) rfl rfl rfl rfl) rfl rfl rfl rfl
                    first | refine j_cond_t (at_f rfl) ?_ | refine j_cond_t (at_e (at_f rfl) (vbool (decide_eq_true c72))) ?_
                    refine j_seq (j_region (y_ (yl_assign ev_c) (jl_nil (q_then (j_ret (q_block_ret (q_then_ret (q_loop_ret (q_block_ret (q_then_ret (q_ret rfl (.tmp (at_f rfl) .nil) ?_))))))))) rfl))
                    exact ⟨_, ⟨⟨_, rfl, fun h => by first | (exfalso; omega) | exact ⟨fun i hi => hl2 i (by omega), fun i hi => hl3 i (by omega)⟩⟩, rfl⟩, sbt⟩
                  · refine jl_y (yl_fa (T rfl) fa138_3) rfl (gd_y rfl rfl (at_f rfl)) (jl_y (yl_load (T rfl) Tryz.isAgg3 (by first | exact c_o | exact c_m (hn.nodes.f0 (i := k) (by omega) rfl) | exact c_m (hn.edges.f0 (i := k3) (by omega) rfl) | exact c_m (hn.edges.f (i := k3) (by omega) rfl))) rfl (gd_y rfl rfl (at_f rfl)) ?_)
                    refine jl_y (yl_gtr (T rfl) ev_c) rfl (gd_y rfl rfl (at_f rfl)) (y_ (yl_pick_f (T rfl) (T rfl)) (jl_nil (q_then (j_keep [(1, _), (7, _), (72, _)] ⟨at_f rfl, at_f rfl, at_f rfl, trivial⟩ ?_))) rfl)
                    first | refine j_cond_d (at_f rfl) (fun c72 => ?_) (fun c72 => ?_) | refine j_cond (at_f rfl) (fun c72 => ?_) (fun c72 => ?_)
                    · refine j_seq (j_region (y_ (yl_assign ev_c) (jl_nil (q_then (j_ret (q_block_ret (q_then_ret (q_loop_ret (q_block_ret (q_then_ret (q_ret rfl (.tmp (at_f rfl) .nil) ?_))))))))) rfl))
                      exact ⟨_, ⟨⟨_, rfl, fun h => by first | (exfalso; omega) | exact ⟨fun i hi => hl2 i (by omega), fun i hi => hl3 i (by omega)⟩⟩, rfl⟩, sbt⟩
                    · refine j_skip (q_block (q_then (j_region (y_ (yl_move (T rfl)) (y_ (yl_add (T rfl) ev_c (by omega)) ?_ rfl) rfl))))
                      refine y_ (yl_assign (T rfl)) (jl_nil ?_) rfl
                      refine q_loopC (k + 1) ?_ ?_ ⟨(by first | exact at_f rfl | (refine at_e (at_f rfl) (vint ?_); omega) | (refine at_e (at_f rfl) ?_; simp; done)), trivial⟩ ⟨at_f rfl, trivial⟩ ?_
                      · show k + 1 ≤ _; omega
                      · first | omega | (simp only []; omega)
                      · exact sbt
            · refine j_exit (q_then_exit (q_loop_exit (q_block_hit (q_then (j_seq (j_seq (j_region (y_ (yl_assign ev_c) (jl_nil (q_then (j_block ?_))) rfl))))))))
              refine j_loopH (X := Nat) (V := fun k2 => [(9, .int .i64 (k2 : Nat))]) (C := [(1, _)]) (φ := fun k2 => k2 ≤ n.links.length ∧ ∀ i, i < k2 → LnkOk n (gd n.links i)) (μ := fun k2 => n.links.length - k2) (x0 := 0) ?_ ⟨at_f rfl, trivial⟩ ⟨(by first | exact at_f rfl | (refine at_e (at_f rfl) (vint ?_); omega) | (refine at_e (at_f rfl) ?_; simp; done)), trivial⟩ ?_
              · exact ⟨Nat.zero_le _, fun i hi => by omega⟩
              rintro k2 ⟨hk2, hl2⟩
              refine j_seq (j_seq (j_region (y_ (yl_move (T rfl)) (y_ (yl_fa (T rfl) fa56_1) (y_ (yl_load (T rfl) Tryz.isAgg53 (by first | exact c_o | exact c_m (hn.nodes.f0 (i := k) (by omega) rfl) | exact c_m (hn.edges.f0 (i := k3) (by omega) rfl) | exact c_m (hn.edges.f (i := k3) (by omega) rfl))) ?_ rfl) rfl) rfl)))
              refine y_ (yl_len (T rfl) Tryz.runUnderlying53) (y_ (yl_lss (T rfl) (T rfl)) (jl_nil (q_then ?_)) rfl) rfl
              first | refine j_cond_d (at_f rfl) (fun c77 => ?_) (fun c77 => ?_) | refine j_cond (at_f rfl) (fun c77 => ?_) (fun c77 => ?_)
              · refine j_skip (q_then (j_seq (j_block (j_seq (j_region (y_ (yl_fa (T rfl) fa56_1) (y_ (yl_load (T rfl) Tryz.isAgg53 (by first | exact c_o | exact c_m (hn.nodes.f0 (i := k) (by omega) rfl) | exact c_m (hn.edges.f0 (i := k3) (by omega) rfl) | exact c_m (hn.edges.f (i := k3) (by omega) rfl))) ?_ rfl) rfl))))))
                refine y_ (yl_move (T rfl)) (y_ (yl_ixQ (T rfl) (T rfl) Tryz.runUnderlying53 Tryz.sizeOf71 (by omega) (by first | exact rfl | exact hn.nodes.b (i := k) (by omega) | exact hn.links.b (i := k2) (by omega) | exact hn.edges.b (i := k3) (by omega))) ?_ rfl) rfl
                refine y_ (yl_loadA (T rfl) Tryz.isAgg71 Tryz.sizeOf71 rfl (by first | exact cs_m (hn.links.cs (i := k2) (by omega)) | exact cs_o | exact cs_m (hn.nodes.f0 (i := k) (by omega) rfl) | exact cs_m (hn.edges.f0 (i := k3) (by omega) rfl) | exact cs_m (hn.edges.f (i := k3) (by omega) rfl))) ?_ rfl
                refine e_ (eff_alloc Tryz.zeroValue71 cs_) ?_ rfl
                rintro _ _ ⟨n10, rfl, rfl⟩
                first | refine jl_e (eff_sW (T rfl) (T rfl) Tryz.sizeOf71) rfl gd_n ?_
                rintro _ _ ⟨rfl, rfl⟩
                refine jl_nil (q_then (j_seq (j_region (y_ (yl_loadA (T rfl) Tryz.isAgg56 Tryz.sizeOf56 rfl (by first | exact cs_o | exact cs_m (hn.nodes.f0 (i := k) (by omega) rfl) | exact cs_m (hn.edges.f0 (i := k3) (by omega) rfl) | exact cs_m (hn.edges.f (i := k3) (by omega) rfl))) ?_ rfl))))
                refine y_ (yl_fa0 (T rfl) fa71_0) (y_ (yl_load (T rfl) Tryz.isAgg3 (by first | exact c_o | exact c_m (hn.nodes.f0 (i := k) (by omega) rfl) | exact c_m (hn.edges.f0 (i := k3) (by omega) rfl) | exact c_m (hn.edges.f (i := k3) (by omega) rfl))) ?_ rfl) rfl
                refine y_ (yl_call (.cons (T rfl) (.cons (T rfl) .nil)) Tryz.call124 (fun H' hs => isNode_s _ _)) ?_ rfl
                first | refine jl_y (yl_not_d (T rfl)) rfl gd_n ?_ | refine jl_y (yl_not (T rfl)) rfl gd_n ?_
                refine y_ (yl_move (T rfl)) ?_ rfl
                first | refine jl_if_d (s := 90) (at_f rfl) (fun c90 => ?_) (fun c90 => ?_) | refine jl_if (s := 90) (at_f rfl) (fun c90 => ?_) (fun c90 => ?_)
                · refine n_tf (n_tf (n_tf (n_tf (n_tf (y_ (yl_pick_t (T rfl) ev_c) (y_ (yl_move (T rfl)) (n_tf (n_tf (n_tf (n_tf (n_tf (y_ (yl_pick_t (T rfl) ev_c) (y_ (yl_move (T rfl)) (n_tf (n_tf (n_tf (y_ (yl_pick_t (T rfl) ev_c) (y_ (yl_move (T rfl)) (n_tf (n_tf (n_tf (y_ (yl_pick_t (T rfl) ev_c) (jl_nil (q_then (j_keep [(1, _), (9, _), (113, _)] ⟨at_f rfl, at_f rfl, at_f rfl, trivial⟩ ?_))) rfl) rfl rfl rfl rfl) rfl rfl rfl rfl) rfl rfl rfl rfl) rfl) rfl) rfl rfl rfl rfl) rfl rfl rfl rfl) rfl rfl rfl rfl) rfl) rfl) rfl rfl rfl rfl) rfl rfl rfl rfl) rfl rfl rfl rfl) rfl rfl rfl rfl) rfl rfl rfl rfl) rfl) rfl) rfl rfl rfl rfl) rfl rfl rfl rfl) rfl rfl rfl rfl) rfl rfl rfl rfl) rfl rfl rfl rfl
                  first | refine j_cond_t (at_f rfl) ?_ | refine j_cond_t (at_e (at_f rfl) (vbool (decide_eq_true c113))) ?_
                  refine j_seq (j_region (y_ (yl_assign ev_c) (jl_nil (q_then (j_ret (q_block_ret (q_then_ret (q_loop_ret (q_block_ret (q_then_ret (q_ret rfl (.tmp (at_f rfl) .nil) ?_))))))))) rfl))
                  exact ⟨_, ⟨⟨_, rfl, fun h => by first | (exfalso; omega) | exact ⟨fun i hi => hl2 i (by omega), fun i hi => hl3 i (by omega)⟩⟩, rfl⟩, sbt⟩
                · refine jl_y (yl_loadA (T rfl) Tryz.isAgg56 Tryz.sizeOf56 rfl (by first | exact cs_o | exact cs_m (hn.nodes.f0 (i := k) (by omega) rfl) | exact cs_m (hn.edges.f0 (i := k3) (by omega) rfl) | exact cs_m (hn.edges.f (i := k3) (by omega) rfl))) rfl (gd_y rfl rfl (at_f rfl)) ?_
                  refine jl_y (yl_fa (T rfl) fa71_1) rfl (gd_y rfl rfl (at_f rfl)) (jl_y (yl_load (T rfl) Tryz.isAgg3 (by first | exact c_o | exact c_m (hn.nodes.f0 (i := k) (by omega) rfl) | exact c_m (hn.edges.f0 (i := k3) (by omega) rfl) | exact c_m (hn.edges.f (i := k3) (by omega) rfl))) rfl (gd_y rfl rfl (at_f rfl)) ?_)
                  refine jl_y (yl_call (.cons (T rfl) (.cons (T rfl) .nil)) Tryz.call124 (fun H' hs => isNode_s _ _)) rfl (gd_y rfl rfl (at_f rfl)) ?_
                  first | refine jl_y (yl_not_d (T rfl)) rfl (gd_y rfl rfl (at_f rfl)) ?_ | refine jl_y (yl_not (T rfl)) rfl (gd_y rfl rfl (at_f rfl)) ?_
                  refine y_ (yl_pick_f (T rfl) (T rfl)) (y_ (yl_move (T rfl)) ?_ rfl) rfl
                  first | refine jl_if_d (s := 97) (at_f rfl) (fun c97 => ?_) (fun c97 => ?_) | refine jl_if (s := 97) (at_f rfl) (fun c97 => ?_) (fun c97 => ?_)
                  · refine n_tf (n_tf (n_tf (n_tf (n_tf (y_ (yl_pick_t (T rfl) ev_c) (y_ (yl_move (T rfl)) (n_tf (n_tf (n_tf (y_ (yl_pick_t (T rfl) ev_c) (y_ (yl_move (T rfl)) (n_tf (n_tf (n_tf (y_ (yl_pick_t (T rfl) ev_c) (jl_nil (q_then (j_keep [(1, _), (9, _), (113, _)] ⟨at_f rfl, at_f rfl, at_f rfl, trivial⟩ ?_))) rfl) rfl rfl rfl rfl) rfl rfl rfl rfl) rfl rfl rfl rfl) rfl) rfl) rfl rfl rfl rfl) rfl rfl rfl rfl) rfl rfl rfl rfl) rfl) rfl) rfl rfl rfl rfl) rfl rfl rfl rfl) rfl rfl rfl rfl) rfl rfl rfl rfl) rfl rfl rfl rfl
                    first | refine j_cond_t (at_f rfl) ?_ | refine j_cond_t (at_e (at_f rfl) (vbool (decide_eq_true c113))) ?_
                    refine j_seq (j_region (y_ (yl_assign ev_c) (jl_nil (q_then (j_ret (q_block_ret (q_then_ret (q_loop_ret (q_block_ret (q_then_ret (q_ret rfl (.tmp (at_f rfl) .nil) ?_))))))))) rfl))
                    exact ⟨_, ⟨⟨_, rfl, fun h => by first | (exfalso; omega) | exact ⟨fun i hi => hl2 i (by omega), fun i hi => hl3 i (by omega)⟩⟩, rfl⟩, sbt⟩
                  · refine jl_y (yl_fa0 (T rfl) fa71_0) rfl (gd_y rfl rfl (at_f rfl)) (jl_y (yl_load (T rfl) Tryz.isAgg3 (by first | exact c_o | exact c_m (hn.nodes.f0 (i := k) (by omega) rfl) | exact c_m (hn.edges.f0 (i := k3) (by omega) rfl) | exact c_m (hn.edges.f (i := k3) (by omega) rfl))) rfl (gd_y rfl rfl (at_f rfl)) ?_)
                    refine jl_y (yl_fa (T rfl) fa71_1) rfl (gd_y rfl rfl (at_f rfl)) (jl_y (yl_load (T rfl) Tryz.isAgg3 (by first | exact c_o | exact c_m (hn.nodes.f0 (i := k) (by omega) rfl) | exact c_m (hn.edges.f0 (i := k3) (by omega) rfl) | exact c_m (hn.edges.f (i := k3) (by omega) rfl))) rfl (gd_y rfl rfl (at_f rfl)) ?_)
                    refine jl_y (yl_eql (T rfl) (T rfl)) rfl (gd_y rfl rfl (at_f rfl)) (y_ (yl_pick_f (T rfl) (T rfl)) (y_ (yl_move (T rfl)) ?_ rfl) rfl)
                    first | refine jl_if_d (s := 104) (at_f rfl) (fun c104 => ?_) (fun c104 => ?_) | refine jl_if (s := 104) (at_f rfl) (fun c104 => ?_) (fun c104 => ?_)
                    · refine n_tf (n_tf (n_tf (y_ (yl_pick_t (T rfl) ev_c) (y_ (yl_move (T rfl)) (n_tf (n_tf (n_tf (y_ (yl_pick_t (T rfl) ev_c) (jl_nil (q_then (j_keep [(1, _), (9, _), (113, _)] ⟨at_f rfl, at_f rfl, at_f rfl, trivial⟩ ?_))) rfl) rfl rfl rfl rfl) rfl rfl rfl rfl) rfl rfl rfl rfl) rfl) rfl) rfl rfl rfl rfl) rfl rfl rfl rfl) rfl rfl rfl rfl
                      first | refine j_cond_t (at_f rfl) ?_ | refine j_cond_t (at_e (at_f rfl) (vbool (decide_eq_true c113))) ?_
                      refine j_seq (j_region (y_ (yl_assign ev_c) (jl_nil (q_then (j_ret (q_block_ret (q_then_ret (q_loop_ret (q_block_ret (q_then_ret (q_ret rfl (.tmp (at_f rfl) .nil) ?_))))))))) rfl))
                      exact ⟨_, ⟨⟨_, rfl, fun h => by first | (exfalso; omega) | exact ⟨fun i hi => hl2 i (by omega), fun i hi => hl3 i (by omega)⟩⟩, rfl⟩, sbt⟩
                    · refine jl_y (yl_fa (T rfl) fa71_2) rfl (gd_y rfl rfl (at_f rfl)) (jl_y (yl_load (T rfl) Tryz.isAgg3 (by first | exact c_o | exact c_m (hn.nodes.f0 (i := k) (by omega) rfl) | exact c_m (hn.edges.f0 (i := k3) (by omega) rfl) | exact c_m (hn.edges.f (i := k3) (by omega) rfl))) rfl (gd_y rfl rfl (at_f rfl)) ?_)
                      refine jl_y (yl_lss (T rfl) ev_c) rfl (gd_y rfl rfl (at_f rfl)) (y_ (yl_pick_f (T rfl) (T rfl)) (y_ (yl_move (T rfl)) ?_ rfl) rfl)
                      first | refine jl_if_d (s := 109) (at_f rfl) (fun c109 => ?_) (fun c109 => ?_) | refine jl_if (s := 109) (at_f rfl) (fun c109 => ?_) (fun c109 => ?_)
                      · refine n_tf (n_tf (n_tf (y_ (yl_pick_t (T rfl) ev_c) (jl_nil (q_then (j_keep [(1, _), (9, _), (113, _)] ⟨at_f rfl, at_f rfl, at_f rfl, trivial⟩ ?_))) rfl) rfl rfl rfl rfl) rfl rfl rfl rfl) rfl rfl rfl rfl
                        first | refine j_cond_t (at_f rfl) ?_ | refine j_cond_t (at_e (at_f rfl) (vbool (decide_eq_true c113))) ?_
                        refine j_seq (j_region (y_ (yl_assign ev_c) (jl_nil (q_then (j_ret (q_block_ret (q_then_ret (q_loop_ret (q_block_ret (q_then_ret (q_ret rfl (.tmp (at_f rfl) .nil) ?_))))))))) rfl))
                        exact ⟨_, ⟨⟨_, rfl, fun h => by first | (exfalso; omega) | exact ⟨fun i hi => hl2 i (by omega), fun i hi => hl3 i (by omega)⟩⟩, rfl⟩, sbt⟩
                      · refine jl_y (yl_fa (T rfl) fa71_2) rfl (gd_y rfl rfl (at_f rfl)) (jl_y (yl_load (T rfl) Tryz.isAgg3 (by first | exact c_o | exact c_m (hn.nodes.f0 (i := k) (by omega) rfl) | exact c_m (hn.edges.f0 (i := k3) (by omega) rfl) | exact c_m (hn.edges.f (i := k3) (by omega) rfl))) rfl (gd_y rfl rfl (at_f rfl)) ?_)
                        refine jl_y (yl_gtr (T rfl) ev_c) rfl (gd_y rfl rfl (at_f rfl)) (y_ (yl_pick_f (T rfl) (T rfl)) (jl_nil (q_then (j_keep [(1, _), (9, _), (113, _)] ⟨at_f rfl, at_f rfl, at_f rfl, trivial⟩ ?_))) rfl)
                        first | refine j_cond_d (at_f rfl) (fun c113 => ?_) (fun c113 => ?_) | refine j_cond (at_f rfl) (fun c113 => ?_) (fun c113 => ?_)
                        · refine j_seq (j_region (y_ (yl_assign ev_c) (jl_nil (q_then (j_ret (q_block_ret (q_then_ret (q_loop_ret (q_block_ret (q_then_ret (q_ret rfl (.tmp (at_f rfl) .nil) ?_))))))))) rfl))
                          exact ⟨_, ⟨⟨_, rfl, fun h => by first | (exfalso; omega) | exact ⟨fun i hi => hl2 i (by omega), fun i hi => hl3 i (by omega)⟩⟩, rfl⟩, sbt⟩
                        · refine j_skip (q_block (q_then (j_region (y_ (yl_move (T rfl)) (y_ (yl_add (T rfl) ev_c (by omega)) ?_ rfl) rfl))))
                          refine y_ (yl_assign (T rfl)) (jl_nil ?_) rfl
                          refine q_loopC (k2 + 1) ?_ ?_ ⟨(by first | exact at_f rfl | (refine at_e (at_f rfl) (vint ?_); omega) | (refine at_e (at_f rfl) ?_; simp; done)), trivial⟩ ⟨at_f rfl, trivial⟩ ?_
                          · refine ⟨by omega, fun i hi => ?_⟩
                            by_cases e : i = k2
                            · subst e; exact ⟨by omega, by omega, by omega, by omega, by omega, by omega, by omega⟩
                            · exact hl2 i (by omega)
                          · first | omega | (simp only []; omega)
                          · exact sbt
              · refine j_exit (q_then_exit (q_loop_exit (q_block_hit (q_then (j_seq (j_seq (j_region (y_ (yl_assign ev_c) (jl_nil (q_then (j_block ?_))) rfl))))))))
                refine j_loopH (X := Nat) (V := fun k3 => [(11, .int .i64 (k3 : Nat))]) (C := [(1, _)]) (φ := fun k3 => k3 ≤ n.edges.length ∧ ∀ i, i < k3 → 0 ≤ (gd n.edges i).node ∧ (gd n.edges i).node < n.nodes.length) (μ := fun k3 => n.edges.length - k3) (x0 := 0) ?_ ⟨at_f rfl, trivial⟩ ⟨(by first | exact at_f rfl | (refine at_e (at_f rfl) (vint ?_); omega) | (refine at_e (at_f rfl) ?_; simp; done)), trivial⟩ ?_
                · exact ⟨Nat.zero_le _, fun i hi => by omega⟩
                rintro k3 ⟨hk3, hl3⟩
                refine j_seq (j_seq (j_region (y_ (yl_move (T rfl)) (y_ (yl_fa (T rfl) fa56_2) (y_ (yl_load (T rfl) Tryz.isAgg54 (by first | exact c_o | exact c_m (hn.nodes.f0 (i := k) (by omega) rfl) | exact c_m (hn.edges.f0 (i := k3) (by omega) rfl) | exact c_m (hn.edges.f (i := k3) (by omega) rfl))) ?_ rfl) rfl) rfl)))
                refine y_ (yl_len (T rfl) Tryz.runUnderlying54) (y_ (yl_lss (T rfl) (T rfl)) (jl_nil (q_then ?_)) rfl) rfl
                first | refine j_cond_d (at_f rfl) (fun c118 => ?_) (fun c118 => ?_) | refine j_cond (at_f rfl) (fun c118 => ?_) (fun c118 => ?_)
                · refine j_skip (q_then (j_seq (j_block (j_seq (j_any 9 [(0, true), (1, true), (2, true), (3, true), (4, true), (5, true), (6, true), (7, true), (8, true)] _ mixd (by kernel_rfl) sb0 ?_)))))
                  refine o_y rfl (yl_loadA (T rfl) Tryz.isAgg56 Tryz.sizeOf56 rfl (by first | exact cs_o | exact cs_m (hn.nodes.f0 (i := k) (by omega) rfl) | exact cs_m (hn.edges.f0 (i := k3) (by omega) rfl) | exact cs_m (hn.edges.f (i := k3) (by omega) rfl))) ?_ rfl gd_n
                  refine o_y rfl (yl_fa (T rfl) fa56_2) (o_y rfl (yl_load (T rfl) Tryz.isAgg54 (by first | exact c_o | exact c_m (hn.nodes.f0 (i := k) (by omega) rfl) | exact c_m (hn.edges.f0 (i := k3) (by omega) rfl) | exact c_m (hn.edges.f (i := k3) (by omega) rfl))) ?_ rfl gd_n) rfl gd_n
                  refine o_y rfl (yl_move (T rfl)) (o_y rfl (yl_ixQ (T rfl) (T rfl) Tryz.runUnderlying54 Tryz.sizeOf154 (by omega) (by first | exact rfl | exact hn.nodes.b (i := k) (by omega) | exact hn.links.b (i := k2) (by omega) | exact hn.edges.b (i := k3) (by omega))) ?_ rfl gd_n) rfl gd_n
                  refine o_y rfl (yl_fa (T rfl) fa154_1) (o_y rfl (yl_load (T rfl) Tryz.isAgg3 (by first | exact c_o | exact c_m (hn.nodes.f0 (i := k) (by omega) rfl) | exact c_m (hn.edges.f0 (i := k3) (by omega) rfl) | exact c_m (hn.edges.f (i := k3) (by omega) rfl))) ?_ rfl gd_n) rfl gd_n
                  refine o_y rfl (yl_call (.cons (T rfl) (.cons (T rfl) .nil)) Tryz.call124 (fun H' hs => isNode_s _ _)) ?_ rfl gd_n
                  first | refine o_y rfl (yl_not_d (T rfl)) ?_ rfl gd_n | refine o_y rfl (yl_not (T rfl)) ?_ rfl gd_n
                  refine jo_nil rfl (jl_nil (q_then ?_))
                  first | refine j_cond_d (at_f rfl) (fun c129 => ?_) (fun c129 => ?_) | refine j_cond (at_f rfl) (fun c129 => ?_) (fun c129 => ?_)
                  · refine j_seq (j_region (y_ (yl_assign ev_c) (jl_nil (q_then (j_ret (q_block_ret (q_then_ret (q_loop_ret (q_block_ret (q_then_ret (q_ret rfl (.tmp (at_f rfl) .nil) ?_))))))))) rfl))
                    exact ⟨_, ⟨⟨_, rfl, fun h => by first | (exfalso; omega) | exact ⟨fun i hi => hl2 i (by omega), fun i hi => hl3 i (by omega)⟩⟩, rfl⟩, sbt⟩
                  · refine j_skip (q_block (q_then (j_region (y_ (yl_move (T rfl)) (y_ (yl_add (T rfl) ev_c (by omega)) ?_ rfl) rfl))))
                    refine y_ (yl_assign (T rfl)) (jl_nil ?_) rfl
                    refine q_loopC (k3 + 1) ?_ ?_ ⟨(by first | exact at_f rfl | (refine at_e (at_f rfl) (vint ?_); omega) | (refine at_e (at_f rfl) ?_; simp; done)), trivial⟩ ⟨at_f rfl, trivial⟩ ?_
                    · refine ⟨by omega, fun i hi => ?_⟩
                      by_cases e : i = k3
                      · subst e; omega
                      · exact hl3 i (by omega)
                    · first | omega | (simp only []; omega)
                    · exact sbt
                · refine j_exit (q_then_exit (q_loop_exit (q_block_hit (q_then (j_seq (j_region (y_ (yl_assign ev_c) (jl_nil (q_then (j_ret (q_ret rfl (.tmp (at_f rfl) .nil) ?_)))) rfl)))))))
                  exact ⟨_, ⟨⟨_, rfl, fun h => by first | (exfalso; omega) | exact ⟨fun i hi => hl2 i (by omega), fun i hi => hl3 i (by omega)⟩⟩, rfl⟩, sbt⟩
theorem chkF_s {w0 : World} {H : List (Nat × Obj)} (n : Nm) (hn : NetM w0 H n) (f : Flr) (hf : Arr w0 H f.q 1 encI f.links) (hfl : f.links.length ≤ 9223372036854775807) :
    FSpec Tryz.prog w0 77 #[.agg (encNm n).toArray, .agg (encFl f).toArray] H (fun v H' => (∃ e : Int, v = .int .i64 e) ∧ H' = H) := by
  refine fn_spec Tryz.func77 rfl Tryz.ntmps77 rfl (j_seq (j_region (e_ (eff_box (T rfl) cs_) ?_ rfl)))
  rintro _ _ ⟨n2, rfl, rfl⟩
  refine e_ (eff_box (T rfl) cs_) ?_ rfl
  rintro _ _ ⟨n3, rfl, rfl⟩
  refine y_ (yl_assign ev_c) (jl_nil (q_then (j_seq (j_seq (j_region (y_ (yl_assign ev_c) (jl_nil (q_then (j_block ?_))) rfl)))))) rfl
  refine j_loopH (X := Nat) (V := fun k => [(5, .int .i64 (k : Nat))]) (C := [(2, _), (3, _)]) (φ := fun k => k ≤ f.links.length) (μ := fun k => f.links.length - k) (x0 := 0) ?_ ⟨at_f rfl, at_f rfl, trivial⟩ ⟨(by first | exact at_f rfl | (refine at_e (at_f rfl) (vint ?_); omega) | (refine at_e (at_f rfl) ?_; simp; done)), trivial⟩ ?_
  · exact Nat.zero_le _
  rintro k hk
  refine j_seq (j_seq (j_region (y_ (yl_move (T rfl)) (y_ (yl_fa0 (T rfl) fa58_0) (y_ (yl_load (T rfl) Tryz.isAgg42 (by first | exact c_o)) ?_ rfl) rfl) rfl)))
  refine y_ (yl_len (T rfl) Tryz.runUnderlying42) (y_ (yl_lss (T rfl) (T rfl)) (jl_nil (q_then ?_)) rfl) rfl
  first | refine j_cond_d (at_f rfl) (fun c10 => ?_) (fun c10 => ?_) | refine j_cond (at_f rfl) (fun c10 => ?_) (fun c10 => ?_)
  · refine j_skip (q_then (j_seq (j_block (j_seq (j_any 35 [(0, true), (1, true), (2, true), (3, true), (4, true), (5, true), (6, true), (7, true), (8, true), (9, true), (10, true), (11, true), (12, true), (13, true), (14, true), (15, true), (16, true), (17, true), (18, true), (19, true), (20, true), (21, true), (22, true), (23, true), (24, true), (25, true), (26, true), (27, true), (28, true), (29, true), (30, true), (31, true), (32, true), (33, true), (34, true)] _ mixd (by kernel_rfl) sb0 ?_)))))
    refine o_y rfl (yl_fa0 (T rfl) fa58_0) (o_y rfl (yl_load (T rfl) Tryz.isAgg42 (by first | exact c_o)) ?_ rfl gd_n) rfl gd_n
    refine o_y rfl (yl_move (T rfl)) (o_y rfl (yl_ixQ (T rfl) (T rfl) Tryz.runUnderlying42 Tryz.sizeOf3 (by omega) (by first | exact rfl | exact hf.b (i := k) (by omega) | exact hf.b (i := ((k : Int) - 1).toNat) (by omega))) ?_ rfl gd_n) rfl gd_n
    refine o_y rfl (yl_load (T rfl) Tryz.isAgg3 (by first | exact c_o | exact cell1 ((hf.mono sbt).cs (i := k) (by omega)))) ?_ rfl gd_n
    refine o_y rfl (yl_lss (T rfl) ev_c) (o_y rfl (yl_move (T rfl)) ?_ rfl gd_n) rfl gd_n
    first | refine o_if_d (s := 19) (at_f rfl) (fun c19 => ?_) (fun c19 => ?_) | refine o_if (s := 19) (at_f rfl) (fun c19 => ?_) (fun c19 => ?_)
    · refine o_n rfl (o_n rfl (o_n rfl (o_n rfl (o_n rfl (o_n rfl (o_n rfl (o_n rfl (o_n rfl (o_y rfl (yl_pick_t (T rfl) ev_c) (o_y rfl (yl_move (T rfl)) (o_n rfl (o_n rfl (o_n rfl (o_n rfl (o_n rfl (o_n rfl (o_n rfl (o_n rfl (o_n rfl (o_n rfl (o_n rfl (o_n rfl (o_n rfl (o_n rfl (o_n rfl (o_n rfl (o_y rfl (yl_pick_t (T rfl) ev_c) (jo_nil rfl (jl_nil (q_then (j_keep [(2, _), (3, _), (5, _), (47, _)] ⟨at_f rfl, at_f rfl, at_f rfl, at_f rfl, trivial⟩ ?_)))) rfl gd_n) rfl (nw_tf rfl rfl (at_f rfl))) rfl (nw_u rfl rfl (at_f rfl))) rfl (nw_u rfl rfl (at_f rfl))) rfl (nw_u rfl rfl (at_f rfl))) rfl (nw_u rfl rfl (at_f rfl))) rfl (nw_u rfl rfl (at_f rfl))) rfl (nw_u rfl rfl (at_f rfl))) rfl (nw_u rfl rfl (at_f rfl))) rfl (nw_u rfl rfl (at_f rfl))) rfl (nw_u rfl rfl (at_f rfl))) rfl (nw_u rfl rfl (at_f rfl))) rfl (nw_u rfl rfl (at_f rfl))) rfl (nw_u rfl rfl (at_f rfl))) rfl (nw_tf rfl rfl (at_f rfl))) rfl (nw_tf rfl rfl (at_f rfl))) rfl (nw_tf rfl rfl (at_f rfl))) rfl gd_n) rfl gd_n) rfl (nw_tf rfl rfl (at_f rfl))) rfl (nw_tf rfl rfl (at_f rfl))) rfl (nw_tf rfl rfl (at_f rfl))) rfl (nw_tf rfl rfl (at_f rfl))) rfl (nw_tf rfl rfl (at_f rfl))) rfl (nw_tf rfl rfl (at_f rfl))) rfl (nw_tf rfl rfl (at_f rfl))) rfl (nw_tf rfl rfl (at_f rfl))) rfl (nw_tf rfl rfl (at_f rfl))
      first | refine j_cond_t (at_f rfl) ?_ | refine j_cond_t (at_e (at_f rfl) (vbool (decide_eq_true c47))) ?_
      refine j_seq (j_region (y_ (yl_assign ev_c) (jl_nil (q_then (j_ret (q_block_ret (q_then_ret (q_loop_ret (q_block_ret (q_then_ret (q_ret rfl (.tmp (at_f rfl) .nil) ?_))))))))) rfl))
      exact ⟨_, ⟨⟨_, rfl⟩, rfl⟩, sbt⟩
    · refine o_y rfl (yl_fa0 (T rfl) fa58_0) (o_y rfl (yl_load (T rfl) Tryz.isAgg42 (by first | exact c_o)) ?_ rfl (gd_y rfl rfl (at_f rfl))) rfl (gd_y rfl rfl (at_f rfl))
      refine o_y rfl (yl_move (T rfl)) (o_y rfl (yl_ixQ (T rfl) (T rfl) Tryz.runUnderlying42 Tryz.sizeOf3 (by omega) (by first | exact rfl | exact hf.b (i := k) (by omega) | exact hf.b (i := ((k : Int) - 1).toNat) (by omega))) ?_ rfl (gd_y rfl rfl (at_f rfl))) rfl (gd_y rfl rfl (at_f rfl))
      refine o_y rfl (yl_load (T rfl) Tryz.isAgg3 (by first | exact c_o | exact cell1 ((hf.mono sbt).cs (i := k) (by omega)))) ?_ rfl (gd_y rfl rfl (at_f rfl))
      refine o_y rfl (yl_fa (T rfl) fa56_1) (o_y rfl (yl_load (T rfl) Tryz.isAgg53 (by first | exact c_o)) ?_ rfl (gd_y rfl rfl (at_f rfl))) rfl (gd_y rfl rfl (at_f rfl))
      refine o_y rfl (yl_len (T rfl) Tryz.runUnderlying53) (o_y rfl (yl_geq (T rfl) (T rfl)) (o_y rfl (yl_pick_f (T rfl) (T rfl)) (o_y rfl (yl_move (T rfl)) ?_ rfl gd_n) rfl gd_n) rfl (gd_y rfl rfl (at_f rfl))) rfl (gd_y rfl rfl (at_f rfl))
      first | refine o_if_d (s := 30) (at_f rfl) (fun c30 => ?_) (fun c30 => ?_) | refine o_if (s := 30) (at_f rfl) (fun c30 => ?_) (fun c30 => ?_)
      · refine o_n rfl (o_n rfl (o_n rfl (o_n rfl (o_n rfl (o_n rfl (o_n rfl (o_n rfl (o_n rfl (o_n rfl (o_n rfl (o_n rfl (o_n rfl (o_n rfl (o_n rfl (o_n rfl (o_y rfl (yl_pick_t (T rfl) ev_c) (jo_nil rfl (jl_nil (q_then (j_keep [(2, _), (3, _), (5, _), (47, _)] ⟨at_f rfl, at_f rfl, at_f rfl, at_f rfl, trivial⟩ ?_)))) rfl gd_n) rfl (nw_tf rfl rfl (at_f rfl))) rfl (nw_u rfl rfl (at_f rfl))) rfl (nw_u rfl rfl (at_f rfl))) rfl (nw_u rfl rfl (at_f rfl))) rfl (nw_u rfl rfl (at_f rfl))) rfl (nw_u rfl rfl (at_f rfl))) rfl (nw_u rfl rfl (at_f rfl))) rfl (nw_u rfl rfl (at_f rfl))) rfl (nw_u rfl rfl (at_f rfl))) rfl (nw_u rfl rfl (at_f rfl))) rfl (nw_u rfl rfl (at_f rfl))) rfl (nw_u rfl rfl (at_f rfl))) rfl (nw_u rfl rfl (at_f rfl))) rfl (nw_tf rfl rfl (at_f rfl))) rfl (nw_tf rfl rfl (at_f rfl))) rfl (nw_tf rfl rfl (at_f rfl))
        first | refine j_cond_t (at_f rfl) ?_ | refine j_cond_t (at_e (at_f rfl) (vbool (decide_eq_true c47))) ?_
        refine j_seq (j_region (y_ (yl_assign ev_c) (jl_nil (q_then (j_ret (q_block_ret (q_then_ret (q_loop_ret (q_block_ret (q_then_ret (q_ret rfl (.tmp (at_f rfl) .nil) ?_))))))))) rfl))
        exact ⟨_, ⟨⟨_, rfl⟩, rfl⟩, sbt⟩
      · refine o_y rfl (yl_move (T rfl)) (o_y rfl (yl_gtr (T rfl) ev_c) (o_y rfl (yl_move (T rfl)) ?_ rfl (gd_y rfl rfl (at_f rfl))) rfl (gd_y rfl rfl (at_f rfl))) rfl (gd_y rfl rfl (at_f rfl))
        first | refine o_if_d (s := 33) (at_f rfl) (fun c33 => ?_) (fun c33 => ?_) | refine o_if (s := 33) (at_f rfl) (fun c33 => ?_) (fun c33 => ?_)
        · refine o_y rfl (yl_fa0 (T rfl) fa58_0) (o_y rfl (yl_load (T rfl) Tryz.isAgg42 (by first | exact c_o)) ?_ rfl (gd_y rfl rfl (at_f rfl))) rfl (gd_y rfl rfl (at_f rfl))
          refine o_y rfl (yl_move (T rfl)) (o_y rfl (yl_sub (T rfl) ev_c (by omega)) ?_ rfl (gd_y rfl rfl (at_f rfl))) rfl (gd_y rfl rfl (at_f rfl))
          refine o_y rfl (yl_ixR (T rfl) (T rfl) Tryz.runUnderlying42 Tryz.sizeOf3 (by omega) (by first | exact rfl | exact hf.b (i := k) (by omega) | exact hf.b (i := ((k : Int) - 1).toNat) (by omega))) ?_ rfl (gd_y rfl rfl (at_f rfl))
          refine o_y rfl (yl_load (T rfl) Tryz.isAgg3 (by first | exact c_o | exact cell1 ((hf.mono sbt).cs (i := ((k : Int) - 1).toNat) (by omega)))) ?_ rfl (gd_y rfl rfl (at_f rfl))
          refine o_y rfl (yl_fa0 (T rfl) fa58_0) (o_y rfl (yl_load (T rfl) Tryz.isAgg42 (by first | exact c_o)) ?_ rfl (gd_y rfl rfl (at_f rfl))) rfl (gd_y rfl rfl (at_f rfl))
          refine o_y rfl (yl_move (T rfl)) (o_y rfl (yl_ixQ (T rfl) (T rfl) Tryz.runUnderlying42 Tryz.sizeOf3 (by omega) (by first | exact rfl | exact hf.b (i := k) (by omega) | exact hf.b (i := ((k : Int) - 1).toNat) (by omega))) ?_ rfl (gd_y rfl rfl (at_f rfl))) rfl (gd_y rfl rfl (at_f rfl))
          refine o_y rfl (yl_load (T rfl) Tryz.isAgg3 (by first | exact c_o | exact cell1 ((hf.mono sbt).cs (i := k) (by omega)))) ?_ rfl (gd_y rfl rfl (at_f rfl))
          refine o_y rfl (yl_geq (T rfl) (T rfl)) (o_y rfl (yl_pick_t (T rfl) (T rfl)) (o_y rfl (yl_pick_f (T rfl) (T rfl)) (jo_nil rfl (jl_nil (q_then (j_keep [(2, _), (3, _), (5, _), (47, _)] ⟨at_f rfl, at_f rfl, at_f rfl, at_f rfl, trivial⟩ ?_)))) rfl gd_n) rfl (gd_y rfl rfl (at_f rfl))) rfl (gd_y rfl rfl (at_f rfl))
          first | refine j_cond_d (at_f rfl) (fun c47 => ?_) (fun c47 => ?_) | refine j_cond (at_f rfl) (fun c47 => ?_) (fun c47 => ?_)
          · refine j_seq (j_region (y_ (yl_assign ev_c) (jl_nil (q_then (j_ret (q_block_ret (q_then_ret (q_loop_ret (q_block_ret (q_then_ret (q_ret rfl (.tmp (at_f rfl) .nil) ?_))))))))) rfl))
            exact ⟨_, ⟨⟨_, rfl⟩, rfl⟩, sbt⟩
          · refine j_skip (q_block (q_then (j_region (y_ (yl_move (T rfl)) (y_ (yl_add (T rfl) ev_c (by omega)) ?_ rfl) rfl))))
            refine y_ (yl_assign (T rfl)) (jl_nil ?_) rfl
            refine q_loopC (k + 1) ?_ ?_ ⟨(by first | exact at_f rfl | (refine at_e (at_f rfl) (vint ?_); omega) | (refine at_e (at_f rfl) ?_; simp; done)), trivial⟩ ⟨at_f rfl, at_f rfl, trivial⟩ ?_
            · show k + 1 ≤ _; omega
            · first | omega | (simp only []; omega)
            · exact sbt
        · refine o_n rfl (o_n rfl (o_n rfl (o_n rfl (o_n rfl (o_n rfl (o_n rfl (o_n rfl (o_n rfl (o_n rfl (o_n rfl (o_n rfl (o_y rfl (yl_pick_f (T rfl) ev_c) (o_y rfl (yl_pick_f (T rfl) (T rfl)) (jo_nil rfl (jl_nil (q_then (j_keep [(2, _), (3, _), (5, _), (47, _)] ⟨at_f rfl, at_f rfl, at_f rfl, at_f rfl, trivial⟩ ?_)))) rfl gd_n) rfl (gd_y rfl rfl (at_f rfl))) rfl (nw_ft rfl rfl (at_f rfl))) rfl (nw_ft rfl rfl (at_f rfl))) rfl (nw_ft rfl rfl (at_f rfl))) rfl (nw_ft rfl rfl (at_f rfl))) rfl (nw_ft rfl rfl (at_f rfl))) rfl (nw_ft rfl rfl (at_f rfl))) rfl (nw_ft rfl rfl (at_f rfl))) rfl (nw_ft rfl rfl (at_f rfl))) rfl (nw_ft rfl rfl (at_f rfl))) rfl (nw_ft rfl rfl (at_f rfl))) rfl (nw_ft rfl rfl (at_f rfl))) rfl (nw_ft rfl rfl (at_f rfl))
          first | refine j_cond_f (at_f rfl) ?_ | refine j_cond_f (at_e (at_f rfl) (vbool (decide_eq_false c47))) ?_
          refine j_skip (q_block (q_then (j_region (y_ (yl_move (T rfl)) (y_ (yl_add (T rfl) ev_c (by omega)) ?_ rfl) rfl))))
          refine y_ (yl_assign (T rfl)) (jl_nil ?_) rfl
          refine q_loopC (k + 1) ?_ ?_ ⟨(by first | exact at_f rfl | (refine at_e (at_f rfl) (vint ?_); omega) | (refine at_e (at_f rfl) ?_; simp; done)), trivial⟩ ⟨at_f rfl, at_f rfl, trivial⟩ ?_
          · show k + 1 ≤ _; omega
          · first | omega | (simp only []; omega)
          · exact sbt
  · refine j_exit (q_then_exit (q_loop_exit (q_block_hit (q_then (j_seq (j_seq (j_region (y_ (yl_fa (T rfl) fa58_1) (y_ (yl_load (T rfl) Tryz.isAgg3 (by first | exact c_o)) ?_ rfl) rfl))))))))
    refine y_ (yl_neq (T rfl) ev_c) (y_ (yl_move (T rfl)) ?_ rfl) rfl
    first | refine jl_if_d (s := 51) (at_f rfl) (fun c51 => ?_) (fun c51 => ?_) | refine jl_if (s := 51) (at_f rfl) (fun c51 => ?_) (fun c51 => ?_)
    · refine jl_y (yl_loadA (T rfl) Tryz.isAgg56 Tryz.sizeOf56 rfl (by first | exact cs_o)) rfl (gd_y rfl rfl (at_f rfl)) ?_
      refine jl_y (yl_fa (T rfl) fa58_1) rfl (gd_y rfl rfl (at_f rfl)) (jl_y (yl_load (T rfl) Tryz.isAgg3 (by first | exact c_o)) rfl (gd_y rfl rfl (at_f rfl)) ?_)
      refine jl_y (yl_call (.cons (T rfl) (.cons (T rfl) .nil)) Tryz.call124 (fun H' hs => isNode_s _ _)) rfl (gd_y rfl rfl (at_f rfl)) ?_
      first | refine jl_y (yl_not_d (T rfl)) rfl (gd_y rfl rfl (at_f rfl)) ?_ | refine jl_y (yl_not (T rfl)) rfl (gd_y rfl rfl (at_f rfl)) ?_
      refine y_ (yl_pick_t (T rfl) (T rfl)) (jl_nil (q_then ?_)) rfl
      first | refine j_cond_d (at_f rfl) (fun c57 => ?_) (fun c57 => ?_) | refine j_cond (at_f rfl) (fun c57 => ?_) (fun c57 => ?_)
      · refine j_seq (j_region (y_ (yl_assign ev_c) (jl_nil (q_then (j_ret (q_then_ret (q_ret rfl (.tmp (at_f rfl) .nil) ?_))))) rfl))
        exact ⟨_, ⟨⟨_, rfl⟩, rfl⟩, sbt⟩
      · refine j_skip (q_then (j_seq (j_region (y_ (yl_assign ev_c) (jl_nil (q_then (j_ret (q_ret rfl (.tmp (at_f rfl) .nil) ?_)))) rfl))))
        exact ⟨_, ⟨⟨_, rfl⟩, rfl⟩, sbt⟩
    · refine n_ft (n_ft (n_ft (n_ft (n_ft (y_ (yl_pick_f (T rfl) ev_c) (jl_nil (q_then ?_)) rfl) rfl rfl rfl rfl) rfl rfl rfl rfl) rfl rfl rfl rfl) rfl rfl rfl rfl) rfl rfl rfl rfl
      first | refine j_cond_f (at_f rfl) ?_ | refine j_cond_f (at_e (at_f rfl) (vbool (decide_eq_false c57))) ?_
      refine j_skip (q_then (j_seq (j_region (y_ (yl_assign ev_c) (jl_nil (q_then (j_ret (q_ret rfl (.tmp (at_f rfl) .nil) ?_)))) rfl))))
      exact ⟨_, ⟨⟨_, rfl⟩, rfl⟩, sbt⟩
structure RgtOk (n : Nm) (f : Flr) (x y : Int) : Prop where
  net : NetOk n
  nn : n.nodes.length ≤ 12
  nl : n.links.length ≤ 30
  fl : f.links.length ≤ 30
  x : 0 ≤ x ∧ x < n.nodes.length
  y : 0 ≤ y ∧ y < n.nodes.length
theorem right_s {w0 : World} {H : List (Nat × Obj)} (n : Nm) (hn : NetM w0 H n) (f : Flr) (hf : Arr w0 H f.q 1 encI f.links) (hfl : f.links.length ≤ 9223372036854775807) (x y : Int) :
    FSpec Tryz.prog w0 28 #[.agg (encNm n).toArray, .agg (encFl f).toArray, .int .i64 x, .int .i64 y] H (fun v H' => (∃ t : Bool, v = .bool t ∧ (t = true → RgtOk n f x y)) ∧ H' = H) := by
  refine fn_spec Tryz.func28 rfl Tryz.ntmps28 rfl (j_seq (j_region (e_ (eff_box (T rfl) cs_) ?_ rfl)))
  rintro _ _ ⟨n4, rfl, rfl⟩
  refine e_ (eff_box (T rfl) cs_) ?_ rfl
  rintro _ _ ⟨n5, rfl, rfl⟩
  refine y_ (yl_assign ev_c) (jl_nil (q_then (j_seq (j_region (y_ (yl_loadA (T rfl) Tryz.isAgg56 Tryz.sizeOf56 rfl (by first | exact cs_o)) ?_ rfl))))) rfl
  refine y_ (yl_call (.cons (T rfl) (.cons ev_c (.cons ev_c (.cons ev_c .nil)))) Tryz.call75 (fun H' hs => netFew_s _ _ _ _)) (y_ (yl_move (T rfl)) ?_ rfl) rfl
  first | refine jl_if_d (s := 11) (at_f rfl) (fun c11 => ?_) (fun c11 => ?_) | refine jl_if (s := 11) (at_f rfl) (fun c11 => ?_) (fun c11 => ?_)
  · refine jl_y (yl_loadA (T rfl) Tryz.isAgg56 Tryz.sizeOf56 rfl (by first | exact cs_o)) rfl (gd_y rfl rfl (at_f rfl)) ?_
    refine jl_e (eff_call (.cons (T rfl) .nil) Tryz.call76 (netCheck_s n (hn.mono sbt))) rfl (gd_y rfl rfl (at_f rfl)) ?_
    rintro _ _ ⟨⟨e, rfl, hne⟩, rfl⟩
    refine jl_y (yl_eql (T rfl) ev_c) rfl (gd_y rfl rfl (at_f rfl)) (y_ (yl_pick_t (T rfl) (T rfl)) (y_ (yl_move (T rfl)) ?_ rfl) rfl)
    first | refine jl_if_d (s := 16) (at_f rfl) (fun c16 => ?_) (fun c16 => ?_) | refine jl_if (s := 16) (at_f rfl) (fun c16 => ?_) (fun c16 => ?_)
    · refine jl_y (yl_loadA (T rfl) Tryz.isAgg56 Tryz.sizeOf56 rfl (by first | exact cs_o)) rfl (gd_y rfl rfl (at_f rfl)) ?_
      refine jl_y (yl_loadA (T rfl) Tryz.isAgg58 Tryz.sizeOf58 rfl (by first | exact cs_o)) rfl (gd_y rfl rfl (at_f rfl)) ?_
      refine jl_e (eff_call (.cons (T rfl) (.cons (T rfl) .nil)) Tryz.call77 (chkF_s n (hn.mono sbt) f (hf.mono sbt) hfl)) rfl (gd_y rfl rfl (at_f rfl)) ?_
      rintro _ _ ⟨⟨e2, rfl⟩, rfl⟩
      refine jl_y (yl_eql (T rfl) ev_c) rfl (gd_y rfl rfl (at_f rfl)) (y_ (yl_pick_t (T rfl) (T rfl)) (y_ (yl_move (T rfl)) ?_ rfl) rfl)
      first | refine jl_if_d (s := 22) (at_f rfl) (fun c22 => ?_) (fun c22 => ?_) | refine jl_if (s := 22) (at_f rfl) (fun c22 => ?_) (fun c22 => ?_)
      · refine jl_y (yl_fa0 (T rfl) fa58_0) rfl (gd_y rfl rfl (at_f rfl)) (jl_y (yl_load (T rfl) Tryz.isAgg42 (by first | exact c_o)) rfl (gd_y rfl rfl (at_f rfl)) ?_)
        refine jl_y (yl_len (T rfl) Tryz.runUnderlying42) rfl (gd_y rfl rfl (at_f rfl)) (jl_y (yl_leq (T rfl) ev_c) rfl (gd_y rfl rfl (at_f rfl)) (y_ (yl_pick_t (T rfl) (T rfl)) (y_ (yl_move (T rfl)) ?_ rfl) rfl))
        first | refine jl_if_d (s := 28) (at_f rfl) (fun c28 => ?_) (fun c28 => ?_) | refine jl_if (s := 28) (at_f rfl) (fun c28 => ?_) (fun c28 => ?_)
        · refine jl_y (yl_move (T rfl)) rfl (gd_y rfl rfl (at_f rfl)) (jl_y (yl_geq (T rfl) ev_c) rfl (gd_y rfl rfl (at_f rfl)) (y_ (yl_pick_t (T rfl) (T rfl)) (y_ (yl_move (T rfl)) ?_ rfl) rfl))
          first | refine jl_if_d (s := 32) (at_f rfl) (fun c32 => ?_) (fun c32 => ?_) | refine jl_if (s := 32) (at_f rfl) (fun c32 => ?_) (fun c32 => ?_)
          · refine jl_y (yl_move (T rfl)) rfl (gd_y rfl rfl (at_f rfl)) (jl_y (yl_fa0 (T rfl) fa56_0) rfl (gd_y rfl rfl (at_f rfl)) (jl_y (yl_load (T rfl) Tryz.isAgg52 (by first | exact c_o)) rfl (gd_y rfl rfl (at_f rfl)) ?_))
            refine jl_y (yl_len (T rfl) Tryz.runUnderlying52) rfl (gd_y rfl rfl (at_f rfl)) (jl_y (yl_lss (T rfl) (T rfl)) rfl (gd_y rfl rfl (at_f rfl)) (y_ (yl_pick_t (T rfl) (T rfl)) (y_ (yl_move (T rfl)) ?_ rfl) rfl))
            first | refine jl_if_d (s := 39) (at_f rfl) (fun c39 => ?_) (fun c39 => ?_) | refine jl_if (s := 39) (at_f rfl) (fun c39 => ?_) (fun c39 => ?_)
            · refine jl_y (yl_move (T rfl)) rfl (gd_y rfl rfl (at_f rfl)) (jl_y (yl_geq (T rfl) ev_c) rfl (gd_y rfl rfl (at_f rfl)) (y_ (yl_pick_t (T rfl) (T rfl)) (y_ (yl_move (T rfl)) ?_ rfl) rfl))
              first | refine jl_if_d (s := 43) (at_f rfl) (fun c43 => ?_) (fun c43 => ?_) | refine jl_if (s := 43) (at_f rfl) (fun c43 => ?_) (fun c43 => ?_)
              · refine jl_y (yl_move (T rfl)) rfl (gd_y rfl rfl (at_f rfl)) (jl_y (yl_fa0 (T rfl) fa56_0) rfl (gd_y rfl rfl (at_f rfl)) (jl_y (yl_load (T rfl) Tryz.isAgg52 (by first | exact c_o)) rfl (gd_y rfl rfl (at_f rfl)) ?_))
                refine jl_y (yl_len (T rfl) Tryz.runUnderlying52) rfl (gd_y rfl rfl (at_f rfl)) (jl_y (yl_lss (T rfl) (T rfl)) rfl (gd_y rfl rfl (at_f rfl)) (y_ (yl_pick_t (T rfl) (T rfl)) (y_ (yl_assign (T rfl)) (jl_nil (q_then (j_keep [(8, _)] ⟨at_f rfl, trivial⟩ (j_ret (q_ret rfl (.tmp (at_f rfl) .nil) ?_))))) rfl) rfl))
                exact ⟨_, ⟨⟨_, rfl, fun h => by first | (cases h; done) | (exfalso; simp at h; omega) | (have hy := of_decide_eq_true h; exact ⟨hne (by omega), by omega, by omega, by omega, ⟨by omega, by omega⟩, ⟨by omega, by omega⟩⟩)⟩, rfl⟩, sbt⟩
              · refine n_ft (n_ft (n_ft (n_ft (n_ft (y_ (yl_pick_f (T rfl) ev_c) (y_ (yl_assign (T rfl)) (jl_nil (q_then (j_keep [(8, _)] ⟨at_f rfl, trivial⟩ (j_ret (q_ret rfl (.tmp (at_f rfl) .nil) ?_))))) rfl) rfl) rfl rfl rfl rfl) rfl rfl rfl rfl) rfl rfl rfl rfl) rfl rfl rfl rfl) rfl rfl rfl rfl
                exact ⟨_, ⟨⟨_, rfl, fun h => by first | (cases h; done) | (exfalso; simp at h; omega) | (have hy := of_decide_eq_true h; exact ⟨hne (by omega), by omega, by omega, by omega, ⟨by omega, by omega⟩, ⟨by omega, by omega⟩⟩)⟩, rfl⟩, sbt⟩
            · refine n_ft (n_ft (y_ (yl_pick_f (T rfl) ev_c) (y_ (yl_move (T rfl)) (n_ft (n_ft (n_ft (n_ft (n_ft (y_ (yl_pick_f (T rfl) ev_c) (y_ (yl_assign (T rfl)) (jl_nil (q_then (j_keep [(8, _)] ⟨at_f rfl, trivial⟩ (j_ret (q_ret rfl (.tmp (at_f rfl) .nil) ?_))))) rfl) rfl) rfl rfl rfl rfl) rfl rfl rfl rfl) rfl rfl rfl rfl) rfl rfl rfl rfl) rfl rfl rfl rfl) rfl) rfl) rfl rfl rfl rfl) rfl rfl rfl rfl
              exact ⟨_, ⟨⟨_, rfl, fun h => by first | (cases h; done) | (exfalso; simp at h; omega) | (have hy := of_decide_eq_true h; exact ⟨hne (by omega), by omega, by omega, by omega, ⟨by omega, by omega⟩, ⟨by omega, by omega⟩⟩)⟩, rfl⟩, sbt⟩
          · refine n_ft (n_ft (n_ft (n_ft (n_ft (y_ (yl_pick_f (T rfl) ev_c) (y_ (yl_move (T rfl)) (n_ft (n_ft (y_ (yl_pick_f (T rfl) ev_c) (y_ (yl_move (T rfl)) (n_ft (n_ft (n_ft (n_ft (n_ft (y_ (yl_pick_f (T rfl) ev_c) (y_ (yl_assign (T rfl)) (jl_nil (q_then (j_keep [(8, _)] ⟨at_f rfl, trivial⟩ (j_ret (q_ret rfl (.tmp (at_f rfl) .nil) ?_))))) rfl) rfl) rfl rfl rfl rfl) rfl rfl rfl rfl) rfl rfl rfl rfl) rfl rfl rfl rfl) rfl rfl rfl rfl) rfl) rfl) rfl rfl rfl rfl) rfl rfl rfl rfl) rfl) rfl) rfl rfl rfl rfl) rfl rfl rfl rfl) rfl rfl rfl rfl) rfl rfl rfl rfl) rfl rfl rfl rfl
            exact ⟨_, ⟨⟨_, rfl, fun h => by first | (cases h; done) | (exfalso; simp at h; omega) | (have hy := of_decide_eq_true h; exact ⟨hne (by omega), by omega, by omega, by omega, ⟨by omega, by omega⟩, ⟨by omega, by omega⟩⟩)⟩, rfl⟩, sbt⟩
        · refine n_ft (n_ft (y_ (yl_pick_f (T rfl) ev_c) (y_ (yl_move (T rfl)) (n_ft (n_ft (n_ft (n_ft (n_ft (y_ (yl_pick_f (T rfl) ev_c) (y_ (yl_move (T rfl)) (n_ft (n_ft (y_ (yl_pick_f (T rfl) ev_c) (y_ (yl_move (T rfl)) (n_ft (n_ft (n_ft (n_ft (n_ft (y_ (yl_pick_f (T rfl) ev_c) (y_ (yl_assign (T rfl)) (jl_nil (q_then (j_keep [(8, _)] ⟨at_f rfl, trivial⟩ (j_ret (q_ret rfl (.tmp (at_f rfl) .nil) ?_))))) rfl) rfl) rfl rfl rfl rfl) rfl rfl rfl rfl) rfl rfl rfl rfl) rfl rfl rfl rfl) rfl rfl rfl rfl) rfl) rfl) rfl rfl rfl rfl) rfl rfl rfl rfl) rfl) rfl) rfl rfl rfl rfl) rfl rfl rfl rfl) rfl rfl rfl rfl) rfl rfl rfl rfl) rfl rfl rfl rfl) rfl) rfl) rfl rfl rfl rfl) rfl rfl rfl rfl
          exact ⟨_, ⟨⟨_, rfl, fun h => by first | (cases h; done) | (exfalso; simp at h; omega) | (have hy := of_decide_eq_true h; exact ⟨hne (by omega), by omega, by omega, by omega, ⟨by omega, by omega⟩, ⟨by omega, by omega⟩⟩)⟩, rfl⟩, sbt⟩
      · refine n_ft (n_ft (n_ft (n_ft (y_ (yl_pick_f (T rfl) ev_c) (y_ (yl_move (T rfl)) (n_ft (n_ft (y_ (yl_pick_f (T rfl) ev_c) (y_ (yl_move (T rfl)) (n_ft (n_ft (n_ft (n_ft (n_ft (y_ (yl_pick_f (T rfl) ev_c) (y_ (yl_move (T rfl)) (n_ft (n_ft (y_ (yl_pick_f (T rfl) ev_c) (y_ (yl_move (T rfl)) (n_ft (n_ft (n_ft (n_ft (n_ft (y_ (yl_pick_f (T rfl) ev_c) (y_ (yl_assign (T rfl)) (jl_nil (q_then (j_keep [(8, _)] ⟨at_f rfl, trivial⟩ (j_ret (q_ret rfl (.tmp (at_f rfl) .nil) ?_))))) rfl) rfl) rfl rfl rfl rfl) rfl rfl rfl rfl) rfl rfl rfl rfl) rfl rfl rfl rfl) rfl rfl rfl rfl) rfl) rfl) rfl rfl rfl rfl) rfl rfl rfl rfl) rfl) rfl) rfl rfl rfl rfl) rfl rfl rfl rfl) rfl rfl rfl rfl) rfl rfl rfl rfl) rfl rfl rfl rfl) rfl) rfl) rfl rfl rfl rfl) rfl rfl rfl rfl) rfl) rfl) rfl rfl rfl rfl) rfl rfl rfl rfl) rfl rfl rfl rfl) rfl rfl rfl rfl
        exact ⟨_, ⟨⟨_, rfl, fun h => by first | (cases h; done) | (exfalso; simp at h; omega) | (have hy := of_decide_eq_true h; exact ⟨hne (by omega), by omega, by omega, by omega, ⟨by omega, by omega⟩, ⟨by omega, by omega⟩⟩)⟩, rfl⟩, sbt⟩
    · refine n_ft (n_ft (n_ft (n_ft (y_ (yl_pick_f (T rfl) ev_c) (y_ (yl_move (T rfl)) (n_ft (n_ft (n_ft (n_ft (y_ (yl_pick_f (T rfl) ev_c) (y_ (yl_move (T rfl)) (n_ft (n_ft (y_ (yl_pick_f (T rfl) ev_c) (y_ (yl_move (T rfl)) (n_ft (n_ft (n_ft (n_ft (n_ft (y_ (yl_pick_f (T rfl) ev_c) (y_ (yl_move (T rfl)) (n_ft (n_ft (y_ (yl_pick_f (T rfl) ev_c) (y_ (yl_move (T rfl)) (n_ft (n_ft (n_ft (n_ft (n_ft (y_ (yl_pick_f (T rfl) ev_c) (y_ (yl_assign (T rfl)) (jl_nil (q_then (j_keep [(8, _)] ⟨at_f rfl, trivial⟩ (j_ret (q_ret rfl (.tmp (at_f rfl) .nil) ?_))))) rfl) rfl) rfl rfl rfl rfl) rfl rfl rfl rfl) rfl rfl rfl rfl) rfl rfl rfl rfl) rfl rfl rfl rfl) rfl) rfl) rfl rfl rfl rfl) rfl rfl rfl rfl) rfl) rfl) rfl rfl rfl rfl) rfl rfl rfl rfl) rfl rfl rfl rfl) rfl rfl rfl rfl) rfl rfl rfl rfl) rfl) rfl) rfl rfl rfl rfl) rfl rfl rfl rfl) rfl) rfl) rfl rfl rfl rfl) rfl rfl rfl rfl) rfl rfl rfl rfl) rfl rfl rfl rfl) rfl) rfl) rfl rfl rfl rfl) rfl rfl rfl rfl) rfl rfl rfl rfl) rfl rfl rfl rfl
      exact ⟨_, ⟨⟨_, rfl, fun h => by first | (cases h; done) | (exfalso; simp at h; omega) | (have hy := of_decide_eq_true h; exact ⟨hne (by omega), by omega, by omega, by omega, ⟨by omega, by omega⟩, ⟨by omega, by omega⟩⟩)⟩, rfl⟩, sbt⟩
  · refine n_ft (n_ft (n_ft (y_ (yl_pick_f (T rfl) ev_c) (y_ (yl_move (T rfl)) (n_ft (n_ft (n_ft (n_ft (y_ (yl_pick_f (T rfl) ev_c) (y_ (yl_move (T rfl)) (n_ft (n_ft (n_ft (n_ft (y_ (yl_pick_f (T rfl) ev_c) (y_ (yl_move (T rfl)) (n_ft (n_ft (y_ (yl_pick_f (T rfl) ev_c) (y_ (yl_move (T rfl)) (n_ft (n_ft (n_ft (n_ft (n_ft (y_ (yl_pick_f (T rfl) ev_c) (y_ (yl_move (T rfl)) (n_ft (n_ft (y_ (yl_pick_f (T rfl) ev_c) (y_ (yl_move (T rfl)) (n_ft (n_ft (n_ft (n_ft (n_ft (y_ (yl_pick_f (T rfl) ev_c) (y_ (yl_assign (T rfl)) (jl_nil (q_then (j_keep [(8, _)] ⟨at_f rfl, trivial⟩ (j_ret (q_ret rfl (.tmp (at_f rfl) .nil) ?_))))) rfl) rfl) rfl rfl rfl rfl) rfl rfl rfl rfl) rfl rfl rfl rfl) rfl rfl rfl rfl) rfl rfl rfl rfl) rfl) rfl) rfl rfl rfl rfl) rfl rfl rfl rfl) rfl) rfl) rfl rfl rfl rfl) rfl rfl rfl rfl) rfl rfl rfl rfl) rfl rfl rfl rfl) rfl rfl rfl rfl) rfl) rfl) rfl rfl rfl rfl) rfl rfl rfl rfl) rfl) rfl) rfl rfl rfl rfl) rfl rfl rfl rfl) rfl rfl rfl rfl) rfl rfl rfl rfl) rfl) rfl) rfl rfl rfl rfl) rfl rfl rfl rfl) rfl rfl rfl rfl) rfl rfl rfl rfl) rfl) rfl) rfl rfl rfl rfl) rfl rfl rfl rfl) rfl rfl rfl rfl
    exact ⟨_, ⟨⟨_, rfl, fun h => by first | (cases h; done) | (exfalso; simp at h; omega) | (have hy := of_decide_eq_true h; exact ⟨hne (by omega), by omega, by omega, by omega, ⟨by omega, by omega⟩, ⟨by omega, by omega⟩⟩)⟩, rfl⟩, sbt⟩
end Go.Proofs.YtkdolgnpkjihpaaGreatDoor
namespace Go.Proofs.YtkdolgnpkjihpaaGreatDoor
open Go.RowKit
set_option linter.unusedVariables false
set_option linter.unusedSimpArgs false
theorem snoc_ind {α : Type} {Q : List α → Prop} (h0 : Q []) (h1 : ∀ l a, Q l → Q (l ++ [a])) (l : List α) : Q l := by
  have h : ∀ r : List α, Q r.reverse := fun r => by
    induction r with
    | nil => exact h0
    | cons a r ih => rw [List.reverse_cons]; exact h1 _ a ih
  have := h l.reverse
  rwa [List.reverse_reverse] at this
def lnOf (l : Lnk) : Ln := ⟨l.src.toNat, l.dst.toNat, l.cap⟩
def nnOf (n : Nm) : Nn := ⟨n.nodes, n.links.map lnOf, n.edges, n.qn, n.cn, n.ql, n.cl, n.qe, n.ce⟩
theorem nn_enc (n : Nm) : encNn (nnOf n) = encNm n := by simp [nnOf]
theorem nn_net {w0 : World} {H : List (Nat × Obj)} {n : Nm} (h : NetM w0 H n) (hok : NetOk n) : NetR w0 H (nnOf n) := by
  refine ⟨h.nodes, fun i x hi => ?_⟩
  have hi' : (n.links.map lnOf)[i]? = some x := hi
  rw [List.getElem?_map] at hi'
  obtain ⟨l, h1, rfl⟩ := Option.map_eq_some_iff.1 hi'
  have hlt := (List.getElem?_eq_some_iff.1 h1).1
  have hg : gd n.links i = l := by rw [gd_getElem hlt]; exact (List.getElem?_eq_some_iff.1 h1).2
  have h2 := hok.links i hlt
  rw [hg] at h2
  have h3 := h2.s0
  have h4 := h2.d0
  have e : encLn (lnOf l) = encL l := by
    simp only [encLn, encL, lnOf]
    rw [show ((l.src.toNat : Nat) : Int) = l.src by omega, show ((l.dst.toNat : Nat) : Int) = l.dst by omega]
  have h5 := h.links i l h1
  rw [← e] at h5
  exact h5
theorem nn_ok {n : Nm} {f : Flr} {x y : Int} (h : RgtOk n f x y) : NnOk (nnOf n) := by
  refine ⟨h.nn, by simpa [nnOf] using h.nl, fun l hl => ?_⟩
  obtain ⟨a, ha, rfl⟩ := List.mem_map.1 hl
  obtain ⟨i, hi, rfl⟩ := List.getElem_of_mem ha
  have h1 := h.net.links i hi
  rw [gd_getElem hi] at h1
  have h2 := h1.s0; have h3 := h1.s1; have h4 := h1.d0; have h5 := h1.d1
  show (n.links[i]).src.toNat < n.nodes.length ∧ (n.links[i]).dst.toNat < n.nodes.length
  omega
structure McE (m : PM) (e : Re) : Prop where
  ok : PMok m
  sr : Srt m.names
  acc : ∀ l, gd m.acc (runM m l) = matchF e l
theorem mem_moves {n : Nn} {f : Flr} {m : PM} {p : Pl} {r : Pl} {l : Nat} : (r, l) ∈ movesF n f m p ↔ (l < n.links.length ∧ (gd n.links l).src = p.1) ∧ upF n f l = true ∧ r = ((gd n.links l).dst, afterF m p.2 (nmF n (gd n.links l).dst)) := by
  unfold movesF outF mvF
  simp only [List.mem_map, List.mem_filter, mem_outK, Prod.mk.injEq]
  constructor
  · rintro ⟨l', ⟨h1, h2⟩, h3, rfl⟩; exact ⟨h1, h2, h3.symm⟩
  · rintro ⟨h1, h2, h3⟩; exact ⟨l, ⟨h1, h2⟩, h3.symm, rfl⟩
theorem outK_pw (n : Nn) (node : Nat) : ∀ i, (outK n node i).Pairwise (· < ·)
  | 0 => .nil
  | i + 1 => by
    rw [outK_succ]; split
    · exact List.pairwise_append.2 ⟨outK_pw n node i, List.pairwise_singleton .., fun a ha b hb => by
        simp at hb; subst hb; exact ((mem_outK n node a b).1 ha).1⟩
    · exact outK_pw n node i
theorem moves_pw (n : Nn) (f : Flr) (m : PM) (p : Pl) : (movesF n f m p).Pairwise fun a b => id a.2 < id b.2 := by
  unfold movesF mvF
  rw [List.pairwise_map]
  exact ((outK_pw n p.1 n.links.length).filter _)
abbrev toInts (l : List Nat) : List Int := l.map fun k : Nat => (k : Int)
theorem wkF_snoc_some {n : Nn} {x : Int} {ls : List Int} {l y : Int} : wkF n x (ls ++ [l]) = some y ↔ ∃ z, wkF n x ls = some z ∧ (0 ≤ l ∧ l < n.links.length ∧ ((gd n.links l.toNat).src : Int) = z) ∧ ((gd n.links l.toNat).dst : Int) = y := by
  rw [wkF_snoc]
  cases h : wkF n x ls with
  | none => simp
  | some z =>
    simp only [Option.bind_some, Option.some.injEq, exists_eq_left']
    split
    · rename_i h2; simp [h2]
    · rename_i h2; simp [h2]
theorem namesF_snoc (n : Nn) (x : Nat) (ls : List Int) (l : Int) : namesF n x (ls ++ [l]) = namesF n x ls ++ [nmF n (gd n.links l.toNat).dst] := by simp [namesF]
theorem runM_snoc (m : PM) (ls : List ByteArray) (s : ByteArray) : runM m (ls ++ [s]) = afterF m (runM m ls) s := by simp [runM]
theorem upAll_snoc (n : Nn) (f : Flr) (ls : List Int) (l : Int) : upAll n f (ls ++ [l]) = (upAll n f ls && upF n f l.toNat) := by simp [upAll]
theorem chn_of {n : Nn} {f : Flr} {m : PM} {x : Nat} : ∀ {ls : List Int} {y : Int}, wkF n x ls = some y → upAll n f ls = true → Chn (movesF n f m) (p0F n m x) (ls.map Int.toNat) (y.toNat, runM m (namesF n x ls)) := by
  intro ls
  induction ls using snoc_ind with
  | h0 =>
    intro y h _
    simp only [wkF, Option.some.injEq] at h
    subst h
    exact .nil
  | h1 ls l ih =>
    intro y h hu
    obtain ⟨z, h1, ⟨h2, h3, h4⟩, h5⟩ := wkF_snoc_some.1 h
    rw [upAll_snoc, Bool.and_eq_true] at hu
    rw [List.map_append, namesF_snoc, runM_snoc]
    refine .snoc (ih h1 hu.1) (mem_moves.2 ⟨⟨by omega, by simp only []; omega⟩, hu.2, ?_⟩)
    rw [← h5, Int.toNat_natCast]
theorem of_chn {n : Nn} {f : Flr} {m : PM} {x : Nat} {ls : List Nat} {q : Pl} (h : Chn (movesF n f m) (p0F n m x) ls q) : wkF n x (toInts ls) = some (q.1 : Int) ∧ upAll n f (toInts ls) = true ∧ q.2 = runM m (namesF n x (toInts ls)) := by
  induction h with
  | nil => exact ⟨rfl, rfl, rfl⟩
  | @snoc ls q r l hc hm ih =>
    obtain ⟨h1, h2, h3⟩ := ih
    obtain ⟨⟨h4, h5⟩, h6, h7⟩ := mem_moves.1 hm
    subst h7
    rw [toInts, List.map_append, List.map_cons, List.map_nil]
    refine ⟨wkF_snoc_some.2 ⟨_, h1, ⟨by omega, by omega, by rw [Int.toNat_natCast]; omega⟩, by rw [Int.toNat_natCast]⟩, ?_, ?_⟩
    · rw [upAll_snoc, Int.toNat_natCast, h6]; simpa using h2
    · rw [namesF_snoc, runM_snoc, Int.toNat_natCast, ← h3]
theorem holds_chn {n : Nn} {f : Flr} {m : PM} {e : Re} (hm : McE m e) {x to : Nat} {ls : List Int} (h : holdsF n f e x to ls = true) : ¬ f.node = x ∧ ∃ q, Chn (movesF n f m) (p0F n m x) (ls.map Int.toNat) q ∧ fndF to m q = true := by
  unfold holdsF at h
  simp only [Bool.and_eq_true, decide_eq_true_eq] at h
  obtain ⟨h1, h2, h3, h4⟩ := h
  refine ⟨h2, _, chn_of h1 h3, ?_⟩
  unfold fndF
  simp only [Int.toNat_natCast, decide_true, Bool.true_and]
  rw [hm.acc, h4]
theorem chn_holds {n : Nn} {f : Flr} {m : PM} {e : Re} (hm : McE m e) {x to : Nat} {ls : List Nat} {q : Pl} (hf : ¬ f.node = x) (h : Chn (movesF n f m) (p0F n m x) ls q) (hq : fndF to m q = true) : holdsF n f e x to (toInts ls) = true := by
  obtain ⟨h1, h2, h3⟩ := of_chn h
  unfold fndF at hq
  simp only [Bool.and_eq_true, decide_eq_true_eq] at hq
  unfold holdsF
  rw [h1, h2, ← hm.acc, ← h3, hq.2, hq.1]
  simp [hf]
theorem moves_okE {n : Nn} (hok : NnOk n) {f : Flr} {m : PM} (hp : PMok m) : ∀ p, PlOk n m p → ∀ x ∈ movesF n f m p, PlOk n m x.1 := fun p h => moves_ok hok hp p h
theorem find_yes {n : Nn} (hok : NnOk n) {f : Flr} {m : PM} {e : Re} (hm : McE m e) {x to : Nat} (hx : x < n.nodes.length) (h : (findF n f m x to).2 = 0) :
    holdsF n f e x to (toInts (findF n f m x to).1) = true ∧ ∀ ls, holdsF n f e x to ls = true → leL (findF n f m x to).1 (ls.map Int.toNat) := by
  unfold findF at *
  split at h
  · cases h
  · rename_i hf
    rw [if_neg hf]
    split at h
    · rename_i hs
      rw [if_pos hs]
      obtain ⟨⟨q, h1, h2⟩, h3⟩ := srF_yes (rk := id) (moves_okE hok hm.ok) (fun p _ => moves_pw n f m p) (N := NPl n m) (pl_few n m) (fndF to m) (p0_ok hm.ok hx) hs
      refine ⟨chn_holds hm hf h1 h2, fun ls hl => ?_⟩
      obtain ⟨_, q', h4, h5⟩ := holds_chn hm hl
      simpa using h3 _ q' h4 h5
    · cases h
theorem find_no {n : Nn} (hok : NnOk n) {f : Flr} {m : PM} {e : Re} (hm : McE m e) {x to : Nat} (hx : x < n.nodes.length) (h : ¬ (findF n f m x to).2 = 0) :
    (findF n f m x to) = ([], 18) ∧ (∀ ls, holdsF n f e x to ls = false) ∧ ∀ ls q, ¬ f.node = x → Chn (movesF n f m) (p0F n m x) ls q → fndF to m q = false := by
  unfold findF at *
  split at h
  · rename_i hf
    rw [if_pos hf]
    refine ⟨rfl, fun ls => ?_, fun ls q hn => absurd hf hn⟩
    cases hh : holdsF n f e x to ls with
    | false => rfl
    | true => exact absurd hf (holds_chn hm hh).1
  · rename_i hf
    rw [if_neg hf]
    split at h
    · exact absurd rfl h
    · rename_i hs
      rw [if_neg hs]
      obtain ⟨h1, h2, h3⟩ := srF_no (rk := id) (moves_okE hok hm.ok) (fun p _ => moves_pw n f m p) (N := NPl n m) (pl_few n m) (fndF to m) (p0_ok hm.ok hx) (by simpa using hs)
      refine ⟨rfl, fun ls => ?_, fun ls q _ hc => h3 ls q hc⟩
      cases hh : holdsF n f e x to ls with
      | false => rfl
      | true =>
        obtain ⟨_, q, h4, h5⟩ := holds_chn hm hh
        rw [h3 _ q h4] at h5; cases h5
theorem srF_all {σ : Type} [Inhabited σ] (ts : Pl → List (Pl × σ)) (N : Nat) (p0 : Pl) : (srF ts (fun _ => false) N p0).2.1 = false := by
  have key : ∀ (f k : Nat) (st : BS σ), (goF ts (fun _ => false) f k st).1 = none := fun f => by
    induction f with
    | zero => intro k st; rfl
    | succ f ih =>
      intro k st
      rw [goF_succ]
      split
      · simp only [Bool.false_eq_true, if_false]; exact ih _ _
      · rfl
  have h := key (N + 1) 0 ⟨[p0], [(-1, default)]⟩
  unfold srF
  generalize goF ts (fun _ => false) (N + 1) 0 ⟨[p0], [(-1, default)]⟩ = r at *
  obtain ⟨k, st⟩ := r
  simp only [] at h
  subst h
  rfl
theorem met_iff {n : Nn} (hok : NnOk n) {f : Flr} {m : PM} (hp : PMok m) {x : Nat} (hx : x < n.nodes.length) (q : Pl) : q ∈ metF n f m x ↔ ∃ ls, Chn (movesF n f m) (p0F n m x) ls q :=
  (srF_no (rk := id) (moves_okE hok hp) (fun p _ => moves_pw n f m p) (pl_few n m) (fun _ => false) (p0_ok hp hx) (srF_all _ _ _)).2.1 q
theorem met_nd {n : Nn} (hok : NnOk n) {f : Flr} {m : PM} (hp : PMok m) {x : Nat} (hx : x < n.nodes.length) : (metF n f m x).Nodup ∧ ∀ p ∈ metF n f m x, PlOk n m p :=
  srF_met (moves_okE hok hp) (p0_ok hp hx) _
structure Rch (n : Nn) (f : Flr) (m : PM) (x : Nat) (ks : List Pl) : Prop where
  mem : ∀ q, q ∈ ks ↔ ¬ f.node = x ∧ ∃ ls, Chn (movesF n f m) (p0F n m x) ls q
  srt : ks.Pairwise plLt
  ok : ∀ q ∈ ks, PlOk n m q
theorem rch_of {n : Nn} (hok : NnOk n) {f : Flr} {m : PM} (hp : PMok m) {x : Nat} (hx : x < n.nodes.length) {ks : List Pl} (h : Reach n f m x ks) : Rch n f m x ks := by
  obtain ⟨hperm, hs⟩ := h
  have hnd : ks.Nodup := by
    refine hperm.nodup_iff.2 ?_
    split
    · exact List.nodup_nil
    · exact (met_nd hok hp hx).1
  have hm : ∀ q, q ∈ ks ↔ ¬ f.node = x ∧ ∃ ls, Chn (movesF n f m) (p0F n m x) ls q := fun q => by
    rw [hperm.mem_iff]
    split
    · rename_i hf; simp [hf]
    · rename_i hf; rw [met_iff hok hp hx]; simp [hf]
  refine ⟨hm, (hnd.and hs).imp fun {a b} hab => ?_, fun q hq => ?_⟩
  · obtain ⟨h1, h2⟩ := hab
    unfold plLt at *
    have h3 : ¬ (a.1 = b.1 ∧ a.2 = b.2) := fun e => h1 (Prod.ext e.1 e.2)
    omega
  · rw [hperm.mem_iff] at hq
    split at hq
    · cases hq
    · exact (met_nd hok hp hx).2 q hq
theorem toI_inj {a b : Pl} : toI a = toI b ↔ a = b := by
  constructor
  · intro h; simp only [toI, Prod.mk.injEq] at h; exact Prod.ext (by omega) (by omega)
  · rintro rfl; rfl
theorem toI_mem {ks : List Pl} {p : Pl} : toI p ∈ ks.map toI ↔ p ∈ ks := by
  rw [List.mem_map]
  exact ⟨fun ⟨q, h1, h2⟩ => toI_inj.1 h2 ▸ h1, fun h => ⟨p, h, rfl⟩⟩
theorem gd_toI {ks : List Pl} {k : Nat} (h : k < ks.length) : gd (ks.map toI) k = toI (gd ks k) := gd_map h
theorem toN_toI (p : Pl) : toN (toI p) = p := by simp [toN, toI]
theorem ref_rch {n : Nn} (hok : NnOk n) {f : Flr} {m : PM} (hp : PMok m) {x to : Nat} (hx : x < n.nodes.length) {ks : List Pl} (h : Rch n f m x ks) : RefOk n f m x to (ks.map toI) ↔ ∀ q ∈ ks, fndF to m q = false := by
  have hl : (ks.map toI).length = ks.length := by simp
  constructor
  · intro hr q hq
    obtain ⟨k, hk, rfl⟩ := memPl hq
    have := (hr.1 k (by omega)).2.2.2
    rw [gd_toI hk] at this
    unfold fndF
    rw [Bool.and_eq_false_iff, decide_eq_false_iff_not]
    simp only [toI, Int.toNat_natCast] at this
    by_cases e : (gd ks k).1 = to
    · right; simpa [e] using this
    · exact .inl e
  · intro hq
    refine ⟨fun k hk => ?_, fun hf => toI_mem.2 ((h.mem _).2 ⟨hf, [], .nil⟩), fun k hk y hy => ?_⟩
    · rw [hl] at hk
      have h1 := h.ok _ (gd_mem hk)
      have h2 := hq _ (gd_mem hk)
      unfold PlIn
      rw [gd_toI hk]
      simp only [toI, Int.toNat_natCast]
      refine ⟨⟨by omega, by have := h1.1; omega⟩, ⟨by omega, by have := h1.2; omega⟩, fun h0 => ?_, fun hc => ?_⟩
      · rw [gd_toI (by omega)]
        have h3 := List.pairwise_iff_getElem.1 h.srt (k - 1) k (by omega) hk (by omega)
        rw [← gd_getElem (show k - 1 < ks.length by omega), ← gd_getElem hk] at h3
        rw [cmpPl_lt]
        unfold plLt at h3
        simp only [toI]; omega
      · unfold fndF at h2
        rw [Bool.and_eq_false_iff, decide_eq_false_iff_not] at h2
        rcases h2 with h2 | h2
        · exact h2 (by omega)
        · rw [hc.2] at h2; cases h2
    · rw [hl] at hk
      rw [gd_toI hk, toN_toI] at hy
      obtain ⟨h1, ls, h2⟩ := (h.mem _).1 (gd_mem hk)
      obtain ⟨r, l⟩ := y
      exact toI_mem.2 ((h.mem _).2 ⟨h1, _, .snoc h2 hy⟩)
end Go.Proofs.YtkdolgnpkjihpaaGreatDoor
namespace Go.Proofs.YtkdolgnpkjihpaaGreatDoor
open Go.RowKit
set_option linter.unusedVariables false
set_option linter.unusedSimpArgs false
section
variable {w0 : World} {H : List (Nat × Obj)} {n : Nm} {f : Flr} {m : Mc} {x to : Nat}
structure NF (w0 : World) (H : List (Nat × Obj)) (n : Nm) (f : Flr) (x to : Nat) : Prop where
  nm : NetM w0 H n
  fl : Arr w0 H f.q 1 encI f.links
  rg : RgtOk n f x to
theorem NF.mono {H' : List (Nat × Obj)} (h : NF w0 H n f x to) (hs : H.Sublist H' := by exact sbt) : NF w0 H' n f x to := ⟨h.nm.mono hs, h.fl.mono hs, h.rg⟩
theorem NF.env (h : NF w0 H n f x to) (hm : McOk w0 H m) : Env w0 H (nnOf n) f m := ⟨nn_net h.nm h.rg.net, h.fl, hm⟩
theorem NF.eok (h : NF w0 H n f x to) (hp : PMok m.pl) (hs : Srt m.names) (hl : m.names.length ≤ 100) : EnvOk (nnOf n) f m := ⟨nn_ok h.rg, by have := h.rg.fl; omega, hp, hs, by omega⟩
theorem NF.hx (h : NF w0 H n f x to) : x < (nnOf n).nodes.length := by have := h.rg.x; show x < n.nodes.length; omega
theorem findN_s (h : NF w0 H n f x to) (hm : McOk w0 H m) (hp : PMok m.pl) (hs : Srt m.names) (hl : m.names.length ≤ 100) :
    FSpec Tryz.prog w0 29 #[.agg (encNm n).toArray, .agg (encFl f).toArray, .agg (encMc m).toArray, .int .i64 (x : Int), .int .i64 (to : Int)] H (fun v H' => ∃ d : Sl, (v = .tuple #[slV d (findF (nnOf n) f m.pl x to).1.length, .int .i64 (findF (nnOf n) f m.pl x to).2] ∧ SlOk d (findF (nnOf n) f m.pl x to).1.length 1) ∧ H' = slH d ((findF (nnOf n) f m.pl x to).1.flatMap encU) 3 ++ H) := by
  rw [← nn_enc n]; exact find_s (nnOf n) f m (h.env hm) (h.eok hp hs hl) x h.hx to
theorem reachN_s (h : NF w0 H n f x to) (hm : McOk w0 H m) (hp : PMok m.pl) (hs : Srt m.names) (hl : m.names.length ≤ 100) :
    FSpec Tryz.prog w0 35 #[.agg (encNm n).toArray, .agg (encFl f).toArray, .agg (encMc m).toArray, .int .i64 (x : Int)] H (fun v H' => ∃ (d : Sl) (l : List Pl), (v = slV d l.length ∧ SlOk d l.length 2 ∧ Rch (nnOf n) f m.pl x l) ∧ H' = slH d (l.flatMap encPl) 74 ++ H) := by
  rw [← nn_enc n]
  exact (reachedE_s (nnOf n) f m (h.env hm) (h.eok hp hs hl) x h.hx).mono fun v H' ⟨d, l, ⟨h1, h2, h3⟩, h4⟩ => ⟨d, l, ⟨h1, h2, rch_of (nn_ok h.rg) hp h.hx h3⟩, h4⟩
theorem refN_s (h : NF w0 H n f x to) (hm : McOk w0 H m) (hp : PMok m.pl) (hs : Srt m.names) (hl : m.names.length ≤ 100) (l : List (Int × Int)) (q : Option Addr) (c : Nat) (hA : Arr w0 H q 2 encPI l) (hlen : l.length ≤ 1000000) :
    FSpec Tryz.prog w0 37 #[.agg (encNm n).toArray, .agg (encFl f).toArray, .agg (encMc m).toArray, .int .i64 (x : Int), .int .i64 (to : Int), .slice q l.length c] H (Still (.bool (decide (RefOk (nnOf n) f m.pl x to l))) H) := by
  rw [← nn_enc n]; exact refutes_s (nnOf n) f m (h.env hm) (h.eok hp hs hl) x h.hx to l q c hA hlen
theorem refR_s (h : NF w0 H n f x to) (hm : McOk w0 H m) (hp : PMok m.pl) (hs : Srt m.names) (hl : m.names.length ≤ 100) (l : List Pl) (q : Option Addr) (c : Nat) (hA : Arr w0 H q 2 encPl l) (hlen : l.length ≤ 1000000) :
    FSpec Tryz.prog w0 37 #[.agg (encNm n).toArray, .agg (encFl f).toArray, .agg (encMc m).toArray, .int .i64 (x : Int), .int .i64 (to : Int), .slice q l.length c] H (Still (.bool (decide (RefOk (nnOf n) f m.pl x to (l.map toI)))) H) := by
  have := refN_s h hm hp hs hl (l.map toI) q c (arrPP hA) (by simpa using hlen)
  rw [List.length_map] at this; exact this
theorem holdN_s (h : NF w0 H n f x to) (r : Rxm) (e : Re) (hI : Is r e) (hM : RxM w0 H r) (hl : e.lv ≤ 64) (ls : List Int) (q : Option Addr) (c : Nat) (hA : Arr w0 H q 1 encI ls) (hlen : ls.length ≤ 1000000) :
    FSpec Tryz.prog w0 32 #[.agg (encNm n).toArray, .agg (encFl f).toArray, .agg (encRx r).toArray, .int .i64 (x : Int), .int .i64 (to : Int), .slice q ls.length c] H (Still (.bool (holdsF (nnOf n) f e x to ls)) H) := by
  rw [← nn_enc n]; exact holds_s (nnOf n) (nn_net h.nm h.rg.net) (nn_ok h.rg) f h.fl (by have := h.rg.fl; omega) r e hI hM hl x to h.hx ls q c hA hlen
theorem holdU_s (h : NF w0 H n f x to) (r : Rxm) (e : Re) (hI : Is r e) (hM : RxM w0 H r) (hl : e.lv ≤ 64) (ls : List Nat) (q : Option Addr) (c : Nat) (hA : Arr w0 H q 1 encU ls) (hlen : ls.length ≤ 1000000) :
    FSpec Tryz.prog w0 32 #[.agg (encNm n).toArray, .agg (encFl f).toArray, .agg (encRx r).toArray, .int .i64 (x : Int), .int .i64 (to : Int), .slice q ls.length c] H (Still (.bool (holdsF (nnOf n) f e x to (toInts ls))) H) := by
  have := holdN_s h r e hI hM hl (toInts ls) q c (arrUI hA) (by simpa using hlen)
  rw [List.length_map] at this; exact this
end
theorem find_len {n : Nn} (hok : NnOk n) {f : Flr} {m : PM} {e : Re} (hm : McE m e) {x to : Nat} (hx : x < n.nodes.length) (h : (findF n f m x to).2 = 0) {ls : List Int} (hh : holdsF n f e x to ls = true) : (findF n f m x to).1.length ≤ ls.length := by
  have := leL_len ((find_yes hok hm hx h).2 ls hh)
  simpa using this
theorem lx_first : ∀ {a b : List Nat} {i : Nat}, lx a b → a.length = b.length → (∀ j, j < i → gd a j = gd b j) → i < a.length → ¬ gd a i = gd b i → gd a i < gd b i
  | [], _, _, h, _, _, _, _ => by cases h
  | _ :: _, [], _, h, _, _, _, _ => by cases h
  | x :: a, y :: b, 0, h, _, _, _, hn => by
    have hn' : ¬ x = y := hn
    rcases h with h | ⟨h, _⟩
    · exact h
    · exact absurd h hn'
  | x :: a, y :: b, i + 1, h, hl, hj, hi, hn => by
    have h0 : x = y := hj 0 (by omega)
    rcases h with h | ⟨_, h⟩
    · omega
    · exact lx_first (i := i) h (by simpa using hl) (fun j hj2 => hj (j + 1) (by omega)) (by simpa using hi) hn
theorem holds_nn {n : Nn} {f : Flr} {e : Re} {x to : Nat} {ls : List Int} (h : holdsF n f e x to ls = true) : ∀ i, i < ls.length → 0 ≤ gd ls i := by
  unfold holdsF at h
  simp only [Bool.and_eq_true, decide_eq_true_eq] at h
  exact fun i hi => (wkF_valid h.1 i hi).1
theorem find_first {n : Nn} (hok : NnOk n) {f : Flr} {m : PM} {e : Re} (hm : McE m e) {x to : Nat} (hx : x < n.nodes.length) (h : (findF n f m x to).2 = 0) {ls : List Int} (hh : holdsF n f e x to ls = true) (hl : (findF n f m x to).1.length = ls.length) {i : Nat} (hi : i < ls.length)
    (hj : ∀ j, j < i → ((gd (findF n f m x to).1 j : Nat) : Int) = gd ls j) (hn : ¬ ((gd (findF n f m x to).1 i : Nat) : Int) = gd ls i) : ((gd (findF n f m x to).1 i : Nat) : Int) < gd ls i := by
  have h1 := (find_yes hok hm hx h).2 ls hh
  have hnn := holds_nn hh
  have hg : ∀ j, j < ls.length → gd (ls.map Int.toNat) j = (gd ls j).toNat := fun j hj => gd_map hj
  rcases h1 with (h1 | ⟨_, h1⟩) | h1
  · simp at h1; omega
  · have h2 := lx_first (i := i) h1 (by simpa using hl) (fun j hj2 => by
      have e1 := hj j hj2
      have e2 := hg j (by omega)
      have e3 := hnn j (by omega)
      rw [e2]; omega) (by omega) (by
      have e2 := hg i hi
      have e3 := hnn i hi
      rw [e2]; omega)
    rw [hg i hi] at h2
    omega
  · have e2 := hg i hi
    have e3 := hnn i hi
    rw [← h1] at e2
    omega
theorem Rch.nd {n : Nn} {f : Flr} {m : PM} {x : Nat} {ks : List Pl} (h : Rch n f m x ks) : ks.Nodup := h.srt.imp fun {a b} hab e => by
  subst e; unfold plLt at hab; omega
theorem rch_few {n : Nn} {f : Flr} {m : PM} {x : Nat} {ks : List Pl} (h : Rch n f m x ks) (hok : NnOk n) (hp : PMok m) : ks.length ≤ 2400 := Nat.le_trans (pl_few n m ks h.nd h.ok) (NPl_le hok hp)
theorem backF_len {σ : Type} [Inhabited σ] (w : List (Int × σ)) : ∀ (f i : Nat), (backF w f i).length ≤ f
  | 0, _ => Nat.le_refl _
  | f + 1, i => by
    rw [backF_succ]; split
    · simp only [List.length_cons]; have := backF_len w f (gd w i).1.toNat; omega
    · exact Nat.zero_le _
theorem srF_len {σ : Type} [Inhabited σ] {Pd : Pl → Prop} {ts : Pl → List (Pl × σ)} (hts : ∀ p, Pd p → ∀ x ∈ ts p, Pd x.1) {fnd : Pl → Bool} {p0 : Pl} (hp0 : Pd p0) {N : Nat} (hN : ∀ l : List Pl, l.Nodup → (∀ p ∈ l, Pd p) → l.length ≤ N) {rk : σ → Nat} (hr : ∀ p, Pd p → (ts p).Pairwise fun a b => rk a.2 < rk b.2) : (srF ts fnd N p0).1.length ≤ N := by
  obtain ⟨h1, h2⟩ := srF_met hts hp0 N (fnd := fnd)
  have h3 := hN _ h1 h2
  have hg := goF_sem0 (rk := rk) hts hr hN fnd hp0
  unfold srF at *
  generalize goF ts fnd (N + 1) 0 ⟨[p0], [(-1, default)]⟩ = r at *
  obtain ⟨k, st⟩ := r
  cases k with
  | none => exact Nat.zero_le _
  | some k =>
    have h4 := (hg.some' k rfl).2.1
    simp only [List.length_take, List.length_reverse] at h3 h4 ⊢
    have := backF_len st.w (k + 1) k
    omega
theorem find_few {n : Nn} (hok : NnOk n) {f : Flr} {m : PM} (hp : PMok m) {x to : Nat} (hx : x < n.nodes.length) : (findF n f m x to).1.length ≤ 2400 := by
  unfold findF
  split
  · exact Nat.zero_le _
  · split
    · exact Nat.le_trans (srF_len (moves_okE hok hp) (p0_ok hp hx) (pl_few n m) (rk := id) (fun p _ => moves_pw n f m p)) (NPl_le hok hp)
    · exact Nat.zero_le _
theorem found_ref {n : Nn} (hok : NnOk n) {f : Flr} {m : PM} {e : Re} (hm : McE m e) {x to : Nat} (hx : x < n.nodes.length) {ks : List Pl} (h : Rch n f m x ks) {ls : List Int} (hh : holdsF n f e x to ls = true) : ¬ RefOk n f m x to (ks.map toI) := fun hr => by
  obtain ⟨hf, q, hc, hq⟩ := holds_chn hm hh
  have := (ref_rch hok hm.ok hx h).1 hr q ((h.mem q).2 ⟨hf, _, hc⟩)
  rw [this] at hq; cases hq
theorem nofound_ref {n : Nn} (hok : NnOk n) {f : Flr} {m : PM} {e : Re} (hm : McE m e) {x to : Nat} (hx : x < n.nodes.length) {ks : List Pl} (h : Rch n f m x ks) (hno : ∀ ls q, ¬ f.node = x → Chn (movesF n f m) (p0F n m x) ls q → fndF to m q = false) : RefOk n f m x to (ks.map toI) :=
  (ref_rch hok hm.ok hx h).2 fun q hq => by
    obtain ⟨h1, ls, h2⟩ := (h.mem q).1 hq
    exact hno ls q h1 h2
theorem short_s {w0 : World} {H : List (Nat × Obj)} (n : Nm) (hn : NetM w0 H n) (f : Flr) (hf : Arr w0 H f.q 1 encI f.links) (hfl : f.links.length ≤ 9223372036854775807) (r : Rxm) (hM : RxM w0 H r) (hz : r.sz ≤ 1048576) (x y : Int) (ls : List Int) (q : Option Addr) (cp : Nat) (hL : Arr w0 H q 1 encI ls) (hll : ls.length ≤ 9223372036854775807) :
    FSpec Tryz.prog w0 8 #[.agg (encNm n).toArray, .agg (encFl f).toArray, .agg (encRx r).toArray, .int .i64 x, .int .i64 y, .slice q ls.length cp] H (Still (.bool true) H) := by
  refine fn_spec Tryz.func8 rfl Tryz.ntmps8 rfl (j_seq (j_region (e_ (eff_box (T rfl) cs_) ?_ rfl)))
  rintro _ _ ⟨n6, rfl, rfl⟩
  refine e_ (eff_box (T rfl) cs_) ?_ rfl
  rintro _ _ ⟨n7, rfl, rfl⟩
  refine e_ (eff_box (T rfl) cs_) ?_ rfl
  rintro _ _ ⟨n8, rfl, rfl⟩
  refine y_ (yl_assign ev_c) (jl_nil (q_then (j_seq (j_seq (j_region (y_ (yl_loadA (T rfl) Tryz.isAgg56 Tryz.sizeOf56 rfl (by first | exact cs_o)) ?_ rfl)))))) rfl
  refine y_ (yl_loadA (T rfl) Tryz.isAgg58 Tryz.sizeOf58 rfl (by first | exact cs_o)) ?_ rfl
  refine y_ (yl_move (T rfl)) (y_ (yl_move (T rfl)) (e_ (eff_call (.cons (T rfl) (.cons (T rfl) (.cons (T rfl) (.cons (T rfl) .nil)))) Tryz.call28 (right_s n (hn.mono sbt) f (hf.mono sbt) hfl x y)) ?_ rfl) rfl) rfl
  rintro _ _ ⟨⟨tr, rfl, hrt⟩, rfl⟩
  first | refine jl_y (yl_not_d (T rfl)) rfl gd_n ?_ | refine jl_y (yl_not (T rfl)) rfl gd_n ?_
  refine y_ (yl_move (T rfl)) ?_ rfl
  first | refine jl_if_d (s := 26) (at_f rfl) (fun c26 => ?_) (fun c26 => ?_) | refine jl_if (s := 26) (at_f rfl) (fun c26 => ?_) (fun c26 => ?_)
  · refine n_tf (n_tf (n_tf (y_ (yl_pick_t (T rfl) ev_c) (y_ (yl_move (T rfl)) (n_tf (n_tf (n_tf (y_ (yl_pick_t (T rfl) ev_c) (jl_nil (q_then ?_)) rfl) rfl rfl rfl rfl) rfl rfl rfl rfl) rfl rfl rfl rfl) rfl) rfl) rfl rfl rfl rfl) rfl rfl rfl rfl) rfl rfl rfl rfl
    first | refine j_cond_t (at_f rfl) ?_ | refine j_cond_t (at_e (at_f rfl) (vbool (decide_eq_true c35))) ?_
    refine j_seq (j_region (y_ (yl_call .nil Tryz.call11 (fun H' hs => sanity_s)) (y_ (yl_assign (T rfl)) (jl_nil (q_then (j_ret (q_then_ret (q_ret rfl (.tmp (at_f rfl) .nil) ?_))))) rfl) rfl))
    first | exact ⟨_, ⟨rfl, rfl⟩, sbt⟩ | exact ⟨_, ⟨vbool (decide_eq_true hfs), rfl⟩, sbt⟩ | exact ⟨_, ⟨vbool (by rw [hnh]; rfl), rfl⟩, sbt⟩ | (exfalso; first | omega | exact hnref c92 | exact c87 href)
  · refine jl_y (yl_loadA (T rfl) Tryz.isAgg24 Tryz.sizeOf24 rfl (by first | exact cs_o)) rfl (gd_y rfl rfl (at_f rfl)) ?_
    refine jl_e (eff_call (.cons (T rfl) .nil) Tryz.call10 (few_s r (hM.mono sbt) hz)) rfl (gd_y rfl rfl (at_f rfl)) ?_
    rintro _ _ ⟨⟨tf, rfl, hfew⟩, rfl⟩
    first | refine jl_y (yl_not_d (T rfl)) rfl (gd_y rfl rfl (at_f rfl)) ?_ | refine jl_y (yl_not (T rfl)) rfl (gd_y rfl rfl (at_f rfl)) ?_
    refine y_ (yl_pick_f (T rfl) (T rfl)) (y_ (yl_move (T rfl)) ?_ rfl) rfl
    first | refine jl_if_d (s := 31) (at_f rfl) (fun c31 => ?_) (fun c31 => ?_) | refine jl_if (s := 31) (at_f rfl) (fun c31 => ?_) (fun c31 => ?_)
    · refine n_tf (n_tf (n_tf (y_ (yl_pick_t (T rfl) ev_c) (jl_nil (q_then ?_)) rfl) rfl rfl rfl rfl) rfl rfl rfl rfl) rfl rfl rfl rfl
      first | refine j_cond_t (at_f rfl) ?_ | refine j_cond_t (at_e (at_f rfl) (vbool (decide_eq_true c35))) ?_
      refine j_seq (j_region (y_ (yl_call .nil Tryz.call11 (fun H' hs => sanity_s)) (y_ (yl_assign (T rfl)) (jl_nil (q_then (j_ret (q_then_ret (q_ret rfl (.tmp (at_f rfl) .nil) ?_))))) rfl) rfl))
      first | exact ⟨_, ⟨rfl, rfl⟩, sbt⟩ | exact ⟨_, ⟨vbool (decide_eq_true hfs), rfl⟩, sbt⟩ | exact ⟨_, ⟨vbool (by rw [hnh]; rfl), rfl⟩, sbt⟩ | (exfalso; first | omega | exact hnref c92 | exact c87 href)
    · refine jl_y (yl_move (T rfl)) rfl (gd_y rfl rfl (at_f rfl)) (jl_y (yl_len (T rfl) Tryz.runUnderlying42) rfl (gd_y rfl rfl (at_f rfl)) (jl_y (yl_gtr (T rfl) ev_c) rfl (gd_y rfl rfl (at_f rfl)) (y_ (yl_pick_f (T rfl) (T rfl)) (jl_nil (q_then ?_)) rfl)))
      first | refine j_cond_d (at_f rfl) (fun c35 => ?_) (fun c35 => ?_) | refine j_cond (at_f rfl) (fun c35 => ?_) (fun c35 => ?_)
      · refine j_seq (j_region (y_ (yl_call .nil Tryz.call11 (fun H' hs => sanity_s)) (y_ (yl_assign (T rfl)) (jl_nil (q_then (j_ret (q_then_ret (q_ret rfl (.tmp (at_f rfl) .nil) ?_))))) rfl) rfl))
        first | exact ⟨_, ⟨rfl, rfl⟩, sbt⟩ | exact ⟨_, ⟨vbool (decide_eq_true hfs), rfl⟩, sbt⟩ | exact ⟨_, ⟨vbool (by rw [hnh]; rfl), rfl⟩, sbt⟩ | (exfalso; first | omega | exact hnref c92 | exact c87 href)
      · have hR := hrt (by simpa using c26)
        obtain ⟨e, hI, hz40⟩ := hfew (by simpa using c31)
        have hlv := hI.lvz
        have hl64 : e.lv ≤ 64 := by omega
        obtain ⟨x, rfl⟩ : ∃ k : Nat, x = (k : Int) := ⟨x.toNat, by have := hR.x; omega⟩
        obtain ⟨y, rfl⟩ : ∃ k : Nat, y = (k : Int) := ⟨y.toNat, by have := hR.y; omega⟩
        have hNF : NF w0 H n f x y := ⟨hn, hf, hR⟩
        have hok := nn_ok hR
        refine j_skip (q_then (j_seq (j_region (y_ (yl_loadA (T rfl) Tryz.isAgg24 Tryz.sizeOf24 rfl (by first | exact cs_o)) ?_ rfl))))
        refine e_ (eff_call (.cons (T rfl) .nil) Tryz.call12 (buildM_s r e hI (hM.mono sbt) hl64 (show buildF leastF e = ((buildF leastF e).1, (buildF leastF e).2) from rfl))) ?_ rfl
        rintro _ _ ⟨mc, BM, ⟨rfl, hpl, hmc⟩, rfl⟩
        refine y_ (yl_move (T rfl)) (y_ (yl_extract (T rfl) rfl) (y_ (yl_extract (T rfl) rfl) (e_ (eff_alloc Tryz.zeroValue29 cs_) ?_ rfl) rfl) rfl) rfl
        rintro _ _ ⟨n13, rfl, rfl⟩
        first | refine jl_e (eff_sW (T rfl) (T rfl) Tryz.sizeOf29) rfl gd_n ?_
        rintro _ _ ⟨rfl, rfl⟩
        refine y_ (yl_assign (T rfl)) (jl_nil (q_then (j_keep [(3, _), (4, _), (5, _), (6, _), (7, _), (8, _), (13, _), (14, _)] ⟨at_f rfl, at_f rfl, at_f rfl, at_f rfl, at_f rfl, at_f rfl, at_f rfl, at_f rfl, trivial⟩ (j_seq (j_seq (j_region (y_ (yl_move (T rfl)) (y_ (yl_neq (T rfl) ev_c) (jl_nil (q_then ?_)) rfl) rfl))))))) rfl
        first | refine j_cond_d (at_f rfl) (fun c43 => ?_) (fun c43 => ?_) | refine j_cond (at_f rfl) (fun c43 => ?_) (fun c43 => ?_)
        · refine j_seq (j_region (y_ (yl_call .nil Tryz.call11 (fun H' hs => sanity_s)) (y_ (yl_assign (T rfl)) (jl_nil (q_then (j_ret (q_then_ret (q_ret rfl (.tmp (at_f rfl) .nil) ?_))))) rfl) rfl))
          first | exact ⟨_, ⟨rfl, rfl⟩, sbt⟩ | exact ⟨_, ⟨vbool (decide_eq_true hfs), rfl⟩, sbt⟩ | exact ⟨_, ⟨vbool (by rw [hnh]; rfl), rfl⟩, sbt⟩ | (exfalso; first | omega | exact hnref c92 | exact c87 href)
        · have hb0 : (buildF leastF e).2 = 0 := by omega
          obtain ⟨hpo, hsr⟩ := build_ok hl64 hb0
          have hmE : McE mc.pl e := ⟨by rw [hpl]; exact hpo, by rw [hpl]; exact hsr, fun l => by rw [hpl]; exact build_acc hl64 hb0 l⟩
          have hnm : mc.names = letF e := by have := build_names hb0; rw [← hpl] at this; exact this
          have hnl : mc.names.length ≤ 100 := by rw [hnm]; have := letF_few hl64; omega
          rw [← hpl] at hpo hsr
          have hx := hNF.hx
          refine j_skip (q_then (j_seq (j_region (y_ (yl_loadA (T rfl) Tryz.isAgg56 Tryz.sizeOf56 rfl (by first | exact cs_o)) ?_ rfl))))
          refine y_ (yl_loadA (T rfl) Tryz.isAgg58 Tryz.sizeOf58 rfl (by first | exact cs_o)) ?_ rfl
          refine y_ (yl_loadA (T rfl) Tryz.isAgg29 Tryz.sizeOf29 rfl (by first | exact cs_o)) ?_ rfl
          refine y_ (yl_move (T rfl)) (y_ (yl_move (T rfl)) (e_ (eff_call (.cons (T rfl) (.cons (T rfl) (.cons (T rfl) (.cons (T rfl) (.cons (T rfl) .nil))))) Tryz.call29 (findN_s (hNF.mono sbt) (hmc.mono sbt) hpo hsr hnl)) ?_ rfl) rfl) rfl
          rintro _ _ ⟨d, ⟨rfl, hokd⟩, rfl⟩
          refine y_ (yl_move (T rfl)) (y_ (yl_extract (T rfl) rfl) (y_ (yl_extract (T rfl) rfl) (y_ (yl_assign (T rfl)) (y_ (yl_assign (T rfl)) (jl_nil (q_then (j_seq (j_region (y_ (yl_loadA (T rfl) Tryz.isAgg56 Tryz.sizeOf56 rfl (by first | exact cs_o)) ?_ rfl))))) rfl) rfl) rfl) rfl) rfl
          refine y_ (yl_loadA (T rfl) Tryz.isAgg58 Tryz.sizeOf58 rfl (by first | exact cs_o)) ?_ rfl
          refine y_ (yl_loadA (T rfl) Tryz.isAgg24 Tryz.sizeOf24 rfl (by first | exact cs_o)) ?_ rfl
          refine y_ (yl_move (T rfl)) (y_ (yl_move (T rfl)) (y_ (yl_move (T rfl)) (y_ (yl_call (.cons (T rfl) (.cons (T rfl) (.cons (T rfl) (.cons (T rfl) (.cons (T rfl) (.cons (T rfl) .nil)))))) Tryz.call32 (fun H' hs => holdN_s (hNF.mono (List.Sublist.trans sbt hs)) r e hI (hM.mono (List.Sublist.trans sbt hs)) hl64 ls q cp (hL.mono (List.Sublist.trans sbt hs)) (by omega))) ?_ rfl) rfl) rfl) rfl
          refine y_ (yl_assign (T rfl)) (jl_nil (q_then (j_keep [(3, _), (4, _), (5, _), (6, _), (7, _), (8, _), (13, _), (15, _), (16, _), (17, _)] ⟨at_f rfl, at_f rfl, at_f rfl, at_f rfl, at_f rfl, at_f rfl, at_f rfl, at_f rfl, at_f rfl, at_f rfl, trivial⟩ (j_seq (j_any 10 [(0, true), (1, true), (2, true), (3, true), (4, true), (5, true), (6, true), (7, true), (8, true), (9, false)] _ mixd (by kernel_rfl) sb0 ?_))))) rfl
          refine o_y rfl (yl_loadA (T rfl) Tryz.isAgg56 Tryz.sizeOf56 rfl (by first | exact cs_o)) ?_ rfl gd_n
          refine o_y rfl (yl_loadA (T rfl) Tryz.isAgg58 Tryz.sizeOf58 rfl (by first | exact cs_o)) ?_ rfl gd_n
          refine o_y rfl (yl_loadA (T rfl) Tryz.isAgg29 Tryz.sizeOf29 rfl (by first | exact cs_o)) ?_ rfl gd_n
          refine o_y rfl (yl_move (T rfl)) (o_y rfl (yl_move (T rfl)) (o_y rfl (yl_loadA (T rfl) Tryz.isAgg56 Tryz.sizeOf56 rfl (by first | exact cs_o)) ?_ rfl gd_n) rfl gd_n) rfl gd_n
          refine o_y rfl (yl_loadA (T rfl) Tryz.isAgg58 Tryz.sizeOf58 rfl (by first | exact cs_o)) ?_ rfl gd_n
          refine o_y rfl (yl_loadA (T rfl) Tryz.isAgg29 Tryz.sizeOf29 rfl (by first | exact cs_o)) ?_ rfl gd_n
          refine o_y rfl (yl_move (T rfl)) (o_e rfl (eff_call (.cons (T rfl) (.cons (T rfl) (.cons (T rfl) (.cons (T rfl) .nil)))) Tryz.call35 (reachN_s (hNF.mono sbt) (hmc.mono sbt) hpo hsr hnl)) ?_ rfl gd_n) rfl gd_n
          rintro _ _ ⟨d1, ks, ⟨rfl, hok1, hr1⟩, rfl⟩
          have hl1 := rch_few hr1 hok hpo
          refine ⟨sbt, (jo_nil rfl (y_ (yl_call (.cons (T rfl) (.cons (T rfl) (.cons (T rfl) (.cons (T rfl) (.cons (T rfl) (.cons (T rfl) .nil)))))) Tryz.call37 (fun H' hs => refR_s (hNF.mono (List.Sublist.trans sbt hs)) (hmc.mono (List.Sublist.trans sbt hs)) hpo hsr hnl ks (slQ d1) (slC d1) ((sl_arr (w0 := w0) (enc := encPl) (sz := 2) (e := 74) (X := H) (fun _ => rfl) hok1).mono (List.Sublist.trans sbt hs)) (by omega))) ?_ rfl))⟩
          refine y_ (yl_assign (T rfl)) (jl_nil (q_then (j_seq (j_seq (j_region (y_ (yl_move (T rfl)) (y_ (yl_neq (T rfl) ev_c) (jl_nil (q_then (j_keep [(3, _), (4, _), (5, _), (6, _), (7, _), (8, _), (15, _), (16, _), (17, _), (18, _), (73, _)] ⟨at_f rfl, at_f rfl, at_f rfl, at_f rfl, at_f rfl, at_f rfl, at_f rfl, at_f rfl, at_f rfl, at_f rfl, at_f rfl, trivial⟩ ?_))) rfl) rfl)))))) rfl
          first | refine j_cond_d (at_f rfl) (fun c73 => ?_) (fun c73 => ?_) | refine j_cond (at_f rfl) (fun c73 => ?_) (fun c73 => ?_)
          · obtain ⟨hf0, hno, hno2⟩ := find_no (f := f) (to := y) hok hmE hx (by omega)
            have e18 : (findF (nnOf n) f mc.pl x y).2 = 18 := by rw [hf0]
            have el0 : (findF (nnOf n) f mc.pl x y).1.length = 0 := by rw [hf0]; rfl
            have href := nofound_ref hok hmE hx hr1 hno2
            have hnh := hno ls
            refine j_seq (j_region (y_ (yl_call .nil Tryz.call11 (fun H' hs => sanity_s)) (y_ (yl_move (T rfl)) (jl_y (yl_move (T rfl)) rfl (gd_y rfl rfl (at_f rfl)) (jl_y (yl_eql (T rfl) ev_c) rfl (gd_y rfl rfl (at_f rfl)) (y_ (yl_pick_t (T rfl) (T rfl)) (y_ (yl_move (T rfl)) ?_ rfl) rfl))) rfl) rfl))
            first | refine jl_if_d (s := 79) (at_f rfl) (fun c79 => ?_) (fun c79 => ?_) | refine jl_if (s := 79) (at_f rfl) (fun c79 => ?_) (fun c79 => ?_)
            · refine jl_y (yl_move (T rfl)) rfl (gd_y rfl rfl (at_f rfl)) (jl_y (yl_len (T rfl) Tryz.runUnderlying42) rfl (gd_y rfl rfl (at_f rfl)) (jl_y (yl_eql (T rfl) ev_c) rfl (gd_y rfl rfl (at_f rfl)) (y_ (yl_pick_t (T rfl) (T rfl)) (y_ (yl_move (T rfl)) ?_ rfl) rfl)))
              first | refine jl_if_d (s := 84) (at_f rfl) (fun c84 => ?_) (fun c84 => ?_) | refine jl_if (s := 84) (at_f rfl) (fun c84 => ?_) (fun c84 => ?_)
              · refine jl_y (yl_move (T rfl)) rfl (gd_y rfl rfl (at_f rfl)) (y_ (yl_pick_t (T rfl) (T rfl)) (y_ (yl_move (T rfl)) ?_ rfl) rfl)
                first | refine jl_if_d (s := 87) (at_f rfl) (fun c87 => ?_) (fun c87 => ?_) | refine jl_if (s := 87) (at_f rfl) (fun c87 => ?_) (fun c87 => ?_)
                · refine jl_y (yl_move (T rfl)) rfl (gd_y rfl rfl (at_f rfl)) ?_
                  first | refine jl_y (yl_not_d (T rfl)) rfl (gd_y rfl rfl (at_f rfl)) ?_ | refine jl_y (yl_not (T rfl)) rfl (gd_y rfl rfl (at_f rfl)) ?_
                  refine y_ (yl_pick_t (T rfl) (T rfl)) (y_ (yl_assign (T rfl)) (jl_nil (q_then (j_keep [(12, _)] ⟨at_f rfl, trivial⟩ (j_ret (q_then_ret (q_ret rfl (.tmp (at_f rfl) .nil) ?_)))))) rfl) rfl
                  first | exact ⟨_, ⟨rfl, rfl⟩, sbt⟩ | exact ⟨_, ⟨vbool (decide_eq_true hfs), rfl⟩, sbt⟩ | exact ⟨_, ⟨vbool (by rw [hnh]; rfl), rfl⟩, sbt⟩ | (exfalso; first | omega | exact hnref c92 | exact c87 href)
                · refine n_ft (n_ft (y_ (yl_pick_f (T rfl) ev_c) (y_ (yl_assign (T rfl)) (jl_nil (q_then (j_keep [(12, _)] ⟨at_f rfl, trivial⟩ (j_ret (q_then_ret (q_ret rfl (.tmp (at_f rfl) .nil) ?_)))))) rfl) rfl) rfl rfl rfl rfl) rfl rfl rfl rfl
                  first | exact ⟨_, ⟨rfl, rfl⟩, sbt⟩ | exact ⟨_, ⟨vbool (decide_eq_true hfs), rfl⟩, sbt⟩ | exact ⟨_, ⟨vbool (by rw [hnh]; rfl), rfl⟩, sbt⟩ | (exfalso; first | omega | exact hnref c92 | exact c87 href)
              · refine n_ft (y_ (yl_pick_f (T rfl) ev_c) (y_ (yl_move (T rfl)) (n_ft (n_ft (y_ (yl_pick_f (T rfl) ev_c) (y_ (yl_assign (T rfl)) (jl_nil (q_then (j_keep [(12, _)] ⟨at_f rfl, trivial⟩ (j_ret (q_then_ret (q_ret rfl (.tmp (at_f rfl) .nil) ?_)))))) rfl) rfl) rfl rfl rfl rfl) rfl rfl rfl rfl) rfl) rfl) rfl rfl rfl rfl
                first | exact ⟨_, ⟨rfl, rfl⟩, sbt⟩ | exact ⟨_, ⟨vbool (decide_eq_true hfs), rfl⟩, sbt⟩ | exact ⟨_, ⟨vbool (by rw [hnh]; rfl), rfl⟩, sbt⟩ | (exfalso; first | omega | exact hnref c92 | exact c87 href)
            · refine n_ft (n_ft (n_ft (y_ (yl_pick_f (T rfl) ev_c) (y_ (yl_move (T rfl)) (n_ft (y_ (yl_pick_f (T rfl) ev_c) (y_ (yl_move (T rfl)) (n_ft (n_ft (y_ (yl_pick_f (T rfl) ev_c) (y_ (yl_assign (T rfl)) (jl_nil (q_then (j_keep [(12, _)] ⟨at_f rfl, trivial⟩ (j_ret (q_then_ret (q_ret rfl (.tmp (at_f rfl) .nil) ?_)))))) rfl) rfl) rfl rfl rfl rfl) rfl rfl rfl rfl) rfl) rfl) rfl rfl rfl rfl) rfl) rfl) rfl rfl rfl rfl) rfl rfl rfl rfl) rfl rfl rfl rfl
              first | exact ⟨_, ⟨rfl, rfl⟩, sbt⟩ | exact ⟨_, ⟨vbool (decide_eq_true hfs), rfl⟩, sbt⟩ | exact ⟨_, ⟨vbool (by rw [hnh]; rfl), rfl⟩, sbt⟩ | (exfalso; first | omega | exact hnref c92 | exact c87 href)
          · obtain ⟨hyh, hymin⟩ := find_yes (f := f) (to := y) hok hmE hx (by omega)
            have hnref := found_ref hok hmE hx hr1 hyh
            have hal := find_few (f := f) (to := y) hok hpo hx
            refine j_skip (q_then (j_seq (j_seq (j_region (y_ (yl_move (T rfl)) (y_ (yl_move (T rfl)) ?_ rfl) rfl)))))
            first | refine jl_if_d (s := 92) (at_f rfl) (fun c92 => ?_) (fun c92 => ?_) | refine jl_if (s := 92) (at_f rfl) (fun c92 => ?_) (fun c92 => ?_)
            · refine n_tf (n_tf (n_tf (n_tf (n_tf (n_tf (n_tf (n_tf (y_ (yl_pick_t (T rfl) ev_c) (y_ (yl_move (T rfl)) (n_tf (n_tf (n_u (n_u (n_u (n_u (n_u (n_tf (y_ (yl_pick_t (T rfl) ev_c) (jl_nil (q_then (j_keep [(5, _), (15, _), (17, _), (111, _)] ⟨at_f rfl, at_f rfl, at_f rfl, at_f rfl, trivial⟩ ?_))) rfl) rfl rfl rfl rfl) rfl rfl rfl rfl) rfl rfl rfl rfl) rfl rfl rfl rfl) rfl rfl rfl rfl) rfl rfl rfl rfl) rfl rfl rfl rfl) rfl rfl rfl rfl) rfl) rfl) rfl rfl rfl rfl) rfl rfl rfl rfl) rfl rfl rfl rfl) rfl rfl rfl rfl) rfl rfl rfl rfl) rfl rfl rfl rfl) rfl rfl rfl rfl) rfl rfl rfl rfl
              first | refine j_cond_t (at_f rfl) ?_ | refine j_cond_t (at_e (at_f rfl) (vbool (decide_eq_true c111))) ?_
              refine j_seq (j_region (y_ (yl_assign ev_c) (jl_nil (q_then (j_ret (q_then_ret (q_ret rfl (.tmp (at_f rfl) .nil) ?_))))) rfl))
              first | exact ⟨_, ⟨rfl, rfl⟩, sbt⟩ | exact ⟨_, ⟨vbool (decide_eq_true hfs), rfl⟩, sbt⟩ | exact ⟨_, ⟨vbool (by rw [hnh]; rfl), rfl⟩, sbt⟩ | (exfalso; first | omega | exact hnref c92 | exact c87 href)
            · refine jl_y (yl_loadA (T rfl) Tryz.isAgg56 Tryz.sizeOf56 rfl (by first | exact cs_o)) rfl (gd_y rfl rfl (at_f rfl)) ?_
              refine jl_y (yl_loadA (T rfl) Tryz.isAgg58 Tryz.sizeOf58 rfl (by first | exact cs_o)) rfl (gd_y rfl rfl (at_f rfl)) ?_
              refine jl_y (yl_loadA (T rfl) Tryz.isAgg24 Tryz.sizeOf24 rfl (by first | exact cs_o)) rfl (gd_y rfl rfl (at_f rfl)) ?_
              refine jl_y (yl_move (T rfl)) rfl (gd_y rfl rfl (at_f rfl)) (jl_y (yl_move (T rfl)) rfl (gd_y rfl rfl (at_f rfl)) (jl_y (yl_move (T rfl)) rfl (gd_y rfl rfl (at_f rfl)) (jl_y (yl_call (.cons (T rfl) (.cons (T rfl) (.cons (T rfl) (.cons (T rfl) (.cons (T rfl) (.cons (T rfl) .nil)))))) Tryz.call32 (fun H' hs => still_b hyh (holdU_s (hNF.mono (List.Sublist.trans sbt hs)) r e hI (hM.mono (List.Sublist.trans sbt hs)) hl64 (findF (nnOf n) f mc.pl x y).1 (slQ d) (slC d) ((sl_arr (w0 := w0) (enc := encU) (sz := 1) (e := 3) (X := H) (fun _ => rfl) hokd).mono (List.Sublist.trans sbt hs)) (by omega)))) rfl (gd_y rfl rfl (at_f rfl)) ?_)))
              refine jl_y (yl_not (T rfl)) rfl (gd_y rfl rfl (at_f rfl)) (y_ (yl_pick_f (T rfl) (T rfl)) (y_ (yl_move (T rfl)) (jl_y (yl_move (T rfl)) rfl (gd_y rfl rfl (at_f rfl)) (jl_y (yl_move (T rfl)) rfl (gd_y rfl rfl (at_f rfl)) ?_)) rfl) rfl)
              first | refine jl_if_d (s := 104) (at_f rfl) (fun c104 => ?_) (fun c104 => ?_) | refine jl_if (s := 104) (at_f rfl) (fun c104 => ?_) (fun c104 => ?_)
              · have hfl2 := find_len (f := f) (to := y) hok hmE hx (by omega) c104
                refine jl_y (yl_move (T rfl)) rfl (gd_y rfl rfl (at_f rfl)) (jl_y (yl_len (T rfl) Tryz.runUnderlying42) rfl (gd_y rfl rfl (at_f rfl)) (jl_y (yl_move (T rfl)) rfl (gd_y rfl rfl (at_f rfl)) (jl_y (yl_len (T rfl) Tryz.runUnderlying42) rfl (gd_y rfl rfl (at_f rfl)) (jl_y (yl_lss (T rfl) (T rfl)) rfl (gd_y rfl rfl (at_f rfl)) (jl_y (yl_pick_t (T rfl) (T rfl)) rfl (gd_y rfl rfl (at_f rfl)) (y_ (yl_pick_f (T rfl) (T rfl)) (jl_nil (q_then (j_keep [(5, _), (15, _), (17, _), (111, _)] ⟨at_f rfl, at_f rfl, at_f rfl, at_f rfl, trivial⟩ ?_))) rfl))))))
                first | refine j_cond_d (at_f rfl) (fun c111 => ?_) (fun c111 => ?_) | refine j_cond (at_f rfl) (fun c111 => ?_) (fun c111 => ?_)
                · refine j_seq (j_region (y_ (yl_assign ev_c) (jl_nil (q_then (j_ret (q_then_ret (q_ret rfl (.tmp (at_f rfl) .nil) ?_))))) rfl))
                  first | exact ⟨_, ⟨rfl, rfl⟩, sbt⟩ | exact ⟨_, ⟨vbool (decide_eq_true hfs), rfl⟩, sbt⟩ | exact ⟨_, ⟨vbool (by rw [hnh]; rfl), rfl⟩, sbt⟩ | (exfalso; first | omega | exact hnref c92 | exact c87 href)
                · refine j_skip (q_then (j_seq (j_seq (j_region (y_ (yl_move (T rfl)) (y_ (yl_move (T rfl)) ?_ rfl) rfl)))))
                  first | refine jl_if_d (s := 113) (at_f rfl) (fun c113 => ?_) (fun c113 => ?_) | refine jl_if (s := 113) (at_f rfl) (fun c113 => ?_) (fun c113 => ?_)
                  · refine jl_y (yl_move (T rfl)) rfl (gd_y rfl rfl (at_f rfl)) (jl_y (yl_len (T rfl) Tryz.runUnderlying42) rfl (gd_y rfl rfl (at_f rfl)) (jl_y (yl_move (T rfl)) rfl (gd_y rfl rfl (at_f rfl)) (jl_y (yl_len (T rfl) Tryz.runUnderlying42) rfl (gd_y rfl rfl (at_f rfl)) (jl_y (yl_eql (T rfl) (T rfl)) rfl (gd_y rfl rfl (at_f rfl)) (y_ (yl_pick_t (T rfl) (T rfl)) (jl_nil (q_then ?_)) rfl)))))
                    first | refine j_cond_d (at_f rfl) (fun c119 => ?_) (fun c119 => ?_) | refine j_cond (at_f rfl) (fun c119 => ?_) (fun c119 => ?_)
                    · have hlen : (findF (nnOf n) f mc.pl x y).1.length = ls.length := by omega
                      refine j_seq (j_region (y_ (yl_move (T rfl)) (y_ (yl_len (T rfl) Tryz.runUnderlying42) (y_ (yl_move ev_c) (jl_nil (q_then (j_block ?_))) rfl) rfl) rfl))
                      refine j_loopH (X := Nat) (V := fun k => [(122, .int .i64 (k : Nat))]) (C := [(5, _), (15, _), (121, _)]) (φ := fun k => k ≤ (findF (nnOf n) f mc.pl x y).1.length ∧ ∀ j, j < k → ((gd (findF (nnOf n) f mc.pl x y).1 j : Nat) : Int) = gd ls j) (μ := fun k => (findF (nnOf n) f mc.pl x y).1.length - k) (x0 := 0) ?_ ⟨at_f rfl, at_f rfl, at_f rfl, trivial⟩ ⟨(by first | exact at_f rfl | (refine at_e (at_f rfl) (vint ?_); omega) | (refine at_e (at_f rfl) ?_; simp; done)), trivial⟩ ?_
                      · exact ⟨Nat.zero_le _, fun j hj => by omega⟩
                      rintro k ⟨hk, hag⟩
                      refine j_seq (j_region (y_ (yl_lss (T rfl) (T rfl)) (jl_nil (q_then (j_seq ?_))) rfl))
                      first | refine j_cond_d (at_f rfl) (fun c123 => ?_) (fun c123 => ?_) | refine j_cond (at_f rfl) (fun c123 => ?_) (fun c123 => ?_)
                      · refine j_skip (q_then (j_seq (j_block (j_seq (j_region (y_ (yl_move (T rfl)) (y_ (yl_assign (T rfl)) (jl_nil (q_then (j_seq (j_any 9 [(0, true), (1, true), (2, true), (3, true), (4, true), (5, true), (6, true), (7, true), (8, true)] _ mixd (by kernel_rfl) sb0 ?_)))) rfl) rfl))))))
                        refine o_y rfl (yl_move (T rfl)) (o_y rfl (yl_move (T rfl)) (o_y rfl (yl_ixQ (T rfl) (T rfl) Tryz.runUnderlying42 Tryz.sizeOf3 (by omega) (by first | exact rfl | exact hL.b (i := k) (by omega) | exact (sl_arr (w0 := w0) (enc := encU) (sz := 1) (e := 3) (X := H) (fun _ => rfl) hokd).b (i := k) (by omega))) ?_ rfl gd_n) rfl gd_n) rfl gd_n
                        refine o_y rfl (yl_load (T rfl) Tryz.isAgg3 (by first | exact c_o | exact cell1 ((hL.mono sbt).cs (i := k) (by omega)))) ?_ rfl gd_n
                        refine o_y rfl (yl_move (T rfl)) (o_y rfl (yl_move (T rfl)) (o_y rfl (yl_ixQ (T rfl) (T rfl) Tryz.runUnderlying42 Tryz.sizeOf3 (by omega) (by first | exact rfl | exact hL.b (i := k) (by omega) | exact (sl_arr (w0 := w0) (enc := encU) (sz := 1) (e := 3) (X := H) (fun _ => rfl) hokd).b (i := k) (by omega))) ?_ rfl gd_n) rfl gd_n) rfl gd_n
                        refine o_y rfl (yl_load (T rfl) Tryz.isAgg3 (by first | exact c_o | exact cell1 (((sl_arr (w0 := w0) (enc := encU) (sz := 1) (e := 3) (X := H) (fun _ => rfl) hokd).mono sbt).cs (i := k) (by omega)))) ?_ rfl gd_n
                        refine o_y rfl (yl_neq (T rfl) (T rfl)) (jo_nil rfl (jl_nil (q_then ?_))) rfl gd_n
                        first | refine j_cond_d (at_f rfl) (fun c133 => ?_) (fun c133 => ?_) | refine j_cond (at_f rfl) (fun c133 => ?_) (fun c133 => ?_)
                        · have hfs := find_first (f := f) (to := y) hok hmE hx (by omega) c113 hlen (i := k) (by omega) hag (fun e => c133 e.symm)
                          refine j_seq (j_any 13 [(0, true), (1, true), (2, true), (3, true), (4, true), (5, true), (6, true), (7, true), (8, true), (9, true), (10, true), (11, true), (12, true)] _ mixd (by kernel_rfl) sb0 ?_)
                          refine o_y rfl (yl_call .nil Tryz.call11 (fun H' hs => sanity_s)) (o_y rfl (yl_move (T rfl)) (o_y rfl (yl_move (T rfl)) (o_y rfl (yl_move (T rfl)) (o_y rfl (yl_ixQ (T rfl) (T rfl) Tryz.runUnderlying42 Tryz.sizeOf3 (by omega) (by first | exact rfl | exact hL.b (i := k) (by omega) | exact (sl_arr (w0 := w0) (enc := encU) (sz := 1) (e := 3) (X := H) (fun _ => rfl) hokd).b (i := k) (by omega))) ?_ rfl (gd_y rfl rfl (at_f rfl))) rfl (gd_y rfl rfl (at_f rfl))) rfl (gd_y rfl rfl (at_f rfl))) rfl gd_n) rfl gd_n
                          refine o_y rfl (yl_load (T rfl) Tryz.isAgg3 (by first | exact c_o | exact cell1 (((sl_arr (w0 := w0) (enc := encU) (sz := 1) (e := 3) (X := H) (fun _ => rfl) hokd).mono sbt).cs (i := k) (by omega)))) ?_ rfl (gd_y rfl rfl (at_f rfl))
                          refine o_y rfl (yl_move (T rfl)) (o_y rfl (yl_move (T rfl)) (o_y rfl (yl_ixQ (T rfl) (T rfl) Tryz.runUnderlying42 Tryz.sizeOf3 (by omega) (by first | exact rfl | exact hL.b (i := k) (by omega) | exact (sl_arr (w0 := w0) (enc := encU) (sz := 1) (e := 3) (X := H) (fun _ => rfl) hokd).b (i := k) (by omega))) ?_ rfl (gd_y rfl rfl (at_f rfl))) rfl (gd_y rfl rfl (at_f rfl))) rfl (gd_y rfl rfl (at_f rfl))
                          refine o_y rfl (yl_load (T rfl) Tryz.isAgg3 (by first | exact c_o | exact cell1 ((hL.mono sbt).cs (i := k) (by omega)))) ?_ rfl (gd_y rfl rfl (at_f rfl))
                          refine o_y rfl (yl_lss (T rfl) (T rfl)) (o_y rfl (yl_pick_t (T rfl) (T rfl)) (o_y rfl (yl_assign (T rfl)) (jo_nil rfl (jl_nil (q_then (j_keep [(12, _)] ⟨at_f rfl, trivial⟩ (j_ret (q_block_ret (q_then_ret (q_loop_ret (q_block_ret (q_then_ret (q_ret rfl (.tmp (at_f rfl) .nil) ?_))))))))))) rfl gd_n) rfl gd_n) rfl (gd_y rfl rfl (at_f rfl))
                          first | exact ⟨_, ⟨rfl, rfl⟩, sbt⟩ | exact ⟨_, ⟨vbool (decide_eq_true hfs), rfl⟩, sbt⟩ | exact ⟨_, ⟨vbool (by rw [hnh]; rfl), rfl⟩, sbt⟩ | (exfalso; first | omega | exact hnref c92 | exact c87 href)
                        · refine j_skip (q_block (q_then (j_region (y_ (yl_add (T rfl) ev_c (by omega)) ?_ rfl))))
                          refine y_ (yl_move (T rfl)) (jl_nil ?_) rfl
                          refine q_loopC (k + 1) ?_ ?_ ⟨(by first | exact at_f rfl | (refine at_e (at_f rfl) (vint ?_); omega) | (refine at_e (at_f rfl) ?_; simp; done)), trivial⟩ ⟨at_f rfl, at_f rfl, at_f rfl, trivial⟩ ?_
                          · refine ⟨by omega, fun j hj => ?_⟩
                            by_cases e : j = k
                            · subst e; exact (Decidable.not_not.1 c133).symm
                            · exact hag j (by omega)
                          · first | omega | (simp only []; omega)
                          · exact sbt
                      · refine j_exit (q_then_exit (q_loop_exit (q_block_hit (q_then (j_seq (j_region (y_ (yl_call .nil Tryz.call11 (fun H' hs => sanity_s)) (y_ (yl_assign (T rfl)) (jl_nil (q_then (j_ret (q_ret rfl (.tmp (at_f rfl) .nil) ?_)))) rfl) rfl)))))))
                        first | exact ⟨_, ⟨rfl, rfl⟩, sbt⟩ | exact ⟨_, ⟨vbool (decide_eq_true hfs), rfl⟩, sbt⟩ | exact ⟨_, ⟨vbool (by rw [hnh]; rfl), rfl⟩, sbt⟩ | (exfalso; first | omega | exact hnref c92 | exact c87 href)
                    · refine j_skip (q_then (j_seq (j_region (y_ (yl_call .nil Tryz.call11 (fun H' hs => sanity_s)) (y_ (yl_assign (T rfl)) (jl_nil (q_then (j_ret (q_ret rfl (.tmp (at_f rfl) .nil) ?_)))) rfl) rfl))))
                      first | exact ⟨_, ⟨rfl, rfl⟩, sbt⟩ | exact ⟨_, ⟨vbool (decide_eq_true hfs), rfl⟩, sbt⟩ | exact ⟨_, ⟨vbool (by rw [hnh]; rfl), rfl⟩, sbt⟩ | (exfalso; first | omega | exact hnref c92 | exact c87 href)
                  · refine n_ft (n_ft (n_ft (n_ft (n_ft (y_ (yl_pick_f (T rfl) ev_c) (jl_nil (q_then ?_)) rfl) rfl rfl rfl rfl) rfl rfl rfl rfl) rfl rfl rfl rfl) rfl rfl rfl rfl) rfl rfl rfl rfl
                    first | refine j_cond_f (at_f rfl) ?_ | refine j_cond_f (at_e (at_f rfl) (vbool (decide_eq_false c119))) ?_
                    refine j_skip (q_then (j_seq (j_region (y_ (yl_call .nil Tryz.call11 (fun H' hs => sanity_s)) (y_ (yl_assign (T rfl)) (jl_nil (q_then (j_ret (q_ret rfl (.tmp (at_f rfl) .nil) ?_)))) rfl) rfl))))
                    first | exact ⟨_, ⟨rfl, rfl⟩, sbt⟩ | exact ⟨_, ⟨vbool (decide_eq_true hfs), rfl⟩, sbt⟩ | exact ⟨_, ⟨vbool (by rw [hnh]; rfl), rfl⟩, sbt⟩ | (exfalso; first | omega | exact hnref c92 | exact c87 href)
              · refine n_ft (n_ft (n_ft (n_ft (n_ft (jl_y (yl_pick_f (T rfl) ev_c) rfl (gd_y rfl rfl (at_f rfl)) (y_ (yl_pick_f (T rfl) (T rfl)) (jl_nil (q_then (j_keep [(5, _), (15, _), (17, _), (111, _)] ⟨at_f rfl, at_f rfl, at_f rfl, at_f rfl, trivial⟩ ?_))) rfl)) rfl rfl rfl rfl) rfl rfl rfl rfl) rfl rfl rfl rfl) rfl rfl rfl rfl) rfl rfl rfl rfl
                first | refine j_cond_f (at_f rfl) ?_ | refine j_cond_f (at_e (at_f rfl) (vbool (decide_eq_false c111))) ?_
                refine j_skip (q_then (j_seq (j_seq (j_region (y_ (yl_move (T rfl)) (y_ (yl_move (T rfl)) ?_ rfl) rfl)))))
                first | refine jl_if_d (s := 113) (at_f rfl) (fun c113 => ?_) (fun c113 => ?_) | refine jl_if (s := 113) (at_f rfl) (fun c113 => ?_) (fun c113 => ?_)
                · refine jl_y (yl_move (T rfl)) rfl (gd_y rfl rfl (at_f rfl)) (jl_y (yl_len (T rfl) Tryz.runUnderlying42) rfl (gd_y rfl rfl (at_f rfl)) (jl_y (yl_move (T rfl)) rfl (gd_y rfl rfl (at_f rfl)) (jl_y (yl_len (T rfl) Tryz.runUnderlying42) rfl (gd_y rfl rfl (at_f rfl)) (jl_y (yl_eql (T rfl) (T rfl)) rfl (gd_y rfl rfl (at_f rfl)) (y_ (yl_pick_t (T rfl) (T rfl)) (jl_nil (q_then ?_)) rfl)))))
                  first | refine j_cond_d (at_f rfl) (fun c119 => ?_) (fun c119 => ?_) | refine j_cond (at_f rfl) (fun c119 => ?_) (fun c119 => ?_)
                  · have hlen : (findF (nnOf n) f mc.pl x y).1.length = ls.length := by omega
                    refine j_seq (j_region (y_ (yl_move (T rfl)) (y_ (yl_len (T rfl) Tryz.runUnderlying42) (y_ (yl_move ev_c) (jl_nil (q_then (j_block ?_))) rfl) rfl) rfl))
                    refine j_loopH (X := Nat) (V := fun k => [(122, .int .i64 (k : Nat))]) (C := [(5, _), (15, _), (121, _)]) (φ := fun k => k ≤ (findF (nnOf n) f mc.pl x y).1.length ∧ ∀ j, j < k → ((gd (findF (nnOf n) f mc.pl x y).1 j : Nat) : Int) = gd ls j) (μ := fun k => (findF (nnOf n) f mc.pl x y).1.length - k) (x0 := 0) ?_ ⟨at_f rfl, at_f rfl, at_f rfl, trivial⟩ ⟨(by first | exact at_f rfl | (refine at_e (at_f rfl) (vint ?_); omega) | (refine at_e (at_f rfl) ?_; simp; done)), trivial⟩ ?_
                    · exact ⟨Nat.zero_le _, fun j hj => by omega⟩
                    rintro k ⟨hk, hag⟩
                    refine j_seq (j_region (y_ (yl_lss (T rfl) (T rfl)) (jl_nil (q_then (j_seq ?_))) rfl))
                    first | refine j_cond_d (at_f rfl) (fun c123 => ?_) (fun c123 => ?_) | refine j_cond (at_f rfl) (fun c123 => ?_) (fun c123 => ?_)
                    · refine j_skip (q_then (j_seq (j_block (j_seq (j_region (y_ (yl_move (T rfl)) (y_ (yl_assign (T rfl)) (jl_nil (q_then (j_seq (j_any 9 [(0, true), (1, true), (2, true), (3, true), (4, true), (5, true), (6, true), (7, true), (8, true)] _ mixd (by kernel_rfl) sb0 ?_)))) rfl) rfl))))))
                      refine o_y rfl (yl_move (T rfl)) (o_y rfl (yl_move (T rfl)) (o_y rfl (yl_ixQ (T rfl) (T rfl) Tryz.runUnderlying42 Tryz.sizeOf3 (by omega) (by first | exact rfl | exact hL.b (i := k) (by omega) | exact (sl_arr (w0 := w0) (enc := encU) (sz := 1) (e := 3) (X := H) (fun _ => rfl) hokd).b (i := k) (by omega))) ?_ rfl gd_n) rfl gd_n) rfl gd_n
                      refine o_y rfl (yl_load (T rfl) Tryz.isAgg3 (by first | exact c_o | exact cell1 ((hL.mono sbt).cs (i := k) (by omega)))) ?_ rfl gd_n
                      refine o_y rfl (yl_move (T rfl)) (o_y rfl (yl_move (T rfl)) (o_y rfl (yl_ixQ (T rfl) (T rfl) Tryz.runUnderlying42 Tryz.sizeOf3 (by omega) (by first | exact rfl | exact hL.b (i := k) (by omega) | exact (sl_arr (w0 := w0) (enc := encU) (sz := 1) (e := 3) (X := H) (fun _ => rfl) hokd).b (i := k) (by omega))) ?_ rfl gd_n) rfl gd_n) rfl gd_n
                      refine o_y rfl (yl_load (T rfl) Tryz.isAgg3 (by first | exact c_o | exact cell1 (((sl_arr (w0 := w0) (enc := encU) (sz := 1) (e := 3) (X := H) (fun _ => rfl) hokd).mono sbt).cs (i := k) (by omega)))) ?_ rfl gd_n
                      refine o_y rfl (yl_neq (T rfl) (T rfl)) (jo_nil rfl (jl_nil (q_then ?_))) rfl gd_n
                      first | refine j_cond_d (at_f rfl) (fun c133 => ?_) (fun c133 => ?_) | refine j_cond (at_f rfl) (fun c133 => ?_) (fun c133 => ?_)
                      · have hfs := find_first (f := f) (to := y) hok hmE hx (by omega) c113 hlen (i := k) (by omega) hag (fun e => c133 e.symm)
                        refine j_seq (j_any 13 [(0, true), (1, true), (2, true), (3, true), (4, true), (5, true), (6, true), (7, true), (8, true), (9, true), (10, true), (11, true), (12, true)] _ mixd (by kernel_rfl) sb0 ?_)
                        refine o_y rfl (yl_call .nil Tryz.call11 (fun H' hs => sanity_s)) (o_y rfl (yl_move (T rfl)) (o_y rfl (yl_move (T rfl)) (o_y rfl (yl_move (T rfl)) (o_y rfl (yl_ixQ (T rfl) (T rfl) Tryz.runUnderlying42 Tryz.sizeOf3 (by omega) (by first | exact rfl | exact hL.b (i := k) (by omega) | exact (sl_arr (w0 := w0) (enc := encU) (sz := 1) (e := 3) (X := H) (fun _ => rfl) hokd).b (i := k) (by omega))) ?_ rfl (gd_y rfl rfl (at_f rfl))) rfl (gd_y rfl rfl (at_f rfl))) rfl (gd_y rfl rfl (at_f rfl))) rfl gd_n) rfl gd_n
                        refine o_y rfl (yl_load (T rfl) Tryz.isAgg3 (by first | exact c_o | exact cell1 (((sl_arr (w0 := w0) (enc := encU) (sz := 1) (e := 3) (X := H) (fun _ => rfl) hokd).mono sbt).cs (i := k) (by omega)))) ?_ rfl (gd_y rfl rfl (at_f rfl))
                        refine o_y rfl (yl_move (T rfl)) (o_y rfl (yl_move (T rfl)) (o_y rfl (yl_ixQ (T rfl) (T rfl) Tryz.runUnderlying42 Tryz.sizeOf3 (by omega) (by first | exact rfl | exact hL.b (i := k) (by omega) | exact (sl_arr (w0 := w0) (enc := encU) (sz := 1) (e := 3) (X := H) (fun _ => rfl) hokd).b (i := k) (by omega))) ?_ rfl (gd_y rfl rfl (at_f rfl))) rfl (gd_y rfl rfl (at_f rfl))) rfl (gd_y rfl rfl (at_f rfl))
                        refine o_y rfl (yl_load (T rfl) Tryz.isAgg3 (by first | exact c_o | exact cell1 ((hL.mono sbt).cs (i := k) (by omega)))) ?_ rfl (gd_y rfl rfl (at_f rfl))
                        refine o_y rfl (yl_lss (T rfl) (T rfl)) (o_y rfl (yl_pick_t (T rfl) (T rfl)) (o_y rfl (yl_assign (T rfl)) (jo_nil rfl (jl_nil (q_then (j_keep [(12, _)] ⟨at_f rfl, trivial⟩ (j_ret (q_block_ret (q_then_ret (q_loop_ret (q_block_ret (q_then_ret (q_ret rfl (.tmp (at_f rfl) .nil) ?_))))))))))) rfl gd_n) rfl gd_n) rfl (gd_y rfl rfl (at_f rfl))
                        first | exact ⟨_, ⟨rfl, rfl⟩, sbt⟩ | exact ⟨_, ⟨vbool (decide_eq_true hfs), rfl⟩, sbt⟩ | exact ⟨_, ⟨vbool (by rw [hnh]; rfl), rfl⟩, sbt⟩ | (exfalso; first | omega | exact hnref c92 | exact c87 href)
                      · refine j_skip (q_block (q_then (j_region (y_ (yl_add (T rfl) ev_c (by omega)) ?_ rfl))))
                        refine y_ (yl_move (T rfl)) (jl_nil ?_) rfl
                        refine q_loopC (k + 1) ?_ ?_ ⟨(by first | exact at_f rfl | (refine at_e (at_f rfl) (vint ?_); omega) | (refine at_e (at_f rfl) ?_; simp; done)), trivial⟩ ⟨at_f rfl, at_f rfl, at_f rfl, trivial⟩ ?_
                        · refine ⟨by omega, fun j hj => ?_⟩
                          by_cases e : j = k
                          · subst e; exact (Decidable.not_not.1 c133).symm
                          · exact hag j (by omega)
                        · first | omega | (simp only []; omega)
                        · exact sbt
                    · refine j_exit (q_then_exit (q_loop_exit (q_block_hit (q_then (j_seq (j_region (y_ (yl_call .nil Tryz.call11 (fun H' hs => sanity_s)) (y_ (yl_assign (T rfl)) (jl_nil (q_then (j_ret (q_ret rfl (.tmp (at_f rfl) .nil) ?_)))) rfl) rfl)))))))
                      first | exact ⟨_, ⟨rfl, rfl⟩, sbt⟩ | exact ⟨_, ⟨vbool (decide_eq_true hfs), rfl⟩, sbt⟩ | exact ⟨_, ⟨vbool (by rw [hnh]; rfl), rfl⟩, sbt⟩ | (exfalso; first | omega | exact hnref c92 | exact c87 href)
                  · refine j_skip (q_then (j_seq (j_region (y_ (yl_call .nil Tryz.call11 (fun H' hs => sanity_s)) (y_ (yl_assign (T rfl)) (jl_nil (q_then (j_ret (q_ret rfl (.tmp (at_f rfl) .nil) ?_)))) rfl) rfl))))
                    first | exact ⟨_, ⟨rfl, rfl⟩, sbt⟩ | exact ⟨_, ⟨vbool (decide_eq_true hfs), rfl⟩, sbt⟩ | exact ⟨_, ⟨vbool (by rw [hnh]; rfl), rfl⟩, sbt⟩ | (exfalso; first | omega | exact hnref c92 | exact c87 href)
                · refine n_ft (n_ft (n_ft (n_ft (n_ft (y_ (yl_pick_f (T rfl) ev_c) (jl_nil (q_then ?_)) rfl) rfl rfl rfl rfl) rfl rfl rfl rfl) rfl rfl rfl rfl) rfl rfl rfl rfl) rfl rfl rfl rfl
                  first | refine j_cond_f (at_f rfl) ?_ | refine j_cond_f (at_e (at_f rfl) (vbool (decide_eq_false c119))) ?_
                  refine j_skip (q_then (j_seq (j_region (y_ (yl_call .nil Tryz.call11 (fun H' hs => sanity_s)) (y_ (yl_assign (T rfl)) (jl_nil (q_then (j_ret (q_ret rfl (.tmp (at_f rfl) .nil) ?_)))) rfl) rfl))))
                  first | exact ⟨_, ⟨rfl, rfl⟩, sbt⟩ | exact ⟨_, ⟨vbool (decide_eq_true hfs), rfl⟩, sbt⟩ | exact ⟨_, ⟨vbool (by rw [hnh]; rfl), rfl⟩, sbt⟩ | (exfalso; first | omega | exact hnref c92 | exact c87 href)
end Go.Proofs.YtkdolgnpkjihpaaGreatDoor
namespace Go.Proofs.YtkdolgnpkjihpaaGreatDoor
open Go.ChangeShapes Go.WideShapes Go.ChangeAt Go.RowKit Go.Joins Go.Deep
set_option linter.unusedSimpArgs false
set_option linter.unusedVariables false
set_option maxRecDepth 100000
theorem below_cell {W w : World} {p : Addr} {v : Value} (hb : Below W.heap.size W w) (h : W.cell? p = some v) : w.cell? p = some v := by
  have hlt := World.block_lt_of_cell? _ _ h
  have := hb.block p.block hlt
  unfold World.cell? at h ⊢
  rw [this]; exact h
theorem cell_arg {W : World} {p : Addr} {v : Value} (h : W.cell? p = some v) : Cell W [] p v := fun w hO => below_cell hO.below h
theorem blk_pos {H : Type} (d : DataW H) : 1 ≤ Rows.uptoBulk d := by
  cases d with
  | lit l => cases l <;> simp [Rows.uptoBulk]
  | nil => simp [Rows.uptoBulk]
  | ptr d => simp [Rows.uptoBulk]
  | slice elems spare => simp [Rows.uptoBulk]
  | agg parts => simp [Rows.uptoBulk]
  | iface t d => simp [Rows.uptoBulk]
  | map entries => simp [Rows.uptoBulk]
  | held h => simp [Rows.uptoBulk]
theorem blk_sum {H : Type} {f : Nat → Nat} {D : Nat → DataW H} : ∀ (l : List Nat), (∀ i ∈ l, f i ≤ Rows.uptoBulk (D i)) → (l.map f).sum ≤ Rows.uptoBulkAll (l.map D)
  | [], _ => Nat.le_refl _
  | x :: l, h => by
    have h1 := h x (by simp)
    have h2 := blk_sum l fun i hi => h i (by simp [hi])
    simp only [List.map_cons, List.sum_cons, Rows.uptoBulkAll]
    omega
theorem blk_mem {H : Type} {D : Nat → DataW H} : ∀ {l : List Nat} {i : Nat}, i ∈ l → Rows.uptoBulk (D i) ≤ Rows.uptoBulkAll (l.map D)
  | x :: l, i, h => by
    simp only [List.map_cons, Rows.uptoBulkAll]
    rcases List.mem_cons.1 h with rfl | h
    · exact Nat.le_add_right _ _
    · have := blk_mem (D := D) h; omega
section
variable {H : Type} {enc : TypeId × Value → H} {P : Program} {W : World} {b0 : Nat} {sp1 : Nat → Bool} {held : Bool}
theorem open_arr {α : Type} {t e sz fuel : Nat} {cs : List Value} {x : DataW H × List MemPlace} {el : α → List Value} {φ : α → Prop} {szf : α → Nat} (ht : P.underlying t = some (.slice e)) (hc : P.cellsOf e = sz) (hsz : 0 < sz)
    (hel : ∀ n cs y, Rows.uptoBulk y.1 < Rows.uptoBulk x.1 → DataW.trod enc P W b0 sp1 held n e cs = some y → ∃ u : α, cs = el u ∧ φ u ∧ szf u ≤ Rows.uptoBulk y.1) (h : DataW.trod enc P W b0 sp1 held fuel t cs = some x) :
    ∃ (q : Option Addr) (l : List α) (cap : Nat), cs = [.slice q l.length cap] ∧ Arr W [] q sz el l ∧ l.length ≤ cap ∧ l.length ≤ 9223372036854775807 ∧ (∀ u ∈ l, φ u) ∧ (l.map szf).sum + 1 ≤ Rows.uptoBulk x.1 := by
  rcases open_slice ht h with ⟨rfl, rfl⟩ | ⟨a, len, cap, m, n, D, Pl, rfl, hb, hl, hm, hmm, rfl, hx⟩
  · exact ⟨none, [], 0, rfl, fun i u hi => by simp at hi, by simp, by simp, by simp, by simp [Rows.uptoBulk]⟩
  have hlm : len ≤ m := by rw [hmm]; split <;> omega
  have hlen : len ≤ 9223372036854775807 := by unfold maxLen at hm; omega
  cases len with
  | zero => exact ⟨some a, [], cap, rfl, fun i u hi => by simp at hi, by simp, by simp, by simp, by simp [Rows.uptoBulk]⟩
  | succ k =>
    have hbk : Rows.uptoBulkAll ((List.range (k + 1)).map D) + 1 ≤ Rows.uptoBulk (DataW.slice ((List.range (k + 1)).map D) ((List.range (m - (k + 1))).map fun j => D (k + 1 + j))) := by
      simp only [Rows.uptoBulk]; omega
    have each : ∀ i, i < k + 1 → ∃ u : α, W.cells? b0 (a.add (i * sz)) sz = some (el u) ∧ φ u ∧ szf u ≤ Rows.uptoBulk (D i) := fun i hi => by
      obtain ⟨cs', h1, h2⟩ := hx i (by omega)
      rw [hc] at h1
      have h3 := blk_mem (D := D) (List.mem_range.2 hi)
      obtain ⟨u, rfl, hu⟩ := hel _ _ _ (by simp only []; omega) h2
      exact ⟨u, h1, hu⟩
    obtain ⟨u0, h00, hu0⟩ := each 0 (by omega)
    letI : Inhabited α := ⟨u0⟩
    obtain ⟨f, hf⟩ := choose_lt each
    refine ⟨some a, (List.range (k + 1)).map f, cap, by simp, fun i u hi => ?_, by simpa using hl, by simpa using hlen, fun u hu => ?_, ?_⟩
    · have hik : i < k + 1 := by have := (List.getElem?_eq_some_iff.1 hi).1; simpa using this
      have hfu : f i = u := by simpa [hik] using hi
      obtain ⟨sb, so, spot⟩ := a
      obtain ⟨_, hl0, hc0⟩ := World.cells?_some h00
      have hspot : spot = none := by
        have h6 := (hc0 0 hsz).trans (List.getElem?_eq_getElem (by omega))
        simpa [Addr.add] using World.cell?_spot h6
      subst hspot
      refine ⟨rfl, fun j v hj => cell_arg ?_⟩
      obtain ⟨_, hl1, hc1⟩ := World.cells?_some (hf i hik).1
      rw [hfu] at hl1 hc1
      have hjl := (List.getElem?_eq_some_iff.1 hj).1
      have h5 := hc1 j (by omega)
      rw [add_add, add_plain] at h5
      have h6 := h5.trans hj
      rw [← Nat.add_assoc] at h6
      exact h6
    · obtain ⟨i, hi, rfl⟩ := List.mem_map.1 hu
      exact (hf i (List.mem_range.1 hi)).2.1
    · have := blk_sum (f := fun i => szf (f i)) (D := D) (List.range (k + 1)) fun i hi => (hf i (List.mem_range.1 hi)).2.2
      rw [List.map_map]
      have e : (szf ∘ f) = fun i => szf (f i) := rfl
      rw [e]; simp only [] at hbk ⊢; omega
end
theorem cells3 : Tryz.prog.cellsOf 3 = 1 := by kernel_rfl
theorem cells4 : Tryz.prog.cellsOf 4 = 1 := by kernel_rfl
theorem cells9 : Tryz.prog.cellsOf 9 = 1 := by kernel_rfl
theorem cells22 : Tryz.prog.cellsOf 22 = 1 := by kernel_rfl
theorem cells24 : Tryz.prog.cellsOf 24 = 3 := by kernel_rfl
theorem cells42 : Tryz.prog.cellsOf 42 = 1 := by kernel_rfl
theorem cells52 : Tryz.prog.cellsOf 52 = 1 := by kernel_rfl
theorem cells53 : Tryz.prog.cellsOf 53 = 1 := by kernel_rfl
theorem cells54 : Tryz.prog.cellsOf 54 = 1 := by kernel_rfl
theorem cells56 : Tryz.prog.cellsOf 56 = 3 := by kernel_rfl
theorem cells58 : Tryz.prog.cellsOf 58 = 2 := by kernel_rfl
theorem cells71 : Tryz.prog.cellsOf 71 = 3 := by kernel_rfl
theorem cells138 : Tryz.prog.cellsOf 138 = 4 := by kernel_rfl
theorem cells154 : Tryz.prog.cellsOf 154 = 2 := by kernel_rfl
theorem own_knob : ownKnob Tryz.prog.godebug = none := by kernel_rfl
theorem i64_bd {n : Int} (h : (Lit.int .i64 n).wf = true) : -9223372036854775808 ≤ n ∧ n ≤ 9223372036854775807 := by
  have := bounds_i64 h; exact this
theorem sum_len {α : Type} (l : List α) : (l.map fun _ => 1).sum = l.length := by
  induction l with
  | nil => rfl
  | cons x l ih => simp only [List.map_cons, List.sum_cons, List.length_cons, ih]; omega
theorem szL_sum : ∀ l : List Rxm, szL l = (l.map Rxm.sz).sum
  | [] => rfl
  | x :: l => by simp only [szL, List.map_cons, List.sum_cons, szL_sum l]
section
variable {H : Type} {enc : TypeId × Value → H} {W : World} {b0 n : Nat} {sp1 : Nat → Bool} {held : Bool} {y : DataW H × List MemPlace} {cs : List Value}
theorem rd_int {c : Value} (h : DataW.trod enc Tryz.prog W b0 sp1 held n 3 [c] = some y) : ∃ a : Int, c = .int .i64 a ∧ (-9223372036854775808 ≤ a ∧ a ≤ 9223372036854775807) := by
  obtain ⟨a, e0, _, wa⟩ := DataW.trod_int Tryz.underlying3 h
  simp at e0
  exact ⟨a, e0, i64_bd wa⟩
theorem rd_str (h : DataW.trod enc Tryz.prog W b0 sp1 held n 9 cs = some y) : ∃ u : ByteArray, cs = encS u ∧ u.size ≤ 9223372036854775807 := by
  obtain ⟨s, e0, _, ws⟩ := DataW.trod_string Tryz.underlying9 h
  exact ⟨s, e0, by unfold maxLen at ws; omega⟩
theorem rd_ints (h : DataW.trod enc Tryz.prog W b0 sp1 held n 42 cs = some y) : ∃ (q : Option Addr) (l : List Int) (cap : Nat), cs = [.slice q l.length cap] ∧ Arr W [] q 1 encI l ∧ l.length ≤ cap ∧ l.length ≤ 9223372036854775807 ∧ (∀ u ∈ l, -9223372036854775808 ≤ u ∧ u ≤ 9223372036854775807) ∧ l.length + 1 ≤ Rows.uptoBulk y.1 := by
  obtain ⟨q, l, cap, e, a, c, b, f, s⟩ := open_arr (el := encI) (φ := fun u => -9223372036854775808 ≤ u ∧ u ≤ 9223372036854775807) (szf := fun _ => 1) Tryz.underlying42 cells3 (by omega) (fun n cs y _ h => by
    obtain ⟨a, e0, _, wa⟩ := DataW.trod_int Tryz.underlying3 h
    exact ⟨a, e0, i64_bd wa, blk_pos _⟩) h
  rw [sum_len] at s
  exact ⟨q, l, cap, e, a, c, b, f, s⟩
theorem rd_rx : ∀ (N : Nat) {n : Nat} {y : DataW H × List MemPlace} {cs : List Value}, Rows.uptoBulk y.1 ≤ N → DataW.trod enc Tryz.prog W b0 sp1 held n 24 cs = some y → ∃ u : Rxm, cs = encRx u ∧ RxM W [] u ∧ u.sz ≤ Rows.uptoBulk y.1
  | 0, n, y, cs, hN, _ => by have := blk_pos y.1; omega
  | N + 1, n, y, cs, hN, h => by
    obtain ⟨xs, m, rfl, rfl, hlen, hxl, hall⟩ := DataW.trod_struct Tryz.underlying24 h
    rw [cells24] at hlen
    match xs, hxl, cs, hlen with
    | [x0, x1, x2], _, [c0, c1, c2], _ =>
      have f0 : DataW.trod enc Tryz.prog W b0 sp1 held m 3 [c0] = some x0 := by have := hall 0 _ rfl; simpa [cells3] using this
      have f1 : DataW.trod enc Tryz.prog W b0 sp1 held m 9 [c1] = some x1 := by have := hall 1 _ rfl; simpa [cells9] using this
      have f2 : DataW.trod enc Tryz.prog W b0 sp1 held m 22 [c2] = some x2 := by have := hall 2 _ rfl; simpa [cells22] using this
      have hb : Rows.uptoBulk x2.1 + 2 ≤ Rows.uptoBulk (DataW.agg (H := H) ([x0, x1, x2].map (·.1))) := by
        have := blk_pos x0.1; have := blk_pos x1.1
        simp only [Rows.uptoBulk, Rows.uptoBulkAll, List.map_cons, List.map_nil] at *; omega
      have hN' : Rows.uptoBulk (DataW.agg (H := H) ([x0, x1, x2].map (·.1))) ≤ N + 1 := hN
      obtain ⟨k, rfl, _⟩ := rd_int f0
      obtain ⟨s, e1, hs⟩ := rd_str f1
      obtain ⟨q, l, cap, e2, ha, hc, hl, hf, hsum⟩ := open_arr (el := encRx) (φ := RxM W []) (szf := Rxm.sz) Tryz.underlying22 cells24 (by omega) (fun n cs y hy h => rd_rx N (by omega) h) f2
      simp at e1 e2
      refine ⟨.mk k s q cap l, by rw [e1, e2]; rfl, .mk ha hf hs hl, ?_⟩
      rw [sz_eq, show (Rxm.mk k s q cap l).args = l from rfl, szL_sum]
      exact Nat.le_trans (by omega : 1 + (l.map Rxm.sz).sum ≤ Rows.uptoBulk x2.1 + 2) hb
theorem open_rx {base : Nat} {r : _root_.Go.Reach} {v : Value} {d : DataW H} {p : List MemPlace} (hv : Value.okWide Tryz.prog W r base 24 v) (h : DataW.Trod enc Tryz.prog W b0 sp1 held 24 v d p) : ∃ u : Rxm, v = .agg (encRx u).toArray ∧ RxM W [] u ∧ u.sz ≤ Rows.uptoBulk d := by
  obtain ⟨cs, rfl, hsz⟩ := okWide_struct Tryz.underlying24 hv
  obtain ⟨fuel, hf⟩ := h
  obtain ⟨l⟩ := cs
  obtain ⟨u, e, hu⟩ := rd_rx _ (Nat.le_refl _) hf
  simp only [Value.cells] at e
  exact ⟨u, by rw [← e], hu⟩
theorem open_ints {base : Nat} {r : _root_.Go.Reach} {v : Value} {d : DataW H} {p : List MemPlace} (hv : Value.okWide Tryz.prog W r base 42 v) (h : DataW.Trod enc Tryz.prog W b0 sp1 held 42 v d p) : ∃ (q : Option Addr) (l : List Int) (cap : Nat), v = .slice q l.length cap ∧ Arr W [] q 1 encI l ∧ l.length ≤ cap ∧ l.length ≤ 9223372036854775807 ∧ (∀ u ∈ l, -9223372036854775808 ≤ u ∧ u ≤ 9223372036854775807) ∧ l.length + 1 ≤ Rows.uptoBulk d := by
  obtain ⟨a0, len0, cap0, rfl⟩ := okWide_slice Tryz.underlying42 hv
  obtain ⟨fuel, hf⟩ := h
  obtain ⟨q, l, cap, e, r⟩ := rd_ints hf
  simp only [Value.cells, List.cons.injEq, and_true] at e
  exact ⟨q, l, cap, e, r⟩
theorem rd_node (h : DataW.trod enc Tryz.prog W b0 sp1 held n 138 cs = some y) : ∃ u : Nod, cs = encN u ∧ u.name.size ≤ 9223372036854775807 := by
  obtain ⟨xs, m, rfl, hx, hlen, hxl, hall⟩ := DataW.trod_struct Tryz.underlying138 h
  rw [cells138] at hlen
  match xs, hxl, cs, hlen with
  | [x0, x1, x2, x3], _, [c0, c1, c2, c3], _ =>
    have f0 : DataW.trod enc Tryz.prog W b0 sp1 held m 9 [c0] = some x0 := by have := hall 0 _ rfl; simpa [cells9] using this
    have f1 : DataW.trod enc Tryz.prog W b0 sp1 held m 4 [c1] = some x1 := by have := hall 1 _ rfl; simpa [cells4] using this
    have f2 : DataW.trod enc Tryz.prog W b0 sp1 held m 3 [c2] = some x2 := by have := hall 2 _ rfl; simpa [cells3] using this
    have f3 : DataW.trod enc Tryz.prog W b0 sp1 held m 3 [c3] = some x3 := by have := hall 3 _ rfl; simpa [cells3] using this
    obtain ⟨s, e0, hs⟩ := rd_str f0
    obtain ⟨b, e1, _⟩ := DataW.trod_bool Tryz.underlying4 f1
    obtain ⟨a2, rfl, _⟩ := rd_int f2
    obtain ⟨a3, rfl, _⟩ := rd_int f3
    simp at e0 e1
    exact ⟨⟨s, b, a2, a3⟩, by rw [e0, e1], hs⟩
theorem rd_link (h : DataW.trod enc Tryz.prog W b0 sp1 held n 71 cs = some y) : ∃ u : Lnk, cs = encL u ∧ True := by
  obtain ⟨xs, m, rfl, hx, hlen, hxl, hall⟩ := DataW.trod_struct Tryz.underlying71 h
  rw [cells71] at hlen
  match xs, hxl, cs, hlen with
  | [x0, x1, x2], _, [c0, c1, c2], _ =>
    have f0 : DataW.trod enc Tryz.prog W b0 sp1 held m 3 [c0] = some x0 := by have := hall 0 _ rfl; simpa [cells3] using this
    have f1 : DataW.trod enc Tryz.prog W b0 sp1 held m 3 [c1] = some x1 := by have := hall 1 _ rfl; simpa [cells3] using this
    have f2 : DataW.trod enc Tryz.prog W b0 sp1 held m 3 [c2] = some x2 := by have := hall 2 _ rfl; simpa [cells3] using this
    obtain ⟨a0, rfl, _⟩ := rd_int f0
    obtain ⟨a1, rfl, _⟩ := rd_int f1
    obtain ⟨a2, rfl, _⟩ := rd_int f2
    exact ⟨⟨a0, a1, a2⟩, rfl, trivial⟩
theorem rd_edge (h : DataW.trod enc Tryz.prog W b0 sp1 held n 154 cs = some y) : ∃ u : Edg, cs = encE u ∧ u.name.size ≤ 9223372036854775807 := by
  obtain ⟨xs, m, rfl, hx, hlen, hxl, hall⟩ := DataW.trod_struct Tryz.underlying154 h
  rw [cells154] at hlen
  match xs, hxl, cs, hlen with
  | [x0, x1], _, [c0, c1], _ =>
    have f0 : DataW.trod enc Tryz.prog W b0 sp1 held m 9 [c0] = some x0 := by have := hall 0 _ rfl; simpa [cells9] using this
    have f1 : DataW.trod enc Tryz.prog W b0 sp1 held m 3 [c1] = some x1 := by have := hall 1 _ rfl; simpa [cells3] using this
    obtain ⟨s, e0, hs⟩ := rd_str f0
    obtain ⟨a1, rfl, _⟩ := rd_int f1
    simp at e0
    exact ⟨⟨s, a1⟩, by rw [e0], hs⟩
theorem open_net {base : Nat} {r : _root_.Go.Reach} {v : Value} {d : DataW H} {p : List MemPlace} (hv : Value.okWide Tryz.prog W r base 56 v) (h : DataW.Trod enc Tryz.prog W b0 sp1 held 56 v d p) : ∃ n : Nm, v = .agg (encNm n).toArray ∧ NetM W [] n := by
  obtain ⟨cs, rfl, hsz⟩ := okWide_struct Tryz.underlying56 hv
  obtain ⟨fuel, hf⟩ := h
  obtain ⟨xs, m, rfl, hx, hlen, hxl, hall⟩ := DataW.trod_struct Tryz.underlying56 hf
  obtain ⟨l⟩ := cs
  simp only [Value.cells, cells56] at hlen hall
  match xs, hxl, l, hlen with
  | [x0, x1, x2], _, [c0, c1, c2], _ =>
    have f0 : DataW.trod enc Tryz.prog W b0 sp1 held m 52 [c0] = some x0 := by have := hall 0 _ rfl; simpa [cells52] using this
    have f1 : DataW.trod enc Tryz.prog W b0 sp1 held m 53 [c1] = some x1 := by have := hall 1 _ rfl; simpa [cells53] using this
    have f2 : DataW.trod enc Tryz.prog W b0 sp1 held m 54 [c2] = some x2 := by have := hall 2 _ rfl; simpa [cells54] using this
    obtain ⟨q0, l0, k0, e0, a0, _, b0, s0, _⟩ := open_arr (el := encN) (szf := fun _ => 0) Tryz.underlying52 cells138 (by omega) (fun n cs y _ h => by obtain ⟨u, h1, h2⟩ := rd_node h; exact ⟨u, h1, h2, Nat.zero_le _⟩) f0
    obtain ⟨q1, l1, k1, e1, a1, _, b1, _, _⟩ := open_arr (el := encL) (szf := fun _ => 0) Tryz.underlying53 cells71 (by omega) (fun n cs y _ h => by obtain ⟨u, h1, h2⟩ := rd_link h; exact ⟨u, h1, h2, Nat.zero_le _⟩) f1
    obtain ⟨q2, l2, k2, e2, a2, _, b2, s2, _⟩ := open_arr (el := encE) (szf := fun _ => 0) Tryz.underlying54 cells154 (by omega) (fun n cs y _ h => by obtain ⟨u, h1, h2⟩ := rd_edge h; exact ⟨u, h1, h2, Nat.zero_le _⟩) f2
    simp at e0 e1 e2
    exact ⟨⟨l0, l1, l2, q0, k0, q1, k1, q2, k2⟩, by rw [e0, e1, e2], ⟨a0, a1, a2, b0, b1, b2, s0, s2⟩⟩
theorem open_fail {base : Nat} {r : _root_.Go.Reach} {v : Value} {d : DataW H} {p : List MemPlace} (hv : Value.okWide Tryz.prog W r base 58 v) (h : DataW.Trod enc Tryz.prog W b0 sp1 held 58 v d p) : ∃ f : Flr, v = .agg (encFl f).toArray ∧ Arr W [] f.q 1 encI f.links ∧ f.links.length ≤ 9223372036854775807 := by
  obtain ⟨cs, rfl, hsz⟩ := okWide_struct Tryz.underlying58 hv
  obtain ⟨fuel, hf⟩ := h
  obtain ⟨xs, m, rfl, hx, hlen, hxl, hall⟩ := DataW.trod_struct Tryz.underlying58 hf
  obtain ⟨l⟩ := cs
  simp only [Value.cells, cells58] at hlen hall
  match xs, hxl, l, hlen with
  | [x0, x1], _, [c0, c1], _ =>
    have f0 : DataW.trod enc Tryz.prog W b0 sp1 held m 42 [c0] = some x0 := by have := hall 0 _ rfl; simpa [cells42] using this
    have f1 : DataW.trod enc Tryz.prog W b0 sp1 held m 3 [c1] = some x1 := by have := hall 1 _ rfl; simpa [cells3] using this
    obtain ⟨q, l, cap, e, a, _, b, _, _⟩ := rd_ints f0
    obtain ⟨k, rfl, _⟩ := rd_int f1
    simp at e
    exact ⟨⟨q, cap, l, k⟩, by rw [e], a, b⟩
end
end Go.Proofs.YtkdolgnpkjihpaaGreatDoor
namespace Go.Proofs.YtkdolgnpkjihpaaGreatDoor
open Go.ChangeShapes Go.WideShapes Go.ChangeAt Go.RowKit Go.Joins
set_option linter.unusedSimpArgs false
set_option linter.unusedVariables false
set_option maxRecDepth 100000
section
variable {H : Type} {enc : TypeId × Value → H} {W : World}
theorem laid_out : laidOutB Tryz.prog = true := by kernel_rfl
theorem trodAll_stays : ∀ {ts : List TypeId} {vs : List Value} {ds : List (DataW H)} {ps : List MemPlace} {W' : World}, (∀ t ∈ ts, Tryz.prog.readableRec t = true ∧ t < Tryz.prog.types.size) → DataW.TrodAll enc Tryz.prog W 0 (fun _ => true) true ts vs ds ps → Below W.heap.size W W' → (∀ x ∈ ps, x.block < W.heap.size) →
    DataW.TrodAll enc Tryz.prog W' 0 (fun b => decide (b < W.heap.size)) true ts vs ds ps
  | [], _, _, _, _, _, h, _, _ => by obtain ⟨rfl, rfl, rfl⟩ := trodAll_nil h; exact trodAll_mk0
  | t :: ts, _, _, _, _, hr, h, hb, hlt => by
    obtain ⟨v, vs, d, ds, p, q, rfl, rfl, rfl, h0, r0⟩ := trodAll_cons h
    exact trodAll_cons_mk (Below.trod laid_out (hr t (by simp)).1 (hr t (by simp)).2 h0 hb (fun x hx => hlt x (by simp [hx]))) (trodAll_stays (fun t ht => hr t (by simp [ht])) r0 hb (fun x hx => hlt x (by simp [hx])))
end
theorem calls_true {f : FuncId} {args : Array Value} {W : World} (h : FSpec Tryz.prog W f args [] (Still (.bool true) [])) : Calls Tryz.prog f args W fun e W' => e = .returned (.bool true) ∧ Below W.heap.size W W' :=
  (h W (Own.start W)).mono fun e W' ⟨v, H', he, hO, hv, _⟩ => ⟨by rw [he, hv], hO.below⟩
def tab32 : Array Value := #[.int .u8 0, .int .u8 1, .int .u8 28, .int .u8 2, .int .u8 29, .int .u8 14, .int .u8 24, .int .u8 3, .int .u8 30, .int .u8 22, .int .u8 20, .int .u8 15, .int .u8 25, .int .u8 17, .int .u8 4, .int .u8 8, .int .u8 31, .int .u8 27, .int .u8 13, .int .u8 23, .int .u8 21, .int .u8 19, .int .u8 16, .int .u8 7, .int .u8 26, .int .u8 12, .int .u8 18, .int .u8 6, .int .u8 11, .int .u8 5, .int .u8 10, .int .u8 9]
def tab64 : Array Value := #[.int .u8 0, .int .u8 1, .int .u8 56, .int .u8 2, .int .u8 57, .int .u8 49, .int .u8 28, .int .u8 3, .int .u8 61, .int .u8 58, .int .u8 42, .int .u8 50, .int .u8 38, .int .u8 29, .int .u8 17, .int .u8 4, .int .u8 62, .int .u8 47, .int .u8 59, .int .u8 36, .int .u8 45, .int .u8 43, .int .u8 51, .int .u8 22, .int .u8 53, .int .u8 39, .int .u8 33, .int .u8 30, .int .u8 24, .int .u8 18, .int .u8 12, .int .u8 5, .int .u8 63, .int .u8 55, .int .u8 48, .int .u8 27, .int .u8 60, .int .u8 41, .int .u8 37, .int .u8 16, .int .u8 46, .int .u8 35, .int .u8 44, .int .u8 21, .int .u8 52, .int .u8 32, .int .u8 23, .int .u8 11, .int .u8 54, .int .u8 26, .int .u8 40, .int .u8 15, .int .u8 34, .int .u8 20, .int .u8 31, .int .u8 10, .int .u8 25, .int .u8 14, .int .u8 19, .int .u8 9, .int .u8 13, .int .u8 8, .int .u8 7, .int .u8 6]
def tab10 : Array Value := #[.int .u64 1, .int .u64 10, .int .u64 100, .int .u64 1000, .int .u64 10000, .int .u64 100000, .int .u64 1000000, .int .u64 10000000, .int .u64 100000000, .int .u64 1000000000, .int .u64 10000000000, .int .u64 100000000000, .int .u64 1000000000000, .int .u64 10000000000000, .int .u64 100000000000000, .int .u64 1000000000000000, .int .u64 10000000000000000, .int .u64 100000000000000000, .int .u64 1000000000000000000, .int .u64 10000000000000000000]
def layObj (a : Array Value) : Obj → Obj
  | .cells _ t frozen => .cells a t frozen
  | o => o
noncomputable def laidWorld (os : Os) : World :=
  { World.holding Tryz.prog os ⟨#[], #[], []⟩ with heap := (((World.holding Tryz.prog os ⟨#[], #[], []⟩).heap.modify 0 (layObj tab10)).modify 1 (layObj tab32)).modify 2 (layObj tab64) }
end Go.Proofs.YtkdolgnpkjihpaaGreatDoor
