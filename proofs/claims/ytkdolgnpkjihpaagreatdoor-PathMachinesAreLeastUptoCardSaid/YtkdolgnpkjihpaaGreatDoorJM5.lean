/-
  A part of what LawM rests on: the logic, walks and plain laws. No condition.
-/
import Derived.Test.YtkdolgnpkjihpaaGreatDoorJM4
import Derived.Test.YtkdolgnpkjihpaaGreatDoorRows
import Derived.WalkKit
import Derived.ProofKit
import Derived.OpenShut
import Derived.Lib.SmallJoins
import Derived.Deep.SlicePairs
import Derived.Test.YtkdolgnpkjihpaaGreatDoorCards
import Derived.Test.YtkdolgnpkjihpaaGreatDoorTie
import Derived.Deep.DeepHandedRow
namespace Go.Proofs.YtkdolgnpkjihpaaGreatDoor
open Go.RowKit
set_option linter.unusedVariables false
set_option linter.unusedSimpArgs false
theorem bs25_49_0_1_2_3_4_5_6_7_8_9_10_11_12_13_14_15_16_17_18_19_20_21_22_23_24_25_26_27_28_29_30_31_32_33_34_35_36_37_38_39_40_41_42_43_44_45_46_47_48 (a0 : ByteArray) (a1 : ByteArray) (a2 : ByteArray) (a3 : ByteArray) (a4 : ByteArray) (a5 : ByteArray) (a6 : ByteArray) (a7 : ByteArray) (a8 : ByteArray) (a9 : ByteArray) (a10 : ByteArray) (a11 : ByteArray) (a12 : ByteArray) (a13 : ByteArray) (a14 : ByteArray) (a15 : ByteArray) (a16 : ByteArray) (a17 : ByteArray) (a18 : ByteArray) (a19 : ByteArray) (a20 : ByteArray) (a21 : ByteArray) (a22 : ByteArray) (a23 : ByteArray) (a24 : ByteArray) (a25 : ByteArray) (a26 : ByteArray) (a27 : ByteArray) (a28 : ByteArray) (a29 : ByteArray) (a30 : ByteArray) (a31 : ByteArray) (a32 : ByteArray) (a33 : ByteArray) (a34 : ByteArray) (a35 : ByteArray) (a36 : ByteArray) (a37 : ByteArray) (a38 : ByteArray) (a39 : ByteArray) (a40 : ByteArray) (a41 : ByteArray) (a42 : ByteArray) (a43 : ByteArray) (a44 : ByteArray) (a45 : ByteArray) (a46 : ByteArray) (a47 : ByteArray) (a48 : ByteArray) (w : World) : (Instr.buildSlice 25 49 #[(0, .string a0), (1, .string a1), (2, .string a2), (3, .string a3), (4, .string a4), (5, .string a5), (6, .string a6), (7, .string a7), (8, .string a8), (9, .string a9), (10, .string a10), (11, .string a11), (12, .string a12), (13, .string a13), (14, .string a14), (15, .string a15), (16, .string a16), (17, .string a17), (18, .string a18), (19, .string a19), (20, .string a20), (21, .string a21), (22, .string a22), (23, .string a23), (24, .string a24), (25, .string a25), (26, .string a26), (27, .string a27), (28, .string a28), (29, .string a29), (30, .string a30), (31, .string a31), (32, .string a32), (33, .string a33), (34, .string a34), (35, .string a35), (36, .string a36), (37, .string a37), (38, .string a38), (39, .string a39), (40, .string a40), (41, .string a41), (42, .string a42), (43, .string a43), (44, .string a44), (45, .string a45), (46, .string a46), (47, .string a47), (48, .string a48)]).run Tryz.prog w = .ok (.slice (some ⟨w.heap.size, 0, none⟩) 49 49) (w.alloc (Cl [.string a0, .string a1, .string a2, .string a3, .string a4, .string a5, .string a6, .string a7, .string a8, .string a9, .string a10, .string a11, .string a12, .string a13, .string a14, .string a15, .string a16, .string a17, .string a18, .string a19, .string a20, .string a21, .string a22, .string a23, .string a24, .string a25, .string a26, .string a27, .string a28, .string a29, .string a30, .string a31, .string a32, .string a33, .string a34, .string a35, .string a36, .string a37, .string a38, .string a39, .string a40, .string a41, .string a42, .string a43, .string a44, .string a45, .string a46, .string a47, .string a48] 9)) := by kernel_rfl
theorem ch10_s {w0 : World} {H : List (Nat × Obj)} (c : Int) :
    FSpec Tryz.prog w0 176 #[.int .u8 c] H (fun v H' => (∃ t : Bool, v = .bool t) ∧ H' = H) := by
  refine fn_spec Tryz.func176 rfl Tryz.ntmps176 rfl (j_seq (j_region (y_ (yl_assign ev_c) (jl_nil (q_then (j_seq (j_region (y_ (yl_move (T rfl)) (y_ (yl_geq (T rfl) ev_c) (y_ (yl_move (T rfl)) ?_ rfl) rfl) rfl))))) rfl)))
  first | refine jl_if_d (s := 5) (at_f rfl) (fun c5 => ?_) (fun c5 => ?_) | refine jl_if (s := 5) (at_f rfl) (fun c5 => ?_) (fun c5 => ?_)
  · refine jl_y (yl_move (T rfl)) rfl (gd_y rfl rfl (at_f rfl)) (jl_y (yl_leq (T rfl) ev_c) rfl (gd_y rfl rfl (at_f rfl)) (y_ (yl_pick_t (T rfl) (T rfl)) (y_ (yl_assign (T rfl)) (jl_nil (q_then (j_ret (q_ret rfl (.tmp (at_f rfl) .nil) ?_)))) rfl) rfl))
    exact ⟨_, ⟨⟨_, rfl⟩, rfl⟩, sbt⟩
  · refine n_ft (n_ft (y_ (yl_pick_f (T rfl) ev_c) (y_ (yl_assign (T rfl)) (jl_nil (q_then (j_ret (q_ret rfl (.tmp (at_f rfl) .nil) ?_)))) rfl) rfl) rfl rfl rfl rfl) rfl rfl rfl rfl
    exact ⟨_, ⟨⟨_, rfl⟩, rfl⟩, sbt⟩
theorem dg10_s {w0 : World} {H : List (Nat × Obj)} (c : Int) :
    FSpec Tryz.prog w0 192 #[.int .u8 c] H (fun v H' => (∃ t : Bool, v = .bool t) ∧ H' = H) := by
  refine fn_spec Tryz.func192 rfl Tryz.ntmps192 rfl (j_seq (j_region (y_ (yl_assign ev_c) (jl_nil (q_then (j_seq (j_region (y_ (yl_move (T rfl)) (y_ (yl_geq (T rfl) ev_c) (y_ (yl_move (T rfl)) ?_ rfl) rfl) rfl))))) rfl)))
  first | refine jl_if_d (s := 5) (at_f rfl) (fun c5 => ?_) (fun c5 => ?_) | refine jl_if (s := 5) (at_f rfl) (fun c5 => ?_) (fun c5 => ?_)
  · refine jl_y (yl_move (T rfl)) rfl (gd_y rfl rfl (at_f rfl)) (jl_y (yl_leq (T rfl) ev_c) rfl (gd_y rfl rfl (at_f rfl)) (y_ (yl_pick_t (T rfl) (T rfl)) (y_ (yl_assign (T rfl)) (jl_nil (q_then (j_ret (q_ret rfl (.tmp (at_f rfl) .nil) ?_)))) rfl) rfl))
    exact ⟨_, ⟨⟨_, rfl⟩, rfl⟩, sbt⟩
  · refine n_ft (n_ft (y_ (yl_pick_f (T rfl) ev_c) (y_ (yl_assign (T rfl)) (jl_nil (q_then (j_ret (q_ret rfl (.tmp (at_f rfl) .nil) ?_)))) rfl) rfl) rfl rfl rfl rfl) rfl rfl rfl rfl
    exact ⟨_, ⟨⟨_, rfl⟩, rfl⟩, sbt⟩
theorem wb10_s {w0 : World} {H : List (Nat × Obj)} (c : Int) :
    FSpec Tryz.prog w0 188 #[.int .u8 c] H (fun v H' => (∃ t : Bool, v = .bool t) ∧ H' = H) := by
  refine fn_spec Tryz.func188 rfl Tryz.ntmps188 rfl (j_seq (j_region (y_ (yl_assign ev_c) (jl_nil (q_then (j_seq (j_region (y_ (yl_move (T rfl)) (e_ (eff_call (.cons (T rfl) .nil) Tryz.call176 (ch10_s _)) ?_ rfl) rfl))))) rfl)))
  rintro _ _ ⟨⟨t1, rfl⟩, rfl⟩
  refine y_ (yl_assign (T rfl)) (jl_nil (q_then (j_seq (j_region (y_ (yl_move (T rfl)) (e_ (eff_call (.cons (T rfl) .nil) Tryz.call192 (dg10_s _)) ?_ rfl) rfl))))) rfl
  rintro _ _ ⟨⟨t2, rfl⟩, rfl⟩
  refine y_ (yl_assign (T rfl)) (jl_nil (q_then (j_seq (j_region (y_ (yl_move (T rfl)) (y_ (yl_move (T rfl)) ?_ rfl) rfl))))) rfl
  first | refine jl_if_d (s := 10) (at_f rfl) (fun c10 => ?_) (fun c10 => ?_) | refine jl_if (s := 10) (at_f rfl) (fun c10 => ?_) (fun c10 => ?_)
  · refine n_tf (y_ (yl_pick_t (T rfl) ev_c) (y_ (yl_move (T rfl)) (n_tf (n_tf (y_ (yl_pick_t (T rfl) ev_c) (y_ (yl_assign (T rfl)) (jl_nil (q_then (j_ret (q_ret rfl (.tmp (at_f rfl) .nil) ?_)))) rfl) rfl) rfl rfl rfl rfl) rfl rfl rfl rfl) rfl) rfl) rfl rfl rfl rfl
    exact ⟨_, ⟨⟨_, rfl⟩, rfl⟩, sbt⟩
  · refine jl_y (yl_move (T rfl)) rfl (gd_y rfl rfl (at_f rfl)) (y_ (yl_pick_f (T rfl) (T rfl)) (y_ (yl_move (T rfl)) ?_ rfl) rfl)
    first | refine jl_if_d (s := 13) (at_f rfl) (fun c13 => ?_) (fun c13 => ?_) | refine jl_if (s := 13) (at_f rfl) (fun c13 => ?_) (fun c13 => ?_)
    · refine n_tf (n_tf (y_ (yl_pick_t (T rfl) ev_c) (y_ (yl_assign (T rfl)) (jl_nil (q_then (j_ret (q_ret rfl (.tmp (at_f rfl) .nil) ?_)))) rfl) rfl) rfl rfl rfl rfl) rfl rfl rfl rfl
      exact ⟨_, ⟨⟨_, rfl⟩, rfl⟩, sbt⟩
    · refine jl_y (yl_move (T rfl)) rfl (gd_y rfl rfl (at_f rfl)) (jl_y (yl_eql (T rfl) ev_c) rfl (gd_y rfl rfl (at_f rfl)) (y_ (yl_pick_f (T rfl) (T rfl)) (y_ (yl_assign (T rfl)) (jl_nil (q_then (j_ret (q_ret rfl (.tmp (at_f rfl) .nil) ?_)))) rfl) rfl))
      exact ⟨_, ⟨⟨_, rfl⟩, rfl⟩, sbt⟩
theorem run10_s {w0 : World} {H : List (Nat × Obj)} (s : ByteArray) (hs : s.size ≤ 9223372036854775807) :
    FSpec Tryz.prog w0 178 #[.string s] H (fun v H' => (∃ t : Int, v = .int .i64 t) ∧ H' = H) := by
  refine fn_spec Tryz.func178 rfl Tryz.ntmps178 rfl (j_seq (j_region (y_ (yl_assign ev_c) (jl_nil (q_then (j_seq (j_region (y_ (yl_assign ev_c) (jl_nil (q_then (j_seq (j_block ?_)))) rfl))))) rfl)))
  refine j_loopH (X := Nat) (V := fun k => [(3, .int .i64 (k : Nat))]) (C := [(0, _)]) (φ := fun k => k ≤ s.size) (μ := fun k => s.size - k) (x0 := 0) ?_ ⟨at_f rfl, trivial⟩ ⟨(by first | exact at_f rfl | (refine at_e (at_f rfl) (vint ?_); omega) | (refine at_e (at_f rfl) ?_; simp; done)), trivial⟩ ?_
  · exact Nat.zero_le _
  rintro k hk
  refine j_seq (j_seq (j_region (y_ (yl_move (T rfl)) (y_ (yl_move (T rfl)) (y_ (yl_len_s (T rfl) Tryz.runUnderlying9) (y_ (yl_lss (T rfl) (T rfl)) (jl_nil (q_then ?_)) rfl) rfl) rfl) rfl)))
  first | refine j_cond_d (at_f rfl) (fun c8 => ?_) (fun c8 => ?_) | refine j_cond (at_f rfl) (fun c8 => ?_) (fun c8 => ?_)
  · refine j_skip (q_then (j_block (j_seq (j_region (y_ (yl_move (T rfl)) (y_ (yl_move (T rfl)) (y_ (yl_sidx (T rfl) (T rfl) Tryz.runUnderlying9 (by omega)) ?_ rfl) rfl) rfl)))))
    refine e_ (eff_call (.cons (T rfl) .nil) Tryz.call188 (wb10_s _)) ?_ rfl
    rintro _ _ ⟨⟨t, rfl⟩, rfl⟩
    refine y_ (yl_assign (T rfl)) (jl_nil (q_then (j_seq (j_seq (j_region (y_ (yl_move (T rfl)) ?_ rfl)))))) rfl
    first | refine jl_y (yl_not_d (T rfl)) rfl gd_n ?_ | refine jl_y (yl_not (T rfl)) rfl gd_n ?_
    refine jl_nil (q_then ?_)
    first | refine j_cond_d (at_f rfl) (fun c14 => ?_) (fun c14 => ?_) | refine j_cond (at_f rfl) (fun c14 => ?_) (fun c14 => ?_)
    · refine j_exit (q_then_exit (q_block_miss rfl (q_loop_exit (q_block_hit (q_then (j_seq (j_region (y_ (yl_move (T rfl)) (y_ (yl_assign (T rfl)) (jl_nil (q_then (j_ret (q_ret rfl (.tmp (at_f rfl) .nil) ?_)))) rfl) rfl))))))))
      exact ⟨_, ⟨⟨_, rfl⟩, rfl⟩, sbt⟩
    · refine j_skip (q_then (j_region (y_ (yl_move (T rfl)) (y_ (yl_add (T rfl) ev_c (by omega)) ?_ rfl) rfl)))
      refine y_ (yl_assign (T rfl)) (jl_nil (q_block ?_)) rfl
      refine q_loopC (k + 1) ?_ ?_ ⟨(by first | exact at_f rfl | (refine at_e (at_f rfl) (vint ?_); omega) | (refine at_e (at_f rfl) ?_; simp; done)), trivial⟩ ⟨at_f rfl, trivial⟩ ?_
      · show k + 1 ≤ _; omega
      · first | omega | (simp only []; omega)
      · exact sbt
  · refine j_exit (q_then_exit (q_loop_exit (q_block_hit (q_then (j_seq (j_region (y_ (yl_move (T rfl)) (y_ (yl_assign (T rfl)) (jl_nil (q_then (j_ret (q_ret rfl (.tmp (at_f rfl) .nil) ?_)))) rfl) rfl)))))))
    exact ⟨_, ⟨⟨_, rfl⟩, rfl⟩, sbt⟩
def wordsL : List ByteArray := [⟨#[97,110,100]⟩, ⟨#[97,110,121]⟩, ⟨#[97,116]⟩, ⟨#[98,97,99,107]⟩, ⟨#[98,111,120]⟩, ⟨#[98,117,114,115,116]⟩, ⟨#[98,121]⟩, ⟨#[99,97,112,97,99,105,116,121]⟩, ⟨#[99,101,105,108,105,110,103]⟩, ⟨#[99,104,101,99,107]⟩, ⟨#[99,111,110,116,114,97,99,116]⟩, ⟨#[99,111,117,110,116]⟩, ⟨#[100,101,109,97,110,100]⟩, ⟨#[100,114,111,112]⟩, ⟨#[101,97,99,104]⟩, ⟨#[101,100,103,101]⟩, ⟨#[101,110,116,114,105,101,115]⟩, ⟨#[102,97,108,115,101]⟩, ⟨#[102,105,101,108,100]⟩, ⟨#[102,108,111,111,114]⟩, ⟨#[102,114,111,109]⟩, ⟨#[105,100]⟩, ⟨#[105,110]⟩, ⟨#[105,110,110,101,114]⟩, ⟨#[105,110,116,111]⟩, ⟨#[108,105,110,107]⟩, ⟨#[110,101,116,119,111,114,107]⟩, ⟨#[110,111,100,101]⟩, ⟨#[110,111,116]⟩, ⟨#[111,112,101,110]⟩, ⟨#[111,114]⟩, ⟨#[112,97,116,104]⟩, ⟨#[112,111,114,116]⟩, ⟨#[112,114,105,99,101]⟩, ⟨#[114,111,117,116,101]⟩, ⟨#[114,117,108,101,115]⟩, ⟨#[115,116,97,103,101]⟩, ⟨#[116,97,107,101]⟩, ⟨#[116,101,110,97,110,116]⟩, ⟨#[116,104,101,110]⟩, ⟨#[116,105,109,101]⟩, ⟨#[116,111]⟩, ⟨#[116,111,107,101,110]⟩, ⟨#[116,114,97,110,115,108,97,116,101]⟩, ⟨#[116,114,117,101]⟩, ⟨#[118,105,97]⟩, ⟨#[119,105,100,116,104]⟩, ⟨#[119,105,114,101]⟩, ⟨#[119,105,116,104,105,110]⟩]
theorem words_s {w0 : World} {H : List (Nat × Obj)}  :
    FSpec Tryz.prog w0 187 #[] H (fun v H' => (∃ n : Nat, v = .slice (some ⟨n, 0, none⟩) 49 49 ∧ H' = (n, Cl (wordsL.flatMap encS) 9) :: H)) := by
  refine fn_spec Tryz.func187 rfl Tryz.ntmps187 rfl (j_seq (j_region (y_ (yl_assign ev_c) (jl_nil (q_then (j_seq (j_region (e_ (eff_bslice (.cons ev_c (.cons ev_c (.cons ev_c (.cons ev_c (.cons ev_c (.cons ev_c (.cons ev_c (.cons ev_c (.cons ev_c (.cons ev_c (.cons ev_c (.cons ev_c (.cons ev_c (.cons ev_c (.cons ev_c (.cons ev_c (.cons ev_c (.cons ev_c (.cons ev_c (.cons ev_c (.cons ev_c (.cons ev_c (.cons ev_c (.cons ev_c (.cons ev_c (.cons ev_c (.cons ev_c (.cons ev_c (.cons ev_c (.cons ev_c (.cons ev_c (.cons ev_c (.cons ev_c (.cons ev_c (.cons ev_c (.cons ev_c (.cons ev_c (.cons ev_c (.cons ev_c (.cons ev_c (.cons ev_c (.cons ev_c (.cons ev_c (.cons ev_c (.cons ev_c (.cons ev_c (.cons ev_c (.cons ev_c (.cons ev_c .nil))))))))))))))))))))))))))))))))))))))))))))))))) (bs25_49_0_1_2_3_4_5_6_7_8_9_10_11_12_13_14_15_16_17_18_19_20_21_22_23_24_25_26_27_28_29_30_31_32_33_34_35_36_37_38_39_40_41_42_43_44_45_46_47_48 _ _ _ _ _ _ _ _ _ _ _ _ _ _ _ _ _ _ _ _ _ _ _ _ _ _ _ _ _ _ _ _ _ _ _ _ _ _ _ _ _ _ _ _ _ _ _ _ _)) ?_ rfl))))) rfl)))
  rintro _ _ ⟨n1, rfl, rfl⟩
  refine y_ (yl_assign (T rfl)) (jl_nil (q_then (j_ret (q_ret rfl (.tmp (at_f rfl) .nil) ?_)))) rfl
  exact ⟨_, ⟨_, rfl, rfl⟩, sbt⟩
theorem isw_s {w0 : World} {H : List (Nat × Obj)} (s : ByteArray) :
    FSpec Tryz.prog w0 177 #[.string s] H (fun v H' => (∃ t : Bool, v = .bool t) ∧ H' = H) := by
  refine fn_spec Tryz.func177 rfl Tryz.ntmps177 rfl (j_seq (j_region (y_ (yl_assign ev_c) (jl_nil (q_then (j_seq (j_region (e_ (eff_call .nil Tryz.call187 (words_s)) ?_ rfl))))) rfl)))
  rintro _ _ ⟨n5, rfl, rfl⟩
  refine y_ (yl_assign (T rfl)) (jl_nil (q_then (j_seq (j_seq (j_region (y_ (yl_assign ev_c) (jl_nil (q_then (j_block ?_))) rfl)))))) rfl
  refine j_loopH (X := Nat) (V := fun k => [(4, .int .i64 (k : Nat))]) (C := [(0, _), (3, _)]) (φ := fun k => k ≤ 49) (μ := fun k => 49 - k) (x0 := 0) ?_ ⟨at_f rfl, at_f rfl, trivial⟩ ⟨(by first | exact at_f rfl | (refine at_e (at_f rfl) (vint ?_); omega) | (refine at_e (at_f rfl) ?_; simp; done)), trivial⟩ ?_
  · exact Nat.zero_le _
  rintro k hk
  refine j_seq (j_seq (j_region (y_ (yl_move (T rfl)) (y_ (yl_move (T rfl)) (y_ (yl_len (T rfl) Tryz.runUnderlying25) (y_ (yl_lss (T rfl) (T rfl)) (jl_nil (q_then ?_)) rfl) rfl) rfl) rfl)))
  first | refine j_cond_d (at_f rfl) (fun c9 => ?_) (fun c9 => ?_) | refine j_cond (at_f rfl) (fun c9 => ?_) (fun c9 => ?_)
  · refine j_skip (q_then (j_seq (j_block (j_seq (j_region (y_ (yl_move (T rfl)) (y_ (yl_move (T rfl)) (y_ (yl_ixQ (T rfl) (T rfl) Tryz.runUnderlying25 Tryz.sizeOf9 (by omega) (by first | exact rfl | exact (by rfl))) ?_ rfl) rfl) rfl))))))
    refine y_ (yl_load (T rfl) Tryz.isAgg9 (by first | exact c_o | exact cell1 ((arr_blk (l := wordsL) (sz := 1) (enc := encS) (fun _ => rfl) rfl (by repeat (first | exact fnd_h | refine fnd_t ?_ | refine fnd_a ?_))).cs (i := k) (show k < 49 by omega)))) ?_ rfl
    refine y_ (yl_move (T rfl)) (y_ (yl_eqSD (T rfl) (T rfl)) (jl_nil (q_then ?_)) rfl) rfl
    first | refine j_cond_d (at_f rfl) (fun c17 => ?_) (fun c17 => ?_) | refine j_cond (at_f rfl) (fun c17 => ?_) (fun c17 => ?_)
    · refine j_seq (j_region (y_ (yl_assign ev_c) (jl_nil (q_then (j_ret (q_block_ret (q_then_ret (q_loop_ret (q_block_ret (q_then_ret (q_ret rfl (.tmp (at_f rfl) .nil) ?_))))))))) rfl))
      exact ⟨_, ⟨⟨_, rfl⟩, rfl⟩, sbt⟩
    · refine j_skip (q_block (q_then (j_region (y_ (yl_move (T rfl)) (y_ (yl_add (T rfl) ev_c (by omega)) ?_ rfl) rfl))))
      refine y_ (yl_assign (T rfl)) (jl_nil ?_) rfl
      refine q_loopC (k + 1) ?_ ?_ ⟨(by first | exact at_f rfl | (refine at_e (at_f rfl) (vint ?_); omega) | (refine at_e (at_f rfl) ?_; simp; done)), trivial⟩ ⟨at_f rfl, at_f rfl, trivial⟩ ?_
      · show k + 1 ≤ _; omega
      · first | omega | (simp only []; omega)
      · exact sbt
  · refine j_exit (q_then_exit (q_loop_exit (q_block_hit (q_then (j_seq (j_region (y_ (yl_assign ev_c) (jl_nil (q_then (j_ret (q_ret rfl (.tmp (at_f rfl) .nil) ?_)))) rfl)))))))
    exact ⟨_, ⟨⟨_, rfl⟩, rfl⟩, sbt⟩
theorem name10_s {w0 : World} {H : List (Nat × Obj)} (s : ByteArray) (hs : s.size ≤ 9223372036854775807) :
    FSpec Tryz.prog w0 158 #[.string s] H (fun v H' => (∃ t : Bool, v = .bool t ∧ (t = true → s.size ≠ 0)) ∧ H' = H) := by
  refine fn_spec Tryz.func158 rfl Tryz.ntmps158 rfl (j_seq (j_region (y_ (yl_assign ev_c) (jl_nil (q_then (j_seq (j_seq (j_region (y_ (yl_move (T rfl)) (y_ (yl_len_s (T rfl) Tryz.runUnderlying9) (y_ (yl_eql (T rfl) ev_c) (y_ (yl_move (T rfl)) ?_ rfl) rfl) rfl) rfl)))))) rfl)))
  first | refine jl_if_d (s := 8) (at_f rfl) (fun c8 => ?_) (fun c8 => ?_) | refine jl_if (s := 8) (at_f rfl) (fun c8 => ?_) (fun c8 => ?_)
  · refine n_tf (n_tf (n_tf (y_ (yl_pick_t (T rfl) ev_c) (jl_nil (q_then ?_)) rfl) rfl rfl rfl rfl) rfl rfl rfl rfl) rfl rfl rfl rfl
    first | refine j_cond_t (at_f rfl) ?_ | refine j_cond_t (at_e (at_f rfl) (vbool (decide_eq_true c12))) ?_
    refine j_seq (j_region (y_ (yl_assign ev_c) (jl_nil (q_then (j_ret (q_then_ret (q_ret rfl (.tmp (at_f rfl) .nil) ?_))))) rfl))
    exact ⟨_, ⟨⟨_, rfl, fun h => (by first | omega | cases h)⟩, rfl⟩, sbt⟩
  · refine jl_y (yl_move (T rfl)) rfl (gd_y rfl rfl (at_f rfl)) (jl_y (yl_len_s (T rfl) Tryz.runUnderlying9) rfl (gd_y rfl rfl (at_f rfl)) (jl_y (yl_gtr (T rfl) ev_c) rfl (gd_y rfl rfl (at_f rfl)) (y_ (yl_pick_f (T rfl) (T rfl)) (jl_nil (q_then ?_)) rfl)))
    first | refine j_cond_d (at_f rfl) (fun c12 => ?_) (fun c12 => ?_) | refine j_cond (at_f rfl) (fun c12 => ?_) (fun c12 => ?_)
    · refine j_seq (j_region (y_ (yl_assign ev_c) (jl_nil (q_then (j_ret (q_then_ret (q_ret rfl (.tmp (at_f rfl) .nil) ?_))))) rfl))
      exact ⟨_, ⟨⟨_, rfl, fun h => (by first | omega | cases h)⟩, rfl⟩, sbt⟩
    · refine j_skip (q_then (j_seq (j_region (y_ (yl_move (T rfl)) (y_ (yl_sidx (T rfl) ev_c Tryz.runUnderlying9 (by show 0 < s.size; omega)) ?_ rfl) rfl))))
      refine e_ (eff_call (.cons (T rfl) .nil) Tryz.call176 (ch10_s _)) ?_ rfl
      rintro _ _ ⟨⟨t1, rfl⟩, rfl⟩
      refine y_ (yl_assign (T rfl)) (jl_nil (q_then (j_seq (j_region (y_ (yl_move (T rfl)) (e_ (eff_call (.cons (T rfl) .nil) Tryz.call177 (isw_s s)) ?_ rfl) rfl))))) rfl
      rintro _ _ ⟨⟨t2, rfl⟩, rfl⟩
      refine y_ (yl_assign (T rfl)) (jl_nil (q_then (j_seq (j_region (y_ (yl_move (T rfl)) (y_ (yl_move (T rfl)) ?_ rfl) rfl))))) rfl
      first | refine jl_if_d (s := 19) (at_f rfl) (fun c19 => ?_) (fun c19 => ?_) | refine jl_if (s := 19) (at_f rfl) (fun c19 => ?_) (fun c19 => ?_)
      · refine jl_y (yl_move (T rfl)) rfl (gd_y rfl rfl (at_f rfl)) (jl_e (eff_call (.cons (T rfl) .nil) Tryz.call178 (run10_s s hs)) rfl (gd_y rfl rfl (at_f rfl)) ?_)
        rintro _ _ ⟨⟨t3, rfl⟩, rfl⟩
        refine jl_y (yl_move (T rfl)) rfl (gd_y rfl rfl (at_f rfl)) (jl_y (yl_len_s (T rfl) Tryz.runUnderlying9) rfl (gd_y rfl rfl (at_f rfl)) (jl_y (yl_eql (T rfl) (T rfl)) rfl (gd_y rfl rfl (at_f rfl)) (y_ (yl_pick_t (T rfl) (T rfl)) (y_ (yl_move (T rfl)) ?_ rfl) rfl)))
        first | refine jl_if_d (s := 26) (at_f rfl) (fun c26 => ?_) (fun c26 => ?_) | refine jl_if (s := 26) (at_f rfl) (fun c26 => ?_) (fun c26 => ?_)
        · refine jl_y (yl_move (T rfl)) rfl (gd_y rfl rfl (at_f rfl)) ?_
          first | refine jl_y (yl_not_d (T rfl)) rfl (gd_y rfl rfl (at_f rfl)) ?_ | refine jl_y (yl_not (T rfl)) rfl (gd_y rfl rfl (at_f rfl)) ?_
          refine y_ (yl_pick_t (T rfl) (T rfl)) (y_ (yl_assign (T rfl)) (jl_nil (q_then (j_keep [(2, _)] ⟨at_f rfl, trivial⟩ (j_ret (q_ret rfl (.tmp (at_f rfl) .nil) ?_))))) rfl) rfl
          exact ⟨_, ⟨⟨_, rfl, fun h => (by first | omega | cases h)⟩, rfl⟩, sbt⟩
        · refine n_ft (n_ft (y_ (yl_pick_f (T rfl) ev_c) (y_ (yl_assign (T rfl)) (jl_nil (q_then (j_keep [(2, _)] ⟨at_f rfl, trivial⟩ (j_ret (q_ret rfl (.tmp (at_f rfl) .nil) ?_))))) rfl) rfl) rfl rfl rfl rfl) rfl rfl rfl rfl
          exact ⟨_, ⟨⟨_, rfl, fun h => (by first | omega | cases h)⟩, rfl⟩, sbt⟩
      · refine n_ft (n_ft (n_ft (n_ft (n_ft (y_ (yl_pick_f (T rfl) ev_c) (y_ (yl_move (T rfl)) (n_ft (n_ft (y_ (yl_pick_f (T rfl) ev_c) (y_ (yl_assign (T rfl)) (jl_nil (q_then (j_keep [(2, _)] ⟨at_f rfl, trivial⟩ (j_ret (q_ret rfl (.tmp (at_f rfl) .nil) ?_))))) rfl) rfl) rfl rfl rfl rfl) rfl rfl rfl rfl) rfl) rfl) rfl rfl rfl rfl) rfl rfl rfl rfl) rfl rfl rfl rfl) rfl rfl rfl rfl) rfl rfl rfl rfl
        exact ⟨_, ⟨⟨_, rfl, fun h => (by first | omega | cases h)⟩, rfl⟩, sbt⟩
theorem plain_s {w0 : World} {H : List (Nat × Obj)} (s : ByteArray) (hs : s.size ≤ 9223372036854775807) :
    FSpec Tryz.prog w0 137 #[.string s] H (fun v H' => (∃ t : Bool, v = .bool t ∧ (t = true → s.size ≠ 0)) ∧ H' = H) := by
  refine fn_spec Tryz.func137 rfl Tryz.ntmps137 rfl (j_seq (j_region (y_ (yl_assign ev_c) (jl_nil (q_then (j_seq (j_region (y_ (yl_move (T rfl)) (e_ (eff_call (.cons (T rfl) .nil) Tryz.call158 (name10_s s hs)) ?_ rfl) rfl))))) rfl)))
  rintro _ _ ⟨⟨t1, rfl, h1⟩, rfl⟩
  refine y_ (yl_assign (T rfl)) (jl_nil (q_then (j_ret (q_ret rfl (.tmp (at_f rfl) .nil) ?_)))) rfl
  exact ⟨_, ⟨⟨_, rfl, h1⟩, rfl⟩, sbt⟩
end Go.Proofs.YtkdolgnpkjihpaaGreatDoor
namespace Go.Proofs.YtkdolgnpkjihpaaGreatDoor
open Go.RowKit
set_option linter.unusedVariables false
set_option linter.unusedSimpArgs false
theorem bd150_0_1 (a0 : Int) (a1 : Int) (w : World) : (Instr.build 150 #[(0, .int .i64 a0), (1, .int .i64 a1)]).run Tryz.prog w = .ok (.agg #[.int .i64 a0, .int .i64 a1]) w := by kernel_rfl
theorem fa150_0 (b o : Nat) (w : World) : (Instr.fieldAt 150 (.pointer (some ⟨b, o, none⟩)) 0).run Tryz.prog w = .ok (.pointer (some ⟨b, o, none⟩)) w := by kernel_rfl
theorem fa150_1 (b o : Nat) (w : World) : (Instr.fieldAt 150 (.pointer (some ⟨b, o, none⟩)) 1).run Tryz.prog w = .ok (.pointer (some ⟨b, o + 1, none⟩)) w := by kernel_rfl
mutual
def Rxm.sz : Rxm → Nat
  | .mk _ _ _ _ xs => 1 + szL xs
def szL : List Rxm → Nat
  | [] => 0
  | x :: xs => x.sz + szL xs
end
theorem sz_eq (m : Rxm) : m.sz = 1 + szL m.args := by cases m; rfl
theorem szL_app : ∀ (a b : List Rxm), szL (a ++ b) = szL a + szL b
  | [], b => by simp [szL]
  | x :: a, b => by simp only [List.cons_append, szL, szL_app a b]; omega
theorem szL_take {l : List Rxm} {i : Nat} (h : i < l.length) : szL (l.take (i + 1)) = szL (l.take i) + (gd l i).sz := by
  rw [take_gd h, szL_app]; simp [szL]
theorem szL_le : ∀ (l : List Rxm) (i : Nat), szL (l.take i) ≤ szL l
  | [], i => by simp [szL]
  | x :: l, 0 => by simp [szL]
  | x :: l, i + 1 => by simp only [List.take_succ_cons, szL]; have := szL_le l i; omega
theorem szL_len : ∀ l : List Rxm, l.length ≤ szL l
  | [] => Nat.le_refl _
  | x :: l => by simp only [List.length_cons, szL]; have := szL_len l; have := sz_eq x; omega
theorem sz_mem {m a : Rxm} (h : a ∈ m.args) : a.sz < m.sz := by
  rw [sz_eq m]
  have : ∀ l : List Rxm, a ∈ l → a.sz ≤ szL l := fun l => by
    induction l with
    | nil => intro h; cases h
    | cons x l ih =>
      intro h
      rcases List.mem_cons.1 h with rfl | h
      · simp only [szL]; omega
      · have := ih h; simp only [szL]; omega
  have := this _ h; omega
theorem RxM.arr {w0 : World} {H : List (Nat × Obj)} {m : Rxm} (h : RxM w0 H m) : Arr w0 H m.q 3 encRx m.args := by cases h; assumption
theorem RxM.arg {w0 : World} {H : List (Nat × Obj)} {m a : Rxm} (h : RxM w0 H m) (ha : a ∈ m.args) : RxM w0 H a := by cases h; rename_i h1 h2 h3 h4; exact h2 _ ha
theorem RxM.nl {w0 : World} {H : List (Nat × Obj)} {m : Rxm} (h : RxM w0 H m) : m.node.size ≤ 9223372036854775807 := by cases h; assumption
theorem RxM.al {w0 : World} {H : List (Nat × Obj)} {m : Rxm} (h : RxM w0 H m) : m.args.length ≤ 9223372036854775807 := by cases h; assumption
theorem rx_ind {Q : Rxm → Prop} (h : ∀ m, (∀ a ∈ m.args, Q a) → Q m) : ∀ m, Q m := fun m => by
  have : ∀ n (m : Rxm), m.sz ≤ n → Q m := fun n => by
    induction n with
    | zero => intro m hm; rw [sz_eq] at hm; omega
    | succ n ih => intro m hm; exact h m fun a ha => ih a (by have := sz_mem ha; omega)
  exact this _ m (Nat.le_refl _)
def cntS (w0 : World) (m : Rxm) : Prop := ∀ H : List (Nat × Obj), RxM w0 H m → m.sz ≤ 1048576 → FSpec Tryz.prog w0 41 #[.agg (encRx m).toArray] H (Still (.int .i64 (m.sz : Nat)) H)
theorem cnt_step {w0 : World} {H : List (Nat × Obj)} (m : Rxm) (hM : RxM w0 H m) (hz : m.sz ≤ 1048576) (ih : ∀ a ∈ m.args, cntS w0 a) :
    FSpec Tryz.prog w0 41 #[.agg (encRx m).toArray] H (Still (.int .i64 (m.sz : Nat)) H) := by
  refine fn_spec Tryz.func41 rfl Tryz.ntmps41 rfl ?_
  have hse := sz_eq m
  have hln := szL_len m.args
  have hA := hM.arr
  refine j_seq (j_region (e_ (eff_box (T rfl) cs_) ?_ rfl))
  rintro _ _ ⟨n1, rfl, rfl⟩
  refine y_ (yl_assign ev_c) (jl_nil (q_then (j_seq (j_region (y_ (yl_assign ev_c) (jl_nil (q_then (j_seq (j_seq (j_region (y_ (yl_assign ev_c) (jl_nil (q_then (j_block ?_))) rfl)))))) rfl))))) rfl
  refine j_loopH (X := Nat) (V := fun i => [(4, .int .i64 (i : Nat)), (3, .int .i64 (1 + szL (m.args.take i) : Nat))]) (C := [(1, _)]) (φ := fun i => i ≤ m.args.length) (μ := fun i => m.args.length - i) (x0 := 0) ?_ ⟨at_f rfl, trivial⟩ ⟨(by first | exact at_f rfl | (refine at_e (at_f rfl) (vint ?_); omega) | (refine at_e (at_f rfl) ?_; simp; done)), (by first | exact at_f rfl | (refine at_e (at_f rfl) (vint ?_); omega) | (refine at_e (at_f rfl) ?_; simp; done)), trivial⟩ ?_
  · exact Nat.zero_le _
  rintro i hi
  have htk : i < m.args.length → szL (m.args.take (i + 1)) = szL (m.args.take i) + (gd m.args i).sz := fun h => szL_take h
  have htl := szL_le m.args (i + 1)
  have htl0 := szL_le m.args i
  refine j_seq (j_seq (j_region (y_ (yl_move (T rfl)) (y_ (yl_fa (T rfl) fa24_2) (y_ (yl_load (T rfl) Tryz.isAgg22 (by first | exact c_o)) ?_ rfl) rfl) rfl)))
  refine y_ (yl_len (T rfl) Tryz.runUnderlying22) (y_ (yl_lss (T rfl) (T rfl)) (jl_nil (q_then ?_)) rfl) rfl
  first | refine j_cond_d (at_f rfl) (fun c9 => ?_) (fun c9 => ?_) | refine j_cond (at_f rfl) (fun c9 => ?_) (fun c9 => ?_)
  · refine j_skip (q_then (j_seq (j_block (j_region (y_ (yl_move (T rfl)) (y_ (yl_fa (T rfl) fa24_2) (y_ (yl_load (T rfl) Tryz.isAgg22 (by first | exact c_o)) ?_ rfl) rfl) rfl)))))
    refine y_ (yl_move (T rfl)) (y_ (yl_ixQ (T rfl) (T rfl) Tryz.runUnderlying22 Tryz.sizeOf24 (by omega) (by first | exact rfl | exact hA.b (i := i) (by omega))) ?_ rfl) rfl
    refine y_ (yl_loadA (T rfl) Tryz.isAgg24 Tryz.sizeOf24 rfl (by first | exact (hA.mono sbt).cs (i := i) (by omega) | exact cs_o)) ?_ rfl
    refine y_ (yl_call (.cons (T rfl) .nil) Tryz.call41 (fun H' hs => ih _ (gd_mem (i := i) (by omega)) _ ((hM.arg (gd_mem (i := i) (by omega))).mono (List.Sublist.trans sbt hs)) (by omega))) ?_ rfl
    refine y_ (yl_add (T rfl) (T rfl) (by omega)) ?_ rfl
    refine y_ (yl_assign (T rfl)) (jl_nil (q_block (q_then (j_region (y_ (yl_move (T rfl)) (y_ (yl_add (T rfl) ev_c (by omega)) ?_ rfl) rfl))))) rfl
    refine y_ (yl_assign (T rfl)) (jl_nil ?_) rfl
    refine q_loopC (i + 1) ?_ ?_ ⟨(by first | exact at_f rfl | (refine at_e (at_f rfl) (vint ?_); omega) | (refine at_e (at_f rfl) ?_; simp; done)), (by first | exact at_f rfl | (refine at_e (at_f rfl) (vint ?_); omega) | (refine at_e (at_f rfl) ?_; simp; done)), trivial⟩ ⟨at_f rfl, trivial⟩ ?_
    · show i + 1 ≤ _; omega
    · first | omega | (simp only []; omega)
    · exact sbt
  · refine j_exit (q_then_exit (q_loop_exit (q_block_hit (q_then (j_seq (j_region (y_ (yl_move (T rfl)) (y_ (yl_assign (T rfl)) (jl_nil (q_then (j_ret (q_ret rfl (.tmp (at_f rfl) .nil) ?_)))) rfl) rfl)))))))
    exact ⟨_, ⟨vint (by rw [List.take_of_length_le (by omega)]; omega), rfl⟩, sbt⟩
theorem cnt_s {w0 : World} {H : List (Nat × Obj)} (m : Rxm) (hM : RxM w0 H m) (hz : m.sz ≤ 1048576) : FSpec Tryz.prog w0 41 #[.agg (encRx m).toArray] H (Still (.int .i64 (m.sz : Nat)) H) :=
  rx_ind (Q := cntS w0) (fun m ih H hM hz => cnt_step m hM hz ih) m H hM hz
def strS (w0 : World) (m : Rxm) : Prop := ∀ H : List (Nat × Obj), RxM w0 H m → m.sz ≤ 1048576 → FSpec Tryz.prog w0 42 #[.agg (encRx m).toArray] H (fun v H' => (∃ t : Nat, v = .int .i64 (t : Nat) ∧ t ≤ m.sz) ∧ H' = H)
theorem str_step {w0 : World} {H : List (Nat × Obj)} (m : Rxm) (hM : RxM w0 H m) (hz : m.sz ≤ 1048576) (ih : ∀ a ∈ m.args, strS w0 a) :
    FSpec Tryz.prog w0 42 #[.agg (encRx m).toArray] H (fun v H' => (∃ t : Nat, v = .int .i64 (t : Nat) ∧ t ≤ m.sz) ∧ H' = H) := by
  refine fn_spec Tryz.func42 rfl Tryz.ntmps42 rfl ?_
  have hse := sz_eq m
  have hln := szL_len m.args
  have hA := hM.arr
  refine j_seq (j_region (e_ (eff_box (T rfl) cs_) ?_ rfl))
  rintro _ _ ⟨n1, rfl, rfl⟩
  refine y_ (yl_assign ev_c) (jl_nil (q_then (j_seq (j_region (y_ (yl_assign ev_c) (jl_nil (q_then (j_seq (j_seq (j_region (y_ (yl_assign ev_c) (jl_nil (q_then (j_block ?_))) rfl)))))) rfl))))) rfl
  refine j_loopH (X := Nat × Nat) (V := fun ⟨i, r⟩ => [(4, .int .i64 (i : Nat)), (3, .int .i64 (r : Nat))]) (C := [(1, _)]) (φ := fun ⟨i, r⟩ => i ≤ m.args.length ∧ r ≤ szL m.args) (μ := fun ⟨i, r⟩ => m.args.length - i) (x0 := (0, 0)) ?_ ⟨at_f rfl, trivial⟩ ⟨(by first | exact at_f rfl | (refine at_e (at_f rfl) (vint ?_); omega) | (refine at_e (at_f rfl) ?_; simp; done)), (by first | exact at_f rfl | (refine at_e (at_f rfl) (vint ?_); omega) | (refine at_e (at_f rfl) ?_; simp; done)), trivial⟩ ?_
  · exact ⟨Nat.zero_le _, Nat.zero_le _⟩
  rintro ⟨i, r⟩ ⟨hi, hr⟩
  have htk : i < m.args.length → szL (m.args.take (i + 1)) = szL (m.args.take i) + (gd m.args i).sz := fun h => szL_take h
  have htl := szL_le m.args (i + 1)
  have htl0 := szL_le m.args i
  refine j_seq (j_seq (j_region (y_ (yl_move (T rfl)) (y_ (yl_fa (T rfl) fa24_2) (y_ (yl_load (T rfl) Tryz.isAgg22 (by first | exact c_o)) ?_ rfl) rfl) rfl)))
  refine y_ (yl_len (T rfl) Tryz.runUnderlying22) (y_ (yl_lss (T rfl) (T rfl)) (jl_nil (q_then ?_)) rfl) rfl
  first | refine j_cond_d (at_f rfl) (fun c9 => ?_) (fun c9 => ?_) | refine j_cond (at_f rfl) (fun c9 => ?_) (fun c9 => ?_)
  · refine j_skip (q_then (j_seq (j_block (j_region (y_ (yl_move (T rfl)) (y_ (yl_fa (T rfl) fa24_2) (y_ (yl_load (T rfl) Tryz.isAgg22 (by first | exact c_o)) ?_ rfl) rfl) rfl)))))
    refine y_ (yl_move (T rfl)) (y_ (yl_ixQ (T rfl) (T rfl) Tryz.runUnderlying22 Tryz.sizeOf24 (by omega) (by first | exact rfl | exact hA.b (i := i) (by omega))) ?_ rfl) rfl
    refine y_ (yl_loadA (T rfl) Tryz.isAgg24 Tryz.sizeOf24 rfl (by first | exact (hA.mono sbt).cs (i := i) (by omega) | exact cs_o)) ?_ rfl
    refine e_ (eff_call (.cons (T rfl) .nil) Tryz.call42 (ih _ (gd_mem (i := i) (by omega)) _ ((hM.arg (gd_mem (i := i) (by omega))).mono sbt) (by omega))) ?_ rfl
    rintro _ _ ⟨⟨t, rfl, ht⟩, rfl⟩
    refine y_ (yl_max (T rfl) (T rfl)) (y_ (yl_assign (T rfl)) (jl_nil (q_block (q_then (j_region (y_ (yl_move (T rfl)) (y_ (yl_add (T rfl) ev_c (by omega)) ?_ rfl) rfl))))) rfl) rfl
    refine y_ (yl_assign (T rfl)) (jl_nil ?_) rfl
    refine q_loopC ((i + 1, max r t)) ?_ ?_ ⟨(by first | exact at_f rfl | (refine at_e (at_f rfl) (vint ?_); omega) | (refine at_e (at_f rfl) ?_; simp; done)), (by first | exact at_f rfl | (refine at_e (at_f rfl) (vint ?_); omega) | (refine at_e (at_f rfl) ?_; simp; done)), trivial⟩ ⟨at_f rfl, trivial⟩ ?_
    · exact ⟨by omega, by omega⟩
    · first | omega | (simp only []; omega)
    · exact sbt
  · refine j_exit (q_then_exit (q_loop_exit (q_block_hit (q_then (j_seq (j_seq (j_region (y_ (yl_fa0 (T rfl) fa24_0) (y_ (yl_load (T rfl) Tryz.isAgg3 (by first | exact c_o)) ?_ rfl) rfl))))))))
    refine y_ (yl_eql (T rfl) ev_c) (jl_nil (q_then ?_)) rfl
    first | refine j_cond_d (at_f rfl) (fun c22 => ?_) (fun c22 => ?_) | refine j_cond (at_f rfl) (fun c22 => ?_) (fun c22 => ?_)
    · refine j_region (y_ (yl_move (T rfl)) (y_ (yl_add (T rfl) ev_c (by omega)) ?_ rfl) rfl)
      refine y_ (yl_assign (T rfl)) (jl_nil (q_then (j_seq (j_region (y_ (yl_move (T rfl)) (y_ (yl_assign (T rfl)) (jl_nil (q_then (j_ret (q_ret rfl (.tmp (at_f rfl) .nil) ?_)))) rfl) rfl))))) rfl
      exact ⟨_, ⟨⟨r + 1, rfl, by omega⟩, rfl⟩, sbt⟩
    · refine j_skip (q_then (j_seq (j_region (y_ (yl_move (T rfl)) (y_ (yl_assign (T rfl)) (jl_nil (q_then (j_ret (q_ret rfl (.tmp (at_f rfl) .nil) ?_)))) rfl) rfl))))
      exact ⟨_, ⟨⟨r, rfl, by omega⟩, rfl⟩, sbt⟩
theorem str_s {w0 : World} {H : List (Nat × Obj)} (m : Rxm) (hM : RxM w0 H m) (hz : m.sz ≤ 1048576) : FSpec Tryz.prog w0 42 #[.agg (encRx m).toArray] H (fun v H' => (∃ t : Nat, v = .int .i64 (t : Nat) ∧ t ≤ m.sz) ∧ H' = H) :=
  rx_ind (Q := strS w0) (fun m ih H hM hz => str_step m hM hz ih) m H hM hz
theorem more_s {w0 : World} {H : List (Nat × Obj)} (a b c d : Nat) (h : a + b + c + d ≤ 1000000000) :
    FSpec Tryz.prog w0 136 #[.agg #[.int .i64 (a : Nat), .int .i64 (b : Nat)], .agg #[.int .i64 (c : Nat), .int .i64 (d : Nat)]] H (Still (.agg #[.int .i64 ((a + c : Nat) : Int), .int .i64 ((max b (d + 1) : Nat) : Int)]) H) := by
  refine fn_spec Tryz.func136 rfl Tryz.ntmps136 rfl (j_seq (j_region (e_ (eff_box (T rfl) cs_) ?_ rfl)))
  rintro _ _ ⟨n2, rfl, rfl⟩
  refine e_ (eff_box (T rfl) cs_) ?_ rfl
  rintro _ _ ⟨n3, rfl, rfl⟩
  refine e_ (eff_alloc Tryz.zeroValue150 cs_) ?_ rfl
  rintro _ _ ⟨n4, rfl, rfl⟩
  refine jl_nil (q_then (j_seq (j_region (y_ (yl_fa0 (T rfl) fa150_0) (y_ (yl_load (T rfl) Tryz.isAgg3 (by first | exact c_o)) ?_ rfl) rfl))))
  refine y_ (yl_fa0 (T rfl) fa150_0) (y_ (yl_load (T rfl) Tryz.isAgg3 (by first | exact c_o)) ?_ rfl) rfl
  refine y_ (yl_add (T rfl) (T rfl) (by omega)) ?_ rfl
  refine y_ (yl_fa (T rfl) fa150_1) (y_ (yl_load (T rfl) Tryz.isAgg3 (by first | exact c_o)) ?_ rfl) rfl
  refine y_ (yl_fa (T rfl) fa150_1) (y_ (yl_load (T rfl) Tryz.isAgg3 (by first | exact c_o)) ?_ rfl) rfl
  refine y_ (yl_add (T rfl) ev_c (by omega)) ?_ rfl
  refine y_ (yl_max (T rfl) (T rfl)) (y_ (yl_build (.cons (T rfl) (.cons (T rfl) .nil)) (bd150_0_1 _ _)) ?_ rfl) rfl
  first | refine jl_e (eff_sW (T rfl) (T rfl) Tryz.sizeOf150) rfl gd_n ?_
  rintro _ _ ⟨rfl, rfl⟩
  refine jl_nil (q_then (j_ret (q_ret rfl (.cellA (at_f rfl) Tryz.isAgg150 Tryz.sizeOf150 rfl (by first | exact cs_o) .nil) ?_)))
  exact ⟨_, ⟨by rw [show ((a + c : Nat) : Int) = a + c by omega, show ((max b (d + 1) : Nat) : Int) = max (b : Int) ((d : Int) + 1) by omega]; rfl, rfl⟩, sbt⟩
def sizS (w0 : World) (m : Rxm) : Prop := ∀ H : List (Nat × Obj), RxM w0 H m → m.sz ≤ 1048576 → FSpec Tryz.prog w0 98 #[.agg (encRx m).toArray] H (fun v H' => (∃ d : Nat, v = .agg #[.int .i64 (m.sz : Nat), .int .i64 (d : Nat)] ∧ d ≤ m.sz) ∧ H' = H)
theorem siz_step {w0 : World} {H : List (Nat × Obj)} (m : Rxm) (hM : RxM w0 H m) (hz : m.sz ≤ 1048576) (ih : ∀ a ∈ m.args, sizS w0 a) :
    FSpec Tryz.prog w0 98 #[.agg (encRx m).toArray] H (fun v H' => (∃ d : Nat, v = .agg #[.int .i64 (m.sz : Nat), .int .i64 (d : Nat)] ∧ d ≤ m.sz) ∧ H' = H) := by
  refine fn_spec Tryz.func98 rfl Tryz.ntmps98 rfl ?_
  have hse := sz_eq m
  have hln := szL_len m.args
  have hA := hM.arr
  refine j_seq (j_region (e_ (eff_box (T rfl) cs_) ?_ rfl))
  rintro _ _ ⟨n1, rfl, rfl⟩
  refine e_ (eff_alloc Tryz.zeroValue150 cs_) ?_ rfl
  rintro _ _ ⟨n2, rfl, rfl⟩
  refine jl_nil (q_then (j_seq (j_region (y_ (yl_build (.cons ev_c (.cons ev_c .nil)) (bd150_0_1 _ _)) (e_ (eff_alloc Tryz.zeroValue150 cs_) ?_ rfl) rfl))))
  rintro _ _ ⟨n3, rfl, rfl⟩
  first | refine jl_e (eff_sW (T rfl) (T rfl) Tryz.sizeOf150) rfl gd_n ?_
  rintro _ _ ⟨rfl, rfl⟩
  refine jl_nil (q_then (j_seq (j_seq (j_region (y_ (yl_assign ev_c) (jl_nil (q_then (j_block ?_))) rfl)))))
  refine j_loopC (X := Nat × Nat) (V := fun ⟨i, d⟩ => [(4, .int .i64 (i : Nat))]) (C := [(1, _), (2, _), (3, _)]) (G := fun ⟨i, d⟩ => (n3, Cl [.int .i64 ((1 + szL (m.args.take i) : Nat) : Int), .int .i64 (d : Nat)] 150) :: (n2, Cl [.int .i64 0, .int .i64 0] 150) :: (n1, Cl (encRx m) 24) :: H) (φ := fun ⟨i, d⟩ => i ≤ m.args.length ∧ d ≤ 1 + szL (m.args.take i)) (μ := fun ⟨i, d⟩ => m.args.length - i) (x0 := (0, 1)) ?_ ⟨at_f rfl, at_f rfl, at_f rfl, trivial⟩ ⟨(by first | exact at_f rfl | (refine at_e (at_f rfl) (vint ?_); omega) | (refine at_e (at_f rfl) ?_; simp; done)), trivial⟩ sb0 ?_
  · exact ⟨Nat.zero_le _, by omega⟩
  rintro ⟨i, d⟩ ⟨hi, hd⟩
  have htk : i < m.args.length → szL (m.args.take (i + 1)) = szL (m.args.take i) + (gd m.args i).sz := fun h => szL_take h
  have htl := szL_le m.args (i + 1)
  have htl0 := szL_le m.args i
  refine j_seq (j_seq (j_region (y_ (yl_move (T rfl)) (y_ (yl_fa (T rfl) fa24_2) (y_ (yl_load (T rfl) Tryz.isAgg22 (by first | exact c_o)) ?_ rfl) rfl) rfl)))
  refine y_ (yl_len (T rfl) Tryz.runUnderlying22) (y_ (yl_lss (T rfl) (T rfl)) (jl_nil (q_then ?_)) rfl) rfl
  first | refine j_cond_d (at_f rfl) (fun c10 => ?_) (fun c10 => ?_) | refine j_cond (at_f rfl) (fun c10 => ?_) (fun c10 => ?_)
  · refine j_skip (q_then (j_seq (j_block (j_any 8 [(0, true), (1, true), (2, true), (3, true), (4, true), (5, true), (6, false), (7, true)] _ mixd (by kernel_rfl) sb0 ?_))))
    refine o_y rfl (yl_loadA (T rfl) Tryz.isAgg150 Tryz.sizeOf150 rfl (by first | exact cs_o)) ?_ rfl gd_n
    refine o_y rfl (yl_fa (T rfl) fa24_2) (o_y rfl (yl_load (T rfl) Tryz.isAgg22 (by first | exact c_o)) ?_ rfl gd_n) rfl gd_n
    refine o_y rfl (yl_move (T rfl)) (o_y rfl (yl_ixQ (T rfl) (T rfl) Tryz.runUnderlying22 Tryz.sizeOf24 (by omega) (by first | exact rfl | exact hA.b (i := i) (by omega))) ?_ rfl gd_n) rfl gd_n
    refine o_y rfl (yl_loadA (T rfl) Tryz.isAgg24 Tryz.sizeOf24 rfl (by first | exact (hA.mono sbt).cs (i := i) (by omega) | exact cs_o)) ?_ rfl gd_n
    refine o_e rfl (eff_call (.cons (T rfl) .nil) Tryz.call98 (ih _ (gd_mem (i := i) (by omega)) _ ((hM.arg (gd_mem (i := i) (by omega))).mono sbt) (by omega))) ?_ rfl gd_n
    rintro _ _ ⟨⟨t, rfl, ht⟩, rfl⟩
    refine ⟨sbt, (o_y rfl (yl_call (.cons (T rfl) (.cons (T rfl) .nil)) Tryz.call136 (fun H' hs => more_s (1 + szL (m.args.take i)) d (gd m.args i).sz t (by omega))) ?_ rfl gd_n)⟩
    refine jo_nil rfl ?_
    first | refine jl_e (eff_sW (T rfl) (T rfl) Tryz.sizeOf150) rfl gd_n ?_
    rintro _ _ ⟨rfl, rfl⟩
    refine jl_nil (q_block (q_then (j_region (y_ (yl_move (T rfl)) (y_ (yl_add (T rfl) ev_c (by omega)) ?_ rfl) rfl))))
    refine y_ (yl_assign (T rfl)) (jl_nil ?_) rfl
    have htk := szL_take (l := m.args) (i := i) (by omega)
    have htl := szL_le m.args (i + 1)
    have hgm := sz_mem (gd_mem (l := m.args) (i := i) (by omega))
    rw [show 1 + szL (m.args.take i) + (gd m.args i).sz = 1 + szL (m.args.take (i + 1)) by omega]
    refine q_loopC ((i + 1, max d (t + 1))) ?_ ?_ ⟨(by first | exact at_f rfl | (refine at_e (at_f rfl) (vint ?_); omega) | (refine at_e (at_f rfl) ?_; simp; done)), trivial⟩ ⟨at_f rfl, at_f rfl, at_f rfl, trivial⟩ ?_
    · exact ⟨by omega, by omega⟩
    · first | omega | (simp only []; omega)
    · exact sbt
  · refine j_exit (q_then_exit (q_loop_exit (q_block_hit (q_then (j_seq (j_region (y_ (yl_loadA (T rfl) Tryz.isAgg150 Tryz.sizeOf150 rfl (by first | exact cs_o)) ?_ rfl)))))))
    first | refine jl_e (eff_sW (T rfl) (T rfl) Tryz.sizeOf150) rfl gd_n ?_
    rintro _ _ ⟨rfl, rfl⟩
    refine jl_nil (q_then (j_ret (q_ret rfl (.cellA (at_f rfl) Tryz.isAgg150 Tryz.sizeOf150 rfl (by first | exact cs_o) .nil) ?_)))
    rw [List.take_of_length_le (by omega)] at *
    exact ⟨_, ⟨⟨d, by rw [hse]; rfl, by omega⟩, rfl⟩, sbt⟩
theorem siz_s {w0 : World} {H : List (Nat × Obj)} (m : Rxm) (hM : RxM w0 H m) (hz : m.sz ≤ 1048576) : FSpec Tryz.prog w0 98 #[.agg (encRx m).toArray] H (fun v H' => (∃ d : Nat, v = .agg #[.int .i64 (m.sz : Nat), .int .i64 (d : Nat)] ∧ d ≤ m.sz) ∧ H' = H) :=
  rx_ind (Q := sizS w0) (fun m ih H hM hz => siz_step m hM hz ih) m H hM hz
end Go.Proofs.YtkdolgnpkjihpaaGreatDoor
namespace Go.Proofs.YtkdolgnpkjihpaaGreatDoor
open Go.RowKit
set_option linter.unusedVariables false
set_option linter.unusedSimpArgs false
def WantOk (m : Rxm) (w : Nat) (ok : Bool) : Prop := ((m.kind = 1 ∨ m.kind = 3) ∧ w = 0 ∧ (ok = true → m.node = ⟨#[]⟩)) ∨ (m.kind = 2 ∧ w = 0 ∧ (ok = true → m.node.size ≠ 0)) ∨ ((m.kind = 4 ∨ m.kind = 5) ∧ w = 2 ∧ (ok = true → m.node = ⟨#[]⟩)) ∨ (m.kind = 6 ∧ w = 1 ∧ (ok = true → m.node = ⟨#[]⟩))
theorem WantOk.le {m : Rxm} {w : Nat} {ok : Bool} (h : WantOk m w ok) : w ≤ 2 := by unfold WantOk at h; omega
theorem want_is {m : Rxm} {w : Nat} (h : WantOk m w true) (hl : m.args.length = w) (hp : ∀ j, j < w → ∃ e, Is (gd m.args j) e) : ∃ e, Is m e := by
  obtain ⟨k, s, q, c, xs⟩ := m
  simp only [WantOk, Rxm.kind, Rxm.node, Rxm.args] at h hl hp
  rcases h with ⟨hk, rfl, hn⟩ | ⟨rfl, rfl, hn⟩ | ⟨hk, rfl, hn⟩ | ⟨rfl, rfl, hn⟩
  · have := List.eq_nil_of_length_eq_zero hl; subst this
    have := hn trivial; subst this
    rcases hk with rfl | rfl
    · exact ⟨_, .emp⟩
    · exact ⟨_, .any⟩
  · have := List.eq_nil_of_length_eq_zero hl; subst this
    exact ⟨_, .nod (hn trivial)⟩
  · match xs, hl with
    | [a, b], _ =>
      have := hn trivial; subst this
      obtain ⟨e1, h1⟩ := hp 0 (by omega)
      obtain ⟨e2, h2⟩ := hp 1 (by omega)
      rcases hk with rfl | rfl
      · exact ⟨_, .seq h1 h2⟩
      · exact ⟨_, .alt h1 h2⟩
  · match xs, hl with
    | [a], _ =>
      have := hn trivial; subst this
      obtain ⟨e1, h1⟩ := hp 0 (by omega)
      exact ⟨_, .star h1⟩
theorem Is.lvz {m : Rxm} {e : Re} (h : Is m e) : 2 * e.lv ≤ m.sz + 1 := by
  induction h with
  | emp => simp [Re.lv]
  | nod _ => simp [Re.lv, Rxm.sz, szL]
  | any => simp [Re.lv, Rxm.sz, szL]
  | seq h1 h2 i1 i2 => simp only [Re.lv, Rxm.sz, szL]; omega
  | alt h1 h2 i1 i2 => simp only [Re.lv, Rxm.sz, szL]; omega
  | star h1 i1 => simp only [Re.lv, Rxm.sz, szL]; omega
theorem nd_nil {s : ByteArray} {b : Bool} (e : b = decide (s.data.toList = (⟨#[]⟩ : ByteArray).data.toList)) (h : b = true) : s = ⟨#[]⟩ := by
  rw [h] at e
  exact ByteArray.ext (Array.ext' (of_decide_eq_true e.symm))
def fmdS (w0 : World) (m : Rxm) : Prop := ∀ H : List (Nat × Obj), RxM w0 H m → m.sz ≤ 1048576 → FSpec Tryz.prog w0 99 #[.agg (encRx m).toArray] H (fun v H' => (∃ t : Bool, v = .bool t ∧ (t = true → ∃ e, Is m e)) ∧ H' = H)
theorem fmd_step {w0 : World} {H : List (Nat × Obj)} (m : Rxm) (hM : RxM w0 H m) (hz : m.sz ≤ 1048576) (ih : ∀ a ∈ m.args, fmdS w0 a) :
    FSpec Tryz.prog w0 99 #[.agg (encRx m).toArray] H (fun v H' => (∃ t : Bool, v = .bool t ∧ (t = true → ∃ e, Is m e)) ∧ H' = H) := by
  refine fn_spec Tryz.func99 rfl Tryz.ntmps99 rfl ?_
  have hse := sz_eq m
  have hln := szL_len m.args
  have hA := hM.arr
  refine j_seq (j_region (e_ (eff_box (T rfl) cs_) ?_ rfl))
  rintro _ _ ⟨n1, rfl, rfl⟩
  refine y_ (yl_assign ev_c) (jl_nil (q_then (j_seq (j_region (y_ (yl_fa (T rfl) fa24_1) (y_ (yl_load (T rfl) Tryz.isAgg9 (by first | exact c_o)) ?_ rfl) rfl))))) rfl
  refine e_ (eff_call (.cons (T rfl) .nil) Tryz.call137 (plain_s m.node hM.nl)) ?_ rfl
  rintro _ _ ⟨⟨t1, rfl, ht1⟩, rfl⟩
  refine y_ (yl_assign (T rfl)) (jl_nil (q_then (j_seq (j_region (y_ (yl_assign ev_c) (jl_nil (q_then (j_seq (j_region (y_ (yl_fa (T rfl) fa24_1) (y_ (yl_load (T rfl) Tryz.isAgg9 (by first | exact c_o)) ?_ rfl) rfl))))) rfl))))) rfl
  refine y_ (yl_eqSD (T rfl) ev_c) (y_ (yl_assign (T rfl)) (jl_nil (q_then ?_)) rfl) rfl
  refine j_cutH (X := Nat × Bool) (V := fun ⟨wn, ok⟩ => [(4, .int .i64 (wn : Nat)), (5, .bool ok)]) (C := [(1, _)]) (φ := fun ⟨wn, ok⟩ => WantOk m wn ok) ⟨at_f rfl, trivial⟩ ?_ ?_
  · refine j_seq (j_region (y_ (yl_fa0 (T rfl) fa24_0) (y_ (yl_load (T rfl) Tryz.isAgg3 (by first | exact c_o)) ?_ rfl) rfl))
    refine jl_nil (q_then (j_block (j_seq (j_seq (j_region (y_ (yl_eql (T rfl) ev_c) (y_ (yl_assign (T rfl)) (jl_nil (q_then ?_)) rfl) rfl))))))
    first | refine j_cond_d (at_f rfl) (fun c16 => ?_) (fun c16 => ?_) | refine j_cond (at_f rfl) (fun c16 => ?_) (fun c16 => ?_)
    · refine j_skip (q_then ?_)
      first | refine j_cond_t (at_f rfl) ?_ | refine j_cond_t (at_e (at_f rfl) (vbool (decide_eq_true c16))) ?_
      refine j_region (y_ (yl_assign ev_c) (jl_nil (q_block ?_)) rfl)
      refine q_cutC ((0, _)) ?_ ⟨(by first | exact at_f rfl | (refine at_e (at_f rfl) (vint ?_); omega) | (refine at_e (at_f rfl) ?_; simp; done)), (by first | exact at_f rfl | (refine at_e (at_f rfl) (vint ?_); omega) | (refine at_e (at_f rfl) ?_; simp; done)), trivial⟩ ⟨at_f rfl, trivial⟩ sbt
      first | exact .inl ⟨by omega, rfl, fun h => nd_nil rfl h⟩ | exact .inr (.inl ⟨by omega, rfl, ht1⟩) | exact .inr (.inr (.inl ⟨by omega, rfl, fun h => nd_nil rfl h⟩)) | exact .inr (.inr (.inr ⟨by omega, rfl, fun h => nd_nil rfl h⟩))
    · refine j_region (y_ (yl_eql (T rfl) ev_c) (y_ (yl_assign (T rfl)) (jl_nil (q_then ?_)) rfl) rfl)
      first | refine j_cond_d (at_f rfl) (fun c16 => ?_) (fun c16 => ?_) | refine j_cond (at_f rfl) (fun c16 => ?_) (fun c16 => ?_)
      · refine j_region (y_ (yl_assign ev_c) (jl_nil (q_block ?_)) rfl)
        refine q_cutC ((0, _)) ?_ ⟨(by first | exact at_f rfl | (refine at_e (at_f rfl) (vint ?_); omega) | (refine at_e (at_f rfl) ?_; simp; done)), (by first | exact at_f rfl | (refine at_e (at_f rfl) (vint ?_); omega) | (refine at_e (at_f rfl) ?_; simp; done)), trivial⟩ ⟨at_f rfl, trivial⟩ sbt
        first | exact .inl ⟨by omega, rfl, fun h => nd_nil rfl h⟩ | exact .inr (.inl ⟨by omega, rfl, ht1⟩) | exact .inr (.inr (.inl ⟨by omega, rfl, fun h => nd_nil rfl h⟩)) | exact .inr (.inr (.inr ⟨by omega, rfl, fun h => nd_nil rfl h⟩))
      · refine j_seq (j_region (y_ (yl_eql (T rfl) ev_c) (y_ (yl_assign (T rfl)) (jl_nil (q_then ?_)) rfl) rfl))
        first | refine j_cond_d (at_f rfl) (fun c19 => ?_) (fun c19 => ?_) | refine j_cond (at_f rfl) (fun c19 => ?_) (fun c19 => ?_)
        · refine j_region (y_ (yl_move (T rfl)) (y_ (yl_assign (T rfl)) (jl_nil (q_block ?_)) rfl) rfl)
          refine q_cutC ((0, _)) ?_ ⟨(by first | exact at_f rfl | (refine at_e (at_f rfl) (vint ?_); omega) | (refine at_e (at_f rfl) ?_; simp; done)), (by first | exact at_f rfl | (refine at_e (at_f rfl) (vint ?_); omega) | (refine at_e (at_f rfl) ?_; simp; done)), trivial⟩ ⟨at_f rfl, trivial⟩ sbt
          first | exact .inl ⟨by omega, rfl, fun h => nd_nil rfl h⟩ | exact .inr (.inl ⟨by omega, rfl, ht1⟩) | exact .inr (.inr (.inl ⟨by omega, rfl, fun h => nd_nil rfl h⟩)) | exact .inr (.inr (.inr ⟨by omega, rfl, fun h => nd_nil rfl h⟩))
        · refine j_seq (j_seq (j_region (y_ (yl_eql (T rfl) ev_c) (y_ (yl_assign (T rfl)) (jl_nil (q_then ?_)) rfl) rfl)))
          first | refine j_cond_d (at_f rfl) (fun c22 => ?_) (fun c22 => ?_) | refine j_cond (at_f rfl) (fun c22 => ?_) (fun c22 => ?_)
          · refine j_skip (q_then ?_)
            first | refine j_cond_t (at_f rfl) ?_ | refine j_cond_t (at_e (at_f rfl) (vbool (decide_eq_true c22))) ?_
            refine j_region (y_ (yl_assign ev_c) (jl_nil (q_block ?_)) rfl)
            refine q_cutC ((2, _)) ?_ ⟨(by first | exact at_f rfl | (refine at_e (at_f rfl) (vint ?_); omega) | (refine at_e (at_f rfl) ?_; simp; done)), (by first | exact at_f rfl | (refine at_e (at_f rfl) (vint ?_); omega) | (refine at_e (at_f rfl) ?_; simp; done)), trivial⟩ ⟨at_f rfl, trivial⟩ sbt
            first | exact .inl ⟨by omega, rfl, fun h => nd_nil rfl h⟩ | exact .inr (.inl ⟨by omega, rfl, ht1⟩) | exact .inr (.inr (.inl ⟨by omega, rfl, fun h => nd_nil rfl h⟩)) | exact .inr (.inr (.inr ⟨by omega, rfl, fun h => nd_nil rfl h⟩))
          · refine j_region (y_ (yl_eql (T rfl) ev_c) (y_ (yl_assign (T rfl)) (jl_nil (q_then ?_)) rfl) rfl)
            first | refine j_cond_d (at_f rfl) (fun c22 => ?_) (fun c22 => ?_) | refine j_cond (at_f rfl) (fun c22 => ?_) (fun c22 => ?_)
            · refine j_region (y_ (yl_assign ev_c) (jl_nil (q_block ?_)) rfl)
              refine q_cutC ((2, _)) ?_ ⟨(by first | exact at_f rfl | (refine at_e (at_f rfl) (vint ?_); omega) | (refine at_e (at_f rfl) ?_; simp; done)), (by first | exact at_f rfl | (refine at_e (at_f rfl) (vint ?_); omega) | (refine at_e (at_f rfl) ?_; simp; done)), trivial⟩ ⟨at_f rfl, trivial⟩ sbt
              first | exact .inl ⟨by omega, rfl, fun h => nd_nil rfl h⟩ | exact .inr (.inl ⟨by omega, rfl, ht1⟩) | exact .inr (.inr (.inl ⟨by omega, rfl, fun h => nd_nil rfl h⟩)) | exact .inr (.inr (.inr ⟨by omega, rfl, fun h => nd_nil rfl h⟩))
            · refine j_seq (j_region (y_ (yl_eql (T rfl) ev_c) (y_ (yl_assign (T rfl)) (jl_nil (q_then (j_keep [(1, _), (5, _), (25, _)] ⟨at_f rfl, at_f rfl, at_f rfl, trivial⟩ ?_))) rfl) rfl))
              first | refine j_cond_d (at_f rfl) (fun c25 => ?_) (fun c25 => ?_) | refine j_cond (at_f rfl) (fun c25 => ?_) (fun c25 => ?_)
              · refine j_region (y_ (yl_assign ev_c) (jl_nil (q_block ?_)) rfl)
                refine q_cutC ((1, _)) ?_ ⟨(by first | exact at_f rfl | (refine at_e (at_f rfl) (vint ?_); omega) | (refine at_e (at_f rfl) ?_; simp; done)), (by first | exact at_f rfl | (refine at_e (at_f rfl) (vint ?_); omega) | (refine at_e (at_f rfl) ?_; simp; done)), trivial⟩ ⟨at_f rfl, trivial⟩ sbt
                first | exact .inl ⟨by omega, rfl, fun h => nd_nil rfl h⟩ | exact .inr (.inl ⟨by omega, rfl, ht1⟩) | exact .inr (.inr (.inl ⟨by omega, rfl, fun h => nd_nil rfl h⟩)) | exact .inr (.inr (.inr ⟨by omega, rfl, fun h => nd_nil rfl h⟩))
              · refine j_seq (j_region (y_ (yl_assign ev_c) (jl_nil (q_then (j_ret (q_block_ret (q_cut_ret (q_ret rfl (.tmp (at_f rfl) .nil) ?_)))))) rfl))
                exact ⟨_, ⟨⟨_, rfl, fun h => by cases h⟩, rfl⟩, sbt⟩
  rintro ⟨wn, ok⟩ hw
  have hwl := hw.le
  refine j_seq (j_seq (j_region (y_ (yl_move (T rfl)) ?_ rfl)))
  first | refine jl_y (yl_not_d (T rfl)) rfl gd_n ?_ | refine jl_y (yl_not (T rfl)) rfl gd_n ?_
  refine y_ (yl_move (T rfl)) ?_ rfl
  first | refine jl_if_d (s := 29) (at_f rfl) (fun c29 => ?_) (fun c29 => ?_) | refine jl_if (s := 29) (at_f rfl) (fun c29 => ?_) (fun c29 => ?_)
  · refine n_tf (n_tf (n_tf (n_tf (n_tf (y_ (yl_pick_t (T rfl) ev_c) (jl_nil (q_then ?_)) rfl) rfl rfl rfl rfl) rfl rfl rfl rfl) rfl rfl rfl rfl) rfl rfl rfl rfl) rfl rfl rfl rfl
    first | refine j_cond_t (at_f rfl) ?_ | refine j_cond_t (at_e (at_f rfl) (vbool (decide_eq_true c35))) ?_
    refine j_seq (j_region (y_ (yl_assign ev_c) (jl_nil (q_then (j_ret (q_then_ret (q_ret rfl (.tmp (at_f rfl) .nil) ?_))))) rfl))
    exact ⟨_, ⟨⟨_, rfl, fun h => by cases h⟩, rfl⟩, sbt⟩
  · refine jl_y (yl_fa (T rfl) fa24_2) rfl (gd_y rfl rfl (at_f rfl)) (jl_y (yl_load (T rfl) Tryz.isAgg22 (by first | exact c_o)) rfl (gd_y rfl rfl (at_f rfl)) ?_)
    refine jl_y (yl_len (T rfl) Tryz.runUnderlying22) rfl (gd_y rfl rfl (at_f rfl)) (jl_y (yl_move (T rfl)) rfl (gd_y rfl rfl (at_f rfl)) (jl_y (yl_neq (T rfl) (T rfl)) rfl (gd_y rfl rfl (at_f rfl)) (y_ (yl_pick_f (T rfl) (T rfl)) (jl_nil (q_then ?_)) rfl)))
    first | refine j_cond_d (at_f rfl) (fun c35 => ?_) (fun c35 => ?_) | refine j_cond (at_f rfl) (fun c35 => ?_) (fun c35 => ?_)
    · refine j_seq (j_region (y_ (yl_assign ev_c) (jl_nil (q_then (j_ret (q_then_ret (q_ret rfl (.tmp (at_f rfl) .nil) ?_))))) rfl))
      exact ⟨_, ⟨⟨_, rfl, fun h => by cases h⟩, rfl⟩, sbt⟩
    · refine j_skip (q_then (j_seq (j_seq (j_region (y_ (yl_assign ev_c) (jl_nil (q_then (j_block ?_))) rfl)))))
      refine j_loopH (X := Nat) (V := fun i => [(6, .int .i64 (i : Nat))]) (C := [(1, _), (4, _)]) (φ := fun i => i ≤ wn ∧ m.args.length = wn ∧ ok = true ∧ ∀ j, j < i → ∃ e, Is (gd m.args j) e) (μ := fun i => wn - i) (x0 := 0) ?_ ⟨at_f rfl, at_f rfl, trivial⟩ ⟨(by first | exact at_f rfl | (refine at_e (at_f rfl) (vint ?_); omega) | (refine at_e (at_f rfl) ?_; simp; done)), trivial⟩ ?_
      · exact ⟨Nat.zero_le _, by omega, by simpa using c29, fun j hj => absurd hj (Nat.not_lt_zero _)⟩
      rintro i ⟨hi, hal, hok, hall⟩
      have htk : i < m.args.length → szL (m.args.take (i + 1)) = szL (m.args.take i) + (gd m.args i).sz := fun h => szL_take h
      have htl := szL_le m.args (i + 1)
      have htl0 := szL_le m.args i
      refine j_seq (j_seq (j_region (y_ (yl_move (T rfl)) (y_ (yl_move (T rfl)) (y_ (yl_lss (T rfl) (T rfl)) (jl_nil (q_then ?_)) rfl) rfl) rfl)))
      first | refine j_cond_d (at_f rfl) (fun c38 => ?_) (fun c38 => ?_) | refine j_cond (at_f rfl) (fun c38 => ?_) (fun c38 => ?_)
      · refine j_skip (q_then (j_seq (j_block (j_seq (j_region (y_ (yl_fa (T rfl) fa24_2) (y_ (yl_load (T rfl) Tryz.isAgg22 (by first | exact c_o)) ?_ rfl) rfl))))))
        refine y_ (yl_move (T rfl)) (y_ (yl_ixQ (T rfl) (T rfl) Tryz.runUnderlying22 Tryz.sizeOf24 (by omega) (by first | exact rfl | exact hA.b (i := i) (by omega))) ?_ rfl) rfl
        refine y_ (yl_loadA (T rfl) Tryz.isAgg24 Tryz.sizeOf24 rfl (by first | exact (hA.mono sbt).cs (i := i) (by omega) | exact cs_o)) ?_ rfl
        refine e_ (eff_call (.cons (T rfl) .nil) Tryz.call99 (ih _ (gd_mem (i := i) (by omega)) _ ((hM.arg (gd_mem (i := i) (by omega))).mono sbt) (by omega))) ?_ rfl
        rintro _ _ ⟨⟨t, rfl, ht⟩, rfl⟩
        refine y_ (yl_assign (T rfl)) (jl_nil (q_then (j_seq (j_region (y_ (yl_move (T rfl)) ?_ rfl))))) rfl
        first | refine jl_y (yl_not_d (T rfl)) rfl gd_n ?_ | refine jl_y (yl_not (T rfl)) rfl gd_n ?_
        refine jl_nil (q_then ?_)
        first | refine j_cond_d (at_f rfl) (fun c48 => ?_) (fun c48 => ?_) | refine j_cond (at_f rfl) (fun c48 => ?_) (fun c48 => ?_)
        · refine j_seq (j_region (y_ (yl_assign ev_c) (jl_nil (q_then (j_ret (q_block_ret (q_then_ret (q_loop_ret (q_block_ret (q_then_ret (q_ret rfl (.tmp (at_f rfl) .nil) ?_))))))))) rfl))
          exact ⟨_, ⟨⟨_, rfl, fun h => by cases h⟩, rfl⟩, sbt⟩
        · refine j_skip (q_block (q_then (j_region (y_ (yl_move (T rfl)) (y_ (yl_add (T rfl) ev_c (by omega)) ?_ rfl) rfl))))
          refine y_ (yl_assign (T rfl)) (jl_nil ?_) rfl
          refine q_loopC (i + 1) ?_ ?_ ⟨(by first | exact at_f rfl | (refine at_e (at_f rfl) (vint ?_); omega) | (refine at_e (at_f rfl) ?_; simp; done)), trivial⟩ ⟨at_f rfl, at_f rfl, trivial⟩ ?_
          · refine ⟨by omega, hal, hok, fun j hj => ?_⟩
            by_cases e : j = i
            · subst e; exact ht (by simpa using c48)
            · exact hall j (by omega)
          · first | omega | (simp only []; omega)
          · exact sbt
      · refine j_exit (q_then_exit (q_loop_exit (q_block_hit (q_then (j_seq (j_region (y_ (yl_assign ev_c) (jl_nil (q_then (j_ret (q_ret rfl (.tmp (at_f rfl) .nil) ?_)))) rfl)))))))
        exact ⟨_, ⟨⟨_, rfl, fun _ => want_is (hok ▸ hw) hal (fun j hj => hall j (by omega))⟩, rfl⟩, sbt⟩
theorem fmd_s {w0 : World} {H : List (Nat × Obj)} (m : Rxm) (hM : RxM w0 H m) (hz : m.sz ≤ 1048576) : FSpec Tryz.prog w0 99 #[.agg (encRx m).toArray] H (fun v H' => (∃ t : Bool, v = .bool t ∧ (t = true → ∃ e, Is m e)) ∧ H' = H) :=
  rx_ind (Q := fmdS w0) (fun m ih H hM hz => fmd_step m hM hz ih) m H hM hz
theorem lim_s {w0 : World} {H : List (Nat × Obj)} (a b : Nat) :
    FSpec Tryz.prog w0 135 #[.agg #[.int .i64 (a : Nat), .int .i64 (b : Nat)]] H (fun v H' => (∃ t : Int, v = .int .i64 t) ∧ H' = H) := by
  refine fn_spec Tryz.func135 rfl Tryz.ntmps135 rfl (j_seq (j_region (e_ (eff_box (T rfl) cs_) ?_ rfl)))
  rintro _ _ ⟨n1, rfl, rfl⟩
  refine y_ (yl_assign ev_c) (jl_nil (q_then (j_seq (j_seq (j_region (y_ (yl_fa0 (T rfl) fa150_0) (y_ (yl_load (T rfl) Tryz.isAgg3 (by first | exact c_o)) ?_ rfl) rfl)))))) rfl
  refine y_ (yl_gtr (T rfl) ev_c) (y_ (yl_move (T rfl)) ?_ rfl) rfl
  first | refine jl_if_d (s := 6) (at_f rfl) (fun c6 => ?_) (fun c6 => ?_) | refine jl_if (s := 6) (at_f rfl) (fun c6 => ?_) (fun c6 => ?_)
  · refine n_tf (n_tf (n_tf (y_ (yl_pick_t (T rfl) ev_c) (jl_nil (q_then ?_)) rfl) rfl rfl rfl rfl) rfl rfl rfl rfl) rfl rfl rfl rfl
    first | refine j_cond_t (at_f rfl) ?_ | refine j_cond_t (at_e (at_f rfl) (vbool (decide_eq_true c10))) ?_
    refine j_seq (j_region (y_ (yl_assign ev_c) (jl_nil (q_then (j_ret (q_then_ret (q_ret rfl (.tmp (at_f rfl) .nil) ?_))))) rfl))
    exact ⟨_, ⟨⟨_, rfl⟩, rfl⟩, sbt⟩
  · refine jl_y (yl_fa (T rfl) fa150_1) rfl (gd_y rfl rfl (at_f rfl)) (jl_y (yl_load (T rfl) Tryz.isAgg3 (by first | exact c_o)) rfl (gd_y rfl rfl (at_f rfl)) ?_)
    refine jl_y (yl_gtr (T rfl) ev_c) rfl (gd_y rfl rfl (at_f rfl)) (y_ (yl_pick_f (T rfl) (T rfl)) (jl_nil (q_then ?_)) rfl)
    first | refine j_cond_d (at_f rfl) (fun c10 => ?_) (fun c10 => ?_) | refine j_cond (at_f rfl) (fun c10 => ?_) (fun c10 => ?_)
    · refine j_seq (j_region (y_ (yl_assign ev_c) (jl_nil (q_then (j_ret (q_then_ret (q_ret rfl (.tmp (at_f rfl) .nil) ?_))))) rfl))
      exact ⟨_, ⟨⟨_, rfl⟩, rfl⟩, sbt⟩
    · refine j_skip (q_then (j_seq (j_region (y_ (yl_assign ev_c) (jl_nil (q_then (j_ret (q_ret rfl (.tmp (at_f rfl) .nil) ?_)))) rfl))))
      exact ⟨_, ⟨⟨_, rfl⟩, rfl⟩, sbt⟩
theorem frm_s {w0 : World} {H : List (Nat × Obj)} (a b : Nat) (t : Bool) :
    FSpec Tryz.prog w0 97 #[.agg #[.int .i64 (a : Nat), .int .i64 (b : Nat)], .bool t] H (fun v H' => (∃ e : Int, v = .int .i64 e ∧ (e = 0 → t = true)) ∧ H' = H) := by
  refine fn_spec Tryz.func97 rfl Tryz.ntmps97 rfl (j_seq (j_region (e_ (eff_box (T rfl) cs_) ?_ rfl)))
  rintro _ _ ⟨n2, rfl, rfl⟩
  refine y_ (yl_assign ev_c) (jl_nil (q_then (j_seq (j_region (y_ (yl_loadA (T rfl) Tryz.isAgg150 Tryz.sizeOf150 rfl (by first | exact cs_o)) ?_ rfl))))) rfl
  refine e_ (eff_call (.cons (T rfl) .nil) Tryz.call135 (lim_s a b)) ?_ rfl
  rintro _ _ ⟨⟨e0, rfl⟩, rfl⟩
  refine y_ (yl_assign (T rfl)) (jl_nil (q_then (j_seq (j_seq (j_region (y_ (yl_move (T rfl)) (y_ (yl_eql (T rfl) ev_c) (y_ (yl_move (T rfl)) ?_ rfl) rfl) rfl)))))) rfl
  first | refine jl_if_d (s := 10) (at_f rfl) (fun c10 => ?_) (fun c10 => ?_) | refine jl_if (s := 10) (at_f rfl) (fun c10 => ?_) (fun c10 => ?_)
  · refine jl_y (yl_move (T rfl)) rfl (gd_y rfl rfl (at_f rfl)) ?_
    first | refine jl_y (yl_not_d (T rfl)) rfl (gd_y rfl rfl (at_f rfl)) ?_ | refine jl_y (yl_not (T rfl)) rfl (gd_y rfl rfl (at_f rfl)) ?_
    refine y_ (yl_pick_t (T rfl) (T rfl)) (jl_nil (q_then ?_)) rfl
    first | refine j_cond_d (at_f rfl) (fun c13 => ?_) (fun c13 => ?_) | refine j_cond (at_f rfl) (fun c13 => ?_) (fun c13 => ?_)
    · refine j_seq (j_region (y_ (yl_assign ev_c) (jl_nil (q_then (j_ret (q_then_ret (q_ret rfl (.tmp (at_f rfl) .nil) ?_))))) rfl))
      exact ⟨_, ⟨⟨_, rfl, fun h => (by first | (exfalso; omega) | (simp_all; done) | (cases t <;> simp_all; done))⟩, rfl⟩, sbt⟩
    · refine j_skip (q_then (j_seq (j_region (y_ (yl_move (T rfl)) (y_ (yl_assign (T rfl)) (jl_nil (q_then (j_ret (q_ret rfl (.tmp (at_f rfl) .nil) ?_)))) rfl) rfl))))
      exact ⟨_, ⟨⟨_, rfl, fun h => (by first | (exfalso; omega) | (simp_all; done) | (cases t <;> simp_all; done))⟩, rfl⟩, sbt⟩
  · refine n_ft (n_ft (y_ (yl_pick_f (T rfl) ev_c) (jl_nil (q_then ?_)) rfl) rfl rfl rfl rfl) rfl rfl rfl rfl
    first | refine j_cond_f (at_f rfl) ?_ | refine j_cond_f (at_e (at_f rfl) (vbool (decide_eq_false c13))) ?_
    refine j_skip (q_then (j_seq (j_region (y_ (yl_move (T rfl)) (y_ (yl_assign (T rfl)) (jl_nil (q_then (j_ret (q_ret rfl (.tmp (at_f rfl) .nil) ?_)))) rfl) rfl))))
    exact ⟨_, ⟨⟨_, rfl, fun h => (by first | (exfalso; omega) | (simp_all; done) | (cases t <;> simp_all; done))⟩, rfl⟩, sbt⟩
theorem chkr_s {w0 : World} {H : List (Nat × Obj)} (m : Rxm) (hM : RxM w0 H m) (hz : m.sz ≤ 1048576) :
    FSpec Tryz.prog w0 40 #[.agg (encRx m).toArray] H (fun v H' => (∃ e : Int, v = .int .i64 e ∧ (e = 0 → ∃ x, Is m x)) ∧ H' = H) := by
  refine fn_spec Tryz.func40 rfl Tryz.ntmps40 rfl (j_seq (j_region (e_ (eff_box (T rfl) cs_) ?_ rfl)))
  rintro _ _ ⟨n1, rfl, rfl⟩
  refine y_ (yl_assign ev_c) (jl_nil (q_then (j_seq (j_any 3 [(0, true), (2, true), (1, false)] _ mixd (by kernel_rfl) sb0 ?_)))) rfl
  refine o_y rfl (yl_loadA (T rfl) Tryz.isAgg24 Tryz.sizeOf24 rfl (by first | exact cs_o)) ?_ rfl gd_n
  refine o_y rfl (yl_loadA (T rfl) Tryz.isAgg24 Tryz.sizeOf24 rfl (by first | exact cs_o)) ?_ rfl gd_n
  refine o_e rfl (eff_call (.cons (T rfl) .nil) Tryz.call98 (siz_s m (hM.mono sbt) hz)) ?_ rfl gd_n
  rintro _ _ ⟨⟨d, rfl, hd⟩, rfl⟩
  refine ⟨sbt, (jo_nil rfl (e_ (eff_call (.cons (T rfl) .nil) Tryz.call99 (fmd_s m (hM.mono sbt) hz)) ?_ rfl))⟩
  rintro _ _ ⟨⟨t, rfl, ht⟩, rfl⟩
  refine e_ (eff_call (.cons (T rfl) (.cons (T rfl) .nil)) Tryz.call97 (frm_s m.sz d t)) ?_ rfl
  rintro _ _ ⟨⟨e, rfl, he⟩, rfl⟩
  refine y_ (yl_assign (T rfl)) (jl_nil (q_then (j_ret (q_ret rfl (.tmp (at_f rfl) .nil) ?_)))) rfl
  exact ⟨_, ⟨⟨_, rfl, fun h => ht (he h)⟩, rfl⟩, sbt⟩
theorem few_s {w0 : World} {H : List (Nat × Obj)} (m : Rxm) (hM : RxM w0 H m) (hz : m.sz ≤ 1048576) :
    FSpec Tryz.prog w0 10 #[.agg (encRx m).toArray] H (fun v H' => (∃ t : Bool, v = .bool t ∧ (t = true → ∃ x, Is m x ∧ m.sz ≤ 40)) ∧ H' = H) := by
  refine fn_spec Tryz.func10 rfl Tryz.ntmps10 rfl (j_seq (j_region (e_ (eff_box (T rfl) cs_) ?_ rfl)))
  rintro _ _ ⟨n1, rfl, rfl⟩
  refine y_ (yl_assign ev_c) (jl_nil (q_then (j_seq (j_region (y_ (yl_loadA (T rfl) Tryz.isAgg24 Tryz.sizeOf24 rfl (by first | exact cs_o)) ?_ rfl))))) rfl
  refine e_ (eff_call (.cons (T rfl) .nil) Tryz.call40 (chkr_s m (hM.mono sbt) hz)) ?_ rfl
  rintro _ _ ⟨⟨e, rfl, he⟩, rfl⟩
  refine y_ (yl_assign (T rfl)) (jl_nil (q_then (j_seq (j_region (y_ (yl_move (T rfl)) (y_ (yl_eql (T rfl) ev_c) (y_ (yl_move (T rfl)) ?_ rfl) rfl) rfl))))) rfl
  first | refine jl_if_d (s := 8) (at_f rfl) (fun c8 => ?_) (fun c8 => ?_) | refine jl_if (s := 8) (at_f rfl) (fun c8 => ?_) (fun c8 => ?_)
  · refine jl_y (yl_loadA (T rfl) Tryz.isAgg24 Tryz.sizeOf24 rfl (by first | exact cs_o)) rfl (gd_y rfl rfl (at_f rfl)) ?_
    refine jl_y (yl_call (.cons (T rfl) .nil) Tryz.call41 (fun H' hs => cnt_s m (hM.mono (List.Sublist.trans sbt hs)) hz)) rfl (gd_y rfl rfl (at_f rfl)) (jl_y (yl_leq (T rfl) ev_c) rfl (gd_y rfl rfl (at_f rfl)) (y_ (yl_pick_t (T rfl) (T rfl)) (y_ (yl_move (T rfl)) ?_ rfl) rfl))
    first | refine jl_if_d (s := 13) (at_f rfl) (fun c13 => ?_) (fun c13 => ?_) | refine jl_if (s := 13) (at_f rfl) (fun c13 => ?_) (fun c13 => ?_)
    · refine jl_y (yl_loadA (T rfl) Tryz.isAgg24 Tryz.sizeOf24 rfl (by first | exact cs_o)) rfl (gd_y rfl rfl (at_f rfl)) ?_
      refine jl_e (eff_call (.cons (T rfl) .nil) Tryz.call42 (str_s m (hM.mono sbt) hz)) rfl (gd_y rfl rfl (at_f rfl)) ?_
      rintro _ _ ⟨⟨t, rfl, ht⟩, rfl⟩
      refine jl_y (yl_leq (T rfl) ev_c) rfl (gd_y rfl rfl (at_f rfl)) (y_ (yl_pick_t (T rfl) (T rfl)) (y_ (yl_assign (T rfl)) (jl_nil (q_then (j_ret (q_ret rfl (.tmp (at_f rfl) .nil) ?_)))) rfl) rfl)
      exact ⟨_, ⟨⟨_, rfl, fun h => (by first | (obtain ⟨x, hx⟩ := he (by omega); exact ⟨x, hx, by omega⟩) | cases h)⟩, rfl⟩, sbt⟩
    · refine n_ft (n_ft (n_ft (y_ (yl_pick_f (T rfl) ev_c) (y_ (yl_assign (T rfl)) (jl_nil (q_then (j_ret (q_ret rfl (.tmp (at_f rfl) .nil) ?_)))) rfl) rfl) rfl rfl rfl rfl) rfl rfl rfl rfl) rfl rfl rfl rfl
      exact ⟨_, ⟨⟨_, rfl, fun h => (by first | (obtain ⟨x, hx⟩ := he (by omega); exact ⟨x, hx, by omega⟩) | cases h)⟩, rfl⟩, sbt⟩
  · refine n_ft (n_ft (n_ft (y_ (yl_pick_f (T rfl) ev_c) (y_ (yl_move (T rfl)) (n_ft (n_ft (n_ft (y_ (yl_pick_f (T rfl) ev_c) (y_ (yl_assign (T rfl)) (jl_nil (q_then (j_ret (q_ret rfl (.tmp (at_f rfl) .nil) ?_)))) rfl) rfl) rfl rfl rfl rfl) rfl rfl rfl rfl) rfl rfl rfl rfl) rfl) rfl) rfl rfl rfl rfl) rfl rfl rfl rfl) rfl rfl rfl rfl
    exact ⟨_, ⟨⟨_, rfl, fun h => (by first | (obtain ⟨x, hx⟩ := he (by omega); exact ⟨x, hx, by omega⟩) | cases h)⟩, rfl⟩, sbt⟩
end Go.Proofs.YtkdolgnpkjihpaaGreatDoor
namespace Go.Proofs.YtkdolgnpkjihpaaGreatDoor
open Go.RowKit
set_option linter.unusedVariables false
set_option linter.unusedSimpArgs false
theorem yl_eqB {w0 : World} {L : Fm} {H : List (Nat × Obj)} {ty yt : TypeId} {x y : Operand} {a b : Bool} (hx : Ev L x (.bool a)) (hy : Ev L y (.bool b)) : Yl Tryz.prog w0 (.binOp .eql 4 x y yt) ty L H (.bool (a == b)) := yl_pure rfl fun b' w => by
  have e : (Op.equal 4 (.bool a) (.bool b)).run Tryz.prog w = .ok (a == b) w := run_equalIn_bool w 9999 4 a b (by kernel_rfl)
  simp [exO, execOp, hx b', hy b', binOp, eqGuard, Sem.run_bind, Result.andThen, e]
abbrev encBl (n : Nat) (b : Nat) : List Value := [.slice (some ⟨b, 0, none⟩) n n]
theorem ap_arr {w0 : World} {H' : List (Nat × Obj)} {n : Nat} {M : List BRow} {k : Nat} (hok : ApOk n M) (hk : k < n) (hs : (apH M).Sublist H') : Arr w0 H' (some ⟨(gd M k).1, 0, none⟩) 1 encB1 (gd M k).2 :=
  (arr_blk (sz := 1) (enc := encB1) (fun _ => rfl) rfl (fnd_ap (by rw [hok.len]; exact hk))).mono hs
theorem ap_cell {w0 : World} {H' : List (Nat × Obj)} {n : Nat} {M : List BRow} {k i : Nat} (hok : ApOk n M) (hk : k < n) (hi : i < n) (hs : (apH M).Sublist H') : Cell w0 H' ⟨(gd M k).1, 0 + i * 1, none⟩ (.bool (ap M k i)) :=
  cell1 ((ap_arr hok hk hs).cs (i := i) (by rw [hok.row k hk]; exact hi))
theorem out_cell {w0 : World} {H : List (Nat × Obj)} {n b : Nat} {bl : List Nat} {X : List Value} {k : Nat} {c : Nat} (hf : Fnd H b (Cl (bl.flatMap (encBl n) ++ X) 27)) (hk : k < bl.length) (hc : c = gd bl k) : Cell w0 H ⟨b, 0 + k * 1, none⟩ (.slice (some ⟨c, 0, none⟩) n n) := by
  subst hc
  have h : ∀ (bl : List Nat) (k : Nat), k < bl.length → (bl.flatMap (encBl n) ++ X)[k]? = some (.slice (some ⟨gd bl k, 0, none⟩) n n) := fun bl => by
    induction bl with
    | nil => intro k hk; simp at hk
    | cons x bl ih =>
      intro k hk
      cases k with
      | zero => rfl
      | succ k =>
        have := ih k (by simpa using hk)
        simpa [gd] using this
  have h2 := h bl k hk
  rw [show 0 + k * 1 = k by omega]
  exact cell_get hf h2
theorem out_gd {M : List BRow} {bl : List Nat} (h : M.map Prod.fst = bl) {k : Nat} (hk : k < M.length) : (gd M k).1 = gd bl k := by
  subst h; exact (gd_map hk).symm
theorem out_set {n k b : Nat} {bl : List Nat} (hb : bl.length = k) (hk : k < n) : SetN (bl.flatMap (encBl n) ++ List.replicate (n - k) (.slice none 0 0)) (0 + k * 1) (.slice (some ⟨b, 0, none⟩) n n) ((bl ++ [b]).flatMap (encBl n) ++ List.replicate (n - (k + 1)) (.slice none 0 0)) := by
  have h : ∀ (bl : List Nat) (m : Nat), SetN (bl.flatMap (encBl n) ++ List.replicate (m + 1) (.slice none 0 0)) bl.length (.slice (some ⟨b, 0, none⟩) n n) ((bl ++ [b]).flatMap (encBl n) ++ List.replicate m (.slice none 0 0)) := fun bl m => by
    induction bl with
    | nil => exact .h
    | cons x bl ih => exact .t ih
  have h2 := h bl (n - (k + 1))
  rw [show n - (k + 1) + 1 = n - k by omega, hb] at h2
  rw [show 0 + k * 1 = k by omega]; exact h2
theorem eff_ap {P : Program} {w0 : World} {L : Fm} {ty t : TypeId} {x y : Operand} {Y : List (Nat × Obj)} {n : Nat} {M : List BRow} {k i : Nat} {v : Bool} (hok : ApOk n M) (hk : k < n) (hi : i < n) (hx : Ev L x (.pointer (some ⟨(gd M k).1, 0 + i * 1, none⟩))) (hy : Ev L y (.bool v)) (hz : ∀ w, (sizeOf t).run P w = .ok 1 w) :
    Eff P w0 (.store t x y) ty L (apH M ++ Y) (Still undef (apH (setA M k i v) ++ Y)) :=
  eff_store1 hx hy rfl hz (setN_b v (by rw [hok.row k hk]; exact hi)) (upd_ap (by rw [hok.len]; exact hk) i v Y)
theorem eff_fill {P : Program} {w0 : World} {L : Fm} {ty t : TypeId} {x y : Operand} {R : List (Nat × Obj)} {m : PM} {n k i : Nat} {v : Bool} (hi : i < m.next.length) (hv : v = (gd m.acc k != gd m.acc i)) (hx : Ev L x (.pointer (some ⟨n, 0 + i * 1, none⟩))) (hy : Ev L y (.bool v)) (hz : ∀ w, (sizeOf t).run P w = .ok 1 w) :
    Eff P w0 (.store t x y) ty L ((n, Cl ((apR m k i).flatMap encB1) 4) :: R) (Still undef ((n, Cl ((apR m k (i + 1)).flatMap encB1) 4) :: R)) := by
  subst hv
  rw [← apR_set m k hi]
  exact eff_store1 hx hy rfl hz (setN_b _ (by rw [apR_len]; exact hi)) .h
theorem rep_b (n : Nat) : List.replicate n (Value.bool false) = (List.replicate n false).flatMap encB1 := by
  induction n with
  | zero => rfl
  | succ n ih => rw [List.replicate_succ, List.replicate_succ, List.flatMap_cons, ← ih]; rfl
theorem gd_app_r_of {l : List Nat} {x k : Nat} (h : k = l.length) : gd (l ++ [x]) k = x := by subst h; exact gd_app_r
theorem machL_s {w0 : World} {H : List (Nat × Obj)} (x : Rxm) (hM : RxM w0 H x) (hz : x.sz ≤ 1048576) (names : List ByteArray) (q : Option Addr) (cp : Nat) (hN : Arr w0 H q 1 encS names) (hnl : names.length ≤ 9223372036854775807) :
    FSpec Tryz.prog w0 4 #[.agg (encRx x).toArray, .slice q names.length cp] H (Still (.bool true) H) := by
  refine fn_spec Tryz.func4 rfl Tryz.ntmps4 rfl (j_seq (j_region (e_ (eff_box (T rfl) cs_) ?_ rfl)))
  rintro _ _ ⟨n2, rfl, rfl⟩
  refine y_ (yl_assign ev_c) (jl_nil (q_then (j_seq (j_seq (j_region (y_ (yl_loadA (T rfl) Tryz.isAgg24 Tryz.sizeOf24 rfl (by first | exact cs_o | exact cell1 ((hmc.a3.mono sbt).cs (i := runM mc.pl names) hrun))) ?_ rfl)))))) rfl
  refine e_ (eff_call (.cons (T rfl) .nil) Tryz.call10 (few_s x (hM.mono sbt) hz)) ?_ rfl
  rintro _ _ ⟨⟨tf, rfl, hfew⟩, rfl⟩
  first | refine jl_y (yl_not_d (T rfl)) rfl gd_n ?_ | refine jl_y (yl_not (T rfl)) rfl gd_n ?_
  refine y_ (yl_move (T rfl)) ?_ rfl
  first | refine jl_if_d (s := 20) (at_f rfl) (fun c20 => ?_) (fun c20 => ?_) | refine jl_if (s := 20) (at_f rfl) (fun c20 => ?_) (fun c20 => ?_)
  · refine n_tf (n_tf (n_tf (y_ (yl_pick_t (T rfl) ev_c) (jl_nil (q_then ?_)) rfl) rfl rfl rfl rfl) rfl rfl rfl rfl) rfl rfl rfl rfl
    first | refine j_cond_t (at_f rfl) ?_ | refine j_cond_t (at_e (at_f rfl) (vbool (decide_eq_true c24))) ?_
    refine j_seq (j_region (y_ (yl_call .nil Tryz.call11 (fun H' hs => sanity_s)) (y_ (yl_assign (T rfl)) (jl_nil (q_then (j_ret (q_then_ret (q_ret rfl (.tmp (at_f rfl) .nil) ?_))))) rfl) rfl))
    first | exact ⟨_, ⟨rfl, rfl⟩, sbt⟩ | exact ⟨_, ⟨vbool (decide_eq_true (by omega)), rfl⟩, sbt⟩ | (exfalso; omega)
  · refine jl_y (yl_move (T rfl)) rfl (gd_y rfl rfl (at_f rfl)) (jl_y (yl_len (T rfl) Tryz.runUnderlying25) rfl (gd_y rfl rfl (at_f rfl)) (jl_y (yl_gtr (T rfl) ev_c) rfl (gd_y rfl rfl (at_f rfl)) (y_ (yl_pick_f (T rfl) (T rfl)) (jl_nil (q_then ?_)) rfl)))
    first | refine j_cond_d (at_f rfl) (fun c24 => ?_) (fun c24 => ?_) | refine j_cond (at_f rfl) (fun c24 => ?_) (fun c24 => ?_)
    · refine j_seq (j_region (y_ (yl_call .nil Tryz.call11 (fun H' hs => sanity_s)) (y_ (yl_assign (T rfl)) (jl_nil (q_then (j_ret (q_then_ret (q_ret rfl (.tmp (at_f rfl) .nil) ?_))))) rfl) rfl))
      first | exact ⟨_, ⟨rfl, rfl⟩, sbt⟩ | exact ⟨_, ⟨vbool (decide_eq_true (by omega)), rfl⟩, sbt⟩ | (exfalso; omega)
    · obtain ⟨e, hI, hz40⟩ := hfew (by simpa using c20)
      have hlv := hI.lvz
      have hl64 : e.lv ≤ 64 := by omega
      refine j_skip (q_then (j_seq (j_region (y_ (yl_loadA (T rfl) Tryz.isAgg24 Tryz.sizeOf24 rfl (by first | exact cs_o | exact cell1 ((hmc.a3.mono sbt).cs (i := runM mc.pl names) hrun))) ?_ rfl))))
      refine e_ (eff_call (.cons (T rfl) .nil) Tryz.call12 (buildM_s x e hI (hM.mono sbt) hl64 (show buildF leastF e = ((buildF leastF e).1, (buildF leastF e).2) from rfl))) ?_ rfl
      rintro _ _ ⟨mc, BM, ⟨rfl, hpl, hmc⟩, rfl⟩
      refine y_ (yl_move (T rfl)) (y_ (yl_extract (T rfl) rfl) (y_ (yl_extract (T rfl) rfl) (e_ (eff_alloc Tryz.zeroValue29 cs_) ?_ rfl) rfl) rfl) rfl
      rintro _ _ ⟨n5, rfl, rfl⟩
      first | refine jl_e (eff_sW (T rfl) (T rfl) Tryz.sizeOf29) rfl gd_n ?_
      rintro _ _ ⟨rfl, rfl⟩
      refine y_ (yl_assign (T rfl)) (jl_nil (q_then (j_seq (j_seq (j_region (y_ (yl_move (T rfl)) (y_ (yl_neq (T rfl) ev_c) (jl_nil (q_then ?_)) rfl) rfl)))))) rfl
      first | refine j_cond_d (at_f rfl) (fun c32 => ?_) (fun c32 => ?_) | refine j_cond (at_f rfl) (fun c32 => ?_) (fun c32 => ?_)
      · have he2 : (buildF leastF e).2 = 2 := by rcases build_err e with h | h <;> omega
        have hr0 : mc.rows.length = 0 := by
          have h1 : mc.pl.next = [] := by
            rw [hpl]; unfold buildF at he2 ⊢
            cases hr : rawF e with
            | none => rfl
            | some r => rw [hr] at he2; cases he2
          have := congrArg List.length h1; simpa [Mc.pl] using this
        refine j_seq (j_region (y_ (yl_call .nil Tryz.call11 (fun H' hs => sanity_s)) (y_ (yl_move (T rfl)) (jl_y (yl_move (T rfl)) rfl (gd_y rfl rfl (at_f rfl)) (jl_y (yl_eql (T rfl) ev_c) rfl (gd_y rfl rfl (at_f rfl)) (y_ (yl_pick_t (T rfl) (T rfl)) (y_ (yl_move (T rfl)) ?_ rfl) rfl))) rfl) rfl))
        first | refine jl_if_d (s := 38) (at_f rfl) (fun c38 => ?_) (fun c38 => ?_) | refine jl_if (s := 38) (at_f rfl) (fun c38 => ?_) (fun c38 => ?_)
        · refine jl_y (yl_fa (T rfl) fa29_1) rfl (gd_y rfl rfl (at_f rfl)) (jl_y (yl_load (T rfl) Tryz.isAgg26 (by first | exact c_o | exact cell1 ((hmc.a3.mono sbt).cs (i := runM mc.pl names) hrun))) rfl (gd_y rfl rfl (at_f rfl)) ?_)
          refine jl_y (yl_len (T rfl) Tryz.runUnderlying26) rfl (gd_y rfl rfl (at_f rfl)) (jl_y (yl_eql (T rfl) ev_c) rfl (gd_y rfl rfl (at_f rfl)) (y_ (yl_pick_t (T rfl) (T rfl)) (y_ (yl_assign (T rfl)) (jl_nil (q_then (j_keep [(4, _)] ⟨at_f rfl, trivial⟩ (j_ret (q_then_ret (q_ret rfl (.tmp (at_f rfl) .nil) ?_)))))) rfl) rfl))
          first | exact ⟨_, ⟨rfl, rfl⟩, sbt⟩ | exact ⟨_, ⟨vbool (decide_eq_true (by omega)), rfl⟩, sbt⟩ | (exfalso; omega)
        · refine n_ft (n_ft (n_ft (n_ft (y_ (yl_pick_f (T rfl) ev_c) (y_ (yl_assign (T rfl)) (jl_nil (q_then (j_keep [(4, _)] ⟨at_f rfl, trivial⟩ (j_ret (q_then_ret (q_ret rfl (.tmp (at_f rfl) .nil) ?_)))))) rfl) rfl) rfl rfl rfl rfl) rfl rfl rfl rfl) rfl rfl rfl rfl) rfl rfl rfl rfl
          first | exact ⟨_, ⟨rfl, rfl⟩, sbt⟩ | exact ⟨_, ⟨vbool (decide_eq_true (by omega)), rfl⟩, sbt⟩ | (exfalso; omega)
      · have hb0 : (buildF leastF e).2 = 0 := by omega
        obtain ⟨hpo, hsr⟩ := build_ok hl64 hb0
        have hacc : ∀ l, gd mc.pl.acc (runM mc.pl l) = matchF e l := fun l => by rw [hpl]; exact build_acc hl64 hb0 l
        have hdst : ∀ i k, i < mc.pl.next.length → k < mc.pl.next.length → ¬ i = k → Dst mc.pl i k := fun i k hi hk hn => by rw [hpl] at *; exact build_dst hl64 hb0 hi hk hn
        have hnm : mc.names = letF e := by have := build_names hb0; rw [← hpl] at this; exact this
        have hnl64 : mc.names.length ≤ 64 := by rw [hnm]; exact letF_few hl64
        rw [← hpl] at hpo hsr
        have hnn : mc.pl.next.length = mc.rows.length := by simp [Mc.pl]
        have haa : mc.acc.length = mc.rows.length := by rw [← hnn]; exact hpo.acc
        have hfew : mc.rows.length ≤ 200 := by rw [← hnn]; exact hpo.few
        have hrun : runM mc.pl names < mc.acc.length := by rw [haa, ← hnn]; exact runM_lt hpo names
        have hmne : (gd mc.acc (runM mc.pl names) != matchF e names) = false := by rw [show gd mc.acc (runM mc.pl names) = matchF e names from hacc names]; simp
        refine j_skip (q_then (j_seq (j_seq (j_any 16 [(0, true), (1, true), (2, true), (3, true), (4, true), (5, true), (6, true), (7, true), (8, true), (9, true), (10, true), (11, true), (12, true), (13, true), (14, true), (15, true)] _ mixd (by kernel_rfl) sb0 ?_))))
        refine o_y rfl (yl_loadA (T rfl) Tryz.isAgg29 Tryz.sizeOf29 rfl (by first | exact cs_o | exact cell1 ((hmc.a3.mono sbt).cs (i := runM mc.pl names) hrun))) ?_ rfl gd_n
        refine o_y rfl (yl_call (.cons (T rfl) .nil) Tryz.call18 (fun H' hs => chkM_s mc (hmc.mono (List.Sublist.trans sbt hs)) hpo hsr (by omega))) ?_ rfl gd_n
        refine o_y rfl (yl_not (T rfl)) (o_y rfl (yl_move (T rfl)) (o_y rfl (yl_fa (T rfl) fa29_2) (o_y rfl (yl_load (T rfl) Tryz.isAgg27 (by first | exact c_o | exact cell1 ((hmc.a3.mono sbt).cs (i := runM mc.pl names) hrun))) ?_ rfl (gd_y rfl rfl (at_f rfl))) rfl (gd_y rfl rfl (at_f rfl))) rfl gd_n) rfl gd_n
        refine o_y rfl (yl_loadA (T rfl) Tryz.isAgg29 Tryz.sizeOf29 rfl (by first | exact cs_o | exact cell1 ((hmc.a3.mono sbt).cs (i := runM mc.pl names) hrun))) ?_ rfl (gd_y rfl rfl (at_f rfl))
        refine o_y rfl (yl_move (T rfl)) (o_y rfl (yl_call (.cons (T rfl) (.cons (T rfl) .nil)) Tryz.call21 (fun H' hs => run_s mc (hmc.mono (List.Sublist.trans sbt hs)) hpo hsr (by omega) names q cp (hN.mono (List.Sublist.trans sbt hs)) hnl)) ?_ rfl (gd_y rfl rfl (at_f rfl))) rfl (gd_y rfl rfl (at_f rfl))
        refine o_y rfl (yl_ixQ (T rfl) (T rfl) Tryz.runUnderlying27 Tryz.sizeOf4 (by omega) (by first | exact rfl | exact hmc.a3.b (i := runM mc.pl names) hrun | exact hmc.a3.b (i := k) (by omega) | exact hmc.a3.b (i := j) (by omega) | exact hmc.a2.b (i := k) (by omega) | exact hmc.a2.b (i := i) (by omega) | exact (hmc.r _ (gd_mem (l := mc.rows) (i := k) (by omega))).b (i := a) (by omega) | exact (hmc.r _ (gd_mem (l := mc.rows) (i := i) (by omega))).b (i := a) (by omega))) ?_ rfl (gd_y rfl rfl (at_f rfl))
        refine o_y rfl (yl_load (T rfl) Tryz.isAgg4 (by first | exact c_o | exact cell1 ((hmc.a3.mono sbt).cs (i := runM mc.pl names) hrun))) ?_ rfl (gd_y rfl rfl (at_f rfl))
        refine o_y rfl (yl_loadA (T rfl) Tryz.isAgg24 Tryz.sizeOf24 rfl (by first | exact cs_o | exact cell1 ((hmc.a3.mono sbt).cs (i := runM mc.pl names) hrun))) ?_ rfl (gd_y rfl rfl (at_f rfl))
        refine o_y rfl (yl_move (T rfl)) (o_y rfl (yl_call (.cons (T rfl) (.cons (T rfl) .nil)) Tryz.call16 (fun H' hs => match_s x e q cp names hI (hM.mono (List.Sublist.trans sbt hs)) hl64 (hN.mono (List.Sublist.trans sbt hs)) hnl)) (o_y rfl (yl_neB (T rfl) (T rfl)) (o_y rfl (yl_pick_f (T rfl) (T rfl)) (jo_nil rfl (jl_nil (q_then (j_keep [(5, _), (59, _)] ⟨at_f rfl, at_f rfl, trivial⟩ (j_cond_f (at_e (at_f rfl) (vbool hmne)) (j_skip (q_then (j_seq (j_region (y_ (yl_fa (T rfl) fa29_1) (y_ (yl_load (T rfl) Tryz.isAgg26 (by first | exact c_o | exact cell1 ((hmc.a3.mono sbt).cs (i := runM mc.pl names) hrun))) ?_ rfl) rfl)))))))))) rfl gd_n) rfl (gd_y rfl rfl (at_f rfl))) rfl (gd_y rfl rfl (at_f rfl))) rfl (gd_y rfl rfl (at_f rfl))
        refine y_ (yl_len (T rfl) Tryz.runUnderlying26) (y_ (yl_assign (T rfl)) (jl_nil (q_then (j_seq (j_region (y_ (yl_move (T rfl)) (e_ (eff_makeSlice (by' := 24) (k := mc.rows.length) (T rfl) Tryz.runUnderlying41 Tryz.sizeOf27 Tryz.typeInfo27 rfl Tryz.zeroValue27 rfl (by omega) (by omega)) ?_ rfl) rfl))))) rfl) rfl
        rintro _ _ ⟨n64, rfl, rfl⟩
        refine y_ (yl_assign (T rfl)) (jl_nil (q_then (j_seq (j_seq (j_region (y_ (yl_move (T rfl)) (y_ (yl_len (T rfl) Tryz.runUnderlying41) (y_ (yl_move ev_c) (jl_nil (q_then (j_block ?_))) rfl) rfl) rfl)))))) rfl
        refine j_loopC (X := Nat × List BRow) (V := fun ⟨k, M0⟩ => [(67, .int .i64 (k : Nat))]) (C := [(5, _), (7, _), (8, _), (66, _)]) (G := fun ⟨k, M0⟩ => apH M0 ++ ((n64, Cl ((M0.map Prod.fst).flatMap (encBl mc.rows.length) ++ List.replicate (mc.rows.length - k) (.slice none 0 0)) 27) :: (n5, Cl (encMc mc) 29) :: (BM ++ ((n2, Cl (encRx x) 24) :: H)))) (φ := fun ⟨k, M0⟩ => k ≤ mc.rows.length ∧ Mad mc.pl M0 k) (μ := fun ⟨k, M0⟩ => mc.rows.length - k) (x0 := (0, [])) ?_ ⟨at_f rfl, at_f rfl, at_f rfl, at_f rfl, trivial⟩ ⟨(by first | exact at_f rfl | (refine at_e (at_f rfl) (vint ?_); omega) | (refine at_e (at_f rfl) ?_; simp; done)), trivial⟩ (by simp only [apH, List.map_nil, List.reverse_nil, List.nil_append, List.flatMap_nil, Nat.sub_zero]; exact sbt) ?_
        · exact ⟨Nat.zero_le _, rfl, fun y hy => absurd hy (Nat.not_lt_zero _)⟩
        rintro ⟨k, M0⟩ ⟨hk, hmad⟩
        have hml := hmad.1
        refine j_seq (j_region (y_ (yl_lss (T rfl) (T rfl)) (jl_nil (q_then (j_seq ?_))) rfl))
        first | refine j_cond_d (at_f rfl) (fun c68 => ?_) (fun c68 => ?_) | refine j_cond (at_f rfl) (fun c68 => ?_) (fun c68 => ?_)
        · refine j_skip (q_then (j_seq (j_block (j_seq (j_region (y_ (yl_move (T rfl)) (y_ (yl_assign (T rfl)) (jl_nil (q_then (j_seq (j_region (y_ (yl_move (T rfl)) (y_ (yl_move (T rfl)) (y_ (yl_move (T rfl)) (e_ (eff_makeSlice (by' := 1) (k := mc.rows.length) (T rfl) Tryz.runUnderlying27 Tryz.sizeOf4 Tryz.typeInfo4 rfl Tryz.zeroValue4 rfl (by omega) (by omega)) ?_ rfl) rfl) rfl) rfl))))) rfl) rfl))))))
          rintro _ _ ⟨n73, rfl, rfl⟩
          refine y_ (yl_ixQ (T rfl) (T rfl) Tryz.runUnderlying41 Tryz.sizeOf27 (by omega) (by first | exact rfl | exact hmc.a3.b (i := runM mc.pl names) hrun | exact hmc.a3.b (i := k) (by omega) | exact hmc.a3.b (i := j) (by omega) | exact hmc.a2.b (i := k) (by omega) | exact hmc.a2.b (i := i) (by omega) | exact (hmc.r _ (gd_mem (l := mc.rows) (i := k) (by omega))).b (i := a) (by omega) | exact (hmc.r _ (gd_mem (l := mc.rows) (i := i) (by omega))).b (i := a) (by omega))) ?_ rfl
          refine e_ (eff_store1 (T rfl) (T rfl) rfl Tryz.sizeOf27 (out_set (bl := M0.map Prod.fst) (by first | omega | (simp; omega)) (by omega)) (by (repeat (first | exact Upd.h | apply Upd.t | apply upd_a)); done)) ?_ rfl
          rintro _ _ ⟨rfl, rfl⟩
          refine jl_nil (q_then (j_seq (j_region (y_ (yl_move (T rfl)) (y_ (yl_move (T rfl)) (y_ (yl_ixQ (T rfl) (T rfl) Tryz.runUnderlying41 Tryz.sizeOf27 (by omega) (by first | exact rfl | exact hmc.a3.b (i := runM mc.pl names) hrun | exact hmc.a3.b (i := k) (by omega) | exact hmc.a3.b (i := j) (by omega) | exact hmc.a2.b (i := k) (by omega) | exact hmc.a2.b (i := i) (by omega) | exact (hmc.r _ (gd_mem (l := mc.rows) (i := k) (by omega))).b (i := a) (by omega) | exact (hmc.r _ (gd_mem (l := mc.rows) (i := i) (by omega))).b (i := a) (by omega))) ?_ rfl) rfl) rfl))))
          refine y_ (yl_load (T rfl) Tryz.isAgg27 (by first | exact c_o | exact out_cell (by repeat (first | exact fnd_h | refine fnd_t ?_ | refine fnd_a ?_)) (by first | omega | (simp; omega)) (by first | exact out_gd hfst5 (by omega) | exact out_gd hfst2 (by omega) | exact (gd_app_r_of (by first | omega | (simp; omega))).symm | exact out_gd rfl (by omega)) | exact cell1 ((hmc.a3.mono sbt).cs (i := runM mc.pl names) hrun))) ?_ rfl
          refine y_ (yl_len (T rfl) Tryz.runUnderlying27) (y_ (yl_move ev_c) (jl_nil (q_then (j_block ?_))) rfl) rfl
          refine j_loopC (X := Nat) (V := fun j => [(80, .int .i64 (j : Nat))]) (C := [(5, _), (7, _), (8, _), (9, _), (66, _), (67, _), (79, _)]) (G := fun j => (n73, Cl ((apR mc.pl k j).flatMap encB1) 4) :: (apH M0 ++ ((n64, Cl ((M0.map Prod.fst ++ [n73]).flatMap (encBl mc.rows.length) ++ List.replicate (mc.rows.length - (k + 1)) (.slice none 0 0)) 27) :: (n5, Cl (encMc mc) 29) :: (BM ++ ((n2, Cl (encRx x) 24) :: H))))) (φ := fun j => j ≤ mc.rows.length) (μ := fun j => mc.rows.length - j) (x0 := 0) ?_ ⟨at_f rfl, at_f rfl, at_f rfl, at_f rfl, at_f rfl, at_f rfl, at_f rfl, trivial⟩ ⟨(by first | exact at_f rfl | (refine at_e (at_f rfl) (vint ?_); omega) | (refine at_e (at_f rfl) ?_; simp; done)), trivial⟩ (by rw [apR_zero, ← rep_b, hnn]; exact sbt) ?_
          · exact Nat.zero_le _
          rintro j hj
          refine j_seq (j_region (y_ (yl_lss (T rfl) (T rfl)) (jl_nil (q_then (j_seq ?_))) rfl))
          first | refine j_cond_d (at_f rfl) (fun c81 => ?_) (fun c81 => ?_) | refine j_cond (at_f rfl) (fun c81 => ?_) (fun c81 => ?_)
          · refine j_skip (q_then (j_seq (j_block (j_seq (j_region (y_ (yl_move (T rfl)) (y_ (yl_assign (T rfl)) (jl_nil (q_then (j_any 17 [(0, true), (1, true), (2, true), (3, true), (4, true), (5, true), (6, true), (7, true), (8, true), (9, true), (10, true), (11, true), (12, true), (13, true), (14, true), (15, true), (16, true)] _ mixd (by kernel_rfl) sb0 ?_))) rfl) rfl))))))
            refine o_y rfl (yl_move (T rfl)) (o_y rfl (yl_move (T rfl)) (o_y rfl (yl_ixR (T rfl) (T rfl) Tryz.runUnderlying41 Tryz.sizeOf27 (by omega) (by first | exact rfl | exact hmc.a3.b (i := runM mc.pl names) hrun | exact hmc.a3.b (i := k) (by omega) | exact hmc.a3.b (i := j) (by omega) | exact hmc.a2.b (i := k) (by omega) | exact hmc.a2.b (i := i) (by omega) | exact (hmc.r _ (gd_mem (l := mc.rows) (i := k) (by omega))).b (i := a) (by omega) | exact (hmc.r _ (gd_mem (l := mc.rows) (i := i) (by omega))).b (i := a) (by omega))) ?_ rfl gd_n) rfl gd_n) rfl gd_n
            refine o_y rfl (yl_load (T rfl) Tryz.isAgg27 (by first | exact c_o | exact out_cell (by repeat (first | exact fnd_h | refine fnd_t ?_ | refine fnd_a ?_)) (by first | omega | (simp; omega)) (by first | exact out_gd hfst5 (by omega) | exact out_gd hfst2 (by omega) | exact (gd_app_r_of (by first | omega | (simp; omega))).symm | exact out_gd rfl (by omega)) | exact cell1 ((hmc.a3.mono sbt).cs (i := runM mc.pl names) hrun))) ?_ rfl gd_n
            refine o_y rfl (yl_move (T rfl)) (o_y rfl (yl_fa (T rfl) fa29_2) (o_y rfl (yl_load (T rfl) Tryz.isAgg27 (by first | exact c_o | exact cell1 ((hmc.a3.mono sbt).cs (i := runM mc.pl names) hrun))) ?_ rfl gd_n) rfl gd_n) rfl gd_n
            refine o_y rfl (yl_move (T rfl)) (o_y rfl (yl_ixR (T rfl) (T rfl) Tryz.runUnderlying27 Tryz.sizeOf4 (by omega) (by first | exact rfl | exact hmc.a3.b (i := runM mc.pl names) hrun | exact hmc.a3.b (i := k) (by omega) | exact hmc.a3.b (i := j) (by omega) | exact hmc.a2.b (i := k) (by omega) | exact hmc.a2.b (i := i) (by omega) | exact (hmc.r _ (gd_mem (l := mc.rows) (i := k) (by omega))).b (i := a) (by omega) | exact (hmc.r _ (gd_mem (l := mc.rows) (i := i) (by omega))).b (i := a) (by omega))) ?_ rfl gd_n) rfl gd_n
            refine o_y rfl (yl_load (T rfl) Tryz.isAgg4 (by first | exact c_o | exact cell1 ((hmc.a3.mono sbt).cs (i := k) (by omega)) | exact cell1 ((hmc.a3.mono sbt).cs (i := runM mc.pl names) hrun))) ?_ rfl gd_n
            refine o_y rfl (yl_fa (T rfl) fa29_2) (o_y rfl (yl_load (T rfl) Tryz.isAgg27 (by first | exact c_o | exact cell1 ((hmc.a3.mono sbt).cs (i := runM mc.pl names) hrun))) ?_ rfl gd_n) rfl gd_n
            refine o_y rfl (yl_move (T rfl)) (o_y rfl (yl_ixQ (T rfl) (T rfl) Tryz.runUnderlying27 Tryz.sizeOf4 (by omega) (by first | exact rfl | exact hmc.a3.b (i := runM mc.pl names) hrun | exact hmc.a3.b (i := k) (by omega) | exact hmc.a3.b (i := j) (by omega) | exact hmc.a2.b (i := k) (by omega) | exact hmc.a2.b (i := i) (by omega) | exact (hmc.r _ (gd_mem (l := mc.rows) (i := k) (by omega))).b (i := a) (by omega) | exact (hmc.r _ (gd_mem (l := mc.rows) (i := i) (by omega))).b (i := a) (by omega))) ?_ rfl gd_n) rfl gd_n
            refine o_y rfl (yl_load (T rfl) Tryz.isAgg4 (by first | exact c_o | exact cell1 ((hmc.a3.mono sbt).cs (i := j) (by omega)) | exact cell1 ((hmc.a3.mono sbt).cs (i := runM mc.pl names) hrun))) ?_ rfl gd_n
            refine o_y rfl (yl_neB (T rfl) (T rfl)) (o_y rfl (yl_ixQ (T rfl) (T rfl) Tryz.runUnderlying27 Tryz.sizeOf4 (by omega) (by first | exact rfl | exact hmc.a3.b (i := runM mc.pl names) hrun | exact hmc.a3.b (i := k) (by omega) | exact hmc.a3.b (i := j) (by omega) | exact hmc.a2.b (i := k) (by omega) | exact hmc.a2.b (i := i) (by omega) | exact (hmc.r _ (gd_mem (l := mc.rows) (i := k) (by omega))).b (i := a) (by omega) | exact (hmc.r _ (gd_mem (l := mc.rows) (i := i) (by omega))).b (i := a) (by omega))) ?_ rfl gd_n) rfl gd_n
            refine jo_nil rfl (e_ (eff_fill (m := mc.pl) (k := k) (i := j) (by omega) rfl (T rfl) (T rfl) Tryz.sizeOf4) ?_ rfl)
            rintro _ _ ⟨rfl, rfl⟩
            refine jl_nil (q_block (q_then (j_keep [(5, _), (7, _), (8, _), (9, _), (66, _), (67, _), (79, _), (80, _)] ⟨at_f rfl, at_f rfl, at_f rfl, at_f rfl, at_f rfl, at_f rfl, at_f rfl, at_f rfl, trivial⟩ (j_region (y_ (yl_add (T rfl) ev_c (by omega)) ?_ rfl)))))
            refine y_ (yl_move (T rfl)) (jl_nil ?_) rfl
            refine q_loopC (j + 1) ?_ ?_ ⟨(by first | exact at_f rfl | (refine at_e (at_f rfl) (vint ?_); omega) | (refine at_e (at_f rfl) ?_; simp; done)), trivial⟩ ⟨at_f rfl, at_f rfl, at_f rfl, at_f rfl, at_f rfl, at_f rfl, at_f rfl, trivial⟩ ?_
            · show j + 1 ≤ _; omega
            · first | omega | (simp only []; omega)
            · exact sbt
          · refine j_exit (q_then_exit (q_loop_exit (q_block_hit (q_block (q_then (j_region (y_ (yl_add (T rfl) ev_c (by omega)) ?_ rfl)))))))
            refine y_ (yl_move (T rfl)) (jl_nil ?_) rfl
            have hj2 : j = mc.pl.next.length := by omega
            subst hj2
            refine q_loopC ((k + 1, M0 ++ [(n73, apR mc.pl k mc.pl.next.length)])) ?_ ?_ ⟨(by first | exact at_f rfl | (refine at_e (at_f rfl) (vint ?_); omega) | (refine at_e (at_f rfl) ?_; simp; done)), trivial⟩ ⟨at_f rfl, at_f rfl, at_f rfl, at_f rfl, trivial⟩ ?_
            · exact ⟨by omega, hmad.add n73⟩
            · first | omega | (simp only []; omega)
            · simp only [apH_app, List.map_append, List.map_cons, List.map_nil]; exact sbt
        · refine j_exit (q_then_exit (q_loop_exit (q_block_hit (q_then (j_seq (j_seq (j_region (y_ (yl_assign ev_c) (jl_nil (q_then (j_block ?_))) rfl))))))))
          refine j_loopC (X := List BRow × Bool) (V := fun ⟨M2, mr2⟩ => [(11, .bool mr2)]) (C := [(5, _), (7, _), (8, _)]) (G := fun ⟨M2, mr2⟩ => apH M2 ++ ((n64, Cl ((M0.map Prod.fst).flatMap (encBl mc.rows.length) ++ List.replicate (mc.rows.length - mc.rows.length) (.slice none 0 0)) 27) :: (n5, Cl (encMc mc) 29) :: (BM ++ ((n2, Cl (encRx x) 24) :: H)))) (φ := fun ⟨M2, mr2⟩ => (ApInv mc.pl M2 ∧ M2.map Prod.fst = M0.map Prod.fst) ∧ (mr2 = false → ∀ k, k < mc.pl.next.length → ∀ i, i < mc.pl.next.length → ∀ a, a < mc.pl.names.length + 1 → Clo mc.pl M2 k i a)) (μ := fun ⟨M2, mr2⟩ => 2 * cf M2 + (if mr2 then 1 else 0)) (x0 := (M0, true)) ?_ ⟨at_f rfl, at_f rfl, at_f rfl, trivial⟩ ⟨(by first | exact at_f rfl | (refine at_e (at_f rfl) (vint ?_); omega) | (refine at_e (at_f rfl) ?_; simp; done)), trivial⟩ (by rw [show k = mc.rows.length by omega]; exact sbt) ?_
          · have hinv : ApInv mc.pl M0 := Mad.inv (by rw [show mc.pl.next.length = k by omega]; exact hmad)
            exact ⟨⟨hinv, rfl⟩, fun h => by cases h⟩
          rintro ⟨M2, mr2⟩ ⟨⟨hinv2, hfst2⟩, hcl2⟩
          have hl2 := hinv2.ok.len
          have hl0 : M0.length = mc.rows.length := by have := congrArg List.length hfst2; simp at this; omega
          refine j_seq (j_seq (j_region (y_ (yl_move (T rfl)) (jl_nil (q_then ?_)) rfl)))
          first | refine j_cond_d (at_f rfl) (fun c102 => ?_) (fun c102 => ?_) | refine j_cond (at_f rfl) (fun c102 => ?_) (fun c102 => ?_)
          · refine j_skip (q_then (j_block (j_seq (j_region (y_ (yl_assign ev_c) (jl_nil (q_then (j_seq (j_region (y_ (yl_move (T rfl)) (y_ (yl_move ev_c) (jl_nil (q_then (j_block ?_))) rfl) rfl))))) rfl)))))
            refine j_loopC (X := Nat × List BRow × Bool) (V := fun ⟨k, M, mr⟩ => [(104, .int .i64 (k : Nat)), (11, .bool mr)]) (C := [(5, _), (7, _), (8, _), (103, _)]) (G := fun ⟨k, M, mr⟩ => apH M ++ ((n64, Cl ((M0.map Prod.fst).flatMap (encBl mc.rows.length) ++ List.replicate (mc.rows.length - mc.rows.length) (.slice none 0 0)) 27) :: (n5, Cl (encMc mc) 29) :: (BM ++ ((n2, Cl (encRx x) 24) :: H)))) (φ := fun ⟨k, M, mr⟩ => k ≤ mc.pl.next.length ∧ Pas mc.pl M2 M mr k 0 0) (μ := fun ⟨k, M, mr⟩ => mc.pl.next.length - k) (x0 := (0, M2, false)) ?_ ⟨at_f rfl, at_f rfl, at_f rfl, at_f rfl, trivial⟩ ⟨(by first | exact at_f rfl | (refine at_e (at_f rfl) (vint ?_); omega) | (refine at_e (at_f rfl) ?_; simp; done)), (by first | exact at_f rfl | (refine at_e (at_f rfl) (vint ?_); omega) | (refine at_e (at_f rfl) ?_; simp; done)), trivial⟩ sb0 ?_
            · exact ⟨Nat.zero_le _, .start hinv2⟩
            rintro ⟨k, M, mr⟩ ⟨hk, hpas⟩
            have hfst := hpas.fst.trans hfst2
            refine j_seq (j_region (y_ (yl_lss (T rfl) (T rfl)) (jl_nil (q_then (j_seq ?_))) rfl))
            first | refine j_cond_d (at_f rfl) (fun c105 => ?_) (fun c105 => ?_) | refine j_cond (at_f rfl) (fun c105 => ?_) (fun c105 => ?_)
            · refine j_skip (q_then (j_seq (j_block (j_seq (j_region (y_ (yl_move (T rfl)) (y_ (yl_assign (T rfl)) (jl_nil (q_then (j_seq (j_region (y_ (yl_move (T rfl)) (y_ (yl_move ev_c) (jl_nil (q_then (j_block ?_))) rfl) rfl))))) rfl) rfl))))))
              refine j_loopC (X := Nat × List BRow × Bool) (V := fun ⟨i, M4, mr4⟩ => [(108, .int .i64 (i : Nat)), (11, .bool mr4)]) (C := [(5, _), (7, _), (8, _), (12, _), (103, _), (104, _), (107, _)]) (G := fun ⟨i, M4, mr4⟩ => apH M4 ++ ((n64, Cl ((M0.map Prod.fst).flatMap (encBl mc.rows.length) ++ List.replicate (mc.rows.length - mc.rows.length) (.slice none 0 0)) 27) :: (n5, Cl (encMc mc) 29) :: (BM ++ ((n2, Cl (encRx x) 24) :: H)))) (φ := fun ⟨i, M4, mr4⟩ => i ≤ mc.pl.next.length ∧ Pas mc.pl M2 M4 mr4 k i 0) (μ := fun ⟨i, M4, mr4⟩ => mc.pl.next.length - i) (x0 := (0, M, mr)) ?_ ⟨at_f rfl, at_f rfl, at_f rfl, at_f rfl, at_f rfl, at_f rfl, at_f rfl, trivial⟩ ⟨(by first | exact at_f rfl | (refine at_e (at_f rfl) (vint ?_); omega) | (refine at_e (at_f rfl) ?_; simp; done)), (by first | exact at_f rfl | (refine at_e (at_f rfl) (vint ?_); omega) | (refine at_e (at_f rfl) ?_; simp; done)), trivial⟩ sb0 ?_
              · exact ⟨Nat.zero_le _, hpas⟩
              rintro ⟨i, M4, mr4⟩ ⟨hi, hpas4⟩
              refine j_seq (j_region (y_ (yl_lss (T rfl) (T rfl)) (jl_nil (q_then (j_seq ?_))) rfl))
              first | refine j_cond_d (at_f rfl) (fun c109 => ?_) (fun c109 => ?_) | refine j_cond (at_f rfl) (fun c109 => ?_) (fun c109 => ?_)
              · refine j_skip (q_then (j_seq (j_block (j_seq (j_region (y_ (yl_move (T rfl)) (y_ (yl_assign (T rfl)) (jl_nil (q_then (j_seq (j_region (y_ (yl_fa (T rfl) fa29_1) (y_ (yl_load (T rfl) Tryz.isAgg26 (by first | exact c_o | exact cell1 ((hmc.a3.mono sbt).cs (i := runM mc.pl names) hrun))) ?_ rfl) rfl))))) rfl) rfl))))))
                refine y_ (yl_move (T rfl)) (y_ (yl_ixR (T rfl) (T rfl) Tryz.runUnderlying26 Tryz.sizeOf42 (by omega) (by first | exact rfl | exact hmc.a3.b (i := runM mc.pl names) hrun | exact hmc.a3.b (i := k) (by omega) | exact hmc.a3.b (i := j) (by omega) | exact hmc.a2.b (i := k) (by omega) | exact hmc.a2.b (i := i) (by omega) | exact (hmc.r _ (gd_mem (l := mc.rows) (i := k) (by omega))).b (i := a) (by omega) | exact (hmc.r _ (gd_mem (l := mc.rows) (i := i) (by omega))).b (i := a) (by omega))) ?_ rfl) rfl
                refine y_ (yl_load (T rfl) Tryz.isAgg42 (by first | exact c_o | exact cell1 ((hmc.a2.mono sbt).cs (i := k) (by omega)) | exact cell1 ((hmc.a3.mono sbt).cs (i := runM mc.pl names) hrun))) ?_ rfl
                refine y_ (yl_len (T rfl) Tryz.runUnderlying42) (y_ (yl_move ev_c) (jl_nil (q_then (j_block ?_))) rfl) rfl
                refine j_loopC (X := Nat × List BRow × Bool) (V := fun ⟨a, M5, mr5⟩ => [(117, .int .i64 (a : Nat)), (11, .bool mr5)]) (C := [(5, _), (7, _), (8, _), (12, _), (13, _), (103, _), (104, _), (107, _), (108, _), (116, _)]) (G := fun ⟨a, M5, mr5⟩ => apH M5 ++ ((n64, Cl ((M0.map Prod.fst).flatMap (encBl mc.rows.length) ++ List.replicate (mc.rows.length - mc.rows.length) (.slice none 0 0)) 27) :: (n5, Cl (encMc mc) 29) :: (BM ++ ((n2, Cl (encRx x) 24) :: H)))) (φ := fun ⟨a, M5, mr5⟩ => a ≤ mc.names.length + 1 ∧ Pas mc.pl M2 M5 mr5 k i a) (μ := fun ⟨a, M5, mr5⟩ => mc.names.length + 1 - a) (x0 := (0, M4, mr4)) ?_ ⟨at_f rfl, at_f rfl, at_f rfl, at_f rfl, at_f rfl, at_f rfl, at_f rfl, at_f rfl, at_f rfl, at_f rfl, trivial⟩ ⟨(by first | exact at_f rfl | (refine at_e (at_f rfl) (vint ?_); omega) | (refine at_e (at_f rfl) ?_; simp; done)), (by first | exact at_f rfl | (refine at_e (at_f rfl) (vint ?_); omega) | (refine at_e (at_f rfl) ?_; simp; done)), trivial⟩ sb0 ?_
                · exact ⟨Nat.zero_le _, hpas4⟩
                rintro ⟨a, M5, mr5⟩ ⟨ha, hpas5⟩
                have hfst5 := hpas5.fst.trans hfst2
                have hrk := (pm_row hpo (i := k) (by omega))
                have hri := (pm_row hpo (i := i) (by omega))
                have hl5 := hpas5.inv.ok.len
                refine j_seq (j_region (y_ (yl_lss (T rfl) (T rfl)) (jl_nil (q_then (j_seq ?_))) rfl))
                first | refine j_cond_d (at_f rfl) (fun c118 => ?_) (fun c118 => ?_) | refine j_cond (at_f rfl) (fun c118 => ?_) (fun c118 => ?_)
                · have hb1 := hrk.2 a (by omega)
                  have hb2 := hri.2 a (by omega)
                  refine j_skip (q_then (j_seq (j_block (j_seq (j_region (y_ (yl_move (T rfl)) (y_ (yl_assign (T rfl)) (jl_nil (q_then (j_seq (j_any 31 [(0, true), (1, true), (2, true), (3, true), (4, true), (5, true), (6, true), (7, true), (8, true), (9, true), (10, true), (11, true), (12, true), (13, true), (14, true), (15, true), (16, true), (17, true), (18, true), (19, true), (20, true), (21, true), (22, true), (23, true), (24, true), (25, true), (26, true), (27, true), (28, true), (29, true), (30, true)] _ mixd (by kernel_rfl) sb0 ?_)))) rfl) rfl))))))
                  refine o_y rfl (yl_move (T rfl)) (o_y rfl (yl_move (T rfl)) (o_y rfl (yl_ixR (T rfl) (T rfl) Tryz.runUnderlying41 Tryz.sizeOf27 (by omega) (by first | exact rfl | exact hmc.a3.b (i := runM mc.pl names) hrun | exact hmc.a3.b (i := k) (by omega) | exact hmc.a3.b (i := j) (by omega) | exact hmc.a2.b (i := k) (by omega) | exact hmc.a2.b (i := i) (by omega) | exact (hmc.r _ (gd_mem (l := mc.rows) (i := k) (by omega))).b (i := a) (by omega) | exact (hmc.r _ (gd_mem (l := mc.rows) (i := i) (by omega))).b (i := a) (by omega))) ?_ rfl gd_n) rfl gd_n) rfl gd_n
                  refine o_y rfl (yl_load (T rfl) Tryz.isAgg27 (by first | exact c_o | exact out_cell (by repeat (first | exact fnd_h | refine fnd_t ?_ | refine fnd_a ?_)) (by first | omega | (simp; omega)) (by first | exact out_gd hfst5 (by omega) | exact out_gd hfst2 (by omega) | exact (gd_app_r_of (by first | omega | (simp; omega))).symm | exact out_gd rfl (by omega)) | exact cell1 ((hmc.a3.mono sbt).cs (i := runM mc.pl names) hrun))) ?_ rfl gd_n
                  refine o_y rfl (yl_move (T rfl)) (o_y rfl (yl_ixR (T rfl) (T rfl) Tryz.runUnderlying27 Tryz.sizeOf4 (by omega) (by first | exact rfl | exact hmc.a3.b (i := runM mc.pl names) hrun | exact hmc.a3.b (i := k) (by omega) | exact hmc.a3.b (i := j) (by omega) | exact hmc.a2.b (i := k) (by omega) | exact hmc.a2.b (i := i) (by omega) | exact (hmc.r _ (gd_mem (l := mc.rows) (i := k) (by omega))).b (i := a) (by omega) | exact (hmc.r _ (gd_mem (l := mc.rows) (i := i) (by omega))).b (i := a) (by omega))) ?_ rfl gd_n) rfl gd_n
                  refine o_y rfl (yl_load (T rfl) Tryz.isAgg4 (by first | exact c_o | exact ap_cell hpas5.inv.ok (by omega) (by omega) (show (apH M5).Sublist (apH M5 ++ _) from List.sublist_append_left _ _) | exact cell1 ((hmc.a3.mono sbt).cs (i := runM mc.pl names) hrun))) ?_ rfl gd_n
                  first | refine o_y rfl (yl_not_d (T rfl)) ?_ rfl gd_n | refine o_y rfl (yl_not (T rfl)) ?_ rfl gd_n
                  refine o_y rfl (yl_move (T rfl)) ?_ rfl gd_n
                  first | refine o_if_d (s := 128) (at_f rfl) (fun c128 => ?_) (fun c128 => ?_) | refine o_if (s := 128) (at_f rfl) (fun c128 => ?_) (fun c128 => ?_)
                  · refine o_y rfl (yl_move (T rfl)) (o_y rfl (yl_fa (T rfl) fa29_1) (o_y rfl (yl_load (T rfl) Tryz.isAgg26 (by first | exact c_o | exact cell1 ((hmc.a3.mono sbt).cs (i := runM mc.pl names) hrun))) ?_ rfl (gd_y rfl rfl (at_f rfl))) rfl (gd_y rfl rfl (at_f rfl))) rfl (gd_y rfl rfl (at_f rfl))
                    refine o_y rfl (yl_move (T rfl)) (o_y rfl (yl_ixR (T rfl) (T rfl) Tryz.runUnderlying26 Tryz.sizeOf42 (by omega) (by first | exact rfl | exact hmc.a3.b (i := runM mc.pl names) hrun | exact hmc.a3.b (i := k) (by omega) | exact hmc.a3.b (i := j) (by omega) | exact hmc.a2.b (i := k) (by omega) | exact hmc.a2.b (i := i) (by omega) | exact (hmc.r _ (gd_mem (l := mc.rows) (i := k) (by omega))).b (i := a) (by omega) | exact (hmc.r _ (gd_mem (l := mc.rows) (i := i) (by omega))).b (i := a) (by omega))) ?_ rfl (gd_y rfl rfl (at_f rfl))) rfl (gd_y rfl rfl (at_f rfl))
                    refine o_y rfl (yl_load (T rfl) Tryz.isAgg42 (by first | exact c_o | exact cell1 ((hmc.a2.mono sbt).cs (i := k) (by omega)) | exact cell1 ((hmc.a3.mono sbt).cs (i := runM mc.pl names) hrun))) ?_ rfl (gd_y rfl rfl (at_f rfl))
                    refine o_y rfl (yl_move (T rfl)) (o_y rfl (yl_ixQ (T rfl) (T rfl) Tryz.runUnderlying42 Tryz.sizeOf3 (by omega) (by first | exact rfl | exact hmc.a3.b (i := runM mc.pl names) hrun | exact hmc.a3.b (i := k) (by omega) | exact hmc.a3.b (i := j) (by omega) | exact hmc.a2.b (i := k) (by omega) | exact hmc.a2.b (i := i) (by omega) | exact (hmc.r _ (gd_mem (l := mc.rows) (i := k) (by omega))).b (i := a) (by omega) | exact (hmc.r _ (gd_mem (l := mc.rows) (i := i) (by omega))).b (i := a) (by omega))) ?_ rfl (gd_y rfl rfl (at_f rfl))) rfl (gd_y rfl rfl (at_f rfl))
                    refine o_y rfl (yl_load (T rfl) Tryz.isAgg3 (by first | exact c_o | exact cell1 (((hmc.r _ (gd_mem (l := mc.rows) (i := k) (by omega))).mono sbt).cs (i := a) (by omega)) | exact cell1 ((hmc.a3.mono sbt).cs (i := runM mc.pl names) hrun))) ?_ rfl (gd_y rfl rfl (at_f rfl))
                    refine o_y rfl (yl_ixQ (T rfl) (T rfl) Tryz.runUnderlying41 Tryz.sizeOf27 (by omega) (by first | exact rfl | exact hmc.a3.b (i := runM mc.pl names) hrun | exact hmc.a3.b (i := k) (by omega) | exact hmc.a3.b (i := j) (by omega) | exact hmc.a2.b (i := k) (by omega) | exact hmc.a2.b (i := i) (by omega) | exact (hmc.r _ (gd_mem (l := mc.rows) (i := k) (by omega))).b (i := a) (by omega) | exact (hmc.r _ (gd_mem (l := mc.rows) (i := i) (by omega))).b (i := a) (by omega))) ?_ rfl (gd_y rfl rfl (at_f rfl))
                    refine o_y rfl (yl_load (T rfl) Tryz.isAgg27 (by first | exact c_o | exact out_cell (by repeat (first | exact fnd_h | refine fnd_t ?_ | refine fnd_a ?_)) (by first | omega | (simp; omega)) (by first | exact out_gd hfst5 (by omega) | exact out_gd hfst2 (by omega) | exact (gd_app_r_of (by first | omega | (simp; omega))).symm | exact out_gd rfl (by omega)) | exact cell1 ((hmc.a3.mono sbt).cs (i := runM mc.pl names) hrun))) ?_ rfl (gd_y rfl rfl (at_f rfl))
                    refine o_y rfl (yl_fa (T rfl) fa29_1) (o_y rfl (yl_load (T rfl) Tryz.isAgg26 (by first | exact c_o | exact cell1 ((hmc.a3.mono sbt).cs (i := runM mc.pl names) hrun))) ?_ rfl (gd_y rfl rfl (at_f rfl))) rfl (gd_y rfl rfl (at_f rfl))
                    refine o_y rfl (yl_move (T rfl)) (o_y rfl (yl_ixR (T rfl) (T rfl) Tryz.runUnderlying26 Tryz.sizeOf42 (by omega) (by first | exact rfl | exact hmc.a3.b (i := runM mc.pl names) hrun | exact hmc.a3.b (i := k) (by omega) | exact hmc.a3.b (i := j) (by omega) | exact hmc.a2.b (i := k) (by omega) | exact hmc.a2.b (i := i) (by omega) | exact (hmc.r _ (gd_mem (l := mc.rows) (i := k) (by omega))).b (i := a) (by omega) | exact (hmc.r _ (gd_mem (l := mc.rows) (i := i) (by omega))).b (i := a) (by omega))) ?_ rfl (gd_y rfl rfl (at_f rfl))) rfl (gd_y rfl rfl (at_f rfl))
                    refine o_y rfl (yl_load (T rfl) Tryz.isAgg42 (by first | exact c_o | exact cell1 ((hmc.a2.mono sbt).cs (i := i) (by omega)) | exact cell1 ((hmc.a3.mono sbt).cs (i := runM mc.pl names) hrun))) ?_ rfl (gd_y rfl rfl (at_f rfl))
                    refine o_y rfl (yl_move (T rfl)) (o_y rfl (yl_ixQ (T rfl) (T rfl) Tryz.runUnderlying42 Tryz.sizeOf3 (by omega) (by first | exact rfl | exact hmc.a3.b (i := runM mc.pl names) hrun | exact hmc.a3.b (i := k) (by omega) | exact hmc.a3.b (i := j) (by omega) | exact hmc.a2.b (i := k) (by omega) | exact hmc.a2.b (i := i) (by omega) | exact (hmc.r _ (gd_mem (l := mc.rows) (i := k) (by omega))).b (i := a) (by omega) | exact (hmc.r _ (gd_mem (l := mc.rows) (i := i) (by omega))).b (i := a) (by omega))) ?_ rfl (gd_y rfl rfl (at_f rfl))) rfl (gd_y rfl rfl (at_f rfl))
                    refine o_y rfl (yl_load (T rfl) Tryz.isAgg3 (by first | exact c_o | exact cell1 (((hmc.r _ (gd_mem (l := mc.rows) (i := i) (by omega))).mono sbt).cs (i := a) (by omega)) | exact cell1 ((hmc.a3.mono sbt).cs (i := runM mc.pl names) hrun))) ?_ rfl (gd_y rfl rfl (at_f rfl))
                    refine o_y rfl (yl_ixQ (T rfl) (T rfl) Tryz.runUnderlying27 Tryz.sizeOf4 (by omega) (by first | exact rfl | exact hmc.a3.b (i := runM mc.pl names) hrun | exact hmc.a3.b (i := k) (by omega) | exact hmc.a3.b (i := j) (by omega) | exact hmc.a2.b (i := k) (by omega) | exact hmc.a2.b (i := i) (by omega) | exact (hmc.r _ (gd_mem (l := mc.rows) (i := k) (by omega))).b (i := a) (by omega) | exact (hmc.r _ (gd_mem (l := mc.rows) (i := i) (by omega))).b (i := a) (by omega))) ?_ rfl (gd_y rfl rfl (at_f rfl))
                    refine o_y rfl (yl_load (T rfl) Tryz.isAgg4 (by first | exact c_o | exact ap_cell hpas5.inv.ok (by omega) (by omega) (show (apH M5).Sublist (apH M5 ++ _) from List.sublist_append_left _ _) | exact cell1 ((hmc.a3.mono sbt).cs (i := runM mc.pl names) hrun))) ?_ rfl (gd_y rfl rfl (at_f rfl))
                    refine o_y rfl (yl_pick_t (T rfl) (T rfl)) (jo_nil rfl (jl_nil (q_then (j_keep [(5, _), (7, _), (8, _), (11, _), (12, _), (13, _), (103, _), (104, _), (107, _), (108, _), (116, _), (117, _), (150, _)] ⟨at_f rfl, at_f rfl, at_f rfl, at_f rfl, at_f rfl, at_f rfl, at_f rfl, at_f rfl, at_f rfl, at_f rfl, at_f rfl, at_f rfl, at_f rfl, trivial⟩ ?_)))) rfl gd_n
                    first | refine j_cond_d (at_f rfl) (fun c150 => ?_) (fun c150 => ?_) | refine j_cond (at_f rfl) (fun c150 => ?_) (fun c150 => ?_)
                    · refine j_region (y_ (yl_move (T rfl)) (y_ (yl_move (T rfl)) (y_ (yl_ixR (T rfl) (T rfl) Tryz.runUnderlying41 Tryz.sizeOf27 (by omega) (by first | exact rfl | exact hmc.a3.b (i := runM mc.pl names) hrun | exact hmc.a3.b (i := k) (by omega) | exact hmc.a3.b (i := j) (by omega) | exact hmc.a2.b (i := k) (by omega) | exact hmc.a2.b (i := i) (by omega) | exact (hmc.r _ (gd_mem (l := mc.rows) (i := k) (by omega))).b (i := a) (by omega) | exact (hmc.r _ (gd_mem (l := mc.rows) (i := i) (by omega))).b (i := a) (by omega))) ?_ rfl) rfl) rfl)
                      refine y_ (yl_load (T rfl) Tryz.isAgg27 (by first | exact c_o | exact out_cell (by repeat (first | exact fnd_h | refine fnd_t ?_ | refine fnd_a ?_)) (by first | omega | (simp; omega)) (by first | exact out_gd hfst5 (by omega) | exact out_gd hfst2 (by omega) | exact (gd_app_r_of (by first | omega | (simp; omega))).symm | exact out_gd rfl (by omega)) | exact cell1 ((hmc.a3.mono sbt).cs (i := runM mc.pl names) hrun))) ?_ rfl
                      refine y_ (yl_move (T rfl)) (y_ (yl_ixR (T rfl) (T rfl) Tryz.runUnderlying27 Tryz.sizeOf4 (by omega) (by first | exact rfl | exact hmc.a3.b (i := runM mc.pl names) hrun | exact hmc.a3.b (i := k) (by omega) | exact hmc.a3.b (i := j) (by omega) | exact hmc.a2.b (i := k) (by omega) | exact hmc.a2.b (i := i) (by omega) | exact (hmc.r _ (gd_mem (l := mc.rows) (i := k) (by omega))).b (i := a) (by omega) | exact (hmc.r _ (gd_mem (l := mc.rows) (i := i) (by omega))).b (i := a) (by omega))) ?_ rfl) rfl
                      refine e_ (eff_ap hpas5.inv.ok (by omega) (by omega) (T rfl) ev_c Tryz.sizeOf4) ?_ rfl
                      rintro _ _ ⟨rfl, rfl⟩
                      refine y_ (yl_assign ev_c) (jl_nil (q_block (q_then (j_region (y_ (yl_add (T rfl) ev_c (by omega)) ?_ rfl))))) rfl
                      refine y_ (yl_move (T rfl)) (jl_nil ?_) rfl
                      refine q_loopC ((a + 1, setA M5 k i true, true)) ?_ ?_ ⟨(by first | exact at_f rfl | (refine at_e (at_f rfl) (vint ?_); omega) | (refine at_e (at_f rfl) ?_; simp; done)), (by first | exact at_f rfl | (refine at_e (at_f rfl) (vint ?_); omega) | (refine at_e (at_f rfl) ?_; simp; done)), trivial⟩ ⟨at_f rfl, at_f rfl, at_f rfl, at_f rfl, at_f rfl, at_f rfl, at_f rfl, at_f rfl, at_f rfl, at_f rfl, trivial⟩ ?_
                      · exact ⟨by omega, hpas5.yes hpo (by omega) (by omega) (by show a < mc.names.length + 1; omega) (by simpa using c128) (by rw [nx_pl, nx_pl]; simpa using c150)⟩
                      · first | omega | (simp only []; omega)
                      · exact sbt
                    · refine j_skip (q_block (q_then (j_region (y_ (yl_add (T rfl) ev_c (by omega)) ?_ rfl))))
                      refine y_ (yl_move (T rfl)) (jl_nil ?_) rfl
                      refine q_loopC ((a + 1, M5, mr5)) ?_ ?_ ⟨(by first | exact at_f rfl | (refine at_e (at_f rfl) (vint ?_); omega) | (refine at_e (at_f rfl) ?_; simp; done)), (by first | exact at_f rfl | (refine at_e (at_f rfl) (vint ?_); omega) | (refine at_e (at_f rfl) ?_; simp; done)), trivial⟩ ⟨at_f rfl, at_f rfl, at_f rfl, at_f rfl, at_f rfl, at_f rfl, at_f rfl, at_f rfl, at_f rfl, at_f rfl, trivial⟩ ?_
                      · exact ⟨by omega, hpas5.no fun h => by rw [nx_pl, nx_pl] at h; exact absurd h (by simpa using c150)⟩
                      · first | omega | (simp only []; omega)
                      · exact sbt
                  · refine o_n rfl (o_n rfl (o_n rfl (o_n rfl (o_n rfl (o_n rfl (o_n rfl (o_n rfl (o_n rfl (o_n rfl (o_n rfl (o_n rfl (o_n rfl (o_n rfl (o_n rfl (o_n rfl (o_n rfl (o_n rfl (o_n rfl (o_n rfl (o_n rfl (o_y rfl (yl_pick_f (T rfl) ev_c) (jo_nil rfl (jl_nil (q_then (j_keep [(5, _), (7, _), (8, _), (11, _), (12, _), (13, _), (103, _), (104, _), (107, _), (108, _), (116, _), (117, _), (150, _)] ⟨at_f rfl, at_f rfl, at_f rfl, at_f rfl, at_f rfl, at_f rfl, at_f rfl, at_f rfl, at_f rfl, at_f rfl, at_f rfl, at_f rfl, at_f rfl, trivial⟩ ?_)))) rfl gd_n) rfl (nw_ft rfl rfl (at_f rfl))) rfl (nw_ft rfl rfl (at_f rfl))) rfl (nw_ft rfl rfl (at_f rfl))) rfl (nw_ft rfl rfl (at_f rfl))) rfl (nw_ft rfl rfl (at_f rfl))) rfl (nw_ft rfl rfl (at_f rfl))) rfl (nw_ft rfl rfl (at_f rfl))) rfl (nw_ft rfl rfl (at_f rfl))) rfl (nw_ft rfl rfl (at_f rfl))) rfl (nw_ft rfl rfl (at_f rfl))) rfl (nw_ft rfl rfl (at_f rfl))) rfl (nw_ft rfl rfl (at_f rfl))) rfl (nw_ft rfl rfl (at_f rfl))) rfl (nw_ft rfl rfl (at_f rfl))) rfl (nw_ft rfl rfl (at_f rfl))) rfl (nw_ft rfl rfl (at_f rfl))) rfl (nw_ft rfl rfl (at_f rfl))) rfl (nw_ft rfl rfl (at_f rfl))) rfl (nw_ft rfl rfl (at_f rfl))) rfl (nw_ft rfl rfl (at_f rfl))) rfl (nw_ft rfl rfl (at_f rfl))
                    first | refine j_cond_f (at_f rfl) ?_ | refine j_cond_f (at_e (at_f rfl) (vbool (decide_eq_false c150))) ?_
                    refine j_skip (q_block (q_then (j_region (y_ (yl_add (T rfl) ev_c (by omega)) ?_ rfl))))
                    refine y_ (yl_move (T rfl)) (jl_nil ?_) rfl
                    refine q_loopC ((a + 1, M5, mr5)) ?_ ?_ ⟨(by first | exact at_f rfl | (refine at_e (at_f rfl) (vint ?_); omega) | (refine at_e (at_f rfl) ?_; simp; done)), (by first | exact at_f rfl | (refine at_e (at_f rfl) (vint ?_); omega) | (refine at_e (at_f rfl) ?_; simp; done)), trivial⟩ ⟨at_f rfl, at_f rfl, at_f rfl, at_f rfl, at_f rfl, at_f rfl, at_f rfl, at_f rfl, at_f rfl, at_f rfl, trivial⟩ ?_
                    · exact ⟨by omega, hpas5.no fun _ => by simpa using c128⟩
                    · first | omega | (simp only []; omega)
                    · exact sbt
                · refine j_exit (q_then_exit (q_loop_exit (q_block_hit (q_block (q_then (j_region (y_ (yl_add (T rfl) ev_c (by omega)) ?_ rfl)))))))
                  refine y_ (yl_move (T rfl)) (jl_nil ?_) rfl
                  have ha2 : a = mc.pl.names.length + 1 := by rw [show mc.pl.names.length = mc.names.length from rfl]; omega
                  subst ha2
                  refine q_loopC ((i + 1, M5, mr5)) ?_ ?_ ⟨(by first | exact at_f rfl | (refine at_e (at_f rfl) (vint ?_); omega) | (refine at_e (at_f rfl) ?_; simp; done)), (by first | exact at_f rfl | (refine at_e (at_f rfl) (vint ?_); omega) | (refine at_e (at_f rfl) ?_; simp; done)), trivial⟩ ⟨at_f rfl, at_f rfl, at_f rfl, at_f rfl, at_f rfl, at_f rfl, at_f rfl, trivial⟩ ?_
                  · exact ⟨by omega, hpas5.col⟩
                  · first | omega | (simp only []; omega)
                  · exact sbt
              · refine j_exit (q_then_exit (q_loop_exit (q_block_hit (q_block (q_then (j_region (y_ (yl_add (T rfl) ev_c (by omega)) ?_ rfl)))))))
                refine y_ (yl_move (T rfl)) (jl_nil ?_) rfl
                have hi2 : i = mc.pl.next.length := by omega
                subst hi2
                refine q_loopC ((k + 1, M4, mr4)) ?_ ?_ ⟨(by first | exact at_f rfl | (refine at_e (at_f rfl) (vint ?_); omega) | (refine at_e (at_f rfl) ?_; simp; done)), (by first | exact at_f rfl | (refine at_e (at_f rfl) (vint ?_); omega) | (refine at_e (at_f rfl) ?_; simp; done)), trivial⟩ ⟨at_f rfl, at_f rfl, at_f rfl, at_f rfl, trivial⟩ ?_
                · exact ⟨by omega, hpas4.row⟩
                · first | omega | (simp only []; omega)
                · exact sbt
            · refine j_exit (q_then_exit (q_loop_exit (q_block_hit (q_block ?_))))
              refine q_loopC ((M, mr)) ?_ ?_ ⟨(by first | exact at_f rfl | (refine at_e (at_f rfl) (vint ?_); omega) | (refine at_e (at_f rfl) ?_; simp; done)), trivial⟩ ⟨at_f rfl, at_f rfl, at_f rfl, trivial⟩ ?_
              · exact ⟨⟨hpas.inv, hpas.fst.trans hfst2⟩, fun h x hx => (hpas.done h).1 x (by omega)⟩
              · have h1 := hpas.le
                have h2 := hpas.more'
                have h3 : mr2 = true := by simpa using c102
                subst h3
                cases mr <;> simp at h2 ⊢ <;> omega
              · exact sbt
          · refine j_exit (q_then_exit (q_loop_exit (q_block_hit (q_then (j_seq (j_seq (j_region (y_ (yl_move (T rfl)) (y_ (yl_move ev_c) (jl_nil (q_then (j_block ?_))) rfl) rfl))))))))
            refine j_loopH (X := Nat) (V := fun k => [(161, .int .i64 (k : Nat))]) (C := [(7, _), (8, _), (160, _)]) (φ := fun k => k ≤ mc.rows.length) (μ := fun k => mc.rows.length - k) (x0 := 0) ?_ ⟨at_f rfl, at_f rfl, at_f rfl, trivial⟩ ⟨(by first | exact at_f rfl | (refine at_e (at_f rfl) (vint ?_); omega) | (refine at_e (at_f rfl) ?_; simp; done)), trivial⟩ ?_
            · exact Nat.zero_le _
            rintro k hk
            refine j_seq (j_region (y_ (yl_lss (T rfl) (T rfl)) (jl_nil (q_then (j_seq ?_))) rfl))
            first | refine j_cond_d (at_f rfl) (fun c162 => ?_) (fun c162 => ?_) | refine j_cond (at_f rfl) (fun c162 => ?_) (fun c162 => ?_)
            · refine j_skip (q_then (j_seq (j_block (j_seq (j_region (y_ (yl_move (T rfl)) (y_ (yl_assign (T rfl)) (jl_nil (q_then (j_seq (j_region (y_ (yl_move (T rfl)) (y_ (yl_move ev_c) (jl_nil (q_then (j_block ?_))) rfl) rfl))))) rfl) rfl))))))
              refine j_loopH (X := Nat) (V := fun i => [(165, .int .i64 (i : Nat))]) (C := [(7, _), (8, _), (15, _), (160, _), (161, _), (164, _)]) (φ := fun i => i ≤ mc.rows.length) (μ := fun i => mc.rows.length - i) (x0 := 0) ?_ ⟨at_f rfl, at_f rfl, at_f rfl, at_f rfl, at_f rfl, at_f rfl, trivial⟩ ⟨(by first | exact at_f rfl | (refine at_e (at_f rfl) (vint ?_); omega) | (refine at_e (at_f rfl) ?_; simp; done)), trivial⟩ ?_
              · exact Nat.zero_le _
              rintro i hi
              refine j_seq (j_region (y_ (yl_lss (T rfl) (T rfl)) (jl_nil (q_then (j_seq ?_))) rfl))
              first | refine j_cond_d (at_f rfl) (fun c166 => ?_) (fun c166 => ?_) | refine j_cond (at_f rfl) (fun c166 => ?_) (fun c166 => ?_)
              · have hne7 : (ap M2 k i == decide ((i : Int) = k)) = false := by
                  by_cases e7 : i = k
                  · subst e7; rw [hinv2.irr i (by omega)]; simp
                  · obtain ⟨ws, hw1, hw2⟩ := hdst k i (by omega) (by omega) (Ne.symm e7)
                    rw [ap_all hpo hinv2 (hcl2 (by simpa using c102)) ws hw1 (by omega) (by omega) hw2, decide_eq_false (by omega)]; rfl
                refine j_skip (q_then (j_seq (j_block (j_seq (j_region (y_ (yl_move (T rfl)) (y_ (yl_assign (T rfl)) (jl_nil (q_then (j_seq (j_region (y_ (yl_move (T rfl)) (y_ (yl_move (T rfl)) (y_ (yl_ixR (T rfl) (T rfl) Tryz.runUnderlying41 Tryz.sizeOf27 (by omega) (by first | exact rfl | exact hmc.a3.b (i := runM mc.pl names) hrun | exact hmc.a3.b (i := k) (by omega) | exact hmc.a3.b (i := j) (by omega) | exact hmc.a2.b (i := k) (by omega) | exact hmc.a2.b (i := i) (by omega) | exact (hmc.r _ (gd_mem (l := mc.rows) (i := k) (by omega))).b (i := a) (by omega) | exact (hmc.r _ (gd_mem (l := mc.rows) (i := i) (by omega))).b (i := a) (by omega))) ?_ rfl) rfl) rfl))))) rfl) rfl))))))
                refine y_ (yl_load (T rfl) Tryz.isAgg27 (by first | exact c_o | exact out_cell (by repeat (first | exact fnd_h | refine fnd_t ?_ | refine fnd_a ?_)) (by first | omega | (simp; omega)) (by first | exact out_gd hfst5 (by omega) | exact out_gd hfst2 (by omega) | exact (gd_app_r_of (by first | omega | (simp; omega))).symm | exact out_gd rfl (by omega)) | exact cell1 ((hmc.a3.mono sbt).cs (i := runM mc.pl names) hrun))) ?_ rfl
                refine y_ (yl_move (T rfl)) (y_ (yl_ixQ (T rfl) (T rfl) Tryz.runUnderlying27 Tryz.sizeOf4 (by omega) (by first | exact rfl | exact hmc.a3.b (i := runM mc.pl names) hrun | exact hmc.a3.b (i := k) (by omega) | exact hmc.a3.b (i := j) (by omega) | exact hmc.a2.b (i := k) (by omega) | exact hmc.a2.b (i := i) (by omega) | exact (hmc.r _ (gd_mem (l := mc.rows) (i := k) (by omega))).b (i := a) (by omega) | exact (hmc.r _ (gd_mem (l := mc.rows) (i := i) (by omega))).b (i := a) (by omega))) ?_ rfl) rfl
                refine y_ (yl_load (T rfl) Tryz.isAgg4 (by first | exact c_o | exact ap_cell hinv2.ok (by omega) (by omega) (show (apH M2).Sublist (apH M2 ++ _) from List.sublist_append_left _ _) | exact cell1 ((hmc.a3.mono sbt).cs (i := runM mc.pl names) hrun))) ?_ rfl
                refine y_ (yl_move (T rfl)) (y_ (yl_move (T rfl)) (y_ (yl_eql (T rfl) (T rfl)) (y_ (yl_eqB (T rfl) (T rfl)) (jl_nil (q_then (j_cond_f (at_e (at_f rfl) (vbool hne7)) (j_skip (q_block (q_then (j_region (y_ (yl_add (T rfl) ev_c (by omega)) ?_ rfl)))))))) rfl) rfl) rfl) rfl
                refine y_ (yl_move (T rfl)) (jl_nil ?_) rfl
                refine q_loopC (i + 1) ?_ ?_ ⟨(by first | exact at_f rfl | (refine at_e (at_f rfl) (vint ?_); omega) | (refine at_e (at_f rfl) ?_; simp; done)), trivial⟩ ⟨at_f rfl, at_f rfl, at_f rfl, at_f rfl, at_f rfl, at_f rfl, trivial⟩ ?_
                · show i + 1 ≤ _; omega
                · first | omega | (simp only []; omega)
                · exact sbt
              · refine j_exit (q_then_exit (q_loop_exit (q_block_hit (q_block (q_then (j_region (y_ (yl_add (T rfl) ev_c (by omega)) ?_ rfl)))))))
                refine y_ (yl_move (T rfl)) (jl_nil ?_) rfl
                refine q_loopC (k + 1) ?_ ?_ ⟨(by first | exact at_f rfl | (refine at_e (at_f rfl) (vint ?_); omega) | (refine at_e (at_f rfl) ?_; simp; done)), trivial⟩ ⟨at_f rfl, at_f rfl, at_f rfl, trivial⟩ ?_
                · show k + 1 ≤ _; omega
                · first | omega | (simp only []; omega)
                · exact sbt
            · refine j_exit (q_then_exit (q_loop_exit (q_block_hit (q_then (j_seq (j_region (y_ (yl_call .nil Tryz.call11 (fun H' hs => sanity_s)) (y_ (yl_assign (T rfl)) (jl_nil (q_then (j_ret (q_ret rfl (.tmp (at_f rfl) .nil) ?_)))) rfl) rfl)))))))
              first | exact ⟨_, ⟨rfl, rfl⟩, sbt⟩ | exact ⟨_, ⟨vbool (decide_eq_true (by omega)), rfl⟩, sbt⟩ | (exfalso; omega)
end Go.Proofs.YtkdolgnpkjihpaaGreatDoor
namespace Go.Proofs.YtkdolgnpkjihpaaGreatDoor
open Go.ChangeShapes Go.WideShapes Go.ChangeAt Go.RowKit Go.Joins Go.Deep
set_option linter.unusedSimpArgs false
set_option linter.unusedVariables false
set_option maxRecDepth 100000
theorem below_cell {W w : World} {p : Addr} {v : Value} (hb : Below W.heap.size W w) (h : W.cell? p = some v) : w.cell? p = some v := by
  have hlt := World.block_lt_of_cell? _ _ h
  have := hb.block p.block hlt
  unfold World.cell? at h ⊢
  rw [this]; exact h
theorem cell_arg {W : World} {p : Addr} {v : Value} (h : W.cell? p = some v) : Cell W [] p v := fun w hO => below_cell hO.below h
theorem blk_pos {H : Type} (d : DataW H) : 1 ≤ Rows.uptoBulk d := by
  cases d with
  | lit l => cases l <;> simp [Rows.uptoBulk]
  | nil => simp [Rows.uptoBulk]
  | ptr d => simp [Rows.uptoBulk]
  | slice elems spare => simp [Rows.uptoBulk]
  | agg parts => simp [Rows.uptoBulk]
  | iface t d => simp [Rows.uptoBulk]
  | map entries => simp [Rows.uptoBulk]
  | held h => simp [Rows.uptoBulk]
theorem blk_sum {H : Type} {f : Nat → Nat} {D : Nat → DataW H} : ∀ (l : List Nat), (∀ i ∈ l, f i ≤ Rows.uptoBulk (D i)) → (l.map f).sum ≤ Rows.uptoBulkAll (l.map D)
  | [], _ => Nat.le_refl _
  | x :: l, h => by
    have h1 := h x (by simp)
    have h2 := blk_sum l fun i hi => h i (by simp [hi])
    simp only [List.map_cons, List.sum_cons, Rows.uptoBulkAll]
    omega
theorem blk_mem {H : Type} {D : Nat → DataW H} : ∀ {l : List Nat} {i : Nat}, i ∈ l → Rows.uptoBulk (D i) ≤ Rows.uptoBulkAll (l.map D)
  | x :: l, i, h => by
    simp only [List.map_cons, Rows.uptoBulkAll]
    rcases List.mem_cons.1 h with rfl | h
    · exact Nat.le_add_right _ _
    · have := blk_mem (D := D) h; omega
section
variable {H : Type} {enc : TypeId × Value → H} {P : Program} {W : World} {b0 : Nat} {sp1 : Nat → Bool} {held : Bool}
theorem open_arr {α : Type} {t e sz fuel : Nat} {cs : List Value} {x : DataW H × List MemPlace} {el : α → List Value} {φ : α → Prop} {szf : α → Nat} (ht : P.underlying t = some (.slice e)) (hc : P.cellsOf e = sz) (hsz : 0 < sz)
    (hel : ∀ n cs y, Rows.uptoBulk y.1 < Rows.uptoBulk x.1 → DataW.trod enc P W b0 sp1 held n e cs = some y → ∃ u : α, cs = el u ∧ φ u ∧ szf u ≤ Rows.uptoBulk y.1) (h : DataW.trod enc P W b0 sp1 held fuel t cs = some x) :
    ∃ (q : Option Addr) (l : List α) (cap : Nat), cs = [.slice q l.length cap] ∧ Arr W [] q sz el l ∧ l.length ≤ cap ∧ l.length ≤ 9223372036854775807 ∧ (∀ u ∈ l, φ u) ∧ (l.map szf).sum + 1 ≤ Rows.uptoBulk x.1 := by
  rcases open_slice ht h with ⟨rfl, rfl⟩ | ⟨a, len, cap, m, n, D, Pl, rfl, hb, hl, hm, hmm, rfl, hx⟩
  · exact ⟨none, [], 0, rfl, fun i u hi => by simp at hi, by simp, by simp, by simp, by simp [Rows.uptoBulk]⟩
  have hlm : len ≤ m := by rw [hmm]; split <;> omega
  have hlen : len ≤ 9223372036854775807 := by unfold maxLen at hm; omega
  cases len with
  | zero => exact ⟨some a, [], cap, rfl, fun i u hi => by simp at hi, by simp, by simp, by simp, by simp [Rows.uptoBulk]⟩
  | succ k =>
    have hbk : Rows.uptoBulkAll ((List.range (k + 1)).map D) + 1 ≤ Rows.uptoBulk (DataW.slice ((List.range (k + 1)).map D) ((List.range (m - (k + 1))).map fun j => D (k + 1 + j))) := by
      simp only [Rows.uptoBulk]; omega
    have each : ∀ i, i < k + 1 → ∃ u : α, W.cells? b0 (a.add (i * sz)) sz = some (el u) ∧ φ u ∧ szf u ≤ Rows.uptoBulk (D i) := fun i hi => by
      obtain ⟨cs', h1, h2⟩ := hx i (by omega)
      rw [hc] at h1
      have h3 := blk_mem (D := D) (List.mem_range.2 hi)
      obtain ⟨u, rfl, hu⟩ := hel _ _ _ (by simp only []; omega) h2
      exact ⟨u, h1, hu⟩
    obtain ⟨u0, h00, hu0⟩ := each 0 (by omega)
    letI : Inhabited α := ⟨u0⟩
    obtain ⟨f, hf⟩ := choose_lt each
    refine ⟨some a, (List.range (k + 1)).map f, cap, by simp, fun i u hi => ?_, by simpa using hl, by simpa using hlen, fun u hu => ?_, ?_⟩
    · have hik : i < k + 1 := by have := (List.getElem?_eq_some_iff.1 hi).1; simpa using this
      have hfu : f i = u := by simpa [hik] using hi
      obtain ⟨sb, so, spot⟩ := a
      obtain ⟨_, hl0, hc0⟩ := World.cells?_some h00
      have hspot : spot = none := by
        have h6 := (hc0 0 hsz).trans (List.getElem?_eq_getElem (by omega))
        simpa [Addr.add] using World.cell?_spot h6
      subst hspot
      refine ⟨rfl, fun j v hj => cell_arg ?_⟩
      obtain ⟨_, hl1, hc1⟩ := World.cells?_some (hf i hik).1
      rw [hfu] at hl1 hc1
      have hjl := (List.getElem?_eq_some_iff.1 hj).1
      have h5 := hc1 j (by omega)
      rw [add_add, add_plain] at h5
      have h6 := h5.trans hj
      rw [← Nat.add_assoc] at h6
      exact h6
    · obtain ⟨i, hi, rfl⟩ := List.mem_map.1 hu
      exact (hf i (List.mem_range.1 hi)).2.1
    · have := blk_sum (f := fun i => szf (f i)) (D := D) (List.range (k + 1)) fun i hi => (hf i (List.mem_range.1 hi)).2.2
      rw [List.map_map]
      have e : (szf ∘ f) = fun i => szf (f i) := rfl
      rw [e]; simp only [] at hbk ⊢; omega
end
theorem cells3 : Tryz.prog.cellsOf 3 = 1 := by kernel_rfl
theorem cells9 : Tryz.prog.cellsOf 9 = 1 := by kernel_rfl
theorem cells22 : Tryz.prog.cellsOf 22 = 1 := by kernel_rfl
theorem cells24 : Tryz.prog.cellsOf 24 = 3 := by kernel_rfl
theorem own_knob : ownKnob Tryz.prog.godebug = none := by kernel_rfl
theorem i64_bd {n : Int} (h : (Lit.int .i64 n).wf = true) : -9223372036854775808 ≤ n ∧ n ≤ 9223372036854775807 := by
  have := bounds_i64 h; exact this
theorem sum_len {α : Type} (l : List α) : (l.map fun _ => 1).sum = l.length := by
  induction l with
  | nil => rfl
  | cons x l ih => simp only [List.map_cons, List.sum_cons, List.length_cons, ih]; omega
theorem szL_sum : ∀ l : List Rxm, szL l = (l.map Rxm.sz).sum
  | [] => rfl
  | x :: l => by simp only [szL, List.map_cons, List.sum_cons, szL_sum l]
section
variable {H : Type} {enc : TypeId × Value → H} {W : World} {b0 n : Nat} {sp1 : Nat → Bool} {held : Bool} {y : DataW H × List MemPlace} {cs : List Value}
theorem rd_int {c : Value} (h : DataW.trod enc Tryz.prog W b0 sp1 held n 3 [c] = some y) : ∃ a : Int, c = .int .i64 a ∧ (-9223372036854775808 ≤ a ∧ a ≤ 9223372036854775807) := by
  obtain ⟨a, e0, _, wa⟩ := DataW.trod_int Tryz.underlying3 h
  simp at e0
  exact ⟨a, e0, i64_bd wa⟩
theorem rd_str (h : DataW.trod enc Tryz.prog W b0 sp1 held n 9 cs = some y) : ∃ u : ByteArray, cs = encS u ∧ u.size ≤ 9223372036854775807 := by
  obtain ⟨s, e0, _, ws⟩ := DataW.trod_string Tryz.underlying9 h
  exact ⟨s, e0, by unfold maxLen at ws; omega⟩
theorem rd_strs (h : DataW.trod enc Tryz.prog W b0 sp1 held n 25 cs = some y) : ∃ (q : Option Addr) (l : List ByteArray) (cap : Nat), cs = [.slice q l.length cap] ∧ Arr W [] q 1 encS l ∧ l.length ≤ cap ∧ l.length ≤ 9223372036854775807 ∧ l.length ≤ Rows.uptoBulk y.1 := by
  obtain ⟨q, l, cap, e, a, c, b, _, s⟩ := open_arr (el := encS) (φ := fun _ => True) (szf := fun _ => 1) Tryz.underlying25 cells9 (by omega) (fun n cs y _ h => by obtain ⟨u, e, _⟩ := rd_str h; exact ⟨u, e, trivial, blk_pos _⟩) h
  rw [sum_len] at s
  exact ⟨q, l, cap, e, a, c, b, by omega⟩
theorem rd_rx : ∀ (N : Nat) {n : Nat} {y : DataW H × List MemPlace} {cs : List Value}, Rows.uptoBulk y.1 ≤ N → DataW.trod enc Tryz.prog W b0 sp1 held n 24 cs = some y → ∃ u : Rxm, cs = encRx u ∧ RxM W [] u ∧ u.sz ≤ Rows.uptoBulk y.1
  | 0, n, y, cs, hN, _ => by have := blk_pos y.1; omega
  | N + 1, n, y, cs, hN, h => by
    obtain ⟨xs, m, rfl, rfl, hlen, hxl, hall⟩ := DataW.trod_struct Tryz.underlying24 h
    rw [cells24] at hlen
    match xs, hxl, cs, hlen with
    | [x0, x1, x2], _, [c0, c1, c2], _ =>
      have f0 : DataW.trod enc Tryz.prog W b0 sp1 held m 3 [c0] = some x0 := by have := hall 0 _ rfl; simpa [cells3] using this
      have f1 : DataW.trod enc Tryz.prog W b0 sp1 held m 9 [c1] = some x1 := by have := hall 1 _ rfl; simpa [cells9] using this
      have f2 : DataW.trod enc Tryz.prog W b0 sp1 held m 22 [c2] = some x2 := by have := hall 2 _ rfl; simpa [cells22] using this
      have hb : Rows.uptoBulk x2.1 + 2 ≤ Rows.uptoBulk (DataW.agg (H := H) ([x0, x1, x2].map (·.1))) := by
        have := blk_pos x0.1; have := blk_pos x1.1
        simp only [Rows.uptoBulk, Rows.uptoBulkAll, List.map_cons, List.map_nil] at *; omega
      have hN' : Rows.uptoBulk (DataW.agg (H := H) ([x0, x1, x2].map (·.1))) ≤ N + 1 := hN
      obtain ⟨k, rfl, _⟩ := rd_int f0
      obtain ⟨s, e1, hs⟩ := rd_str f1
      obtain ⟨q, l, cap, e2, ha, hc, hl, hf, hsum⟩ := open_arr (el := encRx) (φ := RxM W []) (szf := Rxm.sz) Tryz.underlying22 cells24 (by omega) (fun n cs y hy h => rd_rx N (by omega) h) f2
      simp at e1 e2
      refine ⟨.mk k s q cap l, by rw [e1, e2]; rfl, .mk ha hf hs hl, ?_⟩
      rw [sz_eq, show (Rxm.mk k s q cap l).args = l from rfl, szL_sum]
      exact Nat.le_trans (by omega : 1 + (l.map Rxm.sz).sum ≤ Rows.uptoBulk x2.1 + 2) hb
theorem open_rx {base : Nat} {r : _root_.Go.Reach} {v : Value} {d : DataW H} {p : List MemPlace} (hv : Value.okWide Tryz.prog W r base 24 v) (h : DataW.Trod enc Tryz.prog W b0 sp1 held 24 v d p) : ∃ u : Rxm, v = .agg (encRx u).toArray ∧ RxM W [] u ∧ u.sz ≤ Rows.uptoBulk d := by
  obtain ⟨cs, rfl, hsz⟩ := okWide_struct Tryz.underlying24 hv
  obtain ⟨fuel, hf⟩ := h
  obtain ⟨l⟩ := cs
  obtain ⟨u, e, hu⟩ := rd_rx _ (Nat.le_refl _) hf
  simp only [Value.cells] at e
  exact ⟨u, by rw [← e], hu⟩
theorem open_strs {base : Nat} {r : _root_.Go.Reach} {v : Value} {d : DataW H} {p : List MemPlace} (hv : Value.okWide Tryz.prog W r base 25 v) (h : DataW.Trod enc Tryz.prog W b0 sp1 held 25 v d p) : ∃ (q : Option Addr) (l : List ByteArray) (cap : Nat), v = .slice q l.length cap ∧ Arr W [] q 1 encS l ∧ l.length ≤ cap ∧ l.length ≤ 9223372036854775807 ∧ l.length ≤ Rows.uptoBulk d := by
  obtain ⟨a0, len0, cap0, rfl⟩ := okWide_slice Tryz.underlying25 hv
  obtain ⟨fuel, hf⟩ := h
  obtain ⟨q, l, cap, e, r⟩ := rd_strs hf
  simp only [Value.cells, List.cons.injEq, and_true] at e
  exact ⟨q, l, cap, e, r⟩
end
end Go.Proofs.YtkdolgnpkjihpaaGreatDoor
namespace Go.Proofs.YtkdolgnpkjihpaaGreatDoor
open Go.ChangeShapes Go.WideShapes Go.ChangeAt Go.RowKit Go.Joins
set_option linter.unusedSimpArgs false
set_option linter.unusedVariables false
set_option maxRecDepth 100000
section
variable {H : Type} {enc : TypeId × Value → H} {W : World}
theorem laid_out : laidOutB Tryz.prog = true := by kernel_rfl
theorem trodAll_stays : ∀ {ts : List TypeId} {vs : List Value} {ds : List (DataW H)} {ps : List MemPlace} {W' : World}, (∀ t ∈ ts, Tryz.prog.readableRec t = true ∧ t < Tryz.prog.types.size) → DataW.TrodAll enc Tryz.prog W 0 (fun _ => true) true ts vs ds ps → Below W.heap.size W W' → (∀ x ∈ ps, x.block < W.heap.size) →
    DataW.TrodAll enc Tryz.prog W' 0 (fun b => decide (b < W.heap.size)) true ts vs ds ps
  | [], _, _, _, _, _, h, _, _ => by obtain ⟨rfl, rfl, rfl⟩ := trodAll_nil h; exact trodAll_mk0
  | t :: ts, _, _, _, _, hr, h, hb, hlt => by
    obtain ⟨v, vs, d, ds, p, q, rfl, rfl, rfl, h0, r0⟩ := trodAll_cons h
    exact trodAll_cons_mk (Below.trod laid_out (hr t (by simp)).1 (hr t (by simp)).2 h0 hb (fun x hx => hlt x (by simp [hx]))) (trodAll_stays (fun t ht => hr t (by simp [ht])) r0 hb (fun x hx => hlt x (by simp [hx])))
end
theorem calls_true {f : FuncId} {args : Array Value} {W : World} (h : FSpec Tryz.prog W f args [] (Still (.bool true) [])) : Calls Tryz.prog f args W fun e W' => e = .returned (.bool true) ∧ Below W.heap.size W W' :=
  (h W (Own.start W)).mono fun e W' ⟨v, H', he, hO, hv, _⟩ => ⟨by rw [he, hv], hO.below⟩
def tab32 : Array Value := #[.int .u8 0, .int .u8 1, .int .u8 28, .int .u8 2, .int .u8 29, .int .u8 14, .int .u8 24, .int .u8 3, .int .u8 30, .int .u8 22, .int .u8 20, .int .u8 15, .int .u8 25, .int .u8 17, .int .u8 4, .int .u8 8, .int .u8 31, .int .u8 27, .int .u8 13, .int .u8 23, .int .u8 21, .int .u8 19, .int .u8 16, .int .u8 7, .int .u8 26, .int .u8 12, .int .u8 18, .int .u8 6, .int .u8 11, .int .u8 5, .int .u8 10, .int .u8 9]
def tab64 : Array Value := #[.int .u8 0, .int .u8 1, .int .u8 56, .int .u8 2, .int .u8 57, .int .u8 49, .int .u8 28, .int .u8 3, .int .u8 61, .int .u8 58, .int .u8 42, .int .u8 50, .int .u8 38, .int .u8 29, .int .u8 17, .int .u8 4, .int .u8 62, .int .u8 47, .int .u8 59, .int .u8 36, .int .u8 45, .int .u8 43, .int .u8 51, .int .u8 22, .int .u8 53, .int .u8 39, .int .u8 33, .int .u8 30, .int .u8 24, .int .u8 18, .int .u8 12, .int .u8 5, .int .u8 63, .int .u8 55, .int .u8 48, .int .u8 27, .int .u8 60, .int .u8 41, .int .u8 37, .int .u8 16, .int .u8 46, .int .u8 35, .int .u8 44, .int .u8 21, .int .u8 52, .int .u8 32, .int .u8 23, .int .u8 11, .int .u8 54, .int .u8 26, .int .u8 40, .int .u8 15, .int .u8 34, .int .u8 20, .int .u8 31, .int .u8 10, .int .u8 25, .int .u8 14, .int .u8 19, .int .u8 9, .int .u8 13, .int .u8 8, .int .u8 7, .int .u8 6]
def tab10 : Array Value := #[.int .u64 1, .int .u64 10, .int .u64 100, .int .u64 1000, .int .u64 10000, .int .u64 100000, .int .u64 1000000, .int .u64 10000000, .int .u64 100000000, .int .u64 1000000000, .int .u64 10000000000, .int .u64 100000000000, .int .u64 1000000000000, .int .u64 10000000000000, .int .u64 100000000000000, .int .u64 1000000000000000, .int .u64 10000000000000000, .int .u64 100000000000000000, .int .u64 1000000000000000000, .int .u64 10000000000000000000]
def layObj (a : Array Value) : Obj → Obj
  | .cells _ t frozen => .cells a t frozen
  | o => o
noncomputable def laidWorld (os : Os) : World :=
  { World.holding Tryz.prog os ⟨#[], #[], []⟩ with heap := (((World.holding Tryz.prog os ⟨#[], #[], []⟩).heap.modify 0 (layObj tab10)).modify 1 (layObj tab32)).modify 2 (layObj tab64) }
end Go.Proofs.YtkdolgnpkjihpaaGreatDoor
