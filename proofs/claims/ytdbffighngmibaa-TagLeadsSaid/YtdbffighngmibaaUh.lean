/-
  Walks of the specification of what can be merged.
-/
import Derived.Test.YtdbffighngmibaaUg
namespace Go.Proofs.Ytdbffighngmibaa
open Go.RowKit
set_option linter.unusedVariables false
set_option linter.unusedSimpArgs false
theorem rUsed_s {w0 : World} {H : List (Nat × Obj)} (q2 : Option Addr) (cap2 : Nat) (tg : List Int) (ht : IntArr w0 H q2 tg) (htl : tg.length ≤ 100000) :
    FSpec Try.prog w0 48 #[.slice q2 tg.length cap2] H (fun v H' => ∃ d : Sl, v = slV d (usedF tg).length ∧ SlOk d (usedF tg).length 1 ∧ H' = slH d ((usedF tg).flatMap encI) 3 ++ H) := by
  refine fn_spec Try.func48 rfl Try.ntmps48 rfl (j_seq (j_region (y_ (yl_assign ev_c) (jl_nil (q_then (j_seq (j_region (y_ (yl_assign ev_c) (jl_nil (q_then (j_seq (j_seq (j_region (y_ (yl_assign ev_c) (jl_nil (q_then (j_block ?_))) rfl)))))) rfl))))) rfl)))
  refine j_loopC (X := Nat × Sl) (V := fun ⟨j, d⟩ => [(4, .int .i64 ((j : Int) + 1)), (3, slV d (usedTo tg j).length)]) (C := [(0, _)]) (G := fun ⟨j, d⟩ => slH d ((usedTo tg j).flatMap encI) 3 ++ H) (φ := fun ⟨j, d⟩ => j ≤ 65535 ∧ SlOk d (usedTo tg j).length 1) (μ := fun ⟨j, d⟩ => 65535 - j) (x0 := (0, .nil)) ?_ ⟨at_f rfl, trivial⟩ ⟨(by first | exact at_f rfl | (refine at_e (at_f rfl) (vint ?_); omega) | (refine at_e (at_f rfl) ?_; simp; done)), (by first | exact at_f rfl | (refine at_e (at_f rfl) (vint ?_); omega) | (refine at_e (at_f rfl) ?_; simp; done)), trivial⟩ sb0 ?_
  · exact ⟨Nat.zero_le _, rfl⟩
  rintro ⟨j, d⟩ ⟨hj, hok⟩
  have hul := usedTo_len tg j
  refine j_seq (j_seq (j_region (y_ (yl_move (T rfl)) (y_ (yl_leq (T rfl) ev_c) (jl_nil (q_then ?_)) rfl) rfl)))
  first | refine j_cond_d (at_f rfl) (fun c8 => ?_) (fun c8 => ?_) | refine j_cond (at_f rfl) (fun c8 => ?_) (fun c8 => ?_)
  · refine j_skip (q_then (j_seq (j_block (j_seq (j_region (y_ (yl_assign ev_c) (jl_nil (q_then (j_seq (j_seq (j_region (y_ (yl_assign ev_c) (jl_nil (q_then (j_block ?_))) rfl)))))) rfl))))))
    refine j_loopH (X := Bool × Nat) (V := fun ⟨b, k⟩ => [(5, .bool b), (6, .int .i64 (k : Nat))]) (C := [(0, _), (3, _), (4, _)]) (φ := fun ⟨b, k⟩ => k ≤ tg.length ∧ b = (tg.take k).contains ((j : Int) + 1)) (μ := fun ⟨b, k⟩ => tg.length - k) (x0 := (false, 0)) ?_ ⟨at_f rfl, at_f rfl, at_f rfl, trivial⟩ ⟨(by first | exact at_f rfl | (refine at_e (at_f rfl) (vint ?_); omega) | (refine at_e (at_f rfl) ?_; simp; done)), (by first | exact at_f rfl | (refine at_e (at_f rfl) (vint ?_); omega) | (refine at_e (at_f rfl) ?_; simp; done)), trivial⟩ ?_
    · exact ⟨Nat.zero_le _, by simp⟩
    rintro ⟨b, k⟩ ⟨hk, hb⟩
    refine j_seq (j_seq (j_region (y_ (yl_move (T rfl)) (y_ (yl_move (T rfl)) (y_ (yl_len (T rfl) Try.runUnderlying28) (y_ (yl_lss (T rfl) (T rfl)) (jl_nil (q_then ?_)) rfl) rfl) rfl) rfl)))
    first | refine j_cond_d (at_f rfl) (fun c14 => ?_) (fun c14 => ?_) | refine j_cond (at_f rfl) (fun c14 => ?_) (fun c14 => ?_)
    · refine j_skip (q_then (j_seq (j_block (j_region (y_ (yl_move (T rfl)) (y_ (yl_move (T rfl)) ?_ rfl) rfl)))))
      first | refine jl_if_d (s := 18) (at_f rfl) (fun c18 => ?_) (fun c18 => ?_) | refine jl_if (s := 18) (at_f rfl) (fun c18 => ?_) (fun c18 => ?_)
      · refine n_tf (n_tf (n_tf (n_tf (n_tf (n_tf (y_ (yl_pick_t (T rfl) ev_c) (y_ (yl_assign (T rfl)) (jl_nil (q_block (q_then (j_region (y_ (yl_move (T rfl)) (y_ (yl_add (T rfl) ev_c (by omega)) ?_ rfl) rfl))))) rfl) rfl) rfl rfl rfl rfl) rfl rfl rfl rfl) rfl rfl rfl rfl) rfl rfl rfl rfl) rfl rfl rfl rfl) rfl rfl rfl rfl
        refine y_ (yl_assign (T rfl)) (jl_nil ?_) rfl
        refine q_loopC ((true, k + 1)) ?_ ?_ ⟨(by first | exact at_f rfl | (refine at_e (at_f rfl) (vint ?_); omega) | (refine at_e (at_f rfl) ?_; simp; done)), (by first | exact at_f rfl | (refine at_e (at_f rfl) (vint ?_); omega) | (refine at_e (at_f rfl) ?_; simp; done)), trivial⟩ ⟨at_f rfl, at_f rfl, at_f rfl, trivial⟩ ?_
        · exact ⟨by omega, by rw [contains_take_succ (by omega), ← hb, c18]; rfl⟩
        · first | omega | (simp only []; omega)
        · exact sbt
      · refine jl_y (yl_move (T rfl)) rfl (gd_y rfl rfl (at_f rfl)) (jl_y (yl_move (T rfl)) rfl (gd_y rfl rfl (at_f rfl)) (jl_y (yl_ixQ (T rfl) (T rfl) Try.runUnderlying28 Try.sizeOf3 (by omega) (by first | exact rfl | exact ht.b (i := k) (by omega))) rfl (gd_y rfl rfl (at_f rfl)) ?_))
        refine jl_y (yl_load (T rfl) Try.isAgg3 (by first | exact c_o | exact c_m (ht.f0 (i := k) (by omega) rfl))) rfl (gd_y rfl rfl (at_f rfl)) ?_
        refine jl_y (yl_move (T rfl)) rfl (gd_y rfl rfl (at_f rfl)) (jl_y (yl_eql (T rfl) (T rfl)) rfl (gd_y rfl rfl (at_f rfl)) (y_ (yl_pick_f (T rfl) (T rfl)) (y_ (yl_assign (T rfl)) (jl_nil (q_block (q_then (j_region (y_ (yl_move (T rfl)) (y_ (yl_add (T rfl) ev_c (by omega)) ?_ rfl) rfl))))) rfl) rfl))
        refine y_ (yl_assign (T rfl)) (jl_nil ?_) rfl
        refine q_loopC ((decide (gd tg k = (j : Int) + 1), k + 1)) ?_ ?_ ⟨(by first | exact at_f rfl | (refine at_e (at_f rfl) (vint ?_); omega) | (refine at_e (at_f rfl) ?_; simp; done)), (by first | exact at_f rfl | (refine at_e (at_f rfl) (vint ?_); omega) | (refine at_e (at_f rfl) ?_; simp; done)), trivial⟩ ⟨at_f rfl, at_f rfl, at_f rfl, trivial⟩ ?_
        · exact ⟨by omega, by rw [contains_take_succ (by omega), ← hb, c18]; rfl⟩
        · first | omega | (simp only []; omega)
        · exact sbt
    · refine j_exit (q_then_exit (q_loop_exit (q_block_hit (q_then (j_seq (j_region (y_ (yl_move (T rfl)) (jl_nil (q_then ?_)) rfl)))))))
      first | refine j_cond_d (at_f rfl) (fun c26 => ?_) (fun c26 => ?_) | refine j_cond (at_f rfl) (fun c26 => ?_) (fun c26 => ?_)
      · refine j_region (y_ (yl_move (T rfl)) (y_ (yl_move (T rfl)) (e_ (eff_bslice (.cons (T rfl) .nil) (bs28_1_0 _)) ?_ rfl) rfl) rfl)
        rintro _ _ ⟨n29, rfl, rfl⟩
        refine e_ (eff_app1_at ((j : Int) + 1) (by' := 8) (by repeat (first | exact LocL.h | apply LocL.t | apply LocL.a)) (T rfl) (T rfl) Try.runUnderlying28 Try.runUnderlying28 Try.sizeOf3 Try.typeInfo3 rfl Try.zeroValue3 rfl (fun _ => rfl) rfl hok (by decide) (by omega)) ?_ rfl
        rintro _ _ ⟨d', rfl, hok', rfl⟩
        refine y_ (yl_assign (T rfl)) (jl_nil (q_block (q_then (j_region (y_ (yl_move (T rfl)) (y_ (yl_add (T rfl) ev_c (by omega)) ?_ rfl) rfl))))) rfl
        refine y_ (yl_assign (T rfl)) (jl_nil ?_) rfl
        have hsu := usedTo_succ tg j
        rw [show tg.take k = tg from List.take_of_length_le (by omega)] at hb
        first
          | (have hin : tg.contains ((j : Int) + 1) = true := by rw [← hb]; exact c26
             rw [if_pos hin] at hsu
             rw [show (usedTo tg j).length + 1 = (usedTo tg (j + 1)).length by rw [hsu]; simp] at *
             rw [← hsu]
             refine q_loopC (j + 1, d') ?_ ?_ ⟨by first | exact at_f rfl | (refine at_e (at_f rfl) (vint ?_); simp; done), at_f rfl, trivial⟩ ⟨at_f rfl, trivial⟩ sbt
             · exact ⟨by omega, hok'⟩
             · simp only []; omega)
          | (have hin : ¬ tg.contains ((j : Int) + 1) = true := by rw [← hb]; simpa using c26
             rw [if_neg hin] at hsu
             have hG : (slH d ((usedTo tg (j + 1)).flatMap encI) 3 ++ H).Sublist (slH d ((usedTo tg j).flatMap encI) 3 ++ H) := by rw [hsu]; exact sb0
             refine q_loopC (j + 1, d) ?_ ?_ ⟨by first | exact at_f rfl | (refine at_e (at_f rfl) (vint ?_); simp; done), by (refine at_e (at_f rfl) ?_; rw [hsu]), trivial⟩ ⟨at_f rfl, trivial⟩ hG
             · exact ⟨by omega, by rw [hsu]; exact hok⟩
             · simp only []; omega)
      · refine j_skip (q_block (q_then (j_region (y_ (yl_move (T rfl)) (y_ (yl_add (T rfl) ev_c (by omega)) ?_ rfl) rfl))))
        refine y_ (yl_assign (T rfl)) (jl_nil ?_) rfl
        have hsu := usedTo_succ tg j
        rw [show tg.take k = tg from List.take_of_length_le (by omega)] at hb
        first
          | (have hin : tg.contains ((j : Int) + 1) = true := by rw [← hb]; exact c26
             rw [if_pos hin] at hsu
             rw [show (usedTo tg j).length + 1 = (usedTo tg (j + 1)).length by rw [hsu]; simp] at *
             rw [← hsu]
             refine q_loopC (j + 1, d') ?_ ?_ ⟨by first | exact at_f rfl | (refine at_e (at_f rfl) (vint ?_); simp; done), at_f rfl, trivial⟩ ⟨at_f rfl, trivial⟩ sbt
             · exact ⟨by omega, hok'⟩
             · simp only []; omega)
          | (have hin : ¬ tg.contains ((j : Int) + 1) = true := by rw [← hb]; simpa using c26
             rw [if_neg hin] at hsu
             have hG : (slH d ((usedTo tg (j + 1)).flatMap encI) 3 ++ H).Sublist (slH d ((usedTo tg j).flatMap encI) 3 ++ H) := by rw [hsu]; exact sb0
             refine q_loopC (j + 1, d) ?_ ?_ ⟨by first | exact at_f rfl | (refine at_e (at_f rfl) (vint ?_); simp; done), by (refine at_e (at_f rfl) ?_; rw [hsu]), trivial⟩ ⟨at_f rfl, trivial⟩ hG
             · exact ⟨by omega, by rw [hsu]; exact hok⟩
             · simp only []; omega)
  · refine j_exit (q_then_exit (q_loop_exit (q_block_hit (q_then (j_seq (j_region (y_ (yl_move (T rfl)) (y_ (yl_assign (T rfl)) (jl_nil (q_then (j_ret (q_ret rfl (.tmp (at_f rfl) .nil) ?_)))) rfl) rfl)))))))
    have e : j = 65535 := by omega
    subst e
    exact ⟨_, ⟨d, rfl, hok, rfl⟩, sbt⟩
theorem rApart_s {w0 : World} {H : List (Nat × Obj)} (n : Nm) (hn : NetM w0 H n) (q : Option Addr) (cap : Nat) (l : List Wm) (hw : WaysM w0 H q l) (hg : Gw n l) (hl5 : l.length ≤ 100000) (q2 : Option Addr) (cap2 : Nat) (tg : List Int) (ht : IntArr w0 H q2 tg) (htl : tg.length ≤ 100000) (hel : tg.length = l.length) (s t : Int) :
    FSpec Try.prog w0 49 #[.agg (encNm n).toArray, .slice q l.length cap, .slice q2 tg.length cap2, .int .i64 s, .int .i64 t] H (Still (.bool (apI n l tg s t)) H) := by
  refine fn_spec Try.func49 rfl Try.ntmps49 rfl (j_seq (j_region (e_ (eff_box (T rfl) cs_) ?_ rfl)))
  rintro _ _ ⟨n5, rfl, rfl⟩
  refine y_ (yl_assign ev_c) (jl_nil (q_then (j_seq (j_seq (j_region (y_ (yl_assign ev_c) (jl_nil (q_then (j_block ?_))) rfl)))))) rfl
  refine j_loopH (X := Nat) (V := fun k => [(11, .int .i64 (k : Nat))]) (C := [(1, _), (2, _), (3, _), (4, _), (5, _)]) (φ := fun k => k ≤ l.length ∧ ∀ i, i < k → gd tg i = s → freeI n.links n.nodes.length l tg t (gd l i).way = true) (μ := fun k => l.length - k) (x0 := 0) ?_ ⟨at_f rfl, at_f rfl, at_f rfl, at_f rfl, at_f rfl, trivial⟩ ⟨(by first | exact at_f rfl | (refine at_e (at_f rfl) (vint ?_); omega) | (refine at_e (at_f rfl) ?_; simp; done)), trivial⟩ ?_
  · exact ⟨Nat.zero_le _, fun i hi => by omega⟩
  rintro k ⟨hk, hall⟩
  refine j_seq (j_seq (j_region (y_ (yl_move (T rfl)) (y_ (yl_move (T rfl)) (y_ (yl_len (T rfl) Try.runUnderlying27) (y_ (yl_lss (T rfl) (T rfl)) (jl_nil (q_then ?_)) rfl) rfl) rfl) rfl)))
  first | refine j_cond_d (at_f rfl) (fun c15 => ?_) (fun c15 => ?_) | refine j_cond (at_f rfl) (fun c15 => ?_) (fun c15 => ?_)
  · refine j_skip (q_then (j_seq (j_block (j_seq (j_any 18 [(0, true), (1, true), (2, true), (3, true), (4, true), (5, true), (6, true), (7, true), (8, true), (9, true), (10, true), (11, true), (12, true), (13, true), (14, true), (15, true), (16, true), (17, true)] _ mixd (by kernel_rfl) sb0 ?_)))))
    refine o_y rfl (yl_move (T rfl)) (o_y rfl (yl_move (T rfl)) (o_y rfl (yl_ixQ (T rfl) (T rfl) Try.runUnderlying28 Try.sizeOf3 (by omega) (by first | exact rfl | exact hw.arr.b (i := k) (by omega) | exact ht.b (i := k) (by omega))) ?_ rfl gd_n) rfl gd_n) rfl gd_n
    refine o_y rfl (yl_load (T rfl) Try.isAgg3 (by first | exact c_o | exact c_m (ht.f0 (i := k) (by omega) rfl))) ?_ rfl gd_n
    refine o_y rfl (yl_move (T rfl)) (o_y rfl (yl_eql (T rfl) (T rfl)) (o_y rfl (yl_move (T rfl)) ?_ rfl gd_n) rfl gd_n) rfl gd_n
    first | refine o_if_d (s := 24) (at_f rfl) (fun c24 => ?_) (fun c24 => ?_) | refine o_if (s := 24) (at_f rfl) (fun c24 => ?_) (fun c24 => ?_)
    · refine o_y rfl (yl_loadA (T rfl) Try.isAgg26 Try.sizeOf26 rfl (by first | exact cs_o | exact cs_m (ht.f0 (i := k) (by omega) rfl))) ?_ rfl (gd_y rfl rfl (at_f rfl))
      refine o_y rfl (yl_move (T rfl)) (o_y rfl (yl_move (T rfl)) (o_y rfl (yl_move (T rfl)) (o_y rfl (yl_move (T rfl)) (o_y rfl (yl_move (T rfl)) (o_y rfl (yl_ixQ (T rfl) (T rfl) Try.runUnderlying27 Try.sizeOf48 (by omega) (by first | exact rfl | exact hw.arr.b (i := k) (by omega) | exact ht.b (i := k) (by omega))) ?_ rfl (gd_y rfl rfl (at_f rfl))) rfl (gd_y rfl rfl (at_f rfl))) rfl (gd_y rfl rfl (at_f rfl))) rfl (gd_y rfl rfl (at_f rfl))) rfl (gd_y rfl rfl (at_f rfl))) rfl (gd_y rfl rfl (at_f rfl))
      refine o_y rfl (yl_loadA (T rfl) Try.isAgg48 Try.sizeOf48 rfl (by first | exact cs_o | exact cs_m (hw.arr.cs (i := k) (by omega)) | exact cs_m (ht.f0 (i := k) (by omega) rfl))) ?_ rfl (gd_y rfl rfl (at_f rfl))
      refine o_y rfl (yl_call (.cons (T rfl) (.cons (T rfl) (.cons (T rfl) (.cons (T rfl) (.cons (T rfl) .nil))))) Try.call42 (fun H' hs => free_s n (hn.mono (List.Sublist.trans sbt hs)) _ _ l (hw.mono (List.Sublist.trans sbt hs)) hg hl5 _ _ tg (ht.m (List.Sublist.trans sbt hs)) (by omega) _ (gd l k) ((hw.at (i := k) (by omega)).mono (List.Sublist.trans sbt hs)) (gd_mem (by omega)))) ?_ rfl (gd_y rfl rfl (at_f rfl))
      first | refine o_y rfl (yl_not_d (T rfl)) ?_ rfl (gd_y rfl rfl (at_f rfl)) | refine o_y rfl (yl_not (T rfl)) ?_ rfl (gd_y rfl rfl (at_f rfl))
      refine o_y rfl (yl_pick_t (T rfl) (T rfl)) (jo_nil rfl (jl_nil (q_then (j_keep [(1, _), (2, _), (3, _), (4, _), (5, _), (11, _), (35, _)] ⟨at_f rfl, at_f rfl, at_f rfl, at_f rfl, at_f rfl, at_f rfl, at_f rfl, trivial⟩ ?_)))) rfl gd_n
      first | refine j_cond_d (at_f rfl) (fun c35 => ?_) (fun c35 => ?_) | refine j_cond (at_f rfl) (fun c35 => ?_) (fun c35 => ?_)
      · refine j_seq (j_region (y_ (yl_assign ev_c) (jl_nil (q_then (j_ret (q_block_ret (q_then_ret (q_loop_ret (q_block_ret (q_then_ret (q_ret rfl (.tmp (at_f rfl) .nil) ?_))))))))) rfl))
        exact ⟨_, ⟨vbool (by symm; rw [Bool.eq_false_iff]; intro h; have h := apI_iff.1 h; rw [h k (by omega) c24] at c35; cases c35), rfl⟩, sbt⟩
      · refine j_skip (q_block (q_then (j_region (y_ (yl_move (T rfl)) (y_ (yl_add (T rfl) ev_c (by omega)) ?_ rfl) rfl))))
        refine y_ (yl_assign (T rfl)) (jl_nil ?_) rfl
        refine q_loopC (k + 1) ?_ ?_ ⟨(by first | exact at_f rfl | (refine at_e (at_f rfl) (vint ?_); omega) | (refine at_e (at_f rfl) ?_; simp; done)), trivial⟩ ⟨at_f rfl, at_f rfl, at_f rfl, at_f rfl, at_f rfl, trivial⟩ ?_
        · refine ⟨by omega, fun i hi hti => ?_⟩
          by_cases e : i = k
          · subst e; first | exact absurd hti c24 | simpa using c35
          · exact hall i (by omega) hti
        · first | omega | (simp only []; omega)
        · exact sbt
    · refine o_n rfl (o_n rfl (o_n rfl (o_n rfl (o_n rfl (o_n rfl (o_n rfl (o_n rfl (o_n rfl (o_n rfl (o_y rfl (yl_pick_f (T rfl) ev_c) (jo_nil rfl (jl_nil (q_then (j_keep [(1, _), (2, _), (3, _), (4, _), (5, _), (11, _), (35, _)] ⟨at_f rfl, at_f rfl, at_f rfl, at_f rfl, at_f rfl, at_f rfl, at_f rfl, trivial⟩ (j_cond_f (at_f rfl) (j_skip (q_block (q_then (j_region (y_ (yl_move (T rfl)) (y_ (yl_add (T rfl) ev_c (by omega)) ?_ rfl) rfl)))))))))) rfl gd_n) rfl (nw_ft rfl rfl (at_f rfl))) rfl (nw_ft rfl rfl (at_f rfl))) rfl (nw_ft rfl rfl (at_f rfl))) rfl (nw_ft rfl rfl (at_f rfl))) rfl (nw_ft rfl rfl (at_f rfl))) rfl (nw_ft rfl rfl (at_f rfl))) rfl (nw_ft rfl rfl (at_f rfl))) rfl (nw_ft rfl rfl (at_f rfl))) rfl (nw_ft rfl rfl (at_f rfl))) rfl (nw_ft rfl rfl (at_f rfl))
      refine y_ (yl_assign (T rfl)) (jl_nil ?_) rfl
      refine q_loopC (k + 1) ?_ ?_ ⟨(by first | exact at_f rfl | (refine at_e (at_f rfl) (vint ?_); omega) | (refine at_e (at_f rfl) ?_; simp; done)), trivial⟩ ⟨at_f rfl, at_f rfl, at_f rfl, at_f rfl, at_f rfl, trivial⟩ ?_
      · refine ⟨by omega, fun i hi hti => ?_⟩
        by_cases e : i = k
        · subst e; first | exact absurd hti c24 | simpa using c35
        · exact hall i (by omega) hti
      · first | omega | (simp only []; omega)
      · exact sbt
  · refine j_exit (q_then_exit (q_loop_exit (q_block_hit (q_then (j_seq (j_region (y_ (yl_assign ev_c) (jl_nil (q_then (j_ret (q_ret rfl (.tmp (at_f rfl) .nil) ?_)))) rfl)))))))
    exact ⟨_, ⟨vbool (by symm; exact apI_iff.2 fun i hi => hall i (by omega)), rfl⟩, sbt⟩
theorem rMerge_s {w0 : World} {H : List (Nat × Obj)} (n : Nm) (hn : NetM w0 H n) (q : Option Addr) (cap : Nat) (l : List Wm) (hw : WaysM w0 H q l) (hg : Gw n l) (hl5 : l.length ≤ 100000) (q2 : Option Addr) (cap2 : Nat) (tg : List Int) (ht : IntArr w0 H q2 tg) (htl : tg.length ≤ 100000) (hel : tg.length = l.length) :
    FSpec Try.prog w0 17 #[.agg (encNm n).toArray, .slice q l.length cap, .slice q2 tg.length cap2] H (fun v H' => v = .tuple #[.int .i64 (mgOr (mgL (apI n l tg) (usedF tg))).1, .int .i64 (mgOr (mgL (apI n l tg) (usedF tg))).2, .bool (mgL (apI n l tg) (usedF tg)).isSome] ∧ H' = H) := by
  refine fn_spec Try.func17 rfl Try.ntmps17 rfl (j_seq (j_region (e_ (eff_box (T rfl) cs_) ?_ rfl)))
  rintro _ _ ⟨n3, rfl, rfl⟩
  refine y_ (yl_assign ev_c) (y_ (yl_assign ev_c) (y_ (yl_assign ev_c) (jl_nil (q_then (j_seq (j_region (y_ (yl_move (T rfl)) (e_ (eff_call (.cons (T rfl) .nil) Try.call48 (rUsed_s _ _ tg ht.m htl)) ?_ rfl) rfl))))) rfl) rfl) rfl
  rintro _ _ ⟨d, rfl, hok, rfl⟩
  generalize hus : usedF tg = us at *
  have hul : us.length ≤ 65535 := by rw [← hus]; exact usedTo_len tg 65535
  refine y_ (yl_assign (T rfl)) (jl_nil (q_then (j_seq (j_seq (j_region (y_ (yl_assign ev_c) (jl_nil (q_then (j_block ?_))) rfl)))))) rfl
  refine j_loopH (X := Nat) (V := fun i => [(10, .int .i64 (i : Nat))]) (C := [(1, _), (2, _), (3, _), (9, _)]) (φ := fun i => i ≤ us.length ∧ mgL (apI n l tg) (us.drop i) = mgL (apI n l tg) us) (μ := fun i => us.length - i) (x0 := 0) ?_ ⟨at_f rfl, at_f rfl, at_f rfl, at_f rfl, trivial⟩ ⟨(by first | exact at_f rfl | (refine at_e (at_f rfl) (vint ?_); omega) | (refine at_e (at_f rfl) ?_; simp; done)), trivial⟩ ?_
  · exact ⟨Nat.zero_le _, rfl⟩
  rintro i ⟨hi, hmg⟩
  refine j_seq (j_seq (j_region (y_ (yl_move (T rfl)) (y_ (yl_move (T rfl)) (y_ (yl_len (T rfl) Try.runUnderlying28) (y_ (yl_lss (T rfl) (T rfl)) (jl_nil (q_then ?_)) rfl) rfl) rfl) rfl)))
  first | refine j_cond_d (at_f rfl) (fun c17 => ?_) (fun c17 => ?_) | refine j_cond (at_f rfl) (fun c17 => ?_) (fun c17 => ?_)
  · refine j_skip (q_then (j_seq (j_block (j_seq (j_region (y_ (yl_move (T rfl)) (y_ (yl_add (T rfl) ev_c (by omega)) ?_ rfl) rfl))))))
    refine y_ (yl_assign (T rfl)) (jl_nil (q_then (j_block ?_))) rfl
    refine j_loopH (X := Nat) (V := fun k => [(11, .int .i64 (k : Nat))]) (C := [(1, _), (2, _), (3, _), (9, _), (10, _)]) (φ := fun k => k ≤ us.length ∧ i < k ∧ (us.drop k).find? (apI n l tg (gd us i)) = (us.drop (i + 1)).find? (apI n l tg (gd us i))) (μ := fun k => us.length - k) (x0 := i + 1) ?_ ⟨at_f rfl, at_f rfl, at_f rfl, at_f rfl, at_f rfl, trivial⟩ ⟨(by first | exact at_f rfl | (refine at_e (at_f rfl) (vint ?_); omega) | (refine at_e (at_f rfl) ?_; simp; done)), trivial⟩ ?_
    · exact ⟨by omega, by omega, rfl⟩
    rintro k ⟨hk, hik, hfd⟩
    refine j_seq (j_seq (j_region (y_ (yl_move (T rfl)) (y_ (yl_move (T rfl)) (y_ (yl_len (T rfl) Try.runUnderlying28) (y_ (yl_lss (T rfl) (T rfl)) (jl_nil (q_then ?_)) rfl) rfl) rfl) rfl)))
    first | refine j_cond_d (at_f rfl) (fun c25 => ?_) (fun c25 => ?_) | refine j_cond (at_f rfl) (fun c25 => ?_) (fun c25 => ?_)
    · refine j_skip (q_then (j_seq (j_block (j_seq (j_any 12 [(0, true), (1, true), (2, true), (3, true), (4, true), (5, true), (6, true), (7, true), (8, true), (9, true), (10, true), (11, true)] _ mixd (by kernel_rfl) sb0 ?_)))))
      refine o_y rfl (yl_loadA (T rfl) Try.isAgg26 Try.sizeOf26 rfl (by first | exact cs_o | exact (Cell.mono (((sl_arr (enc := encI) (sz := 1) (e := 3) (X := H) (fun _ => rfl) hok)).f0 (i := i) (by omega) rfl) sbt) | exact (Cell.mono (((sl_arr (enc := encI) (sz := 1) (e := 3) (X := H) (fun _ => rfl) hok)).f0 (i := k) (by omega) rfl) sbt))) ?_ rfl gd_n
      refine o_y rfl (yl_move (T rfl)) (o_y rfl (yl_move (T rfl)) (o_y rfl (yl_move (T rfl)) (o_y rfl (yl_move (T rfl)) (o_y rfl (yl_ixR (T rfl) (T rfl) Try.runUnderlying28 Try.sizeOf3 (by omega) (by first | exact rfl | exact hok.bas (by omega))) ?_ rfl gd_n) rfl gd_n) rfl gd_n) rfl gd_n) rfl gd_n
      refine o_y rfl (yl_load (T rfl) Try.isAgg3 (by first | exact c_o | exact (Cell.mono (((sl_arr (enc := encI) (sz := 1) (e := 3) (X := H) (fun _ => rfl) hok)).f0 (i := i) (by omega) rfl) sbt) | exact (Cell.mono (((sl_arr (enc := encI) (sz := 1) (e := 3) (X := H) (fun _ => rfl) hok)).f0 (i := k) (by omega) rfl) sbt))) ?_ rfl gd_n
      refine o_y rfl (yl_move (T rfl)) (o_y rfl (yl_move (T rfl)) (o_y rfl (yl_ixQ (T rfl) (T rfl) Try.runUnderlying28 Try.sizeOf3 (by omega) (by first | exact rfl | exact hok.bas (by omega))) ?_ rfl gd_n) rfl gd_n) rfl gd_n
      refine o_y rfl (yl_load (T rfl) Try.isAgg3 (by first | exact c_o | exact (Cell.mono (((sl_arr (enc := encI) (sz := 1) (e := 3) (X := H) (fun _ => rfl) hok)).f0 (i := i) (by omega) rfl) sbt) | exact (Cell.mono (((sl_arr (enc := encI) (sz := 1) (e := 3) (X := H) (fun _ => rfl) hok)).f0 (i := k) (by omega) rfl) sbt))) ?_ rfl gd_n
      refine o_y rfl (yl_call (.cons (T rfl) (.cons (T rfl) (.cons (T rfl) (.cons (T rfl) (.cons (T rfl) .nil))))) Try.call49 (fun H' hs => rApart_s n (hn.mono (List.Sublist.trans sbt hs)) _ _ l (hw.mono (List.Sublist.trans sbt hs)) hg hl5 _ _ tg (ht.m (List.Sublist.trans sbt hs)) htl hel _ _)) (jo_nil rfl (jl_nil (q_then ?_))) rfl gd_n
      first | refine j_cond_d (at_f rfl) (fun c39 => ?_) (fun c39 => ?_) | refine j_cond (at_f rfl) (fun c39 => ?_) (fun c39 => ?_)
      · refine j_seq (j_any 11 [(0, true), (1, true), (2, true), (3, true), (4, true), (5, true), (6, true), (7, true), (8, true), (9, true), (10, true)] _ mixd (by kernel_rfl) sb0 ?_)
        refine o_y rfl (yl_move (T rfl)) (o_y rfl (yl_move (T rfl)) (o_y rfl (yl_ixR (T rfl) (T rfl) Try.runUnderlying28 Try.sizeOf3 (by omega) (by first | exact rfl | exact hok.bas (by omega))) ?_ rfl gd_n) rfl gd_n) rfl gd_n
        refine o_y rfl (yl_load (T rfl) Try.isAgg3 (by first | exact c_o | exact (Cell.mono (((sl_arr (enc := encI) (sz := 1) (e := 3) (X := H) (fun _ => rfl) hok)).f0 (i := i) (by omega) rfl) sbt) | exact (Cell.mono (((sl_arr (enc := encI) (sz := 1) (e := 3) (X := H) (fun _ => rfl) hok)).f0 (i := k) (by omega) rfl) sbt))) ?_ rfl gd_n
        refine o_y rfl (yl_move (T rfl)) (o_y rfl (yl_move (T rfl)) (o_y rfl (yl_ixQ (T rfl) (T rfl) Try.runUnderlying28 Try.sizeOf3 (by omega) (by first | exact rfl | exact hok.bas (by omega))) ?_ rfl gd_n) rfl gd_n) rfl gd_n
        refine o_y rfl (yl_load (T rfl) Try.isAgg3 (by first | exact c_o | exact (Cell.mono (((sl_arr (enc := encI) (sz := 1) (e := 3) (X := H) (fun _ => rfl) hok)).f0 (i := i) (by omega) rfl) sbt) | exact (Cell.mono (((sl_arr (enc := encI) (sz := 1) (e := 3) (X := H) (fun _ => rfl) hok)).f0 (i := k) (by omega) rfl) sbt))) ?_ rfl gd_n
        refine o_y rfl (yl_assign (T rfl)) (o_y rfl (yl_assign (T rfl)) (o_y rfl (yl_assign ev_c) (jo_nil rfl (jl_nil (q_then (j_keep [(6, _), (7, _), (8, _)] ⟨at_f rfl, at_f rfl, at_f rfl, trivial⟩ (j_ret (q_block_ret (q_then_ret (q_loop_ret (q_block_ret (q_block_ret (q_then_ret (q_loop_ret (q_block_ret (q_then_ret (q_ret rfl (.tmp (at_f rfl) (.tmp (at_f rfl) (.tmp (at_f rfl) .nil))) ?_))))))))))))))) rfl gd_n) rfl gd_n) rfl gd_n
        have e : mgL (apI n l tg) us = some (gd us i, gd us k) := by rw [← hmg, mg_go (i := i) (by omega), ← hfd, find_go (k := k) (by omega), if_pos c39]
        exact ⟨_, ⟨by rw [e]; rfl, rfl⟩, sbt⟩
      · refine j_skip (q_block (q_then (j_region (y_ (yl_move (T rfl)) (y_ (yl_add (T rfl) ev_c (by omega)) ?_ rfl) rfl))))
        refine y_ (yl_assign (T rfl)) (jl_nil ?_) rfl
        refine q_loopC (k + 1) ?_ ?_ ⟨(by first | exact at_f rfl | (refine at_e (at_f rfl) (vint ?_); omega) | (refine at_e (at_f rfl) ?_; simp; done)), trivial⟩ ⟨at_f rfl, at_f rfl, at_f rfl, at_f rfl, at_f rfl, trivial⟩ ?_
        · exact ⟨by omega, by omega, by rw [← hfd, find_go (k := k) (by omega), if_neg (by simpa using c39)]⟩
        · first | omega | (simp only []; omega)
        · exact sbt
    · refine j_exit (q_then_exit (q_loop_exit (q_block_hit (q_block (q_then (j_region (y_ (yl_move (T rfl)) (y_ (yl_add (T rfl) ev_c (by omega)) ?_ rfl) rfl)))))))
      refine y_ (yl_assign (T rfl)) (jl_nil ?_) rfl
      refine q_loopC (i + 1) ?_ ?_ ⟨(by first | exact at_f rfl | (refine at_e (at_f rfl) (vint ?_); omega) | (refine at_e (at_f rfl) ?_; simp; done)), trivial⟩ ⟨at_f rfl, at_f rfl, at_f rfl, at_f rfl, trivial⟩ ?_
      · rw [drop_end (l := us) (k := k) (by omega)] at hfd
        exact ⟨by omega, by rw [← hmg, mg_go (i := i) (by omega), ← hfd]; rfl⟩
      · first | omega | (simp only []; omega)
      · exact sbt
  · refine j_exit (q_then_exit (q_loop_exit (q_block_hit (q_then (j_seq (j_region (y_ (yl_assign ev_c) (y_ (yl_assign ev_c) (y_ (yl_assign ev_c) (jl_nil (q_then (j_ret (q_ret rfl (.tmp (at_f rfl) (.tmp (at_f rfl) (.tmp (at_f rfl) .nil))) ?_)))) rfl) rfl) rfl)))))))
    rw [drop_end (l := us) (k := i) (by omega)] at hmg
    exact ⟨_, ⟨by rw [← hmg]; rfl, rfl⟩, sbt⟩
end Go.Proofs.Ytdbffighngmibaa
