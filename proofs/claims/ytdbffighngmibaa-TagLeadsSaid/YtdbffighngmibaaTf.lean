/-
  Walks of hops.
-/
import Derived.Test.YtdbffighngmibaaTe
namespace Go.Proofs.Ytdbffighngmibaa
open Go.RowKit
set_option linter.unusedVariables false
set_option linter.unusedSimpArgs false
theorem slEqual_s {w0 : World} {H : List (Nat × Obj)} (q q2 : Option Addr) (cap cap2 : Nat) (x y : List Int) (hx : IntArr w0 H q x) (hy : IntArr w0 H q2 y) (hl : x.length ≤ 9223372036854775807) :
    FSpec Try.prog w0 65 #[.slice q x.length cap, .slice q2 y.length cap2] H (Still (.bool (decide (x = y))) H) := by
  refine fn_spec Try.func65 rfl Try.ntmps65 rfl (j_seq (j_region (y_ (yl_assign ev_c) (jl_nil (q_then (j_seq (j_seq (j_region (y_ (yl_move (T rfl)) (y_ (yl_len (T rfl) Try.runUnderlying28) (y_ (yl_move (T rfl)) (y_ (yl_len (T rfl) Try.runUnderlying28) (y_ (yl_neq (T rfl) (T rfl)) (jl_nil (q_then ?_)) rfl) rfl) rfl) rfl) rfl)))))) rfl)))
  first | refine j_cond_d (at_f rfl) (fun c10 => ?_) (fun c10 => ?_) | refine j_cond (at_f rfl) (fun c10 => ?_) (fun c10 => ?_)
  · refine j_seq (j_region (y_ (yl_assign ev_c) (jl_nil (q_then (j_ret (q_then_ret (q_ret rfl (.tmp (at_f rfl) .nil) ?_))))) rfl))
    exact ⟨_, ⟨by rw [decide_eq_false (fun h => c10 (by rw [h]))]; rfl, rfl⟩, sbt⟩
  · refine j_skip (q_then (j_seq (j_seq (j_region (y_ (yl_move (T rfl)) (y_ (yl_len (T rfl) Try.runUnderlying28) (y_ (yl_move ev_c) (jl_nil (q_then (j_block ?_))) rfl) rfl) rfl)))))
    refine j_loopH (X := Nat) (V := fun k => [(13, .int .i64 (k : Nat))]) (C := [(0, _), (1, _), (12, _)]) (φ := fun k => k ≤ x.length ∧ x.take k = y.take k) (μ := fun k => x.length - k) (x0 := 0) ?_ ⟨at_f rfl, at_f rfl, at_f rfl, trivial⟩ ⟨(by first | exact at_f rfl | (refine at_e (at_f rfl) (vint ?_); omega) | (refine at_e (at_f rfl) ?_; simp; done)), trivial⟩ ?_
    · exact ⟨Nat.zero_le _, rfl⟩
    rintro k ⟨hk, heq⟩
    refine j_seq (j_region (y_ (yl_lss (T rfl) (T rfl)) (jl_nil (q_then (j_seq ?_))) rfl))
    first | refine j_cond_d (at_f rfl) (fun c14 => ?_) (fun c14 => ?_) | refine j_cond (at_f rfl) (fun c14 => ?_) (fun c14 => ?_)
    · refine j_skip (q_then (j_seq (j_block (j_seq (j_region (y_ (yl_move (T rfl)) (y_ (yl_assign (T rfl)) (jl_nil (q_then (j_seq (j_any 9 [(0, true), (1, true), (2, true), (3, true), (4, true), (5, true), (6, true), (7, true), (8, true)] _ mixd (by kernel_rfl) sb0 ?_)))) rfl) rfl))))))
      refine o_y rfl (yl_move (T rfl)) (o_y rfl (yl_move (T rfl)) (o_y rfl (yl_ixQ (T rfl) (T rfl) Try.runUnderlying28 Try.sizeOf3 (by omega) (by first | exact rfl | exact hx.b (i := k) (by omega) | exact hy.b (i := k) (by omega))) ?_ rfl gd_n) rfl gd_n) rfl gd_n
      refine o_y rfl (yl_load (T rfl) Try.isAgg3 (by first | exact c_o | exact c_m (hx.f0 (i := k) (by omega) rfl) | exact c_m (hy.f0 (i := k) (by omega) rfl))) ?_ rfl gd_n
      refine o_y rfl (yl_move (T rfl)) (o_y rfl (yl_move (T rfl)) (o_y rfl (yl_ixQ (T rfl) (T rfl) Try.runUnderlying28 Try.sizeOf3 (by omega) (by first | exact rfl | exact hx.b (i := k) (by omega) | exact hy.b (i := k) (by omega))) ?_ rfl gd_n) rfl gd_n) rfl gd_n
      refine o_y rfl (yl_load (T rfl) Try.isAgg3 (by first | exact c_o | exact c_m (hx.f0 (i := k) (by omega) rfl) | exact c_m (hy.f0 (i := k) (by omega) rfl))) ?_ rfl gd_n
      refine o_y rfl (yl_neq (T rfl) (T rfl)) (jo_nil rfl (jl_nil (q_then ?_))) rfl gd_n
      first | refine j_cond_d (at_f rfl) (fun c24 => ?_) (fun c24 => ?_) | refine j_cond (at_f rfl) (fun c24 => ?_) (fun c24 => ?_)
      · refine j_seq (j_region (y_ (yl_assign ev_c) (jl_nil (q_then (j_ret (q_block_ret (q_then_ret (q_loop_ret (q_block_ret (q_then_ret (q_ret rfl (.tmp (at_f rfl) .nil) ?_))))))))) rfl))
        exact ⟨_, ⟨by rw [decide_eq_false (fun h => c24 (by rw [h]))]; rfl, rfl⟩, sbt⟩
      · refine j_skip (q_block (q_then (j_region (y_ (yl_add (T rfl) ev_c (by omega)) ?_ rfl))))
        refine y_ (yl_move (T rfl)) (jl_nil ?_) rfl
        refine q_loopC (k + 1) ?_ ?_ ⟨(by first | exact at_f rfl | (refine at_e (at_f rfl) (vint ?_); omega) | (refine at_e (at_f rfl) ?_; simp; done)), trivial⟩ ⟨at_f rfl, at_f rfl, at_f rfl, trivial⟩ ?_
        · exact ⟨by omega, by rw [take_gd (by omega), take_gd (by omega), heq, Classical.not_not.1 c24]⟩
        · first | omega | (simp only []; omega)
        · exact sbt
    · refine j_exit (q_then_exit (q_loop_exit (q_block_hit (q_then (j_seq (j_region (y_ (yl_assign ev_c) (jl_nil (q_then (j_ret (q_ret rfl (.tmp (at_f rfl) .nil) ?_)))) rfl)))))))
      exact ⟨_, ⟨by rw [decide_eq_true (by rw [take_end (by omega), take_end (by omega)] at heq; exact heq)]; rfl, rfl⟩, sbt⟩
theorem rSame_s {w0 : World} {H : List (Nat × Obj)} (a b : Wm) (ha : WayM w0 H a) (hb : WayM w0 H b) :
    FSpec Try.prog w0 33 #[.agg (encW a).toArray, .agg (encW b).toArray] H (Still (.bool (decide (a.way = b.way))) H) := by
  refine fn_spec Try.func33 rfl Try.ntmps33 rfl (j_seq (j_region (e_ (eff_box (T rfl) cs_) ?_ rfl)))
  rintro _ _ ⟨n2, rfl, rfl⟩
  refine e_ (eff_box (T rfl) cs_) ?_ rfl
  rintro _ _ ⟨n3, rfl, rfl⟩
  refine y_ (yl_assign ev_c) (jl_nil (q_then (j_seq (j_region (y_ (yl_fa (T rfl) fa48_1) (y_ (yl_load (T rfl) Try.isAgg28 (by first | exact c_o)) ?_ rfl) rfl))))) rfl
  refine y_ (yl_fa (T rfl) fa48_1) (y_ (yl_load (T rfl) Try.isAgg28 (by first | exact c_o)) ?_ rfl) rfl
  refine y_ (yl_call (.cons (T rfl) (.cons (T rfl) .nil)) Try.call13 (fun H' hs => sameInts_s _ _ _ _ _ _ (ha.links.m (List.Sublist.trans sbt hs)) (hb.links.m (List.Sublist.trans sbt hs)) ha.len)) (y_ (yl_assign (T rfl)) (jl_nil (q_then (j_seq (j_region (y_ (yl_move (T rfl)) (y_ (yl_move (T rfl)) ?_ rfl) rfl))))) rfl) rfl
  first | refine jl_if_d (s := 12) (at_f rfl) (fun c12 => ?_) (fun c12 => ?_) | refine jl_if (s := 12) (at_f rfl) (fun c12 => ?_) (fun c12 => ?_)
  · refine jl_y (yl_fa0 (T rfl) fa48_0) rfl (gd_y rfl rfl (at_f rfl)) (jl_y (yl_load (T rfl) Try.isAgg3 (by first | exact c_o)) rfl (gd_y rfl rfl (at_f rfl)) ?_)
    refine jl_y (yl_fa0 (T rfl) fa48_0) rfl (gd_y rfl rfl (at_f rfl)) (jl_y (yl_load (T rfl) Try.isAgg3 (by first | exact c_o)) rfl (gd_y rfl rfl (at_f rfl)) ?_)
    refine jl_y (yl_eql (T rfl) (T rfl)) rfl (gd_y rfl rfl (at_f rfl)) (y_ (yl_pick_t (T rfl) (T rfl)) (y_ (yl_move (T rfl)) ?_ rfl) rfl)
    first | refine jl_if_d (s := 19) (at_f rfl) (fun c19 => ?_) (fun c19 => ?_) | refine jl_if (s := 19) (at_f rfl) (fun c19 => ?_) (fun c19 => ?_)
    · refine jl_y (yl_fa (T rfl) fa48_2) rfl (gd_y rfl rfl (at_f rfl)) (jl_y (yl_load (T rfl) Try.isAgg3 (by first | exact c_o)) rfl (gd_y rfl rfl (at_f rfl)) ?_)
      refine jl_y (yl_fa (T rfl) fa48_2) rfl (gd_y rfl rfl (at_f rfl)) (jl_y (yl_load (T rfl) Try.isAgg3 (by first | exact c_o)) rfl (gd_y rfl rfl (at_f rfl)) ?_)
      refine jl_y (yl_eql (T rfl) (T rfl)) rfl (gd_y rfl rfl (at_f rfl)) (y_ (yl_pick_t (T rfl) (T rfl)) (y_ (yl_move (T rfl)) ?_ rfl) rfl)
      first | refine jl_if_d (s := 26) (at_f rfl) (fun c26 => ?_) (fun c26 => ?_) | refine jl_if (s := 26) (at_f rfl) (fun c26 => ?_) (fun c26 => ?_)
      · refine jl_y (yl_fa (T rfl) fa48_3) rfl (gd_y rfl rfl (at_f rfl)) (jl_y (yl_load (T rfl) Try.isAgg3 (by first | exact c_o)) rfl (gd_y rfl rfl (at_f rfl)) ?_)
        refine jl_y (yl_fa (T rfl) fa48_3) rfl (gd_y rfl rfl (at_f rfl)) (jl_y (yl_load (T rfl) Try.isAgg3 (by first | exact c_o)) rfl (gd_y rfl rfl (at_f rfl)) ?_)
        refine jl_y (yl_eql (T rfl) (T rfl)) rfl (gd_y rfl rfl (at_f rfl)) (y_ (yl_pick_t (T rfl) (T rfl)) (y_ (yl_move (T rfl)) ?_ rfl) rfl)
        first | refine jl_if_d (s := 33) (at_f rfl) (fun c33 => ?_) (fun c33 => ?_) | refine jl_if (s := 33) (at_f rfl) (fun c33 => ?_) (fun c33 => ?_)
        · refine jl_y (yl_fa (T rfl) fa48_4) rfl (gd_y rfl rfl (at_f rfl)) (jl_y (yl_load (T rfl) Try.isAgg3 (by first | exact c_o)) rfl (gd_y rfl rfl (at_f rfl)) ?_)
          refine jl_y (yl_fa (T rfl) fa48_4) rfl (gd_y rfl rfl (at_f rfl)) (jl_y (yl_load (T rfl) Try.isAgg3 (by first | exact c_o)) rfl (gd_y rfl rfl (at_f rfl)) ?_)
          refine jl_y (yl_eql (T rfl) (T rfl)) rfl (gd_y rfl rfl (at_f rfl)) (y_ (yl_pick_t (T rfl) (T rfl)) (y_ (yl_assign (T rfl)) (jl_nil (q_then (j_keep [(4, _)] ⟨at_f rfl, trivial⟩ (j_ret (q_ret rfl (.tmp (at_f rfl) .nil) ?_))))) rfl) rfl)
          exact ⟨_, ⟨by rw [same_iff]; simp [resOf, *], rfl⟩, sbt⟩
        · refine n_ft (n_ft (n_ft (n_ft (n_ft (y_ (yl_pick_f (T rfl) ev_c) (y_ (yl_assign (T rfl)) (jl_nil (q_then (j_keep [(4, _)] ⟨at_f rfl, trivial⟩ (j_ret (q_ret rfl (.tmp (at_f rfl) .nil) ?_))))) rfl) rfl) rfl rfl rfl rfl) rfl rfl rfl rfl) rfl rfl rfl rfl) rfl rfl rfl rfl) rfl rfl rfl rfl
          exact ⟨_, ⟨by rw [same_iff]; simp [resOf, *], rfl⟩, sbt⟩
      · refine n_ft (n_ft (n_ft (n_ft (n_ft (y_ (yl_pick_f (T rfl) ev_c) (y_ (yl_move (T rfl)) (n_ft (n_ft (n_ft (n_ft (n_ft (y_ (yl_pick_f (T rfl) ev_c) (y_ (yl_assign (T rfl)) (jl_nil (q_then (j_keep [(4, _)] ⟨at_f rfl, trivial⟩ (j_ret (q_ret rfl (.tmp (at_f rfl) .nil) ?_))))) rfl) rfl) rfl rfl rfl rfl) rfl rfl rfl rfl) rfl rfl rfl rfl) rfl rfl rfl rfl) rfl rfl rfl rfl) rfl) rfl) rfl rfl rfl rfl) rfl rfl rfl rfl) rfl rfl rfl rfl) rfl rfl rfl rfl) rfl rfl rfl rfl
        exact ⟨_, ⟨by rw [same_iff]; simp [resOf, *], rfl⟩, sbt⟩
    · refine n_ft (n_ft (n_ft (n_ft (n_ft (y_ (yl_pick_f (T rfl) ev_c) (y_ (yl_move (T rfl)) (n_ft (n_ft (n_ft (n_ft (n_ft (y_ (yl_pick_f (T rfl) ev_c) (y_ (yl_move (T rfl)) (n_ft (n_ft (n_ft (n_ft (n_ft (y_ (yl_pick_f (T rfl) ev_c) (y_ (yl_assign (T rfl)) (jl_nil (q_then (j_keep [(4, _)] ⟨at_f rfl, trivial⟩ (j_ret (q_ret rfl (.tmp (at_f rfl) .nil) ?_))))) rfl) rfl) rfl rfl rfl rfl) rfl rfl rfl rfl) rfl rfl rfl rfl) rfl rfl rfl rfl) rfl rfl rfl rfl) rfl) rfl) rfl rfl rfl rfl) rfl rfl rfl rfl) rfl rfl rfl rfl) rfl rfl rfl rfl) rfl rfl rfl rfl) rfl) rfl) rfl rfl rfl rfl) rfl rfl rfl rfl) rfl rfl rfl rfl) rfl rfl rfl rfl) rfl rfl rfl rfl
      exact ⟨_, ⟨by rw [same_iff]; simp [resOf, *], rfl⟩, sbt⟩
  · refine n_ft (n_ft (n_ft (n_ft (n_ft (y_ (yl_pick_f (T rfl) ev_c) (y_ (yl_move (T rfl)) (n_ft (n_ft (n_ft (n_ft (n_ft (y_ (yl_pick_f (T rfl) ev_c) (y_ (yl_move (T rfl)) (n_ft (n_ft (n_ft (n_ft (n_ft (y_ (yl_pick_f (T rfl) ev_c) (y_ (yl_move (T rfl)) (n_ft (n_ft (n_ft (n_ft (n_ft (y_ (yl_pick_f (T rfl) ev_c) (y_ (yl_assign (T rfl)) (jl_nil (q_then (j_keep [(4, _)] ⟨at_f rfl, trivial⟩ (j_ret (q_ret rfl (.tmp (at_f rfl) .nil) ?_))))) rfl) rfl) rfl rfl rfl rfl) rfl rfl rfl rfl) rfl rfl rfl rfl) rfl rfl rfl rfl) rfl rfl rfl rfl) rfl) rfl) rfl rfl rfl rfl) rfl rfl rfl rfl) rfl rfl rfl rfl) rfl rfl rfl rfl) rfl rfl rfl rfl) rfl) rfl) rfl rfl rfl rfl) rfl rfl rfl rfl) rfl rfl rfl rfl) rfl rfl rfl rfl) rfl rfl rfl rfl) rfl) rfl) rfl rfl rfl rfl) rfl rfl rfl rfl) rfl rfl rfl rfl) rfl rfl rfl rfl) rfl rfl rfl rfl
    exact ⟨_, ⟨by rw [same_iff]; simp [resOf, *], rfl⟩, sbt⟩
theorem tSame_s {w0 : World} {H : List (Nat × Obj)} (a b : Wm) (ha : WayM w0 H a) (hb : WayM w0 H b) :
    FSpec Try.prog w0 32 #[.agg (encW a).toArray, .agg (encW b).toArray] H (Still (.bool (decide (a.way = b.way))) H) := by
  refine fn_spec Try.func32 rfl Try.ntmps32 rfl (j_seq (j_region (e_ (eff_box (T rfl) cs_) ?_ rfl)))
  rintro _ _ ⟨n2, rfl, rfl⟩
  refine e_ (eff_box (T rfl) cs_) ?_ rfl
  rintro _ _ ⟨n3, rfl, rfl⟩
  refine y_ (yl_assign ev_c) (jl_nil (q_then (j_seq (j_region (y_ (yl_fa0 (T rfl) fa48_0) (y_ (yl_load (T rfl) Try.isAgg3 (by first | exact c_o)) ?_ rfl) rfl))))) rfl
  refine y_ (yl_fa0 (T rfl) fa48_0) (y_ (yl_load (T rfl) Try.isAgg3 (by first | exact c_o)) ?_ rfl) rfl
  refine y_ (yl_eql (T rfl) (T rfl)) (y_ (yl_move (T rfl)) ?_ rfl) rfl
  first | refine jl_if_d (s := 10) (at_f rfl) (fun c10 => ?_) (fun c10 => ?_) | refine jl_if (s := 10) (at_f rfl) (fun c10 => ?_) (fun c10 => ?_)
  · refine jl_y (yl_fa (T rfl) fa48_2) rfl (gd_y rfl rfl (at_f rfl)) (jl_y (yl_load (T rfl) Try.isAgg3 (by first | exact c_o)) rfl (gd_y rfl rfl (at_f rfl)) ?_)
    refine jl_y (yl_fa (T rfl) fa48_2) rfl (gd_y rfl rfl (at_f rfl)) (jl_y (yl_load (T rfl) Try.isAgg3 (by first | exact c_o)) rfl (gd_y rfl rfl (at_f rfl)) ?_)
    refine jl_y (yl_eql (T rfl) (T rfl)) rfl (gd_y rfl rfl (at_f rfl)) (y_ (yl_pick_t (T rfl) (T rfl)) (y_ (yl_move (T rfl)) ?_ rfl) rfl)
    first | refine jl_if_d (s := 17) (at_f rfl) (fun c17 => ?_) (fun c17 => ?_) | refine jl_if (s := 17) (at_f rfl) (fun c17 => ?_) (fun c17 => ?_)
    · refine jl_y (yl_fa (T rfl) fa48_3) rfl (gd_y rfl rfl (at_f rfl)) (jl_y (yl_load (T rfl) Try.isAgg3 (by first | exact c_o)) rfl (gd_y rfl rfl (at_f rfl)) ?_)
      refine jl_y (yl_fa (T rfl) fa48_3) rfl (gd_y rfl rfl (at_f rfl)) (jl_y (yl_load (T rfl) Try.isAgg3 (by first | exact c_o)) rfl (gd_y rfl rfl (at_f rfl)) ?_)
      refine jl_y (yl_eql (T rfl) (T rfl)) rfl (gd_y rfl rfl (at_f rfl)) (y_ (yl_pick_t (T rfl) (T rfl)) (y_ (yl_move (T rfl)) ?_ rfl) rfl)
      first | refine jl_if_d (s := 24) (at_f rfl) (fun c24 => ?_) (fun c24 => ?_) | refine jl_if (s := 24) (at_f rfl) (fun c24 => ?_) (fun c24 => ?_)
      · refine jl_y (yl_fa (T rfl) fa48_4) rfl (gd_y rfl rfl (at_f rfl)) (jl_y (yl_load (T rfl) Try.isAgg3 (by first | exact c_o)) rfl (gd_y rfl rfl (at_f rfl)) ?_)
        refine jl_y (yl_fa (T rfl) fa48_4) rfl (gd_y rfl rfl (at_f rfl)) (jl_y (yl_load (T rfl) Try.isAgg3 (by first | exact c_o)) rfl (gd_y rfl rfl (at_f rfl)) ?_)
        refine jl_y (yl_eql (T rfl) (T rfl)) rfl (gd_y rfl rfl (at_f rfl)) (y_ (yl_pick_t (T rfl) (T rfl)) (y_ (yl_move (T rfl)) ?_ rfl) rfl)
        first | refine jl_if_d (s := 31) (at_f rfl) (fun c31 => ?_) (fun c31 => ?_) | refine jl_if (s := 31) (at_f rfl) (fun c31 => ?_) (fun c31 => ?_)
        · refine jl_y (yl_fa (T rfl) fa48_1) rfl (gd_y rfl rfl (at_f rfl)) (jl_y (yl_load (T rfl) Try.isAgg28 (by first | exact c_o)) rfl (gd_y rfl rfl (at_f rfl)) ?_)
          refine jl_y (yl_fa (T rfl) fa48_1) rfl (gd_y rfl rfl (at_f rfl)) (jl_y (yl_load (T rfl) Try.isAgg28 (by first | exact c_o)) rfl (gd_y rfl rfl (at_f rfl)) ?_)
          refine jl_y (yl_call (.cons (T rfl) (.cons (T rfl) .nil)) Try.call65 (fun H' hs => slEqual_s _ _ _ _ _ _ (ha.links.m (List.Sublist.trans sbt hs)) (hb.links.m (List.Sublist.trans sbt hs)) ha.len)) rfl (gd_y rfl rfl (at_f rfl)) (y_ (yl_pick_t (T rfl) (T rfl)) (y_ (yl_assign (T rfl)) (jl_nil (q_then (j_keep [(4, _)] ⟨at_f rfl, trivial⟩ (j_ret (q_ret rfl (.tmp (at_f rfl) .nil) ?_))))) rfl) rfl)
          exact ⟨_, ⟨by rw [same_iff]; simp [resOf, *], rfl⟩, sbt⟩
        · refine n_ft (n_ft (n_ft (n_ft (n_ft (y_ (yl_pick_f (T rfl) ev_c) (y_ (yl_assign (T rfl)) (jl_nil (q_then (j_keep [(4, _)] ⟨at_f rfl, trivial⟩ (j_ret (q_ret rfl (.tmp (at_f rfl) .nil) ?_))))) rfl) rfl) rfl rfl rfl rfl) rfl rfl rfl rfl) rfl rfl rfl rfl) rfl rfl rfl rfl) rfl rfl rfl rfl
          exact ⟨_, ⟨by rw [same_iff]; simp [resOf, *], rfl⟩, sbt⟩
      · refine n_ft (n_ft (n_ft (n_ft (n_ft (y_ (yl_pick_f (T rfl) ev_c) (y_ (yl_move (T rfl)) (n_ft (n_ft (n_ft (n_ft (n_ft (y_ (yl_pick_f (T rfl) ev_c) (y_ (yl_assign (T rfl)) (jl_nil (q_then (j_keep [(4, _)] ⟨at_f rfl, trivial⟩ (j_ret (q_ret rfl (.tmp (at_f rfl) .nil) ?_))))) rfl) rfl) rfl rfl rfl rfl) rfl rfl rfl rfl) rfl rfl rfl rfl) rfl rfl rfl rfl) rfl rfl rfl rfl) rfl) rfl) rfl rfl rfl rfl) rfl rfl rfl rfl) rfl rfl rfl rfl) rfl rfl rfl rfl) rfl rfl rfl rfl
        exact ⟨_, ⟨by rw [same_iff]; simp [resOf, *], rfl⟩, sbt⟩
    · refine n_ft (n_ft (n_ft (n_ft (n_ft (y_ (yl_pick_f (T rfl) ev_c) (y_ (yl_move (T rfl)) (n_ft (n_ft (n_ft (n_ft (n_ft (y_ (yl_pick_f (T rfl) ev_c) (y_ (yl_move (T rfl)) (n_ft (n_ft (n_ft (n_ft (n_ft (y_ (yl_pick_f (T rfl) ev_c) (y_ (yl_assign (T rfl)) (jl_nil (q_then (j_keep [(4, _)] ⟨at_f rfl, trivial⟩ (j_ret (q_ret rfl (.tmp (at_f rfl) .nil) ?_))))) rfl) rfl) rfl rfl rfl rfl) rfl rfl rfl rfl) rfl rfl rfl rfl) rfl rfl rfl rfl) rfl rfl rfl rfl) rfl) rfl) rfl rfl rfl rfl) rfl rfl rfl rfl) rfl rfl rfl rfl) rfl rfl rfl rfl) rfl rfl rfl rfl) rfl) rfl) rfl rfl rfl rfl) rfl rfl rfl rfl) rfl rfl rfl rfl) rfl rfl rfl rfl) rfl rfl rfl rfl
      exact ⟨_, ⟨by rw [same_iff]; simp [resOf, *], rfl⟩, sbt⟩
  · refine n_ft (n_ft (n_ft (n_ft (n_ft (y_ (yl_pick_f (T rfl) ev_c) (y_ (yl_move (T rfl)) (n_ft (n_ft (n_ft (n_ft (n_ft (y_ (yl_pick_f (T rfl) ev_c) (y_ (yl_move (T rfl)) (n_ft (n_ft (n_ft (n_ft (n_ft (y_ (yl_pick_f (T rfl) ev_c) (y_ (yl_move (T rfl)) (n_ft (n_ft (n_ft (n_ft (n_ft (y_ (yl_pick_f (T rfl) ev_c) (y_ (yl_assign (T rfl)) (jl_nil (q_then (j_keep [(4, _)] ⟨at_f rfl, trivial⟩ (j_ret (q_ret rfl (.tmp (at_f rfl) .nil) ?_))))) rfl) rfl) rfl rfl rfl rfl) rfl rfl rfl rfl) rfl rfl rfl rfl) rfl rfl rfl rfl) rfl rfl rfl rfl) rfl) rfl) rfl rfl rfl rfl) rfl rfl rfl rfl) rfl rfl rfl rfl) rfl rfl rfl rfl) rfl rfl rfl rfl) rfl) rfl) rfl rfl rfl rfl) rfl rfl rfl rfl) rfl rfl rfl rfl) rfl rfl rfl rfl) rfl rfl rfl rfl) rfl) rfl) rfl rfl rfl rfl) rfl rfl rfl rfl) rfl rfl rfl rfl) rfl rfl rfl rfl) rfl rfl rfl rfl
    exact ⟨_, ⟨by rw [same_iff]; simp [resOf, *], rfl⟩, sbt⟩
theorem hops_s {w0 : World} {H : List (Nat × Obj)} (n : Nm) (m : Wm) :
    FSpec Try.prog w0 59 #[.agg (encNm n).toArray, .agg (encW m).toArray] H (fun v H' => ∃ n2 n3 : Nat, v = .func (.func 77) #[] #[.pointer (some ⟨n3, 0, none⟩), .pointer (some ⟨n2, 0, none⟩)] ∧ H' = (n3, Cl (encW m) 48) :: (n2, Cl (encNm n) 26) :: H) := by
  refine fn_spec Try.func59 rfl Try.ntmps59 rfl (j_seq (j_region (e_ (eff_box (T rfl) cs_) ?_ rfl)))
  rintro _ _ ⟨n2, rfl, rfl⟩
  refine e_ (eff_box (T rfl) cs_) ?_ rfl
  rintro _ _ ⟨n3, rfl, rfl⟩
  refine y_ (yl_assign ev_c) (jl_nil (q_then (j_seq (j_region (y_ (yl_makeFunc (.cons (T rfl) (.cons (T rfl) .nil))) (y_ (yl_assign (T rfl)) (jl_nil (q_then (j_ret (q_ret rfl (.tmp (at_f rfl) .nil) ?_)))) rfl) rfl))))) rfl
  exact ⟨_, ⟨n2, n3, rfl, rfl⟩, sbt⟩
theorem hops_it {w0 : World} {H : List (Nat × Obj)} (n : Nm) (hn : NetM w0 H n) (m : Wm) (hm : WayM w0 H m) (hr : InR n.links m.way.links) (n2 n3 : Nat) :
    IterSpec Try.prog w0 77 [.pointer (some ⟨n3, 0, none⟩), .pointer (some ⟨n2, 0, none⟩)] ((n3, Cl (encW m) 48) :: (n2, Cl (encNm n) 26) :: H) encP (hops n.links m.way) := by
  intro l S Sx hHc hY H0 hS0
  have hlen := hm.len
  have hnl := hops_len n.links m.way
  have hY0 := fun k x H hx hS => YSpec.mono (hY k x H [] hx hS) (K' := fun v H1 => (v = .bool true ∧ S (k + 1) H1) ∨ (v = .bool false ∧ Sx H1)) (by rintro v _ ⟨H1, rfl, h⟩; exact h)
  refine fn_spec Try.func77 rfl Try.ntmps77 rfl (j_seq (j_region (y_ (yl_fa0 (T rfl) fa48_0) (y_ (yl_load (T rfl) Try.isAgg3 (by first | exact c_o | exact Cell.mono (w0 := w0) c_o (hHc _ _ hS0) | exact Cell.mono (w0 := w0) c_o (hHc _ _ hS) | exact Cell.mono (w0 := w0) c_o (hHc _ _ hS1) | exact ((hm.mono).links.f0 (i := k) (by omega) rfl).mono (hHc _ _ hS) | exact ((hn.mono).links.f (i := (gd m.way.links k).toNat) (by have := hr k (by omega); omega) rfl).mono (hHc _ _ hS1))) ?_ rfl) rfl)))
  refine y_ (yl_assign (T rfl)) (jl_nil (q_then (j_seq (j_seq (j_region (y_ (yl_fa (T rfl) fa48_1) (y_ (yl_load (T rfl) Try.isAgg28 (by first | exact c_o | exact Cell.mono (w0 := w0) c_o (hHc _ _ hS0) | exact Cell.mono (w0 := w0) c_o (hHc _ _ hS) | exact Cell.mono (w0 := w0) c_o (hHc _ _ hS1) | exact ((hm.mono).links.f0 (i := k) (by omega) rfl).mono (hHc _ _ hS) | exact ((hn.mono).links.f (i := (gd m.way.links k).toNat) (by have := hr k (by omega); omega) rfl).mono (hHc _ _ hS1))) ?_ rfl) rfl)))))) rfl
  refine y_ (yl_len (T rfl) Try.runUnderlying28) (y_ (yl_move ev_c) (jl_nil (q_then (j_block ?_))) rfl) rfl
  refine j_loopC (X := Nat × List (Nat × Obj)) (V := fun ⟨k, Hx⟩ => [(12, .int .i64 (k : Nat)), (4, .int .i64 (gd (nodesF n.links m.way) k))]) (C := [(0, _), (1, _), (2, _), (10, _), (11, _)]) (G := fun ⟨k, Hx⟩ => Hx) (φ := fun ⟨k, Hx⟩ => k ≤ m.way.links.length ∧ S k Hx) (μ := fun ⟨k, Hx⟩ => m.way.links.length - k) (x0 := (0, H0)) ?_ ⟨at_f rfl, at_f rfl, at_f rfl, at_f rfl, at_f rfl, trivial⟩ ⟨(by first | exact at_f rfl | (refine at_e (at_f rfl) (vint ?_); omega) | (refine at_e (at_f rfl) ?_; simp; done) | (refine at_e (at_f rfl) ?_; exact vint (nodes_zero _ _).symm) | (refine at_e (at_f rfl) ?_; exact vint (nodes_succ _ _ (by omega)).symm)), (by first | exact at_f rfl | (refine at_e (at_f rfl) (vint ?_); omega) | (refine at_e (at_f rfl) ?_; simp; done) | (refine at_e (at_f rfl) ?_; exact vint (nodes_zero _ _).symm) | (refine at_e (at_f rfl) ?_; exact vint (nodes_succ _ _ (by omega)).symm)), trivial⟩ sb0 ?_
  · exact ⟨Nat.zero_le _, hS0⟩
  rintro ⟨k, Hx⟩ ⟨hk, hS⟩
  refine j_seq (j_region (y_ (yl_lss (T rfl) (T rfl)) (jl_nil (q_then (j_seq ?_))) rfl))
  first | refine j_cond_d (at_f rfl) (fun c13 => ?_) (fun c13 => ?_) | refine j_cond (at_f rfl) (fun c13 => ?_) (fun c13 => ?_)
  · refine j_skip (q_then (j_seq (j_block (j_seq (j_region (y_ (yl_ixQ (T rfl) (T rfl) Try.runUnderlying28 Try.sizeOf3 (by first | omega | (have := hr k (by omega); omega)) (by first | exact rfl | exact hm.links.b (i := k) (by omega) | exact hn.links.b (i := (gd m.way.links k).toNat) (by have := hr k (by omega); omega))) ?_ rfl))))))
    refine y_ (yl_load (T rfl) Try.isAgg3 (by first | exact c_o | exact Cell.mono (w0 := w0) c_o (hHc _ _ hS0) | exact Cell.mono (w0 := w0) c_o (hHc _ _ hS) | exact Cell.mono (w0 := w0) c_o (hHc _ _ hS1) | exact ((hm.mono).links.f0 (i := k) (by omega) rfl).mono (hHc _ _ hS) | exact ((hn.mono).links.f (i := (gd m.way.links k).toNat) (by have := hr k (by omega); omega) rfl).mono (hHc _ _ hS1))) ?_ rfl
    refine y_ (yl_assign (T rfl)) (jl_nil (q_then (j_seq (j_seq (j_region (y_ (yl_move (T rfl)) (y_ (yl_move (T rfl)) (y_ (yl_move (T rfl)) (y_ (yl_move (T rfl)) (y_ (yl_build (.cons (T rfl) (.cons (T rfl) (.cons ev_c (.cons ev_c .nil)))) (bd72_0_1_2_3 _ _ _ _)) (e_ (eff_yield (T rfl) (.cons (T rfl) (.cons (T rfl) .nil)) (hY0 k (gd (nodesF n.links m.way) k, ⟨gd m.way.links k, gd m.way.links k, -1, -1⟩) Hx (by rw [hops_at (by omega)]; unfold hopN; rw [if_pos (by omega)]) hS)) ?_ rfl) rfl) rfl) rfl) rfl) rfl)))))) rfl
    rintro _ H1 (⟨rfl, hS1⟩ | ⟨rfl, hSx⟩)
    · refine y_ (yl_not (T rfl)) (jl_nil (q_then (j_cond_f (at_f rfl) (j_skip (q_then (j_region (y_ (yl_fa (T rfl) fa26_1) (y_ (yl_load (T rfl) Try.isAgg23 (by first | exact c_o | exact Cell.mono (w0 := w0) c_o (hHc _ _ hS0) | exact Cell.mono (w0 := w0) c_o (hHc _ _ hS) | exact Cell.mono (w0 := w0) c_o (hHc _ _ hS1) | exact ((hm.mono).links.f0 (i := k) (by omega) rfl).mono (hHc _ _ hS) | exact ((hn.mono).links.f (i := (gd m.way.links k).toNat) (by have := hr k (by omega); omega) rfl).mono (hHc _ _ hS1))) ?_ rfl) rfl))))))) rfl
      refine y_ (yl_move (T rfl)) (y_ (yl_ixR (T rfl) (T rfl) Try.runUnderlying23 Try.sizeOf63 (by first | omega | (have := hr k (by omega); omega)) (by first | exact rfl | exact hm.links.b (i := k) (by omega) | exact hn.links.b (i := (gd m.way.links k).toNat) (by have := hr k (by omega); omega))) ?_ rfl) rfl
      refine y_ (yl_fa (T rfl) fa63_1) (y_ (yl_load (T rfl) Try.isAgg3 (by first | exact c_o | exact Cell.mono (w0 := w0) c_o (hHc _ _ hS0) | exact Cell.mono (w0 := w0) c_o (hHc _ _ hS) | exact Cell.mono (w0 := w0) c_o (hHc _ _ hS1) | exact ((hm.mono).links.f0 (i := k) (by omega) rfl).mono (hHc _ _ hS) | exact ((hn.mono).links.f (i := (gd m.way.links k).toNat) (by have := hr k (by omega); omega) rfl).mono (hHc _ _ hS1))) ?_ rfl) rfl
      refine y_ (yl_assign (T rfl)) (jl_nil (q_block (q_then (j_keep [(0, _), (1, _), (2, _), (4, _), (10, _), (11, _), (12, _)] ⟨at_f rfl, at_f rfl, at_f rfl, at_f rfl, at_f rfl, at_f rfl, at_f rfl, trivial⟩ (j_region (y_ (yl_add (T rfl) ev_c (by omega)) ?_ rfl)))))) rfl
      refine y_ (yl_move (T rfl)) (jl_nil ?_) rfl
      refine q_loopC ((k + 1, H1)) ?_ ?_ ⟨(by first | exact at_f rfl | (refine at_e (at_f rfl) (vint ?_); omega) | (refine at_e (at_f rfl) ?_; simp; done) | (refine at_e (at_f rfl) ?_; exact vint (nodes_zero _ _).symm) | (refine at_e (at_f rfl) ?_; exact vint (nodes_succ _ _ (by omega)).symm)), (by first | exact at_f rfl | (refine at_e (at_f rfl) (vint ?_); omega) | (refine at_e (at_f rfl) ?_; simp; done) | (refine at_e (at_f rfl) ?_; exact vint (nodes_zero _ _).symm) | (refine at_e (at_f rfl) ?_; exact vint (nodes_succ _ _ (by omega)).symm)), trivial⟩ ⟨at_f rfl, at_f rfl, at_f rfl, at_f rfl, at_f rfl, trivial⟩ ?_
      · exact ⟨by omega, hS1⟩
      · first | omega | (simp only []; omega)
      · exact sbt
    · refine y_ (yl_not (T rfl)) (jl_nil (q_then (j_cond_t (at_f rfl) (j_ret (q_then_ret (q_block_ret (q_then_ret (q_loop_ret (q_block_ret (q_then_ret (q_ret rfl .nil ?_))))))))))) rfl
      exact ⟨_, .inr hSx, sbt⟩
  · refine j_exit (q_then_exit (q_loop_exit (q_block_hit (q_then (j_region (y_ (yl_move (T rfl)) (y_ (yl_move (T rfl)) (y_ (yl_fa (T rfl) fa48_2) (y_ (yl_load (T rfl) Try.isAgg3 (by first | exact c_o | exact Cell.mono (w0 := w0) c_o (hHc _ _ hS0) | exact Cell.mono (w0 := w0) c_o (hHc _ _ hS) | exact Cell.mono (w0 := w0) c_o (hHc _ _ hS1) | exact ((hm.mono).links.f0 (i := k) (by omega) rfl).mono (hHc _ _ hS) | exact ((hn.mono).links.f (i := (gd m.way.links k).toNat) (by have := hr k (by omega); omega) rfl).mono (hHc _ _ hS1))) ?_ rfl) rfl) rfl) rfl))))))
    refine y_ (yl_fa (T rfl) fa48_3) (y_ (yl_load (T rfl) Try.isAgg3 (by first | exact c_o | exact Cell.mono (w0 := w0) c_o (hHc _ _ hS0) | exact Cell.mono (w0 := w0) c_o (hHc _ _ hS) | exact Cell.mono (w0 := w0) c_o (hHc _ _ hS1) | exact ((hm.mono).links.f0 (i := k) (by omega) rfl).mono (hHc _ _ hS) | exact ((hn.mono).links.f (i := (gd m.way.links k).toNat) (by have := hr k (by omega); omega) rfl).mono (hHc _ _ hS1))) ?_ rfl) rfl
    refine y_ (yl_fa (T rfl) fa48_4) (y_ (yl_load (T rfl) Try.isAgg3 (by first | exact c_o | exact Cell.mono (w0 := w0) c_o (hHc _ _ hS0) | exact Cell.mono (w0 := w0) c_o (hHc _ _ hS) | exact Cell.mono (w0 := w0) c_o (hHc _ _ hS1) | exact ((hm.mono).links.f0 (i := k) (by omega) rfl).mono (hHc _ _ hS) | exact ((hn.mono).links.f (i := (gd m.way.links k).toNat) (by have := hr k (by omega); omega) rfl).mono (hHc _ _ hS1))) ?_ rfl) rfl
    refine y_ (yl_build (.cons ev_c (.cons (T rfl) (.cons (T rfl) (.cons (T rfl) .nil)))) (bd72_0_1_2_3 _ _ _ _)) (e_ (eff_yield (T rfl) (.cons (T rfl) (.cons (T rfl) .nil)) (hY0 k (gd (nodesF n.links m.way) k, ⟨-1, m.way.port, m.way.tag, m.way.step⟩) Hx (by rw [hops_at (by omega)]; unfold hopN; rw [if_neg (by omega)]) hS)) ?_ rfl) rfl
    rintro _ H1 (⟨rfl, hS1⟩ | ⟨rfl, hSx⟩)
    · refine jl_nil (q_end rfl .nil ?_)
      exact ⟨_, .inl (by rw [hnl, show m.way.links.length + 1 = k + 1 by omega]; exact hS1), sbt⟩
    · refine jl_nil (q_end rfl .nil ?_)
      exact ⟨_, .inr hSx, sbt⟩
end Go.Proofs.Ytdbffighngmibaa
