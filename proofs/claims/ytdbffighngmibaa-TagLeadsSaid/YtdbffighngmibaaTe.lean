/-
  Walks of what is right, and of comparisons.
-/
import Derived.Test.YtdbffighngmibaaTd
namespace Go.Proofs.Ytdbffighngmibaa
open Go.RowKit
set_option linter.unusedVariables false
set_option linter.unusedSimpArgs false
theorem one_s {w0 : World} {H : List (Nat × Obj)} (n : Nm) (hn : NetM w0 H n) (hok : NetOk n) (hsm : n.edges.length ≤ 1000000) (steps : Int) (m : Wm) (hm : WayM w0 H m) (hs20 : m.way.links.length ≤ 1000000) :
    FSpec Try.prog w0 64 #[.agg (encNm n).toArray, .int .i64 steps, .agg (encW m).toArray] H (Still (.int .i64 (oneF n steps m.way)) H) := by
  refine fn_spec Try.func64 rfl Try.ntmps64 rfl ?_
  have hpb := hm.pb
  refine j_seq (j_region (e_ (eff_box (T rfl) cs_) ?_ rfl))
  rintro _ _ ⟨n3, rfl, rfl⟩
  refine e_ (eff_box (T rfl) cs_) ?_ rfl
  rintro _ _ ⟨n5, rfl, rfl⟩
  refine y_ (yl_assign ev_c) (jl_nil (q_then (j_seq (j_seq (j_region (y_ (yl_fa0 (T rfl) fa48_0) (y_ (yl_load (T rfl) Try.isAgg3 (by first | exact c_o | exact c_m (hn.edges.f (i := (m.way.port - 10000).toNat) (by omega) rfl))) ?_ rfl) rfl)))))) rfl
  refine y_ (yl_lss (T rfl) ev_c) (y_ (yl_move (T rfl)) ?_ rfl) rfl
  first | refine jl_if_d (s := 13) (at_f rfl) (fun c13 => ?_) (fun c13 => ?_) | refine jl_if (s := 13) (at_f rfl) (fun c13 => ?_) (fun c13 => ?_)
  · refine n_tf (n_tf (n_tf (n_tf (n_tf (n_tf (y_ (yl_pick_t (T rfl) ev_c) (y_ (yl_move (T rfl)) (n_tf (n_tf (n_tf (y_ (yl_pick_t (T rfl) ev_c) (y_ (yl_move (T rfl)) (n_tf (n_tf (n_tf (y_ (yl_pick_t (T rfl) ev_c) (y_ (yl_move (T rfl)) (n_tf (n_tf (n_tf (y_ (yl_pick_t (T rfl) ev_c) (y_ (yl_move (T rfl)) (n_tf (n_tf (n_tf (n_tf (y_ (yl_pick_t (T rfl) ev_c) (jl_nil (q_then (j_keep [(3, _), (5, _), (41, _)] ⟨at_f rfl, at_f rfl, at_f rfl, trivial⟩ (j_cond_t (at_f rfl) (j_seq (j_region (y_ (yl_assign ev_c) (jl_nil (q_then (j_ret (q_then_ret (q_ret rfl (.tmp (at_f rfl) .nil) ?_))))) rfl))))))) rfl) rfl rfl rfl rfl) rfl rfl rfl rfl) rfl rfl rfl rfl) rfl rfl rfl rfl) rfl) rfl) rfl rfl rfl rfl) rfl rfl rfl rfl) rfl rfl rfl rfl) rfl) rfl) rfl rfl rfl rfl) rfl rfl rfl rfl) rfl rfl rfl rfl) rfl) rfl) rfl rfl rfl rfl) rfl rfl rfl rfl) rfl rfl rfl rfl) rfl) rfl) rfl rfl rfl rfl) rfl rfl rfl rfl) rfl rfl rfl rfl) rfl rfl rfl rfl) rfl rfl rfl rfl) rfl rfl rfl rfl
    exact ⟨_, ⟨by unfold oneF; rw [if_pos (by omega)]; rfl, rfl⟩, sbt⟩
  · refine jl_y (yl_fa0 (T rfl) fa48_0) rfl (gd_y rfl rfl (at_f rfl)) (jl_y (yl_load (T rfl) Try.isAgg3 (by first | exact c_o | exact c_m (hn.edges.f (i := (m.way.port - 10000).toNat) (by omega) rfl))) rfl (gd_y rfl rfl (at_f rfl)) ?_)
    refine jl_y (yl_fa0 (T rfl) fa26_0) rfl (gd_y rfl rfl (at_f rfl)) (jl_y (yl_load (T rfl) Try.isAgg22 (by first | exact c_o | exact c_m (hn.edges.f (i := (m.way.port - 10000).toNat) (by omega) rfl))) rfl (gd_y rfl rfl (at_f rfl)) ?_)
    refine jl_y (yl_len (T rfl) Try.runUnderlying22) rfl (gd_y rfl rfl (at_f rfl)) (jl_y (yl_geq (T rfl) (T rfl)) rfl (gd_y rfl rfl (at_f rfl)) (y_ (yl_pick_f (T rfl) (T rfl)) (y_ (yl_move (T rfl)) ?_ rfl) rfl))
    first | refine jl_if_d (s := 21) (at_f rfl) (fun c21 => ?_) (fun c21 => ?_) | refine jl_if (s := 21) (at_f rfl) (fun c21 => ?_) (fun c21 => ?_)
    · refine n_tf (n_tf (n_tf (y_ (yl_pick_t (T rfl) ev_c) (y_ (yl_move (T rfl)) (n_tf (n_tf (n_tf (y_ (yl_pick_t (T rfl) ev_c) (y_ (yl_move (T rfl)) (n_tf (n_tf (n_tf (y_ (yl_pick_t (T rfl) ev_c) (y_ (yl_move (T rfl)) (n_tf (n_tf (n_tf (n_tf (y_ (yl_pick_t (T rfl) ev_c) (jl_nil (q_then (j_keep [(3, _), (5, _), (41, _)] ⟨at_f rfl, at_f rfl, at_f rfl, trivial⟩ (j_cond_t (at_f rfl) (j_seq (j_region (y_ (yl_assign ev_c) (jl_nil (q_then (j_ret (q_then_ret (q_ret rfl (.tmp (at_f rfl) .nil) ?_))))) rfl))))))) rfl) rfl rfl rfl rfl) rfl rfl rfl rfl) rfl rfl rfl rfl) rfl rfl rfl rfl) rfl) rfl) rfl rfl rfl rfl) rfl rfl rfl rfl) rfl rfl rfl rfl) rfl) rfl) rfl rfl rfl rfl) rfl rfl rfl rfl) rfl rfl rfl rfl) rfl) rfl) rfl rfl rfl rfl) rfl rfl rfl rfl) rfl rfl rfl rfl
      exact ⟨_, ⟨by unfold oneF; rw [if_pos (by omega)]; rfl, rfl⟩, sbt⟩
    · refine jl_y (yl_fa (T rfl) fa48_3) rfl (gd_y rfl rfl (at_f rfl)) (jl_y (yl_load (T rfl) Try.isAgg3 (by first | exact c_o | exact c_m (hn.edges.f (i := (m.way.port - 10000).toNat) (by omega) rfl))) rfl (gd_y rfl rfl (at_f rfl)) ?_)
      refine jl_y (yl_lss (T rfl) ev_c) rfl (gd_y rfl rfl (at_f rfl)) (y_ (yl_pick_f (T rfl) (T rfl)) (y_ (yl_move (T rfl)) ?_ rfl) rfl)
      first | refine jl_if_d (s := 26) (at_f rfl) (fun c26 => ?_) (fun c26 => ?_) | refine jl_if (s := 26) (at_f rfl) (fun c26 => ?_) (fun c26 => ?_)
      · refine n_tf (n_tf (n_tf (y_ (yl_pick_t (T rfl) ev_c) (y_ (yl_move (T rfl)) (n_tf (n_tf (n_tf (y_ (yl_pick_t (T rfl) ev_c) (y_ (yl_move (T rfl)) (n_tf (n_tf (n_tf (n_tf (y_ (yl_pick_t (T rfl) ev_c) (jl_nil (q_then (j_keep [(3, _), (5, _), (41, _)] ⟨at_f rfl, at_f rfl, at_f rfl, trivial⟩ (j_cond_t (at_f rfl) (j_seq (j_region (y_ (yl_assign ev_c) (jl_nil (q_then (j_ret (q_then_ret (q_ret rfl (.tmp (at_f rfl) .nil) ?_))))) rfl))))))) rfl) rfl rfl rfl rfl) rfl rfl rfl rfl) rfl rfl rfl rfl) rfl rfl rfl rfl) rfl) rfl) rfl rfl rfl rfl) rfl rfl rfl rfl) rfl rfl rfl rfl) rfl) rfl) rfl rfl rfl rfl) rfl rfl rfl rfl) rfl rfl rfl rfl
        exact ⟨_, ⟨by unfold oneF; rw [if_pos (by omega)]; rfl, rfl⟩, sbt⟩
      · refine jl_y (yl_fa (T rfl) fa48_3) rfl (gd_y rfl rfl (at_f rfl)) (jl_y (yl_load (T rfl) Try.isAgg3 (by first | exact c_o | exact c_m (hn.edges.f (i := (m.way.port - 10000).toNat) (by omega) rfl))) rfl (gd_y rfl rfl (at_f rfl)) ?_)
        refine jl_y (yl_gtr (T rfl) ev_c) rfl (gd_y rfl rfl (at_f rfl)) (y_ (yl_pick_f (T rfl) (T rfl)) (y_ (yl_move (T rfl)) ?_ rfl) rfl)
        first | refine jl_if_d (s := 31) (at_f rfl) (fun c31 => ?_) (fun c31 => ?_) | refine jl_if (s := 31) (at_f rfl) (fun c31 => ?_) (fun c31 => ?_)
        · refine n_tf (n_tf (n_tf (y_ (yl_pick_t (T rfl) ev_c) (y_ (yl_move (T rfl)) (n_tf (n_tf (n_tf (n_tf (y_ (yl_pick_t (T rfl) ev_c) (jl_nil (q_then (j_keep [(3, _), (5, _), (41, _)] ⟨at_f rfl, at_f rfl, at_f rfl, trivial⟩ (j_cond_t (at_f rfl) (j_seq (j_region (y_ (yl_assign ev_c) (jl_nil (q_then (j_ret (q_then_ret (q_ret rfl (.tmp (at_f rfl) .nil) ?_))))) rfl))))))) rfl) rfl rfl rfl rfl) rfl rfl rfl rfl) rfl rfl rfl rfl) rfl rfl rfl rfl) rfl) rfl) rfl rfl rfl rfl) rfl rfl rfl rfl) rfl rfl rfl rfl
          exact ⟨_, ⟨by unfold oneF; rw [if_pos (by omega)]; rfl, rfl⟩, sbt⟩
        · refine jl_y (yl_fa (T rfl) fa48_4) rfl (gd_y rfl rfl (at_f rfl)) (jl_y (yl_load (T rfl) Try.isAgg3 (by first | exact c_o | exact c_m (hn.edges.f (i := (m.way.port - 10000).toNat) (by omega) rfl))) rfl (gd_y rfl rfl (at_f rfl)) ?_)
          refine jl_y (yl_lss (T rfl) ev_c) rfl (gd_y rfl rfl (at_f rfl)) (y_ (yl_pick_f (T rfl) (T rfl)) (y_ (yl_move (T rfl)) ?_ rfl) rfl)
          first | refine jl_if_d (s := 36) (at_f rfl) (fun c36 => ?_) (fun c36 => ?_) | refine jl_if (s := 36) (at_f rfl) (fun c36 => ?_) (fun c36 => ?_)
          · refine n_tf (n_tf (n_tf (n_tf (y_ (yl_pick_t (T rfl) ev_c) (jl_nil (q_then (j_keep [(3, _), (5, _), (41, _)] ⟨at_f rfl, at_f rfl, at_f rfl, trivial⟩ (j_cond_t (at_f rfl) (j_seq (j_region (y_ (yl_assign ev_c) (jl_nil (q_then (j_ret (q_then_ret (q_ret rfl (.tmp (at_f rfl) .nil) ?_))))) rfl))))))) rfl) rfl rfl rfl rfl) rfl rfl rfl rfl) rfl rfl rfl rfl) rfl rfl rfl rfl
            exact ⟨_, ⟨by unfold oneF; rw [if_pos (by omega)]; rfl, rfl⟩, sbt⟩
          · refine jl_y (yl_fa (T rfl) fa48_4) rfl (gd_y rfl rfl (at_f rfl)) (jl_y (yl_load (T rfl) Try.isAgg3 (by first | exact c_o | exact c_m (hn.edges.f (i := (m.way.port - 10000).toNat) (by omega) rfl))) rfl (gd_y rfl rfl (at_f rfl)) ?_)
            refine jl_y (yl_move (T rfl)) rfl (gd_y rfl rfl (at_f rfl)) (jl_y (yl_geq (T rfl) (T rfl)) rfl (gd_y rfl rfl (at_f rfl)) (y_ (yl_pick_f (T rfl) (T rfl)) (jl_nil (q_then (j_keep [(3, _), (5, _), (41, _)] ⟨at_f rfl, at_f rfl, at_f rfl, trivial⟩ ?_))) rfl))
            first | refine j_cond_d (at_f rfl) (fun c41 => ?_) (fun c41 => ?_) | refine j_cond (at_f rfl) (fun c41 => ?_) (fun c41 => ?_)
            · refine j_seq (j_region (y_ (yl_assign ev_c) (jl_nil (q_then (j_ret (q_then_ret (q_ret rfl (.tmp (at_f rfl) .nil) ?_))))) rfl))
              exact ⟨_, ⟨by unfold oneF; rw [if_pos (by omega)]; rfl, rfl⟩, sbt⟩
            · refine j_skip (q_then (j_seq (j_region (y_ (yl_loadA (T rfl) Try.isAgg26 Try.sizeOf26 rfl (by first | exact cs_o | exact cs_m (hn.edges.f (i := (m.way.port - 10000).toNat) (by omega) rfl))) ?_ rfl))))
              refine y_ (yl_fa0 (T rfl) fa48_0) (y_ (yl_load (T rfl) Try.isAgg3 (by first | exact c_o | exact c_m (hn.edges.f (i := (m.way.port - 10000).toNat) (by omega) rfl))) ?_ rfl) rfl
              refine y_ (yl_fa (T rfl) fa48_1) (y_ (yl_load (T rfl) Try.isAgg28 (by first | exact c_o | exact c_m (hn.edges.f (i := (m.way.port - 10000).toNat) (by omega) rfl))) ?_ rfl) rfl
              refine y_ (yl_call (.cons (T rfl) (.cons (T rfl) (.cons (T rfl) .nil))) Try.call81 (fun H' hs => rwalk_s n (hn.mono (List.Sublist.trans sbt hs)) _ _ _ _ (hm.links.m (List.Sublist.trans sbt hs)) hm.len)) (y_ (yl_move (T rfl)) (y_ (yl_extract (T rfl) rfl) (y_ (yl_extract (T rfl) rfl) (y_ (yl_assign (T rfl)) (y_ (yl_assign (T rfl)) (jl_nil (q_then (j_seq (j_seq (j_region (y_ (yl_move (T rfl)) ?_ rfl)))))) rfl) rfl) rfl) rfl) rfl) rfl
              first | refine jl_y (yl_not_d (T rfl)) rfl gd_n ?_ | refine jl_y (yl_not (T rfl)) rfl gd_n ?_
              refine jl_nil (q_then ?_)
              first | refine j_cond_d (at_f rfl) (fun c52 => ?_) (fun c52 => ?_) | refine j_cond (at_f rfl) (fun c52 => ?_) (fun c52 => ?_)
              · refine j_seq (j_region (y_ (yl_assign ev_c) (jl_nil (q_then (j_ret (q_then_ret (q_ret rfl (.tmp (at_f rfl) .nil) ?_))))) rfl))
                exact ⟨_, ⟨by unfold oneF; rw [if_neg (by omega), if_pos (by simpa using c52)]; rfl, rfl⟩, sbt⟩
              · refine j_skip (q_then (j_seq (j_region (y_ (yl_loadA (T rfl) Try.isAgg26 Try.sizeOf26 rfl (by first | exact cs_o | exact cs_m (hn.edges.f (i := (m.way.port - 10000).toNat) (by omega) rfl))) ?_ rfl))))
                refine y_ (yl_loadA (T rfl) Try.isAgg48 Try.sizeOf48 rfl (by first | exact cs_o | exact cs_m (hn.edges.f (i := (m.way.port - 10000).toNat) (by omega) rfl))) ?_ rfl
                refine e_ (eff_call (.cons (T rfl) (.cons (T rfl) .nil)) Try.call66 (rNodes_s n hn.mono m hm.mono (walk_inr (by simpa using c52)) hs20)) ?_ rfl
                rintro _ _ ⟨d, rfl, hokd, rfl⟩
                refine y_ (yl_call (.cons (T rfl) .nil) Try.call82 (fun H' hs => twice_s _ _ _ ((sl_arr (enc := encI) (sz := 1) (X := _) (e := 3) (fun _ => rfl) hokd).mono (List.Sublist.trans sbt hs)) (by rw [nodesF_len]; omega))) ?_ rfl
                refine y_ (yl_assign (T rfl)) (jl_nil (q_then (j_seq (j_seq (j_region (y_ (yl_move (T rfl)) (jl_nil (q_then ?_)) rfl)))))) rfl
                first | refine j_cond_d (at_f rfl) (fun c57 => ?_) (fun c57 => ?_) | refine j_cond (at_f rfl) (fun c57 => ?_) (fun c57 => ?_)
                · refine j_seq (j_region (y_ (yl_assign ev_c) (jl_nil (q_then (j_ret (q_then_ret (q_ret rfl (.tmp (at_f rfl) .nil) ?_))))) rfl))
                  exact ⟨_, ⟨by unfold oneF; rw [if_neg (by omega), if_neg (by simpa using c52), if_pos c57]; rfl, rfl⟩, sbt⟩
                · refine j_skip (q_then (j_seq (j_seq (j_region (y_ (yl_fa (T rfl) fa48_2) (y_ (yl_load (T rfl) Try.isAgg3 (by first | exact c_o | exact c_m (hn.edges.f (i := (m.way.port - 10000).toNat) (by omega) rfl))) ?_ rfl) rfl)))))
                  refine y_ (yl_geq (T rfl) ev_c) (y_ (yl_move (T rfl)) ?_ rfl) rfl
                  first | refine jl_if_d (s := 61) (at_f rfl) (fun c61 => ?_) (fun c61 => ?_) | refine jl_if (s := 61) (at_f rfl) (fun c61 => ?_) (fun c61 => ?_)
                  · refine jl_y (yl_fa (T rfl) fa48_2) rfl (gd_y rfl rfl (at_f rfl)) (jl_y (yl_load (T rfl) Try.isAgg3 (by first | exact c_o | exact c_m (hn.edges.f (i := (m.way.port - 10000).toNat) (by omega) rfl))) rfl (gd_y rfl rfl (at_f rfl)) ?_)
                    refine jl_y (yl_sub (T rfl) ev_c (by omega)) rfl (gd_y rfl rfl (at_f rfl)) ?_
                    refine jl_y (yl_move (T rfl)) rfl (gd_y rfl rfl (at_f rfl)) (jl_y (yl_eql (T rfl) (T rfl)) rfl (gd_y rfl rfl (at_f rfl)) (y_ (yl_pick_t (T rfl) (T rfl)) (jl_nil (q_then (j_keep [(3, _), (5, _), (7, _), (67, _)] ⟨at_f rfl, at_f rfl, at_f rfl, at_f rfl, trivial⟩ ?_))) rfl))
                    first | refine j_cond_d (at_f rfl) (fun c67 => ?_) (fun c67 => ?_) | refine j_cond (at_f rfl) (fun c67 => ?_) (fun c67 => ?_)
                    · refine j_seq (j_region (y_ (yl_assign ev_c) (jl_nil (q_then (j_ret (q_then_ret (q_ret rfl (.tmp (at_f rfl) .nil) ?_))))) rfl))
                      exact ⟨_, ⟨by unfold oneF; (repeat' split) <;> first | rfl | (exfalso; first | omega | simp_all), rfl⟩, sbt⟩
                    · refine j_skip (q_then (j_seq (j_seq (j_region (y_ (yl_fa (T rfl) fa48_2) (y_ (yl_load (T rfl) Try.isAgg3 (by first | exact c_o | exact c_m (hn.edges.f (i := (m.way.port - 10000).toNat) (by omega) rfl))) ?_ rfl) rfl)))))
                      refine y_ (yl_geq (T rfl) ev_c) (y_ (yl_move (T rfl)) ?_ rfl) rfl
                      first | refine jl_if_d (s := 71) (at_f rfl) (fun c71 => ?_) (fun c71 => ?_) | refine jl_if (s := 71) (at_f rfl) (fun c71 => ?_) (fun c71 => ?_)
                      · refine jl_y (yl_fa (T rfl) fa48_2) rfl (gd_y rfl rfl (at_f rfl)) (jl_y (yl_load (T rfl) Try.isAgg3 (by first | exact c_o | exact c_m (hn.edges.f (i := (m.way.port - 10000).toNat) (by omega) rfl))) rfl (gd_y rfl rfl (at_f rfl)) ?_)
                        refine jl_y (yl_fa (T rfl) fa26_2) rfl (gd_y rfl rfl (at_f rfl)) (jl_y (yl_load (T rfl) Try.isAgg24 (by first | exact c_o | exact c_m (hn.edges.f (i := (m.way.port - 10000).toNat) (by omega) rfl))) rfl (gd_y rfl rfl (at_f rfl)) ?_)
                        refine jl_y (yl_len (T rfl) Try.runUnderlying24) rfl (gd_y rfl rfl (at_f rfl)) (jl_y (yl_add ev_c (T rfl) (by omega)) rfl (gd_y rfl rfl (at_f rfl)) ?_)
                        refine jl_y (yl_lss (T rfl) (T rfl)) rfl (gd_y rfl rfl (at_f rfl)) (y_ (yl_pick_t (T rfl) (T rfl)) (y_ (yl_move (T rfl)) ?_ rfl) rfl)
                        first | refine jl_if_d (s := 80) (at_f rfl) (fun c80 => ?_) (fun c80 => ?_) | refine jl_if (s := 80) (at_f rfl) (fun c80 => ?_) (fun c80 => ?_)
                        · refine jl_y (yl_fa (T rfl) fa26_2) rfl (gd_y rfl rfl (at_f rfl)) (jl_y (yl_load (T rfl) Try.isAgg24 (by first | exact c_o | exact c_m (hn.edges.f (i := (m.way.port - 10000).toNat) (by omega) rfl))) rfl (gd_y rfl rfl (at_f rfl)) ?_)
                          refine jl_y (yl_fa (T rfl) fa48_2) rfl (gd_y rfl rfl (at_f rfl)) (jl_y (yl_load (T rfl) Try.isAgg3 (by first | exact c_o | exact c_m (hn.edges.f (i := (m.way.port - 10000).toNat) (by omega) rfl))) rfl (gd_y rfl rfl (at_f rfl)) ?_)
                          refine jl_y (yl_sub (T rfl) ev_c (by omega)) rfl (gd_y rfl rfl (at_f rfl)) ?_
                          refine jl_y (yl_ixR (T rfl) (T rfl) Try.runUnderlying24 Try.sizeOf124 (by omega) (by first | exact rfl | exact hn.edges.b (i := (m.way.port - 10000).toNat) (by omega))) rfl (gd_y rfl rfl (at_f rfl)) ?_
                          refine jl_y (yl_fa (T rfl) fa124_1) rfl (gd_y rfl rfl (at_f rfl)) (jl_y (yl_load (T rfl) Try.isAgg3 (by first | exact c_o | exact c_m (hn.edges.f (i := (m.way.port - 10000).toNat) (by omega) rfl))) rfl (gd_y rfl rfl (at_f rfl)) ?_)
                          refine jl_y (yl_move (T rfl)) rfl (gd_y rfl rfl (at_f rfl)) (jl_y (yl_eql (T rfl) (T rfl)) rfl (gd_y rfl rfl (at_f rfl)) (y_ (yl_pick_t (T rfl) (T rfl)) (jl_nil (q_then (j_keep [(91, _)] ⟨at_f rfl, trivial⟩ ?_))) rfl))
                          first | refine j_cond_d (at_f rfl) (fun c91 => ?_) (fun c91 => ?_) | refine j_cond (at_f rfl) (fun c91 => ?_) (fun c91 => ?_)
                          · refine j_seq (j_region (y_ (yl_assign ev_c) (jl_nil (q_then (j_ret (q_then_ret (q_ret rfl (.tmp (at_f rfl) .nil) ?_))))) rfl))
                            exact ⟨_, ⟨by unfold oneF; (repeat' split) <;> first | rfl | (exfalso; first | omega | simp_all), rfl⟩, sbt⟩
                          · refine j_skip (q_then (j_seq (j_region (y_ (yl_assign ev_c) (jl_nil (q_then (j_ret (q_ret rfl (.tmp (at_f rfl) .nil) ?_)))) rfl))))
                            exact ⟨_, ⟨by unfold oneF; (repeat' split) <;> first | rfl | (exfalso; first | omega | simp_all), rfl⟩, sbt⟩
                        · refine n_ft (n_ft (n_ft (n_ft (n_ft (n_ft (n_ft (n_ft (n_ft (n_ft (y_ (yl_pick_f (T rfl) ev_c) (jl_nil (q_then (j_keep [(91, _)] ⟨at_f rfl, trivial⟩ (j_cond_f (at_f rfl) (j_skip (q_then (j_seq (j_region (y_ (yl_assign ev_c) (jl_nil (q_then (j_ret (q_ret rfl (.tmp (at_f rfl) .nil) ?_)))) rfl))))))))) rfl) rfl rfl rfl rfl) rfl rfl rfl rfl) rfl rfl rfl rfl) rfl rfl rfl rfl) rfl rfl rfl rfl) rfl rfl rfl rfl) rfl rfl rfl rfl) rfl rfl rfl rfl) rfl rfl rfl rfl) rfl rfl rfl rfl
                          exact ⟨_, ⟨by unfold oneF; (repeat' split) <;> first | rfl | (exfalso; first | omega | simp_all), rfl⟩, sbt⟩
                      · refine n_ft (n_ft (n_ft (n_ft (n_ft (n_ft (n_ft (y_ (yl_pick_f (T rfl) ev_c) (y_ (yl_move (T rfl)) (n_ft (n_ft (n_ft (n_ft (n_ft (n_ft (n_ft (n_ft (n_ft (n_ft (y_ (yl_pick_f (T rfl) ev_c) (jl_nil (q_then (j_keep [(91, _)] ⟨at_f rfl, trivial⟩ (j_cond_f (at_f rfl) (j_skip (q_then (j_seq (j_region (y_ (yl_assign ev_c) (jl_nil (q_then (j_ret (q_ret rfl (.tmp (at_f rfl) .nil) ?_)))) rfl))))))))) rfl) rfl rfl rfl rfl) rfl rfl rfl rfl) rfl rfl rfl rfl) rfl rfl rfl rfl) rfl rfl rfl rfl) rfl rfl rfl rfl) rfl rfl rfl rfl) rfl rfl rfl rfl) rfl rfl rfl rfl) rfl rfl rfl rfl) rfl) rfl) rfl rfl rfl rfl) rfl rfl rfl rfl) rfl rfl rfl rfl) rfl rfl rfl rfl) rfl rfl rfl rfl) rfl rfl rfl rfl) rfl rfl rfl rfl
                        exact ⟨_, ⟨by unfold oneF; (repeat' split) <;> first | rfl | (exfalso; first | omega | simp_all), rfl⟩, sbt⟩
                  · refine n_ft (n_ft (n_ft (n_ft (n_ft (y_ (yl_pick_f (T rfl) ev_c) (jl_nil (q_then (j_keep [(3, _), (5, _), (7, _), (67, _)] ⟨at_f rfl, at_f rfl, at_f rfl, at_f rfl, trivial⟩ (j_cond_f (at_f rfl) (j_skip (q_then (j_seq (j_seq (j_region (y_ (yl_fa (T rfl) fa48_2) (y_ (yl_load (T rfl) Try.isAgg3 (by first | exact c_o | exact c_m (hn.edges.f (i := (m.way.port - 10000).toNat) (by omega) rfl))) ?_ rfl) rfl)))))))))) rfl) rfl rfl rfl rfl) rfl rfl rfl rfl) rfl rfl rfl rfl) rfl rfl rfl rfl) rfl rfl rfl rfl
                    refine y_ (yl_geq (T rfl) ev_c) (y_ (yl_move (T rfl)) ?_ rfl) rfl
                    first | refine jl_if_d (s := 71) (at_f rfl) (fun c71 => ?_) (fun c71 => ?_) | refine jl_if (s := 71) (at_f rfl) (fun c71 => ?_) (fun c71 => ?_)
                    · refine jl_y (yl_fa (T rfl) fa48_2) rfl (gd_y rfl rfl (at_f rfl)) (jl_y (yl_load (T rfl) Try.isAgg3 (by first | exact c_o | exact c_m (hn.edges.f (i := (m.way.port - 10000).toNat) (by omega) rfl))) rfl (gd_y rfl rfl (at_f rfl)) ?_)
                      refine jl_y (yl_fa (T rfl) fa26_2) rfl (gd_y rfl rfl (at_f rfl)) (jl_y (yl_load (T rfl) Try.isAgg24 (by first | exact c_o | exact c_m (hn.edges.f (i := (m.way.port - 10000).toNat) (by omega) rfl))) rfl (gd_y rfl rfl (at_f rfl)) ?_)
                      refine jl_y (yl_len (T rfl) Try.runUnderlying24) rfl (gd_y rfl rfl (at_f rfl)) (jl_y (yl_add ev_c (T rfl) (by omega)) rfl (gd_y rfl rfl (at_f rfl)) ?_)
                      refine jl_y (yl_lss (T rfl) (T rfl)) rfl (gd_y rfl rfl (at_f rfl)) (y_ (yl_pick_t (T rfl) (T rfl)) (y_ (yl_move (T rfl)) ?_ rfl) rfl)
                      first | refine jl_if_d (s := 80) (at_f rfl) (fun c80 => ?_) (fun c80 => ?_) | refine jl_if (s := 80) (at_f rfl) (fun c80 => ?_) (fun c80 => ?_)
                      · refine jl_y (yl_fa (T rfl) fa26_2) rfl (gd_y rfl rfl (at_f rfl)) (jl_y (yl_load (T rfl) Try.isAgg24 (by first | exact c_o | exact c_m (hn.edges.f (i := (m.way.port - 10000).toNat) (by omega) rfl))) rfl (gd_y rfl rfl (at_f rfl)) ?_)
                        refine jl_y (yl_fa (T rfl) fa48_2) rfl (gd_y rfl rfl (at_f rfl)) (jl_y (yl_load (T rfl) Try.isAgg3 (by first | exact c_o | exact c_m (hn.edges.f (i := (m.way.port - 10000).toNat) (by omega) rfl))) rfl (gd_y rfl rfl (at_f rfl)) ?_)
                        refine jl_y (yl_sub (T rfl) ev_c (by omega)) rfl (gd_y rfl rfl (at_f rfl)) ?_
                        refine jl_y (yl_ixR (T rfl) (T rfl) Try.runUnderlying24 Try.sizeOf124 (by omega) (by first | exact rfl | exact hn.edges.b (i := (m.way.port - 10000).toNat) (by omega))) rfl (gd_y rfl rfl (at_f rfl)) ?_
                        refine jl_y (yl_fa (T rfl) fa124_1) rfl (gd_y rfl rfl (at_f rfl)) (jl_y (yl_load (T rfl) Try.isAgg3 (by first | exact c_o | exact c_m (hn.edges.f (i := (m.way.port - 10000).toNat) (by omega) rfl))) rfl (gd_y rfl rfl (at_f rfl)) ?_)
                        refine jl_y (yl_move (T rfl)) rfl (gd_y rfl rfl (at_f rfl)) (jl_y (yl_eql (T rfl) (T rfl)) rfl (gd_y rfl rfl (at_f rfl)) (y_ (yl_pick_t (T rfl) (T rfl)) (jl_nil (q_then (j_keep [(91, _)] ⟨at_f rfl, trivial⟩ ?_))) rfl))
                        first | refine j_cond_d (at_f rfl) (fun c91 => ?_) (fun c91 => ?_) | refine j_cond (at_f rfl) (fun c91 => ?_) (fun c91 => ?_)
                        · refine j_seq (j_region (y_ (yl_assign ev_c) (jl_nil (q_then (j_ret (q_then_ret (q_ret rfl (.tmp (at_f rfl) .nil) ?_))))) rfl))
                          exact ⟨_, ⟨by unfold oneF; (repeat' split) <;> first | rfl | (exfalso; first | omega | simp_all), rfl⟩, sbt⟩
                        · refine j_skip (q_then (j_seq (j_region (y_ (yl_assign ev_c) (jl_nil (q_then (j_ret (q_ret rfl (.tmp (at_f rfl) .nil) ?_)))) rfl))))
                          exact ⟨_, ⟨by unfold oneF; (repeat' split) <;> first | rfl | (exfalso; first | omega | simp_all), rfl⟩, sbt⟩
                      · refine n_ft (n_ft (n_ft (n_ft (n_ft (n_ft (n_ft (n_ft (n_ft (n_ft (y_ (yl_pick_f (T rfl) ev_c) (jl_nil (q_then (j_keep [(91, _)] ⟨at_f rfl, trivial⟩ (j_cond_f (at_f rfl) (j_skip (q_then (j_seq (j_region (y_ (yl_assign ev_c) (jl_nil (q_then (j_ret (q_ret rfl (.tmp (at_f rfl) .nil) ?_)))) rfl))))))))) rfl) rfl rfl rfl rfl) rfl rfl rfl rfl) rfl rfl rfl rfl) rfl rfl rfl rfl) rfl rfl rfl rfl) rfl rfl rfl rfl) rfl rfl rfl rfl) rfl rfl rfl rfl) rfl rfl rfl rfl) rfl rfl rfl rfl
                        exact ⟨_, ⟨by unfold oneF; (repeat' split) <;> first | rfl | (exfalso; first | omega | simp_all), rfl⟩, sbt⟩
                    · refine n_ft (n_ft (n_ft (n_ft (n_ft (n_ft (n_ft (y_ (yl_pick_f (T rfl) ev_c) (y_ (yl_move (T rfl)) (n_ft (n_ft (n_ft (n_ft (n_ft (n_ft (n_ft (n_ft (n_ft (n_ft (y_ (yl_pick_f (T rfl) ev_c) (jl_nil (q_then (j_keep [(91, _)] ⟨at_f rfl, trivial⟩ (j_cond_f (at_f rfl) (j_skip (q_then (j_seq (j_region (y_ (yl_assign ev_c) (jl_nil (q_then (j_ret (q_ret rfl (.tmp (at_f rfl) .nil) ?_)))) rfl))))))))) rfl) rfl rfl rfl rfl) rfl rfl rfl rfl) rfl rfl rfl rfl) rfl rfl rfl rfl) rfl rfl rfl rfl) rfl rfl rfl rfl) rfl rfl rfl rfl) rfl rfl rfl rfl) rfl rfl rfl rfl) rfl rfl rfl rfl) rfl) rfl) rfl rfl rfl rfl) rfl rfl rfl rfl) rfl rfl rfl rfl) rfl rfl rfl rfl) rfl rfl rfl rfl) rfl rfl rfl rfl) rfl rfl rfl rfl
                      exact ⟨_, ⟨by unfold oneF; (repeat' split) <;> first | rfl | (exfalso; first | omega | simp_all), rfl⟩, sbt⟩
theorem rCheck_s {w0 : World} {H : List (Nat × Obj)} (n : Nm) (hn : NetM w0 H n) (hok : NetOk n) (hsm : n.edges.length ≤ 1000000) (steps : Int) (q : Option Addr) (cap : Nat) (l : List Wm) (hw : WaysM w0 H q l) (hs20 : ∀ i, i < l.length → (gd l i).way.links.length ≤ 20) :
    FSpec Try.prog w0 31 #[.agg (encNm n).toArray, .int .i64 steps, .slice q l.length cap] H (Still (.tuple #[.int .i64 (chkF n steps l).1, .int .i64 (chkF n steps l).2]) H) := by
  refine fn_spec Try.func31 rfl Try.ntmps31 rfl (j_seq (j_region (e_ (eff_box (T rfl) cs_) ?_ rfl)))
  rintro _ _ ⟨n3, rfl, rfl⟩
  refine y_ (yl_assign ev_c) (y_ (yl_assign ev_c) (jl_nil (q_then (j_seq (j_seq (j_region (y_ (yl_move (T rfl)) (y_ (yl_lss (T rfl) ev_c) (jl_nil (q_then ?_)) rfl) rfl)))))) rfl) rfl
  first | refine j_cond_d (at_f rfl) (fun c11 => ?_) (fun c11 => ?_) | refine j_cond (at_f rfl) (fun c11 => ?_) (fun c11 => ?_)
  · refine j_seq (j_region (y_ (yl_assign ev_c) (y_ (yl_assign ev_c) (jl_nil (q_then (j_ret (q_then_ret (q_ret rfl (.tmp (at_f rfl) (.tmp (at_f rfl) .nil)) ?_))))) rfl) rfl))
    exact ⟨_, ⟨by unfold chkF; rw [if_pos (by omega)]; rfl, rfl⟩, sbt⟩
  · refine j_skip (q_then (j_seq (j_seq (j_region (y_ (yl_move (T rfl)) (y_ (yl_len (T rfl) Try.runUnderlying27) (y_ (yl_gtr (T rfl) ev_c) (jl_nil (q_then ?_)) rfl) rfl) rfl)))))
    first | refine j_cond_d (at_f rfl) (fun c14 => ?_) (fun c14 => ?_) | refine j_cond (at_f rfl) (fun c14 => ?_) (fun c14 => ?_)
    · refine j_seq (j_region (y_ (yl_assign ev_c) (y_ (yl_assign ev_c) (jl_nil (q_then (j_ret (q_then_ret (q_ret rfl (.tmp (at_f rfl) (.tmp (at_f rfl) .nil)) ?_))))) rfl) rfl))
      exact ⟨_, ⟨by unfold chkF; rw [if_neg (by omega), if_pos (by omega)]; rfl, rfl⟩, sbt⟩
    · refine j_skip (q_then (j_seq (j_seq (j_region (y_ (yl_assign ev_c) (jl_nil (q_then (j_block ?_))) rfl)))))
      refine j_loopH (X := Nat) (V := fun k => [(8, .int .i64 (k : Nat))]) (C := [(1, _), (2, _), (3, _)]) (φ := fun k => k ≤ l.length ∧ chkG n steps k (l.drop k) = chkF n steps l) (μ := fun k => l.length - k) (x0 := 0) ?_ ⟨at_f rfl, at_f rfl, at_f rfl, trivial⟩ ⟨(by first | exact at_f rfl | (refine at_e (at_f rfl) (vint ?_); omega) | (refine at_e (at_f rfl) ?_; simp; done)), trivial⟩ ?_
      · exact ⟨Nat.zero_le _, by unfold chkF; rw [if_neg (by omega), if_neg (by omega)]; rfl⟩
      rintro k ⟨hk, hc⟩
      refine j_seq (j_seq (j_region (y_ (yl_move (T rfl)) (y_ (yl_move (T rfl)) (y_ (yl_len (T rfl) Try.runUnderlying27) (y_ (yl_lss (T rfl) (T rfl)) (jl_nil (q_then ?_)) rfl) rfl) rfl) rfl)))
      first | refine j_cond_d (at_f rfl) (fun c18 => ?_) (fun c18 => ?_) | refine j_cond (at_f rfl) (fun c18 => ?_) (fun c18 => ?_)
      · refine j_skip (q_then (j_seq (j_block (j_seq (j_any 8 [(0, true), (1, true), (2, true), (3, true), (4, true), (5, true), (6, true), (7, true)] _ mixd (by kernel_rfl) sb0 ?_)))))
        refine o_y rfl (yl_loadA (T rfl) Try.isAgg26 Try.sizeOf26 rfl (by first | exact cs_o)) ?_ rfl gd_n
        refine o_y rfl (yl_move (T rfl)) (o_y rfl (yl_move (T rfl)) (o_y rfl (yl_move (T rfl)) (o_y rfl (yl_ixQ (T rfl) (T rfl) Try.runUnderlying27 Try.sizeOf48 (by omega) (by first | exact rfl | exact hw.arr.b (i := k) (by omega))) ?_ rfl gd_n) rfl gd_n) rfl gd_n) rfl gd_n
        refine o_y rfl (yl_loadA (T rfl) Try.isAgg48 Try.sizeOf48 rfl (by first | exact cs_o | exact cs_m (hw.arr.cs (i := k) (by omega)))) ?_ rfl gd_n
        refine o_y rfl (yl_call (.cons (T rfl) (.cons (T rfl) (.cons (T rfl) .nil))) Try.call64 (fun H' hs => one_s n (hn.mono (List.Sublist.trans sbt hs)) hok hsm _ _ ((hw.at (i := k) (by omega)).mono (List.Sublist.trans sbt hs)) (by have := hs20 k (by omega); omega))) ?_ rfl gd_n
        refine o_y rfl (yl_assign (T rfl)) (jo_nil rfl (jl_nil (q_then (j_seq (j_region (y_ (yl_move (T rfl)) (y_ (yl_neq (T rfl) ev_c) (jl_nil (q_then ?_)) rfl) rfl)))))) rfl gd_n
        first | refine j_cond_d (at_f rfl) (fun c29 => ?_) (fun c29 => ?_) | refine j_cond (at_f rfl) (fun c29 => ?_) (fun c29 => ?_)
        · refine j_seq (j_region (y_ (yl_move (T rfl)) (y_ (yl_move (T rfl)) (y_ (yl_assign (T rfl)) (y_ (yl_assign (T rfl)) (jl_nil (q_then (j_ret (q_block_ret (q_then_ret (q_loop_ret (q_block_ret (q_then_ret (q_ret rfl (.tmp (at_f rfl) (.tmp (at_f rfl) .nil)) ?_))))))))) rfl) rfl) rfl) rfl))
          rw [drop_gd (by omega), chkG, if_neg c29] at hc
          exact ⟨_, ⟨by rw [← hc]; rfl, rfl⟩, sbt⟩
        · refine j_skip (q_block (q_then (j_region (y_ (yl_move (T rfl)) (y_ (yl_add (T rfl) ev_c (by omega)) ?_ rfl) rfl))))
          refine y_ (yl_assign (T rfl)) (jl_nil ?_) rfl
          refine q_loopC (k + 1) ?_ ?_ ⟨(by first | exact at_f rfl | (refine at_e (at_f rfl) (vint ?_); omega) | (refine at_e (at_f rfl) ?_; simp; done)), trivial⟩ ⟨at_f rfl, at_f rfl, at_f rfl, trivial⟩ ?_
          · refine ⟨by omega, ?_⟩
            rw [drop_gd (by omega), chkG, if_pos (Classical.not_not.1 c29)] at hc
            exact hc
          · first | omega | (simp only []; omega)
          · exact sbt
      · refine j_exit (q_then_exit (q_loop_exit (q_block_hit (q_then (j_seq (j_region (y_ (yl_assign ev_c) (y_ (yl_assign ev_c) (jl_nil (q_then (j_ret (q_ret rfl (.tmp (at_f rfl) (.tmp (at_f rfl) .nil)) ?_)))) rfl) rfl)))))))
        rw [drop_end (by omega)] at hc
        exact ⟨_, ⟨by rw [← hc]; rfl, rfl⟩, sbt⟩
/-- what a right input is -/
structure Rt (n : Nm) (steps : Int) (l : List Wm) (most : Int) : Prop where
  ln : n.nodes.length ≤ 8
  ll : n.links.length ≤ 16
  le : n.edges.length ≤ 20
  few : ∀ i, i < l.length → (gd l i).way.links.length ≤ 20
  most : (l.length : Int) ≤ most
  net : NetOk n
  ways : ∀ m ∈ l, oneF n steps m.way = 0
theorem right_s {w0 : World} {H : List (Nat × Obj)} (n : Nm) (hn : NetM w0 H n) (steps : Int) (q : Option Addr) (cap : Nat) (l : List Wm) (hw : WaysM w0 H q l) (most : Int) :
    FSpec Try.prog w0 10 #[.agg (encNm n).toArray, .int .i64 steps, .slice q l.length cap, .int .i64 most] H (fun v H' => (∃ t : Bool, v = .bool t ∧ (t = true → Rt n steps l most)) ∧ H' = H) := by
  refine fn_spec Try.func10 rfl Try.ntmps10 rfl (j_seq (j_region (e_ (eff_box (T rfl) cs_) ?_ rfl)))
  rintro _ _ ⟨n4, rfl, rfl⟩
  refine y_ (yl_assign ev_c) (jl_nil (q_then (j_seq (j_region (y_ (yl_loadA (T rfl) Try.isAgg26 Try.sizeOf26 rfl (by first | exact cs_o)) ?_ rfl))))) rfl
  refine y_ (yl_call (.cons (T rfl) (.cons ev_c (.cons ev_c (.cons ev_c .nil)))) Try.call27 (fun H' hs => netFew_s _ _ _ _)) (y_ (yl_assign (T rfl)) (jl_nil (q_then (j_seq (j_region (y_ (yl_move (T rfl)) (y_ (yl_move (T rfl)) (e_ (eff_call (.cons (T rfl) (.cons (T rfl) .nil)) Try.call28 (wFew_s _ _ _ (hw.mono) _)) ?_ rfl) rfl) rfl))))) rfl) rfl
  rintro _ _ ⟨⟨tw, rfl, htw⟩, rfl⟩
  refine y_ (yl_assign (T rfl)) (jl_nil (q_then (j_seq (j_seq (j_region (y_ (yl_move (T rfl)) ?_ rfl)))))) rfl
  first | refine jl_y (yl_not_d (T rfl)) rfl gd_n ?_ | refine jl_y (yl_not (T rfl)) rfl gd_n ?_
  refine y_ (yl_move (T rfl)) ?_ rfl
  first | refine jl_if_d (s := 20) (at_f rfl) (fun c20 => ?_) (fun c20 => ?_) | refine jl_if (s := 20) (at_f rfl) (fun c20 => ?_) (fun c20 => ?_)
  · refine n_tf (n_tf (y_ (yl_pick_t (T rfl) ev_c) (y_ (yl_move (T rfl)) (n_tf (n_tf (n_tf (y_ (yl_pick_t (T rfl) ev_c) (jl_nil (q_then (j_cond_t (at_f rfl) (j_seq (j_region (y_ (yl_assign ev_c) (jl_nil (q_then (j_ret (q_then_ret (q_ret rfl (.tmp (at_f rfl) .nil) ?_))))) rfl)))))) rfl) rfl rfl rfl rfl) rfl rfl rfl rfl) rfl rfl rfl rfl) rfl) rfl) rfl rfl rfl rfl) rfl rfl rfl rfl
    exact ⟨_, ⟨⟨_, rfl, fun h => by cases h⟩, rfl⟩, sbt⟩
  · refine jl_y (yl_move (T rfl)) rfl (gd_y rfl rfl (at_f rfl)) ?_
    first | refine jl_y (yl_not_d (T rfl)) rfl (gd_y rfl rfl (at_f rfl)) ?_ | refine jl_y (yl_not (T rfl)) rfl (gd_y rfl rfl (at_f rfl)) ?_
    refine y_ (yl_pick_f (T rfl) (T rfl)) (y_ (yl_move (T rfl)) ?_ rfl) rfl
    first | refine jl_if_d (s := 24) (at_f rfl) (fun c24 => ?_) (fun c24 => ?_) | refine jl_if (s := 24) (at_f rfl) (fun c24 => ?_) (fun c24 => ?_)
    · refine n_tf (n_tf (n_tf (y_ (yl_pick_t (T rfl) ev_c) (jl_nil (q_then (j_cond_t (at_f rfl) (j_seq (j_region (y_ (yl_assign ev_c) (jl_nil (q_then (j_ret (q_then_ret (q_ret rfl (.tmp (at_f rfl) .nil) ?_))))) rfl)))))) rfl) rfl rfl rfl rfl) rfl rfl rfl rfl) rfl rfl rfl rfl
      exact ⟨_, ⟨⟨_, rfl, fun h => by cases h⟩, rfl⟩, sbt⟩
    · refine jl_y (yl_loadA (T rfl) Try.isAgg26 Try.sizeOf26 rfl (by first | exact cs_o)) rfl (gd_y rfl rfl (at_f rfl)) ?_
      refine jl_e (eff_call (.cons (T rfl) .nil) Try.call29 (netCheck_s n hn.mono)) rfl (gd_y rfl rfl (at_f rfl)) ?_
      rintro _ _ ⟨⟨e, rfl, hne⟩, rfl⟩
      refine jl_y (yl_neq (T rfl) ev_c) rfl (gd_y rfl rfl (at_f rfl)) (y_ (yl_pick_f (T rfl) (T rfl)) (jl_nil (q_then ?_)) rfl)
      first | refine j_cond_d (at_f rfl) (fun c28 => ?_) (fun c28 => ?_) | refine j_cond (at_f rfl) (fun c28 => ?_) (fun c28 => ?_)
      · refine j_seq (j_region (y_ (yl_assign ev_c) (jl_nil (q_then (j_ret (q_then_ret (q_ret rfl (.tmp (at_f rfl) .nil) ?_))))) rfl))
        exact ⟨_, ⟨⟨_, rfl, fun h => by cases h⟩, rfl⟩, sbt⟩
      · refine j_skip (q_then (j_seq (j_region (y_ (yl_loadA (T rfl) Try.isAgg26 Try.sizeOf26 rfl (by first | exact cs_o)) ?_ rfl))))
        refine y_ (yl_move (T rfl)) (y_ (yl_move (T rfl)) (y_ (yl_call (.cons (T rfl) (.cons (T rfl) (.cons (T rfl) .nil))) Try.call31 (fun H' hs => rCheck_s n (hn.mono (List.Sublist.trans sbt hs)) (hne (by omega)) (by omega) _ _ _ _ (hw.mono (List.Sublist.trans sbt hs)) (htw (by simpa using c24)).1)) ?_ rfl) rfl) rfl
        refine y_ (yl_move (T rfl)) (y_ (yl_extract (T rfl) rfl) (y_ (yl_extract (T rfl) rfl) (y_ (yl_assign (T rfl)) (y_ (yl_assign (T rfl)) (jl_nil (q_then (j_keep [(12, _)] ⟨at_f rfl, trivial⟩ (j_seq (j_region (y_ (yl_move (T rfl)) (y_ (yl_eql (T rfl) ev_c) (y_ (yl_assign (T rfl)) (jl_nil (q_then (j_ret (q_ret rfl (.tmp (at_f rfl) .nil) ?_)))) rfl) rfl) rfl)))))) rfl) rfl) rfl) rfl) rfl
        exact ⟨_, ⟨⟨_, rfl, fun h => ⟨by omega, by omega, by omega, (htw (by simpa using c24)).1, (htw (by simpa using c24)).2, hne (by omega), chkF_ok (of_decide_eq_true h)⟩⟩, rfl⟩, sbt⟩
theorem sameInts_s {w0 : World} {H : List (Nat × Obj)} (q q2 : Option Addr) (cap cap2 : Nat) (x y : List Int) (hx : IntArr w0 H q x) (hy : IntArr w0 H q2 y) (hl : x.length ≤ 9223372036854775807) :
    FSpec Try.prog w0 13 #[.slice q x.length cap, .slice q2 y.length cap2] H (Still (.bool (decide (x = y))) H) := by
  refine fn_spec Try.func13 rfl Try.ntmps13 rfl (j_seq (j_region (y_ (yl_assign ev_c) (jl_nil (q_then (j_seq (j_seq (j_region (y_ (yl_move (T rfl)) (y_ (yl_len (T rfl) Try.runUnderlying28) (y_ (yl_move (T rfl)) (y_ (yl_len (T rfl) Try.runUnderlying28) (y_ (yl_neq (T rfl) (T rfl)) (jl_nil (q_then ?_)) rfl) rfl) rfl) rfl) rfl)))))) rfl)))
  first | refine j_cond_d (at_f rfl) (fun c10 => ?_) (fun c10 => ?_) | refine j_cond (at_f rfl) (fun c10 => ?_) (fun c10 => ?_)
  · refine j_seq (j_region (y_ (yl_assign ev_c) (jl_nil (q_then (j_ret (q_then_ret (q_ret rfl (.tmp (at_f rfl) .nil) ?_))))) rfl))
    exact ⟨_, ⟨by rw [decide_eq_false (fun h => c10 (by rw [h]))]; rfl, rfl⟩, sbt⟩
  · refine j_skip (q_then (j_seq (j_seq (j_region (y_ (yl_assign ev_c) (jl_nil (q_then (j_block ?_))) rfl)))))
    refine j_loopH (X := Nat) (V := fun k => [(5, .int .i64 (k : Nat))]) (C := [(0, _), (1, _)]) (φ := fun k => k ≤ x.length ∧ x.take k = y.take k) (μ := fun k => x.length - k) (x0 := 0) ?_ ⟨at_f rfl, at_f rfl, trivial⟩ ⟨(by first | exact at_f rfl | (refine at_e (at_f rfl) (vint ?_); omega) | (refine at_e (at_f rfl) ?_; simp; done)), trivial⟩ ?_
    · exact ⟨Nat.zero_le _, rfl⟩
    rintro k ⟨hk, heq⟩
    refine j_seq (j_seq (j_region (y_ (yl_move (T rfl)) (y_ (yl_move (T rfl)) (y_ (yl_len (T rfl) Try.runUnderlying28) (y_ (yl_lss (T rfl) (T rfl)) (jl_nil (q_then ?_)) rfl) rfl) rfl) rfl)))
    first | refine j_cond_d (at_f rfl) (fun c14 => ?_) (fun c14 => ?_) | refine j_cond (at_f rfl) (fun c14 => ?_) (fun c14 => ?_)
    · refine j_skip (q_then (j_seq (j_block (j_seq (j_any 9 [(0, true), (1, true), (2, true), (3, true), (4, true), (5, true), (6, true), (7, true), (8, true)] _ mixd (by kernel_rfl) sb0 ?_)))))
      refine o_y rfl (yl_move (T rfl)) (o_y rfl (yl_move (T rfl)) (o_y rfl (yl_ixQ (T rfl) (T rfl) Try.runUnderlying28 Try.sizeOf3 (by omega) (by first | exact rfl | exact hx.b (i := k) (by omega) | exact hy.b (i := k) (by omega))) ?_ rfl gd_n) rfl gd_n) rfl gd_n
      refine o_y rfl (yl_load (T rfl) Try.isAgg3 (by first | exact c_o | exact c_m (hx.f0 (i := k) (by omega) rfl) | exact c_m (hy.f0 (i := k) (by omega) rfl))) ?_ rfl gd_n
      refine o_y rfl (yl_move (T rfl)) (o_y rfl (yl_move (T rfl)) (o_y rfl (yl_ixQ (T rfl) (T rfl) Try.runUnderlying28 Try.sizeOf3 (by omega) (by first | exact rfl | exact hx.b (i := k) (by omega) | exact hy.b (i := k) (by omega))) ?_ rfl gd_n) rfl gd_n) rfl gd_n
      refine o_y rfl (yl_load (T rfl) Try.isAgg3 (by first | exact c_o | exact c_m (hx.f0 (i := k) (by omega) rfl) | exact c_m (hy.f0 (i := k) (by omega) rfl))) ?_ rfl gd_n
      refine o_y rfl (yl_neq (T rfl) (T rfl)) (jo_nil rfl (jl_nil (q_then ?_))) rfl gd_n
      first | refine j_cond_d (at_f rfl) (fun c25 => ?_) (fun c25 => ?_) | refine j_cond (at_f rfl) (fun c25 => ?_) (fun c25 => ?_)
      · refine j_seq (j_region (y_ (yl_assign ev_c) (jl_nil (q_then (j_ret (q_block_ret (q_then_ret (q_loop_ret (q_block_ret (q_then_ret (q_ret rfl (.tmp (at_f rfl) .nil) ?_))))))))) rfl))
        exact ⟨_, ⟨by rw [decide_eq_false (fun h => c25 (by rw [h]))]; rfl, rfl⟩, sbt⟩
      · refine j_skip (q_block (q_then (j_region (y_ (yl_move (T rfl)) (y_ (yl_add (T rfl) ev_c (by omega)) ?_ rfl) rfl))))
        refine y_ (yl_assign (T rfl)) (jl_nil ?_) rfl
        refine q_loopC (k + 1) ?_ ?_ ⟨(by first | exact at_f rfl | (refine at_e (at_f rfl) (vint ?_); omega) | (refine at_e (at_f rfl) ?_; simp; done)), trivial⟩ ⟨at_f rfl, at_f rfl, trivial⟩ ?_
        · exact ⟨by omega, by rw [take_gd (by omega), take_gd (by omega), heq, Classical.not_not.1 c25]⟩
        · first | omega | (simp only []; omega)
        · exact sbt
    · refine j_exit (q_then_exit (q_loop_exit (q_block_hit (q_then (j_seq (j_region (y_ (yl_assign ev_c) (jl_nil (q_then (j_ret (q_ret rfl (.tmp (at_f rfl) .nil) ?_)))) rfl)))))))
      exact ⟨_, ⟨by rw [decide_eq_true (by rw [take_end (by omega), take_end (by omega)] at heq; exact heq)]; rfl, rfl⟩, sbt⟩
end Go.Proofs.Ytdbffighngmibaa
