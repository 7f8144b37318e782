/-
  Walk of the law on checks.
-/
import Derived.Test.YtdbffighngmibaaWa
namespace Go.Proofs.Ytdbffighngmibaa
open Go.RowKit
set_option linter.unusedVariables false
set_option linter.unusedSimpArgs false
theorem checks_s {w0 : World} {H : List (Nat × Obj)} (n : Nm) (hn : NetM w0 H n) (steps : Int) (hst : -9223372036854775808 ≤ steps ∧ steps ≤ 9223372036854775807) (q : Option Addr) (cap : Nat) (l : List Wm) (hw : WaysM w0 H q l) (node : Int) :
    FSpec Try.prog w0 7 #[.agg (encNm n).toArray, .int .i64 steps, .slice q l.length cap, .int .i64 node] H (Still (.bool true) H) := by
  refine fn_spec Try.func7 rfl Try.ntmps7 rfl (j_seq (j_region (e_ (eff_box (T rfl) cs_) ?_ rfl)))
  rintro _ _ ⟨n4, rfl, rfl⟩
  refine y_ (yl_assign ev_c) (jl_nil (q_then (j_seq (j_region (y_ (yl_call .nil Try.call9 (fun H' hs => sanity_s)) (y_ (yl_assign (T rfl)) (jl_nil (q_then (j_seq (j_region (y_ (yl_loadA (T rfl) Try.isAgg26 Try.sizeOf26 rfl (by first | exact cs_o)) ?_ rfl))))) rfl) rfl))))) rfl
  refine y_ (yl_call (.cons (T rfl) (.cons ev_c (.cons ev_c (.cons ev_c .nil)))) Try.call27 (fun H' hs => netFew_s _ _ _ _)) (y_ (yl_assign (T rfl)) (jl_nil (q_then (j_seq (j_region (y_ (yl_move (T rfl)) (e_ (eff_call (.cons (T rfl) (.cons ev_c .nil)) Try.call28 (wFew_s _ _ _ hw.mono _)) ?_ rfl) rfl))))) rfl) rfl
  rintro _ _ ⟨⟨tw, rfl, htw⟩, rfl⟩
  refine y_ (yl_assign (T rfl)) (jl_nil (q_then (j_seq (j_seq (j_region (y_ (yl_move (T rfl)) ?_ rfl)))))) rfl
  first | refine jl_y (yl_not_d (T rfl)) rfl gd_n ?_ | refine jl_y (yl_not (T rfl)) rfl gd_n ?_
  refine y_ (yl_move (T rfl)) ?_ rfl
  first | refine jl_if_d (s := 31) (at_f rfl) (fun c31 => ?_) (fun c31 => ?_) | refine jl_if (s := 31) (at_f rfl) (fun c31 => ?_) (fun c31 => ?_)
  · refine n_tf (n_tf (y_ (yl_pick_t (T rfl) ev_c) (y_ (yl_move (T rfl)) (n_tf (n_tf (n_tf (y_ (yl_pick_t (T rfl) ev_c) (jl_nil (q_then (j_cond_t (at_f rfl) (j_seq (j_region (y_ (yl_move (T rfl)) (y_ (yl_assign (T rfl)) (jl_nil (q_then (j_ret (q_then_ret (q_ret rfl (.tmp (at_f rfl) .nil) ?_))))) rfl) rfl)))))) rfl) rfl rfl rfl rfl) rfl rfl rfl rfl) rfl rfl rfl rfl) rfl) rfl) rfl rfl rfl rfl) rfl rfl rfl rfl
    first | exact ⟨_, ⟨rfl, rfl⟩, sbt⟩ | exact ⟨_, ⟨vbool (decide_eq_true hce.2), rfl⟩, sbt⟩ | (exfalso; first | exact absurd rfl c58 | exact absurd rfl c62 | exact absurd rfl c81 | exact absurd rfl c131 | exact absurd rfl c136 | exact c141 hce.1 | omega)
  · refine jl_y (yl_move (T rfl)) rfl (gd_y rfl rfl (at_f rfl)) ?_
    first | refine jl_y (yl_not_d (T rfl)) rfl (gd_y rfl rfl (at_f rfl)) ?_ | refine jl_y (yl_not (T rfl)) rfl (gd_y rfl rfl (at_f rfl)) ?_
    refine y_ (yl_pick_f (T rfl) (T rfl)) (y_ (yl_move (T rfl)) ?_ rfl) rfl
    first | refine jl_if_d (s := 35) (at_f rfl) (fun c35 => ?_) (fun c35 => ?_) | refine jl_if (s := 35) (at_f rfl) (fun c35 => ?_) (fun c35 => ?_)
    · refine n_tf (n_tf (n_tf (y_ (yl_pick_t (T rfl) ev_c) (jl_nil (q_then (j_cond_t (at_f rfl) (j_seq (j_region (y_ (yl_move (T rfl)) (y_ (yl_assign (T rfl)) (jl_nil (q_then (j_ret (q_then_ret (q_ret rfl (.tmp (at_f rfl) .nil) ?_))))) rfl) rfl)))))) rfl) rfl rfl rfl rfl) rfl rfl rfl rfl) rfl rfl rfl rfl
      first | exact ⟨_, ⟨rfl, rfl⟩, sbt⟩ | exact ⟨_, ⟨vbool (decide_eq_true hce.2), rfl⟩, sbt⟩ | (exfalso; first | exact absurd rfl c58 | exact absurd rfl c62 | exact absurd rfl c81 | exact absurd rfl c131 | exact absurd rfl c136 | exact c141 hce.1 | omega)
    · refine jl_y (yl_loadA (T rfl) Try.isAgg26 Try.sizeOf26 rfl (by first | exact cs_o)) rfl (gd_y rfl rfl (at_f rfl)) ?_
      refine jl_e (eff_call (.cons (T rfl) .nil) Try.call29 (netCheck_s n hn.mono)) rfl (gd_y rfl rfl (at_f rfl)) ?_
      rintro _ _ ⟨⟨e, rfl, hne⟩, rfl⟩
      refine jl_y (yl_neq (T rfl) ev_c) rfl (gd_y rfl rfl (at_f rfl)) (y_ (yl_pick_f (T rfl) (T rfl)) (jl_nil (q_then ?_)) rfl)
      first | refine j_cond_d (at_f rfl) (fun c39 => ?_) (fun c39 => ?_) | refine j_cond (at_f rfl) (fun c39 => ?_) (fun c39 => ?_)
      · refine j_seq (j_region (y_ (yl_move (T rfl)) (y_ (yl_assign (T rfl)) (jl_nil (q_then (j_ret (q_then_ret (q_ret rfl (.tmp (at_f rfl) .nil) ?_))))) rfl) rfl))
        first | exact ⟨_, ⟨rfl, rfl⟩, sbt⟩ | exact ⟨_, ⟨vbool (decide_eq_true hce.2), rfl⟩, sbt⟩ | (exfalso; first | exact absurd rfl c58 | exact absurd rfl c62 | exact absurd rfl c81 | exact absurd rfl c131 | exact absurd rfl c136 | exact c141 hce.1 | omega)
      · have hok := hne (by omega)
        have h20 := (htw (by simpa using c35)).1
        have h12 := (htw (by simpa using c35)).2
        refine j_skip (q_then (j_seq (j_region (y_ (yl_loadA (T rfl) Try.isAgg26 Try.sizeOf26 rfl (by first | exact cs_o)) ?_ rfl))))
        refine y_ (yl_move (T rfl)) (y_ (yl_move (T rfl)) (y_ (yl_call (.cons (T rfl) (.cons (T rfl) (.cons (T rfl) .nil))) Try.call30 (fun H' hs => tCheck_s n (hn.mono (List.Sublist.trans sbt hs)) hok (by omega) (by omega) (by omega) _ (by omega) _ _ _ (hw.mono (List.Sublist.trans sbt hs)))) ?_ rfl) rfl) rfl
        refine y_ (yl_move (T rfl)) (y_ (yl_extract (T rfl) rfl) (y_ (yl_extract (T rfl) rfl) (y_ (yl_assign (T rfl)) (y_ (yl_assign (T rfl)) (jl_nil (q_then (j_keep [(1, _), (2, _), (3, _), (4, _), (9, _), (12, _), (13, _)] ⟨at_f rfl, at_f rfl, at_f rfl, at_f rfl, at_f rfl, at_f rfl, at_f rfl, trivial⟩ (j_seq (j_region (y_ (yl_loadA (T rfl) Try.isAgg26 Try.sizeOf26 rfl (by first | exact cs_o)) ?_ rfl)))))) rfl) rfl) rfl) rfl) rfl
        refine y_ (yl_move (T rfl)) (y_ (yl_move (T rfl)) (y_ (yl_call (.cons (T rfl) (.cons (T rfl) (.cons (T rfl) .nil))) Try.call31 (fun H' hs => rCheck_s n (hn.mono (List.Sublist.trans sbt hs)) hok (by omega) _ _ _ _ (hw.mono (List.Sublist.trans sbt hs)) h20)) ?_ rfl) rfl) rfl
        refine y_ (yl_move (T rfl)) (y_ (yl_extract (T rfl) rfl) (y_ (yl_extract (T rfl) rfl) (y_ (yl_assign (T rfl)) (y_ (yl_assign (T rfl)) (jl_nil (q_then (j_seq (j_seq (j_region (y_ (yl_move (T rfl)) (y_ (yl_move (T rfl)) (y_ (yl_neq (T rfl) (T rfl)) (y_ (yl_move (T rfl)) ?_ rfl) rfl) rfl) rfl)))))) rfl) rfl) rfl) rfl) rfl
        first | refine jl_if_d (s := 58) (at_f rfl) (fun c58 => ?_) (fun c58 => ?_) | refine jl_if (s := 58) (at_f rfl) (fun c58 => ?_) (fun c58 => ?_)
        · refine n_tf (n_tf (n_tf (y_ (yl_pick_t (T rfl) ev_c) (jl_nil (q_then (j_keep [(2, _), (3, _), (4, _), (9, _), (13, _), (62, _)] ⟨at_f rfl, at_f rfl, at_f rfl, at_f rfl, at_f rfl, at_f rfl, trivial⟩ (j_cond_t (at_f rfl) (j_seq (j_region (y_ (yl_assign ev_c) (jl_nil (q_then (j_ret (q_then_ret (q_ret rfl (.tmp (at_f rfl) .nil) ?_))))) rfl))))))) rfl) rfl rfl rfl rfl) rfl rfl rfl rfl) rfl rfl rfl rfl
          first | exact ⟨_, ⟨rfl, rfl⟩, sbt⟩ | exact ⟨_, ⟨vbool (decide_eq_true hce.2), rfl⟩, sbt⟩ | (exfalso; first | exact absurd rfl c58 | exact absurd rfl c62 | exact absurd rfl c81 | exact absurd rfl c131 | exact absurd rfl c136 | exact c141 hce.1 | omega)
        · refine jl_y (yl_move (T rfl)) rfl (gd_y rfl rfl (at_f rfl)) (jl_y (yl_move (T rfl)) rfl (gd_y rfl rfl (at_f rfl)) (jl_y (yl_neq (T rfl) (T rfl)) rfl (gd_y rfl rfl (at_f rfl)) (y_ (yl_pick_f (T rfl) (T rfl)) (jl_nil (q_then (j_keep [(2, _), (3, _), (4, _), (9, _), (13, _), (62, _)] ⟨at_f rfl, at_f rfl, at_f rfl, at_f rfl, at_f rfl, at_f rfl, trivial⟩ ?_))) rfl)))
          first | refine j_cond_d (at_f rfl) (fun c62 => ?_) (fun c62 => ?_) | refine j_cond (at_f rfl) (fun c62 => ?_) (fun c62 => ?_)
          · refine j_seq (j_region (y_ (yl_assign ev_c) (jl_nil (q_then (j_ret (q_then_ret (q_ret rfl (.tmp (at_f rfl) .nil) ?_))))) rfl))
            first | exact ⟨_, ⟨rfl, rfl⟩, sbt⟩ | exact ⟨_, ⟨vbool (decide_eq_true hce.2), rfl⟩, sbt⟩ | (exfalso; first | exact absurd rfl c58 | exact absurd rfl c62 | exact absurd rfl c81 | exact absurd rfl c131 | exact absurd rfl c136 | exact c141 hce.1 | omega)
          · refine j_skip (q_then (j_seq (j_seq (j_region (y_ (yl_move (T rfl)) (y_ (yl_len (T rfl) Try.runUnderlying27) (y_ (yl_lss (T rfl) ev_c) (jl_nil (q_then ?_)) rfl) rfl) rfl)))))
            first | refine j_cond_d (at_f rfl) (fun c65 => ?_) (fun c65 => ?_) | refine j_cond (at_f rfl) (fun c65 => ?_) (fun c65 => ?_)
            · refine j_seq (j_region (y_ (yl_move (T rfl)) (y_ (yl_assign (T rfl)) (jl_nil (q_then (j_ret (q_then_ret (q_ret rfl (.tmp (at_f rfl) .nil) ?_))))) rfl) rfl))
              first | exact ⟨_, ⟨rfl, rfl⟩, sbt⟩ | exact ⟨_, ⟨vbool (decide_eq_true hce.2), rfl⟩, sbt⟩ | (exfalso; first | exact absurd rfl c58 | exact absurd rfl c62 | exact absurd rfl c81 | exact absurd rfl c131 | exact absurd rfl c136 | exact c141 hce.1 | omega)
            · refine j_skip (q_then (j_seq (j_seq (j_any 15 [(0, true), (1, true), (2, true), (3, true), (4, true), (5, true), (6, true), (7, true), (8, true), (9, true), (10, true), (11, true), (12, true), (13, true), (14, true)] _ mixd (by kernel_rfl) sb0 ?_))))
              refine o_y rfl (yl_move (T rfl)) (o_y rfl (yl_ixR (T rfl) ev_c Try.runUnderlying27 Try.sizeOf48 (by omega) (by first | exact rfl | exact hw.arr.b (i := 0) (by omega))) ?_ rfl gd_n) rfl gd_n
              refine o_y rfl (yl_loadA (T rfl) Try.isAgg48 Try.sizeOf48 rfl (by first | exact cs_m (hw.arr.cs (i := 0) (by omega)) | exact cs_o)) ?_ rfl gd_n
              refine o_y rfl (yl_move (T rfl)) (o_y rfl (yl_ixR (T rfl) ev_c Try.runUnderlying27 Try.sizeOf48 (by omega) (by first | exact rfl | exact hw.arr.b (i := 0) (by omega))) ?_ rfl gd_n) rfl gd_n
              refine o_y rfl (yl_loadA (T rfl) Try.isAgg48 Try.sizeOf48 rfl (by first | exact cs_m (hw.arr.cs (i := 1) (by omega)) | exact cs_o)) ?_ rfl gd_n
              refine o_y rfl (yl_call (.cons (T rfl) (.cons (T rfl) .nil)) Try.call32 (fun H' hs => tSame_s _ _ ((hw.at (i := 0) (by omega)).mono (List.Sublist.trans sbt hs)) ((hw.at (i := 1) (by omega)).mono (List.Sublist.trans sbt hs)))) ?_ rfl gd_n
              refine o_y rfl (yl_move (T rfl)) (o_y rfl (yl_ixR (T rfl) ev_c Try.runUnderlying27 Try.sizeOf48 (by omega) (by first | exact rfl | exact hw.arr.b (i := 0) (by omega))) ?_ rfl gd_n) rfl gd_n
              refine o_y rfl (yl_loadA (T rfl) Try.isAgg48 Try.sizeOf48 rfl (by first | exact cs_m (hw.arr.cs (i := 0) (by omega)) | exact cs_o)) ?_ rfl gd_n
              refine o_y rfl (yl_move (T rfl)) (o_y rfl (yl_ixR (T rfl) ev_c Try.runUnderlying27 Try.sizeOf48 (by omega) (by first | exact rfl | exact hw.arr.b (i := 0) (by omega))) ?_ rfl gd_n) rfl gd_n
              refine o_y rfl (yl_loadA (T rfl) Try.isAgg48 Try.sizeOf48 rfl (by first | exact cs_m (hw.arr.cs (i := 1) (by omega)) | exact cs_o)) ?_ rfl gd_n
              refine o_y rfl (yl_call (.cons (T rfl) (.cons (T rfl) .nil)) Try.call33 (fun H' hs => rSame_s _ _ ((hw.at (i := 0) (by omega)).mono (List.Sublist.trans sbt hs)) ((hw.at (i := 1) (by omega)).mono (List.Sublist.trans sbt hs)))) ?_ rfl gd_n
              refine o_y rfl (yl_neB (T rfl) (T rfl) Try.runUnderlying4) (jo_nil rfl (jl_nil (q_then (j_keep [(2, _), (3, _), (4, _), (9, _), (13, _), (81, _)] ⟨at_f rfl, at_f rfl, at_f rfl, at_f rfl, at_f rfl, at_f rfl, trivial⟩ ?_)))) rfl gd_n
              first | refine j_cond_d (at_f rfl) (fun c81 => ?_) (fun c81 => ?_) | refine j_cond (at_f rfl) (fun c81 => ?_) (fun c81 => ?_)
              · refine j_seq (j_region (y_ (yl_assign ev_c) (jl_nil (q_then (j_ret (q_then_ret (q_ret rfl (.tmp (at_f rfl) .nil) ?_))))) rfl))
                first | exact ⟨_, ⟨rfl, rfl⟩, sbt⟩ | exact ⟨_, ⟨vbool (decide_eq_true hce.2), rfl⟩, sbt⟩ | (exfalso; first | exact absurd rfl c58 | exact absurd rfl c62 | exact absurd rfl c81 | exact absurd rfl c131 | exact absurd rfl c136 | exact c141 hce.1 | omega)
              · refine j_skip (q_then (j_seq (j_seq (j_region (y_ (yl_move (T rfl)) (y_ (yl_neq (T rfl) ev_c) (jl_nil (q_then ?_)) rfl) rfl)))))
                first | refine j_cond_d (at_f rfl) (fun c83 => ?_) (fun c83 => ?_) | refine j_cond (at_f rfl) (fun c83 => ?_) (fun c83 => ?_)
                · refine j_seq (j_region (y_ (yl_move (T rfl)) (y_ (yl_assign (T rfl)) (jl_nil (q_then (j_ret (q_then_ret (q_ret rfl (.tmp (at_f rfl) .nil) ?_))))) rfl) rfl))
                  first | exact ⟨_, ⟨rfl, rfl⟩, sbt⟩ | exact ⟨_, ⟨vbool (decide_eq_true hce.2), rfl⟩, sbt⟩ | (exfalso; first | exact absurd rfl c58 | exact absurd rfl c62 | exact absurd rfl c81 | exact absurd rfl c131 | exact absurd rfl c136 | exact c141 hce.1 | omega)
                · have hgw := net_gw hok (chkF_ok (Classical.not_not.1 c83)) h20
                  have hce := conf_eq (b := (gd l 1).way) (hgw.nd _ (gd_mem (i := 0) (by omega))) (hgw.at' _ (gd_mem (i := 0) (by omega)))
                  refine j_skip (q_then (j_seq (j_any 12 [(0, true), (1, true), (2, true), (3, true), (4, true), (5, true), (6, true), (7, true), (8, true), (9, false), (10, false), (11, true)] _ mixd (by kernel_rfl) sb0 ?_)))
                  refine o_y rfl (yl_loadA (T rfl) Try.isAgg26 Try.sizeOf26 rfl (by first | exact cs_o)) ?_ rfl gd_n
                  refine o_y rfl (yl_move (T rfl)) (o_y rfl (yl_ixR (T rfl) ev_c Try.runUnderlying27 Try.sizeOf48 (by omega) (by first | exact rfl | exact hw.arr.b (i := 0) (by omega))) ?_ rfl gd_n) rfl gd_n
                  refine o_y rfl (yl_loadA (T rfl) Try.isAgg48 Try.sizeOf48 rfl (by first | exact cs_m (hw.arr.cs (i := 0) (by omega)) | exact cs_o)) ?_ rfl gd_n
                  refine o_y rfl (yl_move (T rfl)) (o_y rfl (yl_call (.cons (T rfl) (.cons (T rfl) (.cons (T rfl) .nil))) Try.call26 (fun H' hs => tAt_s n (hn.mono (List.Sublist.trans sbt hs)) _ ((hw.at (i := 0) (by omega)).mono (List.Sublist.trans sbt hs)) (hgw.inr _ (gd_mem (by omega))) _)) ?_ rfl gd_n) rfl gd_n
                  refine o_y rfl (yl_move (T rfl)) (o_y rfl (yl_extract (T rfl) rfl) (o_y rfl (yl_extract (T rfl) rfl) (o_e rfl (eff_alloc Try.zeroValue72 cs_) ?_ rfl gd_n) rfl gd_n) rfl gd_n) rfl gd_n
                  rintro _ _ ⟨n16, rfl, rfl⟩
                  refine ⟨sbt, ?_⟩
                  first | refine o_e rfl (eff_sW (T rfl) (T rfl) Try.sizeOf72) ?_ rfl gd_n
                  rintro _ _ ⟨rfl, rfl⟩
                  refine ⟨sbt, (o_y rfl (yl_assign (T rfl)) (jo_nil rfl (jl_nil (q_then (j_seq (j_any 12 [(0, true), (1, true), (2, true), (3, true), (4, true), (5, true), (6, true), (7, true), (8, true), (9, false), (10, false), (11, true)] _ mixd (by kernel_rfl) sb0 ?_))))) rfl gd_n)⟩
                  refine o_y rfl (yl_loadA (T rfl) Try.isAgg26 Try.sizeOf26 rfl (by first | exact cs_o)) ?_ rfl gd_n
                  refine o_y rfl (yl_move (T rfl)) (o_y rfl (yl_ixR (T rfl) ev_c Try.runUnderlying27 Try.sizeOf48 (by omega) (by first | exact rfl | exact hw.arr.b (i := 0) (by omega))) ?_ rfl gd_n) rfl gd_n
                  refine o_y rfl (yl_loadA (T rfl) Try.isAgg48 Try.sizeOf48 rfl (by first | exact cs_m (hw.arr.cs (i := 0) (by omega)) | exact cs_o)) ?_ rfl gd_n
                  refine o_y rfl (yl_move (T rfl)) (o_y rfl (yl_call (.cons (T rfl) (.cons (T rfl) (.cons (T rfl) .nil))) Try.call34 (fun H' hs => rAt_s n (hn.mono (List.Sublist.trans sbt hs)) _ ((hw.at (i := 0) (by omega)).mono (List.Sublist.trans sbt hs)) (hgw.inr _ (gd_mem (by omega))) (hgw.len _ (gd_mem (by omega))) _)) ?_ rfl gd_n) rfl gd_n
                  refine o_y rfl (yl_move (T rfl)) (o_y rfl (yl_extract (T rfl) rfl) (o_y rfl (yl_extract (T rfl) rfl) (o_e rfl (eff_alloc Try.zeroValue72 cs_) ?_ rfl gd_n) rfl gd_n) rfl gd_n) rfl gd_n
                  rintro _ _ ⟨n18, rfl, rfl⟩
                  refine ⟨sbt, ?_⟩
                  first | refine o_e rfl (eff_sW (T rfl) (T rfl) Try.sizeOf72) ?_ rfl gd_n
                  rintro _ _ ⟨rfl, rfl⟩
                  refine ⟨sbt, (o_y rfl (yl_assign (T rfl)) (jo_nil rfl (jl_nil (q_then (j_keep [(2, _), (4, _), (9, _), (16, _), (17, _), (18, _), (19, _)] ⟨at_f rfl, at_f rfl, at_f rfl, at_f rfl, at_f rfl, at_f rfl, at_f rfl, trivial⟩ (j_seq (j_any 13 [(0, true), (1, true), (2, true), (3, true), (4, true), (5, true), (6, true), (7, true), (8, true), (9, true), (10, true), (11, true), (12, true)] _ mixd (by kernel_rfl) sb0 ?_)))))) rfl gd_n)⟩
                  refine o_y rfl (yl_loadA (T rfl) Try.isAgg26 Try.sizeOf26 rfl (by first | exact cs_o)) ?_ rfl gd_n
                  refine o_y rfl (yl_move (T rfl)) (o_y rfl (yl_ixR (T rfl) ev_c Try.runUnderlying27 Try.sizeOf48 (by omega) (by first | exact rfl | exact hw.arr.b (i := 0) (by omega))) ?_ rfl gd_n) rfl gd_n
                  refine o_y rfl (yl_loadA (T rfl) Try.isAgg48 Try.sizeOf48 rfl (by first | exact cs_m (hw.arr.cs (i := 0) (by omega)) | exact cs_o)) ?_ rfl gd_n
                  refine o_y rfl (yl_move (T rfl)) (o_y rfl (yl_ixR (T rfl) ev_c Try.runUnderlying27 Try.sizeOf48 (by omega) (by first | exact rfl | exact hw.arr.b (i := 0) (by omega))) ?_ rfl gd_n) rfl gd_n
                  refine o_y rfl (yl_loadA (T rfl) Try.isAgg48 Try.sizeOf48 rfl (by first | exact cs_m (hw.arr.cs (i := 1) (by omega)) | exact cs_o)) ?_ rfl gd_n
                  refine o_y rfl (yl_call (.cons (T rfl) (.cons (T rfl) (.cons (T rfl) .nil))) Try.call25 (fun H' hs => tConf_s n (hn.mono (List.Sublist.trans sbt hs)) _ _ ((hw.at (i := 0) (by omega)).mono (List.Sublist.trans sbt hs)) ((hw.at (i := 1) (by omega)).mono (List.Sublist.trans sbt hs)) (hgw.inr _ (gd_mem (by omega))) (hgw.inr _ (gd_mem (by omega))) (hgw.len _ (gd_mem (by omega))) (hgw.len _ (gd_mem (by omega))))) ?_ rfl gd_n
                  refine o_y rfl (yl_move (T rfl)) (o_y rfl (yl_extract (T rfl) rfl) (o_y rfl (yl_extract (T rfl) rfl) (o_y rfl (yl_assign (T rfl)) (o_y rfl (yl_assign (T rfl)) (jo_nil rfl (jl_nil (q_then (j_seq (j_any 13 [(0, true), (1, true), (2, true), (3, true), (4, true), (5, true), (6, true), (7, true), (8, true), (9, true), (10, true), (11, true), (12, true)] _ mixd (by kernel_rfl) sb0 ?_))))) rfl gd_n) rfl gd_n) rfl gd_n) rfl gd_n) rfl gd_n
                  refine o_y rfl (yl_loadA (T rfl) Try.isAgg26 Try.sizeOf26 rfl (by first | exact cs_o)) ?_ rfl gd_n
                  refine o_y rfl (yl_move (T rfl)) (o_y rfl (yl_ixR (T rfl) ev_c Try.runUnderlying27 Try.sizeOf48 (by omega) (by first | exact rfl | exact hw.arr.b (i := 0) (by omega))) ?_ rfl gd_n) rfl gd_n
                  refine o_y rfl (yl_loadA (T rfl) Try.isAgg48 Try.sizeOf48 rfl (by first | exact cs_m (hw.arr.cs (i := 0) (by omega)) | exact cs_o)) ?_ rfl gd_n
                  refine o_y rfl (yl_move (T rfl)) (o_y rfl (yl_ixR (T rfl) ev_c Try.runUnderlying27 Try.sizeOf48 (by omega) (by first | exact rfl | exact hw.arr.b (i := 0) (by omega))) ?_ rfl gd_n) rfl gd_n
                  refine o_y rfl (yl_loadA (T rfl) Try.isAgg48 Try.sizeOf48 rfl (by first | exact cs_m (hw.arr.cs (i := 1) (by omega)) | exact cs_o)) ?_ rfl gd_n
                  refine o_y rfl (yl_call (.cons (T rfl) (.cons (T rfl) (.cons (T rfl) .nil))) Try.call35 (fun H' hs => rConf_s n (hn.mono (List.Sublist.trans sbt hs)) _ _ ((hw.at (i := 0) (by omega)).mono (List.Sublist.trans sbt hs)) ((hw.at (i := 1) (by omega)).mono (List.Sublist.trans sbt hs)) (hgw.inr _ (gd_mem (by omega))) (hgw.inr _ (gd_mem (by omega))) (hgw.len _ (gd_mem (by omega))) (hgw.len _ (gd_mem (by omega))))) ?_ rfl gd_n
                  refine o_y rfl (yl_move (T rfl)) (o_y rfl (yl_extract (T rfl) rfl) (o_y rfl (yl_extract (T rfl) rfl) (o_y rfl (yl_assign (T rfl)) (o_y rfl (yl_assign (T rfl)) (jo_nil rfl (jl_nil (q_then (j_keep [(9, _), (16, _), (17, _), (18, _), (19, _), (20, _), (21, _), (22, _), (23, _)] ⟨at_f rfl, at_f rfl, at_f rfl, at_f rfl, at_f rfl, at_f rfl, at_f rfl, at_f rfl, at_f rfl, trivial⟩ (j_seq (j_region (y_ (yl_move (T rfl)) (y_ (yl_move (T rfl)) (jl_y (yl_loadA (T rfl) Try.isAgg72 Try.sizeOf72 rfl (by first | exact cs_o)) rfl (gd_y rfl rfl (at_f rfl)) ?_) rfl) rfl))))))) rfl gd_n) rfl gd_n) rfl gd_n) rfl gd_n) rfl gd_n
                  refine jl_y (yl_loadA (T rfl) Try.isAgg72 Try.sizeOf72 rfl (by first | exact cs_o)) rfl (gd_y rfl rfl (at_f rfl)) ?_
                  refine jl_y (yl_eqA (T rfl) (T rfl) Try.eqGuardType72 (eqHop _ _)) rfl (gd_y rfl rfl (at_f rfl)) (y_ (yl_pick_t (T rfl) (T rfl)) (y_ (yl_move (T rfl)) ?_ rfl) rfl)
                  first | refine jl_if_d (s := 131) (at_f rfl) (fun c131 => ?_) (fun c131 => ?_) | refine jl_if (s := 131) (at_f rfl) (fun c131 => ?_) (fun c131 => ?_)
                  · refine jl_y (yl_move (T rfl)) rfl (gd_y rfl rfl (at_f rfl)) (jl_y (yl_move (T rfl)) rfl (gd_y rfl rfl (at_f rfl)) (jl_y (yl_eqB (T rfl) (T rfl) Try.runUnderlying4) rfl (gd_y rfl rfl (at_f rfl)) (y_ (yl_pick_t (T rfl) (T rfl)) (y_ (yl_move (T rfl)) ?_ rfl) rfl)))
                    first | refine jl_if_d (s := 136) (at_f rfl) (fun c136 => ?_) (fun c136 => ?_) | refine jl_if (s := 136) (at_f rfl) (fun c136 => ?_) (fun c136 => ?_)
                    · refine jl_y (yl_move (T rfl)) rfl (gd_y rfl rfl (at_f rfl)) (jl_y (yl_move (T rfl)) rfl (gd_y rfl rfl (at_f rfl)) (jl_y (yl_eql (T rfl) (T rfl)) rfl (gd_y rfl rfl (at_f rfl)) (y_ (yl_pick_t (T rfl) (T rfl)) (y_ (yl_move (T rfl)) ?_ rfl) rfl)))
                      first | refine jl_if_d (s := 141) (at_f rfl) (fun c141 => ?_) (fun c141 => ?_) | refine jl_if (s := 141) (at_f rfl) (fun c141 => ?_) (fun c141 => ?_)
                      · refine jl_y (yl_move (T rfl)) rfl (gd_y rfl rfl (at_f rfl)) (jl_y (yl_move (T rfl)) rfl (gd_y rfl rfl (at_f rfl)) (jl_y (yl_eqB (T rfl) (T rfl) Try.runUnderlying4) rfl (gd_y rfl rfl (at_f rfl)) (y_ (yl_pick_t (T rfl) (T rfl)) (y_ (yl_assign (T rfl)) (jl_nil (q_then (j_keep [(8, _)] ⟨at_f rfl, trivial⟩ (j_ret (q_ret rfl (.tmp (at_f rfl) .nil) ?_))))) rfl) rfl)))
                        first | exact ⟨_, ⟨rfl, rfl⟩, sbt⟩ | exact ⟨_, ⟨vbool (decide_eq_true hce.2), rfl⟩, sbt⟩ | (exfalso; first | exact absurd rfl c58 | exact absurd rfl c62 | exact absurd rfl c81 | exact absurd rfl c131 | exact absurd rfl c136 | exact c141 hce.1 | omega)
                      · refine n_ft (n_ft (n_ft (y_ (yl_pick_f (T rfl) ev_c) (y_ (yl_assign (T rfl)) (jl_nil (q_then (j_keep [(8, _)] ⟨at_f rfl, trivial⟩ (j_ret (q_ret rfl (.tmp (at_f rfl) .nil) ?_))))) rfl) rfl) rfl rfl rfl rfl) rfl rfl rfl rfl) rfl rfl rfl rfl
                        first | exact ⟨_, ⟨rfl, rfl⟩, sbt⟩ | exact ⟨_, ⟨vbool (decide_eq_true hce.2), rfl⟩, sbt⟩ | (exfalso; first | exact absurd rfl c58 | exact absurd rfl c62 | exact absurd rfl c81 | exact absurd rfl c131 | exact absurd rfl c136 | exact c141 hce.1 | omega)
                    · refine n_ft (n_ft (n_ft (y_ (yl_pick_f (T rfl) ev_c) (y_ (yl_move (T rfl)) (n_ft (n_ft (n_ft (y_ (yl_pick_f (T rfl) ev_c) (y_ (yl_assign (T rfl)) (jl_nil (q_then (j_keep [(8, _)] ⟨at_f rfl, trivial⟩ (j_ret (q_ret rfl (.tmp (at_f rfl) .nil) ?_))))) rfl) rfl) rfl rfl rfl rfl) rfl rfl rfl rfl) rfl rfl rfl rfl) rfl) rfl) rfl rfl rfl rfl) rfl rfl rfl rfl) rfl rfl rfl rfl
                      first | exact ⟨_, ⟨rfl, rfl⟩, sbt⟩ | exact ⟨_, ⟨vbool (decide_eq_true hce.2), rfl⟩, sbt⟩ | (exfalso; first | exact absurd rfl c58 | exact absurd rfl c62 | exact absurd rfl c81 | exact absurd rfl c131 | exact absurd rfl c136 | exact c141 hce.1 | omega)
                  · refine n_ft (n_ft (n_ft (y_ (yl_pick_f (T rfl) ev_c) (y_ (yl_move (T rfl)) (n_ft (n_ft (n_ft (y_ (yl_pick_f (T rfl) ev_c) (y_ (yl_move (T rfl)) (n_ft (n_ft (n_ft (y_ (yl_pick_f (T rfl) ev_c) (y_ (yl_assign (T rfl)) (jl_nil (q_then (j_keep [(8, _)] ⟨at_f rfl, trivial⟩ (j_ret (q_ret rfl (.tmp (at_f rfl) .nil) ?_))))) rfl) rfl) rfl rfl rfl rfl) rfl rfl rfl rfl) rfl rfl rfl rfl) rfl) rfl) rfl rfl rfl rfl) rfl rfl rfl rfl) rfl rfl rfl rfl) rfl) rfl) rfl rfl rfl rfl) rfl rfl rfl rfl) rfl rfl rfl rfl
                    first | exact ⟨_, ⟨rfl, rfl⟩, sbt⟩ | exact ⟨_, ⟨vbool (decide_eq_true hce.2), rfl⟩, sbt⟩ | (exfalso; first | exact absurd rfl c58 | exact absurd rfl c62 | exact absurd rfl c81 | exact absurd rfl c131 | exact absurd rfl c136 | exact c141 hce.1 | omega)
end Go.Proofs.Ytdbffighngmibaa
