/-
  Walks of the specification of conflicts.
-/
import Derived.Test.YtdbffighngmibaaTc
namespace Go.Proofs.Ytdbffighngmibaa
open Go.RowKit
set_option linter.unusedVariables false
set_option linter.unusedSimpArgs false
theorem rAt_s {w0 : World} {H : List (Nat × Obj)} (n : Nm) (hn : NetM w0 H n) (m : Wm) (hm : WayM w0 H m) (hr : InR n.links m.way.links) (hs20 : m.way.links.length ≤ 1000000) (node : Int) :
    FSpec Try.prog w0 34 #[.agg (encNm n).toArray, .agg (encW m).toArray, .int .i64 node] H (Still (.tuple #[.agg (encH (hopOr (atF n.links m.way node))).toArray, .bool (atF n.links m.way node).isSome]) H) := by
  refine fn_spec Try.func34 rfl Try.ntmps34 rfl ?_
  have hnl := nodesF_len n.links m.way
  refine j_seq (j_region (e_ (eff_box (T rfl) cs_) ?_ rfl))
  rintro _ _ ⟨n3, rfl, rfl⟩
  refine e_ (eff_box (T rfl) cs_) ?_ rfl
  rintro _ _ ⟨n4, rfl, rfl⟩
  refine e_ (eff_alloc Try.zeroValue72 cs_) ?_ rfl
  rintro _ _ ⟨n6, rfl, rfl⟩
  refine y_ (yl_assign ev_c) (jl_nil (q_then (j_seq (j_region (y_ (yl_loadA (T rfl) Try.isAgg26 Try.sizeOf26 rfl (by first | exact cs_o | exact cs_m (Arr.f0 (sl_arr (enc := encI) (sz := 1) (X := _) (e := 3) (fun _ => rfl) hok) (i := k) (by omega) rfl) | exact cs_m (hm.links.f0 (i := k) (by omega) rfl))) ?_ rfl))))) rfl
  refine y_ (yl_loadA (T rfl) Try.isAgg48 Try.sizeOf48 rfl (by first | exact cs_o | exact cs_m (Arr.f0 (sl_arr (enc := encI) (sz := 1) (X := _) (e := 3) (fun _ => rfl) hok) (i := k) (by omega) rfl) | exact cs_m (hm.links.f0 (i := k) (by omega) rfl))) ?_ rfl
  refine e_ (eff_call (.cons (T rfl) (.cons (T rfl) .nil)) Try.call66 (rNodes_s n hn.mono m hm.mono hr hs20)) ?_ rfl
  rintro _ _ ⟨d, rfl, hok, rfl⟩
  refine y_ (yl_assign (T rfl)) (jl_nil (q_then (j_seq (j_seq (j_region (y_ (yl_assign ev_c) (jl_nil (q_then (j_block ?_))) rfl)))))) rfl
  refine j_loopH (X := Nat) (V := fun k => [(9, .int .i64 (k : Nat))]) (C := [(2, _), (4, _), (6, _), (8, _)]) (φ := fun k => k ≤ (nodesF n.links m.way).length ∧ atD n.links m.way node k = atF n.links m.way node) (μ := fun k => (nodesF n.links m.way).length - k) (x0 := 0) ?_ ⟨at_f rfl, at_f rfl, at_f rfl, at_f rfl, trivial⟩ ⟨(by first | exact at_f rfl | (refine at_e (at_f rfl) (vint ?_); omega) | (refine at_e (at_f rfl) ?_; simp; done)), trivial⟩ ?_
  · exact ⟨Nat.zero_le _, rfl⟩
  rintro k ⟨hk, hat⟩
  refine j_seq (j_seq (j_region (y_ (yl_move (T rfl)) (y_ (yl_move (T rfl)) (y_ (yl_len (T rfl) Try.runUnderlying28) (y_ (yl_lss (T rfl) (T rfl)) (jl_nil (q_then ?_)) rfl) rfl) rfl) rfl)))
  first | refine j_cond_d (at_f rfl) (fun c16 => ?_) (fun c16 => ?_) | refine j_cond (at_f rfl) (fun c16 => ?_) (fun c16 => ?_)
  · refine j_skip (q_then (j_seq (j_block (j_seq (j_seq (j_region (y_ (yl_move (T rfl)) (y_ (yl_move (T rfl)) (y_ (yl_ixQ (T rfl) (T rfl) Try.runUnderlying28 Try.sizeOf3 (by omega) (by first | exact rfl | exact hok.bas (by omega) | exact hm.links.b (i := k) (by omega))) ?_ rfl) rfl) rfl)))))))
    refine y_ (yl_load (T rfl) Try.isAgg3 (by first | exact c_o | exact c_m (Arr.f0 (sl_arr (enc := encI) (sz := 1) (X := _) (e := 3) (fun _ => rfl) hok) (i := k) (by omega) rfl) | exact c_m (hm.links.f0 (i := k) (by omega) rfl))) ?_ rfl
    refine y_ (yl_move (T rfl)) (y_ (yl_neq (T rfl) (T rfl)) (jl_nil (q_then ?_)) rfl) rfl
    first | refine j_cond_d (at_f rfl) (fun c24 => ?_) (fun c24 => ?_) | refine j_cond (at_f rfl) (fun c24 => ?_) (fun c24 => ?_)
    · refine j_exit (q_then_exit (q_block_hit (q_then (j_region (y_ (yl_move (T rfl)) (y_ (yl_add (T rfl) ev_c (by omega)) ?_ rfl) rfl)))))
      refine y_ (yl_assign (T rfl)) (jl_nil ?_) rfl
      refine q_loopC (k + 1) ?_ ?_ ⟨(by first | exact at_f rfl | (refine at_e (at_f rfl) (vint ?_); omega) | (refine at_e (at_f rfl) ?_; simp; done)), trivial⟩ ⟨at_f rfl, at_f rfl, at_f rfl, at_f rfl, trivial⟩ ?_
      · exact ⟨by omega, by rw [← atD_no (by omega) c24]; exact hat⟩
      · first | omega | (simp only []; omega)
      · exact sbt
    · refine j_skip (q_then (j_seq (j_seq (j_region (y_ (yl_move (T rfl)) (y_ (yl_fa (T rfl) fa48_1) (y_ (yl_load (T rfl) Try.isAgg28 (by first | exact c_o | exact c_m (Arr.f0 (sl_arr (enc := encI) (sz := 1) (X := _) (e := 3) (fun _ => rfl) hok) (i := k) (by omega) rfl) | exact c_m (hm.links.f0 (i := k) (by omega) rfl))) ?_ rfl) rfl) rfl)))))
      refine y_ (yl_len (T rfl) Try.runUnderlying28) (y_ (yl_lss (T rfl) (T rfl)) (jl_nil (q_then ?_)) rfl) rfl
      first | refine j_cond_d (at_f rfl) (fun c29 => ?_) (fun c29 => ?_) | refine j_cond (at_f rfl) (fun c29 => ?_) (fun c29 => ?_)
      · refine j_seq (j_any 11 [(0, true), (1, true), (2, true), (3, true), (4, true), (5, true), (6, true), (7, true), (8, true), (9, true), (10, true)] _ mixd (by kernel_rfl) sb0 ?_)
        refine o_y rfl (yl_fa (T rfl) fa48_1) (o_y rfl (yl_load (T rfl) Try.isAgg28 (by first | exact c_o | exact c_m (Arr.f0 (sl_arr (enc := encI) (sz := 1) (X := _) (e := 3) (fun _ => rfl) hok) (i := k) (by omega) rfl) | exact c_m (hm.links.f0 (i := k) (by omega) rfl))) ?_ rfl gd_n) rfl gd_n
        refine o_y rfl (yl_move (T rfl)) (o_y rfl (yl_ixQ (T rfl) (T rfl) Try.runUnderlying28 Try.sizeOf3 (by omega) (by first | exact rfl | exact hok.bas (by omega) | exact hm.links.b (i := k) (by omega))) ?_ rfl gd_n) rfl gd_n
        refine o_y rfl (yl_load (T rfl) Try.isAgg3 (by first | exact c_o | exact c_m (Arr.f0 (sl_arr (enc := encI) (sz := 1) (X := _) (e := 3) (fun _ => rfl) hok) (i := k) (by omega) rfl) | exact c_m (hm.links.f0 (i := k) (by omega) rfl))) ?_ rfl gd_n
        refine o_y rfl (yl_fa (T rfl) fa48_1) (o_y rfl (yl_load (T rfl) Try.isAgg28 (by first | exact c_o | exact c_m (Arr.f0 (sl_arr (enc := encI) (sz := 1) (X := _) (e := 3) (fun _ => rfl) hok) (i := k) (by omega) rfl) | exact c_m (hm.links.f0 (i := k) (by omega) rfl))) ?_ rfl gd_n) rfl gd_n
        refine o_y rfl (yl_move (T rfl)) (o_y rfl (yl_ixQ (T rfl) (T rfl) Try.runUnderlying28 Try.sizeOf3 (by omega) (by first | exact rfl | exact hok.bas (by omega) | exact hm.links.b (i := k) (by omega))) ?_ rfl gd_n) rfl gd_n
        refine o_y rfl (yl_load (T rfl) Try.isAgg3 (by first | exact c_o | exact c_m (Arr.f0 (sl_arr (enc := encI) (sz := 1) (X := _) (e := 3) (fun _ => rfl) hok) (i := k) (by omega) rfl) | exact c_m (hm.links.f0 (i := k) (by omega) rfl))) ?_ rfl gd_n
        refine o_y rfl (yl_build (.cons (T rfl) (.cons (T rfl) (.cons ev_c (.cons ev_c .nil)))) (bd72_0_1_2_3 _ _ _ _)) (jo_nil rfl ?_) rfl gd_n
        first | refine jl_e (eff_sW (T rfl) (T rfl) Try.sizeOf72) rfl gd_n ?_
        rintro _ _ ⟨rfl, rfl⟩
        refine y_ (yl_assign ev_c) (jl_nil (q_then (j_keep [(6, _), (7, _)] ⟨at_f rfl, at_f rfl, trivial⟩ (j_ret (q_then_ret (q_block_ret (q_then_ret (q_loop_ret (q_block_ret (q_then_ret (q_ret rfl (.cellA (at_f rfl) Try.isAgg72 Try.sizeOf72 rfl (by first | exact cs_o | exact cs_m (Arr.f0 (sl_arr (enc := encI) (sz := 1) (X := _) (e := 3) (fun _ => rfl) hok) (i := k) (by omega) rfl) | exact cs_m (hm.links.f0 (i := k) (by omega) rfl)) (.tmp (at_f rfl) .nil)) ?_))))))))))) rfl
        have e := atD_yes (ls := n.links) (w := m.way) (node := node) (k := k) (by omega) (Classical.not_not.1 c24)
        rw [hat] at e
        exact ⟨_, ⟨by rw [e]; unfold hopN; rw [if_pos (by omega)]; rfl, rfl⟩, sbt⟩
      · refine j_skip (q_then (j_seq (j_region (y_ (yl_fa (T rfl) fa48_2) (y_ (yl_load (T rfl) Try.isAgg3 (by first | exact c_o | exact c_m (Arr.f0 (sl_arr (enc := encI) (sz := 1) (X := _) (e := 3) (fun _ => rfl) hok) (i := k) (by omega) rfl) | exact c_m (hm.links.f0 (i := k) (by omega) rfl))) ?_ rfl) rfl))))
        refine y_ (yl_fa (T rfl) fa48_3) (y_ (yl_load (T rfl) Try.isAgg3 (by first | exact c_o | exact c_m (Arr.f0 (sl_arr (enc := encI) (sz := 1) (X := _) (e := 3) (fun _ => rfl) hok) (i := k) (by omega) rfl) | exact c_m (hm.links.f0 (i := k) (by omega) rfl))) ?_ rfl) rfl
        refine y_ (yl_fa (T rfl) fa48_4) (y_ (yl_load (T rfl) Try.isAgg3 (by first | exact c_o | exact c_m (Arr.f0 (sl_arr (enc := encI) (sz := 1) (X := _) (e := 3) (fun _ => rfl) hok) (i := k) (by omega) rfl) | exact c_m (hm.links.f0 (i := k) (by omega) rfl))) ?_ rfl) rfl
        refine y_ (yl_build (.cons ev_c (.cons (T rfl) (.cons (T rfl) (.cons (T rfl) .nil)))) (bd72_0_1_2_3 _ _ _ _)) ?_ rfl
        first | refine jl_e (eff_sW (T rfl) (T rfl) Try.sizeOf72) rfl gd_n ?_
        rintro _ _ ⟨rfl, rfl⟩
        refine y_ (yl_assign ev_c) (jl_nil (q_then (j_keep [(6, _), (7, _)] ⟨at_f rfl, at_f rfl, trivial⟩ (j_ret (q_block_ret (q_then_ret (q_loop_ret (q_block_ret (q_then_ret (q_ret rfl (.cellA (at_f rfl) Try.isAgg72 Try.sizeOf72 rfl (by first | exact cs_o | exact cs_m (Arr.f0 (sl_arr (enc := encI) (sz := 1) (X := _) (e := 3) (fun _ => rfl) hok) (i := k) (by omega) rfl) | exact cs_m (hm.links.f0 (i := k) (by omega) rfl)) (.tmp (at_f rfl) .nil)) ?_)))))))))) rfl
        have e := atD_yes (ls := n.links) (w := m.way) (node := node) (k := k) (by omega) (Classical.not_not.1 c24)
        rw [hat] at e
        exact ⟨_, ⟨by rw [e]; unfold hopN; rw [if_neg (by omega)]; rfl, rfl⟩, sbt⟩
  · refine j_exit (q_then_exit (q_loop_exit (q_block_hit (q_then (j_seq (j_region (y_ (yl_build .nil (bd72_z)) ?_ rfl)))))))
    first | refine jl_e (eff_sW (T rfl) (T rfl) Try.sizeOf72) rfl gd_n ?_
    rintro _ _ ⟨rfl, rfl⟩
    refine y_ (yl_assign ev_c) (jl_nil (q_then (j_ret (q_ret rfl (.cellA (at_f rfl) Try.isAgg72 Try.sizeOf72 rfl (by first | exact cs_o | exact cs_m (Arr.f0 (sl_arr (enc := encI) (sz := 1) (X := _) (e := 3) (fun _ => rfl) hok) (i := k) (by omega) rfl) | exact cs_m (hm.links.f0 (i := k) (by omega) rfl)) (.tmp (at_f rfl) .nil)) ?_)))) rfl
    rw [atD_end (by omega)] at hat
    exact ⟨_, ⟨by rw [← hat]; rfl, rfl⟩, sbt⟩
theorem rConf_s {w0 : World} {H : List (Nat × Obj)} (n : Nm) (hn : NetM w0 H n) (a b : Wm) (ha : WayM w0 H a) (hb : WayM w0 H b) (hra : InR n.links a.way.links) (hrb : InR n.links b.way.links) (hla : a.way.links.length ≤ 1000000) (hlb : b.way.links.length ≤ 1000000) :
    FSpec Try.prog w0 35 #[.agg (encNm n).toArray, .agg (encW a).toArray, .agg (encW b).toArray] H (Still (.tuple #[.int .i64 (((confR n.links n.nodes.length a.way b.way).getD 0 : Nat) : Int), .bool (confR n.links n.nodes.length a.way b.way).isSome]) H) := by
  refine fn_spec Try.func35 rfl Try.ntmps35 rfl ?_
  have hln := hn.ln
  refine j_seq (j_region (e_ (eff_box (T rfl) cs_) ?_ rfl))
  rintro _ _ ⟨n3, rfl, rfl⟩
  refine e_ (eff_box (T rfl) cs_) ?_ rfl
  rintro _ _ ⟨n4, rfl, rfl⟩
  refine e_ (eff_box (T rfl) cs_) ?_ rfl
  rintro _ _ ⟨n5, rfl, rfl⟩
  refine y_ (yl_assign ev_c) (y_ (yl_assign ev_c) (jl_nil (q_then (j_seq (j_seq (j_region (y_ (yl_assign ev_c) (jl_nil (q_then (j_block ?_))) rfl)))))) rfl) rfl
  refine j_loopH (X := Nat) (V := fun k => [(8, .int .i64 (k : Nat))]) (C := [(3, _), (4, _), (5, _)]) (φ := fun k => k ≤ n.nodes.length ∧ ∀ i : Nat, i < k → differ n.links a.way b.way i = false) (μ := fun k => n.nodes.length - k) (x0 := 0) ?_ ⟨at_f rfl, at_f rfl, at_f rfl, trivial⟩ ⟨(by first | exact at_f rfl | (refine at_e (at_f rfl) (vint ?_); omega) | (refine at_e (at_f rfl) ?_; simp; done)), trivial⟩ ?_
  · exact ⟨Nat.zero_le _, fun i hi => by omega⟩
  rintro k ⟨hk, hd⟩
  refine j_seq (j_seq (j_region (y_ (yl_move (T rfl)) (y_ (yl_fa0 (T rfl) fa26_0) (y_ (yl_load (T rfl) Try.isAgg22 (by first | exact c_o)) ?_ rfl) rfl) rfl)))
  refine y_ (yl_len (T rfl) Try.runUnderlying22) (y_ (yl_lss (T rfl) (T rfl)) (jl_nil (q_then ?_)) rfl) rfl
  first | refine j_cond_d (at_f rfl) (fun c17 => ?_) (fun c17 => ?_) | refine j_cond (at_f rfl) (fun c17 => ?_) (fun c17 => ?_)
  · refine j_skip (q_then (j_seq (j_block (j_seq (j_region (y_ (yl_loadA (T rfl) Try.isAgg26 Try.sizeOf26 rfl (by first | exact cs_o)) ?_ rfl))))))
    refine y_ (yl_loadA (T rfl) Try.isAgg48 Try.sizeOf48 rfl (by first | exact cs_o)) ?_ rfl
    refine y_ (yl_move (T rfl)) (y_ (yl_call (.cons (T rfl) (.cons (T rfl) (.cons (T rfl) .nil))) Try.call34 (fun H' hs => rAt_s n (hn.mono (List.Sublist.trans sbt hs)) a (ha.mono (List.Sublist.trans sbt hs)) hra hla _)) (y_ (yl_move (T rfl)) (y_ (yl_extract (T rfl) rfl) (y_ (yl_extract (T rfl) rfl) (e_ (eff_alloc Try.zeroValue72 cs_) ?_ rfl) rfl) rfl) rfl) rfl) rfl
    rintro _ _ ⟨n9, rfl, rfl⟩
    first | refine jl_e (eff_sW (T rfl) (T rfl) Try.sizeOf72) rfl gd_n ?_
    rintro _ _ ⟨rfl, rfl⟩
    refine y_ (yl_assign (T rfl)) (jl_nil (q_then (j_seq (j_region (y_ (yl_loadA (T rfl) Try.isAgg26 Try.sizeOf26 rfl (by first | exact cs_o)) ?_ rfl))))) rfl
    refine y_ (yl_loadA (T rfl) Try.isAgg48 Try.sizeOf48 rfl (by first | exact cs_o)) ?_ rfl
    refine y_ (yl_move (T rfl)) (y_ (yl_call (.cons (T rfl) (.cons (T rfl) (.cons (T rfl) .nil))) Try.call34 (fun H' hs => rAt_s n (hn.mono (List.Sublist.trans sbt hs)) b (hb.mono (List.Sublist.trans sbt hs)) hrb hlb _)) (y_ (yl_move (T rfl)) (y_ (yl_extract (T rfl) rfl) (y_ (yl_extract (T rfl) rfl) (e_ (eff_alloc Try.zeroValue72 cs_) ?_ rfl) rfl) rfl) rfl) rfl) rfl
    rintro _ _ ⟨n11, rfl, rfl⟩
    first | refine jl_e (eff_sW (T rfl) (T rfl) Try.sizeOf72) rfl gd_n ?_
    rintro _ _ ⟨rfl, rfl⟩
    refine y_ (yl_assign (T rfl)) (jl_nil (q_then (j_keep [(3, _), (4, _), (5, _), (8, _), (9, _), (10, _), (11, _), (12, _)] ⟨at_f rfl, at_f rfl, at_f rfl, at_f rfl, at_f rfl, at_f rfl, at_f rfl, at_f rfl, trivial⟩ (j_seq (j_region (y_ (yl_move (T rfl)) (y_ (yl_move (T rfl)) ?_ rfl) rfl)))))) rfl
    first | refine jl_if_d (s := 35) (at_f rfl) (fun c35 => ?_) (fun c35 => ?_) | refine jl_if (s := 35) (at_f rfl) (fun c35 => ?_) (fun c35 => ?_)
    · refine jl_y (yl_move (T rfl)) rfl (gd_y rfl rfl (at_f rfl)) (y_ (yl_pick_t (T rfl) (T rfl)) (y_ (yl_move (T rfl)) ?_ rfl) rfl)
      first | refine jl_if_d (s := 38) (at_f rfl) (fun c38 => ?_) (fun c38 => ?_) | refine jl_if (s := 38) (at_f rfl) (fun c38 => ?_) (fun c38 => ?_)
      · refine jl_y (yl_loadA (T rfl) Try.isAgg72 Try.sizeOf72 rfl (by first | exact cs_o)) rfl (gd_y rfl rfl (at_f rfl)) ?_
        refine jl_y (yl_loadA (T rfl) Try.isAgg72 Try.sizeOf72 rfl (by first | exact cs_o)) rfl (gd_y rfl rfl (at_f rfl)) ?_
        refine jl_y (yl_neqA (T rfl) (T rfl) Try.eqGuardType72 (eqHop _ _)) rfl (gd_y rfl rfl (at_f rfl)) (y_ (yl_pick_t (T rfl) (T rfl)) (jl_nil (q_then ?_)) rfl)
        first | refine j_cond_d (at_f rfl) (fun c42 => ?_) (fun c42 => ?_) | refine j_cond (at_f rfl) (fun c42 => ?_) (fun c42 => ?_)
        · refine j_seq (j_region (y_ (yl_move (T rfl)) (y_ (yl_assign (T rfl)) (y_ (yl_assign ev_c) (jl_nil (q_then (j_ret (q_block_ret (q_then_ret (q_loop_ret (q_block_ret (q_then_ret (q_ret rfl (.tmp (at_f rfl) (.tmp (at_f rfl) .nil)) ?_))))))))) rfl) rfl) rfl))
          have e := confR_yes (n := n.nodes.length) (a := a.way) (b := b.way) (k := k) (by omega) (by rw [differ_eq, c35, c38, decide_eq_true c42]; rfl) hd
          exact ⟨_, ⟨by rw [e]; rfl, rfl⟩, sbt⟩
        · refine j_skip (q_block (q_then (j_region (y_ (yl_move (T rfl)) (y_ (yl_add (T rfl) ev_c (by omega)) ?_ rfl) rfl))))
          refine y_ (yl_assign (T rfl)) (jl_nil ?_) rfl
          refine q_loopC (k + 1) ?_ ?_ ⟨(by first | exact at_f rfl | (refine at_e (at_f rfl) (vint ?_); omega) | (refine at_e (at_f rfl) ?_; simp; done)), trivial⟩ ⟨at_f rfl, at_f rfl, at_f rfl, trivial⟩ ?_
          · refine ⟨by omega, fun i hi => ?_⟩
            by_cases e : i = k
            · subst e; rw [differ_eq]; simp [*]
            · exact hd i (by omega)
          · first | omega | (simp only []; omega)
          · exact sbt
      · refine n_ft (n_ft (n_ft (y_ (yl_pick_f (T rfl) ev_c) (jl_nil (q_then (j_cond_f (at_f rfl) (j_skip (q_block (q_then (j_region (y_ (yl_move (T rfl)) (y_ (yl_add (T rfl) ev_c (by omega)) ?_ rfl) rfl)))))))) rfl) rfl rfl rfl rfl) rfl rfl rfl rfl) rfl rfl rfl rfl
        refine y_ (yl_assign (T rfl)) (jl_nil ?_) rfl
        refine q_loopC (k + 1) ?_ ?_ ⟨(by first | exact at_f rfl | (refine at_e (at_f rfl) (vint ?_); omega) | (refine at_e (at_f rfl) ?_; simp; done)), trivial⟩ ⟨at_f rfl, at_f rfl, at_f rfl, trivial⟩ ?_
        · refine ⟨by omega, fun i hi => ?_⟩
          by_cases e : i = k
          · subst e; rw [differ_eq]; simp [*]
          · exact hd i (by omega)
        · first | omega | (simp only []; omega)
        · exact sbt
    · refine n_ft (y_ (yl_pick_f (T rfl) ev_c) (y_ (yl_move (T rfl)) (n_ft (n_ft (n_ft (y_ (yl_pick_f (T rfl) ev_c) (jl_nil (q_then (j_cond_f (at_f rfl) (j_skip (q_block (q_then (j_region (y_ (yl_move (T rfl)) (y_ (yl_add (T rfl) ev_c (by omega)) ?_ rfl) rfl)))))))) rfl) rfl rfl rfl rfl) rfl rfl rfl rfl) rfl rfl rfl rfl) rfl) rfl) rfl rfl rfl rfl
      refine y_ (yl_assign (T rfl)) (jl_nil ?_) rfl
      refine q_loopC (k + 1) ?_ ?_ ⟨(by first | exact at_f rfl | (refine at_e (at_f rfl) (vint ?_); omega) | (refine at_e (at_f rfl) ?_; simp; done)), trivial⟩ ⟨at_f rfl, at_f rfl, at_f rfl, trivial⟩ ?_
      · refine ⟨by omega, fun i hi => ?_⟩
        by_cases e : i = k
        · subst e; rw [differ_eq]; simp [*]
        · exact hd i (by omega)
      · first | omega | (simp only []; omega)
      · exact sbt
  · refine j_exit (q_then_exit (q_loop_exit (q_block_hit (q_then (j_seq (j_region (y_ (yl_assign ev_c) (y_ (yl_assign ev_c) (jl_nil (q_then (j_ret (q_ret rfl (.tmp (at_f rfl) (.tmp (at_f rfl) .nil)) ?_)))) rfl) rfl)))))))
    have e := confR_no (ls := n.links) (n := n.nodes.length) (a := a.way) (b := b.way) (fun i hi => hd i (by omega))
    exact ⟨_, ⟨by rw [e]; rfl, rfl⟩, sbt⟩
end Go.Proofs.Ytdbffighngmibaa
