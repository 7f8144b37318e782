/-
  Walks of the specification of tags.
-/
import Derived.Test.YtdbffighngmibaaUe
namespace Go.Proofs.Ytdbffighngmibaa
open Go.RowKit
set_option linter.unusedVariables false
set_option linter.unusedSimpArgs false
theorem free_s {w0 : World} {H : List (Nat × Obj)} (n : Nm) (hn : NetM w0 H n) (q : Option Addr) (cap : Nat) (l : List Wm) (hw : WaysM w0 H q l) (hg : Gw n l) (hl5 : l.length ≤ 100000) (q2 : Option Addr) (cap2 : Nat) (tg : List Int) (ht : IntArr w0 H q2 tg) (htl : tg.length ≤ l.length) (t : Int) (m : Wm) (hm : WayM w0 H m) (hml : m ∈ l) :
    FSpec Try.prog w0 42 #[.agg (encNm n).toArray, .slice q l.length cap, .slice q2 tg.length cap2, .int .i64 t, .agg (encW m).toArray] H (Still (.bool (freeI n.links n.nodes.length l tg t m.way)) H) := by
  refine fn_spec Try.func42 rfl Try.ntmps42 rfl (j_seq (j_region (e_ (eff_box (T rfl) cs_) ?_ rfl)))
  rintro _ _ ⟨n5, rfl, rfl⟩
  refine e_ (eff_box (T rfl) cs_) ?_ rfl
  rintro _ _ ⟨n9, rfl, rfl⟩
  refine y_ (yl_assign ev_c) (jl_nil (q_then (j_seq (j_seq (j_region (y_ (yl_assign ev_c) (jl_nil (q_then (j_block ?_))) rfl)))))) rfl
  refine j_loopH (X := Nat) (V := fun k => [(11, .int .i64 (k : Nat))]) (C := [(1, _), (2, _), (3, _), (5, _), (9, _)]) (φ := fun k => k ≤ tg.length ∧ ∀ i, i < k → gd tg i = t → confR n.links n.nodes.length (gd l i).way m.way = none) (μ := fun k => tg.length - k) (x0 := 0) ?_ ⟨at_f rfl, at_f rfl, at_f rfl, at_f rfl, at_f rfl, trivial⟩ ⟨(by first | exact at_f rfl | (refine at_e (at_f rfl) (vint ?_); omega) | (refine at_e (at_f rfl) ?_; simp; done)), trivial⟩ ?_
  · exact ⟨Nat.zero_le _, fun i hi => by omega⟩
  rintro k ⟨hk, hall⟩
  refine j_seq (j_seq (j_region (y_ (yl_move (T rfl)) (y_ (yl_move (T rfl)) (y_ (yl_len (T rfl) Try.runUnderlying28) (y_ (yl_lss (T rfl) (T rfl)) (jl_nil (q_then ?_)) rfl) rfl) rfl) rfl)))
  first | refine j_cond_d (at_f rfl) (fun c17 => ?_) (fun c17 => ?_) | refine j_cond (at_f rfl) (fun c17 => ?_) (fun c17 => ?_)
  · refine j_skip (q_then (j_seq (j_block (j_seq (j_seq (j_region (y_ (yl_move (T rfl)) (y_ (yl_move (T rfl)) (y_ (yl_ixQ (T rfl) (T rfl) Try.runUnderlying28 Try.sizeOf3 (by omega) (by first | exact rfl | exact hw.arr.b (i := k) (by omega) | exact ht.b (i := k) (by omega))) ?_ rfl) rfl) rfl)))))))
    refine y_ (yl_load (T rfl) Try.isAgg3 (by first | exact c_o | exact c_m (ht.f0 (i := k) (by omega) rfl))) ?_ rfl
    refine y_ (yl_move (T rfl)) (y_ (yl_neq (T rfl) (T rfl)) (jl_nil (q_then ?_)) rfl) rfl
    first | refine j_cond_d (at_f rfl) (fun c25 => ?_) (fun c25 => ?_) | refine j_cond (at_f rfl) (fun c25 => ?_) (fun c25 => ?_)
    · refine j_exit (q_then_exit (q_block_hit (q_then (j_region (y_ (yl_move (T rfl)) (y_ (yl_add (T rfl) ev_c (by omega)) ?_ rfl) rfl)))))
      refine y_ (yl_assign (T rfl)) (jl_nil ?_) rfl
      refine q_loopC (k + 1) ?_ ?_ ⟨(by first | exact at_f rfl | (refine at_e (at_f rfl) (vint ?_); omega) | (refine at_e (at_f rfl) ?_; simp; done)), trivial⟩ ⟨at_f rfl, at_f rfl, at_f rfl, at_f rfl, at_f rfl, trivial⟩ ?_
      · refine ⟨by omega, fun i hi hti => ?_⟩
        by_cases e : i = k
        · subst e; first | exact absurd hti c25 | simpa using c36
        · exact hall i (by omega) hti
      · first | omega | (simp only []; omega)
      · exact sbt
    · refine j_skip (q_then (j_seq (j_any 12 [(0, true), (1, true), (2, true), (3, true), (4, true), (5, true), (6, true), (7, true), (8, true), (9, true), (10, true), (11, true)] _ mixd (by kernel_rfl) sb0 ?_)))
      refine o_y rfl (yl_loadA (T rfl) Try.isAgg26 Try.sizeOf26 rfl (by first | exact cs_o | exact cs_m (ht.f0 (i := k) (by omega) rfl))) ?_ rfl gd_n
      refine o_y rfl (yl_move (T rfl)) (o_y rfl (yl_move (T rfl)) (o_y rfl (yl_ixQ (T rfl) (T rfl) Try.runUnderlying27 Try.sizeOf48 (by omega) (by first | exact rfl | exact hw.arr.b (i := k) (by omega) | exact ht.b (i := k) (by omega))) ?_ rfl gd_n) rfl gd_n) rfl gd_n
      refine o_y rfl (yl_loadA (T rfl) Try.isAgg48 Try.sizeOf48 rfl (by first | exact cs_o | exact cs_m (hw.arr.cs (i := k) (by omega)) | exact cs_m (ht.f0 (i := k) (by omega) rfl))) ?_ rfl gd_n
      refine o_y rfl (yl_loadA (T rfl) Try.isAgg48 Try.sizeOf48 rfl (by first | exact cs_o | exact cs_m (ht.f0 (i := k) (by omega) rfl))) ?_ rfl gd_n
      refine o_y rfl (yl_call (.cons (T rfl) (.cons (T rfl) (.cons (T rfl) .nil))) Try.call35 (fun H' hs => rConf_s n (hn.mono (List.Sublist.trans sbt hs)) _ m ((hw.at (i := k) (by omega)).mono (List.Sublist.trans sbt hs)) (hm.mono (List.Sublist.trans sbt hs)) (hg.inr _ (gd_mem (by omega))) (hg.inr _ hml) (hg.len _ (gd_mem (by omega))) (hg.len _ hml))) ?_ rfl gd_n
      refine o_y rfl (yl_move (T rfl)) (o_y rfl (yl_extract (T rfl) rfl) (o_y rfl (yl_extract (T rfl) rfl) (o_y rfl (yl_assign (T rfl)) (o_y rfl (yl_assign (T rfl)) (jo_nil rfl (jl_nil (q_then (j_keep [(1, _), (2, _), (3, _), (5, _), (9, _), (11, _), (13, _)] ⟨at_f rfl, at_f rfl, at_f rfl, at_f rfl, at_f rfl, at_f rfl, at_f rfl, trivial⟩ (j_seq (j_region (y_ (yl_move (T rfl)) (jl_nil (q_then ?_)) rfl))))))) rfl gd_n) rfl gd_n) rfl gd_n) rfl gd_n) rfl gd_n
      first | refine j_cond_d (at_f rfl) (fun c36 => ?_) (fun c36 => ?_) | refine j_cond (at_f rfl) (fun c36 => ?_) (fun c36 => ?_)
      · refine j_seq (j_region (y_ (yl_assign ev_c) (jl_nil (q_then (j_ret (q_block_ret (q_then_ret (q_loop_ret (q_block_ret (q_then_ret (q_ret rfl (.tmp (at_f rfl) .nil) ?_))))))))) rfl))
        exact ⟨_, ⟨vbool (by symm; rw [Bool.eq_false_iff]; intro h; have h := freeI_iff.1 h; rw [h k (by omega) (Classical.not_not.1 c25)] at c36; cases c36), rfl⟩, sbt⟩
      · refine j_skip (q_block (q_then (j_region (y_ (yl_move (T rfl)) (y_ (yl_add (T rfl) ev_c (by omega)) ?_ rfl) rfl))))
        refine y_ (yl_assign (T rfl)) (jl_nil ?_) rfl
        refine q_loopC (k + 1) ?_ ?_ ⟨(by first | exact at_f rfl | (refine at_e (at_f rfl) (vint ?_); omega) | (refine at_e (at_f rfl) ?_; simp; done)), trivial⟩ ⟨at_f rfl, at_f rfl, at_f rfl, at_f rfl, at_f rfl, trivial⟩ ?_
        · refine ⟨by omega, fun i hi hti => ?_⟩
          by_cases e : i = k
          · subst e; first | exact absurd hti c25 | simpa using c36
          · exact hall i (by omega) hti
        · first | omega | (simp only []; omega)
        · exact sbt
  · refine j_exit (q_then_exit (q_loop_exit (q_block_hit (q_then (j_seq (j_region (y_ (yl_assign ev_c) (jl_nil (q_then (j_ret (q_ret rfl (.tmp (at_f rfl) .nil) ?_)))) rfl)))))))
    exact ⟨_, ⟨vbool (by symm; exact freeI_iff.2 fun i hi => hall i (by omega)), rfl⟩, sbt⟩
theorem rAssign_s {w0 : World} {H : List (Nat × Obj)} (n : Nm) (hn : NetM w0 H n) (q : Option Addr) (cap : Nat) (l : List Wm) (hw : WaysM w0 H q l) (hg : Gw n l) (hl5 : l.length ≤ 100000) (first : Int) :
    FSpec Try.prog w0 12 #[.agg (encNm n).toArray, .slice q l.length cap, .int .i64 first] H (fun v H' => ∃ (d : Sl) (tg : List Int) (e : Int), v = .tuple #[slV d tg.length, .int .i64 e] ∧ SlOk d tg.length 1 ∧ H' = slH d (tg.flatMap encI) 3 ++ H ∧ asgRes n.links first (l.map (·.way)) = (tg, e)) := by
  refine fn_spec Try.func12 rfl Try.ntmps12 rfl (j_seq (j_region (e_ (eff_box (T rfl) cs_) ?_ rfl)))
  rintro _ _ ⟨n3, rfl, rfl⟩
  refine y_ (yl_assign ev_c) (y_ (yl_assign ev_c) (jl_nil (q_then (j_seq (j_seq (j_region (y_ (yl_move (T rfl)) (y_ (yl_lss (T rfl) ev_c) (y_ (yl_move (T rfl)) ?_ rfl) rfl) rfl)))))) rfl) rfl
  first | refine jl_if_d (s := 13) (at_f rfl) (fun c13 => ?_) (fun c13 => ?_) | refine jl_if (s := 13) (at_f rfl) (fun c13 => ?_) (fun c13 => ?_)
  · refine n_tf (n_tf (y_ (yl_pick_t (T rfl) ev_c) (jl_nil (q_then (j_cond_t (at_f rfl) (j_seq (j_region (y_ (yl_assign ev_c) (y_ (yl_assign ev_c) (jl_nil (q_then (j_ret (q_then_ret (q_ret rfl (.tmp (at_f rfl) (.tmp (at_f rfl) .nil)) ?_))))) rfl) rfl)))))) rfl) rfl rfl rfl rfl) rfl rfl rfl rfl
    exact ⟨_, ⟨.nil, [], 1, rfl, rfl, rfl, by unfold asgRes; rw [if_neg (by omega)]⟩, sbt⟩
  · refine jl_y (yl_move (T rfl)) rfl (gd_y rfl rfl (at_f rfl)) (jl_y (yl_gtr (T rfl) ev_c) rfl (gd_y rfl rfl (at_f rfl)) (y_ (yl_pick_f (T rfl) (T rfl)) (jl_nil (q_then ?_)) rfl))
    first | refine j_cond_d (at_f rfl) (fun c16 => ?_) (fun c16 => ?_) | refine j_cond (at_f rfl) (fun c16 => ?_) (fun c16 => ?_)
    · refine j_seq (j_region (y_ (yl_assign ev_c) (y_ (yl_assign ev_c) (jl_nil (q_then (j_ret (q_then_ret (q_ret rfl (.tmp (at_f rfl) (.tmp (at_f rfl) .nil)) ?_))))) rfl) rfl))
      exact ⟨_, ⟨.nil, [], 1, rfl, rfl, rfl, by unfold asgRes; rw [if_neg (by omega)]⟩, sbt⟩
    · refine j_skip (q_then (j_seq (j_region (y_ (yl_assign ev_c) (jl_nil (q_then (j_seq (j_seq (j_region (y_ (yl_assign ev_c) (jl_nil (q_then (j_block ?_))) rfl)))))) rfl))))
      refine j_loopC (X := Nat × Sl × List Int) (V := fun ⟨k, d, tg⟩ => [(9, .int .i64 (k : Nat)), (8, slV d tg.length)]) (C := [(1, _), (2, _), (3, _)]) (G := fun ⟨k, d, tg⟩ => slH d (tg.flatMap encI) 3 ++ ((n3, Cl (encNm n) 26) :: H)) (φ := fun ⟨k, d, tg⟩ => k ≤ l.length ∧ tg.length = k ∧ Made n.links first (pairs l tg) ∧ asgF n.links first (pairs l tg) ((l.drop k).map (·.way)) = asgF n.links first [] (l.map (·.way)) ∧ SlOk d tg.length 1) (μ := fun ⟨k, d, tg⟩ => l.length - k) (x0 := (0, .nil, [])) ?_ ⟨at_f rfl, at_f rfl, at_f rfl, trivial⟩ ⟨(by first | exact at_f rfl | (refine at_e (at_f rfl) (vint ?_); omega) | (refine at_e (at_f rfl) ?_; simp; done)), (by first | exact at_f rfl | (refine at_e (at_f rfl) (vint ?_); omega) | (refine at_e (at_f rfl) ?_; simp; done)), trivial⟩ sb0 ?_
      · exact ⟨Nat.zero_le _, rfl, by rw [pairs_nil]; exact .nil, by rw [pairs_nil]; rfl, rfl⟩
      rintro ⟨k, d, tg⟩ ⟨hk, htl, hmd, has, hok⟩
      refine j_seq (j_seq (j_region (y_ (yl_move (T rfl)) (y_ (yl_move (T rfl)) (y_ (yl_len (T rfl) Try.runUnderlying27) (y_ (yl_lss (T rfl) (T rfl)) (jl_nil (q_then ?_)) rfl) rfl) rfl) rfl)))
      first | refine j_cond_d (at_f rfl) (fun c20 => ?_) (fun c20 => ?_) | refine j_cond (at_f rfl) (fun c20 => ?_) (fun c20 => ?_)
      · refine j_skip (q_then (j_seq (j_block (j_seq (j_region (y_ (yl_move (T rfl)) (y_ (yl_assign (T rfl)) (jl_nil (q_then (j_seq (j_block ?_)))) rfl) rfl))))))
        refine j_loopH (X := Int) (V := fun t => [(10, .int .i64 t)]) (C := [(1, _), (2, _), (3, _), (8, _), (9, _)]) (φ := fun t => first ≤ t ∧ t ≤ tagF n.links first (pairs l tg) (gd l k).way) (μ := fun t => (tagF n.links first (pairs l tg) (gd l k).way - t).toNat) (x0 := first) ?_ ⟨at_f rfl, at_f rfl, at_f rfl, at_f rfl, at_f rfl, trivial⟩ ⟨(by first | exact at_f rfl | (refine at_e (at_f rfl) (vint ?_); omega) | (refine at_e (at_f rfl) ?_; simp; done)), trivial⟩ ?_
        · have hsp := tagF_spec (first := first) hmd.cons' (hg.nd _ (gd_mem (i := k) (by omega)))
          exact ⟨Int.le_refl _, hsp.2.1⟩
        rintro t ⟨ht1, ht2⟩
        obtain ⟨hT, hT1, hT2, hT3⟩ := tagF_spec (first := first) hmd.cons' (hg.nd _ (gd_mem (i := k) (by omega)))
        have hpl := pairs_len (l := l) (tg := tg) (by omega)
        have hfi := freeI_fits hg (tg := tg) (by omega) hmd.cons' (gd_mem (i := k) (by omega)) t
        refine j_seq (j_seq (j_any 10 [(0, true), (1, true), (2, true), (3, true), (4, true), (5, true), (6, true), (7, true), (8, true), (9, true)] _ mixd (by kernel_rfl) sb0 ?_))
        refine o_y rfl (yl_loadA (T rfl) Try.isAgg26 Try.sizeOf26 rfl (by first | exact cs_o)) ?_ rfl gd_n
        refine o_y rfl (yl_move (T rfl)) (o_y rfl (yl_move (T rfl)) (o_y rfl (yl_move (T rfl)) (o_y rfl (yl_move (T rfl)) (o_y rfl (yl_move (T rfl)) (o_y rfl (yl_ixR (T rfl) (T rfl) Try.runUnderlying27 Try.sizeOf48 (by omega) (by first | exact rfl | exact hw.arr.b (i := k) (by omega))) ?_ rfl gd_n) rfl gd_n) rfl gd_n) rfl gd_n) rfl gd_n) rfl gd_n
        refine o_y rfl (yl_loadA (T rfl) Try.isAgg48 Try.sizeOf48 rfl (by first | exact cs_o | exact cs_m (hw.arr.cs (i := k) (by omega)))) ?_ rfl gd_n
        refine o_y rfl (yl_call (.cons (T rfl) (.cons (T rfl) (.cons (T rfl) (.cons (T rfl) (.cons (T rfl) .nil))))) Try.call42 (fun H' hs => free_s n (hn.mono (List.Sublist.trans sbt hs)) _ _ l (hw.mono (List.Sublist.trans sbt hs)) hg hl5 _ _ tg (((sl_arr (enc := encI) (sz := 1) (e := 3) (X := (n3, Cl (encNm n) 26) :: H) (fun _ => rfl) hok)).mono (List.Sublist.trans sbt hs)) (by first | omega | (simp; omega)) _ _ ((hw.at (i := k) (by omega)).mono (List.Sublist.trans sbt hs)) (gd_mem (by omega)))) ?_ rfl gd_n
        first | refine o_y rfl (yl_not_d (T rfl)) ?_ rfl gd_n | refine o_y rfl (yl_not (T rfl)) ?_ rfl gd_n
        refine jo_nil rfl (jl_nil (q_then ?_))
        first | refine j_cond_d (at_f rfl) (fun c33 => ?_) (fun c33 => ?_) | refine j_cond (at_f rfl) (fun c33 => ?_) (fun c33 => ?_)
        · refine j_skip (q_then (j_block (j_region (y_ (yl_move (T rfl)) (y_ (yl_add (T rfl) ev_c (by omega)) ?_ rfl) rfl))))
          refine y_ (yl_assign (T rfl)) (jl_nil (q_block ?_)) rfl
          rw [hfi] at c33
          have hne : ¬ t = tagF n.links first (pairs l tg) (gd l k).way := by intro e; rw [← e] at hT; simp [hT] at c33
          refine q_loopC (t + 1) ?_ ?_ ⟨(by first | exact at_f rfl | (refine at_e (at_f rfl) (vint ?_); omega) | (refine at_e (at_f rfl) ?_; simp; done)), trivial⟩ ⟨at_f rfl, at_f rfl, at_f rfl, at_f rfl, at_f rfl, trivial⟩ ?_
          · exact ⟨by omega, by omega⟩
          · first | omega | (simp only []; omega)
          · exact sbt
        · rw [hfi] at c33
          obtain rfl : t = tagF n.links first (pairs l tg) (gd l k).way := by
            have hlt : ¬ t < tagF n.links first (pairs l tg) (gd l k).way := by intro h; have := hT3 t ht1 h; simp [this] at c33
            omega
          refine j_exit (q_then_exit (q_loop_exit (q_block_hit (q_then (j_seq (j_seq (j_region (y_ (yl_move (T rfl)) (y_ (yl_gtr (T rfl) ev_c) (jl_nil (q_then ?_)) rfl) rfl))))))))
          first | refine j_cond_d (at_f rfl) (fun c37 => ?_) (fun c37 => ?_) | refine j_cond (at_f rfl) (fun c37 => ?_) (fun c37 => ?_)
          · refine j_seq (j_region (y_ (yl_assign ev_c) (y_ (yl_assign ev_c) (jl_nil (q_then (j_ret (q_then_ret (q_block_ret (q_then_ret (q_loop_ret (q_block_ret (q_then_ret (q_ret rfl (.tmp (at_f rfl) (.tmp (at_f rfl) .nil)) ?_)))))))))) rfl) rfl))
            rw [drop_gd (l := l) (k := k) (by omega), List.map_cons, asgF, if_pos (by omega)] at has
            exact ⟨_, ⟨.nil, [], 12, rfl, rfl, rfl, by unfold asgRes; rw [if_pos (by omega), ← has]⟩, sbt⟩
          · refine j_skip (q_then (j_region (y_ (yl_move (T rfl)) (y_ (yl_move (T rfl)) (e_ (eff_bslice (.cons (T rfl) .nil) (bs28_1_0 _)) ?_ rfl) rfl) rfl)))
            rintro _ _ ⟨n40, rfl, rfl⟩
            refine e_ (eff_app1_at (tagF n.links first (pairs l tg) (gd l k).way) (by' := 8) (by repeat (first | exact LocL.h | apply LocL.t | apply LocL.a)) (T rfl) (T rfl) Try.runUnderlying28 Try.runUnderlying28 Try.sizeOf3 Try.typeInfo3 rfl Try.zeroValue3 rfl (fun _ => rfl) rfl hok (by decide) (by omega)) ?_ rfl
            rintro _ _ ⟨d', rfl, hok', rfl⟩
            refine y_ (yl_assign (T rfl)) (jl_nil (q_block (q_then (j_region (y_ (yl_move (T rfl)) (y_ (yl_add (T rfl) ev_c (by omega)) ?_ rfl) rfl))))) rfl
            refine y_ (yl_assign (T rfl)) (jl_nil ?_) rfl
            refine q_loopC ((k + 1, d', tg ++ [tagF n.links first (pairs l tg) (gd l k).way])) ?_ ?_ ⟨(by first | exact at_f rfl | (refine at_e (at_f rfl) (vint ?_); omega) | (refine at_e (at_f rfl) ?_; simp; done)), (by first | exact at_f rfl | (refine at_e (at_f rfl) (vint ?_); omega) | (refine at_e (at_f rfl) ?_; simp; done)), trivial⟩ ⟨at_f rfl, at_f rfl, at_f rfl, trivial⟩ ?_
            · have hsn := pairs_snoc (l := l) (tg := tg) (by omega) (tagF n.links first (pairs l tg) (gd l k).way)
              rw [htl] at hsn
              refine ⟨by omega, by simp [htl], by rw [hsn]; exact hmd.cons (hg.nd _ (gd_mem (by omega))), ?_, by simpa using hok'⟩
              rw [← has, drop_gd (l := l) (k := k) (by omega), List.map_cons, asgF, if_neg (by omega), hsn]
            · first | omega | (simp only []; omega)
            · exact sbt
      · refine j_exit (q_then_exit (q_loop_exit (q_block_hit (q_then (j_seq (j_region (y_ (yl_move (T rfl)) (y_ (yl_assign (T rfl)) (y_ (yl_assign ev_c) (jl_nil (q_then (j_ret (q_ret rfl (.tmp (at_f rfl) (.tmp (at_f rfl) .nil)) ?_)))) rfl) rfl) rfl)))))))
        rw [drop_end (l := l) (by omega), List.map_nil, asgF] at has
        have e : (pairs l tg).reverse.map (·.2) = tg := by
          unfold pairs; rw [List.reverse_reverse]
          have := List.map_snd_zip (l₁ := l.map (·.way)) (l₂ := tg) (by simp; omega)
          simpa using this
        exact ⟨_, ⟨d, tg, 0, rfl, hok, rfl, by unfold asgRes; rw [if_pos (by omega), ← has]; simp only [e]⟩, sbt⟩
theorem rRight_s {w0 : World} {H : List (Nat × Obj)} (n : Nm) (hn : NetM w0 H n) (q : Option Addr) (cap : Nat) (l : List Wm) (hw : WaysM w0 H q l) (hg : Gw n l) (hl5 : l.length ≤ 100000) (q2 : Option Addr) (cap2 : Nat) (tg : List Int) (ht : IntArr w0 H q2 tg) (htc : tg.length ≤ cap2) (htl : tg.length ≤ 9223372036854775807) :
    FSpec Try.prog w0 14 #[.agg (encNm n).toArray, .slice q l.length cap, .slice q2 tg.length cap2] H (Still (.bool (rgtF n.links [] (l.map (·.way)) tg)) H) := by
  refine fn_spec Try.func14 rfl Try.ntmps14 rfl (j_seq (j_region (e_ (eff_box (T rfl) cs_) ?_ rfl)))
  rintro _ _ ⟨n3, rfl, rfl⟩
  refine y_ (yl_assign ev_c) (jl_nil (q_then (j_seq (j_seq (j_region (y_ (yl_move (T rfl)) (y_ (yl_len (T rfl) Try.runUnderlying28) (y_ (yl_move (T rfl)) (y_ (yl_len (T rfl) Try.runUnderlying27) (y_ (yl_neq (T rfl) (T rfl)) (jl_nil (q_then ?_)) rfl) rfl) rfl) rfl) rfl)))))) rfl
  first | refine j_cond_d (at_f rfl) (fun c12 => ?_) (fun c12 => ?_) | refine j_cond (at_f rfl) (fun c12 => ?_) (fun c12 => ?_)
  · refine j_seq (j_region (y_ (yl_assign ev_c) (jl_nil (q_then (j_ret (q_then_ret (q_ret rfl (.tmp (at_f rfl) .nil) ?_))))) rfl))
    exact ⟨_, ⟨by rw [rgtF_eq, decide_eq_false (by simp; omega)]; rfl, rfl⟩, sbt⟩
  · refine j_skip (q_then (j_seq (j_seq (j_region (y_ (yl_assign ev_c) (jl_nil (q_then (j_block ?_))) rfl)))))
    refine j_loopH (X := Nat) (V := fun k => [(7, .int .i64 (k : Nat))]) (C := [(1, _), (2, _), (3, _)]) (φ := fun k => k ≤ l.length ∧ Cons n.links (pairs l (tg.take k)) ∧ rgtF n.links (pairs l (tg.take k)) ((l.drop k).map (·.way)) (tg.drop k) = rgtF n.links [] (l.map (·.way)) tg) (μ := fun k => l.length - k) (x0 := 0) ?_ ⟨at_f rfl, at_f rfl, at_f rfl, trivial⟩ ⟨(by first | exact at_f rfl | (refine at_e (at_f rfl) (vint ?_); omega) | (refine at_e (at_f rfl) ?_; simp; done)), trivial⟩ ?_
    · refine ⟨Nat.zero_le _, ?_, ?_⟩
      · rw [List.take_zero, pairs_nil]; exact Cons.nil _
      · rw [List.take_zero, pairs_nil]; rfl
    rintro k ⟨hk, hcs, hr⟩
    refine j_seq (j_seq (j_region (y_ (yl_move (T rfl)) (y_ (yl_move (T rfl)) (y_ (yl_len (T rfl) Try.runUnderlying28) (y_ (yl_lss (T rfl) (T rfl)) (jl_nil (q_then ?_)) rfl) rfl) rfl) rfl)))
    first | refine j_cond_d (at_f rfl) (fun c16 => ?_) (fun c16 => ?_) | refine j_cond (at_f rfl) (fun c16 => ?_) (fun c16 => ?_)
    · refine j_skip (q_then (j_seq (j_block (j_seq (j_any 29 [(0, true), (1, true), (2, true), (3, true), (4, true), (5, true), (6, true), (7, true), (8, true), (9, true), (10, true), (11, true), (12, true), (13, true), (14, true), (15, true), (16, true), (17, true), (18, true), (19, true), (20, true), (21, true), (22, true), (23, true), (24, true), (25, true), (26, true), (27, true), (28, true)] _ mixd (by kernel_rfl) sb0 ?_)))))
      refine o_y rfl (yl_move (T rfl)) (o_y rfl (yl_move (T rfl)) (o_y rfl (yl_ixQ (T rfl) (T rfl) Try.runUnderlying28 Try.sizeOf3 (by omega) (by first | exact rfl | exact hw.arr.b (i := k) (by omega) | exact ht.b (i := k) (by omega))) ?_ rfl gd_n) rfl gd_n) rfl gd_n
      refine o_y rfl (yl_load (T rfl) Try.isAgg3 (by first | exact c_o | exact c_m (ht.f0 (i := k) (by omega) rfl))) ?_ rfl gd_n
      refine o_y rfl (yl_lss (T rfl) ev_c) (o_y rfl (yl_move (T rfl)) ?_ rfl gd_n) rfl gd_n
      first | refine o_if_d (s := 24) (at_f rfl) (fun c24 => ?_) (fun c24 => ?_) | refine o_if (s := 24) (at_f rfl) (fun c24 => ?_) (fun c24 => ?_)
      · refine o_n rfl (o_n rfl (o_n rfl (o_n rfl (o_n rfl (o_y rfl (yl_pick_t (T rfl) ev_c) (o_y rfl (yl_move (T rfl)) (o_n rfl (o_n rfl (o_n rfl (o_n rfl (o_n rfl (o_n rfl (o_n rfl (o_n rfl (o_n rfl (o_n rfl (o_n rfl (o_n rfl (o_n rfl (o_n rfl (o_n rfl (o_y rfl (yl_pick_t (T rfl) ev_c) (jo_nil rfl (jl_nil (q_then (j_keep [(1, _), (2, _), (3, _), (7, _), (47, _)] ⟨at_f rfl, at_f rfl, at_f rfl, at_f rfl, at_f rfl, trivial⟩ (j_cond_t (at_f rfl) (j_seq (j_region (y_ (yl_assign ev_c) (jl_nil (q_then (j_ret (q_block_ret (q_then_ret (q_loop_ret (q_block_ret (q_then_ret (q_ret rfl (.tmp (at_f rfl) .nil) ?_))))))))) rfl)))))))) rfl gd_n) rfl (nw_tf rfl rfl (at_f rfl))) rfl (nw_tf rfl rfl (at_f rfl))) rfl (nw_tf rfl rfl (at_f rfl))) rfl (nw_tf rfl rfl (at_f rfl))) rfl (nw_tf rfl rfl (at_f rfl))) rfl (nw_tf rfl rfl (at_f rfl))) rfl (nw_tf rfl rfl (at_f rfl))) rfl (nw_tf rfl rfl (at_f rfl))) rfl (nw_tf rfl rfl (at_f rfl))) rfl (nw_tf rfl rfl (at_f rfl))) rfl (nw_tf rfl rfl (at_f rfl))) rfl (nw_tf rfl rfl (at_f rfl))) rfl (nw_tf rfl rfl (at_f rfl))) rfl (nw_tf rfl rfl (at_f rfl))) rfl (nw_tf rfl rfl (at_f rfl))) rfl gd_n) rfl gd_n) rfl (nw_tf rfl rfl (at_f rfl))) rfl (nw_tf rfl rfl (at_f rfl))) rfl (nw_tf rfl rfl (at_f rfl))) rfl (nw_tf rfl rfl (at_f rfl))) rfl (nw_tf rfl rfl (at_f rfl))
        exact ⟨_, ⟨by rw [← hr, rgt_go (k := k) (by omega) (by omega), decide_eq_false (by omega)]; rfl, rfl⟩, sbt⟩
      · refine o_y rfl (yl_move (T rfl)) (o_y rfl (yl_move (T rfl)) (o_y rfl (yl_ixQ (T rfl) (T rfl) Try.runUnderlying28 Try.sizeOf3 (by omega) (by first | exact rfl | exact hw.arr.b (i := k) (by omega) | exact ht.b (i := k) (by omega))) ?_ rfl (gd_y rfl rfl (at_f rfl))) rfl (gd_y rfl rfl (at_f rfl))) rfl (gd_y rfl rfl (at_f rfl))
        refine o_y rfl (yl_load (T rfl) Try.isAgg3 (by first | exact c_o | exact c_m (ht.f0 (i := k) (by omega) rfl))) ?_ rfl (gd_y rfl rfl (at_f rfl))
        refine o_y rfl (yl_gtr (T rfl) ev_c) (o_y rfl (yl_pick_f (T rfl) (T rfl)) (o_y rfl (yl_move (T rfl)) ?_ rfl gd_n) rfl gd_n) rfl (gd_y rfl rfl (at_f rfl))
        first | refine o_if_d (s := 31) (at_f rfl) (fun c31 => ?_) (fun c31 => ?_) | refine o_if (s := 31) (at_f rfl) (fun c31 => ?_) (fun c31 => ?_)
        · refine o_n rfl (o_n rfl (o_n rfl (o_n rfl (o_n rfl (o_n rfl (o_n rfl (o_n rfl (o_n rfl (o_n rfl (o_n rfl (o_n rfl (o_n rfl (o_n rfl (o_n rfl (o_y rfl (yl_pick_t (T rfl) ev_c) (jo_nil rfl (jl_nil (q_then (j_keep [(1, _), (2, _), (3, _), (7, _), (47, _)] ⟨at_f rfl, at_f rfl, at_f rfl, at_f rfl, at_f rfl, trivial⟩ (j_cond_t (at_f rfl) (j_seq (j_region (y_ (yl_assign ev_c) (jl_nil (q_then (j_ret (q_block_ret (q_then_ret (q_loop_ret (q_block_ret (q_then_ret (q_ret rfl (.tmp (at_f rfl) .nil) ?_))))))))) rfl)))))))) rfl gd_n) rfl (nw_tf rfl rfl (at_f rfl))) rfl (nw_tf rfl rfl (at_f rfl))) rfl (nw_tf rfl rfl (at_f rfl))) rfl (nw_tf rfl rfl (at_f rfl))) rfl (nw_tf rfl rfl (at_f rfl))) rfl (nw_tf rfl rfl (at_f rfl))) rfl (nw_tf rfl rfl (at_f rfl))) rfl (nw_tf rfl rfl (at_f rfl))) rfl (nw_tf rfl rfl (at_f rfl))) rfl (nw_tf rfl rfl (at_f rfl))) rfl (nw_tf rfl rfl (at_f rfl))) rfl (nw_tf rfl rfl (at_f rfl))) rfl (nw_tf rfl rfl (at_f rfl))) rfl (nw_tf rfl rfl (at_f rfl))) rfl (nw_tf rfl rfl (at_f rfl))
          exact ⟨_, ⟨by rw [← hr, rgt_go (k := k) (by omega) (by omega), decide_eq_false (by omega)]; rfl, rfl⟩, sbt⟩
        · refine o_y rfl (yl_loadA (T rfl) Try.isAgg26 Try.sizeOf26 rfl (by first | exact cs_o | exact cs_m (ht.f0 (i := k) (by omega) rfl))) ?_ rfl (gd_y rfl rfl (at_f rfl))
          refine o_y rfl (yl_move (T rfl)) (o_y rfl (yl_move (T rfl)) (o_y rfl (yl_move (T rfl)) (o_y rfl (yl_sliceH  (T rfl) (T rfl) Try.runUnderlying28 Try.sizeOf3 (by omega)) ?_ rfl (gd_y rfl rfl (at_f rfl))) rfl (gd_y rfl rfl (at_f rfl))) rfl (gd_y rfl rfl (at_f rfl))) rfl (gd_y rfl rfl (at_f rfl))
          refine o_y rfl (yl_move (T rfl)) (o_y rfl (yl_move (T rfl)) (o_y rfl (yl_ixQ (T rfl) (T rfl) Try.runUnderlying28 Try.sizeOf3 (by omega) (by first | exact rfl | exact hw.arr.b (i := k) (by omega) | exact ht.b (i := k) (by omega))) ?_ rfl (gd_y rfl rfl (at_f rfl))) rfl (gd_y rfl rfl (at_f rfl))) rfl (gd_y rfl rfl (at_f rfl))
          refine o_y rfl (yl_load (T rfl) Try.isAgg3 (by first | exact c_o | exact c_m (ht.f0 (i := k) (by omega) rfl))) ?_ rfl (gd_y rfl rfl (at_f rfl))
          refine o_y rfl (yl_move (T rfl)) (o_y rfl (yl_move (T rfl)) (o_y rfl (yl_ixQ (T rfl) (T rfl) Try.runUnderlying27 Try.sizeOf48 (by omega) (by first | exact rfl | exact hw.arr.b (i := k) (by omega) | exact ht.b (i := k) (by omega))) ?_ rfl (gd_y rfl rfl (at_f rfl))) rfl (gd_y rfl rfl (at_f rfl))) rfl (gd_y rfl rfl (at_f rfl))
          refine o_y rfl (yl_loadA (T rfl) Try.isAgg48 Try.sizeOf48 rfl (by first | exact cs_o | exact cs_m (hw.arr.cs (i := k) (by omega)) | exact cs_m (ht.f0 (i := k) (by omega) rfl))) ?_ rfl (gd_y rfl rfl (at_f rfl))
          refine o_y rfl (yl_call (.cons (T rfl) (.cons (T rfl) (.cons (T rfl) (.cons (T rfl) (.cons (T rfl) .nil))))) Try.call42 (fun H' hs => by have hfr := free_s n (hn.mono (List.Sublist.trans sbt hs)) q cap l (hw.mono (List.Sublist.trans sbt hs)) hg hl5 q2 cap2 (tg.take k) ((ht.take k).mono (List.Sublist.trans sbt hs)) (by simp; omega) (gd tg k) (gd l k) ((hw.at (i := k) (by omega)).mono (List.Sublist.trans sbt hs)) (gd_mem (by omega)); rw [show (tg.take k).length = k by simp; omega, freeI_fits hg (by simp; omega) hcs (gd_mem (by omega))] at hfr; exact hfr)) ?_ rfl (gd_y rfl rfl (at_f rfl))
          first | refine o_y rfl (yl_not_d (T rfl)) ?_ rfl (gd_y rfl rfl (at_f rfl)) | refine o_y rfl (yl_not (T rfl)) ?_ rfl (gd_y rfl rfl (at_f rfl))
          refine o_y rfl (yl_pick_f (T rfl) (T rfl)) (jo_nil rfl (jl_nil (q_then (j_keep [(1, _), (2, _), (3, _), (7, _), (47, _)] ⟨at_f rfl, at_f rfl, at_f rfl, at_f rfl, at_f rfl, trivial⟩ ?_)))) rfl gd_n
          first | refine j_cond_d (at_f rfl) (fun c47 => ?_) (fun c47 => ?_) | refine j_cond (at_f rfl) (fun c47 => ?_) (fun c47 => ?_)
          · refine j_seq (j_region (y_ (yl_assign ev_c) (jl_nil (q_then (j_ret (q_block_ret (q_then_ret (q_loop_ret (q_block_ret (q_then_ret (q_ret rfl (.tmp (at_f rfl) .nil) ?_))))))))) rfl))
            exact ⟨_, ⟨by rw [← hr, rgt_go (k := k) (by omega) (by omega), show fitsP n.links (planR n.links (pairs l (tg.take k))) (gd l k).way (gd tg k) = false by simpa using c47]; simp [resOf], rfl⟩, sbt⟩
          · refine j_skip (q_block (q_then (j_region (y_ (yl_move (T rfl)) (y_ (yl_add (T rfl) ev_c (by omega)) ?_ rfl) rfl))))
            refine y_ (yl_assign (T rfl)) (jl_nil ?_) rfl
            refine q_loopC (k + 1) ?_ ?_ ⟨(by first | exact at_f rfl | (refine at_e (at_f rfl) (vint ?_); omega) | (refine at_e (at_f rfl) ?_; simp; done)), trivial⟩ ⟨at_f rfl, at_f rfl, at_f rfl, trivial⟩ ?_
            · have hf : fitsP n.links (planR n.links (pairs l (tg.take k))) (gd l k).way (gd tg k) = true := by simpa using c47
              refine ⟨by omega, by rw [pairs_take (by omega) (by omega)]; exact hcs.cons (hg.nd _ (gd_mem (by omega))) hf, ?_⟩
              rw [← hr, rgt_go (k := k) (by omega) (by omega), hf, decide_eq_true (by omega)]; rfl
            · first | omega | (simp only []; omega)
            · exact sbt
    · refine j_exit (q_then_exit (q_loop_exit (q_block_hit (q_then (j_seq (j_region (y_ (yl_assign ev_c) (jl_nil (q_then (j_ret (q_ret rfl (.tmp (at_f rfl) .nil) ?_)))) rfl)))))))
      exact ⟨_, ⟨by rw [← hr, rgt_end (by omega) (by omega)]; rfl, rfl⟩, sbt⟩
end Go.Proofs.Ytdbffighngmibaa
