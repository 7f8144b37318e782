/-
  Walks of Assign.
-/
import Derived.Test.YtdbffighngmibaaUa
namespace Go.Proofs.Ytdbffighngmibaa
open Go.RowKit
set_option linter.unusedVariables false
set_option linter.unusedSimpArgs false
theorem asg1_s {w0 : World} {H : List (Nat × Obj)} (n : Nm) (hn : NetM w0 H n) (m : Wm) (hm : WayM w0 H m) (hr : InR n.links m.way.links) (b1 b2 b3 r : Nat) (first : Int) (pl : PlanL) (ps : List (Way × Int)) (h1 : Fnd H b1 (Cl [.int .i64 first] 3)) (h2 : Fnd H b2 (Cl [.map (some r)] 87)) (h3 : Fnd H b3 (Cl (encNm n) 26)) (hf : Fnd H r (mapO encK2 encHv pl)) (hrep : Rep n.links pl ps) (hc : Cons n.links ps) (hnd : (nodesF n.links m.way).Nodup) (hfb : 1 ≤ first ∧ first ≤ 65535) (hps : ps.length ≤ 1000000) :
    FSpec Try.prog w0 39 #[.agg (encW m).toArray, .pointer (some ⟨b1, 0, none⟩), .pointer (some ⟨b2, 0, none⟩), .pointer (some ⟨b3, 0, none⟩)] H (Still (.int .i64 (tagF n.links first ps m.way)) H) := by
  refine fn_spec Try.func39 rfl Try.ntmps39 rfl ?_
  obtain ⟨hT, hT1, hT2, hT3⟩ := tagF_spec (first := first) hc hnd
  have c1 := c_o (w0 := w0) (i := 0) (hf := h1)
  have c2 := c_o (w0 := w0) (i := 0) (hf := h2)
  have c3 := cs_o (w0 := w0) (hf := h3)
  refine j_seq (j_region (e_ (eff_box (T rfl) cs_) ?_ rfl))
  rintro _ _ ⟨n4, rfl, rfl⟩
  refine y_ (yl_assign ev_c) (jl_nil (q_then (j_seq (j_region (y_ (yl_load (T rfl) Try.isAgg3 (by first | exact c_o | exact c_m (c1) | exact c_m (c2) | exact c_m (c3))) ?_ rfl))))) rfl
  refine y_ (yl_assign (T rfl)) (jl_nil (q_then (j_seq (j_block ?_)))) rfl
  refine j_loopH (X := Int) (V := fun t => [(6, .int .i64 t)]) (C := [(2, _), (3, _), (4, _)]) (φ := fun t => first ≤ t ∧ t ≤ tagF n.links first ps m.way) (μ := fun t => (tagF n.links first ps m.way - t).toNat) (x0 := first) ?_ ⟨at_f rfl, at_f rfl, at_f rfl, trivial⟩ ⟨(by first | exact at_f rfl | (refine at_e (at_f rfl) (vint ?_); omega) | (refine at_e (at_f rfl) ?_; simp; done)), trivial⟩ ?_
  · exact ⟨Int.le_refl _, hT1⟩
  rintro t ⟨ht1, ht2⟩
  refine j_seq (j_seq (j_region (y_ (yl_load (T rfl) Try.isAgg87 (by first | exact c_o | exact c_m (c1) | exact c_m (c2) | exact c_m (c3))) ?_ rfl)))
  refine y_ (yl_loadA (T rfl) Try.isAgg26 Try.sizeOf26 rfl (by first | exact cs_o | exact cs_m (c1) | exact cs_m (c2) | exact cs_m (c3))) ?_ rfl
  refine y_ (yl_loadA (T rfl) Try.isAgg48 Try.sizeOf48 rfl (by first | exact cs_o | exact cs_m (c1) | exact cs_m (c2) | exact cs_m (c3))) ?_ rfl
  refine y_ (yl_move (T rfl)) (y_ (yl_call (.cons (T rfl) (.cons (T rfl) (.cons (T rfl) (.cons (T rfl) .nil)))) Try.call40 (fun H' hs => fits_s n (hn.mono (List.Sublist.trans sbt hs)) m (hm.mono (List.Sublist.trans sbt hs)) hr r pl (hf.mono (List.Sublist.trans sbt hs)) _)) ?_ rfl) rfl
  first | refine jl_y (yl_not_d (T rfl)) rfl gd_n ?_ | refine jl_y (yl_not (T rfl)) rfl gd_n ?_
  refine jl_nil (q_then ?_)
  first | refine j_cond_d (at_f rfl) (fun c13 => ?_) (fun c13 => ?_) | refine j_cond (at_f rfl) (fun c13 => ?_) (fun c13 => ?_)
  · refine j_skip (q_then (j_block (j_region (y_ (yl_move (T rfl)) (y_ (yl_add (T rfl) ev_c (by omega)) ?_ rfl) rfl))))
    refine y_ (yl_assign (T rfl)) (jl_nil (q_block ?_)) rfl
    rw [fitsL_eq hrep] at c13
    have hne : ¬ t = tagF n.links first ps m.way := by intro e; rw [← e] at hT; simp [hT] at c13
    refine q_loopC (t + 1) ?_ ?_ ⟨(by first | exact at_f rfl | (refine at_e (at_f rfl) (vint ?_); omega) | (refine at_e (at_f rfl) ?_; simp; done)), trivial⟩ ⟨at_f rfl, at_f rfl, at_f rfl, trivial⟩ ?_
    · exact ⟨by omega, by omega⟩
    · first | omega | (simp only []; omega)
    · exact sbt
  · refine j_exit (q_then_exit (q_loop_exit (q_block_hit (q_then (j_seq (j_region (y_ (yl_move (T rfl)) (y_ (yl_assign (T rfl)) (jl_nil (q_then (j_ret (q_ret rfl (.tmp (at_f rfl) .nil) ?_)))) rfl) rfl)))))))
    rw [fitsL_eq hrep] at c13
    have hlt : ¬ t < tagF n.links first ps m.way := by intro h; have := hT3 t ht1 h; simp [this] at c13
    have e : t = tagF n.links first ps m.way := by omega
    exact ⟨_, ⟨by rw [e]; rfl, rfl⟩, sbt⟩
theorem padd_at {w0 : World} {H R : List (Nat × Obj)} {F : Obj → List (Nat × Obj)} {r : Nat} {pl : PlanL} (hl : Loc H r (mapO encK2 encHv pl) R F) (n : Nm) (hn : NetM w0 R n) (m : Wm) (hm : WayM w0 R m) (hr : InR n.links m.way.links) (t : Int) :
    FSpec Try.prog w0 41 #[.map (some r), .agg (encNm n).toArray, .agg (encW m).toArray, .int .i64 t] H (fun v H' => ∃ _ : Unit, v = .tuple #[] ∧ H' = F (mapO encK2 encHv (addL n.links pl m.way t))) :=
  spec_at (add_s n hn m hm hr r pl t) hl
theorem assign_s {w0 : World} {H : List (Nat × Obj)} (n : Nm) (hn : NetM w0 H n) (q : Option Addr) (cap : Nat) (l : List Wm) (hw : WaysM w0 H q l) (hg : Good n.links l) (hl5 : l.length ≤ 100000) (first : Int) :
    FSpec Try.prog w0 11 #[.agg (encNm n).toArray, .slice q l.length cap, .int .i64 first] H (fun v H' => ∃ (d : Sl) (tg : List Int) (e : Int), v = .tuple #[slV d tg.length, .int .i64 e] ∧ SlOk d tg.length 1 ∧ H' = slH d (tg.flatMap encI) 3 ++ H ∧ asgRes n.links first (l.map (·.way)) = (tg, e)) := by
  refine fn_spec Try.func11 rfl Try.ntmps11 rfl (j_seq (j_region (e_ (eff_box (T rfl) cs_) ?_ rfl)))
  rintro _ _ ⟨n3, rfl, rfl⟩
  refine e_ (eff_box (T rfl) cs_) ?_ rfl
  rintro _ _ ⟨n5, rfl, rfl⟩
  refine y_ (yl_assign ev_c) (y_ (yl_assign ev_c) (jl_nil (q_then (j_seq (j_seq (j_region (y_ (yl_load (T rfl) Try.isAgg3 (by first | exact c_o)) ?_ rfl)))))) rfl) rfl
  refine y_ (yl_call (.cons (T rfl) (.cons ev_c (.cons ev_c .nil))) Try.call38 (fun H' hs => within_s _ _ _)) ?_ rfl
  first | refine jl_y (yl_not_d (T rfl)) rfl gd_n ?_ | refine jl_y (yl_not (T rfl)) rfl gd_n ?_
  refine jl_nil (q_then ?_)
  first | refine j_cond_d (at_f rfl) (fun c16 => ?_) (fun c16 => ?_) | refine j_cond (at_f rfl) (fun c16 => ?_) (fun c16 => ?_)
  · refine j_seq (j_region (y_ (yl_assign ev_c) (y_ (yl_assign ev_c) (jl_nil (q_then (j_ret (q_then_ret (q_ret rfl (.tmp (at_f rfl) (.tmp (at_f rfl) .nil)) ?_))))) rfl) rfl))
    exact ⟨_, ⟨.nil, [], 1, rfl, rfl, rfl, by unfold asgRes; rw [if_neg (by simpa using c16)]⟩, sbt⟩
  · refine j_skip (q_then (j_seq (j_region (e_ eff_makeMap ?_ rfl))))
    rintro _ _ ⟨n17, rfl, rfl⟩
    refine e_ (eff_alloc Try.zeroValue87 cs_) ?_ rfl
    rintro _ _ ⟨n8, rfl, rfl⟩
    first | refine jl_e (eff_sW (T rfl) (T rfl) Try.sizeOf87) rfl gd_n ?_ | refine jl_e (eff_s1 (T rfl) (T rfl) rfl Try.sizeOf87) rfl gd_n ?_
    rintro _ _ ⟨rfl, rfl⟩
    refine jl_nil (q_then (j_seq (j_region (y_ (yl_makeFunc (.cons (T rfl) (.cons (T rfl) (.cons (T rfl) .nil)))) (y_ (yl_assign (T rfl)) (jl_nil (q_then (j_seq (j_region (y_ (yl_assign ev_c) (jl_nil (q_then (j_seq (j_seq (j_region (y_ (yl_move (T rfl)) (y_ (yl_len (T rfl) Try.runUnderlying27) (y_ (yl_move ev_c) (jl_nil (q_then (j_block ?_))) rfl) rfl) rfl)))))) rfl))))) rfl) rfl))))
    refine j_loopC (X := Nat × PlanL × List (Way × Int) × Sl × List Int) (V := fun ⟨k, pl, ps, d, tg⟩ => [(21, .int .i64 (k : Nat)), (10, slV d tg.length)]) (C := [(3, _), (8, _), (9, _), (19, _), (20, _)]) (G := fun ⟨k, pl, ps, d, tg⟩ => slH d (tg.flatMap encI) 3 ++ ((n8, Cl [.map (some n17)] 87) :: (n17, mapO encK2 encHv pl) :: (n5, Cl [.int .i64 first] 3) :: (n3, Cl (encNm n) 26) :: H)) (φ := fun ⟨k, pl, ps, d, tg⟩ => k ≤ l.length ∧ Rep n.links pl ps ∧ Made n.links first ps ∧ tg = ps.reverse.map (·.2) ∧ ps.length = k ∧ asgF n.links first ps ((l.drop k).map (·.way)) = asgF n.links first [] (l.map (·.way)) ∧ SlOk d tg.length 1) (μ := fun ⟨k, pl, ps, d, tg⟩ => l.length - k) (x0 := (0, [], [], .nil, [])) ?_ ⟨at_f rfl, at_f rfl, at_f rfl, at_f rfl, at_f rfl, trivial⟩ ⟨(by first | exact at_f rfl | (refine at_e (at_f rfl) (vint ?_); omega) | (refine at_e (at_f rfl) ?_; simp; done)), (by first | exact at_f rfl | (refine at_e (at_f rfl) (vint ?_); omega) | (refine at_e (at_f rfl) ?_; simp; done)), trivial⟩ sb0 ?_
    · exact ⟨Nat.zero_le _, rep_nil _, .nil, rfl, rfl, rfl, rfl⟩
    rintro ⟨k, pl, ps, d, tg⟩ ⟨hk, hrep, hmd, htg, hpl, has, hok⟩
    have htl : tg.length = k := by rw [htg]; simp [hpl]
    refine j_seq (j_region (y_ (yl_lss (T rfl) (T rfl)) (jl_nil (q_then (j_seq ?_))) rfl))
    first | refine j_cond_d (at_f rfl) (fun c22 => ?_) (fun c22 => ?_) | refine j_cond (at_f rfl) (fun c22 => ?_) (fun c22 => ?_)
    · refine j_skip (q_then (j_seq (j_block (j_seq (j_region (y_ (yl_ixQ (T rfl) (T rfl) Try.runUnderlying27 Try.sizeOf48 (by omega) (by first | exact rfl | exact hw.arr.b (i := k) (by omega))) ?_ rfl))))))
      refine y_ (yl_loadA (T rfl) Try.isAgg48 Try.sizeOf48 rfl (by first | exact cs_o | exact cs_m (hw.arr.cs (i := k) (by omega)))) ?_ rfl
      refine e_ (eff_alloc Try.zeroValue48 cs_) ?_ rfl
      rintro _ _ ⟨n12, rfl, rfl⟩
      first | refine jl_e (eff_sW (T rfl) (T rfl) Try.sizeOf48) rfl gd_n ?_
      rintro _ _ ⟨rfl, rfl⟩
      refine jl_nil (q_then (j_seq (j_region (y_ (yl_move (T rfl)) (y_ (yl_loadA (T rfl) Try.isAgg48 Try.sizeOf48 rfl (by first | exact cs_o)) ?_ rfl) rfl))))
      refine y_ (yl_callV (T rfl) (.cons (T rfl) .nil) Try.call39 (fun H' hs => asg1_s n (hn.mono (List.Sublist.trans sbt hs)) (gd l k) ((hw.at (i := k) (by omega)).mono (List.Sublist.trans sbt hs)) (hg.at (by omega)).2 _ _ _ n17 first pl ps (Fnd.mono (H' := _) (by repeat (first | exact fnd_h | refine fnd_t ?_ | refine fnd_a ?_)) hs) (Fnd.mono (H' := _) (by repeat (first | exact fnd_h | refine fnd_t ?_ | refine fnd_a ?_)) hs) (Fnd.mono (H' := _) (by repeat (first | exact fnd_h | refine fnd_t ?_ | refine fnd_a ?_)) hs) (Fnd.mono (H' := _) (by repeat (first | exact fnd_h | refine fnd_t ?_ | refine fnd_a ?_)) hs) hrep hmd.cons' (hg.at (by omega)).1 (by omega) (by omega))) ?_ rfl
      refine y_ (yl_assign (T rfl)) (jl_nil (q_then (j_seq (j_seq (j_region (y_ (yl_move (T rfl)) (y_ (yl_gtr (T rfl) ev_c) (jl_nil (q_then ?_)) rfl) rfl)))))) rfl
      first | refine j_cond_d (at_f rfl) (fun c29 => ?_) (fun c29 => ?_) | refine j_cond (at_f rfl) (fun c29 => ?_) (fun c29 => ?_)
      · refine j_seq (j_region (y_ (yl_assign ev_c) (y_ (yl_assign ev_c) (jl_nil (q_then (j_ret (q_then_ret (q_block_ret (q_then_ret (q_loop_ret (q_block_ret (q_then_ret (q_ret rfl (.tmp (at_f rfl) (.tmp (at_f rfl) .nil)) ?_)))))))))) rfl) rfl))
        rw [drop_gd (l := l) (k := k) (by omega), List.map_cons, asgF, if_pos (by omega)] at has
        exact ⟨_, ⟨.nil, [], 12, rfl, rfl, rfl, by unfold asgRes; rw [if_pos (by simpa using c16), ← has]⟩, sbt⟩
      · refine j_skip (q_then (j_seq (j_region (y_ (yl_load (T rfl) Try.isAgg87 (by first | exact c_o)) ?_ rfl))))
        refine y_ (yl_loadA (T rfl) Try.isAgg26 Try.sizeOf26 rfl (by first | exact cs_o)) ?_ rfl
        refine y_ (yl_loadA (T rfl) Try.isAgg48 Try.sizeOf48 rfl (by first | exact cs_o)) ?_ rfl
        refine y_ (yl_move (T rfl)) (e_ (eff_call (.cons (T rfl) (.cons (T rfl) (.cons (T rfl) (.cons (T rfl) .nil)))) Try.call41 (padd_at (by repeat (first | exact Loc.h | apply Loc.t | apply Loc.a)) n (hn.mono) (gd l k) ((hw.at (i := k) (by omega)).mono)  (hg.at (by omega)).2 _)) ?_ rfl) rfl
        rintro _ _ ⟨_, rfl, rfl⟩
        refine jl_nil (q_then (j_region (y_ (yl_move (T rfl)) (y_ (yl_move (T rfl)) (e_ (eff_bslice (.cons (T rfl) .nil) (bs28_1_0 _)) ?_ rfl) rfl) rfl)))
        rintro _ _ ⟨n37, rfl, rfl⟩
        refine e_ (eff_app1 (tagF n.links first ps (gd l k).way) (A := [_, _]) (by' := 8) (T rfl) (T rfl) Try.runUnderlying28 Try.runUnderlying28 Try.sizeOf3 Try.typeInfo3 rfl Try.zeroValue3 rfl (fun _ => rfl) rfl hok (by decide) (by omega)) ?_ rfl
        rintro _ _ ⟨d', rfl, hok', rfl⟩
        refine y_ (yl_assign (T rfl)) (jl_nil (q_block (q_then (j_keep [(3, _), (8, _), (9, _), (10, _), (19, _), (20, _), (21, _)] ⟨at_f rfl, at_f rfl, at_f rfl, at_f rfl, at_f rfl, at_f rfl, at_f rfl, trivial⟩ (j_region (y_ (yl_add (T rfl) ev_c (by omega)) ?_ rfl)))))) rfl
        refine y_ (yl_move (T rfl)) (jl_nil ?_) rfl
        refine q_loopC ((k + 1, addL n.links pl (gd l k).way (tagF n.links first ps (gd l k).way), ((gd l k).way, tagF n.links first ps (gd l k).way) :: ps, d', tg ++ [tagF n.links first ps (gd l k).way])) ?_ ?_ ⟨(by first | exact at_f rfl | (refine at_e (at_f rfl) (vint ?_); omega) | (refine at_e (at_f rfl) ?_; simp; done)), (by first | exact at_f rfl | (refine at_e (at_f rfl) (vint ?_); omega) | (refine at_e (at_f rfl) ?_; simp; done)), trivial⟩ ⟨at_f rfl, at_f rfl, at_f rfl, at_f rfl, at_f rfl, trivial⟩ ?_
        · refine ⟨by omega, addL_rep hrep (hg.at (by omega)).1 _, hmd.cons (hg.at (by omega)).1, by rw [htg]; simp, by simp [hpl], ?_, by simpa using hok'⟩
          rw [← has, drop_gd (l := l) (k := k) (by omega), List.map_cons, asgF, if_neg (by omega)]
        · first | omega | (simp only []; omega)
        · exact sbt
    · refine j_exit (q_then_exit (q_loop_exit (q_block_hit (q_then (j_seq (j_region (y_ (yl_move (T rfl)) (y_ (yl_assign (T rfl)) (y_ (yl_assign ev_c) (jl_nil (q_then (j_ret (q_ret rfl (.tmp (at_f rfl) (.tmp (at_f rfl) .nil)) ?_)))) rfl) rfl) rfl)))))))
      rw [drop_end (l := l) (by omega), List.map_nil, asgF] at has
      exact ⟨_, ⟨d, tg, 0, rfl, hok, rfl, by unfold asgRes; rw [if_pos (by simpa using c16), ← has, htg]⟩, sbt⟩
end Go.Proofs.Ytdbffighngmibaa
