/-
  Walks of Right.
-/
import Derived.Test.YtdbffighngmibaaUb
namespace Go.Proofs.Ytdbffighngmibaa
open Go.RowKit
set_option linter.unusedVariables false
set_option linter.unusedSimpArgs false
theorem made_s {w0 : World} {H : List (Nat × Obj)} (n : Nm) (hn : NetM w0 H n) (q : Option Addr) (cap : Nat) (l : List Wm) (hw : WaysM w0 H q l) (hg : Good n.links l) (hl5 : l.length ≤ 100000) (q2 : Option Addr) (cap2 : Nat) (tg : List Int) (ht : IntArr w0 H q2 tg) (htl : tg.length ≤ 100000) (hel : tg.length = l.length) :
    FSpec Try.prog w0 45 #[.agg (encNm n).toArray, .slice q l.length cap, .slice q2 tg.length cap2] H (fun v H' => (madF n.links [] (l.map (·.way)) tg = true ∧ ∃ r pl, v = .tuple #[.map (some r), .bool true] ∧ H' = (r, mapO encK2 encHv pl) :: H ∧ Rep n.links pl ((l.map (·.way)).zip tg).reverse ∧ PlOk l l.length pl) ∨ (madF n.links [] (l.map (·.way)) tg = false ∧ v = .tuple #[.map none, .bool false] ∧ H' = H)) := by
  refine fn_spec Try.func45 rfl Try.ntmps45 rfl (j_seq (j_region (e_ (eff_box (T rfl) cs_) ?_ rfl)))
  rintro _ _ ⟨n3, rfl, rfl⟩
  refine y_ (yl_assign ev_c) (y_ (yl_assign ev_c) (jl_nil (q_then (j_seq (j_region (e_ eff_makeMap ?_ rfl))))) rfl) rfl
  rintro _ _ ⟨n11, rfl, rfl⟩
  refine y_ (yl_assign (T rfl)) (jl_nil (q_then (j_seq (j_seq (j_region (y_ (yl_move (T rfl)) (y_ (yl_len (T rfl) Try.runUnderlying27) (y_ (yl_move ev_c) (jl_nil (q_then (j_block ?_))) rfl) rfl) rfl)))))) rfl
  refine j_loopC (X := Nat × PlanL × List (Way × Int)) (V := fun ⟨k, pl, ps⟩ => [(14, .int .i64 (k : Nat))]) (C := [(2, _), (3, _), (8, _), (12, _), (13, _)]) (G := fun ⟨k, pl, ps⟩ => (n11, mapO encK2 encHv pl) :: (n3, Cl (encNm n) 26) :: H) (φ := fun ⟨k, pl, ps⟩ => k ≤ l.length ∧ PlOk l k pl ∧ Rep n.links pl ps ∧ ps = (((l.map (·.way)).zip tg).take k).reverse ∧ madF n.links ps ((l.drop k).map (·.way)) (tg.drop k) = madF n.links [] (l.map (·.way)) tg) (μ := fun ⟨k, pl, ps⟩ => l.length - k) (x0 := (0, [], [])) ?_ ⟨at_f rfl, at_f rfl, at_f rfl, at_f rfl, at_f rfl, trivial⟩ ⟨(by first | exact at_f rfl | (refine at_e (at_f rfl) (vint ?_); omega) | (refine at_e (at_f rfl) ?_; simp; done)), trivial⟩ sb0 ?_
  · exact ⟨Nat.zero_le _, plOk_nil _, rep_nil _, rfl, rfl⟩
  rintro ⟨k, pl, ps⟩ ⟨hk, hplk, hrep, hps, hma⟩
  refine j_seq (j_region (y_ (yl_lss (T rfl) (T rfl)) (jl_nil (q_then (j_seq ?_))) rfl))
  first | refine j_cond_d (at_f rfl) (fun c15 => ?_) (fun c15 => ?_) | refine j_cond (at_f rfl) (fun c15 => ?_) (fun c15 => ?_)
  · refine j_skip (q_then (j_seq (j_block (j_seq (j_region (y_ (yl_move (T rfl)) (y_ (yl_ixQ (T rfl) (T rfl) Try.runUnderlying27 Try.sizeOf48 (by omega) (by first | exact rfl | exact hw.arr.b (i := k) (by omega) | exact ht.b (i := k) (by omega))) ?_ rfl) rfl))))))
    refine y_ (yl_loadA (T rfl) Try.isAgg48 Try.sizeOf48 rfl (by first | exact cs_o | exact cs_m (hw.arr.cs (i := k) (by omega)) | exact cs_m (ht.f0 (i := k) (by omega) rfl))) ?_ rfl
    refine e_ (eff_alloc Try.zeroValue48 cs_) ?_ rfl
    rintro _ _ ⟨n10, rfl, rfl⟩
    refine y_ (yl_assign (T rfl)) ?_ rfl
    first | refine jl_e (eff_sW (T rfl) (T rfl) Try.sizeOf48) rfl gd_n ?_
    rintro _ _ ⟨rfl, rfl⟩
    refine jl_nil (q_then (j_seq (j_seq (j_any 9 [(0, true), (1, true), (2, true), (3, true), (4, true), (5, true), (6, true), (7, true), (8, true)] _ mixd (by kernel_rfl) sb0 ?_))))
    refine o_y rfl (yl_move (T rfl)) (o_y rfl (yl_loadA (T rfl) Try.isAgg26 Try.sizeOf26 rfl (by first | exact cs_o | exact cs_m (ht.f0 (i := k) (by omega) rfl))) ?_ rfl gd_n) rfl gd_n
    refine o_y rfl (yl_loadA (T rfl) Try.isAgg48 Try.sizeOf48 rfl (by first | exact cs_o | exact cs_m (ht.f0 (i := k) (by omega) rfl))) ?_ rfl gd_n
    refine o_y rfl (yl_move (T rfl)) (o_y rfl (yl_move (T rfl)) (o_y rfl (yl_ixQ (T rfl) (T rfl) Try.runUnderlying28 Try.sizeOf3 (by omega) (by first | exact rfl | exact hw.arr.b (i := k) (by omega) | exact ht.b (i := k) (by omega))) ?_ rfl gd_n) rfl gd_n) rfl gd_n
    refine o_y rfl (yl_load (T rfl) Try.isAgg3 (by first | exact c_o | exact c_m (ht.f0 (i := k) (by omega) rfl))) ?_ rfl gd_n
    refine o_y rfl (yl_call (.cons (T rfl) (.cons (T rfl) (.cons (T rfl) (.cons (T rfl) .nil)))) Try.call40 (fun H' hs => fits_s n (hn.mono (List.Sublist.trans sbt hs)) (gd l k) ((hw.at (i := k) (by omega)).mono (List.Sublist.trans sbt hs)) (hg.at (by omega)).2 _ pl (Fnd.mono (H' := _) (by repeat (first | exact fnd_h | refine fnd_t ?_ | refine fnd_a ?_)) hs) _)) ?_ rfl gd_n
    first | refine o_y rfl (yl_not_d (T rfl)) ?_ rfl gd_n | refine o_y rfl (yl_not (T rfl)) ?_ rfl gd_n
    refine jo_nil rfl (jl_nil (q_then ?_))
    first | refine j_cond_d (at_f rfl) (fun c27 => ?_) (fun c27 => ?_) | refine j_cond (at_f rfl) (fun c27 => ?_) (fun c27 => ?_)
    · refine j_seq (j_region (y_ (yl_assign ev_c) (y_ (yl_assign ev_c) (jl_nil (q_then (j_keep [(6, _), (7, _)] ⟨at_f rfl, at_f rfl, trivial⟩ (j_ret (q_then_ret (q_block_ret (q_then_ret (q_loop_ret (q_block_ret (q_then_ret (q_ret rfl (.tmp (at_f rfl) (.tmp (at_f rfl) .nil)) ?_))))))))))) rfl) rfl))
      rw [fitsL_eq hrep] at c27
      rw [drop_gd (l := l) (k := k) (by omega), drop_gd (l := tg) (k := k) (by omega), List.map_cons, madF] at hma
      simp at c27
      rw [c27] at hma
      exact ⟨_, .inr ⟨hma.symm, rfl, rfl⟩, sbt⟩
    · refine j_skip (q_then (j_any 7 [(0, true), (1, true), (2, true), (3, true), (4, true), (5, true), (6, true)] _ mixd (by kernel_rfl) sb0 ?_))
      refine o_y rfl (yl_move (T rfl)) (o_y rfl (yl_loadA (T rfl) Try.isAgg26 Try.sizeOf26 rfl (by first | exact cs_o | exact cs_m (ht.f0 (i := k) (by omega) rfl))) ?_ rfl gd_n) rfl gd_n
      refine o_y rfl (yl_loadA (T rfl) Try.isAgg48 Try.sizeOf48 rfl (by first | exact cs_o | exact cs_m (ht.f0 (i := k) (by omega) rfl))) ?_ rfl gd_n
      refine o_y rfl (yl_move (T rfl)) (o_y rfl (yl_move (T rfl)) (o_y rfl (yl_ixQ (T rfl) (T rfl) Try.runUnderlying28 Try.sizeOf3 (by omega) (by first | exact rfl | exact hw.arr.b (i := k) (by omega) | exact ht.b (i := k) (by omega))) ?_ rfl gd_n) rfl gd_n) rfl gd_n
      refine o_y rfl (yl_load (T rfl) Try.isAgg3 (by first | exact c_o | exact c_m (ht.f0 (i := k) (by omega) rfl))) ?_ rfl gd_n
      refine jo_nil rfl (e_ (eff_call (.cons (T rfl) (.cons (T rfl) (.cons (T rfl) (.cons (T rfl) .nil)))) Try.call41 (padd_at (by repeat (first | exact Loc.h | apply Loc.t | apply Loc.a)) n (hn.mono) (gd l k) ((hw.at (i := k) (by omega)).mono)   (hg.at (by omega)).2 _)) ?_ rfl)
      rintro _ _ ⟨_, rfl, rfl⟩
      refine jl_nil (q_block (q_then (j_keep [(2, _), (3, _), (8, _), (12, _), (13, _), (14, _)] ⟨at_f rfl, at_f rfl, at_f rfl, at_f rfl, at_f rfl, at_f rfl, trivial⟩ (j_region (y_ (yl_add (T rfl) ev_c (by omega)) ?_ rfl)))))
      refine y_ (yl_move (T rfl)) (jl_nil ?_) rfl
      refine q_loopC ((k + 1, addL n.links pl (gd l k).way (gd tg k), ((gd l k).way, gd tg k) :: ps)) ?_ ?_ ⟨(by first | exact at_f rfl | (refine at_e (at_f rfl) (vint ?_); omega) | (refine at_e (at_f rfl) ?_; simp; done)), trivial⟩ ⟨at_f rfl, at_f rfl, at_f rfl, at_f rfl, at_f rfl, trivial⟩ ?_
      · rw [fitsL_eq hrep] at c27
        refine ⟨by omega, hplk.add _ (gd_mem (by omega)) _, addL_rep hrep (hg.at (by omega)).1 _, by rw [hps, zip_step (by omega) (by omega)], ?_⟩
        rw [drop_gd (l := l) (k := k) (by omega), drop_gd (l := tg) (k := k) (by omega), List.map_cons, madF] at hma
        rw [← hma]
        simp at c27
        rw [c27]; rfl
      · first | omega | (simp only []; omega)
      · exact sbt
  · refine j_exit (q_then_exit (q_loop_exit (q_block_hit (q_then (j_seq (j_region (y_ (yl_move (T rfl)) (y_ (yl_assign (T rfl)) (y_ (yl_assign ev_c) (jl_nil (q_then (j_ret (q_ret rfl (.tmp (at_f rfl) (.tmp (at_f rfl) .nil)) ?_)))) rfl) rfl) rfl)))))))
    rw [drop_end (l := l) (by omega), List.map_nil] at hma
    rw [List.take_of_length_le (by simp; omega)] at hps
    exact ⟨_, .inl ⟨by rw [← hma]; rfl, n11, pl, rfl, rfl, hps ▸ hrep, by rw [show l.length = k by omega]; exact hplk⟩, sbt⟩
theorem right1_s {w0 : World} {H : List (Nat × Obj)} (t : Int) :
    FSpec Try.prog w0 44 #[.int .i64 t] H (Still (.bool (decide ¬ (1 ≤ t ∧ t ≤ 65535))) H) := by
  refine fn_spec Try.func44 rfl Try.ntmps44 rfl (j_seq (j_region (y_ (yl_assign ev_c) (jl_nil (q_then (j_seq (j_region (y_ (yl_move (T rfl)) (y_ (yl_call (.cons (T rfl) (.cons ev_c (.cons ev_c .nil))) Try.call38 (fun H' hs => within_s _ _ _)) ?_ rfl) rfl))))) rfl)))
  first | refine jl_y (yl_not_d (T rfl)) rfl gd_n ?_ | refine jl_y (yl_not (T rfl)) rfl gd_n ?_
  refine y_ (yl_assign (T rfl)) (jl_nil (q_then (j_ret (q_ret rfl (.tmp (at_f rfl) .nil) ?_)))) rfl
  exact ⟨_, ⟨rfl, rfl⟩, sbt⟩
theorem idx_s {w0 : World} {H : List (Nat × Obj)} (q2 : Option Addr) (cap2 : Nat) (tg : List Int) (ht : IntArr w0 H q2 tg) (htl : tg.length ≤ 100000) :
    FSpec Try.prog w0 67 #[.slice q2 tg.length cap2, .func (.func 44) #[] #[]] H (fun v H' => (∃ i : Int, v = .int .i64 i ∧ (0 ≤ i ↔ ¬ ∀ t ∈ tg, 1 ≤ t ∧ t ≤ 65535)) ∧ H' = H) := by
  refine fn_spec Try.func67 rfl Try.ntmps67 rfl (j_seq (j_region (y_ (yl_assign ev_c) (jl_nil (q_then (j_seq (j_seq (j_region (y_ (yl_move (T rfl)) (y_ (yl_len (T rfl) Try.runUnderlying28) (y_ (yl_move ev_c) (jl_nil (q_then (j_block ?_))) rfl) rfl) rfl)))))) rfl)))
  refine j_loopH (X := Nat) (V := fun k => [(8, .int .i64 (k : Nat))]) (C := [(0, _), (1, _), (7, _)]) (φ := fun k => k ≤ tg.length ∧ ∀ i, i < k → 1 ≤ gd tg i ∧ gd tg i ≤ 65535) (μ := fun k => tg.length - k) (x0 := 0) ?_ ⟨at_f rfl, at_f rfl, at_f rfl, trivial⟩ ⟨(by first | exact at_f rfl | (refine at_e (at_f rfl) (vint ?_); omega) | (refine at_e (at_f rfl) ?_; simp; done)), trivial⟩ ?_
  · exact ⟨Nat.zero_le _, fun i hi => by omega⟩
  rintro k ⟨hk, hall⟩
  refine j_seq (j_region (y_ (yl_lss (T rfl) (T rfl)) (jl_nil (q_then (j_seq ?_))) rfl))
  first | refine j_cond_d (at_f rfl) (fun c9 => ?_) (fun c9 => ?_) | refine j_cond (at_f rfl) (fun c9 => ?_) (fun c9 => ?_)
  · refine j_skip (q_then (j_seq (j_block (j_seq (j_region (y_ (yl_move (T rfl)) (y_ (yl_assign (T rfl)) (jl_nil (q_then (j_seq (j_region (y_ (yl_move (T rfl)) (y_ (yl_move (T rfl)) (y_ (yl_move (T rfl)) (y_ (yl_ixQ (T rfl) (T rfl) Try.runUnderlying28 Try.sizeOf3 (by omega) (by first | exact rfl | exact ht.b (i := k) (by omega))) ?_ rfl) rfl) rfl) rfl))))) rfl) rfl))))))
    refine y_ (yl_load (T rfl) Try.isAgg3 (by first | exact c_o | exact c_m (ht.f0 (i := k) (by omega) rfl))) ?_ rfl
    refine y_ (yl_callV (T rfl) (.cons (T rfl) .nil) Try.call44 (fun H' hs => right1_s _)) (jl_nil (q_then ?_)) rfl
    first | refine j_cond_d (at_f rfl) (fun c16 => ?_) (fun c16 => ?_) | refine j_cond (at_f rfl) (fun c16 => ?_) (fun c16 => ?_)
    · refine j_seq (j_region (y_ (yl_move (T rfl)) (y_ (yl_assign (T rfl)) (jl_nil (q_then (j_ret (q_block_ret (q_then_ret (q_loop_ret (q_block_ret (q_then_ret (q_ret rfl (.tmp (at_f rfl) .nil) ?_))))))))) rfl) rfl))
      exact ⟨_, ⟨⟨_, rfl, ⟨fun _ h => c16 (h _ (gd_mem (by omega))), fun _ => by omega⟩⟩, rfl⟩, sbt⟩
    · refine j_skip (q_block (q_then (j_region (y_ (yl_add (T rfl) ev_c (by omega)) ?_ rfl))))
      refine y_ (yl_move (T rfl)) (jl_nil ?_) rfl
      refine q_loopC (k + 1) ?_ ?_ ⟨(by first | exact at_f rfl | (refine at_e (at_f rfl) (vint ?_); omega) | (refine at_e (at_f rfl) ?_; simp; done)), trivial⟩ ⟨at_f rfl, at_f rfl, at_f rfl, trivial⟩ ?_
      · refine ⟨by omega, fun i hi => ?_⟩
        by_cases e : i = k
        · subst e; exact Classical.not_not.1 c16
        · exact hall i (by omega)
      · first | omega | (simp only []; omega)
      · exact sbt
  · refine j_exit (q_then_exit (q_loop_exit (q_block_hit (q_then (j_seq (j_region (y_ (yl_assign ev_c) (jl_nil (q_then (j_ret (q_ret rfl (.tmp (at_f rfl) .nil) ?_)))) rfl)))))))
    exact ⟨_, ⟨⟨_, rfl, ⟨fun h => by omega, fun h => (h (fun t hh => by obtain ⟨i, hi, rfl⟩ := List.getElem_of_mem hh; rw [← gd_getElem hi]; exact hall i (by omega))).elim⟩⟩, rfl⟩, sbt⟩
theorem cont_s {w0 : World} {H : List (Nat × Obj)} (q2 : Option Addr) (cap2 : Nat) (tg : List Int) (ht : IntArr w0 H q2 tg) (htl : tg.length ≤ 100000) :
    FSpec Try.prog w0 43 #[.slice q2 tg.length cap2, .func (.func 44) #[] #[]] H (Still (.bool (decide ¬ ∀ t ∈ tg, 1 ≤ t ∧ t ≤ 65535)) H) := by
  refine fn_spec Try.func43 rfl Try.ntmps43 rfl (j_seq (j_region (y_ (yl_assign ev_c) (jl_nil (q_then (j_seq (j_region (y_ (yl_move (T rfl)) (y_ (yl_move (T rfl)) (e_ (eff_call (.cons (T rfl) (.cons (T rfl) .nil)) Try.call67 (idx_s _ _ _ ht htl)) ?_ rfl) rfl) rfl))))) rfl)))
  rintro _ _ ⟨⟨i, rfl, hi⟩, rfl⟩
  refine y_ (yl_geq (T rfl) ev_c) (y_ (yl_assign (T rfl)) (jl_nil (q_then (j_ret (q_ret rfl (.tmp (at_f rfl) .nil) ?_)))) rfl) rfl
  exact ⟨_, ⟨vbool (decide_eq_decide.2 hi), rfl⟩, sbt⟩
theorem right_p {w0 : World} {H : List (Nat × Obj)} (n : Nm) (hn : NetM w0 H n) (q : Option Addr) (cap : Nat) (l : List Wm) (hw : WaysM w0 H q l) (hg : Good n.links l) (hl5 : l.length ≤ 100000) (q2 : Option Addr) (cap2 : Nat) (tg : List Int) (ht : IntArr w0 H q2 tg) (htl : tg.length ≤ 100000) :
    FSpec Try.prog w0 15 #[.agg (encNm n).toArray, .slice q l.length cap, .slice q2 tg.length cap2] H (Still (.bool (rgtF n.links [] (l.map (·.way)) tg)) H) := by
  refine fn_spec Try.func15 rfl Try.ntmps15 rfl (j_seq (j_region (e_ (eff_box (T rfl) cs_) ?_ rfl)))
  rintro _ _ ⟨n3, rfl, rfl⟩
  refine y_ (yl_assign ev_c) (jl_nil (q_then (j_seq (j_seq (j_region (y_ (yl_move (T rfl)) (y_ (yl_len (T rfl) Try.runUnderlying28) (y_ (yl_move (T rfl)) (y_ (yl_len (T rfl) Try.runUnderlying27) (y_ (yl_neq (T rfl) (T rfl)) (y_ (yl_move (T rfl)) ?_ rfl) rfl) rfl) rfl) rfl) rfl)))))) rfl
  first | refine jl_if_d (s := 14) (at_f rfl) (fun c14 => ?_) (fun c14 => ?_) | refine jl_if (s := 14) (at_f rfl) (fun c14 => ?_) (fun c14 => ?_)
  · refine n_tf (n_tf (y_ (yl_pick_t (T rfl) ev_c) (jl_nil (q_then (j_cond_t (at_f rfl) (j_seq (j_region (y_ (yl_assign ev_c) (jl_nil (q_then (j_ret (q_then_ret (q_ret rfl (.tmp (at_f rfl) .nil) ?_))))) rfl)))))) rfl) rfl rfl rfl rfl) rfl rfl rfl rfl
    exact ⟨_, ⟨by rw [rgtF_eq, decide_eq_false (by simp; omega)]; rfl, rfl⟩, sbt⟩
  · refine jl_y (yl_move (T rfl)) rfl (gd_y rfl rfl (at_f rfl)) (jl_y (yl_call (.cons (T rfl) (.cons ev_f .nil)) Try.call43 (fun H' hs => cont_s _ _ _ (ht.m (List.Sublist.trans sbt hs)) htl)) rfl (gd_y rfl rfl (at_f rfl)) (y_ (yl_pick_f (T rfl) (T rfl)) (jl_nil (q_then ?_)) rfl))
    first | refine j_cond_d (at_f rfl) (fun c17 => ?_) (fun c17 => ?_) | refine j_cond (at_f rfl) (fun c17 => ?_) (fun c17 => ?_)
    · refine j_seq (j_region (y_ (yl_assign ev_c) (jl_nil (q_then (j_ret (q_then_ret (q_ret rfl (.tmp (at_f rfl) .nil) ?_))))) rfl))
      exact ⟨_, ⟨by rw [rgtF_eq, show (tg.all fun t => decide (1 ≤ t ∧ t ≤ 65535)) = false from by rw [Bool.eq_false_iff]; simpa using c17]; simp [resOf], rfl⟩, sbt⟩
    · refine j_skip (q_then (j_seq (j_region (y_ (yl_loadA (T rfl) Try.isAgg26 Try.sizeOf26 rfl (by first | exact cs_o)) ?_ rfl))))
      refine y_ (yl_move (T rfl)) (y_ (yl_move (T rfl)) (e_ (eff_call (.cons (T rfl) (.cons (T rfl) (.cons (T rfl) .nil))) Try.call45 (made_s n hn.mono _ _ l hw.mono hg hl5 _ _ tg ht.m htl (by omega))) ?_ rfl) rfl) rfl
      rintro _ _ (⟨hmd, r, pl, rfl, rfl, hrep⟩ | ⟨hmd, rfl, rfl⟩)
      · refine y_ (yl_move (T rfl)) (y_ (yl_extract (T rfl) rfl) (y_ (yl_extract (T rfl) rfl) (y_ (yl_assign (T rfl)) (y_ (yl_assign (T rfl)) (jl_nil (q_then (j_seq (j_region (y_ (yl_move (T rfl)) (y_ (yl_assign (T rfl)) (jl_nil (q_then (j_ret (q_ret rfl (.tmp (at_f rfl) .nil) ?_)))) rfl) rfl))))) rfl) rfl) rfl) rfl) rfl
        exact ⟨_, ⟨by rw [rgtF_eq, hmd, decide_eq_true (by simp; omega), show (tg.all fun t => decide (1 ≤ t ∧ t ≤ 65535)) = true from by simpa using c17]; rfl, rfl⟩, sbt⟩
      · refine y_ (yl_move (T rfl)) (y_ (yl_extract (T rfl) rfl) (y_ (yl_extract (T rfl) rfl) (y_ (yl_assign (T rfl)) (y_ (yl_assign (T rfl)) (jl_nil (q_then (j_seq (j_region (y_ (yl_move (T rfl)) (y_ (yl_assign (T rfl)) (jl_nil (q_then (j_ret (q_ret rfl (.tmp (at_f rfl) .nil) ?_)))) rfl) rfl))))) rfl) rfl) rfl) rfl) rfl
        exact ⟨_, ⟨by rw [rgtF_eq, hmd, decide_eq_true (by simp; omega), show (tg.all fun t => decide (1 ≤ t ∧ t ≤ 65535)) = true from by simpa using c17]; rfl, rfl⟩, sbt⟩
end Go.Proofs.Ytdbffighngmibaa
