/-
  Walk of the law on tags.
-/
import Derived.Test.YtdbffighngmibaaWa
namespace Go.Proofs.Ytdbffighngmibaa
open Go.RowKit
set_option linter.unusedVariables false
set_option linter.unusedSimpArgs false
theorem rgt_len {ls : List Lnk} {l : List Wm} {tg : List Int} (h : rgtF ls [] (l.map (·.way)) tg = true) : tg.length = l.length := by
  rw [rgtF_eq] at h; simp at h; exact h.1.1
theorem Rt.gw {n : Nm} {steps : Int} {l : List Wm} {most : Int} (h : Rt n steps l most) : Gw n l := net_gw h.net h.ways h.few
theorem asg_len {ls : List Lnk} {first : Int} {ws : List Way} : (asgRes ls first ws).1.length ≤ ws.length := by
  unfold asgRes
  split
  · cases h : asgF ls first [] ws with
    | none => simp
    | some ps =>
      have h1 := congrArg List.length (asgF_ways h)
      simp at h1
      simp; omega
  · simp
theorem assigns_s {w0 : World} {H : List (Nat × Obj)} (n : Nm) (hn : NetM w0 H n) (steps : Int) (hst : -9223372036854775808 ≤ steps ∧ steps ≤ 9223372036854775807) (q : Option Addr) (cap : Nat) (l : List Wm) (hw : WaysM w0 H q l) (first : Int) (q2 : Option Addr) (cap2 : Nat) (tg : List Int) (ht : IntArr w0 H q2 tg) (htc : tg.length ≤ cap2) (htm : tg.length ≤ 9223372036854775807) :
    FSpec Try.prog w0 3 #[.agg (encNm n).toArray, .int .i64 steps, .slice q l.length cap, .int .i64 first, .slice q2 tg.length cap2] H (Still (.bool true) H) := by
  refine fn_spec Try.func3 rfl Try.ntmps3 rfl (j_seq (j_region (e_ (eff_box (T rfl) cs_) ?_ rfl)))
  rintro _ _ ⟨n5, rfl, rfl⟩
  refine y_ (yl_assign ev_c) (jl_nil (q_then (j_seq (j_region (y_ (yl_call .nil Try.call9 (fun H' hs => sanity_s)) (y_ (yl_assign (T rfl)) (jl_nil (q_then (j_seq (j_seq (j_region (y_ (yl_loadA (T rfl) Try.isAgg26 Try.sizeOf26 rfl (by first | exact cs_o)) ?_ rfl)))))) rfl) rfl))))) rfl
  refine y_ (yl_move (T rfl)) (y_ (yl_move (T rfl)) (e_ (eff_call (.cons (T rfl) (.cons (T rfl) (.cons (T rfl) (.cons ev_c .nil)))) Try.call10 (right_s n hn.mono _ _ _ _ hw.mono _)) ?_ rfl) rfl) rfl
  rintro _ _ ⟨⟨tw, rfl, hrt⟩, rfl⟩
  first | refine jl_y (yl_not_d (T rfl)) rfl gd_n ?_ | refine jl_y (yl_not (T rfl)) rfl gd_n ?_
  refine y_ (yl_move (T rfl)) ?_ rfl
  first | refine jl_if_d (s := 30) (at_f rfl) (fun c30 => ?_) (fun c30 => ?_) | refine jl_if (s := 30) (at_f rfl) (fun c30 => ?_) (fun c30 => ?_)
  · refine n_tf (n_tf (n_tf (y_ (yl_pick_t (T rfl) ev_c) (jl_nil (q_then (j_cond_t (at_f rfl) (j_seq (j_region (y_ (yl_move (T rfl)) (y_ (yl_assign (T rfl)) (jl_nil (q_then (j_ret (q_then_ret (q_ret rfl (.tmp (at_f rfl) .nil) ?_))))) rfl) rfl)))))) rfl) rfl rfl rfl rfl) rfl rfl rfl rfl) rfl rfl rfl rfl
    first | exact ⟨_, ⟨vbool (decide_eq_true rfl), rfl⟩, sbt⟩ | exact ⟨_, ⟨rfl, rfl⟩, sbt⟩ | (exfalso; first | exact absurd rfl c59 | exact absurd rfl c64 | exact absurd rfl c71 | exact absurd rfl c97 | exact absurd rfl c102 | omega)
  · refine jl_y (yl_move (T rfl)) rfl (gd_y rfl rfl (at_f rfl)) (jl_y (yl_len (T rfl) Try.runUnderlying28) rfl (gd_y rfl rfl (at_f rfl)) (jl_y (yl_gtr (T rfl) ev_c) rfl (gd_y rfl rfl (at_f rfl)) (y_ (yl_pick_f (T rfl) (T rfl)) (jl_nil (q_then ?_)) rfl)))
    first | refine j_cond_d (at_f rfl) (fun c34 => ?_) (fun c34 => ?_) | refine j_cond (at_f rfl) (fun c34 => ?_) (fun c34 => ?_)
    · refine j_seq (j_region (y_ (yl_move (T rfl)) (y_ (yl_assign (T rfl)) (jl_nil (q_then (j_ret (q_then_ret (q_ret rfl (.tmp (at_f rfl) .nil) ?_))))) rfl) rfl))
      first | exact ⟨_, ⟨vbool (decide_eq_true rfl), rfl⟩, sbt⟩ | exact ⟨_, ⟨rfl, rfl⟩, sbt⟩ | (exfalso; first | exact absurd rfl c59 | exact absurd rfl c64 | exact absurd rfl c71 | exact absurd rfl c97 | exact absurd rfl c102 | omega)
    · obtain ⟨hnn, hnl, hne, hfew, hmost, hnet, hways⟩ := hrt (by simpa using c30)
      have hgw := net_gw hnet hways hfew
      refine j_skip (q_then (j_seq (j_region (y_ (yl_loadA (T rfl) Try.isAgg26 Try.sizeOf26 rfl (by first | exact cs_o)) ?_ rfl))))
      refine y_ (yl_move (T rfl)) (y_ (yl_move (T rfl)) (e_ (eff_call (.cons (T rfl) (.cons (T rfl) (.cons (T rfl) .nil))) Try.call11 (assign_s n hn.mono _ _ l hw.mono hgw.good (by omega) first)) ?_ rfl) rfl) rfl
      rintro _ _ ⟨da, ta, ea, rfl, hoka, rfl, hra⟩
      refine y_ (yl_move (T rfl)) (y_ (yl_extract (T rfl) rfl) (y_ (yl_extract (T rfl) rfl) (y_ (yl_assign (T rfl)) (y_ (yl_assign (T rfl)) (jl_nil (q_then (j_seq (j_region (y_ (yl_loadA (T rfl) Try.isAgg26 Try.sizeOf26 rfl (by first | exact cs_o)) ?_ rfl))))) rfl) rfl) rfl) rfl) rfl
      refine y_ (yl_move (T rfl)) (y_ (yl_move (T rfl)) (e_ (eff_call (.cons (T rfl) (.cons (T rfl) (.cons (T rfl) .nil))) Try.call12 (rAssign_s n hn.mono _ _ l hw.mono hgw (by omega) first)) ?_ rfl) rfl) rfl
      rintro _ _ ⟨db, tb, eb, rfl, hokb, rfl, hrb⟩
      obtain ⟨rfl, rfl⟩ := Prod.mk.inj (hra.symm.trans hrb)
      have hlt : ta.length ≤ 100000 := by
        have h1 := asg_len (ls := n.links) (first := first) (ws := l.map (·.way))
        rw [hra] at h1
        simp at h1; omega
      refine y_ (yl_move (T rfl)) (y_ (yl_extract (T rfl) rfl) (y_ (yl_extract (T rfl) rfl) (y_ (yl_assign (T rfl)) (y_ (yl_assign (T rfl)) (jl_nil (q_then (j_keep [(2, _), (4, _), (5, _), (11, _), (12, _), (13, _), (14, _), (15, _)] ⟨at_f rfl, at_f rfl, at_f rfl, at_f rfl, at_f rfl, at_f rfl, at_f rfl, at_f rfl, trivial⟩ (j_seq (j_region (y_ (yl_move (T rfl)) (y_ (yl_move (T rfl)) (y_ (yl_call (.cons (T rfl) (.cons (T rfl) .nil)) Try.call13 (fun H' hs => sameInts_s _ _ _ _ ta ta ((sl_arr (w0 := w0) (enc := encI) (sz := 1) (e := 3) (X := H) (fun _ => rfl) hoka).mono (List.Sublist.trans sbt hs)) ((sl_arr (w0 := w0) (enc := encI) (sz := 1) (e := 3) (X := H) (fun _ => rfl) hokb).mono (List.Sublist.trans sbt hs)) (by omega))) ?_ rfl) rfl) rfl)))))) rfl) rfl) rfl) rfl) rfl
      refine y_ (yl_assign (T rfl)) (jl_nil (q_then (j_seq (j_region (y_ (yl_loadA (T rfl) Try.isAgg26 Try.sizeOf26 rfl (by first | exact cs_o)) ?_ rfl))))) rfl
      refine y_ (yl_move (T rfl)) (y_ (yl_move (T rfl)) (y_ (yl_call (.cons (T rfl) (.cons (T rfl) (.cons (T rfl) .nil))) Try.call14 (fun H' hs => rRight_s n (hn.mono (List.Sublist.trans sbt hs)) _ _ l (hw.mono (List.Sublist.trans sbt hs)) hgw (by omega) _ _ tg (ht.m (List.Sublist.trans sbt hs)) htc (by omega))) ?_ rfl) rfl) rfl
      refine y_ (yl_assign (T rfl)) (jl_nil (q_then (j_seq (j_seq (j_region (y_ (yl_move (T rfl)) ?_ rfl)))))) rfl
      first | refine jl_y (yl_not_d (T rfl)) rfl gd_n ?_ | refine jl_y (yl_not (T rfl)) rfl gd_n ?_
      refine y_ (yl_move (T rfl)) ?_ rfl
      first | refine jl_if_d (s := 59) (at_f rfl) (fun c59 => ?_) (fun c59 => ?_) | refine jl_if (s := 59) (at_f rfl) (fun c59 => ?_) (fun c59 => ?_)
      · refine n_tf (n_tf (n_tf (y_ (yl_pick_t (T rfl) ev_c) (y_ (yl_move (T rfl)) (n_tf (n_tf (n_tf (n_tf (n_tf (n_tf (y_ (yl_pick_t (T rfl) ev_c) (jl_nil (q_then (j_keep [(2, _), (4, _), (5, _), (11, _), (17, _), (71, _)] ⟨at_f rfl, at_f rfl, at_f rfl, at_f rfl, at_f rfl, at_f rfl, trivial⟩ (j_cond_t (at_f rfl) (j_seq (j_region (y_ (yl_assign ev_c) (jl_nil (q_then (j_ret (q_then_ret (q_ret rfl (.tmp (at_f rfl) .nil) ?_))))) rfl))))))) rfl) rfl rfl rfl rfl) rfl rfl rfl rfl) rfl rfl rfl rfl) rfl rfl rfl rfl) rfl rfl rfl rfl) rfl rfl rfl rfl) rfl) rfl) rfl rfl rfl rfl) rfl rfl rfl rfl) rfl rfl rfl rfl
        first | exact ⟨_, ⟨vbool (decide_eq_true rfl), rfl⟩, sbt⟩ | exact ⟨_, ⟨rfl, rfl⟩, sbt⟩ | (exfalso; first | exact absurd rfl c59 | exact absurd rfl c64 | exact absurd rfl c71 | exact absurd rfl c97 | exact absurd rfl c102 | omega)
      · refine jl_y (yl_move (T rfl)) rfl (gd_y rfl rfl (at_f rfl)) (jl_y (yl_move (T rfl)) rfl (gd_y rfl rfl (at_f rfl)) (jl_y (yl_neq (T rfl) (T rfl)) rfl (gd_y rfl rfl (at_f rfl)) (y_ (yl_pick_f (T rfl) (T rfl)) (y_ (yl_move (T rfl)) ?_ rfl) rfl)))
        first | refine jl_if_d (s := 64) (at_f rfl) (fun c64 => ?_) (fun c64 => ?_) | refine jl_if (s := 64) (at_f rfl) (fun c64 => ?_) (fun c64 => ?_)
        · refine n_tf (n_tf (n_tf (n_tf (n_tf (n_tf (y_ (yl_pick_t (T rfl) ev_c) (jl_nil (q_then (j_keep [(2, _), (4, _), (5, _), (11, _), (17, _), (71, _)] ⟨at_f rfl, at_f rfl, at_f rfl, at_f rfl, at_f rfl, at_f rfl, trivial⟩ (j_cond_t (at_f rfl) (j_seq (j_region (y_ (yl_assign ev_c) (jl_nil (q_then (j_ret (q_then_ret (q_ret rfl (.tmp (at_f rfl) .nil) ?_))))) rfl))))))) rfl) rfl rfl rfl rfl) rfl rfl rfl rfl) rfl rfl rfl rfl) rfl rfl rfl rfl) rfl rfl rfl rfl) rfl rfl rfl rfl
          first | exact ⟨_, ⟨vbool (decide_eq_true rfl), rfl⟩, sbt⟩ | exact ⟨_, ⟨rfl, rfl⟩, sbt⟩ | (exfalso; first | exact absurd rfl c59 | exact absurd rfl c64 | exact absurd rfl c71 | exact absurd rfl c97 | exact absurd rfl c102 | omega)
        · refine jl_y (yl_loadA (T rfl) Try.isAgg26 Try.sizeOf26 rfl (by first | exact cs_o)) rfl (gd_y rfl rfl (at_f rfl)) ?_
          refine jl_y (yl_move (T rfl)) rfl (gd_y rfl rfl (at_f rfl)) (jl_y (yl_move (T rfl)) rfl (gd_y rfl rfl (at_f rfl)) (jl_y (yl_call (.cons (T rfl) (.cons (T rfl) (.cons (T rfl) .nil))) Try.call15 (fun H' hs => right_p n (hn.mono (List.Sublist.trans sbt hs)) _ _ l (hw.mono (List.Sublist.trans sbt hs)) hgw.good (by omega) _ _ tg (ht.m (List.Sublist.trans sbt hs)) (by omega))) rfl (gd_y rfl rfl (at_f rfl)) ?_))
          refine jl_y (yl_move (T rfl)) rfl (gd_y rfl rfl (at_f rfl)) (jl_y (yl_neB (T rfl) (T rfl) Try.runUnderlying4) rfl (gd_y rfl rfl (at_f rfl)) (y_ (yl_pick_f (T rfl) (T rfl)) (jl_nil (q_then (j_keep [(2, _), (4, _), (5, _), (11, _), (17, _), (71, _)] ⟨at_f rfl, at_f rfl, at_f rfl, at_f rfl, at_f rfl, at_f rfl, trivial⟩ ?_))) rfl))
          first | refine j_cond_d (at_f rfl) (fun c71 => ?_) (fun c71 => ?_) | refine j_cond (at_f rfl) (fun c71 => ?_) (fun c71 => ?_)
          · refine j_seq (j_region (y_ (yl_assign ev_c) (jl_nil (q_then (j_ret (q_then_ret (q_ret rfl (.tmp (at_f rfl) .nil) ?_))))) rfl))
            first | exact ⟨_, ⟨vbool (decide_eq_true rfl), rfl⟩, sbt⟩ | exact ⟨_, ⟨rfl, rfl⟩, sbt⟩ | (exfalso; first | exact absurd rfl c59 | exact absurd rfl c64 | exact absurd rfl c71 | exact absurd rfl c97 | exact absurd rfl c102 | omega)
          · refine j_skip (q_then (j_seq (j_seq (j_region (y_ (yl_move (T rfl)) ?_ rfl)))))
            first | refine jl_y (yl_not_d (T rfl)) rfl gd_n ?_ | refine jl_y (yl_not (T rfl)) rfl gd_n ?_
            refine jl_nil (q_then ?_)
            first | refine j_cond_d (at_f rfl) (fun c73 => ?_) (fun c73 => ?_) | refine j_cond (at_f rfl) (fun c73 => ?_) (fun c73 => ?_)
            · refine j_seq (j_region (y_ (yl_move (T rfl)) (y_ (yl_assign (T rfl)) (jl_nil (q_then (j_ret (q_then_ret (q_ret rfl (.tmp (at_f rfl) .nil) ?_))))) rfl) rfl))
              first | exact ⟨_, ⟨vbool (decide_eq_true rfl), rfl⟩, sbt⟩ | exact ⟨_, ⟨rfl, rfl⟩, sbt⟩ | (exfalso; first | exact absurd rfl c59 | exact absurd rfl c64 | exact absurd rfl c71 | exact absurd rfl c97 | exact absurd rfl c102 | omega)
            · have hrg : rgtF n.links [] (l.map (·.way)) tg = true := by simpa using c73
              refine j_skip (q_then (j_seq (j_region (y_ (yl_loadA (T rfl) Try.isAgg26 Try.sizeOf26 rfl (by first | exact cs_o)) ?_ rfl))))
              refine y_ (yl_move (T rfl)) (y_ (yl_move (T rfl)) (y_ (yl_call (.cons (T rfl) (.cons (T rfl) (.cons (T rfl) .nil))) Try.call16 (fun H' hs => merge_s n (hn.mono (List.Sublist.trans sbt hs)) _ _ l (hw.mono (List.Sublist.trans sbt hs)) hgw.good (by omega) _ _ tg (ht.m (List.Sublist.trans sbt hs)) (by omega) hgw (rgt_len hrg) hrg)) ?_ rfl) rfl) rfl
              refine y_ (yl_move (T rfl)) (y_ (yl_extract (T rfl) rfl) (y_ (yl_extract (T rfl) rfl) (y_ (yl_extract (T rfl) rfl) (y_ (yl_assign (T rfl)) (y_ (yl_assign (T rfl)) (y_ (yl_assign (T rfl)) (jl_nil (q_then (j_seq (j_region (y_ (yl_loadA (T rfl) Try.isAgg26 Try.sizeOf26 rfl (by first | exact cs_o)) ?_ rfl))))) rfl) rfl) rfl) rfl) rfl) rfl) rfl
              refine y_ (yl_move (T rfl)) (y_ (yl_move (T rfl)) (y_ (yl_call (.cons (T rfl) (.cons (T rfl) (.cons (T rfl) .nil))) Try.call17 (fun H' hs => rMerge_s n (hn.mono (List.Sublist.trans sbt hs)) _ _ l (hw.mono (List.Sublist.trans sbt hs)) hgw (by omega) _ _ tg (ht.m (List.Sublist.trans sbt hs)) (by omega) (rgt_len hrg))) ?_ rfl) rfl) rfl
              refine y_ (yl_move (T rfl)) (y_ (yl_extract (T rfl) rfl) (y_ (yl_extract (T rfl) rfl) (y_ (yl_extract (T rfl) rfl) (y_ (yl_assign (T rfl)) (y_ (yl_assign (T rfl)) (y_ (yl_assign (T rfl)) (jl_nil (q_then (j_keep [(11, _), (18, _), (19, _), (20, _), (21, _), (22, _), (23, _)] ⟨at_f rfl, at_f rfl, at_f rfl, at_f rfl, at_f rfl, at_f rfl, at_f rfl, trivial⟩ (j_seq (j_region (y_ (yl_move (T rfl)) (y_ (yl_move (T rfl)) (jl_y (yl_move (T rfl)) rfl (gd_y rfl rfl (at_f rfl)) (jl_y (yl_move (T rfl)) rfl (gd_y rfl rfl (at_f rfl)) (jl_y (yl_eql (T rfl) (T rfl)) rfl (gd_y rfl rfl (at_f rfl)) (y_ (yl_pick_t (T rfl) (T rfl)) (y_ (yl_move (T rfl)) ?_ rfl) rfl)))) rfl) rfl)))))) rfl) rfl) rfl) rfl) rfl) rfl) rfl
              first | refine jl_if_d (s := 97) (at_f rfl) (fun c97 => ?_) (fun c97 => ?_) | refine jl_if (s := 97) (at_f rfl) (fun c97 => ?_) (fun c97 => ?_)
              · refine jl_y (yl_move (T rfl)) rfl (gd_y rfl rfl (at_f rfl)) (jl_y (yl_move (T rfl)) rfl (gd_y rfl rfl (at_f rfl)) (jl_y (yl_eql (T rfl) (T rfl)) rfl (gd_y rfl rfl (at_f rfl)) (y_ (yl_pick_t (T rfl) (T rfl)) (y_ (yl_move (T rfl)) ?_ rfl) rfl)))
                first | refine jl_if_d (s := 102) (at_f rfl) (fun c102 => ?_) (fun c102 => ?_) | refine jl_if (s := 102) (at_f rfl) (fun c102 => ?_) (fun c102 => ?_)
                · refine jl_y (yl_move (T rfl)) rfl (gd_y rfl rfl (at_f rfl)) (jl_y (yl_move (T rfl)) rfl (gd_y rfl rfl (at_f rfl)) (jl_y (yl_eqB (T rfl) (T rfl) Try.runUnderlying4) rfl (gd_y rfl rfl (at_f rfl)) (y_ (yl_pick_t (T rfl) (T rfl)) (y_ (yl_assign (T rfl)) (jl_nil (q_then (j_keep [(10, _)] ⟨at_f rfl, trivial⟩ (j_ret (q_ret rfl (.tmp (at_f rfl) .nil) ?_))))) rfl) rfl)))
                  first | exact ⟨_, ⟨vbool (decide_eq_true rfl), rfl⟩, sbt⟩ | exact ⟨_, ⟨rfl, rfl⟩, sbt⟩ | (exfalso; first | exact absurd rfl c59 | exact absurd rfl c64 | exact absurd rfl c71 | exact absurd rfl c97 | exact absurd rfl c102 | omega)
                · refine n_ft (n_ft (n_ft (y_ (yl_pick_f (T rfl) ev_c) (y_ (yl_assign (T rfl)) (jl_nil (q_then (j_keep [(10, _)] ⟨at_f rfl, trivial⟩ (j_ret (q_ret rfl (.tmp (at_f rfl) .nil) ?_))))) rfl) rfl) rfl rfl rfl rfl) rfl rfl rfl rfl) rfl rfl rfl rfl
                  first | exact ⟨_, ⟨vbool (decide_eq_true rfl), rfl⟩, sbt⟩ | exact ⟨_, ⟨rfl, rfl⟩, sbt⟩ | (exfalso; first | exact absurd rfl c59 | exact absurd rfl c64 | exact absurd rfl c71 | exact absurd rfl c97 | exact absurd rfl c102 | omega)
              · refine n_ft (n_ft (n_ft (y_ (yl_pick_f (T rfl) ev_c) (y_ (yl_move (T rfl)) (n_ft (n_ft (n_ft (y_ (yl_pick_f (T rfl) ev_c) (y_ (yl_assign (T rfl)) (jl_nil (q_then (j_keep [(10, _)] ⟨at_f rfl, trivial⟩ (j_ret (q_ret rfl (.tmp (at_f rfl) .nil) ?_))))) rfl) rfl) rfl rfl rfl rfl) rfl rfl rfl rfl) rfl rfl rfl rfl) rfl) rfl) rfl rfl rfl rfl) rfl rfl rfl rfl) rfl rfl rfl rfl
                first | exact ⟨_, ⟨vbool (decide_eq_true rfl), rfl⟩, sbt⟩ | exact ⟨_, ⟨rfl, rfl⟩, sbt⟩ | (exfalso; first | exact absurd rfl c59 | exact absurd rfl c64 | exact absurd rfl c71 | exact absurd rfl c97 | exact absurd rfl c102 | omega)
end Go.Proofs.Ytdbffighngmibaa
