/-
  Walk of the law on rules.
-/
import Derived.Test.YtdbffighngmibaaWj
namespace Go.Proofs.Ytdbffighngmibaa
open Go.RowKit
set_option linter.unusedVariables false
set_option linter.unusedSimpArgs false
theorem rgt_len4 {ls : List Lnk} {l : List Wm} {tg : List Int} (h : rgtF ls [] (l.map (·.way)) tg = true) : tg.length = l.length := by
  rw [rgtF_eq] at h; simp at h; exact h.1.1
theorem rules_few {N : Nat} {top : Int} {us : List Int} {f : Int → Int → Option Hop} {r : List (List Rul)} {e : Int} (h : rulesRes N top us f = (r, e)) : r.length ≤ N ∧ ∀ t ∈ r, t.length ≤ 4000 := by
  unfold rulesRes at h
  split at h
  · split at h
    · rename_i hall
      simp only [Prod.mk.injEq] at h
      obtain ⟨rfl, _⟩ := h
      refine ⟨by simp, fun t ht => ?_⟩
      rw [List.all_eq_true] at hall
      obtain ⟨k, hk, rfl⟩ := List.mem_map.1 ht
      have := hall k hk
      simp only [decide_eq_true_eq] at this
      exact this.2
    · simp only [Prod.mk.injEq] at h
      obtain ⟨rfl, _⟩ := h
      simp
  · simp only [Prod.mk.injEq] at h
    obtain ⟨rfl, _⟩ := h
    simp
theorem rulesL_s {w0 : World} {H : List (Nat × Obj)} (n : Nm) (hn : NetM w0 H n) (steps : Int) (hst : -9223372036854775808 ≤ steps ∧ steps ≤ 9223372036854775807) (q : Option Addr) (cap : Nat) (l : List Wm) (hw : WaysM w0 H q l) (q2 : Option Addr) (cap2 : Nat) (tg : List Int) (ht : IntArr w0 H q2 tg) (htc : tg.length ≤ cap2) (htm : tg.length ≤ 9223372036854775807) (top : Int) :
    FSpec Try.prog w0 4 #[.agg (encNm n).toArray, .int .i64 steps, .slice q l.length cap, .slice q2 tg.length cap2, .int .i64 top] H (Still (.bool true) H) := by
  refine fn_spec Try.func4 rfl Try.ntmps4 rfl (j_seq (j_region (e_ (eff_box (T rfl) cs_) ?_ rfl)))
  rintro _ _ ⟨n5, rfl, rfl⟩
  refine y_ (yl_assign ev_c) (jl_nil (q_then (j_seq (j_region (y_ (yl_call .nil Try.call9 (fun H' hs => sanity_s)) (y_ (yl_assign (T rfl)) (jl_nil (q_then (j_seq (j_seq (j_region (y_ (yl_loadA (T rfl) Try.isAgg26 Try.sizeOf26 rfl (by first | exact cs_o)) ?_ rfl)))))) rfl) rfl))))) rfl
  refine y_ (yl_move (T rfl)) (y_ (yl_move (T rfl)) (e_ (eff_call (.cons (T rfl) (.cons (T rfl) (.cons (T rfl) (.cons ev_c .nil)))) Try.call10 (right_s n hn.mono _ _ _ _ hw.mono _)) ?_ rfl) rfl) rfl
  rintro _ _ ⟨⟨tw, rfl, hrt⟩, rfl⟩
  first | refine jl_y (yl_not_d (T rfl)) rfl gd_n ?_ | refine jl_y (yl_not (T rfl)) rfl gd_n ?_
  refine y_ (yl_move (T rfl)) ?_ rfl
  first | refine jl_if_d (s := 22) (at_f rfl) (fun c22 => ?_) (fun c22 => ?_) | refine jl_if (s := 22) (at_f rfl) (fun c22 => ?_) (fun c22 => ?_)
  · refine n_tf (n_tf (n_tf (n_tf (n_tf (y_ (yl_pick_t (T rfl) ev_c) (jl_nil (q_then (j_cond_t (at_f rfl) (j_seq (j_region (y_ (yl_move (T rfl)) (y_ (yl_assign (T rfl)) (jl_nil (q_then (j_ret (q_then_ret (q_ret rfl (.tmp (at_f rfl) .nil) ?_))))) rfl) rfl)))))) rfl) rfl rfl rfl rfl) rfl rfl rfl rfl) rfl rfl rfl rfl) rfl rfl rfl rfl) rfl rfl rfl rfl
    first | exact ⟨_, ⟨vbool (decide_eq_true rfl), rfl⟩, sbt⟩ | exact ⟨_, ⟨rfl, rfl⟩, sbt⟩ | (exfalso; first | exact absurd rfl c52 | omega)
  · obtain ⟨hnn, hnl, hne, hfew, hmost, hnet, hways⟩ := hrt (by simpa using c22)
    have hgw := net_gw hnet hways hfew
    refine jl_y (yl_loadA (T rfl) Try.isAgg26 Try.sizeOf26 rfl (by first | exact cs_o)) rfl (gd_y rfl rfl (at_f rfl)) ?_
    refine jl_y (yl_move (T rfl)) rfl (gd_y rfl rfl (at_f rfl)) (jl_y (yl_move (T rfl)) rfl (gd_y rfl rfl (at_f rfl)) (jl_y (yl_call (.cons (T rfl) (.cons (T rfl) (.cons (T rfl) .nil))) Try.call14 (fun H' hs => rRight_s n (hn.mono (List.Sublist.trans sbt hs)) _ _ l (hw.mono (List.Sublist.trans sbt hs)) hgw (by omega) _ _ tg (ht.m (List.Sublist.trans sbt hs)) htc (by omega))) rfl (gd_y rfl rfl (at_f rfl)) ?_))
    first | refine jl_y (yl_not_d (T rfl)) rfl (gd_y rfl rfl (at_f rfl)) ?_ | refine jl_y (yl_not (T rfl)) rfl (gd_y rfl rfl (at_f rfl)) ?_
    refine y_ (yl_pick_f (T rfl) (T rfl)) (jl_nil (q_then ?_)) rfl
    first | refine j_cond_d (at_f rfl) (fun c28 => ?_) (fun c28 => ?_) | refine j_cond (at_f rfl) (fun c28 => ?_) (fun c28 => ?_)
    · refine j_seq (j_region (y_ (yl_move (T rfl)) (y_ (yl_assign (T rfl)) (jl_nil (q_then (j_ret (q_then_ret (q_ret rfl (.tmp (at_f rfl) .nil) ?_))))) rfl) rfl))
      first | exact ⟨_, ⟨vbool (decide_eq_true rfl), rfl⟩, sbt⟩ | exact ⟨_, ⟨rfl, rfl⟩, sbt⟩ | (exfalso; first | exact absurd rfl c52 | omega)
    · have hrg : rgtF n.links [] (l.map (·.way)) tg = true := by simpa using c28
      have htle := rgt_len4 hrg
      have hsm : ∀ m ∈ l, m.way.links.length + 1 ≤ 100 := fun m hm => by obtain ⟨i, hi, rfl⟩ := List.getElem_of_mem hm; rw [← gd_getElem hi]; have := hfew i hi; omega
      refine j_skip (q_then (j_seq (j_region (y_ (yl_loadA (T rfl) Try.isAgg26 Try.sizeOf26 rfl (by first | exact cs_o)) ?_ rfl))))
      refine y_ (yl_move (T rfl)) (y_ (yl_move (T rfl)) (y_ (yl_move (T rfl)) (e_ (eff_call (.cons (T rfl) (.cons (T rfl) (.cons (T rfl) (.cons (T rfl) .nil)))) Try.call18 (rules_s n hn.mono _ _ l hw.mono hgw (by omega) _ _ tg ht.m (by omega) (rgt_len4 hrg) hrg (by omega) (by omega) hsm top)) ?_ rfl) rfl) rfl) rfl
      rintro _ _ ⟨da, ta, ea, rfl, hoka, heka, rfl, hra⟩
      refine y_ (yl_move (T rfl)) (y_ (yl_extract (T rfl) rfl) (y_ (yl_extract (T rfl) rfl) (y_ (yl_assign (T rfl)) (y_ (yl_assign (T rfl)) (jl_nil (q_then (j_keep [(2, _), (3, _), (4, _), (5, _), (11, _), (12, _), (13, _)] ⟨at_f rfl, at_f rfl, at_f rfl, at_f rfl, at_f rfl, at_f rfl, at_f rfl, trivial⟩ (j_seq (j_region (y_ (yl_loadA (T rfl) Try.isAgg26 Try.sizeOf26 rfl (by first | exact cs_o)) ?_ rfl)))))) rfl) rfl) rfl) rfl) rfl
      refine y_ (yl_move (T rfl)) (y_ (yl_move (T rfl)) (y_ (yl_move (T rfl)) (e_ (eff_call (.cons (T rfl) (.cons (T rfl) (.cons (T rfl) (.cons (T rfl) .nil)))) Try.call19 (rRules_s n hn.mono _ _ l hw.mono hgw (by omega) _ _ tg ht.m (by omega) (rgt_len4 hrg) (rgt_cons hgw (rgt_len4 hrg) hrg).1 (by omega) top)) ?_ rfl) rfl) rfl) rfl
      rintro _ _ ⟨db, tb, eb, rfl, hokb, hekb, rfl, hrb⟩
      obtain ⟨hts, rfl⟩ := Prod.mk.inj (hra.symm.trans hrb)
      have hfw := rules_few hra
      have hfl : ta.length ≤ n.nodes.length := by simpa using hfw.1
      refine y_ (yl_move (T rfl)) (y_ (yl_extract (T rfl) rfl) (y_ (yl_extract (T rfl) rfl) (y_ (yl_assign (T rfl)) (y_ (yl_assign (T rfl)) (jl_nil (q_then (j_seq (j_region (y_ (yl_move (T rfl)) (y_ (yl_move (T rfl)) (jl_y (yl_move (T rfl)) rfl (gd_y rfl rfl (at_f rfl)) (jl_y (yl_move (T rfl)) rfl (gd_y rfl rfl (at_f rfl)) (jl_e (eff_call (.cons (T rfl) (.cons (T rfl) .nil)) Try.call20 (tabsSame_s da db ta tb ((sl_arr (w0 := w0) (enc := encTb) (sz := 1) (e := 51) (X := H) (fun _ => rfl) hoka).mono sbt) ((sl_arr (w0 := w0) (enc := encTb) (sz := 1) (e := 51) (X := H) (fun _ => rfl) hokb).mono sbt) (fun t ht => (tb_mem (X := H) heka t ht).mono sbt) (fun t ht => (tb_mem (X := H) hekb t ht).mono sbt) hts (by omega) (fun t ht => by have := hfw.2 _ (List.mem_map.2 ⟨t, ht, rfl⟩); simp at this; omega))) rfl (gd_y rfl rfl (at_f rfl)) ?_))) rfl) rfl))))) rfl) rfl) rfl) rfl) rfl
      rintro _ _ ⟨rfl, rfl⟩
      refine y_ (yl_pick_t (T rfl) (T rfl)) (y_ (yl_move (T rfl)) (jl_y (yl_move (T rfl)) rfl (gd_y rfl rfl (at_f rfl)) (jl_y (yl_move (T rfl)) rfl (gd_y rfl rfl (at_f rfl)) (jl_y (yl_eql (T rfl) (T rfl)) rfl (gd_y rfl rfl (at_f rfl)) (y_ (yl_pick_t (T rfl) (T rfl)) (y_ (yl_assign (T rfl)) (jl_nil (q_then (j_keep [(10, _)] ⟨at_f rfl, trivial⟩ (j_ret (q_ret rfl (.tmp (at_f rfl) .nil) ?_))))) rfl) rfl)))) rfl) rfl
      first | exact ⟨_, ⟨vbool (decide_eq_true rfl), rfl⟩, sbt⟩ | exact ⟨_, ⟨rfl, rfl⟩, sbt⟩ | (exfalso; first | exact absurd rfl c52 | omega)
end Go.Proofs.Ytdbffighngmibaa
