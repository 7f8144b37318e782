/-
  Walk of the law on tags that are stuck.
-/
import Derived.Test.YtdbffighngmibaaWa
namespace Go.Proofs.Ytdbffighngmibaa
open Go.RowKit
set_option linter.unusedVariables false
set_option linter.unusedSimpArgs false
theorem asg_rgt {ls : List Lnk} {first : Int} (hf : 1 ≤ first) : ∀ {ws : List Way} {l m : List (Way × Int)}, Made ls first l → (∀ w ∈ ws, (nodesF ls w).Nodup) → asgF ls first l ws = some m →
    ∃ ts : List Int, ts.length = ws.length ∧ m = (ws.zip ts).reverse ++ l ∧ rgtF ls l ws ts = true
  | [], l, m, _, _, he => by simp only [asgF, Option.some.injEq] at he; exact ⟨[], rfl, by simp [he], rfl⟩
  | w :: ws, l, m, h, hw, he => by
    unfold asgF at he
    split at he
    · cases he
    · have hd := hw w (by simp)
      obtain ⟨ts, h1, h2, h3⟩ := asg_rgt hf (h.cons hd) (fun v hv => hw v (by simp [hv])) he
      have hs := tagF_spec (first := first) h.cons' hd
      refine ⟨tagF ls first l w :: ts, by simp [h1], by rw [h2]; simp, ?_⟩
      rw [rgtF, hs.1, h3, decide_eq_true (by omega)]; rfl
theorem mg_none {ap : Int → Int → Bool} : ∀ {us : List Int}, us.Pairwise (· < ·) → (∀ s ∈ us, ∀ t ∈ us, s < t → ap s t = false) → mgL ap us = none
  | [], _, _ => rfl
  | a :: r, hp, h => by
    rw [List.pairwise_cons] at hp
    have h1 : r.find? (ap a) = none := by
      rw [List.find?_eq_none]
      intro b hb
      simp [h a (by simp) b (by simp [hb]) (hp.1 b hb)]
    rw [mgL, h1]
    exact mg_none hp.2 fun s hs t ht => h s (by simp [hs]) t (by simp [ht])
/-- what is true of the tags of Assign -/
structure Stuck (n : Nm) (l : List Wm) (first : Int) (tg : List Int) : Prop where
  len : tg.length = l.length
  rgt : rgtF n.links [] (l.map (·.way)) tg = true
  none : mgL (apI n l tg) (usedF tg) = none
  same : ∀ i k, i < l.length → k < l.length → (gd l i).way = (gd l k).way → gd tg i = gd tg k
  part : ∀ m, m ≤ l.length → asgRes n.links first ((l.take m).map (·.way)) = (tg.take m, 0)
theorem stuck_of {n : Nm} {l : List Wm} (hg : Gw n l) {first : Int} (h1 : 1 ≤ first) (h2 : first ≤ 60000) (hl : l.length ≤ 12) {tg : List Int} {e : Int} (ha : asgRes n.links first (l.map (·.way)) = (tg, e)) : e = 0 ∧ Stuck n l first tg := by
  have hw : ∀ w ∈ l.map (·.way), (nodesF n.links w).Nodup := fun w hw => by obtain ⟨m, hm, rfl⟩ := List.mem_map.1 hw; exact hg.nd m hm
  obtain ⟨m, hm⟩ := asgF_some (ls := n.links) (first := first) h2 Made.nil hw (by simp; omega)
  obtain ⟨ts, hlt, hmt, hr⟩ := asg_rgt h1 Made.nil hw hm
  have hmd := asgF_made Made.nil hw hm
  rw [List.append_nil] at hmt
  have hts : m.reverse.map (·.2) = ts := by rw [hmt, List.reverse_reverse, List.map_snd_zip (by omega)]
  unfold asgRes at ha
  rw [if_pos ⟨h1, by omega⟩, hm] at ha
  simp only [hts, Prod.mk.injEq] at ha
  obtain ⟨rfl, rfl⟩ := ha
  have hle : ts.length = l.length := by simpa using hlt
  have hpr : pairs l ts = m := hmt.symm
  have hmem : ∀ i, i < l.length → ((gd l i).way, gd ts i) ∈ m := fun i hi => by
    rw [← hpr]; unfold pairs
    rw [List.mem_reverse, show ((gd l i).way, gd ts i) = gd ((l.map (·.way)).zip ts) i from by rw [gd_zip (by simpa using hi) (by omega), gd_map hi]]
    exact gd_mem (by simp; omega)
  refine ⟨rfl, hle, hr, ?_, ?_, ?_⟩
  · refine mg_none (usedTo_incr _ _) fun s hs t ht hst => ?_
    have hs' := (usedTo_mem.1 hs).2
    have ht' := (usedTo_mem.1 ht).2
    obtain ⟨j, hj, rfl⟩ := List.getElem_of_mem ht'
    obtain ⟨i, hi, rfl⟩ := List.getElem_of_mem hs'
    rw [← gd_getElem hj, ← gd_getElem hi] at *
    have hge := made_ge hmd _ (hmem i (by omega))
    have hall' : ∀ e ∈ m, (nodesF n.links e.1).Nodup := by
      rw [← hpr]
      intro e he
      unfold pairs at he
      have := List.of_mem_zip (List.mem_reverse.1 he)
      exact hw _ this.1
    have hap := made_apart hmd hall' (s := gd ts i) (t := gd ts j) hge hst ⟨_, hmem j (by omega), rfl⟩
    rw [apI_fits hg hle (hpr ▸ hmd.cons'), hpr]
    rw [Bool.eq_false_iff]
    intro hall
    rw [List.all_eq_true] at hall
    unfold apartF at hap
    rw [List.all_eq_false] at hap
    obtain ⟨e, he, hne⟩ := hap
    rw [← hpr] at he
    unfold pairs at he
    obtain ⟨k, hk, hke⟩ := List.getElem_of_mem (List.mem_reverse.1 he)
    have hk' : k < l.length := by simp at hk; omega
    have := hall k (List.mem_range.2 hk')
    apply hne
    rw [← hke, ← gd_getElem hk, gd_zip (by simpa using hk') (by omega), gd_map hk']
    exact this
  · intro i k hi hk he
    exact made_equal hmd _ (hmem i hi) _ (hmem k hk) he
  · intro c hc
    have hsp : l.map (·.way) = (l.take c).map (·.way) ++ (l.drop c).map (·.way) := by rw [← List.map_append, List.take_append_drop]
    rw [hsp] at hm
    obtain ⟨k, hk1, hk2⟩ := asgF_app hm
    obtain ⟨z, hz⟩ := asgF_tail hk2
    have hkl := congrArg List.length (asgF_ways hk1)
    simp at hkl
    unfold asgRes
    rw [if_pos ⟨h1, by omega⟩, hk1]
    simp only [Prod.mk.injEq, and_true]
    rw [← hts, hz, List.reverse_append, List.map_append, List.take_append_of_le_length (by simp; omega), List.take_of_length_le (by simp; omega)]
theorem Gw.take {n : Nm} {l : List Wm} (h : Gw n l) (m : Nat) : Gw n (l.take m) := ⟨fun x hx => h.nd x (List.mem_of_mem_take hx), fun x hx => h.inr x (List.mem_of_mem_take hx), fun x hx => h.at' x (List.mem_of_mem_take hx), fun x hx => h.len x (List.mem_of_mem_take hx)⟩
theorem WaysM.take {w0 : World} {H : List (Nat × Obj)} {q : Option Addr} {l : List Wm} (h : WaysM w0 H q l) (m : Nat) : WaysM w0 H q (l.take m) := ⟨h.arr.take m, fun x hx => h.each x (List.mem_of_mem_take hx), by have := h.len; simp; omega⟩

theorem assign_k {w0 : World} {H : List (Nat × Obj)} {k : Nat} {l : List Wm} (hk : l.length = k) (n : Nm) (hn : NetM w0 H n) (q : Option Addr) (cap : Nat) (l' : List Wm) (hw : WaysM w0 H q l) (hg : Good n.links l) (hl5 : l.length ≤ 100000) (first : Int) :
    FSpec Try.prog w0 11 #[.agg (encNm n).toArray, .slice q k cap, .int .i64 first] H (fun v H' => ∃ (d : Sl) (tg : List Int) (e : Int), v = .tuple #[slV d tg.length, .int .i64 e] ∧ SlOk d tg.length 1 ∧ H' = slH d (tg.flatMap encI) 3 ++ H ∧ asgRes n.links first (l.map (·.way)) = (tg, e)) := hk ▸ assign_s n hn q cap l hw hg hl5 first
theorem sameInts_k {w0 : World} {H : List (Nat × Obj)} {k : Nat} {y : List Int} (hk : y.length = k) (q q2 : Option Addr) (cap cap2 : Nat) (x y' : List Int) (hx : IntArr w0 H q x) (hy : IntArr w0 H q2 y) (hl : x.length ≤ 9223372036854775807) :
    FSpec Try.prog w0 13 #[.slice q x.length cap, .slice q2 k cap2] H (Still (.bool (decide (x = y))) H) := hk ▸ sameInts_s q q2 cap cap2 x y hx hy hl
theorem stuck_s {w0 : World} {H : List (Nat × Obj)} (n : Nm) (hn : NetM w0 H n) (steps : Int) (hst : -9223372036854775808 ≤ steps ∧ steps ≤ 9223372036854775807) (q : Option Addr) (cap : Nat) (l : List Wm) (hw : WaysM w0 H q l) (hlc : l.length ≤ cap) (first : Int) (cut : Int) (hcut : 0 ≤ cut ∧ cut ≤ 255) :
    FSpec Try.prog w0 8 #[.agg (encNm n).toArray, .int .i64 steps, .slice q l.length cap, .int .i64 first, .int .u8 cut] H (Still (.bool true) H) := by
  refine fn_spec Try.func8 rfl Try.ntmps8 rfl ?_
  obtain ⟨m, hm, hme⟩ : ∃ m : Nat, m ≤ l.length ∧ IntKind.i64.wrap cut % ((l.length : Int) + 1) = m := by
    rw [IntWalk.i64_in _ (by omega)]
    have h1 := Int.emod_nonneg cut (show ((l.length : Int) + 1) ≠ 0 by omega)
    have h2 := Int.emod_lt_of_pos cut (show 0 < ((l.length : Int) + 1) by omega)
    exact ⟨(cut % ((l.length : Int) + 1)).toNat, by omega, by omega⟩
  have hml : (l.take m).length = m := by simp; omega
  refine j_seq (j_region (e_ (eff_box (T rfl) cs_) ?_ rfl))
  rintro _ _ ⟨n5, rfl, rfl⟩
  refine y_ (yl_assign ev_c) (jl_nil (q_then (j_seq (j_region (y_ (yl_call .nil Try.call9 (fun H' hs => sanity_s)) (y_ (yl_assign (T rfl)) (jl_nil (q_then (j_seq (j_seq (j_region (y_ (yl_loadA (T rfl) Try.isAgg26 Try.sizeOf26 rfl (by first | exact cs_o)) ?_ rfl)))))) rfl) rfl))))) rfl
  refine y_ (yl_move (T rfl)) (y_ (yl_move (T rfl)) (e_ (eff_call (.cons (T rfl) (.cons (T rfl) (.cons (T rfl) (.cons ev_c .nil)))) Try.call10 (right_s n hn.mono _ _ _ _ hw.mono _)) ?_ rfl) rfl) rfl
  rintro _ _ ⟨⟨tw, rfl, hrt⟩, rfl⟩
  first | refine jl_y (yl_not_d (T rfl)) rfl gd_n ?_ | refine jl_y (yl_not (T rfl)) rfl gd_n ?_
  refine y_ (yl_move (T rfl)) ?_ rfl
  first | refine jl_if_d (s := 28) (at_f rfl) (fun c28 => ?_) (fun c28 => ?_) | refine jl_if (s := 28) (at_f rfl) (fun c28 => ?_) (fun c28 => ?_)
  · refine n_tf (n_tf (y_ (yl_pick_t (T rfl) ev_c) (y_ (yl_move (T rfl)) (n_tf (n_tf (y_ (yl_pick_t (T rfl) ev_c) (jl_nil (q_then (j_cond_t (at_f rfl) (j_seq (j_region (y_ (yl_move (T rfl)) (y_ (yl_assign (T rfl)) (jl_nil (q_then (j_ret (q_then_ret (q_ret rfl (.tmp (at_f rfl) .nil) ?_))))) rfl) rfl)))))) rfl) rfl rfl rfl rfl) rfl rfl rfl rfl) rfl) rfl) rfl rfl rfl rfl) rfl rfl rfl rfl
    first | exact ⟨_, ⟨rfl, rfl⟩, sbt⟩ | (exfalso; first | exact c99 (hsk.same i k (by omega) (by omega) c89) | omega | (rw [hsk.rgt] at c59; exact absurd c59 (by decide)) | cases c116 | cases c118)
  · refine jl_y (yl_move (T rfl)) rfl (gd_y rfl rfl (at_f rfl)) (jl_y (yl_lss (T rfl) ev_c) rfl (gd_y rfl rfl (at_f rfl)) (y_ (yl_pick_f (T rfl) (T rfl)) (y_ (yl_move (T rfl)) ?_ rfl) rfl))
    first | refine jl_if_d (s := 32) (at_f rfl) (fun c32 => ?_) (fun c32 => ?_) | refine jl_if (s := 32) (at_f rfl) (fun c32 => ?_) (fun c32 => ?_)
    · refine n_tf (n_tf (y_ (yl_pick_t (T rfl) ev_c) (jl_nil (q_then (j_cond_t (at_f rfl) (j_seq (j_region (y_ (yl_move (T rfl)) (y_ (yl_assign (T rfl)) (jl_nil (q_then (j_ret (q_then_ret (q_ret rfl (.tmp (at_f rfl) .nil) ?_))))) rfl) rfl)))))) rfl) rfl rfl rfl rfl) rfl rfl rfl rfl
      first | exact ⟨_, ⟨rfl, rfl⟩, sbt⟩ | (exfalso; first | exact c99 (hsk.same i k (by omega) (by omega) c89) | omega | (rw [hsk.rgt] at c59; exact absurd c59 (by decide)) | cases c116 | cases c118)
    · refine jl_y (yl_move (T rfl)) rfl (gd_y rfl rfl (at_f rfl)) (jl_y (yl_gtr (T rfl) ev_c) rfl (gd_y rfl rfl (at_f rfl)) (y_ (yl_pick_f (T rfl) (T rfl)) (jl_nil (q_then ?_)) rfl))
      first | refine j_cond_d (at_f rfl) (fun c35 => ?_) (fun c35 => ?_) | refine j_cond (at_f rfl) (fun c35 => ?_) (fun c35 => ?_)
      · refine j_seq (j_region (y_ (yl_move (T rfl)) (y_ (yl_assign (T rfl)) (jl_nil (q_then (j_ret (q_then_ret (q_ret rfl (.tmp (at_f rfl) .nil) ?_))))) rfl) rfl))
        first | exact ⟨_, ⟨rfl, rfl⟩, sbt⟩ | (exfalso; first | exact c99 (hsk.same i k (by omega) (by omega) c89) | omega | (rw [hsk.rgt] at c59; exact absurd c59 (by decide)) | cases c116 | cases c118)
      · obtain ⟨hnn, hnl, hne, hfew, hmost, hnet, hways⟩ := hrt (by simpa using c28)
        have hgw := net_gw hnet hways hfew
        refine j_skip (q_then (j_seq (j_region (y_ (yl_loadA (T rfl) Try.isAgg26 Try.sizeOf26 rfl (by first | exact cs_o)) ?_ rfl))))
        refine y_ (yl_move (T rfl)) (y_ (yl_move (T rfl)) (e_ (eff_call (.cons (T rfl) (.cons (T rfl) (.cons (T rfl) .nil))) Try.call11 (assign_s n hn.mono _ _ l hw.mono hgw.good (by omega) first)) ?_ rfl) rfl) rfl
        rintro _ _ ⟨da, ta, ea, rfl, hoka, rfl, hra⟩
        obtain ⟨rfl, hsk⟩ := stuck_of hgw (by omega) (by omega) (by omega) hra
        have hlt := hsk.len
        have hdc := hoka.cap
        refine y_ (yl_move (T rfl)) (y_ (yl_extract (T rfl) rfl) (y_ (yl_extract (T rfl) rfl) (y_ (yl_assign (T rfl)) (y_ (yl_assign (T rfl)) (jl_nil (q_then (j_keep [(2, _), (3, _), (4, _), (5, _), (11, _), (12, _), (13, _)] ⟨at_f rfl, at_f rfl, at_f rfl, at_f rfl, at_f rfl, at_f rfl, at_f rfl, trivial⟩ (j_seq (j_seq (j_region (y_ (yl_move (T rfl)) (y_ (yl_neq (T rfl) ev_c) (y_ (yl_move (T rfl)) ?_ rfl) rfl) rfl))))))) rfl) rfl) rfl) rfl) rfl
        first | refine jl_if_d (s := 46) (at_f rfl) (fun c46 => ?_) (fun c46 => ?_) | refine jl_if (s := 46) (at_f rfl) (fun c46 => ?_) (fun c46 => ?_)
        · refine n_tf (n_tf (n_tf (n_tf (n_tf (y_ (yl_pick_t (T rfl) ev_c) (y_ (yl_move (T rfl)) (n_tf (n_tf (n_tf (n_tf (n_tf (y_ (yl_pick_t (T rfl) ev_c) (jl_nil (q_then (j_cond_t (at_f rfl) (j_seq (j_region (y_ (yl_assign ev_c) (jl_nil (q_then (j_keep [(10, _)] ⟨at_f rfl, trivial⟩ (j_ret (q_then_ret (q_ret rfl (.tmp (at_f rfl) .nil) ?_)))))) rfl)))))) rfl) rfl rfl rfl rfl) rfl rfl rfl rfl) rfl rfl rfl rfl) rfl rfl rfl rfl) rfl rfl rfl rfl) rfl) rfl) rfl rfl rfl rfl) rfl rfl rfl rfl) rfl rfl rfl rfl) rfl rfl rfl rfl) rfl rfl rfl rfl
          first | exact ⟨_, ⟨rfl, rfl⟩, sbt⟩ | (exfalso; first | exact c99 (hsk.same i k (by omega) (by omega) c89) | omega | (rw [hsk.rgt] at c59; exact absurd c59 (by decide)) | cases c116 | cases c118)
        · refine jl_y (yl_move (T rfl)) rfl (gd_y rfl rfl (at_f rfl)) (jl_y (yl_len (T rfl) Try.runUnderlying28) rfl (gd_y rfl rfl (at_f rfl)) (jl_y (yl_move (T rfl)) rfl (gd_y rfl rfl (at_f rfl)) (jl_y (yl_len (T rfl) Try.runUnderlying27) rfl (gd_y rfl rfl (at_f rfl)) (jl_y (yl_neq (T rfl) (T rfl)) rfl (gd_y rfl rfl (at_f rfl)) (y_ (yl_pick_f (T rfl) (T rfl)) (y_ (yl_move (T rfl)) ?_ rfl) rfl)))))
          first | refine jl_if_d (s := 53) (at_f rfl) (fun c53 => ?_) (fun c53 => ?_) | refine jl_if (s := 53) (at_f rfl) (fun c53 => ?_) (fun c53 => ?_)
          · refine n_tf (n_tf (n_tf (n_tf (n_tf (y_ (yl_pick_t (T rfl) ev_c) (jl_nil (q_then (j_cond_t (at_f rfl) (j_seq (j_region (y_ (yl_assign ev_c) (jl_nil (q_then (j_keep [(10, _)] ⟨at_f rfl, trivial⟩ (j_ret (q_then_ret (q_ret rfl (.tmp (at_f rfl) .nil) ?_)))))) rfl)))))) rfl) rfl rfl rfl rfl) rfl rfl rfl rfl) rfl rfl rfl rfl) rfl rfl rfl rfl) rfl rfl rfl rfl
            first | exact ⟨_, ⟨rfl, rfl⟩, sbt⟩ | (exfalso; first | exact c99 (hsk.same i k (by omega) (by omega) c89) | omega | (rw [hsk.rgt] at c59; exact absurd c59 (by decide)) | cases c116 | cases c118)
          · refine jl_y (yl_loadA (T rfl) Try.isAgg26 Try.sizeOf26 rfl (by first | exact cs_o)) rfl (gd_y rfl rfl (at_f rfl)) ?_
            refine jl_y (yl_move (T rfl)) rfl (gd_y rfl rfl (at_f rfl)) (jl_y (yl_move (T rfl)) rfl (gd_y rfl rfl (at_f rfl)) (jl_y (yl_call (.cons (T rfl) (.cons (T rfl) (.cons (T rfl) .nil))) Try.call15 (fun H' hs => right_p n (hn.mono (List.Sublist.trans sbt hs)) _ _ l (hw.mono (List.Sublist.trans sbt hs)) hgw.good (by omega) _ _ ta ((sl_arr (w0 := w0) (enc := encI) (sz := 1) (e := 3) (X := H) (fun _ => rfl) hoka).mono (List.Sublist.trans sbt hs)) (by omega))) rfl (gd_y rfl rfl (at_f rfl)) ?_))
            first | refine jl_y (yl_not_d (T rfl)) rfl (gd_y rfl rfl (at_f rfl)) ?_ | refine jl_y (yl_not (T rfl)) rfl (gd_y rfl rfl (at_f rfl)) ?_
            refine y_ (yl_pick_f (T rfl) (T rfl)) (jl_nil (q_then ?_)) rfl
            first | refine j_cond_d (at_f rfl) (fun c59 => ?_) (fun c59 => ?_) | refine j_cond (at_f rfl) (fun c59 => ?_) (fun c59 => ?_)
            · refine j_seq (j_region (y_ (yl_assign ev_c) (jl_nil (q_then (j_keep [(10, _)] ⟨at_f rfl, trivial⟩ (j_ret (q_then_ret (q_ret rfl (.tmp (at_f rfl) .nil) ?_)))))) rfl))
              first | exact ⟨_, ⟨rfl, rfl⟩, sbt⟩ | (exfalso; first | exact c99 (hsk.same i k (by omega) (by omega) c89) | omega | (rw [hsk.rgt] at c59; exact absurd c59 (by decide)) | cases c116 | cases c118)
            · refine j_skip (q_then (j_seq (j_region (y_ (yl_loadA (T rfl) Try.isAgg26 Try.sizeOf26 rfl (by first | exact cs_o)) ?_ rfl))))
              refine y_ (yl_move (T rfl)) (y_ (yl_move (T rfl)) (e_ (eff_call (.cons (T rfl) (.cons (T rfl) (.cons (T rfl) .nil))) Try.call16 (merge_s n hn.mono _ _ l hw.mono hgw.good (by omega) _ _ ta ((sl_arr (w0 := w0) (enc := encI) (sz := 1) (e := 3) (X := H) (fun _ => rfl) hoka).mono sbt) (by omega) hgw hsk.len hsk.rgt)) ?_ rfl) rfl) rfl
              rintro _ _ ⟨hmv, rfl⟩
              rw [hsk.none] at hmv
              subst hmv
              refine y_ (yl_move (T rfl)) (y_ (yl_extract (T rfl) rfl) (y_ (yl_extract (T rfl) rfl) (y_ (yl_extract (T rfl) rfl) (y_ (yl_assign (T rfl)) (y_ (yl_assign (T rfl)) (y_ (yl_assign (T rfl)) (jl_nil (q_then (j_keep [(2, _), (3, _), (4, _), (5, _), (11, _), (12, _), (16, _)] ⟨at_f rfl, at_f rfl, at_f rfl, at_f rfl, at_f rfl, at_f rfl, at_f rfl, trivial⟩ (j_seq (j_seq (j_region (y_ (yl_move (T rfl)) (jl_nil (q_then (j_cond_f (at_f rfl) (j_skip (q_then (j_seq (j_seq (j_region (y_ (yl_assign ev_c) (jl_nil (q_then (j_block ?_))) rfl))))))))) rfl))))))) rfl) rfl) rfl) rfl) rfl) rfl) rfl
              refine j_loopH (X := Nat) (V := fun i => [(17, .int .i64 (i : Nat))]) (C := [(2, _), (3, _), (4, _), (5, _), (11, _), (12, _)]) (φ := fun i => i ≤ l.length) (μ := fun i => l.length - i) (x0 := 0) ?_ ⟨at_f rfl, at_f rfl, at_f rfl, at_f rfl, at_f rfl, at_f rfl, trivial⟩ ⟨(by first | exact at_f rfl | (refine at_e (at_f rfl) (vint ?_); omega) | (refine at_e (at_f rfl) ?_; simp; done)), trivial⟩ ?_
              · exact Nat.zero_le _
              rintro i hi
              refine j_seq (j_seq (j_region (y_ (yl_move (T rfl)) (y_ (yl_move (T rfl)) (y_ (yl_len (T rfl) Try.runUnderlying27) (y_ (yl_lss (T rfl) (T rfl)) (jl_nil (q_then ?_)) rfl) rfl) rfl) rfl)))
              first | refine j_cond_d (at_f rfl) (fun c72 => ?_) (fun c72 => ?_) | refine j_cond (at_f rfl) (fun c72 => ?_) (fun c72 => ?_)
              · refine j_skip (q_then (j_seq (j_block (j_seq (j_region (y_ (yl_assign ev_c) (jl_nil (q_then (j_block ?_))) rfl))))))
                refine j_loopH (X := Nat) (V := fun k => [(18, .int .i64 (k : Nat))]) (C := [(2, _), (3, _), (4, _), (5, _), (11, _), (12, _), (17, _)]) (φ := fun k => k ≤ i) (μ := fun k => i - k) (x0 := 0) ?_ ⟨at_f rfl, at_f rfl, at_f rfl, at_f rfl, at_f rfl, at_f rfl, at_f rfl, trivial⟩ ⟨(by first | exact at_f rfl | (refine at_e (at_f rfl) (vint ?_); omega) | (refine at_e (at_f rfl) ?_; simp; done)), trivial⟩ ?_
                · exact Nat.zero_le _
                rintro k hk
                refine j_seq (j_seq (j_region (y_ (yl_move (T rfl)) (y_ (yl_move (T rfl)) (y_ (yl_lss (T rfl) (T rfl)) (jl_nil (q_then ?_)) rfl) rfl) rfl)))
                first | refine j_cond_d (at_f rfl) (fun c77 => ?_) (fun c77 => ?_) | refine j_cond (at_f rfl) (fun c77 => ?_) (fun c77 => ?_)
                · refine j_skip (q_then (j_seq (j_block (j_seq (j_any 20 [(0, true), (1, true), (2, true), (3, true), (4, true), (5, true), (6, true), (7, true), (8, true), (9, true), (10, true), (11, true), (12, true), (13, true), (14, true), (15, true), (16, true), (17, true), (18, true), (19, true)] _ mixd (by kernel_rfl) sb0 ?_)))))
                  refine o_y rfl (yl_move (T rfl)) (o_y rfl (yl_move (T rfl)) (o_y rfl (yl_ixR (T rfl) (T rfl) Try.runUnderlying27 Try.sizeOf48 (by omega) (by first | exact rfl | exact hw.arr.b (i := i) (by omega) | exact hw.arr.b (i := k) (by omega) | exact (sl_arr (w0 := w0) (enc := encI) (sz := 1) (e := 3) (X := []) (fun _ => rfl) hoka).b (i := i) (by omega) | exact (sl_arr (w0 := w0) (enc := encI) (sz := 1) (e := 3) (X := []) (fun _ => rfl) hoka).b (i := k) (by omega))) ?_ rfl gd_n) rfl gd_n) rfl gd_n
                  refine o_y rfl (yl_loadA (T rfl) Try.isAgg48 Try.sizeOf48 rfl (by first | exact cs_m (hw.arr.cs (i := i) (by omega)) | exact cs_o)) ?_ rfl gd_n
                  refine o_y rfl (yl_move (T rfl)) (o_y rfl (yl_move (T rfl)) (o_y rfl (yl_ixQ (T rfl) (T rfl) Try.runUnderlying27 Try.sizeOf48 (by omega) (by first | exact rfl | exact hw.arr.b (i := i) (by omega) | exact hw.arr.b (i := k) (by omega) | exact (sl_arr (w0 := w0) (enc := encI) (sz := 1) (e := 3) (X := []) (fun _ => rfl) hoka).b (i := i) (by omega) | exact (sl_arr (w0 := w0) (enc := encI) (sz := 1) (e := 3) (X := []) (fun _ => rfl) hoka).b (i := k) (by omega))) ?_ rfl gd_n) rfl gd_n) rfl gd_n
                  refine o_y rfl (yl_loadA (T rfl) Try.isAgg48 Try.sizeOf48 rfl (by first | exact cs_m (hw.arr.cs (i := k) (by omega)) | exact cs_o)) ?_ rfl gd_n
                  refine o_y rfl (yl_call (.cons (T rfl) (.cons (T rfl) .nil)) Try.call32 (fun H' hs => tSame_s _ _ ((hw.at (i := i) (by omega)).mono (List.Sublist.trans sbt hs)) ((hw.at (i := k) (by omega)).mono (List.Sublist.trans sbt hs)))) ?_ rfl gd_n
                  refine o_y rfl (yl_move (T rfl)) ?_ rfl gd_n
                  first | refine o_if_d (s := 89) (at_f rfl) (fun c89 => ?_) (fun c89 => ?_) | refine o_if (s := 89) (at_f rfl) (fun c89 => ?_) (fun c89 => ?_)
                  · refine o_y rfl (yl_move (T rfl)) (o_y rfl (yl_move (T rfl)) (o_y rfl (yl_ixR (T rfl) (T rfl) Try.runUnderlying28 Try.sizeOf3 (by omega) (by first | exact rfl | exact hw.arr.b (i := i) (by omega) | exact hw.arr.b (i := k) (by omega) | exact (sl_arr (w0 := w0) (enc := encI) (sz := 1) (e := 3) (X := []) (fun _ => rfl) hoka).b (i := i) (by omega) | exact (sl_arr (w0 := w0) (enc := encI) (sz := 1) (e := 3) (X := []) (fun _ => rfl) hoka).b (i := k) (by omega))) ?_ rfl (gd_y rfl rfl (at_f rfl))) rfl (gd_y rfl rfl (at_f rfl))) rfl (gd_y rfl rfl (at_f rfl))
                    refine o_y rfl (yl_load (T rfl) Try.isAgg3 (by first | exact c_o | exact (sl_arr (w0 := w0) (enc := encI) (sz := 1) (e := 3) (fun _ => rfl) hoka).f0 (i := i) (by omega) rfl)) ?_ rfl (gd_y rfl rfl (at_f rfl))
                    refine o_y rfl (yl_move (T rfl)) (o_y rfl (yl_move (T rfl)) (o_y rfl (yl_ixQ (T rfl) (T rfl) Try.runUnderlying28 Try.sizeOf3 (by omega) (by first | exact rfl | exact hw.arr.b (i := i) (by omega) | exact hw.arr.b (i := k) (by omega) | exact (sl_arr (w0 := w0) (enc := encI) (sz := 1) (e := 3) (X := []) (fun _ => rfl) hoka).b (i := i) (by omega) | exact (sl_arr (w0 := w0) (enc := encI) (sz := 1) (e := 3) (X := []) (fun _ => rfl) hoka).b (i := k) (by omega))) ?_ rfl (gd_y rfl rfl (at_f rfl))) rfl (gd_y rfl rfl (at_f rfl))) rfl (gd_y rfl rfl (at_f rfl))
                    refine o_y rfl (yl_load (T rfl) Try.isAgg3 (by first | exact c_o | exact (sl_arr (w0 := w0) (enc := encI) (sz := 1) (e := 3) (fun _ => rfl) hoka).f0 (i := k) (by omega) rfl)) ?_ rfl (gd_y rfl rfl (at_f rfl))
                    refine o_y rfl (yl_neq (T rfl) (T rfl)) (o_y rfl (yl_pick_t (T rfl) (T rfl)) (jo_nil rfl (jl_nil (q_then (j_keep [(2, _), (3, _), (4, _), (5, _), (11, _), (12, _), (17, _), (18, _), (99, _)] ⟨at_f rfl, at_f rfl, at_f rfl, at_f rfl, at_f rfl, at_f rfl, at_f rfl, at_f rfl, at_f rfl, trivial⟩ ?_)))) rfl gd_n) rfl (gd_y rfl rfl (at_f rfl))
                    first | refine j_cond_d (at_f rfl) (fun c99 => ?_) (fun c99 => ?_) | refine j_cond (at_f rfl) (fun c99 => ?_) (fun c99 => ?_)
                    · refine j_seq (j_region (y_ (yl_assign ev_c) (jl_nil (q_then (j_ret (q_block_ret (q_then_ret (q_loop_ret (q_block_ret (q_block_ret (q_then_ret (q_loop_ret (q_block_ret (q_then_ret (q_ret rfl (.tmp (at_f rfl) .nil) ?_))))))))))))) rfl))
                      first | exact ⟨_, ⟨rfl, rfl⟩, sbt⟩ | (exfalso; first | exact c99 (hsk.same i k (by omega) (by omega) c89) | omega | (rw [hsk.rgt] at c59; exact absurd c59 (by decide)) | cases c116 | cases c118)
                    · refine j_skip (q_block (q_then (j_region (y_ (yl_move (T rfl)) (y_ (yl_add (T rfl) ev_c (by omega)) ?_ rfl) rfl))))
                      refine y_ (yl_assign (T rfl)) (jl_nil ?_) rfl
                      refine q_loopC (k + 1) ?_ ?_ ⟨(by first | exact at_f rfl | (refine at_e (at_f rfl) (vint ?_); omega) | (refine at_e (at_f rfl) ?_; simp; done)), trivial⟩ ⟨at_f rfl, at_f rfl, at_f rfl, at_f rfl, at_f rfl, at_f rfl, at_f rfl, trivial⟩ ?_
                      · show k + 1 ≤ _; omega
                      · first | omega | (simp only []; omega)
                      · exact sbt
                  · refine o_n rfl (o_n rfl (o_n rfl (o_n rfl (o_n rfl (o_n rfl (o_n rfl (o_n rfl (o_n rfl (o_y rfl (yl_pick_f (T rfl) ev_c) (jo_nil rfl (jl_nil (q_then (j_keep [(2, _), (3, _), (4, _), (5, _), (11, _), (12, _), (17, _), (18, _), (99, _)] ⟨at_f rfl, at_f rfl, at_f rfl, at_f rfl, at_f rfl, at_f rfl, at_f rfl, at_f rfl, at_f rfl, trivial⟩ (j_cond_f (at_f rfl) (j_skip (q_block (q_then (j_region (y_ (yl_move (T rfl)) (y_ (yl_add (T rfl) ev_c (by omega)) ?_ rfl) rfl)))))))))) rfl gd_n) rfl (nw_ft rfl rfl (at_f rfl))) rfl (nw_ft rfl rfl (at_f rfl))) rfl (nw_ft rfl rfl (at_f rfl))) rfl (nw_ft rfl rfl (at_f rfl))) rfl (nw_ft rfl rfl (at_f rfl))) rfl (nw_ft rfl rfl (at_f rfl))) rfl (nw_ft rfl rfl (at_f rfl))) rfl (nw_ft rfl rfl (at_f rfl))) rfl (nw_ft rfl rfl (at_f rfl))
                    refine y_ (yl_assign (T rfl)) (jl_nil ?_) rfl
                    refine q_loopC (k + 1) ?_ ?_ ⟨(by first | exact at_f rfl | (refine at_e (at_f rfl) (vint ?_); omega) | (refine at_e (at_f rfl) ?_; simp; done)), trivial⟩ ⟨at_f rfl, at_f rfl, at_f rfl, at_f rfl, at_f rfl, at_f rfl, at_f rfl, trivial⟩ ?_
                    · show k + 1 ≤ _; omega
                    · first | omega | (simp only []; omega)
                    · exact sbt
                · refine j_exit (q_then_exit (q_loop_exit (q_block_hit (q_block (q_then (j_region (y_ (yl_move (T rfl)) (y_ (yl_add (T rfl) ev_c (by omega)) ?_ rfl) rfl)))))))
                  refine y_ (yl_assign (T rfl)) (jl_nil ?_) rfl
                  refine q_loopC (i + 1) ?_ ?_ ⟨(by first | exact at_f rfl | (refine at_e (at_f rfl) (vint ?_); omega) | (refine at_e (at_f rfl) ?_; simp; done)), trivial⟩ ⟨at_f rfl, at_f rfl, at_f rfl, at_f rfl, at_f rfl, at_f rfl, trivial⟩ ?_
                  · show i + 1 ≤ _; omega
                  · first | omega | (simp only []; omega)
                  · exact sbt
              · refine j_exit (q_then_exit (q_loop_exit (q_block_hit (q_then ?_))))
                refine j_cutH (X := Unit) (V := fun u => [(19, .int .i64 ((m : Nat) : Int))]) (C := [(2, _), (3, _), (5, _), (11, _), (12, _)]) (φ := fun u => True) ⟨at_f rfl, at_f rfl, at_f rfl, at_f rfl, at_f rfl, trivial⟩ ?_ ?_
                · refine j_region (y_ (yl_move (T rfl)) (y_ (yl_convI (T rfl) Try.runUnderlying5 Try.runUnderlying3) (y_ (yl_move (T rfl)) (y_ (yl_len (T rfl) Try.runUnderlying27) (y_ (yl_add (T rfl) ev_c (by omega)) ?_ rfl) rfl) rfl) rfl) rfl)
                  refine y_ (yl_rem (T rfl) (T rfl) ⟨by rw [IntWalk.i64_in _ (by omega)]; omega, by omega⟩) ?_ rfl
                  refine y_ (yl_assign (T rfl)) (jl_nil ?_) rfl
                  refine q_cutC (()) ?_ ⟨(by first | exact at_f rfl | (refine at_e (at_f rfl) (vint ?_); omega) | (refine at_e (at_f rfl) ?_; simp; done)), trivial⟩ ⟨at_f rfl, at_f rfl, at_f rfl, at_f rfl, at_f rfl, trivial⟩ sbt
                  trivial
                rintro u hx
                refine j_seq (j_any 11 [(0, true), (1, true), (2, true), (3, true), (4, true), (5, false), (6, true), (7, true), (8, true), (9, true), (10, true)] _ mixd (by kernel_rfl) sb0 ?_)
                refine o_y rfl (yl_loadA (T rfl) Try.isAgg26 Try.sizeOf26 rfl (by first | exact cs_o)) ?_ rfl gd_n
                refine o_y rfl (yl_move (T rfl)) (o_y rfl (yl_move (T rfl)) (o_y rfl (yl_sliceH  (T rfl) (T rfl) Try.runUnderlying27 Try.sizeOf48 (by omega)) ?_ rfl gd_n) rfl gd_n) rfl gd_n
                refine o_y rfl (yl_move (T rfl)) (o_e rfl (eff_call (.cons (T rfl) (.cons (T rfl) (.cons (T rfl) .nil))) Try.call11 (assign_k hml n hn.mono _ _ (l.take m) (hw.take m).mono (hgw.take m).good (by omega) first)) ?_ rfl gd_n) rfl gd_n
                rintro _ _ ⟨db, tb, eb, rfl, hokb, rfl, hrb⟩
                obtain ⟨rfl, rfl⟩ := Prod.mk.inj ((hsk.part m hm).symm.trans hrb)
                have htm : (ta.take m).length = m := by simp; omega
                refine ⟨sbt, (o_y rfl (yl_move (T rfl)) (o_y rfl (yl_extract (T rfl) rfl) (o_y rfl (yl_extract (T rfl) rfl) (o_y rfl (yl_assign (T rfl)) (o_y rfl (yl_assign (T rfl)) (jo_nil rfl (jl_nil (q_then (j_seq (j_region (y_ (yl_move (T rfl)) (y_ (yl_move (T rfl)) ?_ rfl) rfl)))))) rfl gd_n) rfl gd_n) rfl gd_n) rfl gd_n) rfl gd_n)⟩
                first | refine jl_if_d (s := 116) (at_f rfl) (fun c116 => ?_) (fun c116 => ?_) | refine jl_if (s := 116) (at_f rfl) (fun c116 => ?_) (fun c116 => ?_)
                · refine jl_y (yl_move (T rfl)) rfl (gd_y rfl rfl (at_f rfl)) (jl_y (yl_eql (T rfl) ev_c) rfl (gd_y rfl rfl (at_f rfl)) (y_ (yl_pick_t (T rfl) (T rfl)) (y_ (yl_move (T rfl)) ?_ rfl) rfl))
                  first | refine jl_if_d (s := 120) (at_f rfl) (fun c120 => ?_) (fun c120 => ?_) | refine jl_if (s := 120) (at_f rfl) (fun c120 => ?_) (fun c120 => ?_)
                  · refine jl_y (yl_move (T rfl)) rfl (gd_y rfl rfl (at_f rfl)) (jl_y (yl_move (T rfl)) rfl (gd_y rfl rfl (at_f rfl)) (jl_y (yl_move (T rfl)) rfl (gd_y rfl rfl (at_f rfl)) (jl_y (yl_sliceH  (T rfl) (T rfl) Try.runUnderlying28 Try.sizeOf3 (by omega)) rfl (gd_y rfl rfl (at_f rfl)) ?_)))
                    refine jl_e (eff_call (.cons (T rfl) (.cons (T rfl) .nil)) Try.call13 (sameInts_k (k := m) (by simp; omega) _ _ _ _ (ta.take m) (ta.take m) ((sl_arr (w0 := w0) (enc := encI) (sz := 1) (e := 3) (X := H) (fun _ => rfl) hokb).mono sbt) (((sl_arr (w0 := w0) (enc := encI) (sz := 1) (e := 3) (X := H) (fun _ => rfl) hoka).mono sbt).take m) (by omega))) rfl (gd_y rfl rfl (at_f rfl)) ?_
                    rintro _ _ ⟨rfl, rfl⟩
                    rw [decide_eq_true (rfl : ta.take m = ta.take m)]
                    refine y_ (yl_pick_t (T rfl) (T rfl)) (y_ (yl_assign (T rfl)) (jl_nil (q_then (j_keep [(10, _)] ⟨at_f rfl, trivial⟩ (j_ret (q_ret rfl (.tmp (at_f rfl) .nil) ?_))))) rfl) rfl
                    first | exact ⟨_, ⟨rfl, rfl⟩, sbt⟩ | (exfalso; first | exact c99 (hsk.same i k (by omega) (by omega) c89) | omega | (rw [hsk.rgt] at c59; exact absurd c59 (by decide)) | cases c116 | cases c118)
                  · refine n_ft (n_ft (n_ft (n_ft (n_ft (y_ (yl_pick_f (T rfl) ev_c) (y_ (yl_assign (T rfl)) (jl_nil (q_then (j_keep [(10, _)] ⟨at_f rfl, trivial⟩ (j_ret (q_ret rfl (.tmp (at_f rfl) .nil) ?_))))) rfl) rfl) rfl rfl rfl rfl) rfl rfl rfl rfl) rfl rfl rfl rfl) rfl rfl rfl rfl) rfl rfl rfl rfl
                    first | exact ⟨_, ⟨rfl, rfl⟩, sbt⟩ | (exfalso; first | exact c99 (hsk.same i k (by omega) (by omega) c89) | omega | (rw [hsk.rgt] at c59; exact absurd c59 (by decide)) | cases c116 | cases c118)
                · refine n_ft (n_ft (y_ (yl_pick_f (T rfl) ev_c) (y_ (yl_move (T rfl)) (n_ft (n_ft (n_ft (n_ft (n_ft (y_ (yl_pick_f (T rfl) ev_c) (y_ (yl_assign (T rfl)) (jl_nil (q_then (j_keep [(10, _)] ⟨at_f rfl, trivial⟩ (j_ret (q_ret rfl (.tmp (at_f rfl) .nil) ?_))))) rfl) rfl) rfl rfl rfl rfl) rfl rfl rfl rfl) rfl rfl rfl rfl) rfl rfl rfl rfl) rfl rfl rfl rfl) rfl) rfl) rfl rfl rfl rfl) rfl rfl rfl rfl
                  first | exact ⟨_, ⟨rfl, rfl⟩, sbt⟩ | (exfalso; first | exact c99 (hsk.same i k (by omega) (by omega) c89) | omega | (rw [hsk.rgt] at c59; exact absurd c59 (by decide)) | cases c116 | cases c118)
end Go.Proofs.Ytdbffighngmibaa
