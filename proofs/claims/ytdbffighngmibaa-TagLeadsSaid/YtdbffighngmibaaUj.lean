/-
  Walks of the used tags and of what can be merged.
-/
import Derived.Test.YtdbffighngmibaaUi
namespace Go.Proofs.Ytdbffighngmibaa
open Go.RowKit
set_option linter.unusedVariables false
set_option linter.unusedSimpArgs false
theorem SlOk.cap {d : Sl} {k sz : Nat} (h : SlOk d k sz) : k ≤ slC d := by
  cases d with
  | nil => have : k = 0 := h; omega
  | blk n c j => exact h.1
theorem sorted_s {w0 : World} {H : List (Nat × Obj)} (q2 : Option Addr) (cap2 : Nat) (tg : List Int) (ht : IntArr w0 H q2 tg) (htl : tg.length ≤ 100000) (n1 : Nat) :
    FSpec Try.prog w0 69 #[.func (.func 85) #[] #[.pointer (some ⟨n1, 0, none⟩)]] ((n1, Cl [.slice q2 tg.length cap2] 28) :: H) (fun v H' => ∃ d : Sl, v = slV d (srt tg).length ∧ SlOk d (srt tg).length 1 ∧ H' = slH d ((srt tg).flatMap encI) 3 ++ ((n1, Cl [.slice q2 tg.length cap2] 28) :: H)) := by
  refine fn_spec Try.func69 rfl Try.ntmps69 rfl ?_
  have hsl : (srt tg).length = tg.length := by simp [srt]
  refine j_seq (j_region (y_ (yl_assign ev_c) (jl_nil (q_then (j_seq (j_region (y_ (yl_move (T rfl)) (e_ (eff_call (.cons (T rfl) .nil) Try.call83 (collect_s _ _ _ ht htl _)) ?_ rfl) rfl))))) rfl))
  rintro _ _ ⟨d, rfl, hok, rfl⟩
  refine y_ (yl_assign (T rfl)) (jl_nil (q_then (j_seq (j_region (y_ (yl_move (T rfl)) (e_ (eff_call (.cons (T rfl) .nil) Try.call84 (sort_s d _ hok (by omega))) ?_ rfl) rfl))))) rfl
  rintro _ _ ⟨rfl, rfl⟩
  refine jl_nil (q_then (j_seq (j_region (y_ (yl_move (T rfl)) (y_ (yl_assign (T rfl)) (jl_nil (q_then (j_ret (q_ret rfl (.tmp (at_f rfl) .nil) ?_)))) rfl) rfl))))
  exact ⟨_, ⟨d, by rw [hsl]; rfl, by rw [hsl]; exact hok, rfl⟩, sbt⟩
theorem used_p {w0 : World} {H : List (Nat × Obj)} (q2 : Option Addr) (cap2 : Nat) (tg : List Int) (ht : IntArr w0 H q2 tg) (htl : tg.length ≤ 100000) (hall : ∀ t ∈ tg, 1 ≤ t ∧ t ≤ 65535) :
    FSpec Try.prog w0 47 #[.slice q2 tg.length cap2] H (fun v H' => ∃ d : Sl, v = slV d (usedF tg).length ∧ SlOk d (usedF tg).length 1 ∧ H' = slH d ((usedF tg).flatMap encI) 3 ++ H) := by
  refine fn_spec Try.func47 rfl Try.ntmps47 rfl ?_
  have hsl : (srt tg).length = tg.length := by simp [srt]
  rw [← used_eq hall]
  refine j_seq (j_region (y_ (yl_assign ev_c) (jl_nil (q_then (j_seq (j_region (y_ (yl_move (T rfl)) (e_ (eff_call (.cons (T rfl) .nil) Try.call70 (values_s _ _ _)) ?_ rfl) rfl))))) rfl))
  rintro _ _ ⟨n1, rfl, rfl⟩
  refine e_ (eff_call (.cons (T rfl) .nil) Try.call69 (sorted_s _ _ _ ht htl _)) ?_ rfl
  rintro _ _ ⟨d, rfl, hok, rfl⟩
  refine e_ (eff_call (.cons (T rfl) .nil) Try.call68 (compact_s d _ hok (by omega))) ?_ rfl
  rintro _ _ ⟨d', rfl, hok', rfl⟩
  refine y_ (yl_assign (T rfl)) (jl_nil (q_then (j_ret (q_ret rfl (.tmp (at_f rfl) .nil) ?_)))) rfl
  exact ⟨_, ⟨d', rfl, hok', rfl⟩, sbt⟩
theorem apart_p {w0 : World} {H : List (Nat × Obj)} (n : Nm) (hn : NetM w0 H n) (q : Option Addr) (cap : Nat) (l : List Wm) (hw : WaysM w0 H q l) (hg : Good n.links l) (hl5 : l.length ≤ 100000) (q2 : Option Addr) (cap2 : Nat) (tg : List Int) (ht : IntArr w0 H q2 tg) (htl : tg.length ≤ 100000) (hG : Gw n l) (hel : tg.length = l.length) (b1 b2 b3 b4 r : Nat) (pl : PlanL) (h1 : Fnd H b1 (Cl [.slice q l.length cap] 27)) (h2 : Fnd H b2 (Cl [.slice q2 tg.length cap2] 28)) (h3 : Fnd H b3 (Cl [.map (some r)] 87)) (h4 : Fnd H b4 (Cl (encNm n) 26)) (hf : Fnd H r (mapO encK2 encHv pl)) (hrep : Rep n.links pl (pairs l tg)) (hc : Cons n.links (pairs l tg)) (s t : Int) :
    FSpec Try.prog w0 46 #[.int .i64 s, .int .i64 t, .pointer (some ⟨b1, 0, none⟩), .pointer (some ⟨b2, 0, none⟩), .pointer (some ⟨b3, 0, none⟩), .pointer (some ⟨b4, 0, none⟩)] H (Still (.bool (apI n l tg s t)) H) := by
  refine fn_spec Try.func46 rfl Try.ntmps46 rfl ?_
  have m1 := c_o (w0 := w0) (i := 0) (hf := h1)
  have m2 := c_o (w0 := w0) (i := 0) (hf := h2)
  have m3 := c_o (w0 := w0) (i := 0) (hf := h3)
  have m4 := cs_o (w0 := w0) (hf := h4)
  rw [apI_fits hG hel hc]
  refine j_seq (j_region (y_ (yl_assign ev_c) (jl_nil (q_then (j_seq (j_seq (j_region (y_ (yl_load (T rfl) Try.isAgg27 (by first | exact c_o | exact c_m (m1) | exact c_m (m2) | exact c_m (m3) | exact c_m (m4) | exact c_m (ht.f0 (i := k) (by omega) rfl))) ?_ rfl)))))) rfl))
  refine y_ (yl_len (T rfl) Try.runUnderlying27) (y_ (yl_move ev_c) (jl_nil (q_then (j_block ?_))) rfl) rfl
  refine j_loopH (X := Nat) (V := fun k => [(13, .int .i64 (k : Nat))]) (C := [(0, _), (1, _), (3, _), (4, _), (5, _), (11, _), (12, _)]) (φ := fun k => k ≤ l.length ∧ ∀ i, i < k → gd tg i = s → fitsP n.links (planR n.links (pairs l tg)) (gd l i).way t = true) (μ := fun k => l.length - k) (x0 := 0) ?_ ⟨at_f rfl, at_f rfl, at_f rfl, at_f rfl, at_f rfl, at_f rfl, at_f rfl, trivial⟩ ⟨(by first | exact at_f rfl | (refine at_e (at_f rfl) (vint ?_); omega) | (refine at_e (at_f rfl) ?_; simp; done)), trivial⟩ ?_
  · exact ⟨Nat.zero_le _, fun i hi => by omega⟩
  rintro k ⟨hk, hall⟩
  refine j_seq (j_region (y_ (yl_lss (T rfl) (T rfl)) (jl_nil (q_then (j_seq ?_))) rfl))
  first | refine j_cond_d (at_f rfl) (fun c14 => ?_) (fun c14 => ?_) | refine j_cond (at_f rfl) (fun c14 => ?_) (fun c14 => ?_)
  · refine j_skip (q_then (j_seq (j_block (j_seq (j_region (y_ (yl_move (T rfl)) (y_ (yl_ixQ (T rfl) (T rfl) Try.runUnderlying27 Try.sizeOf48 (by omega) (by first | exact rfl | exact hw.arr.b (i := k) (by omega) | exact ht.b (i := k) (by omega))) ?_ rfl) rfl))))))
    refine y_ (yl_loadA (T rfl) Try.isAgg48 Try.sizeOf48 rfl (by first | exact cs_o | exact cs_m (hw.arr.cs (i := k) (by omega)) | exact cs_m (m1) | exact cs_m (m2) | exact cs_m (m3) | exact cs_m (m4) | exact cs_m (ht.f0 (i := k) (by omega) rfl))) ?_ rfl
    refine e_ (eff_alloc Try.zeroValue48 cs_) ?_ rfl
    rintro _ _ ⟨n10, rfl, rfl⟩
    refine y_ (yl_assign (T rfl)) ?_ rfl
    first | refine jl_e (eff_sW (T rfl) (T rfl) Try.sizeOf48) rfl gd_n ?_
    rintro _ _ ⟨rfl, rfl⟩
    refine jl_nil (q_then (j_seq (j_region (y_ (yl_load (T rfl) Try.isAgg28 (by first | exact c_o | exact c_m (m1) | exact c_m (m2) | exact c_m (m3) | exact c_m (m4) | exact c_m (ht.f0 (i := k) (by omega) rfl))) ?_ rfl))))
    refine y_ (yl_move (T rfl)) (y_ (yl_ixQ (T rfl) (T rfl) Try.runUnderlying28 Try.sizeOf3 (by omega) (by first | exact rfl | exact hw.arr.b (i := k) (by omega) | exact ht.b (i := k) (by omega))) ?_ rfl) rfl
    refine y_ (yl_load (T rfl) Try.isAgg3 (by first | exact c_o | exact c_m (m1) | exact c_m (m2) | exact c_m (m3) | exact c_m (m4) | exact c_m (ht.f0 (i := k) (by omega) rfl))) ?_ rfl
    refine y_ (yl_move (T rfl)) (y_ (yl_eql (T rfl) (T rfl)) (y_ (yl_move (T rfl)) ?_ rfl) rfl) rfl
    first | refine jl_if_d (s := 24) (at_f rfl) (fun c24 => ?_) (fun c24 => ?_) | refine jl_if (s := 24) (at_f rfl) (fun c24 => ?_) (fun c24 => ?_)
    · refine jl_y (yl_load (T rfl) Try.isAgg87 (by first | exact c_o | exact c_m (m1) | exact c_m (m2) | exact c_m (m3) | exact c_m (m4) | exact c_m (ht.f0 (i := k) (by omega) rfl))) rfl (gd_y rfl rfl (at_f rfl)) ?_
      refine jl_y (yl_loadA (T rfl) Try.isAgg26 Try.sizeOf26 rfl (by first | exact cs_o | exact cs_m (m1) | exact cs_m (m2) | exact cs_m (m3) | exact cs_m (m4) | exact cs_m (ht.f0 (i := k) (by omega) rfl))) rfl (gd_y rfl rfl (at_f rfl)) ?_
      refine jl_y (yl_loadA (T rfl) Try.isAgg48 Try.sizeOf48 rfl (by first | exact cs_o | exact cs_m (m1) | exact cs_m (m2) | exact cs_m (m3) | exact cs_m (m4) | exact cs_m (ht.f0 (i := k) (by omega) rfl))) rfl (gd_y rfl rfl (at_f rfl)) ?_
      refine jl_y (yl_move (T rfl)) rfl (gd_y rfl rfl (at_f rfl)) (jl_y (yl_call (.cons (T rfl) (.cons (T rfl) (.cons (T rfl) (.cons (T rfl) .nil)))) Try.call40 (fun H' hs => fits_s n (hn.mono (List.Sublist.trans sbt hs)) (gd l k) ((hw.at (i := k) (by omega)).mono (List.Sublist.trans sbt hs)) (hg.at (by omega)).2 r pl (hf.mono (List.Sublist.trans sbt hs)) _)) rfl (gd_y rfl rfl (at_f rfl)) ?_)
      first | refine jl_y (yl_not_d (T rfl)) rfl (gd_y rfl rfl (at_f rfl)) ?_ | refine jl_y (yl_not (T rfl)) rfl (gd_y rfl rfl (at_f rfl)) ?_
      refine y_ (yl_pick_t (T rfl) (T rfl)) (jl_nil (q_then (j_keep [(0, _), (1, _), (3, _), (4, _), (5, _), (11, _), (12, _), (13, _), (31, _)] ⟨at_f rfl, at_f rfl, at_f rfl, at_f rfl, at_f rfl, at_f rfl, at_f rfl, at_f rfl, at_f rfl, trivial⟩ ?_))) rfl
      first | refine j_cond_d (at_f rfl) (fun c31 => ?_) (fun c31 => ?_) | refine j_cond (at_f rfl) (fun c31 => ?_) (fun c31 => ?_)
      · refine j_seq (j_region (y_ (yl_assign ev_c) (jl_nil (q_then (j_ret (q_block_ret (q_then_ret (q_loop_ret (q_block_ret (q_then_ret (q_ret rfl (.tmp (at_f rfl) .nil) ?_))))))))) rfl))
        rw [fitsL_eq hrep] at c31
        exact ⟨_, ⟨vbool (by symm; rw [List.all_eq_false]; refine ⟨k, List.mem_range.2 (by omega), ?_⟩; rw [c24]; simpa using c31), rfl⟩, sbt⟩
      · refine j_skip (q_block (q_then (j_region (y_ (yl_add (T rfl) ev_c (by omega)) ?_ rfl))))
        refine y_ (yl_move (T rfl)) (jl_nil ?_) rfl
        refine q_loopC (k + 1) ?_ ?_ ⟨(by first | exact at_f rfl | (refine at_e (at_f rfl) (vint ?_); omega) | (refine at_e (at_f rfl) ?_; simp; done)), trivial⟩ ⟨at_f rfl, at_f rfl, at_f rfl, at_f rfl, at_f rfl, at_f rfl, at_f rfl, trivial⟩ ?_
        · refine ⟨by omega, fun i hi hti => ?_⟩
          by_cases e : i = k
          · subst e; first | exact absurd hti c24 | (rw [fitsL_eq hrep] at c31; simpa using c31) | (rw [fitsL_eq hrep] at c30; simpa using c30)
          · exact hall i (by omega) hti
        · first | omega | (simp only []; omega)
        · exact sbt
    · refine n_ft (n_ft (n_ft (n_ft (n_ft (n_ft (y_ (yl_pick_f (T rfl) ev_c) (jl_nil (q_then (j_keep [(0, _), (1, _), (3, _), (4, _), (5, _), (11, _), (12, _), (13, _), (31, _)] ⟨at_f rfl, at_f rfl, at_f rfl, at_f rfl, at_f rfl, at_f rfl, at_f rfl, at_f rfl, at_f rfl, trivial⟩ (j_cond_f (at_f rfl) (j_skip (q_block (q_then (j_region (y_ (yl_add (T rfl) ev_c (by omega)) ?_ rfl))))))))) rfl) rfl rfl rfl rfl) rfl rfl rfl rfl) rfl rfl rfl rfl) rfl rfl rfl rfl) rfl rfl rfl rfl) rfl rfl rfl rfl
      refine y_ (yl_move (T rfl)) (jl_nil ?_) rfl
      refine q_loopC (k + 1) ?_ ?_ ⟨(by first | exact at_f rfl | (refine at_e (at_f rfl) (vint ?_); omega) | (refine at_e (at_f rfl) ?_; simp; done)), trivial⟩ ⟨at_f rfl, at_f rfl, at_f rfl, at_f rfl, at_f rfl, at_f rfl, at_f rfl, trivial⟩ ?_
      · refine ⟨by omega, fun i hi hti => ?_⟩
        by_cases e : i = k
        · subst e; first | exact absurd hti c24 | (rw [fitsL_eq hrep] at c31; simpa using c31) | (rw [fitsL_eq hrep] at c30; simpa using c30)
        · exact hall i (by omega) hti
      · first | omega | (simp only []; omega)
      · exact sbt
  · refine j_exit (q_then_exit (q_loop_exit (q_block_hit (q_then (j_seq (j_region (y_ (yl_assign ev_c) (jl_nil (q_then (j_ret (q_ret rfl (.tmp (at_f rfl) .nil) ?_)))) rfl)))))))
    exact ⟨_, ⟨vbool (by symm; rw [List.all_eq_true]; intro i hi; have hi := List.mem_range.1 hi; by_cases hs : gd tg i = s; exact (by rw [hall i (by omega) hs]; simp); simp [hs]), rfl⟩, sbt⟩
theorem made_ok {w0 : World} {H : List (Nat × Obj)} (n : Nm) (hn : NetM w0 H n) (q : Option Addr) (cap : Nat) (l : List Wm) (hw : WaysM w0 H q l) (hg : Good n.links l) (hl5 : l.length ≤ 100000) (q2 : Option Addr) (cap2 : Nat) (tg : List Int) (ht : IntArr w0 H q2 tg) (htl : tg.length ≤ 100000) (hel : tg.length = l.length) (hmd : madF n.links [] (l.map (·.way)) tg = true) :
    FSpec Try.prog w0 45 #[.agg (encNm n).toArray, .slice q l.length cap, .slice q2 tg.length cap2] H (fun v H' => ∃ r pl, v = .tuple #[.map (some r), .bool true] ∧ H' = (r, mapO encK2 encHv pl) :: H ∧ Rep n.links pl (pairs l tg) ∧ PlOk l l.length pl) :=
  (made_s n hn q cap l hw hg hl5 q2 cap2 tg ht htl hel).mono fun v H' h => by
    rcases h with ⟨_, h⟩ | ⟨h, _⟩
    · exact h
    · rw [hmd] at h; cases h
theorem merge_s {w0 : World} {H : List (Nat × Obj)} (n : Nm) (hn : NetM w0 H n) (q : Option Addr) (cap : Nat) (l : List Wm) (hw : WaysM w0 H q l) (hg : Good n.links l) (hl5 : l.length ≤ 100000) (q2 : Option Addr) (cap2 : Nat) (tg : List Int) (ht : IntArr w0 H q2 tg) (htl : tg.length ≤ 100000) (hG : Gw n l) (hel : tg.length = l.length) (hrt : rgtF n.links [] (l.map (·.way)) tg = true) :
    FSpec Try.prog w0 16 #[.agg (encNm n).toArray, .slice q l.length cap, .slice q2 tg.length cap2] H (fun v H' => v = .tuple #[.int .i64 (mgOr (mgL (apI n l tg) (usedF tg))).1, .int .i64 (mgOr (mgL (apI n l tg) (usedF tg))).2, .bool (mgL (apI n l tg) (usedF tg)).isSome] ∧ H' = H) := by
  refine fn_spec Try.func16 rfl Try.ntmps16 rfl ?_
  have hrc := rgt_cons hG hel hrt
  have hmd : madF n.links [] (l.map (·.way)) tg = true := by rw [rgtF_eq] at hrt; simp at hrt; exact hrt.2
  have hall : ∀ t ∈ tg, 1 ≤ t ∧ t ≤ 65535 := fun t hh => by obtain ⟨i, hi, rfl⟩ := List.getElem_of_mem hh; rw [← gd_getElem hi]; exact hrc.2 i hi
  refine j_seq (j_region (e_ (eff_box (T rfl) cs_) ?_ rfl))
  rintro _ _ ⟨n3, rfl, rfl⟩
  refine e_ (eff_box (T rfl) cs_) ?_ rfl
  rintro _ _ ⟨n4, rfl, rfl⟩
  refine e_ (eff_box (T rfl) cs_) ?_ rfl
  rintro _ _ ⟨n5, rfl, rfl⟩
  refine y_ (yl_assign ev_c) (y_ (yl_assign ev_c) (y_ (yl_assign ev_c) (jl_nil (q_then (j_seq (j_region (y_ (yl_loadA (T rfl) Try.isAgg26 Try.sizeOf26 rfl (by first | exact cs_o | exact (Cell.mono (((sl_arr (enc := encI) (sz := 1) (e := 3) (X := H) (fun _ => rfl) hok)).f0 (i := i) (by omega) rfl) sbt) | exact (Cell.mono (Arr.f0 (Arr.drop (sl_arr (w0 := w0) (enc := encI) (sz := 1) (e := 3) (X := H) (fun _ => rfl) hok) hok.cap (i + 1)) (i := k) (by simp; omega) rfl) sbt))) ?_ rfl))))) rfl) rfl) rfl
  refine y_ (yl_load (T rfl) Try.isAgg27 (by first | exact c_o | exact (Cell.mono (((sl_arr (enc := encI) (sz := 1) (e := 3) (X := H) (fun _ => rfl) hok)).f0 (i := i) (by omega) rfl) sbt) | exact (Cell.mono (Arr.f0 (Arr.drop (sl_arr (w0 := w0) (enc := encI) (sz := 1) (e := 3) (X := H) (fun _ => rfl) hok) hok.cap (i + 1)) (i := k) (by simp; omega) rfl) sbt))) ?_ rfl
  refine y_ (yl_load (T rfl) Try.isAgg28 (by first | exact c_o | exact (Cell.mono (((sl_arr (enc := encI) (sz := 1) (e := 3) (X := H) (fun _ => rfl) hok)).f0 (i := i) (by omega) rfl) sbt) | exact (Cell.mono (Arr.f0 (Arr.drop (sl_arr (w0 := w0) (enc := encI) (sz := 1) (e := 3) (X := H) (fun _ => rfl) hok) hok.cap (i + 1)) (i := k) (by simp; omega) rfl) sbt))) ?_ rfl
  refine e_ (eff_call (.cons (T rfl) (.cons (T rfl) (.cons (T rfl) .nil))) Try.call45 (made_ok n hn.mono _ _ l hw.mono hg hl5 _ _ tg ht.m htl hel hmd)) ?_ rfl
  rintro _ _ ⟨r, pl, rfl, rfl, hrep, hplk⟩
  refine y_ (yl_move (T rfl)) (y_ (yl_extract (T rfl) rfl) (y_ (yl_extract (T rfl) rfl) (e_ (eff_alloc Try.zeroValue87 cs_) ?_ rfl) rfl) rfl) rfl
  rintro _ _ ⟨n9, rfl, rfl⟩
  first | refine jl_e (eff_sW (T rfl) (T rfl) Try.sizeOf87) rfl gd_n ?_ | refine jl_e (eff_s1 (T rfl) (T rfl) rfl Try.sizeOf87) rfl gd_n ?_
  rintro _ _ ⟨rfl, rfl⟩
  refine y_ (yl_assign (T rfl)) (jl_nil (q_then (j_seq (j_region (y_ (yl_makeFunc (.cons (T rfl) (.cons (T rfl) (.cons (T rfl) (.cons (T rfl) .nil))))) (y_ (yl_assign (T rfl)) (jl_nil (q_then (j_seq (j_region (y_ (yl_load (T rfl) Try.isAgg28 (by first | exact c_o | exact (Cell.mono (((sl_arr (enc := encI) (sz := 1) (e := 3) (X := H) (fun _ => rfl) hok)).f0 (i := i) (by omega) rfl) sbt) | exact (Cell.mono (Arr.f0 (Arr.drop (sl_arr (w0 := w0) (enc := encI) (sz := 1) (e := 3) (X := H) (fun _ => rfl) hok) hok.cap (i + 1)) (i := k) (by simp; omega) rfl) sbt))) ?_ rfl))))) rfl) rfl))))) rfl
  refine e_ (eff_call (.cons (T rfl) .nil) Try.call47 (used_p _ _ tg ht.m htl hall)) ?_ rfl
  rintro _ _ ⟨d, rfl, hok, rfl⟩
  generalize hus : usedF tg = us at *
  have hul : us.length ≤ 65535 := by rw [← hus]; exact usedTo_len tg 65535
  refine y_ (yl_assign (T rfl)) (jl_nil (q_then (j_seq (j_seq (j_region (y_ (yl_move (T rfl)) (y_ (yl_len (T rfl) Try.runUnderlying28) (y_ (yl_move ev_c) (jl_nil (q_then (j_keep [(11, _), (12, _), (27, _), (28, _), (29, _)] ⟨at_f rfl, at_f rfl, at_f rfl, at_f rfl, at_f rfl, trivial⟩ (j_block ?_)))) rfl) rfl) rfl)))))) rfl
  refine j_loopH (X := Nat) (V := fun i => [(29, .int .i64 (i : Nat))]) (C := [(11, _), (12, _), (27, _), (28, _)]) (φ := fun i => i ≤ us.length ∧ mgL (apI n l tg) (us.drop i) = mgL (apI n l tg) us) (μ := fun i => us.length - i) (x0 := 0) ?_ ⟨at_f rfl, at_f rfl, at_f rfl, at_f rfl, trivial⟩ ⟨(by first | exact at_f rfl | (refine at_e (at_f rfl) (vint ?_); omega) | (refine at_e (at_f rfl) ?_; simp; done)), trivial⟩ ?_
  · exact ⟨Nat.zero_le _, rfl⟩
  rintro i ⟨hi, hmg⟩
  refine j_seq (j_region (y_ (yl_lss (T rfl) (T rfl)) (jl_nil (q_then (j_seq ?_))) rfl))
  first | refine j_cond_d (at_f rfl) (fun c30 => ?_) (fun c30 => ?_) | refine j_cond (at_f rfl) (fun c30 => ?_) (fun c30 => ?_)
  · refine j_skip (q_then (j_seq (j_block (j_seq (j_region (y_ (yl_move (T rfl)) (y_ (yl_ixQ (T rfl) (T rfl) Try.runUnderlying28 Try.sizeOf3 (by omega) (by first | exact rfl | exact hok.bas (by omega) | exact Arr.b (Arr.drop (sl_arr (w0 := w0) (enc := encI) (sz := 1) (e := 3) (X := H) (fun _ => rfl) hok) hok.cap (i + 1)) (i := k) (by simp; omega))) ?_ rfl) rfl))))))
    refine y_ (yl_load (T rfl) Try.isAgg3 (by first | exact c_o | exact (Cell.mono (((sl_arr (enc := encI) (sz := 1) (e := 3) (X := H) (fun _ => rfl) hok)).f0 (i := i) (by omega) rfl) sbt) | exact (Cell.mono (Arr.f0 (Arr.drop (sl_arr (w0 := w0) (enc := encI) (sz := 1) (e := 3) (X := H) (fun _ => rfl) hok) hok.cap (i + 1)) (i := k) (by simp; omega) rfl) sbt))) ?_ rfl
    refine y_ (yl_assign (T rfl)) (y_ (yl_assign (T rfl)) (jl_nil (q_then (j_seq (j_region (y_ (yl_move (T rfl)) (y_ (yl_move (T rfl)) (y_ (yl_add (T rfl) ev_c (by omega)) ?_ rfl) rfl) rfl))))) rfl) rfl
    refine y_ (yl_sliceL (k := i + 1) (T rfl) (T rfl) Try.runUnderlying28 Try.sizeOf3 (by omega)) ?_ rfl
    refine y_ (yl_len (T rfl) Try.runUnderlying28) (y_ (yl_move ev_c) (jl_nil (q_then (j_block ?_))) rfl) rfl
    refine j_loopH (X := Nat) (V := fun k => [(39, .int .i64 (k : Nat))]) (C := [(11, _), (12, _), (14, _), (27, _), (28, _), (29, _), (37, _), (38, _)]) (φ := fun k => k ≤ us.length - (i + 1) ∧ ((us.drop (i + 1)).drop k).find? (apI n l tg (gd us i)) = (us.drop (i + 1)).find? (apI n l tg (gd us i))) (μ := fun k => us.length - (i + 1) - k) (x0 := 0) ?_ ⟨at_f rfl, at_f rfl, at_f rfl, at_f rfl, at_f rfl, at_f rfl, at_f rfl, at_f rfl, trivial⟩ ⟨(by first | exact at_f rfl | (refine at_e (at_f rfl) (vint ?_); omega) | (refine at_e (at_f rfl) ?_; simp; done)), trivial⟩ ?_
    · exact ⟨Nat.zero_le _, rfl⟩
    rintro k ⟨hk, hfd⟩
    refine j_seq (j_region (y_ (yl_lss (T rfl) (T rfl)) (jl_nil (q_then (j_seq ?_))) rfl))
    first | refine j_cond_d (at_f rfl) (fun c40 => ?_) (fun c40 => ?_) | refine j_cond (at_f rfl) (fun c40 => ?_) (fun c40 => ?_)
    · refine j_skip (q_then (j_seq (j_block (j_seq (j_region (y_ (yl_ixQ (T rfl) (T rfl) Try.runUnderlying28 Try.sizeOf3 (by first | omega | (simp; omega)) (by first | exact rfl | exact hok.bas (by omega) | exact Arr.b (Arr.drop (sl_arr (w0 := w0) (enc := encI) (sz := 1) (e := 3) (X := H) (fun _ => rfl) hok) hok.cap (i + 1)) (i := k) (by simp; omega))) ?_ rfl))))))
      refine y_ (yl_load (T rfl) Try.isAgg3 (by first | exact c_o | exact (Cell.mono (((sl_arr (enc := encI) (sz := 1) (e := 3) (X := H) (fun _ => rfl) hok)).f0 (i := i) (by omega) rfl) sbt) | exact (Cell.mono (Arr.f0 (Arr.drop (sl_arr (w0 := w0) (enc := encI) (sz := 1) (e := 3) (X := H) (fun _ => rfl) hok) hok.cap (i + 1)) (i := k) (by simp; omega) rfl) sbt))) ?_ rfl
      refine y_ (yl_assign (T rfl)) (jl_nil (q_then (j_seq (j_region (y_ (yl_move (T rfl)) (y_ (yl_move (T rfl)) (y_ (yl_move (T rfl)) ?_ rfl) rfl) rfl))))) rfl
      refine y_ (yl_callV (T rfl) (.cons (T rfl) (.cons (T rfl) .nil)) Try.call46 (fun H' hs => apart_p n (hn.mono (List.Sublist.trans sbt hs)) q cap l (hw.mono (List.Sublist.trans sbt hs)) hg hl5 q2 cap2 tg (ht.m (List.Sublist.trans sbt hs)) htl hG hel _ _ _ _ r pl (Fnd.mono (H' := _) (by repeat (first | exact fnd_h | refine fnd_t ?_ | refine fnd_a ?_)) hs) (Fnd.mono (H' := _) (by repeat (first | exact fnd_h | refine fnd_t ?_ | refine fnd_a ?_)) hs) (Fnd.mono (H' := _) (by repeat (first | exact fnd_h | refine fnd_t ?_ | refine fnd_a ?_)) hs) (Fnd.mono (H' := _) (by repeat (first | exact fnd_h | refine fnd_t ?_ | refine fnd_a ?_)) hs) (Fnd.mono (H' := _) (by repeat (first | exact fnd_h | refine fnd_t ?_ | refine fnd_a ?_)) hs) hrep hrc.1 _ _)) ?_ rfl
      refine jl_nil (q_then ?_)
      first | refine j_cond_d (at_f rfl) (fun c46 => ?_) (fun c46 => ?_) | refine j_cond (at_f rfl) (fun c46 => ?_) (fun c46 => ?_)
      · refine j_seq (j_region (y_ (yl_move (T rfl)) (y_ (yl_move (T rfl)) (y_ (yl_assign (T rfl)) (y_ (yl_assign (T rfl)) (y_ (yl_assign ev_c) (jl_nil (q_then (j_ret (q_block_ret (q_then_ret (q_loop_ret (q_block_ret (q_block_ret (q_then_ret (q_loop_ret (q_block_ret (q_then_ret (q_ret rfl (.tmp (at_f rfl) (.tmp (at_f rfl) (.tmp (at_f rfl) .nil))) ?_))))))))))))) rfl) rfl) rfl) rfl) rfl))
        have e : mgL (apI n l tg) us = some (gd us i, gd (us.drop (i + 1)) k) := by rw [← hmg, mg_go (i := i) (by omega), ← hfd, find_go (us := us.drop (i + 1)) (k := k) (by simp; omega), if_pos c46]
        exact ⟨_, ⟨by rw [e]; rfl, rfl⟩, sbt⟩
      · refine j_skip (q_block (q_then (j_region (y_ (yl_add (T rfl) ev_c (by omega)) ?_ rfl))))
        refine y_ (yl_move (T rfl)) (jl_nil ?_) rfl
        refine q_loopC (k + 1) ?_ ?_ ⟨(by first | exact at_f rfl | (refine at_e (at_f rfl) (vint ?_); omega) | (refine at_e (at_f rfl) ?_; simp; done)), trivial⟩ ⟨at_f rfl, at_f rfl, at_f rfl, at_f rfl, at_f rfl, at_f rfl, at_f rfl, at_f rfl, trivial⟩ ?_
        · exact ⟨by omega, by rw [← hfd, find_go (us := us.drop (i + 1)) (k := k) (by simp; omega), if_neg (by simpa using c46)]⟩
        · first | omega | (simp only []; omega)
        · exact sbt
    · refine j_exit (q_then_exit (q_loop_exit (q_block_hit (q_block (q_then (j_region (y_ (yl_add (T rfl) ev_c (by omega)) ?_ rfl)))))))
      refine y_ (yl_move (T rfl)) (jl_nil ?_) rfl
      refine q_loopC (i + 1) ?_ ?_ ⟨(by first | exact at_f rfl | (refine at_e (at_f rfl) (vint ?_); omega) | (refine at_e (at_f rfl) ?_; simp; done)), trivial⟩ ⟨at_f rfl, at_f rfl, at_f rfl, at_f rfl, trivial⟩ ?_
      · rw [drop_end (l := us.drop (i + 1)) (k := k) (by simp; omega)] at hfd
        exact ⟨by omega, by rw [← hmg, mg_go (i := i) (by omega), ← hfd]; rfl⟩
      · first | omega | (simp only []; omega)
      · exact sbt
  · refine j_exit (q_then_exit (q_loop_exit (q_block_hit (q_then (j_seq (j_region (y_ (yl_assign ev_c) (y_ (yl_assign ev_c) (y_ (yl_assign ev_c) (jl_nil (q_then (j_ret (q_ret rfl (.tmp (at_f rfl) (.tmp (at_f rfl) (.tmp (at_f rfl) .nil))) ?_)))) rfl) rfl) rfl)))))))
    rw [drop_end (l := us) (k := i) (by omega)] at hmg
    exact ⟨_, ⟨by rw [← hmg]; rfl, rfl⟩, sbt⟩
end Go.Proofs.Ytdbffighngmibaa
