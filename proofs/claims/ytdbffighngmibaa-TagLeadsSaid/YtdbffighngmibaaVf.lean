/-
  Walks of the specification of rules.
-/
import Derived.Test.YtdbffighngmibaaVe
namespace Go.Proofs.Ytdbffighngmibaa
open Go.RowKit
set_option linter.unusedVariables false
set_option linter.unusedSimpArgs false
theorem bs39_1_0 (a0 : Option Addr) (a0n a0c : Nat) (w : World) : (Instr.buildSlice 39 1 #[(0, .slice a0 a0n a0c)]).run Try.prog w = .ok (.slice (some ⟨w.heap.size, 0, none⟩) 1 1) (w.alloc (Cl [.slice a0 a0n a0c] 51)) := by kernel_rfl
theorem bs51_1_0 (a0 : Int) (a1 : Int) (a2 : Int) (a3 : Int) (a4 : Int) (a5 : Int) (a6 : Int) (a7 : Int) (a8 : Int) (a9 : Int) (a10 : Int) (a11 : Int) (a12 : Int) (a13 : Int) (a14 : Int) (a15 : Int) (a16 : Int) (a17 : Int) (a18 : Int) (a19 : Int) (a20 : Int) (a21 : Int) (a22 : Option Addr) (a22n a22c : Nat) (w : World) : (Instr.buildSlice 51 1 #[(0, .agg #[.int .i64 a0, .int .i64 a1, .int .i64 a2, .int .i64 a3, .int .i64 a4, .int .i64 a5, .int .i64 a6, .int .i64 a7, .int .i64 a8, .int .i64 a9, .int .i64 a10, .int .i64 a11, .int .i64 a12, .int .i64 a13, .int .i64 a14, .int .i64 a15, .int .i64 a16, .int .i64 a17, .int .i64 a18, .int .i64 a19, .int .i64 a20, .int .i64 a21, .slice a22 a22n a22c])]).run Try.prog w = .ok (.slice (some ⟨w.heap.size, 0, none⟩) 1 1) (w.alloc (Cl [.int .i64 a0, .int .i64 a1, .int .i64 a2, .int .i64 a3, .int .i64 a4, .int .i64 a5, .int .i64 a6, .int .i64 a7, .int .i64 a8, .int .i64 a9, .int .i64 a10, .int .i64 a11, .int .i64 a12, .int .i64 a13, .int .i64 a14, .int .i64 a15, .int .i64 a16, .int .i64 a17, .int .i64 a18, .int .i64 a19, .int .i64 a20, .int .i64 a21, .slice a22 a22n a22c] 56)) := by kernel_rfl
theorem rRules_s {w0 : World} {H : List (Nat × Obj)} (n : Nm) (hn : NetM w0 H n) (q : Option Addr) (cap : Nat) (l : List Wm) (hw : WaysM w0 H q l) (hg : Gw n l) (hl5 : l.length ≤ 100000) (q2 : Option Addr) (cap2 : Nat) (tg : List Int) (ht : IntArr w0 H q2 tg) (htl : tg.length ≤ 100000) (hel : tg.length = l.length) (hc : Cons n.links (pairs l tg)) (hN : n.nodes.length ≤ 1000000) (top : Int) :
    FSpec Try.prog w0 19 #[.agg (encNm n).toArray, .slice q l.length cap, .slice q2 tg.length cap2, .int .i64 top] H (fun v H' => ∃ (d : Sl) (ts : List Tb) (e : Int), v = .tuple #[slV d ts.length, .int .i64 e] ∧ SlOk d ts.length 1 ∧ (∀ t ∈ ts, SlOk t.d t.rs.length 23) ∧ H' = tsH ts ++ (slH d (ts.flatMap encTb) 51 ++ H) ∧ rulesRes n.nodes.length top (usedF tg) (planR n.links (pairs l tg)) = (ts.map (fun t => t.rs.map (·.r)), e)) := by
  refine fn_spec Try.func19 rfl Try.ntmps19 rfl ?_
  have hln := hn.ln
  refine j_seq (j_region (e_ (eff_box (T rfl) cs_) ?_ rfl))
  rintro _ _ ⟨n4, rfl, rfl⟩
  refine y_ (yl_assign ev_c) (y_ (yl_assign ev_c) (jl_nil (q_then (j_seq (j_seq (j_region (y_ (yl_move (T rfl)) (y_ (yl_lss (T rfl) ev_c) (y_ (yl_move (T rfl)) ?_ rfl) rfl) rfl)))))) rfl) rfl
  first | refine jl_if_d (s := 21) (at_f rfl) (fun c21 => ?_) (fun c21 => ?_) | refine jl_if (s := 21) (at_f rfl) (fun c21 => ?_) (fun c21 => ?_)
  · refine n_tf (n_tf (y_ (yl_pick_t (T rfl) ev_c) (jl_nil (q_then (j_cond_t (at_f rfl) (j_seq (j_region (y_ (yl_assign ev_c) (y_ (yl_assign ev_c) (jl_nil (q_then (j_ret (q_then_ret (q_ret rfl (.tmp (at_f rfl) (.tmp (at_f rfl) .nil)) ?_))))) rfl) rfl)))))) rfl) rfl rfl rfl rfl) rfl rfl rfl rfl
    exact ⟨H, ⟨.nil, [], 1, rfl, rfl, by simp, rfl, by rw [rules_arg (by omega)]; rfl⟩, sbt⟩
  · refine jl_y (yl_move (T rfl)) rfl (gd_y rfl rfl (at_f rfl)) (jl_y (yl_gtr (T rfl) ev_c) rfl (gd_y rfl rfl (at_f rfl)) (y_ (yl_pick_f (T rfl) (T rfl)) (jl_nil (q_then ?_)) rfl))
    first | refine j_cond_d (at_f rfl) (fun c24 => ?_) (fun c24 => ?_) | refine j_cond (at_f rfl) (fun c24 => ?_) (fun c24 => ?_)
    · refine j_seq (j_region (y_ (yl_assign ev_c) (y_ (yl_assign ev_c) (jl_nil (q_then (j_ret (q_then_ret (q_ret rfl (.tmp (at_f rfl) (.tmp (at_f rfl) .nil)) ?_))))) rfl) rfl))
      exact ⟨H, ⟨.nil, [], 1, rfl, rfl, by simp, rfl, by rw [rules_arg (by omega)]; rfl⟩, sbt⟩
    · refine j_skip (q_then (j_seq (j_region (y_ (yl_move (T rfl)) (e_ (eff_call (.cons (T rfl) .nil) Try.call48 (rUsed_s _ _ tg ht.m htl)) ?_ rfl) rfl))))
      rintro _ _ ⟨du, rfl, hoku, rfl⟩
      generalize hus : usedF tg = us at *
      have hul : us.length ≤ 65535 := by rw [← hus]; exact usedTo_len tg 65535
      refine y_ (yl_assign (T rfl)) (jl_nil (q_then (j_seq (j_region (y_ (yl_assign ev_c) (jl_nil (q_then (j_seq (j_seq (j_region (y_ (yl_assign ev_c) (jl_nil (q_then (j_block ?_))) rfl)))))) rfl))))) rfl
      refine j_loopC (X := Nat × Sl × List Tb) (V := fun ⟨k, d, ts⟩ => [(12, .int .i64 (k : Nat)), (11, slV d ts.length)]) (C := [(1, _), (2, _), (3, _), (4, _), (10, _)]) (G := fun ⟨k, d, ts⟩ => tsH ts ++ (slH d (ts.flatMap encTb) 51 ++ (slH du (us.flatMap encI) 3 ++ ((n4, Cl (encNm n) 26) :: H)))) (φ := fun ⟨k, d, ts⟩ => k ≤ n.nodes.length ∧ ts.length = k ∧ SlOk d ts.length 1 ∧ (∀ t ∈ ts, SlOk t.d t.rs.length 23) ∧ ∀ i : Nat, i < k → (gd ts i).rs.map (·.r) = tblK top (fun t => planR n.links (pairs l tg) t i) us ∧ ((tblK top (fun t => planR n.links (pairs l tg) t i) us).length : Int) ≤ top ∧ (tblK top (fun t => planR n.links (pairs l tg) t i) us).length ≤ 4000) (μ := fun ⟨k, d, ts⟩ => n.nodes.length - k) (x0 := (0, .nil, [])) ?_ ⟨at_f rfl, at_f rfl, at_f rfl, at_f rfl, at_f rfl, trivial⟩ ⟨(by first | exact at_f rfl | (refine at_e (at_f rfl) (vint ?_); omega) | (refine at_e (at_f rfl) ?_; simp; done)), (by first | exact at_f rfl | (refine at_e (at_f rfl) (vint ?_); omega) | (refine at_e (at_f rfl) ?_; simp; done)), trivial⟩ sb0 ?_
      · exact ⟨Nat.zero_le _, rfl, rfl, by simp, fun i hi => by omega⟩
      rintro ⟨k, d, ts⟩ ⟨hk, htsl, hok, htok, htab⟩
      refine j_seq (j_seq (j_region (y_ (yl_move (T rfl)) (y_ (yl_fa0 (T rfl) fa26_0) (y_ (yl_load (T rfl) Try.isAgg22 (by first | exact c_o | exact c_m (ht.f0 (i := m) (by omega) rfl) | exact (Cell.mono (((sl_arr (w0 := w0) (enc := encI) (sz := 1) (e := 3) (X := H) (fun _ => rfl) hoku)).f0 (i := i) (by omega) rfl) sbt))) ?_ rfl) rfl) rfl)))
      refine y_ (yl_len (T rfl) Try.runUnderlying22) (y_ (yl_lss (T rfl) (T rfl)) (jl_nil (q_then ?_)) rfl) rfl
      first | refine j_cond_d (at_f rfl) (fun c31 => ?_) (fun c31 => ?_) | refine j_cond (at_f rfl) (fun c31 => ?_) (fun c31 => ?_)
      · refine j_skip (q_then (j_seq (j_block (j_seq (j_region (y_ (yl_assign ev_c) (jl_nil (q_then (j_seq (j_seq (j_region (y_ (yl_assign ev_c) (jl_nil (q_then (j_block ?_))) rfl)))))) rfl))))))
        refine j_loopC (X := Nat × Tb) (V := fun ⟨i, t⟩ => [(14, .int .i64 (i : Nat)), (13, tbV t)]) (C := [(1, _), (2, _), (3, _), (4, _), (10, _), (11, _), (12, _)]) (G := fun ⟨i, t⟩ => slH t.d (t.rs.flatMap encRm) 56 ++ (t.rs.flatMap rmH ++ (tsH ts ++ (slH d (ts.flatMap encTb) 51 ++ (slH du (us.flatMap encI) 3 ++ ((n4, Cl (encNm n) 26) :: H)))))) (φ := fun ⟨i, t⟩ => i ≤ us.length ∧ SlOk t.d t.rs.length 23 ∧ t.rs.map (·.r) = tblK top (fun t => planR n.links (pairs l tg) t k) (us.take i) ∧ t.rs.length ≤ i) (μ := fun ⟨i, t⟩ => us.length - i) (x0 := (0, ⟨.nil, []⟩)) ?_ ⟨at_f rfl, at_f rfl, at_f rfl, at_f rfl, at_f rfl, at_f rfl, at_f rfl, trivial⟩ ⟨(by first | exact at_f rfl | (refine at_e (at_f rfl) (vint ?_); omega) | (refine at_e (at_f rfl) ?_; simp; done)), (by first | exact at_f rfl | (refine at_e (at_f rfl) (vint ?_); omega) | (refine at_e (at_f rfl) ?_; simp; done)), trivial⟩ sb0 ?_
        · exact ⟨Nat.zero_le _, rfl, by simp [tblK], Nat.zero_le _⟩
        rintro ⟨i, t⟩ ⟨hi, hokt, htb, htl2⟩
        refine j_seq (j_seq (j_region (y_ (yl_move (T rfl)) (y_ (yl_move (T rfl)) (y_ (yl_len (T rfl) Try.runUnderlying28) (y_ (yl_lss (T rfl) (T rfl)) (jl_nil (q_then ?_)) rfl) rfl) rfl) rfl)))
        first | refine j_cond_d (at_f rfl) (fun c37 => ?_) (fun c37 => ?_) | refine j_cond (at_f rfl) (fun c37 => ?_) (fun c37 => ?_)
        · refine j_skip (q_then (j_seq (j_block (j_seq (j_region (y_ (yl_assign ev_c) (jl_nil (q_then (j_seq (j_region (y_ (yl_assign ev_c) (jl_nil (q_then (j_block ?_))) rfl))))) rfl))))))
          refine j_loopC (X := Nat × Bool × Tb) (V := fun ⟨m, fd, t⟩ => [(16, .int .i64 (m : Nat)), (15, .bool fd), (13, tbV t)]) (C := [(1, _), (2, _), (3, _), (4, _), (10, _), (11, _), (12, _), (14, _)]) (G := fun ⟨m, fd, t⟩ => slH t.d (t.rs.flatMap encRm) 56 ++ (t.rs.flatMap rmH ++ (tsH ts ++ (slH d (ts.flatMap encTb) 51 ++ (slH du (us.flatMap encI) 3 ++ ((n4, Cl (encNm n) 26) :: H)))))) (φ := fun ⟨m, fd, t⟩ => m ≤ l.length ∧ SlOk t.d t.rs.length 23 ∧ (fd = true → t.rs.map (·.r) = tblK top (fun t => planR n.links (pairs l tg) t k) (us.take (i + 1)) ∧ t.rs.length ≤ i + 1) ∧ (fd = false → t.rs.map (·.r) = tblK top (fun t => planR n.links (pairs l tg) t k) (us.take i) ∧ t.rs.length ≤ i ∧ ∀ j, j < m → gd tg j = gd us i → atF n.links (gd l j).way k = none)) (μ := fun ⟨m, fd, t⟩ => l.length - m) (x0 := (0, false, t)) ?_ ⟨at_f rfl, at_f rfl, at_f rfl, at_f rfl, at_f rfl, at_f rfl, at_f rfl, at_f rfl, trivial⟩ ⟨(by first | exact at_f rfl | (refine at_e (at_f rfl) (vint ?_); omega) | (refine at_e (at_f rfl) ?_; simp; done)), (by first | exact at_f rfl | (refine at_e (at_f rfl) (vint ?_); omega) | (refine at_e (at_f rfl) ?_; simp; done)), (by first | exact at_f rfl | (refine at_e (at_f rfl) (vint ?_); omega) | (refine at_e (at_f rfl) ?_; simp; done)), trivial⟩ sb0 ?_
          · exact ⟨Nat.zero_le _, hokt, fun h => (by cases h), fun _ => ⟨htb, htl2, fun j hj => by omega⟩⟩
          rintro ⟨m, fd, t⟩ ⟨hm, hokt, hfd1, hfd0⟩
          refine j_seq (j_seq (j_region (y_ (yl_move (T rfl)) (y_ (yl_move (T rfl)) (y_ (yl_len (T rfl) Try.runUnderlying27) (y_ (yl_lss (T rfl) (T rfl)) (y_ (yl_move (T rfl)) ?_ rfl) rfl) rfl) rfl) rfl)))
          first | refine jl_if_d (s := 44) (at_f rfl) (fun c44 => ?_) (fun c44 => ?_) | refine jl_if (s := 44) (at_f rfl) (fun c44 => ?_) (fun c44 => ?_)
          · refine jl_y (yl_move (T rfl)) rfl (gd_y rfl rfl (at_f rfl)) ?_
            first | refine jl_y (yl_not_d (T rfl)) rfl (gd_y rfl rfl (at_f rfl)) ?_ | refine jl_y (yl_not (T rfl)) rfl (gd_y rfl rfl (at_f rfl)) ?_
            refine y_ (yl_pick_t (T rfl) (T rfl)) (jl_nil (q_then ?_)) rfl
            first | refine j_cond_d (at_f rfl) (fun c47 => ?_) (fun c47 => ?_) | refine j_cond (at_f rfl) (fun c47 => ?_) (fun c47 => ?_)
            · obtain rfl : fd = false := by simpa using c47
              have hfd : false = false := rfl
              refine j_skip (q_then (j_seq (j_block (j_seq (j_any 13 [(0, true), (1, true), (2, true), (3, true), (4, true), (5, true), (6, true), (7, true), (8, true), (9, true), (10, false), (11, false), (12, true)] _ mixd (by kernel_rfl) sb0 ?_)))))
              refine o_y rfl (yl_loadA (T rfl) Try.isAgg26 Try.sizeOf26 rfl (by first | exact cs_o | exact cs_m (ht.f0 (i := m) (by omega) rfl) | exact (Cell.mono (((sl_arr (w0 := w0) (enc := encI) (sz := 1) (e := 3) (X := H) (fun _ => rfl) hoku)).f0 (i := i) (by omega) rfl) sbt))) ?_ rfl gd_n
              refine o_y rfl (yl_move (T rfl)) (o_y rfl (yl_move (T rfl)) (o_y rfl (yl_ixQ (T rfl) (T rfl) Try.runUnderlying27 Try.sizeOf48 (by omega) (by first | exact rfl | exact hw.arr.b (i := m) (by omega) | exact ht.b (i := m) (by omega) | exact hoku.bas (by omega))) ?_ rfl gd_n) rfl gd_n) rfl gd_n
              refine o_y rfl (yl_loadA (T rfl) Try.isAgg48 Try.sizeOf48 rfl (by first | exact cs_o | exact cs_m (hw.arr.cs (i := m) (by omega)) | exact cs_m (ht.f0 (i := m) (by omega) rfl) | exact (Cell.mono (((sl_arr (w0 := w0) (enc := encI) (sz := 1) (e := 3) (X := H) (fun _ => rfl) hoku)).f0 (i := i) (by omega) rfl) sbt))) ?_ rfl gd_n
              refine o_y rfl (yl_move (T rfl)) (o_y rfl (yl_call (.cons (T rfl) (.cons (T rfl) (.cons (T rfl) .nil))) Try.call34 (fun H' hs => rAt_s n (hn.mono (List.Sublist.trans sbt hs)) (gd l m) ((hw.at (i := m) (by omega)).mono (List.Sublist.trans sbt hs)) (hg.inr _ (gd_mem (by omega))) (hg.len _ (gd_mem (by omega))) _)) ?_ rfl gd_n) rfl gd_n
              refine o_y rfl (yl_move (T rfl)) (o_y rfl (yl_extract (T rfl) rfl) (o_y rfl (yl_extract (T rfl) rfl) (o_e rfl (eff_alloc Try.zeroValue72 cs_) ?_ rfl gd_n) rfl gd_n) rfl gd_n) rfl gd_n
              rintro _ _ ⟨n17, rfl, rfl⟩
              refine ⟨sbt, ?_⟩
              first | refine o_e rfl (eff_sW (T rfl) (T rfl) Try.sizeOf72) ?_ rfl gd_n
              rintro _ _ ⟨rfl, rfl⟩
              refine ⟨sbt, (o_y rfl (yl_assign (T rfl)) (jo_nil rfl (jl_nil (q_then (j_keep [(1, _), (2, _), (3, _), (4, _), (10, _), (11, _), (12, _), (13, _), (14, _), (15, _), (16, _), (17, _), (18, _)] ⟨at_f rfl, at_f rfl, at_f rfl, at_f rfl, at_f rfl, at_f rfl, at_f rfl, at_f rfl, at_f rfl, at_f rfl, at_f rfl, at_f rfl, at_f rfl, trivial⟩ (j_seq (j_any 12 [(0, true), (1, true), (2, true), (3, true), (4, true), (5, true), (6, true), (7, true), (8, true), (9, true), (10, true), (11, true)] _ mixd (by kernel_rfl) sb0 ?_)))))) rfl gd_n)⟩
              refine o_y rfl (yl_move (T rfl)) (o_y rfl (yl_move (T rfl)) ?_ rfl gd_n) rfl gd_n
              first | refine o_if_d (s := 61) (at_f rfl) (fun c61 => ?_) (fun c61 => ?_) | refine o_if (s := 61) (at_f rfl) (fun c61 => ?_) (fun c61 => ?_)
              · obtain ⟨hh, hat⟩ := Option.isSome_iff_exists.1 c61
                have hlb : t.rs.length ≤ i := (hfd0 hfd).2.1
                refine o_y rfl (yl_move (T rfl)) (o_y rfl (yl_move (T rfl)) (o_y rfl (yl_ixQ (T rfl) (T rfl) Try.runUnderlying28 Try.sizeOf3 (by omega) (by first | exact rfl | exact hw.arr.b (i := m) (by omega) | exact ht.b (i := m) (by omega) | exact hoku.bas (by omega))) ?_ rfl (gd_y rfl rfl (at_f rfl))) rfl (gd_y rfl rfl (at_f rfl))) rfl (gd_y rfl rfl (at_f rfl))
                refine o_y rfl (yl_load (T rfl) Try.isAgg3 (by first | exact c_o | exact c_m (ht.f0 (i := m) (by omega) rfl) | exact (Cell.mono (((sl_arr (w0 := w0) (enc := encI) (sz := 1) (e := 3) (X := H) (fun _ => rfl) hoku)).f0 (i := i) (by omega) rfl) sbt))) ?_ rfl (gd_y rfl rfl (at_f rfl))
                refine o_y rfl (yl_move (T rfl)) (o_y rfl (yl_move (T rfl)) (o_y rfl (yl_ixR (T rfl) (T rfl) Try.runUnderlying28 Try.sizeOf3 (by omega) (by first | exact rfl | exact hw.arr.b (i := m) (by omega) | exact ht.b (i := m) (by omega) | exact hoku.bas (by omega))) ?_ rfl (gd_y rfl rfl (at_f rfl))) rfl (gd_y rfl rfl (at_f rfl))) rfl (gd_y rfl rfl (at_f rfl))
                refine o_y rfl (yl_load (T rfl) Try.isAgg3 (by first | exact c_o | exact c_m (ht.f0 (i := m) (by omega) rfl) | exact (Cell.mono (((sl_arr (w0 := w0) (enc := encI) (sz := 1) (e := 3) (X := H) (fun _ => rfl) hoku)).f0 (i := i) (by omega) rfl) sbt))) ?_ rfl (gd_y rfl rfl (at_f rfl))
                refine o_y rfl (yl_eql (T rfl) (T rfl)) (o_y rfl (yl_pick_t (T rfl) (T rfl)) (jo_nil rfl (jl_nil (q_then (j_keep [(1, _), (2, _), (3, _), (4, _), (10, _), (11, _), (12, _), (13, _), (14, _), (15, _), (16, _), (17, _), (71, _)] ⟨at_f rfl, at_f rfl, at_f rfl, at_f rfl, at_f rfl, at_f rfl, at_f rfl, at_f rfl, at_f rfl, at_f rfl, at_f rfl, at_f rfl, at_f rfl, trivial⟩ ?_)))) rfl gd_n) rfl (gd_y rfl rfl (at_f rfl))
                first | refine j_cond_d (at_f rfl) (fun c71 => ?_) (fun c71 => ?_) | refine j_cond (at_f rfl) (fun c71 => ?_) (fun c71 => ?_)
                · refine j_seq (j_any 12 [(0, true), (1, true), (2, true), (3, true), (4, true), (5, true), (6, true), (7, true), (8, true), (9, true), (10, false), (11, false)] _ mixd (by kernel_rfl) sb0 ?_)
                  refine o_y rfl (yl_move (T rfl)) (o_y rfl (yl_move (T rfl)) (o_y rfl (yl_move (T rfl)) (o_y rfl (yl_len (T rfl) Try.runUnderlying51) (o_y rfl (yl_sub (T rfl) (T rfl) (by omega)) ?_ rfl gd_n) rfl gd_n) rfl gd_n) rfl gd_n) rfl gd_n
                  refine o_y rfl (yl_move (T rfl)) (o_y rfl (yl_move (T rfl)) (o_y rfl (yl_ixR (T rfl) (T rfl) Try.runUnderlying28 Try.sizeOf3 (by omega) (by first | exact rfl | exact hw.arr.b (i := m) (by omega) | exact ht.b (i := m) (by omega) | exact hoku.bas (by omega))) ?_ rfl gd_n) rfl gd_n) rfl gd_n
                  refine o_y rfl (yl_load (T rfl) Try.isAgg3 (by first | exact c_o | exact c_m (ht.f0 (i := m) (by omega) rfl) | exact (Cell.mono (((sl_arr (w0 := w0) (enc := encI) (sz := 1) (e := 3) (X := H) (fun _ => rfl) hoku)).f0 (i := i) (by omega) rfl) sbt))) ?_ rfl gd_n
                  refine o_y rfl (yl_loadA (T rfl) Try.isAgg72 Try.sizeOf72 rfl (by first | exact cs_o | exact cs_m (ht.f0 (i := m) (by omega) rfl) | exact (Cell.mono (((sl_arr (w0 := w0) (enc := encI) (sz := 1) (e := 3) (X := H) (fun _ => rfl) hoku)).f0 (i := i) (by omega) rfl) sbt))) ?_ rfl gd_n
                  refine o_e rfl (eff_call (.cons (T rfl) (.cons (T rfl) (.cons (T rfl) .nil))) Try.call54 (rule_s _ _ _ (by rw [show hopOr (atF n.links (gd l m).way k) = hh by rw [hat]; rfl]; exact hop_link (hg.inr _ (gd_mem (i := m) (by omega))) hat))) ?_ rfl gd_n
                  rintro _ _ ⟨o, a, rfl, rfl⟩
                  refine ⟨sbt, (o_e rfl (eff_bslice (.cons (T rfl) .nil) (bs51_1_0 _ _ _ _ _ _ _ _ _ _ _ _ _ _ _ _ _ _ _ _ _ _ _ _ _)) ?_ rfl gd_n)⟩
                  rintro _ _ ⟨n83, rfl, rfl⟩
                  refine ⟨sbt, (jo_nil rfl (e_ (eff_app1_at ((⟨⟨top - t.rs.length, gd us i, hopOr (atF n.links (gd l m).way k)⟩, o, a⟩ : Rm)) (by' := 200) (by repeat (first | exact LocL.h | apply LocL.t | apply LocL.a)) (T rfl) (T rfl) Try.runUnderlying51 Try.runUnderlying51 Try.sizeOf56 Try.typeInfo56 rfl Try.zeroValue56 rfl (fun _ => rfl) rfl hokt (by decide) (by omega)) ?_ rfl))⟩
                  rintro _ _ ⟨d', rfl, hok', rfl⟩
                  refine y_ (yl_assign (T rfl)) (jl_nil (q_then (j_keep [(1, _), (2, _), (3, _), (4, _), (10, _), (11, _), (12, _), (13, _), (14, _), (16, _)] ⟨at_f rfl, at_f rfl, at_f rfl, at_f rfl, at_f rfl, at_f rfl, at_f rfl, at_f rfl, at_f rfl, at_f rfl, trivial⟩ (j_region (y_ (yl_assign ev_c) (jl_nil (q_block (q_then (j_region (y_ (yl_move (T rfl)) (y_ (yl_add (T rfl) ev_c (by omega)) ?_ rfl) rfl))))) rfl))))) rfl
                  refine y_ (yl_assign (T rfl)) (jl_nil (jq_less (H' := rmH (⟨⟨top - t.rs.length, gd us i, hopOr (atF n.links (gd l m).way k)⟩, o, a⟩ : Rm) ++ (slH d' ((t.rs ++ [(⟨⟨top - t.rs.length, gd us i, hopOr (atF n.links (gd l m).way k)⟩, o, a⟩ : Rm)]).flatMap encRm) 56 ++ (t.rs.flatMap rmH ++ (tsH ts ++ (slH d (ts.flatMap encTb) 51 ++ (slH du (us.flatMap encI) 3 ++ ((n4, Cl (encNm n) 26) :: H))))))) sbt (jq_perm (tb_add2 _ _ _ _) ?_))) rfl
                  refine q_loopC ((m + 1, true, ⟨d', t.rs ++ [(⟨⟨top - t.rs.length, gd us i, hopOr (atF n.links (gd l m).way k)⟩, o, a⟩ : Rm)]⟩)) ?_ ?_ ⟨(by first | exact at_f rfl | (refine at_e (at_f rfl) (vint ?_); omega) | (refine at_e (at_f rfl) ?_; simp; done)), (by first | exact at_f rfl | (refine at_e (at_f rfl) (vint ?_); omega) | (refine at_e (at_f rfl) ?_; simp; done)), (by first | exact at_f rfl | (refine at_e (at_f rfl) (vint ?_); omega) | (refine at_e (at_f rfl) ?_; simp; done)), trivial⟩ ⟨at_f rfl, at_f rfl, at_f rfl, at_f rfl, at_f rfl, at_f rfl, at_f rfl, at_f rfl, trivial⟩ ?_
                  · have h0 := hfd0 hfd
                    refine ⟨by omega, by simpa using hok', fun _ => ⟨?_, by simp; omega⟩, fun h => (by cases h)⟩
                    have hpl : planR n.links (pairs l tg) (gd us i) k = some hh := by
                      have := plan_mem hc (e := ((gd l m).way, gd tg m)) ((mem_pairs (by omega)).2 ⟨m, by omega, rfl⟩) hat
                      rw [← c71]; exact this
                    rw [tblK_take (by omega), tblS_some (f := (fun t => planR n.links (pairs l tg) t k)) hpl, ← h0.1]
                    simp [hat, hopOr]
                  · first | omega | (simp only []; omega)
                  · exact sbt
                · refine j_skip (q_block (q_then (j_region (y_ (yl_move (T rfl)) (y_ (yl_add (T rfl) ev_c (by omega)) ?_ rfl) rfl))))
                  refine y_ (yl_assign (T rfl)) (jl_nil ?_) rfl
                  refine q_loopC ((m + 1, false, t)) ?_ ?_ ⟨(by first | exact at_f rfl | (refine at_e (at_f rfl) (vint ?_); omega) | (refine at_e (at_f rfl) ?_; simp; done)), (by first | exact at_f rfl | (refine at_e (at_f rfl) (vint ?_); omega) | (refine at_e (at_f rfl) ?_; simp; done)), (by first | exact at_f rfl | (refine at_e (at_f rfl) (vint ?_); omega) | (refine at_e (at_f rfl) ?_; simp; done)), trivial⟩ ⟨at_f rfl, at_f rfl, at_f rfl, at_f rfl, at_f rfl, at_f rfl, at_f rfl, at_f rfl, trivial⟩ ?_
                  · have h0 := hfd0 hfd
                    refine ⟨by omega, hokt, fun h => (by cases h), fun _ => ⟨h0.1, h0.2.1, fun j hj hje => ?_⟩⟩
                    by_cases e : j = m
                    · subst e; exact absurd hje c71
                    · exact h0.2.2 j (by omega) hje
                  · first | omega | (simp only []; omega)
                  · exact sbt
              · refine o_n rfl (o_n rfl (o_n rfl (o_n rfl (o_n rfl (o_n rfl (o_n rfl (o_n rfl (o_n rfl (o_y rfl (yl_pick_f (T rfl) ev_c) (jo_nil rfl (jl_nil (q_then (j_keep [(1, _), (2, _), (3, _), (4, _), (10, _), (11, _), (12, _), (13, _), (14, _), (15, _), (16, _), (17, _), (71, _)] ⟨at_f rfl, at_f rfl, at_f rfl, at_f rfl, at_f rfl, at_f rfl, at_f rfl, at_f rfl, at_f rfl, at_f rfl, at_f rfl, at_f rfl, at_f rfl, trivial⟩ (j_cond_f (at_f rfl) (j_skip (q_block (q_then (j_region (y_ (yl_move (T rfl)) (y_ (yl_add (T rfl) ev_c (by omega)) ?_ rfl) rfl)))))))))) rfl gd_n) rfl (nw_ft rfl rfl (at_f rfl))) rfl (nw_ft rfl rfl (at_f rfl))) rfl (nw_ft rfl rfl (at_f rfl))) rfl (nw_ft rfl rfl (at_f rfl))) rfl (nw_ft rfl rfl (at_f rfl))) rfl (nw_ft rfl rfl (at_f rfl))) rfl (nw_ft rfl rfl (at_f rfl))) rfl (nw_ft rfl rfl (at_f rfl))) rfl (nw_ft rfl rfl (at_f rfl))
                refine y_ (yl_assign (T rfl)) (jl_nil ?_) rfl
                refine q_loopC ((m + 1, false, t)) ?_ ?_ ⟨(by first | exact at_f rfl | (refine at_e (at_f rfl) (vint ?_); omega) | (refine at_e (at_f rfl) ?_; simp; done)), (by first | exact at_f rfl | (refine at_e (at_f rfl) (vint ?_); omega) | (refine at_e (at_f rfl) ?_; simp; done)), (by first | exact at_f rfl | (refine at_e (at_f rfl) (vint ?_); omega) | (refine at_e (at_f rfl) ?_; simp; done)), trivial⟩ ⟨at_f rfl, at_f rfl, at_f rfl, at_f rfl, at_f rfl, at_f rfl, at_f rfl, at_f rfl, trivial⟩ ?_
                · have h0 := hfd0 hfd
                  refine ⟨by omega, hokt, fun h => (by cases h), fun _ => ⟨h0.1, h0.2.1, fun j hj hje => ?_⟩⟩
                  by_cases e : j = m
                  · subst e; simpa using c61
                  · exact h0.2.2 j (by omega) hje
                · first | omega | (simp only []; omega)
                · exact sbt
            · refine j_exit (q_then_exit (q_loop_exit (q_block_hit (q_block (q_then (j_region (y_ (yl_move (T rfl)) (y_ (yl_add (T rfl) ev_c (by omega)) ?_ rfl) rfl)))))))
              refine y_ (yl_assign (T rfl)) (jl_nil ?_) rfl
              refine q_loopC ((i + 1, t)) ?_ ?_ ⟨(by first | exact at_f rfl | (refine at_e (at_f rfl) (vint ?_); omega) | (refine at_e (at_f rfl) ?_; simp; done)), (by first | exact at_f rfl | (refine at_e (at_f rfl) (vint ?_); omega) | (refine at_e (at_f rfl) ?_; simp; done)), trivial⟩ ⟨at_f rfl, at_f rfl, at_f rfl, at_f rfl, at_f rfl, at_f rfl, at_f rfl, trivial⟩ ?_
              · have hf : fd = true := by simpa using c47
                exact ⟨by omega, hokt, (hfd1 hf).1, (hfd1 hf).2⟩
              · first | omega | (simp only []; omega)
              · exact sbt
          · refine n_ft (n_ft (y_ (yl_pick_f (T rfl) ev_c) (jl_nil (q_then (j_cond_f (at_f rfl) (j_exit (q_then_exit (q_loop_exit (q_block_hit (q_block (q_then (j_region (y_ (yl_move (T rfl)) (y_ (yl_add (T rfl) ev_c (by omega)) ?_ rfl) rfl))))))))))) rfl) rfl rfl rfl rfl) rfl rfl rfl rfl
            refine y_ (yl_assign (T rfl)) (jl_nil ?_) rfl
            refine q_loopC ((i + 1, t)) ?_ ?_ ⟨(by first | exact at_f rfl | (refine at_e (at_f rfl) (vint ?_); omega) | (refine at_e (at_f rfl) ?_; simp; done)), (by first | exact at_f rfl | (refine at_e (at_f rfl) (vint ?_); omega) | (refine at_e (at_f rfl) ?_; simp; done)), trivial⟩ ⟨at_f rfl, at_f rfl, at_f rfl, at_f rfl, at_f rfl, at_f rfl, at_f rfl, trivial⟩ ?_
            · cases fd with
              | true => exact ⟨by omega, hokt, (hfd1 rfl).1, (hfd1 rfl).2⟩
              | false =>
                have h0 := hfd0 rfl
                refine ⟨by omega, hokt, ?_, by omega⟩
                rw [tblK_take (by omega), tblS_none (f := (fun t => planR n.links (pairs l tg) t k)) ?_]
                · exact h0.1
                · exact plan_none fun e he het => by obtain ⟨j, hj, rfl⟩ := (mem_pairs (by omega)).1 he; exact h0.2.2 j (by omega) het
            · first | omega | (simp only []; omega)
            · exact sbt
        · refine j_exit (q_then_exit (q_loop_exit (q_block_hit (q_then (j_seq (j_seq (j_region (y_ (yl_move (T rfl)) (y_ (yl_len (T rfl) Try.runUnderlying51) (y_ (yl_move (T rfl)) (y_ (yl_gtr (T rfl) (T rfl)) (y_ (yl_move (T rfl)) ?_ rfl) rfl) rfl) rfl) rfl))))))))
          first | refine jl_if_d (s := 89) (at_f rfl) (fun c89 => ?_) (fun c89 => ?_) | refine jl_if (s := 89) (at_f rfl) (fun c89 => ?_) (fun c89 => ?_)
          · refine n_tf (n_tf (n_tf (y_ (yl_pick_t (T rfl) ev_c) (jl_nil (q_then (j_cond_t (at_f rfl) (j_seq (j_region (y_ (yl_assign ev_c) (y_ (yl_assign ev_c) (jl_nil (q_then (j_keep [(8, _), (9, _)] ⟨at_f rfl, at_f rfl, trivial⟩ (j_ret (q_then_ret (q_block_ret (q_then_ret (q_loop_ret (q_block_ret (q_then_ret (q_ret rfl (.tmp (at_f rfl) (.tmp (at_f rfl) .nil)) ?_))))))))))) rfl) rfl)))))) rfl) rfl rfl rfl rfl) rfl rfl rfl rfl) rfl rfl rfl rfl
            have hk' : t.rs.map (·.r) = tblK top (fun t => planR n.links (pairs l tg) t k) us := by rw [htb, take_end (by omega)]
            have hlen : (tblK top (fun t => planR n.links (pairs l tg) t k) us).length = t.rs.length := by rw [← hk']; simp
            exact ⟨H, ⟨.nil, [], 2, rfl, rfl, by simp, rfl, by rw [rules_full (k := k) (by omega) (by omega) (by omega)]; rfl⟩, sbt⟩
          · refine jl_y (yl_move (T rfl)) rfl (gd_y rfl rfl (at_f rfl)) (jl_y (yl_len (T rfl) Try.runUnderlying51) rfl (gd_y rfl rfl (at_f rfl)) (jl_y (yl_gtr (T rfl) ev_c) rfl (gd_y rfl rfl (at_f rfl)) (y_ (yl_pick_f (T rfl) (T rfl)) (jl_nil (q_then ?_)) rfl)))
            first | refine j_cond_d (at_f rfl) (fun c93 => ?_) (fun c93 => ?_) | refine j_cond (at_f rfl) (fun c93 => ?_) (fun c93 => ?_)
            · refine j_seq (j_region (y_ (yl_assign ev_c) (y_ (yl_assign ev_c) (jl_nil (q_then (j_keep [(8, _), (9, _)] ⟨at_f rfl, at_f rfl, trivial⟩ (j_ret (q_then_ret (q_block_ret (q_then_ret (q_loop_ret (q_block_ret (q_then_ret (q_ret rfl (.tmp (at_f rfl) (.tmp (at_f rfl) .nil)) ?_))))))))))) rfl) rfl))
              have hk' : t.rs.map (·.r) = tblK top (fun t => planR n.links (pairs l tg) t k) us := by rw [htb, take_end (by omega)]
              have hlen : (tblK top (fun t => planR n.links (pairs l tg) t k) us).length = t.rs.length := by rw [← hk']; simp
              exact ⟨H, ⟨.nil, [], 2, rfl, rfl, by simp, rfl, by rw [rules_full (k := k) (by omega) (by omega) (by omega)]; rfl⟩, sbt⟩
            · refine j_skip (q_then (j_region (y_ (yl_move (T rfl)) (y_ (yl_move (T rfl)) (e_ (eff_bslice (.cons (T rfl) .nil) (bs39_1_0 _ _ _)) ?_ rfl) rfl) rfl)))
              rintro _ _ ⟨n96, rfl, rfl⟩
              refine e_ (eff_app1_at (t) (by' := 24) (by repeat (first | exact LocL.h | apply LocL.t | apply LocL.a)) (T rfl) (T rfl) Try.runUnderlying39 Try.runUnderlying39 Try.sizeOf51 Try.typeInfo51 rfl Try.zeroValue51 rfl (fun _ => rfl) rfl hok (by decide) (by omega)) ?_ rfl
              rintro _ _ ⟨d', rfl, hok', rfl⟩
              refine y_ (yl_assign (T rfl)) (jl_nil (q_block (q_then (j_keep [(1, _), (2, _), (3, _), (4, _), (10, _), (11, _), (12, _)] ⟨at_f rfl, at_f rfl, at_f rfl, at_f rfl, at_f rfl, at_f rfl, at_f rfl, trivial⟩ (j_region (y_ (yl_move (T rfl)) (y_ (yl_add (T rfl) ev_c (by omega)) ?_ rfl) rfl)))))) rfl
              refine y_ (yl_assign (T rfl)) (jl_nil (jq_less (H' := slH t.d (t.rs.flatMap encRm) 56 ++ (t.rs.flatMap rmH ++ (tsH ts ++ (slH d' ((ts ++ [t]).flatMap encTb) 51 ++ (slH du (us.flatMap encI) 3 ++ ((n4, Cl (encNm n) 26) :: H)))))) sbt (jq_perm (ts_snoc ts t _) ?_))) rfl
              refine q_loopC ((k + 1, d', ts ++ [t])) ?_ ?_ ⟨(by first | exact at_f rfl | (refine at_e (at_f rfl) (vint ?_); omega) | (refine at_e (at_f rfl) ?_; simp; done)), (by first | exact at_f rfl | (refine at_e (at_f rfl) (vint ?_); omega) | (refine at_e (at_f rfl) ?_; simp; done)), trivial⟩ ⟨at_f rfl, at_f rfl, at_f rfl, at_f rfl, at_f rfl, trivial⟩ ?_
              · have hk' : t.rs.map (·.r) = tblK top (fun t => planR n.links (pairs l tg) t k) us := by rw [htb, take_end (by omega)]
                have hlen : (tblK top (fun t => planR n.links (pairs l tg) t k) us).length = t.rs.length := by rw [← hk']; simp
                refine ⟨by omega, by simp [htsl], by simpa using hok', ?_, ?_⟩
                · intro u hu
                  rcases List.mem_append.1 hu with h | h
                  · exact htok u h
                  · simp at h; subst h; exact hokt
                · intro j hj
                  by_cases e : j = k
                  · subst e
                    rw [show gd (ts ++ [t]) j = t from by rw [gd_getElem (by simp; omega)]; simp [htsl]]
                    exact ⟨hk', by omega, by omega⟩
                  · rw [show gd (ts ++ [t]) j = gd ts j from by rw [gd_getElem (by simp; omega), gd_getElem (by omega), List.getElem_append_left]]
                    exact htab j (by omega)
              · first | omega | (simp only []; omega)
              · exact sbt
      · refine j_exit (q_then_exit (q_loop_exit (q_block_hit (q_then (j_seq (j_region (y_ (yl_move (T rfl)) (y_ (yl_assign (T rfl)) (y_ (yl_assign ev_c) (jl_nil (q_then (j_ret (q_ret rfl (.tmp (at_f rfl) (.tmp (at_f rfl) .nil)) ?_)))) rfl) rfl) rfl)))))))
        exact ⟨_, ⟨d, ts, 0, rfl, hok, htok, rfl, rules_ok (by omega) (fun k' hk' => (htab k' (by omega)).2) (by simp; omega) (fun k' hk' => by rw [gd_map (by omega)]; exact (htab k' (by omega)).1)⟩, sbt⟩
end Go.Proofs.Ytdbffighngmibaa
