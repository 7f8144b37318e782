/-
  Walks of the specification of ways.
-/
import Derived.Test.YtdbffighngmibaaTb
import Derived.Test.YtdbffighngmibaaPb
import Derived.Laws.StructEq
namespace Go.Proofs.Ytdbffighngmibaa
open Go.RowKit
set_option linter.unusedVariables false
set_option linter.unusedSimpArgs false
theorem eqHop (a b : Hop) (w : World) : (Op.equal 72 (.agg (encH a).toArray) (.agg (encH b).toArray)).run Try.prog w = .ok (decide (a = b)) w := by
  unfold Op.equal Op.maxDepth
  rw [run_equalIn_struct w 9999 72 _ _ (by kernel_rfl) (by kernel_rfl)]
  simp [go_sem, Program.fieldsOf, Try.underlying72, Op.eqFields]
  obtain ⟨a1, a2, a3, a4⟩ := a
  obtain ⟨b1, b2, b3, b4⟩ := b
  by_cases h : a1 = b1 <;> by_cases h2 : a2 = b2 <;> by_cases h3 : a3 = b3 <;> by_cases h4 : a4 = b4 <;> simp [h, h2, h3, h4]
theorem wFew_s {w0 : World} {H : List (Nat × Obj)} (q : Option Addr) (cap : Nat) (l : List Wm) (hw : WaysM w0 H q l) (most : Int) :
    FSpec Try.prog w0 28 #[.slice q l.length cap, .int .i64 most] H (fun v H' => (∃ t : Bool, v = .bool t ∧ (t = true → (∀ i, i < l.length → (gd l i).way.links.length ≤ 20) ∧ (l.length : Int) ≤ most)) ∧ H' = H) := by
  refine fn_spec Try.func28 rfl Try.ntmps28 rfl ?_
  have hlen := hw.len
  refine j_seq (j_region (y_ (yl_assign ev_c) (jl_nil (q_then (j_seq (j_seq (j_region (y_ (yl_assign ev_c) (jl_nil (q_then (j_block ?_))) rfl)))))) rfl))
  refine j_loopH (X := Nat) (V := fun k => [(5, .int .i64 (k : Nat))]) (C := [(0, _), (1, _)]) (φ := fun k => k ≤ l.length ∧ ∀ i, i < k → (gd l i).way.links.length ≤ 20) (μ := fun k => l.length - k) (x0 := 0) ?_ ⟨at_f rfl, at_f rfl, trivial⟩ ⟨(by first | exact at_f rfl | (refine at_e (at_f rfl) (vint ?_); omega) | (refine at_e (at_f rfl) ?_; simp; done)), trivial⟩ ?_
  · exact ⟨Nat.zero_le _, fun i hi => by omega⟩
  rintro k ⟨hk, hf⟩
  refine j_seq (j_seq (j_region (y_ (yl_move (T rfl)) (y_ (yl_move (T rfl)) (y_ (yl_len (T rfl) Try.runUnderlying27) (y_ (yl_lss (T rfl) (T rfl)) (jl_nil (q_then ?_)) rfl) rfl) rfl) rfl)))
  first | refine j_cond_d (at_f rfl) (fun c9 => ?_) (fun c9 => ?_) | refine j_cond (at_f rfl) (fun c9 => ?_) (fun c9 => ?_)
  · refine j_skip (q_then (j_seq (j_block (j_seq (j_region (y_ (yl_move (T rfl)) (y_ (yl_move (T rfl)) (y_ (yl_ixQ (T rfl) (T rfl) Try.runUnderlying27 Try.sizeOf48 (by omega) (by first | exact rfl | exact hw.arr.b (i := k) (by omega))) ?_ rfl) rfl) rfl))))))
    refine y_ (yl_fa (T rfl) fa48_1) (y_ (yl_load (T rfl) Try.isAgg28 (by first | exact c_o | exact c_m (hw.arr.f (i := k) (by omega) rfl))) ?_ rfl) rfl
    refine y_ (yl_len (T rfl) Try.runUnderlying28) (y_ (yl_gtr (T rfl) ev_c) (jl_nil (q_then ?_)) rfl) rfl
    first | refine j_cond_d (at_f rfl) (fun c18 => ?_) (fun c18 => ?_) | refine j_cond (at_f rfl) (fun c18 => ?_) (fun c18 => ?_)
    · refine j_seq (j_region (y_ (yl_assign ev_c) (jl_nil (q_then (j_ret (q_block_ret (q_then_ret (q_loop_ret (q_block_ret (q_then_ret (q_ret rfl (.tmp (at_f rfl) .nil) ?_))))))))) rfl))
      exact ⟨_, ⟨⟨_, rfl, fun h => by cases h⟩, rfl⟩, sbt⟩
    · refine j_skip (q_block (q_then (j_region (y_ (yl_move (T rfl)) (y_ (yl_add (T rfl) ev_c (by omega)) ?_ rfl) rfl))))
      refine y_ (yl_assign (T rfl)) (jl_nil ?_) rfl
      refine q_loopC (k + 1) ?_ ?_ ⟨(by first | exact at_f rfl | (refine at_e (at_f rfl) (vint ?_); omega) | (refine at_e (at_f rfl) ?_; simp; done)), trivial⟩ ⟨at_f rfl, at_f rfl, trivial⟩ ?_
      · refine ⟨by omega, fun i hi => ?_⟩
        by_cases e : i = k
        · subst e; omega
        · exact hf i (by omega)
      · first | omega | (simp only []; omega)
      · exact sbt
  · refine j_exit (q_then_exit (q_loop_exit (q_block_hit (q_then (j_seq (j_region (y_ (yl_move (T rfl)) (y_ (yl_len (T rfl) Try.runUnderlying27) (y_ (yl_move (T rfl)) (y_ (yl_leq (T rfl) (T rfl)) (y_ (yl_assign (T rfl)) (jl_nil (q_then (j_ret (q_ret rfl (.tmp (at_f rfl) .nil) ?_)))) rfl) rfl) rfl) rfl) rfl)))))))
    exact ⟨_, ⟨⟨_, rfl, fun h => ⟨fun i hi => hf i (by omega), of_decide_eq_true h⟩⟩, rfl⟩, sbt⟩
theorem twice_s {w0 : World} {H : List (Nat × Obj)} (q : Option Addr) (cap : Nat) (l : List Int) (hi : IntArr w0 H q l) (hl : l.length ≤ 9223372036854775807) :
    FSpec Try.prog w0 82 #[.slice q l.length cap] H (Still (.bool (decide ¬ l.Nodup)) H) := by
  refine fn_spec Try.func82 rfl Try.ntmps82 rfl (j_seq (j_region (y_ (yl_assign ev_c) (jl_nil (q_then (j_seq (j_seq (j_region (y_ (yl_assign ev_c) (jl_nil (q_then (j_block ?_))) rfl)))))) rfl)))
  refine j_loopH (X := Nat) (V := fun k => [(3, .int .i64 (k : Nat))]) (C := [(0, _)]) (φ := fun k => k ≤ l.length ∧ ∀ i j, i < j → j < k → gd l i ≠ gd l j) (μ := fun k => l.length - k) (x0 := 0) ?_ ⟨at_f rfl, trivial⟩ ⟨(by first | exact at_f rfl | (refine at_e (at_f rfl) (vint ?_); omega) | (refine at_e (at_f rfl) ?_; simp; done)), trivial⟩ ?_
  · exact ⟨Nat.zero_le _, fun i j _ h => by omega⟩
  rintro k ⟨hk, hd⟩
  refine j_seq (j_seq (j_region (y_ (yl_move (T rfl)) (y_ (yl_move (T rfl)) (y_ (yl_len (T rfl) Try.runUnderlying28) (y_ (yl_lss (T rfl) (T rfl)) (jl_nil (q_then ?_)) rfl) rfl) rfl) rfl)))
  first | refine j_cond_d (at_f rfl) (fun c8 => ?_) (fun c8 => ?_) | refine j_cond (at_f rfl) (fun c8 => ?_) (fun c8 => ?_)
  · refine j_skip (q_then (j_seq (j_block (j_seq (j_region (y_ (yl_assign ev_c) (jl_nil (q_then (j_block ?_))) rfl))))))
    refine j_loopH (X := Nat) (V := fun k2 => [(4, .int .i64 (k2 : Nat))]) (C := [(0, _), (3, _)]) (φ := fun k2 => k2 ≤ k ∧ ∀ i, i < k2 → gd l i ≠ gd l k) (μ := fun k2 => k - k2) (x0 := 0) ?_ ⟨at_f rfl, at_f rfl, trivial⟩ ⟨(by first | exact at_f rfl | (refine at_e (at_f rfl) (vint ?_); omega) | (refine at_e (at_f rfl) ?_; simp; done)), trivial⟩ ?_
    · exact ⟨Nat.zero_le _, fun i h => by omega⟩
    rintro k2 ⟨hk2, hd2⟩
    refine j_seq (j_seq (j_region (y_ (yl_move (T rfl)) (y_ (yl_move (T rfl)) (y_ (yl_lss (T rfl) (T rfl)) (jl_nil (q_then ?_)) rfl) rfl) rfl)))
    first | refine j_cond_d (at_f rfl) (fun c13 => ?_) (fun c13 => ?_) | refine j_cond (at_f rfl) (fun c13 => ?_) (fun c13 => ?_)
    · refine j_skip (q_then (j_seq (j_block (j_seq (j_any 9 [(0, true), (1, true), (2, true), (3, true), (4, true), (5, true), (6, true), (7, true), (8, true)] _ mixd (by kernel_rfl) sb0 ?_)))))
      refine o_y rfl (yl_move (T rfl)) (o_y rfl (yl_move (T rfl)) (o_y rfl (yl_ixQ (T rfl) (T rfl) Try.runUnderlying28 Try.sizeOf3 (by omega) (by first | exact rfl | exact hi.b (i := k) (by omega))) ?_ rfl gd_n) rfl gd_n) rfl gd_n
      refine o_y rfl (yl_load (T rfl) Try.isAgg3 (by first | exact c_o | exact c_m (hi.f0 (i := k) (by omega) rfl) | exact c_m (hi.f0 (i := k2) (by omega) rfl))) ?_ rfl gd_n
      refine o_y rfl (yl_move (T rfl)) (o_y rfl (yl_move (T rfl)) (o_y rfl (yl_ixR (T rfl) (T rfl) Try.runUnderlying28 Try.sizeOf3 (by omega) (by first | exact rfl | exact hi.b (i := k) (by omega))) ?_ rfl gd_n) rfl gd_n) rfl gd_n
      refine o_y rfl (yl_load (T rfl) Try.isAgg3 (by first | exact c_o | exact c_m (hi.f0 (i := k) (by omega) rfl) | exact c_m (hi.f0 (i := k2) (by omega) rfl))) ?_ rfl gd_n
      refine o_y rfl (yl_eql (T rfl) (T rfl)) (jo_nil rfl (jl_nil (q_then ?_))) rfl gd_n
      first | refine j_cond_d (at_f rfl) (fun c24 => ?_) (fun c24 => ?_) | refine j_cond (at_f rfl) (fun c24 => ?_) (fun c24 => ?_)
      · refine j_seq (j_region (y_ (yl_assign ev_c) (jl_nil (q_then (j_ret (q_block_ret (q_then_ret (q_loop_ret (q_block_ret (q_block_ret (q_then_ret (q_loop_ret (q_block_ret (q_then_ret (q_ret rfl (.tmp (at_f rfl) .nil) ?_))))))))))))) rfl))
        exact ⟨_, ⟨by rw [decide_eq_true (p := ¬ l.Nodup) (fun h => nd_iff.1 h k2 k (by omega) (by omega) c24)]; rfl, rfl⟩, sbt⟩
      · refine j_skip (q_block (q_then (j_region (y_ (yl_move (T rfl)) (y_ (yl_add (T rfl) ev_c (by omega)) ?_ rfl) rfl))))
        refine y_ (yl_assign (T rfl)) (jl_nil ?_) rfl
        refine q_loopC (k2 + 1) ?_ ?_ ⟨(by first | exact at_f rfl | (refine at_e (at_f rfl) (vint ?_); omega) | (refine at_e (at_f rfl) ?_; simp; done)), trivial⟩ ⟨at_f rfl, at_f rfl, trivial⟩ ?_
        · refine ⟨by omega, fun i hi => ?_⟩
          by_cases e : i = k2
          · subst e; exact c24
          · exact hd2 i (by omega)
        · first | omega | (simp only []; omega)
        · exact sbt
    · refine j_exit (q_then_exit (q_loop_exit (q_block_hit (q_block (q_then (j_region (y_ (yl_move (T rfl)) (y_ (yl_add (T rfl) ev_c (by omega)) ?_ rfl) rfl)))))))
      refine y_ (yl_assign (T rfl)) (jl_nil ?_) rfl
      refine q_loopC (k + 1) ?_ ?_ ⟨(by first | exact at_f rfl | (refine at_e (at_f rfl) (vint ?_); omega) | (refine at_e (at_f rfl) ?_; simp; done)), trivial⟩ ⟨at_f rfl, trivial⟩ ?_
      · refine ⟨by omega, fun i j hij hj => ?_⟩
        by_cases e : j = k
        · subst e; exact hd2 i (by omega)
        · exact hd i j hij (by omega)
      · first | omega | (simp only []; omega)
      · exact sbt
  · refine j_exit (q_then_exit (q_loop_exit (q_block_hit (q_then (j_seq (j_region (y_ (yl_assign ev_c) (jl_nil (q_then (j_ret (q_ret rfl (.tmp (at_f rfl) .nil) ?_)))) rfl)))))))
    exact ⟨_, ⟨by rw [decide_eq_false (p := ¬ l.Nodup) (fun h => h (nd_iff.2 fun i j hij hj => hd i j hij (by omega)))]; rfl, rfl⟩, sbt⟩
theorem rNodes_s {w0 : World} {H : List (Nat × Obj)} (n : Nm) (hn : NetM w0 H n) (m : Wm) (hm : WayM w0 H m) (hr : InR n.links m.way.links) (hs20 : m.way.links.length ≤ 1000000) :
    FSpec Try.prog w0 66 #[.agg (encNm n).toArray, .agg (encW m).toArray] H (fun v H' => ∃ d : Sl, v = slV d (nodesF n.links m.way).length ∧ SlOk d (nodesF n.links m.way).length 1 ∧ H' = slH d ((nodesF n.links m.way).flatMap encI) 3 ++ H) := by
  refine fn_spec Try.func66 rfl Try.ntmps66 rfl (j_seq (j_region (e_ (eff_box (T rfl) cs_) ?_ rfl)))
  rintro _ _ ⟨n2, rfl, rfl⟩
  refine e_ (eff_box (T rfl) cs_) ?_ rfl
  rintro _ _ ⟨n3, rfl, rfl⟩
  refine y_ (yl_assign ev_c) (jl_nil (q_then (j_seq (j_region (y_ (yl_fa0 (T rfl) fa48_0) (y_ (yl_load (T rfl) Try.isAgg3 (by first | exact c_o | exact c_m (hm.links.f0 (i := k) (by omega) rfl) | exact c_m (hn.links.f (i := (gd m.way.links k).toNat) (by have := hr k (by omega); omega) rfl))) ?_ rfl) rfl))))) rfl
  refine e_ (eff_bslice (.cons (T rfl) .nil) (bs28_1_0 _)) ?_ rfl
  rintro _ _ ⟨n9, rfl, rfl⟩
  refine y_ (yl_assign (T rfl)) (jl_nil (q_then (j_seq (j_seq (j_region (y_ (yl_assign ev_c) (jl_nil (q_then (j_block ?_))) rfl)))))) rfl
  refine j_loopG (X := Nat × Sl × List Int) (V := fun ⟨k, d, l⟩ => [(6, .int .i64 (k : Nat)), (5, slV d l.length)]) (C := [(2, _), (3, _)]) (G := fun ⟨k, d, l⟩ => slH d (l.flatMap encI) 3) (Hc := _) (φ := fun ⟨k, d, l⟩ => k ≤ m.way.links.length ∧ l = m.way.src :: (m.way.links.take k).map (dstOf n.links) ∧ SlOk d l.length 1) (μ := fun ⟨k, d, l⟩ => m.way.links.length - k) (x0 := (0, .blk n9 1 [], [m.way.src])) ?_ ⟨at_f rfl, at_f rfl, trivial⟩ ⟨(by first | exact at_f rfl | (refine at_e (at_f rfl) (vint ?_); omega) | (refine at_e (at_f rfl) ?_; simp; done)), (by first | exact at_f rfl | (refine at_e (at_f rfl) (vint ?_); omega) | (refine at_e (at_f rfl) ?_; simp; done)), trivial⟩ (sb0 (l := slH (.blk n9 1 []) [.int .i64 m.way.src] 3 ++ _)) ?_
  · exact ⟨Nat.zero_le _, rfl, by simp [SlOk]⟩
  rintro ⟨k, d, l⟩ ⟨hk, hl, hok⟩
  have hlen : l.length = k + 1 := by rw [hl]; simp; omega
  refine j_seq (j_seq (j_region (y_ (yl_move (T rfl)) (y_ (yl_fa (T rfl) fa48_1) (y_ (yl_load (T rfl) Try.isAgg28 (by first | exact c_o | exact c_m (hm.links.f0 (i := k) (by omega) rfl) | exact c_m (hn.links.f (i := (gd m.way.links k).toNat) (by have := hr k (by omega); omega) rfl))) ?_ rfl) rfl) rfl)))
  refine y_ (yl_len (T rfl) Try.runUnderlying28) (y_ (yl_lss (T rfl) (T rfl)) (jl_nil (q_then ?_)) rfl) rfl
  first | refine j_cond_d (at_f rfl) (fun c14 => ?_) (fun c14 => ?_) | refine j_cond (at_f rfl) (fun c14 => ?_) (fun c14 => ?_)
  · refine j_skip (q_then (j_seq (j_block (j_any 12 [(0, true), (1, true), (2, true), (3, true), (4, true), (5, true), (6, true), (7, true), (8, true), (9, true), (10, true), (11, false)] _ mixd (by kernel_rfl) sb0 ?_))))
    refine o_y rfl (yl_move (T rfl)) (o_y rfl (yl_fa (T rfl) fa26_1) (o_y rfl (yl_load (T rfl) Try.isAgg23 (by first | exact c_o | exact c_m (hm.links.f0 (i := k) (by omega) rfl) | exact c_m (hn.links.f (i := (gd m.way.links k).toNat) (by have := hr k (by omega); omega) rfl))) ?_ rfl gd_n) rfl gd_n) rfl gd_n
    refine o_y rfl (yl_fa (T rfl) fa48_1) (o_y rfl (yl_load (T rfl) Try.isAgg28 (by first | exact c_o | exact c_m (hm.links.f0 (i := k) (by omega) rfl) | exact c_m (hn.links.f (i := (gd m.way.links k).toNat) (by have := hr k (by omega); omega) rfl))) ?_ rfl gd_n) rfl gd_n
    refine o_y rfl (yl_move (T rfl)) (o_y rfl (yl_ixQ (T rfl) (T rfl) Try.runUnderlying28 Try.sizeOf3 (by first | omega | (have := hr k (by omega); omega)) (by first | exact rfl | exact hm.links.b (i := k) (by omega) | exact hn.links.b (i := (gd m.way.links k).toNat) (by have := hr k (by omega); omega))) ?_ rfl gd_n) rfl gd_n
    refine o_y rfl (yl_load (T rfl) Try.isAgg3 (by first | exact c_o | exact c_m (hm.links.f0 (i := k) (by omega) rfl) | exact c_m (hn.links.f (i := (gd m.way.links k).toNat) (by have := hr k (by omega); omega) rfl))) ?_ rfl gd_n
    refine o_y rfl (yl_ixR (T rfl) (T rfl) Try.runUnderlying23 Try.sizeOf63 (by first | omega | (have := hr k (by omega); omega)) (by first | exact rfl | exact hm.links.b (i := k) (by omega) | exact hn.links.b (i := (gd m.way.links k).toNat) (by have := hr k (by omega); omega))) ?_ rfl gd_n
    refine o_y rfl (yl_fa (T rfl) fa63_1) (o_y rfl (yl_load (T rfl) Try.isAgg3 (by first | exact c_o | exact c_m (hm.links.f0 (i := k) (by omega) rfl) | exact c_m (hn.links.f (i := (gd m.way.links k).toNat) (by have := hr k (by omega); omega) rfl))) ?_ rfl gd_n) rfl gd_n
    refine o_e rfl (eff_bslice (.cons (T rfl) .nil) (bs28_1_0 _)) ?_ rfl gd_n
    rintro _ _ ⟨n28, rfl, rfl⟩
    refine ⟨sbt, (jo_nil rfl (e_ (eff_app1 ((gd n.links (gd m.way.links k).toNat).dst) (A := [_]) (by' := 8) (T rfl) (T rfl) Try.runUnderlying28 Try.runUnderlying28 Try.sizeOf3 Try.typeInfo3 rfl Try.zeroValue3 rfl (fun _ => rfl) rfl hok (by decide) (by omega)) ?_ rfl))⟩
    rintro _ _ ⟨d', rfl, hok', rfl⟩
    refine y_ (yl_assign (T rfl)) (jl_nil (q_block (q_then (j_region (y_ (yl_move (T rfl)) (y_ (yl_add (T rfl) ev_c (by omega)) ?_ rfl) rfl))))) rfl
    refine y_ (yl_assign (T rfl)) (jl_nil ?_) rfl
    refine q_loopC ((k + 1, d', l ++ [(gd n.links (gd m.way.links k).toNat).dst])) ?_ ?_ ⟨(by first | exact at_f rfl | (refine at_e (at_f rfl) (vint ?_); omega) | (refine at_e (at_f rfl) ?_; simp; done)), (by first | exact at_f rfl | (refine at_e (at_f rfl) (vint ?_); omega) | (refine at_e (at_f rfl) ?_; simp; done)), trivial⟩ ⟨at_f rfl, at_f rfl, trivial⟩ ?_
    · exact ⟨by omega, by rw [hl, take_gd (by omega), List.map_append]; rfl, by simpa using hok'⟩
    · first | omega | (simp only []; omega)
    · exact sbt
  · refine j_exit (q_then_exit (q_loop_exit (q_block_hit (q_then (j_seq (j_region (y_ (yl_move (T rfl)) (y_ (yl_assign (T rfl)) (jl_nil (q_then (j_ret (q_ret rfl (.tmp (at_f rfl) .nil) ?_)))) rfl) rfl)))))))
    rw [take_end (by omega), ← nodesF_eq] at hl
    rw [← hl]
    exact ⟨_, ⟨d, rfl, hok, rfl⟩, sbt⟩
end Go.Proofs.Ytdbffighngmibaa
