/-
  Walks of the checks of networks.
-/
import Derived.Test.YtdbffighngmibaaTa
namespace Go.Proofs.Ytdbffighngmibaa
open Go.RowKit
set_option linter.unusedVariables false
set_option linter.unusedSimpArgs false
theorem name_s {w0 : World} {H : List (Nat × Obj)} (s : ByteArray) (hs : s.size ≤ 9223372036854775807) :
    FSpec Try.prog w0 78 #[.string s] H (fun v H' => (∃ t : Bool, v = .bool t) ∧ H' = H) := by
  refine fn_spec Try.func78 rfl Try.ntmps78 rfl (j_seq (j_region (y_ (yl_assign ev_c) (jl_nil (q_then (j_seq (j_seq (j_region (y_ (yl_assign ev_c) (jl_nil (q_then (j_block ?_))) rfl)))))) rfl)))
  refine j_loopH (X := Nat) (V := fun k => [(3, .int .i64 (k : Nat))]) (C := [(0, _)]) (φ := fun k => k ≤ s.size) (μ := fun k => s.size - k) (x0 := 0) ?_ ⟨at_f rfl, trivial⟩ ⟨(by first | exact at_f rfl | (refine at_e (at_f rfl) (vint ?_); omega) | (refine at_e (at_f rfl) ?_; simp; done)), trivial⟩ ?_
  · exact Nat.zero_le _
  rintro k hk
  refine j_seq (j_seq (j_region (y_ (yl_move (T rfl)) (y_ (yl_move (T rfl)) (y_ (yl_len_s (T rfl) Try.runUnderlying9) (y_ (yl_lss (T rfl) (T rfl)) (jl_nil (q_then ?_)) rfl) rfl) rfl) rfl)))
  first | refine j_cond_d (at_f rfl) (fun c9 => ?_) (fun c9 => ?_) | refine j_cond (at_f rfl) (fun c9 => ?_) (fun c9 => ?_)
  · refine j_skip (q_then (j_seq (j_block ?_)))
    refine j_cutH (X := Bool) (V := fun t => [(4, .bool t)]) (C := [(0, _), (3, _)]) (φ := fun t => True) ⟨at_f rfl, at_f rfl, trivial⟩ ?_ ?_
    · refine j_region (y_ (yl_move (T rfl)) (y_ (yl_move (T rfl)) (y_ (yl_sidx (T rfl) (T rfl) Try.runUnderlying9 (by omega)) ?_ rfl) rfl) rfl)
      refine y_ (yl_geq (T rfl) ev_c) (y_ (yl_move (T rfl)) ?_ rfl) rfl
      first | refine jl_if_d (s := 16) (at_f rfl) (fun c16 => ?_) (fun c16 => ?_) | refine jl_if (s := 16) (at_f rfl) (fun c16 => ?_) (fun c16 => ?_)
      · refine jl_y (yl_move (T rfl)) rfl (gd_y rfl rfl (at_f rfl)) (jl_y (yl_move (T rfl)) rfl (gd_y rfl rfl (at_f rfl)) (jl_y (yl_sidx (T rfl) (T rfl) Try.runUnderlying9 (by omega)) rfl (gd_y rfl rfl (at_f rfl)) ?_))
        refine jl_y (yl_leq (T rfl) ev_c) rfl (gd_y rfl rfl (at_f rfl)) (y_ (yl_pick_t (T rfl) (T rfl)) (y_ (yl_assign (T rfl)) (jl_nil ?_) rfl) rfl)
        refine q_cutC (_) ?_ ⟨(by first | exact at_f rfl | (refine at_e (at_f rfl) (vint ?_); omega) | (refine at_e (at_f rfl) ?_; simp; done)), trivial⟩ ⟨at_f rfl, at_f rfl, trivial⟩ sbt
        trivial
      · refine n_ft (n_ft (n_ft (n_ft (y_ (yl_pick_f (T rfl) ev_c) (y_ (yl_assign (T rfl)) (jl_nil ?_) rfl) rfl) rfl rfl rfl rfl) rfl rfl rfl rfl) rfl rfl rfl rfl) rfl rfl rfl rfl
        refine q_cutC (_) ?_ ⟨(by first | exact at_f rfl | (refine at_e (at_f rfl) (vint ?_); omega) | (refine at_e (at_f rfl) ?_; simp; done)), trivial⟩ ⟨at_f rfl, at_f rfl, trivial⟩ sbt
        trivial
    rintro t -
    refine j_cutH (X := Bool) (V := fun t => [(5, .bool t)]) (C := [(0, _), (3, _), (4, _)]) (φ := fun t => True) ⟨at_f rfl, at_f rfl, at_f rfl, trivial⟩ ?_ ?_
    · refine j_region (y_ (yl_move (T rfl)) (y_ (yl_move (T rfl)) (y_ (yl_sidx (T rfl) (T rfl) Try.runUnderlying9 (by omega)) ?_ rfl) rfl) rfl)
      refine y_ (yl_geq (T rfl) ev_c) (y_ (yl_move (T rfl)) ?_ rfl) rfl
      first | refine jl_if_d (s := 26) (at_f rfl) (fun c26 => ?_) (fun c26 => ?_) | refine jl_if (s := 26) (at_f rfl) (fun c26 => ?_) (fun c26 => ?_)
      · refine jl_y (yl_move (T rfl)) rfl (gd_y rfl rfl (at_f rfl)) (jl_y (yl_move (T rfl)) rfl (gd_y rfl rfl (at_f rfl)) (jl_y (yl_sidx (T rfl) (T rfl) Try.runUnderlying9 (by omega)) rfl (gd_y rfl rfl (at_f rfl)) ?_))
        refine jl_y (yl_leq (T rfl) ev_c) rfl (gd_y rfl rfl (at_f rfl)) (y_ (yl_pick_t (T rfl) (T rfl)) (y_ (yl_move (T rfl)) ?_ rfl) rfl)
        first | refine jl_if_d (s := 32) (at_f rfl) (fun c32 => ?_) (fun c32 => ?_) | refine jl_if (s := 32) (at_f rfl) (fun c32 => ?_) (fun c32 => ?_)
        · refine n_tf (n_tf (n_tf (n_tf (y_ (yl_pick_t (T rfl) ev_c) (y_ (yl_assign (T rfl)) (jl_nil ?_) rfl) rfl) rfl rfl rfl rfl) rfl rfl rfl rfl) rfl rfl rfl rfl) rfl rfl rfl rfl
          refine q_cutC (_) ?_ ⟨(by first | exact at_f rfl | (refine at_e (at_f rfl) (vint ?_); omega) | (refine at_e (at_f rfl) ?_; simp; done)), trivial⟩ ⟨at_f rfl, at_f rfl, at_f rfl, trivial⟩ sbt
          trivial
        · refine jl_y (yl_move (T rfl)) rfl (gd_y rfl rfl (at_f rfl)) (jl_y (yl_move (T rfl)) rfl (gd_y rfl rfl (at_f rfl)) (jl_y (yl_sidx (T rfl) (T rfl) Try.runUnderlying9 (by omega)) rfl (gd_y rfl rfl (at_f rfl)) ?_))
          refine jl_y (yl_eql (T rfl) ev_c) rfl (gd_y rfl rfl (at_f rfl)) (y_ (yl_pick_f (T rfl) (T rfl)) (y_ (yl_assign (T rfl)) (jl_nil ?_) rfl) rfl)
          refine q_cutC (_) ?_ ⟨(by first | exact at_f rfl | (refine at_e (at_f rfl) (vint ?_); omega) | (refine at_e (at_f rfl) ?_; simp; done)), trivial⟩ ⟨at_f rfl, at_f rfl, at_f rfl, trivial⟩ sbt
          trivial
      · refine n_ft (n_ft (n_ft (n_ft (y_ (yl_pick_f (T rfl) ev_c) (y_ (yl_move (T rfl)) (jl_y (yl_move (T rfl)) rfl (gd_y rfl rfl (at_f rfl)) (jl_y (yl_move (T rfl)) rfl (gd_y rfl rfl (at_f rfl)) (jl_y (yl_sidx (T rfl) (T rfl) Try.runUnderlying9 (by omega)) rfl (gd_y rfl rfl (at_f rfl)) ?_))) rfl) rfl) rfl rfl rfl rfl) rfl rfl rfl rfl) rfl rfl rfl rfl) rfl rfl rfl rfl
        refine jl_y (yl_eql (T rfl) ev_c) rfl (gd_y rfl rfl (at_f rfl)) (y_ (yl_pick_f (T rfl) (T rfl)) (y_ (yl_assign (T rfl)) (jl_nil ?_) rfl) rfl)
        refine q_cutC (_) ?_ ⟨(by first | exact at_f rfl | (refine at_e (at_f rfl) (vint ?_); omega) | (refine at_e (at_f rfl) ?_; simp; done)), trivial⟩ ⟨at_f rfl, at_f rfl, at_f rfl, trivial⟩ sbt
        trivial
    rintro t -
    refine j_cutH (X := Bool) (V := fun t => [(47, .bool t)]) (C := [(0, _), (3, _)]) (φ := fun t => True) ⟨at_f rfl, at_f rfl, trivial⟩ ?_ ?_
    · refine j_region (y_ (yl_move (T rfl)) ?_ rfl)
      first | refine jl_y (yl_not_d (T rfl)) rfl gd_n ?_ | refine jl_y (yl_not (T rfl)) rfl gd_n ?_
      refine y_ (yl_move (T rfl)) ?_ rfl
      first | refine jl_if_d (s := 40) (at_f rfl) (fun c40 => ?_) (fun c40 => ?_) | refine jl_if (s := 40) (at_f rfl) (fun c40 => ?_) (fun c40 => ?_)
      · refine jl_y (yl_move (T rfl)) rfl (gd_y rfl rfl (at_f rfl)) ?_
        first | refine jl_y (yl_not_d (T rfl)) rfl (gd_y rfl rfl (at_f rfl)) ?_ | refine jl_y (yl_not (T rfl)) rfl (gd_y rfl rfl (at_f rfl)) ?_
        refine jl_y (yl_move (T rfl)) rfl (gd_y rfl rfl (at_f rfl)) ?_
        first | refine jl_if_d (s := 43) (at_f rfl) (fun c43 => ?_) (fun c43 => ?_) | refine jl_if (s := 43) (at_f rfl) (fun c43 => ?_) (fun c43 => ?_)
        · refine n_tf (n_tf (jl_y (yl_pick_t (T rfl) ev_c) rfl (gd_y rfl rfl (at_f rfl)) (y_ (yl_pick_t (T rfl) (T rfl)) (jl_nil ?_) rfl)) rfl rfl rfl rfl) rfl rfl rfl rfl
          refine q_cutC (_) ?_ ⟨(by first | exact at_f rfl | (refine at_e (at_f rfl) (vint ?_); omega) | (refine at_e (at_f rfl) ?_; simp; done)), trivial⟩ ⟨at_f rfl, at_f rfl, trivial⟩ sbt
          trivial
        · refine jl_y (yl_move (T rfl)) rfl (gd_y rfl rfl (at_f rfl)) (jl_y (yl_eql (T rfl) ev_c) rfl (gd_y rfl rfl (at_f rfl)) (jl_y (yl_pick_f (T rfl) (T rfl)) rfl (gd_y rfl rfl (at_f rfl)) (y_ (yl_pick_t (T rfl) (T rfl)) (jl_nil ?_) rfl)))
          refine q_cutC (_) ?_ ⟨(by first | exact at_f rfl | (refine at_e (at_f rfl) (vint ?_); omega) | (refine at_e (at_f rfl) ?_; simp; done)), trivial⟩ ⟨at_f rfl, at_f rfl, trivial⟩ sbt
          trivial
      · refine n_ft (n_ft (n_ft (n_u (n_u (n_ft (y_ (yl_pick_f (T rfl) ev_c) (jl_nil ?_) rfl) rfl rfl rfl rfl) rfl rfl rfl rfl) rfl rfl rfl rfl) rfl rfl rfl rfl) rfl rfl rfl rfl) rfl rfl rfl rfl
        refine q_cutC (_) ?_ ⟨(by first | exact at_f rfl | (refine at_e (at_f rfl) (vint ?_); omega) | (refine at_e (at_f rfl) ?_; simp; done)), trivial⟩ ⟨at_f rfl, at_f rfl, trivial⟩ sbt
        trivial
    rintro t -
    first | refine j_cond_d (at_f rfl) (fun c47 => ?_) (fun c47 => ?_) | refine j_cond (at_f rfl) (fun c47 => ?_) (fun c47 => ?_)
    · refine j_seq (j_region (y_ (yl_assign ev_c) (jl_nil (q_then (j_ret (q_block_ret (q_then_ret (q_loop_ret (q_block_ret (q_then_ret (q_ret rfl (.tmp (at_f rfl) .nil) ?_))))))))) rfl))
      exact ⟨_, ⟨⟨_, rfl⟩, rfl⟩, sbt⟩
    · refine j_skip (q_block (q_then (j_region (y_ (yl_move (T rfl)) (y_ (yl_add (T rfl) ev_c (by omega)) ?_ rfl) rfl))))
      refine y_ (yl_assign (T rfl)) (jl_nil ?_) rfl
      refine q_loopC (k + 1) ?_ ?_ ⟨(by first | exact at_f rfl | (refine at_e (at_f rfl) (vint ?_); omega) | (refine at_e (at_f rfl) ?_; simp; done)), trivial⟩ ⟨at_f rfl, trivial⟩ ?_
      · show k + 1 ≤ _; omega
      · first | omega | (simp only []; omega)
      · exact sbt
  · refine j_exit (q_then_exit (q_loop_exit (q_block_hit (q_then (j_seq (j_region (y_ (yl_move (T rfl)) (y_ (yl_len_s (T rfl) Try.runUnderlying9) (y_ (yl_geq (T rfl) ev_c) (y_ (yl_move (T rfl)) ?_ rfl) rfl) rfl) rfl)))))))
    first | refine jl_if_d (s := 51) (at_f rfl) (fun c51 => ?_) (fun c51 => ?_) | refine jl_if (s := 51) (at_f rfl) (fun c51 => ?_) (fun c51 => ?_)
    · refine jl_y (yl_move (T rfl)) rfl (gd_y rfl rfl (at_f rfl)) (jl_y (yl_len_s (T rfl) Try.runUnderlying9) rfl (gd_y rfl rfl (at_f rfl)) (jl_y (yl_leq (T rfl) ev_c) rfl (gd_y rfl rfl (at_f rfl)) (y_ (yl_pick_t (T rfl) (T rfl)) (y_ (yl_assign (T rfl)) (jl_nil (q_then (j_ret (q_ret rfl (.tmp (at_f rfl) .nil) ?_)))) rfl) rfl)))
      exact ⟨_, ⟨⟨_, rfl⟩, rfl⟩, sbt⟩
    · refine n_ft (n_ft (n_ft (y_ (yl_pick_f (T rfl) ev_c) (y_ (yl_assign (T rfl)) (jl_nil (q_then (j_ret (q_ret rfl (.tmp (at_f rfl) .nil) ?_)))) rfl) rfl) rfl rfl rfl rfl) rfl rfl rfl rfl) rfl rfl rfl rfl
      exact ⟨_, ⟨⟨_, rfl⟩, rfl⟩, sbt⟩
theorem names_s {w0 : World} {H : List (Nat × Obj)} (n : Nm) (hn : NetM w0 H n) (h1 : n.nodes.length ≤ 1000000) (h2 : n.edges.length ≤ 1000000) :
    FSpec Try.prog w0 60 #[.agg (encNm n).toArray] H (fun v H' => ∃ d1 d2 : Sl, v = .tuple #[slV d1 (n.nodes.map (·.name)).length, slV d2 (n.edges.map (·.name)).length] ∧ SlOk d1 (n.nodes.map (·.name)).length 1 ∧ SlOk d2 (n.edges.map (·.name)).length 1 ∧ H' = slH d2 ((n.edges.map (·.name)).flatMap encS) 9 ++ (slH d1 ((n.nodes.map (·.name)).flatMap encS) 9 ++ H)) := by
  refine fn_spec Try.func60 rfl Try.ntmps60 rfl (j_seq (j_region (e_ (eff_box (T rfl) cs_) ?_ rfl)))
  rintro _ _ ⟨n1, rfl, rfl⟩
  refine y_ (yl_assign ev_c) (y_ (yl_assign ev_c) (jl_nil (q_then (j_seq (j_region (y_ (yl_assign ev_c) (jl_nil (q_then (j_seq (j_region (y_ (yl_assign ev_c) (jl_nil (q_then (j_seq (j_seq (j_region (y_ (yl_assign ev_c) (jl_nil (q_then (j_block ?_))) rfl)))))) rfl))))) rfl))))) rfl) rfl
  refine j_loopG (X := Nat × Sl × List ByteArray) (V := fun ⟨k, d, l⟩ => [(6, .int .i64 (k : Nat)), (4, slV d l.length)]) (C := [(1, _), (5, _)]) (G := fun ⟨k, d, l⟩ => slH d (l.flatMap encS) 9) (Hc := _) (φ := fun ⟨k, d, l⟩ => k ≤ n.nodes.length ∧ l = (n.nodes.take k).map (·.name) ∧ SlOk d l.length 1) (μ := fun ⟨k, d, l⟩ => n.nodes.length - k) (x0 := (0, .nil, [])) ?_ ⟨at_f rfl, at_f rfl, trivial⟩ ⟨(by first | exact at_f rfl | (refine at_e (at_f rfl) (vint ?_); omega) | (refine at_e (at_f rfl) ?_; simp; done)), (by first | exact at_f rfl | (refine at_e (at_f rfl) (vint ?_); omega) | (refine at_e (at_f rfl) ?_; simp; done)), trivial⟩ sb0 ?_
  · exact ⟨Nat.zero_le _, rfl, rfl⟩
  rintro ⟨k, d, l⟩ ⟨hk, hl, hok⟩
  have hlen : l.length = k := by rw [hl]; simp; omega
  refine j_seq (j_seq (j_region (y_ (yl_move (T rfl)) (y_ (yl_fa0 (T rfl) fa26_0) (y_ (yl_load (T rfl) Try.isAgg22 (by first | exact c_o | exact c_m (hn.nodes.f0 (by omega) rfl) | exact c_m (hn.edges.f0 (by omega) rfl))) ?_ rfl) rfl) rfl)))
  refine y_ (yl_len (T rfl) Try.runUnderlying22) (y_ (yl_lss (T rfl) (T rfl)) (jl_nil (q_then ?_)) rfl) rfl
  first | refine j_cond_d (at_f rfl) (fun c12 => ?_) (fun c12 => ?_) | refine j_cond (at_f rfl) (fun c12 => ?_) (fun c12 => ?_)
  · refine j_skip (q_then (j_seq (j_block (j_region (y_ (yl_move (T rfl)) (y_ (yl_fa0 (T rfl) fa26_0) (y_ (yl_load (T rfl) Try.isAgg22 (by first | exact c_o | exact c_m (hn.nodes.f0 (by omega) rfl) | exact c_m (hn.edges.f0 (by omega) rfl))) ?_ rfl) rfl) rfl)))))
    refine y_ (yl_move (T rfl)) (y_ (yl_ixQ (T rfl) (T rfl) Try.runUnderlying22 Try.sizeOf121 (by omega) (by first | exact rfl | exact hn.nodes.b (i := k) (by omega) | exact hn.edges.b (i := k2) (by omega))) ?_ rfl) rfl
    refine y_ (yl_fa0 (T rfl) fa121_0) (y_ (yl_load (T rfl) Try.isAgg9 (by first | exact c_o | exact c_m (hn.nodes.f0 (by omega) rfl) | exact c_m (hn.edges.f0 (by omega) rfl))) ?_ rfl) rfl
    refine e_ (eff_bslice (.cons (T rfl) .nil) (bs116_1_0 _)) ?_ rfl
    rintro _ _ ⟨n22, rfl, rfl⟩
    refine e_ (eff_app1 ((gd n.nodes k).name) (A := [_]) (by' := 16) (T rfl) (T rfl) Try.runUnderlying116 Try.runUnderlying116 Try.sizeOf9 Try.typeInfo9 rfl Try.zeroValue9 rfl (fun _ => rfl) rfl hok (by decide) (by omega)) ?_ rfl
    rintro _ _ ⟨d', rfl, hok', rfl⟩
    refine y_ (yl_assign (T rfl)) (jl_nil (q_block (q_then (j_region (y_ (yl_move (T rfl)) (y_ (yl_add (T rfl) ev_c (by omega)) ?_ rfl) rfl))))) rfl
    refine y_ (yl_assign (T rfl)) (jl_nil ?_) rfl
    refine q_loopC ((k + 1, d', l ++ [(gd n.nodes k).name])) ?_ ?_ ⟨(by first | exact at_f rfl | (refine at_e (at_f rfl) (vint ?_); omega) | (refine at_e (at_f rfl) ?_; simp; done)), (by first | exact at_f rfl | (refine at_e (at_f rfl) (vint ?_); omega) | (refine at_e (at_f rfl) ?_; simp; done)), trivial⟩ ⟨at_f rfl, at_f rfl, trivial⟩ ?_
    · exact ⟨by omega, by rw [hl, take_gd (by omega), List.map_append]; rfl, by simpa using hok'⟩
    · first | omega | (simp only []; omega)
    · exact sbt
  · refine j_exit (q_then_exit (q_loop_exit (q_block_hit (q_then (j_seq (j_seq (j_region (y_ (yl_assign ev_c) (jl_nil (q_then (j_block ?_))) rfl))))))))
    refine j_loopG (X := Nat × Sl × List ByteArray) (V := fun ⟨k2, d2, l2⟩ => [(7, .int .i64 (k2 : Nat)), (5, slV d2 l2.length)]) (C := [(1, _), (4, _)]) (G := fun ⟨k2, d2, l2⟩ => slH d2 (l2.flatMap encS) 9) (Hc := _) (φ := fun ⟨k2, d2, l2⟩ => k2 ≤ n.edges.length ∧ l2 = (n.edges.take k2).map (·.name) ∧ SlOk d2 l2.length 1) (μ := fun ⟨k2, d2, l2⟩ => n.edges.length - k2) (x0 := (0, .nil, [])) ?_ ⟨at_f rfl, at_f rfl, trivial⟩ ⟨(by first | exact at_f rfl | (refine at_e (at_f rfl) (vint ?_); omega) | (refine at_e (at_f rfl) ?_; simp; done)), (by first | exact at_f rfl | (refine at_e (at_f rfl) (vint ?_); omega) | (refine at_e (at_f rfl) ?_; simp; done)), trivial⟩ sb0 ?_
    · exact ⟨Nat.zero_le _, rfl, rfl⟩
    rintro ⟨k2, d2, l2⟩ ⟨hk2, hl2, hok2⟩
    have hlen2 : l2.length = k2 := by rw [hl2]; simp; omega
    refine j_seq (j_seq (j_region (y_ (yl_move (T rfl)) (y_ (yl_fa (T rfl) fa26_2) (y_ (yl_load (T rfl) Try.isAgg24 (by first | exact c_o | exact c_m (hn.nodes.f0 (by omega) rfl) | exact c_m (hn.edges.f0 (by omega) rfl))) ?_ rfl) rfl) rfl)))
    refine y_ (yl_len (T rfl) Try.runUnderlying24) (y_ (yl_lss (T rfl) (T rfl)) (jl_nil (q_then ?_)) rfl) rfl
    first | refine j_cond_d (at_f rfl) (fun c28 => ?_) (fun c28 => ?_) | refine j_cond (at_f rfl) (fun c28 => ?_) (fun c28 => ?_)
    · refine j_skip (q_then (j_seq (j_block (j_region (y_ (yl_move (T rfl)) (y_ (yl_fa (T rfl) fa26_2) (y_ (yl_load (T rfl) Try.isAgg24 (by first | exact c_o | exact c_m (hn.nodes.f0 (by omega) rfl) | exact c_m (hn.edges.f0 (by omega) rfl))) ?_ rfl) rfl) rfl)))))
      refine y_ (yl_move (T rfl)) (y_ (yl_ixQ (T rfl) (T rfl) Try.runUnderlying24 Try.sizeOf124 (by omega) (by first | exact rfl | exact hn.nodes.b (i := k) (by omega) | exact hn.edges.b (i := k2) (by omega))) ?_ rfl) rfl
      refine y_ (yl_fa0 (T rfl) fa124_0) (y_ (yl_load (T rfl) Try.isAgg9 (by first | exact c_o | exact c_m (hn.nodes.f0 (by omega) rfl) | exact c_m (hn.edges.f0 (by omega) rfl))) ?_ rfl) rfl
      refine e_ (eff_bslice (.cons (T rfl) .nil) (bs116_1_0 _)) ?_ rfl
      rintro _ _ ⟨n38, rfl, rfl⟩
      refine e_ (eff_app1 ((gd n.edges k2).name) (A := [_]) (by' := 16) (T rfl) (T rfl) Try.runUnderlying116 Try.runUnderlying116 Try.sizeOf9 Try.typeInfo9 rfl Try.zeroValue9 rfl (fun _ => rfl) rfl hok2 (by decide) (by omega)) ?_ rfl
      rintro _ _ ⟨d', rfl, hok', rfl⟩
      refine y_ (yl_assign (T rfl)) (jl_nil (q_block (q_then (j_region (y_ (yl_move (T rfl)) (y_ (yl_add (T rfl) ev_c (by omega)) ?_ rfl) rfl))))) rfl
      refine y_ (yl_assign (T rfl)) (jl_nil ?_) rfl
      refine q_loopC ((k2 + 1, d', l2 ++ [(gd n.edges k2).name])) ?_ ?_ ⟨(by first | exact at_f rfl | (refine at_e (at_f rfl) (vint ?_); omega) | (refine at_e (at_f rfl) ?_; simp; done)), (by first | exact at_f rfl | (refine at_e (at_f rfl) (vint ?_); omega) | (refine at_e (at_f rfl) ?_; simp; done)), trivial⟩ ⟨at_f rfl, at_f rfl, trivial⟩ ?_
      · exact ⟨by omega, by rw [hl2, take_gd (by omega), List.map_append]; rfl, by simpa using hok'⟩
      · first | omega | (simp only []; omega)
      · exact sbt
    · refine j_exit (q_then_exit (q_loop_exit (q_block_hit (q_then (j_seq (j_region (y_ (yl_move (T rfl)) (y_ (yl_move (T rfl)) (y_ (yl_assign (T rfl)) (y_ (yl_assign (T rfl)) (jl_nil (q_then (j_ret (q_ret rfl (.tmp (at_f rfl) (.tmp (at_f rfl) .nil)) ?_)))) rfl) rfl) rfl) rfl)))))))
      rw [take_end (by omega)] at hl hl2
      rw [← hl, ← hl2]
      exact ⟨_, ⟨d, d2, rfl, hok, hok2, rfl⟩, sbt⟩
theorem named_s {w0 : World} {H : List (Nat × Obj)} (q : Option Addr) (cap : Nat) (l : List ByteArray) (ha : Arr w0 H q 1 encS l) (hb : ∀ x ∈ l, x.size ≤ 9223372036854775807) (hl : l.length ≤ 1000000) :
    FSpec Try.prog w0 61 #[.slice q l.length cap] H (fun v H' => (∃ t : Bool, v = .bool t) ∧ H' = H) := by
  refine fn_spec Try.func61 rfl Try.ntmps61 rfl (j_seq (j_region (y_ (yl_assign ev_c) (jl_nil (q_then (j_seq (j_seq (j_region (y_ (yl_assign ev_c) (jl_nil (q_then (j_block ?_))) rfl)))))) rfl)))
  refine j_loopH (X := Nat) (V := fun k => [(3, .int .i64 (k : Nat))]) (C := [(0, _)]) (φ := fun k => k ≤ l.length) (μ := fun k => l.length - k) (x0 := 0) ?_ ⟨at_f rfl, trivial⟩ ⟨(by first | exact at_f rfl | (refine at_e (at_f rfl) (vint ?_); omega) | (refine at_e (at_f rfl) ?_; simp; done)), trivial⟩ ?_
  · exact Nat.zero_le _
  rintro k hk
  refine j_seq (j_seq (j_region (y_ (yl_move (T rfl)) (y_ (yl_move (T rfl)) (y_ (yl_len (T rfl) Try.runUnderlying116) (y_ (yl_lss (T rfl) (T rfl)) (jl_nil (q_then ?_)) rfl) rfl) rfl) rfl)))
  first | refine j_cond_d (at_f rfl) (fun c9 => ?_) (fun c9 => ?_) | refine j_cond (at_f rfl) (fun c9 => ?_) (fun c9 => ?_)
  · refine j_skip (q_then (j_seq (j_block (j_seq (j_region (y_ (yl_move (T rfl)) (y_ (yl_move (T rfl)) (y_ (yl_ixQ (T rfl) (T rfl) Try.runUnderlying116 Try.sizeOf9 (by omega) (by first | exact rfl | exact ha.b (i := k) (by omega))) ?_ rfl) rfl) rfl))))))
    refine y_ (yl_load (T rfl) Try.isAgg9 (by first | exact c_o | exact c_m (ha.f0 (i := k) (by omega) rfl) | exact c_m (ha.f0 (i := k2) (by omega) rfl))) ?_ rfl
    refine e_ (eff_call (.cons (T rfl) .nil) Try.call78 (name_s _ (hb _ (gd_mem (i := k) (by omega))))) ?_ rfl
    rintro _ _ ⟨⟨t, rfl⟩, rfl⟩
    refine y_ (yl_assign (T rfl)) (jl_nil (q_then (j_seq (j_seq (j_region (y_ (yl_move (T rfl)) ?_ rfl)))))) rfl
    first | refine jl_y (yl_not_d (T rfl)) rfl gd_n ?_ | refine jl_y (yl_not (T rfl)) rfl gd_n ?_
    refine jl_nil (q_then ?_)
    first | refine j_cond_d (at_f rfl) (fun c18 => ?_) (fun c18 => ?_) | refine j_cond (at_f rfl) (fun c18 => ?_) (fun c18 => ?_)
    · refine j_seq (j_region (y_ (yl_assign ev_c) (jl_nil (q_then (j_ret (q_then_ret (q_block_ret (q_then_ret (q_loop_ret (q_block_ret (q_then_ret (q_ret rfl (.tmp (at_f rfl) .nil) ?_)))))))))) rfl))
      exact ⟨_, ⟨⟨_, rfl⟩, rfl⟩, sbt⟩
    · refine j_skip (q_then (j_seq (j_region (y_ (yl_assign ev_c) (jl_nil (q_then (j_block ?_))) rfl))))
      refine j_loopH (X := Nat) (V := fun k2 => [(5, .int .i64 (k2 : Nat))]) (C := [(0, _), (3, _)]) (φ := fun k2 => k2 ≤ k) (μ := fun k2 => k - k2) (x0 := 0) ?_ ⟨at_f rfl, at_f rfl, trivial⟩ ⟨(by first | exact at_f rfl | (refine at_e (at_f rfl) (vint ?_); omega) | (refine at_e (at_f rfl) ?_; simp; done)), trivial⟩ ?_
      · exact Nat.zero_le _
      rintro k2 hk2
      refine j_seq (j_seq (j_region (y_ (yl_move (T rfl)) (y_ (yl_move (T rfl)) (y_ (yl_lss (T rfl) (T rfl)) (jl_nil (q_then ?_)) rfl) rfl) rfl)))
      first | refine j_cond_d (at_f rfl) (fun c21 => ?_) (fun c21 => ?_) | refine j_cond (at_f rfl) (fun c21 => ?_) (fun c21 => ?_)
      · refine j_skip (q_then (j_seq (j_block (j_seq (j_any 9 [(0, true), (1, true), (2, true), (3, true), (4, true), (5, true), (6, true), (7, true), (8, true)] _ mixd (by kernel_rfl) sb0 ?_)))))
        refine o_y rfl (yl_move (T rfl)) (o_y rfl (yl_move (T rfl)) (o_y rfl (yl_ixQ (T rfl) (T rfl) Try.runUnderlying116 Try.sizeOf9 (by omega) (by first | exact rfl | exact ha.b (i := k) (by omega))) ?_ rfl gd_n) rfl gd_n) rfl gd_n
        refine o_y rfl (yl_load (T rfl) Try.isAgg9 (by first | exact c_o | exact c_m (ha.f0 (i := k) (by omega) rfl) | exact c_m (ha.f0 (i := k2) (by omega) rfl))) ?_ rfl gd_n
        refine o_y rfl (yl_move (T rfl)) (o_y rfl (yl_move (T rfl)) (o_y rfl (yl_ixR (T rfl) (T rfl) Try.runUnderlying116 Try.sizeOf9 (by omega) (by first | exact rfl | exact ha.b (i := k) (by omega))) ?_ rfl gd_n) rfl gd_n) rfl gd_n
        refine o_y rfl (yl_load (T rfl) Try.isAgg9 (by first | exact c_o | exact c_m (ha.f0 (i := k) (by omega) rfl) | exact c_m (ha.f0 (i := k2) (by omega) rfl))) ?_ rfl gd_n
        refine o_y rfl (yl_eqS (T rfl) (T rfl)) (jo_nil rfl (jl_nil (q_then ?_))) rfl gd_n
        first | refine j_cond_d (at_f rfl) (fun c32 => ?_) (fun c32 => ?_) | refine j_cond (at_f rfl) (fun c32 => ?_) (fun c32 => ?_)
        · refine j_seq (j_region (y_ (yl_assign ev_c) (jl_nil (q_then (j_ret (q_block_ret (q_then_ret (q_loop_ret (q_block_ret (q_block_ret (q_then_ret (q_loop_ret (q_block_ret (q_then_ret (q_ret rfl (.tmp (at_f rfl) .nil) ?_))))))))))))) rfl))
          exact ⟨_, ⟨⟨_, rfl⟩, rfl⟩, sbt⟩
        · refine j_skip (q_block (q_then (j_region (y_ (yl_move (T rfl)) (y_ (yl_add (T rfl) ev_c (by omega)) ?_ rfl) rfl))))
          refine y_ (yl_assign (T rfl)) (jl_nil ?_) rfl
          refine q_loopC (k2 + 1) ?_ ?_ ⟨(by first | exact at_f rfl | (refine at_e (at_f rfl) (vint ?_); omega) | (refine at_e (at_f rfl) ?_; simp; done)), trivial⟩ ⟨at_f rfl, at_f rfl, trivial⟩ ?_
          · show k2 + 1 ≤ _; omega
          · first | omega | (simp only []; omega)
          · exact sbt
      · refine j_exit (q_then_exit (q_loop_exit (q_block_hit (q_block (q_then (j_region (y_ (yl_move (T rfl)) (y_ (yl_add (T rfl) ev_c (by omega)) ?_ rfl) rfl)))))))
        refine y_ (yl_assign (T rfl)) (jl_nil ?_) rfl
        refine q_loopC (k + 1) ?_ ?_ ⟨(by first | exact at_f rfl | (refine at_e (at_f rfl) (vint ?_); omega) | (refine at_e (at_f rfl) ?_; simp; done)), trivial⟩ ⟨at_f rfl, trivial⟩ ?_
        · show k + 1 ≤ _; omega
        · first | omega | (simp only []; omega)
        · exact sbt
  · refine j_exit (q_then_exit (q_loop_exit (q_block_hit (q_then (j_seq (j_region (y_ (yl_assign ev_c) (jl_nil (q_then (j_ret (q_ret rfl (.tmp (at_f rfl) .nil) ?_)))) rfl)))))))
    exact ⟨_, ⟨⟨_, rfl⟩, rfl⟩, sbt⟩
theorem netCheck_s {w0 : World} {H : List (Nat × Obj)} (n : Nm) (hn : NetM w0 H n) :
    FSpec Try.prog w0 29 #[.agg (encNm n).toArray] H (fun v H' => (∃ e : Int, v = .int .i64 e ∧ (e = 0 → NetOk n)) ∧ H' = H) := by
  refine fn_spec Try.func29 rfl Try.ntmps29 rfl (j_seq (j_region (e_ (eff_box (T rfl) cs_) ?_ rfl)))
  rintro _ _ ⟨n1, rfl, rfl⟩
  refine y_ (yl_assign ev_c) (jl_nil (q_then (j_seq (j_seq (j_region (y_ (yl_fa0 (T rfl) fa26_0) (y_ (yl_load (T rfl) Try.isAgg22 (by first | exact c_o | exact c_m (hn.nodes.f0 (i := k) (by omega) rfl) | exact c_m (hn.edges.f0 (i := k3) (by omega) rfl) | exact c_m (hn.edges.f (i := k3) (by omega) rfl))) ?_ rfl) rfl)))))) rfl
  refine y_ (yl_len (T rfl) Try.runUnderlying22) (y_ (yl_gtr (T rfl) ev_c) (y_ (yl_move (T rfl)) ?_ rfl) rfl) rfl
  first | refine jl_if_d (s := 16) (at_f rfl) (fun c16 => ?_) (fun c16 => ?_) | refine jl_if (s := 16) (at_f rfl) (fun c16 => ?_) (fun c16 => ?_)
  · refine n_tf (n_tf (n_tf (n_tf (y_ (yl_pick_t (T rfl) ev_c) (y_ (yl_move (T rfl)) (n_tf (n_tf (n_tf (n_tf (y_ (yl_pick_t (T rfl) ev_c) (jl_nil (q_then (j_cond_t (at_f rfl) (j_seq (j_region (y_ (yl_assign ev_c) (jl_nil (q_then (j_ret (q_then_ret (q_ret rfl (.tmp (at_f rfl) .nil) ?_))))) rfl)))))) rfl) rfl rfl rfl rfl) rfl rfl rfl rfl) rfl rfl rfl rfl) rfl rfl rfl rfl) rfl) rfl) rfl rfl rfl rfl) rfl rfl rfl rfl) rfl rfl rfl rfl) rfl rfl rfl rfl
    exact ⟨_, ⟨⟨_, rfl, fun h => by first | (exfalso; omega) | exact ⟨fun i hi => hl2 i (by omega), fun i hi => hl3 i (by omega)⟩⟩, rfl⟩, sbt⟩
  · refine jl_y (yl_fa (T rfl) fa26_1) rfl (gd_y rfl rfl (at_f rfl)) (jl_y (yl_load (T rfl) Try.isAgg23 (by first | exact c_o | exact c_m (hn.nodes.f0 (i := k) (by omega) rfl) | exact c_m (hn.edges.f0 (i := k3) (by omega) rfl) | exact c_m (hn.edges.f (i := k3) (by omega) rfl))) rfl (gd_y rfl rfl (at_f rfl)) ?_)
    refine jl_y (yl_len (T rfl) Try.runUnderlying23) rfl (gd_y rfl rfl (at_f rfl)) (jl_y (yl_gtr (T rfl) ev_c) rfl (gd_y rfl rfl (at_f rfl)) (y_ (yl_pick_f (T rfl) (T rfl)) (y_ (yl_move (T rfl)) ?_ rfl) rfl))
    first | refine jl_if_d (s := 22) (at_f rfl) (fun c22 => ?_) (fun c22 => ?_) | refine jl_if (s := 22) (at_f rfl) (fun c22 => ?_) (fun c22 => ?_)
    · refine n_tf (n_tf (n_tf (n_tf (y_ (yl_pick_t (T rfl) ev_c) (jl_nil (q_then (j_cond_t (at_f rfl) (j_seq (j_region (y_ (yl_assign ev_c) (jl_nil (q_then (j_ret (q_then_ret (q_ret rfl (.tmp (at_f rfl) .nil) ?_))))) rfl)))))) rfl) rfl rfl rfl rfl) rfl rfl rfl rfl) rfl rfl rfl rfl) rfl rfl rfl rfl
      exact ⟨_, ⟨⟨_, rfl, fun h => by first | (exfalso; omega) | exact ⟨fun i hi => hl2 i (by omega), fun i hi => hl3 i (by omega)⟩⟩, rfl⟩, sbt⟩
    · refine jl_y (yl_fa (T rfl) fa26_2) rfl (gd_y rfl rfl (at_f rfl)) (jl_y (yl_load (T rfl) Try.isAgg24 (by first | exact c_o | exact c_m (hn.nodes.f0 (i := k) (by omega) rfl) | exact c_m (hn.edges.f0 (i := k3) (by omega) rfl) | exact c_m (hn.edges.f (i := k3) (by omega) rfl))) rfl (gd_y rfl rfl (at_f rfl)) ?_)
      refine jl_y (yl_len (T rfl) Try.runUnderlying24) rfl (gd_y rfl rfl (at_f rfl)) (jl_y (yl_gtr (T rfl) ev_c) rfl (gd_y rfl rfl (at_f rfl)) (y_ (yl_pick_f (T rfl) (T rfl)) (jl_nil (q_then ?_)) rfl))
      first | refine j_cond_d (at_f rfl) (fun c27 => ?_) (fun c27 => ?_) | refine j_cond (at_f rfl) (fun c27 => ?_) (fun c27 => ?_)
      · refine j_seq (j_region (y_ (yl_assign ev_c) (jl_nil (q_then (j_ret (q_then_ret (q_ret rfl (.tmp (at_f rfl) .nil) ?_))))) rfl))
        exact ⟨_, ⟨⟨_, rfl, fun h => by first | (exfalso; omega) | exact ⟨fun i hi => hl2 i (by omega), fun i hi => hl3 i (by omega)⟩⟩, rfl⟩, sbt⟩
      · refine j_skip (q_then (j_seq (j_region (y_ (yl_loadA (T rfl) Try.isAgg26 Try.sizeOf26 rfl (by first | exact cs_o | exact cs_m (hn.nodes.f0 (i := k) (by omega) rfl) | exact cs_m (hn.edges.f0 (i := k3) (by omega) rfl) | exact cs_m (hn.edges.f (i := k3) (by omega) rfl))) ?_ rfl))))
        refine e_ (eff_call (.cons (T rfl) .nil) Try.call60 (names_s n (hn.mono) (by omega) (by omega))) ?_ rfl
        rintro _ _ ⟨d1, d2, rfl, hok1, hok2, rfl⟩
        refine y_ (yl_move (T rfl)) (y_ (yl_extract (T rfl) rfl) (y_ (yl_extract (T rfl) rfl) (y_ (yl_assign (T rfl)) (y_ (yl_assign (T rfl)) (jl_nil (q_then (j_keep [(1, _), (3, _), (4, _)] ⟨at_f rfl, at_f rfl, at_f rfl, trivial⟩ (j_seq (j_region (y_ (yl_move (T rfl)) (e_ (eff_call (.cons (T rfl) .nil) Try.call61 (named_s _ _ _ ((sl_arr (enc := encS) (sz := 1) (fun _ => rfl) hok1).mono (List.sublist_append_right _ _)) (by intro x hx; obtain ⟨y, hy, rfl⟩ := List.mem_map.1 hx; exact hn.sn y hy) (by simp; omega))) ?_ rfl) rfl)))))) rfl) rfl) rfl) rfl) rfl
        rintro _ _ ⟨⟨t1, rfl⟩, rfl⟩
        refine y_ (yl_assign (T rfl)) (jl_nil (q_then (j_seq (j_region (y_ (yl_move (T rfl)) (e_ (eff_call (.cons (T rfl) .nil) Try.call61 (named_s _ _ _ (sl_arr (enc := encS) (sz := 1) (fun _ => rfl) hok2) (by intro x hx; obtain ⟨y, hy, rfl⟩ := List.mem_map.1 hx; exact hn.se y hy) (by simp; omega))) ?_ rfl) rfl))))) rfl
        rintro _ _ ⟨⟨t2, rfl⟩, rfl⟩
        refine y_ (yl_assign (T rfl)) (jl_nil (q_then (j_seq (j_seq (j_region (y_ (yl_move (T rfl)) ?_ rfl)))))) rfl
        first | refine jl_y (yl_not_d (T rfl)) rfl gd_n ?_ | refine jl_y (yl_not (T rfl)) rfl gd_n ?_
        refine y_ (yl_move (T rfl)) ?_ rfl
        first | refine jl_if_d (s := 39) (at_f rfl) (fun c39 => ?_) (fun c39 => ?_) | refine jl_if (s := 39) (at_f rfl) (fun c39 => ?_) (fun c39 => ?_)
        · refine n_tf (n_tf (y_ (yl_pick_t (T rfl) ev_c) (jl_nil (q_then (j_cond_t (at_f rfl) (j_seq (j_region (y_ (yl_assign ev_c) (jl_nil (q_then (j_ret (q_then_ret (q_ret rfl (.tmp (at_f rfl) .nil) ?_))))) rfl)))))) rfl) rfl rfl rfl rfl) rfl rfl rfl rfl
          exact ⟨_, ⟨⟨_, rfl, fun h => by first | (exfalso; omega) | exact ⟨fun i hi => hl2 i (by omega), fun i hi => hl3 i (by omega)⟩⟩, rfl⟩, sbt⟩
        · refine jl_y (yl_move (T rfl)) rfl (gd_y rfl rfl (at_f rfl)) ?_
          first | refine jl_y (yl_not_d (T rfl)) rfl (gd_y rfl rfl (at_f rfl)) ?_ | refine jl_y (yl_not (T rfl)) rfl (gd_y rfl rfl (at_f rfl)) ?_
          refine y_ (yl_pick_f (T rfl) (T rfl)) (jl_nil (q_then ?_)) rfl
          first | refine j_cond_d (at_f rfl) (fun c42 => ?_) (fun c42 => ?_) | refine j_cond (at_f rfl) (fun c42 => ?_) (fun c42 => ?_)
          · refine j_seq (j_region (y_ (yl_assign ev_c) (jl_nil (q_then (j_ret (q_then_ret (q_ret rfl (.tmp (at_f rfl) .nil) ?_))))) rfl))
            exact ⟨_, ⟨⟨_, rfl, fun h => by first | (exfalso; omega) | exact ⟨fun i hi => hl2 i (by omega), fun i hi => hl3 i (by omega)⟩⟩, rfl⟩, sbt⟩
          · refine j_skip (q_then (j_seq (j_seq (j_region (y_ (yl_assign ev_c) (jl_nil (q_then (j_block ?_))) rfl)))))
            refine j_loopH (X := Nat) (V := fun k => [(7, .int .i64 (k : Nat))]) (C := [(1, _)]) (φ := fun k => k ≤ n.nodes.length) (μ := fun k => n.nodes.length - k) (x0 := 0) ?_ ⟨at_f rfl, trivial⟩ ⟨(by first | exact at_f rfl | (refine at_e (at_f rfl) (vint ?_); omega) | (refine at_e (at_f rfl) ?_; simp; done)), trivial⟩ ?_
            · exact Nat.zero_le _
            rintro k hk
            refine j_seq (j_seq (j_region (y_ (yl_move (T rfl)) (y_ (yl_fa0 (T rfl) fa26_0) (y_ (yl_load (T rfl) Try.isAgg22 (by first | exact c_o | exact c_m (hn.nodes.f0 (i := k) (by omega) rfl) | exact c_m (hn.edges.f0 (i := k3) (by omega) rfl) | exact c_m (hn.edges.f (i := k3) (by omega) rfl))) ?_ rfl) rfl) rfl)))
            refine y_ (yl_len (T rfl) Try.runUnderlying22) (y_ (yl_lss (T rfl) (T rfl)) (jl_nil (q_then ?_)) rfl) rfl
            first | refine j_cond_d (at_f rfl) (fun c47 => ?_) (fun c47 => ?_) | refine j_cond (at_f rfl) (fun c47 => ?_) (fun c47 => ?_)
            · refine j_skip (q_then (j_seq (j_block (j_seq (j_region (y_ (yl_fa0 (T rfl) fa26_0) (y_ (yl_load (T rfl) Try.isAgg22 (by first | exact c_o | exact c_m (hn.nodes.f0 (i := k) (by omega) rfl) | exact c_m (hn.edges.f0 (i := k3) (by omega) rfl) | exact c_m (hn.edges.f (i := k3) (by omega) rfl))) ?_ rfl) rfl))))))
              refine y_ (yl_move (T rfl)) (y_ (yl_ixQ (T rfl) (T rfl) Try.runUnderlying22 Try.sizeOf121 (by omega) (by first | exact rfl | exact hn.nodes.b (i := k) (by omega) | exact hn.links.b (i := k2) (by omega) | exact hn.edges.b (i := k3) (by omega))) ?_ rfl) rfl
              refine y_ (yl_loadA (T rfl) Try.isAgg121 Try.sizeOf121 rfl (by first | exact cs_o | exact cs_m (hn.nodes.cs (i := k) (by omega)) | exact cs_m (hn.nodes.f0 (i := k) (by omega) rfl) | exact cs_m (hn.edges.f0 (i := k3) (by omega) rfl) | exact cs_m (hn.edges.f (i := k3) (by omega) rfl))) ?_ rfl
              refine e_ (eff_alloc Try.zeroValue121 cs_) ?_ rfl
              rintro _ _ ⟨n8, rfl, rfl⟩
              first | refine jl_e (eff_sW (T rfl) (T rfl) Try.sizeOf121) rfl gd_n ?_
              rintro _ _ ⟨rfl, rfl⟩
              refine jl_nil (q_then (j_seq (j_region (y_ (yl_fa (T rfl) fa121_2) (y_ (yl_load (T rfl) Try.isAgg3 (by first | exact c_o | exact c_m (hn.nodes.f0 (i := k) (by omega) rfl) | exact c_m (hn.edges.f0 (i := k3) (by omega) rfl) | exact c_m (hn.edges.f (i := k3) (by omega) rfl))) ?_ rfl) rfl))))
              refine y_ (yl_lss (T rfl) ev_c) (y_ (yl_move (T rfl)) ?_ rfl) rfl
              first | refine jl_if_d (s := 58) (at_f rfl) (fun c58 => ?_) (fun c58 => ?_) | refine jl_if (s := 58) (at_f rfl) (fun c58 => ?_) (fun c58 => ?_)
              · refine n_tf (n_tf (n_tf (y_ (yl_pick_t (T rfl) ev_c) (y_ (yl_move (T rfl)) (n_tf (n_tf (n_tf (y_ (yl_pick_t (T rfl) ev_c) (y_ (yl_move (T rfl)) (n_tf (n_tf (n_tf (y_ (yl_pick_t (T rfl) ev_c) (jl_nil (q_then (j_keep [(1, _), (7, _), (72, _)] ⟨at_f rfl, at_f rfl, at_f rfl, trivial⟩ (j_cond_t (at_f rfl) (j_seq (j_region (y_ (yl_assign ev_c) (jl_nil (q_then (j_ret (q_block_ret (q_then_ret (q_loop_ret (q_block_ret (q_then_ret (q_ret rfl (.tmp (at_f rfl) .nil) ?_))))))))) rfl))))))) rfl) rfl rfl rfl rfl) rfl rfl rfl rfl) rfl rfl rfl rfl) rfl) rfl) rfl rfl rfl rfl) rfl rfl rfl rfl) rfl rfl rfl rfl) rfl) rfl) rfl rfl rfl rfl) rfl rfl rfl rfl) rfl rfl rfl rfl
                exact ⟨_, ⟨⟨_, rfl, fun h => by first | (exfalso; omega) | exact ⟨fun i hi => hl2 i (by omega), fun i hi => hl3 i (by omega)⟩⟩, rfl⟩, sbt⟩
              · refine jl_y (yl_fa (T rfl) fa121_2) rfl (gd_y rfl rfl (at_f rfl)) (jl_y (yl_load (T rfl) Try.isAgg3 (by first | exact c_o | exact c_m (hn.nodes.f0 (i := k) (by omega) rfl) | exact c_m (hn.edges.f0 (i := k3) (by omega) rfl) | exact c_m (hn.edges.f (i := k3) (by omega) rfl))) rfl (gd_y rfl rfl (at_f rfl)) ?_)
                refine jl_y (yl_gtr (T rfl) ev_c) rfl (gd_y rfl rfl (at_f rfl)) (y_ (yl_pick_f (T rfl) (T rfl)) (y_ (yl_move (T rfl)) ?_ rfl) rfl)
                first | refine jl_if_d (s := 63) (at_f rfl) (fun c63 => ?_) (fun c63 => ?_) | refine jl_if (s := 63) (at_f rfl) (fun c63 => ?_) (fun c63 => ?_)
                · refine n_tf (n_tf (n_tf (y_ (yl_pick_t (T rfl) ev_c) (y_ (yl_move (T rfl)) (n_tf (n_tf (n_tf (y_ (yl_pick_t (T rfl) ev_c) (jl_nil (q_then (j_keep [(1, _), (7, _), (72, _)] ⟨at_f rfl, at_f rfl, at_f rfl, trivial⟩ (j_cond_t (at_f rfl) (j_seq (j_region (y_ (yl_assign ev_c) (jl_nil (q_then (j_ret (q_block_ret (q_then_ret (q_loop_ret (q_block_ret (q_then_ret (q_ret rfl (.tmp (at_f rfl) .nil) ?_))))))))) rfl))))))) rfl) rfl rfl rfl rfl) rfl rfl rfl rfl) rfl rfl rfl rfl) rfl) rfl) rfl rfl rfl rfl) rfl rfl rfl rfl) rfl rfl rfl rfl
                  exact ⟨_, ⟨⟨_, rfl, fun h => by first | (exfalso; omega) | exact ⟨fun i hi => hl2 i (by omega), fun i hi => hl3 i (by omega)⟩⟩, rfl⟩, sbt⟩
                · refine jl_y (yl_fa (T rfl) fa121_3) rfl (gd_y rfl rfl (at_f rfl)) (jl_y (yl_load (T rfl) Try.isAgg3 (by first | exact c_o | exact c_m (hn.nodes.f0 (i := k) (by omega) rfl) | exact c_m (hn.edges.f0 (i := k3) (by omega) rfl) | exact c_m (hn.edges.f (i := k3) (by omega) rfl))) rfl (gd_y rfl rfl (at_f rfl)) ?_)
                  refine jl_y (yl_lss (T rfl) ev_c) rfl (gd_y rfl rfl (at_f rfl)) (y_ (yl_pick_f (T rfl) (T rfl)) (y_ (yl_move (T rfl)) ?_ rfl) rfl)
                  first | refine jl_if_d (s := 68) (at_f rfl) (fun c68 => ?_) (fun c68 => ?_) | refine jl_if (s := 68) (at_f rfl) (fun c68 => ?_) (fun c68 => ?_)
                  · refine n_tf (n_tf (n_tf (y_ (yl_pick_t (T rfl) ev_c) (jl_nil (q_then (j_keep [(1, _), (7, _), (72, _)] ⟨at_f rfl, at_f rfl, at_f rfl, trivial⟩ (j_cond_t (at_f rfl) (j_seq (j_region (y_ (yl_assign ev_c) (jl_nil (q_then (j_ret (q_block_ret (q_then_ret (q_loop_ret (q_block_ret (q_then_ret (q_ret rfl (.tmp (at_f rfl) .nil) ?_))))))))) rfl))))))) rfl) rfl rfl rfl rfl) rfl rfl rfl rfl) rfl rfl rfl rfl
                    exact ⟨_, ⟨⟨_, rfl, fun h => by first | (exfalso; omega) | exact ⟨fun i hi => hl2 i (by omega), fun i hi => hl3 i (by omega)⟩⟩, rfl⟩, sbt⟩
                  · refine jl_y (yl_fa (T rfl) fa121_3) rfl (gd_y rfl rfl (at_f rfl)) (jl_y (yl_load (T rfl) Try.isAgg3 (by first | exact c_o | exact c_m (hn.nodes.f0 (i := k) (by omega) rfl) | exact c_m (hn.edges.f0 (i := k3) (by omega) rfl) | exact c_m (hn.edges.f (i := k3) (by omega) rfl))) rfl (gd_y rfl rfl (at_f rfl)) ?_)
                    refine jl_y (yl_gtr (T rfl) ev_c) rfl (gd_y rfl rfl (at_f rfl)) (y_ (yl_pick_f (T rfl) (T rfl)) (jl_nil (q_then (j_keep [(1, _), (7, _), (72, _)] ⟨at_f rfl, at_f rfl, at_f rfl, trivial⟩ ?_))) rfl)
                    first | refine j_cond_d (at_f rfl) (fun c72 => ?_) (fun c72 => ?_) | refine j_cond (at_f rfl) (fun c72 => ?_) (fun c72 => ?_)
                    · refine j_seq (j_region (y_ (yl_assign ev_c) (jl_nil (q_then (j_ret (q_block_ret (q_then_ret (q_loop_ret (q_block_ret (q_then_ret (q_ret rfl (.tmp (at_f rfl) .nil) ?_))))))))) rfl))
                      exact ⟨_, ⟨⟨_, rfl, fun h => by first | (exfalso; omega) | exact ⟨fun i hi => hl2 i (by omega), fun i hi => hl3 i (by omega)⟩⟩, rfl⟩, sbt⟩
                    · refine j_skip (q_block (q_then (j_region (y_ (yl_move (T rfl)) (y_ (yl_add (T rfl) ev_c (by omega)) ?_ rfl) rfl))))
                      refine y_ (yl_assign (T rfl)) (jl_nil ?_) rfl
                      refine q_loopC (k + 1) ?_ ?_ ⟨(by first | exact at_f rfl | (refine at_e (at_f rfl) (vint ?_); omega) | (refine at_e (at_f rfl) ?_; simp; done)), trivial⟩ ⟨at_f rfl, trivial⟩ ?_
                      · show k + 1 ≤ _; omega
                      · first | omega | (simp only []; omega)
                      · exact sbt
            · refine j_exit (q_then_exit (q_loop_exit (q_block_hit (q_then (j_seq (j_seq (j_region (y_ (yl_assign ev_c) (jl_nil (q_then (j_block ?_))) rfl))))))))
              refine j_loopH (X := Nat) (V := fun k2 => [(9, .int .i64 (k2 : Nat))]) (C := [(1, _)]) (φ := fun k2 => k2 ≤ n.links.length ∧ ∀ i, i < k2 → LnkOk n (gd n.links i)) (μ := fun k2 => n.links.length - k2) (x0 := 0) ?_ ⟨at_f rfl, trivial⟩ ⟨(by first | exact at_f rfl | (refine at_e (at_f rfl) (vint ?_); omega) | (refine at_e (at_f rfl) ?_; simp; done)), trivial⟩ ?_
              · exact ⟨Nat.zero_le _, fun i hi => by omega⟩
              rintro k2 ⟨hk2, hl2⟩
              refine j_seq (j_seq (j_region (y_ (yl_move (T rfl)) (y_ (yl_fa (T rfl) fa26_1) (y_ (yl_load (T rfl) Try.isAgg23 (by first | exact c_o | exact c_m (hn.nodes.f0 (i := k) (by omega) rfl) | exact c_m (hn.edges.f0 (i := k3) (by omega) rfl) | exact c_m (hn.edges.f (i := k3) (by omega) rfl))) ?_ rfl) rfl) rfl)))
              refine y_ (yl_len (T rfl) Try.runUnderlying23) (y_ (yl_lss (T rfl) (T rfl)) (jl_nil (q_then ?_)) rfl) rfl
              first | refine j_cond_d (at_f rfl) (fun c77 => ?_) (fun c77 => ?_) | refine j_cond (at_f rfl) (fun c77 => ?_) (fun c77 => ?_)
              · refine j_skip (q_then (j_seq (j_block (j_seq (j_region (y_ (yl_fa (T rfl) fa26_1) (y_ (yl_load (T rfl) Try.isAgg23 (by first | exact c_o | exact c_m (hn.nodes.f0 (i := k) (by omega) rfl) | exact c_m (hn.edges.f0 (i := k3) (by omega) rfl) | exact c_m (hn.edges.f (i := k3) (by omega) rfl))) ?_ rfl) rfl))))))
                refine y_ (yl_move (T rfl)) (y_ (yl_ixQ (T rfl) (T rfl) Try.runUnderlying23 Try.sizeOf63 (by omega) (by first | exact rfl | exact hn.nodes.b (i := k) (by omega) | exact hn.links.b (i := k2) (by omega) | exact hn.edges.b (i := k3) (by omega))) ?_ rfl) rfl
                refine y_ (yl_loadA (T rfl) Try.isAgg63 Try.sizeOf63 rfl (by first | exact cs_o | exact cs_m (hn.links.cs (i := k2) (by omega)) | exact cs_m (hn.nodes.f0 (i := k) (by omega) rfl) | exact cs_m (hn.edges.f0 (i := k3) (by omega) rfl) | exact cs_m (hn.edges.f (i := k3) (by omega) rfl))) ?_ rfl
                refine e_ (eff_alloc Try.zeroValue63 cs_) ?_ rfl
                rintro _ _ ⟨n10, rfl, rfl⟩
                first | refine jl_e (eff_sW (T rfl) (T rfl) Try.sizeOf63) rfl gd_n ?_
                rintro _ _ ⟨rfl, rfl⟩
                refine jl_nil (q_then (j_seq (j_region (y_ (yl_loadA (T rfl) Try.isAgg26 Try.sizeOf26 rfl (by first | exact cs_o | exact cs_m (hn.nodes.f0 (i := k) (by omega) rfl) | exact cs_m (hn.edges.f0 (i := k3) (by omega) rfl) | exact cs_m (hn.edges.f (i := k3) (by omega) rfl))) ?_ rfl))))
                refine y_ (yl_fa0 (T rfl) fa63_0) (y_ (yl_load (T rfl) Try.isAgg3 (by first | exact c_o | exact c_m (hn.nodes.f0 (i := k) (by omega) rfl) | exact c_m (hn.edges.f0 (i := k3) (by omega) rfl) | exact c_m (hn.edges.f (i := k3) (by omega) rfl))) ?_ rfl) rfl
                refine y_ (yl_call (.cons (T rfl) (.cons (T rfl) .nil)) Try.call62 (fun H' hs => isNode_s _ _)) ?_ rfl
                first | refine jl_y (yl_not_d (T rfl)) rfl gd_n ?_ | refine jl_y (yl_not (T rfl)) rfl gd_n ?_
                refine y_ (yl_move (T rfl)) ?_ rfl
                first | refine jl_if_d (s := 90) (at_f rfl) (fun c90 => ?_) (fun c90 => ?_) | refine jl_if (s := 90) (at_f rfl) (fun c90 => ?_) (fun c90 => ?_)
                · refine n_tf (n_tf (n_tf (n_tf (n_tf (y_ (yl_pick_t (T rfl) ev_c) (y_ (yl_move (T rfl)) (n_tf (n_tf (n_tf (n_tf (n_tf (y_ (yl_pick_t (T rfl) ev_c) (y_ (yl_move (T rfl)) (n_tf (n_tf (n_tf (y_ (yl_pick_t (T rfl) ev_c) (y_ (yl_move (T rfl)) (n_tf (n_tf (n_tf (y_ (yl_pick_t (T rfl) ev_c) (jl_nil (q_then (j_keep [(1, _), (9, _), (113, _)] ⟨at_f rfl, at_f rfl, at_f rfl, trivial⟩ (j_cond_t (at_f rfl) (j_seq (j_region (y_ (yl_assign ev_c) (jl_nil (q_then (j_ret (q_block_ret (q_then_ret (q_loop_ret (q_block_ret (q_then_ret (q_ret rfl (.tmp (at_f rfl) .nil) ?_))))))))) rfl))))))) rfl) rfl rfl rfl rfl) rfl rfl rfl rfl) rfl rfl rfl rfl) rfl) rfl) rfl rfl rfl rfl) rfl rfl rfl rfl) rfl rfl rfl rfl) rfl) rfl) rfl rfl rfl rfl) rfl rfl rfl rfl) rfl rfl rfl rfl) rfl rfl rfl rfl) rfl rfl rfl rfl) rfl) rfl) rfl rfl rfl rfl) rfl rfl rfl rfl) rfl rfl rfl rfl) rfl rfl rfl rfl) rfl rfl rfl rfl
                  exact ⟨_, ⟨⟨_, rfl, fun h => by first | (exfalso; omega) | exact ⟨fun i hi => hl2 i (by omega), fun i hi => hl3 i (by omega)⟩⟩, rfl⟩, sbt⟩
                · refine jl_y (yl_loadA (T rfl) Try.isAgg26 Try.sizeOf26 rfl (by first | exact cs_o | exact cs_m (hn.nodes.f0 (i := k) (by omega) rfl) | exact cs_m (hn.edges.f0 (i := k3) (by omega) rfl) | exact cs_m (hn.edges.f (i := k3) (by omega) rfl))) rfl (gd_y rfl rfl (at_f rfl)) ?_
                  refine jl_y (yl_fa (T rfl) fa63_1) rfl (gd_y rfl rfl (at_f rfl)) (jl_y (yl_load (T rfl) Try.isAgg3 (by first | exact c_o | exact c_m (hn.nodes.f0 (i := k) (by omega) rfl) | exact c_m (hn.edges.f0 (i := k3) (by omega) rfl) | exact c_m (hn.edges.f (i := k3) (by omega) rfl))) rfl (gd_y rfl rfl (at_f rfl)) ?_)
                  refine jl_y (yl_call (.cons (T rfl) (.cons (T rfl) .nil)) Try.call62 (fun H' hs => isNode_s _ _)) rfl (gd_y rfl rfl (at_f rfl)) ?_
                  first | refine jl_y (yl_not_d (T rfl)) rfl (gd_y rfl rfl (at_f rfl)) ?_ | refine jl_y (yl_not (T rfl)) rfl (gd_y rfl rfl (at_f rfl)) ?_
                  refine y_ (yl_pick_f (T rfl) (T rfl)) (y_ (yl_move (T rfl)) ?_ rfl) rfl
                  first | refine jl_if_d (s := 97) (at_f rfl) (fun c97 => ?_) (fun c97 => ?_) | refine jl_if (s := 97) (at_f rfl) (fun c97 => ?_) (fun c97 => ?_)
                  · refine n_tf (n_tf (n_tf (n_tf (n_tf (y_ (yl_pick_t (T rfl) ev_c) (y_ (yl_move (T rfl)) (n_tf (n_tf (n_tf (y_ (yl_pick_t (T rfl) ev_c) (y_ (yl_move (T rfl)) (n_tf (n_tf (n_tf (y_ (yl_pick_t (T rfl) ev_c) (jl_nil (q_then (j_keep [(1, _), (9, _), (113, _)] ⟨at_f rfl, at_f rfl, at_f rfl, trivial⟩ (j_cond_t (at_f rfl) (j_seq (j_region (y_ (yl_assign ev_c) (jl_nil (q_then (j_ret (q_block_ret (q_then_ret (q_loop_ret (q_block_ret (q_then_ret (q_ret rfl (.tmp (at_f rfl) .nil) ?_))))))))) rfl))))))) rfl) rfl rfl rfl rfl) rfl rfl rfl rfl) rfl rfl rfl rfl) rfl) rfl) rfl rfl rfl rfl) rfl rfl rfl rfl) rfl rfl rfl rfl) rfl) rfl) rfl rfl rfl rfl) rfl rfl rfl rfl) rfl rfl rfl rfl) rfl rfl rfl rfl) rfl rfl rfl rfl
                    exact ⟨_, ⟨⟨_, rfl, fun h => by first | (exfalso; omega) | exact ⟨fun i hi => hl2 i (by omega), fun i hi => hl3 i (by omega)⟩⟩, rfl⟩, sbt⟩
                  · refine jl_y (yl_fa0 (T rfl) fa63_0) rfl (gd_y rfl rfl (at_f rfl)) (jl_y (yl_load (T rfl) Try.isAgg3 (by first | exact c_o | exact c_m (hn.nodes.f0 (i := k) (by omega) rfl) | exact c_m (hn.edges.f0 (i := k3) (by omega) rfl) | exact c_m (hn.edges.f (i := k3) (by omega) rfl))) rfl (gd_y rfl rfl (at_f rfl)) ?_)
                    refine jl_y (yl_fa (T rfl) fa63_1) rfl (gd_y rfl rfl (at_f rfl)) (jl_y (yl_load (T rfl) Try.isAgg3 (by first | exact c_o | exact c_m (hn.nodes.f0 (i := k) (by omega) rfl) | exact c_m (hn.edges.f0 (i := k3) (by omega) rfl) | exact c_m (hn.edges.f (i := k3) (by omega) rfl))) rfl (gd_y rfl rfl (at_f rfl)) ?_)
                    refine jl_y (yl_eql (T rfl) (T rfl)) rfl (gd_y rfl rfl (at_f rfl)) (y_ (yl_pick_f (T rfl) (T rfl)) (y_ (yl_move (T rfl)) ?_ rfl) rfl)
                    first | refine jl_if_d (s := 104) (at_f rfl) (fun c104 => ?_) (fun c104 => ?_) | refine jl_if (s := 104) (at_f rfl) (fun c104 => ?_) (fun c104 => ?_)
                    · refine n_tf (n_tf (n_tf (y_ (yl_pick_t (T rfl) ev_c) (y_ (yl_move (T rfl)) (n_tf (n_tf (n_tf (y_ (yl_pick_t (T rfl) ev_c) (jl_nil (q_then (j_keep [(1, _), (9, _), (113, _)] ⟨at_f rfl, at_f rfl, at_f rfl, trivial⟩ (j_cond_t (at_f rfl) (j_seq (j_region (y_ (yl_assign ev_c) (jl_nil (q_then (j_ret (q_block_ret (q_then_ret (q_loop_ret (q_block_ret (q_then_ret (q_ret rfl (.tmp (at_f rfl) .nil) ?_))))))))) rfl))))))) rfl) rfl rfl rfl rfl) rfl rfl rfl rfl) rfl rfl rfl rfl) rfl) rfl) rfl rfl rfl rfl) rfl rfl rfl rfl) rfl rfl rfl rfl
                      exact ⟨_, ⟨⟨_, rfl, fun h => by first | (exfalso; omega) | exact ⟨fun i hi => hl2 i (by omega), fun i hi => hl3 i (by omega)⟩⟩, rfl⟩, sbt⟩
                    · refine jl_y (yl_fa (T rfl) fa63_2) rfl (gd_y rfl rfl (at_f rfl)) (jl_y (yl_load (T rfl) Try.isAgg3 (by first | exact c_o | exact c_m (hn.nodes.f0 (i := k) (by omega) rfl) | exact c_m (hn.edges.f0 (i := k3) (by omega) rfl) | exact c_m (hn.edges.f (i := k3) (by omega) rfl))) rfl (gd_y rfl rfl (at_f rfl)) ?_)
                      refine jl_y (yl_lss (T rfl) ev_c) rfl (gd_y rfl rfl (at_f rfl)) (y_ (yl_pick_f (T rfl) (T rfl)) (y_ (yl_move (T rfl)) ?_ rfl) rfl)
                      first | refine jl_if_d (s := 109) (at_f rfl) (fun c109 => ?_) (fun c109 => ?_) | refine jl_if (s := 109) (at_f rfl) (fun c109 => ?_) (fun c109 => ?_)
                      · refine n_tf (n_tf (n_tf (y_ (yl_pick_t (T rfl) ev_c) (jl_nil (q_then (j_keep [(1, _), (9, _), (113, _)] ⟨at_f rfl, at_f rfl, at_f rfl, trivial⟩ (j_cond_t (at_f rfl) (j_seq (j_region (y_ (yl_assign ev_c) (jl_nil (q_then (j_ret (q_block_ret (q_then_ret (q_loop_ret (q_block_ret (q_then_ret (q_ret rfl (.tmp (at_f rfl) .nil) ?_))))))))) rfl))))))) rfl) rfl rfl rfl rfl) rfl rfl rfl rfl) rfl rfl rfl rfl
                        exact ⟨_, ⟨⟨_, rfl, fun h => by first | (exfalso; omega) | exact ⟨fun i hi => hl2 i (by omega), fun i hi => hl3 i (by omega)⟩⟩, rfl⟩, sbt⟩
                      · refine jl_y (yl_fa (T rfl) fa63_2) rfl (gd_y rfl rfl (at_f rfl)) (jl_y (yl_load (T rfl) Try.isAgg3 (by first | exact c_o | exact c_m (hn.nodes.f0 (i := k) (by omega) rfl) | exact c_m (hn.edges.f0 (i := k3) (by omega) rfl) | exact c_m (hn.edges.f (i := k3) (by omega) rfl))) rfl (gd_y rfl rfl (at_f rfl)) ?_)
                        refine jl_y (yl_gtr (T rfl) ev_c) rfl (gd_y rfl rfl (at_f rfl)) (y_ (yl_pick_f (T rfl) (T rfl)) (jl_nil (q_then (j_keep [(1, _), (9, _), (113, _)] ⟨at_f rfl, at_f rfl, at_f rfl, trivial⟩ ?_))) rfl)
                        first | refine j_cond_d (at_f rfl) (fun c113 => ?_) (fun c113 => ?_) | refine j_cond (at_f rfl) (fun c113 => ?_) (fun c113 => ?_)
                        · refine j_seq (j_region (y_ (yl_assign ev_c) (jl_nil (q_then (j_ret (q_block_ret (q_then_ret (q_loop_ret (q_block_ret (q_then_ret (q_ret rfl (.tmp (at_f rfl) .nil) ?_))))))))) rfl))
                          exact ⟨_, ⟨⟨_, rfl, fun h => by first | (exfalso; omega) | exact ⟨fun i hi => hl2 i (by omega), fun i hi => hl3 i (by omega)⟩⟩, rfl⟩, sbt⟩
                        · refine j_skip (q_block (q_then (j_region (y_ (yl_move (T rfl)) (y_ (yl_add (T rfl) ev_c (by omega)) ?_ rfl) rfl))))
                          refine y_ (yl_assign (T rfl)) (jl_nil ?_) rfl
                          refine q_loopC (k2 + 1) ?_ ?_ ⟨(by first | exact at_f rfl | (refine at_e (at_f rfl) (vint ?_); omega) | (refine at_e (at_f rfl) ?_; simp; done)), trivial⟩ ⟨at_f rfl, trivial⟩ ?_
                          · refine ⟨by omega, fun i hi => ?_⟩
                            by_cases e : i = k2
                            · subst e; exact ⟨by omega, by omega, by omega, by omega, by omega, by omega, by omega⟩
                            · exact hl2 i (by omega)
                          · first | omega | (simp only []; omega)
                          · exact sbt
              · refine j_exit (q_then_exit (q_loop_exit (q_block_hit (q_then (j_seq (j_seq (j_region (y_ (yl_assign ev_c) (jl_nil (q_then (j_block ?_))) rfl))))))))
                refine j_loopH (X := Nat) (V := fun k3 => [(11, .int .i64 (k3 : Nat))]) (C := [(1, _)]) (φ := fun k3 => k3 ≤ n.edges.length ∧ ∀ i, i < k3 → 0 ≤ (gd n.edges i).node ∧ (gd n.edges i).node < n.nodes.length) (μ := fun k3 => n.edges.length - k3) (x0 := 0) ?_ ⟨at_f rfl, trivial⟩ ⟨(by first | exact at_f rfl | (refine at_e (at_f rfl) (vint ?_); omega) | (refine at_e (at_f rfl) ?_; simp; done)), trivial⟩ ?_
                · exact ⟨Nat.zero_le _, fun i hi => by omega⟩
                rintro k3 ⟨hk3, hl3⟩
                refine j_seq (j_seq (j_region (y_ (yl_move (T rfl)) (y_ (yl_fa (T rfl) fa26_2) (y_ (yl_load (T rfl) Try.isAgg24 (by first | exact c_o | exact c_m (hn.nodes.f0 (i := k) (by omega) rfl) | exact c_m (hn.edges.f0 (i := k3) (by omega) rfl) | exact c_m (hn.edges.f (i := k3) (by omega) rfl))) ?_ rfl) rfl) rfl)))
                refine y_ (yl_len (T rfl) Try.runUnderlying24) (y_ (yl_lss (T rfl) (T rfl)) (jl_nil (q_then ?_)) rfl) rfl
                first | refine j_cond_d (at_f rfl) (fun c118 => ?_) (fun c118 => ?_) | refine j_cond (at_f rfl) (fun c118 => ?_) (fun c118 => ?_)
                · refine j_skip (q_then (j_seq (j_block (j_seq (j_any 9 [(0, true), (1, true), (2, true), (3, true), (4, true), (5, true), (6, true), (7, true), (8, true)] _ mixd (by kernel_rfl) sb0 ?_)))))
                  refine o_y rfl (yl_loadA (T rfl) Try.isAgg26 Try.sizeOf26 rfl (by first | exact cs_o | exact cs_m (hn.nodes.f0 (i := k) (by omega) rfl) | exact cs_m (hn.edges.f0 (i := k3) (by omega) rfl) | exact cs_m (hn.edges.f (i := k3) (by omega) rfl))) ?_ rfl gd_n
                  refine o_y rfl (yl_fa (T rfl) fa26_2) (o_y rfl (yl_load (T rfl) Try.isAgg24 (by first | exact c_o | exact c_m (hn.nodes.f0 (i := k) (by omega) rfl) | exact c_m (hn.edges.f0 (i := k3) (by omega) rfl) | exact c_m (hn.edges.f (i := k3) (by omega) rfl))) ?_ rfl gd_n) rfl gd_n
                  refine o_y rfl (yl_move (T rfl)) (o_y rfl (yl_ixQ (T rfl) (T rfl) Try.runUnderlying24 Try.sizeOf124 (by omega) (by first | exact rfl | exact hn.nodes.b (i := k) (by omega) | exact hn.links.b (i := k2) (by omega) | exact hn.edges.b (i := k3) (by omega))) ?_ rfl gd_n) rfl gd_n
                  refine o_y rfl (yl_fa (T rfl) fa124_1) (o_y rfl (yl_load (T rfl) Try.isAgg3 (by first | exact c_o | exact c_m (hn.nodes.f0 (i := k) (by omega) rfl) | exact c_m (hn.edges.f0 (i := k3) (by omega) rfl) | exact c_m (hn.edges.f (i := k3) (by omega) rfl))) ?_ rfl gd_n) rfl gd_n
                  refine o_y rfl (yl_call (.cons (T rfl) (.cons (T rfl) .nil)) Try.call62 (fun H' hs => isNode_s _ _)) ?_ rfl gd_n
                  first | refine o_y rfl (yl_not_d (T rfl)) ?_ rfl gd_n | refine o_y rfl (yl_not (T rfl)) ?_ rfl gd_n
                  refine jo_nil rfl (jl_nil (q_then ?_))
                  first | refine j_cond_d (at_f rfl) (fun c129 => ?_) (fun c129 => ?_) | refine j_cond (at_f rfl) (fun c129 => ?_) (fun c129 => ?_)
                  · refine j_seq (j_region (y_ (yl_assign ev_c) (jl_nil (q_then (j_ret (q_block_ret (q_then_ret (q_loop_ret (q_block_ret (q_then_ret (q_ret rfl (.tmp (at_f rfl) .nil) ?_))))))))) rfl))
                    exact ⟨_, ⟨⟨_, rfl, fun h => by first | (exfalso; omega) | exact ⟨fun i hi => hl2 i (by omega), fun i hi => hl3 i (by omega)⟩⟩, rfl⟩, sbt⟩
                  · refine j_skip (q_block (q_then (j_region (y_ (yl_move (T rfl)) (y_ (yl_add (T rfl) ev_c (by omega)) ?_ rfl) rfl))))
                    refine y_ (yl_assign (T rfl)) (jl_nil ?_) rfl
                    refine q_loopC (k3 + 1) ?_ ?_ ⟨(by first | exact at_f rfl | (refine at_e (at_f rfl) (vint ?_); omega) | (refine at_e (at_f rfl) ?_; simp; done)), trivial⟩ ⟨at_f rfl, trivial⟩ ?_
                    · refine ⟨by omega, fun i hi => ?_⟩
                      by_cases e : i = k3
                      · subst e; omega
                      · exact hl3 i (by omega)
                    · first | omega | (simp only []; omega)
                    · exact sbt
                · refine j_exit (q_then_exit (q_loop_exit (q_block_hit (q_then (j_seq (j_region (y_ (yl_assign ev_c) (jl_nil (q_then (j_ret (q_ret rfl (.tmp (at_f rfl) .nil) ?_)))) rfl)))))))
                  exact ⟨_, ⟨⟨_, rfl, fun h => by first | (exfalso; omega) | exact ⟨fun i hi => hl2 i (by omega), fun i hi => hl3 i (by omega)⟩⟩, rfl⟩, sbt⟩
end Go.Proofs.Ytdbffighngmibaa
