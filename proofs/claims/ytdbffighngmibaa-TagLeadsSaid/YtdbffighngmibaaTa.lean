/-
  Walks of small functions, and of the paths.
-/
import Derived.Test.YtdbffighngmibaaLx
import Derived.Test.YtdbffighngmibaaMa
namespace Go.Proofs.Ytdbffighngmibaa
open Go.RowKit
set_option linter.unusedVariables false
set_option linter.unusedSimpArgs false
theorem within_s {w0 : World} {H : List (Nat × Obj)} (n lo hi : Int) :
    FSpec Try.prog w0 38 #[.int .i64 n, .int .i64 lo, .int .i64 hi] H (Still (.bool (decide (lo ≤ n ∧ n ≤ hi))) H) := by
  refine fn_spec Try.func38 rfl Try.ntmps38 rfl (j_seq (j_region (y_ (yl_assign ev_c) (jl_nil (q_then (j_seq (j_region (y_ (yl_move (T rfl)) (y_ (yl_move (T rfl)) (y_ (yl_leq (T rfl) (T rfl)) (y_ (yl_move (T rfl)) ?_ rfl) rfl) rfl) rfl))))) rfl)))
  first | refine jl_if_d (s := 10) (at_f rfl) (fun c10 => ?_) (fun c10 => ?_) | refine jl_if (s := 10) (at_f rfl) (fun c10 => ?_) (fun c10 => ?_)
  · refine jl_y (yl_move (T rfl)) rfl (gd_y rfl rfl (at_f rfl)) (jl_y (yl_move (T rfl)) rfl (gd_y rfl rfl (at_f rfl)) (jl_y (yl_leq (T rfl) (T rfl)) rfl (gd_y rfl rfl (at_f rfl)) (y_ (yl_pick_t (T rfl) (T rfl)) (y_ (yl_assign (T rfl)) (jl_nil (q_then (j_ret (q_ret rfl (.tmp (at_f rfl) .nil) ?_)))) rfl) rfl)))
    exact ⟨_, ⟨by simp [resOf, c10], rfl⟩, sbt⟩
  · refine n_ft (n_ft (n_ft (y_ (yl_pick_f (T rfl) ev_c) (y_ (yl_assign (T rfl)) (jl_nil (q_then (j_ret (q_ret rfl (.tmp (at_f rfl) .nil) ?_)))) rfl) rfl) rfl rfl rfl rfl) rfl rfl rfl rfl) rfl rfl rfl rfl
    exact ⟨_, ⟨by simp [resOf, c10], rfl⟩, sbt⟩
theorem gwithin_s {w0 : World} {H : List (Nat × Obj)} (n lo hi : Int) :
    FSpec Try.prog w0 91 #[.int .i64 n, .int .i64 lo, .int .i64 hi] H (Still (.bool (decide (lo ≤ n ∧ n ≤ hi))) H) := by
  refine fn_spec Try.func91 rfl Try.ntmps91 rfl (j_seq (j_region (y_ (yl_assign ev_c) (jl_nil (q_then (j_seq (j_region (y_ (yl_move (T rfl)) (y_ (yl_move (T rfl)) (y_ (yl_leq (T rfl) (T rfl)) (y_ (yl_move (T rfl)) ?_ rfl) rfl) rfl) rfl))))) rfl)))
  first | refine jl_if_d (s := 10) (at_f rfl) (fun c10 => ?_) (fun c10 => ?_) | refine jl_if (s := 10) (at_f rfl) (fun c10 => ?_) (fun c10 => ?_)
  · refine jl_y (yl_move (T rfl)) rfl (gd_y rfl rfl (at_f rfl)) (jl_y (yl_move (T rfl)) rfl (gd_y rfl rfl (at_f rfl)) (jl_y (yl_leq (T rfl) (T rfl)) rfl (gd_y rfl rfl (at_f rfl)) (y_ (yl_pick_t (T rfl) (T rfl)) (y_ (yl_assign (T rfl)) (jl_nil (q_then (j_ret (q_ret rfl (.tmp (at_f rfl) .nil) ?_)))) rfl) rfl)))
    exact ⟨_, ⟨by simp [resOf, c10], rfl⟩, sbt⟩
  · refine n_ft (n_ft (n_ft (y_ (yl_pick_f (T rfl) ev_c) (y_ (yl_assign (T rfl)) (jl_nil (q_then (j_ret (q_ret rfl (.tmp (at_f rfl) .nil) ?_)))) rfl) rfl) rfl rfl rfl rfl) rfl rfl rfl rfl) rfl rfl rfl rfl
    exact ⟨_, ⟨by simp [resOf, c10], rfl⟩, sbt⟩
theorem isNode_s {w0 : World} {H : List (Nat × Obj)} (n : Nm) (k : Int) :
    FSpec Try.prog w0 62 #[.agg (encNm n).toArray, .int .i64 k] H (Still (.bool (decide (0 ≤ k ∧ k < n.nodes.length))) H) := by
  refine fn_spec Try.func62 rfl Try.ntmps62 rfl (j_seq (j_region (e_ (eff_box (T rfl) cs_) ?_ rfl)))
  rintro _ _ ⟨n2, rfl, rfl⟩
  refine y_ (yl_assign ev_c) (jl_nil (q_then (j_seq (j_region (y_ (yl_move (T rfl)) (y_ (yl_geq (T rfl) ev_c) (y_ (yl_move (T rfl)) ?_ rfl) rfl) rfl))))) rfl
  first | refine jl_if_d (s := 7) (at_f rfl) (fun c7 => ?_) (fun c7 => ?_) | refine jl_if (s := 7) (at_f rfl) (fun c7 => ?_) (fun c7 => ?_)
  · refine jl_y (yl_move (T rfl)) rfl (gd_y rfl rfl (at_f rfl)) (jl_y (yl_fa0 (T rfl) fa26_0) rfl (gd_y rfl rfl (at_f rfl)) (jl_y (yl_load (T rfl) Try.isAgg22 (by first | exact c_o)) rfl (gd_y rfl rfl (at_f rfl)) ?_))
    refine jl_y (yl_len (T rfl) Try.runUnderlying22) rfl (gd_y rfl rfl (at_f rfl)) (jl_y (yl_lss (T rfl) (T rfl)) rfl (gd_y rfl rfl (at_f rfl)) (y_ (yl_pick_t (T rfl) (T rfl)) (y_ (yl_assign (T rfl)) (jl_nil (q_then (j_ret (q_ret rfl (.tmp (at_f rfl) .nil) ?_)))) rfl) rfl))
    exact ⟨_, ⟨by simp [resOf, c7], rfl⟩, sbt⟩
  · refine n_ft (n_ft (n_ft (n_ft (n_ft (y_ (yl_pick_f (T rfl) ev_c) (y_ (yl_assign (T rfl)) (jl_nil (q_then (j_ret (q_ret rfl (.tmp (at_f rfl) .nil) ?_)))) rfl) rfl) rfl rfl rfl rfl) rfl rfl rfl rfl) rfl rfl rfl rfl) rfl rfl rfl rfl) rfl rfl rfl rfl
    exact ⟨_, ⟨by simp [resOf, c7], rfl⟩, sbt⟩
theorem netFew_s {w0 : World} {H : List (Nat × Obj)} (n : Nm) (x y z : Int) :
    FSpec Try.prog w0 27 #[.agg (encNm n).toArray, .int .i64 x, .int .i64 y, .int .i64 z] H (Still (.bool (decide (n.nodes.length ≤ x ∧ n.links.length ≤ y ∧ n.edges.length ≤ z))) H) := by
  refine fn_spec Try.func27 rfl Try.ntmps27 rfl (j_seq (j_region (e_ (eff_box (T rfl) cs_) ?_ rfl)))
  rintro _ _ ⟨n4, rfl, rfl⟩
  refine y_ (yl_assign ev_c) (jl_nil (q_then (j_seq (j_region (y_ (yl_fa0 (T rfl) fa26_0) (y_ (yl_load (T rfl) Try.isAgg22 (by first | exact c_o)) ?_ rfl) rfl))))) rfl
  refine y_ (yl_len (T rfl) Try.runUnderlying22) (y_ (yl_move (T rfl)) (y_ (yl_leq (T rfl) (T rfl)) (y_ (yl_move (T rfl)) ?_ rfl) rfl) rfl) rfl
  first | refine jl_if_d (s := 14) (at_f rfl) (fun c14 => ?_) (fun c14 => ?_) | refine jl_if (s := 14) (at_f rfl) (fun c14 => ?_) (fun c14 => ?_)
  · refine jl_y (yl_fa (T rfl) fa26_1) rfl (gd_y rfl rfl (at_f rfl)) (jl_y (yl_load (T rfl) Try.isAgg23 (by first | exact c_o)) rfl (gd_y rfl rfl (at_f rfl)) ?_)
    refine jl_y (yl_len (T rfl) Try.runUnderlying23) rfl (gd_y rfl rfl (at_f rfl)) (jl_y (yl_move (T rfl)) rfl (gd_y rfl rfl (at_f rfl)) (jl_y (yl_leq (T rfl) (T rfl)) rfl (gd_y rfl rfl (at_f rfl)) (y_ (yl_pick_t (T rfl) (T rfl)) (y_ (yl_move (T rfl)) ?_ rfl) rfl)))
    first | refine jl_if_d (s := 21) (at_f rfl) (fun c21 => ?_) (fun c21 => ?_) | refine jl_if (s := 21) (at_f rfl) (fun c21 => ?_) (fun c21 => ?_)
    · refine jl_y (yl_fa (T rfl) fa26_2) rfl (gd_y rfl rfl (at_f rfl)) (jl_y (yl_load (T rfl) Try.isAgg24 (by first | exact c_o)) rfl (gd_y rfl rfl (at_f rfl)) ?_)
      refine jl_y (yl_len (T rfl) Try.runUnderlying24) rfl (gd_y rfl rfl (at_f rfl)) (jl_y (yl_move (T rfl)) rfl (gd_y rfl rfl (at_f rfl)) (jl_y (yl_leq (T rfl) (T rfl)) rfl (gd_y rfl rfl (at_f rfl)) (y_ (yl_pick_t (T rfl) (T rfl)) (y_ (yl_assign (T rfl)) (jl_nil (q_then (j_ret (q_ret rfl (.tmp (at_f rfl) .nil) ?_)))) rfl) rfl)))
      exact ⟨_, ⟨by simp [resOf, *], rfl⟩, sbt⟩
    · refine n_ft (n_ft (n_ft (n_ft (n_ft (y_ (yl_pick_f (T rfl) ev_c) (y_ (yl_assign (T rfl)) (jl_nil (q_then (j_ret (q_ret rfl (.tmp (at_f rfl) .nil) ?_)))) rfl) rfl) rfl rfl rfl rfl) rfl rfl rfl rfl) rfl rfl rfl rfl) rfl rfl rfl rfl) rfl rfl rfl rfl
      exact ⟨_, ⟨by simp [resOf, *], rfl⟩, sbt⟩
  · refine n_ft (n_ft (n_ft (n_ft (n_ft (y_ (yl_pick_f (T rfl) ev_c) (y_ (yl_move (T rfl)) (n_ft (n_ft (n_ft (n_ft (n_ft (y_ (yl_pick_f (T rfl) ev_c) (y_ (yl_assign (T rfl)) (jl_nil (q_then (j_ret (q_ret rfl (.tmp (at_f rfl) .nil) ?_)))) rfl) rfl) rfl rfl rfl rfl) rfl rfl rfl rfl) rfl rfl rfl rfl) rfl rfl rfl rfl) rfl rfl rfl rfl) rfl) rfl) rfl rfl rfl rfl) rfl rfl rfl rfl) rfl rfl rfl rfl) rfl rfl rfl rfl) rfl rfl rfl rfl
    exact ⟨_, ⟨by simp [resOf, *], rfl⟩, sbt⟩
theorem rwalk_s {w0 : World} {H : List (Nat × Obj)} (n : Nm) (hn : NetM w0 H n) (src : Int) (q : Option Addr) (cap : Nat) (path : List Int) (hp : IntArr w0 H q path) (hl : path.length ≤ 9223372036854775807) :
    FSpec Try.prog w0 81 #[.agg (encNm n).toArray, .int .i64 src, .slice q path.length cap] H (Still (.tuple #[.int .i64 (walkF n.links src path).1, .bool (walkF n.links src path).2]) H) := by
  refine fn_spec Try.func81 rfl Try.ntmps81 rfl (j_seq (j_region (e_ (eff_box (T rfl) cs_) ?_ rfl)))
  rintro _ _ ⟨n3, rfl, rfl⟩
  refine y_ (yl_assign ev_c) (y_ (yl_assign ev_c) (jl_nil (q_then (j_seq (j_seq (j_region (y_ (yl_assign ev_c) (jl_nil (q_then (j_block ?_))) rfl)))))) rfl) rfl
  refine j_loopH (X := Nat × Int) (V := fun ⟨k, at'⟩ => [(8, .int .i64 (k : Nat)), (1, .int .i64 at')]) (C := [(2, _), (3, _)]) (φ := fun ⟨k, at'⟩ => k ≤ path.length ∧ walkF n.links at' (path.drop k) = walkF n.links src path) (μ := fun ⟨k, at'⟩ => path.length - k) (x0 := (0, src)) ?_ ⟨at_f rfl, at_f rfl, trivial⟩ ⟨(by first | exact at_f rfl | (refine at_e (at_f rfl) (vint ?_); omega) | (refine at_e (at_f rfl) ?_; simp; done)), (by first | exact at_f rfl | (refine at_e (at_f rfl) (vint ?_); omega) | (refine at_e (at_f rfl) ?_; simp; done)), trivial⟩ ?_
  · exact ⟨Nat.zero_le _, rfl⟩
  rintro ⟨k, at'⟩ ⟨hk, hw⟩
  refine j_seq (j_seq (j_region (y_ (yl_move (T rfl)) (y_ (yl_move (T rfl)) (y_ (yl_len (T rfl) Try.runUnderlying28) (y_ (yl_lss (T rfl) (T rfl)) (jl_nil (q_then ?_)) rfl) rfl) rfl) rfl)))
  first | refine j_cond_d (at_f rfl) (fun c13 => ?_) (fun c13 => ?_) | refine j_cond (at_f rfl) (fun c13 => ?_) (fun c13 => ?_)
  · refine j_skip (q_then (j_seq (j_block (j_seq (j_region (y_ (yl_move (T rfl)) (y_ (yl_move (T rfl)) (y_ (yl_ixQ (T rfl) (T rfl) Try.runUnderlying28 Try.sizeOf3 (by omega) (by first | exact rfl | exact hp.b (i := k) (by omega) | exact hn.links.b (i := (gd path k).toNat) (by omega))) ?_ rfl) rfl) rfl))))))
    refine y_ (yl_load (T rfl) Try.isAgg3 (by first | exact c_o | exact c_m (hp.f0 (by omega) rfl) | exact c_m (hn.links.f0 (by omega) rfl) | exact c_m (hn.links.f (by omega) rfl))) ?_ rfl
    refine y_ (yl_assign (T rfl)) (jl_nil (q_then (j_seq (j_seq (j_region (y_ (yl_move (T rfl)) (y_ (yl_lss (T rfl) ev_c) (y_ (yl_move (T rfl)) ?_ rfl) rfl) rfl)))))) rfl
    first | refine jl_if_d (s := 22) (at_f rfl) (fun c22 => ?_) (fun c22 => ?_) | refine jl_if (s := 22) (at_f rfl) (fun c22 => ?_) (fun c22 => ?_)
    · refine n_tf (n_tf (n_tf (n_tf (n_tf (y_ (yl_pick_t (T rfl) ev_c) (y_ (yl_move (T rfl)) (n_tf (n_tf (n_tf (n_tf (n_tf (n_tf (n_tf (n_tf (y_ (yl_pick_t (T rfl) ev_c) (jl_nil (q_then (j_keep [(2, _), (3, _), (8, _), (9, _), (38, _)] ⟨at_f rfl, at_f rfl, at_f rfl, at_f rfl, at_f rfl, trivial⟩ (j_cond_t (at_f rfl) (j_seq (j_region (y_ (yl_assign ev_c) (y_ (yl_assign ev_c) (jl_nil (q_then (j_ret (q_then_ret (q_block_ret (q_then_ret (q_loop_ret (q_block_ret (q_then_ret (q_ret rfl (.tmp (at_f rfl) (.tmp (at_f rfl) .nil)) ?_)))))))))) rfl) rfl))))))) rfl) rfl rfl rfl rfl) rfl rfl rfl rfl) rfl rfl rfl rfl) rfl rfl rfl rfl) rfl rfl rfl rfl) rfl rfl rfl rfl) rfl rfl rfl rfl) rfl rfl rfl rfl) rfl) rfl) rfl rfl rfl rfl) rfl rfl rfl rfl) rfl rfl rfl rfl) rfl rfl rfl rfl) rfl rfl rfl rfl
      exact ⟨_, ⟨by rw [← hw, drop_gd (k := k) (by omega), walkF_no (by omega)]; rfl, rfl⟩, sbt⟩
    · refine jl_y (yl_move (T rfl)) rfl (gd_y rfl rfl (at_f rfl)) (jl_y (yl_fa (T rfl) fa26_1) rfl (gd_y rfl rfl (at_f rfl)) (jl_y (yl_load (T rfl) Try.isAgg23 (by first | exact c_o | exact c_m (hp.f0 (by omega) rfl) | exact c_m (hn.links.f0 (by omega) rfl) | exact c_m (hn.links.f (by omega) rfl))) rfl (gd_y rfl rfl (at_f rfl)) ?_))
      refine jl_y (yl_len (T rfl) Try.runUnderlying23) rfl (gd_y rfl rfl (at_f rfl)) (jl_y (yl_geq (T rfl) (T rfl)) rfl (gd_y rfl rfl (at_f rfl)) (y_ (yl_pick_f (T rfl) (T rfl)) (y_ (yl_move (T rfl)) ?_ rfl) rfl))
      first | refine jl_if_d (s := 29) (at_f rfl) (fun c29 => ?_) (fun c29 => ?_) | refine jl_if (s := 29) (at_f rfl) (fun c29 => ?_) (fun c29 => ?_)
      · refine n_tf (n_tf (n_tf (n_tf (n_tf (n_tf (n_tf (n_tf (y_ (yl_pick_t (T rfl) ev_c) (jl_nil (q_then (j_keep [(2, _), (3, _), (8, _), (9, _), (38, _)] ⟨at_f rfl, at_f rfl, at_f rfl, at_f rfl, at_f rfl, trivial⟩ (j_cond_t (at_f rfl) (j_seq (j_region (y_ (yl_assign ev_c) (y_ (yl_assign ev_c) (jl_nil (q_then (j_ret (q_then_ret (q_block_ret (q_then_ret (q_loop_ret (q_block_ret (q_then_ret (q_ret rfl (.tmp (at_f rfl) (.tmp (at_f rfl) .nil)) ?_)))))))))) rfl) rfl))))))) rfl) rfl rfl rfl rfl) rfl rfl rfl rfl) rfl rfl rfl rfl) rfl rfl rfl rfl) rfl rfl rfl rfl) rfl rfl rfl rfl) rfl rfl rfl rfl) rfl rfl rfl rfl
        exact ⟨_, ⟨by rw [← hw, drop_gd (k := k) (by omega), walkF_no (by omega)]; rfl, rfl⟩, sbt⟩
      · refine jl_y (yl_fa (T rfl) fa26_1) rfl (gd_y rfl rfl (at_f rfl)) (jl_y (yl_load (T rfl) Try.isAgg23 (by first | exact c_o | exact c_m (hp.f0 (by omega) rfl) | exact c_m (hn.links.f0 (by omega) rfl) | exact c_m (hn.links.f (by omega) rfl))) rfl (gd_y rfl rfl (at_f rfl)) ?_)
        refine jl_y (yl_move (T rfl)) rfl (gd_y rfl rfl (at_f rfl)) (jl_y (yl_ixR (T rfl) (T rfl) Try.runUnderlying23 Try.sizeOf63 (by omega) (by first | exact rfl | exact hp.b (i := k) (by omega) | exact hn.links.b (i := (gd path k).toNat) (by omega))) rfl (gd_y rfl rfl (at_f rfl)) ?_)
        refine jl_y (yl_fa0 (T rfl) fa63_0) rfl (gd_y rfl rfl (at_f rfl)) (jl_y (yl_load (T rfl) Try.isAgg3 (by first | exact c_o | exact c_m (hp.f0 (by omega) rfl) | exact c_m (hn.links.f0 (by omega) rfl) | exact c_m (hn.links.f (by omega) rfl))) rfl (gd_y rfl rfl (at_f rfl)) ?_)
        refine jl_y (yl_move (T rfl)) rfl (gd_y rfl rfl (at_f rfl)) (jl_y (yl_neq (T rfl) (T rfl)) rfl (gd_y rfl rfl (at_f rfl)) (y_ (yl_pick_f (T rfl) (T rfl)) (jl_nil (q_then (j_keep [(2, _), (3, _), (8, _), (9, _), (38, _)] ⟨at_f rfl, at_f rfl, at_f rfl, at_f rfl, at_f rfl, trivial⟩ ?_))) rfl))
        first | refine j_cond_d (at_f rfl) (fun c38 => ?_) (fun c38 => ?_) | refine j_cond (at_f rfl) (fun c38 => ?_) (fun c38 => ?_)
        · refine j_seq (j_region (y_ (yl_assign ev_c) (y_ (yl_assign ev_c) (jl_nil (q_then (j_ret (q_then_ret (q_block_ret (q_then_ret (q_loop_ret (q_block_ret (q_then_ret (q_ret rfl (.tmp (at_f rfl) (.tmp (at_f rfl) .nil)) ?_)))))))))) rfl) rfl))
          exact ⟨_, ⟨by rw [← hw, drop_gd (k := k) (by omega), walkF_no (by omega)]; rfl, rfl⟩, sbt⟩
        · refine j_skip (q_then (j_region (y_ (yl_fa (T rfl) fa26_1) (y_ (yl_load (T rfl) Try.isAgg23 (by first | exact c_o | exact c_m (hp.f0 (by omega) rfl) | exact c_m (hn.links.f0 (by omega) rfl) | exact c_m (hn.links.f (by omega) rfl))) ?_ rfl) rfl)))
          refine y_ (yl_move (T rfl)) (y_ (yl_ixR (T rfl) (T rfl) Try.runUnderlying23 Try.sizeOf63 (by omega) (by first | exact rfl | exact hp.b (i := k) (by omega) | exact hn.links.b (i := (gd path k).toNat) (by omega))) ?_ rfl) rfl
          refine y_ (yl_fa (T rfl) fa63_1) (y_ (yl_load (T rfl) Try.isAgg3 (by first | exact c_o | exact c_m (hp.f0 (by omega) rfl) | exact c_m (hn.links.f0 (by omega) rfl) | exact c_m (hn.links.f (by omega) rfl))) ?_ rfl) rfl
          refine y_ (yl_assign (T rfl)) (jl_nil (q_block (q_then (j_region (y_ (yl_move (T rfl)) (y_ (yl_add (T rfl) ev_c (by omega)) ?_ rfl) rfl))))) rfl
          refine y_ (yl_assign (T rfl)) (jl_nil ?_) rfl
          refine q_loopC ((k + 1, (gd n.links (gd path k).toNat).dst)) ?_ ?_ ⟨(by first | exact at_f rfl | (refine at_e (at_f rfl) (vint ?_); omega) | (refine at_e (at_f rfl) ?_; simp; done)), (by first | exact at_f rfl | (refine at_e (at_f rfl) (vint ?_); omega) | (refine at_e (at_f rfl) ?_; simp; done)), trivial⟩ ⟨at_f rfl, at_f rfl, trivial⟩ ?_
          · exact ⟨by omega, by rw [← hw, drop_gd (k := k) (by omega), walkF_go ⟨by omega, by omega, by simpa using c38⟩]⟩
          · first | omega | (simp only []; omega)
          · exact sbt
  · refine j_exit (q_then_exit (q_loop_exit (q_block_hit (q_then (j_seq (j_region (y_ (yl_move (T rfl)) (y_ (yl_assign (T rfl)) (y_ (yl_assign ev_c) (jl_nil (q_then (j_ret (q_ret rfl (.tmp (at_f rfl) (.tmp (at_f rfl) .nil)) ?_)))) rfl) rfl) rfl)))))))
    exact ⟨_, ⟨by rw [← hw, drop_end (by omega)]; rfl, rfl⟩, sbt⟩
theorem gwalk_s {w0 : World} {H : List (Nat × Obj)} (n : Nm) (hn : NetM w0 H n) (src : Int) (q : Option Addr) (cap : Nat) (path : List Int) (hp : IntArr w0 H q path) (hl : path.length ≤ 9223372036854775807) :
    FSpec Try.prog w0 79 #[.agg (encNm n).toArray, .int .i64 src, .slice q path.length cap] H (Still (.tuple #[.int .i64 (walkF n.links src path).1, .bool (walkF n.links src path).2]) H) := by
  refine fn_spec Try.func79 rfl Try.ntmps79 rfl (j_seq (j_region (e_ (eff_box (T rfl) cs_) ?_ rfl)))
  rintro _ _ ⟨n3, rfl, rfl⟩
  refine y_ (yl_assign ev_c) (y_ (yl_assign ev_c) (jl_nil (q_then (j_seq (j_seq (j_region (y_ (yl_move (T rfl)) (y_ (yl_len (T rfl) Try.runUnderlying28) (y_ (yl_move ev_c) (jl_nil (q_then (j_block ?_))) rfl) rfl) rfl)))))) rfl) rfl
  refine j_loopH (X := Nat × Int) (V := fun ⟨k, at'⟩ => [(12, .int .i64 (k : Nat)), (1, .int .i64 at')]) (C := [(3, _), (10, _), (11, _)]) (φ := fun ⟨k, at'⟩ => k ≤ path.length ∧ walkF n.links at' (path.drop k) = walkF n.links src path) (μ := fun ⟨k, at'⟩ => path.length - k) (x0 := (0, src)) ?_ ⟨at_f rfl, at_f rfl, at_f rfl, trivial⟩ ⟨(by first | exact at_f rfl | (refine at_e (at_f rfl) (vint ?_); omega) | (refine at_e (at_f rfl) ?_; simp; done)), (by first | exact at_f rfl | (refine at_e (at_f rfl) (vint ?_); omega) | (refine at_e (at_f rfl) ?_; simp; done)), trivial⟩ ?_
  · exact ⟨Nat.zero_le _, rfl⟩
  rintro ⟨k, at'⟩ ⟨hk, hw⟩
  have hll := hn.ll
  refine j_seq (j_region (y_ (yl_lss (T rfl) (T rfl)) (jl_nil (q_then (j_seq ?_))) rfl))
  first | refine j_cond_d (at_f rfl) (fun c13 => ?_) (fun c13 => ?_) | refine j_cond (at_f rfl) (fun c13 => ?_) (fun c13 => ?_)
  · refine j_skip (q_then (j_seq (j_block (j_seq (j_region (y_ (yl_ixQ (T rfl) (T rfl) Try.runUnderlying28 Try.sizeOf3 (by omega) (by first | exact rfl | exact hp.b (i := k) (by omega) | exact hn.links.b (i := (gd path k).toNat) (by omega))) ?_ rfl))))))
    refine y_ (yl_load (T rfl) Try.isAgg3 (by first | exact c_o | exact c_m (hp.f0 (by omega) rfl) | exact c_m (hn.links.f0 (by omega) rfl) | exact c_m (hn.links.f (by omega) rfl))) ?_ rfl
    refine y_ (yl_assign (T rfl)) (jl_nil (q_then (j_seq (j_seq (j_region (y_ (yl_move (T rfl)) (y_ (yl_fa (T rfl) fa26_1) (y_ (yl_load (T rfl) Try.isAgg23 (by first | exact c_o | exact c_m (hp.f0 (by omega) rfl) | exact c_m (hn.links.f0 (by omega) rfl) | exact c_m (hn.links.f (by omega) rfl))) ?_ rfl) rfl) rfl)))))) rfl
    refine y_ (yl_len (T rfl) Try.runUnderlying23) (y_ (yl_sub (T rfl) ev_c (by omega)) ?_ rfl) rfl
    refine y_ (yl_call (.cons (T rfl) (.cons ev_c (.cons (T rfl) .nil))) Try.call91 (fun H' hs => gwithin_s _ _ _)) ?_ rfl
    first | refine jl_y (yl_not_d (T rfl)) rfl gd_n ?_ | refine jl_y (yl_not (T rfl)) rfl gd_n ?_
    refine y_ (yl_move (T rfl)) ?_ rfl
    first | refine jl_if_d (s := 23) (at_f rfl) (fun c23 => ?_) (fun c23 => ?_) | refine jl_if (s := 23) (at_f rfl) (fun c23 => ?_) (fun c23 => ?_)
    · refine n_tf (n_tf (n_tf (n_tf (n_tf (n_tf (n_tf (n_tf (y_ (yl_pick_t (T rfl) ev_c) (jl_nil (q_then (j_keep [(3, _), (9, _), (10, _), (11, _), (12, _), (32, _)] ⟨at_f rfl, at_f rfl, at_f rfl, at_f rfl, at_f rfl, at_f rfl, trivial⟩ (j_cond_t (at_f rfl) (j_seq (j_region (y_ (yl_assign ev_c) (y_ (yl_assign ev_c) (jl_nil (q_then (j_ret (q_then_ret (q_block_ret (q_then_ret (q_loop_ret (q_block_ret (q_then_ret (q_ret rfl (.tmp (at_f rfl) (.tmp (at_f rfl) .nil)) ?_)))))))))) rfl) rfl))))))) rfl) rfl rfl rfl rfl) rfl rfl rfl rfl) rfl rfl rfl rfl) rfl rfl rfl rfl) rfl rfl rfl rfl) rfl rfl rfl rfl) rfl rfl rfl rfl) rfl rfl rfl rfl
      exact ⟨_, ⟨by rw [← hw, drop_gd (k := k) (by omega), walkF_no (by omega)]; rfl, rfl⟩, sbt⟩
    · refine jl_y (yl_fa (T rfl) fa26_1) rfl (gd_y rfl rfl (at_f rfl)) (jl_y (yl_load (T rfl) Try.isAgg23 (by first | exact c_o | exact c_m (hp.f0 (by omega) rfl) | exact c_m (hn.links.f0 (by omega) rfl) | exact c_m (hn.links.f (by omega) rfl))) rfl (gd_y rfl rfl (at_f rfl)) ?_)
      refine jl_y (yl_move (T rfl)) rfl (gd_y rfl rfl (at_f rfl)) (jl_y (yl_ixR (T rfl) (T rfl) Try.runUnderlying23 Try.sizeOf63 (by omega) (by first | exact rfl | exact hp.b (i := k) (by omega) | exact hn.links.b (i := (gd path k).toNat) (by omega))) rfl (gd_y rfl rfl (at_f rfl)) ?_)
      refine jl_y (yl_fa0 (T rfl) fa63_0) rfl (gd_y rfl rfl (at_f rfl)) (jl_y (yl_load (T rfl) Try.isAgg3 (by first | exact c_o | exact c_m (hp.f0 (by omega) rfl) | exact c_m (hn.links.f0 (by omega) rfl) | exact c_m (hn.links.f (by omega) rfl))) rfl (gd_y rfl rfl (at_f rfl)) ?_)
      refine jl_y (yl_move (T rfl)) rfl (gd_y rfl rfl (at_f rfl)) (jl_y (yl_neq (T rfl) (T rfl)) rfl (gd_y rfl rfl (at_f rfl)) (y_ (yl_pick_f (T rfl) (T rfl)) (jl_nil (q_then (j_keep [(3, _), (9, _), (10, _), (11, _), (12, _), (32, _)] ⟨at_f rfl, at_f rfl, at_f rfl, at_f rfl, at_f rfl, at_f rfl, trivial⟩ ?_))) rfl))
      first | refine j_cond_d (at_f rfl) (fun c32 => ?_) (fun c32 => ?_) | refine j_cond (at_f rfl) (fun c32 => ?_) (fun c32 => ?_)
      · refine j_seq (j_region (y_ (yl_assign ev_c) (y_ (yl_assign ev_c) (jl_nil (q_then (j_ret (q_then_ret (q_block_ret (q_then_ret (q_loop_ret (q_block_ret (q_then_ret (q_ret rfl (.tmp (at_f rfl) (.tmp (at_f rfl) .nil)) ?_)))))))))) rfl) rfl))
        exact ⟨_, ⟨by rw [← hw, drop_gd (k := k) (by omega), walkF_no (by omega)]; rfl, rfl⟩, sbt⟩
      · refine j_skip (q_then (j_region (y_ (yl_fa (T rfl) fa26_1) (y_ (yl_load (T rfl) Try.isAgg23 (by first | exact c_o | exact c_m (hp.f0 (by omega) rfl) | exact c_m (hn.links.f0 (by omega) rfl) | exact c_m (hn.links.f (by omega) rfl))) ?_ rfl) rfl)))
        refine y_ (yl_move (T rfl)) (y_ (yl_ixR (T rfl) (T rfl) Try.runUnderlying23 Try.sizeOf63 (by omega) (by first | exact rfl | exact hp.b (i := k) (by omega) | exact hn.links.b (i := (gd path k).toNat) (by omega))) ?_ rfl) rfl
        refine y_ (yl_fa (T rfl) fa63_1) (y_ (yl_load (T rfl) Try.isAgg3 (by first | exact c_o | exact c_m (hp.f0 (by omega) rfl) | exact c_m (hn.links.f0 (by omega) rfl) | exact c_m (hn.links.f (by omega) rfl))) ?_ rfl) rfl
        refine y_ (yl_assign (T rfl)) (jl_nil (q_block (q_then (j_region (y_ (yl_add (T rfl) ev_c (by omega)) ?_ rfl))))) rfl
        refine y_ (yl_move (T rfl)) (jl_nil ?_) rfl
        refine q_loopC ((k + 1, (gd n.links (gd path k).toNat).dst)) ?_ ?_ ⟨(by first | exact at_f rfl | (refine at_e (at_f rfl) (vint ?_); omega) | (refine at_e (at_f rfl) ?_; simp; done)), (by first | exact at_f rfl | (refine at_e (at_f rfl) (vint ?_); omega) | (refine at_e (at_f rfl) ?_; simp; done)), trivial⟩ ⟨at_f rfl, at_f rfl, at_f rfl, trivial⟩ ?_
        · exact ⟨by omega, by rw [← hw, drop_gd (k := k) (by omega), walkF_go ⟨by omega, by omega, by simpa using c32⟩]⟩
        · first | omega | (simp only []; omega)
        · exact sbt
  · refine j_exit (q_then_exit (q_loop_exit (q_block_hit (q_then (j_seq (j_region (y_ (yl_move (T rfl)) (y_ (yl_assign (T rfl)) (y_ (yl_assign ev_c) (jl_nil (q_then (j_ret (q_ret rfl (.tmp (at_f rfl) (.tmp (at_f rfl) .nil)) ?_)))) rfl) rfl) rfl)))))))
    exact ⟨_, ⟨by rw [← hw, drop_end (by omega)]; rfl, rfl⟩, sbt⟩
end Go.Proofs.Ytdbffighngmibaa
