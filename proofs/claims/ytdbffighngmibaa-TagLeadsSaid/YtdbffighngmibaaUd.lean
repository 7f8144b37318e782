/-
  Walks of the library: values, and their collection.
-/
import Derived.Test.YtdbffighngmibaaUc
import Derived.Test.YtdbffighngmibaaLk
namespace Go.Proofs.Ytdbffighngmibaa
open Go.RowKit
set_option linter.unusedVariables false
set_option linter.unusedSimpArgs false
theorem values_s {w0 : World} {H : List (Nat × Obj)} (q2 : Option Addr) (cap2 : Nat) (tg : List Int) :
    FSpec Try.prog w0 70 #[.slice q2 tg.length cap2] H (fun v H' => ∃ n1 : Nat, v = .func (.func 85) #[] #[.pointer (some ⟨n1, 0, none⟩)] ∧ H' = (n1, Cl [.slice q2 tg.length cap2] 28) :: H) := by
  refine fn_spec Try.func70 rfl Try.ntmps70 rfl (j_seq (j_region (e_ (eff_box (T rfl) cs_) ?_ rfl)))
  rintro _ _ ⟨n1, rfl, rfl⟩
  refine y_ (yl_assign ev_c) (jl_nil (q_then (j_seq (j_region (y_ (yl_makeFunc (.cons (T rfl) .nil)) (y_ (yl_assign (T rfl)) (jl_nil (q_then (j_ret (q_ret rfl (.tmp (at_f rfl) .nil) ?_)))) rfl) rfl))))) rfl
  exact ⟨_, ⟨n1, rfl, rfl⟩, sbt⟩
theorem values_it {w0 : World} {H : List (Nat × Obj)} (q2 : Option Addr) (cap2 : Nat) (tg : List Int) (ht : IntArr w0 H q2 tg) (htl : tg.length ≤ 9223372036854775807) (n1 : Nat) :
    IterSpec Try.prog w0 85 [.pointer (some ⟨n1, 0, none⟩)] ((n1, Cl [.slice q2 tg.length cap2] 28) :: H) encI tg := by
  intro l S Sx hHc hY H0 hS0
  have hY0 := fun k x H hx hS => YSpec.mono (hY k x H [] hx hS) (K' := fun v H1 => (v = .bool true ∧ S (k + 1) H1) ∨ (v = .bool false ∧ Sx H1)) (by rintro v _ ⟨H1, rfl, h⟩; exact h)
  refine fn_spec Try.func85 rfl Try.ntmps85 rfl (j_seq (j_region (y_ (yl_load (T rfl) Try.isAgg28 (by first | exact c_o | exact Cell.mono (w0 := w0) c_o (hHc _ _ hS0) | exact ((ht.m).f0 (i := k) (by omega) rfl).mono (hHc _ _ hS))) ?_ rfl)))
  refine y_ (yl_len (T rfl) Try.runUnderlying28) (y_ (yl_move ev_c) (jl_nil (q_then (j_block ?_))) rfl) rfl
  refine j_loopC (X := Nat × List (Nat × Obj)) (V := fun ⟨k, Hx⟩ => [(7, .int .i64 (k : Nat))]) (C := [(0, _), (5, _), (6, _)]) (G := fun ⟨k, Hx⟩ => Hx) (φ := fun ⟨k, Hx⟩ => k ≤ tg.length ∧ S k Hx) (μ := fun ⟨k, Hx⟩ => tg.length - k) (x0 := (0, H0)) ?_ ⟨at_f rfl, at_f rfl, at_f rfl, trivial⟩ ⟨(by first | exact at_f rfl | (refine at_e (at_f rfl) (vint ?_); omega) | (refine at_e (at_f rfl) ?_; simp; done)), trivial⟩ sb0 ?_
  · exact ⟨Nat.zero_le _, hS0⟩
  rintro ⟨k, Hx⟩ ⟨hk, hS⟩
  refine j_seq (j_region (y_ (yl_lss (T rfl) (T rfl)) (jl_nil (q_then (j_seq ?_))) rfl))
  first | refine j_cond_d (at_f rfl) (fun c8 => ?_) (fun c8 => ?_) | refine j_cond (at_f rfl) (fun c8 => ?_) (fun c8 => ?_)
  · refine j_skip (q_then (j_seq (j_block (j_seq (j_region (y_ (yl_ixQ (T rfl) (T rfl) Try.runUnderlying28 Try.sizeOf3 (by omega) (by first | exact rfl | exact ht.b (i := k) (by omega))) ?_ rfl))))))
    refine y_ (yl_load (T rfl) Try.isAgg3 (by first | exact c_o | exact Cell.mono (w0 := w0) c_o (hHc _ _ hS0) | exact ((ht.m).f0 (i := k) (by omega) rfl).mono (hHc _ _ hS))) ?_ rfl
    refine y_ (yl_assign (T rfl)) (jl_nil (q_then (j_seq (j_region (y_ (yl_move (T rfl)) (y_ (yl_move (T rfl)) (e_ (eff_yield (T rfl) (.cons (T rfl) .nil) (hY0 k (gd tg k) Hx (by exact gd_get (by omega)) hS)) ?_ rfl) rfl) rfl))))) rfl
    rintro _ H1 (⟨rfl, hS1⟩ | ⟨rfl, hSx⟩)
    · refine y_ (yl_not (T rfl)) (jl_nil (q_then (j_cond_f (at_f rfl) (j_skip (q_block (q_then (j_region (y_ (yl_add (T rfl) ev_c (by omega)) ?_ rfl)))))))) rfl
      refine y_ (yl_move (T rfl)) (jl_nil ?_) rfl
      refine q_loopC ((k + 1, H1)) ?_ ?_ ⟨(by first | exact at_f rfl | (refine at_e (at_f rfl) (vint ?_); omega) | (refine at_e (at_f rfl) ?_; simp; done)), trivial⟩ ⟨at_f rfl, at_f rfl, at_f rfl, trivial⟩ ?_
      · exact ⟨by omega, hS1⟩
      · first | omega | (simp only []; omega)
      · exact sbt
    · refine y_ (yl_not (T rfl)) (jl_nil (q_then (j_cond_t (at_f rfl) (j_ret (q_block_ret (q_then_ret (q_loop_ret (q_block_ret (q_ret rfl .nil ?_))))))))) rfl
      exact ⟨_, .inr hSx, sbt⟩
  · refine j_exit (q_then_exit (q_loop_exit (q_block_hit (q_end rfl .nil ?_))))
    exact ⟨_, .inl (by rw [show tg.length = k by omega]; exact hS), sbt⟩
theorem appSeq_s {w0 : World} {H : List (Nat × Obj)} (q2 : Option Addr) (cap2 : Nat) (tg : List Int) (ht : IntArr w0 H q2 tg) (htl : tg.length ≤ 100000) (n1 : Nat) :
    FSpec Try.prog w0 92 #[.slice none 0 0, .func (.func 85) #[] #[.pointer (some ⟨n1, 0, none⟩)]] ((n1, Cl [.slice q2 tg.length cap2] 28) :: H) (fun v H' => ∃ d : Sl, v = slV d tg.length ∧ SlOk d tg.length 1 ∧ H' = slH d (tg.flatMap encI) 3 ++ ((n1, Cl [.slice q2 tg.length cap2] 28) :: H)) := by
  refine fn_spec Try.func92 rfl Try.ntmps92 rfl (j_seq (j_region (e_ (eff_box (T rfl) cs_) ?_ rfl)))
  rintro _ _ ⟨n2, rfl, rfl⟩
  refine y_ (yl_assign ev_c) (jl_nil (q_then (j_seq (j_seq (j_region (y_ (yl_move (T rfl)) (jl_nil (q_then (j_block ?_))) rfl)))))) rfl
  refine j_range (Z := Sl × List Int × Nat) (T rfl) Try.call85 (values_it q2 cap2 tg ht (by omega) n1) (fun _ => rfl) rfl (fun ⟨d, l, c⟩ => slH d (l.flatMap encI) 3 ++ ((n2, Cl [slV d c] 28) :: (n1, Cl [.slice q2 tg.length cap2] 28) :: H)) (fun k ⟨d, l, c⟩ => c = l.length ∧ l = tg.take k ∧ SlOk d l.length 1) (fun ⟨d, l, c⟩ => False) (fun _ ⟨d, l, c⟩ => False) ((.nil, [], 0)) ?_ sbt ?_ ?_ ?_ ?_ ?_
  · exact ⟨rfl, rfl, rfl⟩
  · rintro ⟨d, l, c⟩; exact sbt
  · rintro l lr Y X k x1 ⟨d, l, c⟩ hl hx ⟨rfl, hll, hok⟩
    have hlb : l.length ≤ 100000 := by rw [hll]; simp; omega
    refine j_keep [(2, _), (7, _)] ⟨at_f rfl, at_f rfl, trivial⟩ (j_region (y_ (yl_assign (T rfl)) (jl_nil (q_begin hl ?_)) rfl))
    refine j_block (j_region (y_ (yl_load (T rfl) Try.isAgg28 (by first | exact c_o)) ?_ rfl))
    refine y_ (yl_move (T rfl)) (e_ (eff_bslice (.cons (T rfl) .nil) (bs28_1_0 _)) ?_ rfl) rfl
    rintro _ _ ⟨n10, rfl, rfl⟩
    refine e_ (eff_app1_at (x1) (by' := 8) (by repeat (first | exact LocL.h | apply LocL.t | apply LocL.a)) (T rfl) (T rfl) Try.runUnderlying28 Try.runUnderlying28 Try.sizeOf3 Try.typeInfo3 rfl Try.zeroValue3 rfl (fun _ => rfl) rfl hok (by decide) (by omega)) ?_ rfl
    rintro _ _ ⟨d', rfl, hok', rfl⟩
    first | refine jl_e (eff_sW (T rfl) (T rfl) Try.sizeOf28) rfl gd_n ?_ | refine jl_e (eff_s1 (T rfl) (T rfl) rfl Try.sizeOf28) rfl gd_n ?_
    rintro _ _ ⟨rfl, rfl⟩
    refine jl_nil (q_block (q_round ((d', l ++ [x1], l.length + 1)) ?_ sbt))
    exact ⟨by simp, by rw [hll, List.take_add_one, hx]; rfl, by simpa using hok'⟩
  · rintro D0 ⟨d, l, c⟩ ⟨rfl, hll, hok⟩
    have hlt : l = tg := by rw [hll]; simp
    subst hlt
    refine q_block (q_then (j_seq (j_region (y_ (yl_load (T rfl) Try.isAgg28 (by first | exact c_o)) ?_ rfl))))
    refine y_ (yl_assign (T rfl)) (jl_nil (q_then (j_ret (q_mark_ret ?_)))) rfl
    refine q_ret rfl (.tmp (at_f rfl) .nil) ?_
    exact ⟨_, ⟨d, rfl, hok, rfl⟩, sbt⟩
  · exact fun _ _ h => h.elim
  · exact fun _ _ _ h => h.elim
theorem collect_s {w0 : World} {H : List (Nat × Obj)} (q2 : Option Addr) (cap2 : Nat) (tg : List Int) (ht : IntArr w0 H q2 tg) (htl : tg.length ≤ 100000) (n1 : Nat) :
    FSpec Try.prog w0 83 #[.func (.func 85) #[] #[.pointer (some ⟨n1, 0, none⟩)]] ((n1, Cl [.slice q2 tg.length cap2] 28) :: H) (fun v H' => ∃ d : Sl, v = slV d tg.length ∧ SlOk d tg.length 1 ∧ H' = slH d (tg.flatMap encI) 3 ++ ((n1, Cl [.slice q2 tg.length cap2] 28) :: H)) := by
  refine fn_spec Try.func83 rfl Try.ntmps83 rfl (j_seq (j_region (y_ (yl_assign ev_c) (jl_nil (q_then (j_seq (j_region (y_ (yl_move (T rfl)) (e_ (eff_call (.cons ev_c (.cons (T rfl) .nil)) Try.call92 (appSeq_s _ _ _ ht htl _)) ?_ rfl) rfl))))) rfl)))
  rintro _ _ ⟨d, rfl, hok, rfl⟩
  refine y_ (yl_assign (T rfl)) (jl_nil (q_then (j_ret (q_ret rfl (.tmp (at_f rfl) .nil) ?_)))) rfl
  exact ⟨_, ⟨d, rfl, hok, rfl⟩, sbt⟩
end Go.Proofs.Ytdbffighngmibaa
