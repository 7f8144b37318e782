/-
  A part of what LawS rests on: the logic, walks and plain laws. No condition.
-/
import Derived.Test.YtkdolgnpkjihpaaGreatDoorJS3
import Derived.Laws.Cover3
namespace Go.Proofs.YtkdolgnpkjihpaaGreatDoor
open Go.RowKit
set_option linter.unusedVariables false
set_option linter.unusedSimpArgs false
structure RowI where
  q : Option Addr
  c : Nat
  l : List Int
instance : Inhabited RowI := ⟨⟨none, 0, []⟩⟩
structure Mi where
  names : List ByteArray
  rows : List RowI
  acc : List Bool
  q1 : Option Addr
  c1 : Nat
  q2 : Option Addr
  c2 : Nat
  q3 : Option Addr
  c3 : Nat
abbrev encRI (r : RowI) : List Value := [.slice r.q r.l.length r.c]
abbrev encMi (m : Mi) : List Value := [.slice m.q1 m.names.length m.c1, .slice m.q2 m.rows.length m.c2, .slice m.q3 m.acc.length m.c3]
structure MiOk (w0 : World) (H : List (Nat × Obj)) (m : Mi) : Prop where
  a1 : Arr w0 H m.q1 1 encS m.names
  a2 : Arr w0 H m.q2 1 encRI m.rows
  a3 : Arr w0 H m.q3 1 encB1 m.acc
  r : ∀ r ∈ m.rows, Arr w0 H r.q 1 encI r.l
  l1 : m.names.length ≤ 1048576
  l2 : m.rows.length ≤ 1048576
  l3 : ∀ r ∈ m.rows, r.l.length ≤ 1048576
def badTo (n : Nat) (s : Int) : Bool := decide (s < 0) || decide ((n : Int) ≤ s)
def badRow (k n : Nat) (l : List Int) : Bool := decide (¬ (l.length : Int) = (k : Int) + 1) || l.any (badTo n)
def isSrt (names : List ByteArray) : Bool := decide (∀ i, i < names.length → 0 < i → ¬ toL (gd names i) < toL (gd names (i - 1)))
def chkI (m : Mi) : Bool := !(decide (m.rows.length = 0) || decide (200 < m.rows.length) || decide (¬ m.acc.length = m.rows.length) || !isSrt m.names || decide (¬ (cptB m.names).length = m.names.length)) && !(m.rows.any fun r => badRow m.names.length m.rows.length r.l)
theorem any_of {α : Type} [Inhabited α] {l : List α} {f : α → Bool} {i : Nat} (hi : i < l.length) (h : f (gd l i) = true) : l.any f = true := List.any_eq_true.2 ⟨_, gd_mem hi, h⟩
theorem any_no {α : Type} [Inhabited α] {l : List α} {f : α → Bool} (h : ∀ j, j < l.length → f (gd l j) = false) : l.any f = false := by
  rw [List.any_eq_false]
  intro x hx
  obtain ⟨j, hj, e⟩ := List.getElem_of_mem hx
  have := h j hj
  rw [gd_getElem hj, e] at this
  rw [this]; decide
theorem c66_s {w0 : World} {H : List (Nat × Obj)} (s : Int) (n b : Nat) (hb : Fnd H b (Cl [.int .i64 (n : Int)] 3)) :
    FSpec Tryz.prog w0 66 #[.int .i64 s, .pointer (some ⟨b, 0, none⟩)] H (Still (.bool (badTo n s)) H) := by
  refine fn_spec Tryz.func66 rfl Tryz.ntmps66 rfl (j_seq (j_region (y_ (yl_assign ev_c) (jl_nil (q_then (j_seq (j_region (y_ (yl_move (T rfl)) (y_ (yl_lss (T rfl) ev_c) (y_ (yl_move (T rfl)) ?_ rfl) rfl) rfl))))) rfl)))
  first | refine jl_if_d (s := 6) (at_f rfl) (fun c6 => ?_) (fun c6 => ?_) | refine jl_if (s := 6) (at_f rfl) (fun c6 => ?_) (fun c6 => ?_)
  · refine n_tf (n_tf (n_tf (y_ (yl_pick_t (T rfl) ev_c) (y_ (yl_assign (T rfl)) (jl_nil (q_then (j_ret (q_ret rfl (.tmp (at_f rfl) .nil) (⟨_, ⟨vbool ?_, rfl⟩, sbt⟩))))) rfl) rfl) rfl rfl rfl rfl) rfl rfl rfl rfl) rfl rfl rfl rfl
    unfold badTo
    first | (rw [decide_eq_true (show s < 0 by omega)]; rfl) | (rw [decide_eq_false (show ¬ s < 0 by omega)]; rfl)
  · refine jl_y (yl_move (T rfl)) rfl (gd_y rfl rfl (at_f rfl)) (jl_y (yl_load (T rfl) Tryz.isAgg3 (by first | exact c_o | exact c_o (hf := hb))) rfl (gd_y rfl rfl (at_f rfl)) ?_)
    refine jl_y (yl_geq (T rfl) (T rfl)) rfl (gd_y rfl rfl (at_f rfl)) (y_ (yl_pick_f (T rfl) (T rfl)) (y_ (yl_assign (T rfl)) (jl_nil (q_then (j_ret (q_ret rfl (.tmp (at_f rfl) .nil) (⟨_, ⟨vbool ?_, rfl⟩, sbt⟩))))) rfl) rfl)
    unfold badTo
    first | (rw [decide_eq_true (show s < 0 by omega)]; rfl) | (rw [decide_eq_false (show ¬ s < 0 by omega)]; rfl)
theorem ix114_s {w0 : World} {H : List (Nat × Obj)} (l : List Int) (q : Option Addr) (c : Nat) (n b : Nat) (hb : Fnd H b (Cl [.int .i64 (n : Int)] 3)) (hA : Arr w0 H q 1 encI l) (hlen : l.length ≤ 1048576) :
    FSpec Tryz.prog w0 114 #[.slice q l.length c, .func (.func 66) #[] #[.pointer (some ⟨b, 0, none⟩)]] H ((fun v H' => (∃ i : Int, v = .int .i64 i ∧ (0 ≤ i ↔ l.any (badTo n) = true)) ∧ H' = H)) := by
  refine fn_spec Tryz.func114 rfl Tryz.ntmps114 rfl (j_seq (j_region (y_ (yl_assign ev_c) (jl_nil (q_then (j_seq (j_seq (j_region (y_ (yl_move (T rfl)) (y_ (yl_len (T rfl) Tryz.runUnderlying42) (y_ (yl_move ev_c) (jl_nil (q_then (j_block ?_))) rfl) rfl) rfl)))))) rfl)))
  refine j_loopH (X := Nat) (V := fun i => [(8, .int .i64 (i : Nat))]) (C := [(0, _), (1, _), (7, _)]) (φ := fun i => i ≤ l.length ∧ ∀ j, j < i → (badTo n) (gd l j) = false) (μ := fun i => l.length - i) (x0 := 0) ?_ ⟨at_f rfl, at_f rfl, at_f rfl, trivial⟩ ⟨(by first | exact at_f rfl | (refine at_e (at_f rfl) (vint ?_); omega) | (refine at_e (at_f rfl) ?_; simp; done)), trivial⟩ ?_
  · exact ⟨Nat.zero_le _, fun j hj => absurd hj (Nat.not_lt_zero _)⟩
  rintro i ⟨hi, hno⟩
  refine j_seq (j_region (y_ (yl_lss (T rfl) (T rfl)) (jl_nil (q_then (j_seq ?_))) rfl))
  first | refine j_cond_d (at_f rfl) (fun c9 => ?_) (fun c9 => ?_) | refine j_cond (at_f rfl) (fun c9 => ?_) (fun c9 => ?_)
  · refine j_skip (q_then (j_seq (j_block (j_seq (j_region (y_ (yl_move (T rfl)) (y_ (yl_assign (T rfl)) (jl_nil (q_then (j_seq (j_region (y_ (yl_move (T rfl)) (y_ (yl_move (T rfl)) (y_ (yl_move (T rfl)) (y_ (yl_ixQ (T rfl) (T rfl) Tryz.runUnderlying42 Tryz.sizeOf3 (by omega) (by first | exact rfl | exact hA.b (i := i) (by omega))) ?_ rfl) rfl) rfl) rfl))))) rfl) rfl))))))
    refine y_ (yl_load (T rfl) Tryz.isAgg3 (by first | exact c_o | exact cell1 ((hA.mono sbt).cs (i := i) (by omega)))) ?_ rfl
    refine y_ (yl_callV (T rfl) (.cons (T rfl) .nil) Tryz.call66 (fun H' hs => c66_s (gd l i) n b (hb.mono (List.Sublist.trans sbt hs)))) (jl_nil (q_then ?_)) rfl
    first | refine j_cond_d (at_f rfl) (fun c16 => ?_) (fun c16 => ?_) | refine j_cond (at_f rfl) (fun c16 => ?_) (fun c16 => ?_)
    · refine j_seq (j_region (y_ (yl_move (T rfl)) (y_ (yl_assign (T rfl)) (jl_nil (q_then (j_ret (q_block_ret (q_then_ret (q_loop_ret (q_block_ret (q_then_ret (q_ret rfl (.tmp (at_f rfl) .nil) ?_))))))))) rfl) rfl))
      exact ⟨_, ⟨⟨_, rfl, fun _ => any_of (by omega) c16, fun _ => by omega⟩, rfl⟩, sbt⟩
    · refine j_skip (q_block (q_then (j_region (y_ (yl_add (T rfl) ev_c (by omega)) ?_ rfl))))
      refine y_ (yl_move (T rfl)) (jl_nil ?_) rfl
      refine q_loopC (i + 1) ?_ ?_ ⟨(by first | exact at_f rfl | (refine at_e (at_f rfl) (vint ?_); omega) | (refine at_e (at_f rfl) ?_; simp; done)), trivial⟩ ⟨at_f rfl, at_f rfl, at_f rfl, trivial⟩ ?_
      · refine ⟨by omega, fun j hj => ?_⟩
        by_cases e : j = i
        · subst e; exact c16
        · exact hno j (by omega)
      · first | omega | (simp only []; omega)
      · exact sbt
  · refine j_exit (q_then_exit (q_loop_exit (q_block_hit (q_then (j_seq (j_region (y_ (yl_assign ev_c) (jl_nil (q_then (j_ret (q_ret rfl (.tmp (at_f rfl) .nil) (⟨_, ⟨⟨-1, rfl, fun h => absurd h (by decide), fun h => ?_⟩, rfl⟩, sbt⟩))))) rfl)))))))
    rw [any_no fun j hj => hno j (by omega)] at h; cases h
theorem cf65_s {w0 : World} {H : List (Nat × Obj)} (l : List Int) (q : Option Addr) (c : Nat) (n b : Nat) (hb : Fnd H b (Cl [.int .i64 (n : Int)] 3)) (hA : Arr w0 H q 1 encI l) (hlen : l.length ≤ 1048576) :
    FSpec Tryz.prog w0 65 #[.slice q l.length c, .func (.func 66) #[] #[.pointer (some ⟨b, 0, none⟩)]] H (Still (.bool (l.any (badTo n))) H) := by
  refine fn_spec Tryz.func65 rfl Tryz.ntmps65 rfl (j_seq (j_region (y_ (yl_assign ev_c) (jl_nil (q_then (j_seq (j_region (y_ (yl_move (T rfl)) (y_ (yl_move (T rfl)) (e_ (eff_call (.cons (T rfl) (.cons (T rfl) .nil)) Tryz.call114 (ix114_s l q c n b hb hA hlen)) ?_ rfl) rfl) rfl))))) rfl)))
  rintro _ _ ⟨⟨i, rfl, hi⟩, rfl⟩
  refine y_ (yl_geq (T rfl) ev_c) (y_ (yl_assign (T rfl)) (jl_nil (q_then (j_ret (q_ret rfl (.tmp (at_f rfl) .nil) ?_)))) rfl) rfl
  exact ⟨_, ⟨vbool (by rw [Bool.eq_iff_iff, decide_eq_true_eq]; exact hi), rfl⟩, sbt⟩
theorem c64_s {w0 : World} {H : List (Nat × Obj)} (r : RowI) (hr : Arr w0 H r.q 1 encI r.l) (hrl : r.l.length ≤ 1048576) (m : Mi) (hml : m.names.length ≤ 1048576) (n b1 b : Nat) (h1 : Fnd H b1 (Cl (encMi m) 29)) (hb : Fnd H b (Cl [.int .i64 (n : Int)] 3)) :
    FSpec Tryz.prog w0 64 #[.slice r.q r.l.length r.c, .pointer (some ⟨b1, 0, none⟩), .pointer (some ⟨b, 0, none⟩)] H (Still (.bool (badRow m.names.length n r.l)) H) := by
  refine fn_spec Tryz.func64 rfl Tryz.ntmps64 rfl (j_seq (j_region (y_ (yl_assign ev_c) (jl_nil (q_then (j_seq (j_region (y_ (yl_move (T rfl)) (y_ (yl_len (T rfl) Tryz.runUnderlying42) (y_ (yl_fa0 (T rfl) fa29_0) (y_ (yl_load (T rfl) Tryz.isAgg25 (by first | exact c_o | exact c_o (hf := h1))) ?_ rfl) rfl) rfl) rfl))))) rfl)))
  refine y_ (yl_len (T rfl) Tryz.runUnderlying25) (y_ (yl_add (T rfl) ev_c (by omega)) ?_ rfl) rfl
  refine y_ (yl_neq (T rfl) (T rfl)) (y_ (yl_move (T rfl)) ?_ rfl) rfl
  first | refine jl_if_d (s := 12) (at_f rfl) (fun c12 => ?_) (fun c12 => ?_) | refine jl_if (s := 12) (at_f rfl) (fun c12 => ?_) (fun c12 => ?_)
  · refine n_tf (n_tf (n_tf (y_ (yl_pick_t (T rfl) ev_c) (y_ (yl_assign (T rfl)) (jl_nil (q_then (j_ret (q_ret rfl (.tmp (at_f rfl) .nil) (⟨_, ⟨vbool ?_, rfl⟩, sbt⟩))))) rfl) rfl) rfl rfl rfl rfl) rfl rfl rfl rfl) rfl rfl rfl rfl
    unfold badRow
    first | (rw [decide_eq_true c12]; rfl) | (rw [decide_eq_false c12]; rfl)
  · refine jl_y (yl_move (T rfl)) rfl (gd_y rfl rfl (at_f rfl)) (jl_y (yl_makeFunc (.cons (T rfl) .nil)) rfl (gd_y rfl rfl (at_f rfl)) (jl_y (yl_call (.cons (T rfl) (.cons (T rfl) .nil)) Tryz.call65 (fun H' hs => cf65_s r.l r.q r.c n b (hb.mono (List.Sublist.trans sbt hs)) (hr.mono (List.Sublist.trans sbt hs)) hrl)) rfl (gd_y rfl rfl (at_f rfl)) (y_ (yl_pick_f (T rfl) (T rfl)) (y_ (yl_assign (T rfl)) (jl_nil (q_then (j_ret (q_ret rfl (.tmp (at_f rfl) .nil) (⟨_, ⟨vbool ?_, rfl⟩, sbt⟩))))) rfl) rfl)))
    unfold badRow
    first | (rw [decide_eq_true c12]; rfl) | (rw [decide_eq_false c12]; rfl)
theorem ix113_s {w0 : World} {H : List (Nat × Obj)} (m : Mi) (hm : MiOk w0 H m) (n b1 b : Nat) (h1 : Fnd H b1 (Cl (encMi m) 29)) (hb : Fnd H b (Cl [.int .i64 (n : Int)] 3)) :
    FSpec Tryz.prog w0 113 #[.slice m.q2 m.rows.length m.c2, .func (.func 64) #[] #[.pointer (some ⟨b1, 0, none⟩), .pointer (some ⟨b, 0, none⟩)]] H ((fun v H' => (∃ i : Int, v = .int .i64 i ∧ (0 ≤ i ↔ m.rows.any (fun r : RowI => badRow m.names.length n r.l) = true)) ∧ H' = H)) := by
  refine fn_spec Tryz.func113 rfl Tryz.ntmps113 rfl ?_
  have hl2 := hm.l2
  refine j_seq (j_region (y_ (yl_assign ev_c) (jl_nil (q_then (j_seq (j_seq (j_region (y_ (yl_move (T rfl)) (y_ (yl_len (T rfl) Tryz.runUnderlying26) (y_ (yl_move ev_c) (jl_nil (q_then (j_block ?_))) rfl) rfl) rfl)))))) rfl))
  refine j_loopH (X := Nat) (V := fun i => [(8, .int .i64 (i : Nat))]) (C := [(0, _), (1, _), (7, _)]) (φ := fun i => i ≤ m.rows.length ∧ ∀ j, j < i → (fun r : RowI => badRow m.names.length n r.l) (gd m.rows j) = false) (μ := fun i => m.rows.length - i) (x0 := 0) ?_ ⟨at_f rfl, at_f rfl, at_f rfl, trivial⟩ ⟨(by first | exact at_f rfl | (refine at_e (at_f rfl) (vint ?_); omega) | (refine at_e (at_f rfl) ?_; simp; done)), trivial⟩ ?_
  · exact ⟨Nat.zero_le _, fun j hj => absurd hj (Nat.not_lt_zero _)⟩
  rintro i ⟨hi, hno⟩
  refine j_seq (j_region (y_ (yl_lss (T rfl) (T rfl)) (jl_nil (q_then (j_seq ?_))) rfl))
  first | refine j_cond_d (at_f rfl) (fun c9 => ?_) (fun c9 => ?_) | refine j_cond (at_f rfl) (fun c9 => ?_) (fun c9 => ?_)
  · refine j_skip (q_then (j_seq (j_block (j_seq (j_region (y_ (yl_move (T rfl)) (y_ (yl_assign (T rfl)) (jl_nil (q_then (j_seq (j_region (y_ (yl_move (T rfl)) (y_ (yl_move (T rfl)) (y_ (yl_move (T rfl)) (y_ (yl_ixQ (T rfl) (T rfl) Tryz.runUnderlying26 Tryz.sizeOf42 (by omega) (by first | exact rfl | exact hm.a2.b (i := i) (by omega))) ?_ rfl) rfl) rfl) rfl))))) rfl) rfl))))))
    refine y_ (yl_load (T rfl) Tryz.isAgg42 (by first | exact c_o | exact cell1 ((hm.a2.mono sbt).cs (i := i) (by omega)))) ?_ rfl
    refine y_ (yl_callV (T rfl) (.cons (T rfl) .nil) Tryz.call64 (fun H' hs => c64_s (gd m.rows i) ((hm.r _ (gd_mem (by omega))).mono (List.Sublist.trans sbt hs)) (hm.l3 _ (gd_mem (by omega))) m hm.l1 n b1 b (h1.mono (List.Sublist.trans sbt hs)) (hb.mono (List.Sublist.trans sbt hs)))) ?_ rfl
    refine jl_nil (q_then ?_)
    first | refine j_cond_d (at_f rfl) (fun c16 => ?_) (fun c16 => ?_) | refine j_cond (at_f rfl) (fun c16 => ?_) (fun c16 => ?_)
    · refine j_seq (j_region (y_ (yl_move (T rfl)) (y_ (yl_assign (T rfl)) (jl_nil (q_then (j_ret (q_block_ret (q_then_ret (q_loop_ret (q_block_ret (q_then_ret (q_ret rfl (.tmp (at_f rfl) .nil) ?_))))))))) rfl) rfl))
      exact ⟨_, ⟨⟨_, rfl, fun _ => any_of (by omega) c16, fun _ => by omega⟩, rfl⟩, sbt⟩
    · refine j_skip (q_block (q_then (j_region (y_ (yl_add (T rfl) ev_c (by omega)) ?_ rfl))))
      refine y_ (yl_move (T rfl)) (jl_nil ?_) rfl
      refine q_loopC (i + 1) ?_ ?_ ⟨(by first | exact at_f rfl | (refine at_e (at_f rfl) (vint ?_); omega) | (refine at_e (at_f rfl) ?_; simp; done)), trivial⟩ ⟨at_f rfl, at_f rfl, at_f rfl, trivial⟩ ?_
      · refine ⟨by omega, fun j hj => ?_⟩
        by_cases e : j = i
        · subst e; exact c16
        · exact hno j (by omega)
      · first | omega | (simp only []; omega)
      · exact sbt
  · refine j_exit (q_then_exit (q_loop_exit (q_block_hit (q_then (j_seq (j_region (y_ (yl_assign ev_c) (jl_nil (q_then (j_ret (q_ret rfl (.tmp (at_f rfl) .nil) (⟨_, ⟨⟨-1, rfl, fun h => absurd h (by decide), fun h => ?_⟩, rfl⟩, sbt⟩))))) rfl)))))))
    rw [any_no fun j hj => hno j (by omega)] at h; cases h
theorem cf63_s {w0 : World} {H : List (Nat × Obj)} (m : Mi) (hm : MiOk w0 H m) (n b1 b : Nat) (h1 : Fnd H b1 (Cl (encMi m) 29)) (hb : Fnd H b (Cl [.int .i64 (n : Int)] 3)) :
    FSpec Tryz.prog w0 63 #[.slice m.q2 m.rows.length m.c2, .func (.func 64) #[] #[.pointer (some ⟨b1, 0, none⟩), .pointer (some ⟨b, 0, none⟩)]] H (Still (.bool (m.rows.any (fun r : RowI => badRow m.names.length n r.l))) H) := by
  refine fn_spec Tryz.func63 rfl Tryz.ntmps63 rfl (j_seq (j_region (y_ (yl_assign ev_c) (jl_nil (q_then (j_seq (j_region (y_ (yl_move (T rfl)) (y_ (yl_move (T rfl)) (e_ (eff_call (.cons (T rfl) (.cons (T rfl) .nil)) Tryz.call113 (ix113_s m hm n b1 b h1 hb)) ?_ rfl) rfl) rfl))))) rfl)))
  rintro _ _ ⟨⟨i, rfl, hi⟩, rfl⟩
  refine y_ (yl_geq (T rfl) ev_c) (y_ (yl_assign (T rfl)) (jl_nil (q_then (j_ret (q_ret rfl (.tmp (at_f rfl) .nil) ?_)))) rfl) rfl
  exact ⟨_, ⟨vbool (by rw [Bool.eq_iff_iff, decide_eq_true_eq]; exact hi), rfl⟩, sbt⟩
theorem srtS_s {w0 : World} {H : List (Nat × Obj)} (names : List ByteArray) (q : Option Addr) (c : Nat) (hA : Arr w0 H q 1 encS names) (hlen : names.length ≤ 1048576) :
    FSpec Tryz.prog w0 60 #[.slice q names.length c] H (Still (.bool (isSrt names)) H) := by
  refine fn_spec Tryz.func60 rfl Tryz.ntmps60 rfl (j_seq (j_region (y_ (yl_assign ev_c) (jl_nil (q_then (j_seq (j_seq (j_region (y_ (yl_move (T rfl)) (y_ (yl_len (T rfl) Tryz.runUnderlying25) (y_ (yl_sub (T rfl) ev_c (by omega)) ?_ rfl) rfl) rfl)))))) rfl)))
  refine y_ (yl_assign (T rfl)) (jl_nil (q_then (j_block ?_))) rfl
  refine j_loopH (X := Int) (V := fun i => [(3, .int .i64 i)]) (C := [(0, _)]) (φ := fun i => -1 ≤ i ∧ i ≤ (names.length : Int) - 1 ∧ ∀ j : Nat, i < j → j < names.length → 0 < j → ¬ toL (gd names j) < toL (gd names (j - 1))) (μ := fun i => (i + 1).toNat) (x0 := (names.length : Int) - 1) ?_ ⟨at_f rfl, trivial⟩ ⟨(by first | exact at_f rfl | (refine at_e (at_f rfl) (vint ?_); omega) | (refine at_e (at_f rfl) ?_; simp; done)), trivial⟩ ?_
  · exact ⟨by omega, Int.le_refl _, fun j h1 h2 => by omega⟩
  rintro i ⟨hlo, hhi, hgo⟩
  refine j_seq (j_seq (j_region (y_ (yl_move (T rfl)) (y_ (yl_gtr (T rfl) ev_c) (jl_nil (q_then ?_)) rfl) rfl)))
  first | refine j_cond_d (at_f rfl) (fun c8 => ?_) (fun c8 => ?_) | refine j_cond (at_f rfl) (fun c8 => ?_) (fun c8 => ?_)
  · have hi1 : (i - 1).toNat = i.toNat - 1 := by omega
    refine j_skip (q_then (j_seq (j_block (j_seq (j_any 10 [(0, true), (1, true), (2, true), (3, true), (4, true), (5, true), (6, true), (7, true), (8, true), (9, true)] _ mixd (by kernel_rfl) sb0 ?_)))))
    refine o_y rfl (yl_move (T rfl)) (o_y rfl (yl_move (T rfl)) (o_y rfl (yl_ixR (T rfl) (T rfl) Tryz.runUnderlying25 Tryz.sizeOf9 (by omega) (by first | exact rfl | exact hA.b (i := i.toNat) (by omega) | exact hA.b (i := (i - 1).toNat) (by omega))) ?_ rfl gd_n) rfl gd_n) rfl gd_n
    refine o_y rfl (yl_load (T rfl) Tryz.isAgg9 (by first | exact c_o | exact cell1 ((hA.mono sbt).cs (i := i.toNat) (by omega)))) ?_ rfl gd_n
    refine o_y rfl (yl_move (T rfl)) (o_y rfl (yl_move (T rfl)) (o_y rfl (yl_sub (T rfl) ev_c (by omega)) ?_ rfl gd_n) rfl gd_n) rfl gd_n
    refine o_y rfl (yl_ixR (T rfl) (T rfl) Tryz.runUnderlying25 Tryz.sizeOf9 (by omega) (by first | exact rfl | exact hA.b (i := i.toNat) (by omega) | exact hA.b (i := (i - 1).toNat) (by omega))) ?_ rfl gd_n
    refine o_y rfl (yl_load (T rfl) Tryz.isAgg9 (by first | exact c_o | exact cell1 ((hA.mono sbt).cs (i := (i - 1).toNat) (by omega)))) ?_ rfl gd_n
    refine o_y rfl (yl_call (.cons (T rfl) (.cons (T rfl) .nil)) Tryz.call112 (fun H' hs => less_s _ _)) (jo_nil rfl (jl_nil (q_then ?_))) rfl gd_n
    first | refine j_cond_d (at_f rfl) (fun c20 => ?_) (fun c20 => ?_) | refine j_cond (at_f rfl) (fun c20 => ?_) (fun c20 => ?_)
    · refine j_seq (j_region (y_ (yl_assign ev_c) (jl_nil (q_then (j_ret (q_block_ret (q_then_ret (q_loop_ret (q_block_ret (q_then_ret (q_ret rfl (.tmp (at_f rfl) .nil) ?_))))))))) rfl))
      exact ⟨_, ⟨vbool (by symm; exact decide_eq_false fun h => h i.toNat (by omega) (by omega) (by rw [hi1] at c20; exact c20)), rfl⟩, sbt⟩
    · refine j_skip (q_block (q_then (j_region (y_ (yl_move (T rfl)) (y_ (yl_sub (T rfl) ev_c (by omega)) ?_ rfl) rfl))))
      refine y_ (yl_assign (T rfl)) (jl_nil ?_) rfl
      refine q_loopC (i - 1) ?_ ?_ ⟨(by first | exact at_f rfl | (refine at_e (at_f rfl) (vint ?_); omega) | (refine at_e (at_f rfl) ?_; simp; done)), trivial⟩ ⟨at_f rfl, trivial⟩ ?_
      · refine ⟨by omega, by omega, fun j h1 h2 h3 => ?_⟩
        by_cases e : (j : Int) = i
        · have e2 : j = i.toNat := by omega
          subst e2
          rw [hi1] at c20; exact c20
        · exact hgo j (by omega) h2 h3
      · first | omega | (simp only []; omega)
      · exact sbt
  · refine j_exit (q_then_exit (q_loop_exit (q_block_hit (q_then (j_seq (j_region (y_ (yl_assign ev_c) (jl_nil (q_then (j_ret (q_ret rfl (.tmp (at_f rfl) .nil) ?_)))) rfl)))))))
    exact ⟨_, ⟨vbool (by symm; exact decide_eq_true fun j h1 h2 => hgo j (by omega) h1 h2), rfl⟩, sbt⟩
end Go.Proofs.YtkdolgnpkjihpaaGreatDoor
namespace Go.Proofs.YtkdolgnpkjihpaaGreatDoor
open Go.RowKit
set_option linter.unusedVariables false
set_option linter.unusedSimpArgs false
theorem bs25_0_z  (w : World) : (Instr.buildSlice 25 0 #[]).run Tryz.prog w = .ok (.slice (some ⟨w.heap.size, 0, none⟩) 0 0) (w.alloc (Cl [] 9)) := by kernel_rfl
section
variable {P : Program} {r : Option Nat} {N : Nat} {w0 : World} {ops : Array Oper} {t : Nat} {Q : Post} {L : Fm} {ds : List Deferred} {H0 H : List (Nat × Obj)} {d : Option Tmp} {op : Op} {ty : TypeId} {p : String} {af : Array Edge} {g : Option (Nat × Bool)} {i : Nat} {plan : List (Nat × Bool)}
theorem o_nf (hi : ops[i]? = some ⟨d, op, ty, p, af, g⟩) (k : JO P r N w0 H0 ops t plan Q (pt d undef L) ds H) (hN : dOk d N = true) (hg : Nw ops L g N) : JO P r N w0 H0 ops t ((i, false) :: plan) Q L ds H :=
  fun hT hD hS hP hs listed inv hp b a hsz hf hd => by
    simp only [planB, Bool.and_eq_true, Nat.blt_eq, beq_iff_eq] at hp
    obtain ⟨⟨h1, h2⟩, h4⟩ := hp
    have hr : i ∈ Region.ready md ops listed := by rw [h2]; simp
    refine ⟨⟨i, hr, h1⟩, fun j hj _ w hO => ?_⟩
    rw [h2] at hj
    obtain rfl : j = i := by simpa using hj
    unfold wpOpIn
    simp only [hi, nw_wanted hg hsz hf, Bool.false_eq_true, if_false]
    exact ⟨fun f _ => rd_fn r f, H, hs, hO, k hT hD hS hP hs _ (inv.set hr h1) h4 b _ (by rw [size_put]; exact hsz) (fr_pt hN hsz hf) (by rw [defers_put]; exact hd)⟩
end
theorem yl_eqNil {w0 : World} {L : Fm} {H : List (Nat × Obj)} {ty yt : TypeId} {x y : Operand} {q : Option Addr} {n c : Nat} (hx : Ev L x (.slice q n c)) (hy : Ev L y (.slice none 0 0)) : Yl Tryz.prog w0 (.binOp .eql 25 x y yt) ty L H (.bool q.isNone) := yl_pure rfl fun b' w => by
  have e : (Op.equal 25 (.slice q n c) (.slice none 0 0)).run Tryz.prog w = .ok q.isNone w := run_equalIn_slice_nil w 9999 25 9 q n c (by kernel_rfl)
  simp [exO, execOp, hx b', hy b', binOp, eqGuard, Sem.run_bind, Result.andThen, e]
theorem loc_e {n : Nat} {e : TypeId} {X : List (Nat × Obj)} {enc : ByteArray → List Value} : LocL ((n, Cl [] e) :: X) (slH (.blk n 0 []) (([] : List ByteArray).flatMap enc) e) X (fun M' => M' ++ X) := show LocL ([(n, Cl [] e)] ++ X) [(n, Cl [] e)] X _ from .h
theorem clone_s {w0 : World} {H : List (Nat × Obj)} (names : List ByteArray) (q : Option Addr) (c : Nat) (hA : Arr w0 H q 1 encS names) (hlen : names.length ≤ 1048576) :
    FSpec Tryz.prog w0 62 #[.slice q names.length c] H (fun v H' => ∃ d, (v = slV d names.length ∧ SlOk d names.length 1) ∧ H' = slH d (names.flatMap encS) 9 ++ H) := by
  refine fn_spec Tryz.func62 rfl Tryz.ntmps62 rfl (j_seq (j_region (y_ (yl_assign ev_c) (jl_nil (q_then (j_seq (j_seq (j_region (y_ (yl_move (T rfl)) (y_ (yl_eqNil (T rfl) ev_c) (jl_nil (q_then ?_)) rfl) rfl)))))) rfl)))
  first | refine j_cond_d (at_f rfl) (fun c4 => ?_) (fun c4 => ?_) | refine j_cond (at_f rfl) (fun c4 => ?_) (fun c4 => ?_)
  · have hnil : names = [] := by
      cases names with
      | nil => rfl
      | cons x l => have := (hA 0 x rfl).1; rw [this] at c4; cases c4
    refine j_seq (j_region (y_ (yl_assign ev_c) (jl_nil (q_then (j_ret (q_then_ret (q_ret rfl (.tmp (at_f rfl) .nil) ?_))))) rfl))
    rw [hnil]; exact ⟨_, ⟨.nil, ⟨rfl, rfl⟩, rfl⟩, sbt⟩
  · refine j_skip (q_then (j_seq (j_region (e_ (eff_bslice .nil (bs25_0_z)) ?_ rfl))))
    rintro _ _ ⟨n5, rfl, rfl⟩
    refine y_ (yl_move (T rfl)) (e_ (eff_appN_at (d := .blk n5 0 []) (l := []) (names) (by' := 16) loc_e (T rfl) (T rfl) Tryz.runUnderlying25 Tryz.runUnderlying25 Tryz.sizeOf9 Tryz.typeInfo9 rfl Tryz.zeroValue9 rfl (fun _ => rfl) (fun _ => rfl) ⟨Nat.le_refl _, rfl⟩ (by decide) (by simp only [List.length_nil]; omega) (hA.mono sbt)) ?_ rfl) rfl
    rintro _ _ ⟨d', rfl, hokd, rfl⟩
    refine y_ (yl_assign (T rfl)) (jl_nil (q_then (j_ret (q_ret rfl (.tmp (at_f rfl) .nil) ?_)))) rfl
    rw [List.length_nil, Nat.zero_add] at hokd
    exact ⟨_, ⟨d', ⟨by rw [List.length_nil, Nat.zero_add]; rfl, hokd⟩, rfl⟩, sbt⟩
theorem MiOk.mono {w0 : World} {H H' : List (Nat × Obj)} {m : Mi} (h : MiOk w0 H m) (hs : H.Sublist H' := by exact sbt) : MiOk w0 H' m := ⟨h.a1.mono hs, h.a2.mono hs, h.a3.mono hs, fun r hr => (h.r r hr).mono hs, h.l1, h.l2, h.l3⟩
theorem pcheck_s {w0 : World} {H : List (Nat × Obj)} (m : Mi) (hm : MiOk w0 H m) :
    FSpec Tryz.prog w0 18 #[.agg (encMi m).toArray] H (Still (.bool (chkI m)) H) := by
  refine fn_spec Tryz.func18 rfl Tryz.ntmps18 rfl ?_
  have hl1 := hm.l1
  have hl2 := hm.l2
  have hcl := cptB_len m.names
  refine j_seq (j_region (e_ (eff_box (T rfl) cs_) ?_ rfl))
  rintro _ _ ⟨n1, rfl, rfl⟩
  refine y_ (yl_assign ev_c) (jl_nil (q_then (j_seq (j_region (y_ (yl_fa (T rfl) fa29_1) (y_ (yl_load (T rfl) Tryz.isAgg26 (by first | exact c_o)) ?_ rfl) rfl))))) rfl
  refine y_ (yl_len (T rfl) Tryz.runUnderlying26) (e_ (eff_alloc Tryz.zeroValue3 cs_) ?_ rfl) rfl
  rintro _ _ ⟨n3, rfl, rfl⟩
  first | refine jl_e (eff_sW (T rfl) (T rfl) Tryz.sizeOf3) rfl gd_n ?_ | refine jl_e (eff_s1 (T rfl) (T rfl) rfl Tryz.sizeOf3) rfl gd_n ?_ | refine jl_e (eff_s1r (T rfl) (T rfl) rfl Tryz.sizeOf3) rfl gd_n ?_
  rintro _ _ ⟨rfl, rfl⟩
  refine jl_nil (q_then (j_seq (j_seq (j_any 30 [(0, true), (1, true), (2, true), (3, true), (4, true), (5, true), (6, true), (7, true), (8, true), (9, true), (10, true), (11, true), (12, true), (13, true), (14, true), (15, true), (16, true), (17, true), (18, true), (19, true), (20, true), (21, true), (25, true), (26, true), (27, true), (22, false), (23, false), (24, true), (28, true), (29, true)] _ mixd (by kernel_rfl) sb0 ?_))))
  refine o_y rfl (yl_load (T rfl) Tryz.isAgg3 (by first | exact c_o)) ?_ rfl gd_n
  refine o_y rfl (yl_eql (T rfl) ev_c) (o_y rfl (yl_move (T rfl)) ?_ rfl gd_n) rfl gd_n
  first | refine o_if_d (s := 9) (at_f rfl) (fun c9 => ?_) (fun c9 => ?_) | refine o_if (s := 9) (at_f rfl) (fun c9 => ?_) (fun c9 => ?_)
  · have hf : chkI m = false := by unfold chkI; rw [decide_eq_true (show m.rows.length = 0 by omega)]; rfl
    refine o_n rfl (o_n rfl (o_y rfl (yl_pick_t (T rfl) ev_c) (o_y rfl (yl_move (T rfl)) (o_n rfl (o_n rfl (o_n rfl (o_n rfl (o_n rfl (o_y rfl (yl_pick_t (T rfl) ev_c) (o_y rfl (yl_move (T rfl)) (o_n rfl (o_n rfl (o_n rfl (o_n rfl (o_y rfl (yl_pick_t (T rfl) ev_c) (o_y rfl (yl_move (T rfl)) (o_n rfl (o_n rfl (o_n rfl (o_n rfl (o_n rfl (o_nf rfl (o_nf rfl (o_n rfl (o_n rfl (o_y rfl (yl_pick_t (T rfl) ev_c) (jo_nil rfl (jl_nil (q_then (j_keep [(1, _), (3, _), (36, _)] ⟨at_f rfl, at_f rfl, at_f rfl, trivial⟩ ?_)))) rfl gd_n) rfl (nw_tf rfl rfl (at_f rfl))) rfl (nw_tf rfl rfl (at_f rfl))) rfl (nw_tf rfl rfl (at_f rfl))) rfl (nw_tf rfl rfl (at_f rfl))) rfl (nw_tf rfl rfl (at_f rfl))) rfl (nw_tf rfl rfl (at_f rfl))) rfl (nw_tf rfl rfl (at_f rfl))) rfl (nw_tf rfl rfl (at_f rfl))) rfl (nw_tf rfl rfl (at_f rfl))) rfl gd_n) rfl gd_n) rfl (nw_tf rfl rfl (at_f rfl))) rfl (nw_tf rfl rfl (at_f rfl))) rfl (nw_tf rfl rfl (at_f rfl))) rfl (nw_tf rfl rfl (at_f rfl))) rfl gd_n) rfl gd_n) rfl (nw_tf rfl rfl (at_f rfl))) rfl (nw_tf rfl rfl (at_f rfl))) rfl (nw_tf rfl rfl (at_f rfl))) rfl (nw_tf rfl rfl (at_f rfl))) rfl (nw_tf rfl rfl (at_f rfl))) rfl gd_n) rfl gd_n) rfl (nw_tf rfl rfl (at_f rfl))) rfl (nw_tf rfl rfl (at_f rfl))
    first | refine j_cond_t (at_f rfl) ?_ | refine j_cond_t (at_e (at_f rfl) (vbool (decide_eq_true c36))) ?_
    refine j_seq (j_region (y_ (yl_assign ev_c) (jl_nil (q_then (j_ret (q_then_ret (q_ret rfl (.tmp (at_f rfl) .nil) ?_))))) rfl))
    exact ⟨_, ⟨vbool (by rw [hf]), rfl⟩, sbt⟩
  · have e1 : decide (m.rows.length = 0) = false := decide_eq_false (by omega)
    refine o_y rfl (yl_load (T rfl) Tryz.isAgg3 (by first | exact c_o)) ?_ rfl (gd_y rfl rfl (at_f rfl))
    refine o_y rfl (yl_gtr (T rfl) ev_c) (o_y rfl (yl_pick_f (T rfl) (T rfl)) (o_y rfl (yl_move (T rfl)) ?_ rfl gd_n) rfl gd_n) rfl (gd_y rfl rfl (at_f rfl))
    first | refine o_if_d (s := 13) (at_f rfl) (fun c13 => ?_) (fun c13 => ?_) | refine o_if (s := 13) (at_f rfl) (fun c13 => ?_) (fun c13 => ?_)
    · have hf : chkI m = false := by unfold chkI; rw [e1, decide_eq_true (show 200 < m.rows.length by omega)]; rfl
      refine o_n rfl (o_n rfl (o_n rfl (o_n rfl (o_n rfl (o_y rfl (yl_pick_t (T rfl) ev_c) (o_y rfl (yl_move (T rfl)) (o_n rfl (o_n rfl (o_n rfl (o_n rfl (o_y rfl (yl_pick_t (T rfl) ev_c) (o_y rfl (yl_move (T rfl)) (o_n rfl (o_n rfl (o_n rfl (o_n rfl (o_n rfl (o_nf rfl (o_nf rfl (o_n rfl (o_n rfl (o_y rfl (yl_pick_t (T rfl) ev_c) (jo_nil rfl (jl_nil (q_then (j_keep [(1, _), (3, _), (36, _)] ⟨at_f rfl, at_f rfl, at_f rfl, trivial⟩ ?_)))) rfl gd_n) rfl (nw_tf rfl rfl (at_f rfl))) rfl (nw_tf rfl rfl (at_f rfl))) rfl (nw_tf rfl rfl (at_f rfl))) rfl (nw_tf rfl rfl (at_f rfl))) rfl (nw_tf rfl rfl (at_f rfl))) rfl (nw_tf rfl rfl (at_f rfl))) rfl (nw_tf rfl rfl (at_f rfl))) rfl (nw_tf rfl rfl (at_f rfl))) rfl (nw_tf rfl rfl (at_f rfl))) rfl gd_n) rfl gd_n) rfl (nw_tf rfl rfl (at_f rfl))) rfl (nw_tf rfl rfl (at_f rfl))) rfl (nw_tf rfl rfl (at_f rfl))) rfl (nw_tf rfl rfl (at_f rfl))) rfl gd_n) rfl gd_n) rfl (nw_tf rfl rfl (at_f rfl))) rfl (nw_tf rfl rfl (at_f rfl))) rfl (nw_tf rfl rfl (at_f rfl))) rfl (nw_tf rfl rfl (at_f rfl))) rfl (nw_tf rfl rfl (at_f rfl))
      first | refine j_cond_t (at_f rfl) ?_ | refine j_cond_t (at_e (at_f rfl) (vbool (decide_eq_true c36))) ?_
      refine j_seq (j_region (y_ (yl_assign ev_c) (jl_nil (q_then (j_ret (q_then_ret (q_ret rfl (.tmp (at_f rfl) .nil) ?_))))) rfl))
      exact ⟨_, ⟨vbool (by rw [hf]), rfl⟩, sbt⟩
    · have e2 : decide (200 < m.rows.length) = false := decide_eq_false (by omega)
      refine o_y rfl (yl_fa (T rfl) fa29_2) (o_y rfl (yl_load (T rfl) Tryz.isAgg27 (by first | exact c_o)) ?_ rfl (gd_y rfl rfl (at_f rfl))) rfl (gd_y rfl rfl (at_f rfl))
      refine o_y rfl (yl_len (T rfl) Tryz.runUnderlying27) (o_y rfl (yl_load (T rfl) Tryz.isAgg3 (by first | exact c_o)) ?_ rfl (gd_y rfl rfl (at_f rfl))) rfl (gd_y rfl rfl (at_f rfl))
      refine o_y rfl (yl_neq (T rfl) (T rfl)) (o_y rfl (yl_pick_f (T rfl) (T rfl)) (o_y rfl (yl_move (T rfl)) ?_ rfl gd_n) rfl gd_n) rfl (gd_y rfl rfl (at_f rfl))
      first | refine o_if_d (s := 20) (at_f rfl) (fun c20 => ?_) (fun c20 => ?_) | refine o_if (s := 20) (at_f rfl) (fun c20 => ?_) (fun c20 => ?_)
      · have hf : chkI m = false := by unfold chkI; rw [e1, e2, decide_eq_true (show ¬ m.acc.length = m.rows.length by omega)]; rfl
        refine o_n rfl (o_n rfl (o_n rfl (o_n rfl (o_y rfl (yl_pick_t (T rfl) ev_c) (o_y rfl (yl_move (T rfl)) (o_n rfl (o_n rfl (o_n rfl (o_n rfl (o_n rfl (o_nf rfl (o_nf rfl (o_n rfl (o_n rfl (o_y rfl (yl_pick_t (T rfl) ev_c) (jo_nil rfl (jl_nil (q_then (j_keep [(1, _), (3, _), (36, _)] ⟨at_f rfl, at_f rfl, at_f rfl, trivial⟩ ?_)))) rfl gd_n) rfl (nw_tf rfl rfl (at_f rfl))) rfl (nw_tf rfl rfl (at_f rfl))) rfl (nw_tf rfl rfl (at_f rfl))) rfl (nw_tf rfl rfl (at_f rfl))) rfl (nw_tf rfl rfl (at_f rfl))) rfl (nw_tf rfl rfl (at_f rfl))) rfl (nw_tf rfl rfl (at_f rfl))) rfl (nw_tf rfl rfl (at_f rfl))) rfl (nw_tf rfl rfl (at_f rfl))) rfl gd_n) rfl gd_n) rfl (nw_tf rfl rfl (at_f rfl))) rfl (nw_tf rfl rfl (at_f rfl))) rfl (nw_tf rfl rfl (at_f rfl))) rfl (nw_tf rfl rfl (at_f rfl))
        first | refine j_cond_t (at_f rfl) ?_ | refine j_cond_t (at_e (at_f rfl) (vbool (decide_eq_true c36))) ?_
        refine j_seq (j_region (y_ (yl_assign ev_c) (jl_nil (q_then (j_ret (q_then_ret (q_ret rfl (.tmp (at_f rfl) .nil) ?_))))) rfl))
        exact ⟨_, ⟨vbool (by rw [hf]), rfl⟩, sbt⟩
      · have e3 : decide (¬ m.acc.length = m.rows.length) = false := decide_eq_false (by omega)
        refine o_y rfl (yl_fa0 (T rfl) fa29_0) (o_y rfl (yl_load (T rfl) Tryz.isAgg25 (by first | exact c_o)) ?_ rfl (gd_y rfl rfl (at_f rfl))) rfl (gd_y rfl rfl (at_f rfl))
        refine o_y rfl (yl_call (.cons (T rfl) .nil) Tryz.call60 (fun H' hs => srtS_s m.names m.q1 m.c1 (hm.a1.mono (List.Sublist.trans sbt hs)) hl1)) ?_ rfl (gd_y rfl rfl (at_f rfl))
        first | refine o_y rfl (yl_not_d (T rfl)) ?_ rfl (gd_y rfl rfl (at_f rfl)) | refine o_y rfl (yl_not (T rfl)) ?_ rfl (gd_y rfl rfl (at_f rfl))
        refine o_y rfl (yl_pick_f (T rfl) (T rfl)) (o_y rfl (yl_move (T rfl)) ?_ rfl gd_n) rfl gd_n
        first | refine o_if_d (s := 26) (at_f rfl) (fun c26 => ?_) (fun c26 => ?_) | refine o_if (s := 26) (at_f rfl) (fun c26 => ?_) (fun c26 => ?_)
        · have hf : chkI m = false := by unfold chkI; rw [e1, e2, e3, show isSrt m.names = false from decide_eq_false c26]; rfl
          refine o_n rfl (o_n rfl (o_n rfl (o_n rfl (o_n rfl (o_nf rfl (o_nf rfl (o_n rfl (o_n rfl (o_y rfl (yl_pick_t (T rfl) ev_c) (jo_nil rfl (jl_nil (q_then (j_keep [(1, _), (3, _), (36, _)] ⟨at_f rfl, at_f rfl, at_f rfl, trivial⟩ ?_)))) rfl gd_n) rfl (nw_tf rfl rfl (at_f rfl))) rfl (nw_tf rfl rfl (at_f rfl))) rfl (nw_tf rfl rfl (at_f rfl))) rfl (nw_tf rfl rfl (at_f rfl))) rfl (nw_tf rfl rfl (at_f rfl))) rfl (nw_tf rfl rfl (at_f rfl))) rfl (nw_tf rfl rfl (at_f rfl))) rfl (nw_tf rfl rfl (at_f rfl))) rfl (nw_tf rfl rfl (at_f rfl))
          first | refine j_cond_t (at_f rfl) ?_ | refine j_cond_t (at_e (at_f rfl) (vbool (decide_eq_true c36))) ?_
          refine j_seq (j_region (y_ (yl_assign ev_c) (jl_nil (q_then (j_ret (q_then_ret (q_ret rfl (.tmp (at_f rfl) .nil) ?_))))) rfl))
          exact ⟨_, ⟨vbool (by rw [hf]), rfl⟩, sbt⟩
        · have e4 : isSrt m.names = true := decide_eq_true (Decidable.not_not.1 c26)
          refine o_y rfl (yl_fa0 (T rfl) fa29_0) (o_y rfl (yl_load (T rfl) Tryz.isAgg25 (by first | exact c_o)) ?_ rfl (gd_y rfl rfl (at_f rfl))) rfl (gd_y rfl rfl (at_f rfl))
          refine o_y rfl (yl_fa0 (T rfl) fa29_0) (o_y rfl (yl_load (T rfl) Tryz.isAgg25 (by first | exact c_o)) ?_ rfl (gd_y rfl rfl (at_f rfl))) rfl (gd_y rfl rfl (at_f rfl))
          refine o_y rfl (yl_len (T rfl) Tryz.runUnderlying25) (o_e rfl (eff_call (.cons (T rfl) .nil) Tryz.call62 (clone_s m.names m.q1 m.c1 (hm.a1.mono sbt) hl1)) ?_ rfl (gd_y rfl rfl (at_f rfl))) rfl (gd_y rfl rfl (at_f rfl))
          rintro _ _ ⟨d, ⟨rfl, hd⟩, rfl⟩
          refine ⟨sbt, (o_e rfl (eff_call (.cons (T rfl) .nil) Tryz.call61 ((compactB_s d m.names hd (by omega)).toD)) ?_ rfl (gd_y rfl rfl (at_f rfl)))⟩
          rintro _ _ ⟨d2, ⟨rfl, hd2⟩, rfl⟩
          refine ⟨sbt, (o_y rfl (yl_len (T rfl) Tryz.runUnderlying25) (o_y rfl (yl_neq (T rfl) (T rfl)) (o_y rfl (yl_pick_f (T rfl) (T rfl)) (jo_nil rfl (jl_nil (q_then (j_keep [(1, _), (3, _), (36, _)] ⟨at_f rfl, at_f rfl, at_f rfl, trivial⟩ ?_)))) rfl gd_n) rfl (gd_y rfl rfl (at_f rfl))) rfl (gd_y rfl rfl (at_f rfl)))⟩
          first | refine j_cond_d (at_f rfl) (fun c36 => ?_) (fun c36 => ?_) | refine j_cond (at_f rfl) (fun c36 => ?_) (fun c36 => ?_)
          · have hf : chkI m = false := by unfold chkI; rw [e1, e2, e3, e4, decide_eq_true (show ¬ (cptB m.names).length = m.names.length by omega)]; rfl
            refine j_seq (j_region (y_ (yl_assign ev_c) (jl_nil (q_then (j_ret (q_then_ret (q_ret rfl (.tmp (at_f rfl) .nil) ?_))))) rfl))
            exact ⟨_, ⟨vbool (by rw [hf]), rfl⟩, sbt⟩
          · have e5 : decide (¬ (cptB m.names).length = m.names.length) = false := decide_eq_false (by omega)
            have hf : chkI m = !(m.rows.any fun r => badRow m.names.length m.rows.length r.l) := by unfold chkI; rw [e1, e2, e3, e4, e5]; rfl
            refine j_skip (q_then (j_seq (j_region (y_ (yl_fa (T rfl) fa29_1) (y_ (yl_load (T rfl) Tryz.isAgg26 (by first | exact c_o)) ?_ rfl) rfl))))
            refine y_ (yl_makeFunc (.cons (T rfl) (.cons (T rfl) .nil))) ?_ rfl
            refine y_ (yl_call (.cons (T rfl) (.cons (T rfl) .nil)) Tryz.call63 (fun H' hs => cf63_s m (hm.mono (List.Sublist.trans sbt hs)) m.rows.length n1 n3 (Fnd.mono (by repeat (first | exact fnd_h | refine fnd_t ?_ | refine fnd_a ?_)) hs) (Fnd.mono (by repeat (first | exact fnd_h | refine fnd_t ?_ | refine fnd_a ?_)) hs))) ?_ rfl
            first | refine jl_y (yl_not_d (T rfl)) rfl gd_n ?_ | refine jl_y (yl_not (T rfl)) rfl gd_n ?_
            refine y_ (yl_assign (T rfl)) (jl_nil (q_then (j_ret (q_ret rfl (.tmp (at_f rfl) .nil) ?_)))) rfl
            exact ⟨_, ⟨vbool (by rw [hf]), rfl⟩, sbt⟩
end Go.Proofs.YtkdolgnpkjihpaaGreatDoor
namespace Go.Proofs.YtkdolgnpkjihpaaGreatDoor
open Go.RowKit
set_option linter.unusedVariables false
set_option linter.unusedSimpArgs false
def insS (s : ByteArray) : List ByteArray → List ByteArray
  | [] => [s]
  | x :: l => if toL s < toL x then s :: x :: l else if toL s = toL x then x :: l else x :: insS s l
def csC (l : List ByteArray) : List ByteArray := l.foldr insS []
theorem toL_inj {a b : ByteArray} (h : toL a = toL b) : a = b := by
  have : ofL (toL a) = ofL (toL b) := by rw [h]
  exact ByteArray.ext (by simpa using this)
theorem insS_mem {s y : ByteArray} : ∀ {l : List ByteArray}, y ∈ insS s l ↔ y = s ∨ y ∈ l
  | [] => by simp [insS]
  | x :: l => by
    unfold insS
    split
    · simp
    · split
      · rename_i h; have := toL_inj h; subst this; simp
      · simp only [List.mem_cons, insS_mem]
        constructor
        · rintro (h | h | h) <;> simp [h]
        · rintro (h | h | h) <;> simp [h]
theorem insS_srt {s : ByteArray} : ∀ {l : List ByteArray}, Srt l → Srt (insS s l)
  | [], _ => List.pairwise_singleton ..
  | x :: l, h => by
    unfold insS
    have h' := List.pairwise_cons.1 h
    split
    · rename_i hlt
      exact List.pairwise_cons.2 ⟨fun y hy => by
        rcases List.mem_cons.1 hy with rfl | hy
        · exact hlt
        · exact ltU_trans hlt (h'.1 y hy), h⟩
    · split
      · exact h
      · rename_i h1 h2
        refine List.pairwise_cons.2 ⟨fun y hy => ?_, insS_srt h'.2⟩
        rcases insS_mem.1 hy with rfl | hy
        · rcases leU_total (toL x) (toL y) with h3 | h3
          · exact (leU_or h3).resolve_right fun e => h2 e.symm
          · exact absurd ((leU_or h3).resolve_right h2) h1
        · exact h'.1 y hy
theorem csC_mem {y : ByteArray} : ∀ {l : List ByteArray}, y ∈ csC l ↔ y ∈ l
  | [] => by simp [csC]
  | x :: l => by rw [show csC (x :: l) = insS x (csC l) from rfl, insS_mem, csC_mem]; simp
theorem csC_srt : ∀ {l : List ByteArray}, Srt (csC l)
  | [] => .nil
  | x :: l => insS_srt csC_srt
theorem ltU_ne {a b : List UInt8} (h : a < b) : ¬ b < a := fun h2 => absurd (ltU_trans h h2) (List.lt_irrefl a)
theorem srt_ext : ∀ {l l' : List ByteArray}, Srt l → Srt l' → (∀ x, x ∈ l ↔ x ∈ l') → l = l'
  | [], [], _, _, _ => rfl
  | [], y :: l', _, _, h => absurd ((h y).2 (by simp)) (by simp)
  | x :: l, [], _, _, h => absurd ((h x).1 (by simp)) (by simp)
  | x :: l, y :: l', h1, h2, h => by
    have p1 := List.pairwise_cons.1 h1
    have p2 := List.pairwise_cons.1 h2
    have e : x = y := by
      rcases List.mem_cons.1 ((h x).1 (by simp)) with e | e
      · exact e
      · rcases List.mem_cons.1 ((h y).2 (by simp)) with e2 | e2
        · exact e2.symm
        · exact absurd (p1.1 y e2) (ltU_ne (p2.1 x e))
    subst e
    rw [srt_ext p1.2 p2.2 fun z => ?_]
    constructor
    · intro hz
      rcases List.mem_cons.1 ((h z).1 (List.mem_cons_of_mem _ hz)) with e | e
      · subst e; exact absurd (p1.1 z hz) (List.lt_irrefl _)
      · exact e
    · intro hz
      rcases List.mem_cons.1 ((h z).2 (List.mem_cons_of_mem _ hz)) with e | e
      · subst e; exact absurd (p2.1 z hz) (List.lt_irrefl _)
      · exact e
theorem letF_eq (e : Re) : letF e = csC e.nms := srt_ext (letF_srt e) csC_srt fun x => by rw [letF_mem, csC_mem]
def rawC (e : Re) : Option (List (List Nat) × List Bool) := rawGo (addF e t00).1 (addF e t00).2 (csC e.nms) 201 0 [s00] [] []
theorem rawF_eq (e : Re) : rawF e = rawC e := by unfold rawF rawC; rw [letF_eq]
def buildC (e : Re) : PM × Int := match rawC e with
  | none => (⟨[], [], []⟩, 2)
  | some r => (⟨csC e.nms, (leastF ⟨csC e.nms, r.1, r.2⟩).next, (leastF ⟨csC e.nms, r.1, r.2⟩).acc⟩, 0)
theorem buildF_eq (e : Re) : buildF leastF e = buildC e := by unfold buildF buildC; rw [rawF_eq, letF_eq]; cases rawC e <;> rfl
def allC (a b : Re) : List ByteArray := csC (Re.alt a b).nms ++ [otherF (csC (Re.alt a b).nms)]
def eqC (a b : Re) : List ByteArray × Bool × List Pl := srF (stepsF (buildC a).1 (buildC b).1 (allC a b)) (difF (buildC a).1 (buildC b).1) ((buildC a).1.next.length * (buildC b).1.next.length) (0, 0)
def equalC (a b : Re) : List ByteArray × Bool × Int := if (buildC a).2 = 0 ∧ (buildC b).2 = 0 then ((eqC a b).1, !(eqC a b).2.1, 0) else ([], false, 2)
theorem equalF_eq (a b : Re) : equalF a b = equalC a b := by unfold equalF equalC eqR eqC allF allC; rw [buildF_eq, buildF_eq, letF_eq]
def sa : ByteArray := ⟨#[97]⟩
def sb' : ByteArray := ⟨#[98]⟩
def sc : ByteArray := ⟨#[99]⟩
def sd : ByteArray := ⟨#[100]⟩
def soth : ByteArray := ⟨#[111, 116, 104, 101, 114]⟩
def sany : Re := .star .any
def sX : Re := .seq (.seq (.seq (.nod sa) sany) (.nod sc)) sany
def sM : PM := ⟨[sa, sc], [[1, 2, 2], [1, 3, 1], [2, 2, 2], [3, 3, 3]], [false, false, false, true]⟩
theorem sX_build : buildF leastF sX = (sM, 0) := by rw [buildF_eq]; kernel_rfl
theorem sA_build : (buildF leastF sany) = (⟨[], [[0]], [true]⟩, 0) := by rw [buildF_eq]; kernel_rfl
theorem sE1 : equalF (.star (.alt (.nod sa) (.nod sb'))) (.star (.seq (.star (.nod sa)) (.star (.nod sb')))) = ([], true, 0) := by rw [equalF_eq]; kernel_rfl
theorem sE2 : equalF (.seq (.nod sa) .any) (.seq .any (.nod sa)) = ([sa, soth], false, 0) := by rw [equalF_eq]; kernel_rfl
theorem sM1 : matchF sX [sa, sc] = true := by kernel_rfl
theorem sM2 : matchF sX [sa, sb', sd] = false := by kernel_rfl
theorem sO : otherF [sa, soth] = ⟨#[111, 116, 104, 101, 114, 49]⟩ := by kernel_rfl
theorem sR : runM sM [sa, sc] = 3 := by kernel_rfl
end Go.Proofs.YtkdolgnpkjihpaaGreatDoor
namespace Go.Proofs.YtkdolgnpkjihpaaGreatDoor
open Go.RowKit
set_option linter.unusedVariables false
set_option linter.unusedSimpArgs false
theorem bEq_iff (a b : ByteArray) : (a.toList == b.toList) = decide (a = b) := by
  rw [ByteArray.toList_eq, ByteArray.toList_eq]
  refine Bool.eq_iff_iff.2 ?_
  rw [beq_iff_eq, decide_eq_true_iff]
  exact ⟨fun h => ByteArray.ext (Array.ext' h), fun h => by rw [h]⟩
theorem mtch_eq (t : Tr) (s : ByteArray) (n : Nat) : mtch t s n = (decide (gd t.names n = s) || decide (gd t.names n = ⟨#[]⟩)) := by
  unfold mtch; rw [bEq_iff, bEq_iff]
theorem takL_eq (t : Tr) (names : List ByteArray) (a n : Nat) : takL t names a n = (decide (gd t.names n = ⟨#[]⟩) || (decide (a < names.length) && decide (gd t.names n = gd names a))) := by
  unfold takL; rw [bEq_iff, bEq_iff]
  congr 2
  exact decide_eq_decide.2 (by omega)
theorem stepK_fst (t : Tr) (s : ByteArray) (can n : Nat) : ∀ i, (stepK t s can i).1.testBit n = (decide (n < i) && (can.testBit n && mtch t s n))
  | 0 => by simp [stepK]
  | i + 1 => by
    rw [stepK_succ]
    split
    · rename_i h
      rw [Nat.testBit_or, stepK_fst t s can n i, Nat.testBit_two_pow]
      by_cases e : i = n
      · subst e; simp [h]
      · have : (n < i + 1) = (n < i) := by simp; omega
        simp [e, this]
    · rename_i h
      rw [stepK_fst t s can n i]
      by_cases e : i = n
      · subst e; simp at h; simp; intro h1; simp [h h1]
      · have : (n < i + 1) = (n < i) := by simp; omega
        simp [this]
theorem stepL_bit (t : Tr) (names : List ByteArray) (can a n : Nat) : ∀ i, (stepL t names can a i).testBit n = (decide (n < i) && (can.testBit n && takL t names a n))
  | 0 => by simp [stepL]
  | i + 1 => by
    rw [stepL_succ]
    split
    · rename_i h
      rw [Nat.testBit_or, stepL_bit t names can a n i, Nat.testBit_two_pow]
      by_cases e : i = n
      · subst e; simp [h]
      · have : (n < i + 1) = (n < i) := by simp; omega
        simp [e, this]
    · rename_i h
      rw [stepL_bit t names can a n i]
      by_cases e : i = n
      · subst e; simp at h; simp; intro h1; simp [h h1]
      · have : (n < i + 1) = (n < i) := by simp; omega
        simp [this]
theorem stepK_snd (t : Tr) (s : ByteArray) (can x : Nat) : ∀ i, (∀ n, n < i → x.testBit n = (can.testBit n && mtch t s n)) → (stepK t s can i).2 = orK t.fol x i
  | 0, _ => rfl
  | i + 1, h => by
    rw [stepK_succ, orK_succ, h i (by omega), ← stepK_snd t s can x i fun n hn => h n (by omega)]
    split <;> rfl
theorem stepK_snd' (t : Tr) (s : ByteArray) (can : Nat) : (stepK t s can 256).2 = orK t.fol (stepK t s can 256).1 256 :=
  stepK_snd t s can _ 256 fun n hn => by rw [stepK_fst]; simp [hn]
theorem lett_mem {names : List ByteArray} (h : Srt names) {s : ByteArray} (hs : s ∈ names) : lett names s < names.length ∧ gd names (lett names s) = s := by
  obtain ⟨i, hi, rfl⟩ := mem_gdS.1 hs
  have hl : lbF names (gd names i) = i := lbF_eq (by omega) (fun j hj => h.lt hj hi) fun j hj hj2 => by
    rcases Nat.lt_or_ge i j with h1 | h1
    · exact ltU_ne (h.lt h1 hj2)
    · rw [show j = i by omega]; exact List.lt_irrefl _
  unfold lett
  rw [hl, if_pos ⟨hi, rfl⟩]
  exact ⟨hi, rfl⟩
theorem lett_no {names : List ByteArray} {s : ByteArray} (hs : s ∉ names) : lett names s = names.length := by
  unfold lett
  split
  · rename_i h
    exact absurd (toL_inj h.2 ▸ gd_mem h.1) hs
  · rfl
def Re.lvs : Re → List ByteArray
  | .emp => []
  | .nod s => [s]
  | .any => [⟨#[]⟩]
  | .seq a b => a.lvs ++ b.lvs
  | .alt a b => a.lvs ++ b.lvs
  | .star a => a.lvs
theorem add_names : ∀ (e : Re) (t : Tr), (addF e t).1.names = t.names ++ e.lvs
  | .emp, t => by simp [addF, Re.lvs]
  | .nod s, t => by simp [addF, Re.lvs]
  | .any, t => by simp [addF, Re.lvs]
  | .alt a b, t => by simp only [addF, Re.lvs]; rw [add_names b, add_names a, List.append_assoc]
  | .seq a b, t => by simp only [addF, Re.lvs, conn, connK_names]; rw [add_names b, add_names a, List.append_assoc]
  | .star a, t => by simp only [addF, Re.lvs, conn, connK_names]; rw [add_names a]
theorem lvs_mem {x : ByteArray} : ∀ {e : Re}, x ∈ e.lvs → x = ⟨#[]⟩ ∨ x ∈ e.nms
  | .emp, h => by cases h
  | .nod s, h => .inr h
  | .any, h => .inl (by simpa [Re.lvs] using h)
  | .seq a b, h => by
    rcases List.mem_append.1 h with h | h
    · exact (lvs_mem h).imp id fun h => List.mem_append_left _ h
    · exact (lvs_mem h).imp id fun h => List.mem_append_right _ h
  | .alt a b, h => by
    rcases List.mem_append.1 h with h | h
    · exact (lvs_mem h).imp id fun h => List.mem_append_left _ h
    · exact (lvs_mem h).imp id fun h => List.mem_append_right _ h
  | .star a, h => lvs_mem (e := a) h
theorem leaf_name (e : Re) {n : Nat} (h : n < (addF e t00).1.names.length) : gd (addF e t00).1.names n = ⟨#[]⟩ ∨ gd (addF e t00).1.names n ∈ letF e := by
  have h1 := gd_mem h
  rw [add_names] at h1 ⊢
  rw [letF_mem]
  exact lvs_mem (by simpa [t00] using h1)
theorem tak_mtch {t : Tr} {names : List ByteArray} (hs : Srt names) {n : Nat} (hn : gd t.names n = ⟨#[]⟩ ∨ gd t.names n ∈ names) (s : ByteArray) : takL t names (lett names s) n = mtch t s n := by
  rw [takL_eq, mtch_eq, Bool.or_comm]
  by_cases he : gd t.names n = ⟨#[]⟩
  · simp [he]
  · have hm := hn.resolve_left he
    simp only [he, decide_false, Bool.or_false]
    by_cases hq : s ∈ names
    · obtain ⟨h1, h2⟩ := lett_mem hs hq
      simp [h1, h2]
    · rw [lett_no hq]
      have : ¬ gd t.names n = s := fun h => hq (h ▸ hm)
      simp [this]
theorem step_eq {t : Tr} {names : List ByteArray} (hs : Srt names) {can : Nat} (hn : ∀ n, can.testBit n = true → gd t.names n = ⟨#[]⟩ ∨ gd t.names n ∈ names) (s : ByteArray) : (stepK t s can 256).1 = stepL t names can (lett names s) 256 := by
  refine Nat.eq_of_testBit_eq fun n => ?_
  rw [stepK_fst, stepL_bit]
  cases hc : can.testBit n with
  | false => simp
  | true => rw [tak_mtch hs (hn n hc)]
def stF (t : Tr) (e : En) (names : List ByteArray) (s : St) (x : ByteArray) : St := (stepL t names (canAt t e s) (lett names x) 256, true)
theorem stF_run (e : Re) (hl : e.lv ≤ 64) : ∀ (l : List ByteArray) (st : St) (r : Nat × Nat), r.1 = st.1 → r.2 = canAt (addF e t00).1 (addF e t00).2 st → st.1 < 2 ^ (addF e t00).1.names.length →
    (runF (addF e t00).1 r l).1 = (l.foldl (stF (addF e t00).1 (addF e t00).2 (letF e)) st).1
  | [], st, r, h1, h2, h3 => h1
  | x :: l, st, r, h1, h2, h3 => by
    obtain ⟨hok, hlen, hf1, hf2⟩ := add_ok e t00_ok (by simpa [t00] using hl)
    have hlow := add_low e t00_ok (by simpa [t00] using hl) t00_low
    have hf : (addF e t00).2.first < 2 ^ (addF e t00).1.names.length := by rw [hlen]; exact hf1
    have hc : canAt (addF e t00).1 (addF e t00).2 st < 2 ^ (addF e t00).1.names.length := canAt_lt hok hlow hf h3
    have hst := step_eq (t := (addF e t00).1) (letF_srt e) (can := canAt (addF e t00).1 (addF e t00).2 st) (fun n hn => leaf_name e (bit_lt hc hn)) x
    refine stF_run e hl l _ (stepK (addF e t00).1 x r.2 256) ?_ ?_ ?_
    · rw [h2, hst]; rfl
    · rw [stepK_snd', h2, hst]; rfl
    · exact stepL_lt hc 256
structure RawSem (t : Tr) (e : En) (names : List ByteArray) (k : Nat) (l : List St) (rows : List (List Nat)) (acc : List Bool) : Prop where
  nd : l.Nodup
  fst : gd l 0 = s00 ∧ 0 < l.length
  kl : k ≤ l.length
  rl : rows.length = k
  al : acc.length = k
  row : ∀ i, i < k → ∀ a, a < names.length + 1 → gd (gd rows i) a < l.length ∧ gd l (gd (gd rows i) a) = (stepL t names (canAt t e (gd l i)) a 256, true)
  acc : ∀ i, i < k → gd acc i = accAt e i (gd l i)
theorem addSt_ext (l : List St) (s : St) : ∃ x, addSt l s = l ++ x := by
  unfold addSt; split
  · exact ⟨[], by simp⟩
  · exact ⟨_, rfl⟩
theorem addSt_nd {l : List St} (h : l.Nodup) (s : St) : (addSt l s).Nodup := by
  unfold addSt; split
  · exact h
  · rename_i hs
    exact List.nodup_append.2 ⟨h, by simp, fun a ha b hb => by simp at hb; subst hb; rintro rfl; exact hs ha⟩
theorem idx_get {α : Type} [DecidableEq α] [Inhabited α] {l : List α} {x : α} (h : x ∈ l) : gd l (idx l x) = x := by
  rw [gd_getElem (idx_lt h)]; exact List.getElem_idxOf (idx_lt h)
theorem addSt_idx (l : List St) (s : St) : idx l s < (addSt l s).length ∧ gd (addSt l s) (idx l s) = s := by
  unfold addSt
  by_cases h : s ∈ l
  · rw [if_pos h]
    exact ⟨idx_lt h, idx_get h⟩
  · rw [if_neg h, idx_not h]
    exact ⟨by simp, gd_app_r⟩
theorem rowF_sem (t : Tr) (names : List ByteArray) (can : Nat) {l : List St} (hl : l.Nodup) : ∀ a, (rowF t names can l a).1.Nodup ∧ (∃ x, (rowF t names can l a).1 = l ++ x) ∧ (rowF t names can l a).2.length = a ∧ ∀ j, j < a → gd (rowF t names can l a).2 j < (rowF t names can l a).1.length ∧ gd (rowF t names can l a).1 (gd (rowF t names can l a).2 j) = (stepL t names can j 256, true)
  | 0 => ⟨hl, ⟨[], by simp [rowF]⟩, rfl, fun j hj => by omega⟩
  | a + 1 => by
    obtain ⟨h1, ⟨x, h2⟩, h3, h4⟩ := rowF_sem t names can hl a
    rw [rowF_succ]
    obtain ⟨y, hy⟩ := addSt_ext (rowF t names can l a).1 (stepL t names can a 256, true)
    refine ⟨addSt_nd h1 _, ⟨x ++ y, by simp only []; rw [hy, h2, List.append_assoc]⟩, by simp [h3], fun j hj => ?_⟩
    simp only []
    by_cases e : j = a
    · subst e
      rw [show gd ((rowF t names can l j).2 ++ [idx (rowF t names can l j).1 (stepL t names can j 256, true)]) j = idx (rowF t names can l j).1 (stepL t names can j 256, true) by
        have := gd_app_r (l := (rowF t names can l j).2) (x := idx (rowF t names can l j).1 (stepL t names can j 256, true))
        rwa [h3] at this]
      exact addSt_idx _ _
    · have hj' : j < a := by omega
      obtain ⟨h5, h6⟩ := h4 j hj'
      rw [gd_app_l (by rw [h3]; exact hj')]
      rw [hy, gd_app_l h5]
      exact ⟨by simp; omega, h6⟩
theorem RawSem.next {t : Tr} {e : En} {names : List ByteArray} {k : Nat} {l : List St} {rows : List (List Nat)} {acc : List Bool} (h : RawSem t e names k l rows acc) (hk : k < l.length) :
    RawSem t e names (k + 1) (rowF t names (canAt t e (gd l k)) l (names.length + 1)).1 (rows ++ [(rowF t names (canAt t e (gd l k)) l (names.length + 1)).2]) (acc ++ [accAt e k (gd l k)]) := by
  obtain ⟨h1, ⟨x, h2⟩, h3, h4⟩ := rowF_sem t names (canAt t e (gd l k)) h.nd (names.length + 1)
  generalize (rowF t names (canAt t e (gd l k)) l (names.length + 1)) = q at *
  obtain ⟨q1, q2⟩ := q
  simp only [] at *
  subst h2
  refine ⟨h1, ⟨by rw [gd_app_l h.fst.2]; exact h.fst.1, by have := h.fst.2; simp; omega⟩, by simp; omega, by simp [h.rl], by simp [h.al], fun i hi a ha => ?_, fun i hi => ?_⟩
  · rw [gd_app_l (l := l) (by omega : i < l.length)]
    by_cases ei : i = k
    · subst ei
      have : gd (rows ++ [q2]) i = q2 := by have := gd_app_r (l := rows) (x := q2); rwa [h.rl] at this
      rw [this]
      exact h4 a ha
    · have : gd (rows ++ [q2]) i = gd rows i := gd_app_l (by rw [h.rl]; omega)
      rw [this]
      obtain ⟨h5, h6⟩ := h.row i (by omega) a ha
      exact ⟨by simp; omega, by rw [gd_app_l h5]; exact h6⟩
  · rw [gd_app_l (l := l) (by omega : i < l.length)]
    by_cases ei : i = k
    · subst ei
      have := gd_app_r (l := acc) (x := accAt e i (gd l i)); rwa [h.al] at this
    · rw [gd_app_l (by rw [h.al]; omega)]
      exact h.acc i (by omega)
theorem raw_sem {t : Tr} {e : En} {names : List ByteArray} : ∀ (f k : Nat) (l : List St) (rows : List (List Nat)) (acc : List Bool) (r : List (List Nat) × List Bool), RawSem t e names k l rows acc → rawGo t e names f k l rows acc = some r → ∃ L, RawSem t e names L.length L r.1 r.2
  | 0, _, _, _, _, _, _, h => by cases h
  | f + 1, k, l, rows, acc, r, hi, h => by
    rw [rawGo_succ] at h
    split at h
    · rename_i hk
      split at h
      · cases h
      · exact raw_sem f _ _ _ _ r (hi.next hk) h
    · rename_i hk
      cases h
      have : k = l.length := by have := hi.kl; omega
      subst this
      exact ⟨l, hi⟩
theorem raw_sem0 {e : Re} {r : List (List Nat) × List Bool} (h : rawF e = some r) : ∃ L, RawSem (addF e t00).1 (addF e t00).2 (letF e) L.length L r.1 r.2 :=
  raw_sem 201 0 [s00] [] [] r ⟨by simp, ⟨rfl, by simp⟩, by simp, rfl, rfl, fun i hi => by omega, fun i hi => by omega⟩ h
theorem raw_run {t : Tr} {e : En} {names : List ByteArray} {L : List St} {rows : List (List Nat)} {acc : List Bool} (h : RawSem t e names L.length L rows acc) : ∀ (l : List ByteArray) (i : Nat), i < L.length → (l.foldl (afterF ⟨names, rows, acc⟩) i) < L.length ∧ gd L (l.foldl (afterF ⟨names, rows, acc⟩) i) = l.foldl (stF t e names) (gd L i)
  | [], i, hi => ⟨hi, rfl⟩
  | x :: l, i, hi => by
    obtain ⟨h1, h2⟩ := h.row i hi (lett names x) (Nat.lt_succ_of_le (lett_le _ _))
    have h3 := raw_run h l (afterF ⟨names, rows, acc⟩ i x) h1
    rw [show gd L (afterF ⟨names, rows, acc⟩ i x) = stF t e names (gd L i) x from h2] at h3
    exact h3
theorem stF_true (t : Tr) (e : En) (names : List ByteArray) : ∀ (l : List ByteArray) (s : St), l ≠ [] → (l.foldl (stF t e names) s).2 = true
  | [], s, h => absurd rfl h
  | [x], s, _ => by rw [List.foldl_cons, List.foldl_nil]; unfold stF; rfl
  | x :: y :: l, s, _ => by rw [List.foldl_cons]; exact stF_true t e names (y :: l) _ (by simp)
theorem raw_acc {e : Re} (hl : e.lv ≤ 64) {r : List (List Nat) × List Bool} (h : rawF e = some r) (l : List ByteArray) : gd r.2 (runM ⟨letF e, r.1, r.2⟩ l) = matchF e l := by
  obtain ⟨L, hL⟩ := raw_sem0 h
  obtain ⟨h1, h2⟩ := raw_run hL l 0 hL.fst.2
  rw [hL.fst.1] at h2
  show gd r.2 (l.foldl (afterF ⟨letF e, r.1, r.2⟩) 0) = _
  rw [hL.acc _ h1, h2]
  obtain ⟨hok, hlen, hf1, hf2⟩ := add_ok e t00_ok (by simpa [t00] using hl)
  unfold matchF accAt
  cases l with
  | nil =>
    simp [s00]
  | cons x l =>
    have hne : ¬ ((x :: l).foldl (afterF ⟨letF e, r.1, r.2⟩) 0) = 0 := fun h0 => by
      have h3 := stF_true (addF e t00).1 (addF e t00).2 (letF e) (x :: l) s00 (by simp)
      rw [← h2, h0, hL.fst.1] at h3
      cases h3
    rw [if_neg (by simp), decide_eq_false (p := (((x :: l).foldl (afterF ⟨letF e, r.1, r.2⟩) 0 : Nat) : Int) = 0) (by omega)]
    rw [stF_run e hl (x :: l) s00 (0, (addF e t00).2.first) rfl rfl (Nat.two_pow_pos _)]
    simp
end Go.Proofs.YtkdolgnpkjihpaaGreatDoor
namespace Go.Proofs.YtkdolgnpkjihpaaGreatDoor
open Go.RowKit
set_option linter.unusedVariables false
set_option linter.unusedSimpArgs false
def rnA (m : PM) (i : Nat) (ws : List Nat) : Nat := ws.foldl (nx m) i
def Lts (m : PM) (ws : List Nat) : Prop := ∀ a ∈ ws, a < m.names.length + 1
theorem rnA_lt {m : PM} (hp : PMok m) : ∀ (ws : List Nat) {i : Nat}, Lts m ws → i < m.next.length → rnA m i ws < m.next.length
  | [], i, _, hi => hi
  | a :: ws, i, ha, hi => rnA_lt hp ws (fun x hx => ha x (List.mem_cons_of_mem _ hx)) (nx_lt hp hi (ha a (by simp)))
def Dst (m : PM) (i k : Nat) : Prop := ∃ ws, Lts m ws ∧ ¬ gd m.acc (rnA m i ws) = gd m.acc (rnA m k ws)
theorem Dst.step {m : PM} {i k a : Nat} (ha : a < m.names.length + 1) (h : Dst m (nx m i a) (nx m k a)) : Dst m i k := by
  obtain ⟨ws, h1, h2⟩ := h
  exact ⟨a :: ws, fun x hx => by
    rcases List.mem_cons.1 hx with rfl | hx
    · exact ha
    · exact h1 x hx, h2⟩
structure Part (m : PM) (b : List Nat) : Prop where
  acc : ∀ i, i < m.next.length → ∀ k, k < m.next.length → gd b i = gd b k → gd m.acc i = gd m.acc k
  cong : ∀ i, i < m.next.length → ∀ k, k < m.next.length → gd b i = gd b k → ∀ a, a < m.names.length + 1 → gd b (nx m i a) = gd b (nx m k a)
  dst : ∀ i, i < m.next.length → ∀ k, k < m.next.length → ¬ gd b i = gd b k → Dst m i k
theorem Part.run {m : PM} (hp : PMok m) {b : List Nat} (h : Part m b) : ∀ (ws : List Nat) {i k : Nat}, Lts m ws → i < m.next.length → k < m.next.length → gd b i = gd b k → gd b (rnA m i ws) = gd b (rnA m k ws)
  | [], _, _, _, _, _, he => he
  | a :: ws, i, k, ha, hi, hk, he => h.run hp ws (fun x hx => ha x (List.mem_cons_of_mem _ hx)) (nx_lt hp hi (ha a (by simp))) (nx_lt hp hk (ha a (by simp))) (h.cong i hi k hk he a (ha a (by simp)))
structure Prt (m : PM) (b : List Nat) : Prop where
  len : b.length = m.next.length
  acc : ∀ i, i < m.next.length → ∀ k, k < m.next.length → gd b i = gd b k → gd m.acc i = gd m.acc k
  dst : ∀ i, i < m.next.length → ∀ k, k < m.next.length → ¬ gd b i = gd b k → Dst m i k
  cont : Cont b
theorem fs_is {β : Type} {f : Nat → Option β} {n : Nat} {x : β} (h : (List.range n).findSome? f = some x) : ∃ j, j < n ∧ f j = some x := by
  obtain ⟨j, hj, e⟩ := List.exists_of_findSome?_eq_some h
  exact ⟨j, List.mem_range.1 hj, e⟩
theorem findSp_is {m : PM} {b : List Nat} {k a : Nat} (h : findSp m b = some (k, a)) : k < b.length ∧ ∃ i, i < k ∧ gd b i = gd b k ∧ a < (gd m.next k).length ∧ ¬ gd b (nx m i a) = gd b (nx m k a) := by
  obtain ⟨k', hk, h1⟩ := fs_is h
  obtain ⟨i, hi, h2⟩ := fs_is h1
  split at h2
  · rename_i he
    obtain ⟨a', ha, h3⟩ := fs_is h2
    split at h3
    · cases h3
    · rename_i hn
      cases h3
      exact ⟨hk, i, hi, he, ha, hn⟩
  · cases h2
theorem findSp_no {m : PM} {b : List Nat} (h : findSp m b = none) {i k a : Nat} (hk : k < b.length) (hi : i < k) (he : gd b i = gd b k) (ha : a < (gd m.next k).length) : gd b (nx m i a) = gd b (nx m k a) := by
  have h1 := List.findSome?_eq_none_iff.1 h k (List.mem_range.2 hk)
  have h2 := List.findSome?_eq_none_iff.1 h1 i (List.mem_range.2 hi)
  rw [if_pos he] at h2
  have h3 := List.findSome?_eq_none_iff.1 h2 a (List.mem_range.2 ha)
  split at h3
  · assumption
  · cases h3
theorem Prt.init {m : PM} (hp : PMok m) : Prt m (initB m) := by
  have hl : (initB m).length = m.next.length := by simp [initB, hp.acc]
  have hg : ∀ i, i < m.next.length → gd (initB m) i = if gd m.acc i then 1 else 0 := fun i hi => gd_map (by rw [hp.acc]; exact hi)
  refine ⟨hl, fun i hi k hk he => ?_, fun i hi k hk hn => ⟨[], (fun x hx => by cases hx), fun he => hn ?_⟩, .init (by rw [hp.acc]; exact hp.some')⟩
  · rw [hg i hi, hg k hk] at he
    revert he
    cases gd m.acc i <;> cases gd m.acc k <;> simp
  · rw [hg i hi, hg k hk, show gd m.acc i = gd m.acc k from he]
theorem Prt.split {m : PM} (hp : PMok m) {b : List Nat} (h : Prt m b) {k a : Nat} (hs : findSp m b = some (k, a)) : Prt m (splitF m b k a) ∧ maxF (splitF m b k a) = maxF b + 1 := by
  obtain ⟨hk, i, hi, he, ha, hn⟩ := findSp_is hs
  have hk' : k < m.next.length := by rw [← h.len]; exact hk
  have ha' : a < m.names.length + 1 := by rw [← (hp.row _ (gd_mem hk')).1]; exact ha
  have hmx : ∀ x, x < b.length → gd b x ≤ maxF b := fun x hx => maxF_all (gd_mem hx)
  refine ⟨⟨by rw [splitF_len]; exact h.len, fun x hx y hy e => ?_, fun x hx y hy e => ?_, h.cont.split (by omega) hk he hn⟩, split_max (by omega) hk he hn⟩
  · have hx2 := hmx x (by rw [h.len]; exact hx)
    have hy2 := hmx y (by rw [h.len]; exact hy)
    rw [gd_splitF, gd_splitF] at e
    split at e
    · rename_i c1
      split at e
      · rename_i c2
        exact h.acc x hx y hy (by rw [c1.2.1, c2.2.1])
      · omega
    · split at e
      · omega
      · exact h.acc x hx y hy e
  · by_cases hb : gd b x = gd b y
    · rw [gd_splitF, gd_splitF] at e
      have hxl : x < b.length := by rw [h.len]; exact hx
      have hyl : y < b.length := by rw [h.len]; exact hy
      refine .step ha' (h.dst _ (nx_lt hp hx ha') _ (nx_lt hp hy ha') fun hc => e ?_)
      rw [hb, hc]
      simp only [hxl, hyl, true_and]
    · exact h.dst x hx y hy hb
theorem refine_part {m : PM} (hp : PMok m) : ∀ (f : Nat) {b : List Nat}, Prt m b → 200 < f + maxF b → Part m (refineF m f b)
  | 0, b, h, hf => by
    have h1 := h.cont.max_le
    have h2 := hp.few
    have h3 := h.len
    omega
  | f + 1, b, h, hf => by
    cases hs : findSp m b with
    | none =>
      rw [refineF_none hs]
      refine ⟨h.acc, fun i hi k hk he a ha => ?_, h.dst⟩
      rcases Nat.lt_trichotomy i k with h1 | h1 | h1
      · exact findSp_no hs (by rw [h.len]; exact hk) h1 he (by rw [(hp.row _ (gd_mem hk)).1]; exact ha)
      · rw [h1]
      · exact (findSp_no hs (by rw [h.len]; exact hi) h1 he.symm (by rw [(hp.row _ (gd_mem hi)).1]; exact ha)).symm
    | some p =>
      obtain ⟨k, a⟩ := p
      rw [refineF_some hs]
      obtain ⟨h1, h2⟩ := h.split hp hs
      exact refine_part hp f h1 (by omega)
theorem refine_part0 {m : PM} (hp : PMok m) : Part m (refineF m 201 (initB m)) := refine_part hp 201 (.init hp) (by omega)
structure NumSem (m : PM) (b order : List Nat) (k : Nat) (rows : List (List Nat)) (acc : List Bool) : Prop where
  ord : OrdOk m b order
  fst : gd order 0 = 0 ∧ 0 < order.length
  kl : k ≤ order.length
  rl : rows.length = k
  al : acc.length = k
  row : ∀ i, i < k → ∀ a, a < m.names.length + 1 → gd (gd rows i) a < order.length ∧ gd b (gd order (gd (gd rows i) a)) = gd b (nx m (gd order i) a)
  acc : ∀ i, i < k → gd acc i = gd m.acc (gd order i)
theorem numK_sem (b tos order : List Nat) : ∀ i, (∃ x, (numK b tos order i).1 = order ++ x) ∧ (numK b tos order i).2.length = i ∧ ∀ j, j < i → gd (numK b tos order i).2 j < (numK b tos order i).1.length ∧ gd b (gd (numK b tos order i).1 (gd (numK b tos order i).2 j)) = gd b (gd tos j)
  | 0 => ⟨⟨[], by simp [numK]⟩, rfl, fun j hj => by omega⟩
  | i + 1 => by
    obtain ⟨⟨x, h2⟩, h3, h4⟩ := numK_sem b tos order i
    have hm := numK_mem b tos order i
    have hx := idx_lt hm
    have hg : gd ((numK b tos order (i + 1)).1.map (gd b)) (idx ((numK b tos order (i + 1)).1.map (gd b)) (gd b (gd tos i))) = gd b (gd tos i) := by
      rw [gd_getElem hx]; exact List.getElem_idxOf hx
    rw [numK_idx] at hx hg
    rw [List.length_map] at hx
    rw [gd_map hx] at hg
    have hext : ∃ y, (numK b tos order (i + 1)).1 = (numK b tos order i).1 ++ y := by
      rw [numK_succ]; simp only []
      split
      · exact ⟨[], by simp⟩
      · exact ⟨_, rfl⟩
    have h2nd : (numK b tos order (i + 1)).2 = (numK b tos order i).2 ++ [idx ((numK b tos order i).1.map (gd b)) (gd b (gd tos i))] := rfl
    generalize (numK b tos order (i + 1)) = q at *
    obtain ⟨q1, q2⟩ := q
    simp only [] at *
    obtain ⟨y, hy⟩ := hext
    refine ⟨⟨x ++ y, by rw [hy, h2, List.append_assoc]⟩, by rw [h2nd]; simp [h3], fun j hj => ?_⟩
    rw [h2nd]
    by_cases e : j = i
    · subst e
      have : gd ((numK b tos order j).2 ++ [idx ((numK b tos order j).1.map (gd b)) (gd b (gd tos j))]) j = idx ((numK b tos order j).1.map (gd b)) (gd b (gd tos j)) := by
        have := gd_app_r (l := (numK b tos order j).2) (x := idx ((numK b tos order j).1.map (gd b)) (gd b (gd tos j)))
        rwa [h3] at this
      rw [this]
      exact ⟨hx, hg⟩
    · obtain ⟨h5, h6⟩ := h4 j (by omega)
      rw [gd_app_l (by rw [h3]; omega), hy, gd_app_l h5]
      exact ⟨by simp; omega, h6⟩
theorem NumSem.next {m : PM} (hp : PMok m) {b order : List Nat} {k : Nat} {rows : List (List Nat)} {acc : List Bool} (h : NumSem m b order k rows acc) (hk : k < order.length) :
    NumSem m b (numK b (gd m.next (gd order k)) order (gd m.next (gd order k)).length).1 (k + 1) (rows ++ [(numK b (gd m.next (gd order k)) order (gd m.next (gd order k)).length).2]) (acc ++ [gd m.acc (gd order k)]) := by
  have hok := h.ord.lt (gd order k) (gd_mem hk)
  obtain ⟨hr1, hr2⟩ := hp.row (gd m.next (gd order k)) (gd_mem hok)
  obtain ⟨g1, g2, g3⟩ := h.ord.step hr2 (gd m.next (gd order k)).length (Nat.le_refl _)
  obtain ⟨⟨x, h2⟩, h3, h4⟩ := numK_sem b (gd m.next (gd order k)) order (gd m.next (gd order k)).length
  generalize numK b (gd m.next (gd order k)) order (gd m.next (gd order k)).length = q at *
  obtain ⟨q1, q2⟩ := q
  simp only [] at *
  subst h2
  refine ⟨g1, ⟨by rw [gd_app_l h.fst.2]; exact h.fst.1, by have := h.fst.2; simp; omega⟩, by simp; omega, by simp [h.rl], by simp [h.al], fun i hi a ha => ?_, fun i hi => ?_⟩
  · by_cases ei : i = k
    · subst ei
      have : gd (rows ++ [q2]) i = q2 := by have := gd_app_r (l := rows) (x := q2); rwa [h.rl] at this
      rw [this, gd_app_l (l := order) hk]
      exact h4 a (by rw [hr1]; exact ha)
    · have : gd (rows ++ [q2]) i = gd rows i := gd_app_l (by rw [h.rl]; omega)
      rw [this, gd_app_l (l := order) (by omega : i < order.length)]
      obtain ⟨h5, h6⟩ := h.row i (by omega) a ha
      exact ⟨by simp; omega, by rw [gd_app_l h5]; exact h6⟩
  · rw [gd_app_l (l := order) (by omega : i < order.length)]
    by_cases ei : i = k
    · subst ei
      have := gd_app_r (l := acc) (x := gd m.acc (gd order i)); rwa [h.al] at this
    · rw [gd_app_l (by rw [h.al]; omega)]
      exact h.acc i (by omega)
theorem numGo_sem {m : PM} (hp : PMok m) {b : List Nat} : ∀ (f k : Nat) (order : List Nat) (rows : List (List Nat)) (acc : List Bool), NumSem m b order k rows acc → 200 < f + k → ∃ O, NumSem m b O O.length (numGo m b f k order rows acc).1 (numGo m b f k order rows acc).2
  | 0, k, order, rows, acc, h, hf => by
    have h1 := h.ord.few
    have h2 := hp.few
    have := h.kl; omega
  | f + 1, k, order, rows, acc, h, hf => by
    rw [numGo_succ]
    split
    · rename_i hk
      exact numGo_sem hp f (k + 1) _ _ _ (h.next hp hk) (by omega)
    · rename_i hk
      have : k = order.length := by have := h.kl; omega
      subst this
      exact ⟨order, h⟩
theorem numF_sem {m : PM} (hp : PMok m) (b : List Nat) : ∃ O, NumSem m b O O.length (numF m b).next (numF m b).acc :=
  numGo_sem hp 201 0 [0] [] [] ⟨⟨by simp, fun s hs => by
    simp only [List.mem_cons, List.not_mem_nil, or_false] at hs
    subst hs; exact hp.some'⟩, ⟨rfl, by simp⟩, Nat.zero_le _, rfl, rfl, fun i hi => by omega, fun i hi => by omega⟩ (by omega)
theorem num_run {m : PM} (hp : PMok m) {b : List Nat} (hb : Part m b) {O : List Nat} (h : NumSem m b O O.length (numF m b).next (numF m b).acc) : ∀ (ws : List Nat) {i : Nat}, Lts m ws → i < O.length → rnA (numF m b) i ws < O.length ∧ gd b (gd O (rnA (numF m b) i ws)) = gd b (rnA m (gd O i) ws)
  | [], i, _, hi => ⟨hi, rfl⟩
  | a :: ws, i, ha, hi => by
    have ha0 := ha a (by simp)
    have hoi := h.ord.lt _ (gd_mem hi)
    obtain ⟨h1, h2⟩ := h.row i hi a ha0
    have has : Lts m ws := fun x hx => ha x (List.mem_cons_of_mem _ hx)
    obtain ⟨h3, h4⟩ := num_run hp hb h ws has h1
    refine ⟨h3, h4.trans ?_⟩
    exact hb.run hp ws has (h.ord.lt _ (gd_mem h1)) (nx_lt hp hoi ha0) h2
theorem num_acc {m : PM} (hp : PMok m) {b : List Nat} (hb : Part m b) {O : List Nat} (h : NumSem m b O O.length (numF m b).next (numF m b).acc) {ws : List Nat} {i : Nat} (ha : Lts m ws) (hi : i < O.length) : gd (numF m b).acc (rnA (numF m b) i ws) = gd m.acc (rnA m (gd O i) ws) := by
  obtain ⟨h1, h2⟩ := num_run hp hb h ws ha hi
  rw [h.acc _ h1]
  exact hb.acc _ (h.ord.lt _ (gd_mem h1)) _ (rnA_lt hp ws ha (h.ord.lt _ (gd_mem hi))) h2
theorem runM_rnA (m : PM) : ∀ (l : List ByteArray) (i : Nat), l.foldl (afterF m) i = rnA m i (l.map (lett m.names))
  | [], i => rfl
  | x :: l, i => runM_rnA m l (afterF m i x)
theorem lts_map (m : PM) (l : List ByteArray) : Lts m (l.map (lett m.names)) := fun a ha => by
  obtain ⟨x, _, rfl⟩ := List.mem_map.1 ha
  exact Nat.lt_succ_of_le (lett_le _ _)
theorem least_acc {m : PM} (hp : PMok m) (l : List ByteArray) : gd (leastF m).acc (runM (leastF m) l) = gd m.acc (runM m l) := by
  obtain ⟨O, hO⟩ := numF_sem hp (refineF m 201 (initB m))
  have h := num_acc hp (refine_part0 hp) hO (lts_map m l) hO.fst.2
  rw [hO.fst.1] at h
  unfold runM
  rw [runM_rnA, runM_rnA]
  exact h
theorem build_acc {e : Re} (hl : e.lv ≤ 64) (h : (buildF leastF e).2 = 0) (l : List ByteArray) : gd (buildF leastF e).1.acc (runM (buildF leastF e).1 l) = matchF e l := by
  unfold buildF at *
  cases hr : rawF e with
  | none => rw [hr] at h; cases h
  | some r =>
    simp only []
    rw [← raw_acc hl hr l, ← least_acc (rawF_ok hl hr) l]
    rfl
end Go.Proofs.YtkdolgnpkjihpaaGreatDoor
namespace Go.Proofs.YtkdolgnpkjihpaaGreatDoor
open Go.RowKit
set_option linter.unusedVariables false
set_option linter.unusedSimpArgs false
def lx : List Nat → List Nat → Prop
  | x :: a, y :: b => x < y ∨ (x = y ∧ lx a b)
  | _, _ => False
theorem lx_trans : ∀ {a b c : List Nat}, lx a b → lx b c → lx a c
  | [], _, _, h, _ => by cases h
  | _ :: _, [], _, h, _ => by cases h
  | _ :: _, _ :: _, [], _, h => by cases h
  | x :: a, y :: b, z :: c, h1, h2 => by
    simp only [lx] at h1 h2 ⊢
    rcases h1 with h1 | ⟨h1, h3⟩ <;> rcases h2 with h2 | ⟨h2, h4⟩
    · left; omega
    · left; omega
    · left; omega
    · right; exact ⟨by omega, lx_trans h3 h4⟩
theorem lx_app : ∀ {a b : List Nat} (c d : List Nat), lx a b → lx (a ++ c) (b ++ d)
  | [], _, _, _, h => by cases h
  | _ :: _, [], _, _, h => by cases h
  | x :: a, y :: b, c, d, h => by
    simp only [lx, List.cons_append] at h ⊢
    exact h.imp id fun h => ⟨h.1, lx_app c d h.2⟩
theorem lx_last : ∀ (a : List Nat) {x y : Nat}, x < y → lx (a ++ [x]) (a ++ [y])
  | [], x, y, h => .inl h
  | z :: a, x, y, h => .inr ⟨rfl, lx_last a h⟩
def ltL (a b : List Nat) : Prop := a.length < b.length ∨ (a.length = b.length ∧ lx a b)
def leL (a b : List Nat) : Prop := ltL a b ∨ a = b
theorem ltL_trans {a b c : List Nat} (h1 : ltL a b) (h2 : ltL b c) : ltL a c := by
  unfold ltL at *
  rcases h1 with h1 | ⟨h1, h3⟩ <;> rcases h2 with h2 | ⟨h2, h4⟩
  · left; omega
  · left; omega
  · left; omega
  · right; exact ⟨by omega, lx_trans h3 h4⟩
theorem leL_trans {a b c : List Nat} (h1 : leL a b) (h2 : leL b c) : leL a c := by
  rcases h1 with h1 | rfl
  · rcases h2 with h2 | rfl
    · exact .inl (ltL_trans h1 h2)
    · exact .inl h1
  · exact h2
theorem leL_len {a b : List Nat} (h : leL a b) : a.length ≤ b.length := by
  rcases h with (h | ⟨h, _⟩) | rfl
  · omega
  · omega
  · exact Nat.le_refl _
theorem ltL_snoc {a b : List Nat} (x y : Nat) (h : ltL a b) : ltL (a ++ [x]) (b ++ [y]) := by
  unfold ltL at *
  simp only [List.length_append, List.length_cons, List.length_nil]
  rcases h with h | ⟨h, h2⟩
  · left; omega
  · right; exact ⟨by omega, lx_app _ _ h2⟩
theorem leL_snoc {a b : List Nat} {x y : Nat} (h : leL a b) (hx : x ≤ y) : leL (a ++ [x]) (b ++ [y]) := by
  rcases h with h | rfl
  · exact .inl (ltL_snoc x y h)
  · rcases Nat.lt_or_ge x y with h1 | h1
    · exact .inl (.inr ⟨by simp, lx_last a h1⟩)
    · rw [show x = y by omega]; exact .inr rfl
section
variable {σ : Type} [Inhabited σ]
def pth (w : List (Int × σ)) (i : Nat) : List σ := (backF w (i + 1) i).reverse
theorem pth_zero {w : List (Int × σ)} (h : (gd w 0).1 = -1) : pth w 0 = [] := by
  unfold pth; rw [backF_succ, if_neg (by omega)]; rfl
theorem pth_snoc {w : List (Int × σ)} (hw : ∀ i, i < w.length → -1 ≤ (gd w i).1 ∧ (gd w i).1 < i) {i : Nat} (hi : i < w.length) (h0 : 0 ≤ (gd w i).1) : pth w i = pth w (gd w i).1.toNat ++ [(gd w i).2] := by
  have h1 := (hw i hi).2
  unfold pth
  rw [backF_succ, if_pos h0, List.reverse_cons]
  rw [backF_fuel hw i (gd w i).1.toNat (by omega) (by omega)]
inductive Chn (ts : Pl → List (Pl × σ)) (p : Pl) : List σ → Pl → Prop
  | nil : Chn ts p [] p
  | snoc {ls : List σ} {q r : Pl} {s : σ} : Chn ts p ls q → (r, s) ∈ ts q → Chn ts p (ls ++ [s]) r
structure BI (ts : Pl → List (Pl × σ)) (rk : σ → Nat) (p0 : Pl) (k : Nat) (d : List (Pl × σ)) (st : BS σ) : Prop where
  nd : st.l.Nodup
  len : st.w.length = st.l.length
  fst : gd st.l 0 = p0 ∧ (gd st.w 0).1 = -1 ∧ 0 < st.l.length
  kl : k ≤ st.l.length
  edge : ∀ i, 0 < i → i < st.l.length → 0 ≤ (gd st.w i).1 ∧ (gd st.w i).1 < i ∧ (gd st.l i, (gd st.w i).2) ∈ ts (gd st.l (gd st.w i).1.toNat) ∧ ((gd st.w i).1 < k ∨ ((gd st.w i).1 = k ∧ (gd st.l i, (gd st.w i).2) ∈ d))
  mono : ∀ i j, 0 < i → i < j → j < st.l.length → (gd st.w i).1 < (gd st.w j).1 ∨ ((gd st.w i).1 = (gd st.w j).1 ∧ rk (gd st.w i).2 < rk (gd st.w j).2)
  done : ∀ j, j < k → ∀ x ∈ ts (gd st.l j), ∃ i, i < st.l.length ∧ gd st.l i = x.1 ∧ (i = 0 ∨ (gd st.w i).1 < j ∨ ((gd st.w i).1 = j ∧ rk (gd st.w i).2 ≤ rk x.2))
  part : ∀ x ∈ d, ∃ i, i < st.l.length ∧ gd st.l i = x.1 ∧ (i = 0 ∨ (gd st.w i).1 < k ∨ ((gd st.w i).1 = k ∧ rk (gd st.w i).2 ≤ rk x.2))
variable {ts : Pl → List (Pl × σ)} {rk : σ → Nat} {p0 : Pl}
theorem BI.start : BI ts rk p0 0 [] ⟨[p0], [(-1, default)]⟩ where
  nd := by simp
  len := rfl
  fst := ⟨rfl, rfl, by simp⟩
  kl := Nat.zero_le _
  edge i h1 h2 := by simp at h2; omega
  mono i j h1 h2 h3 := by simp at h3; omega
  done j hj := by omega
  part x hx := by cases hx
theorem BI.back {k : Nat} {d : List (Pl × σ)} {st : BS σ} (h : BI ts rk p0 k d st) : ∀ i, i < st.w.length → -1 ≤ (gd st.w i).1 ∧ (gd st.w i).1 < i := fun i hi => by
  rw [h.len] at hi
  rcases Nat.eq_zero_or_pos i with rfl | h0
  · rw [h.fst.2.1]; omega
  · have := h.edge i h0 hi; omega
theorem memPl {l : List Pl} {p : Pl} (h : p ∈ l) : ∃ i, i < l.length ∧ gd l i = p := by
  obtain ⟨i, hi, e⟩ := List.getElem_of_mem h
  exact ⟨i, hi, by rw [gd_getElem hi]; exact e⟩
theorem BI.vis {k : Nat} {d rest : List (Pl × σ)} {x : Pl × σ} {st : BS σ} (h : BI ts rk p0 k d st) (hk : k < st.l.length) (ht : ts (gd st.l k) = d ++ x :: rest) (hr : (ts (gd st.l k)).Pairwise fun a b => rk a.2 < rk b.2) : BI ts rk p0 k (d ++ [x]) (visF k st x) := by
  have hlt : ∀ y ∈ d, rk y.2 < rk x.2 := fun y hy => by
    rw [ht] at hr
    exact (List.pairwise_append.1 hr).2.2 y hy x (by simp)
  have hxm : x ∈ ts (gd st.l k) := by rw [ht]; simp
  unfold visF
  by_cases hx : x.1 ∈ st.l
  · rw [if_pos hx]
    refine ⟨h.nd, h.len, h.fst, h.kl, fun i h1 h2 => ?_, h.mono, h.done, fun y hy => ?_⟩
    · obtain ⟨a, b, c, e⟩ := h.edge i h1 h2
      exact ⟨a, b, c, e.imp id fun e => ⟨e.1, List.mem_append_left _ e.2⟩⟩
    · rcases List.mem_append.1 hy with hy | hy
      · exact h.part y hy
      · simp only [List.mem_cons, List.not_mem_nil, or_false] at hy
        subst hy
        obtain ⟨i, hi, e⟩ := memPl hx
        refine ⟨i, hi, e, ?_⟩
        rcases Nat.eq_zero_or_pos i with h0 | h0
        · exact .inl h0
        · obtain ⟨_, _, _, e2⟩ := h.edge i h0 hi
          rcases e2 with e2 | e2
          · exact .inr (.inl e2)
          · exact .inr (.inr ⟨e2.1, Nat.le_of_lt (hlt _ e2.2)⟩)
  · rw [if_neg hx]
    have hln := h.len
    have g1 : ∀ i, i < st.l.length → gd (st.l ++ [x.1]) i = gd st.l i := fun i hi => gd_app_l hi
    have g2 : ∀ i, i < st.l.length → gd (st.w ++ [((k : Int), x.2)]) i = gd st.w i := fun i hi => gd_app_l (by omega)
    have g3 : gd (st.l ++ [x.1]) st.l.length = x.1 := gd_app_r
    have g4 : gd (st.w ++ [((k : Int), x.2)]) st.l.length = ((k : Int), x.2) := by rw [← hln]; exact gd_app_r
    have hp0 := h.fst.2.2
    refine ⟨?_, by simp [hln], ⟨by simp only []; rw [g1 0 hp0]; exact h.fst.1, by simp only []; rw [g2 0 hp0]; exact h.fst.2.1, by simp⟩, by simp; have := h.kl; omega, fun i h1 h2 => ?_, fun i j h1 h2 h3 => ?_, fun j hj y hy => ?_, fun y hy => ?_⟩
    · exact List.nodup_append.2 ⟨h.nd, by simp, fun a ha b hb => by simp at hb; subst hb; rintro rfl; exact hx ha⟩
    · simp only [] at h2 ⊢
      simp only [List.length_append, List.length_cons, List.length_nil] at h2
      by_cases e : i = st.l.length
      · subst e
        rw [g3, g4]
        simp only [Int.toNat_natCast]
        rw [g1 k hk]
        exact ⟨by omega, by omega, hxm, .inr ⟨by simp, by simp⟩⟩
      · have hi : i < st.l.length := by omega
        obtain ⟨a, b, c, e⟩ := h.edge i h1 hi
        rw [g1 i hi, g2 i hi, g1 _ (by omega)]
        exact ⟨a, b, c, e.imp id fun e => ⟨e.1, List.mem_append_left _ e.2⟩⟩
    · simp only [] at h3 ⊢
      simp only [List.length_append, List.length_cons, List.length_nil] at h3
      have hi : i < st.l.length := by omega
      rw [g2 i hi]
      by_cases e : j = st.l.length
      · subst e
        rw [g4]
        obtain ⟨a, b, c, e⟩ := h.edge i h1 hi
        exact e.imp id fun e => ⟨e.1, hlt _ e.2⟩
      · rw [g2 j (by omega)]
        exact h.mono i j h1 h2 (by omega)
    · simp only [] at hy ⊢
      rw [g1 j (by omega)] at hy
      obtain ⟨i, hi, e1, e2⟩ := h.done j hj y hy
      exact ⟨i, by simp; omega, by rw [g1 i hi]; exact e1, by rw [g2 i hi]; exact e2⟩
    · simp only []
      rcases List.mem_append.1 hy with hy | hy
      · obtain ⟨i, hi, e1, e2⟩ := h.part y hy
        exact ⟨i, by simp; omega, by rw [g1 i hi]; exact e1, by rw [g2 i hi]; exact e2⟩
      · simp only [List.mem_cons, List.not_mem_nil, or_false] at hy
        subst hy
        exact ⟨st.l.length, by simp, g3, by rw [g4]; exact .inr (.inr ⟨rfl, Nat.le_refl _⟩)⟩
theorem BI.all' {k : Nat} : ∀ (rest d : List (Pl × σ)) {st : BS σ}, BI ts rk p0 k d st → k < st.l.length → ts (gd st.l k) = d ++ rest → ((ts (gd st.l k)).Pairwise fun a b => rk a.2 < rk b.2) → BI ts rk p0 k (d ++ rest) (visAll k st rest)
  | [], d, st, h, _, _, _ => by rw [List.append_nil]; exact h
  | x :: rest, d, st, h, hk, ht, hr => by
    have h1 := h.vis hk ht hr
    have hg : gd (visF k st x).l k = gd st.l k := visF_get hk
    have h2 := BI.all' rest (d ++ [x]) h1 (by
      unfold visF; split
      · exact hk
      · simp; omega) (by rw [hg, ht]; simp) (by rw [hg]; exact hr)
    rw [List.append_assoc] at h2
    exact h2
theorem BI.next {k : Nat} {st : BS σ} (h : BI ts rk p0 k [] st) (hk : k < st.l.length) (hr : (ts (gd st.l k)).Pairwise fun a b => rk a.2 < rk b.2) : BI ts rk p0 (k + 1) [] (visAll k st (ts (gd st.l k))) := by
  have h1 := h.all' (ts (gd st.l k)) [] hk rfl hr
  obtain ⟨hg, hl⟩ := visAll_get (k := k) (ts (gd st.l k)) (st := st) hk
  rw [List.nil_append] at h1
  refine ⟨h1.nd, h1.len, h1.fst, by omega, fun i a b => ?_, h1.mono, fun j hj x hx => ?_, fun x hx => by cases hx⟩
  · obtain ⟨e1, e2, e3, e4⟩ := h1.edge i a b
    exact ⟨e1, e2, e3, .inl (by omega)⟩
  · by_cases e : j = k
    · subst e
      rw [hg] at hx
      exact h1.part x hx
    · exact h1.done j (by omega) x hx
theorem BI.chain {k : Nat} {d : List (Pl × σ)} {st : BS σ} (h : BI ts rk p0 k d st) : ∀ (n i : Nat), i ≤ n → i < st.l.length → Chn ts p0 (pth st.w i) (gd st.l i)
  | 0, i, hn, hi => by
    rw [show i = 0 by omega, pth_zero h.fst.2.1, h.fst.1]; exact .nil
  | n + 1, i, hn, hi => by
    rcases Nat.eq_zero_or_pos i with rfl | h0
    · rw [pth_zero h.fst.2.1, h.fst.1]; exact .nil
    · obtain ⟨a, b, c, e⟩ := h.edge i h0 hi
      rw [pth_snoc h.back (by rw [h.len]; exact hi) a]
      exact .snoc (h.chain n (gd st.w i).1.toNat (by omega) (by omega)) c
theorem BI.lt {k : Nat} {d : List (Pl × σ)} {st : BS σ} (h : BI ts rk p0 k d st) : ∀ (n i j : Nat), j ≤ n → i < j → j < st.l.length → ltL ((pth st.w i).map rk) ((pth st.w j).map rk)
  | 0, i, j, hn, hij, _ => by omega
  | n + 1, i, j, hn, hij, hj => by
    obtain ⟨a, b, c, e⟩ := h.edge j (by omega) hj
    rw [pth_snoc h.back (by rw [h.len]; exact hj) a]
    rcases Nat.eq_zero_or_pos i with rfl | h0
    · rw [pth_zero h.fst.2.1]; left; simp
    · obtain ⟨a2, b2, c2, e2⟩ := h.edge i h0 (by omega)
      rw [pth_snoc h.back (by rw [h.len]; omega) a2]
      simp only [List.map_append, List.map_cons, List.map_nil]
      rcases h.mono i j h0 hij hj with hm | ⟨hm, hm2⟩
      · exact ltL_snoc _ _ (h.lt n (gd st.w i).1.toNat (gd st.w j).1.toNat (by omega) (by omega) (by omega))
      · rw [hm]; exact .inr ⟨by simp, lx_last _ hm2⟩
theorem BI.le {k : Nat} {d : List (Pl × σ)} {st : BS σ} (h : BI ts rk p0 k d st) {i j : Nat} (hij : i ≤ j) (hj : j < st.l.length) : leL ((pth st.w i).map rk) ((pth st.w j).map rk) := by
  rcases Nat.lt_or_ge i j with h1 | h1
  · exact .inl (h.lt j i j (Nat.le_refl _) h1 hj)
  · rw [show i = j by omega]; exact .inr rfl
theorem BI.ways {k : Nat} {st : BS σ} (h : BI ts rk p0 k [] st) {ls : List σ} {q : Pl} (hc : Chn ts p0 ls q) : (∃ i, i < st.l.length ∧ gd st.l i = q ∧ leL ((pth st.w i).map rk) (ls.map rk)) ∨ (∃ i, k ≤ i ∧ i < st.l.length ∧ ∃ p : List Nat, p.length < ls.length ∧ leL ((pth st.w i).map rk) p) := by
  induction hc with
  | nil => exact .inl ⟨0, h.fst.2.2, h.fst.1, by rw [pth_zero h.fst.2.1]; exact .inr rfl⟩
  | @snoc ls q r s hc hs ih =>
    rcases ih with ⟨j, hj, e, hle⟩ | ⟨i, h1, h2, p, h3, h4⟩
    · rcases Nat.lt_or_ge j k with hk | hk
      · obtain ⟨i, hi, e1, e2⟩ := h.done j hk (r, s) (by rw [e]; exact hs)
        refine .inl ⟨i, hi, e1, ?_⟩
        rcases Nat.eq_zero_or_pos i with rfl | h0
        · rw [pth_zero h.fst.2.1]; exact .inl (.inl (by simp))
        · obtain ⟨a, b, c, _⟩ := h.edge i h0 hi
          rw [pth_snoc h.back (by rw [h.len]; exact hi) a]
          simp only [List.map_append, List.map_cons, List.map_nil]
          rcases e2 with e2 | e2 | ⟨e2, e3⟩
          · omega
          · have h5 := h.lt j (gd st.w i).1.toNat j (Nat.le_refl _) (by omega) hj
            rcases hle with hle | hle
            · exact .inl (ltL_snoc _ _ (ltL_trans h5 hle))
            · rw [← hle]; exact .inl (ltL_snoc _ _ h5)
          · rw [e2]; exact leL_snoc hle e3
      · exact .inr ⟨j, hk, hj, ls.map rk, by simp, hle⟩
    · exact .inr ⟨i, h1, h2, p, by simp; omega, h4⟩
structure GoOk (ts : Pl → List (Pl × σ)) (rk : σ → Nat) (fnd : Pl → Bool) (p0 : Pl) (r : Option Nat × BS σ) : Prop where
  some' : ∀ k, r.1 = some k → BI ts rk p0 k [] r.2 ∧ k < r.2.l.length ∧ fnd (gd r.2.l k) = true ∧ ∀ j, j < k → fnd (gd r.2.l j) = false
  none' : r.1 = none → BI ts rk p0 r.2.l.length [] r.2 ∧ ∀ j, j < r.2.l.length → fnd (gd r.2.l j) = false
theorem goF_sem {Pd : Pl → Prop} (hts : ∀ p, Pd p → ∀ x ∈ ts p, Pd x.1) (hr : ∀ p, Pd p → (ts p).Pairwise fun a b => rk a.2 < rk b.2) {N : Nat} (hN : ∀ l : List Pl, l.Nodup → (∀ p ∈ l, Pd p) → l.length ≤ N) {fnd : Pl → Bool} : ∀ (f k : Nat) (st : BS σ), BI ts rk p0 k [] st → BSok Pd k st → (∀ j, j < k → fnd (gd st.l j) = false) → N < f + k → GoOk ts rk fnd p0 (goF ts fnd f k st)
  | 0, k, st, h, hb, _, hf => by
    have := hN st.l h.nd hb.ok
    have := h.kl; omega
  | f + 1, k, st, h, hb, hn, hf => by
    rw [goF_succ]
    split
    · rename_i hk
      have hpd := hb.ok _ (gd_mem hk)
      split
      · rename_i hfn
        exact ⟨(fun k' e => by cases e; exact ⟨h, hk, hfn, hn⟩), (fun e => by cases e)⟩
      · rename_i hfn
        obtain ⟨hb1, hb2⟩ := hb.visAll (k' := k) (ts (gd st.l k)) hk (hts _ hpd)
        obtain ⟨hg, hl⟩ := visAll_get (k := k) (ts (gd st.l k)) (st := st) hk
        refine goF_sem hts hr hN f (k + 1) _ (h.next hk (hr _ hpd)) ⟨hb1.nd, hb1.ok, hb1.len, hb1.back, by omega⟩ (fun j hj => ?_) (by omega)
        by_cases e : j = k
        · subst e; rw [hg]; simpa using hfn
        · rw [(visAll_get (k := k) (ts (gd st.l k)) (st := st) (show j < st.l.length by omega)).1]
          exact hn j (by omega)
    · rename_i hk
      have : k = st.l.length := by have := h.kl; omega
      subst this
      exact ⟨(fun k' e => by cases e), fun _ => ⟨h, hn⟩⟩
theorem goF_sem0 {Pd : Pl → Prop} (hts : ∀ p, Pd p → ∀ x ∈ ts p, Pd x.1) (hr : ∀ p, Pd p → (ts p).Pairwise fun a b => rk a.2 < rk b.2) {N : Nat} (hN : ∀ l : List Pl, l.Nodup → (∀ p ∈ l, Pd p) → l.length ≤ N) (fnd : Pl → Bool) (hp : Pd p0) : GoOk ts rk fnd p0 (goF ts fnd (N + 1) 0 ⟨[p0], [(-1, default)]⟩) :=
  goF_sem hts hr hN (N + 1) 0 _ .start ⟨by simp, by simpa using hp, rfl, (fun i hi => by
    simp at hi; subst hi; show -1 ≤ (-1 : Int) ∧ (-1 : Int) < ((0 : Nat) : Int); omega), Nat.zero_le _⟩ (fun j hj => by omega) (by omega)
theorem srF_yes {Pd : Pl → Prop} (hts : ∀ p, Pd p → ∀ x ∈ ts p, Pd x.1) (hr : ∀ p, Pd p → (ts p).Pairwise fun a b => rk a.2 < rk b.2) {N : Nat} (hN : ∀ l : List Pl, l.Nodup → (∀ p ∈ l, Pd p) → l.length ≤ N) (fnd : Pl → Bool) (hp : Pd p0) (h : (srF ts fnd N p0).2.1 = true) :
    (∃ q, Chn ts p0 (srF ts fnd N p0).1 q ∧ fnd q = true) ∧ ∀ ls q, Chn ts p0 ls q → fnd q = true → leL ((srF ts fnd N p0).1.map rk) (ls.map rk) := by
  have hg := goF_sem0 (rk := rk) hts hr hN fnd hp
  unfold srF at *
  generalize goF ts fnd (N + 1) 0 ⟨[p0], [(-1, default)]⟩ = r at *
  obtain ⟨k, st⟩ := r
  cases k with
  | none => cases h
  | some k =>
    obtain ⟨h1, h2, h3, h4⟩ := hg.some' k rfl
    simp only [] at *
    refine ⟨⟨_, h1.chain k k (Nat.le_refl _) h2, h3⟩, fun ls q hc hq => ?_⟩
    rcases h1.ways hc with ⟨i, hi, e, hle⟩ | ⟨i, hi1, hi2, p, hp1, hp2⟩
    · rcases Nat.lt_or_ge i k with hik | hik
      · have := h4 i hik; rw [e, hq] at this; cases this
      · exact leL_trans (h1.le hik hi) hle
    · have h5 := leL_len (leL_trans (h1.le hi1 hi2) hp2)
      left; left
      have : (pth st.w k).length = (backF st.w (k + 1) k).reverse.length := rfl
      simp only [List.length_map] at h5 ⊢
      unfold pth at h5
      omega
theorem srF_no {Pd : Pl → Prop} (hts : ∀ p, Pd p → ∀ x ∈ ts p, Pd x.1) (hr : ∀ p, Pd p → (ts p).Pairwise fun a b => rk a.2 < rk b.2) {N : Nat} (hN : ∀ l : List Pl, l.Nodup → (∀ p ∈ l, Pd p) → l.length ≤ N) (fnd : Pl → Bool) (hp : Pd p0) (h : (srF ts fnd N p0).2.1 = false) :
    (srF ts fnd N p0).1 = [] ∧ (∀ q, q ∈ (srF ts fnd N p0).2.2 ↔ ∃ ls, Chn ts p0 ls q) ∧ ∀ ls q, Chn ts p0 ls q → fnd q = false := by
  have hg := goF_sem0 (rk := rk) hts hr hN fnd hp
  unfold srF at *
  generalize goF ts fnd (N + 1) 0 ⟨[p0], [(-1, default)]⟩ = r at *
  obtain ⟨k, st⟩ := r
  cases k with
  | some k => cases h
  | none =>
    obtain ⟨h1, h2⟩ := hg.none' rfl
    simp only [] at *
    have hall : ∀ ls q, Chn ts p0 ls q → ∃ i, i < st.l.length ∧ gd st.l i = q := fun ls q hc => by
      rcases h1.ways hc with ⟨i, hi, e, _⟩ | ⟨i, hi1, hi2, _⟩
      · exact ⟨i, hi, e⟩
      · omega
    refine ⟨trivial, fun q => ⟨fun hq => ?_, fun ⟨ls, hc⟩ => ?_⟩, fun ls q hc => ?_⟩
    · obtain ⟨i, hi, e⟩ := memPl hq
      exact ⟨_, e ▸ h1.chain i i (Nat.le_refl _) hi⟩
    · obtain ⟨i, hi, e⟩ := hall ls q hc
      rw [← e]; exact gd_mem hi
    · obtain ⟨i, hi, e⟩ := hall ls q hc
      rw [← e]; exact h2 i hi
end
end Go.Proofs.YtkdolgnpkjihpaaGreatDoor
namespace Go.Proofs.YtkdolgnpkjihpaaGreatDoor
open Go.RowKit
set_option linter.unusedVariables false
set_option linter.unusedSimpArgs false
abbrev BRow := Nat × List Bool
def ap (M : List BRow) (k i : Nat) : Bool := gd (gd M k).2 i
def setA (M : List BRow) (k i : Nat) (v : Bool) : List BRow := M.set k ((gd M k).1, (gd M k).2.set i v)
structure ApOk (n : Nat) (M : List BRow) : Prop where
  len : M.length = n
  row : ∀ k, k < n → (gd M k).2.length = n
def cf (M : List BRow) : Nat := (M.map fun r => r.2.countP fun x => !x).sum
theorem gdB_set {l : List BRow} {k x : Nat} {r : BRow} (hk : k < l.length) : gd (l.set k r) x = if x = k then r else gd l x := by
  unfold gd
  by_cases e : x = k
  · subst e; simp [List.getD, hk]
  · rw [if_neg e]; simp [List.getD, List.getElem?_set, Ne.symm e]
theorem gdb_set {l : List Bool} {k x : Nat} {r : Bool} (hk : k < l.length) : gd (l.set k r) x = if x = k then r else gd l x := by
  unfold gd
  by_cases e : x = k
  · subst e; simp [List.getD, hk]
  · rw [if_neg e]; simp [List.getD, List.getElem?_set, Ne.symm e]
theorem ap_set {n : Nat} {M : List BRow} (h : ApOk n M) {k i : Nat} (hk : k < n) (hi : i < n) (x y : Nat) (v : Bool) : ap (setA M k i v) x y = if x = k ∧ y = i then v else ap M x y := by
  unfold ap setA
  rw [gdB_set (by rw [h.len]; exact hk)]
  by_cases e : x = k
  · subst e
    rw [if_pos rfl]
    simp only []
    rw [gdb_set (by rw [h.row x hk]; exact hi)]
    simp
  · rw [if_neg e, if_neg (fun h => e h.1)]
theorem ok_set {n : Nat} {M : List BRow} (h : ApOk n M) {k : Nat} (hk : k < n) (i : Nat) (v : Bool) : ApOk n (setA M k i v) := by
  refine ⟨by simp [setA, h.len], fun x hx => ?_⟩
  unfold setA
  rw [gdB_set (by rw [h.len]; exact hk)]
  split
  · simp [h.row k hk]
  · exact h.row x hx
structure ApInv (m : PM) (M : List BRow) : Prop where
  ok : ApOk m.next.length M
  base : ∀ k, k < m.next.length → ∀ i, i < m.next.length → ¬ gd m.acc k = gd m.acc i → ap M k i = true
  irr : ∀ k, k < m.next.length → ap M k k = false
def Clo (m : PM) (M : List BRow) (k i a : Nat) : Prop := ap M (nx m k a) (nx m i a) = true → ap M k i = true
theorem ApInv.set {m : PM} (hp : PMok m) {M : List BRow} (h : ApInv m M) {k i a : Nat} (hk : k < m.next.length) (hi : i < m.next.length) (ha : a < m.names.length + 1) (hs : ap M (nx m k a) (nx m i a) = true) : ApInv m (setA M k i true) := by
  have hne : ¬ k = i := fun e => by
    subst e
    rw [h.irr _ (nx_lt hp hk ha)] at hs; cases hs
  refine ⟨ok_set h.ok hk i true, fun x hx y hy hxy => ?_, fun x hx => ?_⟩
  · rw [ap_set h.ok hk hi]; split
    · rfl
    · exact h.base x hx y hy hxy
  · rw [ap_set h.ok hk hi, if_neg (fun e : x = k ∧ x = i => hne (e.1.symm.trans e.2)), h.irr x hx]
structure Pas (m : PM) (M0 M : List BRow) (more : Bool) (k i a : Nat) : Prop where
  inv : ApInv m M
  fst : M.map Prod.fst = M0.map Prod.fst
  le : cf M ≤ cf M0
  more' : more = true → cf M < cf M0
  done : more = false → (∀ x, x < k → ∀ y, y < m.next.length → ∀ z, z < m.names.length + 1 → Clo m M x y z) ∧ (∀ y, y < i → ∀ z, z < m.names.length + 1 → Clo m M k y z) ∧ ∀ z, z < a → Clo m M k i z
theorem Pas.start {m : PM} {M : List BRow} (h : ApInv m M) : Pas m M M false 0 0 0 := ⟨h, rfl, Nat.le_refl _, (fun h => by cases h), fun _ => ⟨fun x hx => absurd hx (Nat.not_lt_zero _), fun x hx => absurd hx (Nat.not_lt_zero _), fun x hx => absurd hx (Nat.not_lt_zero _)⟩⟩
theorem Pas.row {m : PM} {M0 M : List BRow} {more : Bool} {k : Nat} (h : Pas m M0 M more k m.next.length 0) : Pas m M0 M more (k + 1) 0 0 := ⟨h.inv, h.fst, h.le, h.more', fun e => ⟨fun x hx => by
  by_cases ex : x = k
  · subst ex; exact (h.done e).2.1
  · exact (h.done e).1 x (by omega), fun x hx => absurd hx (Nat.not_lt_zero _), fun x hx => absurd hx (Nat.not_lt_zero _)⟩⟩
theorem Pas.no {m : PM} {M0 M : List BRow} {more : Bool} {k i a : Nat} (h : Pas m M0 M more k i a) (hc : Clo m M k i a) : Pas m M0 M more k i (a + 1) := ⟨h.inv, h.fst, h.le, h.more', fun e => ⟨(h.done e).1, (h.done e).2.1, fun z hz => by
  by_cases ez : z = a
  · subst ez; exact hc
  · exact (h.done e).2.2 z (by omega)⟩⟩
def apR (m : PM) (k i : Nat) : List Bool := (List.range m.next.length).map fun j => decide (j < i) && (gd m.acc k != gd m.acc j)
theorem apR_len (m : PM) (k i : Nat) : (apR m k i).length = m.next.length := by simp [apR]
theorem apR_gd (m : PM) (k i : Nat) {j : Nat} (hj : j < m.next.length) : gd (apR m k i) j = (decide (j < i) && (gd m.acc k != gd m.acc j)) := by
  unfold apR; rw [gd_map (by simpa using hj), gd_getElem (by simpa using hj)]; simp
def Mad (m : PM) (M : List BRow) (k : Nat) : Prop := M.length = k ∧ ∀ x, x < k → (gd M x).2 = apR m x m.next.length
theorem Mad.add {m : PM} {M : List BRow} {k : Nat} (h : Mad m M k) (b : Nat) : Mad m (M ++ [(b, apR m k m.next.length)]) (k + 1) := by
  refine ⟨by simp [h.1], fun x hx => ?_⟩
  by_cases e : x = k
  · subst e
    have := gd_app_r (l := M) (x := ((b, apR m x m.next.length) : BRow))
    rw [h.1] at this; rw [this]
  · rw [gd_app_l (by rw [h.1]; omega)]; exact h.2 x (by omega)
theorem Mad.inv {m : PM} {M : List BRow} (h : Mad m M m.next.length) : ApInv m M := by
  have hap : ∀ k, k < m.next.length → ∀ i, i < m.next.length → ap M k i = (gd m.acc k != gd m.acc i) := fun k hk i hi => by
    unfold ap; rw [h.2 k hk, apR_gd m k _ hi]; simp [hi]
  refine ⟨⟨h.1, fun k hk => by rw [h.2 k hk, apR_len]⟩, fun k hk i hi hn => ?_, fun k hk => ?_⟩
  · rw [hap k hk i hi]; simpa using hn
  · rw [hap k hk k hk]; simp
end Go.Proofs.YtkdolgnpkjihpaaGreatDoor
namespace Go.Proofs.YtkdolgnpkjihpaaGreatDoor
open Go.RowKit
set_option linter.unusedVariables false
set_option linter.unusedSimpArgs false
theorem bd138_2_3 (a0 : Int) (a1 : Int) (w : World) : (Instr.build 138 #[(2, .int .i64 a0), (3, .int .i64 a1)]).run Tryz.prog w = .ok (.agg #[.string ⟨#[]⟩, .bool false, .int .i64 a0, .int .i64 a1]) w := by kernel_rfl
theorem bd154_0_1 (a0 : ByteArray) (a1 : Int) (w : World) : (Instr.build 154 #[(0, .string a0), (1, .int .i64 a1)]).run Tryz.prog w = .ok (.agg #[.string a0, .int .i64 a1]) w := by kernel_rfl
theorem bd24_0 (a0 : Int) (w : World) : (Instr.build 24 #[(0, .int .i64 a0)]).run Tryz.prog w = .ok (.agg #[.int .i64 a0, .string ⟨#[]⟩, .slice none 0 0]) w := by kernel_rfl
theorem bd24_0_1 (a0 : Int) (a1 : ByteArray) (w : World) : (Instr.build 24 #[(0, .int .i64 a0), (1, .string a1)]).run Tryz.prog w = .ok (.agg #[.int .i64 a0, .string a1, .slice none 0 0]) w := by kernel_rfl
theorem bd56_0 (a0 : Option Addr) (a0n a0c : Nat) (w : World) : (Instr.build 56 #[(0, .slice a0 a0n a0c)]).run Tryz.prog w = .ok (.agg #[.slice a0 a0n a0c, .slice none 0 0, .slice none 0 0]) w := by kernel_rfl
theorem bd71_0_1_2 (a0 : Int) (a1 : Int) (a2 : Int) (w : World) : (Instr.build 71 #[(0, .int .i64 a0), (1, .int .i64 a1), (2, .int .i64 a2)]).run Tryz.prog w = .ok (.agg #[.int .i64 a0, .int .i64 a1, .int .i64 a2]) w := by kernel_rfl
theorem bs152_1_0 (a0 : Int) (w : World) : (Instr.buildSlice 152 1 #[(0, .int .u8 a0)]).run Tryz.prog w = .ok (.slice (some ⟨w.heap.size, 0, none⟩) 1 1) (w.alloc (Cl [.int .u8 a0] 5)) := by kernel_rfl
theorem bs52_4_0_1_2_3 (a0 : ByteArray) (a1 : Bool) (a2 : Int) (a3 : Int) (a4 : ByteArray) (a5 : Bool) (a6 : Int) (a7 : Int) (a8 : ByteArray) (a9 : Bool) (a10 : Int) (a11 : Int) (a12 : ByteArray) (a13 : Bool) (a14 : Int) (a15 : Int) (w : World) : (Instr.buildSlice 52 4 #[(0, .agg #[.string a0, .bool a1, .int .i64 a2, .int .i64 a3]), (1, .agg #[.string a4, .bool a5, .int .i64 a6, .int .i64 a7]), (2, .agg #[.string a8, .bool a9, .int .i64 a10, .int .i64 a11]), (3, .agg #[.string a12, .bool a13, .int .i64 a14, .int .i64 a15])]).run Tryz.prog w = .ok (.slice (some ⟨w.heap.size, 0, none⟩) 4 4) (w.alloc (Cl [.string a0, .bool a1, .int .i64 a2, .int .i64 a3, .string a4, .bool a5, .int .i64 a6, .int .i64 a7, .string a8, .bool a9, .int .i64 a10, .int .i64 a11, .string a12, .bool a13, .int .i64 a14, .int .i64 a15] 138)) := by kernel_rfl
theorem bs53_6_0_1_2_3_4_5 (a0 : Int) (a1 : Int) (a2 : Int) (a3 : Int) (a4 : Int) (a5 : Int) (a6 : Int) (a7 : Int) (a8 : Int) (a9 : Int) (a10 : Int) (a11 : Int) (a12 : Int) (a13 : Int) (a14 : Int) (a15 : Int) (a16 : Int) (a17 : Int) (w : World) : (Instr.buildSlice 53 6 #[(0, .agg #[.int .i64 a0, .int .i64 a1, .int .i64 a2]), (1, .agg #[.int .i64 a3, .int .i64 a4, .int .i64 a5]), (2, .agg #[.int .i64 a6, .int .i64 a7, .int .i64 a8]), (3, .agg #[.int .i64 a9, .int .i64 a10, .int .i64 a11]), (4, .agg #[.int .i64 a12, .int .i64 a13, .int .i64 a14]), (5, .agg #[.int .i64 a15, .int .i64 a16, .int .i64 a17])]).run Tryz.prog w = .ok (.slice (some ⟨w.heap.size, 0, none⟩) 6 6) (w.alloc (Cl [.int .i64 a0, .int .i64 a1, .int .i64 a2, .int .i64 a3, .int .i64 a4, .int .i64 a5, .int .i64 a6, .int .i64 a7, .int .i64 a8, .int .i64 a9, .int .i64 a10, .int .i64 a11, .int .i64 a12, .int .i64 a13, .int .i64 a14, .int .i64 a15, .int .i64 a16, .int .i64 a17] 71)) := by kernel_rfl
theorem bs54_2_0_1 (a0 : ByteArray) (a1 : Int) (a2 : ByteArray) (a3 : Int) (w : World) : (Instr.buildSlice 54 2 #[(0, .agg #[.string a0, .int .i64 a1]), (1, .agg #[.string a2, .int .i64 a3])]).run Tryz.prog w = .ok (.slice (some ⟨w.heap.size, 0, none⟩) 2 2) (w.alloc (Cl [.string a0, .int .i64 a1, .string a2, .int .i64 a3] 154)) := by kernel_rfl
theorem fa56_2 (b o : Nat) (w : World) : (Instr.fieldAt 56 (.pointer (some ⟨b, o, none⟩)) 2).run Tryz.prog w = .ok (.pointer (some ⟨b, o + 2, none⟩)) w := by kernel_rfl
theorem bytes_ext {a b : ByteArray} (h : ¬ ¬ a.data.toList = b.data.toList) : a = b := ByteArray.ext (Array.ext' (Classical.not_not.1 h))
section
variable {P : Program} {w0 : World} {s t : TypeId} {ty : TypeId} {L : Fm} {H : List (Nat × Obj)} {x : Operand}
theorem yl_convB {e n c : Nat} {b0 : Int} (hx : Ev L x (.slice (some ⟨n, 0, none⟩) 1 c)) (hs : ∀ w, (underlying s).run P w = .ok (.slice e) w) (he : ∀ w, (underlying e).run P w = .ok (.int .u8) w) (ht : ∀ w, (underlying t).run P w = .ok .string w) (hc : Cell w0 H ⟨n, 0, none⟩ (.int .u8 b0)) :
    Yl P w0 (.convert s t x) ty L H (.string ⟨#[b0.toNat.toUInt8]⟩) := yl_of rfl fun H' hs' b w hO => by
  have hc' := hc.mono hs' w hO
  have hl : (loadCells ⟨n, 0, none⟩ 1).run P w = .ok #[.int .u8 b0] w := by
    have := run_loadCells (P := P) (b := n) (o := 0) (w := w) [.int .u8 b0] 0 #[] (fun j v hj => by
      cases j with
      | zero => simp at hj; subst hj; exact hc'
      | succ j => simp at hj)
    simpa [loadCells] using this
  simp [exO, execOp, hx b, convert, hs, ht, he, Conv.bytesToString, hl, Sem.run_bind, Result.andThen]
  rfl
end
abbrev exC (a b c d : ByteArray) : List Value := [.string a, .bool false, .int .i64 100, .int .i64 100, .string b, .bool false, .int .i64 100, .int .i64 100, .string c, .bool false, .int .i64 100, .int .i64 100, .string d, .bool false, .int .i64 100, .int .i64 100]
def exNm (j k : Nat) : ByteArray := if j < k then ⟨#[(IntKind.u8.wrap (97 + (j : Int))).toNat.toUInt8]⟩ else ⟨#[]⟩
abbrev exK (k : Nat) : List Value := exC (exNm 0 k) (exNm 1 k) (exNm 2 k) (exNm 3 k)
theorem ex_set {k : Nat} (hk : k < 4) : SetN (exK k) (0 + k * 4) (.string ⟨#[(IntKind.u8.wrap (97 + (k : Int))).toNat.toUInt8]⟩) (exK (k + 1)) := by
  match k, hk with
  | 0, _ => exact setN_of rfl
  | 1, _ => exact setN_of rfl
  | 2, _ => exact setN_of rfl
  | 3, _ => exact setN_of rfl
def exLinks : List Ln := [⟨0, 1, 10⟩, ⟨1, 3, 10⟩, ⟨0, 2, 10⟩, ⟨2, 3, 10⟩, ⟨1, 2, 10⟩, ⟨3, 0, 10⟩]
def exEdges : List Edg := [⟨⟨#[101]⟩, 0⟩, ⟨⟨#[102]⟩, 3⟩]
def exN (n1 n2 n3 : Nat) : Nn where
  nodes := [⟨⟨#[97]⟩, false, 100, 100⟩, ⟨⟨#[98]⟩, false, 100, 100⟩, ⟨⟨#[99]⟩, false, 100, 100⟩, ⟨⟨#[100]⟩, false, 100, 100⟩]
  links := exLinks
  edges := exEdges
  qn := some ⟨n1, 0, none⟩
  cn := 4
  ql := some ⟨n2, 0, none⟩
  cl := 6
  qe := some ⟨n3, 0, none⟩
  ce := 2
theorem arr_blk {α : Type} {w0 : World} {H : List (Nat × Obj)} {n sz : Nat} {enc : α → List Value} {l : List α} {cells : List Value} {e : TypeId} (he : ∀ x, (enc x).length = sz) (hc : cells = l.flatMap enc) (hf : Fnd H n (Cl cells e)) : Arr w0 H (some ⟨n, 0, none⟩) sz enc l := fun i x hi =>
  ⟨rfl, fun j v hj => by
    refine cell_get hf ?_
    rw [hc]
    have := flat_get he l i x j v hi hj
    simpa [oq] using this⟩
theorem ex_net {w0 : World} {H : List (Nat × Obj)} {n1 n2 n3 : Nat} (h1 : Fnd H n1 (Cl (exK 4) 138)) (h2 : Fnd H n2 (Cl (exLinks.flatMap encLn) 71)) : NetR w0 H (exN n1 n2 n3) where
  nodes := arr_blk (fun _ => rfl) rfl h1
  links := arr_blk (fun _ => rfl) rfl h2
theorem ex_ok (n1 n2 n3 : Nat) : NnOk (exN n1 n2 n3) where
  fewN := by simp [exN]
  fewL := by simp [exN, exLinks]
  ends := by simp [exN, exLinks]
theorem op_s {w0 : World} {H : List (Nat × Obj)} (k : Int) (q : Option Addr) (xs : List Rxm) (c : Nat) :
    FSpec Tryz.prog w0 26 #[.int .i64 k, .slice q xs.length c] H (Still (.agg (encRx (.mk k ⟨#[]⟩ q c xs)).toArray) H) := by
  refine fn_spec Tryz.func26 rfl Tryz.ntmps26 rfl (j_seq (j_region (e_ (eff_alloc Tryz.zeroValue24 cs_) ?_ rfl)))
  rintro _ _ ⟨n4, rfl, rfl⟩
  refine jl_nil (q_then (j_seq (j_region (y_ (yl_move (T rfl)) (y_ (yl_move (T rfl)) (y_ (yl_build (.cons (T rfl) (.cons (T rfl) .nil)) (bd24_0_2 _ _ _ _)) ?_ rfl) rfl) rfl))))
  first | refine jl_e (eff_sW (T rfl) (T rfl) Tryz.sizeOf24) rfl gd_n ?_
  rintro _ _ ⟨rfl, rfl⟩
  refine jl_nil (q_then (j_ret (q_ret rfl (.cellA (at_f rfl) Tryz.isAgg24 Tryz.sizeOf24 rfl (by first | exact cs_o) .nil) ?_)))
  exact ⟨_, ⟨rfl, rfl⟩, sbt⟩
theorem node_s {w0 : World} {H : List (Nat × Obj)} (s : ByteArray) :
    FSpec Tryz.prog w0 45 #[.string s] H (Still (.agg (encRx (.mk 2 s none 0 [])).toArray) H) := by
  refine fn_spec Tryz.func45 rfl Tryz.ntmps45 rfl (j_seq (j_region (e_ (eff_alloc Tryz.zeroValue24 cs_) ?_ rfl)))
  rintro _ _ ⟨n2, rfl, rfl⟩
  refine jl_nil (q_then (j_seq (j_region (y_ (yl_move (T rfl)) (y_ (yl_build (.cons ev_c (.cons (T rfl) .nil)) (bd24_0_1 _ _)) ?_ rfl) rfl))))
  first | refine jl_e (eff_sW (T rfl) (T rfl) Tryz.sizeOf24) rfl gd_n ?_
  rintro _ _ ⟨rfl, rfl⟩
  refine jl_nil (q_then (j_ret (q_ret rfl (.cellA (at_f rfl) Tryz.isAgg24 Tryz.sizeOf24 rfl (by first | exact cs_o) .nil) ?_)))
  exact ⟨_, ⟨rfl, rfl⟩, sbt⟩
theorem some_s {w0 : World} {H : List (Nat × Obj)}  :
    FSpec Tryz.prog w0 44 #[] H (Still (.agg (encRx (.mk 3 ⟨#[]⟩ none 0 [])).toArray) H) := by
  refine fn_spec Tryz.func44 rfl Tryz.ntmps44 rfl (j_seq (j_region (e_ (eff_alloc Tryz.zeroValue24 cs_) ?_ rfl)))
  rintro _ _ ⟨n0, rfl, rfl⟩
  refine jl_nil (q_then (j_seq (j_region (y_ (yl_build (.cons ev_c .nil) (bd24_0 _)) ?_ rfl))))
  first | refine jl_e (eff_sW (T rfl) (T rfl) Tryz.sizeOf24) rfl gd_n ?_
  rintro _ _ ⟨rfl, rfl⟩
  refine jl_nil (q_then (j_ret (q_ret rfl (.cellA (at_f rfl) Tryz.isAgg24 Tryz.sizeOf24 rfl (by first | exact cs_o) .nil) ?_)))
  exact ⟨_, ⟨rfl, rfl⟩, sbt⟩
theorem sameInts_s {w0 : World} {H : List (Nat × Obj)} (q q2 : Option Addr) (cap cap2 : Nat) (x y : List Int) (hx : Arr w0 H q 1 encI x) (hy : Arr w0 H q2 1 encI y) (hl : x.length ≤ 9223372036854775807) :
    FSpec Tryz.prog w0 31 #[.slice q x.length cap, .slice q2 y.length cap2] H (Still (.bool (decide (x = y))) H) := by
  refine fn_spec Tryz.func31 rfl Tryz.ntmps31 rfl (j_seq (j_region (y_ (yl_assign ev_c) (jl_nil (q_then (j_seq (j_seq (j_region (y_ (yl_move (T rfl)) (y_ (yl_len (T rfl) Tryz.runUnderlying42) (y_ (yl_move (T rfl)) (y_ (yl_len (T rfl) Tryz.runUnderlying42) (y_ (yl_neq (T rfl) (T rfl)) (jl_nil (q_then ?_)) rfl) rfl) rfl) rfl) rfl)))))) rfl)))
  first | refine j_cond_d (at_f rfl) (fun c10 => ?_) (fun c10 => ?_) | refine j_cond (at_f rfl) (fun c10 => ?_) (fun c10 => ?_)
  · refine j_seq (j_region (y_ (yl_assign ev_c) (jl_nil (q_then (j_ret (q_then_ret (q_ret rfl (.tmp (at_f rfl) .nil) ?_))))) rfl))
    exact ⟨_, ⟨by rw [decide_eq_false (fun h => c10 (by rw [h]))]; rfl, rfl⟩, sbt⟩
  · refine j_skip (q_then (j_seq (j_seq (j_region (y_ (yl_assign ev_c) (jl_nil (q_then (j_block ?_))) rfl)))))
    refine j_loopH (X := Nat) (V := fun k => [(5, .int .i64 (k : Nat))]) (C := [(0, _), (1, _)]) (φ := fun k => k ≤ x.length ∧ x.take k = y.take k) (μ := fun k => x.length - k) (x0 := 0) ?_ ⟨at_f rfl, at_f rfl, trivial⟩ ⟨(by first | exact at_f rfl | (refine at_e (at_f rfl) (vint ?_); omega) | (refine at_e (at_f rfl) ?_; simp; done)), trivial⟩ ?_
    · exact ⟨Nat.zero_le _, rfl⟩
    rintro k ⟨hk, heq⟩
    refine j_seq (j_seq (j_region (y_ (yl_move (T rfl)) (y_ (yl_move (T rfl)) (y_ (yl_len (T rfl) Tryz.runUnderlying42) (y_ (yl_lss (T rfl) (T rfl)) (jl_nil (q_then ?_)) rfl) rfl) rfl) rfl)))
    first | refine j_cond_d (at_f rfl) (fun c14 => ?_) (fun c14 => ?_) | refine j_cond (at_f rfl) (fun c14 => ?_) (fun c14 => ?_)
    · refine j_skip (q_then (j_seq (j_block (j_seq (j_any 9 [(0, true), (1, true), (2, true), (3, true), (4, true), (5, true), (6, true), (7, true), (8, true)] _ mixd (by kernel_rfl) sb0 ?_)))))
      refine o_y rfl (yl_move (T rfl)) (o_y rfl (yl_move (T rfl)) (o_y rfl (yl_ixQ (T rfl) (T rfl) Tryz.runUnderlying42 Tryz.sizeOf3 (by omega) (by first | exact rfl | exact hx.b (i := k) (by omega) | exact hy.b (i := k) (by omega))) ?_ rfl gd_n) rfl gd_n) rfl gd_n
      refine o_y rfl (yl_load (T rfl) Tryz.isAgg3 (by first | exact c_o | exact cell1 ((hx.mono sbt).cs (i := k) (by omega)) | exact cell1 ((hx.mono sbt).cs (i := k) (by omega)) | exact cell1 ((hy.mono sbt).cs (i := k) (by omega)))) ?_ rfl gd_n
      refine o_y rfl (yl_move (T rfl)) (o_y rfl (yl_move (T rfl)) (o_y rfl (yl_ixQ (T rfl) (T rfl) Tryz.runUnderlying42 Tryz.sizeOf3 (by omega) (by first | exact rfl | exact hx.b (i := k) (by omega) | exact hy.b (i := k) (by omega))) ?_ rfl gd_n) rfl gd_n) rfl gd_n
      refine o_y rfl (yl_load (T rfl) Tryz.isAgg3 (by first | exact c_o | exact cell1 ((hy.mono sbt).cs (i := k) (by omega)) | exact cell1 ((hx.mono sbt).cs (i := k) (by omega)) | exact cell1 ((hy.mono sbt).cs (i := k) (by omega)))) ?_ rfl gd_n
      refine o_y rfl (yl_neq (T rfl) (T rfl)) (jo_nil rfl (jl_nil (q_then ?_))) rfl gd_n
      first | refine j_cond_d (at_f rfl) (fun c25 => ?_) (fun c25 => ?_) | refine j_cond (at_f rfl) (fun c25 => ?_) (fun c25 => ?_)
      · refine j_seq (j_region (y_ (yl_assign ev_c) (jl_nil (q_then (j_ret (q_block_ret (q_then_ret (q_loop_ret (q_block_ret (q_then_ret (q_ret rfl (.tmp (at_f rfl) .nil) ?_))))))))) rfl))
        exact ⟨_, ⟨by rw [decide_eq_false (fun h => c25 (by rw [h]))]; rfl, rfl⟩, sbt⟩
      · refine j_skip (q_block (q_then (j_region (y_ (yl_move (T rfl)) (y_ (yl_add (T rfl) ev_c (by omega)) ?_ rfl) rfl))))
        refine y_ (yl_assign (T rfl)) (jl_nil ?_) rfl
        refine q_loopC (k + 1) ?_ ?_ ⟨(by first | exact at_f rfl | (refine at_e (at_f rfl) (vint ?_); omega) | (refine at_e (at_f rfl) ?_; simp; done)), trivial⟩ ⟨at_f rfl, at_f rfl, trivial⟩ ?_
        · exact ⟨by omega, by rw [take_gd (by omega), take_gd (by omega), heq, Classical.not_not.1 c25]⟩
        · first | omega | (simp only []; omega)
        · exact sbt
    · refine j_exit (q_then_exit (q_loop_exit (q_block_hit (q_then (j_seq (j_region (y_ (yl_assign ev_c) (jl_nil (q_then (j_ret (q_ret rfl (.tmp (at_f rfl) .nil) ?_)))) rfl)))))))
      exact ⟨_, ⟨by rw [decide_eq_true (by rw [take_end (by omega), take_end (by omega)] at heq; exact heq)]; rfl, rfl⟩, sbt⟩
theorem sameNames_s {w0 : World} {H : List (Nat × Obj)} (q q2 : Option Addr) (cap cap2 : Nat) (x y : List ByteArray) (hx : Arr w0 H q 1 encS x) (hy : Arr w0 H q2 1 encS y) (hl : x.length ≤ 9223372036854775807) :
    FSpec Tryz.prog w0 25 #[.slice q x.length cap, .slice q2 y.length cap2] H (Still (.bool (decide (x = y))) H) := by
  refine fn_spec Tryz.func25 rfl Tryz.ntmps25 rfl (j_seq (j_region (y_ (yl_assign ev_c) (jl_nil (q_then (j_seq (j_seq (j_region (y_ (yl_move (T rfl)) (y_ (yl_len (T rfl) Tryz.runUnderlying25) (y_ (yl_move (T rfl)) (y_ (yl_len (T rfl) Tryz.runUnderlying25) (y_ (yl_neq (T rfl) (T rfl)) (jl_nil (q_then ?_)) rfl) rfl) rfl) rfl) rfl)))))) rfl)))
  first | refine j_cond_d (at_f rfl) (fun c10 => ?_) (fun c10 => ?_) | refine j_cond (at_f rfl) (fun c10 => ?_) (fun c10 => ?_)
  · refine j_seq (j_region (y_ (yl_assign ev_c) (jl_nil (q_then (j_ret (q_then_ret (q_ret rfl (.tmp (at_f rfl) .nil) ?_))))) rfl))
    exact ⟨_, ⟨by rw [decide_eq_false (fun h => c10 (by rw [h]))]; rfl, rfl⟩, sbt⟩
  · refine j_skip (q_then (j_seq (j_seq (j_region (y_ (yl_assign ev_c) (jl_nil (q_then (j_block ?_))) rfl)))))
    refine j_loopH (X := Nat) (V := fun k => [(5, .int .i64 (k : Nat))]) (C := [(0, _), (1, _)]) (φ := fun k => k ≤ x.length ∧ x.take k = y.take k) (μ := fun k => x.length - k) (x0 := 0) ?_ ⟨at_f rfl, at_f rfl, trivial⟩ ⟨(by first | exact at_f rfl | (refine at_e (at_f rfl) (vint ?_); omega) | (refine at_e (at_f rfl) ?_; simp; done)), trivial⟩ ?_
    · exact ⟨Nat.zero_le _, rfl⟩
    rintro k ⟨hk, heq⟩
    refine j_seq (j_seq (j_region (y_ (yl_move (T rfl)) (y_ (yl_move (T rfl)) (y_ (yl_len (T rfl) Tryz.runUnderlying25) (y_ (yl_lss (T rfl) (T rfl)) (jl_nil (q_then ?_)) rfl) rfl) rfl) rfl)))
    first | refine j_cond_d (at_f rfl) (fun c14 => ?_) (fun c14 => ?_) | refine j_cond (at_f rfl) (fun c14 => ?_) (fun c14 => ?_)
    · refine j_skip (q_then (j_seq (j_block (j_seq (j_any 9 [(0, true), (1, true), (2, true), (3, true), (4, true), (5, true), (6, true), (7, true), (8, true)] _ mixd (by kernel_rfl) sb0 ?_)))))
      refine o_y rfl (yl_move (T rfl)) (o_y rfl (yl_move (T rfl)) (o_y rfl (yl_ixQ (T rfl) (T rfl) Tryz.runUnderlying25 Tryz.sizeOf9 (by omega) (by first | exact rfl | exact hx.b (i := k) (by omega) | exact hy.b (i := k) (by omega))) ?_ rfl gd_n) rfl gd_n) rfl gd_n
      refine o_y rfl (yl_load (T rfl) Tryz.isAgg9 (by first | exact c_o | exact cell1 ((hx.mono sbt).cs (i := k) (by omega)) | exact cell1 ((hx.mono sbt).cs (i := k) (by omega)) | exact cell1 ((hy.mono sbt).cs (i := k) (by omega)))) ?_ rfl gd_n
      refine o_y rfl (yl_move (T rfl)) (o_y rfl (yl_move (T rfl)) (o_y rfl (yl_ixQ (T rfl) (T rfl) Tryz.runUnderlying25 Tryz.sizeOf9 (by omega) (by first | exact rfl | exact hx.b (i := k) (by omega) | exact hy.b (i := k) (by omega))) ?_ rfl gd_n) rfl gd_n) rfl gd_n
      refine o_y rfl (yl_load (T rfl) Tryz.isAgg9 (by first | exact c_o | exact cell1 ((hy.mono sbt).cs (i := k) (by omega)) | exact cell1 ((hx.mono sbt).cs (i := k) (by omega)) | exact cell1 ((hy.mono sbt).cs (i := k) (by omega)))) ?_ rfl gd_n
      refine o_y rfl (yl_neSD (T rfl) (T rfl)) (jo_nil rfl (jl_nil (q_then ?_))) rfl gd_n
      first | refine j_cond_d (at_f rfl) (fun c25 => ?_) (fun c25 => ?_) | refine j_cond (at_f rfl) (fun c25 => ?_) (fun c25 => ?_)
      · refine j_seq (j_region (y_ (yl_assign ev_c) (jl_nil (q_then (j_ret (q_block_ret (q_then_ret (q_loop_ret (q_block_ret (q_then_ret (q_ret rfl (.tmp (at_f rfl) .nil) ?_))))))))) rfl))
        exact ⟨_, ⟨by rw [decide_eq_false (fun h => c25 (by rw [h]))]; rfl, rfl⟩, sbt⟩
      · refine j_skip (q_block (q_then (j_region (y_ (yl_move (T rfl)) (y_ (yl_add (T rfl) ev_c (by omega)) ?_ rfl) rfl))))
        refine y_ (yl_assign (T rfl)) (jl_nil ?_) rfl
        refine q_loopC (k + 1) ?_ ?_ ⟨(by first | exact at_f rfl | (refine at_e (at_f rfl) (vint ?_); omega) | (refine at_e (at_f rfl) ?_; simp; done)), trivial⟩ ⟨at_f rfl, at_f rfl, trivial⟩ ?_
        · exact ⟨by omega, by rw [take_gd (by omega), take_gd (by omega), heq, bytes_ext c25]⟩
        · first | omega | (simp only []; omega)
        · exact sbt
    · refine j_exit (q_then_exit (q_loop_exit (q_block_hit (q_then (j_seq (j_region (y_ (yl_assign ev_c) (jl_nil (q_then (j_ret (q_ret rfl (.tmp (at_f rfl) .nil) ?_)))) rfl)))))))
      exact ⟨_, ⟨by rw [decide_eq_true (by rw [take_end (by omega), take_end (by omega)] at heq; exact heq)]; rfl, rfl⟩, sbt⟩
theorem example_s {w0 : World} {H : List (Nat × Obj)} :
    FSpec Tryz.prog w0 43 #[] H (fun v H' => ∃ y : Nat × Nat × Nat, v = .agg (encNn (exN y.1 y.2.1 y.2.2)).toArray ∧ H' = (y.2.2, Cl (exEdges.flatMap encE) 154) :: (y.2.1, Cl (exLinks.flatMap encLn) 71) :: (y.1, Cl (exK 4) 138) :: H) := by
  refine fn_spec Tryz.func43 rfl Tryz.ntmps43 rfl (j_seq (j_region (e_ (eff_alloc Tryz.zeroValue56 cs_) ?_ rfl)))
  rintro _ _ ⟨n0, rfl, rfl⟩
  refine jl_nil (q_then (j_seq (j_region (y_ (yl_build (.cons ev_c (.cons ev_c .nil)) (bd138_2_3 _ _)) (e_ (eff_alloc Tryz.zeroValue138 cs_) ?_ rfl) rfl))))
  rintro _ _ ⟨n1, rfl, rfl⟩
  first | refine jl_e (eff_sW (T rfl) (T rfl) Tryz.sizeOf138) rfl gd_n ?_
  rintro _ _ ⟨rfl, rfl⟩
  refine jl_nil (q_then (j_seq (j_region (y_ (yl_loadA (T rfl) Tryz.isAgg138 Tryz.sizeOf138 rfl (by first | exact cs_o)) ?_ rfl))))
  refine y_ (yl_loadA (T rfl) Tryz.isAgg138 Tryz.sizeOf138 rfl (by first | exact cs_o)) ?_ rfl
  refine y_ (yl_loadA (T rfl) Tryz.isAgg138 Tryz.sizeOf138 rfl (by first | exact cs_o)) ?_ rfl
  refine y_ (yl_loadA (T rfl) Tryz.isAgg138 Tryz.sizeOf138 rfl (by first | exact cs_o)) ?_ rfl
  refine e_ (eff_bslice (.cons (T rfl) (.cons (T rfl) (.cons (T rfl) (.cons (T rfl) .nil)))) (bs52_4_0_1_2_3 _ _ _ _ _ _ _ _ _ _ _ _ _ _ _ _)) ?_ rfl
  rintro _ _ ⟨n9, rfl, rfl⟩
  refine y_ (yl_build (.cons (T rfl) .nil) (bd56_0 _ _ _)) (e_ (eff_alloc Tryz.zeroValue56 cs_) ?_ rfl) rfl
  rintro _ _ ⟨n2, rfl, rfl⟩
  first | refine jl_e (eff_sW (T rfl) (T rfl) Tryz.sizeOf56) rfl gd_n ?_
  rintro _ _ ⟨rfl, rfl⟩
  refine jl_nil (q_then (j_seq (j_seq (j_region (y_ (yl_assign ev_c) (jl_nil (q_then (j_block ?_))) rfl)))))
  refine j_loopC (X := Nat) (V := fun k => [(3, .int .i64 (k : Nat))]) (C := [(0, _), (2, _)]) (G := fun k => (n2, Cl [.slice (some ⟨n9, 0, none⟩) 4 4, .slice none 0 0, .slice none 0 0] 56) :: (n9, Cl (exK k) 138) :: (n1, Cl [.string ⟨#[]⟩, .bool false, .int .i64 100, .int .i64 100] 138) :: (n0, Cl [.slice none 0 0, .slice none 0 0, .slice none 0 0] 56) :: H) (φ := fun k => k ≤ 4) (μ := fun k => 4 - k) (x0 := 0) ?_ ⟨at_f rfl, at_f rfl, trivial⟩ ⟨(by first | exact at_f rfl | (refine at_e (at_f rfl) (vint ?_); omega) | (refine at_e (at_f rfl) ?_; simp; done)), trivial⟩ sb0 ?_
  · show 0 ≤ 4; omega
  rintro k hk
  refine j_seq (j_seq (j_region (y_ (yl_move (T rfl)) (y_ (yl_lss (T rfl) ev_c) (jl_nil (q_then ?_)) rfl) rfl)))
  first | refine j_cond_d (at_f rfl) (fun c12 => ?_) (fun c12 => ?_) | refine j_cond (at_f rfl) (fun c12 => ?_) (fun c12 => ?_)
  · refine j_skip (q_then (j_seq (j_block (j_region (y_ (yl_fa0 (T rfl) fa56_0) (y_ (yl_load (T rfl) Tryz.isAgg52 (by first | exact c_o)) ?_ rfl) rfl)))))
    refine y_ (yl_move (T rfl)) (y_ (yl_move (T rfl)) (y_ (yl_add ev_c (T rfl) (by omega)) ?_ rfl) rfl) rfl
    refine y_ (yl_convI (T rfl) Tryz.runUnderlying3 Tryz.runUnderlying5) (e_ (eff_bslice (.cons (T rfl) .nil) (bs152_1_0 _)) ?_ rfl) rfl
    rintro _ _ ⟨n21, rfl, rfl⟩
    refine y_ (yl_convB (T rfl) Tryz.runUnderlying152 Tryz.runUnderlying5 Tryz.runUnderlying9 (by first | exact c_o)) ?_ rfl
    refine y_ (yl_ixQ (T rfl) (T rfl) Tryz.runUnderlying52 Tryz.sizeOf138 (by omega) (by first | exact rfl)) ?_ rfl
    refine y_ (yl_fa0 (T rfl) fa138_0) (e_ (eff_store1 (T rfl) (T rfl) rfl Tryz.sizeOf9 (ex_set (k := k) (by omega)) (by repeat (first | exact Upd.h | apply Upd.t | apply upd_a))) ?_ rfl) rfl
    rintro _ _ ⟨rfl, rfl⟩
    refine jl_nil (q_block (q_then (j_region (y_ (yl_move (T rfl)) (y_ (yl_add (T rfl) ev_c (by omega)) ?_ rfl) rfl))))
    refine y_ (yl_assign (T rfl)) (jl_nil ?_) rfl
    refine q_loopC (k + 1) ?_ ?_ ⟨(by first | exact at_f rfl | (refine at_e (at_f rfl) (vint ?_); omega) | (refine at_e (at_f rfl) ?_; simp; done)), trivial⟩ ⟨at_f rfl, at_f rfl, trivial⟩ ?_
    · show k + 1 ≤ 4; omega
    · first | omega | (simp only []; omega)
    · exact sbt
  · refine j_exit (q_then_exit (q_loop_exit (q_block_hit (q_then (j_seq (j_region (y_ (yl_build (.cons ev_c (.cons ev_c (.cons ev_c .nil))) (bd71_0_1_2 _ _ _)) (y_ (yl_build (.cons ev_c (.cons ev_c (.cons ev_c .nil))) (bd71_0_1_2 _ _ _)) (y_ (yl_build (.cons ev_c (.cons ev_c (.cons ev_c .nil))) (bd71_0_1_2 _ _ _)) (y_ (yl_build (.cons ev_c (.cons ev_c (.cons ev_c .nil))) (bd71_0_1_2 _ _ _)) (y_ (yl_build (.cons ev_c (.cons ev_c (.cons ev_c .nil))) (bd71_0_1_2 _ _ _)) (y_ (yl_build (.cons ev_c (.cons ev_c (.cons ev_c .nil))) (bd71_0_1_2 _ _ _)) (e_ (eff_bslice (.cons (T rfl) (.cons (T rfl) (.cons (T rfl) (.cons (T rfl) (.cons (T rfl) (.cons (T rfl) .nil)))))) (bs53_6_0_1_2_3_4_5 _ _ _ _ _ _ _ _ _ _ _ _ _ _ _ _ _ _)) ?_ rfl) rfl) rfl) rfl) rfl) rfl) rfl)))))))
    rintro _ _ ⟨n31, rfl, rfl⟩
    refine y_ (yl_fa (T rfl) fa56_1) ?_ rfl
    first | refine jl_e (eff_sW (T rfl) (T rfl) Tryz.sizeOf53) rfl gd_n ?_ | refine jl_e (eff_s1 (T rfl) (T rfl) rfl Tryz.sizeOf53) rfl gd_n ?_ | refine jl_e (eff_s1r (T rfl) (T rfl) rfl Tryz.sizeOf53) rfl gd_n ?_
    rintro _ _ ⟨rfl, rfl⟩
    refine jl_nil (q_then (j_seq (j_region (y_ (yl_build (.cons ev_c (.cons ev_c .nil)) (bd154_0_1 _ _)) (y_ (yl_build (.cons ev_c (.cons ev_c .nil)) (bd154_0_1 _ _)) (e_ (eff_bslice (.cons (T rfl) (.cons (T rfl) .nil)) (bs54_2_0_1 _ _ _ _)) ?_ rfl) rfl) rfl))))
    rintro _ _ ⟨n35, rfl, rfl⟩
    refine y_ (yl_fa (T rfl) fa56_2) ?_ rfl
    first | refine jl_e (eff_sW (T rfl) (T rfl) Tryz.sizeOf54) rfl gd_n ?_ | refine jl_e (eff_s1 (T rfl) (T rfl) rfl Tryz.sizeOf54) rfl gd_n ?_ | refine jl_e (eff_s1r (T rfl) (T rfl) rfl Tryz.sizeOf54) rfl gd_n ?_
    rintro _ _ ⟨rfl, rfl⟩
    refine jl_nil (q_then (j_seq (j_region (y_ (yl_loadA (T rfl) Tryz.isAgg56 Tryz.sizeOf56 rfl (by first | exact cs_o)) ?_ rfl))))
    first | refine jl_e (eff_sW (T rfl) (T rfl) Tryz.sizeOf56) rfl gd_n ?_
    rintro _ _ ⟨rfl, rfl⟩
    refine jl_nil (q_then (j_ret (q_ret rfl (.cellA (at_f rfl) Tryz.isAgg56 Tryz.sizeOf56 rfl (by first | exact cs_o) .nil) ?_)))
    have e4 : k = 4 := by omega
    subst e4
    exact ⟨_, ⟨(n9, n31, n35), rfl, rfl⟩, sbt⟩
end Go.Proofs.YtkdolgnpkjihpaaGreatDoor
namespace Go.Proofs.YtkdolgnpkjihpaaGreatDoor
open Go.RowKit
set_option linter.unusedVariables false
set_option linter.unusedSimpArgs false
theorem sF1 (n1 n2 n3 : Nat) (q : Option Addr) (c : Nat) : findF (exN n1 n2 n3) ⟨q, c, [], -1⟩ sM 0 3 = ([2, 3], 0) := by kernel_rfl
theorem sF2 (n1 n2 n3 : Nat) (q : Option Addr) (c : Nat) : findF (exN n1 n2 n3) ⟨q, c, [2], -1⟩ sM 0 3 = ([0, 4, 3], 0) := by kernel_rfl
theorem sF3 (n1 n2 n3 : Nat) (q : Option Addr) (c : Nat) : findF (exN n1 n2 n3) ⟨q, c, [], -1⟩ sM 1 3 = ([], 18) := by kernel_rfl
theorem sMet (n1 n2 n3 : Nat) (q : Option Addr) (c : Nat) : metF (exN n1 n2 n3) ⟨q, c, [], -1⟩ sM 1 = [(1, 2), (3, 2), (2, 2), (0, 2)] := by kernel_rfl
theorem sHo (n1 n2 n3 : Nat) (q : Option Addr) (c : Nat) : holdsF (exN n1 n2 n3) ⟨q, c, [], -1⟩ sX 0 3 [2, 3] = true := by kernel_rfl
theorem sRe (n1 n2 n3 : Nat) (q : Option Addr) (c : Nat) : decide (RefOk (exN n1 n2 n3) ⟨q, c, [], -1⟩ sM 1 3 [(0, 2), (1, 2), (2, 2), (3, 2)]) = true := by kernel_rfl
theorem sReach {n1 n2 n3 : Nat} {q : Option Addr} {c : Nat} {ks : List Pl} (h : Reach (exN n1 n2 n3) ⟨q, c, [], -1⟩ sM 1 ks) : ks = [(0, 2), (1, 2), (2, 2), (3, 2)] := by
  have h1 := h.1
  rw [if_neg (show ¬ (-1 : Int) = ((1 : Nat) : Int) by decide), sMet] at h1
  have h3 : ks.Perm [(0, 2), (1, 2), (2, 2), (3, 2)] := h1.trans (by decide)
  refine h3.eq_of_pairwise (fun a b ha hb hab hba => ?_) h.2 (by decide)
  have h1 : a ∈ [(0, 2), (1, 2), (2, 2), (3, 2)] := h3.mem_iff.1 ha
  simp only [List.mem_cons, List.not_mem_nil, or_false] at h1 hb
  rcases h1 with rfl | rfl | rfl | rfl <;> rcases hb with rfl | rfl | rfl | rfl <;> first | rfl | (revert hab hba; decide)
end Go.Proofs.YtkdolgnpkjihpaaGreatDoor
namespace Go.Proofs.YtkdolgnpkjihpaaGreatDoor
open Go.RowKit
set_option linter.unusedVariables false
set_option linter.unusedSimpArgs false
theorem still_b {P : Program} {w0 : World} {f : FuncId} {args : Array Value} {H : List (Nat × Obj)} {b c : Bool} (e : b = c) (h : FSpec P w0 f args H (Still (.bool b) H)) : FSpec P w0 f args H (Still (.bool c) H) := e ▸ h
theorem rx0 {w0 : World} {H : List (Nat × Obj)} {k : Int} {s : ByteArray} (hs : s.size ≤ 9223372036854775807 := by decide) : RxM w0 H (.mk k s none 0 []) := .mk (fun i x hi => by cases hi) (fun a ha => by cases ha) hs (by decide)
theorem rx1 {w0 : World} {H : List (Nat × Obj)} {k : Int} {n : Nat} {a : Rxm} (h : RxM w0 H a) (hf : Fnd H n (Cl (encRx a) 24) := by repeat (first | exact fnd_h | refine fnd_t ?_ | refine fnd_a ?_)) : RxM w0 H (.mk k ⟨#[]⟩ (some ⟨n, 0, none⟩) 1 [a]) :=
  .mk (arr_blk (fun _ => rfl) (by simp) hf) (fun x hx => by rw [List.mem_singleton] at hx; subst hx; exact h) (by decide) (by simp)
theorem rx2 {w0 : World} {H : List (Nat × Obj)} {k : Int} {n : Nat} {a b : Rxm} (h1 : RxM w0 H a) (h2 : RxM w0 H b) (hf : Fnd H n (Cl (encRx a ++ encRx b) 24) := by repeat (first | exact fnd_h | refine fnd_t ?_ | refine fnd_a ?_)) : RxM w0 H (.mk k ⟨#[]⟩ (some ⟨n, 0, none⟩) 2 [a, b]) :=
  .mk (arrRx2 hf) (fun x hx => by simp only [List.mem_cons, List.not_mem_nil, or_false] at hx; rcases hx with rfl | rfl <;> assumption) (by decide) (by simp)
theorem buildM_s {w0 : World} {H : List (Nat × Obj)} (m : Rxm) (e : Re) (hI : Is m e) (hM : RxM w0 H m) (hl : e.lv ≤ 64) {pm : PM} {cc : Int} (hb : buildF leastF e = (pm, cc)) :
    FSpec Tryz.prog w0 12 #[.agg (encRx m).toArray] H (fun v H' => ∃ (y : Mc) (M : List (Nat × Obj)), (v = .tuple #[.agg (encMc y).toArray, .int .i64 cc] ∧ y.pl = pm ∧ McOk w0 (M ++ H) y) ∧ H' = M ++ H) := by
  have h := buildL_s (w0 := w0) H m e hI hM hl
  rw [hb] at h
  refine h.mono fun v H' hk => ?_
  obtain ⟨y, ⟨rfl, hok, ho⟩, rfl⟩ := hk
  refine ⟨mcOf pm.names (slQ y.1) (slC y.1) y.2 pm.acc, rowsH y.2.2.2 ++ (slH y.2.1 (y.2.2.2.flatMap encRow) 42 ++ (slH y.2.2.1 (pm.acc.flatMap encB1) 4 ++ slH y.1 (pm.names.flatMap encS) 9)), ⟨by rw [mcOf_enc], mcOf_pl ho, ?_⟩, by simp only [List.append_assoc]⟩
  have h2 := mcOf_ok (w0 := w0) (names := pm.names) (q1 := slQ y.1) (c1 := slC y.1) (H := slH y.1 (pm.names.flatMap encS) 9 ++ H) ho ((sl_arr (X := H) (enc := encS) (sz := 1) (e := 9) (l := pm.names) (fun _ => rfl) hok).mono (by exact sbt))
  simpa only [List.append_assoc, mOut] using h2
theorem equalE_s {w0 : World} {H : List (Nat × Obj)} (m1 m2 : Rxm) (ea eb : Re) (hIa : Is m1 ea) (hIb : Is m2 eb) (hMa : RxM w0 H m1) (hMb : RxM w0 H m2) (hla : ea.lv ≤ 32) (hlb : eb.lv ≤ 32) {l : List ByteArray} {b : Bool} {c : Int} (he : equalF ea eb = (l, b, c)) :
    FSpec Tryz.prog w0 23 #[.agg (encRx m1).toArray, .agg (encRx m2).toArray] H (fun v H' => ∃ d : Sl, (v = .tuple #[slV d l.length, .bool b, .int .i64 c] ∧ SlOk d l.length 1) ∧ H' = slH d (l.flatMap encS) 9 ++ H) := by
  have h := equal_s m1 m2 ea eb hIa hIb hMa hMb hla hlb
  rw [he] at h
  exact h
theorem findE_s {w0 : World} {H : List (Nat × Obj)} (n : Nn) (f : Flr) (m : Mc) (he : Env w0 H n f m) (ho : EnvOk n f m) (x : Nat) (hx : x < n.nodes.length) (to : Nat) {l : List Nat} {c : Int} (hf : findF n f m.pl x to = (l, c)) :
    FSpec Tryz.prog w0 29 #[.agg (encNn n).toArray, .agg (encFl f).toArray, .agg (encMc m).toArray, .int .i64 (x : Int), .int .i64 (to : Int)] H (fun v H' => ∃ d : Sl, (v = .tuple #[slV d l.length, .int .i64 c] ∧ SlOk d l.length 1) ∧ H' = slH d (l.flatMap encU) 3 ++ H) := by
  have h := find_s n f m he ho x hx to
  rw [hf] at h
  exact h
theorem reachedE_s {w0 : World} {H : List (Nat × Obj)} (n : Nn) (f : Flr) (m : Mc) (he : Env w0 H n f m) (ho : EnvOk n f m) (x : Nat) (hx : x < n.nodes.length) :
    FSpec Tryz.prog w0 35 #[.agg (encNn n).toArray, .agg (encFl f).toArray, .agg (encMc m).toArray, .int .i64 (x : Int)] H (fun v H' => ∃ (d : Sl) (l : List Pl), (v = slV d l.length ∧ SlOk d l.length 2 ∧ Reach n f m.pl x l) ∧ H' = slH d (l.flatMap encPl) 74 ++ H) :=
  (reached_s n f m he ho x hx).mono fun v H' ⟨y, h1, h2⟩ => ⟨y.1, y.2, h1, h2⟩
theorem arrUI {w0 : World} {H : List (Nat × Obj)} {q : Option Addr} {l : List Nat} (h : Arr w0 H q 1 encU l) : Arr w0 H q 1 encI (l.map fun k : Nat => (k : Int)) := fun i x hi => by
  rw [List.getElem?_map] at hi
  cases hl : l[i]? with
  | none => rw [hl] at hi; cases hi
  | some k =>
    rw [hl] at hi
    have : (k : Int) = x := by simpa using hi
    subst this
    exact h i k hl
theorem arrPP {w0 : World} {H : List (Nat × Obj)} {q : Option Addr} {l : List Pl} (h : Arr w0 H q 2 encPl l) : Arr w0 H q 2 encPI (l.map toI) := fun i x hi => by
  rw [List.getElem?_map] at hi
  cases hl : l[i]? with
  | none => rw [hl] at hi; cases hi
  | some k =>
    rw [hl] at hi
    have : toI k = x := by simpa using hi
    subst this
    exact h i k hl
def miOf (m : Mc) : Mi := ⟨m.names, m.rows.map fun r => ⟨r.q, r.c, r.l.map fun k : Nat => (k : Int)⟩, m.acc, m.q1, m.c1, m.q2, m.c2, m.q3, m.c3⟩
theorem miOf_enc (m : Mc) : encMi (miOf m) = encMc m := by simp [miOf]
theorem miOf_ok {w0 : World} {H : List (Nat × Obj)} {m : Mc} (h : McOk w0 H m) (hp : PMok m.pl) (hl : m.names.length ≤ 100) : MiOk w0 H (miOf m) := by
  have hrl : m.pl.next.length = m.rows.length := List.length_map ..
  refine ⟨h.a1, fun i x hi => ?_, h.a3, fun r hr => ?_, show m.names.length ≤ _ by omega, ?_, fun r hr => ?_⟩
  · simp only [miOf, List.getElem?_map] at hi
    cases hl : m.rows[i]? with
    | none => rw [hl] at hi; cases hi
    | some r =>
      rw [hl] at hi
      have h1 := h.a2 i r hl
      have : (⟨r.q, r.c, r.l.map fun k : Nat => (k : Int)⟩ : RowI) = x := by simpa using hi
      subst this
      have e : encRI ⟨r.q, r.c, r.l.map fun k : Nat => (k : Int)⟩ = encRQ r := by simp [encRI, encRQ]
      rw [e]; exact h1
  · simp only [miOf, List.mem_map] at hr
    obtain ⟨r0, h0, rfl⟩ := hr
    exact arrUI (h.r r0 h0)
  · have := hp.few
    simp only [miOf, List.length_map]; omega
  · simp only [miOf, List.mem_map] at hr
    obtain ⟨r0, h0, rfl⟩ := hr
    have := (hp.row r0.l (by simp only [Mc.pl, List.mem_map]; exact ⟨r0, h0, rfl⟩)).1
    simp only [List.length_map]
    rw [this]; show m.names.length + 1 ≤ _; omega
theorem compact_srt {names : List ByteArray} (h : Srt names) : (cptB names).length = names.length := by
  have h1 : (names.map toL).Pairwise (· < ·) := by rw [List.pairwise_map]; exact h
  have h2 := compact_incrU (names.map toL) (h1.imp fun h => Std.le_of_lt h)
  have h3 : Lib.compact (names.map toL) = names.map toL := by
    refine List.Perm.eq_of_pairwise (le := (· < ·)) (fun a b _ _ hab hba => absurd (ltU_trans hab hba) (List.lt_irrefl a)) h2.1 h1 ?_
    refine (List.perm_ext_iff_of_nodup (h2.1.imp fun hab e => by subst e; exact List.lt_irrefl _ hab) (h1.imp fun hab e => by subst e; exact List.lt_irrefl _ hab)).2 h2.2
  unfold cptB; rw [h3]; simp
theorem gd_lt_srt {names : List ByteArray} (h : Srt names) {i : Nat} (hi : i < names.length) (h0 : 0 < i) : toL (gd names (i - 1)) < toL (gd names i) := by
  rw [gd_getElem hi, gd_getElem (show i - 1 < names.length by omega)]
  exact List.pairwise_iff_getElem.1 h (i - 1) i (by omega) hi (by omega)
theorem chk_yes {m : Mc} (hp : PMok m.pl) (hs : Srt m.names) : chkI (miOf m) = true := by
  have hrl : m.pl.next.length = m.rows.length := List.length_map ..
  have e1 := hp.some'
  have e2 := hp.few
  have e3 : m.acc.length = m.pl.next.length := hp.acc
  have e4 : isSrt m.names = true := decide_eq_true fun i hi h0 h => absurd (ltU_trans h (gd_lt_srt hs hi h0)) (List.lt_irrefl _)
  have e5 : (m.rows.map fun r => (⟨r.q, r.c, r.l.map fun k : Nat => (k : Int)⟩ : RowI)).any (fun r => badRow m.names.length (m.rows.map fun r => (⟨r.q, r.c, r.l.map fun k : Nat => (k : Int)⟩ : RowI)).length r.l) = false := by
    rw [List.any_eq_false]
    intro r hr
    rw [List.mem_map] at hr
    obtain ⟨r0, h0, rfl⟩ := hr
    have h1 := hp.row r0.l (by simp only [Mc.pl, List.mem_map]; exact ⟨r0, h0, rfl⟩)
    have h2 : r0.l.length = m.names.length + 1 := h1.1
    simp only [badRow, List.length_map, Bool.or_eq_true, decide_eq_true_eq, List.any_eq_true, not_or, not_exists, not_and]
    refine ⟨by omega, fun x hx => ?_⟩
    rw [List.mem_map] at hx
    obtain ⟨s, h3, rfl⟩ := hx
    have := h1.2 s h3
    simp only [badTo, Bool.or_eq_true, decide_eq_true_eq]
    omega
  have hl : (miOf m).rows.length = m.rows.length := List.length_map ..
  have a1 : decide ((miOf m).rows.length = 0) = false := decide_eq_false (by omega)
  have a2 : decide (200 < (miOf m).rows.length) = false := decide_eq_false (by omega)
  have a3 : decide (¬ (miOf m).acc.length = (miOf m).rows.length) = false := decide_eq_false (by show ¬ ¬ m.acc.length = _; omega)
  have a4 : isSrt (miOf m).names = true := e4
  have a5 : decide (¬ (cptB (miOf m).names).length = (miOf m).names.length) = false := decide_eq_false (by show ¬ ¬ (cptB m.names).length = m.names.length; rw [compact_srt hs]; simp)
  have a6 : ((miOf m).rows.any fun r => badRow (miOf m).names.length (miOf m).rows.length r.l) = false := e5
  unfold chkI
  rw [a1, a2, a3, a4, a5, a6]
  rfl
theorem chkM_s {w0 : World} {H : List (Nat × Obj)} (m : Mc) (hm : McOk w0 H m) (hp : PMok m.pl) (hs : Srt m.names) (hl : m.names.length ≤ 100) :
    FSpec Tryz.prog w0 18 #[.agg (encMc m).toArray] H (Still (.bool true) H) := by
  have h := still_b (chk_yes hp hs) (pcheck_s (miOf m) (miOf_ok hm hp hl))
  rw [miOf_enc] at h
  exact h
theorem sM_ok : PMok sM := by
  have := (build_ok (e := sX) (by decide) (by rw [sX_build])).1
  rw [sX_build] at this; exact this
theorem sM_srt : Srt sM.names := by
  have := (build_ok (e := sX) (by decide) (by rw [sX_build])).2
  rw [sX_build] at this; exact this
end Go.Proofs.YtkdolgnpkjihpaaGreatDoor
namespace Go.Proofs.YtkdolgnpkjihpaaGreatDoor
open Go.RowKit
set_option linter.unusedVariables false
set_option linter.unusedSimpArgs false
theorem bd58_0_1 (a0 : Option Addr) (a0n a0c : Nat) (a1 : Int) (w : World) : (Instr.build 58 #[(0, .slice a0 a0n a0c), (1, .int .i64 a1)]).run Tryz.prog w = .ok (.agg #[.slice a0 a0n a0c, .int .i64 a1]) w := by kernel_rfl
theorem bd58_1 (a0 : Int) (w : World) : (Instr.build 58 #[(1, .int .i64 a0)]).run Tryz.prog w = .ok (.agg #[.slice none 0 0, .int .i64 a0]) w := by kernel_rfl
theorem bs22_1_0 (a0 : Int) (a1 : ByteArray) (a2 : Option Addr) (a2n a2c : Nat) (w : World) : (Instr.buildSlice 22 1 #[(0, .agg #[.int .i64 a0, .string a1, .slice a2 a2n a2c])]).run Tryz.prog w = .ok (.slice (some ⟨w.heap.size, 0, none⟩) 1 1) (w.alloc (Cl [.int .i64 a0, .string a1, .slice a2 a2n a2c] 24)) := by kernel_rfl
theorem bs25_2_0_1 (a0 : ByteArray) (a1 : ByteArray) (w : World) : (Instr.buildSlice 25 2 #[(0, .string a0), (1, .string a1)]).run Tryz.prog w = .ok (.slice (some ⟨w.heap.size, 0, none⟩) 2 2) (w.alloc (Cl [.string a0, .string a1] 9)) := by kernel_rfl
theorem bs25_3_0_1_2 (a0 : ByteArray) (a1 : ByteArray) (a2 : ByteArray) (w : World) : (Instr.buildSlice 25 3 #[(0, .string a0), (1, .string a1), (2, .string a2)]).run Tryz.prog w = .ok (.slice (some ⟨w.heap.size, 0, none⟩) 3 3) (w.alloc (Cl [.string a0, .string a1, .string a2] 9)) := by kernel_rfl
theorem bs42_3_0_1_2 (a0 : Int) (a1 : Int) (a2 : Int) (w : World) : (Instr.buildSlice 42 3 #[(0, .int .i64 a0), (1, .int .i64 a1), (2, .int .i64 a2)]).run Tryz.prog w = .ok (.slice (some ⟨w.heap.size, 0, none⟩) 3 3) (w.alloc (Cl [.int .i64 a0, .int .i64 a1, .int .i64 a2] 3)) := by kernel_rfl
theorem still_v {P : Program} {w0 : World} {f : FuncId} {args : Array Value} {H : List (Nat × Obj)} {b c : Value} (e : b = c) (h : FSpec P w0 f args H (Still b H)) : FSpec P w0 f args H (Still c H) := e ▸ h
theorem rxx_own {w0 : World} {H H' : List (Nat × Obj)} {n27 n31 n34 n37 : Nat} (h1 : Fnd H n27 (Cl (encRx (.mk 3 ⟨#[]⟩ none 0 [])) 24)) (h2 : Fnd H n31 (Cl (encRx (.mk 2 ⟨#[97]⟩ none 0 []) ++ encRx (.mk 6 ⟨#[]⟩ (some ⟨n27, 0, none⟩) 1 [(.mk 3 ⟨#[]⟩ none 0 [])])) 24)) (h3 : Fnd H n34 (Cl (encRx (.mk 4 ⟨#[]⟩ (some ⟨n31, 0, none⟩) 2 [(.mk 2 ⟨#[97]⟩ none 0 []), (.mk 6 ⟨#[]⟩ (some ⟨n27, 0, none⟩) 1 [(.mk 3 ⟨#[]⟩ none 0 [])])]) ++ encRx (.mk 2 ⟨#[99]⟩ none 0 [])) 24)) (h4 : Fnd H n37 (Cl (encRx (.mk 4 ⟨#[]⟩ (some ⟨n34, 0, none⟩) 2 [(.mk 4 ⟨#[]⟩ (some ⟨n31, 0, none⟩) 2 [(.mk 2 ⟨#[97]⟩ none 0 []), (.mk 6 ⟨#[]⟩ (some ⟨n27, 0, none⟩) 1 [(.mk 3 ⟨#[]⟩ none 0 [])])]), (.mk 2 ⟨#[99]⟩ none 0 [])]) ++ encRx (.mk 6 ⟨#[]⟩ (some ⟨n27, 0, none⟩) 1 [(.mk 3 ⟨#[]⟩ none 0 [])])) 24)) (hs : H.Sublist H') : RxM w0 H' (.mk 4 ⟨#[]⟩ (some ⟨n37, 0, none⟩) 2 [(.mk 4 ⟨#[]⟩ (some ⟨n34, 0, none⟩) 2 [(.mk 4 ⟨#[]⟩ (some ⟨n31, 0, none⟩) 2 [(.mk 2 ⟨#[97]⟩ none 0 []), (.mk 6 ⟨#[]⟩ (some ⟨n27, 0, none⟩) 1 [(.mk 3 ⟨#[]⟩ none 0 [])])]), (.mk 2 ⟨#[99]⟩ none 0 [])]), (.mk 6 ⟨#[]⟩ (some ⟨n27, 0, none⟩) 1 [(.mk 3 ⟨#[]⟩ none 0 [])])]) :=
  (rx2 (rx2 (rx2 rx0 (rx1 rx0 h1) h2) rx0 h3) (rx1 rx0 h1) h4).mono hs
theorem sRe' {m : Mc} (h : m.pl = sM) (n1 n2 n3 : Nat) : decide (RefOk (exN n1 n2 n3) ⟨none, 0, [], -1⟩ m.pl 1 3 ([(0, 2), (1, 2), (2, 2), (3, 2)].map toI)) = true := by rw [h]; exact sRe n1 n2 n3 _ _
set_option maxHeartbeats 2000000 in
theorem sanity_s {w0 : World} {H : List (Nat × Obj)}  :
    FSpec Tryz.prog w0 11 #[] H (Still (.bool true) H) := by
  refine fn_spec Tryz.func11 rfl Tryz.ntmps11 rfl (j_seq (j_region (y_ (yl_assign ev_c) (jl_nil (q_then (j_seq (j_region (e_ (eff_call .nil Tryz.call43 (example_s)) ?_ rfl))))) rfl)))
  rintro _ _ ⟨⟨x1, x2, x3⟩, rfl, rfl⟩
  refine e_ (eff_alloc Tryz.zeroValue56 cs_) ?_ rfl
  rintro _ _ ⟨n1, rfl, rfl⟩
  first | refine jl_e (eff_sW (T rfl) (T rfl) Tryz.sizeOf56) rfl gd_n ?_
  rintro _ _ ⟨rfl, rfl⟩
  refine jl_nil (q_then (j_seq (j_region (y_ (yl_call .nil Tryz.call44 (fun H' hs => some_s)) (e_ (eff_bslice (.cons (T rfl) .nil) (bs22_1_0 _ _ _ _ _)) ?_ rfl) rfl))))
  rintro _ _ ⟨n27, rfl, rfl⟩
  refine y_ (yl_call (.cons ev_c (.cons (T rfl) .nil)) Tryz.call26 (fun H' hs => op_s 6 (some ⟨n27, 0, none⟩) [(.mk 3 ⟨#[]⟩ none 0 [])] 1)) (e_ (eff_alloc Tryz.zeroValue24 cs_) ?_ rfl) rfl
  rintro _ _ ⟨n2, rfl, rfl⟩
  first | refine jl_e (eff_sW (T rfl) (T rfl) Tryz.sizeOf24) rfl gd_n ?_
  rintro _ _ ⟨rfl, rfl⟩
  refine jl_nil (q_then ?_)
  refine j_cutC (X := Nat × Nat × Nat × Nat) (V := fun ⟨n3, n31, n34, n37⟩ => [(3, .pointer (some ⟨n3, 0, none⟩))]) (C := [(1, _), (2, _)]) (G := fun ⟨n3, n31, n34, n37⟩ => (n3, Cl (encRx (.mk 4 ⟨#[]⟩ (some ⟨n37, 0, none⟩) 2 [(.mk 4 ⟨#[]⟩ (some ⟨n34, 0, none⟩) 2 [(.mk 4 ⟨#[]⟩ (some ⟨n31, 0, none⟩) 2 [(.mk 2 ⟨#[97]⟩ none 0 []), (.mk 6 ⟨#[]⟩ (some ⟨n27, 0, none⟩) 1 [(.mk 3 ⟨#[]⟩ none 0 [])])]), (.mk 2 ⟨#[99]⟩ none 0 [])]), (.mk 6 ⟨#[]⟩ (some ⟨n27, 0, none⟩) 1 [(.mk 3 ⟨#[]⟩ none 0 [])])])) 24) :: (n37, Cl (encRx (.mk 4 ⟨#[]⟩ (some ⟨n34, 0, none⟩) 2 [(.mk 4 ⟨#[]⟩ (some ⟨n31, 0, none⟩) 2 [(.mk 2 ⟨#[97]⟩ none 0 []), (.mk 6 ⟨#[]⟩ (some ⟨n27, 0, none⟩) 1 [(.mk 3 ⟨#[]⟩ none 0 [])])]), (.mk 2 ⟨#[99]⟩ none 0 [])]) ++ encRx (.mk 6 ⟨#[]⟩ (some ⟨n27, 0, none⟩) 1 [(.mk 3 ⟨#[]⟩ none 0 [])])) 24) :: (n34, Cl (encRx (.mk 4 ⟨#[]⟩ (some ⟨n31, 0, none⟩) 2 [(.mk 2 ⟨#[97]⟩ none 0 []), (.mk 6 ⟨#[]⟩ (some ⟨n27, 0, none⟩) 1 [(.mk 3 ⟨#[]⟩ none 0 [])])]) ++ encRx (.mk 2 ⟨#[99]⟩ none 0 [])) 24) :: (n31, Cl (encRx (.mk 2 ⟨#[97]⟩ none 0 []) ++ encRx (.mk 6 ⟨#[]⟩ (some ⟨n27, 0, none⟩) 1 [(.mk 3 ⟨#[]⟩ none 0 [])])) 24) :: (n2, Cl (encRx (.mk 6 ⟨#[]⟩ (some ⟨n27, 0, none⟩) 1 [(.mk 3 ⟨#[]⟩ none 0 [])])) 24) :: (n27, Cl (encRx (.mk 3 ⟨#[]⟩ none 0 [])) 24) :: (n1, Cl (encNn (exN x1 x2 x3)) 56) :: (x3, Cl (exEdges.flatMap encE) 154) :: (x2, Cl (exLinks.flatMap encLn) 71) :: (x1, Cl (exK 4) 138) :: H) (φ := fun ⟨n3, n31, n34, n37⟩ => True) ⟨at_f rfl, at_f rfl, trivial⟩ ?_ ?_
  · refine j_anyX 11 _ mixd (by kernel_rfl) sb0 ?_
    refine x_y (i := 0) rfl (by kernel_rfl) (yl_call (.cons ev_c .nil) Tryz.call45 (fun H' hs => node_s ⟨#[97]⟩)) ?_ rfl gd_n
    refine x_y (i := 1) rfl (by kernel_rfl) (yl_loadA (T rfl) Tryz.isAgg24 Tryz.sizeOf24 rfl (by first | exact cs_o)) ?_ rfl gd_n
    refine x_y (i := 7) rfl (by kernel_rfl) (yl_loadA (T rfl) Tryz.isAgg24 Tryz.sizeOf24 rfl (by first | exact cs_o)) ?_ rfl gd_n
    refine x_two (i := 2) (j := 10) (by kernel_rfl) (by kernel_rfl) ?_ ?_
    · refine xs_e rfl (eff_bslice (.cons (T rfl) (.cons (T rfl) .nil)) (bs22_2_0_1 _ _ _ _ _ _ _ _ _ _)) ?_ rfl gd_n
      rintro _ _ ⟨n31, rfl, rfl⟩
      refine ⟨sbt, (x_y (i := 3) rfl (by kernel_rfl) (yl_call (.cons ev_c (.cons (T rfl) .nil)) Tryz.call26 (fun H' hs => op_s 4 (some ⟨n31, 0, none⟩) [(.mk 2 ⟨#[97]⟩ none 0 []), (.mk 6 ⟨#[]⟩ (some ⟨n27, 0, none⟩) 1 [(.mk 3 ⟨#[]⟩ none 0 [])])] 2)) ?_ rfl gd_n)⟩
      refine x_y (i := 4) rfl (by kernel_rfl) (yl_call (.cons ev_c .nil) Tryz.call45 (fun H' hs => node_s ⟨#[99]⟩)) ?_ rfl gd_n
      refine x_two (i := 5) (j := 10) (by kernel_rfl) (by kernel_rfl) ?_ ?_
      · refine xs_e rfl (eff_bslice (.cons (T rfl) (.cons (T rfl) .nil)) (bs22_2_0_1 _ _ _ _ _ _ _ _ _ _)) ?_ rfl gd_n
        rintro _ _ ⟨n34, rfl, rfl⟩
        refine ⟨sbt, (x_y (i := 6) rfl (by kernel_rfl) (yl_call (.cons ev_c (.cons (T rfl) .nil)) Tryz.call26 (fun H' hs => op_s 4 (some ⟨n34, 0, none⟩) [(.mk 4 ⟨#[]⟩ (some ⟨n31, 0, none⟩) 2 [(.mk 2 ⟨#[97]⟩ none 0 []), (.mk 6 ⟨#[]⟩ (some ⟨n27, 0, none⟩) 1 [(.mk 3 ⟨#[]⟩ none 0 [])])]), (.mk 2 ⟨#[99]⟩ none 0 [])] 2)) ?_ rfl gd_n)⟩
        refine x_two (i := 8) (j := 10) (by kernel_rfl) (by kernel_rfl) ?_ ?_
        · refine xs_e rfl (eff_bslice (.cons (T rfl) (.cons (T rfl) .nil)) (bs22_2_0_1 _ _ _ _ _ _ _ _ _ _)) ?_ rfl gd_n
          rintro _ _ ⟨n37, rfl, rfl⟩
          refine ⟨sbt, (x_y (i := 9) rfl (by kernel_rfl) (yl_call (.cons ev_c (.cons (T rfl) .nil)) Tryz.call26 (fun H' hs => op_s 4 (some ⟨n37, 0, none⟩) [(.mk 4 ⟨#[]⟩ (some ⟨n34, 0, none⟩) 2 [(.mk 4 ⟨#[]⟩ (some ⟨n31, 0, none⟩) 2 [(.mk 2 ⟨#[97]⟩ none 0 []), (.mk 6 ⟨#[]⟩ (some ⟨n27, 0, none⟩) 1 [(.mk 3 ⟨#[]⟩ none 0 [])])]), (.mk 2 ⟨#[99]⟩ none 0 [])]), (.mk 6 ⟨#[]⟩ (some ⟨n27, 0, none⟩) 1 [(.mk 3 ⟨#[]⟩ none 0 [])])] 2)) ?_ rfl gd_n)⟩
          refine x_one (i := 10) (by kernel_rfl) (by kernel_rfl) ?_
          refine xs_e rfl (eff_alloc Tryz.zeroValue24 cs_) ?_ rfl gd_n
          rintro _ _ ⟨n3, rfl, rfl⟩
          refine ⟨sbt, (x_nil (by kernel_rfl) rfl ?_)⟩
          first | refine jl_e (eff_sW (T rfl) (T rfl) Tryz.sizeOf24) rfl gd_n ?_
          rintro _ _ ⟨rfl, rfl⟩
          refine jl_nil ?_
          first | (refine q_cutC ((n3, n31, n34, n37)) ?_ ⟨(by first | exact at_f rfl | (refine at_e (at_f rfl) (vint ?_); omega) | (refine at_e (at_f rfl) ?_; simp; done)), trivial⟩ ⟨at_f rfl, at_f rfl, trivial⟩ (List.Sublist.refl _)) | (refine jq_perm (List.Perm.swap _ _ _) ?_; refine q_cutC ((n3, n31, n34, n37)) ?_ ⟨(by first | exact at_f rfl | (refine at_e (at_f rfl) (vint ?_); omega) | (refine at_e (at_f rfl) ?_; simp; done)), trivial⟩ ⟨at_f rfl, at_f rfl, trivial⟩ (List.Sublist.refl _)) | (refine jq_perm ((List.Perm.cons _ (List.Perm.swap _ _ _)).trans (List.Perm.swap _ _ _)) ?_; refine q_cutC ((n3, n31, n34, n37)) ?_ ⟨(by first | exact at_f rfl | (refine at_e (at_f rfl) (vint ?_); omega) | (refine at_e (at_f rfl) ?_; simp; done)), trivial⟩ ⟨at_f rfl, at_f rfl, trivial⟩ (List.Sublist.refl _)) | (refine jq_perm ((List.Perm.cons _ (List.Perm.cons _ (List.Perm.swap _ _ _))).trans ((List.Perm.cons _ (List.Perm.swap _ _ _)).trans (List.Perm.swap _ _ _))) ?_; refine q_cutC ((n3, n31, n34, n37)) ?_ ⟨(by first | exact at_f rfl | (refine at_e (at_f rfl) (vint ?_); omega) | (refine at_e (at_f rfl) ?_; simp; done)), trivial⟩ ⟨at_f rfl, at_f rfl, trivial⟩ (List.Sublist.refl _))
          trivial
        · refine xs_e rfl (eff_alloc Tryz.zeroValue24 cs_) ?_ rfl gd_n
          rintro _ _ ⟨n3, rfl, rfl⟩
          refine ⟨sbt, (x_one (i := 8) (by kernel_rfl) (by kernel_rfl) ?_)⟩
          refine xs_e rfl (eff_bslice (.cons (T rfl) (.cons (T rfl) .nil)) (bs22_2_0_1 _ _ _ _ _ _ _ _ _ _)) ?_ rfl gd_n
          rintro _ _ ⟨n37, rfl, rfl⟩
          refine ⟨sbt, (x_y (i := 9) rfl (by kernel_rfl) (yl_call (.cons ev_c (.cons (T rfl) .nil)) Tryz.call26 (fun H' hs => op_s 4 (some ⟨n37, 0, none⟩) [(.mk 4 ⟨#[]⟩ (some ⟨n34, 0, none⟩) 2 [(.mk 4 ⟨#[]⟩ (some ⟨n31, 0, none⟩) 2 [(.mk 2 ⟨#[97]⟩ none 0 []), (.mk 6 ⟨#[]⟩ (some ⟨n27, 0, none⟩) 1 [(.mk 3 ⟨#[]⟩ none 0 [])])]), (.mk 2 ⟨#[99]⟩ none 0 [])]), (.mk 6 ⟨#[]⟩ (some ⟨n27, 0, none⟩) 1 [(.mk 3 ⟨#[]⟩ none 0 [])])] 2)) ?_ rfl gd_n)⟩
          refine x_nil (by kernel_rfl) rfl ?_
          first | refine jl_e (eff_sW (T rfl) (T rfl) Tryz.sizeOf24) rfl gd_n ?_
          rintro _ _ ⟨rfl, rfl⟩
          refine jl_nil ?_
          first | (refine q_cutC ((n3, n31, n34, n37)) ?_ ⟨(by first | exact at_f rfl | (refine at_e (at_f rfl) (vint ?_); omega) | (refine at_e (at_f rfl) ?_; simp; done)), trivial⟩ ⟨at_f rfl, at_f rfl, trivial⟩ (List.Sublist.refl _)) | (refine jq_perm (List.Perm.swap _ _ _) ?_; refine q_cutC ((n3, n31, n34, n37)) ?_ ⟨(by first | exact at_f rfl | (refine at_e (at_f rfl) (vint ?_); omega) | (refine at_e (at_f rfl) ?_; simp; done)), trivial⟩ ⟨at_f rfl, at_f rfl, trivial⟩ (List.Sublist.refl _)) | (refine jq_perm ((List.Perm.cons _ (List.Perm.swap _ _ _)).trans (List.Perm.swap _ _ _)) ?_; refine q_cutC ((n3, n31, n34, n37)) ?_ ⟨(by first | exact at_f rfl | (refine at_e (at_f rfl) (vint ?_); omega) | (refine at_e (at_f rfl) ?_; simp; done)), trivial⟩ ⟨at_f rfl, at_f rfl, trivial⟩ (List.Sublist.refl _)) | (refine jq_perm ((List.Perm.cons _ (List.Perm.cons _ (List.Perm.swap _ _ _))).trans ((List.Perm.cons _ (List.Perm.swap _ _ _)).trans (List.Perm.swap _ _ _))) ?_; refine q_cutC ((n3, n31, n34, n37)) ?_ ⟨(by first | exact at_f rfl | (refine at_e (at_f rfl) (vint ?_); omega) | (refine at_e (at_f rfl) ?_; simp; done)), trivial⟩ ⟨at_f rfl, at_f rfl, trivial⟩ (List.Sublist.refl _))
          trivial
      · refine xs_e rfl (eff_alloc Tryz.zeroValue24 cs_) ?_ rfl gd_n
        rintro _ _ ⟨n3, rfl, rfl⟩
        refine ⟨sbt, (x_one (i := 5) (by kernel_rfl) (by kernel_rfl) ?_)⟩
        refine xs_e rfl (eff_bslice (.cons (T rfl) (.cons (T rfl) .nil)) (bs22_2_0_1 _ _ _ _ _ _ _ _ _ _)) ?_ rfl gd_n
        rintro _ _ ⟨n34, rfl, rfl⟩
        refine ⟨sbt, (x_y (i := 6) rfl (by kernel_rfl) (yl_call (.cons ev_c (.cons (T rfl) .nil)) Tryz.call26 (fun H' hs => op_s 4 (some ⟨n34, 0, none⟩) [(.mk 4 ⟨#[]⟩ (some ⟨n31, 0, none⟩) 2 [(.mk 2 ⟨#[97]⟩ none 0 []), (.mk 6 ⟨#[]⟩ (some ⟨n27, 0, none⟩) 1 [(.mk 3 ⟨#[]⟩ none 0 [])])]), (.mk 2 ⟨#[99]⟩ none 0 [])] 2)) ?_ rfl gd_n)⟩
        refine x_one (i := 8) (by kernel_rfl) (by kernel_rfl) ?_
        refine xs_e rfl (eff_bslice (.cons (T rfl) (.cons (T rfl) .nil)) (bs22_2_0_1 _ _ _ _ _ _ _ _ _ _)) ?_ rfl gd_n
        rintro _ _ ⟨n37, rfl, rfl⟩
        refine ⟨sbt, (x_y (i := 9) rfl (by kernel_rfl) (yl_call (.cons ev_c (.cons (T rfl) .nil)) Tryz.call26 (fun H' hs => op_s 4 (some ⟨n37, 0, none⟩) [(.mk 4 ⟨#[]⟩ (some ⟨n34, 0, none⟩) 2 [(.mk 4 ⟨#[]⟩ (some ⟨n31, 0, none⟩) 2 [(.mk 2 ⟨#[97]⟩ none 0 []), (.mk 6 ⟨#[]⟩ (some ⟨n27, 0, none⟩) 1 [(.mk 3 ⟨#[]⟩ none 0 [])])]), (.mk 2 ⟨#[99]⟩ none 0 [])]), (.mk 6 ⟨#[]⟩ (some ⟨n27, 0, none⟩) 1 [(.mk 3 ⟨#[]⟩ none 0 [])])] 2)) ?_ rfl gd_n)⟩
        refine x_nil (by kernel_rfl) rfl ?_
        first | refine jl_e (eff_sW (T rfl) (T rfl) Tryz.sizeOf24) rfl gd_n ?_
        rintro _ _ ⟨rfl, rfl⟩
        refine jl_nil ?_
        first | (refine q_cutC ((n3, n31, n34, n37)) ?_ ⟨(by first | exact at_f rfl | (refine at_e (at_f rfl) (vint ?_); omega) | (refine at_e (at_f rfl) ?_; simp; done)), trivial⟩ ⟨at_f rfl, at_f rfl, trivial⟩ (List.Sublist.refl _)) | (refine jq_perm (List.Perm.swap _ _ _) ?_; refine q_cutC ((n3, n31, n34, n37)) ?_ ⟨(by first | exact at_f rfl | (refine at_e (at_f rfl) (vint ?_); omega) | (refine at_e (at_f rfl) ?_; simp; done)), trivial⟩ ⟨at_f rfl, at_f rfl, trivial⟩ (List.Sublist.refl _)) | (refine jq_perm ((List.Perm.cons _ (List.Perm.swap _ _ _)).trans (List.Perm.swap _ _ _)) ?_; refine q_cutC ((n3, n31, n34, n37)) ?_ ⟨(by first | exact at_f rfl | (refine at_e (at_f rfl) (vint ?_); omega) | (refine at_e (at_f rfl) ?_; simp; done)), trivial⟩ ⟨at_f rfl, at_f rfl, trivial⟩ (List.Sublist.refl _)) | (refine jq_perm ((List.Perm.cons _ (List.Perm.cons _ (List.Perm.swap _ _ _))).trans ((List.Perm.cons _ (List.Perm.swap _ _ _)).trans (List.Perm.swap _ _ _))) ?_; refine q_cutC ((n3, n31, n34, n37)) ?_ ⟨(by first | exact at_f rfl | (refine at_e (at_f rfl) (vint ?_); omega) | (refine at_e (at_f rfl) ?_; simp; done)), trivial⟩ ⟨at_f rfl, at_f rfl, trivial⟩ (List.Sublist.refl _))
        trivial
    · refine xs_e rfl (eff_alloc Tryz.zeroValue24 cs_) ?_ rfl gd_n
      rintro _ _ ⟨n3, rfl, rfl⟩
      refine ⟨sbt, (x_one (i := 2) (by kernel_rfl) (by kernel_rfl) ?_)⟩
      refine xs_e rfl (eff_bslice (.cons (T rfl) (.cons (T rfl) .nil)) (bs22_2_0_1 _ _ _ _ _ _ _ _ _ _)) ?_ rfl gd_n
      rintro _ _ ⟨n31, rfl, rfl⟩
      refine ⟨sbt, (x_y (i := 3) rfl (by kernel_rfl) (yl_call (.cons ev_c (.cons (T rfl) .nil)) Tryz.call26 (fun H' hs => op_s 4 (some ⟨n31, 0, none⟩) [(.mk 2 ⟨#[97]⟩ none 0 []), (.mk 6 ⟨#[]⟩ (some ⟨n27, 0, none⟩) 1 [(.mk 3 ⟨#[]⟩ none 0 [])])] 2)) ?_ rfl gd_n)⟩
      refine x_y (i := 4) rfl (by kernel_rfl) (yl_call (.cons ev_c .nil) Tryz.call45 (fun H' hs => node_s ⟨#[99]⟩)) ?_ rfl gd_n
      refine x_one (i := 5) (by kernel_rfl) (by kernel_rfl) ?_
      refine xs_e rfl (eff_bslice (.cons (T rfl) (.cons (T rfl) .nil)) (bs22_2_0_1 _ _ _ _ _ _ _ _ _ _)) ?_ rfl gd_n
      rintro _ _ ⟨n34, rfl, rfl⟩
      refine ⟨sbt, (x_y (i := 6) rfl (by kernel_rfl) (yl_call (.cons ev_c (.cons (T rfl) .nil)) Tryz.call26 (fun H' hs => op_s 4 (some ⟨n34, 0, none⟩) [(.mk 4 ⟨#[]⟩ (some ⟨n31, 0, none⟩) 2 [(.mk 2 ⟨#[97]⟩ none 0 []), (.mk 6 ⟨#[]⟩ (some ⟨n27, 0, none⟩) 1 [(.mk 3 ⟨#[]⟩ none 0 [])])]), (.mk 2 ⟨#[99]⟩ none 0 [])] 2)) ?_ rfl gd_n)⟩
      refine x_one (i := 8) (by kernel_rfl) (by kernel_rfl) ?_
      refine xs_e rfl (eff_bslice (.cons (T rfl) (.cons (T rfl) .nil)) (bs22_2_0_1 _ _ _ _ _ _ _ _ _ _)) ?_ rfl gd_n
      rintro _ _ ⟨n37, rfl, rfl⟩
      refine ⟨sbt, (x_y (i := 9) rfl (by kernel_rfl) (yl_call (.cons ev_c (.cons (T rfl) .nil)) Tryz.call26 (fun H' hs => op_s 4 (some ⟨n37, 0, none⟩) [(.mk 4 ⟨#[]⟩ (some ⟨n34, 0, none⟩) 2 [(.mk 4 ⟨#[]⟩ (some ⟨n31, 0, none⟩) 2 [(.mk 2 ⟨#[97]⟩ none 0 []), (.mk 6 ⟨#[]⟩ (some ⟨n27, 0, none⟩) 1 [(.mk 3 ⟨#[]⟩ none 0 [])])]), (.mk 2 ⟨#[99]⟩ none 0 [])]), (.mk 6 ⟨#[]⟩ (some ⟨n27, 0, none⟩) 1 [(.mk 3 ⟨#[]⟩ none 0 [])])] 2)) ?_ rfl gd_n)⟩
      refine x_nil (by kernel_rfl) rfl ?_
      first | refine jl_e (eff_sW (T rfl) (T rfl) Tryz.sizeOf24) rfl gd_n ?_
      rintro _ _ ⟨rfl, rfl⟩
      refine jl_nil ?_
      first | (refine q_cutC ((n3, n31, n34, n37)) ?_ ⟨(by first | exact at_f rfl | (refine at_e (at_f rfl) (vint ?_); omega) | (refine at_e (at_f rfl) ?_; simp; done)), trivial⟩ ⟨at_f rfl, at_f rfl, trivial⟩ (List.Sublist.refl _)) | (refine jq_perm (List.Perm.swap _ _ _) ?_; refine q_cutC ((n3, n31, n34, n37)) ?_ ⟨(by first | exact at_f rfl | (refine at_e (at_f rfl) (vint ?_); omega) | (refine at_e (at_f rfl) ?_; simp; done)), trivial⟩ ⟨at_f rfl, at_f rfl, trivial⟩ (List.Sublist.refl _)) | (refine jq_perm ((List.Perm.cons _ (List.Perm.swap _ _ _)).trans (List.Perm.swap _ _ _)) ?_; refine q_cutC ((n3, n31, n34, n37)) ?_ ⟨(by first | exact at_f rfl | (refine at_e (at_f rfl) (vint ?_); omega) | (refine at_e (at_f rfl) ?_; simp; done)), trivial⟩ ⟨at_f rfl, at_f rfl, trivial⟩ (List.Sublist.refl _)) | (refine jq_perm ((List.Perm.cons _ (List.Perm.cons _ (List.Perm.swap _ _ _))).trans ((List.Perm.cons _ (List.Perm.swap _ _ _)).trans (List.Perm.swap _ _ _))) ?_; refine q_cutC ((n3, n31, n34, n37)) ?_ ⟨(by first | exact at_f rfl | (refine at_e (at_f rfl) (vint ?_); omega) | (refine at_e (at_f rfl) ?_; simp; done)), trivial⟩ ⟨at_f rfl, at_f rfl, trivial⟩ (List.Sublist.refl _))
      trivial
  rintro ⟨n3, n31, n34, n37⟩ _
  refine j_seq (j_region (y_ (yl_loadA (T rfl) Tryz.isAgg24 Tryz.sizeOf24 rfl (by first | exact cs_o)) ?_ rfl))
  refine e_ (eff_call (.cons (T rfl) .nil) Tryz.call12 (buildM_s (e := sX) (.mk 4 ⟨#[]⟩ (some ⟨n37, 0, none⟩) 2 [(.mk 4 ⟨#[]⟩ (some ⟨n34, 0, none⟩) 2 [(.mk 4 ⟨#[]⟩ (some ⟨n31, 0, none⟩) 2 [(.mk 2 ⟨#[97]⟩ none 0 []), (.mk 6 ⟨#[]⟩ (some ⟨n27, 0, none⟩) 1 [(.mk 3 ⟨#[]⟩ none 0 [])])]), (.mk 2 ⟨#[99]⟩ none 0 [])]), (.mk 6 ⟨#[]⟩ (some ⟨n27, 0, none⟩) 1 [(.mk 3 ⟨#[]⟩ none 0 [])])]) (.seq (.seq (.seq (.nod (by decide)) (.star .any)) (.nod (by decide))) (.star .any)) (rx2 (rx2 (rx2 rx0 (rx1 rx0)) rx0) (rx1 rx0)) (by decide) sX_build)) ?_ rfl
  rintro _ _ ⟨m1, M1, ⟨rfl, hp1, hm1⟩, rfl⟩
  have hr1 : m1.rows.length = 4 := by have := congrArg (fun p => p.next.length) hp1; simpa [Mc.pl, sM] using this
  have hk1 : PMok m1.pl := by rw [hp1]; exact sM_ok
  have hs1 : Srt m1.names := by have := congrArg PM.names hp1; simp only [Mc.pl] at this; rw [this]; exact sM_srt
  have hn1 : m1.names.length = 2 := by have := congrArg (fun p => p.names.length) hp1; simpa [Mc.pl, sM] using this
  refine y_ (yl_move (T rfl)) (y_ (yl_extract (T rfl) rfl) (y_ (yl_extract (T rfl) rfl) (e_ (eff_alloc Tryz.zeroValue29 cs_) ?_ rfl) rfl) rfl) rfl
  rintro _ _ ⟨n4, rfl, rfl⟩
  first | refine jl_e (eff_sW (T rfl) (T rfl) Tryz.sizeOf29) rfl gd_n ?_
  rintro _ _ ⟨rfl, rfl⟩
  refine y_ (yl_assign (T rfl)) (jl_nil (q_then (j_seq (j_region (y_ (yl_loadA (T rfl) Tryz.isAgg24 Tryz.sizeOf24 rfl (by first | exact cs_o)) ?_ rfl))))) rfl
  refine e_ (eff_call (.cons (T rfl) .nil) Tryz.call12 (buildM_s (e := sany) (.mk 6 ⟨#[]⟩ (some ⟨n27, 0, none⟩) 1 [(.mk 3 ⟨#[]⟩ none 0 [])]) (.star .any) (rx1 rx0) (by decide) sA_build)) ?_ rfl
  rintro _ _ ⟨m2, M2, ⟨rfl, hp2, hm2⟩, rfl⟩
  have hr2 : m2.rows.length = 1 := by have := congrArg (fun p => p.next.length) hp2; simpa [Mc.pl] using this
  refine y_ (yl_move (T rfl)) (y_ (yl_extract (T rfl) rfl) (y_ (yl_extract (T rfl) rfl) (e_ (eff_alloc Tryz.zeroValue29 cs_) ?_ rfl) rfl) rfl) rfl
  rintro _ _ ⟨n6, rfl, rfl⟩
  first | refine jl_e (eff_sW (T rfl) (T rfl) Tryz.sizeOf29) rfl gd_n ?_
  rintro _ _ ⟨rfl, rfl⟩
  refine y_ (yl_assign (T rfl)) (jl_nil (q_then (j_seq (j_seq (j_region (y_ (yl_move (T rfl)) (y_ (yl_neq (T rfl) ev_c) (y_ (yl_move (T rfl)) (jl_y (yl_move (T rfl)) rfl (gd_y rfl rfl (at_f rfl)) (jl_y (yl_neq (T rfl) ev_c) rfl (gd_y rfl rfl (at_f rfl)) (y_ (yl_pick_f (T rfl) (T rfl)) (y_ (yl_move (T rfl)) (jl_y (yl_fa (T rfl) fa29_1) rfl (gd_y rfl rfl (at_f rfl)) (jl_y (yl_load (T rfl) Tryz.isAgg26 (by first | exact c_o)) rfl (gd_y rfl rfl (at_f rfl)) ?_)) rfl) rfl))) rfl) rfl) rfl)))))) rfl
  refine jl_y (yl_len (T rfl) Tryz.runUnderlying26) rfl (gd_y rfl rfl (at_f rfl)) (jl_y (yl_neq (T rfl) ev_c) rfl (gd_y rfl rfl (at_f rfl)) (y_ (yl_pick_f (T rfl) (T rfl)) (y_ (yl_move (T rfl)) ?_ rfl) rfl))
  first | refine jl_if_d (s := 61) (at_f rfl) (fun c61 => ?_) (fun c61 => ?_) | refine jl_if (s := 61) (at_f rfl) (fun c61 => ?_) (fun c61 => ?_)
  · exfalso; omega
  · refine jl_y (yl_fa (T rfl) fa29_1) rfl (gd_y rfl rfl (at_f rfl)) (jl_y (yl_load (T rfl) Tryz.isAgg26 (by first | exact c_o)) rfl (gd_y rfl rfl (at_f rfl)) ?_)
    refine jl_y (yl_len (T rfl) Tryz.runUnderlying26) rfl (gd_y rfl rfl (at_f rfl)) (jl_y (yl_neq (T rfl) ev_c) rfl (gd_y rfl rfl (at_f rfl)) (y_ (yl_pick_f (T rfl) (T rfl)) (y_ (yl_move (T rfl)) ?_ rfl) rfl))
    first | refine jl_if_d (s := 67) (at_f rfl) (fun c67 => ?_) (fun c67 => ?_) | refine jl_if (s := 67) (at_f rfl) (fun c67 => ?_) (fun c67 => ?_)
    · exfalso; omega
    · refine jl_y (yl_loadA (T rfl) Tryz.isAgg29 Tryz.sizeOf29 rfl (by first | exact cs_o)) rfl (gd_y rfl rfl (at_f rfl)) ?_
      refine jl_y (yl_call (.cons (T rfl) .nil) Tryz.call18 (fun H' hs => chkM_s m1 (hm1.mono (List.Sublist.trans sbt hs)) hk1 hs1 (by omega))) rfl (gd_y rfl rfl (at_f rfl)) ?_
      refine jl_y (yl_not (T rfl)) rfl (gd_y rfl rfl (at_f rfl)) (y_ (yl_pick_f (T rfl) (T rfl)) (y_ (yl_move (T rfl)) (jl_y (yl_build .nil (bd29_z)) rfl (gd_y rfl rfl (at_f rfl)) (jl_y (yl_call (.cons (T rfl) .nil) Tryz.call18 (fun H' hs => still_b (c := false) (b := chkI ⟨[], [], [], none, 0, none, 0, none, 0⟩) (by decide) (pcheck_s ⟨[], [], [], none, 0, none, 0, none, 0⟩ ⟨fun i x hi => (by cases hi), fun i x hi => (by cases hi), fun i x hi => (by cases hi), fun r hr => (by cases hr), by decide, by decide, fun r hr => (by cases hr)⟩))) rfl (gd_y rfl rfl (at_f rfl)) ?_)) rfl) rfl)
      refine y_ (yl_pick_f (T rfl) (T rfl)) (y_ (yl_move (T rfl)) (jl_y (yl_loadA (T rfl) Tryz.isAgg24 Tryz.sizeOf24 rfl (by first | exact cs_o)) rfl (gd_y rfl rfl (at_f rfl)) ?_) rfl) rfl
      refine jl_e (eff_bslice (.cons ev_c (.cons ev_c .nil)) (bs25_2_0_1 _ _)) rfl (gd_y rfl rfl (at_f rfl)) ?_
      rintro _ _ ⟨n78, rfl, rfl⟩
      refine jl_y (yl_call (.cons (T rfl) (.cons (T rfl) .nil)) Tryz.call16 (fun H' hs => still_b sM1 (match_s (.mk 4 ⟨#[]⟩ (some ⟨n37, 0, none⟩) 2 [(.mk 4 ⟨#[]⟩ (some ⟨n34, 0, none⟩) 2 [(.mk 4 ⟨#[]⟩ (some ⟨n31, 0, none⟩) 2 [(.mk 2 ⟨#[97]⟩ none 0 []), (.mk 6 ⟨#[]⟩ (some ⟨n27, 0, none⟩) 1 [(.mk 3 ⟨#[]⟩ none 0 [])])]), (.mk 2 ⟨#[99]⟩ none 0 [])]), (.mk 6 ⟨#[]⟩ (some ⟨n27, 0, none⟩) 1 [(.mk 3 ⟨#[]⟩ none 0 [])])]) sX (some ⟨n78, 0, none⟩) 2 [(⟨#[97]⟩ : ByteArray), (⟨#[99]⟩ : ByteArray)] (.seq (.seq (.seq (.nod (by decide)) (.star .any)) (.nod (by decide))) (.star .any)) (rxx_own (by repeat (first | exact fnd_h | refine fnd_t ?_ | refine fnd_a ?_)) (by repeat (first | exact fnd_h | refine fnd_t ?_ | refine fnd_a ?_)) (by repeat (first | exact fnd_h | refine fnd_t ?_ | refine fnd_a ?_)) (by repeat (first | exact fnd_h | refine fnd_t ?_ | refine fnd_a ?_)) hs) (by decide) (arr_blk (l := [(⟨#[97]⟩ : ByteArray), (⟨#[99]⟩ : ByteArray)]) (cells := ([(⟨#[97]⟩ : ByteArray), (⟨#[99]⟩ : ByteArray)]).flatMap encS) (e := 9) (fun _ => rfl) rfl (Fnd.mono (by repeat (first | exact fnd_h | refine fnd_t ?_ | refine fnd_a ?_)) hs)) (by decide)))) rfl (gd_y rfl rfl (at_f rfl)) ?_
      refine jl_y (yl_not (T rfl)) rfl (gd_y rfl rfl (at_f rfl)) (y_ (yl_pick_f (T rfl) (T rfl)) (y_ (yl_move (T rfl)) (jl_y (yl_loadA (T rfl) Tryz.isAgg24 Tryz.sizeOf24 rfl (by first | exact cs_o)) rfl (gd_y rfl rfl (at_f rfl)) ?_) rfl) rfl)
      refine jl_e (eff_bslice (.cons ev_c (.cons ev_c (.cons ev_c .nil))) (bs25_3_0_1_2 _ _ _)) rfl (gd_y rfl rfl (at_f rfl)) ?_
      rintro _ _ ⟨n84, rfl, rfl⟩
      refine jl_y (yl_call (.cons (T rfl) (.cons (T rfl) .nil)) Tryz.call16 (fun H' hs => still_b sM2 (match_s (.mk 4 ⟨#[]⟩ (some ⟨n37, 0, none⟩) 2 [(.mk 4 ⟨#[]⟩ (some ⟨n34, 0, none⟩) 2 [(.mk 4 ⟨#[]⟩ (some ⟨n31, 0, none⟩) 2 [(.mk 2 ⟨#[97]⟩ none 0 []), (.mk 6 ⟨#[]⟩ (some ⟨n27, 0, none⟩) 1 [(.mk 3 ⟨#[]⟩ none 0 [])])]), (.mk 2 ⟨#[99]⟩ none 0 [])]), (.mk 6 ⟨#[]⟩ (some ⟨n27, 0, none⟩) 1 [(.mk 3 ⟨#[]⟩ none 0 [])])]) sX (some ⟨n84, 0, none⟩) 3 [(⟨#[97]⟩ : ByteArray), (⟨#[98]⟩ : ByteArray), (⟨#[100]⟩ : ByteArray)] (.seq (.seq (.seq (.nod (by decide)) (.star .any)) (.nod (by decide))) (.star .any)) (rxx_own (by repeat (first | exact fnd_h | refine fnd_t ?_ | refine fnd_a ?_)) (by repeat (first | exact fnd_h | refine fnd_t ?_ | refine fnd_a ?_)) (by repeat (first | exact fnd_h | refine fnd_t ?_ | refine fnd_a ?_)) (by repeat (first | exact fnd_h | refine fnd_t ?_ | refine fnd_a ?_)) hs) (by decide) (arr_blk (l := [(⟨#[97]⟩ : ByteArray), (⟨#[98]⟩ : ByteArray), (⟨#[100]⟩ : ByteArray)]) (cells := ([(⟨#[97]⟩ : ByteArray), (⟨#[98]⟩ : ByteArray), (⟨#[100]⟩ : ByteArray)]).flatMap encS) (e := 9) (fun _ => rfl) rfl (Fnd.mono (by repeat (first | exact fnd_h | refine fnd_t ?_ | refine fnd_a ?_)) hs)) (by decide)))) rfl (gd_y rfl rfl (at_f rfl)) ?_
      refine y_ (yl_pick_f (T rfl) (T rfl)) (jl_nil (q_then (j_keep [(1, _), (3, _), (4, _), (86, _)] ⟨at_f rfl, at_f rfl, at_f rfl, at_f rfl, trivial⟩ ?_))) rfl
      first | refine j_cond_f (at_f rfl) ?_ | refine j_cond_f (at_e (at_f rfl) (vbool (decide_eq_false c86))) ?_
      refine j_skip (q_then (j_seq (j_region (y_ (yl_call (.cons ev_c .nil) Tryz.call45 (fun H' hs => node_s ⟨#[97]⟩)) (y_ (yl_call (.cons ev_c .nil) Tryz.call45 (fun H' hs => node_s ⟨#[98]⟩)) (e_ (eff_alloc Tryz.zeroValue24 cs_) ?_ rfl) rfl) rfl))))
      rintro _ _ ⟨n8, rfl, rfl⟩
      refine e_ (eff_alloc Tryz.zeroValue24 cs_) ?_ rfl
      rintro _ _ ⟨n9, rfl, rfl⟩
      first | refine jl_e (eff_sW (T rfl) (T rfl) Tryz.sizeOf24) rfl gd_n ?_
      rintro _ _ ⟨rfl, rfl⟩
      first | refine jl_e (eff_sW (T rfl) (T rfl) Tryz.sizeOf24) rfl gd_n ?_
      rintro _ _ ⟨rfl, rfl⟩
      refine jl_nil (q_then ?_)
      refine j_cutH (X := Unit) (V := fun _ => [(11, .bool true), (12, .int .i64 0)]) (C := [(1, _), (3, _), (4, _), (8, _)]) (φ := fun _ => True) ⟨at_f rfl, at_f rfl, at_f rfl, at_f rfl, trivial⟩ ?_ ?_
      · refine j_anyX 24 _ mixd (by kernel_rfl) sb0 ?_
        refine x_y (i := 0) rfl (by kernel_rfl) (yl_loadA (T rfl) Tryz.isAgg24 Tryz.sizeOf24 rfl (by first | exact cs_o)) ?_ rfl gd_n
        refine x_y (i := 1) rfl (by kernel_rfl) (yl_loadA (T rfl) Tryz.isAgg24 Tryz.sizeOf24 rfl (by first | exact cs_o)) ?_ rfl gd_n
        refine x_y (i := 6) rfl (by kernel_rfl) (yl_loadA (T rfl) Tryz.isAgg24 Tryz.sizeOf24 rfl (by first | exact cs_o)) ?_ rfl gd_n
        refine x_y (i := 9) rfl (by kernel_rfl) (yl_loadA (T rfl) Tryz.isAgg24 Tryz.sizeOf24 rfl (by first | exact cs_o)) ?_ rfl gd_n
        refine x_three (i := 2) (j := 7) (k := 10) (by kernel_rfl) (by kernel_rfl) ?_ ?_ ?_
        · refine xs_e rfl (eff_bslice (.cons (T rfl) (.cons (T rfl) .nil)) (bs22_2_0_1 _ _ _ _ _ _ _ _ _ _)) ?_ rfl gd_n
          rintro _ _ ⟨n92, rfl, rfl⟩
          refine ⟨sbt, (x_y (i := 3) rfl (by kernel_rfl) (yl_call (.cons ev_c (.cons (T rfl) .nil)) Tryz.call26 (fun H' hs => op_s 5 (some ⟨n92, 0, none⟩) [(.mk 2 ⟨#[97]⟩ none 0 []), (.mk 2 ⟨#[98]⟩ none 0 [])] 2)) ?_ rfl gd_n)⟩
          refine x_three (i := 4) (j := 7) (k := 10) (by kernel_rfl) (by kernel_rfl) ?_ ?_ ?_
          · refine xs_e rfl (eff_bslice (.cons (T rfl) .nil) (bs22_1_0 _ _ _ _ _)) ?_ rfl gd_n
            rintro _ _ ⟨n94, rfl, rfl⟩
            refine ⟨sbt, (x_y (i := 5) rfl (by kernel_rfl) (yl_call (.cons ev_c (.cons (T rfl) .nil)) Tryz.call26 (fun H' hs => op_s 6 (some ⟨n94, 0, none⟩) [(.mk 5 ⟨#[]⟩ (some ⟨n92, 0, none⟩) 2 [(.mk 2 ⟨#[97]⟩ none 0 []), (.mk 2 ⟨#[98]⟩ none 0 [])])] 1)) ?_ rfl gd_n)⟩
            refine x_two (i := 7) (j := 10) (by kernel_rfl) (by kernel_rfl) ?_ ?_
            · refine xs_e rfl (eff_bslice (.cons (T rfl) .nil) (bs22_1_0 _ _ _ _ _)) ?_ rfl gd_n
              rintro _ _ ⟨n97, rfl, rfl⟩
              refine ⟨sbt, (x_y (i := 8) rfl (by kernel_rfl) (yl_call (.cons ev_c (.cons (T rfl) .nil)) Tryz.call26 (fun H' hs => op_s 6 (some ⟨n97, 0, none⟩) [(.mk 2 ⟨#[97]⟩ none 0 [])] 1)) ?_ rfl gd_n)⟩
              refine x_one (i := 10) (by kernel_rfl) (by kernel_rfl) ?_
              refine xs_e rfl (eff_bslice (.cons (T rfl) .nil) (bs22_1_0 _ _ _ _ _)) ?_ rfl gd_n
              rintro _ _ ⟨n100, rfl, rfl⟩
              refine ⟨sbt, (x_y (i := 11) rfl (by kernel_rfl) (yl_call (.cons ev_c (.cons (T rfl) .nil)) Tryz.call26 (fun H' hs => op_s 6 (some ⟨n100, 0, none⟩) [(.mk 2 ⟨#[98]⟩ none 0 [])] 1)) ?_ rfl gd_n)⟩
              refine x_one (i := 12) (by kernel_rfl) (by kernel_rfl) ?_
              refine xs_e rfl (eff_bslice (.cons (T rfl) (.cons (T rfl) .nil)) (bs22_2_0_1 _ _ _ _ _ _ _ _ _ _)) ?_ rfl gd_n
              rintro _ _ ⟨n102, rfl, rfl⟩
              refine ⟨sbt, (x_y (i := 13) rfl (by kernel_rfl) (yl_call (.cons ev_c (.cons (T rfl) .nil)) Tryz.call26 (fun H' hs => op_s 4 (some ⟨n102, 0, none⟩) [(.mk 6 ⟨#[]⟩ (some ⟨n97, 0, none⟩) 1 [(.mk 2 ⟨#[97]⟩ none 0 [])]), (.mk 6 ⟨#[]⟩ (some ⟨n100, 0, none⟩) 1 [(.mk 2 ⟨#[98]⟩ none 0 [])])] 2)) ?_ rfl gd_n)⟩
              refine x_one (i := 14) (by kernel_rfl) (by kernel_rfl) ?_
              refine xs_e rfl (eff_bslice (.cons (T rfl) .nil) (bs22_1_0 _ _ _ _ _)) ?_ rfl gd_n
              rintro _ _ ⟨n104, rfl, rfl⟩
              refine ⟨sbt, (x_y (i := 15) rfl (by kernel_rfl) (yl_call (.cons ev_c (.cons (T rfl) .nil)) Tryz.call26 (fun H' hs => op_s 6 (some ⟨n104, 0, none⟩) [(.mk 4 ⟨#[]⟩ (some ⟨n102, 0, none⟩) 2 [(.mk 6 ⟨#[]⟩ (some ⟨n97, 0, none⟩) 1 [(.mk 2 ⟨#[97]⟩ none 0 [])]), (.mk 6 ⟨#[]⟩ (some ⟨n100, 0, none⟩) 1 [(.mk 2 ⟨#[98]⟩ none 0 [])])])] 1)) ?_ rfl gd_n)⟩
              refine x_one (i := 16) (by kernel_rfl) (by kernel_rfl) ?_
              refine xs_e rfl (eff_call (.cons (T rfl) (.cons (T rfl) .nil)) Tryz.call23 (equalE_s (.mk 6 ⟨#[]⟩ (some ⟨n94, 0, none⟩) 1 [(.mk 5 ⟨#[]⟩ (some ⟨n92, 0, none⟩) 2 [(.mk 2 ⟨#[97]⟩ none 0 []), (.mk 2 ⟨#[98]⟩ none 0 [])])]) (.mk 6 ⟨#[]⟩ (some ⟨n104, 0, none⟩) 1 [(.mk 4 ⟨#[]⟩ (some ⟨n102, 0, none⟩) 2 [(.mk 6 ⟨#[]⟩ (some ⟨n97, 0, none⟩) 1 [(.mk 2 ⟨#[97]⟩ none 0 [])]), (.mk 6 ⟨#[]⟩ (some ⟨n100, 0, none⟩) 1 [(.mk 2 ⟨#[98]⟩ none 0 [])])])]) (.star (.alt (.nod sa) (.nod sb'))) (.star (.seq (.star (.nod sa)) (.star (.nod sb')))) (.star (.alt (.nod (by decide)) (.nod (by decide)))) (.star (.seq (.star (.nod (by decide))) (.star (.nod (by decide))))) (rx1 (rx2 rx0 rx0)) (rx1 (rx2 (rx1 rx0) (rx1 rx0))) (by decide) (by decide) sE1)) ?_ rfl gd_n
              rintro _ _ ⟨d1, ⟨rfl, hd1⟩, rfl⟩
              refine ⟨sbt, (x_y (i := 17) rfl (by kernel_rfl) (yl_move (T rfl)) ?_ rfl gd_n)⟩
              refine x_y (i := 18) rfl (by kernel_rfl) (yl_extract (T rfl) rfl) ?_ rfl gd_n
              refine x_y (i := 19) rfl (by kernel_rfl) (yl_extract (T rfl) rfl) ?_ rfl gd_n
              refine x_y (i := 20) rfl (by kernel_rfl) (yl_extract (T rfl) rfl) ?_ rfl gd_n
              refine x_y (i := 21) rfl (by kernel_rfl) (yl_assign (T rfl)) ?_ rfl gd_n
              refine x_y (i := 22) rfl (by kernel_rfl) (yl_assign (T rfl)) ?_ rfl gd_n
              refine x_y (i := 23) rfl (by kernel_rfl) (yl_assign (T rfl)) ?_ rfl gd_n
              refine x_nil (by kernel_rfl) rfl ?_
              refine jl_nil ?_
              refine q_cutC (()) ?_ ⟨(by first | exact at_f rfl | (refine at_e (at_f rfl) (vint ?_); omega) | (refine at_e (at_f rfl) ?_; simp; done)), (by first | exact at_f rfl | (refine at_e (at_f rfl) (vint ?_); omega) | (refine at_e (at_f rfl) ?_; simp; done)), trivial⟩ ⟨at_f rfl, at_f rfl, at_f rfl, at_f rfl, trivial⟩ sbt
              trivial
            · refine xs_e rfl (eff_bslice (.cons (T rfl) .nil) (bs22_1_0 _ _ _ _ _)) ?_ rfl gd_n
              rintro _ _ ⟨n100, rfl, rfl⟩
              refine ⟨sbt, (x_one (i := 7) (by kernel_rfl) (by kernel_rfl) ?_)⟩
              refine xs_e rfl (eff_bslice (.cons (T rfl) .nil) (bs22_1_0 _ _ _ _ _)) ?_ rfl gd_n
              rintro _ _ ⟨n97, rfl, rfl⟩
              refine ⟨sbt, (x_y (i := 8) rfl (by kernel_rfl) (yl_call (.cons ev_c (.cons (T rfl) .nil)) Tryz.call26 (fun H' hs => op_s 6 (some ⟨n97, 0, none⟩) [(.mk 2 ⟨#[97]⟩ none 0 [])] 1)) ?_ rfl gd_n)⟩
              refine x_y (i := 11) rfl (by kernel_rfl) (yl_call (.cons ev_c (.cons (T rfl) .nil)) Tryz.call26 (fun H' hs => op_s 6 (some ⟨n100, 0, none⟩) [(.mk 2 ⟨#[98]⟩ none 0 [])] 1)) ?_ rfl gd_n
              refine x_one (i := 12) (by kernel_rfl) (by kernel_rfl) ?_
              refine xs_e rfl (eff_bslice (.cons (T rfl) (.cons (T rfl) .nil)) (bs22_2_0_1 _ _ _ _ _ _ _ _ _ _)) ?_ rfl gd_n
              rintro _ _ ⟨n102, rfl, rfl⟩
              refine ⟨sbt, (x_y (i := 13) rfl (by kernel_rfl) (yl_call (.cons ev_c (.cons (T rfl) .nil)) Tryz.call26 (fun H' hs => op_s 4 (some ⟨n102, 0, none⟩) [(.mk 6 ⟨#[]⟩ (some ⟨n97, 0, none⟩) 1 [(.mk 2 ⟨#[97]⟩ none 0 [])]), (.mk 6 ⟨#[]⟩ (some ⟨n100, 0, none⟩) 1 [(.mk 2 ⟨#[98]⟩ none 0 [])])] 2)) ?_ rfl gd_n)⟩
              refine x_one (i := 14) (by kernel_rfl) (by kernel_rfl) ?_
              refine xs_e rfl (eff_bslice (.cons (T rfl) .nil) (bs22_1_0 _ _ _ _ _)) ?_ rfl gd_n
              rintro _ _ ⟨n104, rfl, rfl⟩
              refine ⟨sbt, (x_y (i := 15) rfl (by kernel_rfl) (yl_call (.cons ev_c (.cons (T rfl) .nil)) Tryz.call26 (fun H' hs => op_s 6 (some ⟨n104, 0, none⟩) [(.mk 4 ⟨#[]⟩ (some ⟨n102, 0, none⟩) 2 [(.mk 6 ⟨#[]⟩ (some ⟨n97, 0, none⟩) 1 [(.mk 2 ⟨#[97]⟩ none 0 [])]), (.mk 6 ⟨#[]⟩ (some ⟨n100, 0, none⟩) 1 [(.mk 2 ⟨#[98]⟩ none 0 [])])])] 1)) ?_ rfl gd_n)⟩
              refine x_one (i := 16) (by kernel_rfl) (by kernel_rfl) ?_
              refine xs_e rfl (eff_call (.cons (T rfl) (.cons (T rfl) .nil)) Tryz.call23 (equalE_s (.mk 6 ⟨#[]⟩ (some ⟨n94, 0, none⟩) 1 [(.mk 5 ⟨#[]⟩ (some ⟨n92, 0, none⟩) 2 [(.mk 2 ⟨#[97]⟩ none 0 []), (.mk 2 ⟨#[98]⟩ none 0 [])])]) (.mk 6 ⟨#[]⟩ (some ⟨n104, 0, none⟩) 1 [(.mk 4 ⟨#[]⟩ (some ⟨n102, 0, none⟩) 2 [(.mk 6 ⟨#[]⟩ (some ⟨n97, 0, none⟩) 1 [(.mk 2 ⟨#[97]⟩ none 0 [])]), (.mk 6 ⟨#[]⟩ (some ⟨n100, 0, none⟩) 1 [(.mk 2 ⟨#[98]⟩ none 0 [])])])]) (.star (.alt (.nod sa) (.nod sb'))) (.star (.seq (.star (.nod sa)) (.star (.nod sb')))) (.star (.alt (.nod (by decide)) (.nod (by decide)))) (.star (.seq (.star (.nod (by decide))) (.star (.nod (by decide))))) (rx1 (rx2 rx0 rx0)) (rx1 (rx2 (rx1 rx0) (rx1 rx0))) (by decide) (by decide) sE1)) ?_ rfl gd_n
              rintro _ _ ⟨d1, ⟨rfl, hd1⟩, rfl⟩
              refine ⟨sbt, (x_y (i := 17) rfl (by kernel_rfl) (yl_move (T rfl)) ?_ rfl gd_n)⟩
              refine x_y (i := 18) rfl (by kernel_rfl) (yl_extract (T rfl) rfl) ?_ rfl gd_n
              refine x_y (i := 19) rfl (by kernel_rfl) (yl_extract (T rfl) rfl) ?_ rfl gd_n
              refine x_y (i := 20) rfl (by kernel_rfl) (yl_extract (T rfl) rfl) ?_ rfl gd_n
              refine x_y (i := 21) rfl (by kernel_rfl) (yl_assign (T rfl)) ?_ rfl gd_n
              refine x_y (i := 22) rfl (by kernel_rfl) (yl_assign (T rfl)) ?_ rfl gd_n
              refine x_y (i := 23) rfl (by kernel_rfl) (yl_assign (T rfl)) ?_ rfl gd_n
              refine x_nil (by kernel_rfl) rfl ?_
              refine jl_nil ?_
              refine q_cutC (()) ?_ ⟨(by first | exact at_f rfl | (refine at_e (at_f rfl) (vint ?_); omega) | (refine at_e (at_f rfl) ?_; simp; done)), (by first | exact at_f rfl | (refine at_e (at_f rfl) (vint ?_); omega) | (refine at_e (at_f rfl) ?_; simp; done)), trivial⟩ ⟨at_f rfl, at_f rfl, at_f rfl, at_f rfl, trivial⟩ sbt
              trivial
          · refine xs_e rfl (eff_bslice (.cons (T rfl) .nil) (bs22_1_0 _ _ _ _ _)) ?_ rfl gd_n
            rintro _ _ ⟨n97, rfl, rfl⟩
            refine ⟨sbt, ?_⟩
            refine x_two (i := 4) (j := 10) (by kernel_rfl) (by kernel_rfl) ?_ ?_
            · refine xs_e rfl (eff_bslice (.cons (T rfl) .nil) (bs22_1_0 _ _ _ _ _)) ?_ rfl gd_n
              rintro _ _ ⟨n94, rfl, rfl⟩
              refine ⟨sbt, (x_y (i := 5) rfl (by kernel_rfl) (yl_call (.cons ev_c (.cons (T rfl) .nil)) Tryz.call26 (fun H' hs => op_s 6 (some ⟨n94, 0, none⟩) [(.mk 5 ⟨#[]⟩ (some ⟨n92, 0, none⟩) 2 [(.mk 2 ⟨#[97]⟩ none 0 []), (.mk 2 ⟨#[98]⟩ none 0 [])])] 1)) ?_ rfl gd_n)⟩
              refine x_y (i := 8) rfl (by kernel_rfl) (yl_call (.cons ev_c (.cons (T rfl) .nil)) Tryz.call26 (fun H' hs => op_s 6 (some ⟨n97, 0, none⟩) [(.mk 2 ⟨#[97]⟩ none 0 [])] 1)) ?_ rfl gd_n
              refine x_one (i := 10) (by kernel_rfl) (by kernel_rfl) ?_
              refine xs_e rfl (eff_bslice (.cons (T rfl) .nil) (bs22_1_0 _ _ _ _ _)) ?_ rfl gd_n
              rintro _ _ ⟨n100, rfl, rfl⟩
              refine ⟨sbt, (x_y (i := 11) rfl (by kernel_rfl) (yl_call (.cons ev_c (.cons (T rfl) .nil)) Tryz.call26 (fun H' hs => op_s 6 (some ⟨n100, 0, none⟩) [(.mk 2 ⟨#[98]⟩ none 0 [])] 1)) ?_ rfl gd_n)⟩
              refine x_one (i := 12) (by kernel_rfl) (by kernel_rfl) ?_
              refine xs_e rfl (eff_bslice (.cons (T rfl) (.cons (T rfl) .nil)) (bs22_2_0_1 _ _ _ _ _ _ _ _ _ _)) ?_ rfl gd_n
              rintro _ _ ⟨n102, rfl, rfl⟩
              refine ⟨sbt, (x_y (i := 13) rfl (by kernel_rfl) (yl_call (.cons ev_c (.cons (T rfl) .nil)) Tryz.call26 (fun H' hs => op_s 4 (some ⟨n102, 0, none⟩) [(.mk 6 ⟨#[]⟩ (some ⟨n97, 0, none⟩) 1 [(.mk 2 ⟨#[97]⟩ none 0 [])]), (.mk 6 ⟨#[]⟩ (some ⟨n100, 0, none⟩) 1 [(.mk 2 ⟨#[98]⟩ none 0 [])])] 2)) ?_ rfl gd_n)⟩
              refine x_one (i := 14) (by kernel_rfl) (by kernel_rfl) ?_
              refine xs_e rfl (eff_bslice (.cons (T rfl) .nil) (bs22_1_0 _ _ _ _ _)) ?_ rfl gd_n
              rintro _ _ ⟨n104, rfl, rfl⟩
              refine ⟨sbt, (x_y (i := 15) rfl (by kernel_rfl) (yl_call (.cons ev_c (.cons (T rfl) .nil)) Tryz.call26 (fun H' hs => op_s 6 (some ⟨n104, 0, none⟩) [(.mk 4 ⟨#[]⟩ (some ⟨n102, 0, none⟩) 2 [(.mk 6 ⟨#[]⟩ (some ⟨n97, 0, none⟩) 1 [(.mk 2 ⟨#[97]⟩ none 0 [])]), (.mk 6 ⟨#[]⟩ (some ⟨n100, 0, none⟩) 1 [(.mk 2 ⟨#[98]⟩ none 0 [])])])] 1)) ?_ rfl gd_n)⟩
              refine x_one (i := 16) (by kernel_rfl) (by kernel_rfl) ?_
              refine xs_e rfl (eff_call (.cons (T rfl) (.cons (T rfl) .nil)) Tryz.call23 (equalE_s (.mk 6 ⟨#[]⟩ (some ⟨n94, 0, none⟩) 1 [(.mk 5 ⟨#[]⟩ (some ⟨n92, 0, none⟩) 2 [(.mk 2 ⟨#[97]⟩ none 0 []), (.mk 2 ⟨#[98]⟩ none 0 [])])]) (.mk 6 ⟨#[]⟩ (some ⟨n104, 0, none⟩) 1 [(.mk 4 ⟨#[]⟩ (some ⟨n102, 0, none⟩) 2 [(.mk 6 ⟨#[]⟩ (some ⟨n97, 0, none⟩) 1 [(.mk 2 ⟨#[97]⟩ none 0 [])]), (.mk 6 ⟨#[]⟩ (some ⟨n100, 0, none⟩) 1 [(.mk 2 ⟨#[98]⟩ none 0 [])])])]) (.star (.alt (.nod sa) (.nod sb'))) (.star (.seq (.star (.nod sa)) (.star (.nod sb')))) (.star (.alt (.nod (by decide)) (.nod (by decide)))) (.star (.seq (.star (.nod (by decide))) (.star (.nod (by decide))))) (rx1 (rx2 rx0 rx0)) (rx1 (rx2 (rx1 rx0) (rx1 rx0))) (by decide) (by decide) sE1)) ?_ rfl gd_n
              rintro _ _ ⟨d1, ⟨rfl, hd1⟩, rfl⟩
              refine ⟨sbt, (x_y (i := 17) rfl (by kernel_rfl) (yl_move (T rfl)) ?_ rfl gd_n)⟩
              refine x_y (i := 18) rfl (by kernel_rfl) (yl_extract (T rfl) rfl) ?_ rfl gd_n
              refine x_y (i := 19) rfl (by kernel_rfl) (yl_extract (T rfl) rfl) ?_ rfl gd_n
              refine x_y (i := 20) rfl (by kernel_rfl) (yl_extract (T rfl) rfl) ?_ rfl gd_n
              refine x_y (i := 21) rfl (by kernel_rfl) (yl_assign (T rfl)) ?_ rfl gd_n
              refine x_y (i := 22) rfl (by kernel_rfl) (yl_assign (T rfl)) ?_ rfl gd_n
              refine x_y (i := 23) rfl (by kernel_rfl) (yl_assign (T rfl)) ?_ rfl gd_n
              refine x_nil (by kernel_rfl) rfl ?_
              refine jl_nil ?_
              refine q_cutC (()) ?_ ⟨(by first | exact at_f rfl | (refine at_e (at_f rfl) (vint ?_); omega) | (refine at_e (at_f rfl) ?_; simp; done)), (by first | exact at_f rfl | (refine at_e (at_f rfl) (vint ?_); omega) | (refine at_e (at_f rfl) ?_; simp; done)), trivial⟩ ⟨at_f rfl, at_f rfl, at_f rfl, at_f rfl, trivial⟩ sbt
              trivial
            · refine xs_e rfl (eff_bslice (.cons (T rfl) .nil) (bs22_1_0 _ _ _ _ _)) ?_ rfl gd_n
              rintro _ _ ⟨n100, rfl, rfl⟩
              refine ⟨sbt, (x_one (i := 4) (by kernel_rfl) (by kernel_rfl) ?_)⟩
              refine xs_e rfl (eff_bslice (.cons (T rfl) .nil) (bs22_1_0 _ _ _ _ _)) ?_ rfl gd_n
              rintro _ _ ⟨n94, rfl, rfl⟩
              refine ⟨sbt, (x_y (i := 5) rfl (by kernel_rfl) (yl_call (.cons ev_c (.cons (T rfl) .nil)) Tryz.call26 (fun H' hs => op_s 6 (some ⟨n94, 0, none⟩) [(.mk 5 ⟨#[]⟩ (some ⟨n92, 0, none⟩) 2 [(.mk 2 ⟨#[97]⟩ none 0 []), (.mk 2 ⟨#[98]⟩ none 0 [])])] 1)) ?_ rfl gd_n)⟩
              refine x_y (i := 8) rfl (by kernel_rfl) (yl_call (.cons ev_c (.cons (T rfl) .nil)) Tryz.call26 (fun H' hs => op_s 6 (some ⟨n97, 0, none⟩) [(.mk 2 ⟨#[97]⟩ none 0 [])] 1)) ?_ rfl gd_n
              refine x_y (i := 11) rfl (by kernel_rfl) (yl_call (.cons ev_c (.cons (T rfl) .nil)) Tryz.call26 (fun H' hs => op_s 6 (some ⟨n100, 0, none⟩) [(.mk 2 ⟨#[98]⟩ none 0 [])] 1)) ?_ rfl gd_n
              refine x_one (i := 12) (by kernel_rfl) (by kernel_rfl) ?_
              refine xs_e rfl (eff_bslice (.cons (T rfl) (.cons (T rfl) .nil)) (bs22_2_0_1 _ _ _ _ _ _ _ _ _ _)) ?_ rfl gd_n
              rintro _ _ ⟨n102, rfl, rfl⟩
              refine ⟨sbt, (x_y (i := 13) rfl (by kernel_rfl) (yl_call (.cons ev_c (.cons (T rfl) .nil)) Tryz.call26 (fun H' hs => op_s 4 (some ⟨n102, 0, none⟩) [(.mk 6 ⟨#[]⟩ (some ⟨n97, 0, none⟩) 1 [(.mk 2 ⟨#[97]⟩ none 0 [])]), (.mk 6 ⟨#[]⟩ (some ⟨n100, 0, none⟩) 1 [(.mk 2 ⟨#[98]⟩ none 0 [])])] 2)) ?_ rfl gd_n)⟩
              refine x_one (i := 14) (by kernel_rfl) (by kernel_rfl) ?_
              refine xs_e rfl (eff_bslice (.cons (T rfl) .nil) (bs22_1_0 _ _ _ _ _)) ?_ rfl gd_n
              rintro _ _ ⟨n104, rfl, rfl⟩
              refine ⟨sbt, (x_y (i := 15) rfl (by kernel_rfl) (yl_call (.cons ev_c (.cons (T rfl) .nil)) Tryz.call26 (fun H' hs => op_s 6 (some ⟨n104, 0, none⟩) [(.mk 4 ⟨#[]⟩ (some ⟨n102, 0, none⟩) 2 [(.mk 6 ⟨#[]⟩ (some ⟨n97, 0, none⟩) 1 [(.mk 2 ⟨#[97]⟩ none 0 [])]), (.mk 6 ⟨#[]⟩ (some ⟨n100, 0, none⟩) 1 [(.mk 2 ⟨#[98]⟩ none 0 [])])])] 1)) ?_ rfl gd_n)⟩
              refine x_one (i := 16) (by kernel_rfl) (by kernel_rfl) ?_
              refine xs_e rfl (eff_call (.cons (T rfl) (.cons (T rfl) .nil)) Tryz.call23 (equalE_s (.mk 6 ⟨#[]⟩ (some ⟨n94, 0, none⟩) 1 [(.mk 5 ⟨#[]⟩ (some ⟨n92, 0, none⟩) 2 [(.mk 2 ⟨#[97]⟩ none 0 []), (.mk 2 ⟨#[98]⟩ none 0 [])])]) (.mk 6 ⟨#[]⟩ (some ⟨n104, 0, none⟩) 1 [(.mk 4 ⟨#[]⟩ (some ⟨n102, 0, none⟩) 2 [(.mk 6 ⟨#[]⟩ (some ⟨n97, 0, none⟩) 1 [(.mk 2 ⟨#[97]⟩ none 0 [])]), (.mk 6 ⟨#[]⟩ (some ⟨n100, 0, none⟩) 1 [(.mk 2 ⟨#[98]⟩ none 0 [])])])]) (.star (.alt (.nod sa) (.nod sb'))) (.star (.seq (.star (.nod sa)) (.star (.nod sb')))) (.star (.alt (.nod (by decide)) (.nod (by decide)))) (.star (.seq (.star (.nod (by decide))) (.star (.nod (by decide))))) (rx1 (rx2 rx0 rx0)) (rx1 (rx2 (rx1 rx0) (rx1 rx0))) (by decide) (by decide) sE1)) ?_ rfl gd_n
              rintro _ _ ⟨d1, ⟨rfl, hd1⟩, rfl⟩
              refine ⟨sbt, (x_y (i := 17) rfl (by kernel_rfl) (yl_move (T rfl)) ?_ rfl gd_n)⟩
              refine x_y (i := 18) rfl (by kernel_rfl) (yl_extract (T rfl) rfl) ?_ rfl gd_n
              refine x_y (i := 19) rfl (by kernel_rfl) (yl_extract (T rfl) rfl) ?_ rfl gd_n
              refine x_y (i := 20) rfl (by kernel_rfl) (yl_extract (T rfl) rfl) ?_ rfl gd_n
              refine x_y (i := 21) rfl (by kernel_rfl) (yl_assign (T rfl)) ?_ rfl gd_n
              refine x_y (i := 22) rfl (by kernel_rfl) (yl_assign (T rfl)) ?_ rfl gd_n
              refine x_y (i := 23) rfl (by kernel_rfl) (yl_assign (T rfl)) ?_ rfl gd_n
              refine x_nil (by kernel_rfl) rfl ?_
              refine jl_nil ?_
              refine q_cutC (()) ?_ ⟨(by first | exact at_f rfl | (refine at_e (at_f rfl) (vint ?_); omega) | (refine at_e (at_f rfl) ?_; simp; done)), (by first | exact at_f rfl | (refine at_e (at_f rfl) (vint ?_); omega) | (refine at_e (at_f rfl) ?_; simp; done)), trivial⟩ ⟨at_f rfl, at_f rfl, at_f rfl, at_f rfl, trivial⟩ sbt
              trivial
          · refine xs_e rfl (eff_bslice (.cons (T rfl) .nil) (bs22_1_0 _ _ _ _ _)) ?_ rfl gd_n
            rintro _ _ ⟨n100, rfl, rfl⟩
            refine ⟨sbt, ?_⟩
            refine x_two (i := 4) (j := 7) (by kernel_rfl) (by kernel_rfl) ?_ ?_
            · refine xs_e rfl (eff_bslice (.cons (T rfl) .nil) (bs22_1_0 _ _ _ _ _)) ?_ rfl gd_n
              rintro _ _ ⟨n94, rfl, rfl⟩
              refine ⟨sbt, (x_y (i := 5) rfl (by kernel_rfl) (yl_call (.cons ev_c (.cons (T rfl) .nil)) Tryz.call26 (fun H' hs => op_s 6 (some ⟨n94, 0, none⟩) [(.mk 5 ⟨#[]⟩ (some ⟨n92, 0, none⟩) 2 [(.mk 2 ⟨#[97]⟩ none 0 []), (.mk 2 ⟨#[98]⟩ none 0 [])])] 1)) ?_ rfl gd_n)⟩
              refine x_one (i := 7) (by kernel_rfl) (by kernel_rfl) ?_
              refine xs_e rfl (eff_bslice (.cons (T rfl) .nil) (bs22_1_0 _ _ _ _ _)) ?_ rfl gd_n
              rintro _ _ ⟨n97, rfl, rfl⟩
              refine ⟨sbt, (x_y (i := 8) rfl (by kernel_rfl) (yl_call (.cons ev_c (.cons (T rfl) .nil)) Tryz.call26 (fun H' hs => op_s 6 (some ⟨n97, 0, none⟩) [(.mk 2 ⟨#[97]⟩ none 0 [])] 1)) ?_ rfl gd_n)⟩
              refine x_y (i := 11) rfl (by kernel_rfl) (yl_call (.cons ev_c (.cons (T rfl) .nil)) Tryz.call26 (fun H' hs => op_s 6 (some ⟨n100, 0, none⟩) [(.mk 2 ⟨#[98]⟩ none 0 [])] 1)) ?_ rfl gd_n
              refine x_one (i := 12) (by kernel_rfl) (by kernel_rfl) ?_
              refine xs_e rfl (eff_bslice (.cons (T rfl) (.cons (T rfl) .nil)) (bs22_2_0_1 _ _ _ _ _ _ _ _ _ _)) ?_ rfl gd_n
              rintro _ _ ⟨n102, rfl, rfl⟩
              refine ⟨sbt, (x_y (i := 13) rfl (by kernel_rfl) (yl_call (.cons ev_c (.cons (T rfl) .nil)) Tryz.call26 (fun H' hs => op_s 4 (some ⟨n102, 0, none⟩) [(.mk 6 ⟨#[]⟩ (some ⟨n97, 0, none⟩) 1 [(.mk 2 ⟨#[97]⟩ none 0 [])]), (.mk 6 ⟨#[]⟩ (some ⟨n100, 0, none⟩) 1 [(.mk 2 ⟨#[98]⟩ none 0 [])])] 2)) ?_ rfl gd_n)⟩
              refine x_one (i := 14) (by kernel_rfl) (by kernel_rfl) ?_
              refine xs_e rfl (eff_bslice (.cons (T rfl) .nil) (bs22_1_0 _ _ _ _ _)) ?_ rfl gd_n
              rintro _ _ ⟨n104, rfl, rfl⟩
              refine ⟨sbt, (x_y (i := 15) rfl (by kernel_rfl) (yl_call (.cons ev_c (.cons (T rfl) .nil)) Tryz.call26 (fun H' hs => op_s 6 (some ⟨n104, 0, none⟩) [(.mk 4 ⟨#[]⟩ (some ⟨n102, 0, none⟩) 2 [(.mk 6 ⟨#[]⟩ (some ⟨n97, 0, none⟩) 1 [(.mk 2 ⟨#[97]⟩ none 0 [])]), (.mk 6 ⟨#[]⟩ (some ⟨n100, 0, none⟩) 1 [(.mk 2 ⟨#[98]⟩ none 0 [])])])] 1)) ?_ rfl gd_n)⟩
              refine x_one (i := 16) (by kernel_rfl) (by kernel_rfl) ?_
              refine xs_e rfl (eff_call (.cons (T rfl) (.cons (T rfl) .nil)) Tryz.call23 (equalE_s (.mk 6 ⟨#[]⟩ (some ⟨n94, 0, none⟩) 1 [(.mk 5 ⟨#[]⟩ (some ⟨n92, 0, none⟩) 2 [(.mk 2 ⟨#[97]⟩ none 0 []), (.mk 2 ⟨#[98]⟩ none 0 [])])]) (.mk 6 ⟨#[]⟩ (some ⟨n104, 0, none⟩) 1 [(.mk 4 ⟨#[]⟩ (some ⟨n102, 0, none⟩) 2 [(.mk 6 ⟨#[]⟩ (some ⟨n97, 0, none⟩) 1 [(.mk 2 ⟨#[97]⟩ none 0 [])]), (.mk 6 ⟨#[]⟩ (some ⟨n100, 0, none⟩) 1 [(.mk 2 ⟨#[98]⟩ none 0 [])])])]) (.star (.alt (.nod sa) (.nod sb'))) (.star (.seq (.star (.nod sa)) (.star (.nod sb')))) (.star (.alt (.nod (by decide)) (.nod (by decide)))) (.star (.seq (.star (.nod (by decide))) (.star (.nod (by decide))))) (rx1 (rx2 rx0 rx0)) (rx1 (rx2 (rx1 rx0) (rx1 rx0))) (by decide) (by decide) sE1)) ?_ rfl gd_n
              rintro _ _ ⟨d1, ⟨rfl, hd1⟩, rfl⟩
              refine ⟨sbt, (x_y (i := 17) rfl (by kernel_rfl) (yl_move (T rfl)) ?_ rfl gd_n)⟩
              refine x_y (i := 18) rfl (by kernel_rfl) (yl_extract (T rfl) rfl) ?_ rfl gd_n
              refine x_y (i := 19) rfl (by kernel_rfl) (yl_extract (T rfl) rfl) ?_ rfl gd_n
              refine x_y (i := 20) rfl (by kernel_rfl) (yl_extract (T rfl) rfl) ?_ rfl gd_n
              refine x_y (i := 21) rfl (by kernel_rfl) (yl_assign (T rfl)) ?_ rfl gd_n
              refine x_y (i := 22) rfl (by kernel_rfl) (yl_assign (T rfl)) ?_ rfl gd_n
              refine x_y (i := 23) rfl (by kernel_rfl) (yl_assign (T rfl)) ?_ rfl gd_n
              refine x_nil (by kernel_rfl) rfl ?_
              refine jl_nil ?_
              refine q_cutC (()) ?_ ⟨(by first | exact at_f rfl | (refine at_e (at_f rfl) (vint ?_); omega) | (refine at_e (at_f rfl) ?_; simp; done)), (by first | exact at_f rfl | (refine at_e (at_f rfl) (vint ?_); omega) | (refine at_e (at_f rfl) ?_; simp; done)), trivial⟩ ⟨at_f rfl, at_f rfl, at_f rfl, at_f rfl, trivial⟩ sbt
              trivial
            · refine xs_e rfl (eff_bslice (.cons (T rfl) .nil) (bs22_1_0 _ _ _ _ _)) ?_ rfl gd_n
              rintro _ _ ⟨n97, rfl, rfl⟩
              refine ⟨sbt, (x_one (i := 4) (by kernel_rfl) (by kernel_rfl) ?_)⟩
              refine xs_e rfl (eff_bslice (.cons (T rfl) .nil) (bs22_1_0 _ _ _ _ _)) ?_ rfl gd_n
              rintro _ _ ⟨n94, rfl, rfl⟩
              refine ⟨sbt, (x_y (i := 5) rfl (by kernel_rfl) (yl_call (.cons ev_c (.cons (T rfl) .nil)) Tryz.call26 (fun H' hs => op_s 6 (some ⟨n94, 0, none⟩) [(.mk 5 ⟨#[]⟩ (some ⟨n92, 0, none⟩) 2 [(.mk 2 ⟨#[97]⟩ none 0 []), (.mk 2 ⟨#[98]⟩ none 0 [])])] 1)) ?_ rfl gd_n)⟩
              refine x_y (i := 8) rfl (by kernel_rfl) (yl_call (.cons ev_c (.cons (T rfl) .nil)) Tryz.call26 (fun H' hs => op_s 6 (some ⟨n97, 0, none⟩) [(.mk 2 ⟨#[97]⟩ none 0 [])] 1)) ?_ rfl gd_n
              refine x_y (i := 11) rfl (by kernel_rfl) (yl_call (.cons ev_c (.cons (T rfl) .nil)) Tryz.call26 (fun H' hs => op_s 6 (some ⟨n100, 0, none⟩) [(.mk 2 ⟨#[98]⟩ none 0 [])] 1)) ?_ rfl gd_n
              refine x_one (i := 12) (by kernel_rfl) (by kernel_rfl) ?_
              refine xs_e rfl (eff_bslice (.cons (T rfl) (.cons (T rfl) .nil)) (bs22_2_0_1 _ _ _ _ _ _ _ _ _ _)) ?_ rfl gd_n
              rintro _ _ ⟨n102, rfl, rfl⟩
              refine ⟨sbt, (x_y (i := 13) rfl (by kernel_rfl) (yl_call (.cons ev_c (.cons (T rfl) .nil)) Tryz.call26 (fun H' hs => op_s 4 (some ⟨n102, 0, none⟩) [(.mk 6 ⟨#[]⟩ (some ⟨n97, 0, none⟩) 1 [(.mk 2 ⟨#[97]⟩ none 0 [])]), (.mk 6 ⟨#[]⟩ (some ⟨n100, 0, none⟩) 1 [(.mk 2 ⟨#[98]⟩ none 0 [])])] 2)) ?_ rfl gd_n)⟩
              refine x_one (i := 14) (by kernel_rfl) (by kernel_rfl) ?_
              refine xs_e rfl (eff_bslice (.cons (T rfl) .nil) (bs22_1_0 _ _ _ _ _)) ?_ rfl gd_n
              rintro _ _ ⟨n104, rfl, rfl⟩
              refine ⟨sbt, (x_y (i := 15) rfl (by kernel_rfl) (yl_call (.cons ev_c (.cons (T rfl) .nil)) Tryz.call26 (fun H' hs => op_s 6 (some ⟨n104, 0, none⟩) [(.mk 4 ⟨#[]⟩ (some ⟨n102, 0, none⟩) 2 [(.mk 6 ⟨#[]⟩ (some ⟨n97, 0, none⟩) 1 [(.mk 2 ⟨#[97]⟩ none 0 [])]), (.mk 6 ⟨#[]⟩ (some ⟨n100, 0, none⟩) 1 [(.mk 2 ⟨#[98]⟩ none 0 [])])])] 1)) ?_ rfl gd_n)⟩
              refine x_one (i := 16) (by kernel_rfl) (by kernel_rfl) ?_
              refine xs_e rfl (eff_call (.cons (T rfl) (.cons (T rfl) .nil)) Tryz.call23 (equalE_s (.mk 6 ⟨#[]⟩ (some ⟨n94, 0, none⟩) 1 [(.mk 5 ⟨#[]⟩ (some ⟨n92, 0, none⟩) 2 [(.mk 2 ⟨#[97]⟩ none 0 []), (.mk 2 ⟨#[98]⟩ none 0 [])])]) (.mk 6 ⟨#[]⟩ (some ⟨n104, 0, none⟩) 1 [(.mk 4 ⟨#[]⟩ (some ⟨n102, 0, none⟩) 2 [(.mk 6 ⟨#[]⟩ (some ⟨n97, 0, none⟩) 1 [(.mk 2 ⟨#[97]⟩ none 0 [])]), (.mk 6 ⟨#[]⟩ (some ⟨n100, 0, none⟩) 1 [(.mk 2 ⟨#[98]⟩ none 0 [])])])]) (.star (.alt (.nod sa) (.nod sb'))) (.star (.seq (.star (.nod sa)) (.star (.nod sb')))) (.star (.alt (.nod (by decide)) (.nod (by decide)))) (.star (.seq (.star (.nod (by decide))) (.star (.nod (by decide))))) (rx1 (rx2 rx0 rx0)) (rx1 (rx2 (rx1 rx0) (rx1 rx0))) (by decide) (by decide) sE1)) ?_ rfl gd_n
              rintro _ _ ⟨d1, ⟨rfl, hd1⟩, rfl⟩
              refine ⟨sbt, (x_y (i := 17) rfl (by kernel_rfl) (yl_move (T rfl)) ?_ rfl gd_n)⟩
              refine x_y (i := 18) rfl (by kernel_rfl) (yl_extract (T rfl) rfl) ?_ rfl gd_n
              refine x_y (i := 19) rfl (by kernel_rfl) (yl_extract (T rfl) rfl) ?_ rfl gd_n
              refine x_y (i := 20) rfl (by kernel_rfl) (yl_extract (T rfl) rfl) ?_ rfl gd_n
              refine x_y (i := 21) rfl (by kernel_rfl) (yl_assign (T rfl)) ?_ rfl gd_n
              refine x_y (i := 22) rfl (by kernel_rfl) (yl_assign (T rfl)) ?_ rfl gd_n
              refine x_y (i := 23) rfl (by kernel_rfl) (yl_assign (T rfl)) ?_ rfl gd_n
              refine x_nil (by kernel_rfl) rfl ?_
              refine jl_nil ?_
              refine q_cutC (()) ?_ ⟨(by first | exact at_f rfl | (refine at_e (at_f rfl) (vint ?_); omega) | (refine at_e (at_f rfl) ?_; simp; done)), (by first | exact at_f rfl | (refine at_e (at_f rfl) (vint ?_); omega) | (refine at_e (at_f rfl) ?_; simp; done)), trivial⟩ ⟨at_f rfl, at_f rfl, at_f rfl, at_f rfl, trivial⟩ sbt
              trivial
        · refine xs_e rfl (eff_bslice (.cons (T rfl) .nil) (bs22_1_0 _ _ _ _ _)) ?_ rfl gd_n
          rintro _ _ ⟨n97, rfl, rfl⟩
          refine ⟨sbt, ?_⟩
          refine x_two (i := 2) (j := 10) (by kernel_rfl) (by kernel_rfl) ?_ ?_
          · refine xs_e rfl (eff_bslice (.cons (T rfl) (.cons (T rfl) .nil)) (bs22_2_0_1 _ _ _ _ _ _ _ _ _ _)) ?_ rfl gd_n
            rintro _ _ ⟨n92, rfl, rfl⟩
            refine ⟨sbt, (x_y (i := 3) rfl (by kernel_rfl) (yl_call (.cons ev_c (.cons (T rfl) .nil)) Tryz.call26 (fun H' hs => op_s 5 (some ⟨n92, 0, none⟩) [(.mk 2 ⟨#[97]⟩ none 0 []), (.mk 2 ⟨#[98]⟩ none 0 [])] 2)) ?_ rfl gd_n)⟩
            refine x_two (i := 4) (j := 10) (by kernel_rfl) (by kernel_rfl) ?_ ?_
            · refine xs_e rfl (eff_bslice (.cons (T rfl) .nil) (bs22_1_0 _ _ _ _ _)) ?_ rfl gd_n
              rintro _ _ ⟨n94, rfl, rfl⟩
              refine ⟨sbt, (x_y (i := 5) rfl (by kernel_rfl) (yl_call (.cons ev_c (.cons (T rfl) .nil)) Tryz.call26 (fun H' hs => op_s 6 (some ⟨n94, 0, none⟩) [(.mk 5 ⟨#[]⟩ (some ⟨n92, 0, none⟩) 2 [(.mk 2 ⟨#[97]⟩ none 0 []), (.mk 2 ⟨#[98]⟩ none 0 [])])] 1)) ?_ rfl gd_n)⟩
              refine x_y (i := 8) rfl (by kernel_rfl) (yl_call (.cons ev_c (.cons (T rfl) .nil)) Tryz.call26 (fun H' hs => op_s 6 (some ⟨n97, 0, none⟩) [(.mk 2 ⟨#[97]⟩ none 0 [])] 1)) ?_ rfl gd_n
              refine x_one (i := 10) (by kernel_rfl) (by kernel_rfl) ?_
              refine xs_e rfl (eff_bslice (.cons (T rfl) .nil) (bs22_1_0 _ _ _ _ _)) ?_ rfl gd_n
              rintro _ _ ⟨n100, rfl, rfl⟩
              refine ⟨sbt, (x_y (i := 11) rfl (by kernel_rfl) (yl_call (.cons ev_c (.cons (T rfl) .nil)) Tryz.call26 (fun H' hs => op_s 6 (some ⟨n100, 0, none⟩) [(.mk 2 ⟨#[98]⟩ none 0 [])] 1)) ?_ rfl gd_n)⟩
              refine x_one (i := 12) (by kernel_rfl) (by kernel_rfl) ?_
              refine xs_e rfl (eff_bslice (.cons (T rfl) (.cons (T rfl) .nil)) (bs22_2_0_1 _ _ _ _ _ _ _ _ _ _)) ?_ rfl gd_n
              rintro _ _ ⟨n102, rfl, rfl⟩
              refine ⟨sbt, (x_y (i := 13) rfl (by kernel_rfl) (yl_call (.cons ev_c (.cons (T rfl) .nil)) Tryz.call26 (fun H' hs => op_s 4 (some ⟨n102, 0, none⟩) [(.mk 6 ⟨#[]⟩ (some ⟨n97, 0, none⟩) 1 [(.mk 2 ⟨#[97]⟩ none 0 [])]), (.mk 6 ⟨#[]⟩ (some ⟨n100, 0, none⟩) 1 [(.mk 2 ⟨#[98]⟩ none 0 [])])] 2)) ?_ rfl gd_n)⟩
              refine x_one (i := 14) (by kernel_rfl) (by kernel_rfl) ?_
              refine xs_e rfl (eff_bslice (.cons (T rfl) .nil) (bs22_1_0 _ _ _ _ _)) ?_ rfl gd_n
              rintro _ _ ⟨n104, rfl, rfl⟩
              refine ⟨sbt, (x_y (i := 15) rfl (by kernel_rfl) (yl_call (.cons ev_c (.cons (T rfl) .nil)) Tryz.call26 (fun H' hs => op_s 6 (some ⟨n104, 0, none⟩) [(.mk 4 ⟨#[]⟩ (some ⟨n102, 0, none⟩) 2 [(.mk 6 ⟨#[]⟩ (some ⟨n97, 0, none⟩) 1 [(.mk 2 ⟨#[97]⟩ none 0 [])]), (.mk 6 ⟨#[]⟩ (some ⟨n100, 0, none⟩) 1 [(.mk 2 ⟨#[98]⟩ none 0 [])])])] 1)) ?_ rfl gd_n)⟩
              refine x_one (i := 16) (by kernel_rfl) (by kernel_rfl) ?_
              refine xs_e rfl (eff_call (.cons (T rfl) (.cons (T rfl) .nil)) Tryz.call23 (equalE_s (.mk 6 ⟨#[]⟩ (some ⟨n94, 0, none⟩) 1 [(.mk 5 ⟨#[]⟩ (some ⟨n92, 0, none⟩) 2 [(.mk 2 ⟨#[97]⟩ none 0 []), (.mk 2 ⟨#[98]⟩ none 0 [])])]) (.mk 6 ⟨#[]⟩ (some ⟨n104, 0, none⟩) 1 [(.mk 4 ⟨#[]⟩ (some ⟨n102, 0, none⟩) 2 [(.mk 6 ⟨#[]⟩ (some ⟨n97, 0, none⟩) 1 [(.mk 2 ⟨#[97]⟩ none 0 [])]), (.mk 6 ⟨#[]⟩ (some ⟨n100, 0, none⟩) 1 [(.mk 2 ⟨#[98]⟩ none 0 [])])])]) (.star (.alt (.nod sa) (.nod sb'))) (.star (.seq (.star (.nod sa)) (.star (.nod sb')))) (.star (.alt (.nod (by decide)) (.nod (by decide)))) (.star (.seq (.star (.nod (by decide))) (.star (.nod (by decide))))) (rx1 (rx2 rx0 rx0)) (rx1 (rx2 (rx1 rx0) (rx1 rx0))) (by decide) (by decide) sE1)) ?_ rfl gd_n
              rintro _ _ ⟨d1, ⟨rfl, hd1⟩, rfl⟩
              refine ⟨sbt, (x_y (i := 17) rfl (by kernel_rfl) (yl_move (T rfl)) ?_ rfl gd_n)⟩
              refine x_y (i := 18) rfl (by kernel_rfl) (yl_extract (T rfl) rfl) ?_ rfl gd_n
              refine x_y (i := 19) rfl (by kernel_rfl) (yl_extract (T rfl) rfl) ?_ rfl gd_n
              refine x_y (i := 20) rfl (by kernel_rfl) (yl_extract (T rfl) rfl) ?_ rfl gd_n
              refine x_y (i := 21) rfl (by kernel_rfl) (yl_assign (T rfl)) ?_ rfl gd_n
              refine x_y (i := 22) rfl (by kernel_rfl) (yl_assign (T rfl)) ?_ rfl gd_n
              refine x_y (i := 23) rfl (by kernel_rfl) (yl_assign (T rfl)) ?_ rfl gd_n
              refine x_nil (by kernel_rfl) rfl ?_
              refine jl_nil ?_
              refine q_cutC (()) ?_ ⟨(by first | exact at_f rfl | (refine at_e (at_f rfl) (vint ?_); omega) | (refine at_e (at_f rfl) ?_; simp; done)), (by first | exact at_f rfl | (refine at_e (at_f rfl) (vint ?_); omega) | (refine at_e (at_f rfl) ?_; simp; done)), trivial⟩ ⟨at_f rfl, at_f rfl, at_f rfl, at_f rfl, trivial⟩ sbt
              trivial
            · refine xs_e rfl (eff_bslice (.cons (T rfl) .nil) (bs22_1_0 _ _ _ _ _)) ?_ rfl gd_n
              rintro _ _ ⟨n100, rfl, rfl⟩
              refine ⟨sbt, (x_one (i := 4) (by kernel_rfl) (by kernel_rfl) ?_)⟩
              refine xs_e rfl (eff_bslice (.cons (T rfl) .nil) (bs22_1_0 _ _ _ _ _)) ?_ rfl gd_n
              rintro _ _ ⟨n94, rfl, rfl⟩
              refine ⟨sbt, (x_y (i := 5) rfl (by kernel_rfl) (yl_call (.cons ev_c (.cons (T rfl) .nil)) Tryz.call26 (fun H' hs => op_s 6 (some ⟨n94, 0, none⟩) [(.mk 5 ⟨#[]⟩ (some ⟨n92, 0, none⟩) 2 [(.mk 2 ⟨#[97]⟩ none 0 []), (.mk 2 ⟨#[98]⟩ none 0 [])])] 1)) ?_ rfl gd_n)⟩
              refine x_y (i := 8) rfl (by kernel_rfl) (yl_call (.cons ev_c (.cons (T rfl) .nil)) Tryz.call26 (fun H' hs => op_s 6 (some ⟨n97, 0, none⟩) [(.mk 2 ⟨#[97]⟩ none 0 [])] 1)) ?_ rfl gd_n
              refine x_y (i := 11) rfl (by kernel_rfl) (yl_call (.cons ev_c (.cons (T rfl) .nil)) Tryz.call26 (fun H' hs => op_s 6 (some ⟨n100, 0, none⟩) [(.mk 2 ⟨#[98]⟩ none 0 [])] 1)) ?_ rfl gd_n
              refine x_one (i := 12) (by kernel_rfl) (by kernel_rfl) ?_
              refine xs_e rfl (eff_bslice (.cons (T rfl) (.cons (T rfl) .nil)) (bs22_2_0_1 _ _ _ _ _ _ _ _ _ _)) ?_ rfl gd_n
              rintro _ _ ⟨n102, rfl, rfl⟩
              refine ⟨sbt, (x_y (i := 13) rfl (by kernel_rfl) (yl_call (.cons ev_c (.cons (T rfl) .nil)) Tryz.call26 (fun H' hs => op_s 4 (some ⟨n102, 0, none⟩) [(.mk 6 ⟨#[]⟩ (some ⟨n97, 0, none⟩) 1 [(.mk 2 ⟨#[97]⟩ none 0 [])]), (.mk 6 ⟨#[]⟩ (some ⟨n100, 0, none⟩) 1 [(.mk 2 ⟨#[98]⟩ none 0 [])])] 2)) ?_ rfl gd_n)⟩
              refine x_one (i := 14) (by kernel_rfl) (by kernel_rfl) ?_
              refine xs_e rfl (eff_bslice (.cons (T rfl) .nil) (bs22_1_0 _ _ _ _ _)) ?_ rfl gd_n
              rintro _ _ ⟨n104, rfl, rfl⟩
              refine ⟨sbt, (x_y (i := 15) rfl (by kernel_rfl) (yl_call (.cons ev_c (.cons (T rfl) .nil)) Tryz.call26 (fun H' hs => op_s 6 (some ⟨n104, 0, none⟩) [(.mk 4 ⟨#[]⟩ (some ⟨n102, 0, none⟩) 2 [(.mk 6 ⟨#[]⟩ (some ⟨n97, 0, none⟩) 1 [(.mk 2 ⟨#[97]⟩ none 0 [])]), (.mk 6 ⟨#[]⟩ (some ⟨n100, 0, none⟩) 1 [(.mk 2 ⟨#[98]⟩ none 0 [])])])] 1)) ?_ rfl gd_n)⟩
              refine x_one (i := 16) (by kernel_rfl) (by kernel_rfl) ?_
              refine xs_e rfl (eff_call (.cons (T rfl) (.cons (T rfl) .nil)) Tryz.call23 (equalE_s (.mk 6 ⟨#[]⟩ (some ⟨n94, 0, none⟩) 1 [(.mk 5 ⟨#[]⟩ (some ⟨n92, 0, none⟩) 2 [(.mk 2 ⟨#[97]⟩ none 0 []), (.mk 2 ⟨#[98]⟩ none 0 [])])]) (.mk 6 ⟨#[]⟩ (some ⟨n104, 0, none⟩) 1 [(.mk 4 ⟨#[]⟩ (some ⟨n102, 0, none⟩) 2 [(.mk 6 ⟨#[]⟩ (some ⟨n97, 0, none⟩) 1 [(.mk 2 ⟨#[97]⟩ none 0 [])]), (.mk 6 ⟨#[]⟩ (some ⟨n100, 0, none⟩) 1 [(.mk 2 ⟨#[98]⟩ none 0 [])])])]) (.star (.alt (.nod sa) (.nod sb'))) (.star (.seq (.star (.nod sa)) (.star (.nod sb')))) (.star (.alt (.nod (by decide)) (.nod (by decide)))) (.star (.seq (.star (.nod (by decide))) (.star (.nod (by decide))))) (rx1 (rx2 rx0 rx0)) (rx1 (rx2 (rx1 rx0) (rx1 rx0))) (by decide) (by decide) sE1)) ?_ rfl gd_n
              rintro _ _ ⟨d1, ⟨rfl, hd1⟩, rfl⟩
              refine ⟨sbt, (x_y (i := 17) rfl (by kernel_rfl) (yl_move (T rfl)) ?_ rfl gd_n)⟩
              refine x_y (i := 18) rfl (by kernel_rfl) (yl_extract (T rfl) rfl) ?_ rfl gd_n
              refine x_y (i := 19) rfl (by kernel_rfl) (yl_extract (T rfl) rfl) ?_ rfl gd_n
              refine x_y (i := 20) rfl (by kernel_rfl) (yl_extract (T rfl) rfl) ?_ rfl gd_n
              refine x_y (i := 21) rfl (by kernel_rfl) (yl_assign (T rfl)) ?_ rfl gd_n
              refine x_y (i := 22) rfl (by kernel_rfl) (yl_assign (T rfl)) ?_ rfl gd_n
              refine x_y (i := 23) rfl (by kernel_rfl) (yl_assign (T rfl)) ?_ rfl gd_n
              refine x_nil (by kernel_rfl) rfl ?_
              refine jl_nil ?_
              refine q_cutC (()) ?_ ⟨(by first | exact at_f rfl | (refine at_e (at_f rfl) (vint ?_); omega) | (refine at_e (at_f rfl) ?_; simp; done)), (by first | exact at_f rfl | (refine at_e (at_f rfl) (vint ?_); omega) | (refine at_e (at_f rfl) ?_; simp; done)), trivial⟩ ⟨at_f rfl, at_f rfl, at_f rfl, at_f rfl, trivial⟩ sbt
              trivial
          · refine xs_e rfl (eff_bslice (.cons (T rfl) .nil) (bs22_1_0 _ _ _ _ _)) ?_ rfl gd_n
            rintro _ _ ⟨n100, rfl, rfl⟩
            refine ⟨sbt, (x_one (i := 2) (by kernel_rfl) (by kernel_rfl) ?_)⟩
            refine xs_e rfl (eff_bslice (.cons (T rfl) (.cons (T rfl) .nil)) (bs22_2_0_1 _ _ _ _ _ _ _ _ _ _)) ?_ rfl gd_n
            rintro _ _ ⟨n92, rfl, rfl⟩
            refine ⟨sbt, (x_y (i := 3) rfl (by kernel_rfl) (yl_call (.cons ev_c (.cons (T rfl) .nil)) Tryz.call26 (fun H' hs => op_s 5 (some ⟨n92, 0, none⟩) [(.mk 2 ⟨#[97]⟩ none 0 []), (.mk 2 ⟨#[98]⟩ none 0 [])] 2)) ?_ rfl gd_n)⟩
            refine x_one (i := 4) (by kernel_rfl) (by kernel_rfl) ?_
            refine xs_e rfl (eff_bslice (.cons (T rfl) .nil) (bs22_1_0 _ _ _ _ _)) ?_ rfl gd_n
            rintro _ _ ⟨n94, rfl, rfl⟩
            refine ⟨sbt, (x_y (i := 5) rfl (by kernel_rfl) (yl_call (.cons ev_c (.cons (T rfl) .nil)) Tryz.call26 (fun H' hs => op_s 6 (some ⟨n94, 0, none⟩) [(.mk 5 ⟨#[]⟩ (some ⟨n92, 0, none⟩) 2 [(.mk 2 ⟨#[97]⟩ none 0 []), (.mk 2 ⟨#[98]⟩ none 0 [])])] 1)) ?_ rfl gd_n)⟩
            refine x_y (i := 8) rfl (by kernel_rfl) (yl_call (.cons ev_c (.cons (T rfl) .nil)) Tryz.call26 (fun H' hs => op_s 6 (some ⟨n97, 0, none⟩) [(.mk 2 ⟨#[97]⟩ none 0 [])] 1)) ?_ rfl gd_n
            refine x_y (i := 11) rfl (by kernel_rfl) (yl_call (.cons ev_c (.cons (T rfl) .nil)) Tryz.call26 (fun H' hs => op_s 6 (some ⟨n100, 0, none⟩) [(.mk 2 ⟨#[98]⟩ none 0 [])] 1)) ?_ rfl gd_n
            refine x_one (i := 12) (by kernel_rfl) (by kernel_rfl) ?_
            refine xs_e rfl (eff_bslice (.cons (T rfl) (.cons (T rfl) .nil)) (bs22_2_0_1 _ _ _ _ _ _ _ _ _ _)) ?_ rfl gd_n
            rintro _ _ ⟨n102, rfl, rfl⟩
            refine ⟨sbt, (x_y (i := 13) rfl (by kernel_rfl) (yl_call (.cons ev_c (.cons (T rfl) .nil)) Tryz.call26 (fun H' hs => op_s 4 (some ⟨n102, 0, none⟩) [(.mk 6 ⟨#[]⟩ (some ⟨n97, 0, none⟩) 1 [(.mk 2 ⟨#[97]⟩ none 0 [])]), (.mk 6 ⟨#[]⟩ (some ⟨n100, 0, none⟩) 1 [(.mk 2 ⟨#[98]⟩ none 0 [])])] 2)) ?_ rfl gd_n)⟩
            refine x_one (i := 14) (by kernel_rfl) (by kernel_rfl) ?_
            refine xs_e rfl (eff_bslice (.cons (T rfl) .nil) (bs22_1_0 _ _ _ _ _)) ?_ rfl gd_n
            rintro _ _ ⟨n104, rfl, rfl⟩
            refine ⟨sbt, (x_y (i := 15) rfl (by kernel_rfl) (yl_call (.cons ev_c (.cons (T rfl) .nil)) Tryz.call26 (fun H' hs => op_s 6 (some ⟨n104, 0, none⟩) [(.mk 4 ⟨#[]⟩ (some ⟨n102, 0, none⟩) 2 [(.mk 6 ⟨#[]⟩ (some ⟨n97, 0, none⟩) 1 [(.mk 2 ⟨#[97]⟩ none 0 [])]), (.mk 6 ⟨#[]⟩ (some ⟨n100, 0, none⟩) 1 [(.mk 2 ⟨#[98]⟩ none 0 [])])])] 1)) ?_ rfl gd_n)⟩
            refine x_one (i := 16) (by kernel_rfl) (by kernel_rfl) ?_
            refine xs_e rfl (eff_call (.cons (T rfl) (.cons (T rfl) .nil)) Tryz.call23 (equalE_s (.mk 6 ⟨#[]⟩ (some ⟨n94, 0, none⟩) 1 [(.mk 5 ⟨#[]⟩ (some ⟨n92, 0, none⟩) 2 [(.mk 2 ⟨#[97]⟩ none 0 []), (.mk 2 ⟨#[98]⟩ none 0 [])])]) (.mk 6 ⟨#[]⟩ (some ⟨n104, 0, none⟩) 1 [(.mk 4 ⟨#[]⟩ (some ⟨n102, 0, none⟩) 2 [(.mk 6 ⟨#[]⟩ (some ⟨n97, 0, none⟩) 1 [(.mk 2 ⟨#[97]⟩ none 0 [])]), (.mk 6 ⟨#[]⟩ (some ⟨n100, 0, none⟩) 1 [(.mk 2 ⟨#[98]⟩ none 0 [])])])]) (.star (.alt (.nod sa) (.nod sb'))) (.star (.seq (.star (.nod sa)) (.star (.nod sb')))) (.star (.alt (.nod (by decide)) (.nod (by decide)))) (.star (.seq (.star (.nod (by decide))) (.star (.nod (by decide))))) (rx1 (rx2 rx0 rx0)) (rx1 (rx2 (rx1 rx0) (rx1 rx0))) (by decide) (by decide) sE1)) ?_ rfl gd_n
            rintro _ _ ⟨d1, ⟨rfl, hd1⟩, rfl⟩
            refine ⟨sbt, (x_y (i := 17) rfl (by kernel_rfl) (yl_move (T rfl)) ?_ rfl gd_n)⟩
            refine x_y (i := 18) rfl (by kernel_rfl) (yl_extract (T rfl) rfl) ?_ rfl gd_n
            refine x_y (i := 19) rfl (by kernel_rfl) (yl_extract (T rfl) rfl) ?_ rfl gd_n
            refine x_y (i := 20) rfl (by kernel_rfl) (yl_extract (T rfl) rfl) ?_ rfl gd_n
            refine x_y (i := 21) rfl (by kernel_rfl) (yl_assign (T rfl)) ?_ rfl gd_n
            refine x_y (i := 22) rfl (by kernel_rfl) (yl_assign (T rfl)) ?_ rfl gd_n
            refine x_y (i := 23) rfl (by kernel_rfl) (yl_assign (T rfl)) ?_ rfl gd_n
            refine x_nil (by kernel_rfl) rfl ?_
            refine jl_nil ?_
            refine q_cutC (()) ?_ ⟨(by first | exact at_f rfl | (refine at_e (at_f rfl) (vint ?_); omega) | (refine at_e (at_f rfl) ?_; simp; done)), (by first | exact at_f rfl | (refine at_e (at_f rfl) (vint ?_); omega) | (refine at_e (at_f rfl) ?_; simp; done)), trivial⟩ ⟨at_f rfl, at_f rfl, at_f rfl, at_f rfl, trivial⟩ sbt
            trivial
        · refine xs_e rfl (eff_bslice (.cons (T rfl) .nil) (bs22_1_0 _ _ _ _ _)) ?_ rfl gd_n
          rintro _ _ ⟨n100, rfl, rfl⟩
          refine ⟨sbt, ?_⟩
          refine x_two (i := 2) (j := 7) (by kernel_rfl) (by kernel_rfl) ?_ ?_
          · refine xs_e rfl (eff_bslice (.cons (T rfl) (.cons (T rfl) .nil)) (bs22_2_0_1 _ _ _ _ _ _ _ _ _ _)) ?_ rfl gd_n
            rintro _ _ ⟨n92, rfl, rfl⟩
            refine ⟨sbt, (x_y (i := 3) rfl (by kernel_rfl) (yl_call (.cons ev_c (.cons (T rfl) .nil)) Tryz.call26 (fun H' hs => op_s 5 (some ⟨n92, 0, none⟩) [(.mk 2 ⟨#[97]⟩ none 0 []), (.mk 2 ⟨#[98]⟩ none 0 [])] 2)) ?_ rfl gd_n)⟩
            refine x_two (i := 4) (j := 7) (by kernel_rfl) (by kernel_rfl) ?_ ?_
            · refine xs_e rfl (eff_bslice (.cons (T rfl) .nil) (bs22_1_0 _ _ _ _ _)) ?_ rfl gd_n
              rintro _ _ ⟨n94, rfl, rfl⟩
              refine ⟨sbt, (x_y (i := 5) rfl (by kernel_rfl) (yl_call (.cons ev_c (.cons (T rfl) .nil)) Tryz.call26 (fun H' hs => op_s 6 (some ⟨n94, 0, none⟩) [(.mk 5 ⟨#[]⟩ (some ⟨n92, 0, none⟩) 2 [(.mk 2 ⟨#[97]⟩ none 0 []), (.mk 2 ⟨#[98]⟩ none 0 [])])] 1)) ?_ rfl gd_n)⟩
              refine x_one (i := 7) (by kernel_rfl) (by kernel_rfl) ?_
              refine xs_e rfl (eff_bslice (.cons (T rfl) .nil) (bs22_1_0 _ _ _ _ _)) ?_ rfl gd_n
              rintro _ _ ⟨n97, rfl, rfl⟩
              refine ⟨sbt, (x_y (i := 8) rfl (by kernel_rfl) (yl_call (.cons ev_c (.cons (T rfl) .nil)) Tryz.call26 (fun H' hs => op_s 6 (some ⟨n97, 0, none⟩) [(.mk 2 ⟨#[97]⟩ none 0 [])] 1)) ?_ rfl gd_n)⟩
              refine x_y (i := 11) rfl (by kernel_rfl) (yl_call (.cons ev_c (.cons (T rfl) .nil)) Tryz.call26 (fun H' hs => op_s 6 (some ⟨n100, 0, none⟩) [(.mk 2 ⟨#[98]⟩ none 0 [])] 1)) ?_ rfl gd_n
              refine x_one (i := 12) (by kernel_rfl) (by kernel_rfl) ?_
              refine xs_e rfl (eff_bslice (.cons (T rfl) (.cons (T rfl) .nil)) (bs22_2_0_1 _ _ _ _ _ _ _ _ _ _)) ?_ rfl gd_n
              rintro _ _ ⟨n102, rfl, rfl⟩
              refine ⟨sbt, (x_y (i := 13) rfl (by kernel_rfl) (yl_call (.cons ev_c (.cons (T rfl) .nil)) Tryz.call26 (fun H' hs => op_s 4 (some ⟨n102, 0, none⟩) [(.mk 6 ⟨#[]⟩ (some ⟨n97, 0, none⟩) 1 [(.mk 2 ⟨#[97]⟩ none 0 [])]), (.mk 6 ⟨#[]⟩ (some ⟨n100, 0, none⟩) 1 [(.mk 2 ⟨#[98]⟩ none 0 [])])] 2)) ?_ rfl gd_n)⟩
              refine x_one (i := 14) (by kernel_rfl) (by kernel_rfl) ?_
              refine xs_e rfl (eff_bslice (.cons (T rfl) .nil) (bs22_1_0 _ _ _ _ _)) ?_ rfl gd_n
              rintro _ _ ⟨n104, rfl, rfl⟩
              refine ⟨sbt, (x_y (i := 15) rfl (by kernel_rfl) (yl_call (.cons ev_c (.cons (T rfl) .nil)) Tryz.call26 (fun H' hs => op_s 6 (some ⟨n104, 0, none⟩) [(.mk 4 ⟨#[]⟩ (some ⟨n102, 0, none⟩) 2 [(.mk 6 ⟨#[]⟩ (some ⟨n97, 0, none⟩) 1 [(.mk 2 ⟨#[97]⟩ none 0 [])]), (.mk 6 ⟨#[]⟩ (some ⟨n100, 0, none⟩) 1 [(.mk 2 ⟨#[98]⟩ none 0 [])])])] 1)) ?_ rfl gd_n)⟩
              refine x_one (i := 16) (by kernel_rfl) (by kernel_rfl) ?_
              refine xs_e rfl (eff_call (.cons (T rfl) (.cons (T rfl) .nil)) Tryz.call23 (equalE_s (.mk 6 ⟨#[]⟩ (some ⟨n94, 0, none⟩) 1 [(.mk 5 ⟨#[]⟩ (some ⟨n92, 0, none⟩) 2 [(.mk 2 ⟨#[97]⟩ none 0 []), (.mk 2 ⟨#[98]⟩ none 0 [])])]) (.mk 6 ⟨#[]⟩ (some ⟨n104, 0, none⟩) 1 [(.mk 4 ⟨#[]⟩ (some ⟨n102, 0, none⟩) 2 [(.mk 6 ⟨#[]⟩ (some ⟨n97, 0, none⟩) 1 [(.mk 2 ⟨#[97]⟩ none 0 [])]), (.mk 6 ⟨#[]⟩ (some ⟨n100, 0, none⟩) 1 [(.mk 2 ⟨#[98]⟩ none 0 [])])])]) (.star (.alt (.nod sa) (.nod sb'))) (.star (.seq (.star (.nod sa)) (.star (.nod sb')))) (.star (.alt (.nod (by decide)) (.nod (by decide)))) (.star (.seq (.star (.nod (by decide))) (.star (.nod (by decide))))) (rx1 (rx2 rx0 rx0)) (rx1 (rx2 (rx1 rx0) (rx1 rx0))) (by decide) (by decide) sE1)) ?_ rfl gd_n
              rintro _ _ ⟨d1, ⟨rfl, hd1⟩, rfl⟩
              refine ⟨sbt, (x_y (i := 17) rfl (by kernel_rfl) (yl_move (T rfl)) ?_ rfl gd_n)⟩
              refine x_y (i := 18) rfl (by kernel_rfl) (yl_extract (T rfl) rfl) ?_ rfl gd_n
              refine x_y (i := 19) rfl (by kernel_rfl) (yl_extract (T rfl) rfl) ?_ rfl gd_n
              refine x_y (i := 20) rfl (by kernel_rfl) (yl_extract (T rfl) rfl) ?_ rfl gd_n
              refine x_y (i := 21) rfl (by kernel_rfl) (yl_assign (T rfl)) ?_ rfl gd_n
              refine x_y (i := 22) rfl (by kernel_rfl) (yl_assign (T rfl)) ?_ rfl gd_n
              refine x_y (i := 23) rfl (by kernel_rfl) (yl_assign (T rfl)) ?_ rfl gd_n
              refine x_nil (by kernel_rfl) rfl ?_
              refine jl_nil ?_
              refine q_cutC (()) ?_ ⟨(by first | exact at_f rfl | (refine at_e (at_f rfl) (vint ?_); omega) | (refine at_e (at_f rfl) ?_; simp; done)), (by first | exact at_f rfl | (refine at_e (at_f rfl) (vint ?_); omega) | (refine at_e (at_f rfl) ?_; simp; done)), trivial⟩ ⟨at_f rfl, at_f rfl, at_f rfl, at_f rfl, trivial⟩ sbt
              trivial
            · refine xs_e rfl (eff_bslice (.cons (T rfl) .nil) (bs22_1_0 _ _ _ _ _)) ?_ rfl gd_n
              rintro _ _ ⟨n97, rfl, rfl⟩
              refine ⟨sbt, (x_one (i := 4) (by kernel_rfl) (by kernel_rfl) ?_)⟩
              refine xs_e rfl (eff_bslice (.cons (T rfl) .nil) (bs22_1_0 _ _ _ _ _)) ?_ rfl gd_n
              rintro _ _ ⟨n94, rfl, rfl⟩
              refine ⟨sbt, (x_y (i := 5) rfl (by kernel_rfl) (yl_call (.cons ev_c (.cons (T rfl) .nil)) Tryz.call26 (fun H' hs => op_s 6 (some ⟨n94, 0, none⟩) [(.mk 5 ⟨#[]⟩ (some ⟨n92, 0, none⟩) 2 [(.mk 2 ⟨#[97]⟩ none 0 []), (.mk 2 ⟨#[98]⟩ none 0 [])])] 1)) ?_ rfl gd_n)⟩
              refine x_y (i := 8) rfl (by kernel_rfl) (yl_call (.cons ev_c (.cons (T rfl) .nil)) Tryz.call26 (fun H' hs => op_s 6 (some ⟨n97, 0, none⟩) [(.mk 2 ⟨#[97]⟩ none 0 [])] 1)) ?_ rfl gd_n
              refine x_y (i := 11) rfl (by kernel_rfl) (yl_call (.cons ev_c (.cons (T rfl) .nil)) Tryz.call26 (fun H' hs => op_s 6 (some ⟨n100, 0, none⟩) [(.mk 2 ⟨#[98]⟩ none 0 [])] 1)) ?_ rfl gd_n
              refine x_one (i := 12) (by kernel_rfl) (by kernel_rfl) ?_
              refine xs_e rfl (eff_bslice (.cons (T rfl) (.cons (T rfl) .nil)) (bs22_2_0_1 _ _ _ _ _ _ _ _ _ _)) ?_ rfl gd_n
              rintro _ _ ⟨n102, rfl, rfl⟩
              refine ⟨sbt, (x_y (i := 13) rfl (by kernel_rfl) (yl_call (.cons ev_c (.cons (T rfl) .nil)) Tryz.call26 (fun H' hs => op_s 4 (some ⟨n102, 0, none⟩) [(.mk 6 ⟨#[]⟩ (some ⟨n97, 0, none⟩) 1 [(.mk 2 ⟨#[97]⟩ none 0 [])]), (.mk 6 ⟨#[]⟩ (some ⟨n100, 0, none⟩) 1 [(.mk 2 ⟨#[98]⟩ none 0 [])])] 2)) ?_ rfl gd_n)⟩
              refine x_one (i := 14) (by kernel_rfl) (by kernel_rfl) ?_
              refine xs_e rfl (eff_bslice (.cons (T rfl) .nil) (bs22_1_0 _ _ _ _ _)) ?_ rfl gd_n
              rintro _ _ ⟨n104, rfl, rfl⟩
              refine ⟨sbt, (x_y (i := 15) rfl (by kernel_rfl) (yl_call (.cons ev_c (.cons (T rfl) .nil)) Tryz.call26 (fun H' hs => op_s 6 (some ⟨n104, 0, none⟩) [(.mk 4 ⟨#[]⟩ (some ⟨n102, 0, none⟩) 2 [(.mk 6 ⟨#[]⟩ (some ⟨n97, 0, none⟩) 1 [(.mk 2 ⟨#[97]⟩ none 0 [])]), (.mk 6 ⟨#[]⟩ (some ⟨n100, 0, none⟩) 1 [(.mk 2 ⟨#[98]⟩ none 0 [])])])] 1)) ?_ rfl gd_n)⟩
              refine x_one (i := 16) (by kernel_rfl) (by kernel_rfl) ?_
              refine xs_e rfl (eff_call (.cons (T rfl) (.cons (T rfl) .nil)) Tryz.call23 (equalE_s (.mk 6 ⟨#[]⟩ (some ⟨n94, 0, none⟩) 1 [(.mk 5 ⟨#[]⟩ (some ⟨n92, 0, none⟩) 2 [(.mk 2 ⟨#[97]⟩ none 0 []), (.mk 2 ⟨#[98]⟩ none 0 [])])]) (.mk 6 ⟨#[]⟩ (some ⟨n104, 0, none⟩) 1 [(.mk 4 ⟨#[]⟩ (some ⟨n102, 0, none⟩) 2 [(.mk 6 ⟨#[]⟩ (some ⟨n97, 0, none⟩) 1 [(.mk 2 ⟨#[97]⟩ none 0 [])]), (.mk 6 ⟨#[]⟩ (some ⟨n100, 0, none⟩) 1 [(.mk 2 ⟨#[98]⟩ none 0 [])])])]) (.star (.alt (.nod sa) (.nod sb'))) (.star (.seq (.star (.nod sa)) (.star (.nod sb')))) (.star (.alt (.nod (by decide)) (.nod (by decide)))) (.star (.seq (.star (.nod (by decide))) (.star (.nod (by decide))))) (rx1 (rx2 rx0 rx0)) (rx1 (rx2 (rx1 rx0) (rx1 rx0))) (by decide) (by decide) sE1)) ?_ rfl gd_n
              rintro _ _ ⟨d1, ⟨rfl, hd1⟩, rfl⟩
              refine ⟨sbt, (x_y (i := 17) rfl (by kernel_rfl) (yl_move (T rfl)) ?_ rfl gd_n)⟩
              refine x_y (i := 18) rfl (by kernel_rfl) (yl_extract (T rfl) rfl) ?_ rfl gd_n
              refine x_y (i := 19) rfl (by kernel_rfl) (yl_extract (T rfl) rfl) ?_ rfl gd_n
              refine x_y (i := 20) rfl (by kernel_rfl) (yl_extract (T rfl) rfl) ?_ rfl gd_n
              refine x_y (i := 21) rfl (by kernel_rfl) (yl_assign (T rfl)) ?_ rfl gd_n
              refine x_y (i := 22) rfl (by kernel_rfl) (yl_assign (T rfl)) ?_ rfl gd_n
              refine x_y (i := 23) rfl (by kernel_rfl) (yl_assign (T rfl)) ?_ rfl gd_n
              refine x_nil (by kernel_rfl) rfl ?_
              refine jl_nil ?_
              refine q_cutC (()) ?_ ⟨(by first | exact at_f rfl | (refine at_e (at_f rfl) (vint ?_); omega) | (refine at_e (at_f rfl) ?_; simp; done)), (by first | exact at_f rfl | (refine at_e (at_f rfl) (vint ?_); omega) | (refine at_e (at_f rfl) ?_; simp; done)), trivial⟩ ⟨at_f rfl, at_f rfl, at_f rfl, at_f rfl, trivial⟩ sbt
              trivial
          · refine xs_e rfl (eff_bslice (.cons (T rfl) .nil) (bs22_1_0 _ _ _ _ _)) ?_ rfl gd_n
            rintro _ _ ⟨n97, rfl, rfl⟩
            refine ⟨sbt, (x_one (i := 2) (by kernel_rfl) (by kernel_rfl) ?_)⟩
            refine xs_e rfl (eff_bslice (.cons (T rfl) (.cons (T rfl) .nil)) (bs22_2_0_1 _ _ _ _ _ _ _ _ _ _)) ?_ rfl gd_n
            rintro _ _ ⟨n92, rfl, rfl⟩
            refine ⟨sbt, (x_y (i := 3) rfl (by kernel_rfl) (yl_call (.cons ev_c (.cons (T rfl) .nil)) Tryz.call26 (fun H' hs => op_s 5 (some ⟨n92, 0, none⟩) [(.mk 2 ⟨#[97]⟩ none 0 []), (.mk 2 ⟨#[98]⟩ none 0 [])] 2)) ?_ rfl gd_n)⟩
            refine x_one (i := 4) (by kernel_rfl) (by kernel_rfl) ?_
            refine xs_e rfl (eff_bslice (.cons (T rfl) .nil) (bs22_1_0 _ _ _ _ _)) ?_ rfl gd_n
            rintro _ _ ⟨n94, rfl, rfl⟩
            refine ⟨sbt, (x_y (i := 5) rfl (by kernel_rfl) (yl_call (.cons ev_c (.cons (T rfl) .nil)) Tryz.call26 (fun H' hs => op_s 6 (some ⟨n94, 0, none⟩) [(.mk 5 ⟨#[]⟩ (some ⟨n92, 0, none⟩) 2 [(.mk 2 ⟨#[97]⟩ none 0 []), (.mk 2 ⟨#[98]⟩ none 0 [])])] 1)) ?_ rfl gd_n)⟩
            refine x_y (i := 8) rfl (by kernel_rfl) (yl_call (.cons ev_c (.cons (T rfl) .nil)) Tryz.call26 (fun H' hs => op_s 6 (some ⟨n97, 0, none⟩) [(.mk 2 ⟨#[97]⟩ none 0 [])] 1)) ?_ rfl gd_n
            refine x_y (i := 11) rfl (by kernel_rfl) (yl_call (.cons ev_c (.cons (T rfl) .nil)) Tryz.call26 (fun H' hs => op_s 6 (some ⟨n100, 0, none⟩) [(.mk 2 ⟨#[98]⟩ none 0 [])] 1)) ?_ rfl gd_n
            refine x_one (i := 12) (by kernel_rfl) (by kernel_rfl) ?_
            refine xs_e rfl (eff_bslice (.cons (T rfl) (.cons (T rfl) .nil)) (bs22_2_0_1 _ _ _ _ _ _ _ _ _ _)) ?_ rfl gd_n
            rintro _ _ ⟨n102, rfl, rfl⟩
            refine ⟨sbt, (x_y (i := 13) rfl (by kernel_rfl) (yl_call (.cons ev_c (.cons (T rfl) .nil)) Tryz.call26 (fun H' hs => op_s 4 (some ⟨n102, 0, none⟩) [(.mk 6 ⟨#[]⟩ (some ⟨n97, 0, none⟩) 1 [(.mk 2 ⟨#[97]⟩ none 0 [])]), (.mk 6 ⟨#[]⟩ (some ⟨n100, 0, none⟩) 1 [(.mk 2 ⟨#[98]⟩ none 0 [])])] 2)) ?_ rfl gd_n)⟩
            refine x_one (i := 14) (by kernel_rfl) (by kernel_rfl) ?_
            refine xs_e rfl (eff_bslice (.cons (T rfl) .nil) (bs22_1_0 _ _ _ _ _)) ?_ rfl gd_n
            rintro _ _ ⟨n104, rfl, rfl⟩
            refine ⟨sbt, (x_y (i := 15) rfl (by kernel_rfl) (yl_call (.cons ev_c (.cons (T rfl) .nil)) Tryz.call26 (fun H' hs => op_s 6 (some ⟨n104, 0, none⟩) [(.mk 4 ⟨#[]⟩ (some ⟨n102, 0, none⟩) 2 [(.mk 6 ⟨#[]⟩ (some ⟨n97, 0, none⟩) 1 [(.mk 2 ⟨#[97]⟩ none 0 [])]), (.mk 6 ⟨#[]⟩ (some ⟨n100, 0, none⟩) 1 [(.mk 2 ⟨#[98]⟩ none 0 [])])])] 1)) ?_ rfl gd_n)⟩
            refine x_one (i := 16) (by kernel_rfl) (by kernel_rfl) ?_
            refine xs_e rfl (eff_call (.cons (T rfl) (.cons (T rfl) .nil)) Tryz.call23 (equalE_s (.mk 6 ⟨#[]⟩ (some ⟨n94, 0, none⟩) 1 [(.mk 5 ⟨#[]⟩ (some ⟨n92, 0, none⟩) 2 [(.mk 2 ⟨#[97]⟩ none 0 []), (.mk 2 ⟨#[98]⟩ none 0 [])])]) (.mk 6 ⟨#[]⟩ (some ⟨n104, 0, none⟩) 1 [(.mk 4 ⟨#[]⟩ (some ⟨n102, 0, none⟩) 2 [(.mk 6 ⟨#[]⟩ (some ⟨n97, 0, none⟩) 1 [(.mk 2 ⟨#[97]⟩ none 0 [])]), (.mk 6 ⟨#[]⟩ (some ⟨n100, 0, none⟩) 1 [(.mk 2 ⟨#[98]⟩ none 0 [])])])]) (.star (.alt (.nod sa) (.nod sb'))) (.star (.seq (.star (.nod sa)) (.star (.nod sb')))) (.star (.alt (.nod (by decide)) (.nod (by decide)))) (.star (.seq (.star (.nod (by decide))) (.star (.nod (by decide))))) (rx1 (rx2 rx0 rx0)) (rx1 (rx2 (rx1 rx0) (rx1 rx0))) (by decide) (by decide) sE1)) ?_ rfl gd_n
            rintro _ _ ⟨d1, ⟨rfl, hd1⟩, rfl⟩
            refine ⟨sbt, (x_y (i := 17) rfl (by kernel_rfl) (yl_move (T rfl)) ?_ rfl gd_n)⟩
            refine x_y (i := 18) rfl (by kernel_rfl) (yl_extract (T rfl) rfl) ?_ rfl gd_n
            refine x_y (i := 19) rfl (by kernel_rfl) (yl_extract (T rfl) rfl) ?_ rfl gd_n
            refine x_y (i := 20) rfl (by kernel_rfl) (yl_extract (T rfl) rfl) ?_ rfl gd_n
            refine x_y (i := 21) rfl (by kernel_rfl) (yl_assign (T rfl)) ?_ rfl gd_n
            refine x_y (i := 22) rfl (by kernel_rfl) (yl_assign (T rfl)) ?_ rfl gd_n
            refine x_y (i := 23) rfl (by kernel_rfl) (yl_assign (T rfl)) ?_ rfl gd_n
            refine x_nil (by kernel_rfl) rfl ?_
            refine jl_nil ?_
            refine q_cutC (()) ?_ ⟨(by first | exact at_f rfl | (refine at_e (at_f rfl) (vint ?_); omega) | (refine at_e (at_f rfl) ?_; simp; done)), (by first | exact at_f rfl | (refine at_e (at_f rfl) (vint ?_); omega) | (refine at_e (at_f rfl) ?_; simp; done)), trivial⟩ ⟨at_f rfl, at_f rfl, at_f rfl, at_f rfl, trivial⟩ sbt
            trivial
      rintro _ _
      refine j_seq (j_any 16 [(0, true), (1, true), (5, true), (2, false), (3, true), (4, true), (6, false), (7, true), (8, false), (9, true), (10, true), (11, true), (12, true), (13, true), (14, true), (15, true)] _ mixd (by kernel_rfl) sb0 ?_)
      refine o_y rfl (yl_loadA (T rfl) Tryz.isAgg24 Tryz.sizeOf24 rfl (by first | exact cs_o)) ?_ rfl gd_n
      refine o_y rfl (yl_call .nil Tryz.call44 (fun H' hs => some_s)) (o_y rfl (yl_loadA (T rfl) Tryz.isAgg24 Tryz.sizeOf24 rfl (by first | exact cs_o)) ?_ rfl gd_n) rfl gd_n
      refine o_e rfl (eff_bslice (.cons (T rfl) (.cons (T rfl) .nil)) (bs22_2_0_1 _ _ _ _ _ _ _ _ _ _)) ?_ rfl gd_n
      rintro _ _ ⟨n113, rfl, rfl⟩
      refine ⟨sbt, (o_y rfl (yl_call (.cons ev_c (.cons (T rfl) .nil)) Tryz.call26 (fun H' hs => op_s 4 (some ⟨n113, 0, none⟩) [(.mk 2 ⟨#[97]⟩ none 0 []), (.mk 3 ⟨#[]⟩ none 0 [])] 2)) (o_y rfl (yl_call .nil Tryz.call44 (fun H' hs => some_s)) (o_e rfl (eff_bslice (.cons (T rfl) (.cons (T rfl) .nil)) (bs22_2_0_1 _ _ _ _ _ _ _ _ _ _)) ?_ rfl gd_n) rfl gd_n) rfl gd_n)⟩
      rintro _ _ ⟨n117, rfl, rfl⟩
      refine ⟨sbt, (o_y rfl (yl_call (.cons ev_c (.cons (T rfl) .nil)) Tryz.call26 (fun H' hs => op_s 4 (some ⟨n117, 0, none⟩) [(.mk 3 ⟨#[]⟩ none 0 []), (.mk 2 ⟨#[97]⟩ none 0 [])] 2)) (o_e rfl (eff_call (.cons (T rfl) (.cons (T rfl) .nil)) Tryz.call23 (equalE_s (.mk 4 ⟨#[]⟩ (some ⟨n113, 0, none⟩) 2 [(.mk 2 ⟨#[97]⟩ none 0 []), (.mk 3 ⟨#[]⟩ none 0 [])]) (.mk 4 ⟨#[]⟩ (some ⟨n117, 0, none⟩) 2 [(.mk 3 ⟨#[]⟩ none 0 []), (.mk 2 ⟨#[97]⟩ none 0 [])]) (.seq (.nod sa) .any) (.seq .any (.nod sa)) (.seq (.nod (by decide)) .any) (.seq .any (.nod (by decide))) (rx2 rx0 rx0) (rx2 rx0 rx0) (by decide) (by decide) sE2)) ?_ rfl gd_n) rfl gd_n)⟩
      rintro _ _ ⟨d2, ⟨rfl, hd2⟩, rfl⟩
      refine ⟨sbt, (o_y rfl (yl_move (T rfl)) (o_y rfl (yl_extract (T rfl) rfl) (o_y rfl (yl_extract (T rfl) rfl) (o_y rfl (yl_extract (T rfl) rfl) (o_y rfl (yl_assign (T rfl)) (o_y rfl (yl_assign (T rfl)) (o_y rfl (yl_assign (T rfl)) (jo_nil rfl (jl_nil (q_then (j_seq (j_region (y_ (yl_build (.cons ev_c .nil) (bd58_1 _)) (e_ (eff_bslice (.cons ev_c .nil) (bs42_1_0 _)) ?_ rfl) rfl)))))) rfl gd_n) rfl gd_n) rfl gd_n) rfl gd_n) rfl gd_n) rfl gd_n) rfl gd_n)⟩
      rintro _ _ ⟨n124, rfl, rfl⟩
      refine y_ (yl_build (.cons (T rfl) (.cons ev_c .nil)) (bd58_0_1 _ _ _ _)) (e_ (eff_alloc Tryz.zeroValue58 cs_) ?_ rfl) rfl
      rintro _ _ ⟨n16, rfl, rfl⟩
      refine e_ (eff_alloc Tryz.zeroValue58 cs_) ?_ rfl
      rintro _ _ ⟨n17, rfl, rfl⟩
      first | refine jl_e (eff_sW (T rfl) (T rfl) Tryz.sizeOf58) rfl gd_n ?_
      rintro _ _ ⟨rfl, rfl⟩
      first | refine jl_e (eff_sW (T rfl) (T rfl) Tryz.sizeOf58) rfl gd_n ?_
      rintro _ _ ⟨rfl, rfl⟩
      refine jl_nil (q_then (j_keep [(1, _), (3, _), (4, _), (11, _), (12, _), (13, _), (14, _), (15, _), (16, _), (17, _)] ⟨at_f rfl, at_f rfl, at_f rfl, at_f rfl, at_f rfl, at_f rfl, at_f rfl, at_f rfl, at_f rfl, at_f rfl, trivial⟩ (j_seq (j_region (y_ (yl_loadA (T rfl) Tryz.isAgg56 Tryz.sizeOf56 rfl (by first | exact cs_o)) ?_ rfl)))))
      refine y_ (yl_loadA (T rfl) Tryz.isAgg58 Tryz.sizeOf58 rfl (by first | exact cs_o)) ?_ rfl
      refine y_ (yl_loadA (T rfl) Tryz.isAgg29 Tryz.sizeOf29 rfl (by first | exact cs_o)) ?_ rfl
      refine e_ (eff_call (.cons (T rfl) (.cons (T rfl) (.cons (T rfl) (.cons ev_c (.cons ev_c .nil))))) Tryz.call29 (findE_s (l := [2, 3]) (c := 0) (exN x1 x2 x3) ⟨none, 0, [], -1⟩ m1 ⟨(ex_net (by repeat (first | exact fnd_h | refine fnd_t ?_ | refine fnd_a ?_)) (by repeat (first | exact fnd_h | refine fnd_t ?_ | refine fnd_a ?_))), (fun i x hi => by cases hi), hm1.mono sbt⟩ ⟨ex_ok x1 x2 x3, (by first | exact Nat.zero_le _ | (show 1 ≤ 4611686018427387903; omega)), hk1, hs1, by omega⟩ 0 (show _ < 4 by omega) 3 (by rw [hp1]; exact sF1 x1 x2 x3 _ _))) ?_ rfl
      rintro _ _ ⟨d3, ⟨rfl, hd3⟩, rfl⟩
      refine y_ (yl_move (T rfl)) (y_ (yl_extract (T rfl) rfl) (y_ (yl_extract (T rfl) rfl) (y_ (yl_assign (T rfl)) (y_ (yl_assign (T rfl)) (jl_nil (q_then (j_seq (j_region (y_ (yl_loadA (T rfl) Tryz.isAgg56 Tryz.sizeOf56 rfl (by first | exact cs_o)) ?_ rfl))))) rfl) rfl) rfl) rfl) rfl
      refine y_ (yl_loadA (T rfl) Tryz.isAgg58 Tryz.sizeOf58 rfl (by first | exact cs_o)) ?_ rfl
      refine y_ (yl_loadA (T rfl) Tryz.isAgg29 Tryz.sizeOf29 rfl (by first | exact cs_o)) ?_ rfl
      refine e_ (eff_call (.cons (T rfl) (.cons (T rfl) (.cons (T rfl) (.cons ev_c (.cons ev_c .nil))))) Tryz.call29 (findE_s (l := [0, 4, 3]) (c := 0) (exN x1 x2 x3) ⟨some ⟨n124, 0, none⟩, 1, [2], -1⟩ m1 ⟨(ex_net (by repeat (first | exact fnd_h | refine fnd_t ?_ | refine fnd_a ?_)) (by repeat (first | exact fnd_h | refine fnd_t ?_ | refine fnd_a ?_))), (arr_blk (l := [(2 : Int)]) (cells := [(2 : Int)].flatMap encI) (e := 3) (fun _ => rfl) rfl (by repeat (first | exact fnd_h | refine fnd_t ?_ | refine fnd_a ?_))), hm1.mono sbt⟩ ⟨ex_ok x1 x2 x3, (by first | exact Nat.zero_le _ | (show 1 ≤ 4611686018427387903; omega)), hk1, hs1, by omega⟩ 0 (show _ < 4 by omega) 3 (by rw [hp1]; exact sF2 x1 x2 x3 _ _))) ?_ rfl
      rintro _ _ ⟨d4, ⟨rfl, hd4⟩, rfl⟩
      refine y_ (yl_move (T rfl)) (y_ (yl_extract (T rfl) rfl) (y_ (yl_extract (T rfl) rfl) (y_ (yl_assign (T rfl)) (y_ (yl_assign (T rfl)) (jl_nil (q_then (j_keep [(1, _), (3, _), (4, _), (11, _), (12, _), (13, _), (14, _), (15, _), (16, _), (18, _), (19, _), (20, _), (21, _)] ⟨at_f rfl, at_f rfl, at_f rfl, at_f rfl, at_f rfl, at_f rfl, at_f rfl, at_f rfl, at_f rfl, at_f rfl, at_f rfl, at_f rfl, at_f rfl, trivial⟩ (j_seq (j_region (y_ (yl_loadA (T rfl) Tryz.isAgg56 Tryz.sizeOf56 rfl (by first | exact cs_o)) ?_ rfl)))))) rfl) rfl) rfl) rfl) rfl
      refine y_ (yl_loadA (T rfl) Tryz.isAgg58 Tryz.sizeOf58 rfl (by first | exact cs_o)) ?_ rfl
      refine y_ (yl_loadA (T rfl) Tryz.isAgg29 Tryz.sizeOf29 rfl (by first | exact cs_o)) ?_ rfl
      refine e_ (eff_call (.cons (T rfl) (.cons (T rfl) (.cons (T rfl) (.cons ev_c (.cons ev_c .nil))))) Tryz.call29 (findE_s (l := []) (c := 18) (exN x1 x2 x3) ⟨none, 0, [], -1⟩ m1 ⟨(ex_net (by repeat (first | exact fnd_h | refine fnd_t ?_ | refine fnd_a ?_)) (by repeat (first | exact fnd_h | refine fnd_t ?_ | refine fnd_a ?_))), (fun i x hi => by cases hi), hm1.mono sbt⟩ ⟨ex_ok x1 x2 x3, (by first | exact Nat.zero_le _ | (show 1 ≤ 4611686018427387903; omega)), hk1, hs1, by omega⟩ 1 (show _ < 4 by omega) 3 (by rw [hp1]; exact sF3 x1 x2 x3 _ _))) ?_ rfl
      rintro _ _ ⟨d5, ⟨rfl, hd5⟩, rfl⟩
      refine y_ (yl_move (T rfl)) (y_ (yl_extract (T rfl) rfl) (y_ (yl_extract (T rfl) rfl) (y_ (yl_assign (T rfl)) (y_ (yl_assign (T rfl)) (jl_nil (q_then (j_seq (j_region (y_ (yl_loadA (T rfl) Tryz.isAgg56 Tryz.sizeOf56 rfl (by first | exact cs_o)) ?_ rfl))))) rfl) rfl) rfl) rfl) rfl
      refine y_ (yl_loadA (T rfl) Tryz.isAgg58 Tryz.sizeOf58 rfl (by first | exact cs_o)) ?_ rfl
      refine y_ (yl_loadA (T rfl) Tryz.isAgg29 Tryz.sizeOf29 rfl (by first | exact cs_o)) ?_ rfl
      refine e_ (eff_call (.cons (T rfl) (.cons (T rfl) (.cons (T rfl) (.cons ev_c .nil)))) Tryz.call35 (reachedE_s (exN x1 x2 x3) ⟨none, 0, [], -1⟩ m1 ⟨(ex_net (by repeat (first | exact fnd_h | refine fnd_t ?_ | refine fnd_a ?_)) (by repeat (first | exact fnd_h | refine fnd_t ?_ | refine fnd_a ?_))), (fun i x hi => by cases hi), hm1.mono sbt⟩ ⟨ex_ok x1 x2 x3, (by first | exact Nat.zero_le _ | (show 1 ≤ 4611686018427387903; omega)), hk1, hs1, by omega⟩ 1 (show _ < 4 by omega))) ?_ rfl
      rintro _ _ ⟨d6, ks, ⟨rfl, hd6, hreach⟩, rfl⟩
      rw [hp1] at hreach
      obtain rfl := sReach hreach
      clear hreach
      refine y_ (yl_assign (T rfl)) (jl_nil (q_then (j_keep [(1, _), (3, _), (4, _), (11, _), (12, _), (13, _), (14, _), (15, _), (16, _), (18, _), (19, _), (20, _), (21, _), (23, _), (24, _)] ⟨at_f rfl, at_f rfl, at_f rfl, at_f rfl, at_f rfl, at_f rfl, at_f rfl, at_f rfl, at_f rfl, at_f rfl, at_f rfl, at_f rfl, at_f rfl, at_f rfl, at_f rfl, trivial⟩ (j_seq (j_region (y_ (yl_move (T rfl)) (y_ (yl_move (T rfl)) (jl_y (yl_move (T rfl)) rfl (gd_y rfl rfl (at_f rfl)) (jl_y (yl_eql (T rfl) ev_c) rfl (gd_y rfl rfl (at_f rfl)) (y_ (yl_pick_t (T rfl) (T rfl)) (y_ (yl_move (T rfl)) (jl_y (yl_move (T rfl)) rfl (gd_y rfl rfl (at_f rfl)) (jl_y (yl_not (T rfl)) rfl (gd_y rfl rfl (at_f rfl)) (y_ (yl_pick_t (T rfl) (T rfl)) (y_ (yl_move (T rfl)) (jl_y (yl_move (T rfl)) rfl (gd_y rfl rfl (at_f rfl)) (jl_y (yl_eql (T rfl) ev_c) rfl (gd_y rfl rfl (at_f rfl)) (y_ (yl_pick_t (T rfl) (T rfl)) (y_ (yl_move (T rfl)) (jl_y (yl_move (T rfl)) rfl (gd_y rfl rfl (at_f rfl)) (jl_e (eff_bslice (.cons ev_c (.cons ev_c .nil)) (bs25_2_0_1 _ _)) rfl (gd_y rfl rfl (at_f rfl)) ?_)) rfl) rfl))) rfl) rfl))) rfl) rfl))) rfl) rfl)))))) rfl
      rintro _ _ ⟨n166, rfl, rfl⟩
      refine jl_y (yl_call (.cons (T rfl) (.cons (T rfl) .nil)) Tryz.call25 (fun H' hs => still_b (decide_eq_true rfl) (sameNames_s (slQ d2) (some ⟨n166, 0, none⟩) (slC d2) 2 [sa, soth] [sa, soth] ((sl_arr (X := H) (enc := encS) (sz := 1) (e := 9) (l := [sa, soth]) (fun _ => rfl) hd2).mono (List.Sublist.trans sbt hs)) (arr_blk (l := [sa, soth]) (cells := ([sa, soth]).flatMap encS) (e := 9) (fun _ => rfl) rfl (Fnd.mono (by repeat (first | exact fnd_h | refine fnd_t ?_ | refine fnd_a ?_)) hs)) (by decide)))) rfl (gd_y rfl rfl (at_f rfl)) ?_
      refine y_ (yl_pick_t (T rfl) (T rfl)) (y_ (yl_move (T rfl)) (jl_y (yl_move (T rfl)) rfl (gd_y rfl rfl (at_f rfl)) (jl_y (yl_eql (T rfl) ev_c) rfl (gd_y rfl rfl (at_f rfl)) (y_ (yl_pick_t (T rfl) (T rfl)) (y_ (yl_move (T rfl)) (jl_y (yl_move (T rfl)) rfl (gd_y rfl rfl (at_f rfl)) (jl_e (eff_bslice (.cons ev_c (.cons ev_c .nil)) (bs42_2_0_1 _ _)) rfl (gd_y rfl rfl (at_f rfl)) ?_)) rfl) rfl))) rfl) rfl
      rintro _ _ ⟨n175, rfl, rfl⟩
      refine jl_y (yl_call (.cons (T rfl) (.cons (T rfl) .nil)) Tryz.call31 (fun H' hs => still_b (decide_eq_true (show [2, 3].map (fun k : Nat => (k : Int)) = [2, 3] from rfl)) (sameInts_s (slQ d3) (some ⟨n175, 0, none⟩) (slC d3) 2 ([2, 3].map (fun k : Nat => (k : Int))) [2, 3] (arrUI ((sl_arr (X := H) (enc := encU) (sz := 1) (e := 3) (l := [2, 3]) (fun _ => rfl) hd3).mono (List.Sublist.trans sbt hs))) (arr_blk (l := [2, 3]) (cells := ([2, 3] : List Int).flatMap encI) (e := 3) (fun _ => rfl) rfl (Fnd.mono (by repeat (first | exact fnd_h | refine fnd_t ?_ | refine fnd_a ?_)) hs)) (by decide)))) rfl (gd_y rfl rfl (at_f rfl)) ?_
      refine y_ (yl_pick_t (T rfl) (T rfl)) (y_ (yl_move (T rfl)) (jl_y (yl_move (T rfl)) rfl (gd_y rfl rfl (at_f rfl)) (jl_y (yl_eql (T rfl) ev_c) rfl (gd_y rfl rfl (at_f rfl)) (y_ (yl_pick_t (T rfl) (T rfl)) (y_ (yl_move (T rfl)) (jl_y (yl_move (T rfl)) rfl (gd_y rfl rfl (at_f rfl)) (jl_e (eff_bslice (.cons ev_c (.cons ev_c (.cons ev_c .nil))) (bs42_3_0_1_2 _ _ _)) rfl (gd_y rfl rfl (at_f rfl)) ?_)) rfl) rfl))) rfl) rfl
      rintro _ _ ⟨n184, rfl, rfl⟩
      refine jl_y (yl_call (.cons (T rfl) (.cons (T rfl) .nil)) Tryz.call31 (fun H' hs => still_b (decide_eq_true (show [0, 4, 3].map (fun k : Nat => (k : Int)) = [0, 4, 3] from rfl)) (sameInts_s (slQ d4) (some ⟨n184, 0, none⟩) (slC d4) 3 ([0, 4, 3].map (fun k : Nat => (k : Int))) [0, 4, 3] (arrUI ((sl_arr (X := H) (enc := encU) (sz := 1) (e := 3) (l := [0, 4, 3]) (fun _ => rfl) hd4).mono (List.Sublist.trans sbt hs))) (arr_blk (l := [0, 4, 3]) (cells := ([0, 4, 3] : List Int).flatMap encI) (e := 3) (fun _ => rfl) rfl (Fnd.mono (by repeat (first | exact fnd_h | refine fnd_t ?_ | refine fnd_a ?_)) hs)) (by decide)))) rfl (gd_y rfl rfl (at_f rfl)) ?_
      refine y_ (yl_pick_t (T rfl) (T rfl)) (y_ (yl_move (T rfl)) (jl_y (yl_move (T rfl)) rfl (gd_y rfl rfl (at_f rfl)) (jl_y (yl_eql (T rfl) ev_c) rfl (gd_y rfl rfl (at_f rfl)) (y_ (yl_pick_t (T rfl) (T rfl)) (y_ (yl_move (T rfl)) (jl_y (yl_move (T rfl)) rfl (gd_y rfl rfl (at_f rfl)) (jl_y (yl_len (T rfl) Tryz.runUnderlying59) rfl (gd_y rfl rfl (at_f rfl)) (jl_y (yl_eql (T rfl) ev_c) rfl (gd_y rfl rfl (at_f rfl)) (y_ (yl_pick_t (T rfl) (T rfl)) (y_ (yl_move (T rfl)) (jl_y (yl_loadA (T rfl) Tryz.isAgg56 Tryz.sizeOf56 rfl (by first | exact cs_o)) rfl (gd_y rfl rfl (at_f rfl)) ?_) rfl) rfl)))) rfl) rfl))) rfl) rfl
      refine jl_y (yl_loadA (T rfl) Tryz.isAgg58 Tryz.sizeOf58 rfl (by first | exact cs_o)) rfl (gd_y rfl rfl (at_f rfl)) ?_
      refine jl_y (yl_loadA (T rfl) Tryz.isAgg29 Tryz.sizeOf29 rfl (by first | exact cs_o)) rfl (gd_y rfl rfl (at_f rfl)) ?_
      refine jl_y (yl_move (T rfl)) rfl (gd_y rfl rfl (at_f rfl)) ?_
      refine jl_y (yl_call (.cons (T rfl) (.cons (T rfl) (.cons (T rfl) (.cons ev_c (.cons ev_c (.cons (T rfl) .nil)))))) Tryz.call37 (fun H' hs => still_b (sRe' hp1 x1 x2 x3) (refutes_s (exN x1 x2 x3) ⟨none, 0, [], -1⟩ m1 ⟨(ex_net (Fnd.mono (by repeat (first | exact fnd_h | refine fnd_t ?_ | refine fnd_a ?_)) hs) (Fnd.mono (by repeat (first | exact fnd_h | refine fnd_t ?_ | refine fnd_a ?_)) hs)), (fun i x hi => by cases hi), hm1.mono (List.Sublist.trans sbt hs)⟩ ⟨ex_ok x1 x2 x3, (by first | exact Nat.zero_le _ | (show 1 ≤ 4611686018427387903; omega)), hk1, hs1, by omega⟩ 1 (show _ < 4 by omega) 3 ([(0, 2), (1, 2), (2, 2), (3, 2)].map toI) (slQ d6) (slC d6) (arrPP ((sl_arr (X := H) (enc := encPl) (sz := 2) (e := 74) (l := [(0, 2), (1, 2), (2, 2), (3, 2)]) (fun _ => rfl) hd6).mono (List.Sublist.trans sbt hs))) (by decide)))) rfl (gd_y rfl rfl (at_f rfl)) ?_
      refine y_ (yl_pick_t (T rfl) (T rfl)) (y_ (yl_move (T rfl)) (jl_y (yl_loadA (T rfl) Tryz.isAgg56 Tryz.sizeOf56 rfl (by first | exact cs_o)) rfl (gd_y rfl rfl (at_f rfl)) ?_) rfl) rfl
      refine jl_y (yl_loadA (T rfl) Tryz.isAgg58 Tryz.sizeOf58 rfl (by first | exact cs_o)) rfl (gd_y rfl rfl (at_f rfl)) ?_
      refine jl_y (yl_loadA (T rfl) Tryz.isAgg24 Tryz.sizeOf24 rfl (by first | exact cs_o)) rfl (gd_y rfl rfl (at_f rfl)) ?_
      refine jl_y (yl_move (T rfl)) rfl (gd_y rfl rfl (at_f rfl)) ?_
      refine jl_y (yl_call (.cons (T rfl) (.cons (T rfl) (.cons (T rfl) (.cons ev_c (.cons ev_c (.cons (T rfl) .nil)))))) Tryz.call32 (fun H' hs => still_b (sHo x1 x2 x3 _ _) (holds_s (exN x1 x2 x3) (ex_net (Fnd.mono (by repeat (first | exact fnd_h | refine fnd_t ?_ | refine fnd_a ?_)) hs) (Fnd.mono (by repeat (first | exact fnd_h | refine fnd_t ?_ | refine fnd_a ?_)) hs)) (ex_ok x1 x2 x3) ⟨none, 0, [], -1⟩ (fun i x hi => by cases hi) (Nat.zero_le _) (.mk 4 ⟨#[]⟩ (some ⟨n37, 0, none⟩) 2 [(.mk 4 ⟨#[]⟩ (some ⟨n34, 0, none⟩) 2 [(.mk 4 ⟨#[]⟩ (some ⟨n31, 0, none⟩) 2 [(.mk 2 ⟨#[97]⟩ none 0 []), (.mk 6 ⟨#[]⟩ (some ⟨n27, 0, none⟩) 1 [(.mk 3 ⟨#[]⟩ none 0 [])])]), (.mk 2 ⟨#[99]⟩ none 0 [])]), (.mk 6 ⟨#[]⟩ (some ⟨n27, 0, none⟩) 1 [(.mk 3 ⟨#[]⟩ none 0 [])])]) sX (.seq (.seq (.seq (.nod (by decide)) (.star .any)) (.nod (by decide))) (.star .any)) (rxx_own (by repeat (first | exact fnd_h | refine fnd_t ?_ | refine fnd_a ?_)) (by repeat (first | exact fnd_h | refine fnd_t ?_ | refine fnd_a ?_)) (by repeat (first | exact fnd_h | refine fnd_t ?_ | refine fnd_a ?_)) (by repeat (first | exact fnd_h | refine fnd_t ?_ | refine fnd_a ?_)) hs) (by decide) 0 3 (show _ < 4 by omega) ([2, 3].map (fun k : Nat => (k : Int))) (slQ d3) (slC d3) (arrUI ((sl_arr (X := H) (enc := encU) (sz := 1) (e := 3) (l := [2, 3]) (fun _ => rfl) hd3).mono (List.Sublist.trans sbt hs))) (by decide)))) rfl (gd_y rfl rfl (at_f rfl)) ?_
      refine y_ (yl_pick_t (T rfl) (T rfl)) (y_ (yl_move (T rfl)) (jl_e (eff_bslice (.cons ev_c (.cons ev_c .nil)) (bs25_2_0_1 _ _)) rfl (gd_y rfl rfl (at_f rfl)) ?_) rfl) rfl
      rintro _ _ ⟨n211, rfl, rfl⟩
      refine jl_y (yl_call (.cons (T rfl) .nil) Tryz.call19 (fun H' hs => sO ▸ other_s [sa, soth] (some ⟨n211, 0, none⟩) 2 (arr_blk (l := [sa, soth]) (cells := ([sa, soth]).flatMap encS) (e := 9) (fun _ => rfl) rfl (Fnd.mono (by repeat (first | exact fnd_h | refine fnd_t ?_ | refine fnd_a ?_)) hs)) (by decide))) rfl (gd_y rfl rfl (at_f rfl)) ?_
      refine jl_y (yl_eqSD (T rfl) ev_c) rfl (gd_y rfl rfl (at_f rfl)) (y_ (yl_pick_t (T rfl) (T rfl)) (y_ (yl_move (T rfl)) (jl_y (yl_loadA (T rfl) Tryz.isAgg29 Tryz.sizeOf29 rfl (by first | exact cs_o)) rfl (gd_y rfl rfl (at_f rfl)) ?_) rfl) rfl)
      refine jl_e (eff_bslice (.cons ev_c (.cons ev_c .nil)) (bs25_2_0_1 _ _)) rfl (gd_y rfl rfl (at_f rfl)) ?_
      rintro _ _ ⟨n217, rfl, rfl⟩
      refine jl_y (yl_call (.cons (T rfl) (.cons (T rfl) .nil)) Tryz.call21 (fun H' hs => still_v (c := .int .i64 ((3 : Nat) : Int)) (congrArg (fun k : Nat => Value.int .i64 (k : Int)) (hp1.symm ▸ sR)) (run_s m1 (hm1.mono (List.Sublist.trans sbt hs)) hk1 hs1 (by omega) [sa, sc] (some ⟨n217, 0, none⟩) 2 (arr_blk (l := [sa, sc]) (cells := ([sa, sc]).flatMap encS) (e := 9) (fun _ => rfl) rfl (Fnd.mono (by repeat (first | exact fnd_h | refine fnd_t ?_ | refine fnd_a ?_)) hs)) (by decide)))) rfl (gd_y rfl rfl (at_f rfl)) ?_
      refine jl_y (yl_eql (T rfl) ev_c) rfl (gd_y rfl rfl (at_f rfl)) (y_ (yl_pick_t (T rfl) (T rfl)) (y_ (yl_assign (T rfl)) (jl_nil (q_then (j_keep [(0, _)] ⟨at_f rfl, trivial⟩ (j_ret (q_ret rfl (.tmp (at_f rfl) .nil) ?_))))) rfl) rfl)
      exact ⟨_, ⟨rfl, rfl⟩, sbt⟩
end Go.Proofs.YtkdolgnpkjihpaaGreatDoor
