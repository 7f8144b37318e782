/-
  A part of what LawS rests on: the logic, walks and plain laws. No condition.
-/
import Derived.Test.YtkdolgnpkjihpaaGreatDoorJS2
import Derived.Shelf.SlSortCmp.WholeK
import Derived.Shelf.SlSortCmp.NoneTotal
namespace Go.Proofs.YtkdolgnpkjihpaaGreatDoor
open Go.RowKit
set_option linter.unusedVariables false
set_option linter.unusedSimpArgs false
def RevAt {α : Type} [Inhabited α] (l l' : List α) (i : Nat) : Prop := l'.length = l.length ∧ ∀ j, j < l.length → gd l' j = if j < i ∨ l.length - i ≤ j then gd l (l.length - 1 - j) else gd l j
theorem gd_setA {α : Type} [Inhabited α] {b : List α} {j x : Nat} {v : α} (hx : x < b.length) : gd (b.set j v) x = if x = j then v else gd b x := by
  rw [gd_getElem (by simpa using hx), List.getElem_set, gd_getElem hx]
  by_cases h : j = x
  · subst h; simp
  · rw [if_neg h, if_neg (fun e => h e.symm)]
theorem RevAt.step {α : Type} [Inhabited α] {l l' : List α} {i : Nat} (h : RevAt l l' i) (hi : i < l.length - 1 - i) : RevAt l ((l'.set i (gd l' (l.length - 1 - i))).set (l.length - 1 - i) (gd l' i)) (i + 1) := by
  obtain ⟨h1, h2⟩ := h
  refine ⟨by simp [h1], fun j hj => ?_⟩
  rw [gd_setA (by simp; omega), gd_setA (by omega)]
  by_cases e1 : j = l.length - 1 - i
  · rw [if_pos e1, if_pos (by omega), h2 i (by omega), if_neg (by omega), e1]
    congr 1; omega
  · rw [if_neg e1]
    by_cases e2 : j = i
    · rw [if_pos e2, if_pos (by omega), h2 _ (by omega), if_neg (by omega), e2]
    · rw [if_neg e2, h2 j hj]
      by_cases e3 : j < i ∨ l.length - i ≤ j
      · rw [if_pos e3, if_pos (by omega)]
      · rw [if_neg e3, if_neg (by omega)]
theorem RevAt.done {α : Type} [Inhabited α] {l l' : List α} {i : Nat} (h : RevAt l l' i) (hi : ¬ (i : Int) < (l.length : Int) - 1 - i) : l' = l.reverse := by
  obtain ⟨h1, h2⟩ := h
  apply List.ext_getElem (by simp [h1])
  intro j hj1 hj2
  have hj : j < l.length := by omega
  have h3 := h2 j hj
  rw [gd_getElem hj1] at h3
  rw [h3, List.getElem_reverse]
  split
  · rw [gd_getElem (by omega)]
  · rw [gd_getElem hj]; congr 1; omega
theorem revI_s {w0 : World} {H : List (Nat × Obj)} (d : Sl) (l : List Nat) (hd : SlOk d l.length 1) (hl : l.length ≤ 100000) :
    FSpec Tryz.prog w0 125 #[slV d l.length] (slH d (l.flatMap encU) 3 ++ H) (fun v H' => v = .tuple #[] ∧ H' = slH d (l.reverse.flatMap encU) 3 ++ H) := by
  refine fn_spec Tryz.func125 rfl Tryz.ntmps125 rfl (j_seq (j_region (y_ (yl_move (T rfl)) (y_ (yl_len (T rfl) Tryz.runUnderlying42) (y_ (yl_sub (T rfl) ev_c (by omega)) ?_ rfl) rfl) rfl)))
  refine y_ (yl_assign ev_c) (y_ (yl_assign (T rfl)) (jl_nil (q_then (j_block ?_))) rfl) rfl
  refine j_loopC (X := Nat × List Nat) (V := fun ⟨i, cur⟩ => [(2, .int .i64 (i : Nat)), (3, .int .i64 ((l.length : Int) - 1 - (i : Int)))]) (C := [(0, _)]) (G := fun ⟨i, cur⟩ => slH d (cur.flatMap encU) 3 ++ H) (φ := fun ⟨i, cur⟩ => RevAt l cur i ∧ SlOk d cur.length 1 ∧ i ≤ l.length) (μ := fun ⟨i, cur⟩ => l.length - i) (x0 := (0, l)) ?_ ⟨at_f rfl, trivial⟩ ⟨(by first | exact at_f rfl | (refine at_e (at_f rfl) (vint ?_); omega) | (refine at_e (at_f rfl) ?_; simp; done)), (by first | exact at_f rfl | (refine at_e (at_f rfl) (vint ?_); omega) | (refine at_e (at_f rfl) ?_; simp; done)), trivial⟩ sb0 ?_
  · exact ⟨⟨rfl, fun j hj => by rw [if_neg (by omega)]⟩, hd, Nat.zero_le _⟩
  rintro ⟨i, cur⟩ ⟨hr, hdc, hil⟩
  refine j_seq (j_seq (j_region (y_ (yl_move (T rfl)) (y_ (yl_move (T rfl)) (y_ (yl_lss (T rfl) (T rfl)) (jl_nil (q_then ?_)) rfl) rfl) rfl)))
  first | refine j_cond_d (at_f rfl) (fun c9 => ?_) (fun c9 => ?_) | refine j_cond (at_f rfl) (fun c9 => ?_) (fun c9 => ?_)
  · have hij : i < l.length - 1 - i := by omega
    obtain ⟨hcl, hcg⟩ := hr
    have hjj : (l.length : Int) - 1 - (i : Int) = ((l.length - 1 - i : Nat) : Int) := by omega
    simp only [hjj]
    refine j_skip (q_then (j_seq (j_block (j_anyW 13 15 (H) (slH d (cur.flatMap encU) 3 ++ H) mixd (by kernel_rfl) (List.sublist_append_right _ _) (List.Sublist.refl _) ?_))))
    refine w_yB [0] (by kernel_rfl) rfl (i := 0) rfl (by kernel_rfl) (yl_move (T rfl)) ?_ rfl gd_n
    refine w_yB [1] (by kernel_rfl) rfl (i := 1) rfl (by kernel_rfl) (yl_move (T rfl)) ?_ rfl gd_n
    refine w_y (i := 2) rfl (by kernel_rfl) (yl_move (T rfl)) ?_ rfl gd_n
    refine w_y (i := 3) rfl (by kernel_rfl) (yl_move (T rfl)) ?_ rfl gd_n
    refine w_yB [4] (by kernel_rfl) rfl (i := 4) rfl (by kernel_rfl) (yl_move (T rfl)) ?_ rfl gd_n
    refine w_yB [5] (by kernel_rfl) rfl (i := 5) rfl (by kernel_rfl) (yl_move (T rfl)) ?_ rfl gd_n
    refine w_yB [6] (by kernel_rfl) rfl (i := 6) rfl (by kernel_rfl) (yl_ixQ (T rfl) (T rfl) Tryz.runUnderlying42 Tryz.sizeOf3 (by omega) (by first | exact rfl | exact hdc.bas (by omega) | exact SlOk.bas hd (by omega))) ?_ rfl gd_n
    refine w_yB [7] (by kernel_rfl) rfl (i := 7) rfl (by kernel_rfl) (yl_load (T rfl) Tryz.isAgg3 (by first | exact c_o | exact cell1 (((sl_arr (X := H) (enc := encU) (sz := 1) (e := 3) (l := cur) (fun _ => rfl) hdc).mono sbt).cs (i := (l.length - 1 - i)) (by omega)))) ?_ rfl gd_n
    refine w_yB [11, 10, 8] (by kernel_rfl) rfl (i := 8) rfl (by kernel_rfl) (yl_move (T rfl)) ?_ rfl gd_n
    refine w_yB [11, 10, 9] (by kernel_rfl) rfl (i := 9) rfl (by kernel_rfl) (yl_move (T rfl)) ?_ rfl gd_n
    refine w_yB [11, 10] (by kernel_rfl) rfl (i := 10) rfl (by kernel_rfl) (yl_ixQ (T rfl) (T rfl) Tryz.runUnderlying42 Tryz.sizeOf3 (by omega) (by first | exact rfl | exact hdc.bas (by omega) | exact SlOk.bas hd (by omega))) ?_ rfl gd_n
    refine w_yB [11] (by kernel_rfl) rfl (i := 11) rfl (by kernel_rfl) (yl_load (T rfl) Tryz.isAgg3 (by first | exact c_o | exact cell1 (((sl_arr (X := H) (enc := encU) (sz := 1) (e := 3) (l := cur) (fun _ => rfl) hdc).mono sbt).cs (i := i) (by omega)))) ?_ rfl gd_n
    refine w_yB [12] (by kernel_rfl) rfl (i := 12) rfl (by kernel_rfl) (yl_ixQ (T rfl) (T rfl) Tryz.runUnderlying42 Tryz.sizeOf3 (by omega) (by first | exact rfl | exact hdc.bas (by omega) | exact SlOk.bas hd (by omega))) ?_ rfl gd_n
    refine w_one (i := 13) (by kernel_rfl) (by kernel_rfl) ?_
    refine ws_s rfl (eff_sElem (l := cur) (e := 3) (enc := encU) (sz := 1) (i := i) (gd cur (l.length - 1 - i)) (fun _ => rfl) LocL.h (T rfl) (T rfl) (.one rfl) rfl Tryz.sizeOf3 (by omega) hdc) ?_ rfl gd_n (by kernel_rfl)
    rintro _ _ ⟨rfl, rfl⟩
    refine ⟨sbt, (w_y (i := 14) rfl (by kernel_rfl) (yl_ixQ (T rfl) (T rfl) Tryz.runUnderlying42 Tryz.sizeOf3 (by omega) (by first | exact rfl | exact hdc.bas (by omega) | exact SlOk.bas hd (by omega))) ?_ rfl gd_n)⟩
    refine w_nil (by kernel_rfl) rfl ?_
    refine e_ (eff_sElem (l := cur.set i (gd cur (l.length - 1 - i))) (e := 3) (enc := encU) (sz := 1) (i := (l.length - 1 - i)) (gd cur i) (fun _ => rfl) LocL.h (T rfl) (T rfl) (.one rfl) rfl Tryz.sizeOf3 (by simp; omega) (by simpa using hdc)) ?_ rfl
    rintro _ _ ⟨rfl, rfl⟩
    refine jl_nil (q_block (q_then (j_region (y_ (yl_move (T rfl)) (y_ (yl_add (T rfl) ev_c (by omega)) ?_ rfl) rfl))))
    refine y_ (yl_move (T rfl)) (y_ (yl_sub (T rfl) ev_c (by omega)) ?_ rfl) rfl
    refine y_ (yl_assign (T rfl)) (y_ (yl_assign (T rfl)) (jl_nil ?_) rfl) rfl
    refine q_loopC ((i + 1, (cur.set i (gd cur (l.length - 1 - i))).set (l.length - 1 - i) (gd cur i))) ?_ ?_ ⟨(by first | exact at_f rfl | (refine at_e (at_f rfl) (vint ?_); omega) | (refine at_e (at_f rfl) ?_; simp; done)), (by first | exact at_f rfl | (refine at_e (at_f rfl) (vint ?_); omega) | (refine at_e (at_f rfl) ?_; simp; done)), trivial⟩ ⟨at_f rfl, trivial⟩ ?_
    · exact ⟨RevAt.step ⟨hcl, hcg⟩ hij, by simpa using hdc, by omega⟩
    · first | omega | (simp only []; omega)
    · exact sbt
  · have hfin := hr.done (by omega)
    refine j_exit (q_then_exit (q_loop_exit (q_block_hit (q_end rfl .nil ?_))))
    rw [← hfin]; exact ⟨_, ⟨rfl, rfl⟩, sbt⟩
theorem revS_s {w0 : World} {H : List (Nat × Obj)} (d : Sl) (l : List ByteArray) (hd : SlOk d l.length 1) (hl : l.length ≤ 100000) :
    FSpec Tryz.prog w0 119 #[slV d l.length] (slH d (l.flatMap encS) 9 ++ H) (fun v H' => v = .tuple #[] ∧ H' = slH d (l.reverse.flatMap encS) 9 ++ H) := by
  refine fn_spec Tryz.func119 rfl Tryz.ntmps119 rfl (j_seq (j_region (y_ (yl_move (T rfl)) (y_ (yl_len (T rfl) Tryz.runUnderlying25) (y_ (yl_sub (T rfl) ev_c (by omega)) ?_ rfl) rfl) rfl)))
  refine y_ (yl_assign ev_c) (y_ (yl_assign (T rfl)) (jl_nil (q_then (j_block ?_))) rfl) rfl
  refine j_loopC (X := Nat × List ByteArray) (V := fun ⟨i, cur⟩ => [(2, .int .i64 (i : Nat)), (3, .int .i64 ((l.length : Int) - 1 - (i : Int)))]) (C := [(0, _)]) (G := fun ⟨i, cur⟩ => slH d (cur.flatMap encS) 9 ++ H) (φ := fun ⟨i, cur⟩ => RevAt l cur i ∧ SlOk d cur.length 1 ∧ i ≤ l.length) (μ := fun ⟨i, cur⟩ => l.length - i) (x0 := (0, l)) ?_ ⟨at_f rfl, trivial⟩ ⟨(by first | exact at_f rfl | (refine at_e (at_f rfl) (vint ?_); omega) | (refine at_e (at_f rfl) ?_; simp; done)), (by first | exact at_f rfl | (refine at_e (at_f rfl) (vint ?_); omega) | (refine at_e (at_f rfl) ?_; simp; done)), trivial⟩ sb0 ?_
  · exact ⟨⟨rfl, fun j hj => by rw [if_neg (by omega)]⟩, hd, Nat.zero_le _⟩
  rintro ⟨i, cur⟩ ⟨hr, hdc, hil⟩
  refine j_seq (j_seq (j_region (y_ (yl_move (T rfl)) (y_ (yl_move (T rfl)) (y_ (yl_lss (T rfl) (T rfl)) (jl_nil (q_then ?_)) rfl) rfl) rfl)))
  first | refine j_cond_d (at_f rfl) (fun c9 => ?_) (fun c9 => ?_) | refine j_cond (at_f rfl) (fun c9 => ?_) (fun c9 => ?_)
  · have hij : i < l.length - 1 - i := by omega
    obtain ⟨hcl, hcg⟩ := hr
    have hjj : (l.length : Int) - 1 - (i : Int) = ((l.length - 1 - i : Nat) : Int) := by omega
    simp only [hjj]
    refine j_skip (q_then (j_seq (j_block (j_anyW 13 15 (H) (slH d (cur.flatMap encS) 9 ++ H) mixd (by kernel_rfl) (List.sublist_append_right _ _) (List.Sublist.refl _) ?_))))
    refine w_yB [0] (by kernel_rfl) rfl (i := 0) rfl (by kernel_rfl) (yl_move (T rfl)) ?_ rfl gd_n
    refine w_yB [1] (by kernel_rfl) rfl (i := 1) rfl (by kernel_rfl) (yl_move (T rfl)) ?_ rfl gd_n
    refine w_y (i := 2) rfl (by kernel_rfl) (yl_move (T rfl)) ?_ rfl gd_n
    refine w_y (i := 3) rfl (by kernel_rfl) (yl_move (T rfl)) ?_ rfl gd_n
    refine w_yB [4] (by kernel_rfl) rfl (i := 4) rfl (by kernel_rfl) (yl_move (T rfl)) ?_ rfl gd_n
    refine w_yB [5] (by kernel_rfl) rfl (i := 5) rfl (by kernel_rfl) (yl_move (T rfl)) ?_ rfl gd_n
    refine w_yB [6] (by kernel_rfl) rfl (i := 6) rfl (by kernel_rfl) (yl_ixQ (T rfl) (T rfl) Tryz.runUnderlying25 Tryz.sizeOf9 (by omega) (by first | exact rfl | exact hdc.bas (by omega) | exact SlOk.bas hd (by omega))) ?_ rfl gd_n
    refine w_yB [7] (by kernel_rfl) rfl (i := 7) rfl (by kernel_rfl) (yl_load (T rfl) Tryz.isAgg9 (by first | exact c_o | exact cell1 (((sl_arr (X := H) (enc := encS) (sz := 1) (e := 9) (l := cur) (fun _ => rfl) hdc).mono sbt).cs (i := (l.length - 1 - i)) (by omega)))) ?_ rfl gd_n
    refine w_yB [11, 10, 8] (by kernel_rfl) rfl (i := 8) rfl (by kernel_rfl) (yl_move (T rfl)) ?_ rfl gd_n
    refine w_yB [11, 10, 9] (by kernel_rfl) rfl (i := 9) rfl (by kernel_rfl) (yl_move (T rfl)) ?_ rfl gd_n
    refine w_yB [11, 10] (by kernel_rfl) rfl (i := 10) rfl (by kernel_rfl) (yl_ixQ (T rfl) (T rfl) Tryz.runUnderlying25 Tryz.sizeOf9 (by omega) (by first | exact rfl | exact hdc.bas (by omega) | exact SlOk.bas hd (by omega))) ?_ rfl gd_n
    refine w_yB [11] (by kernel_rfl) rfl (i := 11) rfl (by kernel_rfl) (yl_load (T rfl) Tryz.isAgg9 (by first | exact c_o | exact cell1 (((sl_arr (X := H) (enc := encS) (sz := 1) (e := 9) (l := cur) (fun _ => rfl) hdc).mono sbt).cs (i := i) (by omega)))) ?_ rfl gd_n
    refine w_yB [12] (by kernel_rfl) rfl (i := 12) rfl (by kernel_rfl) (yl_ixQ (T rfl) (T rfl) Tryz.runUnderlying25 Tryz.sizeOf9 (by omega) (by first | exact rfl | exact hdc.bas (by omega) | exact SlOk.bas hd (by omega))) ?_ rfl gd_n
    refine w_one (i := 13) (by kernel_rfl) (by kernel_rfl) ?_
    refine ws_s rfl (eff_sElem (l := cur) (e := 9) (enc := encS) (sz := 1) (i := i) (gd cur (l.length - 1 - i)) (fun _ => rfl) LocL.h (T rfl) (T rfl) (.one rfl) rfl Tryz.sizeOf9 (by omega) hdc) ?_ rfl gd_n (by kernel_rfl)
    rintro _ _ ⟨rfl, rfl⟩
    refine ⟨sbt, (w_y (i := 14) rfl (by kernel_rfl) (yl_ixQ (T rfl) (T rfl) Tryz.runUnderlying25 Tryz.sizeOf9 (by omega) (by first | exact rfl | exact hdc.bas (by omega) | exact SlOk.bas hd (by omega))) ?_ rfl gd_n)⟩
    refine w_nil (by kernel_rfl) rfl ?_
    refine e_ (eff_sElem (l := cur.set i (gd cur (l.length - 1 - i))) (e := 9) (enc := encS) (sz := 1) (i := (l.length - 1 - i)) (gd cur i) (fun _ => rfl) LocL.h (T rfl) (T rfl) (.one rfl) rfl Tryz.sizeOf9 (by simp; omega) (by simpa using hdc)) ?_ rfl
    rintro _ _ ⟨rfl, rfl⟩
    refine jl_nil (q_block (q_then (j_region (y_ (yl_move (T rfl)) (y_ (yl_add (T rfl) ev_c (by omega)) ?_ rfl) rfl))))
    refine y_ (yl_move (T rfl)) (y_ (yl_sub (T rfl) ev_c (by omega)) ?_ rfl) rfl
    refine y_ (yl_assign (T rfl)) (y_ (yl_assign (T rfl)) (jl_nil ?_) rfl) rfl
    refine q_loopC ((i + 1, (cur.set i (gd cur (l.length - 1 - i))).set (l.length - 1 - i) (gd cur i))) ?_ ?_ ⟨(by first | exact at_f rfl | (refine at_e (at_f rfl) (vint ?_); omega) | (refine at_e (at_f rfl) ?_; simp; done)), (by first | exact at_f rfl | (refine at_e (at_f rfl) (vint ?_); omega) | (refine at_e (at_f rfl) ?_; simp; done)), trivial⟩ ⟨at_f rfl, trivial⟩ ?_
    · exact ⟨RevAt.step ⟨hcl, hcg⟩ hij, by simpa using hdc, by omega⟩
    · first | omega | (simp only []; omega)
    · exact sbt
  · have hfin := hr.done (by omega)
    refine j_exit (q_then_exit (q_loop_exit (q_block_hit (q_end rfl .nil ?_))))
    rw [← hfin]; exact ⟨_, ⟨rfl, rfl⟩, sbt⟩
end Go.Proofs.YtkdolgnpkjihpaaGreatDoor
namespace Go.Proofs.YtkdolgnpkjihpaaGreatDoor
open Go.RowKit
set_option linter.unusedVariables false
set_option linter.unusedSimpArgs false
theorem bd178_0 (a0 : Int) (w : World) : (Instr.build 178 #[(0, .int .i64 a0)]).run Tryz.prog w = .ok (.agg #[.int .i64 a0, .string ⟨#[]⟩]) w := by kernel_rfl
theorem bd186_0 (a0 : Int) (w : World) : (Instr.build 186 #[(0, .int .i64 a0)]).run Tryz.prog w = .ok (.agg #[.int .i64 a0, .int .i64 0]) w := by kernel_rfl
theorem fa178_0 (b o : Nat) (w : World) : (Instr.fieldAt 178 (.pointer (some ⟨b, o, none⟩)) 0).run Tryz.prog w = .ok (.pointer (some ⟨b, o, none⟩)) w := by kernel_rfl
theorem fa178_1 (b o : Nat) (w : World) : (Instr.fieldAt 178 (.pointer (some ⟨b, o, none⟩)) 1).run Tryz.prog w = .ok (.pointer (some ⟨b, o + 1, none⟩)) w := by kernel_rfl
theorem fa186_0 (b o : Nat) (w : World) : (Instr.fieldAt 186 (.pointer (some ⟨b, o, none⟩)) 0).run Tryz.prog w = .ok (.pointer (some ⟨b, o, none⟩)) w := by kernel_rfl
theorem fa186_1 (b o : Nat) (w : World) : (Instr.fieldAt 186 (.pointer (some ⟨b, o, none⟩)) 1).run Tryz.prog w = .ok (.pointer (some ⟨b, o + 1, none⟩)) w := by kernel_rfl
theorem backF_fuel {σ : Type} [Inhabited σ] {w : List (Int × σ)} (hw : ∀ i, i < w.length → -1 ≤ (gd w i).1 ∧ (gd w i).1 < i) : ∀ (f i : Nat), i < f → i < w.length → backF w f i = backF w (i + 1) i
  | 0, i, h, _ => absurd h (Nat.not_lt_zero _)
  | f + 1, i, h, hi => by
    rw [backF_succ, backF_succ]
    split
    · rename_i h0
      have h1 := (hw i hi).2
      have h2 : (gd w i).1.toNat < i := by omega
      rw [backF_fuel hw f _ (by omega) (by omega), backF_fuel hw i _ (by omega) (by omega)]
    · rfl
def srF {σ : Type} [Inhabited σ] (ts : Pl → List (Pl × σ)) (fnd : Pl → Bool) (N : Nat) (p0 : Pl) : List σ × Bool × List Pl :=
  match goF ts fnd (N + 1) 0 ⟨[p0], [(-1, default)]⟩ with
  | (some k, st) => ((backF st.w (k + 1) k).reverse, true, st.l.take (k + 1))
  | (none, st) => ([], false, st.l)
theorem visAll_pre {σ : Type} {k m : Nat} : ∀ (ts : List (Pl × σ)) (st : BS σ), m ≤ st.l.length → (visAll k st ts).l.take m = st.l.take m
  | [], st, h => rfl
  | x :: ts, st, h => by
    show (visAll k (visF k st x) ts).l.take m = _
    rw [visAll_pre ts _ (by
      unfold visF; split
      · exact h
      · simp; omega)]
    unfold visF; split
    · rfl
    · rw [List.take_append_of_le_length h]
theorem bs_start {σ : Type} [Inhabited σ] {Pd : Pl → Prop} {p0 : Pl} (h : Pd p0) : BSok Pd 0 (⟨[p0], [(-1, default)]⟩ : BS σ) := by
  refine ⟨by simp, fun p hp => ?_, rfl, fun i hi => ?_, Nat.zero_le _⟩
  · simp only [List.mem_cons, List.not_mem_nil, or_false] at hp
    rw [hp]; exact h
  · have : i = 0 := by simpa using hi
    subst this
    exact ⟨Int.le_refl _, by show (-1 : Int) < 0; decide⟩
def FoundS (w0 : World) (H0 : List (Nat × Obj)) (ff : FuncId) (fcap : List Value) (Pd : Pl → Prop) (fnd : Pl → Bool) (G : List Pl → List (Nat × Obj) → Prop) : Prop :=
  ∀ (p : Pl), Pd p → ∀ (q : List Pl) (M H : List (Nat × Obj)), H0.Sublist H → q.length ≤ 50000 → G q M → FSpec Tryz.prog w0 ff (.agg (encPl p).toArray :: fcap).toArray (M ++ H) (fun v H' => ∃ M2, (v = .bool (fnd p) ∧ G (q ++ [p]) M2) ∧ H' = M2 ++ H)
def Enters (f : FuncId) : Prop := ∀ args w, (callFunc f args).run Tryz.prog w = .ok (.enter f args) w
def NextI (w0 : World) (H0 : List (Nat × Obj)) (nf : FuncId) (ncap : List Value) (Pd : Pl → Prop) (ts : Pl → List (Pl × Nat)) : Prop :=
  ∀ (p : Pl), Pd p → ∀ (vf : FuncId) (vcap : List Value) (S : Nat → List (Nat × Obj) → Prop) (M H : List (Nat × Obj)), H0.Sublist H → Enters vf → S 0 M →
    (∀ j x M1 H1, (ts p)[j]? = some x → H.Sublist H1 → S j M1 → FSpec Tryz.prog w0 vf (.agg (encPl x.1).toArray :: .int .i64 (x.2 : Int) :: vcap).toArray (M1 ++ H1) (fun _ H' => ∃ M2, S (j + 1) M2 ∧ H' = M2 ++ H1)) →
    FSpec Tryz.prog w0 nf (.agg (encPl p).toArray :: .func (.func vf) #[] vcap.toArray :: ncap).toArray (M ++ H) (fun _ H' => ∃ M2, S (ts p).length M2 ∧ H' = M2 ++ H)
theorem vspI {w0 : World} {R : List (Nat × Obj)} {Pd : Pl → Prop} {ts : List (Pl × Nat)} {n18 n9 n8 n10 n11 k : Nat} {st : BS Nat} (hb : BSok Pd k st) (hk : k < st.l.length) (ht : ∀ x ∈ ts, Pd x.1) {N : Nat} (hN : ∀ l : List Pl, l.Nodup → (∀ p ∈ l, Pd p) → l.length ≤ N) (hN2 : N ≤ 100000) (h10 : Fnd R n10 (Cl [.map (some n18)] 72)) (h11 : Fnd R n11 (Cl [.int .i64 (k : Int)] 3)) :
    ∀ j x M1 H1, ts[j]? = some x → R.Sublist H1 → (∃ y, bsOkI (visAll k st (ts.take j)) y ∧ M1 = bsHI n18 n9 n8 (visAll k st (ts.take j)) y) →
      FSpec Tryz.prog w0 126 (.agg (encPl x.1).toArray :: .int .i64 (x.2 : Int) :: [.pointer (some ⟨n10, 0, none⟩), .pointer (some ⟨n8, 0, none⟩), .pointer (some ⟨n9, 0, none⟩), .pointer (some ⟨n11, 0, none⟩)]).toArray (M1 ++ H1) (fun _ H' => ∃ M2, (∃ y, bsOkI (visAll k st (ts.take (j + 1))) y ∧ M2 = bsHI n18 n9 n8 (visAll k st (ts.take (j + 1))) y) ∧ H' = M2 ++ H1) := by
  rintro j x M1 H1 hj hs ⟨y, hy, rfl⟩
  have h1 := (hb.visAll (k' := k) (ts.take j) hk (fun z hz => ht z (List.mem_of_mem_take hz))).1
  have h2 := hN _ h1.nd h1.ok
  refine (visI_s n18 n9 n8 n10 n11 k (visAll k st (ts.take j)) y x.1 x.2 hy (by omega) h1.len (h10.mono hs) (h11.mono hs)).mono ?_
  rintro v H' ⟨y2, hy2, rfl⟩
  rw [visAll_take k st hj]
  exact ⟨_, ⟨y2, hy2, rfl⟩, rfl⟩
theorem locBSI {e1 e2 : Nat × Obj} {n18 n9 n8 : Nat} {st : BS Nat} {x : Sl × Sl} {R : List (Nat × Obj)} : LocL (e1 :: e2 :: ((n18, mapO encPK encBv (trueM st.l)) :: (n9, Cl [slV x.2 st.w.length] 187) :: (n8, Cl [slV x.1 st.l.length] 59) :: (slH x.2 (st.w.flatMap encWI) 186 ++ (slH x.1 (st.l.flatMap encPl) 74 ++ R)))) (bsHI n18 n9 n8 st x) (e1 :: e2 :: R) (fun M' => e1 :: e2 :: (M' ++ R)) := by
  rw [← bsHI_app]; exact .t (.t .h)
theorem searchI_s {w0 : World} {H H0 : List (Nat × Obj)} (nf ff : FuncId) (ncap fcap : List Value) (Pd : Pl → Prop) (ts : Pl → List (Pl × Nat)) (fnd : Pl → Bool) (G : List Pl → List (Nat × Obj) → Prop) (N : Nat) (p0 : Pl) (Mg0 : List (Nat × Obj))
    (hnf : Enters nf) (hff : Enters ff) (hnext : NextI w0 H0 nf ncap Pd ts) (hfound : FoundS w0 H0 ff fcap Pd fnd G) (hts : ∀ p, Pd p → ∀ x ∈ ts p, Pd x.1) (hN : ∀ l : List Pl, l.Nodup → (∀ p ∈ l, Pd p) → l.length ≤ N) (hN2 : N ≤ 50000) (hp0 : Pd p0) (hG0 : G [] Mg0) (hH0 : H0.Sublist H) :
    FSpec Tryz.prog w0 78 #[.agg (encPl p0).toArray, .func (.func nf) #[] ncap.toArray, .func (.func ff) #[] fcap.toArray] (Mg0 ++ H) (fun v H' => ∃ x : Sl × List (Nat × Obj), (v = .tuple #[slV x.1 (srF ts fnd N p0).1.length, .bool (srF ts fnd N p0).2.1] ∧ SlOk x.1 (srF ts fnd N p0).1.length 1 ∧ G (srF ts fnd N p0).2.2 x.2) ∧ H' = slH x.1 ((srF ts fnd N p0).1.flatMap encU) 3 ++ (x.2 ++ H)) := by
  refine fn_spec Tryz.func78 rfl Tryz.ntmps78 rfl (j_seq (j_region (e_ (eff_box (T rfl) cs_) ?_ rfl)))
  rintro _ _ ⟨n3, rfl, rfl⟩
  refine y_ (yl_assign ev_c) (y_ (yl_assign ev_c) (jl_nil (q_then (j_seq (j_region (y_ (yl_loadA (T rfl) Tryz.isAgg74 Tryz.sizeOf74 rfl (by first | exact cs_o)) ?_ rfl))))) rfl) rfl
  refine e_ (eff_bslice (.cons (T rfl) .nil) (bs59_1_0 _ _)) ?_ rfl
  rintro _ _ ⟨n15, rfl, rfl⟩
  refine y_ (yl_build (.cons ev_c .nil) (bd186_0 _)) (e_ (eff_bslice (.cons (T rfl) .nil) (bs187_1_0 _ _)) ?_ rfl) rfl
  rintro _ _ ⟨n17, rfl, rfl⟩
  refine e_ (eff_alloc Tryz.zeroValue59 cs_) ?_ rfl
  rintro _ _ ⟨n8, rfl, rfl⟩
  refine e_ (eff_alloc Tryz.zeroValue187 cs_) ?_ rfl
  rintro _ _ ⟨n9, rfl, rfl⟩
  first | refine jl_e (eff_sW (T rfl) (T rfl) Tryz.sizeOf59) rfl gd_n ?_ | refine jl_e (eff_s1 (T rfl) (T rfl) rfl Tryz.sizeOf59) rfl gd_n ?_ | refine jl_e (eff_s1r (T rfl) (T rfl) rfl Tryz.sizeOf59) rfl gd_n ?_
  rintro _ _ ⟨rfl, rfl⟩
  first | refine jl_e (eff_sW (T rfl) (T rfl) Tryz.sizeOf187) rfl gd_n ?_ | refine jl_e (eff_s1 (T rfl) (T rfl) rfl Tryz.sizeOf187) rfl gd_n ?_ | refine jl_e (eff_s1r (T rfl) (T rfl) rfl Tryz.sizeOf187) rfl gd_n ?_
  rintro _ _ ⟨rfl, rfl⟩
  refine jl_nil (q_then (j_seq (j_region (e_ eff_makeMap ?_ rfl))))
  rintro _ _ ⟨n18, rfl, rfl⟩
  refine y_ (yl_loadA (T rfl) Tryz.isAgg74 Tryz.sizeOf74 rfl (by first | exact cs_o)) ?_ rfl
  refine e_ (eff_insert (l := []) (encV := encBv) p0 true (keyP74 (V := Bool)) (T rfl) (T rfl) rfl ev_c rfl Tryz.runUnderlying72) ?_ rfl
  rintro _ _ ⟨rfl, rfl⟩
  refine y_ (yl_move (T rfl)) (e_ (eff_alloc Tryz.zeroValue72 cs_) ?_ rfl) rfl
  rintro _ _ ⟨n10, rfl, rfl⟩
  first | refine jl_e (eff_sW (T rfl) (T rfl) Tryz.sizeOf72) rfl gd_n ?_ | refine jl_e (eff_s1 (T rfl) (T rfl) rfl Tryz.sizeOf72) rfl gd_n ?_ | refine jl_e (eff_s1r (T rfl) (T rfl) rfl Tryz.sizeOf72) rfl gd_n ?_
  rintro _ _ ⟨rfl, rfl⟩
  refine jl_nil (q_then (j_seq (j_seq (j_region (e_ (eff_alloc Tryz.zeroValue3 cs_) ?_ rfl)))))
  rintro _ _ ⟨n11, rfl, rfl⟩
  first | refine jl_e (eff_sW (T rfl) ev_c Tryz.sizeOf3) rfl gd_n ?_ | refine jl_e (eff_s1 (T rfl) ev_c rfl Tryz.sizeOf3) rfl gd_n ?_ | refine jl_e (eff_s1r (T rfl) ev_c rfl Tryz.sizeOf3) rfl gd_n ?_
  rintro _ _ ⟨rfl, rfl⟩
  refine jl_nil (q_then (j_block ?_))
  refine j_loopC (X := Nat × BS Nat × (Sl × Sl) × Nat × List (Nat × Obj)) (V := fun ⟨k, st, x, m11, Mg⟩ => [(11, .pointer (some ⟨m11, 0, none⟩))]) (C := [(1, _), (2, _), (8, _), (9, _), (10, _)]) (G := fun ⟨k, st, x, m11, Mg⟩ => (m11, Cl [.int .i64 (k : Int)] 3) :: (n10, Cl [.map (some n18)] 72) :: ((n18, mapO encPK encBv (trueM st.l)) :: (n9, Cl [slV x.2 st.w.length] 187) :: (n8, Cl [slV x.1 st.l.length] 59) :: (slH x.2 (st.w.flatMap encWI) 186 ++ (slH x.1 (st.l.flatMap encPl) 74 ++ ((n3, Cl (encPl p0) 74) :: (Mg ++ H)))))) (φ := fun ⟨k, st, x, m11, Mg⟩ => BSok Pd k st ∧ bsOkI st x ∧ G (st.l.take k) Mg ∧ goF ts fnd (N + 1 - k) k st = goF ts fnd (N + 1) 0 ⟨[p0], [(-1, default)]⟩) (μ := fun ⟨k, st, x, m11, Mg⟩ => N + 1 - k) (x0 := (0, ⟨[p0], [(-1, default)]⟩, (.blk n15 1 [], .blk n17 1 []), n11, Mg0)) ?_ ⟨at_f rfl, at_f rfl, at_f rfl, at_f rfl, at_f rfl, trivial⟩ ⟨(by first | exact at_f rfl | (refine at_e (at_f rfl) (vint ?_); omega) | (refine at_e (at_f rfl) ?_; simp; done) | (refine at_e (at_f rfl) ?_; exact by simp only [List.length_append, List.length_cons, List.length_nil])), trivial⟩ sb0 ?_
  · exact ⟨bs_start hp0, ⟨⟨Nat.le_refl _, rfl⟩, ⟨Nat.le_refl _, rfl⟩⟩, hG0, rfl⟩
  rintro ⟨k, st, x, m11, Mg⟩ ⟨hb, hx, hG, hgo⟩
  have hln := hN _ hb.nd hb.ok
  have hbl := hb.len
  have hbk0 := hb.kl
  refine j_seq (j_seq (j_region (y_ (yl_load (T rfl) Tryz.isAgg3 (by first | exact c_o)) ?_ rfl)))
  refine y_ (yl_load (T rfl) Tryz.isAgg59 (by first | exact c_o)) ?_ rfl
  refine y_ (yl_len (T rfl) Tryz.runUnderlying59) (y_ (yl_lss (T rfl) (T rfl)) (jl_nil (q_then ?_)) rfl) rfl
  first | refine j_cond_d (at_f rfl) (fun c24 => ?_) (fun c24 => ?_) | refine j_cond (at_f rfl) (fun c24 => ?_) (fun c24 => ?_)
  · have hkl : k < st.l.length := by omega
    have hpk := hb.ok _ (gd_mem hkl)
    refine j_skip (q_then (j_seq (j_block (j_seq (j_seq (j_region (y_ (yl_move (T rfl)) (y_ (yl_load (T rfl) Tryz.isAgg59 (by first | exact c_o)) ?_ rfl) rfl)))))))
    refine y_ (yl_load (T rfl) Tryz.isAgg3 (by first | exact c_o)) ?_ rfl
    refine y_ (yl_ixQ (T rfl) (T rfl) Tryz.runUnderlying59 Tryz.sizeOf74 (by omega) (by first | exact rfl | exact hx.o1.bas (by omega) | exact hx.o2.bas (by omega))) ?_ rfl
    refine y_ (yl_loadA (T rfl) Tryz.isAgg74 Tryz.sizeOf74 rfl (by first | exact ((sl_arr (X := H) (enc := encPl) (sz := 2) (e := 74) (l := st.l) (fun _ => rfl) hx.o1).mono sbt).cs (i := k) (by omega) | exact cs_o)) ?_ rfl
    refine e_ (eff_callV (T rfl) (.cons (T rfl) .nil) hff (spec_atF Mg (by repeat (first | exact LocL.h | apply LocL.t | apply LocL.a)) (hfound (gd st.l k) (hb.ok _ (gd_mem (by omega))) (st.l.take k) Mg _ (hH0.trans (by exact sbt)) (by rw [List.length_take]; omega) hG))) ?_ rfl
    rintro _ _ ⟨Mg2, ⟨rfl, hG2⟩, rfl⟩
    refine jl_nil (q_then ?_)
    first | refine j_cond_d (at_f rfl) (fun c32 => ?_) (fun c32 => ?_) | refine j_cond (at_f rfl) (fun c32 => ?_) (fun c32 => ?_)
    · have hres : srF ts fnd N p0 = ((backF st.w (k + 1) k).reverse, true, st.l.take (k + 1)) := by
        unfold srF
        rw [← hgo, show N + 1 - k = (N - k) + 1 by omega, goF_succ, if_pos hkl, if_pos c32]
      have htk : st.l.take k ++ [gd st.l k] = st.l.take (k + 1) := by rw [List.take_add_one, gd_get hkl]; rfl
      rw [htk] at hG2
      refine j_seq (j_region (y_ (yl_assign ev_c) (jl_nil (q_then (j_seq (j_seq (j_region (y_ (yl_load (T rfl) Tryz.isAgg3 (by first | exact c_o)) ?_ rfl)))))) rfl))
      refine y_ (yl_assign (T rfl)) (jl_nil (q_then (j_block ?_))) rfl
      refine j_loopC (X := Nat × List Nat × Sl) (V := fun ⟨i, ol, d12⟩ => [(13, .int .i64 (i : Nat)), (12, slV d12 ol.length)]) (C := [(9, _)]) (G := fun ⟨i, ol, d12⟩ => slH d12 (ol.flatMap encU) 3 ++ ((m11, Cl [.int .i64 (k : Int)] 3) :: (n10, Cl [.map (some n18)] 72) :: ((n18, mapO encPK encBv (trueM st.l)) :: (n9, Cl [slV x.2 st.w.length] 187) :: (n8, Cl [slV x.1 st.l.length] 59) :: (slH x.2 (st.w.flatMap encWI) 186 ++ (slH x.1 (st.l.flatMap encPl) 74 ++ ((n3, Cl (encPl p0) 74) :: (Mg2 ++ H))))))) (φ := fun ⟨i, ol, d12⟩ => i < st.w.length ∧ SlOk d12 ol.length 1 ∧ ol ++ backF st.w (i + 1) i = backF st.w (k + 1) k ∧ ol.length + i ≤ k) (μ := fun ⟨i, ol, d12⟩ => i) (x0 := (k, [], .nil)) ?_ ⟨at_f rfl, trivial⟩ ⟨(by first | exact at_f rfl | (refine at_e (at_f rfl) (vint ?_); omega) | (refine at_e (at_f rfl) ?_; simp; done) | (refine at_e (at_f rfl) ?_; exact by simp only [List.length_append, List.length_cons, List.length_nil])), (by first | exact at_f rfl | (refine at_e (at_f rfl) (vint ?_); omega) | (refine at_e (at_f rfl) ?_; simp; done) | (refine at_e (at_f rfl) ?_; exact by simp only [List.length_append, List.length_cons, List.length_nil])), trivial⟩ sb0 ?_
      · exact ⟨by omega, rfl, rfl, by simp⟩
      rintro ⟨i, ol, d12⟩ ⟨hi, ho12, hbk, hol⟩
      refine j_seq (j_seq (j_region (y_ (yl_load (T rfl) Tryz.isAgg187 (by first | exact c_o)) ?_ rfl)))
      refine y_ (yl_move (T rfl)) (y_ (yl_ixQ (T rfl) (T rfl) Tryz.runUnderlying187 Tryz.sizeOf186 (by omega) (by first | exact rfl | exact hx.o1.bas (by omega) | exact hx.o2.bas (by omega))) ?_ rfl) rfl
      refine y_ (yl_fa0 (T rfl) fa186_0) (y_ (yl_load (T rfl) Tryz.isAgg3 (by first | exact c_o | exact ((sl_arr (X := H) (enc := encWI) (sz := 2) (e := 186) (l := st.w) (fun _ => rfl) hx.o2).mono sbt).f0 (i := i) (by omega) rfl)) ?_ rfl) rfl
      refine y_ (yl_geq (T rfl) ev_c) (jl_nil (q_then ?_)) rfl
      first | refine j_cond_d (at_f rfl) (fun c39 => ?_) (fun c39 => ?_) | refine j_cond (at_f rfl) (fun c39 => ?_) (fun c39 => ?_)
      · have hbi := hb.back i (by omega)
        have hti : (((gd st.w i).1.toNat : Nat) : Int) = (gd st.w i).1 := by omega
        refine j_skip (q_then (j_seq (j_block (j_region (y_ (yl_move (T rfl)) (y_ (yl_load (T rfl) Tryz.isAgg187 (by first | exact c_o)) ?_ rfl) rfl)))))
        refine y_ (yl_move (T rfl)) (y_ (yl_ixQ (T rfl) (T rfl) Tryz.runUnderlying187 Tryz.sizeOf186 (by omega) (by first | exact rfl | exact hx.o1.bas (by omega) | exact hx.o2.bas (by omega))) ?_ rfl) rfl
        refine y_ (yl_fa (T rfl) fa186_1) (y_ (yl_load (T rfl) Tryz.isAgg3 (by first | exact c_o | exact ((sl_arr (X := H) (enc := encWI) (sz := 2) (e := 186) (l := st.w) (fun _ => rfl) hx.o2).mono sbt).f (i := i) (by omega) rfl)) ?_ rfl) rfl
        refine e_ (eff_bslice (.cons (T rfl) .nil) (bs42_1_0 _)) ?_ rfl
        rintro _ _ ⟨n51, rfl, rfl⟩
        refine e_ (eff_app1_at ((gd st.w i).2) (by' := 8) (by repeat (first | exact LocL.h | apply LocL.t | apply LocL.a)) (T rfl) (T rfl) Tryz.runUnderlying42 Tryz.runUnderlying42 Tryz.sizeOf3 Tryz.typeInfo3 rfl Tryz.zeroValue3 rfl (fun _ => rfl) rfl ho12 (by decide) (by omega)) ?_ rfl
        rintro _ _ ⟨d', rfl, hokd, rfl⟩
        refine y_ (yl_assign (T rfl)) (jl_nil (q_block (q_then (j_region (y_ (yl_load (T rfl) Tryz.isAgg187 (by first | exact c_o)) ?_ rfl))))) rfl
        refine y_ (yl_move (T rfl)) (y_ (yl_ixQ (T rfl) (T rfl) Tryz.runUnderlying187 Tryz.sizeOf186 (by omega) (by first | exact rfl | exact hx.o1.bas (by omega) | exact hx.o2.bas (by omega))) ?_ rfl) rfl
        refine y_ (yl_fa0 (T rfl) fa186_0) (y_ (yl_load (T rfl) Tryz.isAgg3 (by first | exact c_o | exact ((sl_arr (X := H) (enc := encWI) (sz := 2) (e := 186) (l := st.w) (fun _ => rfl) hx.o2).mono sbt).f0 (i := i) (by omega) rfl)) ?_ rfl) rfl
        refine y_ (yl_assign (T rfl)) (jl_nil ?_) rfl
        refine q_loopC (((gd st.w i).1.toNat, ol ++ [(gd st.w i).2], d')) ?_ ?_ ⟨(by first | exact at_f rfl | (refine at_e (at_f rfl) (vint ?_); omega) | (refine at_e (at_f rfl) ?_; simp; done) | (refine at_e (at_f rfl) ?_; exact by simp only [List.length_append, List.length_cons, List.length_nil])), (by first | exact at_f rfl | (refine at_e (at_f rfl) (vint ?_); omega) | (refine at_e (at_f rfl) ?_; simp; done) | (refine at_e (at_f rfl) ?_; exact by simp only [List.length_append, List.length_cons, List.length_nil])), trivial⟩ ⟨at_f rfl, trivial⟩ ?_
        · refine ⟨by omega, by simpa using hokd, ?_, by simp; omega⟩
          rw [← hbk, backF_succ st.w i i, if_pos c39, backF_fuel hb.back i _ (by omega) (by omega)]
          simp
        · show (gd st.w i).1.toNat < i; omega
        · exact sbt
      · have hfin : ol = backF st.w (k + 1) k := by rw [← hbk, backF_succ, if_neg c39, List.append_nil]
        refine j_exit (q_then_exit (q_loop_exit (q_block_hit (q_then (j_seq (j_region (y_ (yl_move (T rfl)) (e_ (eff_call (.cons (T rfl) .nil) Tryz.call125 (spec_atF (slH d12 (ol.flatMap encU) 3) (by repeat (first | exact LocL.h | apply LocL.t | apply LocL.a)) ((revI_s d12 ol ho12 (by omega)).toL))) ?_ rfl) rfl)))))))
        rintro _ _ ⟨_, rfl, rfl⟩
        refine jl_nil (q_then (j_seq (j_region (y_ (yl_move (T rfl)) (y_ (yl_assign (T rfl)) (y_ (yl_assign ev_c) (jl_nil (q_then (j_ret (q_then_ret (q_block_ret (q_then_ret (q_loop_ret (q_block_ret (q_then_ret (q_ret rfl (.tmp (at_f rfl) (.tmp (at_f rfl) .nil)) ?_)))))))))) rfl) rfl) rfl))))
        rw [hres]; subst hfin
        exact ⟨_, ⟨(d12, Mg2), ⟨by rw [List.length_reverse]; rfl, by rw [List.length_reverse]; exact ho12, hG2⟩, rfl⟩, sbt⟩
    · refine j_skip (q_then (j_region (y_ (yl_move (T rfl)) (y_ (yl_load (T rfl) Tryz.isAgg59 (by first | exact c_o)) ?_ rfl) rfl)))
      refine y_ (yl_load (T rfl) Tryz.isAgg3 (by first | exact c_o)) ?_ rfl
      refine y_ (yl_ixQ (T rfl) (T rfl) Tryz.runUnderlying59 Tryz.sizeOf74 (by omega) (by first | exact rfl | exact hx.o1.bas (by omega) | exact hx.o2.bas (by omega))) ?_ rfl
      refine y_ (yl_loadA (T rfl) Tryz.isAgg74 Tryz.sizeOf74 rfl (by first | exact ((sl_arr (X := H) (enc := encPl) (sz := 2) (e := 74) (l := st.l) (fun _ => rfl) hx.o1).mono sbt).cs (i := k) (by omega) | exact cs_o)) ?_ rfl
      refine y_ (yl_makeFunc (.cons (T rfl) (.cons (T rfl) (.cons (T rfl) (.cons (T rfl) .nil))))) ?_ rfl
      refine e_ (eff_callV (T rfl) (.cons (T rfl) (.cons (T rfl) .nil)) hnf (spec_atF (bsHI n18 n9 n8 st x) locBSI (hnext (gd st.l k) hpk 126 [.pointer (some ⟨n10, 0, none⟩), .pointer (some ⟨n8, 0, none⟩), .pointer (some ⟨n9, 0, none⟩), .pointer (some ⟨m11, 0, none⟩)] (fun j M => ∃ y, bsOkI (visAll k st ((ts (gd st.l k)).take j)) y ∧ M = bsHI n18 n9 n8 (visAll k st ((ts (gd st.l k)).take j)) y) _ _ (hH0.trans (by exact sbt)) Tryz.call126 ⟨x, hx, rfl⟩ (vspI hb hkl (hts _ hpk) hN (by omega) (by repeat (first | exact fnd_h | refine fnd_t ?_ | refine fnd_a ?_)) (by repeat (first | exact fnd_h | refine fnd_t ?_ | refine fnd_a ?_)))))) ?_ rfl
      rintro _ _ ⟨_, ⟨y, hy, rfl⟩, rfl⟩
      rw [List.take_length] at hy ⊢
      rw [bsHI_app]
      refine jl_nil (q_block (q_then (j_seq (j_seq (j_region (y_ (yl_load (T rfl) Tryz.isAgg3 (by first | exact c_o)) ?_ rfl))))))
      refine jl_nil (q_then (j_keep [(1, _), (2, _), (8, _), (9, _), (10, _), (63, _)] ⟨at_f rfl, at_f rfl, at_f rfl, at_f rfl, at_f rfl, at_f rfl, trivial⟩ (j_region (e_ (eff_alloc Tryz.zeroValue3 cs_) ?_ rfl))))
      rintro _ _ ⟨n11, rfl, rfl⟩
      first | refine jl_e (eff_sW (T rfl) (T rfl) Tryz.sizeOf3) rfl gd_n ?_ | refine jl_e (eff_s1 (T rfl) (T rfl) rfl Tryz.sizeOf3) rfl gd_n ?_ | refine jl_e (eff_s1r (T rfl) (T rfl) rfl Tryz.sizeOf3) rfl gd_n ?_
      rintro _ _ ⟨rfl, rfl⟩
      refine jl_nil (q_then (j_region (y_ (yl_load (T rfl) Tryz.isAgg3 (by first | exact c_o)) ?_ rfl)))
      refine y_ (yl_add (T rfl) ev_c (by omega)) ?_ rfl
      first | refine jl_e (eff_sW (T rfl) (T rfl) Tryz.sizeOf3) rfl gd_n ?_ | refine jl_e (eff_s1 (T rfl) (T rfl) rfl Tryz.sizeOf3) rfl gd_n ?_ | refine jl_e (eff_s1r (T rfl) (T rfl) rfl Tryz.sizeOf3) rfl gd_n ?_
      rintro _ _ ⟨rfl, rfl⟩
      refine jl_nil ?_
      refine q_loopC ((k + 1, visAll k st (ts (gd st.l k)), y, n11, Mg2)) ?_ ?_ ⟨(by first | exact at_f rfl | (refine at_e (at_f rfl) (vint ?_); omega) | (refine at_e (at_f rfl) ?_; simp; done) | (refine at_e (at_f rfl) ?_; exact by simp only [List.length_append, List.length_cons, List.length_nil])), trivial⟩ ⟨at_f rfl, at_f rfl, at_f rfl, at_f rfl, at_f rfl, trivial⟩ ?_
      · obtain ⟨hb2, hge⟩ := hb.visAll (k' := k) (ts (gd st.l k)) hkl (hts _ hpk)
        refine ⟨⟨hb2.nd, hb2.ok, hb2.len, hb2.back, by omega⟩, hy, ?_, ?_⟩
        · rw [visAll_pre _ _ (by omega), List.take_add_one, gd_get hkl]; exact hG2
        · rw [← hgo, show N + 1 - k = (N - k) + 1 by omega, goF_succ, if_pos hkl, if_neg (by rw [c32]; decide), show N + 1 - (k + 1) = N - k by omega]
      · show N + 1 - (k + 1) < N + 1 - k; omega
      · exact sbt
  · have hres : srF ts fnd N p0 = ([], false, st.l) := by
      unfold srF
      rw [← hgo, show N + 1 - k = (N - k) + 1 by omega, goF_succ, if_neg (by omega)]
    refine j_exit (q_then_exit (q_loop_exit (q_block_hit (q_then (j_seq (j_region (y_ (yl_assign ev_c) (y_ (yl_assign ev_c) (jl_nil (q_then (j_ret (q_ret rfl (.tmp (at_f rfl) (.tmp (at_f rfl) .nil)) ?_)))) rfl) rfl)))))))
    rw [hres]
    have hkk : k = st.l.length := by omega
    rw [hkk, List.take_length] at hG
    exact ⟨_, ⟨(.nil, Mg), ⟨rfl, rfl, hG⟩, rfl⟩, sbt⟩
def NextS (w0 : World) (H0 : List (Nat × Obj)) (nf : FuncId) (ncap : List Value) (Pd : Pl → Prop) (ts : Pl → List (Pl × ByteArray)) : Prop :=
  ∀ (p : Pl), Pd p → ∀ (vf : FuncId) (vcap : List Value) (S : Nat → List (Nat × Obj) → Prop) (M H : List (Nat × Obj)), H0.Sublist H → Enters vf → S 0 M →
    (∀ j x M1 H1, (ts p)[j]? = some x → H.Sublist H1 → S j M1 → FSpec Tryz.prog w0 vf (.agg (encPl x.1).toArray :: .string x.2 :: vcap).toArray (M1 ++ H1) (fun _ H' => ∃ M2, S (j + 1) M2 ∧ H' = M2 ++ H1)) →
    FSpec Tryz.prog w0 nf (.agg (encPl p).toArray :: .func (.func vf) #[] vcap.toArray :: ncap).toArray (M ++ H) (fun _ H' => ∃ M2, S (ts p).length M2 ∧ H' = M2 ++ H)
theorem vspS {w0 : World} {R : List (Nat × Obj)} {Pd : Pl → Prop} {ts : List (Pl × ByteArray)} {n18 n9 n8 n10 n11 k : Nat} {st : BS ByteArray} (hb : BSok Pd k st) (hk : k < st.l.length) (ht : ∀ x ∈ ts, Pd x.1) {N : Nat} (hN : ∀ l : List Pl, l.Nodup → (∀ p ∈ l, Pd p) → l.length ≤ N) (hN2 : N ≤ 100000) (h10 : Fnd R n10 (Cl [.map (some n18)] 180)) (h11 : Fnd R n11 (Cl [.int .i64 (k : Int)] 3)) :
    ∀ j x M1 H1, ts[j]? = some x → R.Sublist H1 → (∃ y, bsOkS (visAll k st (ts.take j)) y ∧ M1 = bsHS n18 n9 n8 (visAll k st (ts.take j)) y) →
      FSpec Tryz.prog w0 120 (.agg (encPl x.1).toArray :: .string x.2 :: [.pointer (some ⟨n10, 0, none⟩), .pointer (some ⟨n8, 0, none⟩), .pointer (some ⟨n9, 0, none⟩), .pointer (some ⟨n11, 0, none⟩)]).toArray (M1 ++ H1) (fun _ H' => ∃ M2, (∃ y, bsOkS (visAll k st (ts.take (j + 1))) y ∧ M2 = bsHS n18 n9 n8 (visAll k st (ts.take (j + 1))) y) ∧ H' = M2 ++ H1) := by
  rintro j x M1 H1 hj hs ⟨y, hy, rfl⟩
  have h1 := (hb.visAll (k' := k) (ts.take j) hk (fun z hz => ht z (List.mem_of_mem_take hz))).1
  have h2 := hN _ h1.nd h1.ok
  refine (visS_s n18 n9 n8 n10 n11 k (visAll k st (ts.take j)) y x.1 x.2 hy (by omega) h1.len (h10.mono hs) (h11.mono hs)).mono ?_
  rintro v H' ⟨y2, hy2, rfl⟩
  rw [visAll_take k st hj]
  exact ⟨_, ⟨y2, hy2, rfl⟩, rfl⟩
theorem locBSS {e1 e2 : Nat × Obj} {n18 n9 n8 : Nat} {st : BS ByteArray} {x : Sl × Sl} {R : List (Nat × Obj)} : LocL (e1 :: e2 :: ((n18, mapO encPK encBv (trueM st.l)) :: (n9, Cl [slV x.2 st.w.length] 179) :: (n8, Cl [slV x.1 st.l.length] 176) :: (slH x.2 (st.w.flatMap encWS) 178 ++ (slH x.1 (st.l.flatMap encPl) 115 ++ R)))) (bsHS n18 n9 n8 st x) (e1 :: e2 :: R) (fun M' => e1 :: e2 :: (M' ++ R)) := by
  rw [← bsHS_app]; exact .t (.t .h)
theorem searchS_s {w0 : World} {H H0 : List (Nat × Obj)} (nf ff : FuncId) (ncap fcap : List Value) (Pd : Pl → Prop) (ts : Pl → List (Pl × ByteArray)) (fnd : Pl → Bool) (G : List Pl → List (Nat × Obj) → Prop) (N : Nat) (p0 : Pl) (Mg0 : List (Nat × Obj))
    (hnf : Enters nf) (hff : Enters ff) (hnext : NextS w0 H0 nf ncap Pd ts) (hfound : FoundS w0 H0 ff fcap Pd fnd G) (hts : ∀ p, Pd p → ∀ x ∈ ts p, Pd x.1) (hN : ∀ l : List Pl, l.Nodup → (∀ p ∈ l, Pd p) → l.length ≤ N) (hN2 : N ≤ 50000) (hp0 : Pd p0) (hG0 : G [] Mg0) (hH0 : H0.Sublist H) :
    FSpec Tryz.prog w0 71 #[.agg (encPl p0).toArray, .func (.func nf) #[] ncap.toArray, .func (.func ff) #[] fcap.toArray] (Mg0 ++ H) (fun v H' => ∃ x : Sl × List (Nat × Obj), (v = .tuple #[slV x.1 (srF ts fnd N p0).1.length, .bool (srF ts fnd N p0).2.1] ∧ SlOk x.1 (srF ts fnd N p0).1.length 1 ∧ G (srF ts fnd N p0).2.2 x.2) ∧ H' = slH x.1 ((srF ts fnd N p0).1.flatMap encS) 9 ++ (x.2 ++ H)) := by
  refine fn_spec Tryz.func71 rfl Tryz.ntmps71 rfl (j_seq (j_region (e_ (eff_box (T rfl) cs_) ?_ rfl)))
  rintro _ _ ⟨n3, rfl, rfl⟩
  refine y_ (yl_assign ev_c) (y_ (yl_assign ev_c) (jl_nil (q_then (j_seq (j_region (y_ (yl_loadA (T rfl) Tryz.isAgg115 Tryz.sizeOf115 rfl (by first | exact cs_o)) ?_ rfl))))) rfl) rfl
  refine e_ (eff_bslice (.cons (T rfl) .nil) (bs176_1_0 _ _)) ?_ rfl
  rintro _ _ ⟨n15, rfl, rfl⟩
  refine y_ (yl_build (.cons ev_c .nil) (bd178_0 _)) (e_ (eff_bslice (.cons (T rfl) .nil) (bs179_1_0 _ _)) ?_ rfl) rfl
  rintro _ _ ⟨n17, rfl, rfl⟩
  refine e_ (eff_alloc Tryz.zeroValue176 cs_) ?_ rfl
  rintro _ _ ⟨n8, rfl, rfl⟩
  refine e_ (eff_alloc Tryz.zeroValue179 cs_) ?_ rfl
  rintro _ _ ⟨n9, rfl, rfl⟩
  first | refine jl_e (eff_sW (T rfl) (T rfl) Tryz.sizeOf176) rfl gd_n ?_ | refine jl_e (eff_s1 (T rfl) (T rfl) rfl Tryz.sizeOf176) rfl gd_n ?_ | refine jl_e (eff_s1r (T rfl) (T rfl) rfl Tryz.sizeOf176) rfl gd_n ?_
  rintro _ _ ⟨rfl, rfl⟩
  first | refine jl_e (eff_sW (T rfl) (T rfl) Tryz.sizeOf179) rfl gd_n ?_ | refine jl_e (eff_s1 (T rfl) (T rfl) rfl Tryz.sizeOf179) rfl gd_n ?_ | refine jl_e (eff_s1r (T rfl) (T rfl) rfl Tryz.sizeOf179) rfl gd_n ?_
  rintro _ _ ⟨rfl, rfl⟩
  refine jl_nil (q_then (j_seq (j_region (e_ eff_makeMap ?_ rfl))))
  rintro _ _ ⟨n18, rfl, rfl⟩
  refine y_ (yl_loadA (T rfl) Tryz.isAgg115 Tryz.sizeOf115 rfl (by first | exact cs_o)) ?_ rfl
  refine e_ (eff_insert (l := []) (encV := encBv) p0 true (keyP115 (V := Bool)) (T rfl) (T rfl) rfl ev_c rfl Tryz.runUnderlying180) ?_ rfl
  rintro _ _ ⟨rfl, rfl⟩
  refine y_ (yl_move (T rfl)) (e_ (eff_alloc Tryz.zeroValue180 cs_) ?_ rfl) rfl
  rintro _ _ ⟨n10, rfl, rfl⟩
  first | refine jl_e (eff_sW (T rfl) (T rfl) Tryz.sizeOf180) rfl gd_n ?_ | refine jl_e (eff_s1 (T rfl) (T rfl) rfl Tryz.sizeOf180) rfl gd_n ?_ | refine jl_e (eff_s1r (T rfl) (T rfl) rfl Tryz.sizeOf180) rfl gd_n ?_
  rintro _ _ ⟨rfl, rfl⟩
  refine jl_nil (q_then (j_seq (j_seq (j_region (e_ (eff_alloc Tryz.zeroValue3 cs_) ?_ rfl)))))
  rintro _ _ ⟨n11, rfl, rfl⟩
  first | refine jl_e (eff_sW (T rfl) ev_c Tryz.sizeOf3) rfl gd_n ?_ | refine jl_e (eff_s1 (T rfl) ev_c rfl Tryz.sizeOf3) rfl gd_n ?_ | refine jl_e (eff_s1r (T rfl) ev_c rfl Tryz.sizeOf3) rfl gd_n ?_
  rintro _ _ ⟨rfl, rfl⟩
  refine jl_nil (q_then (j_block ?_))
  refine j_loopC (X := Nat × BS ByteArray × (Sl × Sl) × Nat × List (Nat × Obj)) (V := fun ⟨k, st, x, m11, Mg⟩ => [(11, .pointer (some ⟨m11, 0, none⟩))]) (C := [(1, _), (2, _), (8, _), (9, _), (10, _)]) (G := fun ⟨k, st, x, m11, Mg⟩ => (m11, Cl [.int .i64 (k : Int)] 3) :: (n10, Cl [.map (some n18)] 180) :: ((n18, mapO encPK encBv (trueM st.l)) :: (n9, Cl [slV x.2 st.w.length] 179) :: (n8, Cl [slV x.1 st.l.length] 176) :: (slH x.2 (st.w.flatMap encWS) 178 ++ (slH x.1 (st.l.flatMap encPl) 115 ++ ((n3, Cl (encPl p0) 115) :: (Mg ++ H)))))) (φ := fun ⟨k, st, x, m11, Mg⟩ => BSok Pd k st ∧ bsOkS st x ∧ G (st.l.take k) Mg ∧ goF ts fnd (N + 1 - k) k st = goF ts fnd (N + 1) 0 ⟨[p0], [(-1, default)]⟩) (μ := fun ⟨k, st, x, m11, Mg⟩ => N + 1 - k) (x0 := (0, ⟨[p0], [(-1, default)]⟩, (.blk n15 1 [], .blk n17 1 []), n11, Mg0)) ?_ ⟨at_f rfl, at_f rfl, at_f rfl, at_f rfl, at_f rfl, trivial⟩ ⟨(by first | exact at_f rfl | (refine at_e (at_f rfl) (vint ?_); omega) | (refine at_e (at_f rfl) ?_; simp; done) | (refine at_e (at_f rfl) ?_; exact by simp only [List.length_append, List.length_cons, List.length_nil])), trivial⟩ sb0 ?_
  · exact ⟨bs_start hp0, ⟨⟨Nat.le_refl _, rfl⟩, ⟨Nat.le_refl _, rfl⟩⟩, hG0, rfl⟩
  rintro ⟨k, st, x, m11, Mg⟩ ⟨hb, hx, hG, hgo⟩
  have hln := hN _ hb.nd hb.ok
  have hbl := hb.len
  have hbk0 := hb.kl
  refine j_seq (j_seq (j_region (y_ (yl_load (T rfl) Tryz.isAgg3 (by first | exact c_o)) ?_ rfl)))
  refine y_ (yl_load (T rfl) Tryz.isAgg176 (by first | exact c_o)) ?_ rfl
  refine y_ (yl_len (T rfl) Tryz.runUnderlying176) (y_ (yl_lss (T rfl) (T rfl)) (jl_nil (q_then ?_)) rfl) rfl
  first | refine j_cond_d (at_f rfl) (fun c24 => ?_) (fun c24 => ?_) | refine j_cond (at_f rfl) (fun c24 => ?_) (fun c24 => ?_)
  · have hkl : k < st.l.length := by omega
    have hpk := hb.ok _ (gd_mem hkl)
    refine j_skip (q_then (j_seq (j_block (j_seq (j_seq (j_region (y_ (yl_move (T rfl)) (y_ (yl_load (T rfl) Tryz.isAgg176 (by first | exact c_o)) ?_ rfl) rfl)))))))
    refine y_ (yl_load (T rfl) Tryz.isAgg3 (by first | exact c_o)) ?_ rfl
    refine y_ (yl_ixQ (T rfl) (T rfl) Tryz.runUnderlying176 Tryz.sizeOf115 (by omega) (by first | exact rfl | exact hx.o1.bas (by omega) | exact hx.o2.bas (by omega))) ?_ rfl
    refine y_ (yl_loadA (T rfl) Tryz.isAgg115 Tryz.sizeOf115 rfl (by first | exact ((sl_arr (X := H) (enc := encPl) (sz := 2) (e := 115) (l := st.l) (fun _ => rfl) hx.o1).mono sbt).cs (i := k) (by omega) | exact cs_o)) ?_ rfl
    refine e_ (eff_callV (T rfl) (.cons (T rfl) .nil) hff (spec_atF Mg (by repeat (first | exact LocL.h | apply LocL.t | apply LocL.a)) (hfound (gd st.l k) (hb.ok _ (gd_mem (by omega))) (st.l.take k) Mg _ (hH0.trans (by exact sbt)) (by rw [List.length_take]; omega) hG))) ?_ rfl
    rintro _ _ ⟨Mg2, ⟨rfl, hG2⟩, rfl⟩
    refine jl_nil (q_then ?_)
    first | refine j_cond_d (at_f rfl) (fun c32 => ?_) (fun c32 => ?_) | refine j_cond (at_f rfl) (fun c32 => ?_) (fun c32 => ?_)
    · have hres : srF ts fnd N p0 = ((backF st.w (k + 1) k).reverse, true, st.l.take (k + 1)) := by
        unfold srF
        rw [← hgo, show N + 1 - k = (N - k) + 1 by omega, goF_succ, if_pos hkl, if_pos c32]
      have htk : st.l.take k ++ [gd st.l k] = st.l.take (k + 1) := by rw [List.take_add_one, gd_get hkl]; rfl
      rw [htk] at hG2
      refine j_seq (j_region (y_ (yl_assign ev_c) (jl_nil (q_then (j_seq (j_seq (j_region (y_ (yl_load (T rfl) Tryz.isAgg3 (by first | exact c_o)) ?_ rfl)))))) rfl))
      refine y_ (yl_assign (T rfl)) (jl_nil (q_then (j_block ?_))) rfl
      refine j_loopC (X := Nat × List ByteArray × Sl) (V := fun ⟨i, ol, d12⟩ => [(13, .int .i64 (i : Nat)), (12, slV d12 ol.length)]) (C := [(9, _)]) (G := fun ⟨i, ol, d12⟩ => slH d12 (ol.flatMap encS) 9 ++ ((m11, Cl [.int .i64 (k : Int)] 3) :: (n10, Cl [.map (some n18)] 180) :: ((n18, mapO encPK encBv (trueM st.l)) :: (n9, Cl [slV x.2 st.w.length] 179) :: (n8, Cl [slV x.1 st.l.length] 176) :: (slH x.2 (st.w.flatMap encWS) 178 ++ (slH x.1 (st.l.flatMap encPl) 115 ++ ((n3, Cl (encPl p0) 115) :: (Mg2 ++ H))))))) (φ := fun ⟨i, ol, d12⟩ => i < st.w.length ∧ SlOk d12 ol.length 1 ∧ ol ++ backF st.w (i + 1) i = backF st.w (k + 1) k ∧ ol.length + i ≤ k) (μ := fun ⟨i, ol, d12⟩ => i) (x0 := (k, [], .nil)) ?_ ⟨at_f rfl, trivial⟩ ⟨(by first | exact at_f rfl | (refine at_e (at_f rfl) (vint ?_); omega) | (refine at_e (at_f rfl) ?_; simp; done) | (refine at_e (at_f rfl) ?_; exact by simp only [List.length_append, List.length_cons, List.length_nil])), (by first | exact at_f rfl | (refine at_e (at_f rfl) (vint ?_); omega) | (refine at_e (at_f rfl) ?_; simp; done) | (refine at_e (at_f rfl) ?_; exact by simp only [List.length_append, List.length_cons, List.length_nil])), trivial⟩ sb0 ?_
      · exact ⟨by omega, rfl, rfl, by simp⟩
      rintro ⟨i, ol, d12⟩ ⟨hi, ho12, hbk, hol⟩
      refine j_seq (j_seq (j_region (y_ (yl_load (T rfl) Tryz.isAgg179 (by first | exact c_o)) ?_ rfl)))
      refine y_ (yl_move (T rfl)) (y_ (yl_ixQ (T rfl) (T rfl) Tryz.runUnderlying179 Tryz.sizeOf178 (by omega) (by first | exact rfl | exact hx.o1.bas (by omega) | exact hx.o2.bas (by omega))) ?_ rfl) rfl
      refine y_ (yl_fa0 (T rfl) fa178_0) (y_ (yl_load (T rfl) Tryz.isAgg3 (by first | exact c_o | exact ((sl_arr (X := H) (enc := encWS) (sz := 2) (e := 178) (l := st.w) (fun _ => rfl) hx.o2).mono sbt).f0 (i := i) (by omega) rfl)) ?_ rfl) rfl
      refine y_ (yl_geq (T rfl) ev_c) (jl_nil (q_then ?_)) rfl
      first | refine j_cond_d (at_f rfl) (fun c39 => ?_) (fun c39 => ?_) | refine j_cond (at_f rfl) (fun c39 => ?_) (fun c39 => ?_)
      · have hbi := hb.back i (by omega)
        have hti : (((gd st.w i).1.toNat : Nat) : Int) = (gd st.w i).1 := by omega
        refine j_skip (q_then (j_seq (j_block (j_region (y_ (yl_move (T rfl)) (y_ (yl_load (T rfl) Tryz.isAgg179 (by first | exact c_o)) ?_ rfl) rfl)))))
        refine y_ (yl_move (T rfl)) (y_ (yl_ixQ (T rfl) (T rfl) Tryz.runUnderlying179 Tryz.sizeOf178 (by omega) (by first | exact rfl | exact hx.o1.bas (by omega) | exact hx.o2.bas (by omega))) ?_ rfl) rfl
        refine y_ (yl_fa (T rfl) fa178_1) (y_ (yl_load (T rfl) Tryz.isAgg9 (by first | exact c_o | exact ((sl_arr (X := H) (enc := encWS) (sz := 2) (e := 178) (l := st.w) (fun _ => rfl) hx.o2).mono sbt).f (i := i) (by omega) rfl)) ?_ rfl) rfl
        refine e_ (eff_bslice (.cons (T rfl) .nil) (bs25_1_0 _)) ?_ rfl
        rintro _ _ ⟨n51, rfl, rfl⟩
        refine e_ (eff_app1_at ((gd st.w i).2) (by' := 16) (by repeat (first | exact LocL.h | apply LocL.t | apply LocL.a)) (T rfl) (T rfl) Tryz.runUnderlying25 Tryz.runUnderlying25 Tryz.sizeOf9 Tryz.typeInfo9 rfl Tryz.zeroValue9 rfl (fun _ => rfl) rfl ho12 (by decide) (by omega)) ?_ rfl
        rintro _ _ ⟨d', rfl, hokd, rfl⟩
        refine y_ (yl_assign (T rfl)) (jl_nil (q_block (q_then (j_region (y_ (yl_load (T rfl) Tryz.isAgg179 (by first | exact c_o)) ?_ rfl))))) rfl
        refine y_ (yl_move (T rfl)) (y_ (yl_ixQ (T rfl) (T rfl) Tryz.runUnderlying179 Tryz.sizeOf178 (by omega) (by first | exact rfl | exact hx.o1.bas (by omega) | exact hx.o2.bas (by omega))) ?_ rfl) rfl
        refine y_ (yl_fa0 (T rfl) fa178_0) (y_ (yl_load (T rfl) Tryz.isAgg3 (by first | exact c_o | exact ((sl_arr (X := H) (enc := encWS) (sz := 2) (e := 178) (l := st.w) (fun _ => rfl) hx.o2).mono sbt).f0 (i := i) (by omega) rfl)) ?_ rfl) rfl
        refine y_ (yl_assign (T rfl)) (jl_nil ?_) rfl
        refine q_loopC (((gd st.w i).1.toNat, ol ++ [(gd st.w i).2], d')) ?_ ?_ ⟨(by first | exact at_f rfl | (refine at_e (at_f rfl) (vint ?_); omega) | (refine at_e (at_f rfl) ?_; simp; done) | (refine at_e (at_f rfl) ?_; exact by simp only [List.length_append, List.length_cons, List.length_nil])), (by first | exact at_f rfl | (refine at_e (at_f rfl) (vint ?_); omega) | (refine at_e (at_f rfl) ?_; simp; done) | (refine at_e (at_f rfl) ?_; exact by simp only [List.length_append, List.length_cons, List.length_nil])), trivial⟩ ⟨at_f rfl, trivial⟩ ?_
        · refine ⟨by omega, by simpa using hokd, ?_, by simp; omega⟩
          rw [← hbk, backF_succ st.w i i, if_pos c39, backF_fuel hb.back i _ (by omega) (by omega)]
          simp
        · show (gd st.w i).1.toNat < i; omega
        · exact sbt
      · have hfin : ol = backF st.w (k + 1) k := by rw [← hbk, backF_succ, if_neg c39, List.append_nil]
        refine j_exit (q_then_exit (q_loop_exit (q_block_hit (q_then (j_seq (j_region (y_ (yl_move (T rfl)) (e_ (eff_call (.cons (T rfl) .nil) Tryz.call119 (spec_atF (slH d12 (ol.flatMap encS) 9) (by repeat (first | exact LocL.h | apply LocL.t | apply LocL.a)) ((revS_s d12 ol ho12 (by omega)).toL))) ?_ rfl) rfl)))))))
        rintro _ _ ⟨_, rfl, rfl⟩
        refine jl_nil (q_then (j_seq (j_region (y_ (yl_move (T rfl)) (y_ (yl_assign (T rfl)) (y_ (yl_assign ev_c) (jl_nil (q_then (j_ret (q_then_ret (q_block_ret (q_then_ret (q_loop_ret (q_block_ret (q_then_ret (q_ret rfl (.tmp (at_f rfl) (.tmp (at_f rfl) .nil)) ?_)))))))))) rfl) rfl) rfl))))
        rw [hres]; subst hfin
        exact ⟨_, ⟨(d12, Mg2), ⟨by rw [List.length_reverse]; rfl, by rw [List.length_reverse]; exact ho12, hG2⟩, rfl⟩, sbt⟩
    · refine j_skip (q_then (j_region (y_ (yl_move (T rfl)) (y_ (yl_load (T rfl) Tryz.isAgg176 (by first | exact c_o)) ?_ rfl) rfl)))
      refine y_ (yl_load (T rfl) Tryz.isAgg3 (by first | exact c_o)) ?_ rfl
      refine y_ (yl_ixQ (T rfl) (T rfl) Tryz.runUnderlying176 Tryz.sizeOf115 (by omega) (by first | exact rfl | exact hx.o1.bas (by omega) | exact hx.o2.bas (by omega))) ?_ rfl
      refine y_ (yl_loadA (T rfl) Tryz.isAgg115 Tryz.sizeOf115 rfl (by first | exact ((sl_arr (X := H) (enc := encPl) (sz := 2) (e := 115) (l := st.l) (fun _ => rfl) hx.o1).mono sbt).cs (i := k) (by omega) | exact cs_o)) ?_ rfl
      refine y_ (yl_makeFunc (.cons (T rfl) (.cons (T rfl) (.cons (T rfl) (.cons (T rfl) .nil))))) ?_ rfl
      refine e_ (eff_callV (T rfl) (.cons (T rfl) (.cons (T rfl) .nil)) hnf (spec_atF (bsHS n18 n9 n8 st x) locBSS (hnext (gd st.l k) hpk 120 [.pointer (some ⟨n10, 0, none⟩), .pointer (some ⟨n8, 0, none⟩), .pointer (some ⟨n9, 0, none⟩), .pointer (some ⟨m11, 0, none⟩)] (fun j M => ∃ y, bsOkS (visAll k st ((ts (gd st.l k)).take j)) y ∧ M = bsHS n18 n9 n8 (visAll k st ((ts (gd st.l k)).take j)) y) _ _ (hH0.trans (by exact sbt)) Tryz.call120 ⟨x, hx, rfl⟩ (vspS hb hkl (hts _ hpk) hN (by omega) (by repeat (first | exact fnd_h | refine fnd_t ?_ | refine fnd_a ?_)) (by repeat (first | exact fnd_h | refine fnd_t ?_ | refine fnd_a ?_)))))) ?_ rfl
      rintro _ _ ⟨_, ⟨y, hy, rfl⟩, rfl⟩
      rw [List.take_length] at hy ⊢
      rw [bsHS_app]
      refine jl_nil (q_block (q_then (j_seq (j_seq (j_region (y_ (yl_load (T rfl) Tryz.isAgg3 (by first | exact c_o)) ?_ rfl))))))
      refine jl_nil (q_then (j_keep [(1, _), (2, _), (8, _), (9, _), (10, _), (63, _)] ⟨at_f rfl, at_f rfl, at_f rfl, at_f rfl, at_f rfl, at_f rfl, trivial⟩ (j_region (e_ (eff_alloc Tryz.zeroValue3 cs_) ?_ rfl))))
      rintro _ _ ⟨n11, rfl, rfl⟩
      first | refine jl_e (eff_sW (T rfl) (T rfl) Tryz.sizeOf3) rfl gd_n ?_ | refine jl_e (eff_s1 (T rfl) (T rfl) rfl Tryz.sizeOf3) rfl gd_n ?_ | refine jl_e (eff_s1r (T rfl) (T rfl) rfl Tryz.sizeOf3) rfl gd_n ?_
      rintro _ _ ⟨rfl, rfl⟩
      refine jl_nil (q_then (j_region (y_ (yl_load (T rfl) Tryz.isAgg3 (by first | exact c_o)) ?_ rfl)))
      refine y_ (yl_add (T rfl) ev_c (by omega)) ?_ rfl
      first | refine jl_e (eff_sW (T rfl) (T rfl) Tryz.sizeOf3) rfl gd_n ?_ | refine jl_e (eff_s1 (T rfl) (T rfl) rfl Tryz.sizeOf3) rfl gd_n ?_ | refine jl_e (eff_s1r (T rfl) (T rfl) rfl Tryz.sizeOf3) rfl gd_n ?_
      rintro _ _ ⟨rfl, rfl⟩
      refine jl_nil ?_
      refine q_loopC ((k + 1, visAll k st (ts (gd st.l k)), y, n11, Mg2)) ?_ ?_ ⟨(by first | exact at_f rfl | (refine at_e (at_f rfl) (vint ?_); omega) | (refine at_e (at_f rfl) ?_; simp; done) | (refine at_e (at_f rfl) ?_; exact by simp only [List.length_append, List.length_cons, List.length_nil])), trivial⟩ ⟨at_f rfl, at_f rfl, at_f rfl, at_f rfl, at_f rfl, trivial⟩ ?_
      · obtain ⟨hb2, hge⟩ := hb.visAll (k' := k) (ts (gd st.l k)) hkl (hts _ hpk)
        refine ⟨⟨hb2.nd, hb2.ok, hb2.len, hb2.back, by omega⟩, hy, ?_, ?_⟩
        · rw [visAll_pre _ _ (by omega), List.take_add_one, gd_get hkl]; exact hG2
        · rw [← hgo, show N + 1 - k = (N - k) + 1 by omega, goF_succ, if_pos hkl, if_neg (by rw [c32]; decide), show N + 1 - (k + 1) = N - k by omega]
      · show N + 1 - (k + 1) < N + 1 - k; omega
      · exact sbt
  · have hres : srF ts fnd N p0 = ([], false, st.l) := by
      unfold srF
      rw [← hgo, show N + 1 - k = (N - k) + 1 by omega, goF_succ, if_neg (by omega)]
    refine j_exit (q_then_exit (q_loop_exit (q_block_hit (q_then (j_seq (j_region (y_ (yl_assign ev_c) (y_ (yl_assign ev_c) (jl_nil (q_then (j_ret (q_ret rfl (.tmp (at_f rfl) (.tmp (at_f rfl) .nil)) ?_)))) rfl) rfl)))))))
    rw [hres]
    have hkk : k = st.l.length := by omega
    rw [hkk, List.take_length] at hG
    exact ⟨_, ⟨(.nil, Mg), ⟨rfl, rfl, hG⟩, rfl⟩, sbt⟩
theorem goF_ok {σ : Type} [Inhabited σ] {Pd : Pl → Prop} {ts : Pl → List (Pl × σ)} (hts : ∀ p, Pd p → ∀ x ∈ ts p, Pd x.1) {fnd : Pl → Bool} : ∀ (f k : Nat) (st : BS σ), BSok Pd k st → ∃ k', BSok Pd k' (goF ts fnd f k st).2
  | 0, k, st, h => ⟨k, h⟩
  | f + 1, k, st, h => by
    rw [goF_succ]
    split
    · rename_i hk
      split
      · exact ⟨k, h⟩
      · obtain ⟨h2, h3⟩ := h.visAll (k' := k) (ts (gd st.l k)) hk (hts _ (h.ok _ (gd_mem hk)))
        exact goF_ok hts f (k + 1) _ ⟨h2.nd, h2.ok, h2.len, h2.back, by omega⟩
    · exact ⟨k, h⟩
theorem srF_met {σ : Type} [Inhabited σ] {Pd : Pl → Prop} {ts : Pl → List (Pl × σ)} (hts : ∀ p, Pd p → ∀ x ∈ ts p, Pd x.1) {fnd : Pl → Bool} {p0 : Pl} (hp0 : Pd p0) (N : Nat) : (srF ts fnd N p0).2.2.Nodup ∧ ∀ p ∈ (srF ts fnd N p0).2.2, Pd p := by
  obtain ⟨k', h⟩ := goF_ok hts (fnd := fnd) (N + 1) 0 ⟨[p0], [(-1, default)]⟩ (bs_start hp0)
  unfold srF
  cases hg : goF ts fnd (N + 1) 0 ⟨[p0], [(-1, default)]⟩ with
  | mk a st =>
    rw [hg] at h
    cases a with
    | none => exact ⟨h.nd, h.ok⟩
    | some k => exact ⟨h.nd.sublist (List.take_sublist _ _), fun p hp => h.ok p (List.mem_of_mem_take hp)⟩
theorem searchI_at {w0 : World} {H H0 : List (Nat × Obj)} (nf ff : FuncId) (ncap fcap : List Value) (Pd : Pl → Prop) (ts : Pl → List (Pl × Nat)) (fnd : Pl → Bool) (G : List Pl → List (Nat × Obj) → Prop) (N : Nat) (p0 : Pl) (Mg0 : List (Nat × Obj))
    (hnf : Enters nf) (hff : Enters ff) (hnext : NextI w0 H0 nf ncap Pd ts) (hfound : FoundS w0 H0 ff fcap Pd fnd G) (hts : ∀ p, Pd p → ∀ x ∈ ts p, Pd x.1) (hN : ∀ l : List Pl, l.Nodup → (∀ p ∈ l, Pd p) → l.length ≤ N) (hN2 : N ≤ 50000) (hp0 : Pd p0) (hG0 : G [] Mg0) (hH0 : H0.Sublist H) :
    FSpec Tryz.prog w0 78 #[.agg (encPl p0).toArray, .func (.func nf) #[] ncap.toArray, .func (.func ff) #[] fcap.toArray] (Mg0 ++ H) (fun v H' => ∃ x : Sl × List (Nat × Obj), (v = .tuple #[slV x.1 (srF ts fnd N p0).1.length, .bool (srF ts fnd N p0).2.1] ∧ SlOk x.1 (srF ts fnd N p0).1.length 1 ∧ G (srF ts fnd N p0).2.2 x.2) ∧ H' = (slH x.1 ((srF ts fnd N p0).1.flatMap encU) 3 ++ x.2) ++ H) :=
  (searchI_s nf ff ncap fcap Pd ts fnd G N p0 Mg0 hnf hff hnext hfound hts hN hN2 hp0 hG0 hH0).mono fun v H' ⟨x, h1, h2⟩ => ⟨x, h1, by rw [List.append_assoc]; exact h2⟩
end Go.Proofs.YtkdolgnpkjihpaaGreatDoor
namespace Go.Proofs.YtkdolgnpkjihpaaGreatDoor
open Go.RowKit
set_option linter.unusedVariables false
set_option linter.unusedSimpArgs false
theorem bd74_0_1 (a0 : Int) (a1 : Int) (w : World) : (Instr.build 74 #[(0, .int .i64 a0), (1, .int .i64 a1)]).run Tryz.prog w = .ok (.agg #[.int .i64 a0, .int .i64 a1]) w := by kernel_rfl
theorem fa138_0 (b o : Nat) (w : World) : (Instr.fieldAt 138 (.pointer (some ⟨b, o, none⟩)) 0).run Tryz.prog w = .ok (.pointer (some ⟨b, o, none⟩)) w := by kernel_rfl
theorem fa56_0 (b o : Nat) (w : World) : (Instr.fieldAt 56 (.pointer (some ⟨b, o, none⟩)) 0).run Tryz.prog w = .ok (.pointer (some ⟨b, o, none⟩)) w := by kernel_rfl
theorem fa74_0 (b o : Nat) (w : World) : (Instr.fieldAt 74 (.pointer (some ⟨b, o, none⟩)) 0).run Tryz.prog w = .ok (.pointer (some ⟨b, o, none⟩)) w := by kernel_rfl
theorem fa74_1 (b o : Nat) (w : World) : (Instr.fieldAt 74 (.pointer (some ⟨b, o, none⟩)) 1).run Tryz.prog w = .ok (.pointer (some ⟨b, o + 1, none⟩)) w := by kernel_rfl
def nmF (n : Nn) (x : Nat) : ByteArray := (gd n.nodes x).name
def mvF (n : Nn) (m : PM) (s : Nat) (l : Nat) : Pl × Nat := (((gd n.links l).dst, afterF m s (nmF n (gd n.links l).dst)), l)
def movK (n : Nn) (f : Flr) (m : PM) (p : Pl) (i : Nat) : List (Pl × Nat) := (((outF n p.1).take i).filter (upF n f)).map (mvF n m p.2)
def movesF (n : Nn) (f : Flr) (m : PM) (p : Pl) : List (Pl × Nat) := ((outF n p.1).filter (upF n f)).map (mvF n m p.2)
theorem movK_yes {n : Nn} {f : Flr} {m : PM} {p : Pl} {i : Nat} (h : i < (outF n p.1).length) (hu : upF n f (gd (outF n p.1) i) = true) : movK n f m p (i + 1) = movK n f m p i ++ [mvF n m p.2 (gd (outF n p.1) i)] := by
  unfold movK; rw [List.take_add_one, gd_get h, List.filter_append, List.map_append]; simp [hu]
theorem movK_no {n : Nn} {f : Flr} {m : PM} {p : Pl} {i : Nat} (h : i < (outF n p.1).length) (hu : upF n f (gd (outF n p.1) i) = false) : movK n f m p (i + 1) = movK n f m p i := by
  unfold movK; rw [List.take_add_one, gd_get h, List.filter_append]; simp [hu]
theorem movK_get {n : Nn} {f : Flr} {m : PM} {p : Pl} {i : Nat} (h : i < (outF n p.1).length) (hu : upF n f (gd (outF n p.1) i) = true) : (movesF n f m p)[(movK n f m p i).length]? = some (mvF n m p.2 (gd (outF n p.1) i)) := by
  have e : movesF n f m p = movK n f m p (i + 1) ++ (((outF n p.1).drop (i + 1)).filter (upF n f)).map (mvF n m p.2) := by
    unfold movesF movK; rw [← List.map_append, ← List.filter_append, List.take_append_drop]
  rw [e, movK_yes h hu, List.append_assoc, List.getElem?_append_right (Nat.le_refl _)]
  simp
theorem movK_all {n : Nn} {f : Flr} {m : PM} {p : Pl} : movK n f m p (outF n p.1).length = movesF n f m p := by
  unfold movK movesF; rw [List.take_length]
def PlOk (n : Nn) (m : PM) (p : Pl) : Prop := p.1 < n.nodes.length ∧ p.2 < m.next.length
theorem moves_ok {n : Nn} (hok : NnOk n) {f : Flr} {m : PM} (hp : PMok m) (p : Pl) (h : PlOk n m p) : ∀ x ∈ movesF n f m p, PlOk n m x.1 := by
  intro x hx
  unfold movesF at hx
  simp only [List.mem_map, List.mem_filter] at hx
  obtain ⟨l, ⟨hl, _⟩, rfl⟩ := hx
  have h1 := ((mem_outK n p.1 l n.links.length).1 hl).1
  exact ⟨(hok.ends _ (gd_mem h1)).2, after_lt hp h.2 _⟩
theorem pl_few (n : Nn) (m : PM) : ∀ l : List Pl, l.Nodup → (∀ p ∈ l, PlOk n m p) → l.length ≤ n.nodes.length * m.next.length := fun l h1 h2 => grid_few h1 h2
def fndF (to : Nat) (m : PM) (p : Pl) : Bool := decide (p.1 = to) && gd m.acc p.2
structure Env (w0 : World) (H : List (Nat × Obj)) (n : Nn) (f : Flr) (m : Mc) : Prop where
  n : NetR w0 H n
  f : Arr w0 H f.q 1 encI f.links
  m : McOk w0 H m
theorem Env.mono {w0 : World} {H H' : List (Nat × Obj)} {n : Nn} {f : Flr} {m : Mc} (h : Env w0 H n f m) (hs : H.Sublist H' := by exact sbt) : Env w0 H' n f m := ⟨h.n.mono hs, h.f.mono hs, h.m.mono hs⟩
structure EnvOk (n : Nn) (f : Flr) (m : Mc) : Prop where
  on : NnOk n
  fl : f.links.length ≤ 4611686018427387903
  om : PMok m.pl
  sr : Srt m.names
  ln : m.names.length ≤ 4611686018427387903
theorem begin_s {w0 : World} {H : List (Nat × Obj)} (n : Nn) (m : Mc) (hn : NetR w0 H n) (hm : McOk w0 H m) (hp : PMok m.pl) (hsr : Srt m.names) (hl : m.names.length ≤ 4611686018427387903) (x : Nat) (hx : x < n.nodes.length) :
    FSpec Tryz.prog w0 79 #[.agg (encNn n).toArray, .agg (encMc m).toArray, .int .i64 (x : Int)] H (Still (.agg (encPl (x, afterF m.pl 0 (nmF n x))).toArray) H) := by
  refine fn_spec Tryz.func79 rfl Tryz.ntmps79 rfl (j_seq (j_region (e_ (eff_box (T rfl) cs_) ?_ rfl)))
  rintro _ _ ⟨n3, rfl, rfl⟩
  refine e_ (eff_box (T rfl) cs_) ?_ rfl
  rintro _ _ ⟨n4, rfl, rfl⟩
  refine e_ (eff_alloc Tryz.zeroValue74 cs_) ?_ rfl
  rintro _ _ ⟨n6, rfl, rfl⟩
  refine jl_nil (q_then (j_seq (j_any 10 [(0, true), (1, true), (2, true), (3, true), (4, true), (5, true), (6, true), (7, true), (8, true), (9, true)] _ mixd (by kernel_rfl) sb0 ?_)))
  refine o_y rfl (yl_move (T rfl)) (o_y rfl (yl_loadA (T rfl) Tryz.isAgg29 Tryz.sizeOf29 rfl (by first | exact cs_o | exact (hn.nodes.mono sbt).f0 (i := x) hx rfl)) ?_ rfl gd_n) rfl gd_n
  refine o_y rfl (yl_fa0 (T rfl) fa56_0) (o_y rfl (yl_load (T rfl) Tryz.isAgg52 (by first | exact c_o | exact (hn.nodes.mono sbt).f0 (i := x) hx rfl)) ?_ rfl gd_n) rfl gd_n
  refine o_y rfl (yl_move (T rfl)) (o_y rfl (yl_ixQ (T rfl) (T rfl) Tryz.runUnderlying52 Tryz.sizeOf138 (by omega) (by first | exact rfl | exact hn.nodes.b (i := x) hx)) ?_ rfl gd_n) rfl gd_n
  refine o_y rfl (yl_fa0 (T rfl) fa138_0) (o_y rfl (yl_load (T rfl) Tryz.isAgg9 (by first | exact c_o | exact (hn.nodes.mono sbt).f0 (i := x) hx rfl)) ?_ rfl gd_n) rfl gd_n
  refine o_y rfl (yl_call (.cons (T rfl) (.cons ev_c (.cons (T rfl) .nil))) Tryz.call69 (fun H' hs => after_s m (hm.mono (List.Sublist.trans sbt hs)) hp hsr hl 0 (by have := hp.some'; rw [show m.pl.next.length = m.rows.length from List.length_map ..] at this; exact this) _)) ?_ rfl gd_n
  refine o_y rfl (yl_build (.cons (T rfl) (.cons (T rfl) .nil)) (bd74_0_1 _ _)) (jo_nil rfl ?_) rfl gd_n
  first | refine jl_e (eff_sW (T rfl) (T rfl) Tryz.sizeOf74) rfl gd_n ?_
  rintro _ _ ⟨rfl, rfl⟩
  refine jl_nil (q_then (j_ret (q_ret rfl (.cellA (at_f rfl) Tryz.isAgg74 Tryz.sizeOf74 rfl (by first | exact cs_o | exact (hn.nodes.mono sbt).f0 (i := x) hx rfl) .nil) ?_)))
  exact ⟨_, ⟨rfl, rfl⟩, sbt⟩
theorem moves1_s {w0 : World} {H0 : List (Nat × Obj)} (n : Nn) (f : Flr) (m : Mc) (he : Env w0 H0 n f m) (ho : EnvOk n f m) (b3 b4 b5 : Nat) (h3 : Fnd H0 b3 (Cl (encNn n) 56)) (h4 : Fnd H0 b4 (Cl (encFl f) 58)) (h5 : Fnd H0 b5 (Cl (encMc m) 29)) :
    NextI w0 H0 127 [.pointer (some ⟨b3, 0, none⟩), .pointer (some ⟨b4, 0, none⟩), .pointer (some ⟨b5, 0, none⟩)] (PlOk n m.pl) (movesF n f m.pl) := by
  intro p hpd vf vcap S M0 H hH0 hvf hS0 hv
  show FSpec Tryz.prog w0 127 #[.agg (encPl p).toArray, .func (.func vf) #[] vcap.toArray, .pointer (some ⟨b3, 0, none⟩), .pointer (some ⟨b4, 0, none⟩), .pointer (some ⟨b5, 0, none⟩)] (M0 ++ H) _
  have hok := ho.on
  have hfL := hok.fewL
  have hol : (outF n p.1).length ≤ n.links.length := outK_len n p.1 n.links.length
  have hrl : m.pl.next.length = m.rows.length := List.length_map ..
  have hp2 : p.2 < m.rows.length := by have := hpd.2; omega
  refine fn_spec Tryz.func127 rfl Tryz.ntmps127 rfl (j_seq (j_region (e_ (eff_box (T rfl) cs_) ?_ rfl)))
  rintro _ _ ⟨n5, rfl, rfl⟩
  refine jl_nil (q_then (j_seq (j_region (y_ (yl_loadA (T rfl) Tryz.isAgg56 Tryz.sizeOf56 rfl (by first | exact cs_m (cells_own h3) (hH0.trans (by exact sbt)) | exact cs_o)) ?_ rfl))))
  refine y_ (yl_fa0 (T rfl) fa74_0) (y_ (yl_load (T rfl) Tryz.isAgg3 (by first | exact c_o)) ?_ rfl) rfl
  refine e_ (eff_call (.cons (T rfl) (.cons (T rfl) .nil)) Tryz.call128 (gout_s n (he.n.mono (hH0.trans (by exact sbt))) hok p.1)) ?_ rfl
  rintro _ _ ⟨dq, ⟨rfl, hdq⟩, rfl⟩
  refine y_ (yl_len (T rfl) Tryz.runUnderlying42) (y_ (yl_move ev_c) (jl_nil (q_then (j_block ?_))) rfl) rfl
  refine j_loopC (X := Nat × List (Nat × Obj)) (V := fun ⟨i, M⟩ => [(15, .int .i64 (i : Nat))]) (C := [(1, _), (2, _), (3, _), (4, _), (5, _), (13, _), (14, _)]) (G := fun ⟨i, M⟩ => slH dq ((outF n p.1).flatMap encU) 3 ++ ((n5, Cl (encPl p) 74) :: (M ++ H))) (φ := fun ⟨i, M⟩ => i ≤ (outF n p.1).length ∧ S (movK n f m.pl p i).length M) (μ := fun ⟨i, M⟩ => (outF n p.1).length - i) (x0 := (0, M0)) ?_ ⟨at_f rfl, at_f rfl, at_f rfl, at_f rfl, at_f rfl, at_f rfl, at_f rfl, trivial⟩ ⟨(by first | exact at_f rfl | (refine at_e (at_f rfl) (vint ?_); omega) | (refine at_e (at_f rfl) ?_; simp; done)), trivial⟩ sb0 ?_
  · exact ⟨Nat.zero_le _, hS0⟩
  rintro ⟨i, M⟩ ⟨hi, hS⟩
  refine j_seq (j_region (y_ (yl_lss (T rfl) (T rfl)) (jl_nil (q_then (j_seq ?_))) rfl))
  first | refine j_cond_d (at_f rfl) (fun c16 => ?_) (fun c16 => ?_) | refine j_cond (at_f rfl) (fun c16 => ?_) (fun c16 => ?_)
  · have hli := (mem_outK n p.1 (gd (outF n p.1) i) n.links.length).1 (gd_mem (show i < (outF n p.1).length by omega))
    have hll := hli.1
    have hdd := (hok.ends _ (gd_mem hll)).2
    refine j_skip (q_then (j_seq (j_block (j_seq (j_region (y_ (yl_ixQ (T rfl) (T rfl) Tryz.runUnderlying42 Tryz.sizeOf3 (by omega) (by first | exact rfl | exact hdq.bas (by omega) | exact he.n.links.b (i := gd (outF n p.1) i) hll | exact he.n.nodes.b (i := (gd n.links (gd (outF n p.1) i)).dst) hdd)) ?_ rfl))))))
    refine y_ (yl_load (T rfl) Tryz.isAgg3 (by first | exact c_o | exact cell1 (((sl_arr (X := H) (enc := encU) (sz := 1) (e := 3) (l := outF n p.1) (fun _ => rfl) hdq).mono sbt).cs (i := i) (by omega)))) ?_ rfl
    refine y_ (yl_assign (T rfl)) (jl_nil (q_then (j_seq (j_region (y_ (yl_loadA (T rfl) Tryz.isAgg56 Tryz.sizeOf56 rfl (by first | exact cs_m (cells_own h3) (hH0.trans (by exact sbt)) | exact cs_o)) ?_ rfl))))) rfl
    refine y_ (yl_loadA (T rfl) Tryz.isAgg58 Tryz.sizeOf58 rfl (by first | exact cs_m (cells_own h4) (hH0.trans (by exact sbt)) | exact cs_o)) ?_ rfl
    refine y_ (yl_move (T rfl)) (y_ (yl_call (.cons (T rfl) (.cons (T rfl) (.cons (T rfl) .nil))) Tryz.call39 (fun H' hs => gup_s n (he.n.mono ((hH0.trans (by exact sbt)).trans hs)) f (he.f.mono ((hH0.trans (by exact sbt)).trans hs)) ho.fl (gd (outF n p.1) i) hll)) ?_ rfl) rfl
    refine jl_nil (q_then ?_)
    first | refine j_cond_d (at_f rfl) (fun c22 => ?_) (fun c22 => ?_) | refine j_cond (at_f rfl) (fun c22 => ?_) (fun c22 => ?_)
    · refine j_seq (j_region (y_ (yl_fa (T rfl) fa56_1) (y_ (yl_load (T rfl) Tryz.isAgg53 (by first | exact c_o | exact c_o (hf := h3.mono (hH0.trans (by exact sbt))))) ?_ rfl) rfl))
      refine y_ (yl_move (T rfl)) (y_ (yl_ixQ (T rfl) (T rfl) Tryz.runUnderlying53 Tryz.sizeOf71 (by omega) (by first | exact rfl | exact hdq.bas (by omega) | exact he.n.links.b (i := gd (outF n p.1) i) hll | exact he.n.nodes.b (i := (gd n.links (gd (outF n p.1) i)).dst) hdd)) ?_ rfl) rfl
      refine y_ (yl_fa (T rfl) fa71_1) (y_ (yl_load (T rfl) Tryz.isAgg3 (by first | exact c_o | exact ((he.n.links.mono (hH0.trans (by exact sbt))).f (i := gd (outF n p.1) i) hll rfl))) ?_ rfl) rfl
      refine y_ (yl_assign (T rfl)) (jl_nil (q_then (j_any 14 [(0, true), (1, true), (2, true), (3, true), (4, true), (5, true), (6, true), (7, true), (8, true), (9, true), (10, true), (11, true), (12, true), (13, true)] _ mixd (by kernel_rfl) sb0 ?_))) rfl
      refine o_y rfl (yl_move (T rfl)) (o_y rfl (yl_move (T rfl)) (o_y rfl (yl_loadA (T rfl) Tryz.isAgg29 Tryz.sizeOf29 rfl (by first | exact cs_m (cells_own h5) (hH0.trans (by exact sbt)) | exact cs_o)) ?_ rfl gd_n) rfl gd_n) rfl gd_n
      refine o_y rfl (yl_fa (T rfl) fa74_1) (o_y rfl (yl_load (T rfl) Tryz.isAgg3 (by first | exact c_o)) ?_ rfl gd_n) rfl gd_n
      refine o_y rfl (yl_fa0 (T rfl) fa56_0) (o_y rfl (yl_load (T rfl) Tryz.isAgg52 (by first | exact c_o | exact c_o (hf := h3.mono (hH0.trans (by exact sbt))))) ?_ rfl gd_n) rfl gd_n
      refine o_y rfl (yl_move (T rfl)) (o_y rfl (yl_ixQ (T rfl) (T rfl) Tryz.runUnderlying52 Tryz.sizeOf138 (by omega) (by first | exact rfl | exact hdq.bas (by omega) | exact he.n.links.b (i := gd (outF n p.1) i) hll | exact he.n.nodes.b (i := (gd n.links (gd (outF n p.1) i)).dst) hdd)) ?_ rfl gd_n) rfl gd_n
      refine o_y rfl (yl_fa0 (T rfl) fa138_0) (o_y rfl (yl_load (T rfl) Tryz.isAgg9 (by first | exact c_o | exact ((he.n.nodes.mono (hH0.trans (by exact sbt))).f0 (i := (gd n.links (gd (outF n p.1) i)).dst) hdd rfl))) ?_ rfl gd_n) rfl gd_n
      refine o_y rfl (yl_call (.cons (T rfl) (.cons (T rfl) (.cons (T rfl) .nil))) Tryz.call69 (fun H' hs => after_s m (he.m.mono ((hH0.trans (by exact sbt)).trans hs)) ho.om ho.sr ho.ln p.2 hp2 _)) ?_ rfl gd_n
      refine o_y rfl (yl_build (.cons (T rfl) (.cons (T rfl) .nil)) (bd74_0_1 _ _)) (o_y rfl (yl_move (T rfl)) (jo_nil rfl (e_ (eff_callV (T rfl) (.cons (T rfl) (.cons (T rfl) .nil)) hvf (spec_atF M (by repeat (first | exact LocL.h | apply LocL.t | apply LocL.a)) (hv (movK n f m.pl p i).length (mvF n m.pl p.2 (gd (outF n p.1) i)) M _ (movK_get (by omega) c22) (by exact sbt) hS))) ?_ rfl)) rfl gd_n) rfl gd_n
      rintro _ _ ⟨M2, hS2, rfl⟩
      refine jl_nil (q_block (q_then (j_keep [(1, _), (2, _), (3, _), (4, _), (5, _), (13, _), (14, _), (15, _)] ⟨at_f rfl, at_f rfl, at_f rfl, at_f rfl, at_f rfl, at_f rfl, at_f rfl, at_f rfl, trivial⟩ (j_region (y_ (yl_add (T rfl) ev_c (by omega)) ?_ rfl)))))
      refine y_ (yl_move (T rfl)) (jl_nil ?_) rfl
      refine q_loopC ((i + 1, M2)) ?_ ?_ ⟨(by first | exact at_f rfl | (refine at_e (at_f rfl) (vint ?_); omega) | (refine at_e (at_f rfl) ?_; simp; done)), trivial⟩ ⟨at_f rfl, at_f rfl, at_f rfl, at_f rfl, at_f rfl, at_f rfl, at_f rfl, trivial⟩ ?_
      · exact ⟨by omega, by rw [movK_yes (by omega) c22, List.length_append]; exact hS2⟩
      · first | omega | (simp only []; omega)
      · exact sbt
    · refine j_skip (q_block (q_then (j_region (y_ (yl_add (T rfl) ev_c (by omega)) ?_ rfl))))
      refine y_ (yl_move (T rfl)) (jl_nil ?_) rfl
      refine q_loopC ((i + 1, M)) ?_ ?_ ⟨(by first | exact at_f rfl | (refine at_e (at_f rfl) (vint ?_); omega) | (refine at_e (at_f rfl) ?_; simp; done)), trivial⟩ ⟨at_f rfl, at_f rfl, at_f rfl, at_f rfl, at_f rfl, at_f rfl, at_f rfl, trivial⟩ ?_
      · exact ⟨by omega, by rw [movK_no (by omega) c22]; exact hS⟩
      · first | omega | (simp only []; omega)
      · exact sbt
  · refine j_exit (q_then_exit (q_loop_exit (q_block_hit (q_end rfl .nil ?_))))
    have hi2 : i = (outF n p.1).length := by omega
    rw [hi2, movK_all] at hS
    exact ⟨_, ⟨M, hS, rfl⟩, sbt⟩
end Go.Proofs.YtkdolgnpkjihpaaGreatDoor
namespace Go.Proofs.YtkdolgnpkjihpaaGreatDoor
open Go.RowKit Go.Sort Go.Shelf Go.Proofs
set_option linter.unusedVariables false
set_option linter.unusedSimpArgs false
section
variable {α : Type} [Inhabited α] {enc : α → List Value} {k : Nat}
theorem flat_get2 (he : ∀ x, (enc x).length = k) (l : List α) (t : Nat) (ht : t < l.length * k) : (l.flatMap enc)[t]? = some ((enc l[t / k]!)[t % k]!) := by
  have hk : 0 < k := by rcases Nat.eq_zero_or_pos k with h | h; · subst h; simp at ht
                        · exact h
  have h1 : t / k < l.length := by rw [Nat.div_lt_iff_lt_mul hk]; exact ht
  have h2 : t % k < k := Nat.mod_lt _ hk
  have h3 : l[t / k]? = some l[t / k]! := by simp [h1]
  have h4 : (enc l[t / k]!)[t % k]? = some ((enc l[t / k]!)[t % k]!) := by
    have : t % k < (enc l[t / k]!).length := by rw [he]; exact h2
    rw [List.getElem?_eq_getElem this, getElem!_pos (enc l[t / k]!) (t % k) this]
  have := flat_get he l (t / k) (l[t / k]!) (t % k) ((enc l[t / k]!)[t % k]!) h3 h4
  rw [show t / k * k + t % k = t from by rw [Nat.mul_comm]; exact Nat.div_add_mod t k] at this
  exact this
theorem flatK_list (he : ∀ x, (enc x).length = k) (l : List α) : flatK enc k l.toArray = (l.flatMap enc).toArray := by
  apply Array.ext_getElem?
  intro t
  by_cases ht : t < l.length * k
  · have h1 := flat_get2 he l t ht
    have h2 : (l.flatMap enc).toArray[t]? = some ((enc l[t / k]!)[t % k]!) := by rw [List.getElem?_toArray]; exact h1
    rw [h2]
    simp [flatK, ht]
  · rw [Array.getElem?_eq_none (by simp; omega), Array.getElem?_eq_none (by simp only [List.size_toArray]; rw [flat_len he]; omega)]
variable {w0 w : World} {n : Nat} {junk : List Value} {e : TypeId} {X : List (Nat × Obj)}
theorem own_holdsK (he : ∀ x, (enc x).length = k) {l : List α} (hO : Own w0 ((n, Cl (l.flatMap enc ++ junk) e) :: X) w) : HoldsK enc k w n 0 l.toArray := by
  unfold HoldsK
  rw [flatK_list he]
  have : l.flatMap enc = (l.flatMap enc).map id := by simp
  rw [this] at hO
  exact own_holds hO
theorem own_rowK (he : ∀ x, (enc x).length = k) {l l' : List α} (hO : Own w0 ((n, Cl (l.flatMap enc ++ junk) e) :: X) w) (hl : l.length = l'.length) (q : Nat) (os : Array Obj) : Own w0 ((n, Cl (l'.flatMap enc ++ junk) e) :: X) (sortWorldK enc k w n 0 q l'.toArray os) := by
  unfold sortWorldK putRowK
  rw [flatK_list he]
  have e1 : l.flatMap enc = (l.flatMap enc).map id := by simp
  have e2 : l'.flatMap enc = (l'.flatMap enc).map id := by simp
  rw [e1] at hO
  rw [e2]
  have := own_row (enc := id) hO (l' := (l'.flatMap enc)) (by rw [flat_len he, flat_len he, hl]) q os
  simpa using this
end
theorem sorted_list {α : Type} [Inhabited α] {lt : α → α → Bool} {l : List α} {d : Array α} (hp : PermIn 0 l.length l.toArray d) (hs : SortedIn lt 0 l.length d) : d.toList.Perm l ∧ d.toList.Pairwise (fun a b => lt b a = false) := by
  obtain ⟨h1, _, h3⟩ := hp
  have hsz : d.size = l.length := by simpa using h1
  have e1 : d.extract 0 l.length = d := by rw [← hsz]; simp
  have e2 : l.toArray.extract 0 l.length = l.toArray := by simp
  rw [e1, e2] at h3
  refine ⟨h3, ?_⟩
  rw [List.pairwise_iff_getElem]
  intro i j hi hj hij
  have hi' : i < d.size := by simpa using hi
  have hj' : j < d.size := by simpa using hj
  have := hs i j (Nat.zero_le _) hij (by omega)
  rw [getElem!_pos d i hi', getElem!_pos d j hj'] at this
  simpa using this
end Go.Proofs.YtkdolgnpkjihpaaGreatDoor
namespace Go.Proofs.YtkdolgnpkjihpaaGreatDoor
open Go.RowKit
set_option linter.unusedVariables false
set_option linter.unusedSimpArgs false
theorem bs42_2_0_1 (a0 : Int) (a1 : Int) (w : World) : (Instr.buildSlice 42 2 #[(0, .int .i64 a0), (1, .int .i64 a1)]).run Tryz.prog w = .ok (.slice (some ⟨w.heap.size, 0, none⟩) 2 2) (w.alloc (Cl [.int .i64 a0, .int .i64 a1] 3)) := by kernel_rfl
def cmpI (a b : Int) : Int := if a < b then -1 else if b < a then 1 else 0
def orI (l : List Int) : Int := (l.find? fun x => decide (¬ x = 0)).getD 0
def cmpPl (a b : Int × Int) : Int := if ¬ cmpI a.1 b.1 = 0 then cmpI a.1 b.1 else cmpI a.2 b.2
abbrev encPI (p : Int × Int) : List Value := [.int .i64 p.1, .int .i64 p.2]
theorem orI_none : ∀ {l : List Int}, (∀ j, j < l.length → gd l j = 0) → orI l = 0
  | [], _ => rfl
  | x :: l, h => by
    have h0 : x = 0 := h 0 (by simp)
    have := orI_none (l := l) (fun j hj => h (j + 1) (by simpa using hj))
    unfold orI at *
    rw [List.find?_cons]; simp [h0]; simpa using this
theorem orI_some : ∀ {l : List Int} {i : Nat}, i < l.length → (∀ j, j < i → gd l j = 0) → ¬ gd l i = 0 → orI l = gd l i
  | x :: l, 0, _, _, h => by
    have : ¬ x = 0 := h
    show orI (x :: l) = x
    unfold orI; rw [List.find?_cons]; simp [this]
  | x :: l, i + 1, hi, h, h2 => by
    have h0 : x = 0 := h 0 (by omega)
    have := orI_some (l := l) (i := i) (by simpa using hi) (fun j hj => h (j + 1) (by omega)) h2
    rw [show gd (x :: l) (i + 1) = gd l i from rfl]
    unfold orI at *
    rw [List.find?_cons]; simp [h0]; simpa using this
theorem orI_two (x y : Int) : orI [x, y] = if ¬ x = 0 then x else y := by
  unfold orI; rw [List.find?_cons, List.find?_cons]
  by_cases h : x = 0
  · by_cases h2 : y = 0 <;> simp [h, h2]
  · simp [h]
theorem own_grown {w w' : World} (h : Own w [] w') : ∃ q os, w' = Sort.grow (w.drewN q) os := by
  refine ⟨w'.drawn - w.drawn, w'.heap.extract w.heap.size w'.heap.size, ?_⟩
  obtain ⟨hb, _, _, _, hd⟩ := h
  have e1 : w.drawn + (w'.drawn - w.drawn) = w'.drawn := by omega
  have e2 : w.heap ++ w'.heap.extract w.heap.size w'.heap.size = w'.heap := by
    apply Array.ext_getElem?
    intro i
    have hs := hb.size
    by_cases hi : i < w.heap.size
    · rw [Array.getElem?_append_left hi, hb.block i hi]
    · rw [Array.getElem?_append_right (by omega), Array.getElem?_extract]
      by_cases h2 : i < w'.heap.size
      · simp only [show i - w.heap.size < min w'.heap.size w'.heap.size - w.heap.size by omega, if_true]
        congr 1; omega
      · rw [if_neg (by omega)]; simp; omega
  show w' = { heap := w.heap ++ w'.heap.extract w.heap.size w'.heap.size, tape := w.tape, drawn := w.drawn + (w'.drawn - w.drawn), os := w.os, output := w.output }
  rw [e1, e2, ← hb.os, ← hb.tape, ← hb.output]
theorem nanI_s {w0 : World} {H : List (Nat × Obj)} (a : Int) :
    FSpec Tryz.prog w0 157 #[.int .i64 a] H (Still (.bool false) H) := by
  refine fn_spec Tryz.func157 rfl Tryz.ntmps157 rfl (j_seq (j_region (y_ (yl_assign ev_c) (jl_nil (q_then (j_seq (j_region (y_ (yl_move (T rfl)) (y_ (yl_move (T rfl)) (y_ (yl_neq (T rfl) (T rfl)) (y_ (yl_assign (T rfl)) (jl_nil (q_then (j_ret (q_ret rfl (.tmp (at_f rfl) .nil) ?_)))) rfl) rfl) rfl) rfl))))) rfl)))
  exact ⟨_, ⟨vbool (by simp), rfl⟩, sbt⟩
theorem cmpI_s {w0 : World} {H : List (Nat × Obj)} (a b : Int) :
    FSpec Tryz.prog w0 133 #[.int .i64 a, .int .i64 b] H (Still (.int .i64 (cmpI a b)) H) := by
  refine fn_spec Tryz.func133 rfl Tryz.ntmps133 rfl (j_seq (j_region (y_ (yl_assign ev_c) (jl_nil (q_then (j_seq (j_region (y_ (yl_move (T rfl)) (y_ (yl_call (.cons (T rfl) .nil) Tryz.call157 (fun H' hs => nanI_s _)) (y_ (yl_assign (T rfl)) (jl_nil (q_then (j_seq (j_region (y_ (yl_move (T rfl)) (y_ (yl_call (.cons (T rfl) .nil) Tryz.call157 (fun H' hs => nanI_s _)) (y_ (yl_assign (T rfl)) (jl_nil (q_then (j_seq (j_seq (j_region (y_ (yl_move (T rfl)) (jl_nil (q_then ?_)) rfl)))))) rfl) rfl) rfl))))) rfl) rfl) rfl))))) rfl)))
  first | refine j_cond_f (at_f rfl) ?_ | refine j_cond_f (at_e (at_f rfl) (vbool (decide_eq_false c11))) ?_
  refine j_skip (q_then (j_seq (j_seq (j_region (y_ (yl_move (T rfl)) (jl_nil (q_then ?_)) rfl)))))
  first | refine j_cond_f (at_f rfl) ?_ | refine j_cond_f (at_e (at_f rfl) (vbool (decide_eq_false c13))) ?_
  refine j_skip (q_then (j_seq (j_seq (j_region (y_ (yl_move (T rfl)) (y_ (yl_move (T rfl)) (y_ (yl_lss (T rfl) (T rfl)) (jl_nil (q_then ?_)) rfl) rfl) rfl)))))
  first | refine j_cond_d (at_f rfl) (fun c16 => ?_) (fun c16 => ?_) | refine j_cond (at_f rfl) (fun c16 => ?_) (fun c16 => ?_)
  · refine j_seq (j_region (y_ (yl_assign ev_c) (jl_nil (q_then (j_ret (q_then_ret (q_ret rfl (.tmp (at_f rfl) .nil) (⟨_, ⟨vint ?_, rfl⟩, sbt⟩)))))) rfl))
    unfold cmpI
    first | (rw [if_pos c16]) | (rw [if_neg c16, if_pos (by omega)]) | (rw [if_neg c16, if_neg (by omega)])
  · refine j_skip (q_then (j_seq (j_seq (j_region (y_ (yl_move (T rfl)) (y_ (yl_move (T rfl)) (y_ (yl_gtr (T rfl) (T rfl)) (jl_nil (q_then ?_)) rfl) rfl) rfl)))))
    first | refine j_cond_d (at_f rfl) (fun c19 => ?_) (fun c19 => ?_) | refine j_cond (at_f rfl) (fun c19 => ?_) (fun c19 => ?_)
    · refine j_seq (j_region (y_ (yl_assign ev_c) (jl_nil (q_then (j_ret (q_then_ret (q_ret rfl (.tmp (at_f rfl) .nil) (⟨_, ⟨vint ?_, rfl⟩, sbt⟩)))))) rfl))
      unfold cmpI
      first | (rw [if_pos c16]) | (rw [if_neg c16, if_pos (by omega)]) | (rw [if_neg c16, if_neg (by omega)])
    · refine j_skip (q_then (j_seq (j_region (y_ (yl_assign ev_c) (jl_nil (q_then (j_ret (q_ret rfl (.tmp (at_f rfl) .nil) (⟨_, ⟨vint ?_, rfl⟩, sbt⟩))))) rfl))))
      unfold cmpI
      first | (rw [if_pos c16]) | (rw [if_neg c16, if_pos (by omega)]) | (rw [if_neg c16, if_neg (by omega)])
theorem orI_s {w0 : World} {H : List (Nat × Obj)} (l : List Int) (q : Option Addr) (c : Nat) (hA : Arr w0 H q 1 encI l) (hlen : l.length ≤ 1000000) :
    FSpec Tryz.prog w0 132 #[.slice q l.length c] H (Still (.int .i64 (orI l)) H) := by
  refine fn_spec Tryz.func132 rfl Tryz.ntmps132 rfl (j_seq (j_region (y_ (yl_assign ev_c) (jl_nil (q_then (j_seq (j_region (y_ (yl_assign ev_c) (jl_nil (q_then (j_seq (j_seq (j_region (y_ (yl_move (T rfl)) (y_ (yl_len (T rfl) Tryz.runUnderlying42) (y_ (yl_move ev_c) (jl_nil (q_then (j_block ?_))) rfl) rfl) rfl)))))) rfl))))) rfl)))
  refine j_loopH (X := Nat) (V := fun i => [(8, .int .i64 (i : Nat))]) (C := [(3, _), (6, _), (7, _)]) (φ := fun i => i ≤ l.length ∧ ∀ j, j < i → gd l j = 0) (μ := fun i => l.length - i) (x0 := 0) ?_ ⟨at_f rfl, at_f rfl, at_f rfl, trivial⟩ ⟨(by first | exact at_f rfl | (refine at_e (at_f rfl) (vint ?_); omega) | (refine at_e (at_f rfl) ?_; simp; done)), trivial⟩ ?_
  · exact ⟨Nat.zero_le _, fun j hj => absurd hj (Nat.not_lt_zero _)⟩
  rintro i ⟨hi, hz⟩
  refine j_seq (j_region (y_ (yl_lss (T rfl) (T rfl)) (jl_nil (q_then (j_seq ?_))) rfl))
  first | refine j_cond_d (at_f rfl) (fun c9 => ?_) (fun c9 => ?_) | refine j_cond (at_f rfl) (fun c9 => ?_) (fun c9 => ?_)
  · refine j_skip (q_then (j_seq (j_block (j_seq (j_region (y_ (yl_ixQ (T rfl) (T rfl) Tryz.runUnderlying42 Tryz.sizeOf3 (by omega) (by first | exact rfl | exact hA.b (i := i) (by omega))) ?_ rfl))))))
    refine y_ (yl_load (T rfl) Tryz.isAgg3 (by first | exact c_o | exact cell1 ((hA.mono sbt).cs (i := i) (by omega)))) ?_ rfl
    refine y_ (yl_assign (T rfl)) (jl_nil (q_then (j_seq (j_region (y_ (yl_move (T rfl)) (y_ (yl_move (T rfl)) (y_ (yl_neq (T rfl) (T rfl)) (jl_nil (q_then ?_)) rfl) rfl) rfl))))) rfl
    first | refine j_cond_d (at_f rfl) (fun c14 => ?_) (fun c14 => ?_) | refine j_cond (at_f rfl) (fun c14 => ?_) (fun c14 => ?_)
    · refine j_seq (j_region (y_ (yl_move (T rfl)) (y_ (yl_assign (T rfl)) (jl_nil (q_then (j_ret (q_block_ret (q_then_ret (q_loop_ret (q_block_ret (q_then_ret (q_ret rfl (.tmp (at_f rfl) .nil) ?_))))))))) rfl) rfl))
      exact ⟨_, ⟨vint (by rw [orI_some (by omega) hz (by omega)]), rfl⟩, sbt⟩
    · refine j_skip (q_block (q_then (j_region (y_ (yl_add (T rfl) ev_c (by omega)) ?_ rfl))))
      refine y_ (yl_move (T rfl)) (jl_nil ?_) rfl
      refine q_loopC (i + 1) ?_ ?_ ⟨(by first | exact at_f rfl | (refine at_e (at_f rfl) (vint ?_); omega) | (refine at_e (at_f rfl) ?_; simp; done)), trivial⟩ ⟨at_f rfl, at_f rfl, at_f rfl, trivial⟩ ?_
      · refine ⟨by omega, fun j hj => ?_⟩
        by_cases e : j = i
        · subst e; omega
        · exact hz j (by omega)
      · first | omega | (simp only []; omega)
      · exact sbt
  · refine j_exit (q_then_exit (q_loop_exit (q_block_hit (q_then (j_seq (j_region (y_ (yl_move (T rfl)) (y_ (yl_assign (T rfl)) (jl_nil (q_then (j_ret (q_ret rfl (.tmp (at_f rfl) .nil) ?_)))) rfl) rfl)))))))
    exact ⟨_, ⟨vint (by rw [orI_none (fun j hj => hz j (by omega))]), rfl⟩, sbt⟩
theorem arr2 {w0 : World} {H : List (Nat × Obj)} {n : Nat} {a b : Int} {t : TypeId} (hf : Fnd H n (Cl [.int .i64 a, .int .i64 b] t)) : Arr w0 H (some ⟨n, 0, none⟩) 1 encI [a, b] := fun i x hi => by
  refine ⟨rfl, fun j v hj => ?_⟩
  match i, hi with
  | 0, hi =>
    have : a = x := by simpa using hi
    subst this
    match j, hj with
    | 0, hj =>
      have : Value.int .i64 a = v := by simpa using hj
      subst this
      exact cell_get hf rfl
  | 1, hi =>
    have : b = x := by simpa using hi
    subst this
    match j, hj with
    | 0, hj =>
      have : Value.int .i64 b = v := by simpa using hj
      subst this
      exact cell_get hf rfl
theorem cmpPl_s {w0 : World} {H : List (Nat × Obj)} (a b : Int × Int) :
    FSpec Tryz.prog w0 90 #[.agg (encPI a).toArray, .agg (encPI b).toArray] H (Still (.int .i64 (cmpPl a b)) H) := by
  refine fn_spec Tryz.func90 rfl Tryz.ntmps90 rfl (j_seq (j_region (e_ (eff_box (T rfl) cs_) ?_ rfl)))
  rintro _ _ ⟨n2, rfl, rfl⟩
  refine e_ (eff_box (T rfl) cs_) ?_ rfl
  rintro _ _ ⟨n3, rfl, rfl⟩
  refine y_ (yl_assign ev_c) (jl_nil (q_then (j_seq (j_any 11 [(0, true), (1, true), (2, true), (3, true), (4, true), (5, true), (6, true), (7, true), (8, true), (9, true), (10, false)] _ mixd (by kernel_rfl) sb0 ?_)))) rfl
  refine o_y rfl (yl_fa0 (T rfl) fa74_0) (o_y rfl (yl_load (T rfl) Tryz.isAgg3 (by first | exact c_o)) ?_ rfl gd_n) rfl gd_n
  refine o_y rfl (yl_fa0 (T rfl) fa74_0) (o_y rfl (yl_load (T rfl) Tryz.isAgg3 (by first | exact c_o)) ?_ rfl gd_n) rfl gd_n
  refine o_y rfl (yl_call (.cons (T rfl) (.cons (T rfl) .nil)) Tryz.call133 (fun H' hs => cmpI_s _ _)) (o_y rfl (yl_fa (T rfl) fa74_1) (o_y rfl (yl_load (T rfl) Tryz.isAgg3 (by first | exact c_o)) ?_ rfl gd_n) rfl gd_n) rfl gd_n
  refine o_y rfl (yl_fa (T rfl) fa74_1) (o_y rfl (yl_load (T rfl) Tryz.isAgg3 (by first | exact c_o)) ?_ rfl gd_n) rfl gd_n
  refine o_y rfl (yl_call (.cons (T rfl) (.cons (T rfl) .nil)) Tryz.call133 (fun H' hs => cmpI_s _ _)) (o_e rfl (eff_bslice (.cons (T rfl) (.cons (T rfl) .nil)) (bs42_2_0_1 _ _)) ?_ rfl gd_n) rfl gd_n
  rintro _ _ ⟨n15, rfl, rfl⟩
  refine ⟨sbt, (jo_nil rfl ?_)⟩
  refine e_ (eff_call (.cons (T rfl) .nil) Tryz.call132 (orI_s [cmpI a.1 b.1, cmpI a.2 b.2] _ _ (arr2 (by repeat (first | exact fnd_h | refine fnd_t ?_ | refine fnd_a ?_))) (by simp))) ?_ rfl
  rintro _ _ ⟨rfl, rfl⟩
  refine y_ (yl_assign (T rfl)) (jl_nil (q_then (j_ret (q_ret rfl (.tmp (at_f rfl) .nil) ?_)))) rfl
  exact ⟨_, ⟨vint (by rw [orI_two]; rfl), rfl⟩, sbt⟩
def laysSF_ren : Go.Shelf.Ren := ⟨fun | 6 => 89 | 15 => 131 | 14 => 130 | 28 => 155 | 29 => 156 | 20 => 147 | 21 => 148 | 22 => 149 | 23 => 150 | 24 => 151 | 25 => 152 | 26 => 153 | 27 => 154 | 46 => 171 | 47 => 172 | 48 => 173 | 49 => 174 | 50 => 175 | 57 => 186 | n => n, fun | 22 => 59 | 24 => 74 | 25 => 142 | 3 => 3 | 39 => 192 | 0 => 0 | 53 => 214 | 55 => 84 | 4 => 4 | 46 => 208 | 45 => 207 | 50 => 99 | 5 => 5 | 9 => 9 | 66 => 225 | 70 => 229 | 76 => 239 | 77 => 240 | n => n, fun | n => n⟩
theorem laysSF : Go.Proofs.SlLaysF0.n6 Tryz.prog laysSF_ren := {
  mixed := by kernel_rfl,
  f6 := ⟨"slices.SortFunc[[]interlace/api.Place,interlace/api.Place]", by decide, Tryz.func89.trans (congrArg some (by kernel_rfl))⟩,
  f14 := ⟨"slices.pdqsortCmpFunc[interlace/api.Place]", by decide, Tryz.func130.trans (congrArg some (by kernel_rfl))⟩,
  f15 := Tryz.func131.trans (congrArg some (by kernel_rfl)),
  f20 := ⟨"slices.insertionSortCmpFunc[interlace/api.Place]", by decide, Tryz.func147.trans (congrArg some (by kernel_rfl))⟩,
  f21 := ⟨"slices.heapSortCmpFunc[interlace/api.Place]", by decide, Tryz.func148.trans (congrArg some (by kernel_rfl))⟩,
  f22 := ⟨"slices.breakPatternsCmpFunc[interlace/api.Place]", by decide, Tryz.func149.trans (congrArg some (by kernel_rfl))⟩,
  f23 := ⟨"slices.choosePivotCmpFunc[interlace/api.Place]", by decide, Tryz.func150.trans (congrArg some (by kernel_rfl))⟩,
  f24 := ⟨"slices.reverseRangeCmpFunc[interlace/api.Place]", by decide, Tryz.func151.trans (congrArg some (by kernel_rfl))⟩,
  f25 := ⟨"slices.partialInsertionSortCmpFunc[interlace/api.Place]", by decide, Tryz.func152.trans (congrArg some (by kernel_rfl))⟩,
  f26 := ⟨"slices.partitionEqualCmpFunc[interlace/api.Place]", by decide, Tryz.func153.trans (congrArg some (by kernel_rfl))⟩,
  f27 := ⟨"slices.partitionCmpFunc[interlace/api.Place]", by decide, Tryz.func154.trans (congrArg some (by kernel_rfl))⟩,
  f28 := Tryz.func155.trans (congrArg some (by kernel_rfl)),
  f29 := Tryz.func156.trans (congrArg some (by kernel_rfl)),
  f46 := ⟨"slices.siftDownCmpFunc[interlace/api.Place]", by decide, Tryz.func171.trans (congrArg some (by kernel_rfl))⟩,
  f47 := Tryz.func172.trans (congrArg some (by kernel_rfl)),
  f48 := Tryz.func173.trans (congrArg some (by kernel_rfl)),
  f49 := ⟨"slices.medianAdjacentCmpFunc[interlace/api.Place]", by decide, Tryz.func174.trans (congrArg some (by kernel_rfl))⟩,
  f50 := ⟨"slices.medianCmpFunc[interlace/api.Place]", by decide, Tryz.func175.trans (congrArg some (by kernel_rfl))⟩,
  f57 := ⟨"slices.order2CmpFunc[interlace/api.Place]", by decide, Tryz.func186.trans (congrArg some (by kernel_rfl))⟩,
  t0 := Tryz.underlying0,
  a0 := Tryz.isAgg0,
  z0 := Tryz.sizeOf0,
  v0 := Tryz.zeroValue0,
  t3 := Tryz.underlying3,
  a3 := Tryz.isAgg3,
  z3 := Tryz.sizeOf3,
  v3 := Tryz.zeroValue3,
  t4 := Tryz.underlying4,
  a4 := Tryz.isAgg4,
  z4 := Tryz.sizeOf4,
  v4 := Tryz.zeroValue4,
  t5 := Tryz.underlying5,
  a5 := Tryz.isAgg5,
  z5 := Tryz.sizeOf5,
  v5 := Tryz.zeroValue5,
  t9 := Tryz.underlying9,
  a9 := Tryz.isAgg9,
  z9 := Tryz.sizeOf9,
  v9 := Tryz.zeroValue9,
  t22 := Tryz.underlying59,
  a22 := Tryz.isAgg59,
  z22 := Tryz.sizeOf59,
  v22 := Tryz.zeroValue59,
  t25 := Tryz.underlying142,
  a25 := Tryz.isAgg142,
  z25 := Tryz.sizeOf142,
  v25 := Tryz.zeroValue142,
  t39 := Tryz.underlying192,
  a39 := Tryz.isAgg192,
  z39 := Tryz.sizeOf192,
  v39 := Tryz.zeroValue192,
  t45 := Tryz.underlying207,
  a45 := Tryz.isAgg207,
  z45 := Tryz.sizeOf207,
  v45 := Tryz.zeroValue207,
  t46 := Tryz.underlying208,
  a46 := Tryz.isAgg208,
  z46 := Tryz.sizeOf208,
  v46 := Tryz.zeroValue208,
  t50 := Tryz.underlying99,
  a50 := Tryz.isAgg99,
  z50 := Tryz.sizeOf99,
  v50 := Tryz.zeroValue99,
  t53 := Tryz.underlying214,
  a53 := Tryz.isAgg214,
  z53 := Tryz.sizeOf214,
  v53 := Tryz.zeroValue214,
  t55 := Tryz.underlying84,
  a55 := Tryz.isAgg84,
  z55 := Tryz.sizeOf84,
  v55 := Tryz.zeroValue84,
  t66 := Tryz.underlying225,
  a66 := Tryz.isAgg225,
  z66 := Tryz.sizeOf225,
  v66 := Tryz.zeroValue225,
  t70 := Tryz.underlying229,
  a70 := Tryz.isAgg229,
  z70 := Tryz.sizeOf229,
  v70 := Tryz.zeroValue229,
  t76 := Tryz.underlying239,
  a76 := Tryz.isAgg239,
  z76 := Tryz.sizeOf239,
  v76 := Tryz.zeroValue239,
  t77 := Tryz.underlying240,
  a77 := Tryz.isAgg240,
  z77 := Tryz.sizeOf240,
  v77 := Tryz.zeroValue240 }
def plLt (a b : Pl) : Prop := a.1 < b.1 ∨ (a.1 = b.1 ∧ a.2 < b.2)
abbrev toI (p : Pl) : Int × Int := ((p.1 : Int), (p.2 : Int))
theorem cmpPl_lt (a b : Int × Int) : cmpPl a b < 0 ↔ a.1 < b.1 ∨ (a.1 = b.1 ∧ a.2 < b.2) := by
  unfold cmpPl cmpI
  by_cases h1 : a.1 < b.1
  · simp [h1]
  · by_cases h2 : b.1 < a.1
    · simp [h1, h2]; omega
    · have h3 : a.1 = b.1 := by omega
      by_cases h4 : a.2 < b.2
      · simp [h3, h4]
      · by_cases h5 : b.2 < a.2 <;> simp [h3, h4, h5]
theorem cmpPl_eq (a b : Int × Int) : cmpPl a b = 0 ↔ a = b := by
  obtain ⟨a1, a2⟩ := a
  obtain ⟨b1, b2⟩ := b
  unfold cmpPl cmpI
  simp only [Prod.mk.injEq]
  by_cases h1 : a1 < b1
  · simp [h1]; omega
  · by_cases h2 : b1 < a1
    · simp [h1, h2]; omega
    · have h3 : a1 = b1 := by omega
      by_cases h4 : a2 < b2
      · simp [h3, h4]; omega
      · by_cases h5 : b2 < a2
        · simp [h3, h4, h5]; omega
        · simp [h3, h4, h5]; omega
def cmpQ (x y : Pl) : Int := cmpPl (toI x) (toI y)
instance plDec (a b : Pl) : Decidable (plLt a b) := by unfold plLt; infer_instance
theorem ltQ (x y : Pl) : Go.Proofs.ltOf cmpQ x y = decide (plLt x y) := by
  unfold Go.Proofs.ltOf cmpQ
  refine decide_eq_decide.2 ?_
  rw [cmpPl_lt]
  unfold plLt toI
  simp only []
  omega
theorem swoQ : Go.Sort.SWO (Go.Proofs.ltOf cmpQ) where
  irrefl x := by rw [ltQ]; unfold plLt; simp
  trans x y z h1 h2 := by rw [ltQ, decide_eq_true_iff] at *; unfold plLt at *; omega
  ntrans x y z h1 h2 := by rw [ltQ, decide_eq_false_iff_not] at *; unfold plLt at *; omega
theorem cmpLaysQ (blk off size : Nat) (w : World) : Go.Proofs.CmpLays Tryz.prog 90 #[] encPl 2 cmpQ blk off size w := fun m os dk _ x y => by
  have h := cmpPl_s (w0 := Go.Proofs.sortWorldK encPl 2 w blk off m dk os) (H := []) (toI x) (toI y) _ (Own.start _)
  refine h.mono fun e w' hh => ?_
  obtain ⟨v, H', he, hO, hv, hH⟩ := hh
  subst hv; subst hH
  exact ⟨he, own_grown hO⟩
open Go.Sort Go.Proofs in
theorem sortP_none (p : Option Addr) (cap : Nat) (w : World) :
    Calls Tryz.prog 89 #[.slice p 0 cap, .func (.func 90) #[] #[]] w fun e w' => e = .returned (.tuple #[]) ∧ w' = w := AnyF.slices_SortFunc_none laysSF p cap _ w
open Go.Sort Go.Proofs in
theorem sortP_s {w0 : World} {H : List (Nat × Obj)} (d : Sl) (zs : List Pl) (hok : SlOk d zs.length 2) (hsz : zs.length ≤ 1000000) :
    FSpec Tryz.prog w0 89 #[slV d zs.length, .func (.func 90) #[] #[]] (slH d (zs.flatMap encPl) 74 ++ H) (fun v H' => ∃ ks : List Pl, (v = .tuple #[] ∧ ks.Perm zs ∧ ks.Pairwise (fun a b => ¬ plLt b a)) ∧ H' = slH d (ks.flatMap encPl) 74 ++ H) := fun w hO => by
  cases d with
  | nil =>
    have : zs = [] := List.eq_nil_of_length_eq_zero hok
    subst this
    exact (sortP_none none 0 w).mono fun e w' ⟨he, hw⟩ => ⟨_, _, he, hw ▸ hO, [], ⟨rfl, List.Perm.refl _, List.Pairwise.nil⟩, by simp [slH]⟩
  | blk n cap junk =>
    simp only [slH, List.singleton_append, List.cons_append, List.nil_append, slQ, slC] at hO hsz ⊢
    have hcon := AnyQ.slices_SortFunc laysSF 2 Tryz.isAgg74 Tryz.sizeOf74 encPl (fun _ => rfl) (fun x v hv => by simp [encPl] at hv; rcases hv with rfl | rfl <;> rfl) cmpQ swoQ 90 #[] n 0 cap zs.toArray w Tryz.call90 (cmpLaysQ n 0 zs.toArray.size w) (own_holdsK (enc := encPl) (k := 2) (fun _ => rfl) hO) (own_lt hO) (by simp; omega)
    rw [List.size_toArray] at hcon
    change Calls Tryz.prog 89 _ _ _ at hcon
    refine hcon.mono fun e w' ⟨he, d', q, os, hp, hs, hw⟩ => ?_
    obtain ⟨h1, h2⟩ := sorted_list hp hs
    have hO' := own_rowK (enc := encPl) (k := 2) (l' := d'.toList) (fun _ => rfl) hO h1.length_eq.symm q os
    rw [show d'.toList.toArray = d' by simp] at hO'
    exact ⟨_, _, he, hw ▸ hO', d'.toList, ⟨rfl, h1, h2.imp fun {a b} h => by rw [ltQ, decide_eq_false_iff_not] at h; exact h⟩, rfl⟩
end Go.Proofs.YtkdolgnpkjihpaaGreatDoor
namespace Go.Proofs.YtkdolgnpkjihpaaGreatDoor
open Go.RowKit
set_option linter.unusedVariables false
set_option linter.unusedSimpArgs false
theorem find1_s {w0 : World} {H : List (Nat × Obj)} (m : Mc) (hm : McOk w0 H m) (hp : PMok m.pl) (p : Pl) (hp2 : p.2 < m.rows.length) (to b9 b7 : Nat) (h9 : Fnd H b9 (Cl [.int .i64 (to : Int)] 3)) (h7 : Fnd H b7 (Cl (encMc m) 29)) :
    FSpec Tryz.prog w0 81 #[.agg (encPl p).toArray, .pointer (some ⟨b9, 0, none⟩), .pointer (some ⟨b7, 0, none⟩)] H (Still (.bool (fndF to m.pl p)) H) := by
  refine fn_spec Tryz.func81 rfl Tryz.ntmps81 rfl ?_
  have hal : m.acc.length = m.rows.length := by have := hp.acc; rw [show m.pl.next.length = m.rows.length from List.length_map ..] at this; exact this
  refine j_seq (j_region (e_ (eff_box (T rfl) cs_) ?_ rfl))
  rintro _ _ ⟨n3, rfl, rfl⟩
  refine y_ (yl_assign ev_c) (jl_nil (q_then (j_seq (j_region (y_ (yl_fa0 (T rfl) fa74_0) (y_ (yl_load (T rfl) Tryz.isAgg3 (by first | exact c_o)) ?_ rfl) rfl))))) rfl
  refine y_ (yl_load (T rfl) Tryz.isAgg3 (by first | exact c_o | exact c_o (hf := fnd_t h9))) ?_ rfl
  refine y_ (yl_eql (T rfl) (T rfl)) (y_ (yl_move (T rfl)) ?_ rfl) rfl
  first | refine jl_if_d (s := 9) (at_f rfl) (fun c9 => ?_) (fun c9 => ?_) | refine jl_if (s := 9) (at_f rfl) (fun c9 => ?_) (fun c9 => ?_)
  · refine jl_y (yl_fa (T rfl) fa29_2) rfl (gd_y rfl rfl (at_f rfl)) (jl_y (yl_load (T rfl) Tryz.isAgg27 (by first | exact c_o | exact c_o (hf := fnd_t h7))) rfl (gd_y rfl rfl (at_f rfl)) ?_)
    refine jl_y (yl_fa (T rfl) fa74_1) rfl (gd_y rfl rfl (at_f rfl)) (jl_y (yl_load (T rfl) Tryz.isAgg3 (by first | exact c_o)) rfl (gd_y rfl rfl (at_f rfl)) ?_)
    refine jl_y (yl_ixQ (T rfl) (T rfl) Tryz.runUnderlying27 Tryz.sizeOf4 (by omega) (by first | exact rfl | exact hm.a3.b (i := p.2) (by omega))) rfl (gd_y rfl rfl (at_f rfl)) ?_
    refine jl_y (yl_load (T rfl) Tryz.isAgg4 (by first | exact c_o | exact cell1 ((hm.a3.mono sbt).cs (i := p.2) (by omega)))) rfl (gd_y rfl rfl (at_f rfl)) ?_
    refine y_ (yl_pick_t (T rfl) (T rfl)) (y_ (yl_assign (T rfl)) (jl_nil (q_then (j_ret (q_ret rfl (.tmp (at_f rfl) .nil) (⟨_, ⟨vbool ?_, rfl⟩, sbt⟩))))) rfl) rfl
    unfold fndF
    first | (rw [decide_eq_true (show p.1 = to by omega)]; rfl) | (rw [decide_eq_false (show ¬ p.1 = to by omega)]; rfl)
  · refine n_ft (n_ft (n_ft (n_ft (n_ft (n_ft (y_ (yl_pick_f (T rfl) ev_c) (y_ (yl_assign (T rfl)) (jl_nil (q_then (j_ret (q_ret rfl (.tmp (at_f rfl) .nil) (⟨_, ⟨vbool ?_, rfl⟩, sbt⟩))))) rfl) rfl) rfl rfl rfl rfl) rfl rfl rfl rfl) rfl rfl rfl rfl) rfl rfl rfl rfl) rfl rfl rfl rfl) rfl rfl rfl rfl
    unfold fndF
    first | (rw [decide_eq_true (show p.1 = to by omega)]; rfl) | (rw [decide_eq_false (show ¬ p.1 = to by omega)]; rfl)
theorem found1_s {w0 : World} {H0 : List (Nat × Obj)} (n : Nn) (m : Mc) (hm : McOk w0 H0 m) (hp : PMok m.pl) (to b9 b7 : Nat) (h9 : Fnd H0 b9 (Cl [.int .i64 (to : Int)] 3)) (h7 : Fnd H0 b7 (Cl (encMc m) 29)) :
    FoundS w0 H0 81 [.pointer (some ⟨b9, 0, none⟩), .pointer (some ⟨b7, 0, none⟩)] (PlOk n m.pl) (fndF to m.pl) (fun _ M => M = []) := by
  rintro p hpd q _ H hs _ rfl
  refine (find1_s (H := H) m (hm.mono hs) hp p (by have := hpd.2; rw [show m.pl.next.length = m.rows.length from List.length_map ..] at this; exact this) to b9 b7 (h9.mono hs) (h7.mono hs)).mono ?_
  rintro v H' ⟨rfl, rfl⟩
  exact ⟨[], ⟨rfl, rfl⟩, rfl⟩
def NPl (n : Nn) (m : PM) : Nat := n.nodes.length * m.next.length
theorem NPl_le {n : Nn} {m : PM} (h : NnOk n) (hp : PMok m) : NPl n m ≤ 2400 := Nat.mul_le_mul h.fewN hp.few
def p0F (n : Nn) (m : PM) (x : Nat) : Pl := (x, afterF m 0 (nmF n x))
theorem p0_ok {n : Nn} {m : PM} (hp : PMok m) {x : Nat} (hx : x < n.nodes.length) : PlOk n m (p0F n m x) := ⟨hx, after_lt hp hp.some' _⟩
def findF (n : Nn) (f : Flr) (m : PM) (x to : Nat) : List Nat × Int := if f.node = x then ([], 18) else (if (srF (movesF n f m) (fndF to m) (NPl n m) (p0F n m x)).2.1 then ((srF (movesF n f m) (fndF to m) (NPl n m) (p0F n m x)).1, 0) else ([], 18))
def metF (n : Nn) (f : Flr) (m : PM) (x : Nat) : List Pl := (srF (movesF n f m) (fun _ => false) (NPl n m) (p0F n m x)).2.2
theorem moves_s {w0 : World} {H : List (Nat × Obj)} (n : Nn) (f : Flr) (m : Mc) :
    FSpec Tryz.prog w0 80 #[.agg (encNn n).toArray, .agg (encFl f).toArray, .agg (encMc m).toArray] H (fun v H' => ∃ b3 b4 b5 : Nat, v = .func (.func 127) #[] #[.pointer (some ⟨b3, 0, none⟩), .pointer (some ⟨b4, 0, none⟩), .pointer (some ⟨b5, 0, none⟩)] ∧ H' = (b5, Cl (encMc m) 29) :: (b4, Cl (encFl f) 58) :: (b3, Cl (encNn n) 56) :: H) := by
  refine fn_spec Tryz.func80 rfl Tryz.ntmps80 rfl (j_seq (j_region (e_ (eff_box (T rfl) cs_) ?_ rfl)))
  rintro _ _ ⟨n3, rfl, rfl⟩
  refine e_ (eff_box (T rfl) cs_) ?_ rfl
  rintro _ _ ⟨n4, rfl, rfl⟩
  refine e_ (eff_box (T rfl) cs_) ?_ rfl
  rintro _ _ ⟨n5, rfl, rfl⟩
  refine y_ (yl_assign ev_c) (jl_nil (q_then (j_seq (j_region (y_ (yl_makeFunc (.cons (T rfl) (.cons (T rfl) (.cons (T rfl) .nil)))) (y_ (yl_assign (T rfl)) (jl_nil (q_then (j_ret (q_ret rfl (.tmp (at_f rfl) .nil) ?_)))) rfl) rfl))))) rfl
  exact ⟨_, ⟨_, _, _, rfl, rfl⟩, sbt⟩
theorem find_s {w0 : World} {H : List (Nat × Obj)} (n : Nn) (f : Flr) (m : Mc) (he : Env w0 H n f m) (ho : EnvOk n f m) (x : Nat) (hx : x < n.nodes.length) (to : Nat) :
    FSpec Tryz.prog w0 29 #[.agg (encNn n).toArray, .agg (encFl f).toArray, .agg (encMc m).toArray, .int .i64 (x : Int), .int .i64 (to : Int)] H (fun v H' => ∃ d : Sl, (v = .tuple #[slV d (findF n f m.pl x to).1.length, .int .i64 (findF n f m.pl x to).2] ∧ SlOk d (findF n f m.pl x to).1.length 1) ∧ H' = slH d ((findF n f m.pl x to).1.flatMap encU) 3 ++ H) := by
  refine fn_spec Tryz.func29 rfl Tryz.ntmps29 rfl (j_seq (j_region (e_ (eff_box (T rfl) cs_) ?_ rfl)))
  rintro _ _ ⟨n5, rfl, rfl⟩
  refine e_ (eff_box (T rfl) cs_) ?_ rfl
  rintro _ _ ⟨n6, rfl, rfl⟩
  refine e_ (eff_box (T rfl) cs_) ?_ rfl
  rintro _ _ ⟨n7, rfl, rfl⟩
  refine e_ (eff_box (T rfl) cs_) ?_ rfl
  rintro _ _ ⟨n9, rfl, rfl⟩
  refine y_ (yl_assign ev_c) (y_ (yl_assign ev_c) (jl_nil (q_then (j_seq (j_seq (j_region (y_ (yl_fa (T rfl) fa58_1) (y_ (yl_load (T rfl) Tryz.isAgg3 (by first | exact c_o)) ?_ rfl) rfl)))))) rfl) rfl
  refine y_ (yl_move (T rfl)) (y_ (yl_eql (T rfl) (T rfl)) (jl_nil (q_then ?_)) rfl) rfl
  first | refine j_cond_d (at_f rfl) (fun c17 => ?_) (fun c17 => ?_) | refine j_cond (at_f rfl) (fun c17 => ?_) (fun c17 => ?_)
  · have hff : findF n f m.pl x to = ([], 18) := if_pos c17
    refine j_seq (j_region (y_ (yl_assign ev_c) (y_ (yl_assign ev_c) (jl_nil (q_then (j_ret (q_then_ret (q_ret rfl (.tmp (at_f rfl) (.tmp (at_f rfl) .nil)) ?_))))) rfl) rfl))
    rw [hff]; exact ⟨_, ⟨.nil, ⟨rfl, rfl⟩, rfl⟩, sbt⟩
  · have hfn : findF n f m.pl x to = (if (srF (movesF n f m.pl) (fndF to m.pl) (NPl n m.pl) (p0F n m.pl x)).2.1 then ((srF (movesF n f m.pl) (fndF to m.pl) (NPl n m.pl) (p0F n m.pl x)).1, 0) else ([], 18)) := if_neg c17
    refine j_skip (q_then (j_seq (j_any 15 [(0, true), (1, true), (2, true), (3, true), (4, true), (5, true), (6, true), (8, true), (7, false), (9, false), (10, true), (11, true), (12, true), (13, true), (14, true)] _ mixd (by kernel_rfl) sb0 ?_)))
    refine o_y rfl (yl_loadA (T rfl) Tryz.isAgg56 Tryz.sizeOf56 rfl (by first | exact cs_o)) ?_ rfl gd_n
    refine o_y rfl (yl_loadA (T rfl) Tryz.isAgg29 Tryz.sizeOf29 rfl (by first | exact cs_o)) ?_ rfl gd_n
    refine o_y rfl (yl_move (T rfl)) (o_y rfl (yl_call (.cons (T rfl) (.cons (T rfl) (.cons (T rfl) .nil))) Tryz.call79 (fun H' hs => begin_s n m (he.n.mono (List.Sublist.trans sbt hs)) (he.m.mono (List.Sublist.trans sbt hs)) ho.om ho.sr ho.ln x hx)) (o_y rfl (yl_loadA (T rfl) Tryz.isAgg56 Tryz.sizeOf56 rfl (by first | exact cs_o)) ?_ rfl gd_n) rfl gd_n) rfl gd_n
    refine o_y rfl (yl_loadA (T rfl) Tryz.isAgg58 Tryz.sizeOf58 rfl (by first | exact cs_o)) ?_ rfl gd_n
    refine o_y rfl (yl_loadA (T rfl) Tryz.isAgg29 Tryz.sizeOf29 rfl (by first | exact cs_o)) ?_ rfl gd_n
    refine o_y rfl (yl_makeFunc (.cons (T rfl) (.cons (T rfl) .nil))) (o_e rfl (eff_call (.cons (T rfl) (.cons (T rfl) (.cons (T rfl) .nil))) Tryz.call80 (moves_s n f m)) ?_ rfl gd_n) rfl gd_n
    rintro _ _ ⟨b3, b4, b5, rfl, rfl⟩
    refine ⟨sbt, ?_⟩
    refine o_e rfl (eff_call (.cons (T rfl) (.cons (T rfl) (.cons (T rfl) .nil))) Tryz.call78 ((searchI_s (H0 := _) 127 81 [.pointer (some ⟨b3, 0, none⟩), .pointer (some ⟨b4, 0, none⟩), .pointer (some ⟨b5, 0, none⟩)] [.pointer (some ⟨n9, 0, none⟩), .pointer (some ⟨n7, 0, none⟩)] (PlOk n m.pl) (movesF n f m.pl) (fndF to m.pl) (fun _ M => M = []) (NPl n m.pl) (p0F n m.pl x) [] Tryz.call127 Tryz.call81 (moves1_s n f m (he.mono sbt) ho b3 b4 b5 (by repeat (first | exact fnd_h | refine fnd_t ?_ | refine fnd_a ?_)) (by repeat (first | exact fnd_h | refine fnd_t ?_ | refine fnd_a ?_)) (by repeat (first | exact fnd_h | refine fnd_t ?_ | refine fnd_a ?_))) (found1_s n m (he.m.mono sbt) ho.om to n9 n7 (by repeat (first | exact fnd_h | refine fnd_t ?_ | refine fnd_a ?_)) (by repeat (first | exact fnd_h | refine fnd_t ?_ | refine fnd_a ?_))) (fun p hpp => moves_ok ho.on ho.om p hpp) (pl_few n m.pl) (by have := NPl_le ho.on ho.om; omega) (p0_ok ho.om hx) rfl (List.Sublist.refl _)))) ?_ rfl gd_n
    rintro _ _ ⟨⟨d, _⟩, ⟨rfl, hd, rfl⟩, rfl⟩
    refine ⟨sbt, (o_y rfl (yl_move (T rfl)) (o_y rfl (yl_extract (T rfl) rfl) (o_y rfl (yl_extract (T rfl) rfl) (o_y rfl (yl_assign (T rfl)) (o_y rfl (yl_assign (T rfl)) (jo_nil rfl (jl_nil (q_then (j_keep [(12, _), (13, _)] ⟨at_f rfl, at_f rfl, trivial⟩ (j_seq (j_seq (j_region (y_ (yl_move (T rfl)) ?_ rfl)))))))) rfl gd_n) rfl gd_n) rfl gd_n) rfl gd_n) rfl gd_n)⟩
    first | refine jl_y (yl_not_d (T rfl)) rfl gd_n ?_ | refine jl_y (yl_not (T rfl)) rfl gd_n ?_
    refine jl_nil (q_then ?_)
    first | refine j_cond_d (at_f rfl) (fun c32 => ?_) (fun c32 => ?_) | refine j_cond (at_f rfl) (fun c32 => ?_) (fun c32 => ?_)
    · have hff : findF n f m.pl x to = ([], 18) := by rw [hfn, if_neg (by intro h; rw [h] at c32; cases c32)]
      refine j_seq (j_region (y_ (yl_assign ev_c) (y_ (yl_assign ev_c) (jl_nil (q_then (j_ret (q_then_ret (q_ret rfl (.tmp (at_f rfl) (.tmp (at_f rfl) .nil)) ?_))))) rfl) rfl))
      rw [hff]; exact ⟨_, ⟨.nil, ⟨rfl, rfl⟩, rfl⟩, sbt⟩
    · have hff : findF n f m.pl x to = ((srF (movesF n f m.pl) (fndF to m.pl) (NPl n m.pl) (p0F n m.pl x)).1, 0) := by rw [hfn, if_pos (by simpa using c32)]
      refine j_skip (q_then (j_seq (j_region (y_ (yl_move (T rfl)) (y_ (yl_assign (T rfl)) (y_ (yl_assign ev_c) (jl_nil (q_then (j_ret (q_ret rfl (.tmp (at_f rfl) (.tmp (at_f rfl) .nil)) ?_)))) rfl) rfl) rfl))))
      rw [hff]; exact ⟨_, ⟨d, ⟨rfl, hd⟩, rfl⟩, sbt⟩
end Go.Proofs.YtkdolgnpkjihpaaGreatDoor
namespace Go.Proofs.YtkdolgnpkjihpaaGreatDoor
open Go.RowKit
set_option linter.unusedVariables false
set_option linter.unusedSimpArgs false
def GR (nb : Nat) (q : List Pl) (M : List (Nat × Obj)) : Prop := ∃ d, SlOk d q.length 2 ∧ M = (nb, Cl [slV d q.length] 59) :: slH d (q.flatMap encPl) 74
theorem reached1_s {w0 : World} {H : List (Nat × Obj)} (nb : Nat) (q : List Pl) (p : Pl) (d : Sl) (hd : SlOk d q.length 2) (hq : q.length ≤ 50000) :
    FSpec Tryz.prog w0 88 #[.agg (encPl p).toArray, .pointer (some ⟨nb, 0, none⟩)] ((nb, Cl [slV d q.length] 59) :: (slH d (q.flatMap encPl) 74 ++ H)) (fun v H' => ∃ e, (v = .bool false ∧ SlOk e (q ++ [p]).length 2) ∧ H' = (nb, Cl [slV e (q ++ [p]).length] 59) :: (slH e ((q ++ [p]).flatMap encPl) 74 ++ H)) := by
  refine fn_spec Tryz.func88 rfl Tryz.ntmps88 rfl (j_seq (j_region (e_ (eff_box (T rfl) cs_) ?_ rfl)))
  rintro _ _ ⟨n2, rfl, rfl⟩
  refine y_ (yl_assign ev_c) (jl_nil (q_then (j_seq (j_region (y_ (yl_load (T rfl) Tryz.isAgg59 (by first | exact c_o)) ?_ rfl))))) rfl
  refine y_ (yl_loadA (T rfl) Tryz.isAgg74 Tryz.sizeOf74 rfl (by first | exact cs_o)) ?_ rfl
  refine e_ (eff_bslice (.cons (T rfl) .nil) (bs59_1_0 _ _)) ?_ rfl
  rintro _ _ ⟨n6, rfl, rfl⟩
  refine e_ (eff_app1_at (p) (by' := 16) (by repeat (first | exact LocL.h | apply LocL.t | apply LocL.a)) (T rfl) (T rfl) Tryz.runUnderlying59 Tryz.runUnderlying59 Tryz.sizeOf74 Tryz.typeInfo74 rfl Tryz.zeroValue74 rfl (fun _ => rfl) rfl hd (by decide) (by omega)) ?_ rfl
  rintro _ _ ⟨d', rfl, hokd, rfl⟩
  first | refine jl_e (eff_sW (T rfl) (T rfl) Tryz.sizeOf59) rfl gd_n ?_ | refine jl_e (eff_s1 (T rfl) (T rfl) rfl Tryz.sizeOf59) rfl gd_n ?_ | refine jl_e (eff_s1r (T rfl) (T rfl) rfl Tryz.sizeOf59) rfl gd_n ?_
  rintro _ _ ⟨rfl, rfl⟩
  refine jl_nil (q_then (j_seq (j_region (y_ (yl_assign ev_c) (jl_nil (q_then (j_ret (q_ret rfl (.tmp (at_f rfl) .nil) (⟨_, ⟨d', ⟨rfl, by simpa using hokd⟩, rfl⟩, ?_⟩))))) rfl))))
  simp only [List.length_append, List.length_cons, List.length_nil, Nat.zero_add]
  exact sbt
theorem foundR_s {w0 : World} {H0 : List (Nat × Obj)} (n : Nn) (m : PM) (nb : Nat) : FoundS w0 H0 88 [.pointer (some ⟨nb, 0, none⟩)] (PlOk n m) (fun _ => false) (GR nb) := by
  rintro p hpd q _ H hs hq ⟨d, hd, rfl⟩
  refine (reached1_s (H := H) nb q p d hd hq).mono ?_
  rintro v H' ⟨e, ⟨rfl, he⟩, rfl⟩
  exact ⟨_, ⟨rfl, e, he, rfl⟩, rfl⟩
theorem met_len {n : Nn} (hok : NnOk n) {f : Flr} {m : PM} (hp : PMok m) {x : Nat} (hx : x < n.nodes.length) : (metF n f m x).length ≤ 2400 := by
  obtain ⟨h1, h2⟩ := srF_met (fnd := fun _ => false) (moves_ok hok (f := f) hp) (p0_ok hp hx) (NPl n m)
  exact Nat.le_trans (pl_few n m _ h1 h2) (NPl_le hok hp)
def Reach (n : Nn) (f : Flr) (m : PM) (x : Nat) (ks : List Pl) : Prop := ks.Perm (if f.node = x then [] else metF n f m x) ∧ ks.Pairwise (fun a b => ¬ plLt b a)
theorem loc4 {a b c d : Nat × Obj} {X : List (Nat × Obj)} : LocL (a :: b :: c :: d :: X) [d] (a :: b :: c :: X) (fun M' => a :: b :: c :: (M' ++ X)) := .t (.t (.t (show LocL ([d] ++ X) [d] X _ from .h)))
theorem reached_s {w0 : World} {H : List (Nat × Obj)} (n : Nn) (f : Flr) (m : Mc) (he : Env w0 H n f m) (ho : EnvOk n f m) (x : Nat) (hx : x < n.nodes.length) :
    FSpec Tryz.prog w0 35 #[.agg (encNn n).toArray, .agg (encFl f).toArray, .agg (encMc m).toArray, .int .i64 (x : Int)] H (fun v H' => ∃ y : Sl × List Pl, (v = slV y.1 y.2.length ∧ SlOk y.1 y.2.length 2 ∧ Reach n f m.pl x y.2) ∧ H' = slH y.1 (y.2.flatMap encPl) 74 ++ H) := by
  refine fn_spec Tryz.func35 rfl Tryz.ntmps35 rfl (j_seq (j_region (e_ (eff_box (T rfl) cs_) ?_ rfl)))
  rintro _ _ ⟨n4, rfl, rfl⟩
  refine e_ (eff_box (T rfl) cs_) ?_ rfl
  rintro _ _ ⟨n5, rfl, rfl⟩
  refine e_ (eff_box (T rfl) cs_) ?_ rfl
  rintro _ _ ⟨n6, rfl, rfl⟩
  refine y_ (yl_assign ev_c) (jl_nil (q_then (j_seq (j_seq (j_region (y_ (yl_fa (T rfl) fa58_1) (y_ (yl_load (T rfl) Tryz.isAgg3 (by first | exact c_o)) ?_ rfl) rfl)))))) rfl
  refine y_ (yl_move (T rfl)) (y_ (yl_eql (T rfl) (T rfl)) (jl_nil (q_then ?_)) rfl) rfl
  first | refine j_cond_d (at_f rfl) (fun c13 => ?_) (fun c13 => ?_) | refine j_cond (at_f rfl) (fun c13 => ?_) (fun c13 => ?_)
  · refine j_seq (j_region (y_ (yl_assign ev_c) (jl_nil (q_then (j_ret (q_then_ret (q_ret rfl (.tmp (at_f rfl) .nil) ?_))))) rfl))
    exact ⟨_, ⟨(.nil, []), ⟨rfl, rfl, by unfold Reach; rw [if_pos c13]; exact ⟨List.Perm.refl _, List.Pairwise.nil⟩⟩, rfl⟩, sbt⟩
  · refine j_skip (q_then (j_seq (j_region (e_ (eff_alloc Tryz.zeroValue59 cs_) ?_ rfl))))
    rintro _ _ ⟨n9, rfl, rfl⟩
    refine jl_nil (q_then (j_seq (j_any 9 [(0, true), (1, true), (2, true), (3, true), (4, true), (5, true), (6, true), (8, true), (7, false)] _ mixd (by kernel_rfl) sb0 ?_)))
    refine o_y rfl (yl_loadA (T rfl) Tryz.isAgg56 Tryz.sizeOf56 rfl (by first | exact cs_o)) ?_ rfl gd_n
    refine o_y rfl (yl_loadA (T rfl) Tryz.isAgg29 Tryz.sizeOf29 rfl (by first | exact cs_o)) ?_ rfl gd_n
    refine o_y rfl (yl_move (T rfl)) (o_y rfl (yl_call (.cons (T rfl) (.cons (T rfl) (.cons (T rfl) .nil))) Tryz.call79 (fun H' hs => begin_s n m (he.n.mono (List.Sublist.trans sbt hs)) (he.m.mono (List.Sublist.trans sbt hs)) ho.om ho.sr ho.ln x hx)) (o_y rfl (yl_loadA (T rfl) Tryz.isAgg56 Tryz.sizeOf56 rfl (by first | exact cs_o)) ?_ rfl gd_n) rfl gd_n) rfl gd_n
    refine o_y rfl (yl_loadA (T rfl) Tryz.isAgg58 Tryz.sizeOf58 rfl (by first | exact cs_o)) ?_ rfl gd_n
    refine o_y rfl (yl_loadA (T rfl) Tryz.isAgg29 Tryz.sizeOf29 rfl (by first | exact cs_o)) ?_ rfl gd_n
    refine o_y rfl (yl_makeFunc (.cons (T rfl) .nil)) (o_e rfl (eff_call (.cons (T rfl) (.cons (T rfl) (.cons (T rfl) .nil))) Tryz.call80 (moves_s n f m)) ?_ rfl gd_n) rfl gd_n
    rintro _ _ ⟨b3, b4, b5, rfl, rfl⟩
    refine ⟨sbt, (jo_nil rfl ?_)⟩
    refine e_ (eff_call (.cons (T rfl) (.cons (T rfl) (.cons (T rfl) .nil))) Tryz.call78 (spec_atF [(n9, Cl [.slice none 0 0] 59)] loc4 (searchI_at (H0 := _) 127 88 [.pointer (some ⟨b3, 0, none⟩), .pointer (some ⟨b4, 0, none⟩), .pointer (some ⟨b5, 0, none⟩)] [.pointer (some ⟨n9, 0, none⟩)] (PlOk n m.pl) (movesF n f m.pl) (fun _ => false) (GR n9) (NPl n m.pl) (p0F n m.pl x) [(n9, Cl [.slice none 0 0] 59)] Tryz.call127 Tryz.call88 (moves1_s n f m (he.mono sbt) ho b3 b4 b5 (by repeat (first | exact fnd_h | refine fnd_t ?_ | refine fnd_a ?_)) (by repeat (first | exact fnd_h | refine fnd_t ?_ | refine fnd_a ?_)) (by repeat (first | exact fnd_h | refine fnd_t ?_ | refine fnd_a ?_))) (foundR_s n m.pl n9) (fun p hpp => moves_ok ho.on ho.om p hpp) (pl_few n m.pl) (by have := NPl_le ho.on ho.om; omega) (p0_ok ho.om hx) ⟨.nil, rfl, rfl⟩ (List.Sublist.refl _)))) ?_ rfl
    rintro _ _ ⟨⟨d1, _⟩, ⟨rfl, hd1, ⟨d, hd, rfl⟩⟩, rfl⟩
    simp only [List.append_assoc, List.cons_append]
    refine jl_nil (q_then (j_seq (j_region (y_ (yl_load (T rfl) Tryz.isAgg59 (by first | exact c_o)) ?_ rfl))))
    refine e_ (eff_call (.cons (T rfl) (.cons ev_f .nil)) Tryz.call89 (spec_atF (slH d ((metF n f m.pl x).flatMap encPl) 74) (by repeat (first | exact LocL.h | apply LocL.t | apply LocL.a)) (sortP_s d (metF n f m.pl x) hd (by have := met_len ho.on (f := f) ho.om hx; omega)))) ?_ rfl
    rintro _ _ ⟨ks, ⟨rfl, hpm, hpw⟩, rfl⟩
    refine jl_nil (q_then (j_seq (j_region (y_ (yl_load (T rfl) Tryz.isAgg59 (by first | exact c_o)) ?_ rfl))))
    refine y_ (yl_assign (T rfl)) (jl_nil (q_then (j_ret (q_ret rfl (.tmp (at_f rfl) .nil) ?_)))) rfl
    have hll := hpm.length_eq
    refine ⟨_, ⟨(d, ks), ⟨by simp only [hll]; rfl, by simp only [hll]; exact hd, by unfold Reach; rw [if_neg c13]; exact ⟨hpm, hpw⟩⟩, rfl⟩, sbt⟩
end Go.Proofs.YtkdolgnpkjihpaaGreatDoor
namespace Go.Proofs.YtkdolgnpkjihpaaGreatDoor
open Go.RowKit
set_option linter.unusedVariables false
set_option linter.unusedSimpArgs false
theorem cell_e {w0 : World} {H : List (Nat × Obj)} {p : Addr} {v v' : Value} (h : v = v') (c : Cell w0 H p v) : Cell w0 H p v' := h ▸ c
theorem cells_pl {w0 : World} {H : List (Nat × Obj)} {b o : Nat} {a : Int × Int} {p : Pl} (h : a = toI p) (c : Cells w0 H b o (encPI a)) : Cells w0 H b o (encPl p) := by
  subst h; exact c
def namesF (n : Nn) (x : Nat) (ls : List Int) : List ByteArray := nmF n x :: ls.map fun l => nmF n (gd n.links l.toNat).dst
theorem namesF_take {n : Nn} {x : Nat} {ls : List Int} {i : Nat} (h : i < ls.length) : namesF n x (ls.take (i + 1)) = namesF n x (ls.take i) ++ [nmF n (gd n.links (gd ls i).toNat).dst] := by
  unfold namesF; rw [List.take_add_one, gd_get h, List.map_append]; rfl
theorem namesF_len (n : Nn) (x : Nat) (ls : List Int) : (namesF n x ls).length = ls.length + 1 := by simp [namesF]
def upAll (n : Nn) (f : Flr) (ls : List Int) : Bool := ls.all fun l => upF n f l.toNat
theorem upAll_take {n : Nn} {f : Flr} {ls : List Int} {i : Nat} (h : i < ls.length) : upAll n f (ls.take (i + 1)) = (upAll n f (ls.take i) && upF n f (gd ls i).toNat) := by
  unfold upAll; rw [List.take_add_one, gd_get h, List.all_append]; simp
theorem upAll_no {n : Nn} {f : Flr} {ls : List Int} {i : Nat} (h : i < ls.length) (hu : upF n f (gd ls i).toNat = false) : upAll n f ls = false := by
  unfold upAll
  rw [List.all_eq_false]
  exact ⟨gd ls i, gd_mem h, by rw [hu]; decide⟩
def holdsF (n : Nn) (f : Flr) (e : Re) (x to : Nat) (ls : List Int) : Bool := decide (wkF n (x : Int) ls = some (to : Int)) && (decide (¬ f.node = x) && (upAll n f ls && matchF e (namesF n x ls)))
theorem wkF_valid {n : Nn} : ∀ {ls : List Int} {x y : Int}, wkF n x ls = some y → ∀ i, i < ls.length → 0 ≤ gd ls i ∧ gd ls i < n.links.length
  | [], x, y, _, i, hi => absurd hi (Nat.not_lt_zero _)
  | l :: ls, x, y, h, i, hi => by
    rw [wkF] at h
    split at h
    · rename_i hc
      cases i with
      | zero => exact ⟨hc.1, hc.2.1⟩
      | succ i => exact wkF_valid h i (by simpa using hi)
    · cases h
theorem within_s {w0 : World} {H : List (Nat × Obj)} (a lo hi : Int) :
    FSpec Tryz.prog w0 129 #[.int .i64 a, .int .i64 lo, .int .i64 hi] H (Still (.bool (decide (lo ≤ a) && decide (a ≤ hi))) H) := by
  refine fn_spec Tryz.func129 rfl Tryz.ntmps129 rfl (j_seq (j_region (y_ (yl_assign ev_c) (jl_nil (q_then (j_seq (j_region (y_ (yl_move (T rfl)) (y_ (yl_move (T rfl)) (y_ (yl_leq (T rfl) (T rfl)) (y_ (yl_move (T rfl)) ?_ rfl) rfl) rfl) rfl))))) rfl)))
  first | refine jl_if_d (s := 10) (at_f rfl) (fun c10 => ?_) (fun c10 => ?_) | refine jl_if (s := 10) (at_f rfl) (fun c10 => ?_) (fun c10 => ?_)
  · refine jl_y (yl_move (T rfl)) rfl (gd_y rfl rfl (at_f rfl)) (jl_y (yl_move (T rfl)) rfl (gd_y rfl rfl (at_f rfl)) (jl_y (yl_leq (T rfl) (T rfl)) rfl (gd_y rfl rfl (at_f rfl)) (y_ (yl_pick_t (T rfl) (T rfl)) (y_ (yl_assign (T rfl)) (jl_nil (q_then (j_ret (q_ret rfl (.tmp (at_f rfl) .nil) (⟨_, ⟨vbool ?_, rfl⟩, sbt⟩))))) rfl) rfl)))
    first | (rw [decide_eq_true (by omega : lo ≤ a)]; rfl) | (rw [decide_eq_false (by omega : ¬ lo ≤ a)]; rfl)
  · refine n_ft (n_ft (n_ft (y_ (yl_pick_f (T rfl) ev_c) (y_ (yl_assign (T rfl)) (jl_nil (q_then (j_ret (q_ret rfl (.tmp (at_f rfl) .nil) (⟨_, ⟨vbool ?_, rfl⟩, sbt⟩))))) rfl) rfl) rfl rfl rfl rfl) rfl rfl rfl rfl) rfl rfl rfl rfl
    first | (rw [decide_eq_true (by omega : lo ≤ a)]; rfl) | (rw [decide_eq_false (by omega : ¬ lo ≤ a)]; rfl)
theorem gwalk_s {w0 : World} {H : List (Nat × Obj)} (n : Nn) (hn : NetR w0 H n) (hok : NnOk n) (x : Int) (ls : List Int) (q : Option Addr) (c : Nat) (hA : Arr w0 H q 1 encI ls) (hlen : ls.length ≤ 9223372036854775807) :
    FSpec Tryz.prog w0 83 #[.agg (encNn n).toArray, .int .i64 x, .slice q ls.length c] H (Still (.tuple #[.int .i64 ((wkF n x ls).getD (-1)), .bool (wkF n x ls).isSome]) H) := by
  refine fn_spec Tryz.func83 rfl Tryz.ntmps83 rfl ?_
  have hfl := hok.fewL
  refine j_seq (j_region (e_ (eff_box (T rfl) cs_) ?_ rfl))
  rintro _ _ ⟨n3, rfl, rfl⟩
  refine y_ (yl_assign ev_c) (y_ (yl_assign ev_c) (jl_nil (q_then (j_seq (j_seq (j_region (y_ (yl_move (T rfl)) (y_ (yl_len (T rfl) Tryz.runUnderlying42) (y_ (yl_move ev_c) (jl_nil (q_then (j_block ?_))) rfl) rfl) rfl)))))) rfl) rfl
  refine j_loopH (X := Nat × Int) (V := fun ⟨i, y⟩ => [(12, .int .i64 (i : Nat)), (1, .int .i64 y)]) (C := [(3, _), (10, _), (11, _)]) (φ := fun ⟨i, y⟩ => i ≤ ls.length ∧ wkF n x (ls.take i) = some y) (μ := fun ⟨i, y⟩ => ls.length - i) (x0 := (0, x)) ?_ ⟨at_f rfl, at_f rfl, at_f rfl, trivial⟩ ⟨(by first | exact at_f rfl | (refine at_e (at_f rfl) (vint ?_); omega) | (refine at_e (at_f rfl) ?_; simp; done)), (by first | exact at_f rfl | (refine at_e (at_f rfl) (vint ?_); omega) | (refine at_e (at_f rfl) ?_; simp; done)), trivial⟩ ?_
  · exact ⟨Nat.zero_le _, rfl⟩
  rintro ⟨i, y⟩ ⟨hi, hw⟩
  refine j_seq (j_region (y_ (yl_lss (T rfl) (T rfl)) (jl_nil (q_then (j_seq ?_))) rfl))
  first | refine j_cond_d (at_f rfl) (fun c13 => ?_) (fun c13 => ?_) | refine j_cond (at_f rfl) (fun c13 => ?_) (fun c13 => ?_)
  · have hwt := wkF_take n x (ls := ls) (i := i) (by omega)
    rw [hw] at hwt
    simp only [Option.bind_some] at hwt
    refine j_skip (q_then (j_seq (j_block (j_seq (j_region (y_ (yl_ixQ (T rfl) (T rfl) Tryz.runUnderlying42 Tryz.sizeOf3 (by omega) (by first | exact rfl | exact hA.b (i := i) (by omega) | exact hn.links.b (i := (gd ls i).toNat) (by omega))) ?_ rfl))))))
    refine y_ (yl_load (T rfl) Tryz.isAgg3 (by first | exact c_o | exact cell1 ((hA.mono sbt).cs (i := i) (by omega)))) ?_ rfl
    refine y_ (yl_assign (T rfl)) (jl_nil (q_then (j_seq (j_seq (j_region (y_ (yl_move (T rfl)) (y_ (yl_fa (T rfl) fa56_1) (y_ (yl_load (T rfl) Tryz.isAgg53 (by first | exact c_o)) ?_ rfl) rfl) rfl)))))) rfl
    refine y_ (yl_len (T rfl) Tryz.runUnderlying53) (y_ (yl_sub (T rfl) ev_c (by omega)) ?_ rfl) rfl
    refine y_ (yl_call (.cons (T rfl) (.cons ev_c (.cons (T rfl) .nil))) Tryz.call129 (fun H' hs => within_s _ _ _)) ?_ rfl
    first | refine jl_y (yl_not_d (T rfl)) rfl gd_n ?_ | refine jl_y (yl_not (T rfl)) rfl gd_n ?_
    refine y_ (yl_move (T rfl)) ?_ rfl
    first | refine jl_if_d (s := 23) (at_f rfl) (fun c23 => ?_) (fun c23 => ?_) | refine jl_if (s := 23) (at_f rfl) (fun c23 => ?_) (fun c23 => ?_)
    · have hno2 : wkF n x ls = none := wkF_none n x (i := i + 1) (by rw [hwt, if_neg (by intro h; simp at c23; omega)])
      refine n_tf (n_tf (n_tf (n_tf (n_tf (n_tf (n_tf (n_tf (y_ (yl_pick_t (T rfl) ev_c) (jl_nil (q_then (j_keep [(3, _), (9, _), (10, _), (11, _), (12, _), (32, _)] ⟨at_f rfl, at_f rfl, at_f rfl, at_f rfl, at_f rfl, at_f rfl, trivial⟩ ?_))) rfl) rfl rfl rfl rfl) rfl rfl rfl rfl) rfl rfl rfl rfl) rfl rfl rfl rfl) rfl rfl rfl rfl) rfl rfl rfl rfl) rfl rfl rfl rfl) rfl rfl rfl rfl
      first | refine j_cond_t (at_f rfl) ?_ | refine j_cond_t (at_e (at_f rfl) (vbool (decide_eq_true c32))) ?_
      refine j_seq (j_region (y_ (yl_assign ev_c) (y_ (yl_assign ev_c) (jl_nil (q_then (j_ret (q_then_ret (q_block_ret (q_then_ret (q_loop_ret (q_block_ret (q_then_ret (q_ret rfl (.tmp (at_f rfl) (.tmp (at_f rfl) .nil)) ?_)))))))))) rfl) rfl))
      rw [hno2]; exact ⟨_, ⟨rfl, rfl⟩, sbt⟩
    · have hin : 0 ≤ gd ls i ∧ gd ls i < n.links.length := by simp at c23; omega
      refine jl_y (yl_fa (T rfl) fa56_1) rfl (gd_y rfl rfl (at_f rfl)) (jl_y (yl_load (T rfl) Tryz.isAgg53 (by first | exact c_o)) rfl (gd_y rfl rfl (at_f rfl)) ?_)
      refine jl_y (yl_move (T rfl)) rfl (gd_y rfl rfl (at_f rfl)) (jl_y (yl_ixR (T rfl) (T rfl) Tryz.runUnderlying53 Tryz.sizeOf71 (by omega) (by first | exact rfl | exact hA.b (i := i) (by omega) | exact hn.links.b (i := (gd ls i).toNat) (by omega))) rfl (gd_y rfl rfl (at_f rfl)) ?_)
      refine jl_y (yl_fa0 (T rfl) fa71_0) rfl (gd_y rfl rfl (at_f rfl)) (jl_y (yl_load (T rfl) Tryz.isAgg3 (by first | exact c_o | exact (hn.links.mono sbt).f0 (i := (gd ls i).toNat) (by omega) rfl)) rfl (gd_y rfl rfl (at_f rfl)) ?_)
      refine jl_y (yl_move (T rfl)) rfl (gd_y rfl rfl (at_f rfl)) (jl_y (yl_neq (T rfl) (T rfl)) rfl (gd_y rfl rfl (at_f rfl)) (y_ (yl_pick_f (T rfl) (T rfl)) (jl_nil (q_then (j_keep [(3, _), (9, _), (10, _), (11, _), (12, _), (32, _)] ⟨at_f rfl, at_f rfl, at_f rfl, at_f rfl, at_f rfl, at_f rfl, trivial⟩ ?_))) rfl))
      first | refine j_cond_d (at_f rfl) (fun c32 => ?_) (fun c32 => ?_) | refine j_cond (at_f rfl) (fun c32 => ?_) (fun c32 => ?_)
      · have hno2 : wkF n x ls = none := wkF_none n x (i := i + 1) (by rw [hwt, if_neg (by intro h; omega)])
        refine j_seq (j_region (y_ (yl_assign ev_c) (y_ (yl_assign ev_c) (jl_nil (q_then (j_ret (q_then_ret (q_block_ret (q_then_ret (q_loop_ret (q_block_ret (q_then_ret (q_ret rfl (.tmp (at_f rfl) (.tmp (at_f rfl) .nil)) ?_)))))))))) rfl) rfl))
        rw [hno2]; exact ⟨_, ⟨rfl, rfl⟩, sbt⟩
      · have hyes : wkF n x (ls.take (i + 1)) = some ((gd n.links (gd ls i).toNat).dst : Int) := by rw [hwt, if_pos (by omega)]
        refine j_skip (q_then (j_region (y_ (yl_fa (T rfl) fa56_1) (y_ (yl_load (T rfl) Tryz.isAgg53 (by first | exact c_o)) ?_ rfl) rfl)))
        refine y_ (yl_move (T rfl)) (y_ (yl_ixR (T rfl) (T rfl) Tryz.runUnderlying53 Tryz.sizeOf71 (by omega) (by first | exact rfl | exact hA.b (i := i) (by omega) | exact hn.links.b (i := (gd ls i).toNat) (by omega))) ?_ rfl) rfl
        refine y_ (yl_fa (T rfl) fa71_1) (y_ (yl_load (T rfl) Tryz.isAgg3 (by first | exact c_o | exact (hn.links.mono sbt).f (i := (gd ls i).toNat) (by omega) rfl)) ?_ rfl) rfl
        refine y_ (yl_assign (T rfl)) (jl_nil (q_block (q_then (j_region (y_ (yl_add (T rfl) ev_c (by omega)) ?_ rfl))))) rfl
        refine y_ (yl_move (T rfl)) (jl_nil ?_) rfl
        refine q_loopC ((i + 1, ((gd n.links (gd ls i).toNat).dst : Int))) ?_ ?_ ⟨(by first | exact at_f rfl | (refine at_e (at_f rfl) (vint ?_); omega) | (refine at_e (at_f rfl) ?_; simp; done)), (by first | exact at_f rfl | (refine at_e (at_f rfl) (vint ?_); omega) | (refine at_e (at_f rfl) ?_; simp; done)), trivial⟩ ⟨at_f rfl, at_f rfl, at_f rfl, trivial⟩ ?_
        · exact ⟨by omega, hyes⟩
        · first | omega | (simp only []; omega)
        · exact sbt
  · refine j_exit (q_then_exit (q_loop_exit (q_block_hit (q_then (j_seq (j_region (y_ (yl_move (T rfl)) (y_ (yl_assign (T rfl)) (y_ (yl_assign ev_c) (jl_nil (q_then (j_ret (q_ret rfl (.tmp (at_f rfl) (.tmp (at_f rfl) .nil)) ?_)))) rfl) rfl) rfl)))))))
    have hi2 : i = ls.length := by omega
    rw [hi2, List.take_length] at hw
    rw [hw]; exact ⟨_, ⟨rfl, rfl⟩, sbt⟩
theorem holds_s {w0 : World} {H : List (Nat × Obj)} (n : Nn) (hn : NetR w0 H n) (hok : NnOk n) (f : Flr) (hf : Arr w0 H f.q 1 encI f.links) (hfl : f.links.length ≤ 4611686018427387903) (m : Rxm) (e : Re) (hI : Is m e) (hM : RxM w0 H m) (hl : e.lv ≤ 64) (x to : Nat) (hx : x < n.nodes.length) (ls : List Int) (q : Option Addr) (c : Nat) (hA : Arr w0 H q 1 encI ls) (hlen : ls.length ≤ 1000000) :
    FSpec Tryz.prog w0 32 #[.agg (encNn n).toArray, .agg (encFl f).toArray, .agg (encRx m).toArray, .int .i64 (x : Int), .int .i64 (to : Int), .slice q ls.length c] H (Still (.bool (holdsF n f e x to ls)) H) := by
  refine fn_spec Tryz.func32 rfl Tryz.ntmps32 rfl (j_seq (j_region (e_ (eff_box (T rfl) cs_) ?_ rfl)))
  rintro _ _ ⟨n6, rfl, rfl⟩
  refine e_ (eff_box (T rfl) cs_) ?_ rfl
  rintro _ _ ⟨n7, rfl, rfl⟩
  refine e_ (eff_box (T rfl) cs_) ?_ rfl
  rintro _ _ ⟨n8, rfl, rfl⟩
  refine y_ (yl_assign ev_c) (jl_nil (q_then (j_seq (j_seq (j_region (y_ (yl_loadA (T rfl) Tryz.isAgg56 Tryz.sizeOf56 rfl (by first | exact cs_o)) ?_ rfl)))))) rfl
  refine y_ (yl_move (T rfl)) (y_ (yl_move (T rfl)) (y_ (yl_call (.cons (T rfl) (.cons (T rfl) (.cons (T rfl) .nil))) Tryz.call83 (fun H' hs => gwalk_s n (hn.mono (List.Sublist.trans sbt hs)) hok (x : Int) ls q c (hA.mono (List.Sublist.trans sbt hs)) (by omega))) ?_ rfl) rfl) rfl
  refine y_ (yl_move (T rfl)) (y_ (yl_extract (T rfl) rfl) (y_ (yl_extract (T rfl) rfl) (y_ (yl_assign (T rfl)) (y_ (yl_assign (T rfl)) (jl_nil (q_then (j_seq (j_region (y_ (yl_move (T rfl)) ?_ rfl))))) rfl) rfl) rfl) rfl) rfl
  first | refine jl_y (yl_not_d (T rfl)) rfl gd_n ?_ | refine jl_y (yl_not (T rfl)) rfl gd_n ?_
  refine y_ (yl_move (T rfl)) ?_ rfl
  first | refine jl_if_d (s := 27) (at_f rfl) (fun c27 => ?_) (fun c27 => ?_) | refine jl_if (s := 27) (at_f rfl) (fun c27 => ?_) (fun c27 => ?_)
  · have hwn : ¬ wkF n (x : Int) ls = some (to : Int) := fun h => by rw [h] at c27; simp at c27
    refine n_tf (n_tf (n_tf (y_ (yl_pick_t (T rfl) ev_c) (y_ (yl_move (T rfl)) (n_tf (n_tf (n_tf (n_tf (y_ (yl_pick_t (T rfl) ev_c) (jl_nil (q_then (j_keep [(3, _), (5, _), (6, _), (7, _), (8, _), (37, _)] ⟨at_f rfl, at_f rfl, at_f rfl, at_f rfl, at_f rfl, at_f rfl, trivial⟩ ?_))) rfl) rfl rfl rfl rfl) rfl rfl rfl rfl) rfl rfl rfl rfl) rfl rfl rfl rfl) rfl) rfl) rfl rfl rfl rfl) rfl rfl rfl rfl) rfl rfl rfl rfl
    first | refine j_cond_t (at_f rfl) ?_ | refine j_cond_t (at_e (at_f rfl) (vbool (decide_eq_true c37))) ?_
    refine j_seq (j_region (y_ (yl_assign ev_c) (jl_nil (q_then (j_ret (q_then_ret (q_ret rfl (.tmp (at_f rfl) .nil) ?_))))) rfl))
    have hh : holdsF n f e x to ls = false := by unfold holdsF; rw [decide_eq_false hwn]; rfl
    rw [hh]; exact ⟨_, ⟨rfl, rfl⟩, sbt⟩
  · obtain ⟨y, hy⟩ : ∃ y, wkF n (x : Int) ls = some y := by
      cases h : wkF n (x : Int) ls with
      | none => rw [h] at c27; simp at c27
      | some y => exact ⟨y, rfl⟩
    have hval := wkF_valid hy
    refine jl_y (yl_move (T rfl)) rfl (gd_y rfl rfl (at_f rfl)) (jl_y (yl_move (T rfl)) rfl (gd_y rfl rfl (at_f rfl)) (jl_y (yl_neq (T rfl) (T rfl)) rfl (gd_y rfl rfl (at_f rfl)) (y_ (yl_pick_f (T rfl) (T rfl)) (y_ (yl_move (T rfl)) ?_ rfl) rfl)))
    first | refine jl_if_d (s := 32) (at_f rfl) (fun c32 => ?_) (fun c32 => ?_) | refine jl_if (s := 32) (at_f rfl) (fun c32 => ?_) (fun c32 => ?_)
    · have hwn : ¬ wkF n (x : Int) ls = some (to : Int) := fun h => by rw [h] at c32; simp at c32
      refine n_tf (n_tf (n_tf (n_tf (y_ (yl_pick_t (T rfl) ev_c) (jl_nil (q_then (j_keep [(3, _), (5, _), (6, _), (7, _), (8, _), (37, _)] ⟨at_f rfl, at_f rfl, at_f rfl, at_f rfl, at_f rfl, at_f rfl, trivial⟩ ?_))) rfl) rfl rfl rfl rfl) rfl rfl rfl rfl) rfl rfl rfl rfl) rfl rfl rfl rfl
      first | refine j_cond_t (at_f rfl) ?_ | refine j_cond_t (at_e (at_f rfl) (vbool (decide_eq_true c37))) ?_
      refine j_seq (j_region (y_ (yl_assign ev_c) (jl_nil (q_then (j_ret (q_then_ret (q_ret rfl (.tmp (at_f rfl) .nil) ?_))))) rfl))
      have hh : holdsF n f e x to ls = false := by unfold holdsF; rw [decide_eq_false hwn]; rfl
      rw [hh]; exact ⟨_, ⟨rfl, rfl⟩, sbt⟩
    · have hyt : wkF n (x : Int) ls = some (to : Int) := by
        rw [hy] at c32 ⊢; simp at c32; rw [c32]
      refine jl_y (yl_fa (T rfl) fa58_1) rfl (gd_y rfl rfl (at_f rfl)) (jl_y (yl_load (T rfl) Tryz.isAgg3 (by first | exact c_o)) rfl (gd_y rfl rfl (at_f rfl)) ?_)
      refine jl_y (yl_move (T rfl)) rfl (gd_y rfl rfl (at_f rfl)) (jl_y (yl_eql (T rfl) (T rfl)) rfl (gd_y rfl rfl (at_f rfl)) (y_ (yl_pick_f (T rfl) (T rfl)) (jl_nil (q_then (j_keep [(3, _), (5, _), (6, _), (7, _), (8, _), (37, _)] ⟨at_f rfl, at_f rfl, at_f rfl, at_f rfl, at_f rfl, at_f rfl, trivial⟩ ?_))) rfl))
      first | refine j_cond_d (at_f rfl) (fun c37 => ?_) (fun c37 => ?_) | refine j_cond (at_f rfl) (fun c37 => ?_) (fun c37 => ?_)
      · have hcon := 0
        refine j_seq (j_region (y_ (yl_assign ev_c) (jl_nil (q_then (j_ret (q_then_ret (q_ret rfl (.tmp (at_f rfl) .nil) ?_))))) rfl))
        have hh : holdsF n f e x to ls = false := by unfold holdsF; rw [decide_eq_true hyt, decide_eq_false (fun h => h c37)]; rfl
        rw [hh]; exact ⟨_, ⟨rfl, rfl⟩, sbt⟩
      · have hcon := 0
        refine j_skip (q_then (j_seq (j_region (y_ (yl_fa0 (T rfl) fa56_0) (y_ (yl_load (T rfl) Tryz.isAgg52 (by first | exact c_o)) ?_ rfl) rfl))))
        refine y_ (yl_move (T rfl)) (y_ (yl_ixQ (T rfl) (T rfl) Tryz.runUnderlying52 Tryz.sizeOf138 (by omega) (by first | exact rfl | exact hn.nodes.b (i := x) hx | exact hA.b (i := i) (by omega) | exact hn.links.b (i := ki) (by omega) | exact hn.nodes.b (i := (gd n.links ki).dst) hdd)) ?_ rfl) rfl
        refine y_ (yl_fa0 (T rfl) fa138_0) (y_ (yl_load (T rfl) Tryz.isAgg9 (by first | exact c_o | exact (hn.nodes.mono sbt).f0 (i := x) hx rfl)) ?_ rfl) rfl
        refine e_ (eff_bslice (.cons (T rfl) .nil) (bs25_1_0 _)) ?_ rfl
        rintro _ _ ⟨n44, rfl, rfl⟩
        refine y_ (yl_assign (T rfl)) (jl_nil (q_then (j_seq (j_seq (j_region (y_ (yl_move (T rfl)) (y_ (yl_len (T rfl) Tryz.runUnderlying42) (y_ (yl_move ev_c) (jl_nil (q_then (j_block ?_))) rfl) rfl) rfl)))))) rfl
        refine j_loopC (X := Nat × Sl) (V := fun ⟨i, d⟩ => [(47, .int .i64 (i : Nat)), (15, slV d (namesF n x (ls.take i)).length)]) (C := [(6, _), (7, _), (8, _), (45, _), (46, _)]) (G := fun ⟨i, d⟩ => slH d ((namesF n x (ls.take i)).flatMap encS) 9 ++ ((n8, Cl (encRx m) 24) :: (n7, Cl (encFl f) 58) :: (n6, Cl (encNn n) 56) :: H)) (φ := fun ⟨i, d⟩ => i ≤ ls.length ∧ SlOk d (namesF n x (ls.take i)).length 1 ∧ upAll n f (ls.take i) = true) (μ := fun ⟨i, d⟩ => ls.length - i) (x0 := (0, .blk n44 1 [])) ?_ ⟨at_f rfl, at_f rfl, at_f rfl, at_f rfl, at_f rfl, trivial⟩ ⟨(by first | exact at_f rfl | (refine at_e (at_f rfl) (vint ?_); omega) | (refine at_e (at_f rfl) ?_; simp; done) | (refine at_e (at_f rfl) ?_; exact by simp only [hnt, List.length_append, List.length_cons, List.length_nil])), (by first | exact at_f rfl | (refine at_e (at_f rfl) (vint ?_); omega) | (refine at_e (at_f rfl) ?_; simp; done) | (refine at_e (at_f rfl) ?_; exact by simp only [hnt, List.length_append, List.length_cons, List.length_nil])), trivial⟩ sb0 ?_
        · exact ⟨Nat.zero_le _, ⟨Nat.le_refl _, rfl⟩, rfl⟩
        rintro ⟨i, d⟩ ⟨hi, hd, hu⟩
        refine j_seq (j_region (y_ (yl_lss (T rfl) (T rfl)) (jl_nil (q_then (j_seq ?_))) rfl))
        first | refine j_cond_d (at_f rfl) (fun c48 => ?_) (fun c48 => ?_) | refine j_cond (at_f rfl) (fun c48 => ?_) (fun c48 => ?_)
        · have hv := hval i (by omega)
          obtain ⟨ki, hki⟩ : ∃ ki : Nat, gd ls i = (ki : Int) := ⟨(gd ls i).toNat, by omega⟩
          have hkt : (gd ls i).toNat = ki := by omega
          have hkl : ki < n.links.length := by omega
          have hdd := (hok.ends _ (gd_mem hkl)).2
          have hut := upAll_take (n := n) (f := f) (ls := ls) (i := i) (by omega)
          have hnt := namesF_take (n := n) (x := x) (ls := ls) (i := i) (by omega)
          rw [hkt] at hut hnt
          refine j_skip (q_then (j_seq (j_block (j_seq (j_region (y_ (yl_ixQ (T rfl) (T rfl) Tryz.runUnderlying42 Tryz.sizeOf3 (by omega) (by first | exact rfl | exact hn.nodes.b (i := x) hx | exact hA.b (i := i) (by omega) | exact hn.links.b (i := ki) (by omega) | exact hn.nodes.b (i := (gd n.links ki).dst) hdd)) ?_ rfl))))))
          refine y_ (yl_load (T rfl) Tryz.isAgg3 (by first | exact c_o | exact cell_e (vint hki) (cell1 ((hA.mono sbt).cs (i := i) (by omega))))) ?_ rfl
          refine y_ (yl_assign (T rfl)) (jl_nil (q_then (j_seq (j_seq (j_region (y_ (yl_loadA (T rfl) Tryz.isAgg56 Tryz.sizeOf56 rfl (by first | exact cs_o)) ?_ rfl)))))) rfl
          refine y_ (yl_loadA (T rfl) Tryz.isAgg58 Tryz.sizeOf58 rfl (by first | exact cs_o)) ?_ rfl
          refine y_ (yl_move (T rfl)) (y_ (yl_call (.cons (T rfl) (.cons (T rfl) (.cons (T rfl) .nil))) Tryz.call39 (fun H' hs => gup_s n (hn.mono (List.Sublist.trans sbt hs)) f (hf.mono (List.Sublist.trans sbt hs)) hfl ki (by omega))) ?_ rfl) rfl
          first | refine jl_y (yl_not_d (T rfl)) rfl gd_n ?_ | refine jl_y (yl_not (T rfl)) rfl gd_n ?_
          refine jl_nil (q_then ?_)
          first | refine j_cond_d (at_f rfl) (fun c55 => ?_) (fun c55 => ?_) | refine j_cond (at_f rfl) (fun c55 => ?_) (fun c55 => ?_)
          · have hun : upAll n f ls = false := upAll_no (i := i) (by omega) (by rw [hkt]; simpa using c55)
            refine j_seq (j_region (y_ (yl_assign ev_c) (jl_nil (q_then (j_ret (q_then_ret (q_block_ret (q_then_ret (q_loop_ret (q_block_ret (q_then_ret (q_ret rfl (.tmp (at_f rfl) .nil) ?_)))))))))) rfl))
            have hh : holdsF n f e x to ls = false := by unfold holdsF; rw [hun]; simp
            rw [hh]; exact ⟨_, ⟨rfl, rfl⟩, sbt⟩
          · have huy : upAll n f (ls.take (i + 1)) = true := by rw [hut, hu]; simpa using c55
            refine j_skip (q_then (j_any 13 [(0, true), (1, true), (2, true), (3, true), (4, true), (5, true), (6, true), (7, true), (8, true), (9, true), (10, true), (11, true), (12, false)] _ mixd (by kernel_rfl) sb0 ?_))
            refine o_y rfl (yl_move (T rfl)) (o_y rfl (yl_fa0 (T rfl) fa56_0) (o_y rfl (yl_load (T rfl) Tryz.isAgg52 (by first | exact c_o)) ?_ rfl gd_n) rfl gd_n) rfl gd_n
            refine o_y rfl (yl_fa (T rfl) fa56_1) (o_y rfl (yl_load (T rfl) Tryz.isAgg53 (by first | exact c_o)) ?_ rfl gd_n) rfl gd_n
            refine o_y rfl (yl_move (T rfl)) (o_y rfl (yl_ixQ (T rfl) (T rfl) Tryz.runUnderlying53 Tryz.sizeOf71 (by omega) (by first | exact rfl | exact hn.nodes.b (i := x) hx | exact hA.b (i := i) (by omega) | exact hn.links.b (i := ki) (by omega) | exact hn.nodes.b (i := (gd n.links ki).dst) hdd)) ?_ rfl gd_n) rfl gd_n
            refine o_y rfl (yl_fa (T rfl) fa71_1) (o_y rfl (yl_load (T rfl) Tryz.isAgg3 (by first | exact c_o | exact (hn.links.mono sbt).f (i := ki) (by omega) rfl)) ?_ rfl gd_n) rfl gd_n
            refine o_y rfl (yl_ixQ (T rfl) (T rfl) Tryz.runUnderlying52 Tryz.sizeOf138 (by omega) (by first | exact rfl | exact hn.nodes.b (i := x) hx | exact hA.b (i := i) (by omega) | exact hn.links.b (i := ki) (by omega) | exact hn.nodes.b (i := (gd n.links ki).dst) hdd)) ?_ rfl gd_n
            refine o_y rfl (yl_fa0 (T rfl) fa138_0) (o_y rfl (yl_load (T rfl) Tryz.isAgg9 (by first | exact c_o | exact (hn.nodes.mono sbt).f0 (i := (gd n.links ki).dst) hdd rfl)) ?_ rfl gd_n) rfl gd_n
            refine o_e rfl (eff_bslice (.cons (T rfl) .nil) (bs25_1_0 _)) ?_ rfl gd_n
            rintro _ _ ⟨n68, rfl, rfl⟩
            refine ⟨sbt, (jo_nil rfl (e_ (eff_app1_at (nmF n (gd n.links ki).dst) (by' := 16) (by repeat (first | exact LocL.h | apply LocL.t | apply LocL.a)) (T rfl) (T rfl) Tryz.runUnderlying25 Tryz.runUnderlying25 Tryz.sizeOf9 Tryz.typeInfo9 rfl Tryz.zeroValue9 rfl (fun _ => rfl) rfl hd (by decide) (by rw [namesF_len, List.length_take]; omega)) ?_ rfl))⟩
            rintro _ _ ⟨d', rfl, hokd, rfl⟩
            refine y_ (yl_assign (T rfl)) (jl_nil (q_block (q_then (j_keep [(6, _), (7, _), (8, _), (15, _), (45, _), (46, _), (47, _)] ⟨at_f rfl, at_f rfl, at_f rfl, at_f rfl, at_f rfl, at_f rfl, at_f rfl, trivial⟩ (j_region (y_ (yl_add (T rfl) ev_c (by omega)) ?_ rfl)))))) rfl
            refine y_ (yl_move (T rfl)) (jl_nil ?_) rfl
            refine q_loopC ((i + 1, d')) ?_ ?_ ⟨(by first | exact at_f rfl | (refine at_e (at_f rfl) (vint ?_); omega) | (refine at_e (at_f rfl) ?_; simp; done) | (refine at_e (at_f rfl) ?_; exact by simp only [hnt, List.length_append, List.length_cons, List.length_nil])), (by first | exact at_f rfl | (refine at_e (at_f rfl) (vint ?_); omega) | (refine at_e (at_f rfl) ?_; simp; done) | (refine at_e (at_f rfl) ?_; exact by simp only [hnt, List.length_append, List.length_cons, List.length_nil])), trivial⟩ ⟨at_f rfl, at_f rfl, at_f rfl, at_f rfl, at_f rfl, trivial⟩ ?_
            · exact ⟨by omega, by rw [hnt, List.length_append]; exact hokd, huy⟩
            · first | omega | (simp only []; omega)
            · simp only [hnt]; exact sbt
        · have hi2 : i = ls.length := by omega
          rw [hi2, List.take_length] at hu
          have hd2 := hd
          rw [hi2, List.take_length] at hd2
          simp only [hi2, List.take_length]
          refine j_exit (q_then_exit (q_loop_exit (q_block_hit (q_then (j_seq (j_region (y_ (yl_loadA (T rfl) Tryz.isAgg24 Tryz.sizeOf24 rfl (by first | exact cs_o)) ?_ rfl)))))))
          refine y_ (yl_move (T rfl)) (y_ (yl_call (.cons (T rfl) (.cons (T rfl) .nil)) Tryz.call16 (fun H' hs => match_s m e _ _ (namesF n x ls) hI (hM.mono (List.Sublist.trans sbt hs)) hl ((sl_arr (X := H) (enc := encS) (sz := 1) (e := 9) (fun _ => rfl) hd2).mono (List.Sublist.trans sbt hs)) (by rw [namesF_len]; omega))) ?_ rfl) rfl
          refine y_ (yl_assign (T rfl)) (jl_nil (q_then (j_ret (q_ret rfl (.tmp (at_f rfl) .nil) ?_)))) rfl
          have hh : holdsF n f e x to ls = matchF e (namesF n x ls) := by unfold holdsF; rw [decide_eq_true hyt, decide_eq_true c37, hu]; rfl
          rw [hh]; exact ⟨_, ⟨rfl, rfl⟩, sbt⟩
end Go.Proofs.YtkdolgnpkjihpaaGreatDoor
namespace Go.Proofs.YtkdolgnpkjihpaaGreatDoor
open Go.RowKit
set_option linter.unusedVariables false
set_option linter.unusedSimpArgs false
def SrtP (l : List (Int × Int)) : Prop := l.Pairwise fun a b => cmpPl a b < 0
theorem cmpPl_trans {a b c : Int × Int} (h1 : cmpPl a b < 0) (h2 : cmpPl b c < 0) : cmpPl a c < 0 := by
  rw [cmpPl_lt] at *; omega
theorem SrtP.lt {l : List (Int × Int)} (h : SrtP l) {i j : Nat} (hij : i < j) (hj : j < l.length) : cmpPl (gd l i) (gd l j) < 0 := by
  rw [gd_getElem (by omega), gd_getElem hj]
  exact List.pairwise_iff_getElem.1 h i j (by omega) hj hij
theorem srtP_of {l : List (Int × Int)} (h : ∀ k, 0 < k → k < l.length → cmpPl (gd l (k - 1)) (gd l k) < 0) : SrtP l := by
  have key : ∀ d i, i + d + 1 < l.length → cmpPl (gd l i) (gd l (i + d + 1)) < 0 := by
    intro d
    induction d with
    | zero => intro i hi; have := h (i + 1) (by omega) (by omega); simpa using this
    | succ d ih =>
      intro i hi
      have h1 := ih i (by omega)
      have h2 := h (i + (d + 1) + 1) (by omega) hi
      rw [show i + (d + 1) + 1 - 1 = i + d + 1 by omega] at h2
      exact cmpPl_trans h1 h2
  refine List.pairwise_iff_getElem.2 fun i j hi hj hij => ?_
  have := key (j - i - 1) i (by omega)
  rw [show i + (j - i - 1) + 1 = j by omega, gd_getElem hi, gd_getElem hj] at this
  exact this
theorem mem_gdP {l : List (Int × Int)} {x : Int × Int} : x ∈ l ↔ ∃ j, j < l.length ∧ gd l j = x := by
  constructor
  · intro h
    obtain ⟨j, hj, e⟩ := List.getElem_of_mem h
    exact ⟨j, hj, by rw [gd_getElem hj]; exact e⟩
  · rintro ⟨j, hj, rfl⟩; exact gd_mem hj
def toN (p : Int × Int) : Pl := (p.1.toNat, p.2.toNat)
def PlIn (n : Nn) (m : PM) (to : Nat) (l : List (Int × Int)) (k : Nat) : Prop := (0 ≤ (gd l k).1 ∧ (gd l k).1 < n.nodes.length) ∧ (0 ≤ (gd l k).2 ∧ (gd l k).2 < m.next.length) ∧ (0 < k → cmpPl (gd l (k - 1)) (gd l k) < 0) ∧ ¬ ((gd l k).1 = to ∧ gd m.acc (gd l k).2.toNat = true)
instance plInDec (n : Nn) (m : PM) (to : Nat) (l : List (Int × Int)) (k : Nat) : Decidable (PlIn n m to l k) := by unfold PlIn; infer_instance
def RefOk (n : Nn) (f : Flr) (m : PM) (x to : Nat) (l : List (Int × Int)) : Prop := (∀ k, k < l.length → PlIn n m to l k) ∧ (¬ f.node = x → toI (p0F n m x) ∈ l) ∧ (∀ k, k < l.length → ∀ y ∈ movesF n f m (toN (gd l k)), toI y.1 ∈ l)
instance refOkDec (n : Nn) (f : Flr) (m : PM) (x to : Nat) (l : List (Int × Int)) : Decidable (RefOk n f m x to l) := by unfold RefOk; infer_instance
theorem bsf_s {w0 : World} {H : List (Nat × Obj)} (l : List (Int × Int)) (q : Option Addr) (c : Nat) (hA : Arr w0 H q 2 encPI l) (hlen : l.length ≤ 1000000) (hsr : SrtP l) (t : Int × Int) :
    FSpec Tryz.prog w0 93 #[.slice q l.length c, .agg (encPI t).toArray, .func (.func 90) #[] #[]] H (fun v H' => ∃ i : Nat, v = .tuple #[.int .i64 (i : Int), .bool (decide (t ∈ l))] ∧ H' = H) := by
  refine fn_spec Tryz.func93 rfl Tryz.ntmps93 rfl (j_seq (j_region (e_ (eff_box (T rfl) cs_) ?_ rfl)))
  rintro _ _ ⟨n4, rfl, rfl⟩
  refine y_ (yl_assign ev_c) (y_ (yl_assign ev_c) (jl_nil (q_then (j_seq (j_region (y_ (yl_move (T rfl)) (y_ (yl_len (T rfl) Tryz.runUnderlying59) (y_ (yl_assign (T rfl)) (jl_nil (q_then (j_seq (j_region (y_ (yl_move (T rfl)) (y_ (yl_assign ev_c) (y_ (yl_assign (T rfl)) (jl_nil (q_then (j_seq (j_block ?_)))) rfl) rfl) rfl))))) rfl) rfl) rfl))))) rfl) rfl
  refine j_loopH (X := Nat × Nat) (V := fun ⟨i, j⟩ => [(9, .int .i64 (i : Nat)), (10, .int .i64 (j : Nat))]) (C := [(0, _), (2, _), (4, _), (8, _)]) (φ := fun ⟨i, j⟩ => i ≤ j ∧ j ≤ l.length ∧ (∀ k, k < i → cmpPl (gd l k) t < 0) ∧ (∀ k, j ≤ k → k < l.length → ¬ cmpPl (gd l k) t < 0)) (μ := fun ⟨i, j⟩ => j - i) (x0 := (0, l.length)) ?_ ⟨at_f rfl, at_f rfl, at_f rfl, at_f rfl, trivial⟩ ⟨(by first | exact at_f rfl | (refine at_e (at_f rfl) (vint ?_); omega) | (refine at_e (at_f rfl) ?_; simp; done)), (by first | exact at_f rfl | (refine at_e (at_f rfl) (vint ?_); omega) | (refine at_e (at_f rfl) ?_; simp; done)), trivial⟩ ?_
  · exact ⟨Nat.zero_le _, Nat.le_refl _, fun k hk => absurd hk (Nat.not_lt_zero _), fun k h1 h2 => by omega⟩
  rintro ⟨i, j⟩ ⟨hij0, hj, h1, h2⟩
  refine j_seq (j_seq (j_region (y_ (yl_move (T rfl)) (y_ (yl_move (T rfl)) (y_ (yl_lss (T rfl) (T rfl)) (jl_nil (q_then ?_)) rfl) rfl) rfl)))
  first | refine j_cond_d (at_f rfl) (fun c17 => ?_) (fun c17 => ?_) | refine j_cond (at_f rfl) (fun c17 => ?_) (fun c17 => ?_)
  · have hij : i < j := by omega
    refine j_skip (q_then (j_block (j_seq (j_region (y_ (yl_move (T rfl)) (y_ (yl_move (T rfl)) (y_ (yl_add (T rfl) (T rfl) (by omega)) ?_ rfl) rfl) rfl)))))
    refine y_ (yl_convU (n := i + j) (by have := p63; omega) (T rfl) Tryz.runUnderlying3 Tryz.runUnderlying192) ?_ rfl
    refine y_ (yl_shrU (T rfl) ev_c) (y_ (yl_convB64 (n := (i + j) / 2) (by have := p63; omega) (T rfl) Tryz.runUnderlying192 Tryz.runUnderlying3) ?_ rfl) rfl
    refine y_ (yl_assign (T rfl)) (jl_nil (q_then (j_seq (j_any 8 [(0, true), (1, true), (2, true), (3, true), (4, true), (5, true), (6, true), (7, true)] _ mixd (by kernel_rfl) sb0 ?_)))) rfl
    refine o_y rfl (yl_move (T rfl)) (o_y rfl (yl_move (T rfl)) (o_y rfl (yl_move (T rfl)) (o_y rfl (yl_ixQ (T rfl) (T rfl) Tryz.runUnderlying59 Tryz.sizeOf74 (by omega) (by first | exact rfl | exact hA.b (i := ((i + j) / 2)) (by omega) | exact hA.b (i := i) (by omega))) ?_ rfl gd_n) rfl gd_n) rfl gd_n) rfl gd_n
    refine o_y rfl (yl_loadA (T rfl) Tryz.isAgg74 Tryz.sizeOf74 rfl (by first | exact (hA.mono sbt).cs (i := ((i + j) / 2)) (by omega) | exact cs_o)) ?_ rfl gd_n
    refine o_y rfl (yl_loadA (T rfl) Tryz.isAgg74 Tryz.sizeOf74 rfl (by first | exact cs_o)) ?_ rfl gd_n
    refine o_y rfl (yl_callV (T rfl) (.cons (T rfl) (.cons (T rfl) .nil)) Tryz.call90 (fun H' hs => cmpPl_s (gd l ((i + j) / 2)) t)) (o_y rfl (yl_lss (T rfl) ev_c) (jo_nil rfl (jl_nil (q_then (j_keep [(0, _), (2, _), (4, _), (8, _), (9, _), (10, _), (11, _), (31, _)] ⟨at_f rfl, at_f rfl, at_f rfl, at_f rfl, at_f rfl, at_f rfl, at_f rfl, at_f rfl, trivial⟩ ?_)))) rfl gd_n) rfl gd_n
    first | refine j_cond_d (at_f rfl) (fun c31 => ?_) (fun c31 => ?_) | refine j_cond (at_f rfl) (fun c31 => ?_) (fun c31 => ?_)
    · refine j_region (y_ (yl_move (T rfl)) (y_ (yl_add (T rfl) ev_c (by omega)) ?_ rfl) rfl)
      refine y_ (yl_assign (T rfl)) (jl_nil (q_block ?_)) rfl
      refine q_loopC ((((i + j) / 2) + 1, j)) ?_ ?_ ⟨(by first | exact at_f rfl | (refine at_e (at_f rfl) (vint ?_); omega) | (refine at_e (at_f rfl) ?_; simp; done)), (by first | exact at_f rfl | (refine at_e (at_f rfl) (vint ?_); omega) | (refine at_e (at_f rfl) ?_; simp; done)), trivial⟩ ⟨at_f rfl, at_f rfl, at_f rfl, at_f rfl, trivial⟩ ?_
      · refine ⟨by omega, hj, fun k hk => ?_, h2⟩
        by_cases e : k = ((i + j) / 2)
        · subst e; exact c31
        · exact cmpPl_trans (hsr.lt (show k < ((i + j) / 2) by omega) (by omega)) c31
      · first | omega | (simp only []; omega)
      · exact sbt
    · refine j_region (y_ (yl_move (T rfl)) (y_ (yl_assign (T rfl)) (jl_nil (q_block ?_)) rfl) rfl)
      refine q_loopC ((i, ((i + j) / 2))) ?_ ?_ ⟨(by first | exact at_f rfl | (refine at_e (at_f rfl) (vint ?_); omega) | (refine at_e (at_f rfl) ?_; simp; done)), (by first | exact at_f rfl | (refine at_e (at_f rfl) (vint ?_); omega) | (refine at_e (at_f rfl) ?_; simp; done)), trivial⟩ ⟨at_f rfl, at_f rfl, at_f rfl, at_f rfl, trivial⟩ ?_
      · refine ⟨by omega, by omega, h1, fun k hk hk2 h3 => ?_⟩
        by_cases e : k = ((i + j) / 2)
        · subst e; exact c31 h3
        · exact c31 (cmpPl_trans (hsr.lt (show ((i + j) / 2) < k by omega) hk2) h3)
      · first | omega | (simp only []; omega)
      · exact sbt
  · have hij : i = j := by omega
    subst hij
    refine j_exit (q_then_exit (q_loop_exit (q_block_hit (q_then (j_seq (j_any 16 [(0, true), (1, true), (2, true), (3, true), (4, true), (5, true), (6, true), (7, true), (8, true), (9, true), (10, true), (11, true), (12, true), (13, true), (14, true), (15, true)] _ mixd (by kernel_rfl) sb0 ?_))))))
    refine o_y rfl (yl_move (T rfl)) (o_y rfl (yl_move (T rfl)) (o_y rfl (yl_move (T rfl)) (o_y rfl (yl_lss (T rfl) (T rfl)) (o_y rfl (yl_move (T rfl)) ?_ rfl gd_n) rfl gd_n) rfl gd_n) rfl gd_n) rfl gd_n
    first | refine o_if_d (s := 39) (at_f rfl) (fun c39 => ?_) (fun c39 => ?_) | refine o_if (s := 39) (at_f rfl) (fun c39 => ?_) (fun c39 => ?_)
    · have hil : i < l.length := by omega
      have hdec : decide (cmpPl (gd l i) t = 0) = decide (t ∈ l) := by
        refine decide_eq_decide.2 ⟨fun h => by rw [← (cmpPl_eq _ _).1 h]; exact gd_mem hil, fun h => ?_⟩
        obtain ⟨k, hk, rfl⟩ := mem_gdP.1 h
        rw [cmpPl_eq]
        by_cases e : k < i
        · exact absurd (h1 k e) (by rw [(cmpPl_eq _ _).2 rfl]; decide)
        · by_cases e2 : k = i
          · rw [e2]
          · exact absurd (hsr.lt (show i < k by omega) hk) (h2 i (Nat.le_refl _) hil)
      refine o_y rfl (yl_move (T rfl)) (o_y rfl (yl_move (T rfl)) (o_y rfl (yl_move (T rfl)) (o_y rfl (yl_ixQ (T rfl) (T rfl) Tryz.runUnderlying59 Tryz.sizeOf74 (by omega) (by first | exact rfl | exact hA.b (i := ((i + j) / 2)) (by omega) | exact hA.b (i := i) (by omega))) ?_ rfl (gd_y rfl rfl (at_f rfl))) rfl (gd_y rfl rfl (at_f rfl))) rfl (gd_y rfl rfl (at_f rfl))) rfl (gd_y rfl rfl (at_f rfl))
      refine o_y rfl (yl_loadA (T rfl) Tryz.isAgg74 Tryz.sizeOf74 rfl (by first | exact (hA.mono sbt).cs (i := i) (by omega) | exact cs_o)) ?_ rfl (gd_y rfl rfl (at_f rfl))
      refine o_y rfl (yl_loadA (T rfl) Tryz.isAgg74 Tryz.sizeOf74 rfl (by first | exact cs_o)) ?_ rfl (gd_y rfl rfl (at_f rfl))
      refine o_y rfl (yl_callV (T rfl) (.cons (T rfl) (.cons (T rfl) .nil)) Tryz.call90 (fun H' hs => cmpPl_s (gd l i) t)) (o_y rfl (yl_eql (T rfl) ev_c) (o_y rfl (yl_pick_t (T rfl) (T rfl)) (o_y rfl (yl_assign (T rfl)) (o_y rfl (yl_assign (T rfl)) (jo_nil rfl (jl_nil (q_then (j_keep [(6, _), (7, _)] ⟨at_f rfl, at_f rfl, trivial⟩ (j_ret (q_ret rfl (.tmp (at_f rfl) (.tmp (at_f rfl) .nil)) ?_)))))) rfl gd_n) rfl gd_n) rfl gd_n) rfl (gd_y rfl rfl (at_f rfl))) rfl (gd_y rfl rfl (at_f rfl))
      exact ⟨_, ⟨i, by rw [← hdec]; rfl, rfl⟩, sbt⟩
    · have hdec : false = decide (t ∈ l) := by
        symm
        refine decide_eq_false fun h => ?_
        obtain ⟨k, hk, rfl⟩ := mem_gdP.1 h
        have := h1 k (by omega)
        rw [(cmpPl_eq _ _).2 rfl] at this
        exact absurd this (by decide)
      refine o_n rfl (o_n rfl (o_n rfl (o_n rfl (o_n rfl (o_n rfl (o_n rfl (o_n rfl (o_y rfl (yl_pick_f (T rfl) ev_c) (o_y rfl (yl_assign (T rfl)) (o_y rfl (yl_assign (T rfl)) (jo_nil rfl (jl_nil (q_then (j_keep [(6, _), (7, _)] ⟨at_f rfl, at_f rfl, trivial⟩ (j_ret (q_ret rfl (.tmp (at_f rfl) (.tmp (at_f rfl) .nil)) ?_)))))) rfl gd_n) rfl gd_n) rfl gd_n) rfl (nw_ft rfl rfl (at_f rfl))) rfl (nw_ft rfl rfl (at_f rfl))) rfl (nw_ft rfl rfl (at_f rfl))) rfl (nw_ft rfl rfl (at_f rfl))) rfl (nw_ft rfl rfl (at_f rfl))) rfl (nw_ft rfl rfl (at_f rfl))) rfl (nw_ft rfl rfl (at_f rfl))) rfl (nw_ft rfl rfl (at_f rfl))
      exact ⟨_, ⟨i, by rw [← hdec]; rfl, rfl⟩, sbt⟩
theorem must_s {w0 : World} {H : List (Nat × Obj)} (l : List (Int × Int)) (q : Option Addr) (c : Nat) (hA : Arr w0 H q 2 encPI l) (hlen : l.length ≤ 1000000) (hsr : SrtP l) (p : Int × Int) (lk : Int) (b : Bool) (b11 b15 : Nat) (h11 : Fnd H b11 (Cl [.slice q l.length c] 59)) :
    FSpec Tryz.prog w0 92 #[.agg (encPI p).toArray, .int .i64 lk, .pointer (some ⟨b11, 0, none⟩), .pointer (some ⟨b15, 0, none⟩)] ((b15, Cl [.bool b] 4) :: H) (fun _ H' => H' = (b15, Cl [.bool (b && decide (p ∈ l))] 4) :: H) := by
  refine fn_spec Tryz.func92 rfl Tryz.ntmps92 rfl (j_seq (j_region (e_ (eff_box (T rfl) cs_) ?_ rfl)))
  rintro _ _ ⟨n4, rfl, rfl⟩
  refine jl_nil (q_then (j_seq (j_region (y_ (yl_load (T rfl) Tryz.isAgg59 (by first | exact c_o | exact c_o (hf := fnd_t (fnd_t h11)))) ?_ rfl))))
  refine y_ (yl_loadA (T rfl) Tryz.isAgg74 Tryz.sizeOf74 rfl (by first | exact cs_o)) ?_ rfl
  refine e_ (eff_call (.cons (T rfl) (.cons (T rfl) (.cons ev_f .nil))) Tryz.call93 (bsf_s l q c (hA.mono sbt) hlen hsr p)) ?_ rfl
  rintro _ _ ⟨i, rfl, rfl⟩
  refine y_ (yl_move (T rfl)) (y_ (yl_extract (T rfl) rfl) (y_ (yl_extract (T rfl) rfl) (y_ (yl_assign (T rfl)) (y_ (yl_assign (T rfl)) (jl_nil (q_then (j_region (y_ (yl_load (T rfl) Tryz.isAgg4 (by first | exact c_o)) ?_ rfl)))) rfl) rfl) rfl) rfl) rfl
  refine y_ (yl_move (T rfl)) ?_ rfl
  first | refine jl_if_d (s := 15) (at_f rfl) (fun c15 => ?_) (fun c15 => ?_) | refine jl_if (s := 15) (at_f rfl) (fun c15 => ?_) (fun c15 => ?_)
  · refine jl_y (yl_move (T rfl)) rfl (gd_y rfl rfl (at_f rfl)) (y_ (yl_pick_t (T rfl) (T rfl)) ?_ rfl)
    first | refine jl_e (eff_sW (T rfl) (T rfl) Tryz.sizeOf4) rfl gd_n ?_ | refine jl_e (eff_s1 (T rfl) (T rfl) rfl Tryz.sizeOf4) rfl gd_n ?_ | refine jl_e (eff_s1r (T rfl) (T rfl) rfl Tryz.sizeOf4) rfl gd_n ?_
    rintro _ _ ⟨rfl, rfl⟩
    refine jl_nil (q_end rfl .nil ?_)
    rw [c15]; exact ⟨_, rfl, sbt⟩
  · refine n_ft (y_ (yl_pick_f (T rfl) ev_c) ?_ rfl) rfl rfl rfl rfl
    first | refine jl_e (eff_sW (T rfl) (T rfl) Tryz.sizeOf4) rfl gd_n ?_ | refine jl_e (eff_s1 (T rfl) (T rfl) rfl Tryz.sizeOf4) rfl gd_n ?_ | refine jl_e (eff_s1r (T rfl) (T rfl) rfl Tryz.sizeOf4) rfl gd_n ?_
    rintro _ _ ⟨rfl, rfl⟩
    refine jl_nil (q_end rfl .nil ?_)
    rw [c15]; exact ⟨_, rfl, sbt⟩
end Go.Proofs.YtkdolgnpkjihpaaGreatDoor
namespace Go.Proofs.YtkdolgnpkjihpaaGreatDoor
open Go.RowKit
set_option linter.unusedVariables false
set_option linter.unusedSimpArgs false
theorem must_at {w0 : World} {H : List (Nat × Obj)} (l : List (Int × Int)) (q : Option Addr) (c : Nat) (hA : Arr w0 H q 2 encPI l) (hlen : l.length ≤ 1000000) (hsr : SrtP l) (p : Int × Int) (lk : Int) (b : Bool) (b11 b15 : Nat) (h11 : Fnd H b11 (Cl [.slice q l.length c] 59)) :
    FSpec Tryz.prog w0 92 #[.agg (encPI p).toArray, .int .i64 lk, .pointer (some ⟨b11, 0, none⟩), .pointer (some ⟨b15, 0, none⟩)] ([(b15, Cl [.bool b] 4)] ++ H) (fun _ H' => ∃ u : Unit, True ∧ H' = [(b15, Cl [.bool (b && decide (p ∈ l))] 4)] ++ H) :=
  (must_s l q c hA hlen hsr p lk b b11 b15 h11).mono fun v H' e => ⟨(), trivial, e⟩
theorem loc5 {a b c d e : Nat × Obj} {X : List (Nat × Obj)} : LocL (a :: b :: c :: d :: e :: X) [e] (a :: b :: c :: d :: X) (fun M' => a :: b :: c :: d :: (M' ++ X)) := .t (.t (.t (.t (show LocL ([e] ++ X) [e] X _ from .h))))
def allIn (l : List (Int × Int)) (ts : List (Pl × Nat)) : Bool := ts.all fun y => decide (toI y.1 ∈ l)
theorem allIn_take {l : List (Int × Int)} {ts : List (Pl × Nat)} {j : Nat} {x : Pl × Nat} (h : ts[j]? = some x) : allIn l (ts.take (j + 1)) = (allIn l (ts.take j) && decide (toI x.1 ∈ l)) := by
  unfold allIn; rw [List.take_add_one, h, List.all_append]; simp
def okK (n : Nn) (f : Flr) (m : PM) (l : List (Int × Int)) (k : Nat) : Bool := (l.take k).all fun p => allIn l (movesF n f m (toN p))
theorem okK_succ {n : Nn} {f : Flr} {m : PM} {l : List (Int × Int)} {k : Nat} (h : k < l.length) : okK n f m l (k + 1) = (okK n f m l k && allIn l (movesF n f m (toN (gd l k)))) := by
  unfold okK; rw [List.take_add_one, gd_get h, List.all_append]; simp
theorem refOk_eq {n : Nn} {f : Flr} {m : PM} {x to : Nat} {l : List (Int × Int)} (h : ∀ k, k < l.length → PlIn n m to l k) : decide (RefOk n f m x to l) = ((decide (f.node = (x : Int)) || decide (toI (p0F n m x) ∈ l)) && okK n f m l l.length) := by
  rw [Bool.eq_iff_iff]
  simp only [decide_eq_true_eq, Bool.and_eq_true, Bool.or_eq_true]
  unfold RefOk okK allIn
  rw [List.take_length, List.all_eq_true]
  constructor
  · rintro ⟨_, h2, h3⟩
    refine ⟨?_, fun p hp => ?_⟩
    · by_cases e : f.node = (x : Int)
      · exact .inl e
      · exact .inr (h2 e)
    · obtain ⟨k, hk, rfl⟩ := mem_gdP.1 hp
      rw [List.all_eq_true]
      intro y hy
      exact decide_eq_true (h3 k hk y hy)
  · rintro ⟨h2, h3⟩
    refine ⟨h, fun e => h2.resolve_left e, fun k hk y hy => ?_⟩
    have := h3 (gd l k) (gd_mem hk)
    rw [List.all_eq_true] at this
    exact of_decide_eq_true (this y hy)
theorem refOk_no {n : Nn} {f : Flr} {m : PM} {x to : Nat} {l : List (Int × Int)} {k : Nat} (hk : k < l.length) (h : ¬ PlIn n m to l k) : decide (RefOk n f m x to l) = false := decide_eq_false fun hr => h (hr.1 k hk)
theorem mustV {w0 : World} {R : List (Nat × Obj)} (l : List (Int × Int)) (q : Option Addr) (c : Nat) (hA : Arr w0 R q 2 encPI l) (hlen : l.length ≤ 1000000) (hsr : SrtP l) (ts : List (Pl × Nat)) (b : Bool) (b11 b15 : Nat) (h11 : Fnd R b11 (Cl [.slice q l.length c] 59)) :
    ∀ j x M1 H1, ts[j]? = some x → R.Sublist H1 → M1 = [(b15, Cl [.bool (b && allIn l (ts.take j))] 4)] →
      FSpec Tryz.prog w0 92 (.agg (encPl x.1).toArray :: .int .i64 (x.2 : Int) :: [.pointer (some ⟨b11, 0, none⟩), .pointer (some ⟨b15, 0, none⟩)]).toArray (M1 ++ H1) (fun _ H' => ∃ M2, M2 = [(b15, Cl [.bool (b && allIn l (ts.take (j + 1)))] 4)] ∧ H' = M2 ++ H1) := by
  rintro j x _ H1 hj hs rfl
  refine (must_s (H := H1) l q c (hA.mono hs) hlen hsr (toI x.1) (x.2 : Int) _ b11 b15 (h11.mono hs)).mono ?_
  rintro v H' rfl
  exact ⟨_, rfl, by rw [allIn_take hj, Bool.and_assoc]; rfl⟩
theorem refutes_s {w0 : World} {H : List (Nat × Obj)} (n : Nn) (f : Flr) (m : Mc) (he : Env w0 H n f m) (ho : EnvOk n f m) (x : Nat) (hx : x < n.nodes.length) (to : Nat) (l : List (Int × Int)) (q : Option Addr) (c : Nat) (hA : Arr w0 H q 2 encPI l) (hlen : l.length ≤ 1000000) :
    FSpec Tryz.prog w0 37 #[.agg (encNn n).toArray, .agg (encFl f).toArray, .agg (encMc m).toArray, .int .i64 (x : Int), .int .i64 (to : Int), .slice q l.length c] H (Still (.bool (decide (RefOk n f m.pl x to l))) H) := by
  refine fn_spec Tryz.func37 rfl Tryz.ntmps37 rfl ?_
  have hrl : m.pl.next.length = m.rows.length := List.length_map ..
  have hal : m.acc.length = m.rows.length := by have := ho.om.acc; rw [hrl] at this; exact this
  refine j_seq (j_region (e_ (eff_box (T rfl) cs_) ?_ rfl))
  rintro _ _ ⟨n6, rfl, rfl⟩
  refine e_ (eff_box (T rfl) cs_) ?_ rfl
  rintro _ _ ⟨n7, rfl, rfl⟩
  refine e_ (eff_box (T rfl) cs_) ?_ rfl
  rintro _ _ ⟨n8, rfl, rfl⟩
  refine e_ (eff_box (T rfl) cs_) ?_ rfl
  rintro _ _ ⟨n11, rfl, rfl⟩
  refine y_ (yl_assign ev_c) (jl_nil (q_then (j_seq (j_seq (j_region (y_ (yl_load (T rfl) Tryz.isAgg59 (by first | exact c_o)) ?_ rfl)))))) rfl
  refine y_ (yl_len (T rfl) Tryz.runUnderlying59) (y_ (yl_move ev_c) (jl_nil (q_then (j_block ?_))) rfl) rfl
  refine j_loopH (X := Nat) (V := fun k => [(21, .int .i64 (k : Nat))]) (C := [(3, _), (4, _), (6, _), (7, _), (8, _), (11, _), (19, _), (20, _)]) (φ := fun k => k ≤ l.length ∧ ∀ j, j < k → PlIn n m.pl to l j) (μ := fun k => l.length - k) (x0 := 0) ?_ ⟨at_f rfl, at_f rfl, at_f rfl, at_f rfl, at_f rfl, at_f rfl, at_f rfl, at_f rfl, trivial⟩ ⟨(by first | exact at_f rfl | (refine at_e (at_f rfl) (vint ?_); omega) | (refine at_e (at_f rfl) ?_; simp; done)), trivial⟩ ?_
  · exact ⟨Nat.zero_le _, fun j hj => absurd hj (Nat.not_lt_zero _)⟩
  rintro k ⟨hk, hall⟩
  refine j_seq (j_region (y_ (yl_lss (T rfl) (T rfl)) (jl_nil (q_then (j_seq ?_))) rfl))
  first | refine j_cond_d (at_f rfl) (fun c22 => ?_) (fun c22 => ?_) | refine j_cond (at_f rfl) (fun c22 => ?_) (fun c22 => ?_)
  · refine j_skip (q_then (j_seq (j_block (j_seq (j_region (y_ (yl_move (T rfl)) (y_ (yl_ixQ (T rfl) (T rfl) Tryz.runUnderlying59 Tryz.sizeOf74 (by omega) (by first | exact rfl | exact hA.b (i := k) (by omega) | exact he.m.a3.b (i := (gd l k).2.toNat) (by omega) | exact hA.b (i := ((k : Int) - 1).toNat) (by omega))) ?_ rfl) rfl))))))
    refine y_ (yl_loadA (T rfl) Tryz.isAgg74 Tryz.sizeOf74 rfl (by first | exact (hA.mono sbt).cs (i := k) (by omega) | exact cs_o)) ?_ rfl
    refine e_ (eff_alloc Tryz.zeroValue74 cs_) ?_ rfl
    rintro _ _ ⟨n14, rfl, rfl⟩
    refine y_ (yl_assign (T rfl)) ?_ rfl
    first | refine jl_e (eff_sW (T rfl) (T rfl) Tryz.sizeOf74) rfl gd_n ?_
    rintro _ _ ⟨rfl, rfl⟩
    refine jl_nil (q_then (j_seq (j_any 52 [(0, true), (1, true), (2, true), (3, true), (4, true), (5, true), (6, true), (7, true), (8, true), (9, true), (10, true), (11, true), (12, true), (13, true), (14, true), (15, true), (16, true), (17, true), (18, true), (19, true), (20, true), (21, true), (22, true), (23, true), (24, true), (25, true), (26, true), (27, true), (28, true), (29, true), (30, true), (31, true), (32, true), (33, true), (34, true), (35, true), (36, true), (37, true), (38, true), (39, true), (40, true), (41, true), (42, true), (43, true), (44, true), (45, true), (46, true), (47, true), (48, true), (49, true), (50, true), (51, true)] _ mixd (by kernel_rfl) sb0 ?_)))
    refine o_y rfl (yl_fa0 (T rfl) fa74_0) (o_y rfl (yl_load (T rfl) Tryz.isAgg3 (by first | exact c_o)) ?_ rfl gd_n) rfl gd_n
    refine o_y rfl (yl_lss (T rfl) ev_c) (o_y rfl (yl_move (T rfl)) ?_ rfl gd_n) rfl gd_n
    first | refine o_if_d (s := 29) (at_f rfl) (fun c29 => ?_) (fun c29 => ?_) | refine o_if (s := 29) (at_f rfl) (fun c29 => ?_) (fun c29 => ?_)
    · have hbad : ¬ PlIn n m.pl to l k := fun hq => by
        obtain ⟨q1, q2, q3, q4⟩ := hq
        omega
      refine o_n rfl (o_n rfl (o_n rfl (o_n rfl (o_n rfl (o_n rfl (o_y rfl (yl_pick_t (T rfl) ev_c) (o_y rfl (yl_move (T rfl)) (o_n rfl (o_n rfl (o_n rfl (o_y rfl (yl_pick_t (T rfl) ev_c) (o_y rfl (yl_move (T rfl)) (o_n rfl (o_n rfl (o_n rfl (o_n rfl (o_n rfl (o_n rfl (o_y rfl (yl_pick_t (T rfl) ev_c) (o_y rfl (yl_move (T rfl)) (o_n rfl (o_n rfl (o_n rfl (o_n rfl (o_n rfl (o_n rfl (o_n rfl (o_n rfl (o_n rfl (o_n rfl (o_n rfl (o_n rfl (o_y rfl (yl_pick_t (T rfl) ev_c) (o_y rfl (yl_move (T rfl)) (o_n rfl (o_n rfl (o_n rfl (o_n rfl (o_n rfl (o_n rfl (o_n rfl (o_n rfl (o_n rfl (o_n rfl (o_n rfl (o_n rfl (o_y rfl (yl_pick_t (T rfl) ev_c) (jo_nil rfl (jl_nil (q_then (j_keep [(3, _), (4, _), (6, _), (7, _), (8, _), (11, _), (19, _), (20, _), (21, _), (77, _)] ⟨at_f rfl, at_f rfl, at_f rfl, at_f rfl, at_f rfl, at_f rfl, at_f rfl, at_f rfl, at_f rfl, at_f rfl, trivial⟩ ?_)))) rfl gd_n) rfl (nw_tf rfl rfl (at_f rfl))) rfl (nw_u rfl rfl (at_f rfl))) rfl (nw_u rfl rfl (at_f rfl))) rfl (nw_u rfl rfl (at_f rfl))) rfl (nw_u rfl rfl (at_f rfl))) rfl (nw_u rfl rfl (at_f rfl))) rfl (nw_u rfl rfl (at_f rfl))) rfl (nw_tf rfl rfl (at_f rfl))) rfl (nw_tf rfl rfl (at_f rfl))) rfl (nw_tf rfl rfl (at_f rfl))) rfl (nw_tf rfl rfl (at_f rfl))) rfl (nw_tf rfl rfl (at_f rfl))) rfl gd_n) rfl gd_n) rfl (nw_tf rfl rfl (at_f rfl))) rfl (nw_u rfl rfl (at_f rfl))) rfl (nw_u rfl rfl (at_f rfl))) rfl (nw_u rfl rfl (at_f rfl))) rfl (nw_u rfl rfl (at_f rfl))) rfl (nw_u rfl rfl (at_f rfl))) rfl (nw_u rfl rfl (at_f rfl))) rfl (nw_u rfl rfl (at_f rfl))) rfl (nw_u rfl rfl (at_f rfl))) rfl (nw_tf rfl rfl (at_f rfl))) rfl (nw_tf rfl rfl (at_f rfl))) rfl (nw_tf rfl rfl (at_f rfl))) rfl gd_n) rfl gd_n) rfl (nw_tf rfl rfl (at_f rfl))) rfl (nw_tf rfl rfl (at_f rfl))) rfl (nw_tf rfl rfl (at_f rfl))) rfl (nw_tf rfl rfl (at_f rfl))) rfl (nw_tf rfl rfl (at_f rfl))) rfl (nw_tf rfl rfl (at_f rfl))) rfl gd_n) rfl gd_n) rfl (nw_tf rfl rfl (at_f rfl))) rfl (nw_tf rfl rfl (at_f rfl))) rfl (nw_tf rfl rfl (at_f rfl))) rfl gd_n) rfl gd_n) rfl (nw_tf rfl rfl (at_f rfl))) rfl (nw_tf rfl rfl (at_f rfl))) rfl (nw_tf rfl rfl (at_f rfl))) rfl (nw_tf rfl rfl (at_f rfl))) rfl (nw_tf rfl rfl (at_f rfl))) rfl (nw_tf rfl rfl (at_f rfl))
      first | refine j_cond_t (at_f rfl) ?_ | refine j_cond_t (at_e (at_f rfl) (vbool (decide_eq_true c77))) ?_
      refine j_seq (j_region (y_ (yl_assign ev_c) (jl_nil (q_then (j_ret (q_block_ret (q_then_ret (q_loop_ret (q_block_ret (q_then_ret (q_ret rfl (.tmp (at_f rfl) .nil) ?_))))))))) rfl))
      exact ⟨_, ⟨vbool (by rw [refOk_no (by omega) hbad]), rfl⟩, sbt⟩
    · refine o_y rfl (yl_fa0 (T rfl) fa74_0) (o_y rfl (yl_load (T rfl) Tryz.isAgg3 (by first | exact c_o)) ?_ rfl (gd_y rfl rfl (at_f rfl))) rfl (gd_y rfl rfl (at_f rfl))
      refine o_y rfl (yl_fa0 (T rfl) fa56_0) (o_y rfl (yl_load (T rfl) Tryz.isAgg52 (by first | exact c_o)) ?_ rfl (gd_y rfl rfl (at_f rfl))) rfl (gd_y rfl rfl (at_f rfl))
      refine o_y rfl (yl_len (T rfl) Tryz.runUnderlying52) (o_y rfl (yl_geq (T rfl) (T rfl)) (o_y rfl (yl_pick_f (T rfl) (T rfl)) (o_y rfl (yl_move (T rfl)) ?_ rfl gd_n) rfl gd_n) rfl (gd_y rfl rfl (at_f rfl))) rfl (gd_y rfl rfl (at_f rfl))
      first | refine o_if_d (s := 37) (at_f rfl) (fun c37 => ?_) (fun c37 => ?_) | refine o_if (s := 37) (at_f rfl) (fun c37 => ?_) (fun c37 => ?_)
      · have hbad : ¬ PlIn n m.pl to l k := fun hq => by
          obtain ⟨q1, q2, q3, q4⟩ := hq
          omega
        refine o_n rfl (o_n rfl (o_n rfl (o_y rfl (yl_pick_t (T rfl) ev_c) (o_y rfl (yl_move (T rfl)) (o_n rfl (o_n rfl (o_n rfl (o_n rfl (o_n rfl (o_n rfl (o_y rfl (yl_pick_t (T rfl) ev_c) (o_y rfl (yl_move (T rfl)) (o_n rfl (o_n rfl (o_n rfl (o_n rfl (o_n rfl (o_n rfl (o_n rfl (o_n rfl (o_n rfl (o_n rfl (o_n rfl (o_n rfl (o_y rfl (yl_pick_t (T rfl) ev_c) (o_y rfl (yl_move (T rfl)) (o_n rfl (o_n rfl (o_n rfl (o_n rfl (o_n rfl (o_n rfl (o_n rfl (o_n rfl (o_n rfl (o_n rfl (o_n rfl (o_n rfl (o_y rfl (yl_pick_t (T rfl) ev_c) (jo_nil rfl (jl_nil (q_then (j_keep [(3, _), (4, _), (6, _), (7, _), (8, _), (11, _), (19, _), (20, _), (21, _), (77, _)] ⟨at_f rfl, at_f rfl, at_f rfl, at_f rfl, at_f rfl, at_f rfl, at_f rfl, at_f rfl, at_f rfl, at_f rfl, trivial⟩ ?_)))) rfl gd_n) rfl (nw_tf rfl rfl (at_f rfl))) rfl (nw_u rfl rfl (at_f rfl))) rfl (nw_u rfl rfl (at_f rfl))) rfl (nw_u rfl rfl (at_f rfl))) rfl (nw_u rfl rfl (at_f rfl))) rfl (nw_u rfl rfl (at_f rfl))) rfl (nw_u rfl rfl (at_f rfl))) rfl (nw_tf rfl rfl (at_f rfl))) rfl (nw_tf rfl rfl (at_f rfl))) rfl (nw_tf rfl rfl (at_f rfl))) rfl (nw_tf rfl rfl (at_f rfl))) rfl (nw_tf rfl rfl (at_f rfl))) rfl gd_n) rfl gd_n) rfl (nw_tf rfl rfl (at_f rfl))) rfl (nw_u rfl rfl (at_f rfl))) rfl (nw_u rfl rfl (at_f rfl))) rfl (nw_u rfl rfl (at_f rfl))) rfl (nw_u rfl rfl (at_f rfl))) rfl (nw_u rfl rfl (at_f rfl))) rfl (nw_u rfl rfl (at_f rfl))) rfl (nw_u rfl rfl (at_f rfl))) rfl (nw_u rfl rfl (at_f rfl))) rfl (nw_tf rfl rfl (at_f rfl))) rfl (nw_tf rfl rfl (at_f rfl))) rfl (nw_tf rfl rfl (at_f rfl))) rfl gd_n) rfl gd_n) rfl (nw_tf rfl rfl (at_f rfl))) rfl (nw_tf rfl rfl (at_f rfl))) rfl (nw_tf rfl rfl (at_f rfl))) rfl (nw_tf rfl rfl (at_f rfl))) rfl (nw_tf rfl rfl (at_f rfl))) rfl (nw_tf rfl rfl (at_f rfl))) rfl gd_n) rfl gd_n) rfl (nw_tf rfl rfl (at_f rfl))) rfl (nw_tf rfl rfl (at_f rfl))) rfl (nw_tf rfl rfl (at_f rfl))
        first | refine j_cond_t (at_f rfl) ?_ | refine j_cond_t (at_e (at_f rfl) (vbool (decide_eq_true c77))) ?_
        refine j_seq (j_region (y_ (yl_assign ev_c) (jl_nil (q_then (j_ret (q_block_ret (q_then_ret (q_loop_ret (q_block_ret (q_then_ret (q_ret rfl (.tmp (at_f rfl) .nil) ?_))))))))) rfl))
        exact ⟨_, ⟨vbool (by rw [refOk_no (by omega) hbad]), rfl⟩, sbt⟩
      · refine o_y rfl (yl_fa (T rfl) fa74_1) (o_y rfl (yl_load (T rfl) Tryz.isAgg3 (by first | exact c_o)) ?_ rfl (gd_y rfl rfl (at_f rfl))) rfl (gd_y rfl rfl (at_f rfl))
        refine o_y rfl (yl_lss (T rfl) ev_c) (o_y rfl (yl_pick_f (T rfl) (T rfl)) (o_y rfl (yl_move (T rfl)) ?_ rfl gd_n) rfl gd_n) rfl (gd_y rfl rfl (at_f rfl))
        first | refine o_if_d (s := 42) (at_f rfl) (fun c42 => ?_) (fun c42 => ?_) | refine o_if (s := 42) (at_f rfl) (fun c42 => ?_) (fun c42 => ?_)
        · have hbad : ¬ PlIn n m.pl to l k := fun hq => by
            obtain ⟨q1, q2, q3, q4⟩ := hq
            omega
          refine o_n rfl (o_n rfl (o_n rfl (o_n rfl (o_n rfl (o_n rfl (o_y rfl (yl_pick_t (T rfl) ev_c) (o_y rfl (yl_move (T rfl)) (o_n rfl (o_n rfl (o_n rfl (o_n rfl (o_n rfl (o_n rfl (o_n rfl (o_n rfl (o_n rfl (o_n rfl (o_n rfl (o_n rfl (o_y rfl (yl_pick_t (T rfl) ev_c) (o_y rfl (yl_move (T rfl)) (o_n rfl (o_n rfl (o_n rfl (o_n rfl (o_n rfl (o_n rfl (o_n rfl (o_n rfl (o_n rfl (o_n rfl (o_n rfl (o_n rfl (o_y rfl (yl_pick_t (T rfl) ev_c) (jo_nil rfl (jl_nil (q_then (j_keep [(3, _), (4, _), (6, _), (7, _), (8, _), (11, _), (19, _), (20, _), (21, _), (77, _)] ⟨at_f rfl, at_f rfl, at_f rfl, at_f rfl, at_f rfl, at_f rfl, at_f rfl, at_f rfl, at_f rfl, at_f rfl, trivial⟩ ?_)))) rfl gd_n) rfl (nw_tf rfl rfl (at_f rfl))) rfl (nw_u rfl rfl (at_f rfl))) rfl (nw_u rfl rfl (at_f rfl))) rfl (nw_u rfl rfl (at_f rfl))) rfl (nw_u rfl rfl (at_f rfl))) rfl (nw_u rfl rfl (at_f rfl))) rfl (nw_u rfl rfl (at_f rfl))) rfl (nw_tf rfl rfl (at_f rfl))) rfl (nw_tf rfl rfl (at_f rfl))) rfl (nw_tf rfl rfl (at_f rfl))) rfl (nw_tf rfl rfl (at_f rfl))) rfl (nw_tf rfl rfl (at_f rfl))) rfl gd_n) rfl gd_n) rfl (nw_tf rfl rfl (at_f rfl))) rfl (nw_u rfl rfl (at_f rfl))) rfl (nw_u rfl rfl (at_f rfl))) rfl (nw_u rfl rfl (at_f rfl))) rfl (nw_u rfl rfl (at_f rfl))) rfl (nw_u rfl rfl (at_f rfl))) rfl (nw_u rfl rfl (at_f rfl))) rfl (nw_u rfl rfl (at_f rfl))) rfl (nw_u rfl rfl (at_f rfl))) rfl (nw_tf rfl rfl (at_f rfl))) rfl (nw_tf rfl rfl (at_f rfl))) rfl (nw_tf rfl rfl (at_f rfl))) rfl gd_n) rfl gd_n) rfl (nw_tf rfl rfl (at_f rfl))) rfl (nw_tf rfl rfl (at_f rfl))) rfl (nw_tf rfl rfl (at_f rfl))) rfl (nw_tf rfl rfl (at_f rfl))) rfl (nw_tf rfl rfl (at_f rfl))) rfl (nw_tf rfl rfl (at_f rfl))
          first | refine j_cond_t (at_f rfl) ?_ | refine j_cond_t (at_e (at_f rfl) (vbool (decide_eq_true c77))) ?_
          refine j_seq (j_region (y_ (yl_assign ev_c) (jl_nil (q_then (j_ret (q_block_ret (q_then_ret (q_loop_ret (q_block_ret (q_then_ret (q_ret rfl (.tmp (at_f rfl) .nil) ?_))))))))) rfl))
          exact ⟨_, ⟨vbool (by rw [refOk_no (by omega) hbad]), rfl⟩, sbt⟩
        · refine o_y rfl (yl_fa (T rfl) fa74_1) (o_y rfl (yl_load (T rfl) Tryz.isAgg3 (by first | exact c_o)) ?_ rfl (gd_y rfl rfl (at_f rfl))) rfl (gd_y rfl rfl (at_f rfl))
          refine o_y rfl (yl_fa (T rfl) fa29_1) (o_y rfl (yl_load (T rfl) Tryz.isAgg26 (by first | exact c_o)) ?_ rfl (gd_y rfl rfl (at_f rfl))) rfl (gd_y rfl rfl (at_f rfl))
          refine o_y rfl (yl_len (T rfl) Tryz.runUnderlying26) (o_y rfl (yl_geq (T rfl) (T rfl)) (o_y rfl (yl_pick_f (T rfl) (T rfl)) (o_y rfl (yl_move (T rfl)) ?_ rfl gd_n) rfl gd_n) rfl (gd_y rfl rfl (at_f rfl))) rfl (gd_y rfl rfl (at_f rfl))
          first | refine o_if_d (s := 50) (at_f rfl) (fun c50 => ?_) (fun c50 => ?_) | refine o_if (s := 50) (at_f rfl) (fun c50 => ?_) (fun c50 => ?_)
          · have hbad : ¬ PlIn n m.pl to l k := fun hq => by
              obtain ⟨q1, q2, q3, q4⟩ := hq
              omega
            refine o_n rfl (o_n rfl (o_n rfl (o_n rfl (o_n rfl (o_n rfl (o_n rfl (o_n rfl (o_n rfl (o_n rfl (o_n rfl (o_n rfl (o_y rfl (yl_pick_t (T rfl) ev_c) (o_y rfl (yl_move (T rfl)) (o_n rfl (o_n rfl (o_n rfl (o_n rfl (o_n rfl (o_n rfl (o_n rfl (o_n rfl (o_n rfl (o_n rfl (o_n rfl (o_n rfl (o_y rfl (yl_pick_t (T rfl) ev_c) (jo_nil rfl (jl_nil (q_then (j_keep [(3, _), (4, _), (6, _), (7, _), (8, _), (11, _), (19, _), (20, _), (21, _), (77, _)] ⟨at_f rfl, at_f rfl, at_f rfl, at_f rfl, at_f rfl, at_f rfl, at_f rfl, at_f rfl, at_f rfl, at_f rfl, trivial⟩ ?_)))) rfl gd_n) rfl (nw_tf rfl rfl (at_f rfl))) rfl (nw_u rfl rfl (at_f rfl))) rfl (nw_u rfl rfl (at_f rfl))) rfl (nw_u rfl rfl (at_f rfl))) rfl (nw_u rfl rfl (at_f rfl))) rfl (nw_u rfl rfl (at_f rfl))) rfl (nw_u rfl rfl (at_f rfl))) rfl (nw_tf rfl rfl (at_f rfl))) rfl (nw_tf rfl rfl (at_f rfl))) rfl (nw_tf rfl rfl (at_f rfl))) rfl (nw_tf rfl rfl (at_f rfl))) rfl (nw_tf rfl rfl (at_f rfl))) rfl gd_n) rfl gd_n) rfl (nw_tf rfl rfl (at_f rfl))) rfl (nw_u rfl rfl (at_f rfl))) rfl (nw_u rfl rfl (at_f rfl))) rfl (nw_u rfl rfl (at_f rfl))) rfl (nw_u rfl rfl (at_f rfl))) rfl (nw_u rfl rfl (at_f rfl))) rfl (nw_u rfl rfl (at_f rfl))) rfl (nw_u rfl rfl (at_f rfl))) rfl (nw_u rfl rfl (at_f rfl))) rfl (nw_tf rfl rfl (at_f rfl))) rfl (nw_tf rfl rfl (at_f rfl))) rfl (nw_tf rfl rfl (at_f rfl))
            first | refine j_cond_t (at_f rfl) ?_ | refine j_cond_t (at_e (at_f rfl) (vbool (decide_eq_true c77))) ?_
            refine j_seq (j_region (y_ (yl_assign ev_c) (jl_nil (q_then (j_ret (q_block_ret (q_then_ret (q_loop_ret (q_block_ret (q_then_ret (q_ret rfl (.tmp (at_f rfl) .nil) ?_))))))))) rfl))
            exact ⟨_, ⟨vbool (by rw [refOk_no (by omega) hbad]), rfl⟩, sbt⟩
          · refine o_y rfl (yl_move (T rfl)) (o_y rfl (yl_gtr (T rfl) ev_c) (o_y rfl (yl_move (T rfl)) ?_ rfl (gd_y rfl rfl (at_f rfl))) rfl (gd_y rfl rfl (at_f rfl))) rfl (gd_y rfl rfl (at_f rfl))
            first | refine o_if_d (s := 53) (at_f rfl) (fun c53 => ?_) (fun c53 => ?_) | refine o_if (s := 53) (at_f rfl) (fun c53 => ?_) (fun c53 => ?_)
            · have hk1 : ((k : Int) - 1).toNat = k - 1 := by omega
              refine o_y rfl (yl_load (T rfl) Tryz.isAgg59 (by first | exact c_o)) ?_ rfl (gd_y rfl rfl (at_f rfl))
              refine o_y rfl (yl_move (T rfl)) (o_y rfl (yl_sub (T rfl) ev_c (by omega)) ?_ rfl (gd_y rfl rfl (at_f rfl))) rfl (gd_y rfl rfl (at_f rfl))
              refine o_y rfl (yl_ixR (T rfl) (T rfl) Tryz.runUnderlying59 Tryz.sizeOf74 (by omega) (by first | exact rfl | exact hA.b (i := k) (by omega) | exact he.m.a3.b (i := (gd l k).2.toNat) (by omega) | exact hA.b (i := ((k : Int) - 1).toNat) (by omega))) ?_ rfl (gd_y rfl rfl (at_f rfl))
              refine o_y rfl (yl_loadA (T rfl) Tryz.isAgg74 Tryz.sizeOf74 rfl (by first | exact (hA.mono sbt).cs (i := ((k : Int) - 1).toNat) (by omega) | exact cs_o)) ?_ rfl (gd_y rfl rfl (at_f rfl))
              refine o_y rfl (yl_loadA (T rfl) Tryz.isAgg74 Tryz.sizeOf74 rfl (by first | exact cs_o)) ?_ rfl (gd_y rfl rfl (at_f rfl))
              refine o_y rfl (yl_call (.cons (T rfl) (.cons (T rfl) .nil)) Tryz.call90 (fun H' hs => cmpPl_s _ _)) (o_y rfl (yl_geq (T rfl) ev_c) (o_y rfl (yl_pick_t (T rfl) (T rfl)) (o_y rfl (yl_pick_f (T rfl) (T rfl)) (o_y rfl (yl_move (T rfl)) ?_ rfl gd_n) rfl gd_n) rfl (gd_y rfl rfl (at_f rfl))) rfl (gd_y rfl rfl (at_f rfl))) rfl (gd_y rfl rfl (at_f rfl))
              first | refine o_if_d (s := 64) (at_f rfl) (fun c64 => ?_) (fun c64 => ?_) | refine o_if (s := 64) (at_f rfl) (fun c64 => ?_) (fun c64 => ?_)
              · have hbad : ¬ PlIn n m.pl to l k := fun hq => by
                  obtain ⟨q1, q2, q3, q4⟩ := hq
                  rw [hk1] at c64; exact absurd (q3 (by omega)) (by omega)
                refine o_n rfl (o_n rfl (o_n rfl (o_n rfl (o_n rfl (o_n rfl (o_n rfl (o_n rfl (o_n rfl (o_n rfl (o_n rfl (o_n rfl (o_y rfl (yl_pick_t (T rfl) ev_c) (jo_nil rfl (jl_nil (q_then (j_keep [(3, _), (4, _), (6, _), (7, _), (8, _), (11, _), (19, _), (20, _), (21, _), (77, _)] ⟨at_f rfl, at_f rfl, at_f rfl, at_f rfl, at_f rfl, at_f rfl, at_f rfl, at_f rfl, at_f rfl, at_f rfl, trivial⟩ ?_)))) rfl gd_n) rfl (nw_tf rfl rfl (at_f rfl))) rfl (nw_u rfl rfl (at_f rfl))) rfl (nw_u rfl rfl (at_f rfl))) rfl (nw_u rfl rfl (at_f rfl))) rfl (nw_u rfl rfl (at_f rfl))) rfl (nw_u rfl rfl (at_f rfl))) rfl (nw_u rfl rfl (at_f rfl))) rfl (nw_tf rfl rfl (at_f rfl))) rfl (nw_tf rfl rfl (at_f rfl))) rfl (nw_tf rfl rfl (at_f rfl))) rfl (nw_tf rfl rfl (at_f rfl))) rfl (nw_tf rfl rfl (at_f rfl))
                first | refine j_cond_t (at_f rfl) ?_ | refine j_cond_t (at_e (at_f rfl) (vbool (decide_eq_true c77))) ?_
                refine j_seq (j_region (y_ (yl_assign ev_c) (jl_nil (q_then (j_ret (q_block_ret (q_then_ret (q_loop_ret (q_block_ret (q_then_ret (q_ret rfl (.tmp (at_f rfl) .nil) ?_))))))))) rfl))
                exact ⟨_, ⟨vbool (by rw [refOk_no (by omega) hbad]), rfl⟩, sbt⟩
              · refine o_y rfl (yl_fa0 (T rfl) fa74_0) (o_y rfl (yl_load (T rfl) Tryz.isAgg3 (by first | exact c_o)) ?_ rfl (gd_y rfl rfl (at_f rfl))) rfl (gd_y rfl rfl (at_f rfl))
                refine o_y rfl (yl_move (T rfl)) (o_y rfl (yl_eql (T rfl) (T rfl)) (o_y rfl (yl_move (T rfl)) ?_ rfl (gd_y rfl rfl (at_f rfl))) rfl (gd_y rfl rfl (at_f rfl))) rfl (gd_y rfl rfl (at_f rfl))
                first | refine o_if_d (s := 69) (at_f rfl) (fun c69 => ?_) (fun c69 => ?_) | refine o_if (s := 69) (at_f rfl) (fun c69 => ?_) (fun c69 => ?_)
                · refine o_y rfl (yl_fa (T rfl) fa29_2) (o_y rfl (yl_load (T rfl) Tryz.isAgg27 (by first | exact c_o)) ?_ rfl (gd_y rfl rfl (at_f rfl))) rfl (gd_y rfl rfl (at_f rfl))
                  refine o_y rfl (yl_fa (T rfl) fa74_1) (o_y rfl (yl_load (T rfl) Tryz.isAgg3 (by first | exact c_o)) ?_ rfl (gd_y rfl rfl (at_f rfl))) rfl (gd_y rfl rfl (at_f rfl))
                  refine o_y rfl (yl_ixR (T rfl) (T rfl) Tryz.runUnderlying27 Tryz.sizeOf4 (by omega) (by first | exact rfl | exact hA.b (i := k) (by omega) | exact he.m.a3.b (i := (gd l k).2.toNat) (by omega) | exact hA.b (i := ((k : Int) - 1).toNat) (by omega))) ?_ rfl (gd_y rfl rfl (at_f rfl))
                  refine o_y rfl (yl_load (T rfl) Tryz.isAgg4 (by first | exact c_o | exact cell1 ((he.m.a3.mono sbt).cs (i := (gd l k).2.toNat) (by omega)))) ?_ rfl (gd_y rfl rfl (at_f rfl))
                  refine o_y rfl (yl_pick_t (T rfl) (T rfl)) (o_y rfl (yl_pick_f (T rfl) (T rfl)) (jo_nil rfl (jl_nil (q_then (j_keep [(3, _), (4, _), (6, _), (7, _), (8, _), (11, _), (19, _), (20, _), (21, _), (77, _)] ⟨at_f rfl, at_f rfl, at_f rfl, at_f rfl, at_f rfl, at_f rfl, at_f rfl, at_f rfl, at_f rfl, at_f rfl, trivial⟩ ?_)))) rfl gd_n) rfl (gd_y rfl rfl (at_f rfl))
                  first | refine j_cond_d (at_f rfl) (fun c77 => ?_) (fun c77 => ?_) | refine j_cond (at_f rfl) (fun c77 => ?_) (fun c77 => ?_)
                  · have hbad : ¬ PlIn n m.pl to l k := fun hq => by
                      obtain ⟨q1, q2, q3, q4⟩ := hq
                      exact q4 ⟨by omega, c77⟩
                    refine j_seq (j_region (y_ (yl_assign ev_c) (jl_nil (q_then (j_ret (q_block_ret (q_then_ret (q_loop_ret (q_block_ret (q_then_ret (q_ret rfl (.tmp (at_f rfl) .nil) ?_))))))))) rfl))
                    exact ⟨_, ⟨vbool (by rw [refOk_no (by omega) hbad]), rfl⟩, sbt⟩
                  · have hgood : PlIn n m.pl to l k := ⟨by omega, by omega, fun hk0 => by first | (exfalso; omega) | (rw [hk1] at c64; omega), fun hq => Bool.false_ne_true (c77.symm.trans hq.2)⟩
                    refine j_skip (q_block (q_then (j_region (y_ (yl_add (T rfl) ev_c (by omega)) ?_ rfl))))
                    refine y_ (yl_move (T rfl)) (jl_nil ?_) rfl
                    refine q_loopC (k + 1) ?_ ?_ ⟨(by first | exact at_f rfl | (refine at_e (at_f rfl) (vint ?_); omega) | (refine at_e (at_f rfl) ?_; simp; done)), trivial⟩ ⟨at_f rfl, at_f rfl, at_f rfl, at_f rfl, at_f rfl, at_f rfl, at_f rfl, at_f rfl, trivial⟩ ?_
                    · refine ⟨by omega, fun j hj => ?_⟩
                      by_cases e : j = k
                      · subst e; exact hgood
                      · exact hall j (by omega)
                    · first | omega | (simp only []; omega)
                    · exact sbt
                · have hgood : PlIn n m.pl to l k := ⟨by omega, by omega, fun hk0 => by first | (exfalso; omega) | (rw [hk1] at c64; omega), fun hq => c69 hq.1⟩
                  refine o_n rfl (o_n rfl (o_n rfl (o_n rfl (o_n rfl (o_n rfl (o_y rfl (yl_pick_f (T rfl) ev_c) (o_y rfl (yl_pick_f (T rfl) (T rfl)) (jo_nil rfl (jl_nil (q_then (j_keep [(3, _), (4, _), (6, _), (7, _), (8, _), (11, _), (19, _), (20, _), (21, _), (77, _)] ⟨at_f rfl, at_f rfl, at_f rfl, at_f rfl, at_f rfl, at_f rfl, at_f rfl, at_f rfl, at_f rfl, at_f rfl, trivial⟩ ?_)))) rfl gd_n) rfl (gd_y rfl rfl (at_f rfl))) rfl (nw_ft rfl rfl (at_f rfl))) rfl (nw_ft rfl rfl (at_f rfl))) rfl (nw_ft rfl rfl (at_f rfl))) rfl (nw_ft rfl rfl (at_f rfl))) rfl (nw_ft rfl rfl (at_f rfl))) rfl (nw_ft rfl rfl (at_f rfl))
                  first | refine j_cond_f (at_f rfl) ?_ | refine j_cond_f (at_e (at_f rfl) (vbool (decide_eq_false c77))) ?_
                  refine j_skip (q_block (q_then (j_region (y_ (yl_add (T rfl) ev_c (by omega)) ?_ rfl))))
                  refine y_ (yl_move (T rfl)) (jl_nil ?_) rfl
                  refine q_loopC (k + 1) ?_ ?_ ⟨(by first | exact at_f rfl | (refine at_e (at_f rfl) (vint ?_); omega) | (refine at_e (at_f rfl) ?_; simp; done)), trivial⟩ ⟨at_f rfl, at_f rfl, at_f rfl, at_f rfl, at_f rfl, at_f rfl, at_f rfl, at_f rfl, trivial⟩ ?_
                  · refine ⟨by omega, fun j hj => ?_⟩
                    by_cases e : j = k
                    · subst e; exact hgood
                    · exact hall j (by omega)
                  · first | omega | (simp only []; omega)
                  · exact sbt
            · refine o_n rfl (o_n rfl (o_n rfl (o_n rfl (o_n rfl (o_n rfl (o_n rfl (o_n rfl (o_y rfl (yl_pick_f (T rfl) ev_c) (o_y rfl (yl_pick_f (T rfl) (T rfl)) (o_y rfl (yl_move (T rfl)) (o_y rfl (yl_fa0 (T rfl) fa74_0) (o_y rfl (yl_load (T rfl) Tryz.isAgg3 (by first | exact c_o)) ?_ rfl (gd_y rfl rfl (at_f rfl))) rfl (gd_y rfl rfl (at_f rfl))) rfl gd_n) rfl gd_n) rfl (gd_y rfl rfl (at_f rfl))) rfl (nw_ft rfl rfl (at_f rfl))) rfl (nw_ft rfl rfl (at_f rfl))) rfl (nw_ft rfl rfl (at_f rfl))) rfl (nw_ft rfl rfl (at_f rfl))) rfl (nw_ft rfl rfl (at_f rfl))) rfl (nw_ft rfl rfl (at_f rfl))) rfl (nw_ft rfl rfl (at_f rfl))) rfl (nw_ft rfl rfl (at_f rfl))
              refine o_y rfl (yl_move (T rfl)) (o_y rfl (yl_eql (T rfl) (T rfl)) (o_y rfl (yl_move (T rfl)) ?_ rfl (gd_y rfl rfl (at_f rfl))) rfl (gd_y rfl rfl (at_f rfl))) rfl (gd_y rfl rfl (at_f rfl))
              first | refine o_if_d (s := 69) (at_f rfl) (fun c69 => ?_) (fun c69 => ?_) | refine o_if (s := 69) (at_f rfl) (fun c69 => ?_) (fun c69 => ?_)
              · refine o_y rfl (yl_fa (T rfl) fa29_2) (o_y rfl (yl_load (T rfl) Tryz.isAgg27 (by first | exact c_o)) ?_ rfl (gd_y rfl rfl (at_f rfl))) rfl (gd_y rfl rfl (at_f rfl))
                refine o_y rfl (yl_fa (T rfl) fa74_1) (o_y rfl (yl_load (T rfl) Tryz.isAgg3 (by first | exact c_o)) ?_ rfl (gd_y rfl rfl (at_f rfl))) rfl (gd_y rfl rfl (at_f rfl))
                refine o_y rfl (yl_ixR (T rfl) (T rfl) Tryz.runUnderlying27 Tryz.sizeOf4 (by omega) (by first | exact rfl | exact hA.b (i := k) (by omega) | exact he.m.a3.b (i := (gd l k).2.toNat) (by omega) | exact hA.b (i := ((k : Int) - 1).toNat) (by omega))) ?_ rfl (gd_y rfl rfl (at_f rfl))
                refine o_y rfl (yl_load (T rfl) Tryz.isAgg4 (by first | exact c_o | exact cell1 ((he.m.a3.mono sbt).cs (i := (gd l k).2.toNat) (by omega)))) ?_ rfl (gd_y rfl rfl (at_f rfl))
                refine o_y rfl (yl_pick_t (T rfl) (T rfl)) (o_y rfl (yl_pick_f (T rfl) (T rfl)) (jo_nil rfl (jl_nil (q_then (j_keep [(3, _), (4, _), (6, _), (7, _), (8, _), (11, _), (19, _), (20, _), (21, _), (77, _)] ⟨at_f rfl, at_f rfl, at_f rfl, at_f rfl, at_f rfl, at_f rfl, at_f rfl, at_f rfl, at_f rfl, at_f rfl, trivial⟩ ?_)))) rfl gd_n) rfl (gd_y rfl rfl (at_f rfl))
                first | refine j_cond_d (at_f rfl) (fun c77 => ?_) (fun c77 => ?_) | refine j_cond (at_f rfl) (fun c77 => ?_) (fun c77 => ?_)
                · have hbad : ¬ PlIn n m.pl to l k := fun hq => by
                    obtain ⟨q1, q2, q3, q4⟩ := hq
                    exact q4 ⟨by omega, c77⟩
                  refine j_seq (j_region (y_ (yl_assign ev_c) (jl_nil (q_then (j_ret (q_block_ret (q_then_ret (q_loop_ret (q_block_ret (q_then_ret (q_ret rfl (.tmp (at_f rfl) .nil) ?_))))))))) rfl))
                  exact ⟨_, ⟨vbool (by rw [refOk_no (by omega) hbad]), rfl⟩, sbt⟩
                · have hgood : PlIn n m.pl to l k := ⟨by omega, by omega, fun hk0 => by first | (exfalso; omega) | (rw [hk1] at c64; omega), fun hq => Bool.false_ne_true (c77.symm.trans hq.2)⟩
                  refine j_skip (q_block (q_then (j_region (y_ (yl_add (T rfl) ev_c (by omega)) ?_ rfl))))
                  refine y_ (yl_move (T rfl)) (jl_nil ?_) rfl
                  refine q_loopC (k + 1) ?_ ?_ ⟨(by first | exact at_f rfl | (refine at_e (at_f rfl) (vint ?_); omega) | (refine at_e (at_f rfl) ?_; simp; done)), trivial⟩ ⟨at_f rfl, at_f rfl, at_f rfl, at_f rfl, at_f rfl, at_f rfl, at_f rfl, at_f rfl, trivial⟩ ?_
                  · refine ⟨by omega, fun j hj => ?_⟩
                    by_cases e : j = k
                    · subst e; exact hgood
                    · exact hall j (by omega)
                  · first | omega | (simp only []; omega)
                  · exact sbt
              · have hgood : PlIn n m.pl to l k := ⟨by omega, by omega, fun hk0 => by first | (exfalso; omega) | (rw [hk1] at c64; omega), fun hq => c69 hq.1⟩
                refine o_n rfl (o_n rfl (o_n rfl (o_n rfl (o_n rfl (o_n rfl (o_y rfl (yl_pick_f (T rfl) ev_c) (o_y rfl (yl_pick_f (T rfl) (T rfl)) (jo_nil rfl (jl_nil (q_then (j_keep [(3, _), (4, _), (6, _), (7, _), (8, _), (11, _), (19, _), (20, _), (21, _), (77, _)] ⟨at_f rfl, at_f rfl, at_f rfl, at_f rfl, at_f rfl, at_f rfl, at_f rfl, at_f rfl, at_f rfl, at_f rfl, trivial⟩ ?_)))) rfl gd_n) rfl (gd_y rfl rfl (at_f rfl))) rfl (nw_ft rfl rfl (at_f rfl))) rfl (nw_ft rfl rfl (at_f rfl))) rfl (nw_ft rfl rfl (at_f rfl))) rfl (nw_ft rfl rfl (at_f rfl))) rfl (nw_ft rfl rfl (at_f rfl))) rfl (nw_ft rfl rfl (at_f rfl))
                first | refine j_cond_f (at_f rfl) ?_ | refine j_cond_f (at_e (at_f rfl) (vbool (decide_eq_false c77))) ?_
                refine j_skip (q_block (q_then (j_region (y_ (yl_add (T rfl) ev_c (by omega)) ?_ rfl))))
                refine y_ (yl_move (T rfl)) (jl_nil ?_) rfl
                refine q_loopC (k + 1) ?_ ?_ ⟨(by first | exact at_f rfl | (refine at_e (at_f rfl) (vint ?_); omega) | (refine at_e (at_f rfl) ?_; simp; done)), trivial⟩ ⟨at_f rfl, at_f rfl, at_f rfl, at_f rfl, at_f rfl, at_f rfl, at_f rfl, at_f rfl, trivial⟩ ?_
                · refine ⟨by omega, fun j hj => ?_⟩
                  by_cases e : j = k
                  · subst e; exact hgood
                  · exact hall j (by omega)
                · first | omega | (simp only []; omega)
                · exact sbt
  · have hall2 : ∀ j, j < l.length → PlIn n m.pl to l j := fun j hj => hall j (by omega)
    have hsr : SrtP l := srtP_of fun j h0 hj => (hall2 j hj).2.2.1 h0
    refine j_exit (q_then_exit (q_loop_exit (q_block_hit (q_then (j_seq (j_region (e_ (eff_alloc Tryz.zeroValue4 cs_) ?_ rfl)))))))
    rintro _ _ ⟨n15, rfl, rfl⟩
    first | refine jl_e (eff_sW (T rfl) ev_c Tryz.sizeOf4) rfl gd_n ?_ | refine jl_e (eff_s1 (T rfl) ev_c rfl Tryz.sizeOf4) rfl gd_n ?_ | refine jl_e (eff_s1r (T rfl) ev_c rfl Tryz.sizeOf4) rfl gd_n ?_
    rintro _ _ ⟨rfl, rfl⟩
    refine jl_nil (q_then (j_seq (j_region (y_ (yl_makeFunc (.cons (T rfl) (.cons (T rfl) .nil))) (y_ (yl_assign (T rfl)) (jl_nil (q_then ?_)) rfl) rfl))))
    refine j_cutC (X := Unit) (V := fun _ => []) (C := [(6, _), (7, _), (8, _), (11, _), (15, _), (16, _)]) (G := fun _ => (n15, Cl [.bool (decide (f.node = (x : Int)) || decide (toI (p0F n m.pl x) ∈ l))] 4) :: (n11, Cl [.slice q l.length c] 59) :: (n8, Cl (encMc m) 29) :: (n7, Cl (encFl f) 58) :: (n6, Cl (encNn n) 56) :: H) (φ := fun _ => True) ⟨at_f rfl, at_f rfl, at_f rfl, at_f rfl, at_f rfl, at_f rfl, trivial⟩ ?_ ?_
    · refine j_seq (j_region (y_ (yl_fa (T rfl) fa58_1) (y_ (yl_load (T rfl) Tryz.isAgg3 (by first | exact c_o)) ?_ rfl) rfl))
      refine y_ (yl_move (T rfl)) (y_ (yl_neq (T rfl) (T rfl)) (jl_nil (q_then ?_)) rfl) rfl
      first | refine j_cond_d (at_f rfl) (fun c83 => ?_) (fun c83 => ?_) | refine j_cond (at_f rfl) (fun c83 => ?_) (fun c83 => ?_)
      · have hb0 : (decide (f.node = (x : Int)) || decide (toI (p0F n m.pl x) ∈ l)) = (true && decide (toI (p0F n m.pl x) ∈ l)) := by rw [decide_eq_false c83]; rfl
        refine j_region (y_ (yl_move (T rfl)) (y_ (yl_loadA (T rfl) Tryz.isAgg56 Tryz.sizeOf56 rfl (by first | exact cs_o)) ?_ rfl) rfl)
        refine y_ (yl_loadA (T rfl) Tryz.isAgg29 Tryz.sizeOf29 rfl (by first | exact cs_o)) ?_ rfl
        refine y_ (yl_move (T rfl)) (y_ (yl_call (.cons (T rfl) (.cons (T rfl) (.cons (T rfl) .nil))) Tryz.call79 (fun H' hs => begin_s n m (he.n.mono (List.Sublist.trans sbt hs)) (he.m.mono (List.Sublist.trans sbt hs)) ho.om ho.sr ho.ln x hx)) ?_ rfl) rfl
        refine e_ (eff_callV (T rfl) (.cons (T rfl) (.cons ev_c .nil)) Tryz.call92 (spec_atF [(n15, Cl [.bool true] 4)] loc1 (must_at l q c (hA.mono sbt) hlen hsr (toI (p0F n m.pl x)) 0 true n11 n15 (by repeat (first | exact fnd_h | refine fnd_t ?_ | refine fnd_a ?_))))) ?_ rfl
        rintro _ _ ⟨_, _, rfl⟩
        refine jl_nil (q_cutC (()) ?_ trivial ⟨at_f rfl, at_f rfl, at_f rfl, at_f rfl, at_f rfl, at_f rfl, trivial⟩ (by simp only [hb0]; exact sbt))
        trivial
      · have hb0 : (decide (f.node = (x : Int)) || decide (toI (p0F n m.pl x) ∈ l)) = true := by rw [decide_eq_true (Classical.not_not.1 c83)]; rfl
        refine j_skip (q_cutC (()) ?_ trivial ⟨at_f rfl, at_f rfl, at_f rfl, at_f rfl, at_f rfl, at_f rfl, trivial⟩ (by simp only [hb0]; exact sbt))
        trivial
    rintro _ _
    refine j_seq (j_seq (j_region (y_ (yl_load (T rfl) Tryz.isAgg59 (by first | exact c_o)) ?_ rfl)))
    refine y_ (yl_len (T rfl) Tryz.runUnderlying59) (y_ (yl_move ev_c) (jl_nil (q_then (j_block ?_))) rfl) rfl
    refine j_loopC (X := Nat) (V := fun k => [(92, .int .i64 (k : Nat))]) (C := [(6, _), (7, _), (8, _), (15, _), (16, _), (90, _), (91, _)]) (G := fun k => (n15, Cl [.bool ((decide (f.node = (x : Int)) || decide (toI (p0F n m.pl x) ∈ l)) && okK n f m.pl l k)] 4) :: (n11, Cl [.slice q l.length c] 59) :: (n8, Cl (encMc m) 29) :: (n7, Cl (encFl f) 58) :: (n6, Cl (encNn n) 56) :: H) (φ := fun k => k ≤ l.length) (μ := fun k => l.length - k) (x0 := 0) ?_ ⟨at_f rfl, at_f rfl, at_f rfl, at_f rfl, at_f rfl, at_f rfl, at_f rfl, trivial⟩ ⟨(by first | exact at_f rfl | (refine at_e (at_f rfl) (vint ?_); omega) | (refine at_e (at_f rfl) ?_; simp; done)), trivial⟩ (by rw [show okK n f m.pl l 0 = true from rfl, Bool.and_true]; exact sbt) ?_
    · exact Nat.zero_le _
    rintro k hk2
    refine j_seq (j_region (y_ (yl_lss (T rfl) (T rfl)) (jl_nil (q_then (j_seq ?_))) rfl))
    first | refine j_cond_d (at_f rfl) (fun c93 => ?_) (fun c93 => ?_) | refine j_cond (at_f rfl) (fun c93 => ?_) (fun c93 => ?_)
    · have hin := hall2 k (by omega)
      have hpk : gd l k = toI (toN (gd l k)) := by
        obtain ⟨⟨a1, _⟩, ⟨a2, _⟩, _, _⟩ := hin
        show gd l k = (((gd l k).1.toNat : Int), ((gd l k).2.toNat : Int))
        rw [Int.toNat_of_nonneg a1, Int.toNat_of_nonneg a2]
      have hpd : PlOk n m.pl (toN (gd l k)) := by
        obtain ⟨⟨a1, a3⟩, ⟨a2, a4⟩, _, _⟩ := hin
        refine ⟨?_, ?_⟩
        · show (gd l k).1.toNat < _; omega
        · show (gd l k).2.toNat < _; omega
      have hoks := okK_succ (n := n) (f := f) (m := m.pl) (l := l) (k := k) (by omega)
      refine j_skip (q_then (j_seq (j_block (j_seq (j_region (y_ (yl_ixQ (T rfl) (T rfl) Tryz.runUnderlying59 Tryz.sizeOf74 (by omega) (by first | exact rfl | exact hA.b (i := k) (by omega) | exact he.m.a3.b (i := (gd l k).2.toNat) (by omega) | exact hA.b (i := ((k : Int) - 1).toNat) (by omega))) ?_ rfl))))))
      refine y_ (yl_loadA (T rfl) Tryz.isAgg74 Tryz.sizeOf74 rfl (by first | exact cells_pl hpk ((hA.mono sbt).cs (i := k) (by omega)) | exact cs_o)) ?_ rfl
      refine e_ (eff_alloc Tryz.zeroValue74 cs_) ?_ rfl
      rintro _ _ ⟨n18, rfl, rfl⟩
      first | refine jl_e (eff_sW (T rfl) (T rfl) Tryz.sizeOf74) rfl gd_n ?_
      rintro _ _ ⟨rfl, rfl⟩
      refine jl_nil (q_then (j_any 6 [(0, true), (1, true), (2, true), (4, true), (5, true), (3, false)] _ mixd (by kernel_rfl) sb0 ?_))
      refine o_y rfl (yl_loadA (T rfl) Tryz.isAgg56 Tryz.sizeOf56 rfl (by first | exact cs_o)) ?_ rfl gd_n
      refine o_y rfl (yl_loadA (T rfl) Tryz.isAgg58 Tryz.sizeOf58 rfl (by first | exact cs_o)) ?_ rfl gd_n
      refine o_y rfl (yl_loadA (T rfl) Tryz.isAgg29 Tryz.sizeOf29 rfl (by first | exact cs_o)) ?_ rfl gd_n
      refine o_y rfl (yl_loadA (T rfl) Tryz.isAgg74 Tryz.sizeOf74 rfl (by first | exact cs_o)) ?_ rfl gd_n
      refine o_y rfl (yl_move (T rfl)) (o_e rfl (eff_call (.cons (T rfl) (.cons (T rfl) (.cons (T rfl) .nil))) Tryz.call80 (moves_s n f m)) ?_ rfl gd_n) rfl gd_n
      rintro _ _ ⟨b3, b4, b5, rfl, rfl⟩
      refine ⟨sbt, (jo_nil rfl ?_)⟩
      refine e_ (eff_callV (T rfl) (.cons (T rfl) (.cons (T rfl) .nil)) Tryz.call127 (spec_atF [(n15, Cl [.bool ((decide (f.node = (x : Int)) || decide (toI (p0F n m.pl x) ∈ l)) && okK n f m.pl l k)] 4)] loc5 (moves1_s n f m (he.mono sbt) ho b3 b4 b5 (by repeat (first | exact fnd_h | refine fnd_t ?_ | refine fnd_a ?_)) (by repeat (first | exact fnd_h | refine fnd_t ?_ | refine fnd_a ?_)) (by repeat (first | exact fnd_h | refine fnd_t ?_ | refine fnd_a ?_)) (toN (gd l k)) hpd 92 [.pointer (some ⟨n11, 0, none⟩), .pointer (some ⟨n15, 0, none⟩)] (fun j M => M = [(n15, Cl [.bool (((decide (f.node = (x : Int)) || decide (toI (p0F n m.pl x) ∈ l)) && okK n f m.pl l k) && allIn l ((movesF n f m.pl (toN (gd l k))).take j))] 4)]) _ _ (List.Sublist.refl _) Tryz.call92 (by simp [allIn]) (mustV l q c (hA.mono sbt) hlen hsr _ _ n11 n15 (by repeat (first | exact fnd_h | refine fnd_t ?_ | refine fnd_a ?_)))))) ?_ rfl
      rintro _ _ ⟨_, rfl, rfl⟩
      rw [List.take_length]
      refine jl_nil (q_block (q_then (j_region (y_ (yl_add (T rfl) ev_c (by omega)) ?_ rfl))))
      refine y_ (yl_move (T rfl)) (jl_nil ?_) rfl
      refine q_loopC (k + 1) ?_ ?_ ⟨(by first | exact at_f rfl | (refine at_e (at_f rfl) (vint ?_); omega) | (refine at_e (at_f rfl) ?_; simp; done)), trivial⟩ ⟨at_f rfl, at_f rfl, at_f rfl, at_f rfl, at_f rfl, at_f rfl, at_f rfl, trivial⟩ ?_
      · show k + 1 ≤ _; omega
      · first | omega | (simp only []; omega)
      · simp only [hoks, ← Bool.and_assoc]; exact sbt
    · refine j_exit (q_then_exit (q_loop_exit (q_block_hit (q_then (j_seq (j_region (y_ (yl_load (T rfl) Tryz.isAgg4 (by first | exact c_o)) ?_ rfl)))))))
      refine y_ (yl_assign (T rfl)) (jl_nil (q_then (j_ret (q_ret rfl (.tmp (at_f rfl) .nil) ?_)))) rfl
      have hk3 : k = l.length := by omega
      exact ⟨_, ⟨vbool (by rw [refOk_eq hall2, hk3]), rfl⟩, sbt⟩
end Go.Proofs.YtkdolgnpkjihpaaGreatDoor
namespace Go.Proofs.YtkdolgnpkjihpaaGreatDoor
set_option linter.unusedVariables false
set_option linter.unusedSimpArgs false
theorem leU_or {a b : List UInt8} (h : a ≤ b) : a < b ∨ a = b := by
  by_cases e : a = b
  · exact .inr e
  · exact .inl (Std.lt_of_le_of_ne h e)
theorem ltU_of_le_lt {a b c : List UInt8} (h1 : a ≤ b) (h2 : b < c) : a < c := by
  rcases leU_or h1 with h | rfl
  · exact ltU_trans h h2
  · exact h2
theorem compact_incrU (l : List (List UInt8)) (h : l.Pairwise (· ≤ ·)) : (Lib.compact l).Pairwise (· < ·) ∧ ∀ x, x ∈ Lib.compact l ↔ x ∈ l := by
  have mono : ∀ (i j : Nat) (hij : i < j) (hj : j < l.length), l[i]'(by omega) ≤ l[j] := fun i j hij hj => List.pairwise_iff_getElem.1 h i j (by omega) hj hij
  unfold Lib.compact Lib.compactUpTo
  refine ⟨?_, fun x => ?_⟩
  · rw [List.pairwise_map]
    have hr : (List.range l.length).Pairwise (· < ·) := List.pairwise_lt_range
    refine (hr.filter _).imp_of_mem ?_
    intro a b ha hb hab
    simp only [List.mem_filter, List.mem_range] at ha hb
    have hk := hb.2
    unfold Lib.keeps at hk
    simp only [decide_eq_true_eq] at hk
    have hb1 := hb.1
    have e1 : l.toArray[a]! = l[a]'(by omega) := by simp [show a < l.length by omega]
    have e2 : l.toArray[b]! = l[b] := by simp [hb1]
    have e3 : l.toArray[b - 1]! = l[b - 1]'(by omega) := by simp [show b - 1 < l.length by omega]
    rw [e1, e2]
    rcases hk with hk | hk
    · omega
    · rw [e2, e3] at hk
      have h1 := mono (b - 1) b (by omega) hb1
      have h3 : l[b - 1]'(by omega) < l[b] := by
        rcases leU_or h1 with h | h
        · exact h
        · exact absurd h.symm hk
      by_cases hab' : a = b - 1
      · subst hab'; exact h3
      · exact ltU_of_le_lt (mono a (b - 1) (by omega) (by omega)) h3
  · simp only [List.mem_map, List.mem_filter, List.mem_range]
    constructor
    · rintro ⟨i, ⟨hi, _⟩, rfl⟩
      rw [show l.toArray[i]! = l[i] by simp [hi]]
      exact List.getElem_mem _
    · intro hx
      obtain ⟨i, hi, hxi⟩ := List.getElem_of_mem hx
      have key : ∀ (i : Nat) (hi : i < l.length), l[i] = x → ∃ a, (a < l.length ∧ Lib.keeps l.toArray a = true) ∧ l.toArray[a]! = x := by
        intro i
        induction i with
        | zero => intro hi hxi; exact ⟨0, ⟨hi, by simp [Lib.keeps]⟩, by simp [hi, hxi]⟩
        | succ i ih =>
          intro hi hxi
          by_cases hs : l[i]'(by omega) = x
          · exact ih (by omega) hs
          · refine ⟨i + 1, ⟨hi, ?_⟩, by simp [hi, hxi]⟩
            unfold Lib.keeps
            simp [hi, show i < l.length by omega]
            intro h; exact hs (by rw [← h, hxi])
      exact key i hi hxi
theorem leU_trans {a b c : List UInt8} (h1 : a ≤ b) (h2 : b ≤ c) : a ≤ c := List.le_trans h1 h2
theorem leU_total (a b : List UInt8) : a ≤ b ∨ b ≤ a := List.le_total a b
theorem cs_srt (l : List ByteArray) : Srt (cptB (srtB l)) ∧ ∀ x, x ∈ cptB (srtB l) ↔ x ∈ l := by
  have hp : (srtU (l.map toL)).Pairwise (· ≤ ·) := by
    have := List.pairwise_mergeSort (le := fun x y : List UInt8 => decide (x ≤ y)) (by intro a b c; simp only [decide_eq_true_eq]; exact leU_trans) (by intro a b; simp only [Bool.or_eq_true, decide_eq_true_eq]; exact leU_total a b) (l.map toL)
    exact this.imp fun h => by simpa using h
  obtain ⟨h1, h2⟩ := compact_incrU _ hp
  have e : cptB (srtB l) = (Lib.compact (srtU (l.map toL))).map ofL := by
    unfold cptB srtB; rw [map_to_of]
  rw [e]
  refine ⟨?_, fun x => ?_⟩
  · unfold Srt; rw [List.pairwise_map]; exact h1
  · rw [List.mem_map]
    constructor
    · rintro ⟨u, hu, rfl⟩
      rw [h2, List.mem_mergeSort, List.mem_map] at hu
      obtain ⟨y, hy, rfl⟩ := hu
      exact hy
    · intro hx
      exact ⟨toL x, (h2 _).2 (List.mem_mergeSort.2 (List.mem_map_of_mem hx)), rfl⟩
def Re.nms : Re → List ByteArray
  | .emp => []
  | .nod s => [s]
  | .any => []
  | .seq a b => a.nms ++ b.nms
  | .alt a b => a.nms ++ b.nms
  | .star a => a.nms
theorem letF_srt : ∀ e : Re, Srt (letF e)
  | .emp => (cs_srt _).1
  | .nod _ => (cs_srt _).1
  | .any => (cs_srt _).1
  | .seq _ _ => (cs_srt _).1
  | .alt _ _ => (cs_srt _).1
  | .star _ => (cs_srt _).1
theorem letF_mem (x : ByteArray) : ∀ e : Re, x ∈ letF e ↔ x ∈ e.nms
  | .emp => (cs_srt _).2 x
  | .nod _ => (cs_srt _).2 x
  | .any => (cs_srt _).2 x
  | .seq a b => by rw [show letF (.seq a b) = cptB (srtB (letF a ++ letF b)) from rfl, (cs_srt _).2 x, List.mem_append, letF_mem x a, letF_mem x b]; simp [Re.nms]
  | .alt a b => by rw [show letF (.alt a b) = cptB (srtB (letF a ++ letF b)) from rfl, (cs_srt _).2 x, List.mem_append, letF_mem x a, letF_mem x b]; simp [Re.nms]
  | .star a => by rw [show letF (.star a) = cptB (srtB (letF a)) from rfl, (cs_srt _).2 x, letF_mem x a]; rfl
structure NumInv (m : PM) (b order : List Nat) (k : Nat) (rows : List (List Nat)) (acc : List Bool) : Prop where
  ord : OrdOk m b order
  kl : k ≤ order.length
  rl : rows.length = k
  al : acc.length = k
  row : ∀ r ∈ rows, r.length = m.names.length + 1 ∧ ∀ s ∈ r, s < order.length
theorem numK_lt (b tos order : List Nat) : ∀ i, (∀ s ∈ (numK b tos order i).2, s < (numK b tos order i).1.length) ∧ order.length ≤ (numK b tos order i).1.length
  | 0 => ⟨(fun s hs => by cases hs), Nat.le_refl _⟩
  | i + 1 => by
    obtain ⟨h1, h2⟩ := numK_lt b tos order i
    have hm := idx_lt (numK_mem b tos order i)
    rw [numK_idx, List.length_map] at hm
    have hle : (numK b tos order i).1.length ≤ (numK b tos order (i + 1)).1.length := by
      rw [numK_succ]; simp only []; split <;> simp
    refine ⟨fun s hs => ?_, by omega⟩
    rw [show (numK b tos order (i + 1)).2 = (numK b tos order i).2 ++ [idx ((numK b tos order i).1.map (gd b)) (gd b (gd tos i))] from rfl] at hs
    simp only [List.mem_append, List.mem_cons, List.not_mem_nil, or_false] at hs
    rcases hs with hs | rfl
    · have := h1 s hs; omega
    · exact hm
theorem numGo_ok {m : PM} (hp : PMok m) {b : List Nat} : ∀ (f k : Nat) (order : List Nat) (rows : List (List Nat)) (acc : List Bool), NumInv m b order k rows acc → 0 < order.length → 200 < f + k →
    0 < (numGo m b f k order rows acc).1.length ∧ (numGo m b f k order rows acc).1.length ≤ m.next.length ∧ (numGo m b f k order rows acc).2.length = (numGo m b f k order rows acc).1.length ∧ ∀ r ∈ (numGo m b f k order rows acc).1, r.length = m.names.length + 1 ∧ ∀ s ∈ r, s < (numGo m b f k order rows acc).1.length
  | 0, k, order, rows, acc, h, _, hf => by
    have h1 := h.ord.few
    have h2 := hp.few
    have := h.kl; omega
  | f + 1, k, order, rows, acc, h, h0, hf => by
    rw [numGo_succ]
    split
    · rename_i hk
      have hok := h.ord.lt (gd order k) (gd_mem hk)
      obtain ⟨hr1, hr2⟩ := hp.row (gd m.next (gd order k)) (gd_mem hok)
      obtain ⟨g1, g2, g3⟩ := h.ord.step hr2 (gd m.next (gd order k)).length (Nat.le_refl _)
      obtain ⟨e1, e2⟩ := numK_lt b (gd m.next (gd order k)) order (gd m.next (gd order k)).length
      refine numGo_ok hp f (k + 1) _ _ _ ⟨g1, by omega, by simp [h.rl], by simp [h.al], fun r hr => ?_⟩ (by omega) (by omega)
      simp only [List.mem_append, List.mem_cons, List.not_mem_nil, or_false] at hr
      rcases hr with hr | rfl
      · exact ⟨(h.row r hr).1, fun s hs => Nat.lt_of_lt_of_le ((h.row r hr).2 s hs) e2⟩
      · exact ⟨by rw [g2, hr1], e1⟩
    · rename_i hk
      have hkk : k = order.length := by have := h.kl; omega
      have h1 := h.ord.few
      have h2 := h.rl
      have h3 := h.al
      refine ⟨by simp only []; omega, by simp only []; omega, by simp only []; omega, fun r hr => ?_⟩
      simp only [] at hr ⊢
      exact ⟨(h.row r hr).1, fun s hs => by have := (h.row r hr).2 s hs; omega⟩
theorem numF_ok {m : PM} (hp : PMok m) (b : List Nat) : PMok (numF m b) := by
  have h0 : NumInv m b [0] 0 [] [] := ⟨⟨by simp, fun s hs => by
    simp only [List.mem_cons, List.not_mem_nil, or_false] at hs
    subst hs; exact hp.some'⟩, Nat.zero_le _, rfl, rfl, fun r hr => by cases hr⟩
  obtain ⟨h1, h2, h3, h4⟩ := numGo_ok hp 201 0 [0] [] [] h0 (by decide) (by omega)
  exact ⟨h1, Nat.le_trans h2 hp.few, h3, h4⟩
theorem leastF_ok {m : PM} (hp : PMok m) : PMok (leastF m) := numF_ok hp _
theorem rawGo_ok {t : Tr} {e : En} {names : List ByteArray} (ht : TrOk t) (hw : Low t) (he : e.first < 2 ^ t.names.length) : ∀ (f k : Nat) (l : List St) (rows : List (List Nat)) (acc : List Bool) (r : List (List Nat) × List Bool), RawInv t e names k l rows acc → rawGo t e names f k l rows acc = some r → PMok ⟨names, r.1, r.2⟩
  | 0, _, _, _, _, _, _, h => by cases h
  | f + 1, k, l, rows, acc, r, hi, h => by
    rw [rawGo_succ] at h
    split at h
    · rename_i hk
      split at h
      · cases h
      · rename_i hf
        exact rawGo_ok ht hw he f (k + 1) _ _ _ r (hi.next ht hw he hk hf) h
    · rename_i hk
      cases h
      exact hi.done hk
theorem rawF_ok {e : Re} (hl : e.lv ≤ 64) {r : List (List Nat) × List Bool} (h : rawF e = some r) : PMok ⟨letF e, r.1, r.2⟩ := by
  obtain ⟨hx1, hx2, hx3, hx4⟩ := add_ok e t00_ok (by show 0 + e.lv ≤ 64; omega)
  have hxw := add_low e t00_ok (by show 0 + e.lv ≤ 64; omega) t00_low
  rw [← hx2] at hx3
  exact rawGo_ok hx1 hxw hx3 201 0 _ _ _ r (raw_start _ _ _) h
theorem build_ok {e : Re} (hl : e.lv ≤ 64) (h : (buildF leastF e).2 = 0) : PMok (buildF leastF e).1 ∧ Srt (buildF leastF e).1.names := by
  unfold buildF at *
  cases hr : rawF e with
  | none => rw [hr] at h; cases h
  | some r =>
    simp only []
    have := leastF_ok (rawF_ok hl hr)
    exact ⟨⟨this.some', this.few, this.acc, this.row⟩, letF_srt e⟩
theorem build_names {e : Re} (h : (buildF leastF e).2 = 0) : (buildF leastF e).1.names = letF e := by
  unfold buildF at *
  cases hr : rawF e with
  | none => rw [hr] at h; cases h
  | some r => rfl
end Go.Proofs.YtkdolgnpkjihpaaGreatDoor
namespace Go.Proofs.YtkdolgnpkjihpaaGreatDoor
open Go.RowKit
set_option linter.unusedVariables false
set_option linter.unusedSimpArgs false
theorem bd115_0_1 (a0 : Int) (a1 : Int) (w : World) : (Instr.build 115 #[(0, .int .i64 a0), (1, .int .i64 a1)]).run Tryz.prog w = .ok (.agg #[.int .i64 a0, .int .i64 a1]) w := by kernel_rfl
theorem yl_neB {w0 : World} {L : Fm} {H : List (Nat × Obj)} {ty yt : TypeId} {x y : Operand} {a b : Bool} (hx : Ev L x (.bool a)) (hy : Ev L y (.bool b)) : Yl Tryz.prog w0 (.binOp .neq 4 x y yt) ty L H (.bool (a != b)) := yl_pure rfl fun b' w => by
  have e : (Op.equal 4 (.bool a) (.bool b)).run Tryz.prog w = .ok (a == b) w := run_equalIn_bool w 9999 4 a b (by kernel_rfl)
  simp [exO, execOp, hx b', hy b', binOp, eqGuard, Sem.run_bind, Result.andThen, e, bne]
def stepsF (a b : PM) (all : List ByteArray) (p : Pl) : List (Pl × ByteArray) := all.map fun s => ((afterF a p.1 s, afterF b p.2 s), s)
def DuOk (a b : PM) (p : Pl) : Prop := p.1 < a.next.length ∧ p.2 < b.next.length
theorem steps_ok {a b : PM} (ha : PMok a) (hb : PMok b) (all : List ByteArray) (p : Pl) (h : DuOk a b p) : ∀ x ∈ stepsF a b all p, DuOk a b x.1 := by
  intro x hx
  unfold stepsF at hx
  obtain ⟨s, _, rfl⟩ := List.mem_map.1 hx
  exact ⟨after_lt ha h.1 s, after_lt hb h.2 s⟩
def difF (a b : PM) (p : Pl) : Bool := gd a.acc p.1 != gd b.acc p.2
theorem steps_get {a b : PM} {all : List ByteArray} {p : Pl} {i : Nat} (h : i < all.length) : (stepsF a b all p)[i]? = some ((afterF a p.1 (gd all i), afterF b p.2 (gd all i)), gd all i) := by
  unfold stepsF; rw [List.getElem?_map, gd_get h]; rfl
theorem cells2_0 {w0 : World} {H : List (Nat × Obj)} {n : Nat} {a b : Int} {t : TypeId} (hf : Fnd H n (Cl [.int .i64 a, .int .i64 b] t)) : Cell w0 H ⟨n, 0 + (0 : Int).toNat * 1, none⟩ (.int .i64 a) := cell_get hf rfl
theorem cells2_1 {w0 : World} {H : List (Nat × Obj)} {n : Nat} {a b : Int} {t : TypeId} (hf : Fnd H n (Cl [.int .i64 a, .int .i64 b] t)) : Cell w0 H ⟨n, 0 + (1 : Int).toNat * 1, none⟩ (.int .i64 b) := cell_get hf rfl
theorem eq1_s {w0 : World} {H0 : List (Nat × Obj)} (ma mb : Mc) (ha : McOk w0 H0 ma) (hb : McOk w0 H0 mb) (pa : PMok ma.pl) (pb : PMok mb.pl) (b7 b9 : Nat) (ca cb : List Value) (h7 : Fnd H0 b7 (Cl ca 29)) (h9 : Fnd H0 b9 (Cl cb 29)) (eca : ca = encMc ma) (ecb : cb = encMc mb) (sa : Srt ma.names) (sb : Srt mb.names) (la : ma.names.length ≤ 4611686018427387903) (lb : mb.names.length ≤ 4611686018427387903) (all : List ByteArray) (q : Option Addr) (c : Nat) (hA : Arr w0 H0 q 1 encS all) (hal : all.length ≤ 1000000) (b11 : Nat) (h11 : Fnd H0 b11 (Cl [.slice q all.length c] 25)) :
    NextS w0 H0 72 [.pointer (some ⟨b11, 0, none⟩), .pointer (some ⟨b7, 0, none⟩), .pointer (some ⟨b9, 0, none⟩)] (DuOk ma.pl mb.pl) (stepsF ma.pl mb.pl all) := by
  subst eca; subst ecb
  intro p hpd vf vcap S M0 H hH0 hvf hS0 hv
  show FSpec Tryz.prog w0 72 #[.agg (encPl p).toArray, .func (.func vf) #[] vcap.toArray, .pointer (some ⟨b11, 0, none⟩), .pointer (some ⟨b7, 0, none⟩), .pointer (some ⟨b9, 0, none⟩)] (M0 ++ H) _
  have hra : ma.pl.next.length = ma.rows.length := List.length_map ..
  have hrb : mb.pl.next.length = mb.rows.length := List.length_map ..
  have hp1 : p.1 < ma.rows.length := by have := hpd.1; omega
  have hp2 : p.2 < mb.rows.length := by have := hpd.2; omega
  refine fn_spec Tryz.func72 rfl Tryz.ntmps72 rfl (j_seq (j_region (e_ (eff_box (T rfl) cs_) ?_ rfl)))
  rintro _ _ ⟨n5, rfl, rfl⟩
  refine jl_nil (q_then (j_seq (j_region (y_ (yl_load (T rfl) Tryz.isAgg25 (by first | exact c_o | exact c_o (hf := h11.mono (hH0.trans (by exact sbt))))) ?_ rfl))))
  refine y_ (yl_len (T rfl) Tryz.runUnderlying25) (y_ (yl_move ev_c) (jl_nil (q_then (j_block ?_))) rfl) rfl
  refine j_loopC (X := Nat × List (Nat × Obj)) (V := fun ⟨i, M⟩ => [(11, .int .i64 (i : Nat))]) (C := [(1, _), (3, _), (4, _), (5, _), (9, _), (10, _)]) (G := fun ⟨i, M⟩ => (n5, Cl (encPl p) 115) :: (M ++ H)) (φ := fun ⟨i, M⟩ => i ≤ all.length ∧ S i M) (μ := fun ⟨i, M⟩ => all.length - i) (x0 := (0, M0)) ?_ ⟨at_f rfl, at_f rfl, at_f rfl, at_f rfl, at_f rfl, at_f rfl, trivial⟩ ⟨(by first | exact at_f rfl | (refine at_e (at_f rfl) (vint ?_); omega) | (refine at_e (at_f rfl) ?_; simp; done)), trivial⟩ sb0 ?_
  · exact ⟨Nat.zero_le _, hS0⟩
  rintro ⟨i, M⟩ ⟨hi, hS⟩
  refine j_seq (j_region (y_ (yl_lss (T rfl) (T rfl)) (jl_nil (q_then (j_seq ?_))) rfl))
  first | refine j_cond_d (at_f rfl) (fun c12 => ?_) (fun c12 => ?_) | refine j_cond (at_f rfl) (fun c12 => ?_) (fun c12 => ?_)
  · refine j_skip (q_then (j_seq (j_block (j_seq (j_region (y_ (yl_ixQ (T rfl) (T rfl) Tryz.runUnderlying25 Tryz.sizeOf9 (by omega) (by first | exact rfl | exact hA.b (i := i) (by omega))) ?_ rfl))))))
    refine y_ (yl_load (T rfl) Tryz.isAgg9 (by first | exact c_o | exact cell1 ((hA.mono (hH0.trans (by exact sbt))).cs (i := i) (by omega)))) ?_ rfl
    refine y_ (yl_assign (T rfl)) (jl_nil (q_then (j_any 13 [(0, true), (1, true), (2, true), (3, true), (4, true), (5, true), (6, true), (7, true), (8, true), (9, true), (10, true), (11, true), (12, true)] _ mixd (by kernel_rfl) sb0 ?_))) rfl
    refine o_y rfl (yl_move (T rfl)) (o_y rfl (yl_loadA (T rfl) Tryz.isAgg29 Tryz.sizeOf29 rfl (by first | exact cs_m (cells_own h7) (hH0.trans (by exact sbt)) | exact cs_o)) ?_ rfl gd_n) rfl gd_n
    refine o_y rfl (yl_ixA (T rfl) ev_c Tryz.runUnderlying115 Tryz.sizeOf3 (by omega)) ?_ rfl gd_n
    refine o_y rfl (yl_load (T rfl) Tryz.isAgg3 (by first | exact c_o | exact cells2_0 (by repeat (first | exact fnd_h | refine fnd_t ?_ | refine fnd_a ?_)))) ?_ rfl gd_n
    refine o_y rfl (yl_move (T rfl)) (o_y rfl (yl_call (.cons (T rfl) (.cons (T rfl) (.cons (T rfl) .nil))) Tryz.call69 (fun H' hs => after_s ma (ha.mono ((hH0.trans (by exact sbt)).trans hs)) pa sa la p.1 hp1 (gd all i))) ?_ rfl gd_n) rfl gd_n
    refine o_y rfl (yl_loadA (T rfl) Tryz.isAgg29 Tryz.sizeOf29 rfl (by first | exact cs_m (cells_own h9) (hH0.trans (by exact sbt)) | exact cs_o)) ?_ rfl gd_n
    refine o_y rfl (yl_ixA (T rfl) ev_c Tryz.runUnderlying115 Tryz.sizeOf3 (by omega)) ?_ rfl gd_n
    refine o_y rfl (yl_load (T rfl) Tryz.isAgg3 (by first | exact c_o | exact cells2_1 (by repeat (first | exact fnd_h | refine fnd_t ?_ | refine fnd_a ?_)))) ?_ rfl gd_n
    refine o_y rfl (yl_move (T rfl)) (o_y rfl (yl_call (.cons (T rfl) (.cons (T rfl) (.cons (T rfl) .nil))) Tryz.call69 (fun H' hs => after_s mb (hb.mono ((hH0.trans (by exact sbt)).trans hs)) pb sb lb p.2 hp2 (gd all i))) ?_ rfl gd_n) rfl gd_n
    refine o_y rfl (yl_build (.cons (T rfl) (.cons (T rfl) .nil)) (bd115_0_1 _ _)) (o_y rfl (yl_move (T rfl)) (jo_nil rfl (e_ (eff_callV (T rfl) (.cons (T rfl) (.cons (T rfl) .nil)) hvf (spec_atF M (by repeat (first | exact LocL.h | apply LocL.t | apply LocL.a)) (hv i ((afterF ma.pl p.1 (gd all i), afterF mb.pl p.2 (gd all i)), gd all i) M _ (steps_get (by omega)) (by exact sbt) hS))) ?_ rfl)) rfl gd_n) rfl gd_n
    rintro _ _ ⟨M2, hS2, rfl⟩
    refine jl_nil (q_block (q_then (j_keep [(1, _), (3, _), (4, _), (5, _), (9, _), (10, _), (11, _)] ⟨at_f rfl, at_f rfl, at_f rfl, at_f rfl, at_f rfl, at_f rfl, at_f rfl, trivial⟩ (j_region (y_ (yl_add (T rfl) ev_c (by omega)) ?_ rfl)))))
    refine y_ (yl_move (T rfl)) (jl_nil ?_) rfl
    refine q_loopC ((i + 1, M2)) ?_ ?_ ⟨(by first | exact at_f rfl | (refine at_e (at_f rfl) (vint ?_); omega) | (refine at_e (at_f rfl) ?_; simp; done)), trivial⟩ ⟨at_f rfl, at_f rfl, at_f rfl, at_f rfl, at_f rfl, at_f rfl, trivial⟩ ?_
    · exact ⟨by omega, hS2⟩
    · first | omega | (simp only []; omega)
    · exact sbt
  · refine j_exit (q_then_exit (q_loop_exit (q_block_hit (q_end rfl .nil ?_))))
    have hi2 : i = (stepsF ma.pl mb.pl all p).length := by unfold stepsF; rw [List.length_map]; omega
    rw [hi2] at hS
    exact ⟨_, ⟨M, hS, rfl⟩, sbt⟩
theorem eq2_s {w0 : World} {H0 : List (Nat × Obj)} (ma mb : Mc) (ha : McOk w0 H0 ma) (hb : McOk w0 H0 mb) (pa : PMok ma.pl) (pb : PMok mb.pl) (b7 b9 : Nat) (ca cb : List Value) (h7 : Fnd H0 b7 (Cl ca 29)) (h9 : Fnd H0 b9 (Cl cb 29)) (eca : ca = encMc ma) (ecb : cb = encMc mb) : FoundS w0 H0 73 [.pointer (some ⟨b7, 0, none⟩), .pointer (some ⟨b9, 0, none⟩)] (DuOk ma.pl mb.pl) (difF ma.pl mb.pl) (fun _ M => M = []) := by
  subst eca; subst ecb
  rintro p hpd qq _ H hH0 _ rfl
  show FSpec Tryz.prog w0 73 #[.agg (encPl p).toArray, .pointer (some ⟨b7, 0, none⟩), .pointer (some ⟨b9, 0, none⟩)] H _
  have hra : ma.pl.next.length = ma.rows.length := List.length_map ..
  have hrb : mb.pl.next.length = mb.rows.length := List.length_map ..
  have hp1 : p.1 < ma.acc.length := by have := hpd.1; have := pa.acc; rw [show ma.pl.acc = ma.acc from rfl] at this; omega
  have hp2 : p.2 < mb.acc.length := by have := hpd.2; have := pb.acc; rw [show mb.pl.acc = mb.acc from rfl] at this; omega
  refine fn_spec Tryz.func73 rfl Tryz.ntmps73 rfl (j_seq (j_region (e_ (eff_box (T rfl) cs_) ?_ rfl)))
  rintro _ _ ⟨n3, rfl, rfl⟩
  refine y_ (yl_assign ev_c) (jl_nil (q_then (j_seq (j_any 14 [(0, true), (1, true), (2, true), (3, true), (4, true), (5, true), (6, true), (7, true), (8, true), (9, true), (10, true), (11, true), (12, true), (13, true)] _ mixd (by kernel_rfl) sb0 ?_)))) rfl
  refine o_y rfl (yl_fa (T rfl) fa29_2) (o_y rfl (yl_load (T rfl) Tryz.isAgg27 (by first | exact c_o | exact c_o (hf := h7.mono (hH0.trans (by exact sbt))))) ?_ rfl gd_n) rfl gd_n
  refine o_y rfl (yl_ixA (T rfl) ev_c Tryz.runUnderlying115 Tryz.sizeOf3 (by omega)) ?_ rfl gd_n
  refine o_y rfl (yl_load (T rfl) Tryz.isAgg3 (by first | exact c_o | exact cells2_0 (by repeat (first | exact fnd_h | refine fnd_t ?_ | refine fnd_a ?_)))) ?_ rfl gd_n
  refine o_y rfl (yl_ixQ (T rfl) (T rfl) Tryz.runUnderlying27 Tryz.sizeOf4 (by omega) (by first | exact rfl | exact ha.a3.b (i := p.1) hp1 | exact hb.a3.b (i := p.2) hp2)) ?_ rfl gd_n
  refine o_y rfl (yl_load (T rfl) Tryz.isAgg4 (by first | exact c_o | exact cell1 ((ha.a3.mono (hH0.trans (by exact sbt))).cs (i := p.1) hp1))) ?_ rfl gd_n
  refine o_y rfl (yl_fa (T rfl) fa29_2) (o_y rfl (yl_load (T rfl) Tryz.isAgg27 (by first | exact c_o | exact c_o (hf := h9.mono (hH0.trans (by exact sbt))))) ?_ rfl gd_n) rfl gd_n
  refine o_y rfl (yl_ixA (T rfl) ev_c Tryz.runUnderlying115 Tryz.sizeOf3 (by omega)) ?_ rfl gd_n
  refine o_y rfl (yl_load (T rfl) Tryz.isAgg3 (by first | exact c_o | exact cells2_1 (by repeat (first | exact fnd_h | refine fnd_t ?_ | refine fnd_a ?_)))) ?_ rfl gd_n
  refine o_y rfl (yl_ixQ (T rfl) (T rfl) Tryz.runUnderlying27 Tryz.sizeOf4 (by omega) (by first | exact rfl | exact ha.a3.b (i := p.1) hp1 | exact hb.a3.b (i := p.2) hp2)) ?_ rfl gd_n
  refine o_y rfl (yl_load (T rfl) Tryz.isAgg4 (by first | exact c_o | exact cell1 ((hb.a3.mono (hH0.trans (by exact sbt))).cs (i := p.2) hp2))) ?_ rfl gd_n
  refine o_y rfl (yl_neB (T rfl) (T rfl)) (o_y rfl (yl_assign (T rfl)) (jo_nil rfl (jl_nil (q_then (j_ret (q_ret rfl (.tmp (at_f rfl) .nil) ?_))))) rfl gd_n) rfl gd_n
  exact ⟨_, ⟨[], ⟨rfl, rfl⟩, rfl⟩, sbt⟩
end Go.Proofs.YtkdolgnpkjihpaaGreatDoor
namespace Go.Proofs.YtkdolgnpkjihpaaGreatDoor
open Go.RowKit
set_option linter.unusedVariables false
set_option linter.unusedSimpArgs false
theorem bd115_z  (w : World) : (Instr.build 115 #[]).run Tryz.prog w = .ok (.agg #[.int .i64 0, .int .i64 0]) w := by kernel_rfl
theorem bd24_0_2 (a0 : Int) (a1 : Option Addr) (a1n a1c : Nat) (w : World) : (Instr.build 24 #[(0, .int .i64 a0), (2, .slice a1 a1n a1c)]).run Tryz.prog w = .ok (.agg #[.int .i64 a0, .string ⟨#[]⟩, .slice a1 a1n a1c]) w := by kernel_rfl
theorem bs22_2_0_1 (a0 : Int) (a1 : ByteArray) (a2 : Option Addr) (a2n a2c : Nat) (a3 : Int) (a4 : ByteArray) (a5 : Option Addr) (a5n a5c : Nat) (w : World) : (Instr.buildSlice 22 2 #[(0, .agg #[.int .i64 a0, .string a1, .slice a2 a2n a2c]), (1, .agg #[.int .i64 a3, .string a4, .slice a5 a5n a5c])]).run Tryz.prog w = .ok (.slice (some ⟨w.heap.size, 0, none⟩) 2 2) (w.alloc (Cl [.int .i64 a0, .string a1, .slice a2 a2n a2c, .int .i64 a3, .string a4, .slice a5 a5n a5c] 24)) := by kernel_rfl
theorem arrRx2 {w0 : World} {H : List (Nat × Obj)} {n : Nat} {a b : Rxm} {t : TypeId} (hf : Fnd H n (Cl (encRx a ++ encRx b) t)) : Arr w0 H (some ⟨n, 0, none⟩) 3 encRx [a, b] := fun i x hi => by
  refine ⟨rfl, fun j v hj => ?_⟩
  match i, hi with
  | 0, hi =>
    have : a = x := by simpa using hi
    subst this
    refine cell_get hf ?_
    rw [List.getElem?_append_left (by have := (List.getElem?_eq_some_iff.1 hj).1; show 0 + 0 * 3 + j < _; omega)]
    show (encRx a)[0 + 0 * 3 + j]? = some v
    rw [show (0 : Nat) + 0 * 3 + j = j by omega]; exact hj
  | 1, hi =>
    have : b = x := by simpa using hi
    subst this
    refine cell_get hf ?_
    have e : (encRx a).length = 3 := rfl
    show (encRx a ++ encRx b)[0 + 1 * 3 + j]? = some v
    rw [List.getElem?_append_right (by omega), e, show 0 + 1 * 3 + j - 3 = j by omega]; exact hj
def allF (a b : Re) : List ByteArray := letF (.alt a b) ++ [otherF (letF (.alt a b))]
def eqR (a b : Re) : List ByteArray × Bool × List Pl := srF (stepsF (buildF leastF a).1 (buildF leastF b).1 (allF a b)) (difF (buildF leastF a).1 (buildF leastF b).1) ((buildF leastF a).1.next.length * (buildF leastF b).1.next.length) (0, 0)
def equalF (a b : Re) : List ByteArray × Bool × Int := if (buildF leastF a).2 = 0 ∧ (buildF leastF b).2 = 0 then ((eqR a b).1, !(eqR a b).2.1, 0) else ([], false, 2)
theorem equal_s {w0 : World} {H : List (Nat × Obj)} (m1 m2 : Rxm) (ea eb : Re) (hIa : Is m1 ea) (hIb : Is m2 eb) (hMa : RxM w0 H m1) (hMb : RxM w0 H m2) (hla : ea.lv ≤ 32) (hlb : eb.lv ≤ 32) :
    FSpec Tryz.prog w0 23 #[.agg (encRx m1).toArray, .agg (encRx m2).toArray] H (fun v H' => ∃ d : Sl, (v = .tuple #[slV d (equalF ea eb).1.length, .bool (equalF ea eb).2.1, .int .i64 (equalF ea eb).2.2] ∧ SlOk d (equalF ea eb).1.length 1) ∧ H' = slH d ((equalF ea eb).1.flatMap encS) 9 ++ H) := by
  refine fn_spec Tryz.func23 rfl Tryz.ntmps23 rfl ?_
  have hla2 : ea.lv ≤ 64 := by omega
  have hlb2 : eb.lv ≤ 64 := by omega
  have hlab : (Re.alt ea eb).lv ≤ 64 := by simp only [Re.lv]; omega
  have hln := letF_few hlab
  refine j_seq (j_region (e_ (eff_box (T rfl) cs_) ?_ rfl))
  rintro _ _ ⟨n2, rfl, rfl⟩
  refine e_ (eff_box (T rfl) cs_) ?_ rfl
  rintro _ _ ⟨n3, rfl, rfl⟩
  refine y_ (yl_assign ev_c) (y_ (yl_assign ev_c) (y_ (yl_assign ev_c) (jl_nil (q_then (j_seq (j_region (y_ (yl_loadA (T rfl) Tryz.isAgg24 Tryz.sizeOf24 rfl (by first | exact cs_o)) ?_ rfl))))) rfl) rfl) rfl
  refine e_ (eff_call (.cons (T rfl) .nil) Tryz.call12 (buildL_s _ m1 ea hIa (hMa.mono sbt) hla2)) ?_ rfl
  rintro _ _ ⟨y1, ⟨rfl, hy1⟩, rfl⟩
  refine y_ (yl_move (T rfl)) (y_ (yl_extract (T rfl) rfl) (y_ (yl_extract (T rfl) rfl) (e_ (eff_alloc Tryz.zeroValue29 cs_) ?_ rfl) rfl) rfl) rfl
  rintro _ _ ⟨n7, rfl, rfl⟩
  first | refine jl_e (eff_sW (T rfl) (T rfl) Tryz.sizeOf29) rfl gd_n ?_
  rintro _ _ ⟨rfl, rfl⟩
  refine y_ (yl_assign (T rfl)) (jl_nil (q_then (j_seq (j_region (y_ (yl_loadA (T rfl) Tryz.isAgg24 Tryz.sizeOf24 rfl (by first | exact cs_o)) ?_ rfl))))) rfl
  refine e_ (eff_call (.cons (T rfl) .nil) Tryz.call12 (buildL_s _ m2 eb hIb (hMb.mono sbt) hlb2)) ?_ rfl
  rintro _ _ ⟨y2, ⟨rfl, hy2⟩, rfl⟩
  refine y_ (yl_move (T rfl)) (y_ (yl_extract (T rfl) rfl) (y_ (yl_extract (T rfl) rfl) (e_ (eff_alloc Tryz.zeroValue29 cs_) ?_ rfl) rfl) rfl) rfl
  rintro _ _ ⟨n9, rfl, rfl⟩
  first | refine jl_e (eff_sW (T rfl) (T rfl) Tryz.sizeOf29) rfl gd_n ?_
  rintro _ _ ⟨rfl, rfl⟩
  refine y_ (yl_assign (T rfl)) (jl_nil (q_then (j_seq (j_seq (j_region (y_ (yl_move (T rfl)) (y_ (yl_neq (T rfl) ev_c) (y_ (yl_move (T rfl)) ?_ rfl) rfl) rfl)))))) rfl
  first | refine jl_if_d (s := 26) (at_f rfl) (fun c26 => ?_) (fun c26 => ?_) | refine jl_if (s := 26) (at_f rfl) (fun c26 => ?_) (fun c26 => ?_)
  · have hbad : ¬ ((buildF leastF ea).2 = 0 ∧ (buildF leastF eb).2 = 0) := fun h => c26 h.1
    refine n_tf (n_tf (y_ (yl_pick_t (T rfl) ev_c) (jl_nil (q_then (j_keep [(2, _), (3, _), (7, _), (9, _), (29, _)] ⟨at_f rfl, at_f rfl, at_f rfl, at_f rfl, at_f rfl, trivial⟩ ?_))) rfl) rfl rfl rfl rfl) rfl rfl rfl rfl
    first | refine j_cond_t (at_f rfl) ?_ | refine j_cond_t (at_e (at_f rfl) (vbool (decide_eq_true c29))) ?_
    refine j_seq (j_region (y_ (yl_assign ev_c) (y_ (yl_assign ev_c) (y_ (yl_assign ev_c) (jl_nil (q_then (j_ret (q_then_ret (q_ret rfl (.tmp (at_f rfl) (.tmp (at_f rfl) (.tmp (at_f rfl) .nil))) ?_))))) rfl) rfl) rfl))
    have he : equalF ea eb = ([], false, 2) := if_neg hbad
    rw [he]; exact ⟨_, ⟨.nil, ⟨rfl, rfl⟩, rfl⟩, sbt⟩
  · refine jl_y (yl_move (T rfl)) rfl (gd_y rfl rfl (at_f rfl)) (jl_y (yl_neq (T rfl) ev_c) rfl (gd_y rfl rfl (at_f rfl)) (y_ (yl_pick_f (T rfl) (T rfl)) (jl_nil (q_then (j_keep [(2, _), (3, _), (7, _), (9, _), (29, _)] ⟨at_f rfl, at_f rfl, at_f rfl, at_f rfl, at_f rfl, trivial⟩ ?_))) rfl))
    first | refine j_cond_d (at_f rfl) (fun c29 => ?_) (fun c29 => ?_) | refine j_cond (at_f rfl) (fun c29 => ?_) (fun c29 => ?_)
    · have hbad : ¬ ((buildF leastF ea).2 = 0 ∧ (buildF leastF eb).2 = 0) := fun h => by first | exact c26 h.1 | exact c29 h.2
      refine j_seq (j_region (y_ (yl_assign ev_c) (y_ (yl_assign ev_c) (y_ (yl_assign ev_c) (jl_nil (q_then (j_ret (q_then_ret (q_ret rfl (.tmp (at_f rfl) (.tmp (at_f rfl) (.tmp (at_f rfl) .nil))) ?_))))) rfl) rfl) rfl))
      have he : equalF ea eb = ([], false, 2) := if_neg hbad
      rw [he]; exact ⟨_, ⟨.nil, ⟨rfl, rfl⟩, rfl⟩, sbt⟩
    · have hea : (buildF leastF ea).2 = 0 := Classical.not_not.1 c26
      have heb : (buildF leastF eb).2 = 0 := Classical.not_not.1 c29
      have hma : (mcOf (buildF leastF ea).1.names (slQ y1.1) (slC y1.1) y1.2 (buildF leastF ea).1.acc).pl = (buildF leastF ea).1 := mcOf_pl hy1.2
      have hmb : (mcOf (buildF leastF eb).1.names (slQ y2.1) (slC y2.1) y2.2 (buildF leastF eb).1.acc).pl = (buildF leastF eb).1 := mcOf_pl hy2.2
      refine j_skip (q_then (j_seq (j_region (y_ (yl_loadA (T rfl) Tryz.isAgg24 Tryz.sizeOf24 rfl (by first | exact cs_o)) ?_ rfl))))
      refine y_ (yl_loadA (T rfl) Tryz.isAgg24 Tryz.sizeOf24 rfl (by first | exact cs_o)) ?_ rfl
      refine e_ (eff_bslice (.cons (T rfl) (.cons (T rfl) .nil)) (bs22_2_0_1 _ _ _ _ _ _ _ _ _ _)) ?_ rfl
      rintro _ _ ⟨n32, rfl, rfl⟩
      refine y_ (yl_build (.cons ev_c (.cons (T rfl) .nil)) (bd24_0_2 _ _ _ _)) ?_ rfl
      refine e_ (eff_call (.cons (T rfl) .nil) Tryz.call47 (letters_s (m := .mk 5 ⟨#[]⟩ (some ⟨n32, 0, none⟩) 2 [m1, m2]) (Is.alt hIa hIb) hlab _ (.mk (arrRx2 (by repeat (first | exact fnd_h | refine fnd_t ?_ | refine fnd_a ?_))) (fun a ha => by simp only [List.mem_cons, List.not_mem_nil, or_false] at ha; rcases ha with rfl | rfl <;> first | exact hMa.mono sbt | exact hMb.mono sbt) (by decide) (by simp)))) ?_ rfl
      rintro _ _ ⟨dl, ⟨rfl, hdl⟩, rfl⟩
      refine e_ (eff_alloc Tryz.zeroValue25 cs_) ?_ rfl
      rintro _ _ ⟨n11, rfl, rfl⟩
      first | refine jl_e (eff_sW (T rfl) (T rfl) Tryz.sizeOf25) rfl gd_n ?_ | refine jl_e (eff_s1 (T rfl) (T rfl) rfl Tryz.sizeOf25) rfl gd_n ?_ | refine jl_e (eff_s1r (T rfl) (T rfl) rfl Tryz.sizeOf25) rfl gd_n ?_
      rintro _ _ ⟨rfl, rfl⟩
      refine jl_nil (q_then (j_seq (j_any 4 [(0, true), (1, true), (2, true), (3, false)] _ mixd (by kernel_rfl) sb0 ?_)))
      refine o_y rfl (yl_load (T rfl) Tryz.isAgg25 (by first | exact c_o)) ?_ rfl gd_n
      refine o_y rfl (yl_load (T rfl) Tryz.isAgg25 (by first | exact c_o)) ?_ rfl gd_n
      refine o_y rfl (yl_call (.cons (T rfl) .nil) Tryz.call19 (fun H' hs => other_s (letF (.alt ea eb)) _ _ ((sl_arr (X := H) (enc := encS) (sz := 1) (e := 9) (l := (letF (.alt ea eb))) (fun _ => rfl) hdl).mono (List.Sublist.trans sbt hs)) (by omega))) ?_ rfl gd_n
      refine o_e rfl (eff_bslice (.cons (T rfl) .nil) (bs25_1_0 _)) ?_ rfl gd_n
      rintro _ _ ⟨n38, rfl, rfl⟩
      refine ⟨sbt, (jo_nil rfl (e_ (eff_app1_at (otherF (letF (.alt ea eb))) (by' := 16) (by repeat (first | exact LocL.h | apply LocL.t | apply LocL.a)) (T rfl) (T rfl) Tryz.runUnderlying25 Tryz.runUnderlying25 Tryz.sizeOf9 Tryz.typeInfo9 rfl Tryz.zeroValue9 rfl (fun _ => rfl) rfl hdl (by decide) (by omega)) ?_ rfl))⟩
      rintro _ _ ⟨da, rfl, hda, rfl⟩
      have hal : (allF ea eb).length = (letF (.alt ea eb)).length + 1 := by unfold allF; simp
      have hdall : SlOk da (allF ea eb).length 1 := by rw [hal]; exact hda
      first | refine jl_e (eff_sW (T rfl) (T rfl) Tryz.sizeOf25) rfl gd_n ?_ | refine jl_e (eff_s1 (T rfl) (T rfl) rfl Tryz.sizeOf25) rfl gd_n ?_ | refine jl_e (eff_s1r (T rfl) (T rfl) rfl Tryz.sizeOf25) rfl gd_n ?_
      rintro _ _ ⟨rfl, rfl⟩
      refine jl_nil (q_then (j_seq (j_region (y_ (yl_build .nil (bd115_z)) (y_ (yl_makeFunc (.cons (T rfl) (.cons (T rfl) (.cons (T rfl) .nil)))) (y_ (yl_makeFunc (.cons (T rfl) (.cons (T rfl) .nil))) ?_ rfl) rfl) rfl))))
      refine e_ (eff_call (.cons (T rfl) (.cons (T rfl) (.cons (T rfl) .nil))) Tryz.call71 (searchS_s (H0 := _) 72 73 [.pointer (some ⟨n11, 0, none⟩), .pointer (some ⟨n7, 0, none⟩), .pointer (some ⟨n9, 0, none⟩)] [.pointer (some ⟨n7, 0, none⟩), .pointer (some ⟨n9, 0, none⟩)] (DuOk (mcOf (buildF leastF ea).1.names (slQ y1.1) (slC y1.1) y1.2 (buildF leastF ea).1.acc).pl (mcOf (buildF leastF eb).1.names (slQ y2.1) (slC y2.1) y2.2 (buildF leastF eb).1.acc).pl) (stepsF (mcOf (buildF leastF ea).1.names (slQ y1.1) (slC y1.1) y1.2 (buildF leastF ea).1.acc).pl (mcOf (buildF leastF eb).1.names (slQ y2.1) (slC y2.1) y2.2 (buildF leastF eb).1.acc).pl (allF ea eb)) (difF (mcOf (buildF leastF ea).1.names (slQ y1.1) (slC y1.1) y1.2 (buildF leastF ea).1.acc).pl (mcOf (buildF leastF eb).1.names (slQ y2.1) (slC y2.1) y2.2 (buildF leastF eb).1.acc).pl) (fun _ M => M = []) ((mcOf (buildF leastF ea).1.names (slQ y1.1) (slC y1.1) y1.2 (buildF leastF ea).1.acc).pl.next.length * (mcOf (buildF leastF eb).1.names (slQ y2.1) (slC y2.1) y2.2 (buildF leastF eb).1.acc).pl.next.length) (0, 0) [] Tryz.call72 Tryz.call73 (eq1_s (mcOf (buildF leastF ea).1.names (slQ y1.1) (slC y1.1) y1.2 (buildF leastF ea).1.acc) (mcOf (buildF leastF eb).1.names (slQ y2.1) (slC y2.1) y2.2 (buildF leastF eb).1.acc) (mcOf_mono hy1.2 (H := H) (by exact sbt) ((sl_arr (X := H) (enc := encS) (sz := 1) (e := 9) (l := (buildF leastF ea).1.names) (fun _ => rfl) hy1.1).mono sbt)) (mcOf_mono hy2.2 (H := H) (by exact sbt) ((sl_arr (X := H) (enc := encS) (sz := 1) (e := 9) (l := (buildF leastF eb).1.names) (fun _ => rfl) hy2.1).mono sbt)) (by rw [hma]; exact (build_ok hla2 hea).1) (by rw [hmb]; exact (build_ok hlb2 heb).1) n7 n9 _ _ (by repeat (first | exact fnd_h | refine fnd_t ?_ | refine fnd_a ?_)) (by repeat (first | exact fnd_h | refine fnd_t ?_ | refine fnd_a ?_)) (mcOf_enc _ _ _ _ _).symm (mcOf_enc _ _ _ _ _).symm (by show Srt (buildF leastF ea).1.names; exact (build_ok hla2 hea).2) (by show Srt (buildF leastF eb).1.names; exact (build_ok hlb2 heb).2) (by show (buildF leastF ea).1.names.length ≤ _; rw [build_names hea]; have := letF_few hla2; omega) (by show (buildF leastF eb).1.names.length ≤ _; rw [build_names heb]; have := letF_few hlb2; omega) (allF ea eb) _ _ ((sl_arr (X := H) (enc := encS) (sz := 1) (e := 9) (l := allF ea eb) (fun _ => rfl) hdall).mono sbt) (by rw [hal]; omega) n11 (by rw [hal]; repeat (first | exact fnd_h | refine fnd_t ?_ | refine fnd_a ?_))) (eq2_s (mcOf (buildF leastF ea).1.names (slQ y1.1) (slC y1.1) y1.2 (buildF leastF ea).1.acc) (mcOf (buildF leastF eb).1.names (slQ y2.1) (slC y2.1) y2.2 (buildF leastF eb).1.acc) (mcOf_mono hy1.2 (H := H) (by exact sbt) ((sl_arr (X := H) (enc := encS) (sz := 1) (e := 9) (l := (buildF leastF ea).1.names) (fun _ => rfl) hy1.1).mono sbt)) (mcOf_mono hy2.2 (H := H) (by exact sbt) ((sl_arr (X := H) (enc := encS) (sz := 1) (e := 9) (l := (buildF leastF eb).1.names) (fun _ => rfl) hy2.1).mono sbt)) (by rw [hma]; exact (build_ok hla2 hea).1) (by rw [hmb]; exact (build_ok hlb2 heb).1) n7 n9 _ _ (by repeat (first | exact fnd_h | refine fnd_t ?_ | refine fnd_a ?_)) (by repeat (first | exact fnd_h | refine fnd_t ?_ | refine fnd_a ?_)) (mcOf_enc _ _ _ _ _).symm (mcOf_enc _ _ _ _ _).symm) (by rw [hma, hmb]; exact fun p hpp => steps_ok (build_ok hla2 hea).1 (build_ok hlb2 heb).1 (allF ea eb) p hpp) (fun l h1 h2 => grid_few h1 h2) (by rw [hma, hmb]; exact Nat.le_trans (Nat.mul_le_mul (build_ok hla2 hea).1.few (build_ok hlb2 heb).1.few) (by decide)) (by rw [hma, hmb]; exact ⟨(build_ok hla2 hea).1.some', (build_ok hlb2 heb).1.some'⟩) rfl (List.Sublist.refl _))) ?_ rfl
      rintro _ _ ⟨⟨d, _⟩, ⟨rfl, hd, rfl⟩, rfl⟩
      refine y_ (yl_move (T rfl)) (y_ (yl_extract (T rfl) rfl) (y_ (yl_extract (T rfl) rfl) (y_ (yl_assign (T rfl)) (y_ (yl_assign (T rfl)) (jl_nil (q_then (j_keep [(12, _), (13, _)] ⟨at_f rfl, at_f rfl, trivial⟩ (j_seq (j_region (y_ (yl_move (T rfl)) (y_ (yl_move (T rfl)) ?_ rfl) rfl)))))) rfl) rfl) rfl) rfl) rfl
      first | refine jl_y (yl_not_d (T rfl)) rfl gd_n ?_ | refine jl_y (yl_not (T rfl)) rfl gd_n ?_
      refine y_ (yl_assign (T rfl)) (y_ (yl_assign (T rfl)) (y_ (yl_assign ev_c) (jl_nil (q_then (j_ret (q_ret rfl (.tmp (at_f rfl) (.tmp (at_f rfl) (.tmp (at_f rfl) .nil))) ?_)))) rfl) rfl) rfl
      have he : equalF ea eb = ((eqR ea eb).1, !(eqR ea eb).2.1, 0) := if_pos ⟨hea, heb⟩
      rw [he]
      unfold eqR
      rw [← hma, ← hmb]
      exact ⟨_, ⟨d, ⟨rfl, hd⟩, rfl⟩, sbt⟩
end Go.Proofs.YtkdolgnpkjihpaaGreatDoor
