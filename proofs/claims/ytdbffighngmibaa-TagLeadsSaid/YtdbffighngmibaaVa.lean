/-
  Walks of the library: keys of a map.
-/
import Derived.Test.YtdbffighngmibaaUj
import Derived.Test.YtdbffighngmibaaLo
namespace Go.Proofs.Ytdbffighngmibaa
open Go.RowKit
set_option linter.unusedVariables false
set_option linter.unusedSimpArgs false
abbrev encPl (p : Int × Int) : List Value := [.int .i64 p.1, .int .i64 p.2]
abbrev encPv (p : Int × Int) : List Value := [encK2 p]
/-- the keys that have come: those at the places seen -/
def keysAt (pl : PlanL) (seen : List Nat) : List (Int × Int) := seen.map fun i => (gd pl i).1
def KeysSt (pl : PlanL) (k : List (Int × Int)) (_ : Int × Int) : Prop := k.length < pl.length
def KeysEn (pl : PlanL) (k : List (Int × Int)) : Prop := ∃ seen : List Nat, seen.Nodup ∧ (∀ i, i ∈ seen ↔ i < pl.length) ∧ k = keysAt pl seen
theorem seen_le : ∀ {n : Nat} {seen : List Nat}, seen.Nodup → (∀ i ∈ seen, i < n) → seen.length ≤ n
  | 0, seen, _, hs => by
    cases seen with
    | nil => simp
    | cons a l => have := hs a (by simp); omega
  | n + 1, seen, hn, hs => by
    by_cases hm : n ∈ seen
    · have h1 := seen_le (n := n) (seen := seen.erase n) (hn.erase n) (fun i hi => by
        have h2 := hs i (List.mem_of_mem_erase hi)
        have h3 : i ≠ n := by rintro rfl; exact (List.Nodup.not_mem_erase hn) hi
        omega)
      rw [List.length_erase_of_mem hm] at h1
      omega
    · have := seen_le (n := n) hn (fun i hi => by
        have h2 := hs i hi
        have h3 : i ≠ n := by rintro rfl; exact hm hi
        omega)
      omega
theorem seen_lt {n i : Nat} {seen : List Nat} (hn : seen.Nodup) (hs : ∀ i ∈ seen, i < n) (hi : i ∉ seen) (hl : i < n) : seen.length < n := by
  have := seen_le (n := n) (seen := i :: seen) (List.nodup_cons.2 ⟨hi, hn⟩) (fun j hj => by rcases List.mem_cons.1 hj with rfl | h; exact hl; exact hs j h)
  simp at this; omega
theorem keys_s {w0 : World} {H : List (Nat × Obj)} (r : Nat) :
    FSpec Try.prog w0 52 #[.map (some r)] H (fun v H' => ∃ n1 : Nat, v = .func (.func 73) #[] #[.pointer (some ⟨n1, 0, none⟩)] ∧ H' = (n1, Cl [.map (some r)] 87) :: H) := by
  refine fn_spec Try.func52 rfl Try.ntmps52 rfl (j_seq (j_region (e_ (eff_box (T rfl) cs_) ?_ rfl)))
  rintro _ _ ⟨n1, rfl, rfl⟩
  refine y_ (yl_assign ev_c) (jl_nil (q_then (j_seq (j_region (y_ (yl_makeFunc (.cons (T rfl) .nil)) (y_ (yl_assign (T rfl)) (jl_nil (q_then (j_ret (q_ret rfl (.tmp (at_f rfl) .nil) ?_)))) rfl) rfl))))) rfl
  exact ⟨_, ⟨n1, rfl, rfl⟩, sbt⟩
theorem keys_it {w0 : World} {Hc : List (Nat × Obj)} (n1 r : Nat) (pl : PlanL) (h1 : Fnd Hc n1 (Cl [.map (some r)] 87)) (h2 : Fnd Hc r (mapO encK2 encHv pl)) :
    IterSpecD Try.prog w0 73 [.pointer (some ⟨n1, 0, none⟩)] Hc encPv (KeysSt pl) (KeysEn pl) := by
  intro l S Sx hHc hY H0 hS0
  have hY0 := fun k x H a b hx hS => YSpec.mono (hY k x H [a, b] hx hS) (K' := fun v H' => ∃ H1, H' = a :: b :: H1 ∧ ((v = .bool true ∧ S (k ++ [x]) H1) ∨ (v = .bool false ∧ Sx H1))) (by rintro v _ ⟨H1, rfl, h⟩; exact ⟨H1, rfl, h⟩)
  refine fn_spec Try.func73 rfl Try.ntmps73 rfl (j_seq (j_region (y_ (yl_load (T rfl) Try.isAgg87 (by first | exact c_o | exact (Cell.mono (w0 := w0) (c_o (i := 0) (hf := h1)) (List.Sublist.trans (hHc _ _ hS0) sbt)))) ?_ rfl)))
  refine e_ (eff_rangeMap (m := r) (l := pl) (encK := encK2) (encV := encHv) (T rfl) ((hHc _ _ hS0).subset h2) Try.runUnderlying87) ?_ rfl
  rintro _ _ ⟨n5, rfl, rfl⟩
  refine jl_nil (q_then (j_block ?_))
  refine j_loopC (X := List Nat × List (Nat × Obj)) (V := fun ⟨seen, Hx⟩ => []) (C := [(0, _), (5, _)]) (G := fun ⟨seen, Hx⟩ => (n5, itO r pl.length seen pl.length) :: Hx) (φ := fun ⟨seen, Hx⟩ => S (keysAt pl seen) Hx ∧ seen.Nodup ∧ ∀ i ∈ seen, i < pl.length) (μ := fun ⟨seen, Hx⟩ => pl.length - seen.length) (x0 := ([], H0)) ?_ ⟨at_f rfl, at_f rfl, trivial⟩ trivial sb0 ?_
  · exact ⟨hS0, by simp, by simp⟩
  rintro ⟨seen, Hx⟩ ⟨hS, hnd, hlt⟩
  have hr : Fnd Hx r (mapO encK2 encHv pl) := (hHc _ _ hS).subset h2
  refine j_seq (j_region ?_)
  refine e_ (eff_next (m := r) (l := pl) (encK := encK2) (encV := encHv) (T rfl) (by repeat (first | exact hr | exact fnd_h | refine fnd_t ?_)) (by repeat (first | exact Loc.h | apply Loc.t))) ?_ rfl
  rintro _ _ (⟨i, p, hip, hni, rfl, rfl⟩ | ⟨hall, rfl, rfl⟩)
  · refine y_ (yl_extract (T rfl) rfl) (jl_nil (q_then (j_seq (j_cond_t (at_f rfl) (j_skip (q_then (j_block (j_seq (j_region ?_))))))))) rfl
    refine y_ (yl_entry (m := r) (l := pl) (encK := encK2) (encV := encHv) (T rfl) (by repeat (first | exact hr | exact fnd_h | refine fnd_t ?_)) (by repeat (first | exact fnd_h | refine fnd_t ?_)) hip) ?_ rfl
    refine y_ (yl_extract (T rfl) rfl) (e_ (eff_alloc Try.zeroValue100 cs_) ?_ rfl) rfl
    rintro _ _ ⟨n3, rfl, rfl⟩
    first | refine jl_e (eff_sW (T rfl) (T rfl) Try.sizeOf100) rfl gd_n ?_
    rintro _ _ ⟨rfl, rfl⟩
    refine jl_nil (q_then (j_seq (j_region (y_ (yl_move (T rfl)) (y_ (yl_loadA (T rfl) Try.isAgg100 Try.sizeOf100 rfl (by first | exact cs_o | exact (Cell.mono (w0 := w0) (c_o (i := 0) (hf := h1)) (List.Sublist.trans (hHc _ _ hS0) sbt)))) ?_ rfl) rfl))))
    refine e_ (eff_yield (T rfl) (.cons (T rfl) .nil) (hY0 (keysAt pl seen) p.1 Hx _ _ (by have := seen_lt hnd hlt hni (List.getElem?_eq_some_iff.1 hip).1; simpa [KeysSt, keysAt] using this) hS)) ?_ rfl
    rintro _ _ ⟨H1, rfl, (⟨rfl, hS1⟩ | ⟨rfl, hSx⟩)⟩
    · refine y_ (yl_not (T rfl)) (jl_nil (q_then (j_cond_f (at_f rfl) (j_skip (q_block ?_))))) rfl
      have hil := (List.getElem?_eq_some_iff.1 hip).1
      have hgp : (gd pl i).1 = p.1 := by rw [gd_get hil] at hip; simp at hip; rw [hip]
      have hsl := seen_lt hnd hlt hni hil
      refine q_loopC ((seen ++ [i], H1)) ?_ ?_ trivial ⟨at_f rfl, at_f rfl, trivial⟩ ?_
      · refine ⟨by unfold keysAt at *; rw [List.map_append]; simpa [hgp] using hS1, ?_, fun j hj => ?_⟩
        · rw [List.nodup_append]; exact ⟨hnd, by simp, by intro a ha b hb; simp at hb; subst hb; rintro rfl; exact hni ha⟩
        · rcases List.mem_append.1 hj with h | h
          · exact hlt j h
          · simp at h; subst h; exact hil
      · show pl.length - (seen ++ [i]).length < _; simp; omega
      · exact sbt
    · refine y_ (yl_not (T rfl)) (jl_nil (q_then (j_cond_t (at_f rfl) (j_ret (q_block_ret (q_loop_ret (q_block_ret (q_ret rfl .nil ?_)))))))) rfl
      exact ⟨_, .inr hSx, sbt⟩
  · refine y_ (yl_extract (T rfl) rfl) (jl_nil (q_then (j_seq (j_cond_f (at_f rfl) (j_exit (q_then_exit (q_loop_exit (q_block_hit (q_end rfl .nil ?_))))))))) rfl
    exact ⟨_, .inl ⟨_, ⟨seen, hnd, fun i => ⟨fun h => hlt i h, hall i⟩, rfl⟩, hS⟩, sbt⟩
end Go.Proofs.Ytdbffighngmibaa
