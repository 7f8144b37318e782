/-
  The walks of the small functions of clock and of its reference.
-/
import Derived.Test.YthebnpophckgcaaProg
import Derived.Test.YthebnpophckgcaaPlain
import Derived.Test.YthebnpophckgcaaExt
import Derived.WalkKit
import Derived.WalkSpells
import Derived.WalkLawsBesides
import Derived.Deep.QuietTactic
import Derived.BigQuiet
import Derived.Lib.Hide
namespace Go.Proofs.Ythebnpophckgcaa
open Go.RowKit
theorem ret_bool {a b : Bool} (h : a = b) : Ending.returned (.bool a) = .returned (.bool b) := by rw [h]
theorem bl1 (w : World) (o : Obj) : Below w.heap.size w (w.alloc o) := (Below.refl _ _).alloc (Nat.le_refl _) _
theorem bcell {W w1 : World} (hb : Below W.heap.size W w1) : (∀ b o, b < W.heap.size → w1.cell? ⟨b, o, none⟩ = W.cell? ⟨b, o, none⟩) ∧ (∀ b o, b < W.heap.size → w1.frozen? ⟨b, o, none⟩ = W.frozen? ⟨b, o, none⟩) ∧ W.heap.size ≤ w1.heap.size :=
  ⟨fun b o h => hb.cell (p := ⟨b, o, none⟩) h, fun b o h => hb.frozen (p := ⟨b, o, none⟩) h, hb.size⟩
/-- a span, a clock as a value -/
abbrev sp (a b : Int) : Value := .agg #[.int .i64 a, .int .i64 b]
abbrev ck (r l a b : Int) : Value := .agg #[.int .i64 r, .int .i64 l, .int .i64 a, .int .i64 b]

theorem isTime_any (n : Int) (w : World) : Calls Try.prog 40 #[.int .i64 n] w fun e w' => e = .returned (.bool (isT n)) ∧ w = w' := by
  go_enter Try.func40, Try.ntmps40
  go_wp2
  all_goals (go_ret; exact ⟨ret_bool (by unfold isT; simp; omega), rfl⟩)
theorem rtime_any (n : Int) (w : World) : Calls Try.prog 43 #[.int .i64 n] w fun e w' => e = .returned (.bool (isT n)) ∧ w = w' := by
  go_enter Try.func43, Try.ntmps43
  go_wp2
  all_goals (go_ret; exact ⟨ret_bool (by unfold isT; simp; omega), rfl⟩)
theorem valid_any (lo hi : Int) (w : World) : Calls Try.prog 13 #[sp lo hi] w fun e w' => e = .returned (.bool (vld lo hi)) ∧ Below w.heap.size w w' := by
  cases h1 : isT lo <;> cases h2 : isT hi
  all_goals
    go_enter Try.func13, Try.ntmps13
    go_wp2_with (go_at_call 40; refine (isTime_any _ _).mono ?_; rintro e w' ⟨rfl, rfl⟩)
    go_ret
    exact ⟨ret_bool (by unfold vld; simp [h1, h2]), bl1 _ _⟩
theorem rvalid_any (lo hi : Int) (w : World) : Calls Try.prog 11 #[sp lo hi] w fun e w' => e = .returned (.bool (vld lo hi)) ∧ Below w.heap.size w w' := by
  go_enter Try.func11, Try.ntmps11
  go_wp2
  all_goals
    go_ret
    refine ⟨ret_bool ?_, bl1 _ _⟩
    cases h : vld lo hi
    · have := vld_f h; simp <;> omega
    · have := vld_t h; simp <;> omega
theorem check_yes (r l a b : Int) (w : World) (h : okc r l a b = true) : Calls Try.prog 20 #[ck r l a b] w fun e w' => e = .returned (.int .i64 0) ∧ Below w.heap.size w w' := by
  obtain ⟨h1, h2, h3, h4⟩ := okc_t h
  clear h
  go_enter Try.func20, Try.ntmps20
  go_wp2_with (first | (go_at_call 40; refine (isTime_any _ _).mono ?_; rintro e w' ⟨rfl, rfl⟩) | (go_at_call 13; refine (valid_any _ _ _).mono ?_; rintro e w' ⟨rfl, hb⟩; obtain ⟨hc, hf, hs⟩ := bcell hb; try simp only [World.size_alloc] at hc hf hs; have z0 : w.heap.size < w'.heap.size := by omega))
  go_ret
  exact ⟨rfl, (bl1 _ _).trans (hb.mono (by simp))⟩
theorem check_no (r l a b : Int) (w : World) (h : okc r l a b = false) : Calls Try.prog 20 #[ck r l a b] w fun e w' => e = .returned (.int .i64 1) ∧ Below w.heap.size w w' := by
  rcases Int.lt_or_le r 0 with h1 | h1
  · clear h
    go_enter Try.func20, Try.ntmps20
    go_wp2_with fail
    go_ret
    exact ⟨rfl, bl1 _ _⟩
  rcases Int.lt_or_le 100000 r with h2 | h2
  · clear h
    go_enter Try.func20, Try.ntmps20
    go_wp2_with fail
    go_ret
    exact ⟨rfl, bl1 _ _⟩
  cases h3 : isT l
  · clear h
    go_enter Try.func20, Try.ntmps20
    go_wp2_with (first | (go_at_call 40; refine (isTime_any _ _).mono ?_; rintro e w' ⟨rfl, rfl⟩))
    go_ret
    exact ⟨rfl, bl1 _ _⟩
  cases h4 : vld a b
  · clear h
    go_enter Try.func20, Try.ntmps20
    go_wp2_with (first | (go_at_call 40; refine (isTime_any _ _).mono ?_; rintro e w' ⟨rfl, rfl⟩) | (go_at_call 13; refine (valid_any _ _ _).mono ?_; rintro e w' ⟨rfl, hb⟩; obtain ⟨hc, hf, hs⟩ := bcell hb; try simp only [World.size_alloc] at hc hf hs; have z0 : w.heap.size < w'.heap.size := by omega))
    go_ret
    exact ⟨rfl, (bl1 _ _).trans (hb.mono (by simp))⟩
  · rw [okc_mk h1 h2 h3 h4] at h; cases h
theorem rcheck_yes (r l a b : Int) (w : World) (h : okc r l a b = true) : Calls Try.prog 21 #[ck r l a b] w fun e w' => e = .returned (.int .i64 0) ∧ Below w.heap.size w w' := by
  obtain ⟨h1, h2, h3, h4⟩ := okc_t h
  clear h
  go_enter Try.func21, Try.ntmps21
  go_wp2_with (first | (go_at_call 43; refine (rtime_any _ _).mono ?_; rintro e w' ⟨rfl, rfl⟩) | (go_at_call 11; refine (rvalid_any _ _ _).mono ?_; rintro e w' ⟨rfl, hb⟩; obtain ⟨hc, hf, hs⟩ := bcell hb; try simp only [World.size_alloc] at hc hf hs; have z0 : w.heap.size < w'.heap.size := by omega))
  go_ret
  exact ⟨rfl, (bl1 _ _).trans (hb.mono (by simp))⟩
end Go.Proofs.Ythebnpophckgcaa
