/-
  The walks of clock.At and of what it calls, and of its reference.
-/
import Derived.Test.YthebnpophckgcaaWa
namespace Go.Proofs.Ythebnpophckgcaa
open Go.RowKit
theorem ret_sp {a b c d : Int} (h1 : a = c) (h2 : b = d) : Ending.returned (sp a b) = .returned (sp c d) := by rw [h1, h2]
theorem rcheck_no (r l a b : Int) (w : World) (h : okc r l a b = false) : Calls Try.prog 21 #[ck r l a b] w fun e w' => e = .returned (.int .i64 1) ∧ Below w.heap.size w w' := by
  rcases Int.lt_or_le r 0 with h1 | h1
  · clear h
    go_enter Try.func21, Try.ntmps21
    go_wp2_with (first | (go_at_call 43; refine (rtime_any _ _).mono ?_; rintro e w' ⟨rfl, rfl⟩) | (go_at_call 11; refine (rvalid_any _ _ _).mono ?_; rintro e w' ⟨rfl, hb⟩; obtain ⟨hc, hf, hs⟩ := bcell hb; try simp only [World.size_alloc] at hc hf hs; have z0 : w.heap.size < w'.heap.size := by omega))
    go_ret
    exact ⟨rfl, (bl1 _ _).trans (hb.mono (by simp))⟩
  rcases Int.lt_or_le 100000 r with h2 | h2
  · clear h
    go_enter Try.func21, Try.ntmps21
    go_wp2_with (first | (go_at_call 43; refine (rtime_any _ _).mono ?_; rintro e w' ⟨rfl, rfl⟩) | (go_at_call 11; refine (rvalid_any _ _ _).mono ?_; rintro e w' ⟨rfl, hb⟩; obtain ⟨hc, hf, hs⟩ := bcell hb; try simp only [World.size_alloc] at hc hf hs; have z0 : w.heap.size < w'.heap.size := by omega))
    go_ret
    exact ⟨rfl, (bl1 _ _).trans (hb.mono (by simp))⟩
  cases h3 : isT l
  · clear h
    go_enter Try.func21, Try.ntmps21
    go_wp2_with (first | (go_at_call 43; refine (rtime_any _ _).mono ?_; rintro e w' ⟨rfl, rfl⟩) | (go_at_call 11; refine (rvalid_any _ _ _).mono ?_; rintro e w' ⟨rfl, hb⟩; obtain ⟨hc, hf, hs⟩ := bcell hb; try simp only [World.size_alloc] at hc hf hs; have z0 : w.heap.size < w'.heap.size := by omega))
    go_ret
    exact ⟨rfl, (bl1 _ _).trans (hb.mono (by simp))⟩
  cases h4 : vld a b
  · clear h
    go_enter Try.func21, Try.ntmps21
    go_wp2_with (first | (go_at_call 43; refine (rtime_any _ _).mono ?_; rintro e w' ⟨rfl, rfl⟩) | (go_at_call 11; refine (rvalid_any _ _ _).mono ?_; rintro e w' ⟨rfl, hb⟩; obtain ⟨hc, hf, hs⟩ := bcell hb; try simp only [World.size_alloc] at hc hf hs; have z0 : w.heap.size < w'.heap.size := by omega))
    go_ret
    exact ⟨rfl, (bl1 _ _).trans (hb.mono (by simp))⟩
  · rw [okc_mk h1 h2 h3 h4] at h; cases h
theorem elapsed_any (r e : Int) (w : World) (h1 : 0 ≤ r) (h2 : r ≤ 100000) (h3 : 0 ≤ e) (h4 : e ≤ 1099511627776) :
    Calls Try.prog 41 #[.int .i64 r, .int .i64 e] w fun e1 w' => e1 = .returned (sp (loE r e) (hiE r e)) ∧ Below w.heap.size w w' := by
  obtain ⟨hq1, hq2⟩ := quo_bd h1 h2 h3 h4
  go_enter Try.func41, Try.ntmps41
  go_wp2_with fail
  go_quiet (fail)
  go_wp2
  all_goals
    refine bodyPost_ret (v := sp _ _) (by simp [results, Try.results41, go_sem]; exact ⟨rfl, rfl⟩) rfl ⟨ret_sp rfl ?_, ?_⟩
    · unfold hiE; split <;> omega
    · exact ((below_drewN ((Below.refl _ _).alloc (Nat.le_refl _) _) _).setCell (by simp) _).setCell (by simp) _
theorem shortest_any (r l a b e : Int) (w : World) (h1 : 0 ≤ r) (h2 : r ≤ 100000) (h3 : 0 ≤ e) (h4 : e ≤ 1099511627776) :
    Calls Try.prog 44 #[ck r l a b, .int .i64 e] w fun e1 w' => e1 = .returned (.int .i64 (loE r e)) ∧ Below w.heap.size w w' := by
  go_enter Try.func44, Try.ntmps44
  go_wp2
  go_ret
  exact ⟨rfl, bl1 _ _⟩
theorem longest_any (r l a b e : Int) (w : World) (h1 : 0 ≤ r) (h2 : r ≤ 100000) (h3 : 0 ≤ e) (h4 : e ≤ 1099511627776) :
    Calls Try.prog 45 #[ck r l a b, .int .i64 e] w fun e1 w' => e1 = .returned (.int .i64 (hiE r e)) ∧ Below w.heap.size w w' := by
  go_enter Try.func45, Try.ntmps45
  go_wp2
  go_ret
  exact ⟨by rw [← hiE_alt r e h1 h2]; rfl, bl1 _ _⟩
end Go.Proofs.Ythebnpophckgcaa
