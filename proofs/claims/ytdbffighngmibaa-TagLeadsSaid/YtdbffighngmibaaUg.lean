/-
  Plain laws on used tags and on what can be merged.
-/
import Derived.Test.YtdbffighngmibaaUf
namespace Go.Proofs.Ytdbffighngmibaa
open Go.RowKit
set_option linter.unusedVariables false
set_option linter.unusedSimpArgs false
/-- of the numbers 1 .. j those that are tags, increasing -/
def usedTo (tg : List Int) (j : Nat) : List Int := ((List.range j).map fun (i : Nat) => (i : Int) + 1).filter fun t => tg.contains t
def usedF (tg : List Int) : List Int := usedTo tg 65535
theorem usedTo_succ (tg : List Int) (j : Nat) : usedTo tg (j + 1) = if tg.contains ((j : Int) + 1) then usedTo tg j ++ [(j : Int) + 1] else usedTo tg j := by
  unfold usedTo
  rw [List.range_succ, List.map_append, List.filter_append]
  simp only [List.map_cons, List.map_nil, List.filter_cons, List.filter_nil]
  split <;> simp
theorem usedTo_len (tg : List Int) (j : Nat) : (usedTo tg j).length ≤ j := by
  unfold usedTo
  refine Nat.le_trans (List.length_filter_le _ _) ?_
  simp
theorem usedTo_zero (tg : List Int) : usedTo tg 0 = [] := rfl
theorem usedTo_mem {tg : List Int} {j : Nat} {t : Int} : t ∈ usedTo tg j ↔ (1 ≤ t ∧ t ≤ j) ∧ t ∈ tg := by
  unfold usedTo
  simp only [List.mem_filter, List.mem_map, List.mem_range, List.contains_iff_mem]
  constructor
  · rintro ⟨⟨i, hi, rfl⟩, h⟩; exact ⟨by omega, h⟩
  · rintro ⟨h, h2⟩; exact ⟨⟨(t - 1).toNat, by omega, by omega⟩, h2⟩
theorem usedTo_incr (tg : List Int) (j : Nat) : (usedTo tg j).Pairwise (· < ·) := by
  unfold usedTo
  refine List.Pairwise.filter _ ?_
  rw [List.pairwise_map]
  exact List.pairwise_lt_range.imp fun h => by omega
theorem contains_take_succ {tg : List Int} {k : Nat} (h : k < tg.length) (t : Int) : (tg.take (k + 1)).contains t = ((tg.take k).contains t || decide (gd tg k = t)) := by
  rw [take_gd h, Bool.eq_iff_iff]
  simp only [List.contains_iff_mem, List.mem_append, List.mem_singleton, Bool.or_eq_true, decide_eq_true_eq]
  constructor
  · rintro (h | h)
    · exact .inl h
    · exact .inr h.symm
  · rintro (h | h)
    · exact .inl h
    · exact .inr h.symm
/-- the first pair of a list that can be merged -/
def mgL (ap : Int → Int → Bool) : List Int → Option (Int × Int)
  | [] => none
  | a :: r => match r.find? (ap a) with
    | some b => some (a, b)
    | none => mgL ap r
def mgOr (o : Option (Int × Int)) : Int × Int := o.getD (0, 0)
/-- no way with tag s conflicts with one with tag t -/
def apI (n : Nm) (l : List Wm) (tg : List Int) (s t : Int) : Bool := (List.range l.length).all fun i => gd tg i != s || freeI n.links n.nodes.length l tg t (gd l i).way
theorem apI_iff {n : Nm} {l : List Wm} {tg : List Int} {s t : Int} : apI n l tg s t = true ↔ ∀ i, i < l.length → gd tg i = s → freeI n.links n.nodes.length l tg t (gd l i).way = true := by
  unfold apI
  rw [List.all_eq_true]
  constructor
  · intro h i hi ht
    have := h i (List.mem_range.2 hi)
    simpa [ht] using this
  · intro h i hi
    have := h i (List.mem_range.1 hi)
    by_cases ht : gd tg i = s
    · simp [this ht]
    · simp [ht]
theorem mg_go {ap : Int → Int → Bool} {us : List Int} {i : Nat} (h : i < us.length) : mgL ap (us.drop i) = (match (us.drop (i + 1)).find? (ap (gd us i)) with | some b => some (gd us i, b) | none => mgL ap (us.drop (i + 1))) := by
  rw [drop_gd h]; rfl
theorem find_go {f : Int → Bool} {us : List Int} {k : Nat} (h : k < us.length) : (us.drop k).find? f = if f (gd us k) = true then some (gd us k) else (us.drop (k + 1)).find? f := by
  rw [drop_gd h, List.find?_cons]
  cases f (gd us k) <;> rfl
theorem apI_fits {n : Nm} {l : List Wm} (hg : Gw n l) {tg : List Int} (h : tg.length = l.length) (hc : Cons n.links (pairs l tg)) (s t : Int) : apI n l tg s t = (List.range l.length).all fun i => gd tg i != s || fitsP n.links (planR n.links (pairs l tg)) (gd l i).way t := by
  unfold apI
  rw [Bool.eq_iff_iff, List.all_eq_true, List.all_eq_true]
  constructor <;> intro hh i hi
  · rw [← freeI_fits hg (by omega) hc (gd_mem (List.mem_range.1 hi))]; exact hh i hi
  · rw [freeI_fits hg (by omega) hc (gd_mem (List.mem_range.1 hi))]; exact hh i hi
end Go.Proofs.Ytdbffighngmibaa
