/-
  Own blocks that the library's sort, or its compaction, turns. Over any program.
-/
import Derived.Test.YtdbffighngmibaaLi
import Derived.Sort.Row
import Derived.Sort.Grow
import Derived.Lib.SlicesCompact
namespace Go.Proofs.Ytdbffighngmibaa
open Go.RowKit Go.Sort
set_option linter.unusedVariables false
set_option linter.unusedSimpArgs false
theorem Own.ahead {w0 w : World} {H : List (Nat × Obj)} (h : Own w0 H w) (n : Nat) : Own w0 H (Sort.ahead w n) :=
  ⟨⟨h.below.os, h.below.tape, h.below.output, h.below.size, h.below.block⟩, h.has, h.base, h.nodup⟩
theorem Own.grow {w0 w : World} {H : List (Nat × Obj)} (h : Own w0 H w) (os : Array Obj) : Own w0 H (Sort.grow w os) := by
  have key : ∀ k o, w.heap[k]? = some o → (w.heap ++ os)[k]? = some o := fun k o hk => by
    have := (Array.getElem?_eq_some_iff.1 hk).1
    rw [Array.getElem?_append_left this]; exact hk
  refine ⟨⟨h.below.os, h.below.tape, h.below.output, ?_, fun k hk => ?_⟩, fun e he => key _ _ (h.has e he), h.base, h.nodup⟩
  · show w0.heap.size ≤ (w.heap ++ os).size
    have := h.below.size; simp; omega
  · show (w.heap ++ os)[k]? = _
    rw [← h.below.block k hk]
    have := h.below.size
    rw [Array.getElem?_append_left (by omega)]
theorem map_put {w : World} {n : Nat} {c : Array Value} {e : TypeId} {f : Nat × Nat} (g : Array Value → Array Value) (h : w.heap[n]? = some (.cells c e f)) : mapBlock w n g = w.putObj n (.cells (g c) e f) := by
  unfold mapBlock World.putObj
  congr 1
  apply Array.ext_getElem?
  intro k
  simp only [Array.getElem?_modify, Array.getElem?_setIfInBounds]
  by_cases hk : n = k
  · subst hk
    obtain ⟨h1, h2⟩ := Array.getElem?_eq_some_iff.1 h
    simp [h1, h2, onCells]
  · simp [hk]
section
variable {α : Type} [Inhabited α] {w0 w : World} {n : Nat} {junk : List Value} {e : TypeId} {X : List (Nat × Obj)} {enc : α → Value}
theorem put_list {old : List Value} {l : List α} (hl : old.length = l.length) : putCells enc 0 l.toArray (old ++ junk).toArray = (l.map enc ++ junk).toArray := by
  unfold putCells
  apply Array.ext_getElem?
  intro k
  simp only [Array.getElem?_mapIdx, List.getElem?_toArray, List.size_toArray, Nat.zero_le, true_and, Nat.zero_add, Nat.sub_zero]
  by_cases hk : k < l.length
  · rw [List.getElem?_append_left (by omega), List.getElem?_append_left (by simpa using hk)]
    rw [List.getElem?_eq_getElem (by omega : k < old.length), List.getElem?_eq_getElem (by simpa using hk)]
    simp [hk]
  · rw [List.getElem?_append_right (by omega), List.getElem?_append_right (by simp; omega)]
    simp only [hk, if_false, List.length_map, hl]
    cases junk[k - l.length]? <;> rfl
theorem own_row {l l' : List α} (hO : Own w0 ((n, Cl (l.map enc ++ junk) e) :: X) w) (hl : l.length = l'.length) (q : Nat) (os : Array Obj) : Own w0 ((n, Cl (l'.map enc ++ junk) e) :: X) (Sort.grow (putRow enc (Sort.ahead w q) n 0 l'.toArray) os) := by
  refine Own.grow ?_ os
  have h1 := hO.ahead q
  have h2 := h1.has _ (List.mem_cons_self ..)
  unfold putRow
  rw [map_put _ h2, put_list (by simpa using hl)]
  exact h1.put .h
theorem own_holds {l : List α} (hO : Own w0 ((n, Cl (l.map enc ++ junk) e) :: X) w) : Holds enc w n 0 l.toArray := fun j hj => by
  have hj' : j < l.length := by simpa using hj
  refine ⟨hO.cell fnd_h ?_, hO.free fnd_h⟩
  rw [Nat.zero_add, List.getElem?_append_left (by simpa using hj')]
  simp [hj']
theorem own_lt {o : Obj} (hO : Own w0 ((n, o) :: X) w) : n < w.heap.size := (Array.getElem?_eq_some_iff.1 (hO.has _ (List.mem_cons_self ..))).1
end
theorem flat_one {α : Type} {f : α → Value} : ∀ (l : List α), l.flatMap (fun x => [f x]) = l.map f
  | [] => rfl
  | x :: l => by rw [List.flatMap_cons, flat_one l]; rfl
/-- what Compact keeps of an increasing list: its elements, each once, increasing -/
theorem compact_incr (l : List Int) (h : l.Pairwise (· ≤ ·)) : (Lib.compact l).Pairwise (· < ·) ∧ ∀ x, x ∈ Lib.compact l ↔ x ∈ l := by
  have mono : ∀ (i j : Nat) (hij : i < j) (hj : j < l.length), l[i]'(by omega) ≤ l[j] := fun i j hij hj => List.pairwise_iff_getElem.1 h i j (by omega) hj hij
  have e : ∀ i, i < l.length → l.toArray[i]! = l[i]! := fun i hi => by simp
  unfold Lib.compact Lib.compactUpTo
  refine ⟨?_, fun x => ?_⟩
  · rw [List.pairwise_map]
    have hr : (List.range l.length).Pairwise (· < ·) := List.pairwise_lt_range
    refine (hr.filter _).imp_of_mem ?_
    intro a b ha hb hab
    simp only [List.mem_filter, List.mem_range] at ha hb
    have hk := hb.2
    unfold Lib.keeps at hk
    simp only [Bool.or_eq_true, decide_eq_true_eq, bne_iff_ne, beq_iff_eq] at hk
    have hb1 := hb.1
    have e1 : l.toArray[a]! = l[a]'(by omega) := by simp [show a < l.length by omega]
    have e2 : l.toArray[b]! = l[b] := by simp [hb1]
    have e3 : l.toArray[b - 1]! = l[b - 1]'(by omega) := by simp [show b - 1 < l.length by omega]
    rw [e1, e2]
    rcases hk with hk | hk
    · omega
    · rw [e2, e3] at hk
      have h1 := mono (b - 1) b (by omega) hb1
      by_cases hab' : a = b - 1
      · subst hab'; omega
      · have h2 := mono a (b - 1) (by omega) (by omega)
        omega
  · simp only [List.mem_map, List.mem_filter, List.mem_range]
    constructor
    · rintro ⟨i, ⟨hi, _⟩, rfl⟩
      rw [show l.toArray[i]! = l[i] by simp [hi]]
      exact List.getElem_mem _
    · intro hx
      obtain ⟨i, hi, hxi⟩ := List.getElem_of_mem hx
      have key : ∀ (i : Nat) (hi : i < l.length), l[i] = x → ∃ a, (a < l.length ∧ Lib.keeps l.toArray a = true) ∧ l.toArray[a]! = x := by
        intro i
        induction i with
        | zero => intro hi hxi; exact ⟨0, ⟨hi, by simp [Lib.keeps]⟩, by simp [hi, hxi]⟩
        | succ i ih =>
          intro hi hxi
          by_cases hs : l[i]'(by omega) = x
          · exact ih (by omega) hs
          · refine ⟨i + 1, ⟨hi, ?_⟩, by simp [hi, hxi]⟩
            unfold Lib.keeps
            simp [hi, show i < l.length by omega]
            intro h; exact hs (by rw [← h, hxi])
      exact key i hi hxi
end Go.Proofs.Ytdbffighngmibaa
