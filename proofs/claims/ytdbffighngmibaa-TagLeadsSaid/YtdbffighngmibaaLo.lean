/-
  Own blocks of elements of several cells that the library's sort turns. Over any program.
-/
import Derived.Test.YtdbffighngmibaaLn
import Derived.Shelf.SlSortCmp.WholeK
namespace Go.Proofs.Ytdbffighngmibaa
open Go.RowKit Go.Sort Go.Shelf Go.Proofs
set_option linter.unusedVariables false
set_option linter.unusedSimpArgs false
section
variable {α : Type} [Inhabited α] {enc : α → List Value} {k : Nat}
theorem flat_get2 (he : ∀ x, (enc x).length = k) (l : List α) (t : Nat) (ht : t < l.length * k) : (l.flatMap enc)[t]? = some ((enc l[t / k]!)[t % k]!) := by
  have hk : 0 < k := by rcases Nat.eq_zero_or_pos k with h | h; · subst h; simp at ht
                        · exact h
  have h1 : t / k < l.length := by rw [Nat.div_lt_iff_lt_mul hk]; exact ht
  have h2 : t % k < k := Nat.mod_lt _ hk
  have h3 : l[t / k]? = some l[t / k]! := by simp [h1]
  have h4 : (enc l[t / k]!)[t % k]? = some ((enc l[t / k]!)[t % k]!) := by
    have : t % k < (enc l[t / k]!).length := by rw [he]; exact h2
    rw [List.getElem?_eq_getElem this, getElem!_pos (enc l[t / k]!) (t % k) this]
  have := flat_get he l (t / k) (l[t / k]!) (t % k) ((enc l[t / k]!)[t % k]!) h3 h4
  rw [show t / k * k + t % k = t from by rw [Nat.mul_comm]; exact Nat.div_add_mod t k] at this
  exact this
theorem flatK_list (he : ∀ x, (enc x).length = k) (l : List α) : flatK enc k l.toArray = (l.flatMap enc).toArray := by
  apply Array.ext_getElem?
  intro t
  by_cases ht : t < l.length * k
  · have h1 := flat_get2 he l t ht
    have h2 : (l.flatMap enc).toArray[t]? = some ((enc l[t / k]!)[t % k]!) := by rw [List.getElem?_toArray]; exact h1
    rw [h2]
    simp [flatK, ht]
  · rw [Array.getElem?_eq_none (by simp; omega), Array.getElem?_eq_none (by simp only [List.size_toArray]; rw [flat_len he]; omega)]
variable {w0 w : World} {n : Nat} {junk : List Value} {e : TypeId} {X : List (Nat × Obj)}
theorem own_holdsK (he : ∀ x, (enc x).length = k) {l : List α} (hO : Own w0 ((n, Cl (l.flatMap enc ++ junk) e) :: X) w) : HoldsK enc k w n 0 l.toArray := by
  unfold HoldsK
  rw [flatK_list he]
  have : l.flatMap enc = (l.flatMap enc).map id := by simp
  rw [this] at hO
  exact own_holds hO
theorem own_rowK (he : ∀ x, (enc x).length = k) {l l' : List α} (hO : Own w0 ((n, Cl (l.flatMap enc ++ junk) e) :: X) w) (hl : l.length = l'.length) (q : Nat) (os : Array Obj) : Own w0 ((n, Cl (l'.flatMap enc ++ junk) e) :: X) (sortWorldK enc k w n 0 q l'.toArray os) := by
  unfold sortWorldK putRowK
  rw [flatK_list he]
  have e1 : l.flatMap enc = (l.flatMap enc).map id := by simp
  have e2 : l'.flatMap enc = (l'.flatMap enc).map id := by simp
  rw [e1] at hO
  rw [e2]
  have := own_row (enc := id) hO (l' := (l'.flatMap enc)) (by rw [flat_len he, flat_len he, hl]) q os
  simpa using this
end
/-- what the sort says of arrays, of lists -/
theorem sorted_list {α : Type} [Inhabited α] {lt : α → α → Bool} {l : List α} {d : Array α} (hp : PermIn 0 l.length l.toArray d) (hs : SortedIn lt 0 l.length d) : d.toList.Perm l ∧ d.toList.Pairwise (fun a b => lt b a = false) := by
  obtain ⟨h1, _, h3⟩ := hp
  have hsz : d.size = l.length := by simpa using h1
  have e1 : d.extract 0 l.length = d := by rw [← hsz]; simp
  have e2 : l.toArray.extract 0 l.length = l.toArray := by simp
  rw [e1, e2] at h3
  refine ⟨h3, ?_⟩
  rw [List.pairwise_iff_getElem]
  intro i j hi hj hij
  have hi' : i < d.size := by simpa using hi
  have hj' : j < d.size := by simpa using hj
  have := hs i j (Nat.zero_le _) hij (by omega)
  rw [getElem!_pos d i hi', getElem!_pos d j hj'] at this
  simpa using this
end Go.Proofs.Ytdbffighngmibaa
