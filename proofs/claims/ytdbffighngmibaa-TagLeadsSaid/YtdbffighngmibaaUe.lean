/-
  Plain laws on what the specification asks of tags.
-/
import Derived.Test.YtdbffighngmibaaUd
import Derived.Test.YtdbffighngmibaaLm
namespace Go.Proofs.Ytdbffighngmibaa
open Go.RowKit
set_option linter.unusedVariables false
set_option linter.unusedSimpArgs false
/-- the ways, each a path over nodes without a node twice -/
structure Gw (n : Nm) (l : List Wm) : Prop where
  nd : ∀ m ∈ l, (nodesF n.links m.way).Nodup
  inr : ∀ m ∈ l, InR n.links m.way.links
  at' : ∀ m ∈ l, ∀ p ∈ hops n.links m.way, 0 ≤ p.1 ∧ p.1 < n.nodes.length
  len : ∀ m ∈ l, m.way.links.length ≤ 1000000
theorem Gw.good {n : Nm} {l : List Wm} (h : Gw n l) : Good n.links l := fun m hm => ⟨h.nd m hm, h.inr m hm⟩
def freeI (ls : List Lnk) (N : Nat) (l : List Wm) (tg : List Int) (t : Int) (w : Way) : Bool := (List.range tg.length).all fun i => gd tg i != t || (confR ls N (gd l i).way w).isNone
theorem freeI_iff {ls : List Lnk} {N : Nat} {l : List Wm} {tg : List Int} {t : Int} {w : Way} : freeI ls N l tg t w = true ↔ ∀ i, i < tg.length → gd tg i = t → confR ls N (gd l i).way w = none := by
  unfold freeI
  rw [List.all_eq_true]
  constructor
  · intro h i hi ht
    have := h i (List.mem_range.2 hi)
    simpa [ht] using this
  · intro h i hi
    have := h i (List.mem_range.1 hi)
    by_cases ht : gd tg i = t
    · simp [this ht]
    · simp [ht]
def pairs (l : List Wm) (tg : List Int) : List (Way × Int) := ((l.map (·.way)).zip tg).reverse
theorem pairs_nil (l : List Wm) : pairs l [] = [] := by simp [pairs]
theorem pairs_snoc {l : List Wm} {tg : List Int} (h : tg.length < l.length) (t : Int) : pairs l (tg ++ [t]) = ((gd l tg.length).way, t) :: pairs l tg := by
  unfold pairs
  have e : l.map (·.way) = (l.take tg.length).map (·.way) ++ (gd l tg.length).way :: (l.drop (tg.length + 1)).map (·.way) := by
    rw [← List.map_cons, ← List.map_append, ← drop_gd h, List.take_append_drop]
  have hl : ((l.take tg.length).map (·.way)).length = tg.length := by simp; omega
  rw [e, List.zip_append hl]
  have e2 : ((l.take tg.length).map (·.way) ++ (gd l tg.length).way :: (l.drop (tg.length + 1)).map (·.way)).zip tg = ((l.take tg.length).map (·.way)).zip tg := by
    have := List.zip_append (r₁ := (gd l tg.length).way :: (l.drop (tg.length + 1)).map (·.way)) (r₂ := ([] : List Int)) hl
    simpa using this
  rw [e2]; simp
theorem pairs_len {l : List Wm} {tg : List Int} (h : tg.length ≤ l.length) : (pairs l tg).length = tg.length := by simp [pairs]; omega
theorem pairs_take {l : List Wm} {tg : List Int} {k : Nat} (h : k < l.length) (h2 : k < tg.length) : pairs l (tg.take (k + 1)) = ((gd l k).way, gd tg k) :: pairs l (tg.take k) := by
  have hl : (tg.take k).length = k := by simp; omega
  rw [take_gd h2, pairs_snoc (by omega), hl]
theorem mem_pairs {l : List Wm} {tg : List Int} (h : tg.length ≤ l.length) {e : Way × Int} : e ∈ pairs l tg ↔ ∃ i, i < tg.length ∧ e = ((gd l i).way, gd tg i) := by
  unfold pairs
  rw [List.mem_reverse, List.mem_iff_getElem]
  constructor
  · rintro ⟨i, hi, rfl⟩
    simp at hi
    have h1 : i < l.length := by omega
    have h2 : i < tg.length := by omega
    exact ⟨i, h2, by simp [gd_getElem h1, gd_getElem h2]⟩
  · rintro ⟨i, hi, rfl⟩
    exact ⟨i, by simp; omega, by simp [gd_getElem (show i < l.length by omega), gd_getElem hi]⟩
theorem freeI_eq (ls : List Lnk) (N : Nat) {l : List Wm} {tg : List Int} (h : tg.length ≤ l.length) (t : Int) (w : Way) : freeI ls N l tg t w = freeR ls N (pairs l tg) t w := by
  unfold freeR
  rw [Bool.eq_iff_iff, freeI_iff, List.all_eq_true]
  constructor
  · intro hh e he
    obtain ⟨i, hi, rfl⟩ := (mem_pairs h).1 he
    by_cases ht : gd tg i = t
    · simp [hh i hi ht]
    · simp [ht]
  · intro hh i hi ht
    have := hh _ ((mem_pairs h).2 ⟨i, hi, rfl⟩)
    simpa [ht] using this
theorem freeI_fits {n : Nm} {l : List Wm} (hg : Gw n l) {tg : List Int} (h : tg.length ≤ l.length) (hc : Cons n.links (pairs l tg)) {m : Wm} (hm : m ∈ l) (t : Int) : freeI n.links n.nodes.length l tg t m.way = fitsP n.links (planR n.links (pairs l tg)) m.way t := by
  rw [freeI_eq _ _ h, free_fits hc (hg.nd m hm)]
  intro e he
  obtain ⟨i, hi, rfl⟩ := (mem_pairs h).1 he
  exact hg.at' _ (gd_mem (by omega))
theorem rgt_go {ls : List Lnk} {l : List Wm} {tg : List Int} {k : Nat} (h : k < l.length) (h2 : k < tg.length) : rgtF ls (pairs l (tg.take k)) ((l.drop k).map (·.way)) (tg.drop k) = (decide (1 ≤ gd tg k ∧ gd tg k ≤ 65535) && fitsP ls (planR ls (pairs l (tg.take k))) (gd l k).way (gd tg k) && rgtF ls (pairs l (tg.take (k + 1))) ((l.drop (k + 1)).map (·.way)) (tg.drop (k + 1))) := by
  rw [drop_gd h, drop_gd h2, List.map_cons, rgtF, pairs_take h h2]
theorem rgt_end {ls : List Lnk} {l : List Wm} {tg : List Int} {k : Nat} {ps : List (Way × Int)} (h : ¬ k < l.length) (h2 : ¬ k < tg.length) : rgtF ls ps ((l.drop k).map (·.way)) (tg.drop k) = true := by
  rw [drop_end h, drop_end h2]; rfl
/-- what tags that are right for ways give -/
theorem rgt_cons {n : Nm} {l : List Wm} (hg : Gw n l) {tg : List Int} (hel : tg.length = l.length) (h : rgtF n.links [] (l.map (·.way)) tg = true) : Cons n.links (pairs l tg) ∧ ∀ i, i < tg.length → 1 ≤ gd tg i ∧ gd tg i ≤ 65535 := by
  have key : ∀ k, k ≤ tg.length → Cons n.links (pairs l (tg.take k)) ∧ (∀ i, i < k → 1 ≤ gd tg i ∧ gd tg i ≤ 65535) ∧ rgtF n.links (pairs l (tg.take k)) ((l.drop k).map (·.way)) (tg.drop k) = true := by
    intro k
    induction k with
    | zero => intro _; exact ⟨by simp [pairs_nil]; exact Cons.nil _, fun i hi => by omega, by simpa [pairs_nil] using h⟩
    | succ k ih =>
      intro hk
      obtain ⟨h1, h2, h3⟩ := ih (by omega)
      rw [rgt_go (by omega) (by omega)] at h3
      simp only [Bool.and_eq_true, decide_eq_true_eq] at h3
      refine ⟨?_, fun i hi => ?_, h3.2⟩
      · rw [pairs_take (by omega) (by omega)]
        exact h1.cons (hg.nd _ (gd_mem (by omega))) h3.1.2
      · by_cases e : i = k
        · subst e; exact h3.1.1
        · exact h2 i (by omega)
  obtain ⟨h1, h2, _⟩ := key tg.length (Nat.le_refl _)
  rw [List.take_length] at h1
  exact ⟨h1, h2⟩
end Go.Proofs.Ytdbffighngmibaa
