/-
  Plain laws: the closure of the direct pairs of the certain order of spans is that order.
-/
import Derived.Test.YthebnpophckgcaaWj
namespace Go.Proofs.Ythebnpophckgcaa
open Go.RowKit
set_option linter.unusedVariables false
/-- a table of Booleans with one of them turned -/
def upd (F : Nat → Nat → Bool) (i j : Nat) (v : Bool) : Nat → Nat → Bool := fun a b => if a = i ∧ b = j then v else F a b
def wstep (F : Nat → Nat → Bool) (k i j : Nat) : Nat → Nat → Bool := upd F i j (F i j || (F i k && F k j))
def rowS (F : Nat → Nat → Bool) (k i : Nat) : Nat → Nat → Nat → Bool
  | 0 => F
  | j + 1 => wstep (rowS F k i j) k i j
def allS (F : Nat → Nat → Bool) (k n : Nat) : Nat → Nat → Nat → Bool
  | 0 => F
  | i + 1 => rowS (allS F k n i) k i n
def war (F : Nat → Nat → Bool) (n : Nat) : Nat → Nat → Nat → Bool
  | 0 => F
  | k + 1 => allS (war F n k) k n n
theorem rowS_eq (F : Nat → Nat → Bool) (k i : Nat) : ∀ m a b, rowS F k i m a b = if a = i ∧ b < m then (F i b || (F i k && F k b)) else F a b
  | 0, a, b => by simp [rowS]
  | m + 1, a, b => by
    have h1 : rowS F k i m i m = F i m := by rw [rowS_eq F k i m]; simp
    have h2 : rowS F k i m i k = F i k := by
      rw [rowS_eq F k i m]; split
      · cases F i k <;> simp
      · rfl
    have h3 : rowS F k i m k m = F k m := by rw [rowS_eq F k i m]; simp
    simp only [rowS, wstep, upd, h1, h2, h3]
    by_cases ha : a = i
    · subst ha
      by_cases hb : b = m
      · subst hb; simp
      · simp only [hb, and_false, if_false, true_and]
        rw [rowS_eq F k a m]
        by_cases hc : b < m
        · rw [if_pos ⟨rfl, hc⟩, if_pos (by omega)]
        · rw [if_neg (by omega), if_neg (by omega)]
    · simp only [ha, false_and, if_false]
      rw [rowS_eq F k i m]
      simp [ha]
theorem allS_eq (F : Nat → Nat → Bool) {k n : Nat} (hk : k < n) : ∀ m a b, b < n → allS F k n m a b = if a < m then (F a b || (F a k && F k b)) else F a b
  | 0, a, b, _ => by simp [allS]
  | m + 1, a, b, hb => by
    simp only [allS]
    rw [rowS_eq]
    by_cases ha : a = m
    · subst ha
      rw [if_pos ⟨rfl, hb⟩, if_pos (by omega), allS_eq F hk a a b hb, allS_eq F hk a a k hk, allS_eq F hk a k b hb, if_neg (by omega), if_neg (by omega)]
      split
      · cases F a b <;> cases F a k <;> cases F k b <;> simp
      · rfl
    · rw [if_neg (by omega), allS_eq F hk m a b hb]
      by_cases hc : a < m
      · rw [if_pos hc, if_pos (by omega)]
      · rw [if_neg hc, if_neg (by omega)]
theorem war_succ (F : Nat → Nat → Bool) {k n : Nat} (hk : k < n) {a b : Nat} (ha : a < n) (hb : b < n) : war F n (k + 1) a b = (war F n k a b || (war F n k a k && war F n k k b)) := by
  simp only [war]; rw [allS_eq _ hk n a b hb, if_pos ha]
theorem war_more (F : Nat → Nat → Bool) {n : Nat} : ∀ k, k ≤ n → ∀ a b, a < n → b < n → F a b = true → war F n k a b = true
  | 0, _, _, _, _, _, h => h
  | k + 1, hk, a, b, ha, hb, h => by rw [war_succ F (by omega) ha hb, war_more F k (by omega) a b ha hb h]; rfl
theorem war_trans (F : Nat → Nat → Bool) {n : Nat} : ∀ k, k ≤ n → ∀ a m b, a < n → m < k → b < n → war F n k a m = true → war F n k m b = true → war F n k a b = true
  | 0, _, _, _, _, _, hm, _, _, _ => by omega
  | k + 1, hk, a, m, b, ha, hm, hb, h1, h2 => by
    have hkn : k < n := by omega
    have hmn : m < n := by omega
    rw [war_succ F hkn ha hmn] at h1
    rw [war_succ F hkn hmn hb] at h2
    rw [war_succ F hkn ha hb]
    simp only [Bool.or_eq_true, Bool.and_eq_true] at h1 h2 ⊢
    have ih := war_trans F (n := n) k (by omega)
    rcases Nat.lt_or_ge m k with hmk | hmk
    · rcases h1 with h1 | ⟨h1, h1'⟩ <;> rcases h2 with h2 | ⟨h2, h2'⟩
      · exact .inl (ih a m b ha hmk hb h1 h2)
      · exact .inr ⟨ih a m k ha hmk hkn h1 h2, h2'⟩
      · exact .inr ⟨h1, ih k m b hkn hmk hb h1' h2⟩
      · exact .inr ⟨h1, h2'⟩
    · have hmk : m = k := by omega
      subst hmk
      refine .inr ⟨?_, ?_⟩
      · rcases h1 with h1 | ⟨h1, _⟩ <;> exact h1
      · rcases h2 with h2 | ⟨_, h2⟩ <;> exact h2
/-- the certain order, by indices -/
def lessI (l : List (Int × Int)) (i j : Nat) : Bool := decide ((l.getD i (0, 0)).2 < (l.getD j (0, 0)).1)
theorem war_sound {l : List (Int × Int)} (hv : ∀ i, i < l.length → (l.getD i (0, 0)).1 ≤ (l.getD i (0, 0)).2) {F : Nat → Nat → Bool} (hF : ∀ i j, i < l.length → j < l.length → F i j = true → lessI l i j = true) :
    ∀ k, k ≤ l.length → ∀ a b, a < l.length → b < l.length → war F l.length k a b = true → lessI l a b = true
  | 0, _, a, b, ha, hb, h => hF a b ha hb h
  | k + 1, hk, a, b, ha, hb, h => by
    have hkn : k < l.length := by omega
    rw [war_succ F hkn ha hb] at h
    simp only [Bool.or_eq_true, Bool.and_eq_true] at h
    have ih := war_sound hv hF k (by omega)
    rcases h with h | ⟨h1, h2⟩
    · exact ih a b ha hb h
    · have e1 := ih a k ha hkn h1
      have e2 := ih k b hkn hb h2
      have := hv k hkn
      simp only [lessI, decide_eq_true_eq] at *
      omega
theorem ordC_eq {l : List (Int × Int)} {i j : Nat} : ordC l i j = true ↔ lessI l i j = true ∧ ∀ m, m < l.length → ¬ (lessI l i m = true ∧ lessI l m j = true) := by
  unfold ordC lessI betw
  simp only [Bool.and_eq_true, decide_eq_true_eq, Bool.not_eq_true', List.any_eq_false]
  refine and_congr_right fun _ => ⟨fun h m hm hh => ?_, fun h x hx hh => ?_⟩
  · have hg : l.getD m (0, 0) = l[m] := by simp [List.getD, hm]
    rw [hg] at hh
    exact h _ (List.getElem_mem hm) (by simpa using hh)
  · obtain ⟨m, hm, rfl⟩ := List.getElem_of_mem hx
    have hg : l.getD m (0, 0) = l[m] := by simp [List.getD, hm]
    refine h m hm ?_
    rw [hg]
    simpa using hh
theorem chain_full {l : List (Int × Int)} (hv : ∀ i, i < l.length → (l.getD i (0, 0)).1 ≤ (l.getD i (0, 0)).2) {T : Nat → Nat → Bool} (hT : ∀ i j, i < l.length → j < l.length → ordC l i j = true → T i j = true)
    (ht : ∀ a m b, a < l.length → m < l.length → b < l.length → T a m = true → T m b = true → T a b = true) :
    ∀ (g : Nat) (i j : Nat), i < l.length → j < l.length → ((l.getD j (0, 0)).1 - (l.getD i (0, 0)).2).toNat ≤ g → lessI l i j = true → T i j = true
  | g, i, j, hi, hj, hg, h => by
    by_cases hc : ordC l i j = true
    · exact hT i j hi hj hc
    · rw [ordC_eq] at hc
      simp only [h, true_and, Classical.not_forall, not_and, Decidable.not_not] at hc
      obtain ⟨m, hm, h1, h2⟩ := hc
      have v1 := hv m hm
      have l0 := h
      have l1 := h1
      have l2 := h2
      simp only [lessI, decide_eq_true_eq] at l0 l1 l2
      match g, hg with
      | 0, hg => omega
      | g + 1, hg =>
        exact ht i m j hi hm hj (chain_full hv hT ht g i m hi hm (by omega) h1) (chain_full hv hT ht g m j hm hj (by omega) h2)
/-- the pairs as a table -/
def tabF (x : List (Nat × Nat)) : Nat → Nat → Bool := fun i j => decide ((i, j) ∈ x)
theorem mem_ordF {l : List (Int × Int)} {i j : Nat} : (i, j) ∈ ordF l ↔ i < l.length ∧ j < l.length ∧ ordC l i j = true := by
  unfold ordF ordP rowP
  simp only [List.mem_flatMap, List.mem_range, List.mem_map, List.mem_filter]
  constructor
  · rintro ⟨a, ha, b, ⟨hb, hc⟩, he⟩
    simp only [Prod.mk.injEq] at he
    obtain ⟨rfl, rfl⟩ := he
    exact ⟨ha, hb, hc⟩
  · rintro ⟨h1, h2, h3⟩
    exact ⟨i, h1, j, ⟨h2, h3⟩, rfl⟩
/-- the closure of the pairs is the order -/
theorem war_is {l : List (Int × Int)} (hv : ∀ i, i < l.length → (l.getD i (0, 0)).1 ≤ (l.getD i (0, 0)).2) {i j : Nat} (hi : i < l.length) (hj : j < l.length) :
    war (tabF (ordF l)) l.length l.length i j = lessI l i j := by
  have hF : ∀ i j, i < l.length → j < l.length → tabF (ordF l) i j = true → lessI l i j = true := by
    intro i j hi hj h
    simp only [tabF, decide_eq_true_eq] at h
    exact (ordC_eq.1 (mem_ordF.1 h).2.2).1
  have e1 := war_sound hv hF l.length (Nat.le_refl _) i j hi hj
  have e2 : lessI l i j = true → war (tabF (ordF l)) l.length l.length i j = true :=
    chain_full hv (fun a b ha hb hc => war_more _ _ (Nat.le_refl _) a b ha hb (by simp only [tabF, decide_eq_true_eq]; exact mem_ordF.2 ⟨ha, hb, hc⟩))
      (fun a m b ha hm hb h1 h2 => war_trans _ _ (Nat.le_refl _) a m b ha hm hb h1 h2) _ i j hi hj (Nat.le_refl _)
  rw [Bool.eq_iff_iff]
  exact ⟨e1, e2⟩
/-- the cells of a table -/
def Grid (cs : Array Value) (F : Nat → Nat → Bool) : Prop := cs.size = 144 ∧ ∀ i j, i < 12 → j < 12 → cs[i * 12 + j]? = some (.bool (F i j))
theorem Grid.at {cs : Array Value} {F : Nat → Nat → Bool} (h : Grid cs F) {i j : Nat} (hi : i < 12) (hj : j < 12) : cs[i * 12 + j]? = some (.bool (F i j)) := h.2 i j hi hj
theorem Grid.set {cs : Array Value} {F : Nat → Nat → Bool} (h : Grid cs F) {i j : Nat} (hi : i < 12) (hj : j < 12) (v : Bool) : Grid (cs.setIfInBounds (i * 12 + j) (.bool v)) (upd F i j v) := by
  refine ⟨by simpa using h.1, fun a b ha hb => ?_⟩
  unfold upd
  by_cases hc : a = i ∧ b = j
  · obtain ⟨rfl, rfl⟩ := hc
    rw [if_pos ⟨rfl, rfl⟩, Array.getElem?_setIfInBounds_self_of_lt (by have := h.1; omega)]
  · rw [if_neg hc, Array.getElem?_setIfInBounds_ne (by omega)]
    exact h.2 a b ha hb
theorem Grid.ones {cs : Array Value} {F : Nat → Nat → Bool} (h : Grid cs F) : cs.all (·.oneCell') = true := by
  rw [Array.all_eq_true]
  intro i hi
  have h1 := h.1
  have h2 := h.2 (i / 12) (i % 12) (by omega) (by omega)
  rw [show i / 12 * 12 + i % 12 = i by omega, Array.getElem?_eq_getElem hi] at h2
  simp only [Option.some.injEq] at h2
  rw [h2]; rfl
theorem Grid.new : Grid (Array.replicate 144 (.bool false)) (tabF []) :=
  ⟨by simp, fun i j hi hj => by rw [Array.getElem?_replicate, if_pos (by omega)]; simp [tabF]⟩
theorem Grid.congr {cs : Array Value} {F G : Nat → Nat → Bool} (h : Grid cs F) (he : ∀ i j, i < 12 → j < 12 → F i j = G i j) : Grid cs G :=
  ⟨h.1, fun i j hi hj => by rw [h.2 i j hi hj, he i j hi hj]⟩
theorem tab_take {x : List (Nat × Nat)} {k : Nat} (hk : k < x.length) (i j : Nat) : upd (tabF (x.take k)) (x.getD k (0, 0)).1 (x.getD k (0, 0)).2 true i j = tabF (x.take (k + 1)) i j := by
  have hg : x.getD k (0, 0) = x[k] := by simp [List.getD, hk]
  rw [hg]
  unfold upd tabF
  rw [List.take_succ_eq_append_getElem hk]
  by_cases hc : i = x[k].1 ∧ j = x[k].2
  · rw [if_pos hc]
    obtain ⟨rfl, rfl⟩ := hc
    symm
    rw [decide_eq_true_eq, List.mem_append, List.mem_singleton]
    exact .inr rfl
  · rw [if_neg hc]
    have hne : (i, j) ≠ x[k] := fun he => hc ⟨by rw [← he], by rw [← he]⟩
    rw [decide_eq_decide, List.mem_append, List.mem_singleton]
    exact ⟨.inl, fun h => h.resolve_right hne⟩
end Go.Proofs.Ythebnpophckgcaa
