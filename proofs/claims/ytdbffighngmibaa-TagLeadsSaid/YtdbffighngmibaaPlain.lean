/-
  Plain functions that the layer tag and its specification compute, and plain laws about them. No program. (The seat's name stands for Ytdbffighngmibaa.)
-/
import Derived.Below
namespace Go.Proofs.Ytdbffighngmibaa
open Go.RowKit

/-- a link, a way, what a way does at a node -/
structure Lnk where
  src : Int
  dst : Int
  cap : Int
instance : DecidableEq Lnk := fun a b => decidable_of_iff (a.src = b.src ∧ a.dst = b.dst ∧ a.cap = b.cap) ⟨fun h => by cases a; cases b; simp_all, fun h => by subst h; exact ⟨rfl, rfl, rfl⟩⟩
instance : Inhabited Lnk := ⟨⟨0, 0, 0⟩⟩
structure Hop where
  link : Int
  port : Int
  tag : Int
  step : Int
instance : DecidableEq Hop := fun a b => decidable_of_iff (a.link = b.link ∧ a.port = b.port ∧ a.tag = b.tag ∧ a.step = b.step) ⟨fun h => by cases a; cases b; simp_all, fun h => by subst h; exact ⟨rfl, rfl, rfl, rfl⟩⟩
instance : Inhabited Hop := ⟨⟨0, 0, 0, 0⟩⟩
structure Way where
  src : Int
  links : List Int
  port : Int
  tag : Int
  step : Int
instance : DecidableEq Way := fun a b => decidable_of_iff (a.src = b.src ∧ a.links = b.links ∧ a.port = b.port ∧ a.tag = b.tag ∧ a.step = b.step) ⟨fun h => by cases a; cases b; simp_all, fun h => by subst h; exact ⟨rfl, rfl, rfl, rfl, rfl⟩⟩
instance : Inhabited Way := ⟨⟨0, [], 0, 0, 0⟩⟩

/-- the node at the end of a link, by its number -/
def dstOf (ls : List Lnk) (l : Int) : Int := (ls.getD l.toNat default).dst
/-- a path: whether it is one, and where it leads -/
def walkF (ls : List Lnk) : Int → List Int → Int × Bool
  | at', [] => (at', true)
  | at', l :: path => if 0 ≤ l ∧ l < ls.length ∧ (ls.getD l.toNat default).src = at' then walkF ls (dstOf ls l) path else (-1, false)
/-- the nodes of a way and what it does there, from a node on -/
def hopsF (ls : List Lnk) (w : Way) : Int → List Int → List (Int × Hop)
  | at', [] => [(at', ⟨-1, w.port, w.tag, w.step⟩)]
  | at', l :: path => (at', ⟨l, l, -1, -1⟩) :: hopsF ls w (dstOf ls l) path
def hops (ls : List Lnk) (w : Way) : List (Int × Hop) := hopsF ls w w.src w.links
def nodesF (ls : List Lnk) (w : Way) : List Int := (hops ls w).map (·.1)
/-- what a way does at a node -/
def atF (ls : List Lnk) (w : Way) (node : Int) : Option Hop := ((hops ls w).find? fun p => p.1 == node).map (·.2)
/-- two ways differ at a node -/
def differ (ls : List Lnk) (a b : Way) (k : Int) : Bool :=
  match atF ls a k, atF ls b k with
  | some x, some y => x != y
  | _, _ => false
/-- the least node at which two ways conflict, as the specification looks for it -/
def confR (ls : List Lnk) (n : Nat) (a b : Way) : Option Nat := (List.range n).find? fun k => differ ls a b k
/-- at a node, and what the first way does there, the second one does something else -/
def apart (ls : List Lnk) (b : Way) (p : Int × Hop) : Bool :=
  match atF ls b p.1 with
  | some y => p.2 != y
  | none => false
/-- the least one so far (-1: none), as the program keeps it -/
def leastI (ls : List Lnk) (b : Way) (m : Int) (p : Int × Hop) : Int := if apart ls b p && (decide (m < 0) || decide (p.1 < m)) then p.1 else m
def confI (ls : List Lnk) (a b : Way) : Int := (hops ls a).foldl (leastI ls b) (-1)
theorem walkF_end (ls : List Lnk) (N : Nat) (hd : ∀ l, l < ls.length → 0 ≤ (ls.getD l default).dst ∧ (ls.getD l default).dst < N) :
    ∀ (path : List Int) (a : Int), 0 ≤ a → a < N → (walkF ls a path).2 = true → 0 ≤ (walkF ls a path).1 ∧ (walkF ls a path).1 < N
  | [], a, h0, h1, _ => ⟨h0, h1⟩
  | l :: path, a, h0, h1, h => by
    unfold walkF at h ⊢
    split at h
    · rename_i hc
      rw [if_pos hc]
      have := hd l.toNat (by omega)
      exact walkF_end ls N hd path _ this.1 this.2 h
    · cases h
theorem hopsF_len (ls : List Lnk) (w : Way) : ∀ (path : List Int) (a : Int), (hopsF ls w a path).length = path.length + 1
  | [], _ => rfl
  | _ :: path, a => by simp [hopsF, hopsF_len ls w path]
theorem hopsF_ne (ls : List Lnk) (w : Way) (path : List Int) (a : Int) : hopsF ls w a path ≠ [] := by
  intro h; have := hopsF_len ls w path a; rw [h] at this; simp at this
/-- the nodes of a path that is one are nodes -/
theorem hopsF_node (ls : List Lnk) (N : Nat) (w : Way) (hd : ∀ l, l < ls.length → 0 ≤ (ls.getD l default).dst ∧ (ls.getD l default).dst < N) :
    ∀ (path : List Int) (a : Int), 0 ≤ a → a < N → (walkF ls a path).2 = true → ∀ p ∈ hopsF ls w a path, 0 ≤ p.1 ∧ p.1 < N
  | [], a, h0, h1, _, p, hp => by simp [hopsF] at hp; subst hp; exact ⟨h0, h1⟩
  | l :: path, a, h0, h1, h, p, hp => by
    unfold walkF at h
    split at h
    · rename_i hc
      have := hd l.toNat (by omega)
      simp only [hopsF, List.mem_cons] at hp
      rcases hp with rfl | hp
      · exact ⟨h0, h1⟩
      · exact hopsF_node ls N w hd path _ this.1 this.2 h p hp
    · cases h
theorem atF_mem {ls : List Lnk} {w : Way} {k : Int} {x : Hop} (h : atF ls w k = some x) : (k, x) ∈ hops ls w := by
  unfold atF at h
  simp only [Option.map_eq_some_iff] at h
  obtain ⟨p, hp, rfl⟩ := h
  have h1 := List.find?_some hp
  have h2 := List.mem_of_find?_eq_some hp
  simp only [beq_iff_eq] at h1
  rw [← h1]; exact h2
theorem atF_of_mem {ls : List Lnk} {w : Way} (hnd : (nodesF ls w).Nodup) {k : Int} {x : Hop} (h : (k, x) ∈ hops ls w) : atF ls w k = some x := by
  unfold nodesF at hnd
  unfold atF
  generalize hops ls w = l at *
  induction l with
  | nil => cases h
  | cons p l ih =>
    simp only [List.map_cons, List.nodup_cons] at hnd
    rw [List.find?_cons]
    rcases List.mem_cons.1 h with rfl | h'
    · simp
    · have hne : (p.1 == k) = false := by
        simp only [beq_eq_false_iff_ne]
        rintro rfl
        exact hnd.1 (List.mem_map.2 ⟨_, h', rfl⟩)
      rw [hne]
      exact ih hnd.2 h'
/-- what the program's loop comes to: the least node of those at which the ways are apart -/
theorem least_fold (ls : List Lnk) (b : Way) : ∀ (l : List (Int × Hop)) (m : Int), (∀ p ∈ l, 0 ≤ p.1) → (m = -1 ∨ 0 ≤ m) →
    (l.foldl (leastI ls b) m = -1 ∧ m = -1 ∧ ∀ p ∈ l, apart ls b p = false) ∨
    (0 ≤ l.foldl (leastI ls b) m ∧ (l.foldl (leastI ls b) m = m ∨ ∃ p ∈ l, apart ls b p = true ∧ p.1 = l.foldl (leastI ls b) m) ∧ (m = -1 ∨ l.foldl (leastI ls b) m ≤ m) ∧ ∀ p ∈ l, apart ls b p = true → l.foldl (leastI ls b) m ≤ p.1)
  | [], m, _, hm => by
    rcases hm with rfl | hm
    · exact .inl ⟨rfl, rfl, by simp⟩
    · exact .inr ⟨hm, .inl rfl, .inr (Int.le_refl _), by simp⟩
  | p :: l, m, hp, hm => by
    have hp0 := hp p (by simp)
    have hl : ∀ q ∈ l, 0 ≤ q.1 := fun q hq => hp q (by simp [hq])
    simp only [List.foldl_cons]
    cases ha : apart ls b p
    · have e : leastI ls b m p = m := by unfold leastI; rw [ha]; rfl
      rw [e]
      rcases least_fold ls b l m hl hm with ⟨h1, h2, h3⟩ | ⟨h1, h2, h3, h4⟩
      · refine .inl ⟨h1, h2, fun q hq => ?_⟩
        rcases List.mem_cons.1 hq with rfl | hq
        · exact ha
        · exact h3 q hq
      · refine .inr ⟨h1, h2.imp id fun ⟨q, hq, h⟩ => ⟨q, by simp [hq], h⟩, h3, fun q hq hqa => ?_⟩
        rcases List.mem_cons.1 hq with rfl | hq
        · rw [ha] at hqa; cases hqa
        · exact h4 q hq hqa
    · by_cases hc : m < 0 ∨ p.1 < m
      · have e : leastI ls b m p = p.1 := by unfold leastI; rw [ha, if_pos (by simpa using hc)]
        rw [e]
        rcases least_fold ls b l p.1 hl (.inr hp0) with ⟨_, h2, _⟩ | ⟨h1, h2, h3, h4⟩
        · rw [h2] at hp0; exact absurd hp0 (by decide)
        · have h3' : l.foldl (leastI ls b) p.1 ≤ p.1 := by rcases h3 with h3 | h3 <;> omega
          have hlm : m = -1 ∨ l.foldl (leastI ls b) p.1 ≤ m := by
            clear e h2 h4
            rcases hm with hm | hm
            · exact .inl hm
            · exact .inr (by omega)
          refine .inr ⟨h1, .inr ?_, hlm, fun q hq hqa => ?_⟩
          · rcases h2 with h2 | ⟨q, hq, h, h'⟩
            · exact ⟨p, by simp, ha, h2.symm⟩
            · exact ⟨q, by simp [hq], h, h'⟩
          · rcases List.mem_cons.1 hq with rfl | hq
            · exact h3'
            · exact h4 q hq hqa
      · have e : leastI ls b m p = m := by unfold leastI; rw [ha, if_neg (by simpa using hc)]
        rw [e]
        rcases least_fold ls b l m hl hm with ⟨h1, h2, h3⟩ | ⟨h1, h2, h3, h4⟩
        · omega
        · refine .inr ⟨h1, h2.imp id fun ⟨q, hq, h⟩ => ⟨q, by simp [hq], h⟩, h3, fun q hq hqa => ?_⟩
          rcases List.mem_cons.1 hq with rfl | hq
          · rcases h3 with h3 | h3 <;> omega
          · exact h4 q hq hqa
theorem differ_apart {ls : List Lnk} {a b : Way} (hnd : (nodesF ls a).Nodup) {p : Int × Hop} (hp : p ∈ hops ls a) : differ ls a b p.1 = apart ls b p := by
  unfold differ apart
  rw [atF_of_mem hnd (show (p.1, p.2) ∈ hops ls a from hp)]
  cases atF ls b p.1 <;> rfl
theorem differ_mem {ls : List Lnk} {a b : Way} {k : Int} (h : differ ls a b k = true) : ∃ x, (k, x) ∈ hops ls a := by
  unfold differ at h
  cases ha : atF ls a k with
  | none => rw [ha] at h; cases h
  | some x => exact ⟨x, atF_mem ha⟩
/-- the program and the specification find the same node -/
theorem conf_same {ls : List Lnk} {a b : Way} {n : Nat} (hnd : (nodesF ls a).Nodup) (hn : ∀ p ∈ hops ls a, 0 ≤ p.1 ∧ p.1 < n) :
    (confI ls a b = -1 ∧ confR ls n a b = none) ∨ ∃ k : Nat, confI ls a b = k ∧ confR ls n a b = some k := by
  rcases least_fold ls b (hops ls a) (-1) (fun p hp => (hn p hp).1) (.inl rfl) with ⟨h1, _, h3⟩ | ⟨h1, h2, _, h4⟩
  · refine .inl ⟨h1, ?_⟩
    unfold confR
    rw [List.find?_eq_none]
    intro k _ hd
    obtain ⟨x, hx⟩ := differ_mem hd
    have h5 := h3 _ hx
    have h6 := differ_apart (b := b) hnd hx
    simp only at h6
    rw [h6] at hd
    rw [h5] at hd; cases hd
  · rcases h2 with h2 | ⟨p, hp, ha, h2⟩
    · have : (0 : Int) ≤ -1 := h2 ▸ h1
      exact absurd this (by decide)
    · have hk := hn p hp
      have hc : confI ls a b = p.1 := h2.symm
      refine .inr ⟨p.1.toNat, by rw [hc]; omega, ?_⟩
      unfold confR
      rw [List.find?_range_eq_some]
      refine ⟨?_, by rw [List.mem_range]; omega, fun j hj => ?_⟩
      · rw [show ((p.1.toNat : Nat) : Int) = p.1 by omega, differ_apart hnd hp]; exact ha
      · rw [Bool.not_eq_true', Bool.eq_false_iff]
        intro hd
        obtain ⟨x, hx⟩ := differ_mem hd
        have h6 := differ_apart (b := b) hnd hx
        simp only at h6
        rw [h6] at hd
        have h7 := h4 _ hx hd
        simp only at h7
        rw [← h2] at h7
        omega
/-- a plan: what is done for a tag at a node, after some ways got tags (the last one at the head) -/
abbrev Plan := Int → Int → Option Hop
def addP (ls : List Lnk) (p : Plan) (w : Way) (t : Int) : Plan := fun s k => if s = t then (match atF ls w k with | some h => some h | none => p s k) else p s k
def planR (ls : List Lnk) : List (Way × Int) → Plan
  | [] => fun _ _ => none
  | e :: l => addP ls (planR ls l) e.1 e.2
def okAt (p : Plan) (t : Int) (e : Int × Hop) : Bool := match p t e.1 with | some x => x == e.2 | none => true
def fitsP (ls : List Lnk) (p : Plan) (w : Way) (t : Int) : Bool := (hops ls w).all (okAt p t)
/-- ways with one tag do the same at each node -/
def Cons (ls : List Lnk) (l : List (Way × Int)) : Prop := ∀ e ∈ l, ∀ e' ∈ l, e.2 = e'.2 → ∀ k x y, atF ls e.1 k = some x → atF ls e'.1 k = some y → x = y
theorem plan_some {ls : List Lnk} {s k : Int} {h : Hop} : ∀ {l : List (Way × Int)}, planR ls l s k = some h → ∃ e ∈ l, e.2 = s ∧ atF ls e.1 k = some h
  | [], hp => by cases hp
  | e :: l, hp => by
    unfold planR addP at hp
    split at hp
    · rename_i hs
      split at hp
      · rename_i x hx
        simp only [Option.some.injEq] at hp
        exact ⟨e, by simp, hs.symm, by rw [hx, hp]⟩
      · obtain ⟨e', he', h1, h2⟩ := plan_some hp
        exact ⟨e', by simp [he'], h1, h2⟩
    · obtain ⟨e', he', h1, h2⟩ := plan_some hp
      exact ⟨e', by simp [he'], h1, h2⟩
theorem Cons.tail {ls : List Lnk} {e : Way × Int} {l : List (Way × Int)} (h : Cons ls (e :: l)) : Cons ls l :=
  fun a ha b hb => h a (by simp [ha]) b (by simp [hb])
theorem plan_mem {ls : List Lnk} {k : Int} {x : Hop} : ∀ {l : List (Way × Int)}, Cons ls l → ∀ {e : Way × Int}, e ∈ l → atF ls e.1 k = some x → planR ls l e.2 k = some x
  | [], _, _, he, _ => by cases he
  | a :: l, hc, e, he, hx => by
    unfold planR addP
    by_cases hs : e.2 = a.2
    · rw [if_pos hs]
      cases ha : atF ls a.1 k with
      | some y => simp only; rw [hc e he a (by simp) hs k x y hx ha]
      | none =>
        simp only
        rcases List.mem_cons.1 he with rfl | he
        · rw [ha] at hx; cases hx
        · exact plan_mem hc.tail he hx
    · rw [if_neg hs]
      rcases List.mem_cons.1 he with rfl | he
      · exact absurd rfl hs
      · exact plan_mem hc.tail he hx
theorem differ_iff {ls : List Lnk} {a b : Way} {k : Int} : differ ls a b k = true ↔ ∃ x y, atF ls a k = some x ∧ atF ls b k = some y ∧ x ≠ y := by
  unfold differ
  cases atF ls a k <;> cases atF ls b k <;> simp
/-- a way fits the plan exactly if it conflicts with none of those with the tag -/
theorem fits_iff {ls : List Lnk} {l : List (Way × Int)} {w : Way} {t : Int} (hc : Cons ls l) (hw : (nodesF ls w).Nodup) :
    fitsP ls (planR ls l) w t = true ↔ ∀ e ∈ l, e.2 = t → ∀ k, differ ls e.1 w k = false := by
  unfold fitsP
  rw [List.all_eq_true]
  constructor
  · intro h e he ht k
    rw [Bool.eq_false_iff]
    intro hd
    obtain ⟨x, y, hx, hy, hne⟩ := differ_iff.1 hd
    have h1 := h _ (atF_mem hy)
    unfold okAt at h1
    rw [← ht, plan_mem hc he hx] at h1
    exact hne (by simpa using h1)
  · rintro h ⟨k, y⟩ hp
    unfold okAt
    cases hx : planR ls l t k with
    | none => rfl
    | some x =>
      obtain ⟨e, he, ht, ha⟩ := plan_some hx
      have hy := atF_of_mem hw hp
      have hd := h e he ht k
      simp only
      by_cases hxy : x = y
      · simp [hxy]
      · rw [(differ_iff).2 ⟨x, y, ha, hy, hxy⟩] at hd; cases hd
theorem Cons.cons {ls : List Lnk} {l : List (Way × Int)} {w : Way} {t : Int} (hc : Cons ls l) (hw : (nodesF ls w).Nodup) (hf : fitsP ls (planR ls l) w t = true) : Cons ls ((w, t) :: l) := by
  have h := (fits_iff hc hw).1 hf
  have key : ∀ e ∈ l, e.2 = t → ∀ k x y, atF ls e.1 k = some x → atF ls w k = some y → x = y := by
    intro e he ht k x y hx hy
    have hd := h e he ht k
    by_cases hxy : x = y
    · exact hxy
    · rw [(differ_iff).2 ⟨x, y, hx, hy, hxy⟩] at hd; cases hd
  rintro e he e' he' hee k x y hx hy
  rcases List.mem_cons.1 he with rfl | he <;> rcases List.mem_cons.1 he' with rfl | he'
  · rw [hx] at hy; simpa using hy
  · exact (key e' he' hee.symm k y x hy hx).symm
  · exact key e he hee k x y hx hy
  · exact hc e he e' he' hee k x y hx hy
theorem Cons.nil (ls : List Lnk) : Cons ls [] := fun _ h => by cases h
/-- what the specification asks of a tag -/
def freeR (ls : List Lnk) (n : Nat) (l : List (Way × Int)) (t : Int) (w : Way) : Bool := l.all fun e => e.2 != t || (confR ls n e.1 w).isNone
theorem confR_none {ls : List Lnk} {n : Nat} {a b : Way} (hn : ∀ p ∈ hops ls a, 0 ≤ p.1 ∧ p.1 < n) : confR ls n a b = none ↔ ∀ k, differ ls a b k = false := by
  unfold confR
  rw [List.find?_eq_none]
  constructor
  · intro h k
    rw [Bool.eq_false_iff]
    intro hd
    obtain ⟨x, hx⟩ := differ_mem hd
    have hk := hn _ hx
    simp only at hk
    refine h k.toNat (by rw [List.mem_range]; omega) ?_
    rw [show ((k.toNat : Nat) : Int) = k by omega]; exact hd
  · intro h k _ hd
    rw [h k] at hd; cases hd
theorem free_fits {ls : List Lnk} {n : Nat} {l : List (Way × Int)} {w : Way} {t : Int} (hc : Cons ls l) (hw : (nodesF ls w).Nodup) (hn : ∀ e ∈ l, ∀ p ∈ hops ls e.1, 0 ≤ p.1 ∧ p.1 < n) :
    freeR ls n l t w = fitsP ls (planR ls l) w t := by
  rw [Bool.eq_iff_iff, fits_iff hc hw]
  unfold freeR
  rw [List.all_eq_true]
  constructor
  · intro h e he ht
    have h1 := h e he
    rw [ht] at h1
    simp only [bne_self_eq_false, Bool.false_or, Option.isNone_iff_eq_none] at h1
    exact (confR_none (hn e he)).1 h1
  · intro h e he
    by_cases ht : e.2 = t
    · have h1 := (confR_none (b := w) (hn e he)).2 (h e he ht)
      rw [h1]; simp
    · simp [ht]
/-- a tag that none of the ways has fits -/
theorem fits_new {ls : List Lnk} {l : List (Way × Int)} {w : Way} {t : Int} (hc : Cons ls l) (hw : (nodesF ls w).Nodup) (h : ∀ e ∈ l, e.2 ≠ t) : fitsP ls (planR ls l) w t = true :=
  (fits_iff hc hw).2 fun e he ht => absurd ht (h e he)
/-- among as many numbers as there are ways, and one more, one is no tag -/
theorem exists_new : ∀ (l : List (Way × Int)) (first : Int), ∃ d : Nat, d ≤ l.length ∧ ∀ e ∈ l, e.2 ≠ first + d := by
  intro l first
  have key : ∀ (n : Nat) (l : List Int), l.length < n → ∃ d : Nat, d < n ∧ first + d ∉ l := by
    intro n
    induction n with
    | zero => intro l h; omega
    | succ n ih =>
      intro l h
      by_cases hm : first + (n : Int) ∈ l
      · obtain ⟨d, hd, hn⟩ := ih (l.erase (first + n)) (by rw [List.length_erase_of_mem hm]; have := List.length_pos_of_mem hm; omega)
        refine ⟨d, by omega, fun hmem => hn ?_⟩
        rw [List.mem_erase_of_ne (by omega)]
        exact hmem
      · exact ⟨n, by omega, hm⟩
  obtain ⟨d, hd, hn⟩ := key (l.length + 1) (l.map (·.2)) (by simp)
  exact ⟨d, by omega, fun e he h => hn (List.mem_map.2 ⟨e, he, h⟩)⟩
/-- the least number from one on that is accepted, within some steps -/
def lowest (f : Int → Bool) : Nat → Int → Int
  | 0, t => t
  | n + 1, t => if f t then t else lowest f n (t + 1)
theorem lowest_spec {f : Int → Bool} : ∀ {n : Nat} {t : Int}, (∃ d : Nat, d ≤ n ∧ f (t + d) = true) → f (lowest f n t) = true ∧ t ≤ lowest f n t ∧ lowest f n t ≤ t + n ∧ ∀ s, t ≤ s → s < lowest f n t → f s = false
  | 0, t, ⟨d, hd, hf⟩ => by
    have : d = 0 := by omega
    subst this
    exact ⟨by simpa [lowest] using hf, by simp [lowest], by simp [lowest], fun s h1 h2 => by simp [lowest] at h2; omega⟩
  | n + 1, t, ⟨d, hd, hf⟩ => by
    unfold lowest
    cases h : f t
    · rw [if_neg (by simp)]
      have hd0 : d ≠ 0 := by rintro rfl; simp [h] at hf
      obtain ⟨h1, h2, h3, h4⟩ := lowest_spec (f := f) (n := n) (t := t + 1) ⟨d - 1, by omega, by rw [show t + 1 + ((d - 1 : Nat) : Int) = t + d by omega]; exact hf⟩
      refine ⟨h1, by omega, by omega, fun s hs hs2 => ?_⟩
      by_cases he : s = t
      · rw [he, h]
      · exact h4 s (by omega) hs2
    · rw [if_pos rfl]
      exact ⟨h, by omega, by omega, fun s h1 h2 => by omega⟩
/-- the tag that a way gets after others -/
def tagF (ls : List Lnk) (first : Int) (l : List (Way × Int)) (w : Way) : Int := lowest (fitsP ls (planR ls l) w) l.length first
theorem tagF_spec {ls : List Lnk} {first : Int} {l : List (Way × Int)} {w : Way} (hc : Cons ls l) (hw : (nodesF ls w).Nodup) :
    fitsP ls (planR ls l) w (tagF ls first l w) = true ∧ first ≤ tagF ls first l w ∧ tagF ls first l w ≤ first + l.length ∧ ∀ s, first ≤ s → s < tagF ls first l w → fitsP ls (planR ls l) w s = false := by
  obtain ⟨d, hd, hn⟩ := exists_new l first
  exact lowest_spec ⟨d, hd, fits_new hc hw hn⟩
/-- what Assign does, the ways that have tags already at the head, the last one first -/
def asgF (ls : List Lnk) (first : Int) : List (Way × Int) → List Way → Option (List (Way × Int))
  | l, [] => some l
  | l, w :: ws => if 65535 < tagF ls first l w then none else asgF ls first ((w, tagF ls first l w) :: l) ws
/-- how the list of ways with tags came about -/
inductive Made (ls : List Lnk) (first : Int) : List (Way × Int) → Prop
  | nil : Made ls first []
  | cons {l w} : Made ls first l → (nodesF ls w).Nodup → Made ls first ((w, tagF ls first l w) :: l)
theorem Made.cons' {ls : List Lnk} {first : Int} {l : List (Way × Int)} (h : Made ls first l) : Cons ls l := by
  induction h with
  | nil => exact Cons.nil ls
  | cons _ hw ih => exact ih.cons hw (tagF_spec ih hw).1
theorem asgF_made {ls : List Lnk} {first : Int} : ∀ {ws : List Way} {l m : List (Way × Int)}, Made ls first l → (∀ w ∈ ws, (nodesF ls w).Nodup) → asgF ls first l ws = some m → Made ls first m
  | [], l, m, h, _, he => by simp only [asgF, Option.some.injEq] at he; exact he ▸ h
  | w :: ws, l, m, h, hw, he => by
    unfold asgF at he
    split at he
    · cases he
    · exact asgF_made (h.cons (hw w (by simp))) (fun v hv => hw v (by simp [hv])) he
theorem asgF_ways {ls : List Lnk} {first : Int} : ∀ {ws : List Way} {l m : List (Way × Int)}, asgF ls first l ws = some m → m.map (·.1) = ws.reverse ++ l.map (·.1)
  | [], l, m, he => by simp only [asgF, Option.some.injEq] at he; simp [he]
  | w :: ws, l, m, he => by
    unfold asgF at he
    split at he
    · cases he
    · rw [asgF_ways he]; simp
/-- with few ways and a small first tag Assign succeeds -/
theorem asgF_some {ls : List Lnk} {first : Int} (hf : first ≤ 60000) : ∀ {ws : List Way} {l : List (Way × Int)}, Made ls first l → (∀ w ∈ ws, (nodesF ls w).Nodup) → ws.length + l.length ≤ 5000 → ∃ m, asgF ls first l ws = some m
  | [], l, _, _, _ => ⟨l, rfl⟩
  | w :: ws, l, h, hw, hn => by
    have ht := (tagF_spec (first := first) h.cons' (hw w (by simp))).2.2.1
    simp only [List.length_cons] at hn
    unfold asgF
    rw [if_neg (by omega)]
    exact asgF_some hf (h.cons (hw w (by simp))) (fun v hv => hw v (by simp [hv])) (by simp only [List.length_cons]; omega)
/-- the tags of the first ways do not depend on the others -/
theorem asgF_app {ls : List Lnk} {first : Int} : ∀ {us vs : List Way} {l m : List (Way × Int)}, asgF ls first l (us ++ vs) = some m → ∃ k, asgF ls first l us = some k ∧ asgF ls first k vs = some m
  | [], vs, l, m, h => ⟨l, rfl, h⟩
  | u :: us, vs, l, m, h => by
    rw [List.cons_append] at h
    unfold asgF at h
    split at h
    · cases h
    · rename_i hc
      obtain ⟨k, h1, h2⟩ := asgF_app h
      exact ⟨k, by unfold asgF; rw [if_neg hc]; exact h1, h2⟩
theorem asgF_tail {ls : List Lnk} {first : Int} : ∀ {ws : List Way} {l m : List (Way × Int)}, asgF ls first l ws = some m → ∃ k, m = k ++ l
  | [], l, m, h => by simp only [asgF, Option.some.injEq] at h; exact ⟨[], by simp [h]⟩
  | w :: ws, l, m, h => by
    unfold asgF at h
    split at h
    · cases h
    · obtain ⟨k, hk⟩ := asgF_tail h
      exact ⟨k ++ [(w, tagF ls first l w)], by simp [hk]⟩
/-- more ways with tags: less fits -/
theorem fits_less {ls : List Lnk} {l : List (Way × Int)} {e : Way × Int} {w : Way} {t : Int} (hc : Cons ls (e :: l)) (hw : (nodesF ls w).Nodup) (h : fitsP ls (planR ls l) w t = false) : fitsP ls (planR ls (e :: l)) w t = false := by
  rw [Bool.eq_false_iff] at h ⊢
  intro h2
  exact h ((fits_iff hc.tail hw).2 fun a ha => (fits_iff hc hw).1 h2 a (by simp [ha]))
/-- no two of the tags could be one: of two tags, some way with the less one conflicts with one with the greater one -/
theorem made_stuck {ls : List Lnk} {first : Int} {l : List (Way × Int)} (h : Made ls first l) : ∀ e ∈ l, ∀ s, first ≤ s → s < e.2 → ∃ a ∈ l, a.2 = s ∧ ∃ k, differ ls a.1 e.1 k = true := by
  induction h with
  | nil => intro e he; cases he
  | @cons l w hl hw ih =>
    intro e he s h1 h2
    rcases List.mem_cons.1 he with rfl | he
    · have hf := (tagF_spec hl.cons' hw).2.2.2 s h1 h2
      rw [Bool.eq_false_iff, ne_eq, fits_iff hl.cons' hw] at hf
      simp only [Classical.not_forall, Bool.not_eq_false] at hf
      obtain ⟨a, ha, hs, k, hd⟩ := hf
      exact ⟨a, by simp [ha], hs, k, hd⟩
    · obtain ⟨a, ha, hs, hk⟩ := ih e he s h1 h2
      exact ⟨a, by simp [ha], hs, hk⟩
theorem made_ge {ls : List Lnk} {first : Int} {l : List (Way × Int)} (h : Made ls first l) : ∀ e ∈ l, first ≤ e.2 := by
  induction h with
  | nil => intro e he; cases he
  | @cons l w hl hw ih =>
    intro e he
    rcases List.mem_cons.1 he with rfl | he
    · exact (tagF_spec hl.cons' hw).2.1
    · exact ih e he
theorem differ_self (ls : List Lnk) (a : Way) (k : Int) : differ ls a a k = false := by
  unfold differ
  cases atF ls a k <;> simp
/-- equal ways have equal tags -/
theorem made_equal {ls : List Lnk} {first : Int} {l : List (Way × Int)} (h : Made ls first l) : ∀ e ∈ l, ∀ e' ∈ l, e.1 = e'.1 → e.2 = e'.2 := by
  have key : ∀ e ∈ l, ∀ e' ∈ l, e.1 = e'.1 → e.2 < e'.2 → False := by
    intro e he e' he' hw hlt
    obtain ⟨a, ha, hs, k, hd⟩ := made_stuck h e' he' e.2 (made_ge h e he) hlt
    rw [← hw] at hd
    obtain ⟨x, y, hx, hy, hne⟩ := differ_iff.1 hd
    exact hne (h.cons' a ha e he hs k x y hx hy)
  intro e he e' he' hw
  rcases Int.lt_trichotomy e.2 e'.2 with h1 | h1 | h1
  · exact (key e he e' he' hw h1).elim
  · exact h1
  · exact (key e' he' e he hw.symm h1).elim
theorem differ_swap (ls : List Lnk) (a b : Way) (k : Int) : differ ls a b k = differ ls b a k := by
  unfold differ
  cases atF ls a k with
  | none => cases atF ls b k <;> rfl
  | some x =>
    cases atF ls b k with
    | none => rfl
    | some y => simp only; by_cases h : x = y
                · simp [h]
                · rw [Bool.eq_iff_iff]; simp [h, Ne.symm h]
theorem confR_swap (ls : List Lnk) (n : Nat) (a b : Way) : confR ls n a b = confR ls n b a := by
  unfold confR; congr 1; funext k; exact differ_swap ls a b k
theorem confR_self (ls : List Lnk) (n : Nat) (a : Way) : confR ls n a a = none := by
  unfold confR; rw [List.find?_eq_none]; intro k _ h; rw [differ_self] at h; cases h
/-- the node to which the first links of a path lead -/
def nodeAt (ls : List Lnk) : Int → List Int → Nat → Int
  | a, _, 0 => a
  | a, [], _ + 1 => a
  | _, l :: path, c + 1 => nodeAt ls (dstOf ls l) path c
theorem nodeAt_succ (ls : List Lnk) : ∀ (path : List Int) (a : Int) (c : Nat) (h : c < path.length), nodeAt ls a path (c + 1) = dstOf ls path[c]
  | [], _, _, h => by simp at h
  | l :: path, a, 0, _ => by simp [nodeAt]
  | l :: path, a, c + 1, h => by
    simp only [nodeAt, List.getElem_cons_succ]
    exact nodeAt_succ ls path (dstOf ls l) c (by simpa using h)
/-- a part of a way, from one of its nodes on, does what the way does -/
theorem hopsF_drop (ls : List Lnk) (w w' : Way) (h1 : w'.port = w.port) (h2 : w'.tag = w.tag) (h3 : w'.step = w.step) : ∀ (path : List Int) (a : Int) (c : Nat), c ≤ path.length → hopsF ls w' (nodeAt ls a path c) (path.drop c) = (hopsF ls w a path).drop c
  | [], a, 0, _ => by simp [hopsF, nodeAt, h1, h2, h3]
  | [], a, c + 1, h => by simp at h
  | l :: path, a, 0, _ => by
    have := hopsF_drop ls w w' h1 h2 h3 path (dstOf ls l) 0 (Nat.zero_le _)
    simp only [nodeAt, List.drop_zero] at this ⊢
    simp only [hopsF, this]
  | l :: path, a, c + 1, h => by
    simp only [nodeAt, List.drop_succ_cons, hopsF]
    exact hopsF_drop ls w w' h1 h2 h3 path (dstOf ls l) c (by simpa using h)
/-- a part of a way does not conflict with it -/
theorem part_calm {ls : List Lnk} {a : Way} (hnd : (nodesF ls a).Nodup) (c : Nat) (hc : c ≤ a.links.length) (k : Int) :
    differ ls a { a with src := nodeAt ls a.src a.links c, links := a.links.drop c } k = false := by
  rw [Bool.eq_false_iff]
  intro hd
  obtain ⟨x, y, hx, hy, hne⟩ := differ_iff.1 hd
  have hm := atF_mem hy
  unfold hops at hm
  simp only at hm
  rw [hopsF_drop ls a { a with src := nodeAt ls a.src a.links c, links := a.links.drop c } rfl rfl rfl a.links a.src c hc] at hm
  have h2 := atF_of_mem hnd (List.mem_of_mem_drop hm)
  rw [hx] at h2
  exact hne (by simpa using h2)
/-- the specification's word on the node of a conflict -/
theorem confR_spec {ls : List Lnk} {n : Nat} {a b : Way} : (∀ k, confR ls n a b = some k → k < n ∧ differ ls a b k = true ∧ ∀ j : Nat, j < k → differ ls a b j = false) ∧ (confR ls n a b = none → ∀ j : Nat, j < n → differ ls a b j = false) := by
  unfold confR
  refine ⟨fun k h => ?_, fun h j hj => ?_⟩
  · rw [List.find?_range_eq_some] at h
    exact ⟨List.mem_range.1 h.2.1, h.1, fun j hj => by have := h.2.2 j hj; simpa using this⟩
  · rw [List.find?_eq_none] at h
    have := h j (List.mem_range.2 hj)
    simpa using this
/-- tags that are right for ways -/
def rightF (ls : List Lnk) : List (Way × Int) → Bool
  | [] => true
  | e :: l => rightF ls l && (decide (1 ≤ e.2) && decide (e.2 ≤ 65535)) && fitsP ls (planR ls l) e.1 e.2
theorem rightF_cons {ls : List Lnk} : ∀ {l : List (Way × Int)}, rightF ls l = true → (∀ e ∈ l, (nodesF ls e.1).Nodup) → Cons ls l ∧ ∀ e ∈ l, 1 ≤ e.2 ∧ e.2 ≤ 65535
  | [], _, _ => ⟨Cons.nil ls, by simp⟩
  | e :: l, h, hn => by
    simp only [rightF, Bool.and_eq_true, decide_eq_true_eq] at h
    obtain ⟨⟨h1, h2⟩, h3⟩ := h
    obtain ⟨hc, hb⟩ := rightF_cons h1 (fun a ha => hn a (by simp [ha]))
    refine ⟨hc.cons (hn e (by simp)) h3, fun a ha => ?_⟩
    rcases List.mem_cons.1 ha with rfl | ha
    · exact h2
    · exact hb a ha
/-- the tags of Assign are right -/
theorem made_right {ls : List Lnk} {first : Int} {l : List (Way × Int)} (h : Made ls first l) (hf : 1 ≤ first) (hb : ∀ e ∈ l, e.2 ≤ 65535) : rightF ls l = true := by
  induction h with
  | nil => rfl
  | @cons l w hl hw ih =>
    have hs := tagF_spec (first := first) hl.cons' hw
    simp only [rightF, Bool.and_eq_true, decide_eq_true_eq]
    exact ⟨⟨ih (fun e he => hb e (by simp [he])), by omega, hb (w, tagF ls first l w) (by simp)⟩, hs.1⟩
/-- no way with one tag conflicts with one with another tag -/
def apartF (ls : List Lnk) (l : List (Way × Int)) (s t : Int) : Bool := l.all fun e => e.2 != s || fitsP ls (planR ls l) e.1 t
def apartR (ls : List Lnk) (n : Nat) (l : List (Way × Int)) (s t : Int) : Bool := l.all fun e => e.2 != s || freeR ls n l t e.1
theorem apart_same {ls : List Lnk} {n : Nat} {l : List (Way × Int)} (hc : Cons ls l) (hw : ∀ e ∈ l, (nodesF ls e.1).Nodup) (hn : ∀ e ∈ l, ∀ p ∈ hops ls e.1, 0 ≤ p.1 ∧ p.1 < n) (s t : Int) : apartR ls n l s t = apartF ls l s t := by
  unfold apartR apartF
  rw [Bool.eq_iff_iff, List.all_eq_true, List.all_eq_true]
  constructor <;> intro h e he
  · rw [← free_fits hc (hw e he) hn]; exact h e he
  · rw [free_fits hc (hw e he) hn]; exact h e he
/-- no two tags of Assign can be merged -/
theorem made_apart {ls : List Lnk} {first : Int} {l : List (Way × Int)} (h : Made ls first l) (hw : ∀ e ∈ l, (nodesF ls e.1).Nodup) {s t : Int} (hs : first ≤ s) (hst : s < t) (ht : ∃ e ∈ l, e.2 = t) : apartF ls l s t = false := by
  obtain ⟨e, he, rfl⟩ := ht
  obtain ⟨a, ha, has, k, hd⟩ := made_stuck h e he s hs hst
  unfold apartF
  rw [List.all_eq_false]
  refine ⟨a, ha, ?_⟩
  rw [has]
  simp only [bne_self_eq_false, Bool.false_or, fits_iff h.cons' (hw a ha)]
  intro hf
  have := hf e he rfl k
  rw [differ_swap] at this
  rw [this] at hd; cases hd
/-- two increasing lists with the same elements -/
theorem incr_same : ∀ {a b : List Int}, a.Pairwise (· < ·) → b.Pairwise (· < ·) → (∀ x, x ∈ a ↔ x ∈ b) → a = b
  | [], [], _, _, _ => rfl
  | [], y :: b, _, _, h => by have := (h y).2 (by simp); cases this
  | x :: a, [], _, _, h => by have := (h x).1 (by simp); cases this
  | x :: a, y :: b, ha, hb, h => by
    rw [List.pairwise_cons] at ha hb
    have hxy : x = y := by
      rcases List.mem_cons.1 ((h x).1 (by simp)) with e | e
      · exact e
      · rcases List.mem_cons.1 ((h y).2 (by simp)) with e' | e'
        · exact e'.symm
        · have h1 := hb.1 x e
          have h2 := ha.1 y e'
          omega
    subst hxy
    congr 1
    refine incr_same ha.2 hb.2 fun z => ⟨fun hz => ?_, fun hz => ?_⟩
    · rcases List.mem_cons.1 ((h z).1 (by simp [hz])) with e | e
      · have := ha.1 z hz; omega
      · exact e
    · rcases List.mem_cons.1 ((h z).2 (by simp [hz])) with e | e
      · have := hb.1 z hz; omega
      · exact e
/-- of places in the order of their tags, those at a node are the used tags that do something there -/
theorem places_node {ps : List (Int × Int)} {us : List Int} {f : Int → Int → Bool} (hnd : ps.Nodup) (hs : ps.Pairwise fun a b => a.1 ≤ b.1) (hus : us.Pairwise (· < ·))
    (hm : ∀ t k, (t, k) ∈ ps ↔ t ∈ us ∧ f t k = true) (k : Int) : (ps.filter fun p => p.2 == k).map (·.1) = us.filter fun t => f t k := by
  refine incr_same ?_ (hus.filter _) fun t => ?_
  · rw [List.pairwise_map]
    have h1 := hs.filter (fun p => p.2 == k)
    have h2 : (ps.filter fun p => p.2 == k).Nodup := hnd.filter _
    refine (List.Pairwise.and h1 h2).imp_of_mem ?_
    rintro ⟨a, a'⟩ ⟨b, b'⟩ ha hb ⟨hle, hne⟩
    simp only [List.mem_filter, beq_iff_eq] at ha hb
    simp only at hle ⊢
    rcases Int.lt_or_eq_of_le hle with h | h
    · exact h
    · exact absurd (by rw [h, ha.2, hb.2]) hne
  · simp only [List.mem_map, List.mem_filter, beq_iff_eq]
    constructor
    · rintro ⟨⟨a, a'⟩, ⟨h1, h2⟩, rfl⟩
      simp only at h2; subst h2
      exact (hm a a').1 h1
    · rintro h
      exact ⟨(t, k), ⟨(hm t k).2 h, rfl⟩, rfl⟩
end Go.Proofs.Ytdbffighngmibaa
