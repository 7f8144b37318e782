/-
  Plain laws: the program's plans as lists are those of the ways with tags; what Assign and Right say.
-/
import Derived.Test.YtdbffighngmibaaTh
namespace Go.Proofs.Ytdbffighngmibaa
open Go.RowKit
set_option linter.unusedVariables false
set_option linter.unusedSimpArgs false
def Rep (ls : List Lnk) (pl : PlanL) (ps : List (Way × Int)) : Prop := ∀ s k, look pl (s, k) = planR ls ps s k
theorem rep_nil (ls : List Lnk) : Rep ls [] [] := fun s k => rfl
theorem fitsL_eq {ls : List Lnk} {pl : PlanL} {ps : List (Way × Int)} (h : Rep ls pl ps) (w : Way) (t : Int) : fitsL ls pl w t = fitsP ls (planR ls ps) w t := by
  unfold fitsL fitsP
  congr 1; funext e; unfold okAt; rw [h]
  cases planR ls ps t e.1 with
  | none => rfl
  | some x => simp only [hopOr, Option.isNone_some, Bool.false_or, Option.getD_some]; rw [Bool.eq_iff_iff]; rw [beq_iff_eq]; exact ⟨fun h => of_decide_eq_true h, fun h => decide_eq_true h⟩
theorem fold_look (t s k : Int) : ∀ (l : List (Int × Hop)) (pl : PlanL), (l.map (·.1)).Nodup → look (l.foldl (fun l e => upsert l (t, e.1) e.2) pl) (s, k) = if s = t then (match (l.find? fun p => p.1 == k).map (·.2) with | some h => some h | none => look pl (s, k)) else look pl (s, k)
  | [], pl, _ => by simp
  | e :: l, pl, hnd => by
    simp only [List.map_cons, List.nodup_cons] at hnd
    rw [List.foldl_cons, fold_look t s k l _ hnd.2, look_upsert]
    by_cases hs : s = t
    · subst hs
      rw [if_pos rfl, if_pos rfl, List.find?_cons]
      by_cases hk : e.1 = k
      · subst hk
        have : l.find? (fun p => p.1 == e.1) = none := by
          rw [List.find?_eq_none]
          intro p hp h
          exact hnd.1 (List.mem_map.2 ⟨p, hp, by simpa using h⟩)
        rw [this]; simp
      · have hb : (e.1 == k) = false := by simpa using hk
        rw [hb]
        have hne : ¬ ((s, e.1) = (s, k)) := by simp [hk]
        simp only [if_neg hne]
    · rw [if_neg hs, if_neg hs, if_neg (by simp; intro h; exact absurd h.symm hs)]
theorem addL_rep {ls : List Lnk} {pl : PlanL} {ps : List (Way × Int)} (h : Rep ls pl ps) {w : Way} (hnd : (nodesF ls w).Nodup) (t : Int) : Rep ls (addL ls pl w t) ((w, t) :: ps) := fun s k => by
  unfold addL
  rw [fold_look t s k _ _ hnd, h s k]
  rfl
theorem upsert_mem {K V : Type} [DecidableEq K] (k : K) (v : V) : ∀ (l : List (K × V)) (x : K), x ∈ (upsert l k v).map (·.1) → x = k ∨ x ∈ l.map (·.1)
  | [], x, h => by unfold upsert at h; simp [findI] at h; exact .inl h
  | e :: l, x, h => by
    rw [upsert_cons] at h
    split at h
    · simp at h ⊢; rcases h with h | h
      · exact .inl h
      · exact .inr (.inr h)
    · simp only [List.map_cons, List.mem_cons] at h ⊢
      rcases h with h | h
      · exact .inr (.inl h)
      · rcases upsert_mem k v l x h with h | h
        · exact .inl h
        · exact .inr (.inr h)
theorem upsert_nd {K V : Type} [DecidableEq K] (k : K) (v : V) : ∀ (l : List (K × V)), (l.map (·.1)).Nodup → ((upsert l k v).map (·.1)).Nodup
  | [], _ => by simp [upsert, findI]
  | e :: l, h => by
    simp only [List.map_cons, List.nodup_cons] at h
    rw [upsert_cons]
    split
    · rename_i he
      simp only [List.map_cons, List.nodup_cons]; rw [← he]; exact h
    · rename_i he
      simp only [List.map_cons, List.nodup_cons]
      refine ⟨fun hm => ?_, upsert_nd k v l h.2⟩
      rcases upsert_mem k v l _ hm with h1 | h1
      · exact he h1
      · exact h.1 h1
theorem upsert_len {K V : Type} [DecidableEq K] (k : K) (v : V) : ∀ (l : List (K × V)), (upsert l k v).length ≤ l.length + 1
  | [] => by simp [upsert, findI]
  | e :: l => by
    rw [upsert_cons]
    split
    · simp
    · have := upsert_len k v l; simp; omega
/-- the plan's entries: each place once, and not too many -/
structure PlOk (l : List Wm) (k : Nat) (pl : PlanL) : Prop where
  nd : (pl.map (·.1)).Nodup
  len : ∀ B, (∀ m ∈ l, m.way.links.length + 1 ≤ B) → pl.length ≤ B * k
theorem plOk_nil (l : List Wm) : PlOk l 0 [] := ⟨by simp, fun _ _ => by simp⟩
theorem addL_nd (ls : List Lnk) (w : Way) (t : Int) (pl : PlanL) (h : (pl.map (·.1)).Nodup) : ((addL ls pl w t).map (·.1)).Nodup ∧ (addL ls pl w t).length ≤ pl.length + (w.links.length + 1) := by
  unfold addL
  rw [← hops_len ls w]
  generalize hops ls w = hs
  induction hs generalizing pl with
  | nil => exact ⟨h, by simp⟩
  | cons e hs ih =>
    rw [List.foldl_cons]
    have h1 := ih (upsert pl (t, e.1) e.2) (upsert_nd _ _ _ h)
    have h2 := upsert_len (t, e.1) e.2 pl
    refine ⟨h1.1, ?_⟩
    have := h1.2
    simp only [List.length_cons]; omega
theorem PlOk.add {l : List Wm} {k : Nat} {pl : PlanL} (h : PlOk l k pl) (ls : List Lnk) {m : Wm} (hm : m ∈ l) (t : Int) : PlOk l (k + 1) (addL ls pl m.way t) := by
  have h1 := addL_nd ls m.way t pl h.nd
  refine ⟨h1.1, fun B hB => ?_⟩
  have h2 := h.len B hB
  have h3 := hB m hm
  rw [Nat.mul_succ]; omega
/-- what Assign returns -/
def asgRes (ls : List Lnk) (first : Int) (ws : List Way) : List Int × Int :=
  if 1 ≤ first ∧ first ≤ 65535 then (match asgF ls first [] ws with | some ps => (ps.reverse.map (·.2), 0) | none => ([], 12)) else ([], 1)
/-- the ways, each a path without a node twice -/
def Good (ls : List Lnk) (l : List Wm) : Prop := ∀ m ∈ l, (nodesF ls m.way).Nodup ∧ InR ls m.way.links
theorem Good.at {ls : List Lnk} {l : List Wm} (h : Good ls l) {i : Nat} (hi : i < l.length) : (nodesF ls (gd l i).way).Nodup ∧ InR ls (gd l i).way.links := h _ (gd_mem hi)
/-- tags that are right for ways, from some on -/
def rgtF (ls : List Lnk) : List (Way × Int) → List Way → List Int → Bool
  | _, [], [] => true
  | ps, w :: ws, t :: ts => decide (1 ≤ t ∧ t ≤ 65535) && fitsP ls (planR ls ps) w t && rgtF ls ((w, t) :: ps) ws ts
  | _, _, _ => false
/-- all tags fit, from some on, whatever they are -/
def madF (ls : List Lnk) : List (Way × Int) → List Way → List Int → Bool
  | ps, w :: ws, t :: ts => fitsP ls (planR ls ps) w t && madF ls ((w, t) :: ps) ws ts
  | _, _, _ => true
theorem rgtF_eq (ls : List Lnk) : ∀ (ws : List Way) (ts : List Int) (ps : List (Way × Int)), rgtF ls ps ws ts = (decide (ts.length = ws.length) && ts.all (fun t => decide (1 ≤ t ∧ t ≤ 65535)) && madF ls ps ws ts)
  | [], [], ps => rfl
  | [], t :: ts, ps => by simp [rgtF]
  | w :: ws, [], ps => by simp [rgtF]
  | w :: ws, t :: ts, ps => by
    rw [rgtF, madF, rgtF_eq ls ws ts]
    simp only [List.length_cons, List.all_cons, Nat.add_right_cancel_iff]
    cases decide (1 ≤ t ∧ t ≤ 65535) <;> cases fitsP ls (planR ls ps) w t <;> simp
theorem gd_zip {α β : Type} [Inhabited α] [Inhabited β] {x : List α} {y : List β} {k : Nat} (h : k < x.length) (h2 : k < y.length) : gd (x.zip y) k = (gd x k, gd y k) := by
  rw [gd_getElem (by simp; omega), gd_getElem h, gd_getElem h2]; simp
theorem zip_step {l : List Wm} {tg : List Int} {k : Nat} (h : k < l.length) (h2 : k < tg.length) : (((l.map (·.way)).zip tg).take (k + 1)).reverse = ((gd l k).way, gd tg k) :: (((l.map (·.way)).zip tg).take k).reverse := by
  rw [take_gd (by simp; omega), gd_zip (by simpa using h) h2, gd_map h]; simp
end Go.Proofs.Ytdbffighngmibaa
