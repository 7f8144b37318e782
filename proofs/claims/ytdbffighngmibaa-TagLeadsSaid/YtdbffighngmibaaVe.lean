/-
  Plain laws on the tables of rules.
-/
import Derived.Test.YtdbffighngmibaaVd
namespace Go.Proofs.Ytdbffighngmibaa
open Go.RowKit
set_option linter.unusedVariables false
set_option linter.unusedSimpArgs false
/-- the rules for the tags that do something, in the order of the tags -/
def tblS (top : Int) (f : Int → Option Hop) (rs : List Rul) (t : Int) : List Rul := match f t with
  | some h => rs ++ [⟨top - rs.length, t, h⟩]
  | none => rs
def tblK (top : Int) (f : Int → Option Hop) (us : List Int) : List Rul := us.foldl (tblS top f) []
theorem tblK_snoc (top : Int) (f : Int → Option Hop) (us : List Int) (t : Int) : tblK top f (us ++ [t]) = tblS top f (tblK top f us) t := by unfold tblK; rw [List.foldl_append]; rfl
theorem tblK_take {top : Int} {f : Int → Option Hop} {us : List Int} {i : Nat} (h : i < us.length) : tblK top f (us.take (i + 1)) = tblS top f (tblK top f (us.take i)) (gd us i) := by rw [take_gd h, tblK_snoc]
theorem tblS_some {top : Int} {f : Int → Option Hop} {rs : List Rul} {t : Int} {h : Hop} (hf : f t = some h) : tblS top f rs t = rs ++ [⟨top - rs.length, t, h⟩] := by unfold tblS; rw [hf]
theorem tblS_none {top : Int} {f : Int → Option Hop} {rs : List Rul} {t : Int} (hf : f t = none) : tblS top f rs t = rs := by unfold tblS; rw [hf]
theorem tblK_filter (top : Int) (f : Int → Option Hop) : ∀ (us : List Int) (rs : List Rul), us.foldl (tblS top f) rs = (us.filter fun t => (f t).isSome).foldl (tblS top f) rs
  | [], rs => rfl
  | t :: us, rs => by
    rw [List.filter_cons]
    cases hf : f t with
    | none => rw [List.foldl_cons, tblS_none hf]; simpa using tblK_filter top f us rs
    | some h => rw [List.foldl_cons]; simp only [Option.isSome_some, if_true, List.foldl_cons]; exact tblK_filter top f us _
theorem tblK_len_le (top : Int) (f : Int → Option Hop) (us vs : List Int) : (tblK top f us).length ≤ (tblK top f (us ++ vs)).length := by
  unfold tblK
  rw [List.foldl_append]
  generalize us.foldl (tblS top f) [] = rs
  induction vs generalizing rs with
  | nil => exact Nat.le_refl _
  | cons v vs ih =>
    rw [List.foldl_cons]
    refine Nat.le_trans ?_ (ih _)
    unfold tblS
    split <;> simp
/-- what Rules returns -/
def rulesRes (N : Nat) (top : Int) (us : List Int) (f : Int → Int → Option Hop) : List (List Rul) × Int :=
  if 1 ≤ top ∧ top ≤ 65535 then
    (if (List.range N).all (fun (k : Nat) => decide (((tblK top (fun t => f t k) us).length : Int) ≤ top ∧ (tblK top (fun t => f t k) us).length ≤ 4000)) then ((List.range N).map (fun (k : Nat) => tblK top (fun t => f t k) us), 0) else ([], 2))
  else ([], 1)
theorem rules_arg {N : Nat} {top : Int} {us : List Int} {f : Int → Int → Option Hop} (h : ¬ (1 ≤ top ∧ top ≤ 65535)) : rulesRes N top us f = ([], 1) := by unfold rulesRes; rw [if_neg h]
theorem rules_full {N : Nat} {top : Int} {us : List Int} {f : Int → Int → Option Hop} (h : 1 ≤ top ∧ top ≤ 65535) {k : Nat} (hk : k < N) (hl : top < (tblK top (fun t => f t k) us).length ∨ 4000 < (tblK top (fun t => f t k) us).length) : rulesRes N top us f = ([], 2) := by
  unfold rulesRes
  rw [if_pos h, if_neg]
  intro ha
  rw [List.all_eq_true] at ha
  have := of_decide_eq_true (ha k (List.mem_range.2 hk))
  omega
theorem rules_ok {N : Nat} {top : Int} {us : List Int} {f : Int → Int → Option Hop} (h : 1 ≤ top ∧ top ≤ 65535) (hl : ∀ k : Nat, k < N → ((tblK top (fun t => f t k) us).length : Int) ≤ top ∧ (tblK top (fun t => f t k) us).length ≤ 4000) {r : List (List Rul)} (hr : r.length = N) (hg : ∀ k : Nat, k < N → gd r k = tblK top (fun t => f t k) us) : rulesRes N top us f = (r, 0) := by
  unfold rulesRes
  rw [if_pos h, if_pos]
  · congr 1
    apply List.ext_getElem (by simp [hr])
    intro i h1 h2
    have := hg i (by simpa using h1)
    rw [gd_getElem h2] at this
    simp [this]
  · rw [List.all_eq_true]
    intro k hk
    exact decide_eq_true (hl k (List.mem_range.1 hk))
abbrev encTb (t : Tb) : List Value := [tbV t]
theorem tb_add2 (S Z : List (Nat × Obj)) (rs : List Rm) (m : Rm) : (rmH m ++ (S ++ (rs.flatMap rmH ++ Z))).Perm (S ++ ((rs ++ [m]).flatMap rmH ++ Z)) := by
  rw [List.flatMap_append, List.flatMap_cons, List.flatMap_nil, List.append_nil]
  have h1 : (rmH m ++ (S ++ (rs.flatMap rmH ++ Z))).Perm (S ++ (rmH m ++ (rs.flatMap rmH ++ Z))) := by
    simp only [← List.append_assoc]; exact (List.perm_append_comm.append_right _).append_right _
  refine h1.trans (List.Perm.append_left S ?_)
  rw [← List.append_assoc]; exact List.perm_append_comm.append_right _
theorem ts_snoc (ts : List Tb) (t : Tb) (Y : List (Nat × Obj)) : (slH t.d (t.rs.flatMap encRm) 56 ++ (t.rs.flatMap rmH ++ (tsH ts ++ Y))).Perm (tsH (ts ++ [t]) ++ Y) := by
  unfold tsH
  rw [List.flatMap_append, List.flatMap_cons, List.flatMap_nil, List.append_nil, ← List.append_assoc, ← List.append_assoc]
  exact List.perm_append_comm.append_right _
theorem plan_none {ls : List Lnk} {ps : List (Way × Int)} {t k : Int} (h : ∀ e ∈ ps, e.2 = t → atF ls e.1 k = none) : planR ls ps t k = none := by
  cases hp : planR ls ps t k with
  | none => rfl
  | some x =>
    obtain ⟨e, he, h1, h2⟩ := plan_some hp
    rw [h e he h1] at h2; cases h2
theorem hop_link {ls : List Lnk} {w : Way} (hr : InR ls w.links) {k : Int} {h : Hop} (ha : atF ls w k = some h) : h.link = -1 ∨ 0 ≤ h.link := by
  have hm := atF_mem ha
  obtain ⟨i, hi, he⟩ := List.getElem_of_mem hm
  rw [hops_len] at hi
  have h1 := hops_get (ls := ls) (w := w) (k := i) (by omega)
  rw [gd_getElem (by rw [hops_len]; omega), he] at h1
  have h2 : h = hopN w i := by simpa using (congrArg (·.2) h1)
  rw [h2]
  unfold hopN
  split
  · rename_i hlt; exact .inr (hr i hlt).1
  · exact .inl rfl
end Go.Proofs.Ytdbffighngmibaa
