/-
  Plain laws for the walks of ways.
-/
import Derived.Test.YtdbffighngmibaaMa
namespace Go.Proofs.Ytdbffighngmibaa
open Go.RowKit
set_option linter.unusedVariables false
theorem nd_iff {l : List Int} : l.Nodup ↔ ∀ i j, i < j → j < l.length → gd l i ≠ gd l j := by
  unfold List.Nodup
  rw [List.pairwise_iff_getElem]
  constructor
  · intro h i j hij hj
    rw [gd_getElem (by omega), gd_getElem hj]
    exact h i j (by omega) hj hij
  · intro h i j hi hj hij
    have := h i j hij hj
    rwa [gd_getElem hi, gd_getElem hj] at this
theorem nodes_eq (ls : List Lnk) (w : Way) : ∀ (path : List Int) (a : Int), (hopsF ls w a path).map (·.1) = a :: path.map (dstOf ls)
  | [], a => rfl
  | l :: path, a => by rw [hopsF, List.map_cons, nodes_eq ls w path]; rfl
theorem nodesF_eq (ls : List Lnk) (w : Way) : nodesF ls w = w.src :: w.links.map (dstOf ls) := nodes_eq ls w w.links w.src
theorem nodesF_len (ls : List Lnk) (w : Way) : (nodesF ls w).length = w.links.length + 1 := by rw [nodesF_eq]; simp
theorem hops_len (ls : List Lnk) (w : Way) : (hops ls w).length = w.links.length + 1 := hopsF_len ls w _ _
instance : Inhabited (Int × Hop) := ⟨(0, default)⟩
/-- what the k-th hop is -/
def hopN (w : Way) (k : Nat) : Hop := if k < w.links.length then ⟨gd w.links k, gd w.links k, -1, -1⟩ else ⟨-1, w.port, w.tag, w.step⟩
theorem hopsF_get (ls : List Lnk) (w : Way) : ∀ (path : List Int) (a : Int) (k : Nat), k ≤ path.length → gd (hopsF ls w a path) k = (gd (a :: path.map (dstOf ls)) k, if k < path.length then ⟨gd path k, gd path k, -1, -1⟩ else ⟨-1, w.port, w.tag, w.step⟩)
  | [], a, k, h => by
    have : k = 0 := by simpa using h
    subst this; rfl
  | l :: path, a, 0, h => by simp [hopsF, gd]
  | l :: path, a, k + 1, h => by
    have ih := hopsF_get ls w path (dstOf ls l) k (by simpa using h)
    have e1 : gd (hopsF ls w a (l :: path)) (k + 1) = gd (hopsF ls w (dstOf ls l) path) k := by simp [hopsF, gd]
    have e2 : gd (a :: (l :: path).map (dstOf ls)) (k + 1) = gd (dstOf ls l :: path.map (dstOf ls)) k := by simp [gd]
    have e3 : gd (l :: path) (k + 1) = gd path k := by simp [gd]
    rw [e1, e2, e3, ih]
    simp
theorem hops_get {ls : List Lnk} {w : Way} {k : Nat} (h : k ≤ w.links.length) : gd (hops ls w) k = (gd (nodesF ls w) k, hopN w k) := by
  rw [nodesF_eq]; exact hopsF_get ls w w.links w.src k h
/-- what a way does at a node, looked for from the k-th hop on -/
def atD (ls : List Lnk) (w : Way) (node : Int) (k : Nat) : Option Hop := (((hops ls w).drop k).find? fun p => p.1 == node).map (·.2)
theorem atD_zero (ls : List Lnk) (w : Way) (node : Int) : atD ls w node 0 = atF ls w node := rfl
theorem atD_yes {ls : List Lnk} {w : Way} {node : Int} {k : Nat} (hk : k ≤ w.links.length) (h : gd (nodesF ls w) k = node) : atD ls w node k = some (hopN w k) := by
  unfold atD
  rw [drop_gd (by rw [hops_len]; omega), hops_get hk, List.find?_cons]
  simp [h]
theorem atD_no {ls : List Lnk} {w : Way} {node : Int} {k : Nat} (hk : k ≤ w.links.length) (h : ¬ gd (nodesF ls w) k = node) : atD ls w node k = atD ls w node (k + 1) := by
  have e : (gd (nodesF ls w) k == node) = false := by simpa using h
  unfold atD
  rw [drop_gd (by rw [hops_len]; omega), hops_get hk, List.find?_cons]
  simp only [e]
theorem atD_end {ls : List Lnk} {w : Way} {node : Int} {k : Nat} (hk : ¬ k ≤ w.links.length) : atD ls w node k = none := by
  unfold atD
  rw [drop_end (by rw [hops_len]; omega)]; rfl
def hopOr (o : Option Hop) : Hop := o.getD ⟨0, 0, 0, 0⟩
theorem differ_eq (ls : List Lnk) (a b : Way) (k : Int) : differ ls a b k = ((atF ls a k).isSome && ((atF ls b k).isSome && decide ¬ (hopOr (atF ls a k) = hopOr (atF ls b k)))) := by
  unfold differ hopOr
  cases atF ls a k <;> cases atF ls b k <;> simp [bne]
  rename_i x y
  by_cases h : x = y <;> simp [h]
theorem confR_yes {ls : List Lnk} {n : Nat} {a b : Way} {k : Nat} (hk : k < n) (h : differ ls a b k = true) (hl : ∀ i : Nat, i < k → differ ls a b i = false) : confR ls n a b = some k := by
  unfold confR
  rw [List.find?_range_eq_some]
  exact ⟨h, by rw [List.mem_range]; exact hk, fun j hj => by rw [hl j hj]; rfl⟩
theorem confR_no {ls : List Lnk} {n : Nat} {a b : Way} (hl : ∀ i : Nat, i < n → differ ls a b i = false) : confR ls n a b = none := by
  unfold confR
  rw [List.find?_eq_none]
  intro k hk
  rw [hl k (List.mem_range.1 hk)]; simp
theorem nodes_zero (ls : List Lnk) (w : Way) : gd (nodesF ls w) 0 = w.src := by rw [nodesF_eq]; rfl
theorem nodes_succ (ls : List Lnk) (w : Way) {k : Nat} (h : k < w.links.length) : gd (nodesF ls w) (k + 1) = (gd ls (gd w.links k).toNat).dst := by
  rw [nodesF_eq]
  have : gd (w.src :: w.links.map (dstOf ls)) (k + 1) = gd (w.links.map (dstOf ls)) k := by simp [gd]
  rw [this, gd_map h]; rfl
theorem hops_at {ls : List Lnk} {w : Way} {k : Nat} (h : k ≤ w.links.length) : (hops ls w)[k]? = some (gd (nodesF ls w) k, hopN w k) := by
  rw [gd_get (by rw [hops_len]; omega), hops_get h]
theorem same_iff (a b : Way) : decide (a = b) = decide (a.src = b.src ∧ a.links = b.links ∧ a.port = b.port ∧ a.tag = b.tag ∧ a.step = b.step) := by
  obtain ⟨a1, a2, a3, a4, a5⟩ := a
  obtain ⟨b1, b2, b3, b4, b5⟩ := b
  simp
abbrev encP (p : Int × Hop) : List Value := [.int .i64 p.1, .agg (encH p.2).toArray]
/-- a path that is one goes over links that are there -/
def InR (ls : List Lnk) (path : List Int) : Prop := ∀ i, i < path.length → 0 ≤ gd path i ∧ gd path i < ls.length
theorem walk_inr {ls : List Lnk} : ∀ {path : List Int} {a : Int}, (walkF ls a path).2 = true → InR ls path
  | [], a, _ => fun i hi => by simp at hi
  | l :: path, a, h => by
    unfold walkF at h
    split at h
    · rename_i hc
      have ih := walk_inr h
      intro i hi
      cases i with
      | zero => exact ⟨hc.1, hc.2.1⟩
      | succ i => exact ih i (by simpa using hi)
    · cases h
/-- the specification's check of a way: its error, as a number -/
def oneF (n : Nm) (steps : Int) (w : Way) : Int :=
  if w.src < 0 ∨ (n.nodes.length : Int) ≤ w.src ∨ w.tag < 0 ∨ 65535 < w.tag ∨ w.step < -1 ∨ steps ≤ w.step then 1
  else if (walkF n.links w.src w.links).2 = false then 18
  else if ¬ (nodesF n.links w).Nodup then 18
  else if 20000 ≤ w.port ∧ w.port - 20000 = (walkF n.links w.src w.links).1 then 0
  else if (10000 ≤ w.port ∧ w.port < 10000 + n.edges.length) ∧ (gd n.edges (w.port - 10000).toNat).node = (walkF n.links w.src w.links).1 then 0
  else 1
def chkG (n : Nm) (steps : Int) : Nat → List Wm → Int × Int
  | _, [] => (0, 0)
  | k, m :: r => if oneF n steps m.way = 0 then chkG n steps (k + 1) r else (k, oneF n steps m.way)
def chkF (n : Nm) (steps : Int) (l : List Wm) : Int × Int := if steps < 0 then (0, 1) else if 2000 < l.length then (0, 2) else chkG n steps 0 l
theorem chkG_ok {n : Nm} {steps : Int} : ∀ {l : List Wm} {k : Nat}, (chkG n steps k l).2 = 0 → ∀ m ∈ l, oneF n steps m.way = 0
  | [], _, _, m, hm => by cases hm
  | a :: l, k, h, m, hm => by
    unfold chkG at h
    split at h
    · rename_i ha
      rcases List.mem_cons.1 hm with rfl | hm
      · exact ha
      · exact chkG_ok h m hm
    · rename_i ha; exact absurd h ha
theorem chkF_ok {n : Nm} {steps : Int} {l : List Wm} (h : (chkF n steps l).2 = 0) : ∀ m ∈ l, oneF n steps m.way = 0 := by
  unfold chkF at h
  split at h
  · cases h
  · split at h
    · cases h
    · exact chkG_ok h
/-- a right way -/
structure WayOk (n : Nm) (w : Way) : Prop where
  s0 : 0 ≤ w.src
  s1 : w.src < n.nodes.length
  t0 : 0 ≤ w.tag
  t1 : w.tag ≤ 65535
  walk : (walkF n.links w.src w.links).2 = true
  nd : (nodesF n.links w).Nodup
theorem oneF_ok {n : Nm} {steps : Int} {w : Way} (h : oneF n steps w = 0) : WayOk n w := by
  unfold oneF at h
  split at h
  · cases h
  · split at h
    · cases h
    · split at h
      · cases h
      · rename_i h1 h2 h3
        exact ⟨by omega, by omega, by omega, by omega, by simpa using h2, by simpa using h3⟩
theorem leastI_yes {ls : List Lnk} {b : Way} {m : Int} {p : Int × Hop} (h1 : (atF ls b p.1).isSome = true) (h2 : ¬ p.2 = hopOr (atF ls b p.1)) (h3 : m < 0 ∨ p.1 < m) : leastI ls b m p = p.1 := by
  unfold leastI apart
  unfold hopOr at h2
  cases ha : atF ls b p.1 with
  | none => rw [ha] at h1; cases h1
  | some y =>
    rw [ha] at h2
    simp only [Option.getD_some] at h2
    have e : (p.2 != y) = true := by simpa using h2
    have e2 : (decide (m < 0) || decide (p.1 < m)) = true := by simpa using h3
    simp [e, e2]
theorem leastI_no {ls : List Lnk} {b : Way} {m : Int} {p : Int × Hop} (h : (atF ls b p.1).isSome = false ∨ p.2 = hopOr (atF ls b p.1) ∨ (¬ m < 0 ∧ ¬ p.1 < m)) : leastI ls b m p = m := by
  unfold leastI apart
  unfold hopOr at h
  cases ha : atF ls b p.1 with
  | none => simp
  | some y =>
    rw [ha] at h
    simp only [Option.getD_some, Option.isSome_some, Bool.true_eq_false, false_or] at h
    rcases h with h | ⟨h, h2⟩
    · simp [h]
    · simp [h, h2]
def confK (ls : List Lnk) (a b : Way) (k : Nat) : Int := ((hops ls a).take k).foldl (leastI ls b) (-1)
theorem confK_succ {ls : List Lnk} {a b : Way} {k : Nat} {p : Int × Hop} (h : (hops ls a)[k]? = some p) : confK ls a b (k + 1) = leastI ls b (confK ls a b k) p := by
  unfold confK
  rw [List.take_add_one, h]; simp [List.foldl_append]
theorem confK_end (ls : List Lnk) (a b : Way) : confK ls a b (hops ls a).length = confI ls a b := by unfold confK confI; rw [List.take_length]
/-- where a packet with a port is -/
def whereF (n : Nm) (port : Int) : Int :=
  if 0 ≤ port ∧ port ≤ n.links.length - 1 then (gd n.links port.toNat).dst
  else if 10000 ≤ port ∧ port ≤ 10000 + n.edges.length - 1 then (gd n.edges (port - 10000).toNat).node
  else if 20000 ≤ port ∧ port ≤ 20000 + n.nodes.length - 1 then port - 20000
  else -1
theorem walk_end {n : Nm} (hok : NetOk n) {w : Way} (h0 : 0 ≤ w.src) (h1 : w.src < n.nodes.length) (h : (walkF n.links w.src w.links).2 = true) : 0 ≤ (walkF n.links w.src w.links).1 ∧ (walkF n.links w.src w.links).1 < n.nodes.length :=
  walkF_end n.links n.nodes.length (fun l hl => ⟨(hok.links l hl).d0, (hok.links l hl).d1⟩) w.links w.src h0 h1 h
end Go.Proofs.Ytdbffighngmibaa
