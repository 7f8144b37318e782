/-
  How lists, networks and ways lie in memory.
-/
import Derived.Test.YtdbffighngmibaaLh
import Derived.Test.YtdbffighngmibaaPlain
namespace Go.Proofs.Ytdbffighngmibaa
open Go.RowKit
set_option linter.unusedVariables false
def gd {α : Type} [Inhabited α] (l : List α) (i : Nat) : α := l.getD i default
theorem gd_get {α : Type} [Inhabited α] {l : List α} {i : Nat} (h : i < l.length) : l[i]? = some (gd l i) := by simp [gd, List.getD, h]
theorem gd_getElem {α : Type} [Inhabited α] {l : List α} {i : Nat} (h : i < l.length) : gd l i = l[i] := by simp [gd, List.getD, h]
theorem gd_mem {α : Type} [Inhabited α] {l : List α} {i : Nat} (h : i < l.length) : gd l i ∈ l := by rw [gd_getElem h]; exact List.getElem_mem _
theorem drop_gd {α : Type} [Inhabited α] {l : List α} {k : Nat} (h : k < l.length) : l.drop k = gd l k :: l.drop (k + 1) := by rw [List.drop_eq_getElem_cons h, gd_getElem h]
theorem take_gd {α : Type} [Inhabited α] {l : List α} {k : Nat} (h : k < l.length) : l.take (k + 1) = l.take k ++ [gd l k] := by rw [List.take_succ_eq_append_getElem h, gd_getElem h]
theorem drop_end {α : Type} {l : List α} {k : Nat} (h : ¬ k < l.length) : l.drop k = [] := List.drop_eq_nil_of_le (by omega)
theorem take_end {α : Type} {l : List α} {k : Nat} (h : ¬ k < l.length) : l.take k = l := List.take_of_length_le (by omega)
theorem gd_map {α β : Type} [Inhabited α] [Inhabited β] {f : α → β} {l : List α} {k : Nat} (h : k < l.length) : gd (l.map f) k = f (gd l k) := by rw [gd_getElem h, gd_getElem (by simpa using h)]; simp
section
variable {α : Type} [Inhabited α] {w0 : World} {H H' : List (Nat × Obj)} {q : Option Addr} {sz : Nat} {enc : α → List Value} {l : List α} {i j : Nat} {v : Value}
theorem Arr.b (h : Arr w0 H q sz enc l) (hi : i < l.length) : Bas q := (h i _ (gd_get hi)).1
theorem Arr.cs (h : Arr w0 H q sz enc l) (hi : i < l.length) : Cells w0 H (bq q) (oq q + i * sz) (enc (gd l i)) := (h i _ (gd_get hi)).2
theorem Arr.f0 (h : Arr w0 H q sz enc l) (hi : i < l.length) (hv : nth? (enc (gd l i)) 0 = some v) : Cell w0 H ⟨bq q, oq q + i * sz, none⟩ v := h.cs hi 0 v (nth_eq hv)
theorem Arr.f (h : Arr w0 H q sz enc l) (hi : i < l.length) (hv : nth? (enc (gd l i)) j = some v) : Cell w0 H ⟨bq q, oq q + i * sz + j, none⟩ v := h.cs hi j v (nth_eq hv)
end
abbrev encI (x : Int) : List Value := [.int .i64 x]
abbrev encS (s : ByteArray) : List Value := [.string s]
abbrev IntArr (w0 : World) (H : List (Nat × Obj)) (q : Option Addr) (l : List Int) : Prop := Arr w0 H q 1 encI l
/-- nodes, links, edges -/
structure Nod where
  name : ByteArray
  box : Bool
  rules : Int
  entries : Int
instance : Inhabited Nod := ⟨⟨default, false, 0, 0⟩⟩
structure Edg where
  name : ByteArray
  node : Int
instance : Inhabited Edg := ⟨⟨default, 0⟩⟩
abbrev encN (x : Nod) : List Value := [.string x.name, .bool x.box, .int .i64 x.rules, .int .i64 x.entries]
abbrev encL (x : Lnk) : List Value := [.int .i64 x.src, .int .i64 x.dst, .int .i64 x.cap]
abbrev encE (x : Edg) : List Value := [.string x.name, .int .i64 x.node]
/-- a network, and where it lies -/
structure Nm where
  nodes : List Nod
  links : List Lnk
  edges : List Edg
  qn : Option Addr
  cn : Nat
  ql : Option Addr
  cl : Nat
  qe : Option Addr
  ce : Nat
abbrev encNm (n : Nm) : List Value := [.slice n.qn n.nodes.length n.cn, .slice n.ql n.links.length n.cl, .slice n.qe n.edges.length n.ce]
structure NetM (w0 : World) (H : List (Nat × Obj)) (n : Nm) : Prop where
  nodes : Arr w0 H n.qn 4 encN n.nodes
  links : Arr w0 H n.ql 3 encL n.links
  edges : Arr w0 H n.qe 2 encE n.edges
  ln : n.nodes.length ≤ 9223372036854775807
  ll : n.links.length ≤ 9223372036854775807
  le : n.edges.length ≤ 9223372036854775807
  sn : ∀ x ∈ n.nodes, x.name.size ≤ 9223372036854775807
  se : ∀ x ∈ n.edges, x.name.size ≤ 9223372036854775807
theorem NetM.mono {w0 : World} {H H' : List (Nat × Obj)} {n : Nm} (h : NetM w0 H n) (hs : H.Sublist H' := by exact sbt) : NetM w0 H' n := ⟨h.nodes.mono hs, h.links.mono hs, h.edges.mono hs, h.ln, h.ll, h.le, h.sn, h.se⟩
/-- a way, and where its links lie -/
structure Wm where
  way : Way
  q : Option Addr
  cap : Nat
instance : Inhabited Wm := ⟨⟨default, none, 0⟩⟩
abbrev encW (m : Wm) : List Value := [.int .i64 m.way.src, .slice m.q m.way.links.length m.cap, .int .i64 m.way.port, .int .i64 m.way.tag, .int .i64 m.way.step]
structure WayM (w0 : World) (H : List (Nat × Obj)) (m : Wm) : Prop where
  links : IntArr w0 H m.q m.way.links
  len : m.way.links.length ≤ 9223372036854775807
  pb : -9223372036854775808 ≤ m.way.port ∧ m.way.port ≤ 9223372036854775807
theorem WayM.mono {w0 : World} {H H' : List (Nat × Obj)} {m : Wm} (h : WayM w0 H m) (hs : H.Sublist H' := by exact sbt) : WayM w0 H' m := ⟨h.links.mono hs, h.len, h.pb⟩
structure WaysM (w0 : World) (H : List (Nat × Obj)) (q : Option Addr) (l : List Wm) : Prop where
  arr : Arr w0 H q 5 encW l
  each : ∀ m ∈ l, WayM w0 H m
  len : l.length ≤ 9223372036854775807
theorem WaysM.mono {w0 : World} {H H' : List (Nat × Obj)} {q : Option Addr} {l : List Wm} (h : WaysM w0 H q l) (hs : H.Sublist H' := by exact sbt) : WaysM w0 H' q l := ⟨h.arr.mono hs, fun m hm => (h.each m hm).mono hs, h.len⟩
theorem WaysM.at {w0 : World} {H : List (Nat × Obj)} {q : Option Addr} {l : List Wm} (h : WaysM w0 H q l) {i : Nat} (hi : i < l.length) : WayM w0 H (gd l i) := h.each _ (gd_mem hi)
abbrev encH (h : Hop) : List Value := [.int .i64 h.link, .int .i64 h.port, .int .i64 h.tag, .int .i64 h.step]
theorem IntArr.m {w0 : World} {H H' : List (Nat × Obj)} {q : Option Addr} {l : List Int} (h : IntArr w0 H q l) (hs : H.Sublist H' := by exact sbt) : IntArr w0 H' q l := h.mono hs
/-- a number in a range -/
def inR (n lo hi : Int) : Bool := decide (lo ≤ n) && decide (n ≤ hi)
theorem inR_t {n lo hi : Int} (h : lo ≤ n ∧ n ≤ hi) : inR n lo hi = true := by unfold inR; simp [h]
theorem inR_f {n lo hi : Int} (h : ¬ (lo ≤ n ∧ n ≤ hi)) : inR n lo hi = false := by unfold inR; simp only [Bool.and_eq_false_iff, decide_eq_false_iff_not]; omega
theorem inR_iff {n lo hi : Int} : inR n lo hi = true ↔ lo ≤ n ∧ n ≤ hi := by unfold inR; simp
theorem inR_niff {n lo hi : Int} : inR n lo hi = false ↔ ¬ (lo ≤ n ∧ n ≤ hi) := by unfold inR; simp only [Bool.and_eq_false_iff, decide_eq_false_iff_not]; omega
theorem walkF_no {ls : List Lnk} {at' l : Int} {path : List Int} (h : ¬ (0 ≤ l ∧ l < ls.length ∧ (gd ls l.toNat).src = at')) : walkF ls at' (l :: path) = (-1, false) := by
  unfold walkF; unfold gd at h; rw [if_neg h]
theorem walkF_go {ls : List Lnk} {at' l : Int} {path : List Int} (h : 0 ≤ l ∧ l < ls.length ∧ (gd ls l.toNat).src = at') : walkF ls at' (l :: path) = walkF ls (gd ls l.toNat).dst path := by
  unfold gd at *; rw [walkF, if_pos h]; rfl
structure LnkOk (n : Nm) (x : Lnk) : Prop where
  s0 : 0 ≤ x.src
  s1 : x.src < n.nodes.length
  d0 : 0 ≤ x.dst
  d1 : x.dst < n.nodes.length
  ne : ¬ x.src = x.dst
  c0 : 0 ≤ x.cap
  c1 : x.cap ≤ 1048576
/-- what the check of a network says -/
structure NetOk (n : Nm) : Prop where
  links : ∀ i, i < n.links.length → LnkOk n (gd n.links i)
  edges : ∀ i, i < n.edges.length → 0 ≤ (gd n.edges i).node ∧ (gd n.edges i).node < n.nodes.length
end Go.Proofs.Ytdbffighngmibaa
