/-
  Rules, tables, and how they lie in memory.
-/
import Derived.Test.YtdbffighngmibaaVb
import Derived.Test.YtdbffighngmibaaLq
namespace Go.Proofs.Ytdbffighngmibaa
open Go.RowKit
set_option linter.unusedVariables false
set_option linter.unusedSimpArgs false
structure Rul where
  prio : Int
  tag : Int
  hop : Hop
instance : DecidableEq Rul := fun a b => decidable_of_iff (a.prio = b.prio ∧ a.tag = b.tag ∧ a.hop = b.hop) ⟨fun h => by cases a; cases b; simp_all, fun h => by subst h; exact ⟨rfl, rfl, rfl⟩⟩
instance : Inhabited Rul := ⟨⟨0, 0, default⟩⟩
abbrev z0 : Value := .int .i64 0
abbrev mx : Value := .int .i64 65535
abbrev encRule (prio tag step : Int) (outs : Value) : List Value := [.int .i64 prio, z0, z0, z0, z0, z0, z0, z0, z0, z0, mx, z0, z0, z0, z0, z0, z0, z0, z0, z0, .int .i64 tag, .int .i64 step, outs]
abbrev encAltN (link port : Int) : List Value := [.int .i64 link, mx, z0, z0, z0, z0, z0, z0, z0, z0, z0, .int .i64 port, z0, z0, z0, z0, z0, z0, z0, z0, z0]
abbrev encAltE (link port tag : Int) : List Value := [.int .i64 link, mx, z0, z0, z0, z0, z0, z0, z0, z0, mx, .int .i64 port, z0, z0, z0, z0, z0, z0, z0, z0, .int .i64 tag]
def encAlt (h : Hop) : List Value := if h.link < 0 then encAltE h.link h.port h.tag else encAltN h.link h.port
structure Rm where
  r : Rul
  o : Nat
  a : Nat
instance : Inhabited Rm := ⟨⟨default, 0, 0⟩⟩
abbrev outV (a : Nat) : Value := .slice (some ⟨a, 0, none⟩) 1 1
abbrev encRm (m : Rm) : List Value := encRule m.r.prio m.r.tag m.r.hop.step (outV m.o)
abbrev rmH (m : Rm) : List (Nat × Obj) := [(m.o, Cl [outV m.a] 64), (m.a, Cl (encAlt m.r.hop) 67)]
structure Tb where
  d : Sl
  rs : List Rm
instance : Inhabited Tb := ⟨⟨.nil, []⟩⟩
abbrev tbV (t : Tb) : Value := slV t.d t.rs.length
def tbH (t : Tb) : List (Nat × Obj) := slH t.d (t.rs.flatMap encRm) 56 ++ t.rs.flatMap rmH
def tsH (ts : List Tb) : List (Nat × Obj) := ts.flatMap tbH
def restT (ts : List Tb) (j : Nat) : List Tb := ts.take j ++ ts.drop (j + 1)
theorem ts_split {ts : List Tb} {j : Nat} (h : j < ts.length) : (tsH ts).Perm (tbH (gd ts j) ++ tsH (restT ts j)) := by
  unfold tsH restT
  have e : ts = ts.take j ++ gd ts j :: ts.drop (j + 1) := by rw [← drop_gd h, List.take_append_drop]
  have e2 : ts.flatMap tbH = (ts.take j).flatMap tbH ++ (tbH (gd ts j) ++ (ts.drop (j + 1)).flatMap tbH) := by
    conv => lhs; rw [e]
    rw [List.flatMap_append, List.flatMap_cons]
  rw [e2, List.flatMap_append, ← List.append_assoc, ← List.append_assoc]
  exact (List.perm_append_comm).append_right _
theorem rest_set {ts : List Tb} {j : Nat} (t : Tb) (h : j < ts.length) : restT (ts.set j t) j = restT ts j := by
  unfold restT
  rw [List.take_set_of_le (Nat.le_refl _), List.drop_set_of_lt (by omega)]
theorem gd_set {ts : List Tb} {j : Nat} (t : Tb) (h : j < ts.length) : gd (ts.set j t) j = t := by
  rw [gd_getElem (by simpa using h)]; simp
theorem ts_join {ts : List Tb} {j : Nat} (t : Tb) (h : j < ts.length) : (tbH t ++ tsH (restT ts j)).Perm (tsH (ts.set j t)) := by
  have := ts_split (ts := ts.set j t) (j := j) (by simpa using h)
  rw [rest_set t h, gd_set t h] at this
  exact this.symm
theorem tb_add (d : Sl) (rs : List Rm) (m : Rm) : (rmH m ++ (slH d ((rs ++ [m]).flatMap encRm) 56 ++ rs.flatMap rmH)).Perm (tbH ⟨d, rs ++ [m]⟩) := by
  unfold tbH
  simp only []
  rw [List.flatMap_append (f := rmH), List.flatMap_cons, List.flatMap_nil, List.append_nil, ← List.append_assoc (slH d _ _)]
  exact List.perm_append_comm
end Go.Proofs.Ytdbffighngmibaa
