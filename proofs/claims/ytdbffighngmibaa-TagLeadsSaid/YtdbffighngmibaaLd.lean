/-
  What each kind of operation yields, or does. Over any program.
-/
import Derived.Test.YtdbffighngmibaaLc
import Derived.IntWalk
namespace Go.Proofs.Ytdbffighngmibaa
open Go.RowKit
set_option linter.unusedVariables false
set_option linter.unusedSimpArgs false
/-- a cell that reads v, as long as H is owned -/
def Cell (w0 : World) (H : List (Nat × Obj)) (p : Addr) (v : Value) : Prop := ∀ w, Own w0 H w → w.cell? p = some v
theorem Cell.mono {w0 : World} {H H' : List (Nat × Obj)} {p : Addr} {v : Value} (h : Cell w0 H p v) (hs : H.Sublist H') : Cell w0 H' p v := fun w hO => h w (hO.sub hs)
theorem cell_own {w0 : World} {H : List (Nat × Obj)} {n i : Nat} {l : List Value} {t : TypeId} {v : Value} (hf : Fnd H n (Cl l t)) (hi : Nth l i v) : Cell w0 H ⟨n, i, none⟩ v := fun w hO => hO.cell hf hi.get
theorem cell_get {w0 : World} {H : List (Nat × Obj)} {n i : Nat} {l : List Value} {t : TypeId} {v : Value} (hf : Fnd H n (Cl l t)) (hi : l[i]? = some v) : Cell w0 H ⟨n, i, none⟩ v := fun w hO => hO.cell hf hi
/-- cells in a row, from an offset on -/
def Cells (w0 : World) (H : List (Nat × Obj)) (b off : Nat) (vs : List Value) : Prop := ∀ i v, vs[i]? = some v → Cell w0 H ⟨b, off + i, none⟩ v
theorem Cells.mono {w0 : World} {H H' : List (Nat × Obj)} {b off : Nat} {vs : List Value} (h : Cells w0 H b off vs) (hs : H.Sublist H') : Cells w0 H' b off vs := fun i v hi => (h i v hi).mono hs
theorem cells_own {w0 : World} {H : List (Nat × Obj)} {n : Nat} {l : List Value} {t : TypeId} (hf : Fnd H n (Cl l t)) : Cells w0 H n 0 l := fun i v hi => by rw [Nat.zero_add]; exact cell_get hf hi
theorem cells_nil {w0 : World} {H : List (Nat × Obj)} {b off : Nat} : Cells w0 H b off [] := fun i v h => by simp at h
theorem cells_cons {w0 : World} {H : List (Nat × Obj)} {b off : Nat} {v : Value} {vs : List Value} (h : Cell w0 H ⟨b, off, none⟩ v) (t : Cells w0 H b (off + 1) vs) : Cells w0 H b off (v :: vs) := fun i u hi => by
  cases i with
  | zero => simp at hi; subst hi; exact h
  | succ i => rw [show off + (i + 1) = off + 1 + i by omega]; exact t i u (by simpa using hi)
theorem c_o {w0 : World} {H : List (Nat × Obj)} {n i : Nat} {l : List Value} {t : TypeId} {v : Value} (hf : Fnd H n (Cl l t) := by (repeat (first | exact fnd_h | refine fnd_t ?_ | refine fnd_a ?_)); done) (hi : nth? l i = some v := by rfl) : Cell w0 H ⟨n, i, none⟩ v := cell_get hf (nth_eq hi)
theorem cs_o {w0 : World} {H : List (Nat × Obj)} {n : Nat} {l : List Value} {t : TypeId} (hf : Fnd H n (Cl l t) := by (repeat (first | exact fnd_h | refine fnd_t ?_ | refine fnd_a ?_)); done) : Cells w0 H n 0 l := cells_own hf
theorem c_m {w0 : World} {H H' : List (Nat × Obj)} {p : Addr} {v : Value} (h : Cell w0 H p v) (hs : H.Sublist H' := by exact sbt) : Cell w0 H' p v := h.mono hs
theorem cs_m {w0 : World} {H H' : List (Nat × Obj)} {b off : Nat} {vs : List Value} (h : Cells w0 H b off vs) (hs : H.Sublist H' := by exact sbt) : Cells w0 H' b off vs := h.mono hs
/-- a value of one cell -/
def oneB : Value → Bool
  | .agg _ => false
  | .tuple _ => false
  | _ => true
inductive Cs : Value → List Value → Prop
  | agg {l} : Cs (.agg l.toArray) l
  | one {v} : oneB v = true → Cs v [v]
theorem cs_ {v : Value} {l : List Value} (h : Cs v l := by first | exact .agg | exact .one rfl) : Cs v l := h
theorem Cs.cells {v : Value} {l : List Value} (h : Cs v l) : v.cells = l.toArray := by
  cases h with
  | agg => rfl
  | one h => cases v <;> first | rfl | cases h
section
variable {P : Program} {w0 : World} {L : Fm} {H : List (Nat × Obj)} {ty : TypeId}
theorem yl_of {op : Op} {v : Value} (hd : Op.isDefer op = false) (h : ∀ H', H.Sublist H' → ∀ b w, Own w0 H' w → (exO (ev (lk L b)) op ty).run P w = .ok (.value v) w) : Yl P w0 op ty L H v :=
  ⟨hd, fun H' hs b w hO => by rw [h H' hs b w hO]; exact ⟨H', hO, rfl, rfl⟩⟩
theorem yl_pure {op : Op} {v : Value} (hd : Op.isDefer op = false) (h : ∀ b w, (exO (ev (lk L b)) op ty).run P w = .ok (.value v) w) : Yl P w0 op ty L H v := yl_of hd fun _ _ b w _ => h b w
theorem yl_move {x : Operand} {v : Value} (h : Ev L x v) : Yl P w0 (.move x) ty L H v := yl_pure rfl fun b w => by simp [exO, execOp, h b]
theorem yl_assign {x : Operand} {v : Value} (h : Ev L x v) : Yl P w0 (.assign x) ty L H v := yl_pure rfl fun b w => by simp [exO, execOp, h b]
theorem yl_pick_t {c x y : Operand} {v : Value} (hc : Ev L c (.bool true)) (h : Ev L x v) : Yl P w0 (.pick c x y) ty L H v := yl_pure rfl fun b w => by simp [exO, execOp, h b, hc b, asBool, Sem.run_bind, Result.andThen]
theorem yl_pick_f {c x y : Operand} {v : Value} (hc : Ev L c (.bool false)) (h : Ev L y v) : Yl P w0 (.pick c x y) ty L H v := yl_pure rfl fun b w => by simp [exO, execOp, h b, hc b, asBool, Sem.run_bind, Result.andThen]
theorem yl_not {x : Operand} {t : Bool} (h : Ev L x (.bool t)) {xt : TypeId} : Yl P w0 (.unOp .not xt x) ty L H (.bool !t) := yl_pure rfl fun b w => by simp [exO, execOp, h b, Op.unary, Sem.run_bind, Result.andThen]
theorem yl_not_d {x : Operand} {p : Prop} [Decidable p] (h : Ev L x (.bool (decide p))) {xt : TypeId} : Yl P w0 (.unOp .not xt x) ty L H (.bool (decide ¬ p)) := yl_pure rfl fun b w => by simp [exO, execOp, h b, Op.unary, Sem.run_bind, Result.andThen]
section ints
variable {x y : Operand} {a c : Int} {xt yt : TypeId} {k : IntKind}
theorem yl_add (hx : Ev L x (.int .i64 a)) (hy : Ev L y (.int .i64 c)) (h : -9223372036854775808 ≤ a + c ∧ a + c ≤ 9223372036854775807) : Yl P w0 (.binOp .add xt x y yt) ty L H (.int .i64 (a + c)) := yl_pure rfl fun b w => by
  simp [exO, execOp, hx b, hy b, binOp, eqGuard, Op.intArith, IntWalk.i64_in _ h, Sem.run_bind, Result.andThen]
theorem yl_sub (hx : Ev L x (.int .i64 a)) (hy : Ev L y (.int .i64 c)) (h : -9223372036854775808 ≤ a - c ∧ a - c ≤ 9223372036854775807) : Yl P w0 (.binOp .sub xt x y yt) ty L H (.int .i64 (a - c)) := yl_pure rfl fun b w => by
  simp [exO, execOp, hx b, hy b, binOp, eqGuard, Op.intArith, IntWalk.i64_in _ h, Sem.run_bind, Result.andThen]
theorem yl_mul (hx : Ev L x (.int .i64 a)) (hy : Ev L y (.int .i64 c)) (h : -9223372036854775808 ≤ a * c ∧ a * c ≤ 9223372036854775807) : Yl P w0 (.binOp .mul xt x y yt) ty L H (.int .i64 (a * c)) := yl_pure rfl fun b w => by
  simp [exO, execOp, hx b, hy b, binOp, eqGuard, Op.intArith, IntWalk.i64_in _ h, Sem.run_bind, Result.andThen]
theorem yl_lss (hx : Ev L x (.int k a)) (hy : Ev L y (.int k c)) : Yl P w0 (.binOp .lss xt x y yt) ty L H (.bool (decide (a < c))) := yl_pure rfl fun b w => by
  simp [exO, execOp, hx b, hy b, binOp, eqGuard, Op.intCmp, Sem.run_bind, Result.andThen]
theorem yl_leq (hx : Ev L x (.int k a)) (hy : Ev L y (.int k c)) : Yl P w0 (.binOp .leq xt x y yt) ty L H (.bool (decide (a ≤ c))) := yl_pure rfl fun b w => by
  simp [exO, execOp, hx b, hy b, binOp, eqGuard, Op.intCmp, Sem.run_bind, Result.andThen]
theorem yl_gtr (hx : Ev L x (.int k a)) (hy : Ev L y (.int k c)) : Yl P w0 (.binOp .gtr xt x y yt) ty L H (.bool (decide (c < a))) := yl_pure rfl fun b w => by
  simp [exO, execOp, hx b, hy b, binOp, eqGuard, Op.intCmp, Sem.run_bind, Result.andThen]
theorem yl_geq (hx : Ev L x (.int k a)) (hy : Ev L y (.int k c)) : Yl P w0 (.binOp .geq xt x y yt) ty L H (.bool (decide (c ≤ a))) := yl_pure rfl fun b w => by
  simp [exO, execOp, hx b, hy b, binOp, eqGuard, Op.intCmp, Sem.run_bind, Result.andThen]
theorem yl_eql (hx : Ev L x (.int k a)) (hy : Ev L y (.int k c)) : Yl P w0 (.binOp .eql xt x y yt) ty L H (.bool (decide (a = c))) := yl_pure rfl fun b w => by
  have e : (a == c) = decide (a = c) := rfl
  simp [exO, execOp, hx b, hy b, binOp, eqGuard, Op.intCmp, Sem.run_bind, Result.andThen, e]
theorem yl_neq (hx : Ev L x (.int k a)) (hy : Ev L y (.int k c)) : Yl P w0 (.binOp .neq xt x y yt) ty L H (.bool (decide (¬ a = c))) := yl_pure rfl fun b w => by
  have e : (a != c) = decide (¬ a = c) := by by_cases h : a = c <;> simp [h]
  simp [exO, execOp, hx b, hy b, binOp, eqGuard, Op.intCmp, Sem.run_bind, Result.andThen, e]
theorem yl_quo (hx : Ev L x (.int .i64 a)) (hy : Ev L y (.int .i64 c)) (h : 0 ≤ a ∧ a ≤ 9223372036854775807 ∧ 1 ≤ c) : Yl P w0 (.binOp .quo xt x y yt) ty L H (.int .i64 (a / c)) := yl_pure rfl fun b w => by
  have hc : c ≠ 0 := by omega
  simp [exO, execOp, hx b, hy b, binOp, eqGuard, Op.intDiv, hc, IntWalk.i64_quo _ _ h, Sem.run_bind, Result.andThen]
theorem yl_rem (hx : Ev L x (.int k a)) (hy : Ev L y (.int k c)) (h : 0 ≤ a ∧ 1 ≤ c) : Yl P w0 (.binOp .rem xt x y yt) ty L H (.int k (a % c)) := yl_pure rfl fun b w => by
  have hc : c ≠ 0 := by omega
  have e : a.tmod c = a % c := Int.tmod_eq_emod_of_nonneg h.1
  simp [exO, execOp, hx b, hy b, binOp, eqGuard, Op.intDiv, hc, e, Sem.run_bind, Result.andThen]
end ints
section more
variable {x y : Operand} {xt t : TypeId}
theorem yl_len {e : TypeId} {q : Option Addr} {n c : Nat} (hx : Ev L x (.slice q n c)) (ht : ∀ w, (underlying t).run P w = .ok (.slice e) w) : Yl P w0 (.call { callee := .builtin .len, args := #[x], argTypes := #[t] }) ty L H (.int .i64 n) := yl_pure rfl fun b w => by
  simp [exO, execOp, resolve, invoke, builtin, Builtin.len_, hx b, ht, goInt, Sem.run_bind, Result.andThen]
theorem yl_len_s {s : ByteArray} (hx : Ev L x (.string s)) (ht : ∀ w, (underlying t).run P w = .ok .string w) : Yl P w0 (.call { callee := .builtin .len, args := #[x], argTypes := #[t] }) ty L H (.int .i64 s.size) := yl_pure rfl fun b w => by
  simp [exO, execOp, resolve, invoke, builtin, Builtin.len_, hx b, ht, goInt, Sem.run_bind, Result.andThen]
theorem yl_max {a c : Int} (hx : Ev L x (.int .i64 a)) (hy : Ev L y (.int .i64 c)) {ts : Array TypeId} : Yl P w0 (.call { callee := .builtin .max, args := #[x, y], argTypes := ts }) ty L H (.int .i64 (max a c)) := yl_pure rfl fun b w => by
  have e : (if c > a then c else a) = max a c := by rw [Int.max_def]; split <;> split <;> omega
  simp [exO, execOp, resolve, invoke, builtin, Builtin.max_, Builtin.max2, hx b, hy b, e, Sem.run_bind, Result.andThen]
theorem yl_min {a c : Int} (hx : Ev L x (.int .i64 a)) (hy : Ev L y (.int .i64 c)) {ts : Array TypeId} : Yl P w0 (.call { callee := .builtin .min, args := #[x, y], argTypes := ts }) ty L H (.int .i64 (min a c)) := yl_pure rfl fun b w => by
  have e : (if c < a then c else a) = min a c := by rw [Int.min_def]; split <;> split <;> omega
  simp [exO, execOp, resolve, invoke, builtin, Builtin.min_, Builtin.min2, hx b, hy b, e, Sem.run_bind, Result.andThen]
theorem yl_extract {l : List Value} {i : Nat} {v : Value} (hx : Ev L x (.tuple l.toArray)) (hi : nth? l i = some v) : Yl P w0 (.extract x i) ty L H v := yl_pure rfl fun b w => by
  simp [exO, execOp, Instr.extract, hx b, nth_eq hi, Sem.run_bind, Result.andThen]
/-- a byte of a string -/
theorem yl_sidx {s : ByteArray} {k : Nat} (hx : Ev L x (.string s)) (hy : Ev L y (.int .i64 (k : Int))) (ht : ∀ w, (underlying t).run P w = .ok .string w) (h : k < s.size) : Yl P w0 (.index t x y) ty L H (.int .u8 (s[k].toNat : Int)) := yl_pure rfl fun b w => by
  have h0 : (0 : Int) ≤ k := by omega
  simp [exO, execOp, hx b, hy b, Instr.index, asIntOf, ht, h0, h, Sem.run_bind, Result.andThen]
theorem yl_eqS {s u : ByteArray} (hx : Ev L x (.string s)) (hy : Ev L y (.string u)) {yt : TypeId} : Yl P w0 (.binOp .eql t x y yt) ty L H (.bool (s.toList == u.toList)) := yl_pure rfl fun b w => by
  simp [exO, execOp, hx b, hy b, binOp, eqGuard, Op.stringOp, Sem.run_bind, Result.andThen]
/-- structs compared -/
theorem yl_eqA {xs ys : Array Value} {q : Prop} [Decidable q] (hx : Ev L x (.agg xs)) (hy : Ev L y (.agg ys)) (hg : P.eqGuardType P.depth t = false) (he : ∀ w, (Op.equal t (.agg xs) (.agg ys)).run P w = .ok (decide q) w) {yt : TypeId} : Yl P w0 (.binOp .eql t x y yt) ty L H (.bool (decide q)) := yl_pure rfl fun b w => by
  have hr : ∀ w, Sem.run P program w = .ok P w := fun w => rfl
  simp [exO, execOp, hx b, hy b, binOp, eqGuard, hg, he, hr, Sem.run_bind, Result.andThen]
theorem yl_neqA {xs ys : Array Value} {q : Prop} [Decidable q] (hx : Ev L x (.agg xs)) (hy : Ev L y (.agg ys)) (hg : P.eqGuardType P.depth t = false) (he : ∀ w, (Op.equal t (.agg xs) (.agg ys)).run P w = .ok (decide q) w) {yt : TypeId} : Yl P w0 (.binOp .neq t x y yt) ty L H (.bool (decide ¬ q)) := yl_pure rfl fun b w => by
  have hr : ∀ w, Sem.run P program w = .ok P w := fun w => rfl
  simp [exO, execOp, hx b, hy b, binOp, eqGuard, hg, he, hr, Sem.run_bind, Result.andThen]
/-- a field's address -/
theorem yl_fa {f b o o' : Nat} (hx : Ev L x (.pointer (some ⟨b, o, none⟩))) (hf : ∀ b o w, (Instr.fieldAt t (.pointer (some ⟨b, o, none⟩)) f).run P w = .ok (.pointer (some ⟨b, o + o', none⟩)) w) : Yl P w0 (.fieldAddr t x f) ty L H (.pointer (some ⟨b, o + o', none⟩)) := yl_pure rfl fun b w => by
  simp [exO, execOp, hx b, hf, Sem.run_bind, Result.andThen]
theorem yl_fa0 {f b o : Nat} (hx : Ev L x (.pointer (some ⟨b, o, none⟩))) (hf : ∀ b o w, (Instr.fieldAt t (.pointer (some ⟨b, o, none⟩)) f).run P w = .ok (.pointer (some ⟨b, o, none⟩)) w) : Yl P w0 (.fieldAddr t x f) ty L H (.pointer (some ⟨b, o, none⟩)) := yl_pure rfl fun b w => by
  simp [exO, execOp, hx b, hf, Sem.run_bind, Result.andThen]
theorem add_at (b o n : Nat) : (⟨b, o, none⟩ : Addr).add n = ⟨b, o + n, none⟩ := by unfold Addr.add; split <;> simp_all
/-- an element's address: at a number, at an integer -/
theorem yl_ixN {e : TypeId} {b o n c sz k : Nat} (hx : Ev L x (.slice (some ⟨b, o, none⟩) n c)) (hy : Ev L y (.int .i64 (k : Int))) (ht : ∀ w, (underlying t).run P w = .ok (.slice e) w) (hz : ∀ w, (sizeOf e).run P w = .ok sz w) (h : k < n) : Yl P w0 (.indexAddr t x y) ty L H (.pointer (some ⟨b, o + k * sz, none⟩)) := yl_pure rfl fun b w => by
  have h0 : (0 : Int) ≤ k ∧ (k : Int) < n := by omega
  simp [exO, execOp, hx b, hy b, Instr.indexAt, asIntOf, ht, hz, h, add_at, Sem.run_bind, Result.andThen]
theorem yl_ixI {e : TypeId} {b o n c sz : Nat} {i : Int} (hx : Ev L x (.slice (some ⟨b, o, none⟩) n c)) (hy : Ev L y (.int .i64 i)) (ht : ∀ w, (underlying t).run P w = .ok (.slice e) w) (hz : ∀ w, (sizeOf e).run P w = .ok sz w) (h : 0 ≤ i ∧ i < n) : Yl P w0 (.indexAddr t x y) ty L H (.pointer (some ⟨b, o + i.toNat * sz, none⟩)) := yl_pure rfl fun b w => by
  simp [exO, execOp, hx b, hy b, Instr.indexAt, asIntOf, ht, hz, h, add_at, Sem.run_bind, Result.andThen]
def bq : Option Addr → Nat
  | some a => a.block
  | none => 0
def oq : Option Addr → Nat
  | some a => a.off
  | none => 0
/-- the base of a slice that has elements -/
def Bas (q : Option Addr) : Prop := q = some ⟨bq q, oq q, none⟩
theorem yl_ixQ {e : TypeId} {q : Option Addr} {n c sz k : Nat} (hx : Ev L x (.slice q n c)) (hy : Ev L y (.int .i64 (k : Int))) (ht : ∀ w, (underlying t).run P w = .ok (.slice e) w) (hz : ∀ w, (sizeOf e).run P w = .ok sz w) (h : k < n) (hq : Bas q) : Yl P w0 (.indexAddr t x y) ty L H (.pointer (some ⟨bq q, oq q + k * sz, none⟩)) :=
  yl_ixN (by rw [← hq]; exact hx) hy ht hz h
theorem yl_ixR {e : TypeId} {q : Option Addr} {n c sz : Nat} {i : Int} (hx : Ev L x (.slice q n c)) (hy : Ev L y (.int .i64 i)) (ht : ∀ w, (underlying t).run P w = .ok (.slice e) w) (hz : ∀ w, (sizeOf e).run P w = .ok sz w) (h : 0 ≤ i ∧ i < n) (hq : Bas q) : Yl P w0 (.indexAddr t x y) ty L H (.pointer (some ⟨bq q, oq q + i.toNat * sz, none⟩)) :=
  yl_ixI (by rw [← hq]; exact hx) hy ht hz h
/-- a variable of one cell -/
theorem yl_load {p : Addr} {v : Value} (hx : Ev L x (.pointer (some p))) (ht : ∀ w, (isAgg t).run P w = .ok false w) (hc : Cell w0 H p v) : Yl P w0 (.load t x) ty L H v := yl_of rfl fun H' hs b w hO => by
  have := hc.mono hs w hO
  simp [exO, execOp, hx b, Instr.loadAt, Instr.sureAddr, loadVar, ht, load, Sem.run, this, Sem.run_bind, Result.andThen]
theorem run_loadCells {b o : Nat} {w : World} : ∀ (vs : List Value) (i : Nat) (acc : Array Value), (∀ j v, vs[j]? = some v → w.cell? ⟨b, o + (i + j), none⟩ = some v) → (loadCellsFrom ⟨b, o, none⟩ i vs.length acc).run P w = .ok (acc ++ vs.toArray) w
  | [], i, acc, _ => by simp [loadCellsFrom]
  | v :: vs, i, acc, h => by
    have h0 := h 0 v rfl
    rw [Nat.add_zero] at h0
    have ih := run_loadCells vs (i + 1) (acc.push v) (fun j u hj => by rw [show i + 1 + j = i + (j + 1) by omega]; exact h (j + 1) u (by simpa using hj))
    simp [loadCellsFrom, load, Sem.run_bind, Sem.run, Result.andThen, add_at, h0, ih]
/-- a variable of more cells (a struct) -/
theorem yl_loadA {b o n : Nat} {vs : List Value} (hx : Ev L x (.pointer (some ⟨b, o, none⟩))) (ht : ∀ w, (isAgg t).run P w = .ok true w) (hz : ∀ w, (sizeOf t).run P w = .ok n w) (hn : vs.length = n) (hc : Cells w0 H b o vs) : Yl P w0 (.load t x) ty L H (.agg vs.toArray) := yl_of rfl fun H' hs b' w hO => by
  have := run_loadCells (P := P) (b := b) (o := o) (w := w) vs 0 #[] (fun j v hj => by rw [Nat.zero_add]; exact (hc j v hj).mono hs w hO)
  rw [hn] at this
  simp [exO, execOp, hx b', Instr.loadAt, Instr.sureAddr, loadVar, ht, hz, loadCells, this, Sem.run_bind, Result.andThen]
end more
end
end Go.Proofs.Ytdbffighngmibaa
