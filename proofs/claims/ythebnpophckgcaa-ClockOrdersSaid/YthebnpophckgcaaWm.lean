/-
  How the arguments of the laws read; a law's step from its walk to its row.
-/
import Derived.Test.YthebnpophckgcaaRows
import Derived.Test.YthebnpophckgcaaPlain
import Derived.WalkKit
import Derived.ProofKit
import Derived.OpenShut
import Derived.Lib.SmallJoins
namespace Go.Proofs.Ythebnpophckgcaa
open Go.ChangeShapes Go.WideShapes Go.ChangeAt Go.RowKit Go.Joins
set_option linter.unusedSimpArgs false
set_option linter.unusedVariables false
set_option maxRecDepth 100000

theorem Try.own : ownKnob Try.prog.godebug = none := by kernel_rfl
theorem Try.laidOut : laidOutB Try.prog = true := by kernel_rfl
theorem Try.cells23 : Try.prog.cellsOf 23 = 2 := by kernel_rfl
theorem Try.cells25 : Try.prog.cellsOf 25 = 4 := by kernel_rfl
theorem Try.cells3' : Try.prog.cellsOf 3 = 1 := by kernel_rfl

section
variable {H : Type} {enc : TypeId × Value → H} {W : World}
theorem array4' {α : Type} {a : Array α} (h : a.size = 4) : ∃ x y z u, a = #[x, y, z, u] := by
  obtain ⟨l⟩ := a
  match l, h with
  | [x, y, z, u], _ => exact ⟨x, y, z, u, rfl⟩
theorem i64_bd {n : Int} (h : (Lit.int .i64 n).wf = true) : -9223372036854775808 ≤ n ∧ n ≤ 9223372036854775807 := by
  have := bounds_i64 h; exact this
theorem cells_span {b0 n : Nat} {sp1 : Nat → Bool} {held : Bool} {c0 c1 : Value} {y : DataW H × List MemPlace} (h : DataW.trod enc Try.prog W b0 sp1 held n 23 [c0, c1] = some y) :
    ∃ a b : Int, c0 = .int .i64 a ∧ c1 = .int .i64 b ∧ (-9223372036854775808 ≤ a ∧ a ≤ 9223372036854775807) ∧ (-9223372036854775808 ≤ b ∧ b ≤ 9223372036854775807) := by
  obtain ⟨xs, m, rfl, hx, hlen, hxl, hall⟩ := DataW.trod_struct Try.underlying23 h
  match xs, hxl with
  | [x0, x1], _ =>
    have f0 : DataW.trod enc Try.prog W b0 sp1 held m 3 [c0] = some x0 := by have := hall 0 _ rfl; simpa [Try.cells3'] using this
    have f1 : DataW.trod enc Try.prog W b0 sp1 held m 3 [c1] = some x1 := by have := hall 1 _ rfl; simpa [Try.cells3'] using this
    obtain ⟨a, e0, _, wa⟩ := DataW.trod_int Try.underlying3 f0
    obtain ⟨b, e1, _, wb⟩ := DataW.trod_int Try.underlying3 f1
    simp at e0 e1
    exact ⟨a, b, e0, e1, i64_bd wa, i64_bd wb⟩
theorem open_span {base b0 : Nat} {sp1 : Nat → Bool} {held : Bool} {r : Reach} {v : Value} {d : DataW H} {p : List MemPlace} (hv : Value.okWide Try.prog W r base 23 v) (h : DataW.Trod enc Try.prog W b0 sp1 held 23 v d p) :
    ∃ a b : Int, v = .agg #[.int .i64 a, .int .i64 b] ∧ (-9223372036854775808 ≤ a ∧ a ≤ 9223372036854775807) ∧ (-9223372036854775808 ≤ b ∧ b ≤ 9223372036854775807) := by
  obtain ⟨cs, rfl, hsz⟩ := okWide_struct Try.underlying23 hv
  obtain ⟨c0, c1, rfl⟩ := array2 (hsz.trans Try.cells23)
  obtain ⟨fuel, hf⟩ := h
  obtain ⟨a, b, rfl, rfl, h1, h2⟩ := cells_span hf
  exact ⟨a, b, rfl, h1, h2⟩
theorem open_clock {base b0 : Nat} {sp1 : Nat → Bool} {held : Bool} {r : Reach} {v : Value} {d : DataW H} {p : List MemPlace} (hv : Value.okWide Try.prog W r base 25 v) (h : DataW.Trod enc Try.prog W b0 sp1 held 25 v d p) :
    ∃ r l a b : Int, v = .agg #[.int .i64 r, .int .i64 l, .int .i64 a, .int .i64 b] ∧ (-9223372036854775808 ≤ r ∧ r ≤ 9223372036854775807) ∧ (-9223372036854775808 ≤ l ∧ l ≤ 9223372036854775807) ∧ (-9223372036854775808 ≤ a ∧ a ≤ 9223372036854775807) ∧ (-9223372036854775808 ≤ b ∧ b ≤ 9223372036854775807) := by
  obtain ⟨cs, rfl, hsz⟩ := okWide_struct Try.underlying25 hv
  obtain ⟨c0, c1, c2, c3, rfl⟩ := array4' (hsz.trans Try.cells25)
  obtain ⟨fuel, hf⟩ := h
  obtain ⟨xs, m, rfl, hx, hlen, hxl, hall⟩ := DataW.trod_struct Try.underlying25 hf
  match xs, hxl with
  | [x0, x1, x2], _ =>
    have f0 : DataW.trod enc Try.prog W b0 sp1 held m 3 [c0] = some x0 := by have := hall 0 _ rfl; simpa [Try.cells3', Value.cells] using this
    have f1 : DataW.trod enc Try.prog W b0 sp1 held m 3 [c1] = some x1 := by have := hall 1 _ rfl; simpa [Try.cells3', Value.cells] using this
    have f2 : DataW.trod enc Try.prog W b0 sp1 held m 23 [c2, c3] = some x2 := by have := hall 2 _ rfl; simpa [Try.cells23, Value.cells] using this
    obtain ⟨r, e0, _, wr⟩ := DataW.trod_int Try.underlying3 f0
    obtain ⟨l, e1, _, wl⟩ := DataW.trod_int Try.underlying3 f1
    obtain ⟨a, b, e2, e3, wa, wb⟩ := cells_span f2
    simp at e0 e1
    subst e0 e1 e2 e3
    exact ⟨r, l, a, b, rfl, i64_bd wr, i64_bd wl, wa, wb⟩
/-- the arguments read behind the call as they did before -/
theorem trodAll_stays : ∀ {ts : List TypeId} {vs : List Value} {ds : List (DataW H)} {ps : List MemPlace} {W' : World}, (∀ t ∈ ts, Try.prog.readableRec t = true ∧ t < Try.prog.types.size) → DataW.TrodAll enc Try.prog W 0 (fun _ => true) true ts vs ds ps → Below W.heap.size W W' → (∀ x ∈ ps, x.block < W.heap.size) →
    DataW.TrodAll enc Try.prog W' 0 (fun b => decide (b < W.heap.size)) true ts vs ds ps
  | [], _, _, _, _, _, h, _, _ => by obtain ⟨rfl, rfl, rfl⟩ := trodAll_nil h; exact trodAll_mk0
  | t :: ts, _, _, _, _, hr, h, hb, hlt => by
    obtain ⟨v, vs, d, ds, p, q, rfl, rfl, rfl, h0, r0⟩ := trodAll_cons h
    exact trodAll_cons_mk (Below.trod Try.laidOut (hr t (by simp)).1 (hr t (by simp)).2 h0 hb (fun x hx => hlt x (by simp [hx]))) (trodAll_stays (fun t ht => hr t (by simp [ht])) r0 hb (fun x hx => hlt x (by simp [hx])))
end
end Go.Proofs.Ythebnpophckgcaa
