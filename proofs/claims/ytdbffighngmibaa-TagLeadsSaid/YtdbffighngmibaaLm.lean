/-
  Slices of slices. Over any program.
-/
import Derived.Test.YtdbffighngmibaaLk
namespace Go.Proofs.Ytdbffighngmibaa
open Go.RowKit
set_option linter.unusedVariables false
set_option linter.unusedSimpArgs false
/-- where x[lo:] begins -/
def slD (q : Option Addr) (c lo sz : Nat) : Option Addr := if c = lo then q else q.map (·.add (lo * sz))
section
variable {P : Program} {w0 : World} {L : Fm} {ty t : TypeId} {H : List (Nat × Obj)} {x y z : Operand}
theorem yl_sliceH {e : TypeId} {q : Option Addr} {n c sz k : Nat} (hx : Ev L x (.slice q n c)) (hz : Ev L z (.int .i64 (k : Int))) (ht : ∀ w, (underlying t).run P w = .ok (.slice e) w) (hs : ∀ w, (sizeOf e).run P w = .ok sz w) (h : k ≤ c) :
    Yl P w0 (.slice t x none (some z) none) ty L H (.slice q k c) := yl_pure rfl fun b w => by
  have e0 : (q.map fun a => a.add (0 * sz)) = q := by cases q <;> simp [Addr.add]
  simp [exO, execOp, Instr.sliceAt, Instr.slice, Instr.sliceBounds, Instr.sliceBound, asIntOf, hx b, hz b, ht, hs, Sem.run_bind, Result.andThen, show (k : Int) ≤ c by omega]
  rw [if_pos h]
  rw [Nat.zero_mul] at e0
  simp [e0]
theorem yl_sliceL {e : TypeId} {q : Option Addr} {n c sz k : Nat} (hx : Ev L x (.slice q n c)) (hz : Ev L z (.int .i64 (k : Int))) (ht : ∀ w, (underlying t).run P w = .ok (.slice e) w) (hs : ∀ w, (sizeOf e).run P w = .ok sz w) (h : k ≤ n) :
    Yl P w0 (.slice t x (some z) none none) ty L H (.slice (slD q c k sz) (n - k) (c - k)) := yl_pure rfl fun b w => by
  simp [exO, execOp, Instr.sliceAt, Instr.slice, Instr.sliceBounds, Instr.sliceBound, asIntOf, hx b, hz b, ht, hs, Sem.run_bind, Result.andThen, show (k : Int) ≤ n by omega, slD]
  rw [if_pos h]
end
theorem Arr.drop {α : Type} {w0 : World} {H : List (Nat × Obj)} {q : Option Addr} {sz c : Nat} {enc : α → List Value} {l : List α} (h : Arr w0 H q sz enc l) (hc : l.length ≤ c) (lo : Nat) : Arr w0 H (slD q c lo sz) sz enc (l.drop lo) := fun i x hi => by
  rw [List.getElem?_drop] at hi
  have hlt := (List.getElem?_eq_some_iff.1 hi).1
  obtain ⟨hb, hcs⟩ := h _ x hi
  unfold slD
  have ea : (some (⟨bq q, oq q, none⟩ : Addr)).map (·.add (lo * sz)) = some ⟨bq q, oq q + lo * sz, none⟩ := by
    simp only [Option.map_some, Addr.add]; split <;> simp_all
  rw [if_neg (by omega), hb, ea]
  refine ⟨rfl, ?_⟩
  show Cells w0 H (bq q) (oq q + lo * sz + i * sz) (enc x)
  have e : oq q + (lo + i) * sz = oq q + lo * sz + i * sz := by rw [Nat.add_mul]; omega
  rw [e] at hcs
  exact hcs
theorem Arr.take {α : Type} {w0 : World} {H : List (Nat × Obj)} {q : Option Addr} {sz : Nat} {enc : α → List Value} {l : List α} (h : Arr w0 H q sz enc l) (k : Nat) : Arr w0 H q sz enc (l.take k) := fun i x hi => by
  rw [List.getElem?_take] at hi
  split at hi
  · exact h i x hi
  · cases hi
end Go.Proofs.Ytdbffighngmibaa
