/-
  Conversions; the example network.
-/
import Derived.Test.YtdbffighngmibaaVh
namespace Go.Proofs.Ytdbffighngmibaa
open Go.RowKit
set_option linter.unusedVariables false
set_option linter.unusedSimpArgs false
section
variable {P : Program} {w0 : World} {L : Fm} {ty t s : TypeId} {H : List (Nat × Obj)} {x y : Operand}
theorem yl_convI {k k' : IntKind} {td : TypeDesc} {a : Int} (hx : Ev L x (.int k' a)) (hs : ∀ w, (underlying s).run P w = .ok td w) (ht : ∀ w, (underlying t).run P w = .ok (.int k) w) :
    Yl P w0 (.convert s t x) ty L H (.int k (k.wrap a)) := yl_pure rfl fun b w => by
  simp [exO, execOp, hx b, convert, hs, ht, Conv.intToInt, Sem.run_bind, Result.andThen]
theorem yl_convB {e n c : Nat} {b0 : Int} (hx : Ev L x (.slice (some ⟨n, 0, none⟩) 1 c)) (hs : ∀ w, (underlying s).run P w = .ok (.slice e) w) (he : ∀ w, (underlying e).run P w = .ok (.int .u8) w) (ht : ∀ w, (underlying t).run P w = .ok .string w) (hc : Cell w0 H ⟨n, 0, none⟩ (.int .u8 b0)) :
    Yl P w0 (.convert s t x) ty L H (.string ⟨#[b0.toNat.toUInt8]⟩) := yl_of rfl fun H' hs' b w hO => by
  have hc' := hc.mono hs' w hO
  have hl : (loadCells ⟨n, 0, none⟩ 1).run P w = .ok #[.int .u8 b0] w := by
    have := run_loadCells (P := P) (b := n) (o := 0) (w := w) [.int .u8 b0] 0 #[] (fun j v hj => by
      cases j with
      | zero => simp at hj; subst hj; exact hc'
      | succ j => simp at hj)
    simpa [loadCells] using this
  simp [exO, execOp, hx b, convert, hs, ht, he, Conv.bytesToString, hl, Sem.run_bind, Result.andThen]
  rfl
end
abbrev exC (a b c d : ByteArray) : List Value := [.string a, .bool false, .int .i64 100, .int .i64 100, .string b, .bool false, .int .i64 100, .int .i64 100, .string c, .bool false, .int .i64 100, .int .i64 100, .string d, .bool false, .int .i64 100, .int .i64 100]
theorem ex_set {k : Nat} (hk : k < 4) (a b c d s : ByteArray) : SetN (exC a b c d) (0 + k * 4) (.string s) (exC (if k = 0 then s else a) (if k = 1 then s else b) (if k = 2 then s else c) (if k = 3 then s else d)) := by
  match k, hk with
  | 0, _ => exact setN_of rfl
  | 1, _ => exact setN_of rfl
  | 2, _ => exact setN_of rfl
  | 3, _ => exact setN_of rfl
def exLinks : List Lnk := [⟨0, 1, 10⟩, ⟨1, 3, 10⟩, ⟨0, 2, 10⟩, ⟨2, 3, 10⟩, ⟨1, 2, 10⟩, ⟨3, 0, 10⟩]
def exEdges : List Edg := [⟨⟨#[101]⟩, 0⟩, ⟨⟨#[102]⟩, 3⟩]
def exN (n1 n2 n3 : Nat) (a b c d : ByteArray) : Nm where
  nodes := [⟨a, false, 100, 100⟩, ⟨b, false, 100, 100⟩, ⟨c, false, 100, 100⟩, ⟨d, false, 100, 100⟩]
  links := exLinks
  edges := exEdges
  qn := some ⟨n1, 0, none⟩
  cn := 4
  ql := some ⟨n2, 0, none⟩
  cl := 6
  qe := some ⟨n3, 0, none⟩
  ce := 2
theorem arr_blk {α : Type} {w0 : World} {H : List (Nat × Obj)} {n sz : Nat} {enc : α → List Value} {l : List α} {cells : List Value} {e : TypeId} (he : ∀ x, (enc x).length = sz) (hc : cells = l.flatMap enc) (hf : Fnd H n (Cl cells e)) : Arr w0 H (some ⟨n, 0, none⟩) sz enc l := fun i x hi =>
  ⟨rfl, fun j v hj => by
    refine cell_get hf ?_
    rw [hc]
    have := flat_get he l i x j v hi hj
    simpa [oq] using this⟩
theorem ex_net {w0 : World} {H : List (Nat × Obj)} {n1 n2 n3 : Nat} {a b c d : ByteArray} (h : a.size ≤ 1 ∧ b.size ≤ 1 ∧ c.size ≤ 1 ∧ d.size ≤ 1) (h1 : Fnd H n1 (Cl (exC a b c d) 121)) (h2 : Fnd H n2 (Cl (exLinks.flatMap encL) 63)) (h3 : Fnd H n3 (Cl (exEdges.flatMap encE) 124)) : NetM w0 H (exN n1 n2 n3 a b c d) where
  nodes := arr_blk (fun _ => rfl) rfl h1
  links := arr_blk (fun _ => rfl) rfl h2
  edges := arr_blk (fun _ => rfl) rfl h3
  ln := by simp [exN]
  ll := by simp [exN, exLinks]
  le := by simp [exN, exEdges]
  sn := fun x hx => by simp [exN] at hx; rcases hx with rfl | rfl | rfl | rfl <;> simp only [] <;> omega
  se := fun x hx => by simp [exN, exEdges] at hx; rcases hx with rfl | rfl <;> decide
end Go.Proofs.Ytdbffighngmibaa
