/-
  Plain laws that join the walks of the laws.
-/
import Derived.Test.YtdbffighngmibaaVl
namespace Go.Proofs.Ytdbffighngmibaa
open Go.RowKit
set_option linter.unusedVariables false
set_option linter.unusedSimpArgs false
theorem way_in {n : Nm} (hok : NetOk n) {w : Way} (h : WayOk n w) : InR n.links w.links ∧ ∀ p ∈ hops n.links w, 0 ≤ p.1 ∧ p.1 < n.nodes.length :=
  ⟨walk_inr h.walk, hopsF_node n.links n.nodes.length w (fun l hl => ⟨(hok.links l hl).d0, (hok.links l hl).d1⟩) w.links w.src h.s0 h.s1 h.walk⟩
theorem net_gw {n : Nm} {steps : Int} {l : List Wm} (hok : NetOk n) (hw : ∀ m ∈ l, oneF n steps m.way = 0) (h20 : ∀ i, i < l.length → (gd l i).way.links.length ≤ 20) : Gw n l where
  nd := fun m hm => (oneF_ok (hw m hm)).nd
  inr := fun m hm => (way_in hok (oneF_ok (hw m hm))).1
  at' := fun m hm => (way_in hok (oneF_ok (hw m hm))).2
  len := fun m hm => by
    obtain ⟨i, hi, rfl⟩ := List.getElem_of_mem hm
    rw [← gd_getElem hi]
    have := h20 i hi
    omega
theorem few_len {l : List Wm} (h20 : ∀ i, i < l.length → (gd l i).way.links.length ≤ 20) : ∀ m ∈ l, m.way.links.length + 1 ≤ 100 := fun m hm => by
  obtain ⟨i, hi, rfl⟩ := List.getElem_of_mem hm
  rw [← gd_getElem hi]
  have := h20 i hi
  omega
theorem conf_eq {n : Nm} {a b : Way} (hnd : (nodesF n.links a).Nodup) (hn : ∀ p ∈ hops n.links a, 0 ≤ p.1 ∧ p.1 < n.nodes.length) :
    max (confI n.links a b) 0 = (((confR n.links n.nodes.length a b).getD 0 : Nat) : Int) ∧ decide (0 ≤ confI n.links a b) = (confR n.links n.nodes.length a b).isSome := by
  rcases conf_same (b := b) hnd hn with ⟨h1, h2⟩ | ⟨k, h1, h2⟩
  · rw [h1, h2]; exact ⟨by decide, by decide⟩
  · rw [h1, h2]; simp
section
variable {P : Program} {w0 : World} {L : Fm} {ty xt yt : TypeId} {H : List (Nat × Obj)} {x y : Operand} {a c : Bool}
theorem run_eqB {t : TypeId} (ht : ∀ w, (underlying t).run P w = .ok .bool w) (a c : Bool) (w : World) : (Op.equalIn Op.maxDepth t (.bool a) (.bool c)).run P w = .ok (decide (a = c)) w := by
  unfold Op.maxDepth Op.equalIn
  cases a <;> cases c <;> simp [ht, Sem.run_bind, Result.andThen]
theorem yl_eqB (hx : Ev L x (.bool a)) (hy : Ev L y (.bool c)) (ht : ∀ w, (underlying xt).run P w = .ok .bool w) : Yl P w0 (.binOp .eql xt x y yt) ty L H (.bool (decide (a = c))) := yl_pure rfl fun b w => by
  simp [exO, execOp, hx b, hy b, binOp, eqGuard, Op.equal, run_eqB ht, Sem.run_bind, Result.andThen]
theorem yl_neB (hx : Ev L x (.bool a)) (hy : Ev L y (.bool c)) (ht : ∀ w, (underlying xt).run P w = .ok .bool w) : Yl P w0 (.binOp .neq xt x y yt) ty L H (.bool (decide (¬ a = c))) := yl_pure rfl fun b w => by
  simp [exO, execOp, hx b, hy b, binOp, eqGuard, Op.equal, run_eqB ht, Sem.run_bind, Result.andThen]
end
end Go.Proofs.Ytdbffighngmibaa
