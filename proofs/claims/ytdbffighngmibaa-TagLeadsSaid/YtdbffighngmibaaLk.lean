/-
  Append where the slice's block lies anywhere among the owned ones; calls that turn it there. Over any program.
-/
import Derived.Test.YtdbffighngmibaaLj
namespace Go.Proofs.Ytdbffighngmibaa
open Go.RowKit
set_option linter.unusedVariables false
set_option linter.unusedSimpArgs false
/-- the blocks M lie in H, the rest, and H with others there -/
inductive LocL : List (Nat × Obj) → List (Nat × Obj) → List (Nat × Obj) → (List (Nat × Obj) → List (Nat × Obj)) → Prop
  | h {M X} : LocL (M ++ X) M X (fun M' => M' ++ X)
  | t {H M R F e} : LocL H M R F → LocL (e :: H) M (e :: R) (fun M' => e :: F M')
  | a {X H M R F} : LocL H M R F → LocL (X ++ H) M (X ++ R) (fun M' => X ++ F M')
theorem LocL.perm {H M R : List (Nat × Obj)} {F : List (Nat × Obj) → List (Nat × Obj)} (h : LocL H M R F) : H.Perm (M ++ R) ∧ ∀ M', (F M').Perm (M' ++ R) := by
  induction h with
  | h => exact ⟨List.Perm.refl _, fun _ => List.Perm.refl _⟩
  | t _ ih => exact ⟨(ih.1.cons _).trans List.perm_middle.symm, fun M' => ((ih.2 M').cons _).trans List.perm_middle.symm⟩
  | @a X H M R F _ ih =>
    have key : ∀ M' : List (Nat × Obj), (X ++ (M' ++ R)).Perm (M' ++ (X ++ R)) := fun M' => by
      rw [← List.append_assoc, ← List.append_assoc]; exact List.perm_append_comm.append_right R
    exact ⟨(ih.1.append_left X).trans (key _), fun M' => ((ih.2 M').append_left X).trans (key _)⟩
section
variable {P : Program} {w0 : World} {L : Fm} {op : Op} {ty : TypeId} {H : List (Nat × Obj)}
theorem Eff.perm {H0 : List (Nat × Obj)} {K K0 : Value → List (Nat × Obj) → Prop} (h : Eff P w0 op ty L H0 K0) (hp : H.Perm H0) (hk : ∀ v H', K0 v H' → ∃ H'', H'.Perm H'' ∧ K v H'') : Eff P w0 op ty L H K := by
  refine ⟨h.1, fun b w hO => ?_⟩
  have h1 := h.2 b w (own_perm hO hp)
  revert h1
  unfold effO
  split
  · rintro ⟨H', hO', hK⟩; obtain ⟨H'', hpp, hK'⟩ := hk _ _ hK; exact ⟨H'', own_perm hO' hpp, hK'⟩
  · rintro ⟨H', hO', hK⟩; obtain ⟨H'', hpp, hK'⟩ := hk _ _ hK; exact ⟨H'', own_perm hO' hpp, hK'⟩
  · intro h2; exact h2.mono fun e w' ⟨v, H', he, hO', hK⟩ => by obtain ⟨H'', hpp, hK'⟩ := hk _ _ hK; exact ⟨v, H'', he, own_perm hO' hpp, hK'⟩
  · intro h2; exact h2.mono fun e w' ⟨v, H', he, hO', hK⟩ => by obtain ⟨H'', hpp, hK'⟩ := hk _ _ hK; exact ⟨v, H'', he, own_perm hO' hpp, hK'⟩
  · exact id
variable {x y : Operand} {t t2 e : TypeId}
theorem eff_app1_at {α : Type} {enc : α → List Value} (v : α) {R : List (Nat × Obj)} {F : List (Nat × Obj) → List (Nat × Obj)} {d : Sl} {l : List α} {n sz by' : Nat} {z : Value} {i0 : TypeInfo} {e2 : TypeId} (hl : LocL H (slH d (l.flatMap enc) e) R F) (hx : Ev L x (slV d l.length)) (hy : Ev L y (.slice (some ⟨n, 0, none⟩) 1 1))
    (ht : ∀ w, (underlying t).run P w = .ok (.slice e) w) (ht2 : ∀ w, (underlying t2).run P w = .ok (.slice e2) w) (hz : ∀ w, (sizeOf e).run P w = .ok sz w) (hi : ∀ w, (typeInfo e).run P w = .ok i0 w) (hby : i0.bytes = by') (hzv : ∀ w, (zeroValue e).run P w = .ok z w) (hzs : z.cells.size = sz)
    (he : ∀ u, (enc u).length = sz) (h1 : (enc v).all oneB = true) (hok : SlOk d l.length sz) (hb0 : by' ≠ 0) (hb : (2 * (l.length + 1) + 600) * by' ≤ 281474976710656) (hn : Cells w0 H n 0 (enc v) := by exact cs_o) :
    Eff P w0 (.call { callee := .builtin .append, args := #[x, y], argTypes := #[t, t2] }) ty L H (fun u H' => ∃ d', u = slV d' (l.length + 1) ∧ SlOk d' (l.length + 1) sz ∧ H' = F (slH d' ((l ++ [v]).flatMap enc) e)) := by
  have hn' : Cells w0 ([] ++ (slH d (l.flatMap enc) e ++ R)) n 0 (enc v) := fun i u hi w hO => hn i u hi w (own_perm hO hl.perm.1.symm)
  refine (eff_app1 (A := []) (X := R) v hx hy ht ht2 hz hi hby hzv hzs he h1 hok hb0 hb hn').perm hl.perm.1 ?_
  rintro u H' ⟨d', h1, h2, rfl⟩
  exact ⟨_, (hl.perm.2 _).symm, d', h1, h2, rfl⟩
end
/-- a function that turns the blocks M, called where they lie anywhere -/
theorem spec_atL {β : Type} {P : Program} {w0 : World} {f : FuncId} {args : Array Value} {H R M : List (Nat × Obj)} {F : List (Nat × Obj) → List (Nat × Obj)} {φ : Value → β → Prop} {M' : β → List (Nat × Obj)} (h : FSpec P w0 f args (M ++ R) (fun v H' => ∃ x, φ v x ∧ H' = M' x ++ R))
    (hl : LocL H M R F) : FSpec P w0 f args H (fun v H' => ∃ x, φ v x ∧ H' = F (M' x)) := fun w hO =>
  (h w (own_perm hO hl.perm.1)).mono fun e w' ⟨v, H', he, hO', x, hx, hH⟩ => ⟨v, _, he, own_perm (hH ▸ hO') (hl.perm.2 _).symm, x, hx, rfl⟩
end Go.Proofs.Ytdbffighngmibaa
