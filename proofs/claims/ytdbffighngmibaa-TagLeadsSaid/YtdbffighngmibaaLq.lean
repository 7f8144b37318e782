/-
  Cells of arrays, made slices, and frames in another order. Over any program.
-/
import Derived.Test.YtdbffighngmibaaLo
namespace Go.Proofs.Ytdbffighngmibaa
open Go.RowKit
set_option linter.unusedVariables false
set_option linter.unusedSimpArgs false
section
variable {P : Program} {r : Option Nat} {N : Nat} {w0 : World} {Q : Post} {L : Fm} {ds : List Deferred} {H H' : List (Nat × Obj)} {ty t : TypeId} {x y : Operand}
theorem j_perm {c : Code} (hp : H.Perm H') (h : J P r N w0 c Q L ds H') : J P r N w0 c Q L ds H := fun b w hO => h b w (own_perm hO hp)
theorem jq_perm {e : Exit} (hp : H.Perm H') (h : JQ w0 Q e L ds H') : JQ w0 Q e L ds H := fun b w hO => h b w (own_perm hO hp)
theorem jl_perm {ops : Array Oper} {l : List Oper} (hp : H.Perm H') (h : JL P r N w0 ops l Q L ds H') : JL P r N w0 ops l Q L ds H := fun b w hO => h b w (own_perm hO hp)
theorem yl_ixA {b o n e sz : Nat} {i : Int} (hx : Ev L x (.pointer (some ⟨b, o, none⟩))) (hy : Ev L y (.int .i64 i)) (ht : ∀ w, (underlying t).run P w = .ok (.array n e) w) (hz : ∀ w, (sizeOf e).run P w = .ok sz w) (h : 0 ≤ i ∧ i < n) :
    Yl P w0 (.indexAddr t x y) ty L H (.pointer (some ⟨b, o + i.toNat * sz, none⟩)) := yl_pure rfl fun b' w => by
  have e1 : (⟨b, o, none⟩ : Addr).add (i.toNat * sz) = ⟨b, o + i.toNat * sz, none⟩ := by
    simp only [Addr.add]; split <;> simp_all
  simp [exO, execOp, Instr.indexAt, Instr.sureAddr, asIntOf, hx b', hy b', ht, hz, h, e1, Sem.run_bind, Result.andThen]
theorem eff_s1r {n o : Nat} {v : Value} {l l' : List Value} {t' : TypeId} {H' : List (Nat × Obj)} (hx : Ev L x (.pointer (some ⟨n, o, none⟩))) (hy : Ev L y v) (hv : oneB v = true) (hz : ∀ w, (sizeOf t).run P w = .ok 1 w)
    (hu : Upd H n (Cl l t') (Cl l' t') H' := by (repeat (first | exact Upd.h | apply Upd.t | apply upd_a)); done) (hs : setN? l o v = some l' := by rfl) : Eff P w0 (.store t x y) ty L H (Still undef H') := eff_store1 hx hy hv hz (setN_of hs) hu
theorem eff_makeSlice {e k by' : Nat} {z : Value} {i0 : TypeInfo} (hx : Ev L x (.int .i64 (k : Int))) (ht : ∀ w, (underlying t).run P w = .ok (.slice e) w) (hz : ∀ w, (sizeOf e).run P w = .ok 1 w) (hi : ∀ w, (typeInfo e).run P w = .ok i0 w) (hby : i0.bytes = by') (hzv : ∀ w, (zeroValue e).run P w = .ok z w) (hzc : z.cells = #[z]) (hb : k * by' ≤ 281474976710656) (hk : k ≤ 1000000) :
    Eff P w0 (.makeSlice t x x) ty L H (fun v H' => ∃ n, v = .slice (some ⟨n, 0, none⟩) k k ∧ H' = (n, Cl (List.replicate k z) e) :: H) :=
  ⟨rfl, fun b w hO => by
    have e1 : IntKind.i64.wrap (k : Int) = k := IntWalk.i64_in _ (by omega)
    have e2 : ¬ ((281474976710656 : Int) < (by' : Int) * k) := by
      have : (k * by' : Nat) ≤ 281474976710656 := hb
      have h2 : ((k * by' : Nat) : Int) = (by' : Int) * k := by rw [Nat.mul_comm]; simp
      omega
    have e3 : ¬ ((k : Int) < 0) := by omega
    have : (exO (ev (lk L b)) (.makeSlice t x x) ty).run P w = .ok (.value (.slice (some ⟨w.heap.size, 0, none⟩) k k)) (w.alloc (Cl (List.replicate k z) e)) := by
      simp [exO, execOp, Instr.makeSlice, hx b, ht, hz, hi, hby, hzv, hzc, asInt, asIntOf, e1, e2, Sem.run_bind, Result.andThen]
      rw [if_neg e3]
      by_cases h0 : k = 0
      · subst h0
        have e5 : (Array.map (fun (_ : Nat) => (default : Value)) (Array.range 0)) = ([] : List Value).toArray := by simp
        rw [if_pos rfl, e5, run_new]; rfl
      · have e4 : Array.map (fun x => [z][x % 1]?.getD default) (Array.range k) = (List.replicate k z).toArray := by
          apply Array.ext_getElem?
          intro i
          by_cases hi : i < k
          · simp [hi, Nat.mod_one]
          · simp [hi]
        rw [if_neg h0, e4, run_new]
    rw [this]; exact ⟨_, hO.alloc _, _, rfl, rfl⟩⟩
end
end Go.Proofs.Ytdbffighngmibaa
