/-
  A region that draws its order, reads and calls that let the world only grow, and one operation at its end that may do anything: each of the others may be taken first. Over any program.
-/
import Derived.Test.YthebnpophckgcaaExt
import Derived.StillTail
namespace Go.Proofs.Ythebnpophckgcaa
open Go.RowKit
section
variable {P : Program} {ops : Array Oper} {Q : Exit → Act → World → Prop} {md : Region.Mode} {C : World → Prop} {t : Nat}
theorem wpAny_done {listed : Array Bool} {a : Act} {w : World} (hr : Region.ready md ops listed = []) (h : Q .normal a w) : ∀ fuel, wpAny P md ops Q fuel listed a w
  | 0 => ⟨hr, h⟩
  | _ + 1 => ⟨fun _ => h, by rw [hr]; simp⟩
/-- As wpE, but operation t ends the region, and need not keep the class. -/
def wpT (P : Program) (md : Region.Mode) (ops : Array Oper) (Q : Exit → Act → World → Prop) (C : World → Prop) (t : Nat) : Nat → Array Bool → Act → World → Prop
  | 0, _, _, _ => False
  | fuel + 1, listed, a, w => Region.ready md ops listed ≠ [] ∧
    ∀ i ∈ Region.ready md ops listed, ∀ w', Grew w w' → C w' → wpOp P ops Q i (fun a' w'' => (i = t ∧ Region.ready md ops (listed.setIfInBounds i true) = [] ∧ Q .normal a' w'') ∨
      (i ≠ t ∧ C w'' ∧ wpT P md ops Q C t fuel (listed.setIfInBounds i true) a' w'')) a w'
theorem wpT_grow : ∀ {fuel : Nat} {listed : Array Bool} {a : Act} {w w' : World}, Grew w w' → wpT P md ops Q C t fuel listed a w → wpT P md ops Q C t fuel listed a w'
  | 0, _, _, _, _, _, h => h
  | _ + 1, _, _, _, _, hg, h => ⟨h.1, fun i hi w'' hg' hC => h.2 i hi w'' (hg.trans hg') hC⟩
theorem wpAny_of_wpT : ∀ (fuel : Nat) (listed : Array Bool) (a : Act) (w : World), C w → wpT P md ops Q C t fuel listed a w → wpAny P md ops Q fuel listed a w
  | 0, _, _, _, _, h => h.elim
  | fuel + 1, _, _, w, hC, h => ⟨fun hr => absurd hr h.1, fun i hi => wpOp_mono (fun a' w' h' => by
      rcases h' with ⟨_, hr, hq⟩ | ⟨_, hC', h'⟩
      · exact wpAny_done hr hq fuel
      · exact wpAny_of_wpT fuel _ a' w' hC' h') (h.2 i hi w (Below.refl _ _) hC)⟩
theorem wpT_first {i : Nat} {oi : Oper} {v : Value} (hi : ops[i]? = some oi) (hit : i < t) (hts : t < ops.size) (hs : Region.sinkB md ops t = true) (hc : Region.chainB md ops t = true)
    (hsel : ∀ (j : Nat) (o : Oper) cs b, ops[j]? = some o → o.op ≠ .select cs b) (hQ : ∀ c a w, Q (.panic c) (a.put oi.dst v) w → Q (.panic c) a w) :
    ∀ (fuel : Nat) (listed : Array Bool) (a : Act) (w : World),
      (∀ j oj, ops[j]? = some oj → j ≠ i → listed.getD j true = false → (∀ e ∈ oj.after, Region.binds md e = true → e.on ≠ i) → oi.apart ops oj = true) →
      HeadInv md ops t listed → i ∈ Region.ready md ops listed → YieldsE P ops C oi v a →
      wpT P md ops Q C t fuel (listed.setIfInBounds i true) (a.put oi.dst v) w → wpT P md ops Q C t (fuel + 1) listed a w := by
  intro fuel
  induction fuel with
  | zero => intro listed a w _ _ _ _ H; exact H.elim
  | succ fuel ih =>
    intro listed a w hfree inv hr hy H
    refine ⟨fun h => (by rw [h] at hr; cases hr), fun j hj w' hg hC => ?_⟩
    by_cases hji : j = i
    · subst hji; exact hy.wpOp hi hC fun w'' hg' hC' => .inr ⟨by omega, hC', wpT_grow (hg.trans hg') H⟩
    · have hjt : j ≠ t := by
        rintro rfl
        exact tail_waits hs hc hts inv (j - i) i rfl hit (mem_ready.1 hr).1 j (Nat.le_refl _) hj
      have hjl : j < t := by
        rcases Nat.lt_or_ge j t with h | h
        · exact h
        · exact absurd hj (tail_waits hs hc hts inv (t - i) i rfl hit (mem_ready.1 hr).1 j h)
      have h1 := wpOp_mono (K' := fun a' w'' => C w'' ∧ wpT P md ops Q C t fuel ((listed.setIfInBounds i true).setIfInBounds j true) a' w'') (fun a' w'' h => by
        rcases h with ⟨h, _⟩ | ⟨_, h⟩
        · exact absurd h hjt
        · exact h) (H.2 j (ready_mono hj hji) w' hg hC)
      obtain ⟨hjun, oj, hoj, hall⟩ := mem_ready.1 hj
      have hnot : ∀ e ∈ oj.after, Region.binds md e = true → e.on ≠ i := fun e he hb heq => by
        have h1 := hall e he hb
        have h0 := (mem_ready.1 hr).1
        rw [heq] at h1
        rcases Nat.lt_or_ge i listed.size with h' | h'
        · simp [h'] at h0 h1; rw [h0] at h1; cases h1
        · simp [Array.getElem?_eq_none h'] at h1
      have h2 := wpOp_putE hoj (hfree j oj hoj hji hjun hnot) (fun cs b => hsel i oi cs b hi) (fun cs b => hsel j oj cs b hoj) hQ hy h1
      have hfree' : ∀ k ok, ops[k]? = some ok → k ≠ i → (listed.setIfInBounds j true).getD k true = false →
          (∀ e ∈ ok.after, Region.binds md e = true → e.on ≠ i) → oi.apart ops ok = true := fun k ok hk hki hun hno => by
        refine hfree k ok hk hki ?_ hno
        by_cases hjk : j = k
        · subst hjk; exact hjun
        · rw [getD_set_ne true hjk] at hun; exact hun
      refine wpOp_mono (fun a' w' h3 => .inr ⟨hjt, h3.2.1, ih (listed.setIfInBounds j true) a' w' hfree' (inv.set hj hjl) (ready_mono hr (Ne.symm hji)) h3.1 ?_⟩) h2
      rw [Array.setIfInBounds_comm _ _ hji]
      exact h3.2.2
/-- what a walk proves, step by step -/
def HT (P : Program) (md : Region.Mode) (ops : Array Oper) (Q : Exit → Act → World → Prop) (C : World → Prop) (t fuel : Nat) (listed : Array Bool) (a : Act) (w : World) : Prop :=
  t < ops.size → Region.sinkB md ops t = true → Region.chainB md ops t = true → HeadInv md ops t listed → wpT P md ops Q C t fuel listed a w
theorem HT_take {i : Nat} {oi : Oper} {v : Value} {fuel : Nat} {listed : Array Bool} {a : Act} {w : World} (hi : ops[i]? = some oi)
    (hs : Region.noSelect ops = true) (hf : Region.free md ops listed i = true) (hr : (Region.ready md ops listed).contains i = true) (hit : decide (i < t) = true)
    (hQ : ∀ c a w, Q (.panic c) (a.put oi.dst v) w → Q (.panic c) a w) (hy : YieldsE P ops C oi v a)
    (h : HT P md ops Q C t fuel (listed.setIfInBounds i true) (a.put oi.dst v) w) : HT P md ops Q C t (fuel + 1) listed a w := fun h1 h2 h3 inv =>
  have hr' : i ∈ Region.ready md ops listed := by simpa using hr
  wpT_first hi (of_decide_eq_true hit) h1 h2 h3 (Region.noSelect_spec hs) hQ fuel listed a w (Region.free_spec hi hf) inv hr' hy (h h1 h2 h3 (inv.set hr' (of_decide_eq_true hit)))
theorem HT_yes {l : List Oper} {i : Nat} {oi : Oper} {fuel : Nat} {listed : Array Bool} {a : Act} {w : World} (hi : l[i]? = some oi)
    (hs : Region.noSelect l.toArray = true) (hf : Region.free md l.toArray listed i = true) (hr : (Region.ready md l.toArray listed).contains i = true) (hit : decide (i < t) = true)
    (hQ : ∀ v c a w, Q (.panic c) (a.put oi.dst v) w → Q (.panic c) a w) (hw : Region.wanted oi (yielded l.toArray a.tmps) = true)
    (h : ∃ v, (∀ w, C w → calm P C w v ((execOp a.eval oi).run P w)) ∧ HT P md l.toArray Q C t fuel (listed.setIfInBounds i true) (a.put oi.dst v) w) : HT P md l.toArray Q C t (fuel + 1) listed a w :=
  let ⟨v, h1, h2⟩ := h
  HT_take (by simpa using hi) hs hf hr hit (hQ v) (.inl ⟨hw, h1⟩) h2
theorem HT_nope {l : List Oper} {i : Nat} {oi : Oper} {fuel : Nat} {listed : Array Bool} {a : Act} {w : World} (hi : l[i]? = some oi)
    (hs : Region.noSelect l.toArray = true) (hf : Region.free md l.toArray listed i = true) (hr : (Region.ready md l.toArray listed).contains i = true) (hit : decide (i < t) = true)
    (hQ : ∀ v c a w, Q (.panic c) (a.put oi.dst v) w → Q (.panic c) a w) (hw : Region.wanted oi (yielded l.toArray a.tmps) = false)
    (h : HT P md l.toArray Q C t fuel (listed.setIfInBounds i true) (a.put oi.dst undef) w) : HT P md l.toArray Q C t (fuel + 1) listed a w :=
  HT_take (by simpa using hi) hs hf hr hit (hQ undef) (.inr ⟨hw, rfl⟩) h
theorem HT_last {l : List Oper} {o : Oper} {fuel : Nat} {listed : Array Bool} {a : Act} {w : World} (hr : Region.ready md l.toArray listed = [t]) (hr2 : Region.ready md l.toArray (listed.setIfInBounds t true) = []) (ho : l[t]? = some o)
    (hw : Region.wanted o (yielded l.toArray a.tmps) = true)
    (h : ∀ w', Grew w w' → C w' → ∀ K : Act → World → Prop, (∀ a' w'', Q .normal a' w'' → K a' w'') → o.wp P a w' K Q) : HT P md l.toArray Q C t (fuel + 1) listed a w := fun _ _ _ _ =>
  ⟨by rw [hr]; simp, by
    rw [hr]
    intro j hj w' hg hC
    obtain rfl : j = t := by simpa using hj
    unfold wpOp
    simp only [show l.toArray[j]? = some o by simpa using ho, hw, if_true]
    exact .inl (h w' hg hC _ fun a' w'' h1 => .inl ⟨trivial, hr2, h1⟩)⟩
/-- The beginning. -/
theorem wp_region_tail (t : Nat) {id : Nat} {a : Act} {w : World} {l : List Oper} (hm : P.follows .mixedOrders = true) (ht : decide (t < l.toArray.size) = true) (hs : Region.sinkB .any l.toArray t = true) (hc : Region.chainB .any l.toArray t = true)
    (h : HT P .any l.toArray Q (fun w' => Grew w w') t l.length (Array.replicate l.length false) a w) : (Code.region id l.toArray true).wp P Q a w := by
  have hg : Grew w { w with drawn := w.drawn + 1 } := ⟨rfl, rfl, rfl, Nat.le_refl _, fun _ _ => rfl⟩
  refine wp_region_any hm (wpAny_of_wpT (t := t) _ _ _ _ hg ?_)
  have inv : HeadInv .any l.toArray t (Array.replicate l.length false) := by
    refine ⟨by simp, fun j oj _ hl => (by rw [getD_replicate_false] at hl; cases hl), fun k _ hk => ?_⟩
    have hk' : k < l.length := by simpa using hk
    simp [hk']
  have := wpT_grow hg (h (of_decide_eq_true ht) hs hc inv)
  simpa using this
end
end Go.Proofs.Ythebnpophckgcaa
