/-
  A region that draws its order: every operation whose value is one and the same in all worlds of a class, and that lets the world only grow, may be taken first, also beside allocations and stores of the region's own. Over any program.
-/
import Derived.OrdersHeld
import Derived.Below
import Derived.Still
import Derived.Deep.Draws
import Derived.WalkSmall
namespace Go.Proofs.Ythebnpophckgcaa
open Go.RowKit

section
variable {P : Program} {ops : Array Oper} {Q : Exit → Act → World → Prop} {md : Region.Mode} {C : World → Prop}

/-- the world has only grown -/
abbrev Grew (w w' : World) : Prop := Below w.heap.size w w'
theorem Grew.trans {a b c : World} (h : Grew a b) (k : Grew b c) : Grew a c := Below.trans h (k.mono h.size)

/-- What an operation yields: the value v in the world that it got, or a call that hands back v and lets the world grow within the class. -/
def calm (P : Program) (C : World → Prop) (w : World) (v : Value) : Result Next → Prop
  | .ok (.value u) w' => w' = w ∧ u = v
  | .ok .skip w' => w' = w ∧ v = undef
  | .ok (.enter f args) w' => w' = w ∧ Calls P f args w (fun e w'' => e = .returned v ∧ Grew w w'' ∧ C w'')
  | _ => False

theorem calm_value {w : World} {v : Value} : calm P C w v (.ok (.value v) w) := ⟨rfl, rfl⟩
theorem calm_enter {w : World} {v : Value} {f : FuncId} {args : Array Value} (h : Calls P f args w (fun e w'' => e = .returned v ∧ Grew w w'' ∧ C w'')) : calm P C w v (.ok (.enter f args) w) := ⟨rfl, h⟩
theorem calm_call {w : World} {v : Value} {f : FuncId} {args : Array Value} (h : Calls P f args w (fun e w'' => e = .returned v ∧ Below w.heap.size w w'')) (hC : ∀ w'', Grew w w'' → C w'') : calm P C w v (.ok (.enter f args) w) :=
  ⟨rfl, h.mono fun _ _ ⟨he, hb⟩ => ⟨he, hb, hC _ hb⟩⟩
theorem calm_callQ {w : World} {v : Value} {f : FuncId} {args : Array Value} (h : Calls P f args w (fun e w'' => e = .returned v ∧ w = w'')) (hC : C w) : calm P C w v (.ok (.enter f args) w) :=
  ⟨rfl, h.mono fun _ _ ⟨he, hb⟩ => ⟨he, by subst hb; exact Below.refl _ _, by subst hb; exact hC⟩⟩

def YieldsE (P : Program) (ops : Array Oper) (C : World → Prop) (o : Oper) (v : Value) (a : Act) : Prop :=
  (Region.wanted o (yielded ops a.tmps) = true ∧ ∀ w, C w → calm P C w v ((execOp a.eval o).run P w)) ∨
  (Region.wanted o (yielded ops a.tmps) = false ∧ v = undef)

theorem YieldsE.wpOp {i : Nat} {o : Oper} {v : Value} {a : Act} (hi : ops[i]? = some o) (hy : YieldsE P ops C o v a)
    {K : Act → World → Prop} {w : World} (hS : C w) (h : ∀ w', Grew w w' → C w' → K (a.put o.dst v) w') : wpOp P ops Q i K a w := by
  unfold Go.wpOp
  simp only [hi]
  rcases hy with ⟨hw, hv⟩ | ⟨hw, rfl⟩
  · simp only [hw, if_true, Oper.wp]
    have h3 := hv w hS
    refine .inl ?_
    generalize (execOp a.eval o).run P w = r at *
    cases r with
    | ok n w' =>
      cases n <;> simp only [calm] at h3 <;> simp only [Oper.upon]
      case value u => obtain ⟨e1, e2⟩ := h3; rw [e1, e2]; exact h _ (Below.refl _ _) hS
      case skip => obtain ⟨e1, e2⟩ := h3; rw [e1, ← e2]; exact h _ (Below.refl _ _) hS
      case enter f args =>
        obtain ⟨e1, hc⟩ := h3
        rw [e1]
        exact hc.mono fun e w'' ⟨he, hg, hw''⟩ => by subst he; exact h _ hg hw''
    | halt x w' => simp only [calm] at h3
  · simp only [hw, Bool.false_eq_true, if_false]; exact h _ (Below.refl _ _) hS

theorem YieldsE.of_same {o : Oper} {v : Value} {a a' : Act} (hy : YieldsE P ops C o v a) (he : execOp a'.eval o = execOp a.eval o)
    (hw : Region.wanted o (yielded ops a'.tmps) = Region.wanted o (yielded ops a.tmps)) : YieldsE P ops C o v a' := by
  unfold YieldsE at *
  rw [he, hw]
  exact hy

theorem wpOp_putE {j : Nat} {oi oj : Oper} {v : Value} (hj : ops[j]? = some oj) (hap : oi.apart ops oj = true)
    (hsi : ∀ cs b, oi.op ≠ .select cs b) (hsj : ∀ cs b, oj.op ≠ .select cs b)
    (hQ : ∀ c a w, Q (.panic c) (a.put oi.dst v) w → Q (.panic c) a w) {K : Act → World → Prop} {a : Act} {w : World}
    (hy : YieldsE P ops C oi v a) (h : wpOp P ops Q j K (a.put oi.dst v) w) :
    wpOp P ops Q j (fun a' w' => YieldsE P ops C oi v a' ∧ K (a'.put oi.dst v) w') a w := by
  obtain ⟨h1, h2, h3⟩ := Oper.apart_spec hap
  have keep : ∀ (a : Act), YieldsE P ops C oi v a → ∀ u, YieldsE P ops C oi v (a.put oj.dst u) := fun a hy u =>
    hy.of_same (execOp_put oi hsi a oj.dst u h3) (wanted_put oi a oj.dst u h3)
  have keepD : ∀ d, YieldsE P ops C oi v { a with defers := d :: a.defers } := fun d => hy.of_same rfl rfl
  unfold wpOp at *
  simp only [hj] at *
  rw [wanted_put oj a oi.dst v h1] at h
  split
  · rename_i hw
    simp only [hw, if_true] at h
    rcases h with h | ⟨hasks, hlets⟩
    case inr => exact .inr ⟨by unfold Oper.asks at *; rw [execOp_put oj hsj a oi.dst v h1] at hasks; exact hasks, hlets⟩
    refine .inl ?_
    unfold Oper.wp at *
    rw [execOp_put oj hsj a oi.dst v h1] at h
    generalize (execOp a.eval oj).run P w = r at *
    cases r with
    | ok n w' =>
      cases n <;> simp only [Oper.upon] at h ⊢
      case value u => exact ⟨keep a hy u, by rw [← Act.put_comm a v u h2]; exact h⟩
      case skip => exact ⟨keep a hy _, by rw [← Act.put_comm a v undef h2]; exact h⟩
      case defer d =>
        refine ⟨keep _ (keepD d) _, ?_⟩
        rw [← Act.put_comm _ v undef h2, ← Act.put_defers]
        exact h
      case enter f args =>
        refine Calls.mono h fun e w'' he => ?_
        cases e with
        | returned u => exact ⟨keep a hy u, by rw [← Act.put_comm a v u h2]; exact he⟩
        | panicked c => exact hQ _ _ _ he
        | outgrown => exact he
      case row row args => exact Rows.mono h fun u w'' he => ⟨keep a hy u, by rw [← Act.put_comm a v u h2]; exact he⟩
    | halt x w' =>
      cases x <;> simp only [Oper.upon] at h ⊢
      case panic u => exact hQ _ _ _ h
  · rename_i hw
    simp only [hw] at h
    exact ⟨keep a hy _, by rw [← Act.put_comm a v undef h2]; exact h⟩

/-- Whatever order is picked from here on, the world growing at will between the operations, within the class. -/
def wpE (P : Program) (md : Region.Mode) (ops : Array Oper) (Q : Exit → Act → World → Prop) (C : World → Prop) : Nat → Array Bool → Act → World → Prop
  | 0, listed, a, w => Region.ready md ops listed = [] ∧ ∀ w', Grew w w' → C w' → Q .normal a w'
  | fuel + 1, listed, a, w =>
    (Region.ready md ops listed = [] → ∀ w', Grew w w' → C w' → Q .normal a w') ∧
    ∀ i ∈ Region.ready md ops listed, ∀ w', Grew w w' → C w' → wpOp P ops Q i (fun a' w'' => C w'' ∧ wpE P md ops Q C fuel (listed.setIfInBounds i true) a' w'') a w'

theorem wpE_grow : ∀ {fuel : Nat} {listed : Array Bool} {a : Act} {w w' : World}, Grew w w' → wpE P md ops Q C fuel listed a w → wpE P md ops Q C fuel listed a w'
  | 0, _, _, _, _, hg, h => ⟨h.1, fun w'' hg' hC => h.2 w'' (hg.trans hg') hC⟩
  | _ + 1, _, _, _, _, hg, h => ⟨fun hr w'' hg' hC => h.1 hr w'' (hg.trans hg') hC, fun i hi w'' hg' hC => h.2 i hi w'' (hg.trans hg') hC⟩

theorem wpAny_of_wpE : ∀ (fuel : Nat) (listed : Array Bool) (a : Act) (w : World), C w → wpE P md ops Q C fuel listed a w → wpAny P md ops Q fuel listed a w
  | 0, _, _, w, hC, h => ⟨h.1, h.2 w (Below.refl _ _) hC⟩
  | fuel + 1, _, _, w, hC, h => ⟨fun hr => h.1 hr w (Below.refl _ _) hC, fun i hi => wpOp_mono (fun a' w' h' => wpAny_of_wpE fuel _ a' w' h'.1 h'.2) (h.2 i hi w (Below.refl _ _) hC)⟩

theorem wpE_first {i : Nat} {oi : Oper} {v : Value} (hi : ops[i]? = some oi) (hsel : ∀ (j : Nat) (o : Oper) cs b, ops[j]? = some o → o.op ≠ .select cs b)
    (hQ : ∀ c a w, Q (.panic c) (a.put oi.dst v) w → Q (.panic c) a w) :
    ∀ (fuel : Nat) (listed : Array Bool) (a : Act) (w : World),
      (∀ j oj, ops[j]? = some oj → j ≠ i → listed.getD j true = false → (∀ e ∈ oj.after, Region.binds md e = true → e.on ≠ i) → oi.apart ops oj = true) →
      i ∈ Region.ready md ops listed → YieldsE P ops C oi v a →
      wpE P md ops Q C fuel (listed.setIfInBounds i true) (a.put oi.dst v) w → wpE P md ops Q C (fuel + 1) listed a w := by
  intro fuel
  induction fuel with
  | zero =>
    intro listed a w _ hr hy H
    refine ⟨fun h => (by rw [h] at hr; cases hr), fun j hj w' hg hC => ?_⟩
    by_cases hji : j = i
    · subst hji; exact hy.wpOp hi hC fun w'' hg' hC' => ⟨hC', wpE_grow (hg.trans hg') H⟩
    · have := ready_mono hj hji
      rw [H.1] at this
      cases this
  | succ fuel ih =>
    intro listed a w hfree hr hy H
    refine ⟨fun h => (by rw [h] at hr; cases hr), fun j hj w' hg hC => ?_⟩
    by_cases hji : j = i
    · subst hji; exact hy.wpOp hi hC fun w'' hg' hC' => ⟨hC', wpE_grow (hg.trans hg') H⟩
    · have h1 := H.2 j (ready_mono hj hji) w' hg hC
      obtain ⟨hjun, oj, hoj, hall⟩ := mem_ready.1 hj
      have hnot : ∀ e ∈ oj.after, Region.binds md e = true → e.on ≠ i := fun e he hb heq => by
        have h1 := hall e he hb
        have h0 := (mem_ready.1 hr).1
        rw [heq] at h1
        rcases Nat.lt_or_ge i listed.size with h' | h'
        · simp [h'] at h0 h1; rw [h0] at h1; cases h1
        · simp [Array.getElem?_eq_none h'] at h1
      have h2 := wpOp_putE hoj (hfree j oj hoj hji hjun hnot) (fun cs b => hsel i oi cs b hi) (fun cs b => hsel j oj cs b hoj) hQ hy h1
      have hfree' : ∀ k ok, ops[k]? = some ok → k ≠ i → (listed.setIfInBounds j true).getD k true = false →
          (∀ e ∈ ok.after, Region.binds md e = true → e.on ≠ i) → oi.apart ops ok = true := fun k ok hk hki hun hno => by
        refine hfree k ok hk hki ?_ hno
        by_cases hjk : j = k
        · subst hjk; exact hjun
        · rw [getD_set_ne true hjk] at hun; exact hun
      refine wpOp_mono (fun a' w' h3 => ⟨h3.2.1, ih (listed.setIfInBounds j true) a' w' hfree' (ready_mono hr (Ne.symm hji)) h3.1 ?_⟩) h2
      rw [Array.setIfInBounds_comm _ _ hji]
      exact h3.2.2

/-- Take number 'i' first. -/
theorem wpE_take {i : Nat} {oi : Oper} {v : Value} {fuel : Nat} {listed : Array Bool} {a : Act} {w : World} (hi : ops[i]? = some oi)
    (hs : Region.noSelect ops = true) (hf : Region.free md ops listed i = true) (hr : (Region.ready md ops listed).contains i = true)
    (hQ : ∀ c a w, Q (.panic c) (a.put oi.dst v) w → Q (.panic c) a w) (hy : YieldsE P ops C oi v a)
    (h : wpE P md ops Q C fuel (listed.setIfInBounds i true) (a.put oi.dst v) w) : wpE P md ops Q C (fuel + 1) listed a w :=
  wpE_first hi (Region.noSelect_spec hs) hQ fuel listed a w (Region.free_spec hi hf) (by simpa using hr) hy h

theorem wpE_yes {l : List Oper} {i : Nat} {oi : Oper} {fuel : Nat} {listed : Array Bool} {a : Act} {w : World} (hi : l[i]? = some oi)
    (hs : Region.noSelect l.toArray = true) (hf : Region.free md l.toArray listed i = true) (hr : (Region.ready md l.toArray listed).contains i = true)
    (hQ : ∀ v c a w, Q (.panic c) (a.put oi.dst v) w → Q (.panic c) a w) (hw : Region.wanted oi (yielded l.toArray a.tmps) = true)
    (h : ∃ v, (∀ w, C w → calm P C w v ((execOp a.eval oi).run P w)) ∧ wpE P md l.toArray Q C fuel (listed.setIfInBounds i true) (a.put oi.dst v) w) : wpE P md l.toArray Q C (fuel + 1) listed a w :=
  let ⟨v, h1, h2⟩ := h
  wpE_take (by simpa using hi) hs hf hr (hQ v) (.inl ⟨hw, h1⟩) h2
theorem wpE_nope {l : List Oper} {i : Nat} {oi : Oper} {fuel : Nat} {listed : Array Bool} {a : Act} {w : World} (hi : l[i]? = some oi)
    (hs : Region.noSelect l.toArray = true) (hf : Region.free md l.toArray listed i = true) (hr : (Region.ready md l.toArray listed).contains i = true)
    (hQ : ∀ v c a w, Q (.panic c) (a.put oi.dst v) w → Q (.panic c) a w) (hw : Region.wanted oi (yielded l.toArray a.tmps) = false)
    (h : wpE P md l.toArray Q C fuel (listed.setIfInBounds i true) (a.put oi.dst undef) w) : wpE P md l.toArray Q C (fuel + 1) listed a w :=
  wpE_take (by simpa using hi) hs hf hr (hQ undef) (.inr ⟨hw, rfl⟩) h

/-- All have come up. -/
theorem wpE_done {listed : Array Bool} {a : Act} {w : World} (hr : Region.ready md ops listed = []) (h : ∀ w', Grew w w' → C w' → Q .normal a w') :
    ∀ fuel, wpE P md ops Q C fuel listed a w
  | 0 => ⟨hr, h⟩
  | _ + 1 => ⟨fun _ => h, by rw [hr]; simp⟩

/-- One operation alone may come up. -/
theorem wpE_one {l : List Oper} {i : Nat} {o : Oper} {fuel : Nat} {listed : Array Bool} {a : Act} {w : World} (hr : Region.ready md l.toArray listed = [i]) (ho : l[i]? = some o)
    (hw : Region.wanted o (yielded l.toArray a.tmps) = true)
    (h : ∀ w', Grew w w' → C w' → ∀ K : Act → World → Prop, (∀ a' w'', C w'' → wpE P md l.toArray Q C fuel (listed.setIfInBounds i true) a' w'' → K a' w'') → o.wp P a w' K Q) : wpE P md l.toArray Q C (fuel + 1) listed a w :=
  ⟨fun h0 => absurd (hr ▸ h0) (by simp), by
    rw [hr]
    intro j hj w' hg hC
    obtain rfl : j = i := by simpa using hj
    unfold wpOp
    simp only [show l.toArray[j]? = some o by simpa using ho, hw, if_true]
    exact .inl (h w' hg hC _ fun a' w'' h1 h2 => ⟨h1, h2⟩)⟩

/-- One operation's turn, among those that may come up. -/
def TurnE (P : Program) (md : Region.Mode) (ops : Array Oper) (Q : Exit → Act → World → Prop) (C : World → Prop) (fuel : Nat) (listed : Array Bool) (a : Act) (w : World) (i : Nat) : Prop :=
  ∀ w', Grew w w' → C w' → wpOp P ops Q i (fun a' w'' => C w'' ∧ wpE P md ops Q C fuel (listed.setIfInBounds i true) a' w'') a w'
theorem turnE {i : Nat} {o : Oper} {fuel : Nat} {listed : Array Bool} {a : Act} {w : World} (ho : ops[i]? = some o)
    (hw : Region.wanted o (yielded ops a.tmps) = true)
    (h : ∀ w', Grew w w' → C w' → ∀ K : Act → World → Prop, (∀ a' w'', C w'' → wpE P md ops Q C fuel (listed.setIfInBounds i true) a' w'' → K a' w'') → o.wp P a w' K Q) : TurnE P md ops Q C fuel listed a w i := by
  intro w' hg hC
  unfold wpOp
  simp only [ho, hw, if_true]
  exact .inl (h w' hg hC _ fun a' w'' h1 h2 => ⟨h1, h2⟩)
theorem wpE_two {i j : Nat} {fuel : Nat} {listed : Array Bool} {a : Act} {w : World} (hr : Region.ready md ops listed = [i, j])
    (h1 : TurnE P md ops Q C fuel listed a w i) (h2 : TurnE P md ops Q C fuel listed a w j) : wpE P md ops Q C (fuel + 1) listed a w :=
  ⟨fun h0 => absurd (hr ▸ h0) (by simp), by
    rw [hr]
    intro k hk
    rcases List.mem_cons.1 hk with rfl | hk
    · exact h1
    · obtain rfl : k = j := by simpa using hk
      exact h2⟩

/-- The beginning. The class: the blocks that stood at the region's start are as they were. -/
theorem wp_region_ext {id : Nat} {a : Act} {w : World} {l : List Oper} (hm : P.follows .mixedOrders = true)
    (h : wpE P .any l.toArray Q (fun w' => Grew w w') l.length (Array.replicate l.length false) a w) : (Code.region id l.toArray true).wp P Q a w := by
  have hg : Grew w { w with drawn := w.drawn + 1 } := ⟨rfl, rfl, rfl, Nat.le_refl _, fun _ _ => rfl⟩
  refine wp_region_any hm (wpAny_of_wpE _ _ _ _ hg ?_)
  have := wpE_grow hg h
  simpa using this
end
end Go.Proofs.Ythebnpophckgcaa
