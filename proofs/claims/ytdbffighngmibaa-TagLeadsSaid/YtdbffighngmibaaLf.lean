/-
  Regions that draw their order. Over any program.
-/
import Derived.Test.YtdbffighngmibaaLe
import Derived.StillTail
namespace Go.Proofs.Ytdbffighngmibaa
open Go.RowKit
set_option linter.unusedVariables false
section
variable {P : Program} {r : Option Nat} {ops : Array Oper} {Q : Exit → Act → World → Prop} {w0 : World} {H0 : List (Nat × Obj)} {t : Nat}
abbrev md : Region.Mode := .any
def noDefer (ops : Array Oper) : Bool := ops.toList.all fun o => !Op.isDefer o.op
theorem noDefer_spec (h : noDefer ops = true) {j : Nat} {o : Oper} (hj : ops[j]? = some o) : ∀ c, o.op ≠ .defer c := by
  intro c hc
  have h1 := List.all_eq_true.1 h o (by rw [Array.mem_toList_iff]; exact Array.mem_of_getElem? hj)
  rw [hc] at h1
  simp [Op.isDefer] at h1
/-- an operation that yields v, whatever is owned beside H0, or is not wanted -/
def YieldsO (P : Program) (ops : Array Oper) (w0 : World) (H0 : List (Nat × Obj)) (o : Oper) (v : Value) (a : Act) : Prop :=
  (Region.wanted o (yielded ops a.tmps) = true ∧ ∀ H, H0.Sublist H → ∀ w, Own w0 H w → effO P w0 (Still v H) ((execOp a.eval o).run P w)) ∨
  (Region.wanted o (yielded ops a.tmps) = false ∧ v = undef)
theorem YieldsO.of_same {o : Oper} {v : Value} {a a' : Act} (hy : YieldsO P ops w0 H0 o v a) (he : execOp a'.eval o = execOp a.eval o)
    (hw : Region.wanted o (yielded ops a'.tmps) = Region.wanted o (yielded ops a.tmps)) : YieldsO P ops w0 H0 o v a' := by
  unfold YieldsO at *
  rw [he, hw]
  exact hy
theorem YieldsO.wpOpIn {i : Nat} {o : Oper} {v : Value} {a : Act} (hi : ops[i]? = some o) (hd : ∀ c, o.op ≠ .defer c) (hy : YieldsO P ops w0 H0 o v a) {K : Act → World → Prop} {H : List (Nat × Obj)} {w : World} (hs : H0.Sublist H) (hO : Own w0 H w)
    (h : ∀ w', Own w0 H w' → K (a.put o.dst v) w') : wpOpIn (rd r) 0 P ops Q i K a w := by
  unfold Go.wpOpIn
  simp only [hi]
  rcases hy with ⟨hw, hv⟩ | ⟨hw, rfl⟩
  · simp only [hw, if_true]
    refine ⟨fun f _ => rd_fn r f, ?_⟩
    rw [Oper.semAt_eq _ _ _ hd]
    have h3 := hv H hs w hO
    generalize (execOp a.eval o).run P w = res at *
    cases res with
    | ok n w' =>
      cases n <;> simp only [effO] at h3 <;> simp only [Oper.uponIn]
      case value u => obtain ⟨H', h1, h2, h4⟩ := h3; subst h2; subst h4; exact h _ h1
      case skip => obtain ⟨H', h1, h2, h4⟩ := h3; subst h4; rw [h2]; exact h _ h1
      case enter f args =>
        refine ⟨rd_hn r, callsIn_rd (h3.mono fun e w'' ⟨u, H', he, h1, h2, h4⟩ => ?_)⟩
        subst he; subst h2; subst h4
        exact h _ h1
      case round l f tmps assign body =>
        refine ⟨rd_hn r, roundIn_rd (h3.mono fun e w'' ⟨u, H', he, h1, h2, h4⟩ => ?_)⟩
        subst he; subst h2; subst h4
        exact h _ h1
    | halt x w' => simp only [effO] at h3
  · simp only [hw, Bool.false_eq_true, if_false]; exact ⟨fun f _ => rd_fn r f, h _ hO⟩
theorem wpOpIn_putO {j : Nat} {oi oj : Oper} {v : Value} (hj : ops[j]? = some oj) (hdj : ∀ c, oj.op ≠ .defer c) (hap : oi.apart ops oj = true)
    (hsi : ∀ cs b, oi.op ≠ .select cs b) (hsj : ∀ cs b, oj.op ≠ .select cs b)
    (hQ : ∀ c a w, Q (.panic c) (a.put oi.dst v) w → Q (.panic c) a w) {K : Act → World → Prop} {a : Act} {w : World}
    (hy : YieldsO P ops w0 H0 oi v a) (h : wpOpIn (rd r) 0 P ops Q j K (a.put oi.dst v) w) :
    wpOpIn (rd r) 0 P ops Q j (fun a' w' => YieldsO P ops w0 H0 oi v a' ∧ K (a'.put oi.dst v) w') a w := by
  obtain ⟨h1, h2, h3⟩ := Oper.apart_spec hap
  have keep : ∀ (a : Act), YieldsO P ops w0 H0 oi v a → ∀ u, YieldsO P ops w0 H0 oi v (a.put oj.dst u) := fun a hy u =>
    hy.of_same (execOp_put oi hsi a oj.dst u h3) (wanted_put oi a oj.dst u h3)
  have keepD : ∀ d, YieldsO P ops w0 H0 oi v { a with defers := d :: a.defers } := fun d => hy.of_same rfl rfl
  unfold Go.wpOpIn at *
  simp only [hj] at *
  rw [wanted_put oj a oi.dst v h1] at h
  split
  · rename_i hw
    simp only [hw, if_true] at h
    unfold Oper.wpIn at *
    refine ⟨fun f _ => rd_fn r f, ?_⟩
    have h := h.2
    rw [Oper.semAt_eq _ _ _ hdj, execOp_put oj hsj a oi.dst v h1] at h
    rw [Oper.semAt_eq _ _ _ hdj]
    generalize (execOp a.eval oj).run P w = res at *
    cases res with
    | ok x w' =>
      cases x <;> simp only [Oper.uponIn] at h ⊢
      case value u => exact ⟨keep a hy u, by rw [← Act.put_comm a v u h2]; exact h⟩
      case skip => exact ⟨keep a hy _, by rw [← Act.put_comm a v undef h2]; exact h⟩
      case defer d =>
        refine ⟨keep _ (keepD d) _, ?_⟩
        rw [← Act.put_comm _ v undef h2, ← Act.put_defers]
        exact h
      case enter f args =>
        refine ⟨h.1, CallsIn.mono h.2 fun e w'' he => ?_⟩
        cases e with
        | returned u => exact ⟨keep a hy u, by rw [← Act.put_comm a v u h2]; exact he⟩
        | panicked c => exact hQ _ _ _ he
        | outgrown => exact he
      case row row args => exact ⟨h.1, RowsIn.mono h.2 fun u w'' he => ⟨keep a hy u, by rw [← Act.put_comm a v u h2]; exact he⟩⟩
      case round l f tmps assign body =>
        refine ⟨h.1, RoundIn.mono h.2 fun e w'' he => ?_⟩
        cases e with
        | returned u => exact ⟨keep a hy u, by rw [← Act.put_comm a v u h2]; exact he⟩
        | panicked c => exact hQ _ _ _ he
        | outgrown => exact he
    | halt x w' =>
      cases x <;> simp only [Oper.uponIn] at h ⊢
      case panic u => exact hQ _ _ _ h
  · rename_i hw
    simp only [hw] at h
    exact ⟨fun f _ => rd_fn r f, keep a hy _, by rw [← Act.put_comm a v undef h2]; exact h.2⟩
/-- from operation k on one alone may come up, to the end -/
def tailOk (ops : Array Oper) : Nat → Nat → Array Bool → Bool
  | 0, _, listed => Region.ready md ops listed == []
  | m + 1, k, listed => Region.ready md ops listed == [k] && tailOk ops m (k + 1) (listed.setIfInBounds k true)
theorem tail_run : ∀ (m k : Nat) (listed : Array Bool) (a : Act) (w : World), k + m = ops.size → tailOk ops m k listed = true → wpListIn (rd r) 0 P ops Q (ops.toList.drop k) a w → wpAnyIn (rd r) 0 P md ops Q m listed a w
  | 0, k, listed, a, w, hk, ht, h => by
    have : ops.toList.drop k = [] := List.drop_eq_nil_of_le (by simp; omega)
    rw [this] at h
    exact ⟨by simpa [tailOk] using ht, h⟩
  | m + 1, k, listed, a, w, hk, ht, h => by
    simp only [tailOk, Bool.and_eq_true, beq_iff_eq] at ht
    have hlt : k < ops.toList.length := by simp; omega
    rw [List.drop_eq_getElem_cons hlt] at h
    have hj : ops[k]? = some (ops.toList[k]) := by simp
    refine ⟨fun h0 => absurd (ht.1 ▸ h0) (by simp), fun i hi => ?_⟩
    rw [ht.1] at hi
    obtain rfl : i = k := by simpa using hi
    unfold wpListIn at h
    unfold wpOpIn
    simp only [hj]
    split
    · rename_i hw
      rw [if_pos hw] at h
      exact Oper.wpIn_mono (fun a' w' h' => tail_run m (i + 1) _ a' w' (by omega) ht.2 h') h
    · rename_i hw
      rw [if_neg hw] at h
      exact ⟨h.1, tail_run m (i + 1) _ _ w (by omega) ht.2 h.2⟩
/-- whatever order is picked: f operations below t are left; H is owned; H0 all along -/
def wpO (P : Program) (r : Option Nat) (ops : Array Oper) (Q : Exit → Act → World → Prop) (w0 : World) (H0 : List (Nat × Obj)) (t : Nat) : Nat → Array Bool → Act → List (Nat × Obj) → Prop
  | 0, listed, a, H => tailOk ops (ops.size - t) t listed = true ∧ ∀ w, Own w0 H w → wpListIn (rd r) 0 P ops Q (ops.toList.drop t) a w
  | f + 1, listed, a, H => (∃ i0 ∈ Region.ready md ops listed, i0 < t) ∧ ∀ i ∈ Region.ready md ops listed, i < t → ∀ w, Own w0 H w →
      wpOpIn (rd r) 0 P ops Q i (fun a' w' => ∃ H', H0.Sublist H' ∧ Own w0 H' w' ∧ wpO P r ops Q w0 H0 t f (listed.setIfInBounds i true) a' H') a w
def TailS (ops : Array Oper) (t : Nat) : Prop := t = ops.size ∨ (t < ops.size ∧ Region.sinkB md ops t = true ∧ Region.chainB md ops t = true)
theorem ready_lt {listed : Array Bool} (hT : TailS ops t) (inv : HeadInv md ops t listed) {i j : Nat} (hi : i < t) (hu : listed.getD i true = false) (hj : j ∈ Region.ready md ops listed) : j < t := by
  rcases hT with rfl | ⟨hlt, hs, hc⟩
  · obtain ⟨_, o, ho, _⟩ := mem_ready.1 hj
    exact (Array.getElem?_eq_some_iff.1 ho).1
  · rcases Nat.lt_or_ge j t with h | h
    · exact h
    · exact absurd hj (tail_waits hs hc hlt inv (t - i) i rfl hi hu j h)
theorem wpAny_of_wpO (hT : TailS ops t) (htl : t ≤ ops.size) : ∀ (f : Nat) (listed : Array Bool) (a : Act) (H : List (Nat × Obj)) (w : World), HeadInv md ops t listed → Own w0 H w → wpO P r ops Q w0 H0 t f listed a H → wpAnyIn (rd r) 0 P md ops Q (f + (ops.size - t)) listed a w
  | 0, listed, a, H, w, inv, hO, h => by rw [Nat.zero_add]; exact tail_run _ t listed a w (by omega) h.1 (h.2 w hO)
  | f + 1, listed, a, H, w, inv, hO, h => by
    obtain ⟨⟨i0, hi0, hlt0⟩, h⟩ := h
    rw [show f + 1 + (ops.size - t) = (f + (ops.size - t)) + 1 by omega]
    refine ⟨fun hr => (by rw [hr] at hi0; cases hi0), fun i hi => ?_⟩
    have hit := ready_lt hT inv hlt0 (mem_ready.1 hi0).1 hi
    exact wpOpIn_mono (fun a' w' ⟨H', hs, hO', h'⟩ => wpAny_of_wpO hT htl f _ a' H' w' (inv.set hi hit) hO' h') (h i hi hit w hO)
theorem wpO_first {i : Nat} {oi : Oper} {v : Value} (hT : TailS ops t) (hD : noDefer ops = true) (hi : ops[i]? = some oi) (hit : i < t) (hsel : ∀ (j : Nat) (o : Oper) cs b, ops[j]? = some o → o.op ≠ .select cs b)
    (hQ : ∀ c a w, Q (.panic c) (a.put oi.dst v) w → Q (.panic c) a w) :
    ∀ (f : Nat) (listed : Array Bool) (a : Act) (H : List (Nat × Obj)), H0.Sublist H →
      (∀ j oj, ops[j]? = some oj → j ≠ i → listed.getD j true = false → (∀ e ∈ oj.after, Region.binds md e = true → e.on ≠ i) → oi.apart ops oj = true) →
      HeadInv md ops t listed → i ∈ Region.ready md ops listed → YieldsO P ops w0 H0 oi v a →
      wpO P r ops Q w0 H0 t f (listed.setIfInBounds i true) (a.put oi.dst v) H → wpO P r ops Q w0 H0 t (f + 1) listed a H := by
  intro f
  induction f with
  | zero =>
    intro listed a H hs hfree inv hr hy h
    refine ⟨⟨i, hr, hit⟩, fun j hj hjt w hO => ?_⟩
    by_cases hji : j = i
    · subst hji
      exact hy.wpOpIn hi (noDefer_spec hD hi) hs hO fun w' hO' => ⟨H, hs, hO', h⟩
    · exfalso
      have h1 := ready_mono hj hji
      have h2 := h.1
      rcases Nat.lt_or_ge t ops.size with hlt | hge
      · rw [show ops.size - t = (ops.size - t - 1) + 1 by omega] at h2
        simp only [tailOk, Bool.and_eq_true, beq_iff_eq] at h2
        rw [h2.1] at h1
        have : j = t := by simpa using h1
        omega
      · rw [show ops.size - t = 0 by omega] at h2
        simp only [tailOk, beq_iff_eq] at h2
        rw [h2] at h1
        cases h1
  | succ f ih =>
    intro listed a H hs hfree inv hr hy h
    refine ⟨⟨i, hr, hit⟩, fun j hj hjt w hO => ?_⟩
    by_cases hji : j = i
    · subst hji
      exact hy.wpOpIn hi (noDefer_spec hD hi) hs hO fun w' hO' => ⟨H, hs, hO', h⟩
    · have h1 := h.2 j (ready_mono hj hji) hjt w hO
      obtain ⟨hjun, oj, hoj, hall⟩ := mem_ready.1 hj
      have hnot : ∀ e ∈ oj.after, Region.binds md e = true → e.on ≠ i := fun e he hb heq => by
        have h1 := hall e he hb
        have h0 := (mem_ready.1 hr).1
        rw [heq, getD_both h0] at h1
        cases h1
      have h2 := wpOpIn_putO hoj (noDefer_spec hD hoj) (hfree j oj hoj hji hjun hnot) (fun cs b => hsel i oi cs b hi) (fun cs b => hsel j oj cs b hoj) hQ hy h1
      have hfree' : ∀ k ok, ops[k]? = some ok → k ≠ i → (listed.setIfInBounds j true).getD k true = false →
          (∀ e ∈ ok.after, Region.binds md e = true → e.on ≠ i) → oi.apart ops ok = true := fun k ok hk hki hun hno => by
        refine hfree k ok hk hki ?_ hno
        by_cases hjk : j = k
        · subst hjk; exact hjun
        · rw [getD_set_ne true hjk] at hun; exact hun
      refine wpOpIn_mono (fun a' w' h3 => ?_) h2
      obtain ⟨hy', H', hs', hO', h4⟩ := h3
      refine ⟨H', hs', hO', ih (listed.setIfInBounds j true) a' H' hs' hfree' (inv.set hj hjt) (ready_mono hr (Ne.symm hji)) hy' ?_⟩
      rw [Array.setIfInBounds_comm _ _ hji]
      exact h4
end
/-! ### The judgement -/
/-- the plan: each operation below t in an order in which it may be taken first (true), or comes up alone (false) -/
def planB (ops : Array Oper) (t : Nat) : List (Nat × Bool) → Array Bool → Bool
  | [], listed => tailOk ops (ops.size - t) t listed
  | (i, true) :: rest, listed => Nat.blt i t && (Region.ready md ops listed).contains i && Region.free md ops listed i && planB ops t rest (listed.setIfInBounds i true)
  | (i, false) :: rest, listed => Nat.blt i t && Region.ready md ops listed == [i] && planB ops t rest (listed.setIfInBounds i true)
def tailB (ops : Array Oper) (t : Nat) : Bool := Nat.beq t ops.size || (Nat.blt t ops.size && Region.sinkB md ops t && Region.chainB md ops t)
theorem tailB_spec {ops : Array Oper} {t : Nat} (h : tailB ops t = true) : TailS ops t ∧ t ≤ ops.size := by
  simp only [tailB, Bool.or_eq_true, Bool.and_eq_true, Nat.blt_eq] at h
  rcases h with h | ⟨⟨h1, h2⟩, h3⟩
  · have := Nat.eq_of_beq_eq_true h
    exact ⟨.inl this, by omega⟩
  · exact ⟨.inr ⟨h1, h2, h3⟩, by omega⟩
section
variable {P : Program} {r : Option Nat} {N : Nat} {w0 : World} {ops : Array Oper} {t : Nat} {Q : Post} {L : Fm} {ds : List Deferred} {H0 H : List (Nat × Obj)}
def JO (P : Program) (r : Option Nat) (N : Nat) (w0 : World) (H0 : List (Nat × Obj)) (ops : Array Oper) (t : Nat) (plan : List (Nat × Bool)) (Q : Post) (L : Fm) (ds : List Deferred) (H : List (Nat × Obj)) : Prop :=
  TailS ops t → noDefer ops = true → Region.noSelect ops = true → (∀ c σ ds w, ¬ Q (.panic c) σ ds w) → H0.Sublist H → ∀ listed, HeadInv md ops t listed → planB ops t plan listed = true → ∀ b (a : Act), a.tmps.size = N → fr a = lk L b → a.defers = ds →
    wpO P r ops (LQ N Q) w0 H0 t plan.length listed a H
theorem jo_nil {l : List Oper} (hl : ops.toList.drop t = l) (h : JL P r N w0 ops l Q L ds H) : JO P r N w0 H0 ops t [] Q L ds H := fun hT hD hS hP hs listed inv hp b a hsz hf hd => by
  refine ⟨hp, fun w hO => ?_⟩
  rw [hl]; exact h b w hO a hsz hf hd
variable {d : Option Tmp} {op : Op} {ty : TypeId} {p : String} {af : Array Edge} {g : Option (Nat × Bool)} {v : Value} {i : Nat} {plan : List (Nat × Bool)}
theorem jo_take (hi : ops[i]? = some ⟨d, op, ty, p, af, g⟩) (hN : dOk d N = true) (hy : ∀ b (a : Act), a.tmps.size = N → fr a = lk L b → YieldsO P ops w0 H0 ⟨d, op, ty, p, af, g⟩ v a) (k : JO P r N w0 H0 ops t plan Q (pt d v L) ds H) : JO P r N w0 H0 ops t ((i, true) :: plan) Q L ds H :=
  fun hT hD hS hP hs listed inv hp b a hsz hf hd => by
    simp only [planB, Bool.and_eq_true, Nat.blt_eq] at hp
    obtain ⟨⟨⟨h1, h2⟩, h3⟩, h4⟩ := hp
    have hr : i ∈ Region.ready md ops listed := by simpa using h2
    exact wpO_first hT hD hi h1 (Region.noSelect_spec hS) (fun c a w hq => absurd hq.2 (hP _ _ _ _)) plan.length listed a H hs (Region.free_spec hi h3) inv hr (hy b a hsz hf)
      (k hT hD hS hP hs _ (inv.set hr h1) h4 b _ (by rw [size_put]; exact hsz) (fr_pt hN hsz hf) (by rw [defers_put]; exact hd))
theorem o_y (hi : ops[i]? = some ⟨d, op, ty, p, af, g⟩) (hy : Yl P w0 op ty L H0 v) (k : JO P r N w0 H0 ops t plan Q (pt d v L) ds H) (hN : dOk d N = true) (hg : Gd ops L g N true) : JO P r N w0 H0 ops t ((i, true) :: plan) Q L ds H :=
  jo_take hi hN (fun b a hs hf => .inl ⟨gd_u hg hs hf, fun H hsub w hO => by rw [exO_eq, eval_fr', hf]; exact hy.2 H hsub b w hO⟩) k
theorem o_n (hi : ops[i]? = some ⟨d, op, ty, p, af, g⟩) (k : JO P r N w0 H0 ops t plan Q (pt d undef L) ds H) (hN : dOk d N = true) (hg : Nw ops L g N) : JO P r N w0 H0 ops t ((i, true) :: plan) Q L ds H :=
  jo_take hi hN (fun b a hs hf => .inr ⟨nw_wanted hg hs hf, rfl⟩) k
theorem o_e {K : Value → List (Nat × Obj) → Prop} (hi : ops[i]? = some ⟨d, op, ty, p, af, g⟩) (he : Eff P w0 op ty L H K) (k : ∀ v H', K v H' → H0.Sublist H' ∧ JO P r N w0 H0 ops t plan Q (pt d v L) ds H') (hN : dOk d N = true) (hg : Gd ops L g N true) : JO P r N w0 H0 ops t ((i, false) :: plan) Q L ds H :=
  fun hT hD hS hP hs listed inv hp b a hsz hf hd => by
    simp only [planB, Bool.and_eq_true, Nat.blt_eq, beq_iff_eq] at hp
    obtain ⟨⟨h1, h2⟩, h4⟩ := hp
    have hr : i ∈ Region.ready md ops listed := by rw [h2]; simp
    refine ⟨⟨i, hr, h1⟩, fun j hj _ w hO => ?_⟩
    rw [h2] at hj
    obtain rfl : j = i := by simpa using hj
    unfold wpOpIn
    simp only [hi]
    rw [if_pos (gd_u hg hsz hf)]
    refine eff_wpIn hf he hO fun v H' w' hk hO' => ?_
    obtain ⟨k1, k2⟩ := k v H' hk
    exact ⟨H', k1, hO', k2 hT hD hS hP k1 _ (inv.set hr h1) h4 b _ (by rw [size_put]; exact hsz) (fr_pt hN hsz hf) (by rw [defers_put]; exact hd)⟩
/-- a slot's truth is told apart -/
theorem o_if {s : Nat} {u : Bool} (ha : At L s (.bool u)) (ht : u = true → JO P r N w0 H0 ops t plan Q ((s, .bool true) :: L) ds H) (hf : u = false → JO P r N w0 H0 ops t plan Q ((s, .bool false) :: L) ds H) : JO P r N w0 H0 ops t plan Q L ds H :=
  fun hT hD hS hP hs listed inv hp b a hsz hfr hd => by
    have e : ∀ x, u = x → lk ((s, .bool x) :: L) b = lk L b := fun x hx => by
      subst hx
      exact agree_lk (K := [(s, .bool u)]) (L := L) (b := b) ⟨ha, trivial⟩
    cases u
    · exact hf rfl hT hD hS hP hs listed inv hp b a hsz (by rw [e _ rfl]; exact hfr) hd
    · exact ht rfl hT hD hS hP hs listed inv hp b a hsz (by rw [e _ rfl]; exact hfr) hd
theorem o_if_d {s : Nat} {q : Prop} [Decidable q] (ha : At L s (.bool (decide q))) (ht : q → JO P r N w0 H0 ops t plan Q ((s, .bool true) :: L) ds H) (hf : ¬ q → JO P r N w0 H0 ops t plan Q ((s, .bool false) :: L) ds H) : JO P r N w0 H0 ops t plan Q L ds H :=
  o_if ha (fun h => ht (of_decide_eq_true h)) (fun h => hf (of_decide_eq_false h))
theorem o_keep (K : Fm) (hk : Agree K L) (h : JO P r N w0 H0 ops t plan Q K ds H) : JO P r N w0 H0 ops t plan Q L ds H :=
  fun hT hD hS hP hs listed inv hp b a hsz hfr hd => h hT hD hS hP hs listed inv hp (lk L b) a hsz (by rw [agree_lk hk]; exact hfr) hd
/-- a post that no panic meets -/
structure NoPanic (Q : Post) : Prop where
  no : ∀ c σ ds w, ¬ Q (.panic c) σ ds w
theorem np_ret {fn : Func} {K : Value → List (Nat × Obj) → Prop} : NoPanic (retQ P fn w0 K) := ⟨fun _ _ _ _ h => h⟩
theorem np_then {K} (h : NoPanic Q) : NoPanic (thenQ K Q) := ⟨fun c σ ds w => h.no c σ ds w⟩
theorem np_block {id : Nat} (h : NoPanic Q) : NoPanic (blockQ id Q) := ⟨fun c σ ds w => h.no c σ ds w⟩
theorem np_loop {X : Type} {V : X → Fm} {G : X → List (Nat × Obj)} {φ : X → Prop} {μ : X → Nat} {m : Nat} {ds : List Deferred} (h : NoPanic Q) : NoPanic (loopQ w0 V G φ μ m ds Q) := ⟨fun c σ ds w => h.no c σ ds w⟩
theorem np_cut {X : Type} {V : X → Fm} {G : X → List (Nat × Obj)} {φ : X → Prop} {ds : List Deferred} (h : NoPanic Q) : NoPanic (cutQ w0 V G φ ds Q) := ⟨fun c σ ds w => h.no c σ ds w⟩
def anyB (ops : Array Oper) (t : Nat) (plan : List (Nat × Bool)) : Bool := tailB ops t && noDefer ops && Region.noSelect ops && Nat.beq plan.length t && planB ops t plan (Array.replicate ops.size false)
theorem j_any {id : Nat} (t : Nat) (plan : List (Nat × Bool)) (H0 : List (Nat × Obj)) (hm : P.follows .mixedOrders = true) (hb : anyB ops t plan = true) (hs : H0.Sublist H) (h : JO P r N w0 H0 ops t plan Q L ds H) (hP : NoPanic Q := by repeat (first | exact np_ret | exact np_round | exact np_assign | apply np_then | apply np_block | apply np_loop | apply np_cut)) : J P r N w0 (.region id ops true) Q L ds H := fun b w hO a hsz hf hd => by
  simp only [anyB, Bool.and_eq_true] at hb
  obtain ⟨⟨⟨⟨h1, h2⟩, h3⟩, h4⟩, h5⟩ := hb
  obtain ⟨hT, htl⟩ := tailB_spec h1
  have hlen := Nat.eq_of_beq_eq_true h4
  have inv : HeadInv md ops t (Array.replicate ops.size false) := by
    refine ⟨by simp, fun j oj _ hl => (by rw [getD_replicate_false] at hl; cases hl), fun k _ hk => ?_⟩
    simp [hk]
  have h6 := wpAny_of_wpO hT htl plan.length _ a H { w with drawn := w.drawn + 1 } inv hO.drawn (h hT h2 h3 hP.no hs _ inv h5 b a hsz hf hd)
  rw [hlen, show t + (ops.size - t) = ops.size by omega] at h6
  exact wpIn_region_any hm h6
end
end Go.Proofs.Ytdbffighngmibaa
