/-
  Operations: what they yield, what they do; the rules for lists of operations. Over any program.
-/
import Derived.Test.YtdbffighngmibaaLb
namespace Go.Proofs.Ytdbffighngmibaa
open Go.RowKit
set_option linter.unusedVariables false
theorem callsIn_rd {P : Program} {r : Option Nat} {n : Nat} {f : FuncId} {args : Array Value} {w : World} {R : Ending → World → Prop} (h : Calls P f args w R) : CallsIn (rd r) n P f args w R := by
  cases r with
  | none => exact callsIn_wide.2 h
  | some l => exact callsIn_wide.2 h
def exO (ρ : Operand → Value) (op : Op) (ty : TypeId) : Sem Next := execOp ρ ⟨none, op, ty, "", #[], none⟩
theorem exO_eq (ρ : Operand → Value) (d : Option Tmp) (op : Op) (ty : TypeId) (p : String) (af : Array Edge) (g : Option (Nat × Bool)) : execOp ρ ⟨d, op, ty, p, af, g⟩ = exO ρ op ty := rfl
def Op.isDefer : Op → Bool
  | .defer _ => true
  | _ => false
theorem semAt_rd (r : Option Nat) (ρ : Operand → Value) {d : Option Tmp} {op : Op} {ty : TypeId} {p : String} {af : Array Edge} {g : Option (Nat × Bool)} (h : Op.isDefer op = false) :
    Oper.semAt (rd r).round ρ ⟨d, op, ty, p, af, g⟩ = exO ρ op ty :=
  Oper.semAt_eq _ _ _ (fun c hc => by simp only at hc; rw [hc] at h; cases h)
/-- a function: called where H is owned, it returns some v, and some H' is owned, of which K speaks -/
def FSpec (P : Program) (w0 : World) (f : FuncId) (args : Array Value) (H : List (Nat × Obj)) (K : Value → List (Nat × Obj) → Prop) : Prop :=
  ∀ w, Own w0 H w → Calls P f args w fun e w' => ∃ v H', e = .returned v ∧ Own w0 H' w' ∧ K v H'
theorem FSpec.mono {P : Program} {w0 : World} {f : FuncId} {args : Array Value} {H : List (Nat × Obj)} {K K' : Value → List (Nat × Obj) → Prop} (h : FSpec P w0 f args H K) (hk : ∀ v H', K v H' → K' v H') : FSpec P w0 f args H K' :=
  fun w hO => (h w hO).mono fun e w' ⟨v, H', he, hO', hK⟩ => ⟨v, H', he, hO', hk v H' hK⟩
/-- it returns v, and leaves what is owned -/
abbrev Still (v : Value) (H : List (Nat × Obj)) : Value → List (Nat × Obj) → Prop := fun v' H' => v' = v ∧ H' = H
/-- an operation: what it does -/
def effO (P : Program) (w0 : World) (K : Value → List (Nat × Obj) → Prop) : Result Next → Prop
  | .ok (.value v) w' => ∃ H', Own w0 H' w' ∧ K v H'
  | .ok .skip w' => ∃ H', Own w0 H' w' ∧ K undef H'
  | .ok (.enter f args) w' => Calls P f args w' fun e w'' => ∃ v H', e = .returned v ∧ Own w0 H' w'' ∧ K v H'
  | .ok (.round l f tmps assign body) w' => RoundIn Fence.wide 0 P l f tmps assign body w' fun e w'' => ∃ v H', e = .returned v ∧ Own w0 H' w'' ∧ K v H'
  | _ => False
theorem roundIn_rd {P : Program} {r : Option Nat} {n : Nat} {l f : Nat} {tmps : Array Value} {assign body : Code} {w : World} {R : Ending → World → Prop} (h : RoundIn Fence.wide n P l f tmps assign body w R) : RoundIn (rd r) n P l f tmps assign body w R := by
  cases r <;> exact h
def Eff (P : Program) (w0 : World) (op : Op) (ty : TypeId) (L : Fm) (H : List (Nat × Obj)) (K : Value → List (Nat × Obj) → Prop) : Prop :=
  Op.isDefer op = false ∧ ∀ b w, Own w0 H w → effO P w0 K ((exO (ev (lk L b)) op ty).run P w)
/-- an operation that yields v and leaves what is owned, whatever else is owned -/
def Yl (P : Program) (w0 : World) (op : Op) (ty : TypeId) (L : Fm) (H : List (Nat × Obj)) (v : Value) : Prop :=
  Op.isDefer op = false ∧ ∀ H', H.Sublist H' → ∀ b w, Own w0 H' w → effO P w0 (Still v H') ((exO (ev (lk L b)) op ty).run P w)
theorem Yl.eff {P : Program} {w0 : World} {op : Op} {ty : TypeId} {L : Fm} {H : List (Nat × Obj)} {v : Value} (h : Yl P w0 op ty L H v) : Eff P w0 op ty L H (Still v H) :=
  ⟨h.1, fun b w hO => h.2 H (List.Sublist.refl _) b w hO⟩
theorem T {L : Fm} {k : Nat} {v : Value} (h : fnd? L k = some v) : Ev L (.tmp k) v := at_f h
/-- a guard: the operation is wanted (t), or not -/
def Gd (ops : Array Oper) (L : Fm) (g : Option (Nat × Bool)) (N : Nat) (t : Bool) : Prop :=
  match g with
  | none => t = true
  | some (j, want) => ∃ s v, (ops[j]?).bind (·.dst) = some s ∧ s < N ∧ At L s (.bool v) ∧ t = (v == want)
theorem gd_n {ops : Array Oper} {L : Fm} {N : Nat} : Gd ops L none N true := rfl
theorem gd_y {ops : Array Oper} {L : Fm} {N j s : Nat} {v : Bool} (hs : (ops[j]?).bind (·.dst) = some s) (hN : Nat.blt s N = true) (ha : At L s (.bool v)) : Gd ops L (some (j, v)) N true := ⟨s, v, hs, by simpa [Nat.blt_eq] using hN, ha, by simp⟩
theorem gd_tf {ops : Array Oper} {L : Fm} {N j s : Nat} (hs : (ops[j]?).bind (·.dst) = some s) (hN : Nat.blt s N = true) (ha : At L s (.bool true)) : Gd ops L (some (j, false)) N false := ⟨s, true, hs, by simpa [Nat.blt_eq] using hN, ha, rfl⟩
theorem gd_ft {ops : Array Oper} {L : Fm} {N j s : Nat} (hs : (ops[j]?).bind (·.dst) = some s) (hN : Nat.blt s N = true) (ha : At L s (.bool false)) : Gd ops L (some (j, true)) N false := ⟨s, false, hs, by simpa [Nat.blt_eq] using hN, ha, rfl⟩
/-- an operation not wanted leaves undef -/
theorem gd_u {ops : Array Oper} {L : Fm} {g : Option (Nat × Bool)} {N : Nat} {t : Bool} (h : Gd ops L g N t) {a : Act} {b : Nat → Value} (hs : a.tmps.size = N) (hf : fr a = lk L b) {d : Option Tmp} {op : Op} {ty : TypeId} {p : String} {af : Array Edge} :
    Region.wanted ⟨d, op, ty, p, af, g⟩ (yielded ops a.tmps) = t := by
  unfold Region.wanted
  cases g with
  | none => exact h.symm
  | some g =>
    obtain ⟨j, want⟩ := g
    obtain ⟨s, v, h1, h2, h3, h4⟩ := h
    have h5 : a.tmps[s]? = some (.bool v) := by
      have := (congrFun hf s).trans (h3 b)
      unfold fr at this
      have hlt : s < a.tmps.size := by rw [hs]; exact h2
      simp [Array.getD_eq_getD_getElem?, hlt] at this
      simp [hlt, this]
    simp only [yielded, h1, Option.bind_some, h5, h4]
    rfl
/-- a guard on an operation that was not wanted itself (its slot holds undef) -/
def Gu (ops : Array Oper) (L : Fm) (g : Option (Nat × Bool)) (N : Nat) : Prop := ∃ j want s, g = some (j, want) ∧ (ops[j]?).bind (·.dst) = some s ∧ s < N ∧ At L s undef
theorem gu_u {ops : Array Oper} {L : Fm} {g : Option (Nat × Bool)} {N : Nat} (h : Gu ops L g N) {a : Act} {b : Nat → Value} (hs : a.tmps.size = N) (hf : fr a = lk L b) {d : Option Tmp} {op : Op} {ty : TypeId} {p : String} {af : Array Edge} :
    Region.wanted ⟨d, op, ty, p, af, g⟩ (yielded ops a.tmps) = false := by
  obtain ⟨j, want, s, rfl, h1, h2, h3⟩ := h
  have h5 : a.tmps[s]? = some undef := by
    have := (congrFun hf s).trans (h3 b)
    unfold fr at this
    have hlt : s < a.tmps.size := by rw [hs]; exact h2
    simp [Array.getD_eq_getD_getElem?, hlt] at this
    simp [hlt, this]
  simp only [Region.wanted, yielded, h1, Option.bind_some, h5]
  rfl
def Nw (ops : Array Oper) (L : Fm) (g : Option (Nat × Bool)) (N : Nat) : Prop := Gd ops L g N false ∨ Gu ops L g N
theorem nw_tf {ops : Array Oper} {L : Fm} {N j s : Nat} (hs : (ops[j]?).bind (·.dst) = some s) (hN : Nat.blt s N = true) (ha : At L s (.bool true)) : Nw ops L (some (j, false)) N := .inl (gd_tf hs hN ha)
theorem nw_ft {ops : Array Oper} {L : Fm} {N j s : Nat} (hs : (ops[j]?).bind (·.dst) = some s) (hN : Nat.blt s N = true) (ha : At L s (.bool false)) : Nw ops L (some (j, true)) N := .inl (gd_ft hs hN ha)
theorem nw_u {ops : Array Oper} {L : Fm} {N j s : Nat} {want : Bool} (hs : (ops[j]?).bind (·.dst) = some s) (hN : Nat.blt s N = true) (ha : At L s undef) : Nw ops L (some (j, want)) N := .inr ⟨j, want, s, rfl, hs, by simpa [Nat.blt_eq] using hN, ha⟩
theorem nw_wanted {ops : Array Oper} {L : Fm} {g : Option (Nat × Bool)} {N : Nat} (h : Nw ops L g N) {a : Act} {b : Nat → Value} (hs : a.tmps.size = N) (hf : fr a = lk L b) {d : Option Tmp} {op : Op} {ty : TypeId} {p : String} {af : Array Edge} :
    Region.wanted ⟨d, op, ty, p, af, g⟩ (yielded ops a.tmps) = false := h.elim (fun h => gd_u h hs hf) (fun h => gu_u h hs hf)
/-- the frame behind an operation -/
def pt (d : Option Tmp) (v : Value) (L : Fm) : Fm := match d with | some d => (d, v) :: L | none => L
def dOk (d : Option Tmp) (N : Nat) : Bool := match d with | some d => Nat.blt d N | none => true
theorem fr_pt {a : Act} {d : Option Tmp} {v : Value} {L : Fm} {b : Nat → Value} {N : Nat} (hd : dOk d N = true) (hs : a.tmps.size = N) (h : fr a = lk L b) : fr (a.put d v) = lk (pt d v L) b := by
  cases d with
  | none => exact h
  | some d => exact fr_put (by rw [hs]; simpa [dOk, Nat.blt_eq] using hd) h
section
variable {P : Program} {r : Option Nat} {N : Nat} {w0 : World} {Q : Post} {L : Fm} {ds : List Deferred} {H : List (Nat × Obj)} {ops : Array Oper} {l : List Oper} {d : Option Tmp} {op : Op} {ty : TypeId} {p : String} {af : Array Edge} {g : Option (Nat × Bool)} {K : Value → List (Nat × Obj) → Prop} {v : Value}
/-- one operation, in the calculus's own words -/
theorem eff_wpIn {Q' : Exit → Act → World → Prop} {next : Act → World → Prop} {a : Act} {b : Nat → Value} {w : World} (hf : fr a = lk L b) (he : Eff P w0 op ty L H K) (hO : Own w0 H w)
    (k : ∀ v H' w', K v H' → Own w0 H' w' → next (a.put d v) w') : Oper.wpIn (rd r) 0 P ⟨d, op, ty, p, af, g⟩ a w next Q' := by
  refine ⟨fun f _ => rd_fn r f, ?_⟩
  rw [semAt_rd r _ he.1, eval_fr', hf]
  have h := he.2 b w hO
  generalize (exO (ev (lk L b)) op ty).run P w = res at h
  cases res with
  | ok n w' =>
    cases n <;> simp only [effO] at h <;> simp only [Oper.uponIn]
    case value v => obtain ⟨H', h1, h2⟩ := h; exact k v H' w' h2 h1
    case skip => obtain ⟨H', h1, h2⟩ := h; exact k undef H' w' h2 h1
    case enter f args =>
      refine ⟨rd_hn r, callsIn_rd (h.mono fun e w'' ⟨v, H', he', h1, h2⟩ => ?_)⟩
      subst he'
      exact k v H' w'' h2 h1
    case round l f tmps assign body =>
      refine ⟨rd_hn r, roundIn_rd (h.mono fun e w'' ⟨v, H', he', h1, h2⟩ => ?_)⟩
      subst he'
      exact k v H' w'' h2 h1
  | halt x w' => simp only [effO] at h
theorem jl_e (he : Eff P w0 op ty L H K) (hN : dOk d N = true) (hg : Gd ops L g N true) (k : ∀ v H', K v H' → JL P r N w0 ops l Q (pt d v L) ds H') : JL P r N w0 ops (⟨d, op, ty, p, af, g⟩ :: l) Q L ds H := fun b w hO a hs hf hd => by
  unfold wpListIn
  rw [if_pos (gd_u hg hs hf)]
  refine eff_wpIn hf he hO fun v H' w' hk hO' => ?_
  exact k v H' hk b w' hO' _ (by rw [size_put]; exact hs) (fr_pt hN hs hf) (by rw [defers_put]; exact hd)
theorem jl_y (hy : Yl P w0 op ty L H v) (hN : dOk d N = true) (hg : Gd ops L g N true) (k : JL P r N w0 ops l Q (pt d v L) ds H) : JL P r N w0 ops (⟨d, op, ty, p, af, g⟩ :: l) Q L ds H :=
  jl_e hy.eff hN hg (by rintro _ _ ⟨rfl, rfl⟩; exact k)
theorem y_ (hy : Yl P w0 op ty L H v) (k : JL P r N w0 ops l Q (pt d v L) ds H) (hN : dOk d N = true) : JL P r N w0 ops (⟨d, op, ty, p, af, none⟩ :: l) Q L ds H := jl_y hy hN gd_n k
theorem e_ (he : Eff P w0 op ty L H K) (k : ∀ v H', K v H' → JL P r N w0 ops l Q (pt d v L) ds H') (hN : dOk d N = true) : JL P r N w0 ops (⟨d, op, ty, p, af, none⟩ :: l) Q L ds H := jl_e he hN gd_n k
theorem jl_n (hN : dOk d N = true) (hg : Nw ops L g N) (k : JL P r N w0 ops l Q (pt d undef L) ds H) : JL P r N w0 ops (⟨d, op, ty, p, af, g⟩ :: l) Q L ds H := fun b w hO a hs hf hd => by
  unfold wpListIn
  rw [if_neg (by rw [nw_wanted hg hs hf]; simp)]
  exact ⟨fun f _ => rd_fn r f, k b w hO _ (by rw [size_put]; exact hs) (fr_pt hN hs hf) (by rw [defers_put]; exact hd)⟩
theorem n_tf {j s : Nat} (k : JL P r N w0 ops l Q (pt d undef L) ds H) (hN : dOk d N = true) (hs : (ops[j]?).bind (·.dst) = some s) (h2 : Nat.blt s N = true) (ha : fnd? L s = some (.bool true)) : JL P r N w0 ops (⟨d, op, ty, p, af, some (j, false)⟩ :: l) Q L ds H := jl_n hN (nw_tf hs h2 (at_f ha)) k
theorem n_ft {j s : Nat} (k : JL P r N w0 ops l Q (pt d undef L) ds H) (hN : dOk d N = true) (hs : (ops[j]?).bind (·.dst) = some s) (h2 : Nat.blt s N = true) (ha : fnd? L s = some (.bool false)) : JL P r N w0 ops (⟨d, op, ty, p, af, some (j, true)⟩ :: l) Q L ds H := jl_n hN (nw_ft hs h2 (at_f ha)) k
theorem n_u {j s : Nat} {want : Bool} (k : JL P r N w0 ops l Q (pt d undef L) ds H) (hN : dOk d N = true) (hs : (ops[j]?).bind (·.dst) = some s) (h2 : Nat.blt s N = true) (ha : fnd? L s = some undef) : JL P r N w0 ops (⟨d, op, ty, p, af, some (j, want)⟩ :: l) Q L ds H := jl_n hN (nw_u hs h2 (at_f ha)) k
/-- a slot's truth is told apart -/
theorem jl_if {s : Nat} {t : Bool} (ha : At L s (.bool t)) (ht : t = true → JL P r N w0 ops l Q ((s, .bool true) :: L) ds H) (hf : t = false → JL P r N w0 ops l Q ((s, .bool false) :: L) ds H) : JL P r N w0 ops l Q L ds H := fun b w hO => by
  have e : ∀ u, t = u → lk ((s, .bool u) :: L) b = lk L b := fun u hu => by
    subst hu
    exact agree_lk (K := [(s, .bool t)]) (L := L) (b := b) ⟨ha, trivial⟩
  cases t
  · have := hf rfl b w hO; rw [e _ rfl] at this; exact this
  · have := ht rfl b w hO; rw [e _ rfl] at this; exact this
theorem jl_if_d {s : Nat} {p : Prop} [Decidable p] (ha : At L s (.bool (decide p))) (ht : p → JL P r N w0 ops l Q ((s, .bool true) :: L) ds H) (hf : ¬ p → JL P r N w0 ops l Q ((s, .bool false) :: L) ds H) : JL P r N w0 ops l Q L ds H :=
  jl_if ha (fun h => ht (of_decide_eq_true h)) (fun h => hf (of_decide_eq_false h))
end
end Go.Proofs.Ytdbffighngmibaa
