/-
  Ranges over functions. Over any program.
-/
import Derived.Test.YtdbffighngmibaaLg
namespace Go.Proofs.Ytdbffighngmibaa
open Go.RowKit
set_option linter.unusedVariables false
set_option linter.unusedSimpArgs false
/-- yield, called with args: one round -/
def YSpec (P : Program) (w0 : World) (l : Nat) (args : List Value) (H : List (Nat × Obj)) (K : Value → List (Nat × Obj) → Prop) : Prop :=
  ∀ w, Own w0 H w → ∃ fn tmps assign body, (Instr.yield l args.toArray).run P w = .ok (.round l fn tmps assign body) w ∧
    RoundIn Fence.wide 0 P l fn tmps assign body w fun e w' => ∃ v H', e = .returned v ∧ Own w0 H' w' ∧ K v H'
theorem YSpec.mono {P : Program} {w0 : World} {l : Nat} {args : List Value} {H : List (Nat × Obj)} {K K' : Value → List (Nat × Obj) → Prop} (h : YSpec P w0 l args H K) (hk : ∀ v H', K v H' → K' v H') : YSpec P w0 l args H K' := fun w hO =>
  let ⟨fn, tmps, assign, body, h1, h2⟩ := h w hO
  ⟨fn, tmps, assign, body, h1, h2.mono fun e w' ⟨v, H', a, b, c⟩ => ⟨v, H', a, b, hk _ _ c⟩⟩
/-- an iterator: it hands xs to yield, one after the other; Hc: the memory that it reads; S k H: k have come and H is owned; Sx: yield has said no -/
def IterSpec (P : Program) (w0 : World) (gf : FuncId) (cap : List Value) (Hc : List (Nat × Obj)) {α : Type} (enc : α → List Value) (xs : List α) : Prop :=
  ∀ (l : Nat) (S : Nat → List (Nat × Obj) → Prop) (Sx : List (Nat × Obj) → Prop), (∀ k H, S k H → Hc.Sublist H) →
    (∀ k x H X, xs[k]? = some x → S k H → YSpec P w0 l (enc x) (X ++ H) fun v H' => ∃ H1, H' = X ++ H1 ∧ ((v = .bool true ∧ S (k + 1) H1) ∨ (v = .bool false ∧ Sx H1))) →
    ∀ H, S 0 H → FSpec P w0 gf (.func (.yield l) #[] #[] :: cap).toArray H fun v H' => S xs.length H' ∨ Sx H'
theorem eff_yield {P : Program} {w0 : World} {l : Nat} {L : Fm} {x : Operand} {xs : List Operand} {vs : List Value} {ts : Array TypeId} {ty : TypeId} {H : List (Nat × Obj)} {K : Value → List (Nat × Obj) → Prop} (hx : Ev L x (.func (.yield l) #[] #[])) (ha : Evs L xs vs) (hy : YSpec P w0 l vs H K) :
    Eff P w0 (.call { callee := .value x, args := xs.toArray, argTypes := ts }) ty L H K :=
  ⟨rfl, fun b w hO => by
    have := ha.map b
    obtain ⟨fn, tmps, assign, body, h1, h2⟩ := hy w hO
    have e : (exO (ev (lk L b)) (.call { callee := .value x, args := xs.toArray, argTypes := ts }) ty).run P w = .ok (.round l fn tmps assign body) w := by
      simp [exO, execOp, resolve, invoke, Deferred.ofValue, hx b, this, h1, Sem.run_bind, Result.andThen]
    rw [e]; exact h2⟩
/-- the frame of a round: the parameters set -/
def psL : List Nat → List Value → Fm → Fm
  | p :: ps, v :: vs, L => psL ps vs ((p, v) :: L)
  | _, _, L => L
theorem psL_fr : ∀ (ps : List Nat) (vs : List Value) (tmps : Array Value) (L : Fm) (b : Nat → Value), (∀ p ∈ ps, p < tmps.size) → (fun k => tmps.getD k undef) = lk L b →
    (((ps.zip vs).foldl (fun t (p, v) => t.setIfInBounds p v) tmps).size = tmps.size ∧ (fun k => ((ps.zip vs).foldl (fun t (p, v) => t.setIfInBounds p v) tmps).getD k undef) = lk (psL ps vs L) b)
  | [], vs, tmps, L, b, _, h => ⟨rfl, h⟩
  | p :: ps, [], tmps, L, b, _, h => ⟨rfl, h⟩
  | p :: ps, v :: vs, tmps, L, b, hp, h => by
    simp only [List.zip_cons_cons, List.foldl_cons, psL]
    have h1 := fr_put (a := { tmps := tmps, defers := [] }) (d := p) (v := v) (L := L) (b := b) (hp p (by simp)) h
    have := psL_fr ps vs (tmps.setIfInBounds p v) ((p, v) :: L) b (fun q hq => by simpa using hp q (by simp [hq])) h1
    exact ⟨by rw [this.1]; simp, this.2⟩
/-- the loop's record, by its state and its pending jump -/
structure LrOk (lr : LoopState → Option Code → Loop) : Prop where
  state : ∀ s p, (lr s p).state = s
  busy : ∀ s p s', { lr s p with state := s' } = lr s' p
  jump : ∀ s p s' p', { lr s p with state := s', pending := p' } = lr s' p'
  pend : ∀ s p, (lr s p).pending = p
def roundQ (w0 : World) {Z : Type} (G : Z → List (Nat × Obj)) (φ : Z → Prop) (φr : Z → Prop) (φe : Nat → Z → Prop) : Post
  | .normal, _, _, w => ∃ z, φ z ∧ Own w0 (G z) w
  | .ret, _, _, w => ∃ z, φr z ∧ Own w0 (G z) w
  | .exit id, _, _, w => ∃ z, φe id z ∧ Own w0 (G z) w
  | _, _, _, _ => False
def assignQ (P : Program) (l : Nat) (N : Nat) (body : Code) (Q : Post) : Post
  | .normal, σ, ds, w => ∃ w2, (Instr.beginRound l).run P w = .ok () w2 ∧ swp P (some l) N body Q σ ds w2
  | _, _, _, _ => False
section
variable {P : Program} {N : Nat} {w0 : World} {Q : Post} {L : Fm} {ds : List Deferred} {H : List (Nat × Obj)}
theorem q_begin {l : Nat} {lr : LoopState → Option Code → Loop} {body : Code} {H' : List (Nat × Obj)} (hl : LrOk lr) (k : J P (some l) N w0 body Q L ds H') (hu : Upd H l (.loop (lr .ready none)) (.loop (lr .busy none)) H' := by (repeat (first | exact Upd.h | apply Upd.t | apply upd_a)); done) :
    JQ w0 (assignQ P l N body Q) .normal L ds H := fun b w hO => by
  have h1 := run_beginRound (P := P) (hO.has _ hu.mem) (hl.state _ _)
  rw [hl.busy] at h1
  exact ⟨_, h1, k b _ (hO.put hu)⟩
theorem q_round {Z : Type} {G : Z → List (Nat × Obj)} {φ : Z → Prop} {φr : Z → Prop} {φe : Nat → Z → Prop} (z : Z) (h : φ z) (hs : (G z).Sublist H) : JQ w0 (roundQ w0 G φ φr φe) .normal L ds H := fun b w hO => ⟨z, h, hO.sub hs⟩
theorem q_round_ret {Z : Type} {G : Z → List (Nat × Obj)} {φ : Z → Prop} {φr : Z → Prop} {φe : Nat → Z → Prop} (z : Z) (h : φr z) (hs : (G z).Sublist H) : JQ w0 (roundQ w0 G φ φr φe) .ret L ds H := fun b w hO => ⟨z, h, hO.sub hs⟩
theorem q_round_exit {Z : Type} {G : Z → List (Nat × Obj)} {φ : Z → Prop} {φr : Z → Prop} {φe : Nat → Z → Prop} {id : Nat} (z : Z) (h : φe id z) (hs : (G z).Sublist H) : JQ w0 (roundQ w0 G φ φr φe) (.exit id) L ds H := fun b w hO => ⟨z, h, hO.sub hs⟩
theorem np_round {Z : Type} {G : Z → List (Nat × Obj)} {φ : Z → Prop} {φr : Z → Prop} {φe : Nat → Z → Prop} : NoPanic (roundQ w0 G φ φr φe) := ⟨fun _ _ _ _ h => h⟩
theorem np_assign {l : Nat} {body : Code} : NoPanic (assignQ P l N body Q) := ⟨fun _ _ _ _ h => h⟩
/-- one round, out of its walk -/
theorem round_spec {Z : Type} {l f : Nat} {lr : LoopState → Option Code → Loop} {assign body : Code} {tmps : Array Value} {X Y : List (Nat × Obj)} {G : Z → List (Nat × Obj)} {φ : Z → Prop} {φr : Z → Prop} {φe : Nat → Z → Prop} (hl : LrOk lr)
    {b : Nat → Value} (ht : (fun k => tmps.getD k undef) = lk L b) (hN : tmps.size = N)
    (h : J P (some l) N w0 assign (assignQ P l N body (roundQ w0 (fun z => X ++ ((l, .loop (lr .busy none)) :: (Y ++ G z))) φ φr φe)) L [] H) {w : World} (hO : Own w0 H w) :
    RoundIn Fence.wide 0 P l f tmps assign body w fun e w' => ∃ v H', e = .returned v ∧ Own w0 H' w' ∧
      ((v = .bool true ∧ ∃ z, φ z ∧ H' = X ++ ((l, .loop (lr .ready none)) :: (Y ++ G z))) ∨
       (v = .bool false ∧ ∃ z, (φr z ∧ H' = X ++ ((l, .loop (lr .done (some .ret))) :: (Y ++ G z))) ∨ ∃ id, φe id z ∧ H' = X ++ ((l, .loop (lr .done (some (.exit id)))) :: (Y ++ G z)))) := by
  refine roundIn_of_wpIn trivial ?_
  refine wpIn_mono (h b w hO { tmps := tmps, defers := [] } hN ht rfl) ?_
  intro e a w1 hq
  obtain ⟨hs, hq⟩ := hq
  cases e <;> first | exact hq.elim | skip
  obtain ⟨w2, hb, hbody⟩ := hq
  refine ⟨w2, hb, wpIn_mono (hbody a hs rfl rfl) ?_⟩
  intro e a2 w3 hq
  obtain ⟨hs2, hq⟩ := hq
  have fin : ∀ (jump : Option Code) (z : Z), Own w0 (X ++ ((l, .loop (lr .busy none)) :: (Y ++ G z))) w3 →
      (Instr.endRound l jump).run P w3 = .ok (.bool jump.isNone) (w3.putObj l (.loop (lr (if jump.isNone then .ready else .done) jump))) ∧
      Own w0 (X ++ ((l, .loop (lr (if jump.isNone then .ready else .done) jump)) :: (Y ++ G z))) (w3.putObj l (.loop (lr (if jump.isNone then .ready else .done) jump))) := fun jump z hO3 => by
    have hh : w3.heap[l]? = some (.loop (lr .busy none)) := hO3.has (l, _) (by simp)
    have h1 := run_endRound (P := P) jump hh
    rw [hl.jump] at h1
    exact ⟨h1, hO3.put upd_mid⟩
  cases e with
  | normal =>
    obtain ⟨z, hz, hO3⟩ := hq
    obtain ⟨h1, h2⟩ := fin none z hO3
    exact ⟨_, _, h1, _, _, rfl, h2, .inl ⟨rfl, z, hz, rfl⟩⟩
  | ret =>
    obtain ⟨z, hz, hO3⟩ := hq
    obtain ⟨h1, h2⟩ := fin (some .ret) z hO3
    exact ⟨_, _, h1, _, _, rfl, h2, .inr ⟨rfl, z, .inl ⟨hz, rfl⟩⟩⟩
  | exit id =>
    obtain ⟨z, hz, hO3⟩ := hq
    obtain ⟨h1, h2⟩ := fin (some (.exit id)) z hO3
    exact ⟨_, _, h1, _, _, rfl, h2, .inr ⟨rfl, z, .inr ⟨id, hz, rfl⟩⟩⟩
  | goto t => exact hq.elim
  | panic ch => exact hq.elim
  | outgrown => exact hq.elim
/-- the statement 'for .. := range g', in a plain frame -/
theorem j_range {α Z : Type} {g : Operand} {ps : List Nat} {assign body : Code} {gf : FuncId} {cap : List Value} {Hc : List (Nat × Obj)} {enc : α → List Value} {xs : List α}
    (hg : Ev L g (.func (.func gf) #[] cap.toArray)) (hc : ∀ args w, (callFunc gf args).run P w = .ok (.enter gf args) w) (it : IterSpec P w0 gf cap Hc enc xs) (hps : ∀ x, (enc x).length = ps.length) (hpN : (ps.all fun p => Nat.blt p N) = true)
    (G : Z → List (Nat × Obj)) (φ : Nat → Z → Prop) (φr : Z → Prop) (φe : Nat → Z → Prop) (z0 : Z) (h0 : φ 0 z0) (hG : (G z0).Sublist H) (hHc : ∀ z, Hc.Sublist (G z))
    (round : ∀ (l : Nat) (lr : LoopState → Option Code → Loop) (Y X : List (Nat × Obj)) (k : Nat) (x : α) (z : Z), LrOk lr → xs[k]? = some x → φ k z →
      J P (some l) N w0 assign (assignQ P l N body (roundQ w0 (fun z => X ++ ((l, .loop (lr .busy none)) :: (Y ++ G z))) (φ (k + 1)) φr φe)) (psL ps (enc x) L) [] (X ++ ((l, .loop (lr .ready none)) :: (Y ++ G z))))
    (done : ∀ D z, φ xs.length z → JQ w0 Q .normal L ({ target := .collected D, args := #[] } :: ds) ((D, .deferred (some [])) :: G z))
    (stopR : ∀ D z, φr z → JQ w0 Q .ret L ({ target := .collected D, args := #[] } :: ds) ((D, .deferred (some [])) :: G z))
    (stopE : ∀ id D z, φe id z → JQ w0 Q (.exit id) L ({ target := .collected D, args := #[] } :: ds) ((D, .deferred (some [])) :: G z)) :
    J P none N w0 (.rangeFunc g ps.toArray assign body) Q L ds H := fun b w hO a hsz hf hd => by
  refine wpIn_rangeFunc ?_
  intro fn _
  have hO' := hO.sub hG
  obtain ⟨lr, hlr⟩ : ∃ lr : LoopState → Option Code → Loop, lr = fun st pe => { state := st, pending := pe, fn, tmps := a.tmps, params := ps.toArray, assign, body, defers := w.heap.size } := ⟨_, rfl⟩
  have hl : LrOk lr := by subst hlr; exact ⟨fun _ _ => rfl, fun _ _ _ => rfl, fun _ _ _ _ => rfl, fun _ _ => rfl⟩
  have hO1 := (hO'.alloc (.deferred (some []))).alloc (.loop (lr .ready none))
  rw [World.size_alloc] at hO1
  obtain ⟨D, hDw⟩ : ∃ D, D = w.heap.size := ⟨_, rfl⟩
  obtain ⟨l, hlw⟩ : ∃ l, l = w.heap.size + 1 := ⟨_, rfl⟩
  rw [← hlw, ← hDw] at hO1
  have hcond := it l (fun k H => ∃ z, φ k z ∧ H = (l, .loop (lr .ready none)) :: ([(D, .deferred (some []))] ++ G z))
    (fun H => ∃ z, (φr z ∧ H = (l, .loop (lr .done (some .ret))) :: ([(D, .deferred (some []))] ++ G z)) ∨ ∃ id, φe id z ∧ H = (l, .loop (lr .done (some (.exit id)))) :: ([(D, .deferred (some []))] ++ G z))
    (fun k H ⟨z, _, hH⟩ => by rw [hH]; exact ((hHc z).cons _).cons _)
    (fun k x H X hx ⟨z, hz, hH⟩ w hOw => by
      rw [hH] at hOw
      have hh : w.heap[l]? = some (.loop (lr .ready none)) := hOw.has (l, _) (by simp)
      have hy := run_yield (P := P) (args := (enc x).toArray) hh (by rw [hlr]; simpa using hps x)
      have htm : a.tmps.size = N := hsz
      have hp := psL_fr ps (enc x) a.tmps L b (fun p hp => by have := List.all_eq_true.1 hpN p hp; rw [htm]; simpa [Nat.blt_eq] using this) hf
      refine ⟨_, _, _, _, hy, ?_⟩
      have h1 := round_spec (P := P) (f := (lr .ready none).fn) (tmps := (ps.zip (enc x)).foldl (fun t (p, v) => t.setIfInBounds p v) a.tmps) (X := X) (Y := [(D, .deferred (some []))]) (G := G) (φ := φ (k + 1)) (φr := φr) (φe := φe) hl hp.2 (by rw [hp.1]; exact htm) (round l lr [(D, .deferred (some []))] X k x z hl hx hz) hOw
      have e1 : (lr .ready none).assign = assign := by rw [hlr]
      have e2 : (lr .ready none).body = body := by rw [hlr]
      have e3 : ((lr .ready none).params.zip (enc x).toArray).foldl (fun tmps (p : Tmp × Value) => tmps.setIfInBounds p.1 p.2) (lr .ready none).tmps = (ps.zip (enc x)).foldl (fun t (p, v) => t.setIfInBounds p v) a.tmps := by rw [hlr]; simp
      rw [e1, e2]
      refine RoundIn.mono (by rw [← e3] at h1; exact h1) ?_
      rintro e w' ⟨v, H', he, hO2, hcs⟩
      refine ⟨v, H', he, hO2, ?_⟩
      rcases hcs with ⟨hv, z', hz', hH'⟩ | ⟨hv, z', hcs⟩
      · exact ⟨_, hH', .inl ⟨hv, z', hz', rfl⟩⟩
      · rcases hcs with ⟨hz', hH'⟩ | ⟨id, hz', hH'⟩
        · exact ⟨_, hH', .inr ⟨hv, z', .inl ⟨hz', rfl⟩⟩⟩
        · exact ⟨_, hH', .inr ⟨hv, z', .inr ⟨id, hz', rfl⟩⟩⟩)
    ((l, .loop (lr .ready none)) :: ([(D, .deferred (some []))] ++ G z0)) ⟨z0, h0, rfl⟩
  refine ⟨l, [{ target := .collected D, args := #[] }], (w.alloc (.deferred (some []))).alloc (.loop (lr .ready none)), { target := .fn (.func gf) cap.toArray, args := #[.func (.yield l) #[] #[]] }, (w.alloc (.deferred (some []))).alloc (.loop (lr .ready none)), gf, (.func (.yield l) #[] #[] :: cap).toArray, (w.alloc (.deferred (some []))).alloc (.loop (lr .ready none)), ?enter, ?res, fun f' _ => trivial, ?inv, rd_hn none, callsIn_rd (r := none) ?call⟩
  case call =>
    refine (hcond _ hO1).mono ?_
    rintro e w3 ⟨v, H', he, hO3, hcs⟩
    subst he
    have fin : ∀ (s : LoopState) (p : Option Code) (z : Z), s ≠ .busy → Own w0 ((l, .loop (lr s p)) :: ([(D, .deferred (some []))] ++ G z)) w3 → (Instr.endLoop l).run P w3 = .ok p (w3.putObj l (.loop { lr s p with state := .exhausted })) ∧ Own w0 ((D, .deferred (some [])) :: G z) (w3.putObj l (.loop { lr s p with state := .exhausted })) := fun s p z hne hO3 => by
      have hh : w3.heap[l]? = some (.loop (lr s p)) := hO3.has (l, _) (by simp)
      have h1 := run_endLoop (P := P) hh (by rw [hl.state]; exact hne)
      exact ⟨h1.trans (congrArg (fun q => Result.ok q _) (hl.pend s p)), (hO3.put .h).tail⟩
    have key : ∀ e z, (∀ w, Own w0 ((D, .deferred (some [])) :: G z) w → Q e (lk L b) ({ target := .collected D, args := #[] } :: ds) w) → ∀ w, Own w0 ((D, .deferred (some [])) :: G z) w → LQ N Q e { a with defers := [{ target := .collected D, args := #[] }] ++ a.defers } w := fun e z h w hOw => ⟨hsz, by
      have := h w hOw
      have hf' : fr { a with defers := [{ target := .collected D, args := #[] }] ++ a.defers } = lk L b := hf
      rw [hf']
      simp only [List.cons_append, List.nil_append, hd]
      exact this⟩
    rcases hcs with ⟨z, hz, hH'⟩ | ⟨z, hcs⟩
    · rw [hH'] at hO3
      obtain ⟨h1, h2⟩ := fin _ _ z (by simp) hO3
      exact ⟨none, _, h1, key .normal z (fun w hw => done D z hz b w hw) _ h2⟩
    · rcases hcs with ⟨hz, hH'⟩ | ⟨id, hz, hH'⟩
      · rw [hH'] at hO3
        obtain ⟨h1, h2⟩ := fin _ _ z (by simp) hO3
        exact ⟨some .ret, _, h1, wpIn_ret (key .ret z (fun w hw => stopR D z hz b w hw) _ h2)⟩
      · rw [hH'] at hO3
        obtain ⟨h1, h2⟩ := fin _ _ z (by simp) hO3
        exact ⟨some (.exit id), _, h1, wpIn_exit (key (.exit id) z (fun w hw => stopE id D z hz b w hw) _ h2)⟩
  case enter =>
    have := run_enterLoop_outer (P := P) (w := w) fn a.tmps ps.toArray assign body
    rw [hlr, hlw, hDw]
    exact this
  case res =>
    have hgb := hg b
    rw [← hf, ← eval_fr] at hgb
    have e : resolve a.eval (rangeCall g l) 0 = Deferred.ofValue (a.eval g) #[.func (.yield l) #[] #[]] := by
      unfold resolve
      simp only [List.map_toArray, List.map_cons, List.map_nil]
      rfl
    rw [e]
    rw [hgb]
    simp [Deferred.ofValue]
  case inv => simp [invoke, hc]
/-- the way out past the mark of a range over a function -/
theorem q_mark_ret {fn : Func} {K : Value → List (Nat × Obj) → Prop} {D : Nat} {H' : List (Nat × Obj)} (k : JQ w0 (retQ P fn w0 K) .ret L ds H') (hu : Upd H D (.deferred (some [])) (.deferred none) H' := by (repeat (first | exact Upd.h | apply Upd.t | apply upd_a)); done) :
    JQ w0 (retQ P fn w0 K) .ret L ({ target := .collected D, args := #[] } :: ds) H := fun b w hO => ⟨D, _, rfl, run_takeDeferred (hO.has _ hu.mem), k b _ (hO.put hu)⟩
theorem q_mark_end {fn : Func} {K : Value → List (Nat × Obj) → Prop} {D : Nat} {H' : List (Nat × Obj)} (k : JQ w0 (retQ P fn w0 K) .normal L ds H') (hu : Upd H D (.deferred (some [])) (.deferred none) H' := by (repeat (first | exact Upd.h | apply Upd.t | apply upd_a)); done) :
    JQ w0 (retQ P fn w0 K) .normal L ({ target := .collected D, args := #[] } :: ds) H := fun b w hO => ⟨D, _, rfl, run_takeDeferred (hO.has _ hu.mem), k b _ (hO.put hu)⟩
end
end Go.Proofs.Ytdbffighngmibaa
