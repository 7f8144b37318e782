/-
  Ranges over maps, and over iterators that choose their order. Over any program.
-/
import Derived.Test.YtdbffighngmibaaLm
namespace Go.Proofs.Ytdbffighngmibaa
open Go.RowKit
set_option linter.unusedVariables false
set_option linter.unusedSimpArgs false
/-- an iterator that chooses its order: St k x: x may come behind k; En k: these are all -/
def IterSpecD (P : Program) (w0 : World) (gf : FuncId) (cap : List Value) (Hc : List (Nat × Obj)) {α : Type} (enc : α → List Value) (St : List α → α → Prop) (En : List α → Prop) : Prop :=
  ∀ (l : Nat) (S : List α → List (Nat × Obj) → Prop) (Sx : List (Nat × Obj) → Prop), (∀ k H, S k H → Hc.Sublist H) →
    (∀ k x H X, St k x → S k H → YSpec P w0 l (enc x) (X ++ H) fun v H' => ∃ H1, H' = X ++ H1 ∧ ((v = .bool true ∧ S (k ++ [x]) H1) ∨ (v = .bool false ∧ Sx H1))) →
    ∀ H, S [] H → FSpec P w0 gf (.func (.yield l) #[] #[] :: cap).toArray H fun v H' => (∃ k, En k ∧ S k H') ∨ Sx H'
section
variable {P : Program} {N : Nat} {w0 : World} {Q : Post} {L : Fm} {ds : List Deferred} {H : List (Nat × Obj)}
/-- the statement 'for .. := range g', in a plain frame, over an iterator that chooses its order -/
theorem j_rangeD {α Z : Type} {g : Operand} {ps : List Nat} {assign body : Code} {gf : FuncId} {cap : List Value} {Hc : List (Nat × Obj)} {enc : α → List Value} {St : List α → α → Prop} {En : List α → Prop}
    (hg : Ev L g (.func (.func gf) #[] cap.toArray)) (hc : ∀ args w, (callFunc gf args).run P w = .ok (.enter gf args) w) (it : IterSpecD P w0 gf cap Hc enc St En) (hps : ∀ x, (enc x).length = ps.length) (hpN : (ps.all fun p => Nat.blt p N) = true)
    (G : Z → List (Nat × Obj)) (φ : List α → Z → Prop) (φr : Z → Prop) (φe : Nat → Z → Prop) (z0 : Z) (h0 : φ [] z0) (hG : (G z0).Sublist H) (hHc : ∀ z, Hc.Sublist (G z))
    (round : ∀ (l : Nat) (lr : LoopState → Option Code → Loop) (Y X : List (Nat × Obj)) (k : List α) (x : α) (z : Z), LrOk lr → St k x → φ k z →
      J P (some l) N w0 assign (assignQ P l N body (roundQ w0 (fun z => X ++ ((l, .loop (lr .busy none)) :: (Y ++ G z))) (φ (k ++ [x])) φr φe)) (psL ps (enc x) L) [] (X ++ ((l, .loop (lr .ready none)) :: (Y ++ G z))))
    (done : ∀ D z k, En k → φ k z → JQ w0 Q .normal L ({ target := .collected D, args := #[] } :: ds) ((D, .deferred (some [])) :: G z))
    (stopR : ∀ D z, φr z → JQ w0 Q .ret L ({ target := .collected D, args := #[] } :: ds) ((D, .deferred (some [])) :: G z))
    (stopE : ∀ id D z, φe id z → JQ w0 Q (.exit id) L ({ target := .collected D, args := #[] } :: ds) ((D, .deferred (some [])) :: G z)) :
    J P none N w0 (.rangeFunc g ps.toArray assign body) Q L ds H := fun b w hO a hsz hf hd => by
  refine wpIn_rangeFunc ?_
  intro fn _
  have hO' := hO.sub hG
  obtain ⟨lr, hlr⟩ : ∃ lr : LoopState → Option Code → Loop, lr = fun st pe => { state := st, pending := pe, fn, tmps := a.tmps, params := ps.toArray, assign, body, defers := w.heap.size } := ⟨_, rfl⟩
  have hl : LrOk lr := by subst hlr; exact ⟨fun _ _ => rfl, fun _ _ _ => rfl, fun _ _ _ _ => rfl, fun _ _ => rfl⟩
  have hO1 := (hO'.alloc (.deferred (some []))).alloc (.loop (lr .ready none))
  rw [World.size_alloc] at hO1
  obtain ⟨D, hDw⟩ : ∃ D, D = w.heap.size := ⟨_, rfl⟩
  obtain ⟨l, hlw⟩ : ∃ l, l = w.heap.size + 1 := ⟨_, rfl⟩
  rw [← hlw, ← hDw] at hO1
  have hcond := it l (fun k H => ∃ z, φ k z ∧ H = (l, .loop (lr .ready none)) :: ([(D, .deferred (some []))] ++ G z))
    (fun H => ∃ z, (φr z ∧ H = (l, .loop (lr .done (some .ret))) :: ([(D, .deferred (some []))] ++ G z)) ∨ ∃ id, φe id z ∧ H = (l, .loop (lr .done (some (.exit id)))) :: ([(D, .deferred (some []))] ++ G z))
    (fun k H ⟨z, _, hH⟩ => by rw [hH]; exact ((hHc z).cons _).cons _)
    (fun k x H X hx ⟨z, hz, hH⟩ w hOw => by
      rw [hH] at hOw
      have hh : w.heap[l]? = some (.loop (lr .ready none)) := hOw.has (l, _) (by simp)
      have hy := run_yield (P := P) (args := (enc x).toArray) hh (by rw [hlr]; simpa using hps x)
      have htm : a.tmps.size = N := hsz
      have hp := psL_fr ps (enc x) a.tmps L b (fun p hp => by have := List.all_eq_true.1 hpN p hp; rw [htm]; simpa [Nat.blt_eq] using this) hf
      refine ⟨_, _, _, _, hy, ?_⟩
      have h1 := round_spec (P := P) (f := (lr .ready none).fn) (tmps := (ps.zip (enc x)).foldl (fun t (p, v) => t.setIfInBounds p v) a.tmps) (X := X) (Y := [(D, .deferred (some []))]) (G := G) (φ := φ (k ++ [x])) (φr := φr) (φe := φe) hl hp.2 (by rw [hp.1]; exact htm) (round l lr [(D, .deferred (some []))] X k x z hl hx hz) hOw
      have e1 : (lr .ready none).assign = assign := by rw [hlr]
      have e2 : (lr .ready none).body = body := by rw [hlr]
      have e3 : ((lr .ready none).params.zip (enc x).toArray).foldl (fun tmps (p : Tmp × Value) => tmps.setIfInBounds p.1 p.2) (lr .ready none).tmps = (ps.zip (enc x)).foldl (fun t (p, v) => t.setIfInBounds p v) a.tmps := by rw [hlr]; simp
      rw [e1, e2]
      refine RoundIn.mono (by rw [← e3] at h1; exact h1) ?_
      rintro e w' ⟨v, H', he, hO2, hcs⟩
      refine ⟨v, H', he, hO2, ?_⟩
      rcases hcs with ⟨hv, z', hz', hH'⟩ | ⟨hv, z', hcs⟩
      · exact ⟨_, hH', .inl ⟨hv, z', hz', rfl⟩⟩
      · rcases hcs with ⟨hz', hH'⟩ | ⟨id, hz', hH'⟩
        · exact ⟨_, hH', .inr ⟨hv, z', .inl ⟨hz', rfl⟩⟩⟩
        · exact ⟨_, hH', .inr ⟨hv, z', .inr ⟨id, hz', rfl⟩⟩⟩)
    ((l, .loop (lr .ready none)) :: ([(D, .deferred (some []))] ++ G z0)) ⟨z0, h0, rfl⟩
  refine ⟨l, [{ target := .collected D, args := #[] }], (w.alloc (.deferred (some []))).alloc (.loop (lr .ready none)), { target := .fn (.func gf) cap.toArray, args := #[.func (.yield l) #[] #[]] }, (w.alloc (.deferred (some []))).alloc (.loop (lr .ready none)), gf, (.func (.yield l) #[] #[] :: cap).toArray, (w.alloc (.deferred (some []))).alloc (.loop (lr .ready none)), ?enter, ?res, fun f' _ => trivial, ?inv, rd_hn none, callsIn_rd (r := none) ?call⟩
  case call =>
    refine (hcond _ hO1).mono ?_
    rintro e w3 ⟨v, H', he, hO3, hcs⟩
    subst he
    have fin : ∀ (s : LoopState) (p : Option Code) (z : Z), s ≠ .busy → Own w0 ((l, .loop (lr s p)) :: ([(D, .deferred (some []))] ++ G z)) w3 → (Instr.endLoop l).run P w3 = .ok p (w3.putObj l (.loop { lr s p with state := .exhausted })) ∧ Own w0 ((D, .deferred (some [])) :: G z) (w3.putObj l (.loop { lr s p with state := .exhausted })) := fun s p z hne hO3 => by
      have hh : w3.heap[l]? = some (.loop (lr s p)) := hO3.has (l, _) (by simp)
      have h1 := run_endLoop (P := P) hh (by rw [hl.state]; exact hne)
      exact ⟨h1.trans (congrArg (fun q => Result.ok q _) (hl.pend s p)), (hO3.put .h).tail⟩
    have key : ∀ e z, (∀ w, Own w0 ((D, .deferred (some [])) :: G z) w → Q e (lk L b) ({ target := .collected D, args := #[] } :: ds) w) → ∀ w, Own w0 ((D, .deferred (some [])) :: G z) w → LQ N Q e { a with defers := [{ target := .collected D, args := #[] }] ++ a.defers } w := fun e z h w hOw => ⟨hsz, by
      have := h w hOw
      have hf' : fr { a with defers := [{ target := .collected D, args := #[] }] ++ a.defers } = lk L b := hf
      rw [hf']
      simp only [List.cons_append, List.nil_append, hd]
      exact this⟩
    rcases hcs with ⟨kk, hEn, z, hz, hH'⟩ | ⟨z, hcs⟩
    · rw [hH'] at hO3
      obtain ⟨h1, h2⟩ := fin _ _ z (by simp) hO3
      exact ⟨none, _, h1, key .normal z (fun w hw => done D z kk hEn hz b w hw) _ h2⟩
    · rcases hcs with ⟨hz, hH'⟩ | ⟨id, hz, hH'⟩
      · rw [hH'] at hO3
        obtain ⟨h1, h2⟩ := fin _ _ z (by simp) hO3
        exact ⟨some .ret, _, h1, wpIn_ret (key .ret z (fun w hw => stopR D z hz b w hw) _ h2)⟩
      · rw [hH'] at hO3
        obtain ⟨h1, h2⟩ := fin _ _ z (by simp) hO3
        exact ⟨some (.exit id), _, h1, wpIn_exit (key (.exit id) z (fun w hw => stopE id D z hz b w hw) _ h2)⟩
  case enter =>
    have := run_enterLoop_outer (P := P) (w := w) fn a.tmps ps.toArray assign body
    rw [hlr, hlw, hDw]
    exact this
  case res =>
    have hgb := hg b
    rw [← hf, ← eval_fr] at hgb
    have e : resolve a.eval (rangeCall g l) 0 = Deferred.ofValue (a.eval g) #[.func (.yield l) #[] #[]] := by
      unfold resolve
      simp only [List.map_toArray, List.map_cons, List.map_nil]
      rfl
    rw [e]
    rw [hgb]
    simp [Deferred.ofValue]
  case inv => simp [invoke, hc]
end
section
variable {K V : Type} {encK : K → Value} {encV : V → Value} {P : Program} {w0 : World} {L : Fm} {H : List (Nat × Obj)} {ty t : TypeId} {x : Operand}
/-- a range over a map under way: seen are the places of the entries that have come -/
abbrev itO (m : Nat) (c : Nat) (seen : List Nat) (last : Nat) : Obj := .mapIter (some m) c seen.toArray last
theorem eff_rangeMap {kt et : TypeId} {m : Nat} {l : List (K × V)} (hx : Ev L x (.map (some m))) (hf : Fnd H m (mapO encK encV l)) (ht : ∀ w, (underlying t).run P w = .ok (.map kt et) w) :
    Eff P w0 (.range t x) ty L H (fun v H' => ∃ n, v = .pointer (some ⟨n, 0, none⟩) ∧ H' = (n, itO m l.length [] l.length) :: H) :=
  ⟨rfl, fun b w hO => by
    have hh := run_getMap (P := P) (hO.has _ hf)
    have : (exO (ev (lk L b)) (.range t x) ty).run P w = .ok (.value (.pointer (some ⟨w.heap.size, 0, none⟩))) (w.alloc (itO m l.length [] l.length)) := by
      simp [exO, execOp, Instr.range, hx b, ht, hh, newObj, Sem.run, Sem.run_bind, Result.andThen]
    rw [this]; exact ⟨_, hO.alloc _, _, rfl, rfl⟩⟩
theorem run_next {w : World} {r m c : Nat} {es : Array MapEntry} {seen : Array Nat} (h1 : w.heap[r]? = some (.mapIter (some m) c seen c)) (h2 : w.heap[m]? = some (.map es c)) (hb : ∀ e ∈ es, e.born < c) :
    ∃ w1, (w1 = w ∨ w1 = w.drew) ∧
      ((es.filter (fun e => !seen.contains e.born) = #[] ∧ (Instr.next (.pointer (some ⟨r, 0, none⟩)) false ty).run P w = .ok (.tuple #[.bool false]) w1) ∨
       ∃ e, e ∈ es ∧ seen.contains e.born = false ∧ (Instr.next (.pointer (some ⟨r, 0, none⟩)) false ty).run P w = .ok (.tuple #[.bool true, e.key, e.val]) (w1.putObj r (.mapIter (some m) c (seen.push e.born) c))) := by
  have hg1 : (getObj r).run P w = .ok (.mapIter (some m) c seen c) w := by simp [getObj, Sem.run, h1]
  have hg2 := run_getMap (P := P) h2
  have hall : (!seen.isEmpty && !es.isEmpty && es.all (fun e => decide (e.born ≥ c))) = false := by
    rw [Bool.eq_false_iff]
    intro h
    simp only [Bool.and_eq_true, Bool.not_eq_true', Array.all_eq_true, decide_eq_true_eq] at h
    obtain ⟨⟨_, hne⟩, ha⟩ := h
    have hp : 0 < es.size := by
      rcases Nat.eq_zero_or_pos es.size with h0 | h0
      · have : es = #[] := Array.eq_empty_of_size_eq_zero h0
        rw [this] at hne; cases hne
      · exact h0
    have h3 := ha 0 hp
    have h4 := hb es[0] (Array.getElem_mem _)
    omega
  obtain ⟨left, hleft⟩ : ∃ left, left = es.filter fun e => !seen.contains e.born := ⟨_, rfl⟩
  have hlm : ∀ e ∈ left, e ∈ es ∧ seen.contains e.born = false := fun e he => by
    rw [hleft, Array.mem_filter] at he
    exact ⟨he.1, by simpa using he.2⟩
  have hold : left.filter (fun e => decide (e.born < c)) = left := by
    rw [Array.filter_eq_self]
    intro e he; exact decide_eq_true (hb e (hlm e he).1)
  have hnew : left.filter (fun e => decide (e.born ≥ c)) = #[] := by
    rw [Array.filter_eq_empty_iff]
    intro e he; have := hb e (hlm e he).1; simp; omega
  obtain ⟨cand, hcand⟩ : ∃ cand : Array (Option MapEntry), cand = (if left.isEmpty then #[none] else #[]) ++ (left ++ #[]).map some := ⟨_, rfl⟩
  have hcp : 0 < cand.size := by
    rw [hcand]
    rcases Nat.eq_zero_or_pos left.size with h0 | h0
    · have : left = #[] := Array.eq_empty_of_size_eq_zero h0
      subst this; simp
    · simp; omega
  obtain ⟨idx, w1, hw1, hidx, hch⟩ : ∃ idx w1, (w1 = w ∨ w1 = w.drew) ∧ idx < cand.size ∧ (choose (.mapNext cand.size)).run P w = .ok idx w1 := by
    rw [run_choose_drew]
    split
    · exact ⟨0, w, .inl rfl, hcp, rfl⟩
    · exact ⟨_, _, .inr rfl, Nat.mod_lt _ hcp, rfl⟩
  refine ⟨w1, hw1, ?_⟩
  have hrun : (Instr.next (.pointer (some ⟨r, 0, none⟩)) false ty).run P w = (match cand[idx]? with
      | some (some e) => (do setObj r (.mapIter (some m) c (seen.push e.born) c); pure (.tuple #[.bool true, e.key, e.val]) : Sem Value)
      | some none => pure (.tuple #[.bool false])
      | none => stuck "Next: no such candidate").run P w1 := by
    unfold Instr.next
    simp only [Sem.run_bind, hg1, hg2, Result.andThen, hall, ← hleft, hold, hnew, ← hcand, hch, Bool.false_eq_true, if_false, Sem.run_pure]
    rfl
  rcases Nat.eq_zero_or_pos left.size with h0 | h0
  · have he : left = #[] := Array.eq_empty_of_size_eq_zero h0
    refine .inl ⟨by rw [← hleft, he], ?_⟩
    rw [hrun]
    have hc1 : cand = #[none] := by rw [hcand, he]; simp
    rw [hc1] at hidx ⊢
    have : idx = 0 := by simpa using hidx
    subst this; simp
  · have hc1 : cand = left.map some := by
      rw [hcand]
      have : left.isEmpty = false := by rw [Array.isEmpty_eq_false_iff]; intro he; rw [he] at h0; simp at h0
      rw [this]; simp
    rw [hc1] at hidx hrun
    have hil : idx < left.size := by simpa using hidx
    have hm := hlm left[idx] (Array.getElem_mem _)
    refine .inr ⟨left[idx], hm.1, hm.2, ?_⟩
    rw [hrun]
    have hh1 : w1.heap[r]? = some (.mapIter (some m) c seen c) := by rcases hw1 with rfl | rfl <;> exact h1
    have hget : (left.map some)[idx]? = some (some left[idx]) := by simp [hil]
    rw [hget]
    simp [setObj, Sem.run, hh1, World.putObj, Sem.run_bind, Result.andThen]
theorem ents_mem [DecidableEq K] {l : List (K × V)} {e : MapEntry} (h : e ∈ (ents encK encV l).toArray) : ∃ i p, l[i]? = some p ∧ e = { key := encK p.1, val := encV p.2, born := i } := by
  simp only [List.mem_toArray] at h
  obtain ⟨i, hi, he⟩ := List.getElem_of_mem h
  have h1 := ents_get encK encV l i
  rw [List.getElem?_eq_getElem hi, he] at h1
  cases hl : l[i]? with
  | none => rw [hl] at h1; simp at h1
  | some p => rw [hl] at h1; simp at h1; exact ⟨i, p, hl, h1⟩
theorem own_drew {w w1 : World} (hO : Own w0 H w) (h : w1 = w ∨ w1 = w.drew) : Own w0 H w1 := by
  rcases h with rfl | rfl
  · exact hO
  · exact hO.drawn
theorem eff_next [DecidableEq K] {m r : Nat} {l : List (K × V)} {seen : List Nat} {R : List (Nat × Obj)} {F : Obj → List (Nat × Obj)} (hx : Ev L x (.pointer (some ⟨r, 0, none⟩))) (hm : Fnd H m (mapO encK encV l)) (hl : Loc H r (itO m l.length seen l.length) R F) :
    Eff P w0 (.next x false) ty L H (fun v H' => (∃ i p, l[i]? = some p ∧ i ∉ seen ∧ v = .tuple #[.bool true, encK p.1, encV p.2] ∧ H' = F (itO m l.length (seen ++ [i]) l.length)) ∨ ((∀ i, i < l.length → i ∈ seen) ∧ v = .tuple #[.bool false] ∧ H' = H)) :=
  ⟨rfl, fun b w hO => by
    have hO1 := own_perm hO hl.perm.1
    have h1 := hO1.has _ (List.mem_cons_self ..)
    have h2 := hO.has _ hm
    obtain ⟨w1, hw1, hcs⟩ := run_next (P := P) (ty := ty) (c := l.length) h1 h2 (fun e he => by
      obtain ⟨i, p, hi, rfl⟩ := ents_mem he
      exact (List.getElem?_eq_some_iff.1 hi).1)
    have e0 : (exO (ev (lk L b)) (.next x false) ty).run P w = ((Instr.next (.pointer (some ⟨r, 0, none⟩)) false ty).run P w).andThen fun v w => .ok (.value v) w := by
      simp [exO, execOp, hx b, Sem.run_bind]
    rcases hcs with ⟨he, hr⟩ | ⟨e, he, hns, hr⟩
    · rw [e0, hr]
      refine ⟨H, own_drew hO hw1, .inr ⟨fun i hi => ?_, rfl, rfl⟩⟩
      have h3 : ({ key := encK l[i].1, val := encV l[i].2, born := i } : MapEntry) ∈ (ents encK encV l).toArray := by
        rw [List.mem_toArray, List.mem_iff_getElem?]
        exact ⟨i, by rw [ents_get, List.getElem?_eq_getElem hi]; rfl⟩
      rw [Array.filter_eq_empty_iff] at he
      have := he _ h3
      simpa using this
    · rw [e0, hr]
      obtain ⟨i, p, hi, rfl⟩ := ents_mem he
      refine ⟨F (itO m l.length (seen ++ [i]) l.length), ?_, .inl ⟨i, p, hi, by simpa using hns, rfl, rfl⟩⟩
      have hO2 := (own_drew hO1 hw1).put (o' := itO m l.length (seen ++ [i]) l.length) .h
      have e3 : (seen.toArray.push i) = (seen ++ [i]).toArray := by simp
      simp only [e3]
      exact own_perm hO2 (hl.perm.2 _).symm⟩
theorem yl_entry [DecidableEq K] {m r i : Nat} {l : List (K × V)} {p : K × V} {seen : List Nat} (hx : Ev L x (.pointer (some ⟨r, 0, none⟩))) (hm : Fnd H m (mapO encK encV l)) (hr : Fnd H r (itO m l.length (seen ++ [i]) l.length)) (hi : l[i]? = some p) :
    Yl P w0 (.entry x) ty L H (.tuple #[encK p.1, encV p.2]) := yl_of rfl fun H' hs b w hO => by
  have h1 := hO.has _ (hs.subset hr)
  have h2 := hO.has _ (hs.subset hm)
  have hg1 : (getObj r).run P w = .ok (itO m l.length (seen ++ [i]) l.length) w := by simp [getObj, Sem.run, h1]
  have hg2 := run_getMap (P := P) h2
  have hf : (ents encK encV l).toArray.find? (fun e => e.born == i) = some { key := encK p.1, val := encV p.2, born := i } := by
    have hlt := (List.getElem?_eq_some_iff.1 hi).1
    simp only [List.find?_toArray]
    rw [List.find?_eq_some_iff_getElem]
    have hg : ∀ j, (hj : j < (ents encK encV l).length) → ∃ q, l[j]? = some q ∧ (ents encK encV l)[j] = { key := encK q.1, val := encV q.2, born := j } := fun j hj => by
      have h3 := ents_get encK encV l j
      rw [List.getElem?_eq_getElem hj] at h3
      cases hq : l[j]? with
      | none => rw [hq] at h3; simp at h3
      | some q => rw [hq] at h3; simp at h3; exact ⟨q, rfl, h3⟩
    have hel : (ents encK encV l).length = l.length := by simp [ents]
    refine ⟨by simp, i, by omega, ?_, fun j hj => ?_⟩
    · obtain ⟨q, hq, he⟩ := hg i (by omega)
      rw [hi] at hq; cases hq; exact he
    · obtain ⟨q, _, he⟩ := hg j (by omega)
      rw [he]; simp; omega
  simp [exO, execOp, hx b, Instr.entry, hg1, hg2, hf, Sem.run_bind, Result.andThen]
end
end Go.Proofs.Ytdbffighngmibaa
