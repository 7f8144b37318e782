/-
  Operations that make or write memory; calls. Over any program.
-/
import Derived.Test.YtdbffighngmibaaLd
namespace Go.Proofs.Ytdbffighngmibaa
open Go.RowKit
set_option linter.unusedVariables false
set_option linter.unusedSimpArgs false
def setL : List Value → Nat → List Value → List Value
  | l, _, [] => l
  | l, o, v :: r => setL (l.set o v) (o + 1) r
theorem setL_len : ∀ (vs l : List Value) (o : Nat), (setL l o vs).length = l.length
  | [], _, _ => rfl
  | v :: vs, l, o => by rw [setL, setL_len]; simp
theorem setL_all : ∀ (vs pre l : List Value), l.length = vs.length → setL (pre ++ l) pre.length vs = pre ++ vs
  | [], pre, l, h => by have : l = [] := List.eq_nil_of_length_eq_zero h; simp [setL, this]
  | v :: vs, pre, [], h => by simp at h
  | v :: vs, pre, x :: l, h => by
    rw [setL]
    have e : (pre ++ x :: l).set pre.length v = (pre ++ [v]) ++ l := by simp
    rw [e]
    have := setL_all vs (pre ++ [v]) l (by simpa using h)
    simp only [List.length_append, List.length_cons, List.length_nil, Nat.zero_add] at this
    rw [this]; simp
theorem setL_whole {l vs : List Value} (h : l.length = vs.length) : setL l 0 vs = vs := by simpa using setL_all vs [] l h
theorem putObj_self {w : World} {n : Nat} {o : Obj} (h : w.heap[n]? = some o) : w.putObj n o = w := by
  obtain ⟨hlt, he⟩ := Array.getElem?_eq_some_iff.1 h
  unfold World.putObj
  congr 1
  apply Array.ext
  · simp
  · intro k h1 h2
    by_cases hk : n = k
    · subst hk; simp [he]
    · rw [Array.getElem_setIfInBounds_ne (h := hk)]
theorem putObj_put (w : World) (n : Nat) (o o' : Obj) : (w.putObj n o).putObj n o' = w.putObj n o' := by
  unfold World.putObj
  simp
theorem run_storeCells {P : Program} {n o : Nat} {t : TypeId} : ∀ (vs : List Value) (i : Nat) (l : List Value) (w : World), w.heap[n]? = some (Cl l t) → (∀ v ∈ vs, oneB v = true) → o + i + vs.length ≤ l.length →
    (storeCells ⟨n, o, none⟩ vs i).run P w = .ok () (w.putObj n (Cl (setL l (o + i) vs) t))
  | [], i, l, w, h, _, _ => by rw [setL, putObj_self h]; simp [storeCells]
  | v :: vs, i, l, w, h, h1, hl => by
    have hv := h1 v (by simp)
    simp only [List.length_cons] at hl
    have hc : w.cell? ⟨n, o + i, none⟩ = some (l[o + i]'(by omega)) := by
      simp [World.cell?, h]
    have hf : w.frozen? ⟨n, o + i, none⟩ = false := by simp [World.frozen?, h]
    have hlt : n < w.heap.size := (Array.getElem?_eq_some_iff.1 h).1
    have e : w.setCell ⟨n, o + i, none⟩ v = w.putObj n (Cl (l.set (o + i) v) t) := by rw [setCell_put v h]; simp
    have ih := run_storeCells (P := P) (o := o) (n := n) (t := t) vs (i + 1) (l.set (o + i) v) (w.putObj n (Cl (l.set (o + i) v) t)) (World.putObj_heap_same hlt) (fun u hu => h1 u (by simp [hu])) (by rw [List.length_set]; omega)
    rw [putObj_put, ← Nat.add_assoc] at ih
    have hs : (store ((⟨n, o, none⟩ : Addr).add i) v).run P w = .ok () (w.putObj n (Cl (l.set (o + i) v) t)) := by
      rw [add_at]
      unfold store
      cases v <;> first | (simp [oneB] at hv; done) | (simp only [Sem.run, hc, hf, e]; simp)
    rw [storeCells, Sem.run_bind, hs]
    simp only [Result.andThen]
    rw [ih, setL]
section
variable {P : Program} {w0 : World} {L : Fm} {H : List (Nat × Obj)} {ty : TypeId} {x y : Operand} {t : TypeId}
theorem eff_val {op : Op} {v : Value} {K : Value → List (Nat × Obj) → Prop} (hd : Op.isDefer op = false) (h : ∀ b w, Own w0 H w → ∃ w' H', (exO (ev (lk L b)) op ty).run P w = .ok (.value v) w' ∧ Own w0 H' w' ∧ K v H') : Eff P w0 op ty L H K :=
  ⟨hd, fun b w hO => by obtain ⟨w', H', he, h1, h2⟩ := h b w hO; rw [he]; exact ⟨H', h1, h2⟩⟩
/-- new memory: a block n -/
abbrev New (o : Obj) (H : List (Nat × Obj)) : Value → List (Nat × Obj) → Prop := fun v H' => ∃ n, v = .pointer (some ⟨n, 0, none⟩) ∧ H' = (n, o) :: H
theorem run_new (w : World) (t : TypeId) (l : List Value) : (newRow t l.toArray).run P w = .ok ⟨w.heap.size, 0, none⟩ (w.alloc (Cl l t)) := by
  simp [newRow, newObj, Sem.run, Sem.run_bind, Result.andThen]
theorem eff_box {v : Value} {l : List Value} (hx : Ev L x v) (hc : Cs v l) : Eff P w0 (.box t x) ty L H (New (Cl l t) H) :=
  ⟨rfl, fun b w hO => by
    have : (exO (ev (lk L b)) (.box t x) ty).run P w = .ok (.value (.pointer (some ⟨w.heap.size, 0, none⟩))) (w.alloc (Cl l t)) := by
      simp [exO, execOp, hx b, Instr.box, newVar, hc.cells, run_new, Sem.run_bind, Result.andThen]
    rw [this]; exact ⟨_, hO.alloc _, _, rfl, rfl⟩⟩
theorem eff_alloc {v : Value} {l : List Value} (hz : ∀ w, (zeroValue t).run P w = .ok v w) (hc : Cs v l) : Eff P w0 (.alloc t) ty L H (New (Cl l t) H) :=
  ⟨rfl, fun b w hO => by
    have : (exO (ev (lk L b)) (.alloc t) ty).run P w = .ok (.value (.pointer (some ⟨w.heap.size, 0, none⟩))) (w.alloc (Cl l t)) := by
      simp [exO, execOp, Instr.alloc, hz, newVar, hc.cells, run_new, Sem.run_bind, Result.andThen]
    rw [this]; exact ⟨_, hO.alloc _, _, rfl, rfl⟩⟩
/-- a store -/
theorem eff_store {n o : Nat} {v : Value} {vs l : List Value} {t' : TypeId} {H' : List (Nat × Obj)} (hx : Ev L x (.pointer (some ⟨n, o, none⟩))) (hy : Ev L y v) (hc : Cs v vs) (hv : vs.all oneB = true) (hz : ∀ w, (sizeOf t).run P w = .ok vs.length w)
    (hu : Upd H n (Cl l t') (Cl (setL l o vs) t') H') (hl : o + vs.length ≤ l.length) : Eff P w0 (.store t x y) ty L H (Still undef H') :=
  ⟨rfl, fun b w hO => by
    have h1 := run_storeCells (P := P) (o := o) vs 0 l w (hO.has _ hu.mem) (fun u hu' => List.all_eq_true.1 hv u hu') (by simpa using hl)
    have : (exO (ev (lk L b)) (.store t x y) ty).run P w = .ok .skip (w.putObj n (Cl (setL l o vs) t')) := by
      simp [exO, execOp, hx b, hy b, Instr.storeAt, Instr.sureAddr, storeVar, hc.cells, hz, h1, Sem.run_bind, Result.andThen]
    rw [this]; exact ⟨_, hO.put hu, rfl, rfl⟩⟩
/-- the whole block is overwritten -/
theorem eff_sW {n m : Nat} {v : Value} {vs l : List Value} {t' : TypeId} {H' : List (Nat × Obj)} (hx : Ev L x (.pointer (some ⟨n, 0, none⟩))) (hy : Ev L y v) (hz : ∀ w, (sizeOf t).run P w = .ok m w) (hc : Cs v vs := by first | exact .agg | exact .one rfl) (hv : vs.all oneB = true := by rfl) (hm : vs.length = m := by rfl)
    (hu : Upd H n (Cl l t') (Cl vs t') H' := by (repeat (first | exact Upd.h | apply Upd.t | apply upd_a)); done) (hl : l.length = vs.length := by rfl) : Eff P w0 (.store t x y) ty L H (Still undef H') :=
  eff_store hx hy hc hv (by rw [hm]; exact hz) (by rw [setL_whole hl]; exact hu) (by omega)
theorem eff_storeW {n : Nat} {v : Value} {vs l : List Value} {t' : TypeId} {H' : List (Nat × Obj)} (hx : Ev L x (.pointer (some ⟨n, 0, none⟩))) (hy : Ev L y v) (hc : Cs v vs) (hv : vs.all oneB = true) (hz : ∀ w, (sizeOf t).run P w = .ok vs.length w)
    (hu : Upd H n (Cl l t') (Cl vs t') H') (hl : l.length = vs.length) : Eff P w0 (.store t x y) ty L H (Still undef H') :=
  eff_store hx hy hc hv hz (by rw [setL_whole hl]; exact hu) (by omega)
/-- one cell of a block -/
inductive SetN : List Value → Nat → Value → List Value → Prop
  | h {x l v} : SetN (x :: l) 0 v (v :: l)
  | t {x l i v l'} : SetN l i v l' → SetN (x :: l) (i + 1) v (x :: l')
def setN? : List Value → Nat → Value → Option (List Value)
  | [], _, _ => none
  | _ :: l, 0, v => some (v :: l)
  | x :: l, i + 1, v => match setN? l i v with
    | some l' => some (x :: l')
    | none => none
theorem setN_of : ∀ {l : List Value} {i : Nat} {v : Value} {l' : List Value}, setN? l i v = some l' → SetN l i v l'
  | [], _, _, _, h => by cases h
  | x :: l, 0, v, l', h => by simp [setN?] at h; subst h; exact .h
  | x :: l, i + 1, v, l', h => by
    rw [setN?] at h
    cases hs : setN? l i v with
    | none => simp [hs] at h
    | some m => simp [hs] at h; subst h; exact .t (setN_of hs)
theorem SetN.eq {l l' : List Value} {i : Nat} {v : Value} (h : SetN l i v l') : l.set i v = l' ∧ i < l.length := by
  induction h with
  | h => simp
  | t _ ih => simp [ih.1, ih.2]
theorem eff_store1 {n o : Nat} {v : Value} {l l' : List Value} {t' : TypeId} {H' : List (Nat × Obj)} (hx : Ev L x (.pointer (some ⟨n, o, none⟩))) (hy : Ev L y v) (hv : oneB v = true) (hz : ∀ w, (sizeOf t).run P w = .ok 1 w)
    (hs : SetN l o v l') (hu : Upd H n (Cl l t') (Cl l' t') H') : Eff P w0 (.store t x y) ty L H (Still undef H') :=
  eff_store (vs := [v]) hx hy (.one hv) (by simpa using hv) hz (by simp only [setL]; rw [hs.eq.1]; exact hu) (by have := hs.eq.2; simp; omega)
theorem eff_s1 {n o : Nat} {v : Value} {l l' : List Value} {t' : TypeId} {H' : List (Nat × Obj)} (hx : Ev L x (.pointer (some ⟨n, o, none⟩))) (hy : Ev L y v) (hv : oneB v = true) (hz : ∀ w, (sizeOf t).run P w = .ok 1 w)
    (hs : setN? l o v = some l' := by rfl) (hu : Upd H n (Cl l t') (Cl l' t') H' := by (repeat (first | exact Upd.h | apply Upd.t | apply upd_a)); done) : Eff P w0 (.store t x y) ty L H (Still undef H') := eff_store1 hx hy hv hz (setN_of hs) hu
/-- operands of a call -/
inductive Evs (L : Fm) : List Operand → List Value → Prop
  | nil : Evs L [] []
  | cons {x v xs vs} : Ev L x v → Evs L xs vs → Evs L (x :: xs) (v :: vs)
theorem Evs.map {L : Fm} {xs : List Operand} {vs : List Value} (h : Evs L xs vs) (b : Nat → Value) : xs.map (ev (lk L b)) = vs := by
  induction h with
  | nil => rfl
  | cons h _ ih => simp [h b, ih]
theorem run_call {f : FuncId} {xs : List Operand} {vs : List Value} {ts : Array TypeId} {cap : List Value} {b : Nat → Value} {w : World} (hx : Ev L x (.func (.func f) #[] cap.toArray)) (ha : Evs L xs vs) (hf : ∀ args w, (callFunc f args).run P w = .ok (.enter f args) w) :
    (exO (ev (lk L b)) (.call { callee := .value x, args := xs.toArray, argTypes := ts }) ty).run P w = .ok (.enter f (vs ++ cap).toArray) w := by
  have := ha.map b
  simp [exO, execOp, resolve, invoke, Deferred.ofValue, hx b, this, hf, Sem.run_bind, Result.andThen]
theorem eff_call {f : FuncId} {xs : List Operand} {vs : List Value} {ts : Array TypeId} {K : Value → List (Nat × Obj) → Prop} (ha : Evs L xs vs) (hf : ∀ args w, (callFunc f args).run P w = .ok (.enter f args) w) (hs : FSpec P w0 f vs.toArray H K) :
    Eff P w0 (.call { callee := .value (.func f), args := xs.toArray, argTypes := ts }) ty L H K :=
  ⟨rfl, fun b w hO => by rw [run_call (cap := []) (ev_f) ha hf]; simpa [effO] using hs w hO⟩
theorem yl_call {f : FuncId} {xs : List Operand} {vs : List Value} {ts : Array TypeId} {v : Value} (ha : Evs L xs vs) (hf : ∀ args w, (callFunc f args).run P w = .ok (.enter f args) w) (hs : ∀ H', H.Sublist H' → FSpec P w0 f vs.toArray H' (Still v H')) :
    Yl P w0 (.call { callee := .value (.func f), args := xs.toArray, argTypes := ts }) ty L H v :=
  ⟨rfl, fun H' h b w hO => by rw [run_call (cap := []) (ev_f) ha hf]; simpa [effO] using hs H' h w hO⟩
/-- a call of a function value -/
theorem eff_callV {f : FuncId} {xs : List Operand} {vs : List Value} {cap : List Value} {ts : Array TypeId} {K : Value → List (Nat × Obj) → Prop} (hx : Ev L x (.func (.func f) #[] cap.toArray)) (ha : Evs L xs vs) (hf : ∀ args w, (callFunc f args).run P w = .ok (.enter f args) w) (hs : FSpec P w0 f (vs ++ cap).toArray H K) :
    Eff P w0 (.call { callee := .value x, args := xs.toArray, argTypes := ts }) ty L H K :=
  ⟨rfl, fun b w hO => by rw [run_call hx ha hf]; simpa [effO] using hs w hO⟩
theorem yl_callV {f : FuncId} {xs : List Operand} {vs : List Value} {cap : List Value} {ts : Array TypeId} {v : Value} (hx : Ev L x (.func (.func f) #[] cap.toArray)) (ha : Evs L xs vs) (hf : ∀ args w, (callFunc f args).run P w = .ok (.enter f args) w) (hs : ∀ H', H.Sublist H' → FSpec P w0 f (vs ++ cap).toArray H' (Still v H')) :
    Yl P w0 (.call { callee := .value x, args := xs.toArray, argTypes := ts }) ty L H v :=
  ⟨rfl, fun H' h b w hO => by rw [run_call hx ha hf]; simpa [effO] using hs H' h w hO⟩
/-- parts of a struct -/
inductive Evp (L : Fm) : List (Nat × Operand) → List (Nat × Value) → Prop
  | nil : Evp L [] []
  | cons {i x v xs vs} : Ev L x v → Evp L xs vs → Evp L ((i, x) :: xs) ((i, v) :: vs)
theorem Evp.map {L : Fm} {xs : List (Nat × Operand)} {vs : List (Nat × Value)} (h : Evp L xs vs) (b : Nat → Value) : xs.map (fun (p : Nat × Operand) => (p.1, ev (lk L b) p.2)) = vs := by
  induction h with
  | nil => rfl
  | cons h _ ih => simp [h b, ih]
theorem yl_build {ps : List (Nat × Operand)} {vs : List (Nat × Value)} {v : Value} (hp : Evp L ps vs) (hb : ∀ w, (Instr.build t vs.toArray).run P w = .ok v w) : Yl P w0 (.build t ps.toArray) ty L H v := yl_pure rfl fun b w => by
  have := hp.map b
  simp [exO, execOp, this, hb, Sem.run_bind, Result.andThen]
theorem yl_makeFunc {f : FuncId} {cs : List Operand} {vs : List Value} (hc : Evs L cs vs) : Yl P w0 (.makeFunc (.func f) #[] cs.toArray) ty L H (.func (.func f) #[] vs.toArray) := yl_pure rfl fun b w => by
  have := hc.map b
  simp [exO, execOp, Instr.makeFunc, this, Sem.run_bind, Result.andThen]
theorem eff_makeMap : Eff P w0 (.makeMap t none) ty L H (fun v H' => ∃ n, v = .map (some n) ∧ H' = (n, .map #[] 0) :: H) :=
  ⟨rfl, fun b w hO => by
    have : (exO (ev (lk L b)) (.makeMap t none) ty).run P w = .ok (.value (.map (some w.heap.size))) (w.alloc (.map #[] 0)) := by
      simp [exO, execOp, Instr.makeMap, newObj, Sem.run, Sem.run_bind, Result.andThen]
    rw [this]; exact ⟨_, hO.alloc _, _, rfl, rfl⟩⟩
end
/-! ### A function's body -/
def ini : Nat → List Value → Fm
  | _, [] => []
  | i, v :: r => (i, v) :: ini (i + 1) r
theorem ini_lk : ∀ (vs : List Value) (i k : Nat) (b : Nat → Value), lk (ini i vs) b k = if i ≤ k then (match vs[k - i]? with | some v => v | none => b k) else b k
  | [], i, k, b => by simp [ini, lk]
  | v :: vs, i, k, b => by
    rw [ini, lk]
    cases h : Nat.beq i k
    · have hne : i ≠ k := fun e => by rw [e, Nat.beq_refl] at h; cases h
      simp only [ini_lk vs (i + 1) k b]
      by_cases hik : i + 1 ≤ k
      · rw [if_pos hik, if_pos (by omega), show k - i = (k - (i + 1)) + 1 by omega]; simp
      · rw [if_neg hik, if_neg (by omega)]
    · have := Nat.eq_of_beq_eq_true h
      subst this
      simp
def Res (P : Program) (fn : Func) (σ : Nat → Value) (w : World) (v : Value) : Prop := ∀ tmps : Array Value, (fun k => tmps.getD k undef) = σ → (results fn tmps).run P w = .ok v w
/-- what a body must come to; K: of what is returned and what is owned then -/
def RetW (P : Program) (fn : Func) (w0 : World) (K : Value → List (Nat × Obj) → Prop) (σ : Nat → Value) : List Deferred → World → Prop
  | [], w => ∃ v H, Res P fn σ w v ∧ Own w0 H w ∧ K v H
  | d :: ds, w => ∃ D w', d.target = .collected D ∧ (Instr.takeDeferred D).run P w = .ok [] w' ∧ RetW P fn w0 K σ ds w'
def retQ (P : Program) (fn : Func) (w0 : World) (K : Value → List (Nat × Obj) → Prop) : Post
  | .normal, σ, ds, w => RetW P fn w0 K σ ds w
  | .ret, σ, ds, w => RetW P fn w0 K σ ds w
  | _, _, _, _ => False
theorem leaves_of {P : Program} {fn : Func} {w0 : World} {K : Value → List (Nat × Obj) → Prop} {tmps : Array Value} : ∀ {ds : List Deferred} {w : World}, RetW P fn w0 K (fun k => tmps.getD k undef) ds w →
    LeavesInM Fence.wide 0 P fn tmps (fun e w' => ∃ v H', e = .returned v ∧ Own w0 H' w' ∧ K v H') ds .returning w
  | [], w, ⟨v, H, hr, hO, hK⟩ => by
    unfold LeavesInM LeavesIn
    exact ⟨v, hr _ rfl, v, H, rfl, hO, hK⟩
  | d :: ds, w, ⟨D, w', h1, h2, h3⟩ => by
    unfold LeavesInM
    exact ⟨by simp, .inl ⟨D, w', h1, h2, leaves_of h3⟩⟩
theorem fn_spec {P : Program} {w0 : World} {f : FuncId} {fn : Func} {c : Code} {vs : List Value} {H : List (Nat × Obj)} {K : Value → List (Nat × Obj) → Prop} {N : Nat} (hf : P.funcs[f]? = some fn) (hb : fn.body = some c) (hN : fn.ntmps = N) (hv : Nat.ble vs.length N = true)
    (h : J P none N w0 c (retQ P fn w0 K) (ini 0 vs) [] H) : FSpec P w0 f vs.toArray H K := fun w hO => by
  have hv' : vs.length ≤ N := by simpa using hv
  refine callsIn_wide.1 (callsIn_of_wp_marks (n := 0) (F := Fence.wide) hf hb trivial ?_ rfl)
  have h1 := h (fun _ => undef) w hO { tmps := vs.toArray ++ Array.replicate (fn.ntmps - vs.toArray.size) undef, defers := [] } (by simp [hN]; omega) (by
    funext k
    rw [ini_lk]
    unfold fr
    simp only [Nat.zero_le, if_true, Nat.sub_zero, Array.getD_eq_getD_getElem?]
    by_cases hk : k < vs.length
    · simp [Array.getElem?_append, hk]
    · simp only [List.size_toArray, Array.getElem?_append, hk, if_false]
      rw [List.getElem?_eq_none (by omega)]
      simp only [Array.getElem?_replicate]
      split <;> rfl) rfl
  refine wpIn_mono h1 fun e a w' hq => ?_
  obtain ⟨hs, hq⟩ := hq
  cases e <;> first | exact leaves_of hq | exact hq.elim
section
variable {P : Program} {w0 : World} {L : Fm} {H : List (Nat × Obj)} {fn : Func} {K : Value → List (Nat × Obj) → Prop}
/-- results in slots, or in cells -/
inductive ResV (P : Program) (w0 : World) (L : Fm) (H : List (Nat × Obj)) : List ResultVar → List Value → Prop
  | nil : ResV P w0 L H [] []
  | tmp {k v rs vs} : At L k v → ResV P w0 L H rs vs → ResV P w0 L H (.tmp k :: rs) (v :: vs)
  | cell {k p t v rs vs} : At L k (.pointer (some p)) → (∀ w, (isAgg t).run P w = .ok false w) → Cell w0 H p v → ResV P w0 L H rs vs → ResV P w0 L H (.cell k t :: rs) (v :: vs)
  | cellA {k b o t n l rs vs} : At L k (.pointer (some ⟨b, o, none⟩)) → (∀ w, (isAgg t).run P w = .ok true w) → (∀ w, (sizeOf t).run P w = .ok n w) → l.length = n → Cells w0 H b o l → ResV P w0 L H rs vs → ResV P w0 L H (.cell k t :: rs) (.agg l.toArray :: vs)
def resOf : List Value → Value
  | [v] => v
  | vs => .tuple vs.toArray
def resF (tmps : Array Value) : ResultVar → Sem Value
  | .tmp t => pure (tmps.getD t undef)
  | .cell a t => do loadVar t (← asAddr (tmps.getD a undef))
theorem resV_run {rs : List ResultVar} {vs : List Value} (h : ResV P w0 L H rs vs) {b : Nat → Value} {w : World} (hO : Own w0 H w) {tmps : Array Value} (ht : (fun k => tmps.getD k undef) = lk L b) :
    Sem.run P (rs.mapM (resF tmps)) w = Result.ok vs w := by
  induction h with
  | nil => simp
  | @tmp k v rs vs ha _ ih =>
    have := (congrFun ht k).trans (ha b)
    have e : resF tmps (.tmp k) = pure v := by show (pure (tmps.getD k undef) : Sem Value) = _; rw [this]
    simp [List.mapM_cons, Sem.run_bind, Result.andThen, ih, e]
  | @cell k p t v rs vs ha h1 hc _ ih =>
    have := (congrFun ht k).trans (ha b)
    have hc' := hc w hO
    have e : Sem.run P (resF tmps (.cell k t)) w = .ok v w := by
      show Sem.run P (do loadVar t (← asAddr (tmps.getD k undef))) w = _
      rw [this]
      simp [Sem.run_bind, Result.andThen, asAddr, loadVar, h1, load, Sem.run, hc']
    simp [List.mapM_cons, Sem.run_bind, Result.andThen, ih, e]
  | @cellA k b' o t n l rs vs ha h1 h2 h3 hc _ ih =>
    have := (congrFun ht k).trans (ha b)
    have h4 := run_loadCells (P := P) (b := b') (o := o) (w := w) l 0 #[] (fun j v hj => by rw [Nat.zero_add]; exact hc j v hj w hO)
    rw [h3] at h4
    have e : Sem.run P (resF tmps (.cell k t)) w = .ok (.agg l.toArray) w := by
      show Sem.run P (do loadVar t (← asAddr (tmps.getD k undef))) w = _
      rw [this]
      simp [Sem.run_bind, Result.andThen, asAddr, loadVar, h1, h2, loadCells, h4]
    simp [List.mapM_cons, Sem.run_bind, Result.andThen, ih, e]
theorem results_eq (fn : Func) (tmps : Array Value) : results fn tmps = (do let vs ← fn.results.mapM (resF tmps); pure (if h : vs.size = 1 then vs[0] else .tuple vs)) := rfl
theorem res_of {rs : List ResultVar} {vs : List Value} (hr : fn.results = rs.toArray) (h : ResV P w0 L H rs vs) {b : Nat → Value} {w : World} (hO : Own w0 H w) : Res P fn (lk L b) w (resOf vs) := fun tmps ht => by
  have h1 := resV_run h hO ht
  rw [results_eq, hr]
  simp only [List.mapM_toArray, Sem.run_bind]
  rw [Sem.run_map, h1]
  simp only [Result.andThen, Sem.run_pure]
  cases vs with
  | nil => rfl
  | cons v vs => cases vs <;> rfl
theorem q_ret {rs : List ResultVar} {vs : List Value} (hr : fn.results = rs.toArray) (h : ResV P w0 L H rs vs) (hK : ∃ H', K (resOf vs) H' ∧ H'.Sublist H) : JQ w0 (retQ P fn w0 K) .ret L [] H := fun b w hO => ⟨_, hK.choose, res_of hr h hO, hO.sub hK.choose_spec.2, hK.choose_spec.1⟩
theorem q_end {rs : List ResultVar} {vs : List Value} (hr : fn.results = rs.toArray) (h : ResV P w0 L H rs vs) (hK : ∃ H', K (resOf vs) H' ∧ H'.Sublist H) : JQ w0 (retQ P fn w0 K) .normal L [] H := fun b w hO => ⟨_, hK.choose, res_of hr h hO, hO.sub hK.choose_spec.2, hK.choose_spec.1⟩
end
end Go.Proofs.Ytdbffighngmibaa
