/-
  Maps of the call's own, as lists of keys and values. Over any program.
-/
import Derived.Test.YtdbffighngmibaaLh
namespace Go.Proofs.Ytdbffighngmibaa
open Go.RowKit
set_option linter.unusedVariables false
set_option linter.unusedSimpArgs false
set_option linter.unusedSectionVars false
section
variable {K V : Type} [DecidableEq K]
def ents (encK : K → Value) (encV : V → Value) (l : List (K × V)) : List MapEntry := l.zipIdx.map fun p => { key := encK p.1.1, val := encV p.1.2, born := p.2 }
/-- a map that has these entries, in this order -/
def mapO (encK : K → Value) (encV : V → Value) (l : List (K × V)) : Obj := .map (ents encK encV l).toArray l.length
def findI (k : K) : List (K × V) → Nat → Option (Nat × V)
  | [], _ => none
  | e :: l, i => if e.1 = k then some (i, e.2) else findI k l (i + 1)
def look (l : List (K × V)) (k : K) : Option V := (findI k l 0).map (·.2)
def upsert (l : List (K × V)) (k : K) (v : V) : List (K × V) :=
  match findI k l 0 with
  | some (i, _) => l.set i (k, v)
  | none => l ++ [(k, v)]
theorem findI_shift (k : K) : ∀ (l : List (K × V)) (i : Nat), findI k l i = (findI k l 0).map fun p => (p.1 + i, p.2)
  | [], i => rfl
  | e :: l, i => by
    unfold findI
    split
    · simp
    · rw [findI_shift k l (i + 1), findI_shift k l (0 + 1)]
      cases findI k l 0 <;> simp; omega
theorem look_cons (e : K × V) (l : List (K × V)) (k : K) : look (e :: l) k = if e.1 = k then some e.2 else look l k := by
  unfold look
  rw [findI]
  split
  · rfl
  · rw [findI_shift]; cases findI k l 0 <;> rfl
theorem upsert_cons (e : K × V) (l : List (K × V)) (k : K) (v : V) : upsert (e :: l) k v = if e.1 = k then (k, v) :: l else e :: upsert l k v := by
  unfold upsert
  rw [findI]
  by_cases h : e.1 = k
  · simp [h]
  · simp only [h, if_false]
    rw [findI_shift]
    cases findI k l 0 with
    | none => simp
    | some p => simp
theorem look_upsert (l : List (K × V)) (k : K) (v : V) (k' : K) : look (upsert l k v) k' = if k = k' then some v else look l k' := by
  induction l with
  | nil => unfold upsert; simp only [findI]; rw [List.nil_append, look_cons]
  | cons e l ih =>
    rw [upsert_cons]
    by_cases h : e.1 = k
    · rw [if_pos h, look_cons, look_cons]
      by_cases h2 : k = k'
      · simp [h2]
      · rw [if_neg h2, if_neg h2, if_neg (by rw [h]; exact h2)]
    · rw [if_neg h, look_cons, look_cons, ih]
      by_cases h2 : e.1 = k'
      · rw [if_pos h2, if_pos h2, if_neg (by intro h3; exact h (h2.trans h3.symm))]
      · rw [if_neg h2, if_neg h2]
theorem ents_append (encK : K → Value) (encV : V → Value) (l : List (K × V)) (k : K) (v : V) : ents encK encV (l ++ [(k, v)]) = ents encK encV l ++ [{ key := encK k, val := encV v, born := l.length }] := by
  unfold ents
  rw [List.zipIdx_append, List.map_append]; simp
theorem findI_lt {k : K} {l : List (K × V)} {i n : Nat} {v : V} (h : findI k l n = some (i, v)) : n ≤ i ∧ i - n < l.length ∧ l[i - n]? = some (k, v) := by
  induction l generalizing n with
  | nil => cases h
  | cons e l ih =>
    unfold findI at h
    split at h
    · rename_i he
      simp only [Option.some.injEq, Prod.mk.injEq] at h
      obtain ⟨rfl, rfl⟩ := h
      refine ⟨Nat.le_refl _, by simp, ?_⟩
      simp [← he]
    · obtain ⟨h1, h2, h3⟩ := ih h
      refine ⟨by omega, by simp; omega, ?_⟩
      rw [show i - n = (i - (n + 1)) + 1 by omega]; simpa using h3
theorem ents_get (encK : K → Value) (encV : V → Value) (l : List (K × V)) (i : Nat) : (ents encK encV l)[i]? = (l[i]?).map fun p => { key := encK p.1, val := encV p.2, born := i } := by
  unfold ents
  rw [List.getElem?_map, List.getElem?_zipIdx]
  cases l[i]? <;> simp
theorem ents_set (encK : K → Value) (encV : V → Value) (l : List (K × V)) (i : Nat) (k : K) (v : V) : (ents encK encV l).toArray.modify i (fun e => { e with key := encK k, val := encV v }) = (ents encK encV (l.set i (k, v))).toArray := by
  apply Array.ext'
  apply List.ext_getElem?
  intro j
  rw [ents_get]
  simp only [Array.toList_modify, List.getElem?_modify, ents_get, List.getElem?_set]
  by_cases hij : i = j
  · subst hij
    by_cases hl : i < l.length
    · simp [hl]
    · simp [hl]
  · simp [hij]
variable {P : Program} {kt : TypeId} {encK : K → Value} {encV : V → Value}
/-- keys that the model can compare -/
structure KeyOk (P : Program) (kt : TypeId) (encK : K → Value) : Prop where
  chk : ∀ b k w, (Instr.checkKey b 10000 kt (encK k)).run P w = .ok () w
  find : ∀ (encV : V → Value) (l : List (K × V)) k w, (Instr.findKey kt (encK k) (ents encK encV l)).run P w = .ok ((findI k l 0).map fun p => (p.1, encV p.2)) w
  bits : ∀ k, Instr.sameBits 10000 (encK k) (encK k) = true
theorem findNow_eq {td : TypeDesc} (h : ∀ k k', Instr.sameNow td (encK k) (encK k') = some (decide (k' = k))) (k : K) : ∀ (l : List (K × V)) (i n : Nat), Instr.findNow td (encK k) ((l.zipIdx n).map fun p => { key := encK p.1.1, val := encV p.1.2, born := p.2 }) i = some ((findI k l i).map fun p => (p.1, encV p.2))
  | [], i, n => rfl
  | e :: l, i, n => by
    simp only [List.zipIdx_cons, List.map_cons, Instr.findNow, h]
    rw [findI]
    by_cases he : e.1 = k
    · simp [he]
    · simp only [he, decide_false, if_false]
      exact findNow_eq h k l (i + 1) (n + 1)
theorem keyOk_now {td : TypeDesc} (ht : ∀ w, (underlying kt).run P w = .ok td w) (hc : ∀ b k w, (Instr.checkKey b 10000 kt (encK k)).run P w = .ok () w) (h : ∀ k k', Instr.sameNow td (encK k) (encK k') = some (decide (k' = k))) (hb : ∀ k, Instr.sameBits 10000 (encK k) (encK k) = true) : KeyOk (V := V) P kt encK :=
  ⟨hc, fun encV l k w => by
    unfold Instr.findKey
    simp only [Sem.run_bind, ht, Result.andThen]
    rw [show ents encK encV l = (l.zipIdx 0).map fun p => { key := encK p.1.1, val := encV p.1.2, born := p.2 } from rfl, findNow_eq h k l 0 0]
    simp, hb⟩
theorem findAsk_eq (h : ∀ k k' w, (Op.equal kt (encK k) (encK k')).run P w = .ok (decide (k' = k)) w) (k : K) (w : World) : ∀ (l : List (K × V)) (i n : Nat), (Instr.findAsking kt (encK k) ((l.zipIdx n).map fun p => { key := encK p.1.1, val := encV p.1.2, born := p.2 }) i).run P w = .ok ((findI k l i).map fun p => (p.1, encV p.2)) w
  | [], i, n => rfl
  | e :: l, i, n => by
    simp only [List.zipIdx_cons, List.map_cons, Instr.findAsking, Sem.run_bind, h, Result.andThen]
    rw [findI]
    by_cases he : e.1 = k
    · simp [he]
    · simp only [he, decide_false, if_false, Bool.false_eq_true]
      exact findAsk_eq h k w l (i + 1) (n + 1)
theorem keyOk_ask {td : TypeDesc} (ht : ∀ w, (underlying kt).run P w = .ok td w) (hc : ∀ b k w, (Instr.checkKey b 10000 kt (encK k)).run P w = .ok () w) (hn : ∀ k k', Instr.sameNow td (encK k) (encK k') = none) (h : ∀ k k' w, (Op.equal kt (encK k) (encK k')).run P w = .ok (decide (k' = k)) w) (hb : ∀ k, Instr.sameBits 10000 (encK k) (encK k) = true) : KeyOk (V := V) P kt encK :=
  ⟨hc, fun encV l k w => by
    unfold Instr.findKey
    simp only [Sem.run_bind, ht, Result.andThen]
    cases l with
    | nil => rfl
    | cons e l =>
      have h1 : Instr.findNow td (encK k) (ents encK encV (e :: l)) 0 = none := by simp [ents, List.zipIdx_cons, Instr.findNow, hn]
      rw [h1]
      exact findAsk_eq h k w (e :: l) 0 0, hb⟩
variable {w0 : World} {L : Fm} {H : List (Nat × Obj)} {ty t et : TypeId} {x y z : Operand}
theorem run_getMap {w : World} {r : Nat} {es : Array MapEntry} {c : Nat} (h : w.heap[r]? = some (.map es c)) : (getObj r).run P w = .ok (.map es c) w := by simp [getObj, Sem.run, h]
theorem run_setMap {w : World} {r : Nat} {es : Array MapEntry} {c : Nat} (o : Obj) (h : w.heap[r]? = some (.map es c)) : (setObj r o).run P w = .ok () (w.putObj r o) := by simp [setObj, Sem.run, h, World.putObj]
theorem run_lookup {w : World} {r : Nat} {l : List (K × V)} {k : K} {zv : Value} {ok : Bool} (hk : KeyOk (V := V) P kt encK) (ht : ∀ w, (underlying t).run P w = .ok (.map kt et) w) (hz : ∀ w, (zeroValue et).run P w = .ok zv w) (h : w.heap[r]? = some (mapO encK encV l)) :
    (Instr.lookup t (.map (some r)) (encK k) ok).run P w = .ok (if ok then .tuple #[((look l k).map encV).getD zv, .bool (look l k).isSome] else ((look l k).map encV).getD zv) w := by
  have hg := run_getMap (P := P) h
  unfold Instr.lookup
  simp only [Sem.run_bind, ht, Result.andThen, hg, Sem.run_pure, hk.chk]
  have hf := hk.find encV l k w
  rw [hf]
  unfold look
  cases findI k l 0 with
  | none => simp [hz, Sem.run_bind, Result.andThen]
  | some p => simp
/-- a look-up -/
theorem yl_lookup {r : Nat} {l : List (K × V)} {k : K} {zv v : Value} (hk : KeyOk (V := V) P kt encK) (hx : Ev L x (.map (some r))) (hy : Ev L y v) (hv : v = encK k) (ht : ∀ w, (underlying t).run P w = .ok (.map kt et) w) (hz : ∀ w, (zeroValue et).run P w = .ok zv w)
    (hf : Fnd H r (mapO encK encV l) := by (repeat (first | exact fnd_h | refine fnd_t ?_ | refine fnd_a ?_)); done) : Yl P w0 (.lookup t x y false) ty L H (((look l k).map encV).getD zv) := yl_of rfl fun H' hs b w hO => by
  have h := run_lookup (P := P) (k := k) (ok := false) hk ht hz ((hO.sub hs).has _ hf)
  subst hv
  simp [exO, execOp, hx b, hy b, h, Sem.run_bind, Result.andThen]
theorem yl_lookup2 {r : Nat} {l : List (K × V)} {k : K} {zv v : Value} (hk : KeyOk (V := V) P kt encK) (hx : Ev L x (.map (some r))) (hy : Ev L y v) (hv : v = encK k) (ht : ∀ w, (underlying t).run P w = .ok (.map kt et) w) (hz : ∀ w, (zeroValue et).run P w = .ok zv w)
    (hf : Fnd H r (mapO encK encV l) := by (repeat (first | exact fnd_h | refine fnd_t ?_ | refine fnd_a ?_)); done) : Yl P w0 (.lookup t x y true) ty L H (.tuple #[((look l k).map encV).getD zv, .bool (look l k).isSome]) := yl_of rfl fun H' hs b w hO => by
  have h := run_lookup (P := P) (k := k) (ok := true) hk ht hz ((hO.sub hs).has _ hf)
  subst hv
  simp [exO, execOp, hx b, hy b, h, Sem.run_bind, Result.andThen]
/-- a look-up of a bool -/
theorem yl_lookupB {encB : Bool → Value} (he : encB = fun b => .bool b) {r : Nat} {l : List (K × Bool)} {k : K} {v : Value} (hk : KeyOk (V := Bool) P kt encK) (hx : Ev L x (.map (some r))) (hy : Ev L y v) (hv : v = encK k) (ht : ∀ w, (underlying t).run P w = .ok (.map kt et) w) (hz : ∀ w, (zeroValue et).run P w = .ok (.bool false) w)
    (hf : Fnd H r (mapO encK encB l) := by (repeat (first | exact fnd_h | refine fnd_t ?_ | refine fnd_a ?_)); done) : Yl P w0 (.lookup t x y false) ty L H (.bool ((look l k).getD false)) := by
  have h := yl_lookup (P := P) (w0 := w0) (ty := ty) hk hx hy hv ht hz hf
  subst he
  cases hl : look l k with
  | none => rw [hl] at h; exact h
  | some b => rw [hl] at h; exact h
/-- a store into a map -/
theorem eff_mapUpdate {r : Nat} {l : List (K × V)} (k : K) (u : V) {v v' : Value} {H' : List (Nat × Obj)} (hk : KeyOk (V := V) P kt encK) (hx : Ev L x (.map (some r))) (hy : Ev L y v) (hv : v = encK k) (hz : Ev L z v') (hv' : v' = encV u) (ht : ∀ w, (underlying t).run P w = .ok (.map kt et) w)
    (hu : Upd H r (mapO encK encV l) (mapO encK encV (upsert l k u)) H' := by (repeat (first | exact Upd.h | apply Upd.t | apply upd_a)); done) : Eff P w0 (.mapUpdate t x y z) ty L H (Still undef H') :=
  ⟨rfl, fun b w hO => by
    subst hv hv'
    have hh := hO.has _ hu.mem
    have hg := run_getMap (P := P) hh
    have hf := hk.find encV l k w
    have h1 : (exO (ev (lk L b)) (.mapUpdate t x y z) ty).run P w = .ok .skip (w.putObj r (mapO encK encV (upsert l k u))) := by
      simp only [exO, execOp, hx b, hy b, hz b]
      unfold Instr.mapUpdate
      simp only [Sem.run_bind, ht, Result.andThen, hg, hk.chk, hf]
      unfold upsert
      cases hi : findI k l 0 with
      | none =>
        have hs := run_setMap (P := P) (.map ((ents encK encV l).toArray.push { key := encK k, val := encV u, born := l.length }) (l.length + 1)) hh
        simp only [Option.map_none, hs, Sem.run_pure]
        simp [mapO, ents_append]
      | some p =>
        obtain ⟨i, v0⟩ := p
        obtain ⟨_, h2, h3⟩ := findI_lt hi
        have he : (ents encK encV l).toArray[i]? = some { key := encK k, val := encV v0, born := i } := by
          rw [List.getElem?_toArray, ents_get]; simp at h3; simp [h3]
        have hs := run_setMap (P := P) (.map ((ents encK encV l).toArray.modify i (fun e => { e with key := encK k, val := encV u })) l.length) hh
        simp only [Option.map_some, he, Option.getD_some, Instr.keyThatStays, hk.bits, if_true, Sem.run_pure, Sem.run_bind, Result.andThen, hs]
        rw [ents_set]
        simp [mapO]
    rw [h1]; exact ⟨_, hO.put hu, rfl, rfl⟩⟩
theorem Fnd.mono {H H' : List (Nat × Obj)} {n : Nat} {o : Obj} (h : Fnd H n o) (hs : H.Sublist H' := by exact sbt) : Fnd H' n o := hs.subset h
/-- block r of H, the rest, and H with another object there -/
inductive Loc : List (Nat × Obj) → Nat → Obj → List (Nat × Obj) → (Obj → List (Nat × Obj)) → Prop
  | h {H r o} : Loc ((r, o) :: H) r o H (fun o' => (r, o') :: H)
  | t {H r o R F e} : Loc H r o R F → Loc (e :: H) r o (e :: R) (fun o' => e :: F o')
theorem Loc.a {X H : List (Nat × Obj)} {r : Nat} {o : Obj} {R : List (Nat × Obj)} {F : Obj → List (Nat × Obj)} (h : Loc H r o R F) : Loc (X ++ H) r o (X ++ R) (fun o' => X ++ F o') := by
  induction X with
  | nil => exact h
  | cons e X ih => exact .t ih
theorem Loc.perm {H : List (Nat × Obj)} {r : Nat} {o : Obj} {R : List (Nat × Obj)} {F : Obj → List (Nat × Obj)} (h : Loc H r o R F) : H.Perm ((r, o) :: R) ∧ ∀ o', (F o').Perm ((r, o') :: R) := by
  induction h with
  | h => exact ⟨List.Perm.refl _, fun _ => List.Perm.refl _⟩
  | t _ ih => exact ⟨(ih.1.cons _).trans (List.Perm.swap _ _ _), fun o' => ((ih.2 o').cons _).trans (List.Perm.swap _ _ _)⟩
/-- a function that turns block r, called where r lies anywhere -/
theorem spec_at {β : Type} {w0 : World} {f : FuncId} {args : Array Value} {H R : List (Nat × Obj)} {r : Nat} {o : Obj} {F : Obj → List (Nat × Obj)} {φ : Value → β → Prop} {o' : β → Obj} (h : FSpec P w0 f args ((r, o) :: R) (fun v H' => ∃ x, φ v x ∧ H' = (r, o' x) :: R))
    (hl : Loc H r o R F := by (repeat (first | exact Loc.h | apply Loc.t | apply Loc.a)); done) : FSpec P w0 f args H (fun v H' => ∃ x, φ v x ∧ H' = F (o' x)) := fun w hO =>
  (h w (own_perm hO hl.perm.1)).mono fun e w' ⟨v, H', he, hO', x, hx, hH⟩ => ⟨v, _, he, own_perm (hH ▸ hO') (hl.perm.2 _).symm, x, hx, rfl⟩
end
end Go.Proofs.Ytdbffighngmibaa
