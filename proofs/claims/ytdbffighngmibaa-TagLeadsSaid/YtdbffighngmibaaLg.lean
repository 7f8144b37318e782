/-
  Slices of the call's own: made, appended to. Over any program.
-/
import Derived.Test.YtdbffighngmibaaLf
namespace Go.Proofs.Ytdbffighngmibaa
open Go.RowKit
set_option linter.unusedVariables false
set_option linter.unusedSimpArgs false
/-- a slice that the call has made: none yet, or a block with room -/
inductive Sl
  | nil
  | blk (n cap : Nat) (junk : List Value)
def slQ : Sl → Option Addr
  | .nil => none
  | .blk n _ _ => some ⟨n, 0, none⟩
def slC : Sl → Nat
  | .nil => 0
  | .blk _ cap _ => cap
abbrev slV (d : Sl) (k : Nat) : Value := .slice (slQ d) k (slC d)
def slH : Sl → List Value → TypeId → List (Nat × Obj)
  | .nil, _, _ => []
  | .blk n _ junk, cells, e => [(n, Cl (cells ++ junk) e)]
/-- k elements of sz cells each -/
def SlOk : Sl → Nat → Nat → Prop
  | .nil, k, _ => k = 0
  | .blk _ cap junk, k, sz => k ≤ cap ∧ junk.length = (cap - k) * sz
theorem SlOk.bas {d : Sl} {k sz : Nat} (h : SlOk d k sz) (hk : 0 < k) : Bas (slQ d) := by
  cases d with
  | nil => have : k = 0 := h; omega
  | blk n cap junk => rfl
theorem SlOk.cell {w0 : World} {d : Sl} {k sz i : Nat} {cells : List Value} {e : TypeId} {X : List (Nat × Obj)} {v : Value} (h : SlOk d k sz) (hc : cells.length = k * sz) (hi : cells[i]? = some v) : Cell w0 (slH d cells e ++ X) ⟨bq (slQ d), oq (slQ d) + i, none⟩ v := by
  cases d with
  | nil => have : k = 0 := h; subst this; have : cells = [] := List.eq_nil_of_length_eq_zero (by simpa using hc); subst this; simp at hi
  | blk n cap junk =>
    have hlt := (List.getElem?_eq_some_iff.1 hi).1
    have : Cell w0 ((n, Cl (cells ++ junk) e) :: X) ⟨n, i, none⟩ v := cell_get fnd_h (by rw [List.getElem?_append_left hlt]; exact hi)
    simpa [slQ, bq, oq, slH] using this
/-- elements of type α in a row -/
def Arr {α : Type} (w0 : World) (H : List (Nat × Obj)) (q : Option Addr) (sz : Nat) (enc : α → List Value) (l : List α) : Prop := ∀ i x, l[i]? = some x → Bas q ∧ Cells w0 H (bq q) (oq q + i * sz) (enc x)
theorem Arr.mono {α : Type} {w0 : World} {H H' : List (Nat × Obj)} {q : Option Addr} {sz : Nat} {enc : α → List Value} {l : List α} (h : Arr w0 H q sz enc l) (hs : H.Sublist H') : Arr w0 H' q sz enc l := fun i x hi => ⟨(h i x hi).1, (h i x hi).2.mono hs⟩
theorem flat_get {α : Type} {sz : Nat} {enc : α → List Value} (he : ∀ x, (enc x).length = sz) : ∀ (l : List α) (i : Nat) (x : α) (j : Nat) (v : Value), l[i]? = some x → (enc x)[j]? = some v → (l.flatMap enc)[i * sz + j]? = some v
  | [], i, x, j, v, h, _ => by simp at h
  | y :: l, 0, x, j, v, h, hv => by
    simp at h; subst h
    rw [List.flatMap_cons, List.getElem?_append_left (by have := (List.getElem?_eq_some_iff.1 hv).1; omega)]
    simpa using hv
  | y :: l, i + 1, x, j, v, h, hv => by
    rw [List.flatMap_cons, List.getElem?_append_right (by rw [he]; rw [Nat.succ_mul]; omega), he]
    have := flat_get he l i x j v (by simpa using h) hv
    rw [show (i + 1) * sz + j - sz = i * sz + j by rw [Nat.succ_mul]; omega]
    exact this
theorem flat_len {α : Type} {sz : Nat} {enc : α → List Value} (he : ∀ x, (enc x).length = sz) (l : List α) : (l.flatMap enc).length = l.length * sz := by
  induction l with
  | nil => simp
  | cons x l ih => rw [List.flatMap_cons, List.length_append, ih, he, List.length_cons, Nat.succ_mul]; omega
theorem sl_arr {α : Type} {w0 : World} {d : Sl} {sz : Nat} {enc : α → List Value} {l : List α} {e : TypeId} {X : List (Nat × Obj)} (he : ∀ x, (enc x).length = sz) (h : SlOk d l.length sz) : Arr w0 (slH d (l.flatMap enc) e ++ X) (slQ d) sz enc l := fun i x hi =>
  ⟨h.bas (by have := (List.getElem?_eq_some_iff.1 hi).1; omega), fun j v hj => by
    have := h.cell (w0 := w0) (e := e) (X := X) (flat_len he l) (flat_get he l i x j v hi hj)
    rwa [← Nat.add_assoc] at this⟩
theorem growBy_le : ∀ (r n c : Nat), c < 2 * n + 400 → Builtin.growBy n r c ≤ 2 * n + 600
  | 0, n, c, h => by unfold Builtin.growBy; omega
  | r + 1, n, c, h => by
    unfold Builtin.growBy
    split
    · omega
    · exact growBy_le r n _ (by omega)
theorem nextcap_le {n c : Nat} (h : c < n) : Builtin.nextslicecap n c ≤ 2 * n + 600 := by
  unfold Builtin.nextslicecap
  split
  · omega
  · split
    · omega
    · exact growBy_le _ _ _ (by omega)
section
variable {P : Program} {w0 : World} {L : Fm} {ty : TypeId} {x y : Operand} {t t2 e : TypeId}
theorem eff_bslice {H : List (Nat × Obj)} {len : Nat} {ps : List (Nat × Operand)} {vs : List (Nat × Value)} {cells : List Value} (hp : Evp L ps vs) (hb : ∀ w, (Instr.buildSlice t len vs.toArray).run P w = .ok (.slice (some ⟨w.heap.size, 0, none⟩) len len) (w.alloc (Cl cells e))) :
    Eff P w0 (.buildSlice t len ps.toArray) ty L H (fun v H' => ∃ n, v = .slice (some ⟨n, 0, none⟩) len len ∧ H' = (n, Cl cells e) :: H) :=
  ⟨rfl, fun b w hO => by
    have := hp.map b
    have h1 : (exO (ev (lk L b)) (.buildSlice t len ps.toArray) ty).run P w = .ok (.value (.slice (some ⟨w.heap.size, 0, none⟩) len len)) (w.alloc (Cl cells e)) := by
      simp [exO, execOp, this, hb, Sem.run_bind, Result.andThen]
    rw [h1]; exact ⟨_, hO.alloc _, _, rfl, rfl⟩⟩
theorem first_none {sz : Nat} {w : World} {c : Nat} : (Builtin.firstCells sz 0 (.slice none 0 c)).run P w = .ok #[] w := by simp [Builtin.firstCells]
theorem run_first {H : List (Nat × Obj)} {sz m c : Nat} {q : Option Addr} {new : List Value} {w : World} (hO : Own w0 H w) (hq : m = 0 ∨ Bas q) (hl : new.length = m * sz) (hn : Cells w0 H (bq q) (oq q) new) : (Builtin.firstCells sz m (.slice q m c)).run P w = .ok new.toArray w := by
  cases q with
  | none =>
    rcases hq with rfl | hq
    · have : new = [] := List.eq_nil_of_length_eq_zero (by simpa using hl)
      subst this; simp [Builtin.firstCells]
    · cases hq
  | some a =>
    rcases hq with h0 | hq
    · subst h0
      have : new = [] := List.eq_nil_of_length_eq_zero (by simpa using hl)
      subst this
      simp [Builtin.firstCells, loadCells, loadCellsFrom]
    · have ha : a = ⟨bq (some a), oq (some a), none⟩ := Option.some.inj hq
      have h1 := run_loadCells (P := P) (b := bq (some a)) (o := oq (some a)) (w := w) new 0 #[] (fun j v hj => by rw [Nat.zero_add]; exact hn j v hj w hO)
      rw [hl] at h1
      unfold Builtin.firstCells loadCells
      simp only
      rw [ha]
      rw [h1]; simp
theorem own_app {A B X : List (Nat × Obj)} {w : World} (h : Own w0 (A ++ (B ++ X)) w) : Own w0 (B ++ X) w := h.drop
theorem upd_mid {A X : List (Nat × Obj)} {n : Nat} {o o' : Obj} : Upd (A ++ ((n, o) :: X)) n o o' (A ++ ((n, o') :: X)) := upd_a .h
theorem own_perm {H H' : List (Nat × Obj)} {w : World} (h : Own w0 H w) (hp : H.Perm H') : Own w0 H' w :=
  ⟨h.below, fun e he => h.has e (hp.symm.subset he), fun e he => h.base e (hp.symm.subset he), (hp.map _).nodup_iff.1 h.nodup⟩
theorem zero_len {z : Array Value} {n sz : Nat} (hz : z.size = sz) : (Builtin.zeroCells z n).toList.length = n * sz := by simp [Builtin.zeroCells, hz]
/-- append: v is one of the call's own -/
theorem eff_append {A X : List (Nat × Obj)} {d : Sl} {cells new : List Value} {k m sz c by' : Nat} {q : Option Addr} {z : Value} {i0 : TypeInfo} {e2 : TypeId} (hx : Ev L x (slV d k)) (hy : Ev L y (.slice q m c))
    (ht : ∀ w, (underlying t).run P w = .ok (.slice e) w) (ht2 : ∀ w, (underlying t2).run P w = .ok (.slice e2) w) (hz : ∀ w, (sizeOf e).run P w = .ok sz w) (hi : ∀ w, (typeInfo e).run P w = .ok i0 w) (hby : i0.bytes = by') (hzv : ∀ w, (zeroValue e).run P w = .ok z w) (hzs : z.cells.size = sz)
    (hq : m = 0 ∨ Bas q) (hl : new.length = m * sz) (hn : Cells w0 (A ++ (slH d cells e ++ X)) (bq q) (oq q) new) (h1 : new.all oneB = true) (hc : cells.length = k * sz) (hok : SlOk d k sz) (hb0 : by' ≠ 0) (hb : (2 * (k + m) + 600) * by' ≤ 281474976710656) :
    Eff P w0 (.call { callee := .builtin .append, args := #[x, y], argTypes := #[t, t2] }) ty L (A ++ (slH d cells e ++ X)) (fun v H' => ∃ d', v = slV d' (k + m) ∧ SlOk d' (k + m) sz ∧ H' = A ++ (slH d' (cells ++ new) e ++ X)) :=
  ⟨rfl, fun b w hO => by
    have h1' : ∀ v ∈ new, oneB v = true := fun u hu => List.all_eq_true.1 h1 u hu
    have hfirst := run_first (P := P) (c := c) hO hq hl hn
    have hold : (Builtin.firstCells sz k (slV d k)).run P w = .ok cells.toArray w := by
      refine run_first (H := slH d cells e ++ X) hO.drop ?_ hc fun i v hi => hok.cell hc hi
      by_cases hk : k = 0
      · exact .inl hk
      · exact .inr (hok.bas (by omega))
    have start : ∀ R, (exO (ev (lk L b)) (.call { callee := .builtin .append, args := #[x, y], argTypes := #[t, t2] }) ty).run P w = R ↔ (do let v ← Builtin.append_ #[t, t2] ty #[slV d k, .slice q m c]; pure (Next.value v) : Sem Next).run P w = R := fun R => by
      simp [exO, execOp, resolve, invoke, builtin, hx b, hy b, Sem.run_bind, Result.andThen]
    by_cases hcap : k + m ≤ slC d
    · cases d with
      | nil =>
        have hk0 : k = 0 := hok
        have hm0 : m = 0 := by have : k + m ≤ 0 := hcap; omega
        subst hk0 hm0
        have hcn : cells = [] := List.eq_nil_of_length_eq_zero (by simpa using hc)
        have hnn : new = [] := List.eq_nil_of_length_eq_zero (by simpa using hl)
        subst hcn hnn
        have : (exO (ev (lk L b)) (.call { callee := .builtin .append, args := #[x, y], argTypes := #[t, t2] }) ty).run P w = .ok (.value (.slice none 0 0)) w := by
          rw [start]
          simp [Builtin.append_, slQ, slC, ht, ht2, hz, Builtin.lenOf, hfirst, Sem.run_bind, Result.andThen]
        rw [this]
        exact ⟨_, hO, .nil, rfl, rfl, by simp [slH]⟩
      | blk n cap junk =>
        obtain ⟨hk1, hk2⟩ := hok
        have hcap' : k + m ≤ cap := hcap
        have hhas : w.heap[n]? = some (Cl (cells ++ junk) e) := hO.drop.has (n, Cl (cells ++ junk) e) (by simp [slH])
        have hmul : (cap - k) * sz = (cap - (k + m)) * sz + m * sz := by rw [← Nat.add_mul]; congr 1; omega
        have hst := run_storeCells (P := P) (n := n) (o := k * sz) (t := e) new 0 (cells ++ junk) w hhas h1' (by simp [hc, hl, hk2]; omega)
        have hset : setL (cells ++ junk) (k * sz + 0) new = (cells ++ new) ++ junk.drop (m * sz) := by
          have e1 : junk = junk.take (m * sz) ++ junk.drop (m * sz) := (List.take_append_drop _ _).symm
          have e2 : (junk.take (m * sz)).length = new.length := by rw [List.length_take, hl, hk2]; omega
          have key : ∀ (pre l post vs : List Value), l.length = vs.length → setL (pre ++ (l ++ post)) pre.length vs = pre ++ vs ++ post := by
            intro pre l post vs
            induction vs generalizing pre l with
            | nil => intro h; have : l = [] := List.eq_nil_of_length_eq_zero h; simp [setL, this]
            | cons v vs ih =>
              intro h
              cases l with
              | nil => simp at h
              | cons y l =>
                rw [setL]
                have e3 : (pre ++ (y :: l ++ post)).set pre.length v = (pre ++ [v]) ++ (l ++ post) := by simp
                rw [e3]
                have := ih (pre ++ [v]) l (by simpa using h)
                simp only [List.length_append, List.length_cons, List.length_nil, Nat.zero_add] at this
                rw [this]; simp
          rw [Nat.add_zero, ← hc]
          conv => lhs; rw [e1]
          exact key cells _ _ new e2
        rw [hset] at hst
        have : (exO (ev (lk L b)) (.call { callee := .builtin .append, args := #[x, y], argTypes := #[t, t2] }) ty).run P w = .ok (.value (.slice (some ⟨n, 0, none⟩) (k + m) cap)) (w.putObj n (Cl ((cells ++ new) ++ junk.drop (m * sz)) e)) := by
          rw [start]
          simp [Builtin.append_, slQ, slC, ht, ht2, hz, Builtin.lenOf, hfirst, hcap', add_at, hst, Sem.run_bind, Result.andThen]
        rw [this]
        refine ⟨_, hO.put (upd_mid (A := A)), .blk n cap (junk.drop (m * sz)), rfl, ⟨hcap', ?_⟩, by simp [slH]⟩
        rw [List.length_drop, hk2, hmul]; omega
    · have hlt : slC d < k + m := by omega
      have hnc := nextcap_le hlt
      have hgrow : ¬ 281474976710656 < Builtin.nextslicecap (k + m) (slC d) * by' := by
        have := Nat.mul_le_mul_right by' hnc
        omega
      let cap' := (Question.appendCap (k + m) (slC d) e).cut (w.tape w.drawn (Question.appendCap (k + m) (slC d) e))
      have hcap2 : k + m ≤ cap' := by simp only [cap', Question.cut]; omega
      let w1 : World := w.drew
      have hO1 : Own w0 (A ++ (slH d cells e ++ X)) w1 := hO.drawn
      have hfirst1 := run_first (P := P) (c := c) hO1 hq hl hn
      have hold1 : (Builtin.firstCells sz k (slV d k)).run P w1 = .ok cells.toArray w1 := by
        refine run_first (H := slH d cells e ++ X) hO1.drop ?_ hc fun i v hi => hok.cell hc hi
        by_cases hk : k = 0
        · exact .inl hk
        · exact .inr (hok.bas (by omega))
      have hroom : (askRoom (cap' * by')).run P w1 = .ok () w1 := by
        unfold askRoom; split <;> simp [mark, Sem.run]
      let junk := (Builtin.zeroCells z.cells (cap' - (k + m))).toList
      have this : (exO (ev (lk L b)) (.call { callee := .builtin .append, args := #[x, y], argTypes := #[t, t2] }) ty).run P w = .ok (.value (.slice (some ⟨w.heap.size, 0, none⟩) (k + m) cap')) (w1.alloc (Cl ((cells ++ new) ++ junk) e)) := by
        rw [start]
        have harr : cells.toArray ++ (new.toArray ++ Builtin.zeroCells z.cells (cap' - (k + m))) = ((cells ++ new) ++ junk).toArray := by
          apply Array.ext'; simp [junk]
        have hnr : (newRow e (cells.toArray ++ (new.toArray ++ Builtin.zeroCells z.cells (cap' - (k + m))))).run P w1 = .ok ⟨w.heap.size, 0, none⟩ (w1.alloc (Cl ((cells ++ new) ++ junk) e)) := by
          rw [harr]; exact run_new (P := P) w1 e ((cells ++ new) ++ junk)
        have hcut : (Question.appendCap (k + m) (slC d) e).cut (w.tape w.drawn (Question.appendCap (k + m) (slC d) e)) = cap' := rfl
        have hw1 : w.drew = w1 := rfl
        simp [Builtin.append_, ht, ht2, hz, hi, hby, hb0, Builtin.lenOf, hcap, hgrow, Question.forced, hcut, hw1, hroom, hold1, hfirst1, hzv, hnr, Sem.run_bind, Result.andThen, -List.append_assoc]
      rw [this]
      have hO2 := hO1.alloc (Cl ((cells ++ new) ++ junk) e)
      refine ⟨A ++ (slH (.blk w.heap.size cap' junk) (cells ++ new) e ++ X), ?_, .blk w.heap.size cap' junk, rfl, ⟨hcap2, by simp only [junk]; rw [zero_len hzs]⟩, rfl⟩
      have hsub : ((w.heap.size, Cl ((cells ++ new) ++ junk) e) :: (A ++ X)).Sublist ((w1.heap.size, Cl ((cells ++ new) ++ junk) e) :: (A ++ (slH d cells e ++ X))) := List.Sublist.cons_cons _ ((List.Sublist.refl A).append (List.sublist_append_right _ _))
      refine own_perm (hO2.sub hsub) ?_
      simp only [slH, List.cons_append, List.nil_append]
      exact List.perm_middle.symm⟩
/-- append of one element -/
theorem eff_app1 {α : Type} {enc : α → List Value} (v : α) {A X : List (Nat × Obj)} {d : Sl} {l : List α} {n sz by' : Nat} {z : Value} {i0 : TypeInfo} {e2 : TypeId} (hx : Ev L x (slV d l.length)) (hy : Ev L y (.slice (some ⟨n, 0, none⟩) 1 1))
    (ht : ∀ w, (underlying t).run P w = .ok (.slice e) w) (ht2 : ∀ w, (underlying t2).run P w = .ok (.slice e2) w) (hz : ∀ w, (sizeOf e).run P w = .ok sz w) (hi : ∀ w, (typeInfo e).run P w = .ok i0 w) (hby : i0.bytes = by') (hzv : ∀ w, (zeroValue e).run P w = .ok z w) (hzs : z.cells.size = sz)
    (he : ∀ u, (enc u).length = sz) (h1 : (enc v).all oneB = true) (hok : SlOk d l.length sz) (hb0 : by' ≠ 0) (hb : (2 * (l.length + 1) + 600) * by' ≤ 281474976710656) (hn : Cells w0 (A ++ (slH d (l.flatMap enc) e ++ X)) n 0 (enc v) := by exact cs_o) :
    Eff P w0 (.call { callee := .builtin .append, args := #[x, y], argTypes := #[t, t2] }) ty L (A ++ (slH d (l.flatMap enc) e ++ X)) (fun u H' => ∃ d', u = slV d' (l.length + 1) ∧ SlOk d' (l.length + 1) sz ∧ H' = A ++ (slH d' ((l ++ [v]).flatMap enc) e ++ X)) := by
  have h := eff_append (P := P) (w0 := w0) (L := L) (ty := ty) (A := A) (X := X) (d := d) (cells := l.flatMap enc) (new := enc v) (k := l.length) (m := 1) hx hy ht ht2 hz hi hby hzv hzs (.inr rfl) (by rw [he, Nat.one_mul]) hn h1 (flat_len he l) hok hb0 hb
  rw [List.flatMap_append]
  simpa using h
end
end Go.Proofs.Ytdbffighngmibaa
