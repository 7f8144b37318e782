/-
  A small program logic over the model: the frame is a list of slots and values, the memory of the call's own a list of blocks. Over any program.
-/
import Derived.RangeFuncLeaves
import Derived.RangeFuncRecord
import Derived.RangeFuncIn
import Derived.OrdersIn
import Derived.Below
import Derived.WalkKit
namespace Go.Proofs.Ytdbffighngmibaa
open Go.RowKit
/-! ### Frames -/
abbrev Fm := List (Nat × Value)
def lk (L : Fm) (b : Nat → Value) (k : Nat) : Value :=
  match L with
  | [] => b k
  | e :: r => match Nat.beq e.1 k with
    | true => e.2
    | false => lk r b k
def At (L : Fm) (k : Nat) (v : Value) : Prop := ∀ b, lk L b k = v
theorem at_h {L : Fm} {k : Nat} {v : Value} : At ((k, v) :: L) k v := fun b => by simp [lk]
theorem at_t {L : Fm} {k d : Nat} {v x : Value} (h : Nat.beq d k = false) (t : At L k v) : At ((d, x) :: L) k v := fun b => by unfold lk; simp only [h]; exact t b
/-- the value in a slot, as the list says -/
def fnd? : Fm → Nat → Option Value
  | [], _ => none
  | (d, v) :: r, k => match Nat.beq d k with
    | true => some v
    | false => fnd? r k
theorem at_f : ∀ {L : Fm} {k : Nat} {v : Value}, fnd? L k = some v → At L k v
  | [], _, _, h => by cases h
  | (d, u) :: r, k, v, h => fun b => by
    rw [fnd?] at h
    rw [lk]
    cases hb : Nat.beq d k
    · simp only [hb] at h ⊢; exact at_f h b
    · simp only [hb] at h ⊢; exact Option.some.inj h
theorem at_e {L : Fm} {k : Nat} {v u : Value} (h : At L k v) (e : v = u) : At L k u := e ▸ h
theorem vint {k : IntKind} {a b : Int} (h : a = b) : Value.int k a = .int k b := by rw [h]
theorem vbool {a b : Bool} (h : a = b) : Value.bool a = .bool b := by rw [h]
def ev (σ : Nat → Value) : Operand → Value
  | .tmp t => σ t
  | .const v => v
  | .global g => .pointer (some ⟨g, 0, none⟩)
  | .func f => .func (.func f) #[] #[]
def Ev (L : Fm) (x : Operand) (v : Value) : Prop := ∀ b, ev (lk L b) x = v
theorem ev_t {L : Fm} {k : Nat} {v : Value} (h : At L k v) : Ev L (.tmp k) v := h
theorem ev_c {L : Fm} {v : Value} : Ev L (.const v) v := fun _ => rfl
theorem ev_g {L : Fm} {g : Nat} : Ev L (.global g) (.pointer (some ⟨g, 0, none⟩)) := fun _ => rfl
theorem ev_f {L : Fm} {f : Nat} : Ev L (.func f) (.func (.func f) #[] #[]) := fun _ => rfl
def fr (a : Act) : Nat → Value := fun k => a.tmps.getD k undef
theorem eval_fr (a : Act) (x : Operand) : a.eval x = ev (fr a) x := by cases x <;> rfl
theorem eval_fr' (a : Act) : a.eval = ev (fr a) := funext (eval_fr a)
theorem fr_put {a : Act} {d : Nat} {v : Value} {L : Fm} {b : Nat → Value} (hd : d < a.tmps.size) (h : fr a = lk L b) : fr (a.put (some d) v) = lk ((d, v) :: L) b := by
  funext k
  have hk := congrFun h k
  unfold fr at *
  unfold lk
  simp only [Act.put]
  by_cases hdk : d = k
  · subst hdk
    simp [Nat.beq_refl, Array.getD_eq_getD_getElem?, hd]
  · have : Nat.beq d k = false := by
      cases hb : Nat.beq d k
      · rfl
      · exact absurd (Nat.eq_of_beq_eq_true hb) hdk
    simp only [this]
    rw [← hk]
    simp [Array.getD_eq_getD_getElem?, Array.getElem?_setIfInBounds_ne hdk]
theorem size_put (a : Act) (d : Option Tmp) (v : Value) : (a.put d v).tmps.size = a.tmps.size := by cases d <;> simp [Act.put]
theorem defers_put (a : Act) (d : Option Tmp) (v : Value) : (a.put d v).defers = a.defers := by cases d <;> rfl
/-! ### Memory -/
structure Own (w0 : World) (H : List (Nat × Obj)) (w : World) : Prop where
  below : Below w0.heap.size w0 w
  has : ∀ e ∈ H, w.heap[e.1]? = some e.2
  base : ∀ e ∈ H, w0.heap.size ≤ e.1
  nodup : (H.map (·.1)).Nodup
theorem Own.start (w : World) : Own w [] w := ⟨Below.refl _ _, by simp, by simp, by simp⟩
theorem Own.tail {w0 w : World} {e : Nat × Obj} {H : List (Nat × Obj)} (h : Own w0 (e :: H) w) : Own w0 H w :=
  ⟨h.below, fun x hx => h.has x (by simp [hx]), fun x hx => h.base x (by simp [hx]), by have := h.nodup; simp at this; exact this.2⟩
theorem Own.drop {w0 w : World} {X H : List (Nat × Obj)} (h : Own w0 (X ++ H) w) : Own w0 H w := by
  induction X with
  | nil => exact h
  | cons e X ih => exact ih h.tail
/-- what is owned less is owned -/
theorem Own.sub {w0 w : World} {H H' : List (Nat × Obj)} (h : Own w0 H w) (hs : H'.Sublist H) : Own w0 H' w :=
  ⟨h.below, fun x hx => h.has x (hs.subset hx), fun x hx => h.base x (hs.subset hx), h.nodup.sublist (hs.map _)⟩
theorem Own.drawn {w0 w : World} {H : List (Nat × Obj)} (h : Own w0 H w) : Own w0 H { w with drawn := w.drawn + 1 } :=
  ⟨⟨h.below.os, h.below.tape, h.below.output, h.below.size, h.below.block⟩, h.has, h.base, h.nodup⟩
theorem Own.alloc {w0 w : World} {H : List (Nat × Obj)} (h : Own w0 H w) (o : Obj) : Own w0 ((w.heap.size, o) :: H) (w.alloc o) := by
  have hlt : ∀ e ∈ H, e.1 < w.heap.size := fun e he => (Array.getElem?_eq_some_iff.1 (h.has e he)).1
  refine ⟨h.below.alloc h.below.size _, fun e he => ?_, fun e he => ?_, ?_⟩
  · rcases List.mem_cons.1 he with rfl | he
    · exact World.alloc_heap_new _ _
    · rw [Below.heap_alloc _ _ _ (hlt e he)]; exact h.has e he
  · rcases List.mem_cons.1 he with rfl | he
    · exact h.below.size
    · exact h.base e he
  · simp only [List.map_cons, List.nodup_cons]
    refine ⟨fun hm => ?_, h.nodup⟩
    obtain ⟨e, he, heq⟩ := List.mem_map.1 hm
    have := hlt e he
    omega
/-- block n holds o -/
def Fnd (H : List (Nat × Obj)) (n : Nat) (o : Obj) : Prop := (n, o) ∈ H
theorem fnd_h {H : List (Nat × Obj)} {n : Nat} {o : Obj} : Fnd ((n, o) :: H) n o := by simp [Fnd]
theorem fnd_t {H : List (Nat × Obj)} {n : Nat} {o : Obj} {e : Nat × Obj} (h : Fnd H n o) : Fnd (e :: H) n o := by simp [Fnd] at *; exact .inr h
section
variable {α : Type} {a b c d e f g h i j : α} {l : List α}
theorem sb0 : l.Sublist l := List.Sublist.refl _
theorem sb1 : l.Sublist (a :: l) := sb0.cons _
theorem sb2 : l.Sublist (a :: b :: l) := sb1.cons _
theorem sb3 : l.Sublist (a :: b :: c :: l) := sb2.cons _
theorem sb4 : l.Sublist (a :: b :: c :: d :: l) := sb3.cons _
theorem sb5 : l.Sublist (a :: b :: c :: d :: e :: l) := sb4.cons _
theorem sb6 : l.Sublist (a :: b :: c :: d :: e :: f :: l) := sb5.cons _
theorem sb7 : l.Sublist (a :: b :: c :: d :: e :: f :: g :: l) := sb6.cons _
theorem sb8 : l.Sublist (a :: b :: c :: d :: e :: f :: g :: h :: l) := sb7.cons _
theorem sb9 : l.Sublist (a :: b :: c :: d :: e :: f :: g :: h :: i :: l) := sb8.cons _
theorem sb10 : l.Sublist (a :: b :: c :: d :: e :: f :: g :: h :: i :: j :: l) := sb9.cons _
end
theorem sbt {α : Type} {l l' : List α} (h : l.Sublist l' := by first | exact sb0 | exact sb1 | exact sb2 | exact sb3 | exact sb4 | exact sb5 | exact sb6 | exact sb7 | exact sb8 | ((repeat (first | exact sb0 | refine List.Sublist.cons_cons _ ?_ | refine List.Sublist.cons _ ?_ | refine List.Sublist.append (List.Sublist.refl _) ?_ | refine List.Sublist.trans ?_ (List.sublist_append_right _ _))); done)) : l.Sublist l' := h
theorem fnd_a {X H : List (Nat × Obj)} {n : Nat} {o : Obj} (h : Fnd H n o) : Fnd (X ++ H) n o := by simp [Fnd] at *; exact .inr h
/-- H' is H with o' in block n for o -/
inductive Upd : List (Nat × Obj) → Nat → Obj → Obj → List (Nat × Obj) → Prop
  | h {H n o o'} : Upd ((n, o) :: H) n o o' ((n, o') :: H)
  | t {H n o o' H' e} : Upd H n o o' H' → Upd (e :: H) n o o' (e :: H')
theorem upd_a {X H H' : List (Nat × Obj)} {n : Nat} {o o' : Obj} (h : Upd H n o o' H') : Upd (X ++ H) n o o' (X ++ H') := by
  induction X with
  | nil => exact h
  | cons e X ih => exact .t ih
theorem Upd.fst {H H' : List (Nat × Obj)} {n : Nat} {o o' : Obj} (h : Upd H n o o' H') : H'.map (·.1) = H.map (·.1) := by
  induction h with
  | h => rfl
  | t _ ih => simp [ih]
theorem Upd.mem {H H' : List (Nat × Obj)} {n : Nat} {o o' : Obj} (h : Upd H n o o' H') : (n, o) ∈ H := by
  induction h with
  | h => simp
  | t _ ih => simp [ih]
theorem Upd.cases {H H' : List (Nat × Obj)} {n : Nat} {o o' : Obj} (h : Upd H n o o' H') (hn : (H.map (·.1)).Nodup) : ∀ e ∈ H', e = (n, o') ∨ (e ∈ H ∧ e.1 ≠ n) := by
  induction h with
  | @h H n o o' =>
    intro e he
    rcases List.mem_cons.1 he with rfl | he
    · exact .inl rfl
    · simp only [List.map_cons, List.nodup_cons] at hn
      exact .inr ⟨by simp [he], fun h => hn.1 (List.mem_map.2 ⟨e, he, h⟩)⟩
  | @t H n o o' H' e0 hu ih =>
    intro e he
    simp only [List.map_cons, List.nodup_cons] at hn
    rcases List.mem_cons.1 he with rfl | he
    · exact .inr ⟨by simp, fun h => hn.1 (by rw [h]; exact List.mem_map.2 ⟨_, hu.mem, rfl⟩)⟩
    · rcases ih hn.2 e he with h | ⟨h1, h2⟩
      · exact .inl h
      · exact .inr ⟨by simp [h1], h2⟩
theorem Own.put {w0 w : World} {H H' : List (Nat × Obj)} {n : Nat} {o o' : Obj} (h : Own w0 H w) (hu : Upd H n o o' H') : Own w0 H' (w.putObj n o') := by
  have hb := h.base _ hu.mem
  have hlt : n < w.heap.size := (Array.getElem?_eq_some_iff.1 (h.has _ hu.mem)).1
  refine ⟨h.below.trans ⟨rfl, rfl, rfl, by simp, fun k hk => World.putObj_heap_other (by simp at hb; omega)⟩, fun e he => ?_, fun e he => ?_, by rw [hu.fst]; exact h.nodup⟩
  · rcases hu.cases h.nodup e he with rfl | ⟨h1, h2⟩
    · exact World.putObj_heap_same hlt
    · rw [World.putObj_heap_other h2]; exact h.has e h1
  · rcases hu.cases h.nodup e he with rfl | ⟨h1, h2⟩
    · exact hb
    · exact h.base e h1
/-- a block of cells -/
abbrev Cl (l : List Value) (t : TypeId) : Obj := .cells l.toArray t (0, 0)
inductive Nth : List Value → Nat → Value → Prop
  | h {v l} : Nth (v :: l) 0 v
  | t {v x l i} : Nth l i v → Nth (x :: l) (i + 1) v
def nth? : List Value → Nat → Option Value
  | [], _ => none
  | v :: _, 0 => some v
  | _ :: l, i + 1 => nth? l i
theorem nth_eq : ∀ {l : List Value} {i : Nat} {v : Value}, nth? l i = some v → l[i]? = some v
  | [], _, _, h => by cases h
  | v :: l, 0, _, h => by simpa [nth?] using h
  | _ :: l, i + 1, _, h => by simpa using nth_eq (l := l) h
theorem nth_of : ∀ {l : List Value} {i : Nat} {v : Value}, nth? l i = some v → Nth l i v
  | [], _, _, h => by cases h
  | v :: l, 0, u, h => by simp [nth?] at h; subst h; exact .h
  | _ :: l, i + 1, _, h => .t (nth_of h)
theorem Nth.get {l : List Value} {i : Nat} {v : Value} (h : Nth l i v) : l[i]? = some v := by
  induction h with
  | h => rfl
  | t _ ih => simpa using ih
theorem Own.cell {w0 w : World} {H : List (Nat × Obj)} {n i : Nat} {l : List Value} {t : TypeId} {v : Value} (h : Own w0 H w) (hf : Fnd H n (Cl l t)) (hi : l[i]? = some v) : w.cell? ⟨n, i, none⟩ = some v := by
  have := h.has _ hf
  simp only at this
  simp [World.cell?, this, hi]
theorem Own.free {w0 w : World} {H : List (Nat × Obj)} {n i : Nat} {l : List Value} {t : TypeId} (h : Own w0 H w) (hf : Fnd H n (Cl l t)) : w.frozen? ⟨n, i, none⟩ = false := by
  have := h.has _ hf
  simp only at this
  simp [World.frozen?, this]
theorem setCell_put {w : World} {n i : Nat} {c : Array Value} {t : TypeId} {f : Nat × Nat} (v : Value) (h : w.heap[n]? = some (.cells c t f)) : w.setCell ⟨n, i, none⟩ v = w.putObj n (.cells (c.setIfInBounds i v) t f) := by
  obtain ⟨hlt, he⟩ := Array.getElem?_eq_some_iff.1 h
  unfold World.setCell World.putObj
  congr 1
  apply Array.ext
  · simp
  · intro k h1 h2
    simp only [Array.getElem_modify]
    by_cases hk : n = k
    · subst hk
      simp only [if_true]
      rw [he]
      simp
    · rw [if_neg hk, Array.getElem_setIfInBounds_ne (h := hk)]
end Go.Proofs.Ytdbffighngmibaa
