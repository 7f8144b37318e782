/-
  A part of what LawH rests on: the logic, walks and plain laws. No condition.
-/
import Derived.Test.YtkdolgnpkjihpaaGreatDoorJH4
import Derived.Test.YtkdolgnpkjihpaaGreatDoorRows
import Derived.WalkKit
import Derived.ProofKit
import Derived.OpenShut
import Derived.Lib.SmallJoins
import Derived.Deep.SlicePairs
import Derived.Test.YtkdolgnpkjihpaaGreatDoorCards
import Derived.Test.YtkdolgnpkjihpaaGreatDoorTie
import Derived.Deep.DeepHandedRow
namespace Go.Proofs.YtkdolgnpkjihpaaGreatDoor
open _root_.Go.Proofs.Tryz
open Go.RowKit
set_option linter.unusedVariables false
set_option linter.unusedSimpArgs false
abbrev PdI := Nat → Value → List (Nat × Obj) → Prop
inductive DepF (Φ : PdI) (H : List (Nat × Obj)) : List (Nat × Nat) → Fm → Prop
 | nil : DepF Φ H [] []
 | cons {j s v ds F} : Φ j v H → DepF Φ H ds F → DepF Φ H ((j, s) :: ds) ((s, v) :: F)
def dstI (ops : Array Oper) (j : Nat) : Option (Nat × Nat) := (ops[j]?).bind fun o => o.dst.map fun d => (j, d)
def depsOf (ops : Array Oper) (o : Oper) : List (Nat × Nat) := o.after.toList.filterMap fun e => if Region.binds md e then dstI ops e.on else none
def allOf (ops : Array Oper) (t : Nat) : List (Nat × Nat) := (List.range t).filterMap fun j => dstI ops j
def Agr (L : Fm) (σ : Nat → Value) : Prop := ∀ k v, fnd? L k = some v → σ k = v
theorem lk_fnd (b : Nat → Value) (k : Nat) : ∀ L : Fm, lk L b k = (fnd? L k).getD (b k)
 | [] => rfl
 | (d, v) :: r => by
  rw [lk, fnd?]
  cases hb : Nat.beq d k
  ·simp only [hb]; exact lk_fnd b k r
  ·simp only [hb]; rfl
theorem lk_agr {L : Fm} {σ : Nat → Value} (h : Agr L σ) : lk L σ = σ := by
 funext k
 rw [lk_fnd]
 cases hf : fnd? L k with
 | none => rfl
 | some v => exact (h k v hf).symm
theorem agr_lk {L : Fm} {b : Nat → Value} : Agr L (lk L b) := fun k v h => by rw [lk_fnd, h]; rfl
theorem fnd_key {L : Fm} {k : Nat} {v : Value} : fnd? L k = some v → k ∈ L.map Prod.fst := by
 induction L with
 | nil => intro h; cases h
 | cons e r ih =>
  obtain ⟨d, u⟩ := e
  intro h
  rw [fnd?] at h
  cases hb : Nat.beq d k
  ·simp only [hb] at h; simp only [List.map_cons, List.mem_cons]; exact .inr (ih h)
  ·have := Nat.eq_of_beq_eq_true hb; subst this; simp
theorem fnd_app {F L : Fm} {k : Nat} {v : Value} (h : fnd? (F ++ L) k = some v) : fnd? F k = some v ∨ fnd? L k = some v := by
 induction F with
 | nil => exact .inr h
 | cons e r ih =>
  obtain ⟨d, u⟩ := e
  rw [List.cons_append, fnd?] at h
  rw [fnd?]
  cases hb : Nat.beq d k
  ·simp only [hb] at h ⊢; exact ih h
  ·simp only [hb] at h ⊢; exact .inl h
theorem agr_put {L : Fm} {a : Act} {d : Nat} {v : Value} (h : Agr L (fr a)) (hd : d ∉ L.map Prod.fst) : Agr L (fr (a.put (some d) v)) := fun k u hk => by
 have hne : d ≠ k := fun e => hd (e ▸ fnd_key hk)
 rw [← h k u hk]
 unfold fr
 simp [Act.put, Array.getD_eq_getD_getElem?, Array.getElem?_setIfInBounds_ne hne]
theorem fr_same {a : Act} {d : Nat} {v : Value} (hd : d < a.tmps.size) : fr (a.put (some d) v) d = v := by
 unfold fr; simp [Act.put, Array.getD_eq_getD_getElem?, hd]
theorem fr_other {a : Act} {d k : Nat} {v : Value} (hd : d ≠ k) : fr (a.put (some d) v) k = fr a k := by
 unfold fr; simp [Act.put, Array.getD_eq_getD_getElem?, Array.getElem?_setIfInBounds_ne hd]
theorem depF_of {Φ : PdI} {H : List (Nat × Obj)} {σ : Nat → Value} : ∀ (ds : List (Nat × Nat)), (∀ e ∈ ds, Φ e.1 (σ e.2) H) → DepF Φ H ds (ds.map fun e => (e.2, σ e.2))
 | [], _ => .nil
 | (j, s) :: ds, h => .cons (h (j, s) (by simp)) (depF_of ds fun e he => h e (by simp [he]))
theorem agr_dep {σ : Nat → Value} {L : Fm} (h : Agr L σ) (ds : List (Nat × Nat)) : Agr (ds.map (fun e => (e.2, σ e.2)) ++ L) σ := fun k v hk => by
 rcases fnd_app hk with hk | hk
 ·induction ds with
  | nil => cases hk
  | cons e r ih =>
   rw [List.map_cons, fnd?] at hk
   cases hb : Nat.beq e.2 k
   ·simp only [hb] at hk; exact ih (by
     show fnd? (r.map (fun e => (e.2, σ e.2)) ++ L) k = some v
     have : ∀ F : Fm, fnd? F k = some v → fnd? (F ++ L) k = some v := by
      intro F hF
      induction F with
      | nil => cases hF
      | cons e r ih =>
       obtain ⟨d, u⟩ := e
       rw [List.cons_append, fnd?]
       rw [fnd?] at hF
       cases hb : Nat.beq d k
       ·simp only [hb] at hF ⊢; exact ih hF
       ·simp only [hb] at hF ⊢; exact hF
     exact this _ hk) hk
   ·simp only [hb] at hk
    have := Nat.eq_of_beq_eq_true hb
    rw [← this]; exact Option.some.inj hk
 ·exact h k v hk
theorem countP_one {p q : Nat → Bool} {i : Nat} (hp : p i = true) (hq : q i = false) (h : ∀ j, j ≠ i → p j = q j) : ∀ {l : List Nat}, l.Nodup → i ∈ l → l.countP p = l.countP q + 1
 | [], _, hi => by cases hi
 | x :: l, hn, hi => by
  simp only [List.nodup_cons] at hn
  by_cases e : x = i
  ·subst e
   have : l.countP p = l.countP q := List.countP_congr fun y hy => by rw [h y fun e => hn.1 (e ▸ hy)]
   rw [List.countP_cons, List.countP_cons, hp, hq, this]; simp
  ·have hi' : i ∈ l := by simpa [Ne.symm e] using hi
   have := countP_one hp hq h hn.2 hi'
   rw [List.countP_cons, List.countP_cons, h x e, this]; omega
section
variable {P : Program} {r : Option Nat} {N : Nat} {w0 : World} {ops : Array Oper} {t : Nat} {Q : Post} {L : Fm} {ds : List Deferred} {H0 H : List (Nat × Obj)} {Φ : PdI}
def StepI (P : Program) (w0 : World) (ops : Array Oper) (H0 : List (Nat × Obj)) (L : Fm) (Φ : PdI) (i : Nat) : Prop :=
 ∀ o, ops[i]? = some o → ∀ H F, H0.Sublist H → DepF Φ H (depsOf ops o) F → Eff P w0 o.op o.type (F ++ L) H (fun v H' => H.Sublist H' ∧ Φ i v H')
def opI (ops : Array Oper) (N : Nat) (keys : List Nat) (i : Nat) : Bool :=
 match ops[i]? with
 | some ⟨some d, _, _, _, af, none⟩ => Nat.blt d N && !(keys.contains d) && af.toList.all fun e => !(Region.binds md e) || Nat.blt e.on i
 | _ => false
def invB (ops : Array Oper) (t N : Nat) (keys : List Nat) (sel : List (Nat × Nat)) : Bool :=
 tailB ops t && noDefer ops && Region.noSelect ops && ((List.range t).all fun i => opI ops N keys i) && decide ((allOf ops t).map Prod.snd).Nodup && tailOk ops (ops.size - t) t ((List.range ops.size).map fun j => Nat.blt j t).toArray && sel.all fun e => Nat.blt e.1 t && (dstI ops e.1 == some e)
theorem wpO_inv (hN : (List.range t).all (fun i => opI ops N (L.map Prod.fst) i) = true) (hnd : ((allOf ops t).map Prod.snd).Nodup) (htl : t ≤ ops.size) (htk : tailOk ops (ops.size - t) t ((List.range ops.size).map fun j => Nat.blt j t).toArray = true)
  (mono : ∀ i v H H', Φ i v H → H.Sublist H' → Φ i v H') (hst : ∀ i, i < t → StepI P w0 ops H0 L Φ i)
  (k : ∀ (a : Act) H, a.tmps.size = N → a.defers = ds → Agr L (fr a) → H0.Sublist H → (∀ j d, j < t → dstI ops j = some (j, d) → Φ j (fr a d) H) → ∀ w, Own w0 H w → wpListIn (rd r) 0 P ops (LQ N Q) (ops.toList.drop t) a w) :
  ∀ (f : Nat) (listed : Array Bool) (a : Act) (H : List (Nat × Obj)), HeadInv md ops t listed → (List.range t).countP (fun j => !(listed.getD j false)) = f → H0.Sublist H → a.tmps.size = N → a.defers = ds → Agr L (fr a) → (∀ j d, j < t → listed.getD j false = true → dstI ops j = some (j, d) → Φ j (fr a d) H) →
   wpO P r ops (LQ N Q) w0 H0 t f listed a H := by
 have hop : ∀ i, i < t → ∃ d op ty p af, ops[i]? = some ⟨some d, op, ty, p, af, none⟩ ∧ d < N ∧ d ∉ L.map Prod.fst ∧ ∀ e ∈ af, Region.binds md e = true → e.on < i := fun i hi => by
  have h1 := List.all_eq_true.1 hN i (by simpa using hi)
  unfold opI at h1
  split at h1
  ·rename_i d op ty p af h2
   simp only [Bool.and_eq_true, Nat.blt_eq, Bool.not_eq_true', List.all_eq_true, Bool.or_eq_true] at h1
   obtain ⟨⟨h3, h4⟩, h5⟩ := h1
   refine ⟨d, op, ty, p, af, h2, h3, by simpa using h4, fun e he hb => ?_⟩
   rcases h5 e (by simpa using he) with h6 | h6
   ·rw [hb] at h6; cases h6
   ·exact h6
  ·cases h1
 have hdd : ∀ i j d d', i < t → j < t → i ≠ j → dstI ops i = some (i, d) → dstI ops j = some (j, d') → d ≠ d' := by
  intro i j d d' hi hj hij h1 h2 e
  subst e
  have key : ∀ l : List Nat, l.Nodup → i ∈ l → j ∈ l → ((l.filterMap fun j => dstI ops j).map Prod.snd).Nodup → False := by
   intro l
   induction l with
   | nil => intro _ h; cases h
   | cons x l ih =>
    intro hl hi hj hn
    simp only [List.nodup_cons] at hl
    by_cases ex : x = i
    ·subst ex
     have hj' : j ∈ l := by simpa [Ne.symm hij] using hj
     rw [List.filterMap_cons, h1] at hn
     simp only [List.map_cons, List.nodup_cons] at hn
     exact hn.1 (List.mem_map.2 ⟨(j, d), List.mem_filterMap.2 ⟨j, hj', h2⟩, rfl⟩)
    ·by_cases ey : x = j
     ·subst ey
      have hi' : i ∈ l := by simpa [Ne.symm ex] using hi
      rw [List.filterMap_cons, h2] at hn
      simp only [List.map_cons, List.nodup_cons] at hn
      exact hn.1 (List.mem_map.2 ⟨(i, d), List.mem_filterMap.2 ⟨i, hi', h1⟩, rfl⟩)
     ·refine ih hl.2 (by simpa [Ne.symm ex] using hi) (by simpa [Ne.symm ey] using hj) ?_
      rw [List.filterMap_cons] at hn
      cases hx : dstI ops x with
      | none => rw [hx] at hn; exact hn
      | some y => rw [hx] at hn; simp only [List.map_cons, List.nodup_cons] at hn; exact hn.2
  exact key _ List.nodup_range (by simpa using hi) (by simpa using hj) hnd
 intro f
 induction f with
 | zero =>
  intro listed a H inv hc hs hsz hd hA hall
  have hl : ∀ j, j < t → listed.getD j false = true := fun j hj => by
   have := List.countP_eq_zero.1 hc j (by simpa using hj)
   simpa using this
  have he : listed = ((List.range ops.size).map fun j => Nat.blt j t).toArray := by
   apply Array.ext
   ·simp [inv.size]
   ·intro j h1 h2
    simp only [List.getElem_toArray, List.getElem_map, List.getElem_range]
    by_cases hj : j < t
    ·have := hl j hj
     simp [h1] at this
     rw [this]; exact (by simpa [Nat.blt_eq] using hj : Nat.blt j t = true).symm
    ·have := inv.tail j (by omega) (by rw [← inv.size]; exact h1)
     simp [h1] at this
     rw [this]
     cases hb : Nat.blt j t
     ·rfl
     ·rw [Nat.blt_eq] at hb; omega
  refine ⟨by rw [he]; exact htk, fun w hO => ?_⟩
  exact k a H hsz hd hA hs (fun j d hj hd => hall j d hj (hl j hj) hd) w hO
 | succ f ih =>
  intro listed a H inv hc hs hsz hd hA hall
  have hex : ∃ i, i < t ∧ listed.getD i false = false ∧ ∀ j, j < i → listed.getD j false = true := by
   have h1 : ∃ i, i < t ∧ listed.getD i false = false := by
    by_cases h : ∃ i, i < t ∧ listed.getD i false = false
    ·exact h
    ·exfalso
     have : (List.range t).countP (fun j => !(listed.getD j false)) = 0 := List.countP_eq_zero.2 fun j hj => by
      have hj' : j < t := by simpa using hj
      cases hb : listed.getD j false
      ·exact absurd ⟨j, hj', hb⟩ h
      ·simp [hb]
     omega
   obtain ⟨i, hi1, hi2⟩ := h1
   have : ∀ n, ∀ i, i ≤ n → i < t → listed.getD i false = false → ∃ i, i < t ∧ listed.getD i false = false ∧ ∀ j, j < i → listed.getD j false = true := by
    intro n
    induction n with
    | zero => intro i h0 h1 h2; exact ⟨i, h1, h2, fun j hj => by omega⟩
    | succ n ihn =>
     intro i h0 h1 h2
     by_cases h : ∃ j, j < i ∧ listed.getD j false = false
     ·obtain ⟨j, hj1, hj2⟩ := h
      exact ihn j (by omega) (by omega) hj2
     ·refine ⟨i, h1, h2, fun j hj => ?_⟩
      cases hb : listed.getD j false
      ·exact absurd ⟨j, hj, hb⟩ h
      ·rfl
   exact this i i (Nat.le_refl _) hi1 hi2
  obtain ⟨i0, hi1, hi2, hi3⟩ := hex
  refine ⟨⟨i0, mem_ready.2 ⟨getD_in (by rw [inv.size]; omega) hi2, ?_⟩, hi1⟩, fun i hi hit w hO => ?_⟩
  ·obtain ⟨d, op, ty, p, af, h1, _, _, h2⟩ := hop i0 hi1
   exact ⟨_, h1, fun e he hb => hi3 _ (h2 e he hb)⟩
  ·obtain ⟨d, op, ty, p, af, h1, h2, h3, h4⟩ := hop i hit
   obtain ⟨hun, o', ho', hall'⟩ := mem_ready.1 hi
   rw [h1] at ho'
   obtain rfl := Option.some.inj ho'
   have hdst : dstI ops i = some (i, d) := by unfold dstI; rw [h1]; rfl
   have hdep : ∀ e ∈ depsOf ops ⟨some d, op, ty, p, af, none⟩, Φ e.1 (fr a e.2) H := fun e he => by
    unfold depsOf at he
    obtain ⟨x, hx, hxe⟩ := List.mem_filterMap.1 he
    by_cases hb : Region.binds md x = true
    ·rw [if_pos hb] at hxe
     have hx' : x ∈ af := by simpa using hx
     have hd1 : dstI ops x.on = some (x.on, e.2) ∧ e.1 = x.on := by
      unfold dstI at hxe ⊢
      cases ho : ops[x.on]? with
      | none => rw [ho] at hxe; cases hxe
      | some o =>
       rw [ho] at hxe
       simp only [Option.bind_some] at hxe ⊢
       cases hod : o.dst with
       | none => rw [hod] at hxe; cases hxe
       | some d' => rw [hod] at hxe; simp only [Option.map_some, Option.some.injEq] at hxe ⊢; subst hxe; exact ⟨rfl, rfl⟩
     rw [hd1.2]
     exact hall x.on e.2 (Nat.lt_trans (h4 x hx' hb) hit) (hall' x hx' hb) hd1.1
    ·rw [if_neg hb] at hxe; cases hxe
   have he := hst i hit _ h1 H _ hs (depF_of _ hdep)
   unfold wpOpIn
   simp only [h1]
   rw [if_pos (gd_u (L := L) (b := fr a) (N := N) Ag hsz (lk_agr hA).symm)]
   refine eff_wpIn (lk_agr (agr_dep hA _)).symm he hO fun v H' w' hk hO' => ?_
   refine ⟨H', hs.trans hk.1, hO', ih _ _ H' (inv.set hi hit) ?_ (hs.trans hk.1) (by rw [size_put]; exact hsz) (by rw [defers_put]; exact hd) (agr_put hA h3) fun j d' hj hl hdj => ?_⟩
   ·have := countP_one (p := fun j => !(listed.getD j false)) (q := fun j => !((listed.setIfInBounds i true).getD j false)) (i := i) (by simp only [getD_both hun]; rfl)
     (by simp [show i < listed.size from by rw [inv.size]; omega]) (fun j hj => by rw [getD_set_ne false (Ne.symm hj)]) (l := List.range t) List.nodup_range (by simpa using hit)
    omega
   ·by_cases hji : j = i
    ·subst hji
     rw [hdst] at hdj
     obtain rfl : d = d' := (Prod.mk.inj (Option.some.inj hdj)).2
     rw [fr_same (by rw [hsz]; exact h2)]; exact hk.2
    ·rw [fr_other (hdd i j d d' hit hj (Ne.symm hji) hdst hdj)]
     rw [getD_set_ne false (Ne.symm hji)] at hl
     exact mono _ _ _ _ (hall j d' hj hl hdj) hk.1
theorem j_inv {id : Nat} (t : Nat) (Φ : PdI) (sel : List (Nat × Nat)) (hm : P.follows .mixedOrders = true) (hb : invB ops t N (L.map Prod.fst) sel = true) (mono : ∀ i v H H', Φ i v H → H.Sublist H' → Φ i v H') (hst : ∀ i, i < t → StepI P w0 ops H L Φ i)
  (k : ∀ H' F, H.Sublist H' → DepF Φ H' sel F → JL P r N w0 ops (ops.toList.drop t) Q (F ++ L) ds H') (hP : NoPanic Q := by repeat (first | exact np_ret | exact np_round | exact np_assign | apply np_then | apply np_block | apply np_loop | apply np_cut)) : J P r N w0 (.region id ops true) Q L ds H := fun b w hO a hsz hf hd => by
 simp only [invB, Bool.and_eq_true, decide_eq_true_eq] at hb
 obtain ⟨⟨⟨⟨⟨⟨h1, h2⟩, h3⟩, h4⟩, h5⟩, h6⟩, h7⟩ := hb
 obtain ⟨hT, htl⟩ := tailB_spec h1
 have inv : HeadInv md ops t (Array.replicate ops.size false) := by
  refine ⟨by simp, fun j oj _ hl => (by rw [getD_replicate_false] at hl; cases hl), fun k _ hk => ?_⟩
  simp [hk]
 have hc : (List.range t).countP (fun j => !((Array.replicate ops.size false).getD j false)) = t := by
  rw [List.countP_eq_length.2]
  ·simp
  ·intro j _; rw [getD_replicate_false]; rfl
 have h8 := wpO_inv (r := r) (Q := Q) (ds := ds) h4 h5 htl h6 mono hst (fun a' H' hsz' hd' hA' hs' hall w' hO' => by
  have hF : ∀ e ∈ sel, Φ e.1 (fr a' e.2) H' := fun e he => by
   have := List.all_eq_true.1 h7 e he
   simp only [Bool.and_eq_true, Nat.blt_eq, beq_iff_eq] at this
   exact hall e.1 e.2 this.1 (by rw [this.2])
  exact k H' _ hs' (depF_of sel hF) (fr a') w' hO' a' hsz' (lk_agr (agr_dep hA' sel)).symm hd') t _ a H inv hc (List.Sublist.refl _) hsz hd (by rw [hf]; exact agr_lk) (fun j d _ hl => (by rw [getD_replicate_false] at hl; cases hl))
 have h9 := wpAny_of_wpO hT htl t _ a H { w with drawn := w.drawn + 1 } inv hO.drawn h8
 rw [show t + (ops.size - t) = ops.size by omega] at h9
 exact wpIn_region_any hm h9
end
theorem Eff.imp {P : Program} {w0 : World} {op : Op} {ty : TypeId} {L : Fm} {H : List (Nat × Obj)} {K K' : Value → List (Nat × Obj) → Prop} (h : Eff P w0 op ty L H K) (hk : ∀ v H', K v H' → K' v H') : Eff P w0 op ty L H K' := ⟨h.1, fun b w hO => by
 have h1 := h.2 b w hO
 generalize (exO (ev (lk L b)) op ty).run P w = res at h1 ⊢
 cases res with
 | ok n w' =>
  cases n <;> simp only [effO] at h1 ⊢
  case value v => obtain ⟨H', h2, h3⟩ := h1; exact ⟨H', h2, hk _ _ h3⟩
  case skip => obtain ⟨H', h2, h3⟩ := h1; exact ⟨H', h2, hk _ _ h3⟩
  case enter f args => exact h1.mono fun e w'' ⟨v, H', he, h2, h3⟩ => ⟨v, H', he, h2, hk _ _ h3⟩
  case round l f tmps assign body => exact RoundIn.mono h1 fun e w'' ⟨v, H', he, h2, h3⟩ => ⟨v, H', he, h2, hk _ _ h3⟩
 | halt x w' => exact h1⟩
theorem DepF.un {Φ : PdI} {H : List (Nat × Obj)} {j s : Nat} {ds : List (Nat × Nat)} {F : Fm} (h : DepF Φ H ((j, s) :: ds) F) : ∃ v F', F = (s, v) :: F' ∧ Φ j v H ∧ DepF Φ H ds F' := by
 cases h with
 | cons h1 h2 => exact ⟨_, _, rfl, h1, h2⟩
theorem DepF.no {Φ : PdI} {H : List (Nat × Obj)} {F : Fm} (h : DepF Φ H [] F) : F = [] := by cases h; rfl
def dget? : List (Nat × Nat) → Nat → Option Nat
 | [], _ => none
 | (j, s') :: r, s => match Nat.beq s' s with
  | true => some j
  | false => dget? r s
theorem Db {Φ : PdI} {H : List (Nat × Obj)} {ds : List (Nat × Nat)} {F L : Fm} {s j : Nat} (h : DepF Φ H ds F) (hg : dget? ds s = some j) : ∃ v, fnd? (F ++ L) s = some v ∧ Φ j v H := by
 induction h with
 | nil => cases hg
 | @cons j' s' v ds F hv hr ih =>
  rw [dget?] at hg
  rw [List.cons_append, fnd?]
  cases hb : Nat.beq s' s
  ·simp only [hb] at hg ⊢; exact ih hg
  ·simp only [hb] at hg ⊢
   obtain rfl := Option.some.inj hg
   exact ⟨v, rfl, hv⟩
theorem step_mk {P : Program} {w0 : World} {ops : Array Oper} {H0 : List (Nat × Obj)} {L : Fm} {Φ : PdI} {i : Nat} {d : Option Tmp} {op : Op} {ty : TypeId} {p : String} {af : Array Edge} (hi : ops[i]? = some ⟨d, op, ty, p, af, none⟩)
  (h : ∀ H F, H0.Sublist H → DepF Φ H (depsOf ops ⟨d, op, ty, p, af, none⟩) F → Eff P w0 op ty (F ++ L) H (fun v H' => H.Sublist H' ∧ Φ i v H')) : StepI P w0 ops H0 L Φ i := fun o ho => by
 rw [hi] at ho
 obtain rfl := Option.some.inj ho
 exact h
theorem all_z {S : Nat → Prop} : ∀ i, i < 0 → S i := fun i h => absurd h (Nat.not_lt_zero _)
theorem Bo {S : Nat → Prop} {n : Nat} (h : ∀ i, i < n → S i) (hn : S n) : ∀ i, i < n + 1 → S i := fun i hi => by
 rcases Nat.lt_or_ge i n with h1 | h1
 ·exact h i h1
 ·have : i = n := by omega
  subst this; exact hn
end Go.Proofs.YtkdolgnpkjihpaaGreatDoor
namespace Go.Proofs.YtkdolgnpkjihpaaGreatDoor
open _root_.Go.Proofs.Tryz
open Go.RowKit
set_option linter.unusedVariables false
set_option linter.unusedSimpArgs false
theorem bd48_0_1 (a0 : Int) (a1 : ByteArray) (a2 : Option Addr) (a2n a2c : Nat) (a3 : Int) (a4 : ByteArray) (a5 : Option Addr) (a5n a5c : Nat) (w : World) : (Instr.build 48 #[(0, .agg #[.int .i64 a0, .string a1, .slice a2 a2n a2c]), (1, .agg #[.int .i64 a3, .string a4, .slice a5 a5n a5c])]).run Tryz.prog w = .ok (.agg #[.int .i64 a0, .string a1, .slice a2 a2n a2c, .int .i64 a3, .string a4, .slice a5 a5n a5c]) w := by kernel_rfl
theorem bs50_8_0_1_2_3_4_5_6_7 (a0 : Int) (a1 : ByteArray) (a2 : Option Addr) (a2n a2c : Nat) (a3 : Int) (a4 : ByteArray) (a5 : Option Addr) (a5n a5c : Nat) (a6 : Int) (a7 : ByteArray) (a8 : Option Addr) (a8n a8c : Nat) (a9 : Int) (a10 : ByteArray) (a11 : Option Addr) (a11n a11c : Nat) (a12 : Int) (a13 : ByteArray) (a14 : Option Addr) (a14n a14c : Nat) (a15 : Int) (a16 : ByteArray) (a17 : Option Addr) (a17n a17c : Nat) (a18 : Int) (a19 : ByteArray) (a20 : Option Addr) (a20n a20c : Nat) (a21 : Int) (a22 : ByteArray) (a23 : Option Addr) (a23n a23c : Nat) (a24 : Int) (a25 : ByteArray) (a26 : Option Addr) (a26n a26c : Nat) (a27 : Int) (a28 : ByteArray) (a29 : Option Addr) (a29n a29c : Nat) (a30 : Int) (a31 : ByteArray) (a32 : Option Addr) (a32n a32c : Nat) (a33 : Int) (a34 : ByteArray) (a35 : Option Addr) (a35n a35c : Nat) (a36 : Int) (a37 : ByteArray) (a38 : Option Addr) (a38n a38c : Nat) (a39 : Int) (a40 : ByteArray) (a41 : Option Addr) (a41n a41c : Nat) (a42 : Int) (a43 : ByteArray) (a44 : Option Addr) (a44n a44c : Nat) (a45 : Int) (a46 : ByteArray) (a47 : Option Addr) (a47n a47c : Nat) (w : World) : (Instr.buildSlice 50 8 #[(0, .agg #[.int .i64 a0, .string a1, .slice a2 a2n a2c, .int .i64 a3, .string a4, .slice a5 a5n a5c]), (1, .agg #[.int .i64 a6, .string a7, .slice a8 a8n a8c, .int .i64 a9, .string a10, .slice a11 a11n a11c]), (2, .agg #[.int .i64 a12, .string a13, .slice a14 a14n a14c, .int .i64 a15, .string a16, .slice a17 a17n a17c]), (3, .agg #[.int .i64 a18, .string a19, .slice a20 a20n a20c, .int .i64 a21, .string a22, .slice a23 a23n a23c]), (4, .agg #[.int .i64 a24, .string a25, .slice a26 a26n a26c, .int .i64 a27, .string a28, .slice a29 a29n a29c]), (5, .agg #[.int .i64 a30, .string a31, .slice a32 a32n a32c, .int .i64 a33, .string a34, .slice a35 a35n a35c]), (6, .agg #[.int .i64 a36, .string a37, .slice a38 a38n a38c, .int .i64 a39, .string a40, .slice a41 a41n a41c]), (7, .agg #[.int .i64 a42, .string a43, .slice a44 a44n a44c, .int .i64 a45, .string a46, .slice a47 a47n a47c])]).run Tryz.prog w = .ok (.slice (some ⟨w.heap.size, 0, none⟩) 8 8) (w.alloc (Cl [.int .i64 a0, .string a1, .slice a2 a2n a2c, .int .i64 a3, .string a4, .slice a5 a5n a5c, .int .i64 a6, .string a7, .slice a8 a8n a8c, .int .i64 a9, .string a10, .slice a11 a11n a11c, .int .i64 a12, .string a13, .slice a14 a14n a14c, .int .i64 a15, .string a16, .slice a17 a17n a17c, .int .i64 a18, .string a19, .slice a20 a20n a20c, .int .i64 a21, .string a22, .slice a23 a23n a23c, .int .i64 a24, .string a25, .slice a26 a26n a26c, .int .i64 a27, .string a28, .slice a29 a29n a29c, .int .i64 a30, .string a31, .slice a32 a32n a32c, .int .i64 a33, .string a34, .slice a35 a35n a35c, .int .i64 a36, .string a37, .slice a38 a38n a38c, .int .i64 a39, .string a40, .slice a41 a41n a41c, .int .i64 a42, .string a43, .slice a44 a44n a44c, .int .i64 a45, .string a46, .slice a47 a47n a47c] 48)) := by kernel_rfl
inductive Sp
 | rx (Q : Rxm → Prop)
 | sl (Qs : List (Rxm → Prop))
 | duo (Q R : Rxm → Prop)
 | duos (l : List ((Rxm → Prop) × (Rxm → Prop)))
 | num (k : Int)
def IsQ : List Rxm → List (Rxm → Prop) → Prop
 | [], [] => True
 | m :: ms, Q :: Qs => Q m ∧ IsQ ms Qs
 | _, _ => False
theorem IsQ.len : ∀ {ms : List Rxm} {Qs : List (Rxm → Prop)}, IsQ ms Qs → ms.length = Qs.length
 | [], [], _ => rfl
 | _ :: _, _ :: _, h => by simp [h.2.len]
 | [], _ :: _, h => h.elim
 | _ :: _, [], h => h.elim
abbrev encDu (p : Rxm × Rxm) : List Value := encRx p.1 ++ encRx p.2
def IsD (w0 : World) (H : List (Nat × Obj)) : List (Rxm × Rxm) → List ((Rxm → Prop) × (Rxm → Prop)) → Prop
 | [], [] => True
 | m :: ms, Q :: Qs => (Q.1 m.1 ∧ Q.2 m.2 ∧ RxM w0 H m.1 ∧ RxM w0 H m.2) ∧ IsD w0 H ms Qs
 | _, _ => False
theorem IsD.mono {w0 : World} {H H' : List (Nat × Obj)} (hs : H.Sublist H') : ∀ {ms : List (Rxm × Rxm)} {l : List ((Rxm → Prop) × (Rxm → Prop))}, IsD w0 H ms l → IsD w0 H' ms l
 | [], [], _ => trivial
 | _ :: _, _ :: _, h => ⟨⟨h.1.1, h.1.2.1, h.1.2.2.1.mono hs, h.1.2.2.2.mono hs⟩, h.2.mono hs⟩
 | [], _ :: _, h => h.elim
 | _ :: _, [], h => h.elim
theorem IsD.len {w0 : World} {H : List (Nat × Obj)} : ∀ {ms : List (Rxm × Rxm)} {l : List ((Rxm → Prop) × (Rxm → Prop))}, IsD w0 H ms l → ms.length = l.length
 | [], [], _ => rfl
 | _ :: _, _ :: _, h => by simp [h.2.len]
 | [], _ :: _, h => h.elim
 | _ :: _, [], h => h.elim
def denS (w0 : World) : Sp → Value → List (Nat × Obj) → Prop
 | .rx Q, v, H => ∃ m, v = .agg (encRx m).toArray ∧ Q m ∧ RxM w0 H m
 | .sl Qs, v, H => ∃ (n : Nat) (ms : List Rxm), v = .slice (some ⟨n, 0, none⟩) ms.length ms.length ∧ Arr w0 H (some ⟨n, 0, none⟩) 3 encRx ms ∧ IsQ ms Qs ∧ (∀ a ∈ ms, RxM w0 H a) ∧ ms.length ≤ 9
 | .duo Q R, v, H => ∃ m : Rxm × Rxm, v = .agg (encDu m).toArray ∧ Q m.1 ∧ R m.2 ∧ RxM w0 H m.1 ∧ RxM w0 H m.2
 | .duos l, v, H => ∃ (n : Nat) (ms : List (Rxm × Rxm)), v = .slice (some ⟨n, 0, none⟩) ms.length ms.length ∧ Arr w0 H (some ⟨n, 0, none⟩) 6 encDu ms ∧ IsD w0 H ms l
 | .num k, v, _ => v = .int .i64 k
theorem denS_mono {w0 : World} {sp : Sp} {v : Value} {H H' : List (Nat × Obj)} (h : denS w0 sp v H) (hs : H.Sublist H') : denS w0 sp v H' := by
 cases sp with
 | rx Q => obtain ⟨m, h1, h2, h3⟩ := h; exact ⟨m, h1, h2, h3.mono hs⟩
 | sl Qs => obtain ⟨n, ms, h1, h2, h3, h4, h5⟩ := h; exact ⟨n, ms, h1, h2.mono hs, h3, fun a ha => (h4 a ha).mono hs, h5⟩
 | duo Q R => obtain ⟨m, h1, h2, h3, h4, h5⟩ := h; exact ⟨m, h1, h2, h3, h4.mono hs, h5.mono hs⟩
 | duos l => obtain ⟨n, ms, h1, h2, h3⟩ := h; exact ⟨n, ms, h1, h2.mono hs, h3.mono hs⟩
 | num k => exact h
def denT (w0 : World) (tbl : List Sp) : PdI := fun i v H => match tbl[i]? with
 | some sp => denS w0 sp v H
 | none => True
theorem Cm {w0 : World} {tbl : List Sp} {i : Nat} {sp : Sp} {v : Value} {H : List (Nat × Obj)} (h : tbl[i]? = some sp) : denT w0 tbl i v H ↔ denS w0 sp v H := by unfold denT; rw [h]
theorem denT_mono {w0 : World} {tbl : List Sp} : ∀ i v H H', denT w0 tbl i v H → H.Sublist H' → denT w0 tbl i v H' := fun i v H H' h hs => by
 unfold denT at *
 cases hb : tbl[i]? with
 | none => trivial
 | some sp => rw [hb] at h; exact denS_mono h hs
section
variable {w0 : World} {ops : Array Oper} {H0 : List (Nat × Obj)} {L : Fm} {tbl : List Sp} {i : Nat} {d : Option Tmp} {ty : TypeId} {p : String} {af : Array Edge}
theorem Cb {s b : Nat} {m : Rxm} {Q : Rxm → Prop} (hi : ops[i]? = some ⟨d, .load 24 (.tmp s), ty, p, af, none⟩) (ht : tbl[i]? = some (.rx Q)) (hd : depsOf ops ⟨d, .load 24 (.tmp s), ty, p, af, none⟩ = []) (hL : fnd? L s = some (.pointer (some ⟨b, 0, none⟩))) (hf : Fnd H0 b (Cl (encRx m) 24)) (hQ : Q m) (hM : RxM w0 H0 m) : StepI Tryz.prog w0 ops H0 L (denT w0 tbl) i := step_mk hi fun H F hs hF => by
 rw [hd] at hF
 cases hF
 refine (Am (T hL) isAgg24 sizeOf24 U (cs_m (cells_own hf) hs)).eff.imp ?_
 rintro _ _ ⟨rfl, rfl⟩
 exact ⟨List.Sublist.refl _, (Cm ht).2 ⟨m, rfl, hQ, hM.mono hs⟩⟩
theorem arrRx1 {n : Nat} {a : Rxm} {t : TypeId} {H : List (Nat × Obj)} (hf : Fnd H n (Cl (encRx a) t)) : Arr w0 H (some ⟨n, 0, none⟩) 3 encRx [a] := fun j x hj => by
 refine ⟨rfl, fun k v hk => ?_⟩
 match j, hj with
 | 0, hj =>
  have : a = x := by simpa using hj
  subst this
  exact Cr hf (by show (encRx a)[0 + 0 * 3 + k]? = some v; rw [show (0 : Nat) + 0 * 3 + k = k by omega]; exact hk)
theorem st_s1 {s j : Nat} {Q : Rxm → Prop} (hi : ops[i]? = some ⟨d, .buildSlice 22 1 #[(0, .tmp s)], ty, p, af, none⟩) (g : dget? (depsOf ops ⟨d, .buildSlice 22 1 #[(0, .tmp s)], ty, p, af, none⟩) s = some j) (tj : tbl[j]? = some (.rx Q)) (ti : tbl[i]? = some (.sl [Q])) : StepI Tryz.prog w0 ops H0 L (denT w0 tbl) i := step_mk hi fun H F hs hF => by
 obtain ⟨v1, f1, d1⟩ := Db (L := L) hF g
 rw [Cm tj] at d1
 obtain ⟨m1, rfl, I1, M1⟩ := d1
 refine (An (.cons (T f1) .nil) (B0 _ _ _ _ _)).imp ?_
 rintro _ _ ⟨n, rfl, rfl⟩
 have hs1 := List.sublist_cons_self (n, Cl (encRx m1) 24) H
 exact ⟨hs1, (Cm ti).2 ⟨n, [m1], rfl, arrRx1 A3, ⟨I1, trivial⟩, fun a ha => by simp at ha; subst ha; exact M1.mono hs1, by simp⟩⟩
theorem De {s1 s2 j1 j2 : Nat} {Q1 Q2 : Rxm → Prop} (hi : ops[i]? = some ⟨d, .buildSlice 22 2 #[(0, .tmp s1), (1, .tmp s2)], ty, p, af, none⟩) (g1 : dget? (depsOf ops ⟨d, .buildSlice 22 2 #[(0, .tmp s1), (1, .tmp s2)], ty, p, af, none⟩) s1 = some j1) (g2 : dget? (depsOf ops ⟨d, .buildSlice 22 2 #[(0, .tmp s1), (1, .tmp s2)], ty, p, af, none⟩) s2 = some j2) (t1 : tbl[j1]? = some (.rx Q1)) (t2 : tbl[j2]? = some (.rx Q2)) (ti : tbl[i]? = some (.sl [Q1, Q2])) : StepI Tryz.prog w0 ops H0 L (denT w0 tbl) i := step_mk hi fun H F hs hF => by
 obtain ⟨v1, f1, d1⟩ := Db (L := L) hF g1
 obtain ⟨v2, f2, d2⟩ := Db (L := L) hF g2
 rw [Cm t1] at d1
 rw [Cm t2] at d2
 obtain ⟨m1, rfl, I1, M1⟩ := d1
 obtain ⟨m2, rfl, I2, M2⟩ := d2
 refine (An (.cons (T f1) (.cons (T f2) .nil)) (B2 _ _ _ _ _ _ _ _ _ _)).imp ?_
 rintro _ _ ⟨n, rfl, rfl⟩
 have hs1 := List.sublist_cons_self (n, Cl (encRx m1 ++ encRx m2) 24) H
 exact ⟨hs1, (Cm ti).2 ⟨n, [m1, m2], rfl, arrRx2 A3, ⟨I1, I2, trivial⟩, fun a ha => by simp only [List.mem_cons, List.not_mem_nil, or_false] at ha; rcases ha with rfl | rfl <;> first | exact M1.mono hs1 | exact M2.mono hs1, by simp⟩⟩
theorem C0 {s j : Nat} {k : Int} {Qs : List (Rxm → Prop)} {Q : Rxm → Prop} {ts : Array TypeId} (hi : ops[i]? = some ⟨d, .call { callee := .value (.func 26), args := #[.const (.int .i64 k), .tmp s], argTypes := ts }, ty, p, af, none⟩) (g : dget? (depsOf ops ⟨d, .call { callee := .value (.func 26), args := #[.const (.int .i64 k), .tmp s], argTypes := ts }, ty, p, af, none⟩) s = some j) (tj : tbl[j]? = some (.sl Qs)) (ti : tbl[i]? = some (.rx Q)) (hk : ∀ q c ms, IsQ ms Qs → Q (.mk k ⟨#[]⟩ q c ms)) : StepI Tryz.prog w0 ops H0 L (denT w0 tbl) i := step_mk hi fun H F hs hF => by
 obtain ⟨v, f, dd⟩ := Db (L := L) hF g
 rw [Cm tj] at dd
 obtain ⟨n, ms, rfl, A, I, M, hl⟩ := dd
 refine (Av (.cons Ak (.cons (T f) .nil)) call26 (Ch k (some ⟨n, 0, none⟩) ms ms.length)).imp ?_
 rintro _ _ ⟨rfl, rfl⟩
 exact ⟨List.Sublist.refl _, (Cm ti).2 ⟨_, rfl, hk _ _ _ I, .mk A M (by decide) (by omega)⟩⟩
theorem st_emp {Q : Rxm → Prop} {ts : Array TypeId} (hi : ops[i]? = some ⟨d, .call { callee := .value (.func 27), args := #[], argTypes := ts }, ty, p, af, none⟩) (ti : tbl[i]? = some (.rx Q)) (hk : Q (.mk 1 ⟨#[]⟩ none 0 [])) : StepI Tryz.prog w0 ops H0 L (denT w0 tbl) i := step_mk hi fun H F hs hF => by
 refine (Av .nil call27 empty_s).imp ?_
 rintro _ _ ⟨rfl, rfl⟩
 exact ⟨List.Sublist.refl _, (Cm ti).2 ⟨_, rfl, hk, .mk (fun i x h => by cases h) (fun a h => by cases h) (by decide) (by decide)⟩⟩
theorem st_duo {s1 s2 j1 j2 : Nat} {Q1 Q2 : Rxm → Prop} (hi : ops[i]? = some ⟨d, .build 48 #[(0, .tmp s1), (1, .tmp s2)], ty, p, af, none⟩) (g1 : dget? (depsOf ops ⟨d, .build 48 #[(0, .tmp s1), (1, .tmp s2)], ty, p, af, none⟩) s1 = some j1) (g2 : dget? (depsOf ops ⟨d, .build 48 #[(0, .tmp s1), (1, .tmp s2)], ty, p, af, none⟩) s2 = some j2) (t1 : tbl[j1]? = some (.rx Q1)) (t2 : tbl[j2]? = some (.rx Q2)) (ti : tbl[i]? = some (.duo Q1 Q2)) : StepI Tryz.prog w0 ops H0 L (denT w0 tbl) i := step_mk hi fun H F hs hF => by
 obtain ⟨v1, f1, d1⟩ := Db (L := L) hF g1
 obtain ⟨v2, f2, d2⟩ := Db (L := L) hF g2
 rw [Cm t1] at d1
 rw [Cm t2] at d2
 obtain ⟨m1, rfl, I1, M1⟩ := d1
 obtain ⟨m2, rfl, I2, M2⟩ := d2
 refine (Bq (.cons (T f1) (.cons (T f2) .nil)) (bd48_0_1 _ _ _ _ _ _ _ _ _ _)).eff.imp ?_
 rintro _ _ ⟨rfl, rfl⟩
 exact ⟨List.Sublist.refl _, (Cm ti).2 ⟨(m1, m2), rfl, I1, I2, M1, M2⟩⟩
theorem st_len {s j : Nat} {l : List ((Rxm → Prop) × (Rxm → Prop))} {k : Int} (hi : ops[i]? = some ⟨d, .call { callee := .builtin .len, args := #[.tmp s], argTypes := #[50] }, ty, p, af, none⟩) (g : dget? (depsOf ops ⟨d, .call { callee := .builtin .len, args := #[.tmp s], argTypes := #[50] }, ty, p, af, none⟩) s = some j) (tj : tbl[j]? = some (.duos l)) (ti : tbl[i]? = some (.num k)) (hk : (l.length : Int) = k) : StepI Tryz.prog w0 ops H0 L (denT w0 tbl) i := step_mk hi fun H F hs hF => by
 obtain ⟨v, f, dd⟩ := Db (L := L) hF g
 rw [Cm tj] at dd
 obtain ⟨n, ms, rfl, A, I⟩ := dd
 refine (Bw (T f) runUnderlying50).eff.imp ?_
 rintro _ _ ⟨rfl, rfl⟩
 exact ⟨List.Sublist.refl _, (Cm ti).2 (by show Value.int .i64 (ms.length : Int) = .int .i64 k; rw [I.len, hk])⟩
theorem st_num {k : Int} (hi : ops[i]? = some ⟨d, .move (.const (.int .i64 k)), ty, p, af, none⟩) (ti : tbl[i]? = some (.num k)) : StepI Tryz.prog w0 ops H0 L (denT w0 tbl) i := step_mk hi fun H F hs hF => by
 refine (Ae Ak).eff.imp ?_
 rintro _ _ ⟨rfl, rfl⟩
 exact ⟨List.Sublist.refl _, (Cm ti).2 U⟩
theorem flatDu_arr {n : Nat} {ms : List (Rxm × Rxm)} {H : List (Nat × Obj)} {l : List Value} {t : TypeId} (hf : Fnd H n (Cl l t)) (hl : l = ms.flatMap encDu) : Arr w0 H (some ⟨n, 0, none⟩) 6 encDu ms := fun j x hj => by
 subst hl
 exact ⟨rfl, fun k v hk => Cr hf (by show (ms.flatMap encDu)[0 + j * 6 + k]? = some v; rw [Nat.zero_add]; exact flat_get (sz := 6) (enc := encDu) (fun _ => rfl) ms j x k v hj hk)⟩
theorem st_duos {s0 j0 s1 j1 s2 j2 s3 j3 s4 j4 s5 j5 s6 j6 s7 j7 : Nat} {P0 Q0 P1 Q1 P2 Q2 P3 Q3 P4 Q4 P5 Q5 P6 Q6 P7 Q7 : Rxm → Prop} (hi : ops[i]? = some ⟨d, .buildSlice 50 8 #[(0, .tmp s0), (1, .tmp s1), (2, .tmp s2), (3, .tmp s3), (4, .tmp s4), (5, .tmp s5), (6, .tmp s6), (7, .tmp s7)], ty, p, af, none⟩) (g0 : dget? (depsOf ops ⟨d, .buildSlice 50 8 #[(0, .tmp s0), (1, .tmp s1), (2, .tmp s2), (3, .tmp s3), (4, .tmp s4), (5, .tmp s5), (6, .tmp s6), (7, .tmp s7)], ty, p, af, none⟩) s0 = some j0) (g1 : dget? (depsOf ops ⟨d, .buildSlice 50 8 #[(0, .tmp s0), (1, .tmp s1), (2, .tmp s2), (3, .tmp s3), (4, .tmp s4), (5, .tmp s5), (6, .tmp s6), (7, .tmp s7)], ty, p, af, none⟩) s1 = some j1) (g2 : dget? (depsOf ops ⟨d, .buildSlice 50 8 #[(0, .tmp s0), (1, .tmp s1), (2, .tmp s2), (3, .tmp s3), (4, .tmp s4), (5, .tmp s5), (6, .tmp s6), (7, .tmp s7)], ty, p, af, none⟩) s2 = some j2) (g3 : dget? (depsOf ops ⟨d, .buildSlice 50 8 #[(0, .tmp s0), (1, .tmp s1), (2, .tmp s2), (3, .tmp s3), (4, .tmp s4), (5, .tmp s5), (6, .tmp s6), (7, .tmp s7)], ty, p, af, none⟩) s3 = some j3) (g4 : dget? (depsOf ops ⟨d, .buildSlice 50 8 #[(0, .tmp s0), (1, .tmp s1), (2, .tmp s2), (3, .tmp s3), (4, .tmp s4), (5, .tmp s5), (6, .tmp s6), (7, .tmp s7)], ty, p, af, none⟩) s4 = some j4) (g5 : dget? (depsOf ops ⟨d, .buildSlice 50 8 #[(0, .tmp s0), (1, .tmp s1), (2, .tmp s2), (3, .tmp s3), (4, .tmp s4), (5, .tmp s5), (6, .tmp s6), (7, .tmp s7)], ty, p, af, none⟩) s5 = some j5) (g6 : dget? (depsOf ops ⟨d, .buildSlice 50 8 #[(0, .tmp s0), (1, .tmp s1), (2, .tmp s2), (3, .tmp s3), (4, .tmp s4), (5, .tmp s5), (6, .tmp s6), (7, .tmp s7)], ty, p, af, none⟩) s6 = some j6) (g7 : dget? (depsOf ops ⟨d, .buildSlice 50 8 #[(0, .tmp s0), (1, .tmp s1), (2, .tmp s2), (3, .tmp s3), (4, .tmp s4), (5, .tmp s5), (6, .tmp s6), (7, .tmp s7)], ty, p, af, none⟩) s7 = some j7) (t0 : tbl[j0]? = some (.duo P0 Q0)) (t1 : tbl[j1]? = some (.duo P1 Q1)) (t2 : tbl[j2]? = some (.duo P2 Q2)) (t3 : tbl[j3]? = some (.duo P3 Q3)) (t4 : tbl[j4]? = some (.duo P4 Q4)) (t5 : tbl[j5]? = some (.duo P5 Q5)) (t6 : tbl[j6]? = some (.duo P6 Q6)) (t7 : tbl[j7]? = some (.duo P7 Q7)) (ti : tbl[i]? = some (.duos [(P0, Q0), (P1, Q1), (P2, Q2), (P3, Q3), (P4, Q4), (P5, Q5), (P6, Q6), (P7, Q7)])) : StepI Tryz.prog w0 ops H0 L (denT w0 tbl) i := step_mk hi fun H F hs hF => by
 obtain ⟨v0, f0, d0⟩ := Db (L := L) hF g0
 rw [Cm t0] at d0
 obtain ⟨m0, rfl, I0, J0, M0, N0⟩ := d0
 obtain ⟨v1, f1, d1⟩ := Db (L := L) hF g1
 rw [Cm t1] at d1
 obtain ⟨m1, rfl, I1, J1, M1, N1⟩ := d1
 obtain ⟨v2, f2, d2⟩ := Db (L := L) hF g2
 rw [Cm t2] at d2
 obtain ⟨m2, rfl, I2, J2, M2, N2⟩ := d2
 obtain ⟨v3, f3, d3⟩ := Db (L := L) hF g3
 rw [Cm t3] at d3
 obtain ⟨m3, rfl, I3, J3, M3, N3⟩ := d3
 obtain ⟨v4, f4, d4⟩ := Db (L := L) hF g4
 rw [Cm t4] at d4
 obtain ⟨m4, rfl, I4, J4, M4, N4⟩ := d4
 obtain ⟨v5, f5, d5⟩ := Db (L := L) hF g5
 rw [Cm t5] at d5
 obtain ⟨m5, rfl, I5, J5, M5, N5⟩ := d5
 obtain ⟨v6, f6, d6⟩ := Db (L := L) hF g6
 rw [Cm t6] at d6
 obtain ⟨m6, rfl, I6, J6, M6, N6⟩ := d6
 obtain ⟨v7, f7, d7⟩ := Db (L := L) hF g7
 rw [Cm t7] at d7
 obtain ⟨m7, rfl, I7, J7, M7, N7⟩ := d7
 refine (An (.cons (T f0) (.cons (T f1) (.cons (T f2) (.cons (T f3) (.cons (T f4) (.cons (T f5) (.cons (T f6) (.cons (T f7) (.nil))))))))) (bs50_8_0_1_2_3_4_5_6_7 _ _ _ _ _ _ _ _ _ _ _ _ _ _ _ _ _ _ _ _ _ _ _ _ _ _ _ _ _ _ _ _ _ _ _ _ _ _ _ _ _ _ _ _ _ _ _ _ _ _ _ _ _ _ _ _ _ _ _ _ _ _ _ _ _ _ _ _ _ _ _ _ _ _ _ _ _ _ _ _)).imp ?_
 rintro _ _ ⟨n, rfl, rfl⟩
 have hs1 := fun o : Obj => List.sublist_cons_self (n, o) H
 exact ⟨hs1 _, (Cm ti).2 ⟨n, [m0, m1, m2, m3, m4, m5, m6, m7], rfl, flatDu_arr A3 U, ⟨⟨I0, J0, M0.mono (hs1 _), N0.mono (hs1 _)⟩, ⟨I1, J1, M1.mono (hs1 _), N1.mono (hs1 _)⟩, ⟨I2, J2, M2.mono (hs1 _), N2.mono (hs1 _)⟩, ⟨I3, J3, M3.mono (hs1 _), N3.mono (hs1 _)⟩, ⟨I4, J4, M4.mono (hs1 _), N4.mono (hs1 _)⟩, ⟨I5, J5, M5.mono (hs1 _), N5.mono (hs1 _)⟩, ⟨I6, J6, M6.mono (hs1 _), N6.mono (hs1 _)⟩, ⟨I7, J7, M7.mono (hs1 _), N7.mono (hs1 _)⟩, trivial⟩⟩⟩
end
end Go.Proofs.YtkdolgnpkjihpaaGreatDoor
namespace Go.Proofs.YtkdolgnpkjihpaaGreatDoor
open _root_.Go.Proofs.Tryz
open Go.RowKit
set_option linter.unusedVariables false
set_option linter.unusedSimpArgs false
def Q2 (k : Int) (Qs : List (Rxm → Prop)) (m : Rxm) : Prop := ∃ q c ms, m = .mk k ⟨#[]⟩ q c ms ∧ IsQ ms Qs
def R (e : Re) (m : Rxm) : Prop := Is m e
theorem isQ1 {ms : List Rxm} {Q : Rxm → Prop} (h : IsQ ms [Q]) : ∃ a, ms = [a] ∧ Q a := by
 match ms, h with
 | [a], h => exact ⟨a, rfl, h.1⟩
 | [], h => exact h.elim
 | _ :: _ :: _, h => exact h.2.elim
theorem isQ2 {ms : List Rxm} {Q1 Q2 : Rxm → Prop} (h : IsQ ms [Q1, Q2]) : ∃ a b, ms = [a, b] ∧ Q1 a ∧ Q2 b := by
 match ms, h with
 | [a, b], h => exact ⟨a, b, rfl, h.1, h.2.1⟩
 | [], h => exact h.elim
 | [_], h => exact h.2.elim
 | _ :: _ :: _ :: _, h => exact h.2.2.elim
theorem is4 {a b : Re} : ∀ q c ms, IsQ ms [R a, R b] → R (.seq a b) (.mk 4 ⟨#[]⟩ q c ms) := fun q c ms h => by obtain ⟨x, y, rfl, h1, h2⟩ := isQ2 h; exact Is.seq h1 h2
theorem is5 {a b : Re} : ∀ q c ms, IsQ ms [R a, R b] → R (.alt a b) (.mk 5 ⟨#[]⟩ q c ms) := fun q c ms h => by obtain ⟨x, y, rfl, h1, h2⟩ := isQ2 h; exact Is.alt h1 h2
theorem is6 {a : Re} : ∀ q c ms, IsQ ms [R a] → R (.star a) (.mk 6 ⟨#[]⟩ q c ms) := fun q c ms h => by obtain ⟨x, rfl, h1⟩ := isQ1 h; exact Is.star h1
theorem is_two {r m : Rxm} (h : Q2 5 [Q2 4 [Eq r, Eq r], Q2 6 [Eq r]] m) : (m.sz = 3 + 3 * r.sz) ∧ ∀ x, Is m x → ∃ e, Is r e := by
 obtain ⟨q, c, ms, rfl, h⟩ := h
 obtain ⟨a, b, rfl, ⟨q1, c1, m1, rfl, h1⟩, ⟨q2, c2, m2, rfl, h2⟩⟩ := isQ2 h
 obtain ⟨u, v, rfl, rfl, rfl⟩ := isQ2 h1
 obtain ⟨w, rfl, rfl⟩ := isQ1 h2
 refine ⟨by simp only [sz_eq, szL, Rxm.args]; omega, fun x hx => ?_⟩
 cases hx with
 | alt h3 h4 =>
  cases h4 with
  | star h5 => exact ⟨_, h5⟩
theorem lang_star_app {a : Re} {u v : List ByteArray} (h : Lang (.star a) u) (h2 : Lang (.star a) v) : Lang (.star a) (u ++ v) := by
 generalize hx : Re.star a = x at h
 induction h with
 | stn => cases hx; simpa using h2
 | stc h3 _ _ ih => cases hx; rw [List.append_assoc]; exact .stc h3 (ih rfl)
 | _ => cases hx
theorem lang_eq {a b : Re} (hla : a.lv ≤ 64) (hlb : b.lv ≤ 64) (hga : a.good) (hgb : b.good) (h : ∀ w, Lang a w ↔ Lang b w) (w : List ByteArray) : matchF a w = matchF b w := by
 rw [Bool.eq_iff_iff, match_lang hla hga, match_lang hlb hgb]; exact h w
theorem equal_true {a b : Re} (hab : (Re.alt a b).lv ≤ 64) (hga : a.good) (hgb : b.good) (h : ∀ w, Lang a w ↔ Lang b w) {l : List ByteArray} {s : Bool} {c : Int} (he : equalF a b = (l, s, c)) (hc : c = 0) : s = true ∧ l = [] := by
 have hlv : (Re.alt a b).lv = a.lv + b.lv := rfl
 obtain ⟨h1, h2⟩ := equal_semE he hab hc
 cases s with
 | true => exact ⟨rfl, (h1 rfl).1⟩
 | false => exact absurd (lang_eq (by omega) (by omega) hga hgb h l) (h2 rfl).1
section
variable {x y z : Re} {w : List ByteArray}
theorem lw1 : Lang (.alt x y) w ↔ Lang (.alt y x) w := ⟨fun h => by cases h with | altl h => exact .altr h | altr h => exact .altl h, fun h => by cases h with | altl h => exact .altr h | altr h => exact .altl h⟩
theorem lw2 : Lang (.alt x x) w ↔ Lang x w := ⟨fun h => by cases h with | altl h => exact h | altr h => exact h, .altl⟩
theorem lw3 : Lang (.seq x (.seq y z)) w ↔ Lang (.seq (.seq x y) z) w := ⟨fun h => by
  cases h with
  | seq h1 h2 => cases h2 with | seq h3 h4 => rw [← List.append_assoc]; exact .seq (.seq h1 h3) h4, fun h => by
  cases h with
  | seq h1 h2 => cases h1 with | seq h3 h4 => rw [List.append_assoc]; exact .seq h3 (.seq h4 h2)⟩
theorem lw4 : Lang (.seq x .emp) w ↔ Lang x w := ⟨fun h => by
  cases h with
  | seq h1 h2 => cases h2; rw [List.append_nil]; exact h1, fun h => by simpa using Lang.seq h .emp⟩
theorem lw5 : Lang (.seq (.alt x y) z) w ↔ Lang (.alt (.seq x z) (.seq y z)) w := ⟨fun h => by
  cases h with
  | seq h1 h2 => cases h1 with | altl h1 => exact .altl (.seq h1 h2) | altr h1 => exact .altr (.seq h1 h2), fun h => by
  cases h with
  | altl h => cases h with | seq h1 h2 => exact .seq (.altl h1) h2
  | altr h => cases h with | seq h1 h2 => exact .seq (.altr h1) h2⟩
theorem lw6 : Lang (.star x) w ↔ Lang (.alt .emp (.seq x (.star x))) w := ⟨fun h => by
  cases h with
  | stn => exact .altl .emp
  | stc h1 h2 => exact .altr (.seq h1 h2), fun h => by
  cases h with
  | altl h => cases h; exact .stn
  | altr h => cases h with | seq h1 h2 => exact .stc h1 h2⟩
theorem lw7a (h : Lang (.star (.alt x y)) w) : ∃ u v, w = u ++ v ∧ Lang (.star x) u ∧ Lang (.star (.seq y (.star x))) v := by
 generalize hk : Re.star (Re.alt x y) = k at h
 induction h with
 | stn => exact ⟨[], [], rfl, .stn, .stn⟩
 | @stc a p q h1 _ _ ih =>
  cases hk
  obtain ⟨u, v, rfl, h2, h3⟩ := ih rfl
  cases h1 with
  | altl h1 => exact ⟨p ++ u, v, by simp, .stc h1 h2, h3⟩
  | altr h1 => exact ⟨[], p ++ u ++ v, by simp, .stn, .stc (.seq h1 h2) h3⟩
 | _ => cases hk
theorem lw7c {v : List ByteArray} (h : Lang (.star x) v) : Lang (.star (.alt x y)) v := by
 generalize hk : Re.star x = k at h
 induction h with
 | stn => exact .stn
 | stc h1 _ _ ih => cases hk; exact .stc (.altl h1) (ih rfl)
 | _ => cases hk
theorem lw7b {v : List ByteArray} (h : Lang (.star (.seq y (.star x))) v) : Lang (.star (.alt x y)) v := by
 generalize hk : Re.star (Re.seq y (Re.star x)) = k at h
 induction h with
 | stn => exact .stn
 | stc h1 _ _ ih =>
  cases hk
  cases h1 with
  | seq h1 h2 => rw [List.append_assoc]; exact .stc (.altr h1) (lang_star_app (lw7c h2) (ih rfl))
 | _ => cases hk
theorem lw7 : Lang (.star (.alt x y)) w ↔ Lang (.seq (.star x) (.star (.seq y (.star x)))) w := ⟨fun h => by
  obtain ⟨u, v, rfl, h1, h2⟩ := lw7a h
  exact .seq h1 h2, fun h => by
  cases h with
  | seq h1 h2 => exact lang_star_app (lw7c h1) (lw7b h2)⟩
theorem lw8a {u v : List ByteArray} (h : Lang (.star (.seq y x)) v) : Lang x u → ∃ p q, u ++ v = p ++ q ∧ Lang (.star (.seq x y)) p ∧ Lang x q := by
 generalize hk : Re.star (Re.seq y x) = k at h
 induction h generalizing u with
 | stn => intro hu; exact ⟨[], u, by simp, .stn, hu⟩
 | @stc a s t h1 _ _ ih =>
  cases hk
  intro hu
  cases h1 with
  | @seq _ _ g j h1 h2 =>
   obtain ⟨p, q, e, h3, h4⟩ := ih rfl h2
   exact ⟨u ++ g ++ p, q, by simp only [List.append_assoc]; rw [← e], .stc (.seq hu h1) h3, h4⟩
 | _ => cases hk
theorem lw8b {u v : List ByteArray} (h : Lang (.star (.seq x y)) u) : Lang x v → ∃ p q, u ++ v = p ++ q ∧ Lang x p ∧ Lang (.star (.seq y x)) q := by
 generalize hk : Re.star (Re.seq x y) = k at h
 induction h with
 | stn => intro hv; exact ⟨v, [], by simp, hv, .stn⟩
 | @stc a s t h1 _ _ ih =>
  cases hk
  intro hv
  cases h1 with
  | @seq _ _ g j h1 h2 =>
   obtain ⟨p, q, e, h3, h4⟩ := ih rfl hv
   exact ⟨g, j ++ p ++ q, by simp only [List.append_assoc]; rw [← e], h1, .stc (.seq h2 h3) h4⟩
 | _ => cases hk
theorem lw8 : Lang (.seq x (.star (.seq y x))) w ↔ Lang (.seq (.star (.seq x y)) x) w := ⟨fun h => by
  cases h with
  | seq h1 h2 => obtain ⟨p, q, e, h3, h4⟩ := lw8a h2 h1; rw [e]; exact .seq h3 h4, fun h => by
  cases h with
  | seq h1 h2 => obtain ⟨p, q, e, h3, h4⟩ := lw8b h1 h2; rw [e]; exact .seq h3 h4⟩
end
instance : Inhabited Re := ⟨.emp⟩
def lawsF (ea eb ec : Re) : List (Re × Re) := [((.alt ea eb), (.alt eb ea)), ((.alt ea ea), ea), ((.seq ea (.seq eb ec)), (.seq (.seq ea eb) ec)), ((.seq ea .emp), ea), ((.seq (.alt ea eb) ec), (.alt (.seq ea ec) (.seq eb ec))), ((.star ea), (.alt .emp (.seq ea (.star ea)))), ((.star (.alt ea eb)), (.seq (.star ea) (.star (.seq eb (.star ea))))), ((.seq ea (.star (.seq eb ea))), (.seq (.star (.seq ea eb)) ea))]
theorem laws_true {ea eb ec : Re} (la : ea.lv ≤ 6) (lb : eb.lv ≤ 6) (lc : ec.lv ≤ 6) (ga : ea.good) (gb : eb.good) (gc : ec.good) : ∀ p ∈ lawsF ea eb ec, p.1.lv ≤ 32 ∧ p.2.lv ≤ 32 ∧ ∀ (l : List ByteArray) (s : Bool) (c : Int), equalF p.1 p.2 = (l, s, c) → c = 0 → s = true ∧ l = [] := by
 intro p hp
 simp only [lawsF, List.mem_cons, List.not_mem_nil, or_false] at hp
 rcases hp with rfl | rfl | rfl | rfl | rfl | rfl | rfl | rfl
 ·refine ⟨by simp only [Re.lv]; omega, by simp only [Re.lv]; omega, fun l s c he hc => equal_true (by simp only [Re.lv]; omega) (by exact ⟨ga, gb⟩) (by exact ⟨gb, ga⟩) (fun _ => lw1) he hc⟩
 ·refine ⟨by simp only [Re.lv]; omega, by simp only [Re.lv]; omega, fun l s c he hc => equal_true (by simp only [Re.lv]; omega) (by exact ⟨ga, ga⟩) (by exact ga) (fun _ => lw2) he hc⟩
 ·refine ⟨by simp only [Re.lv]; omega, by simp only [Re.lv]; omega, fun l s c he hc => equal_true (by simp only [Re.lv]; omega) (by exact ⟨ga, gb, gc⟩) (by exact ⟨⟨ga, gb⟩, gc⟩) (fun _ => lw3) he hc⟩
 ·refine ⟨by simp only [Re.lv]; omega, by simp only [Re.lv]; omega, fun l s c he hc => equal_true (by simp only [Re.lv]; omega) (by exact ⟨ga, trivial⟩) (by exact ga) (fun _ => lw4) he hc⟩
 ·refine ⟨by simp only [Re.lv]; omega, by simp only [Re.lv]; omega, fun l s c he hc => equal_true (by simp only [Re.lv]; omega) (by exact ⟨⟨ga, gb⟩, gc⟩) (by exact ⟨⟨ga, gc⟩, gb, gc⟩) (fun _ => lw5) he hc⟩
 ·refine ⟨by simp only [Re.lv]; omega, by simp only [Re.lv]; omega, fun l s c he hc => equal_true (by simp only [Re.lv]; omega) (by exact ga) (by exact ⟨trivial, ga, ga⟩) (fun _ => lw6) he hc⟩
 ·refine ⟨by simp only [Re.lv]; omega, by simp only [Re.lv]; omega, fun l s c he hc => equal_true (by simp only [Re.lv]; omega) (by exact ⟨ga, gb⟩) (by exact ⟨ga, gb, ga⟩) (fun _ => lw7) he hc⟩
 ·refine ⟨by simp only [Re.lv]; omega, by simp only [Re.lv]; omega, fun l s c he hc => equal_true (by simp only [Re.lv]; omega) (by exact ⟨ga, gb, ga⟩) (by exact ⟨⟨ga, gb⟩, ga⟩) (fun _ => lw8) he hc⟩
theorem is_duos {w0 : World} {H : List (Nat × Obj)} {ea eb ec : Re} {ms : List (Rxm × Rxm)} (h : IsD w0 H ms [((R (.alt ea eb)), (R (.alt eb ea))), ((R (.alt ea ea)), (R ea)), ((R (.seq ea (.seq eb ec))), (R (.seq (.seq ea eb) ec))), ((R (.seq ea .emp)), (R ea)), ((R (.seq (.alt ea eb) ec)), (R (.alt (.seq ea ec) (.seq eb ec)))), ((R (.star ea)), (R (.alt .emp (.seq ea (.star ea))))), ((R (.star (.alt ea eb))), (R (.seq (.star ea) (.star (.seq eb (.star ea)))))), ((R (.seq ea (.star (.seq eb ea)))), (R (.seq (.star (.seq ea eb)) ea)))]) : ms.length = 8 ∧ ∀ i, i < 8 → (gd (lawsF ea eb ec) i) ∈ lawsF ea eb ec ∧ Is (gd ms i).1 (gd (lawsF ea eb ec) i).1 ∧ Is (gd ms i).2 (gd (lawsF ea eb ec) i).2 ∧ RxM w0 H (gd ms i).1 ∧ RxM w0 H (gd ms i).2 := by
 have hl := h.len
 refine ⟨hl, fun i hi => ⟨A1 (by show i < 8; exact hi), ?_⟩⟩
 match ms, hl, h with
 | [a0, a1, a2, a3, a4, a5, a6, a7], _, h =>
  obtain ⟨h0, h1, h2, h3, h4, h5, h6, h7, _⟩ := h
  match i, hi with
  | 0, _ => exact h0
  | 1, _ => exact h1
  | 2, _ => exact h2
  | 3, _ => exact h3
  | 4, _ => exact h4
  | 5, _ => exact h5
  | 6, _ => exact h6
  | 7, _ => exact h7
theorem cells_l {w0 : World} {H : List (Nat × Obj)} {n : Nat} {a b : List Value} {t : TypeId} (hf : Fnd H n (Cl (a ++ b) t)) : Cells w0 H n (0 + (0 : Int).toNat * 3) a := fun i v hi => Cr hf (by show (a ++ b)[0 + 0 * 3 + i]? = some v; rw [show 0 + 0 * 3 + i = i by omega, List.getElem?_append_left (List.getElem?_eq_some_iff.1 hi).1]; exact hi)
theorem cells_r {w0 : World} {H : List (Nat × Obj)} {n : Nat} {a b : List Value} {t : TypeId} (ha : a.length = 3) (hf : Fnd H n (Cl (a ++ b) t)) : Cells w0 H n (0 + (1 : Int).toNat * 3) b := fun i v hi => Cr hf (by show (a ++ b)[0 + 1 * 3 + i]? = some v; rw [List.getElem?_append_right (by omega), show 0 + 1 * 3 + i - a.length = i by omega]; exact hi)
def tblA (r : Rxm) : List Sp := [.rx ((Eq r)), .rx ((Eq r)), .sl [(Eq r), (Eq r)], .rx ((Q2 4 [(Eq r), (Eq r)])), .rx ((Eq r)), .sl [(Eq r)], .rx ((Q2 6 [(Eq r)])), .sl [Q2 4 [(Eq r), (Eq r)], Q2 6 [(Eq r)]], .rx ((Q2 5 [Q2 4 [(Eq r), (Eq r)], Q2 6 [(Eq r)]]))]
def tblB (ea eb ec : Re) : List Sp := [.rx ((R ea)), .rx ((R eb)), .sl [(R ea), (R eb)], .rx ((R (.alt ea eb))), .rx ((R eb)), .rx ((R ea)), .sl [(R eb), (R ea)], .rx ((R (.alt eb ea))), .duo ((R (.alt ea eb))) ((R (.alt eb ea))), .rx ((R ea)), .rx ((R ea)), .sl [(R ea), (R ea)], .rx ((R (.alt ea ea))), .rx ((R ea)), .duo ((R (.alt ea ea))) ((R ea)), .rx ((R ea)), .rx ((R eb)), .rx ((R ec)), .sl [(R eb), (R ec)], .rx ((R (.seq eb ec))), .sl [(R ea), (R (.seq eb ec))], .rx ((R (.seq ea (.seq eb ec)))), .rx ((R ea)), .rx ((R eb)), .sl [(R ea), (R eb)], .rx ((R (.seq ea eb))), .rx ((R ec)), .sl [(R (.seq ea eb)), (R ec)], .rx ((R (.seq (.seq ea eb) ec))), .duo ((R (.seq ea (.seq eb ec)))) ((R (.seq (.seq ea eb) ec))), .rx ((R ea)), .rx ((R .emp)), .sl [(R ea), (R .emp)], .rx ((R (.seq ea .emp))), .rx ((R ea)), .duo ((R (.seq ea .emp))) ((R ea)), .rx ((R ea)), .rx ((R eb)), .sl [(R ea), (R eb)], .rx ((R (.alt ea eb))), .rx ((R ec)), .sl [(R (.alt ea eb)), (R ec)], .rx ((R (.seq (.alt ea eb) ec))), .rx ((R ea)), .rx ((R ec)), .sl [(R ea), (R ec)], .rx ((R (.seq ea ec))), .rx ((R eb)), .rx ((R ec)), .sl [(R eb), (R ec)], .rx ((R (.seq eb ec))), .sl [(R (.seq ea ec)), (R (.seq eb ec))], .rx ((R (.alt (.seq ea ec) (.seq eb ec)))), .duo ((R (.seq (.alt ea eb) ec))) ((R (.alt (.seq ea ec) (.seq eb ec)))), .rx ((R ea)), .sl [(R ea)], .rx ((R (.star ea))), .rx ((R .emp)), .rx ((R ea)), .rx ((R ea)), .sl [(R ea)], .rx ((R (.star ea))), .sl [(R ea), (R (.star ea))], .rx ((R (.seq ea (.star ea)))), .sl [(R .emp), (R (.seq ea (.star ea)))], .rx ((R (.alt .emp (.seq ea (.star ea))))), .duo ((R (.star ea))) ((R (.alt .emp (.seq ea (.star ea))))), .rx ((R ea)), .rx ((R eb)), .sl [(R ea), (R eb)], .rx ((R (.alt ea eb))), .sl [(R (.alt ea eb))], .rx ((R (.star (.alt ea eb)))), .rx ((R ea)), .sl [(R ea)], .rx ((R (.star ea))), .rx ((R eb)), .rx ((R ea)), .sl [(R ea)], .rx ((R (.star ea))), .sl [(R eb), (R (.star ea))], .rx ((R (.seq eb (.star ea)))), .sl [(R (.seq eb (.star ea)))], .rx ((R (.star (.seq eb (.star ea))))), .sl [(R (.star ea)), (R (.star (.seq eb (.star ea))))], .rx ((R (.seq (.star ea) (.star (.seq eb (.star ea)))))), .duo ((R (.star (.alt ea eb)))) ((R (.seq (.star ea) (.star (.seq eb (.star ea)))))), .rx ((R ea)), .rx ((R eb)), .rx ((R ea)), .sl [(R eb), (R ea)], .rx ((R (.seq eb ea))), .sl [(R (.seq eb ea))], .rx ((R (.star (.seq eb ea)))), .sl [(R ea), (R (.star (.seq eb ea)))], .rx ((R (.seq ea (.star (.seq eb ea))))), .rx ((R ea)), .rx ((R eb)), .sl [(R ea), (R eb)], .rx ((R (.seq ea eb))), .sl [(R (.seq ea eb))], .rx ((R (.star (.seq ea eb)))), .rx ((R ea)), .sl [(R (.star (.seq ea eb))), (R ea)], .rx ((R (.seq (.star (.seq ea eb)) ea))), .duo ((R (.seq ea (.star (.seq eb ea))))) ((R (.seq (.star (.seq ea eb)) ea))), .duos [((R (.alt ea eb)), (R (.alt eb ea))), ((R (.alt ea ea)), (R ea)), ((R (.seq ea (.seq eb ec))), (R (.seq (.seq ea eb) ec))), ((R (.seq ea .emp)), (R ea)), ((R (.seq (.alt ea eb) ec)), (R (.alt (.seq ea ec) (.seq eb ec)))), ((R (.star ea)), (R (.alt .emp (.seq ea (.star ea))))), ((R (.star (.alt ea eb))), (R (.seq (.star ea) (.star (.seq eb (.star ea)))))), ((R (.seq ea (.star (.seq eb ea)))), (R (.seq (.star (.seq ea eb)) ea)))], .num 8, .num 0]
theorem arrRx3 {w0 : World} {H : List (Nat × Obj)} {n : Nat} {ms : List Rxm} {l : List Value} {t : TypeId} (hf : Fnd H n (Cl l t)) (hl : l = ms.flatMap encRx) : Arr w0 H (some ⟨n, 0, none⟩) 3 encRx ms := fun j x hj => by
 subst hl
 exact ⟨rfl, fun k v hk => Cr hf (by show (ms.flatMap encRx)[0 + j * 3 + k]? = some v; rw [Nat.zero_add]; exact flat_get (sz := 3) (enc := encRx) (fun _ => rfl) ms j x k v hj hk)⟩
end Go.Proofs.YtkdolgnpkjihpaaGreatDoor
namespace Go.Proofs.YtkdolgnpkjihpaaGreatDoor
open _root_.Go.Proofs.Tryz
open Go.RowKit
set_option linter.unusedVariables false
set_option linter.unusedSimpArgs false
theorem bs22_3_0_1_2 (a0 : Int) (a1 : ByteArray) (a2 : Option Addr) (a2n a2c : Nat) (a3 : Int) (a4 : ByteArray) (a5 : Option Addr) (a5n a5c : Nat) (a6 : Int) (a7 : ByteArray) (a8 : Option Addr) (a8n a8c : Nat) (w : World) : (Instr.buildSlice 22 3 #[(0, .agg #[.int .i64 a0, .string a1, .slice a2 a2n a2c]), (1, .agg #[.int .i64 a3, .string a4, .slice a5 a5n a5c]), (2, .agg #[.int .i64 a6, .string a7, .slice a8 a8n a8c])]).run Tryz.prog w = .ok (.slice (some ⟨w.heap.size, 0, none⟩) 3 3) (w.alloc (Cl [.int .i64 a0, .string a1, .slice a2 a2n a2c, .int .i64 a3, .string a4, .slice a5 a5n a5c, .int .i64 a6, .string a7, .slice a8 a8n a8c] 24)) := by kernel_rfl
set_option maxRecDepth 100000
theorem yl_notF {P : Program} {w0 : World} {L : Fm} {H : List (Nat × Obj)} {ty xt : TypeId} {x : Operand} {t : Bool} (hx : Ev L x (.bool t)) (h : t = true) : Yl P w0 (.unOp .not xt x) ty L H (.bool false) := by
 have := C2 (P := P) (w0 := w0) (H := H) (ty := ty) (xt := xt) hx
 rwa [h] at this
theorem laws_s {w0 : World} {H : List (Nat × Obj)} (r1 : Rxm) (hM1 : RxM w0 H r1) (hz1 : r1.sz ≤ 1048576) (r2 : Rxm) (hM2 : RxM w0 H r2) (hz2 : r2.sz ≤ 1048576) (r3 : Rxm) (hM3 : RxM w0 H r3) (hz3 : r3.sz ≤ 1048576) :
  FSpec Tryz.prog w0 6 #[.agg (encRx r1).toArray, .agg (encRx r2).toArray, .agg (encRx r3).toArray] H (Still (.bool true) H) := by
 refine A7 Tryz.func6 U ntmps6 U (Ah (Ab (e_ (Bf (T U) cs_) ?_ U)))
 rintro _ _ ⟨n3, rfl, rfl⟩
 refine e_ (Bf (T U) cs_) ?_ U
 rintro _ _ ⟨n4, rfl, rfl⟩
 refine e_ (Bf (T U) cs_) ?_ U
 rintro _ _ ⟨n5, rfl, rfl⟩
 refine y_ (Ad Ak) (Af (Ac (Ah (Ah (Ab (y_ (Am (T U) isAgg24 sizeOf24 U (by first | exact Bc)) ?_ U)))))) U
 refine y_ (Am (T U) isAgg24 sizeOf24 U (by first | exact Bc)) ?_ U
 refine y_ (Am (T U) isAgg24 sizeOf24 U (by first | exact Bc)) ?_ U
 refine e_ (An (.cons (T U) (.cons (T U) (.cons (T U) .nil))) (bs22_3_0_1_2 _ _ _ _ _ _ _ _ _ _ _ _ _ _ _)) ?_ U
 rintro _ _ ⟨n17, rfl, rfl⟩
 refine y_ (Bw (T U) runUnderlying22) (y_ (Ae Ak) (Af (Ac (A2 ?_))) U) U
 refine Co (X := Nat) (V := fun i => [(19, .int .i64 (i : Nat))]) (C := [(3, _), (4, _), (5, _), (17, _), (18, _)]) (φ := fun i => i ≤ 3 ∧ ∀ j, j < i → ∃ e, Is (gd [r1, r2, r3] j) e ∧ (gd [r1, r2, r3] j).sz ≤ 12) (μ := fun i => 3 - i) (x0 := 0) ?_ ⟨Aa U, Aa U, Aa U, Aa U, Aa U, trivial⟩ ⟨atd, trivial⟩ ?_
 ·exact ⟨Nat.zero_le _, fun j hj => absurd hj (Nat.not_lt_zero _)⟩
 rintro i ⟨hi, hall⟩
 have hall3 : ∀ j, j < 3 → RxM w0 H (gd [r1, r2, r3] j) ∧ (gd [r1, r2, r3] j).sz ≤ 1048576 := fun j hj => by
  match j, hj with
  | 0, _ => exact ⟨hM1, hz1⟩
  | 1, _ => exact ⟨hM2, hz2⟩
  | 2, _ => exact ⟨hM3, hz3⟩
 refine Ah (Ab (y_ (B4 (T U) (T U)) (Af (Ac (Ah ?_))) U))
 first | refine Au (Aa U) (fun c20 => ?_) (fun c20 => ?_) | refine Bb (Aa U) (fun c20 => ?_) (fun c20 => ?_)
 ·have hir : i < 3 := by omega
  obtain ⟨hR, hzr⟩ := hall3 i hir
  refine A9 (Ac (Ah (A2 (Ah (Ab (y_ (Bh (T U) (T U) runUnderlying22 sizeOf24 (by omega) (by first | exact rfl)) ?_ U))))))
  refine y_ (Am (T U) isAgg24 sizeOf24 U (by first | exact (arrRx3 (ms := [r1, r2, r3]) fdd U).cs (i := i) (by omega) | exact Bc)) ?_ U
  refine e_ (Ap zeroValue24 cs_) ?_ U
  rintro _ _ ⟨n8, rfl, rfl⟩
  first | refine A0 (As (T U) (T U) sizeOf24) U Ag ?_
  rintro _ _ ⟨rfl, rfl⟩
  refine Af (Ac (Ah ?_))
  refine j_inv 9 (denT w0 (tblA (gd [r1, r2, r3] i))) [(8, 31)] mixd (by kernel_rfl) denT_mono (Bo (Bo (Bo (Bo (Bo (Bo (Bo (Bo (Bo all_z (Cb U U (by kernel_rfl) U fdd U (hR.mono sbt))) (Cb U U (by kernel_rfl) U fdd U (hR.mono sbt))) (De (j1 := 0) (j2 := 1) U (by kernel_rfl) (by kernel_rfl) U U U)) (C0 (j := 2) U (by kernel_rfl) U U (fun _ _ _ h => ⟨_, _, _, rfl, h⟩))) (Cb U U (by kernel_rfl) U fdd U (hR.mono sbt))) (st_s1 (j := 4) U (by kernel_rfl) U U)) (C0 (j := 5) U (by kernel_rfl) U U (fun _ _ _ h => ⟨_, _, _, rfl, h⟩))) (De (j1 := 3) (j2 := 6) U (by kernel_rfl) (by kernel_rfl) U U U)) (C0 (j := 7) U (by kernel_rfl) U U (fun _ _ _ h => ⟨_, _, _, rfl, h⟩))) ?_
  rintro H4 F hs4 hF
  obtain ⟨v31, F, rfl, d31, hF⟩ := hF.un
  obtain rfl := hF.no
  obtain ⟨m4, e4, hq4, hM4⟩ := (Cm rfl).1 d31
  subst e4
  obtain ⟨hz4, his4⟩ := is_two hq4
  refine e_ (Av (.cons (T U) .nil) call10 (few8_s m4 hM4 (by omega))) ?_ U
  rintro _ _ ⟨⟨tf, rfl, hfew⟩, rfl⟩
  first | refine Bg (Ct (T U)) U Ag ?_ | refine Bg (C2 (T U)) U Ag ?_
  refine Af (Ac ?_)
  first | refine Au (Aa U) (fun c33 => ?_) (fun c33 => ?_) | refine Bb (Aa U) (fun c33 => ?_) (fun c33 => ?_)
  ·refine Ah (Ab (y_ (Aq .nil call11 (fun H' hs => sanity_s)) (y_ (Ad (T U)) (Af (Ac (A5 (Aw (Ao (B9 (Aw (Ao (A6 U (.tmp (Aa U) .nil) ?_))))))))) U) U))
   exact ⟨_, ⟨rfl, rfl⟩, List.Sublist.trans (by exact sbt) hs4⟩
  ·obtain ⟨x4, hx4, hz40⟩ := hfew (by simpa using c33)
   obtain ⟨e, he⟩ := his4 x4 hx4
   refine A9 (Bm (Ac (Ab (y_ (Bv (T U) Ak (by omega)) ?_ U))))
   refine y_ (Ae (T U)) (Af ?_) U
   refine Bs (i + 1) ?_ ?_ ⟨atd, trivial⟩ ⟨Aa U, Aa U, Aa U, Aa U, Aa U, trivial⟩ ?_
   ·refine ⟨by omega, fun j hj => ?_⟩
    by_cases ej : j = i
    ·subst ej; exact ⟨e, he, by omega⟩
    ·exact hall j (by omega)
   ·first | omega | (simp only []; omega)
   ·exact List.Sublist.trans (by exact sbt) hs4
 ·obtain ⟨ea, ia, za⟩ := hall 0 (by omega)
  obtain ⟨eb, ib, zb⟩ := hall 1 (by omega)
  obtain ⟨ec, ic, zc⟩ := hall 2 (by omega)
  have la : ea.lv ≤ 6 := by have := ia.lvz; omega
  have lb : eb.lv ≤ 6 := by have := ib.lvz; omega
  have lc : ec.lv ≤ 6 := by have := ic.lvz; omega
  have hlaw := laws_true la lb lc ia.good ib.good ic.good
  refine B7 (A4 (A8 (Ba (Ac (Ah (Ah ?_))))))
  refine j_inv 109 (denT w0 (tblB ea eb ec)) [(106, 142), (107, 143), (108, 144)] mixd (by kernel_rfl) denT_mono (Bo (Bo (Bo (Bo (Bo (Bo (Bo (Bo (Bo (Bo (Bo (Bo (Bo (Bo (Bo (Bo (Bo (Bo (Bo (Bo (Bo (Bo (Bo (Bo (Bo (Bo (Bo (Bo (Bo (Bo (Bo (Bo (Bo (Bo (Bo (Bo (Bo (Bo (Bo (Bo (Bo (Bo (Bo (Bo (Bo (Bo (Bo (Bo (Bo (Bo (Bo (Bo (Bo (Bo (Bo (Bo (Bo (Bo (Bo (Bo (Bo (Bo (Bo (Bo (Bo (Bo (Bo (Bo (Bo (Bo (Bo (Bo (Bo (Bo (Bo (Bo (Bo (Bo (Bo (Bo (Bo (Bo (Bo (Bo (Bo (Bo (Bo (Bo (Bo (Bo (Bo (Bo (Bo (Bo (Bo (Bo (Bo (Bo (Bo (Bo (Bo (Bo (Bo (Bo (Bo (Bo (Bo (Bo (Bo all_z (Cb U U (by kernel_rfl) U fdd ia (hM1.mono sbt))) (Cb U U (by kernel_rfl) U fdd ib (hM2.mono sbt))) (De (j1 := 0) (j2 := 1) U (by kernel_rfl) (by kernel_rfl) U U U)) (C0 (j := 2) U (by kernel_rfl) U U is5)) (Cb U U (by kernel_rfl) U fdd ib (hM2.mono sbt))) (Cb U U (by kernel_rfl) U fdd ia (hM1.mono sbt))) (De (j1 := 4) (j2 := 5) U (by kernel_rfl) (by kernel_rfl) U U U)) (C0 (j := 6) U (by kernel_rfl) U U is5)) (st_duo (j1 := 3) (j2 := 7) U (by kernel_rfl) (by kernel_rfl) U U U)) (Cb U U (by kernel_rfl) U fdd ia (hM1.mono sbt))) (Cb U U (by kernel_rfl) U fdd ia (hM1.mono sbt))) (De (j1 := 9) (j2 := 10) U (by kernel_rfl) (by kernel_rfl) U U U)) (C0 (j := 11) U (by kernel_rfl) U U is5)) (Cb U U (by kernel_rfl) U fdd ia (hM1.mono sbt))) (st_duo (j1 := 12) (j2 := 13) U (by kernel_rfl) (by kernel_rfl) U U U)) (Cb U U (by kernel_rfl) U fdd ia (hM1.mono sbt))) (Cb U U (by kernel_rfl) U fdd ib (hM2.mono sbt))) (Cb U U (by kernel_rfl) U fdd ic (hM3.mono sbt))) (De (j1 := 16) (j2 := 17) U (by kernel_rfl) (by kernel_rfl) U U U)) (C0 (j := 18) U (by kernel_rfl) U U is4)) (De (j1 := 15) (j2 := 19) U (by kernel_rfl) (by kernel_rfl) U U U)) (C0 (j := 20) U (by kernel_rfl) U U is4)) (Cb U U (by kernel_rfl) U fdd ia (hM1.mono sbt))) (Cb U U (by kernel_rfl) U fdd ib (hM2.mono sbt))) (De (j1 := 22) (j2 := 23) U (by kernel_rfl) (by kernel_rfl) U U U)) (C0 (j := 24) U (by kernel_rfl) U U is4)) (Cb U U (by kernel_rfl) U fdd ic (hM3.mono sbt))) (De (j1 := 25) (j2 := 26) U (by kernel_rfl) (by kernel_rfl) U U U)) (C0 (j := 27) U (by kernel_rfl) U U is4)) (st_duo (j1 := 21) (j2 := 28) U (by kernel_rfl) (by kernel_rfl) U U U)) (Cb U U (by kernel_rfl) U fdd ia (hM1.mono sbt))) (st_emp U U Is.emp)) (De (j1 := 30) (j2 := 31) U (by kernel_rfl) (by kernel_rfl) U U U)) (C0 (j := 32) U (by kernel_rfl) U U is4)) (Cb U U (by kernel_rfl) U fdd ia (hM1.mono sbt))) (st_duo (j1 := 33) (j2 := 34) U (by kernel_rfl) (by kernel_rfl) U U U)) (Cb U U (by kernel_rfl) U fdd ia (hM1.mono sbt))) (Cb U U (by kernel_rfl) U fdd ib (hM2.mono sbt))) (De (j1 := 36) (j2 := 37) U (by kernel_rfl) (by kernel_rfl) U U U)) (C0 (j := 38) U (by kernel_rfl) U U is5)) (Cb U U (by kernel_rfl) U fdd ic (hM3.mono sbt))) (De (j1 := 39) (j2 := 40) U (by kernel_rfl) (by kernel_rfl) U U U)) (C0 (j := 41) U (by kernel_rfl) U U is4)) (Cb U U (by kernel_rfl) U fdd ia (hM1.mono sbt))) (Cb U U (by kernel_rfl) U fdd ic (hM3.mono sbt))) (De (j1 := 43) (j2 := 44) U (by kernel_rfl) (by kernel_rfl) U U U)) (C0 (j := 45) U (by kernel_rfl) U U is4)) (Cb U U (by kernel_rfl) U fdd ib (hM2.mono sbt))) (Cb U U (by kernel_rfl) U fdd ic (hM3.mono sbt))) (De (j1 := 47) (j2 := 48) U (by kernel_rfl) (by kernel_rfl) U U U)) (C0 (j := 49) U (by kernel_rfl) U U is4)) (De (j1 := 46) (j2 := 50) U (by kernel_rfl) (by kernel_rfl) U U U)) (C0 (j := 51) U (by kernel_rfl) U U is5)) (st_duo (j1 := 42) (j2 := 52) U (by kernel_rfl) (by kernel_rfl) U U U)) (Cb U U (by kernel_rfl) U fdd ia (hM1.mono sbt))) (st_s1 (j := 54) U (by kernel_rfl) U U)) (C0 (j := 55) U (by kernel_rfl) U U is6)) (st_emp U U Is.emp)) (Cb U U (by kernel_rfl) U fdd ia (hM1.mono sbt))) (Cb U U (by kernel_rfl) U fdd ia (hM1.mono sbt))) (st_s1 (j := 59) U (by kernel_rfl) U U)) (C0 (j := 60) U (by kernel_rfl) U U is6)) (De (j1 := 58) (j2 := 61) U (by kernel_rfl) (by kernel_rfl) U U U)) (C0 (j := 62) U (by kernel_rfl) U U is4)) (De (j1 := 57) (j2 := 63) U (by kernel_rfl) (by kernel_rfl) U U U)) (C0 (j := 64) U (by kernel_rfl) U U is5)) (st_duo (j1 := 56) (j2 := 65) U (by kernel_rfl) (by kernel_rfl) U U U)) (Cb U U (by kernel_rfl) U fdd ia (hM1.mono sbt))) (Cb U U (by kernel_rfl) U fdd ib (hM2.mono sbt))) (De (j1 := 67) (j2 := 68) U (by kernel_rfl) (by kernel_rfl) U U U)) (C0 (j := 69) U (by kernel_rfl) U U is5)) (st_s1 (j := 70) U (by kernel_rfl) U U)) (C0 (j := 71) U (by kernel_rfl) U U is6)) (Cb U U (by kernel_rfl) U fdd ia (hM1.mono sbt))) (st_s1 (j := 73) U (by kernel_rfl) U U)) (C0 (j := 74) U (by kernel_rfl) U U is6)) (Cb U U (by kernel_rfl) U fdd ib (hM2.mono sbt))) (Cb U U (by kernel_rfl) U fdd ia (hM1.mono sbt))) (st_s1 (j := 77) U (by kernel_rfl) U U)) (C0 (j := 78) U (by kernel_rfl) U U is6)) (De (j1 := 76) (j2 := 79) U (by kernel_rfl) (by kernel_rfl) U U U)) (C0 (j := 80) U (by kernel_rfl) U U is4)) (st_s1 (j := 81) U (by kernel_rfl) U U)) (C0 (j := 82) U (by kernel_rfl) U U is6)) (De (j1 := 75) (j2 := 83) U (by kernel_rfl) (by kernel_rfl) U U U)) (C0 (j := 84) U (by kernel_rfl) U U is4)) (st_duo (j1 := 72) (j2 := 85) U (by kernel_rfl) (by kernel_rfl) U U U)) (Cb U U (by kernel_rfl) U fdd ia (hM1.mono sbt))) (Cb U U (by kernel_rfl) U fdd ib (hM2.mono sbt))) (Cb U U (by kernel_rfl) U fdd ia (hM1.mono sbt))) (De (j1 := 88) (j2 := 89) U (by kernel_rfl) (by kernel_rfl) U U U)) (C0 (j := 90) U (by kernel_rfl) U U is4)) (st_s1 (j := 91) U (by kernel_rfl) U U)) (C0 (j := 92) U (by kernel_rfl) U U is6)) (De (j1 := 87) (j2 := 93) U (by kernel_rfl) (by kernel_rfl) U U U)) (C0 (j := 94) U (by kernel_rfl) U U is4)) (Cb U U (by kernel_rfl) U fdd ia (hM1.mono sbt))) (Cb U U (by kernel_rfl) U fdd ib (hM2.mono sbt))) (De (j1 := 96) (j2 := 97) U (by kernel_rfl) (by kernel_rfl) U U U)) (C0 (j := 98) U (by kernel_rfl) U U is4)) (st_s1 (j := 99) U (by kernel_rfl) U U)) (C0 (j := 100) U (by kernel_rfl) U U is6)) (Cb U U (by kernel_rfl) U fdd ia (hM1.mono sbt))) (De (j1 := 101) (j2 := 102) U (by kernel_rfl) (by kernel_rfl) U U U)) (C0 (j := 103) U (by kernel_rfl) U U is4)) (st_duo (j1 := 95) (j2 := 104) U (by kernel_rfl) (by kernel_rfl) U U U)) (st_duos (j0 := 8) (j1 := 14) (j2 := 29) (j3 := 35) (j4 := 53) (j5 := 66) (j6 := 86) (j7 := 105) U (by kernel_rfl) (by kernel_rfl) (by kernel_rfl) (by kernel_rfl) (by kernel_rfl) (by kernel_rfl) (by kernel_rfl) (by kernel_rfl) U U U U U U U U U)) (st_len (j := 106) U (by kernel_rfl) U U U)) (st_num U U)) ?_
  rintro H7 F hs7 hF
  obtain ⟨v142, F, rfl, d142, hF⟩ := hF.un
  obtain ⟨v143, F, rfl, d143, hF⟩ := hF.un
  obtain ⟨v144, F, rfl, d144, hF⟩ := hF.un
  obtain rfl := hF.no
  obtain ⟨n142, ms, e142, hA7, hD7⟩ := (Cm rfl).1 d142
  subst e142
  obtain rfl := (Cm rfl).1 d143
  obtain rfl := (Cm rfl).1 d144
  obtain ⟨hml, hD⟩ := is_duos hD7
  refine Af (Ac (A2 ?_))
  refine Co (X := Nat) (V := fun i => [(144, .int .i64 (i : Nat))]) (C := [(142, _), (143, _)]) (φ := fun i => i ≤ 8) (μ := fun i => 8 - i) (x0 := 0) ?_ ⟨Aa U, Aa U, trivial⟩ ⟨atd, trivial⟩ ?_
  ·exact Nat.zero_le _
  rintro i hi
  refine Ah (Ab (y_ (B4 (T U) (T U)) (Af (Ac (Ah ?_))) U))
  first | refine Au (Aa U) (fun c145 => ?_) (fun c145 => ?_) | refine Bb (Aa U) (fun c145 => ?_) (fun c145 => ?_)
  ·have hi8 : i < 8 := by omega
   obtain ⟨hp, hi1, hi2, hm1, hm2⟩ := hD i hi8
   obtain ⟨hv1, hv2, hlw⟩ := hlaw _ hp
   rcases hE : equalF (gd (lawsF ea eb ec) i).1 (gd (lawsF ea eb ec) i).2 with ⟨wd, sm, er⟩
   refine A9 (Ac (Ah (A2 (Ah (Ab (y_ (Bh (T U) (T U) runUnderlying50 sizeOf48 (by omega) (by first | exact rfl)) ?_ U))))))
   refine y_ (Am (T U) isAgg48 sizeOf48 U (by first | exact (hA7.mono sbt).cs (i := i) (by omega) | exact Bc)) ?_ U
   refine e_ (Ap zeroValue48 cs_) ?_ U
   rintro _ _ ⟨n10, rfl, rfl⟩
   first | refine A0 (As (T U) (T U) sizeOf48) U Ag ?_
   rintro _ _ ⟨rfl, rfl⟩
   refine Af (Ac (Ah (Ab (y_ (Dk (T U) Ak runUnderlying48 sizeOf24 (by omega)) ?_ U))))
   refine y_ (Am (T U) isAgg24 sizeOf24 U (by first | exact cells_l fdd | exact Bc)) ?_ U
   refine y_ (Dk (T U) Ak runUnderlying48 sizeOf24 (by omega)) ?_ U
   refine y_ (Am (T U) isAgg24 sizeOf24 U (by first | exact cells_r U fdd | exact Bc)) ?_ U
   refine e_ (Av (.cons (T U) (.cons (T U) .nil)) call23 (C6 (gd ms i).1 (gd ms i).2 _ _ hi1 hi2 (hm1.mono sbt) (hm2.mono sbt) hv1 hv2 hE)) ?_ U
   rintro _ _ ⟨d, ⟨rfl, hd⟩, rfl⟩
   refine y_ (Ae (T U)) (y_ (Ay (T U) U) (y_ (Ay (T U) U) (y_ (Ay (T U) U) (y_ (Ad (T U)) (y_ (Ad (T U)) (y_ (Ad (T U)) (Af (Ac (Ah (Ab (y_ (Ae (T U)) (y_ (B3 (T U) Ak) (y_ (Ae (T U)) ?_ U) U) U))))) U) U) U) U) U) U) U
   first | refine Ci (s := 159) (Aa U) (fun c159 => ?_) (fun c159 => ?_) | refine C1 (s := 159) (Aa U) (fun c159 => ?_) (fun c159 => ?_)
   ·obtain ⟨hst, hwl⟩ := hlw wd sm er hE c159
    have hwl0 : wd.length = 0 := by rw [hwl]; rfl
    refine Bg (Ae (T U)) U (Ax U U (Aa U)) (Bg (yl_notF (T U) hst) U (Ax U U (Aa U)) (Bg (Ae (T U)) U (Ax U U (Aa U)) (Bg (Ae (T U)) U (Ax U U (Aa U)) (Bg (Bw (T U) runUnderlying25) U (Ax U U (Aa U)) (Bg (yl_gtr (T U) Ak) U (Ax U U (Aa U)) (Bg (Be (T U) (T U)) U (Ax U U (Aa U)) (y_ (Az (T U) (T U)) (Af (Ac (Bt [(142, _), (143, _), (144, _), (167, _)] ⟨Aa U, Aa U, Aa U, Aa U, trivial⟩ ?_))) U)))))))
    first | refine Au (Aa U) (fun c167 => ?_) (fun c167 => ?_) | refine Bb (Aa U) (fun c167 => ?_) (fun c167 => ?_)
    ·exfalso; omega
    ·refine A9 (Bm (Ac (Ab (y_ (Bv (T U) Ak (by omega)) ?_ U))))
     refine y_ (Ae (T U)) (Af ?_) U
     refine Bs (i + 1) ?_ ?_ ⟨atd, trivial⟩ ⟨Aa U, Aa U, trivial⟩ ?_
     ·show i + 1 ≤ 8; omega
     ·first | omega | (simp only []; omega)
     ·exact sbt
   ·refine Cf (Cf (Cf (n_u (n_u (n_u (Cf (y_ (Be (T U) Ak) (Af (Ac (Bt [(142, _), (143, _), (144, _), (167, _)] ⟨Aa U, Aa U, Aa U, Aa U, trivial⟩ ?_))) U) U U U U) U U U U) U U U U) U U U U) U U U U) U U U U) U U U U
    first | refine B8 (Aa U) ?_ | refine B8 (Aj (Aa U) (vbool (decide_eq_false c167))) ?_
    refine A9 (Bm (Ac (Ab (y_ (Bv (T U) Ak (by omega)) ?_ U))))
    refine y_ (Ae (T U)) (Af ?_) U
    refine Bs (i + 1) ?_ ?_ ⟨atd, trivial⟩ ⟨Aa U, Aa U, trivial⟩ ?_
    ·show i + 1 ≤ 8; omega
    ·first | omega | (simp only []; omega)
    ·exact sbt
  ·refine B7 (A4 (A8 (Ba (Ac (Ah (Ab (y_ (Aq .nil call11 (fun H' hs => sanity_s)) (y_ (Ad (T U)) (Af (Ac (A5 (A6 U (.tmp (Aa U) .nil) ?_)))) U) U)))))))
   exact ⟨_, ⟨rfl, rfl⟩, List.Sublist.trans (by exact sbt) hs7⟩
end Go.Proofs.YtkdolgnpkjihpaaGreatDoor
namespace Go.Proofs.YtkdolgnpkjihpaaGreatDoor
open _root_.Go.Proofs.Tryz
open Go.ChangeShapes Go.WideShapes Go.ChangeAt Go.RowKit Go.Joins Go.Deep
set_option linter.unusedSimpArgs false
set_option linter.unusedVariables false
set_option maxRecDepth 100000
theorem below_cell {W w : World} {p : Addr} {v : Value} (hb : Below W.heap.size W w) (h : W.cell? p = some v) : w.cell? p = some v := by
 have hlt := World.block_lt_of_cell? _ _ h
 have := hb.block p.block hlt
 unfold World.cell? at h ⊢
 rw [this]; exact h
theorem cell_arg {W : World} {p : Addr} {v : Value} (h : W.cell? p = some v) : Cell W [] p v := fun w hO => below_cell hO.below h
theorem blk_pos {H : Type} (d : DataW H) : 1 ≤ Rows.uptoBulk d := by
 cases d with
 | lit l => cases l <;> simp [Rows.uptoBulk]
 | nil => simp [Rows.uptoBulk]
 | ptr d => simp [Rows.uptoBulk]
 | slice elems spare => simp [Rows.uptoBulk]
 | agg parts => simp [Rows.uptoBulk]
 | iface t d => simp [Rows.uptoBulk]
 | map entries => simp [Rows.uptoBulk]
 | held h => simp [Rows.uptoBulk]
theorem blk_sum {H : Type} {f : Nat → Nat} {D : Nat → DataW H} : ∀ (l : List Nat), (∀ i ∈ l, f i ≤ Rows.uptoBulk (D i)) → (l.map f).sum ≤ Rows.uptoBulkAll (l.map D)
 | [], _ => Nat.le_refl _
 | x :: l, h => by
  have h1 := h x (by simp)
  have h2 := blk_sum l fun i hi => h i (by simp [hi])
  simp only [List.map_cons, List.sum_cons, Rows.uptoBulkAll]
  omega
theorem blk_mem {H : Type} {D : Nat → DataW H} : ∀ {l : List Nat} {i : Nat}, i ∈ l → Rows.uptoBulk (D i) ≤ Rows.uptoBulkAll (l.map D)
 | x :: l, i, h => by
  simp only [List.map_cons, Rows.uptoBulkAll]
  rcases List.mem_cons.1 h with rfl | h
  ·exact Nat.le_add_right _ _
  ·have := blk_mem (D := D) h; omega
section
variable {H : Type} {enc : TypeId × Value → H} {P : Program} {W : World} {b0 : Nat} {sp1 : Nat → Bool} {held : Bool}
theorem open_arr {α : Type} {t e sz fuel : Nat} {cs : List Value} {x : DataW H × List MemPlace} {el : α → List Value} {φ : α → Prop} {szf : α → Nat} (ht : P.underlying t = some (.slice e)) (hc : P.cellsOf e = sz) (hsz : 0 < sz)
  (hel : ∀ n cs y, Rows.uptoBulk y.1 < Rows.uptoBulk x.1 → DataW.trod enc P W b0 sp1 held n e cs = some y → ∃ u : α, cs = el u ∧ φ u ∧ szf u ≤ Rows.uptoBulk y.1) (h : DataW.trod enc P W b0 sp1 held fuel t cs = some x) :
  ∃ (q : Option Addr) (l : List α) (cap : Nat), cs = [.slice q l.length cap] ∧ Arr W [] q sz el l ∧ l.length ≤ cap ∧ l.length ≤ 9223372036854775807 ∧ (∀ u ∈ l, φ u) ∧ (l.map szf).sum + 1 ≤ Rows.uptoBulk x.1 := by
 rcases open_slice ht h with ⟨rfl, rfl⟩ | ⟨a, len, cap, m, n, D, Pl, rfl, hb, hl, hm, hmm, rfl, hx⟩
 ·exact ⟨none, [], 0, rfl, fun i u hi => by simp at hi, by simp, by simp, by simp, by simp [Rows.uptoBulk]⟩
 have hlm : len ≤ m := by rw [hmm]; split <;> omega
 have hlen : len ≤ 9223372036854775807 := by unfold maxLen at hm; omega
 cases len with
 | zero => exact ⟨some a, [], cap, rfl, fun i u hi => by simp at hi, by simp, by simp, by simp, by simp [Rows.uptoBulk]⟩
 | succ k =>
  have hbk : Rows.uptoBulkAll ((List.range (k + 1)).map D) + 1 ≤ Rows.uptoBulk (DataW.slice ((List.range (k + 1)).map D) ((List.range (m - (k + 1))).map fun j => D (k + 1 + j))) := by
   simp only [Rows.uptoBulk]; omega
  have each : ∀ i, i < k + 1 → ∃ u : α, W.cells? b0 (a.add (i * sz)) sz = some (el u) ∧ φ u ∧ szf u ≤ Rows.uptoBulk (D i) := fun i hi => by
   obtain ⟨cs', h1, h2⟩ := hx i (by omega)
   rw [hc] at h1
   have h3 := blk_mem (D := D) (List.mem_range.2 hi)
   obtain ⟨u, rfl, hu⟩ := hel _ _ _ (by simp only []; omega) h2
   exact ⟨u, h1, hu⟩
  obtain ⟨u0, h00, hu0⟩ := each 0 (by omega)
  letI : Inhabited α := ⟨u0⟩
  obtain ⟨f, hf⟩ := choose_lt each
  refine ⟨some a, (List.range (k + 1)).map f, cap, by simp, fun i u hi => ?_, by simpa using hl, by simpa using hlen, fun u hu => ?_, ?_⟩
  ·have hik : i < k + 1 := by have := (List.getElem?_eq_some_iff.1 hi).1; simpa using this
   have hfu : f i = u := by simpa [hik] using hi
   obtain ⟨sb, so, spot⟩ := a
   obtain ⟨_, hl0, hc0⟩ := World.cells?_some h00
   have hspot : spot = none := by
    have h6 := (hc0 0 hsz).trans (List.getElem?_eq_getElem (by omega))
    simpa [Addr.add] using World.cell?_spot h6
   subst hspot
   refine ⟨rfl, fun j v hj => cell_arg ?_⟩
   obtain ⟨_, hl1, hc1⟩ := World.cells?_some (hf i hik).1
   rw [hfu] at hl1 hc1
   have hjl := (List.getElem?_eq_some_iff.1 hj).1
   have h5 := hc1 j (by omega)
   rw [add_add, add_plain] at h5
   have h6 := h5.trans hj
   rw [← Nat.add_assoc] at h6
   exact h6
  ·obtain ⟨i, hi, rfl⟩ := List.mem_map.1 hu
   exact (hf i (List.mem_range.1 hi)).2.1
  ·have := blk_sum (f := fun i => szf (f i)) (D := D) (List.range (k + 1)) fun i hi => (hf i (List.mem_range.1 hi)).2.2
   rw [List.map_map]
   have e : (szf ∘ f) = fun i => szf (f i) := rfl
   rw [e]; simp only [] at hbk ⊢; omega
end
theorem cells3 : Tryz.prog.cellsOf 3 = 1 := by kernel_rfl
theorem cells9 : Tryz.prog.cellsOf 9 = 1 := by kernel_rfl
theorem cells22 : Tryz.prog.cellsOf 22 = 1 := by kernel_rfl
theorem cells24 : Tryz.prog.cellsOf 24 = 3 := by kernel_rfl
theorem own_knob : ownKnob Tryz.prog.godebug = none := by kernel_rfl
theorem i64_bd {n : Int} (h : (Lit.int .i64 n).wf = true) : -9223372036854775808 ≤ n ∧ n ≤ 9223372036854775807 := by
 have := bounds_i64 h; exact this
theorem szL_sum : ∀ l : List Rxm, szL l = (l.map Rxm.sz).sum
 | [] => rfl
 | x :: l => by simp only [szL, List.map_cons, List.sum_cons, szL_sum l]
section
variable {H : Type} {enc : TypeId × Value → H} {W : World} {b0 n : Nat} {sp1 : Nat → Bool} {held : Bool} {y : DataW H × List MemPlace} {cs : List Value}
theorem rd_int {c : Value} (h : DataW.trod enc Tryz.prog W b0 sp1 held n 3 [c] = some y) : ∃ a : Int, c = .int .i64 a ∧ (-9223372036854775808 ≤ a ∧ a ≤ 9223372036854775807) := by
 obtain ⟨a, e0, _, wa⟩ := DataW.trod_int underlying3 h
 simp at e0
 exact ⟨a, e0, i64_bd wa⟩
theorem rd_str (h : DataW.trod enc Tryz.prog W b0 sp1 held n 9 cs = some y) : ∃ u : ByteArray, cs = encS u ∧ u.size ≤ 9223372036854775807 := by
 obtain ⟨s, e0, _, ws⟩ := DataW.trod_string underlying9 h
 exact ⟨s, e0, by unfold maxLen at ws; omega⟩
theorem rd_rx : ∀ (N : Nat) {n : Nat} {y : DataW H × List MemPlace} {cs : List Value}, Rows.uptoBulk y.1 ≤ N → DataW.trod enc Tryz.prog W b0 sp1 held n 24 cs = some y → ∃ u : Rxm, cs = encRx u ∧ RxM W [] u ∧ u.sz ≤ Rows.uptoBulk y.1
 | 0, n, y, cs, hN, _ => by have := blk_pos y.1; omega
 | N + 1, n, y, cs, hN, h => by
  obtain ⟨xs, m, rfl, rfl, hlen, hxl, hall⟩ := DataW.trod_struct underlying24 h
  rw [cells24] at hlen
  match xs, hxl, cs, hlen with
  | [x0, x1, x2], _, [c0, c1, c2], _ =>
   have f0 : DataW.trod enc Tryz.prog W b0 sp1 held m 3 [c0] = some x0 := by have := hall 0 _ rfl; simpa [cells3] using this
   have f1 : DataW.trod enc Tryz.prog W b0 sp1 held m 9 [c1] = some x1 := by have := hall 1 _ rfl; simpa [cells9] using this
   have f2 : DataW.trod enc Tryz.prog W b0 sp1 held m 22 [c2] = some x2 := by have := hall 2 _ rfl; simpa [cells22] using this
   have hb : Rows.uptoBulk x2.1 + 2 ≤ Rows.uptoBulk (DataW.agg (H := H) ([x0, x1, x2].map (·.1))) := by
    have := blk_pos x0.1; have := blk_pos x1.1
    simp only [Rows.uptoBulk, Rows.uptoBulkAll, List.map_cons, List.map_nil] at *; omega
   have hN' : Rows.uptoBulk (DataW.agg (H := H) ([x0, x1, x2].map (·.1))) ≤ N + 1 := hN
   obtain ⟨k, rfl, _⟩ := rd_int f0
   obtain ⟨s, e1, hs⟩ := rd_str f1
   obtain ⟨q, l, cap, e2, ha, hc, hl, hf, hsum⟩ := open_arr (el := encRx) (φ := RxM W []) (szf := Rxm.sz) underlying22 cells24 (by omega) (fun n cs y hy h => rd_rx N (by omega) h) f2
   simp at e1 e2
   refine ⟨.mk k s q cap l, by rw [e1, e2]; rfl, .mk ha hf hs hl, ?_⟩
   rw [sz_eq, show (Rxm.mk k s q cap l).args = l from rfl, szL_sum]
   exact Nat.le_trans (by omega : 1 + (l.map Rxm.sz).sum ≤ Rows.uptoBulk x2.1 + 2) hb
theorem open_rx {base : Nat} {r : _root_.Go.Reach} {v : Value} {d : DataW H} {p : List MemPlace} (hv : Value.okWide Tryz.prog W r base 24 v) (h : DataW.Trod enc Tryz.prog W b0 sp1 held 24 v d p) : ∃ u : Rxm, v = .agg (encRx u).toArray ∧ RxM W [] u ∧ u.sz ≤ Rows.uptoBulk d := by
 obtain ⟨cs, rfl, hsz⟩ := okWide_struct underlying24 hv
 obtain ⟨fuel, hf⟩ := h
 obtain ⟨l⟩ := cs
 obtain ⟨u, e, hu⟩ := rd_rx _ (Nat.le_refl _) hf
 simp only [Value.cells] at e
 exact ⟨u, by rw [← e], hu⟩
end
end Go.Proofs.YtkdolgnpkjihpaaGreatDoor
namespace Go.Proofs.YtkdolgnpkjihpaaGreatDoor
open _root_.Go.Proofs.Tryz
open Go.ChangeShapes Go.WideShapes Go.ChangeAt Go.RowKit Go.Joins
set_option linter.unusedSimpArgs false
set_option linter.unusedVariables false
set_option maxRecDepth 100000
section
variable {H : Type} {enc : TypeId × Value → H} {W : World}
theorem laid_out : laidOutB Tryz.prog = true := by kernel_rfl
theorem trodAll_stays : ∀ {ts : List TypeId} {vs : List Value} {ds : List (DataW H)} {ps : List MemPlace} {W' : World}, (∀ t ∈ ts, Tryz.prog.readableRec t = true ∧ t < Tryz.prog.types.size) → DataW.TrodAll enc Tryz.prog W 0 (fun _ => true) true ts vs ds ps → Below W.heap.size W W' → (∀ x ∈ ps, x.block < W.heap.size) →
  DataW.TrodAll enc Tryz.prog W' 0 (fun b => decide (b < W.heap.size)) true ts vs ds ps
 | [], _, _, _, _, _, h, _, _ => by obtain ⟨rfl, rfl, rfl⟩ := trodAll_nil h; exact trodAll_mk0
 | t :: ts, _, _, _, _, hr, h, hb, hlt => by
  obtain ⟨v, vs, d, ds, p, q, rfl, rfl, rfl, h0, r0⟩ := trodAll_cons h
  exact trodAll_cons_mk (Below.trod laid_out (hr t (by simp)).1 (hr t (by simp)).2 h0 hb (fun x hx => hlt x (by simp [hx]))) (trodAll_stays (fun t ht => hr t (by simp [ht])) r0 hb (fun x hx => hlt x (by simp [hx])))
end
theorem calls_true {f : FuncId} {args : Array Value} {W : World} (h : FSpec Tryz.prog W f args [] (Still (.bool true) [])) : Calls Tryz.prog f args W fun e W' => e = .returned (.bool true) ∧ Below W.heap.size W W' :=
 (h W (Own.start W)).mono fun e W' ⟨v, H', he, hO, hv, _⟩ => ⟨by rw [he, hv], hO.below⟩
def tab32 : Array Value := #[.int .u8 0, .int .u8 1, .int .u8 28, .int .u8 2, .int .u8 29, .int .u8 14, .int .u8 24, .int .u8 3, .int .u8 30, .int .u8 22, .int .u8 20, .int .u8 15, .int .u8 25, .int .u8 17, .int .u8 4, .int .u8 8, .int .u8 31, .int .u8 27, .int .u8 13, .int .u8 23, .int .u8 21, .int .u8 19, .int .u8 16, .int .u8 7, .int .u8 26, .int .u8 12, .int .u8 18, .int .u8 6, .int .u8 11, .int .u8 5, .int .u8 10, .int .u8 9]
def tab64 : Array Value := #[.int .u8 0, .int .u8 1, .int .u8 56, .int .u8 2, .int .u8 57, .int .u8 49, .int .u8 28, .int .u8 3, .int .u8 61, .int .u8 58, .int .u8 42, .int .u8 50, .int .u8 38, .int .u8 29, .int .u8 17, .int .u8 4, .int .u8 62, .int .u8 47, .int .u8 59, .int .u8 36, .int .u8 45, .int .u8 43, .int .u8 51, .int .u8 22, .int .u8 53, .int .u8 39, .int .u8 33, .int .u8 30, .int .u8 24, .int .u8 18, .int .u8 12, .int .u8 5, .int .u8 63, .int .u8 55, .int .u8 48, .int .u8 27, .int .u8 60, .int .u8 41, .int .u8 37, .int .u8 16, .int .u8 46, .int .u8 35, .int .u8 44, .int .u8 21, .int .u8 52, .int .u8 32, .int .u8 23, .int .u8 11, .int .u8 54, .int .u8 26, .int .u8 40, .int .u8 15, .int .u8 34, .int .u8 20, .int .u8 31, .int .u8 10, .int .u8 25, .int .u8 14, .int .u8 19, .int .u8 9, .int .u8 13, .int .u8 8, .int .u8 7, .int .u8 6]
def tab10 : Array Value := #[.int .u64 1, .int .u64 10, .int .u64 100, .int .u64 1000, .int .u64 10000, .int .u64 100000, .int .u64 1000000, .int .u64 10000000, .int .u64 100000000, .int .u64 1000000000, .int .u64 10000000000, .int .u64 100000000000, .int .u64 1000000000000, .int .u64 10000000000000, .int .u64 100000000000000, .int .u64 1000000000000000, .int .u64 10000000000000000, .int .u64 100000000000000000, .int .u64 1000000000000000000, .int .u64 10000000000000000000]
def layObj (a : Array Value) : Obj → Obj
 | .cells _ t frozen => .cells a t frozen
 | o => o
noncomputable def laidWorld (os : Os) : World :=
 { World.holding Tryz.prog os ⟨#[], #[], []⟩ with heap := (((World.holding Tryz.prog os ⟨#[], #[], []⟩).heap.modify 0 (layObj tab10)).modify 1 (layObj tab32)).modify 2 (layObj tab64) }
end Go.Proofs.YtkdolgnpkjihpaaGreatDoor
