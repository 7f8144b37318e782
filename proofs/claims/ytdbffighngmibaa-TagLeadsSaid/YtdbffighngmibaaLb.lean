/-
  The judgement and its rules for code. Over any program.
-/
import Derived.Test.YtdbffighngmibaaLa
namespace Go.Proofs.Ytdbffighngmibaa
open Go.RowKit
set_option linter.unusedVariables false
/-- the fence of a plain frame, and of a round of loop l -/
def rd : Option Nat → Fence
  | none => Fence.wide
  | some l => Fence.wide.inRound l
theorem rd_fn (r : Option Nat) (f : FuncId) : (rd r).fn f := by cases r <;> exact trivial
theorem rd_depth (r : Option Nat) : (rd r).depth = none := by cases r <;> rfl
theorem rd_round (r : Option Nat) : (rd r).round = r := by cases r <;> rfl
theorem rd_room (r : Option Nat) (n : Nat) : (rd r).room n := fun d hd => by rw [rd_depth] at hd; cases hd
theorem rd_hn (r : Option Nat) {p : Prop} : (rd r).depth.isSome = true → p := fun h => by rw [rd_depth] at h; cases h
abbrev Post := Exit → (Nat → Value) → List Deferred → World → Prop
def LQ (N : Nat) (Q : Post) : Exit → Act → World → Prop := fun e a w => a.tmps.size = N ∧ Q e (fr a) a.defers w
def swp (P : Program) (r : Option Nat) (N : Nat) (c : Code) (Q : Post) (σ : Nat → Value) (ds : List Deferred) (w : World) : Prop :=
  ∀ a : Act, a.tmps.size = N → fr a = σ → a.defers = ds → c.wpIn (rd r) 0 P (LQ N Q) a w
def swpL (P : Program) (r : Option Nat) (N : Nat) (ops : Array Oper) (l : List Oper) (Q : Post) (σ : Nat → Value) (ds : List Deferred) (w : World) : Prop :=
  ∀ a : Act, a.tmps.size = N → fr a = σ → a.defers = ds → wpListIn (rd r) 0 P ops (LQ N Q) l a w
/-- the judgements: in whatever world in which H is owned, whatever the other slots hold -/
def J (P : Program) (r : Option Nat) (N : Nat) (w0 : World) (c : Code) (Q : Post) (L : Fm) (ds : List Deferred) (H : List (Nat × Obj)) : Prop :=
  ∀ b w, Own w0 H w → swp P r N c Q (lk L b) ds w
def JL (P : Program) (r : Option Nat) (N : Nat) (w0 : World) (ops : Array Oper) (l : List Oper) (Q : Post) (L : Fm) (ds : List Deferred) (H : List (Nat × Obj)) : Prop :=
  ∀ b w, Own w0 H w → swpL P r N ops l Q (lk L b) ds w
def JQ (w0 : World) (Q : Post) (e : Exit) (L : Fm) (ds : List Deferred) (H : List (Nat × Obj)) : Prop :=
  ∀ b w, Own w0 H w → Q e (lk L b) ds w
section rules
variable {P : Program} {r : Option Nat} {N : Nat} {w0 : World} {Q : Post} {L : Fm} {ds : List Deferred} {H : List (Nat × Obj)}
def thenQ (K : (Nat → Value) → List Deferred → World → Prop) (Q : Post) : Post
  | .normal, σ, ds, w => K σ ds w
  | e, σ, ds, w => Q e σ ds w
def blockQ (id : Nat) (Q : Post) : Post
  | .exit id', σ, ds, w => if id' = id then Q .normal σ ds w else Q (.exit id') σ ds w
  | e, σ, ds, w => Q e σ ds w
theorem j_seq {x y : Code} (h : J P r N w0 x (thenQ (swp P r N y Q) Q) L ds H) : J P r N w0 (.seq x y) Q L ds H := fun b w hO a hs hf hd =>
  wpIn_seq (wpIn_mono (h b w hO a hs hf hd) (by
    intro e a' w' hq
    cases e <;> first | exact hq.2 a' hq.1 rfl rfl | exact hq))
theorem q_then {y : Code} (h : J P r N w0 y Q L ds H) : JQ w0 (thenQ (swp P r N y Q) Q) .normal L ds H := h
theorem q_then_ret {K} (h : JQ w0 Q .ret L ds H) : JQ w0 (thenQ K Q) .ret L ds H := h
theorem q_then_exit {K} {id : Nat} (h : JQ w0 Q (.exit id) L ds H) : JQ w0 (thenQ K Q) (.exit id) L ds H := h
theorem j_block {id : Nat} {c : Code} (h : J P r N w0 c (blockQ id Q) L ds H) : J P r N w0 (.block id c) Q L ds H := fun b w hO a hs hf hd =>
  wpIn_block (wpIn_mono (h b w hO a hs hf hd) (by
    intro e a' w' hq
    cases e with
    | exit id' =>
      unfold LQ blockQ at hq
      unfold Exit.inBlock
      by_cases hid : id' = id
      · simp only [hid, if_true] at hq ⊢; exact hq
      · simp only [hid, if_false] at hq ⊢; exact hq
    | _ => exact hq))
theorem q_block {id : Nat} (h : JQ w0 Q .normal L ds H) : JQ w0 (blockQ id Q) .normal L ds H := h
theorem q_block_ret {id : Nat} (h : JQ w0 Q .ret L ds H) : JQ w0 (blockQ id Q) .ret L ds H := h
theorem q_block_hit {id : Nat} (h : JQ w0 Q .normal L ds H) : JQ w0 (blockQ id Q) (.exit id) L ds H := fun b w hO => by unfold blockQ; simp only [if_true]; exact h b w hO
theorem q_block_miss {id id' : Nat} (hne : Nat.beq id' id = false) (h : JQ w0 Q (.exit id') L ds H) : JQ w0 (blockQ id Q) (.exit id') L ds H := fun b w hO => by
  unfold blockQ
  have : id' ≠ id := fun e => by rw [e, Nat.beq_refl] at hne; cases hne
  simp only [this, if_false]; exact h b w hO
theorem j_skip (h : JQ w0 Q .normal L ds H) : J P r N w0 .skip Q L ds H := fun b w hO a hs hf hd => wpIn_skip ⟨hs, by rw [hf, hd]; exact h b w hO⟩
theorem j_ret (h : JQ w0 Q .ret L ds H) : J P r N w0 .ret Q L ds H := fun b w hO a hs hf hd => wpIn_ret ⟨hs, by rw [hf, hd]; exact h b w hO⟩
theorem j_exit {id : Nat} (h : JQ w0 Q (.exit id) L ds H) : J P r N w0 (.exit id) Q L ds H := fun b w hO a hs hf hd => wpIn_exit ⟨hs, by rw [hf, hd]; exact h b w hO⟩
theorem j_cond {k : Nat} {t : Bool} {x y : Code} (hc : At L k (.bool t)) (ht : t = true → J P r N w0 x Q L ds H) (hf : t = false → J P r N w0 y Q L ds H) : J P r N w0 (.cond (.tmp k) x y) Q L ds H := fun b w hO a hs hfr hd => by
  refine wpIn_cond_split (t := t) (by rw [eval_fr, hfr]; exact hc b) (fun h => ht h b w hO a hs hfr hd) (fun h => hf h b w hO a hs hfr hd)
theorem j_cond_t {k : Nat} {x y : Code} (hc : At L k (.bool true)) (ht : J P r N w0 x Q L ds H) : J P r N w0 (.cond (.tmp k) x y) Q L ds H := j_cond hc (fun _ => ht) (fun h => by cases h)
theorem j_cond_f {k : Nat} {x y : Code} (hc : At L k (.bool false)) (hf : J P r N w0 y Q L ds H) : J P r N w0 (.cond (.tmp k) x y) Q L ds H := j_cond hc (fun h => by cases h) (fun _ => hf)
theorem j_cond_d {k : Nat} {p : Prop} [Decidable p] {x y : Code} (hc : At L k (.bool (decide p))) (ht : p → J P r N w0 x Q L ds H) (hf : ¬ p → J P r N w0 y Q L ds H) : J P r N w0 (.cond (.tmp k) x y) Q L ds H :=
  j_cond hc (fun h => ht (of_decide_eq_true h)) (fun h => hf (of_decide_eq_false h))
/-- a condition that is a literal (a constant) -/
theorem j_cond_ct {x y : Code} (ht : J P r N w0 x Q L ds H) : J P r N w0 (.cond (.const (.bool true)) x y) Q L ds H := fun b w hO a hs hfr hd => wpIn_cond_true rfl (ht b w hO a hs hfr hd)
theorem j_region {id : Nat} {l : List Oper} (h : JL P r N w0 l.toArray l Q L ds H) : J P r N w0 (.region id l.toArray false) Q L ds H := fun b w hO a hs hf hd =>
  wpIn_region_lit (h b w hO a hs hf hd)
theorem jl_nil {ops : Array Oper} (h : JQ w0 Q .normal L ds H) : JL P r N w0 ops [] Q L ds H := fun b w hO a hs hf hd => wpListIn_nil ⟨hs, by rw [hf, hd]; exact h b w hO⟩
/-- fewer slots are known -/
def Agree : Fm → Fm → Prop
  | [], _ => True
  | e :: K, L => At L e.1 e.2 ∧ Agree K L
theorem agree_lk : ∀ {K L : Fm} {b : Nat → Value}, Agree K L → lk K (lk L b) = lk L b
  | [], _, _, _ => rfl
  | e :: K, L, b, h => by
    funext k
    rw [lk]
    cases hb : Nat.beq e.1 k
    · simp only [agree_lk h.2]
    · have := Nat.eq_of_beq_eq_true hb
      subst this
      exact (h.1 b).symm
theorem j_keep {c : Code} (K : Fm) (hk : Agree K L) (h : J P r N w0 c Q K ds H) : J P r N w0 c Q L ds H := fun b w hO => by
  rw [← agree_lk (b := b) hk]; exact h _ w hO
theorem jq_keep {e : Exit} (K : Fm) (hk : Agree K L) (h : JQ w0 Q e K ds H) : JQ w0 Q e L ds H := fun b w hO => by
  rw [← agree_lk (b := b) hk]; exact h _ w hO
theorem jl_keep {ops : Array Oper} {l : List Oper} (K : Fm) (hk : Agree K L) (h : JL P r N w0 ops l Q K ds H) : JL P r N w0 ops l Q L ds H := fun b w hO => by
  rw [← agree_lk (b := b) hk]; exact h _ w hO
/-- less is owned -/
theorem j_less {c : Code} {H' : List (Nat × Obj)} (hs : H'.Sublist H) (h : J P r N w0 c Q L ds H') : J P r N w0 c Q L ds H := fun b w hO => h b w (hO.sub hs)
theorem jq_less {e : Exit} {H' : List (Nat × Obj)} (hs : H'.Sublist H) (h : JQ w0 Q e L ds H') : JQ w0 Q e L ds H := fun b w hO => h b w (hO.sub hs)
/-- what the owned memory says is so -/
theorem j_fact {c : Code} {φ : Prop} (hf : ∀ w, Own w0 H w → φ) (h : φ → J P r N w0 c Q L ds H) : J P r N w0 c Q L ds H := fun b w hO => h (hf w hO) b w hO
theorem jq_fact {e : Exit} {φ : Prop} (hf : ∀ w, Own w0 H w → φ) (h : φ → JQ w0 Q e L ds H) : JQ w0 Q e L ds H := fun b w hO => h (hf w hO) b w hO
theorem least_ex {I : Nat → Prop} : ∀ {n : Nat}, I n → ∃ m, I m ∧ ∀ m', I m' → m ≤ m' := by
  intro n
  induction n using Nat.strongRecOn with
  | _ n ih =>
    intro h
    by_cases hx : ∃ m, m < n ∧ I m
    · obtain ⟨m, hm, hi⟩ := hx
      exact ih m hm hi
    · exact ⟨n, h, fun m' h' => Nat.le_of_not_lt fun hlt => hx ⟨m', hlt, h'⟩⟩
/-- loops: at each round's head some x is so -/
def loopQ (w0 : World) {X : Type} (V : X → Fm) (G : X → List (Nat × Obj)) (φ : X → Prop) (μ : X → Nat) (m : Nat) (ds : List Deferred) (Q : Post) : Post
  | .normal, σ, ds', w => ds' = ds ∧ ∃ x b, φ x ∧ μ x < m ∧ σ = lk (V x) b ∧ Own w0 (G x) w
  | e, σ, ds', w => Q e σ ds' w
theorem q_loop_ret {X : Type} {V : X → Fm} {G : X → List (Nat × Obj)} {φ : X → Prop} {μ : X → Nat} {m : Nat} {ds' : List Deferred} (h : JQ w0 Q .ret L ds H) : JQ w0 (loopQ w0 V G φ μ m ds' Q) .ret L ds H := h
theorem q_loop_exit {X : Type} {V : X → Fm} {G : X → List (Nat × Obj)} {φ : X → Prop} {μ : X → Nat} {m : Nat} {ds' : List Deferred} {id : Nat} (h : JQ w0 Q (.exit id) L ds H) : JQ w0 (loopQ w0 V G φ μ m ds' Q) (.exit id) L ds H := h
theorem q_loop {X : Type} {V : X → Fm} {G : X → List (Nat × Obj)} {φ : X → Prop} {μ : X → Nat} {m : Nat} (x : X) (hφ : φ x) (hμ : μ x < m) (hV : Agree (V x) L) (hG : (G x).Sublist H) : JQ w0 (loopQ w0 V G φ μ m ds Q) .normal L ds H :=
  fun b w hO => ⟨rfl, x, lk L b, hφ, hμ, (agree_lk hV).symm, hO.sub hG⟩
theorem j_loop {c : Code} {X : Type} (V : X → Fm) (G : X → List (Nat × Obj)) (φ : X → Prop) (μ : X → Nat) (x0 : X) (h0 : φ x0) (hV : Agree (V x0) L) (hG : (G x0).Sublist H)
    (round : ∀ x, φ x → J P r N w0 c (loopQ w0 V G φ μ (μ x) ds Q) (V x) ds (G x)) : J P r N w0 (.loop c) Q L ds H := fun b w hO a hs hf hd => by
  classical
  let I : Nat → Act → World → Prop := fun m a w => a.tmps.size = N ∧ a.defers = ds ∧ ∃ x b, φ x ∧ μ x = m ∧ fr a = lk (V x) b ∧ Own w0 (G x) w
  have hle : ∀ {a w}, (∃ m, I m a w) → ∃ m, I m a w ∧ ∀ m', I m' a w → m ≤ m' := fun ⟨_, h⟩ => least_ex (I := fun m => I m _ _) h
  let μ' : Act → World → Nat := fun a w => if h : ∃ m, I m a w then (hle h).choose else 0
  refine wpIn_loop (fun a w => ∃ m, I m a w) μ' ⟨μ x0, hs, hd, x0, lk L b, h0, rfl, by rw [hf, agree_lk hV], hO.sub hG⟩ ?_
  intro a w hI
  have hm : I (μ' a w) a w := by
    have : μ' a w = (hle hI).choose := dif_pos hI
    rw [this]; exact (hle hI).choose_spec.1
  obtain ⟨hs', hd', x, b', hx, hmx, hfx, hOx⟩ := hm
  refine wpIn_mono (round x hx b' w hOx a hs' hfx hd') ?_
  intro e a' w' hq
  cases e with
  | normal =>
    obtain ⟨hs2, hd2, x2, b2, h2, hlt, hf2, hO2⟩ := hq
    have hI2 : ∃ m, I m a' w' := ⟨μ x2, hs2, hd2, x2, b2, h2, rfl, hf2, hO2⟩
    refine ⟨hI2, ?_⟩
    have e2 : μ' a' w' = (hle hI2).choose := dif_pos hI2
    have := (hle hI2).choose_spec.2 (μ x2) ⟨hs2, hd2, x2, b2, h2, rfl, hf2, hO2⟩
    rw [e2]; omega
  | _ => exact hq
theorem agree_app : ∀ {A B L : Fm}, Agree A L → Agree B L → Agree (A ++ B) L
  | [], _, _, _, h => h
  | _ :: _, _, _, h, k => ⟨h.1, agree_app h.2 k⟩
/-- a loop, the slots C apart, that no round turns -/
theorem j_loopC {c : Code} {X : Type} (V : X → Fm) (C : Fm) (G : X → List (Nat × Obj)) (φ : X → Prop) (μ : X → Nat) (x0 : X) (h0 : φ x0) (hC : Agree C L) (hV : Agree (V x0) L) (hG : (G x0).Sublist H)
    (round : ∀ x, φ x → J P r N w0 c (loopQ w0 (fun x => V x ++ C) G φ μ (μ x) ds Q) (V x ++ C) ds (G x)) : J P r N w0 (.loop c) Q L ds H :=
  j_loop (fun x => V x ++ C) G φ μ x0 h0 (agree_app hV hC) hG round
theorem q_loopC {X : Type} {V : X → Fm} {C : Fm} {G : X → List (Nat × Obj)} {φ : X → Prop} {μ : X → Nat} {m : Nat} (x : X) (hφ : φ x) (hμ : μ x < m) (hV : Agree (V x) L) (hC : Agree C L) (hG : (G x).Sublist H) : JQ w0 (loopQ w0 (fun x => V x ++ C) G φ μ m ds Q) .normal L ds H :=
  q_loop x hφ hμ (agree_app hV hC) hG
/-- a loop that turns the blocks G x alone -/
theorem j_loopG {c : Code} {X : Type} (V : X → Fm) (C : Fm) (G : X → List (Nat × Obj)) (Hc : List (Nat × Obj)) (φ : X → Prop) (μ : X → Nat) (x0 : X) (h0 : φ x0) (hC : Agree C L) (hV : Agree (V x0) L) (hG : (G x0 ++ Hc).Sublist H)
    (round : ∀ x, φ x → J P r N w0 c (loopQ w0 (fun x => V x ++ C) (fun x => G x ++ Hc) φ μ (μ x) ds Q) (V x ++ C) ds (G x ++ Hc)) : J P r N w0 (.loop c) Q L ds H :=
  j_loopC V C (fun x => G x ++ Hc) φ μ x0 h0 hC hV hG round
/-- a loop that leaves what is owned -/
theorem j_loopH {c : Code} {X : Type} (V : X → Fm) (C : Fm) (φ : X → Prop) (μ : X → Nat) (x0 : X) (h0 : φ x0) (hC : Agree C L) (hV : Agree (V x0) L)
    (round : ∀ x, φ x → J P r N w0 c (loopQ w0 (fun x => V x ++ C) (fun _ => H) φ μ (μ x) ds Q) (V x ++ C) ds H) : J P r N w0 (.loop c) Q L ds H :=
  j_loopC V C (fun _ => H) φ μ x0 h0 hC hV (List.Sublist.refl _) round
/-- a cut: behind the first part some x is so -/
def cutQ (w0 : World) {X : Type} (V : X → Fm) (G : X → List (Nat × Obj)) (φ : X → Prop) (ds : List Deferred) (Q : Post) : Post
  | .normal, σ, ds', w => ds' = ds ∧ ∃ x b, φ x ∧ σ = lk (V x) b ∧ Own w0 (G x) w
  | e, σ, ds', w => Q e σ ds' w
theorem q_cut_ret {X : Type} {V : X → Fm} {G : X → List (Nat × Obj)} {φ : X → Prop} {ds' : List Deferred} (h : JQ w0 Q .ret L ds H) : JQ w0 (cutQ w0 V G φ ds' Q) .ret L ds H := h
theorem q_cut_exit {X : Type} {V : X → Fm} {G : X → List (Nat × Obj)} {φ : X → Prop} {ds' : List Deferred} {id : Nat} (h : JQ w0 Q (.exit id) L ds H) : JQ w0 (cutQ w0 V G φ ds' Q) (.exit id) L ds H := h
theorem q_cut {X : Type} {V : X → Fm} {G : X → List (Nat × Obj)} {φ : X → Prop} (x : X) (hφ : φ x) (hV : Agree (V x) L) (hG : (G x).Sublist H) : JQ w0 (cutQ w0 V G φ ds Q) .normal L ds H :=
  fun b w hO => ⟨rfl, x, lk L b, hφ, (agree_lk hV).symm, hO.sub hG⟩
theorem j_cut {x y : Code} {X : Type} (V : X → Fm) (G : X → List (Nat × Obj)) (φ : X → Prop) (ds' : List Deferred) (h : J P r N w0 x (cutQ w0 V G φ ds' Q) L ds H) (k : ∀ z, φ z → J P r N w0 y Q (V z) ds' (G z)) : J P r N w0 (.seq x y) Q L ds H := fun b w hO a hs hf hd =>
  wpIn_seq (wpIn_mono (h b w hO a hs hf hd) (by
    intro e a' w' hq
    cases e with
    | normal =>
      obtain ⟨hs2, hd2, x2, b2, h2, hf2, hO2⟩ := hq
      exact k x2 h2 b2 w' hO2 a' hs2 hf2 hd2
    | _ => exact hq))
theorem j_cutC {x y : Code} {X : Type} (V : X → Fm) (C : Fm) (G : X → List (Nat × Obj)) (φ : X → Prop) (hC : Agree C L) (h : J P r N w0 x (cutQ w0 (fun x => V x ++ C) G φ ds Q) L ds H) (k : ∀ z, φ z → J P r N w0 y Q (V z ++ C) ds (G z)) : J P r N w0 (.seq x y) Q L ds H :=
  j_cut (fun x => V x ++ C) G φ ds h k
theorem j_cutH {x y : Code} {X : Type} (V : X → Fm) (C : Fm) (φ : X → Prop) (hC : Agree C L) (h : J P r N w0 x (cutQ w0 (fun x => V x ++ C) (fun _ => H) φ ds Q) L ds H) (k : ∀ z, φ z → J P r N w0 y Q (V z ++ C) ds H) : J P r N w0 (.seq x y) Q L ds H :=
  j_cut (fun x => V x ++ C) (fun _ => H) φ ds h k
theorem q_cutC {X : Type} {V : X → Fm} {C : Fm} {G : X → List (Nat × Obj)} {φ : X → Prop} (x : X) (hφ : φ x) (hV : Agree (V x) L) (hC : Agree C L) (hG : (G x).Sublist H) : JQ w0 (cutQ w0 (fun x => V x ++ C) G φ ds Q) .normal L ds H :=
  q_cut x hφ (agree_app hV hC) hG
end rules
end Go.Proofs.Ytdbffighngmibaa
