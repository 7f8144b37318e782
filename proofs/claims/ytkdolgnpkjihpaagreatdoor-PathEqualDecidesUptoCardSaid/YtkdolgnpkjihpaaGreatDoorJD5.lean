/-
  A part of what LawD rests on: the logic, walks and plain laws. No condition.
-/
import Derived.Test.YtkdolgnpkjihpaaGreatDoorJD4
namespace Go.Proofs.YtkdolgnpkjihpaaGreatDoor
open _root_.Go.Proofs.Tryz
open Go.RowKit
set_option linter.unusedVariables false
set_option linter.unusedSimpArgs false
mutual
def ntR : Rxm → List ByteArray → List ByteArray
 | .mk k s _ _ xs, l => ntL xs (if k = 2 then nameF s l else l)
def ntL : List Rxm → List ByteArray → List ByteArray
 | [], l => l
 | x :: xs, l => ntL xs (ntR x l)
end
theorem ntR_eq (m : Rxm) (l : List ByteArray) : ntR m l = ntL m.args (if m.kind = 2 then nameF m.node l else l) := by cases m; rfl
theorem ntL_app : ∀ (a b : List Rxm) (l : List ByteArray), ntL (a ++ b) l = ntL b (ntL a l)
 | [], b, l => rfl
 | x :: a, b, l => by simp only [List.cons_append, ntL]; exact ntL_app a b _
theorem ntL_take {xs : List Rxm} {i : Nat} (h : i < xs.length) (l : List ByteArray) : ntL (xs.take (i + 1)) l = ntR (gd xs i) (ntL (xs.take i) l) := by
 rw [Dz h, ntL_app]; rfl
theorem ntR_len : ∀ (m : Rxm) (l : List ByteArray), (ntR m l).length ≤ l.length + m.sz := rx_ind (Q := fun m => ∀ l : List ByteArray, (ntR m l).length ≤ l.length + m.sz) fun m ih l => by
 have key : ∀ (xs : List Rxm), (∀ a ∈ xs, a ∈ m.args) → ∀ l : List ByteArray, (ntL xs l).length ≤ l.length + szL xs := fun xs => by
  induction xs with
  | nil => intro _ l; exact Nat.le_refl _
  | cons x xs ih2 =>
   intro hm l
   have h1 := ih2 (fun a ha => hm a (by simp [ha])) (ntR x l)
   have h2 := ih x (hm x (by simp)) l
   simp only [ntL, szL]; omega
 rw [ntR_eq, sz_eq]
 have h1 := key m.args (fun a h => h) (if m.kind = 2 then nameF m.node l else l)
 have h2 : (if m.kind = 2 then nameF m.node l else l).length ≤ l.length + 1 := by
  split
  ·exact nameF_len _ _
  ·omega
 omega
def LtS (w0 : World) (m : Rxm) : Prop := ∀ (H : List (Nat × Obj)) (l : List ByteArray) (q : Option Addr) (c : Nat), Arr w0 H q 1 encS l → l.length ≤ c → RxM w0 H m → l.length + m.sz ≤ 100000 → FSpec Tryz.prog w0 74 #[.slice q l.length c, .agg (encRx m).toArray] H (fun v H' => ∃ (q' : Option Addr) (c' : Nat) (M : List (Nat × Obj)), (v = .slice q' (ntR m l).length c' ∧ (ntR m l).length ≤ c' ∧ ∀ X, Arr w0 X q 1 encS l → Arr w0 (M ++ X) q' 1 encS (ntR m l)) ∧ H' = M ++ H)
theorem lt_step {w0 : World} {H : List (Nat × Obj)} (m : Rxm) (ih : ∀ a ∈ m.args, LtS w0 a) (l : List ByteArray) (q : Option Addr) (c : Nat) (hA : Arr w0 H q 1 encS l) (hc : l.length ≤ c) (hM : RxM w0 H m) (hz : l.length + m.sz ≤ 100000) :
  FSpec Tryz.prog w0 74 #[.slice q l.length c, .agg (encRx m).toArray] H (fun v H' => ∃ (q' : Option Addr) (c' : Nat) (M : List (Nat × Obj)), (v = .slice q' (ntR m l).length c' ∧ (ntR m l).length ≤ c' ∧ ∀ X, Arr w0 X q 1 encS l → Arr w0 (M ++ X) q' 1 encS (ntR m l)) ∧ H' = M ++ H) := by
 refine Bc Tryz.func74 U ntmps74 U ?_
 have hse := sz_eq m
 have hln := szL_len m.args
 have hX := hM.arr
 have h0l : (if m.kind = 2 then nameF m.node l else l).length ≤ l.length + 1 := by
  split
  ·exact nameF_len _ _
  ·omega
 have hkey : ∀ i, i ≤ m.args.length → (ntL (m.args.take i) (if m.kind = 2 then nameF m.node l else l)).length ≤ l.length + 1 + szL (m.args.take i) := fun i => by
  induction i with
  | zero => intro _; simpa [ntL, szL] using h0l
  | succ i ih2 =>
   intro h
   have h1 := ih2 (by omega)
   have h2 := ntR_len (gd m.args i) (ntL (m.args.take i) (if m.kind = 2 then nameF m.node l else l))
   rw [ntL_take (by omega), szL_take (by omega)]; omega
 refine Ag (Ab (e_ (Bj (T U) cs_) ?_ U))
 rintro _ _ ⟨n3, rfl, rfl⟩
 refine y_ (Ad Ak) (Af (Ae ?_)) U
 refine Du (X := Option Addr × Nat × List (Nat × Obj)) (V := fun ⟨g1, g2, g3⟩ => [(0, .slice g1 (if m.kind = 2 then nameF m.node l else l).length g2)]) (C := [(3, _)]) (G := fun ⟨g1, g2, g3⟩ => g3 ++ ((n3, Cl (encRx m) 24) :: H)) (φ := fun ⟨g1, g2, g3⟩ => (if m.kind = 2 then nameF m.node l else l).length ≤ g2 ∧ ∀ X, Arr w0 X q 1 encS l → Arr w0 (g3 ++ X) g1 1 encS (if m.kind = 2 then nameF m.node l else l)) ⟨Aa rfl, trivial⟩ ?_ ?_
 ·refine Ag (Ab (y_ (Bm (T U) Dk) (y_ (Aj (T U) isAgg3 (by first | exact c_o)) ?_ U) U))
  refine y_ (By (T U) Ak) (Af (Ae ?_)) U
  first | refine Ao (Aa U) (fun c8 => ?_) (fun c8 => ?_) | refine A5 (Aa U) (fun c8 => ?_) (fun c8 => ?_)
  ·have h0e : (if m.kind = 2 then nameF m.node l else l) = nameF m.node l := if_pos c8
   refine Ab (y_ (Ac (T U)) (y_ (Bg (T U) fa24_1) (y_ (Aj (T U) isAgg9 (by first | exact c_o)) ?_ U) U) U)
   refine e_ (Au (.cons (T U) (.cons (T U) .nil)) call121 (name_r l q c (hA.mono sbt) hc (by omega) m.node)) ?_ U
   rintro _ _ ⟨q2, c2, M2, ⟨rfl, hc2, hA2⟩, rfl⟩
   refine y_ (Ad (T U)) (Af ?_) U
   refine Bp ((q2, c2, M2)) ?_ ⟨(by first | exact Aa U | (refine Ai (Aa U) (vint ?_); omega) | (refine Ai (Aa U) ?_; simp; done) | (refine Ai (Aa U) ?_; exact by rw [hlt]) | (refine Ai (Aa U) ?_; exact by simp only [h0e])), trivial⟩ ⟨Aa U, trivial⟩ sbt
   first | exact ⟨by rw [h0e]; exact hc2, fun X hX => by rw [h0e]; exact hA2 X hX⟩ | exact ⟨by rw [h0e]; exact hc, fun X hX => by rw [h0e]; exact hX⟩
  ·have h0e : (if m.kind = 2 then nameF m.node l else l) = l := if_neg c8
   refine A4 ?_
   refine Bp ((q, c, [])) ?_ ⟨(by first | exact Aa U | (refine Ai (Aa U) (vint ?_); omega) | (refine Ai (Aa U) ?_; simp; done) | (refine Ai (Aa U) ?_; exact by rw [hlt]) | (refine Ai (Aa U) ?_; exact by simp only [h0e])), trivial⟩ ⟨Aa U, trivial⟩ sbt
   first | exact ⟨by rw [h0e]; exact hc2, fun X hX => by rw [h0e]; exact hA2 X hX⟩ | exact ⟨by rw [h0e]; exact hc, fun X hX => by rw [h0e]; exact hX⟩
 rintro ⟨g1, g2, g3⟩ ⟨hg1, hg2⟩
 refine Ag (Ag (Ab (y_ (Ad Ak) (Af (Ae (Aw ?_))) U)))
 refine Cd (X := Nat × Option Addr × Nat × List (Nat × Obj)) (V := fun ⟨i, q1, c1, M⟩ => [(5, .int .i64 (i : Nat)), (0, .slice q1 (ntL (m.args.take i) (if m.kind = 2 then nameF m.node l else l)).length c1)]) (C := [(3, _)]) (G := fun ⟨i, q1, c1, M⟩ => M ++ ((n3, Cl (encRx m) 24) :: H)) (φ := fun ⟨i, q1, c1, M⟩ => i ≤ m.args.length ∧ (ntL (m.args.take i) (if m.kind = 2 then nameF m.node l else l)).length ≤ c1 ∧ ∀ X, Arr w0 X q 1 encS l → Arr w0 (M ++ X) q1 1 encS (ntL (m.args.take i) (if m.kind = 2 then nameF m.node l else l))) (μ := fun ⟨i, q1, c1, M⟩ => m.args.length - i) (x0 := (0, g1, g2, g3)) ?_ ⟨Aa rfl, trivial⟩ ⟨(by first | exact Aa rfl | (refine Ai (Aa rfl) (vint ?_); omega) | (refine Ai (Aa rfl) ?_; simp; done) | (refine Ai (Aa rfl) ?_; exact by rw [hlt]) | (refine Ai (Aa rfl) ?_; exact by simp only [h0e])), (by first | exact Aa rfl | (refine Ai (Aa rfl) (vint ?_); omega) | (refine Ai (Aa rfl) ?_; simp; done) | (refine Ai (Aa rfl) ?_; exact by rw [hlt]) | (refine Ai (Aa rfl) ?_; exact by simp only [h0e])), trivial⟩ sb0 ?_
 ·exact ⟨Nat.zero_le _, hg1, hg2⟩
 rintro ⟨i, q1, c1, M⟩ ⟨hi, hc1, hA1⟩
 refine Ag (Ag (Ab (y_ (Ac (T U)) (y_ (Bg (T U) C8) (y_ (Aj (T U) isAgg22 (by first | exact c_o)) ?_ U) U) U)))
 refine y_ (Bn (T U) runUnderlying22) (y_ (B1 (T U) (T U)) (Af (Ae ?_)) U) U
 first | refine Ao (Aa U) (fun c17 => ?_) (fun c17 => ?_) | refine A5 (Aa U) (fun c17 => ?_) (fun c17 => ?_)
 ·refine A4 (Ae (Ag (Aw (Ab (y_ (Ac (T U)) (y_ (Bg (T U) C8) (y_ (Aj (T U) isAgg22 (by first | exact c_o)) ?_ U) U) U)))))
  refine y_ (Ac (T U)) (y_ (Bb (T U) (T U) runUnderlying22 sizeOf24 (by omega) (by first | exact rfl | exact hX.b (i := i) (by omega))) ?_ U) U
  refine y_ (Am (T U) isAgg24 sizeOf24 U (by first | exact (hX.mono sbt).cs (i := i) (by omega) | exact Bf)) ?_ U
  refine e_ (Au (.cons (T U) (.cons (T U) .nil)) call74 (ih _ (Ax (by omega)) _ _ q1 c1 ((hA1 _ hA).mono sbt) hc1 ((hM.arg (Ax (i := i) (by omega))).mono sbt) (by have h1 := hkey i (by omega); have h2 := Eb m.args (i + 1); rw [szL_take (by omega)] at h2; omega))) ?_ U
  rintro _ _ ⟨q2, c2, M2, ⟨rfl, hc2, hA2⟩, rfl⟩
  refine y_ (Ad (T U)) (Af (Bi (Ae (Ab (y_ (Ac (T U)) (y_ (Bt (T U) Ak (by omega)) ?_ U) U))))) U
  refine y_ (Ad (T U)) (Af ?_) U
  have hlt := ntL_take (xs := m.args) (i := i) (by omega) (if m.kind = 2 then nameF m.node l else l)
  refine Bk ((i + 1, q2, c2, M2 ++ M)) ?_ ?_ ⟨(by first | exact Aa U | (refine Ai (Aa U) (vint ?_); omega) | (refine Ai (Aa U) ?_; simp; done) | (refine Ai (Aa U) ?_; exact by rw [hlt]) | (refine Ai (Aa U) ?_; exact by simp only [h0e])), (by first | exact Aa U | (refine Ai (Aa U) (vint ?_); omega) | (refine Ai (Aa U) ?_; simp; done) | (refine Ai (Aa U) ?_; exact by rw [hlt]) | (refine Ai (Aa U) ?_; exact by simp only [h0e])), trivial⟩ ⟨Aa U, trivial⟩ ?_
  ·exact ⟨by omega, by rw [hlt]; exact hc2, fun X hX => by rw [hlt, List.append_assoc]; exact hA2 _ (hA1 X hX)⟩
  ·first | omega | (simp only []; omega)
  ·show (M2 ++ M ++ _).Sublist _; rw [List.append_assoc]; exact sbt
 ·refine B2 (Ay (A2 (A3 (Ae (Ag (Ab (y_ (Ac (T U)) (y_ (Ad (T U)) (Af (Ae (A7 (A8 U (.tmp (Aa U) .nil) ?_)))) U) U)))))))
  have hi2 : m.args.take i = m.args := List.take_of_length_le (by omega)
  rw [hi2] at hc1 hA1 ⊢
  rw [ntR_eq]
  exact ⟨_, ⟨q1, c1, M, ⟨rfl, hc1, hA1⟩, rfl⟩, sbt⟩
theorem lt_s {w0 : World} : ∀ m : Rxm, LtS w0 m := rx_ind (Q := LtS w0) fun m ih H l q c hA hc hM hz => lt_step m ih l q c hA hc hM hz
end Go.Proofs.YtkdolgnpkjihpaaGreatDoor
namespace Go.Proofs.YtkdolgnpkjihpaaGreatDoor
open _root_.Go.Proofs.Tryz
open Go.RowKit
set_option linter.unusedVariables false
set_option linter.unusedSimpArgs false
theorem fa161_1 (b o : Nat) (w : World) : (Instr.fieldAt 161 (.pointer (some ⟨b, o, none⟩)) 1).run Tryz.prog w = .ok (.pointer (some ⟨b, o + 1, none⟩)) w := by kernel_rfl
def Srn (n : Nat) (l : List Nat) : Prop := l.Pairwise (· < ·) ∧ ∀ x ∈ l, x < n
theorem Srn.nil {n : Nat} : Srn n [] := ⟨.nil, fun x hx => by cases hx⟩
theorem Srn.le {n m : Nat} {l : List Nat} (h : Srn n l) (hm : n ≤ m) : Srn m l := ⟨h.1, fun x hx => Nat.lt_of_lt_of_le (h.2 x hx) hm⟩
theorem Srn.len {n : Nat} {l : List Nat} (h : Srn n l) : l.length ≤ n := by
 have h1 : l.Nodup := h.1.imp fun h => Nat.ne_of_lt h
 have := nodup_le h1 (l' := List.range n) fun s hs => List.mem_range.2 (h.2 s hs)
 simpa using this
theorem mem_putF {n x : Nat} : ∀ {l : List Nat}, x ∈ putF n l ↔ x = n ∨ x ∈ l
 | [] => by simp [putF]
 | y :: l => by
  have ih := mem_putF (n := n) (x := x) (l := l)
  unfold putF
  split
  ·simp only [List.mem_cons, ih]
   constructor
   ·rintro (h | h | h)
    ·exact .inr (.inl h)
    ·exact .inl h
    ·exact .inr (.inr h)
   ·rintro (h | h | h)
    ·exact .inr (.inl h)
    ·exact .inl h
    ·exact .inr (.inr h)
  ·split
   ·rename_i h; subst h; simp only [List.mem_cons]
    constructor
    ·exact fun h => .inr h
    ·rintro (h | h)
     ·exact .inl h
     ·exact h
   ·simp only [List.mem_cons]
theorem putF_srt {n : Nat} : ∀ {l : List Nat}, l.Pairwise (· < ·) → (putF n l).Pairwise (· < ·)
 | [], _ => by simp [putF]
 | y :: l, h => by
  rw [List.pairwise_cons] at h
  unfold putF
  split
  ·rename_i h0
   rw [List.pairwise_cons]
   refine ⟨fun x hx => ?_, putF_srt h.2⟩
   rcases mem_putF.1 hx with e | e
   ·subst e; exact h0
   ·exact h.1 x e
  ·split
   ·rw [List.pairwise_cons]; exact h
   ·rename_i h0 h1
    rw [List.pairwise_cons]
    refine ⟨fun x hx => ?_, by rw [List.pairwise_cons]; exact h⟩
    rcases List.mem_cons.1 hx with e | e
    ·subst e; omega
    ·have := h.1 x e; omega
theorem mem_mergeF {x : Nat} : ∀ {b a : List Nat}, x ∈ mergeF a b ↔ x ∈ a ∨ x ∈ b
 | [], a => by simp [mergeF]
 | y :: b, a => by
  have ih := mem_mergeF (x := x) (b := b) (a := putF y a)
  have e : mergeF a (y :: b) = mergeF (putF y a) b := rfl
  rw [e, ih, mem_putF, List.mem_cons]
  constructor
  ·rintro ((h | h) | h)
   ·exact .inr (.inl h)
   ·exact .inl h
   ·exact .inr (.inr h)
  ·rintro (h | h | h)
   ·exact .inl (.inr h)
   ·exact .inl (.inl h)
   ·exact .inr h
theorem mergeF_srt : ∀ {b a : List Nat}, a.Pairwise (· < ·) → (mergeF a b).Pairwise (· < ·)
 | [], _, h => h
 | y :: b, a, h => mergeF_srt (b := b) (putF_srt h)
theorem Srn.merge {n : Nat} {a b : List Nat} (ha : Srn n a) (hb : Srn n b) : Srn n (mergeF a b) := ⟨mergeF_srt ha.1, fun x hx => (mem_mergeF.1 hx).elim (ha.2 x) (hb.2 x)⟩
structure PT where
 nms : List ByteArray
 fol : List (List Nat)
structure PE where
 first : List Nat
 last : List Nat
 emp : Bool
def leadP (fol : List (List Nat)) (fr to : List Nat) : List (List Nat) := fr.foldl (fun f i => f.set i (mergeF (gd f i) to)) fol
theorem leadP_take {fol : List (List Nat)} {fr to : List Nat} {i : Nat} (h : i < fr.length) : leadP fol (fr.take (i + 1)) to = (leadP fol (fr.take i) to).set (gd fr i) (mergeF (gd (leadP fol (fr.take i) to) (gd fr i)) to) := by
 unfold leadP; rw [Dz h]; simp
theorem leadP_len (fr to : List Nat) : ∀ fol : List (List Nat), (leadP fol fr to).length = fol.length := by
 unfold leadP
 induction fr with
 | nil => intro fol; rfl
 | cons x fr ih => intro fol; simp only [List.foldl_cons]; rw [ih]; simp
def readP : Re → PT → PT × PE
 | .emp, t => (t, ⟨[], [], true⟩)
 | .nod s, t => (⟨t.nms ++ [s], t.fol ++ [[]]⟩, ⟨[t.fol.length], [t.fol.length], false⟩)
 | .any, t => (⟨t.nms ++ [⟨#[]⟩], t.fol ++ [[]]⟩, ⟨[t.fol.length], [t.fol.length], false⟩)
 | .alt a b, t =>
  let x := readP a t
  let y := readP b x.1
  (y.1, ⟨mergeF x.2.first y.2.first, mergeF x.2.last y.2.last, x.2.emp || y.2.emp⟩)
 | .seq a b, t =>
  let x := readP a t
  let y := readP b x.1
  (⟨y.1.nms, leadP y.1.fol x.2.last y.2.first⟩, ⟨if x.2.emp then mergeF x.2.first y.2.first else x.2.first, if y.2.emp then mergeF y.2.last x.2.last else y.2.last, x.2.emp && y.2.emp⟩)
 | .star a, t =>
  let x := readP a t
  (⟨x.1.nms, leadP x.1.fol x.2.last x.2.first⟩, ⟨x.2.first, x.2.last, true⟩)
structure LT where
 lv : List Rxm
 fol : List RowQ
def LT.pl (t : LT) : PT := ⟨t.lv.map Rxm.node, t.fol.map RowQ.l⟩
def LfOk (m : Rxm) : Prop := (m.kind = 2 ∧ m.node.size ≠ 0) ∨ (m.kind = 3 ∧ m.node = ⟨#[]⟩)
structure LtOk (w0 : World) (X : List (Nat × Obj)) (t : LT) : Prop where
 len : t.fol.length = t.lv.length
 few : t.lv.length ≤ 64
 lf : ∀ m ∈ t.lv, LfOk m
 arr : ∀ r ∈ t.fol, Arr w0 X r.q 1 encU r.l
 cap : ∀ r ∈ t.fol, r.l.length ≤ r.c
 srt : ∀ r ∈ t.fol, Srn t.lv.length r.l
theorem LtOk.mono {w0 : World} {X Y : List (Nat × Obj)} {t : LT} (h : LtOk w0 X t) (hs : X.Sublist Y := by exact sbt) : LtOk w0 Y t := ⟨h.len, h.few, h.lf, fun r hr => (h.arr r hr).mono hs, h.cap, h.srt⟩
def ltH (nt : Nat) (d1 d2 : Sl) (t : LT) : List (Nat × Obj) := (nt, Cl [slV d1 t.lv.length, slV d2 t.fol.length] 161) :: (slH d1 (t.lv.flatMap encRx) 24 ++ slH d2 (t.fol.flatMap encRQ) 42)
theorem lt_app (nt : Nat) (d1 d2 : Sl) (t : LT) (R : List (Nat × Obj)) : ltH nt d1 d2 t ++ R = (nt, Cl [slV d1 t.lv.length, slV d2 t.fol.length] 161) :: (slH d1 (t.lv.flatMap encRx) 24 ++ (slH d2 (t.fol.flatMap encRQ) 42 ++ R)) := by
 unfold ltH; rw [List.cons_append, List.append_assoc]
theorem LtOk.set {w0 : World} {X Y : List (Nat × Obj)} {t : LT} (h : LtOk w0 X t) {k : Nat} {r : RowQ} (hs : X.Sublist Y) (hA : Arr w0 Y r.q 1 encU r.l) (hc : r.l.length ≤ r.c) (hr : Srn t.lv.length r.l) : LtOk w0 Y { t with fol := t.fol.set k r } := by
 have hm : ∀ x ∈ t.fol.set k r, x ∈ t.fol ∨ x = r := fun x hx => List.mem_or_eq_of_mem_set hx
 refine ⟨by simpa using h.len, h.few, h.lf, fun x hx => ?_, fun x hx => ?_, fun x hx => ?_⟩
 ·rcases hm x hx with e | e
  ·exact (h.arr x e).mono hs
  ·subst e; exact hA
 ·rcases hm x hx with e | e
  ·exact h.cap x e
  ·subst e; exact hc
 ·rcases hm x hx with e | e
  ·exact h.srt x e
  ·subst e; exact hr
theorem lead_s {w0 : World} {R : List (Nat × Obj)} (nt : Nat) (d1 d2 : Sl) (t : LT) (hok2 : SlOk d2 t.fol.length 1) (ht : LtOk w0 R t) (fr to : List Nat) (q1 q2 : Option Addr) (c1 c2 : Nat) (hA : Arr w0 R q1 1 encU fr) (hB : Arr w0 R q2 1 encU to) (hf : Srn t.lv.length fr) (hto : Srn t.lv.length to) :
  FSpec Tryz.prog w0 140 #[.pointer (some ⟨nt, 0, none⟩), .slice q1 fr.length c1, .slice q2 to.length c2] (ltH nt d1 d2 t ++ R) (fun _ H' => ∃ y : List RowQ × List (Nat × Obj), (y.1.map RowQ.l = leadP t.pl.fol fr to ∧ (∀ X, LtOk w0 X t → LtOk w0 (y.2 ++ X) ⟨t.lv, y.1⟩) ∧ SlOk d2 y.1.length 1) ∧ H' = (y.2 ++ ltH nt d1 d2 ⟨t.lv, y.1⟩) ++ R) := by
 rw [lt_app]
 have hfl := hf.len
 have htl := hto.len
 have hfw := ht.few
 have hfn := ht.len
 refine Bc Tryz.func140 U ntmps140 U (Ag (Ab (y_ (Ad Ak) (Af (Ae (Aw ?_))) U)))
 refine Cd (X := Nat × List RowQ × List (Nat × Obj)) (V := fun ⟨i, fol1, M⟩ => [(6, .int .i64 (i : Nat))]) (C := [(0, _), (1, _), (2, _)]) (G := fun ⟨i, fol1, M⟩ => M ++ ((nt, Cl [slV d1 t.lv.length, slV d2 fol1.length] 161) :: (slH d1 (t.lv.flatMap encRx) 24 ++ (slH d2 (fol1.flatMap encRQ) 42 ++ R)))) (φ := fun ⟨i, fol1, M⟩ => i ≤ fr.length ∧ fol1.map RowQ.l = leadP t.pl.fol (fr.take i) to ∧ (∀ X, LtOk w0 X t → LtOk w0 (M ++ X) ⟨t.lv, fol1⟩) ∧ SlOk d2 fol1.length 1) (μ := fun ⟨i, fol1, M⟩ => fr.length - i) (x0 := (0, t.fol, [])) ?_ ⟨Aa rfl, Aa rfl, Aa rfl, trivial⟩ ⟨atd, trivial⟩ sb0 ?_
 ·exact ⟨Nat.zero_le _, rfl, fun X hX => hX, hok2⟩
 rintro ⟨i, fol1, M⟩ ⟨hi, hfo, hx1, hd2⟩
 have ht1 := hx1 R ht
 have hf1 : fol1.length = t.lv.length := ht1.len
 refine Ag (Ag (Ab (y_ (Ac (T U)) (y_ (Ac (T U)) (y_ (Bn (T U) runUnderlying42) (y_ (B1 (T U) (T U)) (Af (Ae ?_)) U) U) U) U)))
 first | refine Ao (Aa U) (fun c10 => ?_) (fun c10 => ?_) | refine A5 (Aa U) (fun c10 => ?_) (fun c10 => ?_)
 ·have hfr : gd fr i < t.lv.length := hf.2 _ (Ax (by omega))
  have hrl := (ht1.srt _ (Ax (l := fol1) (i := gd fr i) (by omega))).len
  have hrl2 : (gd fol1 (gd fr i)).l.length ≤ t.lv.length := hrl
  refine A4 (Ae (Ag (Aw (Cm 21 [(0, true), (1, true), (2, true), (3, true), (4, true), (5, true), (6, true), (7, true), (8, true), (9, true), (10, true), (11, true), (12, true), (13, true), (14, true), (15, true), (16, true), (17, true), (18, true), (19, false), (20, true)] _ mixd (by kernel_rfl) sb0 ?_))))
  refine o_y U (Ac (T U)) (o_y U (Bu (T U)) (o_y U (Bg (T U) fa161_1) (o_y U (Aj (T U) isAgg26 (by first | exact c_o)) ?_ U Ah) U Ah) U Ah) U Ah
  refine o_y U (Ac (T U)) (o_y U (Ac (T U)) (o_y U (Bb (T U) (T U) runUnderlying42 sizeOf3 (by omega) (by first | exact rfl | exact hA.b (i := i) (by omega) | exact (A1 (w0 := w0) (enc := encRQ) (sz := 1) (e := 42) (X := []) (fun _ => rfl) hd2).b (i := (gd fr i)) (by omega))) ?_ U Ah) U Ah) U Ah
  refine o_y U (Aj (T U) isAgg3 (by first | exact c_o | exact cell1 ((hA.mono sbt).cs (i := i) (by omega)))) ?_ U Ah
  refine o_y U (Ac (T U)) (o_y U (Bu (T U)) (o_y U (Bg (T U) fa161_1) (o_y U (Aj (T U) isAgg26 (by first | exact c_o)) ?_ U Ah) U Ah) U Ah) U Ah
  refine o_y U (Ac (T U)) (o_y U (Ac (T U)) (o_y U (Bb (T U) (T U) runUnderlying42 sizeOf3 (by omega) (by first | exact rfl | exact hA.b (i := i) (by omega) | exact (A1 (w0 := w0) (enc := encRQ) (sz := 1) (e := 42) (X := []) (fun _ => rfl) hd2).b (i := (gd fr i)) (by omega))) ?_ U Ah) U Ah) U Ah
  refine o_y U (Aj (T U) isAgg3 (by first | exact c_o | exact cell1 ((hA.mono sbt).cs (i := i) (by omega)))) ?_ U Ah
  refine o_y U (Bb (T U) (T U) runUnderlying26 sizeOf42 (by omega) (by first | exact rfl | exact hA.b (i := i) (by omega) | exact (A1 (w0 := w0) (enc := encRQ) (sz := 1) (e := 42) (X := []) (fun _ => rfl) hd2).b (i := (gd fr i)) (by omega))) ?_ U Ah
  refine o_y U (Aj (T U) isAgg42 (by first | exact c_o | exact cell1 (((A1 (w0 := w0) (enc := encRQ) (sz := 1) (e := 42) (X := R) (fun _ => rfl) hd2).mono sbt).cs (i := (gd fr i)) (by omega)))) ?_ U Ah
  refine o_y U (Ac (T U)) (o_e U (Au (.cons (T U) (.cons (T U) .nil)) call111 (merge_x (gd fol1 (gd fr i)).l (gd fol1 (gd fr i)).q (gd fol1 (gd fr i)).c ((ht1.arr _ (Ax (l := fol1) (by omega))).mono sbt) (ht1.cap _ (Ax (l := fol1) (by omega))) to q2 c2 (hB.mono sbt) (by omega))) ?_ U Ah) U Ah
  rintro _ _ ⟨q3, c3, M3, ⟨rfl, hc3, hA3⟩, rfl⟩
  refine ⟨sbt, (o_y U (Bb (T U) (T U) runUnderlying26 sizeOf42 (by omega) (by first | exact rfl | exact hA.b (i := i) (by omega) | exact (A1 (w0 := w0) (enc := encRQ) (sz := 1) (e := 42) (X := []) (fun _ => rfl) hd2).b (i := (gd fr i)) (by omega))) ?_ U Ah)⟩
  refine B3 U (e_ (eff_sElem (l := fol1) (e := 42) (enc := encRQ) (sz := 1) (i := (gd fr i)) (⟨q3, c3, mergeF (gd fol1 (gd fr i)).l to⟩ : RowQ) (fun _ => rfl) (by repeat (first | exact LocL.h | apply LocL.t | apply LocL.a)) (T U) (T U) (.one U) U sizeOf42 (by omega) hd2) ?_ U)
  rintro _ _ ⟨rfl, rfl⟩
  refine Af (Bi (Ae (Bl [(0, _), (1, _), (2, _), (6, _)] ⟨Aa U, Aa U, Aa U, Aa U, trivial⟩ (Ab (y_ (Ac (T U)) (y_ (Bt (T U) Ak (by omega)) ?_ U) U)))))
  refine y_ (Ad (T U)) (Af ?_) U
  refine Bk ((i + 1, fol1.set (gd fr i) ⟨q3, c3, mergeF (gd fol1 (gd fr i)).l to⟩, M3 ++ M)) ?_ ?_ ⟨atd, trivial⟩ ⟨Aa U, Aa U, Aa U, trivial⟩ ?_
  ·refine ⟨by omega, ?_, ?_, by simpa using hd2⟩
   ·rw [leadP_take (by omega), ← hfo, List.map_set, C4 (by omega)]
   ·exact fun X hX => (hx1 X hX).set (r := ⟨q3, c3, mergeF (gd fol1 (gd fr i)).l to⟩) (by rw [List.append_assoc]; exact List.sublist_append_right _ _) (by rw [List.append_assoc]; exact hA3 _ ((hx1 X hX).arr _ (Ax (l := fol1) (by omega)))) hc3 (Srn.merge (ht1.srt _ (Ax (l := fol1) (i := gd fr i) (by omega))) hto)
  ·first | omega | (simp only []; omega)
  ·simp only [List.append_assoc, List.length_set]; exact sbt
 ·refine B2 (Ay (A2 (A3 (Dl U .nil ?_))))
  have he : fr.take i = fr := List.take_of_length_le (by omega)
  rw [he] at hfo
  exact ⟨_, ⟨(fol1, M), ⟨hfo, hx1, hd2⟩, rfl⟩, by rw [List.append_assoc, lt_app]; exact sbt⟩
end Go.Proofs.YtkdolgnpkjihpaaGreatDoor
namespace Go.Proofs.YtkdolgnpkjihpaaGreatDoor
open _root_.Go.Proofs.Tryz
open Go.RowKit
set_option linter.unusedVariables false
set_option linter.unusedSimpArgs false
theorem bd163_0_1 (a0 : Option Addr) (a0n a0c : Nat) (a1 : Option Addr) (a1n a1c : Nat) (w : World) : (Instr.build 163 #[(0, .slice a0 a0n a0c), (1, .slice a1 a1n a1c)]).run Tryz.prog w = .ok (.agg #[.slice a0 a0n a0c, .slice a1 a1n a1c, .bool false]) w := by kernel_rfl
theorem bd163_2 (a0 : Bool) (w : World) : (Instr.build 163 #[(2, .bool a0)]).run Tryz.prog w = .ok (.agg #[.slice none 0 0, .slice none 0 0, .bool a0]) w := by kernel_rfl
theorem fa161_0 (b o : Nat) (w : World) : (Instr.fieldAt 161 (.pointer (some ⟨b, o, none⟩)) 0).run Tryz.prog w = .ok (.pointer (some ⟨b, o, none⟩)) w := by kernel_rfl
structure EQ where
 pe : PE
 q1 : Option Addr
 c1 : Nat
 q2 : Option Addr
 c2 : Nat
abbrev encEQ (E : EQ) : List Value := [.slice E.q1 E.pe.first.length E.c1, .slice E.q2 E.pe.last.length E.c2, .bool E.pe.emp]
structure EqOk (w0 : World) (X : List (Nat × Obj)) (n : Nat) (E : EQ) : Prop where
 a1 : Arr w0 X E.q1 1 encU E.pe.first
 a2 : Arr w0 X E.q2 1 encU E.pe.last
 k1 : E.pe.first.length ≤ E.c1
 k2 : E.pe.last.length ≤ E.c2
 s1 : Srn n E.pe.first
 s2 : Srn n E.pe.last
theorem EqOk.mono {w0 : World} {X Y : List (Nat × Obj)} {n m : Nat} {E : EQ} (h : EqOk w0 X n E) (hm : n ≤ m) (hs : X.Sublist Y := by exact sbt) : EqOk w0 Y m E := ⟨h.a1.mono hs, h.a2.mono hs, h.k1, h.k2, h.s1.le hm, h.s2.le hm⟩
structure RdOk (w0 : World) (e : Re) (t t' : LT) (E : EQ) (M : List (Nat × Obj)) : Prop where
 pl : t'.pl = (readP e t.pl).1
 pe : E.pe = (readP e t.pl).2
 len : t'.lv.length = t.lv.length + e.lv
 ok : ∀ X, LtOk w0 X t → LtOk w0 (M ++ X) t' ∧ EqOk w0 (M ++ X) t'.lv.length E
def ReadS (w0 : World) (m : Rxm) (e : Re) : Prop := ∀ (R : List (Nat × Obj)) (nt : Nat) (d1 d2 : Sl) (t : LT), RxM w0 R m → SlOk d1 t.lv.length 3 → SlOk d2 t.fol.length 1 → LtOk w0 R t → t.lv.length + e.lv ≤ 64 →
  FSpec Tryz.prog w0 106 #[.pointer (some ⟨nt, 0, none⟩), .agg (encRx m).toArray] (ltH nt d1 d2 t ++ R) (fun v H' => ∃ y : Sl × Sl × LT × EQ × List (Nat × Obj), (v = .agg (encEQ y.2.2.2.1).toArray ∧ SlOk y.1 y.2.2.1.lv.length 3 ∧ SlOk y.2.1 y.2.2.1.fol.length 1 ∧ RdOk w0 e t y.2.2.1 y.2.2.2.1 y.2.2.2.2) ∧ H' = (y.2.2.2.2 ++ ltH nt y.1 y.2.1 y.2.2.1) ++ R)
theorem LtOk.push {w0 : World} {X Y : List (Nat × Obj)} {t : LT} (h : LtOk w0 X t) (hs : X.Sublist Y) (hl : t.lv.length + 1 ≤ 64) {m : Rxm} (hm : LfOk m) : LtOk w0 Y ⟨t.lv ++ [m], t.fol ++ [⟨none, 0, []⟩]⟩ := by
 refine ⟨by simp [h.len], by simpa using hl, fun x hx => ?_, fun r hr => ?_, fun r hr => ?_, fun r hr => ?_⟩
 ·rcases List.mem_append.1 hx with e | e
  ·exact h.lf x e
  ·simp at e; subst e; exact hm
 ·rcases List.mem_append.1 hr with e | e
  ·exact (h.arr r e).mono hs
  ·simp at e; subst e; exact fun i x hi => by cases hi
 ·rcases List.mem_append.1 hr with e | e
  ·exact h.cap r e
  ·simp at e; subst e; exact Nat.le_refl _
 ·rcases List.mem_append.1 hr with e | e
  ·exact (h.srt r e).le (by simp)
  ·simp at e; subst e; exact .nil
theorem set_last {α : Type} (l : List α) (a b : α) : (l ++ [a]).set l.length b = l ++ [b] := by simp
theorem Srn.one {k n : Nat} (h : k < n) : Srn n [k] := ⟨by simp, by simpa using h⟩
theorem read_nod {w0 : World} {q : Option Addr} {c : Nat} {s : ByteArray} (hs : s.size ≠ 0) : ReadS w0 (.mk 2 s q c []) (.nod s) := by
 intro R nt d1 d2 t hM hok1 hok2 ht hl
 show FSpec Tryz.prog w0 106 #[.pointer (some ⟨nt, 0, none⟩), .agg #[.int .i64 2, .string s, .slice q 0 c]] (ltH nt d1 d2 t ++ R) _
 simp only [Re.lv] at hl
 have hfew := ht.few
 have hlen := ht.len
 have hlf : LfOk (.mk 2 s q c []) := .inl ⟨rfl, hs⟩
 rw [lt_app]
 refine Bc Tryz.func106 U ntmps106 U (Ag (Ab (e_ (Bj (T U) cs_) ?_ U)))
 rintro _ _ ⟨n3, rfl, rfl⟩
 refine e_ (Aq zeroValue163 cs_) ?_ U
 rintro _ _ ⟨n4, rfl, rfl⟩
 refine Af (Ae (Ag (Ag (Ab (y_ (Bm (T U) Dk) (y_ (Aj (T U) isAgg3 (by first | exact c_o)) ?_ U) U)))))
 refine Af (Ae (Aw (Ag (Ab (y_ (By (T U) Ak) (y_ (Ad (T U)) (Af (Ae ?_)) U) U)))))
 first | refine Br (Aa U) ?_ | refine Br (Ai (Aa U) (vbool (decide_eq_false c14))) ?_
 refine Ag (Ag (Ab (y_ (By (T U) Ak) (y_ (Ad (T U)) (Af (Ae ?_)) U) U)))
 first | refine Ao (Aa U) (fun c17 => ?_) (fun c17 => ?_) | refine A5 (Aa U) (fun c17 => ?_) (fun c17 => ?_)
 ·refine A4 (Ae ?_)
  first | refine Bx (Aa U) ?_ | refine Bx (Ai (Aa U) (vbool (decide_eq_true c17))) ?_
  refine Ag (Ab (y_ (Ac (T U)) (y_ (Bu (T U)) (y_ (Bm (T U) fa161_0) (y_ (Aj (T U) isAgg22 (by first | exact c_o)) ?_ U) U) U) U))
  refine y_ (Bn (T U) runUnderlying22) (y_ (Ad (T U)) (Af (Ae (Ag (j_anyW 12 13 ((n4, Cl [.slice none 0 0, .slice none 0 0, .bool false] 163) :: (n3, Cl [.int .i64 2, .string s, .slice q 0 c] 24) :: R) ((n4, Cl [.slice none 0 0, .slice none 0 0, .bool false] 163) :: (n3, Cl [.int .i64 2, .string s, .slice q 0 c] 24) :: (nt, Cl [slV d1 t.lv.length, slV d2 t.fol.length] 161) :: R) mixd (by kernel_rfl) (by repeat (first | exact List.Sublist.refl _ | apply List.Sublist.cons_cons | exact sbt)) (by repeat (first | exact List.Sublist.refl _ | apply List.Sublist.cons_cons | exact sbt)) ?_)))) U) U
  refine Cq [0] (by kernel_rfl) U (i := 0) U (by kernel_rfl) (Ac (T U)) ?_ U Ah
  refine Cq [1] (by kernel_rfl) U (i := 1) U (by kernel_rfl) (Bu (T U)) ?_ U Ah
  refine Cq [2] (by kernel_rfl) U (i := 2) U (by kernel_rfl) (Bm (T U) fa161_0) ?_ U Ah
  refine Cq [3] (by kernel_rfl) U (i := 3) U (by kernel_rfl) (Aj (T U) isAgg22 (by first | exact c_o)) ?_ U Ah
  refine Cq [4] (by kernel_rfl) U (i := 4) U (by kernel_rfl) (Am (T U) isAgg24 sizeOf24 U (by first | exact Bf)) ?_ U Ah
  refine Cq [5] (by kernel_rfl) U (i := 5) U (by kernel_rfl) (Bn (T U) runUnderlying22) ?_ U Ah
  refine Dc (i := 6) (by kernel_rfl) (by kernel_rfl) ?_
  refine D3 U (Al (.cons Ak .nil) (B7 _ _ _ _ _)) ?_ U Ah (by kernel_rfl)
  rintro _ _ ⟨n31, rfl, rfl⟩
  refine ⟨sbt, (Dc (i := 7) (by kernel_rfl) (by kernel_rfl) ?_)⟩
  refine D3 U (B8 ((default : Rxm)) (by' := 48) (enc := encRx) (l := t.lv) (by repeat (first | exact LocL.h | apply LocL.t | apply LocL.a)) (T U) (T U) runUnderlying22 runUnderlying22 sizeOf24 typeInfo24 U zeroValue24 U (fun _ => rfl) U hok1 (by decide) (by omega)) ?_ U Ah (by kernel_rfl)
  rintro _ _ ⟨e1, rfl, ho1, rfl⟩
  refine ⟨sbt, (w_y (i := 8) U (by kernel_rfl) (Ct (T U) (T U) runUnderlying22 sizeOf24 (by simp; omega) (by first | exact rfl | exact (A1 (w0 := w0) (enc := encRx) (sz := 3) (e := 24) (X := []) (l := t.lv ++ [default]) (fun _ => rfl) ho1).b (i := t.lv.length) (by simp))) ?_ U Ah)⟩
  refine Cq [11, 10] (by kernel_rfl) U (i := 10) U (by kernel_rfl) (Bu (T U)) ?_ U Ah
  refine Cq [11] (by kernel_rfl) U (i := 11) U (by kernel_rfl) (Bm (T U) fa161_0) ?_ U Ah
  refine w_two (i := 9) (j := 12) (by kernel_rfl) (by kernel_rfl) ?_ ?_
  ·refine D3 U (eff_sElem (l := t.lv ++ [default]) (e := 24) (enc := encRx) (sz := 3) (i := t.lv.length) (.mk 2 s q c []) (fun _ => rfl) (by repeat (first | exact LocL.h | apply LocL.t | apply LocL.a)) (T U) (T U) .agg U sizeOf24 (by simp) ho1) ?_ U Ah (by kernel_rfl)
   rintro _ _ ⟨rfl, rfl⟩
   refine ⟨sbt, (Dc (i := 12) (by kernel_rfl) (by kernel_rfl) ?_)⟩
   first | refine Dx U (As (T U) (T U) sizeOf22) ?_ U Ah (by kernel_rfl) | refine Dx U (B5 (T U) (T U) U sizeOf22) ?_ U Ah (by kernel_rfl) | refine Dx U (Bz (T U) (T U) U sizeOf22) ?_ U Ah (by kernel_rfl)
   rintro _ _ ⟨rfl, rfl⟩
   refine ⟨sbt, (Ed (by kernel_rfl) U ?_)⟩
   refine Af (Ae (Bl [(0, _), (4, _), (5, _)] ⟨Aa U, Aa U, Aa U, trivial⟩ (Ag (Ab (y_ (Ac (T U)) (y_ (Ac (T U)) (y_ (Bu (T U)) (y_ (Bg (T U) fa161_1) (y_ (Aj (T U) isAgg26 (by first | exact c_o)) ?_ U) U) U) U) U)))))
   refine e_ (Al (.cons Ak .nil) (bs26_1_0 _ _ _)) ?_ U
   rintro _ _ ⟨n41, rfl, rfl⟩
   refine e_ (B8 ((⟨none, 0, []⟩ : RowQ)) (by' := 24) (enc := encRQ) (l := t.fol) (by repeat (first | exact LocL.h | apply LocL.t | apply LocL.a)) (T U) (T U) runUnderlying26 runUnderlying26 sizeOf42 typeInfo42 U zeroValue42 U (fun _ => rfl) U hok2 (by decide) (by omega)) ?_ U
   rintro _ _ ⟨e2, rfl, ho2, rfl⟩
   refine y_ (Bu (T U)) (y_ (Bg (T U) fa161_1) ?_ U) U
   first | refine A6 (As (T U) (T U) sizeOf26) U Ah ?_ | refine A6 (B5 (T U) (T U) U sizeOf26) U Ah ?_ | refine A6 (Bz (T U) (T U) U sizeOf26) U Ah ?_
   rintro _ _ ⟨rfl, rfl⟩
   refine Af (Ae (Ag (Ab (y_ (Ac (T U)) (e_ (Al (.cons (T U) .nil) (Ck _)) ?_ U) U))))
   rintro _ _ ⟨n46, rfl, rfl⟩
   refine y_ (Ac (T U)) (e_ (Al (.cons (T U) .nil) (Ck _)) ?_ U) U
   rintro _ _ ⟨n48, rfl, rfl⟩
   refine y_ (Bq (.cons (T U) (.cons (T U) .nil)) (bd163_0_1 _ _ _ _ _ _)) ?_ U
   first | refine A6 (As (T U) (T U) sizeOf163) U Ah ?_
   rintro _ _ ⟨rfl, rfl⟩
   refine Af (Ae (A7 (A0 (Ap (A8 U (.cellA (Aa U) isAgg163 sizeOf163 U (by first | exact Bf) .nil) ?_)))))
   refine ⟨_, ⟨(e1, e2, ⟨t.lv ++ [.mk 2 s q c []], t.fol ++ [⟨none, 0, []⟩]⟩, ⟨⟨[t.lv.length], [t.lv.length], false⟩, some ⟨n46, 0, none⟩, 1, some ⟨n48, 0, none⟩, 1⟩, [(n48, Cl [.int .i64 (t.lv.length : Nat)] 3), (n46, Cl [.int .i64 (t.lv.length : Nat)] 3)]), ⟨?_, by simpa using ho1, by simpa using ho2, by simp [LT.pl, readP, Rxm.node], by simp [LT.pl, readP, hlen], by simp [Re.lv], fun X hX => ⟨hX.push (by exact sbt) (by omega) hlf, C0 (fun _ => rfl) (by simp [encU]) (An Bs), C0 (fun _ => rfl) (by simp [encU]) Bs, Nat.le_refl _, Nat.le_refl _, .one (by simp), .one (by simp)⟩⟩, rfl⟩, ?_⟩
   ·rfl
   ·simp only [lt_app, set_last, List.append_assoc, List.cons_append, List.nil_append, List.length_append, List.length_cons, List.length_nil, Nat.zero_add, List.length_set]; exact sbt
  ·first | refine Dx U (As (T U) (T U) sizeOf22) ?_ U Ah (by kernel_rfl) | refine Dx U (B5 (T U) (T U) U sizeOf22) ?_ U Ah (by kernel_rfl) | refine Dx U (Bz (T U) (T U) U sizeOf22) ?_ U Ah (by kernel_rfl)
   rintro _ _ ⟨rfl, rfl⟩
   refine ⟨sbt, (Dc (i := 9) (by kernel_rfl) (by kernel_rfl) ?_)⟩
   refine Dx U (eff_sElem (l := t.lv ++ [default]) (e := 24) (enc := encRx) (sz := 3) (i := t.lv.length) (.mk 2 s q c []) (fun _ => rfl) (by repeat (first | exact LocL.h | apply LocL.t | apply LocL.a)) (T U) (T U) .agg U sizeOf24 (by simp) ho1) ?_ U Ah (by kernel_rfl)
   rintro _ _ ⟨rfl, rfl⟩
   refine ⟨sbt, (Ed (by kernel_rfl) U ?_)⟩
   refine Af (Ae (Bl [(0, _), (4, _), (5, _)] ⟨Aa U, Aa U, Aa U, trivial⟩ (Ag (Ab (y_ (Ac (T U)) (y_ (Ac (T U)) (y_ (Bu (T U)) (y_ (Bg (T U) fa161_1) (y_ (Aj (T U) isAgg26 (by first | exact c_o)) ?_ U) U) U) U) U)))))
   refine e_ (Al (.cons Ak .nil) (bs26_1_0 _ _ _)) ?_ U
   rintro _ _ ⟨n41, rfl, rfl⟩
   refine e_ (B8 ((⟨none, 0, []⟩ : RowQ)) (by' := 24) (enc := encRQ) (l := t.fol) (by repeat (first | exact LocL.h | apply LocL.t | apply LocL.a)) (T U) (T U) runUnderlying26 runUnderlying26 sizeOf42 typeInfo42 U zeroValue42 U (fun _ => rfl) U hok2 (by decide) (by omega)) ?_ U
   rintro _ _ ⟨e2, rfl, ho2, rfl⟩
   refine y_ (Bu (T U)) (y_ (Bg (T U) fa161_1) ?_ U) U
   first | refine A6 (As (T U) (T U) sizeOf26) U Ah ?_ | refine A6 (B5 (T U) (T U) U sizeOf26) U Ah ?_ | refine A6 (Bz (T U) (T U) U sizeOf26) U Ah ?_
   rintro _ _ ⟨rfl, rfl⟩
   refine Af (Ae (Ag (Ab (y_ (Ac (T U)) (e_ (Al (.cons (T U) .nil) (Ck _)) ?_ U) U))))
   rintro _ _ ⟨n46, rfl, rfl⟩
   refine y_ (Ac (T U)) (e_ (Al (.cons (T U) .nil) (Ck _)) ?_ U) U
   rintro _ _ ⟨n48, rfl, rfl⟩
   refine y_ (Bq (.cons (T U) (.cons (T U) .nil)) (bd163_0_1 _ _ _ _ _ _)) ?_ U
   first | refine A6 (As (T U) (T U) sizeOf163) U Ah ?_
   rintro _ _ ⟨rfl, rfl⟩
   refine Af (Ae (A7 (A0 (Ap (A8 U (.cellA (Aa U) isAgg163 sizeOf163 U (by first | exact Bf) .nil) ?_)))))
   refine ⟨_, ⟨(e1, e2, ⟨t.lv ++ [.mk 2 s q c []], t.fol ++ [⟨none, 0, []⟩]⟩, ⟨⟨[t.lv.length], [t.lv.length], false⟩, some ⟨n46, 0, none⟩, 1, some ⟨n48, 0, none⟩, 1⟩, [(n48, Cl [.int .i64 (t.lv.length : Nat)] 3), (n46, Cl [.int .i64 (t.lv.length : Nat)] 3)]), ⟨?_, by simpa using ho1, by simpa using ho2, by simp [LT.pl, readP, Rxm.node], by simp [LT.pl, readP, hlen], by simp [Re.lv], fun X hX => ⟨hX.push (by exact sbt) (by omega) hlf, C0 (fun _ => rfl) (by simp [encU]) (An Bs), C0 (fun _ => rfl) (by simp [encU]) Bs, Nat.le_refl _, Nat.le_refl _, .one (by simp), .one (by simp)⟩⟩, rfl⟩, ?_⟩
   ·rfl
   ·simp only [lt_app, set_last, List.append_assoc, List.cons_append, List.nil_append, List.length_append, List.length_cons, List.length_nil, Nat.zero_add, List.length_set]; exact sbt
 ·exfalso; omega
theorem read_any {w0 : World} {q : Option Addr} {c : Nat} : ReadS w0 (.mk 3 ⟨#[]⟩ q c []) (.any) := by
 intro R nt d1 d2 t hM hok1 hok2 ht hl
 show FSpec Tryz.prog w0 106 #[.pointer (some ⟨nt, 0, none⟩), .agg #[.int .i64 3, .string ⟨#[]⟩, .slice q 0 c]] (ltH nt d1 d2 t ++ R) _
 simp only [Re.lv] at hl
 have hfew := ht.few
 have hlen := ht.len
 have hlf : LfOk (.mk 3 ⟨#[]⟩ q c []) := .inr ⟨rfl, rfl⟩
 rw [lt_app]
 refine Bc Tryz.func106 U ntmps106 U (Ag (Ab (e_ (Bj (T U) cs_) ?_ U)))
 rintro _ _ ⟨n3, rfl, rfl⟩
 refine e_ (Aq zeroValue163 cs_) ?_ U
 rintro _ _ ⟨n4, rfl, rfl⟩
 refine Af (Ae (Ag (Ag (Ab (y_ (Bm (T U) Dk) (y_ (Aj (T U) isAgg3 (by first | exact c_o)) ?_ U) U)))))
 refine Af (Ae (Aw (Ag (Ab (y_ (By (T U) Ak) (y_ (Ad (T U)) (Af (Ae ?_)) U) U)))))
 first | refine Br (Aa U) ?_ | refine Br (Ai (Aa U) (vbool (decide_eq_false c14))) ?_
 refine Ag (Ag (Ab (y_ (By (T U) Ak) (y_ (Ad (T U)) (Af (Ae ?_)) U) U)))
 first | refine Ao (Aa U) (fun c17 => ?_) (fun c17 => ?_) | refine A5 (Aa U) (fun c17 => ?_) (fun c17 => ?_)
 ·exfalso; omega
 ·refine Ab (y_ (By (T U) Ak) (y_ (Ad (T U)) (Af (Ae ?_)) U) U)
  first | refine Ao (Aa U) (fun c17 => ?_) (fun c17 => ?_) | refine A5 (Aa U) (fun c17 => ?_) (fun c17 => ?_)
  ·refine Ag (Ab (y_ (Ac (T U)) (y_ (Bu (T U)) (y_ (Bm (T U) fa161_0) (y_ (Aj (T U) isAgg22 (by first | exact c_o)) ?_ U) U) U) U))
   refine y_ (Bn (T U) runUnderlying22) (y_ (Ad (T U)) (Af (Ae (Ag (j_anyW 12 13 ((n4, Cl [.slice none 0 0, .slice none 0 0, .bool false] 163) :: (n3, Cl [.int .i64 3, .string ⟨#[]⟩, .slice q 0 c] 24) :: R) ((n4, Cl [.slice none 0 0, .slice none 0 0, .bool false] 163) :: (n3, Cl [.int .i64 3, .string ⟨#[]⟩, .slice q 0 c] 24) :: (nt, Cl [slV d1 t.lv.length, slV d2 t.fol.length] 161) :: R) mixd (by kernel_rfl) (by repeat (first | exact List.Sublist.refl _ | apply List.Sublist.cons_cons | exact sbt)) (by repeat (first | exact List.Sublist.refl _ | apply List.Sublist.cons_cons | exact sbt)) ?_)))) U) U
   refine Cq [0] (by kernel_rfl) U (i := 0) U (by kernel_rfl) (Ac (T U)) ?_ U Ah
   refine Cq [1] (by kernel_rfl) U (i := 1) U (by kernel_rfl) (Bu (T U)) ?_ U Ah
   refine Cq [2] (by kernel_rfl) U (i := 2) U (by kernel_rfl) (Bm (T U) fa161_0) ?_ U Ah
   refine Cq [3] (by kernel_rfl) U (i := 3) U (by kernel_rfl) (Aj (T U) isAgg22 (by first | exact c_o)) ?_ U Ah
   refine Cq [4] (by kernel_rfl) U (i := 4) U (by kernel_rfl) (Am (T U) isAgg24 sizeOf24 U (by first | exact Bf)) ?_ U Ah
   refine Cq [5] (by kernel_rfl) U (i := 5) U (by kernel_rfl) (Bn (T U) runUnderlying22) ?_ U Ah
   refine Dc (i := 6) (by kernel_rfl) (by kernel_rfl) ?_
   refine D3 U (Al (.cons Ak .nil) (B7 _ _ _ _ _)) ?_ U Ah (by kernel_rfl)
   rintro _ _ ⟨n31, rfl, rfl⟩
   refine ⟨sbt, (Dc (i := 7) (by kernel_rfl) (by kernel_rfl) ?_)⟩
   refine D3 U (B8 ((default : Rxm)) (by' := 48) (enc := encRx) (l := t.lv) (by repeat (first | exact LocL.h | apply LocL.t | apply LocL.a)) (T U) (T U) runUnderlying22 runUnderlying22 sizeOf24 typeInfo24 U zeroValue24 U (fun _ => rfl) U hok1 (by decide) (by omega)) ?_ U Ah (by kernel_rfl)
   rintro _ _ ⟨e1, rfl, ho1, rfl⟩
   refine ⟨sbt, (w_y (i := 8) U (by kernel_rfl) (Ct (T U) (T U) runUnderlying22 sizeOf24 (by simp; omega) (by first | exact rfl | exact (A1 (w0 := w0) (enc := encRx) (sz := 3) (e := 24) (X := []) (l := t.lv ++ [default]) (fun _ => rfl) ho1).b (i := t.lv.length) (by simp))) ?_ U Ah)⟩
   refine Cq [11, 10] (by kernel_rfl) U (i := 10) U (by kernel_rfl) (Bu (T U)) ?_ U Ah
   refine Cq [11] (by kernel_rfl) U (i := 11) U (by kernel_rfl) (Bm (T U) fa161_0) ?_ U Ah
   refine w_two (i := 9) (j := 12) (by kernel_rfl) (by kernel_rfl) ?_ ?_
   ·refine D3 U (eff_sElem (l := t.lv ++ [default]) (e := 24) (enc := encRx) (sz := 3) (i := t.lv.length) (.mk 3 ⟨#[]⟩ q c []) (fun _ => rfl) (by repeat (first | exact LocL.h | apply LocL.t | apply LocL.a)) (T U) (T U) .agg U sizeOf24 (by simp) ho1) ?_ U Ah (by kernel_rfl)
    rintro _ _ ⟨rfl, rfl⟩
    refine ⟨sbt, (Dc (i := 12) (by kernel_rfl) (by kernel_rfl) ?_)⟩
    first | refine Dx U (As (T U) (T U) sizeOf22) ?_ U Ah (by kernel_rfl) | refine Dx U (B5 (T U) (T U) U sizeOf22) ?_ U Ah (by kernel_rfl) | refine Dx U (Bz (T U) (T U) U sizeOf22) ?_ U Ah (by kernel_rfl)
    rintro _ _ ⟨rfl, rfl⟩
    refine ⟨sbt, (Ed (by kernel_rfl) U ?_)⟩
    refine Af (Ae (Bl [(0, _), (4, _), (5, _)] ⟨Aa U, Aa U, Aa U, trivial⟩ (Ag (Ab (y_ (Ac (T U)) (y_ (Ac (T U)) (y_ (Bu (T U)) (y_ (Bg (T U) fa161_1) (y_ (Aj (T U) isAgg26 (by first | exact c_o)) ?_ U) U) U) U) U)))))
    refine e_ (Al (.cons Ak .nil) (bs26_1_0 _ _ _)) ?_ U
    rintro _ _ ⟨n41, rfl, rfl⟩
    refine e_ (B8 ((⟨none, 0, []⟩ : RowQ)) (by' := 24) (enc := encRQ) (l := t.fol) (by repeat (first | exact LocL.h | apply LocL.t | apply LocL.a)) (T U) (T U) runUnderlying26 runUnderlying26 sizeOf42 typeInfo42 U zeroValue42 U (fun _ => rfl) U hok2 (by decide) (by omega)) ?_ U
    rintro _ _ ⟨e2, rfl, ho2, rfl⟩
    refine y_ (Bu (T U)) (y_ (Bg (T U) fa161_1) ?_ U) U
    first | refine A6 (As (T U) (T U) sizeOf26) U Ah ?_ | refine A6 (B5 (T U) (T U) U sizeOf26) U Ah ?_ | refine A6 (Bz (T U) (T U) U sizeOf26) U Ah ?_
    rintro _ _ ⟨rfl, rfl⟩
    refine Af (Ae (Ag (Ab (y_ (Ac (T U)) (e_ (Al (.cons (T U) .nil) (Ck _)) ?_ U) U))))
    rintro _ _ ⟨n46, rfl, rfl⟩
    refine y_ (Ac (T U)) (e_ (Al (.cons (T U) .nil) (Ck _)) ?_ U) U
    rintro _ _ ⟨n48, rfl, rfl⟩
    refine y_ (Bq (.cons (T U) (.cons (T U) .nil)) (bd163_0_1 _ _ _ _ _ _)) ?_ U
    first | refine A6 (As (T U) (T U) sizeOf163) U Ah ?_
    rintro _ _ ⟨rfl, rfl⟩
    refine Af (Ae (A7 (A0 (Ap (A8 U (.cellA (Aa U) isAgg163 sizeOf163 U (by first | exact Bf) .nil) ?_)))))
    refine ⟨_, ⟨(e1, e2, ⟨t.lv ++ [.mk 3 ⟨#[]⟩ q c []], t.fol ++ [⟨none, 0, []⟩]⟩, ⟨⟨[t.lv.length], [t.lv.length], false⟩, some ⟨n46, 0, none⟩, 1, some ⟨n48, 0, none⟩, 1⟩, [(n48, Cl [.int .i64 (t.lv.length : Nat)] 3), (n46, Cl [.int .i64 (t.lv.length : Nat)] 3)]), ⟨?_, by simpa using ho1, by simpa using ho2, by simp [LT.pl, readP, Rxm.node], by simp [LT.pl, readP, hlen], by simp [Re.lv], fun X hX => ⟨hX.push (by exact sbt) (by omega) hlf, C0 (fun _ => rfl) (by simp [encU]) (An Bs), C0 (fun _ => rfl) (by simp [encU]) Bs, Nat.le_refl _, Nat.le_refl _, .one (by simp), .one (by simp)⟩⟩, rfl⟩, ?_⟩
    ·rfl
    ·simp only [lt_app, set_last, List.append_assoc, List.cons_append, List.nil_append, List.length_append, List.length_cons, List.length_nil, Nat.zero_add, List.length_set]; exact sbt
   ·first | refine Dx U (As (T U) (T U) sizeOf22) ?_ U Ah (by kernel_rfl) | refine Dx U (B5 (T U) (T U) U sizeOf22) ?_ U Ah (by kernel_rfl) | refine Dx U (Bz (T U) (T U) U sizeOf22) ?_ U Ah (by kernel_rfl)
    rintro _ _ ⟨rfl, rfl⟩
    refine ⟨sbt, (Dc (i := 9) (by kernel_rfl) (by kernel_rfl) ?_)⟩
    refine Dx U (eff_sElem (l := t.lv ++ [default]) (e := 24) (enc := encRx) (sz := 3) (i := t.lv.length) (.mk 3 ⟨#[]⟩ q c []) (fun _ => rfl) (by repeat (first | exact LocL.h | apply LocL.t | apply LocL.a)) (T U) (T U) .agg U sizeOf24 (by simp) ho1) ?_ U Ah (by kernel_rfl)
    rintro _ _ ⟨rfl, rfl⟩
    refine ⟨sbt, (Ed (by kernel_rfl) U ?_)⟩
    refine Af (Ae (Bl [(0, _), (4, _), (5, _)] ⟨Aa U, Aa U, Aa U, trivial⟩ (Ag (Ab (y_ (Ac (T U)) (y_ (Ac (T U)) (y_ (Bu (T U)) (y_ (Bg (T U) fa161_1) (y_ (Aj (T U) isAgg26 (by first | exact c_o)) ?_ U) U) U) U) U)))))
    refine e_ (Al (.cons Ak .nil) (bs26_1_0 _ _ _)) ?_ U
    rintro _ _ ⟨n41, rfl, rfl⟩
    refine e_ (B8 ((⟨none, 0, []⟩ : RowQ)) (by' := 24) (enc := encRQ) (l := t.fol) (by repeat (first | exact LocL.h | apply LocL.t | apply LocL.a)) (T U) (T U) runUnderlying26 runUnderlying26 sizeOf42 typeInfo42 U zeroValue42 U (fun _ => rfl) U hok2 (by decide) (by omega)) ?_ U
    rintro _ _ ⟨e2, rfl, ho2, rfl⟩
    refine y_ (Bu (T U)) (y_ (Bg (T U) fa161_1) ?_ U) U
    first | refine A6 (As (T U) (T U) sizeOf26) U Ah ?_ | refine A6 (B5 (T U) (T U) U sizeOf26) U Ah ?_ | refine A6 (Bz (T U) (T U) U sizeOf26) U Ah ?_
    rintro _ _ ⟨rfl, rfl⟩
    refine Af (Ae (Ag (Ab (y_ (Ac (T U)) (e_ (Al (.cons (T U) .nil) (Ck _)) ?_ U) U))))
    rintro _ _ ⟨n46, rfl, rfl⟩
    refine y_ (Ac (T U)) (e_ (Al (.cons (T U) .nil) (Ck _)) ?_ U) U
    rintro _ _ ⟨n48, rfl, rfl⟩
    refine y_ (Bq (.cons (T U) (.cons (T U) .nil)) (bd163_0_1 _ _ _ _ _ _)) ?_ U
    first | refine A6 (As (T U) (T U) sizeOf163) U Ah ?_
    rintro _ _ ⟨rfl, rfl⟩
    refine Af (Ae (A7 (A0 (Ap (A8 U (.cellA (Aa U) isAgg163 sizeOf163 U (by first | exact Bf) .nil) ?_)))))
    refine ⟨_, ⟨(e1, e2, ⟨t.lv ++ [.mk 3 ⟨#[]⟩ q c []], t.fol ++ [⟨none, 0, []⟩]⟩, ⟨⟨[t.lv.length], [t.lv.length], false⟩, some ⟨n46, 0, none⟩, 1, some ⟨n48, 0, none⟩, 1⟩, [(n48, Cl [.int .i64 (t.lv.length : Nat)] 3), (n46, Cl [.int .i64 (t.lv.length : Nat)] 3)]), ⟨?_, by simpa using ho1, by simpa using ho2, by simp [LT.pl, readP, Rxm.node], by simp [LT.pl, readP, hlen], by simp [Re.lv], fun X hX => ⟨hX.push (by exact sbt) (by omega) hlf, C0 (fun _ => rfl) (by simp [encU]) (An Bs), C0 (fun _ => rfl) (by simp [encU]) Bs, Nat.le_refl _, Nat.le_refl _, .one (by simp), .one (by simp)⟩⟩, rfl⟩, ?_⟩
    ·rfl
    ·simp only [lt_app, set_last, List.append_assoc, List.cons_append, List.nil_append, List.length_append, List.length_cons, List.length_nil, Nat.zero_add, List.length_set]; exact sbt
  ·exfalso; omega
theorem read_emp {w0 : World} {q : Option Addr} {c : Nat} : ReadS w0 (.mk 1 ⟨#[]⟩ q c []) (.emp) := by
 intro R nt d1 d2 t hM hok1 hok2 ht hl
 show FSpec Tryz.prog w0 106 #[.pointer (some ⟨nt, 0, none⟩), .agg #[.int .i64 1, .string ⟨#[]⟩, .slice q 0 c]] (ltH nt d1 d2 t ++ R) _
 refine Bc Tryz.func106 U ntmps106 U (Ag (Ab (e_ (Bj (T U) cs_) ?_ U)))
 rintro _ _ ⟨n3, rfl, rfl⟩
 refine e_ (Aq zeroValue163 cs_) ?_ U
 rintro _ _ ⟨n4, rfl, rfl⟩
 refine Af (Ae (Ag (Ag (Ab (y_ (Bm (T U) Dk) (y_ (Aj (T U) isAgg3 (by first | exact c_o)) ?_ U) U)))))
 refine Af (Ae (Aw (Ag (Ab (y_ (By (T U) Ak) (y_ (Ad (T U)) (Af (Ae ?_)) U) U)))))
 first | refine Bx (Aa U) ?_ | refine Bx (Ai (Aa U) (vbool (decide_eq_true c14))) ?_
 refine Ag (Ab (y_ (Bq (.cons Ak .nil) (bd163_2 _)) ?_ U))
 first | refine A6 (As (T U) (T U) sizeOf163) U Ah ?_
 rintro _ _ ⟨rfl, rfl⟩
 refine Af (Ae (A7 (A0 (Ap (A8 U (.cellA (Aa U) isAgg163 sizeOf163 U (by first | exact Bf) .nil) ?_)))))
 exact ⟨_, ⟨(d1, d2, t, ⟨⟨[], [], true⟩, none, 0, none, 0⟩, []), ⟨rfl, hok1, hok2, rfl, rfl, rfl, fun X hX => ⟨hX, (fun i x hi => by cases hi), (fun i x hi => by cases hi), Nat.le_refl _, Nat.le_refl _, .nil, .nil⟩⟩, rfl⟩, sbt⟩
end Go.Proofs.YtkdolgnpkjihpaaGreatDoor
namespace Go.Proofs.YtkdolgnpkjihpaaGreatDoor
open _root_.Go.Proofs.Tryz
open Go.RowKit
set_option linter.unusedVariables false
set_option linter.unusedSimpArgs false
theorem bd163_0_1_2 (a0 : Option Addr) (a0n a0c : Nat) (a1 : Option Addr) (a1n a1c : Nat) (a2 : Bool) (w : World) : (Instr.build 163 #[(0, .slice a0 a0n a0c), (1, .slice a1 a1n a1c), (2, .bool a2)]).run Tryz.prog w = .ok (.agg #[.slice a0 a0n a0c, .slice a1 a1n a1c, .bool a2]) w := by kernel_rfl
theorem fa163_0 (b o : Nat) (w : World) : (Instr.fieldAt 163 (.pointer (some ⟨b, o, none⟩)) 0).run Tryz.prog w = .ok (.pointer (some ⟨b, o, none⟩)) w := by kernel_rfl
theorem fa163_1 (b o : Nat) (w : World) : (Instr.fieldAt 163 (.pointer (some ⟨b, o, none⟩)) 1).run Tryz.prog w = .ok (.pointer (some ⟨b, o + 1, none⟩)) w := by kernel_rfl
theorem fa163_2 (b o : Nat) (w : World) : (Instr.fieldAt 163 (.pointer (some ⟨b, o, none⟩)) 2).run Tryz.prog w = .ok (.pointer (some ⟨b, o + 2, none⟩)) w := by kernel_rfl
theorem RdOk.alt {w0 : World} {a b : Re} {t t1 t2 : LT} {E1 E2 : EQ} {M1 M2 M5 M6 : List (Nat × Obj)} {q5 q6 : Option Addr} {c5 c6 : Nat} (h1 : RdOk w0 a t t1 E1 M1) (h2 : RdOk w0 b t1 t2 E2 M2)
  (k5 : (mergeF E1.pe.first E2.pe.first).length ≤ c5) (h5 : ∀ X, Arr w0 X E1.q1 1 encU E1.pe.first → Arr w0 (M5 ++ X) q5 1 encU (mergeF E1.pe.first E2.pe.first))
  (k6 : (mergeF E1.pe.last E2.pe.last).length ≤ c6) (h6 : ∀ X, Arr w0 X E1.q2 1 encU E1.pe.last → Arr w0 (M6 ++ X) q6 1 encU (mergeF E1.pe.last E2.pe.last)) {x : Bool} (hx : x = (E1.pe.emp || E2.pe.emp)) :
  RdOk w0 (.alt a b) t t2 ⟨⟨mergeF E1.pe.first E2.pe.first, mergeF E1.pe.last E2.pe.last, x⟩, q5, c5, q6, c6⟩ (M6 ++ (M5 ++ (M2 ++ M1))) := by
 have hl1 := h1.len
 have hl2 := h2.len
 refine ⟨by rw [h2.pl, h1.pl]; rfl, by rw [hx, h1.pe, h2.pe, h1.pl]; rfl, by rw [hl2, hl1]; simp only [Re.lv]; omega, fun X hX => ?_⟩
 obtain ⟨g1, b1⟩ := h1.ok X hX
 obtain ⟨g2, b2⟩ := h2.ok _ g1
 have hS : (M2 ++ (M1 ++ X)).Sublist (M6 ++ (M5 ++ (M2 ++ M1)) ++ X) := by simp only [List.append_assoc]; exact (List.sublist_append_right _ _).trans (List.sublist_append_right _ _)
 have b1' : EqOk w0 (M2 ++ (M1 ++ X)) t2.lv.length E1 := b1.mono (by omega) (List.sublist_append_right _ _)
 refine ⟨g2.mono hS, ?_, ?_, k5, k6, b1'.s1.merge b2.s1, b1'.s2.merge b2.s2⟩
 ·refine (h5 _ b1'.a1).mono ?_
  simp only [List.append_assoc]; exact List.sublist_append_right _ _
 ·refine (h6 _ b1'.a2).mono ?_
  simp only [List.append_assoc]; exact (List.Sublist.refl _).append (List.sublist_append_right _ _)
theorem RdOk.seq {w0 : World} {a b : Re} {t t1 t2 : LT} {fol3 : List RowQ} {E1 E2 : EQ} {M1 M2 M3 M5 M6 : List (Nat × Obj)} {q5 q6 : Option Addr} {c5 c6 : Nat} {l5 l6 : List Nat} (h1 : RdOk w0 a t t1 E1 M1) (h2 : RdOk w0 b t1 t2 E2 M2)
  (hf : fol3.map RowQ.l = leadP t2.pl.fol E1.pe.last E2.pe.first) (h3 : ∀ X, LtOk w0 X t2 → LtOk w0 (M3 ++ X) ⟨t2.lv, fol3⟩)
  (e5 : l5 = if E1.pe.emp then mergeF E1.pe.first E2.pe.first else E1.pe.first) (k5 : l5.length ≤ c5) (h5 : ∀ X, Arr w0 X E1.q1 1 encU E1.pe.first → Arr w0 (M5 ++ X) q5 1 encU l5)
  (e6 : l6 = if E2.pe.emp then mergeF E2.pe.last E1.pe.last else E2.pe.last) (k6 : l6.length ≤ c6) (h6 : ∀ X, Arr w0 X E2.q2 1 encU E2.pe.last → Arr w0 (M6 ++ X) q6 1 encU l6) {x : Bool} (hx : x = (E1.pe.emp && E2.pe.emp)) :
  RdOk w0 (.seq a b) t ⟨t2.lv, fol3⟩ ⟨⟨l5, l6, x⟩, q5, c5, q6, c6⟩ (M6 ++ (M5 ++ (M3 ++ (M2 ++ M1)))) := by
 have hl1 := h1.len
 have hl2 := h2.len
 refine ⟨?_, by rw [hx, e5, e6, h1.pe, h2.pe, h1.pl]; rfl, by show t2.lv.length = _; rw [hl2, hl1]; simp only [Re.lv]; omega, fun X hX => ?_⟩
 ·show (⟨t2.lv.map Rxm.node, fol3.map RowQ.l⟩ : PT) = _
  rw [hf, h1.pe, h2.pe, show t2.lv.map Rxm.node = t2.pl.nms from rfl, h2.pl, h1.pl]; rfl
 obtain ⟨g1, b1⟩ := h1.ok X hX
 obtain ⟨g2, b2⟩ := h2.ok _ g1
 have g3 := h3 _ g2
 have b1' : EqOk w0 (M2 ++ (M1 ++ X)) t2.lv.length E1 := b1.mono (by omega) (List.sublist_append_right _ _)
 refine ⟨g3.mono (by simp only [List.append_assoc]; exact (List.sublist_append_right _ _).trans (List.sublist_append_right _ _)), ?_, ?_, k5, k6, ?_, ?_⟩
 ·refine (h5 _ b1'.a1).mono ?_
  simp only [List.append_assoc]; exact ((List.Sublist.refl _).append (List.sublist_append_right _ _)).trans (List.sublist_append_right _ _)
 ·refine (h6 _ b2.a2).mono ?_
  simp only [List.append_assoc]; exact (List.Sublist.refl _).append ((List.sublist_append_right _ _).trans (List.sublist_append_right _ _))
 ·show Srn t2.lv.length l5
  rw [e5]; split
  ·exact b1'.s1.merge b2.s1
  ·exact b1'.s1
 ·show Srn t2.lv.length l6
  rw [e6]; split
  ·exact b2.s2.merge b1'.s2
  ·exact b2.s2
theorem RdOk.star {w0 : World} {a : Re} {t t1 : LT} {fol3 : List RowQ} {E1 : EQ} {M1 M3 : List (Nat × Obj)} (h1 : RdOk w0 a t t1 E1 M1)
  (hf : fol3.map RowQ.l = leadP t1.pl.fol E1.pe.last E1.pe.first) (h3 : ∀ X, LtOk w0 X t1 → LtOk w0 (M3 ++ X) ⟨t1.lv, fol3⟩) :
  RdOk w0 (.star a) t ⟨t1.lv, fol3⟩ ⟨⟨E1.pe.first, E1.pe.last, true⟩, E1.q1, E1.c1, E1.q2, E1.c2⟩ (M3 ++ M1) := by
 refine ⟨?_, by rw [h1.pe]; rfl, h1.len, fun X hX => ?_⟩
 ·show (⟨t1.lv.map Rxm.node, fol3.map RowQ.l⟩ : PT) = _
  rw [hf, h1.pe, show t1.lv.map Rxm.node = t1.pl.nms from rfl, h1.pl]; rfl
 obtain ⟨g1, b1⟩ := h1.ok X hX
 have g3 := h3 _ g1
 have b1' : EqOk w0 (M3 ++ M1 ++ X) t1.lv.length E1 := b1.mono (Nat.le_refl _) (by simp only [List.append_assoc]; exact List.sublist_append_right _ _)
 exact ⟨g3.mono (by simp only [List.append_assoc]; exact List.Sublist.refl _), b1'.a1, b1'.a2, b1'.k1, b1'.k2, b1'.s1, b1'.s2⟩
theorem read_alt {w0 : World} {q : Option Addr} {c : Nat} {ma mb : Rxm} {a b : Re} (iha : ReadS w0 ma a) (ihb : ReadS w0 mb b) : ReadS w0 (.mk 5 ⟨#[]⟩ q c [ma, mb]) (.alt a b) := by
 intro R nt d1 d2 t hM hok1 hok2 ht hl
 show FSpec Tryz.prog w0 106 #[.pointer (some ⟨nt, 0, none⟩), .agg #[.int .i64 5, .string ⟨#[]⟩, .slice q 2 c]] (ltH nt d1 d2 t ++ R) _
 simp only [Re.lv] at hl
 obtain ⟨hA, hMM, _, _⟩ := hM
 have hMa := hMM ma (by simp)
 have hMb := hMM mb (by simp)
 refine Bc Tryz.func106 U ntmps106 U (Ag (Ab (e_ (Bj (T U) cs_) ?_ U)))
 rintro _ _ ⟨n3, rfl, rfl⟩
 refine e_ (Aq zeroValue163 cs_) ?_ U
 rintro _ _ ⟨n4, rfl, rfl⟩
 refine Af (Ae (Ag (Ag (Ab (y_ (Bm (T U) Dk) (y_ (Aj (T U) isAgg3 (by first | exact c_o)) ?_ U) U)))))
 refine Af (Ae (Aw (Ag (Ab (y_ (By (T U) Ak) (y_ (Ad (T U)) (Af (Ae ?_)) U) U)))))
 first | refine Br (Aa U) ?_ | refine Br (Ai (Aa U) (vbool (decide_eq_false c14))) ?_
 refine Ag (Ag (Ab (y_ (By (T U) Ak) (y_ (Ad (T U)) (Af (Ae ?_)) U) U)))
 first | refine Ao (Aa U) (fun c17 => ?_) (fun c17 => ?_) | refine A5 (Aa U) (fun c17 => ?_) (fun c17 => ?_)
 ·exfalso; omega
 ·refine Ab (y_ (By (T U) Ak) (y_ (Ad (T U)) (Af (Ae ?_)) U) U)
  first | refine Ao (Aa U) (fun c17 => ?_) (fun c17 => ?_) | refine A5 (Aa U) (fun c17 => ?_) (fun c17 => ?_)
  ·exfalso; omega
  ·refine Ag (Ab (y_ (By (T U) Ak) (y_ (Ad (T U)) (Af (Ae ?_)) U) U))
   first | refine Bx (Aa U) ?_ | refine Bx (Ai (Aa U) (vbool (decide_eq_true c50))) ?_
   refine Ag (Ab (y_ (Ac (T U)) (y_ (Bg (T U) C8) (y_ (Aj (T U) isAgg22 (by first | exact c_o)) ?_ U) U) U))
   refine y_ (Ct (T U) Ak runUnderlying22 sizeOf24 (by omega) (by first | exact rfl | exact hA.b0 | exact hA.b1)) ?_ U
   refine y_ (Am (T U) isAgg24 sizeOf24 U (by first | exact hA.cs0 | exact Bf)) ?_ U
   refine e_ (Au (.cons (T U) (.cons (T U) .nil)) call106 (Bv (ltH nt d1 d2 t) (by repeat (first | exact LocL.h | apply LocL.t | apply LocL.a)) (iha _ nt d1 d2 t (hMa.mono sbt) hok1 hok2 (ht.mono sbt) (by omega)))) ?_ U
   rintro _ _ ⟨⟨e1, e2, t1, E1, M1⟩, ⟨rfl, ho1, ho2, hr1⟩, rfl⟩
   simp only [List.append_assoc] at hr1 ⊢
   have hl1 := hr1.len
   obtain ⟨ht1, hE1⟩ := hr1.ok R ht
   refine e_ (Aq zeroValue163 cs_) ?_ U
   rintro _ _ ⟨n6, rfl, rfl⟩
   first | refine A6 (As (T U) (T U) sizeOf163) U Ah ?_
   rintro _ _ ⟨rfl, rfl⟩
   refine Af (Ae (Ag (Ab (y_ (Ac (T U)) (y_ (Bg (T U) C8) (y_ (Aj (T U) isAgg22 (by first | exact c_o)) ?_ U) U) U))))
   refine y_ (Ct (T U) Ak runUnderlying22 sizeOf24 (by omega) (by first | exact rfl | exact hA.b0 | exact hA.b1)) ?_ U
   refine y_ (Am (T U) isAgg24 sizeOf24 U (by first | exact hA.cs1 | exact Bf)) ?_ U
   refine e_ (Au (.cons (T U) (.cons (T U) .nil)) call106 (Bv (ltH nt e1 e2 t1) (by repeat (first | exact LocL.h | apply LocL.t | apply LocL.a)) (ihb _ nt e1 e2 t1 (hMb.mono sbt) ho1 ho2 (ht1.mono sbt) (by omega)))) ?_ U
   rintro _ _ ⟨⟨f1, f2, t2, E2, M2⟩, ⟨rfl, ho3, ho4, hr2⟩, rfl⟩
   simp only [List.append_assoc] at hr2 ⊢
   have hl2 := hr2.len
   obtain ⟨ht2, hE2⟩ := hr2.ok (M1 ++ R) ht1
   have hE1b : EqOk w0 (M2 ++ (M1 ++ R)) t2.lv.length E1 := hE1.mono (by omega) (List.sublist_append_right _ _)
   have w1 := hE1b.s1.len
   have w2 := hE1b.s2.len
   have w3 := hE2.s1.len
   have w4 := hE2.s2.len
   have w5 := ht2.few
   refine jl_perm (List.Perm.cons _ (List.Perm.cons _ (List.Perm.cons _ (List.perm_append_comm_assoc _ _ _)))) (e_ (Aq zeroValue163 cs_) ?_ U)
   rintro _ _ ⟨n7, rfl, rfl⟩
   first | refine A6 (As (T U) (T U) sizeOf163) U Ah ?_
   rintro _ _ ⟨rfl, rfl⟩
   refine Af (Ae (Bl [(4, _), (6, _), (7, _)] ⟨Aa U, Aa U, Aa U, trivial⟩ (Ag (Cm 17 [(0, true), (1, true), (2, true), (3, true), (5, true), (6, true), (7, true), (8, true), (10, true), (11, true), (4, false), (9, false), (12, true), (13, true), (14, true), (15, true), (16, true)] _ mixd (by kernel_rfl) sb0 ?_))))
   refine o_y U (Bm (T U) fa163_0) (o_y U (Aj (T U) isAgg42 (by first | exact c_o)) ?_ U Ah) U Ah
   refine o_y U (Bm (T U) fa163_0) (o_y U (Aj (T U) isAgg42 (by first | exact c_o)) ?_ U Ah) U Ah
   refine o_y U (Bg (T U) fa163_1) (o_y U (Aj (T U) isAgg42 (by first | exact c_o)) ?_ U Ah) U Ah
   refine o_y U (Bg (T U) fa163_1) (o_y U (Aj (T U) isAgg42 (by first | exact c_o)) ?_ U Ah) U Ah
   refine o_y U (Bg (T U) fa163_2) (o_y U (Aj (T U) isAgg4 (by first | exact c_o)) ?_ U Ah) U Ah
   refine o_e U (Au (.cons (T U) (.cons (T U) .nil)) call111 (merge_x E1.pe.first E1.q1 E1.c1 (hE1b.a1.mono sbt) hE1b.k1 E2.pe.first E2.q1 E2.c1 (hE2.a1.mono sbt) (by omega))) ?_ U Ah
   rintro _ _ ⟨q5, c5, M5, ⟨rfl, hc5, hA5⟩, rfl⟩
   refine ⟨sbt, (o_e U (Au (.cons (T U) (.cons (T U) .nil)) call111 (merge_x E1.pe.last E1.q2 E1.c2 (hE1b.a2.mono sbt) hE1b.k2 E2.pe.last E2.q2 E2.c2 (hE2.a2.mono sbt) (by omega))) ?_ U Ah)⟩
   rintro _ _ ⟨q6, c6, M6, ⟨rfl, hc6, hA6⟩, rfl⟩
   refine ⟨sbt, (o_y U (Ac (T U)) ?_ U Ah)⟩
   first | refine C5 (s := 76) (Aa U) (fun c76 => ?_) (fun c76 => ?_) | refine D5 (s := 76) (Aa U) (fun c76 => ?_) (fun c76 => ?_)
   ·refine o_n U (o_n U (o_y U (Az (T U) Ak) (o_y U (Bq (.cons (T U) (.cons (T U) (.cons (T U) .nil))) (bd163_0_1_2 _ _ _ _ _ _ _)) (B3 U ?_) U Ah) U Ah) U (Bh U U (Aa U))) U (Bh U U (Aa U))
    first | refine A6 (As (T U) (T U) sizeOf163) U Ah ?_
    rintro _ _ ⟨rfl, rfl⟩
    refine Af (Ae (A7 (A0 (Ap (A8 U (.cellA (Aa U) isAgg163 sizeOf163 U (by first | exact Bf) .nil) ?_)))))
    exact ⟨_, ⟨(f1, f2, t2, ⟨⟨mergeF E1.pe.first E2.pe.first, mergeF E1.pe.last E2.pe.last, _⟩, q5, c5, q6, c6⟩, M6 ++ (M5 ++ (M2 ++ M1))), ⟨rfl, ho3, ho4, RdOk.alt hr1 hr2 hc5 hA5 hc6 hA6 (by simp [c76])⟩, rfl⟩, by simp only [List.append_assoc]; exact sbt⟩
   ·refine o_y U (Bg (T U) fa163_2) (o_y U (Aj (T U) isAgg4 (by first | exact c_o)) ?_ U (Ar U U (Aa U))) U (Ar U U (Aa U))
    refine o_y U (A9 (T U) (T U)) (o_y U (Bq (.cons (T U) (.cons (T U) (.cons (T U) .nil))) (bd163_0_1_2 _ _ _ _ _ _ _)) (B3 U ?_) U Ah) U Ah
    first | refine A6 (As (T U) (T U) sizeOf163) U Ah ?_
    rintro _ _ ⟨rfl, rfl⟩
    refine Af (Ae (A7 (A0 (Ap (A8 U (.cellA (Aa U) isAgg163 sizeOf163 U (by first | exact Bf) .nil) ?_)))))
    exact ⟨_, ⟨(f1, f2, t2, ⟨⟨mergeF E1.pe.first E2.pe.first, mergeF E1.pe.last E2.pe.last, _⟩, q5, c5, q6, c6⟩, M6 ++ (M5 ++ (M2 ++ M1))), ⟨rfl, ho3, ho4, RdOk.alt hr1 hr2 hc5 hA5 hc6 hA6 (by simp [c76])⟩, rfl⟩, by simp only [List.append_assoc]; exact sbt⟩
end Go.Proofs.YtkdolgnpkjihpaaGreatDoor
namespace Go.Proofs.YtkdolgnpkjihpaaGreatDoor
open _root_.Go.Proofs.Tryz
open Go.RowKit
set_option linter.unusedVariables false
set_option linter.unusedSimpArgs false
theorem read_seq {w0 : World} {q : Option Addr} {c : Nat} {ma mb : Rxm} {a b : Re} (iha : ReadS w0 ma a) (ihb : ReadS w0 mb b) : ReadS w0 (.mk 4 ⟨#[]⟩ q c [ma, mb]) (.seq a b) := by
 intro R nt d1 d2 t hM hok1 hok2 ht hl
 show FSpec Tryz.prog w0 106 #[.pointer (some ⟨nt, 0, none⟩), .agg #[.int .i64 4, .string ⟨#[]⟩, .slice q 2 c]] (ltH nt d1 d2 t ++ R) _
 simp only [Re.lv] at hl
 obtain ⟨hA, hMM, _, _⟩ := hM
 have hMa := hMM ma (by simp)
 have hMb := hMM mb (by simp)
 refine Bc Tryz.func106 U ntmps106 U (Ag (Ab (e_ (Bj (T U) cs_) ?_ U)))
 rintro _ _ ⟨n3, rfl, rfl⟩
 refine e_ (Aq zeroValue163 cs_) ?_ U
 rintro _ _ ⟨n4, rfl, rfl⟩
 refine Af (Ae (Ag (Ag (Ab (y_ (Bm (T U) Dk) (y_ (Aj (T U) isAgg3 (by first | exact c_o)) ?_ U) U)))))
 refine Af (Ae (Aw (Ag (Ab (y_ (By (T U) Ak) (y_ (Ad (T U)) (Af (Ae ?_)) U) U)))))
 first | refine Br (Aa U) ?_ | refine Br (Ai (Aa U) (vbool (decide_eq_false c14))) ?_
 refine Ag (Ag (Ab (y_ (By (T U) Ak) (y_ (Ad (T U)) (Af (Ae ?_)) U) U)))
 first | refine Ao (Aa U) (fun c17 => ?_) (fun c17 => ?_) | refine A5 (Aa U) (fun c17 => ?_) (fun c17 => ?_)
 ·exfalso; omega
 ·refine Ab (y_ (By (T U) Ak) (y_ (Ad (T U)) (Af (Ae ?_)) U) U)
  first | refine Ao (Aa U) (fun c17 => ?_) (fun c17 => ?_) | refine A5 (Aa U) (fun c17 => ?_) (fun c17 => ?_)
  ·exfalso; omega
  ·refine Ag (Ab (y_ (By (T U) Ak) (y_ (Ad (T U)) (Af (Ae ?_)) U) U))
   first | refine Br (Aa U) ?_ | refine Br (Ai (Aa U) (vbool (decide_eq_false c50))) ?_
   refine Ag (Ab (y_ (By (T U) Ak) (y_ (Ad (T U)) (Af (Ae ?_)) U) U))
   first | refine Bx (Aa U) ?_ | refine Bx (Ai (Aa U) (vbool (decide_eq_true c81))) ?_
   refine Ag (Ab (y_ (Ac (T U)) (y_ (Bg (T U) C8) (y_ (Aj (T U) isAgg22 (by first | exact c_o)) ?_ U) U) U))
   refine y_ (Ct (T U) Ak runUnderlying22 sizeOf24 (by omega) (by first | exact rfl | exact hA.b0 | exact hA.b1)) ?_ U
   refine y_ (Am (T U) isAgg24 sizeOf24 U (by first | exact hA.cs0 | exact Bf)) ?_ U
   refine e_ (Au (.cons (T U) (.cons (T U) .nil)) call106 (Bv (ltH nt d1 d2 t) (by repeat (first | exact LocL.h | apply LocL.t | apply LocL.a)) (iha _ nt d1 d2 t (hMa.mono sbt) hok1 hok2 (ht.mono sbt) (by omega)))) ?_ U
   rintro _ _ ⟨⟨e1, e2, t1, E1, M1⟩, ⟨rfl, ho1, ho2, hr1⟩, rfl⟩
   simp only [List.append_assoc] at hr1 ⊢
   have hl1 := hr1.len
   obtain ⟨ht1, hE1⟩ := hr1.ok R ht
   refine e_ (Aq zeroValue163 cs_) ?_ U
   rintro _ _ ⟨n8, rfl, rfl⟩
   first | refine A6 (As (T U) (T U) sizeOf163) U Ah ?_
   rintro _ _ ⟨rfl, rfl⟩
   refine Af (Ae (Ag (Ab (y_ (Ac (T U)) (y_ (Bg (T U) C8) (y_ (Aj (T U) isAgg22 (by first | exact c_o)) ?_ U) U) U))))
   refine y_ (Ct (T U) Ak runUnderlying22 sizeOf24 (by omega) (by first | exact rfl | exact hA.b0 | exact hA.b1)) ?_ U
   refine y_ (Am (T U) isAgg24 sizeOf24 U (by first | exact hA.cs1 | exact Bf)) ?_ U
   refine e_ (Au (.cons (T U) (.cons (T U) .nil)) call106 (Bv (ltH nt e1 e2 t1) (by repeat (first | exact LocL.h | apply LocL.t | apply LocL.a)) (ihb _ nt e1 e2 t1 (hMb.mono sbt) ho1 ho2 (ht1.mono sbt) (by omega)))) ?_ U
   rintro _ _ ⟨⟨f1, f2, t2, E2, M2⟩, ⟨rfl, ho3, ho4, hr2⟩, rfl⟩
   simp only [List.append_assoc] at hr2 ⊢
   have hl2 := hr2.len
   obtain ⟨ht2, hE2⟩ := hr2.ok (M1 ++ R) ht1
   have hE1b : EqOk w0 (M2 ++ (M1 ++ R)) t2.lv.length E1 := hE1.mono (by omega) (List.sublist_append_right _ _)
   have w1 := hE1b.s1.len
   have w2 := hE1b.s2.len
   have w3 := hE2.s1.len
   have w4 := hE2.s2.len
   have w5 := ht2.few
   refine jl_perm (List.Perm.cons _ (List.Perm.cons _ (List.Perm.cons _ (List.perm_append_comm_assoc _ _ _)))) (e_ (Aq zeroValue163 cs_) ?_ U)
   rintro _ _ ⟨n9, rfl, rfl⟩
   first | refine A6 (As (T U) (T U) sizeOf163) U Ah ?_
   rintro _ _ ⟨rfl, rfl⟩
   refine Af (Ae (Bl [(0, _), (4, _), (8, _), (9, _)] ⟨Aa U, Aa U, Aa U, Aa U, trivial⟩ (Ag (Ab (y_ (Ac (T U)) (y_ (Bg (T U) fa163_1) (y_ (Aj (T U) isAgg42 (by first | exact c_o)) ?_ U) U) U)))))
   refine y_ (Bm (T U) fa163_0) (y_ (Aj (T U) isAgg42 (by first | exact c_o)) ?_ U) U
   refine e_ (Au (.cons (T U) (.cons (T U) (.cons (T U) .nil))) call140 (Bv (ltH nt f1 f2 t2) (by repeat (first | exact LocL.h | apply LocL.t | apply LocL.a)) (lead_s nt f1 f2 t2 ho4 (ht2.mono sbt) E1.pe.last E2.pe.first E1.q2 E2.q1 E1.c2 E2.c1 (hE1b.a2.mono sbt) (hE2.a1.mono sbt) hE1b.s2 hE2.s1))) ?_ U
   rintro _ _ ⟨⟨fol3, M3⟩, ⟨hfo3, hx3, ho5⟩, rfl⟩
   simp only [List.append_assoc] at hx3 ⊢
   refine jl_perm (List.Perm.cons _ (List.Perm.cons _ (List.Perm.cons _ (List.Perm.cons _ (List.Perm.trans (List.Perm.append_left _ (List.perm_append_comm_assoc _ _ _)) (List.perm_append_comm_assoc _ _ _)))))) (Af (Ae ?_))
   refine Du (X := Nat × Bool) (V := fun ⟨m10, x⟩ => [(10, .pointer (some ⟨m10, 0, none⟩))]) (C := [(4, _), (8, _), (9, _)]) (G := fun ⟨m10, x⟩ => (m10, Cl [.slice E1.q1 E1.pe.first.length E1.c1, .slice E2.q2 E2.pe.last.length E2.c2, .bool x] 163) :: (n9, Cl (encEQ E2) 163) :: (n8, Cl (encEQ E1) 163) :: (n4, Cl [.slice none 0 0, .slice none 0 0, .bool false] 163) :: (n3, Cl [.int .i64 4, .string ⟨#[]⟩, .slice q 2 c] 24) :: (M3 ++ (M2 ++ (M1 ++ (ltH nt f1 f2 ⟨t2.lv, fol3⟩ ++ R))))) (φ := fun ⟨m10, x⟩ => x = (E1.pe.emp && E2.pe.emp)) ⟨Aa rfl, Aa rfl, Aa rfl, trivial⟩ ?_ ?_
   ·refine Ab (y_ (Bm (T U) fa163_0) (y_ (Aj (T U) isAgg42 (by first | exact c_o)) ?_ U) U)
    refine y_ (Bg (T U) fa163_1) (y_ (Aj (T U) isAgg42 (by first | exact c_o)) ?_ U) U
    refine y_ (Bg (T U) fa163_2) (y_ (Aj (T U) isAgg4 (by first | exact c_o)) ?_ U) U
    refine y_ (Ac (T U)) ?_ U
    first | refine Cb (s := 107) (Aa U) (fun c107 => ?_) (fun c107 => ?_) | refine Cu (s := 107) (Aa U) (fun c107 => ?_) (fun c107 => ?_)
    ·refine Be (Bg (T U) fa163_2) U (Ar U U (Aa U)) (Be (Aj (T U) isAgg4 (by first | exact c_o)) U (Ar U U (Aa U)) ?_)
     refine y_ (Az (T U) (T U)) (y_ (Bq (.cons (T U) (.cons (T U) (.cons (T U) .nil))) (bd163_0_1_2 _ _ _ _ _ _ _)) (e_ (Aq zeroValue163 cs_) ?_ U) U) U
     rintro _ _ ⟨n10, rfl, rfl⟩
     first | refine A6 (As (T U) (T U) sizeOf163) U Ah ?_
     rintro _ _ ⟨rfl, rfl⟩
     refine Af ?_
     refine Bp ((n10, E2.pe.emp)) ?_ ⟨atd, trivial⟩ ⟨Aa U, Aa U, Aa U, trivial⟩ sbt
     simp [c107]
    ·refine B6 (B6 (y_ (A9 (T U) Ak) (y_ (Bq (.cons (T U) (.cons (T U) (.cons (T U) .nil))) (bd163_0_1_2 _ _ _ _ _ _ _)) (e_ (Aq zeroValue163 cs_) ?_ U) U) U) U U U U) U U U U
     rintro _ _ ⟨n10, rfl, rfl⟩
     first | refine A6 (As (T U) (T U) sizeOf163) U Ah ?_
     rintro _ _ ⟨rfl, rfl⟩
     refine Af ?_
     refine Bp ((n10, false)) ?_ ⟨atd, trivial⟩ ⟨Aa U, Aa U, Aa U, trivial⟩ sbt
     simp [c107]
   rintro ⟨m10, x⟩ hxe
   refine Du (X := Option Addr × Nat × List Nat × List (Nat × Obj)) (V := fun ⟨q5, c5, l5, M5⟩ => []) (C := [(4, _), (8, _), (9, _), (10, _)]) (G := fun ⟨q5, c5, l5, M5⟩ => M5 ++ ((m10, Cl [.slice q5 l5.length c5, .slice E2.q2 E2.pe.last.length E2.c2, .bool x] 163) :: (n9, Cl (encEQ E2) 163) :: (n8, Cl (encEQ E1) 163) :: (n4, Cl [.slice none 0 0, .slice none 0 0, .bool false] 163) :: (n3, Cl [.int .i64 4, .string ⟨#[]⟩, .slice q 2 c] 24) :: (M3 ++ (M2 ++ (M1 ++ (ltH nt f1 f2 ⟨t2.lv, fol3⟩ ++ R)))))) (φ := fun ⟨q5, c5, l5, M5⟩ => l5 = (if E1.pe.emp then mergeF E1.pe.first E2.pe.first else E1.pe.first) ∧ l5.length ≤ c5 ∧ ∀ X, Arr w0 X E1.q1 1 encU E1.pe.first → Arr w0 (M5 ++ X) q5 1 encU l5) ⟨Aa rfl, Aa rfl, Aa rfl, Aa rfl, trivial⟩ ?_ ?_
   ·refine Ag (Ab (y_ (Bg (T U) fa163_2) (y_ (Aj (T U) isAgg4 (by first | exact c_o)) ?_ U) U))
    refine Af (Ae ?_)
    first | refine Ao (Aa U) (fun c113 => ?_) (fun c113 => ?_) | refine A5 (Aa U) (fun c113 => ?_) (fun c113 => ?_)
    ·refine Ab (y_ (Bm (T U) fa163_0) (y_ (Aj (T U) isAgg42 (by first | exact c_o)) ?_ U) U)
     refine y_ (Bm (T U) fa163_0) (y_ (Aj (T U) isAgg42 (by first | exact c_o)) ?_ U) U
     refine e_ (Au (.cons (T U) (.cons (T U) .nil)) call111 (merge_x E1.pe.first E1.q1 E1.c1 (hE1b.a1.mono sbt) hE1b.k1 E2.pe.first E2.q1 E2.c1 (hE2.a1.mono sbt) (by omega))) ?_ U
     rintro _ _ ⟨q7, c7, M7, ⟨rfl, hc7, hA7⟩, rfl⟩
     refine y_ (Bm (T U) fa163_0) ?_ U
     first | refine A6 (As (T U) (T U) sizeOf42) U Ah ?_ | refine A6 (B5 (T U) (T U) U sizeOf42) U Ah ?_ | refine A6 (Bz (T U) (T U) U sizeOf42) U Ah ?_
     rintro _ _ ⟨rfl, rfl⟩
     refine Af (Bp ((q7, c7, mergeF E1.pe.first E2.pe.first, M7)) ?_ trivial ⟨Aa U, Aa U, Aa U, Aa U, trivial⟩ sbt)
     first | exact ⟨by rw [if_pos c113], hc7, hA7⟩ | exact ⟨by rw [if_neg (by rw [c113]; exact Bool.false_ne_true)], hE1b.k1, fun X hX => hX⟩
    ·refine A4 (Bp ((E1.q1, E1.c1, E1.pe.first, [])) ?_ trivial ⟨Aa U, Aa U, Aa U, Aa U, trivial⟩ sbt)
     first | exact ⟨by rw [if_pos c113], hc7, hA7⟩ | exact ⟨by rw [if_neg (by rw [c113]; exact Bool.false_ne_true)], hE1b.k1, fun X hX => hX⟩
   rintro ⟨q5, c5, l5, M5⟩ ⟨e5, k5, h5⟩
   refine Du (X := Option Addr × Nat × List Nat × List (Nat × Obj)) (V := fun ⟨q6, c6, l6, M6⟩ => []) (C := [(4, _), (10, _)]) (G := fun ⟨q6, c6, l6, M6⟩ => M6 ++ (M5 ++ ((m10, Cl [.slice q5 l5.length c5, .slice q6 l6.length c6, .bool x] 163) :: (n9, Cl (encEQ E2) 163) :: (n8, Cl (encEQ E1) 163) :: (n4, Cl [.slice none 0 0, .slice none 0 0, .bool false] 163) :: (n3, Cl [.int .i64 4, .string ⟨#[]⟩, .slice q 2 c] 24) :: (M3 ++ (M2 ++ (M1 ++ (ltH nt f1 f2 ⟨t2.lv, fol3⟩ ++ R))))))) (φ := fun ⟨q6, c6, l6, M6⟩ => l6 = (if E2.pe.emp then mergeF E2.pe.last E1.pe.last else E2.pe.last) ∧ l6.length ≤ c6 ∧ ∀ X, Arr w0 X E2.q2 1 encU E2.pe.last → Arr w0 (M6 ++ X) q6 1 encU l6) ⟨Aa rfl, Aa rfl, trivial⟩ ?_ ?_
   ·refine Ag (Ab (y_ (Bg (T U) fa163_2) (y_ (Aj (T U) isAgg4 (by first | exact c_o)) ?_ U) U))
    refine Af (Ae ?_)
    first | refine Ao (Aa U) (fun c121 => ?_) (fun c121 => ?_) | refine A5 (Aa U) (fun c121 => ?_) (fun c121 => ?_)
    ·refine Ab (y_ (Bg (T U) fa163_1) (y_ (Aj (T U) isAgg42 (by first | exact c_o)) ?_ U) U)
     refine y_ (Bg (T U) fa163_1) (y_ (Aj (T U) isAgg42 (by first | exact c_o)) ?_ U) U
     refine e_ (Au (.cons (T U) (.cons (T U) .nil)) call111 (merge_x E2.pe.last E2.q2 E2.c2 (hE2.a2.mono sbt) hE2.k2 E1.pe.last E1.q2 E1.c2 (hE1b.a2.mono sbt) (by omega))) ?_ U
     rintro _ _ ⟨q7, c7, M7, ⟨rfl, hc7, hA7⟩, rfl⟩
     refine y_ (Bg (T U) fa163_1) ?_ U
     first | refine A6 (As (T U) (T U) sizeOf42) U Ah ?_ | refine A6 (B5 (T U) (T U) U sizeOf42) U Ah ?_ | refine A6 (Bz (T U) (T U) U sizeOf42) U Ah ?_
     rintro _ _ ⟨rfl, rfl⟩
     refine Af (Bp ((q7, c7, mergeF E2.pe.last E1.pe.last, M7)) ?_ trivial ⟨Aa U, Aa U, trivial⟩ sbt)
     first | exact ⟨by rw [if_pos c121], hc7, hA7⟩ | exact ⟨by rw [if_neg (by rw [c121]; exact Bool.false_ne_true)], hE2.k2, fun X hX => hX⟩
    ·refine A4 (Bp ((E2.q2, E2.c2, E2.pe.last, [])) ?_ trivial ⟨Aa U, Aa U, trivial⟩ sbt)
     first | exact ⟨by rw [if_pos c121], hc7, hA7⟩ | exact ⟨by rw [if_neg (by rw [c121]; exact Bool.false_ne_true)], hE2.k2, fun X hX => hX⟩
   rintro ⟨q6, c6, l6, M6⟩ ⟨e6, k6, h6⟩
   refine Ag (Ab (y_ (Am (T U) isAgg163 sizeOf163 U (by first | exact Bf)) ?_ U))
   first | refine A6 (As (T U) (T U) sizeOf163) U Ah ?_
   rintro _ _ ⟨rfl, rfl⟩
   refine Af (Ae (A7 (A0 (Ap (A8 U (.cellA (Aa U) isAgg163 sizeOf163 U (by first | exact Bf) .nil) ?_)))))
   exact ⟨_, ⟨(f1, f2, ⟨t2.lv, fol3⟩, ⟨⟨l5, l6, x⟩, q5, c5, q6, c6⟩, M6 ++ (M5 ++ (M3 ++ (M2 ++ M1)))), ⟨rfl, ho3, ho5, RdOk.seq hr1 hr2 hfo3 hx3 e5 k5 h5 e6 k6 h6 hxe⟩, rfl⟩, by simp only [List.append_assoc]; exact sbt⟩
theorem read_star {w0 : World} {q : Option Addr} {c : Nat} {ma : Rxm} {a : Re} (iha : ReadS w0 ma a) : ReadS w0 (.mk 6 ⟨#[]⟩ q c [ma]) (.star a) := by
 intro R nt d1 d2 t hM hok1 hok2 ht hl
 show FSpec Tryz.prog w0 106 #[.pointer (some ⟨nt, 0, none⟩), .agg #[.int .i64 6, .string ⟨#[]⟩, .slice q 1 c]] (ltH nt d1 d2 t ++ R) _
 simp only [Re.lv] at hl
 obtain ⟨hA, hMM, _, _⟩ := hM
 have hMa := hMM ma (by simp)
 refine Bc Tryz.func106 U ntmps106 U (Ag (Ab (e_ (Bj (T U) cs_) ?_ U)))
 rintro _ _ ⟨n3, rfl, rfl⟩
 refine e_ (Aq zeroValue163 cs_) ?_ U
 rintro _ _ ⟨n4, rfl, rfl⟩
 refine Af (Ae (Ag (Ag (Ab (y_ (Bm (T U) Dk) (y_ (Aj (T U) isAgg3 (by first | exact c_o)) ?_ U) U)))))
 refine Af (Ae (Aw (Ag (Ab (y_ (By (T U) Ak) (y_ (Ad (T U)) (Af (Ae ?_)) U) U)))))
 first | refine Br (Aa U) ?_ | refine Br (Ai (Aa U) (vbool (decide_eq_false c14))) ?_
 refine Ag (Ag (Ab (y_ (By (T U) Ak) (y_ (Ad (T U)) (Af (Ae ?_)) U) U)))
 first | refine Ao (Aa U) (fun c17 => ?_) (fun c17 => ?_) | refine A5 (Aa U) (fun c17 => ?_) (fun c17 => ?_)
 ·exfalso; omega
 ·refine Ab (y_ (By (T U) Ak) (y_ (Ad (T U)) (Af (Ae ?_)) U) U)
  first | refine Ao (Aa U) (fun c17 => ?_) (fun c17 => ?_) | refine A5 (Aa U) (fun c17 => ?_) (fun c17 => ?_)
  ·exfalso; omega
  ·refine Ag (Ab (y_ (By (T U) Ak) (y_ (Ad (T U)) (Af (Ae ?_)) U) U))
   first | refine Br (Aa U) ?_ | refine Br (Ai (Aa U) (vbool (decide_eq_false c50))) ?_
   refine Ag (Ab (y_ (By (T U) Ak) (y_ (Ad (T U)) (Af (Ae ?_)) U) U))
   first | refine Br (Aa U) ?_ | refine Br (Ai (Aa U) (vbool (decide_eq_false c81))) ?_
   refine A4 (Bi (Ae (Ag (Ab (y_ (Ac (T U)) (y_ (Bg (T U) C8) (y_ (Aj (T U) isAgg22 (by first | exact c_o)) ?_ U) U) U)))))
   refine y_ (Ct (T U) Ak runUnderlying22 sizeOf24 (by omega) (by first | exact rfl | exact hA.b0)) ?_ U
   refine y_ (Am (T U) isAgg24 sizeOf24 U (by first | exact hA.cs0 | exact Bf)) ?_ U
   refine e_ (Au (.cons (T U) (.cons (T U) .nil)) call106 (Bv (ltH nt d1 d2 t) (by repeat (first | exact LocL.h | apply LocL.t | apply LocL.a)) (iha _ nt d1 d2 t (hMa.mono sbt) hok1 hok2 (ht.mono sbt) (by omega)))) ?_ U
   rintro _ _ ⟨⟨e1, e2, t1, E1, M1⟩, ⟨rfl, ho1, ho2, hr1⟩, rfl⟩
   simp only [List.append_assoc] at hr1 ⊢
   obtain ⟨ht1, hE1⟩ := hr1.ok R ht
   refine e_ (Aq zeroValue163 cs_) ?_ U
   rintro _ _ ⟨n11, rfl, rfl⟩
   first | refine A6 (As (T U) (T U) sizeOf163) U Ah ?_
   rintro _ _ ⟨rfl, rfl⟩
   refine Af (Ae (Ag (Ab (y_ (Ac (T U)) (y_ (Bg (T U) fa163_1) (y_ (Aj (T U) isAgg42 (by first | exact c_o)) ?_ U) U) U))))
   refine y_ (Bm (T U) fa163_0) (y_ (Aj (T U) isAgg42 (by first | exact c_o)) ?_ U) U
   refine e_ (Au (.cons (T U) (.cons (T U) (.cons (T U) .nil))) call140 (Bv (ltH nt e1 e2 t1) (by repeat (first | exact LocL.h | apply LocL.t | apply LocL.a)) (lead_s nt e1 e2 t1 ho2 (ht1.mono sbt) E1.pe.last E1.pe.first E1.q2 E1.q1 E1.c2 E1.c1 (hE1.a2.mono sbt) (hE1.a1.mono sbt) hE1.s2 hE1.s1))) ?_ U
   rintro _ _ ⟨⟨fol3, M3⟩, ⟨hfo3, hx3, ho5⟩, rfl⟩
   simp only [List.append_assoc] at hx3 ⊢
   refine jl_perm (List.Perm.cons _ (List.Perm.cons _ (List.Perm.cons _ (List.perm_append_comm_assoc _ _ _)))) (Af (Ae (Bl [(4, _), (11, _)] ⟨Aa U, Aa U, trivial⟩ (Ag (Ab (y_ (Bm (T U) fa163_0) (y_ (Aj (T U) isAgg42 (by first | exact c_o)) ?_ U) U))))))
   refine y_ (Bg (T U) fa163_1) (y_ (Aj (T U) isAgg42 (by first | exact c_o)) ?_ U) U
   refine y_ (Bq (.cons (T U) (.cons (T U) (.cons Ak .nil))) (bd163_0_1_2 _ _ _ _ _ _ _)) ?_ U
   first | refine A6 (As (T U) (T U) sizeOf163) U Ah ?_
   rintro _ _ ⟨rfl, rfl⟩
   refine Af (Ae (A7 (A8 U (.cellA (Aa U) isAgg163 sizeOf163 U (by first | exact Bf) .nil) ?_)))
   exact ⟨_, ⟨(e1, e2, ⟨t1.lv, fol3⟩, ⟨⟨E1.pe.first, E1.pe.last, true⟩, E1.q1, E1.c1, E1.q2, E1.c2⟩, M3 ++ M1), ⟨rfl, ho1, ho5, RdOk.star hr1 hfo3 hx3⟩, rfl⟩, by simp only [List.append_assoc]; exact sbt⟩
theorem read_s {w0 : World} {m : Rxm} {e : Re} (h : Is m e) : ReadS w0 m e := by
 induction h with
 | emp => exact read_emp
 | nod h => exact read_nod h
 | any => exact read_any
 | seq _ _ ih1 ih2 => exact read_seq ih1 ih2
 | alt _ _ ih1 ih2 => exact read_alt ih1 ih2
 | star _ ih => exact read_star ih
end Go.Proofs.YtkdolgnpkjihpaaGreatDoor
namespace Go.Proofs.YtkdolgnpkjihpaaGreatDoor
open _root_.Go.Proofs.Tryz
open Go.RowKit
set_option linter.unusedVariables false
set_option linter.unusedSimpArgs false
def takP (s : ByteArray) (names : List ByteArray) (a : Nat) : Bool := decide (s = ⟨#[]⟩) || (decide (a < names.length) && decide (s = gd names a))
theorem takR_eq {m : Rxm} (h : LfOk m) (names : List ByteArray) (a : Nat) : takR m names a = takP m.node names a := by
 unfold takR takP
 rcases h with ⟨h1, h2⟩ | ⟨h1, h2⟩
 ·rw [decide_eq_false (show ¬ m.kind = 3 by omega), decide_eq_false (show ¬ m.node = ⟨#[]⟩ from fun e => h2 (by rw [e]; rfl))]
 ·rw [decide_eq_true h1, decide_eq_true h2, Bool.true_or]
def nxR (fol : List (List Nat)) (first : List Nat) (s : Int) : List Nat := if 0 ≤ s then gd fol s.toNat else first
def tkR (nms names : List ByteArray) (a : Nat) (to nx : List Nat) : List Nat := nx.foldl (fun to i => if takP (gd nms i) names a then putF i to else to) to
theorem tkR_take {nms names : List ByteArray} {a : Nat} {to nx : List Nat} {i : Nat} (h : i < nx.length) : tkR nms names a to (nx.take (i + 1)) = if takP (gd nms (gd nx i)) names a then putF (gd nx i) (tkR nms names a to (nx.take i)) else tkR nms names a to (nx.take i) := by
 unfold tkR; rw [Dz h]; simp
theorem Srn.put {n k : Nat} {l : List Nat} (h : Srn n l) (hk : k < n) : Srn n (putF k l) := ⟨putF_srt h.1, fun x hx => (mem_putF.1 hx).elim (fun e => by rw [e]; exact hk) (h.2 x)⟩
theorem tkR_srn {n : Nat} {nms names : List ByteArray} {a : Nat} : ∀ {nx to : List Nat}, Srn n to → (∀ x ∈ nx, x < n) → Srn n (tkR nms names a to nx)
 | [], _, h, _ => h
 | x :: nx, to, h, hn => by
  have e : tkR nms names a to (x :: nx) = tkR nms names a (if takP (gd nms x) names a then putF x to else to) nx := rfl
  rw [e]
  refine tkR_srn ?_ fun y hy => hn y (by simp [hy])
  split
  ·exact h.put (hn x (by simp))
  ·exact h
def stR (t : PT) (first : List Nat) (names : List ByteArray) (a : Nat) (st : List Int) : List Nat := st.foldl (fun to s => tkR t.nms names a to (nxR t.fol first s)) []
theorem stR_take {t : PT} {first : List Nat} {names : List ByteArray} {a : Nat} {st : List Int} {j : Nat} (h : j < st.length) : stR t first names a (st.take (j + 1)) = tkR t.nms names a (stR t first names a (st.take j)) (nxR t.fol first (gd st j)) := by
 unfold stR; rw [Dz h]; simp
def addL (l : List (List Int)) (s : List Int) : List (List Int) := if s ∈ l then l else l ++ [s]
def rwR (t : PT) (first : List Nat) (names : List ByteArray) (st : List Int) (l : List (List Int)) : Nat → List (List Int) × List Nat
 | 0 => (l, [])
 | a + 1 => (addL (rwR t first names st l a).1 (toInts (stR t first names a st)), (rwR t first names st l a).2 ++ [idx (rwR t first names st l a).1 (toInts (stR t first names a st))])
theorem rwR_succ (t : PT) (first : List Nat) (names : List ByteArray) (st : List Int) (l : List (List Int)) (a : Nat) : rwR t first names st l (a + 1) = (addL (rwR t first names st l a).1 (toInts (stR t first names a st)), (rwR t first names st l a).2 ++ [idx (rwR t first names st l a).1 (toInts (stR t first names a st))]) := rfl
theorem addL_len (l : List (List Int)) (s : List Int) : l.length ≤ (addL l s).length := by
 unfold addL; split <;> simp
theorem addL_get {l : List (List Int)} {s : List Int} {k : Nat} (h : k < l.length) : gd (addL l s) k = gd l k := by
 unfold addL; split
 ·rfl
 ·rw [Bo h, Bo (by simp; omega)]; simp [List.getElem_append, h]
theorem rwR_len (t : PT) (first : List Nat) (names : List ByteArray) (st : List Int) (l : List (List Int)) : ∀ a, (rwR t first names st l a).2.length = a ∧ l.length ≤ (rwR t first names st l a).1.length
 | 0 => ⟨rfl, Nat.le_refl _⟩
 | a + 1 => by
  obtain ⟨h1, h2⟩ := rwR_len t first names st l a
  have h4 := addL_len (rwR t first names st l a).1 (toInts (stR t first names a st))
  rw [rwR_succ]
  exact ⟨by simp [h1], by simp only []; omega⟩
theorem rwR_mono (t : PT) (first : List Nat) (names : List ByteArray) (st : List Int) (l : List (List Int)) (a : Nat) : ∀ d, (rwR t first names st l a).1.length ≤ (rwR t first names st l (a + d)).1.length
 | 0 => Nat.le_refl _
 | d + 1 => by
  have h1 := rwR_mono t first names st l a d
  have h4 := addL_len (rwR t first names st l (a + d)).1 (toInts (stR t first names (a + d) st))
  rw [← Nat.add_assoc, rwR_succ]; simp only []; omega
theorem rwR_get (t : PT) (first : List Nat) (names : List ByteArray) (st : List Int) (l : List (List Int)) {k : Nat} (h : k < l.length) : ∀ a, gd (rwR t first names st l a).1 k = gd l k
 | 0 => rfl
 | a + 1 => by
  rw [rwR_succ]
  have := (rwR_len t first names st l a).2
  rw [addL_get (by omega)]
  exact rwR_get t first names st l h a
def acR (E : PE) (k : Nat) (st : List Int) : Bool := (decide (k = 0) && E.emp) || st.any fun s => decide (s ∈ toInts E.last)
def rawGoR (t : PT) (E : PE) (names : List ByteArray) : Nat → Nat → List (List Int) → List (List Nat) → List Bool → Option (List (List Nat) × List Bool)
 | 0, _, _, _, _ => none
 | f + 1, k, l, rows, acc => if k < l.length then (if 200 < (rwR t E.first names (gd l k) l (names.length + 1)).1.length then none else rawGoR t E names f (k + 1) (rwR t E.first names (gd l k) l (names.length + 1)).1 (rows ++ [(rwR t E.first names (gd l k) l (names.length + 1)).2]) (acc ++ [acR E k (gd l k)])) else some (rows, acc)
theorem rawGoR_succ (t : PT) (E : PE) (names : List ByteArray) (f k : Nat) (l : List (List Int)) (rows : List (List Nat)) (acc : List Bool) : rawGoR t E names (f + 1) k l rows acc = if k < l.length then (if 200 < (rwR t E.first names (gd l k) l (names.length + 1)).1.length then none else rawGoR t E names f (k + 1) (rwR t E.first names (gd l k) l (names.length + 1)).1 (rows ++ [(rwR t E.first names (gd l k) l (names.length + 1)).2]) (acc ++ [acR E k (gd l k)])) else some (rows, acc) := rfl
def rawR (e : Re) (names : List ByteArray) : Option (List (List Nat) × List Bool) := rawGoR (readP e ⟨[], []⟩).1 (readP e ⟨[], []⟩).2 names 201 0 [[-1]] [] []
theorem mem_toInts {l : List Nat} {x : Int} : x ∈ toInts l ↔ ∃ k : Nat, k ∈ l ∧ (k : Int) = x := by simp [toInts]
theorem hasZ_s {w0 : World} {H : List (Nat × Obj)} (l : List Nat) (q : Option Addr) (c : Nat) (hA : Arr w0 H q 1 encU l) (hl : l.length ≤ 100000) (n : Int) :
  FSpec Tryz.prog w0 59 #[.slice q l.length c, .int .i64 n] H (Still (.bool (decide (n ∈ toInts l))) H) := by
 refine Bc Tryz.func59 U ntmps59 U (Ag (Ab (y_ (Ad Ak) (Af (Ae (Ag (Ag (Ab (y_ (Ad Ak) (Af (Ae (Aw ?_))) U)))))) U)))
 refine Ci (X := Nat) (V := fun k => [(5, .int .i64 (k : Nat))]) (C := [(0, _), (1, _)]) (φ := fun k => k ≤ l.length ∧ ∀ j, j < k → ¬ ((gd l j : Nat) : Int) = n) (μ := fun k => l.length - k) (x0 := 0) ?_ ⟨Aa U, Aa U, trivial⟩ ⟨atd, trivial⟩ ?_
 ·exact ⟨Nat.zero_le _, fun j hj => by omega⟩
 rintro k ⟨hk, hno⟩
 refine Ag (Ag (Ab (y_ (Ac (T U)) (y_ (Ac (T U)) (y_ (Bn (T U) runUnderlying42) (y_ (B1 (T U) (T U)) (Af (Ae ?_)) U) U) U) U)))
 first | refine Ao (Aa U) (fun c9 => ?_) (fun c9 => ?_) | refine A5 (Aa U) (fun c9 => ?_) (fun c9 => ?_)
 ·refine A4 (Ae (Ag (Aw (Ag (Ab (y_ (Ac (T U)) (y_ (Ac (T U)) (y_ (Bb (T U) (T U) runUnderlying42 sizeOf3 (by omega) (by first | exact rfl | exact hA.b (i := k) (by omega))) ?_ U) U) U))))))
  refine y_ (Aj (T U) isAgg3 (by first | exact c_o | exact cell1 ((hA.mono sbt).cs (i := k) (by omega)))) ?_ U
  refine y_ (Ac (T U)) (y_ (By (T U) (T U)) (Af (Ae ?_)) U) U
  first | refine Ao (Aa U) (fun c17 => ?_) (fun c17 => ?_) | refine A5 (Aa U) (fun c17 => ?_) (fun c17 => ?_)
  ·refine Ag (Ab (y_ (Ad Ak) (Af (Ae (A7 (A0 (Ap (B9 (A0 (Ap (A8 U (.tmp (Aa U) .nil) ?_))))))))) U))
   exact ⟨_, ⟨vbool (by symm; exact decide_eq_true (mem_toInts.2 ⟨gd l k, Ax (by omega), by omega⟩)), rfl⟩, sbt⟩
  ·refine A4 (Bi (Ae (Ab (y_ (Ac (T U)) (y_ (Bt (T U) Ak (by omega)) ?_ U) U))))
   refine y_ (Ad (T U)) (Af ?_) U
   refine Bk (k + 1) ?_ ?_ ⟨atd, trivial⟩ ⟨Aa U, Aa U, trivial⟩ ?_
   ·refine ⟨by omega, fun j hj => ?_⟩
    by_cases e : j = k
    ·subst e; omega
    ·exact hno j (by omega)
   ·first | omega | (simp only []; omega)
   ·exact sbt
 ·refine B2 (Ay (A2 (A3 (Ae (Ag (Ab (y_ (Ad Ak) (Af (Ae (A7 (A8 U (.tmp (Aa U) .nil) ?_)))) U)))))))
  exact ⟨_, ⟨vbool (by symm; exact decide_eq_false fun hm => by obtain ⟨x, h1, h2⟩ := mem_toInts.1 hm; obtain ⟨j, h3, h4⟩ := mem_gd.1 h1; exact hno j (by omega) (by rw [h4]; exact h2)), rfl⟩, sbt⟩
end Go.Proofs.YtkdolgnpkjihpaaGreatDoor
namespace Go.Proofs.YtkdolgnpkjihpaaGreatDoor
open _root_.Go.Proofs.Tryz
open Go.RowKit
set_option linter.unusedVariables false
set_option linter.unusedSimpArgs false
theorem bd161_z  (w : World) : (Instr.build 161 #[]).run Tryz.prog w = .ok (.agg #[.slice none 0 0, .slice none 0 0]) w := by kernel_rfl
def StI (n : Nat) (l : List Int) : Prop := l = [-1] ∨ ∃ ns, Srn n ns ∧ l = toInts ns
theorem StI.len {n : Nat} {l : List Int} (h : StI n l) : l.length ≤ n + 1 := by
 rcases h with rfl | ⟨ns, h, rfl⟩
 ·simp
 ·have := h.len; simp [toInts]; omega
theorem StI.at {n : Nat} {l : List Int} (h : StI n l) {x : Int} (hx : x ∈ l) : x = -1 ∨ (0 ≤ x ∧ x.toNat < n) := by
 rcases h with rfl | ⟨ns, h, rfl⟩
 ·left; simpa using hx
 ·obtain ⟨k, hk, rfl⟩ := mem_toInts.1 hx
  have := h.2 k hk
  right; omega
theorem stR_srn {n : Nat} {t : PT} {first : List Nat} {names : List ByteArray} {a : Nat} (hf : ∀ x ∈ first, x < n) (hfo : ∀ i, i < n → ∀ x ∈ gd t.fol i, x < n) : ∀ {st : List Int} {to : List Nat}, Srn n to → (∀ x ∈ st, x = -1 ∨ (0 ≤ x ∧ x.toNat < n)) → Srn n (st.foldl (fun to s => tkR t.nms names a to (nxR t.fol first s)) to)
 | [], _, h, _ => h
 | x :: st, to, h, hs => by
  simp only [List.foldl_cons]
  refine stR_srn hf hfo (tkR_srn h ?_) fun y hy => hs y (by simp [hy])
  unfold nxR
  split
  ·rcases hs x (by simp) with e | ⟨_, e⟩
   ·omega
   ·exact hfo _ e
  ·exact hf
structure SsOk (w0 : World) (X : List (Nat × Obj)) (n : Nat) (S : List RowI) : Prop where
 arr : ∀ r ∈ S, Arr w0 X r.q 1 encI r.l
 st : ∀ r ∈ S, StI n r.l
theorem SsOk.mono {w0 : World} {X Y : List (Nat × Obj)} {n : Nat} {S : List RowI} (h : SsOk w0 X n S) (hs : X.Sublist Y := by exact sbt) : SsOk w0 Y n S := ⟨fun r hr => (h.arr r hr).mono hs, h.st⟩
theorem SsOk.push {w0 : World} {X Y : List (Nat × Obj)} {n : Nat} {S : List RowI} (h : SsOk w0 X n S) (hs : X.Sublist Y) {r : RowI} (hA : Arr w0 Y r.q 1 encI r.l) (hst : StI n r.l) : SsOk w0 Y n (S ++ [r]) := ⟨fun x hx => by
  rcases List.mem_append.1 hx with e | e
  ·exact (h.arr x e).mono hs
  ·simp at e; subst e; exact hA, fun x hx => by
  rcases List.mem_append.1 hx with e | e
  ·exact h.st x e
  ·simp at e; subst e; exact hst⟩
theorem addL_yes {l : List (List Int)} {s : List Int} (h : idx l s = l.length) : addL l s = l ++ [s] := by
 unfold addL; rw [if_neg]
 intro hm; have := Dw hm; omega
theorem addL_no {l : List (List Int)} {s : List Int} (h : ¬ idx l s = l.length) : addL l s = l := by
 unfold addL; rw [if_pos]
 exact Classical.byContradiction fun hm => h (idx_not hm)
theorem any_take {l : List Int} {f : Int → Bool} {i : Nat} (h : i < l.length) : (l.take (i + 1)).any f = ((l.take i).any f || f (gd l i)) := by
 rw [Dz h, List.any_append]; simp
theorem rowQ_push {w0 : World} {X Y : List (Nat × Obj)} {rows : List RowQ} (h : ∀ r ∈ rows, Arr w0 X r.q 1 encU r.l) (hs : X.Sublist Y) {r : RowQ} (hA : Arr w0 Y r.q 1 encU r.l) : ∀ x ∈ rows ++ [r], Arr w0 Y x.q 1 encU x.l := fun x hx => by
 rcases List.mem_append.1 hx with e | e
 ·exact (h x e).mono hs
 ·simp at e; subst e; exact hA
theorem rawGoR_big {t : PT} {E : PE} {names : List ByteArray} {f k : Nat} {l : List (List Int)} {rows : List (List Nat)} {acc : List Bool} (hk : k < l.length) {a : Nat} (ha : a < names.length + 1) (h : 200 < (rwR t E.first names (gd l k) l (a + 1)).1.length) : rawGoR t E names (f + 1) k l rows acc = none := by
 have h1 := rwR_mono t E.first names (gd l k) l (a + 1) (names.length + 1 - (a + 1))
 rw [show a + 1 + (names.length + 1 - (a + 1)) = names.length + 1 by omega] at h1
 rw [rawGoR_succ, if_pos hk, if_pos (by omega)]
theorem rowI_u (q : Option Addr) (c : Nat) (l : List Nat) : encRI ⟨q, c, toInts l⟩ = [.slice q l.length c] := by simp [encRI, toInts]
theorem place_u {w0 : World} {H : List (Nat × Obj)} (rows : List RowI) (q : Option Addr) (c : Nat) (hA : Arr w0 H q 1 encRI rows) (hr : ∀ r ∈ rows, Arr w0 H r.q 1 encI r.l) (hn : ∀ r ∈ rows, r.l.length ≤ 100000) (hl : rows.length ≤ 100000) (to : List Nat) (q2 : Option Addr) (c2 : Nat) (hB : Arr w0 H q2 1 encU to) :
  FSpec Tryz.prog w0 109 #[.slice q rows.length c, .slice q2 to.length c2] H (Still (.int .i64 (idx (rows.map RowI.l) (toInts to) : Nat)) H) := by
 have h := place_s rows q c hA hr hn hl (toInts to) q2 c2 (arrUI hB)
 rw [show (toInts to).length = to.length by simp [toInts]] at h; exact h
theorem sets_s {w0 : World} {H : List (Nat × Obj)} (m : Rxm) (e : Re) (hI : Is m e) (hM : RxM w0 H m) (hl : e.lv ≤ 64) (hz : m.sz ≤ 90000) :
  FSpec Tryz.prog w0 55 #[.agg (encRx m).toArray] H (fun v H' => ∃ (mc : Mc) (M : List (Nat × Obj)), (v = .tuple #[.agg (encMc mc).toArray, .int .i64 (if (rawR e (ntR m [])).isSome then 0 else 2)] ∧ (∀ X, McOk w0 (M ++ X) mc) ∧ (∀ r, rawR e (ntR m []) = some r → mc.pl = ⟨ntR m [], r.1, r.2⟩) ∧ (rawR e (ntR m []) = none → mc.pl = ⟨[], [], []⟩)) ∧ H' = M ++ H) := by
 refine Bc Tryz.func55 U ntmps55 U ?_
 have hl0 : (ntR m []).length ≤ 90001 := by have := ntR_len m []; simp at this; omega
 refine Ag (Ab (e_ (Bj (T U) cs_) ?_ U))
 rintro _ _ ⟨n1, rfl, rfl⟩
 refine e_ (Aq zeroValue29 cs_) ?_ U
 rintro _ _ ⟨n2, rfl, rfl⟩
 refine y_ (Ad Ak) (Af (Ae (Ag (Ab (y_ (Bq .nil (bd161_z)) (e_ (Bj (T U) cs_) ?_ U) U))))) U
 rintro _ _ ⟨n21, rfl, rfl⟩
 refine y_ (Ad (T U)) (Af (Ae (Ag (Ab (y_ (Ac (T U)) (y_ (Am (T U) isAgg24 sizeOf24 U (by first | exact Bf)) ?_ U) U))))) U
 refine e_ (Au (.cons (T U) (.cons (T U) .nil)) call106 (Bv (ltH n21 .nil .nil ⟨[], []⟩) (show LocL (ltH n21 .nil .nil ⟨[], []⟩ ++ _) _ _ _ from .h) (read_s hI _ n21 .nil .nil ⟨[], []⟩ (hM.mono sbt) U U ⟨rfl, Nat.zero_le _, (fun x h => by cases h), (fun x h => by cases h), (fun x h => by cases h), (fun x h => by cases h)⟩ (by simpa using hl)))) ?_ U
 rintro _ _ ⟨⟨e1, e2, t1, E, M1⟩, ⟨rfl, ho1, ho2, hr1⟩, rfl⟩
 simp only [List.append_assoc, lt_app] at hr1 ⊢
 replace ho1 : SlOk e1 t1.lv.length 3 := ho1
 replace ho2 : SlOk e2 t1.fol.length 1 := ho2
 have hrp := hr1.pl
 have hre := hr1.pe
 obtain ⟨ht1, hE⟩ := hr1.ok H ⟨rfl, Nat.zero_le _, (fun x h => by cases h), (fun x h => by cases h), (fun x h => by cases h), (fun x h => by cases h)⟩
 have hlf := ht1.few
 have hfl := ht1.len
 have w1 := hE.s1.len
 have w2 := hE.s2.len
 refine e_ (Aq zeroValue163 cs_) ?_ U
 rintro _ _ ⟨n5, rfl, rfl⟩
 first | refine A6 (As (T U) (T U) sizeOf163) U Ah ?_
 rintro _ _ ⟨rfl, rfl⟩
 refine Af (Ae (Ag (Ab (y_ (Am (T U) isAgg24 sizeOf24 U (by first | exact Bf)) ?_ U))))
 refine e_ (Au (.cons Ak (.cons (T U) .nil)) call74 (lt_s m _ [] none 0 (fun i x hi => by cases hi) (Nat.le_refl _) (hM.mono sbt) (by simp; omega))) ?_ U
 rintro _ _ ⟨q7, c7, M7, ⟨rfl, hc7, hA7⟩, rfl⟩
 obtain ⟨nm, hnm⟩ : ∃ nm, nm = ntR m [] := ⟨_, rfl⟩
 simp only [← hnm] at hc7 hA7 ⊢
 have hnl : nm.length ≤ 90001 := by rw [hnm]; exact hl0
 have hN : Arr w0 (M7 ++ H) q7 1 encS nm := hA7 H (fun i x hi => by cases hi)
 have hraw : rawR e nm = rawGoR t1.pl E.pe nm 201 0 [[-1]] [] [] := by unfold rawR; rw [hrp, hre]; rfl
 refine y_ (Bq (.cons (T U) .nil) (bd29_0 _ _ _)) (e_ (Aq zeroValue29 cs_) ?_ U) U
 rintro _ _ ⟨n6, rfl, rfl⟩
 first | refine A6 (As (T U) (T U) sizeOf29) U Ah ?_
 rintro _ _ ⟨rfl, rfl⟩
 refine Af (Ae (Ag (Ab (e_ (Al (.cons Ak .nil) (Ck _)) ?_ U))))
 rintro _ _ ⟨n28, rfl, rfl⟩
 refine e_ (Al (.cons (T U) .nil) (bs26_1_0 _ _ _)) ?_ U
 rintro _ _ ⟨n29, rfl, rfl⟩
 refine jl_perm (List.Perm.swap _ _ _) (y_ (Ad (T U)) (Af (Ae (Ag (Ag (Ab (y_ (Ad Ak) (Af (Ae (Aw ?_))) U)))))) U)
 refine Cd (X := Nat × List RowI × List RowQ × List Bool × Sl × Sl × Sl × List (Nat × Obj)) (V := fun ⟨k, S, rows, acc, ds, dr, da, M⟩ => [(8, .int .i64 (k : Nat)), (7, slV ds S.length)]) (C := [(2, _), (4, _), (5, _), (6, _)]) (G := fun ⟨k, S, rows, acc, ds, dr, da, M⟩ => M ++ (slH ds (S.flatMap encRI) 42 ++ (slH dr (rows.flatMap encRQ) 42 ++ (slH da (acc.flatMap encB1) 4 ++ ((n6, Cl [.slice q7 nm.length c7, slV dr rows.length, slV da acc.length] 29) :: (M7 ++ ((n5, Cl (encEQ E) 163) :: (M1 ++ ((n21, Cl [slV e1 t1.lv.length, slV e2 t1.fol.length] 161) :: (slH e1 (t1.lv.flatMap encRx) 24 ++ (slH e2 (t1.fol.flatMap encRQ) 42 ++ ((n2, Cl [.slice none 0 0, .slice none 0 0, .slice none 0 0] 29) :: (n1, Cl (encRx m) 24) :: H)))))))))))) (φ := fun ⟨k, S, rows, acc, ds, dr, da, M⟩ => (k ≤ S.length ∧ S.length ≤ 200 ∧ rows.length = k ∧ acc.length = k) ∧ (SlOk ds S.length 1 ∧ SlOk dr rows.length 1 ∧ SlOk da acc.length 1) ∧ SsOk w0 (M ++ H) t1.lv.length S ∧ (∀ r ∈ rows, ∀ X, Arr w0 (M ++ X) r.q 1 encU r.l) ∧ rawGoR t1.pl E.pe nm (201 - k) k (S.map RowI.l) (rows.map RowQ.l) acc = rawGoR t1.pl E.pe nm 201 0 [[-1]] [] []) (μ := fun ⟨k, S, rows, acc, ds, dr, da, M⟩ => 201 - k) (x0 := (0, [⟨some ⟨n28, 0, none⟩, 1, [-1]⟩], [], [], .blk n29 1 [], .nil, .nil, [(n28, Cl [.int .i64 (-1)] 3)])) ?_ ⟨Aa rfl, Aa rfl, Aa rfl, Aa rfl, trivial⟩ ⟨(by first | exact Aa rfl | (refine Ai (Aa rfl) (vint ?_); omega) | (refine Ai (Aa rfl) ?_; simp; done) | (refine Ai (Aa rfl) ?_; exact by rw [htk2]) | (refine Ai (Aa rfl) ?_; exact by rw [hstk]) | (refine Ai (Aa rfl) ?_; exact by rw [hrw2])), (by first | exact Aa rfl | (refine Ai (Aa rfl) (vint ?_); omega) | (refine Ai (Aa rfl) ?_; simp; done) | (refine Ai (Aa rfl) ?_; exact by rw [htk2]) | (refine Ai (Aa rfl) ?_; exact by rw [hstk]) | (refine Ai (Aa rfl) ?_; exact by rw [hrw2])), trivial⟩ sb0 ?_
 ·exact ⟨⟨Nat.zero_le _, by simp, rfl, rfl⟩, ⟨⟨Nat.le_refl _, rfl⟩, rfl, rfl⟩, ⟨fun r hr => by simp at hr; subst hr; exact C0 (fun _ => rfl) rfl Bs, fun r hr => by simp at hr; subst hr; exact .inl rfl⟩, (fun r hr => by cases hr), rfl⟩
 rintro ⟨k, S, rows, acc, ds, dr, da, M⟩ ⟨⟨hk, hS2, hrl, hacl⟩, ⟨hds, hdr, hda⟩, hS, hro, hgo⟩
 refine Ag (Ag (Ab (y_ (Ac (T U)) (y_ (Ac (T U)) (y_ (Bn (T U) runUnderlying26) (y_ (B1 (T U) (T U)) (Af (Ae ?_)) U) U) U) U)))
 first | refine Ao (Aa U) (fun c33 => ?_) (fun c33 => ?_) | refine A5 (Aa U) (fun c33 => ?_) (fun c33 => ?_)
 ·have hkS : k < S.length := by omega
  refine A4 (Ae (Ag (Aw (Ag (Ab (y_ (Ad Ak) (Af (Ae (Ag (Ag (Ab (y_ (Ad Ak) (Af (Ae (Aw ?_))) U)))))) U))))))
  refine Cd (X := Nat × List RowI × Sl × Sl × List (Nat × Obj)) (V := fun ⟨a, S1, d7, d9, Ma⟩ => [(10, .int .i64 (a : Nat)), (7, slV d7 S1.length), (9, slV d9 (rwR t1.pl E.pe.first nm (gd S k).l (S.map RowI.l) a).2.length)]) (C := [(2, _), (4, _), (5, _), (6, _), (8, _)]) (G := fun ⟨a, S1, d7, d9, Ma⟩ => Ma ++ (slH d9 ((rwR t1.pl E.pe.first nm (gd S k).l (S.map RowI.l) a).2.flatMap encU) 3 ++ (slH d7 (S1.flatMap encRI) 42 ++ (slH dr (rows.flatMap encRQ) 42 ++ (slH da (acc.flatMap encB1) 4 ++ ((n6, Cl [.slice q7 nm.length c7, slV dr rows.length, slV da acc.length] 29) :: (M7 ++ ((n5, Cl (encEQ E) 163) :: (M1 ++ ((n21, Cl [slV e1 t1.lv.length, slV e2 t1.fol.length] 161) :: (slH e1 (t1.lv.flatMap encRx) 24 ++ (slH e2 (t1.fol.flatMap encRQ) 42 ++ ((n2, Cl [.slice none 0 0, .slice none 0 0, .slice none 0 0] 29) :: (n1, Cl (encRx m) 24) :: H))))))))))))) (φ := fun ⟨a, S1, d7, d9, Ma⟩ => (a ≤ nm.length + 1 ∧ S1.length ≤ 200) ∧ S1.map RowI.l = (rwR t1.pl E.pe.first nm (gd S k).l (S.map RowI.l) a).1 ∧ (SlOk d7 S1.length 1 ∧ SlOk d9 (rwR t1.pl E.pe.first nm (gd S k).l (S.map RowI.l) a).2.length 1) ∧ SsOk w0 (Ma ++ H) t1.lv.length S1 ∧ M.Sublist Ma) (μ := fun ⟨a, S1, d7, d9, Ma⟩ => nm.length + 1 - a) (x0 := (0, S, ds, .nil, M)) ?_ ⟨Aa rfl, Aa rfl, Aa rfl, Aa rfl, Aa rfl, trivial⟩ ⟨(by first | exact Aa rfl | (refine Ai (Aa rfl) (vint ?_); omega) | (refine Ai (Aa rfl) ?_; simp; done) | (refine Ai (Aa rfl) ?_; exact by rw [htk2]) | (refine Ai (Aa rfl) ?_; exact by rw [hstk]) | (refine Ai (Aa rfl) ?_; exact by rw [hrw2])), (by first | exact Aa rfl | (refine Ai (Aa rfl) (vint ?_); omega) | (refine Ai (Aa rfl) ?_; simp; done) | (refine Ai (Aa rfl) ?_; exact by rw [htk2]) | (refine Ai (Aa rfl) ?_; exact by rw [hstk]) | (refine Ai (Aa rfl) ?_; exact by rw [hrw2])), (by first | exact Aa rfl | (refine Ai (Aa rfl) (vint ?_); omega) | (refine Ai (Aa rfl) ?_; simp; done) | (refine Ai (Aa rfl) ?_; exact by rw [htk2]) | (refine Ai (Aa rfl) ?_; exact by rw [hstk]) | (refine Ai (Aa rfl) ?_; exact by rw [hrw2])), trivial⟩ sb0 ?_
  ·exact ⟨⟨Nat.zero_le _, hS2⟩, rfl, ⟨hds, rfl⟩, hS, List.Sublist.refl _⟩
  rintro ⟨a, S1, d7, d9, Ma⟩ ⟨⟨ha, hS12⟩, hSm, ⟨hd7, hd9⟩, hS1, hsub⟩
  have hrwl := rwR_len t1.pl E.pe.first nm (gd S k).l (S.map RowI.l) a
  rw [← hSm] at hrwl
  simp only [List.length_map] at hrwl
  have hkS1 : k < S1.length := by omega
  have hS1k : (gd S1 k).l = (gd S k).l := by
   have h1 := rwR_get t1.pl E.pe.first nm (gd S k).l (S.map RowI.l) (k := k) (by simp; omega) a
   rw [← hSm, C4 hkS1, C4 hkS] at h1; exact h1
  have hSk : Arr w0 (Ma ++ H) (gd S1 k).q 1 encI (gd S1 k).l := hS1.arr _ (Ax hkS1)
  have hSt : ∀ k, k < S1.length → StI t1.lv.length (gd S1 k).l := fun k hk => hS1.st _ (Ax hk)
  have hSkl := (hSt k hkS1).len
  refine Ag (Ag (Ab (y_ (Ac (T U)) (y_ (Bm (T U) Dv) (y_ (Aj (T U) isAgg25 (by first | exact c_o)) ?_ U) U) U)))
  refine y_ (Bn (T U) runUnderlying25) (y_ (yl_leq (T U) (T U)) (Af (Ae ?_)) U) U
  first | refine Ao (Aa U) (fun c40 => ?_) (fun c40 => ?_) | refine A5 (Aa U) (fun c40 => ?_) (fun c40 => ?_)
  ·refine A4 (Ae (Ag (Aw (Ag (Ab (y_ (Ad Ak) (Af (Ae (Ag (Ag (Ab (y_ (Ad Ak) (Af (Ae (Aw ?_))) U)))))) U))))))
   refine Cd (X := Nat × Option Addr × Nat × List (Nat × Obj)) (V := fun ⟨j, qt, ct, Mt⟩ => [(12, .int .i64 (j : Nat)), (11, .slice qt (stR t1.pl E.pe.first nm a ((gd S1 k).l.take j)).length ct)]) (C := [(2, _), (4, _), (5, _), (6, _), (7, _), (8, _), (9, _), (10, _)]) (G := fun ⟨j, qt, ct, Mt⟩ => Mt ++ (Ma ++ (slH d9 ((rwR t1.pl E.pe.first nm (gd S k).l (S.map RowI.l) a).2.flatMap encU) 3 ++ (slH d7 (S1.flatMap encRI) 42 ++ (slH dr (rows.flatMap encRQ) 42 ++ (slH da (acc.flatMap encB1) 4 ++ ((n6, Cl [.slice q7 nm.length c7, slV dr rows.length, slV da acc.length] 29) :: (M7 ++ ((n5, Cl (encEQ E) 163) :: (M1 ++ ((n21, Cl [slV e1 t1.lv.length, slV e2 t1.fol.length] 161) :: (slH e1 (t1.lv.flatMap encRx) 24 ++ (slH e2 (t1.fol.flatMap encRQ) 42 ++ ((n2, Cl [.slice none 0 0, .slice none 0 0, .slice none 0 0] 29) :: (n1, Cl (encRx m) 24) :: H)))))))))))))) (φ := fun ⟨j, qt, ct, Mt⟩ => j ≤ (gd S1 k).l.length ∧ (stR t1.pl E.pe.first nm a ((gd S1 k).l.take j)).length ≤ ct ∧ ∀ X, Arr w0 (Mt ++ X) qt 1 encU (stR t1.pl E.pe.first nm a ((gd S1 k).l.take j))) (μ := fun ⟨j, qt, ct, Mt⟩ => (gd S1 k).l.length - j) (x0 := (0, none, 0, [])) ?_ ⟨Aa rfl, Aa rfl, Aa rfl, Aa rfl, Aa rfl, Aa rfl, Aa rfl, Aa rfl, trivial⟩ ⟨(by first | exact Aa rfl | (refine Ai (Aa rfl) (vint ?_); omega) | (refine Ai (Aa rfl) ?_; simp; done) | (refine Ai (Aa rfl) ?_; exact by rw [htk2]) | (refine Ai (Aa rfl) ?_; exact by rw [hstk]) | (refine Ai (Aa rfl) ?_; exact by rw [hrw2])), (by first | exact Aa rfl | (refine Ai (Aa rfl) (vint ?_); omega) | (refine Ai (Aa rfl) ?_; simp; done) | (refine Ai (Aa rfl) ?_; exact by rw [htk2]) | (refine Ai (Aa rfl) ?_; exact by rw [hstk]) | (refine Ai (Aa rfl) ?_; exact by rw [hrw2])), trivial⟩ sb0 ?_
   ·exact ⟨Nat.zero_le _, Nat.le_refl _, fun X i x hi => by cases hi⟩
   rintro ⟨j, qt, ct, Mt⟩ ⟨hj, hct, hqt⟩
   have hto : Srn t1.lv.length (stR t1.pl E.pe.first nm a ((gd S1 k).l.take j)) := stR_srn hE.s1.2 (fun i hi => (ht1.srt (gd t1.fol i) (Ax (by omega))).2 |> fun h => by rw [show gd t1.pl.fol i = (gd t1.fol i).l from C4 (by omega)]; exact h) .nil (fun x hx => (hSt k hkS1).at (List.mem_of_mem_take hx))
   refine Ag (Ag (Ab (y_ (Ac (T U)) (y_ (Ac (T U)) (y_ (Ac (T U)) (y_ (Bb (T U) (T U) runUnderlying26 sizeOf42 (by omega) (by first | exact rfl | exact (A1 (w0 := w0) (enc := encRI) (sz := 1) (e := 42) (X := []) (fun _ => rfl) hd7).b (i := k) (by omega) | exact hSk.b (i := j) (by omega) | exact hSk.b (i := i) (by omega) | exact (A1 (w0 := w0) (enc := encRQ) (sz := 1) (e := 42) (X := []) (fun _ => rfl) ho2).b (i := (gd (gd S1 k).l j).toNat) (by omega) | exact hnA.b (i := i) (by omega) | exact (A1 (w0 := w0) (enc := encRx) (sz := 3) (e := 24) (X := []) (fun _ => rfl) ho1).b (i := gd nx i) hnx)) ?_ U) U) U) U)))
   refine y_ (Aj (T U) isAgg42 (by first | exact c_o | exact cell1 (((A1 (w0 := w0) (enc := encRI) (sz := 1) (e := 42) (X := H) (fun _ => rfl) hd7).mono sbt).cs (i := k) (by omega)))) ?_ U
   refine y_ (Bn (T U) runUnderlying42) (y_ (B1 (T U) (T U)) (Af (Ae ?_)) U) U
   first | refine Ao (Aa U) (fun c49 => ?_) (fun c49 => ?_) | refine A5 (Aa U) (fun c49 => ?_) (fun c49 => ?_)
   ·have hsx := (hSt k (by omega)).at (Ax (l := (gd S1 k).l) (i := j) (by omega))
    refine A4 (Ae (Ag (Aw (Ag (Ab (y_ (Bm (T U) fa163_0) (y_ (Aj (T U) isAgg42 (by first | exact c_o)) ?_ U) U))))))
    refine y_ (Ad (T U)) (Af (Ae ?_)) U
    refine Du (X := Option Addr × Nat × List Nat) (V := fun ⟨qn, cn, nx⟩ => [(13, .slice qn nx.length cn)]) (C := [(2, _), (4, _), (5, _), (6, _), (7, _), (8, _), (9, _), (10, _), (11, _), (12, _)]) (G := fun ⟨qn, cn, nx⟩ => Mt ++ (Ma ++ (slH d9 ((rwR t1.pl E.pe.first nm (gd S k).l (S.map RowI.l) a).2.flatMap encU) 3 ++ (slH d7 (S1.flatMap encRI) 42 ++ (slH dr (rows.flatMap encRQ) 42 ++ (slH da (acc.flatMap encB1) 4 ++ ((n6, Cl [.slice q7 nm.length c7, slV dr rows.length, slV da acc.length] 29) :: (M7 ++ ((n5, Cl (encEQ E) 163) :: (M1 ++ ((n21, Cl [slV e1 t1.lv.length, slV e2 t1.fol.length] 161) :: (slH e1 (t1.lv.flatMap encRx) 24 ++ (slH e2 (t1.fol.flatMap encRQ) 42 ++ ((n2, Cl [.slice none 0 0, .slice none 0 0, .slice none 0 0] 29) :: (n1, Cl (encRx m) 24) :: H)))))))))))))) (φ := fun ⟨qn, cn, nx⟩ => nx = nxR t1.pl.fol E.pe.first (gd (gd S1 k).l j) ∧ Srn t1.lv.length nx ∧ Arr w0 (M1 ++ H) qn 1 encU nx) ⟨Aa rfl, Aa rfl, Aa rfl, Aa rfl, Aa rfl, Aa rfl, Aa rfl, Aa rfl, Aa rfl, Aa rfl, trivial⟩ ?_ ?_
    ·refine Ag (Ab (y_ (Ac (T U)) (y_ (Ac (T U)) (y_ (Bb (T U) (T U) runUnderlying26 sizeOf42 (by omega) (by first | exact rfl | exact (A1 (w0 := w0) (enc := encRI) (sz := 1) (e := 42) (X := []) (fun _ => rfl) hd7).b (i := k) (by omega) | exact hSk.b (i := j) (by omega) | exact hSk.b (i := i) (by omega) | exact (A1 (w0 := w0) (enc := encRQ) (sz := 1) (e := 42) (X := []) (fun _ => rfl) ho2).b (i := (gd (gd S1 k).l j).toNat) (by omega) | exact hnA.b (i := i) (by omega) | exact (A1 (w0 := w0) (enc := encRx) (sz := 3) (e := 24) (X := []) (fun _ => rfl) ho1).b (i := gd nx i) hnx)) ?_ U) U) U))
     refine y_ (Aj (T U) isAgg42 (by first | exact c_o | exact cell1 (((A1 (w0 := w0) (enc := encRI) (sz := 1) (e := 42) (X := H) (fun _ => rfl) hd7).mono sbt).cs (i := k) (by omega)))) ?_ U
     refine y_ (Ac (T U)) (y_ (Bb (T U) (T U) runUnderlying42 sizeOf3 (by omega) (by first | exact rfl | exact (A1 (w0 := w0) (enc := encRI) (sz := 1) (e := 42) (X := []) (fun _ => rfl) hd7).b (i := k) (by omega) | exact hSk.b (i := j) (by omega) | exact hSk.b (i := i) (by omega) | exact (A1 (w0 := w0) (enc := encRQ) (sz := 1) (e := 42) (X := []) (fun _ => rfl) ho2).b (i := (gd (gd S1 k).l j).toNat) (by omega) | exact hnA.b (i := i) (by omega) | exact (A1 (w0 := w0) (enc := encRx) (sz := 3) (e := 24) (X := []) (fun _ => rfl) ho1).b (i := gd nx i) hnx)) ?_ U) U
     refine y_ (Aj (T U) isAgg3 (by first | exact c_o | exact cell1 ((hSk.mono sbt).cs (i := j) (by omega)))) ?_ U
     refine y_ (D1 (T U) Ak) (Af (Ae (Bl [(2, _), (4, _), (5, _), (6, _), (7, _), (8, _), (9, _), (10, _), (11, _), (12, _), (13, _), (61, _)] ⟨Aa U, Aa U, Aa U, Aa U, Aa U, Aa U, Aa U, Aa U, Aa U, Aa U, Aa U, Aa U, trivial⟩ ?_))) U
     first | refine Ao (Aa U) (fun c61 => ?_) (fun c61 => ?_) | refine A5 (Aa U) (fun c61 => ?_) (fun c61 => ?_)
     ·have hsi : (gd (gd S1 k).l j).toNat < t1.lv.length := hsx.elim (fun h => by omega) (fun h => h.2)
      refine Cm 14 [(0, true), (1, true), (2, true), (3, true), (4, true), (5, true), (6, true), (7, true), (8, true), (9, true), (10, true), (11, true), (12, true), (13, true)] _ mixd (by kernel_rfl) sb0 ?_
      refine o_y U (Ac (T U)) (o_y U (Bu (T U)) (o_y U (Bg (T U) fa161_1) (o_y U (Aj (T U) isAgg26 (by first | exact c_o)) ?_ U Ah) U Ah) U Ah) U Ah
      refine o_y U (Ac (T U)) (o_y U (Ac (T U)) (o_y U (Bb (T U) (T U) runUnderlying26 sizeOf42 (by omega) (by first | exact rfl | exact (A1 (w0 := w0) (enc := encRI) (sz := 1) (e := 42) (X := []) (fun _ => rfl) hd7).b (i := k) (by omega) | exact hSk.b (i := j) (by omega) | exact hSk.b (i := i) (by omega) | exact (A1 (w0 := w0) (enc := encRQ) (sz := 1) (e := 42) (X := []) (fun _ => rfl) ho2).b (i := (gd (gd S1 k).l j).toNat) (by omega) | exact hnA.b (i := i) (by omega) | exact (A1 (w0 := w0) (enc := encRx) (sz := 3) (e := 24) (X := []) (fun _ => rfl) ho1).b (i := gd nx i) hnx)) ?_ U Ah) U Ah) U Ah
      refine o_y U (Aj (T U) isAgg42 (by first | exact c_o | exact cell1 (((A1 (w0 := w0) (enc := encRI) (sz := 1) (e := 42) (X := H) (fun _ => rfl) hd7).mono sbt).cs (i := k) (by omega)))) ?_ U Ah
      refine o_y U (Ac (T U)) (o_y U (Bb (T U) (T U) runUnderlying42 sizeOf3 (by omega) (by first | exact rfl | exact (A1 (w0 := w0) (enc := encRI) (sz := 1) (e := 42) (X := []) (fun _ => rfl) hd7).b (i := k) (by omega) | exact hSk.b (i := j) (by omega) | exact hSk.b (i := i) (by omega) | exact (A1 (w0 := w0) (enc := encRQ) (sz := 1) (e := 42) (X := []) (fun _ => rfl) ho2).b (i := (gd (gd S1 k).l j).toNat) (by omega) | exact hnA.b (i := i) (by omega) | exact (A1 (w0 := w0) (enc := encRx) (sz := 3) (e := 24) (X := []) (fun _ => rfl) ho1).b (i := gd nx i) hnx)) ?_ U Ah) U Ah
      refine o_y U (Aj (T U) isAgg3 (by first | exact c_o | exact cell1 ((hSk.mono sbt).cs (i := j) (by omega)))) ?_ U Ah
      refine o_y U (Ct (T U) (T U) runUnderlying26 sizeOf42 (by omega) (by first | exact rfl | exact (A1 (w0 := w0) (enc := encRI) (sz := 1) (e := 42) (X := []) (fun _ => rfl) hd7).b (i := k) (by omega) | exact hSk.b (i := j) (by omega) | exact hSk.b (i := i) (by omega) | exact (A1 (w0 := w0) (enc := encRQ) (sz := 1) (e := 42) (X := []) (fun _ => rfl) ho2).b (i := (gd (gd S1 k).l j).toNat) (by omega) | exact hnA.b (i := i) (by omega) | exact (A1 (w0 := w0) (enc := encRx) (sz := 3) (e := 24) (X := []) (fun _ => rfl) ho1).b (i := gd nx i) hnx)) ?_ U Ah
      refine o_y U (Aj (T U) isAgg42 (by first | exact c_o | exact cell1 (((A1 (w0 := w0) (enc := encRQ) (sz := 1) (e := 42) (X := H) (fun _ => rfl) ho2).mono sbt).cs (i := (gd (gd S1 k).l j).toNat) (by omega)))) ?_ U Ah
      refine o_y U (Ad (T U)) (B3 U (Af ?_)) U Ah
      refine Bp (((gd t1.fol (gd (gd S1 k).l j).toNat).q, (gd t1.fol (gd (gd S1 k).l j).toNat).c, (gd t1.fol (gd (gd S1 k).l j).toNat).l)) ?_ ⟨(by first | exact Aa U | (refine Ai (Aa U) (vint ?_); omega) | (refine Ai (Aa U) ?_; simp; done) | (refine Ai (Aa U) ?_; exact by rw [htk2]) | (refine Ai (Aa U) ?_; exact by rw [hstk]) | (refine Ai (Aa U) ?_; exact by rw [hrw2])), trivial⟩ ⟨Aa U, Aa U, Aa U, Aa U, Aa U, Aa U, Aa U, Aa U, Aa U, Aa U, trivial⟩ sbt
      first | exact ⟨by unfold nxR; rw [if_pos (by omega)]; exact (C4 (by omega)).symm, ht1.srt _ (Ax (by omega)), ht1.arr _ (Ax (by omega))⟩ | exact ⟨by unfold nxR; rw [if_neg (by omega)], hE.s1, hE.a1⟩
     ·refine A4 ?_
      refine Bp ((E.q1, E.c1, E.pe.first)) ?_ ⟨(by first | exact Aa U | (refine Ai (Aa U) (vint ?_); omega) | (refine Ai (Aa U) ?_; simp; done) | (refine Ai (Aa U) ?_; exact by rw [htk2]) | (refine Ai (Aa U) ?_; exact by rw [hstk]) | (refine Ai (Aa U) ?_; exact by rw [hrw2])), trivial⟩ ⟨Aa U, Aa U, Aa U, Aa U, Aa U, Aa U, Aa U, Aa U, Aa U, Aa U, trivial⟩ sbt
      first | exact ⟨by unfold nxR; rw [if_pos (by omega)]; exact (C4 (by omega)).symm, ht1.srt _ (Ax (by omega)), ht1.arr _ (Ax (by omega))⟩ | exact ⟨by unfold nxR; rw [if_neg (by omega)], hE.s1, hE.a1⟩
    rintro ⟨qn, cn, nx⟩ ⟨hnxe, hns, hnA⟩
    have hnl2 := hns.len
    refine Ag (Ab (y_ (Ad Ak) (Af (Ae (Aw ?_))) U))
    refine Cd (X := Nat × Option Addr × Nat × List (Nat × Obj)) (V := fun ⟨i, qu, cu, Mu⟩ => [(14, .int .i64 (i : Nat)), (11, .slice qu (tkR t1.pl.nms nm a (stR t1.pl E.pe.first nm a ((gd S1 k).l.take j)) (nx.take i)).length cu)]) (C := [(2, _), (4, _), (5, _), (6, _), (7, _), (8, _), (9, _), (10, _), (12, _), (13, _)]) (G := fun ⟨i, qu, cu, Mu⟩ => Mu ++ (Ma ++ (slH d9 ((rwR t1.pl E.pe.first nm (gd S k).l (S.map RowI.l) a).2.flatMap encU) 3 ++ (slH d7 (S1.flatMap encRI) 42 ++ (slH dr (rows.flatMap encRQ) 42 ++ (slH da (acc.flatMap encB1) 4 ++ ((n6, Cl [.slice q7 nm.length c7, slV dr rows.length, slV da acc.length] 29) :: (M7 ++ ((n5, Cl (encEQ E) 163) :: (M1 ++ ((n21, Cl [slV e1 t1.lv.length, slV e2 t1.fol.length] 161) :: (slH e1 (t1.lv.flatMap encRx) 24 ++ (slH e2 (t1.fol.flatMap encRQ) 42 ++ ((n2, Cl [.slice none 0 0, .slice none 0 0, .slice none 0 0] 29) :: (n1, Cl (encRx m) 24) :: H)))))))))))))) (φ := fun ⟨i, qu, cu, Mu⟩ => i ≤ nx.length ∧ (tkR t1.pl.nms nm a (stR t1.pl E.pe.first nm a ((gd S1 k).l.take j)) (nx.take i)).length ≤ cu ∧ ∀ X, Arr w0 (Mu ++ X) qu 1 encU (tkR t1.pl.nms nm a (stR t1.pl E.pe.first nm a ((gd S1 k).l.take j)) (nx.take i))) (μ := fun ⟨i, qu, cu, Mu⟩ => nx.length - i) (x0 := (0, qt, ct, Mt)) ?_ ⟨Aa rfl, Aa rfl, Aa rfl, Aa rfl, Aa rfl, Aa rfl, Aa rfl, Aa rfl, Aa rfl, Aa rfl, trivial⟩ ⟨(by first | exact Aa rfl | (refine Ai (Aa rfl) (vint ?_); omega) | (refine Ai (Aa rfl) ?_; simp; done) | (refine Ai (Aa rfl) ?_; exact by rw [htk2]) | (refine Ai (Aa rfl) ?_; exact by rw [hstk]) | (refine Ai (Aa rfl) ?_; exact by rw [hrw2])), (by first | exact Aa rfl | (refine Ai (Aa rfl) (vint ?_); omega) | (refine Ai (Aa rfl) ?_; simp; done) | (refine Ai (Aa rfl) ?_; exact by rw [htk2]) | (refine Ai (Aa rfl) ?_; exact by rw [hstk]) | (refine Ai (Aa rfl) ?_; exact by rw [hrw2])), trivial⟩ sb0 ?_
    ·exact ⟨Nat.zero_le _, hct, hqt⟩
    rintro ⟨i, qu, cu, Mu⟩ ⟨hi, hcu, hqu⟩
    have htkl := (tkR_srn (nms := t1.pl.nms) (names := nm) (a := a) (nx := nx.take i) hto (fun x hx => hns.2 x (List.mem_of_mem_take hx))).len
    refine Ag (Ag (Ab (y_ (Ac (T U)) (y_ (Ac (T U)) (y_ (Bn (T U) runUnderlying42) (y_ (B1 (T U) (T U)) (Af (Ae ?_)) U) U) U) U)))
    first | refine Ao (Aa U) (fun c78 => ?_) (fun c78 => ?_) | refine A5 (Aa U) (fun c78 => ?_) (fun c78 => ?_)
    ·have hnx : gd nx i < t1.lv.length := hns.2 _ (Ax (by omega))
     have hnmg : gd t1.pl.nms (gd nx i) = (gd t1.lv (gd nx i)).node := C4 hnx
     refine A4 (Ae (Ag (Aw (Ag (Cm 15 [(0, true), (1, true), (2, true), (3, true), (4, true), (5, true), (6, true), (7, true), (8, true), (9, true), (10, true), (11, true), (12, true), (13, true), (14, true)] _ mixd (by kernel_rfl) sb0 ?_)))))
     refine o_y U (Ac (T U)) (o_y U (Bu (T U)) (o_y U (Bm (T U) fa161_0) (o_y U (Aj (T U) isAgg22 (by first | exact c_o)) ?_ U Ah) U Ah) U Ah) U Ah
     refine o_y U (Ac (T U)) (o_y U (Ac (T U)) (o_y U (Bb (T U) (T U) runUnderlying42 sizeOf3 (by omega) (by first | exact rfl | exact (A1 (w0 := w0) (enc := encRI) (sz := 1) (e := 42) (X := []) (fun _ => rfl) hd7).b (i := k) (by omega) | exact hSk.b (i := j) (by omega) | exact hSk.b (i := i) (by omega) | exact (A1 (w0 := w0) (enc := encRQ) (sz := 1) (e := 42) (X := []) (fun _ => rfl) ho2).b (i := (gd (gd S1 k).l j).toNat) (by omega) | exact hnA.b (i := i) (by omega) | exact (A1 (w0 := w0) (enc := encRx) (sz := 3) (e := 24) (X := []) (fun _ => rfl) ho1).b (i := gd nx i) hnx)) ?_ U Ah) U Ah) U Ah
     refine o_y U (Aj (T U) isAgg3 (by first | exact c_o | exact cell1 ((hnA.mono sbt).cs (i := i) (by omega)))) ?_ U Ah
     refine o_y U (Bb (T U) (T U) runUnderlying22 sizeOf24 (by omega) (by first | exact rfl | exact (A1 (w0 := w0) (enc := encRI) (sz := 1) (e := 42) (X := []) (fun _ => rfl) hd7).b (i := k) (by omega) | exact hSk.b (i := j) (by omega) | exact hSk.b (i := i) (by omega) | exact (A1 (w0 := w0) (enc := encRQ) (sz := 1) (e := 42) (X := []) (fun _ => rfl) ho2).b (i := (gd (gd S1 k).l j).toNat) (by omega) | exact hnA.b (i := i) (by omega) | exact (A1 (w0 := w0) (enc := encRx) (sz := 3) (e := 24) (X := []) (fun _ => rfl) ho1).b (i := gd nx i) hnx)) ?_ U Ah
     refine o_y U (Am (T U) isAgg24 sizeOf24 U (by first | exact ((A1 (w0 := w0) (enc := encRx) (sz := 3) (e := 24) (X := H) (fun _ => rfl) ho1).mono sbt).cs (i := gd nx i) hnx | exact Bf)) ?_ U Ah
     refine o_y U (Bm (T U) Dv) (o_y U (Aj (T U) isAgg25 (by first | exact c_o)) ?_ U Ah) U Ah
     refine o_y U (Ac (T U)) (o_y U (Av (.cons (T U) (.cons (T U) (.cons (T U) .nil))) call107 (fun H' hs => still_b (takR_eq (ht1.lf _ (Ax hnx)) nm a) (takes_s (gd t1.lv (gd nx i)) nm q7 c7 (hN.mono (List.Sublist.trans sbt hs)) (by omega) a))) ?_ U Ah) U Ah
     refine o_y U (Ad (T U)) (B3 U (Af (Ae (Bl [(2, _), (4, _), (5, _), (6, _), (7, _), (8, _), (9, _), (10, _), (11, _), (12, _), (13, _), (14, _), (15, _)] ⟨Aa U, Aa U, Aa U, Aa U, Aa U, Aa U, Aa U, Aa U, Aa U, Aa U, Aa U, Aa U, Aa U, trivial⟩ (Ag (Ab (y_ (Ac (T U)) (Af (Ae ?_)) U))))))) U Ah
     first | refine Ao (Aa U) (fun c95 => ?_) (fun c95 => ?_) | refine A5 (Aa U) (fun c95 => ?_) (fun c95 => ?_)
     ·have htk2 := tkR_take (nms := t1.pl.nms) (names := nm) (a := a) (to := (stR t1.pl E.pe.first nm a ((gd S1 k).l.take j))) (nx := nx) (i := i) (by omega)
      rw [hnmg, if_pos c95] at htk2
      refine Ab (y_ (Ac (T U)) (y_ (Ac (T U)) (y_ (Ac (T U)) (y_ (Bb (T U) (T U) runUnderlying42 sizeOf3 (by omega) (by first | exact rfl | exact (A1 (w0 := w0) (enc := encRI) (sz := 1) (e := 42) (X := []) (fun _ => rfl) hd7).b (i := k) (by omega) | exact hSk.b (i := j) (by omega) | exact hSk.b (i := i) (by omega) | exact (A1 (w0 := w0) (enc := encRQ) (sz := 1) (e := 42) (X := []) (fun _ => rfl) ho2).b (i := (gd (gd S1 k).l j).toNat) (by omega) | exact hnA.b (i := i) (by omega) | exact (A1 (w0 := w0) (enc := encRx) (sz := 3) (e := 24) (X := []) (fun _ => rfl) ho1).b (i := gd nx i) hnx)) ?_ U) U) U) U)
      refine y_ (Aj (T U) isAgg3 (by first | exact c_o | exact cell1 ((hnA.mono sbt).cs (i := i) (by omega)))) ?_ U
      refine e_ (Au (.cons (T U) (.cons (T U) .nil)) call108 (put_x (tkR t1.pl.nms nm a (stR t1.pl E.pe.first nm a ((gd S1 k).l.take j)) (nx.take i)) qu cu ((hqu H).mono sbt) hcu (by omega) (gd nx i))) ?_ U
      rintro _ _ ⟨q9, c9, M9, ⟨rfl, hc9, hA9⟩, rfl⟩
      refine y_ (Ad (T U)) (Af (Bi (Ae (Ab (y_ (Ac (T U)) (y_ (Bt (T U) Ak (by omega)) ?_ U) U))))) U
      refine y_ (Ad (T U)) (Af ?_) U
      refine Bk ((i + 1, q9, c9, M9 ++ Mu)) ?_ ?_ ⟨(by first | exact Aa U | (refine Ai (Aa U) (vint ?_); omega) | (refine Ai (Aa U) ?_; simp; done) | (refine Ai (Aa U) ?_; exact by rw [htk2]) | (refine Ai (Aa U) ?_; exact by rw [hstk]) | (refine Ai (Aa U) ?_; exact by rw [hrw2])), (by first | exact Aa U | (refine Ai (Aa U) (vint ?_); omega) | (refine Ai (Aa U) ?_; simp; done) | (refine Ai (Aa U) ?_; exact by rw [htk2]) | (refine Ai (Aa U) ?_; exact by rw [hstk]) | (refine Ai (Aa U) ?_; exact by rw [hrw2])), trivial⟩ ⟨Aa U, Aa U, Aa U, Aa U, Aa U, Aa U, Aa U, Aa U, Aa U, Aa U, trivial⟩ ?_
      ·exact ⟨by omega, by rw [htk2]; exact hc9, fun X => by rw [htk2, List.append_assoc]; exact hA9 _ (hqu X)⟩
      ·first | omega | (simp only []; omega)
      ·first | (show (M9 ++ Mu ++ _).Sublist _; rw [List.append_assoc]; exact sbt) | exact sbt
     ·have htk2 := tkR_take (nms := t1.pl.nms) (names := nm) (a := a) (to := (stR t1.pl E.pe.first nm a ((gd S1 k).l.take j))) (nx := nx) (i := i) (by omega)
      rw [hnmg, if_neg (by rw [c95]; exact Bool.false_ne_true)] at htk2
      refine A4 (Bi (Ae (Ab (y_ (Ac (T U)) (y_ (Bt (T U) Ak (by omega)) ?_ U) U))))
      refine y_ (Ad (T U)) (Af ?_) U
      refine Bk ((i + 1, qu, cu, Mu)) ?_ ?_ ⟨(by first | exact Aa U | (refine Ai (Aa U) (vint ?_); omega) | (refine Ai (Aa U) ?_; simp; done) | (refine Ai (Aa U) ?_; exact by rw [htk2]) | (refine Ai (Aa U) ?_; exact by rw [hstk]) | (refine Ai (Aa U) ?_; exact by rw [hrw2])), (by first | exact Aa U | (refine Ai (Aa U) (vint ?_); omega) | (refine Ai (Aa U) ?_; simp; done) | (refine Ai (Aa U) ?_; exact by rw [htk2]) | (refine Ai (Aa U) ?_; exact by rw [hstk]) | (refine Ai (Aa U) ?_; exact by rw [hrw2])), trivial⟩ ⟨Aa U, Aa U, Aa U, Aa U, Aa U, Aa U, Aa U, Aa U, Aa U, Aa U, trivial⟩ ?_
      ·exact ⟨by omega, by rw [htk2]; exact hcu, by rw [htk2]; exact hqu⟩
      ·first | omega | (simp only []; omega)
      ·first | (show (M9 ++ Mu ++ _).Sublist _; rw [List.append_assoc]; exact sbt) | exact sbt
    ·refine B2 (Ay (A2 (A3 (Bi (Ae (Ab (y_ (Ac (T U)) (y_ (Bt (T U) Ak (by omega)) ?_ U) U)))))))
     refine y_ (Ad (T U)) (Af ?_) U
     have hi2 : nx.take i = nx := List.take_of_length_le (by omega)
     have hstk : (stR t1.pl E.pe.first nm a ((gd S1 k).l.take (j + 1))) = (tkR t1.pl.nms nm a (stR t1.pl E.pe.first nm a ((gd S1 k).l.take j)) (nx.take i)) := by rw [stR_take (by omega), ← hnxe, hi2]
     refine Bk ((j + 1, qu, cu, Mu)) ?_ ?_ ⟨(by first | exact Aa U | (refine Ai (Aa U) (vint ?_); omega) | (refine Ai (Aa U) ?_; simp; done) | (refine Ai (Aa U) ?_; exact by rw [htk2]) | (refine Ai (Aa U) ?_; exact by rw [hstk]) | (refine Ai (Aa U) ?_; exact by rw [hrw2])), (by first | exact Aa U | (refine Ai (Aa U) (vint ?_); omega) | (refine Ai (Aa U) ?_; simp; done) | (refine Ai (Aa U) ?_; exact by rw [htk2]) | (refine Ai (Aa U) ?_; exact by rw [hstk]) | (refine Ai (Aa U) ?_; exact by rw [hrw2])), trivial⟩ ⟨Aa U, Aa U, Aa U, Aa U, Aa U, Aa U, Aa U, Aa U, trivial⟩ ?_
     ·exact ⟨by omega, by rw [hstk]; exact hcu, by rw [hstk]; exact hqu⟩
     ·show _ - (j + 1) < _ - j; omega
     ·exact sbt
   ·have hj2 : (gd S1 k).l.take j = (gd S k).l := by rw [List.take_of_length_le (by omega)]; exact hS1k
    simp only [hj2] at hct hqt hto ⊢
    refine B2 (Ay (A2 (A3 (Ae (Ag (Ab (y_ (Ac (T U)) (y_ (Ac (T U)) (y_ (Av (.cons (T U) (.cons (T U) .nil)) call109 (fun H' hs => place_u S1 (slQ d7) (slC d7) (((A1 (w0 := w0) (enc := encRI) (sz := 1) (e := 42) (X := H) (fun _ => rfl) hd7)).mono (List.Sublist.trans sbt hs)) (fun r hr => (hS1.arr r hr).mono (List.Sublist.trans sbt hs)) (fun r hr => by have := (hS1.st r hr).len; omega) (by omega) (stR t1.pl E.pe.first nm a (gd S k).l) qt ct ((hqt H).mono (List.Sublist.trans sbt hs)))) ?_ U) U) U)))))))
    refine y_ (Ad (T U)) (Af (Ae ?_)) U
    refine Du (X := List RowI × Sl × List (Nat × Obj)) (V := fun ⟨S2, d8, Mb⟩ => [(7, slV d8 S2.length)]) (C := [(2, _), (4, _), (5, _), (6, _), (8, _), (9, _), (10, _), (16, _)]) (G := fun ⟨S2, d8, Mb⟩ => Mb ++ (slH d9 ((rwR t1.pl E.pe.first nm (gd S k).l (S.map RowI.l) a).2.flatMap encU) 3 ++ (slH d8 (S2.flatMap encRI) 42 ++ (slH dr (rows.flatMap encRQ) 42 ++ (slH da (acc.flatMap encB1) 4 ++ ((n6, Cl [.slice q7 nm.length c7, slV dr rows.length, slV da acc.length] 29) :: (M7 ++ ((n5, Cl (encEQ E) 163) :: (M1 ++ ((n21, Cl [slV e1 t1.lv.length, slV e2 t1.fol.length] 161) :: (slH e1 (t1.lv.flatMap encRx) 24 ++ (slH e2 (t1.fol.flatMap encRQ) 42 ++ ((n2, Cl [.slice none 0 0, .slice none 0 0, .slice none 0 0] 29) :: (n1, Cl (encRx m) 24) :: H))))))))))))) (φ := fun ⟨S2, d8, Mb⟩ => S2.map RowI.l = addL (S1.map RowI.l) (toInts (stR t1.pl E.pe.first nm a (gd S k).l)) ∧ SlOk d8 S2.length 1 ∧ SsOk w0 (Mb ++ H) t1.lv.length S2 ∧ Ma.Sublist Mb) ⟨Aa rfl, Aa rfl, Aa rfl, Aa rfl, Aa rfl, Aa rfl, Aa rfl, Aa rfl, trivial⟩ ?_ ?_
    ·refine Ag (Ab (y_ (Ac (T U)) (y_ (Ac (T U)) (y_ (Bn (T U) runUnderlying26) (y_ (By (T U) (T U)) (Af (Ae (Bl [(2, _), (4, _), (5, _), (6, _), (7, _), (8, _), (9, _), (10, _), (11, _), (16, _), (108, _)] ⟨Aa U, Aa U, Aa U, Aa U, Aa U, Aa U, Aa U, Aa U, Aa U, Aa U, Aa U, trivial⟩ ?_))) U) U) U) U))
     first | refine Ao (Aa U) (fun c108 => ?_) (fun c108 => ?_) | refine A5 (Aa U) (fun c108 => ?_) (fun c108 => ?_)
     ·refine Ab (y_ (Ac (T U)) (y_ (Ac (T U)) (e_ (Al (.cons (T U) .nil) (bs26_1_0 _ _ _)) ?_ U) U) U)
      rintro _ _ ⟨n111, rfl, rfl⟩
      refine e_ (B8 ((⟨qt, ct, toInts (stR t1.pl E.pe.first nm a (gd S k).l)⟩ : RowI)) (by' := 24) (enc := encRI) (l := S1) (by repeat (first | exact LocL.h | apply LocL.t | apply LocL.a)) (T U) (T U) runUnderlying26 runUnderlying26 sizeOf42 typeInfo42 U zeroValue42 U (fun _ => rfl) U hd7 (by decide) (by omega) (hn := by rw [rowI_u]; exact Bf)) ?_ U
      rintro _ _ ⟨d8', rfl, hok8, rfl⟩
      refine y_ (Ad (T U)) (Af ?_) U
      refine Bp ((S1 ++ [⟨qt, ct, toInts (stR t1.pl E.pe.first nm a (gd S k).l)⟩], d8', Mt ++ Ma)) ?_ ⟨(by first | exact Aa U | (refine Ai (Aa U) (vint ?_); omega) | (refine Ai (Aa U) ?_; simp; done) | (refine Ai (Aa U) ?_; exact by rw [htk2]) | (refine Ai (Aa U) ?_; exact by rw [hstk]) | (refine Ai (Aa U) ?_; exact by rw [hrw2])), trivial⟩ ⟨Aa U, Aa U, Aa U, Aa U, Aa U, Aa U, Aa U, Aa U, trivial⟩ (by simp only [List.append_assoc]; exact sbt)
      first | exact ⟨by rw [addL_yes (by simp; omega), List.map_append]; rfl, hok8, hS1.push (by rw [List.append_assoc]; exact List.sublist_append_right _ _) (by rw [List.append_assoc]; exact arrUI (hqt _)) (.inr ⟨_, hto, rfl⟩), List.sublist_append_right _ _⟩ | exact ⟨by rw [addL_no (by simp; omega)], hd7, hS1.mono (by rw [List.append_assoc]; exact List.sublist_append_right _ _), List.sublist_append_right _ _⟩
     ·refine A4 ?_
      refine Bp ((S1, d7, Mt ++ Ma)) ?_ ⟨(by first | exact Aa U | (refine Ai (Aa U) (vint ?_); omega) | (refine Ai (Aa U) ?_; simp; done) | (refine Ai (Aa U) ?_; exact by rw [htk2]) | (refine Ai (Aa U) ?_; exact by rw [hstk]) | (refine Ai (Aa U) ?_; exact by rw [hrw2])), trivial⟩ ⟨Aa U, Aa U, Aa U, Aa U, Aa U, Aa U, Aa U, Aa U, trivial⟩ (by simp only [List.append_assoc]; exact sbt)
      first | exact ⟨by rw [addL_yes (by simp; omega), List.map_append]; rfl, hok8, hS1.push (by rw [List.append_assoc]; exact List.sublist_append_right _ _) (by rw [List.append_assoc]; exact arrUI (hqt _)) (.inr ⟨_, hto, rfl⟩), List.sublist_append_right _ _⟩ | exact ⟨by rw [addL_no (by simp; omega)], hd7, hS1.mono (by rw [List.append_assoc]; exact List.sublist_append_right _ _), List.sublist_append_right _ _⟩
    rintro ⟨S2, d8, Mb⟩ ⟨hm2, hd8, hSS2, hsub2⟩
    refine Ag (Ag (Ab (y_ (Ac (T U)) (y_ (Bn (T U) runUnderlying26) (y_ (yl_gtr (T U) Ak) (Af (Ae ?_)) U) U) U)))
    first | refine Ao (Aa U) (fun c115 => ?_) (fun c115 => ?_) | refine A5 (Aa U) (fun c115 => ?_) (fun c115 => ?_)
    ·refine Ag (Ab (y_ (Bq .nil (bd29_z)) ?_ U))
     first | refine A6 (As (T U) (T U) sizeOf29) U Ah ?_
     rintro _ _ ⟨rfl, rfl⟩
     refine y_ (Ad Ak) (Af (Ae (A7 (Ap (A0 (Ap (B9 (A0 (Ap (A0 (Ap (B9 (A0 (Ap (A8 U (.cellA (Aa U) isAgg29 sizeOf29 U (by first | exact Bf) (.tmp (Aa U) .nil)) ?_))))))))))))))) U
     have hnone : rawR e nm = none := by rw [hraw, ← hgo, show 201 - k = (200 - k) + 1 by omega]; exact rawGoR_big (a := a) (by simp; omega) (by omega) (by rw [C4 (show k < S.length by omega), rwR_succ, ← hSm, ← hm2]; simp; omega)
     exact ⟨_, ⟨⟨[], [], [], none, 0, none, 0, none, 0⟩, [], ⟨by rw [hnone]; rfl, fun X => ⟨(fun i x hi => by cases hi), (fun i x hi => by cases hi), (fun i x hi => by cases hi), (fun r hr => by cases hr)⟩, (fun r hr => by rw [hnone] at hr; cases hr), fun _ => rfl⟩, rfl⟩, sbt⟩
    ·refine A4 (Ae (Ab (y_ (Ac (T U)) (y_ (Ac (T U)) (e_ (Al (.cons (T U) .nil) (Ck _)) ?_ U) U) U)))
     rintro _ _ ⟨n119, rfl, rfl⟩
     refine e_ (B8 ((idx (S1.map RowI.l) (toInts (stR t1.pl E.pe.first nm a (gd S k).l)))) (by' := 8) (enc := encU) (l := (rwR t1.pl E.pe.first nm (gd S k).l (S.map RowI.l) a).2) (by repeat (first | exact LocL.h | apply LocL.t | apply LocL.a)) (T U) (T U) runUnderlying42 runUnderlying42 sizeOf3 typeInfo3 U zeroValue3 U (fun _ => rfl) U hd9 (by decide) (by omega)) ?_ U
     rintro _ _ ⟨d9', rfl, hok9, rfl⟩
     refine y_ (Ad (T U)) (Af (Bi (Ae (Ab (y_ (Ac (T U)) (y_ (Bt (T U) Ak (by omega)) ?_ U) U))))) U
     refine y_ (Ad (T U)) (Af ?_) U
     have hrw2 : (rwR t1.pl E.pe.first nm (gd S k).l (S.map RowI.l) (a + 1)).2 = (rwR t1.pl E.pe.first nm (gd S k).l (S.map RowI.l) a).2 ++ [(idx (S1.map RowI.l) (toInts (stR t1.pl E.pe.first nm a (gd S k).l)))] := by rw [rwR_succ, ← hSm]
     refine Bk ((a + 1, S2, d8, d9', Mb)) ?_ ?_ ⟨(by first | exact Aa U | (refine Ai (Aa U) (vint ?_); omega) | (refine Ai (Aa U) ?_; simp; done) | (refine Ai (Aa U) ?_; exact by rw [htk2]) | (refine Ai (Aa U) ?_; exact by rw [hstk]) | (refine Ai (Aa U) ?_; exact by rw [hrw2])), (by first | exact Aa U | (refine Ai (Aa U) (vint ?_); omega) | (refine Ai (Aa U) ?_; simp; done) | (refine Ai (Aa U) ?_; exact by rw [htk2]) | (refine Ai (Aa U) ?_; exact by rw [hstk]) | (refine Ai (Aa U) ?_; exact by rw [hrw2])), (by first | exact Aa U | (refine Ai (Aa U) (vint ?_); omega) | (refine Ai (Aa U) ?_; simp; done) | (refine Ai (Aa U) ?_; exact by rw [htk2]) | (refine Ai (Aa U) ?_; exact by rw [hstk]) | (refine Ai (Aa U) ?_; exact by rw [hrw2])), trivial⟩ ⟨Aa U, Aa U, Aa U, Aa U, Aa U, trivial⟩ ?_
     ·refine ⟨⟨by omega, show S2.length ≤ 200 by omega⟩, ?_, ⟨hd8, by rw [hrw2]; exact hok9⟩, hSS2, hsub.trans hsub2⟩
      rw [hm2, rwR_succ, hSm]
     ·show nm.length + 1 - (a + 1) < nm.length + 1 - a; omega
     ·simp only [hrw2]; exact sbt
  ·refine B2 (Ay (A2 (A3 (Ae (Ag (Ab (y_ (Bg (T U) C2) (y_ (Aj (T U) isAgg26 (by first | exact c_o)) ?_ U) U)))))))
   refine y_ (Ac (T U)) (e_ (Al (.cons (T U) .nil) (bs26_1_0 _ _ _)) ?_ U) U
   rintro _ _ ⟨n124, rfl, rfl⟩
   refine e_ (B8 ((⟨slQ d9, slC d9, (rwR t1.pl E.pe.first nm (gd S k).l (S.map RowI.l) a).2⟩ : RowQ)) (by' := 24) (enc := encRQ) (l := rows) (by repeat (first | exact LocL.h | apply LocL.t | apply LocL.a)) (T U) (T U) runUnderlying26 runUnderlying26 sizeOf42 typeInfo42 U zeroValue42 U (fun _ => rfl) U hdr (by decide) (by omega)) ?_ U
   rintro _ _ ⟨dr', rfl, hokr, rfl⟩
   refine y_ (Bg (T U) C2) ?_ U
   first | refine A6 (As (T U) (T U) sizeOf26) U Ah ?_ | refine A6 (B5 (T U) (T U) U sizeOf26) U Ah ?_ | refine A6 (Bz (T U) (T U) U sizeOf26) U Ah ?_
   rintro _ _ ⟨rfl, rfl⟩
   refine Af (Ae ?_)
   refine j_cutH (X := Bool) (V := fun b0 => [(17, .bool b0)]) (C := [(2, _), (4, _), (5, _), (6, _), (7, _), (8, _)]) (φ := fun b0 => b0 = (decide (k = 0) && E.pe.emp)) ⟨Aa U, Aa U, Aa U, Aa U, Aa U, Aa U, trivial⟩ ?_ ?_
   ·refine Ab (y_ (Ac (T U)) (y_ (By (T U) Ak) (y_ (Ac (T U)) ?_ U) U) U)
    first | refine Cb (s := 129) (Aa U) (fun c129 => ?_) (fun c129 => ?_) | refine Cu (s := 129) (Aa U) (fun c129 => ?_) (fun c129 => ?_)
    ·refine Be (Bg (T U) fa163_2) U (Ar U U (Aa U)) (Be (Aj (T U) isAgg4 (by first | exact c_o)) U (Ar U U (Aa U)) ?_)
     refine y_ (Az (T U) (T U)) (y_ (Ad (T U)) (Af ?_) U) U
     refine Bp (E.pe.emp) ?_ ⟨(by first | exact Aa U | (refine Ai (Aa U) (vint ?_); omega) | (refine Ai (Aa U) ?_; simp; done) | (refine Ai (Aa U) ?_; exact by rw [htk2]) | (refine Ai (Aa U) ?_; exact by rw [hstk]) | (refine Ai (Aa U) ?_; exact by rw [hrw2])), trivial⟩ ⟨Aa U, Aa U, Aa U, Aa U, Aa U, Aa U, trivial⟩ sbt
     first | (rw [decide_eq_true (show k = 0 by omega)]; simp) | (rw [decide_eq_false (show ¬ k = 0 by omega)]; simp)
    ·refine B6 (B6 (y_ (A9 (T U) Ak) (y_ (Ad (T U)) (Af ?_) U) U) U U U U) U U U U
     refine Bp (false) ?_ ⟨(by first | exact Aa U | (refine Ai (Aa U) (vint ?_); omega) | (refine Ai (Aa U) ?_; simp; done) | (refine Ai (Aa U) ?_; exact by rw [htk2]) | (refine Ai (Aa U) ?_; exact by rw [hstk]) | (refine Ai (Aa U) ?_; exact by rw [hrw2])), trivial⟩ ⟨Aa U, Aa U, Aa U, Aa U, Aa U, Aa U, trivial⟩ sbt
     first | (rw [decide_eq_true (show k = 0 by omega)]; simp) | (rw [decide_eq_false (show ¬ k = 0 by omega)]; simp)
   rintro b0 hb0
   refine Ag (Ag (Ab (y_ (Ad Ak) (Af (Ae (Aw ?_))) U)))
   refine Ci (X := Nat × Bool) (V := fun ⟨i, b⟩ => [(18, .int .i64 (i : Nat)), (17, .bool b)]) (C := [(2, _), (4, _), (5, _), (6, _), (7, _), (8, _)]) (φ := fun ⟨i, b⟩ => i ≤ (gd S1 k).l.length ∧ b = ((decide (k = 0) && E.pe.emp) || ((gd S1 k).l.take i).any fun s => decide (s ∈ toInts E.pe.last))) (μ := fun ⟨i, b⟩ => (gd S1 k).l.length - i) (x0 := (0, b0)) ?_ ⟨Aa rfl, Aa rfl, Aa rfl, Aa rfl, Aa rfl, Aa rfl, trivial⟩ ⟨(by first | exact Aa rfl | (refine Ai (Aa rfl) (vint ?_); omega) | (refine Ai (Aa rfl) ?_; simp; done) | (refine Ai (Aa rfl) ?_; exact by rw [htk2]) | (refine Ai (Aa rfl) ?_; exact by rw [hstk]) | (refine Ai (Aa rfl) ?_; exact by rw [hrw2])), (by first | exact Aa rfl | (refine Ai (Aa rfl) (vint ?_); omega) | (refine Ai (Aa rfl) ?_; simp; done) | (refine Ai (Aa rfl) ?_; exact by rw [htk2]) | (refine Ai (Aa rfl) ?_; exact by rw [hstk]) | (refine Ai (Aa rfl) ?_; exact by rw [hrw2])), trivial⟩ ?_
   ·exact ⟨Nat.zero_le _, by simp [hb0]⟩
   rintro ⟨i, b⟩ ⟨hi, hb⟩
   refine Ag (Ag (Ab (y_ (Ac (T U)) (y_ (Ac (T U)) (y_ (Ac (T U)) (y_ (Bb (T U) (T U) runUnderlying26 sizeOf42 (by omega) (by first | exact rfl | exact (A1 (w0 := w0) (enc := encRI) (sz := 1) (e := 42) (X := []) (fun _ => rfl) hd7).b (i := k) (by omega) | exact hSk.b (i := j) (by omega) | exact hSk.b (i := i) (by omega) | exact (A1 (w0 := w0) (enc := encRQ) (sz := 1) (e := 42) (X := []) (fun _ => rfl) ho2).b (i := (gd (gd S1 k).l j).toNat) (by omega) | exact hnA.b (i := i) (by omega) | exact (A1 (w0 := w0) (enc := encRx) (sz := 3) (e := 24) (X := []) (fun _ => rfl) ho1).b (i := gd nx i) hnx)) ?_ U) U) U) U)))
   refine y_ (Aj (T U) isAgg42 (by first | exact c_o | exact cell1 (((A1 (w0 := w0) (enc := encRI) (sz := 1) (e := 42) (X := H) (fun _ => rfl) hd7).mono sbt).cs (i := k) (by omega)))) ?_ U
   refine y_ (Bn (T U) runUnderlying42) (y_ (B1 (T U) (T U)) (Af (Ae ?_)) U) U
   first | refine Ao (Aa U) (fun c139 => ?_) (fun c139 => ?_) | refine A5 (Aa U) (fun c139 => ?_) (fun c139 => ?_)
   ·refine A4 (Ae (Ag (Aw (Ag (Cm 11 [(0, true), (1, true), (2, true), (3, true), (4, true), (5, true), (6, true), (7, true), (8, true), (9, true), (10, true)] _ mixd (by kernel_rfl) sb0 ?_)))))
    refine o_y U (Bg (T U) fa163_1) (o_y U (Aj (T U) isAgg42 (by first | exact c_o)) ?_ U Ah) U Ah
    refine o_y U (Ac (T U)) (o_y U (Ac (T U)) (o_y U (Bb (T U) (T U) runUnderlying26 sizeOf42 (by omega) (by first | exact rfl | exact (A1 (w0 := w0) (enc := encRI) (sz := 1) (e := 42) (X := []) (fun _ => rfl) hd7).b (i := k) (by omega) | exact hSk.b (i := j) (by omega) | exact hSk.b (i := i) (by omega) | exact (A1 (w0 := w0) (enc := encRQ) (sz := 1) (e := 42) (X := []) (fun _ => rfl) ho2).b (i := (gd (gd S1 k).l j).toNat) (by omega) | exact hnA.b (i := i) (by omega) | exact (A1 (w0 := w0) (enc := encRx) (sz := 3) (e := 24) (X := []) (fun _ => rfl) ho1).b (i := gd nx i) hnx)) ?_ U Ah) U Ah) U Ah
    refine o_y U (Aj (T U) isAgg42 (by first | exact c_o | exact cell1 (((A1 (w0 := w0) (enc := encRI) (sz := 1) (e := 42) (X := H) (fun _ => rfl) hd7).mono sbt).cs (i := k) (by omega)))) ?_ U Ah
    refine o_y U (Ac (T U)) (o_y U (Bb (T U) (T U) runUnderlying42 sizeOf3 (by omega) (by first | exact rfl | exact (A1 (w0 := w0) (enc := encRI) (sz := 1) (e := 42) (X := []) (fun _ => rfl) hd7).b (i := k) (by omega) | exact hSk.b (i := j) (by omega) | exact hSk.b (i := i) (by omega) | exact (A1 (w0 := w0) (enc := encRQ) (sz := 1) (e := 42) (X := []) (fun _ => rfl) ho2).b (i := (gd (gd S1 k).l j).toNat) (by omega) | exact hnA.b (i := i) (by omega) | exact (A1 (w0 := w0) (enc := encRx) (sz := 3) (e := 24) (X := []) (fun _ => rfl) ho1).b (i := gd nx i) hnx)) ?_ U Ah) U Ah
    refine o_y U (Aj (T U) isAgg3 (by first | exact c_o | exact cell1 ((hSk.mono sbt).cs (i := i) (by omega)))) ?_ U Ah
    refine o_y U (Av (.cons (T U) (.cons (T U) .nil)) call59 (fun H' hs => hasZ_s E.pe.last E.q2 E.c2 (hE.a2.mono (List.Sublist.trans sbt hs)) (by omega) (gd (gd S1 k).l i))) ?_ U Ah
    refine o_y U (Ad (T U)) (B3 U (Af (Ae (Bl [(2, _), (4, _), (5, _), (6, _), (7, _), (8, _), (17, _), (18, _), (19, _)] ⟨Aa U, Aa U, Aa U, Aa U, Aa U, Aa U, Aa U, Aa U, Aa U, trivial⟩ (Ab (y_ (Ac (T U)) (y_ (Ac (T U)) ?_ U) U)))))) U Ah
    first | refine Cb (s := 153) (Aa U) (fun c153 => ?_) (fun c153 => ?_) | refine Cu (s := 153) (Aa U) (fun c153 => ?_) (fun c153 => ?_)
    ·refine Cv (y_ (Az (T U) Ak) (y_ (Ad (T U)) (Af (Bi (Ae (Ab (y_ (Ac (T U)) (y_ (Bt (T U) Ak (by omega)) ?_ U) U))))) U) U) U U U U
     refine y_ (Ad (T U)) (Af ?_) U
     refine Bk ((i + 1, true)) ?_ ?_ ⟨(by first | exact Aa U | (refine Ai (Aa U) (vint ?_); omega) | (refine Ai (Aa U) ?_; simp; done) | (refine Ai (Aa U) ?_; exact by rw [htk2]) | (refine Ai (Aa U) ?_; exact by rw [hstk]) | (refine Ai (Aa U) ?_; exact by rw [hrw2])), (by first | exact Aa U | (refine Ai (Aa U) (vint ?_); omega) | (refine Ai (Aa U) ?_; simp; done) | (refine Ai (Aa U) ?_; exact by rw [htk2]) | (refine Ai (Aa U) ?_; exact by rw [hstk]) | (refine Ai (Aa U) ?_; exact by rw [hrw2])), trivial⟩ ⟨Aa U, Aa U, Aa U, Aa U, Aa U, Aa U, trivial⟩ ?_
     ·refine ⟨by omega, ?_⟩
      rw [any_take (by omega), ← Bool.or_assoc, ← hb, c153]; rfl
     ·first | omega | (simp only []; omega)
     ·exact sbt
    ·refine Be (Ac (T U)) U (Ar U U (Aa U)) (y_ (A9 (T U) (T U)) (y_ (Ad (T U)) (Af (Bi (Ae (Ab (y_ (Ac (T U)) (y_ (Bt (T U) Ak (by omega)) ?_ U) U))))) U) U)
     refine y_ (Ad (T U)) (Af ?_) U
     refine Bk ((i + 1, decide (gd (gd S1 k).l i ∈ toInts E.pe.last))) ?_ ?_ ⟨(by first | exact Aa U | (refine Ai (Aa U) (vint ?_); omega) | (refine Ai (Aa U) ?_; simp; done) | (refine Ai (Aa U) ?_; exact by rw [htk2]) | (refine Ai (Aa U) ?_; exact by rw [hstk]) | (refine Ai (Aa U) ?_; exact by rw [hrw2])), (by first | exact Aa U | (refine Ai (Aa U) (vint ?_); omega) | (refine Ai (Aa U) ?_; simp; done) | (refine Ai (Aa U) ?_; exact by rw [htk2]) | (refine Ai (Aa U) ?_; exact by rw [hstk]) | (refine Ai (Aa U) ?_; exact by rw [hrw2])), trivial⟩ ⟨Aa U, Aa U, Aa U, Aa U, Aa U, Aa U, trivial⟩ ?_
     ·refine ⟨by omega, ?_⟩
      rw [any_take (by omega), ← Bool.or_assoc, ← hb, c153]; rfl
     ·first | omega | (simp only []; omega)
     ·exact sbt
   ·refine B2 (Ay (A2 (A3 (Ae (Ab (y_ (Bg (T U) Dd) (y_ (Aj (T U) isAgg27 (by first | exact c_o)) ?_ U) U))))))
    refine y_ (Ac (T U)) (e_ (Al (.cons (T U) .nil) (bs27_1_0 _)) ?_ U) U
    rintro _ _ ⟨n159, rfl, rfl⟩
    refine e_ (B8 (b) (by' := 1) (enc := encB1) (l := acc) (by repeat (first | exact LocL.h | apply LocL.t | apply LocL.a)) (T U) (T U) runUnderlying27 runUnderlying27 sizeOf4 typeInfo4 U zeroValue4 U (fun _ => rfl) U hda (by decide) (by omega)) ?_ U
    rintro _ _ ⟨da', rfl, hoka, rfl⟩
    refine y_ (Bg (T U) Dd) ?_ U
    first | refine A6 (As (T U) (T U) sizeOf27) U Ah ?_ | refine A6 (B5 (T U) (T U) U sizeOf27) U Ah ?_ | refine A6 (Bz (T U) (T U) U sizeOf27) U Ah ?_
    rintro _ _ ⟨rfl, rfl⟩
    refine Af (Bi (Ae (Ab (y_ (Ac (T U)) (y_ (Bt (T U) Ak (by omega)) ?_ U) U))))
    refine y_ (Ad (T U)) (Af ?_) U
    have ha2 : a = nm.length + 1 := by omega
    subst ha2
    have hb2 : b = acR E.pe k (gd S k).l := by rw [hb, List.take_of_length_le (by omega), hS1k]; rfl
    refine Bk ((k + 1, S1, rows ++ [⟨slQ d9, slC d9, (rwR t1.pl E.pe.first nm (gd S k).l (S.map RowI.l) (nm.length + 1)).2⟩], acc ++ [b], d7, dr', da', Ma ++ slH d9 ((rwR t1.pl E.pe.first nm (gd S k).l (S.map RowI.l) (nm.length + 1)).2.flatMap encU) 3)) ?_ ?_ ⟨(by first | exact Aa U | (refine Ai (Aa U) (vint ?_); omega) | (refine Ai (Aa U) ?_; simp; done) | (refine Ai (Aa U) ?_; exact by rw [htk2]) | (refine Ai (Aa U) ?_; exact by rw [hstk]) | (refine Ai (Aa U) ?_; exact by rw [hrw2])), (by first | exact Aa U | (refine Ai (Aa U) (vint ?_); omega) | (refine Ai (Aa U) ?_; simp; done) | (refine Ai (Aa U) ?_; exact by rw [htk2]) | (refine Ai (Aa U) ?_; exact by rw [hstk]) | (refine Ai (Aa U) ?_; exact by rw [hrw2])), trivial⟩ ⟨Aa U, Aa U, Aa U, Aa U, trivial⟩ ?_
    ·refine ⟨⟨by have := (rwR_len t1.pl E.pe.first nm (gd S k).l (S.map RowI.l) (nm.length + 1)).2; rw [← hSm] at this; simp at this; omega, hS12, by simp [hrl], by simp [hacl]⟩, ⟨hd7, by simpa using hokr, by simpa using hoka⟩, hS1.mono (by simp only [List.append_assoc]; exact (List.Sublist.refl _).append (List.sublist_append_right _ _)), ?_, ?_⟩
     ·exact fun x hx X => rowQ_push (fun r hr => hro r hr X) (by simp only [List.append_assoc]; exact hsub.append (List.sublist_append_right _ _)) (by simp only [List.append_assoc]; exact (A1 (w0 := w0) (enc := encU) (sz := 1) (e := 3) (X := X) (fun _ => rfl) hd9).mono (List.sublist_append_right _ _)) x hx
     ·have hlen : (rwR t1.pl E.pe.first nm (gd S k).l (S.map RowI.l) (nm.length + 1)).1.length ≤ 200 := by rw [← hSm]; simpa using hS12
      rw [← hgo, show 201 - k = (200 - k) + 1 by omega, rawGoR_succ, if_pos (by simp; omega), C4 (show k < S.length by omega), if_neg (by omega), show 201 - (k + 1) = 200 - k by omega, List.map_append, hSm, hb2]; rfl
    ·show 201 - (k + 1) < 201 - k; omega
    ·simp only [List.append_assoc, List.length_append, List.length_cons, List.length_nil, Nat.zero_add]; exact sbt
 ·refine B2 (Ay (A2 (A3 (Ae (Ag (Ab (y_ (Am (T U) isAgg29 sizeOf29 U (by first | exact Bf)) ?_ U)))))))
  first | refine A6 (As (T U) (T U) sizeOf29) U Ah ?_
  rintro _ _ ⟨rfl, rfl⟩
  refine y_ (Ad Ak) (Af (Ae (A7 (A8 U (.cellA (Aa U) isAgg29 sizeOf29 U (by first | exact Bf) (.tmp (Aa U) .nil)) ?_)))) U
  have hsome : rawR e nm = some (rows.map RowQ.l, acc) := by rw [hraw, ← hgo, show 201 - k = (200 - k) + 1 by omega, rawGoR_succ, if_neg (by simp; omega)]
  exact ⟨_, ⟨⟨nm, rows, acc, q7, c7, slQ dr, slC dr, slQ da, slC da⟩, M ++ (slH dr (rows.flatMap encRQ) 42 ++ (slH da (acc.flatMap encB1) 4 ++ M7)), ⟨by rw [hsome]; rfl, fun X => ⟨(hA7 X (fun i x hi => by cases hi)).mono (by simp only [List.append_assoc]; exact sbt), ((A1 (w0 := w0) (enc := encRQ) (sz := 1) (e := 42) (X := X) (fun _ => rfl) hdr)).mono (by simp only [List.append_assoc]; exact sbt), ((A1 (w0 := w0) (enc := encB1) (sz := 1) (e := 4) (X := X) (fun _ => rfl) hda)).mono (by simp only [List.append_assoc]; exact sbt), fun r hr => (hro r hr X).mono (by simp only [List.append_assoc]; exact sbt)⟩, (fun r hr => by rw [hsome] at hr; cases hr; rfl), (fun h => by rw [hsome] at h; cases h)⟩, rfl⟩, by simp only [List.append_assoc]; exact sbt⟩
end Go.Proofs.YtkdolgnpkjihpaaGreatDoor
namespace Go.Proofs.YtkdolgnpkjihpaaGreatDoor
open _root_.Go.Proofs.Tryz
open Go.RowKit
set_option linter.unusedVariables false
set_option linter.unusedSimpArgs false
def sgR (m : PM) (b : List Nat) (i : Nat) : List Nat := gd b i :: (gd m.next i).map (gd b)
def sgK (m : PM) (b : List Nat) : Nat → List (List Int) × List Nat
 | 0 => ([], [])
 | i + 1 => (addL (sgK m b i).1 (toInts (sgR m b i)), (sgK m b i).2 ++ [idx (sgK m b i).1 (toInts (sgR m b i))])
theorem sgK_succ (m : PM) (b : List Nat) (i : Nat) : sgK m b (i + 1) = (addL (sgK m b i).1 (toInts (sgR m b i)), (sgK m b i).2 ++ [idx (sgK m b i).1 (toInts (sgR m b i))]) := rfl
theorem sgK_len (m : PM) (b : List Nat) : ∀ i, (sgK m b i).2.length = i ∧ (sgK m b i).1.length ≤ i
 | 0 => ⟨rfl, Nat.le_refl _⟩
 | i + 1 => by
  obtain ⟨h1, h2⟩ := sgK_len m b i
  rw [sgK_succ]
  refine ⟨by simp [h1], ?_⟩
  simp only [addL]; split
  ·omega
  ·simp; omega
def clR (m : PM) : Nat → List Nat → Nat → List Nat
 | 0, b, _ => b
 | f + 1, b, c => if c < (sgK m b m.next.length).1.length then clR m f (sgK m b m.next.length).2 (sgK m b m.next.length).1.length else (sgK m b m.next.length).2
theorem clR_succ (m : PM) (f : Nat) (b : List Nat) (c : Nat) : clR m (f + 1) b c = if c < (sgK m b m.next.length).1.length then clR m f (sgK m b m.next.length).2 (sgK m b m.next.length).1.length else (sgK m b m.next.length).2 := rfl
def classesR (m : PM) : List Nat := clR m 201 (initB m) 0
theorem classes_s {w0 : World} {H : List (Nat × Obj)} (m : Mc) (hm : McOk w0 H m) (hp : PMok m.pl) (hnl : m.names.length ≤ 90001) :
  FSpec Tryz.prog w0 110 #[.agg (encMc m).toArray] H (fun v H' => ∃ (q : Option Addr) (c : Nat) (M : List (Nat × Obj)), (v = .slice q m.rows.length c ∧ (classesR m.pl).length = m.rows.length ∧ Arr w0 (M ++ H) q 1 encU (classesR m.pl)) ∧ H' = M ++ H) := by
 refine Bc Tryz.func110 U ntmps110 U ?_
 have hf := hp.few
 have hfl : m.pl.next.length = m.rows.length := List.length_map ..
 have hs := hp.some'
 have hal : m.acc.length = m.rows.length := by have := hp.acc; rw [hfl] at this; exact this
 refine Ag (Ab (e_ (Bj (T U) cs_) ?_ U))
 rintro _ _ ⟨n1, rfl, rfl⟩
 refine y_ (Ad Ak) (Af (Ae (Ag (Ab (y_ (Bg (T U) C2) (y_ (Aj (T U) isAgg26 (by first | exact c_o)) ?_ U) U))))) U
 refine y_ (Bn (T U) runUnderlying26) (e_ (eff_makeSlice (by' := 8) (k := m.rows.length) (T U) runUnderlying42 sizeOf3 typeInfo3 U zeroValue3 U (by omega) (by omega)) ?_ U) U
 rintro _ _ ⟨n16, rfl, rfl⟩
 refine y_ (Ad (T U)) (Af (Ae (Ag (Ag (Ab (y_ (Ad Ak) (Af (Ae (Aw ?_))) U)))))) U
 refine Cd (X := Nat) (V := fun k => [(4, .int .i64 (k : Nat))]) (C := [(1, _), (3, _)]) (G := fun k => (n16, Cl (((m.acc.take k).map bit).flatMap encU ++ List.replicate (m.rows.length - ((m.acc.take k).map bit).length) (.int .i64 0)) 3) :: (n1, Cl (encMc m) 29) :: H) (φ := fun k => k ≤ m.rows.length) (μ := fun k => m.rows.length - k) (x0 := 0) ?_ ⟨Aa U, Aa U, trivial⟩ ⟨(by first | exact Aa U | (refine Ai (Aa U) (vint ?_); omega) | (refine Ai (Aa U) ?_; simp; done) | (refine Ai (Aa U) ?_; exact by rw [hsg]) | (refine Ai (Aa U) ?_; exact by rw [hSl]; exact vbool (decide_eq_decide.2 Int.ofNat_lt)) | (refine Ai (Aa U) ?_; exact by rw [hSl])), trivial⟩ sb0 ?_
 ·exact Nat.zero_le _
 rintro k hk
 refine Ag (Ag (Ab (y_ (Ac (T U)) (y_ (Ac (T U)) (y_ (Bn (T U) runUnderlying42) (y_ (B1 (T U) (T U)) (Af (Ae ?_)) U) U) U) U)))
 first | refine Ao (Aa U) (fun c20 => ?_) (fun c20 => ?_) | refine A5 (Aa U) (fun c20 => ?_) (fun c20 => ?_)
 ·have hkl : k < m.rows.length := by omega
  have hbt := bit_take (l := m.acc) (k := k) (by omega)
  refine A4 (Ae (Ag (Aw (Ag (Ab (y_ (Bg (T U) Dd) (y_ (Aj (T U) isAgg27 (by first | exact c_o)) ?_ U) U))))))
  refine y_ (Ac (T U)) (y_ (Bb (T U) (T U) runUnderlying27 sizeOf4 (by omega) (by first | exact rfl | exact hm.a3.b (i := k) (by omega) | exact hbA.b (i := i) (by omega) | exact hm.a2.b (i := i) (by omega) | exact (hm.r (gd m.rows i) (Ax (by omega))).b (i := a) (by omega) | exact hbA.b (i := gd (gd m.rows i).l a) (by omega))) ?_ U) U
  refine y_ (Aj (T U) isAgg4 (by first | exact c_o | exact cell1 ((hm.a3.mono sbt).cs (i := k) (by omega)))) ?_ U
  refine Af (Ae ?_)
  first | refine Ao (Aa U) (fun c27 => ?_) (fun c27 => ?_) | refine A5 (Aa U) (fun c27 => ?_) (fun c27 => ?_)
  ·have hbit : ((m.acc.take (k + 1)).map bit) = ((m.acc.take k).map bit) ++ [1] := by rw [hbt, c27]; rfl
   refine Ab (y_ (Ac (T U)) (y_ (Ac (T U)) (y_ (Bb (T U) (T U) runUnderlying42 sizeOf3 (by omega) (by first | exact rfl | exact hm.a3.b (i := k) (by omega) | exact hbA.b (i := i) (by omega) | exact hm.a2.b (i := i) (by omega) | exact (hm.r (gd m.rows i) (Ax (by omega))).b (i := a) (by omega) | exact hbA.b (i := gd (gd m.rows i).l a) (by omega))) ?_ U) U) U)
   refine e_ (eff_sRow (m := m.rows.length) (v := 1) ((m.acc.take k).map bit) (by simp; omega) (T U) Ak sizeOf3 (by simp; omega) (by (repeat (first | exact Upd.h | apply Upd.t | apply Ec)); done)) ?_ U
   rintro _ _ ⟨rfl, rfl⟩
   refine Af (Bi (Ae (Ab (y_ (Ac (T U)) (y_ (Bt (T U) Ak (by omega)) ?_ U) U))))
   refine y_ (Ad (T U)) (Af ?_) U
   refine Bk (k + 1) ?_ ?_ ⟨(by first | exact Aa U | (refine Ai (Aa U) (vint ?_); omega) | (refine Ai (Aa U) ?_; simp; done) | (refine Ai (Aa U) ?_; exact by rw [hsg]) | (refine Ai (Aa U) ?_; exact by rw [hSl]; exact vbool (decide_eq_decide.2 Int.ofNat_lt)) | (refine Ai (Aa U) ?_; exact by rw [hSl])), trivial⟩ ⟨Aa U, Aa U, trivial⟩ ?_
   ·show k + 1 ≤ _; omega
   ·first | omega | (simp only []; omega)
   ·simp only [hbit, List.length_append, List.length_cons, List.length_nil, Nat.zero_add]; exact sbt
  ·have hbit : ((m.acc.take (k + 1)).map bit) = ((m.acc.take k).map bit) ++ [0] := by rw [hbt, c27]; rfl
   rw [row_zero ((m.acc.take k).map bit) m.rows.length (by simp; omega)]
   refine A4 (Bi (Ae (Ab (y_ (Ac (T U)) (y_ (Bt (T U) Ak (by omega)) ?_ U) U))))
   refine y_ (Ad (T U)) (Af ?_) U
   refine Bk (k + 1) ?_ ?_ ⟨(by first | exact Aa U | (refine Ai (Aa U) (vint ?_); omega) | (refine Ai (Aa U) ?_; simp; done) | (refine Ai (Aa U) ?_; exact by rw [hsg]) | (refine Ai (Aa U) ?_; exact by rw [hSl]; exact vbool (decide_eq_decide.2 Int.ofNat_lt)) | (refine Ai (Aa U) ?_; exact by rw [hSl])), trivial⟩ ⟨Aa U, Aa U, trivial⟩ ?_
   ·show k + 1 ≤ _; omega
   ·first | omega | (simp only []; omega)
   ·simp only [hbit, List.length_append, List.length_cons, List.length_nil, Nat.zero_add]; exact sbt
 ·have hk2 : k = m.rows.length := by omega
  have e1 : ((m.acc.take k).map bit) = initB m.pl := by rw [hk2, ← hal, List.take_length]; rfl
  have e2 : (initB m.pl).length = m.rows.length := by unfold initB; rw [List.length_map]; exact hal
  simp only [e1, e2, Nat.sub_self, List.replicate_zero, List.append_nil]
  refine B2 (Ay (A2 (A3 (Ae (Ag (Ab (y_ (Ad Ak) (Af (Ae (Ag (Ag (Ab (y_ (Ad Ak) (Af (Ae (Aw ?_))) U)))))) U)))))))
  refine Cd (X := Nat × List Nat × Nat × Bool × Option Addr × Nat × List (Nat × Obj)) (V := fun ⟨f, b, cnt, more, qb, cb, M⟩ => [(3, .slice qb m.rows.length cb), (5, .int .i64 (cnt : Nat)), (6, .bool more)]) (C := [(1, _)]) (G := fun ⟨f, b, cnt, more, qb, cb, M⟩ => M ++ ((n1, Cl (encMc m) 29) :: H)) (φ := fun ⟨f, b, cnt, more, qb, cb, M⟩ => b.length = m.rows.length ∧ Arr w0 (M ++ H) qb 1 encU b ∧ (more = true → clR m.pl f b cnt = classesR m.pl ∧ cnt ≤ m.rows.length ∧ 201 ≤ f + cnt) ∧ (more = false → b = classesR m.pl)) (μ := fun ⟨f, b, cnt, more, qb, cb, M⟩ => bif more then f + 1 else 0) (x0 := (201, initB m.pl, 0, true, some ⟨n16, 0, none⟩, m.rows.length, [(n16, Cl ((initB m.pl).flatMap encU) 3)])) ?_ ⟨Aa rfl, trivial⟩ ⟨(by first | exact Aa rfl | (refine Ai (Aa rfl) (vint ?_); omega) | (refine Ai (Aa rfl) ?_; simp; done) | (refine Ai (Aa rfl) ?_; exact by rw [hsg]) | (refine Ai (Aa rfl) ?_; exact by rw [hSl]; exact vbool (decide_eq_decide.2 Int.ofNat_lt)) | (refine Ai (Aa rfl) ?_; exact by rw [hSl])), (by first | exact Aa rfl | (refine Ai (Aa rfl) (vint ?_); omega) | (refine Ai (Aa rfl) ?_; simp; done) | (refine Ai (Aa rfl) ?_; exact by rw [hsg]) | (refine Ai (Aa rfl) ?_; exact by rw [hSl]; exact vbool (decide_eq_decide.2 Int.ofNat_lt)) | (refine Ai (Aa rfl) ?_; exact by rw [hSl])), (by first | exact Aa rfl | (refine Ai (Aa rfl) (vint ?_); omega) | (refine Ai (Aa rfl) ?_; simp; done) | (refine Ai (Aa rfl) ?_; exact by rw [hsg]) | (refine Ai (Aa rfl) ?_; exact by rw [hSl]; exact vbool (decide_eq_decide.2 Int.ofNat_lt)) | (refine Ai (Aa rfl) ?_; exact by rw [hSl])), trivial⟩ sb0 ?_
  ·exact ⟨e2, C0 (fun _ => rfl) U Bs, fun _ => ⟨rfl, Nat.zero_le _, Nat.le_refl _⟩, fun h => by cases h⟩
  rintro ⟨f, b, cnt, more, qb, cb, M⟩ ⟨hbl, hbA, hmt, hmf⟩
  refine Ag (Ag (Ab (y_ (Ac (T U)) (Af (Ae ?_)) U)))
  first | refine Ao (Aa U) (fun c31 => ?_) (fun c31 => ?_) | refine A5 (Aa U) (fun c31 => ?_) (fun c31 => ?_)
  ·subst c31
   obtain ⟨hcl, hcn, hfc⟩ := hmt rfl
   obtain ⟨f, rfl⟩ : ∃ g, f = g + 1 := ⟨f - 1, by omega⟩
   refine A4 (Ae (Aw (Ag (Ab (y_ (Ad Ak) (Af (Ae (Ag (Ab (y_ (Ac (T U)) (y_ (Bn (T U) runUnderlying42) (e_ (eff_makeSlice (by' := 8) (k := m.rows.length) (T U) runUnderlying42 sizeOf3 typeInfo3 U zeroValue3 U (by omega) (by omega)) ?_ U) U) U))))) U)))))
   rintro _ _ ⟨n34, rfl, rfl⟩
   refine y_ (Ad (T U)) (Af (Ae (Ag (Ag (Ab (y_ (Ad Ak) (Af (Ae (Aw ?_))) U)))))) U
   refine Cd (X := Nat × List RowI × Sl × List (Nat × Obj)) (V := fun ⟨i, S, d7, Ma⟩ => [(9, .int .i64 (i : Nat)), (7, slV d7 S.length)]) (C := [(1, _), (3, _), (5, _), (8, _)]) (G := fun ⟨i, S, d7, Ma⟩ => Ma ++ (slH d7 (S.flatMap encRI) 42 ++ ((n34, Cl ((sgK m.pl b i).2.flatMap encU ++ List.replicate (m.rows.length - (sgK m.pl b i).2.length) (.int .i64 0)) 3) :: (M ++ ((n1, Cl (encMc m) 29) :: H))))) (φ := fun ⟨i, S, d7, Ma⟩ => i ≤ m.rows.length ∧ S.map RowI.l = (sgK m.pl b i).1 ∧ SlOk d7 S.length 1 ∧ ∀ r ∈ S, Arr w0 (Ma ++ H) r.q 1 encI r.l ∧ r.l.length ≤ 100000) (μ := fun ⟨i, S, d7, Ma⟩ => m.rows.length - i) (x0 := (0, [], .nil, [])) ?_ ⟨Aa rfl, Aa rfl, Aa rfl, Aa rfl, trivial⟩ ⟨(by first | exact Aa rfl | (refine Ai (Aa rfl) (vint ?_); omega) | (refine Ai (Aa rfl) ?_; simp; done) | (refine Ai (Aa rfl) ?_; exact by rw [hsg]) | (refine Ai (Aa rfl) ?_; exact by rw [hSl]; exact vbool (decide_eq_decide.2 Int.ofNat_lt)) | (refine Ai (Aa rfl) ?_; exact by rw [hSl])), (by first | exact Aa rfl | (refine Ai (Aa rfl) (vint ?_); omega) | (refine Ai (Aa rfl) ?_; simp; done) | (refine Ai (Aa rfl) ?_; exact by rw [hsg]) | (refine Ai (Aa rfl) ?_; exact by rw [hSl]; exact vbool (decide_eq_decide.2 Int.ofNat_lt)) | (refine Ai (Aa rfl) ?_; exact by rw [hSl])), trivial⟩ sb0 ?_
   ·exact ⟨Nat.zero_le _, rfl, rfl, fun r hr => by cases hr⟩
   rintro ⟨i, S, d7, Ma⟩ ⟨hi, hSm, hd7, hSA⟩
   have hsl := sgK_len m.pl b i
   have hSl0 : S.length = (sgK m.pl b i).1.length := by rw [← hSm, List.length_map]
   refine Ag (Ag (Ab (y_ (Ac (T U)) (y_ (Ac (T U)) (y_ (Bn (T U) runUnderlying42) (y_ (B1 (T U) (T U)) (Af (Ae ?_)) U) U) U) U)))
   first | refine Ao (Aa U) (fun c38 => ?_) (fun c38 => ?_) | refine A5 (Aa U) (fun c38 => ?_) (fun c38 => ?_)
   ·have hin : i < m.rows.length := by omega
    obtain ⟨hi1, hi2⟩ := pm_row hp hin
    have hnx3 : (gd m.pl.next i).length ≤ 90002 := by rw [show m.pl.next = m.rows.map RowQ.l from rfl, gd_rows]; omega
    refine A4 (Ae (Ag (Aw (Ag (Ab (y_ (Ac (T U)) (y_ (Ac (T U)) (y_ (Bb (T U) (T U) runUnderlying42 sizeOf3 (by omega) (by first | exact rfl | exact hm.a3.b (i := k) (by omega) | exact hbA.b (i := i) (by omega) | exact hm.a2.b (i := i) (by omega) | exact (hm.r (gd m.rows i) (Ax (by omega))).b (i := a) (by omega) | exact hbA.b (i := gd (gd m.rows i).l a) (by omega))) ?_ U) U) U))))))
    refine y_ (Aj (T U) isAgg3 (by first | exact c_o | exact cell1 ((hbA.mono sbt).cs (i := i) (by omega)))) ?_ U
    refine e_ (Al (.cons (T U) .nil) (Ck _)) ?_ U
    rintro _ _ ⟨n45, rfl, rfl⟩
    refine y_ (Ad (T U)) (Af (Ae (Ag (Ag (Ab (y_ (Ad Ak) (Af (Ae (Aw ?_))) U)))))) U
    refine Cd (X := Nat × Sl) (V := fun ⟨a, ds⟩ => [(11, .int .i64 (a : Nat)), (10, slV ds (gd b i :: ((gd m.rows i).l.take a).map (gd b)).length)]) (C := [(1, _), (3, _), (5, _), (7, _), (8, _), (9, _)]) (G := fun ⟨a, ds⟩ => slH ds ((gd b i :: ((gd m.rows i).l.take a).map (gd b)).flatMap encU) 3 ++ (Ma ++ (slH d7 (S.flatMap encRI) 42 ++ ((n34, Cl ((sgK m.pl b i).2.flatMap encU ++ List.replicate (m.rows.length - (sgK m.pl b i).2.length) (.int .i64 0)) 3) :: (M ++ ((n1, Cl (encMc m) 29) :: H)))))) (φ := fun ⟨a, ds⟩ => a ≤ (gd m.rows i).l.length ∧ SlOk ds (gd b i :: ((gd m.rows i).l.take a).map (gd b)).length 1) (μ := fun ⟨a, ds⟩ => (gd m.rows i).l.length - a) (x0 := (0, .blk n45 1 [])) ?_ ⟨Aa rfl, Aa rfl, Aa rfl, Aa rfl, Aa rfl, Aa rfl, trivial⟩ ⟨(by first | exact Aa rfl | (refine Ai (Aa rfl) (vint ?_); omega) | (refine Ai (Aa rfl) ?_; simp; done) | (refine Ai (Aa rfl) ?_; exact by rw [hsg]) | (refine Ai (Aa rfl) ?_; exact by rw [hSl]; exact vbool (decide_eq_decide.2 Int.ofNat_lt)) | (refine Ai (Aa rfl) ?_; exact by rw [hSl])), (by first | exact Aa rfl | (refine Ai (Aa rfl) (vint ?_); omega) | (refine Ai (Aa rfl) ?_; simp; done) | (refine Ai (Aa rfl) ?_; exact by rw [hsg]) | (refine Ai (Aa rfl) ?_; exact by rw [hSl]; exact vbool (decide_eq_decide.2 Int.ofNat_lt)) | (refine Ai (Aa rfl) ?_; exact by rw [hSl])), trivial⟩ sb0 ?_
    ·exact ⟨Nat.zero_le _, Nat.le_refl _, rfl⟩
    rintro ⟨a, ds⟩ ⟨ha, hds⟩
    refine Ag (Ag (Ab (y_ (Ac (T U)) (y_ (Bg (T U) C2) (y_ (Aj (T U) isAgg26 (by first | exact c_o)) ?_ U) U) U)))
    refine y_ (Ac (T U)) (y_ (Bb (T U) (T U) runUnderlying26 sizeOf42 (by omega) (by first | exact rfl | exact hm.a3.b (i := k) (by omega) | exact hbA.b (i := i) (by omega) | exact hm.a2.b (i := i) (by omega) | exact (hm.r (gd m.rows i) (Ax (by omega))).b (i := a) (by omega) | exact hbA.b (i := gd (gd m.rows i).l a) (by omega))) ?_ U) U
    refine y_ (Aj (T U) isAgg42 (by first | exact c_o | exact cell1 ((hm.a2.mono sbt).cs (i := i) (by omega)))) ?_ U
    refine y_ (Bn (T U) runUnderlying42) (y_ (B1 (T U) (T U)) (Af (Ae ?_)) U) U
    first | refine Ao (Aa U) (fun c53 => ?_) (fun c53 => ?_) | refine A5 (Aa U) (fun c53 => ?_) (fun c53 => ?_)
    ·have hi3 := hi2 a (by omega)
     refine A4 (Ae (Ag (Aw (Ab (y_ (Ac (T U)) (y_ (Ac (T U)) (y_ (Bg (T U) C2) (y_ (Aj (T U) isAgg26 (by first | exact c_o)) ?_ U) U) U) U)))))
     refine y_ (Ac (T U)) (y_ (Bb (T U) (T U) runUnderlying26 sizeOf42 (by omega) (by first | exact rfl | exact hm.a3.b (i := k) (by omega) | exact hbA.b (i := i) (by omega) | exact hm.a2.b (i := i) (by omega) | exact (hm.r (gd m.rows i) (Ax (by omega))).b (i := a) (by omega) | exact hbA.b (i := gd (gd m.rows i).l a) (by omega))) ?_ U) U
     refine y_ (Aj (T U) isAgg42 (by first | exact c_o | exact cell1 ((hm.a2.mono sbt).cs (i := i) (by omega)))) ?_ U
     refine y_ (Ac (T U)) (y_ (Bb (T U) (T U) runUnderlying42 sizeOf3 (by omega) (by first | exact rfl | exact hm.a3.b (i := k) (by omega) | exact hbA.b (i := i) (by omega) | exact hm.a2.b (i := i) (by omega) | exact (hm.r (gd m.rows i) (Ax (by omega))).b (i := a) (by omega) | exact hbA.b (i := gd (gd m.rows i).l a) (by omega))) ?_ U) U
     refine y_ (Aj (T U) isAgg3 (by first | exact c_o | exact cell1 (((hm.r (gd m.rows i) (Ax (by omega))).mono sbt).cs (i := a) (by omega)))) ?_ U
     refine y_ (Bb (T U) (T U) runUnderlying42 sizeOf3 (by omega) (by first | exact rfl | exact hm.a3.b (i := k) (by omega) | exact hbA.b (i := i) (by omega) | exact hm.a2.b (i := i) (by omega) | exact (hm.r (gd m.rows i) (Ax (by omega))).b (i := a) (by omega) | exact hbA.b (i := gd (gd m.rows i).l a) (by omega))) ?_ U
     refine y_ (Aj (T U) isAgg3 (by first | exact c_o | exact cell1 ((hbA.mono sbt).cs (i := gd (gd m.rows i).l a) (by omega)))) ?_ U
     refine e_ (Al (.cons (T U) .nil) (Ck _)) ?_ U
     rintro _ _ ⟨n68, rfl, rfl⟩
     refine e_ (B8 (gd b (gd (gd m.rows i).l a)) (by' := 8) (enc := encU) (l := (gd b i :: ((gd m.rows i).l.take a).map (gd b))) (by repeat (first | exact LocL.h | apply LocL.t | apply LocL.a)) (T U) (T U) runUnderlying42 runUnderlying42 sizeOf3 typeInfo3 U zeroValue3 U (fun _ => rfl) U hds (by decide) (by simp; omega)) ?_ U
     rintro _ _ ⟨ds', rfl, hds', rfl⟩
     refine y_ (Ad (T U)) (Af (Bi (Ae (Bl [(1, _), (3, _), (5, _), (7, _), (8, _), (9, _), (10, _), (11, _)] ⟨Aa U, Aa U, Aa U, Aa U, Aa U, Aa U, Aa U, Aa U, trivial⟩ (Ab (y_ (Ac (T U)) (y_ (Bt (T U) Ak (by omega)) ?_ U) U)))))) U
     refine y_ (Ad (T U)) (Af ?_) U
     have hsg : (gd b i :: ((gd m.rows i).l.take (a + 1)).map (gd b)) = (gd b i :: ((gd m.rows i).l.take a).map (gd b)) ++ [gd b (gd (gd m.rows i).l a)] := by rw [Dz (by omega), List.map_append]; rfl
     refine Bk ((a + 1, ds')) ?_ ?_ ⟨(by first | exact Aa U | (refine Ai (Aa U) (vint ?_); omega) | (refine Ai (Aa U) ?_; simp; done) | (refine Ai (Aa U) ?_; exact by rw [hsg]) | (refine Ai (Aa U) ?_; exact by rw [hSl]; exact vbool (decide_eq_decide.2 Int.ofNat_lt)) | (refine Ai (Aa U) ?_; exact by rw [hSl])), (by first | exact Aa U | (refine Ai (Aa U) (vint ?_); omega) | (refine Ai (Aa U) ?_; simp; done) | (refine Ai (Aa U) ?_; exact by rw [hsg]) | (refine Ai (Aa U) ?_; exact by rw [hSl]; exact vbool (decide_eq_decide.2 Int.ofNat_lt)) | (refine Ai (Aa U) ?_; exact by rw [hSl])), trivial⟩ ⟨Aa U, Aa U, Aa U, Aa U, Aa U, Aa U, trivial⟩ ?_
     ·exact ⟨by omega, by rw [hsg]; exact hds'⟩
     ·show _ - (a + 1) < _ - a; omega
     ·simp only [hsg]; exact sbt
    ·have hsge : (gd b i :: ((gd m.rows i).l.take a).map (gd b)) = sgR m.pl b i := by rw [List.take_of_length_le (by omega)]; show _ = gd b i :: (gd (m.rows.map RowQ.l) i).map (gd b); rw [C4 hin]
     simp only [hsge] at hds ⊢
     refine B2 (Ay (A2 (A3 (Ae (Ag (Ab (y_ (Ac (T U)) (y_ (Ac (T U)) (y_ (Av (.cons (T U) (.cons (T U) .nil)) call109 (fun H' hs => place_u S (slQ d7) (slC d7) ((A1 (w0 := w0) (enc := encRI) (sz := 1) (e := 42) (X := H) (fun _ => rfl) hd7).mono (List.Sublist.trans sbt hs)) (fun r hr => (hSA r hr).1.mono (List.Sublist.trans sbt hs)) (fun r hr => (hSA r hr).2) (by omega) (sgR m.pl b i) (slQ ds) (slC ds) ((A1 (w0 := w0) (enc := encU) (sz := 1) (e := 3) (X := H) (fun _ => rfl) hds).mono (List.Sublist.trans sbt hs)))) ?_ U) U) U)))))))
     refine y_ (Ad (T U)) (Af (Ae ?_)) U
     refine Du (X := List RowI × Sl × List (Nat × Obj)) (V := fun ⟨S2, d8, Mb⟩ => [(7, slV d8 S2.length)]) (C := [(1, _), (3, _), (5, _), (8, _), (9, _), (12, _)]) (G := fun ⟨S2, d8, Mb⟩ => Mb ++ (slH d8 (S2.flatMap encRI) 42 ++ ((n34, Cl ((sgK m.pl b i).2.flatMap encU ++ List.replicate (m.rows.length - (sgK m.pl b i).2.length) (.int .i64 0)) 3) :: (M ++ ((n1, Cl (encMc m) 29) :: H))))) (φ := fun ⟨S2, d8, Mb⟩ => S2.map RowI.l = addL (S.map RowI.l) (toInts (sgR m.pl b i)) ∧ SlOk d8 S2.length 1 ∧ ∀ r ∈ S2, Arr w0 (Mb ++ H) r.q 1 encI r.l ∧ r.l.length ≤ 100000) ⟨Aa rfl, Aa rfl, Aa rfl, Aa rfl, Aa rfl, Aa rfl, trivial⟩ ?_ ?_
     ·refine Ag (Ab (y_ (Ac (T U)) (y_ (Ac (T U)) (y_ (Bn (T U) runUnderlying26) (y_ (By (T U) (T U)) (Af (Ae (Bl [(1, _), (3, _), (5, _), (7, _), (8, _), (9, _), (10, _), (12, _), (76, _)] ⟨Aa U, Aa U, Aa U, Aa U, Aa U, Aa U, Aa U, Aa U, Aa U, trivial⟩ ?_))) U) U) U) U))
      first | refine Ao (Aa U) (fun c76 => ?_) (fun c76 => ?_) | refine A5 (Aa U) (fun c76 => ?_) (fun c76 => ?_)
      ·refine Ab (y_ (Ac (T U)) (y_ (Ac (T U)) (e_ (Al (.cons (T U) .nil) (bs26_1_0 _ _ _)) ?_ U) U) U)
       rintro _ _ ⟨n79, rfl, rfl⟩
       refine e_ (B8 ((⟨slQ ds, slC ds, toInts (sgR m.pl b i)⟩ : RowI)) (by' := 24) (enc := encRI) (l := S) (by repeat (first | exact LocL.h | apply LocL.t | apply LocL.a)) (T U) (T U) runUnderlying26 runUnderlying26 sizeOf42 typeInfo42 U zeroValue42 U (fun _ => rfl) U hd7 (by decide) (by omega) (hn := by rw [rowI_u]; exact Bf)) ?_ U
       rintro _ _ ⟨d8', rfl, hok8, rfl⟩
       refine y_ (Ad (T U)) (Af ?_) U
       refine Bp ((S ++ [⟨slQ ds, slC ds, toInts (sgR m.pl b i)⟩], d8', slH ds ((sgR m.pl b i).flatMap encU) 3 ++ Ma)) ?_ ⟨(by first | exact Aa U | (refine Ai (Aa U) (vint ?_); omega) | (refine Ai (Aa U) ?_; simp; done) | (refine Ai (Aa U) ?_; exact by rw [hsg]) | (refine Ai (Aa U) ?_; exact by rw [hSl]; exact vbool (decide_eq_decide.2 Int.ofNat_lt)) | (refine Ai (Aa U) ?_; exact by rw [hSl])), trivial⟩ ⟨Aa U, Aa U, Aa U, Aa U, Aa U, Aa U, trivial⟩ (by simp only [List.append_assoc]; exact sbt)
       first | exact ⟨by rw [addL_yes (by simp; omega), List.map_append]; rfl, hok8, fun r hr => by
        rcases List.mem_append.1 hr with e | e
        ·exact ⟨(hSA r e).1.mono (by rw [List.append_assoc]; exact List.sublist_append_right _ _), (hSA r e).2⟩
        ·simp at e; subst e; exact ⟨by rw [List.append_assoc]; exact arrUI (A1 (fun _ => rfl) hds), by simp [toInts, sgR, gd_rows]; omega⟩⟩ | exact ⟨by rw [addL_no (by simp; omega)], hd7, fun r e => ⟨(hSA r e).1.mono (by rw [List.append_assoc]; exact List.sublist_append_right _ _), (hSA r e).2⟩⟩
      ·refine A4 ?_
       refine Bp ((S, d7, slH ds ((sgR m.pl b i).flatMap encU) 3 ++ Ma)) ?_ ⟨(by first | exact Aa U | (refine Ai (Aa U) (vint ?_); omega) | (refine Ai (Aa U) ?_; simp; done) | (refine Ai (Aa U) ?_; exact by rw [hsg]) | (refine Ai (Aa U) ?_; exact by rw [hSl]; exact vbool (decide_eq_decide.2 Int.ofNat_lt)) | (refine Ai (Aa U) ?_; exact by rw [hSl])), trivial⟩ ⟨Aa U, Aa U, Aa U, Aa U, Aa U, Aa U, trivial⟩ (by simp only [List.append_assoc]; exact sbt)
       first | exact ⟨by rw [addL_yes (by simp; omega), List.map_append]; rfl, hok8, fun r hr => by
        rcases List.mem_append.1 hr with e | e
        ·exact ⟨(hSA r e).1.mono (by rw [List.append_assoc]; exact List.sublist_append_right _ _), (hSA r e).2⟩
        ·simp at e; subst e; exact ⟨by rw [List.append_assoc]; exact arrUI (A1 (fun _ => rfl) hds), by simp [toInts, sgR, gd_rows]; omega⟩⟩ | exact ⟨by rw [addL_no (by simp; omega)], hd7, fun r e => ⟨(hSA r e).1.mono (by rw [List.append_assoc]; exact List.sublist_append_right _ _), (hSA r e).2⟩⟩
     rintro ⟨S2, d8, Mb⟩ ⟨hm2, hd8, hSA2⟩
     refine Ab (y_ (Ac (T U)) (y_ (Ac (T U)) (y_ (Ac (T U)) (y_ (Bb (T U) (T U) runUnderlying42 sizeOf3 (by omega) (by first | exact rfl | exact hm.a3.b (i := k) (by omega) | exact hbA.b (i := i) (by omega) | exact hm.a2.b (i := i) (by omega) | exact (hm.r (gd m.rows i) (Ax (by omega))).b (i := a) (by omega) | exact hbA.b (i := gd (gd m.rows i).l a) (by omega))) ?_ U) U) U) U)
     refine e_ (eff_sRow (m := m.rows.length) (v := idx (S.map RowI.l) (toInts (sgR m.pl b i))) (sgK m.pl b i).2 (by omega) (T U) (T U) sizeOf3 (by omega) (by (repeat (first | exact Upd.h | apply Upd.t | apply Ec)); done)) ?_ U
     rintro _ _ ⟨rfl, rfl⟩
     refine Af (Bi (Ae (Ab (y_ (Ac (T U)) (y_ (Bt (T U) Ak (by omega)) ?_ U) U))))
     refine y_ (Ad (T U)) (Af ?_) U
     have hnw : (sgK m.pl b (i + 1)).2 = (sgK m.pl b i).2 ++ [idx (S.map RowI.l) (toInts (sgR m.pl b i))] := by rw [sgK_succ, ← hSm]
     refine Bk ((i + 1, S2, d8, Mb)) ?_ ?_ ⟨(by first | exact Aa U | (refine Ai (Aa U) (vint ?_); omega) | (refine Ai (Aa U) ?_; simp; done) | (refine Ai (Aa U) ?_; exact by rw [hsg]) | (refine Ai (Aa U) ?_; exact by rw [hSl]; exact vbool (decide_eq_decide.2 Int.ofNat_lt)) | (refine Ai (Aa U) ?_; exact by rw [hSl])), (by first | exact Aa U | (refine Ai (Aa U) (vint ?_); omega) | (refine Ai (Aa U) ?_; simp; done) | (refine Ai (Aa U) ?_; exact by rw [hsg]) | (refine Ai (Aa U) ?_; exact by rw [hSl]; exact vbool (decide_eq_decide.2 Int.ofNat_lt)) | (refine Ai (Aa U) ?_; exact by rw [hSl])), trivial⟩ ⟨Aa U, Aa U, Aa U, Aa U, trivial⟩ ?_
     ·exact ⟨by omega, by rw [hm2, sgK_succ, hSm], hd8, hSA2⟩
     ·show _ - (i + 1) < _ - i; omega
     ·simp only [hnw, List.length_append, List.length_cons, List.length_nil, Nat.zero_add]; exact sbt
   ·have hi3 : i = m.rows.length := by omega
    subst hi3
    simp only [hsl.1, Nat.sub_self, List.replicate_zero, List.append_nil]
    refine B2 (Ay (A2 (A3 (Ae (Ag (Ab (y_ (Ac (T U)) (y_ (Bn (T U) runUnderlying26) (y_ (Ac (T U)) (y_ (yl_gtr (T U) (T U)) (y_ (Ad (T U)) (Af (Ae (Ag (Ab (y_ (Ac (T U)) (y_ (Bn (T U) runUnderlying26) (y_ (Ad (T U)) (Af (Ae (Ab (y_ (Ac (T U)) (y_ (Ad (T U)) (Af (Bi ?_)) U) U)))) U) U) U))))) U) U) U) U) U)))))))
    have hSl : S.length = (sgK m.pl b m.rows.length).1.length := by rw [← hSm, List.length_map]
    have hcs := clR_succ m.pl f b cnt
    rw [hfl] at hcs
    refine Bk ((f, (sgK m.pl b m.rows.length).2, (sgK m.pl b m.rows.length).1.length, decide (cnt < (sgK m.pl b m.rows.length).1.length), some ⟨n34, 0, none⟩, m.rows.length, [(n34, Cl ((sgK m.pl b m.rows.length).2.flatMap encU) 3)])) ?_ ?_ ⟨(by first | exact Aa U | (refine Ai (Aa U) (vint ?_); omega) | (refine Ai (Aa U) ?_; simp; done) | (refine Ai (Aa U) ?_; exact by rw [hsg]) | (refine Ai (Aa U) ?_; exact by rw [hSl]; exact vbool (decide_eq_decide.2 Int.ofNat_lt)) | (refine Ai (Aa U) ?_; exact by rw [hSl])), (by first | exact Aa U | (refine Ai (Aa U) (vint ?_); omega) | (refine Ai (Aa U) ?_; simp; done) | (refine Ai (Aa U) ?_; exact by rw [hsg]) | (refine Ai (Aa U) ?_; exact by rw [hSl]; exact vbool (decide_eq_decide.2 Int.ofNat_lt)) | (refine Ai (Aa U) ?_; exact by rw [hSl])), (by first | exact Aa U | (refine Ai (Aa U) (vint ?_); omega) | (refine Ai (Aa U) ?_; simp; done) | (refine Ai (Aa U) ?_; exact by rw [hsg]) | (refine Ai (Aa U) ?_; exact by rw [hSl]; exact vbool (decide_eq_decide.2 Int.ofNat_lt)) | (refine Ai (Aa U) ?_; exact by rw [hSl])), trivial⟩ ⟨Aa U, trivial⟩ ?_
    ·refine ⟨hsl.1, C0 (fun _ => rfl) U Bs, fun h => ?_, fun h => ?_⟩
     ·have h2 := of_decide_eq_true h
      rw [if_pos h2] at hcs
      exact ⟨by rw [← hcs]; exact hcl, hsl.2, by show 201 ≤ f + (sgK m.pl b m.rows.length).1.length; omega⟩
     ·have h2 := of_decide_eq_false h
      rw [if_neg h2] at hcs
      show (sgK m.pl b m.rows.length).2 = _; rw [← hcs]; exact hcl
    ·exact (show ∀ x : Bool, (bif x then f + 1 else 0) < f + 1 + 1 from fun x => by cases x <;> simp) _
    ·exact sbt
  ·subst c31
   have hfin := hmf U
   refine B2 (Ay (A2 (A3 (Ae (Ag (Ab (y_ (Ac (T U)) (y_ (Ad (T U)) (Af (Ae (A7 (A8 U (.tmp (Aa U) .nil) ?_)))) U) U)))))))
   exact ⟨_, ⟨qb, cb, M, ⟨rfl, by rw [← hfin]; exact hbl, by rw [← hfin]; exact hbA⟩, rfl⟩, sbt⟩
end Go.Proofs.YtkdolgnpkjihpaaGreatDoor
namespace Go.Proofs.YtkdolgnpkjihpaaGreatDoor
open _root_.Go.Proofs.Tryz
open Go.RowKit
set_option linter.unusedVariables false
set_option linter.unusedSimpArgs false
theorem rleast_s {w0 : World} {H : List (Nat × Obj)} (m : Mc) (hm : McOk w0 H m) (hp : PMok m.pl) (hnl : m.names.length ≤ 90001) :
  FSpec Tryz.prog w0 56 #[.agg (encMc m).toArray] H (fun v H' => ∃ (mc : Mc) (M : List (Nat × Obj)), (v = .agg (encMc mc).toArray ∧ (∀ X, McOk w0 X m → McOk w0 (M ++ X) mc) ∧ mc.pl = numF m.pl (classesR m.pl)) ∧ H' = M ++ H) := by
 refine Bc Tryz.func56 U ntmps56 U ?_
 have hf := hp.few
 have hfl : m.pl.next.length = m.rows.length := List.length_map ..
 have hs := hp.some'
 have hal : m.acc.length = m.rows.length := by have := hp.acc; rw [hfl] at this; exact this
 refine Ag (Ab (e_ (Bj (T U) cs_) ?_ U))
 rintro _ _ ⟨n1, rfl, rfl⟩
 refine e_ (Aq zeroValue29 cs_) ?_ U
 rintro _ _ ⟨n2, rfl, rfl⟩
 refine Af (Ae (Ag (Ab (y_ (Am (T U) isAgg29 sizeOf29 U (by first | exact Bf)) ?_ U))))
 refine e_ (Au (.cons (T U) .nil) call110 (classes_s m (hm.mono sbt) hp hnl)) ?_ U
 rintro _ _ ⟨qc, cc, M3, ⟨rfl, hbl, hC⟩, rfl⟩
 obtain ⟨b, hbe⟩ : ∃ b, b = classesR m.pl := ⟨_, rfl⟩
 simp only [← hbe] at hbl hC ⊢
 refine y_ (Ad (T U)) (Af (Ae (Ag (Ab (y_ (Bm (T U) Dv) (y_ (Aj (T U) isAgg25 (by first | exact c_o)) ?_ U) U))))) U
 refine y_ (Bq (.cons (T U) .nil) (bd29_0 _ _ _)) (e_ (Aq zeroValue29 cs_) ?_ U) U
 rintro _ _ ⟨n4, rfl, rfl⟩
 first | refine A6 (As (T U) (T U) sizeOf29) U Ah ?_
 rintro _ _ ⟨rfl, rfl⟩
 refine Af (Ae (Ag (Ab (e_ (Al (.cons Ak .nil) (Ck _)) ?_ U))))
 rintro _ _ ⟨n16, rfl, rfl⟩
 refine y_ (Ad (T U)) (Af (Ae (Ag (Ag (Ab (y_ (Ad Ak) (Af (Ae (Aw ?_))) U)))))) U
 refine Cd (X := Nat × List Nat × List RowQ × List Bool × Sl × Sl × Sl × List (Nat × Obj)) (V := fun ⟨k, order, rows, acc, d5, dr, da, M⟩ => [(6, .int .i64 (k : Nat)), (5, slV d5 order.length)]) (C := [(1, _), (2, _), (3, _), (4, _)]) (G := fun ⟨k, order, rows, acc, d5, dr, da, M⟩ => M ++ (slH d5 (order.flatMap encU) 3 ++ (slH dr (rows.flatMap encRQ) 42 ++ (slH da (acc.flatMap encB1) 4 ++ ((n4, Cl [.slice m.q1 m.names.length m.c1, slV dr rows.length, slV da acc.length] 29) :: (M3 ++ ((n2, Cl [.slice none 0 0, .slice none 0 0, .slice none 0 0] 29) :: (n1, Cl (encMc m) 29) :: H))))))) (φ := fun ⟨k, order, rows, acc, d5, dr, da, M⟩ => OrdOk m.pl b order ∧ (k ≤ order.length ∧ rows.length = k ∧ acc.length = k) ∧ (SlOk d5 order.length 1 ∧ SlOk dr rows.length 1 ∧ SlOk da acc.length 1) ∧ (∀ r ∈ rows, ∀ X, Arr w0 (M ++ X) r.q 1 encU r.l) ∧ numGo m.pl b (201 - k) k order (rows.map RowQ.l) acc = numGo m.pl b 201 0 [0] [] []) (μ := fun ⟨k, order, rows, acc, d5, dr, da, M⟩ => 201 - k) (x0 := (0, [0], [], [], .blk n16 1 [], .nil, .nil, [])) ?_ ⟨Aa rfl, Aa rfl, Aa rfl, Aa rfl, trivial⟩ ⟨(by first | exact Aa rfl | (refine Ai (Aa rfl) (vint ?_); omega) | (refine Ai (Aa rfl) ?_; simp; done) | (refine Ai (Aa rfl) ?_; exact by rw [hrow]) | (refine Ai (Aa rfl) ?_; exact by rw [hrow2])), (by first | exact Aa rfl | (refine Ai (Aa rfl) (vint ?_); omega) | (refine Ai (Aa rfl) ?_; simp; done) | (refine Ai (Aa rfl) ?_; exact by rw [hrow]) | (refine Ai (Aa rfl) ?_; exact by rw [hrow2])), trivial⟩ sb0 ?_
 ·exact ⟨⟨by simp, fun s hs => by
   simp only [List.mem_cons, List.not_mem_nil, or_false] at hs
   subst hs; exact hp.some'⟩, ⟨Nat.zero_le _, rfl, rfl⟩, ⟨⟨Nat.le_refl _, rfl⟩, rfl, rfl⟩, (fun r hr => by cases hr), rfl⟩
 rintro ⟨k, order, rows, acc, d5, dr, da, M⟩ ⟨hord, ⟨hko, hrl, hacl⟩, ⟨hd5, hdr, hda⟩, hro, hgo⟩
 have hof := hord.few
 refine Ag (Ag (Ab (y_ (Ac (T U)) (y_ (Ac (T U)) (y_ (Bn (T U) runUnderlying42) (y_ (B1 (T U) (T U)) (Af (Ae ?_)) U) U) U) U)))
 first | refine Ao (Aa U) (fun c20 => ?_) (fun c20 => ?_) | refine A5 (Aa U) (fun c20 => ?_) (fun c20 => ?_)
 ·have hokl : gd order k < m.rows.length := by rw [← hfl]; exact hord.lt _ (Ax (by omega))
  obtain ⟨hr1, hr2⟩ := pm_row hp hokl
  have htos : (gd m.pl.next (gd order k)) = (gd m.rows (gd order k)).l := gd_rows _ _
  have htl : ∀ s ∈ (gd m.pl.next (gd order k)), s < m.pl.next.length := fun s hs => by
   rw [htos] at hs
   obtain ⟨j, hj, rfl⟩ := mem_gd.1 hs
   rw [hfl]; exact hr2 j (by omega)
  have htlen : (gd m.pl.next (gd order k)).length = m.names.length + 1 := by rw [htos]; exact hr1
  refine A4 (Ae (Ag (Aw (Ag (Ab (y_ (Ad Ak) (Af (Ae (Ag (Ag (Ab (y_ (Ad Ak) (Af (Ae (Aw ?_))) U)))))) U))))))
  refine Cd (X := Nat × Sl × Sl) (V := fun ⟨a, d5, d7⟩ => [(8, .int .i64 (a : Nat)), (5, slV d5 (numK b (gd m.pl.next (gd order k)) order a).1.length), (7, slV d7 (numK b (gd m.pl.next (gd order k)) order a).2.length)]) (C := [(1, _), (2, _), (3, _), (4, _), (6, _)]) (G := fun ⟨a, d5, d7⟩ => slH d7 ((numK b (gd m.pl.next (gd order k)) order a).2.flatMap encU) 3 ++ (M ++ (slH d5 ((numK b (gd m.pl.next (gd order k)) order a).1.flatMap encU) 3 ++ (slH dr (rows.flatMap encRQ) 42 ++ (slH da (acc.flatMap encB1) 4 ++ ((n4, Cl [.slice m.q1 m.names.length m.c1, slV dr rows.length, slV da acc.length] 29) :: (M3 ++ ((n2, Cl [.slice none 0 0, .slice none 0 0, .slice none 0 0] 29) :: (n1, Cl (encMc m) 29) :: H)))))))) (φ := fun ⟨a, d5, d7⟩ => a ≤ (gd m.pl.next (gd order k)).length ∧ SlOk d5 (numK b (gd m.pl.next (gd order k)) order a).1.length 1 ∧ SlOk d7 (numK b (gd m.pl.next (gd order k)) order a).2.length 1) (μ := fun ⟨a, d5, d7⟩ => (gd m.pl.next (gd order k)).length - a) (x0 := (0, d5, .nil)) ?_ ⟨Aa rfl, Aa rfl, Aa rfl, Aa rfl, Aa rfl, trivial⟩ ⟨(by first | exact Aa rfl | (refine Ai (Aa rfl) (vint ?_); omega) | (refine Ai (Aa rfl) ?_; simp; done) | (refine Ai (Aa rfl) ?_; exact by rw [hrow]) | (refine Ai (Aa rfl) ?_; exact by rw [hrow2])), (by first | exact Aa rfl | (refine Ai (Aa rfl) (vint ?_); omega) | (refine Ai (Aa rfl) ?_; simp; done) | (refine Ai (Aa rfl) ?_; exact by rw [hrow]) | (refine Ai (Aa rfl) ?_; exact by rw [hrow2])), (by first | exact Aa rfl | (refine Ai (Aa rfl) (vint ?_); omega) | (refine Ai (Aa rfl) ?_; simp; done) | (refine Ai (Aa rfl) ?_; exact by rw [hrow]) | (refine Ai (Aa rfl) ?_; exact by rw [hrow2])), trivial⟩ sb0 ?_
  ·exact ⟨Nat.zero_le _, hd5, rfl⟩
  rintro ⟨a, d5, d7⟩ ⟨ha, hd5, hd7⟩
  have hstp := hord.step htl a ha
  have hof2 := hstp.1.few
  have hsl2 := hstp.2.1
  have hgk := (numK_get b (gd m.pl.next (gd order k)) (order := order) (k := k) (by omega) a).1
  have hge2 := (numK_get b (gd m.pl.next (gd order k)) (order := order) (k := k) (by omega) a).2
  refine Ag (Ag (Cm 11 [(0, true), (1, true), (2, true), (3, true), (4, true), (5, true), (6, true), (7, true), (8, true), (9, true), (10, true)] _ mixd (by kernel_rfl) sb0 ?_))
  refine o_y U (Ac (T U)) (o_y U (Bg (T U) C2) (o_y U (Aj (T U) isAgg26 (by first | exact c_o)) ?_ U Ah) U Ah) U Ah
  refine o_y U (Ac (T U)) (o_y U (Ac (T U)) (o_y U (Bb (T U) (T U) runUnderlying42 sizeOf3 (by omega) (by first | exact rfl | exact (A1 (w0 := w0) (X := []) (enc := encU) (sz := 1) (e := 3) (fun _ => rfl) hd5).b (i := k) (by omega) | exact (A1 (w0 := w0) (X := []) (enc := encU) (sz := 1) (e := 3) (fun _ => rfl) hd5).b (i := j) (by omega) | exact hm.a2.b (i := gd order k) hokl | exact (hm.r (gd m.rows (gd order k)) (Ax hokl)).b (i := a) (by omega) | exact hC.b (i := gd (numK b (gd m.pl.next (gd order k)) order a).1 j) hoj | exact hC.b (i := (gd (gd m.rows (gd order k)).l a)) (by omega) | exact hm.a3.b (i := gd order k) (by omega))) ?_ U Ah) U Ah) U Ah
  refine o_y U (Aj (T U) isAgg3 (by first | exact c_o | exact cell_e (v' := .int .i64 ((gd order k : Nat) : Int)) (by rw [hgk]) (cell1 (((A1 (w0 := w0) (X := H) (enc := encU) (sz := 1) (e := 3) (fun _ => rfl) hd5).mono sbt).cs (i := k) (by omega))))) ?_ U Ah
  refine o_y U (Bb (T U) (T U) runUnderlying26 sizeOf42 (by omega) (by first | exact rfl | exact (A1 (w0 := w0) (X := []) (enc := encU) (sz := 1) (e := 3) (fun _ => rfl) hd5).b (i := k) (by omega) | exact (A1 (w0 := w0) (X := []) (enc := encU) (sz := 1) (e := 3) (fun _ => rfl) hd5).b (i := j) (by omega) | exact hm.a2.b (i := gd order k) hokl | exact (hm.r (gd m.rows (gd order k)) (Ax hokl)).b (i := a) (by omega) | exact hC.b (i := gd (numK b (gd m.pl.next (gd order k)) order a).1 j) hoj | exact hC.b (i := (gd (gd m.rows (gd order k)).l a)) (by omega) | exact hm.a3.b (i := gd order k) (by omega))) ?_ U Ah
  refine o_y U (Aj (T U) isAgg42 (by first | exact c_o | exact cell1 ((hm.a2.mono sbt).cs (i := gd order k) hokl))) ?_ U Ah
  refine o_y U (Bn (T U) runUnderlying42) (o_y U (B1 (T U) (T U)) (B3 U (Af (Ae ?_))) U Ah) U Ah
  first | refine Ao (Aa U) (fun c33 => ?_) (fun c33 => ?_) | refine A5 (Aa U) (fun c33 => ?_) (fun c33 => ?_)
  ·have hil : (gd (gd m.rows (gd order k)).l a) < m.rows.length := hr2 a (by omega)
   have hti : gd (gd m.pl.next (gd order k)) a = (gd (gd m.rows (gd order k)).l a) := by rw [htos]
   refine A4 (Ae (Ag (Aw (Ag (Cm 12 [(0, true), (1, true), (2, true), (3, true), (4, true), (5, true), (6, true), (7, true), (8, true), (9, true), (10, true), (11, true)] _ mixd (by kernel_rfl) sb0 ?_)))))
   refine o_y U (Bg (T U) C2) (o_y U (Aj (T U) isAgg26 (by first | exact c_o)) ?_ U Ah) U Ah
   refine o_y U (Ac (T U)) (o_y U (Ac (T U)) (o_y U (Bb (T U) (T U) runUnderlying42 sizeOf3 (by omega) (by first | exact rfl | exact (A1 (w0 := w0) (X := []) (enc := encU) (sz := 1) (e := 3) (fun _ => rfl) hd5).b (i := k) (by omega) | exact (A1 (w0 := w0) (X := []) (enc := encU) (sz := 1) (e := 3) (fun _ => rfl) hd5).b (i := j) (by omega) | exact hm.a2.b (i := gd order k) hokl | exact (hm.r (gd m.rows (gd order k)) (Ax hokl)).b (i := a) (by omega) | exact hC.b (i := gd (numK b (gd m.pl.next (gd order k)) order a).1 j) hoj | exact hC.b (i := (gd (gd m.rows (gd order k)).l a)) (by omega) | exact hm.a3.b (i := gd order k) (by omega))) ?_ U Ah) U Ah) U Ah
   refine o_y U (Aj (T U) isAgg3 (by first | exact c_o | exact cell_e (v' := .int .i64 ((gd order k : Nat) : Int)) (by rw [hgk]) (cell1 (((A1 (w0 := w0) (X := H) (enc := encU) (sz := 1) (e := 3) (fun _ => rfl) hd5).mono sbt).cs (i := k) (by omega))))) ?_ U Ah
   refine o_y U (Bb (T U) (T U) runUnderlying26 sizeOf42 (by omega) (by first | exact rfl | exact (A1 (w0 := w0) (X := []) (enc := encU) (sz := 1) (e := 3) (fun _ => rfl) hd5).b (i := k) (by omega) | exact (A1 (w0 := w0) (X := []) (enc := encU) (sz := 1) (e := 3) (fun _ => rfl) hd5).b (i := j) (by omega) | exact hm.a2.b (i := gd order k) hokl | exact (hm.r (gd m.rows (gd order k)) (Ax hokl)).b (i := a) (by omega) | exact hC.b (i := gd (numK b (gd m.pl.next (gd order k)) order a).1 j) hoj | exact hC.b (i := (gd (gd m.rows (gd order k)).l a)) (by omega) | exact hm.a3.b (i := gd order k) (by omega))) ?_ U Ah
   refine o_y U (Aj (T U) isAgg42 (by first | exact c_o | exact cell1 ((hm.a2.mono sbt).cs (i := gd order k) hokl))) ?_ U Ah
   refine o_y U (Ac (T U)) (o_y U (Bb (T U) (T U) runUnderlying42 sizeOf3 (by omega) (by first | exact rfl | exact (A1 (w0 := w0) (X := []) (enc := encU) (sz := 1) (e := 3) (fun _ => rfl) hd5).b (i := k) (by omega) | exact (A1 (w0 := w0) (X := []) (enc := encU) (sz := 1) (e := 3) (fun _ => rfl) hd5).b (i := j) (by omega) | exact hm.a2.b (i := gd order k) hokl | exact (hm.r (gd m.rows (gd order k)) (Ax hokl)).b (i := a) (by omega) | exact hC.b (i := gd (numK b (gd m.pl.next (gd order k)) order a).1 j) hoj | exact hC.b (i := (gd (gd m.rows (gd order k)).l a)) (by omega) | exact hm.a3.b (i := gd order k) (by omega))) ?_ U Ah) U Ah
   refine o_y U (Aj (T U) isAgg3 (by first | exact c_o | exact cell1 (((hm.r (gd m.rows (gd order k)) (Ax hokl)).mono sbt).cs (i := a) (by omega)))) ?_ U Ah
   refine o_y U (Ad (T U)) (B3 U (Af (Ae (Bl [(1, _), (2, _), (3, _), (4, _), (5, _), (6, _), (7, _), (8, _), (9, _)] ⟨Aa U, Aa U, Aa U, Aa U, Aa U, Aa U, Aa U, Aa U, Aa U, trivial⟩ (Ag (Ab (y_ (Ad Ak) (Af (Ae (Ag (Aw ?_)))) U))))))) U Ah
   refine Ci (X := Nat) (V := fun j => [(10, .int .i64 (j : Nat))]) (C := [(1, _), (2, _), (3, _), (4, _), (5, _), (6, _), (7, _), (8, _), (9, _)]) (φ := fun j => j ≤ (numK b (gd m.pl.next (gd order k)) order a).1.length ∧ ∀ x, x < j → ¬ gd b (gd (numK b (gd m.pl.next (gd order k)) order a).1 x) = gd b (gd (gd m.rows (gd order k)).l a)) (μ := fun j => (numK b (gd m.pl.next (gd order k)) order a).1.length - j) (x0 := 0) ?_ ⟨Aa U, Aa U, Aa U, Aa U, Aa U, Aa U, Aa U, Aa U, Aa U, trivial⟩ ⟨(by first | exact Aa U | (refine Ai (Aa U) (vint ?_); omega) | (refine Ai (Aa U) ?_; simp; done) | (refine Ai (Aa U) ?_; exact by rw [hrow]) | (refine Ai (Aa U) ?_; exact by rw [hrow2])), trivial⟩ ?_
   ·exact ⟨Nat.zero_le _, fun j hj => absurd hj (Nat.not_lt_zero _)⟩
   rintro j ⟨hj, hno⟩
   refine Ag (Ag (Cm 18 [(0, true), (1, true), (2, true), (3, true), (4, true), (5, true), (6, true), (7, true), (8, true), (9, true), (10, true), (11, true), (12, true), (13, true), (14, true), (15, true), (16, true), (17, true)] _ mixd (by kernel_rfl) sb0 ?_))
   refine o_y U (Ac (T U)) (o_y U (Ac (T U)) (o_y U (Bn (T U) runUnderlying42) (o_y U (B1 (T U) (T U)) (o_y U (Ac (T U)) ?_ U Ah) U Ah) U Ah) U Ah) U Ah
   first | refine C5 (s := 51) (Aa U) (fun c51 => ?_) (fun c51 => ?_) | refine D5 (s := 51) (Aa U) (fun c51 => ?_) (fun c51 => ?_)
   ·have hoj : gd (numK b (gd m.pl.next (gd order k)) order a).1 j < b.length := by rw [hbl, ← hfl]; exact hstp.1.lt _ (Ax (by omega))
    refine o_y U (Ac (T U)) (o_y U (Ac (T U)) (o_y U (Ac (T U)) (o_y U (Bb (T U) (T U) runUnderlying42 sizeOf3 (by omega) (by first | exact rfl | exact (A1 (w0 := w0) (X := []) (enc := encU) (sz := 1) (e := 3) (fun _ => rfl) hd5).b (i := k) (by omega) | exact (A1 (w0 := w0) (X := []) (enc := encU) (sz := 1) (e := 3) (fun _ => rfl) hd5).b (i := j) (by omega) | exact hm.a2.b (i := gd order k) hokl | exact (hm.r (gd m.rows (gd order k)) (Ax hokl)).b (i := a) (by omega) | exact hC.b (i := gd (numK b (gd m.pl.next (gd order k)) order a).1 j) hoj | exact hC.b (i := (gd (gd m.rows (gd order k)).l a)) (by omega) | exact hm.a3.b (i := gd order k) (by omega))) ?_ U (Ar U U (Aa U))) U (Ar U U (Aa U))) U (Ar U U (Aa U))) U (Ar U U (Aa U))
    refine o_y U (Aj (T U) isAgg3 (by first | exact c_o | exact cell1 (((A1 (w0 := w0) (X := H) (enc := encU) (sz := 1) (e := 3) (fun _ => rfl) hd5).mono sbt).cs (i := j) (by omega)))) ?_ U (Ar U U (Aa U))
    refine o_y U (Bb (T U) (T U) runUnderlying42 sizeOf3 (by omega) (by first | exact rfl | exact (A1 (w0 := w0) (X := []) (enc := encU) (sz := 1) (e := 3) (fun _ => rfl) hd5).b (i := k) (by omega) | exact (A1 (w0 := w0) (X := []) (enc := encU) (sz := 1) (e := 3) (fun _ => rfl) hd5).b (i := j) (by omega) | exact hm.a2.b (i := gd order k) hokl | exact (hm.r (gd m.rows (gd order k)) (Ax hokl)).b (i := a) (by omega) | exact hC.b (i := gd (numK b (gd m.pl.next (gd order k)) order a).1 j) hoj | exact hC.b (i := (gd (gd m.rows (gd order k)).l a)) (by omega) | exact hm.a3.b (i := gd order k) (by omega))) ?_ U (Ar U U (Aa U))
    refine o_y U (Aj (T U) isAgg3 (by first | exact c_o | exact cell1 ((hC.mono sbt).cs (i := gd (numK b (gd m.pl.next (gd order k)) order a).1 j) hoj))) ?_ U (Ar U U (Aa U))
    refine o_y U (Ac (T U)) (o_y U (Ac (T U)) (o_y U (Bb (T U) (T U) runUnderlying42 sizeOf3 (by omega) (by first | exact rfl | exact (A1 (w0 := w0) (X := []) (enc := encU) (sz := 1) (e := 3) (fun _ => rfl) hd5).b (i := k) (by omega) | exact (A1 (w0 := w0) (X := []) (enc := encU) (sz := 1) (e := 3) (fun _ => rfl) hd5).b (i := j) (by omega) | exact hm.a2.b (i := gd order k) hokl | exact (hm.r (gd m.rows (gd order k)) (Ax hokl)).b (i := a) (by omega) | exact hC.b (i := gd (numK b (gd m.pl.next (gd order k)) order a).1 j) hoj | exact hC.b (i := (gd (gd m.rows (gd order k)).l a)) (by omega) | exact hm.a3.b (i := gd order k) (by omega))) ?_ U (Ar U U (Aa U))) U (Ar U U (Aa U))) U (Ar U U (Aa U))
    refine o_y U (Aj (T U) isAgg3 (by first | exact c_o | exact cell1 ((hC.mono sbt).cs (i := (gd (gd m.rows (gd order k)).l a)) (by omega)))) ?_ U (Ar U U (Aa U))
    refine o_y U (Cy (T U) (T U)) (o_y U (Az (T U) (T U)) (B3 U (Af (Ae (Bl [(1, _), (2, _), (3, _), (4, _), (5, _), (6, _), (7, _), (8, _), (9, _), (10, _), (64, _)] ⟨Aa U, Aa U, Aa U, Aa U, Aa U, Aa U, Aa U, Aa U, Aa U, Aa U, Aa U, trivial⟩ ?_)))) U Ah) U (Ar U U (Aa U))
    first | refine Ao (Aa U) (fun c64 => ?_) (fun c64 => ?_) | refine A5 (Aa U) (fun c64 => ?_) (fun c64 => ?_)
    ·refine A4 (Ae (Aw (Ab (y_ (Ac (T U)) (y_ (Bt (T U) Ak (by omega)) ?_ U) U))))
     refine y_ (Ad (T U)) (Af (Bi ?_)) U
     refine Bk (j + 1) ?_ ?_ ⟨(by first | exact Aa U | (refine Ai (Aa U) (vint ?_); omega) | (refine Ai (Aa U) ?_; simp; done) | (refine Ai (Aa U) ?_; exact by rw [hrow]) | (refine Ai (Aa U) ?_; exact by rw [hrow2])), trivial⟩ ⟨Aa U, Aa U, Aa U, Aa U, Aa U, Aa U, Aa U, Aa U, Aa U, trivial⟩ ?_
     ·refine ⟨by omega, fun x hx => ?_⟩
      by_cases e : x = j
      ·subst e; omega
      ·exact hno x (by omega)
     ·first | omega | (simp only []; omega)
     ·exact sbt
    ·have hidx : idx ((numK b (gd m.pl.next (gd order k)) order a).1.map (gd b)) (gd b (gd (gd m.rows (gd order k)).l a)) = j := idx_at (by rw [List.length_map]; omega) (by rw [C4 (by omega)]; omega) (fun x hx => by rw [C4 (by omega)]; exact hno x hx)
     refine B2 (Ay (A2 (A3 (Ae ?_))))
     refine Du (X := Sl) (V := fun g5 => [(5, slV g5 (numK b (gd m.pl.next (gd order k)) order (a + 1)).1.length)]) (C := [(1, _), (2, _), (3, _), (4, _), (6, _), (7, _), (8, _), (10, _)]) (G := fun g5 => slH d7 ((numK b (gd m.pl.next (gd order k)) order a).2.flatMap encU) 3 ++ (M ++ (slH g5 ((numK b (gd m.pl.next (gd order k)) order (a + 1)).1.flatMap encU) 3 ++ (slH dr (rows.flatMap encRQ) 42 ++ (slH da (acc.flatMap encB1) 4 ++ ((n4, Cl [.slice m.q1 m.names.length m.c1, slV dr rows.length, slV da acc.length] 29) :: (M3 ++ ((n2, Cl [.slice none 0 0, .slice none 0 0, .slice none 0 0] 29) :: (n1, Cl (encMc m) 29) :: H)))))))) (φ := fun g5 => SlOk g5 (numK b (gd m.pl.next (gd order k)) order (a + 1)).1.length 1) ⟨Aa U, Aa U, Aa U, Aa U, Aa U, Aa U, Aa U, Aa U, trivial⟩ ?_ ?_
     ·refine Ag (Ab (y_ (Ac (T U)) (y_ (Ac (T U)) (y_ (Bn (T U) runUnderlying42) (y_ (By (T U) (T U)) (Af (Ae ?_)) U) U) U) U))
      first | refine Ao (Aa U) (fun c70 => ?_) (fun c70 => ?_) | refine A5 (Aa U) (fun c70 => ?_) (fun c70 => ?_)
      ·have hrow : (numK b (gd m.pl.next (gd order k)) order (a + 1)).1 = (numK b (gd m.pl.next (gd order k)) order a).1 ++ [(gd (gd m.rows (gd order k)).l a)] := by
        rw [Cx]; simp only [hti]
        rw [if_neg (fun hm => by have := Dw hm; rw [List.length_map] at this; omega)]
       refine Ab (y_ (Ac (T U)) (y_ (Ac (T U)) (e_ (Al (.cons (T U) .nil) (Ck _)) ?_ U) U) U)
       rintro _ _ ⟨n73, rfl, rfl⟩
       refine e_ (B8 ((gd (gd m.rows (gd order k)).l a)) (by' := 8) (enc := encU) (l := (numK b (gd m.pl.next (gd order k)) order a).1) (by repeat (first | exact LocL.h | apply LocL.t | apply LocL.a)) (T U) (T U) runUnderlying42 runUnderlying42 sizeOf3 typeInfo3 U zeroValue3 U (fun _ => rfl) U hd5 (by decide) (by omega)) ?_ U
       rintro _ _ ⟨d5', rfl, hok5, rfl⟩
       refine y_ (Ad (T U)) (Af ?_) U
       refine Bp (d5') ?_ ⟨(by first | exact Aa U | (refine Ai (Aa U) (vint ?_); omega) | (refine Ai (Aa U) ?_; simp; done) | (refine Ai (Aa U) ?_; exact by rw [hrow]) | (refine Ai (Aa U) ?_; exact by rw [hrow2])), trivial⟩ ⟨Aa U, Aa U, Aa U, Aa U, Aa U, Aa U, Aa U, Aa U, trivial⟩ (by simp only [hrow]; exact sbt)
       first | (rw [hrow]; exact hok5) | (rw [hrow]; exact hd5)
      ·have hrow : (numK b (gd m.pl.next (gd order k)) order (a + 1)).1 = (numK b (gd m.pl.next (gd order k)) order a).1 := by
        rw [Cx]; simp only [hti]
        rw [if_pos (Classical.byContradiction fun hm => by have := idx_not hm; rw [List.length_map] at this; omega)]
       refine A4 ?_
       refine Bp (d5) ?_ ⟨(by first | exact Aa U | (refine Ai (Aa U) (vint ?_); omega) | (refine Ai (Aa U) ?_; simp; done) | (refine Ai (Aa U) ?_; exact by rw [hrow]) | (refine Ai (Aa U) ?_; exact by rw [hrow2])), trivial⟩ ⟨Aa U, Aa U, Aa U, Aa U, Aa U, Aa U, Aa U, Aa U, trivial⟩ (by simp only [hrow]; exact sbt)
       first | (rw [hrow]; exact hok5) | (rw [hrow]; exact hd5)
     rintro g5 hg5
     refine Ab (y_ (Ac (T U)) (y_ (Ac (T U)) (e_ (Al (.cons (T U) .nil) (Ck _)) ?_ U) U) U)
     rintro _ _ ⟨n77, rfl, rfl⟩
     refine e_ (B8 (j) (by' := 8) (enc := encU) (l := (numK b (gd m.pl.next (gd order k)) order a).2) (by repeat (first | exact LocL.h | apply LocL.t | apply LocL.a)) (T U) (T U) runUnderlying42 runUnderlying42 sizeOf3 typeInfo3 U zeroValue3 U (fun _ => rfl) U hd7 (by decide) (by omega)) ?_ U
     rintro _ _ ⟨d7', rfl, hok7, rfl⟩
     refine y_ (Ad (T U)) (Af (Bi (Ae (Ab (y_ (Ac (T U)) (y_ (Bt (T U) Ak (by omega)) ?_ U) U))))) U
     refine y_ (Ad (T U)) (Af ?_) U
     have hrow2 : (numK b (gd m.pl.next (gd order k)) order (a + 1)).2 = (numK b (gd m.pl.next (gd order k)) order a).2 ++ [j] := by rw [Cx]; simp only [hti, hidx]
     refine Bk ((a + 1, g5, d7')) ?_ ?_ ⟨(by first | exact Aa U | (refine Ai (Aa U) (vint ?_); omega) | (refine Ai (Aa U) ?_; simp; done) | (refine Ai (Aa U) ?_; exact by rw [hrow]) | (refine Ai (Aa U) ?_; exact by rw [hrow2])), (by first | exact Aa U | (refine Ai (Aa U) (vint ?_); omega) | (refine Ai (Aa U) ?_; simp; done) | (refine Ai (Aa U) ?_; exact by rw [hrow]) | (refine Ai (Aa U) ?_; exact by rw [hrow2])), (by first | exact Aa U | (refine Ai (Aa U) (vint ?_); omega) | (refine Ai (Aa U) ?_; simp; done) | (refine Ai (Aa U) ?_; exact by rw [hrow]) | (refine Ai (Aa U) ?_; exact by rw [hrow2])), trivial⟩ ⟨Aa U, Aa U, Aa U, Aa U, Aa U, trivial⟩ ?_
     ·exact ⟨by omega, hg5, by rw [hrow2]; exact hok7⟩
     ·show _ - (a + 1) < _ - a; omega
     ·simp only [hrow2]; exact sbt
   ·have hidx : idx ((numK b (gd m.pl.next (gd order k)) order a).1.map (gd b)) (gd b (gd (gd m.rows (gd order k)).l a)) = j := by
     rw [idx_none (fun x hx => ?_), List.length_map]
     ·omega
     ·rw [List.length_map] at hx; rw [C4 hx]; exact hno x (by omega)
    refine o_n U (o_n U (o_n U (o_n U (o_n U (o_n U (o_n U (o_n U (o_n U (o_n U (o_n U (o_n U (o_y U (A9 (T U) Ak) (B3 U (Af (Ae (Bl [(1, _), (2, _), (3, _), (4, _), (5, _), (6, _), (7, _), (8, _), (9, _), (10, _), (64, _)] ⟨Aa U, Aa U, Aa U, Aa U, Aa U, Aa U, Aa U, Aa U, Aa U, Aa U, Aa U, trivial⟩ ?_)))) U Ah) U (Ce U U (Aa U))) U (Ce U U (Aa U))) U (Ce U U (Aa U))) U (Ce U U (Aa U))) U (Ce U U (Aa U))) U (Ce U U (Aa U))) U (Ce U U (Aa U))) U (Ce U U (Aa U))) U (Ce U U (Aa U))) U (Ce U U (Aa U))) U (Ce U U (Aa U))) U (Ce U U (Aa U))
    first | refine Br (Aa U) ?_ | refine Br (Ai (Aa U) (vbool (decide_eq_false c64))) ?_
    refine B2 (Ay (A2 (A3 (Ae ?_))))
    refine Du (X := Sl) (V := fun g5 => [(5, slV g5 (numK b (gd m.pl.next (gd order k)) order (a + 1)).1.length)]) (C := [(1, _), (2, _), (3, _), (4, _), (6, _), (7, _), (8, _), (10, _)]) (G := fun g5 => slH d7 ((numK b (gd m.pl.next (gd order k)) order a).2.flatMap encU) 3 ++ (M ++ (slH g5 ((numK b (gd m.pl.next (gd order k)) order (a + 1)).1.flatMap encU) 3 ++ (slH dr (rows.flatMap encRQ) 42 ++ (slH da (acc.flatMap encB1) 4 ++ ((n4, Cl [.slice m.q1 m.names.length m.c1, slV dr rows.length, slV da acc.length] 29) :: (M3 ++ ((n2, Cl [.slice none 0 0, .slice none 0 0, .slice none 0 0] 29) :: (n1, Cl (encMc m) 29) :: H)))))))) (φ := fun g5 => SlOk g5 (numK b (gd m.pl.next (gd order k)) order (a + 1)).1.length 1) ⟨Aa U, Aa U, Aa U, Aa U, Aa U, Aa U, Aa U, Aa U, trivial⟩ ?_ ?_
    ·refine Ag (Ab (y_ (Ac (T U)) (y_ (Ac (T U)) (y_ (Bn (T U) runUnderlying42) (y_ (By (T U) (T U)) (Af (Ae ?_)) U) U) U) U))
     first | refine Ao (Aa U) (fun c70 => ?_) (fun c70 => ?_) | refine A5 (Aa U) (fun c70 => ?_) (fun c70 => ?_)
     ·have hrow : (numK b (gd m.pl.next (gd order k)) order (a + 1)).1 = (numK b (gd m.pl.next (gd order k)) order a).1 ++ [(gd (gd m.rows (gd order k)).l a)] := by
       rw [Cx]; simp only [hti]
       rw [if_neg (fun hm => by have := Dw hm; rw [List.length_map] at this; omega)]
      refine Ab (y_ (Ac (T U)) (y_ (Ac (T U)) (e_ (Al (.cons (T U) .nil) (Ck _)) ?_ U) U) U)
      rintro _ _ ⟨n73, rfl, rfl⟩
      refine e_ (B8 ((gd (gd m.rows (gd order k)).l a)) (by' := 8) (enc := encU) (l := (numK b (gd m.pl.next (gd order k)) order a).1) (by repeat (first | exact LocL.h | apply LocL.t | apply LocL.a)) (T U) (T U) runUnderlying42 runUnderlying42 sizeOf3 typeInfo3 U zeroValue3 U (fun _ => rfl) U hd5 (by decide) (by omega)) ?_ U
      rintro _ _ ⟨d5', rfl, hok5, rfl⟩
      refine y_ (Ad (T U)) (Af ?_) U
      refine Bp (d5') ?_ ⟨(by first | exact Aa U | (refine Ai (Aa U) (vint ?_); omega) | (refine Ai (Aa U) ?_; simp; done) | (refine Ai (Aa U) ?_; exact by rw [hrow]) | (refine Ai (Aa U) ?_; exact by rw [hrow2])), trivial⟩ ⟨Aa U, Aa U, Aa U, Aa U, Aa U, Aa U, Aa U, Aa U, trivial⟩ (by simp only [hrow]; exact sbt)
      first | (rw [hrow]; exact hok5) | (rw [hrow]; exact hd5)
     ·have hrow : (numK b (gd m.pl.next (gd order k)) order (a + 1)).1 = (numK b (gd m.pl.next (gd order k)) order a).1 := by
       rw [Cx]; simp only [hti]
       rw [if_pos (Classical.byContradiction fun hm => by have := idx_not hm; rw [List.length_map] at this; omega)]
      refine A4 ?_
      refine Bp (d5) ?_ ⟨(by first | exact Aa U | (refine Ai (Aa U) (vint ?_); omega) | (refine Ai (Aa U) ?_; simp; done) | (refine Ai (Aa U) ?_; exact by rw [hrow]) | (refine Ai (Aa U) ?_; exact by rw [hrow2])), trivial⟩ ⟨Aa U, Aa U, Aa U, Aa U, Aa U, Aa U, Aa U, Aa U, trivial⟩ (by simp only [hrow]; exact sbt)
      first | (rw [hrow]; exact hok5) | (rw [hrow]; exact hd5)
    rintro g5 hg5
    refine Ab (y_ (Ac (T U)) (y_ (Ac (T U)) (e_ (Al (.cons (T U) .nil) (Ck _)) ?_ U) U) U)
    rintro _ _ ⟨n77, rfl, rfl⟩
    refine e_ (B8 (j) (by' := 8) (enc := encU) (l := (numK b (gd m.pl.next (gd order k)) order a).2) (by repeat (first | exact LocL.h | apply LocL.t | apply LocL.a)) (T U) (T U) runUnderlying42 runUnderlying42 sizeOf3 typeInfo3 U zeroValue3 U (fun _ => rfl) U hd7 (by decide) (by omega)) ?_ U
    rintro _ _ ⟨d7', rfl, hok7, rfl⟩
    refine y_ (Ad (T U)) (Af (Bi (Ae (Ab (y_ (Ac (T U)) (y_ (Bt (T U) Ak (by omega)) ?_ U) U))))) U
    refine y_ (Ad (T U)) (Af ?_) U
    have hrow2 : (numK b (gd m.pl.next (gd order k)) order (a + 1)).2 = (numK b (gd m.pl.next (gd order k)) order a).2 ++ [j] := by rw [Cx]; simp only [hti, hidx]
    refine Bk ((a + 1, g5, d7')) ?_ ?_ ⟨(by first | exact Aa U | (refine Ai (Aa U) (vint ?_); omega) | (refine Ai (Aa U) ?_; simp; done) | (refine Ai (Aa U) ?_; exact by rw [hrow]) | (refine Ai (Aa U) ?_; exact by rw [hrow2])), (by first | exact Aa U | (refine Ai (Aa U) (vint ?_); omega) | (refine Ai (Aa U) ?_; simp; done) | (refine Ai (Aa U) ?_; exact by rw [hrow]) | (refine Ai (Aa U) ?_; exact by rw [hrow2])), (by first | exact Aa U | (refine Ai (Aa U) (vint ?_); omega) | (refine Ai (Aa U) ?_; simp; done) | (refine Ai (Aa U) ?_; exact by rw [hrow]) | (refine Ai (Aa U) ?_; exact by rw [hrow2])), trivial⟩ ⟨Aa U, Aa U, Aa U, Aa U, Aa U, trivial⟩ ?_
    ·exact ⟨by omega, hg5, by rw [hrow2]; exact hok7⟩
    ·show _ - (a + 1) < _ - a; omega
    ·simp only [hrow2]; exact sbt
  ·have ha2 : a = (gd m.pl.next (gd order k)).length := by omega
   subst ha2
   refine B2 (Ay (A2 (A3 (Ae (Ag (Ab (y_ (Bg (T U) C2) (y_ (Aj (T U) isAgg26 (by first | exact c_o)) ?_ U) U)))))))
   refine y_ (Ac (T U)) (e_ (Al (.cons (T U) .nil) (bs26_1_0 _ _ _)) ?_ U) U
   rintro _ _ ⟨n82, rfl, rfl⟩
   refine e_ (B8 ((⟨slQ d7, slC d7, (numK b (gd m.pl.next (gd order k)) order (gd m.pl.next (gd order k)).length).2⟩ : RowQ)) (by' := 24) (enc := encRQ) (l := rows) (by repeat (first | exact LocL.h | apply LocL.t | apply LocL.a)) (T U) (T U) runUnderlying26 runUnderlying26 sizeOf42 typeInfo42 U zeroValue42 U (fun _ => rfl) U hdr (by decide) (by omega)) ?_ U
   rintro _ _ ⟨dr', rfl, hokr, rfl⟩
   refine y_ (Bg (T U) C2) ?_ U
   first | refine A6 (As (T U) (T U) sizeOf26) U Ah ?_ | refine A6 (B5 (T U) (T U) U sizeOf26) U Ah ?_ | refine A6 (Bz (T U) (T U) U sizeOf26) U Ah ?_
   rintro _ _ ⟨rfl, rfl⟩
   refine Af (Ae (Bl [(1, _), (2, _), (3, _), (4, _), (5, _), (6, _)] ⟨Aa U, Aa U, Aa U, Aa U, Aa U, Aa U, trivial⟩ (Cm 11 [(0, true), (1, true), (2, true), (3, true), (4, true), (5, true), (6, true), (7, true), (8, true), (9, true), (10, false)] _ mixd (by kernel_rfl) sb0 ?_)))
   refine o_y U (Bg (T U) Dd) (o_y U (Aj (T U) isAgg27 (by first | exact c_o)) ?_ U Ah) U Ah
   refine o_y U (Bg (T U) Dd) (o_y U (Aj (T U) isAgg27 (by first | exact c_o)) ?_ U Ah) U Ah
   refine o_y U (Ac (T U)) (o_y U (Ac (T U)) (o_y U (Bb (T U) (T U) runUnderlying42 sizeOf3 (by omega) (by first | exact rfl | exact (A1 (w0 := w0) (X := []) (enc := encU) (sz := 1) (e := 3) (fun _ => rfl) hd5).b (i := k) (by omega) | exact (A1 (w0 := w0) (X := []) (enc := encU) (sz := 1) (e := 3) (fun _ => rfl) hd5).b (i := j) (by omega) | exact hm.a2.b (i := gd order k) hokl | exact (hm.r (gd m.rows (gd order k)) (Ax hokl)).b (i := a) (by omega) | exact hC.b (i := gd (numK b (gd m.pl.next (gd order k)) order a).1 j) hoj | exact hC.b (i := (gd (gd m.rows (gd order k)).l a)) (by omega) | exact hm.a3.b (i := gd order k) (by omega))) ?_ U Ah) U Ah) U Ah
   refine o_y U (Aj (T U) isAgg3 (by first | exact c_o | exact cell_e (v' := .int .i64 ((gd order k : Nat) : Int)) (by rw [hgk]) (cell1 (((A1 (w0 := w0) (X := H) (enc := encU) (sz := 1) (e := 3) (fun _ => rfl) hd5).mono sbt).cs (i := k) (by omega))))) ?_ U Ah
   refine o_y U (Bb (T U) (T U) runUnderlying27 sizeOf4 (by omega) (by first | exact rfl | exact (A1 (w0 := w0) (X := []) (enc := encU) (sz := 1) (e := 3) (fun _ => rfl) hd5).b (i := k) (by omega) | exact (A1 (w0 := w0) (X := []) (enc := encU) (sz := 1) (e := 3) (fun _ => rfl) hd5).b (i := j) (by omega) | exact hm.a2.b (i := gd order k) hokl | exact (hm.r (gd m.rows (gd order k)) (Ax hokl)).b (i := a) (by omega) | exact hC.b (i := gd (numK b (gd m.pl.next (gd order k)) order a).1 j) hoj | exact hC.b (i := (gd (gd m.rows (gd order k)).l a)) (by omega) | exact hm.a3.b (i := gd order k) (by omega))) ?_ U Ah
   refine o_y U (Aj (T U) isAgg4 (by first | exact c_o | exact cell1 ((hm.a3.mono sbt).cs (i := gd order k) (by omega)))) ?_ U Ah
   refine o_e U (Al (.cons (T U) .nil) (bs27_1_0 _)) ?_ U Ah
   rintro _ _ ⟨n95, rfl, rfl⟩
   refine ⟨sbt, (B3 U (e_ (B8 (gd m.acc (gd order k)) (by' := 1) (enc := encB1) (l := acc) (by repeat (first | exact LocL.h | apply LocL.t | apply LocL.a)) (T U) (T U) runUnderlying27 runUnderlying27 sizeOf4 typeInfo4 U zeroValue4 U (fun _ => rfl) U hda (by decide) (by omega)) ?_ U))⟩
   rintro _ _ ⟨da', rfl, hoka, rfl⟩
   refine y_ (Bg (T U) Dd) ?_ U
   first | refine A6 (As (T U) (T U) sizeOf27) U Ah ?_ | refine A6 (B5 (T U) (T U) U sizeOf27) U Ah ?_ | refine A6 (Bz (T U) (T U) U sizeOf27) U Ah ?_
   rintro _ _ ⟨rfl, rfl⟩
   refine Af (Bi (Ae (Ab (y_ (Ac (T U)) (y_ (Bt (T U) Ak (by omega)) ?_ U) U))))
   refine y_ (Ad (T U)) (Af ?_) U
   refine Bk ((k + 1, (numK b (gd m.pl.next (gd order k)) order (gd m.pl.next (gd order k)).length).1, rows ++ [⟨slQ d7, slC d7, (numK b (gd m.pl.next (gd order k)) order (gd m.pl.next (gd order k)).length).2⟩], acc ++ [gd m.acc (gd order k)], d5, dr', da', slH d7 ((numK b (gd m.pl.next (gd order k)) order (gd m.pl.next (gd order k)).length).2.flatMap encU) 3 ++ M)) ?_ ?_ ⟨(by first | exact Aa U | (refine Ai (Aa U) (vint ?_); omega) | (refine Ai (Aa U) ?_; simp; done) | (refine Ai (Aa U) ?_; exact by rw [hrow]) | (refine Ai (Aa U) ?_; exact by rw [hrow2])), (by first | exact Aa U | (refine Ai (Aa U) (vint ?_); omega) | (refine Ai (Aa U) ?_; simp; done) | (refine Ai (Aa U) ?_; exact by rw [hrow]) | (refine Ai (Aa U) ?_; exact by rw [hrow2])), trivial⟩ ⟨Aa U, Aa U, Aa U, Aa U, trivial⟩ ?_
   ·refine ⟨hstp.1, ⟨by omega, by simp [hrl], by simp [hacl]⟩, ⟨hd5, by simpa using hokr, by simpa using hoka⟩, fun x hx X => rowQ_push (fun r hr => hro r hr X) (by simp only [List.append_assoc]; exact List.sublist_append_right _ _) (by simp only [List.append_assoc]; exact A1 (fun _ => rfl) hd7) x hx, ?_⟩
    rw [← hgo, List.map_append, show 201 - k = (200 - k) + 1 by omega, numGo_succ, if_pos (show k < order.length by omega), show 201 - (k + 1) = 200 - k by omega]; rfl
   ·show 201 - (k + 1) < 201 - k; omega
   ·simp only [List.append_assoc, List.length_append, List.length_cons, List.length_nil, Nat.zero_add]; exact sbt
 ·refine B2 (Ay (A2 (A3 (Ae (Ag (Ab (y_ (Am (T U) isAgg29 sizeOf29 U (by first | exact Bf)) ?_ U)))))))
  first | refine A6 (As (T U) (T U) sizeOf29) U Ah ?_
  rintro _ _ ⟨rfl, rfl⟩
  refine Af (Ae (A7 (A8 U (.cellA (Aa U) isAgg29 sizeOf29 U (by first | exact Bf) .nil) ?_)))
  have hfin : numGo m.pl b 201 0 [0] [] [] = (rows.map RowQ.l, acc) := by rw [← hgo, show 201 - k = (200 - k) + 1 by omega, numGo_succ, if_neg (by omega)]
  exact ⟨_, ⟨⟨m.names, rows, acc, m.q1, m.c1, slQ dr, slC dr, slQ da, slC da⟩, M ++ (slH dr (rows.flatMap encRQ) 42 ++ slH da (acc.flatMap encB1) 4), ⟨rfl, fun X hX => ⟨hX.a1.mono (by simp only [List.append_assoc]; exact sbt), (A1 (w0 := w0) (X := X) (enc := encRQ) (sz := 1) (e := 42) (fun _ => rfl) hdr).mono (by simp only [List.append_assoc]; exact sbt), (A1 (w0 := w0) (X := X) (enc := encB1) (sz := 1) (e := 4) (fun _ => rfl) hda).mono (by simp only [List.append_assoc]; exact sbt), fun r hr => (hro r hr X).mono (by simp only [List.append_assoc]; exact sbt)⟩, by unfold numF; rw [hfin]; rfl⟩, rfl⟩, by simp only [List.append_assoc]; exact sbt⟩
end Go.Proofs.YtkdolgnpkjihpaaGreatDoor
namespace Go.Proofs.YtkdolgnpkjihpaaGreatDoor
open _root_.Go.Proofs.Tryz
open Go.RowKit
set_option linter.unusedVariables false
set_option linter.unusedSimpArgs false
theorem nameF_insS {s : ByteArray} : ∀ {l : List ByteArray}, nameF s l = insS s l
 | [] => rfl
 | x :: l => by
  unfold nameF insS
  by_cases h1 : toL x < toL s
  ·rw [if_pos h1, if_neg (ltU_ne h1), if_neg (fun e => by rw [e] at h1; exact List.lt_irrefl _ h1), nameF_insS]
  ·rw [if_neg h1]
   by_cases h2 : x = s
   ·subst h2; rw [if_pos rfl, if_neg (List.lt_irrefl _), if_pos rfl]
   ·rw [if_neg h2]
    have h3 : ¬ toL s = toL x := fun e => h2 (C6 e).symm
    rcases leU_total (toL s) (toL x) with h | h
    ·rw [if_pos ((leU_or h).resolve_right h3)]
    ·exact absurd ((leU_or h).resolve_right fun e => h3 e.symm) h1
theorem ntR_is {m : Rxm} {e : Re} (h : Is m e) : ∀ {l : List ByteArray}, Srt l → Srt (ntR m l) ∧ ∀ x, x ∈ ntR m l ↔ x ∈ l ∨ x ∈ e.nms := by
 induction h with
 | emp => exact fun h => ⟨h, fun x => by simp [ntR, ntL, Re.nms]⟩
 | @nod q c s h => exact fun {l} h => ⟨by show Srt (nameF s l); rw [nameF_insS]; exact insS_srt h, fun x => by show x ∈ nameF s l ↔ _; rw [nameF_insS, insS_mem]; simp [Re.nms, or_comm]⟩
 | any => exact fun h => ⟨h, fun x => by simp [ntR, ntL, Re.nms]⟩
 | seq _ _ i1 i2 =>
  intro l h
  obtain ⟨a1, a2⟩ := i1 h
  obtain ⟨b1, b2⟩ := i2 a1
  exact ⟨b1, fun x => by simp only [ntR, ntL, Re.nms, List.mem_append]; rw [if_neg (by decide), b2, a2, or_assoc]⟩
 | alt _ _ i1 i2 =>
  intro l h
  obtain ⟨a1, a2⟩ := i1 h
  obtain ⟨b1, b2⟩ := i2 a1
  exact ⟨b1, fun x => by simp only [ntR, ntL, Re.nms, List.mem_append]; rw [if_neg (by decide), b2, a2, or_assoc]⟩
 | star _ i1 =>
  intro l h
  obtain ⟨a1, a2⟩ := i1 h
  exact ⟨a1, fun x => by simp only [ntR, ntL, Re.nms]; rw [if_neg (by decide), a2]⟩
theorem ntR_let {m : Rxm} {e : Re} (h : Is m e) : ntR m [] = letF e := by
 obtain ⟨h1, h2⟩ := ntR_is h (l := []) .nil
 exact srt_ext h1 (letF_srt e) fun x => by rw [h2, Dn]; simp
def Rep (x : Nat) (l : List Nat) : Prop := ∀ n, x.testBit n = decide (n ∈ l)
theorem Rep.eq {x y : Nat} {l : List Nat} (h : Rep x l) (h2 : Rep y l) : x = y := Nat.eq_of_testBit_eq fun n => by rw [h n, h2 n]
theorem Rep.nil : Rep 0 [] := fun n => by simp
theorem Rep.one (k : Nat) : Rep (2 ^ k) [k] := fun n => by
 rw [Nat.testBit_two_pow]
 exact decide_eq_decide.2 (by simp [eq_comm])
theorem Rep.or {x y : Nat} {a b : List Nat} (h1 : Rep x a) (h2 : Rep y b) : Rep (x ||| y) (mergeF a b) := fun n => by
 rw [Nat.testBit_or, h1 n, h2 n, Bool.eq_iff_iff]
 simp [mem_mergeF]
theorem srn_ext {n : Nat} : ∀ {a b : List Nat}, a.Pairwise (· < ·) → b.Pairwise (· < ·) → (∀ x, x ∈ a ↔ x ∈ b) → a = b
 | [], [], _, _, _ => rfl
 | [], y :: l', _, _, h => absurd ((h y).2 (by simp)) (by simp)
 | x :: l, [], _, _, h => absurd ((h x).1 (by simp)) (by simp)
 | x :: l, y :: l', h1, h2, h => by
  have p1 := List.pairwise_cons.1 h1
  have p2 := List.pairwise_cons.1 h2
  have e : x = y := by
   rcases List.mem_cons.1 ((h x).1 (by simp)) with e | e
   ·exact e
   ·rcases List.mem_cons.1 ((h y).2 (by simp)) with e2 | e2
    ·exact e2.symm
    ·have := p1.1 y e2; have := p2.1 x e; omega
  subst e
  rw [srn_ext (n := n) p1.2 p2.2 fun z => ?_]
  constructor
  ·intro hz
   rcases List.mem_cons.1 ((h z).1 (List.mem_cons_of_mem _ hz)) with e | e
   ·subst e; exact absurd (p1.1 z hz) (Nat.lt_irrefl _)
   ·exact e
  ·intro hz
   rcases List.mem_cons.1 ((h z).2 (List.mem_cons_of_mem _ hz)) with e | e
   ·subst e; exact absurd (p2.1 z hz) (Nat.lt_irrefl _)
   ·exact e
theorem Rep.inj {x : Nat} {a b : List Nat} (h1 : Rep x a) (h2 : Rep x b) (ha : a.Pairwise (· < ·)) (hb : b.Pairwise (· < ·)) : a = b :=
 srn_ext (n := 0) ha hb fun n => by
  have := (h1 n).symm.trans (h2 n)
  exact decide_eq_decide.1 this
structure TRel (t : Tr) (u : PT) : Prop where
 nm : t.names = u.nms
 len : t.fol.length = u.fol.length
 ln2 : u.fol.length = u.nms.length
 fol : ∀ i, i < t.fol.length → Rep (gd t.fol i) (gd u.fol i)
theorem gdp_l {α : Type} [Inhabited α] {l : List α} {x : α} {i : Nat} (h : i < l.length) : gd (l ++ [x]) i = gd l i := by
 rw [Bo h, Bo (by simp; omega)]; simp [List.getElem_append, h]
theorem gdp_r {α : Type} [Inhabited α] {l : List α} {x : α} : gd (l ++ [x]) l.length = x := by
 rw [Bo (by simp)]; simp
theorem TRel.push {t : Tr} {u : PT} (h : TRel t u) (s : ByteArray) : TRel ⟨t.names ++ [s], t.fol ++ [0]⟩ ⟨u.nms ++ [s], u.fol ++ [[]]⟩ := by
 refine ⟨by simp [h.nm], by simp [h.len], by simp [h.ln2], fun i hi => ?_⟩
 simp only [List.length_append, List.length_cons, List.length_nil] at hi
 have hl := h.len
 by_cases e : i < t.fol.length
 ·show Rep (gd (t.fol ++ [0]) i) (gd (u.fol ++ [[]]) i)
  rw [gdp_l e, gdp_l (by omega)]; exact h.fol i e
 ·obtain rfl : i = t.fol.length := by omega
  show Rep (gd (t.fol ++ [0]) t.fol.length) (gd (u.fol ++ [[]]) t.fol.length)
  rw [gdp_r, hl, gdp_r]; exact .nil
theorem gd_set_eq {α : Type} [Inhabited α] {l : List α} {x : α} {k : Nat} (h : k < l.length) : gd (l.set k x) k = x := by
 rw [Bo (by simpa using h)]; simp
theorem gd_set_ne {α : Type} [Inhabited α] {l : List α} {x : α} {k i : Nat} (h : ¬ k = i) : gd (l.set k x) i = gd l i := by
 by_cases hi : i < l.length
 ·rw [Bo (by simpa using hi), Bo hi]; simp [List.getElem_set, h]
 ·have e : ∀ l : List α, ¬ i < l.length → gd l i = default := fun l h => by unfold gd; simp [List.getD_eq_getElem?_getD, List.getElem?_eq_none (show l.length ≤ i by omega)]
  rw [e _ hi, e _ (by simpa using hi)]
theorem gd_leadP (to : List Nat) : ∀ {fr : List Nat} {fol : List (List Nat)}, fr.Nodup → (∀ x ∈ fr, x < fol.length) → ∀ i, gd (leadP fol fr to) i = if i ∈ fr then mergeF (gd fol i) to else gd fol i
 | [], fol, _, _, i => by simp [leadP]
 | x :: fr, fol, hn, hx, i => by
  have hn' := List.nodup_cons.1 hn
  have e : leadP fol (x :: fr) to = leadP (fol.set x (mergeF (gd fol x) to)) fr to := rfl
  rw [e, gd_leadP to hn'.2 (fun y hy => by rw [List.length_set]; exact hx y (by simp [hy])) i]
  by_cases h : i = x
  ·subst h
   rw [if_neg hn'.1, if_pos (by simp), gd_set_eq (hx i (by simp))]
  ·have h' : ¬ x = i := fun e => h e.symm
   rw [gd_set_ne h']
   by_cases h2 : i ∈ fr
   ·rw [if_pos h2, if_pos (by simp [h2])]
   ·rw [if_neg h2, if_neg (by simp [h, h2])]
structure ERel (n : Nat) (e : En) (E : PE) : Prop where
 f : Rep e.first E.first
 l : Rep e.last E.last
 emp : e.emp = E.emp
 s1 : Srn n E.first
 s2 : Srn n E.last
theorem Srn.nodup {n : Nat} {l : List Nat} (h : Srn n l) : l.Nodup := h.1.imp fun h => Nat.ne_of_lt h
theorem gd_conn {t : Tr} {a b i : Nat} (h : i < t.fol.length) (hw : t.fol.length ≤ 64) : gd (conn t a b).fol i = if a.testBit i = true then gd t.fol i ||| b else gd t.fol i := by
 have hl : (conn t a b).fol.length = t.fol.length := Dh ..
 rw [Bo (by omega), Bo h]
 simp only [conn, connK, List.getElem_mapIdx]
 by_cases hb : a.testBit i = true
 ·rw [if_pos ⟨by omega, hb⟩, if_pos hb]
 ·rw [if_neg (fun h => hb h.2), if_neg hb]
theorem TRel.lead {t : Tr} {u : PT} (h : TRel t u) {a b : Nat} {fr to : List Nat} (ha : Rep a fr) (hb : Rep b to) (hs : Srn t.names.length fr) (hw : t.fol.length ≤ 64) : TRel (conn t a b) ⟨u.nms, leadP u.fol fr to⟩ := by
 have hl : (conn t a b).fol.length = t.fol.length := Dh ..
 have h1 := h.len
 have h2 := h.ln2
 have h3 : t.names.length = u.nms.length := by rw [h.nm]
 refine ⟨h.nm, by rw [hl, leadP_len]; exact h.len, by rw [leadP_len]; exact h.ln2, fun i hi => ?_⟩
 rw [hl] at hi
 show Rep (gd (conn t a b).fol i) (gd (leadP u.fol fr to) i)
 rw [gd_conn hi hw, gd_leadP to hs.nodup (fun x hx => by have := hs.2 x hx; omega), ha i]
 by_cases hm : i ∈ fr
 ·rw [if_pos (decide_eq_true hm), if_pos hm]; exact (h.fol i hi).or hb
 ·rw [if_neg (by simpa using hm), if_neg hm]; exact h.fol i hi
theorem read_rel : ∀ (e : Re) {t : Tr} {u : PT}, TRel t u → t.names.length + e.lv ≤ 64 → TRel (addF e t).1 (readP e u).1 ∧ ERel (t.names.length + e.lv) (addF e t).2 (readP e u).2 ∧ (addF e t).1.names.length = t.names.length + e.lv
 | .emp, t, u, h, _ => ⟨h, ⟨.nil, .nil, rfl, .nil, .nil⟩, rfl⟩
 | .nod s, t, u, h, _ => by
  have hk : t.names.length = u.fol.length := by rw [h.nm, h.ln2]
  refine ⟨h.push s, ⟨?_, ?_, rfl, ?_, ?_⟩, by simp [addF, Re.lv]⟩
  ·show Rep (2 ^ t.names.length) [u.fol.length]; rw [hk]; exact .one _
  ·show Rep (2 ^ t.names.length) [u.fol.length]; rw [hk]; exact .one _
  ·exact .one (by simp only [Re.lv]; omega)
  ·exact .one (by simp only [Re.lv]; omega)
 | .any, t, u, h, _ => by
  have hk : t.names.length = u.fol.length := by rw [h.nm, h.ln2]
  refine ⟨h.push _, ⟨?_, ?_, rfl, ?_, ?_⟩, by simp [addF, Re.lv]⟩
  ·show Rep (2 ^ t.names.length) [u.fol.length]; rw [hk]; exact .one _
  ·show Rep (2 ^ t.names.length) [u.fol.length]; rw [hk]; exact .one _
  ·exact .one (by simp only [Re.lv]; omega)
  ·exact .one (by simp only [Re.lv]; omega)
 | .alt a b, t, u, h, hl => by
  simp only [Re.lv] at hl
  obtain ⟨a1, a2, a3⟩ := read_rel a h (by omega)
  obtain ⟨b1, b2, b3⟩ := read_rel b a1 (by omega)
  have hle : t.names.length + a.lv ≤ t.names.length + (a.lv + b.lv) := by omega
  have hee : (addF a t).1.names.length + b.lv = t.names.length + (a.lv + b.lv) := by omega
  rw [hee] at b2
  exact ⟨b1, ⟨a2.f.or b2.f, a2.l.or b2.l, by show ((addF a t).2.emp || _) = _; rw [a2.emp, b2.emp]; rfl, (a2.s1.le hle).merge b2.s1, (a2.s2.le hle).merge b2.s2⟩, by simp only [Re.lv]; show (addF b (addF a t).1).1.names.length = _; omega⟩
 | .seq a b, t, u, h, hl => by
  simp only [Re.lv] at hl
  obtain ⟨a1, a2, a3⟩ := read_rel a h (by omega)
  obtain ⟨b1, b2, b3⟩ := read_rel b a1 (by omega)
  have hle : t.names.length + a.lv ≤ t.names.length + (a.lv + b.lv) := by omega
  have hee : (addF a t).1.names.length + b.lv = t.names.length + (a.lv + b.lv) := by omega
  rw [hee] at b2
  have hfl : (addF b (addF a t).1).1.fol.length ≤ 64 := by rw [b1.len, b1.ln2, ← b1.nm]; omega
  have hn : (addF b (addF a t).1).1.names.length = t.names.length + (a.lv + b.lv) := by omega
  refine ⟨b1.lead a2.l b2.f (by rw [hn]; exact a2.s2.le hle) hfl, ⟨?_, ?_, ?_, ?_, ?_⟩, by simp only [Re.lv]; exact hn⟩
  ·show Rep (if (addF a t).2.emp = true then (addF a t).2.first ||| (addF b (addF a t).1).2.first else (addF a t).2.first) (if (readP a u).2.emp = true then mergeF (readP a u).2.first (readP b (readP a u).1).2.first else (readP a u).2.first)
   rw [a2.emp]; split
   ·exact a2.f.or b2.f
   ·exact a2.f
  ·show Rep (if (addF b (addF a t).1).2.emp = true then (addF b (addF a t).1).2.last ||| (addF a t).2.last else (addF b (addF a t).1).2.last) (if (readP b (readP a u).1).2.emp = true then mergeF (readP b (readP a u).1).2.last (readP a u).2.last else (readP b (readP a u).1).2.last)
   rw [b2.emp]; split
   ·exact b2.l.or a2.l
   ·exact b2.l
  ·show ((addF a t).2.emp && (addF b (addF a t).1).2.emp) = _
   rw [a2.emp, b2.emp]; rfl
  ·show Srn _ (if (readP a u).2.emp = true then mergeF (readP a u).2.first (readP b (readP a u).1).2.first else (readP a u).2.first)
   simp only [Re.lv]
   split
   ·exact (a2.s1.le hle).merge b2.s1
   ·exact a2.s1.le hle
  ·show Srn _ (if (readP b (readP a u).1).2.emp = true then mergeF (readP b (readP a u).1).2.last (readP a u).2.last else (readP b (readP a u).1).2.last)
   simp only [Re.lv]
   split
   ·exact b2.s2.merge (a2.s2.le hle)
   ·exact b2.s2
 | .star a, t, u, h, hl => by
  simp only [Re.lv] at hl
  obtain ⟨a1, a2, a3⟩ := read_rel a h (by omega)
  have hfl : (addF a t).1.fol.length ≤ 64 := by rw [a1.len, a1.ln2, ← a1.nm]; omega
  exact ⟨a1.lead a2.l a2.f (by rw [a3]; exact a2.s2) hfl, ⟨a2.f, a2.l, rfl, a2.s1, a2.s2⟩, a3⟩
end Go.Proofs.YtkdolgnpkjihpaaGreatDoor
namespace Go.Proofs.YtkdolgnpkjihpaaGreatDoor
open _root_.Go.Proofs.Tryz
open Go.RowKit
set_option linter.unusedVariables false
set_option linter.unusedSimpArgs false
theorem toInts_inj {a b : List Nat} (h : toInts a = toInts b) : a = b := by
 unfold toInts at h
 exact (List.map_inj_right (f := fun k : Nat => (k : Int)) fun x y e => Int.ofNat.inj e).1 h
def SRel (n : Nat) (s : St) (l : List Int) : Prop := (s = s00 ∧ l = [-1]) ∨ (s.2 = true ∧ ∃ ns, Srn n ns ∧ l = toInts ns ∧ Rep s.1 ns)
theorem neg_toInts {ns : List Nat} : ¬ [(-1 : Int)] = toInts ns := fun e => by
 have h : (-1 : Int) ∈ toInts ns := by rw [← e]; simp
 obtain ⟨k, _, hk⟩ := mem_toInts.1 h
 omega
theorem SRel.iff {n : Nat} {s s' : St} {l l' : List Int} (h : SRel n s l) (h' : SRel n s' l') : s = s' ↔ l = l' := by
 rcases h with ⟨rfl, rfl⟩ | ⟨h1, ns, h2, rfl, h3⟩ <;> rcases h' with ⟨rfl, rfl⟩ | ⟨g1, ms, g2, rfl, g3⟩
 ·simp
 ·exact ⟨fun e => (by rw [← e] at g1; cases g1), fun e => absurd e neg_toInts⟩
 ·exact ⟨fun e => (by rw [e] at h1; cases h1), fun e => absurd e.symm neg_toInts⟩
 ·constructor
  ·rintro rfl; rw [h3.inj g3 h2.1 g2.1]
  ·intro e
   have := toInts_inj e
   subst this
   exact Prod.ext (h3.eq g3) (by rw [h1, g1])
structure LRel (n : Nat) (L : List St) (M : List (List Int)) : Prop where
 len : L.length = M.length
 at' : ∀ i, i < L.length → SRel n (gd L i) (gd M i)
theorem idx_before {α : Type} [DecidableEq α] [Inhabited α] {l : List α} {x : α} {j : Nat} (h : j < idx l x) (hl : j < l.length) : ¬ gd l j = x := fun e => by
 have h4 : j < l.findIdx (fun y => y == x) := h
 have h5 := List.not_of_lt_findIdx h4
 rw [Bo hl] at e
 simp [e] at h5
theorem LRel.idx {n : Nat} {L : List St} {M : List (List Int)} (h : LRel n L M) {s : St} {l : List Int} (hs : SRel n s l) : idx L s = idx M l ∧ (s ∈ L ↔ l ∈ M) := by
 have hl := h.len
 by_cases hm : s ∈ L
 ·have h1 := Dw hm
  have h2 := idx_get hm
  have h3 : gd M (Go.Proofs.YtkdolgnpkjihpaaGreatDoor.idx L s) = l := ((h.at' _ h1).iff hs).1 h2
  refine ⟨(idx_at (by omega) h3 fun j hj e => idx_before hj (by omega) (((h.at' j (by omega)).iff hs).2 e)).symm, fun _ => by rw [← h3]; exact Ax (by omega), fun _ => hm⟩
 ·have hm2 : l ∉ M := fun hM => by
   obtain ⟨j, hj, e⟩ := List.getElem_of_mem hM
   have e2 : gd M j = l := by rw [Bo hj]; exact e
   exact hm (by rw [← ((h.at' j (by omega)).iff hs).2 e2]; exact Ax (by omega))
  exact ⟨by rw [idx_not hm, idx_not hm2, hl], fun e => absurd e hm, fun e => absurd e hm2⟩
theorem LRel.push {n : Nat} {L : List St} {M : List (List Int)} (h : LRel n L M) {s : St} {l : List Int} (hs : SRel n s l) : LRel n (L ++ [s]) (M ++ [l]) := by
 refine ⟨by simp [h.len], fun i hi => ?_⟩
 have hl := h.len
 simp only [List.length_append, List.length_cons, List.length_nil] at hi
 by_cases e : i < L.length
 ·rw [gdp_l e, gdp_l (by omega)]; exact h.at' i e
 ·obtain rfl : i = L.length := by omega
  rw [gdp_r, hl, gdp_r]; exact hs
theorem LRel.add {n : Nat} {L : List St} {M : List (List Int)} (h : LRel n L M) {s : St} {l : List Int} (hs : SRel n s l) : LRel n (addSt L s) (addL M l) := by
 have h1 := (h.idx hs).2
 unfold addSt addL
 by_cases hm : s ∈ L
 ·rw [if_pos hm, if_pos (h1.1 hm)]; exact h
 ·rw [if_neg hm, if_neg (fun e => hm (h1.2 e))]; exact h.push hs
theorem orR_bit (fol : List Nat) (x n : Nat) : ∀ i, (orK fol x i).testBit n = true ↔ ∃ k, k < i ∧ x.testBit k = true ∧ (gd fol k).testBit n = true
 | 0 => by simp [orK]
 | i + 1 => by
  rw [orK_succ]
  have ih := orR_bit fol x n i
  by_cases hb : x.testBit i = true
  ·rw [if_pos hb, Nat.testBit_or, Bool.or_eq_true, ih]
   constructor
   ·rintro (⟨k, h1, h2⟩ | h)
    ·exact ⟨k, by omega, h2⟩
    ·exact ⟨i, by omega, hb, h⟩
   ·rintro ⟨k, h1, h2, h3⟩
    by_cases e : k = i
    ·subst e; exact .inr h3
    ·exact .inl ⟨k, by omega, h2, h3⟩
  ·rw [if_neg hb, ih]
   constructor
   ·rintro ⟨k, h1, h2⟩; exact ⟨k, by omega, h2⟩
   ·rintro ⟨k, h1, h2, h3⟩
    by_cases e : k = i
    ·subst e; exact absurd h2 hb
    ·exact ⟨k, by omega, h2, h3⟩
theorem mem_tkR {nms names : List ByteArray} {a n : Nat} : ∀ {nx to : List Nat}, n ∈ tkR nms names a to nx ↔ n ∈ to ∨ (n ∈ nx ∧ takP (gd nms n) names a = true)
 | [], to => by simp [tkR]
 | x :: nx, to => by
  have e : tkR nms names a to (x :: nx) = tkR nms names a (if takP (gd nms x) names a then putF x to else to) nx := rfl
  rw [e, mem_tkR]
  by_cases h : takP (gd nms x) names a = true
  ·rw [if_pos h, mem_putF, List.mem_cons]
   constructor
   ·rintro ((rfl | h2) | h2)
    ·exact .inr ⟨.inl U, h⟩
    ·exact .inl h2
    ·exact .inr ⟨.inr h2.1, h2.2⟩
   ·rintro (h2 | ⟨rfl | h2, h3⟩)
    ·exact .inl (.inr h2)
    ·exact .inl (.inl U)
    ·exact .inr ⟨h2, h3⟩
  ·rw [if_neg h, List.mem_cons]
   constructor
   ·rintro (h2 | h2)
    ·exact .inl h2
    ·exact .inr ⟨.inr h2.1, h2.2⟩
   ·rintro (h2 | ⟨rfl | h2, h3⟩)
    ·exact .inl h2
    ·exact absurd h3 h
    ·exact .inr ⟨h2, h3⟩
theorem mem_stR {t : PT} {first : List Nat} {names : List ByteArray} {a n : Nat} : ∀ {st : List Int} {to : List Nat}, n ∈ st.foldl (fun to s => tkR t.nms names a to (nxR t.fol first s)) to ↔ n ∈ to ∨ ((∃ s ∈ st, n ∈ nxR t.fol first s) ∧ takP (gd t.nms n) names a = true)
 | [], to => by simp
 | x :: st, to => by
  rw [List.foldl_cons, mem_stR, mem_tkR]
  constructor
  ·rintro ((h | h) | ⟨⟨s, h1, h2⟩, h3⟩)
   ·exact .inl h
   ·exact .inr ⟨⟨x, by simp, h.1⟩, h.2⟩
   ·exact .inr ⟨⟨s, by simp [h1], h2⟩, h3⟩
  ·rintro (h | ⟨⟨s, h1, h2⟩, h3⟩)
   ·exact .inl (.inl h)
   ·rcases List.mem_cons.1 h1 with rfl | h1
    ·exact .inl (.inr ⟨h2, h3⟩)
    ·exact .inr ⟨⟨s, h1, h2⟩, h3⟩
structure Both (t : Tr) (e : En) (u : PT) (E : PE) : Prop where
 tr : TRel t u
 er : ERel t.names.length e E
 ok : TrOk t
 low : Low t
theorem step_rel {t : Tr} {e : En} {u : PT} {E : PE} (h : Both t e u E) {s : St} {l : List Int} (hs : SRel t.names.length s l) (names : List ByteArray) (a : Nat) : Rep (stepL t names (canAt t e s) a 256) (stR u E.first names a l) := fun n => by
 have hfew := h.ok.few
 have hlen := h.ok.len
 rw [stepL_bit, takL_eq, h.tr.nm, Bool.eq_iff_iff]
 have hst : n ∈ stR u E.first names a l ↔ (∃ s ∈ l, n ∈ nxR u.fol E.first s) ∧ takP (gd u.nms n) names a = true := by
  unfold stR; rw [mem_stR]; simp
 rw [decide_eq_true_iff, hst, show (decide (gd u.nms n = ⟨#[]⟩) || (decide (a < names.length) && decide (gd u.nms n = gd names a))) = takP (gd u.nms n) names a from rfl]
 simp only [Bool.and_eq_true, decide_eq_true_eq]
 have key : (canAt t e s).testBit n = true ↔ ∃ s ∈ l, n ∈ nxR u.fol E.first s := by
  rcases hs with ⟨rfl, rfl⟩ | ⟨h1, ns, h2, rfl, h3⟩
  ·have e1 : canAt t e s00 = e.first := rfl
   rw [e1, h.er.f n, decide_eq_true_iff]
   constructor
   ·intro hm; exact ⟨-1, by simp, by unfold nxR; rw [if_neg (by omega)]; exact hm⟩
   ·rintro ⟨x, hx, hm⟩
    obtain rfl : x = -1 := by simpa using hx
    unfold nxR at hm; rw [if_neg (by omega)] at hm; exact hm
  ·have e1 : canAt t e s = orK t.fol s.1 256 := by unfold canAt; rw [if_pos h1]
   rw [e1, orR_bit]
   constructor
   ·rintro ⟨k, k1, k2, k3⟩
    rw [h3 k, decide_eq_true_iff] at k2
    have hk := h2.2 k k2
    rw [h.tr.fol k (by omega) n, decide_eq_true_iff] at k3
    exact ⟨k, mem_toInts.2 ⟨k, k2, rfl⟩, by unfold nxR; rw [if_pos (by omega)]; exact k3⟩
   ·rintro ⟨x, hx, hm⟩
    obtain ⟨k, k2, rfl⟩ := mem_toInts.1 hx
    have hk := h2.2 k k2
    unfold nxR at hm; rw [if_pos (by omega)] at hm
    exact ⟨k, by omega, by rw [h3 k]; exact decide_eq_true k2, by rw [h.tr.fol k (by omega) n]; exact decide_eq_true hm⟩
 rw [key]
 constructor
 ·rintro ⟨_, h2, h3⟩; exact ⟨h2, h3⟩
 ·rintro ⟨h2, h3⟩
  refine ⟨?_, h2, h3⟩
  have hc : canAt t e s < 2 ^ t.names.length := by
   rcases hs with ⟨rfl, rfl⟩ | ⟨h1, ns, g2, rfl, g3⟩
   ·show e.first < _
    refine Nat.lt_pow_two_of_testBit _ fun i hi => ?_
    rw [h.er.f i]; exact decide_eq_false fun hm => by have := h.er.s1.2 i hm; omega
   ·unfold canAt; rw [if_pos h1]
    refine orK_lt h.ok h.low (Nat.lt_pow_two_of_testBit _ fun i hi => ?_) 256
    rw [g3 i]; exact decide_eq_false fun hm => by have := g2.2 i hm; omega
  have := bit_lt hc (key.2 h2)
  omega
theorem stR_ok {t : Tr} {e : En} {u : PT} {E : PE} (h : Both t e u E) {s : St} {l : List Int} (hs : SRel t.names.length s l) (names : List ByteArray) (a : Nat) : SRel t.names.length (stepL t names (canAt t e s) a 256, true) (toInts (stR u E.first names a l)) := by
 have hlen := h.ok.len
 refine .inr ⟨rfl, _, ?_, rfl, step_rel h hs names a⟩
 refine stR_srn h.er.s1.2 (fun i hi x hx => ?_) .nil (fun x hx => ?_)
 ·have h1 := (h.tr.fol i (by omega) x).trans (decide_eq_true hx)
  exact bit_lt (h.low _ (Ax (by omega))) h1
 ·rcases hs with ⟨rfl, rfl⟩ | ⟨h1, ns, g2, rfl, g3⟩
  ·left; simpa using hx
  ·obtain ⟨k, hk, rfl⟩ := mem_toInts.1 hx
   have := g2.2 k hk
   right; omega
theorem row_rel {t : Tr} {e : En} {u : PT} {E : PE} (h : Both t e u E) {s : St} {l : List Int} (hs : SRel t.names.length s l) (names : List ByteArray) {L : List St} {M : List (List Int)} (hL : LRel t.names.length L M) : ∀ a, LRel t.names.length (rowF t names (canAt t e s) L a).1 (rwR u E.first names l M a).1 ∧ (rowF t names (canAt t e s) L a).2 = (rwR u E.first names l M a).2
 | 0 => ⟨hL, rfl⟩
 | a + 1 => by
  obtain ⟨h1, h2⟩ := row_rel h hs names hL a
  have h3 := stR_ok h hs names a
  rw [rowF_succ, rwR_succ]
  exact ⟨h1.add h3, by simp only []; rw [h2, (h1.idx h3).1]⟩
theorem acc_rel {t : Tr} {e : En} {u : PT} {E : PE} (h : Both t e u E) {s : St} {l : List Int} (hs : SRel t.names.length s l) (k : Nat) : accAt e k s = acR E k l := by
 have key : decide (¬ s.1 &&& e.last = 0) = l.any fun s => decide (s ∈ toInts E.last) := by
  rw [Bool.eq_iff_iff, decide_eq_true_iff, List.any_eq_true]
  rcases hs with ⟨rfl, rfl⟩ | ⟨h1, ns, g2, rfl, g3⟩
  ·constructor
   ·intro hn; exact absurd (by show 0 &&& e.last = 0; simp) hn
   ·rintro ⟨x, hx, hm⟩
    obtain rfl : x = -1 := by simpa using hx
    obtain ⟨k, _, hk⟩ := mem_toInts.1 (of_decide_eq_true hm)
    omega
  ·constructor
   ·intro hn
    obtain ⟨i, hi⟩ : ∃ i, (s.1 &&& e.last).testBit i = true := Classical.byContradiction fun hno => hn (Nat.eq_of_testBit_eq fun i => by
     rw [Nat.zero_testBit]
     cases hb : (s.1 &&& e.last).testBit i with
     | false => rfl
     | true => exact absurd ⟨i, hb⟩ hno)
    rw [Nat.testBit_and, Bool.and_eq_true, g3 i, h.er.l i, decide_eq_true_iff, decide_eq_true_iff] at hi
    exact ⟨i, mem_toInts.2 ⟨i, hi.1, rfl⟩, decide_eq_true (mem_toInts.2 ⟨i, hi.2, rfl⟩)⟩
   ·rintro ⟨x, hx, hm⟩ h0
    obtain ⟨i, hi, rfl⟩ := mem_toInts.1 hx
    obtain ⟨j, hj, e2⟩ := mem_toInts.1 (of_decide_eq_true hm)
    obtain rfl : j = i := by omega
    have h5 : (s.1 &&& e.last).testBit j = true := by
     rw [Nat.testBit_and, g3 j, h.er.l j, decide_eq_true hi, decide_eq_true hj]; rfl
    rw [h0, Nat.zero_testBit] at h5; cases h5
 unfold accAt acR
 rw [key, h.er.emp, Bool.or_comm]
 congr 2
 exact decide_eq_decide.2 (by omega)
theorem raw_rel {t : Tr} {e : En} {u : PT} {E : PE} (h : Both t e u E) (names : List ByteArray) : ∀ (f k : Nat) {L : List St} {M : List (List Int)} (rows : List (List Nat)) (acc : List Bool), LRel t.names.length L M → rawGo t e names f k L rows acc = rawGoR u E names f k M rows acc
 | 0, _, _, _, _, _, _ => rfl
 | f + 1, k, L, M, rows, acc, hL => by
  have hl := hL.len
  rw [rawGo_succ, rawGoR_succ]
  by_cases hk : k < L.length
  ·have hs := hL.at' k hk
   obtain ⟨h1, h2⟩ := row_rel h hs names hL (names.length + 1)
   rw [if_pos hk, if_pos (show k < M.length by omega), h1.len]
   by_cases hb : 200 < (rwR u E.first names (gd M k) M (names.length + 1)).1.length
   ·rw [if_pos hb, if_pos hb]
   ·rw [if_neg hb, if_neg hb, h2, acc_rel h hs k]
    exact raw_rel h names f (k + 1) _ _ h1
  ·rw [if_neg hk, if_neg (show ¬ k < M.length by omega)]
theorem rawR_eq {e : Re} (hl : e.lv ≤ 64) : rawR e (letF e) = rawF e := by
 have h0 : TRel t00 ⟨[], []⟩ := ⟨rfl, rfl, rfl, fun i hi => absurd hi (Nat.not_lt_zero _)⟩
 obtain ⟨h1, h2, h3⟩ := read_rel e h0 (by show 0 + e.lv ≤ 64; omega)
 rw [← h3] at h2
 have hB : Both (addF e t00).1 (addF e t00).2 (readP e ⟨[], []⟩).1 (readP e ⟨[], []⟩).2 := ⟨h1, h2, (Dm e D8 (by show 0 + e.lv ≤ 64; omega)).1, add_low e D8 (by show 0 + e.lv ≤ 64; omega) t00_low⟩
 unfold rawR rawF
 exact (raw_rel hB (letF e) 201 0 [] [] ⟨rfl, fun i hi => by
  obtain rfl : i = 0 := by simp at hi; exact hi
  exact .inl ⟨rfl, rfl⟩⟩).symm
end Go.Proofs.YtkdolgnpkjihpaaGreatDoor
