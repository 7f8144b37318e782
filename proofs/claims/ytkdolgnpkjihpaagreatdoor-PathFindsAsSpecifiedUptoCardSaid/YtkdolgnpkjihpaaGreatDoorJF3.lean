/-
  A part of what LawF rests on: the logic, walks and plain laws. No condition.
-/
import Derived.Test.YtkdolgnpkjihpaaGreatDoorJF2
import Derived.Shelf.SlSortCmp.WholeK
import Derived.Shelf.SlSortCmp.NoneTotal
import Derived.Laws.Cover3
namespace Go.Proofs.YtkdolgnpkjihpaaGreatDoor
open _root_.Go.Proofs.Tryz
open Go.RowKit
set_option linter.unusedVariables false
set_option linter.unusedSimpArgs false
theorem bd178_0 (a0 : Int) (w : World) : (Instr.build 178 #[(0, .int .i64 a0)]).run Tryz.prog w = .ok (.agg #[.int .i64 a0, .string ⟨#[]⟩]) w := by kernel_rfl
theorem bd186_0 (a0 : Int) (w : World) : (Instr.build 186 #[(0, .int .i64 a0)]).run Tryz.prog w = .ok (.agg #[.int .i64 a0, .int .i64 0]) w := by kernel_rfl
theorem fa178_0 (b o : Nat) (w : World) : (Instr.fieldAt 178 (.pointer (some ⟨b, o, none⟩)) 0).run Tryz.prog w = .ok (.pointer (some ⟨b, o, none⟩)) w := by kernel_rfl
theorem fa178_1 (b o : Nat) (w : World) : (Instr.fieldAt 178 (.pointer (some ⟨b, o, none⟩)) 1).run Tryz.prog w = .ok (.pointer (some ⟨b, o + 1, none⟩)) w := by kernel_rfl
theorem fa186_0 (b o : Nat) (w : World) : (Instr.fieldAt 186 (.pointer (some ⟨b, o, none⟩)) 0).run Tryz.prog w = .ok (.pointer (some ⟨b, o, none⟩)) w := by kernel_rfl
theorem fa186_1 (b o : Nat) (w : World) : (Instr.fieldAt 186 (.pointer (some ⟨b, o, none⟩)) 1).run Tryz.prog w = .ok (.pointer (some ⟨b, o + 1, none⟩)) w := by kernel_rfl
theorem backF_fuel {σ : Type} [Inhabited σ] {w : List (Int × σ)} (hw : ∀ i, i < w.length → -1 ≤ (gd w i).1 ∧ (gd w i).1 < i) : ∀ (f i : Nat), i < f → i < w.length → backF w f i = backF w (i + 1) i
 | 0, i, h, _ => absurd h (Nat.not_lt_zero _)
 | f + 1, i, h, hi => by
  rw [backF_succ, backF_succ]
  split
  ·rename_i h0
   have h1 := (hw i hi).2
   have h2 : (gd w i).1.toNat < i := by omega
   rw [backF_fuel hw f _ (by omega) (by omega), backF_fuel hw i _ (by omega) (by omega)]
  ·rfl
def srF {σ : Type} [Inhabited σ] (ts : Pl → List (Pl × σ)) (fnd : Pl → Bool) (N : Nat) (p0 : Pl) : List σ × Bool × List Pl :=
 match goF ts fnd (N + 1) 0 ⟨[p0], [(-1, default)]⟩ with
 | (some k, st) => ((backF st.w (k + 1) k).reverse, true, st.l.take (k + 1))
 | (none, st) => ([], false, st.l)
theorem visAll_pre {σ : Type} {k m : Nat} : ∀ (ts : List (Pl × σ)) (st : BS σ), m ≤ st.l.length → (visAll k st ts).l.take m = st.l.take m
 | [], st, h => rfl
 | x :: ts, st, h => by
  show (visAll k (visF k st x) ts).l.take m = _
  rw [visAll_pre ts _ (by
   unfold visF; split
   ·exact h
   ·simp; omega)]
  unfold visF; split
  ·rfl
  ·rw [List.take_append_of_le_length h]
theorem bs_start {σ : Type} [Inhabited σ] {Pd : Pl → Prop} {p0 : Pl} (h : Pd p0) : BSok Pd 0 (⟨[p0], [(-1, default)]⟩ : BS σ) := by
 refine ⟨by simp, fun p hp => ?_, rfl, fun i hi => ?_, Nat.zero_le _⟩
 ·simp only [List.mem_cons, List.not_mem_nil, or_false] at hp
  rw [hp]; exact h
 ·have : i = 0 := by simpa using hi
  subst this
  exact ⟨Int.le_refl _, by show (-1 : Int) < 0; decide⟩
def FoundS (w0 : World) (H0 : List (Nat × Obj)) (ff : FuncId) (fcap : List Value) (Pd : Pl → Prop) (fnd : Pl → Bool) (G : List Pl → List (Nat × Obj) → Prop) : Prop :=
 ∀ (p : Pl), Pd p → ∀ (q : List Pl) (M H : List (Nat × Obj)), H0.Sublist H → q.length ≤ 50000 → G q M → FSpec Tryz.prog w0 ff (.agg (encPl p).toArray :: fcap).toArray (M ++ H) (fun v H' => ∃ M2, (v = .bool (fnd p) ∧ G (q ++ [p]) M2) ∧ H' = M2 ++ H)
def Enters (f : FuncId) : Prop := ∀ args w, (callFunc f args).run Tryz.prog w = .ok (.enter f args) w
def NextI (w0 : World) (H0 : List (Nat × Obj)) (nf : FuncId) (ncap : List Value) (Pd : Pl → Prop) (ts : Pl → List (Pl × Nat)) : Prop :=
 ∀ (p : Pl), Pd p → ∀ (vf : FuncId) (vcap : List Value) (S : Nat → List (Nat × Obj) → Prop) (M H : List (Nat × Obj)), H0.Sublist H → Enters vf → S 0 M →
  (∀ j x M1 H1, (ts p)[j]? = some x → H.Sublist H1 → S j M1 → FSpec Tryz.prog w0 vf (.agg (encPl x.1).toArray :: .int .i64 (x.2 : Int) :: vcap).toArray (M1 ++ H1) (fun _ H' => ∃ M2, S (j + 1) M2 ∧ H' = M2 ++ H1)) →
  FSpec Tryz.prog w0 nf (.agg (encPl p).toArray :: .func (.func vf) #[] vcap.toArray :: ncap).toArray (M ++ H) (fun _ H' => ∃ M2, S (ts p).length M2 ∧ H' = M2 ++ H)
theorem vspI {w0 : World} {R : List (Nat × Obj)} {Pd : Pl → Prop} {ts : List (Pl × Nat)} {n18 n9 n8 n10 n11 k : Nat} {st : BS Nat} (hb : BSok Pd k st) (hk : k < st.l.length) (ht : ∀ x ∈ ts, Pd x.1) {N : Nat} (hN : ∀ l : List Pl, l.Nodup → (∀ p ∈ l, Pd p) → l.length ≤ N) (hN2 : N ≤ 100000) (h10 : Fnd R n10 (Cl [.map (some n18)] 72)) (h11 : Fnd R n11 (Cl [.int .i64 (k : Int)] 3)) :
  ∀ j x M1 H1, ts[j]? = some x → R.Sublist H1 → (∃ y, bsOkI (visAll k st (ts.take j)) y ∧ M1 = bsHI n18 n9 n8 (visAll k st (ts.take j)) y) →
   FSpec Tryz.prog w0 126 (.agg (encPl x.1).toArray :: .int .i64 (x.2 : Int) :: [.pointer (some ⟨n10, 0, none⟩), .pointer (some ⟨n8, 0, none⟩), .pointer (some ⟨n9, 0, none⟩), .pointer (some ⟨n11, 0, none⟩)]).toArray (M1 ++ H1) (fun _ H' => ∃ M2, (∃ y, bsOkI (visAll k st (ts.take (j + 1))) y ∧ M2 = bsHI n18 n9 n8 (visAll k st (ts.take (j + 1))) y) ∧ H' = M2 ++ H1) := by
 rintro j x M1 H1 hj hs ⟨y, hy, rfl⟩
 have h1 := (hb.visAll (k' := k) (ts.take j) hk (fun z hz => ht z (List.mem_of_mem_take hz))).1
 have h2 := hN _ h1.nd h1.ok
 refine (visI_s n18 n9 n8 n10 n11 k (visAll k st (ts.take j)) y x.1 x.2 hy (by omega) h1.len (h10.mono hs) (h11.mono hs)).mono ?_
 rintro v H' ⟨y2, hy2, rfl⟩
 rw [visAll_take k st hj]
 exact ⟨_, ⟨y2, hy2, rfl⟩, rfl⟩
theorem locBSI {e1 e2 : Nat × Obj} {n18 n9 n8 : Nat} {st : BS Nat} {x : Sl × Sl} {R : List (Nat × Obj)} : LocL (e1 :: e2 :: ((n18, mapO encPK encBv (trueM st.l)) :: (n9, Cl [slV x.2 st.w.length] 187) :: (n8, Cl [slV x.1 st.l.length] 59) :: (slH x.2 (st.w.flatMap encWI) 186 ++ (slH x.1 (st.l.flatMap encPl) 74 ++ R)))) (bsHI n18 n9 n8 st x) (e1 :: e2 :: R) (fun M' => e1 :: e2 :: (M' ++ R)) := by
 rw [← bsHI_app]; exact .t (.t .h)
theorem searchI_s {w0 : World} {H H0 : List (Nat × Obj)} (nf ff : FuncId) (ncap fcap : List Value) (Pd : Pl → Prop) (ts : Pl → List (Pl × Nat)) (fnd : Pl → Bool) (G : List Pl → List (Nat × Obj) → Prop) (N : Nat) (p0 : Pl) (Mg0 : List (Nat × Obj))
  (hnf : Enters nf) (hff : Enters ff) (hnext : NextI w0 H0 nf ncap Pd ts) (hfound : FoundS w0 H0 ff fcap Pd fnd G) (hts : ∀ p, Pd p → ∀ x ∈ ts p, Pd x.1) (hN : ∀ l : List Pl, l.Nodup → (∀ p ∈ l, Pd p) → l.length ≤ N) (hN2 : N ≤ 50000) (hp0 : Pd p0) (hG0 : G [] Mg0) (hH0 : H0.Sublist H) :
  FSpec Tryz.prog w0 78 #[.agg (encPl p0).toArray, .func (.func nf) #[] ncap.toArray, .func (.func ff) #[] fcap.toArray] (Mg0 ++ H) (fun v H' => ∃ x : Sl × List (Nat × Obj), (v = .tuple #[slV x.1 (srF ts fnd N p0).1.length, .bool (srF ts fnd N p0).2.1] ∧ SlOk x.1 (srF ts fnd N p0).1.length 1 ∧ G (srF ts fnd N p0).2.2 x.2) ∧ H' = slH x.1 ((srF ts fnd N p0).1.flatMap encU) 3 ++ (x.2 ++ H)) := by
 refine A9 Tryz.func78 E ntmps78 E (Ag (Ab (e_ (Ba (T E) cs_) ?_ E)))
 rintro _ _ ⟨n3, rfl, rfl⟩
 refine y_ (Ad Aj) (y_ (Ad Aj) (Af (Ae (Ag (Ab (y_ (Am (T E) isAgg74 sizeOf74 E (by first | exact Bb)) ?_ E))))) E) E
 refine e_ (Ap (.cons (T E) .nil) (bs59_1_0 _ _)) ?_ E
 rintro _ _ ⟨n15, rfl, rfl⟩
 refine y_ (B1 (.cons Aj .nil) (bd186_0 _)) (e_ (Ap (.cons (T E) .nil) (bs187_1_0 _ _)) ?_ E) E
 rintro _ _ ⟨n17, rfl, rfl⟩
 refine e_ (A5 zeroValue59 cs_) ?_ E
 rintro _ _ ⟨n8, rfl, rfl⟩
 refine e_ (A5 zeroValue187 cs_) ?_ E
 rintro _ _ ⟨n9, rfl, rfl⟩
 first | refine Bk (A7 (T E) (T E) sizeOf59) E Ah ?_ | refine Bk (Cg (T E) (T E) E sizeOf59) E Ah ?_ | refine Bk (B7 (T E) (T E) E sizeOf59) E Ah ?_
 rintro _ _ ⟨rfl, rfl⟩
 first | refine Bk (A7 (T E) (T E) sizeOf187) E Ah ?_ | refine Bk (Cg (T E) (T E) E sizeOf187) E Ah ?_ | refine Bk (B7 (T E) (T E) E sizeOf187) E Ah ?_
 rintro _ _ ⟨rfl, rfl⟩
 refine Af (Ae (Ag (Ab (e_ eff_makeMap ?_ E))))
 rintro _ _ ⟨n18, rfl, rfl⟩
 refine y_ (Am (T E) isAgg74 sizeOf74 E (by first | exact Bb)) ?_ E
 refine e_ (eff_insert (l := []) (encV := encBv) p0 true (keyP74 (V := Bool)) (T E) (T E) E Aj E runUnderlying72) ?_ E
 rintro _ _ ⟨rfl, rfl⟩
 refine y_ (Ac (T E)) (e_ (A5 zeroValue72 cs_) ?_ E) E
 rintro _ _ ⟨n10, rfl, rfl⟩
 first | refine Bk (A7 (T E) (T E) sizeOf72) E Ah ?_ | refine Bk (Cg (T E) (T E) E sizeOf72) E Ah ?_ | refine Bk (B7 (T E) (T E) E sizeOf72) E Ah ?_
 rintro _ _ ⟨rfl, rfl⟩
 refine Af (Ae (Ag (Ag (Ab (e_ (A5 zeroValue3 cs_) ?_ E)))))
 rintro _ _ ⟨n11, rfl, rfl⟩
 first | refine Bk (A7 (T E) Aj sizeOf3) E Ah ?_ | refine Bk (Cg (T E) Aj E sizeOf3) E Ah ?_ | refine Bk (B7 (T E) Aj E sizeOf3) E Ah ?_
 rintro _ _ ⟨rfl, rfl⟩
 refine Af (Ae (Aw ?_))
 refine Cm (X := Nat × BS Nat × (Sl × Sl) × Nat × List (Nat × Obj)) (V := fun ⟨k, st, x, m11, Mg⟩ => [(11, .pointer (some ⟨m11, 0, none⟩))]) (C := [(1, _), (2, _), (8, _), (9, _), (10, _)]) (G := fun ⟨k, st, x, m11, Mg⟩ => (m11, Cl [.int .i64 (k : Int)] 3) :: (n10, Cl [.map (some n18)] 72) :: ((n18, mapO encPK encBv (trueM st.l)) :: (n9, Cl [slV x.2 st.w.length] 187) :: (n8, Cl [slV x.1 st.l.length] 59) :: (slH x.2 (st.w.flatMap encWI) 186 ++ (slH x.1 (st.l.flatMap encPl) 74 ++ ((n3, Cl (encPl p0) 74) :: (Mg ++ H)))))) (φ := fun ⟨k, st, x, m11, Mg⟩ => BSok Pd k st ∧ bsOkI st x ∧ G (st.l.take k) Mg ∧ goF ts fnd (N + 1 - k) k st = goF ts fnd (N + 1) 0 ⟨[p0], [(-1, default)]⟩) (μ := fun ⟨k, st, x, m11, Mg⟩ => N + 1 - k) (x0 := (0, ⟨[p0], [(-1, default)]⟩, (.blk n15 1 [], .blk n17 1 []), n11, Mg0)) ?_ ⟨Aa rfl, Aa rfl, Aa rfl, Aa rfl, Aa rfl, trivial⟩ ⟨(by first | exact Aa rfl | (refine Ak (Aa rfl) (vint ?_); omega) | (refine Ak (Aa rfl) ?_; simp; done) | (refine Ak (Aa rfl) ?_; exact by simp only [List.length_append, List.length_cons, List.length_nil])), trivial⟩ sb0 ?_
 ·exact ⟨bs_start hp0, ⟨⟨Nat.le_refl _, rfl⟩, ⟨Nat.le_refl _, rfl⟩⟩, hG0, rfl⟩
 rintro ⟨k, st, x, m11, Mg⟩ ⟨hb, hx, hG, hgo⟩
 have hln := hN _ hb.nd hb.ok
 have hbl := hb.len
 have hbk0 := hb.kl
 refine Ag (Ag (Ab (y_ (Ai (T E) isAgg3 (by first | exact c_o)) ?_ E)))
 refine y_ (Ai (T E) isAgg59 (by first | exact c_o)) ?_ E
 refine y_ (Bp (T E) runUnderlying59) (y_ (Bu (T E) (T E)) (Af (Ae ?_)) E) E
 first | refine Ar (Aa E) (fun c24 => ?_) (fun c24 => ?_) | refine A6 (Aa E) (fun c24 => ?_) (fun c24 => ?_)
 ·have hkl : k < st.l.length := by omega
  have hpk := hb.ok _ (Bg hkl)
  refine A2 (Ae (Ag (Aw (Ag (Ag (Ab (y_ (Ac (T E)) (y_ (Ai (T E) isAgg59 (by first | exact c_o)) ?_ E) E)))))))
  refine y_ (Ai (T E) isAgg3 (by first | exact c_o)) ?_ E
  refine y_ (Be (T E) (T E) runUnderlying59 sizeOf74 (by omega) (by first | exact rfl | exact hx.o1.bas (by omega) | exact hx.o2.bas (by omega))) ?_ E
  refine y_ (Am (T E) isAgg74 sizeOf74 E (by first | exact ((Bq (X := H) (enc := encPl) (sz := 2) (e := 74) (l := st.l) (fun _ => rfl) hx.o1).mono sbt).cs (i := k) (by omega) | exact Bb)) ?_ E
  refine e_ (C9 (T E) (.cons (T E) .nil) hff (B5 Mg (by repeat (first | exact LocL.h | apply LocL.t | apply LocL.a)) (hfound (gd st.l k) (hb.ok _ (Bg (by omega))) (st.l.take k) Mg _ (hH0.trans (by exact sbt)) (by rw [List.length_take]; omega) hG))) ?_ E
  rintro _ _ ⟨Mg2, ⟨rfl, hG2⟩, rfl⟩
  refine Af (Ae ?_)
  first | refine Ar (Aa E) (fun c32 => ?_) (fun c32 => ?_) | refine A6 (Aa E) (fun c32 => ?_) (fun c32 => ?_)
  ·have hres : srF ts fnd N p0 = ((backF st.w (k + 1) k).reverse, true, st.l.take (k + 1)) := by
    unfold srF
    rw [← hgo, show N + 1 - k = (N - k) + 1 by omega, Da, if_pos hkl, if_pos c32]
   have htk : st.l.take k ++ [gd st.l k] = st.l.take (k + 1) := by rw [List.take_add_one, Dd hkl]; rfl
   rw [htk] at hG2
   refine Ag (Ab (y_ (Ad Aj) (Af (Ae (Ag (Ag (Ab (y_ (Ai (T E) isAgg3 (by first | exact c_o)) ?_ E)))))) E))
   refine y_ (Ad (T E)) (Af (Ae (Aw ?_))) E
   refine Cm (X := Nat × List Nat × Sl) (V := fun ⟨i, ol, d12⟩ => [(13, .int .i64 (i : Nat)), (12, slV d12 ol.length)]) (C := [(9, _)]) (G := fun ⟨i, ol, d12⟩ => slH d12 (ol.flatMap encU) 3 ++ ((m11, Cl [.int .i64 (k : Int)] 3) :: (n10, Cl [.map (some n18)] 72) :: ((n18, mapO encPK encBv (trueM st.l)) :: (n9, Cl [slV x.2 st.w.length] 187) :: (n8, Cl [slV x.1 st.l.length] 59) :: (slH x.2 (st.w.flatMap encWI) 186 ++ (slH x.1 (st.l.flatMap encPl) 74 ++ ((n3, Cl (encPl p0) 74) :: (Mg2 ++ H))))))) (φ := fun ⟨i, ol, d12⟩ => i < st.w.length ∧ SlOk d12 ol.length 1 ∧ ol ++ backF st.w (i + 1) i = backF st.w (k + 1) k ∧ ol.length + i ≤ k) (μ := fun ⟨i, ol, d12⟩ => i) (x0 := (k, [], .nil)) ?_ ⟨Aa rfl, trivial⟩ ⟨(by first | exact Aa rfl | (refine Ak (Aa rfl) (vint ?_); omega) | (refine Ak (Aa rfl) ?_; simp; done) | (refine Ak (Aa rfl) ?_; exact by simp only [List.length_append, List.length_cons, List.length_nil])), (by first | exact Aa rfl | (refine Ak (Aa rfl) (vint ?_); omega) | (refine Ak (Aa rfl) ?_; simp; done) | (refine Ak (Aa rfl) ?_; exact by simp only [List.length_append, List.length_cons, List.length_nil])), trivial⟩ sb0 ?_
   ·exact ⟨by omega, rfl, rfl, by simp⟩
   rintro ⟨i, ol, d12⟩ ⟨hi, ho12, hbk, hol⟩
   refine Ag (Ag (Ab (y_ (Ai (T E) isAgg187 (by first | exact c_o)) ?_ E)))
   refine y_ (Ac (T E)) (y_ (Be (T E) (T E) runUnderlying187 sizeOf186 (by omega) (by first | exact rfl | exact hx.o1.bas (by omega) | exact hx.o2.bas (by omega))) ?_ E) E
   refine y_ (Bc (T E) fa186_0) (y_ (Ai (T E) isAgg3 (by first | exact c_o | exact ((Bq (X := H) (enc := encWI) (sz := 2) (e := 186) (l := st.w) (fun _ => rfl) hx.o2).mono sbt).f0 (i := i) (by omega) E)) ?_ E) E
   refine y_ (C2 (T E) Aj) (Af (Ae ?_)) E
   first | refine Ar (Aa E) (fun c39 => ?_) (fun c39 => ?_) | refine A6 (Aa E) (fun c39 => ?_) (fun c39 => ?_)
   ·have hbi := hb.back i (by omega)
    have hti : (((gd st.w i).1.toNat : Nat) : Int) = (gd st.w i).1 := by omega
    refine A2 (Ae (Ag (Aw (Ab (y_ (Ac (T E)) (y_ (Ai (T E) isAgg187 (by first | exact c_o)) ?_ E) E)))))
    refine y_ (Ac (T E)) (y_ (Be (T E) (T E) runUnderlying187 sizeOf186 (by omega) (by first | exact rfl | exact hx.o1.bas (by omega) | exact hx.o2.bas (by omega))) ?_ E) E
    refine y_ (Bi (T E) fa186_1) (y_ (Ai (T E) isAgg3 (by first | exact c_o | exact ((Bq (X := H) (enc := encWI) (sz := 2) (e := 186) (l := st.w) (fun _ => rfl) hx.o2).mono sbt).f (i := i) (by omega) E)) ?_ E) E
    refine e_ (Ap (.cons (T E) .nil) (Cw _)) ?_ E
    rintro _ _ ⟨n51, rfl, rfl⟩
    refine e_ (B0 ((gd st.w i).2) (by' := 8) (by repeat (first | exact LocL.h | apply LocL.t | apply LocL.a)) (T E) (T E) runUnderlying42 runUnderlying42 sizeOf3 typeInfo3 E zeroValue3 E (fun _ => rfl) E ho12 (by decide) (by omega)) ?_ E
    rintro _ _ ⟨d', rfl, hokd, rfl⟩
    refine y_ (Ad (T E)) (Af (Bl (Ae (Ab (y_ (Ai (T E) isAgg187 (by first | exact c_o)) ?_ E))))) E
    refine y_ (Ac (T E)) (y_ (Be (T E) (T E) runUnderlying187 sizeOf186 (by omega) (by first | exact rfl | exact hx.o1.bas (by omega) | exact hx.o2.bas (by omega))) ?_ E) E
    refine y_ (Bc (T E) fa186_0) (y_ (Ai (T E) isAgg3 (by first | exact c_o | exact ((Bq (X := H) (enc := encWI) (sz := 2) (e := 186) (l := st.w) (fun _ => rfl) hx.o2).mono sbt).f0 (i := i) (by omega) E)) ?_ E) E
    refine y_ (Ad (T E)) (Af ?_) E
    refine Bn (((gd st.w i).1.toNat, ol ++ [(gd st.w i).2], d')) ?_ ?_ ⟨(by first | exact Aa E | (refine Ak (Aa E) (vint ?_); omega) | (refine Ak (Aa E) ?_; simp; done) | (refine Ak (Aa E) ?_; exact by simp only [List.length_append, List.length_cons, List.length_nil])), (by first | exact Aa E | (refine Ak (Aa E) (vint ?_); omega) | (refine Ak (Aa E) ?_; simp; done) | (refine Ak (Aa E) ?_; exact by simp only [List.length_append, List.length_cons, List.length_nil])), trivial⟩ ⟨Aa E, trivial⟩ ?_
    ·refine ⟨by omega, by simpa using hokd, ?_, by simp; omega⟩
     rw [← hbk, backF_succ st.w i i, if_pos c39, backF_fuel hb.back i _ (by omega) (by omega)]
     simp
    ·show (gd st.w i).1.toNat < i; omega
    ·exact sbt
   ·have hfin : ol = backF st.w (k + 1) k := by rw [← hbk, backF_succ, if_neg c39, List.append_nil]
    refine B4 (A0 (A4 (A3 (Ae (Ag (Ab (y_ (Ac (T E)) (e_ (A1 (.cons (T E) .nil) call125 (B5 (slH d12 (ol.flatMap encU) 3) (by repeat (first | exact LocL.h | apply LocL.t | apply LocL.a)) ((revI_s d12 ol ho12 (by omega)).toL))) ?_ E) E)))))))
    rintro _ _ ⟨_, rfl, rfl⟩
    refine Af (Ae (Ag (Ab (y_ (Ac (T E)) (y_ (Ad (T E)) (y_ (Ad Aj) (Af (Ae (Ay (Al (An (Al (Bo (An (Al (Az E (.tmp (Aa E) (.tmp (Aa E) .nil)) ?_)))))))))) E) E) E))))
    rw [hres]; subst hfin
    exact ⟨_, ⟨(d12, Mg2), ⟨by rw [List.length_reverse]; rfl, by rw [List.length_reverse]; exact ho12, hG2⟩, rfl⟩, sbt⟩
  ·refine A2 (Ae (Ab (y_ (Ac (T E)) (y_ (Ai (T E) isAgg59 (by first | exact c_o)) ?_ E) E)))
   refine y_ (Ai (T E) isAgg3 (by first | exact c_o)) ?_ E
   refine y_ (Be (T E) (T E) runUnderlying59 sizeOf74 (by omega) (by first | exact rfl | exact hx.o1.bas (by omega) | exact hx.o2.bas (by omega))) ?_ E
   refine y_ (Am (T E) isAgg74 sizeOf74 E (by first | exact ((Bq (X := H) (enc := encPl) (sz := 2) (e := 74) (l := st.l) (fun _ => rfl) hx.o1).mono sbt).cs (i := k) (by omega) | exact Bb)) ?_ E
   refine y_ (Cj (.cons (T E) (.cons (T E) (.cons (T E) (.cons (T E) .nil))))) ?_ E
   refine e_ (C9 (T E) (.cons (T E) (.cons (T E) .nil)) hnf (B5 (bsHI n18 n9 n8 st x) locBSI (hnext (gd st.l k) hpk 126 [.pointer (some ⟨n10, 0, none⟩), .pointer (some ⟨n8, 0, none⟩), .pointer (some ⟨n9, 0, none⟩), .pointer (some ⟨m11, 0, none⟩)] (fun j M => ∃ y, bsOkI (visAll k st ((ts (gd st.l k)).take j)) y ∧ M = bsHI n18 n9 n8 (visAll k st ((ts (gd st.l k)).take j)) y) _ _ (hH0.trans (by exact sbt)) call126 ⟨x, hx, rfl⟩ (vspI hb hkl (hts _ hpk) hN (by omega) (by repeat (first | exact By | refine As ?_ | refine Bd ?_)) (by repeat (first | exact By | refine As ?_ | refine Bd ?_)))))) ?_ E
   rintro _ _ ⟨_, ⟨y, hy, rfl⟩, rfl⟩
   rw [List.take_length] at hy ⊢
   rw [bsHI_app]
   refine Af (Bl (Ae (Ag (Ag (Ab (y_ (Ai (T E) isAgg3 (by first | exact c_o)) ?_ E))))))
   refine Af (Ae (Bh [(1, _), (2, _), (8, _), (9, _), (10, _), (63, _)] ⟨Aa E, Aa E, Aa E, Aa E, Aa E, Aa E, trivial⟩ (Ab (e_ (A5 zeroValue3 cs_) ?_ E))))
   rintro _ _ ⟨n11, rfl, rfl⟩
   first | refine Bk (A7 (T E) (T E) sizeOf3) E Ah ?_ | refine Bk (Cg (T E) (T E) E sizeOf3) E Ah ?_ | refine Bk (B7 (T E) (T E) E sizeOf3) E Ah ?_
   rintro _ _ ⟨rfl, rfl⟩
   refine Af (Ae (Ab (y_ (Ai (T E) isAgg3 (by first | exact c_o)) ?_ E)))
   refine y_ (Bt (T E) Aj (by omega)) ?_ E
   first | refine Bk (A7 (T E) (T E) sizeOf3) E Ah ?_ | refine Bk (Cg (T E) (T E) E sizeOf3) E Ah ?_ | refine Bk (B7 (T E) (T E) E sizeOf3) E Ah ?_
   rintro _ _ ⟨rfl, rfl⟩
   refine Af ?_
   refine Bn ((k + 1, visAll k st (ts (gd st.l k)), y, n11, Mg2)) ?_ ?_ ⟨(by first | exact Aa E | (refine Ak (Aa E) (vint ?_); omega) | (refine Ak (Aa E) ?_; simp; done) | (refine Ak (Aa E) ?_; exact by simp only [List.length_append, List.length_cons, List.length_nil])), trivial⟩ ⟨Aa E, Aa E, Aa E, Aa E, Aa E, trivial⟩ ?_
   ·obtain ⟨hb2, hge⟩ := hb.visAll (k' := k) (ts (gd st.l k)) hkl (hts _ hpk)
    refine ⟨⟨hb2.nd, hb2.ok, hb2.len, hb2.back, by omega⟩, hy, ?_, ?_⟩
    ·rw [visAll_pre _ _ (by omega), List.take_add_one, Dd hkl]; exact hG2
    ·rw [← hgo, show N + 1 - k = (N - k) + 1 by omega, Da, if_pos hkl, if_neg (by rw [c32]; decide), show N + 1 - (k + 1) = N - k by omega]
   ·show N + 1 - (k + 1) < N + 1 - k; omega
   ·exact sbt
 ·have hres : srF ts fnd N p0 = ([], false, st.l) := by
   unfold srF
   rw [← hgo, show N + 1 - k = (N - k) + 1 by omega, Da, if_neg (by omega)]
  refine B4 (A0 (A4 (A3 (Ae (Ag (Ab (y_ (Ad Aj) (y_ (Ad Aj) (Af (Ae (Ay (Az E (.tmp (Aa E) (.tmp (Aa E) .nil)) ?_)))) E) E)))))))
  rw [hres]
  have hkk : k = st.l.length := by omega
  rw [hkk, List.take_length] at hG
  exact ⟨_, ⟨(.nil, Mg), ⟨rfl, rfl, hG⟩, rfl⟩, sbt⟩
def NextS (w0 : World) (H0 : List (Nat × Obj)) (nf : FuncId) (ncap : List Value) (Pd : Pl → Prop) (ts : Pl → List (Pl × ByteArray)) : Prop :=
 ∀ (p : Pl), Pd p → ∀ (vf : FuncId) (vcap : List Value) (S : Nat → List (Nat × Obj) → Prop) (M H : List (Nat × Obj)), H0.Sublist H → Enters vf → S 0 M →
  (∀ j x M1 H1, (ts p)[j]? = some x → H.Sublist H1 → S j M1 → FSpec Tryz.prog w0 vf (.agg (encPl x.1).toArray :: .string x.2 :: vcap).toArray (M1 ++ H1) (fun _ H' => ∃ M2, S (j + 1) M2 ∧ H' = M2 ++ H1)) →
  FSpec Tryz.prog w0 nf (.agg (encPl p).toArray :: .func (.func vf) #[] vcap.toArray :: ncap).toArray (M ++ H) (fun _ H' => ∃ M2, S (ts p).length M2 ∧ H' = M2 ++ H)
theorem vspS {w0 : World} {R : List (Nat × Obj)} {Pd : Pl → Prop} {ts : List (Pl × ByteArray)} {n18 n9 n8 n10 n11 k : Nat} {st : BS ByteArray} (hb : BSok Pd k st) (hk : k < st.l.length) (ht : ∀ x ∈ ts, Pd x.1) {N : Nat} (hN : ∀ l : List Pl, l.Nodup → (∀ p ∈ l, Pd p) → l.length ≤ N) (hN2 : N ≤ 100000) (h10 : Fnd R n10 (Cl [.map (some n18)] 180)) (h11 : Fnd R n11 (Cl [.int .i64 (k : Int)] 3)) :
  ∀ j x M1 H1, ts[j]? = some x → R.Sublist H1 → (∃ y, bsOkS (visAll k st (ts.take j)) y ∧ M1 = bsHS n18 n9 n8 (visAll k st (ts.take j)) y) →
   FSpec Tryz.prog w0 120 (.agg (encPl x.1).toArray :: .string x.2 :: [.pointer (some ⟨n10, 0, none⟩), .pointer (some ⟨n8, 0, none⟩), .pointer (some ⟨n9, 0, none⟩), .pointer (some ⟨n11, 0, none⟩)]).toArray (M1 ++ H1) (fun _ H' => ∃ M2, (∃ y, bsOkS (visAll k st (ts.take (j + 1))) y ∧ M2 = bsHS n18 n9 n8 (visAll k st (ts.take (j + 1))) y) ∧ H' = M2 ++ H1) := by
 rintro j x M1 H1 hj hs ⟨y, hy, rfl⟩
 have h1 := (hb.visAll (k' := k) (ts.take j) hk (fun z hz => ht z (List.mem_of_mem_take hz))).1
 have h2 := hN _ h1.nd h1.ok
 refine (visS_s n18 n9 n8 n10 n11 k (visAll k st (ts.take j)) y x.1 x.2 hy (by omega) h1.len (h10.mono hs) (h11.mono hs)).mono ?_
 rintro v H' ⟨y2, hy2, rfl⟩
 rw [visAll_take k st hj]
 exact ⟨_, ⟨y2, hy2, rfl⟩, rfl⟩
theorem locBSS {e1 e2 : Nat × Obj} {n18 n9 n8 : Nat} {st : BS ByteArray} {x : Sl × Sl} {R : List (Nat × Obj)} : LocL (e1 :: e2 :: ((n18, mapO encPK encBv (trueM st.l)) :: (n9, Cl [slV x.2 st.w.length] 179) :: (n8, Cl [slV x.1 st.l.length] 176) :: (slH x.2 (st.w.flatMap encWS) 178 ++ (slH x.1 (st.l.flatMap encPl) 115 ++ R)))) (bsHS n18 n9 n8 st x) (e1 :: e2 :: R) (fun M' => e1 :: e2 :: (M' ++ R)) := by
 rw [← bsHS_app]; exact .t (.t .h)
theorem searchS_s {w0 : World} {H H0 : List (Nat × Obj)} (nf ff : FuncId) (ncap fcap : List Value) (Pd : Pl → Prop) (ts : Pl → List (Pl × ByteArray)) (fnd : Pl → Bool) (G : List Pl → List (Nat × Obj) → Prop) (N : Nat) (p0 : Pl) (Mg0 : List (Nat × Obj))
  (hnf : Enters nf) (hff : Enters ff) (hnext : NextS w0 H0 nf ncap Pd ts) (hfound : FoundS w0 H0 ff fcap Pd fnd G) (hts : ∀ p, Pd p → ∀ x ∈ ts p, Pd x.1) (hN : ∀ l : List Pl, l.Nodup → (∀ p ∈ l, Pd p) → l.length ≤ N) (hN2 : N ≤ 50000) (hp0 : Pd p0) (hG0 : G [] Mg0) (hH0 : H0.Sublist H) :
  FSpec Tryz.prog w0 71 #[.agg (encPl p0).toArray, .func (.func nf) #[] ncap.toArray, .func (.func ff) #[] fcap.toArray] (Mg0 ++ H) (fun v H' => ∃ x : Sl × List (Nat × Obj), (v = .tuple #[slV x.1 (srF ts fnd N p0).1.length, .bool (srF ts fnd N p0).2.1] ∧ SlOk x.1 (srF ts fnd N p0).1.length 1 ∧ G (srF ts fnd N p0).2.2 x.2) ∧ H' = slH x.1 ((srF ts fnd N p0).1.flatMap encS) 9 ++ (x.2 ++ H)) := by
 refine A9 Tryz.func71 E ntmps71 E (Ag (Ab (e_ (Ba (T E) cs_) ?_ E)))
 rintro _ _ ⟨n3, rfl, rfl⟩
 refine y_ (Ad Aj) (y_ (Ad Aj) (Af (Ae (Ag (Ab (y_ (Am (T E) isAgg115 sizeOf115 E (by first | exact Bb)) ?_ E))))) E) E
 refine e_ (Ap (.cons (T E) .nil) (bs176_1_0 _ _)) ?_ E
 rintro _ _ ⟨n15, rfl, rfl⟩
 refine y_ (B1 (.cons Aj .nil) (bd178_0 _)) (e_ (Ap (.cons (T E) .nil) (bs179_1_0 _ _)) ?_ E) E
 rintro _ _ ⟨n17, rfl, rfl⟩
 refine e_ (A5 zeroValue176 cs_) ?_ E
 rintro _ _ ⟨n8, rfl, rfl⟩
 refine e_ (A5 zeroValue179 cs_) ?_ E
 rintro _ _ ⟨n9, rfl, rfl⟩
 first | refine Bk (A7 (T E) (T E) sizeOf176) E Ah ?_ | refine Bk (Cg (T E) (T E) E sizeOf176) E Ah ?_ | refine Bk (B7 (T E) (T E) E sizeOf176) E Ah ?_
 rintro _ _ ⟨rfl, rfl⟩
 first | refine Bk (A7 (T E) (T E) sizeOf179) E Ah ?_ | refine Bk (Cg (T E) (T E) E sizeOf179) E Ah ?_ | refine Bk (B7 (T E) (T E) E sizeOf179) E Ah ?_
 rintro _ _ ⟨rfl, rfl⟩
 refine Af (Ae (Ag (Ab (e_ eff_makeMap ?_ E))))
 rintro _ _ ⟨n18, rfl, rfl⟩
 refine y_ (Am (T E) isAgg115 sizeOf115 E (by first | exact Bb)) ?_ E
 refine e_ (eff_insert (l := []) (encV := encBv) p0 true (keyP115 (V := Bool)) (T E) (T E) E Aj E runUnderlying180) ?_ E
 rintro _ _ ⟨rfl, rfl⟩
 refine y_ (Ac (T E)) (e_ (A5 zeroValue180 cs_) ?_ E) E
 rintro _ _ ⟨n10, rfl, rfl⟩
 first | refine Bk (A7 (T E) (T E) sizeOf180) E Ah ?_ | refine Bk (Cg (T E) (T E) E sizeOf180) E Ah ?_ | refine Bk (B7 (T E) (T E) E sizeOf180) E Ah ?_
 rintro _ _ ⟨rfl, rfl⟩
 refine Af (Ae (Ag (Ag (Ab (e_ (A5 zeroValue3 cs_) ?_ E)))))
 rintro _ _ ⟨n11, rfl, rfl⟩
 first | refine Bk (A7 (T E) Aj sizeOf3) E Ah ?_ | refine Bk (Cg (T E) Aj E sizeOf3) E Ah ?_ | refine Bk (B7 (T E) Aj E sizeOf3) E Ah ?_
 rintro _ _ ⟨rfl, rfl⟩
 refine Af (Ae (Aw ?_))
 refine Cm (X := Nat × BS ByteArray × (Sl × Sl) × Nat × List (Nat × Obj)) (V := fun ⟨k, st, x, m11, Mg⟩ => [(11, .pointer (some ⟨m11, 0, none⟩))]) (C := [(1, _), (2, _), (8, _), (9, _), (10, _)]) (G := fun ⟨k, st, x, m11, Mg⟩ => (m11, Cl [.int .i64 (k : Int)] 3) :: (n10, Cl [.map (some n18)] 180) :: ((n18, mapO encPK encBv (trueM st.l)) :: (n9, Cl [slV x.2 st.w.length] 179) :: (n8, Cl [slV x.1 st.l.length] 176) :: (slH x.2 (st.w.flatMap encWS) 178 ++ (slH x.1 (st.l.flatMap encPl) 115 ++ ((n3, Cl (encPl p0) 115) :: (Mg ++ H)))))) (φ := fun ⟨k, st, x, m11, Mg⟩ => BSok Pd k st ∧ bsOkS st x ∧ G (st.l.take k) Mg ∧ goF ts fnd (N + 1 - k) k st = goF ts fnd (N + 1) 0 ⟨[p0], [(-1, default)]⟩) (μ := fun ⟨k, st, x, m11, Mg⟩ => N + 1 - k) (x0 := (0, ⟨[p0], [(-1, default)]⟩, (.blk n15 1 [], .blk n17 1 []), n11, Mg0)) ?_ ⟨Aa rfl, Aa rfl, Aa rfl, Aa rfl, Aa rfl, trivial⟩ ⟨(by first | exact Aa rfl | (refine Ak (Aa rfl) (vint ?_); omega) | (refine Ak (Aa rfl) ?_; simp; done) | (refine Ak (Aa rfl) ?_; exact by simp only [List.length_append, List.length_cons, List.length_nil])), trivial⟩ sb0 ?_
 ·exact ⟨bs_start hp0, ⟨⟨Nat.le_refl _, rfl⟩, ⟨Nat.le_refl _, rfl⟩⟩, hG0, rfl⟩
 rintro ⟨k, st, x, m11, Mg⟩ ⟨hb, hx, hG, hgo⟩
 have hln := hN _ hb.nd hb.ok
 have hbl := hb.len
 have hbk0 := hb.kl
 refine Ag (Ag (Ab (y_ (Ai (T E) isAgg3 (by first | exact c_o)) ?_ E)))
 refine y_ (Ai (T E) isAgg176 (by first | exact c_o)) ?_ E
 refine y_ (Bp (T E) runUnderlying176) (y_ (Bu (T E) (T E)) (Af (Ae ?_)) E) E
 first | refine Ar (Aa E) (fun c24 => ?_) (fun c24 => ?_) | refine A6 (Aa E) (fun c24 => ?_) (fun c24 => ?_)
 ·have hkl : k < st.l.length := by omega
  have hpk := hb.ok _ (Bg hkl)
  refine A2 (Ae (Ag (Aw (Ag (Ag (Ab (y_ (Ac (T E)) (y_ (Ai (T E) isAgg176 (by first | exact c_o)) ?_ E) E)))))))
  refine y_ (Ai (T E) isAgg3 (by first | exact c_o)) ?_ E
  refine y_ (Be (T E) (T E) runUnderlying176 sizeOf115 (by omega) (by first | exact rfl | exact hx.o1.bas (by omega) | exact hx.o2.bas (by omega))) ?_ E
  refine y_ (Am (T E) isAgg115 sizeOf115 E (by first | exact ((Bq (X := H) (enc := encPl) (sz := 2) (e := 115) (l := st.l) (fun _ => rfl) hx.o1).mono sbt).cs (i := k) (by omega) | exact Bb)) ?_ E
  refine e_ (C9 (T E) (.cons (T E) .nil) hff (B5 Mg (by repeat (first | exact LocL.h | apply LocL.t | apply LocL.a)) (hfound (gd st.l k) (hb.ok _ (Bg (by omega))) (st.l.take k) Mg _ (hH0.trans (by exact sbt)) (by rw [List.length_take]; omega) hG))) ?_ E
  rintro _ _ ⟨Mg2, ⟨rfl, hG2⟩, rfl⟩
  refine Af (Ae ?_)
  first | refine Ar (Aa E) (fun c32 => ?_) (fun c32 => ?_) | refine A6 (Aa E) (fun c32 => ?_) (fun c32 => ?_)
  ·have hres : srF ts fnd N p0 = ((backF st.w (k + 1) k).reverse, true, st.l.take (k + 1)) := by
    unfold srF
    rw [← hgo, show N + 1 - k = (N - k) + 1 by omega, Da, if_pos hkl, if_pos c32]
   have htk : st.l.take k ++ [gd st.l k] = st.l.take (k + 1) := by rw [List.take_add_one, Dd hkl]; rfl
   rw [htk] at hG2
   refine Ag (Ab (y_ (Ad Aj) (Af (Ae (Ag (Ag (Ab (y_ (Ai (T E) isAgg3 (by first | exact c_o)) ?_ E)))))) E))
   refine y_ (Ad (T E)) (Af (Ae (Aw ?_))) E
   refine Cm (X := Nat × List ByteArray × Sl) (V := fun ⟨i, ol, d12⟩ => [(13, .int .i64 (i : Nat)), (12, slV d12 ol.length)]) (C := [(9, _)]) (G := fun ⟨i, ol, d12⟩ => slH d12 (ol.flatMap encS) 9 ++ ((m11, Cl [.int .i64 (k : Int)] 3) :: (n10, Cl [.map (some n18)] 180) :: ((n18, mapO encPK encBv (trueM st.l)) :: (n9, Cl [slV x.2 st.w.length] 179) :: (n8, Cl [slV x.1 st.l.length] 176) :: (slH x.2 (st.w.flatMap encWS) 178 ++ (slH x.1 (st.l.flatMap encPl) 115 ++ ((n3, Cl (encPl p0) 115) :: (Mg2 ++ H))))))) (φ := fun ⟨i, ol, d12⟩ => i < st.w.length ∧ SlOk d12 ol.length 1 ∧ ol ++ backF st.w (i + 1) i = backF st.w (k + 1) k ∧ ol.length + i ≤ k) (μ := fun ⟨i, ol, d12⟩ => i) (x0 := (k, [], .nil)) ?_ ⟨Aa rfl, trivial⟩ ⟨(by first | exact Aa rfl | (refine Ak (Aa rfl) (vint ?_); omega) | (refine Ak (Aa rfl) ?_; simp; done) | (refine Ak (Aa rfl) ?_; exact by simp only [List.length_append, List.length_cons, List.length_nil])), (by first | exact Aa rfl | (refine Ak (Aa rfl) (vint ?_); omega) | (refine Ak (Aa rfl) ?_; simp; done) | (refine Ak (Aa rfl) ?_; exact by simp only [List.length_append, List.length_cons, List.length_nil])), trivial⟩ sb0 ?_
   ·exact ⟨by omega, rfl, rfl, by simp⟩
   rintro ⟨i, ol, d12⟩ ⟨hi, ho12, hbk, hol⟩
   refine Ag (Ag (Ab (y_ (Ai (T E) isAgg179 (by first | exact c_o)) ?_ E)))
   refine y_ (Ac (T E)) (y_ (Be (T E) (T E) runUnderlying179 sizeOf178 (by omega) (by first | exact rfl | exact hx.o1.bas (by omega) | exact hx.o2.bas (by omega))) ?_ E) E
   refine y_ (Bc (T E) fa178_0) (y_ (Ai (T E) isAgg3 (by first | exact c_o | exact ((Bq (X := H) (enc := encWS) (sz := 2) (e := 178) (l := st.w) (fun _ => rfl) hx.o2).mono sbt).f0 (i := i) (by omega) E)) ?_ E) E
   refine y_ (C2 (T E) Aj) (Af (Ae ?_)) E
   first | refine Ar (Aa E) (fun c39 => ?_) (fun c39 => ?_) | refine A6 (Aa E) (fun c39 => ?_) (fun c39 => ?_)
   ·have hbi := hb.back i (by omega)
    have hti : (((gd st.w i).1.toNat : Nat) : Int) = (gd st.w i).1 := by omega
    refine A2 (Ae (Ag (Aw (Ab (y_ (Ac (T E)) (y_ (Ai (T E) isAgg179 (by first | exact c_o)) ?_ E) E)))))
    refine y_ (Ac (T E)) (y_ (Be (T E) (T E) runUnderlying179 sizeOf178 (by omega) (by first | exact rfl | exact hx.o1.bas (by omega) | exact hx.o2.bas (by omega))) ?_ E) E
    refine y_ (Bi (T E) fa178_1) (y_ (Ai (T E) isAgg9 (by first | exact c_o | exact ((Bq (X := H) (enc := encWS) (sz := 2) (e := 178) (l := st.w) (fun _ => rfl) hx.o2).mono sbt).f (i := i) (by omega) E)) ?_ E) E
    refine e_ (Ap (.cons (T E) .nil) (De _)) ?_ E
    rintro _ _ ⟨n51, rfl, rfl⟩
    refine e_ (B0 ((gd st.w i).2) (by' := 16) (by repeat (first | exact LocL.h | apply LocL.t | apply LocL.a)) (T E) (T E) runUnderlying25 runUnderlying25 sizeOf9 typeInfo9 E zeroValue9 E (fun _ => rfl) E ho12 (by decide) (by omega)) ?_ E
    rintro _ _ ⟨d', rfl, hokd, rfl⟩
    refine y_ (Ad (T E)) (Af (Bl (Ae (Ab (y_ (Ai (T E) isAgg179 (by first | exact c_o)) ?_ E))))) E
    refine y_ (Ac (T E)) (y_ (Be (T E) (T E) runUnderlying179 sizeOf178 (by omega) (by first | exact rfl | exact hx.o1.bas (by omega) | exact hx.o2.bas (by omega))) ?_ E) E
    refine y_ (Bc (T E) fa178_0) (y_ (Ai (T E) isAgg3 (by first | exact c_o | exact ((Bq (X := H) (enc := encWS) (sz := 2) (e := 178) (l := st.w) (fun _ => rfl) hx.o2).mono sbt).f0 (i := i) (by omega) E)) ?_ E) E
    refine y_ (Ad (T E)) (Af ?_) E
    refine Bn (((gd st.w i).1.toNat, ol ++ [(gd st.w i).2], d')) ?_ ?_ ⟨(by first | exact Aa E | (refine Ak (Aa E) (vint ?_); omega) | (refine Ak (Aa E) ?_; simp; done) | (refine Ak (Aa E) ?_; exact by simp only [List.length_append, List.length_cons, List.length_nil])), (by first | exact Aa E | (refine Ak (Aa E) (vint ?_); omega) | (refine Ak (Aa E) ?_; simp; done) | (refine Ak (Aa E) ?_; exact by simp only [List.length_append, List.length_cons, List.length_nil])), trivial⟩ ⟨Aa E, trivial⟩ ?_
    ·refine ⟨by omega, by simpa using hokd, ?_, by simp; omega⟩
     rw [← hbk, backF_succ st.w i i, if_pos c39, backF_fuel hb.back i _ (by omega) (by omega)]
     simp
    ·show (gd st.w i).1.toNat < i; omega
    ·exact sbt
   ·have hfin : ol = backF st.w (k + 1) k := by rw [← hbk, backF_succ, if_neg c39, List.append_nil]
    refine B4 (A0 (A4 (A3 (Ae (Ag (Ab (y_ (Ac (T E)) (e_ (A1 (.cons (T E) .nil) call119 (B5 (slH d12 (ol.flatMap encS) 9) (by repeat (first | exact LocL.h | apply LocL.t | apply LocL.a)) ((revS_s d12 ol ho12 (by omega)).toL))) ?_ E) E)))))))
    rintro _ _ ⟨_, rfl, rfl⟩
    refine Af (Ae (Ag (Ab (y_ (Ac (T E)) (y_ (Ad (T E)) (y_ (Ad Aj) (Af (Ae (Ay (Al (An (Al (Bo (An (Al (Az E (.tmp (Aa E) (.tmp (Aa E) .nil)) ?_)))))))))) E) E) E))))
    rw [hres]; subst hfin
    exact ⟨_, ⟨(d12, Mg2), ⟨by rw [List.length_reverse]; rfl, by rw [List.length_reverse]; exact ho12, hG2⟩, rfl⟩, sbt⟩
  ·refine A2 (Ae (Ab (y_ (Ac (T E)) (y_ (Ai (T E) isAgg176 (by first | exact c_o)) ?_ E) E)))
   refine y_ (Ai (T E) isAgg3 (by first | exact c_o)) ?_ E
   refine y_ (Be (T E) (T E) runUnderlying176 sizeOf115 (by omega) (by first | exact rfl | exact hx.o1.bas (by omega) | exact hx.o2.bas (by omega))) ?_ E
   refine y_ (Am (T E) isAgg115 sizeOf115 E (by first | exact ((Bq (X := H) (enc := encPl) (sz := 2) (e := 115) (l := st.l) (fun _ => rfl) hx.o1).mono sbt).cs (i := k) (by omega) | exact Bb)) ?_ E
   refine y_ (Cj (.cons (T E) (.cons (T E) (.cons (T E) (.cons (T E) .nil))))) ?_ E
   refine e_ (C9 (T E) (.cons (T E) (.cons (T E) .nil)) hnf (B5 (bsHS n18 n9 n8 st x) locBSS (hnext (gd st.l k) hpk 120 [.pointer (some ⟨n10, 0, none⟩), .pointer (some ⟨n8, 0, none⟩), .pointer (some ⟨n9, 0, none⟩), .pointer (some ⟨m11, 0, none⟩)] (fun j M => ∃ y, bsOkS (visAll k st ((ts (gd st.l k)).take j)) y ∧ M = bsHS n18 n9 n8 (visAll k st ((ts (gd st.l k)).take j)) y) _ _ (hH0.trans (by exact sbt)) call120 ⟨x, hx, rfl⟩ (vspS hb hkl (hts _ hpk) hN (by omega) (by repeat (first | exact By | refine As ?_ | refine Bd ?_)) (by repeat (first | exact By | refine As ?_ | refine Bd ?_)))))) ?_ E
   rintro _ _ ⟨_, ⟨y, hy, rfl⟩, rfl⟩
   rw [List.take_length] at hy ⊢
   rw [bsHS_app]
   refine Af (Bl (Ae (Ag (Ag (Ab (y_ (Ai (T E) isAgg3 (by first | exact c_o)) ?_ E))))))
   refine Af (Ae (Bh [(1, _), (2, _), (8, _), (9, _), (10, _), (63, _)] ⟨Aa E, Aa E, Aa E, Aa E, Aa E, Aa E, trivial⟩ (Ab (e_ (A5 zeroValue3 cs_) ?_ E))))
   rintro _ _ ⟨n11, rfl, rfl⟩
   first | refine Bk (A7 (T E) (T E) sizeOf3) E Ah ?_ | refine Bk (Cg (T E) (T E) E sizeOf3) E Ah ?_ | refine Bk (B7 (T E) (T E) E sizeOf3) E Ah ?_
   rintro _ _ ⟨rfl, rfl⟩
   refine Af (Ae (Ab (y_ (Ai (T E) isAgg3 (by first | exact c_o)) ?_ E)))
   refine y_ (Bt (T E) Aj (by omega)) ?_ E
   first | refine Bk (A7 (T E) (T E) sizeOf3) E Ah ?_ | refine Bk (Cg (T E) (T E) E sizeOf3) E Ah ?_ | refine Bk (B7 (T E) (T E) E sizeOf3) E Ah ?_
   rintro _ _ ⟨rfl, rfl⟩
   refine Af ?_
   refine Bn ((k + 1, visAll k st (ts (gd st.l k)), y, n11, Mg2)) ?_ ?_ ⟨(by first | exact Aa E | (refine Ak (Aa E) (vint ?_); omega) | (refine Ak (Aa E) ?_; simp; done) | (refine Ak (Aa E) ?_; exact by simp only [List.length_append, List.length_cons, List.length_nil])), trivial⟩ ⟨Aa E, Aa E, Aa E, Aa E, Aa E, trivial⟩ ?_
   ·obtain ⟨hb2, hge⟩ := hb.visAll (k' := k) (ts (gd st.l k)) hkl (hts _ hpk)
    refine ⟨⟨hb2.nd, hb2.ok, hb2.len, hb2.back, by omega⟩, hy, ?_, ?_⟩
    ·rw [visAll_pre _ _ (by omega), List.take_add_one, Dd hkl]; exact hG2
    ·rw [← hgo, show N + 1 - k = (N - k) + 1 by omega, Da, if_pos hkl, if_neg (by rw [c32]; decide), show N + 1 - (k + 1) = N - k by omega]
   ·show N + 1 - (k + 1) < N + 1 - k; omega
   ·exact sbt
 ·have hres : srF ts fnd N p0 = ([], false, st.l) := by
   unfold srF
   rw [← hgo, show N + 1 - k = (N - k) + 1 by omega, Da, if_neg (by omega)]
  refine B4 (A0 (A4 (A3 (Ae (Ag (Ab (y_ (Ad Aj) (y_ (Ad Aj) (Af (Ae (Ay (Az E (.tmp (Aa E) (.tmp (Aa E) .nil)) ?_)))) E) E)))))))
  rw [hres]
  have hkk : k = st.l.length := by omega
  rw [hkk, List.take_length] at hG
  exact ⟨_, ⟨(.nil, Mg), ⟨rfl, rfl, hG⟩, rfl⟩, sbt⟩
theorem goF_ok {σ : Type} [Inhabited σ] {Pd : Pl → Prop} {ts : Pl → List (Pl × σ)} (hts : ∀ p, Pd p → ∀ x ∈ ts p, Pd x.1) {fnd : Pl → Bool} : ∀ (f k : Nat) (st : BS σ), BSok Pd k st → ∃ k', BSok Pd k' (goF ts fnd f k st).2
 | 0, k, st, h => ⟨k, h⟩
 | f + 1, k, st, h => by
  rw [Da]
  split
  ·rename_i hk
   split
   ·exact ⟨k, h⟩
   ·obtain ⟨h2, h3⟩ := h.visAll (k' := k) (ts (gd st.l k)) hk (hts _ (h.ok _ (Bg hk)))
    exact goF_ok hts f (k + 1) _ ⟨h2.nd, h2.ok, h2.len, h2.back, by omega⟩
  ·exact ⟨k, h⟩
theorem srF_met {σ : Type} [Inhabited σ] {Pd : Pl → Prop} {ts : Pl → List (Pl × σ)} (hts : ∀ p, Pd p → ∀ x ∈ ts p, Pd x.1) {fnd : Pl → Bool} {p0 : Pl} (hp0 : Pd p0) (N : Nat) : (srF ts fnd N p0).2.2.Nodup ∧ ∀ p ∈ (srF ts fnd N p0).2.2, Pd p := by
 obtain ⟨k', h⟩ := goF_ok hts (fnd := fnd) (N + 1) 0 ⟨[p0], [(-1, default)]⟩ (bs_start hp0)
 unfold srF
 cases hg : goF ts fnd (N + 1) 0 ⟨[p0], [(-1, default)]⟩ with
 | mk a st =>
  rw [hg] at h
  cases a with
  | none => exact ⟨h.nd, h.ok⟩
  | some k => exact ⟨h.nd.sublist (List.take_sublist _ _), fun p hp => h.ok p (List.mem_of_mem_take hp)⟩
theorem searchI_at {w0 : World} {H H0 : List (Nat × Obj)} (nf ff : FuncId) (ncap fcap : List Value) (Pd : Pl → Prop) (ts : Pl → List (Pl × Nat)) (fnd : Pl → Bool) (G : List Pl → List (Nat × Obj) → Prop) (N : Nat) (p0 : Pl) (Mg0 : List (Nat × Obj))
  (hnf : Enters nf) (hff : Enters ff) (hnext : NextI w0 H0 nf ncap Pd ts) (hfound : FoundS w0 H0 ff fcap Pd fnd G) (hts : ∀ p, Pd p → ∀ x ∈ ts p, Pd x.1) (hN : ∀ l : List Pl, l.Nodup → (∀ p ∈ l, Pd p) → l.length ≤ N) (hN2 : N ≤ 50000) (hp0 : Pd p0) (hG0 : G [] Mg0) (hH0 : H0.Sublist H) :
  FSpec Tryz.prog w0 78 #[.agg (encPl p0).toArray, .func (.func nf) #[] ncap.toArray, .func (.func ff) #[] fcap.toArray] (Mg0 ++ H) (fun v H' => ∃ x : Sl × List (Nat × Obj), (v = .tuple #[slV x.1 (srF ts fnd N p0).1.length, .bool (srF ts fnd N p0).2.1] ∧ SlOk x.1 (srF ts fnd N p0).1.length 1 ∧ G (srF ts fnd N p0).2.2 x.2) ∧ H' = (slH x.1 ((srF ts fnd N p0).1.flatMap encU) 3 ++ x.2) ++ H) :=
 (searchI_s nf ff ncap fcap Pd ts fnd G N p0 Mg0 hnf hff hnext hfound hts hN hN2 hp0 hG0 hH0).mono fun v H' ⟨x, h1, h2⟩ => ⟨x, h1, by rw [List.append_assoc]; exact h2⟩
end Go.Proofs.YtkdolgnpkjihpaaGreatDoor
namespace Go.Proofs.YtkdolgnpkjihpaaGreatDoor
open _root_.Go.Proofs.Tryz
open Go.RowKit
set_option linter.unusedVariables false
set_option linter.unusedSimpArgs false
theorem bd74_0_1 (a0 : Int) (a1 : Int) (w : World) : (Instr.build 74 #[(0, .int .i64 a0), (1, .int .i64 a1)]).run Tryz.prog w = .ok (.agg #[.int .i64 a0, .int .i64 a1]) w := by kernel_rfl
theorem Dw (b o : Nat) (w : World) : (Instr.fieldAt 138 (.pointer (some ⟨b, o, none⟩)) 0).run Tryz.prog w = .ok (.pointer (some ⟨b, o, none⟩)) w := by kernel_rfl
theorem C8 (b o : Nat) (w : World) : (Instr.fieldAt 56 (.pointer (some ⟨b, o, none⟩)) 0).run Tryz.prog w = .ok (.pointer (some ⟨b, o, none⟩)) w := by kernel_rfl
theorem Dm (b o : Nat) (w : World) : (Instr.fieldAt 74 (.pointer (some ⟨b, o, none⟩)) 0).run Tryz.prog w = .ok (.pointer (some ⟨b, o, none⟩)) w := by kernel_rfl
theorem Du (b o : Nat) (w : World) : (Instr.fieldAt 74 (.pointer (some ⟨b, o, none⟩)) 1).run Tryz.prog w = .ok (.pointer (some ⟨b, o + 1, none⟩)) w := by kernel_rfl
def nmF (n : Nn) (x : Nat) : ByteArray := (gd n.nodes x).name
def mvF (n : Nn) (m : PM) (s : Nat) (l : Nat) : Pl × Nat := (((gd n.links l).dst, afterF m s (nmF n (gd n.links l).dst)), l)
def movK (n : Nn) (f : Flr) (m : PM) (p : Pl) (i : Nat) : List (Pl × Nat) := (((outF n p.1).take i).filter (upF n f)).map (mvF n m p.2)
def movesF (n : Nn) (f : Flr) (m : PM) (p : Pl) : List (Pl × Nat) := ((outF n p.1).filter (upF n f)).map (mvF n m p.2)
theorem movK_yes {n : Nn} {f : Flr} {m : PM} {p : Pl} {i : Nat} (h : i < (outF n p.1).length) (hu : upF n f (gd (outF n p.1) i) = true) : movK n f m p (i + 1) = movK n f m p i ++ [mvF n m p.2 (gd (outF n p.1) i)] := by
 unfold movK; rw [List.take_add_one, Dd h, List.filter_append, List.map_append]; simp [hu]
theorem movK_no {n : Nn} {f : Flr} {m : PM} {p : Pl} {i : Nat} (h : i < (outF n p.1).length) (hu : upF n f (gd (outF n p.1) i) = false) : movK n f m p (i + 1) = movK n f m p i := by
 unfold movK; rw [List.take_add_one, Dd h, List.filter_append]; simp [hu]
theorem movK_get {n : Nn} {f : Flr} {m : PM} {p : Pl} {i : Nat} (h : i < (outF n p.1).length) (hu : upF n f (gd (outF n p.1) i) = true) : (movesF n f m p)[(movK n f m p i).length]? = some (mvF n m p.2 (gd (outF n p.1) i)) := by
 have e : movesF n f m p = movK n f m p (i + 1) ++ (((outF n p.1).drop (i + 1)).filter (upF n f)).map (mvF n m p.2) := by
  unfold movesF movK; rw [← List.map_append, ← List.filter_append, List.take_append_drop]
 rw [e, movK_yes h hu, List.append_assoc, List.getElem?_append_right (Nat.le_refl _)]
 simp
theorem movK_all {n : Nn} {f : Flr} {m : PM} {p : Pl} : movK n f m p (outF n p.1).length = movesF n f m p := by
 unfold movK movesF; rw [List.take_length]
def PlOk (n : Nn) (m : PM) (p : Pl) : Prop := p.1 < n.nodes.length ∧ p.2 < m.next.length
theorem moves_ok {n : Nn} (hok : NnOk n) {f : Flr} {m : PM} (hp : PMok m) (p : Pl) (h : PlOk n m p) : ∀ x ∈ movesF n f m p, PlOk n m x.1 := by
 intro x hx
 unfold movesF at hx
 simp only [List.mem_map, List.mem_filter] at hx
 obtain ⟨l, ⟨hl, _⟩, rfl⟩ := hx
 have h1 := ((mem_outK n p.1 l n.links.length).1 hl).1
 exact ⟨(hok.ends _ (Bg h1)).2, after_lt hp h.2 _⟩
theorem pl_few (n : Nn) (m : PM) : ∀ l : List Pl, l.Nodup → (∀ p ∈ l, PlOk n m p) → l.length ≤ n.nodes.length * m.next.length := fun l h1 h2 => grid_few h1 h2
def fndF (to : Nat) (m : PM) (p : Pl) : Bool := decide (p.1 = to) && gd m.acc p.2
structure Env (w0 : World) (H : List (Nat × Obj)) (n : Nn) (f : Flr) (m : Mc) : Prop where
 n : NetR w0 H n
 f : Arr w0 H f.q 1 encI f.links
 m : McOk w0 H m
theorem Env.mono {w0 : World} {H H' : List (Nat × Obj)} {n : Nn} {f : Flr} {m : Mc} (h : Env w0 H n f m) (hs : H.Sublist H' := by exact sbt) : Env w0 H' n f m := ⟨h.n.mono hs, h.f.mono hs, h.m.mono hs⟩
structure EnvOk (n : Nn) (f : Flr) (m : Mc) : Prop where
 on : NnOk n
 fl : f.links.length ≤ 4611686018427387903
 om : PMok m.pl
 sr : Srt m.names
 ln : m.names.length ≤ 4611686018427387903
theorem begin_s {w0 : World} {H : List (Nat × Obj)} (n : Nn) (m : Mc) (hn : NetR w0 H n) (hm : McOk w0 H m) (hp : PMok m.pl) (hsr : Srt m.names) (hl : m.names.length ≤ 4611686018427387903) (x : Nat) (hx : x < n.nodes.length) :
  FSpec Tryz.prog w0 79 #[.agg (encNn n).toArray, .agg (encMc m).toArray, .int .i64 (x : Int)] H (Still (.agg (encPl (x, afterF m.pl 0 (nmF n x))).toArray) H) := by
 refine A9 Tryz.func79 E ntmps79 E (Ag (Ab (e_ (Ba (T E) cs_) ?_ E)))
 rintro _ _ ⟨n3, rfl, rfl⟩
 refine e_ (Ba (T E) cs_) ?_ E
 rintro _ _ ⟨n4, rfl, rfl⟩
 refine e_ (A5 zeroValue74 cs_) ?_ E
 rintro _ _ ⟨n6, rfl, rfl⟩
 refine Af (Ae (Ag (Ch 10 [(0, true), (1, true), (2, true), (3, true), (4, true), (5, true), (6, true), (7, true), (8, true), (9, true)] _ mixd (by kernel_rfl) sb0 ?_)))
 refine o_y E (Ac (T E)) (o_y E (Am (T E) isAgg29 sizeOf29 E (by first | exact Bb | exact (hn.nodes.mono sbt).f0 (i := x) hx E)) ?_ E Ah) E Ah
 refine o_y E (Bc (T E) C8) (o_y E (Ai (T E) isAgg52 (by first | exact c_o | exact (hn.nodes.mono sbt).f0 (i := x) hx E)) ?_ E Ah) E Ah
 refine o_y E (Ac (T E)) (o_y E (Be (T E) (T E) runUnderlying52 sizeOf138 (by omega) (by first | exact rfl | exact hn.nodes.b (i := x) hx)) ?_ E Ah) E Ah
 refine o_y E (Bc (T E) Dw) (o_y E (Ai (T E) isAgg9 (by first | exact c_o | exact (hn.nodes.mono sbt).f0 (i := x) hx E)) ?_ E Ah) E Ah
 refine o_y E (Av (.cons (T E) (.cons Aj (.cons (T E) .nil))) call69 (fun H' hs => after_s m (hm.mono (List.Sublist.trans sbt hs)) hp hsr hl 0 (by have := hp.some'; rw [show m.pl.next.length = m.rows.length from List.length_map ..] at this; exact this) _)) ?_ E Ah
 refine o_y E (B1 (.cons (T E) (.cons (T E) .nil)) (bd74_0_1 _ _)) (Bx E ?_) E Ah
 first | refine Bk (A7 (T E) (T E) sizeOf74) E Ah ?_
 rintro _ _ ⟨rfl, rfl⟩
 refine Af (Ae (Ay (Az E (.cellA (Aa E) isAgg74 sizeOf74 E (by first | exact Bb | exact (hn.nodes.mono sbt).f0 (i := x) hx E) .nil) ?_)))
 exact ⟨_, ⟨rfl, rfl⟩, sbt⟩
theorem moves1_s {w0 : World} {H0 : List (Nat × Obj)} (n : Nn) (f : Flr) (m : Mc) (he : Env w0 H0 n f m) (ho : EnvOk n f m) (b3 b4 b5 : Nat) (h3 : Fnd H0 b3 (Cl (encNn n) 56)) (h4 : Fnd H0 b4 (Cl (encFl f) 58)) (h5 : Fnd H0 b5 (Cl (encMc m) 29)) :
  NextI w0 H0 127 [.pointer (some ⟨b3, 0, none⟩), .pointer (some ⟨b4, 0, none⟩), .pointer (some ⟨b5, 0, none⟩)] (PlOk n m.pl) (movesF n f m.pl) := by
 intro p hpd vf vcap S M0 H hH0 hvf hS0 hv
 show FSpec Tryz.prog w0 127 #[.agg (encPl p).toArray, .func (.func vf) #[] vcap.toArray, .pointer (some ⟨b3, 0, none⟩), .pointer (some ⟨b4, 0, none⟩), .pointer (some ⟨b5, 0, none⟩)] (M0 ++ H) _
 have hok := ho.on
 have hfL := hok.fewL
 have hol : (outF n p.1).length ≤ n.links.length := outK_len n p.1 n.links.length
 have hrl : m.pl.next.length = m.rows.length := List.length_map ..
 have hp2 : p.2 < m.rows.length := by have := hpd.2; omega
 refine A9 Tryz.func127 E ntmps127 E (Ag (Ab (e_ (Ba (T E) cs_) ?_ E)))
 rintro _ _ ⟨n5, rfl, rfl⟩
 refine Af (Ae (Ag (Ab (y_ (Am (T E) isAgg56 sizeOf56 E (by first | exact Dq (cells_own h3) (hH0.trans (by exact sbt)) | exact Bb)) ?_ E))))
 refine y_ (Bc (T E) Dm) (y_ (Ai (T E) isAgg3 (by first | exact c_o)) ?_ E) E
 refine e_ (A1 (.cons (T E) (.cons (T E) .nil)) call128 (gout_s n (he.n.mono (hH0.trans (by exact sbt))) hok p.1)) ?_ E
 rintro _ _ ⟨dq, ⟨rfl, hdq⟩, rfl⟩
 refine y_ (Bp (T E) runUnderlying42) (y_ (Ac Aj) (Af (Ae (Aw ?_))) E) E
 refine Cm (X := Nat × List (Nat × Obj)) (V := fun ⟨i, M⟩ => [(15, .int .i64 (i : Nat))]) (C := [(1, _), (2, _), (3, _), (4, _), (5, _), (13, _), (14, _)]) (G := fun ⟨i, M⟩ => slH dq ((outF n p.1).flatMap encU) 3 ++ ((n5, Cl (encPl p) 74) :: (M ++ H))) (φ := fun ⟨i, M⟩ => i ≤ (outF n p.1).length ∧ S (movK n f m.pl p i).length M) (μ := fun ⟨i, M⟩ => (outF n p.1).length - i) (x0 := (0, M0)) ?_ ⟨Aa rfl, Aa rfl, Aa rfl, Aa rfl, Aa rfl, Aa rfl, Aa rfl, trivial⟩ ⟨(by first | exact Aa rfl | (refine Ak (Aa rfl) (vint ?_); omega) | (refine Ak (Aa rfl) ?_; simp; done)), trivial⟩ sb0 ?_
 ·exact ⟨Nat.zero_le _, hS0⟩
 rintro ⟨i, M⟩ ⟨hi, hS⟩
 refine Ag (Ab (y_ (Bu (T E) (T E)) (Af (Ae (Ag ?_))) E))
 first | refine Ar (Aa E) (fun c16 => ?_) (fun c16 => ?_) | refine A6 (Aa E) (fun c16 => ?_) (fun c16 => ?_)
 ·have hli := (mem_outK n p.1 (gd (outF n p.1) i) n.links.length).1 (Bg (show i < (outF n p.1).length by omega))
  have hll := hli.1
  have hdd := (hok.ends _ (Bg hll)).2
  refine A2 (Ae (Ag (Aw (Ag (Ab (y_ (Be (T E) (T E) runUnderlying42 sizeOf3 (by omega) (by first | exact rfl | exact hdq.bas (by omega) | exact he.n.links.b (i := gd (outF n p.1) i) hll | exact he.n.nodes.b (i := (gd n.links (gd (outF n p.1) i)).dst) hdd)) ?_ E))))))
  refine y_ (Ai (T E) isAgg3 (by first | exact c_o | exact cell1 (((Bq (X := H) (enc := encU) (sz := 1) (e := 3) (l := outF n p.1) (fun _ => rfl) hdq).mono sbt).cs (i := i) (by omega)))) ?_ E
  refine y_ (Ad (T E)) (Af (Ae (Ag (Ab (y_ (Am (T E) isAgg56 sizeOf56 E (by first | exact Dq (cells_own h3) (hH0.trans (by exact sbt)) | exact Bb)) ?_ E))))) E
  refine y_ (Am (T E) isAgg58 sizeOf58 E (by first | exact Dq (cells_own h4) (hH0.trans (by exact sbt)) | exact Bb)) ?_ E
  refine y_ (Ac (T E)) (y_ (Av (.cons (T E) (.cons (T E) (.cons (T E) .nil))) call39 (fun H' hs => gup_s n (he.n.mono ((hH0.trans (by exact sbt)).trans hs)) f (he.f.mono ((hH0.trans (by exact sbt)).trans hs)) ho.fl (gd (outF n p.1) i) hll)) ?_ E) E
  refine Af (Ae ?_)
  first | refine Ar (Aa E) (fun c22 => ?_) (fun c22 => ?_) | refine A6 (Aa E) (fun c22 => ?_) (fun c22 => ?_)
  ·refine Ag (Ab (y_ (Bi (T E) C6) (y_ (Ai (T E) isAgg53 (by first | exact c_o | exact c_o (hf := h3.mono (hH0.trans (by exact sbt))))) ?_ E) E))
   refine y_ (Ac (T E)) (y_ (Be (T E) (T E) runUnderlying53 sizeOf71 (by omega) (by first | exact rfl | exact hdq.bas (by omega) | exact he.n.links.b (i := gd (outF n p.1) i) hll | exact he.n.nodes.b (i := (gd n.links (gd (outF n p.1) i)).dst) hdd)) ?_ E) E
   refine y_ (Bi (T E) fa71_1) (y_ (Ai (T E) isAgg3 (by first | exact c_o | exact ((he.n.links.mono (hH0.trans (by exact sbt))).f (i := gd (outF n p.1) i) hll E))) ?_ E) E
   refine y_ (Ad (T E)) (Af (Ae (Ch 14 [(0, true), (1, true), (2, true), (3, true), (4, true), (5, true), (6, true), (7, true), (8, true), (9, true), (10, true), (11, true), (12, true), (13, true)] _ mixd (by kernel_rfl) sb0 ?_))) E
   refine o_y E (Ac (T E)) (o_y E (Ac (T E)) (o_y E (Am (T E) isAgg29 sizeOf29 E (by first | exact Dq (cells_own h5) (hH0.trans (by exact sbt)) | exact Bb)) ?_ E Ah) E Ah) E Ah
   refine o_y E (Bi (T E) Du) (o_y E (Ai (T E) isAgg3 (by first | exact c_o)) ?_ E Ah) E Ah
   refine o_y E (Bc (T E) C8) (o_y E (Ai (T E) isAgg52 (by first | exact c_o | exact c_o (hf := h3.mono (hH0.trans (by exact sbt))))) ?_ E Ah) E Ah
   refine o_y E (Ac (T E)) (o_y E (Be (T E) (T E) runUnderlying52 sizeOf138 (by omega) (by first | exact rfl | exact hdq.bas (by omega) | exact he.n.links.b (i := gd (outF n p.1) i) hll | exact he.n.nodes.b (i := (gd n.links (gd (outF n p.1) i)).dst) hdd)) ?_ E Ah) E Ah
   refine o_y E (Bc (T E) Dw) (o_y E (Ai (T E) isAgg9 (by first | exact c_o | exact ((he.n.nodes.mono (hH0.trans (by exact sbt))).f0 (i := (gd n.links (gd (outF n p.1) i)).dst) hdd E))) ?_ E Ah) E Ah
   refine o_y E (Av (.cons (T E) (.cons (T E) (.cons (T E) .nil))) call69 (fun H' hs => after_s m (he.m.mono ((hH0.trans (by exact sbt)).trans hs)) ho.om ho.sr ho.ln p.2 hp2 _)) ?_ E Ah
   refine o_y E (B1 (.cons (T E) (.cons (T E) .nil)) (bd74_0_1 _ _)) (o_y E (Ac (T E)) (Bx E (e_ (C9 (T E) (.cons (T E) (.cons (T E) .nil)) hvf (B5 M (by repeat (first | exact LocL.h | apply LocL.t | apply LocL.a)) (hv (movK n f m.pl p i).length (mvF n m.pl p.2 (gd (outF n p.1) i)) M _ (movK_get (by omega) c22) (by exact sbt) hS))) ?_ E)) E Ah) E Ah
   rintro _ _ ⟨M2, hS2, rfl⟩
   refine Af (Bl (Ae (Bh [(1, _), (2, _), (3, _), (4, _), (5, _), (13, _), (14, _), (15, _)] ⟨Aa E, Aa E, Aa E, Aa E, Aa E, Aa E, Aa E, Aa E, trivial⟩ (Ab (y_ (Bt (T E) Aj (by omega)) ?_ E)))))
   refine y_ (Ac (T E)) (Af ?_) E
   refine Bn ((i + 1, M2)) ?_ ?_ ⟨(by first | exact Aa E | (refine Ak (Aa E) (vint ?_); omega) | (refine Ak (Aa E) ?_; simp; done)), trivial⟩ ⟨Aa E, Aa E, Aa E, Aa E, Aa E, Aa E, Aa E, trivial⟩ ?_
   ·exact ⟨by omega, by rw [movK_yes (by omega) c22, List.length_append]; exact hS2⟩
   ·first | omega | (simp only []; omega)
   ·exact sbt
  ·refine A2 (Bl (Ae (Ab (y_ (Bt (T E) Aj (by omega)) ?_ E))))
   refine y_ (Ac (T E)) (Af ?_) E
   refine Bn ((i + 1, M)) ?_ ?_ ⟨(by first | exact Aa E | (refine Ak (Aa E) (vint ?_); omega) | (refine Ak (Aa E) ?_; simp; done)), trivial⟩ ⟨Aa E, Aa E, Aa E, Aa E, Aa E, Aa E, Aa E, trivial⟩ ?_
   ·exact ⟨by omega, by rw [movK_no (by omega) c22]; exact hS⟩
   ·first | omega | (simp only []; omega)
   ·exact sbt
 ·refine B4 (A0 (A4 (A3 (Dh E .nil ?_))))
  have hi2 : i = (outF n p.1).length := by omega
  rw [hi2, movK_all] at hS
  exact ⟨_, ⟨M, hS, rfl⟩, sbt⟩
end Go.Proofs.YtkdolgnpkjihpaaGreatDoor
namespace Go.Proofs.YtkdolgnpkjihpaaGreatDoor
open _root_.Go.Proofs.Tryz
open Go.RowKit Go.Sort Go.Shelf Go.Proofs
set_option linter.unusedVariables false
set_option linter.unusedSimpArgs false
section
variable {α : Type} [Inhabited α] {enc : α → List Value} {k : Nat}
theorem flat_get2 (he : ∀ x, (enc x).length = k) (l : List α) (t : Nat) (ht : t < l.length * k) : (l.flatMap enc)[t]? = some ((enc l[t / k]!)[t % k]!) := by
  have hk : 0 < k := by rcases Nat.eq_zero_or_pos k with h | h; · subst h; simp at ht
                        · exact h
  have h1 : t / k < l.length := by rw [Nat.div_lt_iff_lt_mul hk]; exact ht
  have h2 : t % k < k := Nat.mod_lt _ hk
  have h3 : l[t / k]? = some l[t / k]! := by simp [h1]
  have h4 : (enc l[t / k]!)[t % k]? = some ((enc l[t / k]!)[t % k]!) := by
    have : t % k < (enc l[t / k]!).length := by rw [he]; exact h2
    rw [List.getElem?_eq_getElem this, getElem!_pos (enc l[t / k]!) (t % k) this]
  have := flat_get he l (t / k) (l[t / k]!) (t % k) ((enc l[t / k]!)[t % k]!) h3 h4
  rw [show t / k * k + t % k = t from by rw [Nat.mul_comm]; exact Nat.div_add_mod t k] at this
  exact this
theorem flatK_list (he : ∀ x, (enc x).length = k) (l : List α) : flatK enc k l.toArray = (l.flatMap enc).toArray := by
 apply Array.ext_getElem?
 intro t
 by_cases ht : t < l.length * k
 ·have h1 := flat_get2 he l t ht
  have h2 : (l.flatMap enc).toArray[t]? = some ((enc l[t / k]!)[t % k]!) := by rw [List.getElem?_toArray]; exact h1
  rw [h2]
  simp [flatK, ht]
 ·rw [Array.getElem?_eq_none (by simp; omega), Array.getElem?_eq_none (by simp only [List.size_toArray]; rw [flat_len he]; omega)]
variable {w0 w : World} {n : Nat} {junk : List Value} {e : TypeId} {X : List (Nat × Obj)}
theorem own_holdsK (he : ∀ x, (enc x).length = k) {l : List α} (hO : Own w0 ((n, Cl (l.flatMap enc ++ junk) e) :: X) w) : HoldsK enc k w n 0 l.toArray := by
 unfold HoldsK
 rw [flatK_list he]
 have : l.flatMap enc = (l.flatMap enc).map id := by simp
 rw [this] at hO
 exact own_holds hO
theorem own_rowK (he : ∀ x, (enc x).length = k) {l l' : List α} (hO : Own w0 ((n, Cl (l.flatMap enc ++ junk) e) :: X) w) (hl : l.length = l'.length) (q : Nat) (os : Array Obj) : Own w0 ((n, Cl (l'.flatMap enc ++ junk) e) :: X) (sortWorldK enc k w n 0 q l'.toArray os) := by
 unfold sortWorldK putRowK
 rw [flatK_list he]
 have e1 : l.flatMap enc = (l.flatMap enc).map id := by simp
 have e2 : l'.flatMap enc = (l'.flatMap enc).map id := by simp
 rw [e1] at hO
 rw [e2]
 have := own_row (enc := id) hO (l' := (l'.flatMap enc)) (by rw [flat_len he, flat_len he, hl]) q os
 simpa using this
end
theorem sorted_list {α : Type} [Inhabited α] {lt : α → α → Bool} {l : List α} {d : Array α} (hp : PermIn 0 l.length l.toArray d) (hs : SortedIn lt 0 l.length d) : d.toList.Perm l ∧ d.toList.Pairwise (fun a b => lt b a = false) := by
 obtain ⟨h1, _, h3⟩ := hp
 have hsz : d.size = l.length := by simpa using h1
 have e1 : d.extract 0 l.length = d := by rw [← hsz]; simp
 have e2 : l.toArray.extract 0 l.length = l.toArray := by simp
 rw [e1, e2] at h3
 refine ⟨h3, ?_⟩
 rw [List.pairwise_iff_getElem]
 intro i j hi hj hij
 have hi' : i < d.size := by simpa using hi
 have hj' : j < d.size := by simpa using hj
 have := hs i j (Nat.zero_le _) hij (by omega)
 rw [getElem!_pos d i hi', getElem!_pos d j hj'] at this
 simpa using this
end Go.Proofs.YtkdolgnpkjihpaaGreatDoor
namespace Go.Proofs.YtkdolgnpkjihpaaGreatDoor
open _root_.Go.Proofs.Tryz
open Go.RowKit
set_option linter.unusedVariables false
set_option linter.unusedSimpArgs false
theorem bs42_2_0_1 (a0 : Int) (a1 : Int) (w : World) : (Instr.buildSlice 42 2 #[(0, .int .i64 a0), (1, .int .i64 a1)]).run Tryz.prog w = .ok (.slice (some ⟨w.heap.size, 0, none⟩) 2 2) (w.alloc (Cl [.int .i64 a0, .int .i64 a1] 3)) := by kernel_rfl
def cmpI (a b : Int) : Int := if a < b then -1 else if b < a then 1 else 0
def orI (l : List Int) : Int := (l.find? fun x => decide (¬ x = 0)).getD 0
def cmpPl (a b : Int × Int) : Int := if ¬ cmpI a.1 b.1 = 0 then cmpI a.1 b.1 else cmpI a.2 b.2
abbrev encPI (p : Int × Int) : List Value := [.int .i64 p.1, .int .i64 p.2]
theorem orI_none : ∀ {l : List Int}, (∀ j, j < l.length → gd l j = 0) → orI l = 0
 | [], _ => rfl
 | x :: l, h => by
  have h0 : x = 0 := h 0 (by simp)
  have := orI_none (l := l) (fun j hj => h (j + 1) (by simpa using hj))
  unfold orI at *
  rw [List.find?_cons]; simp [h0]; simpa using this
theorem orI_some : ∀ {l : List Int} {i : Nat}, i < l.length → (∀ j, j < i → gd l j = 0) → ¬ gd l i = 0 → orI l = gd l i
 | x :: l, 0, _, _, h => by
  have : ¬ x = 0 := h
  show orI (x :: l) = x
  unfold orI; rw [List.find?_cons]; simp [this]
 | x :: l, i + 1, hi, h, h2 => by
  have h0 : x = 0 := h 0 (by omega)
  have := orI_some (l := l) (i := i) (by simpa using hi) (fun j hj => h (j + 1) (by omega)) h2
  rw [show gd (x :: l) (i + 1) = gd l i from rfl]
  unfold orI at *
  rw [List.find?_cons]; simp [h0]; simpa using this
theorem orI_two (x y : Int) : orI [x, y] = if ¬ x = 0 then x else y := by
 unfold orI; rw [List.find?_cons, List.find?_cons]
 by_cases h : x = 0
 ·by_cases h2 : y = 0 <;> simp [h, h2]
 ·simp [h]
theorem own_grown {w w' : World} (h : Own w [] w') : ∃ q os, w' = Sort.grow (w.drewN q) os := by
 refine ⟨w'.drawn - w.drawn, w'.heap.extract w.heap.size w'.heap.size, ?_⟩
 obtain ⟨hb, _, _, _, hd⟩ := h
 have e1 : w.drawn + (w'.drawn - w.drawn) = w'.drawn := by omega
 have e2 : w.heap ++ w'.heap.extract w.heap.size w'.heap.size = w'.heap := by
  apply Array.ext_getElem?
  intro i
  have hs := hb.size
  by_cases hi : i < w.heap.size
  ·rw [Array.getElem?_append_left hi, hb.block i hi]
  ·rw [Array.getElem?_append_right (by omega), Array.getElem?_extract]
   by_cases h2 : i < w'.heap.size
   ·simp only [show i - w.heap.size < min w'.heap.size w'.heap.size - w.heap.size by omega, if_true]
    congr 1; omega
   ·rw [if_neg (by omega)]; simp; omega
 show w' = { heap := w.heap ++ w'.heap.extract w.heap.size w'.heap.size, tape := w.tape, drawn := w.drawn + (w'.drawn - w.drawn), os := w.os, output := w.output }
 rw [e1, e2, ← hb.os, ← hb.tape, ← hb.output]
theorem nanI_s {w0 : World} {H : List (Nat × Obj)} (a : Int) :
  FSpec Tryz.prog w0 157 #[.int .i64 a] H (Still (.bool false) H) := by
 refine A9 Tryz.func157 E ntmps157 E (Ag (Ab (y_ (Ad Aj) (Af (Ae (Ag (Ab (y_ (Ac (T E)) (y_ (Ac (T E)) (y_ (Cu (T E) (T E)) (y_ (Ad (T E)) (Af (Ae (Ay (Az E (.tmp (Aa E) .nil) ?_)))) E) E) E) E))))) E)))
 exact ⟨_, ⟨vbool (by simp), rfl⟩, sbt⟩
theorem cmpI_s {w0 : World} {H : List (Nat × Obj)} (a b : Int) :
  FSpec Tryz.prog w0 133 #[.int .i64 a, .int .i64 b] H (Still (.int .i64 (cmpI a b)) H) := by
 refine A9 Tryz.func133 E ntmps133 E (Ag (Ab (y_ (Ad Aj) (Af (Ae (Ag (Ab (y_ (Ac (T E)) (y_ (Av (.cons (T E) .nil) call157 (fun H' hs => nanI_s _)) (y_ (Ad (T E)) (Af (Ae (Ag (Ab (y_ (Ac (T E)) (y_ (Av (.cons (T E) .nil) call157 (fun H' hs => nanI_s _)) (y_ (Ad (T E)) (Af (Ae (Ag (Ag (Ab (y_ (Ac (T E)) (Af (Ae ?_)) E)))))) E) E) E))))) E) E) E))))) E)))
 first | refine Br (Aa E) ?_ | refine Br (Ak (Aa E) (vbool (decide_eq_false c11))) ?_
 refine A2 (Ae (Ag (Ag (Ab (y_ (Ac (T E)) (Af (Ae ?_)) E)))))
 first | refine Br (Aa E) ?_ | refine Br (Ak (Aa E) (vbool (decide_eq_false c13))) ?_
 refine A2 (Ae (Ag (Ag (Ab (y_ (Ac (T E)) (y_ (Ac (T E)) (y_ (Bu (T E) (T E)) (Af (Ae ?_)) E) E) E)))))
 first | refine Ar (Aa E) (fun c16 => ?_) (fun c16 => ?_) | refine A6 (Aa E) (fun c16 => ?_) (fun c16 => ?_)
 ·refine Ag (Ab (y_ (Ad Aj) (Af (Ae (Ay (Al (Az E (.tmp (Aa E) .nil) (⟨_, ⟨vint ?_, rfl⟩, sbt⟩)))))) E))
  unfold cmpI
  first | (rw [if_pos c16]) | (rw [if_neg c16, if_pos (by omega)]) | (rw [if_neg c16, if_neg (by omega)])
 ·refine A2 (Ae (Ag (Ag (Ab (y_ (Ac (T E)) (y_ (Ac (T E)) (y_ (C7 (T E) (T E)) (Af (Ae ?_)) E) E) E)))))
  first | refine Ar (Aa E) (fun c19 => ?_) (fun c19 => ?_) | refine A6 (Aa E) (fun c19 => ?_) (fun c19 => ?_)
  ·refine Ag (Ab (y_ (Ad Aj) (Af (Ae (Ay (Al (Az E (.tmp (Aa E) .nil) (⟨_, ⟨vint ?_, rfl⟩, sbt⟩)))))) E))
   unfold cmpI
   first | (rw [if_pos c16]) | (rw [if_neg c16, if_pos (by omega)]) | (rw [if_neg c16, if_neg (by omega)])
  ·refine A2 (Ae (Ag (Ab (y_ (Ad Aj) (Af (Ae (Ay (Az E (.tmp (Aa E) .nil) (⟨_, ⟨vint ?_, rfl⟩, sbt⟩))))) E))))
   unfold cmpI
   first | (rw [if_pos c16]) | (rw [if_neg c16, if_pos (by omega)]) | (rw [if_neg c16, if_neg (by omega)])
theorem orI_s {w0 : World} {H : List (Nat × Obj)} (l : List Int) (q : Option Addr) (c : Nat) (hA : Arr w0 H q 1 encI l) (hlen : l.length ≤ 1000000) :
  FSpec Tryz.prog w0 132 #[.slice q l.length c] H (Still (.int .i64 (orI l)) H) := by
 refine A9 Tryz.func132 E ntmps132 E (Ag (Ab (y_ (Ad Aj) (Af (Ae (Ag (Ab (y_ (Ad Aj) (Af (Ae (Ag (Ag (Ab (y_ (Ac (T E)) (y_ (Bp (T E) runUnderlying42) (y_ (Ac Aj) (Af (Ae (Aw ?_))) E) E) E)))))) E))))) E)))
 refine Cc (X := Nat) (V := fun i => [(8, .int .i64 (i : Nat))]) (C := [(3, _), (6, _), (7, _)]) (φ := fun i => i ≤ l.length ∧ ∀ j, j < i → gd l j = 0) (μ := fun i => l.length - i) (x0 := 0) ?_ ⟨Aa E, Aa E, Aa E, trivial⟩ ⟨(by first | exact Aa E | (refine Ak (Aa E) (vint ?_); omega) | (refine Ak (Aa E) ?_; simp; done)), trivial⟩ ?_
 ·exact ⟨Nat.zero_le _, fun j hj => absurd hj (Nat.not_lt_zero _)⟩
 rintro i ⟨hi, hz⟩
 refine Ag (Ab (y_ (Bu (T E) (T E)) (Af (Ae (Ag ?_))) E))
 first | refine Ar (Aa E) (fun c9 => ?_) (fun c9 => ?_) | refine A6 (Aa E) (fun c9 => ?_) (fun c9 => ?_)
 ·refine A2 (Ae (Ag (Aw (Ag (Ab (y_ (Be (T E) (T E) runUnderlying42 sizeOf3 (by omega) (by first | exact rfl | exact hA.b (i := i) (by omega))) ?_ E))))))
  refine y_ (Ai (T E) isAgg3 (by first | exact c_o | exact cell1 ((hA.mono sbt).cs (i := i) (by omega)))) ?_ E
  refine y_ (Ad (T E)) (Af (Ae (Ag (Ab (y_ (Ac (T E)) (y_ (Ac (T E)) (y_ (Cu (T E) (T E)) (Af (Ae ?_)) E) E) E))))) E
  first | refine Ar (Aa E) (fun c14 => ?_) (fun c14 => ?_) | refine A6 (Aa E) (fun c14 => ?_) (fun c14 => ?_)
  ·refine Ag (Ab (y_ (Ac (T E)) (y_ (Ad (T E)) (Af (Ae (Ay (An (Al (Bo (An (Al (Az E (.tmp (Aa E) .nil) ?_))))))))) E) E))
   exact ⟨_, ⟨vint (by rw [orI_some (by omega) hz (by omega)]), rfl⟩, sbt⟩
  ·refine A2 (Bl (Ae (Ab (y_ (Bt (T E) Aj (by omega)) ?_ E))))
   refine y_ (Ac (T E)) (Af ?_) E
   refine Bn (i + 1) ?_ ?_ ⟨(by first | exact Aa E | (refine Ak (Aa E) (vint ?_); omega) | (refine Ak (Aa E) ?_; simp; done)), trivial⟩ ⟨Aa E, Aa E, Aa E, trivial⟩ ?_
   ·refine ⟨by omega, fun j hj => ?_⟩
    by_cases e : j = i
    ·subst e; omega
    ·exact hz j (by omega)
   ·first | omega | (simp only []; omega)
   ·exact sbt
 ·refine B4 (A0 (A4 (A3 (Ae (Ag (Ab (y_ (Ac (T E)) (y_ (Ad (T E)) (Af (Ae (Ay (Az E (.tmp (Aa E) .nil) ?_)))) E) E)))))))
  exact ⟨_, ⟨vint (by rw [orI_none (fun j hj => hz j (by omega))]), rfl⟩, sbt⟩
theorem arr2 {w0 : World} {H : List (Nat × Obj)} {n : Nat} {a b : Int} {t : TypeId} (hf : Fnd H n (Cl [.int .i64 a, .int .i64 b] t)) : Arr w0 H (some ⟨n, 0, none⟩) 1 encI [a, b] := fun i x hi => by
 refine ⟨rfl, fun j v hj => ?_⟩
 match i, hi with
 | 0, hi =>
  have : a = x := by simpa using hi
  subst this
  match j, hj with
  | 0, hj =>
   have : Value.int .i64 a = v := by simpa using hj
   subst this
   exact C3 hf E
 | 1, hi =>
  have : b = x := by simpa using hi
  subst this
  match j, hj with
  | 0, hj =>
   have : Value.int .i64 b = v := by simpa using hj
   subst this
   exact C3 hf E
theorem cmpPl_s {w0 : World} {H : List (Nat × Obj)} (a b : Int × Int) :
  FSpec Tryz.prog w0 90 #[.agg (encPI a).toArray, .agg (encPI b).toArray] H (Still (.int .i64 (cmpPl a b)) H) := by
 refine A9 Tryz.func90 E ntmps90 E (Ag (Ab (e_ (Ba (T E) cs_) ?_ E)))
 rintro _ _ ⟨n2, rfl, rfl⟩
 refine e_ (Ba (T E) cs_) ?_ E
 rintro _ _ ⟨n3, rfl, rfl⟩
 refine y_ (Ad Aj) (Af (Ae (Ag (Ch 11 [(0, true), (1, true), (2, true), (3, true), (4, true), (5, true), (6, true), (7, true), (8, true), (9, true), (10, false)] _ mixd (by kernel_rfl) sb0 ?_)))) E
 refine o_y E (Bc (T E) Dm) (o_y E (Ai (T E) isAgg3 (by first | exact c_o)) ?_ E Ah) E Ah
 refine o_y E (Bc (T E) Dm) (o_y E (Ai (T E) isAgg3 (by first | exact c_o)) ?_ E Ah) E Ah
 refine o_y E (Av (.cons (T E) (.cons (T E) .nil)) call133 (fun H' hs => cmpI_s _ _)) (o_y E (Bi (T E) Du) (o_y E (Ai (T E) isAgg3 (by first | exact c_o)) ?_ E Ah) E Ah) E Ah
 refine o_y E (Bi (T E) Du) (o_y E (Ai (T E) isAgg3 (by first | exact c_o)) ?_ E Ah) E Ah
 refine o_y E (Av (.cons (T E) (.cons (T E) .nil)) call133 (fun H' hs => cmpI_s _ _)) (o_e E (Ap (.cons (T E) (.cons (T E) .nil)) (bs42_2_0_1 _ _)) ?_ E Ah) E Ah
 rintro _ _ ⟨n15, rfl, rfl⟩
 refine ⟨sbt, (Bx E ?_)⟩
 refine e_ (A1 (.cons (T E) .nil) call132 (orI_s [cmpI a.1 b.1, cmpI a.2 b.2] _ _ (arr2 (by repeat (first | exact By | refine As ?_ | refine Bd ?_))) (by simp))) ?_ E
 rintro _ _ ⟨rfl, rfl⟩
 refine y_ (Ad (T E)) (Af (Ae (Ay (Az E (.tmp (Aa E) .nil) ?_)))) E
 exact ⟨_, ⟨vint (by rw [orI_two]; rfl), rfl⟩, sbt⟩
def laysSF_ren : Go.Shelf.Ren := ⟨fun | 6 => 89 | 15 => 131 | 14 => 130 | 28 => 155 | 29 => 156 | 20 => 147 | 21 => 148 | 22 => 149 | 23 => 150 | 24 => 151 | 25 => 152 | 26 => 153 | 27 => 154 | 46 => 171 | 47 => 172 | 48 => 173 | 49 => 174 | 50 => 175 | 57 => 186 | n => n, fun | 22 => 59 | 24 => 74 | 25 => 142 | 3 => 3 | 39 => 192 | 0 => 0 | 53 => 214 | 55 => 84 | 4 => 4 | 46 => 208 | 45 => 207 | 50 => 99 | 5 => 5 | 9 => 9 | 66 => 225 | 70 => 229 | 76 => 239 | 77 => 240 | n => n, fun | n => n⟩
theorem laysSF : Go.Proofs.SlLaysF0.n6 Tryz.prog laysSF_ren := {
 mixed := by kernel_rfl,
 f6 := ⟨"slices.SortFunc[[]interlace/api.Place,interlace/api.Place]", by decide, Tryz.func89.trans (congrArg some (by kernel_rfl))⟩,
 f14 := ⟨"slices.pdqsortCmpFunc[interlace/api.Place]", by decide, Tryz.func130.trans (congrArg some (by kernel_rfl))⟩,
 f15 := Tryz.func131.trans (congrArg some (by kernel_rfl)),
 f20 := ⟨"slices.insertionSortCmpFunc[interlace/api.Place]", by decide, Tryz.func147.trans (congrArg some (by kernel_rfl))⟩,
 f21 := ⟨"slices.heapSortCmpFunc[interlace/api.Place]", by decide, Tryz.func148.trans (congrArg some (by kernel_rfl))⟩,
 f22 := ⟨"slices.breakPatternsCmpFunc[interlace/api.Place]", by decide, Tryz.func149.trans (congrArg some (by kernel_rfl))⟩,
 f23 := ⟨"slices.choosePivotCmpFunc[interlace/api.Place]", by decide, Tryz.func150.trans (congrArg some (by kernel_rfl))⟩,
 f24 := ⟨"slices.reverseRangeCmpFunc[interlace/api.Place]", by decide, Tryz.func151.trans (congrArg some (by kernel_rfl))⟩,
 f25 := ⟨"slices.partialInsertionSortCmpFunc[interlace/api.Place]", by decide, Tryz.func152.trans (congrArg some (by kernel_rfl))⟩,
 f26 := ⟨"slices.partitionEqualCmpFunc[interlace/api.Place]", by decide, Tryz.func153.trans (congrArg some (by kernel_rfl))⟩,
 f27 := ⟨"slices.partitionCmpFunc[interlace/api.Place]", by decide, Tryz.func154.trans (congrArg some (by kernel_rfl))⟩,
 f28 := Tryz.func155.trans (congrArg some (by kernel_rfl)),
 f29 := Tryz.func156.trans (congrArg some (by kernel_rfl)),
 f46 := ⟨"slices.siftDownCmpFunc[interlace/api.Place]", by decide, Tryz.func171.trans (congrArg some (by kernel_rfl))⟩,
 f47 := Tryz.func172.trans (congrArg some (by kernel_rfl)),
 f48 := Tryz.func173.trans (congrArg some (by kernel_rfl)),
 f49 := ⟨"slices.medianAdjacentCmpFunc[interlace/api.Place]", by decide, Tryz.func174.trans (congrArg some (by kernel_rfl))⟩,
 f50 := ⟨"slices.medianCmpFunc[interlace/api.Place]", by decide, Tryz.func175.trans (congrArg some (by kernel_rfl))⟩,
 f57 := ⟨"slices.order2CmpFunc[interlace/api.Place]", by decide, Tryz.func186.trans (congrArg some (by kernel_rfl))⟩,
 t0 := underlying0,
 a0 := isAgg0,
 z0 := sizeOf0,
 v0 := zeroValue0,
 t3 := underlying3,
 a3 := isAgg3,
 z3 := sizeOf3,
 v3 := zeroValue3,
 t4 := underlying4,
 a4 := isAgg4,
 z4 := sizeOf4,
 v4 := zeroValue4,
 t5 := underlying5,
 a5 := isAgg5,
 z5 := sizeOf5,
 v5 := zeroValue5,
 t9 := underlying9,
 a9 := isAgg9,
 z9 := sizeOf9,
 v9 := zeroValue9,
 t22 := underlying59,
 a22 := isAgg59,
 z22 := sizeOf59,
 v22 := zeroValue59,
 t25 := underlying142,
 a25 := isAgg142,
 z25 := sizeOf142,
 v25 := zeroValue142,
 t39 := underlying192,
 a39 := isAgg192,
 z39 := sizeOf192,
 v39 := zeroValue192,
 t45 := underlying207,
 a45 := isAgg207,
 z45 := sizeOf207,
 v45 := zeroValue207,
 t46 := underlying208,
 a46 := isAgg208,
 z46 := sizeOf208,
 v46 := zeroValue208,
 t50 := underlying99,
 a50 := isAgg99,
 z50 := sizeOf99,
 v50 := zeroValue99,
 t53 := underlying214,
 a53 := isAgg214,
 z53 := sizeOf214,
 v53 := zeroValue214,
 t55 := underlying84,
 a55 := isAgg84,
 z55 := sizeOf84,
 v55 := zeroValue84,
 t66 := underlying225,
 a66 := isAgg225,
 z66 := sizeOf225,
 v66 := zeroValue225,
 t70 := underlying229,
 a70 := isAgg229,
 z70 := sizeOf229,
 v70 := zeroValue229,
 t76 := underlying239,
 a76 := isAgg239,
 z76 := sizeOf239,
 v76 := zeroValue239,
 t77 := underlying240,
 a77 := isAgg240,
 z77 := sizeOf240,
 v77 := zeroValue240 }
def plLt (a b : Pl) : Prop := a.1 < b.1 ∨ (a.1 = b.1 ∧ a.2 < b.2)
abbrev toI (p : Pl) : Int × Int := ((p.1 : Int), (p.2 : Int))
theorem cmpPl_lt (a b : Int × Int) : cmpPl a b < 0 ↔ a.1 < b.1 ∨ (a.1 = b.1 ∧ a.2 < b.2) := by
 unfold cmpPl cmpI
 by_cases h1 : a.1 < b.1
 ·simp [h1]
 ·by_cases h2 : b.1 < a.1
  ·simp [h1, h2]; omega
  ·have h3 : a.1 = b.1 := by omega
   by_cases h4 : a.2 < b.2
   ·simp [h3, h4]
   ·by_cases h5 : b.2 < a.2 <;> simp [h3, h4, h5]
theorem cmpPl_eq (a b : Int × Int) : cmpPl a b = 0 ↔ a = b := by
 obtain ⟨a1, a2⟩ := a
 obtain ⟨b1, b2⟩ := b
 unfold cmpPl cmpI
 simp only [Prod.mk.injEq]
 by_cases h1 : a1 < b1
 ·simp [h1]; omega
 ·by_cases h2 : b1 < a1
  ·simp [h1, h2]; omega
  ·have h3 : a1 = b1 := by omega
   by_cases h4 : a2 < b2
   ·simp [h3, h4]; omega
   ·by_cases h5 : b2 < a2
    ·simp [h3, h4, h5]; omega
    ·simp [h3, h4, h5]; omega
def cmpQ (x y : Pl) : Int := cmpPl (toI x) (toI y)
instance plDec (a b : Pl) : Decidable (plLt a b) := by unfold plLt; infer_instance
theorem ltQ (x y : Pl) : Go.Proofs.ltOf cmpQ x y = decide (plLt x y) := by
 unfold Go.Proofs.ltOf cmpQ
 refine decide_eq_decide.2 ?_
 rw [cmpPl_lt]
 unfold plLt toI
 simp only []
 omega
theorem swoQ : Go.Sort.SWO (Go.Proofs.ltOf cmpQ) where
 irrefl x := by rw [ltQ]; unfold plLt; simp
 trans x y z h1 h2 := by rw [ltQ, decide_eq_true_iff] at *; unfold plLt at *; omega
 ntrans x y z h1 h2 := by rw [ltQ, decide_eq_false_iff_not] at *; unfold plLt at *; omega
theorem cmpLaysQ (blk off size : Nat) (w : World) : Go.Proofs.CmpLays Tryz.prog 90 #[] encPl 2 cmpQ blk off size w := fun m os dk _ x y => by
 have h := cmpPl_s (w0 := Go.Proofs.sortWorldK encPl 2 w blk off m dk os) (H := []) (toI x) (toI y) _ (Own.start _)
 refine h.mono fun e w' hh => ?_
 obtain ⟨v, H', he, hO, hv, hH⟩ := hh
 subst hv; subst hH
 exact ⟨he, own_grown hO⟩
open Go.Sort Go.Proofs in
theorem sortP_none (p : Option Addr) (cap : Nat) (w : World) :
  Calls Tryz.prog 89 #[.slice p 0 cap, .func (.func 90) #[] #[]] w fun e w' => e = .returned (.tuple #[]) ∧ w' = w := AnyF.slices_SortFunc_none laysSF p cap _ w
open Go.Sort Go.Proofs in
theorem sortP_s {w0 : World} {H : List (Nat × Obj)} (d : Sl) (zs : List Pl) (hok : SlOk d zs.length 2) (hsz : zs.length ≤ 1000000) :
  FSpec Tryz.prog w0 89 #[slV d zs.length, .func (.func 90) #[] #[]] (slH d (zs.flatMap encPl) 74 ++ H) (fun v H' => ∃ ks : List Pl, (v = .tuple #[] ∧ ks.Perm zs ∧ ks.Pairwise (fun a b => ¬ plLt b a)) ∧ H' = slH d (ks.flatMap encPl) 74 ++ H) := fun w hO => by
 cases d with
 | nil =>
  have : zs = [] := List.eq_nil_of_length_eq_zero hok
  subst this
  exact (sortP_none none 0 w).mono fun e w' ⟨he, hw⟩ => ⟨_, _, he, hw ▸ hO, [], ⟨rfl, List.Perm.refl _, List.Pairwise.nil⟩, by simp [slH]⟩
 | blk n cap junk =>
  simp only [slH, List.singleton_append, List.cons_append, List.nil_append, slQ, slC] at hO hsz ⊢
  have hcon := AnyQ.slices_SortFunc laysSF 2 isAgg74 sizeOf74 encPl (fun _ => rfl) (fun x v hv => by simp [encPl] at hv; rcases hv with rfl | rfl <;> rfl) cmpQ swoQ 90 #[] n 0 cap zs.toArray w call90 (cmpLaysQ n 0 zs.toArray.size w) (own_holdsK (enc := encPl) (k := 2) (fun _ => rfl) hO) (own_lt hO) (by simp; omega)
  rw [List.size_toArray] at hcon
  change Calls Tryz.prog 89 _ _ _ at hcon
  refine hcon.mono fun e w' ⟨he, d', q, os, hp, hs, hw⟩ => ?_
  obtain ⟨h1, h2⟩ := sorted_list hp hs
  have hO' := own_rowK (enc := encPl) (k := 2) (l' := d'.toList) (fun _ => rfl) hO h1.length_eq.symm q os
  rw [show d'.toList.toArray = d' by simp] at hO'
  exact ⟨_, _, he, hw ▸ hO', d'.toList, ⟨rfl, h1, h2.imp fun {a b} h => by rw [ltQ, decide_eq_false_iff_not] at h; exact h⟩, rfl⟩
end Go.Proofs.YtkdolgnpkjihpaaGreatDoor
namespace Go.Proofs.YtkdolgnpkjihpaaGreatDoor
open _root_.Go.Proofs.Tryz
open Go.RowKit
set_option linter.unusedVariables false
set_option linter.unusedSimpArgs false
theorem find1_s {w0 : World} {H : List (Nat × Obj)} (m : Mc) (hm : McOk w0 H m) (hp : PMok m.pl) (p : Pl) (hp2 : p.2 < m.rows.length) (to b9 b7 : Nat) (h9 : Fnd H b9 (Cl [.int .i64 (to : Int)] 3)) (h7 : Fnd H b7 (Cl (encMc m) 29)) :
  FSpec Tryz.prog w0 81 #[.agg (encPl p).toArray, .pointer (some ⟨b9, 0, none⟩), .pointer (some ⟨b7, 0, none⟩)] H (Still (.bool (fndF to m.pl p)) H) := by
 refine A9 Tryz.func81 E ntmps81 E ?_
 have hal : m.acc.length = m.rows.length := by have := hp.acc; rw [show m.pl.next.length = m.rows.length from List.length_map ..] at this; exact this
 refine Ag (Ab (e_ (Ba (T E) cs_) ?_ E))
 rintro _ _ ⟨n3, rfl, rfl⟩
 refine y_ (Ad Aj) (Af (Ae (Ag (Ab (y_ (Bc (T E) Dm) (y_ (Ai (T E) isAgg3 (by first | exact c_o)) ?_ E) E))))) E
 refine y_ (Ai (T E) isAgg3 (by first | exact c_o | exact c_o (hf := As h9))) ?_ E
 refine y_ (B2 (T E) (T E)) (y_ (Ac (T E)) ?_ E) E
 first | refine Bz (s := 9) (Aa E) (fun c9 => ?_) (fun c9 => ?_) | refine Cf (s := 9) (Aa E) (fun c9 => ?_) (fun c9 => ?_)
 ·refine Ax (Bi (T E) Dr) E (Ao E E (Aa E)) (Ax (Ai (T E) isAgg27 (by first | exact c_o | exact c_o (hf := As h7))) E (Ao E E (Aa E)) ?_)
  refine Ax (Bi (T E) Du) E (Ao E E (Aa E)) (Ax (Ai (T E) isAgg3 (by first | exact c_o)) E (Ao E E (Aa E)) ?_)
  refine Ax (Be (T E) (T E) runUnderlying27 sizeOf4 (by omega) (by first | exact rfl | exact hm.a3.b (i := p.2) (by omega))) E (Ao E E (Aa E)) ?_
  refine Ax (Ai (T E) isAgg4 (by first | exact c_o | exact cell1 ((hm.a3.mono sbt).cs (i := p.2) (by omega)))) E (Ao E E (Aa E)) ?_
  refine y_ (Aq (T E) (T E)) (y_ (Ad (T E)) (Af (Ae (Ay (Az E (.tmp (Aa E) .nil) (⟨_, ⟨vbool ?_, rfl⟩, sbt⟩))))) E) E
  unfold fndF
  first | (rw [decide_eq_true (show p.1 = to by omega)]; rfl) | (rw [decide_eq_false (show ¬ p.1 = to by omega)]; rfl)
 ·refine Bs (Bs (Bs (Bs (Bs (Bs (y_ (Au (T E) Aj) (y_ (Ad (T E)) (Af (Ae (Ay (Az E (.tmp (Aa E) .nil) (⟨_, ⟨vbool ?_, rfl⟩, sbt⟩))))) E) E) E E E E) E E E E) E E E E) E E E E) E E E E) E E E E
  unfold fndF
  first | (rw [decide_eq_true (show p.1 = to by omega)]; rfl) | (rw [decide_eq_false (show ¬ p.1 = to by omega)]; rfl)
theorem found1_s {w0 : World} {H0 : List (Nat × Obj)} (n : Nn) (m : Mc) (hm : McOk w0 H0 m) (hp : PMok m.pl) (to b9 b7 : Nat) (h9 : Fnd H0 b9 (Cl [.int .i64 (to : Int)] 3)) (h7 : Fnd H0 b7 (Cl (encMc m) 29)) :
  FoundS w0 H0 81 [.pointer (some ⟨b9, 0, none⟩), .pointer (some ⟨b7, 0, none⟩)] (PlOk n m.pl) (fndF to m.pl) (fun _ M => M = []) := by
 rintro p hpd q _ H hs _ rfl
 refine (find1_s (H := H) m (hm.mono hs) hp p (by have := hpd.2; rw [show m.pl.next.length = m.rows.length from List.length_map ..] at this; exact this) to b9 b7 (h9.mono hs) (h7.mono hs)).mono ?_
 rintro v H' ⟨rfl, rfl⟩
 exact ⟨[], ⟨rfl, rfl⟩, rfl⟩
def NPl (n : Nn) (m : PM) : Nat := n.nodes.length * m.next.length
theorem NPl_le {n : Nn} {m : PM} (h : NnOk n) (hp : PMok m) : NPl n m ≤ 2400 := Nat.mul_le_mul h.fewN hp.few
def p0F (n : Nn) (m : PM) (x : Nat) : Pl := (x, afterF m 0 (nmF n x))
theorem p0_ok {n : Nn} {m : PM} (hp : PMok m) {x : Nat} (hx : x < n.nodes.length) : PlOk n m (p0F n m x) := ⟨hx, after_lt hp hp.some' _⟩
def findF (n : Nn) (f : Flr) (m : PM) (x to : Nat) : List Nat × Int := if f.node = x then ([], 18) else (if (srF (movesF n f m) (fndF to m) (NPl n m) (p0F n m x)).2.1 then ((srF (movesF n f m) (fndF to m) (NPl n m) (p0F n m x)).1, 0) else ([], 18))
def metF (n : Nn) (f : Flr) (m : PM) (x : Nat) : List Pl := (srF (movesF n f m) (fun _ => false) (NPl n m) (p0F n m x)).2.2
theorem moves_s {w0 : World} {H : List (Nat × Obj)} (n : Nn) (f : Flr) (m : Mc) :
  FSpec Tryz.prog w0 80 #[.agg (encNn n).toArray, .agg (encFl f).toArray, .agg (encMc m).toArray] H (fun v H' => ∃ b3 b4 b5 : Nat, v = .func (.func 127) #[] #[.pointer (some ⟨b3, 0, none⟩), .pointer (some ⟨b4, 0, none⟩), .pointer (some ⟨b5, 0, none⟩)] ∧ H' = (b5, Cl (encMc m) 29) :: (b4, Cl (encFl f) 58) :: (b3, Cl (encNn n) 56) :: H) := by
 refine A9 Tryz.func80 E ntmps80 E (Ag (Ab (e_ (Ba (T E) cs_) ?_ E)))
 rintro _ _ ⟨n3, rfl, rfl⟩
 refine e_ (Ba (T E) cs_) ?_ E
 rintro _ _ ⟨n4, rfl, rfl⟩
 refine e_ (Ba (T E) cs_) ?_ E
 rintro _ _ ⟨n5, rfl, rfl⟩
 refine y_ (Ad Aj) (Af (Ae (Ag (Ab (y_ (Cj (.cons (T E) (.cons (T E) (.cons (T E) .nil)))) (y_ (Ad (T E)) (Af (Ae (Ay (Az E (.tmp (Aa E) .nil) ?_)))) E) E))))) E
 exact ⟨_, ⟨_, _, _, rfl, rfl⟩, sbt⟩
theorem find_s {w0 : World} {H : List (Nat × Obj)} (n : Nn) (f : Flr) (m : Mc) (he : Env w0 H n f m) (ho : EnvOk n f m) (x : Nat) (hx : x < n.nodes.length) (to : Nat) :
  FSpec Tryz.prog w0 29 #[.agg (encNn n).toArray, .agg (encFl f).toArray, .agg (encMc m).toArray, .int .i64 (x : Int), .int .i64 (to : Int)] H (fun v H' => ∃ d : Sl, (v = .tuple #[slV d (findF n f m.pl x to).1.length, .int .i64 (findF n f m.pl x to).2] ∧ SlOk d (findF n f m.pl x to).1.length 1) ∧ H' = slH d ((findF n f m.pl x to).1.flatMap encU) 3 ++ H) := by
 refine A9 Tryz.func29 E ntmps29 E (Ag (Ab (e_ (Ba (T E) cs_) ?_ E)))
 rintro _ _ ⟨n5, rfl, rfl⟩
 refine e_ (Ba (T E) cs_) ?_ E
 rintro _ _ ⟨n6, rfl, rfl⟩
 refine e_ (Ba (T E) cs_) ?_ E
 rintro _ _ ⟨n7, rfl, rfl⟩
 refine e_ (Ba (T E) cs_) ?_ E
 rintro _ _ ⟨n9, rfl, rfl⟩
 refine y_ (Ad Aj) (y_ (Ad Aj) (Af (Ae (Ag (Ag (Ab (y_ (Bi (T E) fa58_1) (y_ (Ai (T E) isAgg3 (by first | exact c_o)) ?_ E) E)))))) E) E
 refine y_ (Ac (T E)) (y_ (B2 (T E) (T E)) (Af (Ae ?_)) E) E
 first | refine Ar (Aa E) (fun c17 => ?_) (fun c17 => ?_) | refine A6 (Aa E) (fun c17 => ?_) (fun c17 => ?_)
 ·have hff : findF n f m.pl x to = ([], 18) := if_pos c17
  refine Ag (Ab (y_ (Ad Aj) (y_ (Ad Aj) (Af (Ae (Ay (Al (Az E (.tmp (Aa E) (.tmp (Aa E) .nil)) ?_))))) E) E))
  rw [hff]; exact ⟨_, ⟨.nil, ⟨rfl, rfl⟩, rfl⟩, sbt⟩
 ·have hfn : findF n f m.pl x to = (if (srF (movesF n f m.pl) (fndF to m.pl) (NPl n m.pl) (p0F n m.pl x)).2.1 then ((srF (movesF n f m.pl) (fndF to m.pl) (NPl n m.pl) (p0F n m.pl x)).1, 0) else ([], 18)) := if_neg c17
  refine A2 (Ae (Ag (Ch 15 [(0, true), (1, true), (2, true), (3, true), (4, true), (5, true), (6, true), (8, true), (7, false), (9, false), (10, true), (11, true), (12, true), (13, true), (14, true)] _ mixd (by kernel_rfl) sb0 ?_)))
  refine o_y E (Am (T E) isAgg56 sizeOf56 E (by first | exact Bb)) ?_ E Ah
  refine o_y E (Am (T E) isAgg29 sizeOf29 E (by first | exact Bb)) ?_ E Ah
  refine o_y E (Ac (T E)) (o_y E (Av (.cons (T E) (.cons (T E) (.cons (T E) .nil))) call79 (fun H' hs => begin_s n m (he.n.mono (List.Sublist.trans sbt hs)) (he.m.mono (List.Sublist.trans sbt hs)) ho.om ho.sr ho.ln x hx)) (o_y E (Am (T E) isAgg56 sizeOf56 E (by first | exact Bb)) ?_ E Ah) E Ah) E Ah
  refine o_y E (Am (T E) isAgg58 sizeOf58 E (by first | exact Bb)) ?_ E Ah
  refine o_y E (Am (T E) isAgg29 sizeOf29 E (by first | exact Bb)) ?_ E Ah
  refine o_y E (Cj (.cons (T E) (.cons (T E) .nil))) (o_e E (A1 (.cons (T E) (.cons (T E) (.cons (T E) .nil))) call80 (moves_s n f m)) ?_ E Ah) E Ah
  rintro _ _ ⟨b3, b4, b5, rfl, rfl⟩
  refine ⟨sbt, ?_⟩
  refine o_e E (A1 (.cons (T E) (.cons (T E) (.cons (T E) .nil))) call78 ((searchI_s (H0 := _) 127 81 [.pointer (some ⟨b3, 0, none⟩), .pointer (some ⟨b4, 0, none⟩), .pointer (some ⟨b5, 0, none⟩)] [.pointer (some ⟨n9, 0, none⟩), .pointer (some ⟨n7, 0, none⟩)] (PlOk n m.pl) (movesF n f m.pl) (fndF to m.pl) (fun _ M => M = []) (NPl n m.pl) (p0F n m.pl x) [] call127 call81 (moves1_s n f m (he.mono sbt) ho b3 b4 b5 (by repeat (first | exact By | refine As ?_ | refine Bd ?_)) (by repeat (first | exact By | refine As ?_ | refine Bd ?_)) (by repeat (first | exact By | refine As ?_ | refine Bd ?_))) (found1_s n m (he.m.mono sbt) ho.om to n9 n7 (by repeat (first | exact By | refine As ?_ | refine Bd ?_)) (by repeat (first | exact By | refine As ?_ | refine Bd ?_))) (fun p hpp => moves_ok ho.on ho.om p hpp) (pl_few n m.pl) (by have := NPl_le ho.on ho.om; omega) (p0_ok ho.om hx) E (List.Sublist.refl _)))) ?_ E Ah
  rintro _ _ ⟨⟨d, _⟩, ⟨rfl, hd, rfl⟩, rfl⟩
  refine ⟨sbt, (o_y E (Ac (T E)) (o_y E (Bf (T E) E) (o_y E (Bf (T E) E) (o_y E (Ad (T E)) (o_y E (Ad (T E)) (Bx E (Af (Ae (Bh [(12, _), (13, _)] ⟨Aa E, Aa E, trivial⟩ (Ag (Ag (Ab (y_ (Ac (T E)) ?_ E)))))))) E Ah) E Ah) E Ah) E Ah) E Ah)⟩
  first | refine Ax (Ca (T E)) E Ah ?_ | refine Ax (Co (T E)) E Ah ?_
  refine Af (Ae ?_)
  first | refine Ar (Aa E) (fun c32 => ?_) (fun c32 => ?_) | refine A6 (Aa E) (fun c32 => ?_) (fun c32 => ?_)
  ·have hff : findF n f m.pl x to = ([], 18) := by rw [hfn, if_neg (by intro h; rw [h] at c32; cases c32)]
   refine Ag (Ab (y_ (Ad Aj) (y_ (Ad Aj) (Af (Ae (Ay (Al (Az E (.tmp (Aa E) (.tmp (Aa E) .nil)) ?_))))) E) E))
   rw [hff]; exact ⟨_, ⟨.nil, ⟨rfl, rfl⟩, rfl⟩, sbt⟩
  ·have hff : findF n f m.pl x to = ((srF (movesF n f m.pl) (fndF to m.pl) (NPl n m.pl) (p0F n m.pl x)).1, 0) := by rw [hfn, if_pos (by simpa using c32)]
   refine A2 (Ae (Ag (Ab (y_ (Ac (T E)) (y_ (Ad (T E)) (y_ (Ad Aj) (Af (Ae (Ay (Az E (.tmp (Aa E) (.tmp (Aa E) .nil)) ?_)))) E) E) E))))
   rw [hff]; exact ⟨_, ⟨d, ⟨rfl, hd⟩, rfl⟩, sbt⟩
end Go.Proofs.YtkdolgnpkjihpaaGreatDoor
namespace Go.Proofs.YtkdolgnpkjihpaaGreatDoor
open _root_.Go.Proofs.Tryz
open Go.RowKit
set_option linter.unusedVariables false
set_option linter.unusedSimpArgs false
def GR (nb : Nat) (q : List Pl) (M : List (Nat × Obj)) : Prop := ∃ d, SlOk d q.length 2 ∧ M = (nb, Cl [slV d q.length] 59) :: slH d (q.flatMap encPl) 74
theorem reached1_s {w0 : World} {H : List (Nat × Obj)} (nb : Nat) (q : List Pl) (p : Pl) (d : Sl) (hd : SlOk d q.length 2) (hq : q.length ≤ 50000) :
  FSpec Tryz.prog w0 88 #[.agg (encPl p).toArray, .pointer (some ⟨nb, 0, none⟩)] ((nb, Cl [slV d q.length] 59) :: (slH d (q.flatMap encPl) 74 ++ H)) (fun v H' => ∃ e, (v = .bool false ∧ SlOk e (q ++ [p]).length 2) ∧ H' = (nb, Cl [slV e (q ++ [p]).length] 59) :: (slH e ((q ++ [p]).flatMap encPl) 74 ++ H)) := by
 refine A9 Tryz.func88 E ntmps88 E (Ag (Ab (e_ (Ba (T E) cs_) ?_ E)))
 rintro _ _ ⟨n2, rfl, rfl⟩
 refine y_ (Ad Aj) (Af (Ae (Ag (Ab (y_ (Ai (T E) isAgg59 (by first | exact c_o)) ?_ E))))) E
 refine y_ (Am (T E) isAgg74 sizeOf74 E (by first | exact Bb)) ?_ E
 refine e_ (Ap (.cons (T E) .nil) (bs59_1_0 _ _)) ?_ E
 rintro _ _ ⟨n6, rfl, rfl⟩
 refine e_ (B0 (p) (by' := 16) (by repeat (first | exact LocL.h | apply LocL.t | apply LocL.a)) (T E) (T E) runUnderlying59 runUnderlying59 sizeOf74 typeInfo74 E zeroValue74 E (fun _ => rfl) E hd (by decide) (by omega)) ?_ E
 rintro _ _ ⟨d', rfl, hokd, rfl⟩
 first | refine Bk (A7 (T E) (T E) sizeOf59) E Ah ?_ | refine Bk (Cg (T E) (T E) E sizeOf59) E Ah ?_ | refine Bk (B7 (T E) (T E) E sizeOf59) E Ah ?_
 rintro _ _ ⟨rfl, rfl⟩
 refine Af (Ae (Ag (Ab (y_ (Ad Aj) (Af (Ae (Ay (Az E (.tmp (Aa E) .nil) (⟨_, ⟨d', ⟨rfl, by simpa using hokd⟩, rfl⟩, ?_⟩))))) E))))
 simp only [List.length_append, List.length_cons, List.length_nil, Nat.zero_add]
 exact sbt
theorem foundR_s {w0 : World} {H0 : List (Nat × Obj)} (n : Nn) (m : PM) (nb : Nat) : FoundS w0 H0 88 [.pointer (some ⟨nb, 0, none⟩)] (PlOk n m) (fun _ => false) (GR nb) := by
 rintro p hpd q _ H hs hq ⟨d, hd, rfl⟩
 refine (reached1_s (H := H) nb q p d hd hq).mono ?_
 rintro v H' ⟨e, ⟨rfl, he⟩, rfl⟩
 exact ⟨_, ⟨rfl, e, he, rfl⟩, rfl⟩
theorem met_len {n : Nn} (hok : NnOk n) {f : Flr} {m : PM} (hp : PMok m) {x : Nat} (hx : x < n.nodes.length) : (metF n f m x).length ≤ 2400 := by
 obtain ⟨h1, h2⟩ := srF_met (fnd := fun _ => false) (moves_ok hok (f := f) hp) (p0_ok hp hx) (NPl n m)
 exact Nat.le_trans (pl_few n m _ h1 h2) (NPl_le hok hp)
def Reach (n : Nn) (f : Flr) (m : PM) (x : Nat) (ks : List Pl) : Prop := ks.Perm (if f.node = x then [] else metF n f m x) ∧ ks.Pairwise (fun a b => ¬ plLt b a)
theorem loc4 {a b c d : Nat × Obj} {X : List (Nat × Obj)} : LocL (a :: b :: c :: d :: X) [d] (a :: b :: c :: X) (fun M' => a :: b :: c :: (M' ++ X)) := .t (.t (.t (show LocL ([d] ++ X) [d] X _ from .h)))
theorem reached_s {w0 : World} {H : List (Nat × Obj)} (n : Nn) (f : Flr) (m : Mc) (he : Env w0 H n f m) (ho : EnvOk n f m) (x : Nat) (hx : x < n.nodes.length) :
  FSpec Tryz.prog w0 35 #[.agg (encNn n).toArray, .agg (encFl f).toArray, .agg (encMc m).toArray, .int .i64 (x : Int)] H (fun v H' => ∃ y : Sl × List Pl, (v = slV y.1 y.2.length ∧ SlOk y.1 y.2.length 2 ∧ Reach n f m.pl x y.2) ∧ H' = slH y.1 (y.2.flatMap encPl) 74 ++ H) := by
 refine A9 Tryz.func35 E ntmps35 E (Ag (Ab (e_ (Ba (T E) cs_) ?_ E)))
 rintro _ _ ⟨n4, rfl, rfl⟩
 refine e_ (Ba (T E) cs_) ?_ E
 rintro _ _ ⟨n5, rfl, rfl⟩
 refine e_ (Ba (T E) cs_) ?_ E
 rintro _ _ ⟨n6, rfl, rfl⟩
 refine y_ (Ad Aj) (Af (Ae (Ag (Ag (Ab (y_ (Bi (T E) fa58_1) (y_ (Ai (T E) isAgg3 (by first | exact c_o)) ?_ E) E)))))) E
 refine y_ (Ac (T E)) (y_ (B2 (T E) (T E)) (Af (Ae ?_)) E) E
 first | refine Ar (Aa E) (fun c13 => ?_) (fun c13 => ?_) | refine A6 (Aa E) (fun c13 => ?_) (fun c13 => ?_)
 ·refine Ag (Ab (y_ (Ad Aj) (Af (Ae (Ay (Al (Az E (.tmp (Aa E) .nil) ?_))))) E))
  exact ⟨_, ⟨(.nil, []), ⟨rfl, rfl, by unfold Reach; rw [if_pos c13]; exact ⟨List.Perm.refl _, List.Pairwise.nil⟩⟩, rfl⟩, sbt⟩
 ·refine A2 (Ae (Ag (Ab (e_ (A5 zeroValue59 cs_) ?_ E))))
  rintro _ _ ⟨n9, rfl, rfl⟩
  refine Af (Ae (Ag (Ch 9 [(0, true), (1, true), (2, true), (3, true), (4, true), (5, true), (6, true), (8, true), (7, false)] _ mixd (by kernel_rfl) sb0 ?_)))
  refine o_y E (Am (T E) isAgg56 sizeOf56 E (by first | exact Bb)) ?_ E Ah
  refine o_y E (Am (T E) isAgg29 sizeOf29 E (by first | exact Bb)) ?_ E Ah
  refine o_y E (Ac (T E)) (o_y E (Av (.cons (T E) (.cons (T E) (.cons (T E) .nil))) call79 (fun H' hs => begin_s n m (he.n.mono (List.Sublist.trans sbt hs)) (he.m.mono (List.Sublist.trans sbt hs)) ho.om ho.sr ho.ln x hx)) (o_y E (Am (T E) isAgg56 sizeOf56 E (by first | exact Bb)) ?_ E Ah) E Ah) E Ah
  refine o_y E (Am (T E) isAgg58 sizeOf58 E (by first | exact Bb)) ?_ E Ah
  refine o_y E (Am (T E) isAgg29 sizeOf29 E (by first | exact Bb)) ?_ E Ah
  refine o_y E (Cj (.cons (T E) .nil)) (o_e E (A1 (.cons (T E) (.cons (T E) (.cons (T E) .nil))) call80 (moves_s n f m)) ?_ E Ah) E Ah
  rintro _ _ ⟨b3, b4, b5, rfl, rfl⟩
  refine ⟨sbt, (Bx E ?_)⟩
  refine e_ (A1 (.cons (T E) (.cons (T E) (.cons (T E) .nil))) call78 (B5 [(n9, Cl [.slice none 0 0] 59)] loc4 (searchI_at (H0 := _) 127 88 [.pointer (some ⟨b3, 0, none⟩), .pointer (some ⟨b4, 0, none⟩), .pointer (some ⟨b5, 0, none⟩)] [.pointer (some ⟨n9, 0, none⟩)] (PlOk n m.pl) (movesF n f m.pl) (fun _ => false) (GR n9) (NPl n m.pl) (p0F n m.pl x) [(n9, Cl [.slice none 0 0] 59)] call127 call88 (moves1_s n f m (he.mono sbt) ho b3 b4 b5 (by repeat (first | exact By | refine As ?_ | refine Bd ?_)) (by repeat (first | exact By | refine As ?_ | refine Bd ?_)) (by repeat (first | exact By | refine As ?_ | refine Bd ?_))) (foundR_s n m.pl n9) (fun p hpp => moves_ok ho.on ho.om p hpp) (pl_few n m.pl) (by have := NPl_le ho.on ho.om; omega) (p0_ok ho.om hx) ⟨.nil, rfl, rfl⟩ (List.Sublist.refl _)))) ?_ E
  rintro _ _ ⟨⟨d1, _⟩, ⟨rfl, hd1, ⟨d, hd, rfl⟩⟩, rfl⟩
  simp only [List.append_assoc, List.cons_append]
  refine Af (Ae (Ag (Ab (y_ (Ai (T E) isAgg59 (by first | exact c_o)) ?_ E))))
  refine e_ (A1 (.cons (T E) (.cons ev_f .nil)) call89 (B5 (slH d ((metF n f m.pl x).flatMap encPl) 74) (by repeat (first | exact LocL.h | apply LocL.t | apply LocL.a)) (sortP_s d (metF n f m.pl x) hd (by have := met_len ho.on (f := f) ho.om hx; omega)))) ?_ E
  rintro _ _ ⟨ks, ⟨rfl, hpm, hpw⟩, rfl⟩
  refine Af (Ae (Ag (Ab (y_ (Ai (T E) isAgg59 (by first | exact c_o)) ?_ E))))
  refine y_ (Ad (T E)) (Af (Ae (Ay (Az E (.tmp (Aa E) .nil) ?_)))) E
  have hll := hpm.length_eq
  refine ⟨_, ⟨(d, ks), ⟨by simp only [hll]; rfl, by simp only [hll]; exact hd, by unfold Reach; rw [if_neg c13]; exact ⟨hpm, hpw⟩⟩, rfl⟩, sbt⟩
end Go.Proofs.YtkdolgnpkjihpaaGreatDoor
namespace Go.Proofs.YtkdolgnpkjihpaaGreatDoor
open _root_.Go.Proofs.Tryz
open Go.RowKit
set_option linter.unusedVariables false
set_option linter.unusedSimpArgs false
theorem cell_e {w0 : World} {H : List (Nat × Obj)} {p : Addr} {v v' : Value} (h : v = v') (c : Cell w0 H p v) : Cell w0 H p v' := h ▸ c
theorem cells_pl {w0 : World} {H : List (Nat × Obj)} {b o : Nat} {a : Int × Int} {p : Pl} (h : a = toI p) (c : Cells w0 H b o (encPI a)) : Cells w0 H b o (encPl p) := by
 subst h; exact c
def namesF (n : Nn) (x : Nat) (ls : List Int) : List ByteArray := nmF n x :: ls.map fun l => nmF n (gd n.links l.toNat).dst
theorem namesF_take {n : Nn} {x : Nat} {ls : List Int} {i : Nat} (h : i < ls.length) : namesF n x (ls.take (i + 1)) = namesF n x (ls.take i) ++ [nmF n (gd n.links (gd ls i).toNat).dst] := by
 unfold namesF; rw [List.take_add_one, Dd h, List.map_append]; rfl
theorem namesF_len (n : Nn) (x : Nat) (ls : List Int) : (namesF n x ls).length = ls.length + 1 := by simp [namesF]
def upAll (n : Nn) (f : Flr) (ls : List Int) : Bool := ls.all fun l => upF n f l.toNat
theorem upAll_take {n : Nn} {f : Flr} {ls : List Int} {i : Nat} (h : i < ls.length) : upAll n f (ls.take (i + 1)) = (upAll n f (ls.take i) && upF n f (gd ls i).toNat) := by
 unfold upAll; rw [List.take_add_one, Dd h, List.all_append]; simp
theorem upAll_no {n : Nn} {f : Flr} {ls : List Int} {i : Nat} (h : i < ls.length) (hu : upF n f (gd ls i).toNat = false) : upAll n f ls = false := by
 unfold upAll
 rw [List.all_eq_false]
 exact ⟨gd ls i, Bg h, by rw [hu]; decide⟩
def holdsF (n : Nn) (f : Flr) (e : Re) (x to : Nat) (ls : List Int) : Bool := decide (wkF n (x : Int) ls = some (to : Int)) && (decide (¬ f.node = x) && (upAll n f ls && matchF e (namesF n x ls)))
theorem wkF_valid {n : Nn} : ∀ {ls : List Int} {x y : Int}, wkF n x ls = some y → ∀ i, i < ls.length → 0 ≤ gd ls i ∧ gd ls i < n.links.length
 | [], x, y, _, i, hi => absurd hi (Nat.not_lt_zero _)
 | l :: ls, x, y, h, i, hi => by
  rw [wkF] at h
  split at h
  ·rename_i hc
   cases i with
   | zero => exact ⟨hc.1, hc.2.1⟩
   | succ i => exact wkF_valid h i (by simpa using hi)
  ·cases h
theorem within_s {w0 : World} {H : List (Nat × Obj)} (a lo hi : Int) :
  FSpec Tryz.prog w0 129 #[.int .i64 a, .int .i64 lo, .int .i64 hi] H (Still (.bool (decide (lo ≤ a) && decide (a ≤ hi))) H) := by
 refine A9 Tryz.func129 E ntmps129 E (Ag (Ab (y_ (Ad Aj) (Af (Ae (Ag (Ab (y_ (Ac (T E)) (y_ (Ac (T E)) (y_ (D0 (T E) (T E)) (y_ (Ac (T E)) ?_ E) E) E) E))))) E)))
 first | refine Bz (s := 10) (Aa E) (fun c10 => ?_) (fun c10 => ?_) | refine Cf (s := 10) (Aa E) (fun c10 => ?_) (fun c10 => ?_)
 ·refine Ax (Ac (T E)) E (Ao E E (Aa E)) (Ax (Ac (T E)) E (Ao E E (Aa E)) (Ax (D0 (T E) (T E)) E (Ao E E (Aa E)) (y_ (Aq (T E) (T E)) (y_ (Ad (T E)) (Af (Ae (Ay (Az E (.tmp (Aa E) .nil) (⟨_, ⟨vbool ?_, rfl⟩, sbt⟩))))) E) E)))
  first | (rw [decide_eq_true (by omega : lo ≤ a)]; rfl) | (rw [decide_eq_false (by omega : ¬ lo ≤ a)]; rfl)
 ·refine Bs (Bs (Bs (y_ (Au (T E) Aj) (y_ (Ad (T E)) (Af (Ae (Ay (Az E (.tmp (Aa E) .nil) (⟨_, ⟨vbool ?_, rfl⟩, sbt⟩))))) E) E) E E E E) E E E E) E E E E
  first | (rw [decide_eq_true (by omega : lo ≤ a)]; rfl) | (rw [decide_eq_false (by omega : ¬ lo ≤ a)]; rfl)
theorem gwalk_s {w0 : World} {H : List (Nat × Obj)} (n : Nn) (hn : NetR w0 H n) (hok : NnOk n) (x : Int) (ls : List Int) (q : Option Addr) (c : Nat) (hA : Arr w0 H q 1 encI ls) (hlen : ls.length ≤ 9223372036854775807) :
  FSpec Tryz.prog w0 83 #[.agg (encNn n).toArray, .int .i64 x, .slice q ls.length c] H (Still (.tuple #[.int .i64 ((wkF n x ls).getD (-1)), .bool (wkF n x ls).isSome]) H) := by
 refine A9 Tryz.func83 E ntmps83 E ?_
 have hfl := hok.fewL
 refine Ag (Ab (e_ (Ba (T E) cs_) ?_ E))
 rintro _ _ ⟨n3, rfl, rfl⟩
 refine y_ (Ad Aj) (y_ (Ad Aj) (Af (Ae (Ag (Ag (Ab (y_ (Ac (T E)) (y_ (Bp (T E) runUnderlying42) (y_ (Ac Aj) (Af (Ae (Aw ?_))) E) E) E)))))) E) E
 refine Cc (X := Nat × Int) (V := fun ⟨i, y⟩ => [(12, .int .i64 (i : Nat)), (1, .int .i64 y)]) (C := [(3, _), (10, _), (11, _)]) (φ := fun ⟨i, y⟩ => i ≤ ls.length ∧ wkF n x (ls.take i) = some y) (μ := fun ⟨i, y⟩ => ls.length - i) (x0 := (0, x)) ?_ ⟨Aa rfl, Aa rfl, Aa rfl, trivial⟩ ⟨(by first | exact Aa rfl | (refine Ak (Aa rfl) (vint ?_); omega) | (refine Ak (Aa rfl) ?_; simp; done)), (by first | exact Aa rfl | (refine Ak (Aa rfl) (vint ?_); omega) | (refine Ak (Aa rfl) ?_; simp; done)), trivial⟩ ?_
 ·exact ⟨Nat.zero_le _, rfl⟩
 rintro ⟨i, y⟩ ⟨hi, hw⟩
 refine Ag (Ab (y_ (Bu (T E) (T E)) (Af (Ae (Ag ?_))) E))
 first | refine Ar (Aa E) (fun c13 => ?_) (fun c13 => ?_) | refine A6 (Aa E) (fun c13 => ?_) (fun c13 => ?_)
 ·have hwt := wkF_take n x (ls := ls) (i := i) (by omega)
  rw [hw] at hwt
  simp only [Option.bind_some] at hwt
  refine A2 (Ae (Ag (Aw (Ag (Ab (y_ (Be (T E) (T E) runUnderlying42 sizeOf3 (by omega) (by first | exact rfl | exact hA.b (i := i) (by omega) | exact hn.links.b (i := (gd ls i).toNat) (by omega))) ?_ E))))))
  refine y_ (Ai (T E) isAgg3 (by first | exact c_o | exact cell1 ((hA.mono sbt).cs (i := i) (by omega)))) ?_ E
  refine y_ (Ad (T E)) (Af (Ae (Ag (Ag (Ab (y_ (Ac (T E)) (y_ (Bi (T E) C6) (y_ (Ai (T E) isAgg53 (by first | exact c_o)) ?_ E) E) E)))))) E
  refine y_ (Bp (T E) runUnderlying53) (y_ (Dz (T E) Aj (by omega)) ?_ E) E
  refine y_ (Av (.cons (T E) (.cons Aj (.cons (T E) .nil))) call129 (fun H' hs => within_s _ _ _)) ?_ E
  first | refine Ax (Ca (T E)) E Ah ?_ | refine Ax (Co (T E)) E Ah ?_
  refine y_ (Ac (T E)) ?_ E
  first | refine Bz (s := 23) (Aa E) (fun c23 => ?_) (fun c23 => ?_) | refine Cf (s := 23) (Aa E) (fun c23 => ?_) (fun c23 => ?_)
  ·have hno2 : wkF n x ls = none := wkF_none n x (i := i + 1) (by rw [hwt, if_neg (by intro h; simp at c23; omega)])
   refine Bm (Bm (Bm (Bm (Bm (Bm (Bm (Bm (y_ (Aq (T E) Aj) (Af (Ae (Bh [(3, _), (9, _), (10, _), (11, _), (12, _), (32, _)] ⟨Aa E, Aa E, Aa E, Aa E, Aa E, Aa E, trivial⟩ ?_))) E) E E E E) E E E E) E E E E) E E E E) E E E E) E E E E) E E E E) E E E E
   first | refine A8 (Aa E) ?_ | refine A8 (Ak (Aa E) (vbool (decide_eq_true c32))) ?_
   refine Ag (Ab (y_ (Ad Aj) (y_ (Ad Aj) (Af (Ae (Ay (Al (An (Al (Bo (An (Al (Az E (.tmp (Aa E) (.tmp (Aa E) .nil)) ?_)))))))))) E) E))
   rw [hno2]; exact ⟨_, ⟨rfl, rfl⟩, sbt⟩
  ·have hin : 0 ≤ gd ls i ∧ gd ls i < n.links.length := by simp at c23; omega
   refine Ax (Bi (T E) C6) E (Ao E E (Aa E)) (Ax (Ai (T E) isAgg53 (by first | exact c_o)) E (Ao E E (Aa E)) ?_)
   refine Ax (Ac (T E)) E (Ao E E (Aa E)) (Ax (Ck (T E) (T E) runUnderlying53 sizeOf71 (by omega) (by first | exact rfl | exact hA.b (i := i) (by omega) | exact hn.links.b (i := (gd ls i).toNat) (by omega))) E (Ao E E (Aa E)) ?_)
   refine Ax (Bc (T E) fa71_0) E (Ao E E (Aa E)) (Ax (Ai (T E) isAgg3 (by first | exact c_o | exact (hn.links.mono sbt).f0 (i := (gd ls i).toNat) (by omega) E)) E (Ao E E (Aa E)) ?_)
   refine Ax (Ac (T E)) E (Ao E E (Aa E)) (Ax (Cu (T E) (T E)) E (Ao E E (Aa E)) (y_ (Au (T E) (T E)) (Af (Ae (Bh [(3, _), (9, _), (10, _), (11, _), (12, _), (32, _)] ⟨Aa E, Aa E, Aa E, Aa E, Aa E, Aa E, trivial⟩ ?_))) E))
   first | refine Ar (Aa E) (fun c32 => ?_) (fun c32 => ?_) | refine A6 (Aa E) (fun c32 => ?_) (fun c32 => ?_)
   ·have hno2 : wkF n x ls = none := wkF_none n x (i := i + 1) (by rw [hwt, if_neg (by intro h; omega)])
    refine Ag (Ab (y_ (Ad Aj) (y_ (Ad Aj) (Af (Ae (Ay (Al (An (Al (Bo (An (Al (Az E (.tmp (Aa E) (.tmp (Aa E) .nil)) ?_)))))))))) E) E))
    rw [hno2]; exact ⟨_, ⟨rfl, rfl⟩, sbt⟩
   ·have hyes : wkF n x (ls.take (i + 1)) = some ((gd n.links (gd ls i).toNat).dst : Int) := by rw [hwt, if_pos (by omega)]
    refine A2 (Ae (Ab (y_ (Bi (T E) C6) (y_ (Ai (T E) isAgg53 (by first | exact c_o)) ?_ E) E)))
    refine y_ (Ac (T E)) (y_ (Ck (T E) (T E) runUnderlying53 sizeOf71 (by omega) (by first | exact rfl | exact hA.b (i := i) (by omega) | exact hn.links.b (i := (gd ls i).toNat) (by omega))) ?_ E) E
    refine y_ (Bi (T E) fa71_1) (y_ (Ai (T E) isAgg3 (by first | exact c_o | exact (hn.links.mono sbt).f (i := (gd ls i).toNat) (by omega) E)) ?_ E) E
    refine y_ (Ad (T E)) (Af (Bl (Ae (Ab (y_ (Bt (T E) Aj (by omega)) ?_ E))))) E
    refine y_ (Ac (T E)) (Af ?_) E
    refine Bn ((i + 1, ((gd n.links (gd ls i).toNat).dst : Int))) ?_ ?_ ⟨(by first | exact Aa E | (refine Ak (Aa E) (vint ?_); omega) | (refine Ak (Aa E) ?_; simp; done)), (by first | exact Aa E | (refine Ak (Aa E) (vint ?_); omega) | (refine Ak (Aa E) ?_; simp; done)), trivial⟩ ⟨Aa E, Aa E, Aa E, trivial⟩ ?_
    ·exact ⟨by omega, hyes⟩
    ·first | omega | (simp only []; omega)
    ·exact sbt
 ·refine B4 (A0 (A4 (A3 (Ae (Ag (Ab (y_ (Ac (T E)) (y_ (Ad (T E)) (y_ (Ad Aj) (Af (Ae (Ay (Az E (.tmp (Aa E) (.tmp (Aa E) .nil)) ?_)))) E) E) E)))))))
  have hi2 : i = ls.length := by omega
  rw [hi2, List.take_length] at hw
  rw [hw]; exact ⟨_, ⟨rfl, rfl⟩, sbt⟩
theorem holds_s {w0 : World} {H : List (Nat × Obj)} (n : Nn) (hn : NetR w0 H n) (hok : NnOk n) (f : Flr) (hf : Arr w0 H f.q 1 encI f.links) (hfl : f.links.length ≤ 4611686018427387903) (m : Rxm) (e : Re) (hI : Is m e) (hM : RxM w0 H m) (hl : e.lv ≤ 64) (x to : Nat) (hx : x < n.nodes.length) (ls : List Int) (q : Option Addr) (c : Nat) (hA : Arr w0 H q 1 encI ls) (hlen : ls.length ≤ 1000000) :
  FSpec Tryz.prog w0 32 #[.agg (encNn n).toArray, .agg (encFl f).toArray, .agg (encRx m).toArray, .int .i64 (x : Int), .int .i64 (to : Int), .slice q ls.length c] H (Still (.bool (holdsF n f e x to ls)) H) := by
 refine A9 Tryz.func32 E ntmps32 E (Ag (Ab (e_ (Ba (T E) cs_) ?_ E)))
 rintro _ _ ⟨n6, rfl, rfl⟩
 refine e_ (Ba (T E) cs_) ?_ E
 rintro _ _ ⟨n7, rfl, rfl⟩
 refine e_ (Ba (T E) cs_) ?_ E
 rintro _ _ ⟨n8, rfl, rfl⟩
 refine y_ (Ad Aj) (Af (Ae (Ag (Ag (Ab (y_ (Am (T E) isAgg56 sizeOf56 E (by first | exact Bb)) ?_ E)))))) E
 refine y_ (Ac (T E)) (y_ (Ac (T E)) (y_ (Av (.cons (T E) (.cons (T E) (.cons (T E) .nil))) call83 (fun H' hs => gwalk_s n (hn.mono (List.Sublist.trans sbt hs)) hok (x : Int) ls q c (hA.mono (List.Sublist.trans sbt hs)) (by omega))) ?_ E) E) E
 refine y_ (Ac (T E)) (y_ (Bf (T E) E) (y_ (Bf (T E) E) (y_ (Ad (T E)) (y_ (Ad (T E)) (Af (Ae (Ag (Ab (y_ (Ac (T E)) ?_ E))))) E) E) E) E) E
 first | refine Ax (Ca (T E)) E Ah ?_ | refine Ax (Co (T E)) E Ah ?_
 refine y_ (Ac (T E)) ?_ E
 first | refine Bz (s := 27) (Aa E) (fun c27 => ?_) (fun c27 => ?_) | refine Cf (s := 27) (Aa E) (fun c27 => ?_) (fun c27 => ?_)
 ·have hwn : ¬ wkF n (x : Int) ls = some (to : Int) := fun h => by rw [h] at c27; simp at c27
  refine Bm (Bm (Bm (y_ (Aq (T E) Aj) (y_ (Ac (T E)) (Bm (Bm (Bm (Bm (y_ (Aq (T E) Aj) (Af (Ae (Bh [(3, _), (5, _), (6, _), (7, _), (8, _), (37, _)] ⟨Aa E, Aa E, Aa E, Aa E, Aa E, Aa E, trivial⟩ ?_))) E) E E E E) E E E E) E E E E) E E E E) E) E) E E E E) E E E E) E E E E
  first | refine A8 (Aa E) ?_ | refine A8 (Ak (Aa E) (vbool (decide_eq_true c37))) ?_
  refine Ag (Ab (y_ (Ad Aj) (Af (Ae (Ay (Al (Az E (.tmp (Aa E) .nil) ?_))))) E))
  have hh : holdsF n f e x to ls = false := by unfold holdsF; rw [decide_eq_false hwn]; rfl
  rw [hh]; exact ⟨_, ⟨rfl, rfl⟩, sbt⟩
 ·obtain ⟨y, hy⟩ : ∃ y, wkF n (x : Int) ls = some y := by
   cases h : wkF n (x : Int) ls with
   | none => rw [h] at c27; simp at c27
   | some y => exact ⟨y, rfl⟩
  have hval := wkF_valid hy
  refine Ax (Ac (T E)) E (Ao E E (Aa E)) (Ax (Ac (T E)) E (Ao E E (Aa E)) (Ax (Cu (T E) (T E)) E (Ao E E (Aa E)) (y_ (Au (T E) (T E)) (y_ (Ac (T E)) ?_ E) E)))
  first | refine Bz (s := 32) (Aa E) (fun c32 => ?_) (fun c32 => ?_) | refine Cf (s := 32) (Aa E) (fun c32 => ?_) (fun c32 => ?_)
  ·have hwn : ¬ wkF n (x : Int) ls = some (to : Int) := fun h => by rw [h] at c32; simp at c32
   refine Bm (Bm (Bm (Bm (y_ (Aq (T E) Aj) (Af (Ae (Bh [(3, _), (5, _), (6, _), (7, _), (8, _), (37, _)] ⟨Aa E, Aa E, Aa E, Aa E, Aa E, Aa E, trivial⟩ ?_))) E) E E E E) E E E E) E E E E) E E E E
   first | refine A8 (Aa E) ?_ | refine A8 (Ak (Aa E) (vbool (decide_eq_true c37))) ?_
   refine Ag (Ab (y_ (Ad Aj) (Af (Ae (Ay (Al (Az E (.tmp (Aa E) .nil) ?_))))) E))
   have hh : holdsF n f e x to ls = false := by unfold holdsF; rw [decide_eq_false hwn]; rfl
   rw [hh]; exact ⟨_, ⟨rfl, rfl⟩, sbt⟩
  ·have hyt : wkF n (x : Int) ls = some (to : Int) := by
    rw [hy] at c32 ⊢; simp at c32; rw [c32]
   refine Ax (Bi (T E) fa58_1) E (Ao E E (Aa E)) (Ax (Ai (T E) isAgg3 (by first | exact c_o)) E (Ao E E (Aa E)) ?_)
   refine Ax (Ac (T E)) E (Ao E E (Aa E)) (Ax (B2 (T E) (T E)) E (Ao E E (Aa E)) (y_ (Au (T E) (T E)) (Af (Ae (Bh [(3, _), (5, _), (6, _), (7, _), (8, _), (37, _)] ⟨Aa E, Aa E, Aa E, Aa E, Aa E, Aa E, trivial⟩ ?_))) E))
   first | refine Ar (Aa E) (fun c37 => ?_) (fun c37 => ?_) | refine A6 (Aa E) (fun c37 => ?_) (fun c37 => ?_)
   ·have hcon := 0
    refine Ag (Ab (y_ (Ad Aj) (Af (Ae (Ay (Al (Az E (.tmp (Aa E) .nil) ?_))))) E))
    have hh : holdsF n f e x to ls = false := by unfold holdsF; rw [decide_eq_true hyt, decide_eq_false (fun h => h c37)]; rfl
    rw [hh]; exact ⟨_, ⟨rfl, rfl⟩, sbt⟩
   ·have hcon := 0
    refine A2 (Ae (Ag (Ab (y_ (Bc (T E) C8) (y_ (Ai (T E) isAgg52 (by first | exact c_o)) ?_ E) E))))
    refine y_ (Ac (T E)) (y_ (Be (T E) (T E) runUnderlying52 sizeOf138 (by omega) (by first | exact rfl | exact hn.nodes.b (i := x) hx | exact hA.b (i := i) (by omega) | exact hn.links.b (i := ki) (by omega) | exact hn.nodes.b (i := (gd n.links ki).dst) hdd)) ?_ E) E
    refine y_ (Bc (T E) Dw) (y_ (Ai (T E) isAgg9 (by first | exact c_o | exact (hn.nodes.mono sbt).f0 (i := x) hx E)) ?_ E) E
    refine e_ (Ap (.cons (T E) .nil) (De _)) ?_ E
    rintro _ _ ⟨n44, rfl, rfl⟩
    refine y_ (Ad (T E)) (Af (Ae (Ag (Ag (Ab (y_ (Ac (T E)) (y_ (Bp (T E) runUnderlying42) (y_ (Ac Aj) (Af (Ae (Aw ?_))) E) E) E)))))) E
    refine Cm (X := Nat × Sl) (V := fun ⟨i, d⟩ => [(47, .int .i64 (i : Nat)), (15, slV d (namesF n x (ls.take i)).length)]) (C := [(6, _), (7, _), (8, _), (45, _), (46, _)]) (G := fun ⟨i, d⟩ => slH d ((namesF n x (ls.take i)).flatMap encS) 9 ++ ((n8, Cl (encRx m) 24) :: (n7, Cl (encFl f) 58) :: (n6, Cl (encNn n) 56) :: H)) (φ := fun ⟨i, d⟩ => i ≤ ls.length ∧ SlOk d (namesF n x (ls.take i)).length 1 ∧ upAll n f (ls.take i) = true) (μ := fun ⟨i, d⟩ => ls.length - i) (x0 := (0, .blk n44 1 [])) ?_ ⟨Aa rfl, Aa rfl, Aa rfl, Aa rfl, Aa rfl, trivial⟩ ⟨(by first | exact Aa rfl | (refine Ak (Aa rfl) (vint ?_); omega) | (refine Ak (Aa rfl) ?_; simp; done) | (refine Ak (Aa rfl) ?_; exact by simp only [hnt, List.length_append, List.length_cons, List.length_nil])), (by first | exact Aa rfl | (refine Ak (Aa rfl) (vint ?_); omega) | (refine Ak (Aa rfl) ?_; simp; done) | (refine Ak (Aa rfl) ?_; exact by simp only [hnt, List.length_append, List.length_cons, List.length_nil])), trivial⟩ sb0 ?_
    ·exact ⟨Nat.zero_le _, ⟨Nat.le_refl _, rfl⟩, rfl⟩
    rintro ⟨i, d⟩ ⟨hi, hd, hu⟩
    refine Ag (Ab (y_ (Bu (T E) (T E)) (Af (Ae (Ag ?_))) E))
    first | refine Ar (Aa E) (fun c48 => ?_) (fun c48 => ?_) | refine A6 (Aa E) (fun c48 => ?_) (fun c48 => ?_)
    ·have hv := hval i (by omega)
     obtain ⟨ki, hki⟩ : ∃ ki : Nat, gd ls i = (ki : Int) := ⟨(gd ls i).toNat, by omega⟩
     have hkt : (gd ls i).toNat = ki := by omega
     have hkl : ki < n.links.length := by omega
     have hdd := (hok.ends _ (Bg hkl)).2
     have hut := upAll_take (n := n) (f := f) (ls := ls) (i := i) (by omega)
     have hnt := namesF_take (n := n) (x := x) (ls := ls) (i := i) (by omega)
     rw [hkt] at hut hnt
     refine A2 (Ae (Ag (Aw (Ag (Ab (y_ (Be (T E) (T E) runUnderlying42 sizeOf3 (by omega) (by first | exact rfl | exact hn.nodes.b (i := x) hx | exact hA.b (i := i) (by omega) | exact hn.links.b (i := ki) (by omega) | exact hn.nodes.b (i := (gd n.links ki).dst) hdd)) ?_ E))))))
     refine y_ (Ai (T E) isAgg3 (by first | exact c_o | exact cell_e (vint hki) (cell1 ((hA.mono sbt).cs (i := i) (by omega))))) ?_ E
     refine y_ (Ad (T E)) (Af (Ae (Ag (Ag (Ab (y_ (Am (T E) isAgg56 sizeOf56 E (by first | exact Bb)) ?_ E)))))) E
     refine y_ (Am (T E) isAgg58 sizeOf58 E (by first | exact Bb)) ?_ E
     refine y_ (Ac (T E)) (y_ (Av (.cons (T E) (.cons (T E) (.cons (T E) .nil))) call39 (fun H' hs => gup_s n (hn.mono (List.Sublist.trans sbt hs)) f (hf.mono (List.Sublist.trans sbt hs)) hfl ki (by omega))) ?_ E) E
     first | refine Ax (Ca (T E)) E Ah ?_ | refine Ax (Co (T E)) E Ah ?_
     refine Af (Ae ?_)
     first | refine Ar (Aa E) (fun c55 => ?_) (fun c55 => ?_) | refine A6 (Aa E) (fun c55 => ?_) (fun c55 => ?_)
     ·have hun : upAll n f ls = false := upAll_no (i := i) (by omega) (by rw [hkt]; simpa using c55)
      refine Ag (Ab (y_ (Ad Aj) (Af (Ae (Ay (Al (An (Al (Bo (An (Al (Az E (.tmp (Aa E) .nil) ?_)))))))))) E))
      have hh : holdsF n f e x to ls = false := by unfold holdsF; rw [hun]; simp
      rw [hh]; exact ⟨_, ⟨rfl, rfl⟩, sbt⟩
     ·have huy : upAll n f (ls.take (i + 1)) = true := by rw [hut, hu]; simpa using c55
      refine A2 (Ae (Ch 13 [(0, true), (1, true), (2, true), (3, true), (4, true), (5, true), (6, true), (7, true), (8, true), (9, true), (10, true), (11, true), (12, false)] _ mixd (by kernel_rfl) sb0 ?_))
      refine o_y E (Ac (T E)) (o_y E (Bc (T E) C8) (o_y E (Ai (T E) isAgg52 (by first | exact c_o)) ?_ E Ah) E Ah) E Ah
      refine o_y E (Bi (T E) C6) (o_y E (Ai (T E) isAgg53 (by first | exact c_o)) ?_ E Ah) E Ah
      refine o_y E (Ac (T E)) (o_y E (Be (T E) (T E) runUnderlying53 sizeOf71 (by omega) (by first | exact rfl | exact hn.nodes.b (i := x) hx | exact hA.b (i := i) (by omega) | exact hn.links.b (i := ki) (by omega) | exact hn.nodes.b (i := (gd n.links ki).dst) hdd)) ?_ E Ah) E Ah
      refine o_y E (Bi (T E) fa71_1) (o_y E (Ai (T E) isAgg3 (by first | exact c_o | exact (hn.links.mono sbt).f (i := ki) (by omega) E)) ?_ E Ah) E Ah
      refine o_y E (Be (T E) (T E) runUnderlying52 sizeOf138 (by omega) (by first | exact rfl | exact hn.nodes.b (i := x) hx | exact hA.b (i := i) (by omega) | exact hn.links.b (i := ki) (by omega) | exact hn.nodes.b (i := (gd n.links ki).dst) hdd)) ?_ E Ah
      refine o_y E (Bc (T E) Dw) (o_y E (Ai (T E) isAgg9 (by first | exact c_o | exact (hn.nodes.mono sbt).f0 (i := (gd n.links ki).dst) hdd E)) ?_ E Ah) E Ah
      refine o_e E (Ap (.cons (T E) .nil) (De _)) ?_ E Ah
      rintro _ _ ⟨n68, rfl, rfl⟩
      refine ⟨sbt, (Bx E (e_ (B0 (nmF n (gd n.links ki).dst) (by' := 16) (by repeat (first | exact LocL.h | apply LocL.t | apply LocL.a)) (T E) (T E) runUnderlying25 runUnderlying25 sizeOf9 typeInfo9 E zeroValue9 E (fun _ => rfl) E hd (by decide) (by rw [namesF_len, List.length_take]; omega)) ?_ E))⟩
      rintro _ _ ⟨d', rfl, hokd, rfl⟩
      refine y_ (Ad (T E)) (Af (Bl (Ae (Bh [(6, _), (7, _), (8, _), (15, _), (45, _), (46, _), (47, _)] ⟨Aa E, Aa E, Aa E, Aa E, Aa E, Aa E, Aa E, trivial⟩ (Ab (y_ (Bt (T E) Aj (by omega)) ?_ E)))))) E
      refine y_ (Ac (T E)) (Af ?_) E
      refine Bn ((i + 1, d')) ?_ ?_ ⟨(by first | exact Aa E | (refine Ak (Aa E) (vint ?_); omega) | (refine Ak (Aa E) ?_; simp; done) | (refine Ak (Aa E) ?_; exact by simp only [hnt, List.length_append, List.length_cons, List.length_nil])), (by first | exact Aa E | (refine Ak (Aa E) (vint ?_); omega) | (refine Ak (Aa E) ?_; simp; done) | (refine Ak (Aa E) ?_; exact by simp only [hnt, List.length_append, List.length_cons, List.length_nil])), trivial⟩ ⟨Aa E, Aa E, Aa E, Aa E, Aa E, trivial⟩ ?_
      ·exact ⟨by omega, by rw [hnt, List.length_append]; exact hokd, huy⟩
      ·first | omega | (simp only []; omega)
      ·simp only [hnt]; exact sbt
    ·have hi2 : i = ls.length := by omega
     rw [hi2, List.take_length] at hu
     have hd2 := hd
     rw [hi2, List.take_length] at hd2
     simp only [hi2, List.take_length]
     refine B4 (A0 (A4 (A3 (Ae (Ag (Ab (y_ (Am (T E) isAgg24 sizeOf24 E (by first | exact Bb)) ?_ E)))))))
     refine y_ (Ac (T rfl)) (y_ (Av (.cons (T rfl) (.cons (T rfl) .nil)) call16 (fun H' hs => match_s m e _ _ (namesF n x ls) hI (hM.mono (List.Sublist.trans sbt hs)) hl ((Bq (X := H) (enc := encS) (sz := 1) (e := 9) (fun _ => rfl) hd2).mono (List.Sublist.trans sbt hs)) (by rw [namesF_len]; omega))) ?_ rfl) rfl
     refine y_ (Ad (T E)) (Af (Ae (Ay (Az E (.tmp (Aa E) .nil) ?_)))) E
     have hh : holdsF n f e x to ls = matchF e (namesF n x ls) := by unfold holdsF; rw [decide_eq_true hyt, decide_eq_true c37, hu]; rfl
     rw [hh]; exact ⟨_, ⟨rfl, rfl⟩, sbt⟩
end Go.Proofs.YtkdolgnpkjihpaaGreatDoor
namespace Go.Proofs.YtkdolgnpkjihpaaGreatDoor
open _root_.Go.Proofs.Tryz
open Go.RowKit
set_option linter.unusedVariables false
set_option linter.unusedSimpArgs false
def SrtP (l : List (Int × Int)) : Prop := l.Pairwise fun a b => cmpPl a b < 0
theorem cmpPl_trans {a b c : Int × Int} (h1 : cmpPl a b < 0) (h2 : cmpPl b c < 0) : cmpPl a c < 0 := by
 rw [cmpPl_lt] at *; omega
theorem SrtP.lt {l : List (Int × Int)} (h : SrtP l) {i j : Nat} (hij : i < j) (hj : j < l.length) : cmpPl (gd l i) (gd l j) < 0 := by
 rw [Bv (by omega), Bv hj]
 exact List.pairwise_iff_getElem.1 h i j (by omega) hj hij
theorem srtP_of {l : List (Int × Int)} (h : ∀ k, 0 < k → k < l.length → cmpPl (gd l (k - 1)) (gd l k) < 0) : SrtP l := by
 have key : ∀ d i, i + d + 1 < l.length → cmpPl (gd l i) (gd l (i + d + 1)) < 0 := by
  intro d
  induction d with
  | zero => intro i hi; have := h (i + 1) (by omega) (by omega); simpa using this
  | succ d ih =>
   intro i hi
   have h1 := ih i (by omega)
   have h2 := h (i + (d + 1) + 1) (by omega) hi
   rw [show i + (d + 1) + 1 - 1 = i + d + 1 by omega] at h2
   exact cmpPl_trans h1 h2
 refine List.pairwise_iff_getElem.2 fun i j hi hj hij => ?_
 have := key (j - i - 1) i (by omega)
 rw [show i + (j - i - 1) + 1 = j by omega, Bv hi, Bv hj] at this
 exact this
theorem mem_gdP {l : List (Int × Int)} {x : Int × Int} : x ∈ l ↔ ∃ j, j < l.length ∧ gd l j = x := by
 constructor
 ·intro h
  obtain ⟨j, hj, e⟩ := List.getElem_of_mem h
  exact ⟨j, hj, by rw [Bv hj]; exact e⟩
 ·rintro ⟨j, hj, rfl⟩; exact Bg hj
def toN (p : Int × Int) : Pl := (p.1.toNat, p.2.toNat)
def PlIn (n : Nn) (m : PM) (to : Nat) (l : List (Int × Int)) (k : Nat) : Prop := (0 ≤ (gd l k).1 ∧ (gd l k).1 < n.nodes.length) ∧ (0 ≤ (gd l k).2 ∧ (gd l k).2 < m.next.length) ∧ (0 < k → cmpPl (gd l (k - 1)) (gd l k) < 0) ∧ ¬ ((gd l k).1 = to ∧ gd m.acc (gd l k).2.toNat = true)
instance plInDec (n : Nn) (m : PM) (to : Nat) (l : List (Int × Int)) (k : Nat) : Decidable (PlIn n m to l k) := by unfold PlIn; infer_instance
def RefOk (n : Nn) (f : Flr) (m : PM) (x to : Nat) (l : List (Int × Int)) : Prop := (∀ k, k < l.length → PlIn n m to l k) ∧ (¬ f.node = x → toI (p0F n m x) ∈ l) ∧ (∀ k, k < l.length → ∀ y ∈ movesF n f m (toN (gd l k)), toI y.1 ∈ l)
instance refOkDec (n : Nn) (f : Flr) (m : PM) (x to : Nat) (l : List (Int × Int)) : Decidable (RefOk n f m x to l) := by unfold RefOk; infer_instance
theorem bsf_s {w0 : World} {H : List (Nat × Obj)} (l : List (Int × Int)) (q : Option Addr) (c : Nat) (hA : Arr w0 H q 2 encPI l) (hlen : l.length ≤ 1000000) (hsr : SrtP l) (t : Int × Int) :
  FSpec Tryz.prog w0 93 #[.slice q l.length c, .agg (encPI t).toArray, .func (.func 90) #[] #[]] H (fun v H' => ∃ i : Nat, v = .tuple #[.int .i64 (i : Int), .bool (decide (t ∈ l))] ∧ H' = H) := by
 refine A9 Tryz.func93 E ntmps93 E (Ag (Ab (e_ (Ba (T E) cs_) ?_ E)))
 rintro _ _ ⟨n4, rfl, rfl⟩
 refine y_ (Ad Aj) (y_ (Ad Aj) (Af (Ae (Ag (Ab (y_ (Ac (T E)) (y_ (Bp (T E) runUnderlying59) (y_ (Ad (T E)) (Af (Ae (Ag (Ab (y_ (Ac (T E)) (y_ (Ad Aj) (y_ (Ad (T E)) (Af (Ae (Ag (Aw ?_)))) E) E) E))))) E) E) E))))) E) E
 refine Cc (X := Nat × Nat) (V := fun ⟨i, j⟩ => [(9, .int .i64 (i : Nat)), (10, .int .i64 (j : Nat))]) (C := [(0, _), (2, _), (4, _), (8, _)]) (φ := fun ⟨i, j⟩ => i ≤ j ∧ j ≤ l.length ∧ (∀ k, k < i → cmpPl (gd l k) t < 0) ∧ (∀ k, j ≤ k → k < l.length → ¬ cmpPl (gd l k) t < 0)) (μ := fun ⟨i, j⟩ => j - i) (x0 := (0, l.length)) ?_ ⟨Aa rfl, Aa rfl, Aa rfl, Aa rfl, trivial⟩ ⟨(by first | exact Aa rfl | (refine Ak (Aa rfl) (vint ?_); omega) | (refine Ak (Aa rfl) ?_; simp; done)), (by first | exact Aa rfl | (refine Ak (Aa rfl) (vint ?_); omega) | (refine Ak (Aa rfl) ?_; simp; done)), trivial⟩ ?_
 ·exact ⟨Nat.zero_le _, Nat.le_refl _, fun k hk => absurd hk (Nat.not_lt_zero _), fun k h1 h2 => by omega⟩
 rintro ⟨i, j⟩ ⟨hij0, hj, h1, h2⟩
 refine Ag (Ag (Ab (y_ (Ac (T E)) (y_ (Ac (T E)) (y_ (Bu (T E) (T E)) (Af (Ae ?_)) E) E) E)))
 first | refine Ar (Aa E) (fun c17 => ?_) (fun c17 => ?_) | refine A6 (Aa E) (fun c17 => ?_) (fun c17 => ?_)
 ·have hij : i < j := by omega
  refine A2 (Ae (Aw (Ag (Ab (y_ (Ac (T E)) (y_ (Ac (T E)) (y_ (Bt (T E) (T E) (by omega)) ?_ E) E) E)))))
  refine y_ (yl_convU (n := i + j) (by have := p63; omega) (T E) runUnderlying3 runUnderlying192) ?_ E
  refine y_ (yl_shrU (T E) Aj) (y_ (yl_convB64 (n := (i + j) / 2) (by have := p63; omega) (T E) runUnderlying192 runUnderlying3) ?_ E) E
  refine y_ (Ad (T E)) (Af (Ae (Ag (Ch 8 [(0, true), (1, true), (2, true), (3, true), (4, true), (5, true), (6, true), (7, true)] _ mixd (by kernel_rfl) sb0 ?_)))) E
  refine o_y E (Ac (T E)) (o_y E (Ac (T E)) (o_y E (Ac (T E)) (o_y E (Be (T E) (T E) runUnderlying59 sizeOf74 (by omega) (by first | exact rfl | exact hA.b (i := ((i + j) / 2)) (by omega) | exact hA.b (i := i) (by omega))) ?_ E Ah) E Ah) E Ah) E Ah
  refine o_y E (Am (T E) isAgg74 sizeOf74 E (by first | exact (hA.mono sbt).cs (i := ((i + j) / 2)) (by omega) | exact Bb)) ?_ E Ah
  refine o_y E (Am (T E) isAgg74 sizeOf74 E (by first | exact Bb)) ?_ E Ah
  refine o_y E (yl_callV (T E) (.cons (T E) (.cons (T E) .nil)) call90 (fun H' hs => cmpPl_s (gd l ((i + j) / 2)) t)) (o_y E (Bu (T E) Aj) (Bx E (Af (Ae (Bh [(0, _), (2, _), (4, _), (8, _), (9, _), (10, _), (11, _), (31, _)] ⟨Aa E, Aa E, Aa E, Aa E, Aa E, Aa E, Aa E, Aa E, trivial⟩ ?_)))) E Ah) E Ah
  first | refine Ar (Aa E) (fun c31 => ?_) (fun c31 => ?_) | refine A6 (Aa E) (fun c31 => ?_) (fun c31 => ?_)
  ·refine Ab (y_ (Ac (T E)) (y_ (Bt (T E) Aj (by omega)) ?_ E) E)
   refine y_ (Ad (T E)) (Af (Bl ?_)) E
   refine Bn ((((i + j) / 2) + 1, j)) ?_ ?_ ⟨(by first | exact Aa E | (refine Ak (Aa E) (vint ?_); omega) | (refine Ak (Aa E) ?_; simp; done)), (by first | exact Aa E | (refine Ak (Aa E) (vint ?_); omega) | (refine Ak (Aa E) ?_; simp; done)), trivial⟩ ⟨Aa E, Aa E, Aa E, Aa E, trivial⟩ ?_
   ·refine ⟨by omega, hj, fun k hk => ?_, h2⟩
    by_cases e : k = ((i + j) / 2)
    ·subst e; exact c31
    ·exact cmpPl_trans (hsr.lt (show k < ((i + j) / 2) by omega) (by omega)) c31
   ·first | omega | (simp only []; omega)
   ·exact sbt
  ·refine Ab (y_ (Ac (T E)) (y_ (Ad (T E)) (Af (Bl ?_)) E) E)
   refine Bn ((i, ((i + j) / 2))) ?_ ?_ ⟨(by first | exact Aa E | (refine Ak (Aa E) (vint ?_); omega) | (refine Ak (Aa E) ?_; simp; done)), (by first | exact Aa E | (refine Ak (Aa E) (vint ?_); omega) | (refine Ak (Aa E) ?_; simp; done)), trivial⟩ ⟨Aa E, Aa E, Aa E, Aa E, trivial⟩ ?_
   ·refine ⟨by omega, by omega, h1, fun k hk hk2 h3 => ?_⟩
    by_cases e : k = ((i + j) / 2)
    ·subst e; exact c31 h3
    ·exact c31 (cmpPl_trans (hsr.lt (show ((i + j) / 2) < k by omega) hk2) h3)
   ·first | omega | (simp only []; omega)
   ·exact sbt
 ·have hij : i = j := by omega
  subst hij
  refine B4 (A0 (A4 (A3 (Ae (Ag (Ch 16 [(0, true), (1, true), (2, true), (3, true), (4, true), (5, true), (6, true), (7, true), (8, true), (9, true), (10, true), (11, true), (12, true), (13, true), (14, true), (15, true)] _ mixd (by kernel_rfl) sb0 ?_))))))
  refine o_y E (Ac (T E)) (o_y E (Ac (T E)) (o_y E (Ac (T E)) (o_y E (Bu (T E) (T E)) (o_y E (Ac (T E)) ?_ E Ah) E Ah) E Ah) E Ah) E Ah
  first | refine Cy (s := 39) (Aa E) (fun c39 => ?_) (fun c39 => ?_) | refine Dx (s := 39) (Aa E) (fun c39 => ?_) (fun c39 => ?_)
  ·have hil : i < l.length := by omega
   have hdec : decide (cmpPl (gd l i) t = 0) = decide (t ∈ l) := by
    refine decide_eq_decide.2 ⟨fun h => by rw [← (cmpPl_eq _ _).1 h]; exact Bg hil, fun h => ?_⟩
    obtain ⟨k, hk, rfl⟩ := mem_gdP.1 h
    rw [cmpPl_eq]
    by_cases e : k < i
    ·exact absurd (h1 k e) (by rw [(cmpPl_eq _ _).2 rfl]; decide)
    ·by_cases e2 : k = i
     ·rw [e2]
     ·exact absurd (hsr.lt (show i < k by omega) hk) (h2 i (Nat.le_refl _) hil)
   refine o_y E (Ac (T E)) (o_y E (Ac (T E)) (o_y E (Ac (T E)) (o_y E (Be (T E) (T E) runUnderlying59 sizeOf74 (by omega) (by first | exact rfl | exact hA.b (i := ((i + j) / 2)) (by omega) | exact hA.b (i := i) (by omega))) ?_ E (Ao E E (Aa E))) E (Ao E E (Aa E))) E (Ao E E (Aa E))) E (Ao E E (Aa E))
   refine o_y E (Am (T E) isAgg74 sizeOf74 E (by first | exact (hA.mono sbt).cs (i := i) (by omega) | exact Bb)) ?_ E (Ao E E (Aa E))
   refine o_y E (Am (T E) isAgg74 sizeOf74 E (by first | exact Bb)) ?_ E (Ao E E (Aa E))
   refine o_y E (yl_callV (T E) (.cons (T E) (.cons (T E) .nil)) call90 (fun H' hs => cmpPl_s (gd l i) t)) (o_y E (B2 (T E) Aj) (o_y E (Aq (T E) (T E)) (o_y E (Ad (T E)) (o_y E (Ad (T E)) (Bx E (Af (Ae (Bh [(6, _), (7, _)] ⟨Aa E, Aa E, trivial⟩ (Ay (Az E (.tmp (Aa E) (.tmp (Aa E) .nil)) ?_)))))) E Ah) E Ah) E Ah) E (Ao E E (Aa E))) E (Ao E E (Aa E))
   exact ⟨_, ⟨i, by rw [← hdec]; rfl, rfl⟩, sbt⟩
  ·have hdec : false = decide (t ∈ l) := by
    symm
    refine decide_eq_false fun h => ?_
    obtain ⟨k, hk, rfl⟩ := mem_gdP.1 h
    have := h1 k (by omega)
    rw [(cmpPl_eq _ _).2 rfl] at this
    exact absurd this (by decide)
   refine o_n E (o_n E (o_n E (o_n E (o_n E (o_n E (o_n E (o_n E (o_y E (Au (T E) Aj) (o_y E (Ad (T E)) (o_y E (Ad (T E)) (Bx E (Af (Ae (Bh [(6, _), (7, _)] ⟨Aa E, Aa E, trivial⟩ (Ay (Az E (.tmp (Aa E) (.tmp (Aa E) .nil)) ?_)))))) E Ah) E Ah) E Ah) E (B8 E E (Aa E))) E (B8 E E (Aa E))) E (B8 E E (Aa E))) E (B8 E E (Aa E))) E (B8 E E (Aa E))) E (B8 E E (Aa E))) E (B8 E E (Aa E))) E (B8 E E (Aa E))
   exact ⟨_, ⟨i, by rw [← hdec]; rfl, rfl⟩, sbt⟩
theorem must_s {w0 : World} {H : List (Nat × Obj)} (l : List (Int × Int)) (q : Option Addr) (c : Nat) (hA : Arr w0 H q 2 encPI l) (hlen : l.length ≤ 1000000) (hsr : SrtP l) (p : Int × Int) (lk : Int) (b : Bool) (b11 b15 : Nat) (h11 : Fnd H b11 (Cl [.slice q l.length c] 59)) :
  FSpec Tryz.prog w0 92 #[.agg (encPI p).toArray, .int .i64 lk, .pointer (some ⟨b11, 0, none⟩), .pointer (some ⟨b15, 0, none⟩)] ((b15, Cl [.bool b] 4) :: H) (fun _ H' => H' = (b15, Cl [.bool (b && decide (p ∈ l))] 4) :: H) := by
 refine A9 Tryz.func92 E ntmps92 E (Ag (Ab (e_ (Ba (T E) cs_) ?_ E)))
 rintro _ _ ⟨n4, rfl, rfl⟩
 refine Af (Ae (Ag (Ab (y_ (Ai (T E) isAgg59 (by first | exact c_o | exact c_o (hf := As (As h11)))) ?_ E))))
 refine y_ (Am (T E) isAgg74 sizeOf74 E (by first | exact Bb)) ?_ E
 refine e_ (A1 (.cons (T E) (.cons (T E) (.cons ev_f .nil))) call93 (bsf_s l q c (hA.mono sbt) hlen hsr p)) ?_ E
 rintro _ _ ⟨i, rfl, rfl⟩
 refine y_ (Ac (T E)) (y_ (Bf (T E) E) (y_ (Bf (T E) E) (y_ (Ad (T E)) (y_ (Ad (T E)) (Af (Ae (Ab (y_ (Ai (T E) isAgg4 (by first | exact c_o)) ?_ E)))) E) E) E) E) E
 refine y_ (Ac (T E)) ?_ E
 first | refine Bz (s := 15) (Aa E) (fun c15 => ?_) (fun c15 => ?_) | refine Cf (s := 15) (Aa E) (fun c15 => ?_) (fun c15 => ?_)
 ·refine Ax (Ac (T E)) E (Ao E E (Aa E)) (y_ (Aq (T E) (T E)) ?_ E)
  first | refine Bk (A7 (T E) (T E) sizeOf4) E Ah ?_ | refine Bk (Cg (T E) (T E) E sizeOf4) E Ah ?_ | refine Bk (B7 (T E) (T E) E sizeOf4) E Ah ?_
  rintro _ _ ⟨rfl, rfl⟩
  refine Af (Dh E .nil ?_)
  rw [c15]; exact ⟨_, rfl, sbt⟩
 ·refine Bs (y_ (Au (T E) Aj) ?_ E) E E E E
  first | refine Bk (A7 (T E) (T E) sizeOf4) E Ah ?_ | refine Bk (Cg (T E) (T E) E sizeOf4) E Ah ?_ | refine Bk (B7 (T E) (T E) E sizeOf4) E Ah ?_
  rintro _ _ ⟨rfl, rfl⟩
  refine Af (Dh E .nil ?_)
  rw [c15]; exact ⟨_, rfl, sbt⟩
end Go.Proofs.YtkdolgnpkjihpaaGreatDoor
namespace Go.Proofs.YtkdolgnpkjihpaaGreatDoor
open _root_.Go.Proofs.Tryz
open Go.RowKit
set_option linter.unusedVariables false
set_option linter.unusedSimpArgs false
theorem must_at {w0 : World} {H : List (Nat × Obj)} (l : List (Int × Int)) (q : Option Addr) (c : Nat) (hA : Arr w0 H q 2 encPI l) (hlen : l.length ≤ 1000000) (hsr : SrtP l) (p : Int × Int) (lk : Int) (b : Bool) (b11 b15 : Nat) (h11 : Fnd H b11 (Cl [.slice q l.length c] 59)) :
  FSpec Tryz.prog w0 92 #[.agg (encPI p).toArray, .int .i64 lk, .pointer (some ⟨b11, 0, none⟩), .pointer (some ⟨b15, 0, none⟩)] ([(b15, Cl [.bool b] 4)] ++ H) (fun _ H' => ∃ u : Unit, True ∧ H' = [(b15, Cl [.bool (b && decide (p ∈ l))] 4)] ++ H) :=
 (must_s l q c hA hlen hsr p lk b b11 b15 h11).mono fun v H' e => ⟨(), trivial, e⟩
theorem loc5 {a b c d e : Nat × Obj} {X : List (Nat × Obj)} : LocL (a :: b :: c :: d :: e :: X) [e] (a :: b :: c :: d :: X) (fun M' => a :: b :: c :: d :: (M' ++ X)) := .t (.t (.t (.t (show LocL ([e] ++ X) [e] X _ from .h))))
def allIn (l : List (Int × Int)) (ts : List (Pl × Nat)) : Bool := ts.all fun y => decide (toI y.1 ∈ l)
theorem allIn_take {l : List (Int × Int)} {ts : List (Pl × Nat)} {j : Nat} {x : Pl × Nat} (h : ts[j]? = some x) : allIn l (ts.take (j + 1)) = (allIn l (ts.take j) && decide (toI x.1 ∈ l)) := by
 unfold allIn; rw [List.take_add_one, h, List.all_append]; simp
def okK (n : Nn) (f : Flr) (m : PM) (l : List (Int × Int)) (k : Nat) : Bool := (l.take k).all fun p => allIn l (movesF n f m (toN p))
theorem okK_succ {n : Nn} {f : Flr} {m : PM} {l : List (Int × Int)} {k : Nat} (h : k < l.length) : okK n f m l (k + 1) = (okK n f m l k && allIn l (movesF n f m (toN (gd l k)))) := by
 unfold okK; rw [List.take_add_one, Dd h, List.all_append]; simp
theorem refOk_eq {n : Nn} {f : Flr} {m : PM} {x to : Nat} {l : List (Int × Int)} (h : ∀ k, k < l.length → PlIn n m to l k) : decide (RefOk n f m x to l) = ((decide (f.node = (x : Int)) || decide (toI (p0F n m x) ∈ l)) && okK n f m l l.length) := by
 rw [Bool.eq_iff_iff]
 simp only [decide_eq_true_eq, Bool.and_eq_true, Bool.or_eq_true]
 unfold RefOk okK allIn
 rw [List.take_length, List.all_eq_true]
 constructor
 ·rintro ⟨_, h2, h3⟩
  refine ⟨?_, fun p hp => ?_⟩
  ·by_cases e : f.node = (x : Int)
   ·exact .inl e
   ·exact .inr (h2 e)
  ·obtain ⟨k, hk, rfl⟩ := mem_gdP.1 hp
   rw [List.all_eq_true]
   intro y hy
   exact decide_eq_true (h3 k hk y hy)
 ·rintro ⟨h2, h3⟩
  refine ⟨h, fun e => h2.resolve_left e, fun k hk y hy => ?_⟩
  have := h3 (gd l k) (Bg hk)
  rw [List.all_eq_true] at this
  exact of_decide_eq_true (this y hy)
theorem C1 {n : Nn} {f : Flr} {m : PM} {x to : Nat} {l : List (Int × Int)} {k : Nat} (hk : k < l.length) (h : ¬ PlIn n m to l k) : decide (RefOk n f m x to l) = false := decide_eq_false fun hr => h (hr.1 k hk)
theorem mustV {w0 : World} {R : List (Nat × Obj)} (l : List (Int × Int)) (q : Option Addr) (c : Nat) (hA : Arr w0 R q 2 encPI l) (hlen : l.length ≤ 1000000) (hsr : SrtP l) (ts : List (Pl × Nat)) (b : Bool) (b11 b15 : Nat) (h11 : Fnd R b11 (Cl [.slice q l.length c] 59)) :
  ∀ j x M1 H1, ts[j]? = some x → R.Sublist H1 → M1 = [(b15, Cl [.bool (b && allIn l (ts.take j))] 4)] →
   FSpec Tryz.prog w0 92 (.agg (encPl x.1).toArray :: .int .i64 (x.2 : Int) :: [.pointer (some ⟨b11, 0, none⟩), .pointer (some ⟨b15, 0, none⟩)]).toArray (M1 ++ H1) (fun _ H' => ∃ M2, M2 = [(b15, Cl [.bool (b && allIn l (ts.take (j + 1)))] 4)] ∧ H' = M2 ++ H1) := by
 rintro j x _ H1 hj hs rfl
 refine (must_s (H := H1) l q c (hA.mono hs) hlen hsr (toI x.1) (x.2 : Int) _ b11 b15 (h11.mono hs)).mono ?_
 rintro v H' rfl
 exact ⟨_, rfl, by rw [allIn_take hj, Bool.and_assoc]; rfl⟩
theorem refutes_s {w0 : World} {H : List (Nat × Obj)} (n : Nn) (f : Flr) (m : Mc) (he : Env w0 H n f m) (ho : EnvOk n f m) (x : Nat) (hx : x < n.nodes.length) (to : Nat) (l : List (Int × Int)) (q : Option Addr) (c : Nat) (hA : Arr w0 H q 2 encPI l) (hlen : l.length ≤ 1000000) :
  FSpec Tryz.prog w0 37 #[.agg (encNn n).toArray, .agg (encFl f).toArray, .agg (encMc m).toArray, .int .i64 (x : Int), .int .i64 (to : Int), .slice q l.length c] H (Still (.bool (decide (RefOk n f m.pl x to l))) H) := by
 refine A9 Tryz.func37 E ntmps37 E ?_
 have hrl : m.pl.next.length = m.rows.length := List.length_map ..
 have hal : m.acc.length = m.rows.length := by have := ho.om.acc; rw [hrl] at this; exact this
 refine Ag (Ab (e_ (Ba (T E) cs_) ?_ E))
 rintro _ _ ⟨n6, rfl, rfl⟩
 refine e_ (Ba (T E) cs_) ?_ E
 rintro _ _ ⟨n7, rfl, rfl⟩
 refine e_ (Ba (T E) cs_) ?_ E
 rintro _ _ ⟨n8, rfl, rfl⟩
 refine e_ (Ba (T E) cs_) ?_ E
 rintro _ _ ⟨n11, rfl, rfl⟩
 refine y_ (Ad Aj) (Af (Ae (Ag (Ag (Ab (y_ (Ai (T E) isAgg59 (by first | exact c_o)) ?_ E)))))) E
 refine y_ (Bp (T E) runUnderlying59) (y_ (Ac Aj) (Af (Ae (Aw ?_))) E) E
 refine Cc (X := Nat) (V := fun k => [(21, .int .i64 (k : Nat))]) (C := [(3, _), (4, _), (6, _), (7, _), (8, _), (11, _), (19, _), (20, _)]) (φ := fun k => k ≤ l.length ∧ ∀ j, j < k → PlIn n m.pl to l j) (μ := fun k => l.length - k) (x0 := 0) ?_ ⟨Aa E, Aa E, Aa E, Aa E, Aa E, Aa E, Aa E, Aa E, trivial⟩ ⟨(by first | exact Aa E | (refine Ak (Aa E) (vint ?_); omega) | (refine Ak (Aa E) ?_; simp; done)), trivial⟩ ?_
 ·exact ⟨Nat.zero_le _, fun j hj => absurd hj (Nat.not_lt_zero _)⟩
 rintro k ⟨hk, hall⟩
 refine Ag (Ab (y_ (Bu (T E) (T E)) (Af (Ae (Ag ?_))) E))
 first | refine Ar (Aa E) (fun c22 => ?_) (fun c22 => ?_) | refine A6 (Aa E) (fun c22 => ?_) (fun c22 => ?_)
 ·refine A2 (Ae (Ag (Aw (Ag (Ab (y_ (Ac (T E)) (y_ (Be (T E) (T E) runUnderlying59 sizeOf74 (by omega) (by first | exact rfl | exact hA.b (i := k) (by omega) | exact he.m.a3.b (i := (gd l k).2.toNat) (by omega) | exact hA.b (i := ((k : Int) - 1).toNat) (by omega))) ?_ E) E))))))
  refine y_ (Am (T E) isAgg74 sizeOf74 E (by first | exact (hA.mono sbt).cs (i := k) (by omega) | exact Bb)) ?_ E
  refine e_ (A5 zeroValue74 cs_) ?_ E
  rintro _ _ ⟨n14, rfl, rfl⟩
  refine y_ (Ad (T E)) ?_ E
  first | refine Bk (A7 (T E) (T E) sizeOf74) E Ah ?_
  rintro _ _ ⟨rfl, rfl⟩
  refine Af (Ae (Ag (Ch 52 [(0, true), (1, true), (2, true), (3, true), (4, true), (5, true), (6, true), (7, true), (8, true), (9, true), (10, true), (11, true), (12, true), (13, true), (14, true), (15, true), (16, true), (17, true), (18, true), (19, true), (20, true), (21, true), (22, true), (23, true), (24, true), (25, true), (26, true), (27, true), (28, true), (29, true), (30, true), (31, true), (32, true), (33, true), (34, true), (35, true), (36, true), (37, true), (38, true), (39, true), (40, true), (41, true), (42, true), (43, true), (44, true), (45, true), (46, true), (47, true), (48, true), (49, true), (50, true), (51, true)] _ mixd (by kernel_rfl) sb0 ?_)))
  refine o_y E (Bc (T E) Dm) (o_y E (Ai (T E) isAgg3 (by first | exact c_o)) ?_ E Ah) E Ah
  refine o_y E (Bu (T E) Aj) (o_y E (Ac (T E)) ?_ E Ah) E Ah
  first | refine Cy (s := 29) (Aa E) (fun c29 => ?_) (fun c29 => ?_) | refine Dx (s := 29) (Aa E) (fun c29 => ?_) (fun c29 => ?_)
  ·have hbad : ¬ PlIn n m.pl to l k := fun hq => by
    obtain ⟨q1, q2, q3, q4⟩ := hq
    omega
   refine o_n E (o_n E (o_n E (o_n E (o_n E (o_n E (o_y E (Aq (T E) Aj) (o_y E (Ac (T E)) (o_n E (o_n E (o_n E (o_y E (Aq (T E) Aj) (o_y E (Ac (T E)) (o_n E (o_n E (o_n E (o_n E (o_n E (o_n E (o_y E (Aq (T E) Aj) (o_y E (Ac (T E)) (o_n E (o_n E (o_n E (o_n E (o_n E (o_n E (o_n E (o_n E (o_n E (o_n E (o_n E (o_n E (o_y E (Aq (T E) Aj) (o_y E (Ac (T E)) (o_n E (o_n E (o_n E (o_n E (o_n E (o_n E (o_n E (o_n E (o_n E (o_n E (o_n E (o_n E (o_y E (Aq (T E) Aj) (Bx E (Af (Ae (Bh [(3, _), (4, _), (6, _), (7, _), (8, _), (11, _), (19, _), (20, _), (21, _), (77, _)] ⟨Aa E, Aa E, Aa E, Aa E, Aa E, Aa E, Aa E, Aa E, Aa E, Aa E, trivial⟩ ?_)))) E Ah) E (Bj E E (Aa E))) E (Ci E E (Aa E))) E (Ci E E (Aa E))) E (Ci E E (Aa E))) E (Ci E E (Aa E))) E (Ci E E (Aa E))) E (Ci E E (Aa E))) E (Bj E E (Aa E))) E (Bj E E (Aa E))) E (Bj E E (Aa E))) E (Bj E E (Aa E))) E (Bj E E (Aa E))) E Ah) E Ah) E (Bj E E (Aa E))) E (Ci E E (Aa E))) E (Ci E E (Aa E))) E (Ci E E (Aa E))) E (Ci E E (Aa E))) E (Ci E E (Aa E))) E (Ci E E (Aa E))) E (Ci E E (Aa E))) E (Ci E E (Aa E))) E (Bj E E (Aa E))) E (Bj E E (Aa E))) E (Bj E E (Aa E))) E Ah) E Ah) E (Bj E E (Aa E))) E (Bj E E (Aa E))) E (Bj E E (Aa E))) E (Bj E E (Aa E))) E (Bj E E (Aa E))) E (Bj E E (Aa E))) E Ah) E Ah) E (Bj E E (Aa E))) E (Bj E E (Aa E))) E (Bj E E (Aa E))) E Ah) E Ah) E (Bj E E (Aa E))) E (Bj E E (Aa E))) E (Bj E E (Aa E))) E (Bj E E (Aa E))) E (Bj E E (Aa E))) E (Bj E E (Aa E))
   first | refine A8 (Aa E) ?_ | refine A8 (Ak (Aa E) (vbool (decide_eq_true c77))) ?_
   refine Ag (Ab (y_ (Ad Aj) (Af (Ae (Ay (An (Al (Bo (An (Al (Az E (.tmp (Aa E) .nil) ?_))))))))) E))
   exact ⟨_, ⟨vbool (by rw [C1 (by omega) hbad]), rfl⟩, sbt⟩
  ·refine o_y E (Bc (T E) Dm) (o_y E (Ai (T E) isAgg3 (by first | exact c_o)) ?_ E (Ao E E (Aa E))) E (Ao E E (Aa E))
   refine o_y E (Bc (T E) C8) (o_y E (Ai (T E) isAgg52 (by first | exact c_o)) ?_ E (Ao E E (Aa E))) E (Ao E E (Aa E))
   refine o_y E (Bp (T E) runUnderlying52) (o_y E (C2 (T E) (T E)) (o_y E (Au (T E) (T E)) (o_y E (Ac (T E)) ?_ E Ah) E Ah) E (Ao E E (Aa E))) E (Ao E E (Aa E))
   first | refine Cy (s := 37) (Aa E) (fun c37 => ?_) (fun c37 => ?_) | refine Dx (s := 37) (Aa E) (fun c37 => ?_) (fun c37 => ?_)
   ·have hbad : ¬ PlIn n m.pl to l k := fun hq => by
     obtain ⟨q1, q2, q3, q4⟩ := hq
     omega
    refine o_n E (o_n E (o_n E (o_y E (Aq (T E) Aj) (o_y E (Ac (T E)) (o_n E (o_n E (o_n E (o_n E (o_n E (o_n E (o_y E (Aq (T E) Aj) (o_y E (Ac (T E)) (o_n E (o_n E (o_n E (o_n E (o_n E (o_n E (o_n E (o_n E (o_n E (o_n E (o_n E (o_n E (o_y E (Aq (T E) Aj) (o_y E (Ac (T E)) (o_n E (o_n E (o_n E (o_n E (o_n E (o_n E (o_n E (o_n E (o_n E (o_n E (o_n E (o_n E (o_y E (Aq (T E) Aj) (Bx E (Af (Ae (Bh [(3, _), (4, _), (6, _), (7, _), (8, _), (11, _), (19, _), (20, _), (21, _), (77, _)] ⟨Aa E, Aa E, Aa E, Aa E, Aa E, Aa E, Aa E, Aa E, Aa E, Aa E, trivial⟩ ?_)))) E Ah) E (Bj E E (Aa E))) E (Ci E E (Aa E))) E (Ci E E (Aa E))) E (Ci E E (Aa E))) E (Ci E E (Aa E))) E (Ci E E (Aa E))) E (Ci E E (Aa E))) E (Bj E E (Aa E))) E (Bj E E (Aa E))) E (Bj E E (Aa E))) E (Bj E E (Aa E))) E (Bj E E (Aa E))) E Ah) E Ah) E (Bj E E (Aa E))) E (Ci E E (Aa E))) E (Ci E E (Aa E))) E (Ci E E (Aa E))) E (Ci E E (Aa E))) E (Ci E E (Aa E))) E (Ci E E (Aa E))) E (Ci E E (Aa E))) E (Ci E E (Aa E))) E (Bj E E (Aa E))) E (Bj E E (Aa E))) E (Bj E E (Aa E))) E Ah) E Ah) E (Bj E E (Aa E))) E (Bj E E (Aa E))) E (Bj E E (Aa E))) E (Bj E E (Aa E))) E (Bj E E (Aa E))) E (Bj E E (Aa E))) E Ah) E Ah) E (Bj E E (Aa E))) E (Bj E E (Aa E))) E (Bj E E (Aa E))
    first | refine A8 (Aa E) ?_ | refine A8 (Ak (Aa E) (vbool (decide_eq_true c77))) ?_
    refine Ag (Ab (y_ (Ad Aj) (Af (Ae (Ay (An (Al (Bo (An (Al (Az E (.tmp (Aa E) .nil) ?_))))))))) E))
    exact ⟨_, ⟨vbool (by rw [C1 (by omega) hbad]), rfl⟩, sbt⟩
   ·refine o_y E (Bi (T E) Du) (o_y E (Ai (T E) isAgg3 (by first | exact c_o)) ?_ E (Ao E E (Aa E))) E (Ao E E (Aa E))
    refine o_y E (Bu (T E) Aj) (o_y E (Au (T E) (T E)) (o_y E (Ac (T E)) ?_ E Ah) E Ah) E (Ao E E (Aa E))
    first | refine Cy (s := 42) (Aa E) (fun c42 => ?_) (fun c42 => ?_) | refine Dx (s := 42) (Aa E) (fun c42 => ?_) (fun c42 => ?_)
    ·have hbad : ¬ PlIn n m.pl to l k := fun hq => by
      obtain ⟨q1, q2, q3, q4⟩ := hq
      omega
     refine o_n E (o_n E (o_n E (o_n E (o_n E (o_n E (o_y E (Aq (T E) Aj) (o_y E (Ac (T E)) (o_n E (o_n E (o_n E (o_n E (o_n E (o_n E (o_n E (o_n E (o_n E (o_n E (o_n E (o_n E (o_y E (Aq (T E) Aj) (o_y E (Ac (T E)) (o_n E (o_n E (o_n E (o_n E (o_n E (o_n E (o_n E (o_n E (o_n E (o_n E (o_n E (o_n E (o_y E (Aq (T E) Aj) (Bx E (Af (Ae (Bh [(3, _), (4, _), (6, _), (7, _), (8, _), (11, _), (19, _), (20, _), (21, _), (77, _)] ⟨Aa E, Aa E, Aa E, Aa E, Aa E, Aa E, Aa E, Aa E, Aa E, Aa E, trivial⟩ ?_)))) E Ah) E (Bj E E (Aa E))) E (Ci E E (Aa E))) E (Ci E E (Aa E))) E (Ci E E (Aa E))) E (Ci E E (Aa E))) E (Ci E E (Aa E))) E (Ci E E (Aa E))) E (Bj E E (Aa E))) E (Bj E E (Aa E))) E (Bj E E (Aa E))) E (Bj E E (Aa E))) E (Bj E E (Aa E))) E Ah) E Ah) E (Bj E E (Aa E))) E (Ci E E (Aa E))) E (Ci E E (Aa E))) E (Ci E E (Aa E))) E (Ci E E (Aa E))) E (Ci E E (Aa E))) E (Ci E E (Aa E))) E (Ci E E (Aa E))) E (Ci E E (Aa E))) E (Bj E E (Aa E))) E (Bj E E (Aa E))) E (Bj E E (Aa E))) E Ah) E Ah) E (Bj E E (Aa E))) E (Bj E E (Aa E))) E (Bj E E (Aa E))) E (Bj E E (Aa E))) E (Bj E E (Aa E))) E (Bj E E (Aa E))
     first | refine A8 (Aa E) ?_ | refine A8 (Ak (Aa E) (vbool (decide_eq_true c77))) ?_
     refine Ag (Ab (y_ (Ad Aj) (Af (Ae (Ay (An (Al (Bo (An (Al (Az E (.tmp (Aa E) .nil) ?_))))))))) E))
     exact ⟨_, ⟨vbool (by rw [C1 (by omega) hbad]), rfl⟩, sbt⟩
    ·refine o_y E (Bi (T E) Du) (o_y E (Ai (T E) isAgg3 (by first | exact c_o)) ?_ E (Ao E E (Aa E))) E (Ao E E (Aa E))
     refine o_y E (Bi (T E) Cv) (o_y E (Ai (T E) isAgg26 (by first | exact c_o)) ?_ E (Ao E E (Aa E))) E (Ao E E (Aa E))
     refine o_y E (Bp (T E) runUnderlying26) (o_y E (C2 (T E) (T E)) (o_y E (Au (T E) (T E)) (o_y E (Ac (T E)) ?_ E Ah) E Ah) E (Ao E E (Aa E))) E (Ao E E (Aa E))
     first | refine Cy (s := 50) (Aa E) (fun c50 => ?_) (fun c50 => ?_) | refine Dx (s := 50) (Aa E) (fun c50 => ?_) (fun c50 => ?_)
     ·have hbad : ¬ PlIn n m.pl to l k := fun hq => by
       obtain ⟨q1, q2, q3, q4⟩ := hq
       omega
      refine o_n E (o_n E (o_n E (o_n E (o_n E (o_n E (o_n E (o_n E (o_n E (o_n E (o_n E (o_n E (o_y E (Aq (T E) Aj) (o_y E (Ac (T E)) (o_n E (o_n E (o_n E (o_n E (o_n E (o_n E (o_n E (o_n E (o_n E (o_n E (o_n E (o_n E (o_y E (Aq (T E) Aj) (Bx E (Af (Ae (Bh [(3, _), (4, _), (6, _), (7, _), (8, _), (11, _), (19, _), (20, _), (21, _), (77, _)] ⟨Aa E, Aa E, Aa E, Aa E, Aa E, Aa E, Aa E, Aa E, Aa E, Aa E, trivial⟩ ?_)))) E Ah) E (Bj E E (Aa E))) E (Ci E E (Aa E))) E (Ci E E (Aa E))) E (Ci E E (Aa E))) E (Ci E E (Aa E))) E (Ci E E (Aa E))) E (Ci E E (Aa E))) E (Bj E E (Aa E))) E (Bj E E (Aa E))) E (Bj E E (Aa E))) E (Bj E E (Aa E))) E (Bj E E (Aa E))) E Ah) E Ah) E (Bj E E (Aa E))) E (Ci E E (Aa E))) E (Ci E E (Aa E))) E (Ci E E (Aa E))) E (Ci E E (Aa E))) E (Ci E E (Aa E))) E (Ci E E (Aa E))) E (Ci E E (Aa E))) E (Ci E E (Aa E))) E (Bj E E (Aa E))) E (Bj E E (Aa E))) E (Bj E E (Aa E))
      first | refine A8 (Aa E) ?_ | refine A8 (Ak (Aa E) (vbool (decide_eq_true c77))) ?_
      refine Ag (Ab (y_ (Ad Aj) (Af (Ae (Ay (An (Al (Bo (An (Al (Az E (.tmp (Aa E) .nil) ?_))))))))) E))
      exact ⟨_, ⟨vbool (by rw [C1 (by omega) hbad]), rfl⟩, sbt⟩
     ·refine o_y E (Ac (T E)) (o_y E (C7 (T E) Aj) (o_y E (Ac (T E)) ?_ E (Ao E E (Aa E))) E (Ao E E (Aa E))) E (Ao E E (Aa E))
      first | refine Cy (s := 53) (Aa E) (fun c53 => ?_) (fun c53 => ?_) | refine Dx (s := 53) (Aa E) (fun c53 => ?_) (fun c53 => ?_)
      ·have hk1 : ((k : Int) - 1).toNat = k - 1 := by omega
       refine o_y E (Ai (T E) isAgg59 (by first | exact c_o)) ?_ E (Ao E E (Aa E))
       refine o_y E (Ac (T E)) (o_y E (Dz (T E) Aj (by omega)) ?_ E (Ao E E (Aa E))) E (Ao E E (Aa E))
       refine o_y E (Ck (T E) (T E) runUnderlying59 sizeOf74 (by omega) (by first | exact rfl | exact hA.b (i := k) (by omega) | exact he.m.a3.b (i := (gd l k).2.toNat) (by omega) | exact hA.b (i := ((k : Int) - 1).toNat) (by omega))) ?_ E (Ao E E (Aa E))
       refine o_y E (Am (T E) isAgg74 sizeOf74 E (by first | exact (hA.mono sbt).cs (i := ((k : Int) - 1).toNat) (by omega) | exact Bb)) ?_ E (Ao E E (Aa E))
       refine o_y E (Am (T E) isAgg74 sizeOf74 E (by first | exact Bb)) ?_ E (Ao E E (Aa E))
       refine o_y E (Av (.cons (T E) (.cons (T E) .nil)) call90 (fun H' hs => cmpPl_s _ _)) (o_y E (C2 (T E) Aj) (o_y E (Aq (T E) (T E)) (o_y E (Au (T E) (T E)) (o_y E (Ac (T E)) ?_ E Ah) E Ah) E (Ao E E (Aa E))) E (Ao E E (Aa E))) E (Ao E E (Aa E))
       first | refine Cy (s := 64) (Aa E) (fun c64 => ?_) (fun c64 => ?_) | refine Dx (s := 64) (Aa E) (fun c64 => ?_) (fun c64 => ?_)
       ·have hbad : ¬ PlIn n m.pl to l k := fun hq => by
         obtain ⟨q1, q2, q3, q4⟩ := hq
         rw [hk1] at c64; exact absurd (q3 (by omega)) (by omega)
        refine o_n E (o_n E (o_n E (o_n E (o_n E (o_n E (o_n E (o_n E (o_n E (o_n E (o_n E (o_n E (o_y E (Aq (T E) Aj) (Bx E (Af (Ae (Bh [(3, _), (4, _), (6, _), (7, _), (8, _), (11, _), (19, _), (20, _), (21, _), (77, _)] ⟨Aa E, Aa E, Aa E, Aa E, Aa E, Aa E, Aa E, Aa E, Aa E, Aa E, trivial⟩ ?_)))) E Ah) E (Bj E E (Aa E))) E (Ci E E (Aa E))) E (Ci E E (Aa E))) E (Ci E E (Aa E))) E (Ci E E (Aa E))) E (Ci E E (Aa E))) E (Ci E E (Aa E))) E (Bj E E (Aa E))) E (Bj E E (Aa E))) E (Bj E E (Aa E))) E (Bj E E (Aa E))) E (Bj E E (Aa E))
        first | refine A8 (Aa E) ?_ | refine A8 (Ak (Aa E) (vbool (decide_eq_true c77))) ?_
        refine Ag (Ab (y_ (Ad Aj) (Af (Ae (Ay (An (Al (Bo (An (Al (Az E (.tmp (Aa E) .nil) ?_))))))))) E))
        exact ⟨_, ⟨vbool (by rw [C1 (by omega) hbad]), rfl⟩, sbt⟩
       ·refine o_y E (Bc (T E) Dm) (o_y E (Ai (T E) isAgg3 (by first | exact c_o)) ?_ E (Ao E E (Aa E))) E (Ao E E (Aa E))
        refine o_y E (Ac (T E)) (o_y E (B2 (T E) (T E)) (o_y E (Ac (T E)) ?_ E (Ao E E (Aa E))) E (Ao E E (Aa E))) E (Ao E E (Aa E))
        first | refine Cy (s := 69) (Aa E) (fun c69 => ?_) (fun c69 => ?_) | refine Dx (s := 69) (Aa E) (fun c69 => ?_) (fun c69 => ?_)
        ·refine o_y E (Bi (T E) Dr) (o_y E (Ai (T E) isAgg27 (by first | exact c_o)) ?_ E (Ao E E (Aa E))) E (Ao E E (Aa E))
         refine o_y E (Bi (T E) Du) (o_y E (Ai (T E) isAgg3 (by first | exact c_o)) ?_ E (Ao E E (Aa E))) E (Ao E E (Aa E))
         refine o_y E (Ck (T E) (T E) runUnderlying27 sizeOf4 (by omega) (by first | exact rfl | exact hA.b (i := k) (by omega) | exact he.m.a3.b (i := (gd l k).2.toNat) (by omega) | exact hA.b (i := ((k : Int) - 1).toNat) (by omega))) ?_ E (Ao E E (Aa E))
         refine o_y E (Ai (T E) isAgg4 (by first | exact c_o | exact cell1 ((he.m.a3.mono sbt).cs (i := (gd l k).2.toNat) (by omega)))) ?_ E (Ao E E (Aa E))
         refine o_y E (Aq (T E) (T E)) (o_y E (Au (T E) (T E)) (Bx E (Af (Ae (Bh [(3, _), (4, _), (6, _), (7, _), (8, _), (11, _), (19, _), (20, _), (21, _), (77, _)] ⟨Aa E, Aa E, Aa E, Aa E, Aa E, Aa E, Aa E, Aa E, Aa E, Aa E, trivial⟩ ?_)))) E Ah) E (Ao E E (Aa E))
         first | refine Ar (Aa E) (fun c77 => ?_) (fun c77 => ?_) | refine A6 (Aa E) (fun c77 => ?_) (fun c77 => ?_)
         ·have hbad : ¬ PlIn n m.pl to l k := fun hq => by
           obtain ⟨q1, q2, q3, q4⟩ := hq
           exact q4 ⟨by omega, c77⟩
          refine Ag (Ab (y_ (Ad Aj) (Af (Ae (Ay (An (Al (Bo (An (Al (Az E (.tmp (Aa E) .nil) ?_))))))))) E))
          exact ⟨_, ⟨vbool (by rw [C1 (by omega) hbad]), rfl⟩, sbt⟩
         ·have hgood : PlIn n m.pl to l k := ⟨by omega, by omega, fun hk0 => by first | (exfalso; omega) | (rw [hk1] at c64; omega), fun hq => Bool.false_ne_true (c77.symm.trans hq.2)⟩
          refine A2 (Bl (Ae (Ab (y_ (Bt (T E) Aj (by omega)) ?_ E))))
          refine y_ (Ac (T E)) (Af ?_) E
          refine Bn (k + 1) ?_ ?_ ⟨(by first | exact Aa E | (refine Ak (Aa E) (vint ?_); omega) | (refine Ak (Aa E) ?_; simp; done)), trivial⟩ ⟨Aa E, Aa E, Aa E, Aa E, Aa E, Aa E, Aa E, Aa E, trivial⟩ ?_
          ·refine ⟨by omega, fun j hj => ?_⟩
           by_cases e : j = k
           ·subst e; exact hgood
           ·exact hall j (by omega)
          ·first | omega | (simp only []; omega)
          ·exact sbt
        ·have hgood : PlIn n m.pl to l k := ⟨by omega, by omega, fun hk0 => by first | (exfalso; omega) | (rw [hk1] at c64; omega), fun hq => c69 hq.1⟩
         refine o_n E (o_n E (o_n E (o_n E (o_n E (o_n E (o_y E (Au (T E) Aj) (o_y E (Au (T E) (T E)) (Bx E (Af (Ae (Bh [(3, _), (4, _), (6, _), (7, _), (8, _), (11, _), (19, _), (20, _), (21, _), (77, _)] ⟨Aa E, Aa E, Aa E, Aa E, Aa E, Aa E, Aa E, Aa E, Aa E, Aa E, trivial⟩ ?_)))) E Ah) E (Ao E E (Aa E))) E (B8 E E (Aa E))) E (B8 E E (Aa E))) E (B8 E E (Aa E))) E (B8 E E (Aa E))) E (B8 E E (Aa E))) E (B8 E E (Aa E))
         first | refine Br (Aa E) ?_ | refine Br (Ak (Aa E) (vbool (decide_eq_false c77))) ?_
         refine A2 (Bl (Ae (Ab (y_ (Bt (T E) Aj (by omega)) ?_ E))))
         refine y_ (Ac (T E)) (Af ?_) E
         refine Bn (k + 1) ?_ ?_ ⟨(by first | exact Aa E | (refine Ak (Aa E) (vint ?_); omega) | (refine Ak (Aa E) ?_; simp; done)), trivial⟩ ⟨Aa E, Aa E, Aa E, Aa E, Aa E, Aa E, Aa E, Aa E, trivial⟩ ?_
         ·refine ⟨by omega, fun j hj => ?_⟩
          by_cases e : j = k
          ·subst e; exact hgood
          ·exact hall j (by omega)
         ·first | omega | (simp only []; omega)
         ·exact sbt
      ·refine o_n E (o_n E (o_n E (o_n E (o_n E (o_n E (o_n E (o_n E (o_y E (Au (T E) Aj) (o_y E (Au (T E) (T E)) (o_y E (Ac (T E)) (o_y E (Bc (T E) Dm) (o_y E (Ai (T E) isAgg3 (by first | exact c_o)) ?_ E (Ao E E (Aa E))) E (Ao E E (Aa E))) E Ah) E Ah) E (Ao E E (Aa E))) E (B8 E E (Aa E))) E (B8 E E (Aa E))) E (B8 E E (Aa E))) E (B8 E E (Aa E))) E (B8 E E (Aa E))) E (B8 E E (Aa E))) E (B8 E E (Aa E))) E (B8 E E (Aa E))
       refine o_y E (Ac (T E)) (o_y E (B2 (T E) (T E)) (o_y E (Ac (T E)) ?_ E (Ao E E (Aa E))) E (Ao E E (Aa E))) E (Ao E E (Aa E))
       first | refine Cy (s := 69) (Aa E) (fun c69 => ?_) (fun c69 => ?_) | refine Dx (s := 69) (Aa E) (fun c69 => ?_) (fun c69 => ?_)
       ·refine o_y E (Bi (T E) Dr) (o_y E (Ai (T E) isAgg27 (by first | exact c_o)) ?_ E (Ao E E (Aa E))) E (Ao E E (Aa E))
        refine o_y E (Bi (T E) Du) (o_y E (Ai (T E) isAgg3 (by first | exact c_o)) ?_ E (Ao E E (Aa E))) E (Ao E E (Aa E))
        refine o_y E (Ck (T E) (T E) runUnderlying27 sizeOf4 (by omega) (by first | exact rfl | exact hA.b (i := k) (by omega) | exact he.m.a3.b (i := (gd l k).2.toNat) (by omega) | exact hA.b (i := ((k : Int) - 1).toNat) (by omega))) ?_ E (Ao E E (Aa E))
        refine o_y E (Ai (T E) isAgg4 (by first | exact c_o | exact cell1 ((he.m.a3.mono sbt).cs (i := (gd l k).2.toNat) (by omega)))) ?_ E (Ao E E (Aa E))
        refine o_y E (Aq (T E) (T E)) (o_y E (Au (T E) (T E)) (Bx E (Af (Ae (Bh [(3, _), (4, _), (6, _), (7, _), (8, _), (11, _), (19, _), (20, _), (21, _), (77, _)] ⟨Aa E, Aa E, Aa E, Aa E, Aa E, Aa E, Aa E, Aa E, Aa E, Aa E, trivial⟩ ?_)))) E Ah) E (Ao E E (Aa E))
        first | refine Ar (Aa E) (fun c77 => ?_) (fun c77 => ?_) | refine A6 (Aa E) (fun c77 => ?_) (fun c77 => ?_)
        ·have hbad : ¬ PlIn n m.pl to l k := fun hq => by
          obtain ⟨q1, q2, q3, q4⟩ := hq
          exact q4 ⟨by omega, c77⟩
         refine Ag (Ab (y_ (Ad Aj) (Af (Ae (Ay (An (Al (Bo (An (Al (Az E (.tmp (Aa E) .nil) ?_))))))))) E))
         exact ⟨_, ⟨vbool (by rw [C1 (by omega) hbad]), rfl⟩, sbt⟩
        ·have hgood : PlIn n m.pl to l k := ⟨by omega, by omega, fun hk0 => by first | (exfalso; omega) | (rw [hk1] at c64; omega), fun hq => Bool.false_ne_true (c77.symm.trans hq.2)⟩
         refine A2 (Bl (Ae (Ab (y_ (Bt (T E) Aj (by omega)) ?_ E))))
         refine y_ (Ac (T E)) (Af ?_) E
         refine Bn (k + 1) ?_ ?_ ⟨(by first | exact Aa E | (refine Ak (Aa E) (vint ?_); omega) | (refine Ak (Aa E) ?_; simp; done)), trivial⟩ ⟨Aa E, Aa E, Aa E, Aa E, Aa E, Aa E, Aa E, Aa E, trivial⟩ ?_
         ·refine ⟨by omega, fun j hj => ?_⟩
          by_cases e : j = k
          ·subst e; exact hgood
          ·exact hall j (by omega)
         ·first | omega | (simp only []; omega)
         ·exact sbt
       ·have hgood : PlIn n m.pl to l k := ⟨by omega, by omega, fun hk0 => by first | (exfalso; omega) | (rw [hk1] at c64; omega), fun hq => c69 hq.1⟩
        refine o_n E (o_n E (o_n E (o_n E (o_n E (o_n E (o_y E (Au (T E) Aj) (o_y E (Au (T E) (T E)) (Bx E (Af (Ae (Bh [(3, _), (4, _), (6, _), (7, _), (8, _), (11, _), (19, _), (20, _), (21, _), (77, _)] ⟨Aa E, Aa E, Aa E, Aa E, Aa E, Aa E, Aa E, Aa E, Aa E, Aa E, trivial⟩ ?_)))) E Ah) E (Ao E E (Aa E))) E (B8 E E (Aa E))) E (B8 E E (Aa E))) E (B8 E E (Aa E))) E (B8 E E (Aa E))) E (B8 E E (Aa E))) E (B8 E E (Aa E))
        first | refine Br (Aa E) ?_ | refine Br (Ak (Aa E) (vbool (decide_eq_false c77))) ?_
        refine A2 (Bl (Ae (Ab (y_ (Bt (T E) Aj (by omega)) ?_ E))))
        refine y_ (Ac (T E)) (Af ?_) E
        refine Bn (k + 1) ?_ ?_ ⟨(by first | exact Aa E | (refine Ak (Aa E) (vint ?_); omega) | (refine Ak (Aa E) ?_; simp; done)), trivial⟩ ⟨Aa E, Aa E, Aa E, Aa E, Aa E, Aa E, Aa E, Aa E, trivial⟩ ?_
        ·refine ⟨by omega, fun j hj => ?_⟩
         by_cases e : j = k
         ·subst e; exact hgood
         ·exact hall j (by omega)
        ·first | omega | (simp only []; omega)
        ·exact sbt
 ·have hall2 : ∀ j, j < l.length → PlIn n m.pl to l j := fun j hj => hall j (by omega)
  have hsr : SrtP l := srtP_of fun j h0 hj => (hall2 j hj).2.2.1 h0
  refine B4 (A0 (A4 (A3 (Ae (Ag (Ab (e_ (A5 zeroValue4 cs_) ?_ E)))))))
  rintro _ _ ⟨n15, rfl, rfl⟩
  first | refine Bk (A7 (T E) Aj sizeOf4) E Ah ?_ | refine Bk (Cg (T E) Aj E sizeOf4) E Ah ?_ | refine Bk (B7 (T E) Aj E sizeOf4) E Ah ?_
  rintro _ _ ⟨rfl, rfl⟩
  refine Af (Ae (Ag (Ab (y_ (Cj (.cons (T E) (.cons (T E) .nil))) (y_ (Ad (T E)) (Af (Ae ?_)) E) E))))
  refine j_cutC (X := Unit) (V := fun _ => []) (C := [(6, _), (7, _), (8, _), (11, _), (15, _), (16, _)]) (G := fun _ => (n15, Cl [.bool (decide (f.node = (x : Int)) || decide (toI (p0F n m.pl x) ∈ l))] 4) :: (n11, Cl [.slice q l.length c] 59) :: (n8, Cl (encMc m) 29) :: (n7, Cl (encFl f) 58) :: (n6, Cl (encNn n) 56) :: H) (φ := fun _ => True) ⟨Aa E, Aa E, Aa E, Aa E, Aa E, Aa E, trivial⟩ ?_ ?_
  ·refine Ag (Ab (y_ (Bi (T E) fa58_1) (y_ (Ai (T E) isAgg3 (by first | exact c_o)) ?_ E) E))
   refine y_ (Ac (T E)) (y_ (Cu (T E) (T E)) (Af (Ae ?_)) E) E
   first | refine Ar (Aa E) (fun c83 => ?_) (fun c83 => ?_) | refine A6 (Aa E) (fun c83 => ?_) (fun c83 => ?_)
   ·have hb0 : (decide (f.node = (x : Int)) || decide (toI (p0F n m.pl x) ∈ l)) = (true && decide (toI (p0F n m.pl x) ∈ l)) := by rw [decide_eq_false c83]; rfl
    refine Ab (y_ (Ac (T E)) (y_ (Am (T E) isAgg56 sizeOf56 E (by first | exact Bb)) ?_ E) E)
    refine y_ (Am (T E) isAgg29 sizeOf29 E (by first | exact Bb)) ?_ E
    refine y_ (Ac (T E)) (y_ (Av (.cons (T E) (.cons (T E) (.cons (T E) .nil))) call79 (fun H' hs => begin_s n m (he.n.mono (List.Sublist.trans sbt hs)) (he.m.mono (List.Sublist.trans sbt hs)) ho.om ho.sr ho.ln x hx)) ?_ E) E
    refine e_ (C9 (T E) (.cons (T E) (.cons Aj .nil)) call92 (B5 [(n15, Cl [.bool true] 4)] loc1 (must_at l q c (hA.mono sbt) hlen hsr (toI (p0F n m.pl x)) 0 true n11 n15 (by repeat (first | exact By | refine As ?_ | refine Bd ?_))))) ?_ E
    rintro _ _ ⟨_, _, rfl⟩
    refine Af (Bw (()) ?_ trivial ⟨Aa E, Aa E, Aa E, Aa E, Aa E, Aa E, trivial⟩ (by simp only [hb0]; exact sbt))
    trivial
   ·have hb0 : (decide (f.node = (x : Int)) || decide (toI (p0F n m.pl x) ∈ l)) = true := by rw [decide_eq_true (Classical.not_not.1 c83)]; rfl
    refine A2 (Bw (()) ?_ trivial ⟨Aa E, Aa E, Aa E, Aa E, Aa E, Aa E, trivial⟩ (by simp only [hb0]; exact sbt))
    trivial
  rintro _ _
  refine Ag (Ag (Ab (y_ (Ai (T E) isAgg59 (by first | exact c_o)) ?_ E)))
  refine y_ (Bp (T E) runUnderlying59) (y_ (Ac Aj) (Af (Ae (Aw ?_))) E) E
  refine Cm (X := Nat) (V := fun k => [(92, .int .i64 (k : Nat))]) (C := [(6, _), (7, _), (8, _), (15, _), (16, _), (90, _), (91, _)]) (G := fun k => (n15, Cl [.bool ((decide (f.node = (x : Int)) || decide (toI (p0F n m.pl x) ∈ l)) && okK n f m.pl l k)] 4) :: (n11, Cl [.slice q l.length c] 59) :: (n8, Cl (encMc m) 29) :: (n7, Cl (encFl f) 58) :: (n6, Cl (encNn n) 56) :: H) (φ := fun k => k ≤ l.length) (μ := fun k => l.length - k) (x0 := 0) ?_ ⟨Aa E, Aa E, Aa E, Aa E, Aa E, Aa E, Aa E, trivial⟩ ⟨(by first | exact Aa E | (refine Ak (Aa E) (vint ?_); omega) | (refine Ak (Aa E) ?_; simp; done)), trivial⟩ (by rw [show okK n f m.pl l 0 = true from rfl, Bool.and_true]; exact sbt) ?_
  ·exact Nat.zero_le _
  rintro k hk2
  refine Ag (Ab (y_ (Bu (T E) (T E)) (Af (Ae (Ag ?_))) E))
  first | refine Ar (Aa E) (fun c93 => ?_) (fun c93 => ?_) | refine A6 (Aa E) (fun c93 => ?_) (fun c93 => ?_)
  ·have hin := hall2 k (by omega)
   have hpk : gd l k = toI (toN (gd l k)) := by
    obtain ⟨⟨a1, _⟩, ⟨a2, _⟩, _, _⟩ := hin
    show gd l k = (((gd l k).1.toNat : Int), ((gd l k).2.toNat : Int))
    rw [Int.toNat_of_nonneg a1, Int.toNat_of_nonneg a2]
   have hpd : PlOk n m.pl (toN (gd l k)) := by
    obtain ⟨⟨a1, a3⟩, ⟨a2, a4⟩, _, _⟩ := hin
    refine ⟨?_, ?_⟩
    ·show (gd l k).1.toNat < _; omega
    ·show (gd l k).2.toNat < _; omega
   have hoks := okK_succ (n := n) (f := f) (m := m.pl) (l := l) (k := k) (by omega)
   refine A2 (Ae (Ag (Aw (Ag (Ab (y_ (Be (T E) (T E) runUnderlying59 sizeOf74 (by omega) (by first | exact rfl | exact hA.b (i := k) (by omega) | exact he.m.a3.b (i := (gd l k).2.toNat) (by omega) | exact hA.b (i := ((k : Int) - 1).toNat) (by omega))) ?_ E))))))
   refine y_ (Am (T E) isAgg74 sizeOf74 E (by first | exact cells_pl hpk ((hA.mono sbt).cs (i := k) (by omega)) | exact Bb)) ?_ E
   refine e_ (A5 zeroValue74 cs_) ?_ E
   rintro _ _ ⟨n18, rfl, rfl⟩
   first | refine Bk (A7 (T E) (T E) sizeOf74) E Ah ?_
   rintro _ _ ⟨rfl, rfl⟩
   refine Af (Ae (Ch 6 [(0, true), (1, true), (2, true), (4, true), (5, true), (3, false)] _ mixd (by kernel_rfl) sb0 ?_))
   refine o_y E (Am (T E) isAgg56 sizeOf56 E (by first | exact Bb)) ?_ E Ah
   refine o_y E (Am (T E) isAgg58 sizeOf58 E (by first | exact Bb)) ?_ E Ah
   refine o_y E (Am (T E) isAgg29 sizeOf29 E (by first | exact Bb)) ?_ E Ah
   refine o_y E (Am (T E) isAgg74 sizeOf74 E (by first | exact Bb)) ?_ E Ah
   refine o_y E (Ac (T E)) (o_e E (A1 (.cons (T E) (.cons (T E) (.cons (T E) .nil))) call80 (moves_s n f m)) ?_ E Ah) E Ah
   rintro _ _ ⟨b3, b4, b5, rfl, rfl⟩
   refine ⟨sbt, (Bx E ?_)⟩
   refine e_ (C9 (T rfl) (.cons (T rfl) (.cons (T rfl) .nil)) call127 (B5 [(n15, Cl [.bool ((decide (f.node = (x : Int)) || decide (toI (p0F n m.pl x) ∈ l)) && okK n f m.pl l k)] 4)] loc5 (moves1_s n f m (he.mono sbt) ho b3 b4 b5 (by repeat (first | exact By | refine As ?_ | refine Bd ?_)) (by repeat (first | exact By | refine As ?_ | refine Bd ?_)) (by repeat (first | exact By | refine As ?_ | refine Bd ?_)) (toN (gd l k)) hpd 92 [.pointer (some ⟨n11, 0, none⟩), .pointer (some ⟨n15, 0, none⟩)] (fun j M => M = [(n15, Cl [.bool (((decide (f.node = (x : Int)) || decide (toI (p0F n m.pl x) ∈ l)) && okK n f m.pl l k) && allIn l ((movesF n f m.pl (toN (gd l k))).take j))] 4)]) _ _ (List.Sublist.refl _) call92 (by simp [allIn]) (mustV l q c (hA.mono sbt) hlen hsr _ _ n11 n15 (by repeat (first | exact By | refine As ?_ | refine Bd ?_)))))) ?_ rfl
   rintro _ _ ⟨_, rfl, rfl⟩
   rw [List.take_length]
   refine Af (Bl (Ae (Ab (y_ (Bt (T E) Aj (by omega)) ?_ E))))
   refine y_ (Ac (T E)) (Af ?_) E
   refine Bn (k + 1) ?_ ?_ ⟨(by first | exact Aa E | (refine Ak (Aa E) (vint ?_); omega) | (refine Ak (Aa E) ?_; simp; done)), trivial⟩ ⟨Aa E, Aa E, Aa E, Aa E, Aa E, Aa E, Aa E, trivial⟩ ?_
   ·show k + 1 ≤ _; omega
   ·first | omega | (simp only []; omega)
   ·simp only [hoks, ← Bool.and_assoc]; exact sbt
  ·refine B4 (A0 (A4 (A3 (Ae (Ag (Ab (y_ (Ai (T E) isAgg4 (by first | exact c_o)) ?_ E)))))))
   refine y_ (Ad (T E)) (Af (Ae (Ay (Az E (.tmp (Aa E) .nil) ?_)))) E
   have hk3 : k = l.length := by omega
   exact ⟨_, ⟨vbool (by rw [refOk_eq hall2, hk3]), rfl⟩, sbt⟩
end Go.Proofs.YtkdolgnpkjihpaaGreatDoor
namespace Go.Proofs.YtkdolgnpkjihpaaGreatDoor
open _root_.Go.Proofs.Tryz
set_option linter.unusedVariables false
set_option linter.unusedSimpArgs false
theorem leU_or {a b : List UInt8} (h : a ≤ b) : a < b ∨ a = b := by
 by_cases e : a = b
 ·exact .inr e
 ·exact .inl (Std.lt_of_le_of_ne h e)
theorem ltU_of_le_lt {a b c : List UInt8} (h1 : a ≤ b) (h2 : b < c) : a < c := by
 rcases leU_or h1 with h | rfl
 ·exact ltU_trans h h2
 ·exact h2
theorem compact_incrU (l : List (List UInt8)) (h : l.Pairwise (· ≤ ·)) : (Lib.compact l).Pairwise (· < ·) ∧ ∀ x, x ∈ Lib.compact l ↔ x ∈ l := by
 have mono : ∀ (i j : Nat) (hij : i < j) (hj : j < l.length), l[i]'(by omega) ≤ l[j] := fun i j hij hj => List.pairwise_iff_getElem.1 h i j (by omega) hj hij
 unfold Lib.compact Lib.compactUpTo
 refine ⟨?_, fun x => ?_⟩
 ·rw [List.pairwise_map]
  have hr : (List.range l.length).Pairwise (· < ·) := List.pairwise_lt_range
  refine (hr.filter _).imp_of_mem ?_
  intro a b ha hb hab
  simp only [List.mem_filter, List.mem_range] at ha hb
  have hk := hb.2
  unfold Lib.keeps at hk
  simp only [decide_eq_true_eq] at hk
  have hb1 := hb.1
  have e1 : l.toArray[a]! = l[a]'(by omega) := by simp [show a < l.length by omega]
  have e2 : l.toArray[b]! = l[b] := by simp [hb1]
  have e3 : l.toArray[b - 1]! = l[b - 1]'(by omega) := by simp [show b - 1 < l.length by omega]
  rw [e1, e2]
  rcases hk with hk | hk
  ·omega
  ·rw [e2, e3] at hk
   have h1 := mono (b - 1) b (by omega) hb1
   have h3 : l[b - 1]'(by omega) < l[b] := by
    rcases leU_or h1 with h | h
    ·exact h
    ·exact absurd h.symm hk
   by_cases hab' : a = b - 1
   ·subst hab'; exact h3
   ·exact ltU_of_le_lt (mono a (b - 1) (by omega) (by omega)) h3
 ·simp only [List.mem_map, List.mem_filter, List.mem_range]
  constructor
  ·rintro ⟨i, ⟨hi, _⟩, rfl⟩
   rw [show l.toArray[i]! = l[i] by simp [hi]]
   exact List.getElem_mem _
  ·intro hx
   obtain ⟨i, hi, hxi⟩ := List.getElem_of_mem hx
   have key : ∀ (i : Nat) (hi : i < l.length), l[i] = x → ∃ a, (a < l.length ∧ Lib.keeps l.toArray a = true) ∧ l.toArray[a]! = x := by
    intro i
    induction i with
    | zero => intro hi hxi; exact ⟨0, ⟨hi, by simp [Lib.keeps]⟩, by simp [hi, hxi]⟩
    | succ i ih =>
     intro hi hxi
     by_cases hs : l[i]'(by omega) = x
     ·exact ih (by omega) hs
     ·refine ⟨i + 1, ⟨hi, ?_⟩, by simp [hi, hxi]⟩
      unfold Lib.keeps
      simp [hi, show i < l.length by omega]
      intro h; exact hs (by rw [← h, hxi])
   exact key i hi hxi
theorem leU_trans {a b c : List UInt8} (h1 : a ≤ b) (h2 : b ≤ c) : a ≤ c := List.le_trans h1 h2
theorem leU_total (a b : List UInt8) : a ≤ b ∨ b ≤ a := List.le_total a b
theorem D5 (l : List ByteArray) : Srt (cptB (srtB l)) ∧ ∀ x, x ∈ cptB (srtB l) ↔ x ∈ l := by
 have hp : (srtU (l.map toL)).Pairwise (· ≤ ·) := by
  have := List.pairwise_mergeSort (le := fun x y : List UInt8 => decide (x ≤ y)) (by intro a b c; simp only [decide_eq_true_eq]; exact leU_trans) (by intro a b; simp only [Bool.or_eq_true, decide_eq_true_eq]; exact leU_total a b) (l.map toL)
  exact this.imp fun h => by simpa using h
 obtain ⟨h1, h2⟩ := compact_incrU _ hp
 have e : cptB (srtB l) = (Lib.compact (srtU (l.map toL))).map ofL := by
  unfold cptB srtB; rw [map_to_of]
 rw [e]
 refine ⟨?_, fun x => ?_⟩
 ·unfold Srt; rw [List.pairwise_map]; exact h1
 ·rw [List.mem_map]
  constructor
  ·rintro ⟨u, hu, rfl⟩
   rw [h2, List.mem_mergeSort, List.mem_map] at hu
   obtain ⟨y, hy, rfl⟩ := hu
   exact hy
  ·intro hx
   exact ⟨toL x, (h2 _).2 (List.mem_mergeSort.2 (List.mem_map_of_mem hx)), rfl⟩
def Re.nms : Re → List ByteArray
 | .emp => []
 | .nod s => [s]
 | .any => []
 | .seq a b => a.nms ++ b.nms
 | .alt a b => a.nms ++ b.nms
 | .star a => a.nms
theorem letF_srt : ∀ e : Re, Srt (letF e)
 | .emp => (D5 _).1
 | .nod _ => (D5 _).1
 | .any => (D5 _).1
 | .seq _ _ => (D5 _).1
 | .alt _ _ => (D5 _).1
 | .star _ => (D5 _).1
theorem letF_mem (x : ByteArray) : ∀ e : Re, x ∈ letF e ↔ x ∈ e.nms
 | .emp => (D5 _).2 x
 | .nod _ => (D5 _).2 x
 | .any => (D5 _).2 x
 | .seq a b => by rw [show letF (.seq a b) = cptB (srtB (letF a ++ letF b)) from rfl, (D5 _).2 x, List.mem_append, letF_mem x a, letF_mem x b]; simp [Re.nms]
 | .alt a b => by rw [show letF (.alt a b) = cptB (srtB (letF a ++ letF b)) from rfl, (D5 _).2 x, List.mem_append, letF_mem x a, letF_mem x b]; simp [Re.nms]
 | .star a => by rw [show letF (.star a) = cptB (srtB (letF a)) from rfl, (D5 _).2 x, letF_mem x a]; rfl
structure NumInv (m : PM) (b order : List Nat) (k : Nat) (rows : List (List Nat)) (acc : List Bool) : Prop where
 ord : OrdOk m b order
 kl : k ≤ order.length
 rl : rows.length = k
 al : acc.length = k
 row : ∀ r ∈ rows, r.length = m.names.length + 1 ∧ ∀ s ∈ r, s < order.length
theorem numK_lt (b tos order : List Nat) : ∀ i, (∀ s ∈ (numK b tos order i).2, s < (numK b tos order i).1.length) ∧ order.length ≤ (numK b tos order i).1.length
 | 0 => ⟨(fun s hs => by cases hs), Nat.le_refl _⟩
 | i + 1 => by
  obtain ⟨h1, h2⟩ := numK_lt b tos order i
  have hm := idx_lt (numK_mem b tos order i)
  rw [numK_idx, List.length_map] at hm
  have hle : (numK b tos order i).1.length ≤ (numK b tos order (i + 1)).1.length := by
   rw [numK_succ]; simp only []; split <;> simp
  refine ⟨fun s hs => ?_, by omega⟩
  rw [show (numK b tos order (i + 1)).2 = (numK b tos order i).2 ++ [idx ((numK b tos order i).1.map (gd b)) (gd b (gd tos i))] from rfl] at hs
  simp only [List.mem_append, List.mem_cons, List.not_mem_nil, or_false] at hs
  rcases hs with hs | rfl
  ·have := h1 s hs; omega
  ·exact hm
theorem numGo_ok {m : PM} (hp : PMok m) {b : List Nat} : ∀ (f k : Nat) (order : List Nat) (rows : List (List Nat)) (acc : List Bool), NumInv m b order k rows acc → 0 < order.length → 200 < f + k →
  0 < (numGo m b f k order rows acc).1.length ∧ (numGo m b f k order rows acc).1.length ≤ m.next.length ∧ (numGo m b f k order rows acc).2.length = (numGo m b f k order rows acc).1.length ∧ ∀ r ∈ (numGo m b f k order rows acc).1, r.length = m.names.length + 1 ∧ ∀ s ∈ r, s < (numGo m b f k order rows acc).1.length
 | 0, k, order, rows, acc, h, _, hf => by
  have h1 := h.ord.few
  have h2 := hp.few
  have := h.kl; omega
 | f + 1, k, order, rows, acc, h, h0, hf => by
  rw [numGo_succ]
  split
  ·rename_i hk
   have hok := h.ord.lt (gd order k) (Bg hk)
   obtain ⟨hr1, hr2⟩ := hp.row (gd m.next (gd order k)) (Bg hok)
   obtain ⟨g1, g2, g3⟩ := h.ord.step hr2 (gd m.next (gd order k)).length (Nat.le_refl _)
   obtain ⟨e1, e2⟩ := numK_lt b (gd m.next (gd order k)) order (gd m.next (gd order k)).length
   refine numGo_ok hp f (k + 1) _ _ _ ⟨g1, by omega, by simp [h.rl], by simp [h.al], fun r hr => ?_⟩ (by omega) (by omega)
   simp only [List.mem_append, List.mem_cons, List.not_mem_nil, or_false] at hr
   rcases hr with hr | rfl
   ·exact ⟨(h.row r hr).1, fun s hs => Nat.lt_of_lt_of_le ((h.row r hr).2 s hs) e2⟩
   ·exact ⟨by rw [g2, hr1], e1⟩
  ·rename_i hk
   have hkk : k = order.length := by have := h.kl; omega
   have h1 := h.ord.few
   have h2 := h.rl
   have h3 := h.al
   refine ⟨by simp only []; omega, by simp only []; omega, by simp only []; omega, fun r hr => ?_⟩
   simp only [] at hr ⊢
   exact ⟨(h.row r hr).1, fun s hs => by have := (h.row r hr).2 s hs; omega⟩
theorem numF_ok {m : PM} (hp : PMok m) (b : List Nat) : PMok (numF m b) := by
 have h0 : NumInv m b [0] 0 [] [] := ⟨⟨by simp, fun s hs => by
  simp only [List.mem_cons, List.not_mem_nil, or_false] at hs
  subst hs; exact hp.some'⟩, Nat.zero_le _, rfl, rfl, fun r hr => by cases hr⟩
 obtain ⟨h1, h2, h3, h4⟩ := numGo_ok hp 201 0 [0] [] [] h0 (by decide) (by omega)
 exact ⟨h1, Nat.le_trans h2 hp.few, h3, h4⟩
theorem leastF_ok {m : PM} (hp : PMok m) : PMok (leastF m) := numF_ok hp _
theorem rawGo_ok {t : Tr} {e : En} {names : List ByteArray} (ht : TrOk t) (hw : Low t) (he : e.first < 2 ^ t.names.length) : ∀ (f k : Nat) (l : List St) (rows : List (List Nat)) (acc : List Bool) (r : List (List Nat) × List Bool), RawInv t e names k l rows acc → rawGo t e names f k l rows acc = some r → PMok ⟨names, r.1, r.2⟩
 | 0, _, _, _, _, _, _, h => by cases h
 | f + 1, k, l, rows, acc, r, hi, h => by
  rw [rawGo_succ] at h
  split at h
  ·rename_i hk
   split at h
   ·cases h
   ·rename_i hf
    exact rawGo_ok ht hw he f (k + 1) _ _ _ r (hi.next ht hw he hk hf) h
  ·rename_i hk
   cases h
   exact hi.done hk
theorem rawF_ok {e : Re} (hl : e.lv ≤ 64) {r : List (List Nat) × List Bool} (h : rawF e = some r) : PMok ⟨letF e, r.1, r.2⟩ := by
 obtain ⟨hx1, hx2, hx3, hx4⟩ := C5 e t00_ok (by show 0 + e.lv ≤ 64; omega)
 have hxw := add_low e t00_ok (by show 0 + e.lv ≤ 64; omega) t00_low
 rw [← hx2] at hx3
 exact rawGo_ok hx1 hxw hx3 201 0 _ _ _ r (raw_start _ _ _) h
theorem Db {e : Re} (hl : e.lv ≤ 64) (h : (buildF leastF e).2 = 0) : PMok (buildF leastF e).1 ∧ Srt (buildF leastF e).1.names := by
 unfold buildF at *
 cases hr : rawF e with
 | none => rw [hr] at h; cases h
 | some r =>
  simp only []
  have := leastF_ok (rawF_ok hl hr)
  exact ⟨⟨this.some', this.few, this.acc, this.row⟩, letF_srt e⟩
theorem build_names {e : Re} (h : (buildF leastF e).2 = 0) : (buildF leastF e).1.names = letF e := by
 unfold buildF at *
 cases hr : rawF e with
 | none => rw [hr] at h; cases h
 | some r => rfl
end Go.Proofs.YtkdolgnpkjihpaaGreatDoor
namespace Go.Proofs.YtkdolgnpkjihpaaGreatDoor
open _root_.Go.Proofs.Tryz
open Go.RowKit
set_option linter.unusedVariables false
set_option linter.unusedSimpArgs false
theorem bd115_0_1 (a0 : Int) (a1 : Int) (w : World) : (Instr.build 115 #[(0, .int .i64 a0), (1, .int .i64 a1)]).run Tryz.prog w = .ok (.agg #[.int .i64 a0, .int .i64 a1]) w := by kernel_rfl
theorem yl_neB {w0 : World} {L : Fm} {H : List (Nat × Obj)} {ty yt : TypeId} {x y : Operand} {a b : Bool} (hx : Ev L x (.bool a)) (hy : Ev L y (.bool b)) : Yl Tryz.prog w0 (.binOp .neq 4 x y yt) ty L H (.bool (a != b)) := Cd E fun b' w => by
 have e : (Op.equal 4 (.bool a) (.bool b)).run Tryz.prog w = .ok (a == b) w := run_equalIn_bool w 9999 4 a b (by kernel_rfl)
 simp [exO, execOp, hx b', hy b', binOp, eqGuard, Sem.run_bind, Result.andThen, e, bne]
def stepsF (a b : PM) (all : List ByteArray) (p : Pl) : List (Pl × ByteArray) := all.map fun s => ((afterF a p.1 s, afterF b p.2 s), s)
def DuOk (a b : PM) (p : Pl) : Prop := p.1 < a.next.length ∧ p.2 < b.next.length
theorem steps_ok {a b : PM} (ha : PMok a) (hb : PMok b) (all : List ByteArray) (p : Pl) (h : DuOk a b p) : ∀ x ∈ stepsF a b all p, DuOk a b x.1 := by
 intro x hx
 unfold stepsF at hx
 obtain ⟨s, _, rfl⟩ := List.mem_map.1 hx
 exact ⟨after_lt ha h.1 s, after_lt hb h.2 s⟩
def difF (a b : PM) (p : Pl) : Bool := gd a.acc p.1 != gd b.acc p.2
theorem steps_get {a b : PM} {all : List ByteArray} {p : Pl} {i : Nat} (h : i < all.length) : (stepsF a b all p)[i]? = some ((afterF a p.1 (gd all i), afterF b p.2 (gd all i)), gd all i) := by
 unfold stepsF; rw [List.getElem?_map, Dd h]; rfl
theorem cells2_0 {w0 : World} {H : List (Nat × Obj)} {n : Nat} {a b : Int} {t : TypeId} (hf : Fnd H n (Cl [.int .i64 a, .int .i64 b] t)) : Cell w0 H ⟨n, 0 + (0 : Int).toNat * 1, none⟩ (.int .i64 a) := C3 hf E
theorem cells2_1 {w0 : World} {H : List (Nat × Obj)} {n : Nat} {a b : Int} {t : TypeId} (hf : Fnd H n (Cl [.int .i64 a, .int .i64 b] t)) : Cell w0 H ⟨n, 0 + (1 : Int).toNat * 1, none⟩ (.int .i64 b) := C3 hf E
theorem eq1_s {w0 : World} {H0 : List (Nat × Obj)} (ma mb : Mc) (ha : McOk w0 H0 ma) (hb : McOk w0 H0 mb) (pa : PMok ma.pl) (pb : PMok mb.pl) (b7 b9 : Nat) (ca cb : List Value) (h7 : Fnd H0 b7 (Cl ca 29)) (h9 : Fnd H0 b9 (Cl cb 29)) (eca : ca = encMc ma) (ecb : cb = encMc mb) (sa : Srt ma.names) (sb : Srt mb.names) (la : ma.names.length ≤ 4611686018427387903) (lb : mb.names.length ≤ 4611686018427387903) (all : List ByteArray) (q : Option Addr) (c : Nat) (hA : Arr w0 H0 q 1 encS all) (hal : all.length ≤ 1000000) (b11 : Nat) (h11 : Fnd H0 b11 (Cl [.slice q all.length c] 25)) :
  NextS w0 H0 72 [.pointer (some ⟨b11, 0, none⟩), .pointer (some ⟨b7, 0, none⟩), .pointer (some ⟨b9, 0, none⟩)] (DuOk ma.pl mb.pl) (stepsF ma.pl mb.pl all) := by
 subst eca; subst ecb
 intro p hpd vf vcap S M0 H hH0 hvf hS0 hv
 show FSpec Tryz.prog w0 72 #[.agg (encPl p).toArray, .func (.func vf) #[] vcap.toArray, .pointer (some ⟨b11, 0, none⟩), .pointer (some ⟨b7, 0, none⟩), .pointer (some ⟨b9, 0, none⟩)] (M0 ++ H) _
 have hra : ma.pl.next.length = ma.rows.length := List.length_map ..
 have hrb : mb.pl.next.length = mb.rows.length := List.length_map ..
 have hp1 : p.1 < ma.rows.length := by have := hpd.1; omega
 have hp2 : p.2 < mb.rows.length := by have := hpd.2; omega
 refine A9 Tryz.func72 E ntmps72 E (Ag (Ab (e_ (Ba (T E) cs_) ?_ E)))
 rintro _ _ ⟨n5, rfl, rfl⟩
 refine Af (Ae (Ag (Ab (y_ (Ai (T E) isAgg25 (by first | exact c_o | exact c_o (hf := h11.mono (hH0.trans (by exact sbt))))) ?_ E))))
 refine y_ (Bp (T E) runUnderlying25) (y_ (Ac Aj) (Af (Ae (Aw ?_))) E) E
 refine Cm (X := Nat × List (Nat × Obj)) (V := fun ⟨i, M⟩ => [(11, .int .i64 (i : Nat))]) (C := [(1, _), (3, _), (4, _), (5, _), (9, _), (10, _)]) (G := fun ⟨i, M⟩ => (n5, Cl (encPl p) 115) :: (M ++ H)) (φ := fun ⟨i, M⟩ => i ≤ all.length ∧ S i M) (μ := fun ⟨i, M⟩ => all.length - i) (x0 := (0, M0)) ?_ ⟨Aa rfl, Aa rfl, Aa rfl, Aa rfl, Aa rfl, Aa rfl, trivial⟩ ⟨(by first | exact Aa rfl | (refine Ak (Aa rfl) (vint ?_); omega) | (refine Ak (Aa rfl) ?_; simp; done)), trivial⟩ sb0 ?_
 ·exact ⟨Nat.zero_le _, hS0⟩
 rintro ⟨i, M⟩ ⟨hi, hS⟩
 refine Ag (Ab (y_ (Bu (T E) (T E)) (Af (Ae (Ag ?_))) E))
 first | refine Ar (Aa E) (fun c12 => ?_) (fun c12 => ?_) | refine A6 (Aa E) (fun c12 => ?_) (fun c12 => ?_)
 ·refine A2 (Ae (Ag (Aw (Ag (Ab (y_ (Be (T E) (T E) runUnderlying25 sizeOf9 (by omega) (by first | exact rfl | exact hA.b (i := i) (by omega))) ?_ E))))))
  refine y_ (Ai (T E) isAgg9 (by first | exact c_o | exact cell1 ((hA.mono (hH0.trans (by exact sbt))).cs (i := i) (by omega)))) ?_ E
  refine y_ (Ad (T E)) (Af (Ae (Ch 13 [(0, true), (1, true), (2, true), (3, true), (4, true), (5, true), (6, true), (7, true), (8, true), (9, true), (10, true), (11, true), (12, true)] _ mixd (by kernel_rfl) sb0 ?_))) E
  refine o_y E (Ac (T E)) (o_y E (Am (T E) isAgg29 sizeOf29 E (by first | exact Dq (cells_own h7) (hH0.trans (by exact sbt)) | exact Bb)) ?_ E Ah) E Ah
  refine o_y E (D4 (T E) Aj runUnderlying115 sizeOf3 (by omega)) ?_ E Ah
  refine o_y E (Ai (T E) isAgg3 (by first | exact c_o | exact cells2_0 (by repeat (first | exact By | refine As ?_ | refine Bd ?_)))) ?_ E Ah
  refine o_y E (Ac (T E)) (o_y E (Av (.cons (T E) (.cons (T E) (.cons (T E) .nil))) call69 (fun H' hs => after_s ma (ha.mono ((hH0.trans (by exact sbt)).trans hs)) pa sa la p.1 hp1 (gd all i))) ?_ E Ah) E Ah
  refine o_y E (Am (T E) isAgg29 sizeOf29 E (by first | exact Dq (cells_own h9) (hH0.trans (by exact sbt)) | exact Bb)) ?_ E Ah
  refine o_y E (D4 (T E) Aj runUnderlying115 sizeOf3 (by omega)) ?_ E Ah
  refine o_y E (Ai (T E) isAgg3 (by first | exact c_o | exact cells2_1 (by repeat (first | exact By | refine As ?_ | refine Bd ?_)))) ?_ E Ah
  refine o_y E (Ac (T E)) (o_y E (Av (.cons (T E) (.cons (T E) (.cons (T E) .nil))) call69 (fun H' hs => after_s mb (hb.mono ((hH0.trans (by exact sbt)).trans hs)) pb sb lb p.2 hp2 (gd all i))) ?_ E Ah) E Ah
  refine o_y E (B1 (.cons (T E) (.cons (T E) .nil)) (bd115_0_1 _ _)) (o_y E (Ac (T E)) (Bx E (e_ (C9 (T E) (.cons (T E) (.cons (T E) .nil)) hvf (B5 M (by repeat (first | exact LocL.h | apply LocL.t | apply LocL.a)) (hv i ((afterF ma.pl p.1 (gd all i), afterF mb.pl p.2 (gd all i)), gd all i) M _ (steps_get (by omega)) (by exact sbt) hS))) ?_ E)) E Ah) E Ah
  rintro _ _ ⟨M2, hS2, rfl⟩
  refine Af (Bl (Ae (Bh [(1, _), (3, _), (4, _), (5, _), (9, _), (10, _), (11, _)] ⟨Aa E, Aa E, Aa E, Aa E, Aa E, Aa E, Aa E, trivial⟩ (Ab (y_ (Bt (T E) Aj (by omega)) ?_ E)))))
  refine y_ (Ac (T E)) (Af ?_) E
  refine Bn ((i + 1, M2)) ?_ ?_ ⟨(by first | exact Aa E | (refine Ak (Aa E) (vint ?_); omega) | (refine Ak (Aa E) ?_; simp; done)), trivial⟩ ⟨Aa E, Aa E, Aa E, Aa E, Aa E, Aa E, trivial⟩ ?_
  ·exact ⟨by omega, hS2⟩
  ·first | omega | (simp only []; omega)
  ·exact sbt
 ·refine B4 (A0 (A4 (A3 (Dh E .nil ?_))))
  have hi2 : i = (stepsF ma.pl mb.pl all p).length := by unfold stepsF; rw [List.length_map]; omega
  rw [hi2] at hS
  exact ⟨_, ⟨M, hS, rfl⟩, sbt⟩
theorem eq2_s {w0 : World} {H0 : List (Nat × Obj)} (ma mb : Mc) (ha : McOk w0 H0 ma) (hb : McOk w0 H0 mb) (pa : PMok ma.pl) (pb : PMok mb.pl) (b7 b9 : Nat) (ca cb : List Value) (h7 : Fnd H0 b7 (Cl ca 29)) (h9 : Fnd H0 b9 (Cl cb 29)) (eca : ca = encMc ma) (ecb : cb = encMc mb) : FoundS w0 H0 73 [.pointer (some ⟨b7, 0, none⟩), .pointer (some ⟨b9, 0, none⟩)] (DuOk ma.pl mb.pl) (difF ma.pl mb.pl) (fun _ M => M = []) := by
 subst eca; subst ecb
 rintro p hpd qq _ H hH0 _ rfl
 show FSpec Tryz.prog w0 73 #[.agg (encPl p).toArray, .pointer (some ⟨b7, 0, none⟩), .pointer (some ⟨b9, 0, none⟩)] H _
 have hra : ma.pl.next.length = ma.rows.length := List.length_map ..
 have hrb : mb.pl.next.length = mb.rows.length := List.length_map ..
 have hp1 : p.1 < ma.acc.length := by have := hpd.1; have := pa.acc; rw [show ma.pl.acc = ma.acc from rfl] at this; omega
 have hp2 : p.2 < mb.acc.length := by have := hpd.2; have := pb.acc; rw [show mb.pl.acc = mb.acc from rfl] at this; omega
 refine A9 Tryz.func73 E ntmps73 E (Ag (Ab (e_ (Ba (T E) cs_) ?_ E)))
 rintro _ _ ⟨n3, rfl, rfl⟩
 refine y_ (Ad Aj) (Af (Ae (Ag (Ch 14 [(0, true), (1, true), (2, true), (3, true), (4, true), (5, true), (6, true), (7, true), (8, true), (9, true), (10, true), (11, true), (12, true), (13, true)] _ mixd (by kernel_rfl) sb0 ?_)))) E
 refine o_y E (Bi (T E) Dr) (o_y E (Ai (T E) isAgg27 (by first | exact c_o | exact c_o (hf := h7.mono (hH0.trans (by exact sbt))))) ?_ E Ah) E Ah
 refine o_y E (D4 (T E) Aj runUnderlying115 sizeOf3 (by omega)) ?_ E Ah
 refine o_y E (Ai (T E) isAgg3 (by first | exact c_o | exact cells2_0 (by repeat (first | exact By | refine As ?_ | refine Bd ?_)))) ?_ E Ah
 refine o_y E (Be (T E) (T E) runUnderlying27 sizeOf4 (by omega) (by first | exact rfl | exact ha.a3.b (i := p.1) hp1 | exact hb.a3.b (i := p.2) hp2)) ?_ E Ah
 refine o_y E (Ai (T E) isAgg4 (by first | exact c_o | exact cell1 ((ha.a3.mono (hH0.trans (by exact sbt))).cs (i := p.1) hp1))) ?_ E Ah
 refine o_y E (Bi (T E) Dr) (o_y E (Ai (T E) isAgg27 (by first | exact c_o | exact c_o (hf := h9.mono (hH0.trans (by exact sbt))))) ?_ E Ah) E Ah
 refine o_y E (D4 (T E) Aj runUnderlying115 sizeOf3 (by omega)) ?_ E Ah
 refine o_y E (Ai (T E) isAgg3 (by first | exact c_o | exact cells2_1 (by repeat (first | exact By | refine As ?_ | refine Bd ?_)))) ?_ E Ah
 refine o_y E (Be (T E) (T E) runUnderlying27 sizeOf4 (by omega) (by first | exact rfl | exact ha.a3.b (i := p.1) hp1 | exact hb.a3.b (i := p.2) hp2)) ?_ E Ah
 refine o_y E (Ai (T E) isAgg4 (by first | exact c_o | exact cell1 ((hb.a3.mono (hH0.trans (by exact sbt))).cs (i := p.2) hp2))) ?_ E Ah
 refine o_y E (yl_neB (T E) (T E)) (o_y E (Ad (T E)) (Bx E (Af (Ae (Ay (Az E (.tmp (Aa E) .nil) ?_))))) E Ah) E Ah
 exact ⟨_, ⟨[], ⟨rfl, rfl⟩, rfl⟩, sbt⟩
end Go.Proofs.YtkdolgnpkjihpaaGreatDoor
namespace Go.Proofs.YtkdolgnpkjihpaaGreatDoor
open _root_.Go.Proofs.Tryz
open Go.RowKit
set_option linter.unusedVariables false
set_option linter.unusedSimpArgs false
theorem bd115_z  (w : World) : (Instr.build 115 #[]).run Tryz.prog w = .ok (.agg #[.int .i64 0, .int .i64 0]) w := by kernel_rfl
theorem bd24_0_2 (a0 : Int) (a1 : Option Addr) (a1n a1c : Nat) (w : World) : (Instr.build 24 #[(0, .int .i64 a0), (2, .slice a1 a1n a1c)]).run Tryz.prog w = .ok (.agg #[.int .i64 a0, .string ⟨#[]⟩, .slice a1 a1n a1c]) w := by kernel_rfl
theorem Ce (a0 : Int) (a1 : ByteArray) (a2 : Option Addr) (a2n a2c : Nat) (a3 : Int) (a4 : ByteArray) (a5 : Option Addr) (a5n a5c : Nat) (w : World) : (Instr.buildSlice 22 2 #[(0, .agg #[.int .i64 a0, .string a1, .slice a2 a2n a2c]), (1, .agg #[.int .i64 a3, .string a4, .slice a5 a5n a5c])]).run Tryz.prog w = .ok (.slice (some ⟨w.heap.size, 0, none⟩) 2 2) (w.alloc (Cl [.int .i64 a0, .string a1, .slice a2 a2n a2c, .int .i64 a3, .string a4, .slice a5 a5n a5c] 24)) := by kernel_rfl
theorem arrRx2 {w0 : World} {H : List (Nat × Obj)} {n : Nat} {a b : Rxm} {t : TypeId} (hf : Fnd H n (Cl (encRx a ++ encRx b) t)) : Arr w0 H (some ⟨n, 0, none⟩) 3 encRx [a, b] := fun i x hi => by
 refine ⟨rfl, fun j v hj => ?_⟩
 match i, hi with
 | 0, hi =>
  have : a = x := by simpa using hi
  subst this
  refine C3 hf ?_
  rw [List.getElem?_append_left (by have := (List.getElem?_eq_some_iff.1 hj).1; show 0 + 0 * 3 + j < _; omega)]
  show (encRx a)[0 + 0 * 3 + j]? = some v
  rw [show (0 : Nat) + 0 * 3 + j = j by omega]; exact hj
 | 1, hi =>
  have : b = x := by simpa using hi
  subst this
  refine C3 hf ?_
  have e : (encRx a).length = 3 := rfl
  show (encRx a ++ encRx b)[0 + 1 * 3 + j]? = some v
  rw [List.getElem?_append_right (by omega), e, show 0 + 1 * 3 + j - 3 = j by omega]; exact hj
def allF (a b : Re) : List ByteArray := letF (.alt a b) ++ [otherF (letF (.alt a b))]
def eqR (a b : Re) : List ByteArray × Bool × List Pl := srF (stepsF (buildF leastF a).1 (buildF leastF b).1 (allF a b)) (difF (buildF leastF a).1 (buildF leastF b).1) ((buildF leastF a).1.next.length * (buildF leastF b).1.next.length) (0, 0)
def equalF (a b : Re) : List ByteArray × Bool × Int := if (buildF leastF a).2 = 0 ∧ (buildF leastF b).2 = 0 then ((eqR a b).1, !(eqR a b).2.1, 0) else ([], false, 2)
theorem equal_s {w0 : World} {H : List (Nat × Obj)} (m1 m2 : Rxm) (ea eb : Re) (hIa : Is m1 ea) (hIb : Is m2 eb) (hMa : RxM w0 H m1) (hMb : RxM w0 H m2) (hla : ea.lv ≤ 32) (hlb : eb.lv ≤ 32) :
  FSpec Tryz.prog w0 23 #[.agg (encRx m1).toArray, .agg (encRx m2).toArray] H (fun v H' => ∃ d : Sl, (v = .tuple #[slV d (equalF ea eb).1.length, .bool (equalF ea eb).2.1, .int .i64 (equalF ea eb).2.2] ∧ SlOk d (equalF ea eb).1.length 1) ∧ H' = slH d ((equalF ea eb).1.flatMap encS) 9 ++ H) := by
 refine A9 Tryz.func23 E ntmps23 E ?_
 have hla2 : ea.lv ≤ 64 := by omega
 have hlb2 : eb.lv ≤ 64 := by omega
 have hlab : (Re.alt ea eb).lv ≤ 64 := by simp only [Re.lv]; omega
 have hln := letF_few hlab
 refine Ag (Ab (e_ (Ba (T E) cs_) ?_ E))
 rintro _ _ ⟨n2, rfl, rfl⟩
 refine e_ (Ba (T E) cs_) ?_ E
 rintro _ _ ⟨n3, rfl, rfl⟩
 refine y_ (Ad Aj) (y_ (Ad Aj) (y_ (Ad Aj) (Af (Ae (Ag (Ab (y_ (Am (T E) isAgg24 sizeOf24 E (by first | exact Bb)) ?_ E))))) E) E) E
 refine e_ (A1 (.cons (T E) .nil) call12 (buildL_s _ m1 ea hIa (hMa.mono sbt) hla2)) ?_ E
 rintro _ _ ⟨y1, ⟨rfl, hy1⟩, rfl⟩
 refine y_ (Ac (T E)) (y_ (Bf (T E) E) (y_ (Bf (T E) E) (e_ (A5 zeroValue29 cs_) ?_ E) E) E) E
 rintro _ _ ⟨n7, rfl, rfl⟩
 first | refine Bk (A7 (T E) (T E) sizeOf29) E Ah ?_
 rintro _ _ ⟨rfl, rfl⟩
 refine y_ (Ad (T E)) (Af (Ae (Ag (Ab (y_ (Am (T E) isAgg24 sizeOf24 E (by first | exact Bb)) ?_ E))))) E
 refine e_ (A1 (.cons (T E) .nil) call12 (buildL_s _ m2 eb hIb (hMb.mono sbt) hlb2)) ?_ E
 rintro _ _ ⟨y2, ⟨rfl, hy2⟩, rfl⟩
 refine y_ (Ac (T E)) (y_ (Bf (T E) E) (y_ (Bf (T E) E) (e_ (A5 zeroValue29 cs_) ?_ E) E) E) E
 rintro _ _ ⟨n9, rfl, rfl⟩
 first | refine Bk (A7 (T E) (T E) sizeOf29) E Ah ?_
 rintro _ _ ⟨rfl, rfl⟩
 refine y_ (Ad (T E)) (Af (Ae (Ag (Ag (Ab (y_ (Ac (T E)) (y_ (Cu (T E) Aj) (y_ (Ac (T E)) ?_ E) E) E)))))) E
 first | refine Bz (s := 26) (Aa E) (fun c26 => ?_) (fun c26 => ?_) | refine Cf (s := 26) (Aa E) (fun c26 => ?_) (fun c26 => ?_)
 ·have hbad : ¬ ((buildF leastF ea).2 = 0 ∧ (buildF leastF eb).2 = 0) := fun h => c26 h.1
  refine Bm (Bm (y_ (Aq (T E) Aj) (Af (Ae (Bh [(2, _), (3, _), (7, _), (9, _), (29, _)] ⟨Aa E, Aa E, Aa E, Aa E, Aa E, trivial⟩ ?_))) E) E E E E) E E E E
  first | refine A8 (Aa E) ?_ | refine A8 (Ak (Aa E) (vbool (decide_eq_true c29))) ?_
  refine Ag (Ab (y_ (Ad Aj) (y_ (Ad Aj) (y_ (Ad Aj) (Af (Ae (Ay (Al (Az E (.tmp (Aa E) (.tmp (Aa E) (.tmp (Aa E) .nil))) ?_))))) E) E) E))
  have he : equalF ea eb = ([], false, 2) := if_neg hbad
  rw [he]; exact ⟨_, ⟨.nil, ⟨rfl, rfl⟩, rfl⟩, sbt⟩
 ·refine Ax (Ac (T E)) E (Ao E E (Aa E)) (Ax (Cu (T E) Aj) E (Ao E E (Aa E)) (y_ (Au (T E) (T E)) (Af (Ae (Bh [(2, _), (3, _), (7, _), (9, _), (29, _)] ⟨Aa E, Aa E, Aa E, Aa E, Aa E, trivial⟩ ?_))) E))
  first | refine Ar (Aa E) (fun c29 => ?_) (fun c29 => ?_) | refine A6 (Aa E) (fun c29 => ?_) (fun c29 => ?_)
  ·have hbad : ¬ ((buildF leastF ea).2 = 0 ∧ (buildF leastF eb).2 = 0) := fun h => by first | exact c26 h.1 | exact c29 h.2
   refine Ag (Ab (y_ (Ad Aj) (y_ (Ad Aj) (y_ (Ad Aj) (Af (Ae (Ay (Al (Az E (.tmp (Aa E) (.tmp (Aa E) (.tmp (Aa E) .nil))) ?_))))) E) E) E))
   have he : equalF ea eb = ([], false, 2) := if_neg hbad
   rw [he]; exact ⟨_, ⟨.nil, ⟨rfl, rfl⟩, rfl⟩, sbt⟩
  ·have hea : (buildF leastF ea).2 = 0 := Classical.not_not.1 c26
   have heb : (buildF leastF eb).2 = 0 := Classical.not_not.1 c29
   have hma : (mcOf (buildF leastF ea).1.names (slQ y1.1) (slC y1.1) y1.2 (buildF leastF ea).1.acc).pl = (buildF leastF ea).1 := mcOf_pl hy1.2
   have hmb : (mcOf (buildF leastF eb).1.names (slQ y2.1) (slC y2.1) y2.2 (buildF leastF eb).1.acc).pl = (buildF leastF eb).1 := mcOf_pl hy2.2
   refine A2 (Ae (Ag (Ab (y_ (Am (T E) isAgg24 sizeOf24 E (by first | exact Bb)) ?_ E))))
   refine y_ (Am (T E) isAgg24 sizeOf24 E (by first | exact Bb)) ?_ E
   refine e_ (Ap (.cons (T E) (.cons (T E) .nil)) (Ce _ _ _ _ _ _ _ _ _ _)) ?_ E
   rintro _ _ ⟨n32, rfl, rfl⟩
   refine y_ (B1 (.cons Aj (.cons (T E) .nil)) (bd24_0_2 _ _ _ _)) ?_ E
   refine e_ (A1 (.cons (T rfl) .nil) call47 (letters_s (m := .mk 5 ⟨#[]⟩ (some ⟨n32, 0, none⟩) 2 [m1, m2]) (Is.alt hIa hIb) hlab _ (.mk (arrRx2 (by repeat (first | exact By | refine As ?_ | refine Bd ?_))) (fun a ha => by simp only [List.mem_cons, List.not_mem_nil, or_false] at ha; rcases ha with rfl | rfl <;> first | exact hMa.mono sbt | exact hMb.mono sbt) (by decide) (by simp)))) ?_ rfl
   rintro _ _ ⟨dl, ⟨rfl, hdl⟩, rfl⟩
   refine e_ (A5 zeroValue25 cs_) ?_ E
   rintro _ _ ⟨n11, rfl, rfl⟩
   first | refine Bk (A7 (T E) (T E) sizeOf25) E Ah ?_ | refine Bk (Cg (T E) (T E) E sizeOf25) E Ah ?_ | refine Bk (B7 (T E) (T E) E sizeOf25) E Ah ?_
   rintro _ _ ⟨rfl, rfl⟩
   refine Af (Ae (Ag (Ch 4 [(0, true), (1, true), (2, true), (3, false)] _ mixd (by kernel_rfl) sb0 ?_)))
   refine o_y E (Ai (T E) isAgg25 (by first | exact c_o)) ?_ E Ah
   refine o_y E (Ai (T E) isAgg25 (by first | exact c_o)) ?_ E Ah
   refine o_y E (Av (.cons (T E) .nil) call19 (fun H' hs => other_s (letF (.alt ea eb)) _ _ ((Bq (X := H) (enc := encS) (sz := 1) (e := 9) (l := (letF (.alt ea eb))) (fun _ => rfl) hdl).mono (List.Sublist.trans sbt hs)) (by omega))) ?_ E Ah
   refine o_e E (Ap (.cons (T E) .nil) (De _)) ?_ E Ah
   rintro _ _ ⟨n38, rfl, rfl⟩
   refine ⟨sbt, (Bx E (e_ (B0 (otherF (letF (.alt ea eb))) (by' := 16) (by repeat (first | exact LocL.h | apply LocL.t | apply LocL.a)) (T E) (T E) runUnderlying25 runUnderlying25 sizeOf9 typeInfo9 E zeroValue9 E (fun _ => rfl) E hdl (by decide) (by omega)) ?_ E))⟩
   rintro _ _ ⟨da, rfl, hda, rfl⟩
   have hal : (allF ea eb).length = (letF (.alt ea eb)).length + 1 := by unfold allF; simp
   have hdall : SlOk da (allF ea eb).length 1 := by rw [hal]; exact hda
   first | refine Bk (A7 (T E) (T E) sizeOf25) E Ah ?_ | refine Bk (Cg (T E) (T E) E sizeOf25) E Ah ?_ | refine Bk (B7 (T E) (T E) E sizeOf25) E Ah ?_
   rintro _ _ ⟨rfl, rfl⟩
   refine Af (Ae (Ag (Ab (y_ (B1 .nil (bd115_z)) (y_ (Cj (.cons (T E) (.cons (T E) (.cons (T E) .nil)))) (y_ (Cj (.cons (T E) (.cons (T E) .nil))) ?_ E) E) E))))
   refine e_ (A1 (.cons (T E) (.cons (T E) (.cons (T E) .nil))) call71 (searchS_s (H0 := _) 72 73 [.pointer (some ⟨n11, 0, none⟩), .pointer (some ⟨n7, 0, none⟩), .pointer (some ⟨n9, 0, none⟩)] [.pointer (some ⟨n7, 0, none⟩), .pointer (some ⟨n9, 0, none⟩)] (DuOk (mcOf (buildF leastF ea).1.names (slQ y1.1) (slC y1.1) y1.2 (buildF leastF ea).1.acc).pl (mcOf (buildF leastF eb).1.names (slQ y2.1) (slC y2.1) y2.2 (buildF leastF eb).1.acc).pl) (stepsF (mcOf (buildF leastF ea).1.names (slQ y1.1) (slC y1.1) y1.2 (buildF leastF ea).1.acc).pl (mcOf (buildF leastF eb).1.names (slQ y2.1) (slC y2.1) y2.2 (buildF leastF eb).1.acc).pl (allF ea eb)) (difF (mcOf (buildF leastF ea).1.names (slQ y1.1) (slC y1.1) y1.2 (buildF leastF ea).1.acc).pl (mcOf (buildF leastF eb).1.names (slQ y2.1) (slC y2.1) y2.2 (buildF leastF eb).1.acc).pl) (fun _ M => M = []) ((mcOf (buildF leastF ea).1.names (slQ y1.1) (slC y1.1) y1.2 (buildF leastF ea).1.acc).pl.next.length * (mcOf (buildF leastF eb).1.names (slQ y2.1) (slC y2.1) y2.2 (buildF leastF eb).1.acc).pl.next.length) (0, 0) [] call72 call73 (eq1_s (mcOf (buildF leastF ea).1.names (slQ y1.1) (slC y1.1) y1.2 (buildF leastF ea).1.acc) (mcOf (buildF leastF eb).1.names (slQ y2.1) (slC y2.1) y2.2 (buildF leastF eb).1.acc) (mcOf_mono hy1.2 (H := H) (by exact sbt) ((Bq (X := H) (enc := encS) (sz := 1) (e := 9) (l := (buildF leastF ea).1.names) (fun _ => rfl) hy1.1).mono sbt)) (mcOf_mono hy2.2 (H := H) (by exact sbt) ((Bq (X := H) (enc := encS) (sz := 1) (e := 9) (l := (buildF leastF eb).1.names) (fun _ => rfl) hy2.1).mono sbt)) (by rw [hma]; exact (Db hla2 hea).1) (by rw [hmb]; exact (Db hlb2 heb).1) n7 n9 _ _ (by repeat (first | exact By | refine As ?_ | refine Bd ?_)) (by repeat (first | exact By | refine As ?_ | refine Bd ?_)) (mcOf_enc _ _ _ _ _).symm (mcOf_enc _ _ _ _ _).symm (by show Srt (buildF leastF ea).1.names; exact (Db hla2 hea).2) (by show Srt (buildF leastF eb).1.names; exact (Db hlb2 heb).2) (by show (buildF leastF ea).1.names.length ≤ _; rw [build_names hea]; have := letF_few hla2; omega) (by show (buildF leastF eb).1.names.length ≤ _; rw [build_names heb]; have := letF_few hlb2; omega) (allF ea eb) _ _ ((Bq (X := H) (enc := encS) (sz := 1) (e := 9) (l := allF ea eb) (fun _ => rfl) hdall).mono sbt) (by rw [hal]; omega) n11 (by rw [hal]; repeat (first | exact By | refine As ?_ | refine Bd ?_))) (eq2_s (mcOf (buildF leastF ea).1.names (slQ y1.1) (slC y1.1) y1.2 (buildF leastF ea).1.acc) (mcOf (buildF leastF eb).1.names (slQ y2.1) (slC y2.1) y2.2 (buildF leastF eb).1.acc) (mcOf_mono hy1.2 (H := H) (by exact sbt) ((Bq (X := H) (enc := encS) (sz := 1) (e := 9) (l := (buildF leastF ea).1.names) (fun _ => rfl) hy1.1).mono sbt)) (mcOf_mono hy2.2 (H := H) (by exact sbt) ((Bq (X := H) (enc := encS) (sz := 1) (e := 9) (l := (buildF leastF eb).1.names) (fun _ => rfl) hy2.1).mono sbt)) (by rw [hma]; exact (Db hla2 hea).1) (by rw [hmb]; exact (Db hlb2 heb).1) n7 n9 _ _ (by repeat (first | exact By | refine As ?_ | refine Bd ?_)) (by repeat (first | exact By | refine As ?_ | refine Bd ?_)) (mcOf_enc _ _ _ _ _).symm (mcOf_enc _ _ _ _ _).symm) (by rw [hma, hmb]; exact fun p hpp => steps_ok (Db hla2 hea).1 (Db hlb2 heb).1 (allF ea eb) p hpp) (fun l h1 h2 => grid_few h1 h2) (by rw [hma, hmb]; exact Nat.le_trans (Nat.mul_le_mul (Db hla2 hea).1.few (Db hlb2 heb).1.few) (by decide)) (by rw [hma, hmb]; exact ⟨(Db hla2 hea).1.some', (Db hlb2 heb).1.some'⟩) E (List.Sublist.refl _))) ?_ E
   rintro _ _ ⟨⟨d, _⟩, ⟨rfl, hd, rfl⟩, rfl⟩
   refine y_ (Ac (T E)) (y_ (Bf (T E) E) (y_ (Bf (T E) E) (y_ (Ad (T E)) (y_ (Ad (T E)) (Af (Ae (Bh [(12, _), (13, _)] ⟨Aa E, Aa E, trivial⟩ (Ag (Ab (y_ (Ac (T E)) (y_ (Ac (T E)) ?_ E) E)))))) E) E) E) E) E
   first | refine Ax (Ca (T E)) E Ah ?_ | refine Ax (Co (T E)) E Ah ?_
   refine y_ (Ad (T E)) (y_ (Ad (T E)) (y_ (Ad Aj) (Af (Ae (Ay (Az E (.tmp (Aa E) (.tmp (Aa E) (.tmp (Aa E) .nil))) ?_)))) E) E) E
   have he : equalF ea eb = ((eqR ea eb).1, !(eqR ea eb).2.1, 0) := if_pos ⟨hea, heb⟩
   rw [he]
   unfold eqR
   rw [← hma, ← hmb]
   exact ⟨_, ⟨d, ⟨rfl, hd⟩, rfl⟩, sbt⟩
end Go.Proofs.YtkdolgnpkjihpaaGreatDoor
namespace Go.Proofs.YtkdolgnpkjihpaaGreatDoor
open _root_.Go.Proofs.Tryz
open Go.RowKit
set_option linter.unusedVariables false
set_option linter.unusedSimpArgs false
structure RowI where
 q : Option Addr
 c : Nat
 l : List Int
instance : Inhabited RowI := ⟨⟨none, 0, []⟩⟩
structure Mi where
 names : List ByteArray
 rows : List RowI
 acc : List Bool
 q1 : Option Addr
 c1 : Nat
 q2 : Option Addr
 c2 : Nat
 q3 : Option Addr
 c3 : Nat
abbrev encRI (r : RowI) : List Value := [.slice r.q r.l.length r.c]
abbrev encMi (m : Mi) : List Value := [.slice m.q1 m.names.length m.c1, .slice m.q2 m.rows.length m.c2, .slice m.q3 m.acc.length m.c3]
structure MiOk (w0 : World) (H : List (Nat × Obj)) (m : Mi) : Prop where
 a1 : Arr w0 H m.q1 1 encS m.names
 a2 : Arr w0 H m.q2 1 encRI m.rows
 a3 : Arr w0 H m.q3 1 encB1 m.acc
 r : ∀ r ∈ m.rows, Arr w0 H r.q 1 encI r.l
 l1 : m.names.length ≤ 1048576
 l2 : m.rows.length ≤ 1048576
 l3 : ∀ r ∈ m.rows, r.l.length ≤ 1048576
def badTo (n : Nat) (s : Int) : Bool := decide (s < 0) || decide ((n : Int) ≤ s)
def badRow (k n : Nat) (l : List Int) : Bool := decide (¬ (l.length : Int) = (k : Int) + 1) || l.any (badTo n)
def isSrt (names : List ByteArray) : Bool := decide (∀ i, i < names.length → 0 < i → ¬ toL (gd names i) < toL (gd names (i - 1)))
def chkI (m : Mi) : Bool := !(decide (m.rows.length = 0) || decide (200 < m.rows.length) || decide (¬ m.acc.length = m.rows.length) || !isSrt m.names || decide (¬ (cptB m.names).length = m.names.length)) && !(m.rows.any fun r => badRow m.names.length m.rows.length r.l)
theorem any_of {α : Type} [Inhabited α] {l : List α} {f : α → Bool} {i : Nat} (hi : i < l.length) (h : f (gd l i) = true) : l.any f = true := List.any_eq_true.2 ⟨_, Bg hi, h⟩
theorem any_no {α : Type} [Inhabited α] {l : List α} {f : α → Bool} (h : ∀ j, j < l.length → f (gd l j) = false) : l.any f = false := by
 rw [List.any_eq_false]
 intro x hx
 obtain ⟨j, hj, e⟩ := List.getElem_of_mem hx
 have := h j hj
 rw [Bv hj, e] at this
 rw [this]; decide
theorem c66_s {w0 : World} {H : List (Nat × Obj)} (s : Int) (n b : Nat) (hb : Fnd H b (Cl [.int .i64 (n : Int)] 3)) :
  FSpec Tryz.prog w0 66 #[.int .i64 s, .pointer (some ⟨b, 0, none⟩)] H (Still (.bool (badTo n s)) H) := by
 refine A9 Tryz.func66 E ntmps66 E (Ag (Ab (y_ (Ad Aj) (Af (Ae (Ag (Ab (y_ (Ac (T E)) (y_ (Bu (T E) Aj) (y_ (Ac (T E)) ?_ E) E) E))))) E)))
 first | refine Bz (s := 6) (Aa E) (fun c6 => ?_) (fun c6 => ?_) | refine Cf (s := 6) (Aa E) (fun c6 => ?_) (fun c6 => ?_)
 ·refine Bm (Bm (Bm (y_ (Aq (T E) Aj) (y_ (Ad (T E)) (Af (Ae (Ay (Az E (.tmp (Aa E) .nil) (⟨_, ⟨vbool ?_, rfl⟩, sbt⟩))))) E) E) E E E E) E E E E) E E E E
  unfold badTo
  first | (rw [decide_eq_true (show s < 0 by omega)]; rfl) | (rw [decide_eq_false (show ¬ s < 0 by omega)]; rfl)
 ·refine Ax (Ac (T E)) E (Ao E E (Aa E)) (Ax (Ai (T E) isAgg3 (by first | exact c_o | exact c_o (hf := hb))) E (Ao E E (Aa E)) ?_)
  refine Ax (C2 (T E) (T E)) E (Ao E E (Aa E)) (y_ (Au (T E) (T E)) (y_ (Ad (T E)) (Af (Ae (Ay (Az E (.tmp (Aa E) .nil) (⟨_, ⟨vbool ?_, rfl⟩, sbt⟩))))) E) E)
  unfold badTo
  first | (rw [decide_eq_true (show s < 0 by omega)]; rfl) | (rw [decide_eq_false (show ¬ s < 0 by omega)]; rfl)
theorem ix114_s {w0 : World} {H : List (Nat × Obj)} (l : List Int) (q : Option Addr) (c : Nat) (n b : Nat) (hb : Fnd H b (Cl [.int .i64 (n : Int)] 3)) (hA : Arr w0 H q 1 encI l) (hlen : l.length ≤ 1048576) :
  FSpec Tryz.prog w0 114 #[.slice q l.length c, .func (.func 66) #[] #[.pointer (some ⟨b, 0, none⟩)]] H ((fun v H' => (∃ i : Int, v = .int .i64 i ∧ (0 ≤ i ↔ l.any (badTo n) = true)) ∧ H' = H)) := by
 refine A9 Tryz.func114 E ntmps114 E (Ag (Ab (y_ (Ad Aj) (Af (Ae (Ag (Ag (Ab (y_ (Ac (T E)) (y_ (Bp (T E) runUnderlying42) (y_ (Ac Aj) (Af (Ae (Aw ?_))) E) E) E)))))) E)))
 refine Cc (X := Nat) (V := fun i => [(8, .int .i64 (i : Nat))]) (C := [(0, _), (1, _), (7, _)]) (φ := fun i => i ≤ l.length ∧ ∀ j, j < i → (badTo n) (gd l j) = false) (μ := fun i => l.length - i) (x0 := 0) ?_ ⟨Aa E, Aa E, Aa E, trivial⟩ ⟨(by first | exact Aa E | (refine Ak (Aa E) (vint ?_); omega) | (refine Ak (Aa E) ?_; simp; done)), trivial⟩ ?_
 ·exact ⟨Nat.zero_le _, fun j hj => absurd hj (Nat.not_lt_zero _)⟩
 rintro i ⟨hi, hno⟩
 refine Ag (Ab (y_ (Bu (T E) (T E)) (Af (Ae (Ag ?_))) E))
 first | refine Ar (Aa E) (fun c9 => ?_) (fun c9 => ?_) | refine A6 (Aa E) (fun c9 => ?_) (fun c9 => ?_)
 ·refine A2 (Ae (Ag (Aw (Ag (Ab (y_ (Ac (T E)) (y_ (Ad (T E)) (Af (Ae (Ag (Ab (y_ (Ac (T E)) (y_ (Ac (T E)) (y_ (Ac (T E)) (y_ (Be (T E) (T E) runUnderlying42 sizeOf3 (by omega) (by first | exact rfl | exact hA.b (i := i) (by omega))) ?_ E) E) E) E))))) E) E))))))
  refine y_ (Ai (T E) isAgg3 (by first | exact c_o | exact cell1 ((hA.mono sbt).cs (i := i) (by omega)))) ?_ E
  refine y_ (yl_callV (T E) (.cons (T E) .nil) call66 (fun H' hs => c66_s (gd l i) n b (hb.mono (List.Sublist.trans sbt hs)))) (Af (Ae ?_)) E
  first | refine Ar (Aa E) (fun c16 => ?_) (fun c16 => ?_) | refine A6 (Aa E) (fun c16 => ?_) (fun c16 => ?_)
  ·refine Ag (Ab (y_ (Ac (T E)) (y_ (Ad (T E)) (Af (Ae (Ay (An (Al (Bo (An (Al (Az E (.tmp (Aa E) .nil) ?_))))))))) E) E))
   exact ⟨_, ⟨⟨_, rfl, fun _ => any_of (by omega) c16, fun _ => by omega⟩, rfl⟩, sbt⟩
  ·refine A2 (Bl (Ae (Ab (y_ (Bt (T E) Aj (by omega)) ?_ E))))
   refine y_ (Ac (T E)) (Af ?_) E
   refine Bn (i + 1) ?_ ?_ ⟨(by first | exact Aa E | (refine Ak (Aa E) (vint ?_); omega) | (refine Ak (Aa E) ?_; simp; done)), trivial⟩ ⟨Aa E, Aa E, Aa E, trivial⟩ ?_
   ·refine ⟨by omega, fun j hj => ?_⟩
    by_cases e : j = i
    ·subst e; exact c16
    ·exact hno j (by omega)
   ·first | omega | (simp only []; omega)
   ·exact sbt
 ·refine B4 (A0 (A4 (A3 (Ae (Ag (Ab (y_ (Ad Aj) (Af (Ae (Ay (Az E (.tmp (Aa E) .nil) (⟨_, ⟨⟨-1, rfl, fun h => absurd h (by decide), fun h => ?_⟩, rfl⟩, sbt⟩))))) E)))))))
  rw [any_no fun j hj => hno j (by omega)] at h; cases h
theorem cf65_s {w0 : World} {H : List (Nat × Obj)} (l : List Int) (q : Option Addr) (c : Nat) (n b : Nat) (hb : Fnd H b (Cl [.int .i64 (n : Int)] 3)) (hA : Arr w0 H q 1 encI l) (hlen : l.length ≤ 1048576) :
  FSpec Tryz.prog w0 65 #[.slice q l.length c, .func (.func 66) #[] #[.pointer (some ⟨b, 0, none⟩)]] H (Still (.bool (l.any (badTo n))) H) := by
 refine A9 Tryz.func65 E ntmps65 E (Ag (Ab (y_ (Ad Aj) (Af (Ae (Ag (Ab (y_ (Ac (T E)) (y_ (Ac (T E)) (e_ (A1 (.cons (T E) (.cons (T E) .nil)) call114 (ix114_s l q c n b hb hA hlen)) ?_ E) E) E))))) E)))
 rintro _ _ ⟨⟨i, rfl, hi⟩, rfl⟩
 refine y_ (C2 (T E) Aj) (y_ (Ad (T E)) (Af (Ae (Ay (Az E (.tmp (Aa E) .nil) ?_)))) E) E
 exact ⟨_, ⟨vbool (by rw [Bool.eq_iff_iff, decide_eq_true_eq]; exact hi), rfl⟩, sbt⟩
theorem c64_s {w0 : World} {H : List (Nat × Obj)} (r : RowI) (hr : Arr w0 H r.q 1 encI r.l) (hrl : r.l.length ≤ 1048576) (m : Mi) (hml : m.names.length ≤ 1048576) (n b1 b : Nat) (h1 : Fnd H b1 (Cl (encMi m) 29)) (hb : Fnd H b (Cl [.int .i64 (n : Int)] 3)) :
  FSpec Tryz.prog w0 64 #[.slice r.q r.l.length r.c, .pointer (some ⟨b1, 0, none⟩), .pointer (some ⟨b, 0, none⟩)] H (Still (.bool (badRow m.names.length n r.l)) H) := by
 refine A9 Tryz.func64 E ntmps64 E (Ag (Ab (y_ (Ad Aj) (Af (Ae (Ag (Ab (y_ (Ac (T E)) (y_ (Bp (T E) runUnderlying42) (y_ (Bc (T E) Dl) (y_ (Ai (T E) isAgg25 (by first | exact c_o | exact c_o (hf := h1))) ?_ E) E) E) E))))) E)))
 refine y_ (Bp (T E) runUnderlying25) (y_ (Bt (T E) Aj (by omega)) ?_ E) E
 refine y_ (Cu (T E) (T E)) (y_ (Ac (T E)) ?_ E) E
 first | refine Bz (s := 12) (Aa E) (fun c12 => ?_) (fun c12 => ?_) | refine Cf (s := 12) (Aa E) (fun c12 => ?_) (fun c12 => ?_)
 ·refine Bm (Bm (Bm (y_ (Aq (T E) Aj) (y_ (Ad (T E)) (Af (Ae (Ay (Az E (.tmp (Aa E) .nil) (⟨_, ⟨vbool ?_, rfl⟩, sbt⟩))))) E) E) E E E E) E E E E) E E E E
  unfold badRow
  first | (rw [decide_eq_true c12]; rfl) | (rw [decide_eq_false c12]; rfl)
 ·refine Ax (Ac (T E)) E (Ao E E (Aa E)) (Ax (Cj (.cons (T E) .nil)) E (Ao E E (Aa E)) (Ax (Av (.cons (T E) (.cons (T E) .nil)) call65 (fun H' hs => cf65_s r.l r.q r.c n b (hb.mono (List.Sublist.trans sbt hs)) (hr.mono (List.Sublist.trans sbt hs)) hrl)) E (Ao E E (Aa E)) (y_ (Au (T E) (T E)) (y_ (Ad (T E)) (Af (Ae (Ay (Az E (.tmp (Aa E) .nil) (⟨_, ⟨vbool ?_, rfl⟩, sbt⟩))))) E) E)))
  unfold badRow
  first | (rw [decide_eq_true c12]; rfl) | (rw [decide_eq_false c12]; rfl)
theorem ix113_s {w0 : World} {H : List (Nat × Obj)} (m : Mi) (hm : MiOk w0 H m) (n b1 b : Nat) (h1 : Fnd H b1 (Cl (encMi m) 29)) (hb : Fnd H b (Cl [.int .i64 (n : Int)] 3)) :
  FSpec Tryz.prog w0 113 #[.slice m.q2 m.rows.length m.c2, .func (.func 64) #[] #[.pointer (some ⟨b1, 0, none⟩), .pointer (some ⟨b, 0, none⟩)]] H ((fun v H' => (∃ i : Int, v = .int .i64 i ∧ (0 ≤ i ↔ m.rows.any (fun r : RowI => badRow m.names.length n r.l) = true)) ∧ H' = H)) := by
 refine A9 Tryz.func113 E ntmps113 E ?_
 have hl2 := hm.l2
 refine Ag (Ab (y_ (Ad Aj) (Af (Ae (Ag (Ag (Ab (y_ (Ac (T E)) (y_ (Bp (T E) runUnderlying26) (y_ (Ac Aj) (Af (Ae (Aw ?_))) E) E) E)))))) E))
 refine Cc (X := Nat) (V := fun i => [(8, .int .i64 (i : Nat))]) (C := [(0, _), (1, _), (7, _)]) (φ := fun i => i ≤ m.rows.length ∧ ∀ j, j < i → (fun r : RowI => badRow m.names.length n r.l) (gd m.rows j) = false) (μ := fun i => m.rows.length - i) (x0 := 0) ?_ ⟨Aa E, Aa E, Aa E, trivial⟩ ⟨(by first | exact Aa E | (refine Ak (Aa E) (vint ?_); omega) | (refine Ak (Aa E) ?_; simp; done)), trivial⟩ ?_
 ·exact ⟨Nat.zero_le _, fun j hj => absurd hj (Nat.not_lt_zero _)⟩
 rintro i ⟨hi, hno⟩
 refine Ag (Ab (y_ (Bu (T E) (T E)) (Af (Ae (Ag ?_))) E))
 first | refine Ar (Aa E) (fun c9 => ?_) (fun c9 => ?_) | refine A6 (Aa E) (fun c9 => ?_) (fun c9 => ?_)
 ·refine A2 (Ae (Ag (Aw (Ag (Ab (y_ (Ac (T E)) (y_ (Ad (T E)) (Af (Ae (Ag (Ab (y_ (Ac (T E)) (y_ (Ac (T E)) (y_ (Ac (T E)) (y_ (Be (T E) (T E) runUnderlying26 sizeOf42 (by omega) (by first | exact rfl | exact hm.a2.b (i := i) (by omega))) ?_ E) E) E) E))))) E) E))))))
  refine y_ (Ai (T E) isAgg42 (by first | exact c_o | exact cell1 ((hm.a2.mono sbt).cs (i := i) (by omega)))) ?_ E
  refine y_ (yl_callV (T E) (.cons (T E) .nil) call64 (fun H' hs => c64_s (gd m.rows i) ((hm.r _ (Bg (by omega))).mono (List.Sublist.trans sbt hs)) (hm.l3 _ (Bg (by omega))) m hm.l1 n b1 b (h1.mono (List.Sublist.trans sbt hs)) (hb.mono (List.Sublist.trans sbt hs)))) ?_ E
  refine Af (Ae ?_)
  first | refine Ar (Aa E) (fun c16 => ?_) (fun c16 => ?_) | refine A6 (Aa E) (fun c16 => ?_) (fun c16 => ?_)
  ·refine Ag (Ab (y_ (Ac (T E)) (y_ (Ad (T E)) (Af (Ae (Ay (An (Al (Bo (An (Al (Az E (.tmp (Aa E) .nil) ?_))))))))) E) E))
   exact ⟨_, ⟨⟨_, rfl, fun _ => any_of (by omega) c16, fun _ => by omega⟩, rfl⟩, sbt⟩
  ·refine A2 (Bl (Ae (Ab (y_ (Bt (T E) Aj (by omega)) ?_ E))))
   refine y_ (Ac (T E)) (Af ?_) E
   refine Bn (i + 1) ?_ ?_ ⟨(by first | exact Aa E | (refine Ak (Aa E) (vint ?_); omega) | (refine Ak (Aa E) ?_; simp; done)), trivial⟩ ⟨Aa E, Aa E, Aa E, trivial⟩ ?_
   ·refine ⟨by omega, fun j hj => ?_⟩
    by_cases e : j = i
    ·subst e; exact c16
    ·exact hno j (by omega)
   ·first | omega | (simp only []; omega)
   ·exact sbt
 ·refine B4 (A0 (A4 (A3 (Ae (Ag (Ab (y_ (Ad Aj) (Af (Ae (Ay (Az E (.tmp (Aa E) .nil) (⟨_, ⟨⟨-1, rfl, fun h => absurd h (by decide), fun h => ?_⟩, rfl⟩, sbt⟩))))) E)))))))
  rw [any_no fun j hj => hno j (by omega)] at h; cases h
theorem cf63_s {w0 : World} {H : List (Nat × Obj)} (m : Mi) (hm : MiOk w0 H m) (n b1 b : Nat) (h1 : Fnd H b1 (Cl (encMi m) 29)) (hb : Fnd H b (Cl [.int .i64 (n : Int)] 3)) :
  FSpec Tryz.prog w0 63 #[.slice m.q2 m.rows.length m.c2, .func (.func 64) #[] #[.pointer (some ⟨b1, 0, none⟩), .pointer (some ⟨b, 0, none⟩)]] H (Still (.bool (m.rows.any (fun r : RowI => badRow m.names.length n r.l))) H) := by
 refine A9 Tryz.func63 E ntmps63 E (Ag (Ab (y_ (Ad Aj) (Af (Ae (Ag (Ab (y_ (Ac (T E)) (y_ (Ac (T E)) (e_ (A1 (.cons (T E) (.cons (T E) .nil)) call113 (ix113_s m hm n b1 b h1 hb)) ?_ E) E) E))))) E)))
 rintro _ _ ⟨⟨i, rfl, hi⟩, rfl⟩
 refine y_ (C2 (T E) Aj) (y_ (Ad (T E)) (Af (Ae (Ay (Az E (.tmp (Aa E) .nil) ?_)))) E) E
 exact ⟨_, ⟨vbool (by rw [Bool.eq_iff_iff, decide_eq_true_eq]; exact hi), rfl⟩, sbt⟩
theorem srtS_s {w0 : World} {H : List (Nat × Obj)} (names : List ByteArray) (q : Option Addr) (c : Nat) (hA : Arr w0 H q 1 encS names) (hlen : names.length ≤ 1048576) :
  FSpec Tryz.prog w0 60 #[.slice q names.length c] H (Still (.bool (isSrt names)) H) := by
 refine A9 Tryz.func60 E ntmps60 E (Ag (Ab (y_ (Ad Aj) (Af (Ae (Ag (Ag (Ab (y_ (Ac (T E)) (y_ (Bp (T E) runUnderlying25) (y_ (Dz (T E) Aj (by omega)) ?_ E) E) E)))))) E)))
 refine y_ (Ad (T E)) (Af (Ae (Aw ?_))) E
 refine Cc (X := Int) (V := fun i => [(3, .int .i64 i)]) (C := [(0, _)]) (φ := fun i => -1 ≤ i ∧ i ≤ (names.length : Int) - 1 ∧ ∀ j : Nat, i < j → j < names.length → 0 < j → ¬ toL (gd names j) < toL (gd names (j - 1))) (μ := fun i => (i + 1).toNat) (x0 := (names.length : Int) - 1) ?_ ⟨Aa E, trivial⟩ ⟨(by first | exact Aa E | (refine Ak (Aa E) (vint ?_); omega) | (refine Ak (Aa E) ?_; simp; done)), trivial⟩ ?_
 ·exact ⟨by omega, Int.le_refl _, fun j h1 h2 => by omega⟩
 rintro i ⟨hlo, hhi, hgo⟩
 refine Ag (Ag (Ab (y_ (Ac (T E)) (y_ (C7 (T E) Aj) (Af (Ae ?_)) E) E)))
 first | refine Ar (Aa E) (fun c8 => ?_) (fun c8 => ?_) | refine A6 (Aa E) (fun c8 => ?_) (fun c8 => ?_)
 ·have hi1 : (i - 1).toNat = i.toNat - 1 := by omega
  refine A2 (Ae (Ag (Aw (Ag (Ch 10 [(0, true), (1, true), (2, true), (3, true), (4, true), (5, true), (6, true), (7, true), (8, true), (9, true)] _ mixd (by kernel_rfl) sb0 ?_)))))
  refine o_y E (Ac (T E)) (o_y E (Ac (T E)) (o_y E (Ck (T E) (T E) runUnderlying25 sizeOf9 (by omega) (by first | exact rfl | exact hA.b (i := i.toNat) (by omega) | exact hA.b (i := (i - 1).toNat) (by omega))) ?_ E Ah) E Ah) E Ah
  refine o_y E (Ai (T E) isAgg9 (by first | exact c_o | exact cell1 ((hA.mono sbt).cs (i := i.toNat) (by omega)))) ?_ E Ah
  refine o_y E (Ac (T E)) (o_y E (Ac (T E)) (o_y E (Dz (T E) Aj (by omega)) ?_ E Ah) E Ah) E Ah
  refine o_y E (Ck (T E) (T E) runUnderlying25 sizeOf9 (by omega) (by first | exact rfl | exact hA.b (i := i.toNat) (by omega) | exact hA.b (i := (i - 1).toNat) (by omega))) ?_ E Ah
  refine o_y E (Ai (T E) isAgg9 (by first | exact c_o | exact cell1 ((hA.mono sbt).cs (i := (i - 1).toNat) (by omega)))) ?_ E Ah
  refine o_y E (Av (.cons (T E) (.cons (T E) .nil)) call112 (fun H' hs => less_s _ _)) (Bx E (Af (Ae ?_))) E Ah
  first | refine Ar (Aa E) (fun c20 => ?_) (fun c20 => ?_) | refine A6 (Aa E) (fun c20 => ?_) (fun c20 => ?_)
  ·refine Ag (Ab (y_ (Ad Aj) (Af (Ae (Ay (An (Al (Bo (An (Al (Az E (.tmp (Aa E) .nil) ?_))))))))) E))
   exact ⟨_, ⟨vbool (by symm; exact decide_eq_false fun h => h i.toNat (by omega) (by omega) (by rw [hi1] at c20; exact c20)), rfl⟩, sbt⟩
  ·refine A2 (Bl (Ae (Ab (y_ (Ac (T E)) (y_ (Dz (T E) Aj (by omega)) ?_ E) E))))
   refine y_ (Ad (T E)) (Af ?_) E
   refine Bn (i - 1) ?_ ?_ ⟨(by first | exact Aa E | (refine Ak (Aa E) (vint ?_); omega) | (refine Ak (Aa E) ?_; simp; done)), trivial⟩ ⟨Aa E, trivial⟩ ?_
   ·refine ⟨by omega, by omega, fun j h1 h2 h3 => ?_⟩
    by_cases e : (j : Int) = i
    ·have e2 : j = i.toNat := by omega
     subst e2
     rw [hi1] at c20; exact c20
    ·exact hgo j (by omega) h2 h3
   ·first | omega | (simp only []; omega)
   ·exact sbt
 ·refine B4 (A0 (A4 (A3 (Ae (Ag (Ab (y_ (Ad Aj) (Af (Ae (Ay (Az E (.tmp (Aa E) .nil) ?_)))) E)))))))
  exact ⟨_, ⟨vbool (by symm; exact decide_eq_true fun j h1 h2 => hgo j (by omega) h1 h2), rfl⟩, sbt⟩
end Go.Proofs.YtkdolgnpkjihpaaGreatDoor
namespace Go.Proofs.YtkdolgnpkjihpaaGreatDoor
open _root_.Go.Proofs.Tryz
open Go.RowKit
set_option linter.unusedVariables false
set_option linter.unusedSimpArgs false
theorem bs25_0_z  (w : World) : (Instr.buildSlice 25 0 #[]).run Tryz.prog w = .ok (.slice (some ⟨w.heap.size, 0, none⟩) 0 0) (w.alloc (Cl [] 9)) := by kernel_rfl
section
variable {P : Program} {r : Option Nat} {N : Nat} {w0 : World} {ops : Array Oper} {t : Nat} {Q : Post} {L : Fm} {ds : List Deferred} {H0 H : List (Nat × Obj)} {d : Option Tmp} {op : Op} {ty : TypeId} {p : String} {af : Array Edge} {g : Option (Nat × Bool)} {i : Nat} {plan : List (Nat × Bool)}
theorem o_nf (hi : ops[i]? = some ⟨d, op, ty, p, af, g⟩) (k : JO P r N w0 H0 ops t plan Q (pt d undef L) ds H) (hN : dOk d N = true) (hg : Nw ops L g N) : JO P r N w0 H0 ops t ((i, false) :: plan) Q L ds H :=
 fun hT hD hS hP hs listed inv hp b a hsz hf hd => by
  simp only [planB, Bool.and_eq_true, Nat.blt_eq, beq_iff_eq] at hp
  obtain ⟨⟨h1, h2⟩, h4⟩ := hp
  have hr : i ∈ Region.ready md ops listed := by rw [h2]; simp
  refine ⟨⟨i, hr, h1⟩, fun j hj _ w hO => ?_⟩
  rw [h2] at hj
  obtain rfl : j = i := by simpa using hj
  unfold wpOpIn
  simp only [hi, nw_wanted hg hsz hf, Bool.false_eq_true, if_false]
  exact ⟨fun f _ => rd_fn r f, H, hs, hO, k hT hD hS hP hs _ (inv.set hr h1) h4 b _ (by rw [size_put]; exact hsz) (fr_pt hN hsz hf) (by rw [defers_put]; exact hd)⟩
end
theorem yl_eqNil {w0 : World} {L : Fm} {H : List (Nat × Obj)} {ty yt : TypeId} {x y : Operand} {q : Option Addr} {n c : Nat} (hx : Ev L x (.slice q n c)) (hy : Ev L y (.slice none 0 0)) : Yl Tryz.prog w0 (.binOp .eql 25 x y yt) ty L H (.bool q.isNone) := Cd E fun b' w => by
 have e : (Op.equal 25 (.slice q n c) (.slice none 0 0)).run Tryz.prog w = .ok q.isNone w := run_equalIn_slice_nil w 9999 25 9 q n c (by kernel_rfl)
 simp [exO, execOp, hx b', hy b', binOp, eqGuard, Sem.run_bind, Result.andThen, e]
theorem loc_e {n : Nat} {e : TypeId} {X : List (Nat × Obj)} {enc : ByteArray → List Value} : LocL ((n, Cl [] e) :: X) (slH (.blk n 0 []) (([] : List ByteArray).flatMap enc) e) X (fun M' => M' ++ X) := show LocL ([(n, Cl [] e)] ++ X) [(n, Cl [] e)] X _ from .h
theorem clone_s {w0 : World} {H : List (Nat × Obj)} (names : List ByteArray) (q : Option Addr) (c : Nat) (hA : Arr w0 H q 1 encS names) (hlen : names.length ≤ 1048576) :
  FSpec Tryz.prog w0 62 #[.slice q names.length c] H (fun v H' => ∃ d, (v = slV d names.length ∧ SlOk d names.length 1) ∧ H' = slH d (names.flatMap encS) 9 ++ H) := by
 refine A9 Tryz.func62 E ntmps62 E (Ag (Ab (y_ (Ad Aj) (Af (Ae (Ag (Ag (Ab (y_ (Ac (T E)) (y_ (yl_eqNil (T E) Aj) (Af (Ae ?_)) E) E)))))) E)))
 first | refine Ar (Aa E) (fun c4 => ?_) (fun c4 => ?_) | refine A6 (Aa E) (fun c4 => ?_) (fun c4 => ?_)
 ·have hnil : names = [] := by
   cases names with
   | nil => rfl
   | cons x l => have := (hA 0 x rfl).1; rw [this] at c4; cases c4
  refine Ag (Ab (y_ (Ad Aj) (Af (Ae (Ay (Al (Az E (.tmp (Aa E) .nil) ?_))))) E))
  rw [hnil]; exact ⟨_, ⟨.nil, ⟨rfl, rfl⟩, rfl⟩, sbt⟩
 ·refine A2 (Ae (Ag (Ab (e_ (Ap .nil (bs25_0_z)) ?_ E))))
  rintro _ _ ⟨n5, rfl, rfl⟩
  refine y_ (Ac (T E)) (e_ (eff_appN_at (d := .blk n5 0 []) (l := []) (names) (by' := 16) loc_e (T E) (T E) runUnderlying25 runUnderlying25 sizeOf9 typeInfo9 E zeroValue9 E (fun _ => rfl) (fun _ => rfl) ⟨Nat.le_refl _, rfl⟩ (by decide) (by simp only [List.length_nil]; omega) (hA.mono sbt)) ?_ E) E
  rintro _ _ ⟨d', rfl, hokd, rfl⟩
  refine y_ (Ad (T E)) (Af (Ae (Ay (Az E (.tmp (Aa E) .nil) ?_)))) E
  rw [List.length_nil, Nat.zero_add] at hokd
  exact ⟨_, ⟨d', ⟨by rw [List.length_nil, Nat.zero_add]; rfl, hokd⟩, rfl⟩, sbt⟩
theorem MiOk.mono {w0 : World} {H H' : List (Nat × Obj)} {m : Mi} (h : MiOk w0 H m) (hs : H.Sublist H' := by exact sbt) : MiOk w0 H' m := ⟨h.a1.mono hs, h.a2.mono hs, h.a3.mono hs, fun r hr => (h.r r hr).mono hs, h.l1, h.l2, h.l3⟩
theorem pcheck_s {w0 : World} {H : List (Nat × Obj)} (m : Mi) (hm : MiOk w0 H m) :
  FSpec Tryz.prog w0 18 #[.agg (encMi m).toArray] H (Still (.bool (chkI m)) H) := by
 refine A9 Tryz.func18 E ntmps18 E ?_
 have hl1 := hm.l1
 have hl2 := hm.l2
 have hcl := cptB_len m.names
 refine Ag (Ab (e_ (Ba (T E) cs_) ?_ E))
 rintro _ _ ⟨n1, rfl, rfl⟩
 refine y_ (Ad Aj) (Af (Ae (Ag (Ab (y_ (Bi (T E) Cv) (y_ (Ai (T E) isAgg26 (by first | exact c_o)) ?_ E) E))))) E
 refine y_ (Bp (T E) runUnderlying26) (e_ (A5 zeroValue3 cs_) ?_ E) E
 rintro _ _ ⟨n3, rfl, rfl⟩
 first | refine Bk (A7 (T E) (T E) sizeOf3) E Ah ?_ | refine Bk (Cg (T E) (T E) E sizeOf3) E Ah ?_ | refine Bk (B7 (T E) (T E) E sizeOf3) E Ah ?_
 rintro _ _ ⟨rfl, rfl⟩
 refine Af (Ae (Ag (Ag (Ch 30 [(0, true), (1, true), (2, true), (3, true), (4, true), (5, true), (6, true), (7, true), (8, true), (9, true), (10, true), (11, true), (12, true), (13, true), (14, true), (15, true), (16, true), (17, true), (18, true), (19, true), (20, true), (21, true), (25, true), (26, true), (27, true), (22, false), (23, false), (24, true), (28, true), (29, true)] _ mixd (by kernel_rfl) sb0 ?_))))
 refine o_y E (Ai (T E) isAgg3 (by first | exact c_o)) ?_ E Ah
 refine o_y E (B2 (T E) Aj) (o_y E (Ac (T E)) ?_ E Ah) E Ah
 first | refine Cy (s := 9) (Aa E) (fun c9 => ?_) (fun c9 => ?_) | refine Dx (s := 9) (Aa E) (fun c9 => ?_) (fun c9 => ?_)
 ·have hf : chkI m = false := by unfold chkI; rw [decide_eq_true (show m.rows.length = 0 by omega)]; rfl
  refine o_n E (o_n E (o_y E (Aq (T E) Aj) (o_y E (Ac (T E)) (o_n E (o_n E (o_n E (o_n E (o_n E (o_y E (Aq (T E) Aj) (o_y E (Ac (T E)) (o_n E (o_n E (o_n E (o_n E (o_y E (Aq (T E) Aj) (o_y E (Ac (T E)) (o_n E (o_n E (o_n E (o_n E (o_n E (o_nf E (o_nf E (o_n E (o_n E (o_y E (Aq (T E) Aj) (Bx E (Af (Ae (Bh [(1, _), (3, _), (36, _)] ⟨Aa E, Aa E, Aa E, trivial⟩ ?_)))) E Ah) E (Bj E E (Aa E))) E (Bj E E (Aa E))) E (Bj E E (Aa E))) E (Bj E E (Aa E))) E (Bj E E (Aa E))) E (Bj E E (Aa E))) E (Bj E E (Aa E))) E (Bj E E (Aa E))) E (Bj E E (Aa E))) E Ah) E Ah) E (Bj E E (Aa E))) E (Bj E E (Aa E))) E (Bj E E (Aa E))) E (Bj E E (Aa E))) E Ah) E Ah) E (Bj E E (Aa E))) E (Bj E E (Aa E))) E (Bj E E (Aa E))) E (Bj E E (Aa E))) E (Bj E E (Aa E))) E Ah) E Ah) E (Bj E E (Aa E))) E (Bj E E (Aa E))
  first | refine A8 (Aa E) ?_ | refine A8 (Ak (Aa E) (vbool (decide_eq_true c36))) ?_
  refine Ag (Ab (y_ (Ad Aj) (Af (Ae (Ay (Al (Az E (.tmp (Aa E) .nil) ?_))))) E))
  exact ⟨_, ⟨vbool (by rw [hf]), rfl⟩, sbt⟩
 ·have e1 : decide (m.rows.length = 0) = false := decide_eq_false (by omega)
  refine o_y E (Ai (T E) isAgg3 (by first | exact c_o)) ?_ E (Ao E E (Aa E))
  refine o_y E (C7 (T E) Aj) (o_y E (Au (T E) (T E)) (o_y E (Ac (T E)) ?_ E Ah) E Ah) E (Ao E E (Aa E))
  first | refine Cy (s := 13) (Aa E) (fun c13 => ?_) (fun c13 => ?_) | refine Dx (s := 13) (Aa E) (fun c13 => ?_) (fun c13 => ?_)
  ·have hf : chkI m = false := by unfold chkI; rw [e1, decide_eq_true (show 200 < m.rows.length by omega)]; rfl
   refine o_n E (o_n E (o_n E (o_n E (o_n E (o_y E (Aq (T E) Aj) (o_y E (Ac (T E)) (o_n E (o_n E (o_n E (o_n E (o_y E (Aq (T E) Aj) (o_y E (Ac (T E)) (o_n E (o_n E (o_n E (o_n E (o_n E (o_nf E (o_nf E (o_n E (o_n E (o_y E (Aq (T E) Aj) (Bx E (Af (Ae (Bh [(1, _), (3, _), (36, _)] ⟨Aa E, Aa E, Aa E, trivial⟩ ?_)))) E Ah) E (Bj E E (Aa E))) E (Bj E E (Aa E))) E (Bj E E (Aa E))) E (Bj E E (Aa E))) E (Bj E E (Aa E))) E (Bj E E (Aa E))) E (Bj E E (Aa E))) E (Bj E E (Aa E))) E (Bj E E (Aa E))) E Ah) E Ah) E (Bj E E (Aa E))) E (Bj E E (Aa E))) E (Bj E E (Aa E))) E (Bj E E (Aa E))) E Ah) E Ah) E (Bj E E (Aa E))) E (Bj E E (Aa E))) E (Bj E E (Aa E))) E (Bj E E (Aa E))) E (Bj E E (Aa E))
   first | refine A8 (Aa E) ?_ | refine A8 (Ak (Aa E) (vbool (decide_eq_true c36))) ?_
   refine Ag (Ab (y_ (Ad Aj) (Af (Ae (Ay (Al (Az E (.tmp (Aa E) .nil) ?_))))) E))
   exact ⟨_, ⟨vbool (by rw [hf]), rfl⟩, sbt⟩
  ·have e2 : decide (200 < m.rows.length) = false := decide_eq_false (by omega)
   refine o_y E (Bi (T E) Dr) (o_y E (Ai (T E) isAgg27 (by first | exact c_o)) ?_ E (Ao E E (Aa E))) E (Ao E E (Aa E))
   refine o_y E (Bp (T E) runUnderlying27) (o_y E (Ai (T E) isAgg3 (by first | exact c_o)) ?_ E (Ao E E (Aa E))) E (Ao E E (Aa E))
   refine o_y E (Cu (T E) (T E)) (o_y E (Au (T E) (T E)) (o_y E (Ac (T E)) ?_ E Ah) E Ah) E (Ao E E (Aa E))
   first | refine Cy (s := 20) (Aa E) (fun c20 => ?_) (fun c20 => ?_) | refine Dx (s := 20) (Aa E) (fun c20 => ?_) (fun c20 => ?_)
   ·have hf : chkI m = false := by unfold chkI; rw [e1, e2, decide_eq_true (show ¬ m.acc.length = m.rows.length by omega)]; rfl
    refine o_n E (o_n E (o_n E (o_n E (o_y E (Aq (T E) Aj) (o_y E (Ac (T E)) (o_n E (o_n E (o_n E (o_n E (o_n E (o_nf E (o_nf E (o_n E (o_n E (o_y E (Aq (T E) Aj) (Bx E (Af (Ae (Bh [(1, _), (3, _), (36, _)] ⟨Aa E, Aa E, Aa E, trivial⟩ ?_)))) E Ah) E (Bj E E (Aa E))) E (Bj E E (Aa E))) E (Bj E E (Aa E))) E (Bj E E (Aa E))) E (Bj E E (Aa E))) E (Bj E E (Aa E))) E (Bj E E (Aa E))) E (Bj E E (Aa E))) E (Bj E E (Aa E))) E Ah) E Ah) E (Bj E E (Aa E))) E (Bj E E (Aa E))) E (Bj E E (Aa E))) E (Bj E E (Aa E))
    first | refine A8 (Aa E) ?_ | refine A8 (Ak (Aa E) (vbool (decide_eq_true c36))) ?_
    refine Ag (Ab (y_ (Ad Aj) (Af (Ae (Ay (Al (Az E (.tmp (Aa E) .nil) ?_))))) E))
    exact ⟨_, ⟨vbool (by rw [hf]), rfl⟩, sbt⟩
   ·have e3 : decide (¬ m.acc.length = m.rows.length) = false := decide_eq_false (by omega)
    refine o_y E (Bc (T E) Dl) (o_y E (Ai (T E) isAgg25 (by first | exact c_o)) ?_ E (Ao E E (Aa E))) E (Ao E E (Aa E))
    refine o_y E (Av (.cons (T E) .nil) call60 (fun H' hs => srtS_s m.names m.q1 m.c1 (hm.a1.mono (List.Sublist.trans sbt hs)) hl1)) ?_ E (Ao E E (Aa E))
    first | refine o_y E (Ca (T E)) ?_ E (Ao E E (Aa E)) | refine o_y E (Co (T E)) ?_ E (Ao E E (Aa E))
    refine o_y E (Au (T E) (T E)) (o_y E (Ac (T E)) ?_ E Ah) E Ah
    first | refine Cy (s := 26) (Aa E) (fun c26 => ?_) (fun c26 => ?_) | refine Dx (s := 26) (Aa E) (fun c26 => ?_) (fun c26 => ?_)
    ·have hf : chkI m = false := by unfold chkI; rw [e1, e2, e3, show isSrt m.names = false from decide_eq_false c26]; rfl
     refine o_n E (o_n E (o_n E (o_n E (o_n E (o_nf E (o_nf E (o_n E (o_n E (o_y E (Aq (T E) Aj) (Bx E (Af (Ae (Bh [(1, _), (3, _), (36, _)] ⟨Aa E, Aa E, Aa E, trivial⟩ ?_)))) E Ah) E (Bj E E (Aa E))) E (Bj E E (Aa E))) E (Bj E E (Aa E))) E (Bj E E (Aa E))) E (Bj E E (Aa E))) E (Bj E E (Aa E))) E (Bj E E (Aa E))) E (Bj E E (Aa E))) E (Bj E E (Aa E))
     first | refine A8 (Aa E) ?_ | refine A8 (Ak (Aa E) (vbool (decide_eq_true c36))) ?_
     refine Ag (Ab (y_ (Ad Aj) (Af (Ae (Ay (Al (Az E (.tmp (Aa E) .nil) ?_))))) E))
     exact ⟨_, ⟨vbool (by rw [hf]), rfl⟩, sbt⟩
    ·have e4 : isSrt m.names = true := decide_eq_true (Decidable.not_not.1 c26)
     refine o_y E (Bc (T E) Dl) (o_y E (Ai (T E) isAgg25 (by first | exact c_o)) ?_ E (Ao E E (Aa E))) E (Ao E E (Aa E))
     refine o_y E (Bc (T E) Dl) (o_y E (Ai (T E) isAgg25 (by first | exact c_o)) ?_ E (Ao E E (Aa E))) E (Ao E E (Aa E))
     refine o_y E (Bp (T E) runUnderlying25) (o_e E (A1 (.cons (T E) .nil) call62 (clone_s m.names m.q1 m.c1 (hm.a1.mono sbt) hl1)) ?_ E (Ao E E (Aa E))) E (Ao E E (Aa E))
     rintro _ _ ⟨d, ⟨rfl, hd⟩, rfl⟩
     refine ⟨sbt, (o_e E (A1 (.cons (T E) .nil) call61 ((compactB_s d m.names hd (by omega)).toD)) ?_ E (Ao E E (Aa E)))⟩
     rintro _ _ ⟨d2, ⟨rfl, hd2⟩, rfl⟩
     refine ⟨sbt, (o_y E (Bp (T E) runUnderlying25) (o_y E (Cu (T E) (T E)) (o_y E (Au (T E) (T E)) (Bx E (Af (Ae (Bh [(1, _), (3, _), (36, _)] ⟨Aa E, Aa E, Aa E, trivial⟩ ?_)))) E Ah) E (Ao E E (Aa E))) E (Ao E E (Aa E)))⟩
     first | refine Ar (Aa E) (fun c36 => ?_) (fun c36 => ?_) | refine A6 (Aa E) (fun c36 => ?_) (fun c36 => ?_)
     ·have hf : chkI m = false := by unfold chkI; rw [e1, e2, e3, e4, decide_eq_true (show ¬ (cptB m.names).length = m.names.length by omega)]; rfl
      refine Ag (Ab (y_ (Ad Aj) (Af (Ae (Ay (Al (Az E (.tmp (Aa E) .nil) ?_))))) E))
      exact ⟨_, ⟨vbool (by rw [hf]), rfl⟩, sbt⟩
     ·have e5 : decide (¬ (cptB m.names).length = m.names.length) = false := decide_eq_false (by omega)
      have hf : chkI m = !(m.rows.any fun r => badRow m.names.length m.rows.length r.l) := by unfold chkI; rw [e1, e2, e3, e4, e5]; rfl
      refine A2 (Ae (Ag (Ab (y_ (Bi (T E) Cv) (y_ (Ai (T E) isAgg26 (by first | exact c_o)) ?_ E) E))))
      refine y_ (Cj (.cons (T E) (.cons (T E) .nil))) ?_ E
      refine y_ (Av (.cons (T E) (.cons (T E) .nil)) call63 (fun H' hs => cf63_s m (hm.mono (List.Sublist.trans sbt hs)) m.rows.length n1 n3 (Fnd.mono (by repeat (first | exact By | refine As ?_ | refine Bd ?_)) hs) (Fnd.mono (by repeat (first | exact By | refine As ?_ | refine Bd ?_)) hs))) ?_ E
      first | refine Ax (Ca (T E)) E Ah ?_ | refine Ax (Co (T E)) E Ah ?_
      refine y_ (Ad (T E)) (Af (Ae (Ay (Az E (.tmp (Aa E) .nil) ?_)))) E
      exact ⟨_, ⟨vbool (by rw [hf]), rfl⟩, sbt⟩
end Go.Proofs.YtkdolgnpkjihpaaGreatDoor
namespace Go.Proofs.YtkdolgnpkjihpaaGreatDoor
open _root_.Go.Proofs.Tryz
open Go.RowKit
set_option linter.unusedVariables false
set_option linter.unusedSimpArgs false
def insS (s : ByteArray) : List ByteArray → List ByteArray
 | [] => [s]
 | x :: l => if toL s < toL x then s :: x :: l else if toL s = toL x then x :: l else x :: insS s l
def csC (l : List ByteArray) : List ByteArray := l.foldr insS []
theorem toL_inj {a b : ByteArray} (h : toL a = toL b) : a = b := by
 have : ofL (toL a) = ofL (toL b) := by rw [h]
 exact ByteArray.ext (by simpa using this)
theorem insS_mem {s y : ByteArray} : ∀ {l : List ByteArray}, y ∈ insS s l ↔ y = s ∨ y ∈ l
 | [] => by simp [insS]
 | x :: l => by
  unfold insS
  split
  ·simp
  ·split
   ·rename_i h; have := toL_inj h; subst this; simp
   ·simp only [List.mem_cons, insS_mem]
    constructor
    ·rintro (h | h | h) <;> simp [h]
    ·rintro (h | h | h) <;> simp [h]
theorem insS_srt {s : ByteArray} : ∀ {l : List ByteArray}, Srt l → Srt (insS s l)
 | [], _ => List.pairwise_singleton ..
 | x :: l, h => by
  unfold insS
  have h' := List.pairwise_cons.1 h
  split
  ·rename_i hlt
   exact List.pairwise_cons.2 ⟨fun y hy => by
    rcases List.mem_cons.1 hy with rfl | hy
    ·exact hlt
    ·exact ltU_trans hlt (h'.1 y hy), h⟩
  ·split
   ·exact h
   ·rename_i h1 h2
    refine List.pairwise_cons.2 ⟨fun y hy => ?_, insS_srt h'.2⟩
    rcases insS_mem.1 hy with rfl | hy
    ·rcases leU_total (toL x) (toL y) with h3 | h3
     ·exact (leU_or h3).resolve_right fun e => h2 e.symm
     ·exact absurd ((leU_or h3).resolve_right h2) h1
    ·exact h'.1 y hy
theorem csC_mem {y : ByteArray} : ∀ {l : List ByteArray}, y ∈ csC l ↔ y ∈ l
 | [] => by simp [csC]
 | x :: l => by rw [show csC (x :: l) = insS x (csC l) from rfl, insS_mem, csC_mem]; simp
theorem csC_srt : ∀ {l : List ByteArray}, Srt (csC l)
 | [] => .nil
 | x :: l => insS_srt csC_srt
theorem ltU_ne {a b : List UInt8} (h : a < b) : ¬ b < a := fun h2 => absurd (ltU_trans h h2) (List.lt_irrefl a)
theorem srt_ext : ∀ {l l' : List ByteArray}, Srt l → Srt l' → (∀ x, x ∈ l ↔ x ∈ l') → l = l'
 | [], [], _, _, _ => rfl
 | [], y :: l', _, _, h => absurd ((h y).2 (by simp)) (by simp)
 | x :: l, [], _, _, h => absurd ((h x).1 (by simp)) (by simp)
 | x :: l, y :: l', h1, h2, h => by
  have p1 := List.pairwise_cons.1 h1
  have p2 := List.pairwise_cons.1 h2
  have e : x = y := by
   rcases List.mem_cons.1 ((h x).1 (by simp)) with e | e
   ·exact e
   ·rcases List.mem_cons.1 ((h y).2 (by simp)) with e2 | e2
    ·exact e2.symm
    ·exact absurd (p1.1 y e2) (ltU_ne (p2.1 x e))
  subst e
  rw [srt_ext p1.2 p2.2 fun z => ?_]
  constructor
  ·intro hz
   rcases List.mem_cons.1 ((h z).1 (List.mem_cons_of_mem _ hz)) with e | e
   ·subst e; exact absurd (p1.1 z hz) (List.lt_irrefl _)
   ·exact e
  ·intro hz
   rcases List.mem_cons.1 ((h z).2 (List.mem_cons_of_mem _ hz)) with e | e
   ·subst e; exact absurd (p2.1 z hz) (List.lt_irrefl _)
   ·exact e
theorem letF_eq (e : Re) : letF e = csC e.nms := srt_ext (letF_srt e) csC_srt fun x => by rw [letF_mem, csC_mem]
def rawC (e : Re) : Option (List (List Nat) × List Bool) := rawGo (addF e t00).1 (addF e t00).2 (csC e.nms) 201 0 [s00] [] []
theorem rawF_eq (e : Re) : rawF e = rawC e := by unfold rawF rawC; rw [letF_eq]
def buildC (e : Re) : PM × Int := match rawC e with
 | none => (⟨[], [], []⟩, 2)
 | some r => (⟨csC e.nms, (leastF ⟨csC e.nms, r.1, r.2⟩).next, (leastF ⟨csC e.nms, r.1, r.2⟩).acc⟩, 0)
theorem buildF_eq (e : Re) : buildF leastF e = buildC e := by unfold buildF buildC; rw [rawF_eq, letF_eq]; cases rawC e <;> rfl
def allC (a b : Re) : List ByteArray := csC (Re.alt a b).nms ++ [otherF (csC (Re.alt a b).nms)]
def eqC (a b : Re) : List ByteArray × Bool × List Pl := srF (stepsF (buildC a).1 (buildC b).1 (allC a b)) (difF (buildC a).1 (buildC b).1) ((buildC a).1.next.length * (buildC b).1.next.length) (0, 0)
def equalC (a b : Re) : List ByteArray × Bool × Int := if (buildC a).2 = 0 ∧ (buildC b).2 = 0 then ((eqC a b).1, !(eqC a b).2.1, 0) else ([], false, 2)
theorem equalF_eq (a b : Re) : equalF a b = equalC a b := by unfold equalF equalC eqR eqC allF allC; rw [buildF_eq, buildF_eq, letF_eq]
def sa : ByteArray := ⟨#[97]⟩
def sb' : ByteArray := ⟨#[98]⟩
def sc : ByteArray := ⟨#[99]⟩
def sd : ByteArray := ⟨#[100]⟩
def soth : ByteArray := ⟨#[111, 116, 104, 101, 114]⟩
def sany : Re := .star .any
def sX : Re := .seq (.seq (.seq (.nod sa) sany) (.nod sc)) sany
def sM : PM := ⟨[sa, sc], [[1, 2, 2], [1, 3, 1], [2, 2, 2], [3, 3, 3]], [false, false, false, true]⟩
theorem sX_build : buildF leastF sX = (sM, 0) := by rw [buildF_eq]; kernel_rfl
theorem sA_build : (buildF leastF sany) = (⟨[], [[0]], [true]⟩, 0) := by rw [buildF_eq]; kernel_rfl
theorem sE1 : equalF (.star (.alt (.nod sa) (.nod sb'))) (.star (.seq (.star (.nod sa)) (.star (.nod sb')))) = ([], true, 0) := by rw [equalF_eq]; kernel_rfl
theorem sE2 : equalF (.seq (.nod sa) .any) (.seq .any (.nod sa)) = ([sa, soth], false, 0) := by rw [equalF_eq]; kernel_rfl
theorem sM1 : matchF sX [sa, sc] = true := by kernel_rfl
theorem sM2 : matchF sX [sa, sb', sd] = false := by kernel_rfl
theorem sO : otherF [sa, soth] = ⟨#[111, 116, 104, 101, 114, 49]⟩ := by kernel_rfl
theorem sR : runM sM [sa, sc] = 3 := by kernel_rfl
end Go.Proofs.YtkdolgnpkjihpaaGreatDoor
namespace Go.Proofs.YtkdolgnpkjihpaaGreatDoor
open _root_.Go.Proofs.Tryz
open Go.RowKit
set_option linter.unusedVariables false
set_option linter.unusedSimpArgs false
theorem bEq_iff (a b : ByteArray) : (a.toList == b.toList) = decide (a = b) := by
 rw [ByteArray.toList_eq, ByteArray.toList_eq]
 refine Bool.eq_iff_iff.2 ?_
 rw [beq_iff_eq, decide_eq_true_iff]
 exact ⟨fun h => ByteArray.ext (Array.ext' h), fun h => by rw [h]⟩
theorem mtch_eq (t : Tr) (s : ByteArray) (n : Nat) : mtch t s n = (decide (gd t.names n = s) || decide (gd t.names n = ⟨#[]⟩)) := by
 unfold mtch; rw [bEq_iff, bEq_iff]
theorem stepK_fst (t : Tr) (s : ByteArray) (can n : Nat) : ∀ i, (stepK t s can i).1.testBit n = (decide (n < i) && (can.testBit n && mtch t s n))
 | 0 => by simp [stepK]
 | i + 1 => by
  rw [stepK_succ]
  split
  ·rename_i h
   rw [Nat.testBit_or, stepK_fst t s can n i, Nat.testBit_two_pow]
   by_cases e : i = n
   ·subst e; simp [h]
   ·have : (n < i + 1) = (n < i) := by simp; omega
    simp [e, this]
  ·rename_i h
   rw [stepK_fst t s can n i]
   by_cases e : i = n
   ·subst e; simp at h; simp; intro h1; simp [h h1]
   ·have : (n < i + 1) = (n < i) := by simp; omega
    simp [this]
theorem stepK_snd (t : Tr) (s : ByteArray) (can x : Nat) : ∀ i, (∀ n, n < i → x.testBit n = (can.testBit n && mtch t s n)) → (stepK t s can i).2 = orK t.fol x i
 | 0, _ => rfl
 | i + 1, h => by
  rw [stepK_succ, orK_succ, h i (by omega), ← stepK_snd t s can x i fun n hn => h n (by omega)]
  split <;> rfl
theorem stepK_snd' (t : Tr) (s : ByteArray) (can : Nat) : (stepK t s can 256).2 = orK t.fol (stepK t s can 256).1 256 :=
 stepK_snd t s can _ 256 fun n hn => by rw [stepK_fst]; simp [hn]
theorem lett_no {names : List ByteArray} {s : ByteArray} (hs : s ∉ names) : lett names s = names.length := by
 unfold lett
 split
 ·rename_i h
  exact absurd (toL_inj h.2 ▸ Bg h.1) hs
 ·rfl
def Re.lvs : Re → List ByteArray
 | .emp => []
 | .nod s => [s]
 | .any => [⟨#[]⟩]
 | .seq a b => a.lvs ++ b.lvs
 | .alt a b => a.lvs ++ b.lvs
 | .star a => a.lvs
theorem add_names : ∀ (e : Re) (t : Tr), (addF e t).1.names = t.names ++ e.lvs
 | .emp, t => by simp [addF, Re.lvs]
 | .nod s, t => by simp [addF, Re.lvs]
 | .any, t => by simp [addF, Re.lvs]
 | .alt a b, t => by simp only [addF, Re.lvs]; rw [add_names b, add_names a, List.append_assoc]
 | .seq a b, t => by simp only [addF, Re.lvs, conn, connK_names]; rw [add_names b, add_names a, List.append_assoc]
 | .star a, t => by simp only [addF, Re.lvs, conn, connK_names]; rw [add_names a]
structure RawSem (t : Tr) (e : En) (names : List ByteArray) (k : Nat) (l : List St) (rows : List (List Nat)) (acc : List Bool) : Prop where
 nd : l.Nodup
 fst : gd l 0 = s00 ∧ 0 < l.length
 kl : k ≤ l.length
 rl : rows.length = k
 al : acc.length = k
 row : ∀ i, i < k → ∀ a, a < names.length + 1 → gd (gd rows i) a < l.length ∧ gd l (gd (gd rows i) a) = (stepL t names (canAt t e (gd l i)) a 256, true)
 acc : ∀ i, i < k → gd acc i = accAt e i (gd l i)
theorem addSt_ext (l : List St) (s : St) : ∃ x, addSt l s = l ++ x := by
 unfold addSt; split
 ·exact ⟨[], by simp⟩
 ·exact ⟨_, rfl⟩
theorem addSt_nd {l : List St} (h : l.Nodup) (s : St) : (addSt l s).Nodup := by
 unfold addSt; split
 ·exact h
 ·rename_i hs
  exact List.nodup_append.2 ⟨h, by simp, fun a ha b hb => by simp at hb; subst hb; rintro rfl; exact hs ha⟩
theorem idx_get {α : Type} [DecidableEq α] [Inhabited α] {l : List α} {x : α} (h : x ∈ l) : gd l (idx l x) = x := by
 rw [Bv (idx_lt h)]; exact List.getElem_idxOf (idx_lt h)
theorem addSt_idx (l : List St) (s : St) : idx l s < (addSt l s).length ∧ gd (addSt l s) (idx l s) = s := by
 unfold addSt
 by_cases h : s ∈ l
 ·rw [if_pos h]
  exact ⟨idx_lt h, idx_get h⟩
 ·rw [if_neg h, idx_not h]
  exact ⟨by simp, C0⟩
theorem rowF_sem (t : Tr) (names : List ByteArray) (can : Nat) {l : List St} (hl : l.Nodup) : ∀ a, (rowF t names can l a).1.Nodup ∧ (∃ x, (rowF t names can l a).1 = l ++ x) ∧ (rowF t names can l a).2.length = a ∧ ∀ j, j < a → gd (rowF t names can l a).2 j < (rowF t names can l a).1.length ∧ gd (rowF t names can l a).1 (gd (rowF t names can l a).2 j) = (stepL t names can j 256, true)
 | 0 => ⟨hl, ⟨[], by simp [rowF]⟩, rfl, fun j hj => by omega⟩
 | a + 1 => by
  obtain ⟨h1, ⟨x, h2⟩, h3, h4⟩ := rowF_sem t names can hl a
  rw [rowF_succ]
  obtain ⟨y, hy⟩ := addSt_ext (rowF t names can l a).1 (stepL t names can a 256, true)
  refine ⟨addSt_nd h1 _, ⟨x ++ y, by simp only []; rw [hy, h2, List.append_assoc]⟩, by simp [h3], fun j hj => ?_⟩
  simp only []
  by_cases e : j = a
  ·subst e
   rw [show gd ((rowF t names can l j).2 ++ [idx (rowF t names can l j).1 (stepL t names can j 256, true)]) j = idx (rowF t names can l j).1 (stepL t names can j 256, true) by
    have := C0 (l := (rowF t names can l j).2) (x := idx (rowF t names can l j).1 (stepL t names can j 256, true))
    rwa [h3] at this]
   exact addSt_idx _ _
  ·have hj' : j < a := by omega
   obtain ⟨h5, h6⟩ := h4 j hj'
   rw [Cp (by rw [h3]; exact hj')]
   rw [hy, Cp h5]
   exact ⟨by simp; omega, h6⟩
theorem RawSem.next {t : Tr} {e : En} {names : List ByteArray} {k : Nat} {l : List St} {rows : List (List Nat)} {acc : List Bool} (h : RawSem t e names k l rows acc) (hk : k < l.length) :
  RawSem t e names (k + 1) (rowF t names (canAt t e (gd l k)) l (names.length + 1)).1 (rows ++ [(rowF t names (canAt t e (gd l k)) l (names.length + 1)).2]) (acc ++ [accAt e k (gd l k)]) := by
 obtain ⟨h1, ⟨x, h2⟩, h3, h4⟩ := rowF_sem t names (canAt t e (gd l k)) h.nd (names.length + 1)
 generalize (rowF t names (canAt t e (gd l k)) l (names.length + 1)) = q at *
 obtain ⟨q1, q2⟩ := q
 simp only [] at *
 subst h2
 refine ⟨h1, ⟨by rw [Cp h.fst.2]; exact h.fst.1, by have := h.fst.2; simp; omega⟩, by simp; omega, by simp [h.rl], by simp [h.al], fun i hi a ha => ?_, fun i hi => ?_⟩
 ·rw [Cp (l := l) (by omega : i < l.length)]
  by_cases ei : i = k
  ·subst ei
   have : gd (rows ++ [q2]) i = q2 := by have := C0 (l := rows) (x := q2); rwa [h.rl] at this
   rw [this]
   exact h4 a ha
  ·have : gd (rows ++ [q2]) i = gd rows i := Cp (by rw [h.rl]; omega)
   rw [this]
   obtain ⟨h5, h6⟩ := h.row i (by omega) a ha
   exact ⟨by simp; omega, by rw [Cp h5]; exact h6⟩
 ·rw [Cp (l := l) (by omega : i < l.length)]
  by_cases ei : i = k
  ·subst ei
   have := C0 (l := acc) (x := accAt e i (gd l i)); rwa [h.al] at this
  ·rw [Cp (by rw [h.al]; omega)]
   exact h.acc i (by omega)
end Go.Proofs.YtkdolgnpkjihpaaGreatDoor
