/-
  A part of what LawP rests on: the logic, walks and plain laws. No condition.
-/
import Derived.Test.YtkdolgnpkjihpaaGreatDoorJP5
import Derived.Test.YtkdolgnpkjihpaaGreatDoorRows
import Derived.WalkKit
import Derived.ProofKit
import Derived.OpenShut
import Derived.Lib.SmallJoins
import Derived.Deep.SlicePairs
import Derived.Test.YtkdolgnpkjihpaaGreatDoorCards
import Derived.Test.YtkdolgnpkjihpaaGreatDoorTie
import Derived.Deep.DeepHandedRow
namespace Go.Proofs.YtkdolgnpkjihpaaGreatDoor
open _root_.Go.Proofs.Tryz
open Go.RowKit
set_option linter.unusedVariables false
set_option linter.unusedSimpArgs false
def sgR (m : PM) (b : List Nat) (i : Nat) : List Nat := gd b i :: (gd m.next i).map (gd b)
def sgK (m : PM) (b : List Nat) : Nat → List (List Int) × List Nat
 | 0 => ([], [])
 | i + 1 => (addL (sgK m b i).1 (toInts (sgR m b i)), (sgK m b i).2 ++ [idx (sgK m b i).1 (toInts (sgR m b i))])
theorem sgK_succ (m : PM) (b : List Nat) (i : Nat) : sgK m b (i + 1) = (addL (sgK m b i).1 (toInts (sgR m b i)), (sgK m b i).2 ++ [idx (sgK m b i).1 (toInts (sgR m b i))]) := rfl
theorem sgK_len (m : PM) (b : List Nat) : ∀ i, (sgK m b i).2.length = i ∧ (sgK m b i).1.length ≤ i
 | 0 => ⟨rfl, Nat.le_refl _⟩
 | i + 1 => by
  obtain ⟨h1, h2⟩ := sgK_len m b i
  rw [sgK_succ]
  refine ⟨by simp [h1], ?_⟩
  simp only [addL]; split
  ·omega
  ·simp; omega
def clR (m : PM) : Nat → List Nat → Nat → List Nat
 | 0, b, _ => b
 | f + 1, b, c => if c < (sgK m b m.next.length).1.length then clR m f (sgK m b m.next.length).2 (sgK m b m.next.length).1.length else (sgK m b m.next.length).2
theorem clR_succ (m : PM) (f : Nat) (b : List Nat) (c : Nat) : clR m (f + 1) b c = if c < (sgK m b m.next.length).1.length then clR m f (sgK m b m.next.length).2 (sgK m b m.next.length).1.length else (sgK m b m.next.length).2 := rfl
def classesR (m : PM) : List Nat := clR m 201 (initB m) 0
theorem classes_s {w0 : World} {H : List (Nat × Obj)} (m : Mc) (hm : McOk w0 H m) (hp : PMok m.pl) (hnl : m.names.length ≤ 90001) :
  FSpec Tryz.prog w0 110 #[.agg (encMc m).toArray] H (fun v H' => ∃ (q : Option Addr) (c : Nat) (M : List (Nat × Obj)), (v = .slice q m.rows.length c ∧ (classesR m.pl).length = m.rows.length ∧ Arr w0 (M ++ H) q 1 encU (classesR m.pl)) ∧ H' = M ++ H) := by
 refine A8 Tryz.func110 U ntmps110 U ?_
 have hf := hp.few
 have hfl : m.pl.next.length = m.rows.length := List.length_map ..
 have hs := hp.some'
 have hal : m.acc.length = m.rows.length := by have := hp.acc; rw [hfl] at this; exact this
 refine Ag (Ab (e_ (Bi (T U) cs_) ?_ U))
 rintro _ _ ⟨n1, rfl, rfl⟩
 refine y_ (Ad Ak) (Af (Ae (Ag (Ab (y_ (Be (T U) Ck) (y_ (Aj (T U) isAgg26 (by first | exact c_o)) ?_ U) U))))) U
 refine y_ (Bm (T U) runUnderlying26) (e_ (eff_makeSlice (by' := 8) (k := m.rows.length) (T U) runUnderlying42 sizeOf3 typeInfo3 U zeroValue3 U (by omega) (by omega)) ?_ U) U
 rintro _ _ ⟨n16, rfl, rfl⟩
 refine y_ (Ad (T U)) (Af (Ae (Ag (Ag (Ab (y_ (Ad Ak) (Af (Ae (Au ?_))) U)))))) U
 refine Cc (X := Nat) (V := fun k => [(4, .int .i64 (k : Nat))]) (C := [(1, _), (3, _)]) (G := fun k => (n16, Cl (((m.acc.take k).map bit).flatMap encU ++ List.replicate (m.rows.length - ((m.acc.take k).map bit).length) (.int .i64 0)) 3) :: (n1, Cl (encMc m) 29) :: H) (φ := fun k => k ≤ m.rows.length) (μ := fun k => m.rows.length - k) (x0 := 0) ?_ ⟨Aa U, Aa U, trivial⟩ ⟨(by first | exact Aa U | (refine Ai (Aa U) (vint ?_); omega) | (refine Ai (Aa U) ?_; simp; done) | (refine Ai (Aa U) ?_; exact by rw [hsg]) | (refine Ai (Aa U) ?_; exact by rw [hSl]; exact vbool (decide_eq_decide.2 Int.ofNat_lt)) | (refine Ai (Aa U) ?_; exact by rw [hSl])), trivial⟩ sb0 ?_
 ·exact Nat.zero_le _
 rintro k hk
 refine Ag (Ag (Ab (y_ (Ac (T U)) (y_ (Ac (T U)) (y_ (Bm (T U) runUnderlying42) (y_ (Bz (T U) (T U)) (Af (Ae ?_)) U) U) U) U)))
 first | refine Ao (Aa U) (fun c20 => ?_) (fun c20 => ?_) | refine A3 (Aa U) (fun c20 => ?_) (fun c20 => ?_)
 ·have hkl : k < m.rows.length := by omega
  have hbt := bit_take (l := m.acc) (k := k) (by omega)
  refine A2 (Ae (Ag (Au (Ag (Ab (y_ (Be (T U) C5) (y_ (Aj (T U) isAgg27 (by first | exact c_o)) ?_ U) U))))))
  refine y_ (Ac (T U)) (y_ (Bb (T U) (T U) runUnderlying27 sizeOf4 (by omega) (by first | exact rfl | exact hm.a3.b (i := k) (by omega) | exact hbA.b (i := i) (by omega) | exact hm.a2.b (i := i) (by omega) | exact (hm.r (gd m.rows i) (Az (by omega))).b (i := a) (by omega) | exact hbA.b (i := gd (gd m.rows i).l a) (by omega))) ?_ U) U
  refine y_ (Aj (T U) isAgg4 (by first | exact c_o | exact cell1 ((hm.a3.mono sbt).cs (i := k) (by omega)))) ?_ U
  refine Af (Ae ?_)
  first | refine Ao (Aa U) (fun c27 => ?_) (fun c27 => ?_) | refine A3 (Aa U) (fun c27 => ?_) (fun c27 => ?_)
  ·have hbit : ((m.acc.take (k + 1)).map bit) = ((m.acc.take k).map bit) ++ [1] := by rw [hbt, c27]; rfl
   refine Ab (y_ (Ac (T U)) (y_ (Ac (T U)) (y_ (Bb (T U) (T U) runUnderlying42 sizeOf3 (by omega) (by first | exact rfl | exact hm.a3.b (i := k) (by omega) | exact hbA.b (i := i) (by omega) | exact hm.a2.b (i := i) (by omega) | exact (hm.r (gd m.rows i) (Az (by omega))).b (i := a) (by omega) | exact hbA.b (i := gd (gd m.rows i).l a) (by omega))) ?_ U) U) U)
   refine e_ (eff_sRow (m := m.rows.length) (v := 1) ((m.acc.take k).map bit) (by simp; omega) (T U) Ak sizeOf3 (by simp; omega) (by (repeat (first | exact Upd.h | apply Upd.t | apply D8)); done)) ?_ U
   rintro _ _ ⟨rfl, rfl⟩
   refine Af (Bl (Ae (Ab (y_ (Ac (T U)) (y_ (Bu (T U) Ak (by omega)) ?_ U) U))))
   refine y_ (Ad (T U)) (Af ?_) U
   refine Bo (k + 1) ?_ ?_ ⟨(by first | exact Aa U | (refine Ai (Aa U) (vint ?_); omega) | (refine Ai (Aa U) ?_; simp; done) | (refine Ai (Aa U) ?_; exact by rw [hsg]) | (refine Ai (Aa U) ?_; exact by rw [hSl]; exact vbool (decide_eq_decide.2 Int.ofNat_lt)) | (refine Ai (Aa U) ?_; exact by rw [hSl])), trivial⟩ ⟨Aa U, Aa U, trivial⟩ ?_
   ·show k + 1 ≤ _; omega
   ·first | omega | (simp only []; omega)
   ·simp only [hbit, List.length_append, List.length_cons, List.length_nil, Nat.zero_add]; exact sbt
  ·have hbit : ((m.acc.take (k + 1)).map bit) = ((m.acc.take k).map bit) ++ [0] := by rw [hbt, c27]; rfl
   rw [row_zero ((m.acc.take k).map bit) m.rows.length (by simp; omega)]
   refine A2 (Bl (Ae (Ab (y_ (Ac (T U)) (y_ (Bu (T U) Ak (by omega)) ?_ U) U))))
   refine y_ (Ad (T U)) (Af ?_) U
   refine Bo (k + 1) ?_ ?_ ⟨(by first | exact Aa U | (refine Ai (Aa U) (vint ?_); omega) | (refine Ai (Aa U) ?_; simp; done) | (refine Ai (Aa U) ?_; exact by rw [hsg]) | (refine Ai (Aa U) ?_; exact by rw [hSl]; exact vbool (decide_eq_decide.2 Int.ofNat_lt)) | (refine Ai (Aa U) ?_; exact by rw [hSl])), trivial⟩ ⟨Aa U, Aa U, trivial⟩ ?_
   ·show k + 1 ≤ _; omega
   ·first | omega | (simp only []; omega)
   ·simp only [hbit, List.length_append, List.length_cons, List.length_nil, Nat.zero_add]; exact sbt
 ·have hk2 : k = m.rows.length := by omega
  have e1 : ((m.acc.take k).map bit) = initB m.pl := by rw [hk2, ← hal, List.take_length]; rfl
  have e2 : (initB m.pl).length = m.rows.length := by unfold initB; rw [List.length_map]; exact hal
  simp only [e1, e2, Nat.sub_self, List.replicate_zero, List.append_nil]
  refine B1 (Ay (A0 (A1 (Ae (Ag (Ab (y_ (Ad Ak) (Af (Ae (Ag (Ag (Ab (y_ (Ad Ak) (Af (Ae (Au ?_))) U)))))) U)))))))
  refine Cc (X := Nat × List Nat × Nat × Bool × Option Addr × Nat × List (Nat × Obj)) (V := fun ⟨f, b, cnt, more, qb, cb, M⟩ => [(3, .slice qb m.rows.length cb), (5, .int .i64 (cnt : Nat)), (6, .bool more)]) (C := [(1, _)]) (G := fun ⟨f, b, cnt, more, qb, cb, M⟩ => M ++ ((n1, Cl (encMc m) 29) :: H)) (φ := fun ⟨f, b, cnt, more, qb, cb, M⟩ => b.length = m.rows.length ∧ Arr w0 (M ++ H) qb 1 encU b ∧ (more = true → clR m.pl f b cnt = classesR m.pl ∧ cnt ≤ m.rows.length ∧ 201 ≤ f + cnt) ∧ (more = false → b = classesR m.pl)) (μ := fun ⟨f, b, cnt, more, qb, cb, M⟩ => bif more then f + 1 else 0) (x0 := (201, initB m.pl, 0, true, some ⟨n16, 0, none⟩, m.rows.length, [(n16, Cl ((initB m.pl).flatMap encU) 3)])) ?_ ⟨Aa rfl, trivial⟩ ⟨(by first | exact Aa rfl | (refine Ai (Aa rfl) (vint ?_); omega) | (refine Ai (Aa rfl) ?_; simp; done) | (refine Ai (Aa rfl) ?_; exact by rw [hsg]) | (refine Ai (Aa rfl) ?_; exact by rw [hSl]; exact vbool (decide_eq_decide.2 Int.ofNat_lt)) | (refine Ai (Aa rfl) ?_; exact by rw [hSl])), (by first | exact Aa rfl | (refine Ai (Aa rfl) (vint ?_); omega) | (refine Ai (Aa rfl) ?_; simp; done) | (refine Ai (Aa rfl) ?_; exact by rw [hsg]) | (refine Ai (Aa rfl) ?_; exact by rw [hSl]; exact vbool (decide_eq_decide.2 Int.ofNat_lt)) | (refine Ai (Aa rfl) ?_; exact by rw [hSl])), (by first | exact Aa rfl | (refine Ai (Aa rfl) (vint ?_); omega) | (refine Ai (Aa rfl) ?_; simp; done) | (refine Ai (Aa rfl) ?_; exact by rw [hsg]) | (refine Ai (Aa rfl) ?_; exact by rw [hSl]; exact vbool (decide_eq_decide.2 Int.ofNat_lt)) | (refine Ai (Aa rfl) ?_; exact by rw [hSl])), trivial⟩ sb0 ?_
  ·exact ⟨e2, Cx (fun _ => rfl) U Bt, fun _ => ⟨rfl, Nat.zero_le _, Nat.le_refl _⟩, fun h => by cases h⟩
  rintro ⟨f, b, cnt, more, qb, cb, M⟩ ⟨hbl, hbA, hmt, hmf⟩
  refine Ag (Ag (Ab (y_ (Ac (T U)) (Af (Ae ?_)) U)))
  first | refine Ao (Aa U) (fun c31 => ?_) (fun c31 => ?_) | refine A3 (Aa U) (fun c31 => ?_) (fun c31 => ?_)
  ·subst c31
   obtain ⟨hcl, hcn, hfc⟩ := hmt rfl
   obtain ⟨f, rfl⟩ : ∃ g, f = g + 1 := ⟨f - 1, by omega⟩
   refine A2 (Ae (Au (Ag (Ab (y_ (Ad Ak) (Af (Ae (Ag (Ab (y_ (Ac (T U)) (y_ (Bm (T U) runUnderlying42) (e_ (eff_makeSlice (by' := 8) (k := m.rows.length) (T U) runUnderlying42 sizeOf3 typeInfo3 U zeroValue3 U (by omega) (by omega)) ?_ U) U) U))))) U)))))
   rintro _ _ ⟨n34, rfl, rfl⟩
   refine y_ (Ad (T U)) (Af (Ae (Ag (Ag (Ab (y_ (Ad Ak) (Af (Ae (Au ?_))) U)))))) U
   refine Cc (X := Nat × List RowI × Sl × List (Nat × Obj)) (V := fun ⟨i, S, d7, Ma⟩ => [(9, .int .i64 (i : Nat)), (7, slV d7 S.length)]) (C := [(1, _), (3, _), (5, _), (8, _)]) (G := fun ⟨i, S, d7, Ma⟩ => Ma ++ (slH d7 (S.flatMap encRI) 42 ++ ((n34, Cl ((sgK m.pl b i).2.flatMap encU ++ List.replicate (m.rows.length - (sgK m.pl b i).2.length) (.int .i64 0)) 3) :: (M ++ ((n1, Cl (encMc m) 29) :: H))))) (φ := fun ⟨i, S, d7, Ma⟩ => i ≤ m.rows.length ∧ S.map RowI.l = (sgK m.pl b i).1 ∧ SlOk d7 S.length 1 ∧ ∀ r ∈ S, Arr w0 (Ma ++ H) r.q 1 encI r.l ∧ r.l.length ≤ 100000) (μ := fun ⟨i, S, d7, Ma⟩ => m.rows.length - i) (x0 := (0, [], .nil, [])) ?_ ⟨Aa rfl, Aa rfl, Aa rfl, Aa rfl, trivial⟩ ⟨(by first | exact Aa rfl | (refine Ai (Aa rfl) (vint ?_); omega) | (refine Ai (Aa rfl) ?_; simp; done) | (refine Ai (Aa rfl) ?_; exact by rw [hsg]) | (refine Ai (Aa rfl) ?_; exact by rw [hSl]; exact vbool (decide_eq_decide.2 Int.ofNat_lt)) | (refine Ai (Aa rfl) ?_; exact by rw [hSl])), (by first | exact Aa rfl | (refine Ai (Aa rfl) (vint ?_); omega) | (refine Ai (Aa rfl) ?_; simp; done) | (refine Ai (Aa rfl) ?_; exact by rw [hsg]) | (refine Ai (Aa rfl) ?_; exact by rw [hSl]; exact vbool (decide_eq_decide.2 Int.ofNat_lt)) | (refine Ai (Aa rfl) ?_; exact by rw [hSl])), trivial⟩ sb0 ?_
   ·exact ⟨Nat.zero_le _, rfl, rfl, fun r hr => by cases hr⟩
   rintro ⟨i, S, d7, Ma⟩ ⟨hi, hSm, hd7, hSA⟩
   have hsl := sgK_len m.pl b i
   have hSl0 : S.length = (sgK m.pl b i).1.length := by rw [← hSm, List.length_map]
   refine Ag (Ag (Ab (y_ (Ac (T U)) (y_ (Ac (T U)) (y_ (Bm (T U) runUnderlying42) (y_ (Bz (T U) (T U)) (Af (Ae ?_)) U) U) U) U)))
   first | refine Ao (Aa U) (fun c38 => ?_) (fun c38 => ?_) | refine A3 (Aa U) (fun c38 => ?_) (fun c38 => ?_)
   ·have hin : i < m.rows.length := by omega
    obtain ⟨hi1, hi2⟩ := pm_row hp hin
    have hnx3 : (gd m.pl.next i).length ≤ 90002 := by rw [show m.pl.next = m.rows.map RowQ.l from rfl, gd_rows]; omega
    refine A2 (Ae (Ag (Au (Ag (Ab (y_ (Ac (T U)) (y_ (Ac (T U)) (y_ (Bb (T U) (T U) runUnderlying42 sizeOf3 (by omega) (by first | exact rfl | exact hm.a3.b (i := k) (by omega) | exact hbA.b (i := i) (by omega) | exact hm.a2.b (i := i) (by omega) | exact (hm.r (gd m.rows i) (Az (by omega))).b (i := a) (by omega) | exact hbA.b (i := gd (gd m.rows i).l a) (by omega))) ?_ U) U) U))))))
    refine y_ (Aj (T U) isAgg3 (by first | exact c_o | exact cell1 ((hbA.mono sbt).cs (i := i) (by omega)))) ?_ U
    refine e_ (Al (.cons (T U) .nil) (Cg _)) ?_ U
    rintro _ _ ⟨n45, rfl, rfl⟩
    refine y_ (Ad (T U)) (Af (Ae (Ag (Ag (Ab (y_ (Ad Ak) (Af (Ae (Au ?_))) U)))))) U
    refine Cc (X := Nat × Sl) (V := fun ⟨a, ds⟩ => [(11, .int .i64 (a : Nat)), (10, slV ds (gd b i :: ((gd m.rows i).l.take a).map (gd b)).length)]) (C := [(1, _), (3, _), (5, _), (7, _), (8, _), (9, _)]) (G := fun ⟨a, ds⟩ => slH ds ((gd b i :: ((gd m.rows i).l.take a).map (gd b)).flatMap encU) 3 ++ (Ma ++ (slH d7 (S.flatMap encRI) 42 ++ ((n34, Cl ((sgK m.pl b i).2.flatMap encU ++ List.replicate (m.rows.length - (sgK m.pl b i).2.length) (.int .i64 0)) 3) :: (M ++ ((n1, Cl (encMc m) 29) :: H)))))) (φ := fun ⟨a, ds⟩ => a ≤ (gd m.rows i).l.length ∧ SlOk ds (gd b i :: ((gd m.rows i).l.take a).map (gd b)).length 1) (μ := fun ⟨a, ds⟩ => (gd m.rows i).l.length - a) (x0 := (0, .blk n45 1 [])) ?_ ⟨Aa rfl, Aa rfl, Aa rfl, Aa rfl, Aa rfl, Aa rfl, trivial⟩ ⟨(by first | exact Aa rfl | (refine Ai (Aa rfl) (vint ?_); omega) | (refine Ai (Aa rfl) ?_; simp; done) | (refine Ai (Aa rfl) ?_; exact by rw [hsg]) | (refine Ai (Aa rfl) ?_; exact by rw [hSl]; exact vbool (decide_eq_decide.2 Int.ofNat_lt)) | (refine Ai (Aa rfl) ?_; exact by rw [hSl])), (by first | exact Aa rfl | (refine Ai (Aa rfl) (vint ?_); omega) | (refine Ai (Aa rfl) ?_; simp; done) | (refine Ai (Aa rfl) ?_; exact by rw [hsg]) | (refine Ai (Aa rfl) ?_; exact by rw [hSl]; exact vbool (decide_eq_decide.2 Int.ofNat_lt)) | (refine Ai (Aa rfl) ?_; exact by rw [hSl])), trivial⟩ sb0 ?_
    ·exact ⟨Nat.zero_le _, Nat.le_refl _, rfl⟩
    rintro ⟨a, ds⟩ ⟨ha, hds⟩
    refine Ag (Ag (Ab (y_ (Ac (T U)) (y_ (Be (T U) Ck) (y_ (Aj (T U) isAgg26 (by first | exact c_o)) ?_ U) U) U)))
    refine y_ (Ac (T U)) (y_ (Bb (T U) (T U) runUnderlying26 sizeOf42 (by omega) (by first | exact rfl | exact hm.a3.b (i := k) (by omega) | exact hbA.b (i := i) (by omega) | exact hm.a2.b (i := i) (by omega) | exact (hm.r (gd m.rows i) (Az (by omega))).b (i := a) (by omega) | exact hbA.b (i := gd (gd m.rows i).l a) (by omega))) ?_ U) U
    refine y_ (Aj (T U) isAgg42 (by first | exact c_o | exact cell1 ((hm.a2.mono sbt).cs (i := i) (by omega)))) ?_ U
    refine y_ (Bm (T U) runUnderlying42) (y_ (Bz (T U) (T U)) (Af (Ae ?_)) U) U
    first | refine Ao (Aa U) (fun c53 => ?_) (fun c53 => ?_) | refine A3 (Aa U) (fun c53 => ?_) (fun c53 => ?_)
    ·have hi3 := hi2 a (by omega)
     refine A2 (Ae (Ag (Au (Ab (y_ (Ac (T U)) (y_ (Ac (T U)) (y_ (Be (T U) Ck) (y_ (Aj (T U) isAgg26 (by first | exact c_o)) ?_ U) U) U) U)))))
     refine y_ (Ac (T U)) (y_ (Bb (T U) (T U) runUnderlying26 sizeOf42 (by omega) (by first | exact rfl | exact hm.a3.b (i := k) (by omega) | exact hbA.b (i := i) (by omega) | exact hm.a2.b (i := i) (by omega) | exact (hm.r (gd m.rows i) (Az (by omega))).b (i := a) (by omega) | exact hbA.b (i := gd (gd m.rows i).l a) (by omega))) ?_ U) U
     refine y_ (Aj (T U) isAgg42 (by first | exact c_o | exact cell1 ((hm.a2.mono sbt).cs (i := i) (by omega)))) ?_ U
     refine y_ (Ac (T U)) (y_ (Bb (T U) (T U) runUnderlying42 sizeOf3 (by omega) (by first | exact rfl | exact hm.a3.b (i := k) (by omega) | exact hbA.b (i := i) (by omega) | exact hm.a2.b (i := i) (by omega) | exact (hm.r (gd m.rows i) (Az (by omega))).b (i := a) (by omega) | exact hbA.b (i := gd (gd m.rows i).l a) (by omega))) ?_ U) U
     refine y_ (Aj (T U) isAgg3 (by first | exact c_o | exact cell1 (((hm.r (gd m.rows i) (Az (by omega))).mono sbt).cs (i := a) (by omega)))) ?_ U
     refine y_ (Bb (T U) (T U) runUnderlying42 sizeOf3 (by omega) (by first | exact rfl | exact hm.a3.b (i := k) (by omega) | exact hbA.b (i := i) (by omega) | exact hm.a2.b (i := i) (by omega) | exact (hm.r (gd m.rows i) (Az (by omega))).b (i := a) (by omega) | exact hbA.b (i := gd (gd m.rows i).l a) (by omega))) ?_ U
     refine y_ (Aj (T U) isAgg3 (by first | exact c_o | exact cell1 ((hbA.mono sbt).cs (i := gd (gd m.rows i).l a) (by omega)))) ?_ U
     refine e_ (Al (.cons (T U) .nil) (Cg _)) ?_ U
     rintro _ _ ⟨n68, rfl, rfl⟩
     refine e_ (Ch (gd b (gd (gd m.rows i).l a)) (by' := 8) (enc := encU) (l := (gd b i :: ((gd m.rows i).l.take a).map (gd b))) (by repeat (first | exact LocL.h | apply LocL.t | apply LocL.a)) (T U) (T U) runUnderlying42 runUnderlying42 sizeOf3 typeInfo3 U zeroValue3 U (fun _ => rfl) U hds (by decide) (by simp; omega)) ?_ U
     rintro _ _ ⟨ds', rfl, hds', rfl⟩
     refine y_ (Ad (T U)) (Af (Bl (Ae (Bq [(1, _), (3, _), (5, _), (7, _), (8, _), (9, _), (10, _), (11, _)] ⟨Aa U, Aa U, Aa U, Aa U, Aa U, Aa U, Aa U, Aa U, trivial⟩ (Ab (y_ (Ac (T U)) (y_ (Bu (T U) Ak (by omega)) ?_ U) U)))))) U
     refine y_ (Ad (T U)) (Af ?_) U
     have hsg : (gd b i :: ((gd m.rows i).l.take (a + 1)).map (gd b)) = (gd b i :: ((gd m.rows i).l.take a).map (gd b)) ++ [gd b (gd (gd m.rows i).l a)] := by rw [Du (by omega), List.map_append]; rfl
     refine Bo ((a + 1, ds')) ?_ ?_ ⟨(by first | exact Aa U | (refine Ai (Aa U) (vint ?_); omega) | (refine Ai (Aa U) ?_; simp; done) | (refine Ai (Aa U) ?_; exact by rw [hsg]) | (refine Ai (Aa U) ?_; exact by rw [hSl]; exact vbool (decide_eq_decide.2 Int.ofNat_lt)) | (refine Ai (Aa U) ?_; exact by rw [hSl])), (by first | exact Aa U | (refine Ai (Aa U) (vint ?_); omega) | (refine Ai (Aa U) ?_; simp; done) | (refine Ai (Aa U) ?_; exact by rw [hsg]) | (refine Ai (Aa U) ?_; exact by rw [hSl]; exact vbool (decide_eq_decide.2 Int.ofNat_lt)) | (refine Ai (Aa U) ?_; exact by rw [hSl])), trivial⟩ ⟨Aa U, Aa U, Aa U, Aa U, Aa U, Aa U, trivial⟩ ?_
     ·exact ⟨by omega, by rw [hsg]; exact hds'⟩
     ·show _ - (a + 1) < _ - a; omega
     ·simp only [hsg]; exact sbt
    ·have hsge : (gd b i :: ((gd m.rows i).l.take a).map (gd b)) = sgR m.pl b i := by rw [List.take_of_length_le (by omega)]; show _ = gd b i :: (gd (m.rows.map RowQ.l) i).map (gd b); rw [Cz hin]
     simp only [hsge] at hds ⊢
     refine B1 (Ay (A0 (A1 (Ae (Ag (Ab (y_ (Ac (T U)) (y_ (Ac (T U)) (y_ (Ax (.cons (T U) (.cons (T U) .nil)) call109 (fun H' hs => place_u S (slQ d7) (slC d7) ((Ba (w0 := w0) (enc := encRI) (sz := 1) (e := 42) (X := H) (fun _ => rfl) hd7).mono (List.Sublist.trans sbt hs)) (fun r hr => (hSA r hr).1.mono (List.Sublist.trans sbt hs)) (fun r hr => (hSA r hr).2) (by omega) (sgR m.pl b i) (slQ ds) (slC ds) ((Ba (w0 := w0) (enc := encU) (sz := 1) (e := 3) (X := H) (fun _ => rfl) hds).mono (List.Sublist.trans sbt hs)))) ?_ U) U) U)))))))
     refine y_ (Ad (T U)) (Af (Ae ?_)) U
     refine Dr (X := List RowI × Sl × List (Nat × Obj)) (V := fun ⟨S2, d8, Mb⟩ => [(7, slV d8 S2.length)]) (C := [(1, _), (3, _), (5, _), (8, _), (9, _), (12, _)]) (G := fun ⟨S2, d8, Mb⟩ => Mb ++ (slH d8 (S2.flatMap encRI) 42 ++ ((n34, Cl ((sgK m.pl b i).2.flatMap encU ++ List.replicate (m.rows.length - (sgK m.pl b i).2.length) (.int .i64 0)) 3) :: (M ++ ((n1, Cl (encMc m) 29) :: H))))) (φ := fun ⟨S2, d8, Mb⟩ => S2.map RowI.l = addL (S.map RowI.l) (toInts (sgR m.pl b i)) ∧ SlOk d8 S2.length 1 ∧ ∀ r ∈ S2, Arr w0 (Mb ++ H) r.q 1 encI r.l ∧ r.l.length ≤ 100000) ⟨Aa rfl, Aa rfl, Aa rfl, Aa rfl, Aa rfl, Aa rfl, trivial⟩ ?_ ?_
     ·refine Ag (Ab (y_ (Ac (T U)) (y_ (Ac (T U)) (y_ (Bm (T U) runUnderlying26) (y_ (Bs (T U) (T U)) (Af (Ae (Bq [(1, _), (3, _), (5, _), (7, _), (8, _), (9, _), (10, _), (12, _), (76, _)] ⟨Aa U, Aa U, Aa U, Aa U, Aa U, Aa U, Aa U, Aa U, Aa U, trivial⟩ ?_))) U) U) U) U))
      first | refine Ao (Aa U) (fun c76 => ?_) (fun c76 => ?_) | refine A3 (Aa U) (fun c76 => ?_) (fun c76 => ?_)
      ·refine Ab (y_ (Ac (T U)) (y_ (Ac (T U)) (e_ (Al (.cons (T U) .nil) (bs26_1_0 _ _ _)) ?_ U) U) U)
       rintro _ _ ⟨n79, rfl, rfl⟩
       refine e_ (Ch ((⟨slQ ds, slC ds, toInts (sgR m.pl b i)⟩ : RowI)) (by' := 24) (enc := encRI) (l := S) (by repeat (first | exact LocL.h | apply LocL.t | apply LocL.a)) (T U) (T U) runUnderlying26 runUnderlying26 sizeOf42 typeInfo42 U zeroValue42 U (fun _ => rfl) U hd7 (by decide) (by omega) (hn := by rw [rowI_u]; exact Bh)) ?_ U
       rintro _ _ ⟨d8', rfl, hok8, rfl⟩
       refine y_ (Ad (T U)) (Af ?_) U
       refine Br ((S ++ [⟨slQ ds, slC ds, toInts (sgR m.pl b i)⟩], d8', slH ds ((sgR m.pl b i).flatMap encU) 3 ++ Ma)) ?_ ⟨(by first | exact Aa U | (refine Ai (Aa U) (vint ?_); omega) | (refine Ai (Aa U) ?_; simp; done) | (refine Ai (Aa U) ?_; exact by rw [hsg]) | (refine Ai (Aa U) ?_; exact by rw [hSl]; exact vbool (decide_eq_decide.2 Int.ofNat_lt)) | (refine Ai (Aa U) ?_; exact by rw [hSl])), trivial⟩ ⟨Aa U, Aa U, Aa U, Aa U, Aa U, Aa U, trivial⟩ (by simp only [List.append_assoc]; exact sbt)
       first | exact ⟨by rw [addL_yes (by simp; omega), List.map_append]; rfl, hok8, fun r hr => by
        rcases List.mem_append.1 hr with e | e
        ·exact ⟨(hSA r e).1.mono (by rw [List.append_assoc]; exact List.sublist_append_right _ _), (hSA r e).2⟩
        ·simp at e; subst e; exact ⟨by rw [List.append_assoc]; exact arrUI (Ba (fun _ => rfl) hds), by simp [toInts, sgR, gd_rows]; omega⟩⟩ | exact ⟨by rw [addL_no (by simp; omega)], hd7, fun r e => ⟨(hSA r e).1.mono (by rw [List.append_assoc]; exact List.sublist_append_right _ _), (hSA r e).2⟩⟩
      ·refine A2 ?_
       refine Br ((S, d7, slH ds ((sgR m.pl b i).flatMap encU) 3 ++ Ma)) ?_ ⟨(by first | exact Aa U | (refine Ai (Aa U) (vint ?_); omega) | (refine Ai (Aa U) ?_; simp; done) | (refine Ai (Aa U) ?_; exact by rw [hsg]) | (refine Ai (Aa U) ?_; exact by rw [hSl]; exact vbool (decide_eq_decide.2 Int.ofNat_lt)) | (refine Ai (Aa U) ?_; exact by rw [hSl])), trivial⟩ ⟨Aa U, Aa U, Aa U, Aa U, Aa U, Aa U, trivial⟩ (by simp only [List.append_assoc]; exact sbt)
       first | exact ⟨by rw [addL_yes (by simp; omega), List.map_append]; rfl, hok8, fun r hr => by
        rcases List.mem_append.1 hr with e | e
        ·exact ⟨(hSA r e).1.mono (by rw [List.append_assoc]; exact List.sublist_append_right _ _), (hSA r e).2⟩
        ·simp at e; subst e; exact ⟨by rw [List.append_assoc]; exact arrUI (Ba (fun _ => rfl) hds), by simp [toInts, sgR, gd_rows]; omega⟩⟩ | exact ⟨by rw [addL_no (by simp; omega)], hd7, fun r e => ⟨(hSA r e).1.mono (by rw [List.append_assoc]; exact List.sublist_append_right _ _), (hSA r e).2⟩⟩
     rintro ⟨S2, d8, Mb⟩ ⟨hm2, hd8, hSA2⟩
     refine Ab (y_ (Ac (T U)) (y_ (Ac (T U)) (y_ (Ac (T U)) (y_ (Bb (T U) (T U) runUnderlying42 sizeOf3 (by omega) (by first | exact rfl | exact hm.a3.b (i := k) (by omega) | exact hbA.b (i := i) (by omega) | exact hm.a2.b (i := i) (by omega) | exact (hm.r (gd m.rows i) (Az (by omega))).b (i := a) (by omega) | exact hbA.b (i := gd (gd m.rows i).l a) (by omega))) ?_ U) U) U) U)
     refine e_ (eff_sRow (m := m.rows.length) (v := idx (S.map RowI.l) (toInts (sgR m.pl b i))) (sgK m.pl b i).2 (by omega) (T U) (T U) sizeOf3 (by omega) (by (repeat (first | exact Upd.h | apply Upd.t | apply D8)); done)) ?_ U
     rintro _ _ ⟨rfl, rfl⟩
     refine Af (Bl (Ae (Ab (y_ (Ac (T U)) (y_ (Bu (T U) Ak (by omega)) ?_ U) U))))
     refine y_ (Ad (T U)) (Af ?_) U
     have hnw : (sgK m.pl b (i + 1)).2 = (sgK m.pl b i).2 ++ [idx (S.map RowI.l) (toInts (sgR m.pl b i))] := by rw [sgK_succ, ← hSm]
     refine Bo ((i + 1, S2, d8, Mb)) ?_ ?_ ⟨(by first | exact Aa U | (refine Ai (Aa U) (vint ?_); omega) | (refine Ai (Aa U) ?_; simp; done) | (refine Ai (Aa U) ?_; exact by rw [hsg]) | (refine Ai (Aa U) ?_; exact by rw [hSl]; exact vbool (decide_eq_decide.2 Int.ofNat_lt)) | (refine Ai (Aa U) ?_; exact by rw [hSl])), (by first | exact Aa U | (refine Ai (Aa U) (vint ?_); omega) | (refine Ai (Aa U) ?_; simp; done) | (refine Ai (Aa U) ?_; exact by rw [hsg]) | (refine Ai (Aa U) ?_; exact by rw [hSl]; exact vbool (decide_eq_decide.2 Int.ofNat_lt)) | (refine Ai (Aa U) ?_; exact by rw [hSl])), trivial⟩ ⟨Aa U, Aa U, Aa U, Aa U, trivial⟩ ?_
     ·exact ⟨by omega, by rw [hm2, sgK_succ, hSm], hd8, hSA2⟩
     ·show _ - (i + 1) < _ - i; omega
     ·simp only [hnw, List.length_append, List.length_cons, List.length_nil, Nat.zero_add]; exact sbt
   ·have hi3 : i = m.rows.length := by omega
    subst hi3
    simp only [hsl.1, Nat.sub_self, List.replicate_zero, List.append_nil]
    refine B1 (Ay (A0 (A1 (Ae (Ag (Ab (y_ (Ac (T U)) (y_ (Bm (T U) runUnderlying26) (y_ (Ac (T U)) (y_ (Dw (T U) (T U)) (y_ (Ad (T U)) (Af (Ae (Ag (Ab (y_ (Ac (T U)) (y_ (Bm (T U) runUnderlying26) (y_ (Ad (T U)) (Af (Ae (Ab (y_ (Ac (T U)) (y_ (Ad (T U)) (Af (Bl ?_)) U) U)))) U) U) U))))) U) U) U) U) U)))))))
    have hSl : S.length = (sgK m.pl b m.rows.length).1.length := by rw [← hSm, List.length_map]
    have hcs := clR_succ m.pl f b cnt
    rw [hfl] at hcs
    refine Bo ((f, (sgK m.pl b m.rows.length).2, (sgK m.pl b m.rows.length).1.length, decide (cnt < (sgK m.pl b m.rows.length).1.length), some ⟨n34, 0, none⟩, m.rows.length, [(n34, Cl ((sgK m.pl b m.rows.length).2.flatMap encU) 3)])) ?_ ?_ ⟨(by first | exact Aa U | (refine Ai (Aa U) (vint ?_); omega) | (refine Ai (Aa U) ?_; simp; done) | (refine Ai (Aa U) ?_; exact by rw [hsg]) | (refine Ai (Aa U) ?_; exact by rw [hSl]; exact vbool (decide_eq_decide.2 Int.ofNat_lt)) | (refine Ai (Aa U) ?_; exact by rw [hSl])), (by first | exact Aa U | (refine Ai (Aa U) (vint ?_); omega) | (refine Ai (Aa U) ?_; simp; done) | (refine Ai (Aa U) ?_; exact by rw [hsg]) | (refine Ai (Aa U) ?_; exact by rw [hSl]; exact vbool (decide_eq_decide.2 Int.ofNat_lt)) | (refine Ai (Aa U) ?_; exact by rw [hSl])), (by first | exact Aa U | (refine Ai (Aa U) (vint ?_); omega) | (refine Ai (Aa U) ?_; simp; done) | (refine Ai (Aa U) ?_; exact by rw [hsg]) | (refine Ai (Aa U) ?_; exact by rw [hSl]; exact vbool (decide_eq_decide.2 Int.ofNat_lt)) | (refine Ai (Aa U) ?_; exact by rw [hSl])), trivial⟩ ⟨Aa U, trivial⟩ ?_
    ·refine ⟨hsl.1, Cx (fun _ => rfl) U Bt, fun h => ?_, fun h => ?_⟩
     ·have h2 := of_decide_eq_true h
      rw [if_pos h2] at hcs
      exact ⟨by rw [← hcs]; exact hcl, hsl.2, by show 201 ≤ f + (sgK m.pl b m.rows.length).1.length; omega⟩
     ·have h2 := of_decide_eq_false h
      rw [if_neg h2] at hcs
      show (sgK m.pl b m.rows.length).2 = _; rw [← hcs]; exact hcl
    ·exact (show ∀ x : Bool, (bif x then f + 1 else 0) < f + 1 + 1 from fun x => by cases x <;> simp) _
    ·exact sbt
  ·subst c31
   have hfin := hmf U
   refine B1 (Ay (A0 (A1 (Ae (Ag (Ab (y_ (Ac (T U)) (y_ (Ad (T U)) (Af (Ae (A5 (A6 U (.tmp (Aa U) .nil) ?_)))) U) U)))))))
   exact ⟨_, ⟨qb, cb, M, ⟨rfl, by rw [← hfin]; exact hbl, by rw [← hfin]; exact hbA⟩, rfl⟩, sbt⟩
end Go.Proofs.YtkdolgnpkjihpaaGreatDoor
namespace Go.Proofs.YtkdolgnpkjihpaaGreatDoor
open _root_.Go.Proofs.Tryz
open Go.RowKit
set_option linter.unusedVariables false
set_option linter.unusedSimpArgs false
theorem rleast_s {w0 : World} {H : List (Nat × Obj)} (m : Mc) (hm : McOk w0 H m) (hp : PMok m.pl) (hnl : m.names.length ≤ 90001) :
  FSpec Tryz.prog w0 56 #[.agg (encMc m).toArray] H (fun v H' => ∃ (mc : Mc) (M : List (Nat × Obj)), (v = .agg (encMc mc).toArray ∧ (∀ X, McOk w0 X m → McOk w0 (M ++ X) mc) ∧ mc.pl = numF m.pl (classesR m.pl)) ∧ H' = M ++ H) := by
 refine A8 Tryz.func56 U ntmps56 U ?_
 have hf := hp.few
 have hfl : m.pl.next.length = m.rows.length := List.length_map ..
 have hs := hp.some'
 have hal : m.acc.length = m.rows.length := by have := hp.acc; rw [hfl] at this; exact this
 refine Ag (Ab (e_ (Bi (T U) cs_) ?_ U))
 rintro _ _ ⟨n1, rfl, rfl⟩
 refine e_ (Ar zeroValue29 cs_) ?_ U
 rintro _ _ ⟨n2, rfl, rfl⟩
 refine Af (Ae (Ag (Ab (y_ (Am (T U) isAgg29 sizeOf29 U (by first | exact Bh)) ?_ U))))
 refine e_ (Aw (.cons (T U) .nil) call110 (classes_s m (hm.mono sbt) hp hnl)) ?_ U
 rintro _ _ ⟨qc, cc, M3, ⟨rfl, hbl, hC⟩, rfl⟩
 obtain ⟨b, hbe⟩ : ∃ b, b = classesR m.pl := ⟨_, rfl⟩
 simp only [← hbe] at hbl hC ⊢
 refine y_ (Ad (T U)) (Af (Ae (Ag (Ab (y_ (Bn (T U) Da) (y_ (Aj (T U) isAgg25 (by first | exact c_o)) ?_ U) U))))) U
 refine y_ (Bv (.cons (T U) .nil) (bd29_0 _ _ _)) (e_ (Ar zeroValue29 cs_) ?_ U) U
 rintro _ _ ⟨n4, rfl, rfl⟩
 first | refine A7 (Av (T U) (T U) sizeOf29) U Ah ?_
 rintro _ _ ⟨rfl, rfl⟩
 refine Af (Ae (Ag (Ab (e_ (Al (.cons Ak .nil) (Cg _)) ?_ U))))
 rintro _ _ ⟨n16, rfl, rfl⟩
 refine y_ (Ad (T U)) (Af (Ae (Ag (Ag (Ab (y_ (Ad Ak) (Af (Ae (Au ?_))) U)))))) U
 refine Cc (X := Nat × List Nat × List RowQ × List Bool × Sl × Sl × Sl × List (Nat × Obj)) (V := fun ⟨k, order, rows, acc, d5, dr, da, M⟩ => [(6, .int .i64 (k : Nat)), (5, slV d5 order.length)]) (C := [(1, _), (2, _), (3, _), (4, _)]) (G := fun ⟨k, order, rows, acc, d5, dr, da, M⟩ => M ++ (slH d5 (order.flatMap encU) 3 ++ (slH dr (rows.flatMap encRQ) 42 ++ (slH da (acc.flatMap encB1) 4 ++ ((n4, Cl [.slice m.q1 m.names.length m.c1, slV dr rows.length, slV da acc.length] 29) :: (M3 ++ ((n2, Cl [.slice none 0 0, .slice none 0 0, .slice none 0 0] 29) :: (n1, Cl (encMc m) 29) :: H))))))) (φ := fun ⟨k, order, rows, acc, d5, dr, da, M⟩ => OrdOk m.pl b order ∧ (k ≤ order.length ∧ rows.length = k ∧ acc.length = k) ∧ (SlOk d5 order.length 1 ∧ SlOk dr rows.length 1 ∧ SlOk da acc.length 1) ∧ (∀ r ∈ rows, ∀ X, Arr w0 (M ++ X) r.q 1 encU r.l) ∧ numGo m.pl b (201 - k) k order (rows.map RowQ.l) acc = numGo m.pl b 201 0 [0] [] []) (μ := fun ⟨k, order, rows, acc, d5, dr, da, M⟩ => 201 - k) (x0 := (0, [0], [], [], .blk n16 1 [], .nil, .nil, [])) ?_ ⟨Aa rfl, Aa rfl, Aa rfl, Aa rfl, trivial⟩ ⟨(by first | exact Aa rfl | (refine Ai (Aa rfl) (vint ?_); omega) | (refine Ai (Aa rfl) ?_; simp; done) | (refine Ai (Aa rfl) ?_; exact by rw [hrow]) | (refine Ai (Aa rfl) ?_; exact by rw [hrow2])), (by first | exact Aa rfl | (refine Ai (Aa rfl) (vint ?_); omega) | (refine Ai (Aa rfl) ?_; simp; done) | (refine Ai (Aa rfl) ?_; exact by rw [hrow]) | (refine Ai (Aa rfl) ?_; exact by rw [hrow2])), trivial⟩ sb0 ?_
 ·exact ⟨⟨by simp, fun s hs => by
   simp only [List.mem_cons, List.not_mem_nil, or_false] at hs
   subst hs; exact hp.some'⟩, ⟨Nat.zero_le _, rfl, rfl⟩, ⟨⟨Nat.le_refl _, rfl⟩, rfl, rfl⟩, (fun r hr => by cases hr), rfl⟩
 rintro ⟨k, order, rows, acc, d5, dr, da, M⟩ ⟨hord, ⟨hko, hrl, hacl⟩, ⟨hd5, hdr, hda⟩, hro, hgo⟩
 have hof := hord.few
 refine Ag (Ag (Ab (y_ (Ac (T U)) (y_ (Ac (T U)) (y_ (Bm (T U) runUnderlying42) (y_ (Bz (T U) (T U)) (Af (Ae ?_)) U) U) U) U)))
 first | refine Ao (Aa U) (fun c20 => ?_) (fun c20 => ?_) | refine A3 (Aa U) (fun c20 => ?_) (fun c20 => ?_)
 ·have hokl : gd order k < m.rows.length := by rw [← hfl]; exact hord.lt _ (Az (by omega))
  obtain ⟨hr1, hr2⟩ := pm_row hp hokl
  have htos : (gd m.pl.next (gd order k)) = (gd m.rows (gd order k)).l := gd_rows _ _
  have htl : ∀ s ∈ (gd m.pl.next (gd order k)), s < m.pl.next.length := fun s hs => by
   rw [htos] at hs
   obtain ⟨j, hj, rfl⟩ := mem_gd.1 hs
   rw [hfl]; exact hr2 j (by omega)
  have htlen : (gd m.pl.next (gd order k)).length = m.names.length + 1 := by rw [htos]; exact hr1
  refine A2 (Ae (Ag (Au (Ag (Ab (y_ (Ad Ak) (Af (Ae (Ag (Ag (Ab (y_ (Ad Ak) (Af (Ae (Au ?_))) U)))))) U))))))
  refine Cc (X := Nat × Sl × Sl) (V := fun ⟨a, d5, d7⟩ => [(8, .int .i64 (a : Nat)), (5, slV d5 (numK b (gd m.pl.next (gd order k)) order a).1.length), (7, slV d7 (numK b (gd m.pl.next (gd order k)) order a).2.length)]) (C := [(1, _), (2, _), (3, _), (4, _), (6, _)]) (G := fun ⟨a, d5, d7⟩ => slH d7 ((numK b (gd m.pl.next (gd order k)) order a).2.flatMap encU) 3 ++ (M ++ (slH d5 ((numK b (gd m.pl.next (gd order k)) order a).1.flatMap encU) 3 ++ (slH dr (rows.flatMap encRQ) 42 ++ (slH da (acc.flatMap encB1) 4 ++ ((n4, Cl [.slice m.q1 m.names.length m.c1, slV dr rows.length, slV da acc.length] 29) :: (M3 ++ ((n2, Cl [.slice none 0 0, .slice none 0 0, .slice none 0 0] 29) :: (n1, Cl (encMc m) 29) :: H)))))))) (φ := fun ⟨a, d5, d7⟩ => a ≤ (gd m.pl.next (gd order k)).length ∧ SlOk d5 (numK b (gd m.pl.next (gd order k)) order a).1.length 1 ∧ SlOk d7 (numK b (gd m.pl.next (gd order k)) order a).2.length 1) (μ := fun ⟨a, d5, d7⟩ => (gd m.pl.next (gd order k)).length - a) (x0 := (0, d5, .nil)) ?_ ⟨Aa rfl, Aa rfl, Aa rfl, Aa rfl, Aa rfl, trivial⟩ ⟨(by first | exact Aa rfl | (refine Ai (Aa rfl) (vint ?_); omega) | (refine Ai (Aa rfl) ?_; simp; done) | (refine Ai (Aa rfl) ?_; exact by rw [hrow]) | (refine Ai (Aa rfl) ?_; exact by rw [hrow2])), (by first | exact Aa rfl | (refine Ai (Aa rfl) (vint ?_); omega) | (refine Ai (Aa rfl) ?_; simp; done) | (refine Ai (Aa rfl) ?_; exact by rw [hrow]) | (refine Ai (Aa rfl) ?_; exact by rw [hrow2])), (by first | exact Aa rfl | (refine Ai (Aa rfl) (vint ?_); omega) | (refine Ai (Aa rfl) ?_; simp; done) | (refine Ai (Aa rfl) ?_; exact by rw [hrow]) | (refine Ai (Aa rfl) ?_; exact by rw [hrow2])), trivial⟩ sb0 ?_
  ·exact ⟨Nat.zero_le _, hd5, rfl⟩
  rintro ⟨a, d5, d7⟩ ⟨ha, hd5, hd7⟩
  have hstp := hord.step htl a ha
  have hof2 := hstp.1.few
  have hsl2 := hstp.2.1
  have hgk := (numK_get b (gd m.pl.next (gd order k)) (order := order) (k := k) (by omega) a).1
  have hge2 := (numK_get b (gd m.pl.next (gd order k)) (order := order) (k := k) (by omega) a).2
  refine Ag (Ag (Cj 11 [(0, true), (1, true), (2, true), (3, true), (4, true), (5, true), (6, true), (7, true), (8, true), (9, true), (10, true)] _ mixd (by kernel_rfl) sb0 ?_))
  refine o_y U (Ac (T U)) (o_y U (Be (T U) Ck) (o_y U (Aj (T U) isAgg26 (by first | exact c_o)) ?_ U Ah) U Ah) U Ah
  refine o_y U (Ac (T U)) (o_y U (Ac (T U)) (o_y U (Bb (T U) (T U) runUnderlying42 sizeOf3 (by omega) (by first | exact rfl | exact (Ba (w0 := w0) (X := []) (enc := encU) (sz := 1) (e := 3) (fun _ => rfl) hd5).b (i := k) (by omega) | exact (Ba (w0 := w0) (X := []) (enc := encU) (sz := 1) (e := 3) (fun _ => rfl) hd5).b (i := j) (by omega) | exact hm.a2.b (i := gd order k) hokl | exact (hm.r (gd m.rows (gd order k)) (Az hokl)).b (i := a) (by omega) | exact hC.b (i := gd (numK b (gd m.pl.next (gd order k)) order a).1 j) hoj | exact hC.b (i := (gd (gd m.rows (gd order k)).l a)) (by omega) | exact hm.a3.b (i := gd order k) (by omega))) ?_ U Ah) U Ah) U Ah
  refine o_y U (Aj (T U) isAgg3 (by first | exact c_o | exact cell_e (v' := .int .i64 ((gd order k : Nat) : Int)) (by rw [hgk]) (cell1 (((Ba (w0 := w0) (X := H) (enc := encU) (sz := 1) (e := 3) (fun _ => rfl) hd5).mono sbt).cs (i := k) (by omega))))) ?_ U Ah
  refine o_y U (Bb (T U) (T U) runUnderlying26 sizeOf42 (by omega) (by first | exact rfl | exact (Ba (w0 := w0) (X := []) (enc := encU) (sz := 1) (e := 3) (fun _ => rfl) hd5).b (i := k) (by omega) | exact (Ba (w0 := w0) (X := []) (enc := encU) (sz := 1) (e := 3) (fun _ => rfl) hd5).b (i := j) (by omega) | exact hm.a2.b (i := gd order k) hokl | exact (hm.r (gd m.rows (gd order k)) (Az hokl)).b (i := a) (by omega) | exact hC.b (i := gd (numK b (gd m.pl.next (gd order k)) order a).1 j) hoj | exact hC.b (i := (gd (gd m.rows (gd order k)).l a)) (by omega) | exact hm.a3.b (i := gd order k) (by omega))) ?_ U Ah
  refine o_y U (Aj (T U) isAgg42 (by first | exact c_o | exact cell1 ((hm.a2.mono sbt).cs (i := gd order k) hokl))) ?_ U Ah
  refine o_y U (Bm (T U) runUnderlying42) (o_y U (Bz (T U) (T U)) (B2 U (Af (Ae ?_))) U Ah) U Ah
  first | refine Ao (Aa U) (fun c33 => ?_) (fun c33 => ?_) | refine A3 (Aa U) (fun c33 => ?_) (fun c33 => ?_)
  ·have hil : (gd (gd m.rows (gd order k)).l a) < m.rows.length := hr2 a (by omega)
   have hti : gd (gd m.pl.next (gd order k)) a = (gd (gd m.rows (gd order k)).l a) := by rw [htos]
   refine A2 (Ae (Ag (Au (Ag (Cj 12 [(0, true), (1, true), (2, true), (3, true), (4, true), (5, true), (6, true), (7, true), (8, true), (9, true), (10, true), (11, true)] _ mixd (by kernel_rfl) sb0 ?_)))))
   refine o_y U (Be (T U) Ck) (o_y U (Aj (T U) isAgg26 (by first | exact c_o)) ?_ U Ah) U Ah
   refine o_y U (Ac (T U)) (o_y U (Ac (T U)) (o_y U (Bb (T U) (T U) runUnderlying42 sizeOf3 (by omega) (by first | exact rfl | exact (Ba (w0 := w0) (X := []) (enc := encU) (sz := 1) (e := 3) (fun _ => rfl) hd5).b (i := k) (by omega) | exact (Ba (w0 := w0) (X := []) (enc := encU) (sz := 1) (e := 3) (fun _ => rfl) hd5).b (i := j) (by omega) | exact hm.a2.b (i := gd order k) hokl | exact (hm.r (gd m.rows (gd order k)) (Az hokl)).b (i := a) (by omega) | exact hC.b (i := gd (numK b (gd m.pl.next (gd order k)) order a).1 j) hoj | exact hC.b (i := (gd (gd m.rows (gd order k)).l a)) (by omega) | exact hm.a3.b (i := gd order k) (by omega))) ?_ U Ah) U Ah) U Ah
   refine o_y U (Aj (T U) isAgg3 (by first | exact c_o | exact cell_e (v' := .int .i64 ((gd order k : Nat) : Int)) (by rw [hgk]) (cell1 (((Ba (w0 := w0) (X := H) (enc := encU) (sz := 1) (e := 3) (fun _ => rfl) hd5).mono sbt).cs (i := k) (by omega))))) ?_ U Ah
   refine o_y U (Bb (T U) (T U) runUnderlying26 sizeOf42 (by omega) (by first | exact rfl | exact (Ba (w0 := w0) (X := []) (enc := encU) (sz := 1) (e := 3) (fun _ => rfl) hd5).b (i := k) (by omega) | exact (Ba (w0 := w0) (X := []) (enc := encU) (sz := 1) (e := 3) (fun _ => rfl) hd5).b (i := j) (by omega) | exact hm.a2.b (i := gd order k) hokl | exact (hm.r (gd m.rows (gd order k)) (Az hokl)).b (i := a) (by omega) | exact hC.b (i := gd (numK b (gd m.pl.next (gd order k)) order a).1 j) hoj | exact hC.b (i := (gd (gd m.rows (gd order k)).l a)) (by omega) | exact hm.a3.b (i := gd order k) (by omega))) ?_ U Ah
   refine o_y U (Aj (T U) isAgg42 (by first | exact c_o | exact cell1 ((hm.a2.mono sbt).cs (i := gd order k) hokl))) ?_ U Ah
   refine o_y U (Ac (T U)) (o_y U (Bb (T U) (T U) runUnderlying42 sizeOf3 (by omega) (by first | exact rfl | exact (Ba (w0 := w0) (X := []) (enc := encU) (sz := 1) (e := 3) (fun _ => rfl) hd5).b (i := k) (by omega) | exact (Ba (w0 := w0) (X := []) (enc := encU) (sz := 1) (e := 3) (fun _ => rfl) hd5).b (i := j) (by omega) | exact hm.a2.b (i := gd order k) hokl | exact (hm.r (gd m.rows (gd order k)) (Az hokl)).b (i := a) (by omega) | exact hC.b (i := gd (numK b (gd m.pl.next (gd order k)) order a).1 j) hoj | exact hC.b (i := (gd (gd m.rows (gd order k)).l a)) (by omega) | exact hm.a3.b (i := gd order k) (by omega))) ?_ U Ah) U Ah
   refine o_y U (Aj (T U) isAgg3 (by first | exact c_o | exact cell1 (((hm.r (gd m.rows (gd order k)) (Az hokl)).mono sbt).cs (i := a) (by omega)))) ?_ U Ah
   refine o_y U (Ad (T U)) (B2 U (Af (Ae (Bq [(1, _), (2, _), (3, _), (4, _), (5, _), (6, _), (7, _), (8, _), (9, _)] ⟨Aa U, Aa U, Aa U, Aa U, Aa U, Aa U, Aa U, Aa U, Aa U, trivial⟩ (Ag (Ab (y_ (Ad Ak) (Af (Ae (Ag (Au ?_)))) U))))))) U Ah
   refine Ce (X := Nat) (V := fun j => [(10, .int .i64 (j : Nat))]) (C := [(1, _), (2, _), (3, _), (4, _), (5, _), (6, _), (7, _), (8, _), (9, _)]) (φ := fun j => j ≤ (numK b (gd m.pl.next (gd order k)) order a).1.length ∧ ∀ x, x < j → ¬ gd b (gd (numK b (gd m.pl.next (gd order k)) order a).1 x) = gd b (gd (gd m.rows (gd order k)).l a)) (μ := fun j => (numK b (gd m.pl.next (gd order k)) order a).1.length - j) (x0 := 0) ?_ ⟨Aa U, Aa U, Aa U, Aa U, Aa U, Aa U, Aa U, Aa U, Aa U, trivial⟩ ⟨(by first | exact Aa U | (refine Ai (Aa U) (vint ?_); omega) | (refine Ai (Aa U) ?_; simp; done) | (refine Ai (Aa U) ?_; exact by rw [hrow]) | (refine Ai (Aa U) ?_; exact by rw [hrow2])), trivial⟩ ?_
   ·exact ⟨Nat.zero_le _, fun j hj => absurd hj (Nat.not_lt_zero _)⟩
   rintro j ⟨hj, hno⟩
   refine Ag (Ag (Cj 18 [(0, true), (1, true), (2, true), (3, true), (4, true), (5, true), (6, true), (7, true), (8, true), (9, true), (10, true), (11, true), (12, true), (13, true), (14, true), (15, true), (16, true), (17, true)] _ mixd (by kernel_rfl) sb0 ?_))
   refine o_y U (Ac (T U)) (o_y U (Ac (T U)) (o_y U (Bm (T U) runUnderlying42) (o_y U (Bz (T U) (T U)) (o_y U (Ac (T U)) ?_ U Ah) U Ah) U Ah) U Ah) U Ah
   first | refine C3 (s := 51) (Aa U) (fun c51 => ?_) (fun c51 => ?_) | refine D0 (s := 51) (Aa U) (fun c51 => ?_) (fun c51 => ?_)
   ·have hoj : gd (numK b (gd m.pl.next (gd order k)) order a).1 j < b.length := by rw [hbl, ← hfl]; exact hstp.1.lt _ (Az (by omega))
    refine o_y U (Ac (T U)) (o_y U (Ac (T U)) (o_y U (Ac (T U)) (o_y U (Bb (T U) (T U) runUnderlying42 sizeOf3 (by omega) (by first | exact rfl | exact (Ba (w0 := w0) (X := []) (enc := encU) (sz := 1) (e := 3) (fun _ => rfl) hd5).b (i := k) (by omega) | exact (Ba (w0 := w0) (X := []) (enc := encU) (sz := 1) (e := 3) (fun _ => rfl) hd5).b (i := j) (by omega) | exact hm.a2.b (i := gd order k) hokl | exact (hm.r (gd m.rows (gd order k)) (Az hokl)).b (i := a) (by omega) | exact hC.b (i := gd (numK b (gd m.pl.next (gd order k)) order a).1 j) hoj | exact hC.b (i := (gd (gd m.rows (gd order k)).l a)) (by omega) | exact hm.a3.b (i := gd order k) (by omega))) ?_ U (As U U (Aa U))) U (As U U (Aa U))) U (As U U (Aa U))) U (As U U (Aa U))
    refine o_y U (Aj (T U) isAgg3 (by first | exact c_o | exact cell1 (((Ba (w0 := w0) (X := H) (enc := encU) (sz := 1) (e := 3) (fun _ => rfl) hd5).mono sbt).cs (i := j) (by omega)))) ?_ U (As U U (Aa U))
    refine o_y U (Bb (T U) (T U) runUnderlying42 sizeOf3 (by omega) (by first | exact rfl | exact (Ba (w0 := w0) (X := []) (enc := encU) (sz := 1) (e := 3) (fun _ => rfl) hd5).b (i := k) (by omega) | exact (Ba (w0 := w0) (X := []) (enc := encU) (sz := 1) (e := 3) (fun _ => rfl) hd5).b (i := j) (by omega) | exact hm.a2.b (i := gd order k) hokl | exact (hm.r (gd m.rows (gd order k)) (Az hokl)).b (i := a) (by omega) | exact hC.b (i := gd (numK b (gd m.pl.next (gd order k)) order a).1 j) hoj | exact hC.b (i := (gd (gd m.rows (gd order k)).l a)) (by omega) | exact hm.a3.b (i := gd order k) (by omega))) ?_ U (As U U (Aa U))
    refine o_y U (Aj (T U) isAgg3 (by first | exact c_o | exact cell1 ((hC.mono sbt).cs (i := gd (numK b (gd m.pl.next (gd order k)) order a).1 j) hoj))) ?_ U (As U U (Aa U))
    refine o_y U (Ac (T U)) (o_y U (Ac (T U)) (o_y U (Bb (T U) (T U) runUnderlying42 sizeOf3 (by omega) (by first | exact rfl | exact (Ba (w0 := w0) (X := []) (enc := encU) (sz := 1) (e := 3) (fun _ => rfl) hd5).b (i := k) (by omega) | exact (Ba (w0 := w0) (X := []) (enc := encU) (sz := 1) (e := 3) (fun _ => rfl) hd5).b (i := j) (by omega) | exact hm.a2.b (i := gd order k) hokl | exact (hm.r (gd m.rows (gd order k)) (Az hokl)).b (i := a) (by omega) | exact hC.b (i := gd (numK b (gd m.pl.next (gd order k)) order a).1 j) hoj | exact hC.b (i := (gd (gd m.rows (gd order k)).l a)) (by omega) | exact hm.a3.b (i := gd order k) (by omega))) ?_ U (As U U (Aa U))) U (As U U (Aa U))) U (As U U (Aa U))
    refine o_y U (Aj (T U) isAgg3 (by first | exact c_o | exact cell1 ((hC.mono sbt).cs (i := (gd (gd m.rows (gd order k)).l a)) (by omega)))) ?_ U (As U U (Aa U))
    refine o_y U (C0 (T U) (T U)) (o_y U (A4 (T U) (T U)) (B2 U (Af (Ae (Bq [(1, _), (2, _), (3, _), (4, _), (5, _), (6, _), (7, _), (8, _), (9, _), (10, _), (64, _)] ⟨Aa U, Aa U, Aa U, Aa U, Aa U, Aa U, Aa U, Aa U, Aa U, Aa U, Aa U, trivial⟩ ?_)))) U Ah) U (As U U (Aa U))
    first | refine Ao (Aa U) (fun c64 => ?_) (fun c64 => ?_) | refine A3 (Aa U) (fun c64 => ?_) (fun c64 => ?_)
    ·refine A2 (Ae (Au (Ab (y_ (Ac (T U)) (y_ (Bu (T U) Ak (by omega)) ?_ U) U))))
     refine y_ (Ad (T U)) (Af (Bl ?_)) U
     refine Bo (j + 1) ?_ ?_ ⟨(by first | exact Aa U | (refine Ai (Aa U) (vint ?_); omega) | (refine Ai (Aa U) ?_; simp; done) | (refine Ai (Aa U) ?_; exact by rw [hrow]) | (refine Ai (Aa U) ?_; exact by rw [hrow2])), trivial⟩ ⟨Aa U, Aa U, Aa U, Aa U, Aa U, Aa U, Aa U, Aa U, Aa U, trivial⟩ ?_
     ·refine ⟨by omega, fun x hx => ?_⟩
      by_cases e : x = j
      ·subst e; omega
      ·exact hno x (by omega)
     ·first | omega | (simp only []; omega)
     ·exact sbt
    ·have hidx : idx ((numK b (gd m.pl.next (gd order k)) order a).1.map (gd b)) (gd b (gd (gd m.rows (gd order k)).l a)) = j := idx_at (by rw [List.length_map]; omega) (by rw [Cz (by omega)]; omega) (fun x hx => by rw [Cz (by omega)]; exact hno x hx)
     refine B1 (Ay (A0 (A1 (Ae ?_))))
     refine Dr (X := Sl) (V := fun g5 => [(5, slV g5 (numK b (gd m.pl.next (gd order k)) order (a + 1)).1.length)]) (C := [(1, _), (2, _), (3, _), (4, _), (6, _), (7, _), (8, _), (10, _)]) (G := fun g5 => slH d7 ((numK b (gd m.pl.next (gd order k)) order a).2.flatMap encU) 3 ++ (M ++ (slH g5 ((numK b (gd m.pl.next (gd order k)) order (a + 1)).1.flatMap encU) 3 ++ (slH dr (rows.flatMap encRQ) 42 ++ (slH da (acc.flatMap encB1) 4 ++ ((n4, Cl [.slice m.q1 m.names.length m.c1, slV dr rows.length, slV da acc.length] 29) :: (M3 ++ ((n2, Cl [.slice none 0 0, .slice none 0 0, .slice none 0 0] 29) :: (n1, Cl (encMc m) 29) :: H)))))))) (φ := fun g5 => SlOk g5 (numK b (gd m.pl.next (gd order k)) order (a + 1)).1.length 1) ⟨Aa U, Aa U, Aa U, Aa U, Aa U, Aa U, Aa U, Aa U, trivial⟩ ?_ ?_
     ·refine Ag (Ab (y_ (Ac (T U)) (y_ (Ac (T U)) (y_ (Bm (T U) runUnderlying42) (y_ (Bs (T U) (T U)) (Af (Ae ?_)) U) U) U) U))
      first | refine Ao (Aa U) (fun c70 => ?_) (fun c70 => ?_) | refine A3 (Aa U) (fun c70 => ?_) (fun c70 => ?_)
      ·have hrow : (numK b (gd m.pl.next (gd order k)) order (a + 1)).1 = (numK b (gd m.pl.next (gd order k)) order a).1 ++ [(gd (gd m.rows (gd order k)).l a)] := by
        rw [Cy]; simp only [hti]
        rw [if_neg (fun hm => by have := Dn hm; rw [List.length_map] at this; omega)]
       refine Ab (y_ (Ac (T U)) (y_ (Ac (T U)) (e_ (Al (.cons (T U) .nil) (Cg _)) ?_ U) U) U)
       rintro _ _ ⟨n73, rfl, rfl⟩
       refine e_ (Ch ((gd (gd m.rows (gd order k)).l a)) (by' := 8) (enc := encU) (l := (numK b (gd m.pl.next (gd order k)) order a).1) (by repeat (first | exact LocL.h | apply LocL.t | apply LocL.a)) (T U) (T U) runUnderlying42 runUnderlying42 sizeOf3 typeInfo3 U zeroValue3 U (fun _ => rfl) U hd5 (by decide) (by omega)) ?_ U
       rintro _ _ ⟨d5', rfl, hok5, rfl⟩
       refine y_ (Ad (T U)) (Af ?_) U
       refine Br (d5') ?_ ⟨(by first | exact Aa U | (refine Ai (Aa U) (vint ?_); omega) | (refine Ai (Aa U) ?_; simp; done) | (refine Ai (Aa U) ?_; exact by rw [hrow]) | (refine Ai (Aa U) ?_; exact by rw [hrow2])), trivial⟩ ⟨Aa U, Aa U, Aa U, Aa U, Aa U, Aa U, Aa U, Aa U, trivial⟩ (by simp only [hrow]; exact sbt)
       first | (rw [hrow]; exact hok5) | (rw [hrow]; exact hd5)
      ·have hrow : (numK b (gd m.pl.next (gd order k)) order (a + 1)).1 = (numK b (gd m.pl.next (gd order k)) order a).1 := by
        rw [Cy]; simp only [hti]
        rw [if_pos (Classical.byContradiction fun hm => by have := idx_not hm; rw [List.length_map] at this; omega)]
       refine A2 ?_
       refine Br (d5) ?_ ⟨(by first | exact Aa U | (refine Ai (Aa U) (vint ?_); omega) | (refine Ai (Aa U) ?_; simp; done) | (refine Ai (Aa U) ?_; exact by rw [hrow]) | (refine Ai (Aa U) ?_; exact by rw [hrow2])), trivial⟩ ⟨Aa U, Aa U, Aa U, Aa U, Aa U, Aa U, Aa U, Aa U, trivial⟩ (by simp only [hrow]; exact sbt)
       first | (rw [hrow]; exact hok5) | (rw [hrow]; exact hd5)
     rintro g5 hg5
     refine Ab (y_ (Ac (T U)) (y_ (Ac (T U)) (e_ (Al (.cons (T U) .nil) (Cg _)) ?_ U) U) U)
     rintro _ _ ⟨n77, rfl, rfl⟩
     refine e_ (Ch (j) (by' := 8) (enc := encU) (l := (numK b (gd m.pl.next (gd order k)) order a).2) (by repeat (first | exact LocL.h | apply LocL.t | apply LocL.a)) (T U) (T U) runUnderlying42 runUnderlying42 sizeOf3 typeInfo3 U zeroValue3 U (fun _ => rfl) U hd7 (by decide) (by omega)) ?_ U
     rintro _ _ ⟨d7', rfl, hok7, rfl⟩
     refine y_ (Ad (T U)) (Af (Bl (Ae (Ab (y_ (Ac (T U)) (y_ (Bu (T U) Ak (by omega)) ?_ U) U))))) U
     refine y_ (Ad (T U)) (Af ?_) U
     have hrow2 : (numK b (gd m.pl.next (gd order k)) order (a + 1)).2 = (numK b (gd m.pl.next (gd order k)) order a).2 ++ [j] := by rw [Cy]; simp only [hti, hidx]
     refine Bo ((a + 1, g5, d7')) ?_ ?_ ⟨(by first | exact Aa U | (refine Ai (Aa U) (vint ?_); omega) | (refine Ai (Aa U) ?_; simp; done) | (refine Ai (Aa U) ?_; exact by rw [hrow]) | (refine Ai (Aa U) ?_; exact by rw [hrow2])), (by first | exact Aa U | (refine Ai (Aa U) (vint ?_); omega) | (refine Ai (Aa U) ?_; simp; done) | (refine Ai (Aa U) ?_; exact by rw [hrow]) | (refine Ai (Aa U) ?_; exact by rw [hrow2])), (by first | exact Aa U | (refine Ai (Aa U) (vint ?_); omega) | (refine Ai (Aa U) ?_; simp; done) | (refine Ai (Aa U) ?_; exact by rw [hrow]) | (refine Ai (Aa U) ?_; exact by rw [hrow2])), trivial⟩ ⟨Aa U, Aa U, Aa U, Aa U, Aa U, trivial⟩ ?_
     ·exact ⟨by omega, hg5, by rw [hrow2]; exact hok7⟩
     ·show _ - (a + 1) < _ - a; omega
     ·simp only [hrow2]; exact sbt
   ·have hidx : idx ((numK b (gd m.pl.next (gd order k)) order a).1.map (gd b)) (gd b (gd (gd m.rows (gd order k)).l a)) = j := by
     rw [idx_none (fun x hx => ?_), List.length_map]
     ·omega
     ·rw [List.length_map] at hx; rw [Cz hx]; exact hno x (by omega)
    refine o_n U (o_n U (o_n U (o_n U (o_n U (o_n U (o_n U (o_n U (o_n U (o_n U (o_n U (o_n U (o_y U (A9 (T U) Ak) (B2 U (Af (Ae (Bq [(1, _), (2, _), (3, _), (4, _), (5, _), (6, _), (7, _), (8, _), (9, _), (10, _), (64, _)] ⟨Aa U, Aa U, Aa U, Aa U, Aa U, Aa U, Aa U, Aa U, Aa U, Aa U, Aa U, trivial⟩ ?_)))) U Ah) U (Cd U U (Aa U))) U (Cd U U (Aa U))) U (Cd U U (Aa U))) U (Cd U U (Aa U))) U (Cd U U (Aa U))) U (Cd U U (Aa U))) U (Cd U U (Aa U))) U (Cd U U (Aa U))) U (Cd U U (Aa U))) U (Cd U U (Aa U))) U (Cd U U (Aa U))) U (Cd U U (Aa U))
    first | refine Bc (Aa U) ?_ | refine Bc (Ai (Aa U) (vbool (decide_eq_false c64))) ?_
    refine B1 (Ay (A0 (A1 (Ae ?_))))
    refine Dr (X := Sl) (V := fun g5 => [(5, slV g5 (numK b (gd m.pl.next (gd order k)) order (a + 1)).1.length)]) (C := [(1, _), (2, _), (3, _), (4, _), (6, _), (7, _), (8, _), (10, _)]) (G := fun g5 => slH d7 ((numK b (gd m.pl.next (gd order k)) order a).2.flatMap encU) 3 ++ (M ++ (slH g5 ((numK b (gd m.pl.next (gd order k)) order (a + 1)).1.flatMap encU) 3 ++ (slH dr (rows.flatMap encRQ) 42 ++ (slH da (acc.flatMap encB1) 4 ++ ((n4, Cl [.slice m.q1 m.names.length m.c1, slV dr rows.length, slV da acc.length] 29) :: (M3 ++ ((n2, Cl [.slice none 0 0, .slice none 0 0, .slice none 0 0] 29) :: (n1, Cl (encMc m) 29) :: H)))))))) (φ := fun g5 => SlOk g5 (numK b (gd m.pl.next (gd order k)) order (a + 1)).1.length 1) ⟨Aa U, Aa U, Aa U, Aa U, Aa U, Aa U, Aa U, Aa U, trivial⟩ ?_ ?_
    ·refine Ag (Ab (y_ (Ac (T U)) (y_ (Ac (T U)) (y_ (Bm (T U) runUnderlying42) (y_ (Bs (T U) (T U)) (Af (Ae ?_)) U) U) U) U))
     first | refine Ao (Aa U) (fun c70 => ?_) (fun c70 => ?_) | refine A3 (Aa U) (fun c70 => ?_) (fun c70 => ?_)
     ·have hrow : (numK b (gd m.pl.next (gd order k)) order (a + 1)).1 = (numK b (gd m.pl.next (gd order k)) order a).1 ++ [(gd (gd m.rows (gd order k)).l a)] := by
       rw [Cy]; simp only [hti]
       rw [if_neg (fun hm => by have := Dn hm; rw [List.length_map] at this; omega)]
      refine Ab (y_ (Ac (T U)) (y_ (Ac (T U)) (e_ (Al (.cons (T U) .nil) (Cg _)) ?_ U) U) U)
      rintro _ _ ⟨n73, rfl, rfl⟩
      refine e_ (Ch ((gd (gd m.rows (gd order k)).l a)) (by' := 8) (enc := encU) (l := (numK b (gd m.pl.next (gd order k)) order a).1) (by repeat (first | exact LocL.h | apply LocL.t | apply LocL.a)) (T U) (T U) runUnderlying42 runUnderlying42 sizeOf3 typeInfo3 U zeroValue3 U (fun _ => rfl) U hd5 (by decide) (by omega)) ?_ U
      rintro _ _ ⟨d5', rfl, hok5, rfl⟩
      refine y_ (Ad (T U)) (Af ?_) U
      refine Br (d5') ?_ ⟨(by first | exact Aa U | (refine Ai (Aa U) (vint ?_); omega) | (refine Ai (Aa U) ?_; simp; done) | (refine Ai (Aa U) ?_; exact by rw [hrow]) | (refine Ai (Aa U) ?_; exact by rw [hrow2])), trivial⟩ ⟨Aa U, Aa U, Aa U, Aa U, Aa U, Aa U, Aa U, Aa U, trivial⟩ (by simp only [hrow]; exact sbt)
      first | (rw [hrow]; exact hok5) | (rw [hrow]; exact hd5)
     ·have hrow : (numK b (gd m.pl.next (gd order k)) order (a + 1)).1 = (numK b (gd m.pl.next (gd order k)) order a).1 := by
       rw [Cy]; simp only [hti]
       rw [if_pos (Classical.byContradiction fun hm => by have := idx_not hm; rw [List.length_map] at this; omega)]
      refine A2 ?_
      refine Br (d5) ?_ ⟨(by first | exact Aa U | (refine Ai (Aa U) (vint ?_); omega) | (refine Ai (Aa U) ?_; simp; done) | (refine Ai (Aa U) ?_; exact by rw [hrow]) | (refine Ai (Aa U) ?_; exact by rw [hrow2])), trivial⟩ ⟨Aa U, Aa U, Aa U, Aa U, Aa U, Aa U, Aa U, Aa U, trivial⟩ (by simp only [hrow]; exact sbt)
      first | (rw [hrow]; exact hok5) | (rw [hrow]; exact hd5)
    rintro g5 hg5
    refine Ab (y_ (Ac (T U)) (y_ (Ac (T U)) (e_ (Al (.cons (T U) .nil) (Cg _)) ?_ U) U) U)
    rintro _ _ ⟨n77, rfl, rfl⟩
    refine e_ (Ch (j) (by' := 8) (enc := encU) (l := (numK b (gd m.pl.next (gd order k)) order a).2) (by repeat (first | exact LocL.h | apply LocL.t | apply LocL.a)) (T U) (T U) runUnderlying42 runUnderlying42 sizeOf3 typeInfo3 U zeroValue3 U (fun _ => rfl) U hd7 (by decide) (by omega)) ?_ U
    rintro _ _ ⟨d7', rfl, hok7, rfl⟩
    refine y_ (Ad (T U)) (Af (Bl (Ae (Ab (y_ (Ac (T U)) (y_ (Bu (T U) Ak (by omega)) ?_ U) U))))) U
    refine y_ (Ad (T U)) (Af ?_) U
    have hrow2 : (numK b (gd m.pl.next (gd order k)) order (a + 1)).2 = (numK b (gd m.pl.next (gd order k)) order a).2 ++ [j] := by rw [Cy]; simp only [hti, hidx]
    refine Bo ((a + 1, g5, d7')) ?_ ?_ ⟨(by first | exact Aa U | (refine Ai (Aa U) (vint ?_); omega) | (refine Ai (Aa U) ?_; simp; done) | (refine Ai (Aa U) ?_; exact by rw [hrow]) | (refine Ai (Aa U) ?_; exact by rw [hrow2])), (by first | exact Aa U | (refine Ai (Aa U) (vint ?_); omega) | (refine Ai (Aa U) ?_; simp; done) | (refine Ai (Aa U) ?_; exact by rw [hrow]) | (refine Ai (Aa U) ?_; exact by rw [hrow2])), (by first | exact Aa U | (refine Ai (Aa U) (vint ?_); omega) | (refine Ai (Aa U) ?_; simp; done) | (refine Ai (Aa U) ?_; exact by rw [hrow]) | (refine Ai (Aa U) ?_; exact by rw [hrow2])), trivial⟩ ⟨Aa U, Aa U, Aa U, Aa U, Aa U, trivial⟩ ?_
    ·exact ⟨by omega, hg5, by rw [hrow2]; exact hok7⟩
    ·show _ - (a + 1) < _ - a; omega
    ·simp only [hrow2]; exact sbt
  ·have ha2 : a = (gd m.pl.next (gd order k)).length := by omega
   subst ha2
   refine B1 (Ay (A0 (A1 (Ae (Ag (Ab (y_ (Be (T U) Ck) (y_ (Aj (T U) isAgg26 (by first | exact c_o)) ?_ U) U)))))))
   refine y_ (Ac (T U)) (e_ (Al (.cons (T U) .nil) (bs26_1_0 _ _ _)) ?_ U) U
   rintro _ _ ⟨n82, rfl, rfl⟩
   refine e_ (Ch ((⟨slQ d7, slC d7, (numK b (gd m.pl.next (gd order k)) order (gd m.pl.next (gd order k)).length).2⟩ : RowQ)) (by' := 24) (enc := encRQ) (l := rows) (by repeat (first | exact LocL.h | apply LocL.t | apply LocL.a)) (T U) (T U) runUnderlying26 runUnderlying26 sizeOf42 typeInfo42 U zeroValue42 U (fun _ => rfl) U hdr (by decide) (by omega)) ?_ U
   rintro _ _ ⟨dr', rfl, hokr, rfl⟩
   refine y_ (Be (T U) Ck) ?_ U
   first | refine A7 (Av (T U) (T U) sizeOf26) U Ah ?_ | refine A7 (B6 (T U) (T U) U sizeOf26) U Ah ?_ | refine A7 (B0 (T U) (T U) U sizeOf26) U Ah ?_
   rintro _ _ ⟨rfl, rfl⟩
   refine Af (Ae (Bq [(1, _), (2, _), (3, _), (4, _), (5, _), (6, _)] ⟨Aa U, Aa U, Aa U, Aa U, Aa U, Aa U, trivial⟩ (Cj 11 [(0, true), (1, true), (2, true), (3, true), (4, true), (5, true), (6, true), (7, true), (8, true), (9, true), (10, false)] _ mixd (by kernel_rfl) sb0 ?_)))
   refine o_y U (Be (T U) C5) (o_y U (Aj (T U) isAgg27 (by first | exact c_o)) ?_ U Ah) U Ah
   refine o_y U (Be (T U) C5) (o_y U (Aj (T U) isAgg27 (by first | exact c_o)) ?_ U Ah) U Ah
   refine o_y U (Ac (T U)) (o_y U (Ac (T U)) (o_y U (Bb (T U) (T U) runUnderlying42 sizeOf3 (by omega) (by first | exact rfl | exact (Ba (w0 := w0) (X := []) (enc := encU) (sz := 1) (e := 3) (fun _ => rfl) hd5).b (i := k) (by omega) | exact (Ba (w0 := w0) (X := []) (enc := encU) (sz := 1) (e := 3) (fun _ => rfl) hd5).b (i := j) (by omega) | exact hm.a2.b (i := gd order k) hokl | exact (hm.r (gd m.rows (gd order k)) (Az hokl)).b (i := a) (by omega) | exact hC.b (i := gd (numK b (gd m.pl.next (gd order k)) order a).1 j) hoj | exact hC.b (i := (gd (gd m.rows (gd order k)).l a)) (by omega) | exact hm.a3.b (i := gd order k) (by omega))) ?_ U Ah) U Ah) U Ah
   refine o_y U (Aj (T U) isAgg3 (by first | exact c_o | exact cell_e (v' := .int .i64 ((gd order k : Nat) : Int)) (by rw [hgk]) (cell1 (((Ba (w0 := w0) (X := H) (enc := encU) (sz := 1) (e := 3) (fun _ => rfl) hd5).mono sbt).cs (i := k) (by omega))))) ?_ U Ah
   refine o_y U (Bb (T U) (T U) runUnderlying27 sizeOf4 (by omega) (by first | exact rfl | exact (Ba (w0 := w0) (X := []) (enc := encU) (sz := 1) (e := 3) (fun _ => rfl) hd5).b (i := k) (by omega) | exact (Ba (w0 := w0) (X := []) (enc := encU) (sz := 1) (e := 3) (fun _ => rfl) hd5).b (i := j) (by omega) | exact hm.a2.b (i := gd order k) hokl | exact (hm.r (gd m.rows (gd order k)) (Az hokl)).b (i := a) (by omega) | exact hC.b (i := gd (numK b (gd m.pl.next (gd order k)) order a).1 j) hoj | exact hC.b (i := (gd (gd m.rows (gd order k)).l a)) (by omega) | exact hm.a3.b (i := gd order k) (by omega))) ?_ U Ah
   refine o_y U (Aj (T U) isAgg4 (by first | exact c_o | exact cell1 ((hm.a3.mono sbt).cs (i := gd order k) (by omega)))) ?_ U Ah
   refine o_e U (Al (.cons (T U) .nil) (bs27_1_0 _)) ?_ U Ah
   rintro _ _ ⟨n95, rfl, rfl⟩
   refine ⟨sbt, (B2 U (e_ (Ch (gd m.acc (gd order k)) (by' := 1) (enc := encB1) (l := acc) (by repeat (first | exact LocL.h | apply LocL.t | apply LocL.a)) (T U) (T U) runUnderlying27 runUnderlying27 sizeOf4 typeInfo4 U zeroValue4 U (fun _ => rfl) U hda (by decide) (by omega)) ?_ U))⟩
   rintro _ _ ⟨da', rfl, hoka, rfl⟩
   refine y_ (Be (T U) C5) ?_ U
   first | refine A7 (Av (T U) (T U) sizeOf27) U Ah ?_ | refine A7 (B6 (T U) (T U) U sizeOf27) U Ah ?_ | refine A7 (B0 (T U) (T U) U sizeOf27) U Ah ?_
   rintro _ _ ⟨rfl, rfl⟩
   refine Af (Bl (Ae (Ab (y_ (Ac (T U)) (y_ (Bu (T U) Ak (by omega)) ?_ U) U))))
   refine y_ (Ad (T U)) (Af ?_) U
   refine Bo ((k + 1, (numK b (gd m.pl.next (gd order k)) order (gd m.pl.next (gd order k)).length).1, rows ++ [⟨slQ d7, slC d7, (numK b (gd m.pl.next (gd order k)) order (gd m.pl.next (gd order k)).length).2⟩], acc ++ [gd m.acc (gd order k)], d5, dr', da', slH d7 ((numK b (gd m.pl.next (gd order k)) order (gd m.pl.next (gd order k)).length).2.flatMap encU) 3 ++ M)) ?_ ?_ ⟨(by first | exact Aa U | (refine Ai (Aa U) (vint ?_); omega) | (refine Ai (Aa U) ?_; simp; done) | (refine Ai (Aa U) ?_; exact by rw [hrow]) | (refine Ai (Aa U) ?_; exact by rw [hrow2])), (by first | exact Aa U | (refine Ai (Aa U) (vint ?_); omega) | (refine Ai (Aa U) ?_; simp; done) | (refine Ai (Aa U) ?_; exact by rw [hrow]) | (refine Ai (Aa U) ?_; exact by rw [hrow2])), trivial⟩ ⟨Aa U, Aa U, Aa U, Aa U, trivial⟩ ?_
   ·refine ⟨hstp.1, ⟨by omega, by simp [hrl], by simp [hacl]⟩, ⟨hd5, by simpa using hokr, by simpa using hoka⟩, fun x hx X => rowQ_push (fun r hr => hro r hr X) (by simp only [List.append_assoc]; exact List.sublist_append_right _ _) (by simp only [List.append_assoc]; exact Ba (fun _ => rfl) hd7) x hx, ?_⟩
    rw [← hgo, List.map_append, show 201 - k = (200 - k) + 1 by omega, numGo_succ, if_pos (show k < order.length by omega), show 201 - (k + 1) = 200 - k by omega]; rfl
   ·show 201 - (k + 1) < 201 - k; omega
   ·simp only [List.append_assoc, List.length_append, List.length_cons, List.length_nil, Nat.zero_add]; exact sbt
 ·refine B1 (Ay (A0 (A1 (Ae (Ag (Ab (y_ (Am (T U) isAgg29 sizeOf29 U (by first | exact Bh)) ?_ U)))))))
  first | refine A7 (Av (T U) (T U) sizeOf29) U Ah ?_
  rintro _ _ ⟨rfl, rfl⟩
  refine Af (Ae (A5 (A6 U (.cellA (Aa U) isAgg29 sizeOf29 U (by first | exact Bh) .nil) ?_)))
  have hfin : numGo m.pl b 201 0 [0] [] [] = (rows.map RowQ.l, acc) := by rw [← hgo, show 201 - k = (200 - k) + 1 by omega, numGo_succ, if_neg (by omega)]
  exact ⟨_, ⟨⟨m.names, rows, acc, m.q1, m.c1, slQ dr, slC dr, slQ da, slC da⟩, M ++ (slH dr (rows.flatMap encRQ) 42 ++ slH da (acc.flatMap encB1) 4), ⟨rfl, fun X hX => ⟨hX.a1.mono (by simp only [List.append_assoc]; exact sbt), (Ba (w0 := w0) (X := X) (enc := encRQ) (sz := 1) (e := 42) (fun _ => rfl) hdr).mono (by simp only [List.append_assoc]; exact sbt), (Ba (w0 := w0) (X := X) (enc := encB1) (sz := 1) (e := 4) (fun _ => rfl) hda).mono (by simp only [List.append_assoc]; exact sbt), fun r hr => (hro r hr X).mono (by simp only [List.append_assoc]; exact sbt)⟩, by unfold numF; rw [hfin]; rfl⟩, rfl⟩, by simp only [List.append_assoc]; exact sbt⟩
end Go.Proofs.YtkdolgnpkjihpaaGreatDoor
namespace Go.Proofs.YtkdolgnpkjihpaaGreatDoor
open _root_.Go.Proofs.Tryz
open Go.RowKit
set_option linter.unusedVariables false
set_option linter.unusedSimpArgs false
theorem nameF_insS {s : ByteArray} : ∀ {l : List ByteArray}, nameF s l = insS s l
 | [] => rfl
 | x :: l => by
  unfold nameF insS
  by_cases h1 : toL x < toL s
  ·rw [if_pos h1, if_neg (ltU_ne h1), if_neg (fun e => by rw [e] at h1; exact List.lt_irrefl _ h1), nameF_insS]
  ·rw [if_neg h1]
   by_cases h2 : x = s
   ·subst h2; rw [if_pos rfl, if_neg (List.lt_irrefl _), if_pos rfl]
   ·rw [if_neg h2]
    have h3 : ¬ toL s = toL x := fun e => h2 (Dv e).symm
    rcases leU_total (toL s) (toL x) with h | h
    ·rw [if_pos ((leU_or h).resolve_right h3)]
    ·exact absurd ((leU_or h).resolve_right fun e => h3 e.symm) h1
theorem ntR_is {m : Rxm} {e : Re} (h : Is m e) : ∀ {l : List ByteArray}, Srt l → Srt (ntR m l) ∧ ∀ x, x ∈ ntR m l ↔ x ∈ l ∨ x ∈ e.nms := by
 induction h with
 | emp => exact fun h => ⟨h, fun x => by simp [ntR, ntL, Re.nms]⟩
 | @nod q c s h => exact fun {l} h => ⟨by show Srt (nameF s l); rw [nameF_insS]; exact insS_srt h, fun x => by show x ∈ nameF s l ↔ _; rw [nameF_insS, insS_mem]; simp [Re.nms, or_comm]⟩
 | any => exact fun h => ⟨h, fun x => by simp [ntR, ntL, Re.nms]⟩
 | seq _ _ i1 i2 =>
  intro l h
  obtain ⟨a1, a2⟩ := i1 h
  obtain ⟨b1, b2⟩ := i2 a1
  exact ⟨b1, fun x => by simp only [ntR, ntL, Re.nms, List.mem_append]; rw [if_neg (by decide), b2, a2, or_assoc]⟩
 | alt _ _ i1 i2 =>
  intro l h
  obtain ⟨a1, a2⟩ := i1 h
  obtain ⟨b1, b2⟩ := i2 a1
  exact ⟨b1, fun x => by simp only [ntR, ntL, Re.nms, List.mem_append]; rw [if_neg (by decide), b2, a2, or_assoc]⟩
 | star _ i1 =>
  intro l h
  obtain ⟨a1, a2⟩ := i1 h
  exact ⟨a1, fun x => by simp only [ntR, ntL, Re.nms]; rw [if_neg (by decide), a2]⟩
theorem ntR_let {m : Rxm} {e : Re} (h : Is m e) : ntR m [] = letF e := by
 obtain ⟨h1, h2⟩ := ntR_is h (l := []) .nil
 exact srt_ext h1 (letF_srt e) fun x => by rw [h2, letF_mem]; simp
def Rep (x : Nat) (l : List Nat) : Prop := ∀ n, x.testBit n = decide (n ∈ l)
theorem Rep.eq {x y : Nat} {l : List Nat} (h : Rep x l) (h2 : Rep y l) : x = y := Nat.eq_of_testBit_eq fun n => by rw [h n, h2 n]
theorem Rep.nil : Rep 0 [] := fun n => by simp
theorem Rep.one (k : Nat) : Rep (2 ^ k) [k] := fun n => by
 rw [Nat.testBit_two_pow]
 exact decide_eq_decide.2 (by simp [eq_comm])
theorem Rep.or {x y : Nat} {a b : List Nat} (h1 : Rep x a) (h2 : Rep y b) : Rep (x ||| y) (mergeF a b) := fun n => by
 rw [Nat.testBit_or, h1 n, h2 n, Bool.eq_iff_iff]
 simp [mem_mergeF]
theorem srn_ext {n : Nat} : ∀ {a b : List Nat}, a.Pairwise (· < ·) → b.Pairwise (· < ·) → (∀ x, x ∈ a ↔ x ∈ b) → a = b
 | [], [], _, _, _ => rfl
 | [], y :: l', _, _, h => absurd ((h y).2 (by simp)) (by simp)
 | x :: l, [], _, _, h => absurd ((h x).1 (by simp)) (by simp)
 | x :: l, y :: l', h1, h2, h => by
  have p1 := List.pairwise_cons.1 h1
  have p2 := List.pairwise_cons.1 h2
  have e : x = y := by
   rcases List.mem_cons.1 ((h x).1 (by simp)) with e | e
   ·exact e
   ·rcases List.mem_cons.1 ((h y).2 (by simp)) with e2 | e2
    ·exact e2.symm
    ·have := p1.1 y e2; have := p2.1 x e; omega
  subst e
  rw [srn_ext (n := n) p1.2 p2.2 fun z => ?_]
  constructor
  ·intro hz
   rcases List.mem_cons.1 ((h z).1 (List.mem_cons_of_mem _ hz)) with e | e
   ·subst e; exact absurd (p1.1 z hz) (Nat.lt_irrefl _)
   ·exact e
  ·intro hz
   rcases List.mem_cons.1 ((h z).2 (List.mem_cons_of_mem _ hz)) with e | e
   ·subst e; exact absurd (p2.1 z hz) (Nat.lt_irrefl _)
   ·exact e
theorem Rep.inj {x : Nat} {a b : List Nat} (h1 : Rep x a) (h2 : Rep x b) (ha : a.Pairwise (· < ·)) (hb : b.Pairwise (· < ·)) : a = b :=
 srn_ext (n := 0) ha hb fun n => by
  have := (h1 n).symm.trans (h2 n)
  exact decide_eq_decide.1 this
structure TRel (t : Tr) (u : PT) : Prop where
 nm : t.names = u.nms
 len : t.fol.length = u.fol.length
 ln2 : u.fol.length = u.nms.length
 fol : ∀ i, i < t.fol.length → Rep (gd t.fol i) (gd u.fol i)
theorem gdp_l {α : Type} [Inhabited α] {l : List α} {x : α} {i : Nat} (h : i < l.length) : gd (l ++ [x]) i = gd l i := by
 rw [Bg h, Bg (by simp; omega)]; simp [List.getElem_append, h]
theorem gdp_r {α : Type} [Inhabited α] {l : List α} {x : α} : gd (l ++ [x]) l.length = x := by
 rw [Bg (by simp)]; simp
theorem TRel.push {t : Tr} {u : PT} (h : TRel t u) (s : ByteArray) : TRel ⟨t.names ++ [s], t.fol ++ [0]⟩ ⟨u.nms ++ [s], u.fol ++ [[]]⟩ := by
 refine ⟨by simp [h.nm], by simp [h.len], by simp [h.ln2], fun i hi => ?_⟩
 simp only [List.length_append, List.length_cons, List.length_nil] at hi
 have hl := h.len
 by_cases e : i < t.fol.length
 ·show Rep (gd (t.fol ++ [0]) i) (gd (u.fol ++ [[]]) i)
  rw [gdp_l e, gdp_l (by omega)]; exact h.fol i e
 ·obtain rfl : i = t.fol.length := by omega
  show Rep (gd (t.fol ++ [0]) t.fol.length) (gd (u.fol ++ [[]]) t.fol.length)
  rw [gdp_r, hl, gdp_r]; exact .nil
theorem gd_set_eq {α : Type} [Inhabited α] {l : List α} {x : α} {k : Nat} (h : k < l.length) : gd (l.set k x) k = x := by
 rw [Bg (by simpa using h)]; simp
theorem gd_set_ne {α : Type} [Inhabited α] {l : List α} {x : α} {k i : Nat} (h : ¬ k = i) : gd (l.set k x) i = gd l i := by
 by_cases hi : i < l.length
 ·rw [Bg (by simpa using hi), Bg hi]; simp [List.getElem_set, h]
 ·have e : ∀ l : List α, ¬ i < l.length → gd l i = default := fun l h => by unfold gd; simp [List.getD_eq_getElem?_getD, List.getElem?_eq_none (show l.length ≤ i by omega)]
  rw [e _ hi, e _ (by simpa using hi)]
theorem gd_leadP (to : List Nat) : ∀ {fr : List Nat} {fol : List (List Nat)}, fr.Nodup → (∀ x ∈ fr, x < fol.length) → ∀ i, gd (leadP fol fr to) i = if i ∈ fr then mergeF (gd fol i) to else gd fol i
 | [], fol, _, _, i => by simp [leadP]
 | x :: fr, fol, hn, hx, i => by
  have hn' := List.nodup_cons.1 hn
  have e : leadP fol (x :: fr) to = leadP (fol.set x (mergeF (gd fol x) to)) fr to := rfl
  rw [e, gd_leadP to hn'.2 (fun y hy => by rw [List.length_set]; exact hx y (by simp [hy])) i]
  by_cases h : i = x
  ·subst h
   rw [if_neg hn'.1, if_pos (by simp), gd_set_eq (hx i (by simp))]
  ·have h' : ¬ x = i := fun e => h e.symm
   rw [gd_set_ne h']
   by_cases h2 : i ∈ fr
   ·rw [if_pos h2, if_pos (by simp [h2])]
   ·rw [if_neg h2, if_neg (by simp [h, h2])]
structure ERel (n : Nat) (e : En) (E : PE) : Prop where
 f : Rep e.first E.first
 l : Rep e.last E.last
 emp : e.emp = E.emp
 s1 : Srn n E.first
 s2 : Srn n E.last
theorem Srn.nodup {n : Nat} {l : List Nat} (h : Srn n l) : l.Nodup := h.1.imp fun h => Nat.ne_of_lt h
theorem gd_conn {t : Tr} {a b i : Nat} (h : i < t.fol.length) (hw : t.fol.length ≤ 64) : gd (conn t a b).fol i = if a.testBit i = true then gd t.fol i ||| b else gd t.fol i := by
 have hl : (conn t a b).fol.length = t.fol.length := C8 ..
 rw [Bg (by omega), Bg h]
 simp only [conn, connK, List.getElem_mapIdx]
 by_cases hb : a.testBit i = true
 ·rw [if_pos ⟨by omega, hb⟩, if_pos hb]
 ·rw [if_neg (fun h => hb h.2), if_neg hb]
theorem TRel.lead {t : Tr} {u : PT} (h : TRel t u) {a b : Nat} {fr to : List Nat} (ha : Rep a fr) (hb : Rep b to) (hs : Srn t.names.length fr) (hw : t.fol.length ≤ 64) : TRel (conn t a b) ⟨u.nms, leadP u.fol fr to⟩ := by
 have hl : (conn t a b).fol.length = t.fol.length := C8 ..
 have h1 := h.len
 have h2 := h.ln2
 have h3 : t.names.length = u.nms.length := by rw [h.nm]
 refine ⟨h.nm, by rw [hl, leadP_len]; exact h.len, by rw [leadP_len]; exact h.ln2, fun i hi => ?_⟩
 rw [hl] at hi
 show Rep (gd (conn t a b).fol i) (gd (leadP u.fol fr to) i)
 rw [gd_conn hi hw, gd_leadP to hs.nodup (fun x hx => by have := hs.2 x hx; omega), ha i]
 by_cases hm : i ∈ fr
 ·rw [if_pos (decide_eq_true hm), if_pos hm]; exact (h.fol i hi).or hb
 ·rw [if_neg (by simpa using hm), if_neg hm]; exact h.fol i hi
theorem read_rel : ∀ (e : Re) {t : Tr} {u : PT}, TRel t u → t.names.length + e.lv ≤ 64 → TRel (addF e t).1 (readP e u).1 ∧ ERel (t.names.length + e.lv) (addF e t).2 (readP e u).2 ∧ (addF e t).1.names.length = t.names.length + e.lv
 | .emp, t, u, h, _ => ⟨h, ⟨.nil, .nil, rfl, .nil, .nil⟩, rfl⟩
 | .nod s, t, u, h, _ => by
  have hk : t.names.length = u.fol.length := by rw [h.nm, h.ln2]
  refine ⟨h.push s, ⟨?_, ?_, rfl, ?_, ?_⟩, by simp [addF, Re.lv]⟩
  ·show Rep (2 ^ t.names.length) [u.fol.length]; rw [hk]; exact .one _
  ·show Rep (2 ^ t.names.length) [u.fol.length]; rw [hk]; exact .one _
  ·exact .one (by simp only [Re.lv]; omega)
  ·exact .one (by simp only [Re.lv]; omega)
 | .any, t, u, h, _ => by
  have hk : t.names.length = u.fol.length := by rw [h.nm, h.ln2]
  refine ⟨h.push _, ⟨?_, ?_, rfl, ?_, ?_⟩, by simp [addF, Re.lv]⟩
  ·show Rep (2 ^ t.names.length) [u.fol.length]; rw [hk]; exact .one _
  ·show Rep (2 ^ t.names.length) [u.fol.length]; rw [hk]; exact .one _
  ·exact .one (by simp only [Re.lv]; omega)
  ·exact .one (by simp only [Re.lv]; omega)
 | .alt a b, t, u, h, hl => by
  simp only [Re.lv] at hl
  obtain ⟨a1, a2, a3⟩ := read_rel a h (by omega)
  obtain ⟨b1, b2, b3⟩ := read_rel b a1 (by omega)
  have hle : t.names.length + a.lv ≤ t.names.length + (a.lv + b.lv) := by omega
  have hee : (addF a t).1.names.length + b.lv = t.names.length + (a.lv + b.lv) := by omega
  rw [hee] at b2
  exact ⟨b1, ⟨a2.f.or b2.f, a2.l.or b2.l, by show ((addF a t).2.emp || _) = _; rw [a2.emp, b2.emp]; rfl, (a2.s1.le hle).merge b2.s1, (a2.s2.le hle).merge b2.s2⟩, by simp only [Re.lv]; show (addF b (addF a t).1).1.names.length = _; omega⟩
 | .seq a b, t, u, h, hl => by
  simp only [Re.lv] at hl
  obtain ⟨a1, a2, a3⟩ := read_rel a h (by omega)
  obtain ⟨b1, b2, b3⟩ := read_rel b a1 (by omega)
  have hle : t.names.length + a.lv ≤ t.names.length + (a.lv + b.lv) := by omega
  have hee : (addF a t).1.names.length + b.lv = t.names.length + (a.lv + b.lv) := by omega
  rw [hee] at b2
  have hfl : (addF b (addF a t).1).1.fol.length ≤ 64 := by rw [b1.len, b1.ln2, ← b1.nm]; omega
  have hn : (addF b (addF a t).1).1.names.length = t.names.length + (a.lv + b.lv) := by omega
  refine ⟨b1.lead a2.l b2.f (by rw [hn]; exact a2.s2.le hle) hfl, ⟨?_, ?_, ?_, ?_, ?_⟩, by simp only [Re.lv]; exact hn⟩
  ·show Rep (if (addF a t).2.emp = true then (addF a t).2.first ||| (addF b (addF a t).1).2.first else (addF a t).2.first) (if (readP a u).2.emp = true then mergeF (readP a u).2.first (readP b (readP a u).1).2.first else (readP a u).2.first)
   rw [a2.emp]; split
   ·exact a2.f.or b2.f
   ·exact a2.f
  ·show Rep (if (addF b (addF a t).1).2.emp = true then (addF b (addF a t).1).2.last ||| (addF a t).2.last else (addF b (addF a t).1).2.last) (if (readP b (readP a u).1).2.emp = true then mergeF (readP b (readP a u).1).2.last (readP a u).2.last else (readP b (readP a u).1).2.last)
   rw [b2.emp]; split
   ·exact b2.l.or a2.l
   ·exact b2.l
  ·show ((addF a t).2.emp && (addF b (addF a t).1).2.emp) = _
   rw [a2.emp, b2.emp]; rfl
  ·show Srn _ (if (readP a u).2.emp = true then mergeF (readP a u).2.first (readP b (readP a u).1).2.first else (readP a u).2.first)
   simp only [Re.lv]
   split
   ·exact (a2.s1.le hle).merge b2.s1
   ·exact a2.s1.le hle
  ·show Srn _ (if (readP b (readP a u).1).2.emp = true then mergeF (readP b (readP a u).1).2.last (readP a u).2.last else (readP b (readP a u).1).2.last)
   simp only [Re.lv]
   split
   ·exact b2.s2.merge (a2.s2.le hle)
   ·exact b2.s2
 | .star a, t, u, h, hl => by
  simp only [Re.lv] at hl
  obtain ⟨a1, a2, a3⟩ := read_rel a h (by omega)
  have hfl : (addF a t).1.fol.length ≤ 64 := by rw [a1.len, a1.ln2, ← a1.nm]; omega
  exact ⟨a1.lead a2.l a2.f (by rw [a3]; exact a2.s2) hfl, ⟨a2.f, a2.l, rfl, a2.s1, a2.s2⟩, a3⟩
end Go.Proofs.YtkdolgnpkjihpaaGreatDoor
namespace Go.Proofs.YtkdolgnpkjihpaaGreatDoor
open _root_.Go.Proofs.Tryz
open Go.RowKit
set_option linter.unusedVariables false
set_option linter.unusedSimpArgs false
theorem toInts_inj {a b : List Nat} (h : toInts a = toInts b) : a = b := by
 unfold toInts at h
 exact (List.map_inj_right (f := fun k : Nat => (k : Int)) fun x y e => Int.ofNat.inj e).1 h
def SRel (n : Nat) (s : St) (l : List Int) : Prop := (s = s00 ∧ l = [-1]) ∨ (s.2 = true ∧ ∃ ns, Srn n ns ∧ l = toInts ns ∧ Rep s.1 ns)
theorem neg_toInts {ns : List Nat} : ¬ [(-1 : Int)] = toInts ns := fun e => by
 have h : (-1 : Int) ∈ toInts ns := by rw [← e]; simp
 obtain ⟨k, _, hk⟩ := mem_toInts.1 h
 omega
theorem SRel.iff {n : Nat} {s s' : St} {l l' : List Int} (h : SRel n s l) (h' : SRel n s' l') : s = s' ↔ l = l' := by
 rcases h with ⟨rfl, rfl⟩ | ⟨h1, ns, h2, rfl, h3⟩ <;> rcases h' with ⟨rfl, rfl⟩ | ⟨g1, ms, g2, rfl, g3⟩
 ·simp
 ·exact ⟨fun e => (by rw [← e] at g1; cases g1), fun e => absurd e neg_toInts⟩
 ·exact ⟨fun e => (by rw [e] at h1; cases h1), fun e => absurd e.symm neg_toInts⟩
 ·constructor
  ·rintro rfl; rw [h3.inj g3 h2.1 g2.1]
  ·intro e
   have := toInts_inj e
   subst this
   exact Prod.ext (h3.eq g3) (by rw [h1, g1])
structure LRel (n : Nat) (L : List St) (M : List (List Int)) : Prop where
 len : L.length = M.length
 at' : ∀ i, i < L.length → SRel n (gd L i) (gd M i)
theorem idx_before {α : Type} [DecidableEq α] [Inhabited α] {l : List α} {x : α} {j : Nat} (h : j < idx l x) (hl : j < l.length) : ¬ gd l j = x := fun e => by
 have h4 : j < l.findIdx (fun y => y == x) := h
 have h5 := List.not_of_lt_findIdx h4
 rw [Bg hl] at e
 simp [e] at h5
theorem LRel.idx {n : Nat} {L : List St} {M : List (List Int)} (h : LRel n L M) {s : St} {l : List Int} (hs : SRel n s l) : idx L s = idx M l ∧ (s ∈ L ↔ l ∈ M) := by
 have hl := h.len
 by_cases hm : s ∈ L
 ·have h1 := Dn hm
  have h2 := idx_get hm
  have h3 : gd M (Go.Proofs.YtkdolgnpkjihpaaGreatDoor.idx L s) = l := ((h.at' _ h1).iff hs).1 h2
  refine ⟨(idx_at (by omega) h3 fun j hj e => idx_before hj (by omega) (((h.at' j (by omega)).iff hs).2 e)).symm, fun _ => by rw [← h3]; exact Az (by omega), fun _ => hm⟩
 ·have hm2 : l ∉ M := fun hM => by
   obtain ⟨j, hj, e⟩ := List.getElem_of_mem hM
   have e2 : gd M j = l := by rw [Bg hj]; exact e
   exact hm (by rw [← ((h.at' j (by omega)).iff hs).2 e2]; exact Az (by omega))
  exact ⟨by rw [idx_not hm, idx_not hm2, hl], fun e => absurd e hm, fun e => absurd e hm2⟩
theorem LRel.push {n : Nat} {L : List St} {M : List (List Int)} (h : LRel n L M) {s : St} {l : List Int} (hs : SRel n s l) : LRel n (L ++ [s]) (M ++ [l]) := by
 refine ⟨by simp [h.len], fun i hi => ?_⟩
 have hl := h.len
 simp only [List.length_append, List.length_cons, List.length_nil] at hi
 by_cases e : i < L.length
 ·rw [gdp_l e, gdp_l (by omega)]; exact h.at' i e
 ·obtain rfl : i = L.length := by omega
  rw [gdp_r, hl, gdp_r]; exact hs
theorem LRel.add {n : Nat} {L : List St} {M : List (List Int)} (h : LRel n L M) {s : St} {l : List Int} (hs : SRel n s l) : LRel n (addSt L s) (addL M l) := by
 have h1 := (h.idx hs).2
 unfold addSt addL
 by_cases hm : s ∈ L
 ·rw [if_pos hm, if_pos (h1.1 hm)]; exact h
 ·rw [if_neg hm, if_neg (fun e => hm (h1.2 e))]; exact h.push hs
theorem orR_bit (fol : List Nat) (x n : Nat) : ∀ i, (orK fol x i).testBit n = true ↔ ∃ k, k < i ∧ x.testBit k = true ∧ (gd fol k).testBit n = true
 | 0 => by simp [orK]
 | i + 1 => by
  rw [orK_succ]
  have ih := orR_bit fol x n i
  by_cases hb : x.testBit i = true
  ·rw [if_pos hb, Nat.testBit_or, Bool.or_eq_true, ih]
   constructor
   ·rintro (⟨k, h1, h2⟩ | h)
    ·exact ⟨k, by omega, h2⟩
    ·exact ⟨i, by omega, hb, h⟩
   ·rintro ⟨k, h1, h2, h3⟩
    by_cases e : k = i
    ·subst e; exact .inr h3
    ·exact .inl ⟨k, by omega, h2, h3⟩
  ·rw [if_neg hb, ih]
   constructor
   ·rintro ⟨k, h1, h2⟩; exact ⟨k, by omega, h2⟩
   ·rintro ⟨k, h1, h2, h3⟩
    by_cases e : k = i
    ·subst e; exact absurd h2 hb
    ·exact ⟨k, by omega, h2, h3⟩
theorem mem_tkR {nms names : List ByteArray} {a n : Nat} : ∀ {nx to : List Nat}, n ∈ tkR nms names a to nx ↔ n ∈ to ∨ (n ∈ nx ∧ takP (gd nms n) names a = true)
 | [], to => by simp [tkR]
 | x :: nx, to => by
  have e : tkR nms names a to (x :: nx) = tkR nms names a (if takP (gd nms x) names a then putF x to else to) nx := rfl
  rw [e, mem_tkR]
  by_cases h : takP (gd nms x) names a = true
  ·rw [if_pos h, mem_putF, List.mem_cons]
   constructor
   ·rintro ((rfl | h2) | h2)
    ·exact .inr ⟨.inl U, h⟩
    ·exact .inl h2
    ·exact .inr ⟨.inr h2.1, h2.2⟩
   ·rintro (h2 | ⟨rfl | h2, h3⟩)
    ·exact .inl (.inr h2)
    ·exact .inl (.inl U)
    ·exact .inr ⟨h2, h3⟩
  ·rw [if_neg h, List.mem_cons]
   constructor
   ·rintro (h2 | h2)
    ·exact .inl h2
    ·exact .inr ⟨.inr h2.1, h2.2⟩
   ·rintro (h2 | ⟨rfl | h2, h3⟩)
    ·exact .inl h2
    ·exact absurd h3 h
    ·exact .inr ⟨h2, h3⟩
theorem mem_stR {t : PT} {first : List Nat} {names : List ByteArray} {a n : Nat} : ∀ {st : List Int} {to : List Nat}, n ∈ st.foldl (fun to s => tkR t.nms names a to (nxR t.fol first s)) to ↔ n ∈ to ∨ ((∃ s ∈ st, n ∈ nxR t.fol first s) ∧ takP (gd t.nms n) names a = true)
 | [], to => by simp
 | x :: st, to => by
  rw [List.foldl_cons, mem_stR, mem_tkR]
  constructor
  ·rintro ((h | h) | ⟨⟨s, h1, h2⟩, h3⟩)
   ·exact .inl h
   ·exact .inr ⟨⟨x, by simp, h.1⟩, h.2⟩
   ·exact .inr ⟨⟨s, by simp [h1], h2⟩, h3⟩
  ·rintro (h | ⟨⟨s, h1, h2⟩, h3⟩)
   ·exact .inl (.inl h)
   ·rcases List.mem_cons.1 h1 with rfl | h1
    ·exact .inl (.inr ⟨h2, h3⟩)
    ·exact .inr ⟨⟨s, h1, h2⟩, h3⟩
structure Both (t : Tr) (e : En) (u : PT) (E : PE) : Prop where
 tr : TRel t u
 er : ERel t.names.length e E
 ok : TrOk t
 low : Low t
theorem step_rel {t : Tr} {e : En} {u : PT} {E : PE} (h : Both t e u E) {s : St} {l : List Int} (hs : SRel t.names.length s l) (names : List ByteArray) (a : Nat) : Rep (stepL t names (canAt t e s) a 256) (stR u E.first names a l) := fun n => by
 have hfew := h.ok.few
 have hlen := h.ok.len
 rw [stepL_bit, takL_eq, h.tr.nm, Bool.eq_iff_iff]
 have hst : n ∈ stR u E.first names a l ↔ (∃ s ∈ l, n ∈ nxR u.fol E.first s) ∧ takP (gd u.nms n) names a = true := by
  unfold stR; rw [mem_stR]; simp
 rw [decide_eq_true_iff, hst, show (decide (gd u.nms n = ⟨#[]⟩) || (decide (a < names.length) && decide (gd u.nms n = gd names a))) = takP (gd u.nms n) names a from rfl]
 simp only [Bool.and_eq_true, decide_eq_true_eq]
 have key : (canAt t e s).testBit n = true ↔ ∃ s ∈ l, n ∈ nxR u.fol E.first s := by
  rcases hs with ⟨rfl, rfl⟩ | ⟨h1, ns, h2, rfl, h3⟩
  ·have e1 : canAt t e s00 = e.first := rfl
   rw [e1, h.er.f n, decide_eq_true_iff]
   constructor
   ·intro hm; exact ⟨-1, by simp, by unfold nxR; rw [if_neg (by omega)]; exact hm⟩
   ·rintro ⟨x, hx, hm⟩
    obtain rfl : x = -1 := by simpa using hx
    unfold nxR at hm; rw [if_neg (by omega)] at hm; exact hm
  ·have e1 : canAt t e s = orK t.fol s.1 256 := by unfold canAt; rw [if_pos h1]
   rw [e1, orR_bit]
   constructor
   ·rintro ⟨k, k1, k2, k3⟩
    rw [h3 k, decide_eq_true_iff] at k2
    have hk := h2.2 k k2
    rw [h.tr.fol k (by omega) n, decide_eq_true_iff] at k3
    exact ⟨k, mem_toInts.2 ⟨k, k2, rfl⟩, by unfold nxR; rw [if_pos (by omega)]; exact k3⟩
   ·rintro ⟨x, hx, hm⟩
    obtain ⟨k, k2, rfl⟩ := mem_toInts.1 hx
    have hk := h2.2 k k2
    unfold nxR at hm; rw [if_pos (by omega)] at hm
    exact ⟨k, by omega, by rw [h3 k]; exact decide_eq_true k2, by rw [h.tr.fol k (by omega) n]; exact decide_eq_true hm⟩
 rw [key]
 constructor
 ·rintro ⟨_, h2, h3⟩; exact ⟨h2, h3⟩
 ·rintro ⟨h2, h3⟩
  refine ⟨?_, h2, h3⟩
  have hc : canAt t e s < 2 ^ t.names.length := by
   rcases hs with ⟨rfl, rfl⟩ | ⟨h1, ns, g2, rfl, g3⟩
   ·show e.first < _
    refine Nat.lt_pow_two_of_testBit _ fun i hi => ?_
    rw [h.er.f i]; exact decide_eq_false fun hm => by have := h.er.s1.2 i hm; omega
   ·unfold canAt; rw [if_pos h1]
    refine orK_lt h.ok h.low (Nat.lt_pow_two_of_testBit _ fun i hi => ?_) 256
    rw [g3 i]; exact decide_eq_false fun hm => by have := g2.2 i hm; omega
  have := bit_lt hc (key.2 h2)
  omega
theorem stR_ok {t : Tr} {e : En} {u : PT} {E : PE} (h : Both t e u E) {s : St} {l : List Int} (hs : SRel t.names.length s l) (names : List ByteArray) (a : Nat) : SRel t.names.length (stepL t names (canAt t e s) a 256, true) (toInts (stR u E.first names a l)) := by
 have hlen := h.ok.len
 refine .inr ⟨rfl, _, ?_, rfl, step_rel h hs names a⟩
 refine stR_srn h.er.s1.2 (fun i hi x hx => ?_) .nil (fun x hx => ?_)
 ·have h1 := (h.tr.fol i (by omega) x).trans (decide_eq_true hx)
  exact bit_lt (h.low _ (Az (by omega))) h1
 ·rcases hs with ⟨rfl, rfl⟩ | ⟨h1, ns, g2, rfl, g3⟩
  ·left; simpa using hx
  ·obtain ⟨k, hk, rfl⟩ := mem_toInts.1 hx
   have := g2.2 k hk
   right; omega
theorem row_rel {t : Tr} {e : En} {u : PT} {E : PE} (h : Both t e u E) {s : St} {l : List Int} (hs : SRel t.names.length s l) (names : List ByteArray) {L : List St} {M : List (List Int)} (hL : LRel t.names.length L M) : ∀ a, LRel t.names.length (rowF t names (canAt t e s) L a).1 (rwR u E.first names l M a).1 ∧ (rowF t names (canAt t e s) L a).2 = (rwR u E.first names l M a).2
 | 0 => ⟨hL, rfl⟩
 | a + 1 => by
  obtain ⟨h1, h2⟩ := row_rel h hs names hL a
  have h3 := stR_ok h hs names a
  rw [rowF_succ, rwR_succ]
  exact ⟨h1.add h3, by simp only []; rw [h2, (h1.idx h3).1]⟩
theorem acc_rel {t : Tr} {e : En} {u : PT} {E : PE} (h : Both t e u E) {s : St} {l : List Int} (hs : SRel t.names.length s l) (k : Nat) : accAt e k s = acR E k l := by
 have key : decide (¬ s.1 &&& e.last = 0) = l.any fun s => decide (s ∈ toInts E.last) := by
  rw [Bool.eq_iff_iff, decide_eq_true_iff, List.any_eq_true]
  rcases hs with ⟨rfl, rfl⟩ | ⟨h1, ns, g2, rfl, g3⟩
  ·constructor
   ·intro hn; exact absurd (by show 0 &&& e.last = 0; simp) hn
   ·rintro ⟨x, hx, hm⟩
    obtain rfl : x = -1 := by simpa using hx
    obtain ⟨k, _, hk⟩ := mem_toInts.1 (of_decide_eq_true hm)
    omega
  ·constructor
   ·intro hn
    obtain ⟨i, hi⟩ : ∃ i, (s.1 &&& e.last).testBit i = true := Classical.byContradiction fun hno => hn (Nat.eq_of_testBit_eq fun i => by
     rw [Nat.zero_testBit]
     cases hb : (s.1 &&& e.last).testBit i with
     | false => rfl
     | true => exact absurd ⟨i, hb⟩ hno)
    rw [Nat.testBit_and, Bool.and_eq_true, g3 i, h.er.l i, decide_eq_true_iff, decide_eq_true_iff] at hi
    exact ⟨i, mem_toInts.2 ⟨i, hi.1, rfl⟩, decide_eq_true (mem_toInts.2 ⟨i, hi.2, rfl⟩)⟩
   ·rintro ⟨x, hx, hm⟩ h0
    obtain ⟨i, hi, rfl⟩ := mem_toInts.1 hx
    obtain ⟨j, hj, e2⟩ := mem_toInts.1 (of_decide_eq_true hm)
    obtain rfl : j = i := by omega
    have h5 : (s.1 &&& e.last).testBit j = true := by
     rw [Nat.testBit_and, g3 j, h.er.l j, decide_eq_true hi, decide_eq_true hj]; rfl
    rw [h0, Nat.zero_testBit] at h5; cases h5
 unfold accAt acR
 rw [key, h.er.emp, Bool.or_comm]
 congr 2
 exact decide_eq_decide.2 (by omega)
theorem raw_rel {t : Tr} {e : En} {u : PT} {E : PE} (h : Both t e u E) (names : List ByteArray) : ∀ (f k : Nat) {L : List St} {M : List (List Int)} (rows : List (List Nat)) (acc : List Bool), LRel t.names.length L M → rawGo t e names f k L rows acc = rawGoR u E names f k M rows acc
 | 0, _, _, _, _, _, _ => rfl
 | f + 1, k, L, M, rows, acc, hL => by
  have hl := hL.len
  rw [rawGo_succ, rawGoR_succ]
  by_cases hk : k < L.length
  ·have hs := hL.at' k hk
   obtain ⟨h1, h2⟩ := row_rel h hs names hL (names.length + 1)
   rw [if_pos hk, if_pos (show k < M.length by omega), h1.len]
   by_cases hb : 200 < (rwR u E.first names (gd M k) M (names.length + 1)).1.length
   ·rw [if_pos hb, if_pos hb]
   ·rw [if_neg hb, if_neg hb, h2, acc_rel h hs k]
    exact raw_rel h names f (k + 1) _ _ h1
  ·rw [if_neg hk, if_neg (show ¬ k < M.length by omega)]
theorem rawR_eq {e : Re} (hl : e.lv ≤ 64) : rawR e (letF e) = rawF e := by
 have h0 : TRel t00 ⟨[], []⟩ := ⟨rfl, rfl, rfl, fun i hi => absurd hi (Nat.not_lt_zero _)⟩
 obtain ⟨h1, h2, h3⟩ := read_rel e h0 (by show 0 + e.lv ≤ 64; omega)
 rw [← h3] at h2
 have hB : Both (addF e t00).1 (addF e t00).2 (readP e ⟨[], []⟩).1 (readP e ⟨[], []⟩).2 := ⟨h1, h2, (C7 e D3 (by show 0 + e.lv ≤ 64; omega)).1, add_low e D3 (by show 0 + e.lv ≤ 64; omega) t00_low⟩
 unfold rawR rawF
 exact (raw_rel hB (letF e) 201 0 [] [] ⟨rfl, fun i hi => by
  obtain rfl : i = 0 := by simp at hi; exact hi
  exact .inl ⟨rfl, rfl⟩⟩).symm
end Go.Proofs.YtkdolgnpkjihpaaGreatDoor
namespace Go.Proofs.YtkdolgnpkjihpaaGreatDoor
open _root_.Go.Proofs.Tryz
open Go.RowKit
set_option linter.unusedVariables false
set_option linter.unusedSimpArgs false
theorem nodup_of : ∀ {l l' : List Nat}, l.Nodup → (∀ x ∈ l, x ∈ l') → l'.length ≤ l.length → l'.Nodup
 | [], l', _, _, h => by
  have : l' = [] := List.eq_nil_of_length_eq_zero (by simpa using h)
  subst this; exact .nil
 | x :: l, l', hn, hs, hl => by
  have hn' := List.nodup_cons.1 hn
  obtain ⟨p, q, rfl⟩ := List.append_of_mem (hs x (by simp))
  have hlen : (p ++ q).length ≤ l.length := by simp at hl ⊢; omega
  have hsub : ∀ y ∈ l, y ∈ p ++ q := fun y hy => by
   have h1 := hs y (by simp [hy])
   have h2 : ¬ y = x := fun e => by subst e; exact hn'.1 hy
   simp only [List.mem_append, List.mem_cons] at h1 ⊢
   rcases h1 with h1 | h1 | h1
   ·exact .inl h1
   ·exact absurd h1 h2
   ·exact .inr h1
  have hpq := nodup_of hn'.2 hsub hlen
  have hx : x ∉ p ++ q := fun hm => by
   have := nodup_le hn (l' := p ++ q) fun y hy => by
    rcases List.mem_cons.1 hy with rfl | hy
    ·exact hm
    ·exact hsub y hy
   simp only [List.length_cons] at this; omega
  exact (List.perm_middle.nodup_iff).2 (List.nodup_cons.2 ⟨hx, hpq⟩)
theorem idx_addL {l : List (List Int)} {s x : List Int} (h : x ∈ l) : idx (addL l s) x = idx l x := by
 unfold addL; split
 ·rfl
 ·have h1 := Dn h
  exact idx_at (by simp; omega) (by rw [gdp_l h1]; exact idx_get h) fun j hj e => idx_before hj (by omega) (by rw [gdp_l (by omega)] at e; exact e)
theorem mem_addL {l : List (List Int)} {s x : List Int} : x ∈ addL l s ↔ x ∈ l ∨ x = s := by
 unfold addL; split
 ·rename_i h
  constructor
  ·exact .inl
  ·rintro (h2 | rfl)
   ·exact h2
   ·exact h
 ·simp
theorem addL_nd {l : List (List Int)} {s : List Int} (h : l.Nodup) : (addL l s).Nodup := by
 unfold addL; split
 ·exact h
 ·rename_i h2
  exact List.nodup_append.2 ⟨h, by simp, fun a ha b hb e => by simp at hb; subst hb; subst e; exact h2 ha⟩
theorem sgK_sem (m : PM) (b : List Nat) : ∀ i, (sgK m b i).1.Nodup ∧ (∀ x, x ∈ (sgK m b i).1 ↔ ∃ j, j < i ∧ toInts (sgR m b j) = x) ∧ ∀ j, j < i → gd (sgK m b i).2 j = idx (sgK m b i).1 (toInts (sgR m b j))
 | 0 => ⟨.nil, fun x => ⟨(fun h => by cases h), fun ⟨j, h, _⟩ => absurd h (Nat.not_lt_zero _)⟩, fun j h => absurd h (Nat.not_lt_zero _)⟩
 | i + 1 => by
  obtain ⟨h1, h2, h3⟩ := sgK_sem m b i
  have hl := (sgK_len m b i).1
  rw [sgK_succ]
  refine ⟨addL_nd h1, fun x => ?_, fun j hj => ?_⟩
  ·show x ∈ addL _ _ ↔ _
   rw [mem_addL, h2]
   constructor
   ·rintro (⟨j, h4, h5⟩ | rfl)
    ·exact ⟨j, by omega, h5⟩
    ·exact ⟨i, by omega, rfl⟩
   ·rintro ⟨j, h4, h5⟩
    by_cases e : j = i
    ·subst e; exact .inr h5.symm
    ·exact .inl ⟨j, by omega, h5⟩
  ·show gd ((sgK m b i).2 ++ _) j = idx (addL _ _) _
   by_cases e : j < i
   ·rw [gdp_l (by omega), h3 j e, idx_addL ((h2 _).2 ⟨j, e, rfl⟩)]
   ·obtain rfl : j = i := by omega
    have e2 : gd ((sgK m b j).2 ++ [idx (sgK m b j).1 (toInts (sgR m b j))]) (sgK m b j).2.length = idx (sgK m b j).1 (toInts (sgR m b j)) := gdp_r
    rw [hl] at e2
    rw [e2]
    by_cases hm : toInts (sgR m b j) ∈ (sgK m b j).1
    ·rw [idx_addL hm]
    ·unfold addL; rw [if_neg hm, idx_app hm]
theorem sg_iff (m : PM) (b : List Nat) {n i k : Nat} (hi : i < n) (hk : k < n) : gd (sgK m b n).2 i = gd (sgK m b n).2 k ↔ sgR m b i = sgR m b k := by
 obtain ⟨h1, h2, h3⟩ := sgK_sem m b n
 rw [h3 i hi, h3 k hk]
 constructor
 ·intro e
  have a1 := idx_get ((h2 _).2 ⟨i, hi, rfl⟩)
  have a2 := idx_get ((h2 _).2 ⟨k, hk, rfl⟩)
  rw [e, a2] at a1
  exact (toInts_inj a1).symm
 ·intro e; rw [e]
theorem sgR_iff {m : PM} (hp : PMok m) (b : List Nat) {i k : Nat} (hi : i < m.next.length) (hk : k < m.next.length) : sgR m b i = sgR m b k ↔ gd b i = gd b k ∧ ∀ a, a < m.names.length + 1 → gd b (nx m i a) = gd b (nx m k a) := by
 have r1 := (hp.row _ (Az hi)).1
 have r2 := (hp.row _ (Az hk)).1
 unfold sgR
 rw [List.cons.injEq]
 refine and_congr_right fun _ => ?_
 constructor
 ·intro e a ha
  have e2 : gd ((gd m.next i).map (gd b)) a = gd ((gd m.next k).map (gd b)) a := by rw [e]
  rw [Cz (by omega), Cz (by omega)] at e2
  exact e2
 ·intro h
  refine list_eq (by simp [r1, r2]) fun j hj => ?_
  rw [List.length_map] at hj
  rw [Cz hj, Cz (by omega)]
  exact h j (by omega)
structure Cls (m : PM) (b : List Nat) : Prop where
 acc : ∀ i, i < m.next.length → ∀ k, k < m.next.length → gd b i = gd b k → gd m.acc i = gd m.acc k
 dst : ∀ i, i < m.next.length → ∀ k, k < m.next.length → ¬ gd b i = gd b k → Dst m i k
theorem Cls.next {m : PM} (hp : PMok m) {b : List Nat} (h : Cls m b) : Cls m (sgK m b m.next.length).2 := by
 refine ⟨fun i hi k hk e => ?_, fun i hi k hk e => ?_⟩
 ·exact h.acc i hi k hk ((sgR_iff hp b hi hk).1 ((sg_iff m b hi hk).1 e)).1
 ·by_cases e1 : gd b i = gd b k
  ·have h2 : ¬ ∀ a, a < m.names.length + 1 → gd b (nx m i a) = gd b (nx m k a) := fun h3 => e ((sg_iff m b hi hk).2 ((sgR_iff hp b hi hk).2 ⟨e1, h3⟩))
   obtain ⟨a, ha⟩ := Classical.not_forall.1 h2
   obtain ⟨ha1, ha2⟩ := Classical.not_imp.1 ha
   exact .step ha1 (h.dst _ (nx_lt hp hi ha1) _ (nx_lt hp hk ha1) ha2)
  ·exact h.dst i hi k hk e1
def Full (n : Nat) (b : List Nat) (c : Nat) : Prop := ∀ v, v < c → ∃ i, i < n ∧ gd b i = v
theorem sg_full (m : PM) (b : List Nat) (n : Nat) : Full n (sgK m b n).2 (sgK m b n).1.length := fun v hv => by
 obtain ⟨h1, h2, h3⟩ := sgK_sem m b n
 obtain ⟨j, hj, e⟩ := (h2 _).1 (Az hv)
 refine ⟨j, hj, ?_⟩
 rw [h3 j hj, e]
 refine idx_at hv U fun k hk e2 => ?_
 rw [Bg (by omega), Bg hv] at e2
 exact List.pairwise_iff_getElem.1 h1 k v (by omega) hv hk e2
theorem sg_same {m : PM} {b : List Nat} {n c : Nat} (hf : Full n b c) (hlt : ∀ i, i < n → gd b i < c) (hc : (sgK m b n).1.length ≤ c) {i k : Nat} (hi : i < n) (hk : k < n) (e : gd b i = gd b k) : gd (sgK m b n).2 i = gd (sgK m b n).2 k := by
 obtain ⟨h1, h2, h3⟩ := sgK_sem m b n
 have hd : ∀ j, ((toInts (sgR m b j)).headD 0).toNat = gd b j := fun j => by simp [sgR, toInts]
 have hnd : ((sgK m b n).1.map fun s => (s.headD 0).toNat).Nodup := by
  refine nodup_of (l := List.range c) List.nodup_range (fun v hv => ?_) (by simpa using hc)
  obtain ⟨j, hj, rfl⟩ := hf v (List.mem_range.1 hv)
  exact List.mem_map.2 ⟨_, (h2 _).2 ⟨j, hj, rfl⟩, hd j⟩
 rw [h3 i hi, h3 k hk]
 have m1 := (h2 _).2 ⟨i, hi, rfl⟩
 have m2 := (h2 _).2 ⟨k, hk, rfl⟩
 have l1 := Dn m1
 have l2 := Dn m2
 refine Classical.byContradiction fun hne => ?_
 have hg : ∀ x (hx : x < (sgK m b n).1.length) , ((sgK m b n).1.map fun s => (s.headD 0).toNat)[x]'(by simpa using hx) = ((gd (sgK m b n).1 x).headD 0).toNat := fun x hx => by rw [Bg hx]; simp
 have e1 := hg _ l1
 have e2 := hg _ l2
 rw [idx_get m1, hd] at e1
 rw [idx_get m2, hd] at e2
 rcases Nat.lt_or_gt_of_ne hne with h | h
 ·exact List.pairwise_iff_getElem.1 hnd _ _ (by simpa using l1) (by simpa using l2) h (by rw [e1, e2, e])
 ·exact List.pairwise_iff_getElem.1 hnd _ _ (by simpa using l2) (by simpa using l1) h (by rw [e1, e2, e])
theorem sg_part {m : PM} (hp : PMok m) {b : List Nat} {c : Nat} (h : Cls m b) (hf : Full m.next.length b c) (hlt : ∀ i, i < m.next.length → gd b i < c) (hc : (sgK m b m.next.length).1.length ≤ c) : Part m (sgK m b m.next.length).2 := by
 have h2 := h.next hp
 refine ⟨h2.acc, fun i hi k hk e a ha => ?_, h2.dst⟩
 have h3 := ((sgR_iff hp b hi hk).1 ((sg_iff m b hi hk).1 e)).2 a ha
 exact sg_same hf hlt hc (nx_lt hp hi ha) (nx_lt hp hk ha) h3
theorem cl_part {m : PM} (hp : PMok m) : ∀ (f : Nat) {b : List Nat} {c : Nat}, Cls m b → 0 < c → Full m.next.length b c → (∀ i, i < m.next.length → gd b i < c) → c ≤ m.next.length → 201 ≤ f + c → Part m (clR m f b c)
 | 0, b, c, _, _, _, _, hc, hf => by have := hp.few; omega
 | f + 1, b, c, h, h0, hfu, hlt, hc, hf => by
  rw [clR_succ]
  split
  ·rename_i hlt2
   have hl := sgK_len m b m.next.length
   refine cl_part hp f (h.next hp) (by omega) (sg_full m b _) (fun i hi => ?_) hl.2 (by omega)
   obtain ⟨h1, h2, h3⟩ := sgK_sem m b m.next.length
   rw [h3 i hi]
   exact Dn ((h2 _).2 ⟨i, hi, rfl⟩)
  ·rename_i hge
   exact sg_part hp h hfu hlt (by omega)
theorem classes_part {m : PM} (hp : PMok m) : Part m (classesR m) := by
 have hs := hp.some'
 have h0 : Cls m (initB m) := by
  have h1 : Prt m (initB m) := .init hp
  exact ⟨h1.acc, h1.dst⟩
 obtain ⟨h1, h2, h3⟩ := sgK_sem m (initB m) m.next.length
 have hl := sgK_len m (initB m) m.next.length
 have hpos : 0 < (sgK m (initB m) m.next.length).1.length := by
  have := (h2 _).2 ⟨0, hs, rfl⟩
  exact List.length_pos_of_mem this
 unfold classesR
 rw [show (201 : Nat) = 200 + 1 from rfl, clR_succ, if_pos hpos]
 refine cl_part hp 200 (h0.next hp) hpos (sg_full m _ _) (fun i hi => ?_) hl.2 (by omega)
 rw [h3 i hi]
 exact Dn ((h2 _).2 ⟨i, hi, rfl⟩)
theorem idx_congr {m : PM} {b b' : List Nat} {n : Nat} (h : ∀ i, i < n → ∀ k, k < n → (gd b i = gd b k ↔ gd b' i = gd b' k)) {order : List Nat} (ho : ∀ x ∈ order, x < n) {t : Nat} (ht : t < n) : idx (order.map (gd b)) (gd b t) = idx (order.map (gd b')) (gd b' t) ∧ (gd b t ∈ order.map (gd b) ↔ gd b' t ∈ order.map (gd b')) := by
 have hlt : ∀ j, j < order.length → gd order j < n := fun j hj => ho _ (Az hj)
 by_cases hm : gd b t ∈ order.map (gd b)
 ·have h1 := Dn hm
  have h2 := idx_get hm
  rw [List.length_map] at h1
  rw [Cz h1] at h2
  have h3 := (h _ (hlt _ h1) _ ht).1 h2
  refine ⟨(idx_at (by simpa using h1) (by rw [Cz h1]; exact h3) fun j hj e => ?_).symm, fun _ => List.mem_map.2 ⟨_, Az h1, h3⟩, fun _ => hm⟩
  rw [Cz (by omega)] at e
  refine idx_before hj (by rw [List.length_map]; omega) ?_
  rw [Cz (by omega)]
  exact (h _ (hlt _ (by omega)) _ ht).2 e
 ·have hm2 : gd b' t ∉ order.map (gd b') := fun hM => by
   obtain ⟨x, hx, e⟩ := List.mem_map.1 hM
   exact hm (List.mem_map.2 ⟨x, hx, (h _ (ho x hx) _ ht).2 e⟩)
  exact ⟨by rw [idx_not hm, idx_not hm2]; simp, fun e => absurd e hm, fun e => absurd e hm2⟩
theorem numK_congr {m : PM} {b b' : List Nat} {n : Nat} (h : ∀ i, i < n → ∀ k, k < n → (gd b i = gd b k ↔ gd b' i = gd b' k)) {tos order : List Nat} (ho : ∀ x ∈ order, x < n) (ht : ∀ x ∈ tos, x < n) : ∀ i, i ≤ tos.length → numK b tos order i = numK b' tos order i ∧ ∀ x ∈ (numK b tos order i).1, x < n
 | 0, _ => ⟨rfl, ho⟩
 | i + 1, hi => by
  obtain ⟨h1, h2⟩ := numK_congr (m := m) h ho ht i (by omega)
  have h3 := ht _ (Az (show i < tos.length by omega))
  obtain ⟨h4, h5⟩ := idx_congr (m := m) h h2 h3
  rw [Cy, Cy, ← h1, h4]
  constructor
  ·by_cases hm : gd b (gd tos i) ∈ (numK b tos order i).1.map (gd b)
   ·rw [if_pos hm, if_pos (h5.1 hm)]
   ·rw [if_neg hm, if_neg (fun e => hm (h5.2 e))]
  ·intro x hx
   simp only [] at hx
   split at hx
   ·exact h2 x hx
   ·rcases List.mem_append.1 hx with hx | hx
    ·exact h2 x hx
    ·simp at hx; subst hx; exact h3
theorem numGo_congr {m : PM} (hp : PMok m) {b b' : List Nat} (h : ∀ i, i < m.next.length → ∀ k, k < m.next.length → (gd b i = gd b k ↔ gd b' i = gd b' k)) : ∀ (f k : Nat) (order : List Nat) (rows : List (List Nat)) (acc : List Bool), (∀ x ∈ order, x < m.next.length) → numGo m b f k order rows acc = numGo m b' f k order rows acc
 | 0, _, _, _, _, _ => rfl
 | f + 1, k, order, rows, acc, ho => by
  rw [numGo_succ, numGo_succ]
  by_cases hk : k < order.length
  ·have ht : ∀ x ∈ gd m.next (gd order k), x < m.next.length := (hp.row _ (Az (ho _ (Az hk)))).2
   obtain ⟨h1, h2⟩ := numK_congr (m := m) h ho ht _ (Nat.le_refl _)
   rw [if_pos hk, if_pos hk, ← h1]
   exact numGo_congr hp h f (k + 1) _ _ _ h2
  ·rw [if_neg hk, if_neg hk]
theorem least_same {m : PM} (hp : PMok m) : numF m (classesR m) = leastF m := by
 have h : ∀ i, i < m.next.length → ∀ k, k < m.next.length → (gd (classesR m) i = gd (classesR m) k ↔ gd (refineF m 201 (initB m)) i = gd (refineF m 201 (initB m)) k) := fun i hi k hk => by
  rw [(classes_part hp).iff hp hi hk, (refine_part0 hp).iff hp hi hk]
 unfold leastF numF
 rw [numGo_congr hp h 201 0 [0] [] [] (fun x hx => by simp at hx; subst hx; exact hp.some')]
end Go.Proofs.YtkdolgnpkjihpaaGreatDoor
namespace Go.Proofs.YtkdolgnpkjihpaaGreatDoor
open _root_.Go.Proofs.Tryz
open Go.RowKit
set_option linter.unusedVariables false
set_option linter.unusedSimpArgs false
theorem rbuild_s {w0 : World} {H : List (Nat × Obj)} (m : Rxm) (e : Re) (hI : Is m e) (hM : RxM w0 H m) (hl : e.lv ≤ 64) (hz : m.sz ≤ 90000) :
    FSpec Tryz.prog w0 13 #[.agg (encRx m).toArray] H (fun v H' => ∃ (mc : Mc) (M : List (Nat × Obj)), (v = .tuple #[.agg (encMc mc).toArray, .int .i64 (buildF leastF e).2] ∧ McOk w0 (M ++ H) mc ∧ mc.pl = (buildF leastF e).1) ∧ H' = M ++ H) := by
  refine A8 Tryz.func13 U ntmps13 U (Ag (Ab (e_ (Bi (T U) cs_) ?_ U)))
  rintro _ _ ⟨n1, rfl, rfl⟩
  refine e_ (Ar zeroValue29 cs_) ?_ U
  rintro _ _ ⟨n2, rfl, rfl⟩
  refine y_ (Ad Ak) (Af (Ae (Ag (Ab (y_ (Am (T U) isAgg24 sizeOf24 U (by first | exact Bh)) ?_ U))))) U
  refine e_ (Aw (.cons (T U) .nil) call55 (sets_s m e hI (hM.mono sbt) hl hz)) ?_ U
  rintro _ _ ⟨mc, M, ⟨rfl, hmc, hsm, hnn⟩, rfl⟩
  rw [ntR_let hI, rawR_eq hl] at hsm hnn ⊢
  obtain ⟨er, her⟩ : ∃ er : Int, er = (if (rawF e).isSome = true then 0 else 2) := ⟨_, rfl⟩
  rw [← her]
  refine y_ (Ac (T U)) (y_ (Bf (T U) U) (y_ (Bf (T U) U) (e_ (Ar zeroValue29 cs_) ?_ U) U) U) U
  rintro _ _ ⟨n4, rfl, rfl⟩
  first | refine A7 (Av (T U) (T U) sizeOf29) U Ah ?_
  rintro _ _ ⟨rfl, rfl⟩
  refine y_ (Ad (T U)) (Af (Ae (Ag (Ag (Ab (y_ (Ac (T U)) (y_ (C0 (T U) Ak) (Af (Ae ?_)) U) U)))))) U
  first | refine Ao (Aa U) (fun c12 => ?_) (fun c12 => ?_) | refine A3 (Aa U) (fun c12 => ?_) (fun c12 => ?_)
  · have hr : rawF e = none := by
      cases h : rawF e with
      | none => rfl
      | some r => rw [h] at her; simp at her; exact absurd her c12
    have he2 : er = 2 := by rw [her, hr]; rfl
    refine Ag (Ab (y_ (Bv .nil (bd29_z)) (y_ (Ac (T U)) ?_ U) U))
    first | refine A7 (Av (T U) (T U) sizeOf29) U Ah ?_
    rintro _ _ ⟨rfl, rfl⟩
    refine y_ (Ad (T U)) (Af (Ae (A5 (An (A6 U (.cellA (Aa U) isAgg29 sizeOf29 U (by first | exact Bh) (.tmp (Aa U) .nil)) ?_))))) U
    have hb : buildF leastF e = (⟨[], [], []⟩, 2) := by unfold buildF; rw [hr]
    rw [hb, he2]
    exact ⟨_, ⟨⟨[], [], [], none, 0, none, 0, none, 0⟩, [], ⟨rfl, ⟨(fun i x hi => by cases hi), (fun i x hi => by cases hi), (fun i x hi => by cases hi), (fun r hr => by cases hr)⟩, rfl⟩, rfl⟩, sbt⟩
  · obtain ⟨r, hr⟩ : ∃ r, rawF e = some r := by
      cases h : rawF e with
      | none => rw [h] at her; simp at her; exact absurd (show er = 2 from her) (by omega)
      | some r => exact ⟨r, rfl⟩
    have hpl := hsm r hr
    have hpo : PMok mc.pl := by rw [hpl]; exact rawF_ok hl hr
    have hnl : mc.names.length ≤ 90001 := by have h1 : mc.names = letF e := congrArg PM.names hpl
                                             rw [h1]; have := letF_few hl; omega
    refine A2 (Ae (Ag (Ab (y_ (Am (T U) isAgg29 sizeOf29 U (by first | exact Bh)) ?_ U))))
    refine e_ (Aw (.cons (T U) .nil) call56 (rleast_s mc ((hmc H).mono sbt) hpo hnl)) ?_ U
    rintro _ _ ⟨mc2, M2, ⟨rfl, hmc2, hpl2⟩, rfl⟩
    first | refine A7 (Av (T U) (T U) sizeOf29) U Ah ?_
    rintro _ _ ⟨rfl, rfl⟩
    refine y_ (Ad Ak) (Af (Ae (A5 (A6 U (.cellA (Aa U) isAgg29 sizeOf29 U (by first | exact Bh) (.tmp (Aa U) .nil)) ?_)))) U
    have hb : buildF leastF e = (leastF mc.pl, 0) := by unfold buildF; rw [hr, hpl]; rfl
    rw [hb]
    exact ⟨_, ⟨mc2, M2 ++ M, ⟨rfl, by rw [List.append_assoc]; exact hmc2 _ (hmc H), by rw [hpl2]; exact least_same hpo⟩, rfl⟩, by rw [List.append_assoc]; exact sbt⟩
end Go.Proofs.YtkdolgnpkjihpaaGreatDoor
namespace Go.Proofs.YtkdolgnpkjihpaaGreatDoor
open _root_.Go.Proofs.Tryz
open Go.RowKit
set_option linter.unusedVariables false
set_option linter.unusedSimpArgs false
theorem nodup_of' {α : Type} [DecidableEq α] : ∀ {l l' : List α}, l.Nodup → (∀ x ∈ l, x ∈ l') → l'.length ≤ l.length → l'.Nodup
 | [], l', _, _, h => by
  have : l' = [] := List.eq_nil_of_length_eq_zero (by simpa using h)
  subst this; exact .nil
 | x :: l, l', hn, hs, hl => by
  have hn' := List.nodup_cons.1 hn
  obtain ⟨p, q, rfl⟩ := List.append_of_mem (hs x (by simp))
  have hlen : (p ++ q).length ≤ l.length := by simp at hl ⊢; omega
  have hsub : ∀ y ∈ l, y ∈ p ++ q := fun y hy => by
   have h1 := hs y (by simp [hy])
   have h2 : ¬ y = x := fun e => by subst e; exact hn'.1 hy
   simp only [List.mem_append, List.mem_cons] at h1 ⊢
   rcases h1 with h1 | h1 | h1
   ·exact .inl h1
   ·exact absurd h1 h2
   ·exact .inr h1
  have hpq := nodup_of' hn'.2 hsub hlen
  have hx : x ∉ p ++ q := fun hm => by
   have := nodup_le hn (l' := p ++ q) fun y hy => by
    rcases List.mem_cons.1 hy with rfl | hy
    ·exact hm
    ·exact hsub y hy
   simp only [List.length_cons] at this; omega
  exact (List.perm_middle.nodup_iff).2 (List.nodup_cons.2 ⟨hx, hpq⟩)
theorem le_of_not {a b : List UInt8} (h : ¬ b < a) : a ≤ b := by
 rcases leU_total a b with h1 | h1
 ·exact h1
 ·rcases leU_or h1 with h2 | h2
  ·exact absurd h2 h
  ·rw [h2]; exact List.le_refl _
theorem srt_le {names : List ByteArray} (h : ∀ i, i < names.length → 0 < i → ¬ toL (gd names i) < toL (gd names (i - 1))) : (names.map toL).Pairwise (· ≤ ·) := by
 have key : ∀ d i, i + d + 1 < names.length → toL (gd names i) ≤ toL (gd names (i + d + 1)) := by
  intro d
  induction d with
  | zero => intro i hi; have := h (i + 1) (by omega) (by omega); exact le_of_not (by simpa using this)
  | succ d ih =>
   intro i hi
   have h1 := ih i (by omega)
   have h2 := h (i + (d + 1) + 1) hi (by omega)
   rw [show i + (d + 1) + 1 - 1 = i + d + 1 by omega] at h2
   exact List.le_trans h1 (le_of_not h2)
 rw [List.pairwise_map]
 refine List.pairwise_iff_getElem.2 fun i j hi hj hij => ?_
 have := key (j - i - 1) i (by omega)
 rw [show i + (j - i - 1) + 1 = j by omega, Bg hi, Bg hj] at this
 exact this
theorem names_iff {names : List ByteArray} : (isSrt names = true ∧ (cptB names).length = names.length) ↔ ∀ i, i < names.length → 0 < i → toL (gd names (i - 1)) < toL (gd names i) := by
 constructor
 ·rintro ⟨h1, h2⟩ i hi h0
  have h1' := of_decide_eq_true h1
  have hle := srt_le h1'
  have h3 := compact_incrU _ hle
  have hnd : (Lib.compact (names.map toL)).Nodup := h3.1.imp fun hab e => by subst e; exact List.lt_irrefl _ hab
  have hnd2 : (names.map toL).Nodup := nodup_of' hnd (fun x hx => (h3.2 x).1 hx) (by
   have : (cptB names).length = (Lib.compact (names.map toL)).length := by simp [cptB]
   rw [List.length_map]; omega)
  have h4 := h1' i hi h0
  rcases leU_or (le_of_not h4) with h5 | h5
  ·exact h5
  ·exfalso
   have := List.pairwise_iff_getElem.1 hnd2 (i - 1) i (by simp; omega) (by simpa using hi) (by omega)
   rw [List.getElem_map, List.getElem_map, ← Bg, ← Bg] at this
   exact this h5
 ·intro h
  exact ⟨decide_eq_true fun i hi h0 => ltU_ne (h i hi h0), compact_srt (srt_adj h)⟩
theorem row_iff {k n : Nat} {l : List Int} : badRow k n l = false ↔ rrowOk k n l := by
 unfold badRow rrowOk badTo
 rw [Bool.or_eq_false_iff, decide_eq_false_iff_not, List.any_eq_false]
 constructor
 ·rintro ⟨h1, h2⟩
  refine ⟨by omega, fun j hj => ?_⟩
  have := h2 _ (Az hj)
  simp only [Bool.or_eq_true, decide_eq_true_eq, not_or] at this
  omega
 ·rintro ⟨h1, h2⟩
  refine ⟨by omega, fun x hx => ?_⟩
  obtain ⟨j, hj, rfl⟩ := List.getElem_of_mem hx
  have := h2 j hj
  rw [Bg hj] at this
  simp only [Bool.or_eq_true, decide_eq_true_eq, not_or]
  omega
theorem chk_iff {m : Mi} : chkI m = true ↔ RChk m := by
 unfold chkI RChk
 rw [Bool.and_eq_true, Bool.not_eq_true', Bool.not_eq_true', Bool.or_eq_false_iff, Bool.or_eq_false_iff, Bool.or_eq_false_iff, Bool.or_eq_false_iff, Bool.not_eq_false', decide_eq_false_iff_not, decide_eq_false_iff_not, decide_eq_false_iff_not, decide_eq_false_iff_not, ← names_iff, List.any_eq_false]
 constructor
 ·rintro ⟨⟨⟨⟨⟨h1, h2⟩, h3⟩, h4⟩, h5⟩, h6⟩
  exact ⟨⟨by omega, by omega, by omega⟩, ⟨h4, by omega⟩, fun i hi => row_iff.1 (by simpa using h6 _ (Az hi))⟩
 ·rintro ⟨⟨h1, h2, h3⟩, ⟨h4, h5⟩, h6⟩
  refine ⟨⟨⟨⟨⟨by omega, by omega⟩, by omega⟩, h4⟩, by omega⟩, fun r hr => ?_⟩
  obtain ⟨i, hi, rfl⟩ := List.getElem_of_mem hr
  have := row_iff.2 (h6 i hi)
  rw [Bg hi] at this
  simpa using this
end Go.Proofs.YtkdolgnpkjihpaaGreatDoor
namespace Go.Proofs.YtkdolgnpkjihpaaGreatDoor
open _root_.Go.Proofs.Tryz
open Go.RowKit
set_option linter.unusedVariables false
set_option linter.unusedSimpArgs false
theorem bld_fact {e : Re} (hl : e.lv ≤ 64) {mc : Mc} (h : mc.pl = (buildF leastF e).1) : mc.acc.length = mc.rows.length ∧ mc.rows.length ≤ 200 ∧ (∀ i, i < mc.rows.length → (gd mc.rows i).l.length ≤ 1000900) ∧ mc.names.length ≤ 1000000 := by
 have hrl : mc.pl.next.length = mc.rows.length := List.length_map ..
 cases hr : rawF e with
 | none =>
  have hb : (buildF leastF e).1 = ⟨[], [], []⟩ := by unfold buildF; rw [hr]
  rw [hb] at h
  have h1 : mc.names = [] := congrArg PM.names h
  have h2 : mc.pl.next = [] := congrArg PM.next h
  have h3 : mc.acc = [] := congrArg PM.acc h
  rw [h2] at hrl
  have h4 : mc.rows.length = 0 := hrl.symm
  rw [h1, h3, h4]
  exact ⟨rfl, Nat.zero_le _, fun i hi => absurd hi (Nat.not_lt_zero _), Nat.zero_le _⟩
 | some r =>
  have h0 : (buildF leastF e).2 = 0 := by unfold buildF; rw [hr]
  have hp := (Db hl h0).1
  have hnm : mc.names = letF e := by have := build_names h0; rw [← h] at this; exact this
  rw [← h] at hp
  have hf := hp.few
  have ha := hp.acc
  have hn := letF_few hl
  refine ⟨by rw [hrl] at ha; exact ha, by omega, fun i hi => ?_, by rw [hnm]; omega⟩
  have h5 := (pm_row hp hi).1
  rw [hnm] at h5; omega
theorem runI_s {w0 : World} {H : List (Nat × Obj)} (m : Mi) (hm : MiOk w0 H m) (hC : RChk m) (l : List ByteArray) (q : Option Addr) (c : Nat) (hA : Arr w0 H q 1 encS l) (hlen : l.length ≤ 1000000) :
  FSpec Tryz.prog w0 21 #[.agg (encMi m).toArray, .slice q l.length c] H (Still (.int .i64 (runM (mcI m).pl l : Nat)) H) := by
 rw [← mcI_enc]; exact run_s (mcI m) (mcI_ok hm hC) (mcI_pm hC) (mcI_srt hC) (by have := hm.l1; show m.names.length ≤ _; omega) l q c hA (by omega)
theorem rrunI_s {w0 : World} {H : List (Nat × Obj)} (m : Mi) (hm : MiOk w0 H m) (hC : RChk m) (l : List ByteArray) (q : Option Addr) (c : Nat) (hA : Arr w0 H q 1 encS l) (hlen : l.length ≤ 1000000) :
  FSpec Tryz.prog w0 22 #[.agg (encMi m).toArray, .slice q l.length c] H (Still (.int .i64 (runM (mcI m).pl l : Nat)) H) := by
 rw [← mcI_enc]; exact rrun_s (mcI m) (mcI_ok hm hC) (mcI_srt hC) (by have := hm.l1; show m.names.length ≤ _; omega) (mcI_pm hC) l q c hA (by omega)
theorem yl_eqs {w0 : World} {L : Fm} {H : List (Nat × Obj)} {ty yt xt : TypeId} {x y : Operand} {a : Int} {k : IntKind} (hx : Ev L x (.int k a)) (hy : Ev L y (.int k a)) : Yl Tryz.prog w0 (.binOp .eql xt x y yt) ty L H (.bool true) := by
 have h := Bs (P := Tryz.prog) (w0 := w0) (H := H) (ty := ty) (yt := yt) (xt := xt) hx hy
 rwa [show decide (a = a) = true by simp] at h
theorem yl_neSs {w0 : World} {L : Fm} {H : List (Nat × Obj)} {ty yt xt : TypeId} {x y : Operand} {a : ByteArray} (hx : Ev L x (.string a)) (hy : Ev L y (.string a)) : Yl Tryz.prog w0 (.binOp .neq xt x y yt) ty L H (.bool false) := by
 have h := yl_neSD (P := Tryz.prog) (w0 := w0) (H := H) (ty := ty) (yt := yt) (xt := xt) hx hy
 rwa [show decide (¬ a.data.toList = a.data.toList) = false by simp] at h
theorem matches_s {w0 : World} {H : List (Nat × Obj)} (r : Rxm) (hM : RxM w0 H r) (hz : r.sz ≤ 1048576) (l : List ByteArray) (q : Option Addr) (cp : Nat) (hL : Arr w0 H q 1 encS l) (hll : l.length ≤ 9223372036854775807) (m : Mi) (hm : MiOk w0 H m) :
  FSpec Tryz.prog w0 3 #[.agg (encRx r).toArray, .slice q l.length cp, .agg (encMi m).toArray] H (Still (.bool true) H) := by
 refine A8 Tryz.func3 U ntmps3 U (Ag (Ab (e_ (Bi (T U) cs_) ?_ U)))
 rintro _ _ ⟨n3, rfl, rfl⟩
 refine e_ (Bi (T U) cs_) ?_ U
 rintro _ _ ⟨n5, rfl, rfl⟩
 refine y_ (Ad Ak) (Af (Ae (Ag (Ag (Ab (y_ (Am (T U) isAgg24 sizeOf24 U (by first | exact Bh)) ?_ U)))))) U
 refine e_ (Aw (.cons (T U) .nil) call10 (few_s r (hM.mono sbt) hz)) ?_ U
 rintro _ _ ⟨⟨tf, rfl, hfew⟩, rfl⟩
 first | refine Bj (Cv (T U)) U Ah ?_ | refine Bj (C2 (T U)) U Ah ?_
 refine y_ (Ac (T U)) ?_ U
 first | refine Cb (s := 15) (Aa U) (fun c15 => ?_) (fun c15 => ?_) | refine Cw (s := 15) (Aa U) (fun c15 => ?_) (fun c15 => ?_)
 ·refine Cm (Cm (Cm (y_ (A4 (T U) Ak) (y_ (Ac (T U)) (Cm (Cm (Cm (Cm (y_ (A4 (T U) Ak) (Af (Ae ?_)) U) U U U U) U U U U) U U U U) U U U U) U) U) U U U U) U U U U) U U U U
  first | refine Bp (Aa U) ?_ | refine Bp (Ai (Aa U) (vbool (decide_eq_true c25))) ?_
  refine Ag (Ab (y_ (Ax .nil call11 (fun H' hs => sanity_s)) (y_ (Ad (T U)) (Af (Ae (A5 (An (A6 U (.tmp (Aa U) .nil) ?_))))) U) U))
  exact ⟨_, ⟨rfl, rfl⟩, sbt⟩
 ·refine Bj (Ac (T U)) U (As U U (Aa U)) (Bj (Bm (T U) runUnderlying25) U (As U U (Aa U)) (Bj (Dw (T U) Ak) U (As U U (Aa U)) (y_ (A9 (T U) (T U)) (y_ (Ac (T U)) ?_ U) U)))
  first | refine Cb (s := 20) (Aa U) (fun c20 => ?_) (fun c20 => ?_) | refine Cw (s := 20) (Aa U) (fun c20 => ?_) (fun c20 => ?_)
  ·refine Cm (Cm (Cm (Cm (y_ (A4 (T U) Ak) (Af (Ae ?_)) U) U U U U) U U U U) U U U U) U U U U
   first | refine Bp (Aa U) ?_ | refine Bp (Ai (Aa U) (vbool (decide_eq_true c25))) ?_
   refine Ag (Ab (y_ (Ax .nil call11 (fun H' hs => sanity_s)) (y_ (Ad (T U)) (Af (Ae (A5 (An (A6 U (.tmp (Aa U) .nil) ?_))))) U) U))
   exact ⟨_, ⟨rfl, rfl⟩, sbt⟩
  ·refine Bj (Be (T U) Ck) U (As U U (Aa U)) (Bj (Aj (T U) isAgg26 (by first | exact c_o)) U (As U U (Aa U)) ?_)
   refine Bj (Bm (T U) runUnderlying26) U (As U U (Aa U)) (Bj (Dw (T U) Ak) U (As U U (Aa U)) (y_ (A9 (T U) (T U)) (Af (Ae ?_)) U))
   first | refine Ao (Aa U) (fun c25 => ?_) (fun c25 => ?_) | refine A3 (Aa U) (fun c25 => ?_) (fun c25 => ?_)
   ·refine Ag (Ab (y_ (Ax .nil call11 (fun H' hs => sanity_s)) (y_ (Ad (T U)) (Af (Ae (A5 (An (A6 U (.tmp (Aa U) .nil) ?_))))) U) U))
    exact ⟨_, ⟨rfl, rfl⟩, sbt⟩
   ·obtain ⟨e, hI, hz40⟩ := hfew (by simpa using c15)
    have hlv := hI.lvz
    have hl64 : e.lv ≤ 64 := by omega
    refine A2 (Ae (Ag (Ab (y_ (Am (T U) isAgg24 sizeOf24 U (by first | exact Bh)) ?_ U))))
    refine e_ (Aw (.cons (T U) .nil) call12 (buildM_s r e hI (hM.mono sbt) hl64 (show buildF leastF e = ((buildF leastF e).1, (buildF leastF e).2) from rfl))) ?_ U
    rintro _ _ ⟨mc, BM, ⟨rfl, hpl, hmc⟩, rfl⟩
    refine y_ (Ac (T U)) (y_ (Bf (T U) U) (y_ (Bf (T U) U) (e_ (Ar zeroValue29 cs_) ?_ U) U) U) U
    rintro _ _ ⟨n7, rfl, rfl⟩
    first | refine A7 (Av (T U) (T U) sizeOf29) U Ah ?_
    rintro _ _ ⟨rfl, rfl⟩
    refine y_ (Ad (T U)) (Af (Ae (Bq [(1, _), (3, _), (5, _), (7, _), (8, _)] ⟨Aa U, Aa U, Aa U, Aa U, Aa U, trivial⟩ (Ag (Ab (y_ (Am (T U) isAgg24 sizeOf24 U (by first | exact Bh)) ?_ U)))))) U
    refine e_ (Aw (.cons (T U) .nil) call13 (rbuild_s r e hI (hM.mono sbt) hl64 (by omega))) ?_ U
    rintro _ _ ⟨mc2, BM2, ⟨rfl, hmc2, hpl2⟩, rfl⟩
    refine y_ (Ac (T U)) (y_ (Bf (T U) U) (y_ (Bf (T U) U) (e_ (Ar zeroValue29 cs_) ?_ U) U) U) U
    rintro _ _ ⟨n9, rfl, rfl⟩
    first | refine A7 (Av (T U) (T U) sizeOf29) U Ah ?_
    rintro _ _ ⟨rfl, rfl⟩
    refine y_ (Ad (T U)) (Af (Ae (Ag (Ab (y_ (Am (T U) isAgg29 sizeOf29 U (by first | exact Bh)) ?_ U))))) U
    refine e_ (Aw (.cons (T U) .nil) call14 (rcheck_s m (hm.mono sbt))) ?_ U
    rintro _ _ ⟨⟨tc, rfl, htc⟩, rfl⟩
    have hcc : chkI m = tc := by rw [Bool.eq_iff_iff, chk_iff, htc]
    obtain ⟨bf1, bf2, bf3, bf4⟩ := bld_fact hl64 hpl
    refine y_ (Ad (T U)) (Af (Ae (Ag (Ag (Cj 31 [(0, true), (1, true), (2, true), (3, true), (4, true), (5, true), (6, true), (7, true), (8, true), (9, true), (10, true), (11, true), (12, true), (13, true), (14, true), (15, false), (16, true), (17, true), (18, true), (19, true), (20, true), (21, true), (22, true), (23, true), (24, true), (25, true), (26, true), (27, true), (28, true), (29, true), (30, true)] _ mixd (by kernel_rfl) sb0 ?_))))) U
    refine o_y U (Am (T U) isAgg29 sizeOf29 U (by first | exact Bh)) ?_ U Ah
    refine o_y U (Am (T U) isAgg29 sizeOf29 U (by first | exact Bh)) ?_ U Ah
    refine o_y U (Ax (.cons (T U) (.cons (T U) .nil)) call15 (fun H' hs => sameM_s mc mc2 (hmc.mono (List.Sublist.trans sbt hs)) (hmc2.mono (List.Sublist.trans sbt hs)) (hpl.trans hpl2.symm) bf1 bf2 bf3 bf4)) ?_ U Ah
    first | refine o_y U (Cv (T U)) ?_ U Ah | refine o_y U (C2 (T U)) ?_ U Ah
    refine o_y U (Ac (T U)) (o_y U (Ac (T U)) (o_y U (Ac (T U)) (o_y U (yl_neqs (T U) (T U)) (o_y U (A9 (T U) (T U)) (o_y U (Ac (T U)) (o_y U (Am (T U) isAgg24 sizeOf24 U (by first | exact Bh)) ?_ U (As U U (Aa U))) U Ah) U Ah) U (As U U (Aa U))) U (As U U (Aa U))) U (As U U (Aa U))) U Ah
    refine o_y rfl (Ac (T rfl)) (o_y rfl (Ax (.cons (T rfl) (.cons (T rfl) .nil)) call16 (fun H' hs => match_s r e q cp l hI (hM.mono (List.Sublist.trans sbt hs)) hl64 (hL.mono (List.Sublist.trans sbt hs)) hll)) (o_y rfl (Am (T rfl) isAgg24 sizeOf24 rfl (by first | exact Bh)) ?_ rfl (As rfl rfl (Aa rfl))) rfl (As rfl rfl (Aa rfl))) rfl (As rfl rfl (Aa rfl))
    refine o_y U (Ac (T U)) (o_e U (Aw (.cons (T U) (.cons (T U) .nil)) call17 (rMatch_s r e hI (hM.mono sbt) hl64 l q cp (hL.mono sbt) (by omega))) ?_ U (As U U (Aa U))) U (As U U (Aa U))
    rintro _ _ ⟨rfl, M9, rfl⟩
    refine ⟨sbt, (o_up (o_y U (yl_neBs (T U) (T U)) (o_y U (A9 (T U) (T U)) (o_y U (Ac (T U)) (o_y U (Am (T U) isAgg29 sizeOf29 U (by first | exact Bh)) ?_ U (As U U (Aa U))) U Ah) U Ah) U (As U U (Aa U))))⟩
    refine o_y U (Ax (.cons (T U) .nil) call18 (fun H' hs => Dq hcc (pcheck_s m (hm.mono (List.Sublist.trans sbt hs))))) (o_y U (Ac (T U)) (o_y U (yl_neBs (T U) (T U)) (o_y U (A9 (T U) (T U)) (o_y U (Ac (T U)) (o_y U (Ac (T U)) (o_y U (Ax (.cons (T U) .nil) call19 (fun H' hs => other_s l q cp (hL.mono (List.Sublist.trans sbt hs)) (by omega))) ?_ U (As U U (Aa U))) U (As U U (Aa U))) U Ah) U Ah) U (As U U (Aa U))) U (As U U (Aa U))) U (As U U (Aa U))
    refine o_y U (Ac (T U)) (o_y U (Ax (.cons (T U) .nil) call20 (fun H' hs => rother_s l q cp (hL.mono (List.Sublist.trans sbt hs)) (by omega))) ?_ U (As U U (Aa U))) U (As U U (Aa U))
    refine o_y U (yl_neSs (T U) (T U)) (o_y U (A9 (T U) (T U)) (B2 U (Af (Ae (Bq [(1, _), (5, _), (11, _), (69, _)] ⟨Aa U, Aa U, Aa U, Aa U, trivial⟩ ?_)))) U Ah) U (As U U (Aa U))
    first | refine Bc (Aa U) ?_ | refine Bc (Ai (Aa U) (vbool (decide_eq_false c69))) ?_
    refine A2 (Ae (Ag (Cj 15 [(0, true), (1, true), (2, true), (3, true), (4, true), (5, true), (6, true), (7, true), (8, true), (9, true), (10, true), (11, true), (12, true), (13, true), (14, true)] _ mixd (by kernel_rfl) sb0 ?_)))
    refine o_y U (Ax .nil call11 (fun H' hs => sanity_s)) (o_y U (Ac (T U)) (o_y U (Ac (T U)) ?_ U (As U U (Aa U))) U Ah) U Ah
    first | refine o_y U (Cv (T U)) ?_ U (As U U (Aa U)) | refine o_y U (C2 (T U)) ?_ U (As U U (Aa U))
    refine o_y U (Ac (T U)) ?_ U (As U U (Aa U))
    first | refine C3 (s := 74) (Aa U) (fun c74 => ?_) (fun c74 => ?_) | refine D0 (s := 74) (Aa U) (fun c74 => ?_) (fun c74 => ?_)
    ·refine o_n U (o_n U (o_n U (o_n U (o_n U (o_n U (o_n U (o_y U (A4 (T U) Ak) (o_y U (A4 (T U) (T U)) (o_y U (Ad (T U)) (B2 U (Af (Ae (A5 (A6 U (.tmp (Aa U) .nil) ?_))))) U Ah) U Ah) U (As U U (Aa U))) U (Bk U U (Aa U))) U (Bk U U (Aa U))) U (Bk U U (Aa U))) U (Bk U U (Aa U))) U (Bk U U (Aa U))) U (Bk U U (Aa U))) U (Bk U U (Aa U))
     exact ⟨_, ⟨rfl, rfl⟩, sbt⟩
    ·have hC := htc.1 (by simpa using c74)
     refine o_y U (Am (T U) isAgg29 sizeOf29 U (by first | exact Bh)) ?_ U (As U U (Aa U))
     refine o_y U (Ac (T U)) (o_y U (Ax (.cons (T U) (.cons (T U) .nil)) call21 (fun H' hs => runI_s m (hm.mono (List.Sublist.trans sbt hs)) hC l q cp (hL.mono (List.Sublist.trans sbt hs)) (by omega))) ?_ U (As U U (Aa U))) U (As U U (Aa U))
     refine o_y U (Am (T U) isAgg29 sizeOf29 U (by first | exact Bh)) ?_ U (As U U (Aa U))
     refine o_y U (Ac (T U)) (o_y U (Ax (.cons (T U) (.cons (T U) .nil)) call22 (fun H' hs => rrunI_s m (hm.mono (List.Sublist.trans sbt hs)) hC l q cp (hL.mono (List.Sublist.trans sbt hs)) (by omega))) ?_ U (As U U (Aa U))) U (As U U (Aa U))
     refine o_y U (yl_eqs (T U) (T U)) (o_y U (A9 (T U) (T U)) (o_y U (A4 (T U) (T U)) (o_y U (Ad (T U)) (B2 U (Af (Ae (A5 (A6 U (.tmp (Aa U) .nil) ?_))))) U Ah) U Ah) U (As U U (Aa U))) U (As U U (Aa U))
     exact ⟨_, ⟨rfl, rfl⟩, sbt⟩
end Go.Proofs.YtkdolgnpkjihpaaGreatDoor
namespace Go.Proofs.YtkdolgnpkjihpaaGreatDoor
open _root_.Go.Proofs.Tryz
open Go.ChangeShapes Go.WideShapes Go.ChangeAt Go.RowKit Go.Joins Go.Deep
set_option linter.unusedSimpArgs false
set_option linter.unusedVariables false
set_option maxRecDepth 100000
theorem below_cell {W w : World} {p : Addr} {v : Value} (hb : Below W.heap.size W w) (h : W.cell? p = some v) : w.cell? p = some v := by
 have hlt := World.block_lt_of_cell? _ _ h
 have := hb.block p.block hlt
 unfold World.cell? at h ⊢
 rw [this]; exact h
theorem cell_arg {W : World} {p : Addr} {v : Value} (h : W.cell? p = some v) : Cell W [] p v := fun w hO => below_cell hO.below h
theorem blk_pos {H : Type} (d : DataW H) : 1 ≤ Rows.uptoBulk d := by
 cases d with
 | lit l => cases l <;> simp [Rows.uptoBulk]
 | nil => simp [Rows.uptoBulk]
 | ptr d => simp [Rows.uptoBulk]
 | slice elems spare => simp [Rows.uptoBulk]
 | agg parts => simp [Rows.uptoBulk]
 | iface t d => simp [Rows.uptoBulk]
 | map entries => simp [Rows.uptoBulk]
 | held h => simp [Rows.uptoBulk]
theorem blk_sum {H : Type} {f : Nat → Nat} {D : Nat → DataW H} : ∀ (l : List Nat), (∀ i ∈ l, f i ≤ Rows.uptoBulk (D i)) → (l.map f).sum ≤ Rows.uptoBulkAll (l.map D)
 | [], _ => Nat.le_refl _
 | x :: l, h => by
  have h1 := h x (by simp)
  have h2 := blk_sum l fun i hi => h i (by simp [hi])
  simp only [List.map_cons, List.sum_cons, Rows.uptoBulkAll]
  omega
theorem blk_mem {H : Type} {D : Nat → DataW H} : ∀ {l : List Nat} {i : Nat}, i ∈ l → Rows.uptoBulk (D i) ≤ Rows.uptoBulkAll (l.map D)
 | x :: l, i, h => by
  simp only [List.map_cons, Rows.uptoBulkAll]
  rcases List.mem_cons.1 h with rfl | h
  ·exact Nat.le_add_right _ _
  ·have := blk_mem (D := D) h; omega
section
variable {H : Type} {enc : TypeId × Value → H} {P : Program} {W : World} {b0 : Nat} {sp1 : Nat → Bool} {held : Bool}
theorem open_arr {α : Type} {t e sz fuel : Nat} {cs : List Value} {x : DataW H × List MemPlace} {el : α → List Value} {φ : α → Prop} {szf : α → Nat} (ht : P.underlying t = some (.slice e)) (hc : P.cellsOf e = sz) (hsz : 0 < sz)
  (hel : ∀ n cs y, Rows.uptoBulk y.1 < Rows.uptoBulk x.1 → DataW.trod enc P W b0 sp1 held n e cs = some y → ∃ u : α, cs = el u ∧ φ u ∧ szf u ≤ Rows.uptoBulk y.1) (h : DataW.trod enc P W b0 sp1 held fuel t cs = some x) :
  ∃ (q : Option Addr) (l : List α) (cap : Nat), cs = [.slice q l.length cap] ∧ Arr W [] q sz el l ∧ l.length ≤ cap ∧ l.length ≤ 9223372036854775807 ∧ (∀ u ∈ l, φ u) ∧ (l.map szf).sum + 1 ≤ Rows.uptoBulk x.1 := by
 rcases open_slice ht h with ⟨rfl, rfl⟩ | ⟨a, len, cap, m, n, D, Pl, rfl, hb, hl, hm, hmm, rfl, hx⟩
 ·exact ⟨none, [], 0, rfl, fun i u hi => by simp at hi, by simp, by simp, by simp, by simp [Rows.uptoBulk]⟩
 have hlm : len ≤ m := by rw [hmm]; split <;> omega
 have hlen : len ≤ 9223372036854775807 := by unfold maxLen at hm; omega
 cases len with
 | zero => exact ⟨some a, [], cap, rfl, fun i u hi => by simp at hi, by simp, by simp, by simp, by simp [Rows.uptoBulk]⟩
 | succ k =>
  have hbk : Rows.uptoBulkAll ((List.range (k + 1)).map D) + 1 ≤ Rows.uptoBulk (DataW.slice ((List.range (k + 1)).map D) ((List.range (m - (k + 1))).map fun j => D (k + 1 + j))) := by
   simp only [Rows.uptoBulk]; omega
  have each : ∀ i, i < k + 1 → ∃ u : α, W.cells? b0 (a.add (i * sz)) sz = some (el u) ∧ φ u ∧ szf u ≤ Rows.uptoBulk (D i) := fun i hi => by
   obtain ⟨cs', h1, h2⟩ := hx i (by omega)
   rw [hc] at h1
   have h3 := blk_mem (D := D) (List.mem_range.2 hi)
   obtain ⟨u, rfl, hu⟩ := hel _ _ _ (by simp only []; omega) h2
   exact ⟨u, h1, hu⟩
  obtain ⟨u0, h00, hu0⟩ := each 0 (by omega)
  letI : Inhabited α := ⟨u0⟩
  obtain ⟨f, hf⟩ := choose_lt each
  refine ⟨some a, (List.range (k + 1)).map f, cap, by simp, fun i u hi => ?_, by simpa using hl, by simpa using hlen, fun u hu => ?_, ?_⟩
  ·have hik : i < k + 1 := by have := (List.getElem?_eq_some_iff.1 hi).1; simpa using this
   have hfu : f i = u := by simpa [hik] using hi
   obtain ⟨sb, so, spot⟩ := a
   obtain ⟨_, hl0, hc0⟩ := World.cells?_some h00
   have hspot : spot = none := by
    have h6 := (hc0 0 hsz).trans (List.getElem?_eq_getElem (by omega))
    simpa [Addr.add] using World.cell?_spot h6
   subst hspot
   refine ⟨rfl, fun j v hj => cell_arg ?_⟩
   obtain ⟨_, hl1, hc1⟩ := World.cells?_some (hf i hik).1
   rw [hfu] at hl1 hc1
   have hjl := (List.getElem?_eq_some_iff.1 hj).1
   have h5 := hc1 j (by omega)
   rw [add_add, add_plain] at h5
   have h6 := h5.trans hj
   rw [← Nat.add_assoc] at h6
   exact h6
  ·obtain ⟨i, hi, rfl⟩ := List.mem_map.1 hu
   exact (hf i (List.mem_range.1 hi)).2.1
  ·have := blk_sum (f := fun i => szf (f i)) (D := D) (List.range (k + 1)) fun i hi => (hf i (List.mem_range.1 hi)).2.2
   rw [List.map_map]
   have e : (szf ∘ f) = fun i => szf (f i) := rfl
   rw [e]; simp only [] at hbk ⊢; omega
end
theorem cells3 : Tryz.prog.cellsOf 3 = 1 := by kernel_rfl
theorem cells4 : Tryz.prog.cellsOf 4 = 1 := by kernel_rfl
theorem cells9 : Tryz.prog.cellsOf 9 = 1 := by kernel_rfl
theorem cells22 : Tryz.prog.cellsOf 22 = 1 := by kernel_rfl
theorem cells24 : Tryz.prog.cellsOf 24 = 3 := by kernel_rfl
theorem cells25 : Tryz.prog.cellsOf 25 = 1 := by kernel_rfl
theorem cells26 : Tryz.prog.cellsOf 26 = 1 := by kernel_rfl
theorem cells27 : Tryz.prog.cellsOf 27 = 1 := by kernel_rfl
theorem cells29 : Tryz.prog.cellsOf 29 = 3 := by kernel_rfl
theorem cells42 : Tryz.prog.cellsOf 42 = 1 := by kernel_rfl
theorem own_knob : ownKnob Tryz.prog.godebug = none := by kernel_rfl
theorem i64_bd {n : Int} (h : (Lit.int .i64 n).wf = true) : -9223372036854775808 ≤ n ∧ n ≤ 9223372036854775807 := by
 have := bounds_i64 h; exact this
theorem sum_len {α : Type} (l : List α) : (l.map fun _ => 1).sum = l.length := by
 induction l with
 | nil => rfl
 | cons x l ih => simp only [List.map_cons, List.sum_cons, List.length_cons, ih]; omega
theorem sum_mem {α : Type} {f : α → Nat} : ∀ {l : List α} {x : α}, x ∈ l → f x ≤ (l.map f).sum
 | y :: l, x, h => by
  simp only [List.map_cons, List.sum_cons]
  rcases List.mem_cons.1 h with rfl | h
  ·omega
  ·have := sum_mem (f := f) h; omega
theorem sum_ge {α : Type} {f : α → Nat} (h : ∀ x, 1 ≤ f x) : ∀ l : List α, l.length ≤ (l.map f).sum
 | [] => Nat.le_refl _
 | x :: l => by simp only [List.map_cons, List.sum_cons, List.length_cons]; have := h x; have := sum_ge h l; omega
theorem szL_sum : ∀ l : List Rxm, szL l = (l.map Rxm.sz).sum
 | [] => rfl
 | x :: l => by simp only [szL, List.map_cons, List.sum_cons, szL_sum l]
section
variable {H : Type} {enc : TypeId × Value → H} {W : World} {b0 n : Nat} {sp1 : Nat → Bool} {held : Bool} {y : DataW H × List MemPlace} {cs : List Value}
theorem rd_int {c : Value} (h : DataW.trod enc Tryz.prog W b0 sp1 held n 3 [c] = some y) : ∃ a : Int, c = .int .i64 a ∧ (-9223372036854775808 ≤ a ∧ a ≤ 9223372036854775807) := by
 obtain ⟨a, e0, _, wa⟩ := DataW.trod_int underlying3 h
 simp at e0
 exact ⟨a, e0, i64_bd wa⟩
theorem rd_str (h : DataW.trod enc Tryz.prog W b0 sp1 held n 9 cs = some y) : ∃ u : ByteArray, cs = encS u ∧ u.size ≤ 9223372036854775807 := by
 obtain ⟨s, e0, _, ws⟩ := DataW.trod_string underlying9 h
 exact ⟨s, e0, by unfold maxLen at ws; omega⟩
theorem rd_strs (h : DataW.trod enc Tryz.prog W b0 sp1 held n 25 cs = some y) : ∃ (q : Option Addr) (l : List ByteArray) (cap : Nat), cs = [.slice q l.length cap] ∧ Arr W [] q 1 encS l ∧ l.length ≤ cap ∧ l.length ≤ 9223372036854775807 ∧ l.length ≤ Rows.uptoBulk y.1 := by
 obtain ⟨q, l, cap, e, a, c, b, _, s⟩ := open_arr (el := encS) (φ := fun _ => True) (szf := fun _ => 1) underlying25 cells9 (by omega) (fun n cs y _ h => by obtain ⟨u, e, _⟩ := rd_str h; exact ⟨u, e, trivial, blk_pos _⟩) h
 rw [sum_len] at s
 exact ⟨q, l, cap, e, a, c, b, by omega⟩
theorem rd_ints (h : DataW.trod enc Tryz.prog W b0 sp1 held n 42 cs = some y) : ∃ (q : Option Addr) (l : List Int) (cap : Nat), cs = [.slice q l.length cap] ∧ Arr W [] q 1 encI l ∧ l.length ≤ cap ∧ l.length ≤ 9223372036854775807 ∧ (∀ u ∈ l, -9223372036854775808 ≤ u ∧ u ≤ 9223372036854775807) ∧ l.length + 1 ≤ Rows.uptoBulk y.1 := by
 obtain ⟨q, l, cap, e, a, c, b, f, s⟩ := open_arr (el := encI) (φ := fun u => -9223372036854775808 ≤ u ∧ u ≤ 9223372036854775807) (szf := fun _ => 1) underlying42 cells3 (by omega) (fun n cs y _ h => by
  obtain ⟨a, e0, _, wa⟩ := DataW.trod_int underlying3 h
  exact ⟨a, e0, i64_bd wa, blk_pos _⟩) h
 rw [sum_len] at s
 exact ⟨q, l, cap, e, a, c, b, f, s⟩
theorem rd_rx : ∀ (N : Nat) {n : Nat} {y : DataW H × List MemPlace} {cs : List Value}, Rows.uptoBulk y.1 ≤ N → DataW.trod enc Tryz.prog W b0 sp1 held n 24 cs = some y → ∃ u : Rxm, cs = encRx u ∧ RxM W [] u ∧ u.sz ≤ Rows.uptoBulk y.1
 | 0, n, y, cs, hN, _ => by have := blk_pos y.1; omega
 | N + 1, n, y, cs, hN, h => by
  obtain ⟨xs, m, rfl, rfl, hlen, hxl, hall⟩ := DataW.trod_struct underlying24 h
  rw [cells24] at hlen
  match xs, hxl, cs, hlen with
  | [x0, x1, x2], _, [c0, c1, c2], _ =>
   have f0 : DataW.trod enc Tryz.prog W b0 sp1 held m 3 [c0] = some x0 := by have := hall 0 _ rfl; simpa [cells3] using this
   have f1 : DataW.trod enc Tryz.prog W b0 sp1 held m 9 [c1] = some x1 := by have := hall 1 _ rfl; simpa [cells9] using this
   have f2 : DataW.trod enc Tryz.prog W b0 sp1 held m 22 [c2] = some x2 := by have := hall 2 _ rfl; simpa [cells22] using this
   have hb : Rows.uptoBulk x2.1 + 2 ≤ Rows.uptoBulk (DataW.agg (H := H) ([x0, x1, x2].map (·.1))) := by
    have := blk_pos x0.1; have := blk_pos x1.1
    simp only [Rows.uptoBulk, Rows.uptoBulkAll, List.map_cons, List.map_nil] at *; omega
   have hN' : Rows.uptoBulk (DataW.agg (H := H) ([x0, x1, x2].map (·.1))) ≤ N + 1 := hN
   obtain ⟨k, rfl, _⟩ := rd_int f0
   obtain ⟨s, e1, hs⟩ := rd_str f1
   obtain ⟨q, l, cap, e2, ha, hc, hl, hf, hsum⟩ := open_arr (el := encRx) (φ := RxM W []) (szf := Rxm.sz) underlying22 cells24 (by omega) (fun n cs y hy h => rd_rx N (by omega) h) f2
   simp at e1 e2
   refine ⟨.mk k s q cap l, by rw [e1, e2]; rfl, .mk ha hf hs hl, ?_⟩
   rw [sz_eq, show (Rxm.mk k s q cap l).args = l from rfl, szL_sum]
   exact Nat.le_trans (by omega : 1 + (l.map Rxm.sz).sum ≤ Rows.uptoBulk x2.1 + 2) hb
theorem open_rx {base : Nat} {r : _root_.Go.Reach} {v : Value} {d : DataW H} {p : List MemPlace} (hv : Value.okWide Tryz.prog W r base 24 v) (h : DataW.Trod enc Tryz.prog W b0 sp1 held 24 v d p) : ∃ u : Rxm, v = .agg (encRx u).toArray ∧ RxM W [] u ∧ u.sz ≤ Rows.uptoBulk d := by
 obtain ⟨cs, rfl, hsz⟩ := okWide_struct underlying24 hv
 obtain ⟨fuel, hf⟩ := h
 obtain ⟨l⟩ := cs
 obtain ⟨u, e, hu⟩ := rd_rx _ (Nat.le_refl _) hf
 simp only [Value.cells] at e
 exact ⟨u, by rw [← e], hu⟩
theorem open_strs {base : Nat} {r : _root_.Go.Reach} {v : Value} {d : DataW H} {p : List MemPlace} (hv : Value.okWide Tryz.prog W r base 25 v) (h : DataW.Trod enc Tryz.prog W b0 sp1 held 25 v d p) : ∃ (q : Option Addr) (l : List ByteArray) (cap : Nat), v = .slice q l.length cap ∧ Arr W [] q 1 encS l ∧ l.length ≤ cap ∧ l.length ≤ 9223372036854775807 ∧ l.length ≤ Rows.uptoBulk d := by
 obtain ⟨a0, len0, cap0, rfl⟩ := okWide_slice underlying25 hv
 obtain ⟨fuel, hf⟩ := h
 obtain ⟨q, l, cap, e, r⟩ := rd_strs hf
 simp only [Value.cells, List.cons.injEq, and_true] at e
 exact ⟨q, l, cap, e, r⟩
theorem open_mach {base : Nat} {r : _root_.Go.Reach} {v : Value} {d : DataW H} {p : List MemPlace} (hv : Value.okWide Tryz.prog W r base 29 v) (h : DataW.Trod enc Tryz.prog W b0 sp1 held 29 v d p) (hb : Rows.uptoBulk d ≤ 1048576) : ∃ m : Mi, v = .agg (encMi m).toArray ∧ MiOk W [] m := by
 obtain ⟨cs, rfl, hsz⟩ := okWide_struct underlying29 hv
 obtain ⟨fuel, hf⟩ := h
 obtain ⟨xs, m, rfl, hx, hlen, hxl, hall⟩ := DataW.trod_struct underlying29 hf
 obtain ⟨l⟩ := cs
 simp only [Value.cells, cells29] at hlen hall
 match xs, hxl, l, hlen with
 | [x0, x1, x2], _, [c0, c1, c2], _ =>
  have f0 : DataW.trod enc Tryz.prog W b0 sp1 held m 25 [c0] = some x0 := by have := hall 0 _ rfl; simpa [cells25] using this
  have f1 : DataW.trod enc Tryz.prog W b0 sp1 held m 26 [c1] = some x1 := by have := hall 1 _ rfl; simpa [cells26] using this
  have f2 : DataW.trod enc Tryz.prog W b0 sp1 held m 27 [c2] = some x2 := by have := hall 2 _ rfl; simpa [cells27] using this
  have hd : Rows.uptoBulk x0.1 + Rows.uptoBulk x1.1 ≤ 1048576 := by
   have h1 := (Prod.mk.inj hx).1
   have h2 : Rows.uptoBulk d = Rows.uptoBulk (DataW.agg (H := H) ([x0, x1, x2].map (·.1))) := by rw [h1]
   simp only [Rows.uptoBulk, Rows.uptoBulkAll, List.map_cons, List.map_nil] at *; omega
  obtain ⟨q0, l0, k0, e0, a0, _, _, b0⟩ := rd_strs f0
  obtain ⟨q1, l1, k1, e1, a1, _, _, g1, s1⟩ := open_arr (el := encRI) (φ := fun r : RowI => Arr W [] r.q 1 encI r.l) (szf := fun r => r.l.length + 1) underlying26 cells42 (by omega) (fun n cs y _ h => by
   obtain ⟨q, l, cap, e, a, _, _, _, s⟩ := rd_ints h
   exact ⟨⟨q, cap, l⟩, e, a, s⟩) f1
  obtain ⟨q2, l2, k2, e2, a2, _, _, _, _⟩ := open_arr (el := encB1) (φ := fun _ => True) (szf := fun _ => 1) underlying27 cells4 (by omega) (fun n cs y _ h => by
   obtain ⟨b, e1, _⟩ := DataW.trod_bool underlying4 h
   exact ⟨b, e1, trivial, blk_pos _⟩) f2
  simp at e0 e1 e2
  refine ⟨⟨l0, l1, l2, q0, k0, q1, k1, q2, k2⟩, by rw [e0, e1, e2], ⟨a0, a1, a2, g1, by simp only []; omega, ?_, fun r hr => ?_⟩⟩
  ·have := sum_ge (f := fun r : RowI => r.l.length + 1) (fun _ => by omega) l1
   simp only []; omega
  ·have := sum_mem (f := fun r : RowI => r.l.length + 1) hr
   simp only [] at this; omega
end
end Go.Proofs.YtkdolgnpkjihpaaGreatDoor
namespace Go.Proofs.YtkdolgnpkjihpaaGreatDoor
open _root_.Go.Proofs.Tryz
open Go.ChangeShapes Go.WideShapes Go.ChangeAt Go.RowKit Go.Joins
set_option linter.unusedSimpArgs false
set_option linter.unusedVariables false
set_option maxRecDepth 100000
section
variable {H : Type} {enc : TypeId × Value → H} {W : World}
theorem laid_out : laidOutB Tryz.prog = true := by kernel_rfl
theorem trodAll_stays : ∀ {ts : List TypeId} {vs : List Value} {ds : List (DataW H)} {ps : List MemPlace} {W' : World}, (∀ t ∈ ts, Tryz.prog.readableRec t = true ∧ t < Tryz.prog.types.size) → DataW.TrodAll enc Tryz.prog W 0 (fun _ => true) true ts vs ds ps → Below W.heap.size W W' → (∀ x ∈ ps, x.block < W.heap.size) →
  DataW.TrodAll enc Tryz.prog W' 0 (fun b => decide (b < W.heap.size)) true ts vs ds ps
 | [], _, _, _, _, _, h, _, _ => by obtain ⟨rfl, rfl, rfl⟩ := trodAll_nil h; exact trodAll_mk0
 | t :: ts, _, _, _, _, hr, h, hb, hlt => by
  obtain ⟨v, vs, d, ds, p, q, rfl, rfl, rfl, h0, r0⟩ := trodAll_cons h
  exact trodAll_cons_mk (Below.trod laid_out (hr t (by simp)).1 (hr t (by simp)).2 h0 hb (fun x hx => hlt x (by simp [hx]))) (trodAll_stays (fun t ht => hr t (by simp [ht])) r0 hb (fun x hx => hlt x (by simp [hx])))
end
theorem calls_true {f : FuncId} {args : Array Value} {W : World} (h : FSpec Tryz.prog W f args [] (Still (.bool true) [])) : Calls Tryz.prog f args W fun e W' => e = .returned (.bool true) ∧ Below W.heap.size W W' :=
 (h W (Own.start W)).mono fun e W' ⟨v, H', he, hO, hv, _⟩ => ⟨by rw [he, hv], hO.below⟩
def tab32 : Array Value := #[.int .u8 0, .int .u8 1, .int .u8 28, .int .u8 2, .int .u8 29, .int .u8 14, .int .u8 24, .int .u8 3, .int .u8 30, .int .u8 22, .int .u8 20, .int .u8 15, .int .u8 25, .int .u8 17, .int .u8 4, .int .u8 8, .int .u8 31, .int .u8 27, .int .u8 13, .int .u8 23, .int .u8 21, .int .u8 19, .int .u8 16, .int .u8 7, .int .u8 26, .int .u8 12, .int .u8 18, .int .u8 6, .int .u8 11, .int .u8 5, .int .u8 10, .int .u8 9]
def tab64 : Array Value := #[.int .u8 0, .int .u8 1, .int .u8 56, .int .u8 2, .int .u8 57, .int .u8 49, .int .u8 28, .int .u8 3, .int .u8 61, .int .u8 58, .int .u8 42, .int .u8 50, .int .u8 38, .int .u8 29, .int .u8 17, .int .u8 4, .int .u8 62, .int .u8 47, .int .u8 59, .int .u8 36, .int .u8 45, .int .u8 43, .int .u8 51, .int .u8 22, .int .u8 53, .int .u8 39, .int .u8 33, .int .u8 30, .int .u8 24, .int .u8 18, .int .u8 12, .int .u8 5, .int .u8 63, .int .u8 55, .int .u8 48, .int .u8 27, .int .u8 60, .int .u8 41, .int .u8 37, .int .u8 16, .int .u8 46, .int .u8 35, .int .u8 44, .int .u8 21, .int .u8 52, .int .u8 32, .int .u8 23, .int .u8 11, .int .u8 54, .int .u8 26, .int .u8 40, .int .u8 15, .int .u8 34, .int .u8 20, .int .u8 31, .int .u8 10, .int .u8 25, .int .u8 14, .int .u8 19, .int .u8 9, .int .u8 13, .int .u8 8, .int .u8 7, .int .u8 6]
def tab10 : Array Value := #[.int .u64 1, .int .u64 10, .int .u64 100, .int .u64 1000, .int .u64 10000, .int .u64 100000, .int .u64 1000000, .int .u64 10000000, .int .u64 100000000, .int .u64 1000000000, .int .u64 10000000000, .int .u64 100000000000, .int .u64 1000000000000, .int .u64 10000000000000, .int .u64 100000000000000, .int .u64 1000000000000000, .int .u64 10000000000000000, .int .u64 100000000000000000, .int .u64 1000000000000000000, .int .u64 10000000000000000000]
def layObj (a : Array Value) : Obj → Obj
 | .cells _ t frozen => .cells a t frozen
 | o => o
noncomputable def laidWorld (os : Os) : World :=
 { World.holding Tryz.prog os ⟨#[], #[], []⟩ with heap := (((World.holding Tryz.prog os ⟨#[], #[], []⟩).heap.modify 0 (layObj tab10)).modify 1 (layObj tab32)).modify 2 (layObj tab64) }
end Go.Proofs.YtkdolgnpkjihpaaGreatDoor
