/-
  A part of what LawH rests on: the logic, walks and plain laws. No condition.
-/
import Derived.Test.YtkdolgnpkjihpaaGreatDoorJH1
import Derived.Shelf.Strconv.Itoa3
import Derived.Shelf.SlSortCmp.WholeK
import Derived.Shelf.SlSortCmp.NoneTotal
namespace Go.Proofs.YtkdolgnpkjihpaaGreatDoor
open _root_.Go.Proofs.Tryz
open Go.RowKit
set_option linter.unusedVariables false
set_option linter.unusedSimpArgs false
theorem numbered_s {w0 : World} {H : List (Nat × Obj)} (m : Mc) (hm : McOk w0 H m) (hp : PMok m.pl) (hln : m.names.length ≤ 64) (qb : Option Addr) (cb : Nat) (b : List Nat) (hB : Arr w0 H qb 1 encU b) (n : Nat) (hn : b.length = n) (hb : n = m.rows.length) :
  FSpec Tryz.prog w0 105 #[.agg (encMc m).toArray, .slice qb n cb] H (fun v H' => ∃ x : MX, (v = .agg #[.slice m.q1 m.names.length m.c1, slV x.1 x.2.2.length, slV x.2.1 (numF m.pl b).acc.length] ∧ OutOk x (numF m.pl b).next (numF m.pl b).acc) ∧ H' = mOut x (numF m.pl b).acc H) := by
 subst hn
 refine A7 Tryz.func105 U ntmps105 U ?_
 have hf := hp.few
 have hfl : m.pl.next.length = m.rows.length := List.length_map ..
 have hs := hp.some'
 have hal : m.acc.length = m.rows.length := by have := hp.acc; rw [hfl] at this; exact this
 refine Ah (Ab (e_ (Bf (T U) cs_) ?_ U))
 rintro _ _ ⟨n2, rfl, rfl⟩
 refine e_ (Ap zeroValue29 cs_) ?_ U
 rintro _ _ ⟨n4, rfl, rfl⟩
 refine Af (Ac (Ah (Ab (y_ (Bp (T U) fa29_0) (y_ (Ai (T U) isAgg25 (by first | exact c_o)) ?_ U) U))))
 refine y_ (Bq (.cons (T U) .nil) (bd29_0 _ _ _)) (e_ (Ap zeroValue29 cs_) ?_ U) U
 rintro _ _ ⟨n5, rfl, rfl⟩
 first | refine A0 (As (T U) (T U) sizeOf29) U Ag ?_
 rintro _ _ ⟨rfl, rfl⟩
 refine Af (Ac (Ah (Ab (e_ eff_makeMap ?_ U))))
 rintro _ _ ⟨n17, rfl, rfl⟩
 refine y_ (Ae (T U)) (y_ (Cw (T U) Ak runUnderlying42 sizeOf3 (by omega) (by first | exact rfl | exact hB.b (i := 0) (by omega) | exact hd7.bas (by omega) | exact hm.a2.b (i := gd order k) hokl | exact (hm.r (gd m.rows (gd order k)) (A1 hokl)).b (i := i) (by omega) | exact hB.b (i := gd (gd m.rows (gd order k)).l i) (by omega) | exact hd7i.bas (by omega) | exact hm.a3.b (i := gd (numK b (gd m.pl.next (gd order k)) order (gd m.pl.next (gd order k)).length).1 k) (by rw [hgk]; omega))) ?_ U) U
 refine y_ (Ai (T U) isAgg3 (by first | exact c_o | exact cell1 ((hB.mono sbt).cs (i := 0) (by omega)))) ?_ U
 refine e_ (eff_insert (l := []) (encV := encIv) (gd b 0) 0 (keyN (V := Nat)) (T U) (T U) U Ak U runUnderlying201) ?_ U
 rintro _ _ ⟨rfl, rfl⟩
 refine y_ (Ae (T U)) (y_ (Ad (T U)) (Af (Ac (Ah (Ab (e_ (An (.cons Ak .nil) (bs42_1_0 _)) ?_ U))))) U) U
 rintro _ _ ⟨n22, rfl, rfl⟩
 refine y_ (Ad (T U)) (Af (Ac (Ah (Ah (Ab (y_ (Ad Ak) (Af (Ac (A2 ?_))) U)))))) U
 refine Cn (X := Nat × List Nat × List Row × List Bool × Sl × Sl × Sl) (V := fun ⟨k, order, rows, acc, d7, dx, da⟩ => [(8, .int .i64 (k : Nat)), (7, slV d7 order.length)]) (C := [(1, _), (2, _), (4, _), (5, _), (6, _)]) (G := fun ⟨k, order, rows, acc, d7, dx, da⟩ => rowsH rows ++ (slH d7 (order.flatMap encU) 3 ++ ((n17, mapO encNK encIv (zipM (order.map (gd b)))) :: (n5, Cl [.slice m.q1 m.names.length m.c1, slV dx rows.length, slV da acc.length] 29) :: (slH dx (rows.flatMap encRow) 42 ++ (slH da (acc.flatMap encB1) 4 ++ ((n4, Cl [.slice none 0 0, .slice none 0 0, .slice none 0 0] 29) :: (n2, Cl (encMc m) 29) :: H)))))) (φ := fun ⟨k, order, rows, acc, d7, dx, da⟩ => OrdOk m.pl b order ∧ k ≤ order.length ∧ rows.length = k ∧ acc.length = k ∧ SlOk d7 order.length 1 ∧ SlOk dx rows.length 1 ∧ SlOk da acc.length 1 ∧ (∀ r ∈ rows, SlOk r.d r.l.length 1) ∧ numGo m.pl b (201 - k) k order (rows.map Row.l) acc = numGo m.pl b 201 0 [0] [] []) (μ := fun ⟨k, order, rows, acc, d7, dx, da⟩ => 201 - k) (x0 := (0, [0], [], [], .blk n22 1 [], .nil, .nil)) ?_ ⟨Aa rfl, Aa rfl, Aa rfl, Aa rfl, Aa rfl, trivial⟩ ⟨(by first | exact Aa rfl | (refine Aj (Aa rfl) (vint ?_); omega) | (refine Aj (Aa rfl) ?_; simp; done) | (refine Aj (Aa rfl) ?_; exact by simp only [hrow, List.length_append, List.length_cons, List.length_nil])), (by first | exact Aa rfl | (refine Aj (Aa rfl) (vint ?_); omega) | (refine Aj (Aa rfl) ?_; simp; done) | (refine Aj (Aa rfl) ?_; exact by simp only [hrow, List.length_append, List.length_cons, List.length_nil])), trivial⟩ sb0 ?_
 ·exact ⟨⟨by simp, fun s hs => by
   simp only [List.mem_cons, List.not_mem_nil, or_false] at hs
   subst hs; exact hp.some'⟩, Nat.zero_le _, rfl, rfl, ⟨Nat.le_refl _, rfl⟩, rfl, rfl, (fun r hr => by cases hr), rfl⟩
 rintro ⟨k, order, rows, acc, d7, dx, da⟩ ⟨hord, hko, hrl, hacl, hd7, hox, hoa, hor, hgo⟩
 have hof := hord.few
 refine Ah (Ah (Ab (y_ (Ae (T U)) (y_ (Ae (T U)) (y_ (Bw (T U) runUnderlying42) (y_ (B4 (T U) (T U)) (Af (Ac ?_)) U) U) U) U)))
 first | refine Au (Aa U) (fun c26 => ?_) (fun c26 => ?_) | refine Bb (Aa U) (fun c26 => ?_) (fun c26 => ?_)
 ·have hokl : gd order k < m.rows.length := by rw [← hfl]; exact hord.lt _ (A1 (by omega))
  obtain ⟨hr1, hr2⟩ := pm_row hp hokl
  have htos : (gd m.pl.next (gd order k)) = (gd m.rows (gd order k)).l := gd_rows _ _
  have htl : ∀ s ∈ (gd m.pl.next (gd order k)), s < m.pl.next.length := fun s hs => by
   rw [htos] at hs
   obtain ⟨j, hj, rfl⟩ := mem_gd.1 hs
   rw [hfl]; exact hr2 j (by omega)
  have htlen : (gd m.pl.next (gd order k)).length = m.names.length + 1 := by rw [htos]; exact hr1
  refine A9 (Ac (Ah (A2 (Ah (Ab (y_ (Bp (T U) fa29_0) (y_ (Ai (T U) isAgg25 (by first | exact c_o)) ?_ U) U))))))
  refine y_ (Bw (T U) runUnderlying25) (y_ (Bv (T U) Ak (by omega)) ?_ U) U
  refine e_ (eff_makeSlice0 (by' := 8) (k := m.names.length + 1) Ak (T U) runUnderlying42 sizeOf3 typeInfo3 U zeroValue3 U (by omega) (by omega)) ?_ U
  rintro _ _ ⟨n33, rfl, rfl⟩
  refine y_ (Ad (T U)) (Af (Ac (Ah (Ah (Cv 10 [(0, true), (1, true), (2, true), (3, true), (4, true), (5, true), (6, true), (7, true), (8, true), (9, true)] _ mixd (by kernel_rfl) sb0 ?_))))) U
  refine o_y U (Bk (T U) Dc) (o_y U (Ai (T U) isAgg26 (by first | exact c_o)) ?_ U Ag) U Ag
  refine o_y U (Ae (T U)) (o_y U (Ae (T U)) (o_y U (Bh (T U) (T U) runUnderlying42 sizeOf3 (by omega) (by first | exact rfl | exact hB.b (i := 0) (by omega) | exact hd7.bas (by omega) | exact hm.a2.b (i := gd order k) hokl | exact (hm.r (gd m.rows (gd order k)) (A1 hokl)).b (i := i) (by omega) | exact hB.b (i := gd (gd m.rows (gd order k)).l i) (by omega) | exact hd7i.bas (by omega) | exact hm.a3.b (i := gd (numK b (gd m.pl.next (gd order k)) order (gd m.pl.next (gd order k)).length).1 k) (by rw [hgk]; omega))) ?_ U Ag) U Ag) U Ag
  refine o_y U (Ai (T U) isAgg3 (by first | exact c_o | exact cell1 (((Bz (X := H) (enc := encU) (sz := 1) (e := 3) (l := order) (fun _ => rfl) hd7).mono sbt).cs (i := k) (by omega)))) ?_ U Ag
  refine o_y U (Bh (T U) (T U) runUnderlying26 sizeOf42 (by omega) (by first | exact rfl | exact hB.b (i := 0) (by omega) | exact hd7.bas (by omega) | exact hm.a2.b (i := gd order k) hokl | exact (hm.r (gd m.rows (gd order k)) (A1 hokl)).b (i := i) (by omega) | exact hB.b (i := gd (gd m.rows (gd order k)).l i) (by omega) | exact hd7i.bas (by omega) | exact hm.a3.b (i := gd (numK b (gd m.pl.next (gd order k)) order (gd m.pl.next (gd order k)).length).1 k) (by rw [hgk]; omega))) ?_ U Ag
  refine o_y U (Ai (T U) isAgg42 (by first | exact c_o | exact cell1 ((hm.a2.mono sbt).cs (i := gd order k) hokl))) ?_ U Ag
  refine o_y U (Bw (T U) runUnderlying42) (o_y U (Ae Ak) (B5 U (Af (Ac (Bt [(1, _), (2, _), (4, _), (5, _), (6, _), (7, _), (8, _), (9, _), (41, _), (42, _), (43, _)] ⟨Aa U, Aa U, Aa U, Aa U, Aa U, Aa U, Aa U, Aa U, Aa U, Aa U, Aa U, trivial⟩ (A2 ?_))))) U Ag) U Ag
  refine Cn (X := Nat × Sl × Sl) (V := fun ⟨i, d7, d9⟩ => [(43, .int .i64 (i : Nat)), (7, slV d7 (numK b (gd m.pl.next (gd order k)) order i).1.length), (9, slV d9 (numK b (gd m.pl.next (gd order k)) order i).2.length)]) (C := [(1, _), (2, _), (4, _), (5, _), (6, _), (8, _), (41, _), (42, _)]) (G := fun ⟨i, d7, d9⟩ => slH d9 ((numK b (gd m.pl.next (gd order k)) order i).2.flatMap encU) 3 ++ (rowsH rows ++ (slH d7 ((numK b (gd m.pl.next (gd order k)) order i).1.flatMap encU) 3 ++ ((n17, mapO encNK encIv (zipM ((numK b (gd m.pl.next (gd order k)) order i).1.map (gd b)))) :: (n5, Cl [.slice m.q1 m.names.length m.c1, slV dx rows.length, slV da acc.length] 29) :: (slH dx (rows.flatMap encRow) 42 ++ (slH da (acc.flatMap encB1) 4 ++ ((n4, Cl [.slice none 0 0, .slice none 0 0, .slice none 0 0] 29) :: (n2, Cl (encMc m) 29) :: H))))))) (φ := fun ⟨i, d7, d9⟩ => i ≤ (gd m.pl.next (gd order k)).length ∧ SlOk d7 (numK b (gd m.pl.next (gd order k)) order i).1.length 1 ∧ SlOk d9 (numK b (gd m.pl.next (gd order k)) order i).2.length 1) (μ := fun ⟨i, d7, d9⟩ => (gd m.pl.next (gd order k)).length - i) (x0 := (0, d7, .blk n33 (m.names.length + 1) (List.replicate (m.names.length + 1) (.int .i64 0)))) ?_ ⟨Aa rfl, Aa rfl, Aa rfl, Aa rfl, Aa rfl, Aa rfl, Aa rfl, Aa rfl, trivial⟩ ⟨(by first | exact Aa rfl | (refine Aj (Aa rfl) (vint ?_); omega) | (refine Aj (Aa rfl) ?_; simp; done) | (refine Aj (Aa rfl) ?_; exact by simp only [hrow, List.length_append, List.length_cons, List.length_nil])), (by first | exact Aa rfl | (refine Aj (Aa rfl) (vint ?_); omega) | (refine Aj (Aa rfl) ?_; simp; done) | (refine Aj (Aa rfl) ?_; exact by simp only [hrow, List.length_append, List.length_cons, List.length_nil])), (by first | exact Aa rfl | (refine Aj (Aa rfl) (vint ?_); omega) | (refine Aj (Aa rfl) ?_; simp; done) | (refine Aj (Aa rfl) ?_; exact by simp only [hrow, List.length_append, List.length_cons, List.length_nil])), trivial⟩ sb0 ?_
  ·exact ⟨Nat.zero_le _, hd7, Nat.zero_le _, by show (List.replicate _ _).length = _; rw [List.length_replicate]; show _ = (_ - 0) * 1; omega⟩
  rintro ⟨i, d7, d9⟩ ⟨hi, hd7i, hd9⟩
  have hstp := hord.step htl i hi
  have hof2 := hstp.1.few
  have hge2 := (numK_get b (gd m.pl.next (gd order k)) (order := order) (k := k) (by omega) i).2
  refine Ah (Ab (y_ (B4 (T U) (T U)) (Af (Ac (Ah ?_))) U))
  first | refine Au (Aa U) (fun c44 => ?_) (fun c44 => ?_) | refine Bb (Aa U) (fun c44 => ?_) (fun c44 => ?_)
  ·have hil : gd (gd m.rows (gd order k)).l i < m.rows.length := hr2 i (by omega)
   have hti : gd (gd m.pl.next (gd order k)) i = gd (gd m.rows (gd order k)).l i := by rw [htos]
   refine A9 (Ac (Ah (A2 (Ah (Ab (y_ (Bh (T U) (T U) runUnderlying42 sizeOf3 (by omega) (by first | exact rfl | exact hB.b (i := 0) (by omega) | exact hd7.bas (by omega) | exact hm.a2.b (i := gd order k) hokl | exact (hm.r (gd m.rows (gd order k)) (A1 hokl)).b (i := i) (by omega) | exact hB.b (i := gd (gd m.rows (gd order k)).l i) (by omega) | exact hd7i.bas (by omega) | exact hm.a3.b (i := gd (numK b (gd m.pl.next (gd order k)) order (gd m.pl.next (gd order k)).length).1 k) (by rw [hgk]; omega))) ?_ U))))))
   refine y_ (Ai (T U) isAgg3 (by first | exact c_o | exact cell1 (((hm.r (gd m.rows (gd order k)) (A1 hokl)).mono sbt).cs (i := i) (by omega)))) ?_ U
   refine y_ (Ad (T U)) (Af (Ac ?_)) U
   refine j_cutC (X := Sl) (V := fun g7 => [(7, slV g7 (numK b (gd m.pl.next (gd order k)) order (i + 1)).1.length)]) (C := [(1, _), (2, _), (4, _), (5, _), (6, _), (8, _), (9, _), (11, _), (41, _), (42, _), (43, _)]) (G := fun g7 => slH d9 ((numK b (gd m.pl.next (gd order k)) order i).2.flatMap encU) 3 ++ (rowsH rows ++ (slH g7 ((numK b (gd m.pl.next (gd order k)) order (i + 1)).1.flatMap encU) 3 ++ ((n17, mapO encNK encIv (zipM ((numK b (gd m.pl.next (gd order k)) order (i + 1)).1.map (gd b)))) :: (n5, Cl [.slice m.q1 m.names.length m.c1, slV dx rows.length, slV da acc.length] 29) :: (slH dx (rows.flatMap encRow) 42 ++ (slH da (acc.flatMap encB1) 4 ++ ((n4, Cl [.slice none 0 0, .slice none 0 0, .slice none 0 0] 29) :: (n2, Cl (encMc m) 29) :: H))))))) (φ := fun g7 => SlOk g7 (numK b (gd m.pl.next (gd order k)) order (i + 1)).1.length 1) ⟨Aa U, Aa U, Aa U, Aa U, Aa U, Aa U, Aa U, Aa U, Aa U, Aa U, Aa U, trivial⟩ ?_ ?_
   ·refine Ah (Ab (y_ (Ae (T U)) (y_ (Ae (T U)) (y_ (Ae (T U)) (y_ (Bh (T U) (T U) runUnderlying42 sizeOf3 (by omega) (by first | exact rfl | exact hB.b (i := 0) (by omega) | exact hd7.bas (by omega) | exact hm.a2.b (i := gd order k) hokl | exact (hm.r (gd m.rows (gd order k)) (A1 hokl)).b (i := i) (by omega) | exact hB.b (i := gd (gd m.rows (gd order k)).l i) (by omega) | exact hd7i.bas (by omega) | exact hm.a3.b (i := gd (numK b (gd m.pl.next (gd order k)) order (gd m.pl.next (gd order k)).length).1 k) (by rw [hgk]; omega))) ?_ U) U) U) U))
    refine y_ (Ai (T U) isAgg3 (by first | exact c_o | exact cell1 ((hB.mono sbt).cs (i := gd (gd m.rows (gd order k)).l i) (by omega)))) ?_ U
    refine y_ (yl_lookN (l := (numK b (gd m.pl.next (gd order k)) order i).1.map (gd b)) (s := gd b (gd (gd m.rows (gd order k)).l i)) (T U) (T U) fdd) ?_ U
    refine y_ (Ae (T U)) (y_ (Ay (T U) U) (y_ (Ay (T U) U) (y_ (Ad (T U)) (y_ (Ad (T U)) (Af (Ac (Bt [(1, _), (2, _), (4, _), (5, _), (6, _), (7, _), (8, _), (9, _), (11, _), (13, _), (41, _), (42, _), (43, _)] ⟨Aa U, Aa U, Aa U, Aa U, Aa U, Aa U, Aa U, Aa U, Aa U, Aa U, Aa U, Aa U, Aa U, trivial⟩ (Ah (Ab (y_ (Ae (T U)) ?_ U)))))) U) U) U) U) U
    first | refine Bg (Ct (T U)) U Ag ?_ | refine Bg (C2 (T U)) U Ag ?_
    refine Af (Ac ?_)
    first | refine Au (Aa U) (fun c57 => ?_) (fun c57 => ?_) | refine Bb (Aa U) (fun c57 => ?_) (fun c57 => ?_)
    ·have hrow : (numK b (gd m.pl.next (gd order k)) order (i + 1)).1 = (numK b (gd m.pl.next (gd order k)) order i).1 ++ [gd (gd m.rows (gd order k)).l i] := by rw [numK_succ]; simp only [hti]; rw [if_neg c57]
     refine Ah (Ab (y_ (Ae (T U)) (y_ (Ae (T U)) (y_ (Ae (T U)) (y_ (Bh (T U) (T U) runUnderlying42 sizeOf3 (by omega) (by first | exact rfl | exact hB.b (i := 0) (by omega) | exact hd7.bas (by omega) | exact hm.a2.b (i := gd order k) hokl | exact (hm.r (gd m.rows (gd order k)) (A1 hokl)).b (i := i) (by omega) | exact hB.b (i := gd (gd m.rows (gd order k)).l i) (by omega) | exact hd7i.bas (by omega) | exact hm.a3.b (i := gd (numK b (gd m.pl.next (gd order k)) order (gd m.pl.next (gd order k)).length).1 k) (by rw [hgk]; omega))) ?_ U) U) U) U))
     refine y_ (Ai (T U) isAgg3 (by first | exact c_o | exact cell1 ((hB.mono sbt).cs (i := gd (gd m.rows (gd order k)).l i) (by omega)))) ?_ U
     refine y_ (Ae (T U)) (y_ (Bw (T U) runUnderlying42) (e_ (eff_mapUpdate (l := zipM ((numK b (gd m.pl.next (gd order k)) order i).1.map (gd b))) (encV := encIv) (gd b (gd (gd m.rows (gd order k)).l i)) ((numK b (gd m.pl.next (gd order k)) order i).1.map (gd b)).length (keyN (V := Nat)) (T U) (T U) U (T U) (by simp) runUnderlying201) ?_ U) U) U
     rintro _ _ ⟨rfl, rfl⟩
     rw [upsert_zipM c57]
     refine Af (Ac (Ab (y_ (Ae (T U)) (y_ (Ae (T U)) (e_ (An (.cons (T U) .nil) (bs42_1_0 _)) ?_ U) U) U)))
     rintro _ _ ⟨n67, rfl, rfl⟩
     refine e_ (Bi (gd (gd m.rows (gd order k)).l i) (by' := 8) (by repeat (first | exact LocL.h | apply LocL.t | apply LocL.a)) (T U) (T U) runUnderlying42 runUnderlying42 sizeOf3 typeInfo3 U zeroValue3 U (fun _ => rfl) U hd7i (by decide) (by omega)) ?_ U
     rintro _ _ ⟨d7', rfl, hok7, rfl⟩
     refine y_ (Ad (T U)) (Af ?_) U
     refine Bl (d7') ?_ ⟨(by first | exact Aa U | (refine Aj (Aa U) (vint ?_); omega) | (refine Aj (Aa U) ?_; simp; done) | (refine Aj (Aa U) ?_; exact by simp only [hrow, List.length_append, List.length_cons, List.length_nil])), trivial⟩ ⟨Aa U, Aa U, Aa U, Aa U, Aa U, Aa U, Aa U, Aa U, Aa U, Aa U, Aa U, trivial⟩ (by simp only [hrow, List.map_append, List.map_cons, List.map_nil]; exact sbt)
     first | (rw [hrow]; simpa using hok7) | (rw [hrow]; exact hd7i)
    ·have hrow : (numK b (gd m.pl.next (gd order k)) order (i + 1)).1 = (numK b (gd m.pl.next (gd order k)) order i).1 := by rw [numK_succ]; simp only [hti]; rw [if_pos (Classical.not_not.1 c57)]
     refine A9 ?_
     refine Bl (d7) ?_ ⟨(by first | exact Aa U | (refine Aj (Aa U) (vint ?_); omega) | (refine Aj (Aa U) ?_; simp; done) | (refine Aj (Aa U) ?_; exact by simp only [hrow, List.length_append, List.length_cons, List.length_nil])), trivial⟩ ⟨Aa U, Aa U, Aa U, Aa U, Aa U, Aa U, Aa U, Aa U, Aa U, Aa U, Aa U, trivial⟩ (by simp only [hrow, List.map_append, List.map_cons, List.map_nil]; exact sbt)
     first | (rw [hrow]; simpa using hok7) | (rw [hrow]; exact hd7i)
   rintro g7 hg7
   have hmem : gd b (gd (gd m.rows (gd order k)).l i) ∈ (numK b (gd m.pl.next (gd order k)) order (i + 1)).1.map (gd b) := by rw [← hti]; exact numK_mem _ _ _ _
   refine Ab (y_ (Ae (T U)) (y_ (Ae (T U)) (y_ (Ae (T U)) (y_ (Ae (T U)) (y_ (Bh (T U) (T U) runUnderlying42 sizeOf3 (by omega) (by first | exact rfl | exact hB.b (i := 0) (by omega) | exact hd7.bas (by omega) | exact hm.a2.b (i := gd order k) hokl | exact (hm.r (gd m.rows (gd order k)) (A1 hokl)).b (i := i) (by omega) | exact hB.b (i := gd (gd m.rows (gd order k)).l i) (by omega) | exact hd7i.bas (by omega) | exact hm.a3.b (i := gd (numK b (gd m.pl.next (gd order k)) order (gd m.pl.next (gd order k)).length).1 k) (by rw [hgk]; omega))) ?_ U) U) U) U) U)
   refine y_ (Ai (T U) isAgg3 (by first | exact c_o | exact cell1 ((hB.mono sbt).cs (i := gd (gd m.rows (gd order k)).l i) (by omega)))) ?_ U
   refine y_ (yl_lookN1 (l := (numK b (gd m.pl.next (gd order k)) order (i + 1)).1.map (gd b)) (s := gd b (gd (gd m.rows (gd order k)).l i)) hmem (T U) (T U) fdd) ?_ U
   refine e_ (An (.cons (T U) .nil) (bs42_1_0 _)) ?_ U
   rintro _ _ ⟨n76, rfl, rfl⟩
   refine e_ (Bi (idx ((numK b (gd m.pl.next (gd order k)) order (i + 1)).1.map (gd b)) (gd b (gd (gd m.rows (gd order k)).l i))) (by' := 8) (by repeat (first | exact LocL.h | apply LocL.t | apply LocL.a)) (T U) (T U) runUnderlying42 runUnderlying42 sizeOf3 typeInfo3 U zeroValue3 U (fun _ => rfl) U hd9 (by decide) (by have := hstp.2.1; omega)) ?_ U
   rintro _ _ ⟨d9', rfl, hok9, rfl⟩
   refine y_ (Ad (T U)) (Af (Bm (Ac (Ab (y_ (Bv (T U) Ak (by omega)) ?_ U))))) U
   refine y_ (Ae (T U)) (Af ?_) U
   have hrow : (numK b (gd m.pl.next (gd order k)) order (i + 1)).2 = (numK b (gd m.pl.next (gd order k)) order i).2 ++ [idx ((numK b (gd m.pl.next (gd order k)) order (i + 1)).1.map (gd b)) (gd b (gd (gd m.rows (gd order k)).l i))] := by rw [← hti, numK_idx, numK_succ]
   refine Bs ((i + 1, g7, d9')) ?_ ?_ ⟨(by first | exact Aa U | (refine Aj (Aa U) (vint ?_); omega) | (refine Aj (Aa U) ?_; simp; done) | (refine Aj (Aa U) ?_; exact by simp only [hrow, List.length_append, List.length_cons, List.length_nil])), (by first | exact Aa U | (refine Aj (Aa U) (vint ?_); omega) | (refine Aj (Aa U) ?_; simp; done) | (refine Aj (Aa U) ?_; exact by simp only [hrow, List.length_append, List.length_cons, List.length_nil])), (by first | exact Aa U | (refine Aj (Aa U) (vint ?_); omega) | (refine Aj (Aa U) ?_; simp; done) | (refine Aj (Aa U) ?_; exact by simp only [hrow, List.length_append, List.length_cons, List.length_nil])), trivial⟩ ⟨Aa U, Aa U, Aa U, Aa U, Aa U, Aa U, Aa U, Aa U, trivial⟩ ?_
   ·exact ⟨by omega, hg7, by rw [hrow, List.length_append]; exact hok9⟩
   ·first | omega | (simp only []; omega)
   ·simp only [hrow]; exact sbt
  ·have hi2 : i = (gd m.pl.next (gd order k)).length := by omega
   subst hi2
   have hgk := (numK_get b (gd m.pl.next (gd order k)) (order := order) (k := k) (by omega) (gd m.pl.next (gd order k)).length).1
   refine B7 (A4 (A8 (Ba (Ac (Ah (Ab (y_ (Bk (T U) Dc) (y_ (Ai (T U) isAgg26 (by first | exact c_o)) ?_ U) U)))))))
   refine y_ (Ae (T U)) (e_ (An (.cons (T U) .nil) (bs26_1_0 _ _ _)) ?_ U) U
   rintro _ _ ⟨n82, rfl, rfl⟩
   refine e_ (Bi ((⟨d9, (numK b (gd m.pl.next (gd order k)) order (gd m.pl.next (gd order k)).length).2⟩ : Row)) (by' := 24) (by repeat (first | exact LocL.h | apply LocL.t | apply LocL.a)) (T U) (T U) runUnderlying26 runUnderlying26 sizeOf42 typeInfo42 U zeroValue42 U (fun _ => rfl) U hox (by decide) (by omega)) ?_ U
   rintro _ _ ⟨dx', rfl, hokx, rfl⟩
   refine y_ (Bk (T U) Dc) ?_ U
   first | refine A0 (As (T U) (T U) sizeOf26) U Ag ?_ | refine A0 (B6 (T U) (T U) U sizeOf26) U Ag ?_ | refine A0 (By (T U) (T U) U sizeOf26) U Ag ?_
   rintro _ _ ⟨rfl, rfl⟩
   refine Af (Ac (Cv 11 [(0, true), (1, true), (2, true), (3, true), (4, true), (5, true), (6, true), (7, true), (8, true), (9, true), (10, false)] _ mixd (by kernel_rfl) (by exact sbt) ?_))
   refine o_y U (Bk (T U) Dn) (o_y U (Ai (T U) isAgg27 (by first | exact c_o)) ?_ U Ag) U Ag
   refine o_y U (Bk (T U) Dn) (o_y U (Ai (T U) isAgg27 (by first | exact c_o)) ?_ U Ag) U Ag
   refine o_y U (Ae (T U)) (o_y U (Ae (T U)) (o_y U (Bh (T U) (T U) runUnderlying42 sizeOf3 (by omega) (by first | exact rfl | exact hB.b (i := 0) (by omega) | exact hd7.bas (by omega) | exact hm.a2.b (i := gd order k) hokl | exact (hm.r (gd m.rows (gd order k)) (A1 hokl)).b (i := i) (by omega) | exact hB.b (i := gd (gd m.rows (gd order k)).l i) (by omega) | exact hd7i.bas (by omega) | exact hm.a3.b (i := gd (numK b (gd m.pl.next (gd order k)) order (gd m.pl.next (gd order k)).length).1 k) (by rw [hgk]; omega))) ?_ U Ag) U Ag) U Ag
   refine o_y U (Ai (T U) isAgg3 (by first | exact c_o | exact cell1 (((Bz (X := H) (enc := encU) (sz := 1) (e := 3) (l := (numK b (gd m.pl.next (gd order k)) order (gd m.pl.next (gd order k)).length).1) (fun _ => rfl) hd7i).mono sbt).cs (i := k) (by omega)))) ?_ U Ag
   refine o_y U (Bh (T U) (T U) runUnderlying27 sizeOf4 (by rw [hgk]; omega) (by first | exact rfl | exact hB.b (i := 0) (by omega) | exact hd7.bas (by omega) | exact hm.a2.b (i := gd order k) hokl | exact (hm.r (gd m.rows (gd order k)) (A1 hokl)).b (i := i) (by omega) | exact hB.b (i := gd (gd m.rows (gd order k)).l i) (by omega) | exact hd7i.bas (by omega) | exact hm.a3.b (i := gd (numK b (gd m.pl.next (gd order k)) order (gd m.pl.next (gd order k)).length).1 k) (by rw [hgk]; omega))) ?_ U Ag
   refine o_y U (Ai (T U) isAgg4 (by first | exact c_o | exact cell1 ((hm.a3.mono sbt).cs (i := gd (numK b (gd m.pl.next (gd order k)) order (gd m.pl.next (gd order k)).length).1 k) (by rw [hgk]; omega)))) ?_ U Ag
   refine o_e U (An (.cons (T U) .nil) (bs27_1_0 _)) ?_ U Ag
   rintro _ _ ⟨n95, rfl, rfl⟩
   refine ⟨sbt, (B5 U (e_ (Bi (gd m.acc (gd order k)) (by' := 1) (by repeat (first | exact LocL.h | apply LocL.t | apply LocL.a)) (T U) (T U) runUnderlying27 runUnderlying27 sizeOf4 typeInfo4 U zeroValue4 U (fun _ => rfl) U hoa (by decide) (by omega) (hn := cs_b1 (congrArg (gd m.acc) hgk).symm Bc)) ?_ U))⟩
   rintro _ _ ⟨da', rfl, hoka, rfl⟩
   refine y_ (Bk (T U) Dn) ?_ U
   first | refine A0 (As (T U) (T U) sizeOf27) U Ag ?_ | refine A0 (B6 (T U) (T U) U sizeOf27) U Ag ?_ | refine A0 (By (T U) (T U) U sizeOf27) U Ag ?_
   rintro _ _ ⟨rfl, rfl⟩
   refine Af (Bm (Ac (Bt [(1, _), (2, _), (4, _), (5, _), (6, _), (7, _), (8, _)] ⟨Aa U, Aa U, Aa U, Aa U, Aa U, Aa U, Aa U, trivial⟩ (Ab (y_ (Ae (T U)) (y_ (Bv (T U) Ak (by omega)) ?_ U) U)))))
   refine y_ (Ad (T U)) (Af ?_) U
   refine Bs ((k + 1, (numK b (gd m.pl.next (gd order k)) order (gd m.pl.next (gd order k)).length).1, rows ++ [(⟨d9, (numK b (gd m.pl.next (gd order k)) order (gd m.pl.next (gd order k)).length).2⟩ : Row)], acc ++ [gd m.acc (gd order k)], d7, dx', da')) ?_ ?_ ⟨(by first | exact Aa U | (refine Aj (Aa U) (vint ?_); omega) | (refine Aj (Aa U) ?_; simp; done) | (refine Aj (Aa U) ?_; exact by simp only [hrow, List.length_append, List.length_cons, List.length_nil])), (by first | exact Aa U | (refine Aj (Aa U) (vint ?_); omega) | (refine Aj (Aa U) ?_; simp; done) | (refine Aj (Aa U) ?_; exact by simp only [hrow, List.length_append, List.length_cons, List.length_nil])), trivial⟩ ⟨Aa U, Aa U, Aa U, Aa U, Aa U, trivial⟩ ?_
   ·have hst2 := hord.step htl (gd m.pl.next (gd order k)).length (Nat.le_refl _)
    have hge := (numK_get b (gd m.pl.next (gd order k)) (order := order) (k := k) (by omega) (gd m.pl.next (gd order k)).length).2
    refine ⟨hst2.1, by omega, by simp [hrl], by simp [hacl], hd7i, by simpa using hokx, by simpa using hoka, ?_, ?_⟩
    ·intro r hr
     simp only [List.mem_append, List.mem_cons, List.not_mem_nil, or_false] at hr
     rcases hr with hr | rfl
     ·exact hor r hr
     ·exact hd9
    ·rw [← hgo, List.map_append, show 201 - k = (200 - k) + 1 by omega, numGo_succ, if_pos (show k < order.length by omega), show 201 - (k + 1) = 200 - k by omega]; rfl
   ·show 201 - (k + 1) < 201 - k; omega
   ·simp only [rowsH_app, List.append_assoc, List.length_append, List.length_cons, List.length_nil, Nat.zero_add]; exact sbt
 ·refine B7 (A4 (A8 (Ba (Ac (Ah (Ab (y_ (Am (T U) isAgg29 sizeOf29 U (by first | exact Bc)) ?_ U)))))))
  first | refine A0 (As (T U) (T U) sizeOf29) U Ag ?_
  rintro _ _ ⟨rfl, rfl⟩
  refine Af (Ac (A5 (A6 U (.cellA (Aa U) isAgg29 sizeOf29 U (by first | exact Bc) .nil) ?_)))
  have hfin : numGo m.pl b 201 0 [0] [] [] = (rows.map Row.l, acc) := by rw [← hgo, show 201 - k = (200 - k) + 1 by omega, numGo_succ, if_neg (by omega)]
  unfold numF
  rw [hfin]
  exact ⟨_, ⟨(dx, da, rows), ⟨rfl, hox, hoa, rfl, hor⟩, rfl⟩, sbt⟩
end Go.Proofs.YtkdolgnpkjihpaaGreatDoor
namespace Go.Proofs.YtkdolgnpkjihpaaGreatDoor
open _root_.Go.Proofs.Tryz
open Go.RowKit
set_option linter.unusedVariables false
set_option linter.unusedSimpArgs false
theorem row_zero (r : List Nat) (m : Nat) (h : r.length < m) : r.flatMap encU ++ List.replicate (m - r.length) (Value.int .i64 0) = (r ++ [0]).flatMap encU ++ List.replicate (m - (r.length + 1)) (Value.int .i64 0) := by
 rw [List.flatMap_append, show m - r.length = (m - (r.length + 1)) + 1 by omega, List.replicate_succ]
 simp
abbrev bit (y : Bool) : Nat := if y then 1 else 0
theorem bit_take {l : List Bool} {k : Nat} (h : k < l.length) : (l.take (k + 1)).map bit = (l.take k).map bit ++ [bit (gd l k)] := by
 rw [List.take_add_one, C7 h]; simp
theorem least_s {w0 : World} : LeastS w0 leastF := by
 intro H m hm hp hln
 refine A7 Tryz.func54 U ntmps54 U ?_
 have hf := hp.few
 have hfl : m.pl.next.length = m.rows.length := List.length_map ..
 have hs := hp.some'
 have hal : m.acc.length = m.rows.length := by have := hp.acc; rw [hfl] at this; exact this
 refine Ah (Ab (e_ (Bf (T U) cs_) ?_ U))
 rintro _ _ ⟨n1, rfl, rfl⟩
 refine e_ (Ap zeroValue29 cs_) ?_ U
 rintro _ _ ⟨n2, rfl, rfl⟩
 refine Af (Ac (j_scope (Ah (Ab (y_ (Bk (T U) Dc) (y_ (Ai (T U) isAgg26 (by first | exact c_o)) ?_ U) U)))))
 refine y_ (Bw (T U) runUnderlying26) (e_ (eff_makeSlice (by' := 8) (k := m.rows.length) (T U) runUnderlying42 sizeOf3 typeInfo3 U zeroValue3 U (by omega) (by omega)) ?_ U) U
 rintro _ _ ⟨n12, rfl, rfl⟩
 refine y_ (Ad (T U)) (Af (Ac (Ah (Ah (Ab (y_ (Bk (T U) Dn) (y_ (Ai (T U) isAgg27 (by first | exact c_o)) ?_ U) U)))))) U
 refine y_ (Bw (T U) runUnderlying27) (y_ (Ae Ak) (Af (Ac (A2 ?_))) U) U
 refine Cn (X := Nat) (V := fun k => [(16, .int .i64 (k : Nat))]) (C := [(1, _), (2, _), (3, _), (14, _), (15, _)]) (G := fun k => (n12, Cl (((m.acc.take k).map bit).flatMap encU ++ List.replicate (m.rows.length - ((m.acc.take k).map bit).length) (.int .i64 0)) 3) :: ((n2, Cl [.slice none 0 0, .slice none 0 0, .slice none 0 0] 29) :: (n1, Cl (encMc m) 29) :: H)) (φ := fun k => k ≤ m.rows.length) (μ := fun k => m.rows.length - k) (x0 := 0) ?_ ⟨Aa U, Aa U, Aa U, Aa U, Aa U, trivial⟩ ⟨atd, trivial⟩ sb0 ?_
 ·exact Nat.zero_le _
 rintro k hk
 refine Ah (Ab (y_ (B4 (T U) (T U)) (Af (Ac (Ah ?_))) U))
 first | refine Au (Aa U) (fun c17 => ?_) (fun c17 => ?_) | refine Bb (Aa U) (fun c17 => ?_) (fun c17 => ?_)
 ·have hkl : k < m.rows.length := by omega
  have hbt := bit_take (l := m.acc) (k := k) (by omega)
  refine A9 (Ac (Ah (A2 (Ah (Ab (y_ (Ae (T U)) (y_ (Bh (T U) (T U) runUnderlying27 sizeOf4 (by omega) (by first | exact rfl | exact hm.a3.b (i := k) (by omega) | exact hm.a2.b (i := k) (by omega) | exact hm.a2.b (i := i) (by omega) | exact (hm.r (gd m.rows i) (A1 (by omega))).b (i := a) (by omega) | exact (hm.r (gd m.rows k) (A1 (by omega))).b (i := a) (by omega))) ?_ U) U))))))
  refine y_ (Ai (T U) isAgg4 (by first | exact c_o | exact cell1 ((hm.a3.mono sbt).cs (i := k) (by omega)))) ?_ U
  refine y_ (Ad (T U)) (y_ (Ad (T U)) (Af (Ac (Ah (Ab (y_ (Ae (T U)) (Af (Ac ?_)) U))))) U) U
  first | refine Au (Aa U) (fun c21 => ?_) (fun c21 => ?_) | refine Bb (Aa U) (fun c21 => ?_) (fun c21 => ?_)
  ·have hbit : ((m.acc.take (k + 1)).map bit) = ((m.acc.take k).map bit) ++ [1] := by rw [hbt, c21]; rfl
   refine Ab (y_ (Ae (T U)) (y_ (Ae (T U)) (y_ (Bh (T U) (T U) runUnderlying42 sizeOf3 (by omega) (by first | exact rfl | exact hm.a3.b (i := k) (by omega) | exact hm.a2.b (i := k) (by omega) | exact hm.a2.b (i := i) (by omega) | exact (hm.r (gd m.rows i) (A1 (by omega))).b (i := a) (by omega) | exact (hm.r (gd m.rows k) (A1 (by omega))).b (i := a) (by omega))) ?_ U) U) U)
   refine e_ (eff_sRow (m := m.rows.length) (v := 1) ((m.acc.take k).map bit) (by simp; omega) (T U) Ak sizeOf3 (by simp; omega) (by (repeat (first | exact Upd.h | apply Upd.t | apply Dz)); done)) ?_ U
   rintro _ _ ⟨rfl, rfl⟩
   refine Af (Bm (Ac (Ab (y_ (Bv (T U) Ak (by omega)) ?_ U))))
   refine y_ (Ae (T U)) (Af ?_) U
   refine Bs (k + 1) ?_ ?_ ⟨atd, trivial⟩ ⟨Aa U, Aa U, Aa U, Aa U, Aa U, trivial⟩ ?_
   ·show k + 1 ≤ _; omega
   ·first | omega | (simp only []; omega)
   ·simp only [hbit, List.length_append, List.length_cons, List.length_nil, Nat.zero_add]; exact sbt
  ·have hbit : ((m.acc.take (k + 1)).map bit) = ((m.acc.take k).map bit) ++ [0] := by rw [hbt, c21]; rfl
   rw [row_zero ((m.acc.take k).map bit) m.rows.length (by simp; omega)]
   refine A9 (Bm (Ac (Ab (y_ (Bv (T U) Ak (by omega)) ?_ U))))
   refine y_ (Ae (T U)) (Af ?_) U
   refine Bs (k + 1) ?_ ?_ ⟨atd, trivial⟩ ⟨Aa U, Aa U, Aa U, Aa U, Aa U, trivial⟩ ?_
   ·show k + 1 ≤ _; omega
   ·first | omega | (simp only []; omega)
   ·simp only [hbit, List.length_append, List.length_cons, List.length_nil, Nat.zero_add]; exact sbt
 ·have hk2 : k = m.rows.length := by omega
  have e1 : ((m.acc.take k).map bit) = initB m.pl := by rw [hk2, ← hal, List.take_length]; rfl
  have e2 : (initB m.pl).length = m.rows.length := by unfold initB; rw [List.length_map]; exact hal
  simp only [e1, e2, Nat.sub_self, List.replicate_zero]
  refine B7 (A4 (A8 (Ba (Ac (Ah (j_label (Ac (A2 ?_))))))))
  refine Cn (X := List Nat × Nat) (V := fun ⟨b, f⟩ => []) (C := [(1, _), (2, _), (3, _)]) (G := fun ⟨b, f⟩ => slH (.blk n12 m.rows.length []) (b.flatMap encU) 3 ++ ((n2, Cl [.slice none 0 0, .slice none 0 0, .slice none 0 0] 29) :: (n1, Cl (encMc m) 29) :: H)) (φ := fun ⟨b, f⟩ => b.length = m.rows.length ∧ Cont b ∧ m.rows.length + 1 ≤ f + maxF b ∧ refineF m.pl f b = refineF m.pl 201 (initB m.pl)) (μ := fun ⟨b, f⟩ => f) (x0 := (initB m.pl, 201)) ?_ ⟨Aa rfl, Aa rfl, Aa rfl, trivial⟩ trivial sb0 ?_
  ·exact ⟨by unfold initB; rw [List.length_map]; exact hal, Cont.init (by rw [show m.pl.acc = m.acc from rfl]; omega), by omega, rfl⟩
  rintro ⟨b, f⟩ ⟨hbl, hco, hfu, href⟩
  have hd : SlOk (.blk n12 m.rows.length []) b.length 1 := ⟨Nat.le_of_eq hbl, by show 0 = (_ - _) * 1; rw [hbl]; omega⟩
  have hmax := hco.max_le
  obtain ⟨f, rfl⟩ : ∃ g, f = g + 1 := ⟨f - 1, by omega⟩
  refine A2 (Ah (Ah (Ab (y_ (Ae (T U)) (y_ (Bw (T U) runUnderlying42) (y_ (Ae Ak) (Af (Ac (A2 ?_))) U) U) U))))
  refine Co (X := Nat) (V := fun k => [(28, .int .i64 (k : Nat))]) (C := [(1, _), (2, _), (3, _), (27, _)]) (φ := fun k => k ≤ m.rows.length ∧ ∀ j, j < k → fsI m.pl b j = none) (μ := fun k => m.rows.length - k) (x0 := 0) ?_ ⟨Aa U, Aa U, Aa U, Aa U, trivial⟩ ⟨atd, trivial⟩ ?_
  ·exact ⟨Nat.zero_le _, fun j hj => absurd hj (Nat.not_lt_zero _)⟩
  rintro k ⟨hk, hfs⟩
  refine Ah (Ab (y_ (B4 (T U) (T U)) (Af (Ac (Ah ?_))) U))
  first | refine Au (Aa U) (fun c29 => ?_) (fun c29 => ?_) | refine Bb (Aa U) (fun c29 => ?_) (fun c29 => ?_)
  ·have hkn : k < m.rows.length := by omega
   obtain ⟨hk1, hk2⟩ := pm_row hp hkn
   refine A9 (Ac (Ah (A2 (Ah (Ab (y_ (Ae (T U)) (y_ (Ad (T U)) (Af (Ac (Ah (Ab (y_ (Ae (T U)) (y_ (Ae Ak) (Af (Ac (A2 ?_))) U) U))))) U) U))))))
   refine Co (X := Nat) (V := fun i => [(32, .int .i64 (i : Nat))]) (C := [(1, _), (2, _), (3, _), (6, _), (27, _), (28, _), (31, _)]) (φ := fun i => i ≤ k ∧ ∀ j, j < i → (if gd b j = gd b k then fsA m.pl b k j else none) = none) (μ := fun i => k - i) (x0 := 0) ?_ ⟨Aa U, Aa U, Aa U, Aa U, Aa U, Aa U, Aa U, trivial⟩ ⟨atd, trivial⟩ ?_
   ·exact ⟨Nat.zero_le _, fun j hj => absurd hj (Nat.not_lt_zero _)⟩
   rintro i ⟨hi, hfi⟩
   refine Ah (Ab (y_ (B4 (T U) (T U)) (Af (Ac (Ah ?_))) U))
   first | refine Au (Aa U) (fun c33 => ?_) (fun c33 => ?_) | refine Bb (Aa U) (fun c33 => ?_) (fun c33 => ?_)
   ·have hin : i < m.rows.length := by omega
    obtain ⟨hi1, hi2⟩ := pm_row hp hin
    refine A9 (Ac (Ah (A2 (Ah (Ab (y_ (Ae (T U)) (y_ (Ad (T U)) (Af (Ac (Ah (Ah (Cv 9 [(0, true), (1, true), (2, true), (3, true), (4, true), (5, true), (6, true), (7, true), (8, true)] _ mixd (by kernel_rfl) sb0 ?_ (by repeat (first | exact np_ret | exact np_round | exact np_assign | apply np_scope | apply np_then | apply np_block | apply np_loop | apply np_cut))))))) U) U))))))
    refine o_y U (Ae (T U)) (o_y U (Ae (T U)) (o_y U (Bh (T U) (T U) runUnderlying42 sizeOf3 (by omega) (by first | exact rfl | exact hm.a3.b (i := k) (by omega) | exact hm.a2.b (i := k) (by omega) | exact hm.a2.b (i := i) (by omega) | exact (hm.r (gd m.rows i) (A1 (by omega))).b (i := a) (by omega) | exact (hm.r (gd m.rows k) (A1 (by omega))).b (i := a) (by omega))) ?_ U Ag) U Ag) U Ag
    refine o_y U (Ai (T U) isAgg3 (by first | exact c_o | exact cell1 (((Bz (X := H) (enc := encU) (sz := 1) (e := 3) (l := b) (fun _ => rfl) hd).mono sbt).cs (i := i) (by omega)))) ?_ U Ag
    refine o_y U (Ae (T U)) (o_y U (Ae (T U)) (o_y U (Cw (T U) (T U) runUnderlying42 sizeOf3 (by omega) (by first | exact rfl | exact hm.a3.b (i := k) (by omega) | exact hm.a2.b (i := k) (by omega) | exact hm.a2.b (i := i) (by omega) | exact (hm.r (gd m.rows i) (A1 (by omega))).b (i := a) (by omega) | exact (hm.r (gd m.rows k) (A1 (by omega))).b (i := a) (by omega))) ?_ U Ag) U Ag) U Ag
    refine o_y U (Ai (T U) isAgg3 (by first | exact c_o | exact cell1 (((Bz (X := H) (enc := encU) (sz := 1) (e := 3) (l := b) (fun _ => rfl) hd).mono sbt).cs (i := k) (by omega)))) ?_ U Ag
    refine o_y U (C3 (T U) (T U)) (B5 U (Af (Ac ?_))) U Ag
    first | refine Au (Aa U) (fun c43 => ?_) (fun c43 => ?_) | refine Bb (Aa U) (fun c43 => ?_) (fun c43 => ?_)
    ·have hiA : (if gd b i = gd b k then fsA m.pl b k i else none) = none := if_neg (by omega)
     refine B7 (A4 (Ba (Ac (Ab (y_ (Bv (T U) Ak (by omega)) ?_ U)))))
     refine y_ (Ae (T U)) (Af ?_) U
     refine Bs (i + 1) ?_ ?_ ⟨atd, trivial⟩ ⟨Aa U, Aa U, Aa U, Aa U, Aa U, Aa U, Aa U, trivial⟩ ?_
     ·refine ⟨by omega, fun j hj => ?_⟩
      by_cases e : j = i
      ·subst e; exact hiA
      ·exact hfi j (by omega)
     ·first | omega | (simp only []; omega)
     ·exact sbt
    ·refine A9 (Ac (Ah (Ab (y_ (Bk (T U) Dc) (y_ (Ai (T U) isAgg26 (by first | exact c_o)) ?_ U) U))))
     refine y_ (Ae (T U)) (y_ (Cw (T U) (T U) runUnderlying26 sizeOf42 (by omega) (by first | exact rfl | exact hm.a3.b (i := k) (by omega) | exact hm.a2.b (i := k) (by omega) | exact hm.a2.b (i := i) (by omega) | exact (hm.r (gd m.rows i) (A1 (by omega))).b (i := a) (by omega) | exact (hm.r (gd m.rows k) (A1 (by omega))).b (i := a) (by omega))) ?_ U) U
     refine y_ (Ai (T U) isAgg42 (by first | exact c_o | exact cell1 ((hm.a2.mono sbt).cs (i := k) (by omega)))) ?_ U
     refine y_ (Bw (T U) runUnderlying42) (y_ (Ae Ak) (Af (Ac (Bt [(1, _), (2, _), (3, _), (6, _), (7, _), (27, _), (28, _), (31, _), (32, _), (49, _), (50, _)] ⟨Aa U, Aa U, Aa U, Aa U, Aa U, Aa U, Aa U, Aa U, Aa U, Aa U, Aa U, trivial⟩ (A2 ?_)))) U) U
     refine Co (X := Nat) (V := fun a => [(50, .int .i64 (a : Nat))]) (C := [(1, _), (2, _), (3, _), (6, _), (7, _), (27, _), (28, _), (31, _), (32, _), (49, _)]) (φ := fun a => a ≤ m.names.length + 1 ∧ ∀ a2, a2 < a → gd b (nx m.pl i a2) = gd b (nx m.pl k a2)) (μ := fun a => m.names.length + 1 - a) (x0 := 0) ?_ ⟨Aa U, Aa U, Aa U, Aa U, Aa U, Aa U, Aa U, Aa U, Aa U, Aa U, trivial⟩ ⟨atd, trivial⟩ ?_
     ·exact ⟨Nat.zero_le _, fun j hj => absurd hj (Nat.not_lt_zero _)⟩
     rintro a ⟨ha, hfa⟩
     refine Ah (Ab (y_ (B4 (T U) (T U)) (Af (Ac (Ah ?_))) U))
     first | refine Au (Aa U) (fun c51 => ?_) (fun c51 => ?_) | refine Bb (Aa U) (fun c51 => ?_) (fun c51 => ?_)
     ·have hi3 := hi2 a (by omega)
      have hk3 := hk2 a (by omega)
      refine A9 (Ac (Ah (A2 (Ah (Ab (y_ (Ae (T U)) (y_ (Ad (T U)) (Af (Ac (Ah (Cv 23 [(0, true), (1, true), (2, true), (3, true), (4, true), (5, true), (6, true), (7, true), (8, true), (9, true), (10, true), (11, true), (12, true), (13, true), (14, true), (15, true), (16, true), (17, true), (18, true), (19, true), (20, true), (21, true), (22, true)] _ mixd (by kernel_rfl) sb0 ?_ (by repeat (first | exact np_ret | exact np_round | exact np_assign | apply np_scope | apply np_then | apply np_block | apply np_loop | apply np_cut)))))) U) U))))))
      refine o_y U (Ae (T U)) (o_y U (Bk (T U) Dc) (o_y U (Ai (T U) isAgg26 (by first | exact c_o)) ?_ U Ag) U Ag) U Ag
      refine o_y U (Ae (T U)) (o_y U (Cw (T U) (T U) runUnderlying26 sizeOf42 (by omega) (by first | exact rfl | exact hm.a3.b (i := k) (by omega) | exact hm.a2.b (i := k) (by omega) | exact hm.a2.b (i := i) (by omega) | exact (hm.r (gd m.rows i) (A1 (by omega))).b (i := a) (by omega) | exact (hm.r (gd m.rows k) (A1 (by omega))).b (i := a) (by omega))) ?_ U Ag) U Ag
      refine o_y U (Ai (T U) isAgg42 (by first | exact c_o | exact cell1 ((hm.a2.mono sbt).cs (i := i) (by omega)))) ?_ U Ag
      refine o_y U (Ae (T U)) (o_y U (Bh (T U) (T U) runUnderlying42 sizeOf3 (by omega) (by first | exact rfl | exact hm.a3.b (i := k) (by omega) | exact hm.a2.b (i := k) (by omega) | exact hm.a2.b (i := i) (by omega) | exact (hm.r (gd m.rows i) (A1 (by omega))).b (i := a) (by omega) | exact (hm.r (gd m.rows k) (A1 (by omega))).b (i := a) (by omega))) ?_ U Ag) U Ag
      refine o_y U (Ai (T U) isAgg3 (by first | exact c_o | exact cell1 (((hm.r (gd m.rows i) (A1 (by omega))).mono sbt).cs (i := a) (by omega)))) ?_ U Ag
      refine o_y U (Bh (T U) (T U) runUnderlying42 sizeOf3 (by omega) (by first | exact rfl | exact hm.a3.b (i := k) (by omega) | exact hm.a2.b (i := k) (by omega) | exact hm.a2.b (i := i) (by omega) | exact (hm.r (gd m.rows i) (A1 (by omega))).b (i := a) (by omega) | exact (hm.r (gd m.rows k) (A1 (by omega))).b (i := a) (by omega))) ?_ U Ag
      refine o_y U (Ai (T U) isAgg3 (by first | exact c_o | exact cell1 (((Bz (X := H) (enc := encU) (sz := 1) (e := 3) (l := b) (fun _ => rfl) hd).mono sbt).cs (i := gd (gd m.rows i).l a) (by omega)))) ?_ U Ag
      refine o_y U (Ae (T U)) (o_y U (Bk (T U) Dc) (o_y U (Ai (T U) isAgg26 (by first | exact c_o)) ?_ U Ag) U Ag) U Ag
      refine o_y U (Ae (T U)) (o_y U (Cw (T U) (T U) runUnderlying26 sizeOf42 (by omega) (by first | exact rfl | exact hm.a3.b (i := k) (by omega) | exact hm.a2.b (i := k) (by omega) | exact hm.a2.b (i := i) (by omega) | exact (hm.r (gd m.rows i) (A1 (by omega))).b (i := a) (by omega) | exact (hm.r (gd m.rows k) (A1 (by omega))).b (i := a) (by omega))) ?_ U Ag) U Ag
      refine o_y U (Ai (T U) isAgg42 (by first | exact c_o | exact cell1 ((hm.a2.mono sbt).cs (i := k) (by omega)))) ?_ U Ag
      refine o_y U (Ae (T U)) (o_y U (Bh (T U) (T U) runUnderlying42 sizeOf3 (by omega) (by first | exact rfl | exact hm.a3.b (i := k) (by omega) | exact hm.a2.b (i := k) (by omega) | exact hm.a2.b (i := i) (by omega) | exact (hm.r (gd m.rows i) (A1 (by omega))).b (i := a) (by omega) | exact (hm.r (gd m.rows k) (A1 (by omega))).b (i := a) (by omega))) ?_ U Ag) U Ag
      refine o_y U (Ai (T U) isAgg3 (by first | exact c_o | exact cell1 (((hm.r (gd m.rows k) (A1 (by omega))).mono sbt).cs (i := a) (by omega)))) ?_ U Ag
      refine o_y U (Bh (T U) (T U) runUnderlying42 sizeOf3 (by omega) (by first | exact rfl | exact hm.a3.b (i := k) (by omega) | exact hm.a2.b (i := k) (by omega) | exact hm.a2.b (i := i) (by omega) | exact (hm.r (gd m.rows i) (A1 (by omega))).b (i := a) (by omega) | exact (hm.r (gd m.rows k) (A1 (by omega))).b (i := a) (by omega))) ?_ U Ag
      refine o_y U (Ai (T U) isAgg3 (by first | exact c_o | exact cell1 (((Bz (X := H) (enc := encU) (sz := 1) (e := 3) (l := b) (fun _ => rfl) hd).mono sbt).cs (i := gd (gd m.rows k).l a) (by omega)))) ?_ U Ag
      refine o_y U (C3 (T U) (T U)) (B5 U (Af (Ac (Bt [(1, _), (2, _), (3, _), (6, _), (7, _), (8, _), (27, _), (28, _), (31, _), (32, _), (49, _), (50, _), (75, _)] ⟨Aa U, Aa U, Aa U, Aa U, Aa U, Aa U, Aa U, Aa U, Aa U, Aa U, Aa U, Aa U, Aa U, trivial⟩ ?_)))) U Ag
      first | refine Au (Aa U) (fun c75 => ?_) (fun c75 => ?_) | refine Bb (Aa U) (fun c75 => ?_) (fun c75 => ?_)
      ·have hne : ¬ gd b (nx m.pl i a) = gd b (nx m.pl k a) := by rw [nx_pl, nx_pl]; omega
       have hsA : fsA m.pl b k i = some (k, a) := by
        refine fs_some (k := a) ?_ (if_neg hne) fun a2 ha2 => if_pos (hfa a2 ha2)
        rw [show m.pl.next = m.rows.map RowQ.l from rfl, gd_rows]; omega
       have hsI : fsI m.pl b k = some (k, a) := fs_some (k := i) (by omega) (by rw [if_pos (by omega)]; exact hsA) fun j hj => hfi j hj
       have hsp : findSp m.pl b = some (k, a) := fs_some (k := k) (by omega) hsI fun j hj => hfs j hj
       have hco2 := hco.split (m := m.pl) (i := i) (k := k) (a := a) (by omega) (by omega) (by omega) hne
       have hmx2 := split_max (m := m.pl) (b := b) (i := i) (k := k) (a := a) (by omega) (by omega) (by omega) hne
       refine Ah (Ab (y_ (Am (T U) isAgg29 sizeOf29 U (by first | exact Bc)) ?_ U))
       refine y_ (Ae (T U)) (y_ (Ae (T U)) (y_ (Ae (T U)) (e_ (Av (.cons (T U) (.cons (T U) (.cons (T U) (.cons (T U) .nil)))) call104 (Bn (slH (.blk n12 m.rows.length []) (b.flatMap encU) 3) (by repeat (first | exact LocL.h | apply LocL.t | apply LocL.a)) (split_s m (hm.mono sbt) hp (.blk n12 m.rows.length []) m.rows.length b k a hd hbl U (by omega) (by omega) (by have := hco.max_le; omega)))) ?_ U) U) U) U
       rintro _ _ ⟨_, _, rfl⟩
       refine Af (Ac (B7 (q_block_miss U (A4 (A8 (q_block_miss U (q_block_miss U (A4 (A8 (q_block_miss U (q_block_miss U (A4 (A8 (q_block_miss U (A4 (Ba ?_))))))))))))))))
       refine Bs ((splitF m.pl b k a, f)) ?_ ?_ trivial ⟨Aa U, Aa U, Aa U, trivial⟩ ?_
       ·exact ⟨by rw [splitF_len]; exact hbl, hco2, by omega, by rw [← href, refineF_some hsp]⟩
       ·first | omega | (simp only []; omega)
       ·exact sbt
      ·have hea : gd b (nx m.pl i a) = gd b (nx m.pl k a) := by rw [nx_pl, nx_pl]; omega
       refine A9 (Bm (Ac (Ab (y_ (Bv (T U) Ak (by omega)) ?_ U))))
       refine y_ (Ae (T U)) (Af ?_) U
       refine Bs (a + 1) ?_ ?_ ⟨atd, trivial⟩ ⟨Aa U, Aa U, Aa U, Aa U, Aa U, Aa U, Aa U, Aa U, Aa U, Aa U, trivial⟩ ?_
       ·refine ⟨by omega, fun j hj => ?_⟩
        by_cases e : j = a
        ·subst e; exact hea
        ·exact hfa j (by omega)
       ·first | omega | (simp only []; omega)
       ·exact sbt
     ·have hiA : (if gd b i = gd b k then fsA m.pl b k i else none) = none := by
       rw [if_pos (by omega)]
       refine fs_none fun a2 ha2 => if_pos (hfa a2 ?_)
       rw [show m.pl.next = m.rows.map RowQ.l from rfl, gd_rows] at ha2; omega
      refine B7 (A4 (A8 (Ba (Bm (Ac (Ab (y_ (Bv (T U) Ak (by omega)) ?_ U)))))))
      refine y_ (Ae (T U)) (Af ?_) U
      refine Bs (i + 1) ?_ ?_ ⟨atd, trivial⟩ ⟨Aa U, Aa U, Aa U, Aa U, Aa U, Aa U, Aa U, trivial⟩ ?_
      ·refine ⟨by omega, fun j hj => ?_⟩
       by_cases e : j = i
       ·subst e; exact hiA
       ·exact hfi j (by omega)
      ·first | omega | (simp only []; omega)
      ·exact sbt
   ·have hkI : fsI m.pl b k = none := fs_none fun j hj => hfi j (by omega)
    refine B7 (A4 (A8 (Ba (Bm (Ac (Ab (y_ (Bv (T U) Ak (by omega)) ?_ U)))))))
    refine y_ (Ae (T U)) (Af ?_) U
    refine Bs (k + 1) ?_ ?_ ⟨atd, trivial⟩ ⟨Aa U, Aa U, Aa U, Aa U, trivial⟩ ?_
    ·refine ⟨by omega, fun j hj => ?_⟩
     by_cases e : j = k
     ·subst e; exact hkI
     ·exact hfs j (by omega)
    ·first | omega | (simp only []; omega)
    ·exact sbt
  ·have hnone : findSp m.pl b = none := fs_none fun j hj => hfs j (by omega)
   refine B7 (A4 (A8 (Ba (Ac (Ah (Ab (y_ (Am (T U) isAgg29 sizeOf29 U (by first | exact Bc)) ?_ U)))))))
   refine y_ (Ae (T U)) (e_ (Av (.cons (T U) (.cons (T U) .nil)) call105 (numbered_s m (hm.mono sbt) hp hln _ _ b ((Bz (X := H) (enc := encU) (sz := 1) (e := 3) (l := b) (fun _ => rfl) hd).mono sbt) m.rows.length hbl U)) ?_ U) U
   rintro _ _ ⟨x, ⟨rfl, hox⟩, rfl⟩
   first | refine A0 (As (T U) (T U) sizeOf29) U Ag ?_
   rintro _ _ ⟨rfl, rfl⟩
   refine Af (Ac (A5 (Aw (B9 (Aw (q_scope_ret (A6 U (.cellA (Aa U) isAgg29 sizeOf29 U (by first | exact Bc) .nil) ?_)))))))
   have hfin : refineF m.pl 201 (initB m.pl) = b := by rw [← href, refineF_none hnone]
   unfold leastF
   rw [hfin]
   exact ⟨_, ⟨x, ⟨rfl, hox⟩, rfl⟩, sbt⟩
theorem buildL_s {w0 : World} : BuildS w0 leastF := build_s least_s
end Go.Proofs.YtkdolgnpkjihpaaGreatDoor
namespace Go.Proofs.YtkdolgnpkjihpaaGreatDoor
open _root_.Go.Proofs.Tryz
open Go.RowKit Go.Shelf Go.Sort Go.Proofs
set_option linter.unusedVariables false
set_option linter.unusedSimpArgs false
def laysItoa_ren : Go.Shelf.Ren := ⟨fun | 171 => 68 | 243 => 116 | 246 => 142 | 283 => 167 | 284 => 168 | 285 => 169 | 286 => 170 | 129 => 156 | 317 => 182 | 318 => 183 | 319 => 184 | 320 => 185 | 337 => 190 | 338 => 191 | n => n, fun | 3 => 3 | 9 => 9 | 2 => 2 | 4 => 4 | 171 => 221 | 0 => 0 | 53 => 84 | 37 => 152 | 5 => 5 | 173 => 223 | 212 => 237 | 51 => 214 | 20 => 20 | 213 => 238 | 46 => 192 | 232 => 244 | 233 => 245 | n => n, fun | 17 => 0 | 18 => 1 | 19 => 2 | n => n⟩
theorem laysItoa : Go.Proofs.Lays.n171 Tryz.prog laysItoa_ren := {
 mixed := by kernel_rfl,
 f129 := Tryz.func156.trans (congrArg some (by kernel_rfl)),
 f171 := Tryz.func68.trans (congrArg some (by kernel_rfl)),
 f243 := Tryz.func116.trans (congrArg some (by kernel_rfl)),
 f246 := Tryz.func142.trans (congrArg some (by kernel_rfl)),
 f283 := Tryz.func167.trans (congrArg some (by kernel_rfl)),
 f284 := Tryz.func168.trans (congrArg some (by kernel_rfl)),
 f285 := Tryz.func169.trans (congrArg some (by kernel_rfl)),
 f286 := Tryz.func170.trans (congrArg some (by kernel_rfl)),
 f317 := Tryz.func182.trans (congrArg some (by kernel_rfl)),
 f318 := Tryz.func183.trans (congrArg some (by kernel_rfl)),
 f319 := Tryz.func184.trans (congrArg some (by kernel_rfl)),
 f320 := Tryz.func185.trans (congrArg some (by kernel_rfl)),
 f337 := Tryz.func190.trans (congrArg some (by kernel_rfl)),
 f338 := Tryz.func191.trans (congrArg some (by kernel_rfl)),
 t0 := underlying0,
 a0 := isAgg0,
 z0 := sizeOf0,
 v0 := zeroValue0,
 t2 := underlying2,
 a2 := isAgg2,
 z2 := sizeOf2,
 v2 := zeroValue2,
 t3 := underlying3,
 a3 := isAgg3,
 z3 := sizeOf3,
 v3 := zeroValue3,
 t4 := underlying4,
 a4 := isAgg4,
 z4 := sizeOf4,
 v4 := zeroValue4,
 t5 := underlying5,
 a5 := isAgg5,
 z5 := sizeOf5,
 v5 := zeroValue5,
 t9 := underlying9,
 a9 := isAgg9,
 z9 := sizeOf9,
 v9 := zeroValue9,
 t20 := underlying20,
 a20 := isAgg20,
 z20 := sizeOf20,
 v20 := zeroValue20,
 t37 := underlying152,
 a37 := isAgg152,
 z37 := sizeOf152,
 v37 := zeroValue152,
 t46 := underlying192,
 a46 := isAgg192,
 z46 := sizeOf192,
 v46 := zeroValue192,
 t51 := underlying214,
 a51 := isAgg214,
 z51 := sizeOf214,
 v51 := zeroValue214,
 t53 := underlying84,
 a53 := isAgg84,
 z53 := sizeOf84,
 v53 := zeroValue84,
 t171 := underlying221,
 a171 := isAgg221,
 z171 := sizeOf221,
 v171 := zeroValue221,
 t173 := underlying223,
 a173 := isAgg223,
 z173 := sizeOf223,
 v173 := zeroValue223,
 t212 := underlying237,
 a212 := isAgg237,
 z212 := sizeOf237,
 v212 := zeroValue237,
 t213 := underlying238,
 a213 := isAgg238,
 z213 := sizeOf238,
 t232 := underlying244,
 a232 := isAgg244,
 z232 := sizeOf244,
 v232 := zeroValue244,
 t233 := underlying245,
 a233 := isAgg245,
 z233 := sizeOf245,
 v233 := zeroValue245,
 g17 := by kernel_rfl,
 g18 := by kernel_rfl,
 g19 := by kernel_rfl }
abbrev itoaB (i : Nat) : ByteArray := ⟨(Lib.decDigits i).toArray⟩
theorem itoa_s {w0 : World} {H : List (Nat × Obj)} (i : Nat) (hi : i < 100) : FSpec Tryz.prog w0 68 #[.int .i64 (i : Int)] H (Still (.string (itoaB i)) H) := fun w hO =>
 (Any.strconv_Itoa_small laysItoa i hi w).mono fun e w' ⟨he, hw⟩ => ⟨_, _, he, hw ▸ hO, rfl, rfl⟩
section
variable {P : Program} {w0 : World} {L : Fm} {H : List (Nat × Obj)} {ty t1 t2 xt yt : TypeId} {x y : Operand}
theorem yl_convI {k k' : IntKind} {td : TypeDesc} {a : Int} (hx : Ev L x (.int k' a)) (hs : ∀ w, (underlying t1).run P w = .ok td w) (ht : ∀ w, (underlying t2).run P w = .ok (.int k) w) :
  Yl P w0 (.convert t1 t2 x) ty L H (.int k (k.wrap a)) := Ca U fun b w => by
 simp [exO, execOp, hx b, convert, hs, ht, Conv.intToInt, Sem.run_bind, Result.andThen]
theorem p63 : (2 : Nat) ^ 63 = 9223372036854775808 := by decide
theorem yl_convU {td : TypeDesc} {n : Nat} (hn : n < 2 ^ 63) (hx : Ev L x (.int .i64 (n : Int))) (ht1 : ∀ w, (underlying t1).run P w = .ok td w) (ht2 : ∀ w, (underlying t2).run P w = .ok (.int .u64) w) : Yl P w0 (.convert t1 t2 x) ty L H (.int .u64 (n : Int)) := by
 have h := yl_convI (P := P) (w0 := w0) (ty := ty) (H := H) hx ht1 ht2
 rw [show IntKind.u64.wrap (n : Int) = n from wrap_u64 (Nat.lt_trans hn (by decide))] at h
 exact h
theorem yl_convB64 {td : TypeDesc} {n : Nat} (hn : n < 2 ^ 63) (hx : Ev L x (.int .u64 (n : Int))) (ht1 : ∀ w, (underlying t1).run P w = .ok td w) (ht2 : ∀ w, (underlying t2).run P w = .ok (.int .i64) w) : Yl P w0 (.convert t1 t2 x) ty L H (.int .i64 (n : Int)) := by
 have h := yl_convI (P := P) (w0 := w0) (ty := ty) (H := H) hx ht1 ht2
 have := p63
 rw [show IntKind.i64.wrap (n : Int) = n from IntWalk.i64_in _ (by omega)] at h
 exact h
theorem yl_shrU {m : Nat} (hx : Ev L x (.int .u64 (m : Int))) (hy : Ev L y (.int .u64 1)) : Yl P w0 (.binOp .shr xt x y yt) ty L H (.int .u64 ((m / 2 : Nat) : Int)) := Ca U fun b w => by
 have e3 : (Op.shift .shr .u64 (m : Int) .u64 1).run P w = .ok (.int .u64 ((m / 2 : Nat) : Int)) w := by
  unfold Op.shift
  rw [if_neg (by decide)]
  simp only [IntKind.bits]
  show Result.ok (Value.int .u64 ((m : Int).fdiv (2 ^ 1))) w = _
  rw [Int.fdiv_eq_ediv_of_nonneg _ (by decide)]
  congr 2
 simp [exO, execOp, hx b, hy b, binOp, eqGuard, Sem.run_bind, Result.andThen, e3]
end
end Go.Proofs.YtkdolgnpkjihpaaGreatDoor
namespace Go.Proofs.YtkdolgnpkjihpaaGreatDoor
open _root_.Go.Proofs.Tryz
open Go.RowKit
set_option linter.unusedVariables false
set_option linter.unusedSimpArgs false
theorem ltU_trans {a b c : List UInt8} (h1 : a < b) (h2 : b < c) : a < c := List.lt_trans h1 h2
theorem ltU_irrefl (a : List UInt8) : ¬ a < a := List.lt_irrefl a
def lbF (names : List ByteArray) (s : ByteArray) : Nat := (names.filter fun x => decide (toL x < toL s)).length
theorem lbF_eq : ∀ {names : List ByteArray} {s : ByteArray} {i : Nat}, i ≤ names.length → (∀ j, j < i → toL (gd names j) < toL s) → (∀ j, i ≤ j → j < names.length → ¬ toL (gd names j) < toL s) → lbF names s = i
 | [], s, i, hi, _, _ => by simp at hi; simp [lbF, hi]
 | x :: l, s, 0, hi, h1, h2 => by
  have h3 := lbF_eq (names := l) (s := s) (i := 0) (Nat.zero_le _) (fun j hj => absurd hj (Nat.not_lt_zero _)) (fun j _ hj => by
   have := h2 (j + 1) (by omega) (by simpa using hj)
   simpa [gd] using this)
  have h0 := h2 0 (Nat.le_refl _) (by simp)
  have h4 : ¬ toL x < toL s := by simpa [gd] using h0
  unfold lbF at *
  rw [List.filter_cons, if_neg (by simpa using h4)]
  exact h3
 | x :: l, s, i + 1, hi, h1, h2 => by
  have h3 := lbF_eq (names := l) (s := s) (i := i) (by simpa using hi) (fun j hj => by
   have := h1 (j + 1) (by omega)
   simpa [gd] using this) (fun j h5 hj => by
   have := h2 (j + 1) (by omega) (by simpa using hj)
   simpa [gd] using this)
  have h4 : toL x < toL s := by simpa [gd] using h1 0 (by omega)
  unfold lbF at *
  rw [List.filter_cons, if_pos (by simpa using h4), List.length_cons, h3]
def Srt (names : List ByteArray) : Prop := names.Pairwise fun a b => toL a < toL b
theorem Srt.lt {names : List ByteArray} (h : Srt names) {i j : Nat} (hij : i < j) (hj : j < names.length) : toL (gd names i) < toL (gd names j) := by
 rw [Bj (by omega), Bj hj]
 exact List.pairwise_iff_getElem.1 h i j (by omega) hj hij
theorem lbF_le (names : List ByteArray) (s : ByteArray) : lbF names s ≤ names.length := List.length_filter_le _ _
def lett (names : List ByteArray) (s : ByteArray) : Nat := if lbF names s < names.length ∧ toL (gd names (lbF names s)) = toL s then lbF names s else names.length
theorem lett_le (names : List ByteArray) (s : ByteArray) : lett names s ≤ names.length := by
 unfold lett; split <;> omega
def afterF (m : PM) (st : Nat) (s : ByteArray) : Nat := nx m st (lett m.names s)
def runM (m : PM) (l : List ByteArray) : Nat := l.foldl (afterF m) 0
theorem nx_lt {m : PM} (h : PMok m) {i a : Nat} (hi : i < m.next.length) (ha : a < m.names.length + 1) : nx m i a < m.next.length := by
 obtain ⟨h1, h2⟩ := h.row (gd m.next i) (A1 hi)
 exact h2 _ (A1 (by rw [h1]; exact ha))
theorem after_lt {m : PM} (h : PMok m) {i : Nat} (hi : i < m.next.length) (s : ByteArray) : afterF m i s < m.next.length := nx_lt h hi (Nat.lt_succ_of_le (lett_le _ _))
theorem runM_lt {m : PM} (h : PMok m) (l : List ByteArray) : runM m l < m.next.length := by
 unfold runM
 suffices ∀ st, st < m.next.length → l.foldl (afterF m) st < m.next.length from this 0 h.some'
 induction l with
 | nil => intro st h; exact h
 | cons s l ih => intro st h2; exact ih _ (after_lt h h2 s)
theorem runM_take {m : PM} {l : List ByteArray} {i : Nat} (h : i < l.length) : runM m (l.take (i + 1)) = afterF m (runM m (l.take i)) (gd l i) := by
 unfold runM; rw [List.take_add_one, C7 h, List.foldl_append]; rfl
def othK (k : Nat) : ByteArray := if k = 0 then ⟨#[111, 116, 104, 101, 114]⟩ else ⟨#[111, 116, 104, 101, 114]⟩ ++ itoaB k
theorem itoa_size : ∀ k : Fin 100, (itoaB k.val).size ≤ 3 := by decide +kernel
theorem othK_nodup : ((List.range 100).map fun k => toL (othK k)).Nodup := by decide +kernel
def othN (names : List ByteArray) : Nat := ((List.range 100).findSome? fun k => if toL (othK k) ∈ names.map toL then none else some k).getD 0
def otherF (names : List ByteArray) : ByteArray := othK (othN names)
theorem oth_few {names : List ByteArray} {k : Nat} (hk : k ≤ 100) (h : ∀ j, j < k → toL (othK j) ∈ names.map toL) : k ≤ names.length := by
 have h1 : ((List.range k).map fun k => toL (othK k)).Nodup := by
  have e : (List.range 100).map (fun k => toL (othK k)) = (List.range k).map (fun k => toL (othK k)) ++ (List.range' k (100 - k)).map (fun k => toL (othK k)) := by
   rw [← List.map_append, List.range_eq_range', List.range_eq_range', show 100 = k + (100 - k) by omega, ← List.range'_append_1]
   simp
  have := othK_nodup
  rw [e, List.nodup_append] at this
  exact this.1
 have := nodup_le h1 (l' := names.map toL) fun x hx => by
  simp only [List.mem_map, List.mem_range] at hx
  obtain ⟨j, hj, rfl⟩ := hx
  exact h j hj
 simpa using this
theorem nan1_s {w0 : World} {H : List (Nat × Obj)} (a : ByteArray) :
  FSpec Tryz.prog w0 141 #[.string a] H (Still (.bool false) H) := by
 refine A7 Tryz.func141 U ntmps141 U (Ah (Ab (y_ (Ad Ak) (Af (Ac (Ah (Ab (y_ (Ae (T U)) (y_ (Ae (T U)) (y_ (yl_neSD (T U) (T U)) (y_ (Ad (T U)) (Af (Ac (A5 (A6 U (.tmp (Aa U) .nil) ?_)))) U) U) U) U))))) U)))
 exact ⟨_, ⟨vbool (by simp), rfl⟩, sbt⟩
theorem nan2_s {w0 : World} {H : List (Nat × Obj)} (a : ByteArray) :
  FSpec Tryz.prog w0 143 #[.string a] H (Still (.bool false) H) := by
 refine A7 Tryz.func143 U ntmps143 U (Ah (Ab (y_ (Ad Ak) (Af (Ac (Ah (Ab (y_ (Ae (T U)) (y_ (Ae (T U)) (y_ (yl_neSD (T U) (T U)) (y_ (Ad (T U)) (Af (Ac (A5 (A6 U (.tmp (Aa U) .nil) ?_)))) U) U) U) U))))) U)))
 exact ⟨_, ⟨vbool (by simp), rfl⟩, sbt⟩
theorem less_s {w0 : World} {H : List (Nat × Obj)} (a b : ByteArray) :
  FSpec Tryz.prog w0 112 #[.string a, .string b] H (Still (.bool (decide (toL a < toL b))) H) := by
 refine A7 Tryz.func112 U ntmps112 U (Ah (Ab (y_ (Ad Ak) (Af (Ac (Ah (Ab (y_ (Ae (T U)) (y_ (Aq (.cons (T U) .nil) call141 (fun H' hs => nan1_s _)) (y_ (Ae (T U)) (Cf (Cf (Cf (y_ (Be (T U) Ak) (y_ (Ae (T U)) (Bg (Ae (T U)) U (Ax U U (Aa U)) (Bg (Ae (T U)) U (Ax U U (Aa U)) (Bg (yl_ltS (T U) (T U)) U (Ax U U (Aa U)) (y_ (Be (T U) (T U)) (y_ (Ad (T U)) (Af (Ac (A5 (A6 U (.tmp (Aa U) .nil) ?_)))) U) U)))) U) U) U U U U) U U U U) U U U U) U) U) U))))) U)))
 exact ⟨_, ⟨rfl, rfl⟩, sbt⟩
theorem mem_gdS {b : List ByteArray} {x : ByteArray} : x ∈ b ↔ ∃ j, j < b.length ∧ gd b j = x := by
 constructor
 ·intro h
  obtain ⟨j, hj, e⟩ := List.getElem_of_mem h
  exact ⟨j, hj, by rw [Bj hj]; exact e⟩
 ·rintro ⟨j, hj, rfl⟩; exact A1 hj
theorem idxS_s {w0 : World} {H : List (Nat × Obj)} (names : List ByteArray) (q : Option Addr) (c : Nat) (s : ByteArray) (hA : Arr w0 H q 1 encS names) (hlen : names.length ≤ 4611686018427387903) :
  FSpec Tryz.prog w0 115 #[.slice q names.length c, .string s] H ((fun v H' => (∃ i : Int, v = .int .i64 i ∧ (0 ≤ i ↔ toL s ∈ names.map toL)) ∧ H' = H)) := by
 refine A7 Tryz.func115 U ntmps115 U (Ah (Ab (y_ (Ad Ak) (Af (Ac (Ah (Ah (Ab (y_ (Ae (T U)) (y_ (Bw (T U) runUnderlying25) (y_ (Ae Ak) (Af (Ac (A2 ?_))) U) U) U)))))) U)))
 refine Co (X := Nat) (V := fun i => [(8, .int .i64 (i : Nat))]) (C := [(0, _), (1, _), (7, _)]) (φ := fun i => i ≤ names.length ∧ ∀ j, j < i → ¬ toL s = toL (gd names j)) (μ := fun i => names.length - i) (x0 := 0) ?_ ⟨Aa U, Aa U, Aa U, trivial⟩ ⟨atd, trivial⟩ ?_
 ·exact ⟨Nat.zero_le _, fun j hj => absurd hj (Nat.not_lt_zero _)⟩
 rintro i ⟨hi, hno⟩
 refine Ah (Ab (y_ (B4 (T U) (T U)) (Af (Ac (Ah ?_))) U))
 first | refine Au (Aa U) (fun c9 => ?_) (fun c9 => ?_) | refine Bb (Aa U) (fun c9 => ?_) (fun c9 => ?_)
 ·refine A9 (Ac (Ah (A2 (Ah (Ab (y_ (Ae (T U)) (y_ (Ad (T U)) (Af (Ac (Ah (Ab (y_ (Ae (T U)) (y_ (Ae (T U)) (y_ (Ae (T U)) (y_ (Bh (T U) (T U) runUnderlying25 sizeOf9 (by omega) (by first | exact rfl | exact hA.b (i := i) (by omega))) ?_ U) U) U) U))))) U) U))))))
  refine y_ (Ai (T U) isAgg9 (by first | exact c_o | exact cell1 ((hA.mono sbt).cs (i := i) (by omega)))) ?_ U
  refine y_ (yl_eqSD (T U) (T U)) (Af (Ac ?_)) U
  first | refine Au (Aa U) (fun c16 => ?_) (fun c16 => ?_) | refine Bb (Aa U) (fun c16 => ?_) (fun c16 => ?_)
  ·refine Ah (Ab (y_ (Ae (T U)) (y_ (Ad (T U)) (Af (Ac (A5 (Aw (Ao (B9 (Aw (Ao (A6 U (.tmp (Aa U) .nil) ?_))))))))) U) U))
   exact ⟨_, ⟨⟨_, rfl, fun _ => by rw [show toL s = toL (gd names i) from c16]; exact List.mem_map_of_mem (A1 (by omega)), fun _ => by omega⟩, rfl⟩, sbt⟩
  ·refine A9 (Bm (Ac (Ab (y_ (Bv (T U) Ak (by omega)) ?_ U))))
   refine y_ (Ae (T U)) (Af ?_) U
   refine Bs (i + 1) ?_ ?_ ⟨atd, trivial⟩ ⟨Aa U, Aa U, Aa U, trivial⟩ ?_
   ·refine ⟨by omega, fun j hj => ?_⟩
    by_cases e : j = i
    ·subst e; exact c16
    ·exact hno j (by omega)
   ·first | omega | (simp only []; omega)
   ·exact sbt
 ·refine B7 (A4 (A8 (Ba (Ac (Ah (Ab (y_ (Ad Ak) (Af (Ac (A5 (A6 U (.tmp (Aa U) .nil) (⟨_, ⟨⟨-1, rfl, fun h => absurd h (by decide), fun h => ?_⟩, rfl⟩, sbt⟩))))) U)))))))
  obtain ⟨x, hx, e⟩ := List.mem_map.1 h
  obtain ⟨j, hj, rfl⟩ := mem_gdS.1 hx
  exact absurd e.symm (hno j (by omega))
theorem hasS_s {w0 : World} {H : List (Nat × Obj)} (names : List ByteArray) (q : Option Addr) (c : Nat) (s : ByteArray) (hA : Arr w0 H q 1 encS names) (hlen : names.length ≤ 4611686018427387903) :
  FSpec Tryz.prog w0 67 #[.slice q names.length c, .string s] H (Still (.bool (decide (toL s ∈ names.map toL))) H) := by
 refine A7 Tryz.func67 U ntmps67 U (Ah (Ab (y_ (Ad Ak) (Af (Ac (Ah (Ab (y_ (Ae (T U)) (y_ (Ae (T U)) (e_ (Av (.cons (T U) (.cons (T U) .nil)) call115 (idxS_s names q c s hA hlen)) ?_ U) U) U))))) U)))
 rintro _ _ ⟨⟨i, rfl, hi⟩, rfl⟩
 refine y_ (Ds (T U) Ak) (y_ (Ad (T U)) (Af (Ac (A5 (A6 U (.tmp (Aa U) .nil) ?_)))) U) U
 exact ⟨_, ⟨vbool (decide_eq_decide.2 hi), rfl⟩, sbt⟩
theorem bs_s {w0 : World} {H : List (Nat × Obj)} (names : List ByteArray) (q : Option Addr) (c : Nat) (s : ByteArray) (hA : Arr w0 H q 1 encS names) (hs : Srt names) (hlen : names.length ≤ 4611686018427387903) :
  FSpec Tryz.prog w0 117 #[.slice q names.length c, .string s] H (Still (.tuple #[.int .i64 (lbF names s : Nat), .bool (decide (lbF names s < names.length ∧ toL (gd names (lbF names s)) = toL s))]) H) := by
 refine A7 Tryz.func117 U ntmps117 U (Ah (Ab (y_ (Ad Ak) (y_ (Ad Ak) (Af (Ac (Ah (Ab (y_ (Ae (T U)) (y_ (Bw (T U) runUnderlying25) (y_ (Ad (T U)) (Af (Ac (Ah (Ab (y_ (Ae (T U)) (y_ (Ad Ak) (y_ (Ad (T U)) (Af (Ac (Ah (A2 ?_)))) U) U) U))))) U) U) U))))) U) U)))
 refine Co (X := Nat × Nat) (V := fun ⟨i, j⟩ => [(7, .int .i64 (i : Nat)), (8, .int .i64 (j : Nat))]) (C := [(0, _), (1, _), (6, _)]) (φ := fun ⟨i, j⟩ => i ≤ j ∧ j ≤ names.length ∧ (∀ k, k < i → toL (gd names k) < toL s) ∧ (∀ k, j ≤ k → k < names.length → ¬ toL (gd names k) < toL s)) (μ := fun ⟨i, j⟩ => j - i) (x0 := (0, names.length)) ?_ ⟨Aa rfl, Aa rfl, Aa rfl, trivial⟩ ⟨atd, atd, trivial⟩ ?_
 ·exact ⟨Nat.zero_le _, Nat.le_refl _, fun k hk => absurd hk (Nat.not_lt_zero _), fun k h1 h2 => by omega⟩
 rintro ⟨i, j⟩ ⟨hij0, hj, h1, h2⟩
 refine Ah (Ah (Ab (y_ (Ae (T U)) (y_ (Ae (T U)) (y_ (B4 (T U) (T U)) (Af (Ac ?_)) U) U) U)))
 first | refine Au (Aa U) (fun c15 => ?_) (fun c15 => ?_) | refine Bb (Aa U) (fun c15 => ?_) (fun c15 => ?_)
 ·have hij : i < j := by omega
  refine A9 (Ac (A2 (Ah (Ab (y_ (Ae (T U)) (y_ (Ae (T U)) (y_ (Bv (T U) (T U) (by omega)) ?_ U) U) U)))))
  refine y_ (yl_convU (n := i + j) (by have := p63; omega) (T U) runUnderlying3 runUnderlying192) ?_ U
  refine y_ (yl_shrU (T U) Ak) (y_ (yl_convB64 (n := (i + j) / 2) (by have := p63; omega) (T U) runUnderlying192 runUnderlying3) ?_ U) U
  refine y_ (Ad (T U)) (Af (Ac (Ah (Ab (y_ (Ae (T U)) (y_ (Ae (T U)) (y_ (Bh (T U) (T U) runUnderlying25 sizeOf9 (by omega) (by first | exact rfl | exact hA.b (i := ((i + j) / 2)) (by omega) | exact hA.b (i := i) (by omega))) ?_ U) U) U))))) U
  refine y_ (Ai (T U) isAgg9 (by first | exact c_o | exact cell1 ((hA.mono sbt).cs (i := ((i + j) / 2)) (by omega)) | exact cell1 ((hA.mono sbt).cs (i := ((i + j) / 2)) (by omega)) | exact cell1 ((hA.mono sbt).cs (i := i) (by omega)))) ?_ U
  refine y_ (Ae (T U)) (y_ (Aq (.cons (T U) (.cons (T U) .nil)) call112 (fun H' hs => less_s _ _)) (Af (Ac ?_)) U) U
  first | refine Au (Aa U) (fun c27 => ?_) (fun c27 => ?_) | refine Bb (Aa U) (fun c27 => ?_) (fun c27 => ?_)
  ·refine Ab (y_ (Ae (T U)) (y_ (Bv (T U) Ak (by omega)) ?_ U) U)
   refine y_ (Ad (T U)) (Af (Bm ?_)) U
   refine Bs ((((i + j) / 2) + 1, j)) ?_ ?_ ⟨atd, atd, trivial⟩ ⟨Aa U, Aa U, Aa U, trivial⟩ ?_
   ·refine ⟨by omega, hj, fun k hk => ?_, h2⟩
    by_cases e : k = ((i + j) / 2)
    ·subst e; exact c27
    ·exact ltU_trans (hs.lt (show k < ((i + j) / 2) by omega) (by omega)) c27
   ·first | omega | (simp only []; omega)
   ·exact sbt
  ·refine Ab (y_ (Ae (T U)) (y_ (Ad (T U)) (Af (Bm ?_)) U) U)
   refine Bs ((i, ((i + j) / 2))) ?_ ?_ ⟨atd, atd, trivial⟩ ⟨Aa U, Aa U, Aa U, trivial⟩ ?_
   ·refine ⟨by omega, by omega, h1, fun k hk hk2 h3 => ?_⟩
    by_cases e : k = ((i + j) / 2)
    ·subst e; exact c27 h3
    ·exact c27 (ltU_trans (hs.lt (show ((i + j) / 2) < k by omega) hk2) h3)
   ·first | omega | (simp only []; omega)
   ·exact sbt
 ·have hij : i = j := by omega
  subst hij
  have hlb := lbF_eq hj h1 h2
  refine B7 (A4 (A8 (Ba (Ac (Ah (Ab (y_ (Ae (T U)) (y_ (Ae (T U)) (y_ (Ae (T U)) (y_ (B4 (T U) (T U)) (y_ (Ae (T U)) ?_ U) U) U) U) U)))))))
  first | refine Ci (s := 35) (Aa U) (fun c35 => ?_) (fun c35 => ?_) | refine C1 (s := 35) (Aa U) (fun c35 => ?_) (fun c35 => ?_)
  ·refine Bg (Ae (T U)) U (Ax U U (Aa U)) (Bg (Ae (T U)) U (Ax U U (Aa U)) (Bg (Bh (T U) (T U) runUnderlying25 sizeOf9 (by omega) (by first | exact rfl | exact hA.b (i := ((i + j) / 2)) (by omega) | exact hA.b (i := i) (by omega))) U (Ax U U (Aa U)) ?_))
   refine Bg (Ai (T U) isAgg9 (by first | exact c_o | exact cell1 ((hA.mono sbt).cs (i := i) (by omega)) | exact cell1 ((hA.mono sbt).cs (i := ((i + j) / 2)) (by omega)) | exact cell1 ((hA.mono sbt).cs (i := i) (by omega)))) U (Ax U U (Aa U)) ?_
   refine Bg (Ae (T U)) U (Ax U U (Aa U)) (Bg (yl_eqSD (T U) (T U)) U (Ax U U (Aa U)) (Bg (Ae (T U)) U (Ax U U (Aa U)) ?_))
   first | refine Ci (s := 42) (Aa U) (fun c42 => ?_) (fun c42 => ?_) | refine C1 (s := 42) (Aa U) (fun c42 => ?_) (fun c42 => ?_)
   ·refine Cy (Cy (Cy (Cy (Cy (Cy (n_u (n_u (Cy (Bg (Az (T U) Ak) U (Ax U U (Aa U)) (y_ (Az (T U) (T U)) (y_ (Ad (T U)) (y_ (Ad (T U)) (Af (Ac (Bt [(4, _), (5, _)] ⟨Aa U, Aa U, trivial⟩ (A5 (A6 U (.tmp (Aa U) (.tmp (Aa U) .nil)) ?_))))) U) U) U)) U U U U) U U U U) U U U U) U U U U) U U U U) U U U U) U U U U) U U U U) U U U U
    rw [hlb]
    first | exact ⟨_, ⟨congrArg (fun b => Value.tuple #[.int .i64 (i : Int), .bool b]) (by symm; exact decide_eq_true ⟨by omega, c42⟩), rfl⟩, sbt⟩ | exact ⟨_, ⟨congrArg (fun b => Value.tuple #[.int .i64 (i : Int), .bool b]) (by symm; exact decide_eq_false fun h => c42 h.2), rfl⟩, sbt⟩ | exact ⟨_, ⟨congrArg (fun b => Value.tuple #[.int .i64 (i : Int), .bool b]) (by symm; exact decide_eq_false fun h => by omega), rfl⟩, sbt⟩
   ·refine Bg (Ae (T U)) U (Ax U U (Aa U)) (Bg (Ae (T U)) U (Ax U U (Aa U)) (Bg (Bh (T U) (T U) runUnderlying25 sizeOf9 (by omega) (by first | exact rfl | exact hA.b (i := ((i + j) / 2)) (by omega) | exact hA.b (i := i) (by omega))) U (Ax U U (Aa U)) ?_))
    refine Bg (Ai (T U) isAgg9 (by first | exact c_o | exact cell1 ((hA.mono sbt).cs (i := ((i + j) / 2)) (by omega)) | exact cell1 ((hA.mono sbt).cs (i := i) (by omega)))) U (Ax U U (Aa U)) ?_
    refine Bg (Aq (.cons (T U) .nil) call143 (fun H' hs => nan2_s _)) U (Ax U U (Aa U)) (Bg (Ae (T U)) U (Ax U U (Aa U)) (Cf (Cf (Bg (Be (T U) Ak) U (Ax U U (Aa U)) (Bg (Be (T U) (T U)) U (Ax U U (Aa U)) (y_ (Az (T U) (T U)) (y_ (Ad (T U)) (y_ (Ad (T U)) (Af (Ac (Bt [(4, _), (5, _)] ⟨Aa U, Aa U, trivial⟩ (A5 (A6 U (.tmp (Aa U) (.tmp (Aa U) .nil)) ?_))))) U) U) U))) U U U U) U U U U))
    rw [hlb]
    first | exact ⟨_, ⟨congrArg (fun b => Value.tuple #[.int .i64 (i : Int), .bool b]) (by symm; exact decide_eq_true ⟨by omega, c42⟩), rfl⟩, sbt⟩ | exact ⟨_, ⟨congrArg (fun b => Value.tuple #[.int .i64 (i : Int), .bool b]) (by symm; exact decide_eq_false fun h => c42 h.2), rfl⟩, sbt⟩ | exact ⟨_, ⟨congrArg (fun b => Value.tuple #[.int .i64 (i : Int), .bool b]) (by symm; exact decide_eq_false fun h => by omega), rfl⟩, sbt⟩
  ·refine Cf (Cf (Cf (Cf (Cf (Cf (Cf (n_u (n_u (n_u (n_u (n_u (n_u (n_u (n_u (n_u (Cf (y_ (Be (T U) Ak) (y_ (Ad (T U)) (y_ (Ad (T U)) (Af (Ac (Bt [(4, _), (5, _)] ⟨Aa U, Aa U, trivial⟩ (A5 (A6 U (.tmp (Aa U) (.tmp (Aa U) .nil)) ?_))))) U) U) U) U U U U) U U U U) U U U U) U U U U) U U U U) U U U U) U U U U) U U U U) U U U U) U U U U) U U U U) U U U U) U U U U) U U U U) U U U U) U U U U) U U U U
   rw [hlb]
   first | exact ⟨_, ⟨congrArg (fun b => Value.tuple #[.int .i64 (i : Int), .bool b]) (by symm; exact decide_eq_true ⟨by omega, c42⟩), rfl⟩, sbt⟩ | exact ⟨_, ⟨congrArg (fun b => Value.tuple #[.int .i64 (i : Int), .bool b]) (by symm; exact decide_eq_false fun h => c42 h.2), rfl⟩, sbt⟩ | exact ⟨_, ⟨congrArg (fun b => Value.tuple #[.int .i64 (i : Int), .bool b]) (by symm; exact decide_eq_false fun h => by omega), rfl⟩, sbt⟩
end Go.Proofs.YtkdolgnpkjihpaaGreatDoor
namespace Go.Proofs.YtkdolgnpkjihpaaGreatDoor
open _root_.Go.Proofs.Tryz
open Go.RowKit
set_option linter.unusedVariables false
set_option linter.unusedSimpArgs false
theorem fa56_1 (b o : Nat) (w : World) : (Instr.fieldAt 56 (.pointer (some ⟨b, o, none⟩)) 1).run Tryz.prog w = .ok (.pointer (some ⟨b, o + 1, none⟩)) w := by kernel_rfl
theorem fa58_0 (b o : Nat) (w : World) : (Instr.fieldAt 58 (.pointer (some ⟨b, o, none⟩)) 0).run Tryz.prog w = .ok (.pointer (some ⟨b, o, none⟩)) w := by kernel_rfl
theorem fa58_1 (b o : Nat) (w : World) : (Instr.fieldAt 58 (.pointer (some ⟨b, o, none⟩)) 1).run Tryz.prog w = .ok (.pointer (some ⟨b, o + 1, none⟩)) w := by kernel_rfl
theorem fa71_0 (b o : Nat) (w : World) : (Instr.fieldAt 71 (.pointer (some ⟨b, o, none⟩)) 0).run Tryz.prog w = .ok (.pointer (some ⟨b, o, none⟩)) w := by kernel_rfl
theorem fa71_1 (b o : Nat) (w : World) : (Instr.fieldAt 71 (.pointer (some ⟨b, o, none⟩)) 1).run Tryz.prog w = .ok (.pointer (some ⟨b, o + 1, none⟩)) w := by kernel_rfl
structure Ln where
 src : Nat
 dst : Nat
 cap : Int
instance : Inhabited Ln := ⟨⟨0, 0, 0⟩⟩
abbrev encLn (x : Ln) : List Value := [.int .i64 (x.src : Int), .int .i64 (x.dst : Int), .int .i64 x.cap]
structure Nn where
 nodes : List Nod
 links : List Ln
 edges : List Edg
 qn : Option Addr
 cn : Nat
 ql : Option Addr
 cl : Nat
 qe : Option Addr
 ce : Nat
abbrev encNn (n : Nn) : List Value := [.slice n.qn n.nodes.length n.cn, .slice n.ql n.links.length n.cl, .slice n.qe n.edges.length n.ce]
structure NetR (w0 : World) (H : List (Nat × Obj)) (n : Nn) : Prop where
 nodes : Arr w0 H n.qn 4 encN n.nodes
 links : Arr w0 H n.ql 3 encLn n.links
theorem NetR.mono {w0 : World} {H H' : List (Nat × Obj)} {n : Nn} (h : NetR w0 H n) (hs : H.Sublist H' := by exact sbt) : NetR w0 H' n := ⟨h.nodes.mono hs, h.links.mono hs⟩
structure NnOk (n : Nn) : Prop where
 fewN : n.nodes.length ≤ 12
 fewL : n.links.length ≤ 30
 ends : ∀ x ∈ n.links, x.src < n.nodes.length ∧ x.dst < n.nodes.length
structure Flr where
 q : Option Addr
 c : Nat
 links : List Int
 node : Int
abbrev encFl (f : Flr) : List Value := [.slice f.q f.links.length f.c, .int .i64 f.node]
def upF (n : Nn) (f : Flr) (l : Nat) : Bool := decide (¬ ((gd n.links l).src : Int) = f.node) && (decide (¬ ((gd n.links l).dst : Int) = f.node) && decide (¬ (l : Int) ∈ f.links))
def outK (n : Nn) (node : Nat) : Nat → List Nat
 | 0 => []
 | i + 1 => if (gd n.links i).src = node then outK n node i ++ [i] else outK n node i
theorem outK_succ (n : Nn) (node i : Nat) : outK n node (i + 1) = if (gd n.links i).src = node then outK n node i ++ [i] else outK n node i := rfl
def outF (n : Nn) (node : Nat) : List Nat := outK n node n.links.length
theorem mem_outK (n : Nn) (node x : Nat) : ∀ i, x ∈ outK n node i ↔ x < i ∧ (gd n.links x).src = node
 | 0 => by simp [outK]
 | i + 1 => by
  rw [outK_succ]
  have ih := mem_outK n node x i
  split
  ·rename_i h
   rw [List.mem_append, ih]
   constructor
   ·rintro (h1 | h1)
    ·exact ⟨by omega, h1.2⟩
    ·simp at h1; subst h1; exact ⟨by omega, h⟩
   ·rintro ⟨h1, h2⟩
    by_cases e : x = i
    ·subst e; exact .inr (by simp)
    ·exact .inl ⟨by omega, h2⟩
  ·rename_i h
   rw [ih]
   constructor
   ·rintro ⟨h1, h2⟩; exact ⟨by omega, h2⟩
   ·rintro ⟨h1, h2⟩
    by_cases e : x = i
    ·subst e; exact absurd h2 h
    ·exact ⟨by omega, h2⟩
theorem outK_len (n : Nn) (node : Nat) : ∀ i, (outK n node i).length ≤ i
 | 0 => Nat.le_refl _
 | i + 1 => by
  have := outK_len n node i
  rw [outK_succ]; split
  ·simp; omega
  ·omega
def wkF (n : Nn) : Int → List Int → Option Int
 | x, [] => some x
 | x, l :: ls => if 0 ≤ l ∧ l < n.links.length ∧ ((gd n.links l.toNat).src : Int) = x then wkF n ((gd n.links l.toNat).dst : Int) ls else none
theorem wkF_snoc (n : Nn) : ∀ (ls : List Int) (x l : Int), wkF n x (ls ++ [l]) = (wkF n x ls).bind fun y => if 0 ≤ l ∧ l < n.links.length ∧ ((gd n.links l.toNat).src : Int) = y then some ((gd n.links l.toNat).dst : Int) else none
 | [], x, l => by simp [wkF]
 | a :: ls, x, l => by
  rw [List.cons_append, wkF, wkF]
  split
  ·exact wkF_snoc n ls _ l
  ·rfl
theorem wkF_take (n : Nn) (x : Int) {ls : List Int} {i : Nat} (h : i < ls.length) : wkF n x (ls.take (i + 1)) = (wkF n x (ls.take i)).bind fun y => if 0 ≤ gd ls i ∧ gd ls i < n.links.length ∧ ((gd n.links (gd ls i).toNat).src : Int) = y then some ((gd n.links (gd ls i).toNat).dst : Int) else none := by
 rw [List.take_add_one, C7 h]; exact wkF_snoc n _ x _
theorem wkF_none (n : Nn) (x : Int) {ls : List Int} {i : Nat} (h : wkF n x (ls.take i) = none) : wkF n x ls = none := by
 have e : ls = ls.take i ++ ls.drop i := by simp
 rw [e]
 generalize ls.take i = a at *
 generalize ls.drop i = b at *
 clear e
 induction b generalizing a with
 | nil => simpa using h
 | cons c b ih =>
  rw [show a ++ c :: b = (a ++ [c]) ++ b by simp]
  exact ih (a ++ [c]) (by rw [wkF_snoc, h]; rfl)
theorem after_s {w0 : World} {H : List (Nat × Obj)} (m : Mc) (hm : McOk w0 H m) (hp : PMok m.pl) (hsr : Srt m.names) (hl : m.names.length ≤ 4611686018427387903) (st : Nat) (hst : st < m.rows.length) (s : ByteArray) :
  FSpec Tryz.prog w0 69 #[.agg (encMc m).toArray, .int .i64 (st : Int), .string s] H (Still (.int .i64 (afterF m.pl st s : Nat)) H) := by
 refine A7 Tryz.func69 U ntmps69 U ?_
 obtain ⟨hr1, hr2⟩ := pm_row hp hst
 have hle := lbF_le m.names s
 refine Ah (Ab (e_ (Bf (T U) cs_) ?_ U))
 rintro _ _ ⟨n3, rfl, rfl⟩
 refine y_ (Ad Ak) (Af (Ac (Ah (Ab (y_ (Bp (T U) fa29_0) (y_ (Ai (T U) isAgg25 (by first | exact c_o)) ?_ U) U))))) U
 refine y_ (Ae (T U)) (y_ (Aq (.cons (T U) (.cons (T U) .nil)) call117 (fun H' hs => bs_s m.names _ _ s (hm.a1.mono (List.Sublist.trans sbt hs)) hsr hl)) (y_ (Ae (T U)) (y_ (Ay (T U) U) (y_ (Ay (T U) U) (y_ (Ad (T U)) (y_ (Ad (T U)) (Af (Ac (Ah (Ah (Ab (y_ (Ae (T U)) ?_ U)))))) U) U) U) U) U) U) U
 first | refine Bg (Ct (T U)) U Ag ?_ | refine Bg (C2 (T U)) U Ag ?_
 refine Af (Ac ?_)
 first | refine Au (Aa U) (fun c17 => ?_) (fun c17 => ?_) | refine Bb (Aa U) (fun c17 => ?_) (fun c17 => ?_)
 ·have hlt : lett m.names s = m.names.length := by unfold lett; rw [if_neg c17]
  refine Ab (y_ (Bp (T U) fa29_0) (y_ (Ai (T U) isAgg25 (by first | exact c_o)) ?_ U) U)
  refine y_ (Bw (T U) runUnderlying25) (y_ (Ad (T U)) (Af (Ac (Ah (Ab (y_ (Bk (T U) Dc) (y_ (Ai (T U) isAgg26 (by first | exact c_o)) ?_ U) U))))) U) U
  refine y_ (Ae (T U)) (y_ (Bh (T U) (T U) runUnderlying26 sizeOf42 (by omega) (by first | exact rfl | exact hm.a2.b (i := st) hst | exact (hm.r (gd m.rows st) (A1 hst)).b (i := 0) (by omega))) ?_ U) U
  refine y_ (Ai (T U) isAgg42 (by first | exact c_o | exact cell1 ((hm.a2.mono sbt).cs (i := st) hst))) ?_ U
  refine y_ (Ae (T U)) (y_ (Bh (T U) (T U) runUnderlying42 sizeOf3 (by omega) (by first | exact rfl | exact hm.a2.b (i := st) hst | exact (hm.r (gd m.rows st) (A1 hst)).b (i := 0) (by omega))) ?_ U) U
  refine y_ (Ai (T U) isAgg3 (by first | exact c_o | exact cell1 (((hm.r (gd m.rows st) (A1 hst)).mono sbt).cs (i := m.names.length) (by omega)) | exact cell1 (((hm.r (gd m.rows st) (A1 hst)).mono sbt).cs (i := k) (by omega)))) ?_ U
  refine y_ (Ad (T U)) (Af (Ac (Bt [(6, _)] ⟨Aa U, trivial⟩ (A5 (A6 U (.tmp (Aa U) .nil) (⟨_, ⟨?_, rfl⟩, sbt⟩)))))) U
  show resOf [.int .i64 _] = .int .i64 ((nx m.pl st (lett m.names s) : Nat) : Int)
  rw [nx_pl, hlt]; rfl
 ·obtain ⟨k, hk⟩ : ∃ k, k = lbF m.names s := ⟨_, rfl⟩
  have hlt : lett m.names s = k := by unfold lett; rw [if_pos (Classical.not_not.1 c17), hk]
  simp only [← hk]
  refine A9 (Ac (Ah (Ab (y_ (Bk (T U) Dc) (y_ (Ai (T U) isAgg26 (by first | exact c_o)) ?_ U) U))))
  refine y_ (Ae (T U)) (y_ (Bh (T U) (T U) runUnderlying26 sizeOf42 (by omega) (by first | exact rfl | exact hm.a2.b (i := st) hst | exact (hm.r (gd m.rows st) (A1 hst)).b (i := 0) (by omega))) ?_ U) U
  refine y_ (Ai (T U) isAgg42 (by first | exact c_o | exact cell1 ((hm.a2.mono sbt).cs (i := st) hst))) ?_ U
  refine y_ (Ae (T U)) (y_ (Bh (T U) (T U) runUnderlying42 sizeOf3 (by omega) (by first | exact rfl | exact hm.a2.b (i := st) hst | exact (hm.r (gd m.rows st) (A1 hst)).b (i := 0) (by omega))) ?_ U) U
  refine y_ (Ai (T U) isAgg3 (by first | exact c_o | exact cell1 (((hm.r (gd m.rows st) (A1 hst)).mono sbt).cs (i := m.names.length) (by omega)) | exact cell1 (((hm.r (gd m.rows st) (A1 hst)).mono sbt).cs (i := k) (by omega)))) ?_ U
  refine y_ (Ad (T U)) (Af (Ac (A5 (A6 U (.tmp (Aa U) .nil) (⟨_, ⟨?_, rfl⟩, sbt⟩))))) U
  show resOf [.int .i64 _] = .int .i64 ((nx m.pl st (lett m.names s) : Nat) : Int)
  rw [nx_pl, hlt]; rfl
theorem run_s {w0 : World} {H : List (Nat × Obj)} (m : Mc) (hm : McOk w0 H m) (hp : PMok m.pl) (hsr : Srt m.names) (hl : m.names.length ≤ 4611686018427387903) (l : List ByteArray) (q : Option Addr) (c : Nat) (hA : Arr w0 H q 1 encS l) (hlen : l.length ≤ 9223372036854775807) :
  FSpec Tryz.prog w0 21 #[.agg (encMc m).toArray, .slice q l.length c] H (Still (.int .i64 (runM m.pl l : Nat)) H) := by
 refine A7 Tryz.func21 U ntmps21 U (Ah (Ab (e_ (Bf (T U) cs_) ?_ U)))
 rintro _ _ ⟨n2, rfl, rfl⟩
 refine y_ (Ad Ak) (Af (Ac (Ah (Ab (y_ (Ad Ak) (Af (Ac (Ah (Ah (Ab (y_ (Ae (T U)) (y_ (Bw (T U) runUnderlying25) (y_ (Ae Ak) (Af (Ac (A2 ?_))) U) U) U)))))) U))))) U
 refine Co (X := Nat) (V := fun i => [(10, .int .i64 (i : Nat)), (5, .int .i64 (runM m.pl (l.take i) : Nat))]) (C := [(2, _), (8, _), (9, _)]) (φ := fun i => i ≤ l.length) (μ := fun i => l.length - i) (x0 := 0) ?_ ⟨Aa U, Aa U, Aa U, trivial⟩ ⟨(by first | exact Aa U | (refine Aj (Aa U) (vint ?_); omega) | (refine Aj (Aa U) ?_; simp; done) | (refine Aj (Aa U) ?_; exact by rw [hrt])), (by first | exact Aa U | (refine Aj (Aa U) (vint ?_); omega) | (refine Aj (Aa U) ?_; simp; done) | (refine Aj (Aa U) ?_; exact by rw [hrt])), trivial⟩ ?_
 ·exact Nat.zero_le _
 rintro i hi
 refine Ah (Ab (y_ (B4 (T U) (T U)) (Af (Ac (Ah ?_))) U))
 first | refine Au (Aa U) (fun c11 => ?_) (fun c11 => ?_) | refine Bb (Aa U) (fun c11 => ?_) (fun c11 => ?_)
 ·refine A9 (Ac (Ah (A2 (Ah (Ab (y_ (Bh (T U) (T U) runUnderlying25 sizeOf9 (by omega) (by first | exact rfl | exact hA.b (i := i) (by omega))) ?_ U))))))
  refine y_ (Ai (T U) isAgg9 (by first | exact c_o | exact cell1 ((hA.mono sbt).cs (i := i) (by omega)))) ?_ U
  refine y_ (Ad (T U)) (Af (Ac (Ab (y_ (Am (T U) isAgg29 sizeOf29 U (by first | exact Bc | exact cell1 ((hA.mono sbt).cs (i := i) (by omega)))) ?_ U)))) U
  refine y_ (Ae (T U)) (y_ (Ae (T U)) (y_ (Aq (.cons (T U) (.cons (T U) (.cons (T U) .nil))) call69 (fun H' hs => after_s m (hm.mono (List.Sublist.trans sbt hs)) hp hsr hl _ (by have := runM_lt hp (l.take i); rw [show m.pl.next.length = m.rows.length from List.length_map ..] at this; exact this) _)) ?_ U) U) U
  refine y_ (Ad (T U)) (Af (Bm (Ac (Ab (y_ (Bv (T U) Ak (by omega)) ?_ U))))) U
  refine y_ (Ae (T U)) (Af ?_) U
  have hrt := runM_take (m := m.pl) (l := l) (i := i) (by omega)
  refine Bs (i + 1) ?_ ?_ ⟨(by first | exact Aa U | (refine Aj (Aa U) (vint ?_); omega) | (refine Aj (Aa U) ?_; simp; done) | (refine Aj (Aa U) ?_; exact by rw [hrt])), (by first | exact Aa U | (refine Aj (Aa U) (vint ?_); omega) | (refine Aj (Aa U) ?_; simp; done) | (refine Aj (Aa U) ?_; exact by rw [hrt])), trivial⟩ ⟨Aa U, Aa U, Aa U, trivial⟩ ?_
  ·show i + 1 ≤ _; omega
  ·first | omega | (simp only []; omega)
  ·exact sbt
 ·refine B7 (A4 (A8 (Ba (Ac (Ah (Ab (y_ (Ae (T U)) (y_ (Ad (T U)) (Af (Ac (A5 (A6 U (.tmp (Aa U) .nil) ?_)))) U) U)))))))
  have hi2 : i = l.length := by omega
  rw [hi2, List.take_length]
  exact ⟨_, ⟨rfl, rfl⟩, sbt⟩
theorem other_s {w0 : World} {H : List (Nat × Obj)} (names : List ByteArray) (q : Option Addr) (c : Nat) (hA : Arr w0 H q 1 encS names) (hlen : names.length ≤ 90) :
  FSpec Tryz.prog w0 19 #[.slice q names.length c] H (Still (.string (otherF names)) H) := by
 refine A7 Tryz.func19 U ntmps19 U (Ah (Ab (y_ (Ad Ak) (Af (Ac (Ah (Ab (y_ (Ad Ak) (Af (Ac (Ah (Ah (Ab (y_ (Ad Ak) (Af (Ac (A2 ?_))) U)))))) U))))) U)))
 refine Co (X := Nat) (V := fun k => [(3, .string (othK k)), (4, .int .i64 (k + 1 : Nat))]) (C := [(0, _)]) (φ := fun k => k ≤ 90 ∧ ∀ j, j < k → toL (othK j) ∈ names.map toL) (μ := fun k => 91 - k) (x0 := 0) ?_ ⟨Aa U, trivial⟩ ⟨atd, atd, trivial⟩ ?_
 ·exact ⟨Nat.zero_le _, fun j hj => absurd hj (Nat.not_lt_zero _)⟩
 rintro k ⟨hk, hin⟩
 refine Ah (Ah (Ab (y_ (Ae (T U)) (y_ (Ae (T U)) (y_ (Aq (.cons (T U) (.cons (T U) .nil)) call67 (fun H' hs => hasS_s names q c _ (hA.mono (List.Sublist.trans sbt hs)) (by omega))) ?_ U) U) U)))
 refine Af (Ac ?_)
 first | refine Au (Aa U) (fun c7 => ?_) (fun c7 => ?_) | refine Bb (Aa U) (fun c7 => ?_) (fun c7 => ?_)
 ·have hy : ∀ j, j < k + 1 → toL (othK j) ∈ names.map toL := fun j hj => by
   by_cases e : j = k
   ·subst e; exact c7
   ·exact hin j (by omega)
  have hkf := oth_few (k := k + 1) (by omega) hy
  refine A9 (Ac (Ah (A2 (Ab (y_ (Ae (T U)) (y_ (Aq (.cons (T U) .nil) call68 (fun H' hs => itoa_s (k + 1) (by have := oth_few (k := k + 1) (by omega) hy; omega))) ?_ U) U)))))
  refine y_ (yl_catS Ak (T U) (by have := itoa_size ⟨k + 1, by omega⟩; simp only [] at this; show 5 + _ ≤ _; omega)) ?_ U
  refine y_ (Ad (T U)) (Af (Bm (Ac (Ab (y_ (Ae (T U)) (y_ (Bv (T U) Ak (by omega)) ?_ U) U))))) U
  refine y_ (Ad (T U)) (Af ?_) U
  refine Bs (k + 1) ?_ ?_ ⟨atd, atd, trivial⟩ ⟨Aa U, trivial⟩ ?_
  ·exact ⟨by omega, hy⟩
  ·first | omega | (simp only []; omega)
  ·exact sbt
 ·have hoth : otherF names = othK k := by
   unfold otherF othN
   rw [fs_some (k := k) (x := k) (by omega) (if_neg c7) (fun j hj => if_pos (hin j hj))]; rfl
  refine B7 (A4 (A8 (Ba (Ac (Ah (Ab (y_ (Ae (T U)) (y_ (Ad (T U)) (Af (Ac (A5 (A6 U (.tmp (Aa U) .nil) ?_)))) U) U)))))))
  exact ⟨_, ⟨by rw [hoth]; rfl, rfl⟩, sbt⟩
theorem idxI_s {w0 : World} {H : List (Nat × Obj)} (l : List Int) (q : Option Addr) (c : Nat) (s : Int) (hA : Arr w0 H q 1 encI l) (hlen : l.length ≤ 4611686018427387903) :
  FSpec Tryz.prog w0 134 #[.slice q l.length c, .int .i64 s] H ((fun v H' => (∃ i : Int, v = .int .i64 i ∧ (0 ≤ i ↔ s ∈ l)) ∧ H' = H)) := by
 refine A7 Tryz.func134 U ntmps134 U (Ah (Ab (y_ (Ad Ak) (Af (Ac (Ah (Ah (Ab (y_ (Ae (T U)) (y_ (Bw (T U) runUnderlying42) (y_ (Ae Ak) (Af (Ac (A2 ?_))) U) U) U)))))) U)))
 refine Co (X := Nat) (V := fun i => [(8, .int .i64 (i : Nat))]) (C := [(0, _), (1, _), (7, _)]) (φ := fun i => i ≤ l.length ∧ ∀ j, j < i → ¬ s = gd l j) (μ := fun i => l.length - i) (x0 := 0) ?_ ⟨Aa U, Aa U, Aa U, trivial⟩ ⟨atd, trivial⟩ ?_
 ·exact ⟨Nat.zero_le _, fun j hj => absurd hj (Nat.not_lt_zero _)⟩
 rintro i ⟨hi, hno⟩
 refine Ah (Ab (y_ (B4 (T U) (T U)) (Af (Ac (Ah ?_))) U))
 first | refine Au (Aa U) (fun c9 => ?_) (fun c9 => ?_) | refine Bb (Aa U) (fun c9 => ?_) (fun c9 => ?_)
 ·refine A9 (Ac (Ah (A2 (Ah (Ab (y_ (Ae (T U)) (y_ (Ad (T U)) (Af (Ac (Ah (Ab (y_ (Ae (T U)) (y_ (Ae (T U)) (y_ (Ae (T U)) (y_ (Bh (T U) (T U) runUnderlying42 sizeOf3 (by omega) (by first | exact rfl | exact hA.b (i := i) (by omega))) ?_ U) U) U) U))))) U) U))))))
  refine y_ (Ai (T U) isAgg3 (by first | exact c_o | exact cell1 ((hA.mono sbt).cs (i := i) (by omega)))) ?_ U
  refine y_ (B3 (T U) (T U)) (Af (Ac ?_)) U
  first | refine Au (Aa U) (fun c16 => ?_) (fun c16 => ?_) | refine Bb (Aa U) (fun c16 => ?_) (fun c16 => ?_)
  ·refine Ah (Ab (y_ (Ae (T U)) (y_ (Ad (T U)) (Af (Ac (A5 (Aw (Ao (B9 (Aw (Ao (A6 U (.tmp (Aa U) .nil) ?_))))))))) U) U))
   exact ⟨_, ⟨⟨_, rfl, fun _ => by rw [c16]; exact A1 (by omega), fun _ => by omega⟩, rfl⟩, sbt⟩
  ·refine A9 (Bm (Ac (Ab (y_ (Bv (T U) Ak (by omega)) ?_ U))))
   refine y_ (Ae (T U)) (Af ?_) U
   refine Bs (i + 1) ?_ ?_ ⟨atd, trivial⟩ ⟨Aa U, Aa U, Aa U, trivial⟩ ?_
   ·refine ⟨by omega, fun j hj => ?_⟩
    by_cases e : j = i
    ·subst e; exact c16
    ·exact hno j (by omega)
   ·first | omega | (simp only []; omega)
   ·exact sbt
 ·refine B7 (A4 (A8 (Ba (Ac (Ah (Ab (y_ (Ad Ak) (Af (Ac (A5 (A6 U (.tmp (Aa U) .nil) (⟨_, ⟨⟨-1, rfl, fun h => absurd h (by decide), fun h => ?_⟩, rfl⟩, sbt⟩))))) U)))))))
  obtain ⟨j, hj, e⟩ := List.getElem_of_mem h
  exact absurd (by rw [Bj hj]; exact e.symm) (hno j (by omega))
theorem hasI_s {w0 : World} {H : List (Nat × Obj)} (l : List Int) (q : Option Addr) (c : Nat) (s : Int) (hA : Arr w0 H q 1 encI l) (hlen : l.length ≤ 4611686018427387903) :
  FSpec Tryz.prog w0 96 #[.slice q l.length c, .int .i64 s] H (Still (.bool (decide (s ∈ l))) H) := by
 refine A7 Tryz.func96 U ntmps96 U (Ah (Ab (y_ (Ad Ak) (Af (Ac (Ah (Ab (y_ (Ae (T U)) (y_ (Ae (T U)) (e_ (Av (.cons (T U) (.cons (T U) .nil)) call134 (idxI_s l q c s hA hlen)) ?_ U) U) U))))) U)))
 rintro _ _ ⟨⟨i, rfl, hi⟩, rfl⟩
 refine y_ (Ds (T U) Ak) (y_ (Ad (T U)) (Af (Ac (A5 (A6 U (.tmp (Aa U) .nil) ?_)))) U) U
 exact ⟨_, ⟨vbool (decide_eq_decide.2 hi), rfl⟩, sbt⟩
theorem gup_s {w0 : World} {H : List (Nat × Obj)} (n : Nn) (hn : NetR w0 H n) (f : Flr) (hf : Arr w0 H f.q 1 encI f.links) (hfl : f.links.length ≤ 4611686018427387903) (l : Nat) (hl : l < n.links.length) :
  FSpec Tryz.prog w0 39 #[.agg (encNn n).toArray, .agg (encFl f).toArray, .int .i64 (l : Int)] H (Still (.bool (upF n f l)) H) := by
 refine A7 Tryz.func39 U ntmps39 U (Ah (Ab (e_ (Bf (T U) cs_) ?_ U)))
 rintro _ _ ⟨n3, rfl, rfl⟩
 refine e_ (Bf (T U) cs_) ?_ U
 rintro _ _ ⟨n4, rfl, rfl⟩
 refine y_ (Ad Ak) (Af (Ac (Ah (Ab (y_ (Bk (T U) fa56_1) (y_ (Ai (T U) isAgg53 (by first | exact c_o)) ?_ U) U))))) U
 refine y_ (Ae (T U)) (y_ (Bh (T U) (T U) runUnderlying53 sizeOf71 (by omega) (by first | exact rfl | exact hn.links.b (i := l) hl)) ?_ U) U
 refine y_ (Am (T U) isAgg71 sizeOf71 U (by first | exact (hn.links.mono sbt).cs (i := l) hl | exact Bc)) ?_ U
 refine e_ (Ap zeroValue71 cs_) ?_ U
 rintro _ _ ⟨n7, rfl, rfl⟩
 first | refine A0 (As (T U) (T U) sizeOf71) U Ag ?_
 rintro _ _ ⟨rfl, rfl⟩
 refine Af (Ac (Ah (Ab (y_ (Bp (T U) fa71_0) (y_ (Ai (T U) isAgg3 (by first | exact c_o)) ?_ U) U))))
 refine y_ (Bk (T U) fa58_1) (y_ (Ai (T U) isAgg3 (by first | exact c_o)) ?_ U) U
 refine y_ (C3 (T U) (T U)) (y_ (Ae (T U)) ?_ U) U
 first | refine Ci (s := 18) (Aa U) (fun c18 => ?_) (fun c18 => ?_) | refine C1 (s := 18) (Aa U) (fun c18 => ?_) (fun c18 => ?_)
 ·refine Bg (Bk (T U) fa71_1) U (Ax U U (Aa U)) (Bg (Ai (T U) isAgg3 (by first | exact c_o)) U (Ax U U (Aa U)) ?_)
  refine Bg (Bk (T U) fa58_1) U (Ax U U (Aa U)) (Bg (Ai (T U) isAgg3 (by first | exact c_o)) U (Ax U U (Aa U)) ?_)
  refine Bg (C3 (T U) (T U)) U (Ax U U (Aa U)) (y_ (Az (T U) (T U)) (y_ (Ae (T U)) ?_ U) U)
  first | refine Ci (s := 25) (Aa U) (fun c25 => ?_) (fun c25 => ?_) | refine C1 (s := 25) (Aa U) (fun c25 => ?_) (fun c25 => ?_)
  ·refine Bg (Bp (T U) fa58_0) U (Ax U U (Aa U)) (Bg (Ai (T U) isAgg42 (by first | exact c_o)) U (Ax U U (Aa U)) ?_)
   refine Bg (Ae (T U)) U (Ax U U (Aa U)) (Bg (Aq (.cons (T U) (.cons (T U) .nil)) call96 (fun H' hs => hasI_s f.links f.q f.c (l : Int) (hf.mono (List.Sublist.trans sbt hs)) hfl)) U (Ax U U (Aa U)) ?_)
   first | refine Bg (Ct (T U)) U (Ax U U (Aa U)) ?_ | refine Bg (C2 (T U)) U (Ax U U (Aa U)) ?_
   refine y_ (Az (T U) (T U)) (y_ (Ad (T U)) (Af (Ac (Bt [(6, _)] ⟨Aa U, trivial⟩ (A5 (A6 U (.tmp (Aa U) .nil) (⟨_, ⟨vbool ?_, rfl⟩, sbt⟩)))))) U) U
   unfold upF
   first | (rw [decide_eq_true c18, decide_eq_true c25]; rfl) | (rw [decide_eq_true c18, decide_eq_false c25]; rfl) | (rw [decide_eq_false c18]; rfl)
  ·refine Cf (Cf (Cf (Cf (Cf (y_ (Be (T U) Ak) (y_ (Ad (T U)) (Af (Ac (Bt [(6, _)] ⟨Aa U, trivial⟩ (A5 (A6 U (.tmp (Aa U) .nil) (⟨_, ⟨vbool ?_, rfl⟩, sbt⟩)))))) U) U) U U U U) U U U U) U U U U) U U U U) U U U U
   unfold upF
   first | (rw [decide_eq_true c18, decide_eq_true c25]; rfl) | (rw [decide_eq_true c18, decide_eq_false c25]; rfl) | (rw [decide_eq_false c18]; rfl)
 ·refine Cf (Cf (Cf (Cf (Cf (y_ (Be (T U) Ak) (y_ (Ae (T U)) (Cf (Cf (Cf (Cf (Cf (y_ (Be (T U) Ak) (y_ (Ad (T U)) (Af (Ac (Bt [(6, _)] ⟨Aa U, trivial⟩ (A5 (A6 U (.tmp (Aa U) .nil) (⟨_, ⟨vbool ?_, rfl⟩, sbt⟩)))))) U) U) U U U U) U U U U) U U U U) U U U U) U U U U) U) U) U U U U) U U U U) U U U U) U U U U) U U U U
  unfold upF
  first | (rw [decide_eq_true c18, decide_eq_true c25]; rfl) | (rw [decide_eq_true c18, decide_eq_false c25]; rfl) | (rw [decide_eq_false c18]; rfl)
theorem out1_s {w0 : World} {H : List (Nat × Obj)} (x : Ln) (node n3 : Nat) (h3 : Fnd H n3 (Cl [.int .i64 (node : Int)] 3)) :
  FSpec Tryz.prog w0 146 #[.agg (encLn x).toArray, .pointer (some ⟨n3, 0, none⟩)] H (Still (.bool (decide (x.src = node))) H) := by
 refine A7 Tryz.func146 U ntmps146 U (Ah (Ab (e_ (Bf (T U) cs_) ?_ U)))
 rintro _ _ ⟨n2, rfl, rfl⟩
 refine y_ (Ad Ak) (Af (Ac (Ah (Ab (y_ (Bp (T U) fa71_0) (y_ (Ai (T U) isAgg3 (by first | exact c_o | exact c_o (hf := Al h3))) ?_ U) U))))) U
 refine y_ (Ai (T U) isAgg3 (by first | exact c_o | exact c_o (hf := Al h3))) ?_ U
 refine y_ (B3 (T U) (T U)) (y_ (Ad (T U)) (Af (Ac (A5 (A6 U (.tmp (Aa U) .nil) ?_)))) U) U
 exact ⟨_, ⟨vbool (decide_eq_decide.2 (by omega)), rfl⟩, sbt⟩
theorem links_s {w0 : World} {H : List (Nat × Obj)} (n : Nn) (hn : NetR w0 H n) (hok : NnOk n) (node n3 : Nat) (h3 : Fnd H n3 (Cl [.int .i64 (node : Int)] 3)) :
  FSpec Tryz.prog w0 145 #[.agg (encNn n).toArray, .func (.func 146) #[] #[.pointer (some ⟨n3, 0, none⟩)]] H (fun v H' => ∃ d, (v = slV d (outF n node).length ∧ SlOk d (outF n node).length 1) ∧ H' = slH d ((outF n node).flatMap encU) 3 ++ H) := by
 refine A7 Tryz.func145 U ntmps145 U ?_
 have hfl := hok.fewL
 refine Ah (Ab (e_ (Bf (T U) cs_) ?_ U))
 rintro _ _ ⟨n2, rfl, rfl⟩
 refine y_ (Ad Ak) (Af (Ac (Ah (Ab (y_ (Ad Ak) (Af (Ac (Ah (Ah (Ab (y_ (Bk (T U) fa56_1) (y_ (Ai (T U) isAgg53 (by first | exact c_o)) ?_ U) U)))))) U))))) U
 refine y_ (Bw (T U) runUnderlying53) (y_ (Ae Ak) (Af (Ac (A2 ?_))) U) U
 refine Cn (X := Nat × Sl) (V := fun ⟨i, d⟩ => [(11, .int .i64 (i : Nat)), (5, slV d (outK n node i).length)]) (C := [(1, _), (9, _), (10, _)]) (G := fun ⟨i, d⟩ => slH d ((outK n node i).flatMap encU) 3 ++ ((n2, Cl (encNn n) 56) :: H)) (φ := fun ⟨i, d⟩ => i ≤ n.links.length ∧ SlOk d (outK n node i).length 1) (μ := fun ⟨i, d⟩ => n.links.length - i) (x0 := (0, .nil)) ?_ ⟨Aa rfl, Aa rfl, Aa rfl, trivial⟩ ⟨(by first | exact Aa rfl | (refine Aj (Aa rfl) (vint ?_); omega) | (refine Aj (Aa rfl) ?_; simp; done) | (refine Aj (Aa rfl) ?_; exact by simp only [hrow, List.length_append, List.length_cons, List.length_nil])), (by first | exact Aa rfl | (refine Aj (Aa rfl) (vint ?_); omega) | (refine Aj (Aa rfl) ?_; simp; done) | (refine Aj (Aa rfl) ?_; exact by simp only [hrow, List.length_append, List.length_cons, List.length_nil])), trivial⟩ sb0 ?_
 ·exact ⟨Nat.zero_le _, rfl⟩
 rintro ⟨i, d⟩ ⟨hi, hd⟩
 refine Ah (Ab (y_ (B4 (T U) (T U)) (Af (Ac (Ah ?_))) U))
 first | refine Au (Aa U) (fun c12 => ?_) (fun c12 => ?_) | refine Bb (Aa U) (fun c12 => ?_) (fun c12 => ?_)
 ·refine A9 (Ac (Ah (A2 (Ah (Ab (y_ (Ae (T U)) (y_ (Bh (T U) (T U) runUnderlying53 sizeOf71 (by omega) (by first | exact rfl | exact hn.links.b (i := i) (by omega))) ?_ U) U))))))
  refine y_ (Am (T U) isAgg71 sizeOf71 U (by first | exact (hn.links.mono sbt).cs (i := i) (by omega) | exact Bc)) ?_ U
  refine e_ (Ap zeroValue71 cs_) ?_ U
  rintro _ _ ⟨n7, rfl, rfl⟩
  refine y_ (Ad (T U)) ?_ U
  first | refine A0 (As (T U) (T U) sizeOf71) U Ag ?_
  rintro _ _ ⟨rfl, rfl⟩
  refine Af (Ac (Ah (Ab (y_ (Ae (T U)) (y_ (Am (T U) isAgg71 sizeOf71 U (by first | exact Bc)) ?_ U) U))))
  refine y_ (yl_callV (T U) (.cons (T U) .nil) call146 (fun H' hs => out1_s (gd n.links i) node n3 (h3.mono (List.Sublist.trans sbt hs)))) (Af (Ac ?_)) U
  first | refine Au (Aa U) (fun c18 => ?_) (fun c18 => ?_) | refine Bb (Aa U) (fun c18 => ?_) (fun c18 => ?_)
  ·have hrow : outK n node (i + 1) = outK n node i ++ [i] := by rw [outK_succ, if_pos c18]
   refine Ab (y_ (Ae (T U)) (y_ (Ae (T U)) (e_ (An (.cons (T U) .nil) (bs42_1_0 _)) ?_ U) U) U)
   rintro _ _ ⟨n21, rfl, rfl⟩
   refine e_ (Bi (i) (by' := 8) (by repeat (first | exact LocL.h | apply LocL.t | apply LocL.a)) (T U) (T U) runUnderlying42 runUnderlying42 sizeOf3 typeInfo3 U zeroValue3 U (fun _ => rfl) U hd (by decide) (by have := outK_len n node i; omega)) ?_ U
   rintro _ _ ⟨d', rfl, hokd, rfl⟩
   refine y_ (Ad (T U)) (Af (Bm (Ac (Ab (y_ (Bv (T U) Ak (by omega)) ?_ U))))) U
   refine y_ (Ae (T U)) (Af ?_) U
   refine Bs ((i + 1, d')) ?_ ?_ ⟨(by first | exact Aa U | (refine Aj (Aa U) (vint ?_); omega) | (refine Aj (Aa U) ?_; simp; done) | (refine Aj (Aa U) ?_; exact by simp only [hrow, List.length_append, List.length_cons, List.length_nil])), (by first | exact Aa U | (refine Aj (Aa U) (vint ?_); omega) | (refine Aj (Aa U) ?_; simp; done) | (refine Aj (Aa U) ?_; exact by simp only [hrow, List.length_append, List.length_cons, List.length_nil])), trivial⟩ ⟨Aa U, Aa U, Aa U, trivial⟩ ?_
   ·exact ⟨by omega, by rw [hrow, List.length_append]; exact hokd⟩
   ·first | omega | (simp only []; omega)
   ·simp only [hrow]; exact sbt
  ·have hrow : outK n node (i + 1) = outK n node i := by rw [outK_succ, if_neg c18]
   refine A9 (Bm (Ac (Ab (y_ (Bv (T U) Ak (by omega)) ?_ U))))
   refine y_ (Ae (T U)) (Af ?_) U
   refine Bs ((i + 1, d)) ?_ ?_ ⟨(by first | exact Aa U | (refine Aj (Aa U) (vint ?_); omega) | (refine Aj (Aa U) ?_; simp; done) | (refine Aj (Aa U) ?_; exact by simp only [hrow, List.length_append, List.length_cons, List.length_nil])), (by first | exact Aa U | (refine Aj (Aa U) (vint ?_); omega) | (refine Aj (Aa U) ?_; simp; done) | (refine Aj (Aa U) ?_; exact by simp only [hrow, List.length_append, List.length_cons, List.length_nil])), trivial⟩ ⟨Aa U, Aa U, Aa U, trivial⟩ ?_
   ·exact ⟨by omega, by rw [hrow]; exact hd⟩
   ·first | omega | (simp only []; omega)
   ·simp only [hrow]; exact sbt
 ·refine B7 (A4 (A8 (Ba (Ac (Ah (Ab (y_ (Ae (T U)) (y_ (Ad (T U)) (Af (Ac (A5 (A6 U (.tmp (Aa U) .nil) ?_)))) U) U)))))))
  have hi2 : i = n.links.length := by omega
  rw [hi2] at hd ⊢
  exact ⟨_, ⟨d, ⟨rfl, hd⟩, rfl⟩, sbt⟩
theorem gout_s {w0 : World} {H : List (Nat × Obj)} (n : Nn) (hn : NetR w0 H n) (hok : NnOk n) (node : Nat) :
  FSpec Tryz.prog w0 128 #[.agg (encNn n).toArray, .int .i64 (node : Int)] H (fun v H' => ∃ d, (v = slV d (outF n node).length ∧ SlOk d (outF n node).length 1) ∧ H' = slH d ((outF n node).flatMap encU) 3 ++ H) := by
 refine A7 Tryz.func128 U ntmps128 U (Ah (Ab (e_ (Bf (T U) cs_) ?_ U)))
 rintro _ _ ⟨n2, rfl, rfl⟩
 refine e_ (Bf (T U) cs_) ?_ U
 rintro _ _ ⟨n3, rfl, rfl⟩
 refine y_ (Ad Ak) (Af (Ac (Ah (Ab (y_ (Am (T U) isAgg56 sizeOf56 U (by first | exact Bc)) ?_ U))))) U
 refine y_ (Cc (.cons (T U) .nil)) ?_ U
 refine e_ (Av (.cons (T U) (.cons (T U) .nil)) call145 (links_s n (hn.mono sbt) hok node n3 fdd)) ?_ U
 rintro _ _ ⟨d, ⟨rfl, hd⟩, rfl⟩
 refine y_ (Ad (T U)) (Af (Ac (A5 (A6 U (.tmp (Aa U) .nil) ?_)))) U
 exact ⟨_, ⟨d, ⟨rfl, hd⟩, rfl⟩, sbt⟩
end Go.Proofs.YtkdolgnpkjihpaaGreatDoor
namespace Go.Proofs.YtkdolgnpkjihpaaGreatDoor
open _root_.Go.Proofs.Tryz
set_option linter.unusedVariables false
set_option linter.unusedSimpArgs false
set_option linter.unusedSectionVars false
abbrev Pl := Nat × Nat
structure BS (σ : Type) where
 l : List Pl
 w : List (Int × σ)
section
variable {σ : Type} [Inhabited σ]
def visF (k : Nat) (st : BS σ) (x : Pl × σ) : BS σ := if x.1 ∈ st.l then st else ⟨st.l ++ [x.1], st.w ++ [((k : Int), x.2)]⟩
def visAll (k : Nat) (st : BS σ) (ts : List (Pl × σ)) : BS σ := ts.foldl (visF k) st
theorem visAll_take (k : Nat) (st : BS σ) {ts : List (Pl × σ)} {j : Nat} {x : Pl × σ} (h : ts[j]? = some x) : visAll k st (ts.take (j + 1)) = visF k (visAll k st (ts.take j)) x := by
 unfold visAll; rw [List.take_add_one, h, List.foldl_append]; rfl
def goF (ts : Pl → List (Pl × σ)) (fnd : Pl → Bool) : Nat → Nat → BS σ → Option Nat × BS σ
 | 0, _, st => (none, st)
 | f + 1, k, st => if k < st.l.length then (if fnd (gd st.l k) then (some k, st) else goF ts fnd f (k + 1) (visAll k st (ts (gd st.l k)))) else (none, st)
theorem goF_succ (ts : Pl → List (Pl × σ)) (fnd : Pl → Bool) (f k : Nat) (st : BS σ) : goF ts fnd (f + 1) k st = if k < st.l.length then (if fnd (gd st.l k) then (some k, st) else goF ts fnd f (k + 1) (visAll k st (ts (gd st.l k)))) else (none, st) := rfl
def backF (w : List (Int × σ)) : Nat → Nat → List σ
 | 0, _ => []
 | f + 1, i => if 0 ≤ (gd w i).1 then (gd w i).2 :: backF w f (gd w i).1.toNat else []
theorem backF_succ (w : List (Int × σ)) (f i : Nat) : backF w (f + 1) i = if 0 ≤ (gd w i).1 then (gd w i).2 :: backF w f (gd w i).1.toNat else [] := rfl
structure BSok (Pd : Pl → Prop) (k : Nat) (st : BS σ) : Prop where
 nd : st.l.Nodup
 ok : ∀ p ∈ st.l, Pd p
 len : st.w.length = st.l.length
 back : ∀ i, i < st.w.length → -1 ≤ (gd st.w i).1 ∧ (gd st.w i).1 < i
 kl : k ≤ st.l.length
theorem Cd {α : Type} [Inhabited α] {l l' : List α} {i : Nat} (h : i < l.length) : gd (l ++ l') i = gd l i := by
 rw [Bj (by simp; omega), List.getElem_append_left h, ← Bj h]
theorem Cq {α : Type} [Inhabited α] {l : List α} {x : α} : gd (l ++ [x]) l.length = x := by
 rw [Bj (by simp)]; simp
theorem BSok.vis {Pd : Pl → Prop} {k k' : Nat} {st : BS σ} (h : BSok Pd k st) (hk : k' < st.l.length) {x : Pl × σ} (hx : Pd x.1) : BSok Pd k (visF k' st x) ∧ st.l.length ≤ (visF k' st x).l.length ∧ (visF k' st x).l.length ≤ st.l.length + 1 := by
 unfold visF; split
 ·exact ⟨h, Nat.le_refl _, by omega⟩
 ·rename_i hn
  refine ⟨⟨?_, ?_, by simp [h.len], ?_, by have := h.kl; simp; omega⟩, by simp, by simp⟩
  ·rw [List.nodup_append]
   exact ⟨h.nd, by simp, fun a ha b hb => by simp at hb; subst hb; rintro rfl; exact hn ha⟩
  ·intro p hp
   simp only [List.mem_append, List.mem_cons, List.not_mem_nil, or_false] at hp
   rcases hp with hp | rfl
   ·exact h.ok p hp
   ·exact hx
  ·intro i hi
   simp only [List.length_append, List.length_cons, List.length_nil] at hi
   by_cases e : i < st.w.length
   ·rw [Cd e]; exact h.back i e
   ·have e2 : i = st.w.length := by omega
    subst e2
    rw [Cq]
    have := h.len
    simp only []
    omega
theorem BSok.visAll {Pd : Pl → Prop} {k k' : Nat} : ∀ (ts : List (Pl × σ)) {st : BS σ}, BSok Pd k st → k' < st.l.length → (∀ x ∈ ts, Pd x.1) → BSok Pd k (visAll k' st ts) ∧ st.l.length ≤ (visAll k' st ts).l.length
 | [], st, h, hk, _ => ⟨h, Nat.le_refl _⟩
 | x :: ts, st, h, hk, ht => by
  obtain ⟨h1, h2, _⟩ := h.vis hk (ht x (by simp))
  obtain ⟨h3, h4⟩ := BSok.visAll (k' := k') ts h1 (by omega) (fun y hy => ht y (by simp [hy]))
  exact ⟨h3, Nat.le_trans h2 h4⟩
theorem visF_get {k : Nat} {st : BS σ} {x : Pl × σ} {i : Nat} (h : i < st.l.length) : gd (visF k st x).l i = gd st.l i := by
 unfold visF; split
 ·rfl
 ·exact Cd h
theorem visAll_get {k : Nat} {i : Nat} : ∀ (ts : List (Pl × σ)) {st : BS σ}, i < st.l.length → gd (visAll k st ts).l i = gd st.l i ∧ st.l.length ≤ (visAll k st ts).l.length
 | [], st, h => ⟨rfl, Nat.le_refl _⟩
 | x :: ts, st, h => by
  have hl : st.l.length ≤ (visF k st x).l.length := by unfold visF; split <;> simp
  obtain ⟨h1, h2⟩ := visAll_get ts (st := visF k st x) (i := i) (by omega)
  exact ⟨by show gd (visAll k (visF k st x) ts).l i = _; rw [h1, visF_get h], Nat.le_trans hl h2⟩
end
theorem grid_few {A B : Nat} {l : List Pl} (h : l.Nodup) (hl : ∀ p ∈ l, p.1 < A ∧ p.2 < B) : l.length ≤ A * B := by
 have h1 : (l.map fun p => p.1 * B + p.2).Nodup := by
  rw [List.Nodup, List.pairwise_map]
  refine List.Pairwise.imp_of_mem ?_ h
  intro a b ha hb hab e
  obtain ⟨_, ha2⟩ := hl a ha
  obtain ⟨_, hb2⟩ := hl b hb
  have hB : 0 < B := by omega
  have e1 : a.1 = b.1 := by
   have h1 : (a.1 * B + a.2) / B = a.1 := by rw [Nat.mul_comm, Nat.mul_add_div hB, Nat.div_eq_of_lt ha2]; rfl
   have h2 : (b.1 * B + b.2) / B = b.1 := by rw [Nat.mul_comm, Nat.mul_add_div hB, Nat.div_eq_of_lt hb2]; rfl
   rw [← h1, ← h2, e]
  have e2 : a.2 = b.2 := by rw [e1] at e; omega
  exact hab (Prod.ext e1 e2)
 have := nodup_le h1 (l' := List.range (A * B)) fun x hx => by
  simp only [List.mem_map] at hx
  obtain ⟨p, hp, rfl⟩ := hx
  obtain ⟨h2, h3⟩ := hl p hp
  rw [List.mem_range]
  calc p.1 * B + p.2 < p.1 * B + B := by omega
   _ = (p.1 + 1) * B := by rw [Nat.succ_mul]
   _ ≤ A * B := Nat.mul_le_mul_right _ h2
 simpa using this
def trueM (l : List Pl) : List (Pl × Bool) := l.map fun p => (p, true)
theorem look_trueM (x : Pl) : ∀ l : List Pl, look (trueM l) x = if x ∈ l then some true else none
 | [] => rfl
 | y :: l => by
  show look ((y, true) :: trueM l) x = _
  rw [look_cons, look_trueM x l]
  by_cases h : y = x
  ·subst h; simp
  ·have h2 : ¬ x = y := fun e => h e.symm
   simp only [h, if_false, List.mem_cons, h2, false_or]
theorem upsert_trueM {x : Pl} : ∀ {l : List Pl}, x ∉ l → upsert (trueM l) x true = trueM (l ++ [x])
 | [], _ => rfl
 | y :: l, h => by
  simp only [List.mem_cons, not_or] at h
  show upsert ((y, true) :: trueM l) x true = (y, true) :: trueM (l ++ [x])
  rw [upsert_cons, if_neg (fun e => h.1 e.symm), upsert_trueM h.2]
end Go.Proofs.YtkdolgnpkjihpaaGreatDoor
namespace Go.Proofs.YtkdolgnpkjihpaaGreatDoor
open _root_.Go.Proofs.Tryz
open Go.RowKit
set_option linter.unusedVariables false
set_option linter.unusedSimpArgs false
theorem bd178_0_1 (a0 : Int) (a1 : ByteArray) (w : World) : (Instr.build 178 #[(0, .int .i64 a0), (1, .string a1)]).run Tryz.prog w = .ok (.agg #[.int .i64 a0, .string a1]) w := by kernel_rfl
theorem bd186_0_1 (a0 : Int) (a1 : Int) (w : World) : (Instr.build 186 #[(0, .int .i64 a0), (1, .int .i64 a1)]).run Tryz.prog w = .ok (.agg #[.int .i64 a0, .int .i64 a1]) w := by kernel_rfl
theorem bs176_1_0 (a0 : Int) (a1 : Int) (w : World) : (Instr.buildSlice 176 1 #[(0, .agg #[.int .i64 a0, .int .i64 a1])]).run Tryz.prog w = .ok (.slice (some ⟨w.heap.size, 0, none⟩) 1 1) (w.alloc (Cl [.int .i64 a0, .int .i64 a1] 115)) := by kernel_rfl
theorem bs179_1_0 (a0 : Int) (a1 : ByteArray) (w : World) : (Instr.buildSlice 179 1 #[(0, .agg #[.int .i64 a0, .string a1])]).run Tryz.prog w = .ok (.slice (some ⟨w.heap.size, 0, none⟩) 1 1) (w.alloc (Cl [.int .i64 a0, .string a1] 178)) := by kernel_rfl
theorem bs187_1_0 (a0 : Int) (a1 : Int) (w : World) : (Instr.buildSlice 187 1 #[(0, .agg #[.int .i64 a0, .int .i64 a1])]).run Tryz.prog w = .ok (.slice (some ⟨w.heap.size, 0, none⟩) 1 1) (w.alloc (Cl [.int .i64 a0, .int .i64 a1] 186)) := by kernel_rfl
theorem bs59_1_0 (a0 : Int) (a1 : Int) (w : World) : (Instr.buildSlice 59 1 #[(0, .agg #[.int .i64 a0, .int .i64 a1])]).run Tryz.prog w = .ok (.slice (some ⟨w.heap.size, 0, none⟩) 1 1) (w.alloc (Cl [.int .i64 a0, .int .i64 a1] 74)) := by kernel_rfl
abbrev encPl (p : Pl) : List Value := [.int .i64 (p.1 : Int), .int .i64 (p.2 : Int)]
abbrev encPK (p : Pl) : Value := .agg (encPl p).toArray
theorem eqPk {t : TypeId} (h : ∀ (a b : Int × Int) w, (Op.equal t (encPlK a) (encPlK b)).run Tryz.prog w = .ok (decide (b = a)) w) (a b : Pl) (w : World) : (Op.equal t (encPK a) (encPK b)).run Tryz.prog w = .ok (decide (b = a)) w := by
 have h1 := h ((a.1 : Int), (a.2 : Int)) ((b.1 : Int), (b.2 : Int)) w
 refine Eq.trans h1 ?_
 refine congrArg (fun r => Result.ok r w) (decide_eq_decide.2 ?_)
 obtain ⟨a1, a2⟩ := a
 obtain ⟨b1, b2⟩ := b
 simp only [Prod.mk.injEq]
 omega
theorem keyP74 {V : Type} : KeyOk (V := V) Tryz.prog 74 encPK := keyOk_ask runUnderlying74 (fun b k w => by cases b <;> kernel_rfl) (fun k k' => by simp [Instr.sameNow]) (eqPk eqPl) (fun k => by simp [Instr.sameBits])
theorem keyP115 {V : Type} : KeyOk (V := V) Tryz.prog 115 encPK := keyOk_ask runUnderlying115 (fun b k w => by cases b <;> kernel_rfl) (fun k k' => by simp [Instr.sameNow]) (eqPk eqA2) (fun k => by simp [Instr.sameBits])
abbrev encWI (x : Int × Nat) : List Value := [.int .i64 x.1, .int .i64 (x.2 : Int)]
abbrev encWS (x : Int × ByteArray) : List Value := [.int .i64 x.1, .string x.2]
def bsHI (n18 n9 n8 : Nat) (st : BS Nat) (x : Sl × Sl) : List (Nat × Obj) := (n18, mapO encPK encBv (trueM st.l)) :: (n9, Cl [slV x.2 st.w.length] 187) :: (n8, Cl [slV x.1 st.l.length] 59) :: (slH x.2 (st.w.flatMap encWI) 186 ++ slH x.1 (st.l.flatMap encPl) 74)
theorem bsHI_app (n18 n9 n8 : Nat) (st : BS Nat) (x : Sl × Sl) (R : List (Nat × Obj)) : bsHI n18 n9 n8 st x ++ R = (n18, mapO encPK encBv (trueM st.l)) :: (n9, Cl [slV x.2 st.w.length] 187) :: (n8, Cl [slV x.1 st.l.length] 59) :: (slH x.2 (st.w.flatMap encWI) 186 ++ (slH x.1 (st.l.flatMap encPl) 74 ++ R)) := by
 unfold bsHI; simp only [List.cons_append, List.append_assoc]
structure bsOkI (st : BS Nat) (x : Sl × Sl) : Prop where
 o1 : SlOk x.1 st.l.length 2
 o2 : SlOk x.2 st.w.length 2
theorem yl_seenI {w0 : World} {H : List (Nat × Obj)} {L : Fm} {x y : Operand} {ty : TypeId} {r : Nat} {l : List Pl} {p : Pl} {v : Value} (hx : Ev L x (.map (some r))) (hy : Ev L y v) (hv : v = encPK p) (hf : Fnd H r (mapO encPK encBv (trueM l))) :
  Yl Tryz.prog w0 (.lookup 72 x y false) ty L H (.bool (decide (p ∈ l))) := by
 have h := yl_lookupB (P := Tryz.prog) (w0 := w0) (ty := ty) (encB := encBv) U (keyP74 (V := Bool)) hx hy hv runUnderlying72 zeroValue4 hf
 rw [look_trueM] at h
 by_cases hm : p ∈ l
 ·rw [if_pos hm] at h; rw [decide_eq_true hm]; exact h
 ·rw [if_neg hm] at h; rw [decide_eq_false hm]; exact h
theorem visI_s {w0 : World} {H : List (Nat × Obj)} (n18 n9 n8 n10 n11 k : Nat) (st : BS Nat) (x : Sl × Sl) (t : Pl) (by1 : Nat) (hx : bsOkI st x) (hl : st.l.length ≤ 100000) (hw : st.w.length = st.l.length) (h10 : Fnd H n10 (Cl [.map (some n18)] 72)) (h11 : Fnd H n11 (Cl [.int .i64 (k : Int)] 3)) :
  FSpec Tryz.prog w0 126 #[.agg (encPl t).toArray, .int .i64 (by1 : Int), .pointer (some ⟨n10, 0, none⟩), .pointer (some ⟨n8, 0, none⟩), .pointer (some ⟨n9, 0, none⟩), .pointer (some ⟨n11, 0, none⟩)] (bsHI n18 n9 n8 st x ++ H) (fun _ H' => ∃ y, bsOkI (visF k st (t, by1)) y ∧ H' = bsHI n18 n9 n8 (visF k st (t, by1)) y ++ H) := by
 obtain ⟨ho1, ho2⟩ := hx
 rw [bsHI_app]
 refine A7 Tryz.func126 U ntmps126 U (Ah (Ab (e_ (Bf (T U) cs_) ?_ U)))
 rintro _ _ ⟨n6, rfl, rfl⟩
 refine Af (Ac (Ah (Ab ?_)))
 refine y_ (Ai (T U) isAgg72 (by first | exact c_o | exact c_o (hf := by repeat (first | exact h10 | refine Al ?_ | refine Ar ?_)) | exact c_o (hf := Al (Al (Al (Al (Ar (Ar h10)))))) | exact c_o (hf := Al (Al (Al (Al (Ar (Ar h11)))))))) ?_ U
 refine y_ (Am (T U) isAgg74 sizeOf74 U (by first | exact Bc | exact c_o (hf := Al (Al (Al (Al (Ar (Ar h10)))))) | exact c_o (hf := Al (Al (Al (Al (Ar (Ar h11)))))))) ?_ U
 refine y_ (yl_seenI (l := st.l) (p := t) (T U) (T U) U fdd) ?_ U
 first | refine Bg (Ct (T U)) U Ag ?_ | refine Bg (C2 (T U)) U Ag ?_
 refine Af (Ac ?_)
 first | refine Au (Aa U) (fun c11 => ?_) (fun c11 => ?_) | refine Bb (Aa U) (fun c11 => ?_) (fun c11 => ?_)
 ·refine Ah (Ab ?_)
  refine y_ (Ai (T U) isAgg72 (by first | exact c_o | exact c_o (hf := by repeat (first | exact h10 | refine Al ?_ | refine Ar ?_)) | exact c_o (hf := Al (Al (Al (Al (Ar (Ar h10)))))) | exact c_o (hf := Al (Al (Al (Al (Ar (Ar h11)))))))) ?_ U
  refine y_ (Am (T U) isAgg74 sizeOf74 U (by first | exact Bc | exact c_o (hf := Al (Al (Al (Al (Ar (Ar h10)))))) | exact c_o (hf := Al (Al (Al (Al (Ar (Ar h11)))))))) ?_ U
  refine e_ (eff_mapUpdate (l := trueM st.l) (encV := encBv) t true (keyP74 (V := Bool)) (T U) (T U) U Ak U runUnderlying72) ?_ U
  rintro _ _ ⟨rfl, rfl⟩
  rw [upsert_trueM c11]
  refine Af (Ac (j_anyX 9 _ mixd (by kernel_rfl) (show List.Sublist ((n6, Cl (encPl t) 74) :: (n18, _) :: (n9, Cl [slV x.2 st.w.length] 187) :: (n8, Cl [slV x.1 st.l.length] 59) :: H) _ from by repeat (first | exact List.Sublist.refl _ | apply List.Sublist.cons_cons | exact sbt)) ?_))
  refine x_y (i := 0) U (by kernel_rfl) (Ai (T U) isAgg59 (by first | exact c_o | exact c_o (hf := Al (Al (Al (Al (Ar (Ar h10)))))) | exact c_o (hf := Al (Al (Al (Al (Ar (Ar h11)))))))) ?_ U Ag
  refine x_y (i := 1) U (by kernel_rfl) (Am (T U) isAgg74 sizeOf74 U (by first | exact Bc | exact c_o (hf := Al (Al (Al (Al (Ar (Ar h10)))))) | exact c_o (hf := Al (Al (Al (Al (Ar (Ar h11)))))))) ?_ U Ag
  refine x_y (i := 4) U (by kernel_rfl) (Ai (T U) isAgg187 (by first | exact c_o | exact c_o (hf := Al (Al (Al (Al (Ar (Ar h10)))))) | exact c_o (hf := Al (Al (Al (Al (Ar (Ar h11)))))))) ?_ U Ag
  refine x_y (i := 5) U (by kernel_rfl) (Ai (T U) isAgg3 (by first | exact c_o | exact c_o (hf := by repeat (first | exact h11 | refine Al ?_ | refine Ar ?_)) | exact c_o (hf := Al (Al (Al (Al (Ar (Ar h10)))))) | exact c_o (hf := Al (Al (Al (Al (Ar (Ar h11)))))))) ?_ U Ag
  refine x_y (i := 6) U (by kernel_rfl) (Ae (T U)) ?_ U Ag
  refine x_y (i := 7) U (by kernel_rfl) (Bq (.cons (T U) (.cons (T U) .nil)) (bd186_0_1 _ _)) ?_ U Ag
  refine C5 (i := 2) (j := 8) (by kernel_rfl) (by kernel_rfl) ?_ ?_
  ·refine Br U (An (.cons (T U) .nil) (bs59_1_0 _ _)) ?_ U Ag
   rintro _ _ ⟨n16, rfl, rfl⟩
   refine ⟨sbt, ?_⟩
   refine C5 (i := 3) (j := 8) (by kernel_rfl) (by kernel_rfl) ?_ ?_
   ·refine Br U (Bi (t) (by' := 16) (by repeat (first | exact LocL.h | apply LocL.t | apply LocL.a)) (T U) (T U) runUnderlying59 runUnderlying59 sizeOf74 typeInfo74 U zeroValue74 U (fun _ => rfl) U ho1 (by decide) (by omega)) ?_ U Ag
    rintro _ _ ⟨d', rfl, hokd, rfl⟩
    refine ⟨sbt, (Bx (i := 8) (by kernel_rfl) (by kernel_rfl) ?_)⟩
    refine Br U (An (.cons (T U) .nil) (bs187_1_0 _ _)) ?_ U Ag
    rintro _ _ ⟨n22, rfl, rfl⟩
    refine ⟨sbt, (Cj (by kernel_rfl) U ?_)⟩
    refine e_ (Bi (((k : Int), by1)) (by' := 16) (by repeat (first | exact LocL.h | apply LocL.t | apply LocL.a)) (T U) (T U) runUnderlying187 runUnderlying187 sizeOf186 typeInfo186 U zeroValue186 U (fun _ => rfl) U ho2 (by decide) (by omega)) ?_ U
    rintro _ _ ⟨e', rfl, hoke, rfl⟩
    first | refine A0 (As (T U) (T U) sizeOf59) U Ag ?_ | refine A0 (B6 (T U) (T U) U sizeOf59) U Ag ?_ | refine A0 (By (T U) (T U) U sizeOf59) U Ag ?_
    rintro _ _ ⟨rfl, rfl⟩
    first | refine A0 (As (T U) (T U) sizeOf187) U Ag ?_ | refine A0 (B6 (T U) (T U) U sizeOf187) U Ag ?_ | refine A0 (By (T U) (T U) U sizeOf187) U Ag ?_
    rintro _ _ ⟨rfl, rfl⟩
    refine Af (C8 U .nil ?_)
    have hv : visF k st (t, by1) = ⟨st.l ++ [t], st.w ++ [((k : Int), by1)]⟩ := if_neg c11
    refine ⟨_, ⟨(d', e'), ⟨by rw [hv]; simpa using hokd, by rw [hv]; simpa using hoke⟩, rfl⟩, ?_⟩
    rw [hv, bsHI_app]
    simp only [List.length_append, List.length_cons, List.length_nil, Nat.zero_add]
    exact sbt
   ·refine Br U (An (.cons (T U) .nil) (bs187_1_0 _ _)) ?_ U Ag
    rintro _ _ ⟨n22, rfl, rfl⟩
    refine ⟨sbt, (Bx (i := 3) (by kernel_rfl) (by kernel_rfl) ?_)⟩
    refine Br U (Bi (t) (by' := 16) (by repeat (first | exact LocL.h | apply LocL.t | apply LocL.a)) (T U) (T U) runUnderlying59 runUnderlying59 sizeOf74 typeInfo74 U zeroValue74 U (fun _ => rfl) U ho1 (by decide) (by omega)) ?_ U Ag
    rintro _ _ ⟨d', rfl, hokd, rfl⟩
    refine ⟨sbt, (Cj (by kernel_rfl) U ?_)⟩
    refine e_ (Bi (((k : Int), by1)) (by' := 16) (by repeat (first | exact LocL.h | apply LocL.t | apply LocL.a)) (T U) (T U) runUnderlying187 runUnderlying187 sizeOf186 typeInfo186 U zeroValue186 U (fun _ => rfl) U ho2 (by decide) (by omega)) ?_ U
    rintro _ _ ⟨e', rfl, hoke, rfl⟩
    first | refine A0 (As (T U) (T U) sizeOf59) U Ag ?_ | refine A0 (B6 (T U) (T U) U sizeOf59) U Ag ?_ | refine A0 (By (T U) (T U) U sizeOf59) U Ag ?_
    rintro _ _ ⟨rfl, rfl⟩
    first | refine A0 (As (T U) (T U) sizeOf187) U Ag ?_ | refine A0 (B6 (T U) (T U) U sizeOf187) U Ag ?_ | refine A0 (By (T U) (T U) U sizeOf187) U Ag ?_
    rintro _ _ ⟨rfl, rfl⟩
    refine Af (C8 U .nil ?_)
    have hv : visF k st (t, by1) = ⟨st.l ++ [t], st.w ++ [((k : Int), by1)]⟩ := if_neg c11
    refine ⟨_, ⟨(d', e'), ⟨by rw [hv]; simpa using hokd, by rw [hv]; simpa using hoke⟩, rfl⟩, ?_⟩
    rw [hv, bsHI_app]
    simp only [List.length_append, List.length_cons, List.length_nil, Nat.zero_add]
    exact sbt
  ·refine Br U (An (.cons (T U) .nil) (bs187_1_0 _ _)) ?_ U Ag
   rintro _ _ ⟨n22, rfl, rfl⟩
   refine ⟨sbt, (Bx (i := 2) (by kernel_rfl) (by kernel_rfl) ?_)⟩
   refine Br U (An (.cons (T U) .nil) (bs59_1_0 _ _)) ?_ U Ag
   rintro _ _ ⟨n16, rfl, rfl⟩
   refine ⟨sbt, (Bx (i := 3) (by kernel_rfl) (by kernel_rfl) ?_)⟩
   refine Br U (Bi (t) (by' := 16) (by repeat (first | exact LocL.h | apply LocL.t | apply LocL.a)) (T U) (T U) runUnderlying59 runUnderlying59 sizeOf74 typeInfo74 U zeroValue74 U (fun _ => rfl) U ho1 (by decide) (by omega)) ?_ U Ag
   rintro _ _ ⟨d', rfl, hokd, rfl⟩
   refine ⟨sbt, (Cj (by kernel_rfl) U ?_)⟩
   refine e_ (Bi (((k : Int), by1)) (by' := 16) (by repeat (first | exact LocL.h | apply LocL.t | apply LocL.a)) (T U) (T U) runUnderlying187 runUnderlying187 sizeOf186 typeInfo186 U zeroValue186 U (fun _ => rfl) U ho2 (by decide) (by omega)) ?_ U
   rintro _ _ ⟨e', rfl, hoke, rfl⟩
   first | refine A0 (As (T U) (T U) sizeOf59) U Ag ?_ | refine A0 (B6 (T U) (T U) U sizeOf59) U Ag ?_ | refine A0 (By (T U) (T U) U sizeOf59) U Ag ?_
   rintro _ _ ⟨rfl, rfl⟩
   first | refine A0 (As (T U) (T U) sizeOf187) U Ag ?_ | refine A0 (B6 (T U) (T U) U sizeOf187) U Ag ?_ | refine A0 (By (T U) (T U) U sizeOf187) U Ag ?_
   rintro _ _ ⟨rfl, rfl⟩
   refine Af (C8 U .nil ?_)
   have hv : visF k st (t, by1) = ⟨st.l ++ [t], st.w ++ [((k : Int), by1)]⟩ := if_neg c11
   refine ⟨_, ⟨(d', e'), ⟨by rw [hv]; simpa using hokd, by rw [hv]; simpa using hoke⟩, rfl⟩, ?_⟩
   rw [hv, bsHI_app]
   simp only [List.length_append, List.length_cons, List.length_nil, Nat.zero_add]
   exact sbt
 ·refine A9 (C8 U .nil ?_)
  have hv : visF k st (t, by1) = st := if_pos (Classical.not_not.1 c11)
  refine ⟨_, ⟨x, ⟨by rw [hv]; exact ho1, by rw [hv]; exact ho2⟩, rfl⟩, ?_⟩
  rw [hv, bsHI_app]
  exact sbt
def bsHS (n18 n9 n8 : Nat) (st : BS ByteArray) (x : Sl × Sl) : List (Nat × Obj) := (n18, mapO encPK encBv (trueM st.l)) :: (n9, Cl [slV x.2 st.w.length] 179) :: (n8, Cl [slV x.1 st.l.length] 176) :: (slH x.2 (st.w.flatMap encWS) 178 ++ slH x.1 (st.l.flatMap encPl) 115)
theorem bsHS_app (n18 n9 n8 : Nat) (st : BS ByteArray) (x : Sl × Sl) (R : List (Nat × Obj)) : bsHS n18 n9 n8 st x ++ R = (n18, mapO encPK encBv (trueM st.l)) :: (n9, Cl [slV x.2 st.w.length] 179) :: (n8, Cl [slV x.1 st.l.length] 176) :: (slH x.2 (st.w.flatMap encWS) 178 ++ (slH x.1 (st.l.flatMap encPl) 115 ++ R)) := by
 unfold bsHS; simp only [List.cons_append, List.append_assoc]
structure bsOkS (st : BS ByteArray) (x : Sl × Sl) : Prop where
 o1 : SlOk x.1 st.l.length 2
 o2 : SlOk x.2 st.w.length 2
theorem yl_seenS {w0 : World} {H : List (Nat × Obj)} {L : Fm} {x y : Operand} {ty : TypeId} {r : Nat} {l : List Pl} {p : Pl} {v : Value} (hx : Ev L x (.map (some r))) (hy : Ev L y v) (hv : v = encPK p) (hf : Fnd H r (mapO encPK encBv (trueM l))) :
  Yl Tryz.prog w0 (.lookup 180 x y false) ty L H (.bool (decide (p ∈ l))) := by
 have h := yl_lookupB (P := Tryz.prog) (w0 := w0) (ty := ty) (encB := encBv) U (keyP115 (V := Bool)) hx hy hv runUnderlying180 zeroValue4 hf
 rw [look_trueM] at h
 by_cases hm : p ∈ l
 ·rw [if_pos hm] at h; rw [decide_eq_true hm]; exact h
 ·rw [if_neg hm] at h; rw [decide_eq_false hm]; exact h
theorem visS_s {w0 : World} {H : List (Nat × Obj)} (n18 n9 n8 n10 n11 k : Nat) (st : BS ByteArray) (x : Sl × Sl) (t : Pl) (by1 : ByteArray) (hx : bsOkS st x) (hl : st.l.length ≤ 100000) (hw : st.w.length = st.l.length) (h10 : Fnd H n10 (Cl [.map (some n18)] 180)) (h11 : Fnd H n11 (Cl [.int .i64 (k : Int)] 3)) :
  FSpec Tryz.prog w0 120 #[.agg (encPl t).toArray, .string by1, .pointer (some ⟨n10, 0, none⟩), .pointer (some ⟨n8, 0, none⟩), .pointer (some ⟨n9, 0, none⟩), .pointer (some ⟨n11, 0, none⟩)] (bsHS n18 n9 n8 st x ++ H) (fun _ H' => ∃ y, bsOkS (visF k st (t, by1)) y ∧ H' = bsHS n18 n9 n8 (visF k st (t, by1)) y ++ H) := by
 obtain ⟨ho1, ho2⟩ := hx
 rw [bsHS_app]
 refine A7 Tryz.func120 U ntmps120 U (Ah (Ab (e_ (Bf (T U) cs_) ?_ U)))
 rintro _ _ ⟨n6, rfl, rfl⟩
 refine Af (Ac (Ah (Ab ?_)))
 refine y_ (Ai (T U) isAgg180 (by first | exact c_o | exact c_o (hf := by repeat (first | exact h10 | refine Al ?_ | refine Ar ?_)) | exact c_o (hf := Al (Al (Al (Al (Ar (Ar h10)))))) | exact c_o (hf := Al (Al (Al (Al (Ar (Ar h11)))))))) ?_ U
 refine y_ (Am (T U) isAgg115 sizeOf115 U (by first | exact Bc | exact c_o (hf := Al (Al (Al (Al (Ar (Ar h10)))))) | exact c_o (hf := Al (Al (Al (Al (Ar (Ar h11)))))))) ?_ U
 refine y_ (yl_seenS (l := st.l) (p := t) (T U) (T U) U fdd) ?_ U
 first | refine Bg (Ct (T U)) U Ag ?_ | refine Bg (C2 (T U)) U Ag ?_
 refine Af (Ac ?_)
 first | refine Au (Aa U) (fun c11 => ?_) (fun c11 => ?_) | refine Bb (Aa U) (fun c11 => ?_) (fun c11 => ?_)
 ·refine Ah (Ab ?_)
  refine y_ (Ai (T U) isAgg180 (by first | exact c_o | exact c_o (hf := by repeat (first | exact h10 | refine Al ?_ | refine Ar ?_)) | exact c_o (hf := Al (Al (Al (Al (Ar (Ar h10)))))) | exact c_o (hf := Al (Al (Al (Al (Ar (Ar h11)))))))) ?_ U
  refine y_ (Am (T U) isAgg115 sizeOf115 U (by first | exact Bc | exact c_o (hf := Al (Al (Al (Al (Ar (Ar h10)))))) | exact c_o (hf := Al (Al (Al (Al (Ar (Ar h11)))))))) ?_ U
  refine e_ (eff_mapUpdate (l := trueM st.l) (encV := encBv) t true (keyP115 (V := Bool)) (T U) (T U) U Ak U runUnderlying180) ?_ U
  rintro _ _ ⟨rfl, rfl⟩
  rw [upsert_trueM c11]
  refine Af (Ac (j_anyX 9 _ mixd (by kernel_rfl) (show List.Sublist ((n6, Cl (encPl t) 115) :: (n18, _) :: (n9, Cl [slV x.2 st.w.length] 179) :: (n8, Cl [slV x.1 st.l.length] 176) :: H) _ from by repeat (first | exact List.Sublist.refl _ | apply List.Sublist.cons_cons | exact sbt)) ?_))
  refine x_y (i := 0) U (by kernel_rfl) (Ai (T U) isAgg176 (by first | exact c_o | exact c_o (hf := Al (Al (Al (Al (Ar (Ar h10)))))) | exact c_o (hf := Al (Al (Al (Al (Ar (Ar h11)))))))) ?_ U Ag
  refine x_y (i := 1) U (by kernel_rfl) (Am (T U) isAgg115 sizeOf115 U (by first | exact Bc | exact c_o (hf := Al (Al (Al (Al (Ar (Ar h10)))))) | exact c_o (hf := Al (Al (Al (Al (Ar (Ar h11)))))))) ?_ U Ag
  refine x_y (i := 4) U (by kernel_rfl) (Ai (T U) isAgg179 (by first | exact c_o | exact c_o (hf := Al (Al (Al (Al (Ar (Ar h10)))))) | exact c_o (hf := Al (Al (Al (Al (Ar (Ar h11)))))))) ?_ U Ag
  refine x_y (i := 5) U (by kernel_rfl) (Ai (T U) isAgg3 (by first | exact c_o | exact c_o (hf := by repeat (first | exact h11 | refine Al ?_ | refine Ar ?_)) | exact c_o (hf := Al (Al (Al (Al (Ar (Ar h10)))))) | exact c_o (hf := Al (Al (Al (Al (Ar (Ar h11)))))))) ?_ U Ag
  refine x_y (i := 6) U (by kernel_rfl) (Ae (T U)) ?_ U Ag
  refine x_y (i := 7) U (by kernel_rfl) (Bq (.cons (T U) (.cons (T U) .nil)) (bd178_0_1 _ _)) ?_ U Ag
  refine C5 (i := 2) (j := 8) (by kernel_rfl) (by kernel_rfl) ?_ ?_
  ·refine Br U (An (.cons (T U) .nil) (bs176_1_0 _ _)) ?_ U Ag
   rintro _ _ ⟨n16, rfl, rfl⟩
   refine ⟨sbt, ?_⟩
   refine C5 (i := 3) (j := 8) (by kernel_rfl) (by kernel_rfl) ?_ ?_
   ·refine Br U (Bi (t) (by' := 16) (by repeat (first | exact LocL.h | apply LocL.t | apply LocL.a)) (T U) (T U) runUnderlying176 runUnderlying176 sizeOf115 typeInfo115 U zeroValue115 U (fun _ => rfl) U ho1 (by decide) (by omega)) ?_ U Ag
    rintro _ _ ⟨d', rfl, hokd, rfl⟩
    refine ⟨sbt, (Bx (i := 8) (by kernel_rfl) (by kernel_rfl) ?_)⟩
    refine Br U (An (.cons (T U) .nil) (bs179_1_0 _ _)) ?_ U Ag
    rintro _ _ ⟨n22, rfl, rfl⟩
    refine ⟨sbt, (Cj (by kernel_rfl) U ?_)⟩
    refine e_ (Bi (((k : Int), by1)) (by' := 24) (by repeat (first | exact LocL.h | apply LocL.t | apply LocL.a)) (T U) (T U) runUnderlying179 runUnderlying179 sizeOf178 typeInfo178 U zeroValue178 U (fun _ => rfl) U ho2 (by decide) (by omega)) ?_ U
    rintro _ _ ⟨e', rfl, hoke, rfl⟩
    first | refine A0 (As (T U) (T U) sizeOf176) U Ag ?_ | refine A0 (B6 (T U) (T U) U sizeOf176) U Ag ?_ | refine A0 (By (T U) (T U) U sizeOf176) U Ag ?_
    rintro _ _ ⟨rfl, rfl⟩
    first | refine A0 (As (T U) (T U) sizeOf179) U Ag ?_ | refine A0 (B6 (T U) (T U) U sizeOf179) U Ag ?_ | refine A0 (By (T U) (T U) U sizeOf179) U Ag ?_
    rintro _ _ ⟨rfl, rfl⟩
    refine Af (C8 U .nil ?_)
    have hv : visF k st (t, by1) = ⟨st.l ++ [t], st.w ++ [((k : Int), by1)]⟩ := if_neg c11
    refine ⟨_, ⟨(d', e'), ⟨by rw [hv]; simpa using hokd, by rw [hv]; simpa using hoke⟩, rfl⟩, ?_⟩
    rw [hv, bsHS_app]
    simp only [List.length_append, List.length_cons, List.length_nil, Nat.zero_add]
    exact sbt
   ·refine Br U (An (.cons (T U) .nil) (bs179_1_0 _ _)) ?_ U Ag
    rintro _ _ ⟨n22, rfl, rfl⟩
    refine ⟨sbt, (Bx (i := 3) (by kernel_rfl) (by kernel_rfl) ?_)⟩
    refine Br U (Bi (t) (by' := 16) (by repeat (first | exact LocL.h | apply LocL.t | apply LocL.a)) (T U) (T U) runUnderlying176 runUnderlying176 sizeOf115 typeInfo115 U zeroValue115 U (fun _ => rfl) U ho1 (by decide) (by omega)) ?_ U Ag
    rintro _ _ ⟨d', rfl, hokd, rfl⟩
    refine ⟨sbt, (Cj (by kernel_rfl) U ?_)⟩
    refine e_ (Bi (((k : Int), by1)) (by' := 24) (by repeat (first | exact LocL.h | apply LocL.t | apply LocL.a)) (T U) (T U) runUnderlying179 runUnderlying179 sizeOf178 typeInfo178 U zeroValue178 U (fun _ => rfl) U ho2 (by decide) (by omega)) ?_ U
    rintro _ _ ⟨e', rfl, hoke, rfl⟩
    first | refine A0 (As (T U) (T U) sizeOf176) U Ag ?_ | refine A0 (B6 (T U) (T U) U sizeOf176) U Ag ?_ | refine A0 (By (T U) (T U) U sizeOf176) U Ag ?_
    rintro _ _ ⟨rfl, rfl⟩
    first | refine A0 (As (T U) (T U) sizeOf179) U Ag ?_ | refine A0 (B6 (T U) (T U) U sizeOf179) U Ag ?_ | refine A0 (By (T U) (T U) U sizeOf179) U Ag ?_
    rintro _ _ ⟨rfl, rfl⟩
    refine Af (C8 U .nil ?_)
    have hv : visF k st (t, by1) = ⟨st.l ++ [t], st.w ++ [((k : Int), by1)]⟩ := if_neg c11
    refine ⟨_, ⟨(d', e'), ⟨by rw [hv]; simpa using hokd, by rw [hv]; simpa using hoke⟩, rfl⟩, ?_⟩
    rw [hv, bsHS_app]
    simp only [List.length_append, List.length_cons, List.length_nil, Nat.zero_add]
    exact sbt
  ·refine Br U (An (.cons (T U) .nil) (bs179_1_0 _ _)) ?_ U Ag
   rintro _ _ ⟨n22, rfl, rfl⟩
   refine ⟨sbt, (Bx (i := 2) (by kernel_rfl) (by kernel_rfl) ?_)⟩
   refine Br U (An (.cons (T U) .nil) (bs176_1_0 _ _)) ?_ U Ag
   rintro _ _ ⟨n16, rfl, rfl⟩
   refine ⟨sbt, (Bx (i := 3) (by kernel_rfl) (by kernel_rfl) ?_)⟩
   refine Br U (Bi (t) (by' := 16) (by repeat (first | exact LocL.h | apply LocL.t | apply LocL.a)) (T U) (T U) runUnderlying176 runUnderlying176 sizeOf115 typeInfo115 U zeroValue115 U (fun _ => rfl) U ho1 (by decide) (by omega)) ?_ U Ag
   rintro _ _ ⟨d', rfl, hokd, rfl⟩
   refine ⟨sbt, (Cj (by kernel_rfl) U ?_)⟩
   refine e_ (Bi (((k : Int), by1)) (by' := 24) (by repeat (first | exact LocL.h | apply LocL.t | apply LocL.a)) (T U) (T U) runUnderlying179 runUnderlying179 sizeOf178 typeInfo178 U zeroValue178 U (fun _ => rfl) U ho2 (by decide) (by omega)) ?_ U
   rintro _ _ ⟨e', rfl, hoke, rfl⟩
   first | refine A0 (As (T U) (T U) sizeOf176) U Ag ?_ | refine A0 (B6 (T U) (T U) U sizeOf176) U Ag ?_ | refine A0 (By (T U) (T U) U sizeOf176) U Ag ?_
   rintro _ _ ⟨rfl, rfl⟩
   first | refine A0 (As (T U) (T U) sizeOf179) U Ag ?_ | refine A0 (B6 (T U) (T U) U sizeOf179) U Ag ?_ | refine A0 (By (T U) (T U) U sizeOf179) U Ag ?_
   rintro _ _ ⟨rfl, rfl⟩
   refine Af (C8 U .nil ?_)
   have hv : visF k st (t, by1) = ⟨st.l ++ [t], st.w ++ [((k : Int), by1)]⟩ := if_neg c11
   refine ⟨_, ⟨(d', e'), ⟨by rw [hv]; simpa using hokd, by rw [hv]; simpa using hoke⟩, rfl⟩, ?_⟩
   rw [hv, bsHS_app]
   simp only [List.length_append, List.length_cons, List.length_nil, Nat.zero_add]
   exact sbt
 ·refine A9 (C8 U .nil ?_)
  have hv : visF k st (t, by1) = st := if_pos (Classical.not_not.1 c11)
  refine ⟨_, ⟨x, ⟨by rw [hv]; exact ho1, by rw [hv]; exact ho2⟩, rfl⟩, ?_⟩
  rw [hv, bsHS_app]
  exact sbt
end Go.Proofs.YtkdolgnpkjihpaaGreatDoor
namespace Go.Proofs.YtkdolgnpkjihpaaGreatDoor
open _root_.Go.Proofs.Tryz
open Go.RowKit
set_option linter.unusedVariables false
set_option linter.unusedSimpArgs false
def RevAt {α : Type} [Inhabited α] (l l' : List α) (i : Nat) : Prop := l'.length = l.length ∧ ∀ j, j < l.length → gd l' j = if j < i ∨ l.length - i ≤ j then gd l (l.length - 1 - j) else gd l j
theorem gd_setA {α : Type} [Inhabited α] {b : List α} {j x : Nat} {v : α} (hx : x < b.length) : gd (b.set j v) x = if x = j then v else gd b x := by
 rw [Bj (by simpa using hx), List.getElem_set, Bj hx]
 by_cases h : j = x
 ·subst h; simp
 ·rw [if_neg h, if_neg (fun e => h e.symm)]
theorem RevAt.step {α : Type} [Inhabited α] {l l' : List α} {i : Nat} (h : RevAt l l' i) (hi : i < l.length - 1 - i) : RevAt l ((l'.set i (gd l' (l.length - 1 - i))).set (l.length - 1 - i) (gd l' i)) (i + 1) := by
 obtain ⟨h1, h2⟩ := h
 refine ⟨by simp [h1], fun j hj => ?_⟩
 rw [gd_setA (by simp; omega), gd_setA (by omega)]
 by_cases e1 : j = l.length - 1 - i
 ·rw [if_pos e1, if_pos (by omega), h2 i (by omega), if_neg (by omega), e1]
  congr 1; omega
 ·rw [if_neg e1]
  by_cases e2 : j = i
  ·rw [if_pos e2, if_pos (by omega), h2 _ (by omega), if_neg (by omega), e2]
  ·rw [if_neg e2, h2 j hj]
   by_cases e3 : j < i ∨ l.length - i ≤ j
   ·rw [if_pos e3, if_pos (by omega)]
   ·rw [if_neg e3, if_neg (by omega)]
theorem RevAt.done {α : Type} [Inhabited α] {l l' : List α} {i : Nat} (h : RevAt l l' i) (hi : ¬ (i : Int) < (l.length : Int) - 1 - i) : l' = l.reverse := by
 obtain ⟨h1, h2⟩ := h
 apply List.ext_getElem (by simp [h1])
 intro j hj1 hj2
 have hj : j < l.length := by omega
 have h3 := h2 j hj
 rw [Bj hj1] at h3
 rw [h3, List.getElem_reverse]
 split
 ·rw [Bj (by omega)]
 ·rw [Bj hj]; congr 1; omega
theorem revI_s {w0 : World} {H : List (Nat × Obj)} (d : Sl) (l : List Nat) (hd : SlOk d l.length 1) (hl : l.length ≤ 100000) :
  FSpec Tryz.prog w0 125 #[slV d l.length] (slH d (l.flatMap encU) 3 ++ H) (fun v H' => v = .tuple #[] ∧ H' = slH d (l.reverse.flatMap encU) 3 ++ H) := by
 refine A7 Tryz.func125 U ntmps125 U (Ah (Ab (y_ (Ae (T U)) (y_ (Bw (T U) runUnderlying42) (y_ (yl_sub (T U) Ak (by omega)) ?_ U) U) U)))
 refine y_ (Ad Ak) (y_ (Ad (T U)) (Af (Ac (A2 ?_))) U) U
 refine Cn (X := Nat × List Nat) (V := fun ⟨i, cur⟩ => [(2, .int .i64 (i : Nat)), (3, .int .i64 ((l.length : Int) - 1 - (i : Int)))]) (C := [(0, _)]) (G := fun ⟨i, cur⟩ => slH d (cur.flatMap encU) 3 ++ H) (φ := fun ⟨i, cur⟩ => RevAt l cur i ∧ SlOk d cur.length 1 ∧ i ≤ l.length) (μ := fun ⟨i, cur⟩ => l.length - i) (x0 := (0, l)) ?_ ⟨Aa rfl, trivial⟩ ⟨atd, atd, trivial⟩ sb0 ?_
 ·exact ⟨⟨rfl, fun j hj => by rw [if_neg (by omega)]⟩, hd, Nat.zero_le _⟩
 rintro ⟨i, cur⟩ ⟨hr, hdc, hil⟩
 refine Ah (Ah (Ab (y_ (Ae (T U)) (y_ (Ae (T U)) (y_ (B4 (T U) (T U)) (Af (Ac ?_)) U) U) U)))
 first | refine Au (Aa U) (fun c9 => ?_) (fun c9 => ?_) | refine Bb (Aa U) (fun c9 => ?_) (fun c9 => ?_)
 ·have hij : i < l.length - 1 - i := by omega
  obtain ⟨hcl, hcg⟩ := hr
  have hjj : (l.length : Int) - 1 - (i : Int) = ((l.length - 1 - i : Nat) : Int) := by omega
  simp only [hjj]
  refine A9 (Ac (Ah (A2 (j_anyW 13 15 (H) (slH d (cur.flatMap encU) 3 ++ H) mixd (by kernel_rfl) (List.sublist_append_right _ _) (List.Sublist.refl _) ?_))))
  refine Cu [0] (by kernel_rfl) U (i := 0) U (by kernel_rfl) (Ae (T U)) ?_ U Ag
  refine Cu [1] (by kernel_rfl) U (i := 1) U (by kernel_rfl) (Ae (T U)) ?_ U Ag
  refine w_y (i := 2) U (by kernel_rfl) (Ae (T U)) ?_ U Ag
  refine w_y (i := 3) U (by kernel_rfl) (Ae (T U)) ?_ U Ag
  refine Cu [4] (by kernel_rfl) U (i := 4) U (by kernel_rfl) (Ae (T U)) ?_ U Ag
  refine Cu [5] (by kernel_rfl) U (i := 5) U (by kernel_rfl) (Ae (T U)) ?_ U Ag
  refine Cu [6] (by kernel_rfl) U (i := 6) U (by kernel_rfl) (Bh (T U) (T U) runUnderlying42 sizeOf3 (by omega) (by first | exact rfl | exact hdc.bas (by omega) | exact SlOk.bas hd (by omega))) ?_ U Ag
  refine Cu [7] (by kernel_rfl) U (i := 7) U (by kernel_rfl) (Ai (T U) isAgg3 (by first | exact c_o | exact cell1 (((Bz (X := H) (enc := encU) (sz := 1) (e := 3) (l := cur) (fun _ => rfl) hdc).mono sbt).cs (i := (l.length - 1 - i)) (by omega)))) ?_ U Ag
  refine Cu [11, 10, 8] (by kernel_rfl) U (i := 8) U (by kernel_rfl) (Ae (T U)) ?_ U Ag
  refine Cu [11, 10, 9] (by kernel_rfl) U (i := 9) U (by kernel_rfl) (Ae (T U)) ?_ U Ag
  refine Cu [11, 10] (by kernel_rfl) U (i := 10) U (by kernel_rfl) (Bh (T U) (T U) runUnderlying42 sizeOf3 (by omega) (by first | exact rfl | exact hdc.bas (by omega) | exact SlOk.bas hd (by omega))) ?_ U Ag
  refine Cu [11] (by kernel_rfl) U (i := 11) U (by kernel_rfl) (Ai (T U) isAgg3 (by first | exact c_o | exact cell1 (((Bz (X := H) (enc := encU) (sz := 1) (e := 3) (l := cur) (fun _ => rfl) hdc).mono sbt).cs (i := i) (by omega)))) ?_ U Ag
  refine Cu [12] (by kernel_rfl) U (i := 12) U (by kernel_rfl) (Bh (T U) (T U) runUnderlying42 sizeOf3 (by omega) (by first | exact rfl | exact hdc.bas (by omega) | exact SlOk.bas hd (by omega))) ?_ U Ag
  refine Df (i := 13) (by kernel_rfl) (by kernel_rfl) ?_
  refine Dy U (eff_sElem (l := cur) (e := 3) (enc := encU) (sz := 1) (i := i) (gd cur (l.length - 1 - i)) (fun _ => rfl) LocL.h (T U) (T U) (.one U) U sizeOf3 (by omega) hdc) ?_ U Ag (by kernel_rfl)
  rintro _ _ ⟨rfl, rfl⟩
  refine ⟨sbt, (w_y (i := 14) U (by kernel_rfl) (Bh (T U) (T U) runUnderlying42 sizeOf3 (by omega) (by first | exact rfl | exact hdc.bas (by omega) | exact SlOk.bas hd (by omega))) ?_ U Ag)⟩
  refine w_nil (by kernel_rfl) U ?_
  refine e_ (eff_sElem (l := cur.set i (gd cur (l.length - 1 - i))) (e := 3) (enc := encU) (sz := 1) (i := (l.length - 1 - i)) (gd cur i) (fun _ => rfl) LocL.h (T U) (T U) (.one U) U sizeOf3 (by simp; omega) (by simpa using hdc)) ?_ U
  rintro _ _ ⟨rfl, rfl⟩
  refine Af (Bm (Ac (Ab (y_ (Ae (T U)) (y_ (Bv (T U) Ak (by omega)) ?_ U) U))))
  refine y_ (Ae (T U)) (y_ (yl_sub (T U) Ak (by omega)) ?_ U) U
  refine y_ (Ad (T U)) (y_ (Ad (T U)) (Af ?_) U) U
  refine Bs ((i + 1, (cur.set i (gd cur (l.length - 1 - i))).set (l.length - 1 - i) (gd cur i))) ?_ ?_ ⟨atd, atd, trivial⟩ ⟨Aa U, trivial⟩ ?_
  ·exact ⟨RevAt.step ⟨hcl, hcg⟩ hij, by simpa using hdc, by omega⟩
  ·first | omega | (simp only []; omega)
  ·exact sbt
 ·have hfin := hr.done (by omega)
  refine B7 (A4 (A8 (Ba (C8 U .nil ?_))))
  rw [← hfin]; exact ⟨_, ⟨rfl, rfl⟩, sbt⟩
theorem revS_s {w0 : World} {H : List (Nat × Obj)} (d : Sl) (l : List ByteArray) (hd : SlOk d l.length 1) (hl : l.length ≤ 100000) :
  FSpec Tryz.prog w0 119 #[slV d l.length] (slH d (l.flatMap encS) 9 ++ H) (fun v H' => v = .tuple #[] ∧ H' = slH d (l.reverse.flatMap encS) 9 ++ H) := by
 refine A7 Tryz.func119 U ntmps119 U (Ah (Ab (y_ (Ae (T U)) (y_ (Bw (T U) runUnderlying25) (y_ (yl_sub (T U) Ak (by omega)) ?_ U) U) U)))
 refine y_ (Ad Ak) (y_ (Ad (T U)) (Af (Ac (A2 ?_))) U) U
 refine Cn (X := Nat × List ByteArray) (V := fun ⟨i, cur⟩ => [(2, .int .i64 (i : Nat)), (3, .int .i64 ((l.length : Int) - 1 - (i : Int)))]) (C := [(0, _)]) (G := fun ⟨i, cur⟩ => slH d (cur.flatMap encS) 9 ++ H) (φ := fun ⟨i, cur⟩ => RevAt l cur i ∧ SlOk d cur.length 1 ∧ i ≤ l.length) (μ := fun ⟨i, cur⟩ => l.length - i) (x0 := (0, l)) ?_ ⟨Aa rfl, trivial⟩ ⟨atd, atd, trivial⟩ sb0 ?_
 ·exact ⟨⟨rfl, fun j hj => by rw [if_neg (by omega)]⟩, hd, Nat.zero_le _⟩
 rintro ⟨i, cur⟩ ⟨hr, hdc, hil⟩
 refine Ah (Ah (Ab (y_ (Ae (T U)) (y_ (Ae (T U)) (y_ (B4 (T U) (T U)) (Af (Ac ?_)) U) U) U)))
 first | refine Au (Aa U) (fun c9 => ?_) (fun c9 => ?_) | refine Bb (Aa U) (fun c9 => ?_) (fun c9 => ?_)
 ·have hij : i < l.length - 1 - i := by omega
  obtain ⟨hcl, hcg⟩ := hr
  have hjj : (l.length : Int) - 1 - (i : Int) = ((l.length - 1 - i : Nat) : Int) := by omega
  simp only [hjj]
  refine A9 (Ac (Ah (A2 (j_anyW 13 15 (H) (slH d (cur.flatMap encS) 9 ++ H) mixd (by kernel_rfl) (List.sublist_append_right _ _) (List.Sublist.refl _) ?_))))
  refine Cu [0] (by kernel_rfl) U (i := 0) U (by kernel_rfl) (Ae (T U)) ?_ U Ag
  refine Cu [1] (by kernel_rfl) U (i := 1) U (by kernel_rfl) (Ae (T U)) ?_ U Ag
  refine w_y (i := 2) U (by kernel_rfl) (Ae (T U)) ?_ U Ag
  refine w_y (i := 3) U (by kernel_rfl) (Ae (T U)) ?_ U Ag
  refine Cu [4] (by kernel_rfl) U (i := 4) U (by kernel_rfl) (Ae (T U)) ?_ U Ag
  refine Cu [5] (by kernel_rfl) U (i := 5) U (by kernel_rfl) (Ae (T U)) ?_ U Ag
  refine Cu [6] (by kernel_rfl) U (i := 6) U (by kernel_rfl) (Bh (T U) (T U) runUnderlying25 sizeOf9 (by omega) (by first | exact rfl | exact hdc.bas (by omega) | exact SlOk.bas hd (by omega))) ?_ U Ag
  refine Cu [7] (by kernel_rfl) U (i := 7) U (by kernel_rfl) (Ai (T U) isAgg9 (by first | exact c_o | exact cell1 (((Bz (X := H) (enc := encS) (sz := 1) (e := 9) (l := cur) (fun _ => rfl) hdc).mono sbt).cs (i := (l.length - 1 - i)) (by omega)))) ?_ U Ag
  refine Cu [11, 10, 8] (by kernel_rfl) U (i := 8) U (by kernel_rfl) (Ae (T U)) ?_ U Ag
  refine Cu [11, 10, 9] (by kernel_rfl) U (i := 9) U (by kernel_rfl) (Ae (T U)) ?_ U Ag
  refine Cu [11, 10] (by kernel_rfl) U (i := 10) U (by kernel_rfl) (Bh (T U) (T U) runUnderlying25 sizeOf9 (by omega) (by first | exact rfl | exact hdc.bas (by omega) | exact SlOk.bas hd (by omega))) ?_ U Ag
  refine Cu [11] (by kernel_rfl) U (i := 11) U (by kernel_rfl) (Ai (T U) isAgg9 (by first | exact c_o | exact cell1 (((Bz (X := H) (enc := encS) (sz := 1) (e := 9) (l := cur) (fun _ => rfl) hdc).mono sbt).cs (i := i) (by omega)))) ?_ U Ag
  refine Cu [12] (by kernel_rfl) U (i := 12) U (by kernel_rfl) (Bh (T U) (T U) runUnderlying25 sizeOf9 (by omega) (by first | exact rfl | exact hdc.bas (by omega) | exact SlOk.bas hd (by omega))) ?_ U Ag
  refine Df (i := 13) (by kernel_rfl) (by kernel_rfl) ?_
  refine Dy U (eff_sElem (l := cur) (e := 9) (enc := encS) (sz := 1) (i := i) (gd cur (l.length - 1 - i)) (fun _ => rfl) LocL.h (T U) (T U) (.one U) U sizeOf9 (by omega) hdc) ?_ U Ag (by kernel_rfl)
  rintro _ _ ⟨rfl, rfl⟩
  refine ⟨sbt, (w_y (i := 14) U (by kernel_rfl) (Bh (T U) (T U) runUnderlying25 sizeOf9 (by omega) (by first | exact rfl | exact hdc.bas (by omega) | exact SlOk.bas hd (by omega))) ?_ U Ag)⟩
  refine w_nil (by kernel_rfl) U ?_
  refine e_ (eff_sElem (l := cur.set i (gd cur (l.length - 1 - i))) (e := 9) (enc := encS) (sz := 1) (i := (l.length - 1 - i)) (gd cur i) (fun _ => rfl) LocL.h (T U) (T U) (.one U) U sizeOf9 (by simp; omega) (by simpa using hdc)) ?_ U
  rintro _ _ ⟨rfl, rfl⟩
  refine Af (Bm (Ac (Ab (y_ (Ae (T U)) (y_ (Bv (T U) Ak (by omega)) ?_ U) U))))
  refine y_ (Ae (T U)) (y_ (yl_sub (T U) Ak (by omega)) ?_ U) U
  refine y_ (Ad (T U)) (y_ (Ad (T U)) (Af ?_) U) U
  refine Bs ((i + 1, (cur.set i (gd cur (l.length - 1 - i))).set (l.length - 1 - i) (gd cur i))) ?_ ?_ ⟨atd, atd, trivial⟩ ⟨Aa U, trivial⟩ ?_
  ·exact ⟨RevAt.step ⟨hcl, hcg⟩ hij, by simpa using hdc, by omega⟩
  ·first | omega | (simp only []; omega)
  ·exact sbt
 ·have hfin := hr.done (by omega)
  refine B7 (A4 (A8 (Ba (C8 U .nil ?_))))
  rw [← hfin]; exact ⟨_, ⟨rfl, rfl⟩, sbt⟩
end Go.Proofs.YtkdolgnpkjihpaaGreatDoor
namespace Go.Proofs.YtkdolgnpkjihpaaGreatDoor
open _root_.Go.Proofs.Tryz
open Go.RowKit
set_option linter.unusedVariables false
set_option linter.unusedSimpArgs false
theorem bd178_0 (a0 : Int) (w : World) : (Instr.build 178 #[(0, .int .i64 a0)]).run Tryz.prog w = .ok (.agg #[.int .i64 a0, .string ⟨#[]⟩]) w := by kernel_rfl
theorem bd186_0 (a0 : Int) (w : World) : (Instr.build 186 #[(0, .int .i64 a0)]).run Tryz.prog w = .ok (.agg #[.int .i64 a0, .int .i64 0]) w := by kernel_rfl
theorem fa178_0 (b o : Nat) (w : World) : (Instr.fieldAt 178 (.pointer (some ⟨b, o, none⟩)) 0).run Tryz.prog w = .ok (.pointer (some ⟨b, o, none⟩)) w := by kernel_rfl
theorem fa178_1 (b o : Nat) (w : World) : (Instr.fieldAt 178 (.pointer (some ⟨b, o, none⟩)) 1).run Tryz.prog w = .ok (.pointer (some ⟨b, o + 1, none⟩)) w := by kernel_rfl
theorem fa186_0 (b o : Nat) (w : World) : (Instr.fieldAt 186 (.pointer (some ⟨b, o, none⟩)) 0).run Tryz.prog w = .ok (.pointer (some ⟨b, o, none⟩)) w := by kernel_rfl
theorem fa186_1 (b o : Nat) (w : World) : (Instr.fieldAt 186 (.pointer (some ⟨b, o, none⟩)) 1).run Tryz.prog w = .ok (.pointer (some ⟨b, o + 1, none⟩)) w := by kernel_rfl
theorem backF_fuel {σ : Type} [Inhabited σ] {w : List (Int × σ)} (hw : ∀ i, i < w.length → -1 ≤ (gd w i).1 ∧ (gd w i).1 < i) : ∀ (f i : Nat), i < f → i < w.length → backF w f i = backF w (i + 1) i
 | 0, i, h, _ => absurd h (Nat.not_lt_zero _)
 | f + 1, i, h, hi => by
  rw [backF_succ, backF_succ]
  split
  ·rename_i h0
   have h1 := (hw i hi).2
   have h2 : (gd w i).1.toNat < i := by omega
   rw [backF_fuel hw f _ (by omega) (by omega), backF_fuel hw i _ (by omega) (by omega)]
  ·rfl
def srF {σ : Type} [Inhabited σ] (ts : Pl → List (Pl × σ)) (fnd : Pl → Bool) (N : Nat) (p0 : Pl) : List σ × Bool × List Pl :=
 match goF ts fnd (N + 1) 0 ⟨[p0], [(-1, default)]⟩ with
 | (some k, st) => ((backF st.w (k + 1) k).reverse, true, st.l.take (k + 1))
 | (none, st) => ([], false, st.l)
theorem visAll_pre {σ : Type} {k m : Nat} : ∀ (ts : List (Pl × σ)) (st : BS σ), m ≤ st.l.length → (visAll k st ts).l.take m = st.l.take m
 | [], st, h => rfl
 | x :: ts, st, h => by
  show (visAll k (visF k st x) ts).l.take m = _
  rw [visAll_pre ts _ (by
   unfold visF; split
   ·exact h
   ·simp; omega)]
  unfold visF; split
  ·rfl
  ·rw [List.take_append_of_le_length h]
theorem bs_start {σ : Type} [Inhabited σ] {Pd : Pl → Prop} {p0 : Pl} (h : Pd p0) : BSok Pd 0 (⟨[p0], [(-1, default)]⟩ : BS σ) := by
 refine ⟨by simp, fun p hp => ?_, rfl, fun i hi => ?_, Nat.zero_le _⟩
 ·simp only [List.mem_cons, List.not_mem_nil, or_false] at hp
  rw [hp]; exact h
 ·have : i = 0 := by simpa using hi
  subst this
  exact ⟨Int.le_refl _, by show (-1 : Int) < 0; decide⟩
def FoundS (w0 : World) (H0 : List (Nat × Obj)) (ff : FuncId) (fcap : List Value) (Pd : Pl → Prop) (fnd : Pl → Bool) (G : List Pl → List (Nat × Obj) → Prop) : Prop :=
 ∀ (p : Pl), Pd p → ∀ (q : List Pl) (M H : List (Nat × Obj)), H0.Sublist H → q.length ≤ 50000 → G q M → FSpec Tryz.prog w0 ff (.agg (encPl p).toArray :: fcap).toArray (M ++ H) (fun v H' => ∃ M2, (v = .bool (fnd p) ∧ G (q ++ [p]) M2) ∧ H' = M2 ++ H)
def Enters (f : FuncId) : Prop := ∀ args w, (callFunc f args).run Tryz.prog w = .ok (.enter f args) w
def NextI (w0 : World) (H0 : List (Nat × Obj)) (nf : FuncId) (ncap : List Value) (Pd : Pl → Prop) (ts : Pl → List (Pl × Nat)) : Prop :=
 ∀ (p : Pl), Pd p → ∀ (vf : FuncId) (vcap : List Value) (S : Nat → List (Nat × Obj) → Prop) (M H : List (Nat × Obj)), H0.Sublist H → Enters vf → S 0 M →
  (∀ j x M1 H1, (ts p)[j]? = some x → H.Sublist H1 → S j M1 → FSpec Tryz.prog w0 vf (.agg (encPl x.1).toArray :: .int .i64 (x.2 : Int) :: vcap).toArray (M1 ++ H1) (fun _ H' => ∃ M2, S (j + 1) M2 ∧ H' = M2 ++ H1)) →
  FSpec Tryz.prog w0 nf (.agg (encPl p).toArray :: .func (.func vf) #[] vcap.toArray :: ncap).toArray (M ++ H) (fun _ H' => ∃ M2, S (ts p).length M2 ∧ H' = M2 ++ H)
theorem vspI {w0 : World} {R : List (Nat × Obj)} {Pd : Pl → Prop} {ts : List (Pl × Nat)} {n18 n9 n8 n10 n11 k : Nat} {st : BS Nat} (hb : BSok Pd k st) (hk : k < st.l.length) (ht : ∀ x ∈ ts, Pd x.1) {N : Nat} (hN : ∀ l : List Pl, l.Nodup → (∀ p ∈ l, Pd p) → l.length ≤ N) (hN2 : N ≤ 100000) (h10 : Fnd R n10 (Cl [.map (some n18)] 72)) (h11 : Fnd R n11 (Cl [.int .i64 (k : Int)] 3)) :
  ∀ j x M1 H1, ts[j]? = some x → R.Sublist H1 → (∃ y, bsOkI (visAll k st (ts.take j)) y ∧ M1 = bsHI n18 n9 n8 (visAll k st (ts.take j)) y) →
   FSpec Tryz.prog w0 126 (.agg (encPl x.1).toArray :: .int .i64 (x.2 : Int) :: [.pointer (some ⟨n10, 0, none⟩), .pointer (some ⟨n8, 0, none⟩), .pointer (some ⟨n9, 0, none⟩), .pointer (some ⟨n11, 0, none⟩)]).toArray (M1 ++ H1) (fun _ H' => ∃ M2, (∃ y, bsOkI (visAll k st (ts.take (j + 1))) y ∧ M2 = bsHI n18 n9 n8 (visAll k st (ts.take (j + 1))) y) ∧ H' = M2 ++ H1) := by
 rintro j x M1 H1 hj hs ⟨y, hy, rfl⟩
 have h1 := (hb.visAll (k' := k) (ts.take j) hk (fun z hz => ht z (List.mem_of_mem_take hz))).1
 have h2 := hN _ h1.nd h1.ok
 refine (visI_s n18 n9 n8 n10 n11 k (visAll k st (ts.take j)) y x.1 x.2 hy (by omega) h1.len (h10.mono hs) (h11.mono hs)).mono ?_
 rintro v H' ⟨y2, hy2, rfl⟩
 rw [visAll_take k st hj]
 exact ⟨_, ⟨y2, hy2, rfl⟩, rfl⟩
theorem locBSI {e1 e2 : Nat × Obj} {n18 n9 n8 : Nat} {st : BS Nat} {x : Sl × Sl} {R : List (Nat × Obj)} : LocL (e1 :: e2 :: ((n18, mapO encPK encBv (trueM st.l)) :: (n9, Cl [slV x.2 st.w.length] 187) :: (n8, Cl [slV x.1 st.l.length] 59) :: (slH x.2 (st.w.flatMap encWI) 186 ++ (slH x.1 (st.l.flatMap encPl) 74 ++ R)))) (bsHI n18 n9 n8 st x) (e1 :: e2 :: R) (fun M' => e1 :: e2 :: (M' ++ R)) := by
 rw [← bsHI_app]; exact .t (.t .h)
theorem searchI_s {w0 : World} {H H0 : List (Nat × Obj)} (nf ff : FuncId) (ncap fcap : List Value) (Pd : Pl → Prop) (ts : Pl → List (Pl × Nat)) (fnd : Pl → Bool) (G : List Pl → List (Nat × Obj) → Prop) (N : Nat) (p0 : Pl) (Mg0 : List (Nat × Obj))
  (hnf : Enters nf) (hff : Enters ff) (hnext : NextI w0 H0 nf ncap Pd ts) (hfound : FoundS w0 H0 ff fcap Pd fnd G) (hts : ∀ p, Pd p → ∀ x ∈ ts p, Pd x.1) (hN : ∀ l : List Pl, l.Nodup → (∀ p ∈ l, Pd p) → l.length ≤ N) (hN2 : N ≤ 50000) (hp0 : Pd p0) (hG0 : G [] Mg0) (hH0 : H0.Sublist H) :
  FSpec Tryz.prog w0 78 #[.agg (encPl p0).toArray, .func (.func nf) #[] ncap.toArray, .func (.func ff) #[] fcap.toArray] (Mg0 ++ H) (fun v H' => ∃ x : Sl × List (Nat × Obj), (v = .tuple #[slV x.1 (srF ts fnd N p0).1.length, .bool (srF ts fnd N p0).2.1] ∧ SlOk x.1 (srF ts fnd N p0).1.length 1 ∧ G (srF ts fnd N p0).2.2 x.2) ∧ H' = slH x.1 ((srF ts fnd N p0).1.flatMap encU) 3 ++ (x.2 ++ H)) := by
 refine A7 Tryz.func78 U ntmps78 U (Ah (Ab (e_ (Bf (T U) cs_) ?_ U)))
 rintro _ _ ⟨n3, rfl, rfl⟩
 refine y_ (Ad Ak) (y_ (Ad Ak) (Af (Ac (Ah (Ab (y_ (Am (T U) isAgg74 sizeOf74 U (by first | exact Bc)) ?_ U))))) U) U
 refine e_ (An (.cons (T U) .nil) (bs59_1_0 _ _)) ?_ U
 rintro _ _ ⟨n15, rfl, rfl⟩
 refine y_ (Bq (.cons Ak .nil) (bd186_0 _)) (e_ (An (.cons (T U) .nil) (bs187_1_0 _ _)) ?_ U) U
 rintro _ _ ⟨n17, rfl, rfl⟩
 refine e_ (Ap zeroValue59 cs_) ?_ U
 rintro _ _ ⟨n8, rfl, rfl⟩
 refine e_ (Ap zeroValue187 cs_) ?_ U
 rintro _ _ ⟨n9, rfl, rfl⟩
 first | refine A0 (As (T U) (T U) sizeOf59) U Ag ?_ | refine A0 (B6 (T U) (T U) U sizeOf59) U Ag ?_ | refine A0 (By (T U) (T U) U sizeOf59) U Ag ?_
 rintro _ _ ⟨rfl, rfl⟩
 first | refine A0 (As (T U) (T U) sizeOf187) U Ag ?_ | refine A0 (B6 (T U) (T U) U sizeOf187) U Ag ?_ | refine A0 (By (T U) (T U) U sizeOf187) U Ag ?_
 rintro _ _ ⟨rfl, rfl⟩
 refine Af (Ac (Ah (Ab (e_ eff_makeMap ?_ U))))
 rintro _ _ ⟨n18, rfl, rfl⟩
 refine y_ (Am (T U) isAgg74 sizeOf74 U (by first | exact Bc)) ?_ U
 refine e_ (eff_insert (l := []) (encV := encBv) p0 true (keyP74 (V := Bool)) (T U) (T U) U Ak U runUnderlying72) ?_ U
 rintro _ _ ⟨rfl, rfl⟩
 refine y_ (Ae (T U)) (e_ (Ap zeroValue72 cs_) ?_ U) U
 rintro _ _ ⟨n10, rfl, rfl⟩
 first | refine A0 (As (T U) (T U) sizeOf72) U Ag ?_ | refine A0 (B6 (T U) (T U) U sizeOf72) U Ag ?_ | refine A0 (By (T U) (T U) U sizeOf72) U Ag ?_
 rintro _ _ ⟨rfl, rfl⟩
 refine Af (Ac (Ah (Ah (Ab (e_ (Ap zeroValue3 cs_) ?_ U)))))
 rintro _ _ ⟨n11, rfl, rfl⟩
 first | refine A0 (As (T U) Ak sizeOf3) U Ag ?_ | refine A0 (B6 (T U) Ak U sizeOf3) U Ag ?_ | refine A0 (By (T U) Ak U sizeOf3) U Ag ?_
 rintro _ _ ⟨rfl, rfl⟩
 refine Af (Ac (A2 ?_))
 refine Cn (X := Nat × BS Nat × (Sl × Sl) × Nat × List (Nat × Obj)) (V := fun ⟨k, st, x, m11, Mg⟩ => [(11, .pointer (some ⟨m11, 0, none⟩))]) (C := [(1, _), (2, _), (8, _), (9, _), (10, _)]) (G := fun ⟨k, st, x, m11, Mg⟩ => (m11, Cl [.int .i64 (k : Int)] 3) :: (n10, Cl [.map (some n18)] 72) :: ((n18, mapO encPK encBv (trueM st.l)) :: (n9, Cl [slV x.2 st.w.length] 187) :: (n8, Cl [slV x.1 st.l.length] 59) :: (slH x.2 (st.w.flatMap encWI) 186 ++ (slH x.1 (st.l.flatMap encPl) 74 ++ ((n3, Cl (encPl p0) 74) :: (Mg ++ H)))))) (φ := fun ⟨k, st, x, m11, Mg⟩ => BSok Pd k st ∧ bsOkI st x ∧ G (st.l.take k) Mg ∧ goF ts fnd (N + 1 - k) k st = goF ts fnd (N + 1) 0 ⟨[p0], [(-1, default)]⟩) (μ := fun ⟨k, st, x, m11, Mg⟩ => N + 1 - k) (x0 := (0, ⟨[p0], [(-1, default)]⟩, (.blk n15 1 [], .blk n17 1 []), n11, Mg0)) ?_ ⟨Aa rfl, Aa rfl, Aa rfl, Aa rfl, Aa rfl, trivial⟩ ⟨(by first | exact Aa rfl | (refine Aj (Aa rfl) (vint ?_); omega) | (refine Aj (Aa rfl) ?_; simp; done) | (refine Aj (Aa rfl) ?_; exact by simp only [List.length_append, List.length_cons, List.length_nil])), trivial⟩ sb0 ?_
 ·exact ⟨bs_start hp0, ⟨⟨Nat.le_refl _, rfl⟩, ⟨Nat.le_refl _, rfl⟩⟩, hG0, rfl⟩
 rintro ⟨k, st, x, m11, Mg⟩ ⟨hb, hx, hG, hgo⟩
 have hln := hN _ hb.nd hb.ok
 have hbl := hb.len
 have hbk0 := hb.kl
 refine Ah (Ah (Ab (y_ (Ai (T U) isAgg3 (by first | exact c_o)) ?_ U)))
 refine y_ (Ai (T U) isAgg59 (by first | exact c_o)) ?_ U
 refine y_ (Bw (T U) runUnderlying59) (y_ (B4 (T U) (T U)) (Af (Ac ?_)) U) U
 first | refine Au (Aa U) (fun c24 => ?_) (fun c24 => ?_) | refine Bb (Aa U) (fun c24 => ?_) (fun c24 => ?_)
 ·have hkl : k < st.l.length := by omega
  have hpk := hb.ok _ (A1 hkl)
  refine A9 (Ac (Ah (A2 (Ah (Ah (Ab (y_ (Ae (T U)) (y_ (Ai (T U) isAgg59 (by first | exact c_o)) ?_ U) U)))))))
  refine y_ (Ai (T U) isAgg3 (by first | exact c_o)) ?_ U
  refine y_ (Bh (T U) (T U) runUnderlying59 sizeOf74 (by omega) (by first | exact rfl | exact hx.o1.bas (by omega) | exact hx.o2.bas (by omega))) ?_ U
  refine y_ (Am (T U) isAgg74 sizeOf74 U (by first | exact ((Bz (X := H) (enc := encPl) (sz := 2) (e := 74) (l := st.l) (fun _ => rfl) hx.o1).mono sbt).cs (i := k) (by omega) | exact Bc)) ?_ U
  refine e_ (C4 (T U) (.cons (T U) .nil) hff (Bn Mg (by repeat (first | exact LocL.h | apply LocL.t | apply LocL.a)) (hfound (gd st.l k) (hb.ok _ (A1 (by omega))) (st.l.take k) Mg _ (hH0.trans (by exact sbt)) (by rw [List.length_take]; omega) hG))) ?_ U
  rintro _ _ ⟨Mg2, ⟨rfl, hG2⟩, rfl⟩
  refine Af (Ac ?_)
  first | refine Au (Aa U) (fun c32 => ?_) (fun c32 => ?_) | refine Bb (Aa U) (fun c32 => ?_) (fun c32 => ?_)
  ·have hres : srF ts fnd N p0 = ((backF st.w (k + 1) k).reverse, true, st.l.take (k + 1)) := by
    unfold srF
    rw [← hgo, show N + 1 - k = (N - k) + 1 by omega, goF_succ, if_pos hkl, if_pos c32]
   have htk : st.l.take k ++ [gd st.l k] = st.l.take (k + 1) := by rw [List.take_add_one, C7 hkl]; rfl
   rw [htk] at hG2
   refine Ah (Ab (y_ (Ad Ak) (Af (Ac (Ah (Ah (Ab (y_ (Ai (T U) isAgg3 (by first | exact c_o)) ?_ U)))))) U))
   refine y_ (Ad (T U)) (Af (Ac (A2 ?_))) U
   refine Cn (X := Nat × List Nat × Sl) (V := fun ⟨i, ol, d12⟩ => [(13, .int .i64 (i : Nat)), (12, slV d12 ol.length)]) (C := [(9, _)]) (G := fun ⟨i, ol, d12⟩ => slH d12 (ol.flatMap encU) 3 ++ ((m11, Cl [.int .i64 (k : Int)] 3) :: (n10, Cl [.map (some n18)] 72) :: ((n18, mapO encPK encBv (trueM st.l)) :: (n9, Cl [slV x.2 st.w.length] 187) :: (n8, Cl [slV x.1 st.l.length] 59) :: (slH x.2 (st.w.flatMap encWI) 186 ++ (slH x.1 (st.l.flatMap encPl) 74 ++ ((n3, Cl (encPl p0) 74) :: (Mg2 ++ H))))))) (φ := fun ⟨i, ol, d12⟩ => i < st.w.length ∧ SlOk d12 ol.length 1 ∧ ol ++ backF st.w (i + 1) i = backF st.w (k + 1) k ∧ ol.length + i ≤ k) (μ := fun ⟨i, ol, d12⟩ => i) (x0 := (k, [], .nil)) ?_ ⟨Aa rfl, trivial⟩ ⟨(by first | exact Aa rfl | (refine Aj (Aa rfl) (vint ?_); omega) | (refine Aj (Aa rfl) ?_; simp; done) | (refine Aj (Aa rfl) ?_; exact by simp only [List.length_append, List.length_cons, List.length_nil])), (by first | exact Aa rfl | (refine Aj (Aa rfl) (vint ?_); omega) | (refine Aj (Aa rfl) ?_; simp; done) | (refine Aj (Aa rfl) ?_; exact by simp only [List.length_append, List.length_cons, List.length_nil])), trivial⟩ sb0 ?_
   ·exact ⟨by omega, rfl, rfl, by simp⟩
   rintro ⟨i, ol, d12⟩ ⟨hi, ho12, hbk, hol⟩
   refine Ah (Ah (Ab (y_ (Ai (T U) isAgg187 (by first | exact c_o)) ?_ U)))
   refine y_ (Ae (T U)) (y_ (Bh (T U) (T U) runUnderlying187 sizeOf186 (by omega) (by first | exact rfl | exact hx.o1.bas (by omega) | exact hx.o2.bas (by omega))) ?_ U) U
   refine y_ (Bp (T U) fa186_0) (y_ (Ai (T U) isAgg3 (by first | exact c_o | exact ((Bz (X := H) (enc := encWI) (sz := 2) (e := 186) (l := st.w) (fun _ => rfl) hx.o2).mono sbt).f0 (i := i) (by omega) U)) ?_ U) U
   refine y_ (Ds (T U) Ak) (Af (Ac ?_)) U
   first | refine Au (Aa U) (fun c39 => ?_) (fun c39 => ?_) | refine Bb (Aa U) (fun c39 => ?_) (fun c39 => ?_)
   ·have hbi := hb.back i (by omega)
    have hti : (((gd st.w i).1.toNat : Nat) : Int) = (gd st.w i).1 := by omega
    refine A9 (Ac (Ah (A2 (Ab (y_ (Ae (T U)) (y_ (Ai (T U) isAgg187 (by first | exact c_o)) ?_ U) U)))))
    refine y_ (Ae (T U)) (y_ (Bh (T U) (T U) runUnderlying187 sizeOf186 (by omega) (by first | exact rfl | exact hx.o1.bas (by omega) | exact hx.o2.bas (by omega))) ?_ U) U
    refine y_ (Bk (T U) fa186_1) (y_ (Ai (T U) isAgg3 (by first | exact c_o | exact ((Bz (X := H) (enc := encWI) (sz := 2) (e := 186) (l := st.w) (fun _ => rfl) hx.o2).mono sbt).f (i := i) (by omega) U)) ?_ U) U
    refine e_ (An (.cons (T U) .nil) (bs42_1_0 _)) ?_ U
    rintro _ _ ⟨n51, rfl, rfl⟩
    refine e_ (Bi ((gd st.w i).2) (by' := 8) (by repeat (first | exact LocL.h | apply LocL.t | apply LocL.a)) (T U) (T U) runUnderlying42 runUnderlying42 sizeOf3 typeInfo3 U zeroValue3 U (fun _ => rfl) U ho12 (by decide) (by omega)) ?_ U
    rintro _ _ ⟨d', rfl, hokd, rfl⟩
    refine y_ (Ad (T U)) (Af (Bm (Ac (Ab (y_ (Ai (T U) isAgg187 (by first | exact c_o)) ?_ U))))) U
    refine y_ (Ae (T U)) (y_ (Bh (T U) (T U) runUnderlying187 sizeOf186 (by omega) (by first | exact rfl | exact hx.o1.bas (by omega) | exact hx.o2.bas (by omega))) ?_ U) U
    refine y_ (Bp (T U) fa186_0) (y_ (Ai (T U) isAgg3 (by first | exact c_o | exact ((Bz (X := H) (enc := encWI) (sz := 2) (e := 186) (l := st.w) (fun _ => rfl) hx.o2).mono sbt).f0 (i := i) (by omega) U)) ?_ U) U
    refine y_ (Ad (T U)) (Af ?_) U
    refine Bs (((gd st.w i).1.toNat, ol ++ [(gd st.w i).2], d')) ?_ ?_ ⟨(by first | exact Aa U | (refine Aj (Aa U) (vint ?_); omega) | (refine Aj (Aa U) ?_; simp; done) | (refine Aj (Aa U) ?_; exact by simp only [List.length_append, List.length_cons, List.length_nil])), (by first | exact Aa U | (refine Aj (Aa U) (vint ?_); omega) | (refine Aj (Aa U) ?_; simp; done) | (refine Aj (Aa U) ?_; exact by simp only [List.length_append, List.length_cons, List.length_nil])), trivial⟩ ⟨Aa U, trivial⟩ ?_
    ·refine ⟨by omega, by simpa using hokd, ?_, by simp; omega⟩
     rw [← hbk, backF_succ st.w i i, if_pos c39, backF_fuel hb.back i _ (by omega) (by omega)]
     simp
    ·show (gd st.w i).1.toNat < i; omega
    ·exact sbt
   ·have hfin : ol = backF st.w (k + 1) k := by rw [← hbk, backF_succ, if_neg c39, List.append_nil]
    refine B7 (A4 (A8 (Ba (Ac (Ah (Ab (y_ (Ae (T U)) (e_ (Av (.cons (T U) .nil) call125 (Bn (slH d12 (ol.flatMap encU) 3) (by repeat (first | exact LocL.h | apply LocL.t | apply LocL.a)) ((revI_s d12 ol ho12 (by omega)).toL))) ?_ U) U)))))))
    rintro _ _ ⟨_, rfl, rfl⟩
    refine Af (Ac (Ah (Ab (y_ (Ae (T U)) (y_ (Ad (T U)) (y_ (Ad Ak) (Af (Ac (A5 (Ao (Aw (Ao (B9 (Aw (Ao (A6 U (.tmp (Aa U) (.tmp (Aa U) .nil)) ?_)))))))))) U) U) U))))
    rw [hres]; subst hfin
    exact ⟨_, ⟨(d12, Mg2), ⟨by rw [List.length_reverse]; rfl, by rw [List.length_reverse]; exact ho12, hG2⟩, rfl⟩, sbt⟩
  ·refine A9 (Ac (Ab (y_ (Ae (T U)) (y_ (Ai (T U) isAgg59 (by first | exact c_o)) ?_ U) U)))
   refine y_ (Ai (T U) isAgg3 (by first | exact c_o)) ?_ U
   refine y_ (Bh (T U) (T U) runUnderlying59 sizeOf74 (by omega) (by first | exact rfl | exact hx.o1.bas (by omega) | exact hx.o2.bas (by omega))) ?_ U
   refine y_ (Am (T U) isAgg74 sizeOf74 U (by first | exact ((Bz (X := H) (enc := encPl) (sz := 2) (e := 74) (l := st.l) (fun _ => rfl) hx.o1).mono sbt).cs (i := k) (by omega) | exact Bc)) ?_ U
   refine y_ (Cc (.cons (T U) (.cons (T U) (.cons (T U) (.cons (T U) .nil))))) ?_ U
   refine e_ (C4 (T U) (.cons (T U) (.cons (T U) .nil)) hnf (Bn (bsHI n18 n9 n8 st x) locBSI (hnext (gd st.l k) hpk 126 [.pointer (some ⟨n10, 0, none⟩), .pointer (some ⟨n8, 0, none⟩), .pointer (some ⟨n9, 0, none⟩), .pointer (some ⟨m11, 0, none⟩)] (fun j M => ∃ y, bsOkI (visAll k st ((ts (gd st.l k)).take j)) y ∧ M = bsHI n18 n9 n8 (visAll k st ((ts (gd st.l k)).take j)) y) _ _ (hH0.trans (by exact sbt)) call126 ⟨x, hx, rfl⟩ (vspI hb hkl (hts _ hpk) hN (by omega) fdd fdd)))) ?_ U
   rintro _ _ ⟨_, ⟨y, hy, rfl⟩, rfl⟩
   rw [List.take_length] at hy ⊢
   rw [bsHI_app]
   refine Af (Bm (Ac (Ah (Ah (Ab (y_ (Ai (T U) isAgg3 (by first | exact c_o)) ?_ U))))))
   refine Af (Ac (Bt [(1, _), (2, _), (8, _), (9, _), (10, _), (63, _)] ⟨Aa U, Aa U, Aa U, Aa U, Aa U, Aa U, trivial⟩ (Ab (e_ (Ap zeroValue3 cs_) ?_ U))))
   rintro _ _ ⟨n11, rfl, rfl⟩
   first | refine A0 (As (T U) (T U) sizeOf3) U Ag ?_ | refine A0 (B6 (T U) (T U) U sizeOf3) U Ag ?_ | refine A0 (By (T U) (T U) U sizeOf3) U Ag ?_
   rintro _ _ ⟨rfl, rfl⟩
   refine Af (Ac (Ab (y_ (Ai (T U) isAgg3 (by first | exact c_o)) ?_ U)))
   refine y_ (Bv (T U) Ak (by omega)) ?_ U
   first | refine A0 (As (T U) (T U) sizeOf3) U Ag ?_ | refine A0 (B6 (T U) (T U) U sizeOf3) U Ag ?_ | refine A0 (By (T U) (T U) U sizeOf3) U Ag ?_
   rintro _ _ ⟨rfl, rfl⟩
   refine Af ?_
   refine Bs ((k + 1, visAll k st (ts (gd st.l k)), y, n11, Mg2)) ?_ ?_ ⟨(by first | exact Aa U | (refine Aj (Aa U) (vint ?_); omega) | (refine Aj (Aa U) ?_; simp; done) | (refine Aj (Aa U) ?_; exact by simp only [List.length_append, List.length_cons, List.length_nil])), trivial⟩ ⟨Aa U, Aa U, Aa U, Aa U, Aa U, trivial⟩ ?_
   ·obtain ⟨hb2, hge⟩ := hb.visAll (k' := k) (ts (gd st.l k)) hkl (hts _ hpk)
    refine ⟨⟨hb2.nd, hb2.ok, hb2.len, hb2.back, by omega⟩, hy, ?_, ?_⟩
    ·rw [visAll_pre _ _ (by omega), List.take_add_one, C7 hkl]; exact hG2
    ·rw [← hgo, show N + 1 - k = (N - k) + 1 by omega, goF_succ, if_pos hkl, if_neg (by rw [c32]; decide), show N + 1 - (k + 1) = N - k by omega]
   ·show N + 1 - (k + 1) < N + 1 - k; omega
   ·exact sbt
 ·have hres : srF ts fnd N p0 = ([], false, st.l) := by
   unfold srF
   rw [← hgo, show N + 1 - k = (N - k) + 1 by omega, goF_succ, if_neg (by omega)]
  refine B7 (A4 (A8 (Ba (Ac (Ah (Ab (y_ (Ad Ak) (y_ (Ad Ak) (Af (Ac (A5 (A6 U (.tmp (Aa U) (.tmp (Aa U) .nil)) ?_)))) U) U)))))))
  rw [hres]
  have hkk : k = st.l.length := by omega
  rw [hkk, List.take_length] at hG
  exact ⟨_, ⟨(.nil, Mg), ⟨rfl, rfl, hG⟩, rfl⟩, sbt⟩
def NextS (w0 : World) (H0 : List (Nat × Obj)) (nf : FuncId) (ncap : List Value) (Pd : Pl → Prop) (ts : Pl → List (Pl × ByteArray)) : Prop :=
 ∀ (p : Pl), Pd p → ∀ (vf : FuncId) (vcap : List Value) (S : Nat → List (Nat × Obj) → Prop) (M H : List (Nat × Obj)), H0.Sublist H → Enters vf → S 0 M →
  (∀ j x M1 H1, (ts p)[j]? = some x → H.Sublist H1 → S j M1 → FSpec Tryz.prog w0 vf (.agg (encPl x.1).toArray :: .string x.2 :: vcap).toArray (M1 ++ H1) (fun _ H' => ∃ M2, S (j + 1) M2 ∧ H' = M2 ++ H1)) →
  FSpec Tryz.prog w0 nf (.agg (encPl p).toArray :: .func (.func vf) #[] vcap.toArray :: ncap).toArray (M ++ H) (fun _ H' => ∃ M2, S (ts p).length M2 ∧ H' = M2 ++ H)
theorem vspS {w0 : World} {R : List (Nat × Obj)} {Pd : Pl → Prop} {ts : List (Pl × ByteArray)} {n18 n9 n8 n10 n11 k : Nat} {st : BS ByteArray} (hb : BSok Pd k st) (hk : k < st.l.length) (ht : ∀ x ∈ ts, Pd x.1) {N : Nat} (hN : ∀ l : List Pl, l.Nodup → (∀ p ∈ l, Pd p) → l.length ≤ N) (hN2 : N ≤ 100000) (h10 : Fnd R n10 (Cl [.map (some n18)] 180)) (h11 : Fnd R n11 (Cl [.int .i64 (k : Int)] 3)) :
  ∀ j x M1 H1, ts[j]? = some x → R.Sublist H1 → (∃ y, bsOkS (visAll k st (ts.take j)) y ∧ M1 = bsHS n18 n9 n8 (visAll k st (ts.take j)) y) →
   FSpec Tryz.prog w0 120 (.agg (encPl x.1).toArray :: .string x.2 :: [.pointer (some ⟨n10, 0, none⟩), .pointer (some ⟨n8, 0, none⟩), .pointer (some ⟨n9, 0, none⟩), .pointer (some ⟨n11, 0, none⟩)]).toArray (M1 ++ H1) (fun _ H' => ∃ M2, (∃ y, bsOkS (visAll k st (ts.take (j + 1))) y ∧ M2 = bsHS n18 n9 n8 (visAll k st (ts.take (j + 1))) y) ∧ H' = M2 ++ H1) := by
 rintro j x M1 H1 hj hs ⟨y, hy, rfl⟩
 have h1 := (hb.visAll (k' := k) (ts.take j) hk (fun z hz => ht z (List.mem_of_mem_take hz))).1
 have h2 := hN _ h1.nd h1.ok
 refine (visS_s n18 n9 n8 n10 n11 k (visAll k st (ts.take j)) y x.1 x.2 hy (by omega) h1.len (h10.mono hs) (h11.mono hs)).mono ?_
 rintro v H' ⟨y2, hy2, rfl⟩
 rw [visAll_take k st hj]
 exact ⟨_, ⟨y2, hy2, rfl⟩, rfl⟩
theorem locBSS {e1 e2 : Nat × Obj} {n18 n9 n8 : Nat} {st : BS ByteArray} {x : Sl × Sl} {R : List (Nat × Obj)} : LocL (e1 :: e2 :: ((n18, mapO encPK encBv (trueM st.l)) :: (n9, Cl [slV x.2 st.w.length] 179) :: (n8, Cl [slV x.1 st.l.length] 176) :: (slH x.2 (st.w.flatMap encWS) 178 ++ (slH x.1 (st.l.flatMap encPl) 115 ++ R)))) (bsHS n18 n9 n8 st x) (e1 :: e2 :: R) (fun M' => e1 :: e2 :: (M' ++ R)) := by
 rw [← bsHS_app]; exact .t (.t .h)
theorem searchS_s {w0 : World} {H H0 : List (Nat × Obj)} (nf ff : FuncId) (ncap fcap : List Value) (Pd : Pl → Prop) (ts : Pl → List (Pl × ByteArray)) (fnd : Pl → Bool) (G : List Pl → List (Nat × Obj) → Prop) (N : Nat) (p0 : Pl) (Mg0 : List (Nat × Obj))
  (hnf : Enters nf) (hff : Enters ff) (hnext : NextS w0 H0 nf ncap Pd ts) (hfound : FoundS w0 H0 ff fcap Pd fnd G) (hts : ∀ p, Pd p → ∀ x ∈ ts p, Pd x.1) (hN : ∀ l : List Pl, l.Nodup → (∀ p ∈ l, Pd p) → l.length ≤ N) (hN2 : N ≤ 50000) (hp0 : Pd p0) (hG0 : G [] Mg0) (hH0 : H0.Sublist H) :
  FSpec Tryz.prog w0 71 #[.agg (encPl p0).toArray, .func (.func nf) #[] ncap.toArray, .func (.func ff) #[] fcap.toArray] (Mg0 ++ H) (fun v H' => ∃ x : Sl × List (Nat × Obj), (v = .tuple #[slV x.1 (srF ts fnd N p0).1.length, .bool (srF ts fnd N p0).2.1] ∧ SlOk x.1 (srF ts fnd N p0).1.length 1 ∧ G (srF ts fnd N p0).2.2 x.2) ∧ H' = slH x.1 ((srF ts fnd N p0).1.flatMap encS) 9 ++ (x.2 ++ H)) := by
 refine A7 Tryz.func71 U ntmps71 U (Ah (Ab (e_ (Bf (T U) cs_) ?_ U)))
 rintro _ _ ⟨n3, rfl, rfl⟩
 refine y_ (Ad Ak) (y_ (Ad Ak) (Af (Ac (Ah (Ab (y_ (Am (T U) isAgg115 sizeOf115 U (by first | exact Bc)) ?_ U))))) U) U
 refine e_ (An (.cons (T U) .nil) (bs176_1_0 _ _)) ?_ U
 rintro _ _ ⟨n15, rfl, rfl⟩
 refine y_ (Bq (.cons Ak .nil) (bd178_0 _)) (e_ (An (.cons (T U) .nil) (bs179_1_0 _ _)) ?_ U) U
 rintro _ _ ⟨n17, rfl, rfl⟩
 refine e_ (Ap zeroValue176 cs_) ?_ U
 rintro _ _ ⟨n8, rfl, rfl⟩
 refine e_ (Ap zeroValue179 cs_) ?_ U
 rintro _ _ ⟨n9, rfl, rfl⟩
 first | refine A0 (As (T U) (T U) sizeOf176) U Ag ?_ | refine A0 (B6 (T U) (T U) U sizeOf176) U Ag ?_ | refine A0 (By (T U) (T U) U sizeOf176) U Ag ?_
 rintro _ _ ⟨rfl, rfl⟩
 first | refine A0 (As (T U) (T U) sizeOf179) U Ag ?_ | refine A0 (B6 (T U) (T U) U sizeOf179) U Ag ?_ | refine A0 (By (T U) (T U) U sizeOf179) U Ag ?_
 rintro _ _ ⟨rfl, rfl⟩
 refine Af (Ac (Ah (Ab (e_ eff_makeMap ?_ U))))
 rintro _ _ ⟨n18, rfl, rfl⟩
 refine y_ (Am (T U) isAgg115 sizeOf115 U (by first | exact Bc)) ?_ U
 refine e_ (eff_insert (l := []) (encV := encBv) p0 true (keyP115 (V := Bool)) (T U) (T U) U Ak U runUnderlying180) ?_ U
 rintro _ _ ⟨rfl, rfl⟩
 refine y_ (Ae (T U)) (e_ (Ap zeroValue180 cs_) ?_ U) U
 rintro _ _ ⟨n10, rfl, rfl⟩
 first | refine A0 (As (T U) (T U) sizeOf180) U Ag ?_ | refine A0 (B6 (T U) (T U) U sizeOf180) U Ag ?_ | refine A0 (By (T U) (T U) U sizeOf180) U Ag ?_
 rintro _ _ ⟨rfl, rfl⟩
 refine Af (Ac (Ah (Ah (Ab (e_ (Ap zeroValue3 cs_) ?_ U)))))
 rintro _ _ ⟨n11, rfl, rfl⟩
 first | refine A0 (As (T U) Ak sizeOf3) U Ag ?_ | refine A0 (B6 (T U) Ak U sizeOf3) U Ag ?_ | refine A0 (By (T U) Ak U sizeOf3) U Ag ?_
 rintro _ _ ⟨rfl, rfl⟩
 refine Af (Ac (A2 ?_))
 refine Cn (X := Nat × BS ByteArray × (Sl × Sl) × Nat × List (Nat × Obj)) (V := fun ⟨k, st, x, m11, Mg⟩ => [(11, .pointer (some ⟨m11, 0, none⟩))]) (C := [(1, _), (2, _), (8, _), (9, _), (10, _)]) (G := fun ⟨k, st, x, m11, Mg⟩ => (m11, Cl [.int .i64 (k : Int)] 3) :: (n10, Cl [.map (some n18)] 180) :: ((n18, mapO encPK encBv (trueM st.l)) :: (n9, Cl [slV x.2 st.w.length] 179) :: (n8, Cl [slV x.1 st.l.length] 176) :: (slH x.2 (st.w.flatMap encWS) 178 ++ (slH x.1 (st.l.flatMap encPl) 115 ++ ((n3, Cl (encPl p0) 115) :: (Mg ++ H)))))) (φ := fun ⟨k, st, x, m11, Mg⟩ => BSok Pd k st ∧ bsOkS st x ∧ G (st.l.take k) Mg ∧ goF ts fnd (N + 1 - k) k st = goF ts fnd (N + 1) 0 ⟨[p0], [(-1, default)]⟩) (μ := fun ⟨k, st, x, m11, Mg⟩ => N + 1 - k) (x0 := (0, ⟨[p0], [(-1, default)]⟩, (.blk n15 1 [], .blk n17 1 []), n11, Mg0)) ?_ ⟨Aa rfl, Aa rfl, Aa rfl, Aa rfl, Aa rfl, trivial⟩ ⟨(by first | exact Aa rfl | (refine Aj (Aa rfl) (vint ?_); omega) | (refine Aj (Aa rfl) ?_; simp; done) | (refine Aj (Aa rfl) ?_; exact by simp only [List.length_append, List.length_cons, List.length_nil])), trivial⟩ sb0 ?_
 ·exact ⟨bs_start hp0, ⟨⟨Nat.le_refl _, rfl⟩, ⟨Nat.le_refl _, rfl⟩⟩, hG0, rfl⟩
 rintro ⟨k, st, x, m11, Mg⟩ ⟨hb, hx, hG, hgo⟩
 have hln := hN _ hb.nd hb.ok
 have hbl := hb.len
 have hbk0 := hb.kl
 refine Ah (Ah (Ab (y_ (Ai (T U) isAgg3 (by first | exact c_o)) ?_ U)))
 refine y_ (Ai (T U) isAgg176 (by first | exact c_o)) ?_ U
 refine y_ (Bw (T U) runUnderlying176) (y_ (B4 (T U) (T U)) (Af (Ac ?_)) U) U
 first | refine Au (Aa U) (fun c24 => ?_) (fun c24 => ?_) | refine Bb (Aa U) (fun c24 => ?_) (fun c24 => ?_)
 ·have hkl : k < st.l.length := by omega
  have hpk := hb.ok _ (A1 hkl)
  refine A9 (Ac (Ah (A2 (Ah (Ah (Ab (y_ (Ae (T U)) (y_ (Ai (T U) isAgg176 (by first | exact c_o)) ?_ U) U)))))))
  refine y_ (Ai (T U) isAgg3 (by first | exact c_o)) ?_ U
  refine y_ (Bh (T U) (T U) runUnderlying176 sizeOf115 (by omega) (by first | exact rfl | exact hx.o1.bas (by omega) | exact hx.o2.bas (by omega))) ?_ U
  refine y_ (Am (T U) isAgg115 sizeOf115 U (by first | exact ((Bz (X := H) (enc := encPl) (sz := 2) (e := 115) (l := st.l) (fun _ => rfl) hx.o1).mono sbt).cs (i := k) (by omega) | exact Bc)) ?_ U
  refine e_ (C4 (T U) (.cons (T U) .nil) hff (Bn Mg (by repeat (first | exact LocL.h | apply LocL.t | apply LocL.a)) (hfound (gd st.l k) (hb.ok _ (A1 (by omega))) (st.l.take k) Mg _ (hH0.trans (by exact sbt)) (by rw [List.length_take]; omega) hG))) ?_ U
  rintro _ _ ⟨Mg2, ⟨rfl, hG2⟩, rfl⟩
  refine Af (Ac ?_)
  first | refine Au (Aa U) (fun c32 => ?_) (fun c32 => ?_) | refine Bb (Aa U) (fun c32 => ?_) (fun c32 => ?_)
  ·have hres : srF ts fnd N p0 = ((backF st.w (k + 1) k).reverse, true, st.l.take (k + 1)) := by
    unfold srF
    rw [← hgo, show N + 1 - k = (N - k) + 1 by omega, goF_succ, if_pos hkl, if_pos c32]
   have htk : st.l.take k ++ [gd st.l k] = st.l.take (k + 1) := by rw [List.take_add_one, C7 hkl]; rfl
   rw [htk] at hG2
   refine Ah (Ab (y_ (Ad Ak) (Af (Ac (Ah (Ah (Ab (y_ (Ai (T U) isAgg3 (by first | exact c_o)) ?_ U)))))) U))
   refine y_ (Ad (T U)) (Af (Ac (A2 ?_))) U
   refine Cn (X := Nat × List ByteArray × Sl) (V := fun ⟨i, ol, d12⟩ => [(13, .int .i64 (i : Nat)), (12, slV d12 ol.length)]) (C := [(9, _)]) (G := fun ⟨i, ol, d12⟩ => slH d12 (ol.flatMap encS) 9 ++ ((m11, Cl [.int .i64 (k : Int)] 3) :: (n10, Cl [.map (some n18)] 180) :: ((n18, mapO encPK encBv (trueM st.l)) :: (n9, Cl [slV x.2 st.w.length] 179) :: (n8, Cl [slV x.1 st.l.length] 176) :: (slH x.2 (st.w.flatMap encWS) 178 ++ (slH x.1 (st.l.flatMap encPl) 115 ++ ((n3, Cl (encPl p0) 115) :: (Mg2 ++ H))))))) (φ := fun ⟨i, ol, d12⟩ => i < st.w.length ∧ SlOk d12 ol.length 1 ∧ ol ++ backF st.w (i + 1) i = backF st.w (k + 1) k ∧ ol.length + i ≤ k) (μ := fun ⟨i, ol, d12⟩ => i) (x0 := (k, [], .nil)) ?_ ⟨Aa rfl, trivial⟩ ⟨(by first | exact Aa rfl | (refine Aj (Aa rfl) (vint ?_); omega) | (refine Aj (Aa rfl) ?_; simp; done) | (refine Aj (Aa rfl) ?_; exact by simp only [List.length_append, List.length_cons, List.length_nil])), (by first | exact Aa rfl | (refine Aj (Aa rfl) (vint ?_); omega) | (refine Aj (Aa rfl) ?_; simp; done) | (refine Aj (Aa rfl) ?_; exact by simp only [List.length_append, List.length_cons, List.length_nil])), trivial⟩ sb0 ?_
   ·exact ⟨by omega, rfl, rfl, by simp⟩
   rintro ⟨i, ol, d12⟩ ⟨hi, ho12, hbk, hol⟩
   refine Ah (Ah (Ab (y_ (Ai (T U) isAgg179 (by first | exact c_o)) ?_ U)))
   refine y_ (Ae (T U)) (y_ (Bh (T U) (T U) runUnderlying179 sizeOf178 (by omega) (by first | exact rfl | exact hx.o1.bas (by omega) | exact hx.o2.bas (by omega))) ?_ U) U
   refine y_ (Bp (T U) fa178_0) (y_ (Ai (T U) isAgg3 (by first | exact c_o | exact ((Bz (X := H) (enc := encWS) (sz := 2) (e := 178) (l := st.w) (fun _ => rfl) hx.o2).mono sbt).f0 (i := i) (by omega) U)) ?_ U) U
   refine y_ (Ds (T U) Ak) (Af (Ac ?_)) U
   first | refine Au (Aa U) (fun c39 => ?_) (fun c39 => ?_) | refine Bb (Aa U) (fun c39 => ?_) (fun c39 => ?_)
   ·have hbi := hb.back i (by omega)
    have hti : (((gd st.w i).1.toNat : Nat) : Int) = (gd st.w i).1 := by omega
    refine A9 (Ac (Ah (A2 (Ab (y_ (Ae (T U)) (y_ (Ai (T U) isAgg179 (by first | exact c_o)) ?_ U) U)))))
    refine y_ (Ae (T U)) (y_ (Bh (T U) (T U) runUnderlying179 sizeOf178 (by omega) (by first | exact rfl | exact hx.o1.bas (by omega) | exact hx.o2.bas (by omega))) ?_ U) U
    refine y_ (Bk (T U) fa178_1) (y_ (Ai (T U) isAgg9 (by first | exact c_o | exact ((Bz (X := H) (enc := encWS) (sz := 2) (e := 178) (l := st.w) (fun _ => rfl) hx.o2).mono sbt).f (i := i) (by omega) U)) ?_ U) U
    refine e_ (An (.cons (T U) .nil) (bs25_1_0 _)) ?_ U
    rintro _ _ ⟨n51, rfl, rfl⟩
    refine e_ (Bi ((gd st.w i).2) (by' := 16) (by repeat (first | exact LocL.h | apply LocL.t | apply LocL.a)) (T U) (T U) runUnderlying25 runUnderlying25 sizeOf9 typeInfo9 U zeroValue9 U (fun _ => rfl) U ho12 (by decide) (by omega)) ?_ U
    rintro _ _ ⟨d', rfl, hokd, rfl⟩
    refine y_ (Ad (T U)) (Af (Bm (Ac (Ab (y_ (Ai (T U) isAgg179 (by first | exact c_o)) ?_ U))))) U
    refine y_ (Ae (T U)) (y_ (Bh (T U) (T U) runUnderlying179 sizeOf178 (by omega) (by first | exact rfl | exact hx.o1.bas (by omega) | exact hx.o2.bas (by omega))) ?_ U) U
    refine y_ (Bp (T U) fa178_0) (y_ (Ai (T U) isAgg3 (by first | exact c_o | exact ((Bz (X := H) (enc := encWS) (sz := 2) (e := 178) (l := st.w) (fun _ => rfl) hx.o2).mono sbt).f0 (i := i) (by omega) U)) ?_ U) U
    refine y_ (Ad (T U)) (Af ?_) U
    refine Bs (((gd st.w i).1.toNat, ol ++ [(gd st.w i).2], d')) ?_ ?_ ⟨(by first | exact Aa U | (refine Aj (Aa U) (vint ?_); omega) | (refine Aj (Aa U) ?_; simp; done) | (refine Aj (Aa U) ?_; exact by simp only [List.length_append, List.length_cons, List.length_nil])), (by first | exact Aa U | (refine Aj (Aa U) (vint ?_); omega) | (refine Aj (Aa U) ?_; simp; done) | (refine Aj (Aa U) ?_; exact by simp only [List.length_append, List.length_cons, List.length_nil])), trivial⟩ ⟨Aa U, trivial⟩ ?_
    ·refine ⟨by omega, by simpa using hokd, ?_, by simp; omega⟩
     rw [← hbk, backF_succ st.w i i, if_pos c39, backF_fuel hb.back i _ (by omega) (by omega)]
     simp
    ·show (gd st.w i).1.toNat < i; omega
    ·exact sbt
   ·have hfin : ol = backF st.w (k + 1) k := by rw [← hbk, backF_succ, if_neg c39, List.append_nil]
    refine B7 (A4 (A8 (Ba (Ac (Ah (Ab (y_ (Ae (T U)) (e_ (Av (.cons (T U) .nil) call119 (Bn (slH d12 (ol.flatMap encS) 9) (by repeat (first | exact LocL.h | apply LocL.t | apply LocL.a)) ((revS_s d12 ol ho12 (by omega)).toL))) ?_ U) U)))))))
    rintro _ _ ⟨_, rfl, rfl⟩
    refine Af (Ac (Ah (Ab (y_ (Ae (T U)) (y_ (Ad (T U)) (y_ (Ad Ak) (Af (Ac (A5 (Ao (Aw (Ao (B9 (Aw (Ao (A6 U (.tmp (Aa U) (.tmp (Aa U) .nil)) ?_)))))))))) U) U) U))))
    rw [hres]; subst hfin
    exact ⟨_, ⟨(d12, Mg2), ⟨by rw [List.length_reverse]; rfl, by rw [List.length_reverse]; exact ho12, hG2⟩, rfl⟩, sbt⟩
  ·refine A9 (Ac (Ab (y_ (Ae (T U)) (y_ (Ai (T U) isAgg176 (by first | exact c_o)) ?_ U) U)))
   refine y_ (Ai (T U) isAgg3 (by first | exact c_o)) ?_ U
   refine y_ (Bh (T U) (T U) runUnderlying176 sizeOf115 (by omega) (by first | exact rfl | exact hx.o1.bas (by omega) | exact hx.o2.bas (by omega))) ?_ U
   refine y_ (Am (T U) isAgg115 sizeOf115 U (by first | exact ((Bz (X := H) (enc := encPl) (sz := 2) (e := 115) (l := st.l) (fun _ => rfl) hx.o1).mono sbt).cs (i := k) (by omega) | exact Bc)) ?_ U
   refine y_ (Cc (.cons (T U) (.cons (T U) (.cons (T U) (.cons (T U) .nil))))) ?_ U
   refine e_ (C4 (T U) (.cons (T U) (.cons (T U) .nil)) hnf (Bn (bsHS n18 n9 n8 st x) locBSS (hnext (gd st.l k) hpk 120 [.pointer (some ⟨n10, 0, none⟩), .pointer (some ⟨n8, 0, none⟩), .pointer (some ⟨n9, 0, none⟩), .pointer (some ⟨m11, 0, none⟩)] (fun j M => ∃ y, bsOkS (visAll k st ((ts (gd st.l k)).take j)) y ∧ M = bsHS n18 n9 n8 (visAll k st ((ts (gd st.l k)).take j)) y) _ _ (hH0.trans (by exact sbt)) call120 ⟨x, hx, rfl⟩ (vspS hb hkl (hts _ hpk) hN (by omega) fdd fdd)))) ?_ U
   rintro _ _ ⟨_, ⟨y, hy, rfl⟩, rfl⟩
   rw [List.take_length] at hy ⊢
   rw [bsHS_app]
   refine Af (Bm (Ac (Ah (Ah (Ab (y_ (Ai (T U) isAgg3 (by first | exact c_o)) ?_ U))))))
   refine Af (Ac (Bt [(1, _), (2, _), (8, _), (9, _), (10, _), (63, _)] ⟨Aa U, Aa U, Aa U, Aa U, Aa U, Aa U, trivial⟩ (Ab (e_ (Ap zeroValue3 cs_) ?_ U))))
   rintro _ _ ⟨n11, rfl, rfl⟩
   first | refine A0 (As (T U) (T U) sizeOf3) U Ag ?_ | refine A0 (B6 (T U) (T U) U sizeOf3) U Ag ?_ | refine A0 (By (T U) (T U) U sizeOf3) U Ag ?_
   rintro _ _ ⟨rfl, rfl⟩
   refine Af (Ac (Ab (y_ (Ai (T U) isAgg3 (by first | exact c_o)) ?_ U)))
   refine y_ (Bv (T U) Ak (by omega)) ?_ U
   first | refine A0 (As (T U) (T U) sizeOf3) U Ag ?_ | refine A0 (B6 (T U) (T U) U sizeOf3) U Ag ?_ | refine A0 (By (T U) (T U) U sizeOf3) U Ag ?_
   rintro _ _ ⟨rfl, rfl⟩
   refine Af ?_
   refine Bs ((k + 1, visAll k st (ts (gd st.l k)), y, n11, Mg2)) ?_ ?_ ⟨(by first | exact Aa U | (refine Aj (Aa U) (vint ?_); omega) | (refine Aj (Aa U) ?_; simp; done) | (refine Aj (Aa U) ?_; exact by simp only [List.length_append, List.length_cons, List.length_nil])), trivial⟩ ⟨Aa U, Aa U, Aa U, Aa U, Aa U, trivial⟩ ?_
   ·obtain ⟨hb2, hge⟩ := hb.visAll (k' := k) (ts (gd st.l k)) hkl (hts _ hpk)
    refine ⟨⟨hb2.nd, hb2.ok, hb2.len, hb2.back, by omega⟩, hy, ?_, ?_⟩
    ·rw [visAll_pre _ _ (by omega), List.take_add_one, C7 hkl]; exact hG2
    ·rw [← hgo, show N + 1 - k = (N - k) + 1 by omega, goF_succ, if_pos hkl, if_neg (by rw [c32]; decide), show N + 1 - (k + 1) = N - k by omega]
   ·show N + 1 - (k + 1) < N + 1 - k; omega
   ·exact sbt
 ·have hres : srF ts fnd N p0 = ([], false, st.l) := by
   unfold srF
   rw [← hgo, show N + 1 - k = (N - k) + 1 by omega, goF_succ, if_neg (by omega)]
  refine B7 (A4 (A8 (Ba (Ac (Ah (Ab (y_ (Ad Ak) (y_ (Ad Ak) (Af (Ac (A5 (A6 U (.tmp (Aa U) (.tmp (Aa U) .nil)) ?_)))) U) U)))))))
  rw [hres]
  have hkk : k = st.l.length := by omega
  rw [hkk, List.take_length] at hG
  exact ⟨_, ⟨(.nil, Mg), ⟨rfl, rfl, hG⟩, rfl⟩, sbt⟩
theorem goF_ok {σ : Type} [Inhabited σ] {Pd : Pl → Prop} {ts : Pl → List (Pl × σ)} (hts : ∀ p, Pd p → ∀ x ∈ ts p, Pd x.1) {fnd : Pl → Bool} : ∀ (f k : Nat) (st : BS σ), BSok Pd k st → ∃ k', BSok Pd k' (goF ts fnd f k st).2
 | 0, k, st, h => ⟨k, h⟩
 | f + 1, k, st, h => by
  rw [goF_succ]
  split
  ·rename_i hk
   split
   ·exact ⟨k, h⟩
   ·obtain ⟨h2, h3⟩ := h.visAll (k' := k) (ts (gd st.l k)) hk (hts _ (h.ok _ (A1 hk)))
    exact goF_ok hts f (k + 1) _ ⟨h2.nd, h2.ok, h2.len, h2.back, by omega⟩
  ·exact ⟨k, h⟩
theorem srF_met {σ : Type} [Inhabited σ] {Pd : Pl → Prop} {ts : Pl → List (Pl × σ)} (hts : ∀ p, Pd p → ∀ x ∈ ts p, Pd x.1) {fnd : Pl → Bool} {p0 : Pl} (hp0 : Pd p0) (N : Nat) : (srF ts fnd N p0).2.2.Nodup ∧ ∀ p ∈ (srF ts fnd N p0).2.2, Pd p := by
 obtain ⟨k', h⟩ := goF_ok hts (fnd := fnd) (N + 1) 0 ⟨[p0], [(-1, default)]⟩ (bs_start hp0)
 unfold srF
 cases hg : goF ts fnd (N + 1) 0 ⟨[p0], [(-1, default)]⟩ with
 | mk a st =>
  rw [hg] at h
  cases a with
  | none => exact ⟨h.nd, h.ok⟩
  | some k => exact ⟨h.nd.sublist (List.take_sublist _ _), fun p hp => h.ok p (List.mem_of_mem_take hp)⟩
theorem searchI_at {w0 : World} {H H0 : List (Nat × Obj)} (nf ff : FuncId) (ncap fcap : List Value) (Pd : Pl → Prop) (ts : Pl → List (Pl × Nat)) (fnd : Pl → Bool) (G : List Pl → List (Nat × Obj) → Prop) (N : Nat) (p0 : Pl) (Mg0 : List (Nat × Obj))
  (hnf : Enters nf) (hff : Enters ff) (hnext : NextI w0 H0 nf ncap Pd ts) (hfound : FoundS w0 H0 ff fcap Pd fnd G) (hts : ∀ p, Pd p → ∀ x ∈ ts p, Pd x.1) (hN : ∀ l : List Pl, l.Nodup → (∀ p ∈ l, Pd p) → l.length ≤ N) (hN2 : N ≤ 50000) (hp0 : Pd p0) (hG0 : G [] Mg0) (hH0 : H0.Sublist H) :
  FSpec Tryz.prog w0 78 #[.agg (encPl p0).toArray, .func (.func nf) #[] ncap.toArray, .func (.func ff) #[] fcap.toArray] (Mg0 ++ H) (fun v H' => ∃ x : Sl × List (Nat × Obj), (v = .tuple #[slV x.1 (srF ts fnd N p0).1.length, .bool (srF ts fnd N p0).2.1] ∧ SlOk x.1 (srF ts fnd N p0).1.length 1 ∧ G (srF ts fnd N p0).2.2 x.2) ∧ H' = (slH x.1 ((srF ts fnd N p0).1.flatMap encU) 3 ++ x.2) ++ H) :=
 (searchI_s nf ff ncap fcap Pd ts fnd G N p0 Mg0 hnf hff hnext hfound hts hN hN2 hp0 hG0 hH0).mono fun v H' ⟨x, h1, h2⟩ => ⟨x, h1, by rw [List.append_assoc]; exact h2⟩
end Go.Proofs.YtkdolgnpkjihpaaGreatDoor
namespace Go.Proofs.YtkdolgnpkjihpaaGreatDoor
open _root_.Go.Proofs.Tryz
open Go.RowKit
set_option linter.unusedVariables false
set_option linter.unusedSimpArgs false
theorem bd74_0_1 (a0 : Int) (a1 : Int) (w : World) : (Instr.build 74 #[(0, .int .i64 a0), (1, .int .i64 a1)]).run Tryz.prog w = .ok (.agg #[.int .i64 a0, .int .i64 a1]) w := by kernel_rfl
theorem fa138_0 (b o : Nat) (w : World) : (Instr.fieldAt 138 (.pointer (some ⟨b, o, none⟩)) 0).run Tryz.prog w = .ok (.pointer (some ⟨b, o, none⟩)) w := by kernel_rfl
theorem fa56_0 (b o : Nat) (w : World) : (Instr.fieldAt 56 (.pointer (some ⟨b, o, none⟩)) 0).run Tryz.prog w = .ok (.pointer (some ⟨b, o, none⟩)) w := by kernel_rfl
theorem fa74_0 (b o : Nat) (w : World) : (Instr.fieldAt 74 (.pointer (some ⟨b, o, none⟩)) 0).run Tryz.prog w = .ok (.pointer (some ⟨b, o, none⟩)) w := by kernel_rfl
theorem fa74_1 (b o : Nat) (w : World) : (Instr.fieldAt 74 (.pointer (some ⟨b, o, none⟩)) 1).run Tryz.prog w = .ok (.pointer (some ⟨b, o + 1, none⟩)) w := by kernel_rfl
def nmF (n : Nn) (x : Nat) : ByteArray := (gd n.nodes x).name
def mvF (n : Nn) (m : PM) (s : Nat) (l : Nat) : Pl × Nat := (((gd n.links l).dst, afterF m s (nmF n (gd n.links l).dst)), l)
def movK (n : Nn) (f : Flr) (m : PM) (p : Pl) (i : Nat) : List (Pl × Nat) := (((outF n p.1).take i).filter (upF n f)).map (mvF n m p.2)
def movesF (n : Nn) (f : Flr) (m : PM) (p : Pl) : List (Pl × Nat) := ((outF n p.1).filter (upF n f)).map (mvF n m p.2)
theorem movK_yes {n : Nn} {f : Flr} {m : PM} {p : Pl} {i : Nat} (h : i < (outF n p.1).length) (hu : upF n f (gd (outF n p.1) i) = true) : movK n f m p (i + 1) = movK n f m p i ++ [mvF n m p.2 (gd (outF n p.1) i)] := by
 unfold movK; rw [List.take_add_one, C7 h, List.filter_append, List.map_append]; simp [hu]
theorem movK_no {n : Nn} {f : Flr} {m : PM} {p : Pl} {i : Nat} (h : i < (outF n p.1).length) (hu : upF n f (gd (outF n p.1) i) = false) : movK n f m p (i + 1) = movK n f m p i := by
 unfold movK; rw [List.take_add_one, C7 h, List.filter_append]; simp [hu]
theorem movK_get {n : Nn} {f : Flr} {m : PM} {p : Pl} {i : Nat} (h : i < (outF n p.1).length) (hu : upF n f (gd (outF n p.1) i) = true) : (movesF n f m p)[(movK n f m p i).length]? = some (mvF n m p.2 (gd (outF n p.1) i)) := by
 have e : movesF n f m p = movK n f m p (i + 1) ++ (((outF n p.1).drop (i + 1)).filter (upF n f)).map (mvF n m p.2) := by
  unfold movesF movK; rw [← List.map_append, ← List.filter_append, List.take_append_drop]
 rw [e, movK_yes h hu, List.append_assoc, List.getElem?_append_right (Nat.le_refl _)]
 simp
theorem movK_all {n : Nn} {f : Flr} {m : PM} {p : Pl} : movK n f m p (outF n p.1).length = movesF n f m p := by
 unfold movK movesF; rw [List.take_length]
def PlOk (n : Nn) (m : PM) (p : Pl) : Prop := p.1 < n.nodes.length ∧ p.2 < m.next.length
theorem moves_ok {n : Nn} (hok : NnOk n) {f : Flr} {m : PM} (hp : PMok m) (p : Pl) (h : PlOk n m p) : ∀ x ∈ movesF n f m p, PlOk n m x.1 := by
 intro x hx
 unfold movesF at hx
 simp only [List.mem_map, List.mem_filter] at hx
 obtain ⟨l, ⟨hl, _⟩, rfl⟩ := hx
 have h1 := ((mem_outK n p.1 l n.links.length).1 hl).1
 exact ⟨(hok.ends _ (A1 h1)).2, after_lt hp h.2 _⟩
theorem pl_few (n : Nn) (m : PM) : ∀ l : List Pl, l.Nodup → (∀ p ∈ l, PlOk n m p) → l.length ≤ n.nodes.length * m.next.length := fun l h1 h2 => grid_few h1 h2
def fndF (to : Nat) (m : PM) (p : Pl) : Bool := decide (p.1 = to) && gd m.acc p.2
structure Env (w0 : World) (H : List (Nat × Obj)) (n : Nn) (f : Flr) (m : Mc) : Prop where
 n : NetR w0 H n
 f : Arr w0 H f.q 1 encI f.links
 m : McOk w0 H m
theorem Env.mono {w0 : World} {H H' : List (Nat × Obj)} {n : Nn} {f : Flr} {m : Mc} (h : Env w0 H n f m) (hs : H.Sublist H' := by exact sbt) : Env w0 H' n f m := ⟨h.n.mono hs, h.f.mono hs, h.m.mono hs⟩
structure EnvOk (n : Nn) (f : Flr) (m : Mc) : Prop where
 on : NnOk n
 fl : f.links.length ≤ 4611686018427387903
 om : PMok m.pl
 sr : Srt m.names
 ln : m.names.length ≤ 4611686018427387903
theorem begin_s {w0 : World} {H : List (Nat × Obj)} (n : Nn) (m : Mc) (hn : NetR w0 H n) (hm : McOk w0 H m) (hp : PMok m.pl) (hsr : Srt m.names) (hl : m.names.length ≤ 4611686018427387903) (x : Nat) (hx : x < n.nodes.length) :
  FSpec Tryz.prog w0 79 #[.agg (encNn n).toArray, .agg (encMc m).toArray, .int .i64 (x : Int)] H (Still (.agg (encPl (x, afterF m.pl 0 (nmF n x))).toArray) H) := by
 refine A7 Tryz.func79 U ntmps79 U (Ah (Ab (e_ (Bf (T U) cs_) ?_ U)))
 rintro _ _ ⟨n3, rfl, rfl⟩
 refine e_ (Bf (T U) cs_) ?_ U
 rintro _ _ ⟨n4, rfl, rfl⟩
 refine e_ (Ap zeroValue74 cs_) ?_ U
 rintro _ _ ⟨n6, rfl, rfl⟩
 refine Af (Ac (Ah (Cv 10 [(0, true), (1, true), (2, true), (3, true), (4, true), (5, true), (6, true), (7, true), (8, true), (9, true)] _ mixd (by kernel_rfl) sb0 ?_)))
 refine o_y U (Ae (T U)) (o_y U (Am (T U) isAgg29 sizeOf29 U (by first | exact Bc | exact (hn.nodes.mono sbt).f0 (i := x) hx U)) ?_ U Ag) U Ag
 refine o_y U (Bp (T U) fa56_0) (o_y U (Ai (T U) isAgg52 (by first | exact c_o | exact (hn.nodes.mono sbt).f0 (i := x) hx U)) ?_ U Ag) U Ag
 refine o_y U (Ae (T U)) (o_y U (Bh (T U) (T U) runUnderlying52 sizeOf138 (by omega) (by first | exact rfl | exact hn.nodes.b (i := x) hx)) ?_ U Ag) U Ag
 refine o_y U (Bp (T U) fa138_0) (o_y U (Ai (T U) isAgg9 (by first | exact c_o | exact (hn.nodes.mono sbt).f0 (i := x) hx U)) ?_ U Ag) U Ag
 refine o_y U (Aq (.cons (T U) (.cons Ak (.cons (T U) .nil))) call69 (fun H' hs => after_s m (hm.mono (List.Sublist.trans sbt hs)) hp hsr hl 0 (by have := hp.some'; rw [show m.pl.next.length = m.rows.length from List.length_map ..] at this; exact this) _)) ?_ U Ag
 refine o_y U (Bq (.cons (T U) (.cons (T U) .nil)) (bd74_0_1 _ _)) (B5 U ?_) U Ag
 first | refine A0 (As (T U) (T U) sizeOf74) U Ag ?_
 rintro _ _ ⟨rfl, rfl⟩
 refine Af (Ac (A5 (A6 U (.cellA (Aa U) isAgg74 sizeOf74 U (by first | exact Bc | exact (hn.nodes.mono sbt).f0 (i := x) hx U) .nil) ?_)))
 exact ⟨_, ⟨rfl, rfl⟩, sbt⟩
theorem moves1_s {w0 : World} {H0 : List (Nat × Obj)} (n : Nn) (f : Flr) (m : Mc) (he : Env w0 H0 n f m) (ho : EnvOk n f m) (b3 b4 b5 : Nat) (h3 : Fnd H0 b3 (Cl (encNn n) 56)) (h4 : Fnd H0 b4 (Cl (encFl f) 58)) (h5 : Fnd H0 b5 (Cl (encMc m) 29)) :
  NextI w0 H0 127 [.pointer (some ⟨b3, 0, none⟩), .pointer (some ⟨b4, 0, none⟩), .pointer (some ⟨b5, 0, none⟩)] (PlOk n m.pl) (movesF n f m.pl) := by
 intro p hpd vf vcap S M0 H hH0 hvf hS0 hv
 show FSpec Tryz.prog w0 127 #[.agg (encPl p).toArray, .func (.func vf) #[] vcap.toArray, .pointer (some ⟨b3, 0, none⟩), .pointer (some ⟨b4, 0, none⟩), .pointer (some ⟨b5, 0, none⟩)] (M0 ++ H) _
 have hok := ho.on
 have hfL := hok.fewL
 have hol : (outF n p.1).length ≤ n.links.length := outK_len n p.1 n.links.length
 have hrl : m.pl.next.length = m.rows.length := List.length_map ..
 have hp2 : p.2 < m.rows.length := by have := hpd.2; omega
 refine A7 Tryz.func127 U ntmps127 U (Ah (Ab (e_ (Bf (T U) cs_) ?_ U)))
 rintro _ _ ⟨n5, rfl, rfl⟩
 refine Af (Ac (Ah (Ab (y_ (Am (T U) isAgg56 sizeOf56 U (by first | exact cs_m (cells_own h3) (hH0.trans (by exact sbt)) | exact Bc)) ?_ U))))
 refine y_ (Bp (T U) fa74_0) (y_ (Ai (T U) isAgg3 (by first | exact c_o)) ?_ U) U
 refine e_ (Av (.cons (T U) (.cons (T U) .nil)) call128 (gout_s n (he.n.mono (hH0.trans (by exact sbt))) hok p.1)) ?_ U
 rintro _ _ ⟨dq, ⟨rfl, hdq⟩, rfl⟩
 refine y_ (Bw (T U) runUnderlying42) (y_ (Ae Ak) (Af (Ac (A2 ?_))) U) U
 refine Cn (X := Nat × List (Nat × Obj)) (V := fun ⟨i, M⟩ => [(15, .int .i64 (i : Nat))]) (C := [(1, _), (2, _), (3, _), (4, _), (5, _), (13, _), (14, _)]) (G := fun ⟨i, M⟩ => slH dq ((outF n p.1).flatMap encU) 3 ++ ((n5, Cl (encPl p) 74) :: (M ++ H))) (φ := fun ⟨i, M⟩ => i ≤ (outF n p.1).length ∧ S (movK n f m.pl p i).length M) (μ := fun ⟨i, M⟩ => (outF n p.1).length - i) (x0 := (0, M0)) ?_ ⟨Aa rfl, Aa rfl, Aa rfl, Aa rfl, Aa rfl, Aa rfl, Aa rfl, trivial⟩ ⟨atd, trivial⟩ sb0 ?_
 ·exact ⟨Nat.zero_le _, hS0⟩
 rintro ⟨i, M⟩ ⟨hi, hS⟩
 refine Ah (Ab (y_ (B4 (T U) (T U)) (Af (Ac (Ah ?_))) U))
 first | refine Au (Aa U) (fun c16 => ?_) (fun c16 => ?_) | refine Bb (Aa U) (fun c16 => ?_) (fun c16 => ?_)
 ·have hli := (mem_outK n p.1 (gd (outF n p.1) i) n.links.length).1 (A1 (show i < (outF n p.1).length by omega))
  have hll := hli.1
  have hdd := (hok.ends _ (A1 hll)).2
  refine A9 (Ac (Ah (A2 (Ah (Ab (y_ (Bh (T U) (T U) runUnderlying42 sizeOf3 (by omega) (by first | exact rfl | exact hdq.bas (by omega) | exact he.n.links.b (i := gd (outF n p.1) i) hll | exact he.n.nodes.b (i := (gd n.links (gd (outF n p.1) i)).dst) hdd)) ?_ U))))))
  refine y_ (Ai (T U) isAgg3 (by first | exact c_o | exact cell1 (((Bz (X := H) (enc := encU) (sz := 1) (e := 3) (l := outF n p.1) (fun _ => rfl) hdq).mono sbt).cs (i := i) (by omega)))) ?_ U
  refine y_ (Ad (T U)) (Af (Ac (Ah (Ab (y_ (Am (T U) isAgg56 sizeOf56 U (by first | exact cs_m (cells_own h3) (hH0.trans (by exact sbt)) | exact Bc)) ?_ U))))) U
  refine y_ (Am (T U) isAgg58 sizeOf58 U (by first | exact cs_m (cells_own h4) (hH0.trans (by exact sbt)) | exact Bc)) ?_ U
  refine y_ (Ae (T U)) (y_ (Aq (.cons (T U) (.cons (T U) (.cons (T U) .nil))) call39 (fun H' hs => gup_s n (he.n.mono ((hH0.trans (by exact sbt)).trans hs)) f (he.f.mono ((hH0.trans (by exact sbt)).trans hs)) ho.fl (gd (outF n p.1) i) hll)) ?_ U) U
  refine Af (Ac ?_)
  first | refine Au (Aa U) (fun c22 => ?_) (fun c22 => ?_) | refine Bb (Aa U) (fun c22 => ?_) (fun c22 => ?_)
  ·refine Ah (Ab (y_ (Bk (T U) fa56_1) (y_ (Ai (T U) isAgg53 (by first | exact c_o | exact c_o (hf := h3.mono (hH0.trans (by exact sbt))))) ?_ U) U))
   refine y_ (Ae (T U)) (y_ (Bh (T U) (T U) runUnderlying53 sizeOf71 (by omega) (by first | exact rfl | exact hdq.bas (by omega) | exact he.n.links.b (i := gd (outF n p.1) i) hll | exact he.n.nodes.b (i := (gd n.links (gd (outF n p.1) i)).dst) hdd)) ?_ U) U
   refine y_ (Bk (T U) fa71_1) (y_ (Ai (T U) isAgg3 (by first | exact c_o | exact ((he.n.links.mono (hH0.trans (by exact sbt))).f (i := gd (outF n p.1) i) hll U))) ?_ U) U
   refine y_ (Ad (T U)) (Af (Ac (Cv 14 [(0, true), (1, true), (2, true), (3, true), (4, true), (5, true), (6, true), (7, true), (8, true), (9, true), (10, true), (11, true), (12, true), (13, true)] _ mixd (by kernel_rfl) sb0 ?_))) U
   refine o_y U (Ae (T U)) (o_y U (Ae (T U)) (o_y U (Am (T U) isAgg29 sizeOf29 U (by first | exact cs_m (cells_own h5) (hH0.trans (by exact sbt)) | exact Bc)) ?_ U Ag) U Ag) U Ag
   refine o_y U (Bk (T U) fa74_1) (o_y U (Ai (T U) isAgg3 (by first | exact c_o)) ?_ U Ag) U Ag
   refine o_y U (Bp (T U) fa56_0) (o_y U (Ai (T U) isAgg52 (by first | exact c_o | exact c_o (hf := h3.mono (hH0.trans (by exact sbt))))) ?_ U Ag) U Ag
   refine o_y U (Ae (T U)) (o_y U (Bh (T U) (T U) runUnderlying52 sizeOf138 (by omega) (by first | exact rfl | exact hdq.bas (by omega) | exact he.n.links.b (i := gd (outF n p.1) i) hll | exact he.n.nodes.b (i := (gd n.links (gd (outF n p.1) i)).dst) hdd)) ?_ U Ag) U Ag
   refine o_y U (Bp (T U) fa138_0) (o_y U (Ai (T U) isAgg9 (by first | exact c_o | exact ((he.n.nodes.mono (hH0.trans (by exact sbt))).f0 (i := (gd n.links (gd (outF n p.1) i)).dst) hdd U))) ?_ U Ag) U Ag
   refine o_y U (Aq (.cons (T U) (.cons (T U) (.cons (T U) .nil))) call69 (fun H' hs => after_s m (he.m.mono ((hH0.trans (by exact sbt)).trans hs)) ho.om ho.sr ho.ln p.2 hp2 _)) ?_ U Ag
   refine o_y U (Bq (.cons (T U) (.cons (T U) .nil)) (bd74_0_1 _ _)) (o_y U (Ae (T U)) (B5 U (e_ (C4 (T U) (.cons (T U) (.cons (T U) .nil)) hvf (Bn M (by repeat (first | exact LocL.h | apply LocL.t | apply LocL.a)) (hv (movK n f m.pl p i).length (mvF n m.pl p.2 (gd (outF n p.1) i)) M _ (movK_get (by omega) c22) (by exact sbt) hS))) ?_ U)) U Ag) U Ag
   rintro _ _ ⟨M2, hS2, rfl⟩
   refine Af (Bm (Ac (Bt [(1, _), (2, _), (3, _), (4, _), (5, _), (13, _), (14, _), (15, _)] ⟨Aa U, Aa U, Aa U, Aa U, Aa U, Aa U, Aa U, Aa U, trivial⟩ (Ab (y_ (Bv (T U) Ak (by omega)) ?_ U)))))
   refine y_ (Ae (T U)) (Af ?_) U
   refine Bs ((i + 1, M2)) ?_ ?_ ⟨atd, trivial⟩ ⟨Aa U, Aa U, Aa U, Aa U, Aa U, Aa U, Aa U, trivial⟩ ?_
   ·exact ⟨by omega, by rw [movK_yes (by omega) c22, List.length_append]; exact hS2⟩
   ·first | omega | (simp only []; omega)
   ·exact sbt
  ·refine A9 (Bm (Ac (Ab (y_ (Bv (T U) Ak (by omega)) ?_ U))))
   refine y_ (Ae (T U)) (Af ?_) U
   refine Bs ((i + 1, M)) ?_ ?_ ⟨atd, trivial⟩ ⟨Aa U, Aa U, Aa U, Aa U, Aa U, Aa U, Aa U, trivial⟩ ?_
   ·exact ⟨by omega, by rw [movK_no (by omega) c22]; exact hS⟩
   ·first | omega | (simp only []; omega)
   ·exact sbt
 ·refine B7 (A4 (A8 (Ba (C8 U .nil ?_))))
  have hi2 : i = (outF n p.1).length := by omega
  rw [hi2, movK_all] at hS
  exact ⟨_, ⟨M, hS, rfl⟩, sbt⟩
end Go.Proofs.YtkdolgnpkjihpaaGreatDoor
namespace Go.Proofs.YtkdolgnpkjihpaaGreatDoor
open _root_.Go.Proofs.Tryz
open Go.RowKit Go.Sort Go.Shelf Go.Proofs
set_option linter.unusedVariables false
set_option linter.unusedSimpArgs false
section
variable {α : Type} [Inhabited α] {enc : α → List Value} {k : Nat}
theorem flat_get2 (he : ∀ x, (enc x).length = k) (l : List α) (t : Nat) (ht : t < l.length * k) : (l.flatMap enc)[t]? = some ((enc l[t / k]!)[t % k]!) := by
  have hk : 0 < k := by rcases Nat.eq_zero_or_pos k with h | h; · subst h; simp at ht
                        · exact h
  have h1 : t / k < l.length := by rw [Nat.div_lt_iff_lt_mul hk]; exact ht
  have h2 : t % k < k := Nat.mod_lt _ hk
  have h3 : l[t / k]? = some l[t / k]! := by simp [h1]
  have h4 : (enc l[t / k]!)[t % k]? = some ((enc l[t / k]!)[t % k]!) := by
    have : t % k < (enc l[t / k]!).length := by rw [he]; exact h2
    rw [List.getElem?_eq_getElem this, getElem!_pos (enc l[t / k]!) (t % k) this]
  have := flat_get he l (t / k) (l[t / k]!) (t % k) ((enc l[t / k]!)[t % k]!) h3 h4
  rw [show t / k * k + t % k = t from by rw [Nat.mul_comm]; exact Nat.div_add_mod t k] at this
  exact this
theorem flatK_list (he : ∀ x, (enc x).length = k) (l : List α) : flatK enc k l.toArray = (l.flatMap enc).toArray := by
 apply Array.ext_getElem?
 intro t
 by_cases ht : t < l.length * k
 ·have h1 := flat_get2 he l t ht
  have h2 : (l.flatMap enc).toArray[t]? = some ((enc l[t / k]!)[t % k]!) := by rw [List.getElem?_toArray]; exact h1
  rw [h2]
  simp [flatK, ht]
 ·rw [Array.getElem?_eq_none (by simp; omega), Array.getElem?_eq_none (by simp only [List.size_toArray]; rw [flat_len he]; omega)]
variable {w0 w : World} {n : Nat} {junk : List Value} {e : TypeId} {X : List (Nat × Obj)}
theorem own_holdsK (he : ∀ x, (enc x).length = k) {l : List α} (hO : Own w0 ((n, Cl (l.flatMap enc ++ junk) e) :: X) w) : HoldsK enc k w n 0 l.toArray := by
 unfold HoldsK
 rw [flatK_list he]
 have : l.flatMap enc = (l.flatMap enc).map id := by simp
 rw [this] at hO
 exact own_holds hO
theorem own_rowK (he : ∀ x, (enc x).length = k) {l l' : List α} (hO : Own w0 ((n, Cl (l.flatMap enc ++ junk) e) :: X) w) (hl : l.length = l'.length) (q : Nat) (os : Array Obj) : Own w0 ((n, Cl (l'.flatMap enc ++ junk) e) :: X) (sortWorldK enc k w n 0 q l'.toArray os) := by
 unfold sortWorldK putRowK
 rw [flatK_list he]
 have e1 : l.flatMap enc = (l.flatMap enc).map id := by simp
 have e2 : l'.flatMap enc = (l'.flatMap enc).map id := by simp
 rw [e1] at hO
 rw [e2]
 have := own_row (enc := id) hO (l' := (l'.flatMap enc)) (by rw [flat_len he, flat_len he, hl]) q os
 simpa using this
end
theorem sorted_list {α : Type} [Inhabited α] {lt : α → α → Bool} {l : List α} {d : Array α} (hp : PermIn 0 l.length l.toArray d) (hs : SortedIn lt 0 l.length d) : d.toList.Perm l ∧ d.toList.Pairwise (fun a b => lt b a = false) := by
 obtain ⟨h1, _, h3⟩ := hp
 have hsz : d.size = l.length := by simpa using h1
 have e1 : d.extract 0 l.length = d := by rw [← hsz]; simp
 have e2 : l.toArray.extract 0 l.length = l.toArray := by simp
 rw [e1, e2] at h3
 refine ⟨h3, ?_⟩
 rw [List.pairwise_iff_getElem]
 intro i j hi hj hij
 have hi' : i < d.size := by simpa using hi
 have hj' : j < d.size := by simpa using hj
 have := hs i j (Nat.zero_le _) hij (by omega)
 rw [getElem!_pos d i hi', getElem!_pos d j hj'] at this
 simpa using this
end Go.Proofs.YtkdolgnpkjihpaaGreatDoor
namespace Go.Proofs.YtkdolgnpkjihpaaGreatDoor
open _root_.Go.Proofs.Tryz
open Go.RowKit
set_option linter.unusedVariables false
set_option linter.unusedSimpArgs false
theorem bs42_2_0_1 (a0 : Int) (a1 : Int) (w : World) : (Instr.buildSlice 42 2 #[(0, .int .i64 a0), (1, .int .i64 a1)]).run Tryz.prog w = .ok (.slice (some ⟨w.heap.size, 0, none⟩) 2 2) (w.alloc (Cl [.int .i64 a0, .int .i64 a1] 3)) := by kernel_rfl
def cmpI (a b : Int) : Int := if a < b then -1 else if b < a then 1 else 0
def orI (l : List Int) : Int := (l.find? fun x => decide (¬ x = 0)).getD 0
def cmpPl (a b : Int × Int) : Int := if ¬ cmpI a.1 b.1 = 0 then cmpI a.1 b.1 else cmpI a.2 b.2
abbrev encPI (p : Int × Int) : List Value := [.int .i64 p.1, .int .i64 p.2]
theorem orI_none : ∀ {l : List Int}, (∀ j, j < l.length → gd l j = 0) → orI l = 0
 | [], _ => rfl
 | x :: l, h => by
  have h0 : x = 0 := h 0 (by simp)
  have := orI_none (l := l) (fun j hj => h (j + 1) (by simpa using hj))
  unfold orI at *
  rw [List.find?_cons]; simp [h0]; simpa using this
theorem orI_some : ∀ {l : List Int} {i : Nat}, i < l.length → (∀ j, j < i → gd l j = 0) → ¬ gd l i = 0 → orI l = gd l i
 | x :: l, 0, _, _, h => by
  have : ¬ x = 0 := h
  show orI (x :: l) = x
  unfold orI; rw [List.find?_cons]; simp [this]
 | x :: l, i + 1, hi, h, h2 => by
  have h0 : x = 0 := h 0 (by omega)
  have := orI_some (l := l) (i := i) (by simpa using hi) (fun j hj => h (j + 1) (by omega)) h2
  rw [show gd (x :: l) (i + 1) = gd l i from rfl]
  unfold orI at *
  rw [List.find?_cons]; simp [h0]; simpa using this
theorem orI_two (x y : Int) : orI [x, y] = if ¬ x = 0 then x else y := by
 unfold orI; rw [List.find?_cons, List.find?_cons]
 by_cases h : x = 0
 ·by_cases h2 : y = 0 <;> simp [h, h2]
 ·simp [h]
theorem own_grown {w w' : World} (h : Own w [] w') : ∃ q os, w' = Sort.grow (w.drewN q) os := by
 refine ⟨w'.drawn - w.drawn, w'.heap.extract w.heap.size w'.heap.size, ?_⟩
 obtain ⟨hb, _, _, _, hd⟩ := h
 have e1 : w.drawn + (w'.drawn - w.drawn) = w'.drawn := by omega
 have e2 : w.heap ++ w'.heap.extract w.heap.size w'.heap.size = w'.heap := by
  apply Array.ext_getElem?
  intro i
  have hs := hb.size
  by_cases hi : i < w.heap.size
  ·rw [Array.getElem?_append_left hi, hb.block i hi]
  ·rw [Array.getElem?_append_right (by omega), Array.getElem?_extract]
   by_cases h2 : i < w'.heap.size
   ·simp only [show i - w.heap.size < min w'.heap.size w'.heap.size - w.heap.size by omega, if_true]
    congr 1; omega
   ·rw [if_neg (by omega)]; simp; omega
 show w' = { heap := w.heap ++ w'.heap.extract w.heap.size w'.heap.size, tape := w.tape, drawn := w.drawn + (w'.drawn - w.drawn), os := w.os, output := w.output }
 rw [e1, e2, ← hb.os, ← hb.tape, ← hb.output]
theorem nanI_s {w0 : World} {H : List (Nat × Obj)} (a : Int) :
  FSpec Tryz.prog w0 157 #[.int .i64 a] H (Still (.bool false) H) := by
 refine A7 Tryz.func157 U ntmps157 U (Ah (Ab (y_ (Ad Ak) (Af (Ac (Ah (Ab (y_ (Ae (T U)) (y_ (Ae (T U)) (y_ (C3 (T U) (T U)) (y_ (Ad (T U)) (Af (Ac (A5 (A6 U (.tmp (Aa U) .nil) ?_)))) U) U) U) U))))) U)))
 exact ⟨_, ⟨vbool (by simp), rfl⟩, sbt⟩
theorem cmpI_s {w0 : World} {H : List (Nat × Obj)} (a b : Int) :
  FSpec Tryz.prog w0 133 #[.int .i64 a, .int .i64 b] H (Still (.int .i64 (cmpI a b)) H) := by
 refine A7 Tryz.func133 U ntmps133 U (Ah (Ab (y_ (Ad Ak) (Af (Ac (Ah (Ab (y_ (Ae (T U)) (y_ (Aq (.cons (T U) .nil) call157 (fun H' hs => nanI_s _)) (y_ (Ad (T U)) (Af (Ac (Ah (Ab (y_ (Ae (T U)) (y_ (Aq (.cons (T U) .nil) call157 (fun H' hs => nanI_s _)) (y_ (Ad (T U)) (Af (Ac (Ah (Ah (Ab (y_ (Ae (T U)) (Af (Ac ?_)) U)))))) U) U) U))))) U) U) U))))) U)))
 first | refine B8 (Aa U) ?_ | refine B8 (Aj (Aa U) (vbool (decide_eq_false c11))) ?_
 refine A9 (Ac (Ah (Ah (Ab (y_ (Ae (T U)) (Af (Ac ?_)) U)))))
 first | refine B8 (Aa U) ?_ | refine B8 (Aj (Aa U) (vbool (decide_eq_false c13))) ?_
 refine A9 (Ac (Ah (Ah (Ab (y_ (Ae (T U)) (y_ (Ae (T U)) (y_ (B4 (T U) (T U)) (Af (Ac ?_)) U) U) U)))))
 first | refine Au (Aa U) (fun c16 => ?_) (fun c16 => ?_) | refine Bb (Aa U) (fun c16 => ?_) (fun c16 => ?_)
 ·refine Ah (Ab (y_ (Ad Ak) (Af (Ac (A5 (Ao (A6 U (.tmp (Aa U) .nil) (⟨_, ⟨vint ?_, rfl⟩, sbt⟩)))))) U))
  unfold cmpI
  first | (rw [if_pos c16]) | (rw [if_neg c16, if_pos (by omega)]) | (rw [if_neg c16, if_neg (by omega)])
 ·refine A9 (Ac (Ah (Ah (Ab (y_ (Ae (T U)) (y_ (Ae (T U)) (y_ (yl_gtr (T U) (T U)) (Af (Ac ?_)) U) U) U)))))
  first | refine Au (Aa U) (fun c19 => ?_) (fun c19 => ?_) | refine Bb (Aa U) (fun c19 => ?_) (fun c19 => ?_)
  ·refine Ah (Ab (y_ (Ad Ak) (Af (Ac (A5 (Ao (A6 U (.tmp (Aa U) .nil) (⟨_, ⟨vint ?_, rfl⟩, sbt⟩)))))) U))
   unfold cmpI
   first | (rw [if_pos c16]) | (rw [if_neg c16, if_pos (by omega)]) | (rw [if_neg c16, if_neg (by omega)])
  ·refine A9 (Ac (Ah (Ab (y_ (Ad Ak) (Af (Ac (A5 (A6 U (.tmp (Aa U) .nil) (⟨_, ⟨vint ?_, rfl⟩, sbt⟩))))) U))))
   unfold cmpI
   first | (rw [if_pos c16]) | (rw [if_neg c16, if_pos (by omega)]) | (rw [if_neg c16, if_neg (by omega)])
theorem orI_s {w0 : World} {H : List (Nat × Obj)} (l : List Int) (q : Option Addr) (c : Nat) (hA : Arr w0 H q 1 encI l) (hlen : l.length ≤ 1000000) :
  FSpec Tryz.prog w0 132 #[.slice q l.length c] H (Still (.int .i64 (orI l)) H) := by
 refine A7 Tryz.func132 U ntmps132 U (Ah (Ab (y_ (Ad Ak) (Af (Ac (Ah (Ab (y_ (Ad Ak) (Af (Ac (Ah (Ah (Ab (y_ (Ae (T U)) (y_ (Bw (T U) runUnderlying42) (y_ (Ae Ak) (Af (Ac (A2 ?_))) U) U) U)))))) U))))) U)))
 refine Co (X := Nat) (V := fun i => [(8, .int .i64 (i : Nat))]) (C := [(3, _), (6, _), (7, _)]) (φ := fun i => i ≤ l.length ∧ ∀ j, j < i → gd l j = 0) (μ := fun i => l.length - i) (x0 := 0) ?_ ⟨Aa U, Aa U, Aa U, trivial⟩ ⟨atd, trivial⟩ ?_
 ·exact ⟨Nat.zero_le _, fun j hj => absurd hj (Nat.not_lt_zero _)⟩
 rintro i ⟨hi, hz⟩
 refine Ah (Ab (y_ (B4 (T U) (T U)) (Af (Ac (Ah ?_))) U))
 first | refine Au (Aa U) (fun c9 => ?_) (fun c9 => ?_) | refine Bb (Aa U) (fun c9 => ?_) (fun c9 => ?_)
 ·refine A9 (Ac (Ah (A2 (Ah (Ab (y_ (Bh (T U) (T U) runUnderlying42 sizeOf3 (by omega) (by first | exact rfl | exact hA.b (i := i) (by omega))) ?_ U))))))
  refine y_ (Ai (T U) isAgg3 (by first | exact c_o | exact cell1 ((hA.mono sbt).cs (i := i) (by omega)))) ?_ U
  refine y_ (Ad (T U)) (Af (Ac (Ah (Ab (y_ (Ae (T U)) (y_ (Ae (T U)) (y_ (C3 (T U) (T U)) (Af (Ac ?_)) U) U) U))))) U
  first | refine Au (Aa U) (fun c14 => ?_) (fun c14 => ?_) | refine Bb (Aa U) (fun c14 => ?_) (fun c14 => ?_)
  ·refine Ah (Ab (y_ (Ae (T U)) (y_ (Ad (T U)) (Af (Ac (A5 (Aw (Ao (B9 (Aw (Ao (A6 U (.tmp (Aa U) .nil) ?_))))))))) U) U))
   exact ⟨_, ⟨vint (by rw [orI_some (by omega) hz (by omega)]), rfl⟩, sbt⟩
  ·refine A9 (Bm (Ac (Ab (y_ (Bv (T U) Ak (by omega)) ?_ U))))
   refine y_ (Ae (T U)) (Af ?_) U
   refine Bs (i + 1) ?_ ?_ ⟨atd, trivial⟩ ⟨Aa U, Aa U, Aa U, trivial⟩ ?_
   ·refine ⟨by omega, fun j hj => ?_⟩
    by_cases e : j = i
    ·subst e; omega
    ·exact hz j (by omega)
   ·first | omega | (simp only []; omega)
   ·exact sbt
 ·refine B7 (A4 (A8 (Ba (Ac (Ah (Ab (y_ (Ae (T U)) (y_ (Ad (T U)) (Af (Ac (A5 (A6 U (.tmp (Aa U) .nil) ?_)))) U) U)))))))
  exact ⟨_, ⟨vint (by rw [orI_none (fun j hj => hz j (by omega))]), rfl⟩, sbt⟩
theorem arr2 {w0 : World} {H : List (Nat × Obj)} {n : Nat} {a b : Int} {t : TypeId} (hf : Fnd H n (Cl [.int .i64 a, .int .i64 b] t)) : Arr w0 H (some ⟨n, 0, none⟩) 1 encI [a, b] := fun i x hi => by
 refine ⟨rfl, fun j v hj => ?_⟩
 match i, hi with
 | 0, hi =>
  have : a = x := by simpa using hi
  subst this
  match j, hj with
  | 0, hj =>
   have : Value.int .i64 a = v := by simpa using hj
   subst this
   exact Cr hf U
 | 1, hi =>
  have : b = x := by simpa using hi
  subst this
  match j, hj with
  | 0, hj =>
   have : Value.int .i64 b = v := by simpa using hj
   subst this
   exact Cr hf U
theorem cmpPl_s {w0 : World} {H : List (Nat × Obj)} (a b : Int × Int) :
  FSpec Tryz.prog w0 90 #[.agg (encPI a).toArray, .agg (encPI b).toArray] H (Still (.int .i64 (cmpPl a b)) H) := by
 refine A7 Tryz.func90 U ntmps90 U (Ah (Ab (e_ (Bf (T U) cs_) ?_ U)))
 rintro _ _ ⟨n2, rfl, rfl⟩
 refine e_ (Bf (T U) cs_) ?_ U
 rintro _ _ ⟨n3, rfl, rfl⟩
 refine y_ (Ad Ak) (Af (Ac (Ah (Cv 11 [(0, true), (1, true), (2, true), (3, true), (4, true), (5, true), (6, true), (7, true), (8, true), (9, true), (10, false)] _ mixd (by kernel_rfl) sb0 ?_)))) U
 refine o_y U (Bp (T U) fa74_0) (o_y U (Ai (T U) isAgg3 (by first | exact c_o)) ?_ U Ag) U Ag
 refine o_y U (Bp (T U) fa74_0) (o_y U (Ai (T U) isAgg3 (by first | exact c_o)) ?_ U Ag) U Ag
 refine o_y U (Aq (.cons (T U) (.cons (T U) .nil)) call133 (fun H' hs => cmpI_s _ _)) (o_y U (Bk (T U) fa74_1) (o_y U (Ai (T U) isAgg3 (by first | exact c_o)) ?_ U Ag) U Ag) U Ag
 refine o_y U (Bk (T U) fa74_1) (o_y U (Ai (T U) isAgg3 (by first | exact c_o)) ?_ U Ag) U Ag
 refine o_y U (Aq (.cons (T U) (.cons (T U) .nil)) call133 (fun H' hs => cmpI_s _ _)) (o_e U (An (.cons (T U) (.cons (T U) .nil)) (bs42_2_0_1 _ _)) ?_ U Ag) U Ag
 rintro _ _ ⟨n15, rfl, rfl⟩
 refine ⟨sbt, (B5 U ?_)⟩
 refine e_ (Av (.cons (T U) .nil) call132 (orI_s [cmpI a.1 b.1, cmpI a.2 b.2] _ _ (arr2 fdd) (by simp))) ?_ U
 rintro _ _ ⟨rfl, rfl⟩
 refine y_ (Ad (T U)) (Af (Ac (A5 (A6 U (.tmp (Aa U) .nil) ?_)))) U
 exact ⟨_, ⟨vint (by rw [orI_two]; rfl), rfl⟩, sbt⟩
def laysSF_ren : Go.Shelf.Ren := ⟨fun | 6 => 89 | 15 => 131 | 14 => 130 | 28 => 155 | 29 => 156 | 20 => 147 | 21 => 148 | 22 => 149 | 23 => 150 | 24 => 151 | 25 => 152 | 26 => 153 | 27 => 154 | 46 => 171 | 47 => 172 | 48 => 173 | 49 => 174 | 50 => 175 | 57 => 186 | n => n, fun | 22 => 59 | 24 => 74 | 25 => 142 | 3 => 3 | 39 => 192 | 0 => 0 | 53 => 214 | 55 => 84 | 4 => 4 | 46 => 208 | 45 => 207 | 50 => 99 | 5 => 5 | 9 => 9 | 66 => 225 | 70 => 229 | 76 => 239 | 77 => 240 | n => n, fun | n => n⟩
theorem laysSF : Go.Proofs.SlLaysF0.n6 Tryz.prog laysSF_ren := {
 mixed := by kernel_rfl,
 f6 := ⟨"slices.SortFunc[[]interlace/api.Place,interlace/api.Place]", by decide, Tryz.func89.trans (congrArg some (by kernel_rfl))⟩,
 f14 := ⟨"slices.pdqsortCmpFunc[interlace/api.Place]", by decide, Tryz.func130.trans (congrArg some (by kernel_rfl))⟩,
 f15 := Tryz.func131.trans (congrArg some (by kernel_rfl)),
 f20 := ⟨"slices.insertionSortCmpFunc[interlace/api.Place]", by decide, Tryz.func147.trans (congrArg some (by kernel_rfl))⟩,
 f21 := ⟨"slices.heapSortCmpFunc[interlace/api.Place]", by decide, Tryz.func148.trans (congrArg some (by kernel_rfl))⟩,
 f22 := ⟨"slices.breakPatternsCmpFunc[interlace/api.Place]", by decide, Tryz.func149.trans (congrArg some (by kernel_rfl))⟩,
 f23 := ⟨"slices.choosePivotCmpFunc[interlace/api.Place]", by decide, Tryz.func150.trans (congrArg some (by kernel_rfl))⟩,
 f24 := ⟨"slices.reverseRangeCmpFunc[interlace/api.Place]", by decide, Tryz.func151.trans (congrArg some (by kernel_rfl))⟩,
 f25 := ⟨"slices.partialInsertionSortCmpFunc[interlace/api.Place]", by decide, Tryz.func152.trans (congrArg some (by kernel_rfl))⟩,
 f26 := ⟨"slices.partitionEqualCmpFunc[interlace/api.Place]", by decide, Tryz.func153.trans (congrArg some (by kernel_rfl))⟩,
 f27 := ⟨"slices.partitionCmpFunc[interlace/api.Place]", by decide, Tryz.func154.trans (congrArg some (by kernel_rfl))⟩,
 f28 := Tryz.func155.trans (congrArg some (by kernel_rfl)),
 f29 := Tryz.func156.trans (congrArg some (by kernel_rfl)),
 f46 := ⟨"slices.siftDownCmpFunc[interlace/api.Place]", by decide, Tryz.func171.trans (congrArg some (by kernel_rfl))⟩,
 f47 := Tryz.func172.trans (congrArg some (by kernel_rfl)),
 f48 := Tryz.func173.trans (congrArg some (by kernel_rfl)),
 f49 := ⟨"slices.medianAdjacentCmpFunc[interlace/api.Place]", by decide, Tryz.func174.trans (congrArg some (by kernel_rfl))⟩,
 f50 := ⟨"slices.medianCmpFunc[interlace/api.Place]", by decide, Tryz.func175.trans (congrArg some (by kernel_rfl))⟩,
 f57 := ⟨"slices.order2CmpFunc[interlace/api.Place]", by decide, Tryz.func186.trans (congrArg some (by kernel_rfl))⟩,
 t0 := underlying0,
 a0 := isAgg0,
 z0 := sizeOf0,
 v0 := zeroValue0,
 t3 := underlying3,
 a3 := isAgg3,
 z3 := sizeOf3,
 v3 := zeroValue3,
 t4 := underlying4,
 a4 := isAgg4,
 z4 := sizeOf4,
 v4 := zeroValue4,
 t5 := underlying5,
 a5 := isAgg5,
 z5 := sizeOf5,
 v5 := zeroValue5,
 t9 := underlying9,
 a9 := isAgg9,
 z9 := sizeOf9,
 v9 := zeroValue9,
 t22 := underlying59,
 a22 := isAgg59,
 z22 := sizeOf59,
 v22 := zeroValue59,
 t25 := underlying142,
 a25 := isAgg142,
 z25 := sizeOf142,
 v25 := zeroValue142,
 t39 := underlying192,
 a39 := isAgg192,
 z39 := sizeOf192,
 v39 := zeroValue192,
 t45 := underlying207,
 a45 := isAgg207,
 z45 := sizeOf207,
 v45 := zeroValue207,
 t46 := underlying208,
 a46 := isAgg208,
 z46 := sizeOf208,
 v46 := zeroValue208,
 t50 := underlying99,
 a50 := isAgg99,
 z50 := sizeOf99,
 v50 := zeroValue99,
 t53 := underlying214,
 a53 := isAgg214,
 z53 := sizeOf214,
 v53 := zeroValue214,
 t55 := underlying84,
 a55 := isAgg84,
 z55 := sizeOf84,
 v55 := zeroValue84,
 t66 := underlying225,
 a66 := isAgg225,
 z66 := sizeOf225,
 v66 := zeroValue225,
 t70 := underlying229,
 a70 := isAgg229,
 z70 := sizeOf229,
 v70 := zeroValue229,
 t76 := underlying239,
 a76 := isAgg239,
 z76 := sizeOf239,
 v76 := zeroValue239,
 t77 := underlying240,
 a77 := isAgg240,
 z77 := sizeOf240,
 v77 := zeroValue240 }
def plLt (a b : Pl) : Prop := a.1 < b.1 ∨ (a.1 = b.1 ∧ a.2 < b.2)
abbrev toI (p : Pl) : Int × Int := ((p.1 : Int), (p.2 : Int))
theorem cmpPl_lt (a b : Int × Int) : cmpPl a b < 0 ↔ a.1 < b.1 ∨ (a.1 = b.1 ∧ a.2 < b.2) := by
 unfold cmpPl cmpI
 by_cases h1 : a.1 < b.1
 ·simp [h1]
 ·by_cases h2 : b.1 < a.1
  ·simp [h1, h2]; omega
  ·have h3 : a.1 = b.1 := by omega
   by_cases h4 : a.2 < b.2
   ·simp [h3, h4]
   ·by_cases h5 : b.2 < a.2 <;> simp [h3, h4, h5]
theorem cmpPl_eq (a b : Int × Int) : cmpPl a b = 0 ↔ a = b := by
 obtain ⟨a1, a2⟩ := a
 obtain ⟨b1, b2⟩ := b
 unfold cmpPl cmpI
 simp only [Prod.mk.injEq]
 by_cases h1 : a1 < b1
 ·simp [h1]; omega
 ·by_cases h2 : b1 < a1
  ·simp [h1, h2]; omega
  ·have h3 : a1 = b1 := by omega
   by_cases h4 : a2 < b2
   ·simp [h3, h4]; omega
   ·by_cases h5 : b2 < a2
    ·simp [h3, h4, h5]; omega
    ·simp [h3, h4, h5]; omega
def cmpQ (x y : Pl) : Int := cmpPl (toI x) (toI y)
instance plDec (a b : Pl) : Decidable (plLt a b) := by unfold plLt; infer_instance
theorem ltQ (x y : Pl) : Go.Proofs.ltOf cmpQ x y = decide (plLt x y) := by
 unfold Go.Proofs.ltOf cmpQ
 refine decide_eq_decide.2 ?_
 rw [cmpPl_lt]
 unfold plLt toI
 simp only []
 omega
theorem swoQ : Go.Sort.SWO (Go.Proofs.ltOf cmpQ) where
 irrefl x := by rw [ltQ]; unfold plLt; simp
 trans x y z h1 h2 := by rw [ltQ, decide_eq_true_iff] at *; unfold plLt at *; omega
 ntrans x y z h1 h2 := by rw [ltQ, decide_eq_false_iff_not] at *; unfold plLt at *; omega
theorem cmpLaysQ (blk off size : Nat) (w : World) : Go.Proofs.CmpLays Tryz.prog 90 #[] encPl 2 cmpQ blk off size w := fun m os dk _ x y => by
 have h := cmpPl_s (w0 := Go.Proofs.sortWorldK encPl 2 w blk off m dk os) (H := []) (toI x) (toI y) _ (Own.start _)
 refine h.mono fun e w' hh => ?_
 obtain ⟨v, H', he, hO, hv, hH⟩ := hh
 subst hv; subst hH
 exact ⟨he, own_grown hO⟩
open Go.Sort Go.Proofs in
theorem sortP_none (p : Option Addr) (cap : Nat) (w : World) :
  Calls Tryz.prog 89 #[.slice p 0 cap, .func (.func 90) #[] #[]] w fun e w' => e = .returned (.tuple #[]) ∧ w' = w := AnyF.slices_SortFunc_none laysSF p cap _ w
open Go.Sort Go.Proofs in
theorem sortP_s {w0 : World} {H : List (Nat × Obj)} (d : Sl) (zs : List Pl) (hok : SlOk d zs.length 2) (hsz : zs.length ≤ 1000000) :
  FSpec Tryz.prog w0 89 #[slV d zs.length, .func (.func 90) #[] #[]] (slH d (zs.flatMap encPl) 74 ++ H) (fun v H' => ∃ ks : List Pl, (v = .tuple #[] ∧ ks.Perm zs ∧ ks.Pairwise (fun a b => ¬ plLt b a)) ∧ H' = slH d (ks.flatMap encPl) 74 ++ H) := fun w hO => by
 cases d with
 | nil =>
  have : zs = [] := List.eq_nil_of_length_eq_zero hok
  subst this
  exact (sortP_none none 0 w).mono fun e w' ⟨he, hw⟩ => ⟨_, _, he, hw ▸ hO, [], ⟨rfl, List.Perm.refl _, List.Pairwise.nil⟩, by simp [slH]⟩
 | blk n cap junk =>
  simp only [slH, List.singleton_append, List.cons_append, List.nil_append, slQ, slC] at hO hsz ⊢
  have hcon := AnyQ.slices_SortFunc laysSF 2 isAgg74 sizeOf74 encPl (fun _ => rfl) (fun x v hv => by simp [encPl] at hv; rcases hv with rfl | rfl <;> rfl) cmpQ swoQ 90 #[] n 0 cap zs.toArray w call90 (cmpLaysQ n 0 zs.toArray.size w) (own_holdsK (enc := encPl) (k := 2) (fun _ => rfl) hO) (own_lt hO) (by simp; omega)
  rw [List.size_toArray] at hcon
  change Calls Tryz.prog 89 _ _ _ at hcon
  refine hcon.mono fun e w' ⟨he, d', q, os, hp, hs, hw⟩ => ?_
  obtain ⟨h1, h2⟩ := sorted_list hp hs
  have hO' := own_rowK (enc := encPl) (k := 2) (l' := d'.toList) (fun _ => rfl) hO h1.length_eq.symm q os
  rw [show d'.toList.toArray = d' by simp] at hO'
  exact ⟨_, _, he, hw ▸ hO', d'.toList, ⟨rfl, h1, h2.imp fun {a b} h => by rw [ltQ, decide_eq_false_iff_not] at h; exact h⟩, rfl⟩
end Go.Proofs.YtkdolgnpkjihpaaGreatDoor
namespace Go.Proofs.YtkdolgnpkjihpaaGreatDoor
open _root_.Go.Proofs.Tryz
open Go.RowKit
set_option linter.unusedVariables false
set_option linter.unusedSimpArgs false
theorem find1_s {w0 : World} {H : List (Nat × Obj)} (m : Mc) (hm : McOk w0 H m) (hp : PMok m.pl) (p : Pl) (hp2 : p.2 < m.rows.length) (to b9 b7 : Nat) (h9 : Fnd H b9 (Cl [.int .i64 (to : Int)] 3)) (h7 : Fnd H b7 (Cl (encMc m) 29)) :
  FSpec Tryz.prog w0 81 #[.agg (encPl p).toArray, .pointer (some ⟨b9, 0, none⟩), .pointer (some ⟨b7, 0, none⟩)] H (Still (.bool (fndF to m.pl p)) H) := by
 refine A7 Tryz.func81 U ntmps81 U ?_
 have hal : m.acc.length = m.rows.length := by have := hp.acc; rw [show m.pl.next.length = m.rows.length from List.length_map ..] at this; exact this
 refine Ah (Ab (e_ (Bf (T U) cs_) ?_ U))
 rintro _ _ ⟨n3, rfl, rfl⟩
 refine y_ (Ad Ak) (Af (Ac (Ah (Ab (y_ (Bp (T U) fa74_0) (y_ (Ai (T U) isAgg3 (by first | exact c_o)) ?_ U) U))))) U
 refine y_ (Ai (T U) isAgg3 (by first | exact c_o | exact c_o (hf := Al h9))) ?_ U
 refine y_ (B3 (T U) (T U)) (y_ (Ae (T U)) ?_ U) U
 first | refine Ci (s := 9) (Aa U) (fun c9 => ?_) (fun c9 => ?_) | refine C1 (s := 9) (Aa U) (fun c9 => ?_) (fun c9 => ?_)
 ·refine Bg (Bk (T U) Dn) U (Ax U U (Aa U)) (Bg (Ai (T U) isAgg27 (by first | exact c_o | exact c_o (hf := Al h7))) U (Ax U U (Aa U)) ?_)
  refine Bg (Bk (T U) fa74_1) U (Ax U U (Aa U)) (Bg (Ai (T U) isAgg3 (by first | exact c_o)) U (Ax U U (Aa U)) ?_)
  refine Bg (Bh (T U) (T U) runUnderlying27 sizeOf4 (by omega) (by first | exact rfl | exact hm.a3.b (i := p.2) (by omega))) U (Ax U U (Aa U)) ?_
  refine Bg (Ai (T U) isAgg4 (by first | exact c_o | exact cell1 ((hm.a3.mono sbt).cs (i := p.2) (by omega)))) U (Ax U U (Aa U)) ?_
  refine y_ (Az (T U) (T U)) (y_ (Ad (T U)) (Af (Ac (A5 (A6 U (.tmp (Aa U) .nil) (⟨_, ⟨vbool ?_, rfl⟩, sbt⟩))))) U) U
  unfold fndF
  first | (rw [decide_eq_true (show p.1 = to by omega)]; rfl) | (rw [decide_eq_false (show ¬ p.1 = to by omega)]; rfl)
 ·refine Cf (Cf (Cf (Cf (Cf (Cf (y_ (Be (T U) Ak) (y_ (Ad (T U)) (Af (Ac (A5 (A6 U (.tmp (Aa U) .nil) (⟨_, ⟨vbool ?_, rfl⟩, sbt⟩))))) U) U) U U U U) U U U U) U U U U) U U U U) U U U U) U U U U
  unfold fndF
  first | (rw [decide_eq_true (show p.1 = to by omega)]; rfl) | (rw [decide_eq_false (show ¬ p.1 = to by omega)]; rfl)
theorem found1_s {w0 : World} {H0 : List (Nat × Obj)} (n : Nn) (m : Mc) (hm : McOk w0 H0 m) (hp : PMok m.pl) (to b9 b7 : Nat) (h9 : Fnd H0 b9 (Cl [.int .i64 (to : Int)] 3)) (h7 : Fnd H0 b7 (Cl (encMc m) 29)) :
  FoundS w0 H0 81 [.pointer (some ⟨b9, 0, none⟩), .pointer (some ⟨b7, 0, none⟩)] (PlOk n m.pl) (fndF to m.pl) (fun _ M => M = []) := by
 rintro p hpd q _ H hs _ rfl
 refine (find1_s (H := H) m (hm.mono hs) hp p (by have := hpd.2; rw [show m.pl.next.length = m.rows.length from List.length_map ..] at this; exact this) to b9 b7 (h9.mono hs) (h7.mono hs)).mono ?_
 rintro v H' ⟨rfl, rfl⟩
 exact ⟨[], ⟨rfl, rfl⟩, rfl⟩
def NPl (n : Nn) (m : PM) : Nat := n.nodes.length * m.next.length
theorem NPl_le {n : Nn} {m : PM} (h : NnOk n) (hp : PMok m) : NPl n m ≤ 2400 := Nat.mul_le_mul h.fewN hp.few
def p0F (n : Nn) (m : PM) (x : Nat) : Pl := (x, afterF m 0 (nmF n x))
theorem p0_ok {n : Nn} {m : PM} (hp : PMok m) {x : Nat} (hx : x < n.nodes.length) : PlOk n m (p0F n m x) := ⟨hx, after_lt hp hp.some' _⟩
def findF (n : Nn) (f : Flr) (m : PM) (x to : Nat) : List Nat × Int := if f.node = x then ([], 18) else (if (srF (movesF n f m) (fndF to m) (NPl n m) (p0F n m x)).2.1 then ((srF (movesF n f m) (fndF to m) (NPl n m) (p0F n m x)).1, 0) else ([], 18))
def metF (n : Nn) (f : Flr) (m : PM) (x : Nat) : List Pl := (srF (movesF n f m) (fun _ => false) (NPl n m) (p0F n m x)).2.2
theorem moves_s {w0 : World} {H : List (Nat × Obj)} (n : Nn) (f : Flr) (m : Mc) :
  FSpec Tryz.prog w0 80 #[.agg (encNn n).toArray, .agg (encFl f).toArray, .agg (encMc m).toArray] H (fun v H' => ∃ b3 b4 b5 : Nat, v = .func (.func 127) #[] #[.pointer (some ⟨b3, 0, none⟩), .pointer (some ⟨b4, 0, none⟩), .pointer (some ⟨b5, 0, none⟩)] ∧ H' = (b5, Cl (encMc m) 29) :: (b4, Cl (encFl f) 58) :: (b3, Cl (encNn n) 56) :: H) := by
 refine A7 Tryz.func80 U ntmps80 U (Ah (Ab (e_ (Bf (T U) cs_) ?_ U)))
 rintro _ _ ⟨n3, rfl, rfl⟩
 refine e_ (Bf (T U) cs_) ?_ U
 rintro _ _ ⟨n4, rfl, rfl⟩
 refine e_ (Bf (T U) cs_) ?_ U
 rintro _ _ ⟨n5, rfl, rfl⟩
 refine y_ (Ad Ak) (Af (Ac (Ah (Ab (y_ (Cc (.cons (T U) (.cons (T U) (.cons (T U) .nil)))) (y_ (Ad (T U)) (Af (Ac (A5 (A6 U (.tmp (Aa U) .nil) ?_)))) U) U))))) U
 exact ⟨_, ⟨_, _, _, rfl, rfl⟩, sbt⟩
theorem find_s {w0 : World} {H : List (Nat × Obj)} (n : Nn) (f : Flr) (m : Mc) (he : Env w0 H n f m) (ho : EnvOk n f m) (x : Nat) (hx : x < n.nodes.length) (to : Nat) :
  FSpec Tryz.prog w0 29 #[.agg (encNn n).toArray, .agg (encFl f).toArray, .agg (encMc m).toArray, .int .i64 (x : Int), .int .i64 (to : Int)] H (fun v H' => ∃ d : Sl, (v = .tuple #[slV d (findF n f m.pl x to).1.length, .int .i64 (findF n f m.pl x to).2] ∧ SlOk d (findF n f m.pl x to).1.length 1) ∧ H' = slH d ((findF n f m.pl x to).1.flatMap encU) 3 ++ H) := by
 refine A7 Tryz.func29 U ntmps29 U (Ah (Ab (e_ (Bf (T U) cs_) ?_ U)))
 rintro _ _ ⟨n5, rfl, rfl⟩
 refine e_ (Bf (T U) cs_) ?_ U
 rintro _ _ ⟨n6, rfl, rfl⟩
 refine e_ (Bf (T U) cs_) ?_ U
 rintro _ _ ⟨n7, rfl, rfl⟩
 refine e_ (Bf (T U) cs_) ?_ U
 rintro _ _ ⟨n9, rfl, rfl⟩
 refine y_ (Ad Ak) (y_ (Ad Ak) (Af (Ac (Ah (Ah (Ab (y_ (Bk (T U) fa58_1) (y_ (Ai (T U) isAgg3 (by first | exact c_o)) ?_ U) U)))))) U) U
 refine y_ (Ae (T U)) (y_ (B3 (T U) (T U)) (Af (Ac ?_)) U) U
 first | refine Au (Aa U) (fun c17 => ?_) (fun c17 => ?_) | refine Bb (Aa U) (fun c17 => ?_) (fun c17 => ?_)
 ·have hff : findF n f m.pl x to = ([], 18) := if_pos c17
  refine Ah (Ab (y_ (Ad Ak) (y_ (Ad Ak) (Af (Ac (A5 (Ao (A6 U (.tmp (Aa U) (.tmp (Aa U) .nil)) ?_))))) U) U))
  rw [hff]; exact ⟨_, ⟨.nil, ⟨rfl, rfl⟩, rfl⟩, sbt⟩
 ·have hfn : findF n f m.pl x to = (if (srF (movesF n f m.pl) (fndF to m.pl) (NPl n m.pl) (p0F n m.pl x)).2.1 then ((srF (movesF n f m.pl) (fndF to m.pl) (NPl n m.pl) (p0F n m.pl x)).1, 0) else ([], 18)) := if_neg c17
  refine A9 (Ac (Ah (Cv 15 [(0, true), (1, true), (2, true), (3, true), (4, true), (5, true), (6, true), (8, true), (7, false), (9, false), (10, true), (11, true), (12, true), (13, true), (14, true)] _ mixd (by kernel_rfl) sb0 ?_)))
  refine o_y U (Am (T U) isAgg56 sizeOf56 U (by first | exact Bc)) ?_ U Ag
  refine o_y U (Am (T U) isAgg29 sizeOf29 U (by first | exact Bc)) ?_ U Ag
  refine o_y U (Ae (T U)) (o_y U (Aq (.cons (T U) (.cons (T U) (.cons (T U) .nil))) call79 (fun H' hs => begin_s n m (he.n.mono (List.Sublist.trans sbt hs)) (he.m.mono (List.Sublist.trans sbt hs)) ho.om ho.sr ho.ln x hx)) (o_y U (Am (T U) isAgg56 sizeOf56 U (by first | exact Bc)) ?_ U Ag) U Ag) U Ag
  refine o_y U (Am (T U) isAgg58 sizeOf58 U (by first | exact Bc)) ?_ U Ag
  refine o_y U (Am (T U) isAgg29 sizeOf29 U (by first | exact Bc)) ?_ U Ag
  refine o_y U (Cc (.cons (T U) (.cons (T U) .nil))) (o_e U (Av (.cons (T U) (.cons (T U) (.cons (T U) .nil))) call80 (moves_s n f m)) ?_ U Ag) U Ag
  rintro _ _ ⟨b3, b4, b5, rfl, rfl⟩
  refine ⟨sbt, ?_⟩
  refine o_e U (Av (.cons (T U) (.cons (T U) (.cons (T U) .nil))) call78 ((searchI_s (H0 := _) 127 81 [.pointer (some ⟨b3, 0, none⟩), .pointer (some ⟨b4, 0, none⟩), .pointer (some ⟨b5, 0, none⟩)] [.pointer (some ⟨n9, 0, none⟩), .pointer (some ⟨n7, 0, none⟩)] (PlOk n m.pl) (movesF n f m.pl) (fndF to m.pl) (fun _ M => M = []) (NPl n m.pl) (p0F n m.pl x) [] call127 call81 (moves1_s n f m (he.mono sbt) ho b3 b4 b5 fdd fdd fdd) (found1_s n m (he.m.mono sbt) ho.om to n9 n7 fdd fdd) (fun p hpp => moves_ok ho.on ho.om p hpp) (pl_few n m.pl) (by have := NPl_le ho.on ho.om; omega) (p0_ok ho.om hx) U (List.Sublist.refl _)))) ?_ U Ag
  rintro _ _ ⟨⟨d, _⟩, ⟨rfl, hd, rfl⟩, rfl⟩
  refine ⟨sbt, (o_y U (Ae (T U)) (o_y U (Ay (T U) U) (o_y U (Ay (T U) U) (o_y U (Ad (T U)) (o_y U (Ad (T U)) (B5 U (Af (Ac (Bt [(12, _), (13, _)] ⟨Aa U, Aa U, trivial⟩ (Ah (Ah (Ab (y_ (Ae (T U)) ?_ U)))))))) U Ag) U Ag) U Ag) U Ag) U Ag)⟩
  first | refine Bg (Ct (T U)) U Ag ?_ | refine Bg (C2 (T U)) U Ag ?_
  refine Af (Ac ?_)
  first | refine Au (Aa U) (fun c32 => ?_) (fun c32 => ?_) | refine Bb (Aa U) (fun c32 => ?_) (fun c32 => ?_)
  ·have hff : findF n f m.pl x to = ([], 18) := by rw [hfn, if_neg (by intro h; rw [h] at c32; cases c32)]
   refine Ah (Ab (y_ (Ad Ak) (y_ (Ad Ak) (Af (Ac (A5 (Ao (A6 U (.tmp (Aa U) (.tmp (Aa U) .nil)) ?_))))) U) U))
   rw [hff]; exact ⟨_, ⟨.nil, ⟨rfl, rfl⟩, rfl⟩, sbt⟩
  ·have hff : findF n f m.pl x to = ((srF (movesF n f m.pl) (fndF to m.pl) (NPl n m.pl) (p0F n m.pl x)).1, 0) := by rw [hfn, if_pos (by simpa using c32)]
   refine A9 (Ac (Ah (Ab (y_ (Ae (T U)) (y_ (Ad (T U)) (y_ (Ad Ak) (Af (Ac (A5 (A6 U (.tmp (Aa U) (.tmp (Aa U) .nil)) ?_)))) U) U) U))))
   rw [hff]; exact ⟨_, ⟨d, ⟨rfl, hd⟩, rfl⟩, sbt⟩
end Go.Proofs.YtkdolgnpkjihpaaGreatDoor
namespace Go.Proofs.YtkdolgnpkjihpaaGreatDoor
open _root_.Go.Proofs.Tryz
open Go.RowKit
set_option linter.unusedVariables false
set_option linter.unusedSimpArgs false
def GR (nb : Nat) (q : List Pl) (M : List (Nat × Obj)) : Prop := ∃ d, SlOk d q.length 2 ∧ M = (nb, Cl [slV d q.length] 59) :: slH d (q.flatMap encPl) 74
theorem reached1_s {w0 : World} {H : List (Nat × Obj)} (nb : Nat) (q : List Pl) (p : Pl) (d : Sl) (hd : SlOk d q.length 2) (hq : q.length ≤ 50000) :
  FSpec Tryz.prog w0 88 #[.agg (encPl p).toArray, .pointer (some ⟨nb, 0, none⟩)] ((nb, Cl [slV d q.length] 59) :: (slH d (q.flatMap encPl) 74 ++ H)) (fun v H' => ∃ e, (v = .bool false ∧ SlOk e (q ++ [p]).length 2) ∧ H' = (nb, Cl [slV e (q ++ [p]).length] 59) :: (slH e ((q ++ [p]).flatMap encPl) 74 ++ H)) := by
 refine A7 Tryz.func88 U ntmps88 U (Ah (Ab (e_ (Bf (T U) cs_) ?_ U)))
 rintro _ _ ⟨n2, rfl, rfl⟩
 refine y_ (Ad Ak) (Af (Ac (Ah (Ab (y_ (Ai (T U) isAgg59 (by first | exact c_o)) ?_ U))))) U
 refine y_ (Am (T U) isAgg74 sizeOf74 U (by first | exact Bc)) ?_ U
 refine e_ (An (.cons (T U) .nil) (bs59_1_0 _ _)) ?_ U
 rintro _ _ ⟨n6, rfl, rfl⟩
 refine e_ (Bi (p) (by' := 16) (by repeat (first | exact LocL.h | apply LocL.t | apply LocL.a)) (T U) (T U) runUnderlying59 runUnderlying59 sizeOf74 typeInfo74 U zeroValue74 U (fun _ => rfl) U hd (by decide) (by omega)) ?_ U
 rintro _ _ ⟨d', rfl, hokd, rfl⟩
 first | refine A0 (As (T U) (T U) sizeOf59) U Ag ?_ | refine A0 (B6 (T U) (T U) U sizeOf59) U Ag ?_ | refine A0 (By (T U) (T U) U sizeOf59) U Ag ?_
 rintro _ _ ⟨rfl, rfl⟩
 refine Af (Ac (Ah (Ab (y_ (Ad Ak) (Af (Ac (A5 (A6 U (.tmp (Aa U) .nil) (⟨_, ⟨d', ⟨rfl, by simpa using hokd⟩, rfl⟩, ?_⟩))))) U))))
 simp only [List.length_append, List.length_cons, List.length_nil, Nat.zero_add]
 exact sbt
theorem foundR_s {w0 : World} {H0 : List (Nat × Obj)} (n : Nn) (m : PM) (nb : Nat) : FoundS w0 H0 88 [.pointer (some ⟨nb, 0, none⟩)] (PlOk n m) (fun _ => false) (GR nb) := by
 rintro p hpd q _ H hs hq ⟨d, hd, rfl⟩
 refine (reached1_s (H := H) nb q p d hd hq).mono ?_
 rintro v H' ⟨e, ⟨rfl, he⟩, rfl⟩
 exact ⟨_, ⟨rfl, e, he, rfl⟩, rfl⟩
theorem met_len {n : Nn} (hok : NnOk n) {f : Flr} {m : PM} (hp : PMok m) {x : Nat} (hx : x < n.nodes.length) : (metF n f m x).length ≤ 2400 := by
 obtain ⟨h1, h2⟩ := srF_met (fnd := fun _ => false) (moves_ok hok (f := f) hp) (p0_ok hp hx) (NPl n m)
 exact Nat.le_trans (pl_few n m _ h1 h2) (NPl_le hok hp)
def Reach (n : Nn) (f : Flr) (m : PM) (x : Nat) (ks : List Pl) : Prop := ks.Perm (if f.node = x then [] else metF n f m x) ∧ ks.Pairwise (fun a b => ¬ plLt b a)
theorem loc4 {a b c d : Nat × Obj} {X : List (Nat × Obj)} : LocL (a :: b :: c :: d :: X) [d] (a :: b :: c :: X) (fun M' => a :: b :: c :: (M' ++ X)) := .t (.t (.t (show LocL ([d] ++ X) [d] X _ from .h)))
theorem reached_s {w0 : World} {H : List (Nat × Obj)} (n : Nn) (f : Flr) (m : Mc) (he : Env w0 H n f m) (ho : EnvOk n f m) (x : Nat) (hx : x < n.nodes.length) :
  FSpec Tryz.prog w0 35 #[.agg (encNn n).toArray, .agg (encFl f).toArray, .agg (encMc m).toArray, .int .i64 (x : Int)] H (fun v H' => ∃ y : Sl × List Pl, (v = slV y.1 y.2.length ∧ SlOk y.1 y.2.length 2 ∧ Reach n f m.pl x y.2) ∧ H' = slH y.1 (y.2.flatMap encPl) 74 ++ H) := by
 refine A7 Tryz.func35 U ntmps35 U (Ah (Ab (e_ (Bf (T U) cs_) ?_ U)))
 rintro _ _ ⟨n4, rfl, rfl⟩
 refine e_ (Bf (T U) cs_) ?_ U
 rintro _ _ ⟨n5, rfl, rfl⟩
 refine e_ (Bf (T U) cs_) ?_ U
 rintro _ _ ⟨n6, rfl, rfl⟩
 refine y_ (Ad Ak) (Af (Ac (Ah (Ah (Ab (y_ (Bk (T U) fa58_1) (y_ (Ai (T U) isAgg3 (by first | exact c_o)) ?_ U) U)))))) U
 refine y_ (Ae (T U)) (y_ (B3 (T U) (T U)) (Af (Ac ?_)) U) U
 first | refine Au (Aa U) (fun c13 => ?_) (fun c13 => ?_) | refine Bb (Aa U) (fun c13 => ?_) (fun c13 => ?_)
 ·refine Ah (Ab (y_ (Ad Ak) (Af (Ac (A5 (Ao (A6 U (.tmp (Aa U) .nil) ?_))))) U))
  exact ⟨_, ⟨(.nil, []), ⟨rfl, rfl, by unfold Reach; rw [if_pos c13]; exact ⟨List.Perm.refl _, List.Pairwise.nil⟩⟩, rfl⟩, sbt⟩
 ·refine A9 (Ac (Ah (Ab (e_ (Ap zeroValue59 cs_) ?_ U))))
  rintro _ _ ⟨n9, rfl, rfl⟩
  refine Af (Ac (Ah (Cv 9 [(0, true), (1, true), (2, true), (3, true), (4, true), (5, true), (6, true), (8, true), (7, false)] _ mixd (by kernel_rfl) sb0 ?_)))
  refine o_y U (Am (T U) isAgg56 sizeOf56 U (by first | exact Bc)) ?_ U Ag
  refine o_y U (Am (T U) isAgg29 sizeOf29 U (by first | exact Bc)) ?_ U Ag
  refine o_y U (Ae (T U)) (o_y U (Aq (.cons (T U) (.cons (T U) (.cons (T U) .nil))) call79 (fun H' hs => begin_s n m (he.n.mono (List.Sublist.trans sbt hs)) (he.m.mono (List.Sublist.trans sbt hs)) ho.om ho.sr ho.ln x hx)) (o_y U (Am (T U) isAgg56 sizeOf56 U (by first | exact Bc)) ?_ U Ag) U Ag) U Ag
  refine o_y U (Am (T U) isAgg58 sizeOf58 U (by first | exact Bc)) ?_ U Ag
  refine o_y U (Am (T U) isAgg29 sizeOf29 U (by first | exact Bc)) ?_ U Ag
  refine o_y U (Cc (.cons (T U) .nil)) (o_e U (Av (.cons (T U) (.cons (T U) (.cons (T U) .nil))) call80 (moves_s n f m)) ?_ U Ag) U Ag
  rintro _ _ ⟨b3, b4, b5, rfl, rfl⟩
  refine ⟨sbt, (B5 U ?_)⟩
  refine e_ (Av (.cons (T U) (.cons (T U) (.cons (T U) .nil))) call78 (Bn [(n9, Cl [.slice none 0 0] 59)] loc4 (searchI_at (H0 := _) 127 88 [.pointer (some ⟨b3, 0, none⟩), .pointer (some ⟨b4, 0, none⟩), .pointer (some ⟨b5, 0, none⟩)] [.pointer (some ⟨n9, 0, none⟩)] (PlOk n m.pl) (movesF n f m.pl) (fun _ => false) (GR n9) (NPl n m.pl) (p0F n m.pl x) [(n9, Cl [.slice none 0 0] 59)] call127 call88 (moves1_s n f m (he.mono sbt) ho b3 b4 b5 fdd fdd fdd) (foundR_s n m.pl n9) (fun p hpp => moves_ok ho.on ho.om p hpp) (pl_few n m.pl) (by have := NPl_le ho.on ho.om; omega) (p0_ok ho.om hx) ⟨.nil, rfl, rfl⟩ (List.Sublist.refl _)))) ?_ U
  rintro _ _ ⟨⟨d1, _⟩, ⟨rfl, hd1, ⟨d, hd, rfl⟩⟩, rfl⟩
  simp only [List.append_assoc, List.cons_append]
  refine Af (Ac (Ah (Ab (y_ (Ai (T U) isAgg59 (by first | exact c_o)) ?_ U))))
  refine e_ (Av (.cons (T U) (.cons ev_f .nil)) call89 (Bn (slH d ((metF n f m.pl x).flatMap encPl) 74) (by repeat (first | exact LocL.h | apply LocL.t | apply LocL.a)) (sortP_s d (metF n f m.pl x) hd (by have := met_len ho.on (f := f) ho.om hx; omega)))) ?_ U
  rintro _ _ ⟨ks, ⟨rfl, hpm, hpw⟩, rfl⟩
  refine Af (Ac (Ah (Ab (y_ (Ai (T U) isAgg59 (by first | exact c_o)) ?_ U))))
  refine y_ (Ad (T U)) (Af (Ac (A5 (A6 U (.tmp (Aa U) .nil) ?_)))) U
  have hll := hpm.length_eq
  refine ⟨_, ⟨(d, ks), ⟨by simp only [hll]; rfl, by simp only [hll]; exact hd, by unfold Reach; rw [if_neg c13]; exact ⟨hpm, hpw⟩⟩, rfl⟩, sbt⟩
end Go.Proofs.YtkdolgnpkjihpaaGreatDoor
