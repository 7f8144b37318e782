/-
  A part of what LawF rests on: the logic, walks and plain laws. No condition.
-/
import Derived.Test.YtkdolgnpkjihpaaGreatDoorJF1
import Derived.Scope
import Derived.Shelf.Strconv.Itoa3
namespace Go.Proofs.YtkdolgnpkjihpaaGreatDoor
open _root_.Go.Proofs.Tryz
open Go.RowKit
set_option linter.unusedVariables false
set_option linter.unusedSimpArgs false
theorem bd29_0 (a0 : Option Addr) (a0n a0c : Nat) (w : World) : (Instr.build 29 #[(0, .slice a0 a0n a0c)]).run Tryz.prog w = .ok (.agg #[.slice a0 a0n a0c, .slice none 0 0, .slice none 0 0]) w := by kernel_rfl
theorem bd29_z  (w : World) : (Instr.build 29 #[]).run Tryz.prog w = .ok (.agg #[.slice none 0 0, .slice none 0 0, .slice none 0 0]) w := by kernel_rfl
theorem bd92_1 (a0 : Bool) (w : World) : (Instr.build 92 #[(1, .bool a0)]).run Tryz.prog w = .ok (.agg #[.int .u64 0, .int .u64 0, .int .u64 0, .int .u64 0, .bool a0]) w := by kernel_rfl
theorem bd92_z  (w : World) : (Instr.build 92 #[]).run Tryz.prog w = .ok (.agg #[.int .u64 0, .int .u64 0, .int .u64 0, .int .u64 0, .bool false]) w := by kernel_rfl
theorem bs26_1_0 (a0 : Option Addr) (a0n a0c : Nat) (w : World) : (Instr.buildSlice 26 1 #[(0, .slice a0 a0n a0c)]).run Tryz.prog w = .ok (.slice (some ⟨w.heap.size, 0, none⟩) 1 1) (w.alloc (Cl [.slice a0 a0n a0c] 42)) := by kernel_rfl
theorem bs27_1_0 (a0 : Bool) (w : World) : (Instr.buildSlice 27 1 #[(0, .bool a0)]).run Tryz.prog w = .ok (.slice (some ⟨w.heap.size, 0, none⟩) 1 1) (w.alloc (Cl [.bool a0] 4)) := by kernel_rfl
theorem bs94_1_0 (a0 : Int) (a1 : Int) (a2 : Int) (a3 : Int) (a4 : Bool) (w : World) : (Instr.buildSlice 94 1 #[(0, .agg #[.int .u64 a0, .int .u64 a1, .int .u64 a2, .int .u64 a3, .bool a4])]).run Tryz.prog w = .ok (.slice (some ⟨w.heap.size, 0, none⟩) 1 1) (w.alloc (Cl [.int .u64 a0, .int .u64 a1, .int .u64 a2, .int .u64 a3, .bool a4] 92)) := by kernel_rfl
theorem Cv (b o : Nat) (w : World) : (Instr.fieldAt 29 (.pointer (some ⟨b, o, none⟩)) 1).run Tryz.prog w = .ok (.pointer (some ⟨b, o + 1, none⟩)) w := by kernel_rfl
theorem Dr (b o : Nat) (w : World) : (Instr.fieldAt 29 (.pointer (some ⟨b, o, none⟩)) 2).run Tryz.prog w = .ok (.pointer (some ⟨b, o + 2, none⟩)) w := by kernel_rfl
theorem fa92_1 (b o : Nat) (w : World) : (Instr.fieldAt 92 (.pointer (some ⟨b, o, none⟩)) 1).run Tryz.prog w = .ok (.pointer (some ⟨b, o + 4, none⟩)) w := by kernel_rfl
theorem loc1 {a : Nat × Obj} {X : List (Nat × Obj)} : LocL (a :: X) [a] X (fun M' => M' ++ X) := show LocL ([a] ++ X) _ _ _ from .h
theorem cs_row {w0 : World} {H : List (Nat × Obj)} {n b M : Nat} {r : List Nat} (h : r.length = M) (hc : Cells w0 H n 0 [.slice (some ⟨b, 0, none⟩) M M]) : Cells w0 H n 0 (encRow ⟨.blk b M [], r⟩) := by
 subst h; exact hc
theorem cs_b1 {w0 : World} {H : List (Nat × Obj)} {n : Nat} {a b : Bool} (h : b = a) (hc : Cells w0 H n 0 [.bool a]) : Cells w0 H n 0 (encB1 b) := by
 subst h; exact hc
def BuildS (w0 : World) (leastF : PM → PM) : Prop := ∀ (H : List (Nat × Obj)) (m : Rxm) (e : Re), Is m e → RxM w0 H m → e.lv ≤ 64 →
  FSpec Tryz.prog w0 12 #[.agg (encRx m).toArray] H (fun v H' => ∃ y : Sl × MX, (v = .tuple #[.agg #[slV y.1 (buildF leastF e).1.names.length, slV y.2.1 y.2.2.2.length, slV y.2.2.1 (buildF leastF e).1.acc.length], .int .i64 (buildF leastF e).2] ∧ SlOk y.1 (buildF leastF e).1.names.length 1 ∧ OutOk y.2 (buildF leastF e).1.next (buildF leastF e).1.acc) ∧ H' = mOut y.2 (buildF leastF e).1.acc (slH y.1 ((buildF leastF e).1.names.flatMap encS) 9 ++ H))
theorem build_s {w0 : World} {leastF : PM → PM} (hL : LeastS w0 leastF) : BuildS w0 leastF := by
 intro H m e hI hM hl
 obtain ⟨hx1, hx2, hx3, hx4⟩ := C5 e t00_ok (by show 0 + e.lv ≤ 64; omega)
 have hxw := add_low e t00_ok (by show 0 + e.lv ≤ 64; omega) t00_low
 have hp : 2 ^ (t00.names.length + e.lv) ≤ 2 ^ 64 := Nat.pow_le_pow_right (by omega) (by show 0 + e.lv ≤ 64; omega)
 rw [← hx2] at hx3 hx4 hp
 have hln := letF_few hl
 refine A9 Tryz.func12 E ntmps12 E (Ag (Ab (e_ (Ba (T E) cs_) ?_ E)))
 rintro _ _ ⟨n1, rfl, rfl⟩
 refine e_ (A5 zeroValue29 cs_) ?_ E
 rintro _ _ ⟨n2, rfl, rfl⟩
 refine y_ (Ad Aj) (Af (Ae (Ag (Ab (y_ (B1 .nil (bd83_z)) (e_ (Ba (T E) cs_) ?_ E) E))))) E
 rintro _ _ ⟨n17, rfl, rfl⟩
 refine e_ (A5 zeroValue80 cs_) ?_ E
 rintro _ _ ⟨n4, rfl, rfl⟩
 first | refine Bk (A7 (T E) (T E) sizeOf80) E Ah ?_ | refine Bk (Cg (T E) (T E) E sizeOf80) E Ah ?_ | refine Bk (B7 (T E) (T E) E sizeOf80) E Ah ?_
 rintro _ _ ⟨rfl, rfl⟩
 refine Af (Ae (Ag (Ab (y_ (Ai (T E) isAgg80 (by first | exact c_o)) ?_ E))))
 refine y_ (Am (T E) isAgg24 sizeOf24 E (by first | exact Bb)) ?_ E
 refine e_ (A1 (.cons (T E) (.cons (T E) .nil)) call46 (B5 (trH n17 .nil .nil t00) loc_t0 (add_s hI _ n17 .nil .nil t00 (hM.mono sbt) E E t00_ok (by show 0 + e.lv ≤ 64; omega)))) ?_ E
 rintro _ _ ⟨⟨e1, e2⟩, ⟨rfl, ho1, ho2⟩, rfl⟩
 refine e_ (A5 zeroValue88 cs_) ?_ E
 rintro _ _ ⟨n5, rfl, rfl⟩
 first | refine Bk (A7 (T E) (T E) sizeOf88) E Ah ?_
 rintro _ _ ⟨rfl, rfl⟩
 refine Af (Ae (Ag (Ab (y_ (Am (T E) isAgg24 sizeOf24 E (by first | exact Bb)) ?_ E))))
 refine e_ (A1 (.cons (T E) .nil) call47 (letters_s hI hl _ (hM.mono sbt))) ?_ E
 rintro _ _ ⟨dn, ⟨rfl, hdn⟩, rfl⟩
 refine y_ (B1 (.cons (T E) .nil) (bd29_0 _ _ _)) (e_ (A5 zeroValue29 cs_) ?_ E) E
 rintro _ _ ⟨n6, rfl, rfl⟩
 first | refine Bk (A7 (T E) (T E) sizeOf29) E Ah ?_
 rintro _ _ ⟨rfl, rfl⟩
 refine Af (Ae (Ag (Ab (e_ eff_makeMap ?_ E))))
 rintro _ _ ⟨n24, rfl, rfl⟩
 refine y_ (B1 .nil (bd92_z)) (e_ (eff_insert (l := []) (encV := encIv) s00 0 (keySt (V := Nat)) (T E) (T E) E Aj E runUnderlying93) ?_ E) E
 rintro _ _ ⟨rfl, rfl⟩
 refine y_ (Ac (T E)) (y_ (Ad (T E)) (Af (Ae (Ag (Ab (y_ (B1 .nil (bd92_z)) (e_ (Ap (.cons (T E) .nil) (bs94_1_0 _ _ _ _ _)) ?_ E) E))))) E) E
 rintro _ _ ⟨n28, rfl, rfl⟩
 refine y_ (Ad (T E)) (Af (Ae (Bh [(2, _), (4, _), (5, _), (6, _), (7, _), (8, _)] ⟨Aa E, Aa E, Aa E, Aa E, Aa E, Aa E, trivial⟩ (Ag (Ag (Ab (y_ (Ad Aj) (Af (Ae (Aw ?_))) E))))))) E
 refine Cm (X := Nat × List St × List Row × List Bool × Sl × Sl × Sl) (V := fun ⟨k, l, rows, acc, d8, dx, da⟩ => [(9, .int .i64 (k : Nat)), (8, slV d8 l.length)]) (C := [(2, _), (4, _), (5, _), (6, _), (7, _)]) (G := fun ⟨k, l, rows, acc, d8, dx, da⟩ => rowsH rows ++ (slH d8 (l.flatMap encSt) 92 ++ ((n24, mapO encStK encIv (zipM l)) :: (n6, Cl [slV dn (letF e).length, slV dx rows.length, slV da acc.length] 29) :: (slH dx (rows.flatMap encRow) 42 ++ (slH da (acc.flatMap encB1) 4 ++ (slH dn ((letF e).flatMap encS) 9 ++ ((n5, Cl (encEn (addF e t00).2) 88) :: (n4, Cl [.pointer (some ⟨n17, 0, none⟩)] 80) :: (trH n17 e1 e2 (addF e t00).1 ++ (n2, Cl [.slice none 0 0, .slice none 0 0, .slice none 0 0] 29) :: (n1, Cl (encRx m) 24) :: H)))))))) (φ := fun ⟨k, l, rows, acc, d8, dx, da⟩ => RawInv (addF e t00).1 (addF e t00).2 (letF e) k l (rows.map Row.l) acc ∧ SlOk d8 l.length 5 ∧ SlOk dx rows.length 1 ∧ SlOk da acc.length 1 ∧ (∀ r ∈ rows, SlOk r.d r.l.length 1) ∧ rawGo (addF e t00).1 (addF e t00).2 (letF e) (201 - k) k l (rows.map Row.l) acc = rawF e) (μ := fun ⟨k, l, rows, acc, d8, dx, da⟩ => 201 - k) (x0 := (0, [s00], [], [], .blk n28 1 [], .nil, .nil)) ?_ ⟨Aa rfl, Aa rfl, Aa rfl, Aa rfl, Aa rfl, trivial⟩ ⟨(by first | exact Aa rfl | (refine Ak (Aa rfl) (vint ?_); omega) | (refine Ak (Aa rfl) ?_; simp; done) | (refine Ak (Aa rfl) ?_; exact by simp only [hrow, List.length_append, List.length_cons, List.length_nil])), (by first | exact Aa rfl | (refine Ak (Aa rfl) (vint ?_); omega) | (refine Ak (Aa rfl) ?_; simp; done) | (refine Ak (Aa rfl) ?_; exact by simp only [hrow, List.length_append, List.length_cons, List.length_nil])), trivial⟩ sb0 ?_
 ·exact ⟨raw_start _ _ _, ⟨Nat.le_refl _, rfl⟩, rfl, rfl, (fun r hr => by cases hr), rfl⟩
 rintro ⟨k, l, rows, acc, d8, dx, da⟩ ⟨hinv, hd8, hox, hoa, hor, hgo⟩
 have hkl := hinv.kl
 have hfw := hinv.few
 have hrl0 := hinv.rl
 rw [List.length_map] at hrl0
 have hal0 := hinv.al
 refine Ag (Ag (Ab (y_ (Ac (T E)) (y_ (Ac (T E)) (y_ (Bp (T E) runUnderlying94) (y_ (Bu (T E) (T E)) (Af (Ae ?_)) E) E) E) E)))
 first | refine Ar (Aa E) (fun c32 => ?_) (fun c32 => ?_) | refine A6 (Aa E) (fun c32 => ?_) (fun c32 => ?_)
 ·refine A2 (Ae (Ag (Aw (Ag (Ab (y_ (Bc (T E) D2) ?_ E))))))
  refine y_ (Am (T E) isAgg86 sizeOf86 E (by first | exact Ct (o := 0) (k := 4) (by repeat (first | exact By | refine As ?_ | refine Bd ?_)) | exact Bb)) ?_ E
  refine e_ (A5 zeroValue86 cs_) ?_ E
  rintro _ _ ⟨n10, rfl, rfl⟩
  first | refine Bk (A7 (T E) (T E) sizeOf86) E Ah ?_
  rintro _ _ ⟨rfl, rfl⟩
  refine Af (Ae ?_)
  refine j_cutC (X := Unit) (V := fun _ => []) (C := [(2, _), (4, _), (5, _), (6, _), (7, _), (8, _), (9, _), (10, _)]) (G := fun _ => (n10, Cl (encSet (canAt (addF e t00).1 (addF e t00).2 (gd l k))) 86) :: (rowsH rows ++ (slH d8 (l.flatMap encSt) 92 ++ ((n24, mapO encStK encIv (zipM l)) :: (n6, Cl [slV dn (letF e).length, slV dx rows.length, slV da acc.length] 29) :: (slH dx (rows.flatMap encRow) 42 ++ (slH da (acc.flatMap encB1) 4 ++ (slH dn ((letF e).flatMap encS) 9 ++ ((n5, Cl (encEn (addF e t00).2) 88) :: (n4, Cl [.pointer (some ⟨n17, 0, none⟩)] 80) :: (trH n17 e1 e2 (addF e t00).1 ++ (n2, Cl [.slice none 0 0, .slice none 0 0, .slice none 0 0] 29) :: (n1, Cl (encRx m) 24) :: H))))))))) (φ := fun _ => True) ⟨Aa E, Aa E, Aa E, Aa E, Aa E, Aa E, Aa E, Aa E, trivial⟩ ?_ ?_
  ·refine Ag (Ab (y_ (Ac (T E)) (y_ (Ac (T E)) (y_ (Be (T E) (T E) runUnderlying94 sizeOf92 (by omega) (by first | exact rfl | exact hd8.bas (by omega) | exact hd8i.bas (by omega))) ?_ E) E) E))
   refine y_ (Bi (T E) fa92_1) (y_ (Ai (T E) isAgg4 (by first | exact c_o | exact ((Bq (X := H) (enc := encSt) (sz := 5) (e := 92) (l := l) (fun _ => rfl) hd8).mono sbt).f (i := k) (by omega) E)) ?_ E) E
   refine Af (Ae ?_)
   first | refine Ar (Aa E) (fun c41 => ?_) (fun c41 => ?_) | refine A6 (Aa E) (fun c41 => ?_) (fun c41 => ?_)
   ·have hce : (canAt (addF e t00).1 (addF e t00).2 (gd l k)) = orK (addF e t00).1.fol (gd l k).1 256 := by unfold canAt; rw [if_pos c41]
    refine Ag (Ab (y_ (B1 .nil (bd86_z)) ?_ E))
    first | refine Bk (A7 (T E) (T E) sizeOf86) E Ah ?_
    rintro _ _ ⟨rfl, rfl⟩
    refine Af (Ae (Ab (y_ (Ac (T E)) (y_ (Ac (T E)) (y_ (Be (T E) (T E) runUnderlying94 sizeOf92 (by omega) (by first | exact rfl | exact hd8.bas (by omega) | exact hd8i.bas (by omega))) ?_ E) E) E)))
    refine y_ (Bc (T E) fa92_0) (y_ (Am (T E) isAgg86 sizeOf86 E (by first | exact cells_take (k := 4) (((Bq (X := H) (enc := encSt) (sz := 5) (e := 92) (l := l) (fun _ => rfl) hd8).mono sbt).cs (i := k) (by omega)) | exact Bb)) ?_ E) E
    refine y_ (Cj (.cons (T E) (.cons (T E) .nil))) ?_ E
    refine e_ (A1 (.cons (T E) (.cons (T E) .nil)) call48 (B5 [(n10, Cl (encSet 0) 86)] loc1 (b1E_s n17 n4 n10 e1 e2 (addF e t00).1 (gd l k).1 hx1 hxw (hinv.low _ (Bg (by omega))) ((tr_r (R := H) ho1 ho2).mono sbt) (by repeat (first | exact By | refine As ?_ | refine Bd ?_))))) ?_ E
    rintro _ _ ⟨_, _, rfl⟩
    refine Af (Bw (()) ?_ trivial ⟨Aa E, Aa E, Aa E, Aa E, Aa E, Aa E, Aa E, Aa E, trivial⟩ (by simp only [hce]; exact sbt))
    trivial
   ·have hce : (canAt (addF e t00).1 (addF e t00).2 (gd l k)) = (addF e t00).2.first := by unfold canAt; rw [if_neg (by rw [c41]; decide)]
    refine A2 (Bw (()) ?_ trivial ⟨Aa E, Aa E, Aa E, Aa E, Aa E, Aa E, Aa E, Aa E, trivial⟩ (by simp only [hce]; exact sbt))
    trivial
  rintro _ _
  have hcan := canAt_lt hx1 hxw hx3 (hinv.low _ (Bg (show k < l.length by omega)))
  refine Ag (Ab (y_ (Bc (T E) Dl) (y_ (Ai (T E) isAgg25 (by first | exact c_o)) ?_ E) E))
  refine y_ (Bp (T E) runUnderlying25) (y_ (Bt (T E) Aj (by omega)) ?_ E) E
  refine e_ (eff_makeSlice (by' := 8) (k := ((letF e).length + 1)) (T E) runUnderlying42 sizeOf3 typeInfo3 E zeroValue3 E (by omega) (by omega)) ?_ E
  rintro _ _ ⟨n54, rfl, rfl⟩
  refine y_ (Ad (T E)) (Af (Ae (Ag (Ag (Ab (y_ (Ac (T E)) (y_ (Bp (T E) runUnderlying42) (y_ (Ac Aj) (Af (Ae (Aw ?_))) E) E) E)))))) E
  refine Cm (X := Nat × Sl) (V := fun ⟨a, d8⟩ => [(57, .int .i64 (a : Nat)), (8, slV d8 (rowF (addF e t00).1 (letF e) (canAt (addF e t00).1 (addF e t00).2 (gd l k)) l a).1.length)]) (C := [(2, _), (4, _), (5, _), (6, _), (7, _), (9, _), (10, _), (11, _), (56, _)]) (G := fun ⟨a, d8⟩ => (n54, Cl ((rowF (addF e t00).1 (letF e) (canAt (addF e t00).1 (addF e t00).2 (gd l k)) l a).2.flatMap encU ++ List.replicate (((letF e).length + 1) - (rowF (addF e t00).1 (letF e) (canAt (addF e t00).1 (addF e t00).2 (gd l k)) l a).2.length) (.int .i64 0)) 3) :: (n10, Cl (encSet (canAt (addF e t00).1 (addF e t00).2 (gd l k))) 86) :: (rowsH rows ++ (slH d8 ((rowF (addF e t00).1 (letF e) (canAt (addF e t00).1 (addF e t00).2 (gd l k)) l a).1.flatMap encSt) 92 ++ ((n24, mapO encStK encIv (zipM (rowF (addF e t00).1 (letF e) (canAt (addF e t00).1 (addF e t00).2 (gd l k)) l a).1)) :: (n6, Cl [slV dn (letF e).length, slV dx rows.length, slV da acc.length] 29) :: (slH dx (rows.flatMap encRow) 42 ++ (slH da (acc.flatMap encB1) 4 ++ (slH dn ((letF e).flatMap encS) 9 ++ ((n5, Cl (encEn (addF e t00).2) 88) :: (n4, Cl [.pointer (some ⟨n17, 0, none⟩)] 80) :: (trH n17 e1 e2 (addF e t00).1 ++ (n2, Cl [.slice none 0 0, .slice none 0 0, .slice none 0 0] 29) :: (n1, Cl (encRx m) 24) :: H))))))))) (φ := fun ⟨a, d8⟩ => a ≤ ((letF e).length + 1) ∧ SlOk d8 (rowF (addF e t00).1 (letF e) (canAt (addF e t00).1 (addF e t00).2 (gd l k)) l a).1.length 5) (μ := fun ⟨a, d8⟩ => ((letF e).length + 1) - a) (x0 := (0, d8)) ?_ ⟨Aa rfl, Aa rfl, Aa rfl, Aa rfl, Aa rfl, Aa rfl, Aa rfl, Aa rfl, Aa rfl, trivial⟩ ⟨(by first | exact Aa rfl | (refine Ak (Aa rfl) (vint ?_); omega) | (refine Ak (Aa rfl) ?_; simp; done) | (refine Ak (Aa rfl) ?_; exact by simp only [hrow, List.length_append, List.length_cons, List.length_nil])), (by first | exact Aa rfl | (refine Ak (Aa rfl) (vint ?_); omega) | (refine Ak (Aa rfl) ?_; simp; done) | (refine Ak (Aa rfl) ?_; exact by simp only [hrow, List.length_append, List.length_cons, List.length_nil])), trivial⟩ sb0 ?_
  ·exact ⟨Nat.zero_le _, hd8⟩
  rintro ⟨a, d8⟩ ⟨ha, hd8i⟩
  have hrl := rowF_len (addF e t00).1 (letF e) (canAt (addF e t00).1 (addF e t00).2 (gd l k)) l a
  refine Ag (Ab (y_ (Bu (T E) (T E)) (Af (Ae (Ag ?_))) E))
  first | refine Ar (Aa E) (fun c58 => ?_) (fun c58 => ?_) | refine A6 (Aa E) (fun c58 => ?_) (fun c58 => ?_)
  ·have ha2 : a < ((letF e).length + 1) := by omega
   refine A2 (Ae (Ag (Aw (Ag (Ab (y_ (Ac (T E)) (e_ (A5 zeroValue3 cs_) ?_ E) E))))))
   rintro _ _ ⟨n12, rfl, rfl⟩
   first | refine Bk (A7 (T E) (T E) sizeOf3) E Ah ?_ | refine Bk (Cg (T E) (T E) E sizeOf3) E Ah ?_ | refine Bk (B7 (T E) (T E) E sizeOf3) E Ah ?_
   rintro _ _ ⟨rfl, rfl⟩
   refine Af (Ae (Ag (Ab (y_ (B1 (.cons Aj .nil) (bd92_1 _)) (e_ (A5 zeroValue92 cs_) ?_ E) E))))
   rintro _ _ ⟨n13, rfl, rfl⟩
   first | refine Bk (A7 (T E) (T E) sizeOf92) E Ah ?_
   rintro _ _ ⟨rfl, rfl⟩
   refine Af (Ae (Ag (Ab (y_ (Am (T E) isAgg86 sizeOf86 E (by first | exact Bb)) ?_ E))))
   refine y_ (Cj (.cons (T E) (.cons (T E) (.cons (T E) (.cons (T E) .nil))))) ?_ E
   refine e_ (A1 (.cons (T E) (.cons (T E) .nil)) call48 (B5 [(n13, Cl (encSt (0, true)) 92)] loc1 (b2E_s n17 n4 n6 n12 n13 e1 e2 dn (slV dx rows.length) (slV da acc.length) (addF e t00).1 (letF e) (canAt (addF e t00).1 (addF e t00).2 (gd l k)) a hx1 hcan ((tr_r (R := H) ho1 ho2).mono sbt) (by repeat (first | exact By | refine As ?_ | refine Bd ?_)) (by repeat (first | exact By | refine As ?_ | refine Bd ?_)) (by repeat (first | exact By | refine As ?_ | refine Bd ?_)) ((Bq (X := H) (enc := encS) (sz := 1) (e := 9) (fun _ => rfl) hdn).mono sbt)))) ?_ E
   rintro _ _ ⟨_, _, rfl⟩
   refine Af (Ae ?_)
   refine j_cutC (X := Sl) (V := fun g8 => [(8, slV g8 (rowF (addF e t00).1 (letF e) (canAt (addF e t00).1 (addF e t00).2 (gd l k)) l (a + 1)).1.length)]) (C := [(2, _), (4, _), (5, _), (6, _), (7, _), (9, _), (10, _), (11, _), (12, _), (13, _), (56, _), (57, _)]) (G := fun g8 => (n13, Cl (encSt (stepL (addF e t00).1 (letF e) (canAt (addF e t00).1 (addF e t00).2 (gd l k)) a 256, true)) 92) :: (n12, Cl [.int .i64 (a : Int)] 3) :: (n54, Cl ((rowF (addF e t00).1 (letF e) (canAt (addF e t00).1 (addF e t00).2 (gd l k)) l a).2.flatMap encU ++ List.replicate (((letF e).length + 1) - (rowF (addF e t00).1 (letF e) (canAt (addF e t00).1 (addF e t00).2 (gd l k)) l a).2.length) (.int .i64 0)) 3) :: (n10, Cl (encSet (canAt (addF e t00).1 (addF e t00).2 (gd l k))) 86) :: (rowsH rows ++ (slH g8 ((rowF (addF e t00).1 (letF e) (canAt (addF e t00).1 (addF e t00).2 (gd l k)) l (a + 1)).1.flatMap encSt) 92 ++ ((n24, mapO encStK encIv (zipM (rowF (addF e t00).1 (letF e) (canAt (addF e t00).1 (addF e t00).2 (gd l k)) l (a + 1)).1)) :: (n6, Cl [slV dn (letF e).length, slV dx rows.length, slV da acc.length] 29) :: (slH dx (rows.flatMap encRow) 42 ++ (slH da (acc.flatMap encB1) 4 ++ (slH dn ((letF e).flatMap encS) 9 ++ ((n5, Cl (encEn (addF e t00).2) 88) :: (n4, Cl [.pointer (some ⟨n17, 0, none⟩)] 80) :: (trH n17 e1 e2 (addF e t00).1 ++ (n2, Cl [.slice none 0 0, .slice none 0 0, .slice none 0 0] 29) :: (n1, Cl (encRx m) 24) :: H))))))))) (φ := fun g8 => SlOk g8 (rowF (addF e t00).1 (letF e) (canAt (addF e t00).1 (addF e t00).2 (gd l k)) l (a + 1)).1.length 5) ⟨Aa E, Aa E, Aa E, Aa E, Aa E, Aa E, Aa E, Aa E, Aa E, Aa E, Aa E, Aa E, trivial⟩ ?_ ?_
   ·refine Ag (Ab (y_ (Ac (T E)) (y_ (Am (T E) isAgg92 sizeOf92 E (by first | exact Bb)) ?_ E) E))
    refine y_ (yl_lookSt (l := (rowF (addF e t00).1 (letF e) (canAt (addF e t00).1 (addF e t00).2 (gd l k)) l a).1) (s := (stepL (addF e t00).1 (letF e) (canAt (addF e t00).1 (addF e t00).2 (gd l k)) a 256, true)) (T E) (T E) E (by repeat (first | exact By | refine As ?_ | refine Bd ?_))) ?_ E
    refine y_ (Ac (T E)) (y_ (Bf (T E) E) (y_ (Bf (T E) E) (y_ (Ad (T E)) (y_ (Ad (T E)) (Af (Ae (Bh [(2, _), (4, _), (5, _), (6, _), (7, _), (8, _), (9, _), (10, _), (11, _), (12, _), (13, _), (15, _), (56, _), (57, _)] ⟨Aa E, Aa E, Aa E, Aa E, Aa E, Aa E, Aa E, Aa E, Aa E, Aa E, Aa E, Aa E, Aa E, Aa E, trivial⟩ (Ag (Ab (y_ (Ac (T E)) ?_ E)))))) E) E) E) E) E
    first | refine Ax (Ca (T E)) E Ah ?_ | refine Ax (Co (T E)) E Ah ?_
    refine Af (Ae ?_)
    first | refine Ar (Aa E) (fun c71 => ?_) (fun c71 => ?_) | refine A6 (Aa E) (fun c71 => ?_) (fun c71 => ?_)
    ·have hrow : (rowF (addF e t00).1 (letF e) (canAt (addF e t00).1 (addF e t00).2 (gd l k)) l (a + 1)).1 = (rowF (addF e t00).1 (letF e) (canAt (addF e t00).1 (addF e t00).2 (gd l k)) l a).1 ++ [(stepL (addF e t00).1 (letF e) (canAt (addF e t00).1 (addF e t00).2 (gd l k)) a 256, true)] := by rw [rowF_succ]; unfold addSt; rw [if_neg c71]
     refine Ag (Ab (y_ (Ac (T E)) (y_ (Am (T E) isAgg92 sizeOf92 E (by first | exact Bb)) ?_ E) E))
     refine y_ (Ac (T E)) (y_ (Bp (T E) runUnderlying94) (e_ (eff_mapUpdate (l := zipM (rowF (addF e t00).1 (letF e) (canAt (addF e t00).1 (addF e t00).2 (gd l k)) l a).1) (encV := encIv) (stepL (addF e t00).1 (letF e) (canAt (addF e t00).1 (addF e t00).2 (gd l k)) a 256, true) (rowF (addF e t00).1 (letF e) (canAt (addF e t00).1 (addF e t00).2 (gd l k)) l a).1.length (keySt (V := Nat)) (T E) (T E) E (T E) E runUnderlying93) ?_ E) E) E
     rintro _ _ ⟨rfl, rfl⟩
     rw [upsert_zipM c71]
     refine Af (Ae (Ab (y_ (Ac (T E)) (y_ (Am (T E) isAgg92 sizeOf92 E (by first | exact Bb)) ?_ E) E)))
     refine e_ (Ap (.cons (T E) .nil) (bs94_1_0 _ _ _ _ _)) ?_ E
     rintro _ _ ⟨n78, rfl, rfl⟩
     refine e_ (B0 ((stepL (addF e t00).1 (letF e) (canAt (addF e t00).1 (addF e t00).2 (gd l k)) a 256, true)) (by' := 40) (by repeat (first | exact LocL.h | apply LocL.t | apply LocL.a)) (T E) (T E) runUnderlying94 runUnderlying94 sizeOf92 typeInfo92 E zeroValue92 E (fun _ => rfl) E hd8i (by decide) (by omega)) ?_ E
     rintro _ _ ⟨d8', rfl, hok8, rfl⟩
     refine y_ (Ad (T E)) (Af ?_) E
     refine Bw (d8') ?_ ⟨(by first | exact Aa E | (refine Ak (Aa E) (vint ?_); omega) | (refine Ak (Aa E) ?_; simp; done) | (refine Ak (Aa E) ?_; exact by simp only [hrow, List.length_append, List.length_cons, List.length_nil])), trivial⟩ ⟨Aa E, Aa E, Aa E, Aa E, Aa E, Aa E, Aa E, Aa E, Aa E, Aa E, Aa E, Aa E, trivial⟩ (by simp only [hrow]; exact sbt)
     first | (rw [hrow]; simpa using hok8) | (rw [hrow]; exact hd8i)
    ·have hrow : (rowF (addF e t00).1 (letF e) (canAt (addF e t00).1 (addF e t00).2 (gd l k)) l (a + 1)).1 = (rowF (addF e t00).1 (letF e) (canAt (addF e t00).1 (addF e t00).2 (gd l k)) l a).1 := by rw [rowF_succ]; unfold addSt; rw [if_pos (Classical.not_not.1 c71)]
     refine A2 ?_
     refine Bw (d8) ?_ ⟨(by first | exact Aa E | (refine Ak (Aa E) (vint ?_); omega) | (refine Ak (Aa E) ?_; simp; done) | (refine Ak (Aa E) ?_; exact by simp only [hrow, List.length_append, List.length_cons, List.length_nil])), trivial⟩ ⟨Aa E, Aa E, Aa E, Aa E, Aa E, Aa E, Aa E, Aa E, Aa E, Aa E, Aa E, Aa E, trivial⟩ (by simp only [hrow]; exact sbt)
     first | (rw [hrow]; simpa using hok8) | (rw [hrow]; exact hd8i)
   rintro g8 hg8
   have hmem : (stepL (addF e t00).1 (letF e) (canAt (addF e t00).1 (addF e t00).2 (gd l k)) a 256, true) ∈ (rowF (addF e t00).1 (letF e) (canAt (addF e t00).1 (addF e t00).2 (gd l k)) l (a + 1)).1 := by rw [rowF_succ]; exact mem_addSt _ _
   refine Ch 6 [(0, true), (1, true), (2, true), (3, true), (4, true), (5, true)] _ mixd (by kernel_rfl) sb0 ?_
   refine o_y E (Ac (T E)) (o_y E (Ai (T E) isAgg3 (by first | exact c_o)) ?_ E Ah) E Ah
   refine o_y E (Ac (T E)) (o_y E (Am (T E) isAgg92 sizeOf92 E (by first | exact Bb)) ?_ E Ah) E Ah
   refine o_y E (yl_lookSt1 (l := (rowF (addF e t00).1 (letF e) (canAt (addF e t00).1 (addF e t00).2 (gd l k)) l (a + 1)).1) (s := (stepL (addF e t00).1 (letF e) (canAt (addF e t00).1 (addF e t00).2 (gd l k)) a 256, true)) hmem (T E) (T E) E (by repeat (first | exact By | refine As ?_ | refine Bd ?_))) ?_ E Ah
   refine o_y E (Be (T E) (T E) runUnderlying42 sizeOf3 (by omega) (by first | exact rfl | exact hd8.bas (by omega) | exact hd8i.bas (by omega))) ?_ E Ah
   refine Bx E (e_ (eff_sRow (m := ((letF e).length + 1)) (v := idx (rowF (addF e t00).1 (letF e) (canAt (addF e t00).1 (addF e t00).2 (gd l k)) l (a + 1)).1 (stepL (addF e t00).1 (letF e) (canAt (addF e t00).1 (addF e t00).2 (gd l k)) a 256, true)) (rowF (addF e t00).1 (letF e) (canAt (addF e t00).1 (addF e t00).2 (gd l k)) l a).2 hrl.1.symm (T E) (T E) sizeOf3 (by omega) (by (repeat (first | exact Upd.h | apply Upd.t | apply D9)); done)) ?_ E)
   rintro _ _ ⟨rfl, rfl⟩
   refine Af (Bl (Ae (Ab (y_ (Bt (T E) Aj (by omega)) ?_ E))))
   refine y_ (Ac (T E)) (Af ?_) E
   have hrow2 : (rowF (addF e t00).1 (letF e) (canAt (addF e t00).1 (addF e t00).2 (gd l k)) l (a + 1)).2 = (rowF (addF e t00).1 (letF e) (canAt (addF e t00).1 (addF e t00).2 (gd l k)) l a).2 ++ [idx (rowF (addF e t00).1 (letF e) (canAt (addF e t00).1 (addF e t00).2 (gd l k)) l (a + 1)).1 (stepL (addF e t00).1 (letF e) (canAt (addF e t00).1 (addF e t00).2 (gd l k)) a 256, true)] := by rw [rowF_succ]; simp only [idx_addSt]
   refine Bn ((a + 1, g8)) ?_ ?_ ⟨(by first | exact Aa E | (refine Ak (Aa E) (vint ?_); omega) | (refine Ak (Aa E) ?_; simp; done) | (refine Ak (Aa E) ?_; exact by simp only [hrow, List.length_append, List.length_cons, List.length_nil])), (by first | exact Aa E | (refine Ak (Aa E) (vint ?_); omega) | (refine Ak (Aa E) ?_; simp; done) | (refine Ak (Aa E) ?_; exact by simp only [hrow, List.length_append, List.length_cons, List.length_nil])), trivial⟩ ⟨Aa E, Aa E, Aa E, Aa E, Aa E, Aa E, Aa E, Aa E, Aa E, trivial⟩ ?_
   ·exact ⟨by omega, hg8⟩
   ·first | omega | (simp only []; omega)
   ·simp only [hrow2, List.length_append, List.length_cons, List.length_nil, Nat.zero_add]; exact sbt
  ·have ha2 : a = ((letF e).length + 1) := by omega
   subst ha2
   have hrm := hrl.1
   have hgk := rowF_get (addF e t00).1 (letF e) (canAt (addF e t00).1 (addF e t00).2 (gd l k)) l (k := k) (by omega) ((letF e).length + 1)
   have hlk : (gd (rowF (addF e t00).1 (letF e) (canAt (addF e t00).1 (addF e t00).2 (gd l k)) l ((letF e).length + 1)).1 k).1 < 2 ^ (addF e t00).1.names.length := by rw [hgk]; exact hinv.low _ (Bg (by omega))
   refine B4 (A0 (A4 (A3 (Ae (Ag (Ag (Ab (y_ (Ac (T E)) (y_ (Bp (T E) runUnderlying94) (y_ (C7 (T E) Aj) (Af (Ae ?_)) E) E) E))))))))
   first | refine Ar (Aa E) (fun c89 => ?_) (fun c89 => ?_) | refine A6 (Aa E) (fun c89 => ?_) (fun c89 => ?_)
   ·have hnone : rawF e = none := by rw [← hgo, show 201 - k = (200 - k) + 1 by have := hinv.kl; have := hinv.few; omega, rawGo_succ, if_pos (by omega), if_pos (by omega)]
    refine Ag (Ab (y_ (B1 .nil (bd29_z)) ?_ E))
    first | refine Bk (A7 (T E) (T E) sizeOf29) E Ah ?_
    rintro _ _ ⟨rfl, rfl⟩
    refine y_ (Ad Aj) (Af (Ae (Ay (Al (An (Al (Bo (An (Al (Az E (.cellA (Aa E) isAgg29 sizeOf29 E (by first | exact Bb) (.tmp (Aa E) .nil)) ?_)))))))))) E
    have hb : buildF leastF e = (⟨[], [], []⟩, 2) := by unfold buildF; rw [hnone]
    rw [hb]
    exact ⟨_, ⟨(.nil, .nil, .nil, []), ⟨rfl, rfl, rfl, rfl, rfl, (fun r hr => by cases hr)⟩, rfl⟩, sbt⟩
   ·refine A2 (Ae (Ag (Ab (y_ (Bi (T E) Cv) (y_ (Ai (T E) isAgg26 (by first | exact c_o)) ?_ E) E))))
    refine y_ (Ac (T E)) (e_ (Ap (.cons (T E) .nil) (bs26_1_0 _ _ _)) ?_ E) E
    rintro _ _ ⟨n94, rfl, rfl⟩
    refine e_ (B0 ((⟨.blk n54 ((letF e).length + 1) [], (rowF (addF e t00).1 (letF e) (canAt (addF e t00).1 (addF e t00).2 (gd l k)) l ((letF e).length + 1)).2⟩ : Row)) (by' := 24) (by repeat (first | exact LocL.h | apply LocL.t | apply LocL.a)) (T E) (T E) runUnderlying26 runUnderlying26 sizeOf42 typeInfo42 E zeroValue42 E (fun _ => rfl) E hox (by decide) (by omega) (hn := cs_row hrm Bb)) ?_ E
    rintro _ _ ⟨dx', rfl, hokx, rfl⟩
    refine y_ (Bi (T E) Cv) ?_ E
    first | refine Bk (A7 (T E) (T E) sizeOf26) E Ah ?_ | refine Bk (Cg (T E) (T E) E sizeOf26) E Ah ?_ | refine Bk (B7 (T E) (T E) E sizeOf26) E Ah ?_
    rintro _ _ ⟨rfl, rfl⟩
    refine Af (Ae (Ch 19 [(0, true), (1, true), (2, true), (3, true), (4, true), (5, true), (6, true), (7, true), (8, true), (9, true), (10, true), (11, true), (12, true), (13, true), (14, true), (15, true), (16, true), (17, true), (18, false)] _ mixd (by kernel_rfl) (by exact sbt) ?_))
    refine o_y E (Bi (T E) Dr) (o_y E (Ai (T E) isAgg27 (by first | exact c_o)) ?_ E Ah) E Ah
    refine o_y E (Ac (T E)) (o_y E (Ac (T E)) (o_y E (Be (T E) (T E) runUnderlying94 sizeOf92 (by omega) (by first | exact rfl | exact hd8.bas (by omega) | exact hd8i.bas (by omega))) ?_ E Ah) E Ah) E Ah
    refine o_y E (Bc (T E) fa92_0) (o_y E (Am (T E) isAgg86 sizeOf86 E (by first | exact cells_take (k := 4) (((Bq (X := H) (enc := encSt) (sz := 5) (e := 92) (l := (rowF (addF e t00).1 (letF e) (canAt (addF e t00).1 (addF e t00).2 (gd l k)) l ((letF e).length + 1)).1) (fun _ => rfl) hd8i).mono sbt).cs (i := k) (by omega)) | exact Bb)) ?_ E Ah) E Ah
    refine o_y E (Bi (T E) Dt) ?_ E Ah
    refine o_y E (Am (T E) isAgg86 sizeOf86 E (by first | exact Ct (o := 4) (k := 4) (by repeat (first | exact By | refine As ?_ | refine Bd ?_)) | exact Bb)) ?_ E Ah
    refine o_y E (Av (.cons (T E) (.cons (T E) .nil)) call53 (fun H' hs => meets_s _ (Nat.lt_of_lt_of_le hlk hp) _ (by omega))) ?_ E Ah
    refine o_y E (Ac (T E)) ?_ E Ah
    first | refine Cy (s := 107) (Aa E) (fun c107 => ?_) (fun c107 => ?_) | refine Dx (s := 107) (Aa E) (fun c107 => ?_) (fun c107 => ?_)
    ·have hacc : accAt (addF e t00).2 k (gd l k) = true := by unfold accAt; rw [← hgk, decide_eq_true c107]; rfl
     refine o_n E (o_n E (o_n E (o_n E (o_n E (o_n E (o_y E (Aq (T E) Aj) (o_e E (Ap (.cons (T E) .nil) (bs27_1_0 _)) ?_ E Ah) E Ah) E (Bj E E (Aa E))) E (Ci E E (Aa E))) E (Ci E E (Aa E))) E (Bj E E (Aa E))) E (Bj E E (Aa E))) E (Bj E E (Aa E))
     rintro _ _ ⟨n115, rfl, rfl⟩
     refine ⟨sbt, (Bx E (e_ (B0 (accAt (addF e t00).2 k (gd l k)) (by' := 1) (by repeat (first | exact LocL.h | apply LocL.t | apply LocL.a)) (T E) (T E) runUnderlying27 runUnderlying27 sizeOf4 typeInfo4 E zeroValue4 E (fun _ => rfl) E hoa (by decide) (by omega) (hn := cs_b1 hacc Bb)) ?_ E))⟩
     rintro _ _ ⟨da', rfl, hoka, rfl⟩
     refine y_ (Bi (T E) Dr) ?_ E
     first | refine Bk (A7 (T E) (T E) sizeOf27) E Ah ?_ | refine Bk (Cg (T E) (T E) E sizeOf27) E Ah ?_ | refine Bk (B7 (T E) (T E) E sizeOf27) E Ah ?_
     rintro _ _ ⟨rfl, rfl⟩
     refine Af (Bl (Ae (Bh [(2, _), (4, _), (5, _), (6, _), (7, _), (8, _), (9, _)] ⟨Aa E, Aa E, Aa E, Aa E, Aa E, Aa E, Aa E, trivial⟩ (Ab (y_ (Ac (T E)) (y_ (Bt (T E) Aj (by omega)) ?_ E) E)))))
     refine y_ (Ad (T E)) (Af ?_) E
     refine Bn ((k + 1, (rowF (addF e t00).1 (letF e) (canAt (addF e t00).1 (addF e t00).2 (gd l k)) l ((letF e).length + 1)).1, rows ++ [(⟨.blk n54 ((letF e).length + 1) [], (rowF (addF e t00).1 (letF e) (canAt (addF e t00).1 (addF e t00).2 (gd l k)) l ((letF e).length + 1)).2⟩ : Row)], acc ++ [accAt (addF e t00).2 k (gd l k)], d8, dx', da')) ?_ ?_ ⟨(by first | exact Aa E | (refine Ak (Aa E) (vint ?_); omega) | (refine Ak (Aa E) ?_; simp; done) | (refine Ak (Aa E) ?_; exact by simp only [hrow, List.length_append, List.length_cons, List.length_nil])), (by first | exact Aa E | (refine Ak (Aa E) (vint ?_); omega) | (refine Ak (Aa E) ?_; simp; done) | (refine Ak (Aa E) ?_; exact by simp only [hrow, List.length_append, List.length_cons, List.length_nil])), trivial⟩ ⟨Aa E, Aa E, Aa E, Aa E, Aa E, trivial⟩ ?_
     ·have hnx := hinv.next hx1 hxw hx3 (by omega) (by omega)
      refine ⟨by rw [List.map_append]; exact hnx, hd8i, by simpa using hokx, by simpa using hoka, ?_, ?_⟩
      ·intro r hr
       simp only [List.mem_append, List.mem_cons, List.not_mem_nil, or_false] at hr
       rcases hr with hr | rfl
       ·exact hor r hr
       ·exact ⟨Nat.le_of_eq hrm, by show 0 = (_ - _) * 1; rw [hrm]; omega⟩
      ·rw [← hgo, List.map_append, show 201 - k = (200 - k) + 1 by omega, rawGo_succ, if_pos (show k < l.length by omega), if_neg (show ¬ 200 < (rowF (addF e t00).1 (letF e) (canAt (addF e t00).1 (addF e t00).2 (gd l k)) l ((letF e).length + 1)).1.length by omega), show 201 - (k + 1) = 200 - k by omega]; rfl
     ·show 201 - (k + 1) < 201 - k; omega
     ·simp only [rowsH_app, slH, hrm, Nat.sub_self, List.replicate_zero, List.length_append, List.length_cons, List.length_nil, Nat.zero_add, List.cons_append, List.nil_append]; exact sbt
    ·refine o_y E (Ac (T E)) (o_y E (B2 (T E) Aj) (o_y E (Ac (T E)) ?_ E (Ao E E (Aa E))) E (Ao E E (Aa E))) E (Ao E E (Aa E))
     first | refine Cy (s := 110) (Aa E) (fun c110 => ?_) (fun c110 => ?_) | refine Dx (s := 110) (Aa E) (fun c110 => ?_) (fun c110 => ?_)
     ·have hacc : accAt (addF e t00).2 k (gd l k) = (addF e t00).2.emp := by unfold accAt; rw [← hgk, decide_eq_false c107, decide_eq_true c110]; rfl
      refine o_y E (Bi (T E) fa88_2) (o_y E (Ai (T E) isAgg4 (by first | exact c_o)) ?_ E (Ao E E (Aa E))) E (Ao E E (Aa E))
      refine o_y E (Aq (T E) (T E)) (o_y E (Au (T E) (T E)) (o_e E (Ap (.cons (T E) .nil) (bs27_1_0 _)) ?_ E Ah) E Ah) E (Ao E E (Aa E))
      rintro _ _ ⟨n115, rfl, rfl⟩
      refine ⟨sbt, (Bx E (e_ (B0 (accAt (addF e t00).2 k (gd l k)) (by' := 1) (by repeat (first | exact LocL.h | apply LocL.t | apply LocL.a)) (T E) (T E) runUnderlying27 runUnderlying27 sizeOf4 typeInfo4 E zeroValue4 E (fun _ => rfl) E hoa (by decide) (by omega) (hn := cs_b1 hacc Bb)) ?_ E))⟩
      rintro _ _ ⟨da', rfl, hoka, rfl⟩
      refine y_ (Bi (T E) Dr) ?_ E
      first | refine Bk (A7 (T E) (T E) sizeOf27) E Ah ?_ | refine Bk (Cg (T E) (T E) E sizeOf27) E Ah ?_ | refine Bk (B7 (T E) (T E) E sizeOf27) E Ah ?_
      rintro _ _ ⟨rfl, rfl⟩
      refine Af (Bl (Ae (Bh [(2, _), (4, _), (5, _), (6, _), (7, _), (8, _), (9, _)] ⟨Aa E, Aa E, Aa E, Aa E, Aa E, Aa E, Aa E, trivial⟩ (Ab (y_ (Ac (T E)) (y_ (Bt (T E) Aj (by omega)) ?_ E) E)))))
      refine y_ (Ad (T E)) (Af ?_) E
      refine Bn ((k + 1, (rowF (addF e t00).1 (letF e) (canAt (addF e t00).1 (addF e t00).2 (gd l k)) l ((letF e).length + 1)).1, rows ++ [(⟨.blk n54 ((letF e).length + 1) [], (rowF (addF e t00).1 (letF e) (canAt (addF e t00).1 (addF e t00).2 (gd l k)) l ((letF e).length + 1)).2⟩ : Row)], acc ++ [accAt (addF e t00).2 k (gd l k)], d8, dx', da')) ?_ ?_ ⟨(by first | exact Aa E | (refine Ak (Aa E) (vint ?_); omega) | (refine Ak (Aa E) ?_; simp; done) | (refine Ak (Aa E) ?_; exact by simp only [hrow, List.length_append, List.length_cons, List.length_nil])), (by first | exact Aa E | (refine Ak (Aa E) (vint ?_); omega) | (refine Ak (Aa E) ?_; simp; done) | (refine Ak (Aa E) ?_; exact by simp only [hrow, List.length_append, List.length_cons, List.length_nil])), trivial⟩ ⟨Aa E, Aa E, Aa E, Aa E, Aa E, trivial⟩ ?_
      ·have hnx := hinv.next hx1 hxw hx3 (by omega) (by omega)
       refine ⟨by rw [List.map_append]; exact hnx, hd8i, by simpa using hokx, by simpa using hoka, ?_, ?_⟩
       ·intro r hr
        simp only [List.mem_append, List.mem_cons, List.not_mem_nil, or_false] at hr
        rcases hr with hr | rfl
        ·exact hor r hr
        ·exact ⟨Nat.le_of_eq hrm, by show 0 = (_ - _) * 1; rw [hrm]; omega⟩
       ·rw [← hgo, List.map_append, show 201 - k = (200 - k) + 1 by omega, rawGo_succ, if_pos (show k < l.length by omega), if_neg (show ¬ 200 < (rowF (addF e t00).1 (letF e) (canAt (addF e t00).1 (addF e t00).2 (gd l k)) l ((letF e).length + 1)).1.length by omega), show 201 - (k + 1) = 200 - k by omega]; rfl
      ·show 201 - (k + 1) < 201 - k; omega
      ·simp only [rowsH_app, slH, hrm, Nat.sub_self, List.replicate_zero, List.length_append, List.length_cons, List.length_nil, Nat.zero_add, List.cons_append, List.nil_append]; exact sbt
     ·have hacc : accAt (addF e t00).2 k (gd l k) = false := by unfold accAt; rw [← hgk, decide_eq_false c107, decide_eq_false c110]; rfl
      refine o_n E (o_n E (o_y E (Au (T E) Aj) (o_y E (Au (T E) (T E)) (o_e E (Ap (.cons (T E) .nil) (bs27_1_0 _)) ?_ E Ah) E Ah) E (Ao E E (Aa E))) E (B8 E E (Aa E))) E (B8 E E (Aa E))
      rintro _ _ ⟨n115, rfl, rfl⟩
      refine ⟨sbt, (Bx E (e_ (B0 (accAt (addF e t00).2 k (gd l k)) (by' := 1) (by repeat (first | exact LocL.h | apply LocL.t | apply LocL.a)) (T E) (T E) runUnderlying27 runUnderlying27 sizeOf4 typeInfo4 E zeroValue4 E (fun _ => rfl) E hoa (by decide) (by omega) (hn := cs_b1 hacc Bb)) ?_ E))⟩
      rintro _ _ ⟨da', rfl, hoka, rfl⟩
      refine y_ (Bi (T E) Dr) ?_ E
      first | refine Bk (A7 (T E) (T E) sizeOf27) E Ah ?_ | refine Bk (Cg (T E) (T E) E sizeOf27) E Ah ?_ | refine Bk (B7 (T E) (T E) E sizeOf27) E Ah ?_
      rintro _ _ ⟨rfl, rfl⟩
      refine Af (Bl (Ae (Bh [(2, _), (4, _), (5, _), (6, _), (7, _), (8, _), (9, _)] ⟨Aa E, Aa E, Aa E, Aa E, Aa E, Aa E, Aa E, trivial⟩ (Ab (y_ (Ac (T E)) (y_ (Bt (T E) Aj (by omega)) ?_ E) E)))))
      refine y_ (Ad (T E)) (Af ?_) E
      refine Bn ((k + 1, (rowF (addF e t00).1 (letF e) (canAt (addF e t00).1 (addF e t00).2 (gd l k)) l ((letF e).length + 1)).1, rows ++ [(⟨.blk n54 ((letF e).length + 1) [], (rowF (addF e t00).1 (letF e) (canAt (addF e t00).1 (addF e t00).2 (gd l k)) l ((letF e).length + 1)).2⟩ : Row)], acc ++ [accAt (addF e t00).2 k (gd l k)], d8, dx', da')) ?_ ?_ ⟨(by first | exact Aa E | (refine Ak (Aa E) (vint ?_); omega) | (refine Ak (Aa E) ?_; simp; done) | (refine Ak (Aa E) ?_; exact by simp only [hrow, List.length_append, List.length_cons, List.length_nil])), (by first | exact Aa E | (refine Ak (Aa E) (vint ?_); omega) | (refine Ak (Aa E) ?_; simp; done) | (refine Ak (Aa E) ?_; exact by simp only [hrow, List.length_append, List.length_cons, List.length_nil])), trivial⟩ ⟨Aa E, Aa E, Aa E, Aa E, Aa E, trivial⟩ ?_
      ·have hnx := hinv.next hx1 hxw hx3 (by omega) (by omega)
       refine ⟨by rw [List.map_append]; exact hnx, hd8i, by simpa using hokx, by simpa using hoka, ?_, ?_⟩
       ·intro r hr
        simp only [List.mem_append, List.mem_cons, List.not_mem_nil, or_false] at hr
        rcases hr with hr | rfl
        ·exact hor r hr
        ·exact ⟨Nat.le_of_eq hrm, by show 0 = (_ - _) * 1; rw [hrm]; omega⟩
       ·rw [← hgo, List.map_append, show 201 - k = (200 - k) + 1 by omega, rawGo_succ, if_pos (show k < l.length by omega), if_neg (show ¬ 200 < (rowF (addF e t00).1 (letF e) (canAt (addF e t00).1 (addF e t00).2 (gd l k)) l ((letF e).length + 1)).1.length by omega), show 201 - (k + 1) = 200 - k by omega]; rfl
      ·show 201 - (k + 1) < 201 - k; omega
      ·simp only [rowsH_app, slH, hrm, Nat.sub_self, List.replicate_zero, List.length_append, List.length_cons, List.length_nil, Nat.zero_add, List.cons_append, List.nil_append]; exact sbt
 ·have hpm := hinv.done (by omega)
  have hsome : rawF e = some (rows.map Row.l, acc) := by rw [← hgo, show 201 - k = (200 - k) + 1 by have := hinv.kl; have := hinv.few; omega, rawGo_succ, if_neg (by omega)]
  refine B4 (A0 (A4 (A3 (Ae (Ag (Ab (y_ (Am (T E) isAgg29 sizeOf29 E (by first | exact Bb)) ?_ E)))))))
  refine e_ (A1 (.cons (T E) .nil) call54 (least_own hL (x := (dx, da, rows)) (H0 := (slH dn ((letF e).flatMap encS) 9 ++ ((n5, Cl (encEn (addF e t00).2) 88) :: (n4, Cl [.pointer (some ⟨n17, 0, none⟩)] 80) :: (trH n17 e1 e2 (addF e t00).1 ++ (n2, Cl [.slice none 0 0, .slice none 0 0, .slice none 0 0] 29) :: (n1, Cl (encRx m) 24) :: H)))) ⟨hox, hoa, rfl, hor⟩ (by exact sbt) ((Bq (X := H) (enc := encS) (sz := 1) (e := 9) (fun _ => rfl) hdn).mono sbt) hpm hln)) ?_ E
  rintro _ _ ⟨y, ⟨rfl, hoy⟩, rfl⟩
  first | refine Bk (A7 (T E) (T E) sizeOf29) E Ah ?_
  rintro _ _ ⟨rfl, rfl⟩
  refine y_ (Ad Aj) (Af (Ae (Ay (Az E (.cellA (Aa E) isAgg29 sizeOf29 E (by first | exact Bb) (.tmp (Aa E) .nil)) ?_)))) E
  have hb : buildF leastF e = (⟨letF e, (leastF ⟨letF e, rows.map Row.l, acc⟩).next, (leastF ⟨letF e, rows.map Row.l, acc⟩).acc⟩, 0) := by unfold buildF; rw [hsome]
  rw [hb]
  exact ⟨_, ⟨(dn, y), ⟨rfl, hdn, hoy⟩, rfl⟩, sbt⟩
end Go.Proofs.YtkdolgnpkjihpaaGreatDoor
namespace Go.Proofs.YtkdolgnpkjihpaaGreatDoor
open _root_.Go.Proofs.Tryz
open Go.RowKit
set_option linter.unusedVariables false
theorem stepR_scope {P : Program} {b : Frame} {a : Act} {k : List Item} {cs : List Frame} {w : World} {c : Code} :
  step P (lone (b.atR a (.code (.scope c) :: k)) cs w) = .next (lone (b.atR a (.code c :: .inScope c :: k)) cs w) :=
 step_lone_go (by simp [stepG, stepG.exec, Frame.atR])
theorem stepR_inScope {P : Program} {b : Frame} {a : Act} {k : List Item} {cs : List Frame} {w : World} {c : Code} :
  step P (lone (b.atR a (.inScope c :: k)) cs w) = .next (lone (b.atR a k) cs w) :=
 step_lone_go (by simp [stepG, stepG.exec, Frame.atR])
theorem wpIn_scope {F : Fence} {n : Nat} {P : Program} {Q : Exit → Act → World → Prop} {a : Act} {w : World} {c : Code} (h : c.wpIn F n P (Exit.noGoto Q) a w) : (Code.scope c).wpIn F n P Q a w := by
 intro b k cs hro hb hr
 have h0 : (lone (b.atR a (.code (.scope c) :: k)) cs w).fenced P F := fenced_calm hb hr E
 obtain ⟨e, a₁, w₁, hq, harr⟩ := h b (.inScope c :: k) cs hro hb hr
 cases e with
 | normal => exact ⟨.normal, a₁, w₁, hq, .head h0 stepR_scope (StepsIn.trans harr (.one (fenced_calm hb hr rfl) stepR_inScope))⟩
 | exit id' =>
  have hx : exitTo id' (.inScope c :: k) = exitTo id' k := by simp [exitTo]
  exact ⟨.exit id', a₁, w₁, hq, fun k' hk => .head h0 stepR_scope (harr.1 k' (by rw [hx]; exact hk)),
   fun hr' hk => let ⟨k₁, h1, h2⟩ := harr.2 hr' (by rw [hx]; exact hk); ⟨k₁, h1, .head h0 stepR_scope h2⟩⟩
 | goto l => exact hq.elim
 | ret => exact ⟨_, a₁, w₁, hq, .of_steps (.one h0 stepR_scope) harr⟩
 | panic ch => exact ⟨_, a₁, w₁, hq, .of_steps (.one h0 stepR_scope) harr⟩
 | outgrown => exact ⟨_, a₁, w₁, hq, .of_steps (.one h0 stepR_scope) harr⟩
section
variable {P : Program} {r : Option Nat} {N : Nat} {w0 : World} {Q : Post} {L : Fm} {ds : List Deferred} {H : List (Nat × Obj)}
def noG (Q : Post) : Post
 | .goto _, _, _, _ => False
 | e, σ, ds, w => Q e σ ds w
theorem j_scope {c : Code} (h : J P r N w0 c (noG Q) L ds H) : J P r N w0 (.scope c) Q L ds H := fun b w hO a hs hf hd =>
 wpIn_scope (wpIn_mono (h b w hO a hs hf hd) (by
  intro e a' w' hq
  cases e with
  | goto l => exact hq.2
  | normal => exact hq
  | exit id => exact hq
  | ret => exact hq
  | panic ch => exact hq
  | outgrown => exact hq))
theorem j_label {l : Nat} (h : JQ w0 Q .normal L ds H) : J P r N w0 (.label l) Q L ds H := fun b w hO a hs hf hd => wpIn_label ⟨hs, by rw [hf, hd]; exact h b w hO⟩
theorem q_scope_ret (h : JQ w0 Q .ret L ds H) : JQ w0 (noG Q) .ret L ds H := h
theorem np_scope (h : NoPanic Q) : NoPanic (noG Q) := ⟨fun c σ ds w hq => h.no c σ ds w hq⟩
end
end Go.Proofs.YtkdolgnpkjihpaaGreatDoor
namespace Go.Proofs.YtkdolgnpkjihpaaGreatDoor
open _root_.Go.Proofs.Tryz
open Go.RowKit
set_option linter.unusedVariables false
set_option linter.unusedSimpArgs false
theorem Cw (a0 : Int) (w : World) : (Instr.buildSlice 42 1 #[(0, .int .i64 a0)]).run Tryz.prog w = .ok (.slice (some ⟨w.heap.size, 0, none⟩) 1 1) (w.alloc (Cl [.int .i64 a0] 3)) := by kernel_rfl
theorem gd_rows (rs : List RowQ) (i : Nat) : gd (rs.map RowQ.l) i = (gd rs i).l := by
 by_cases h : i < rs.length
 ·exact gd_map h
 ·have h1 : gd rs i = default := by simp [gd, List.getD, List.getElem?_eq_none (by omega : rs.length ≤ i)]
  have h2 : gd (rs.map RowQ.l) i = default := by simp [gd, List.getD, List.getElem?_eq_none (by omega : rs.length ≤ i)]
  rw [h1, h2]; rfl
theorem nx_pl (m : Mc) (i a : Nat) : nx m.pl i a = gd (gd m.rows i).l a := by unfold nx; rw [show m.pl.next = m.rows.map RowQ.l from rfl, gd_rows]
theorem pm_row {m : Mc} (h : PMok m.pl) {i : Nat} (hi : i < m.rows.length) : (gd m.rows i).l.length = m.names.length + 1 ∧ ∀ a, a < m.names.length + 1 → gd (gd m.rows i).l a < m.rows.length := by
 obtain ⟨h1, h2⟩ := h.row (gd m.rows i).l (List.mem_map_of_mem (Bg hi))
 refine ⟨h1, fun a ha => ?_⟩
 have := h2 _ (Bg (i := a) (by rw [h1]; exact ha))
 simpa [Mc.pl] using this
abbrev encNK (k : Nat) : Value := .int .i64 (k : Int)
theorem keyN {V : Type} : KeyOk (V := V) Tryz.prog 3 encNK := keyOk_now runUnderlying3 (fun b k w => by cases b <;> kernel_rfl) (fun k k' => by
 by_cases h : k = k'
 ·subst h; simp [Instr.sameNow]
 ·have h2 : ¬ k' = k := fun e => h e.symm
  have h3 : ¬ (k : Int) = (k' : Int) := by omega
  simp [Instr.sameNow, h, h2, h3]) (fun k => by simp [Instr.sameBits])
theorem yl_lookN {w0 : World} {H : List (Nat × Obj)} {L : Fm} {x y : Operand} {ty : TypeId} {r : Nat} {l : List Nat} {s : Nat} (hx : Ev L x (.map (some r))) (hy : Ev L y (.int .i64 (s : Int))) (hf : Fnd H r (mapO encNK encIv (zipM l))) :
  Yl Tryz.prog w0 (.lookup 201 x y true) ty L H (.tuple #[.int .i64 (((look (zipM l) s).getD 0 : Nat) : Int), .bool (decide (s ∈ l))]) := by
 have h := yl_lookup2 (P := Tryz.prog) (w0 := w0) (ty := ty) (k := s) (keyN (V := Nat)) hx hy E runUnderlying201 zeroValue3 hf
 rw [look_zipM] at h ⊢
 by_cases hm : s ∈ l
 ·rw [if_pos hm] at h ⊢; rw [decide_eq_true hm]; exact h
 ·rw [if_neg hm] at h ⊢; rw [decide_eq_false hm]; exact h
theorem yl_lookN1 {w0 : World} {H : List (Nat × Obj)} {L : Fm} {x y : Operand} {ty : TypeId} {r : Nat} {l : List Nat} {s : Nat} (hs : s ∈ l) (hx : Ev L x (.map (some r))) (hy : Ev L y (.int .i64 (s : Int))) (hf : Fnd H r (mapO encNK encIv (zipM l))) :
  Yl Tryz.prog w0 (.lookup 201 x y false) ty L H (.int .i64 ((idx l s : Nat) : Int)) := by
 have h := yl_lookup (P := Tryz.prog) (w0 := w0) (ty := ty) (k := s) (keyN (V := Nat)) hx hy E runUnderlying201 zeroValue3 hf
 rw [look_zipM] at h
 rw [if_pos hs] at h; exact h
theorem numK_get (b tos : List Nat) {order : List Nat} {k : Nat} (h : k < order.length) : ∀ i, gd (numK b tos order i).1 k = gd order k ∧ order.length ≤ (numK b tos order i).1.length
 | 0 => ⟨rfl, Nat.le_refl _⟩
 | i + 1 => by
  obtain ⟨h1, h2⟩ := numK_get b tos h i
  rw [numK_succ]
  simp only []
  split
  ·exact ⟨h1, h2⟩
  ·refine ⟨?_, by simp; omega⟩
   rw [Bv (by simp; omega), List.getElem_append_left (by omega), ← Bv (by omega), h1]
theorem numK_mem (b tos order : List Nat) (i : Nat) : gd b (gd tos i) ∈ (numK b tos order (i + 1)).1.map (gd b) := by
 rw [numK_succ]; simp only []
 split
 ·assumption
 ·simp
theorem numK_idx (b tos order : List Nat) (i : Nat) : idx ((numK b tos order (i + 1)).1.map (gd b)) (gd b (gd tos i)) = idx ((numK b tos order i).1.map (gd b)) (gd b (gd tos i)) := by
 rw [numK_succ]; simp only []
 split
 ·rfl
 ·rename_i h; rw [List.map_append]; exact idx_app h
theorem max_s {w0 : World} {H : List (Nat × Obj)} (l : List Nat) (q : Option Addr) (c : Nat) (hA : Arr w0 H q 1 encU l) (hl : 0 < l.length) (hll : l.length ≤ 1000000) :
  FSpec Tryz.prog w0 139 #[.slice q l.length c] H (Still (.int .i64 (maxF l : Nat)) H) := by
 refine A9 Tryz.func139 E ntmps139 E (Ag (Ab (y_ (Ad Aj) (Af (Ae (Ag (Ag (Ab (y_ (Ac (T E)) (y_ (Bp (T E) runUnderlying42) (y_ (Bu (T E) Aj) (Af (Ae ?_)) E) E) E)))))) E)))
 first | refine Ar (Aa E) (fun c7 => ?_) (fun c7 => ?_) | refine A6 (Aa E) (fun c7 => ?_) (fun c7 => ?_)
 ·exfalso; omega
 ·refine A2 (Ae (Ag (Ab (y_ (Ac (T E)) (y_ (Ck (T E) Aj runUnderlying42 sizeOf3 (by omega) (by first | exact rfl | exact hA.b (i := 0) (by omega))) ?_ E) E))))
  refine y_ (Ai (T E) isAgg3 (by first | exact c_o | exact cell1 ((hA.mono sbt).cs (i := i) (by omega)) | exact cell1 ((hA.mono sbt).cs (i := 0) (by omega)))) ?_ E
  refine y_ (Ad (T E)) (Af (Ae (Ag (Ag (Ab (y_ (Ad Aj) (Af (Ae (Aw ?_))) E)))))) E
  refine Cc (X := Nat) (V := fun i => [(4, .int .i64 (i : Nat)), (3, .int .i64 (maxF (l.take i) : Nat))]) (C := [(0, _)]) (φ := fun i => 1 ≤ i ∧ i ≤ l.length) (μ := fun i => l.length - i) (x0 := 1) ?_ ⟨Aa E, trivial⟩ ⟨(by first | exact Aa E | (refine Ak (Aa E) (vint ?_); omega) | (refine Ak (Aa E) ?_; simp; done) | (refine Ak (Aa E) ?_; exact by cases l with | nil => simp at hl | cons x l => rfl)), (by first | exact Aa E | (refine Ak (Aa E) (vint ?_); omega) | (refine Ak (Aa E) ?_; simp; done) | (refine Ak (Aa E) ?_; exact by cases l with | nil => simp at hl | cons x l => rfl)), trivial⟩ ?_
  ·exact ⟨Nat.le_refl _, by omega⟩
  rintro i ⟨hi1, hi⟩
  refine Ag (Ag (Ab (y_ (Ac (T E)) (y_ (Ac (T E)) (y_ (Bp (T E) runUnderlying42) (y_ (Bu (T E) (T E)) (Af (Ae ?_)) E) E) E) E)))
  first | refine Ar (Aa E) (fun c15 => ?_) (fun c15 => ?_) | refine A6 (Aa E) (fun c15 => ?_) (fun c15 => ?_)
  ·refine A2 (Ae (Ag (Aw (Ab (y_ (Ac (T E)) (y_ (Ac (T E)) (y_ (Ac (T E)) (y_ (Be (T E) (T E) runUnderlying42 sizeOf3 (by omega) (by first | exact rfl | exact hA.b (i := 0) (by omega))) ?_ E) E) E) E)))))
   refine y_ (Ai (T E) isAgg3 (by first | exact c_o | exact cell1 ((hA.mono sbt).cs (i := i) (by omega)) | exact cell1 ((hA.mono sbt).cs (i := 0) (by omega)))) ?_ E
   refine y_ (yl_max (T E) (T E)) (y_ (Ad (T E)) (Af (Bl (Ae (Ab (y_ (Ac (T E)) (y_ (Bt (T E) Aj (by omega)) ?_ E) E))))) E) E
   refine y_ (Ad (T E)) (Af ?_) E
   have hmx := maxF_take (l := l) (i := i) (by omega) (by omega)
   refine Bn (i + 1) ?_ ?_ ⟨(by first | exact Aa E | (refine Ak (Aa E) (vint ?_); omega) | (refine Ak (Aa E) ?_; simp; done) | (refine Ak (Aa E) ?_; exact by cases l with | nil => simp at hl | cons x l => rfl)), (by first | exact Aa E | (refine Ak (Aa E) (vint ?_); omega) | (refine Ak (Aa E) ?_; simp; done) | (refine Ak (Aa E) ?_; exact by cases l with | nil => simp at hl | cons x l => rfl)), trivial⟩ ⟨Aa E, trivial⟩ ?_
   ·exact ⟨by omega, by omega⟩
   ·first | omega | (simp only []; omega)
   ·exact sbt
  ·refine B4 (A0 (A4 (A3 (Ae (Ag (Ab (y_ (Ac (T E)) (y_ (Ad (T E)) (Af (Ae (Ay (Az E (.tmp (Aa E) .nil) ?_)))) E) E)))))))
   have hi2 : i = l.length := by omega
   rw [hi2, List.take_length]
   exact ⟨_, ⟨rfl, rfl⟩, sbt⟩
theorem split_s {w0 : World} {H : List (Nat × Obj)} (m : Mc) (hm : McOk w0 H m) (hp : PMok m.pl) (d : Sl) (n : Nat) (b : List Nat) (k a : Nat) (hd : SlOk d b.length 1) (hn : b.length = n) (hb : n = m.rows.length) (hk : k < n) (ha : a < m.names.length + 1) (hbm : maxF b ≤ n) :
  FSpec Tryz.prog w0 104 #[.agg (encMc m).toArray, slV d n, .int .i64 (k : Int), .int .i64 (a : Int)] (slH d (b.flatMap encU) 3 ++ H) (fun v H' => ∃ x : Unit, True ∧ H' = slH d ((splitF m.pl b k a).flatMap encU) 3 ++ H) := by
 subst hn
 refine A9 Tryz.func104 E ntmps104 E ?_
 have hf := hp.few
 have hfl : m.pl.next.length = m.rows.length := List.length_map ..
 obtain ⟨hk1, hk2⟩ := pm_row hp (show k < m.rows.length by omega)
 have hkl : gd (gd m.rows k).l a < b.length := by rw [hb]; exact hk2 a ha
 have hml := mvK_len m.pl b (gd b k) (gd b (nx m.pl k a)) a b.length
 refine Ag (Ab (e_ (Ba (T E) cs_) ?_ E))
 rintro _ _ ⟨n4, rfl, rfl⟩
 refine Af (Ae (Ag (Ch 21 [(0, true), (1, true), (2, true), (3, true), (4, true), (5, true), (6, true), (7, true), (8, true), (9, true), (10, true), (11, true), (12, true), (13, true), (14, true), (15, true), (16, true), (17, true), (18, true), (19, true), (20, true)] _ mixd (by kernel_rfl) sb0 ?_)))
 refine o_y E (Ac (T E)) (o_y E (Av (.cons (T E) .nil) call139 (fun H' hs => max_s b _ _ ((Bq (X := H) (enc := encU) (sz := 1) (e := 3) (fun _ => rfl) hd).mono (List.Sublist.trans sbt hs)) (by omega) (by omega))) ?_ E Ah) E Ah
 refine o_y E (Bt (T E) Aj (by omega)) ?_ E Ah
 refine o_y E (Ac (T E)) (o_y E (Ac (T E)) (o_y E (Be (T E) (T E) runUnderlying42 sizeOf3 (by omega) (by first | exact rfl | exact hd.bas (by omega) | exact hm.a2.b (i := k) (by omega) | exact (hm.r (gd m.rows k) (Bg (by omega))).b (i := a) (by omega) | exact hm.a2.b (i := j) (by omega) | exact (hm.r (gd m.rows j) (Bg (by omega))).b (i := a) (by omega) | exact hdm.bas (by omega) | exact SlOk.bas (k := b.length) (sz := 1) hd (by omega))) ?_ E Ah) E Ah) E Ah
 refine o_y E (Ai (T E) isAgg3 (by first | exact c_o | exact cell1 (((Bq (X := H) (enc := encU) (sz := 1) (e := 3) (l := b) (fun _ => rfl) hd).mono sbt).cs (i := k) hk) | exact cell1 (((Bq (X := H) (enc := encU) (sz := 1) (e := 3) (l := b) (fun _ => rfl) hd).mono sbt).cs (i := k) (by omega)))) ?_ E Ah
 refine o_y E (Ac (T E)) (o_y E (Bi (T E) Cv) (o_y E (Ai (T E) isAgg26 (by first | exact c_o | exact cell1 (((Bq (X := H) (enc := encU) (sz := 1) (e := 3) (l := b) (fun _ => rfl) hd).mono sbt).cs (i := k) (by omega)))) ?_ E Ah) E Ah) E Ah
 refine o_y E (Ac (T E)) (o_y E (Be (T E) (T E) runUnderlying26 sizeOf42 (by omega) (by first | exact rfl | exact hd.bas (by omega) | exact hm.a2.b (i := k) (by omega) | exact (hm.r (gd m.rows k) (Bg (by omega))).b (i := a) (by omega) | exact hm.a2.b (i := j) (by omega) | exact (hm.r (gd m.rows j) (Bg (by omega))).b (i := a) (by omega) | exact hdm.bas (by omega) | exact SlOk.bas (k := b.length) (sz := 1) hd (by omega))) ?_ E Ah) E Ah
 refine o_y E (Ai (T E) isAgg42 (by first | exact c_o | exact cell1 ((hm.a2.mono sbt).cs (i := k) (by omega)) | exact cell1 (((Bq (X := H) (enc := encU) (sz := 1) (e := 3) (l := b) (fun _ => rfl) hd).mono sbt).cs (i := k) (by omega)))) ?_ E Ah
 refine o_y E (Ac (T E)) (o_y E (Be (T E) (T E) runUnderlying42 sizeOf3 (by omega) (by first | exact rfl | exact hd.bas (by omega) | exact hm.a2.b (i := k) (by omega) | exact (hm.r (gd m.rows k) (Bg (by omega))).b (i := a) (by omega) | exact hm.a2.b (i := j) (by omega) | exact (hm.r (gd m.rows j) (Bg (by omega))).b (i := a) (by omega) | exact hdm.bas (by omega) | exact SlOk.bas (k := b.length) (sz := 1) hd (by omega))) ?_ E Ah) E Ah
 refine o_y E (Ai (T E) isAgg3 (by first | exact c_o | exact cell1 (((hm.r (gd m.rows k) (Bg (by omega))).mono sbt).cs (i := a) (by omega)) | exact cell1 (((Bq (X := H) (enc := encU) (sz := 1) (e := 3) (l := b) (fun _ => rfl) hd).mono sbt).cs (i := k) (by omega)))) ?_ E Ah
 refine o_y E (Be (T E) (T E) runUnderlying42 sizeOf3 (by omega) (by first | exact rfl | exact hd.bas (by omega) | exact hm.a2.b (i := k) (by omega) | exact (hm.r (gd m.rows k) (Bg (by omega))).b (i := a) (by omega) | exact hm.a2.b (i := j) (by omega) | exact (hm.r (gd m.rows j) (Bg (by omega))).b (i := a) (by omega) | exact hdm.bas (by omega) | exact SlOk.bas (k := b.length) (sz := 1) hd (by omega))) ?_ E Ah
 refine o_y E (Ai (T E) isAgg3 (by first | exact c_o | exact cell1 (((Bq (X := H) (enc := encU) (sz := 1) (e := 3) (l := b) (fun _ => rfl) hd).mono sbt).cs (i := gd (gd m.rows k).l a) hkl) | exact cell1 (((Bq (X := H) (enc := encU) (sz := 1) (e := 3) (l := b) (fun _ => rfl) hd).mono sbt).cs (i := k) (by omega)))) ?_ E Ah
 refine o_y E (Ad (T E)) (o_y E (Ad (T E)) (o_y E (Ad (T E)) (Bx E (Af (Ae (Ag (Ab (y_ (Ad Aj) (Af (Ae (Ag (Ag (Ab (y_ (Ac (T E)) (y_ (Bp (T E) runUnderlying42) (y_ (Ac Aj) (Af (Ae (Bh [(1, _), (3, _), (4, _), (8, _), (9, _), (10, _), (11, _), (34, _), (35, _)] ⟨Aa E, Aa E, Aa E, Aa E, Aa E, Aa E, Aa E, Aa E, Aa E, trivial⟩ (Aw ?_)))) E) E) E)))))) E)))))) E Ah) E Ah) E Ah
 refine Cm (X := Nat × Sl) (V := fun ⟨j, dm⟩ => [(35, .int .i64 (j : Nat)), (11, slV dm (mvK m.pl b (gd b k) (gd b (nx m.pl k a)) a j).length)]) (C := [(1, _), (3, _), (4, _), (8, _), (9, _), (10, _), (34, _)]) (G := fun ⟨j, dm⟩ => slH dm ((mvK m.pl b (gd b k) (gd b (nx m.pl k a)) a j).flatMap encU) 3 ++ ((n4, Cl (encMc m) 29) :: (slH d (b.flatMap encU) 3 ++ H))) (φ := fun ⟨j, dm⟩ => j ≤ b.length ∧ SlOk dm (mvK m.pl b (gd b k) (gd b (nx m.pl k a)) a j).length 1) (μ := fun ⟨j, dm⟩ => b.length - j) (x0 := (0, .nil)) ?_ ⟨Aa rfl, Aa rfl, Aa rfl, Aa rfl, Aa rfl, Aa rfl, Aa rfl, trivial⟩ ⟨(by first | exact Aa rfl | (refine Ak (Aa rfl) (vint ?_); omega) | (refine Ak (Aa rfl) ?_; simp; done) | (refine Ak (Aa rfl) ?_; exact by simp only [hmv2, List.length_append, List.length_cons, List.length_nil])), (by first | exact Aa rfl | (refine Ak (Aa rfl) (vint ?_); omega) | (refine Ak (Aa rfl) ?_; simp; done) | (refine Ak (Aa rfl) ?_; exact by simp only [hmv2, List.length_append, List.length_cons, List.length_nil])), trivial⟩ sb0 ?_
 ·exact ⟨Nat.zero_le _, rfl⟩
 rintro ⟨j, dm⟩ ⟨hj, hdm⟩
 have hml2 := mvK_len m.pl b (gd b k) (gd b (nx m.pl k a)) a j
 refine Ag (Ab (y_ (Bu (T E) (T E)) (Af (Ae (Ag ?_))) E))
 first | refine Ar (Aa E) (fun c36 => ?_) (fun c36 => ?_) | refine A6 (Aa E) (fun c36 => ?_) (fun c36 => ?_)
 ·obtain ⟨hj1, hj2⟩ := pm_row hp (show j < m.rows.length by omega)
  have hjl := hj2 a ha
  have hmv := mvK_succ m.pl b (gd b k) (gd b (nx m.pl k a)) a j
  have e1 := nx_pl m j a
  have e2 := nx_pl m k a
  refine A2 (Ae (Ag (Aw (Ag (Ab (y_ (Ac (T E)) (y_ (Ad (T E)) (Af (Ae (Ag (Ab (y_ (Ac (T E)) (y_ (Ac (T E)) (y_ (Be (T E) (T E) runUnderlying42 sizeOf3 (by omega) (by first | exact rfl | exact hd.bas (by omega) | exact hm.a2.b (i := k) (by omega) | exact (hm.r (gd m.rows k) (Bg (by omega))).b (i := a) (by omega) | exact hm.a2.b (i := j) (by omega) | exact (hm.r (gd m.rows j) (Bg (by omega))).b (i := a) (by omega) | exact hdm.bas (by omega) | exact SlOk.bas (k := b.length) (sz := 1) hd (by omega))) ?_ E) E) E))))) E) E))))))
  refine y_ (Ai (T E) isAgg3 (by first | exact c_o | exact cell1 (((Bq (X := H) (enc := encU) (sz := 1) (e := 3) (l := b) (fun _ => rfl) hd).mono sbt).cs (i := j) (by omega)) | exact cell1 (((Bq (X := H) (enc := encU) (sz := 1) (e := 3) (l := b) (fun _ => rfl) hd).mono sbt).cs (i := k) (by omega)))) ?_ E
  refine y_ (Ac (T E)) (y_ (B2 (T E) (T E)) (y_ (Ac (T E)) ?_ E) E) E
  first | refine Bz (s := 44) (Aa E) (fun c44 => ?_) (fun c44 => ?_) | refine Cf (s := 44) (Aa E) (fun c44 => ?_) (fun c44 => ?_)
  ·refine Ax (Ac (T E)) E (Ao E E (Aa E)) (Ax (Bi (T E) Cv) E (Ao E E (Aa E)) (Ax (Ai (T E) isAgg26 (by first | exact c_o | exact cell1 (((Bq (X := H) (enc := encU) (sz := 1) (e := 3) (l := b) (fun _ => rfl) hd).mono sbt).cs (i := k) (by omega)))) E (Ao E E (Aa E)) ?_))
   refine Ax (Ac (T E)) E (Ao E E (Aa E)) (Ax (Be (T E) (T E) runUnderlying26 sizeOf42 (by omega) (by first | exact rfl | exact hd.bas (by omega) | exact hm.a2.b (i := k) (by omega) | exact (hm.r (gd m.rows k) (Bg (by omega))).b (i := a) (by omega) | exact hm.a2.b (i := j) (by omega) | exact (hm.r (gd m.rows j) (Bg (by omega))).b (i := a) (by omega) | exact hdm.bas (by omega) | exact SlOk.bas (k := b.length) (sz := 1) hd (by omega))) E (Ao E E (Aa E)) ?_)
   refine Ax (Ai (T E) isAgg42 (by first | exact c_o | exact cell1 ((hm.a2.mono sbt).cs (i := j) (by omega)) | exact cell1 (((Bq (X := H) (enc := encU) (sz := 1) (e := 3) (l := b) (fun _ => rfl) hd).mono sbt).cs (i := k) (by omega)))) E (Ao E E (Aa E)) ?_
   refine Ax (Ac (T E)) E (Ao E E (Aa E)) (Ax (Be (T E) (T E) runUnderlying42 sizeOf3 (by omega) (by first | exact rfl | exact hd.bas (by omega) | exact hm.a2.b (i := k) (by omega) | exact (hm.r (gd m.rows k) (Bg (by omega))).b (i := a) (by omega) | exact hm.a2.b (i := j) (by omega) | exact (hm.r (gd m.rows j) (Bg (by omega))).b (i := a) (by omega) | exact hdm.bas (by omega) | exact SlOk.bas (k := b.length) (sz := 1) hd (by omega))) E (Ao E E (Aa E)) ?_)
   refine Ax (Ai (T E) isAgg3 (by first | exact c_o | exact cell1 (((hm.r (gd m.rows j) (Bg (by omega))).mono sbt).cs (i := a) (by omega)) | exact cell1 (((Bq (X := H) (enc := encU) (sz := 1) (e := 3) (l := b) (fun _ => rfl) hd).mono sbt).cs (i := k) (by omega)))) E (Ao E E (Aa E)) ?_
   refine Ax (Be (T E) (T E) runUnderlying42 sizeOf3 (by omega) (by first | exact rfl | exact hd.bas (by omega) | exact hm.a2.b (i := k) (by omega) | exact (hm.r (gd m.rows k) (Bg (by omega))).b (i := a) (by omega) | exact hm.a2.b (i := j) (by omega) | exact (hm.r (gd m.rows j) (Bg (by omega))).b (i := a) (by omega) | exact hdm.bas (by omega) | exact SlOk.bas (k := b.length) (sz := 1) hd (by omega))) E (Ao E E (Aa E)) ?_
   refine Ax (Ai (T E) isAgg3 (by first | exact c_o | exact cell1 (((Bq (X := H) (enc := encU) (sz := 1) (e := 3) (l := b) (fun _ => rfl) hd).mono sbt).cs (i := gd (gd m.rows j).l a) (by omega)) | exact cell1 (((Bq (X := H) (enc := encU) (sz := 1) (e := 3) (l := b) (fun _ => rfl) hd).mono sbt).cs (i := k) (by omega)))) E (Ao E E (Aa E)) ?_
   refine Ax (Ac (T E)) E (Ao E E (Aa E)) (Ax (B2 (T E) (T E)) E (Ao E E (Aa E)) (y_ (Aq (T E) (T E)) (Af (Ae (Bh [(1, _), (3, _), (4, _), (8, _), (9, _), (10, _), (11, _), (12, _), (34, _), (35, _), (58, _)] ⟨Aa E, Aa E, Aa E, Aa E, Aa E, Aa E, Aa E, Aa E, Aa E, Aa E, Aa E, trivial⟩ ?_))) E))
   first | refine Ar (Aa E) (fun c58 => ?_) (fun c58 => ?_) | refine A6 (Aa E) (fun c58 => ?_) (fun c58 => ?_)
   ·have hmv2 : (mvK m.pl b (gd b k) (gd b (nx m.pl k a)) a (j + 1)) = (mvK m.pl b (gd b k) (gd b (nx m.pl k a)) a j) ++ [j] := by rw [hmv, if_pos ⟨by omega, by rw [e1, e2]; omega⟩]
    refine Ab (y_ (Ac (T E)) (y_ (Ac (T E)) (e_ (Ap (.cons (T E) .nil) (Cw _)) ?_ E) E) E)
    rintro _ _ ⟨n61, rfl, rfl⟩
    refine e_ (B0 (j) (by' := 8) (by repeat (first | exact LocL.h | apply LocL.t | apply LocL.a)) (T E) (T E) runUnderlying42 runUnderlying42 sizeOf3 typeInfo3 E zeroValue3 E (fun _ => rfl) E hdm (by decide) (by omega)) ?_ E
    rintro _ _ ⟨d', rfl, hokd, rfl⟩
    refine y_ (Ad (T E)) (Af (Bl (Ae (Ab (y_ (Bt (T E) Aj (by omega)) ?_ E))))) E
    refine y_ (Ac (T E)) (Af ?_) E
    refine Bn ((j + 1, d')) ?_ ?_ ⟨(by first | exact Aa E | (refine Ak (Aa E) (vint ?_); omega) | (refine Ak (Aa E) ?_; simp; done) | (refine Ak (Aa E) ?_; exact by simp only [hmv2, List.length_append, List.length_cons, List.length_nil])), (by first | exact Aa E | (refine Ak (Aa E) (vint ?_); omega) | (refine Ak (Aa E) ?_; simp; done) | (refine Ak (Aa E) ?_; exact by simp only [hmv2, List.length_append, List.length_cons, List.length_nil])), trivial⟩ ⟨Aa E, Aa E, Aa E, Aa E, Aa E, Aa E, Aa E, trivial⟩ ?_
    ·exact ⟨by omega, by rw [hmv2, List.length_append]; exact hokd⟩
    ·first | omega | (simp only []; omega)
    ·simp only [hmv2]; exact sbt
   ·have hmv2 : (mvK m.pl b (gd b k) (gd b (nx m.pl k a)) a (j + 1)) = (mvK m.pl b (gd b k) (gd b (nx m.pl k a)) a j) := by rw [hmv, if_neg (fun h => by have := h.2; rw [e1, e2] at this; omega)]
    refine A2 (Bl (Ae (Ab (y_ (Bt (T E) Aj (by omega)) ?_ E))))
    refine y_ (Ac (T E)) (Af ?_) E
    refine Bn ((j + 1, dm)) ?_ ?_ ⟨(by first | exact Aa E | (refine Ak (Aa E) (vint ?_); omega) | (refine Ak (Aa E) ?_; simp; done) | (refine Ak (Aa E) ?_; exact by simp only [hmv2, List.length_append, List.length_cons, List.length_nil])), (by first | exact Aa E | (refine Ak (Aa E) (vint ?_); omega) | (refine Ak (Aa E) ?_; simp; done) | (refine Ak (Aa E) ?_; exact by simp only [hmv2, List.length_append, List.length_cons, List.length_nil])), trivial⟩ ⟨Aa E, Aa E, Aa E, Aa E, Aa E, Aa E, Aa E, trivial⟩ ?_
    ·exact ⟨by omega, by rw [hmv2]; exact hdm⟩
    ·first | omega | (simp only []; omega)
    ·simp only [hmv2]; exact sbt
  ·have hmv2 : (mvK m.pl b (gd b k) (gd b (nx m.pl k a)) a (j + 1)) = (mvK m.pl b (gd b k) (gd b (nx m.pl k a)) a j) := by rw [hmv, if_neg (fun h => by have := h.1; omega)]
   refine Bs (Bs (Bs (Bs (Bs (Bs (Bs (Bs (Bs (Bs (Bs (Bs (Bs (y_ (Au (T E) Aj) (Af (Ae (Bh [(1, _), (3, _), (4, _), (8, _), (9, _), (10, _), (11, _), (12, _), (34, _), (35, _), (58, _)] ⟨Aa E, Aa E, Aa E, Aa E, Aa E, Aa E, Aa E, Aa E, Aa E, Aa E, Aa E, trivial⟩ ?_))) E) E E E E) E E E E) E E E E) E E E E) E E E E) E E E E) E E E E) E E E E) E E E E) E E E E) E E E E) E E E E) E E E E
   first | refine Br (Aa E) ?_ | refine Br (Ak (Aa E) (vbool (decide_eq_false c58))) ?_
   refine A2 (Bl (Ae (Ab (y_ (Bt (T E) Aj (by omega)) ?_ E))))
   refine y_ (Ac (T E)) (Af ?_) E
   refine Bn ((j + 1, dm)) ?_ ?_ ⟨(by first | exact Aa E | (refine Ak (Aa E) (vint ?_); omega) | (refine Ak (Aa E) ?_; simp; done) | (refine Ak (Aa E) ?_; exact by simp only [hmv2, List.length_append, List.length_cons, List.length_nil])), (by first | exact Aa E | (refine Ak (Aa E) (vint ?_); omega) | (refine Ak (Aa E) ?_; simp; done) | (refine Ak (Aa E) ?_; exact by simp only [hmv2, List.length_append, List.length_cons, List.length_nil])), trivial⟩ ⟨Aa E, Aa E, Aa E, Aa E, Aa E, Aa E, Aa E, trivial⟩ ?_
   ·exact ⟨by omega, by rw [hmv2]; exact hdm⟩
   ·first | omega | (simp only []; omega)
   ·simp only [hmv2]; exact sbt
 ·have hj2 : j = b.length := by omega
  subst hj2
  refine B4 (A0 (A4 (A3 (Ae (Ag (Ab (y_ (Ac (T E)) (y_ (Bp (T E) runUnderlying42) (y_ (Ac Aj) (Af (Ae (Aw ?_))) E) E) E)))))))
  refine Cm (X := Nat) (V := fun i => [(66, .int .i64 (i : Nat))]) (C := [(1, _), (8, _), (64, _), (65, _)]) (G := fun i => slH dm ((mvK m.pl b (gd b k) (gd b (nx m.pl k a)) a b.length).flatMap encU) 3 ++ ((n4, Cl (encMc m) 29) :: (slH d ((setM b (maxF b + 1) ((mvK m.pl b (gd b k) (gd b (nx m.pl k a)) a b.length).take i)).flatMap encU) 3 ++ H))) (φ := fun i => i ≤ (mvK m.pl b (gd b k) (gd b (nx m.pl k a)) a b.length).length) (μ := fun i => (mvK m.pl b (gd b k) (gd b (nx m.pl k a)) a b.length).length - i) (x0 := 0) ?_ ⟨Aa E, Aa E, Aa E, Aa E, trivial⟩ ⟨(by first | exact Aa E | (refine Ak (Aa E) (vint ?_); omega) | (refine Ak (Aa E) ?_; simp; done) | (refine Ak (Aa E) ?_; exact by simp only [hmv2, List.length_append, List.length_cons, List.length_nil])), trivial⟩ sb0 ?_
  ·exact Nat.zero_le _
  rintro i hi
  refine Ag (Ab (y_ (Bu (T E) (T E)) (Af (Ae (Ag ?_))) E))
  first | refine Ar (Aa E) (fun c67 => ?_) (fun c67 => ?_) | refine A6 (Aa E) (fun c67 => ?_) (fun c67 => ?_)
  ·have hmi : gd (mvK m.pl b (gd b k) (gd b (nx m.pl k a)) a b.length) i < b.length := ((mem_mvK m.pl b (gd b k) (gd b (nx m.pl k a)) a _ b.length).1 (Bg (show i < (mvK m.pl b (gd b k) (gd b (nx m.pl k a)) a b.length).length by omega))).1
   have hst := setM_take (b := b) (f := maxF b + 1) (l := (mvK m.pl b (gd b k) (gd b (nx m.pl k a)) a b.length)) (i := i) (by omega)
   refine A2 (Ae (Ag (Aw (Ag (Ab (y_ (Be (T E) (T E) runUnderlying42 sizeOf3 (by omega) (by first | exact rfl | exact hd.bas (by omega) | exact hm.a2.b (i := k) (by omega) | exact (hm.r (gd m.rows k) (Bg (by omega))).b (i := a) (by omega) | exact hm.a2.b (i := j) (by omega) | exact (hm.r (gd m.rows j) (Bg (by omega))).b (i := a) (by omega) | exact hdm.bas (by omega) | exact SlOk.bas (k := b.length) (sz := 1) hd (by omega))) ?_ E))))))
   refine y_ (Ai (T E) isAgg3 (by first | exact c_o | exact cell1 (((Bq (X := H) (enc := encU) (sz := 1) (e := 3) (l := (mvK m.pl b (gd b k) (gd b (nx m.pl k a)) a b.length)) (fun _ => rfl) hdm).mono sbt).cs (i := i) (by omega)) | exact cell1 (((Bq (X := H) (enc := encU) (sz := 1) (e := 3) (l := b) (fun _ => rfl) hd).mono sbt).cs (i := k) (by omega)))) ?_ E
   refine y_ (Ad (T E)) (Af (Ae (Ab (y_ (Ac (T E)) (y_ (Ac (T E)) (y_ (Ac (T E)) (y_ (Be (T E) (T E) runUnderlying42 sizeOf3 (by omega) (by first | exact rfl | exact hd.bas (by omega) | exact hm.a2.b (i := k) (by omega) | exact (hm.r (gd m.rows k) (Bg (by omega))).b (i := a) (by omega) | exact hm.a2.b (i := j) (by omega) | exact (hm.r (gd m.rows j) (Bg (by omega))).b (i := a) (by omega) | exact hdm.bas (by omega) | exact SlOk.bas (k := b.length) (sz := 1) hd (by omega))) ?_ E) E) E) E)))) E
   refine e_ (eff_sElem (l := setM b (maxF b + 1) ((mvK m.pl b (gd b k) (gd b (nx m.pl k a)) a b.length).take i)) (e := 3) (enc := encU) (sz := 1) (i := gd (mvK m.pl b (gd b k) (gd b (nx m.pl k a)) a b.length) i) (maxF b + 1) (fun _ => rfl) (by repeat (first | exact LocL.h | apply LocL.t | apply LocL.a)) (T E) (T E) (.one E) E sizeOf3 (by rw [setM_len]; exact hmi) (by rw [setM_len]; exact hd)) ?_ E
   rintro _ _ ⟨rfl, rfl⟩
   refine Af (Bl (Ae (Ab (y_ (Bt (T E) Aj (by omega)) ?_ E))))
   refine y_ (Ac (T E)) (Af ?_) E
   refine Bn (i + 1) ?_ ?_ ⟨(by first | exact Aa E | (refine Ak (Aa E) (vint ?_); omega) | (refine Ak (Aa E) ?_; simp; done) | (refine Ak (Aa E) ?_; exact by simp only [hmv2, List.length_append, List.length_cons, List.length_nil])), trivial⟩ ⟨Aa E, Aa E, Aa E, Aa E, trivial⟩ ?_
   ·show i + 1 ≤ _; omega
   ·first | omega | (simp only []; omega)
   ·simp only [hst]; exact sbt
  ·refine B4 (A0 (A4 (A3 (Dh E .nil ?_))))
   have hi2 : i = (mvK m.pl b (gd b k) (gd b (nx m.pl k a)) a b.length).length := by omega
   rw [hi2, List.take_length]
   exact ⟨_, ⟨(), trivial, rfl⟩, sbt⟩
end Go.Proofs.YtkdolgnpkjihpaaGreatDoor
namespace Go.Proofs.YtkdolgnpkjihpaaGreatDoor
open _root_.Go.Proofs.Tryz
open Go.RowKit
set_option linter.unusedVariables false
set_option linter.unusedSimpArgs false
theorem numbered_s {w0 : World} {H : List (Nat × Obj)} (m : Mc) (hm : McOk w0 H m) (hp : PMok m.pl) (hln : m.names.length ≤ 64) (qb : Option Addr) (cb : Nat) (b : List Nat) (hB : Arr w0 H qb 1 encU b) (n : Nat) (hn : b.length = n) (hb : n = m.rows.length) :
  FSpec Tryz.prog w0 105 #[.agg (encMc m).toArray, .slice qb n cb] H (fun v H' => ∃ x : MX, (v = .agg #[.slice m.q1 m.names.length m.c1, slV x.1 x.2.2.length, slV x.2.1 (numF m.pl b).acc.length] ∧ OutOk x (numF m.pl b).next (numF m.pl b).acc) ∧ H' = mOut x (numF m.pl b).acc H) := by
 subst hn
 refine A9 Tryz.func105 E ntmps105 E ?_
 have hf := hp.few
 have hfl : m.pl.next.length = m.rows.length := List.length_map ..
 have hs := hp.some'
 have hal : m.acc.length = m.rows.length := by have := hp.acc; rw [hfl] at this; exact this
 refine Ag (Ab (e_ (Ba (T E) cs_) ?_ E))
 rintro _ _ ⟨n2, rfl, rfl⟩
 refine e_ (A5 zeroValue29 cs_) ?_ E
 rintro _ _ ⟨n4, rfl, rfl⟩
 refine Af (Ae (Ag (Ab (y_ (Bc (T E) Dl) (y_ (Ai (T E) isAgg25 (by first | exact c_o)) ?_ E) E))))
 refine y_ (B1 (.cons (T E) .nil) (bd29_0 _ _ _)) (e_ (A5 zeroValue29 cs_) ?_ E) E
 rintro _ _ ⟨n5, rfl, rfl⟩
 first | refine Bk (A7 (T E) (T E) sizeOf29) E Ah ?_
 rintro _ _ ⟨rfl, rfl⟩
 refine Af (Ae (Ag (Ab (e_ eff_makeMap ?_ E))))
 rintro _ _ ⟨n17, rfl, rfl⟩
 refine y_ (Ac (T E)) (y_ (Ck (T E) Aj runUnderlying42 sizeOf3 (by omega) (by first | exact rfl | exact hB.b (i := 0) (by omega) | exact hd7.bas (by omega) | exact hm.a2.b (i := gd order k) hokl | exact (hm.r (gd m.rows (gd order k)) (Bg hokl)).b (i := i) (by omega) | exact hB.b (i := gd (gd m.rows (gd order k)).l i) (by omega) | exact hd7i.bas (by omega) | exact hm.a3.b (i := gd (numK b (gd m.pl.next (gd order k)) order (gd m.pl.next (gd order k)).length).1 k) (by rw [hgk]; omega))) ?_ E) E
 refine y_ (Ai (T E) isAgg3 (by first | exact c_o | exact cell1 ((hB.mono sbt).cs (i := 0) (by omega)))) ?_ E
 refine e_ (eff_insert (l := []) (encV := encIv) (gd b 0) 0 (keyN (V := Nat)) (T E) (T E) E Aj E runUnderlying201) ?_ E
 rintro _ _ ⟨rfl, rfl⟩
 refine y_ (Ac (T E)) (y_ (Ad (T E)) (Af (Ae (Ag (Ab (e_ (Ap (.cons Aj .nil) (Cw _)) ?_ E))))) E) E
 rintro _ _ ⟨n22, rfl, rfl⟩
 refine y_ (Ad (T E)) (Af (Ae (Ag (Ag (Ab (y_ (Ad Aj) (Af (Ae (Aw ?_))) E)))))) E
 refine Cm (X := Nat × List Nat × List Row × List Bool × Sl × Sl × Sl) (V := fun ⟨k, order, rows, acc, d7, dx, da⟩ => [(8, .int .i64 (k : Nat)), (7, slV d7 order.length)]) (C := [(1, _), (2, _), (4, _), (5, _), (6, _)]) (G := fun ⟨k, order, rows, acc, d7, dx, da⟩ => rowsH rows ++ (slH d7 (order.flatMap encU) 3 ++ ((n17, mapO encNK encIv (zipM (order.map (gd b)))) :: (n5, Cl [.slice m.q1 m.names.length m.c1, slV dx rows.length, slV da acc.length] 29) :: (slH dx (rows.flatMap encRow) 42 ++ (slH da (acc.flatMap encB1) 4 ++ ((n4, Cl [.slice none 0 0, .slice none 0 0, .slice none 0 0] 29) :: (n2, Cl (encMc m) 29) :: H)))))) (φ := fun ⟨k, order, rows, acc, d7, dx, da⟩ => OrdOk m.pl b order ∧ k ≤ order.length ∧ rows.length = k ∧ acc.length = k ∧ SlOk d7 order.length 1 ∧ SlOk dx rows.length 1 ∧ SlOk da acc.length 1 ∧ (∀ r ∈ rows, SlOk r.d r.l.length 1) ∧ numGo m.pl b (201 - k) k order (rows.map Row.l) acc = numGo m.pl b 201 0 [0] [] []) (μ := fun ⟨k, order, rows, acc, d7, dx, da⟩ => 201 - k) (x0 := (0, [0], [], [], .blk n22 1 [], .nil, .nil)) ?_ ⟨Aa rfl, Aa rfl, Aa rfl, Aa rfl, Aa rfl, trivial⟩ ⟨(by first | exact Aa rfl | (refine Ak (Aa rfl) (vint ?_); omega) | (refine Ak (Aa rfl) ?_; simp; done) | (refine Ak (Aa rfl) ?_; exact by simp only [hrow, List.length_append, List.length_cons, List.length_nil])), (by first | exact Aa rfl | (refine Ak (Aa rfl) (vint ?_); omega) | (refine Ak (Aa rfl) ?_; simp; done) | (refine Ak (Aa rfl) ?_; exact by simp only [hrow, List.length_append, List.length_cons, List.length_nil])), trivial⟩ sb0 ?_
 ·exact ⟨⟨by simp, fun s hs => by
   simp only [List.mem_cons, List.not_mem_nil, or_false] at hs
   subst hs; exact hp.some'⟩, Nat.zero_le _, rfl, rfl, ⟨Nat.le_refl _, rfl⟩, rfl, rfl, (fun r hr => by cases hr), rfl⟩
 rintro ⟨k, order, rows, acc, d7, dx, da⟩ ⟨hord, hko, hrl, hacl, hd7, hox, hoa, hor, hgo⟩
 have hof := hord.few
 refine Ag (Ag (Ab (y_ (Ac (T E)) (y_ (Ac (T E)) (y_ (Bp (T E) runUnderlying42) (y_ (Bu (T E) (T E)) (Af (Ae ?_)) E) E) E) E)))
 first | refine Ar (Aa E) (fun c26 => ?_) (fun c26 => ?_) | refine A6 (Aa E) (fun c26 => ?_) (fun c26 => ?_)
 ·have hokl : gd order k < m.rows.length := by rw [← hfl]; exact hord.lt _ (Bg (by omega))
  obtain ⟨hr1, hr2⟩ := pm_row hp hokl
  have htos : (gd m.pl.next (gd order k)) = (gd m.rows (gd order k)).l := gd_rows _ _
  have htl : ∀ s ∈ (gd m.pl.next (gd order k)), s < m.pl.next.length := fun s hs => by
   rw [htos] at hs
   obtain ⟨j, hj, rfl⟩ := mem_gd.1 hs
   rw [hfl]; exact hr2 j (by omega)
  have htlen : (gd m.pl.next (gd order k)).length = m.names.length + 1 := by rw [htos]; exact hr1
  refine A2 (Ae (Ag (Aw (Ag (Ab (y_ (Bc (T E) Dl) (y_ (Ai (T E) isAgg25 (by first | exact c_o)) ?_ E) E))))))
  refine y_ (Bp (T E) runUnderlying25) (y_ (Bt (T E) Aj (by omega)) ?_ E) E
  refine e_ (eff_makeSlice0 (by' := 8) (k := m.names.length + 1) Aj (T E) runUnderlying42 sizeOf3 typeInfo3 E zeroValue3 E (by omega) (by omega)) ?_ E
  rintro _ _ ⟨n33, rfl, rfl⟩
  refine y_ (Ad (T E)) (Af (Ae (Ag (Ag (Ch 10 [(0, true), (1, true), (2, true), (3, true), (4, true), (5, true), (6, true), (7, true), (8, true), (9, true)] _ mixd (by kernel_rfl) sb0 ?_))))) E
  refine o_y E (Bi (T E) Cv) (o_y E (Ai (T E) isAgg26 (by first | exact c_o)) ?_ E Ah) E Ah
  refine o_y E (Ac (T E)) (o_y E (Ac (T E)) (o_y E (Be (T E) (T E) runUnderlying42 sizeOf3 (by omega) (by first | exact rfl | exact hB.b (i := 0) (by omega) | exact hd7.bas (by omega) | exact hm.a2.b (i := gd order k) hokl | exact (hm.r (gd m.rows (gd order k)) (Bg hokl)).b (i := i) (by omega) | exact hB.b (i := gd (gd m.rows (gd order k)).l i) (by omega) | exact hd7i.bas (by omega) | exact hm.a3.b (i := gd (numK b (gd m.pl.next (gd order k)) order (gd m.pl.next (gd order k)).length).1 k) (by rw [hgk]; omega))) ?_ E Ah) E Ah) E Ah
  refine o_y E (Ai (T E) isAgg3 (by first | exact c_o | exact cell1 (((Bq (X := H) (enc := encU) (sz := 1) (e := 3) (l := order) (fun _ => rfl) hd7).mono sbt).cs (i := k) (by omega)))) ?_ E Ah
  refine o_y E (Be (T E) (T E) runUnderlying26 sizeOf42 (by omega) (by first | exact rfl | exact hB.b (i := 0) (by omega) | exact hd7.bas (by omega) | exact hm.a2.b (i := gd order k) hokl | exact (hm.r (gd m.rows (gd order k)) (Bg hokl)).b (i := i) (by omega) | exact hB.b (i := gd (gd m.rows (gd order k)).l i) (by omega) | exact hd7i.bas (by omega) | exact hm.a3.b (i := gd (numK b (gd m.pl.next (gd order k)) order (gd m.pl.next (gd order k)).length).1 k) (by rw [hgk]; omega))) ?_ E Ah
  refine o_y E (Ai (T E) isAgg42 (by first | exact c_o | exact cell1 ((hm.a2.mono sbt).cs (i := gd order k) hokl))) ?_ E Ah
  refine o_y E (Bp (T E) runUnderlying42) (o_y E (Ac Aj) (Bx E (Af (Ae (Bh [(1, _), (2, _), (4, _), (5, _), (6, _), (7, _), (8, _), (9, _), (41, _), (42, _), (43, _)] ⟨Aa E, Aa E, Aa E, Aa E, Aa E, Aa E, Aa E, Aa E, Aa E, Aa E, Aa E, trivial⟩ (Aw ?_))))) E Ah) E Ah
  refine Cm (X := Nat × Sl × Sl) (V := fun ⟨i, d7, d9⟩ => [(43, .int .i64 (i : Nat)), (7, slV d7 (numK b (gd m.pl.next (gd order k)) order i).1.length), (9, slV d9 (numK b (gd m.pl.next (gd order k)) order i).2.length)]) (C := [(1, _), (2, _), (4, _), (5, _), (6, _), (8, _), (41, _), (42, _)]) (G := fun ⟨i, d7, d9⟩ => slH d9 ((numK b (gd m.pl.next (gd order k)) order i).2.flatMap encU) 3 ++ (rowsH rows ++ (slH d7 ((numK b (gd m.pl.next (gd order k)) order i).1.flatMap encU) 3 ++ ((n17, mapO encNK encIv (zipM ((numK b (gd m.pl.next (gd order k)) order i).1.map (gd b)))) :: (n5, Cl [.slice m.q1 m.names.length m.c1, slV dx rows.length, slV da acc.length] 29) :: (slH dx (rows.flatMap encRow) 42 ++ (slH da (acc.flatMap encB1) 4 ++ ((n4, Cl [.slice none 0 0, .slice none 0 0, .slice none 0 0] 29) :: (n2, Cl (encMc m) 29) :: H))))))) (φ := fun ⟨i, d7, d9⟩ => i ≤ (gd m.pl.next (gd order k)).length ∧ SlOk d7 (numK b (gd m.pl.next (gd order k)) order i).1.length 1 ∧ SlOk d9 (numK b (gd m.pl.next (gd order k)) order i).2.length 1) (μ := fun ⟨i, d7, d9⟩ => (gd m.pl.next (gd order k)).length - i) (x0 := (0, d7, .blk n33 (m.names.length + 1) (List.replicate (m.names.length + 1) (.int .i64 0)))) ?_ ⟨Aa rfl, Aa rfl, Aa rfl, Aa rfl, Aa rfl, Aa rfl, Aa rfl, Aa rfl, trivial⟩ ⟨(by first | exact Aa rfl | (refine Ak (Aa rfl) (vint ?_); omega) | (refine Ak (Aa rfl) ?_; simp; done) | (refine Ak (Aa rfl) ?_; exact by simp only [hrow, List.length_append, List.length_cons, List.length_nil])), (by first | exact Aa rfl | (refine Ak (Aa rfl) (vint ?_); omega) | (refine Ak (Aa rfl) ?_; simp; done) | (refine Ak (Aa rfl) ?_; exact by simp only [hrow, List.length_append, List.length_cons, List.length_nil])), (by first | exact Aa rfl | (refine Ak (Aa rfl) (vint ?_); omega) | (refine Ak (Aa rfl) ?_; simp; done) | (refine Ak (Aa rfl) ?_; exact by simp only [hrow, List.length_append, List.length_cons, List.length_nil])), trivial⟩ sb0 ?_
  ·exact ⟨Nat.zero_le _, hd7, Nat.zero_le _, by show (List.replicate _ _).length = _; rw [List.length_replicate]; show _ = (_ - 0) * 1; omega⟩
  rintro ⟨i, d7, d9⟩ ⟨hi, hd7i, hd9⟩
  have hstp := hord.step htl i hi
  have hof2 := hstp.1.few
  have hge2 := (numK_get b (gd m.pl.next (gd order k)) (order := order) (k := k) (by omega) i).2
  refine Ag (Ab (y_ (Bu (T E) (T E)) (Af (Ae (Ag ?_))) E))
  first | refine Ar (Aa E) (fun c44 => ?_) (fun c44 => ?_) | refine A6 (Aa E) (fun c44 => ?_) (fun c44 => ?_)
  ·have hil : gd (gd m.rows (gd order k)).l i < m.rows.length := hr2 i (by omega)
   have hti : gd (gd m.pl.next (gd order k)) i = gd (gd m.rows (gd order k)).l i := by rw [htos]
   refine A2 (Ae (Ag (Aw (Ag (Ab (y_ (Be (T E) (T E) runUnderlying42 sizeOf3 (by omega) (by first | exact rfl | exact hB.b (i := 0) (by omega) | exact hd7.bas (by omega) | exact hm.a2.b (i := gd order k) hokl | exact (hm.r (gd m.rows (gd order k)) (Bg hokl)).b (i := i) (by omega) | exact hB.b (i := gd (gd m.rows (gd order k)).l i) (by omega) | exact hd7i.bas (by omega) | exact hm.a3.b (i := gd (numK b (gd m.pl.next (gd order k)) order (gd m.pl.next (gd order k)).length).1 k) (by rw [hgk]; omega))) ?_ E))))))
   refine y_ (Ai (T E) isAgg3 (by first | exact c_o | exact cell1 (((hm.r (gd m.rows (gd order k)) (Bg hokl)).mono sbt).cs (i := i) (by omega)))) ?_ E
   refine y_ (Ad (T E)) (Af (Ae ?_)) E
   refine j_cutC (X := Sl) (V := fun g7 => [(7, slV g7 (numK b (gd m.pl.next (gd order k)) order (i + 1)).1.length)]) (C := [(1, _), (2, _), (4, _), (5, _), (6, _), (8, _), (9, _), (11, _), (41, _), (42, _), (43, _)]) (G := fun g7 => slH d9 ((numK b (gd m.pl.next (gd order k)) order i).2.flatMap encU) 3 ++ (rowsH rows ++ (slH g7 ((numK b (gd m.pl.next (gd order k)) order (i + 1)).1.flatMap encU) 3 ++ ((n17, mapO encNK encIv (zipM ((numK b (gd m.pl.next (gd order k)) order (i + 1)).1.map (gd b)))) :: (n5, Cl [.slice m.q1 m.names.length m.c1, slV dx rows.length, slV da acc.length] 29) :: (slH dx (rows.flatMap encRow) 42 ++ (slH da (acc.flatMap encB1) 4 ++ ((n4, Cl [.slice none 0 0, .slice none 0 0, .slice none 0 0] 29) :: (n2, Cl (encMc m) 29) :: H))))))) (φ := fun g7 => SlOk g7 (numK b (gd m.pl.next (gd order k)) order (i + 1)).1.length 1) ⟨Aa E, Aa E, Aa E, Aa E, Aa E, Aa E, Aa E, Aa E, Aa E, Aa E, Aa E, trivial⟩ ?_ ?_
   ·refine Ag (Ab (y_ (Ac (T E)) (y_ (Ac (T E)) (y_ (Ac (T E)) (y_ (Be (T E) (T E) runUnderlying42 sizeOf3 (by omega) (by first | exact rfl | exact hB.b (i := 0) (by omega) | exact hd7.bas (by omega) | exact hm.a2.b (i := gd order k) hokl | exact (hm.r (gd m.rows (gd order k)) (Bg hokl)).b (i := i) (by omega) | exact hB.b (i := gd (gd m.rows (gd order k)).l i) (by omega) | exact hd7i.bas (by omega) | exact hm.a3.b (i := gd (numK b (gd m.pl.next (gd order k)) order (gd m.pl.next (gd order k)).length).1 k) (by rw [hgk]; omega))) ?_ E) E) E) E))
    refine y_ (Ai (T E) isAgg3 (by first | exact c_o | exact cell1 ((hB.mono sbt).cs (i := gd (gd m.rows (gd order k)).l i) (by omega)))) ?_ E
    refine y_ (yl_lookN (l := (numK b (gd m.pl.next (gd order k)) order i).1.map (gd b)) (s := gd b (gd (gd m.rows (gd order k)).l i)) (T E) (T E) (by repeat (first | exact By | refine As ?_ | refine Bd ?_))) ?_ E
    refine y_ (Ac (T E)) (y_ (Bf (T E) E) (y_ (Bf (T E) E) (y_ (Ad (T E)) (y_ (Ad (T E)) (Af (Ae (Bh [(1, _), (2, _), (4, _), (5, _), (6, _), (7, _), (8, _), (9, _), (11, _), (13, _), (41, _), (42, _), (43, _)] ⟨Aa E, Aa E, Aa E, Aa E, Aa E, Aa E, Aa E, Aa E, Aa E, Aa E, Aa E, Aa E, Aa E, trivial⟩ (Ag (Ab (y_ (Ac (T E)) ?_ E)))))) E) E) E) E) E
    first | refine Ax (Ca (T E)) E Ah ?_ | refine Ax (Co (T E)) E Ah ?_
    refine Af (Ae ?_)
    first | refine Ar (Aa E) (fun c57 => ?_) (fun c57 => ?_) | refine A6 (Aa E) (fun c57 => ?_) (fun c57 => ?_)
    ·have hrow : (numK b (gd m.pl.next (gd order k)) order (i + 1)).1 = (numK b (gd m.pl.next (gd order k)) order i).1 ++ [gd (gd m.rows (gd order k)).l i] := by rw [numK_succ]; simp only [hti]; rw [if_neg c57]
     refine Ag (Ab (y_ (Ac (T E)) (y_ (Ac (T E)) (y_ (Ac (T E)) (y_ (Be (T E) (T E) runUnderlying42 sizeOf3 (by omega) (by first | exact rfl | exact hB.b (i := 0) (by omega) | exact hd7.bas (by omega) | exact hm.a2.b (i := gd order k) hokl | exact (hm.r (gd m.rows (gd order k)) (Bg hokl)).b (i := i) (by omega) | exact hB.b (i := gd (gd m.rows (gd order k)).l i) (by omega) | exact hd7i.bas (by omega) | exact hm.a3.b (i := gd (numK b (gd m.pl.next (gd order k)) order (gd m.pl.next (gd order k)).length).1 k) (by rw [hgk]; omega))) ?_ E) E) E) E))
     refine y_ (Ai (T E) isAgg3 (by first | exact c_o | exact cell1 ((hB.mono sbt).cs (i := gd (gd m.rows (gd order k)).l i) (by omega)))) ?_ E
     refine y_ (Ac (T E)) (y_ (Bp (T E) runUnderlying42) (e_ (eff_mapUpdate (l := zipM ((numK b (gd m.pl.next (gd order k)) order i).1.map (gd b))) (encV := encIv) (gd b (gd (gd m.rows (gd order k)).l i)) ((numK b (gd m.pl.next (gd order k)) order i).1.map (gd b)).length (keyN (V := Nat)) (T E) (T E) E (T E) (by simp) runUnderlying201) ?_ E) E) E
     rintro _ _ ⟨rfl, rfl⟩
     rw [upsert_zipM c57]
     refine Af (Ae (Ab (y_ (Ac (T E)) (y_ (Ac (T E)) (e_ (Ap (.cons (T E) .nil) (Cw _)) ?_ E) E) E)))
     rintro _ _ ⟨n67, rfl, rfl⟩
     refine e_ (B0 (gd (gd m.rows (gd order k)).l i) (by' := 8) (by repeat (first | exact LocL.h | apply LocL.t | apply LocL.a)) (T E) (T E) runUnderlying42 runUnderlying42 sizeOf3 typeInfo3 E zeroValue3 E (fun _ => rfl) E hd7i (by decide) (by omega)) ?_ E
     rintro _ _ ⟨d7', rfl, hok7, rfl⟩
     refine y_ (Ad (T E)) (Af ?_) E
     refine Bw (d7') ?_ ⟨(by first | exact Aa E | (refine Ak (Aa E) (vint ?_); omega) | (refine Ak (Aa E) ?_; simp; done) | (refine Ak (Aa E) ?_; exact by simp only [hrow, List.length_append, List.length_cons, List.length_nil])), trivial⟩ ⟨Aa E, Aa E, Aa E, Aa E, Aa E, Aa E, Aa E, Aa E, Aa E, Aa E, Aa E, trivial⟩ (by simp only [hrow, List.map_append, List.map_cons, List.map_nil]; exact sbt)
     first | (rw [hrow]; simpa using hok7) | (rw [hrow]; exact hd7i)
    ·have hrow : (numK b (gd m.pl.next (gd order k)) order (i + 1)).1 = (numK b (gd m.pl.next (gd order k)) order i).1 := by rw [numK_succ]; simp only [hti]; rw [if_pos (Classical.not_not.1 c57)]
     refine A2 ?_
     refine Bw (d7) ?_ ⟨(by first | exact Aa E | (refine Ak (Aa E) (vint ?_); omega) | (refine Ak (Aa E) ?_; simp; done) | (refine Ak (Aa E) ?_; exact by simp only [hrow, List.length_append, List.length_cons, List.length_nil])), trivial⟩ ⟨Aa E, Aa E, Aa E, Aa E, Aa E, Aa E, Aa E, Aa E, Aa E, Aa E, Aa E, trivial⟩ (by simp only [hrow, List.map_append, List.map_cons, List.map_nil]; exact sbt)
     first | (rw [hrow]; simpa using hok7) | (rw [hrow]; exact hd7i)
   rintro g7 hg7
   have hmem : gd b (gd (gd m.rows (gd order k)).l i) ∈ (numK b (gd m.pl.next (gd order k)) order (i + 1)).1.map (gd b) := by rw [← hti]; exact numK_mem _ _ _ _
   refine Ab (y_ (Ac (T E)) (y_ (Ac (T E)) (y_ (Ac (T E)) (y_ (Ac (T E)) (y_ (Be (T E) (T E) runUnderlying42 sizeOf3 (by omega) (by first | exact rfl | exact hB.b (i := 0) (by omega) | exact hd7.bas (by omega) | exact hm.a2.b (i := gd order k) hokl | exact (hm.r (gd m.rows (gd order k)) (Bg hokl)).b (i := i) (by omega) | exact hB.b (i := gd (gd m.rows (gd order k)).l i) (by omega) | exact hd7i.bas (by omega) | exact hm.a3.b (i := gd (numK b (gd m.pl.next (gd order k)) order (gd m.pl.next (gd order k)).length).1 k) (by rw [hgk]; omega))) ?_ E) E) E) E) E)
   refine y_ (Ai (T E) isAgg3 (by first | exact c_o | exact cell1 ((hB.mono sbt).cs (i := gd (gd m.rows (gd order k)).l i) (by omega)))) ?_ E
   refine y_ (yl_lookN1 (l := (numK b (gd m.pl.next (gd order k)) order (i + 1)).1.map (gd b)) (s := gd b (gd (gd m.rows (gd order k)).l i)) hmem (T E) (T E) (by repeat (first | exact By | refine As ?_ | refine Bd ?_))) ?_ E
   refine e_ (Ap (.cons (T E) .nil) (Cw _)) ?_ E
   rintro _ _ ⟨n76, rfl, rfl⟩
   refine e_ (B0 (idx ((numK b (gd m.pl.next (gd order k)) order (i + 1)).1.map (gd b)) (gd b (gd (gd m.rows (gd order k)).l i))) (by' := 8) (by repeat (first | exact LocL.h | apply LocL.t | apply LocL.a)) (T E) (T E) runUnderlying42 runUnderlying42 sizeOf3 typeInfo3 E zeroValue3 E (fun _ => rfl) E hd9 (by decide) (by have := hstp.2.1; omega)) ?_ E
   rintro _ _ ⟨d9', rfl, hok9, rfl⟩
   refine y_ (Ad (T E)) (Af (Bl (Ae (Ab (y_ (Bt (T E) Aj (by omega)) ?_ E))))) E
   refine y_ (Ac (T E)) (Af ?_) E
   have hrow : (numK b (gd m.pl.next (gd order k)) order (i + 1)).2 = (numK b (gd m.pl.next (gd order k)) order i).2 ++ [idx ((numK b (gd m.pl.next (gd order k)) order (i + 1)).1.map (gd b)) (gd b (gd (gd m.rows (gd order k)).l i))] := by rw [← hti, numK_idx, numK_succ]
   refine Bn ((i + 1, g7, d9')) ?_ ?_ ⟨(by first | exact Aa E | (refine Ak (Aa E) (vint ?_); omega) | (refine Ak (Aa E) ?_; simp; done) | (refine Ak (Aa E) ?_; exact by simp only [hrow, List.length_append, List.length_cons, List.length_nil])), (by first | exact Aa E | (refine Ak (Aa E) (vint ?_); omega) | (refine Ak (Aa E) ?_; simp; done) | (refine Ak (Aa E) ?_; exact by simp only [hrow, List.length_append, List.length_cons, List.length_nil])), (by first | exact Aa E | (refine Ak (Aa E) (vint ?_); omega) | (refine Ak (Aa E) ?_; simp; done) | (refine Ak (Aa E) ?_; exact by simp only [hrow, List.length_append, List.length_cons, List.length_nil])), trivial⟩ ⟨Aa E, Aa E, Aa E, Aa E, Aa E, Aa E, Aa E, Aa E, trivial⟩ ?_
   ·exact ⟨by omega, hg7, by rw [hrow, List.length_append]; exact hok9⟩
   ·first | omega | (simp only []; omega)
   ·simp only [hrow]; exact sbt
  ·have hi2 : i = (gd m.pl.next (gd order k)).length := by omega
   subst hi2
   have hgk := (numK_get b (gd m.pl.next (gd order k)) (order := order) (k := k) (by omega) (gd m.pl.next (gd order k)).length).1
   refine B4 (A0 (A4 (A3 (Ae (Ag (Ab (y_ (Bi (T E) Cv) (y_ (Ai (T E) isAgg26 (by first | exact c_o)) ?_ E) E)))))))
   refine y_ (Ac (T E)) (e_ (Ap (.cons (T E) .nil) (bs26_1_0 _ _ _)) ?_ E) E
   rintro _ _ ⟨n82, rfl, rfl⟩
   refine e_ (B0 ((⟨d9, (numK b (gd m.pl.next (gd order k)) order (gd m.pl.next (gd order k)).length).2⟩ : Row)) (by' := 24) (by repeat (first | exact LocL.h | apply LocL.t | apply LocL.a)) (T E) (T E) runUnderlying26 runUnderlying26 sizeOf42 typeInfo42 E zeroValue42 E (fun _ => rfl) E hox (by decide) (by omega)) ?_ E
   rintro _ _ ⟨dx', rfl, hokx, rfl⟩
   refine y_ (Bi (T E) Cv) ?_ E
   first | refine Bk (A7 (T E) (T E) sizeOf26) E Ah ?_ | refine Bk (Cg (T E) (T E) E sizeOf26) E Ah ?_ | refine Bk (B7 (T E) (T E) E sizeOf26) E Ah ?_
   rintro _ _ ⟨rfl, rfl⟩
   refine Af (Ae (Ch 11 [(0, true), (1, true), (2, true), (3, true), (4, true), (5, true), (6, true), (7, true), (8, true), (9, true), (10, false)] _ mixd (by kernel_rfl) (by exact sbt) ?_))
   refine o_y E (Bi (T E) Dr) (o_y E (Ai (T E) isAgg27 (by first | exact c_o)) ?_ E Ah) E Ah
   refine o_y E (Bi (T E) Dr) (o_y E (Ai (T E) isAgg27 (by first | exact c_o)) ?_ E Ah) E Ah
   refine o_y E (Ac (T E)) (o_y E (Ac (T E)) (o_y E (Be (T E) (T E) runUnderlying42 sizeOf3 (by omega) (by first | exact rfl | exact hB.b (i := 0) (by omega) | exact hd7.bas (by omega) | exact hm.a2.b (i := gd order k) hokl | exact (hm.r (gd m.rows (gd order k)) (Bg hokl)).b (i := i) (by omega) | exact hB.b (i := gd (gd m.rows (gd order k)).l i) (by omega) | exact hd7i.bas (by omega) | exact hm.a3.b (i := gd (numK b (gd m.pl.next (gd order k)) order (gd m.pl.next (gd order k)).length).1 k) (by rw [hgk]; omega))) ?_ E Ah) E Ah) E Ah
   refine o_y E (Ai (T E) isAgg3 (by first | exact c_o | exact cell1 (((Bq (X := H) (enc := encU) (sz := 1) (e := 3) (l := (numK b (gd m.pl.next (gd order k)) order (gd m.pl.next (gd order k)).length).1) (fun _ => rfl) hd7i).mono sbt).cs (i := k) (by omega)))) ?_ E Ah
   refine o_y E (Be (T E) (T E) runUnderlying27 sizeOf4 (by rw [hgk]; omega) (by first | exact rfl | exact hB.b (i := 0) (by omega) | exact hd7.bas (by omega) | exact hm.a2.b (i := gd order k) hokl | exact (hm.r (gd m.rows (gd order k)) (Bg hokl)).b (i := i) (by omega) | exact hB.b (i := gd (gd m.rows (gd order k)).l i) (by omega) | exact hd7i.bas (by omega) | exact hm.a3.b (i := gd (numK b (gd m.pl.next (gd order k)) order (gd m.pl.next (gd order k)).length).1 k) (by rw [hgk]; omega))) ?_ E Ah
   refine o_y E (Ai (T E) isAgg4 (by first | exact c_o | exact cell1 ((hm.a3.mono sbt).cs (i := gd (numK b (gd m.pl.next (gd order k)) order (gd m.pl.next (gd order k)).length).1 k) (by rw [hgk]; omega)))) ?_ E Ah
   refine o_e E (Ap (.cons (T E) .nil) (bs27_1_0 _)) ?_ E Ah
   rintro _ _ ⟨n95, rfl, rfl⟩
   refine ⟨sbt, (Bx E (e_ (B0 (gd m.acc (gd order k)) (by' := 1) (by repeat (first | exact LocL.h | apply LocL.t | apply LocL.a)) (T E) (T E) runUnderlying27 runUnderlying27 sizeOf4 typeInfo4 E zeroValue4 E (fun _ => rfl) E hoa (by decide) (by omega) (hn := cs_b1 (congrArg (gd m.acc) hgk).symm Bb)) ?_ E))⟩
   rintro _ _ ⟨da', rfl, hoka, rfl⟩
   refine y_ (Bi (T E) Dr) ?_ E
   first | refine Bk (A7 (T E) (T E) sizeOf27) E Ah ?_ | refine Bk (Cg (T E) (T E) E sizeOf27) E Ah ?_ | refine Bk (B7 (T E) (T E) E sizeOf27) E Ah ?_
   rintro _ _ ⟨rfl, rfl⟩
   refine Af (Bl (Ae (Bh [(1, _), (2, _), (4, _), (5, _), (6, _), (7, _), (8, _)] ⟨Aa E, Aa E, Aa E, Aa E, Aa E, Aa E, Aa E, trivial⟩ (Ab (y_ (Ac (T E)) (y_ (Bt (T E) Aj (by omega)) ?_ E) E)))))
   refine y_ (Ad (T E)) (Af ?_) E
   refine Bn ((k + 1, (numK b (gd m.pl.next (gd order k)) order (gd m.pl.next (gd order k)).length).1, rows ++ [(⟨d9, (numK b (gd m.pl.next (gd order k)) order (gd m.pl.next (gd order k)).length).2⟩ : Row)], acc ++ [gd m.acc (gd order k)], d7, dx', da')) ?_ ?_ ⟨(by first | exact Aa E | (refine Ak (Aa E) (vint ?_); omega) | (refine Ak (Aa E) ?_; simp; done) | (refine Ak (Aa E) ?_; exact by simp only [hrow, List.length_append, List.length_cons, List.length_nil])), (by first | exact Aa E | (refine Ak (Aa E) (vint ?_); omega) | (refine Ak (Aa E) ?_; simp; done) | (refine Ak (Aa E) ?_; exact by simp only [hrow, List.length_append, List.length_cons, List.length_nil])), trivial⟩ ⟨Aa E, Aa E, Aa E, Aa E, Aa E, trivial⟩ ?_
   ·have hst2 := hord.step htl (gd m.pl.next (gd order k)).length (Nat.le_refl _)
    have hge := (numK_get b (gd m.pl.next (gd order k)) (order := order) (k := k) (by omega) (gd m.pl.next (gd order k)).length).2
    refine ⟨hst2.1, by omega, by simp [hrl], by simp [hacl], hd7i, by simpa using hokx, by simpa using hoka, ?_, ?_⟩
    ·intro r hr
     simp only [List.mem_append, List.mem_cons, List.not_mem_nil, or_false] at hr
     rcases hr with hr | rfl
     ·exact hor r hr
     ·exact hd9
    ·rw [← hgo, List.map_append, show 201 - k = (200 - k) + 1 by omega, numGo_succ, if_pos (show k < order.length by omega), show 201 - (k + 1) = 200 - k by omega]; rfl
   ·show 201 - (k + 1) < 201 - k; omega
   ·simp only [rowsH_app, List.append_assoc, List.length_append, List.length_cons, List.length_nil, Nat.zero_add]; exact sbt
 ·refine B4 (A0 (A4 (A3 (Ae (Ag (Ab (y_ (Am (T E) isAgg29 sizeOf29 E (by first | exact Bb)) ?_ E)))))))
  first | refine Bk (A7 (T E) (T E) sizeOf29) E Ah ?_
  rintro _ _ ⟨rfl, rfl⟩
  refine Af (Ae (Ay (Az E (.cellA (Aa E) isAgg29 sizeOf29 E (by first | exact Bb) .nil) ?_)))
  have hfin : numGo m.pl b 201 0 [0] [] [] = (rows.map Row.l, acc) := by rw [← hgo, show 201 - k = (200 - k) + 1 by omega, numGo_succ, if_neg (by omega)]
  unfold numF
  rw [hfin]
  exact ⟨_, ⟨(dx, da, rows), ⟨rfl, hox, hoa, rfl, hor⟩, rfl⟩, sbt⟩
end Go.Proofs.YtkdolgnpkjihpaaGreatDoor
namespace Go.Proofs.YtkdolgnpkjihpaaGreatDoor
open _root_.Go.Proofs.Tryz
open Go.RowKit
set_option linter.unusedVariables false
set_option linter.unusedSimpArgs false
theorem row_zero (r : List Nat) (m : Nat) (h : r.length < m) : r.flatMap encU ++ List.replicate (m - r.length) (Value.int .i64 0) = (r ++ [0]).flatMap encU ++ List.replicate (m - (r.length + 1)) (Value.int .i64 0) := by
 rw [List.flatMap_append, show m - r.length = (m - (r.length + 1)) + 1 by omega, List.replicate_succ]
 simp
abbrev bit (y : Bool) : Nat := if y then 1 else 0
theorem bit_take {l : List Bool} {k : Nat} (h : k < l.length) : (l.take (k + 1)).map bit = (l.take k).map bit ++ [bit (gd l k)] := by
 rw [List.take_add_one, Dd h]; simp
theorem least_s {w0 : World} : LeastS w0 leastF := by
 intro H m hm hp hln
 refine A9 Tryz.func54 E ntmps54 E ?_
 have hf := hp.few
 have hfl : m.pl.next.length = m.rows.length := List.length_map ..
 have hs := hp.some'
 have hal : m.acc.length = m.rows.length := by have := hp.acc; rw [hfl] at this; exact this
 refine Ag (Ab (e_ (Ba (T E) cs_) ?_ E))
 rintro _ _ ⟨n1, rfl, rfl⟩
 refine e_ (A5 zeroValue29 cs_) ?_ E
 rintro _ _ ⟨n2, rfl, rfl⟩
 refine Af (Ae (j_scope (Ag (Ab (y_ (Bi (T E) Cv) (y_ (Ai (T E) isAgg26 (by first | exact c_o)) ?_ E) E)))))
 refine y_ (Bp (T E) runUnderlying26) (e_ (eff_makeSlice (by' := 8) (k := m.rows.length) (T E) runUnderlying42 sizeOf3 typeInfo3 E zeroValue3 E (by omega) (by omega)) ?_ E) E
 rintro _ _ ⟨n12, rfl, rfl⟩
 refine y_ (Ad (T E)) (Af (Ae (Ag (Ag (Ab (y_ (Bi (T E) Dr) (y_ (Ai (T E) isAgg27 (by first | exact c_o)) ?_ E) E)))))) E
 refine y_ (Bp (T E) runUnderlying27) (y_ (Ac Aj) (Af (Ae (Aw ?_))) E) E
 refine Cm (X := Nat) (V := fun k => [(16, .int .i64 (k : Nat))]) (C := [(1, _), (2, _), (3, _), (14, _), (15, _)]) (G := fun k => (n12, Cl (((m.acc.take k).map bit).flatMap encU ++ List.replicate (m.rows.length - ((m.acc.take k).map bit).length) (.int .i64 0)) 3) :: ((n2, Cl [.slice none 0 0, .slice none 0 0, .slice none 0 0] 29) :: (n1, Cl (encMc m) 29) :: H)) (φ := fun k => k ≤ m.rows.length) (μ := fun k => m.rows.length - k) (x0 := 0) ?_ ⟨Aa E, Aa E, Aa E, Aa E, Aa E, trivial⟩ ⟨(by first | exact Aa E | (refine Ak (Aa E) (vint ?_); omega) | (refine Ak (Aa E) ?_; simp; done)), trivial⟩ sb0 ?_
 ·exact Nat.zero_le _
 rintro k hk
 refine Ag (Ab (y_ (Bu (T E) (T E)) (Af (Ae (Ag ?_))) E))
 first | refine Ar (Aa E) (fun c17 => ?_) (fun c17 => ?_) | refine A6 (Aa E) (fun c17 => ?_) (fun c17 => ?_)
 ·have hkl : k < m.rows.length := by omega
  have hbt := bit_take (l := m.acc) (k := k) (by omega)
  refine A2 (Ae (Ag (Aw (Ag (Ab (y_ (Ac (T E)) (y_ (Be (T E) (T E) runUnderlying27 sizeOf4 (by omega) (by first | exact rfl | exact hm.a3.b (i := k) (by omega) | exact hm.a2.b (i := k) (by omega) | exact hm.a2.b (i := i) (by omega) | exact (hm.r (gd m.rows i) (Bg (by omega))).b (i := a) (by omega) | exact (hm.r (gd m.rows k) (Bg (by omega))).b (i := a) (by omega))) ?_ E) E))))))
  refine y_ (Ai (T E) isAgg4 (by first | exact c_o | exact cell1 ((hm.a3.mono sbt).cs (i := k) (by omega)))) ?_ E
  refine y_ (Ad (T E)) (y_ (Ad (T E)) (Af (Ae (Ag (Ab (y_ (Ac (T E)) (Af (Ae ?_)) E))))) E) E
  first | refine Ar (Aa E) (fun c21 => ?_) (fun c21 => ?_) | refine A6 (Aa E) (fun c21 => ?_) (fun c21 => ?_)
  ·have hbit : ((m.acc.take (k + 1)).map bit) = ((m.acc.take k).map bit) ++ [1] := by rw [hbt, c21]; rfl
   refine Ab (y_ (Ac (T E)) (y_ (Ac (T E)) (y_ (Be (T E) (T E) runUnderlying42 sizeOf3 (by omega) (by first | exact rfl | exact hm.a3.b (i := k) (by omega) | exact hm.a2.b (i := k) (by omega) | exact hm.a2.b (i := i) (by omega) | exact (hm.r (gd m.rows i) (Bg (by omega))).b (i := a) (by omega) | exact (hm.r (gd m.rows k) (Bg (by omega))).b (i := a) (by omega))) ?_ E) E) E)
   refine e_ (eff_sRow (m := m.rows.length) (v := 1) ((m.acc.take k).map bit) (by simp; omega) (T E) Aj sizeOf3 (by simp; omega) (by (repeat (first | exact Upd.h | apply Upd.t | apply D9)); done)) ?_ E
   rintro _ _ ⟨rfl, rfl⟩
   refine Af (Bl (Ae (Ab (y_ (Bt (T E) Aj (by omega)) ?_ E))))
   refine y_ (Ac (T E)) (Af ?_) E
   refine Bn (k + 1) ?_ ?_ ⟨(by first | exact Aa E | (refine Ak (Aa E) (vint ?_); omega) | (refine Ak (Aa E) ?_; simp; done)), trivial⟩ ⟨Aa E, Aa E, Aa E, Aa E, Aa E, trivial⟩ ?_
   ·show k + 1 ≤ _; omega
   ·first | omega | (simp only []; omega)
   ·simp only [hbit, List.length_append, List.length_cons, List.length_nil, Nat.zero_add]; exact sbt
  ·have hbit : ((m.acc.take (k + 1)).map bit) = ((m.acc.take k).map bit) ++ [0] := by rw [hbt, c21]; rfl
   rw [row_zero ((m.acc.take k).map bit) m.rows.length (by simp; omega)]
   refine A2 (Bl (Ae (Ab (y_ (Bt (T E) Aj (by omega)) ?_ E))))
   refine y_ (Ac (T E)) (Af ?_) E
   refine Bn (k + 1) ?_ ?_ ⟨(by first | exact Aa E | (refine Ak (Aa E) (vint ?_); omega) | (refine Ak (Aa E) ?_; simp; done)), trivial⟩ ⟨Aa E, Aa E, Aa E, Aa E, Aa E, trivial⟩ ?_
   ·show k + 1 ≤ _; omega
   ·first | omega | (simp only []; omega)
   ·simp only [hbit, List.length_append, List.length_cons, List.length_nil, Nat.zero_add]; exact sbt
 ·have hk2 : k = m.rows.length := by omega
  have e1 : ((m.acc.take k).map bit) = initB m.pl := by rw [hk2, ← hal, List.take_length]; rfl
  have e2 : (initB m.pl).length = m.rows.length := by unfold initB; rw [List.length_map]; exact hal
  simp only [e1, e2, Nat.sub_self, List.replicate_zero]
  refine B4 (A0 (A4 (A3 (Ae (Ag (j_label (Ae (Aw ?_))))))))
  refine Cm (X := List Nat × Nat) (V := fun ⟨b, f⟩ => []) (C := [(1, _), (2, _), (3, _)]) (G := fun ⟨b, f⟩ => slH (.blk n12 m.rows.length []) (b.flatMap encU) 3 ++ ((n2, Cl [.slice none 0 0, .slice none 0 0, .slice none 0 0] 29) :: (n1, Cl (encMc m) 29) :: H)) (φ := fun ⟨b, f⟩ => b.length = m.rows.length ∧ Cont b ∧ m.rows.length + 1 ≤ f + maxF b ∧ refineF m.pl f b = refineF m.pl 201 (initB m.pl)) (μ := fun ⟨b, f⟩ => f) (x0 := (initB m.pl, 201)) ?_ ⟨Aa rfl, Aa rfl, Aa rfl, trivial⟩ trivial sb0 ?_
  ·exact ⟨by unfold initB; rw [List.length_map]; exact hal, Cont.init (by rw [show m.pl.acc = m.acc from rfl]; omega), by omega, rfl⟩
  rintro ⟨b, f⟩ ⟨hbl, hco, hfu, href⟩
  have hd : SlOk (.blk n12 m.rows.length []) b.length 1 := ⟨Nat.le_of_eq hbl, by show 0 = (_ - _) * 1; rw [hbl]; omega⟩
  have hmax := hco.max_le
  obtain ⟨f, rfl⟩ : ∃ g, f = g + 1 := ⟨f - 1, by omega⟩
  refine Aw (Ag (Ag (Ab (y_ (Ac (T E)) (y_ (Bp (T E) runUnderlying42) (y_ (Ac Aj) (Af (Ae (Aw ?_))) E) E) E))))
  refine Cc (X := Nat) (V := fun k => [(28, .int .i64 (k : Nat))]) (C := [(1, _), (2, _), (3, _), (27, _)]) (φ := fun k => k ≤ m.rows.length ∧ ∀ j, j < k → fsI m.pl b j = none) (μ := fun k => m.rows.length - k) (x0 := 0) ?_ ⟨Aa E, Aa E, Aa E, Aa E, trivial⟩ ⟨(by first | exact Aa E | (refine Ak (Aa E) (vint ?_); omega) | (refine Ak (Aa E) ?_; simp; done)), trivial⟩ ?_
  ·exact ⟨Nat.zero_le _, fun j hj => absurd hj (Nat.not_lt_zero _)⟩
  rintro k ⟨hk, hfs⟩
  refine Ag (Ab (y_ (Bu (T E) (T E)) (Af (Ae (Ag ?_))) E))
  first | refine Ar (Aa E) (fun c29 => ?_) (fun c29 => ?_) | refine A6 (Aa E) (fun c29 => ?_) (fun c29 => ?_)
  ·have hkn : k < m.rows.length := by omega
   obtain ⟨hk1, hk2⟩ := pm_row hp hkn
   refine A2 (Ae (Ag (Aw (Ag (Ab (y_ (Ac (T E)) (y_ (Ad (T E)) (Af (Ae (Ag (Ab (y_ (Ac (T E)) (y_ (Ac Aj) (Af (Ae (Aw ?_))) E) E))))) E) E))))))
   refine Cc (X := Nat) (V := fun i => [(32, .int .i64 (i : Nat))]) (C := [(1, _), (2, _), (3, _), (6, _), (27, _), (28, _), (31, _)]) (φ := fun i => i ≤ k ∧ ∀ j, j < i → (if gd b j = gd b k then fsA m.pl b k j else none) = none) (μ := fun i => k - i) (x0 := 0) ?_ ⟨Aa E, Aa E, Aa E, Aa E, Aa E, Aa E, Aa E, trivial⟩ ⟨(by first | exact Aa E | (refine Ak (Aa E) (vint ?_); omega) | (refine Ak (Aa E) ?_; simp; done)), trivial⟩ ?_
   ·exact ⟨Nat.zero_le _, fun j hj => absurd hj (Nat.not_lt_zero _)⟩
   rintro i ⟨hi, hfi⟩
   refine Ag (Ab (y_ (Bu (T E) (T E)) (Af (Ae (Ag ?_))) E))
   first | refine Ar (Aa E) (fun c33 => ?_) (fun c33 => ?_) | refine A6 (Aa E) (fun c33 => ?_) (fun c33 => ?_)
   ·have hin : i < m.rows.length := by omega
    obtain ⟨hi1, hi2⟩ := pm_row hp hin
    refine A2 (Ae (Ag (Aw (Ag (Ab (y_ (Ac (T E)) (y_ (Ad (T E)) (Af (Ae (Ag (Ag (Ch 9 [(0, true), (1, true), (2, true), (3, true), (4, true), (5, true), (6, true), (7, true), (8, true)] _ mixd (by kernel_rfl) sb0 ?_ (by repeat (first | exact np_ret | exact np_round | exact np_assign | apply np_scope | apply np_then | apply np_block | apply np_loop | apply np_cut))))))) E) E))))))
    refine o_y E (Ac (T E)) (o_y E (Ac (T E)) (o_y E (Be (T E) (T E) runUnderlying42 sizeOf3 (by omega) (by first | exact rfl | exact hm.a3.b (i := k) (by omega) | exact hm.a2.b (i := k) (by omega) | exact hm.a2.b (i := i) (by omega) | exact (hm.r (gd m.rows i) (Bg (by omega))).b (i := a) (by omega) | exact (hm.r (gd m.rows k) (Bg (by omega))).b (i := a) (by omega))) ?_ E Ah) E Ah) E Ah
    refine o_y E (Ai (T E) isAgg3 (by first | exact c_o | exact cell1 (((Bq (X := H) (enc := encU) (sz := 1) (e := 3) (l := b) (fun _ => rfl) hd).mono sbt).cs (i := i) (by omega)))) ?_ E Ah
    refine o_y E (Ac (T E)) (o_y E (Ac (T E)) (o_y E (Ck (T E) (T E) runUnderlying42 sizeOf3 (by omega) (by first | exact rfl | exact hm.a3.b (i := k) (by omega) | exact hm.a2.b (i := k) (by omega) | exact hm.a2.b (i := i) (by omega) | exact (hm.r (gd m.rows i) (Bg (by omega))).b (i := a) (by omega) | exact (hm.r (gd m.rows k) (Bg (by omega))).b (i := a) (by omega))) ?_ E Ah) E Ah) E Ah
    refine o_y E (Ai (T E) isAgg3 (by first | exact c_o | exact cell1 (((Bq (X := H) (enc := encU) (sz := 1) (e := 3) (l := b) (fun _ => rfl) hd).mono sbt).cs (i := k) (by omega)))) ?_ E Ah
    refine o_y E (Cu (T E) (T E)) (Bx E (Af (Ae ?_))) E Ah
    first | refine Ar (Aa E) (fun c43 => ?_) (fun c43 => ?_) | refine A6 (Aa E) (fun c43 => ?_) (fun c43 => ?_)
    ·have hiA : (if gd b i = gd b k then fsA m.pl b k i else none) = none := if_neg (by omega)
     refine B4 (A0 (A3 (Ae (Ab (y_ (Bt (T E) Aj (by omega)) ?_ E)))))
     refine y_ (Ac (T E)) (Af ?_) E
     refine Bn (i + 1) ?_ ?_ ⟨(by first | exact Aa E | (refine Ak (Aa E) (vint ?_); omega) | (refine Ak (Aa E) ?_; simp; done)), trivial⟩ ⟨Aa E, Aa E, Aa E, Aa E, Aa E, Aa E, Aa E, trivial⟩ ?_
     ·refine ⟨by omega, fun j hj => ?_⟩
      by_cases e : j = i
      ·subst e; exact hiA
      ·exact hfi j (by omega)
     ·first | omega | (simp only []; omega)
     ·exact sbt
    ·refine A2 (Ae (Ag (Ab (y_ (Bi (T E) Cv) (y_ (Ai (T E) isAgg26 (by first | exact c_o)) ?_ E) E))))
     refine y_ (Ac (T E)) (y_ (Ck (T E) (T E) runUnderlying26 sizeOf42 (by omega) (by first | exact rfl | exact hm.a3.b (i := k) (by omega) | exact hm.a2.b (i := k) (by omega) | exact hm.a2.b (i := i) (by omega) | exact (hm.r (gd m.rows i) (Bg (by omega))).b (i := a) (by omega) | exact (hm.r (gd m.rows k) (Bg (by omega))).b (i := a) (by omega))) ?_ E) E
     refine y_ (Ai (T E) isAgg42 (by first | exact c_o | exact cell1 ((hm.a2.mono sbt).cs (i := k) (by omega)))) ?_ E
     refine y_ (Bp (T E) runUnderlying42) (y_ (Ac Aj) (Af (Ae (Bh [(1, _), (2, _), (3, _), (6, _), (7, _), (27, _), (28, _), (31, _), (32, _), (49, _), (50, _)] ⟨Aa E, Aa E, Aa E, Aa E, Aa E, Aa E, Aa E, Aa E, Aa E, Aa E, Aa E, trivial⟩ (Aw ?_)))) E) E
     refine Cc (X := Nat) (V := fun a => [(50, .int .i64 (a : Nat))]) (C := [(1, _), (2, _), (3, _), (6, _), (7, _), (27, _), (28, _), (31, _), (32, _), (49, _)]) (φ := fun a => a ≤ m.names.length + 1 ∧ ∀ a2, a2 < a → gd b (nx m.pl i a2) = gd b (nx m.pl k a2)) (μ := fun a => m.names.length + 1 - a) (x0 := 0) ?_ ⟨Aa E, Aa E, Aa E, Aa E, Aa E, Aa E, Aa E, Aa E, Aa E, Aa E, trivial⟩ ⟨(by first | exact Aa E | (refine Ak (Aa E) (vint ?_); omega) | (refine Ak (Aa E) ?_; simp; done)), trivial⟩ ?_
     ·exact ⟨Nat.zero_le _, fun j hj => absurd hj (Nat.not_lt_zero _)⟩
     rintro a ⟨ha, hfa⟩
     refine Ag (Ab (y_ (Bu (T E) (T E)) (Af (Ae (Ag ?_))) E))
     first | refine Ar (Aa E) (fun c51 => ?_) (fun c51 => ?_) | refine A6 (Aa E) (fun c51 => ?_) (fun c51 => ?_)
     ·have hi3 := hi2 a (by omega)
      have hk3 := hk2 a (by omega)
      refine A2 (Ae (Ag (Aw (Ag (Ab (y_ (Ac (T E)) (y_ (Ad (T E)) (Af (Ae (Ag (Ch 23 [(0, true), (1, true), (2, true), (3, true), (4, true), (5, true), (6, true), (7, true), (8, true), (9, true), (10, true), (11, true), (12, true), (13, true), (14, true), (15, true), (16, true), (17, true), (18, true), (19, true), (20, true), (21, true), (22, true)] _ mixd (by kernel_rfl) sb0 ?_ (by repeat (first | exact np_ret | exact np_round | exact np_assign | apply np_scope | apply np_then | apply np_block | apply np_loop | apply np_cut)))))) E) E))))))
      refine o_y E (Ac (T E)) (o_y E (Bi (T E) Cv) (o_y E (Ai (T E) isAgg26 (by first | exact c_o)) ?_ E Ah) E Ah) E Ah
      refine o_y E (Ac (T E)) (o_y E (Ck (T E) (T E) runUnderlying26 sizeOf42 (by omega) (by first | exact rfl | exact hm.a3.b (i := k) (by omega) | exact hm.a2.b (i := k) (by omega) | exact hm.a2.b (i := i) (by omega) | exact (hm.r (gd m.rows i) (Bg (by omega))).b (i := a) (by omega) | exact (hm.r (gd m.rows k) (Bg (by omega))).b (i := a) (by omega))) ?_ E Ah) E Ah
      refine o_y E (Ai (T E) isAgg42 (by first | exact c_o | exact cell1 ((hm.a2.mono sbt).cs (i := i) (by omega)))) ?_ E Ah
      refine o_y E (Ac (T E)) (o_y E (Be (T E) (T E) runUnderlying42 sizeOf3 (by omega) (by first | exact rfl | exact hm.a3.b (i := k) (by omega) | exact hm.a2.b (i := k) (by omega) | exact hm.a2.b (i := i) (by omega) | exact (hm.r (gd m.rows i) (Bg (by omega))).b (i := a) (by omega) | exact (hm.r (gd m.rows k) (Bg (by omega))).b (i := a) (by omega))) ?_ E Ah) E Ah
      refine o_y E (Ai (T E) isAgg3 (by first | exact c_o | exact cell1 (((hm.r (gd m.rows i) (Bg (by omega))).mono sbt).cs (i := a) (by omega)))) ?_ E Ah
      refine o_y E (Be (T E) (T E) runUnderlying42 sizeOf3 (by omega) (by first | exact rfl | exact hm.a3.b (i := k) (by omega) | exact hm.a2.b (i := k) (by omega) | exact hm.a2.b (i := i) (by omega) | exact (hm.r (gd m.rows i) (Bg (by omega))).b (i := a) (by omega) | exact (hm.r (gd m.rows k) (Bg (by omega))).b (i := a) (by omega))) ?_ E Ah
      refine o_y E (Ai (T E) isAgg3 (by first | exact c_o | exact cell1 (((Bq (X := H) (enc := encU) (sz := 1) (e := 3) (l := b) (fun _ => rfl) hd).mono sbt).cs (i := gd (gd m.rows i).l a) (by omega)))) ?_ E Ah
      refine o_y E (Ac (T E)) (o_y E (Bi (T E) Cv) (o_y E (Ai (T E) isAgg26 (by first | exact c_o)) ?_ E Ah) E Ah) E Ah
      refine o_y E (Ac (T E)) (o_y E (Ck (T E) (T E) runUnderlying26 sizeOf42 (by omega) (by first | exact rfl | exact hm.a3.b (i := k) (by omega) | exact hm.a2.b (i := k) (by omega) | exact hm.a2.b (i := i) (by omega) | exact (hm.r (gd m.rows i) (Bg (by omega))).b (i := a) (by omega) | exact (hm.r (gd m.rows k) (Bg (by omega))).b (i := a) (by omega))) ?_ E Ah) E Ah
      refine o_y E (Ai (T E) isAgg42 (by first | exact c_o | exact cell1 ((hm.a2.mono sbt).cs (i := k) (by omega)))) ?_ E Ah
      refine o_y E (Ac (T E)) (o_y E (Be (T E) (T E) runUnderlying42 sizeOf3 (by omega) (by first | exact rfl | exact hm.a3.b (i := k) (by omega) | exact hm.a2.b (i := k) (by omega) | exact hm.a2.b (i := i) (by omega) | exact (hm.r (gd m.rows i) (Bg (by omega))).b (i := a) (by omega) | exact (hm.r (gd m.rows k) (Bg (by omega))).b (i := a) (by omega))) ?_ E Ah) E Ah
      refine o_y E (Ai (T E) isAgg3 (by first | exact c_o | exact cell1 (((hm.r (gd m.rows k) (Bg (by omega))).mono sbt).cs (i := a) (by omega)))) ?_ E Ah
      refine o_y E (Be (T E) (T E) runUnderlying42 sizeOf3 (by omega) (by first | exact rfl | exact hm.a3.b (i := k) (by omega) | exact hm.a2.b (i := k) (by omega) | exact hm.a2.b (i := i) (by omega) | exact (hm.r (gd m.rows i) (Bg (by omega))).b (i := a) (by omega) | exact (hm.r (gd m.rows k) (Bg (by omega))).b (i := a) (by omega))) ?_ E Ah
      refine o_y E (Ai (T E) isAgg3 (by first | exact c_o | exact cell1 (((Bq (X := H) (enc := encU) (sz := 1) (e := 3) (l := b) (fun _ => rfl) hd).mono sbt).cs (i := gd (gd m.rows k).l a) (by omega)))) ?_ E Ah
      refine o_y E (Cu (T E) (T E)) (Bx E (Af (Ae (Bh [(1, _), (2, _), (3, _), (6, _), (7, _), (8, _), (27, _), (28, _), (31, _), (32, _), (49, _), (50, _), (75, _)] ⟨Aa E, Aa E, Aa E, Aa E, Aa E, Aa E, Aa E, Aa E, Aa E, Aa E, Aa E, Aa E, Aa E, trivial⟩ ?_)))) E Ah
      first | refine Ar (Aa E) (fun c75 => ?_) (fun c75 => ?_) | refine A6 (Aa E) (fun c75 => ?_) (fun c75 => ?_)
      ·have hne : ¬ gd b (nx m.pl i a) = gd b (nx m.pl k a) := by rw [nx_pl, nx_pl]; omega
       have hsA : fsA m.pl b k i = some (k, a) := by
        refine fs_some (k := a) ?_ (if_neg hne) fun a2 ha2 => if_pos (hfa a2 ha2)
        rw [show m.pl.next = m.rows.map RowQ.l from rfl, gd_rows]; omega
       have hsI : fsI m.pl b k = some (k, a) := fs_some (k := i) (by omega) (by rw [if_pos (by omega)]; exact hsA) fun j hj => hfi j hj
       have hsp : findSp m.pl b = some (k, a) := fs_some (k := k) (by omega) hsI fun j hj => hfs j hj
       have hco2 := hco.split (m := m.pl) (i := i) (k := k) (a := a) (by omega) (by omega) (by omega) hne
       have hmx2 := split_max (m := m.pl) (b := b) (i := i) (k := k) (a := a) (by omega) (by omega) (by omega) hne
       refine Ag (Ab (y_ (Am (T E) isAgg29 sizeOf29 E (by first | exact Bb)) ?_ E))
       refine y_ (Ac (T E)) (y_ (Ac (T E)) (y_ (Ac (T E)) (e_ (A1 (.cons (T E) (.cons (T E) (.cons (T E) (.cons (T E) .nil)))) call104 (B5 (slH (.blk n12 m.rows.length []) (b.flatMap encU) 3) (by repeat (first | exact LocL.h | apply LocL.t | apply LocL.a)) (split_s m (hm.mono sbt) hp (.blk n12 m.rows.length []) m.rows.length b k a hd hbl E (by omega) (by omega) (by have := hco.max_le; omega)))) ?_ E) E) E) E
       rintro _ _ ⟨_, _, rfl⟩
       refine Af (Ae (B4 (q_block_miss E (A0 (A4 (q_block_miss E (q_block_miss E (A0 (A4 (q_block_miss E (q_block_miss E (A0 (A4 (q_block_miss E (A0 (A3 ?_))))))))))))))))
       refine Bn ((splitF m.pl b k a, f)) ?_ ?_ trivial ⟨Aa E, Aa E, Aa E, trivial⟩ ?_
       ·exact ⟨by rw [splitF_len]; exact hbl, hco2, by omega, by rw [← href, refineF_some hsp]⟩
       ·first | omega | (simp only []; omega)
       ·exact sbt
      ·have hea : gd b (nx m.pl i a) = gd b (nx m.pl k a) := by rw [nx_pl, nx_pl]; omega
       refine A2 (Bl (Ae (Ab (y_ (Bt (T E) Aj (by omega)) ?_ E))))
       refine y_ (Ac (T E)) (Af ?_) E
       refine Bn (a + 1) ?_ ?_ ⟨(by first | exact Aa E | (refine Ak (Aa E) (vint ?_); omega) | (refine Ak (Aa E) ?_; simp; done)), trivial⟩ ⟨Aa E, Aa E, Aa E, Aa E, Aa E, Aa E, Aa E, Aa E, Aa E, Aa E, trivial⟩ ?_
       ·refine ⟨by omega, fun j hj => ?_⟩
        by_cases e : j = a
        ·subst e; exact hea
        ·exact hfa j (by omega)
       ·first | omega | (simp only []; omega)
       ·exact sbt
     ·have hiA : (if gd b i = gd b k then fsA m.pl b k i else none) = none := by
       rw [if_pos (by omega)]
       refine fs_none fun a2 ha2 => if_pos (hfa a2 ?_)
       rw [show m.pl.next = m.rows.map RowQ.l from rfl, gd_rows] at ha2; omega
      refine B4 (A0 (A4 (A3 (Bl (Ae (Ab (y_ (Bt (T E) Aj (by omega)) ?_ E)))))))
      refine y_ (Ac (T E)) (Af ?_) E
      refine Bn (i + 1) ?_ ?_ ⟨(by first | exact Aa E | (refine Ak (Aa E) (vint ?_); omega) | (refine Ak (Aa E) ?_; simp; done)), trivial⟩ ⟨Aa E, Aa E, Aa E, Aa E, Aa E, Aa E, Aa E, trivial⟩ ?_
      ·refine ⟨by omega, fun j hj => ?_⟩
       by_cases e : j = i
       ·subst e; exact hiA
       ·exact hfi j (by omega)
      ·first | omega | (simp only []; omega)
      ·exact sbt
   ·have hkI : fsI m.pl b k = none := fs_none fun j hj => hfi j (by omega)
    refine B4 (A0 (A4 (A3 (Bl (Ae (Ab (y_ (Bt (T E) Aj (by omega)) ?_ E)))))))
    refine y_ (Ac (T E)) (Af ?_) E
    refine Bn (k + 1) ?_ ?_ ⟨(by first | exact Aa E | (refine Ak (Aa E) (vint ?_); omega) | (refine Ak (Aa E) ?_; simp; done)), trivial⟩ ⟨Aa E, Aa E, Aa E, Aa E, trivial⟩ ?_
    ·refine ⟨by omega, fun j hj => ?_⟩
     by_cases e : j = k
     ·subst e; exact hkI
     ·exact hfs j (by omega)
    ·first | omega | (simp only []; omega)
    ·exact sbt
  ·have hnone : findSp m.pl b = none := fs_none fun j hj => hfs j (by omega)
   refine B4 (A0 (A4 (A3 (Ae (Ag (Ab (y_ (Am (T E) isAgg29 sizeOf29 E (by first | exact Bb)) ?_ E)))))))
   refine y_ (Ac (T E)) (e_ (A1 (.cons (T E) (.cons (T E) .nil)) call105 (numbered_s m (hm.mono sbt) hp hln _ _ b ((Bq (X := H) (enc := encU) (sz := 1) (e := 3) (l := b) (fun _ => rfl) hd).mono sbt) m.rows.length hbl E)) ?_ E) E
   rintro _ _ ⟨x, ⟨rfl, hox⟩, rfl⟩
   first | refine Bk (A7 (T E) (T E) sizeOf29) E Ah ?_
   rintro _ _ ⟨rfl, rfl⟩
   refine Af (Ae (Ay (An (Bo (An (q_scope_ret (Az E (.cellA (Aa E) isAgg29 sizeOf29 E (by first | exact Bb) .nil) ?_)))))))
   have hfin : refineF m.pl 201 (initB m.pl) = b := by rw [← href, refineF_none hnone]
   unfold leastF
   rw [hfin]
   exact ⟨_, ⟨x, ⟨rfl, hox⟩, rfl⟩, sbt⟩
theorem buildL_s {w0 : World} : BuildS w0 leastF := build_s least_s
end Go.Proofs.YtkdolgnpkjihpaaGreatDoor
namespace Go.Proofs.YtkdolgnpkjihpaaGreatDoor
open _root_.Go.Proofs.Tryz
open Go.RowKit Go.Shelf Go.Sort Go.Proofs
set_option linter.unusedVariables false
set_option linter.unusedSimpArgs false
def laysItoa_ren : Go.Shelf.Ren := ⟨fun | 171 => 68 | 243 => 116 | 246 => 142 | 283 => 167 | 284 => 168 | 285 => 169 | 286 => 170 | 129 => 156 | 317 => 182 | 318 => 183 | 319 => 184 | 320 => 185 | 337 => 190 | 338 => 191 | n => n, fun | 3 => 3 | 9 => 9 | 2 => 2 | 4 => 4 | 171 => 221 | 0 => 0 | 53 => 84 | 37 => 152 | 5 => 5 | 173 => 223 | 212 => 237 | 51 => 214 | 20 => 20 | 213 => 238 | 46 => 192 | 232 => 244 | 233 => 245 | n => n, fun | 17 => 0 | 18 => 1 | 19 => 2 | n => n⟩
theorem laysItoa : Go.Proofs.Lays.n171 Tryz.prog laysItoa_ren := {
 mixed := by kernel_rfl,
 f129 := Tryz.func156.trans (congrArg some (by kernel_rfl)),
 f171 := Tryz.func68.trans (congrArg some (by kernel_rfl)),
 f243 := Tryz.func116.trans (congrArg some (by kernel_rfl)),
 f246 := Tryz.func142.trans (congrArg some (by kernel_rfl)),
 f283 := Tryz.func167.trans (congrArg some (by kernel_rfl)),
 f284 := Tryz.func168.trans (congrArg some (by kernel_rfl)),
 f285 := Tryz.func169.trans (congrArg some (by kernel_rfl)),
 f286 := Tryz.func170.trans (congrArg some (by kernel_rfl)),
 f317 := Tryz.func182.trans (congrArg some (by kernel_rfl)),
 f318 := Tryz.func183.trans (congrArg some (by kernel_rfl)),
 f319 := Tryz.func184.trans (congrArg some (by kernel_rfl)),
 f320 := Tryz.func185.trans (congrArg some (by kernel_rfl)),
 f337 := Tryz.func190.trans (congrArg some (by kernel_rfl)),
 f338 := Tryz.func191.trans (congrArg some (by kernel_rfl)),
 t0 := underlying0,
 a0 := isAgg0,
 z0 := sizeOf0,
 v0 := zeroValue0,
 t2 := underlying2,
 a2 := isAgg2,
 z2 := sizeOf2,
 v2 := zeroValue2,
 t3 := underlying3,
 a3 := isAgg3,
 z3 := sizeOf3,
 v3 := zeroValue3,
 t4 := underlying4,
 a4 := isAgg4,
 z4 := sizeOf4,
 v4 := zeroValue4,
 t5 := underlying5,
 a5 := isAgg5,
 z5 := sizeOf5,
 v5 := zeroValue5,
 t9 := underlying9,
 a9 := isAgg9,
 z9 := sizeOf9,
 v9 := zeroValue9,
 t20 := underlying20,
 a20 := isAgg20,
 z20 := sizeOf20,
 v20 := zeroValue20,
 t37 := underlying152,
 a37 := isAgg152,
 z37 := sizeOf152,
 v37 := zeroValue152,
 t46 := underlying192,
 a46 := isAgg192,
 z46 := sizeOf192,
 v46 := zeroValue192,
 t51 := underlying214,
 a51 := isAgg214,
 z51 := sizeOf214,
 v51 := zeroValue214,
 t53 := underlying84,
 a53 := isAgg84,
 z53 := sizeOf84,
 v53 := zeroValue84,
 t171 := underlying221,
 a171 := isAgg221,
 z171 := sizeOf221,
 v171 := zeroValue221,
 t173 := underlying223,
 a173 := isAgg223,
 z173 := sizeOf223,
 v173 := zeroValue223,
 t212 := underlying237,
 a212 := isAgg237,
 z212 := sizeOf237,
 v212 := zeroValue237,
 t213 := underlying238,
 a213 := isAgg238,
 z213 := sizeOf238,
 t232 := underlying244,
 a232 := isAgg244,
 z232 := sizeOf244,
 v232 := zeroValue244,
 t233 := underlying245,
 a233 := isAgg245,
 z233 := sizeOf245,
 v233 := zeroValue245,
 g17 := by kernel_rfl,
 g18 := by kernel_rfl,
 g19 := by kernel_rfl }
abbrev itoaB (i : Nat) : ByteArray := ⟨(Lib.decDigits i).toArray⟩
theorem itoa_s {w0 : World} {H : List (Nat × Obj)} (i : Nat) (hi : i < 100) : FSpec Tryz.prog w0 68 #[.int .i64 (i : Int)] H (Still (.string (itoaB i)) H) := fun w hO =>
 (Any.strconv_Itoa_small laysItoa i hi w).mono fun e w' ⟨he, hw⟩ => ⟨_, _, he, hw ▸ hO, rfl, rfl⟩
section
variable {P : Program} {w0 : World} {L : Fm} {H : List (Nat × Obj)} {ty t1 t2 xt yt : TypeId} {x y : Operand}
theorem yl_convI {k k' : IntKind} {td : TypeDesc} {a : Int} (hx : Ev L x (.int k' a)) (hs : ∀ w, (underlying t1).run P w = .ok td w) (ht : ∀ w, (underlying t2).run P w = .ok (.int k) w) :
  Yl P w0 (.convert t1 t2 x) ty L H (.int k (k.wrap a)) := Cd E fun b w => by
 simp [exO, execOp, hx b, convert, hs, ht, Conv.intToInt, Sem.run_bind, Result.andThen]
theorem p63 : (2 : Nat) ^ 63 = 9223372036854775808 := by decide
theorem yl_convU {td : TypeDesc} {n : Nat} (hn : n < 2 ^ 63) (hx : Ev L x (.int .i64 (n : Int))) (ht1 : ∀ w, (underlying t1).run P w = .ok td w) (ht2 : ∀ w, (underlying t2).run P w = .ok (.int .u64) w) : Yl P w0 (.convert t1 t2 x) ty L H (.int .u64 (n : Int)) := by
 have h := yl_convI (P := P) (w0 := w0) (ty := ty) (H := H) hx ht1 ht2
 rw [show IntKind.u64.wrap (n : Int) = n from wrap_u64 (Nat.lt_trans hn (by decide))] at h
 exact h
theorem yl_convB64 {td : TypeDesc} {n : Nat} (hn : n < 2 ^ 63) (hx : Ev L x (.int .u64 (n : Int))) (ht1 : ∀ w, (underlying t1).run P w = .ok td w) (ht2 : ∀ w, (underlying t2).run P w = .ok (.int .i64) w) : Yl P w0 (.convert t1 t2 x) ty L H (.int .i64 (n : Int)) := by
 have h := yl_convI (P := P) (w0 := w0) (ty := ty) (H := H) hx ht1 ht2
 have := p63
 rw [show IntKind.i64.wrap (n : Int) = n from IntWalk.i64_in _ (by omega)] at h
 exact h
theorem yl_shrU {m : Nat} (hx : Ev L x (.int .u64 (m : Int))) (hy : Ev L y (.int .u64 1)) : Yl P w0 (.binOp .shr xt x y yt) ty L H (.int .u64 ((m / 2 : Nat) : Int)) := Cd E fun b w => by
 have e3 : (Op.shift .shr .u64 (m : Int) .u64 1).run P w = .ok (.int .u64 ((m / 2 : Nat) : Int)) w := by
  unfold Op.shift
  rw [if_neg (by decide)]
  simp only [IntKind.bits]
  show Result.ok (Value.int .u64 ((m : Int).fdiv (2 ^ 1))) w = _
  rw [Int.fdiv_eq_ediv_of_nonneg _ (by decide)]
  congr 2
 simp [exO, execOp, hx b, hy b, binOp, eqGuard, Sem.run_bind, Result.andThen, e3]
end
end Go.Proofs.YtkdolgnpkjihpaaGreatDoor
namespace Go.Proofs.YtkdolgnpkjihpaaGreatDoor
open _root_.Go.Proofs.Tryz
open Go.RowKit
set_option linter.unusedVariables false
set_option linter.unusedSimpArgs false
theorem ltU_trans {a b c : List UInt8} (h1 : a < b) (h2 : b < c) : a < c := List.lt_trans h1 h2
def lbF (names : List ByteArray) (s : ByteArray) : Nat := (names.filter fun x => decide (toL x < toL s)).length
theorem lbF_eq : ∀ {names : List ByteArray} {s : ByteArray} {i : Nat}, i ≤ names.length → (∀ j, j < i → toL (gd names j) < toL s) → (∀ j, i ≤ j → j < names.length → ¬ toL (gd names j) < toL s) → lbF names s = i
 | [], s, i, hi, _, _ => by simp at hi; simp [lbF, hi]
 | x :: l, s, 0, hi, h1, h2 => by
  have h3 := lbF_eq (names := l) (s := s) (i := 0) (Nat.zero_le _) (fun j hj => absurd hj (Nat.not_lt_zero _)) (fun j _ hj => by
   have := h2 (j + 1) (by omega) (by simpa using hj)
   simpa [gd] using this)
  have h0 := h2 0 (Nat.le_refl _) (by simp)
  have h4 : ¬ toL x < toL s := by simpa [gd] using h0
  unfold lbF at *
  rw [List.filter_cons, if_neg (by simpa using h4)]
  exact h3
 | x :: l, s, i + 1, hi, h1, h2 => by
  have h3 := lbF_eq (names := l) (s := s) (i := i) (by simpa using hi) (fun j hj => by
   have := h1 (j + 1) (by omega)
   simpa [gd] using this) (fun j h5 hj => by
   have := h2 (j + 1) (by omega) (by simpa using hj)
   simpa [gd] using this)
  have h4 : toL x < toL s := by simpa [gd] using h1 0 (by omega)
  unfold lbF at *
  rw [List.filter_cons, if_pos (by simpa using h4), List.length_cons, h3]
def Srt (names : List ByteArray) : Prop := names.Pairwise fun a b => toL a < toL b
theorem Srt.lt {names : List ByteArray} (h : Srt names) {i j : Nat} (hij : i < j) (hj : j < names.length) : toL (gd names i) < toL (gd names j) := by
 rw [Bv (by omega), Bv hj]
 exact List.pairwise_iff_getElem.1 h i j (by omega) hj hij
theorem lbF_le (names : List ByteArray) (s : ByteArray) : lbF names s ≤ names.length := List.length_filter_le _ _
def lett (names : List ByteArray) (s : ByteArray) : Nat := if lbF names s < names.length ∧ toL (gd names (lbF names s)) = toL s then lbF names s else names.length
theorem lett_le (names : List ByteArray) (s : ByteArray) : lett names s ≤ names.length := by
 unfold lett; split <;> omega
def afterF (m : PM) (st : Nat) (s : ByteArray) : Nat := nx m st (lett m.names s)
def runM (m : PM) (l : List ByteArray) : Nat := l.foldl (afterF m) 0
theorem nx_lt {m : PM} (h : PMok m) {i a : Nat} (hi : i < m.next.length) (ha : a < m.names.length + 1) : nx m i a < m.next.length := by
 obtain ⟨h1, h2⟩ := h.row (gd m.next i) (Bg hi)
 exact h2 _ (Bg (by rw [h1]; exact ha))
theorem after_lt {m : PM} (h : PMok m) {i : Nat} (hi : i < m.next.length) (s : ByteArray) : afterF m i s < m.next.length := nx_lt h hi (Nat.lt_succ_of_le (lett_le _ _))
theorem runM_lt {m : PM} (h : PMok m) (l : List ByteArray) : runM m l < m.next.length := by
 unfold runM
 suffices ∀ st, st < m.next.length → l.foldl (afterF m) st < m.next.length from this 0 h.some'
 induction l with
 | nil => intro st h; exact h
 | cons s l ih => intro st h2; exact ih _ (after_lt h h2 s)
theorem runM_take {m : PM} {l : List ByteArray} {i : Nat} (h : i < l.length) : runM m (l.take (i + 1)) = afterF m (runM m (l.take i)) (gd l i) := by
 unfold runM; rw [List.take_add_one, Dd h, List.foldl_append]; rfl
def othK (k : Nat) : ByteArray := if k = 0 then ⟨#[111, 116, 104, 101, 114]⟩ else ⟨#[111, 116, 104, 101, 114]⟩ ++ itoaB k
theorem itoa_size : ∀ k : Fin 100, (itoaB k.val).size ≤ 3 := by decide +kernel
theorem othK_nodup : ((List.range 100).map fun k => toL (othK k)).Nodup := by decide +kernel
def othN (names : List ByteArray) : Nat := ((List.range 100).findSome? fun k => if toL (othK k) ∈ names.map toL then none else some k).getD 0
def otherF (names : List ByteArray) : ByteArray := othK (othN names)
theorem oth_few {names : List ByteArray} {k : Nat} (hk : k ≤ 100) (h : ∀ j, j < k → toL (othK j) ∈ names.map toL) : k ≤ names.length := by
 have h1 : ((List.range k).map fun k => toL (othK k)).Nodup := by
  have e : (List.range 100).map (fun k => toL (othK k)) = (List.range k).map (fun k => toL (othK k)) ++ (List.range' k (100 - k)).map (fun k => toL (othK k)) := by
   rw [← List.map_append, List.range_eq_range', List.range_eq_range', show 100 = k + (100 - k) by omega, ← List.range'_append_1]
   simp
  have := othK_nodup
  rw [e, List.nodup_append] at this
  exact this.1
 have := nodup_le h1 (l' := names.map toL) fun x hx => by
  simp only [List.mem_map, List.mem_range] at hx
  obtain ⟨j, hj, rfl⟩ := hx
  exact h j hj
 simpa using this
theorem nan1_s {w0 : World} {H : List (Nat × Obj)} (a : ByteArray) :
  FSpec Tryz.prog w0 141 #[.string a] H (Still (.bool false) H) := by
 refine A9 Tryz.func141 E ntmps141 E (Ag (Ab (y_ (Ad Aj) (Af (Ae (Ag (Ab (y_ (Ac (T E)) (y_ (Ac (T E)) (y_ (yl_neSD (T E) (T E)) (y_ (Ad (T E)) (Af (Ae (Ay (Az E (.tmp (Aa E) .nil) ?_)))) E) E) E) E))))) E)))
 exact ⟨_, ⟨vbool (by simp), rfl⟩, sbt⟩
theorem nan2_s {w0 : World} {H : List (Nat × Obj)} (a : ByteArray) :
  FSpec Tryz.prog w0 143 #[.string a] H (Still (.bool false) H) := by
 refine A9 Tryz.func143 E ntmps143 E (Ag (Ab (y_ (Ad Aj) (Af (Ae (Ag (Ab (y_ (Ac (T E)) (y_ (Ac (T E)) (y_ (yl_neSD (T E) (T E)) (y_ (Ad (T E)) (Af (Ae (Ay (Az E (.tmp (Aa E) .nil) ?_)))) E) E) E) E))))) E)))
 exact ⟨_, ⟨vbool (by simp), rfl⟩, sbt⟩
theorem less_s {w0 : World} {H : List (Nat × Obj)} (a b : ByteArray) :
  FSpec Tryz.prog w0 112 #[.string a, .string b] H (Still (.bool (decide (toL a < toL b))) H) := by
 refine A9 Tryz.func112 E ntmps112 E (Ag (Ab (y_ (Ad Aj) (Af (Ae (Ag (Ab (y_ (Ac (T E)) (y_ (Av (.cons (T E) .nil) call141 (fun H' hs => nan1_s _)) (y_ (Ac (T E)) (Bs (Bs (Bs (y_ (Au (T E) Aj) (y_ (Ac (T E)) (Ax (Ac (T E)) E (Ao E E (Aa E)) (Ax (Ac (T E)) E (Ao E E (Aa E)) (Ax (yl_ltS (T E) (T E)) E (Ao E E (Aa E)) (y_ (Au (T E) (T E)) (y_ (Ad (T E)) (Af (Ae (Ay (Az E (.tmp (Aa E) .nil) ?_)))) E) E)))) E) E) E E E E) E E E E) E E E E) E) E) E))))) E)))
 exact ⟨_, ⟨rfl, rfl⟩, sbt⟩
theorem mem_gdS {b : List ByteArray} {x : ByteArray} : x ∈ b ↔ ∃ j, j < b.length ∧ gd b j = x := by
 constructor
 ·intro h
  obtain ⟨j, hj, e⟩ := List.getElem_of_mem h
  exact ⟨j, hj, by rw [Bv hj]; exact e⟩
 ·rintro ⟨j, hj, rfl⟩; exact Bg hj
theorem idxS_s {w0 : World} {H : List (Nat × Obj)} (names : List ByteArray) (q : Option Addr) (c : Nat) (s : ByteArray) (hA : Arr w0 H q 1 encS names) (hlen : names.length ≤ 4611686018427387903) :
  FSpec Tryz.prog w0 115 #[.slice q names.length c, .string s] H ((fun v H' => (∃ i : Int, v = .int .i64 i ∧ (0 ≤ i ↔ toL s ∈ names.map toL)) ∧ H' = H)) := by
 refine A9 Tryz.func115 E ntmps115 E (Ag (Ab (y_ (Ad Aj) (Af (Ae (Ag (Ag (Ab (y_ (Ac (T E)) (y_ (Bp (T E) runUnderlying25) (y_ (Ac Aj) (Af (Ae (Aw ?_))) E) E) E)))))) E)))
 refine Cc (X := Nat) (V := fun i => [(8, .int .i64 (i : Nat))]) (C := [(0, _), (1, _), (7, _)]) (φ := fun i => i ≤ names.length ∧ ∀ j, j < i → ¬ toL s = toL (gd names j)) (μ := fun i => names.length - i) (x0 := 0) ?_ ⟨Aa E, Aa E, Aa E, trivial⟩ ⟨(by first | exact Aa E | (refine Ak (Aa E) (vint ?_); omega) | (refine Ak (Aa E) ?_; simp; done)), trivial⟩ ?_
 ·exact ⟨Nat.zero_le _, fun j hj => absurd hj (Nat.not_lt_zero _)⟩
 rintro i ⟨hi, hno⟩
 refine Ag (Ab (y_ (Bu (T E) (T E)) (Af (Ae (Ag ?_))) E))
 first | refine Ar (Aa E) (fun c9 => ?_) (fun c9 => ?_) | refine A6 (Aa E) (fun c9 => ?_) (fun c9 => ?_)
 ·refine A2 (Ae (Ag (Aw (Ag (Ab (y_ (Ac (T E)) (y_ (Ad (T E)) (Af (Ae (Ag (Ab (y_ (Ac (T E)) (y_ (Ac (T E)) (y_ (Ac (T E)) (y_ (Be (T E) (T E) runUnderlying25 sizeOf9 (by omega) (by first | exact rfl | exact hA.b (i := i) (by omega))) ?_ E) E) E) E))))) E) E))))))
  refine y_ (Ai (T E) isAgg9 (by first | exact c_o | exact cell1 ((hA.mono sbt).cs (i := i) (by omega)))) ?_ E
  refine y_ (yl_eqSD (T E) (T E)) (Af (Ae ?_)) E
  first | refine Ar (Aa E) (fun c16 => ?_) (fun c16 => ?_) | refine A6 (Aa E) (fun c16 => ?_) (fun c16 => ?_)
  ·refine Ag (Ab (y_ (Ac (T E)) (y_ (Ad (T E)) (Af (Ae (Ay (An (Al (Bo (An (Al (Az E (.tmp (Aa E) .nil) ?_))))))))) E) E))
   exact ⟨_, ⟨⟨_, rfl, fun _ => by rw [show toL s = toL (gd names i) from c16]; exact List.mem_map_of_mem (Bg (by omega)), fun _ => by omega⟩, rfl⟩, sbt⟩
  ·refine A2 (Bl (Ae (Ab (y_ (Bt (T E) Aj (by omega)) ?_ E))))
   refine y_ (Ac (T E)) (Af ?_) E
   refine Bn (i + 1) ?_ ?_ ⟨(by first | exact Aa E | (refine Ak (Aa E) (vint ?_); omega) | (refine Ak (Aa E) ?_; simp; done)), trivial⟩ ⟨Aa E, Aa E, Aa E, trivial⟩ ?_
   ·refine ⟨by omega, fun j hj => ?_⟩
    by_cases e : j = i
    ·subst e; exact c16
    ·exact hno j (by omega)
   ·first | omega | (simp only []; omega)
   ·exact sbt
 ·refine B4 (A0 (A4 (A3 (Ae (Ag (Ab (y_ (Ad Aj) (Af (Ae (Ay (Az E (.tmp (Aa E) .nil) (⟨_, ⟨⟨-1, rfl, fun h => absurd h (by decide), fun h => ?_⟩, rfl⟩, sbt⟩))))) E)))))))
  obtain ⟨x, hx, e⟩ := List.mem_map.1 h
  obtain ⟨j, hj, rfl⟩ := mem_gdS.1 hx
  exact absurd e.symm (hno j (by omega))
theorem hasS_s {w0 : World} {H : List (Nat × Obj)} (names : List ByteArray) (q : Option Addr) (c : Nat) (s : ByteArray) (hA : Arr w0 H q 1 encS names) (hlen : names.length ≤ 4611686018427387903) :
  FSpec Tryz.prog w0 67 #[.slice q names.length c, .string s] H (Still (.bool (decide (toL s ∈ names.map toL))) H) := by
 refine A9 Tryz.func67 E ntmps67 E (Ag (Ab (y_ (Ad Aj) (Af (Ae (Ag (Ab (y_ (Ac (T E)) (y_ (Ac (T E)) (e_ (A1 (.cons (T E) (.cons (T E) .nil)) call115 (idxS_s names q c s hA hlen)) ?_ E) E) E))))) E)))
 rintro _ _ ⟨⟨i, rfl, hi⟩, rfl⟩
 refine y_ (C2 (T E) Aj) (y_ (Ad (T E)) (Af (Ae (Ay (Az E (.tmp (Aa E) .nil) ?_)))) E) E
 exact ⟨_, ⟨vbool (decide_eq_decide.2 hi), rfl⟩, sbt⟩
theorem bs_s {w0 : World} {H : List (Nat × Obj)} (names : List ByteArray) (q : Option Addr) (c : Nat) (s : ByteArray) (hA : Arr w0 H q 1 encS names) (hs : Srt names) (hlen : names.length ≤ 4611686018427387903) :
  FSpec Tryz.prog w0 117 #[.slice q names.length c, .string s] H (Still (.tuple #[.int .i64 (lbF names s : Nat), .bool (decide (lbF names s < names.length ∧ toL (gd names (lbF names s)) = toL s))]) H) := by
 refine A9 Tryz.func117 E ntmps117 E (Ag (Ab (y_ (Ad Aj) (y_ (Ad Aj) (Af (Ae (Ag (Ab (y_ (Ac (T E)) (y_ (Bp (T E) runUnderlying25) (y_ (Ad (T E)) (Af (Ae (Ag (Ab (y_ (Ac (T E)) (y_ (Ad Aj) (y_ (Ad (T E)) (Af (Ae (Ag (Aw ?_)))) E) E) E))))) E) E) E))))) E) E)))
 refine Cc (X := Nat × Nat) (V := fun ⟨i, j⟩ => [(7, .int .i64 (i : Nat)), (8, .int .i64 (j : Nat))]) (C := [(0, _), (1, _), (6, _)]) (φ := fun ⟨i, j⟩ => i ≤ j ∧ j ≤ names.length ∧ (∀ k, k < i → toL (gd names k) < toL s) ∧ (∀ k, j ≤ k → k < names.length → ¬ toL (gd names k) < toL s)) (μ := fun ⟨i, j⟩ => j - i) (x0 := (0, names.length)) ?_ ⟨Aa rfl, Aa rfl, Aa rfl, trivial⟩ ⟨(by first | exact Aa rfl | (refine Ak (Aa rfl) (vint ?_); omega) | (refine Ak (Aa rfl) ?_; simp; done)), (by first | exact Aa rfl | (refine Ak (Aa rfl) (vint ?_); omega) | (refine Ak (Aa rfl) ?_; simp; done)), trivial⟩ ?_
 ·exact ⟨Nat.zero_le _, Nat.le_refl _, fun k hk => absurd hk (Nat.not_lt_zero _), fun k h1 h2 => by omega⟩
 rintro ⟨i, j⟩ ⟨hij0, hj, h1, h2⟩
 refine Ag (Ag (Ab (y_ (Ac (T E)) (y_ (Ac (T E)) (y_ (Bu (T E) (T E)) (Af (Ae ?_)) E) E) E)))
 first | refine Ar (Aa E) (fun c15 => ?_) (fun c15 => ?_) | refine A6 (Aa E) (fun c15 => ?_) (fun c15 => ?_)
 ·have hij : i < j := by omega
  refine A2 (Ae (Aw (Ag (Ab (y_ (Ac (T E)) (y_ (Ac (T E)) (y_ (Bt (T E) (T E) (by omega)) ?_ E) E) E)))))
  refine y_ (yl_convU (n := i + j) (by have := p63; omega) (T E) runUnderlying3 runUnderlying192) ?_ E
  refine y_ (yl_shrU (T E) Aj) (y_ (yl_convB64 (n := (i + j) / 2) (by have := p63; omega) (T E) runUnderlying192 runUnderlying3) ?_ E) E
  refine y_ (Ad (T E)) (Af (Ae (Ag (Ab (y_ (Ac (T E)) (y_ (Ac (T E)) (y_ (Be (T E) (T E) runUnderlying25 sizeOf9 (by omega) (by first | exact rfl | exact hA.b (i := ((i + j) / 2)) (by omega) | exact hA.b (i := i) (by omega))) ?_ E) E) E))))) E
  refine y_ (Ai (T E) isAgg9 (by first | exact c_o | exact cell1 ((hA.mono sbt).cs (i := ((i + j) / 2)) (by omega)) | exact cell1 ((hA.mono sbt).cs (i := ((i + j) / 2)) (by omega)) | exact cell1 ((hA.mono sbt).cs (i := i) (by omega)))) ?_ E
  refine y_ (Ac (T E)) (y_ (Av (.cons (T E) (.cons (T E) .nil)) call112 (fun H' hs => less_s _ _)) (Af (Ae ?_)) E) E
  first | refine Ar (Aa E) (fun c27 => ?_) (fun c27 => ?_) | refine A6 (Aa E) (fun c27 => ?_) (fun c27 => ?_)
  ·refine Ab (y_ (Ac (T E)) (y_ (Bt (T E) Aj (by omega)) ?_ E) E)
   refine y_ (Ad (T E)) (Af (Bl ?_)) E
   refine Bn ((((i + j) / 2) + 1, j)) ?_ ?_ ⟨(by first | exact Aa E | (refine Ak (Aa E) (vint ?_); omega) | (refine Ak (Aa E) ?_; simp; done)), (by first | exact Aa E | (refine Ak (Aa E) (vint ?_); omega) | (refine Ak (Aa E) ?_; simp; done)), trivial⟩ ⟨Aa E, Aa E, Aa E, trivial⟩ ?_
   ·refine ⟨by omega, hj, fun k hk => ?_, h2⟩
    by_cases e : k = ((i + j) / 2)
    ·subst e; exact c27
    ·exact ltU_trans (hs.lt (show k < ((i + j) / 2) by omega) (by omega)) c27
   ·first | omega | (simp only []; omega)
   ·exact sbt
  ·refine Ab (y_ (Ac (T E)) (y_ (Ad (T E)) (Af (Bl ?_)) E) E)
   refine Bn ((i, ((i + j) / 2))) ?_ ?_ ⟨(by first | exact Aa E | (refine Ak (Aa E) (vint ?_); omega) | (refine Ak (Aa E) ?_; simp; done)), (by first | exact Aa E | (refine Ak (Aa E) (vint ?_); omega) | (refine Ak (Aa E) ?_; simp; done)), trivial⟩ ⟨Aa E, Aa E, Aa E, trivial⟩ ?_
   ·refine ⟨by omega, by omega, h1, fun k hk hk2 h3 => ?_⟩
    by_cases e : k = ((i + j) / 2)
    ·subst e; exact c27 h3
    ·exact c27 (ltU_trans (hs.lt (show ((i + j) / 2) < k by omega) hk2) h3)
   ·first | omega | (simp only []; omega)
   ·exact sbt
 ·have hij : i = j := by omega
  subst hij
  have hlb := lbF_eq hj h1 h2
  refine B4 (A0 (A4 (A3 (Ae (Ag (Ab (y_ (Ac (T E)) (y_ (Ac (T E)) (y_ (Ac (T E)) (y_ (Bu (T E) (T E)) (y_ (Ac (T E)) ?_ E) E) E) E) E)))))))
  first | refine Bz (s := 35) (Aa E) (fun c35 => ?_) (fun c35 => ?_) | refine Cf (s := 35) (Aa E) (fun c35 => ?_) (fun c35 => ?_)
  ·refine Ax (Ac (T E)) E (Ao E E (Aa E)) (Ax (Ac (T E)) E (Ao E E (Aa E)) (Ax (Be (T E) (T E) runUnderlying25 sizeOf9 (by omega) (by first | exact rfl | exact hA.b (i := ((i + j) / 2)) (by omega) | exact hA.b (i := i) (by omega))) E (Ao E E (Aa E)) ?_))
   refine Ax (Ai (T E) isAgg9 (by first | exact c_o | exact cell1 ((hA.mono sbt).cs (i := i) (by omega)) | exact cell1 ((hA.mono sbt).cs (i := ((i + j) / 2)) (by omega)) | exact cell1 ((hA.mono sbt).cs (i := i) (by omega)))) E (Ao E E (Aa E)) ?_
   refine Ax (Ac (T E)) E (Ao E E (Aa E)) (Ax (yl_eqSD (T E) (T E)) E (Ao E E (Aa E)) (Ax (Ac (T E)) E (Ao E E (Aa E)) ?_))
   first | refine Bz (s := 42) (Aa E) (fun c42 => ?_) (fun c42 => ?_) | refine Cf (s := 42) (Aa E) (fun c42 => ?_) (fun c42 => ?_)
   ·refine Bm (Bm (Bm (Bm (Bm (Bm (n_u (n_u (Bm (Ax (Aq (T E) Aj) E (Ao E E (Aa E)) (y_ (Aq (T E) (T E)) (y_ (Ad (T E)) (y_ (Ad (T E)) (Af (Ae (Bh [(4, _), (5, _)] ⟨Aa E, Aa E, trivial⟩ (Ay (Az E (.tmp (Aa E) (.tmp (Aa E) .nil)) ?_))))) E) E) E)) E E E E) E E E E) E E E E) E E E E) E E E E) E E E E) E E E E) E E E E) E E E E
    rw [hlb]
    first | exact ⟨_, ⟨congrArg (fun b => Value.tuple #[.int .i64 (i : Int), .bool b]) (by symm; exact decide_eq_true ⟨by omega, c42⟩), rfl⟩, sbt⟩ | exact ⟨_, ⟨congrArg (fun b => Value.tuple #[.int .i64 (i : Int), .bool b]) (by symm; exact decide_eq_false fun h => c42 h.2), rfl⟩, sbt⟩ | exact ⟨_, ⟨congrArg (fun b => Value.tuple #[.int .i64 (i : Int), .bool b]) (by symm; exact decide_eq_false fun h => by omega), rfl⟩, sbt⟩
   ·refine Ax (Ac (T E)) E (Ao E E (Aa E)) (Ax (Ac (T E)) E (Ao E E (Aa E)) (Ax (Be (T E) (T E) runUnderlying25 sizeOf9 (by omega) (by first | exact rfl | exact hA.b (i := ((i + j) / 2)) (by omega) | exact hA.b (i := i) (by omega))) E (Ao E E (Aa E)) ?_))
    refine Ax (Ai (T E) isAgg9 (by first | exact c_o | exact cell1 ((hA.mono sbt).cs (i := ((i + j) / 2)) (by omega)) | exact cell1 ((hA.mono sbt).cs (i := i) (by omega)))) E (Ao E E (Aa E)) ?_
    refine Ax (Av (.cons (T E) .nil) call143 (fun H' hs => nan2_s _)) E (Ao E E (Aa E)) (Ax (Ac (T E)) E (Ao E E (Aa E)) (Bs (Bs (Ax (Au (T E) Aj) E (Ao E E (Aa E)) (Ax (Au (T E) (T E)) E (Ao E E (Aa E)) (y_ (Aq (T E) (T E)) (y_ (Ad (T E)) (y_ (Ad (T E)) (Af (Ae (Bh [(4, _), (5, _)] ⟨Aa E, Aa E, trivial⟩ (Ay (Az E (.tmp (Aa E) (.tmp (Aa E) .nil)) ?_))))) E) E) E))) E E E E) E E E E))
    rw [hlb]
    first | exact ⟨_, ⟨congrArg (fun b => Value.tuple #[.int .i64 (i : Int), .bool b]) (by symm; exact decide_eq_true ⟨by omega, c42⟩), rfl⟩, sbt⟩ | exact ⟨_, ⟨congrArg (fun b => Value.tuple #[.int .i64 (i : Int), .bool b]) (by symm; exact decide_eq_false fun h => c42 h.2), rfl⟩, sbt⟩ | exact ⟨_, ⟨congrArg (fun b => Value.tuple #[.int .i64 (i : Int), .bool b]) (by symm; exact decide_eq_false fun h => by omega), rfl⟩, sbt⟩
  ·refine Bs (Bs (Bs (Bs (Bs (Bs (Bs (n_u (n_u (n_u (n_u (n_u (n_u (n_u (n_u (n_u (Bs (y_ (Au (T E) Aj) (y_ (Ad (T E)) (y_ (Ad (T E)) (Af (Ae (Bh [(4, _), (5, _)] ⟨Aa E, Aa E, trivial⟩ (Ay (Az E (.tmp (Aa E) (.tmp (Aa E) .nil)) ?_))))) E) E) E) E E E E) E E E E) E E E E) E E E E) E E E E) E E E E) E E E E) E E E E) E E E E) E E E E) E E E E) E E E E) E E E E) E E E E) E E E E) E E E E) E E E E
   rw [hlb]
   first | exact ⟨_, ⟨congrArg (fun b => Value.tuple #[.int .i64 (i : Int), .bool b]) (by symm; exact decide_eq_true ⟨by omega, c42⟩), rfl⟩, sbt⟩ | exact ⟨_, ⟨congrArg (fun b => Value.tuple #[.int .i64 (i : Int), .bool b]) (by symm; exact decide_eq_false fun h => c42 h.2), rfl⟩, sbt⟩ | exact ⟨_, ⟨congrArg (fun b => Value.tuple #[.int .i64 (i : Int), .bool b]) (by symm; exact decide_eq_false fun h => by omega), rfl⟩, sbt⟩
end Go.Proofs.YtkdolgnpkjihpaaGreatDoor
namespace Go.Proofs.YtkdolgnpkjihpaaGreatDoor
open _root_.Go.Proofs.Tryz
open Go.RowKit
set_option linter.unusedVariables false
set_option linter.unusedSimpArgs false
theorem C6 (b o : Nat) (w : World) : (Instr.fieldAt 56 (.pointer (some ⟨b, o, none⟩)) 1).run Tryz.prog w = .ok (.pointer (some ⟨b, o + 1, none⟩)) w := by kernel_rfl
theorem fa58_0 (b o : Nat) (w : World) : (Instr.fieldAt 58 (.pointer (some ⟨b, o, none⟩)) 0).run Tryz.prog w = .ok (.pointer (some ⟨b, o, none⟩)) w := by kernel_rfl
theorem fa58_1 (b o : Nat) (w : World) : (Instr.fieldAt 58 (.pointer (some ⟨b, o, none⟩)) 1).run Tryz.prog w = .ok (.pointer (some ⟨b, o + 1, none⟩)) w := by kernel_rfl
theorem fa71_0 (b o : Nat) (w : World) : (Instr.fieldAt 71 (.pointer (some ⟨b, o, none⟩)) 0).run Tryz.prog w = .ok (.pointer (some ⟨b, o, none⟩)) w := by kernel_rfl
theorem fa71_1 (b o : Nat) (w : World) : (Instr.fieldAt 71 (.pointer (some ⟨b, o, none⟩)) 1).run Tryz.prog w = .ok (.pointer (some ⟨b, o + 1, none⟩)) w := by kernel_rfl
structure Ln where
 src : Nat
 dst : Nat
 cap : Int
instance : Inhabited Ln := ⟨⟨0, 0, 0⟩⟩
abbrev encLn (x : Ln) : List Value := [.int .i64 (x.src : Int), .int .i64 (x.dst : Int), .int .i64 x.cap]
structure Nn where
 nodes : List Nod
 links : List Ln
 edges : List Edg
 qn : Option Addr
 cn : Nat
 ql : Option Addr
 cl : Nat
 qe : Option Addr
 ce : Nat
abbrev encNn (n : Nn) : List Value := [.slice n.qn n.nodes.length n.cn, .slice n.ql n.links.length n.cl, .slice n.qe n.edges.length n.ce]
structure NetR (w0 : World) (H : List (Nat × Obj)) (n : Nn) : Prop where
 nodes : Arr w0 H n.qn 4 encN n.nodes
 links : Arr w0 H n.ql 3 encLn n.links
theorem NetR.mono {w0 : World} {H H' : List (Nat × Obj)} {n : Nn} (h : NetR w0 H n) (hs : H.Sublist H' := by exact sbt) : NetR w0 H' n := ⟨h.nodes.mono hs, h.links.mono hs⟩
structure NnOk (n : Nn) : Prop where
 fewN : n.nodes.length ≤ 12
 fewL : n.links.length ≤ 30
 ends : ∀ x ∈ n.links, x.src < n.nodes.length ∧ x.dst < n.nodes.length
structure Flr where
 q : Option Addr
 c : Nat
 links : List Int
 node : Int
abbrev encFl (f : Flr) : List Value := [.slice f.q f.links.length f.c, .int .i64 f.node]
def upF (n : Nn) (f : Flr) (l : Nat) : Bool := decide (¬ ((gd n.links l).src : Int) = f.node) && (decide (¬ ((gd n.links l).dst : Int) = f.node) && decide (¬ (l : Int) ∈ f.links))
def outK (n : Nn) (node : Nat) : Nat → List Nat
 | 0 => []
 | i + 1 => if (gd n.links i).src = node then outK n node i ++ [i] else outK n node i
theorem outK_succ (n : Nn) (node i : Nat) : outK n node (i + 1) = if (gd n.links i).src = node then outK n node i ++ [i] else outK n node i := rfl
def outF (n : Nn) (node : Nat) : List Nat := outK n node n.links.length
theorem mem_outK (n : Nn) (node x : Nat) : ∀ i, x ∈ outK n node i ↔ x < i ∧ (gd n.links x).src = node
 | 0 => by simp [outK]
 | i + 1 => by
  rw [outK_succ]
  have ih := mem_outK n node x i
  split
  ·rename_i h
   rw [List.mem_append, ih]
   constructor
   ·rintro (h1 | h1)
    ·exact ⟨by omega, h1.2⟩
    ·simp at h1; subst h1; exact ⟨by omega, h⟩
   ·rintro ⟨h1, h2⟩
    by_cases e : x = i
    ·subst e; exact .inr (by simp)
    ·exact .inl ⟨by omega, h2⟩
  ·rename_i h
   rw [ih]
   constructor
   ·rintro ⟨h1, h2⟩; exact ⟨by omega, h2⟩
   ·rintro ⟨h1, h2⟩
    by_cases e : x = i
    ·subst e; exact absurd h2 h
    ·exact ⟨by omega, h2⟩
theorem outK_len (n : Nn) (node : Nat) : ∀ i, (outK n node i).length ≤ i
 | 0 => Nat.le_refl _
 | i + 1 => by
  have := outK_len n node i
  rw [outK_succ]; split
  ·simp; omega
  ·omega
def wkF (n : Nn) : Int → List Int → Option Int
 | x, [] => some x
 | x, l :: ls => if 0 ≤ l ∧ l < n.links.length ∧ ((gd n.links l.toNat).src : Int) = x then wkF n ((gd n.links l.toNat).dst : Int) ls else none
theorem wkF_snoc (n : Nn) : ∀ (ls : List Int) (x l : Int), wkF n x (ls ++ [l]) = (wkF n x ls).bind fun y => if 0 ≤ l ∧ l < n.links.length ∧ ((gd n.links l.toNat).src : Int) = y then some ((gd n.links l.toNat).dst : Int) else none
 | [], x, l => by simp [wkF]
 | a :: ls, x, l => by
  rw [List.cons_append, wkF, wkF]
  split
  ·exact wkF_snoc n ls _ l
  ·rfl
theorem wkF_take (n : Nn) (x : Int) {ls : List Int} {i : Nat} (h : i < ls.length) : wkF n x (ls.take (i + 1)) = (wkF n x (ls.take i)).bind fun y => if 0 ≤ gd ls i ∧ gd ls i < n.links.length ∧ ((gd n.links (gd ls i).toNat).src : Int) = y then some ((gd n.links (gd ls i).toNat).dst : Int) else none := by
 rw [List.take_add_one, Dd h]; exact wkF_snoc n _ x _
theorem wkF_none (n : Nn) (x : Int) {ls : List Int} {i : Nat} (h : wkF n x (ls.take i) = none) : wkF n x ls = none := by
 have e : ls = ls.take i ++ ls.drop i := by simp
 rw [e]
 generalize ls.take i = a at *
 generalize ls.drop i = b at *
 clear e
 induction b generalizing a with
 | nil => simpa using h
 | cons c b ih =>
  rw [show a ++ c :: b = (a ++ [c]) ++ b by simp]
  exact ih (a ++ [c]) (by rw [wkF_snoc, h]; rfl)
theorem after_s {w0 : World} {H : List (Nat × Obj)} (m : Mc) (hm : McOk w0 H m) (hp : PMok m.pl) (hsr : Srt m.names) (hl : m.names.length ≤ 4611686018427387903) (st : Nat) (hst : st < m.rows.length) (s : ByteArray) :
  FSpec Tryz.prog w0 69 #[.agg (encMc m).toArray, .int .i64 (st : Int), .string s] H (Still (.int .i64 (afterF m.pl st s : Nat)) H) := by
 refine A9 Tryz.func69 E ntmps69 E ?_
 obtain ⟨hr1, hr2⟩ := pm_row hp hst
 have hle := lbF_le m.names s
 refine Ag (Ab (e_ (Ba (T E) cs_) ?_ E))
 rintro _ _ ⟨n3, rfl, rfl⟩
 refine y_ (Ad Aj) (Af (Ae (Ag (Ab (y_ (Bc (T E) Dl) (y_ (Ai (T E) isAgg25 (by first | exact c_o)) ?_ E) E))))) E
 refine y_ (Ac (T E)) (y_ (Av (.cons (T E) (.cons (T E) .nil)) call117 (fun H' hs => bs_s m.names _ _ s (hm.a1.mono (List.Sublist.trans sbt hs)) hsr hl)) (y_ (Ac (T E)) (y_ (Bf (T E) E) (y_ (Bf (T E) E) (y_ (Ad (T E)) (y_ (Ad (T E)) (Af (Ae (Ag (Ag (Ab (y_ (Ac (T E)) ?_ E)))))) E) E) E) E) E) E) E
 first | refine Ax (Ca (T E)) E Ah ?_ | refine Ax (Co (T E)) E Ah ?_
 refine Af (Ae ?_)
 first | refine Ar (Aa E) (fun c17 => ?_) (fun c17 => ?_) | refine A6 (Aa E) (fun c17 => ?_) (fun c17 => ?_)
 ·have hlt : lett m.names s = m.names.length := by unfold lett; rw [if_neg c17]
  refine Ab (y_ (Bc (T E) Dl) (y_ (Ai (T E) isAgg25 (by first | exact c_o)) ?_ E) E)
  refine y_ (Bp (T E) runUnderlying25) (y_ (Ad (T E)) (Af (Ae (Ag (Ab (y_ (Bi (T E) Cv) (y_ (Ai (T E) isAgg26 (by first | exact c_o)) ?_ E) E))))) E) E
  refine y_ (Ac (T E)) (y_ (Be (T E) (T E) runUnderlying26 sizeOf42 (by omega) (by first | exact rfl | exact hm.a2.b (i := st) hst | exact (hm.r (gd m.rows st) (Bg hst)).b (i := 0) (by omega))) ?_ E) E
  refine y_ (Ai (T E) isAgg42 (by first | exact c_o | exact cell1 ((hm.a2.mono sbt).cs (i := st) hst))) ?_ E
  refine y_ (Ac (T E)) (y_ (Be (T E) (T E) runUnderlying42 sizeOf3 (by omega) (by first | exact rfl | exact hm.a2.b (i := st) hst | exact (hm.r (gd m.rows st) (Bg hst)).b (i := 0) (by omega))) ?_ E) E
  refine y_ (Ai (T E) isAgg3 (by first | exact c_o | exact cell1 (((hm.r (gd m.rows st) (Bg hst)).mono sbt).cs (i := m.names.length) (by omega)) | exact cell1 (((hm.r (gd m.rows st) (Bg hst)).mono sbt).cs (i := k) (by omega)))) ?_ E
  refine y_ (Ad (T E)) (Af (Ae (Bh [(6, _)] ⟨Aa E, trivial⟩ (Ay (Az E (.tmp (Aa E) .nil) (⟨_, ⟨?_, rfl⟩, sbt⟩)))))) E
  show resOf [.int .i64 _] = .int .i64 ((nx m.pl st (lett m.names s) : Nat) : Int)
  rw [nx_pl, hlt]; rfl
 ·obtain ⟨k, hk⟩ : ∃ k, k = lbF m.names s := ⟨_, rfl⟩
  have hlt : lett m.names s = k := by unfold lett; rw [if_pos (Classical.not_not.1 c17), hk]
  simp only [← hk]
  refine A2 (Ae (Ag (Ab (y_ (Bi (T E) Cv) (y_ (Ai (T E) isAgg26 (by first | exact c_o)) ?_ E) E))))
  refine y_ (Ac (T E)) (y_ (Be (T E) (T E) runUnderlying26 sizeOf42 (by omega) (by first | exact rfl | exact hm.a2.b (i := st) hst | exact (hm.r (gd m.rows st) (Bg hst)).b (i := 0) (by omega))) ?_ E) E
  refine y_ (Ai (T E) isAgg42 (by first | exact c_o | exact cell1 ((hm.a2.mono sbt).cs (i := st) hst))) ?_ E
  refine y_ (Ac (T E)) (y_ (Be (T E) (T E) runUnderlying42 sizeOf3 (by omega) (by first | exact rfl | exact hm.a2.b (i := st) hst | exact (hm.r (gd m.rows st) (Bg hst)).b (i := 0) (by omega))) ?_ E) E
  refine y_ (Ai (T E) isAgg3 (by first | exact c_o | exact cell1 (((hm.r (gd m.rows st) (Bg hst)).mono sbt).cs (i := m.names.length) (by omega)) | exact cell1 (((hm.r (gd m.rows st) (Bg hst)).mono sbt).cs (i := k) (by omega)))) ?_ E
  refine y_ (Ad (T E)) (Af (Ae (Ay (Az E (.tmp (Aa E) .nil) (⟨_, ⟨?_, rfl⟩, sbt⟩))))) E
  show resOf [.int .i64 _] = .int .i64 ((nx m.pl st (lett m.names s) : Nat) : Int)
  rw [nx_pl, hlt]; rfl
theorem run_s {w0 : World} {H : List (Nat × Obj)} (m : Mc) (hm : McOk w0 H m) (hp : PMok m.pl) (hsr : Srt m.names) (hl : m.names.length ≤ 4611686018427387903) (l : List ByteArray) (q : Option Addr) (c : Nat) (hA : Arr w0 H q 1 encS l) (hlen : l.length ≤ 9223372036854775807) :
  FSpec Tryz.prog w0 21 #[.agg (encMc m).toArray, .slice q l.length c] H (Still (.int .i64 (runM m.pl l : Nat)) H) := by
 refine A9 Tryz.func21 E ntmps21 E (Ag (Ab (e_ (Ba (T E) cs_) ?_ E)))
 rintro _ _ ⟨n2, rfl, rfl⟩
 refine y_ (Ad Aj) (Af (Ae (Ag (Ab (y_ (Ad Aj) (Af (Ae (Ag (Ag (Ab (y_ (Ac (T E)) (y_ (Bp (T E) runUnderlying25) (y_ (Ac Aj) (Af (Ae (Aw ?_))) E) E) E)))))) E))))) E
 refine Cc (X := Nat) (V := fun i => [(10, .int .i64 (i : Nat)), (5, .int .i64 (runM m.pl (l.take i) : Nat))]) (C := [(2, _), (8, _), (9, _)]) (φ := fun i => i ≤ l.length) (μ := fun i => l.length - i) (x0 := 0) ?_ ⟨Aa E, Aa E, Aa E, trivial⟩ ⟨(by first | exact Aa E | (refine Ak (Aa E) (vint ?_); omega) | (refine Ak (Aa E) ?_; simp; done) | (refine Ak (Aa E) ?_; exact by rw [hrt])), (by first | exact Aa E | (refine Ak (Aa E) (vint ?_); omega) | (refine Ak (Aa E) ?_; simp; done) | (refine Ak (Aa E) ?_; exact by rw [hrt])), trivial⟩ ?_
 ·exact Nat.zero_le _
 rintro i hi
 refine Ag (Ab (y_ (Bu (T E) (T E)) (Af (Ae (Ag ?_))) E))
 first | refine Ar (Aa E) (fun c11 => ?_) (fun c11 => ?_) | refine A6 (Aa E) (fun c11 => ?_) (fun c11 => ?_)
 ·refine A2 (Ae (Ag (Aw (Ag (Ab (y_ (Be (T E) (T E) runUnderlying25 sizeOf9 (by omega) (by first | exact rfl | exact hA.b (i := i) (by omega))) ?_ E))))))
  refine y_ (Ai (T E) isAgg9 (by first | exact c_o | exact cell1 ((hA.mono sbt).cs (i := i) (by omega)))) ?_ E
  refine y_ (Ad (T E)) (Af (Ae (Ab (y_ (Am (T E) isAgg29 sizeOf29 E (by first | exact Bb | exact cell1 ((hA.mono sbt).cs (i := i) (by omega)))) ?_ E)))) E
  refine y_ (Ac (T E)) (y_ (Ac (T E)) (y_ (Av (.cons (T E) (.cons (T E) (.cons (T E) .nil))) call69 (fun H' hs => after_s m (hm.mono (List.Sublist.trans sbt hs)) hp hsr hl _ (by have := runM_lt hp (l.take i); rw [show m.pl.next.length = m.rows.length from List.length_map ..] at this; exact this) _)) ?_ E) E) E
  refine y_ (Ad (T E)) (Af (Bl (Ae (Ab (y_ (Bt (T E) Aj (by omega)) ?_ E))))) E
  refine y_ (Ac (T E)) (Af ?_) E
  have hrt := runM_take (m := m.pl) (l := l) (i := i) (by omega)
  refine Bn (i + 1) ?_ ?_ ⟨(by first | exact Aa E | (refine Ak (Aa E) (vint ?_); omega) | (refine Ak (Aa E) ?_; simp; done) | (refine Ak (Aa E) ?_; exact by rw [hrt])), (by first | exact Aa E | (refine Ak (Aa E) (vint ?_); omega) | (refine Ak (Aa E) ?_; simp; done) | (refine Ak (Aa E) ?_; exact by rw [hrt])), trivial⟩ ⟨Aa E, Aa E, Aa E, trivial⟩ ?_
  ·show i + 1 ≤ _; omega
  ·first | omega | (simp only []; omega)
  ·exact sbt
 ·refine B4 (A0 (A4 (A3 (Ae (Ag (Ab (y_ (Ac (T E)) (y_ (Ad (T E)) (Af (Ae (Ay (Az E (.tmp (Aa E) .nil) ?_)))) E) E)))))))
  have hi2 : i = l.length := by omega
  rw [hi2, List.take_length]
  exact ⟨_, ⟨rfl, rfl⟩, sbt⟩
theorem other_s {w0 : World} {H : List (Nat × Obj)} (names : List ByteArray) (q : Option Addr) (c : Nat) (hA : Arr w0 H q 1 encS names) (hlen : names.length ≤ 90) :
  FSpec Tryz.prog w0 19 #[.slice q names.length c] H (Still (.string (otherF names)) H) := by
 refine A9 Tryz.func19 E ntmps19 E (Ag (Ab (y_ (Ad Aj) (Af (Ae (Ag (Ab (y_ (Ad Aj) (Af (Ae (Ag (Ag (Ab (y_ (Ad Aj) (Af (Ae (Aw ?_))) E)))))) E))))) E)))
 refine Cc (X := Nat) (V := fun k => [(3, .string (othK k)), (4, .int .i64 (k + 1 : Nat))]) (C := [(0, _)]) (φ := fun k => k ≤ 90 ∧ ∀ j, j < k → toL (othK j) ∈ names.map toL) (μ := fun k => 91 - k) (x0 := 0) ?_ ⟨Aa E, trivial⟩ ⟨(by first | exact Aa E | (refine Ak (Aa E) (vint ?_); omega) | (refine Ak (Aa E) ?_; simp; done)), (by first | exact Aa E | (refine Ak (Aa E) (vint ?_); omega) | (refine Ak (Aa E) ?_; simp; done)), trivial⟩ ?_
 ·exact ⟨Nat.zero_le _, fun j hj => absurd hj (Nat.not_lt_zero _)⟩
 rintro k ⟨hk, hin⟩
 refine Ag (Ag (Ab (y_ (Ac (T E)) (y_ (Ac (T E)) (y_ (Av (.cons (T E) (.cons (T E) .nil)) call67 (fun H' hs => hasS_s names q c _ (hA.mono (List.Sublist.trans sbt hs)) (by omega))) ?_ E) E) E)))
 refine Af (Ae ?_)
 first | refine Ar (Aa E) (fun c7 => ?_) (fun c7 => ?_) | refine A6 (Aa E) (fun c7 => ?_) (fun c7 => ?_)
 ·have hy : ∀ j, j < k + 1 → toL (othK j) ∈ names.map toL := fun j hj => by
   by_cases e : j = k
   ·subst e; exact c7
   ·exact hin j (by omega)
  have hkf := oth_few (k := k + 1) (by omega) hy
  refine A2 (Ae (Ag (Aw (Ab (y_ (Ac (T E)) (y_ (Av (.cons (T E) .nil) call68 (fun H' hs => itoa_s (k + 1) (by have := oth_few (k := k + 1) (by omega) hy; omega))) ?_ E) E)))))
  refine y_ (yl_catS Aj (T E) (by have := itoa_size ⟨k + 1, by omega⟩; simp only [] at this; show 5 + _ ≤ _; omega)) ?_ E
  refine y_ (Ad (T E)) (Af (Bl (Ae (Ab (y_ (Ac (T E)) (y_ (Bt (T E) Aj (by omega)) ?_ E) E))))) E
  refine y_ (Ad (T E)) (Af ?_) E
  refine Bn (k + 1) ?_ ?_ ⟨(by first | exact Aa E | (refine Ak (Aa E) (vint ?_); omega) | (refine Ak (Aa E) ?_; simp; done)), (by first | exact Aa E | (refine Ak (Aa E) (vint ?_); omega) | (refine Ak (Aa E) ?_; simp; done)), trivial⟩ ⟨Aa E, trivial⟩ ?_
  ·exact ⟨by omega, hy⟩
  ·first | omega | (simp only []; omega)
  ·exact sbt
 ·have hoth : otherF names = othK k := by
   unfold otherF othN
   rw [fs_some (k := k) (x := k) (by omega) (if_neg c7) (fun j hj => if_pos (hin j hj))]; rfl
  refine B4 (A0 (A4 (A3 (Ae (Ag (Ab (y_ (Ac (T E)) (y_ (Ad (T E)) (Af (Ae (Ay (Az E (.tmp (Aa E) .nil) ?_)))) E) E)))))))
  exact ⟨_, ⟨by rw [hoth]; rfl, rfl⟩, sbt⟩
theorem idxI_s {w0 : World} {H : List (Nat × Obj)} (l : List Int) (q : Option Addr) (c : Nat) (s : Int) (hA : Arr w0 H q 1 encI l) (hlen : l.length ≤ 4611686018427387903) :
  FSpec Tryz.prog w0 134 #[.slice q l.length c, .int .i64 s] H ((fun v H' => (∃ i : Int, v = .int .i64 i ∧ (0 ≤ i ↔ s ∈ l)) ∧ H' = H)) := by
 refine A9 Tryz.func134 E ntmps134 E (Ag (Ab (y_ (Ad Aj) (Af (Ae (Ag (Ag (Ab (y_ (Ac (T E)) (y_ (Bp (T E) runUnderlying42) (y_ (Ac Aj) (Af (Ae (Aw ?_))) E) E) E)))))) E)))
 refine Cc (X := Nat) (V := fun i => [(8, .int .i64 (i : Nat))]) (C := [(0, _), (1, _), (7, _)]) (φ := fun i => i ≤ l.length ∧ ∀ j, j < i → ¬ s = gd l j) (μ := fun i => l.length - i) (x0 := 0) ?_ ⟨Aa E, Aa E, Aa E, trivial⟩ ⟨(by first | exact Aa E | (refine Ak (Aa E) (vint ?_); omega) | (refine Ak (Aa E) ?_; simp; done)), trivial⟩ ?_
 ·exact ⟨Nat.zero_le _, fun j hj => absurd hj (Nat.not_lt_zero _)⟩
 rintro i ⟨hi, hno⟩
 refine Ag (Ab (y_ (Bu (T E) (T E)) (Af (Ae (Ag ?_))) E))
 first | refine Ar (Aa E) (fun c9 => ?_) (fun c9 => ?_) | refine A6 (Aa E) (fun c9 => ?_) (fun c9 => ?_)
 ·refine A2 (Ae (Ag (Aw (Ag (Ab (y_ (Ac (T E)) (y_ (Ad (T E)) (Af (Ae (Ag (Ab (y_ (Ac (T E)) (y_ (Ac (T E)) (y_ (Ac (T E)) (y_ (Be (T E) (T E) runUnderlying42 sizeOf3 (by omega) (by first | exact rfl | exact hA.b (i := i) (by omega))) ?_ E) E) E) E))))) E) E))))))
  refine y_ (Ai (T E) isAgg3 (by first | exact c_o | exact cell1 ((hA.mono sbt).cs (i := i) (by omega)))) ?_ E
  refine y_ (B2 (T E) (T E)) (Af (Ae ?_)) E
  first | refine Ar (Aa E) (fun c16 => ?_) (fun c16 => ?_) | refine A6 (Aa E) (fun c16 => ?_) (fun c16 => ?_)
  ·refine Ag (Ab (y_ (Ac (T E)) (y_ (Ad (T E)) (Af (Ae (Ay (An (Al (Bo (An (Al (Az E (.tmp (Aa E) .nil) ?_))))))))) E) E))
   exact ⟨_, ⟨⟨_, rfl, fun _ => by rw [c16]; exact Bg (by omega), fun _ => by omega⟩, rfl⟩, sbt⟩
  ·refine A2 (Bl (Ae (Ab (y_ (Bt (T E) Aj (by omega)) ?_ E))))
   refine y_ (Ac (T E)) (Af ?_) E
   refine Bn (i + 1) ?_ ?_ ⟨(by first | exact Aa E | (refine Ak (Aa E) (vint ?_); omega) | (refine Ak (Aa E) ?_; simp; done)), trivial⟩ ⟨Aa E, Aa E, Aa E, trivial⟩ ?_
   ·refine ⟨by omega, fun j hj => ?_⟩
    by_cases e : j = i
    ·subst e; exact c16
    ·exact hno j (by omega)
   ·first | omega | (simp only []; omega)
   ·exact sbt
 ·refine B4 (A0 (A4 (A3 (Ae (Ag (Ab (y_ (Ad Aj) (Af (Ae (Ay (Az E (.tmp (Aa E) .nil) (⟨_, ⟨⟨-1, rfl, fun h => absurd h (by decide), fun h => ?_⟩, rfl⟩, sbt⟩))))) E)))))))
  obtain ⟨j, hj, e⟩ := List.getElem_of_mem h
  exact absurd (by rw [Bv hj]; exact e.symm) (hno j (by omega))
theorem hasI_s {w0 : World} {H : List (Nat × Obj)} (l : List Int) (q : Option Addr) (c : Nat) (s : Int) (hA : Arr w0 H q 1 encI l) (hlen : l.length ≤ 4611686018427387903) :
  FSpec Tryz.prog w0 96 #[.slice q l.length c, .int .i64 s] H (Still (.bool (decide (s ∈ l))) H) := by
 refine A9 Tryz.func96 E ntmps96 E (Ag (Ab (y_ (Ad Aj) (Af (Ae (Ag (Ab (y_ (Ac (T E)) (y_ (Ac (T E)) (e_ (A1 (.cons (T E) (.cons (T E) .nil)) call134 (idxI_s l q c s hA hlen)) ?_ E) E) E))))) E)))
 rintro _ _ ⟨⟨i, rfl, hi⟩, rfl⟩
 refine y_ (C2 (T E) Aj) (y_ (Ad (T E)) (Af (Ae (Ay (Az E (.tmp (Aa E) .nil) ?_)))) E) E
 exact ⟨_, ⟨vbool (decide_eq_decide.2 hi), rfl⟩, sbt⟩
theorem gup_s {w0 : World} {H : List (Nat × Obj)} (n : Nn) (hn : NetR w0 H n) (f : Flr) (hf : Arr w0 H f.q 1 encI f.links) (hfl : f.links.length ≤ 4611686018427387903) (l : Nat) (hl : l < n.links.length) :
  FSpec Tryz.prog w0 39 #[.agg (encNn n).toArray, .agg (encFl f).toArray, .int .i64 (l : Int)] H (Still (.bool (upF n f l)) H) := by
 refine A9 Tryz.func39 E ntmps39 E (Ag (Ab (e_ (Ba (T E) cs_) ?_ E)))
 rintro _ _ ⟨n3, rfl, rfl⟩
 refine e_ (Ba (T E) cs_) ?_ E
 rintro _ _ ⟨n4, rfl, rfl⟩
 refine y_ (Ad Aj) (Af (Ae (Ag (Ab (y_ (Bi (T E) C6) (y_ (Ai (T E) isAgg53 (by first | exact c_o)) ?_ E) E))))) E
 refine y_ (Ac (T E)) (y_ (Be (T E) (T E) runUnderlying53 sizeOf71 (by omega) (by first | exact rfl | exact hn.links.b (i := l) hl)) ?_ E) E
 refine y_ (Am (T E) isAgg71 sizeOf71 E (by first | exact (hn.links.mono sbt).cs (i := l) hl | exact Bb)) ?_ E
 refine e_ (A5 zeroValue71 cs_) ?_ E
 rintro _ _ ⟨n7, rfl, rfl⟩
 first | refine Bk (A7 (T E) (T E) sizeOf71) E Ah ?_
 rintro _ _ ⟨rfl, rfl⟩
 refine Af (Ae (Ag (Ab (y_ (Bc (T E) fa71_0) (y_ (Ai (T E) isAgg3 (by first | exact c_o)) ?_ E) E))))
 refine y_ (Bi (T E) fa58_1) (y_ (Ai (T E) isAgg3 (by first | exact c_o)) ?_ E) E
 refine y_ (Cu (T E) (T E)) (y_ (Ac (T E)) ?_ E) E
 first | refine Bz (s := 18) (Aa E) (fun c18 => ?_) (fun c18 => ?_) | refine Cf (s := 18) (Aa E) (fun c18 => ?_) (fun c18 => ?_)
 ·refine Ax (Bi (T E) fa71_1) E (Ao E E (Aa E)) (Ax (Ai (T E) isAgg3 (by first | exact c_o)) E (Ao E E (Aa E)) ?_)
  refine Ax (Bi (T E) fa58_1) E (Ao E E (Aa E)) (Ax (Ai (T E) isAgg3 (by first | exact c_o)) E (Ao E E (Aa E)) ?_)
  refine Ax (Cu (T E) (T E)) E (Ao E E (Aa E)) (y_ (Aq (T E) (T E)) (y_ (Ac (T E)) ?_ E) E)
  first | refine Bz (s := 25) (Aa E) (fun c25 => ?_) (fun c25 => ?_) | refine Cf (s := 25) (Aa E) (fun c25 => ?_) (fun c25 => ?_)
  ·refine Ax (Bc (T E) fa58_0) E (Ao E E (Aa E)) (Ax (Ai (T E) isAgg42 (by first | exact c_o)) E (Ao E E (Aa E)) ?_)
   refine Ax (Ac (T E)) E (Ao E E (Aa E)) (Ax (Av (.cons (T E) (.cons (T E) .nil)) call96 (fun H' hs => hasI_s f.links f.q f.c (l : Int) (hf.mono (List.Sublist.trans sbt hs)) hfl)) E (Ao E E (Aa E)) ?_)
   first | refine Ax (Ca (T E)) E (Ao E E (Aa E)) ?_ | refine Ax (Co (T E)) E (Ao E E (Aa E)) ?_
   refine y_ (Aq (T E) (T E)) (y_ (Ad (T E)) (Af (Ae (Bh [(6, _)] ⟨Aa E, trivial⟩ (Ay (Az E (.tmp (Aa E) .nil) (⟨_, ⟨vbool ?_, rfl⟩, sbt⟩)))))) E) E
   unfold upF
   first | (rw [decide_eq_true c18, decide_eq_true c25]; rfl) | (rw [decide_eq_true c18, decide_eq_false c25]; rfl) | (rw [decide_eq_false c18]; rfl)
  ·refine Bs (Bs (Bs (Bs (Bs (y_ (Au (T E) Aj) (y_ (Ad (T E)) (Af (Ae (Bh [(6, _)] ⟨Aa E, trivial⟩ (Ay (Az E (.tmp (Aa E) .nil) (⟨_, ⟨vbool ?_, rfl⟩, sbt⟩)))))) E) E) E E E E) E E E E) E E E E) E E E E) E E E E
   unfold upF
   first | (rw [decide_eq_true c18, decide_eq_true c25]; rfl) | (rw [decide_eq_true c18, decide_eq_false c25]; rfl) | (rw [decide_eq_false c18]; rfl)
 ·refine Bs (Bs (Bs (Bs (Bs (y_ (Au (T E) Aj) (y_ (Ac (T E)) (Bs (Bs (Bs (Bs (Bs (y_ (Au (T E) Aj) (y_ (Ad (T E)) (Af (Ae (Bh [(6, _)] ⟨Aa E, trivial⟩ (Ay (Az E (.tmp (Aa E) .nil) (⟨_, ⟨vbool ?_, rfl⟩, sbt⟩)))))) E) E) E E E E) E E E E) E E E E) E E E E) E E E E) E) E) E E E E) E E E E) E E E E) E E E E) E E E E
  unfold upF
  first | (rw [decide_eq_true c18, decide_eq_true c25]; rfl) | (rw [decide_eq_true c18, decide_eq_false c25]; rfl) | (rw [decide_eq_false c18]; rfl)
theorem out1_s {w0 : World} {H : List (Nat × Obj)} (x : Ln) (node n3 : Nat) (h3 : Fnd H n3 (Cl [.int .i64 (node : Int)] 3)) :
  FSpec Tryz.prog w0 146 #[.agg (encLn x).toArray, .pointer (some ⟨n3, 0, none⟩)] H (Still (.bool (decide (x.src = node))) H) := by
 refine A9 Tryz.func146 E ntmps146 E (Ag (Ab (e_ (Ba (T E) cs_) ?_ E)))
 rintro _ _ ⟨n2, rfl, rfl⟩
 refine y_ (Ad Aj) (Af (Ae (Ag (Ab (y_ (Bc (T E) fa71_0) (y_ (Ai (T E) isAgg3 (by first | exact c_o | exact c_o (hf := As h3))) ?_ E) E))))) E
 refine y_ (Ai (T E) isAgg3 (by first | exact c_o | exact c_o (hf := As h3))) ?_ E
 refine y_ (B2 (T E) (T E)) (y_ (Ad (T E)) (Af (Ae (Ay (Az E (.tmp (Aa E) .nil) ?_)))) E) E
 exact ⟨_, ⟨vbool (decide_eq_decide.2 (by omega)), rfl⟩, sbt⟩
theorem links_s {w0 : World} {H : List (Nat × Obj)} (n : Nn) (hn : NetR w0 H n) (hok : NnOk n) (node n3 : Nat) (h3 : Fnd H n3 (Cl [.int .i64 (node : Int)] 3)) :
  FSpec Tryz.prog w0 145 #[.agg (encNn n).toArray, .func (.func 146) #[] #[.pointer (some ⟨n3, 0, none⟩)]] H (fun v H' => ∃ d, (v = slV d (outF n node).length ∧ SlOk d (outF n node).length 1) ∧ H' = slH d ((outF n node).flatMap encU) 3 ++ H) := by
 refine A9 Tryz.func145 E ntmps145 E ?_
 have hfl := hok.fewL
 refine Ag (Ab (e_ (Ba (T E) cs_) ?_ E))
 rintro _ _ ⟨n2, rfl, rfl⟩
 refine y_ (Ad Aj) (Af (Ae (Ag (Ab (y_ (Ad Aj) (Af (Ae (Ag (Ag (Ab (y_ (Bi (T E) C6) (y_ (Ai (T E) isAgg53 (by first | exact c_o)) ?_ E) E)))))) E))))) E
 refine y_ (Bp (T E) runUnderlying53) (y_ (Ac Aj) (Af (Ae (Aw ?_))) E) E
 refine Cm (X := Nat × Sl) (V := fun ⟨i, d⟩ => [(11, .int .i64 (i : Nat)), (5, slV d (outK n node i).length)]) (C := [(1, _), (9, _), (10, _)]) (G := fun ⟨i, d⟩ => slH d ((outK n node i).flatMap encU) 3 ++ ((n2, Cl (encNn n) 56) :: H)) (φ := fun ⟨i, d⟩ => i ≤ n.links.length ∧ SlOk d (outK n node i).length 1) (μ := fun ⟨i, d⟩ => n.links.length - i) (x0 := (0, .nil)) ?_ ⟨Aa rfl, Aa rfl, Aa rfl, trivial⟩ ⟨(by first | exact Aa rfl | (refine Ak (Aa rfl) (vint ?_); omega) | (refine Ak (Aa rfl) ?_; simp; done) | (refine Ak (Aa rfl) ?_; exact by simp only [hrow, List.length_append, List.length_cons, List.length_nil])), (by first | exact Aa rfl | (refine Ak (Aa rfl) (vint ?_); omega) | (refine Ak (Aa rfl) ?_; simp; done) | (refine Ak (Aa rfl) ?_; exact by simp only [hrow, List.length_append, List.length_cons, List.length_nil])), trivial⟩ sb0 ?_
 ·exact ⟨Nat.zero_le _, rfl⟩
 rintro ⟨i, d⟩ ⟨hi, hd⟩
 refine Ag (Ab (y_ (Bu (T E) (T E)) (Af (Ae (Ag ?_))) E))
 first | refine Ar (Aa E) (fun c12 => ?_) (fun c12 => ?_) | refine A6 (Aa E) (fun c12 => ?_) (fun c12 => ?_)
 ·refine A2 (Ae (Ag (Aw (Ag (Ab (y_ (Ac (T E)) (y_ (Be (T E) (T E) runUnderlying53 sizeOf71 (by omega) (by first | exact rfl | exact hn.links.b (i := i) (by omega))) ?_ E) E))))))
  refine y_ (Am (T E) isAgg71 sizeOf71 E (by first | exact (hn.links.mono sbt).cs (i := i) (by omega) | exact Bb)) ?_ E
  refine e_ (A5 zeroValue71 cs_) ?_ E
  rintro _ _ ⟨n7, rfl, rfl⟩
  refine y_ (Ad (T E)) ?_ E
  first | refine Bk (A7 (T E) (T E) sizeOf71) E Ah ?_
  rintro _ _ ⟨rfl, rfl⟩
  refine Af (Ae (Ag (Ab (y_ (Ac (T E)) (y_ (Am (T E) isAgg71 sizeOf71 E (by first | exact Bb)) ?_ E) E))))
  refine y_ (yl_callV (T E) (.cons (T E) .nil) call146 (fun H' hs => out1_s (gd n.links i) node n3 (h3.mono (List.Sublist.trans sbt hs)))) (Af (Ae ?_)) E
  first | refine Ar (Aa E) (fun c18 => ?_) (fun c18 => ?_) | refine A6 (Aa E) (fun c18 => ?_) (fun c18 => ?_)
  ·have hrow : outK n node (i + 1) = outK n node i ++ [i] := by rw [outK_succ, if_pos c18]
   refine Ab (y_ (Ac (T E)) (y_ (Ac (T E)) (e_ (Ap (.cons (T E) .nil) (Cw _)) ?_ E) E) E)
   rintro _ _ ⟨n21, rfl, rfl⟩
   refine e_ (B0 (i) (by' := 8) (by repeat (first | exact LocL.h | apply LocL.t | apply LocL.a)) (T E) (T E) runUnderlying42 runUnderlying42 sizeOf3 typeInfo3 E zeroValue3 E (fun _ => rfl) E hd (by decide) (by have := outK_len n node i; omega)) ?_ E
   rintro _ _ ⟨d', rfl, hokd, rfl⟩
   refine y_ (Ad (T E)) (Af (Bl (Ae (Ab (y_ (Bt (T E) Aj (by omega)) ?_ E))))) E
   refine y_ (Ac (T E)) (Af ?_) E
   refine Bn ((i + 1, d')) ?_ ?_ ⟨(by first | exact Aa E | (refine Ak (Aa E) (vint ?_); omega) | (refine Ak (Aa E) ?_; simp; done) | (refine Ak (Aa E) ?_; exact by simp only [hrow, List.length_append, List.length_cons, List.length_nil])), (by first | exact Aa E | (refine Ak (Aa E) (vint ?_); omega) | (refine Ak (Aa E) ?_; simp; done) | (refine Ak (Aa E) ?_; exact by simp only [hrow, List.length_append, List.length_cons, List.length_nil])), trivial⟩ ⟨Aa E, Aa E, Aa E, trivial⟩ ?_
   ·exact ⟨by omega, by rw [hrow, List.length_append]; exact hokd⟩
   ·first | omega | (simp only []; omega)
   ·simp only [hrow]; exact sbt
  ·have hrow : outK n node (i + 1) = outK n node i := by rw [outK_succ, if_neg c18]
   refine A2 (Bl (Ae (Ab (y_ (Bt (T E) Aj (by omega)) ?_ E))))
   refine y_ (Ac (T E)) (Af ?_) E
   refine Bn ((i + 1, d)) ?_ ?_ ⟨(by first | exact Aa E | (refine Ak (Aa E) (vint ?_); omega) | (refine Ak (Aa E) ?_; simp; done) | (refine Ak (Aa E) ?_; exact by simp only [hrow, List.length_append, List.length_cons, List.length_nil])), (by first | exact Aa E | (refine Ak (Aa E) (vint ?_); omega) | (refine Ak (Aa E) ?_; simp; done) | (refine Ak (Aa E) ?_; exact by simp only [hrow, List.length_append, List.length_cons, List.length_nil])), trivial⟩ ⟨Aa E, Aa E, Aa E, trivial⟩ ?_
   ·exact ⟨by omega, by rw [hrow]; exact hd⟩
   ·first | omega | (simp only []; omega)
   ·simp only [hrow]; exact sbt
 ·refine B4 (A0 (A4 (A3 (Ae (Ag (Ab (y_ (Ac (T E)) (y_ (Ad (T E)) (Af (Ae (Ay (Az E (.tmp (Aa E) .nil) ?_)))) E) E)))))))
  have hi2 : i = n.links.length := by omega
  rw [hi2] at hd ⊢
  exact ⟨_, ⟨d, ⟨rfl, hd⟩, rfl⟩, sbt⟩
theorem gout_s {w0 : World} {H : List (Nat × Obj)} (n : Nn) (hn : NetR w0 H n) (hok : NnOk n) (node : Nat) :
  FSpec Tryz.prog w0 128 #[.agg (encNn n).toArray, .int .i64 (node : Int)] H (fun v H' => ∃ d, (v = slV d (outF n node).length ∧ SlOk d (outF n node).length 1) ∧ H' = slH d ((outF n node).flatMap encU) 3 ++ H) := by
 refine A9 Tryz.func128 E ntmps128 E (Ag (Ab (e_ (Ba (T E) cs_) ?_ E)))
 rintro _ _ ⟨n2, rfl, rfl⟩
 refine e_ (Ba (T E) cs_) ?_ E
 rintro _ _ ⟨n3, rfl, rfl⟩
 refine y_ (Ad Aj) (Af (Ae (Ag (Ab (y_ (Am (T E) isAgg56 sizeOf56 E (by first | exact Bb)) ?_ E))))) E
 refine y_ (Cj (.cons (T E) .nil)) ?_ E
 refine e_ (A1 (.cons (T E) (.cons (T E) .nil)) call145 (links_s n (hn.mono sbt) hok node n3 (by repeat (first | exact By | refine As ?_ | refine Bd ?_)))) ?_ E
 rintro _ _ ⟨d, ⟨rfl, hd⟩, rfl⟩
 refine y_ (Ad (T E)) (Af (Ae (Ay (Az E (.tmp (Aa E) .nil) ?_)))) E
 exact ⟨_, ⟨d, ⟨rfl, hd⟩, rfl⟩, sbt⟩
end Go.Proofs.YtkdolgnpkjihpaaGreatDoor
namespace Go.Proofs.YtkdolgnpkjihpaaGreatDoor
open _root_.Go.Proofs.Tryz
set_option linter.unusedVariables false
set_option linter.unusedSimpArgs false
set_option linter.unusedSectionVars false
abbrev Pl := Nat × Nat
structure BS (σ : Type) where
 l : List Pl
 w : List (Int × σ)
section
variable {σ : Type} [Inhabited σ]
def visF (k : Nat) (st : BS σ) (x : Pl × σ) : BS σ := if x.1 ∈ st.l then st else ⟨st.l ++ [x.1], st.w ++ [((k : Int), x.2)]⟩
def visAll (k : Nat) (st : BS σ) (ts : List (Pl × σ)) : BS σ := ts.foldl (visF k) st
theorem visAll_take (k : Nat) (st : BS σ) {ts : List (Pl × σ)} {j : Nat} {x : Pl × σ} (h : ts[j]? = some x) : visAll k st (ts.take (j + 1)) = visF k (visAll k st (ts.take j)) x := by
 unfold visAll; rw [List.take_add_one, h, List.foldl_append]; rfl
def goF (ts : Pl → List (Pl × σ)) (fnd : Pl → Bool) : Nat → Nat → BS σ → Option Nat × BS σ
 | 0, _, st => (none, st)
 | f + 1, k, st => if k < st.l.length then (if fnd (gd st.l k) then (some k, st) else goF ts fnd f (k + 1) (visAll k st (ts (gd st.l k)))) else (none, st)
theorem Da (ts : Pl → List (Pl × σ)) (fnd : Pl → Bool) (f k : Nat) (st : BS σ) : goF ts fnd (f + 1) k st = if k < st.l.length then (if fnd (gd st.l k) then (some k, st) else goF ts fnd f (k + 1) (visAll k st (ts (gd st.l k)))) else (none, st) := rfl
def backF (w : List (Int × σ)) : Nat → Nat → List σ
 | 0, _ => []
 | f + 1, i => if 0 ≤ (gd w i).1 then (gd w i).2 :: backF w f (gd w i).1.toNat else []
theorem backF_succ (w : List (Int × σ)) (f i : Nat) : backF w (f + 1) i = if 0 ≤ (gd w i).1 then (gd w i).2 :: backF w f (gd w i).1.toNat else [] := rfl
structure BSok (Pd : Pl → Prop) (k : Nat) (st : BS σ) : Prop where
 nd : st.l.Nodup
 ok : ∀ p ∈ st.l, Pd p
 len : st.w.length = st.l.length
 back : ∀ i, i < st.w.length → -1 ≤ (gd st.w i).1 ∧ (gd st.w i).1 < i
 kl : k ≤ st.l.length
theorem Cp {α : Type} [Inhabited α] {l l' : List α} {i : Nat} (h : i < l.length) : gd (l ++ l') i = gd l i := by
 rw [Bv (by simp; omega), List.getElem_append_left h, ← Bv h]
theorem C0 {α : Type} [Inhabited α] {l : List α} {x : α} : gd (l ++ [x]) l.length = x := by
 rw [Bv (by simp)]; simp
theorem BSok.vis {Pd : Pl → Prop} {k k' : Nat} {st : BS σ} (h : BSok Pd k st) (hk : k' < st.l.length) {x : Pl × σ} (hx : Pd x.1) : BSok Pd k (visF k' st x) ∧ st.l.length ≤ (visF k' st x).l.length ∧ (visF k' st x).l.length ≤ st.l.length + 1 := by
 unfold visF; split
 ·exact ⟨h, Nat.le_refl _, by omega⟩
 ·rename_i hn
  refine ⟨⟨?_, ?_, by simp [h.len], ?_, by have := h.kl; simp; omega⟩, by simp, by simp⟩
  ·rw [List.nodup_append]
   exact ⟨h.nd, by simp, fun a ha b hb => by simp at hb; subst hb; rintro rfl; exact hn ha⟩
  ·intro p hp
   simp only [List.mem_append, List.mem_cons, List.not_mem_nil, or_false] at hp
   rcases hp with hp | rfl
   ·exact h.ok p hp
   ·exact hx
  ·intro i hi
   simp only [List.length_append, List.length_cons, List.length_nil] at hi
   by_cases e : i < st.w.length
   ·rw [Cp e]; exact h.back i e
   ·have e2 : i = st.w.length := by omega
    subst e2
    rw [C0]
    have := h.len
    simp only []
    omega
theorem BSok.visAll {Pd : Pl → Prop} {k k' : Nat} : ∀ (ts : List (Pl × σ)) {st : BS σ}, BSok Pd k st → k' < st.l.length → (∀ x ∈ ts, Pd x.1) → BSok Pd k (visAll k' st ts) ∧ st.l.length ≤ (visAll k' st ts).l.length
 | [], st, h, hk, _ => ⟨h, Nat.le_refl _⟩
 | x :: ts, st, h, hk, ht => by
  obtain ⟨h1, h2, _⟩ := h.vis hk (ht x (by simp))
  obtain ⟨h3, h4⟩ := BSok.visAll (k' := k') ts h1 (by omega) (fun y hy => ht y (by simp [hy]))
  exact ⟨h3, Nat.le_trans h2 h4⟩
theorem visF_get {k : Nat} {st : BS σ} {x : Pl × σ} {i : Nat} (h : i < st.l.length) : gd (visF k st x).l i = gd st.l i := by
 unfold visF; split
 ·rfl
 ·exact Cp h
theorem visAll_get {k : Nat} {i : Nat} : ∀ (ts : List (Pl × σ)) {st : BS σ}, i < st.l.length → gd (visAll k st ts).l i = gd st.l i ∧ st.l.length ≤ (visAll k st ts).l.length
 | [], st, h => ⟨rfl, Nat.le_refl _⟩
 | x :: ts, st, h => by
  have hl : st.l.length ≤ (visF k st x).l.length := by unfold visF; split <;> simp
  obtain ⟨h1, h2⟩ := visAll_get ts (st := visF k st x) (i := i) (by omega)
  exact ⟨by show gd (visAll k (visF k st x) ts).l i = _; rw [h1, visF_get h], Nat.le_trans hl h2⟩
end
theorem grid_few {A B : Nat} {l : List Pl} (h : l.Nodup) (hl : ∀ p ∈ l, p.1 < A ∧ p.2 < B) : l.length ≤ A * B := by
 have h1 : (l.map fun p => p.1 * B + p.2).Nodup := by
  rw [List.Nodup, List.pairwise_map]
  refine List.Pairwise.imp_of_mem ?_ h
  intro a b ha hb hab e
  obtain ⟨_, ha2⟩ := hl a ha
  obtain ⟨_, hb2⟩ := hl b hb
  have hB : 0 < B := by omega
  have e1 : a.1 = b.1 := by
   have h1 : (a.1 * B + a.2) / B = a.1 := by rw [Nat.mul_comm, Nat.mul_add_div hB, Nat.div_eq_of_lt ha2]; rfl
   have h2 : (b.1 * B + b.2) / B = b.1 := by rw [Nat.mul_comm, Nat.mul_add_div hB, Nat.div_eq_of_lt hb2]; rfl
   rw [← h1, ← h2, e]
  have e2 : a.2 = b.2 := by rw [e1] at e; omega
  exact hab (Prod.ext e1 e2)
 have := nodup_le h1 (l' := List.range (A * B)) fun x hx => by
  simp only [List.mem_map] at hx
  obtain ⟨p, hp, rfl⟩ := hx
  obtain ⟨h2, h3⟩ := hl p hp
  rw [List.mem_range]
  calc p.1 * B + p.2 < p.1 * B + B := by omega
   _ = (p.1 + 1) * B := by rw [Nat.succ_mul]
   _ ≤ A * B := Nat.mul_le_mul_right _ h2
 simpa using this
def trueM (l : List Pl) : List (Pl × Bool) := l.map fun p => (p, true)
theorem look_trueM (x : Pl) : ∀ l : List Pl, look (trueM l) x = if x ∈ l then some true else none
 | [] => rfl
 | y :: l => by
  show look ((y, true) :: trueM l) x = _
  rw [look_cons, look_trueM x l]
  by_cases h : y = x
  ·subst h; simp
  ·have h2 : ¬ x = y := fun e => h e.symm
   simp only [h, if_false, List.mem_cons, h2, false_or]
theorem upsert_trueM {x : Pl} : ∀ {l : List Pl}, x ∉ l → upsert (trueM l) x true = trueM (l ++ [x])
 | [], _ => rfl
 | y :: l, h => by
  simp only [List.mem_cons, not_or] at h
  show upsert ((y, true) :: trueM l) x true = (y, true) :: trueM (l ++ [x])
  rw [upsert_cons, if_neg (fun e => h.1 e.symm), upsert_trueM h.2]
end Go.Proofs.YtkdolgnpkjihpaaGreatDoor
namespace Go.Proofs.YtkdolgnpkjihpaaGreatDoor
open _root_.Go.Proofs.Tryz
open Go.RowKit
set_option linter.unusedVariables false
set_option linter.unusedSimpArgs false
theorem bd178_0_1 (a0 : Int) (a1 : ByteArray) (w : World) : (Instr.build 178 #[(0, .int .i64 a0), (1, .string a1)]).run Tryz.prog w = .ok (.agg #[.int .i64 a0, .string a1]) w := by kernel_rfl
theorem bd186_0_1 (a0 : Int) (a1 : Int) (w : World) : (Instr.build 186 #[(0, .int .i64 a0), (1, .int .i64 a1)]).run Tryz.prog w = .ok (.agg #[.int .i64 a0, .int .i64 a1]) w := by kernel_rfl
theorem bs176_1_0 (a0 : Int) (a1 : Int) (w : World) : (Instr.buildSlice 176 1 #[(0, .agg #[.int .i64 a0, .int .i64 a1])]).run Tryz.prog w = .ok (.slice (some ⟨w.heap.size, 0, none⟩) 1 1) (w.alloc (Cl [.int .i64 a0, .int .i64 a1] 115)) := by kernel_rfl
theorem bs179_1_0 (a0 : Int) (a1 : ByteArray) (w : World) : (Instr.buildSlice 179 1 #[(0, .agg #[.int .i64 a0, .string a1])]).run Tryz.prog w = .ok (.slice (some ⟨w.heap.size, 0, none⟩) 1 1) (w.alloc (Cl [.int .i64 a0, .string a1] 178)) := by kernel_rfl
theorem bs187_1_0 (a0 : Int) (a1 : Int) (w : World) : (Instr.buildSlice 187 1 #[(0, .agg #[.int .i64 a0, .int .i64 a1])]).run Tryz.prog w = .ok (.slice (some ⟨w.heap.size, 0, none⟩) 1 1) (w.alloc (Cl [.int .i64 a0, .int .i64 a1] 186)) := by kernel_rfl
theorem bs59_1_0 (a0 : Int) (a1 : Int) (w : World) : (Instr.buildSlice 59 1 #[(0, .agg #[.int .i64 a0, .int .i64 a1])]).run Tryz.prog w = .ok (.slice (some ⟨w.heap.size, 0, none⟩) 1 1) (w.alloc (Cl [.int .i64 a0, .int .i64 a1] 74)) := by kernel_rfl
abbrev encPl (p : Pl) : List Value := [.int .i64 (p.1 : Int), .int .i64 (p.2 : Int)]
abbrev encPK (p : Pl) : Value := .agg (encPl p).toArray
theorem eqPk {t : TypeId} (h : ∀ (a b : Int × Int) w, (Op.equal t (encPlK a) (encPlK b)).run Tryz.prog w = .ok (decide (b = a)) w) (a b : Pl) (w : World) : (Op.equal t (encPK a) (encPK b)).run Tryz.prog w = .ok (decide (b = a)) w := by
 have h1 := h ((a.1 : Int), (a.2 : Int)) ((b.1 : Int), (b.2 : Int)) w
 refine Eq.trans h1 ?_
 refine congrArg (fun r => Result.ok r w) (decide_eq_decide.2 ?_)
 obtain ⟨a1, a2⟩ := a
 obtain ⟨b1, b2⟩ := b
 simp only [Prod.mk.injEq]
 omega
theorem keyP74 {V : Type} : KeyOk (V := V) Tryz.prog 74 encPK := keyOk_ask runUnderlying74 (fun b k w => by cases b <;> kernel_rfl) (fun k k' => by simp [Instr.sameNow]) (eqPk eqPl) (fun k => by simp [Instr.sameBits])
theorem keyP115 {V : Type} : KeyOk (V := V) Tryz.prog 115 encPK := keyOk_ask runUnderlying115 (fun b k w => by cases b <;> kernel_rfl) (fun k k' => by simp [Instr.sameNow]) (eqPk eqA2) (fun k => by simp [Instr.sameBits])
abbrev encWI (x : Int × Nat) : List Value := [.int .i64 x.1, .int .i64 (x.2 : Int)]
abbrev encWS (x : Int × ByteArray) : List Value := [.int .i64 x.1, .string x.2]
def bsHI (n18 n9 n8 : Nat) (st : BS Nat) (x : Sl × Sl) : List (Nat × Obj) := (n18, mapO encPK encBv (trueM st.l)) :: (n9, Cl [slV x.2 st.w.length] 187) :: (n8, Cl [slV x.1 st.l.length] 59) :: (slH x.2 (st.w.flatMap encWI) 186 ++ slH x.1 (st.l.flatMap encPl) 74)
theorem bsHI_app (n18 n9 n8 : Nat) (st : BS Nat) (x : Sl × Sl) (R : List (Nat × Obj)) : bsHI n18 n9 n8 st x ++ R = (n18, mapO encPK encBv (trueM st.l)) :: (n9, Cl [slV x.2 st.w.length] 187) :: (n8, Cl [slV x.1 st.l.length] 59) :: (slH x.2 (st.w.flatMap encWI) 186 ++ (slH x.1 (st.l.flatMap encPl) 74 ++ R)) := by
 unfold bsHI; simp only [List.cons_append, List.append_assoc]
structure bsOkI (st : BS Nat) (x : Sl × Sl) : Prop where
 o1 : SlOk x.1 st.l.length 2
 o2 : SlOk x.2 st.w.length 2
theorem yl_seenI {w0 : World} {H : List (Nat × Obj)} {L : Fm} {x y : Operand} {ty : TypeId} {r : Nat} {l : List Pl} {p : Pl} {v : Value} (hx : Ev L x (.map (some r))) (hy : Ev L y v) (hv : v = encPK p) (hf : Fnd H r (mapO encPK encBv (trueM l))) :
  Yl Tryz.prog w0 (.lookup 72 x y false) ty L H (.bool (decide (p ∈ l))) := by
 have h := yl_lookupB (P := Tryz.prog) (w0 := w0) (ty := ty) (encB := encBv) E (keyP74 (V := Bool)) hx hy hv runUnderlying72 zeroValue4 hf
 rw [look_trueM] at h
 by_cases hm : p ∈ l
 ·rw [if_pos hm] at h; rw [decide_eq_true hm]; exact h
 ·rw [if_neg hm] at h; rw [decide_eq_false hm]; exact h
theorem visI_s {w0 : World} {H : List (Nat × Obj)} (n18 n9 n8 n10 n11 k : Nat) (st : BS Nat) (x : Sl × Sl) (t : Pl) (by1 : Nat) (hx : bsOkI st x) (hl : st.l.length ≤ 100000) (hw : st.w.length = st.l.length) (h10 : Fnd H n10 (Cl [.map (some n18)] 72)) (h11 : Fnd H n11 (Cl [.int .i64 (k : Int)] 3)) :
  FSpec Tryz.prog w0 126 #[.agg (encPl t).toArray, .int .i64 (by1 : Int), .pointer (some ⟨n10, 0, none⟩), .pointer (some ⟨n8, 0, none⟩), .pointer (some ⟨n9, 0, none⟩), .pointer (some ⟨n11, 0, none⟩)] (bsHI n18 n9 n8 st x ++ H) (fun _ H' => ∃ y, bsOkI (visF k st (t, by1)) y ∧ H' = bsHI n18 n9 n8 (visF k st (t, by1)) y ++ H) := by
 obtain ⟨ho1, ho2⟩ := hx
 rw [bsHI_app]
 refine A9 Tryz.func126 E ntmps126 E (Ag (Ab (e_ (Ba (T E) cs_) ?_ E)))
 rintro _ _ ⟨n6, rfl, rfl⟩
 refine Af (Ae (Ag (Ab ?_)))
 refine y_ (Ai (T E) isAgg72 (by first | exact c_o | exact c_o (hf := by repeat (first | exact h10 | refine As ?_ | refine Bd ?_)) | exact c_o (hf := As (As (As (As (Bd (Bd h10)))))) | exact c_o (hf := As (As (As (As (Bd (Bd h11)))))))) ?_ E
 refine y_ (Am (T E) isAgg74 sizeOf74 E (by first | exact Bb | exact c_o (hf := As (As (As (As (Bd (Bd h10)))))) | exact c_o (hf := As (As (As (As (Bd (Bd h11)))))))) ?_ E
 refine y_ (yl_seenI (l := st.l) (p := t) (T E) (T E) E (by repeat (first | exact By | refine As ?_ | refine Bd ?_))) ?_ E
 first | refine Ax (Ca (T E)) E Ah ?_ | refine Ax (Co (T E)) E Ah ?_
 refine Af (Ae ?_)
 first | refine Ar (Aa E) (fun c11 => ?_) (fun c11 => ?_) | refine A6 (Aa E) (fun c11 => ?_) (fun c11 => ?_)
 ·refine Ag (Ab ?_)
  refine y_ (Ai (T E) isAgg72 (by first | exact c_o | exact c_o (hf := by repeat (first | exact h10 | refine As ?_ | refine Bd ?_)) | exact c_o (hf := As (As (As (As (Bd (Bd h10)))))) | exact c_o (hf := As (As (As (As (Bd (Bd h11)))))))) ?_ E
  refine y_ (Am (T E) isAgg74 sizeOf74 E (by first | exact Bb | exact c_o (hf := As (As (As (As (Bd (Bd h10)))))) | exact c_o (hf := As (As (As (As (Bd (Bd h11)))))))) ?_ E
  refine e_ (eff_mapUpdate (l := trueM st.l) (encV := encBv) t true (keyP74 (V := Bool)) (T E) (T E) E Aj E runUnderlying72) ?_ E
  rintro _ _ ⟨rfl, rfl⟩
  rw [upsert_trueM c11]
  refine Af (Ae (j_anyX 9 _ mixd (by kernel_rfl) (show List.Sublist ((n6, Cl (encPl t) 74) :: (n18, _) :: (n9, Cl [slV x.2 st.w.length] 187) :: (n8, Cl [slV x.1 st.l.length] 59) :: H) _ from by repeat (first | exact List.Sublist.refl _ | apply List.Sublist.cons_cons | exact sbt)) ?_))
  refine x_y (i := 0) E (by kernel_rfl) (Ai (T E) isAgg59 (by first | exact c_o | exact c_o (hf := As (As (As (As (Bd (Bd h10)))))) | exact c_o (hf := As (As (As (As (Bd (Bd h11)))))))) ?_ E Ah
  refine x_y (i := 1) E (by kernel_rfl) (Am (T E) isAgg74 sizeOf74 E (by first | exact Bb | exact c_o (hf := As (As (As (As (Bd (Bd h10)))))) | exact c_o (hf := As (As (As (As (Bd (Bd h11)))))))) ?_ E Ah
  refine x_y (i := 4) E (by kernel_rfl) (Ai (T E) isAgg187 (by first | exact c_o | exact c_o (hf := As (As (As (As (Bd (Bd h10)))))) | exact c_o (hf := As (As (As (As (Bd (Bd h11)))))))) ?_ E Ah
  refine x_y (i := 5) E (by kernel_rfl) (Ai (T E) isAgg3 (by first | exact c_o | exact c_o (hf := by repeat (first | exact h11 | refine As ?_ | refine Bd ?_)) | exact c_o (hf := As (As (As (As (Bd (Bd h10)))))) | exact c_o (hf := As (As (As (As (Bd (Bd h11)))))))) ?_ E Ah
  refine x_y (i := 6) E (by kernel_rfl) (Ac (T E)) ?_ E Ah
  refine x_y (i := 7) E (by kernel_rfl) (B1 (.cons (T E) (.cons (T E) .nil)) (bd186_0_1 _ _)) ?_ E Ah
  refine C4 (i := 2) (j := 8) (by kernel_rfl) (by kernel_rfl) ?_ ?_
  ·refine B3 E (Ap (.cons (T E) .nil) (bs59_1_0 _ _)) ?_ E Ah
   rintro _ _ ⟨n16, rfl, rfl⟩
   refine ⟨sbt, ?_⟩
   refine C4 (i := 3) (j := 8) (by kernel_rfl) (by kernel_rfl) ?_ ?_
   ·refine B3 E (B0 (t) (by' := 16) (by repeat (first | exact LocL.h | apply LocL.t | apply LocL.a)) (T E) (T E) runUnderlying59 runUnderlying59 sizeOf74 typeInfo74 E zeroValue74 E (fun _ => rfl) E ho1 (by decide) (by omega)) ?_ E Ah
    rintro _ _ ⟨d', rfl, hokd, rfl⟩
    refine ⟨sbt, (B6 (i := 8) (by kernel_rfl) (by kernel_rfl) ?_)⟩
    refine B3 E (Ap (.cons (T E) .nil) (bs187_1_0 _ _)) ?_ E Ah
    rintro _ _ ⟨n22, rfl, rfl⟩
    refine ⟨sbt, (Cq (by kernel_rfl) E ?_)⟩
    refine e_ (B0 (((k : Int), by1)) (by' := 16) (by repeat (first | exact LocL.h | apply LocL.t | apply LocL.a)) (T E) (T E) runUnderlying187 runUnderlying187 sizeOf186 typeInfo186 E zeroValue186 E (fun _ => rfl) E ho2 (by decide) (by omega)) ?_ E
    rintro _ _ ⟨e', rfl, hoke, rfl⟩
    first | refine Bk (A7 (T E) (T E) sizeOf59) E Ah ?_ | refine Bk (Cg (T E) (T E) E sizeOf59) E Ah ?_ | refine Bk (B7 (T E) (T E) E sizeOf59) E Ah ?_
    rintro _ _ ⟨rfl, rfl⟩
    first | refine Bk (A7 (T E) (T E) sizeOf187) E Ah ?_ | refine Bk (Cg (T E) (T E) E sizeOf187) E Ah ?_ | refine Bk (B7 (T E) (T E) E sizeOf187) E Ah ?_
    rintro _ _ ⟨rfl, rfl⟩
    refine Af (Dh E .nil ?_)
    have hv : visF k st (t, by1) = ⟨st.l ++ [t], st.w ++ [((k : Int), by1)]⟩ := if_neg c11
    refine ⟨_, ⟨(d', e'), ⟨by rw [hv]; simpa using hokd, by rw [hv]; simpa using hoke⟩, rfl⟩, ?_⟩
    rw [hv, bsHI_app]
    simp only [List.length_append, List.length_cons, List.length_nil, Nat.zero_add]
    exact sbt
   ·refine B3 E (Ap (.cons (T E) .nil) (bs187_1_0 _ _)) ?_ E Ah
    rintro _ _ ⟨n22, rfl, rfl⟩
    refine ⟨sbt, (B6 (i := 3) (by kernel_rfl) (by kernel_rfl) ?_)⟩
    refine B3 E (B0 (t) (by' := 16) (by repeat (first | exact LocL.h | apply LocL.t | apply LocL.a)) (T E) (T E) runUnderlying59 runUnderlying59 sizeOf74 typeInfo74 E zeroValue74 E (fun _ => rfl) E ho1 (by decide) (by omega)) ?_ E Ah
    rintro _ _ ⟨d', rfl, hokd, rfl⟩
    refine ⟨sbt, (Cq (by kernel_rfl) E ?_)⟩
    refine e_ (B0 (((k : Int), by1)) (by' := 16) (by repeat (first | exact LocL.h | apply LocL.t | apply LocL.a)) (T E) (T E) runUnderlying187 runUnderlying187 sizeOf186 typeInfo186 E zeroValue186 E (fun _ => rfl) E ho2 (by decide) (by omega)) ?_ E
    rintro _ _ ⟨e', rfl, hoke, rfl⟩
    first | refine Bk (A7 (T E) (T E) sizeOf59) E Ah ?_ | refine Bk (Cg (T E) (T E) E sizeOf59) E Ah ?_ | refine Bk (B7 (T E) (T E) E sizeOf59) E Ah ?_
    rintro _ _ ⟨rfl, rfl⟩
    first | refine Bk (A7 (T E) (T E) sizeOf187) E Ah ?_ | refine Bk (Cg (T E) (T E) E sizeOf187) E Ah ?_ | refine Bk (B7 (T E) (T E) E sizeOf187) E Ah ?_
    rintro _ _ ⟨rfl, rfl⟩
    refine Af (Dh E .nil ?_)
    have hv : visF k st (t, by1) = ⟨st.l ++ [t], st.w ++ [((k : Int), by1)]⟩ := if_neg c11
    refine ⟨_, ⟨(d', e'), ⟨by rw [hv]; simpa using hokd, by rw [hv]; simpa using hoke⟩, rfl⟩, ?_⟩
    rw [hv, bsHI_app]
    simp only [List.length_append, List.length_cons, List.length_nil, Nat.zero_add]
    exact sbt
  ·refine B3 E (Ap (.cons (T E) .nil) (bs187_1_0 _ _)) ?_ E Ah
   rintro _ _ ⟨n22, rfl, rfl⟩
   refine ⟨sbt, (B6 (i := 2) (by kernel_rfl) (by kernel_rfl) ?_)⟩
   refine B3 E (Ap (.cons (T E) .nil) (bs59_1_0 _ _)) ?_ E Ah
   rintro _ _ ⟨n16, rfl, rfl⟩
   refine ⟨sbt, (B6 (i := 3) (by kernel_rfl) (by kernel_rfl) ?_)⟩
   refine B3 E (B0 (t) (by' := 16) (by repeat (first | exact LocL.h | apply LocL.t | apply LocL.a)) (T E) (T E) runUnderlying59 runUnderlying59 sizeOf74 typeInfo74 E zeroValue74 E (fun _ => rfl) E ho1 (by decide) (by omega)) ?_ E Ah
   rintro _ _ ⟨d', rfl, hokd, rfl⟩
   refine ⟨sbt, (Cq (by kernel_rfl) E ?_)⟩
   refine e_ (B0 (((k : Int), by1)) (by' := 16) (by repeat (first | exact LocL.h | apply LocL.t | apply LocL.a)) (T E) (T E) runUnderlying187 runUnderlying187 sizeOf186 typeInfo186 E zeroValue186 E (fun _ => rfl) E ho2 (by decide) (by omega)) ?_ E
   rintro _ _ ⟨e', rfl, hoke, rfl⟩
   first | refine Bk (A7 (T E) (T E) sizeOf59) E Ah ?_ | refine Bk (Cg (T E) (T E) E sizeOf59) E Ah ?_ | refine Bk (B7 (T E) (T E) E sizeOf59) E Ah ?_
   rintro _ _ ⟨rfl, rfl⟩
   first | refine Bk (A7 (T E) (T E) sizeOf187) E Ah ?_ | refine Bk (Cg (T E) (T E) E sizeOf187) E Ah ?_ | refine Bk (B7 (T E) (T E) E sizeOf187) E Ah ?_
   rintro _ _ ⟨rfl, rfl⟩
   refine Af (Dh E .nil ?_)
   have hv : visF k st (t, by1) = ⟨st.l ++ [t], st.w ++ [((k : Int), by1)]⟩ := if_neg c11
   refine ⟨_, ⟨(d', e'), ⟨by rw [hv]; simpa using hokd, by rw [hv]; simpa using hoke⟩, rfl⟩, ?_⟩
   rw [hv, bsHI_app]
   simp only [List.length_append, List.length_cons, List.length_nil, Nat.zero_add]
   exact sbt
 ·refine A2 (Dh E .nil ?_)
  have hv : visF k st (t, by1) = st := if_pos (Classical.not_not.1 c11)
  refine ⟨_, ⟨x, ⟨by rw [hv]; exact ho1, by rw [hv]; exact ho2⟩, rfl⟩, ?_⟩
  rw [hv, bsHI_app]
  exact sbt
def bsHS (n18 n9 n8 : Nat) (st : BS ByteArray) (x : Sl × Sl) : List (Nat × Obj) := (n18, mapO encPK encBv (trueM st.l)) :: (n9, Cl [slV x.2 st.w.length] 179) :: (n8, Cl [slV x.1 st.l.length] 176) :: (slH x.2 (st.w.flatMap encWS) 178 ++ slH x.1 (st.l.flatMap encPl) 115)
theorem bsHS_app (n18 n9 n8 : Nat) (st : BS ByteArray) (x : Sl × Sl) (R : List (Nat × Obj)) : bsHS n18 n9 n8 st x ++ R = (n18, mapO encPK encBv (trueM st.l)) :: (n9, Cl [slV x.2 st.w.length] 179) :: (n8, Cl [slV x.1 st.l.length] 176) :: (slH x.2 (st.w.flatMap encWS) 178 ++ (slH x.1 (st.l.flatMap encPl) 115 ++ R)) := by
 unfold bsHS; simp only [List.cons_append, List.append_assoc]
structure bsOkS (st : BS ByteArray) (x : Sl × Sl) : Prop where
 o1 : SlOk x.1 st.l.length 2
 o2 : SlOk x.2 st.w.length 2
theorem yl_seenS {w0 : World} {H : List (Nat × Obj)} {L : Fm} {x y : Operand} {ty : TypeId} {r : Nat} {l : List Pl} {p : Pl} {v : Value} (hx : Ev L x (.map (some r))) (hy : Ev L y v) (hv : v = encPK p) (hf : Fnd H r (mapO encPK encBv (trueM l))) :
  Yl Tryz.prog w0 (.lookup 180 x y false) ty L H (.bool (decide (p ∈ l))) := by
 have h := yl_lookupB (P := Tryz.prog) (w0 := w0) (ty := ty) (encB := encBv) E (keyP115 (V := Bool)) hx hy hv runUnderlying180 zeroValue4 hf
 rw [look_trueM] at h
 by_cases hm : p ∈ l
 ·rw [if_pos hm] at h; rw [decide_eq_true hm]; exact h
 ·rw [if_neg hm] at h; rw [decide_eq_false hm]; exact h
theorem visS_s {w0 : World} {H : List (Nat × Obj)} (n18 n9 n8 n10 n11 k : Nat) (st : BS ByteArray) (x : Sl × Sl) (t : Pl) (by1 : ByteArray) (hx : bsOkS st x) (hl : st.l.length ≤ 100000) (hw : st.w.length = st.l.length) (h10 : Fnd H n10 (Cl [.map (some n18)] 180)) (h11 : Fnd H n11 (Cl [.int .i64 (k : Int)] 3)) :
  FSpec Tryz.prog w0 120 #[.agg (encPl t).toArray, .string by1, .pointer (some ⟨n10, 0, none⟩), .pointer (some ⟨n8, 0, none⟩), .pointer (some ⟨n9, 0, none⟩), .pointer (some ⟨n11, 0, none⟩)] (bsHS n18 n9 n8 st x ++ H) (fun _ H' => ∃ y, bsOkS (visF k st (t, by1)) y ∧ H' = bsHS n18 n9 n8 (visF k st (t, by1)) y ++ H) := by
 obtain ⟨ho1, ho2⟩ := hx
 rw [bsHS_app]
 refine A9 Tryz.func120 E ntmps120 E (Ag (Ab (e_ (Ba (T E) cs_) ?_ E)))
 rintro _ _ ⟨n6, rfl, rfl⟩
 refine Af (Ae (Ag (Ab ?_)))
 refine y_ (Ai (T E) isAgg180 (by first | exact c_o | exact c_o (hf := by repeat (first | exact h10 | refine As ?_ | refine Bd ?_)) | exact c_o (hf := As (As (As (As (Bd (Bd h10)))))) | exact c_o (hf := As (As (As (As (Bd (Bd h11)))))))) ?_ E
 refine y_ (Am (T E) isAgg115 sizeOf115 E (by first | exact Bb | exact c_o (hf := As (As (As (As (Bd (Bd h10)))))) | exact c_o (hf := As (As (As (As (Bd (Bd h11)))))))) ?_ E
 refine y_ (yl_seenS (l := st.l) (p := t) (T E) (T E) E (by repeat (first | exact By | refine As ?_ | refine Bd ?_))) ?_ E
 first | refine Ax (Ca (T E)) E Ah ?_ | refine Ax (Co (T E)) E Ah ?_
 refine Af (Ae ?_)
 first | refine Ar (Aa E) (fun c11 => ?_) (fun c11 => ?_) | refine A6 (Aa E) (fun c11 => ?_) (fun c11 => ?_)
 ·refine Ag (Ab ?_)
  refine y_ (Ai (T E) isAgg180 (by first | exact c_o | exact c_o (hf := by repeat (first | exact h10 | refine As ?_ | refine Bd ?_)) | exact c_o (hf := As (As (As (As (Bd (Bd h10)))))) | exact c_o (hf := As (As (As (As (Bd (Bd h11)))))))) ?_ E
  refine y_ (Am (T E) isAgg115 sizeOf115 E (by first | exact Bb | exact c_o (hf := As (As (As (As (Bd (Bd h10)))))) | exact c_o (hf := As (As (As (As (Bd (Bd h11)))))))) ?_ E
  refine e_ (eff_mapUpdate (l := trueM st.l) (encV := encBv) t true (keyP115 (V := Bool)) (T E) (T E) E Aj E runUnderlying180) ?_ E
  rintro _ _ ⟨rfl, rfl⟩
  rw [upsert_trueM c11]
  refine Af (Ae (j_anyX 9 _ mixd (by kernel_rfl) (show List.Sublist ((n6, Cl (encPl t) 115) :: (n18, _) :: (n9, Cl [slV x.2 st.w.length] 179) :: (n8, Cl [slV x.1 st.l.length] 176) :: H) _ from by repeat (first | exact List.Sublist.refl _ | apply List.Sublist.cons_cons | exact sbt)) ?_))
  refine x_y (i := 0) E (by kernel_rfl) (Ai (T E) isAgg176 (by first | exact c_o | exact c_o (hf := As (As (As (As (Bd (Bd h10)))))) | exact c_o (hf := As (As (As (As (Bd (Bd h11)))))))) ?_ E Ah
  refine x_y (i := 1) E (by kernel_rfl) (Am (T E) isAgg115 sizeOf115 E (by first | exact Bb | exact c_o (hf := As (As (As (As (Bd (Bd h10)))))) | exact c_o (hf := As (As (As (As (Bd (Bd h11)))))))) ?_ E Ah
  refine x_y (i := 4) E (by kernel_rfl) (Ai (T E) isAgg179 (by first | exact c_o | exact c_o (hf := As (As (As (As (Bd (Bd h10)))))) | exact c_o (hf := As (As (As (As (Bd (Bd h11)))))))) ?_ E Ah
  refine x_y (i := 5) E (by kernel_rfl) (Ai (T E) isAgg3 (by first | exact c_o | exact c_o (hf := by repeat (first | exact h11 | refine As ?_ | refine Bd ?_)) | exact c_o (hf := As (As (As (As (Bd (Bd h10)))))) | exact c_o (hf := As (As (As (As (Bd (Bd h11)))))))) ?_ E Ah
  refine x_y (i := 6) E (by kernel_rfl) (Ac (T E)) ?_ E Ah
  refine x_y (i := 7) E (by kernel_rfl) (B1 (.cons (T E) (.cons (T E) .nil)) (bd178_0_1 _ _)) ?_ E Ah
  refine C4 (i := 2) (j := 8) (by kernel_rfl) (by kernel_rfl) ?_ ?_
  ·refine B3 E (Ap (.cons (T E) .nil) (bs176_1_0 _ _)) ?_ E Ah
   rintro _ _ ⟨n16, rfl, rfl⟩
   refine ⟨sbt, ?_⟩
   refine C4 (i := 3) (j := 8) (by kernel_rfl) (by kernel_rfl) ?_ ?_
   ·refine B3 E (B0 (t) (by' := 16) (by repeat (first | exact LocL.h | apply LocL.t | apply LocL.a)) (T E) (T E) runUnderlying176 runUnderlying176 sizeOf115 typeInfo115 E zeroValue115 E (fun _ => rfl) E ho1 (by decide) (by omega)) ?_ E Ah
    rintro _ _ ⟨d', rfl, hokd, rfl⟩
    refine ⟨sbt, (B6 (i := 8) (by kernel_rfl) (by kernel_rfl) ?_)⟩
    refine B3 E (Ap (.cons (T E) .nil) (bs179_1_0 _ _)) ?_ E Ah
    rintro _ _ ⟨n22, rfl, rfl⟩
    refine ⟨sbt, (Cq (by kernel_rfl) E ?_)⟩
    refine e_ (B0 (((k : Int), by1)) (by' := 24) (by repeat (first | exact LocL.h | apply LocL.t | apply LocL.a)) (T E) (T E) runUnderlying179 runUnderlying179 sizeOf178 typeInfo178 E zeroValue178 E (fun _ => rfl) E ho2 (by decide) (by omega)) ?_ E
    rintro _ _ ⟨e', rfl, hoke, rfl⟩
    first | refine Bk (A7 (T E) (T E) sizeOf176) E Ah ?_ | refine Bk (Cg (T E) (T E) E sizeOf176) E Ah ?_ | refine Bk (B7 (T E) (T E) E sizeOf176) E Ah ?_
    rintro _ _ ⟨rfl, rfl⟩
    first | refine Bk (A7 (T E) (T E) sizeOf179) E Ah ?_ | refine Bk (Cg (T E) (T E) E sizeOf179) E Ah ?_ | refine Bk (B7 (T E) (T E) E sizeOf179) E Ah ?_
    rintro _ _ ⟨rfl, rfl⟩
    refine Af (Dh E .nil ?_)
    have hv : visF k st (t, by1) = ⟨st.l ++ [t], st.w ++ [((k : Int), by1)]⟩ := if_neg c11
    refine ⟨_, ⟨(d', e'), ⟨by rw [hv]; simpa using hokd, by rw [hv]; simpa using hoke⟩, rfl⟩, ?_⟩
    rw [hv, bsHS_app]
    simp only [List.length_append, List.length_cons, List.length_nil, Nat.zero_add]
    exact sbt
   ·refine B3 E (Ap (.cons (T E) .nil) (bs179_1_0 _ _)) ?_ E Ah
    rintro _ _ ⟨n22, rfl, rfl⟩
    refine ⟨sbt, (B6 (i := 3) (by kernel_rfl) (by kernel_rfl) ?_)⟩
    refine B3 E (B0 (t) (by' := 16) (by repeat (first | exact LocL.h | apply LocL.t | apply LocL.a)) (T E) (T E) runUnderlying176 runUnderlying176 sizeOf115 typeInfo115 E zeroValue115 E (fun _ => rfl) E ho1 (by decide) (by omega)) ?_ E Ah
    rintro _ _ ⟨d', rfl, hokd, rfl⟩
    refine ⟨sbt, (Cq (by kernel_rfl) E ?_)⟩
    refine e_ (B0 (((k : Int), by1)) (by' := 24) (by repeat (first | exact LocL.h | apply LocL.t | apply LocL.a)) (T E) (T E) runUnderlying179 runUnderlying179 sizeOf178 typeInfo178 E zeroValue178 E (fun _ => rfl) E ho2 (by decide) (by omega)) ?_ E
    rintro _ _ ⟨e', rfl, hoke, rfl⟩
    first | refine Bk (A7 (T E) (T E) sizeOf176) E Ah ?_ | refine Bk (Cg (T E) (T E) E sizeOf176) E Ah ?_ | refine Bk (B7 (T E) (T E) E sizeOf176) E Ah ?_
    rintro _ _ ⟨rfl, rfl⟩
    first | refine Bk (A7 (T E) (T E) sizeOf179) E Ah ?_ | refine Bk (Cg (T E) (T E) E sizeOf179) E Ah ?_ | refine Bk (B7 (T E) (T E) E sizeOf179) E Ah ?_
    rintro _ _ ⟨rfl, rfl⟩
    refine Af (Dh E .nil ?_)
    have hv : visF k st (t, by1) = ⟨st.l ++ [t], st.w ++ [((k : Int), by1)]⟩ := if_neg c11
    refine ⟨_, ⟨(d', e'), ⟨by rw [hv]; simpa using hokd, by rw [hv]; simpa using hoke⟩, rfl⟩, ?_⟩
    rw [hv, bsHS_app]
    simp only [List.length_append, List.length_cons, List.length_nil, Nat.zero_add]
    exact sbt
  ·refine B3 E (Ap (.cons (T E) .nil) (bs179_1_0 _ _)) ?_ E Ah
   rintro _ _ ⟨n22, rfl, rfl⟩
   refine ⟨sbt, (B6 (i := 2) (by kernel_rfl) (by kernel_rfl) ?_)⟩
   refine B3 E (Ap (.cons (T E) .nil) (bs176_1_0 _ _)) ?_ E Ah
   rintro _ _ ⟨n16, rfl, rfl⟩
   refine ⟨sbt, (B6 (i := 3) (by kernel_rfl) (by kernel_rfl) ?_)⟩
   refine B3 E (B0 (t) (by' := 16) (by repeat (first | exact LocL.h | apply LocL.t | apply LocL.a)) (T E) (T E) runUnderlying176 runUnderlying176 sizeOf115 typeInfo115 E zeroValue115 E (fun _ => rfl) E ho1 (by decide) (by omega)) ?_ E Ah
   rintro _ _ ⟨d', rfl, hokd, rfl⟩
   refine ⟨sbt, (Cq (by kernel_rfl) E ?_)⟩
   refine e_ (B0 (((k : Int), by1)) (by' := 24) (by repeat (first | exact LocL.h | apply LocL.t | apply LocL.a)) (T E) (T E) runUnderlying179 runUnderlying179 sizeOf178 typeInfo178 E zeroValue178 E (fun _ => rfl) E ho2 (by decide) (by omega)) ?_ E
   rintro _ _ ⟨e', rfl, hoke, rfl⟩
   first | refine Bk (A7 (T E) (T E) sizeOf176) E Ah ?_ | refine Bk (Cg (T E) (T E) E sizeOf176) E Ah ?_ | refine Bk (B7 (T E) (T E) E sizeOf176) E Ah ?_
   rintro _ _ ⟨rfl, rfl⟩
   first | refine Bk (A7 (T E) (T E) sizeOf179) E Ah ?_ | refine Bk (Cg (T E) (T E) E sizeOf179) E Ah ?_ | refine Bk (B7 (T E) (T E) E sizeOf179) E Ah ?_
   rintro _ _ ⟨rfl, rfl⟩
   refine Af (Dh E .nil ?_)
   have hv : visF k st (t, by1) = ⟨st.l ++ [t], st.w ++ [((k : Int), by1)]⟩ := if_neg c11
   refine ⟨_, ⟨(d', e'), ⟨by rw [hv]; simpa using hokd, by rw [hv]; simpa using hoke⟩, rfl⟩, ?_⟩
   rw [hv, bsHS_app]
   simp only [List.length_append, List.length_cons, List.length_nil, Nat.zero_add]
   exact sbt
 ·refine A2 (Dh E .nil ?_)
  have hv : visF k st (t, by1) = st := if_pos (Classical.not_not.1 c11)
  refine ⟨_, ⟨x, ⟨by rw [hv]; exact ho1, by rw [hv]; exact ho2⟩, rfl⟩, ?_⟩
  rw [hv, bsHS_app]
  exact sbt
end Go.Proofs.YtkdolgnpkjihpaaGreatDoor
namespace Go.Proofs.YtkdolgnpkjihpaaGreatDoor
open _root_.Go.Proofs.Tryz
open Go.RowKit
set_option linter.unusedVariables false
set_option linter.unusedSimpArgs false
def RevAt {α : Type} [Inhabited α] (l l' : List α) (i : Nat) : Prop := l'.length = l.length ∧ ∀ j, j < l.length → gd l' j = if j < i ∨ l.length - i ≤ j then gd l (l.length - 1 - j) else gd l j
theorem gd_setA {α : Type} [Inhabited α] {b : List α} {j x : Nat} {v : α} (hx : x < b.length) : gd (b.set j v) x = if x = j then v else gd b x := by
 rw [Bv (by simpa using hx), List.getElem_set, Bv hx]
 by_cases h : j = x
 ·subst h; simp
 ·rw [if_neg h, if_neg (fun e => h e.symm)]
theorem RevAt.step {α : Type} [Inhabited α] {l l' : List α} {i : Nat} (h : RevAt l l' i) (hi : i < l.length - 1 - i) : RevAt l ((l'.set i (gd l' (l.length - 1 - i))).set (l.length - 1 - i) (gd l' i)) (i + 1) := by
 obtain ⟨h1, h2⟩ := h
 refine ⟨by simp [h1], fun j hj => ?_⟩
 rw [gd_setA (by simp; omega), gd_setA (by omega)]
 by_cases e1 : j = l.length - 1 - i
 ·rw [if_pos e1, if_pos (by omega), h2 i (by omega), if_neg (by omega), e1]
  congr 1; omega
 ·rw [if_neg e1]
  by_cases e2 : j = i
  ·rw [if_pos e2, if_pos (by omega), h2 _ (by omega), if_neg (by omega), e2]
  ·rw [if_neg e2, h2 j hj]
   by_cases e3 : j < i ∨ l.length - i ≤ j
   ·rw [if_pos e3, if_pos (by omega)]
   ·rw [if_neg e3, if_neg (by omega)]
theorem RevAt.done {α : Type} [Inhabited α] {l l' : List α} {i : Nat} (h : RevAt l l' i) (hi : ¬ (i : Int) < (l.length : Int) - 1 - i) : l' = l.reverse := by
 obtain ⟨h1, h2⟩ := h
 apply List.ext_getElem (by simp [h1])
 intro j hj1 hj2
 have hj : j < l.length := by omega
 have h3 := h2 j hj
 rw [Bv hj1] at h3
 rw [h3, List.getElem_reverse]
 split
 ·rw [Bv (by omega)]
 ·rw [Bv hj]; congr 1; omega
theorem revI_s {w0 : World} {H : List (Nat × Obj)} (d : Sl) (l : List Nat) (hd : SlOk d l.length 1) (hl : l.length ≤ 100000) :
  FSpec Tryz.prog w0 125 #[slV d l.length] (slH d (l.flatMap encU) 3 ++ H) (fun v H' => v = .tuple #[] ∧ H' = slH d (l.reverse.flatMap encU) 3 ++ H) := by
 refine A9 Tryz.func125 E ntmps125 E (Ag (Ab (y_ (Ac (T E)) (y_ (Bp (T E) runUnderlying42) (y_ (Dz (T E) Aj (by omega)) ?_ E) E) E)))
 refine y_ (Ad Aj) (y_ (Ad (T E)) (Af (Ae (Aw ?_))) E) E
 refine Cm (X := Nat × List Nat) (V := fun ⟨i, cur⟩ => [(2, .int .i64 (i : Nat)), (3, .int .i64 ((l.length : Int) - 1 - (i : Int)))]) (C := [(0, _)]) (G := fun ⟨i, cur⟩ => slH d (cur.flatMap encU) 3 ++ H) (φ := fun ⟨i, cur⟩ => RevAt l cur i ∧ SlOk d cur.length 1 ∧ i ≤ l.length) (μ := fun ⟨i, cur⟩ => l.length - i) (x0 := (0, l)) ?_ ⟨Aa rfl, trivial⟩ ⟨(by first | exact Aa rfl | (refine Ak (Aa rfl) (vint ?_); omega) | (refine Ak (Aa rfl) ?_; simp; done)), (by first | exact Aa rfl | (refine Ak (Aa rfl) (vint ?_); omega) | (refine Ak (Aa rfl) ?_; simp; done)), trivial⟩ sb0 ?_
 ·exact ⟨⟨rfl, fun j hj => by rw [if_neg (by omega)]⟩, hd, Nat.zero_le _⟩
 rintro ⟨i, cur⟩ ⟨hr, hdc, hil⟩
 refine Ag (Ag (Ab (y_ (Ac (T E)) (y_ (Ac (T E)) (y_ (Bu (T E) (T E)) (Af (Ae ?_)) E) E) E)))
 first | refine Ar (Aa E) (fun c9 => ?_) (fun c9 => ?_) | refine A6 (Aa E) (fun c9 => ?_) (fun c9 => ?_)
 ·have hij : i < l.length - 1 - i := by omega
  obtain ⟨hcl, hcg⟩ := hr
  have hjj : (l.length : Int) - 1 - (i : Int) = ((l.length - 1 - i : Nat) : Int) := by omega
  simp only [hjj]
  refine A2 (Ae (Ag (Aw (j_anyW 13 15 (H) (slH d (cur.flatMap encU) 3 ++ H) mixd (by kernel_rfl) (List.sublist_append_right _ _) (List.Sublist.refl _) ?_))))
  refine Cx [0] (by kernel_rfl) E (i := 0) E (by kernel_rfl) (Ac (T E)) ?_ E Ah
  refine Cx [1] (by kernel_rfl) E (i := 1) E (by kernel_rfl) (Ac (T E)) ?_ E Ah
  refine w_y (i := 2) E (by kernel_rfl) (Ac (T E)) ?_ E Ah
  refine w_y (i := 3) E (by kernel_rfl) (Ac (T E)) ?_ E Ah
  refine Cx [4] (by kernel_rfl) E (i := 4) E (by kernel_rfl) (Ac (T E)) ?_ E Ah
  refine Cx [5] (by kernel_rfl) E (i := 5) E (by kernel_rfl) (Ac (T E)) ?_ E Ah
  refine Cx [6] (by kernel_rfl) E (i := 6) E (by kernel_rfl) (Be (T E) (T E) runUnderlying42 sizeOf3 (by omega) (by first | exact rfl | exact hdc.bas (by omega) | exact SlOk.bas hd (by omega))) ?_ E Ah
  refine Cx [7] (by kernel_rfl) E (i := 7) E (by kernel_rfl) (Ai (T E) isAgg3 (by first | exact c_o | exact cell1 (((Bq (X := H) (enc := encU) (sz := 1) (e := 3) (l := cur) (fun _ => rfl) hdc).mono sbt).cs (i := (l.length - 1 - i)) (by omega)))) ?_ E Ah
  refine Cx [11, 10, 8] (by kernel_rfl) E (i := 8) E (by kernel_rfl) (Ac (T E)) ?_ E Ah
  refine Cx [11, 10, 9] (by kernel_rfl) E (i := 9) E (by kernel_rfl) (Ac (T E)) ?_ E Ah
  refine Cx [11, 10] (by kernel_rfl) E (i := 10) E (by kernel_rfl) (Be (T E) (T E) runUnderlying42 sizeOf3 (by omega) (by first | exact rfl | exact hdc.bas (by omega) | exact SlOk.bas hd (by omega))) ?_ E Ah
  refine Cx [11] (by kernel_rfl) E (i := 11) E (by kernel_rfl) (Ai (T E) isAgg3 (by first | exact c_o | exact cell1 (((Bq (X := H) (enc := encU) (sz := 1) (e := 3) (l := cur) (fun _ => rfl) hdc).mono sbt).cs (i := i) (by omega)))) ?_ E Ah
  refine Cx [12] (by kernel_rfl) E (i := 12) E (by kernel_rfl) (Be (T E) (T E) runUnderlying42 sizeOf3 (by omega) (by first | exact rfl | exact hdc.bas (by omega) | exact SlOk.bas hd (by omega))) ?_ E Ah
  refine Ds (i := 13) (by kernel_rfl) (by kernel_rfl) ?_
  refine D8 E (eff_sElem (l := cur) (e := 3) (enc := encU) (sz := 1) (i := i) (gd cur (l.length - 1 - i)) (fun _ => rfl) LocL.h (T E) (T E) (.one E) E sizeOf3 (by omega) hdc) ?_ E Ah (by kernel_rfl)
  rintro _ _ ⟨rfl, rfl⟩
  refine ⟨sbt, (w_y (i := 14) E (by kernel_rfl) (Be (T E) (T E) runUnderlying42 sizeOf3 (by omega) (by first | exact rfl | exact hdc.bas (by omega) | exact SlOk.bas hd (by omega))) ?_ E Ah)⟩
  refine w_nil (by kernel_rfl) E ?_
  refine e_ (eff_sElem (l := cur.set i (gd cur (l.length - 1 - i))) (e := 3) (enc := encU) (sz := 1) (i := (l.length - 1 - i)) (gd cur i) (fun _ => rfl) LocL.h (T E) (T E) (.one E) E sizeOf3 (by simp; omega) (by simpa using hdc)) ?_ E
  rintro _ _ ⟨rfl, rfl⟩
  refine Af (Bl (Ae (Ab (y_ (Ac (T E)) (y_ (Bt (T E) Aj (by omega)) ?_ E) E))))
  refine y_ (Ac (T E)) (y_ (Dz (T E) Aj (by omega)) ?_ E) E
  refine y_ (Ad (T E)) (y_ (Ad (T E)) (Af ?_) E) E
  refine Bn ((i + 1, (cur.set i (gd cur (l.length - 1 - i))).set (l.length - 1 - i) (gd cur i))) ?_ ?_ ⟨(by first | exact Aa E | (refine Ak (Aa E) (vint ?_); omega) | (refine Ak (Aa E) ?_; simp; done)), (by first | exact Aa E | (refine Ak (Aa E) (vint ?_); omega) | (refine Ak (Aa E) ?_; simp; done)), trivial⟩ ⟨Aa E, trivial⟩ ?_
  ·exact ⟨RevAt.step ⟨hcl, hcg⟩ hij, by simpa using hdc, by omega⟩
  ·first | omega | (simp only []; omega)
  ·exact sbt
 ·have hfin := hr.done (by omega)
  refine B4 (A0 (A4 (A3 (Dh E .nil ?_))))
  rw [← hfin]; exact ⟨_, ⟨rfl, rfl⟩, sbt⟩
theorem revS_s {w0 : World} {H : List (Nat × Obj)} (d : Sl) (l : List ByteArray) (hd : SlOk d l.length 1) (hl : l.length ≤ 100000) :
  FSpec Tryz.prog w0 119 #[slV d l.length] (slH d (l.flatMap encS) 9 ++ H) (fun v H' => v = .tuple #[] ∧ H' = slH d (l.reverse.flatMap encS) 9 ++ H) := by
 refine A9 Tryz.func119 E ntmps119 E (Ag (Ab (y_ (Ac (T E)) (y_ (Bp (T E) runUnderlying25) (y_ (Dz (T E) Aj (by omega)) ?_ E) E) E)))
 refine y_ (Ad Aj) (y_ (Ad (T E)) (Af (Ae (Aw ?_))) E) E
 refine Cm (X := Nat × List ByteArray) (V := fun ⟨i, cur⟩ => [(2, .int .i64 (i : Nat)), (3, .int .i64 ((l.length : Int) - 1 - (i : Int)))]) (C := [(0, _)]) (G := fun ⟨i, cur⟩ => slH d (cur.flatMap encS) 9 ++ H) (φ := fun ⟨i, cur⟩ => RevAt l cur i ∧ SlOk d cur.length 1 ∧ i ≤ l.length) (μ := fun ⟨i, cur⟩ => l.length - i) (x0 := (0, l)) ?_ ⟨Aa rfl, trivial⟩ ⟨(by first | exact Aa rfl | (refine Ak (Aa rfl) (vint ?_); omega) | (refine Ak (Aa rfl) ?_; simp; done)), (by first | exact Aa rfl | (refine Ak (Aa rfl) (vint ?_); omega) | (refine Ak (Aa rfl) ?_; simp; done)), trivial⟩ sb0 ?_
 ·exact ⟨⟨rfl, fun j hj => by rw [if_neg (by omega)]⟩, hd, Nat.zero_le _⟩
 rintro ⟨i, cur⟩ ⟨hr, hdc, hil⟩
 refine Ag (Ag (Ab (y_ (Ac (T E)) (y_ (Ac (T E)) (y_ (Bu (T E) (T E)) (Af (Ae ?_)) E) E) E)))
 first | refine Ar (Aa E) (fun c9 => ?_) (fun c9 => ?_) | refine A6 (Aa E) (fun c9 => ?_) (fun c9 => ?_)
 ·have hij : i < l.length - 1 - i := by omega
  obtain ⟨hcl, hcg⟩ := hr
  have hjj : (l.length : Int) - 1 - (i : Int) = ((l.length - 1 - i : Nat) : Int) := by omega
  simp only [hjj]
  refine A2 (Ae (Ag (Aw (j_anyW 13 15 (H) (slH d (cur.flatMap encS) 9 ++ H) mixd (by kernel_rfl) (List.sublist_append_right _ _) (List.Sublist.refl _) ?_))))
  refine Cx [0] (by kernel_rfl) E (i := 0) E (by kernel_rfl) (Ac (T E)) ?_ E Ah
  refine Cx [1] (by kernel_rfl) E (i := 1) E (by kernel_rfl) (Ac (T E)) ?_ E Ah
  refine w_y (i := 2) E (by kernel_rfl) (Ac (T E)) ?_ E Ah
  refine w_y (i := 3) E (by kernel_rfl) (Ac (T E)) ?_ E Ah
  refine Cx [4] (by kernel_rfl) E (i := 4) E (by kernel_rfl) (Ac (T E)) ?_ E Ah
  refine Cx [5] (by kernel_rfl) E (i := 5) E (by kernel_rfl) (Ac (T E)) ?_ E Ah
  refine Cx [6] (by kernel_rfl) E (i := 6) E (by kernel_rfl) (Be (T E) (T E) runUnderlying25 sizeOf9 (by omega) (by first | exact rfl | exact hdc.bas (by omega) | exact SlOk.bas hd (by omega))) ?_ E Ah
  refine Cx [7] (by kernel_rfl) E (i := 7) E (by kernel_rfl) (Ai (T E) isAgg9 (by first | exact c_o | exact cell1 (((Bq (X := H) (enc := encS) (sz := 1) (e := 9) (l := cur) (fun _ => rfl) hdc).mono sbt).cs (i := (l.length - 1 - i)) (by omega)))) ?_ E Ah
  refine Cx [11, 10, 8] (by kernel_rfl) E (i := 8) E (by kernel_rfl) (Ac (T E)) ?_ E Ah
  refine Cx [11, 10, 9] (by kernel_rfl) E (i := 9) E (by kernel_rfl) (Ac (T E)) ?_ E Ah
  refine Cx [11, 10] (by kernel_rfl) E (i := 10) E (by kernel_rfl) (Be (T E) (T E) runUnderlying25 sizeOf9 (by omega) (by first | exact rfl | exact hdc.bas (by omega) | exact SlOk.bas hd (by omega))) ?_ E Ah
  refine Cx [11] (by kernel_rfl) E (i := 11) E (by kernel_rfl) (Ai (T E) isAgg9 (by first | exact c_o | exact cell1 (((Bq (X := H) (enc := encS) (sz := 1) (e := 9) (l := cur) (fun _ => rfl) hdc).mono sbt).cs (i := i) (by omega)))) ?_ E Ah
  refine Cx [12] (by kernel_rfl) E (i := 12) E (by kernel_rfl) (Be (T E) (T E) runUnderlying25 sizeOf9 (by omega) (by first | exact rfl | exact hdc.bas (by omega) | exact SlOk.bas hd (by omega))) ?_ E Ah
  refine Ds (i := 13) (by kernel_rfl) (by kernel_rfl) ?_
  refine D8 E (eff_sElem (l := cur) (e := 9) (enc := encS) (sz := 1) (i := i) (gd cur (l.length - 1 - i)) (fun _ => rfl) LocL.h (T E) (T E) (.one E) E sizeOf9 (by omega) hdc) ?_ E Ah (by kernel_rfl)
  rintro _ _ ⟨rfl, rfl⟩
  refine ⟨sbt, (w_y (i := 14) E (by kernel_rfl) (Be (T E) (T E) runUnderlying25 sizeOf9 (by omega) (by first | exact rfl | exact hdc.bas (by omega) | exact SlOk.bas hd (by omega))) ?_ E Ah)⟩
  refine w_nil (by kernel_rfl) E ?_
  refine e_ (eff_sElem (l := cur.set i (gd cur (l.length - 1 - i))) (e := 9) (enc := encS) (sz := 1) (i := (l.length - 1 - i)) (gd cur i) (fun _ => rfl) LocL.h (T E) (T E) (.one E) E sizeOf9 (by simp; omega) (by simpa using hdc)) ?_ E
  rintro _ _ ⟨rfl, rfl⟩
  refine Af (Bl (Ae (Ab (y_ (Ac (T E)) (y_ (Bt (T E) Aj (by omega)) ?_ E) E))))
  refine y_ (Ac (T E)) (y_ (Dz (T E) Aj (by omega)) ?_ E) E
  refine y_ (Ad (T E)) (y_ (Ad (T E)) (Af ?_) E) E
  refine Bn ((i + 1, (cur.set i (gd cur (l.length - 1 - i))).set (l.length - 1 - i) (gd cur i))) ?_ ?_ ⟨(by first | exact Aa E | (refine Ak (Aa E) (vint ?_); omega) | (refine Ak (Aa E) ?_; simp; done)), (by first | exact Aa E | (refine Ak (Aa E) (vint ?_); omega) | (refine Ak (Aa E) ?_; simp; done)), trivial⟩ ⟨Aa E, trivial⟩ ?_
  ·exact ⟨RevAt.step ⟨hcl, hcg⟩ hij, by simpa using hdc, by omega⟩
  ·first | omega | (simp only []; omega)
  ·exact sbt
 ·have hfin := hr.done (by omega)
  refine B4 (A0 (A4 (A3 (Dh E .nil ?_))))
  rw [← hfin]; exact ⟨_, ⟨rfl, rfl⟩, sbt⟩
end Go.Proofs.YtkdolgnpkjihpaaGreatDoor
