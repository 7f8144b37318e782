/-
  A part of what LawS rests on: the logic, walks and plain laws. No condition.
-/
import Derived.Test.YtkdolgnpkjihpaaGreatDoorJS1
import Derived.Scope
import Derived.Shelf.Strconv.Itoa3
namespace Go.Proofs.YtkdolgnpkjihpaaGreatDoor
open Go.RowKit
set_option linter.unusedVariables false
set_option linter.unusedSimpArgs false
theorem bd29_0 (a0 : Option Addr) (a0n a0c : Nat) (w : World) : (Instr.build 29 #[(0, .slice a0 a0n a0c)]).run Tryz.prog w = .ok (.agg #[.slice a0 a0n a0c, .slice none 0 0, .slice none 0 0]) w := by kernel_rfl
theorem bd29_z  (w : World) : (Instr.build 29 #[]).run Tryz.prog w = .ok (.agg #[.slice none 0 0, .slice none 0 0, .slice none 0 0]) w := by kernel_rfl
theorem bd92_1 (a0 : Bool) (w : World) : (Instr.build 92 #[(1, .bool a0)]).run Tryz.prog w = .ok (.agg #[.int .u64 0, .int .u64 0, .int .u64 0, .int .u64 0, .bool a0]) w := by kernel_rfl
theorem bd92_z  (w : World) : (Instr.build 92 #[]).run Tryz.prog w = .ok (.agg #[.int .u64 0, .int .u64 0, .int .u64 0, .int .u64 0, .bool false]) w := by kernel_rfl
theorem bs26_1_0 (a0 : Option Addr) (a0n a0c : Nat) (w : World) : (Instr.buildSlice 26 1 #[(0, .slice a0 a0n a0c)]).run Tryz.prog w = .ok (.slice (some ⟨w.heap.size, 0, none⟩) 1 1) (w.alloc (Cl [.slice a0 a0n a0c] 42)) := by kernel_rfl
theorem bs27_1_0 (a0 : Bool) (w : World) : (Instr.buildSlice 27 1 #[(0, .bool a0)]).run Tryz.prog w = .ok (.slice (some ⟨w.heap.size, 0, none⟩) 1 1) (w.alloc (Cl [.bool a0] 4)) := by kernel_rfl
theorem bs94_1_0 (a0 : Int) (a1 : Int) (a2 : Int) (a3 : Int) (a4 : Bool) (w : World) : (Instr.buildSlice 94 1 #[(0, .agg #[.int .u64 a0, .int .u64 a1, .int .u64 a2, .int .u64 a3, .bool a4])]).run Tryz.prog w = .ok (.slice (some ⟨w.heap.size, 0, none⟩) 1 1) (w.alloc (Cl [.int .u64 a0, .int .u64 a1, .int .u64 a2, .int .u64 a3, .bool a4] 92)) := by kernel_rfl
theorem fa29_1 (b o : Nat) (w : World) : (Instr.fieldAt 29 (.pointer (some ⟨b, o, none⟩)) 1).run Tryz.prog w = .ok (.pointer (some ⟨b, o + 1, none⟩)) w := by kernel_rfl
theorem fa29_2 (b o : Nat) (w : World) : (Instr.fieldAt 29 (.pointer (some ⟨b, o, none⟩)) 2).run Tryz.prog w = .ok (.pointer (some ⟨b, o + 2, none⟩)) w := by kernel_rfl
theorem fa92_1 (b o : Nat) (w : World) : (Instr.fieldAt 92 (.pointer (some ⟨b, o, none⟩)) 1).run Tryz.prog w = .ok (.pointer (some ⟨b, o + 4, none⟩)) w := by kernel_rfl
theorem loc1 {a : Nat × Obj} {X : List (Nat × Obj)} : LocL (a :: X) [a] X (fun M' => M' ++ X) := show LocL ([a] ++ X) _ _ _ from .h
theorem cs_row {w0 : World} {H : List (Nat × Obj)} {n b M : Nat} {r : List Nat} (h : r.length = M) (hc : Cells w0 H n 0 [.slice (some ⟨b, 0, none⟩) M M]) : Cells w0 H n 0 (encRow ⟨.blk b M [], r⟩) := by
  subst h; exact hc
theorem cs_b1 {w0 : World} {H : List (Nat × Obj)} {n : Nat} {a b : Bool} (h : b = a) (hc : Cells w0 H n 0 [.bool a]) : Cells w0 H n 0 (encB1 b) := by
  subst h; exact hc
def BuildS (w0 : World) (leastF : PM → PM) : Prop := ∀ (H : List (Nat × Obj)) (m : Rxm) (e : Re), Is m e → RxM w0 H m → e.lv ≤ 64 →
    FSpec Tryz.prog w0 12 #[.agg (encRx m).toArray] H (fun v H' => ∃ y : Sl × MX, (v = .tuple #[.agg #[slV y.1 (buildF leastF e).1.names.length, slV y.2.1 y.2.2.2.length, slV y.2.2.1 (buildF leastF e).1.acc.length], .int .i64 (buildF leastF e).2] ∧ SlOk y.1 (buildF leastF e).1.names.length 1 ∧ OutOk y.2 (buildF leastF e).1.next (buildF leastF e).1.acc) ∧ H' = mOut y.2 (buildF leastF e).1.acc (slH y.1 ((buildF leastF e).1.names.flatMap encS) 9 ++ H))
theorem build_s {w0 : World} {leastF : PM → PM} (hL : LeastS w0 leastF) : BuildS w0 leastF := by
  intro H m e hI hM hl
  obtain ⟨hx1, hx2, hx3, hx4⟩ := add_ok e t00_ok (by show 0 + e.lv ≤ 64; omega)
  have hxw := add_low e t00_ok (by show 0 + e.lv ≤ 64; omega) t00_low
  have hp : 2 ^ (t00.names.length + e.lv) ≤ 2 ^ 64 := Nat.pow_le_pow_right (by omega) (by show 0 + e.lv ≤ 64; omega)
  rw [← hx2] at hx3 hx4 hp
  have hln := letF_few hl
  refine fn_spec Tryz.func12 rfl Tryz.ntmps12 rfl (j_seq (j_region (e_ (eff_box (T rfl) cs_) ?_ rfl)))
  rintro _ _ ⟨n1, rfl, rfl⟩
  refine e_ (eff_alloc Tryz.zeroValue29 cs_) ?_ rfl
  rintro _ _ ⟨n2, rfl, rfl⟩
  refine y_ (yl_assign ev_c) (jl_nil (q_then (j_seq (j_region (y_ (yl_build .nil (bd83_z)) (e_ (eff_box (T rfl) cs_) ?_ rfl) rfl))))) rfl
  rintro _ _ ⟨n17, rfl, rfl⟩
  refine e_ (eff_alloc Tryz.zeroValue80 cs_) ?_ rfl
  rintro _ _ ⟨n4, rfl, rfl⟩
  first | refine jl_e (eff_sW (T rfl) (T rfl) Tryz.sizeOf80) rfl gd_n ?_ | refine jl_e (eff_s1 (T rfl) (T rfl) rfl Tryz.sizeOf80) rfl gd_n ?_ | refine jl_e (eff_s1r (T rfl) (T rfl) rfl Tryz.sizeOf80) rfl gd_n ?_
  rintro _ _ ⟨rfl, rfl⟩
  refine jl_nil (q_then (j_seq (j_region (y_ (yl_load (T rfl) Tryz.isAgg80 (by first | exact c_o)) ?_ rfl))))
  refine y_ (yl_loadA (T rfl) Tryz.isAgg24 Tryz.sizeOf24 rfl (by first | exact cs_o)) ?_ rfl
  refine e_ (eff_call (.cons (T rfl) (.cons (T rfl) .nil)) Tryz.call46 (spec_atF (trH n17 .nil .nil t00) loc_t0 (add_s hI _ n17 .nil .nil t00 (hM.mono sbt) rfl rfl t00_ok (by show 0 + e.lv ≤ 64; omega)))) ?_ rfl
  rintro _ _ ⟨⟨e1, e2⟩, ⟨rfl, ho1, ho2⟩, rfl⟩
  refine e_ (eff_alloc Tryz.zeroValue88 cs_) ?_ rfl
  rintro _ _ ⟨n5, rfl, rfl⟩
  first | refine jl_e (eff_sW (T rfl) (T rfl) Tryz.sizeOf88) rfl gd_n ?_
  rintro _ _ ⟨rfl, rfl⟩
  refine jl_nil (q_then (j_seq (j_region (y_ (yl_loadA (T rfl) Tryz.isAgg24 Tryz.sizeOf24 rfl (by first | exact cs_o)) ?_ rfl))))
  refine e_ (eff_call (.cons (T rfl) .nil) Tryz.call47 (letters_s hI hl _ (hM.mono sbt))) ?_ rfl
  rintro _ _ ⟨dn, ⟨rfl, hdn⟩, rfl⟩
  refine y_ (yl_build (.cons (T rfl) .nil) (bd29_0 _ _ _)) (e_ (eff_alloc Tryz.zeroValue29 cs_) ?_ rfl) rfl
  rintro _ _ ⟨n6, rfl, rfl⟩
  first | refine jl_e (eff_sW (T rfl) (T rfl) Tryz.sizeOf29) rfl gd_n ?_
  rintro _ _ ⟨rfl, rfl⟩
  refine jl_nil (q_then (j_seq (j_region (e_ eff_makeMap ?_ rfl))))
  rintro _ _ ⟨n24, rfl, rfl⟩
  refine y_ (yl_build .nil (bd92_z)) (e_ (eff_insert (l := []) (encV := encIv) s00 0 (keySt (V := Nat)) (T rfl) (T rfl) rfl ev_c rfl Tryz.runUnderlying93) ?_ rfl) rfl
  rintro _ _ ⟨rfl, rfl⟩
  refine y_ (yl_move (T rfl)) (y_ (yl_assign (T rfl)) (jl_nil (q_then (j_seq (j_region (y_ (yl_build .nil (bd92_z)) (e_ (eff_bslice (.cons (T rfl) .nil) (bs94_1_0 _ _ _ _ _)) ?_ rfl) rfl))))) rfl) rfl
  rintro _ _ ⟨n28, rfl, rfl⟩
  refine y_ (yl_assign (T rfl)) (jl_nil (q_then (j_keep [(2, _), (4, _), (5, _), (6, _), (7, _), (8, _)] ⟨at_f rfl, at_f rfl, at_f rfl, at_f rfl, at_f rfl, at_f rfl, trivial⟩ (j_seq (j_seq (j_region (y_ (yl_assign ev_c) (jl_nil (q_then (j_block ?_))) rfl))))))) rfl
  refine j_loopC (X := Nat × List St × List Row × List Bool × Sl × Sl × Sl) (V := fun ⟨k, l, rows, acc, d8, dx, da⟩ => [(9, .int .i64 (k : Nat)), (8, slV d8 l.length)]) (C := [(2, _), (4, _), (5, _), (6, _), (7, _)]) (G := fun ⟨k, l, rows, acc, d8, dx, da⟩ => rowsH rows ++ (slH d8 (l.flatMap encSt) 92 ++ ((n24, mapO encStK encIv (zipM l)) :: (n6, Cl [slV dn (letF e).length, slV dx rows.length, slV da acc.length] 29) :: (slH dx (rows.flatMap encRow) 42 ++ (slH da (acc.flatMap encB1) 4 ++ (slH dn ((letF e).flatMap encS) 9 ++ ((n5, Cl (encEn (addF e t00).2) 88) :: (n4, Cl [.pointer (some ⟨n17, 0, none⟩)] 80) :: (trH n17 e1 e2 (addF e t00).1 ++ (n2, Cl [.slice none 0 0, .slice none 0 0, .slice none 0 0] 29) :: (n1, Cl (encRx m) 24) :: H)))))))) (φ := fun ⟨k, l, rows, acc, d8, dx, da⟩ => RawInv (addF e t00).1 (addF e t00).2 (letF e) k l (rows.map Row.l) acc ∧ SlOk d8 l.length 5 ∧ SlOk dx rows.length 1 ∧ SlOk da acc.length 1 ∧ (∀ r ∈ rows, SlOk r.d r.l.length 1) ∧ rawGo (addF e t00).1 (addF e t00).2 (letF e) (201 - k) k l (rows.map Row.l) acc = rawF e) (μ := fun ⟨k, l, rows, acc, d8, dx, da⟩ => 201 - k) (x0 := (0, [s00], [], [], .blk n28 1 [], .nil, .nil)) ?_ ⟨at_f rfl, at_f rfl, at_f rfl, at_f rfl, at_f rfl, trivial⟩ ⟨(by first | exact at_f rfl | (refine at_e (at_f rfl) (vint ?_); omega) | (refine at_e (at_f rfl) ?_; simp; done) | (refine at_e (at_f rfl) ?_; exact by simp only [hrow, List.length_append, List.length_cons, List.length_nil])), (by first | exact at_f rfl | (refine at_e (at_f rfl) (vint ?_); omega) | (refine at_e (at_f rfl) ?_; simp; done) | (refine at_e (at_f rfl) ?_; exact by simp only [hrow, List.length_append, List.length_cons, List.length_nil])), trivial⟩ sb0 ?_
  · exact ⟨raw_start _ _ _, ⟨Nat.le_refl _, rfl⟩, rfl, rfl, (fun r hr => by cases hr), rfl⟩
  rintro ⟨k, l, rows, acc, d8, dx, da⟩ ⟨hinv, hd8, hox, hoa, hor, hgo⟩
  have hkl := hinv.kl
  have hfw := hinv.few
  have hrl0 := hinv.rl
  rw [List.length_map] at hrl0
  have hal0 := hinv.al
  refine j_seq (j_seq (j_region (y_ (yl_move (T rfl)) (y_ (yl_move (T rfl)) (y_ (yl_len (T rfl) Tryz.runUnderlying94) (y_ (yl_lss (T rfl) (T rfl)) (jl_nil (q_then ?_)) rfl) rfl) rfl) rfl)))
  first | refine j_cond_d (at_f rfl) (fun c32 => ?_) (fun c32 => ?_) | refine j_cond (at_f rfl) (fun c32 => ?_) (fun c32 => ?_)
  · refine j_skip (q_then (j_seq (j_block (j_seq (j_region (y_ (yl_fa0 (T rfl) fa88_0) ?_ rfl))))))
    refine y_ (yl_loadA (T rfl) Tryz.isAgg86 Tryz.sizeOf86 rfl (by first | exact cs_part (o := 0) (k := 4) (by repeat (first | exact fnd_h | refine fnd_t ?_ | refine fnd_a ?_)) | exact cs_o)) ?_ rfl
    refine e_ (eff_alloc Tryz.zeroValue86 cs_) ?_ rfl
    rintro _ _ ⟨n10, rfl, rfl⟩
    first | refine jl_e (eff_sW (T rfl) (T rfl) Tryz.sizeOf86) rfl gd_n ?_
    rintro _ _ ⟨rfl, rfl⟩
    refine jl_nil (q_then ?_)
    refine j_cutC (X := Unit) (V := fun _ => []) (C := [(2, _), (4, _), (5, _), (6, _), (7, _), (8, _), (9, _), (10, _)]) (G := fun _ => (n10, Cl (encSet (canAt (addF e t00).1 (addF e t00).2 (gd l k))) 86) :: (rowsH rows ++ (slH d8 (l.flatMap encSt) 92 ++ ((n24, mapO encStK encIv (zipM l)) :: (n6, Cl [slV dn (letF e).length, slV dx rows.length, slV da acc.length] 29) :: (slH dx (rows.flatMap encRow) 42 ++ (slH da (acc.flatMap encB1) 4 ++ (slH dn ((letF e).flatMap encS) 9 ++ ((n5, Cl (encEn (addF e t00).2) 88) :: (n4, Cl [.pointer (some ⟨n17, 0, none⟩)] 80) :: (trH n17 e1 e2 (addF e t00).1 ++ (n2, Cl [.slice none 0 0, .slice none 0 0, .slice none 0 0] 29) :: (n1, Cl (encRx m) 24) :: H))))))))) (φ := fun _ => True) ⟨at_f rfl, at_f rfl, at_f rfl, at_f rfl, at_f rfl, at_f rfl, at_f rfl, at_f rfl, trivial⟩ ?_ ?_
    · refine j_seq (j_region (y_ (yl_move (T rfl)) (y_ (yl_move (T rfl)) (y_ (yl_ixQ (T rfl) (T rfl) Tryz.runUnderlying94 Tryz.sizeOf92 (by omega) (by first | exact rfl | exact hd8.bas (by omega) | exact hd8i.bas (by omega))) ?_ rfl) rfl) rfl))
      refine y_ (yl_fa (T rfl) fa92_1) (y_ (yl_load (T rfl) Tryz.isAgg4 (by first | exact c_o | exact ((sl_arr (X := H) (enc := encSt) (sz := 5) (e := 92) (l := l) (fun _ => rfl) hd8).mono sbt).f (i := k) (by omega) rfl)) ?_ rfl) rfl
      refine jl_nil (q_then ?_)
      first | refine j_cond_d (at_f rfl) (fun c41 => ?_) (fun c41 => ?_) | refine j_cond (at_f rfl) (fun c41 => ?_) (fun c41 => ?_)
      · have hce : (canAt (addF e t00).1 (addF e t00).2 (gd l k)) = orK (addF e t00).1.fol (gd l k).1 256 := by unfold canAt; rw [if_pos c41]
        refine j_seq (j_region (y_ (yl_build .nil (bd86_z)) ?_ rfl))
        first | refine jl_e (eff_sW (T rfl) (T rfl) Tryz.sizeOf86) rfl gd_n ?_
        rintro _ _ ⟨rfl, rfl⟩
        refine jl_nil (q_then (j_region (y_ (yl_move (T rfl)) (y_ (yl_move (T rfl)) (y_ (yl_ixQ (T rfl) (T rfl) Tryz.runUnderlying94 Tryz.sizeOf92 (by omega) (by first | exact rfl | exact hd8.bas (by omega) | exact hd8i.bas (by omega))) ?_ rfl) rfl) rfl)))
        refine y_ (yl_fa0 (T rfl) fa92_0) (y_ (yl_loadA (T rfl) Tryz.isAgg86 Tryz.sizeOf86 rfl (by first | exact cells_take (k := 4) (((sl_arr (X := H) (enc := encSt) (sz := 5) (e := 92) (l := l) (fun _ => rfl) hd8).mono sbt).cs (i := k) (by omega)) | exact cs_o)) ?_ rfl) rfl
        refine y_ (yl_makeFunc (.cons (T rfl) (.cons (T rfl) .nil))) ?_ rfl
        refine e_ (eff_call (.cons (T rfl) (.cons (T rfl) .nil)) Tryz.call48 (spec_atF [(n10, Cl (encSet 0) 86)] loc1 (b1E_s n17 n4 n10 e1 e2 (addF e t00).1 (gd l k).1 hx1 hxw (hinv.low _ (gd_mem (by omega))) ((tr_r (R := H) ho1 ho2).mono sbt) (by repeat (first | exact fnd_h | refine fnd_t ?_ | refine fnd_a ?_))))) ?_ rfl
        rintro _ _ ⟨_, _, rfl⟩
        refine jl_nil (q_cutC (()) ?_ trivial ⟨at_f rfl, at_f rfl, at_f rfl, at_f rfl, at_f rfl, at_f rfl, at_f rfl, at_f rfl, trivial⟩ (by simp only [hce]; exact sbt))
        trivial
      · have hce : (canAt (addF e t00).1 (addF e t00).2 (gd l k)) = (addF e t00).2.first := by unfold canAt; rw [if_neg (by rw [c41]; decide)]
        refine j_skip (q_cutC (()) ?_ trivial ⟨at_f rfl, at_f rfl, at_f rfl, at_f rfl, at_f rfl, at_f rfl, at_f rfl, at_f rfl, trivial⟩ (by simp only [hce]; exact sbt))
        trivial
    rintro _ _
    have hcan := canAt_lt hx1 hxw hx3 (hinv.low _ (gd_mem (show k < l.length by omega)))
    refine j_seq (j_region (y_ (yl_fa0 (T rfl) fa29_0) (y_ (yl_load (T rfl) Tryz.isAgg25 (by first | exact c_o)) ?_ rfl) rfl))
    refine y_ (yl_len (T rfl) Tryz.runUnderlying25) (y_ (yl_add (T rfl) ev_c (by omega)) ?_ rfl) rfl
    refine e_ (eff_makeSlice (by' := 8) (k := ((letF e).length + 1)) (T rfl) Tryz.runUnderlying42 Tryz.sizeOf3 Tryz.typeInfo3 rfl Tryz.zeroValue3 rfl (by omega) (by omega)) ?_ rfl
    rintro _ _ ⟨n54, rfl, rfl⟩
    refine y_ (yl_assign (T rfl)) (jl_nil (q_then (j_seq (j_seq (j_region (y_ (yl_move (T rfl)) (y_ (yl_len (T rfl) Tryz.runUnderlying42) (y_ (yl_move ev_c) (jl_nil (q_then (j_block ?_))) rfl) rfl) rfl)))))) rfl
    refine j_loopC (X := Nat × Sl) (V := fun ⟨a, d8⟩ => [(57, .int .i64 (a : Nat)), (8, slV d8 (rowF (addF e t00).1 (letF e) (canAt (addF e t00).1 (addF e t00).2 (gd l k)) l a).1.length)]) (C := [(2, _), (4, _), (5, _), (6, _), (7, _), (9, _), (10, _), (11, _), (56, _)]) (G := fun ⟨a, d8⟩ => (n54, Cl ((rowF (addF e t00).1 (letF e) (canAt (addF e t00).1 (addF e t00).2 (gd l k)) l a).2.flatMap encU ++ List.replicate (((letF e).length + 1) - (rowF (addF e t00).1 (letF e) (canAt (addF e t00).1 (addF e t00).2 (gd l k)) l a).2.length) (.int .i64 0)) 3) :: (n10, Cl (encSet (canAt (addF e t00).1 (addF e t00).2 (gd l k))) 86) :: (rowsH rows ++ (slH d8 ((rowF (addF e t00).1 (letF e) (canAt (addF e t00).1 (addF e t00).2 (gd l k)) l a).1.flatMap encSt) 92 ++ ((n24, mapO encStK encIv (zipM (rowF (addF e t00).1 (letF e) (canAt (addF e t00).1 (addF e t00).2 (gd l k)) l a).1)) :: (n6, Cl [slV dn (letF e).length, slV dx rows.length, slV da acc.length] 29) :: (slH dx (rows.flatMap encRow) 42 ++ (slH da (acc.flatMap encB1) 4 ++ (slH dn ((letF e).flatMap encS) 9 ++ ((n5, Cl (encEn (addF e t00).2) 88) :: (n4, Cl [.pointer (some ⟨n17, 0, none⟩)] 80) :: (trH n17 e1 e2 (addF e t00).1 ++ (n2, Cl [.slice none 0 0, .slice none 0 0, .slice none 0 0] 29) :: (n1, Cl (encRx m) 24) :: H))))))))) (φ := fun ⟨a, d8⟩ => a ≤ ((letF e).length + 1) ∧ SlOk d8 (rowF (addF e t00).1 (letF e) (canAt (addF e t00).1 (addF e t00).2 (gd l k)) l a).1.length 5) (μ := fun ⟨a, d8⟩ => ((letF e).length + 1) - a) (x0 := (0, d8)) ?_ ⟨at_f rfl, at_f rfl, at_f rfl, at_f rfl, at_f rfl, at_f rfl, at_f rfl, at_f rfl, at_f rfl, trivial⟩ ⟨(by first | exact at_f rfl | (refine at_e (at_f rfl) (vint ?_); omega) | (refine at_e (at_f rfl) ?_; simp; done) | (refine at_e (at_f rfl) ?_; exact by simp only [hrow, List.length_append, List.length_cons, List.length_nil])), (by first | exact at_f rfl | (refine at_e (at_f rfl) (vint ?_); omega) | (refine at_e (at_f rfl) ?_; simp; done) | (refine at_e (at_f rfl) ?_; exact by simp only [hrow, List.length_append, List.length_cons, List.length_nil])), trivial⟩ sb0 ?_
    · exact ⟨Nat.zero_le _, hd8⟩
    rintro ⟨a, d8⟩ ⟨ha, hd8i⟩
    have hrl := rowF_len (addF e t00).1 (letF e) (canAt (addF e t00).1 (addF e t00).2 (gd l k)) l a
    refine j_seq (j_region (y_ (yl_lss (T rfl) (T rfl)) (jl_nil (q_then (j_seq ?_))) rfl))
    first | refine j_cond_d (at_f rfl) (fun c58 => ?_) (fun c58 => ?_) | refine j_cond (at_f rfl) (fun c58 => ?_) (fun c58 => ?_)
    · have ha2 : a < ((letF e).length + 1) := by omega
      refine j_skip (q_then (j_seq (j_block (j_seq (j_region (y_ (yl_move (T rfl)) (e_ (eff_alloc Tryz.zeroValue3 cs_) ?_ rfl) rfl))))))
      rintro _ _ ⟨n12, rfl, rfl⟩
      first | refine jl_e (eff_sW (T rfl) (T rfl) Tryz.sizeOf3) rfl gd_n ?_ | refine jl_e (eff_s1 (T rfl) (T rfl) rfl Tryz.sizeOf3) rfl gd_n ?_ | refine jl_e (eff_s1r (T rfl) (T rfl) rfl Tryz.sizeOf3) rfl gd_n ?_
      rintro _ _ ⟨rfl, rfl⟩
      refine jl_nil (q_then (j_seq (j_region (y_ (yl_build (.cons ev_c .nil) (bd92_1 _)) (e_ (eff_alloc Tryz.zeroValue92 cs_) ?_ rfl) rfl))))
      rintro _ _ ⟨n13, rfl, rfl⟩
      first | refine jl_e (eff_sW (T rfl) (T rfl) Tryz.sizeOf92) rfl gd_n ?_
      rintro _ _ ⟨rfl, rfl⟩
      refine jl_nil (q_then (j_seq (j_region (y_ (yl_loadA (T rfl) Tryz.isAgg86 Tryz.sizeOf86 rfl (by first | exact cs_o)) ?_ rfl))))
      refine y_ (yl_makeFunc (.cons (T rfl) (.cons (T rfl) (.cons (T rfl) (.cons (T rfl) .nil))))) ?_ rfl
      refine e_ (eff_call (.cons (T rfl) (.cons (T rfl) .nil)) Tryz.call48 (spec_atF [(n13, Cl (encSt (0, true)) 92)] loc1 (b2E_s n17 n4 n6 n12 n13 e1 e2 dn (slV dx rows.length) (slV da acc.length) (addF e t00).1 (letF e) (canAt (addF e t00).1 (addF e t00).2 (gd l k)) a hx1 hcan ((tr_r (R := H) ho1 ho2).mono sbt) (by repeat (first | exact fnd_h | refine fnd_t ?_ | refine fnd_a ?_)) (by repeat (first | exact fnd_h | refine fnd_t ?_ | refine fnd_a ?_)) (by repeat (first | exact fnd_h | refine fnd_t ?_ | refine fnd_a ?_)) ((sl_arr (X := H) (enc := encS) (sz := 1) (e := 9) (fun _ => rfl) hdn).mono sbt)))) ?_ rfl
      rintro _ _ ⟨_, _, rfl⟩
      refine jl_nil (q_then ?_)
      refine j_cutC (X := Sl) (V := fun g8 => [(8, slV g8 (rowF (addF e t00).1 (letF e) (canAt (addF e t00).1 (addF e t00).2 (gd l k)) l (a + 1)).1.length)]) (C := [(2, _), (4, _), (5, _), (6, _), (7, _), (9, _), (10, _), (11, _), (12, _), (13, _), (56, _), (57, _)]) (G := fun g8 => (n13, Cl (encSt (stepL (addF e t00).1 (letF e) (canAt (addF e t00).1 (addF e t00).2 (gd l k)) a 256, true)) 92) :: (n12, Cl [.int .i64 (a : Int)] 3) :: (n54, Cl ((rowF (addF e t00).1 (letF e) (canAt (addF e t00).1 (addF e t00).2 (gd l k)) l a).2.flatMap encU ++ List.replicate (((letF e).length + 1) - (rowF (addF e t00).1 (letF e) (canAt (addF e t00).1 (addF e t00).2 (gd l k)) l a).2.length) (.int .i64 0)) 3) :: (n10, Cl (encSet (canAt (addF e t00).1 (addF e t00).2 (gd l k))) 86) :: (rowsH rows ++ (slH g8 ((rowF (addF e t00).1 (letF e) (canAt (addF e t00).1 (addF e t00).2 (gd l k)) l (a + 1)).1.flatMap encSt) 92 ++ ((n24, mapO encStK encIv (zipM (rowF (addF e t00).1 (letF e) (canAt (addF e t00).1 (addF e t00).2 (gd l k)) l (a + 1)).1)) :: (n6, Cl [slV dn (letF e).length, slV dx rows.length, slV da acc.length] 29) :: (slH dx (rows.flatMap encRow) 42 ++ (slH da (acc.flatMap encB1) 4 ++ (slH dn ((letF e).flatMap encS) 9 ++ ((n5, Cl (encEn (addF e t00).2) 88) :: (n4, Cl [.pointer (some ⟨n17, 0, none⟩)] 80) :: (trH n17 e1 e2 (addF e t00).1 ++ (n2, Cl [.slice none 0 0, .slice none 0 0, .slice none 0 0] 29) :: (n1, Cl (encRx m) 24) :: H))))))))) (φ := fun g8 => SlOk g8 (rowF (addF e t00).1 (letF e) (canAt (addF e t00).1 (addF e t00).2 (gd l k)) l (a + 1)).1.length 5) ⟨at_f rfl, at_f rfl, at_f rfl, at_f rfl, at_f rfl, at_f rfl, at_f rfl, at_f rfl, at_f rfl, at_f rfl, at_f rfl, at_f rfl, trivial⟩ ?_ ?_
      · refine j_seq (j_region (y_ (yl_move (T rfl)) (y_ (yl_loadA (T rfl) Tryz.isAgg92 Tryz.sizeOf92 rfl (by first | exact cs_o)) ?_ rfl) rfl))
        refine y_ (yl_lookSt (l := (rowF (addF e t00).1 (letF e) (canAt (addF e t00).1 (addF e t00).2 (gd l k)) l a).1) (s := (stepL (addF e t00).1 (letF e) (canAt (addF e t00).1 (addF e t00).2 (gd l k)) a 256, true)) (T rfl) (T rfl) rfl (by repeat (first | exact fnd_h | refine fnd_t ?_ | refine fnd_a ?_))) ?_ rfl
        refine y_ (yl_move (T rfl)) (y_ (yl_extract (T rfl) rfl) (y_ (yl_extract (T rfl) rfl) (y_ (yl_assign (T rfl)) (y_ (yl_assign (T rfl)) (jl_nil (q_then (j_keep [(2, _), (4, _), (5, _), (6, _), (7, _), (8, _), (9, _), (10, _), (11, _), (12, _), (13, _), (15, _), (56, _), (57, _)] ⟨at_f rfl, at_f rfl, at_f rfl, at_f rfl, at_f rfl, at_f rfl, at_f rfl, at_f rfl, at_f rfl, at_f rfl, at_f rfl, at_f rfl, at_f rfl, at_f rfl, trivial⟩ (j_seq (j_region (y_ (yl_move (T rfl)) ?_ rfl)))))) rfl) rfl) rfl) rfl) rfl
        first | refine jl_y (yl_not_d (T rfl)) rfl gd_n ?_ | refine jl_y (yl_not (T rfl)) rfl gd_n ?_
        refine jl_nil (q_then ?_)
        first | refine j_cond_d (at_f rfl) (fun c71 => ?_) (fun c71 => ?_) | refine j_cond (at_f rfl) (fun c71 => ?_) (fun c71 => ?_)
        · have hrow : (rowF (addF e t00).1 (letF e) (canAt (addF e t00).1 (addF e t00).2 (gd l k)) l (a + 1)).1 = (rowF (addF e t00).1 (letF e) (canAt (addF e t00).1 (addF e t00).2 (gd l k)) l a).1 ++ [(stepL (addF e t00).1 (letF e) (canAt (addF e t00).1 (addF e t00).2 (gd l k)) a 256, true)] := by rw [rowF_succ]; unfold addSt; rw [if_neg c71]
          refine j_seq (j_region (y_ (yl_move (T rfl)) (y_ (yl_loadA (T rfl) Tryz.isAgg92 Tryz.sizeOf92 rfl (by first | exact cs_o)) ?_ rfl) rfl))
          refine y_ (yl_move (T rfl)) (y_ (yl_len (T rfl) Tryz.runUnderlying94) (e_ (eff_mapUpdate (l := zipM (rowF (addF e t00).1 (letF e) (canAt (addF e t00).1 (addF e t00).2 (gd l k)) l a).1) (encV := encIv) (stepL (addF e t00).1 (letF e) (canAt (addF e t00).1 (addF e t00).2 (gd l k)) a 256, true) (rowF (addF e t00).1 (letF e) (canAt (addF e t00).1 (addF e t00).2 (gd l k)) l a).1.length (keySt (V := Nat)) (T rfl) (T rfl) rfl (T rfl) rfl Tryz.runUnderlying93) ?_ rfl) rfl) rfl
          rintro _ _ ⟨rfl, rfl⟩
          rw [upsert_zipM c71]
          refine jl_nil (q_then (j_region (y_ (yl_move (T rfl)) (y_ (yl_loadA (T rfl) Tryz.isAgg92 Tryz.sizeOf92 rfl (by first | exact cs_o)) ?_ rfl) rfl)))
          refine e_ (eff_bslice (.cons (T rfl) .nil) (bs94_1_0 _ _ _ _ _)) ?_ rfl
          rintro _ _ ⟨n78, rfl, rfl⟩
          refine e_ (eff_app1_at ((stepL (addF e t00).1 (letF e) (canAt (addF e t00).1 (addF e t00).2 (gd l k)) a 256, true)) (by' := 40) (by repeat (first | exact LocL.h | apply LocL.t | apply LocL.a)) (T rfl) (T rfl) Tryz.runUnderlying94 Tryz.runUnderlying94 Tryz.sizeOf92 Tryz.typeInfo92 rfl Tryz.zeroValue92 rfl (fun _ => rfl) rfl hd8i (by decide) (by omega)) ?_ rfl
          rintro _ _ ⟨d8', rfl, hok8, rfl⟩
          refine y_ (yl_assign (T rfl)) (jl_nil ?_) rfl
          refine q_cutC (d8') ?_ ⟨(by first | exact at_f rfl | (refine at_e (at_f rfl) (vint ?_); omega) | (refine at_e (at_f rfl) ?_; simp; done) | (refine at_e (at_f rfl) ?_; exact by simp only [hrow, List.length_append, List.length_cons, List.length_nil])), trivial⟩ ⟨at_f rfl, at_f rfl, at_f rfl, at_f rfl, at_f rfl, at_f rfl, at_f rfl, at_f rfl, at_f rfl, at_f rfl, at_f rfl, at_f rfl, trivial⟩ (by simp only [hrow]; exact sbt)
          first | (rw [hrow]; simpa using hok8) | (rw [hrow]; exact hd8i)
        · have hrow : (rowF (addF e t00).1 (letF e) (canAt (addF e t00).1 (addF e t00).2 (gd l k)) l (a + 1)).1 = (rowF (addF e t00).1 (letF e) (canAt (addF e t00).1 (addF e t00).2 (gd l k)) l a).1 := by rw [rowF_succ]; unfold addSt; rw [if_pos (Classical.not_not.1 c71)]
          refine j_skip ?_
          refine q_cutC (d8) ?_ ⟨(by first | exact at_f rfl | (refine at_e (at_f rfl) (vint ?_); omega) | (refine at_e (at_f rfl) ?_; simp; done) | (refine at_e (at_f rfl) ?_; exact by simp only [hrow, List.length_append, List.length_cons, List.length_nil])), trivial⟩ ⟨at_f rfl, at_f rfl, at_f rfl, at_f rfl, at_f rfl, at_f rfl, at_f rfl, at_f rfl, at_f rfl, at_f rfl, at_f rfl, at_f rfl, trivial⟩ (by simp only [hrow]; exact sbt)
          first | (rw [hrow]; simpa using hok8) | (rw [hrow]; exact hd8i)
      rintro g8 hg8
      have hmem : (stepL (addF e t00).1 (letF e) (canAt (addF e t00).1 (addF e t00).2 (gd l k)) a 256, true) ∈ (rowF (addF e t00).1 (letF e) (canAt (addF e t00).1 (addF e t00).2 (gd l k)) l (a + 1)).1 := by rw [rowF_succ]; exact mem_addSt _ _
      refine j_any 6 [(0, true), (1, true), (2, true), (3, true), (4, true), (5, true)] _ mixd (by kernel_rfl) sb0 ?_
      refine o_y rfl (yl_move (T rfl)) (o_y rfl (yl_load (T rfl) Tryz.isAgg3 (by first | exact c_o)) ?_ rfl gd_n) rfl gd_n
      refine o_y rfl (yl_move (T rfl)) (o_y rfl (yl_loadA (T rfl) Tryz.isAgg92 Tryz.sizeOf92 rfl (by first | exact cs_o)) ?_ rfl gd_n) rfl gd_n
      refine o_y rfl (yl_lookSt1 (l := (rowF (addF e t00).1 (letF e) (canAt (addF e t00).1 (addF e t00).2 (gd l k)) l (a + 1)).1) (s := (stepL (addF e t00).1 (letF e) (canAt (addF e t00).1 (addF e t00).2 (gd l k)) a 256, true)) hmem (T rfl) (T rfl) rfl (by repeat (first | exact fnd_h | refine fnd_t ?_ | refine fnd_a ?_))) ?_ rfl gd_n
      refine o_y rfl (yl_ixQ (T rfl) (T rfl) Tryz.runUnderlying42 Tryz.sizeOf3 (by omega) (by first | exact rfl | exact hd8.bas (by omega) | exact hd8i.bas (by omega))) ?_ rfl gd_n
      refine jo_nil rfl (e_ (eff_sRow (m := ((letF e).length + 1)) (v := idx (rowF (addF e t00).1 (letF e) (canAt (addF e t00).1 (addF e t00).2 (gd l k)) l (a + 1)).1 (stepL (addF e t00).1 (letF e) (canAt (addF e t00).1 (addF e t00).2 (gd l k)) a 256, true)) (rowF (addF e t00).1 (letF e) (canAt (addF e t00).1 (addF e t00).2 (gd l k)) l a).2 hrl.1.symm (T rfl) (T rfl) Tryz.sizeOf3 (by omega) (by (repeat (first | exact Upd.h | apply Upd.t | apply upd_a)); done)) ?_ rfl)
      rintro _ _ ⟨rfl, rfl⟩
      refine jl_nil (q_block (q_then (j_region (y_ (yl_add (T rfl) ev_c (by omega)) ?_ rfl))))
      refine y_ (yl_move (T rfl)) (jl_nil ?_) rfl
      have hrow2 : (rowF (addF e t00).1 (letF e) (canAt (addF e t00).1 (addF e t00).2 (gd l k)) l (a + 1)).2 = (rowF (addF e t00).1 (letF e) (canAt (addF e t00).1 (addF e t00).2 (gd l k)) l a).2 ++ [idx (rowF (addF e t00).1 (letF e) (canAt (addF e t00).1 (addF e t00).2 (gd l k)) l (a + 1)).1 (stepL (addF e t00).1 (letF e) (canAt (addF e t00).1 (addF e t00).2 (gd l k)) a 256, true)] := by rw [rowF_succ]; simp only [idx_addSt]
      refine q_loopC ((a + 1, g8)) ?_ ?_ ⟨(by first | exact at_f rfl | (refine at_e (at_f rfl) (vint ?_); omega) | (refine at_e (at_f rfl) ?_; simp; done) | (refine at_e (at_f rfl) ?_; exact by simp only [hrow, List.length_append, List.length_cons, List.length_nil])), (by first | exact at_f rfl | (refine at_e (at_f rfl) (vint ?_); omega) | (refine at_e (at_f rfl) ?_; simp; done) | (refine at_e (at_f rfl) ?_; exact by simp only [hrow, List.length_append, List.length_cons, List.length_nil])), trivial⟩ ⟨at_f rfl, at_f rfl, at_f rfl, at_f rfl, at_f rfl, at_f rfl, at_f rfl, at_f rfl, at_f rfl, trivial⟩ ?_
      · exact ⟨by omega, hg8⟩
      · first | omega | (simp only []; omega)
      · simp only [hrow2, List.length_append, List.length_cons, List.length_nil, Nat.zero_add]; exact sbt
    · have ha2 : a = ((letF e).length + 1) := by omega
      subst ha2
      have hrm := hrl.1
      have hgk := rowF_get (addF e t00).1 (letF e) (canAt (addF e t00).1 (addF e t00).2 (gd l k)) l (k := k) (by omega) ((letF e).length + 1)
      have hlk : (gd (rowF (addF e t00).1 (letF e) (canAt (addF e t00).1 (addF e t00).2 (gd l k)) l ((letF e).length + 1)).1 k).1 < 2 ^ (addF e t00).1.names.length := by rw [hgk]; exact hinv.low _ (gd_mem (by omega))
      refine j_exit (q_then_exit (q_loop_exit (q_block_hit (q_then (j_seq (j_seq (j_region (y_ (yl_move (T rfl)) (y_ (yl_len (T rfl) Tryz.runUnderlying94) (y_ (yl_gtr (T rfl) ev_c) (jl_nil (q_then ?_)) rfl) rfl) rfl))))))))
      first | refine j_cond_d (at_f rfl) (fun c89 => ?_) (fun c89 => ?_) | refine j_cond (at_f rfl) (fun c89 => ?_) (fun c89 => ?_)
      · have hnone : rawF e = none := by rw [← hgo, show 201 - k = (200 - k) + 1 by have := hinv.kl; have := hinv.few; omega, rawGo_succ, if_pos (by omega), if_pos (by omega)]
        refine j_seq (j_region (y_ (yl_build .nil (bd29_z)) ?_ rfl))
        first | refine jl_e (eff_sW (T rfl) (T rfl) Tryz.sizeOf29) rfl gd_n ?_
        rintro _ _ ⟨rfl, rfl⟩
        refine y_ (yl_assign ev_c) (jl_nil (q_then (j_ret (q_then_ret (q_block_ret (q_then_ret (q_loop_ret (q_block_ret (q_then_ret (q_ret rfl (.cellA (at_f rfl) Tryz.isAgg29 Tryz.sizeOf29 rfl (by first | exact cs_o) (.tmp (at_f rfl) .nil)) ?_)))))))))) rfl
        have hb : buildF leastF e = (⟨[], [], []⟩, 2) := by unfold buildF; rw [hnone]
        rw [hb]
        exact ⟨_, ⟨(.nil, .nil, .nil, []), ⟨rfl, rfl, rfl, rfl, rfl, (fun r hr => by cases hr)⟩, rfl⟩, sbt⟩
      · refine j_skip (q_then (j_seq (j_region (y_ (yl_fa (T rfl) fa29_1) (y_ (yl_load (T rfl) Tryz.isAgg26 (by first | exact c_o)) ?_ rfl) rfl))))
        refine y_ (yl_move (T rfl)) (e_ (eff_bslice (.cons (T rfl) .nil) (bs26_1_0 _ _ _)) ?_ rfl) rfl
        rintro _ _ ⟨n94, rfl, rfl⟩
        refine e_ (eff_app1_at ((⟨.blk n54 ((letF e).length + 1) [], (rowF (addF e t00).1 (letF e) (canAt (addF e t00).1 (addF e t00).2 (gd l k)) l ((letF e).length + 1)).2⟩ : Row)) (by' := 24) (by repeat (first | exact LocL.h | apply LocL.t | apply LocL.a)) (T rfl) (T rfl) Tryz.runUnderlying26 Tryz.runUnderlying26 Tryz.sizeOf42 Tryz.typeInfo42 rfl Tryz.zeroValue42 rfl (fun _ => rfl) rfl hox (by decide) (by omega) (hn := cs_row hrm cs_o)) ?_ rfl
        rintro _ _ ⟨dx', rfl, hokx, rfl⟩
        refine y_ (yl_fa (T rfl) fa29_1) ?_ rfl
        first | refine jl_e (eff_sW (T rfl) (T rfl) Tryz.sizeOf26) rfl gd_n ?_ | refine jl_e (eff_s1 (T rfl) (T rfl) rfl Tryz.sizeOf26) rfl gd_n ?_ | refine jl_e (eff_s1r (T rfl) (T rfl) rfl Tryz.sizeOf26) rfl gd_n ?_
        rintro _ _ ⟨rfl, rfl⟩
        refine jl_nil (q_then (j_any 19 [(0, true), (1, true), (2, true), (3, true), (4, true), (5, true), (6, true), (7, true), (8, true), (9, true), (10, true), (11, true), (12, true), (13, true), (14, true), (15, true), (16, true), (17, true), (18, false)] _ mixd (by kernel_rfl) (by exact sbt) ?_))
        refine o_y rfl (yl_fa (T rfl) fa29_2) (o_y rfl (yl_load (T rfl) Tryz.isAgg27 (by first | exact c_o)) ?_ rfl gd_n) rfl gd_n
        refine o_y rfl (yl_move (T rfl)) (o_y rfl (yl_move (T rfl)) (o_y rfl (yl_ixQ (T rfl) (T rfl) Tryz.runUnderlying94 Tryz.sizeOf92 (by omega) (by first | exact rfl | exact hd8.bas (by omega) | exact hd8i.bas (by omega))) ?_ rfl gd_n) rfl gd_n) rfl gd_n
        refine o_y rfl (yl_fa0 (T rfl) fa92_0) (o_y rfl (yl_loadA (T rfl) Tryz.isAgg86 Tryz.sizeOf86 rfl (by first | exact cells_take (k := 4) (((sl_arr (X := H) (enc := encSt) (sz := 5) (e := 92) (l := (rowF (addF e t00).1 (letF e) (canAt (addF e t00).1 (addF e t00).2 (gd l k)) l ((letF e).length + 1)).1) (fun _ => rfl) hd8i).mono sbt).cs (i := k) (by omega)) | exact cs_o)) ?_ rfl gd_n) rfl gd_n
        refine o_y rfl (yl_fa (T rfl) fa88_1) ?_ rfl gd_n
        refine o_y rfl (yl_loadA (T rfl) Tryz.isAgg86 Tryz.sizeOf86 rfl (by first | exact cs_part (o := 4) (k := 4) (by repeat (first | exact fnd_h | refine fnd_t ?_ | refine fnd_a ?_)) | exact cs_o)) ?_ rfl gd_n
        refine o_y rfl (yl_call (.cons (T rfl) (.cons (T rfl) .nil)) Tryz.call53 (fun H' hs => meets_s _ (Nat.lt_of_lt_of_le hlk hp) _ (by omega))) ?_ rfl gd_n
        refine o_y rfl (yl_move (T rfl)) ?_ rfl gd_n
        first | refine o_if_d (s := 107) (at_f rfl) (fun c107 => ?_) (fun c107 => ?_) | refine o_if (s := 107) (at_f rfl) (fun c107 => ?_) (fun c107 => ?_)
        · have hacc : accAt (addF e t00).2 k (gd l k) = true := by unfold accAt; rw [← hgk, decide_eq_true c107]; rfl
          refine o_n rfl (o_n rfl (o_n rfl (o_n rfl (o_n rfl (o_n rfl (o_y rfl (yl_pick_t (T rfl) ev_c) (o_e rfl (eff_bslice (.cons (T rfl) .nil) (bs27_1_0 _)) ?_ rfl gd_n) rfl gd_n) rfl (nw_tf rfl rfl (at_f rfl))) rfl (nw_u rfl rfl (at_f rfl))) rfl (nw_u rfl rfl (at_f rfl))) rfl (nw_tf rfl rfl (at_f rfl))) rfl (nw_tf rfl rfl (at_f rfl))) rfl (nw_tf rfl rfl (at_f rfl))
          rintro _ _ ⟨n115, rfl, rfl⟩
          refine ⟨sbt, (jo_nil rfl (e_ (eff_app1_at (accAt (addF e t00).2 k (gd l k)) (by' := 1) (by repeat (first | exact LocL.h | apply LocL.t | apply LocL.a)) (T rfl) (T rfl) Tryz.runUnderlying27 Tryz.runUnderlying27 Tryz.sizeOf4 Tryz.typeInfo4 rfl Tryz.zeroValue4 rfl (fun _ => rfl) rfl hoa (by decide) (by omega) (hn := cs_b1 hacc cs_o)) ?_ rfl))⟩
          rintro _ _ ⟨da', rfl, hoka, rfl⟩
          refine y_ (yl_fa (T rfl) fa29_2) ?_ rfl
          first | refine jl_e (eff_sW (T rfl) (T rfl) Tryz.sizeOf27) rfl gd_n ?_ | refine jl_e (eff_s1 (T rfl) (T rfl) rfl Tryz.sizeOf27) rfl gd_n ?_ | refine jl_e (eff_s1r (T rfl) (T rfl) rfl Tryz.sizeOf27) rfl gd_n ?_
          rintro _ _ ⟨rfl, rfl⟩
          refine jl_nil (q_block (q_then (j_keep [(2, _), (4, _), (5, _), (6, _), (7, _), (8, _), (9, _)] ⟨at_f rfl, at_f rfl, at_f rfl, at_f rfl, at_f rfl, at_f rfl, at_f rfl, trivial⟩ (j_region (y_ (yl_move (T rfl)) (y_ (yl_add (T rfl) ev_c (by omega)) ?_ rfl) rfl)))))
          refine y_ (yl_assign (T rfl)) (jl_nil ?_) rfl
          refine q_loopC ((k + 1, (rowF (addF e t00).1 (letF e) (canAt (addF e t00).1 (addF e t00).2 (gd l k)) l ((letF e).length + 1)).1, rows ++ [(⟨.blk n54 ((letF e).length + 1) [], (rowF (addF e t00).1 (letF e) (canAt (addF e t00).1 (addF e t00).2 (gd l k)) l ((letF e).length + 1)).2⟩ : Row)], acc ++ [accAt (addF e t00).2 k (gd l k)], d8, dx', da')) ?_ ?_ ⟨(by first | exact at_f rfl | (refine at_e (at_f rfl) (vint ?_); omega) | (refine at_e (at_f rfl) ?_; simp; done) | (refine at_e (at_f rfl) ?_; exact by simp only [hrow, List.length_append, List.length_cons, List.length_nil])), (by first | exact at_f rfl | (refine at_e (at_f rfl) (vint ?_); omega) | (refine at_e (at_f rfl) ?_; simp; done) | (refine at_e (at_f rfl) ?_; exact by simp only [hrow, List.length_append, List.length_cons, List.length_nil])), trivial⟩ ⟨at_f rfl, at_f rfl, at_f rfl, at_f rfl, at_f rfl, trivial⟩ ?_
          · have hnx := hinv.next hx1 hxw hx3 (by omega) (by omega)
            refine ⟨by rw [List.map_append]; exact hnx, hd8i, by simpa using hokx, by simpa using hoka, ?_, ?_⟩
            · intro r hr
              simp only [List.mem_append, List.mem_cons, List.not_mem_nil, or_false] at hr
              rcases hr with hr | rfl
              · exact hor r hr
              · exact ⟨Nat.le_of_eq hrm, by show 0 = (_ - _) * 1; rw [hrm]; omega⟩
            · rw [← hgo, List.map_append, show 201 - k = (200 - k) + 1 by omega, rawGo_succ, if_pos (show k < l.length by omega), if_neg (show ¬ 200 < (rowF (addF e t00).1 (letF e) (canAt (addF e t00).1 (addF e t00).2 (gd l k)) l ((letF e).length + 1)).1.length by omega), show 201 - (k + 1) = 200 - k by omega]; rfl
          · show 201 - (k + 1) < 201 - k; omega
          · simp only [rowsH_app, slH, hrm, Nat.sub_self, List.replicate_zero, List.length_append, List.length_cons, List.length_nil, Nat.zero_add, List.cons_append, List.nil_append]; exact sbt
        · refine o_y rfl (yl_move (T rfl)) (o_y rfl (yl_eql (T rfl) ev_c) (o_y rfl (yl_move (T rfl)) ?_ rfl (gd_y rfl rfl (at_f rfl))) rfl (gd_y rfl rfl (at_f rfl))) rfl (gd_y rfl rfl (at_f rfl))
          first | refine o_if_d (s := 110) (at_f rfl) (fun c110 => ?_) (fun c110 => ?_) | refine o_if (s := 110) (at_f rfl) (fun c110 => ?_) (fun c110 => ?_)
          · have hacc : accAt (addF e t00).2 k (gd l k) = (addF e t00).2.emp := by unfold accAt; rw [← hgk, decide_eq_false c107, decide_eq_true c110]; rfl
            refine o_y rfl (yl_fa (T rfl) fa88_2) (o_y rfl (yl_load (T rfl) Tryz.isAgg4 (by first | exact c_o)) ?_ rfl (gd_y rfl rfl (at_f rfl))) rfl (gd_y rfl rfl (at_f rfl))
            refine o_y rfl (yl_pick_t (T rfl) (T rfl)) (o_y rfl (yl_pick_f (T rfl) (T rfl)) (o_e rfl (eff_bslice (.cons (T rfl) .nil) (bs27_1_0 _)) ?_ rfl gd_n) rfl gd_n) rfl (gd_y rfl rfl (at_f rfl))
            rintro _ _ ⟨n115, rfl, rfl⟩
            refine ⟨sbt, (jo_nil rfl (e_ (eff_app1_at (accAt (addF e t00).2 k (gd l k)) (by' := 1) (by repeat (first | exact LocL.h | apply LocL.t | apply LocL.a)) (T rfl) (T rfl) Tryz.runUnderlying27 Tryz.runUnderlying27 Tryz.sizeOf4 Tryz.typeInfo4 rfl Tryz.zeroValue4 rfl (fun _ => rfl) rfl hoa (by decide) (by omega) (hn := cs_b1 hacc cs_o)) ?_ rfl))⟩
            rintro _ _ ⟨da', rfl, hoka, rfl⟩
            refine y_ (yl_fa (T rfl) fa29_2) ?_ rfl
            first | refine jl_e (eff_sW (T rfl) (T rfl) Tryz.sizeOf27) rfl gd_n ?_ | refine jl_e (eff_s1 (T rfl) (T rfl) rfl Tryz.sizeOf27) rfl gd_n ?_ | refine jl_e (eff_s1r (T rfl) (T rfl) rfl Tryz.sizeOf27) rfl gd_n ?_
            rintro _ _ ⟨rfl, rfl⟩
            refine jl_nil (q_block (q_then (j_keep [(2, _), (4, _), (5, _), (6, _), (7, _), (8, _), (9, _)] ⟨at_f rfl, at_f rfl, at_f rfl, at_f rfl, at_f rfl, at_f rfl, at_f rfl, trivial⟩ (j_region (y_ (yl_move (T rfl)) (y_ (yl_add (T rfl) ev_c (by omega)) ?_ rfl) rfl)))))
            refine y_ (yl_assign (T rfl)) (jl_nil ?_) rfl
            refine q_loopC ((k + 1, (rowF (addF e t00).1 (letF e) (canAt (addF e t00).1 (addF e t00).2 (gd l k)) l ((letF e).length + 1)).1, rows ++ [(⟨.blk n54 ((letF e).length + 1) [], (rowF (addF e t00).1 (letF e) (canAt (addF e t00).1 (addF e t00).2 (gd l k)) l ((letF e).length + 1)).2⟩ : Row)], acc ++ [accAt (addF e t00).2 k (gd l k)], d8, dx', da')) ?_ ?_ ⟨(by first | exact at_f rfl | (refine at_e (at_f rfl) (vint ?_); omega) | (refine at_e (at_f rfl) ?_; simp; done) | (refine at_e (at_f rfl) ?_; exact by simp only [hrow, List.length_append, List.length_cons, List.length_nil])), (by first | exact at_f rfl | (refine at_e (at_f rfl) (vint ?_); omega) | (refine at_e (at_f rfl) ?_; simp; done) | (refine at_e (at_f rfl) ?_; exact by simp only [hrow, List.length_append, List.length_cons, List.length_nil])), trivial⟩ ⟨at_f rfl, at_f rfl, at_f rfl, at_f rfl, at_f rfl, trivial⟩ ?_
            · have hnx := hinv.next hx1 hxw hx3 (by omega) (by omega)
              refine ⟨by rw [List.map_append]; exact hnx, hd8i, by simpa using hokx, by simpa using hoka, ?_, ?_⟩
              · intro r hr
                simp only [List.mem_append, List.mem_cons, List.not_mem_nil, or_false] at hr
                rcases hr with hr | rfl
                · exact hor r hr
                · exact ⟨Nat.le_of_eq hrm, by show 0 = (_ - _) * 1; rw [hrm]; omega⟩
              · rw [← hgo, List.map_append, show 201 - k = (200 - k) + 1 by omega, rawGo_succ, if_pos (show k < l.length by omega), if_neg (show ¬ 200 < (rowF (addF e t00).1 (letF e) (canAt (addF e t00).1 (addF e t00).2 (gd l k)) l ((letF e).length + 1)).1.length by omega), show 201 - (k + 1) = 200 - k by omega]; rfl
            · show 201 - (k + 1) < 201 - k; omega
            · simp only [rowsH_app, slH, hrm, Nat.sub_self, List.replicate_zero, List.length_append, List.length_cons, List.length_nil, Nat.zero_add, List.cons_append, List.nil_append]; exact sbt
          · have hacc : accAt (addF e t00).2 k (gd l k) = false := by unfold accAt; rw [← hgk, decide_eq_false c107, decide_eq_false c110]; rfl
            refine o_n rfl (o_n rfl (o_y rfl (yl_pick_f (T rfl) ev_c) (o_y rfl (yl_pick_f (T rfl) (T rfl)) (o_e rfl (eff_bslice (.cons (T rfl) .nil) (bs27_1_0 _)) ?_ rfl gd_n) rfl gd_n) rfl (gd_y rfl rfl (at_f rfl))) rfl (nw_ft rfl rfl (at_f rfl))) rfl (nw_ft rfl rfl (at_f rfl))
            rintro _ _ ⟨n115, rfl, rfl⟩
            refine ⟨sbt, (jo_nil rfl (e_ (eff_app1_at (accAt (addF e t00).2 k (gd l k)) (by' := 1) (by repeat (first | exact LocL.h | apply LocL.t | apply LocL.a)) (T rfl) (T rfl) Tryz.runUnderlying27 Tryz.runUnderlying27 Tryz.sizeOf4 Tryz.typeInfo4 rfl Tryz.zeroValue4 rfl (fun _ => rfl) rfl hoa (by decide) (by omega) (hn := cs_b1 hacc cs_o)) ?_ rfl))⟩
            rintro _ _ ⟨da', rfl, hoka, rfl⟩
            refine y_ (yl_fa (T rfl) fa29_2) ?_ rfl
            first | refine jl_e (eff_sW (T rfl) (T rfl) Tryz.sizeOf27) rfl gd_n ?_ | refine jl_e (eff_s1 (T rfl) (T rfl) rfl Tryz.sizeOf27) rfl gd_n ?_ | refine jl_e (eff_s1r (T rfl) (T rfl) rfl Tryz.sizeOf27) rfl gd_n ?_
            rintro _ _ ⟨rfl, rfl⟩
            refine jl_nil (q_block (q_then (j_keep [(2, _), (4, _), (5, _), (6, _), (7, _), (8, _), (9, _)] ⟨at_f rfl, at_f rfl, at_f rfl, at_f rfl, at_f rfl, at_f rfl, at_f rfl, trivial⟩ (j_region (y_ (yl_move (T rfl)) (y_ (yl_add (T rfl) ev_c (by omega)) ?_ rfl) rfl)))))
            refine y_ (yl_assign (T rfl)) (jl_nil ?_) rfl
            refine q_loopC ((k + 1, (rowF (addF e t00).1 (letF e) (canAt (addF e t00).1 (addF e t00).2 (gd l k)) l ((letF e).length + 1)).1, rows ++ [(⟨.blk n54 ((letF e).length + 1) [], (rowF (addF e t00).1 (letF e) (canAt (addF e t00).1 (addF e t00).2 (gd l k)) l ((letF e).length + 1)).2⟩ : Row)], acc ++ [accAt (addF e t00).2 k (gd l k)], d8, dx', da')) ?_ ?_ ⟨(by first | exact at_f rfl | (refine at_e (at_f rfl) (vint ?_); omega) | (refine at_e (at_f rfl) ?_; simp; done) | (refine at_e (at_f rfl) ?_; exact by simp only [hrow, List.length_append, List.length_cons, List.length_nil])), (by first | exact at_f rfl | (refine at_e (at_f rfl) (vint ?_); omega) | (refine at_e (at_f rfl) ?_; simp; done) | (refine at_e (at_f rfl) ?_; exact by simp only [hrow, List.length_append, List.length_cons, List.length_nil])), trivial⟩ ⟨at_f rfl, at_f rfl, at_f rfl, at_f rfl, at_f rfl, trivial⟩ ?_
            · have hnx := hinv.next hx1 hxw hx3 (by omega) (by omega)
              refine ⟨by rw [List.map_append]; exact hnx, hd8i, by simpa using hokx, by simpa using hoka, ?_, ?_⟩
              · intro r hr
                simp only [List.mem_append, List.mem_cons, List.not_mem_nil, or_false] at hr
                rcases hr with hr | rfl
                · exact hor r hr
                · exact ⟨Nat.le_of_eq hrm, by show 0 = (_ - _) * 1; rw [hrm]; omega⟩
              · rw [← hgo, List.map_append, show 201 - k = (200 - k) + 1 by omega, rawGo_succ, if_pos (show k < l.length by omega), if_neg (show ¬ 200 < (rowF (addF e t00).1 (letF e) (canAt (addF e t00).1 (addF e t00).2 (gd l k)) l ((letF e).length + 1)).1.length by omega), show 201 - (k + 1) = 200 - k by omega]; rfl
            · show 201 - (k + 1) < 201 - k; omega
            · simp only [rowsH_app, slH, hrm, Nat.sub_self, List.replicate_zero, List.length_append, List.length_cons, List.length_nil, Nat.zero_add, List.cons_append, List.nil_append]; exact sbt
  · have hpm := hinv.done (by omega)
    have hsome : rawF e = some (rows.map Row.l, acc) := by rw [← hgo, show 201 - k = (200 - k) + 1 by have := hinv.kl; have := hinv.few; omega, rawGo_succ, if_neg (by omega)]
    refine j_exit (q_then_exit (q_loop_exit (q_block_hit (q_then (j_seq (j_region (y_ (yl_loadA (T rfl) Tryz.isAgg29 Tryz.sizeOf29 rfl (by first | exact cs_o)) ?_ rfl)))))))
    refine e_ (eff_call (.cons (T rfl) .nil) Tryz.call54 (least_own hL (x := (dx, da, rows)) (H0 := (slH dn ((letF e).flatMap encS) 9 ++ ((n5, Cl (encEn (addF e t00).2) 88) :: (n4, Cl [.pointer (some ⟨n17, 0, none⟩)] 80) :: (trH n17 e1 e2 (addF e t00).1 ++ (n2, Cl [.slice none 0 0, .slice none 0 0, .slice none 0 0] 29) :: (n1, Cl (encRx m) 24) :: H)))) ⟨hox, hoa, rfl, hor⟩ (by exact sbt) ((sl_arr (X := H) (enc := encS) (sz := 1) (e := 9) (fun _ => rfl) hdn).mono sbt) hpm hln)) ?_ rfl
    rintro _ _ ⟨y, ⟨rfl, hoy⟩, rfl⟩
    first | refine jl_e (eff_sW (T rfl) (T rfl) Tryz.sizeOf29) rfl gd_n ?_
    rintro _ _ ⟨rfl, rfl⟩
    refine y_ (yl_assign ev_c) (jl_nil (q_then (j_ret (q_ret rfl (.cellA (at_f rfl) Tryz.isAgg29 Tryz.sizeOf29 rfl (by first | exact cs_o) (.tmp (at_f rfl) .nil)) ?_)))) rfl
    have hb : buildF leastF e = (⟨letF e, (leastF ⟨letF e, rows.map Row.l, acc⟩).next, (leastF ⟨letF e, rows.map Row.l, acc⟩).acc⟩, 0) := by unfold buildF; rw [hsome]
    rw [hb]
    exact ⟨_, ⟨(dn, y), ⟨rfl, hdn, hoy⟩, rfl⟩, sbt⟩
end Go.Proofs.YtkdolgnpkjihpaaGreatDoor
namespace Go.Proofs.YtkdolgnpkjihpaaGreatDoor
open Go.RowKit
set_option linter.unusedVariables false
theorem stepR_scope {P : Program} {b : Frame} {a : Act} {k : List Item} {cs : List Frame} {w : World} {c : Code} :
    step P (lone (b.atR a (.code (.scope c) :: k)) cs w) = .next (lone (b.atR a (.code c :: .inScope c :: k)) cs w) :=
  step_lone_go (by simp [stepG, stepG.exec, Frame.atR])
theorem stepR_inScope {P : Program} {b : Frame} {a : Act} {k : List Item} {cs : List Frame} {w : World} {c : Code} :
    step P (lone (b.atR a (.inScope c :: k)) cs w) = .next (lone (b.atR a k) cs w) :=
  step_lone_go (by simp [stepG, stepG.exec, Frame.atR])
theorem wpIn_scope {F : Fence} {n : Nat} {P : Program} {Q : Exit → Act → World → Prop} {a : Act} {w : World} {c : Code} (h : c.wpIn F n P (Exit.noGoto Q) a w) : (Code.scope c).wpIn F n P Q a w := by
  intro b k cs hro hb hr
  have h0 : (lone (b.atR a (.code (.scope c) :: k)) cs w).fenced P F := fenced_calm hb hr rfl
  obtain ⟨e, a₁, w₁, hq, harr⟩ := h b (.inScope c :: k) cs hro hb hr
  cases e with
  | normal => exact ⟨.normal, a₁, w₁, hq, .head h0 stepR_scope (StepsIn.trans harr (.one (fenced_calm hb hr rfl) stepR_inScope))⟩
  | exit id' =>
    have hx : exitTo id' (.inScope c :: k) = exitTo id' k := by simp [exitTo]
    exact ⟨.exit id', a₁, w₁, hq, fun k' hk => .head h0 stepR_scope (harr.1 k' (by rw [hx]; exact hk)),
      fun hr' hk => let ⟨k₁, h1, h2⟩ := harr.2 hr' (by rw [hx]; exact hk); ⟨k₁, h1, .head h0 stepR_scope h2⟩⟩
  | goto l => exact hq.elim
  | ret => exact ⟨_, a₁, w₁, hq, .of_steps (.one h0 stepR_scope) harr⟩
  | panic ch => exact ⟨_, a₁, w₁, hq, .of_steps (.one h0 stepR_scope) harr⟩
  | outgrown => exact ⟨_, a₁, w₁, hq, .of_steps (.one h0 stepR_scope) harr⟩
section
variable {P : Program} {r : Option Nat} {N : Nat} {w0 : World} {Q : Post} {L : Fm} {ds : List Deferred} {H : List (Nat × Obj)}
def noG (Q : Post) : Post
  | .goto _, _, _, _ => False
  | e, σ, ds, w => Q e σ ds w
theorem j_scope {c : Code} (h : J P r N w0 c (noG Q) L ds H) : J P r N w0 (.scope c) Q L ds H := fun b w hO a hs hf hd =>
  wpIn_scope (wpIn_mono (h b w hO a hs hf hd) (by
    intro e a' w' hq
    cases e with
    | goto l => exact hq.2
    | normal => exact hq
    | exit id => exact hq
    | ret => exact hq
    | panic ch => exact hq
    | outgrown => exact hq))
theorem j_label {l : Nat} (h : JQ w0 Q .normal L ds H) : J P r N w0 (.label l) Q L ds H := fun b w hO a hs hf hd => wpIn_label ⟨hs, by rw [hf, hd]; exact h b w hO⟩
theorem q_scope_ret (h : JQ w0 Q .ret L ds H) : JQ w0 (noG Q) .ret L ds H := h
theorem np_scope (h : NoPanic Q) : NoPanic (noG Q) := ⟨fun c σ ds w hq => h.no c σ ds w hq⟩
end
end Go.Proofs.YtkdolgnpkjihpaaGreatDoor
namespace Go.Proofs.YtkdolgnpkjihpaaGreatDoor
open Go.RowKit
set_option linter.unusedVariables false
set_option linter.unusedSimpArgs false
theorem bs42_1_0 (a0 : Int) (w : World) : (Instr.buildSlice 42 1 #[(0, .int .i64 a0)]).run Tryz.prog w = .ok (.slice (some ⟨w.heap.size, 0, none⟩) 1 1) (w.alloc (Cl [.int .i64 a0] 3)) := by kernel_rfl
theorem gd_rows (rs : List RowQ) (i : Nat) : gd (rs.map RowQ.l) i = (gd rs i).l := by
  by_cases h : i < rs.length
  · exact gd_map h
  · have h1 : gd rs i = default := by simp [gd, List.getD, List.getElem?_eq_none (by omega : rs.length ≤ i)]
    have h2 : gd (rs.map RowQ.l) i = default := by simp [gd, List.getD, List.getElem?_eq_none (by omega : rs.length ≤ i)]
    rw [h1, h2]; rfl
theorem nx_pl (m : Mc) (i a : Nat) : nx m.pl i a = gd (gd m.rows i).l a := by unfold nx; rw [show m.pl.next = m.rows.map RowQ.l from rfl, gd_rows]
theorem pm_row {m : Mc} (h : PMok m.pl) {i : Nat} (hi : i < m.rows.length) : (gd m.rows i).l.length = m.names.length + 1 ∧ ∀ a, a < m.names.length + 1 → gd (gd m.rows i).l a < m.rows.length := by
  obtain ⟨h1, h2⟩ := h.row (gd m.rows i).l (List.mem_map_of_mem (gd_mem hi))
  refine ⟨h1, fun a ha => ?_⟩
  have := h2 _ (gd_mem (i := a) (by rw [h1]; exact ha))
  simpa [Mc.pl] using this
abbrev encNK (k : Nat) : Value := .int .i64 (k : Int)
theorem keyN {V : Type} : KeyOk (V := V) Tryz.prog 3 encNK := keyOk_now Tryz.runUnderlying3 (fun b k w => by cases b <;> kernel_rfl) (fun k k' => by
  by_cases h : k = k'
  · subst h; simp [Instr.sameNow]
  · have h2 : ¬ k' = k := fun e => h e.symm
    have h3 : ¬ (k : Int) = (k' : Int) := by omega
    simp [Instr.sameNow, h, h2, h3]) (fun k => by simp [Instr.sameBits])
theorem yl_lookN {w0 : World} {H : List (Nat × Obj)} {L : Fm} {x y : Operand} {ty : TypeId} {r : Nat} {l : List Nat} {s : Nat} (hx : Ev L x (.map (some r))) (hy : Ev L y (.int .i64 (s : Int))) (hf : Fnd H r (mapO encNK encIv (zipM l))) :
    Yl Tryz.prog w0 (.lookup 201 x y true) ty L H (.tuple #[.int .i64 (((look (zipM l) s).getD 0 : Nat) : Int), .bool (decide (s ∈ l))]) := by
  have h := yl_lookup2 (P := Tryz.prog) (w0 := w0) (ty := ty) (k := s) (keyN (V := Nat)) hx hy rfl Tryz.runUnderlying201 Tryz.zeroValue3 hf
  rw [look_zipM] at h ⊢
  by_cases hm : s ∈ l
  · rw [if_pos hm] at h ⊢; rw [decide_eq_true hm]; exact h
  · rw [if_neg hm] at h ⊢; rw [decide_eq_false hm]; exact h
theorem yl_lookN1 {w0 : World} {H : List (Nat × Obj)} {L : Fm} {x y : Operand} {ty : TypeId} {r : Nat} {l : List Nat} {s : Nat} (hs : s ∈ l) (hx : Ev L x (.map (some r))) (hy : Ev L y (.int .i64 (s : Int))) (hf : Fnd H r (mapO encNK encIv (zipM l))) :
    Yl Tryz.prog w0 (.lookup 201 x y false) ty L H (.int .i64 ((idx l s : Nat) : Int)) := by
  have h := yl_lookup (P := Tryz.prog) (w0 := w0) (ty := ty) (k := s) (keyN (V := Nat)) hx hy rfl Tryz.runUnderlying201 Tryz.zeroValue3 hf
  rw [look_zipM] at h
  rw [if_pos hs] at h; exact h
theorem numK_get (b tos : List Nat) {order : List Nat} {k : Nat} (h : k < order.length) : ∀ i, gd (numK b tos order i).1 k = gd order k ∧ order.length ≤ (numK b tos order i).1.length
  | 0 => ⟨rfl, Nat.le_refl _⟩
  | i + 1 => by
    obtain ⟨h1, h2⟩ := numK_get b tos h i
    rw [numK_succ]
    simp only []
    split
    · exact ⟨h1, h2⟩
    · refine ⟨?_, by simp; omega⟩
      rw [gd_getElem (by simp; omega), List.getElem_append_left (by omega), ← gd_getElem (by omega), h1]
theorem numK_mem (b tos order : List Nat) (i : Nat) : gd b (gd tos i) ∈ (numK b tos order (i + 1)).1.map (gd b) := by
  rw [numK_succ]; simp only []
  split
  · assumption
  · simp
theorem numK_idx (b tos order : List Nat) (i : Nat) : idx ((numK b tos order (i + 1)).1.map (gd b)) (gd b (gd tos i)) = idx ((numK b tos order i).1.map (gd b)) (gd b (gd tos i)) := by
  rw [numK_succ]; simp only []
  split
  · rfl
  · rename_i h; rw [List.map_append]; exact idx_app h
theorem max_s {w0 : World} {H : List (Nat × Obj)} (l : List Nat) (q : Option Addr) (c : Nat) (hA : Arr w0 H q 1 encU l) (hl : 0 < l.length) (hll : l.length ≤ 1000000) :
    FSpec Tryz.prog w0 139 #[.slice q l.length c] H (Still (.int .i64 (maxF l : Nat)) H) := by
  refine fn_spec Tryz.func139 rfl Tryz.ntmps139 rfl (j_seq (j_region (y_ (yl_assign ev_c) (jl_nil (q_then (j_seq (j_seq (j_region (y_ (yl_move (T rfl)) (y_ (yl_len (T rfl) Tryz.runUnderlying42) (y_ (yl_lss (T rfl) ev_c) (jl_nil (q_then ?_)) rfl) rfl) rfl)))))) rfl)))
  first | refine j_cond_d (at_f rfl) (fun c7 => ?_) (fun c7 => ?_) | refine j_cond (at_f rfl) (fun c7 => ?_) (fun c7 => ?_)
  · exfalso; omega
  · refine j_skip (q_then (j_seq (j_region (y_ (yl_move (T rfl)) (y_ (yl_ixR (T rfl) ev_c Tryz.runUnderlying42 Tryz.sizeOf3 (by omega) (by first | exact rfl | exact hA.b (i := 0) (by omega))) ?_ rfl) rfl))))
    refine y_ (yl_load (T rfl) Tryz.isAgg3 (by first | exact c_o | exact cell1 ((hA.mono sbt).cs (i := i) (by omega)) | exact cell1 ((hA.mono sbt).cs (i := 0) (by omega)))) ?_ rfl
    refine y_ (yl_assign (T rfl)) (jl_nil (q_then (j_seq (j_seq (j_region (y_ (yl_assign ev_c) (jl_nil (q_then (j_block ?_))) rfl)))))) rfl
    refine j_loopH (X := Nat) (V := fun i => [(4, .int .i64 (i : Nat)), (3, .int .i64 (maxF (l.take i) : Nat))]) (C := [(0, _)]) (φ := fun i => 1 ≤ i ∧ i ≤ l.length) (μ := fun i => l.length - i) (x0 := 1) ?_ ⟨at_f rfl, trivial⟩ ⟨(by first | exact at_f rfl | (refine at_e (at_f rfl) (vint ?_); omega) | (refine at_e (at_f rfl) ?_; simp; done) | (refine at_e (at_f rfl) ?_; exact by cases l with | nil => simp at hl | cons x l => rfl)), (by first | exact at_f rfl | (refine at_e (at_f rfl) (vint ?_); omega) | (refine at_e (at_f rfl) ?_; simp; done) | (refine at_e (at_f rfl) ?_; exact by cases l with | nil => simp at hl | cons x l => rfl)), trivial⟩ ?_
    · exact ⟨Nat.le_refl _, by omega⟩
    rintro i ⟨hi1, hi⟩
    refine j_seq (j_seq (j_region (y_ (yl_move (T rfl)) (y_ (yl_move (T rfl)) (y_ (yl_len (T rfl) Tryz.runUnderlying42) (y_ (yl_lss (T rfl) (T rfl)) (jl_nil (q_then ?_)) rfl) rfl) rfl) rfl)))
    first | refine j_cond_d (at_f rfl) (fun c15 => ?_) (fun c15 => ?_) | refine j_cond (at_f rfl) (fun c15 => ?_) (fun c15 => ?_)
    · refine j_skip (q_then (j_seq (j_block (j_region (y_ (yl_move (T rfl)) (y_ (yl_move (T rfl)) (y_ (yl_move (T rfl)) (y_ (yl_ixQ (T rfl) (T rfl) Tryz.runUnderlying42 Tryz.sizeOf3 (by omega) (by first | exact rfl | exact hA.b (i := 0) (by omega))) ?_ rfl) rfl) rfl) rfl)))))
      refine y_ (yl_load (T rfl) Tryz.isAgg3 (by first | exact c_o | exact cell1 ((hA.mono sbt).cs (i := i) (by omega)) | exact cell1 ((hA.mono sbt).cs (i := 0) (by omega)))) ?_ rfl
      refine y_ (yl_max (T rfl) (T rfl)) (y_ (yl_assign (T rfl)) (jl_nil (q_block (q_then (j_region (y_ (yl_move (T rfl)) (y_ (yl_add (T rfl) ev_c (by omega)) ?_ rfl) rfl))))) rfl) rfl
      refine y_ (yl_assign (T rfl)) (jl_nil ?_) rfl
      have hmx := maxF_take (l := l) (i := i) (by omega) (by omega)
      refine q_loopC (i + 1) ?_ ?_ ⟨(by first | exact at_f rfl | (refine at_e (at_f rfl) (vint ?_); omega) | (refine at_e (at_f rfl) ?_; simp; done) | (refine at_e (at_f rfl) ?_; exact by cases l with | nil => simp at hl | cons x l => rfl)), (by first | exact at_f rfl | (refine at_e (at_f rfl) (vint ?_); omega) | (refine at_e (at_f rfl) ?_; simp; done) | (refine at_e (at_f rfl) ?_; exact by cases l with | nil => simp at hl | cons x l => rfl)), trivial⟩ ⟨at_f rfl, trivial⟩ ?_
      · exact ⟨by omega, by omega⟩
      · first | omega | (simp only []; omega)
      · exact sbt
    · refine j_exit (q_then_exit (q_loop_exit (q_block_hit (q_then (j_seq (j_region (y_ (yl_move (T rfl)) (y_ (yl_assign (T rfl)) (jl_nil (q_then (j_ret (q_ret rfl (.tmp (at_f rfl) .nil) ?_)))) rfl) rfl)))))))
      have hi2 : i = l.length := by omega
      rw [hi2, List.take_length]
      exact ⟨_, ⟨rfl, rfl⟩, sbt⟩
theorem split_s {w0 : World} {H : List (Nat × Obj)} (m : Mc) (hm : McOk w0 H m) (hp : PMok m.pl) (d : Sl) (n : Nat) (b : List Nat) (k a : Nat) (hd : SlOk d b.length 1) (hn : b.length = n) (hb : n = m.rows.length) (hk : k < n) (ha : a < m.names.length + 1) (hbm : maxF b ≤ n) :
    FSpec Tryz.prog w0 104 #[.agg (encMc m).toArray, slV d n, .int .i64 (k : Int), .int .i64 (a : Int)] (slH d (b.flatMap encU) 3 ++ H) (fun v H' => ∃ x : Unit, True ∧ H' = slH d ((splitF m.pl b k a).flatMap encU) 3 ++ H) := by
  subst hn
  refine fn_spec Tryz.func104 rfl Tryz.ntmps104 rfl ?_
  have hf := hp.few
  have hfl : m.pl.next.length = m.rows.length := List.length_map ..
  obtain ⟨hk1, hk2⟩ := pm_row hp (show k < m.rows.length by omega)
  have hkl : gd (gd m.rows k).l a < b.length := by rw [hb]; exact hk2 a ha
  have hml := mvK_len m.pl b (gd b k) (gd b (nx m.pl k a)) a b.length
  refine j_seq (j_region (e_ (eff_box (T rfl) cs_) ?_ rfl))
  rintro _ _ ⟨n4, rfl, rfl⟩
  refine jl_nil (q_then (j_seq (j_any 21 [(0, true), (1, true), (2, true), (3, true), (4, true), (5, true), (6, true), (7, true), (8, true), (9, true), (10, true), (11, true), (12, true), (13, true), (14, true), (15, true), (16, true), (17, true), (18, true), (19, true), (20, true)] _ mixd (by kernel_rfl) sb0 ?_)))
  refine o_y rfl (yl_move (T rfl)) (o_y rfl (yl_call (.cons (T rfl) .nil) Tryz.call139 (fun H' hs => max_s b _ _ ((sl_arr (X := H) (enc := encU) (sz := 1) (e := 3) (fun _ => rfl) hd).mono (List.Sublist.trans sbt hs)) (by omega) (by omega))) ?_ rfl gd_n) rfl gd_n
  refine o_y rfl (yl_add (T rfl) ev_c (by omega)) ?_ rfl gd_n
  refine o_y rfl (yl_move (T rfl)) (o_y rfl (yl_move (T rfl)) (o_y rfl (yl_ixQ (T rfl) (T rfl) Tryz.runUnderlying42 Tryz.sizeOf3 (by omega) (by first | exact rfl | exact hd.bas (by omega) | exact hm.a2.b (i := k) (by omega) | exact (hm.r (gd m.rows k) (gd_mem (by omega))).b (i := a) (by omega) | exact hm.a2.b (i := j) (by omega) | exact (hm.r (gd m.rows j) (gd_mem (by omega))).b (i := a) (by omega) | exact hdm.bas (by omega) | exact SlOk.bas (k := b.length) (sz := 1) hd (by omega))) ?_ rfl gd_n) rfl gd_n) rfl gd_n
  refine o_y rfl (yl_load (T rfl) Tryz.isAgg3 (by first | exact c_o | exact cell1 (((sl_arr (X := H) (enc := encU) (sz := 1) (e := 3) (l := b) (fun _ => rfl) hd).mono sbt).cs (i := k) hk) | exact cell1 (((sl_arr (X := H) (enc := encU) (sz := 1) (e := 3) (l := b) (fun _ => rfl) hd).mono sbt).cs (i := k) (by omega)))) ?_ rfl gd_n
  refine o_y rfl (yl_move (T rfl)) (o_y rfl (yl_fa (T rfl) fa29_1) (o_y rfl (yl_load (T rfl) Tryz.isAgg26 (by first | exact c_o | exact cell1 (((sl_arr (X := H) (enc := encU) (sz := 1) (e := 3) (l := b) (fun _ => rfl) hd).mono sbt).cs (i := k) (by omega)))) ?_ rfl gd_n) rfl gd_n) rfl gd_n
  refine o_y rfl (yl_move (T rfl)) (o_y rfl (yl_ixQ (T rfl) (T rfl) Tryz.runUnderlying26 Tryz.sizeOf42 (by omega) (by first | exact rfl | exact hd.bas (by omega) | exact hm.a2.b (i := k) (by omega) | exact (hm.r (gd m.rows k) (gd_mem (by omega))).b (i := a) (by omega) | exact hm.a2.b (i := j) (by omega) | exact (hm.r (gd m.rows j) (gd_mem (by omega))).b (i := a) (by omega) | exact hdm.bas (by omega) | exact SlOk.bas (k := b.length) (sz := 1) hd (by omega))) ?_ rfl gd_n) rfl gd_n
  refine o_y rfl (yl_load (T rfl) Tryz.isAgg42 (by first | exact c_o | exact cell1 ((hm.a2.mono sbt).cs (i := k) (by omega)) | exact cell1 (((sl_arr (X := H) (enc := encU) (sz := 1) (e := 3) (l := b) (fun _ => rfl) hd).mono sbt).cs (i := k) (by omega)))) ?_ rfl gd_n
  refine o_y rfl (yl_move (T rfl)) (o_y rfl (yl_ixQ (T rfl) (T rfl) Tryz.runUnderlying42 Tryz.sizeOf3 (by omega) (by first | exact rfl | exact hd.bas (by omega) | exact hm.a2.b (i := k) (by omega) | exact (hm.r (gd m.rows k) (gd_mem (by omega))).b (i := a) (by omega) | exact hm.a2.b (i := j) (by omega) | exact (hm.r (gd m.rows j) (gd_mem (by omega))).b (i := a) (by omega) | exact hdm.bas (by omega) | exact SlOk.bas (k := b.length) (sz := 1) hd (by omega))) ?_ rfl gd_n) rfl gd_n
  refine o_y rfl (yl_load (T rfl) Tryz.isAgg3 (by first | exact c_o | exact cell1 (((hm.r (gd m.rows k) (gd_mem (by omega))).mono sbt).cs (i := a) (by omega)) | exact cell1 (((sl_arr (X := H) (enc := encU) (sz := 1) (e := 3) (l := b) (fun _ => rfl) hd).mono sbt).cs (i := k) (by omega)))) ?_ rfl gd_n
  refine o_y rfl (yl_ixQ (T rfl) (T rfl) Tryz.runUnderlying42 Tryz.sizeOf3 (by omega) (by first | exact rfl | exact hd.bas (by omega) | exact hm.a2.b (i := k) (by omega) | exact (hm.r (gd m.rows k) (gd_mem (by omega))).b (i := a) (by omega) | exact hm.a2.b (i := j) (by omega) | exact (hm.r (gd m.rows j) (gd_mem (by omega))).b (i := a) (by omega) | exact hdm.bas (by omega) | exact SlOk.bas (k := b.length) (sz := 1) hd (by omega))) ?_ rfl gd_n
  refine o_y rfl (yl_load (T rfl) Tryz.isAgg3 (by first | exact c_o | exact cell1 (((sl_arr (X := H) (enc := encU) (sz := 1) (e := 3) (l := b) (fun _ => rfl) hd).mono sbt).cs (i := gd (gd m.rows k).l a) hkl) | exact cell1 (((sl_arr (X := H) (enc := encU) (sz := 1) (e := 3) (l := b) (fun _ => rfl) hd).mono sbt).cs (i := k) (by omega)))) ?_ rfl gd_n
  refine o_y rfl (yl_assign (T rfl)) (o_y rfl (yl_assign (T rfl)) (o_y rfl (yl_assign (T rfl)) (jo_nil rfl (jl_nil (q_then (j_seq (j_region (y_ (yl_assign ev_c) (jl_nil (q_then (j_seq (j_seq (j_region (y_ (yl_move (T rfl)) (y_ (yl_len (T rfl) Tryz.runUnderlying42) (y_ (yl_move ev_c) (jl_nil (q_then (j_keep [(1, _), (3, _), (4, _), (8, _), (9, _), (10, _), (11, _), (34, _), (35, _)] ⟨at_f rfl, at_f rfl, at_f rfl, at_f rfl, at_f rfl, at_f rfl, at_f rfl, at_f rfl, at_f rfl, trivial⟩ (j_block ?_)))) rfl) rfl) rfl)))))) rfl)))))) rfl gd_n) rfl gd_n) rfl gd_n
  refine j_loopC (X := Nat × Sl) (V := fun ⟨j, dm⟩ => [(35, .int .i64 (j : Nat)), (11, slV dm (mvK m.pl b (gd b k) (gd b (nx m.pl k a)) a j).length)]) (C := [(1, _), (3, _), (4, _), (8, _), (9, _), (10, _), (34, _)]) (G := fun ⟨j, dm⟩ => slH dm ((mvK m.pl b (gd b k) (gd b (nx m.pl k a)) a j).flatMap encU) 3 ++ ((n4, Cl (encMc m) 29) :: (slH d (b.flatMap encU) 3 ++ H))) (φ := fun ⟨j, dm⟩ => j ≤ b.length ∧ SlOk dm (mvK m.pl b (gd b k) (gd b (nx m.pl k a)) a j).length 1) (μ := fun ⟨j, dm⟩ => b.length - j) (x0 := (0, .nil)) ?_ ⟨at_f rfl, at_f rfl, at_f rfl, at_f rfl, at_f rfl, at_f rfl, at_f rfl, trivial⟩ ⟨(by first | exact at_f rfl | (refine at_e (at_f rfl) (vint ?_); omega) | (refine at_e (at_f rfl) ?_; simp; done) | (refine at_e (at_f rfl) ?_; exact by simp only [hmv2, List.length_append, List.length_cons, List.length_nil])), (by first | exact at_f rfl | (refine at_e (at_f rfl) (vint ?_); omega) | (refine at_e (at_f rfl) ?_; simp; done) | (refine at_e (at_f rfl) ?_; exact by simp only [hmv2, List.length_append, List.length_cons, List.length_nil])), trivial⟩ sb0 ?_
  · exact ⟨Nat.zero_le _, rfl⟩
  rintro ⟨j, dm⟩ ⟨hj, hdm⟩
  have hml2 := mvK_len m.pl b (gd b k) (gd b (nx m.pl k a)) a j
  refine j_seq (j_region (y_ (yl_lss (T rfl) (T rfl)) (jl_nil (q_then (j_seq ?_))) rfl))
  first | refine j_cond_d (at_f rfl) (fun c36 => ?_) (fun c36 => ?_) | refine j_cond (at_f rfl) (fun c36 => ?_) (fun c36 => ?_)
  · obtain ⟨hj1, hj2⟩ := pm_row hp (show j < m.rows.length by omega)
    have hjl := hj2 a ha
    have hmv := mvK_succ m.pl b (gd b k) (gd b (nx m.pl k a)) a j
    have e1 := nx_pl m j a
    have e2 := nx_pl m k a
    refine j_skip (q_then (j_seq (j_block (j_seq (j_region (y_ (yl_move (T rfl)) (y_ (yl_assign (T rfl)) (jl_nil (q_then (j_seq (j_region (y_ (yl_move (T rfl)) (y_ (yl_move (T rfl)) (y_ (yl_ixQ (T rfl) (T rfl) Tryz.runUnderlying42 Tryz.sizeOf3 (by omega) (by first | exact rfl | exact hd.bas (by omega) | exact hm.a2.b (i := k) (by omega) | exact (hm.r (gd m.rows k) (gd_mem (by omega))).b (i := a) (by omega) | exact hm.a2.b (i := j) (by omega) | exact (hm.r (gd m.rows j) (gd_mem (by omega))).b (i := a) (by omega) | exact hdm.bas (by omega) | exact SlOk.bas (k := b.length) (sz := 1) hd (by omega))) ?_ rfl) rfl) rfl))))) rfl) rfl))))))
    refine y_ (yl_load (T rfl) Tryz.isAgg3 (by first | exact c_o | exact cell1 (((sl_arr (X := H) (enc := encU) (sz := 1) (e := 3) (l := b) (fun _ => rfl) hd).mono sbt).cs (i := j) (by omega)) | exact cell1 (((sl_arr (X := H) (enc := encU) (sz := 1) (e := 3) (l := b) (fun _ => rfl) hd).mono sbt).cs (i := k) (by omega)))) ?_ rfl
    refine y_ (yl_move (T rfl)) (y_ (yl_eql (T rfl) (T rfl)) (y_ (yl_move (T rfl)) ?_ rfl) rfl) rfl
    first | refine jl_if_d (s := 44) (at_f rfl) (fun c44 => ?_) (fun c44 => ?_) | refine jl_if (s := 44) (at_f rfl) (fun c44 => ?_) (fun c44 => ?_)
    · refine jl_y (yl_move (T rfl)) rfl (gd_y rfl rfl (at_f rfl)) (jl_y (yl_fa (T rfl) fa29_1) rfl (gd_y rfl rfl (at_f rfl)) (jl_y (yl_load (T rfl) Tryz.isAgg26 (by first | exact c_o | exact cell1 (((sl_arr (X := H) (enc := encU) (sz := 1) (e := 3) (l := b) (fun _ => rfl) hd).mono sbt).cs (i := k) (by omega)))) rfl (gd_y rfl rfl (at_f rfl)) ?_))
      refine jl_y (yl_move (T rfl)) rfl (gd_y rfl rfl (at_f rfl)) (jl_y (yl_ixQ (T rfl) (T rfl) Tryz.runUnderlying26 Tryz.sizeOf42 (by omega) (by first | exact rfl | exact hd.bas (by omega) | exact hm.a2.b (i := k) (by omega) | exact (hm.r (gd m.rows k) (gd_mem (by omega))).b (i := a) (by omega) | exact hm.a2.b (i := j) (by omega) | exact (hm.r (gd m.rows j) (gd_mem (by omega))).b (i := a) (by omega) | exact hdm.bas (by omega) | exact SlOk.bas (k := b.length) (sz := 1) hd (by omega))) rfl (gd_y rfl rfl (at_f rfl)) ?_)
      refine jl_y (yl_load (T rfl) Tryz.isAgg42 (by first | exact c_o | exact cell1 ((hm.a2.mono sbt).cs (i := j) (by omega)) | exact cell1 (((sl_arr (X := H) (enc := encU) (sz := 1) (e := 3) (l := b) (fun _ => rfl) hd).mono sbt).cs (i := k) (by omega)))) rfl (gd_y rfl rfl (at_f rfl)) ?_
      refine jl_y (yl_move (T rfl)) rfl (gd_y rfl rfl (at_f rfl)) (jl_y (yl_ixQ (T rfl) (T rfl) Tryz.runUnderlying42 Tryz.sizeOf3 (by omega) (by first | exact rfl | exact hd.bas (by omega) | exact hm.a2.b (i := k) (by omega) | exact (hm.r (gd m.rows k) (gd_mem (by omega))).b (i := a) (by omega) | exact hm.a2.b (i := j) (by omega) | exact (hm.r (gd m.rows j) (gd_mem (by omega))).b (i := a) (by omega) | exact hdm.bas (by omega) | exact SlOk.bas (k := b.length) (sz := 1) hd (by omega))) rfl (gd_y rfl rfl (at_f rfl)) ?_)
      refine jl_y (yl_load (T rfl) Tryz.isAgg3 (by first | exact c_o | exact cell1 (((hm.r (gd m.rows j) (gd_mem (by omega))).mono sbt).cs (i := a) (by omega)) | exact cell1 (((sl_arr (X := H) (enc := encU) (sz := 1) (e := 3) (l := b) (fun _ => rfl) hd).mono sbt).cs (i := k) (by omega)))) rfl (gd_y rfl rfl (at_f rfl)) ?_
      refine jl_y (yl_ixQ (T rfl) (T rfl) Tryz.runUnderlying42 Tryz.sizeOf3 (by omega) (by first | exact rfl | exact hd.bas (by omega) | exact hm.a2.b (i := k) (by omega) | exact (hm.r (gd m.rows k) (gd_mem (by omega))).b (i := a) (by omega) | exact hm.a2.b (i := j) (by omega) | exact (hm.r (gd m.rows j) (gd_mem (by omega))).b (i := a) (by omega) | exact hdm.bas (by omega) | exact SlOk.bas (k := b.length) (sz := 1) hd (by omega))) rfl (gd_y rfl rfl (at_f rfl)) ?_
      refine jl_y (yl_load (T rfl) Tryz.isAgg3 (by first | exact c_o | exact cell1 (((sl_arr (X := H) (enc := encU) (sz := 1) (e := 3) (l := b) (fun _ => rfl) hd).mono sbt).cs (i := gd (gd m.rows j).l a) (by omega)) | exact cell1 (((sl_arr (X := H) (enc := encU) (sz := 1) (e := 3) (l := b) (fun _ => rfl) hd).mono sbt).cs (i := k) (by omega)))) rfl (gd_y rfl rfl (at_f rfl)) ?_
      refine jl_y (yl_move (T rfl)) rfl (gd_y rfl rfl (at_f rfl)) (jl_y (yl_eql (T rfl) (T rfl)) rfl (gd_y rfl rfl (at_f rfl)) (y_ (yl_pick_t (T rfl) (T rfl)) (jl_nil (q_then (j_keep [(1, _), (3, _), (4, _), (8, _), (9, _), (10, _), (11, _), (12, _), (34, _), (35, _), (58, _)] ⟨at_f rfl, at_f rfl, at_f rfl, at_f rfl, at_f rfl, at_f rfl, at_f rfl, at_f rfl, at_f rfl, at_f rfl, at_f rfl, trivial⟩ ?_))) rfl))
      first | refine j_cond_d (at_f rfl) (fun c58 => ?_) (fun c58 => ?_) | refine j_cond (at_f rfl) (fun c58 => ?_) (fun c58 => ?_)
      · have hmv2 : (mvK m.pl b (gd b k) (gd b (nx m.pl k a)) a (j + 1)) = (mvK m.pl b (gd b k) (gd b (nx m.pl k a)) a j) ++ [j] := by rw [hmv, if_pos ⟨by omega, by rw [e1, e2]; omega⟩]
        refine j_region (y_ (yl_move (T rfl)) (y_ (yl_move (T rfl)) (e_ (eff_bslice (.cons (T rfl) .nil) (bs42_1_0 _)) ?_ rfl) rfl) rfl)
        rintro _ _ ⟨n61, rfl, rfl⟩
        refine e_ (eff_app1_at (j) (by' := 8) (by repeat (first | exact LocL.h | apply LocL.t | apply LocL.a)) (T rfl) (T rfl) Tryz.runUnderlying42 Tryz.runUnderlying42 Tryz.sizeOf3 Tryz.typeInfo3 rfl Tryz.zeroValue3 rfl (fun _ => rfl) rfl hdm (by decide) (by omega)) ?_ rfl
        rintro _ _ ⟨d', rfl, hokd, rfl⟩
        refine y_ (yl_assign (T rfl)) (jl_nil (q_block (q_then (j_region (y_ (yl_add (T rfl) ev_c (by omega)) ?_ rfl))))) rfl
        refine y_ (yl_move (T rfl)) (jl_nil ?_) rfl
        refine q_loopC ((j + 1, d')) ?_ ?_ ⟨(by first | exact at_f rfl | (refine at_e (at_f rfl) (vint ?_); omega) | (refine at_e (at_f rfl) ?_; simp; done) | (refine at_e (at_f rfl) ?_; exact by simp only [hmv2, List.length_append, List.length_cons, List.length_nil])), (by first | exact at_f rfl | (refine at_e (at_f rfl) (vint ?_); omega) | (refine at_e (at_f rfl) ?_; simp; done) | (refine at_e (at_f rfl) ?_; exact by simp only [hmv2, List.length_append, List.length_cons, List.length_nil])), trivial⟩ ⟨at_f rfl, at_f rfl, at_f rfl, at_f rfl, at_f rfl, at_f rfl, at_f rfl, trivial⟩ ?_
        · exact ⟨by omega, by rw [hmv2, List.length_append]; exact hokd⟩
        · first | omega | (simp only []; omega)
        · simp only [hmv2]; exact sbt
      · have hmv2 : (mvK m.pl b (gd b k) (gd b (nx m.pl k a)) a (j + 1)) = (mvK m.pl b (gd b k) (gd b (nx m.pl k a)) a j) := by rw [hmv, if_neg (fun h => by have := h.2; rw [e1, e2] at this; omega)]
        refine j_skip (q_block (q_then (j_region (y_ (yl_add (T rfl) ev_c (by omega)) ?_ rfl))))
        refine y_ (yl_move (T rfl)) (jl_nil ?_) rfl
        refine q_loopC ((j + 1, dm)) ?_ ?_ ⟨(by first | exact at_f rfl | (refine at_e (at_f rfl) (vint ?_); omega) | (refine at_e (at_f rfl) ?_; simp; done) | (refine at_e (at_f rfl) ?_; exact by simp only [hmv2, List.length_append, List.length_cons, List.length_nil])), (by first | exact at_f rfl | (refine at_e (at_f rfl) (vint ?_); omega) | (refine at_e (at_f rfl) ?_; simp; done) | (refine at_e (at_f rfl) ?_; exact by simp only [hmv2, List.length_append, List.length_cons, List.length_nil])), trivial⟩ ⟨at_f rfl, at_f rfl, at_f rfl, at_f rfl, at_f rfl, at_f rfl, at_f rfl, trivial⟩ ?_
        · exact ⟨by omega, by rw [hmv2]; exact hdm⟩
        · first | omega | (simp only []; omega)
        · simp only [hmv2]; exact sbt
    · have hmv2 : (mvK m.pl b (gd b k) (gd b (nx m.pl k a)) a (j + 1)) = (mvK m.pl b (gd b k) (gd b (nx m.pl k a)) a j) := by rw [hmv, if_neg (fun h => by have := h.1; omega)]
      refine n_ft (n_ft (n_ft (n_ft (n_ft (n_ft (n_ft (n_ft (n_ft (n_ft (n_ft (n_ft (n_ft (y_ (yl_pick_f (T rfl) ev_c) (jl_nil (q_then (j_keep [(1, _), (3, _), (4, _), (8, _), (9, _), (10, _), (11, _), (12, _), (34, _), (35, _), (58, _)] ⟨at_f rfl, at_f rfl, at_f rfl, at_f rfl, at_f rfl, at_f rfl, at_f rfl, at_f rfl, at_f rfl, at_f rfl, at_f rfl, trivial⟩ ?_))) rfl) rfl rfl rfl rfl) rfl rfl rfl rfl) rfl rfl rfl rfl) rfl rfl rfl rfl) rfl rfl rfl rfl) rfl rfl rfl rfl) rfl rfl rfl rfl) rfl rfl rfl rfl) rfl rfl rfl rfl) rfl rfl rfl rfl) rfl rfl rfl rfl) rfl rfl rfl rfl) rfl rfl rfl rfl
      first | refine j_cond_f (at_f rfl) ?_ | refine j_cond_f (at_e (at_f rfl) (vbool (decide_eq_false c58))) ?_
      refine j_skip (q_block (q_then (j_region (y_ (yl_add (T rfl) ev_c (by omega)) ?_ rfl))))
      refine y_ (yl_move (T rfl)) (jl_nil ?_) rfl
      refine q_loopC ((j + 1, dm)) ?_ ?_ ⟨(by first | exact at_f rfl | (refine at_e (at_f rfl) (vint ?_); omega) | (refine at_e (at_f rfl) ?_; simp; done) | (refine at_e (at_f rfl) ?_; exact by simp only [hmv2, List.length_append, List.length_cons, List.length_nil])), (by first | exact at_f rfl | (refine at_e (at_f rfl) (vint ?_); omega) | (refine at_e (at_f rfl) ?_; simp; done) | (refine at_e (at_f rfl) ?_; exact by simp only [hmv2, List.length_append, List.length_cons, List.length_nil])), trivial⟩ ⟨at_f rfl, at_f rfl, at_f rfl, at_f rfl, at_f rfl, at_f rfl, at_f rfl, trivial⟩ ?_
      · exact ⟨by omega, by rw [hmv2]; exact hdm⟩
      · first | omega | (simp only []; omega)
      · simp only [hmv2]; exact sbt
  · have hj2 : j = b.length := by omega
    subst hj2
    refine j_exit (q_then_exit (q_loop_exit (q_block_hit (q_then (j_seq (j_region (y_ (yl_move (T rfl)) (y_ (yl_len (T rfl) Tryz.runUnderlying42) (y_ (yl_move ev_c) (jl_nil (q_then (j_block ?_))) rfl) rfl) rfl)))))))
    refine j_loopC (X := Nat) (V := fun i => [(66, .int .i64 (i : Nat))]) (C := [(1, _), (8, _), (64, _), (65, _)]) (G := fun i => slH dm ((mvK m.pl b (gd b k) (gd b (nx m.pl k a)) a b.length).flatMap encU) 3 ++ ((n4, Cl (encMc m) 29) :: (slH d ((setM b (maxF b + 1) ((mvK m.pl b (gd b k) (gd b (nx m.pl k a)) a b.length).take i)).flatMap encU) 3 ++ H))) (φ := fun i => i ≤ (mvK m.pl b (gd b k) (gd b (nx m.pl k a)) a b.length).length) (μ := fun i => (mvK m.pl b (gd b k) (gd b (nx m.pl k a)) a b.length).length - i) (x0 := 0) ?_ ⟨at_f rfl, at_f rfl, at_f rfl, at_f rfl, trivial⟩ ⟨(by first | exact at_f rfl | (refine at_e (at_f rfl) (vint ?_); omega) | (refine at_e (at_f rfl) ?_; simp; done) | (refine at_e (at_f rfl) ?_; exact by simp only [hmv2, List.length_append, List.length_cons, List.length_nil])), trivial⟩ sb0 ?_
    · exact Nat.zero_le _
    rintro i hi
    refine j_seq (j_region (y_ (yl_lss (T rfl) (T rfl)) (jl_nil (q_then (j_seq ?_))) rfl))
    first | refine j_cond_d (at_f rfl) (fun c67 => ?_) (fun c67 => ?_) | refine j_cond (at_f rfl) (fun c67 => ?_) (fun c67 => ?_)
    · have hmi : gd (mvK m.pl b (gd b k) (gd b (nx m.pl k a)) a b.length) i < b.length := ((mem_mvK m.pl b (gd b k) (gd b (nx m.pl k a)) a _ b.length).1 (gd_mem (show i < (mvK m.pl b (gd b k) (gd b (nx m.pl k a)) a b.length).length by omega))).1
      have hst := setM_take (b := b) (f := maxF b + 1) (l := (mvK m.pl b (gd b k) (gd b (nx m.pl k a)) a b.length)) (i := i) (by omega)
      refine j_skip (q_then (j_seq (j_block (j_seq (j_region (y_ (yl_ixQ (T rfl) (T rfl) Tryz.runUnderlying42 Tryz.sizeOf3 (by omega) (by first | exact rfl | exact hd.bas (by omega) | exact hm.a2.b (i := k) (by omega) | exact (hm.r (gd m.rows k) (gd_mem (by omega))).b (i := a) (by omega) | exact hm.a2.b (i := j) (by omega) | exact (hm.r (gd m.rows j) (gd_mem (by omega))).b (i := a) (by omega) | exact hdm.bas (by omega) | exact SlOk.bas (k := b.length) (sz := 1) hd (by omega))) ?_ rfl))))))
      refine y_ (yl_load (T rfl) Tryz.isAgg3 (by first | exact c_o | exact cell1 (((sl_arr (X := H) (enc := encU) (sz := 1) (e := 3) (l := (mvK m.pl b (gd b k) (gd b (nx m.pl k a)) a b.length)) (fun _ => rfl) hdm).mono sbt).cs (i := i) (by omega)) | exact cell1 (((sl_arr (X := H) (enc := encU) (sz := 1) (e := 3) (l := b) (fun _ => rfl) hd).mono sbt).cs (i := k) (by omega)))) ?_ rfl
      refine y_ (yl_assign (T rfl)) (jl_nil (q_then (j_region (y_ (yl_move (T rfl)) (y_ (yl_move (T rfl)) (y_ (yl_move (T rfl)) (y_ (yl_ixQ (T rfl) (T rfl) Tryz.runUnderlying42 Tryz.sizeOf3 (by omega) (by first | exact rfl | exact hd.bas (by omega) | exact hm.a2.b (i := k) (by omega) | exact (hm.r (gd m.rows k) (gd_mem (by omega))).b (i := a) (by omega) | exact hm.a2.b (i := j) (by omega) | exact (hm.r (gd m.rows j) (gd_mem (by omega))).b (i := a) (by omega) | exact hdm.bas (by omega) | exact SlOk.bas (k := b.length) (sz := 1) hd (by omega))) ?_ rfl) rfl) rfl) rfl)))) rfl
      refine e_ (eff_sElem (l := setM b (maxF b + 1) ((mvK m.pl b (gd b k) (gd b (nx m.pl k a)) a b.length).take i)) (e := 3) (enc := encU) (sz := 1) (i := gd (mvK m.pl b (gd b k) (gd b (nx m.pl k a)) a b.length) i) (maxF b + 1) (fun _ => rfl) (by repeat (first | exact LocL.h | apply LocL.t | apply LocL.a)) (T rfl) (T rfl) (.one rfl) rfl Tryz.sizeOf3 (by rw [setM_len]; exact hmi) (by rw [setM_len]; exact hd)) ?_ rfl
      rintro _ _ ⟨rfl, rfl⟩
      refine jl_nil (q_block (q_then (j_region (y_ (yl_add (T rfl) ev_c (by omega)) ?_ rfl))))
      refine y_ (yl_move (T rfl)) (jl_nil ?_) rfl
      refine q_loopC (i + 1) ?_ ?_ ⟨(by first | exact at_f rfl | (refine at_e (at_f rfl) (vint ?_); omega) | (refine at_e (at_f rfl) ?_; simp; done) | (refine at_e (at_f rfl) ?_; exact by simp only [hmv2, List.length_append, List.length_cons, List.length_nil])), trivial⟩ ⟨at_f rfl, at_f rfl, at_f rfl, at_f rfl, trivial⟩ ?_
      · show i + 1 ≤ _; omega
      · first | omega | (simp only []; omega)
      · simp only [hst]; exact sbt
    · refine j_exit (q_then_exit (q_loop_exit (q_block_hit (q_end rfl .nil ?_))))
      have hi2 : i = (mvK m.pl b (gd b k) (gd b (nx m.pl k a)) a b.length).length := by omega
      rw [hi2, List.take_length]
      exact ⟨_, ⟨(), trivial, rfl⟩, sbt⟩
end Go.Proofs.YtkdolgnpkjihpaaGreatDoor
namespace Go.Proofs.YtkdolgnpkjihpaaGreatDoor
open Go.RowKit
set_option linter.unusedVariables false
set_option linter.unusedSimpArgs false
theorem numbered_s {w0 : World} {H : List (Nat × Obj)} (m : Mc) (hm : McOk w0 H m) (hp : PMok m.pl) (hln : m.names.length ≤ 64) (qb : Option Addr) (cb : Nat) (b : List Nat) (hB : Arr w0 H qb 1 encU b) (n : Nat) (hn : b.length = n) (hb : n = m.rows.length) :
    FSpec Tryz.prog w0 105 #[.agg (encMc m).toArray, .slice qb n cb] H (fun v H' => ∃ x : MX, (v = .agg #[.slice m.q1 m.names.length m.c1, slV x.1 x.2.2.length, slV x.2.1 (numF m.pl b).acc.length] ∧ OutOk x (numF m.pl b).next (numF m.pl b).acc) ∧ H' = mOut x (numF m.pl b).acc H) := by
  subst hn
  refine fn_spec Tryz.func105 rfl Tryz.ntmps105 rfl ?_
  have hf := hp.few
  have hfl : m.pl.next.length = m.rows.length := List.length_map ..
  have hs := hp.some'
  have hal : m.acc.length = m.rows.length := by have := hp.acc; rw [hfl] at this; exact this
  refine j_seq (j_region (e_ (eff_box (T rfl) cs_) ?_ rfl))
  rintro _ _ ⟨n2, rfl, rfl⟩
  refine e_ (eff_alloc Tryz.zeroValue29 cs_) ?_ rfl
  rintro _ _ ⟨n4, rfl, rfl⟩
  refine jl_nil (q_then (j_seq (j_region (y_ (yl_fa0 (T rfl) fa29_0) (y_ (yl_load (T rfl) Tryz.isAgg25 (by first | exact c_o)) ?_ rfl) rfl))))
  refine y_ (yl_build (.cons (T rfl) .nil) (bd29_0 _ _ _)) (e_ (eff_alloc Tryz.zeroValue29 cs_) ?_ rfl) rfl
  rintro _ _ ⟨n5, rfl, rfl⟩
  first | refine jl_e (eff_sW (T rfl) (T rfl) Tryz.sizeOf29) rfl gd_n ?_
  rintro _ _ ⟨rfl, rfl⟩
  refine jl_nil (q_then (j_seq (j_region (e_ eff_makeMap ?_ rfl))))
  rintro _ _ ⟨n17, rfl, rfl⟩
  refine y_ (yl_move (T rfl)) (y_ (yl_ixR (T rfl) ev_c Tryz.runUnderlying42 Tryz.sizeOf3 (by omega) (by first | exact rfl | exact hB.b (i := 0) (by omega) | exact hd7.bas (by omega) | exact hm.a2.b (i := gd order k) hokl | exact (hm.r (gd m.rows (gd order k)) (gd_mem hokl)).b (i := i) (by omega) | exact hB.b (i := gd (gd m.rows (gd order k)).l i) (by omega) | exact hd7i.bas (by omega) | exact hm.a3.b (i := gd (numK b (gd m.pl.next (gd order k)) order (gd m.pl.next (gd order k)).length).1 k) (by rw [hgk]; omega))) ?_ rfl) rfl
  refine y_ (yl_load (T rfl) Tryz.isAgg3 (by first | exact c_o | exact cell1 ((hB.mono sbt).cs (i := 0) (by omega)))) ?_ rfl
  refine e_ (eff_insert (l := []) (encV := encIv) (gd b 0) 0 (keyN (V := Nat)) (T rfl) (T rfl) rfl ev_c rfl Tryz.runUnderlying201) ?_ rfl
  rintro _ _ ⟨rfl, rfl⟩
  refine y_ (yl_move (T rfl)) (y_ (yl_assign (T rfl)) (jl_nil (q_then (j_seq (j_region (e_ (eff_bslice (.cons ev_c .nil) (bs42_1_0 _)) ?_ rfl))))) rfl) rfl
  rintro _ _ ⟨n22, rfl, rfl⟩
  refine y_ (yl_assign (T rfl)) (jl_nil (q_then (j_seq (j_seq (j_region (y_ (yl_assign ev_c) (jl_nil (q_then (j_block ?_))) rfl)))))) rfl
  refine j_loopC (X := Nat × List Nat × List Row × List Bool × Sl × Sl × Sl) (V := fun ⟨k, order, rows, acc, d7, dx, da⟩ => [(8, .int .i64 (k : Nat)), (7, slV d7 order.length)]) (C := [(1, _), (2, _), (4, _), (5, _), (6, _)]) (G := fun ⟨k, order, rows, acc, d7, dx, da⟩ => rowsH rows ++ (slH d7 (order.flatMap encU) 3 ++ ((n17, mapO encNK encIv (zipM (order.map (gd b)))) :: (n5, Cl [.slice m.q1 m.names.length m.c1, slV dx rows.length, slV da acc.length] 29) :: (slH dx (rows.flatMap encRow) 42 ++ (slH da (acc.flatMap encB1) 4 ++ ((n4, Cl [.slice none 0 0, .slice none 0 0, .slice none 0 0] 29) :: (n2, Cl (encMc m) 29) :: H)))))) (φ := fun ⟨k, order, rows, acc, d7, dx, da⟩ => OrdOk m.pl b order ∧ k ≤ order.length ∧ rows.length = k ∧ acc.length = k ∧ SlOk d7 order.length 1 ∧ SlOk dx rows.length 1 ∧ SlOk da acc.length 1 ∧ (∀ r ∈ rows, SlOk r.d r.l.length 1) ∧ numGo m.pl b (201 - k) k order (rows.map Row.l) acc = numGo m.pl b 201 0 [0] [] []) (μ := fun ⟨k, order, rows, acc, d7, dx, da⟩ => 201 - k) (x0 := (0, [0], [], [], .blk n22 1 [], .nil, .nil)) ?_ ⟨at_f rfl, at_f rfl, at_f rfl, at_f rfl, at_f rfl, trivial⟩ ⟨(by first | exact at_f rfl | (refine at_e (at_f rfl) (vint ?_); omega) | (refine at_e (at_f rfl) ?_; simp; done) | (refine at_e (at_f rfl) ?_; exact by simp only [hrow, List.length_append, List.length_cons, List.length_nil])), (by first | exact at_f rfl | (refine at_e (at_f rfl) (vint ?_); omega) | (refine at_e (at_f rfl) ?_; simp; done) | (refine at_e (at_f rfl) ?_; exact by simp only [hrow, List.length_append, List.length_cons, List.length_nil])), trivial⟩ sb0 ?_
  · exact ⟨⟨by simp, fun s hs => by
      simp only [List.mem_cons, List.not_mem_nil, or_false] at hs
      subst hs; exact hp.some'⟩, Nat.zero_le _, rfl, rfl, ⟨Nat.le_refl _, rfl⟩, rfl, rfl, (fun r hr => by cases hr), rfl⟩
  rintro ⟨k, order, rows, acc, d7, dx, da⟩ ⟨hord, hko, hrl, hacl, hd7, hox, hoa, hor, hgo⟩
  have hof := hord.few
  refine j_seq (j_seq (j_region (y_ (yl_move (T rfl)) (y_ (yl_move (T rfl)) (y_ (yl_len (T rfl) Tryz.runUnderlying42) (y_ (yl_lss (T rfl) (T rfl)) (jl_nil (q_then ?_)) rfl) rfl) rfl) rfl)))
  first | refine j_cond_d (at_f rfl) (fun c26 => ?_) (fun c26 => ?_) | refine j_cond (at_f rfl) (fun c26 => ?_) (fun c26 => ?_)
  · have hokl : gd order k < m.rows.length := by rw [← hfl]; exact hord.lt _ (gd_mem (by omega))
    obtain ⟨hr1, hr2⟩ := pm_row hp hokl
    have htos : (gd m.pl.next (gd order k)) = (gd m.rows (gd order k)).l := gd_rows _ _
    have htl : ∀ s ∈ (gd m.pl.next (gd order k)), s < m.pl.next.length := fun s hs => by
      rw [htos] at hs
      obtain ⟨j, hj, rfl⟩ := mem_gd.1 hs
      rw [hfl]; exact hr2 j (by omega)
    have htlen : (gd m.pl.next (gd order k)).length = m.names.length + 1 := by rw [htos]; exact hr1
    refine j_skip (q_then (j_seq (j_block (j_seq (j_region (y_ (yl_fa0 (T rfl) fa29_0) (y_ (yl_load (T rfl) Tryz.isAgg25 (by first | exact c_o)) ?_ rfl) rfl))))))
    refine y_ (yl_len (T rfl) Tryz.runUnderlying25) (y_ (yl_add (T rfl) ev_c (by omega)) ?_ rfl) rfl
    refine e_ (eff_makeSlice0 (by' := 8) (k := m.names.length + 1) ev_c (T rfl) Tryz.runUnderlying42 Tryz.sizeOf3 Tryz.typeInfo3 rfl Tryz.zeroValue3 rfl (by omega) (by omega)) ?_ rfl
    rintro _ _ ⟨n33, rfl, rfl⟩
    refine y_ (yl_assign (T rfl)) (jl_nil (q_then (j_seq (j_seq (j_any 10 [(0, true), (1, true), (2, true), (3, true), (4, true), (5, true), (6, true), (7, true), (8, true), (9, true)] _ mixd (by kernel_rfl) sb0 ?_))))) rfl
    refine o_y rfl (yl_fa (T rfl) fa29_1) (o_y rfl (yl_load (T rfl) Tryz.isAgg26 (by first | exact c_o)) ?_ rfl gd_n) rfl gd_n
    refine o_y rfl (yl_move (T rfl)) (o_y rfl (yl_move (T rfl)) (o_y rfl (yl_ixQ (T rfl) (T rfl) Tryz.runUnderlying42 Tryz.sizeOf3 (by omega) (by first | exact rfl | exact hB.b (i := 0) (by omega) | exact hd7.bas (by omega) | exact hm.a2.b (i := gd order k) hokl | exact (hm.r (gd m.rows (gd order k)) (gd_mem hokl)).b (i := i) (by omega) | exact hB.b (i := gd (gd m.rows (gd order k)).l i) (by omega) | exact hd7i.bas (by omega) | exact hm.a3.b (i := gd (numK b (gd m.pl.next (gd order k)) order (gd m.pl.next (gd order k)).length).1 k) (by rw [hgk]; omega))) ?_ rfl gd_n) rfl gd_n) rfl gd_n
    refine o_y rfl (yl_load (T rfl) Tryz.isAgg3 (by first | exact c_o | exact cell1 (((sl_arr (X := H) (enc := encU) (sz := 1) (e := 3) (l := order) (fun _ => rfl) hd7).mono sbt).cs (i := k) (by omega)))) ?_ rfl gd_n
    refine o_y rfl (yl_ixQ (T rfl) (T rfl) Tryz.runUnderlying26 Tryz.sizeOf42 (by omega) (by first | exact rfl | exact hB.b (i := 0) (by omega) | exact hd7.bas (by omega) | exact hm.a2.b (i := gd order k) hokl | exact (hm.r (gd m.rows (gd order k)) (gd_mem hokl)).b (i := i) (by omega) | exact hB.b (i := gd (gd m.rows (gd order k)).l i) (by omega) | exact hd7i.bas (by omega) | exact hm.a3.b (i := gd (numK b (gd m.pl.next (gd order k)) order (gd m.pl.next (gd order k)).length).1 k) (by rw [hgk]; omega))) ?_ rfl gd_n
    refine o_y rfl (yl_load (T rfl) Tryz.isAgg42 (by first | exact c_o | exact cell1 ((hm.a2.mono sbt).cs (i := gd order k) hokl))) ?_ rfl gd_n
    refine o_y rfl (yl_len (T rfl) Tryz.runUnderlying42) (o_y rfl (yl_move ev_c) (jo_nil rfl (jl_nil (q_then (j_keep [(1, _), (2, _), (4, _), (5, _), (6, _), (7, _), (8, _), (9, _), (41, _), (42, _), (43, _)] ⟨at_f rfl, at_f rfl, at_f rfl, at_f rfl, at_f rfl, at_f rfl, at_f rfl, at_f rfl, at_f rfl, at_f rfl, at_f rfl, trivial⟩ (j_block ?_))))) rfl gd_n) rfl gd_n
    refine j_loopC (X := Nat × Sl × Sl) (V := fun ⟨i, d7, d9⟩ => [(43, .int .i64 (i : Nat)), (7, slV d7 (numK b (gd m.pl.next (gd order k)) order i).1.length), (9, slV d9 (numK b (gd m.pl.next (gd order k)) order i).2.length)]) (C := [(1, _), (2, _), (4, _), (5, _), (6, _), (8, _), (41, _), (42, _)]) (G := fun ⟨i, d7, d9⟩ => slH d9 ((numK b (gd m.pl.next (gd order k)) order i).2.flatMap encU) 3 ++ (rowsH rows ++ (slH d7 ((numK b (gd m.pl.next (gd order k)) order i).1.flatMap encU) 3 ++ ((n17, mapO encNK encIv (zipM ((numK b (gd m.pl.next (gd order k)) order i).1.map (gd b)))) :: (n5, Cl [.slice m.q1 m.names.length m.c1, slV dx rows.length, slV da acc.length] 29) :: (slH dx (rows.flatMap encRow) 42 ++ (slH da (acc.flatMap encB1) 4 ++ ((n4, Cl [.slice none 0 0, .slice none 0 0, .slice none 0 0] 29) :: (n2, Cl (encMc m) 29) :: H))))))) (φ := fun ⟨i, d7, d9⟩ => i ≤ (gd m.pl.next (gd order k)).length ∧ SlOk d7 (numK b (gd m.pl.next (gd order k)) order i).1.length 1 ∧ SlOk d9 (numK b (gd m.pl.next (gd order k)) order i).2.length 1) (μ := fun ⟨i, d7, d9⟩ => (gd m.pl.next (gd order k)).length - i) (x0 := (0, d7, .blk n33 (m.names.length + 1) (List.replicate (m.names.length + 1) (.int .i64 0)))) ?_ ⟨at_f rfl, at_f rfl, at_f rfl, at_f rfl, at_f rfl, at_f rfl, at_f rfl, at_f rfl, trivial⟩ ⟨(by first | exact at_f rfl | (refine at_e (at_f rfl) (vint ?_); omega) | (refine at_e (at_f rfl) ?_; simp; done) | (refine at_e (at_f rfl) ?_; exact by simp only [hrow, List.length_append, List.length_cons, List.length_nil])), (by first | exact at_f rfl | (refine at_e (at_f rfl) (vint ?_); omega) | (refine at_e (at_f rfl) ?_; simp; done) | (refine at_e (at_f rfl) ?_; exact by simp only [hrow, List.length_append, List.length_cons, List.length_nil])), (by first | exact at_f rfl | (refine at_e (at_f rfl) (vint ?_); omega) | (refine at_e (at_f rfl) ?_; simp; done) | (refine at_e (at_f rfl) ?_; exact by simp only [hrow, List.length_append, List.length_cons, List.length_nil])), trivial⟩ sb0 ?_
    · exact ⟨Nat.zero_le _, hd7, Nat.zero_le _, by show (List.replicate _ _).length = _; rw [List.length_replicate]; show _ = (_ - 0) * 1; omega⟩
    rintro ⟨i, d7, d9⟩ ⟨hi, hd7i, hd9⟩
    have hstp := hord.step htl i hi
    have hof2 := hstp.1.few
    have hge2 := (numK_get b (gd m.pl.next (gd order k)) (order := order) (k := k) (by omega) i).2
    refine j_seq (j_region (y_ (yl_lss (T rfl) (T rfl)) (jl_nil (q_then (j_seq ?_))) rfl))
    first | refine j_cond_d (at_f rfl) (fun c44 => ?_) (fun c44 => ?_) | refine j_cond (at_f rfl) (fun c44 => ?_) (fun c44 => ?_)
    · have hil : gd (gd m.rows (gd order k)).l i < m.rows.length := hr2 i (by omega)
      have hti : gd (gd m.pl.next (gd order k)) i = gd (gd m.rows (gd order k)).l i := by rw [htos]
      refine j_skip (q_then (j_seq (j_block (j_seq (j_region (y_ (yl_ixQ (T rfl) (T rfl) Tryz.runUnderlying42 Tryz.sizeOf3 (by omega) (by first | exact rfl | exact hB.b (i := 0) (by omega) | exact hd7.bas (by omega) | exact hm.a2.b (i := gd order k) hokl | exact (hm.r (gd m.rows (gd order k)) (gd_mem hokl)).b (i := i) (by omega) | exact hB.b (i := gd (gd m.rows (gd order k)).l i) (by omega) | exact hd7i.bas (by omega) | exact hm.a3.b (i := gd (numK b (gd m.pl.next (gd order k)) order (gd m.pl.next (gd order k)).length).1 k) (by rw [hgk]; omega))) ?_ rfl))))))
      refine y_ (yl_load (T rfl) Tryz.isAgg3 (by first | exact c_o | exact cell1 (((hm.r (gd m.rows (gd order k)) (gd_mem hokl)).mono sbt).cs (i := i) (by omega)))) ?_ rfl
      refine y_ (yl_assign (T rfl)) (jl_nil (q_then ?_)) rfl
      refine j_cutC (X := Sl) (V := fun g7 => [(7, slV g7 (numK b (gd m.pl.next (gd order k)) order (i + 1)).1.length)]) (C := [(1, _), (2, _), (4, _), (5, _), (6, _), (8, _), (9, _), (11, _), (41, _), (42, _), (43, _)]) (G := fun g7 => slH d9 ((numK b (gd m.pl.next (gd order k)) order i).2.flatMap encU) 3 ++ (rowsH rows ++ (slH g7 ((numK b (gd m.pl.next (gd order k)) order (i + 1)).1.flatMap encU) 3 ++ ((n17, mapO encNK encIv (zipM ((numK b (gd m.pl.next (gd order k)) order (i + 1)).1.map (gd b)))) :: (n5, Cl [.slice m.q1 m.names.length m.c1, slV dx rows.length, slV da acc.length] 29) :: (slH dx (rows.flatMap encRow) 42 ++ (slH da (acc.flatMap encB1) 4 ++ ((n4, Cl [.slice none 0 0, .slice none 0 0, .slice none 0 0] 29) :: (n2, Cl (encMc m) 29) :: H))))))) (φ := fun g7 => SlOk g7 (numK b (gd m.pl.next (gd order k)) order (i + 1)).1.length 1) ⟨at_f rfl, at_f rfl, at_f rfl, at_f rfl, at_f rfl, at_f rfl, at_f rfl, at_f rfl, at_f rfl, at_f rfl, at_f rfl, trivial⟩ ?_ ?_
      · refine j_seq (j_region (y_ (yl_move (T rfl)) (y_ (yl_move (T rfl)) (y_ (yl_move (T rfl)) (y_ (yl_ixQ (T rfl) (T rfl) Tryz.runUnderlying42 Tryz.sizeOf3 (by omega) (by first | exact rfl | exact hB.b (i := 0) (by omega) | exact hd7.bas (by omega) | exact hm.a2.b (i := gd order k) hokl | exact (hm.r (gd m.rows (gd order k)) (gd_mem hokl)).b (i := i) (by omega) | exact hB.b (i := gd (gd m.rows (gd order k)).l i) (by omega) | exact hd7i.bas (by omega) | exact hm.a3.b (i := gd (numK b (gd m.pl.next (gd order k)) order (gd m.pl.next (gd order k)).length).1 k) (by rw [hgk]; omega))) ?_ rfl) rfl) rfl) rfl))
        refine y_ (yl_load (T rfl) Tryz.isAgg3 (by first | exact c_o | exact cell1 ((hB.mono sbt).cs (i := gd (gd m.rows (gd order k)).l i) (by omega)))) ?_ rfl
        refine y_ (yl_lookN (l := (numK b (gd m.pl.next (gd order k)) order i).1.map (gd b)) (s := gd b (gd (gd m.rows (gd order k)).l i)) (T rfl) (T rfl) (by repeat (first | exact fnd_h | refine fnd_t ?_ | refine fnd_a ?_))) ?_ rfl
        refine y_ (yl_move (T rfl)) (y_ (yl_extract (T rfl) rfl) (y_ (yl_extract (T rfl) rfl) (y_ (yl_assign (T rfl)) (y_ (yl_assign (T rfl)) (jl_nil (q_then (j_keep [(1, _), (2, _), (4, _), (5, _), (6, _), (7, _), (8, _), (9, _), (11, _), (13, _), (41, _), (42, _), (43, _)] ⟨at_f rfl, at_f rfl, at_f rfl, at_f rfl, at_f rfl, at_f rfl, at_f rfl, at_f rfl, at_f rfl, at_f rfl, at_f rfl, at_f rfl, at_f rfl, trivial⟩ (j_seq (j_region (y_ (yl_move (T rfl)) ?_ rfl)))))) rfl) rfl) rfl) rfl) rfl
        first | refine jl_y (yl_not_d (T rfl)) rfl gd_n ?_ | refine jl_y (yl_not (T rfl)) rfl gd_n ?_
        refine jl_nil (q_then ?_)
        first | refine j_cond_d (at_f rfl) (fun c57 => ?_) (fun c57 => ?_) | refine j_cond (at_f rfl) (fun c57 => ?_) (fun c57 => ?_)
        · have hrow : (numK b (gd m.pl.next (gd order k)) order (i + 1)).1 = (numK b (gd m.pl.next (gd order k)) order i).1 ++ [gd (gd m.rows (gd order k)).l i] := by rw [numK_succ]; simp only [hti]; rw [if_neg c57]
          refine j_seq (j_region (y_ (yl_move (T rfl)) (y_ (yl_move (T rfl)) (y_ (yl_move (T rfl)) (y_ (yl_ixQ (T rfl) (T rfl) Tryz.runUnderlying42 Tryz.sizeOf3 (by omega) (by first | exact rfl | exact hB.b (i := 0) (by omega) | exact hd7.bas (by omega) | exact hm.a2.b (i := gd order k) hokl | exact (hm.r (gd m.rows (gd order k)) (gd_mem hokl)).b (i := i) (by omega) | exact hB.b (i := gd (gd m.rows (gd order k)).l i) (by omega) | exact hd7i.bas (by omega) | exact hm.a3.b (i := gd (numK b (gd m.pl.next (gd order k)) order (gd m.pl.next (gd order k)).length).1 k) (by rw [hgk]; omega))) ?_ rfl) rfl) rfl) rfl))
          refine y_ (yl_load (T rfl) Tryz.isAgg3 (by first | exact c_o | exact cell1 ((hB.mono sbt).cs (i := gd (gd m.rows (gd order k)).l i) (by omega)))) ?_ rfl
          refine y_ (yl_move (T rfl)) (y_ (yl_len (T rfl) Tryz.runUnderlying42) (e_ (eff_mapUpdate (l := zipM ((numK b (gd m.pl.next (gd order k)) order i).1.map (gd b))) (encV := encIv) (gd b (gd (gd m.rows (gd order k)).l i)) ((numK b (gd m.pl.next (gd order k)) order i).1.map (gd b)).length (keyN (V := Nat)) (T rfl) (T rfl) rfl (T rfl) (by simp) Tryz.runUnderlying201) ?_ rfl) rfl) rfl
          rintro _ _ ⟨rfl, rfl⟩
          rw [upsert_zipM c57]
          refine jl_nil (q_then (j_region (y_ (yl_move (T rfl)) (y_ (yl_move (T rfl)) (e_ (eff_bslice (.cons (T rfl) .nil) (bs42_1_0 _)) ?_ rfl) rfl) rfl)))
          rintro _ _ ⟨n67, rfl, rfl⟩
          refine e_ (eff_app1_at (gd (gd m.rows (gd order k)).l i) (by' := 8) (by repeat (first | exact LocL.h | apply LocL.t | apply LocL.a)) (T rfl) (T rfl) Tryz.runUnderlying42 Tryz.runUnderlying42 Tryz.sizeOf3 Tryz.typeInfo3 rfl Tryz.zeroValue3 rfl (fun _ => rfl) rfl hd7i (by decide) (by omega)) ?_ rfl
          rintro _ _ ⟨d7', rfl, hok7, rfl⟩
          refine y_ (yl_assign (T rfl)) (jl_nil ?_) rfl
          refine q_cutC (d7') ?_ ⟨(by first | exact at_f rfl | (refine at_e (at_f rfl) (vint ?_); omega) | (refine at_e (at_f rfl) ?_; simp; done) | (refine at_e (at_f rfl) ?_; exact by simp only [hrow, List.length_append, List.length_cons, List.length_nil])), trivial⟩ ⟨at_f rfl, at_f rfl, at_f rfl, at_f rfl, at_f rfl, at_f rfl, at_f rfl, at_f rfl, at_f rfl, at_f rfl, at_f rfl, trivial⟩ (by simp only [hrow, List.map_append, List.map_cons, List.map_nil]; exact sbt)
          first | (rw [hrow]; simpa using hok7) | (rw [hrow]; exact hd7i)
        · have hrow : (numK b (gd m.pl.next (gd order k)) order (i + 1)).1 = (numK b (gd m.pl.next (gd order k)) order i).1 := by rw [numK_succ]; simp only [hti]; rw [if_pos (Classical.not_not.1 c57)]
          refine j_skip ?_
          refine q_cutC (d7) ?_ ⟨(by first | exact at_f rfl | (refine at_e (at_f rfl) (vint ?_); omega) | (refine at_e (at_f rfl) ?_; simp; done) | (refine at_e (at_f rfl) ?_; exact by simp only [hrow, List.length_append, List.length_cons, List.length_nil])), trivial⟩ ⟨at_f rfl, at_f rfl, at_f rfl, at_f rfl, at_f rfl, at_f rfl, at_f rfl, at_f rfl, at_f rfl, at_f rfl, at_f rfl, trivial⟩ (by simp only [hrow, List.map_append, List.map_cons, List.map_nil]; exact sbt)
          first | (rw [hrow]; simpa using hok7) | (rw [hrow]; exact hd7i)
      rintro g7 hg7
      have hmem : gd b (gd (gd m.rows (gd order k)).l i) ∈ (numK b (gd m.pl.next (gd order k)) order (i + 1)).1.map (gd b) := by rw [← hti]; exact numK_mem _ _ _ _
      refine j_region (y_ (yl_move (T rfl)) (y_ (yl_move (T rfl)) (y_ (yl_move (T rfl)) (y_ (yl_move (T rfl)) (y_ (yl_ixQ (T rfl) (T rfl) Tryz.runUnderlying42 Tryz.sizeOf3 (by omega) (by first | exact rfl | exact hB.b (i := 0) (by omega) | exact hd7.bas (by omega) | exact hm.a2.b (i := gd order k) hokl | exact (hm.r (gd m.rows (gd order k)) (gd_mem hokl)).b (i := i) (by omega) | exact hB.b (i := gd (gd m.rows (gd order k)).l i) (by omega) | exact hd7i.bas (by omega) | exact hm.a3.b (i := gd (numK b (gd m.pl.next (gd order k)) order (gd m.pl.next (gd order k)).length).1 k) (by rw [hgk]; omega))) ?_ rfl) rfl) rfl) rfl) rfl)
      refine y_ (yl_load (T rfl) Tryz.isAgg3 (by first | exact c_o | exact cell1 ((hB.mono sbt).cs (i := gd (gd m.rows (gd order k)).l i) (by omega)))) ?_ rfl
      refine y_ (yl_lookN1 (l := (numK b (gd m.pl.next (gd order k)) order (i + 1)).1.map (gd b)) (s := gd b (gd (gd m.rows (gd order k)).l i)) hmem (T rfl) (T rfl) (by repeat (first | exact fnd_h | refine fnd_t ?_ | refine fnd_a ?_))) ?_ rfl
      refine e_ (eff_bslice (.cons (T rfl) .nil) (bs42_1_0 _)) ?_ rfl
      rintro _ _ ⟨n76, rfl, rfl⟩
      refine e_ (eff_app1_at (idx ((numK b (gd m.pl.next (gd order k)) order (i + 1)).1.map (gd b)) (gd b (gd (gd m.rows (gd order k)).l i))) (by' := 8) (by repeat (first | exact LocL.h | apply LocL.t | apply LocL.a)) (T rfl) (T rfl) Tryz.runUnderlying42 Tryz.runUnderlying42 Tryz.sizeOf3 Tryz.typeInfo3 rfl Tryz.zeroValue3 rfl (fun _ => rfl) rfl hd9 (by decide) (by have := hstp.2.1; omega)) ?_ rfl
      rintro _ _ ⟨d9', rfl, hok9, rfl⟩
      refine y_ (yl_assign (T rfl)) (jl_nil (q_block (q_then (j_region (y_ (yl_add (T rfl) ev_c (by omega)) ?_ rfl))))) rfl
      refine y_ (yl_move (T rfl)) (jl_nil ?_) rfl
      have hrow : (numK b (gd m.pl.next (gd order k)) order (i + 1)).2 = (numK b (gd m.pl.next (gd order k)) order i).2 ++ [idx ((numK b (gd m.pl.next (gd order k)) order (i + 1)).1.map (gd b)) (gd b (gd (gd m.rows (gd order k)).l i))] := by rw [← hti, numK_idx, numK_succ]
      refine q_loopC ((i + 1, g7, d9')) ?_ ?_ ⟨(by first | exact at_f rfl | (refine at_e (at_f rfl) (vint ?_); omega) | (refine at_e (at_f rfl) ?_; simp; done) | (refine at_e (at_f rfl) ?_; exact by simp only [hrow, List.length_append, List.length_cons, List.length_nil])), (by first | exact at_f rfl | (refine at_e (at_f rfl) (vint ?_); omega) | (refine at_e (at_f rfl) ?_; simp; done) | (refine at_e (at_f rfl) ?_; exact by simp only [hrow, List.length_append, List.length_cons, List.length_nil])), (by first | exact at_f rfl | (refine at_e (at_f rfl) (vint ?_); omega) | (refine at_e (at_f rfl) ?_; simp; done) | (refine at_e (at_f rfl) ?_; exact by simp only [hrow, List.length_append, List.length_cons, List.length_nil])), trivial⟩ ⟨at_f rfl, at_f rfl, at_f rfl, at_f rfl, at_f rfl, at_f rfl, at_f rfl, at_f rfl, trivial⟩ ?_
      · exact ⟨by omega, hg7, by rw [hrow, List.length_append]; exact hok9⟩
      · first | omega | (simp only []; omega)
      · simp only [hrow]; exact sbt
    · have hi2 : i = (gd m.pl.next (gd order k)).length := by omega
      subst hi2
      have hgk := (numK_get b (gd m.pl.next (gd order k)) (order := order) (k := k) (by omega) (gd m.pl.next (gd order k)).length).1
      refine j_exit (q_then_exit (q_loop_exit (q_block_hit (q_then (j_seq (j_region (y_ (yl_fa (T rfl) fa29_1) (y_ (yl_load (T rfl) Tryz.isAgg26 (by first | exact c_o)) ?_ rfl) rfl)))))))
      refine y_ (yl_move (T rfl)) (e_ (eff_bslice (.cons (T rfl) .nil) (bs26_1_0 _ _ _)) ?_ rfl) rfl
      rintro _ _ ⟨n82, rfl, rfl⟩
      refine e_ (eff_app1_at ((⟨d9, (numK b (gd m.pl.next (gd order k)) order (gd m.pl.next (gd order k)).length).2⟩ : Row)) (by' := 24) (by repeat (first | exact LocL.h | apply LocL.t | apply LocL.a)) (T rfl) (T rfl) Tryz.runUnderlying26 Tryz.runUnderlying26 Tryz.sizeOf42 Tryz.typeInfo42 rfl Tryz.zeroValue42 rfl (fun _ => rfl) rfl hox (by decide) (by omega)) ?_ rfl
      rintro _ _ ⟨dx', rfl, hokx, rfl⟩
      refine y_ (yl_fa (T rfl) fa29_1) ?_ rfl
      first | refine jl_e (eff_sW (T rfl) (T rfl) Tryz.sizeOf26) rfl gd_n ?_ | refine jl_e (eff_s1 (T rfl) (T rfl) rfl Tryz.sizeOf26) rfl gd_n ?_ | refine jl_e (eff_s1r (T rfl) (T rfl) rfl Tryz.sizeOf26) rfl gd_n ?_
      rintro _ _ ⟨rfl, rfl⟩
      refine jl_nil (q_then (j_any 11 [(0, true), (1, true), (2, true), (3, true), (4, true), (5, true), (6, true), (7, true), (8, true), (9, true), (10, false)] _ mixd (by kernel_rfl) (by exact sbt) ?_))
      refine o_y rfl (yl_fa (T rfl) fa29_2) (o_y rfl (yl_load (T rfl) Tryz.isAgg27 (by first | exact c_o)) ?_ rfl gd_n) rfl gd_n
      refine o_y rfl (yl_fa (T rfl) fa29_2) (o_y rfl (yl_load (T rfl) Tryz.isAgg27 (by first | exact c_o)) ?_ rfl gd_n) rfl gd_n
      refine o_y rfl (yl_move (T rfl)) (o_y rfl (yl_move (T rfl)) (o_y rfl (yl_ixQ (T rfl) (T rfl) Tryz.runUnderlying42 Tryz.sizeOf3 (by omega) (by first | exact rfl | exact hB.b (i := 0) (by omega) | exact hd7.bas (by omega) | exact hm.a2.b (i := gd order k) hokl | exact (hm.r (gd m.rows (gd order k)) (gd_mem hokl)).b (i := i) (by omega) | exact hB.b (i := gd (gd m.rows (gd order k)).l i) (by omega) | exact hd7i.bas (by omega) | exact hm.a3.b (i := gd (numK b (gd m.pl.next (gd order k)) order (gd m.pl.next (gd order k)).length).1 k) (by rw [hgk]; omega))) ?_ rfl gd_n) rfl gd_n) rfl gd_n
      refine o_y rfl (yl_load (T rfl) Tryz.isAgg3 (by first | exact c_o | exact cell1 (((sl_arr (X := H) (enc := encU) (sz := 1) (e := 3) (l := (numK b (gd m.pl.next (gd order k)) order (gd m.pl.next (gd order k)).length).1) (fun _ => rfl) hd7i).mono sbt).cs (i := k) (by omega)))) ?_ rfl gd_n
      refine o_y rfl (yl_ixQ (T rfl) (T rfl) Tryz.runUnderlying27 Tryz.sizeOf4 (by rw [hgk]; omega) (by first | exact rfl | exact hB.b (i := 0) (by omega) | exact hd7.bas (by omega) | exact hm.a2.b (i := gd order k) hokl | exact (hm.r (gd m.rows (gd order k)) (gd_mem hokl)).b (i := i) (by omega) | exact hB.b (i := gd (gd m.rows (gd order k)).l i) (by omega) | exact hd7i.bas (by omega) | exact hm.a3.b (i := gd (numK b (gd m.pl.next (gd order k)) order (gd m.pl.next (gd order k)).length).1 k) (by rw [hgk]; omega))) ?_ rfl gd_n
      refine o_y rfl (yl_load (T rfl) Tryz.isAgg4 (by first | exact c_o | exact cell1 ((hm.a3.mono sbt).cs (i := gd (numK b (gd m.pl.next (gd order k)) order (gd m.pl.next (gd order k)).length).1 k) (by rw [hgk]; omega)))) ?_ rfl gd_n
      refine o_e rfl (eff_bslice (.cons (T rfl) .nil) (bs27_1_0 _)) ?_ rfl gd_n
      rintro _ _ ⟨n95, rfl, rfl⟩
      refine ⟨sbt, (jo_nil rfl (e_ (eff_app1_at (gd m.acc (gd order k)) (by' := 1) (by repeat (first | exact LocL.h | apply LocL.t | apply LocL.a)) (T rfl) (T rfl) Tryz.runUnderlying27 Tryz.runUnderlying27 Tryz.sizeOf4 Tryz.typeInfo4 rfl Tryz.zeroValue4 rfl (fun _ => rfl) rfl hoa (by decide) (by omega) (hn := cs_b1 (congrArg (gd m.acc) hgk).symm cs_o)) ?_ rfl))⟩
      rintro _ _ ⟨da', rfl, hoka, rfl⟩
      refine y_ (yl_fa (T rfl) fa29_2) ?_ rfl
      first | refine jl_e (eff_sW (T rfl) (T rfl) Tryz.sizeOf27) rfl gd_n ?_ | refine jl_e (eff_s1 (T rfl) (T rfl) rfl Tryz.sizeOf27) rfl gd_n ?_ | refine jl_e (eff_s1r (T rfl) (T rfl) rfl Tryz.sizeOf27) rfl gd_n ?_
      rintro _ _ ⟨rfl, rfl⟩
      refine jl_nil (q_block (q_then (j_keep [(1, _), (2, _), (4, _), (5, _), (6, _), (7, _), (8, _)] ⟨at_f rfl, at_f rfl, at_f rfl, at_f rfl, at_f rfl, at_f rfl, at_f rfl, trivial⟩ (j_region (y_ (yl_move (T rfl)) (y_ (yl_add (T rfl) ev_c (by omega)) ?_ rfl) rfl)))))
      refine y_ (yl_assign (T rfl)) (jl_nil ?_) rfl
      refine q_loopC ((k + 1, (numK b (gd m.pl.next (gd order k)) order (gd m.pl.next (gd order k)).length).1, rows ++ [(⟨d9, (numK b (gd m.pl.next (gd order k)) order (gd m.pl.next (gd order k)).length).2⟩ : Row)], acc ++ [gd m.acc (gd order k)], d7, dx', da')) ?_ ?_ ⟨(by first | exact at_f rfl | (refine at_e (at_f rfl) (vint ?_); omega) | (refine at_e (at_f rfl) ?_; simp; done) | (refine at_e (at_f rfl) ?_; exact by simp only [hrow, List.length_append, List.length_cons, List.length_nil])), (by first | exact at_f rfl | (refine at_e (at_f rfl) (vint ?_); omega) | (refine at_e (at_f rfl) ?_; simp; done) | (refine at_e (at_f rfl) ?_; exact by simp only [hrow, List.length_append, List.length_cons, List.length_nil])), trivial⟩ ⟨at_f rfl, at_f rfl, at_f rfl, at_f rfl, at_f rfl, trivial⟩ ?_
      · have hst2 := hord.step htl (gd m.pl.next (gd order k)).length (Nat.le_refl _)
        have hge := (numK_get b (gd m.pl.next (gd order k)) (order := order) (k := k) (by omega) (gd m.pl.next (gd order k)).length).2
        refine ⟨hst2.1, by omega, by simp [hrl], by simp [hacl], hd7i, by simpa using hokx, by simpa using hoka, ?_, ?_⟩
        · intro r hr
          simp only [List.mem_append, List.mem_cons, List.not_mem_nil, or_false] at hr
          rcases hr with hr | rfl
          · exact hor r hr
          · exact hd9
        · rw [← hgo, List.map_append, show 201 - k = (200 - k) + 1 by omega, numGo_succ, if_pos (show k < order.length by omega), show 201 - (k + 1) = 200 - k by omega]; rfl
      · show 201 - (k + 1) < 201 - k; omega
      · simp only [rowsH_app, List.append_assoc, List.length_append, List.length_cons, List.length_nil, Nat.zero_add]; exact sbt
  · refine j_exit (q_then_exit (q_loop_exit (q_block_hit (q_then (j_seq (j_region (y_ (yl_loadA (T rfl) Tryz.isAgg29 Tryz.sizeOf29 rfl (by first | exact cs_o)) ?_ rfl)))))))
    first | refine jl_e (eff_sW (T rfl) (T rfl) Tryz.sizeOf29) rfl gd_n ?_
    rintro _ _ ⟨rfl, rfl⟩
    refine jl_nil (q_then (j_ret (q_ret rfl (.cellA (at_f rfl) Tryz.isAgg29 Tryz.sizeOf29 rfl (by first | exact cs_o) .nil) ?_)))
    have hfin : numGo m.pl b 201 0 [0] [] [] = (rows.map Row.l, acc) := by rw [← hgo, show 201 - k = (200 - k) + 1 by omega, numGo_succ, if_neg (by omega)]
    unfold numF
    rw [hfin]
    exact ⟨_, ⟨(dx, da, rows), ⟨rfl, hox, hoa, rfl, hor⟩, rfl⟩, sbt⟩
end Go.Proofs.YtkdolgnpkjihpaaGreatDoor
namespace Go.Proofs.YtkdolgnpkjihpaaGreatDoor
open Go.RowKit
set_option linter.unusedVariables false
set_option linter.unusedSimpArgs false
theorem row_zero (r : List Nat) (m : Nat) (h : r.length < m) : r.flatMap encU ++ List.replicate (m - r.length) (Value.int .i64 0) = (r ++ [0]).flatMap encU ++ List.replicate (m - (r.length + 1)) (Value.int .i64 0) := by
  rw [List.flatMap_append, show m - r.length = (m - (r.length + 1)) + 1 by omega, List.replicate_succ]
  simp
abbrev bit (y : Bool) : Nat := if y then 1 else 0
theorem bit_take {l : List Bool} {k : Nat} (h : k < l.length) : (l.take (k + 1)).map bit = (l.take k).map bit ++ [bit (gd l k)] := by
  rw [List.take_add_one, gd_get h]; simp
theorem least_s {w0 : World} : LeastS w0 leastF := by
  intro H m hm hp hln
  refine fn_spec Tryz.func54 rfl Tryz.ntmps54 rfl ?_
  have hf := hp.few
  have hfl : m.pl.next.length = m.rows.length := List.length_map ..
  have hs := hp.some'
  have hal : m.acc.length = m.rows.length := by have := hp.acc; rw [hfl] at this; exact this
  refine j_seq (j_region (e_ (eff_box (T rfl) cs_) ?_ rfl))
  rintro _ _ ⟨n1, rfl, rfl⟩
  refine e_ (eff_alloc Tryz.zeroValue29 cs_) ?_ rfl
  rintro _ _ ⟨n2, rfl, rfl⟩
  refine jl_nil (q_then (j_scope (j_seq (j_region (y_ (yl_fa (T rfl) fa29_1) (y_ (yl_load (T rfl) Tryz.isAgg26 (by first | exact c_o)) ?_ rfl) rfl)))))
  refine y_ (yl_len (T rfl) Tryz.runUnderlying26) (e_ (eff_makeSlice (by' := 8) (k := m.rows.length) (T rfl) Tryz.runUnderlying42 Tryz.sizeOf3 Tryz.typeInfo3 rfl Tryz.zeroValue3 rfl (by omega) (by omega)) ?_ rfl) rfl
  rintro _ _ ⟨n12, rfl, rfl⟩
  refine y_ (yl_assign (T rfl)) (jl_nil (q_then (j_seq (j_seq (j_region (y_ (yl_fa (T rfl) fa29_2) (y_ (yl_load (T rfl) Tryz.isAgg27 (by first | exact c_o)) ?_ rfl) rfl)))))) rfl
  refine y_ (yl_len (T rfl) Tryz.runUnderlying27) (y_ (yl_move ev_c) (jl_nil (q_then (j_block ?_))) rfl) rfl
  refine j_loopC (X := Nat) (V := fun k => [(16, .int .i64 (k : Nat))]) (C := [(1, _), (2, _), (3, _), (14, _), (15, _)]) (G := fun k => (n12, Cl (((m.acc.take k).map bit).flatMap encU ++ List.replicate (m.rows.length - ((m.acc.take k).map bit).length) (.int .i64 0)) 3) :: ((n2, Cl [.slice none 0 0, .slice none 0 0, .slice none 0 0] 29) :: (n1, Cl (encMc m) 29) :: H)) (φ := fun k => k ≤ m.rows.length) (μ := fun k => m.rows.length - k) (x0 := 0) ?_ ⟨at_f rfl, at_f rfl, at_f rfl, at_f rfl, at_f rfl, trivial⟩ ⟨(by first | exact at_f rfl | (refine at_e (at_f rfl) (vint ?_); omega) | (refine at_e (at_f rfl) ?_; simp; done)), trivial⟩ sb0 ?_
  · exact Nat.zero_le _
  rintro k hk
  refine j_seq (j_region (y_ (yl_lss (T rfl) (T rfl)) (jl_nil (q_then (j_seq ?_))) rfl))
  first | refine j_cond_d (at_f rfl) (fun c17 => ?_) (fun c17 => ?_) | refine j_cond (at_f rfl) (fun c17 => ?_) (fun c17 => ?_)
  · have hkl : k < m.rows.length := by omega
    have hbt := bit_take (l := m.acc) (k := k) (by omega)
    refine j_skip (q_then (j_seq (j_block (j_seq (j_region (y_ (yl_move (T rfl)) (y_ (yl_ixQ (T rfl) (T rfl) Tryz.runUnderlying27 Tryz.sizeOf4 (by omega) (by first | exact rfl | exact hm.a3.b (i := k) (by omega) | exact hm.a2.b (i := k) (by omega) | exact hm.a2.b (i := i) (by omega) | exact (hm.r (gd m.rows i) (gd_mem (by omega))).b (i := a) (by omega) | exact (hm.r (gd m.rows k) (gd_mem (by omega))).b (i := a) (by omega))) ?_ rfl) rfl))))))
    refine y_ (yl_load (T rfl) Tryz.isAgg4 (by first | exact c_o | exact cell1 ((hm.a3.mono sbt).cs (i := k) (by omega)))) ?_ rfl
    refine y_ (yl_assign (T rfl)) (y_ (yl_assign (T rfl)) (jl_nil (q_then (j_seq (j_region (y_ (yl_move (T rfl)) (jl_nil (q_then ?_)) rfl))))) rfl) rfl
    first | refine j_cond_d (at_f rfl) (fun c21 => ?_) (fun c21 => ?_) | refine j_cond (at_f rfl) (fun c21 => ?_) (fun c21 => ?_)
    · have hbit : ((m.acc.take (k + 1)).map bit) = ((m.acc.take k).map bit) ++ [1] := by rw [hbt, c21]; rfl
      refine j_region (y_ (yl_move (T rfl)) (y_ (yl_move (T rfl)) (y_ (yl_ixQ (T rfl) (T rfl) Tryz.runUnderlying42 Tryz.sizeOf3 (by omega) (by first | exact rfl | exact hm.a3.b (i := k) (by omega) | exact hm.a2.b (i := k) (by omega) | exact hm.a2.b (i := i) (by omega) | exact (hm.r (gd m.rows i) (gd_mem (by omega))).b (i := a) (by omega) | exact (hm.r (gd m.rows k) (gd_mem (by omega))).b (i := a) (by omega))) ?_ rfl) rfl) rfl)
      refine e_ (eff_sRow (m := m.rows.length) (v := 1) ((m.acc.take k).map bit) (by simp; omega) (T rfl) ev_c Tryz.sizeOf3 (by simp; omega) (by (repeat (first | exact Upd.h | apply Upd.t | apply upd_a)); done)) ?_ rfl
      rintro _ _ ⟨rfl, rfl⟩
      refine jl_nil (q_block (q_then (j_region (y_ (yl_add (T rfl) ev_c (by omega)) ?_ rfl))))
      refine y_ (yl_move (T rfl)) (jl_nil ?_) rfl
      refine q_loopC (k + 1) ?_ ?_ ⟨(by first | exact at_f rfl | (refine at_e (at_f rfl) (vint ?_); omega) | (refine at_e (at_f rfl) ?_; simp; done)), trivial⟩ ⟨at_f rfl, at_f rfl, at_f rfl, at_f rfl, at_f rfl, trivial⟩ ?_
      · show k + 1 ≤ _; omega
      · first | omega | (simp only []; omega)
      · simp only [hbit, List.length_append, List.length_cons, List.length_nil, Nat.zero_add]; exact sbt
    · have hbit : ((m.acc.take (k + 1)).map bit) = ((m.acc.take k).map bit) ++ [0] := by rw [hbt, c21]; rfl
      rw [row_zero ((m.acc.take k).map bit) m.rows.length (by simp; omega)]
      refine j_skip (q_block (q_then (j_region (y_ (yl_add (T rfl) ev_c (by omega)) ?_ rfl))))
      refine y_ (yl_move (T rfl)) (jl_nil ?_) rfl
      refine q_loopC (k + 1) ?_ ?_ ⟨(by first | exact at_f rfl | (refine at_e (at_f rfl) (vint ?_); omega) | (refine at_e (at_f rfl) ?_; simp; done)), trivial⟩ ⟨at_f rfl, at_f rfl, at_f rfl, at_f rfl, at_f rfl, trivial⟩ ?_
      · show k + 1 ≤ _; omega
      · first | omega | (simp only []; omega)
      · simp only [hbit, List.length_append, List.length_cons, List.length_nil, Nat.zero_add]; exact sbt
  · have hk2 : k = m.rows.length := by omega
    have e1 : ((m.acc.take k).map bit) = initB m.pl := by rw [hk2, ← hal, List.take_length]; rfl
    have e2 : (initB m.pl).length = m.rows.length := by unfold initB; rw [List.length_map]; exact hal
    simp only [e1, e2, Nat.sub_self, List.replicate_zero]
    refine j_exit (q_then_exit (q_loop_exit (q_block_hit (q_then (j_seq (j_label (q_then (j_block ?_))))))))
    refine j_loopC (X := List Nat × Nat) (V := fun ⟨b, f⟩ => []) (C := [(1, _), (2, _), (3, _)]) (G := fun ⟨b, f⟩ => slH (.blk n12 m.rows.length []) (b.flatMap encU) 3 ++ ((n2, Cl [.slice none 0 0, .slice none 0 0, .slice none 0 0] 29) :: (n1, Cl (encMc m) 29) :: H)) (φ := fun ⟨b, f⟩ => b.length = m.rows.length ∧ Cont b ∧ m.rows.length + 1 ≤ f + maxF b ∧ refineF m.pl f b = refineF m.pl 201 (initB m.pl)) (μ := fun ⟨b, f⟩ => f) (x0 := (initB m.pl, 201)) ?_ ⟨at_f rfl, at_f rfl, at_f rfl, trivial⟩ trivial sb0 ?_
    · exact ⟨by unfold initB; rw [List.length_map]; exact hal, Cont.init (by rw [show m.pl.acc = m.acc from rfl]; omega), by omega, rfl⟩
    rintro ⟨b, f⟩ ⟨hbl, hco, hfu, href⟩
    have hd : SlOk (.blk n12 m.rows.length []) b.length 1 := ⟨Nat.le_of_eq hbl, by show 0 = (_ - _) * 1; rw [hbl]; omega⟩
    have hmax := hco.max_le
    obtain ⟨f, rfl⟩ : ∃ g, f = g + 1 := ⟨f - 1, by omega⟩
    refine j_block (j_seq (j_seq (j_region (y_ (yl_move (T rfl)) (y_ (yl_len (T rfl) Tryz.runUnderlying42) (y_ (yl_move ev_c) (jl_nil (q_then (j_block ?_))) rfl) rfl) rfl))))
    refine j_loopH (X := Nat) (V := fun k => [(28, .int .i64 (k : Nat))]) (C := [(1, _), (2, _), (3, _), (27, _)]) (φ := fun k => k ≤ m.rows.length ∧ ∀ j, j < k → fsI m.pl b j = none) (μ := fun k => m.rows.length - k) (x0 := 0) ?_ ⟨at_f rfl, at_f rfl, at_f rfl, at_f rfl, trivial⟩ ⟨(by first | exact at_f rfl | (refine at_e (at_f rfl) (vint ?_); omega) | (refine at_e (at_f rfl) ?_; simp; done)), trivial⟩ ?_
    · exact ⟨Nat.zero_le _, fun j hj => absurd hj (Nat.not_lt_zero _)⟩
    rintro k ⟨hk, hfs⟩
    refine j_seq (j_region (y_ (yl_lss (T rfl) (T rfl)) (jl_nil (q_then (j_seq ?_))) rfl))
    first | refine j_cond_d (at_f rfl) (fun c29 => ?_) (fun c29 => ?_) | refine j_cond (at_f rfl) (fun c29 => ?_) (fun c29 => ?_)
    · have hkn : k < m.rows.length := by omega
      obtain ⟨hk1, hk2⟩ := pm_row hp hkn
      refine j_skip (q_then (j_seq (j_block (j_seq (j_region (y_ (yl_move (T rfl)) (y_ (yl_assign (T rfl)) (jl_nil (q_then (j_seq (j_region (y_ (yl_move (T rfl)) (y_ (yl_move ev_c) (jl_nil (q_then (j_block ?_))) rfl) rfl))))) rfl) rfl))))))
      refine j_loopH (X := Nat) (V := fun i => [(32, .int .i64 (i : Nat))]) (C := [(1, _), (2, _), (3, _), (6, _), (27, _), (28, _), (31, _)]) (φ := fun i => i ≤ k ∧ ∀ j, j < i → (if gd b j = gd b k then fsA m.pl b k j else none) = none) (μ := fun i => k - i) (x0 := 0) ?_ ⟨at_f rfl, at_f rfl, at_f rfl, at_f rfl, at_f rfl, at_f rfl, at_f rfl, trivial⟩ ⟨(by first | exact at_f rfl | (refine at_e (at_f rfl) (vint ?_); omega) | (refine at_e (at_f rfl) ?_; simp; done)), trivial⟩ ?_
      · exact ⟨Nat.zero_le _, fun j hj => absurd hj (Nat.not_lt_zero _)⟩
      rintro i ⟨hi, hfi⟩
      refine j_seq (j_region (y_ (yl_lss (T rfl) (T rfl)) (jl_nil (q_then (j_seq ?_))) rfl))
      first | refine j_cond_d (at_f rfl) (fun c33 => ?_) (fun c33 => ?_) | refine j_cond (at_f rfl) (fun c33 => ?_) (fun c33 => ?_)
      · have hin : i < m.rows.length := by omega
        obtain ⟨hi1, hi2⟩ := pm_row hp hin
        refine j_skip (q_then (j_seq (j_block (j_seq (j_region (y_ (yl_move (T rfl)) (y_ (yl_assign (T rfl)) (jl_nil (q_then (j_seq (j_seq (j_any 9 [(0, true), (1, true), (2, true), (3, true), (4, true), (5, true), (6, true), (7, true), (8, true)] _ mixd (by kernel_rfl) sb0 ?_ (by repeat (first | exact np_ret | exact np_round | exact np_assign | apply np_scope | apply np_then | apply np_block | apply np_loop | apply np_cut))))))) rfl) rfl))))))
        refine o_y rfl (yl_move (T rfl)) (o_y rfl (yl_move (T rfl)) (o_y rfl (yl_ixQ (T rfl) (T rfl) Tryz.runUnderlying42 Tryz.sizeOf3 (by omega) (by first | exact rfl | exact hm.a3.b (i := k) (by omega) | exact hm.a2.b (i := k) (by omega) | exact hm.a2.b (i := i) (by omega) | exact (hm.r (gd m.rows i) (gd_mem (by omega))).b (i := a) (by omega) | exact (hm.r (gd m.rows k) (gd_mem (by omega))).b (i := a) (by omega))) ?_ rfl gd_n) rfl gd_n) rfl gd_n
        refine o_y rfl (yl_load (T rfl) Tryz.isAgg3 (by first | exact c_o | exact cell1 (((sl_arr (X := H) (enc := encU) (sz := 1) (e := 3) (l := b) (fun _ => rfl) hd).mono sbt).cs (i := i) (by omega)))) ?_ rfl gd_n
        refine o_y rfl (yl_move (T rfl)) (o_y rfl (yl_move (T rfl)) (o_y rfl (yl_ixR (T rfl) (T rfl) Tryz.runUnderlying42 Tryz.sizeOf3 (by omega) (by first | exact rfl | exact hm.a3.b (i := k) (by omega) | exact hm.a2.b (i := k) (by omega) | exact hm.a2.b (i := i) (by omega) | exact (hm.r (gd m.rows i) (gd_mem (by omega))).b (i := a) (by omega) | exact (hm.r (gd m.rows k) (gd_mem (by omega))).b (i := a) (by omega))) ?_ rfl gd_n) rfl gd_n) rfl gd_n
        refine o_y rfl (yl_load (T rfl) Tryz.isAgg3 (by first | exact c_o | exact cell1 (((sl_arr (X := H) (enc := encU) (sz := 1) (e := 3) (l := b) (fun _ => rfl) hd).mono sbt).cs (i := k) (by omega)))) ?_ rfl gd_n
        refine o_y rfl (yl_neq (T rfl) (T rfl)) (jo_nil rfl (jl_nil (q_then ?_))) rfl gd_n
        first | refine j_cond_d (at_f rfl) (fun c43 => ?_) (fun c43 => ?_) | refine j_cond (at_f rfl) (fun c43 => ?_) (fun c43 => ?_)
        · have hiA : (if gd b i = gd b k then fsA m.pl b k i else none) = none := if_neg (by omega)
          refine j_exit (q_then_exit (q_block_hit (q_then (j_region (y_ (yl_add (T rfl) ev_c (by omega)) ?_ rfl)))))
          refine y_ (yl_move (T rfl)) (jl_nil ?_) rfl
          refine q_loopC (i + 1) ?_ ?_ ⟨(by first | exact at_f rfl | (refine at_e (at_f rfl) (vint ?_); omega) | (refine at_e (at_f rfl) ?_; simp; done)), trivial⟩ ⟨at_f rfl, at_f rfl, at_f rfl, at_f rfl, at_f rfl, at_f rfl, at_f rfl, trivial⟩ ?_
          · refine ⟨by omega, fun j hj => ?_⟩
            by_cases e : j = i
            · subst e; exact hiA
            · exact hfi j (by omega)
          · first | omega | (simp only []; omega)
          · exact sbt
        · refine j_skip (q_then (j_seq (j_region (y_ (yl_fa (T rfl) fa29_1) (y_ (yl_load (T rfl) Tryz.isAgg26 (by first | exact c_o)) ?_ rfl) rfl))))
          refine y_ (yl_move (T rfl)) (y_ (yl_ixR (T rfl) (T rfl) Tryz.runUnderlying26 Tryz.sizeOf42 (by omega) (by first | exact rfl | exact hm.a3.b (i := k) (by omega) | exact hm.a2.b (i := k) (by omega) | exact hm.a2.b (i := i) (by omega) | exact (hm.r (gd m.rows i) (gd_mem (by omega))).b (i := a) (by omega) | exact (hm.r (gd m.rows k) (gd_mem (by omega))).b (i := a) (by omega))) ?_ rfl) rfl
          refine y_ (yl_load (T rfl) Tryz.isAgg42 (by first | exact c_o | exact cell1 ((hm.a2.mono sbt).cs (i := k) (by omega)))) ?_ rfl
          refine y_ (yl_len (T rfl) Tryz.runUnderlying42) (y_ (yl_move ev_c) (jl_nil (q_then (j_keep [(1, _), (2, _), (3, _), (6, _), (7, _), (27, _), (28, _), (31, _), (32, _), (49, _), (50, _)] ⟨at_f rfl, at_f rfl, at_f rfl, at_f rfl, at_f rfl, at_f rfl, at_f rfl, at_f rfl, at_f rfl, at_f rfl, at_f rfl, trivial⟩ (j_block ?_)))) rfl) rfl
          refine j_loopH (X := Nat) (V := fun a => [(50, .int .i64 (a : Nat))]) (C := [(1, _), (2, _), (3, _), (6, _), (7, _), (27, _), (28, _), (31, _), (32, _), (49, _)]) (φ := fun a => a ≤ m.names.length + 1 ∧ ∀ a2, a2 < a → gd b (nx m.pl i a2) = gd b (nx m.pl k a2)) (μ := fun a => m.names.length + 1 - a) (x0 := 0) ?_ ⟨at_f rfl, at_f rfl, at_f rfl, at_f rfl, at_f rfl, at_f rfl, at_f rfl, at_f rfl, at_f rfl, at_f rfl, trivial⟩ ⟨(by first | exact at_f rfl | (refine at_e (at_f rfl) (vint ?_); omega) | (refine at_e (at_f rfl) ?_; simp; done)), trivial⟩ ?_
          · exact ⟨Nat.zero_le _, fun j hj => absurd hj (Nat.not_lt_zero _)⟩
          rintro a ⟨ha, hfa⟩
          refine j_seq (j_region (y_ (yl_lss (T rfl) (T rfl)) (jl_nil (q_then (j_seq ?_))) rfl))
          first | refine j_cond_d (at_f rfl) (fun c51 => ?_) (fun c51 => ?_) | refine j_cond (at_f rfl) (fun c51 => ?_) (fun c51 => ?_)
          · have hi3 := hi2 a (by omega)
            have hk3 := hk2 a (by omega)
            refine j_skip (q_then (j_seq (j_block (j_seq (j_region (y_ (yl_move (T rfl)) (y_ (yl_assign (T rfl)) (jl_nil (q_then (j_seq (j_any 23 [(0, true), (1, true), (2, true), (3, true), (4, true), (5, true), (6, true), (7, true), (8, true), (9, true), (10, true), (11, true), (12, true), (13, true), (14, true), (15, true), (16, true), (17, true), (18, true), (19, true), (20, true), (21, true), (22, true)] _ mixd (by kernel_rfl) sb0 ?_ (by repeat (first | exact np_ret | exact np_round | exact np_assign | apply np_scope | apply np_then | apply np_block | apply np_loop | apply np_cut)))))) rfl) rfl))))))
            refine o_y rfl (yl_move (T rfl)) (o_y rfl (yl_fa (T rfl) fa29_1) (o_y rfl (yl_load (T rfl) Tryz.isAgg26 (by first | exact c_o)) ?_ rfl gd_n) rfl gd_n) rfl gd_n
            refine o_y rfl (yl_move (T rfl)) (o_y rfl (yl_ixR (T rfl) (T rfl) Tryz.runUnderlying26 Tryz.sizeOf42 (by omega) (by first | exact rfl | exact hm.a3.b (i := k) (by omega) | exact hm.a2.b (i := k) (by omega) | exact hm.a2.b (i := i) (by omega) | exact (hm.r (gd m.rows i) (gd_mem (by omega))).b (i := a) (by omega) | exact (hm.r (gd m.rows k) (gd_mem (by omega))).b (i := a) (by omega))) ?_ rfl gd_n) rfl gd_n
            refine o_y rfl (yl_load (T rfl) Tryz.isAgg42 (by first | exact c_o | exact cell1 ((hm.a2.mono sbt).cs (i := i) (by omega)))) ?_ rfl gd_n
            refine o_y rfl (yl_move (T rfl)) (o_y rfl (yl_ixQ (T rfl) (T rfl) Tryz.runUnderlying42 Tryz.sizeOf3 (by omega) (by first | exact rfl | exact hm.a3.b (i := k) (by omega) | exact hm.a2.b (i := k) (by omega) | exact hm.a2.b (i := i) (by omega) | exact (hm.r (gd m.rows i) (gd_mem (by omega))).b (i := a) (by omega) | exact (hm.r (gd m.rows k) (gd_mem (by omega))).b (i := a) (by omega))) ?_ rfl gd_n) rfl gd_n
            refine o_y rfl (yl_load (T rfl) Tryz.isAgg3 (by first | exact c_o | exact cell1 (((hm.r (gd m.rows i) (gd_mem (by omega))).mono sbt).cs (i := a) (by omega)))) ?_ rfl gd_n
            refine o_y rfl (yl_ixQ (T rfl) (T rfl) Tryz.runUnderlying42 Tryz.sizeOf3 (by omega) (by first | exact rfl | exact hm.a3.b (i := k) (by omega) | exact hm.a2.b (i := k) (by omega) | exact hm.a2.b (i := i) (by omega) | exact (hm.r (gd m.rows i) (gd_mem (by omega))).b (i := a) (by omega) | exact (hm.r (gd m.rows k) (gd_mem (by omega))).b (i := a) (by omega))) ?_ rfl gd_n
            refine o_y rfl (yl_load (T rfl) Tryz.isAgg3 (by first | exact c_o | exact cell1 (((sl_arr (X := H) (enc := encU) (sz := 1) (e := 3) (l := b) (fun _ => rfl) hd).mono sbt).cs (i := gd (gd m.rows i).l a) (by omega)))) ?_ rfl gd_n
            refine o_y rfl (yl_move (T rfl)) (o_y rfl (yl_fa (T rfl) fa29_1) (o_y rfl (yl_load (T rfl) Tryz.isAgg26 (by first | exact c_o)) ?_ rfl gd_n) rfl gd_n) rfl gd_n
            refine o_y rfl (yl_move (T rfl)) (o_y rfl (yl_ixR (T rfl) (T rfl) Tryz.runUnderlying26 Tryz.sizeOf42 (by omega) (by first | exact rfl | exact hm.a3.b (i := k) (by omega) | exact hm.a2.b (i := k) (by omega) | exact hm.a2.b (i := i) (by omega) | exact (hm.r (gd m.rows i) (gd_mem (by omega))).b (i := a) (by omega) | exact (hm.r (gd m.rows k) (gd_mem (by omega))).b (i := a) (by omega))) ?_ rfl gd_n) rfl gd_n
            refine o_y rfl (yl_load (T rfl) Tryz.isAgg42 (by first | exact c_o | exact cell1 ((hm.a2.mono sbt).cs (i := k) (by omega)))) ?_ rfl gd_n
            refine o_y rfl (yl_move (T rfl)) (o_y rfl (yl_ixQ (T rfl) (T rfl) Tryz.runUnderlying42 Tryz.sizeOf3 (by omega) (by first | exact rfl | exact hm.a3.b (i := k) (by omega) | exact hm.a2.b (i := k) (by omega) | exact hm.a2.b (i := i) (by omega) | exact (hm.r (gd m.rows i) (gd_mem (by omega))).b (i := a) (by omega) | exact (hm.r (gd m.rows k) (gd_mem (by omega))).b (i := a) (by omega))) ?_ rfl gd_n) rfl gd_n
            refine o_y rfl (yl_load (T rfl) Tryz.isAgg3 (by first | exact c_o | exact cell1 (((hm.r (gd m.rows k) (gd_mem (by omega))).mono sbt).cs (i := a) (by omega)))) ?_ rfl gd_n
            refine o_y rfl (yl_ixQ (T rfl) (T rfl) Tryz.runUnderlying42 Tryz.sizeOf3 (by omega) (by first | exact rfl | exact hm.a3.b (i := k) (by omega) | exact hm.a2.b (i := k) (by omega) | exact hm.a2.b (i := i) (by omega) | exact (hm.r (gd m.rows i) (gd_mem (by omega))).b (i := a) (by omega) | exact (hm.r (gd m.rows k) (gd_mem (by omega))).b (i := a) (by omega))) ?_ rfl gd_n
            refine o_y rfl (yl_load (T rfl) Tryz.isAgg3 (by first | exact c_o | exact cell1 (((sl_arr (X := H) (enc := encU) (sz := 1) (e := 3) (l := b) (fun _ => rfl) hd).mono sbt).cs (i := gd (gd m.rows k).l a) (by omega)))) ?_ rfl gd_n
            refine o_y rfl (yl_neq (T rfl) (T rfl)) (jo_nil rfl (jl_nil (q_then (j_keep [(1, _), (2, _), (3, _), (6, _), (7, _), (8, _), (27, _), (28, _), (31, _), (32, _), (49, _), (50, _), (75, _)] ⟨at_f rfl, at_f rfl, at_f rfl, at_f rfl, at_f rfl, at_f rfl, at_f rfl, at_f rfl, at_f rfl, at_f rfl, at_f rfl, at_f rfl, at_f rfl, trivial⟩ ?_)))) rfl gd_n
            first | refine j_cond_d (at_f rfl) (fun c75 => ?_) (fun c75 => ?_) | refine j_cond (at_f rfl) (fun c75 => ?_) (fun c75 => ?_)
            · have hne : ¬ gd b (nx m.pl i a) = gd b (nx m.pl k a) := by rw [nx_pl, nx_pl]; omega
              have hsA : fsA m.pl b k i = some (k, a) := by
                refine fs_some (k := a) ?_ (if_neg hne) fun a2 ha2 => if_pos (hfa a2 ha2)
                rw [show m.pl.next = m.rows.map RowQ.l from rfl, gd_rows]; omega
              have hsI : fsI m.pl b k = some (k, a) := fs_some (k := i) (by omega) (by rw [if_pos (by omega)]; exact hsA) fun j hj => hfi j hj
              have hsp : findSp m.pl b = some (k, a) := fs_some (k := k) (by omega) hsI fun j hj => hfs j hj
              have hco2 := hco.split (m := m.pl) (i := i) (k := k) (a := a) (by omega) (by omega) (by omega) hne
              have hmx2 := split_max (m := m.pl) (b := b) (i := i) (k := k) (a := a) (by omega) (by omega) (by omega) hne
              refine j_seq (j_region (y_ (yl_loadA (T rfl) Tryz.isAgg29 Tryz.sizeOf29 rfl (by first | exact cs_o)) ?_ rfl))
              refine y_ (yl_move (T rfl)) (y_ (yl_move (T rfl)) (y_ (yl_move (T rfl)) (e_ (eff_call (.cons (T rfl) (.cons (T rfl) (.cons (T rfl) (.cons (T rfl) .nil)))) Tryz.call104 (spec_atF (slH (.blk n12 m.rows.length []) (b.flatMap encU) 3) (by repeat (first | exact LocL.h | apply LocL.t | apply LocL.a)) (split_s m (hm.mono sbt) hp (.blk n12 m.rows.length []) m.rows.length b k a hd hbl rfl (by omega) (by omega) (by have := hco.max_le; omega)))) ?_ rfl) rfl) rfl) rfl
              rintro _ _ ⟨_, _, rfl⟩
              refine jl_nil (q_then (j_exit (q_block_miss rfl (q_then_exit (q_loop_exit (q_block_miss rfl (q_block_miss rfl (q_then_exit (q_loop_exit (q_block_miss rfl (q_block_miss rfl (q_then_exit (q_loop_exit (q_block_miss rfl (q_then_exit (q_block_hit ?_))))))))))))))))
              refine q_loopC ((splitF m.pl b k a, f)) ?_ ?_ trivial ⟨at_f rfl, at_f rfl, at_f rfl, trivial⟩ ?_
              · exact ⟨by rw [splitF_len]; exact hbl, hco2, by omega, by rw [← href, refineF_some hsp]⟩
              · first | omega | (simp only []; omega)
              · exact sbt
            · have hea : gd b (nx m.pl i a) = gd b (nx m.pl k a) := by rw [nx_pl, nx_pl]; omega
              refine j_skip (q_block (q_then (j_region (y_ (yl_add (T rfl) ev_c (by omega)) ?_ rfl))))
              refine y_ (yl_move (T rfl)) (jl_nil ?_) rfl
              refine q_loopC (a + 1) ?_ ?_ ⟨(by first | exact at_f rfl | (refine at_e (at_f rfl) (vint ?_); omega) | (refine at_e (at_f rfl) ?_; simp; done)), trivial⟩ ⟨at_f rfl, at_f rfl, at_f rfl, at_f rfl, at_f rfl, at_f rfl, at_f rfl, at_f rfl, at_f rfl, at_f rfl, trivial⟩ ?_
              · refine ⟨by omega, fun j hj => ?_⟩
                by_cases e : j = a
                · subst e; exact hea
                · exact hfa j (by omega)
              · first | omega | (simp only []; omega)
              · exact sbt
          · have hiA : (if gd b i = gd b k then fsA m.pl b k i else none) = none := by
              rw [if_pos (by omega)]
              refine fs_none fun a2 ha2 => if_pos (hfa a2 ?_)
              rw [show m.pl.next = m.rows.map RowQ.l from rfl, gd_rows] at ha2; omega
            refine j_exit (q_then_exit (q_loop_exit (q_block_hit (q_block (q_then (j_region (y_ (yl_add (T rfl) ev_c (by omega)) ?_ rfl)))))))
            refine y_ (yl_move (T rfl)) (jl_nil ?_) rfl
            refine q_loopC (i + 1) ?_ ?_ ⟨(by first | exact at_f rfl | (refine at_e (at_f rfl) (vint ?_); omega) | (refine at_e (at_f rfl) ?_; simp; done)), trivial⟩ ⟨at_f rfl, at_f rfl, at_f rfl, at_f rfl, at_f rfl, at_f rfl, at_f rfl, trivial⟩ ?_
            · refine ⟨by omega, fun j hj => ?_⟩
              by_cases e : j = i
              · subst e; exact hiA
              · exact hfi j (by omega)
            · first | omega | (simp only []; omega)
            · exact sbt
      · have hkI : fsI m.pl b k = none := fs_none fun j hj => hfi j (by omega)
        refine j_exit (q_then_exit (q_loop_exit (q_block_hit (q_block (q_then (j_region (y_ (yl_add (T rfl) ev_c (by omega)) ?_ rfl)))))))
        refine y_ (yl_move (T rfl)) (jl_nil ?_) rfl
        refine q_loopC (k + 1) ?_ ?_ ⟨(by first | exact at_f rfl | (refine at_e (at_f rfl) (vint ?_); omega) | (refine at_e (at_f rfl) ?_; simp; done)), trivial⟩ ⟨at_f rfl, at_f rfl, at_f rfl, at_f rfl, trivial⟩ ?_
        · refine ⟨by omega, fun j hj => ?_⟩
          by_cases e : j = k
          · subst e; exact hkI
          · exact hfs j (by omega)
        · first | omega | (simp only []; omega)
        · exact sbt
    · have hnone : findSp m.pl b = none := fs_none fun j hj => hfs j (by omega)
      refine j_exit (q_then_exit (q_loop_exit (q_block_hit (q_then (j_seq (j_region (y_ (yl_loadA (T rfl) Tryz.isAgg29 Tryz.sizeOf29 rfl (by first | exact cs_o)) ?_ rfl)))))))
      refine y_ (yl_move (T rfl)) (e_ (eff_call (.cons (T rfl) (.cons (T rfl) .nil)) Tryz.call105 (numbered_s m (hm.mono sbt) hp hln _ _ b ((sl_arr (X := H) (enc := encU) (sz := 1) (e := 3) (l := b) (fun _ => rfl) hd).mono sbt) m.rows.length hbl rfl)) ?_ rfl) rfl
      rintro _ _ ⟨x, ⟨rfl, hox⟩, rfl⟩
      first | refine jl_e (eff_sW (T rfl) (T rfl) Tryz.sizeOf29) rfl gd_n ?_
      rintro _ _ ⟨rfl, rfl⟩
      refine jl_nil (q_then (j_ret (q_block_ret (q_loop_ret (q_block_ret (q_scope_ret (q_ret rfl (.cellA (at_f rfl) Tryz.isAgg29 Tryz.sizeOf29 rfl (by first | exact cs_o) .nil) ?_)))))))
      have hfin : refineF m.pl 201 (initB m.pl) = b := by rw [← href, refineF_none hnone]
      unfold leastF
      rw [hfin]
      exact ⟨_, ⟨x, ⟨rfl, hox⟩, rfl⟩, sbt⟩
theorem buildL_s {w0 : World} : BuildS w0 leastF := build_s least_s
end Go.Proofs.YtkdolgnpkjihpaaGreatDoor
namespace Go.Proofs.YtkdolgnpkjihpaaGreatDoor
open Go.RowKit Go.Shelf Go.Sort Go.Proofs
set_option linter.unusedVariables false
set_option linter.unusedSimpArgs false
def laysItoa_ren : Go.Shelf.Ren := ⟨fun | 171 => 68 | 243 => 116 | 246 => 142 | 283 => 167 | 284 => 168 | 285 => 169 | 286 => 170 | 129 => 156 | 317 => 182 | 318 => 183 | 319 => 184 | 320 => 185 | 337 => 190 | 338 => 191 | n => n, fun | 3 => 3 | 9 => 9 | 2 => 2 | 4 => 4 | 171 => 221 | 0 => 0 | 53 => 84 | 37 => 152 | 5 => 5 | 173 => 223 | 212 => 237 | 51 => 214 | 20 => 20 | 213 => 238 | 46 => 192 | 232 => 244 | 233 => 245 | n => n, fun | 17 => 0 | 18 => 1 | 19 => 2 | n => n⟩
theorem laysItoa : Go.Proofs.Lays.n171 Tryz.prog laysItoa_ren := {
  mixed := by kernel_rfl,
  f129 := Tryz.func156.trans (congrArg some (by kernel_rfl)),
  f171 := Tryz.func68.trans (congrArg some (by kernel_rfl)),
  f243 := Tryz.func116.trans (congrArg some (by kernel_rfl)),
  f246 := Tryz.func142.trans (congrArg some (by kernel_rfl)),
  f283 := Tryz.func167.trans (congrArg some (by kernel_rfl)),
  f284 := Tryz.func168.trans (congrArg some (by kernel_rfl)),
  f285 := Tryz.func169.trans (congrArg some (by kernel_rfl)),
  f286 := Tryz.func170.trans (congrArg some (by kernel_rfl)),
  f317 := Tryz.func182.trans (congrArg some (by kernel_rfl)),
  f318 := Tryz.func183.trans (congrArg some (by kernel_rfl)),
  f319 := Tryz.func184.trans (congrArg some (by kernel_rfl)),
  f320 := Tryz.func185.trans (congrArg some (by kernel_rfl)),
  f337 := Tryz.func190.trans (congrArg some (by kernel_rfl)),
  f338 := Tryz.func191.trans (congrArg some (by kernel_rfl)),
  t0 := Tryz.underlying0,
  a0 := Tryz.isAgg0,
  z0 := Tryz.sizeOf0,
  v0 := Tryz.zeroValue0,
  t2 := Tryz.underlying2,
  a2 := Tryz.isAgg2,
  z2 := Tryz.sizeOf2,
  v2 := Tryz.zeroValue2,
  t3 := Tryz.underlying3,
  a3 := Tryz.isAgg3,
  z3 := Tryz.sizeOf3,
  v3 := Tryz.zeroValue3,
  t4 := Tryz.underlying4,
  a4 := Tryz.isAgg4,
  z4 := Tryz.sizeOf4,
  v4 := Tryz.zeroValue4,
  t5 := Tryz.underlying5,
  a5 := Tryz.isAgg5,
  z5 := Tryz.sizeOf5,
  v5 := Tryz.zeroValue5,
  t9 := Tryz.underlying9,
  a9 := Tryz.isAgg9,
  z9 := Tryz.sizeOf9,
  v9 := Tryz.zeroValue9,
  t20 := Tryz.underlying20,
  a20 := Tryz.isAgg20,
  z20 := Tryz.sizeOf20,
  v20 := Tryz.zeroValue20,
  t37 := Tryz.underlying152,
  a37 := Tryz.isAgg152,
  z37 := Tryz.sizeOf152,
  v37 := Tryz.zeroValue152,
  t46 := Tryz.underlying192,
  a46 := Tryz.isAgg192,
  z46 := Tryz.sizeOf192,
  v46 := Tryz.zeroValue192,
  t51 := Tryz.underlying214,
  a51 := Tryz.isAgg214,
  z51 := Tryz.sizeOf214,
  v51 := Tryz.zeroValue214,
  t53 := Tryz.underlying84,
  a53 := Tryz.isAgg84,
  z53 := Tryz.sizeOf84,
  v53 := Tryz.zeroValue84,
  t171 := Tryz.underlying221,
  a171 := Tryz.isAgg221,
  z171 := Tryz.sizeOf221,
  v171 := Tryz.zeroValue221,
  t173 := Tryz.underlying223,
  a173 := Tryz.isAgg223,
  z173 := Tryz.sizeOf223,
  v173 := Tryz.zeroValue223,
  t212 := Tryz.underlying237,
  a212 := Tryz.isAgg237,
  z212 := Tryz.sizeOf237,
  v212 := Tryz.zeroValue237,
  t213 := Tryz.underlying238,
  a213 := Tryz.isAgg238,
  z213 := Tryz.sizeOf238,
  t232 := Tryz.underlying244,
  a232 := Tryz.isAgg244,
  z232 := Tryz.sizeOf244,
  v232 := Tryz.zeroValue244,
  t233 := Tryz.underlying245,
  a233 := Tryz.isAgg245,
  z233 := Tryz.sizeOf245,
  v233 := Tryz.zeroValue245,
  g17 := by kernel_rfl,
  g18 := by kernel_rfl,
  g19 := by kernel_rfl }
abbrev itoaB (i : Nat) : ByteArray := ⟨(Lib.decDigits i).toArray⟩
theorem itoa_s {w0 : World} {H : List (Nat × Obj)} (i : Nat) (hi : i < 100) : FSpec Tryz.prog w0 68 #[.int .i64 (i : Int)] H (Still (.string (itoaB i)) H) := fun w hO =>
  (Any.strconv_Itoa_small laysItoa i hi w).mono fun e w' ⟨he, hw⟩ => ⟨_, _, he, hw ▸ hO, rfl, rfl⟩
section
variable {P : Program} {w0 : World} {L : Fm} {H : List (Nat × Obj)} {ty t1 t2 xt yt : TypeId} {x y : Operand}
theorem yl_convI {k k' : IntKind} {td : TypeDesc} {a : Int} (hx : Ev L x (.int k' a)) (hs : ∀ w, (underlying t1).run P w = .ok td w) (ht : ∀ w, (underlying t2).run P w = .ok (.int k) w) :
    Yl P w0 (.convert t1 t2 x) ty L H (.int k (k.wrap a)) := yl_pure rfl fun b w => by
  simp [exO, execOp, hx b, convert, hs, ht, Conv.intToInt, Sem.run_bind, Result.andThen]
theorem p63 : (2 : Nat) ^ 63 = 9223372036854775808 := by decide
theorem yl_convU {td : TypeDesc} {n : Nat} (hn : n < 2 ^ 63) (hx : Ev L x (.int .i64 (n : Int))) (ht1 : ∀ w, (underlying t1).run P w = .ok td w) (ht2 : ∀ w, (underlying t2).run P w = .ok (.int .u64) w) : Yl P w0 (.convert t1 t2 x) ty L H (.int .u64 (n : Int)) := by
  have h := yl_convI (P := P) (w0 := w0) (ty := ty) (H := H) hx ht1 ht2
  rw [show IntKind.u64.wrap (n : Int) = n from wrap_u64 (Nat.lt_trans hn (by decide))] at h
  exact h
theorem yl_convB64 {td : TypeDesc} {n : Nat} (hn : n < 2 ^ 63) (hx : Ev L x (.int .u64 (n : Int))) (ht1 : ∀ w, (underlying t1).run P w = .ok td w) (ht2 : ∀ w, (underlying t2).run P w = .ok (.int .i64) w) : Yl P w0 (.convert t1 t2 x) ty L H (.int .i64 (n : Int)) := by
  have h := yl_convI (P := P) (w0 := w0) (ty := ty) (H := H) hx ht1 ht2
  have := p63
  rw [show IntKind.i64.wrap (n : Int) = n from IntWalk.i64_in _ (by omega)] at h
  exact h
theorem yl_shrU {m : Nat} (hx : Ev L x (.int .u64 (m : Int))) (hy : Ev L y (.int .u64 1)) : Yl P w0 (.binOp .shr xt x y yt) ty L H (.int .u64 ((m / 2 : Nat) : Int)) := yl_pure rfl fun b w => by
  have e3 : (Op.shift .shr .u64 (m : Int) .u64 1).run P w = .ok (.int .u64 ((m / 2 : Nat) : Int)) w := by
    unfold Op.shift
    rw [if_neg (by decide)]
    simp only [IntKind.bits]
    show Result.ok (Value.int .u64 ((m : Int).fdiv (2 ^ 1))) w = _
    rw [Int.fdiv_eq_ediv_of_nonneg _ (by decide)]
    congr 2
  simp [exO, execOp, hx b, hy b, binOp, eqGuard, Sem.run_bind, Result.andThen, e3]
end
end Go.Proofs.YtkdolgnpkjihpaaGreatDoor
namespace Go.Proofs.YtkdolgnpkjihpaaGreatDoor
open Go.RowKit
set_option linter.unusedVariables false
set_option linter.unusedSimpArgs false
theorem ltU_trans {a b c : List UInt8} (h1 : a < b) (h2 : b < c) : a < c := List.lt_trans h1 h2
def lbF (names : List ByteArray) (s : ByteArray) : Nat := (names.filter fun x => decide (toL x < toL s)).length
theorem lbF_eq : ∀ {names : List ByteArray} {s : ByteArray} {i : Nat}, i ≤ names.length → (∀ j, j < i → toL (gd names j) < toL s) → (∀ j, i ≤ j → j < names.length → ¬ toL (gd names j) < toL s) → lbF names s = i
  | [], s, i, hi, _, _ => by simp at hi; simp [lbF, hi]
  | x :: l, s, 0, hi, h1, h2 => by
    have h3 := lbF_eq (names := l) (s := s) (i := 0) (Nat.zero_le _) (fun j hj => absurd hj (Nat.not_lt_zero _)) (fun j _ hj => by
      have := h2 (j + 1) (by omega) (by simpa using hj)
      simpa [gd] using this)
    have h0 := h2 0 (Nat.le_refl _) (by simp)
    have h4 : ¬ toL x < toL s := by simpa [gd] using h0
    unfold lbF at *
    rw [List.filter_cons, if_neg (by simpa using h4)]
    exact h3
  | x :: l, s, i + 1, hi, h1, h2 => by
    have h3 := lbF_eq (names := l) (s := s) (i := i) (by simpa using hi) (fun j hj => by
      have := h1 (j + 1) (by omega)
      simpa [gd] using this) (fun j h5 hj => by
      have := h2 (j + 1) (by omega) (by simpa using hj)
      simpa [gd] using this)
    have h4 : toL x < toL s := by simpa [gd] using h1 0 (by omega)
    unfold lbF at *
    rw [List.filter_cons, if_pos (by simpa using h4), List.length_cons, h3]
def Srt (names : List ByteArray) : Prop := names.Pairwise fun a b => toL a < toL b
theorem Srt.lt {names : List ByteArray} (h : Srt names) {i j : Nat} (hij : i < j) (hj : j < names.length) : toL (gd names i) < toL (gd names j) := by
  rw [gd_getElem (by omega), gd_getElem hj]
  exact List.pairwise_iff_getElem.1 h i j (by omega) hj hij
theorem lbF_le (names : List ByteArray) (s : ByteArray) : lbF names s ≤ names.length := List.length_filter_le _ _
def lett (names : List ByteArray) (s : ByteArray) : Nat := if lbF names s < names.length ∧ toL (gd names (lbF names s)) = toL s then lbF names s else names.length
theorem lett_le (names : List ByteArray) (s : ByteArray) : lett names s ≤ names.length := by
  unfold lett; split <;> omega
def afterF (m : PM) (st : Nat) (s : ByteArray) : Nat := nx m st (lett m.names s)
def runM (m : PM) (l : List ByteArray) : Nat := l.foldl (afterF m) 0
theorem nx_lt {m : PM} (h : PMok m) {i a : Nat} (hi : i < m.next.length) (ha : a < m.names.length + 1) : nx m i a < m.next.length := by
  obtain ⟨h1, h2⟩ := h.row (gd m.next i) (gd_mem hi)
  exact h2 _ (gd_mem (by rw [h1]; exact ha))
theorem after_lt {m : PM} (h : PMok m) {i : Nat} (hi : i < m.next.length) (s : ByteArray) : afterF m i s < m.next.length := nx_lt h hi (Nat.lt_succ_of_le (lett_le _ _))
theorem runM_lt {m : PM} (h : PMok m) (l : List ByteArray) : runM m l < m.next.length := by
  unfold runM
  suffices ∀ st, st < m.next.length → l.foldl (afterF m) st < m.next.length from this 0 h.some'
  induction l with
  | nil => intro st h; exact h
  | cons s l ih => intro st h2; exact ih _ (after_lt h h2 s)
theorem runM_take {m : PM} {l : List ByteArray} {i : Nat} (h : i < l.length) : runM m (l.take (i + 1)) = afterF m (runM m (l.take i)) (gd l i) := by
  unfold runM; rw [List.take_add_one, gd_get h, List.foldl_append]; rfl
def othK (k : Nat) : ByteArray := if k = 0 then ⟨#[111, 116, 104, 101, 114]⟩ else ⟨#[111, 116, 104, 101, 114]⟩ ++ itoaB k
theorem itoa_size : ∀ k : Fin 100, (itoaB k.val).size ≤ 3 := by decide +kernel
theorem othK_nodup : ((List.range 100).map fun k => toL (othK k)).Nodup := by decide +kernel
def othN (names : List ByteArray) : Nat := ((List.range 100).findSome? fun k => if toL (othK k) ∈ names.map toL then none else some k).getD 0
def otherF (names : List ByteArray) : ByteArray := othK (othN names)
theorem oth_few {names : List ByteArray} {k : Nat} (hk : k ≤ 100) (h : ∀ j, j < k → toL (othK j) ∈ names.map toL) : k ≤ names.length := by
  have h1 : ((List.range k).map fun k => toL (othK k)).Nodup := by
    have e : (List.range 100).map (fun k => toL (othK k)) = (List.range k).map (fun k => toL (othK k)) ++ (List.range' k (100 - k)).map (fun k => toL (othK k)) := by
      rw [← List.map_append, List.range_eq_range', List.range_eq_range', show 100 = k + (100 - k) by omega, ← List.range'_append_1]
      simp
    have := othK_nodup
    rw [e, List.nodup_append] at this
    exact this.1
  have := nodup_le h1 (l' := names.map toL) fun x hx => by
    simp only [List.mem_map, List.mem_range] at hx
    obtain ⟨j, hj, rfl⟩ := hx
    exact h j hj
  simpa using this
theorem nan1_s {w0 : World} {H : List (Nat × Obj)} (a : ByteArray) :
    FSpec Tryz.prog w0 141 #[.string a] H (Still (.bool false) H) := by
  refine fn_spec Tryz.func141 rfl Tryz.ntmps141 rfl (j_seq (j_region (y_ (yl_assign ev_c) (jl_nil (q_then (j_seq (j_region (y_ (yl_move (T rfl)) (y_ (yl_move (T rfl)) (y_ (yl_neSD (T rfl) (T rfl)) (y_ (yl_assign (T rfl)) (jl_nil (q_then (j_ret (q_ret rfl (.tmp (at_f rfl) .nil) ?_)))) rfl) rfl) rfl) rfl))))) rfl)))
  exact ⟨_, ⟨vbool (by simp), rfl⟩, sbt⟩
theorem nan2_s {w0 : World} {H : List (Nat × Obj)} (a : ByteArray) :
    FSpec Tryz.prog w0 143 #[.string a] H (Still (.bool false) H) := by
  refine fn_spec Tryz.func143 rfl Tryz.ntmps143 rfl (j_seq (j_region (y_ (yl_assign ev_c) (jl_nil (q_then (j_seq (j_region (y_ (yl_move (T rfl)) (y_ (yl_move (T rfl)) (y_ (yl_neSD (T rfl) (T rfl)) (y_ (yl_assign (T rfl)) (jl_nil (q_then (j_ret (q_ret rfl (.tmp (at_f rfl) .nil) ?_)))) rfl) rfl) rfl) rfl))))) rfl)))
  exact ⟨_, ⟨vbool (by simp), rfl⟩, sbt⟩
theorem less_s {w0 : World} {H : List (Nat × Obj)} (a b : ByteArray) :
    FSpec Tryz.prog w0 112 #[.string a, .string b] H (Still (.bool (decide (toL a < toL b))) H) := by
  refine fn_spec Tryz.func112 rfl Tryz.ntmps112 rfl (j_seq (j_region (y_ (yl_assign ev_c) (jl_nil (q_then (j_seq (j_region (y_ (yl_move (T rfl)) (y_ (yl_call (.cons (T rfl) .nil) Tryz.call141 (fun H' hs => nan1_s _)) (y_ (yl_move (T rfl)) (n_ft (n_ft (n_ft (y_ (yl_pick_f (T rfl) ev_c) (y_ (yl_move (T rfl)) (jl_y (yl_move (T rfl)) rfl (gd_y rfl rfl (at_f rfl)) (jl_y (yl_move (T rfl)) rfl (gd_y rfl rfl (at_f rfl)) (jl_y (yl_ltS (T rfl) (T rfl)) rfl (gd_y rfl rfl (at_f rfl)) (y_ (yl_pick_f (T rfl) (T rfl)) (y_ (yl_assign (T rfl)) (jl_nil (q_then (j_ret (q_ret rfl (.tmp (at_f rfl) .nil) ?_)))) rfl) rfl)))) rfl) rfl) rfl rfl rfl rfl) rfl rfl rfl rfl) rfl rfl rfl rfl) rfl) rfl) rfl))))) rfl)))
  exact ⟨_, ⟨rfl, rfl⟩, sbt⟩
theorem mem_gdS {b : List ByteArray} {x : ByteArray} : x ∈ b ↔ ∃ j, j < b.length ∧ gd b j = x := by
  constructor
  · intro h
    obtain ⟨j, hj, e⟩ := List.getElem_of_mem h
    exact ⟨j, hj, by rw [gd_getElem hj]; exact e⟩
  · rintro ⟨j, hj, rfl⟩; exact gd_mem hj
theorem idxS_s {w0 : World} {H : List (Nat × Obj)} (names : List ByteArray) (q : Option Addr) (c : Nat) (s : ByteArray) (hA : Arr w0 H q 1 encS names) (hlen : names.length ≤ 4611686018427387903) :
    FSpec Tryz.prog w0 115 #[.slice q names.length c, .string s] H ((fun v H' => (∃ i : Int, v = .int .i64 i ∧ (0 ≤ i ↔ toL s ∈ names.map toL)) ∧ H' = H)) := by
  refine fn_spec Tryz.func115 rfl Tryz.ntmps115 rfl (j_seq (j_region (y_ (yl_assign ev_c) (jl_nil (q_then (j_seq (j_seq (j_region (y_ (yl_move (T rfl)) (y_ (yl_len (T rfl) Tryz.runUnderlying25) (y_ (yl_move ev_c) (jl_nil (q_then (j_block ?_))) rfl) rfl) rfl)))))) rfl)))
  refine j_loopH (X := Nat) (V := fun i => [(8, .int .i64 (i : Nat))]) (C := [(0, _), (1, _), (7, _)]) (φ := fun i => i ≤ names.length ∧ ∀ j, j < i → ¬ toL s = toL (gd names j)) (μ := fun i => names.length - i) (x0 := 0) ?_ ⟨at_f rfl, at_f rfl, at_f rfl, trivial⟩ ⟨(by first | exact at_f rfl | (refine at_e (at_f rfl) (vint ?_); omega) | (refine at_e (at_f rfl) ?_; simp; done)), trivial⟩ ?_
  · exact ⟨Nat.zero_le _, fun j hj => absurd hj (Nat.not_lt_zero _)⟩
  rintro i ⟨hi, hno⟩
  refine j_seq (j_region (y_ (yl_lss (T rfl) (T rfl)) (jl_nil (q_then (j_seq ?_))) rfl))
  first | refine j_cond_d (at_f rfl) (fun c9 => ?_) (fun c9 => ?_) | refine j_cond (at_f rfl) (fun c9 => ?_) (fun c9 => ?_)
  · refine j_skip (q_then (j_seq (j_block (j_seq (j_region (y_ (yl_move (T rfl)) (y_ (yl_assign (T rfl)) (jl_nil (q_then (j_seq (j_region (y_ (yl_move (T rfl)) (y_ (yl_move (T rfl)) (y_ (yl_move (T rfl)) (y_ (yl_ixQ (T rfl) (T rfl) Tryz.runUnderlying25 Tryz.sizeOf9 (by omega) (by first | exact rfl | exact hA.b (i := i) (by omega))) ?_ rfl) rfl) rfl) rfl))))) rfl) rfl))))))
    refine y_ (yl_load (T rfl) Tryz.isAgg9 (by first | exact c_o | exact cell1 ((hA.mono sbt).cs (i := i) (by omega)))) ?_ rfl
    refine y_ (yl_eqSD (T rfl) (T rfl)) (jl_nil (q_then ?_)) rfl
    first | refine j_cond_d (at_f rfl) (fun c16 => ?_) (fun c16 => ?_) | refine j_cond (at_f rfl) (fun c16 => ?_) (fun c16 => ?_)
    · refine j_seq (j_region (y_ (yl_move (T rfl)) (y_ (yl_assign (T rfl)) (jl_nil (q_then (j_ret (q_block_ret (q_then_ret (q_loop_ret (q_block_ret (q_then_ret (q_ret rfl (.tmp (at_f rfl) .nil) ?_))))))))) rfl) rfl))
      exact ⟨_, ⟨⟨_, rfl, fun _ => by rw [show toL s = toL (gd names i) from c16]; exact List.mem_map_of_mem (gd_mem (by omega)), fun _ => by omega⟩, rfl⟩, sbt⟩
    · refine j_skip (q_block (q_then (j_region (y_ (yl_add (T rfl) ev_c (by omega)) ?_ rfl))))
      refine y_ (yl_move (T rfl)) (jl_nil ?_) rfl
      refine q_loopC (i + 1) ?_ ?_ ⟨(by first | exact at_f rfl | (refine at_e (at_f rfl) (vint ?_); omega) | (refine at_e (at_f rfl) ?_; simp; done)), trivial⟩ ⟨at_f rfl, at_f rfl, at_f rfl, trivial⟩ ?_
      · refine ⟨by omega, fun j hj => ?_⟩
        by_cases e : j = i
        · subst e; exact c16
        · exact hno j (by omega)
      · first | omega | (simp only []; omega)
      · exact sbt
  · refine j_exit (q_then_exit (q_loop_exit (q_block_hit (q_then (j_seq (j_region (y_ (yl_assign ev_c) (jl_nil (q_then (j_ret (q_ret rfl (.tmp (at_f rfl) .nil) (⟨_, ⟨⟨-1, rfl, fun h => absurd h (by decide), fun h => ?_⟩, rfl⟩, sbt⟩))))) rfl)))))))
    obtain ⟨x, hx, e⟩ := List.mem_map.1 h
    obtain ⟨j, hj, rfl⟩ := mem_gdS.1 hx
    exact absurd e.symm (hno j (by omega))
theorem hasS_s {w0 : World} {H : List (Nat × Obj)} (names : List ByteArray) (q : Option Addr) (c : Nat) (s : ByteArray) (hA : Arr w0 H q 1 encS names) (hlen : names.length ≤ 4611686018427387903) :
    FSpec Tryz.prog w0 67 #[.slice q names.length c, .string s] H (Still (.bool (decide (toL s ∈ names.map toL))) H) := by
  refine fn_spec Tryz.func67 rfl Tryz.ntmps67 rfl (j_seq (j_region (y_ (yl_assign ev_c) (jl_nil (q_then (j_seq (j_region (y_ (yl_move (T rfl)) (y_ (yl_move (T rfl)) (e_ (eff_call (.cons (T rfl) (.cons (T rfl) .nil)) Tryz.call115 (idxS_s names q c s hA hlen)) ?_ rfl) rfl) rfl))))) rfl)))
  rintro _ _ ⟨⟨i, rfl, hi⟩, rfl⟩
  refine y_ (yl_geq (T rfl) ev_c) (y_ (yl_assign (T rfl)) (jl_nil (q_then (j_ret (q_ret rfl (.tmp (at_f rfl) .nil) ?_)))) rfl) rfl
  exact ⟨_, ⟨vbool (decide_eq_decide.2 hi), rfl⟩, sbt⟩
theorem bs_s {w0 : World} {H : List (Nat × Obj)} (names : List ByteArray) (q : Option Addr) (c : Nat) (s : ByteArray) (hA : Arr w0 H q 1 encS names) (hs : Srt names) (hlen : names.length ≤ 4611686018427387903) :
    FSpec Tryz.prog w0 117 #[.slice q names.length c, .string s] H (Still (.tuple #[.int .i64 (lbF names s : Nat), .bool (decide (lbF names s < names.length ∧ toL (gd names (lbF names s)) = toL s))]) H) := by
  refine fn_spec Tryz.func117 rfl Tryz.ntmps117 rfl (j_seq (j_region (y_ (yl_assign ev_c) (y_ (yl_assign ev_c) (jl_nil (q_then (j_seq (j_region (y_ (yl_move (T rfl)) (y_ (yl_len (T rfl) Tryz.runUnderlying25) (y_ (yl_assign (T rfl)) (jl_nil (q_then (j_seq (j_region (y_ (yl_move (T rfl)) (y_ (yl_assign ev_c) (y_ (yl_assign (T rfl)) (jl_nil (q_then (j_seq (j_block ?_)))) rfl) rfl) rfl))))) rfl) rfl) rfl))))) rfl) rfl)))
  refine j_loopH (X := Nat × Nat) (V := fun ⟨i, j⟩ => [(7, .int .i64 (i : Nat)), (8, .int .i64 (j : Nat))]) (C := [(0, _), (1, _), (6, _)]) (φ := fun ⟨i, j⟩ => i ≤ j ∧ j ≤ names.length ∧ (∀ k, k < i → toL (gd names k) < toL s) ∧ (∀ k, j ≤ k → k < names.length → ¬ toL (gd names k) < toL s)) (μ := fun ⟨i, j⟩ => j - i) (x0 := (0, names.length)) ?_ ⟨at_f rfl, at_f rfl, at_f rfl, trivial⟩ ⟨(by first | exact at_f rfl | (refine at_e (at_f rfl) (vint ?_); omega) | (refine at_e (at_f rfl) ?_; simp; done)), (by first | exact at_f rfl | (refine at_e (at_f rfl) (vint ?_); omega) | (refine at_e (at_f rfl) ?_; simp; done)), trivial⟩ ?_
  · exact ⟨Nat.zero_le _, Nat.le_refl _, fun k hk => absurd hk (Nat.not_lt_zero _), fun k h1 h2 => by omega⟩
  rintro ⟨i, j⟩ ⟨hij0, hj, h1, h2⟩
  refine j_seq (j_seq (j_region (y_ (yl_move (T rfl)) (y_ (yl_move (T rfl)) (y_ (yl_lss (T rfl) (T rfl)) (jl_nil (q_then ?_)) rfl) rfl) rfl)))
  first | refine j_cond_d (at_f rfl) (fun c15 => ?_) (fun c15 => ?_) | refine j_cond (at_f rfl) (fun c15 => ?_) (fun c15 => ?_)
  · have hij : i < j := by omega
    refine j_skip (q_then (j_block (j_seq (j_region (y_ (yl_move (T rfl)) (y_ (yl_move (T rfl)) (y_ (yl_add (T rfl) (T rfl) (by omega)) ?_ rfl) rfl) rfl)))))
    refine y_ (yl_convU (n := i + j) (by have := p63; omega) (T rfl) Tryz.runUnderlying3 Tryz.runUnderlying192) ?_ rfl
    refine y_ (yl_shrU (T rfl) ev_c) (y_ (yl_convB64 (n := (i + j) / 2) (by have := p63; omega) (T rfl) Tryz.runUnderlying192 Tryz.runUnderlying3) ?_ rfl) rfl
    refine y_ (yl_assign (T rfl)) (jl_nil (q_then (j_seq (j_region (y_ (yl_move (T rfl)) (y_ (yl_move (T rfl)) (y_ (yl_ixQ (T rfl) (T rfl) Tryz.runUnderlying25 Tryz.sizeOf9 (by omega) (by first | exact rfl | exact hA.b (i := ((i + j) / 2)) (by omega) | exact hA.b (i := i) (by omega))) ?_ rfl) rfl) rfl))))) rfl
    refine y_ (yl_load (T rfl) Tryz.isAgg9 (by first | exact c_o | exact cell1 ((hA.mono sbt).cs (i := ((i + j) / 2)) (by omega)) | exact cell1 ((hA.mono sbt).cs (i := ((i + j) / 2)) (by omega)) | exact cell1 ((hA.mono sbt).cs (i := i) (by omega)))) ?_ rfl
    refine y_ (yl_move (T rfl)) (y_ (yl_call (.cons (T rfl) (.cons (T rfl) .nil)) Tryz.call112 (fun H' hs => less_s _ _)) (jl_nil (q_then ?_)) rfl) rfl
    first | refine j_cond_d (at_f rfl) (fun c27 => ?_) (fun c27 => ?_) | refine j_cond (at_f rfl) (fun c27 => ?_) (fun c27 => ?_)
    · refine j_region (y_ (yl_move (T rfl)) (y_ (yl_add (T rfl) ev_c (by omega)) ?_ rfl) rfl)
      refine y_ (yl_assign (T rfl)) (jl_nil (q_block ?_)) rfl
      refine q_loopC ((((i + j) / 2) + 1, j)) ?_ ?_ ⟨(by first | exact at_f rfl | (refine at_e (at_f rfl) (vint ?_); omega) | (refine at_e (at_f rfl) ?_; simp; done)), (by first | exact at_f rfl | (refine at_e (at_f rfl) (vint ?_); omega) | (refine at_e (at_f rfl) ?_; simp; done)), trivial⟩ ⟨at_f rfl, at_f rfl, at_f rfl, trivial⟩ ?_
      · refine ⟨by omega, hj, fun k hk => ?_, h2⟩
        by_cases e : k = ((i + j) / 2)
        · subst e; exact c27
        · exact ltU_trans (hs.lt (show k < ((i + j) / 2) by omega) (by omega)) c27
      · first | omega | (simp only []; omega)
      · exact sbt
    · refine j_region (y_ (yl_move (T rfl)) (y_ (yl_assign (T rfl)) (jl_nil (q_block ?_)) rfl) rfl)
      refine q_loopC ((i, ((i + j) / 2))) ?_ ?_ ⟨(by first | exact at_f rfl | (refine at_e (at_f rfl) (vint ?_); omega) | (refine at_e (at_f rfl) ?_; simp; done)), (by first | exact at_f rfl | (refine at_e (at_f rfl) (vint ?_); omega) | (refine at_e (at_f rfl) ?_; simp; done)), trivial⟩ ⟨at_f rfl, at_f rfl, at_f rfl, trivial⟩ ?_
      · refine ⟨by omega, by omega, h1, fun k hk hk2 h3 => ?_⟩
        by_cases e : k = ((i + j) / 2)
        · subst e; exact c27 h3
        · exact c27 (ltU_trans (hs.lt (show ((i + j) / 2) < k by omega) hk2) h3)
      · first | omega | (simp only []; omega)
      · exact sbt
  · have hij : i = j := by omega
    subst hij
    have hlb := lbF_eq hj h1 h2
    refine j_exit (q_then_exit (q_loop_exit (q_block_hit (q_then (j_seq (j_region (y_ (yl_move (T rfl)) (y_ (yl_move (T rfl)) (y_ (yl_move (T rfl)) (y_ (yl_lss (T rfl) (T rfl)) (y_ (yl_move (T rfl)) ?_ rfl) rfl) rfl) rfl) rfl)))))))
    first | refine jl_if_d (s := 35) (at_f rfl) (fun c35 => ?_) (fun c35 => ?_) | refine jl_if (s := 35) (at_f rfl) (fun c35 => ?_) (fun c35 => ?_)
    · refine jl_y (yl_move (T rfl)) rfl (gd_y rfl rfl (at_f rfl)) (jl_y (yl_move (T rfl)) rfl (gd_y rfl rfl (at_f rfl)) (jl_y (yl_ixQ (T rfl) (T rfl) Tryz.runUnderlying25 Tryz.sizeOf9 (by omega) (by first | exact rfl | exact hA.b (i := ((i + j) / 2)) (by omega) | exact hA.b (i := i) (by omega))) rfl (gd_y rfl rfl (at_f rfl)) ?_))
      refine jl_y (yl_load (T rfl) Tryz.isAgg9 (by first | exact c_o | exact cell1 ((hA.mono sbt).cs (i := i) (by omega)) | exact cell1 ((hA.mono sbt).cs (i := ((i + j) / 2)) (by omega)) | exact cell1 ((hA.mono sbt).cs (i := i) (by omega)))) rfl (gd_y rfl rfl (at_f rfl)) ?_
      refine jl_y (yl_move (T rfl)) rfl (gd_y rfl rfl (at_f rfl)) (jl_y (yl_eqSD (T rfl) (T rfl)) rfl (gd_y rfl rfl (at_f rfl)) (jl_y (yl_move (T rfl)) rfl (gd_y rfl rfl (at_f rfl)) ?_))
      first | refine jl_if_d (s := 42) (at_f rfl) (fun c42 => ?_) (fun c42 => ?_) | refine jl_if (s := 42) (at_f rfl) (fun c42 => ?_) (fun c42 => ?_)
      · refine n_tf (n_tf (n_tf (n_tf (n_tf (n_tf (n_u (n_u (n_tf (jl_y (yl_pick_t (T rfl) ev_c) rfl (gd_y rfl rfl (at_f rfl)) (y_ (yl_pick_t (T rfl) (T rfl)) (y_ (yl_assign (T rfl)) (y_ (yl_assign (T rfl)) (jl_nil (q_then (j_keep [(4, _), (5, _)] ⟨at_f rfl, at_f rfl, trivial⟩ (j_ret (q_ret rfl (.tmp (at_f rfl) (.tmp (at_f rfl) .nil)) ?_))))) rfl) rfl) rfl)) rfl rfl rfl rfl) rfl rfl rfl rfl) rfl rfl rfl rfl) rfl rfl rfl rfl) rfl rfl rfl rfl) rfl rfl rfl rfl) rfl rfl rfl rfl) rfl rfl rfl rfl) rfl rfl rfl rfl
        rw [hlb]
        first | exact ⟨_, ⟨congrArg (fun b => Value.tuple #[.int .i64 (i : Int), .bool b]) (by symm; exact decide_eq_true ⟨by omega, c42⟩), rfl⟩, sbt⟩ | exact ⟨_, ⟨congrArg (fun b => Value.tuple #[.int .i64 (i : Int), .bool b]) (by symm; exact decide_eq_false fun h => c42 h.2), rfl⟩, sbt⟩ | exact ⟨_, ⟨congrArg (fun b => Value.tuple #[.int .i64 (i : Int), .bool b]) (by symm; exact decide_eq_false fun h => by omega), rfl⟩, sbt⟩
      · refine jl_y (yl_move (T rfl)) rfl (gd_y rfl rfl (at_f rfl)) (jl_y (yl_move (T rfl)) rfl (gd_y rfl rfl (at_f rfl)) (jl_y (yl_ixQ (T rfl) (T rfl) Tryz.runUnderlying25 Tryz.sizeOf9 (by omega) (by first | exact rfl | exact hA.b (i := ((i + j) / 2)) (by omega) | exact hA.b (i := i) (by omega))) rfl (gd_y rfl rfl (at_f rfl)) ?_))
        refine jl_y (yl_load (T rfl) Tryz.isAgg9 (by first | exact c_o | exact cell1 ((hA.mono sbt).cs (i := ((i + j) / 2)) (by omega)) | exact cell1 ((hA.mono sbt).cs (i := i) (by omega)))) rfl (gd_y rfl rfl (at_f rfl)) ?_
        refine jl_y (yl_call (.cons (T rfl) .nil) Tryz.call143 (fun H' hs => nan2_s _)) rfl (gd_y rfl rfl (at_f rfl)) (jl_y (yl_move (T rfl)) rfl (gd_y rfl rfl (at_f rfl)) (n_ft (n_ft (jl_y (yl_pick_f (T rfl) ev_c) rfl (gd_y rfl rfl (at_f rfl)) (jl_y (yl_pick_f (T rfl) (T rfl)) rfl (gd_y rfl rfl (at_f rfl)) (y_ (yl_pick_t (T rfl) (T rfl)) (y_ (yl_assign (T rfl)) (y_ (yl_assign (T rfl)) (jl_nil (q_then (j_keep [(4, _), (5, _)] ⟨at_f rfl, at_f rfl, trivial⟩ (j_ret (q_ret rfl (.tmp (at_f rfl) (.tmp (at_f rfl) .nil)) ?_))))) rfl) rfl) rfl))) rfl rfl rfl rfl) rfl rfl rfl rfl))
        rw [hlb]
        first | exact ⟨_, ⟨congrArg (fun b => Value.tuple #[.int .i64 (i : Int), .bool b]) (by symm; exact decide_eq_true ⟨by omega, c42⟩), rfl⟩, sbt⟩ | exact ⟨_, ⟨congrArg (fun b => Value.tuple #[.int .i64 (i : Int), .bool b]) (by symm; exact decide_eq_false fun h => c42 h.2), rfl⟩, sbt⟩ | exact ⟨_, ⟨congrArg (fun b => Value.tuple #[.int .i64 (i : Int), .bool b]) (by symm; exact decide_eq_false fun h => by omega), rfl⟩, sbt⟩
    · refine n_ft (n_ft (n_ft (n_ft (n_ft (n_ft (n_ft (n_u (n_u (n_u (n_u (n_u (n_u (n_u (n_u (n_u (n_ft (y_ (yl_pick_f (T rfl) ev_c) (y_ (yl_assign (T rfl)) (y_ (yl_assign (T rfl)) (jl_nil (q_then (j_keep [(4, _), (5, _)] ⟨at_f rfl, at_f rfl, trivial⟩ (j_ret (q_ret rfl (.tmp (at_f rfl) (.tmp (at_f rfl) .nil)) ?_))))) rfl) rfl) rfl) rfl rfl rfl rfl) rfl rfl rfl rfl) rfl rfl rfl rfl) rfl rfl rfl rfl) rfl rfl rfl rfl) rfl rfl rfl rfl) rfl rfl rfl rfl) rfl rfl rfl rfl) rfl rfl rfl rfl) rfl rfl rfl rfl) rfl rfl rfl rfl) rfl rfl rfl rfl) rfl rfl rfl rfl) rfl rfl rfl rfl) rfl rfl rfl rfl) rfl rfl rfl rfl) rfl rfl rfl rfl
      rw [hlb]
      first | exact ⟨_, ⟨congrArg (fun b => Value.tuple #[.int .i64 (i : Int), .bool b]) (by symm; exact decide_eq_true ⟨by omega, c42⟩), rfl⟩, sbt⟩ | exact ⟨_, ⟨congrArg (fun b => Value.tuple #[.int .i64 (i : Int), .bool b]) (by symm; exact decide_eq_false fun h => c42 h.2), rfl⟩, sbt⟩ | exact ⟨_, ⟨congrArg (fun b => Value.tuple #[.int .i64 (i : Int), .bool b]) (by symm; exact decide_eq_false fun h => by omega), rfl⟩, sbt⟩
end Go.Proofs.YtkdolgnpkjihpaaGreatDoor
namespace Go.Proofs.YtkdolgnpkjihpaaGreatDoor
open Go.RowKit
set_option linter.unusedVariables false
set_option linter.unusedSimpArgs false
theorem fa56_1 (b o : Nat) (w : World) : (Instr.fieldAt 56 (.pointer (some ⟨b, o, none⟩)) 1).run Tryz.prog w = .ok (.pointer (some ⟨b, o + 1, none⟩)) w := by kernel_rfl
theorem fa58_0 (b o : Nat) (w : World) : (Instr.fieldAt 58 (.pointer (some ⟨b, o, none⟩)) 0).run Tryz.prog w = .ok (.pointer (some ⟨b, o, none⟩)) w := by kernel_rfl
theorem fa58_1 (b o : Nat) (w : World) : (Instr.fieldAt 58 (.pointer (some ⟨b, o, none⟩)) 1).run Tryz.prog w = .ok (.pointer (some ⟨b, o + 1, none⟩)) w := by kernel_rfl
theorem fa71_0 (b o : Nat) (w : World) : (Instr.fieldAt 71 (.pointer (some ⟨b, o, none⟩)) 0).run Tryz.prog w = .ok (.pointer (some ⟨b, o, none⟩)) w := by kernel_rfl
theorem fa71_1 (b o : Nat) (w : World) : (Instr.fieldAt 71 (.pointer (some ⟨b, o, none⟩)) 1).run Tryz.prog w = .ok (.pointer (some ⟨b, o + 1, none⟩)) w := by kernel_rfl
structure Ln where
  src : Nat
  dst : Nat
  cap : Int
instance : Inhabited Ln := ⟨⟨0, 0, 0⟩⟩
abbrev encLn (x : Ln) : List Value := [.int .i64 (x.src : Int), .int .i64 (x.dst : Int), .int .i64 x.cap]
structure Nn where
  nodes : List Nod
  links : List Ln
  edges : List Edg
  qn : Option Addr
  cn : Nat
  ql : Option Addr
  cl : Nat
  qe : Option Addr
  ce : Nat
abbrev encNn (n : Nn) : List Value := [.slice n.qn n.nodes.length n.cn, .slice n.ql n.links.length n.cl, .slice n.qe n.edges.length n.ce]
structure NetR (w0 : World) (H : List (Nat × Obj)) (n : Nn) : Prop where
  nodes : Arr w0 H n.qn 4 encN n.nodes
  links : Arr w0 H n.ql 3 encLn n.links
theorem NetR.mono {w0 : World} {H H' : List (Nat × Obj)} {n : Nn} (h : NetR w0 H n) (hs : H.Sublist H' := by exact sbt) : NetR w0 H' n := ⟨h.nodes.mono hs, h.links.mono hs⟩
structure NnOk (n : Nn) : Prop where
  fewN : n.nodes.length ≤ 12
  fewL : n.links.length ≤ 30
  ends : ∀ x ∈ n.links, x.src < n.nodes.length ∧ x.dst < n.nodes.length
structure Flr where
  q : Option Addr
  c : Nat
  links : List Int
  node : Int
abbrev encFl (f : Flr) : List Value := [.slice f.q f.links.length f.c, .int .i64 f.node]
def upF (n : Nn) (f : Flr) (l : Nat) : Bool := decide (¬ ((gd n.links l).src : Int) = f.node) && (decide (¬ ((gd n.links l).dst : Int) = f.node) && decide (¬ (l : Int) ∈ f.links))
def outK (n : Nn) (node : Nat) : Nat → List Nat
  | 0 => []
  | i + 1 => if (gd n.links i).src = node then outK n node i ++ [i] else outK n node i
theorem outK_succ (n : Nn) (node i : Nat) : outK n node (i + 1) = if (gd n.links i).src = node then outK n node i ++ [i] else outK n node i := rfl
def outF (n : Nn) (node : Nat) : List Nat := outK n node n.links.length
theorem mem_outK (n : Nn) (node x : Nat) : ∀ i, x ∈ outK n node i ↔ x < i ∧ (gd n.links x).src = node
  | 0 => by simp [outK]
  | i + 1 => by
    rw [outK_succ]
    have ih := mem_outK n node x i
    split
    · rename_i h
      rw [List.mem_append, ih]
      constructor
      · rintro (h1 | h1)
        · exact ⟨by omega, h1.2⟩
        · simp at h1; subst h1; exact ⟨by omega, h⟩
      · rintro ⟨h1, h2⟩
        by_cases e : x = i
        · subst e; exact .inr (by simp)
        · exact .inl ⟨by omega, h2⟩
    · rename_i h
      rw [ih]
      constructor
      · rintro ⟨h1, h2⟩; exact ⟨by omega, h2⟩
      · rintro ⟨h1, h2⟩
        by_cases e : x = i
        · subst e; exact absurd h2 h
        · exact ⟨by omega, h2⟩
theorem outK_len (n : Nn) (node : Nat) : ∀ i, (outK n node i).length ≤ i
  | 0 => Nat.le_refl _
  | i + 1 => by
    have := outK_len n node i
    rw [outK_succ]; split
    · simp; omega
    · omega
def wkF (n : Nn) : Int → List Int → Option Int
  | x, [] => some x
  | x, l :: ls => if 0 ≤ l ∧ l < n.links.length ∧ ((gd n.links l.toNat).src : Int) = x then wkF n ((gd n.links l.toNat).dst : Int) ls else none
theorem wkF_snoc (n : Nn) : ∀ (ls : List Int) (x l : Int), wkF n x (ls ++ [l]) = (wkF n x ls).bind fun y => if 0 ≤ l ∧ l < n.links.length ∧ ((gd n.links l.toNat).src : Int) = y then some ((gd n.links l.toNat).dst : Int) else none
  | [], x, l => by simp [wkF]
  | a :: ls, x, l => by
    rw [List.cons_append, wkF, wkF]
    split
    · exact wkF_snoc n ls _ l
    · rfl
theorem wkF_take (n : Nn) (x : Int) {ls : List Int} {i : Nat} (h : i < ls.length) : wkF n x (ls.take (i + 1)) = (wkF n x (ls.take i)).bind fun y => if 0 ≤ gd ls i ∧ gd ls i < n.links.length ∧ ((gd n.links (gd ls i).toNat).src : Int) = y then some ((gd n.links (gd ls i).toNat).dst : Int) else none := by
  rw [List.take_add_one, gd_get h]; exact wkF_snoc n _ x _
theorem wkF_none (n : Nn) (x : Int) {ls : List Int} {i : Nat} (h : wkF n x (ls.take i) = none) : wkF n x ls = none := by
  have e : ls = ls.take i ++ ls.drop i := by simp
  rw [e]
  generalize ls.take i = a at *
  generalize ls.drop i = b at *
  clear e
  induction b generalizing a with
  | nil => simpa using h
  | cons c b ih =>
    rw [show a ++ c :: b = (a ++ [c]) ++ b by simp]
    exact ih (a ++ [c]) (by rw [wkF_snoc, h]; rfl)
theorem after_s {w0 : World} {H : List (Nat × Obj)} (m : Mc) (hm : McOk w0 H m) (hp : PMok m.pl) (hsr : Srt m.names) (hl : m.names.length ≤ 4611686018427387903) (st : Nat) (hst : st < m.rows.length) (s : ByteArray) :
    FSpec Tryz.prog w0 69 #[.agg (encMc m).toArray, .int .i64 (st : Int), .string s] H (Still (.int .i64 (afterF m.pl st s : Nat)) H) := by
  refine fn_spec Tryz.func69 rfl Tryz.ntmps69 rfl ?_
  obtain ⟨hr1, hr2⟩ := pm_row hp hst
  have hle := lbF_le m.names s
  refine j_seq (j_region (e_ (eff_box (T rfl) cs_) ?_ rfl))
  rintro _ _ ⟨n3, rfl, rfl⟩
  refine y_ (yl_assign ev_c) (jl_nil (q_then (j_seq (j_region (y_ (yl_fa0 (T rfl) fa29_0) (y_ (yl_load (T rfl) Tryz.isAgg25 (by first | exact c_o)) ?_ rfl) rfl))))) rfl
  refine y_ (yl_move (T rfl)) (y_ (yl_call (.cons (T rfl) (.cons (T rfl) .nil)) Tryz.call117 (fun H' hs => bs_s m.names _ _ s (hm.a1.mono (List.Sublist.trans sbt hs)) hsr hl)) (y_ (yl_move (T rfl)) (y_ (yl_extract (T rfl) rfl) (y_ (yl_extract (T rfl) rfl) (y_ (yl_assign (T rfl)) (y_ (yl_assign (T rfl)) (jl_nil (q_then (j_seq (j_seq (j_region (y_ (yl_move (T rfl)) ?_ rfl)))))) rfl) rfl) rfl) rfl) rfl) rfl) rfl
  first | refine jl_y (yl_not_d (T rfl)) rfl gd_n ?_ | refine jl_y (yl_not (T rfl)) rfl gd_n ?_
  refine jl_nil (q_then ?_)
  first | refine j_cond_d (at_f rfl) (fun c17 => ?_) (fun c17 => ?_) | refine j_cond (at_f rfl) (fun c17 => ?_) (fun c17 => ?_)
  · have hlt : lett m.names s = m.names.length := by unfold lett; rw [if_neg c17]
    refine j_region (y_ (yl_fa0 (T rfl) fa29_0) (y_ (yl_load (T rfl) Tryz.isAgg25 (by first | exact c_o)) ?_ rfl) rfl)
    refine y_ (yl_len (T rfl) Tryz.runUnderlying25) (y_ (yl_assign (T rfl)) (jl_nil (q_then (j_seq (j_region (y_ (yl_fa (T rfl) fa29_1) (y_ (yl_load (T rfl) Tryz.isAgg26 (by first | exact c_o)) ?_ rfl) rfl))))) rfl) rfl
    refine y_ (yl_move (T rfl)) (y_ (yl_ixQ (T rfl) (T rfl) Tryz.runUnderlying26 Tryz.sizeOf42 (by omega) (by first | exact rfl | exact hm.a2.b (i := st) hst | exact (hm.r (gd m.rows st) (gd_mem hst)).b (i := 0) (by omega))) ?_ rfl) rfl
    refine y_ (yl_load (T rfl) Tryz.isAgg42 (by first | exact c_o | exact cell1 ((hm.a2.mono sbt).cs (i := st) hst))) ?_ rfl
    refine y_ (yl_move (T rfl)) (y_ (yl_ixQ (T rfl) (T rfl) Tryz.runUnderlying42 Tryz.sizeOf3 (by omega) (by first | exact rfl | exact hm.a2.b (i := st) hst | exact (hm.r (gd m.rows st) (gd_mem hst)).b (i := 0) (by omega))) ?_ rfl) rfl
    refine y_ (yl_load (T rfl) Tryz.isAgg3 (by first | exact c_o | exact cell1 (((hm.r (gd m.rows st) (gd_mem hst)).mono sbt).cs (i := m.names.length) (by omega)) | exact cell1 (((hm.r (gd m.rows st) (gd_mem hst)).mono sbt).cs (i := k) (by omega)))) ?_ rfl
    refine y_ (yl_assign (T rfl)) (jl_nil (q_then (j_keep [(6, _)] ⟨at_f rfl, trivial⟩ (j_ret (q_ret rfl (.tmp (at_f rfl) .nil) (⟨_, ⟨?_, rfl⟩, sbt⟩)))))) rfl
    show resOf [.int .i64 _] = .int .i64 ((nx m.pl st (lett m.names s) : Nat) : Int)
    rw [nx_pl, hlt]; rfl
  · obtain ⟨k, hk⟩ : ∃ k, k = lbF m.names s := ⟨_, rfl⟩
    have hlt : lett m.names s = k := by unfold lett; rw [if_pos (Classical.not_not.1 c17), hk]
    simp only [← hk]
    refine j_skip (q_then (j_seq (j_region (y_ (yl_fa (T rfl) fa29_1) (y_ (yl_load (T rfl) Tryz.isAgg26 (by first | exact c_o)) ?_ rfl) rfl))))
    refine y_ (yl_move (T rfl)) (y_ (yl_ixQ (T rfl) (T rfl) Tryz.runUnderlying26 Tryz.sizeOf42 (by omega) (by first | exact rfl | exact hm.a2.b (i := st) hst | exact (hm.r (gd m.rows st) (gd_mem hst)).b (i := 0) (by omega))) ?_ rfl) rfl
    refine y_ (yl_load (T rfl) Tryz.isAgg42 (by first | exact c_o | exact cell1 ((hm.a2.mono sbt).cs (i := st) hst))) ?_ rfl
    refine y_ (yl_move (T rfl)) (y_ (yl_ixQ (T rfl) (T rfl) Tryz.runUnderlying42 Tryz.sizeOf3 (by omega) (by first | exact rfl | exact hm.a2.b (i := st) hst | exact (hm.r (gd m.rows st) (gd_mem hst)).b (i := 0) (by omega))) ?_ rfl) rfl
    refine y_ (yl_load (T rfl) Tryz.isAgg3 (by first | exact c_o | exact cell1 (((hm.r (gd m.rows st) (gd_mem hst)).mono sbt).cs (i := m.names.length) (by omega)) | exact cell1 (((hm.r (gd m.rows st) (gd_mem hst)).mono sbt).cs (i := k) (by omega)))) ?_ rfl
    refine y_ (yl_assign (T rfl)) (jl_nil (q_then (j_ret (q_ret rfl (.tmp (at_f rfl) .nil) (⟨_, ⟨?_, rfl⟩, sbt⟩))))) rfl
    show resOf [.int .i64 _] = .int .i64 ((nx m.pl st (lett m.names s) : Nat) : Int)
    rw [nx_pl, hlt]; rfl
theorem run_s {w0 : World} {H : List (Nat × Obj)} (m : Mc) (hm : McOk w0 H m) (hp : PMok m.pl) (hsr : Srt m.names) (hl : m.names.length ≤ 4611686018427387903) (l : List ByteArray) (q : Option Addr) (c : Nat) (hA : Arr w0 H q 1 encS l) (hlen : l.length ≤ 9223372036854775807) :
    FSpec Tryz.prog w0 21 #[.agg (encMc m).toArray, .slice q l.length c] H (Still (.int .i64 (runM m.pl l : Nat)) H) := by
  refine fn_spec Tryz.func21 rfl Tryz.ntmps21 rfl (j_seq (j_region (e_ (eff_box (T rfl) cs_) ?_ rfl)))
  rintro _ _ ⟨n2, rfl, rfl⟩
  refine y_ (yl_assign ev_c) (jl_nil (q_then (j_seq (j_region (y_ (yl_assign ev_c) (jl_nil (q_then (j_seq (j_seq (j_region (y_ (yl_move (T rfl)) (y_ (yl_len (T rfl) Tryz.runUnderlying25) (y_ (yl_move ev_c) (jl_nil (q_then (j_block ?_))) rfl) rfl) rfl)))))) rfl))))) rfl
  refine j_loopH (X := Nat) (V := fun i => [(10, .int .i64 (i : Nat)), (5, .int .i64 (runM m.pl (l.take i) : Nat))]) (C := [(2, _), (8, _), (9, _)]) (φ := fun i => i ≤ l.length) (μ := fun i => l.length - i) (x0 := 0) ?_ ⟨at_f rfl, at_f rfl, at_f rfl, trivial⟩ ⟨(by first | exact at_f rfl | (refine at_e (at_f rfl) (vint ?_); omega) | (refine at_e (at_f rfl) ?_; simp; done) | (refine at_e (at_f rfl) ?_; exact by rw [hrt])), (by first | exact at_f rfl | (refine at_e (at_f rfl) (vint ?_); omega) | (refine at_e (at_f rfl) ?_; simp; done) | (refine at_e (at_f rfl) ?_; exact by rw [hrt])), trivial⟩ ?_
  · exact Nat.zero_le _
  rintro i hi
  refine j_seq (j_region (y_ (yl_lss (T rfl) (T rfl)) (jl_nil (q_then (j_seq ?_))) rfl))
  first | refine j_cond_d (at_f rfl) (fun c11 => ?_) (fun c11 => ?_) | refine j_cond (at_f rfl) (fun c11 => ?_) (fun c11 => ?_)
  · refine j_skip (q_then (j_seq (j_block (j_seq (j_region (y_ (yl_ixQ (T rfl) (T rfl) Tryz.runUnderlying25 Tryz.sizeOf9 (by omega) (by first | exact rfl | exact hA.b (i := i) (by omega))) ?_ rfl))))))
    refine y_ (yl_load (T rfl) Tryz.isAgg9 (by first | exact c_o | exact cell1 ((hA.mono sbt).cs (i := i) (by omega)))) ?_ rfl
    refine y_ (yl_assign (T rfl)) (jl_nil (q_then (j_region (y_ (yl_loadA (T rfl) Tryz.isAgg29 Tryz.sizeOf29 rfl (by first | exact cs_o | exact cell1 ((hA.mono sbt).cs (i := i) (by omega)))) ?_ rfl)))) rfl
    refine y_ (yl_move (T rfl)) (y_ (yl_move (T rfl)) (y_ (yl_call (.cons (T rfl) (.cons (T rfl) (.cons (T rfl) .nil))) Tryz.call69 (fun H' hs => after_s m (hm.mono (List.Sublist.trans sbt hs)) hp hsr hl _ (by have := runM_lt hp (l.take i); rw [show m.pl.next.length = m.rows.length from List.length_map ..] at this; exact this) _)) ?_ rfl) rfl) rfl
    refine y_ (yl_assign (T rfl)) (jl_nil (q_block (q_then (j_region (y_ (yl_add (T rfl) ev_c (by omega)) ?_ rfl))))) rfl
    refine y_ (yl_move (T rfl)) (jl_nil ?_) rfl
    have hrt := runM_take (m := m.pl) (l := l) (i := i) (by omega)
    refine q_loopC (i + 1) ?_ ?_ ⟨(by first | exact at_f rfl | (refine at_e (at_f rfl) (vint ?_); omega) | (refine at_e (at_f rfl) ?_; simp; done) | (refine at_e (at_f rfl) ?_; exact by rw [hrt])), (by first | exact at_f rfl | (refine at_e (at_f rfl) (vint ?_); omega) | (refine at_e (at_f rfl) ?_; simp; done) | (refine at_e (at_f rfl) ?_; exact by rw [hrt])), trivial⟩ ⟨at_f rfl, at_f rfl, at_f rfl, trivial⟩ ?_
    · show i + 1 ≤ _; omega
    · first | omega | (simp only []; omega)
    · exact sbt
  · refine j_exit (q_then_exit (q_loop_exit (q_block_hit (q_then (j_seq (j_region (y_ (yl_move (T rfl)) (y_ (yl_assign (T rfl)) (jl_nil (q_then (j_ret (q_ret rfl (.tmp (at_f rfl) .nil) ?_)))) rfl) rfl)))))))
    have hi2 : i = l.length := by omega
    rw [hi2, List.take_length]
    exact ⟨_, ⟨rfl, rfl⟩, sbt⟩
theorem other_s {w0 : World} {H : List (Nat × Obj)} (names : List ByteArray) (q : Option Addr) (c : Nat) (hA : Arr w0 H q 1 encS names) (hlen : names.length ≤ 90) :
    FSpec Tryz.prog w0 19 #[.slice q names.length c] H (Still (.string (otherF names)) H) := by
  refine fn_spec Tryz.func19 rfl Tryz.ntmps19 rfl (j_seq (j_region (y_ (yl_assign ev_c) (jl_nil (q_then (j_seq (j_region (y_ (yl_assign ev_c) (jl_nil (q_then (j_seq (j_seq (j_region (y_ (yl_assign ev_c) (jl_nil (q_then (j_block ?_))) rfl)))))) rfl))))) rfl)))
  refine j_loopH (X := Nat) (V := fun k => [(3, .string (othK k)), (4, .int .i64 (k + 1 : Nat))]) (C := [(0, _)]) (φ := fun k => k ≤ 90 ∧ ∀ j, j < k → toL (othK j) ∈ names.map toL) (μ := fun k => 91 - k) (x0 := 0) ?_ ⟨at_f rfl, trivial⟩ ⟨(by first | exact at_f rfl | (refine at_e (at_f rfl) (vint ?_); omega) | (refine at_e (at_f rfl) ?_; simp; done)), (by first | exact at_f rfl | (refine at_e (at_f rfl) (vint ?_); omega) | (refine at_e (at_f rfl) ?_; simp; done)), trivial⟩ ?_
  · exact ⟨Nat.zero_le _, fun j hj => absurd hj (Nat.not_lt_zero _)⟩
  rintro k ⟨hk, hin⟩
  refine j_seq (j_seq (j_region (y_ (yl_move (T rfl)) (y_ (yl_move (T rfl)) (y_ (yl_call (.cons (T rfl) (.cons (T rfl) .nil)) Tryz.call67 (fun H' hs => hasS_s names q c _ (hA.mono (List.Sublist.trans sbt hs)) (by omega))) ?_ rfl) rfl) rfl)))
  refine jl_nil (q_then ?_)
  first | refine j_cond_d (at_f rfl) (fun c7 => ?_) (fun c7 => ?_) | refine j_cond (at_f rfl) (fun c7 => ?_) (fun c7 => ?_)
  · have hy : ∀ j, j < k + 1 → toL (othK j) ∈ names.map toL := fun j hj => by
      by_cases e : j = k
      · subst e; exact c7
      · exact hin j (by omega)
    have hkf := oth_few (k := k + 1) (by omega) hy
    refine j_skip (q_then (j_seq (j_block (j_region (y_ (yl_move (T rfl)) (y_ (yl_call (.cons (T rfl) .nil) Tryz.call68 (fun H' hs => itoa_s (k + 1) (by have := oth_few (k := k + 1) (by omega) hy; omega))) ?_ rfl) rfl)))))
    refine y_ (yl_catS ev_c (T rfl) (by have := itoa_size ⟨k + 1, by omega⟩; simp only [] at this; show 5 + _ ≤ _; omega)) ?_ rfl
    refine y_ (yl_assign (T rfl)) (jl_nil (q_block (q_then (j_region (y_ (yl_move (T rfl)) (y_ (yl_add (T rfl) ev_c (by omega)) ?_ rfl) rfl))))) rfl
    refine y_ (yl_assign (T rfl)) (jl_nil ?_) rfl
    refine q_loopC (k + 1) ?_ ?_ ⟨(by first | exact at_f rfl | (refine at_e (at_f rfl) (vint ?_); omega) | (refine at_e (at_f rfl) ?_; simp; done)), (by first | exact at_f rfl | (refine at_e (at_f rfl) (vint ?_); omega) | (refine at_e (at_f rfl) ?_; simp; done)), trivial⟩ ⟨at_f rfl, trivial⟩ ?_
    · exact ⟨by omega, hy⟩
    · first | omega | (simp only []; omega)
    · exact sbt
  · have hoth : otherF names = othK k := by
      unfold otherF othN
      rw [fs_some (k := k) (x := k) (by omega) (if_neg c7) (fun j hj => if_pos (hin j hj))]; rfl
    refine j_exit (q_then_exit (q_loop_exit (q_block_hit (q_then (j_seq (j_region (y_ (yl_move (T rfl)) (y_ (yl_assign (T rfl)) (jl_nil (q_then (j_ret (q_ret rfl (.tmp (at_f rfl) .nil) ?_)))) rfl) rfl)))))))
    exact ⟨_, ⟨by rw [hoth]; rfl, rfl⟩, sbt⟩
theorem idxI_s {w0 : World} {H : List (Nat × Obj)} (l : List Int) (q : Option Addr) (c : Nat) (s : Int) (hA : Arr w0 H q 1 encI l) (hlen : l.length ≤ 4611686018427387903) :
    FSpec Tryz.prog w0 134 #[.slice q l.length c, .int .i64 s] H ((fun v H' => (∃ i : Int, v = .int .i64 i ∧ (0 ≤ i ↔ s ∈ l)) ∧ H' = H)) := by
  refine fn_spec Tryz.func134 rfl Tryz.ntmps134 rfl (j_seq (j_region (y_ (yl_assign ev_c) (jl_nil (q_then (j_seq (j_seq (j_region (y_ (yl_move (T rfl)) (y_ (yl_len (T rfl) Tryz.runUnderlying42) (y_ (yl_move ev_c) (jl_nil (q_then (j_block ?_))) rfl) rfl) rfl)))))) rfl)))
  refine j_loopH (X := Nat) (V := fun i => [(8, .int .i64 (i : Nat))]) (C := [(0, _), (1, _), (7, _)]) (φ := fun i => i ≤ l.length ∧ ∀ j, j < i → ¬ s = gd l j) (μ := fun i => l.length - i) (x0 := 0) ?_ ⟨at_f rfl, at_f rfl, at_f rfl, trivial⟩ ⟨(by first | exact at_f rfl | (refine at_e (at_f rfl) (vint ?_); omega) | (refine at_e (at_f rfl) ?_; simp; done)), trivial⟩ ?_
  · exact ⟨Nat.zero_le _, fun j hj => absurd hj (Nat.not_lt_zero _)⟩
  rintro i ⟨hi, hno⟩
  refine j_seq (j_region (y_ (yl_lss (T rfl) (T rfl)) (jl_nil (q_then (j_seq ?_))) rfl))
  first | refine j_cond_d (at_f rfl) (fun c9 => ?_) (fun c9 => ?_) | refine j_cond (at_f rfl) (fun c9 => ?_) (fun c9 => ?_)
  · refine j_skip (q_then (j_seq (j_block (j_seq (j_region (y_ (yl_move (T rfl)) (y_ (yl_assign (T rfl)) (jl_nil (q_then (j_seq (j_region (y_ (yl_move (T rfl)) (y_ (yl_move (T rfl)) (y_ (yl_move (T rfl)) (y_ (yl_ixQ (T rfl) (T rfl) Tryz.runUnderlying42 Tryz.sizeOf3 (by omega) (by first | exact rfl | exact hA.b (i := i) (by omega))) ?_ rfl) rfl) rfl) rfl))))) rfl) rfl))))))
    refine y_ (yl_load (T rfl) Tryz.isAgg3 (by first | exact c_o | exact cell1 ((hA.mono sbt).cs (i := i) (by omega)))) ?_ rfl
    refine y_ (yl_eql (T rfl) (T rfl)) (jl_nil (q_then ?_)) rfl
    first | refine j_cond_d (at_f rfl) (fun c16 => ?_) (fun c16 => ?_) | refine j_cond (at_f rfl) (fun c16 => ?_) (fun c16 => ?_)
    · refine j_seq (j_region (y_ (yl_move (T rfl)) (y_ (yl_assign (T rfl)) (jl_nil (q_then (j_ret (q_block_ret (q_then_ret (q_loop_ret (q_block_ret (q_then_ret (q_ret rfl (.tmp (at_f rfl) .nil) ?_))))))))) rfl) rfl))
      exact ⟨_, ⟨⟨_, rfl, fun _ => by rw [c16]; exact gd_mem (by omega), fun _ => by omega⟩, rfl⟩, sbt⟩
    · refine j_skip (q_block (q_then (j_region (y_ (yl_add (T rfl) ev_c (by omega)) ?_ rfl))))
      refine y_ (yl_move (T rfl)) (jl_nil ?_) rfl
      refine q_loopC (i + 1) ?_ ?_ ⟨(by first | exact at_f rfl | (refine at_e (at_f rfl) (vint ?_); omega) | (refine at_e (at_f rfl) ?_; simp; done)), trivial⟩ ⟨at_f rfl, at_f rfl, at_f rfl, trivial⟩ ?_
      · refine ⟨by omega, fun j hj => ?_⟩
        by_cases e : j = i
        · subst e; exact c16
        · exact hno j (by omega)
      · first | omega | (simp only []; omega)
      · exact sbt
  · refine j_exit (q_then_exit (q_loop_exit (q_block_hit (q_then (j_seq (j_region (y_ (yl_assign ev_c) (jl_nil (q_then (j_ret (q_ret rfl (.tmp (at_f rfl) .nil) (⟨_, ⟨⟨-1, rfl, fun h => absurd h (by decide), fun h => ?_⟩, rfl⟩, sbt⟩))))) rfl)))))))
    obtain ⟨j, hj, e⟩ := List.getElem_of_mem h
    exact absurd (by rw [gd_getElem hj]; exact e.symm) (hno j (by omega))
theorem hasI_s {w0 : World} {H : List (Nat × Obj)} (l : List Int) (q : Option Addr) (c : Nat) (s : Int) (hA : Arr w0 H q 1 encI l) (hlen : l.length ≤ 4611686018427387903) :
    FSpec Tryz.prog w0 96 #[.slice q l.length c, .int .i64 s] H (Still (.bool (decide (s ∈ l))) H) := by
  refine fn_spec Tryz.func96 rfl Tryz.ntmps96 rfl (j_seq (j_region (y_ (yl_assign ev_c) (jl_nil (q_then (j_seq (j_region (y_ (yl_move (T rfl)) (y_ (yl_move (T rfl)) (e_ (eff_call (.cons (T rfl) (.cons (T rfl) .nil)) Tryz.call134 (idxI_s l q c s hA hlen)) ?_ rfl) rfl) rfl))))) rfl)))
  rintro _ _ ⟨⟨i, rfl, hi⟩, rfl⟩
  refine y_ (yl_geq (T rfl) ev_c) (y_ (yl_assign (T rfl)) (jl_nil (q_then (j_ret (q_ret rfl (.tmp (at_f rfl) .nil) ?_)))) rfl) rfl
  exact ⟨_, ⟨vbool (decide_eq_decide.2 hi), rfl⟩, sbt⟩
theorem gup_s {w0 : World} {H : List (Nat × Obj)} (n : Nn) (hn : NetR w0 H n) (f : Flr) (hf : Arr w0 H f.q 1 encI f.links) (hfl : f.links.length ≤ 4611686018427387903) (l : Nat) (hl : l < n.links.length) :
    FSpec Tryz.prog w0 39 #[.agg (encNn n).toArray, .agg (encFl f).toArray, .int .i64 (l : Int)] H (Still (.bool (upF n f l)) H) := by
  refine fn_spec Tryz.func39 rfl Tryz.ntmps39 rfl (j_seq (j_region (e_ (eff_box (T rfl) cs_) ?_ rfl)))
  rintro _ _ ⟨n3, rfl, rfl⟩
  refine e_ (eff_box (T rfl) cs_) ?_ rfl
  rintro _ _ ⟨n4, rfl, rfl⟩
  refine y_ (yl_assign ev_c) (jl_nil (q_then (j_seq (j_region (y_ (yl_fa (T rfl) fa56_1) (y_ (yl_load (T rfl) Tryz.isAgg53 (by first | exact c_o)) ?_ rfl) rfl))))) rfl
  refine y_ (yl_move (T rfl)) (y_ (yl_ixQ (T rfl) (T rfl) Tryz.runUnderlying53 Tryz.sizeOf71 (by omega) (by first | exact rfl | exact hn.links.b (i := l) hl)) ?_ rfl) rfl
  refine y_ (yl_loadA (T rfl) Tryz.isAgg71 Tryz.sizeOf71 rfl (by first | exact (hn.links.mono sbt).cs (i := l) hl | exact cs_o)) ?_ rfl
  refine e_ (eff_alloc Tryz.zeroValue71 cs_) ?_ rfl
  rintro _ _ ⟨n7, rfl, rfl⟩
  first | refine jl_e (eff_sW (T rfl) (T rfl) Tryz.sizeOf71) rfl gd_n ?_
  rintro _ _ ⟨rfl, rfl⟩
  refine jl_nil (q_then (j_seq (j_region (y_ (yl_fa0 (T rfl) fa71_0) (y_ (yl_load (T rfl) Tryz.isAgg3 (by first | exact c_o)) ?_ rfl) rfl))))
  refine y_ (yl_fa (T rfl) fa58_1) (y_ (yl_load (T rfl) Tryz.isAgg3 (by first | exact c_o)) ?_ rfl) rfl
  refine y_ (yl_neq (T rfl) (T rfl)) (y_ (yl_move (T rfl)) ?_ rfl) rfl
  first | refine jl_if_d (s := 18) (at_f rfl) (fun c18 => ?_) (fun c18 => ?_) | refine jl_if (s := 18) (at_f rfl) (fun c18 => ?_) (fun c18 => ?_)
  · refine jl_y (yl_fa (T rfl) fa71_1) rfl (gd_y rfl rfl (at_f rfl)) (jl_y (yl_load (T rfl) Tryz.isAgg3 (by first | exact c_o)) rfl (gd_y rfl rfl (at_f rfl)) ?_)
    refine jl_y (yl_fa (T rfl) fa58_1) rfl (gd_y rfl rfl (at_f rfl)) (jl_y (yl_load (T rfl) Tryz.isAgg3 (by first | exact c_o)) rfl (gd_y rfl rfl (at_f rfl)) ?_)
    refine jl_y (yl_neq (T rfl) (T rfl)) rfl (gd_y rfl rfl (at_f rfl)) (y_ (yl_pick_t (T rfl) (T rfl)) (y_ (yl_move (T rfl)) ?_ rfl) rfl)
    first | refine jl_if_d (s := 25) (at_f rfl) (fun c25 => ?_) (fun c25 => ?_) | refine jl_if (s := 25) (at_f rfl) (fun c25 => ?_) (fun c25 => ?_)
    · refine jl_y (yl_fa0 (T rfl) fa58_0) rfl (gd_y rfl rfl (at_f rfl)) (jl_y (yl_load (T rfl) Tryz.isAgg42 (by first | exact c_o)) rfl (gd_y rfl rfl (at_f rfl)) ?_)
      refine jl_y (yl_move (T rfl)) rfl (gd_y rfl rfl (at_f rfl)) (jl_y (yl_call (.cons (T rfl) (.cons (T rfl) .nil)) Tryz.call96 (fun H' hs => hasI_s f.links f.q f.c (l : Int) (hf.mono (List.Sublist.trans sbt hs)) hfl)) rfl (gd_y rfl rfl (at_f rfl)) ?_)
      first | refine jl_y (yl_not_d (T rfl)) rfl (gd_y rfl rfl (at_f rfl)) ?_ | refine jl_y (yl_not (T rfl)) rfl (gd_y rfl rfl (at_f rfl)) ?_
      refine y_ (yl_pick_t (T rfl) (T rfl)) (y_ (yl_assign (T rfl)) (jl_nil (q_then (j_keep [(6, _)] ⟨at_f rfl, trivial⟩ (j_ret (q_ret rfl (.tmp (at_f rfl) .nil) (⟨_, ⟨vbool ?_, rfl⟩, sbt⟩)))))) rfl) rfl
      unfold upF
      first | (rw [decide_eq_true c18, decide_eq_true c25]; rfl) | (rw [decide_eq_true c18, decide_eq_false c25]; rfl) | (rw [decide_eq_false c18]; rfl)
    · refine n_ft (n_ft (n_ft (n_ft (n_ft (y_ (yl_pick_f (T rfl) ev_c) (y_ (yl_assign (T rfl)) (jl_nil (q_then (j_keep [(6, _)] ⟨at_f rfl, trivial⟩ (j_ret (q_ret rfl (.tmp (at_f rfl) .nil) (⟨_, ⟨vbool ?_, rfl⟩, sbt⟩)))))) rfl) rfl) rfl rfl rfl rfl) rfl rfl rfl rfl) rfl rfl rfl rfl) rfl rfl rfl rfl) rfl rfl rfl rfl
      unfold upF
      first | (rw [decide_eq_true c18, decide_eq_true c25]; rfl) | (rw [decide_eq_true c18, decide_eq_false c25]; rfl) | (rw [decide_eq_false c18]; rfl)
  · refine n_ft (n_ft (n_ft (n_ft (n_ft (y_ (yl_pick_f (T rfl) ev_c) (y_ (yl_move (T rfl)) (n_ft (n_ft (n_ft (n_ft (n_ft (y_ (yl_pick_f (T rfl) ev_c) (y_ (yl_assign (T rfl)) (jl_nil (q_then (j_keep [(6, _)] ⟨at_f rfl, trivial⟩ (j_ret (q_ret rfl (.tmp (at_f rfl) .nil) (⟨_, ⟨vbool ?_, rfl⟩, sbt⟩)))))) rfl) rfl) rfl rfl rfl rfl) rfl rfl rfl rfl) rfl rfl rfl rfl) rfl rfl rfl rfl) rfl rfl rfl rfl) rfl) rfl) rfl rfl rfl rfl) rfl rfl rfl rfl) rfl rfl rfl rfl) rfl rfl rfl rfl) rfl rfl rfl rfl
    unfold upF
    first | (rw [decide_eq_true c18, decide_eq_true c25]; rfl) | (rw [decide_eq_true c18, decide_eq_false c25]; rfl) | (rw [decide_eq_false c18]; rfl)
theorem out1_s {w0 : World} {H : List (Nat × Obj)} (x : Ln) (node n3 : Nat) (h3 : Fnd H n3 (Cl [.int .i64 (node : Int)] 3)) :
    FSpec Tryz.prog w0 146 #[.agg (encLn x).toArray, .pointer (some ⟨n3, 0, none⟩)] H (Still (.bool (decide (x.src = node))) H) := by
  refine fn_spec Tryz.func146 rfl Tryz.ntmps146 rfl (j_seq (j_region (e_ (eff_box (T rfl) cs_) ?_ rfl)))
  rintro _ _ ⟨n2, rfl, rfl⟩
  refine y_ (yl_assign ev_c) (jl_nil (q_then (j_seq (j_region (y_ (yl_fa0 (T rfl) fa71_0) (y_ (yl_load (T rfl) Tryz.isAgg3 (by first | exact c_o | exact c_o (hf := fnd_t h3))) ?_ rfl) rfl))))) rfl
  refine y_ (yl_load (T rfl) Tryz.isAgg3 (by first | exact c_o | exact c_o (hf := fnd_t h3))) ?_ rfl
  refine y_ (yl_eql (T rfl) (T rfl)) (y_ (yl_assign (T rfl)) (jl_nil (q_then (j_ret (q_ret rfl (.tmp (at_f rfl) .nil) ?_)))) rfl) rfl
  exact ⟨_, ⟨vbool (decide_eq_decide.2 (by omega)), rfl⟩, sbt⟩
theorem links_s {w0 : World} {H : List (Nat × Obj)} (n : Nn) (hn : NetR w0 H n) (hok : NnOk n) (node n3 : Nat) (h3 : Fnd H n3 (Cl [.int .i64 (node : Int)] 3)) :
    FSpec Tryz.prog w0 145 #[.agg (encNn n).toArray, .func (.func 146) #[] #[.pointer (some ⟨n3, 0, none⟩)]] H (fun v H' => ∃ d, (v = slV d (outF n node).length ∧ SlOk d (outF n node).length 1) ∧ H' = slH d ((outF n node).flatMap encU) 3 ++ H) := by
  refine fn_spec Tryz.func145 rfl Tryz.ntmps145 rfl ?_
  have hfl := hok.fewL
  refine j_seq (j_region (e_ (eff_box (T rfl) cs_) ?_ rfl))
  rintro _ _ ⟨n2, rfl, rfl⟩
  refine y_ (yl_assign ev_c) (jl_nil (q_then (j_seq (j_region (y_ (yl_assign ev_c) (jl_nil (q_then (j_seq (j_seq (j_region (y_ (yl_fa (T rfl) fa56_1) (y_ (yl_load (T rfl) Tryz.isAgg53 (by first | exact c_o)) ?_ rfl) rfl)))))) rfl))))) rfl
  refine y_ (yl_len (T rfl) Tryz.runUnderlying53) (y_ (yl_move ev_c) (jl_nil (q_then (j_block ?_))) rfl) rfl
  refine j_loopC (X := Nat × Sl) (V := fun ⟨i, d⟩ => [(11, .int .i64 (i : Nat)), (5, slV d (outK n node i).length)]) (C := [(1, _), (9, _), (10, _)]) (G := fun ⟨i, d⟩ => slH d ((outK n node i).flatMap encU) 3 ++ ((n2, Cl (encNn n) 56) :: H)) (φ := fun ⟨i, d⟩ => i ≤ n.links.length ∧ SlOk d (outK n node i).length 1) (μ := fun ⟨i, d⟩ => n.links.length - i) (x0 := (0, .nil)) ?_ ⟨at_f rfl, at_f rfl, at_f rfl, trivial⟩ ⟨(by first | exact at_f rfl | (refine at_e (at_f rfl) (vint ?_); omega) | (refine at_e (at_f rfl) ?_; simp; done) | (refine at_e (at_f rfl) ?_; exact by simp only [hrow, List.length_append, List.length_cons, List.length_nil])), (by first | exact at_f rfl | (refine at_e (at_f rfl) (vint ?_); omega) | (refine at_e (at_f rfl) ?_; simp; done) | (refine at_e (at_f rfl) ?_; exact by simp only [hrow, List.length_append, List.length_cons, List.length_nil])), trivial⟩ sb0 ?_
  · exact ⟨Nat.zero_le _, rfl⟩
  rintro ⟨i, d⟩ ⟨hi, hd⟩
  refine j_seq (j_region (y_ (yl_lss (T rfl) (T rfl)) (jl_nil (q_then (j_seq ?_))) rfl))
  first | refine j_cond_d (at_f rfl) (fun c12 => ?_) (fun c12 => ?_) | refine j_cond (at_f rfl) (fun c12 => ?_) (fun c12 => ?_)
  · refine j_skip (q_then (j_seq (j_block (j_seq (j_region (y_ (yl_move (T rfl)) (y_ (yl_ixQ (T rfl) (T rfl) Tryz.runUnderlying53 Tryz.sizeOf71 (by omega) (by first | exact rfl | exact hn.links.b (i := i) (by omega))) ?_ rfl) rfl))))))
    refine y_ (yl_loadA (T rfl) Tryz.isAgg71 Tryz.sizeOf71 rfl (by first | exact (hn.links.mono sbt).cs (i := i) (by omega) | exact cs_o)) ?_ rfl
    refine e_ (eff_alloc Tryz.zeroValue71 cs_) ?_ rfl
    rintro _ _ ⟨n7, rfl, rfl⟩
    refine y_ (yl_assign (T rfl)) ?_ rfl
    first | refine jl_e (eff_sW (T rfl) (T rfl) Tryz.sizeOf71) rfl gd_n ?_
    rintro _ _ ⟨rfl, rfl⟩
    refine jl_nil (q_then (j_seq (j_region (y_ (yl_move (T rfl)) (y_ (yl_loadA (T rfl) Tryz.isAgg71 Tryz.sizeOf71 rfl (by first | exact cs_o)) ?_ rfl) rfl))))
    refine y_ (yl_callV (T rfl) (.cons (T rfl) .nil) Tryz.call146 (fun H' hs => out1_s (gd n.links i) node n3 (h3.mono (List.Sublist.trans sbt hs)))) (jl_nil (q_then ?_)) rfl
    first | refine j_cond_d (at_f rfl) (fun c18 => ?_) (fun c18 => ?_) | refine j_cond (at_f rfl) (fun c18 => ?_) (fun c18 => ?_)
    · have hrow : outK n node (i + 1) = outK n node i ++ [i] := by rw [outK_succ, if_pos c18]
      refine j_region (y_ (yl_move (T rfl)) (y_ (yl_move (T rfl)) (e_ (eff_bslice (.cons (T rfl) .nil) (bs42_1_0 _)) ?_ rfl) rfl) rfl)
      rintro _ _ ⟨n21, rfl, rfl⟩
      refine e_ (eff_app1_at (i) (by' := 8) (by repeat (first | exact LocL.h | apply LocL.t | apply LocL.a)) (T rfl) (T rfl) Tryz.runUnderlying42 Tryz.runUnderlying42 Tryz.sizeOf3 Tryz.typeInfo3 rfl Tryz.zeroValue3 rfl (fun _ => rfl) rfl hd (by decide) (by have := outK_len n node i; omega)) ?_ rfl
      rintro _ _ ⟨d', rfl, hokd, rfl⟩
      refine y_ (yl_assign (T rfl)) (jl_nil (q_block (q_then (j_region (y_ (yl_add (T rfl) ev_c (by omega)) ?_ rfl))))) rfl
      refine y_ (yl_move (T rfl)) (jl_nil ?_) rfl
      refine q_loopC ((i + 1, d')) ?_ ?_ ⟨(by first | exact at_f rfl | (refine at_e (at_f rfl) (vint ?_); omega) | (refine at_e (at_f rfl) ?_; simp; done) | (refine at_e (at_f rfl) ?_; exact by simp only [hrow, List.length_append, List.length_cons, List.length_nil])), (by first | exact at_f rfl | (refine at_e (at_f rfl) (vint ?_); omega) | (refine at_e (at_f rfl) ?_; simp; done) | (refine at_e (at_f rfl) ?_; exact by simp only [hrow, List.length_append, List.length_cons, List.length_nil])), trivial⟩ ⟨at_f rfl, at_f rfl, at_f rfl, trivial⟩ ?_
      · exact ⟨by omega, by rw [hrow, List.length_append]; exact hokd⟩
      · first | omega | (simp only []; omega)
      · simp only [hrow]; exact sbt
    · have hrow : outK n node (i + 1) = outK n node i := by rw [outK_succ, if_neg c18]
      refine j_skip (q_block (q_then (j_region (y_ (yl_add (T rfl) ev_c (by omega)) ?_ rfl))))
      refine y_ (yl_move (T rfl)) (jl_nil ?_) rfl
      refine q_loopC ((i + 1, d)) ?_ ?_ ⟨(by first | exact at_f rfl | (refine at_e (at_f rfl) (vint ?_); omega) | (refine at_e (at_f rfl) ?_; simp; done) | (refine at_e (at_f rfl) ?_; exact by simp only [hrow, List.length_append, List.length_cons, List.length_nil])), (by first | exact at_f rfl | (refine at_e (at_f rfl) (vint ?_); omega) | (refine at_e (at_f rfl) ?_; simp; done) | (refine at_e (at_f rfl) ?_; exact by simp only [hrow, List.length_append, List.length_cons, List.length_nil])), trivial⟩ ⟨at_f rfl, at_f rfl, at_f rfl, trivial⟩ ?_
      · exact ⟨by omega, by rw [hrow]; exact hd⟩
      · first | omega | (simp only []; omega)
      · simp only [hrow]; exact sbt
  · refine j_exit (q_then_exit (q_loop_exit (q_block_hit (q_then (j_seq (j_region (y_ (yl_move (T rfl)) (y_ (yl_assign (T rfl)) (jl_nil (q_then (j_ret (q_ret rfl (.tmp (at_f rfl) .nil) ?_)))) rfl) rfl)))))))
    have hi2 : i = n.links.length := by omega
    rw [hi2] at hd ⊢
    exact ⟨_, ⟨d, ⟨rfl, hd⟩, rfl⟩, sbt⟩
theorem gout_s {w0 : World} {H : List (Nat × Obj)} (n : Nn) (hn : NetR w0 H n) (hok : NnOk n) (node : Nat) :
    FSpec Tryz.prog w0 128 #[.agg (encNn n).toArray, .int .i64 (node : Int)] H (fun v H' => ∃ d, (v = slV d (outF n node).length ∧ SlOk d (outF n node).length 1) ∧ H' = slH d ((outF n node).flatMap encU) 3 ++ H) := by
  refine fn_spec Tryz.func128 rfl Tryz.ntmps128 rfl (j_seq (j_region (e_ (eff_box (T rfl) cs_) ?_ rfl)))
  rintro _ _ ⟨n2, rfl, rfl⟩
  refine e_ (eff_box (T rfl) cs_) ?_ rfl
  rintro _ _ ⟨n3, rfl, rfl⟩
  refine y_ (yl_assign ev_c) (jl_nil (q_then (j_seq (j_region (y_ (yl_loadA (T rfl) Tryz.isAgg56 Tryz.sizeOf56 rfl (by first | exact cs_o)) ?_ rfl))))) rfl
  refine y_ (yl_makeFunc (.cons (T rfl) .nil)) ?_ rfl
  refine e_ (eff_call (.cons (T rfl) (.cons (T rfl) .nil)) Tryz.call145 (links_s n (hn.mono sbt) hok node n3 (by repeat (first | exact fnd_h | refine fnd_t ?_ | refine fnd_a ?_)))) ?_ rfl
  rintro _ _ ⟨d, ⟨rfl, hd⟩, rfl⟩
  refine y_ (yl_assign (T rfl)) (jl_nil (q_then (j_ret (q_ret rfl (.tmp (at_f rfl) .nil) ?_)))) rfl
  exact ⟨_, ⟨d, ⟨rfl, hd⟩, rfl⟩, sbt⟩
end Go.Proofs.YtkdolgnpkjihpaaGreatDoor
namespace Go.Proofs.YtkdolgnpkjihpaaGreatDoor
set_option linter.unusedVariables false
set_option linter.unusedSimpArgs false
set_option linter.unusedSectionVars false
abbrev Pl := Nat × Nat
structure BS (σ : Type) where
  l : List Pl
  w : List (Int × σ)
section
variable {σ : Type} [Inhabited σ]
def visF (k : Nat) (st : BS σ) (x : Pl × σ) : BS σ := if x.1 ∈ st.l then st else ⟨st.l ++ [x.1], st.w ++ [((k : Int), x.2)]⟩
def visAll (k : Nat) (st : BS σ) (ts : List (Pl × σ)) : BS σ := ts.foldl (visF k) st
theorem visAll_take (k : Nat) (st : BS σ) {ts : List (Pl × σ)} {j : Nat} {x : Pl × σ} (h : ts[j]? = some x) : visAll k st (ts.take (j + 1)) = visF k (visAll k st (ts.take j)) x := by
  unfold visAll; rw [List.take_add_one, h, List.foldl_append]; rfl
def goF (ts : Pl → List (Pl × σ)) (fnd : Pl → Bool) : Nat → Nat → BS σ → Option Nat × BS σ
  | 0, _, st => (none, st)
  | f + 1, k, st => if k < st.l.length then (if fnd (gd st.l k) then (some k, st) else goF ts fnd f (k + 1) (visAll k st (ts (gd st.l k)))) else (none, st)
theorem goF_succ (ts : Pl → List (Pl × σ)) (fnd : Pl → Bool) (f k : Nat) (st : BS σ) : goF ts fnd (f + 1) k st = if k < st.l.length then (if fnd (gd st.l k) then (some k, st) else goF ts fnd f (k + 1) (visAll k st (ts (gd st.l k)))) else (none, st) := rfl
def backF (w : List (Int × σ)) : Nat → Nat → List σ
  | 0, _ => []
  | f + 1, i => if 0 ≤ (gd w i).1 then (gd w i).2 :: backF w f (gd w i).1.toNat else []
theorem backF_succ (w : List (Int × σ)) (f i : Nat) : backF w (f + 1) i = if 0 ≤ (gd w i).1 then (gd w i).2 :: backF w f (gd w i).1.toNat else [] := rfl
structure BSok (Pd : Pl → Prop) (k : Nat) (st : BS σ) : Prop where
  nd : st.l.Nodup
  ok : ∀ p ∈ st.l, Pd p
  len : st.w.length = st.l.length
  back : ∀ i, i < st.w.length → -1 ≤ (gd st.w i).1 ∧ (gd st.w i).1 < i
  kl : k ≤ st.l.length
theorem gd_app_l {α : Type} [Inhabited α] {l l' : List α} {i : Nat} (h : i < l.length) : gd (l ++ l') i = gd l i := by
  rw [gd_getElem (by simp; omega), List.getElem_append_left h, ← gd_getElem h]
theorem gd_app_r {α : Type} [Inhabited α] {l : List α} {x : α} : gd (l ++ [x]) l.length = x := by
  rw [gd_getElem (by simp)]; simp
theorem BSok.vis {Pd : Pl → Prop} {k k' : Nat} {st : BS σ} (h : BSok Pd k st) (hk : k' < st.l.length) {x : Pl × σ} (hx : Pd x.1) : BSok Pd k (visF k' st x) ∧ st.l.length ≤ (visF k' st x).l.length ∧ (visF k' st x).l.length ≤ st.l.length + 1 := by
  unfold visF; split
  · exact ⟨h, Nat.le_refl _, by omega⟩
  · rename_i hn
    refine ⟨⟨?_, ?_, by simp [h.len], ?_, by have := h.kl; simp; omega⟩, by simp, by simp⟩
    · rw [List.nodup_append]
      exact ⟨h.nd, by simp, fun a ha b hb => by simp at hb; subst hb; rintro rfl; exact hn ha⟩
    · intro p hp
      simp only [List.mem_append, List.mem_cons, List.not_mem_nil, or_false] at hp
      rcases hp with hp | rfl
      · exact h.ok p hp
      · exact hx
    · intro i hi
      simp only [List.length_append, List.length_cons, List.length_nil] at hi
      by_cases e : i < st.w.length
      · rw [gd_app_l e]; exact h.back i e
      · have e2 : i = st.w.length := by omega
        subst e2
        rw [gd_app_r]
        have := h.len
        simp only []
        omega
theorem BSok.visAll {Pd : Pl → Prop} {k k' : Nat} : ∀ (ts : List (Pl × σ)) {st : BS σ}, BSok Pd k st → k' < st.l.length → (∀ x ∈ ts, Pd x.1) → BSok Pd k (visAll k' st ts) ∧ st.l.length ≤ (visAll k' st ts).l.length
  | [], st, h, hk, _ => ⟨h, Nat.le_refl _⟩
  | x :: ts, st, h, hk, ht => by
    obtain ⟨h1, h2, _⟩ := h.vis hk (ht x (by simp))
    obtain ⟨h3, h4⟩ := BSok.visAll (k' := k') ts h1 (by omega) (fun y hy => ht y (by simp [hy]))
    exact ⟨h3, Nat.le_trans h2 h4⟩
theorem visF_get {k : Nat} {st : BS σ} {x : Pl × σ} {i : Nat} (h : i < st.l.length) : gd (visF k st x).l i = gd st.l i := by
  unfold visF; split
  · rfl
  · exact gd_app_l h
theorem visAll_get {k : Nat} {i : Nat} : ∀ (ts : List (Pl × σ)) {st : BS σ}, i < st.l.length → gd (visAll k st ts).l i = gd st.l i ∧ st.l.length ≤ (visAll k st ts).l.length
  | [], st, h => ⟨rfl, Nat.le_refl _⟩
  | x :: ts, st, h => by
    have hl : st.l.length ≤ (visF k st x).l.length := by unfold visF; split <;> simp
    obtain ⟨h1, h2⟩ := visAll_get ts (st := visF k st x) (i := i) (by omega)
    exact ⟨by show gd (visAll k (visF k st x) ts).l i = _; rw [h1, visF_get h], Nat.le_trans hl h2⟩
end
theorem grid_few {A B : Nat} {l : List Pl} (h : l.Nodup) (hl : ∀ p ∈ l, p.1 < A ∧ p.2 < B) : l.length ≤ A * B := by
  have h1 : (l.map fun p => p.1 * B + p.2).Nodup := by
    rw [List.Nodup, List.pairwise_map]
    refine List.Pairwise.imp_of_mem ?_ h
    intro a b ha hb hab e
    obtain ⟨_, ha2⟩ := hl a ha
    obtain ⟨_, hb2⟩ := hl b hb
    have hB : 0 < B := by omega
    have e1 : a.1 = b.1 := by
      have h1 : (a.1 * B + a.2) / B = a.1 := by rw [Nat.mul_comm, Nat.mul_add_div hB, Nat.div_eq_of_lt ha2]; rfl
      have h2 : (b.1 * B + b.2) / B = b.1 := by rw [Nat.mul_comm, Nat.mul_add_div hB, Nat.div_eq_of_lt hb2]; rfl
      rw [← h1, ← h2, e]
    have e2 : a.2 = b.2 := by rw [e1] at e; omega
    exact hab (Prod.ext e1 e2)
  have := nodup_le h1 (l' := List.range (A * B)) fun x hx => by
    simp only [List.mem_map] at hx
    obtain ⟨p, hp, rfl⟩ := hx
    obtain ⟨h2, h3⟩ := hl p hp
    rw [List.mem_range]
    calc p.1 * B + p.2 < p.1 * B + B := by omega
      _ = (p.1 + 1) * B := by rw [Nat.succ_mul]
      _ ≤ A * B := Nat.mul_le_mul_right _ h2
  simpa using this
def trueM (l : List Pl) : List (Pl × Bool) := l.map fun p => (p, true)
theorem look_trueM (x : Pl) : ∀ l : List Pl, look (trueM l) x = if x ∈ l then some true else none
  | [] => rfl
  | y :: l => by
    show look ((y, true) :: trueM l) x = _
    rw [look_cons, look_trueM x l]
    by_cases h : y = x
    · subst h; simp
    · have h2 : ¬ x = y := fun e => h e.symm
      simp only [h, if_false, List.mem_cons, h2, false_or]
theorem upsert_trueM {x : Pl} : ∀ {l : List Pl}, x ∉ l → upsert (trueM l) x true = trueM (l ++ [x])
  | [], _ => rfl
  | y :: l, h => by
    simp only [List.mem_cons, not_or] at h
    show upsert ((y, true) :: trueM l) x true = (y, true) :: trueM (l ++ [x])
    rw [upsert_cons, if_neg (fun e => h.1 e.symm), upsert_trueM h.2]
end Go.Proofs.YtkdolgnpkjihpaaGreatDoor
namespace Go.Proofs.YtkdolgnpkjihpaaGreatDoor
open Go.RowKit
set_option linter.unusedVariables false
set_option linter.unusedSimpArgs false
theorem bd178_0_1 (a0 : Int) (a1 : ByteArray) (w : World) : (Instr.build 178 #[(0, .int .i64 a0), (1, .string a1)]).run Tryz.prog w = .ok (.agg #[.int .i64 a0, .string a1]) w := by kernel_rfl
theorem bd186_0_1 (a0 : Int) (a1 : Int) (w : World) : (Instr.build 186 #[(0, .int .i64 a0), (1, .int .i64 a1)]).run Tryz.prog w = .ok (.agg #[.int .i64 a0, .int .i64 a1]) w := by kernel_rfl
theorem bs176_1_0 (a0 : Int) (a1 : Int) (w : World) : (Instr.buildSlice 176 1 #[(0, .agg #[.int .i64 a0, .int .i64 a1])]).run Tryz.prog w = .ok (.slice (some ⟨w.heap.size, 0, none⟩) 1 1) (w.alloc (Cl [.int .i64 a0, .int .i64 a1] 115)) := by kernel_rfl
theorem bs179_1_0 (a0 : Int) (a1 : ByteArray) (w : World) : (Instr.buildSlice 179 1 #[(0, .agg #[.int .i64 a0, .string a1])]).run Tryz.prog w = .ok (.slice (some ⟨w.heap.size, 0, none⟩) 1 1) (w.alloc (Cl [.int .i64 a0, .string a1] 178)) := by kernel_rfl
theorem bs187_1_0 (a0 : Int) (a1 : Int) (w : World) : (Instr.buildSlice 187 1 #[(0, .agg #[.int .i64 a0, .int .i64 a1])]).run Tryz.prog w = .ok (.slice (some ⟨w.heap.size, 0, none⟩) 1 1) (w.alloc (Cl [.int .i64 a0, .int .i64 a1] 186)) := by kernel_rfl
theorem bs59_1_0 (a0 : Int) (a1 : Int) (w : World) : (Instr.buildSlice 59 1 #[(0, .agg #[.int .i64 a0, .int .i64 a1])]).run Tryz.prog w = .ok (.slice (some ⟨w.heap.size, 0, none⟩) 1 1) (w.alloc (Cl [.int .i64 a0, .int .i64 a1] 74)) := by kernel_rfl
abbrev encPl (p : Pl) : List Value := [.int .i64 (p.1 : Int), .int .i64 (p.2 : Int)]
abbrev encPK (p : Pl) : Value := .agg (encPl p).toArray
theorem eqPk {t : TypeId} (h : ∀ (a b : Int × Int) w, (Op.equal t (encPlK a) (encPlK b)).run Tryz.prog w = .ok (decide (b = a)) w) (a b : Pl) (w : World) : (Op.equal t (encPK a) (encPK b)).run Tryz.prog w = .ok (decide (b = a)) w := by
  have h1 := h ((a.1 : Int), (a.2 : Int)) ((b.1 : Int), (b.2 : Int)) w
  refine Eq.trans h1 ?_
  refine congrArg (fun r => Result.ok r w) (decide_eq_decide.2 ?_)
  obtain ⟨a1, a2⟩ := a
  obtain ⟨b1, b2⟩ := b
  simp only [Prod.mk.injEq]
  omega
theorem keyP74 {V : Type} : KeyOk (V := V) Tryz.prog 74 encPK := keyOk_ask Tryz.runUnderlying74 (fun b k w => by cases b <;> kernel_rfl) (fun k k' => by simp [Instr.sameNow]) (eqPk eqPl) (fun k => by simp [Instr.sameBits])
theorem keyP115 {V : Type} : KeyOk (V := V) Tryz.prog 115 encPK := keyOk_ask Tryz.runUnderlying115 (fun b k w => by cases b <;> kernel_rfl) (fun k k' => by simp [Instr.sameNow]) (eqPk eqA2) (fun k => by simp [Instr.sameBits])
abbrev encWI (x : Int × Nat) : List Value := [.int .i64 x.1, .int .i64 (x.2 : Int)]
abbrev encWS (x : Int × ByteArray) : List Value := [.int .i64 x.1, .string x.2]
def bsHI (n18 n9 n8 : Nat) (st : BS Nat) (x : Sl × Sl) : List (Nat × Obj) := (n18, mapO encPK encBv (trueM st.l)) :: (n9, Cl [slV x.2 st.w.length] 187) :: (n8, Cl [slV x.1 st.l.length] 59) :: (slH x.2 (st.w.flatMap encWI) 186 ++ slH x.1 (st.l.flatMap encPl) 74)
theorem bsHI_app (n18 n9 n8 : Nat) (st : BS Nat) (x : Sl × Sl) (R : List (Nat × Obj)) : bsHI n18 n9 n8 st x ++ R = (n18, mapO encPK encBv (trueM st.l)) :: (n9, Cl [slV x.2 st.w.length] 187) :: (n8, Cl [slV x.1 st.l.length] 59) :: (slH x.2 (st.w.flatMap encWI) 186 ++ (slH x.1 (st.l.flatMap encPl) 74 ++ R)) := by
  unfold bsHI; simp only [List.cons_append, List.append_assoc]
structure bsOkI (st : BS Nat) (x : Sl × Sl) : Prop where
  o1 : SlOk x.1 st.l.length 2
  o2 : SlOk x.2 st.w.length 2
theorem yl_seenI {w0 : World} {H : List (Nat × Obj)} {L : Fm} {x y : Operand} {ty : TypeId} {r : Nat} {l : List Pl} {p : Pl} {v : Value} (hx : Ev L x (.map (some r))) (hy : Ev L y v) (hv : v = encPK p) (hf : Fnd H r (mapO encPK encBv (trueM l))) :
    Yl Tryz.prog w0 (.lookup 72 x y false) ty L H (.bool (decide (p ∈ l))) := by
  have h := yl_lookupB (P := Tryz.prog) (w0 := w0) (ty := ty) (encB := encBv) rfl (keyP74 (V := Bool)) hx hy hv Tryz.runUnderlying72 Tryz.zeroValue4 hf
  rw [look_trueM] at h
  by_cases hm : p ∈ l
  · rw [if_pos hm] at h; rw [decide_eq_true hm]; exact h
  · rw [if_neg hm] at h; rw [decide_eq_false hm]; exact h
theorem visI_s {w0 : World} {H : List (Nat × Obj)} (n18 n9 n8 n10 n11 k : Nat) (st : BS Nat) (x : Sl × Sl) (t : Pl) (by1 : Nat) (hx : bsOkI st x) (hl : st.l.length ≤ 100000) (hw : st.w.length = st.l.length) (h10 : Fnd H n10 (Cl [.map (some n18)] 72)) (h11 : Fnd H n11 (Cl [.int .i64 (k : Int)] 3)) :
    FSpec Tryz.prog w0 126 #[.agg (encPl t).toArray, .int .i64 (by1 : Int), .pointer (some ⟨n10, 0, none⟩), .pointer (some ⟨n8, 0, none⟩), .pointer (some ⟨n9, 0, none⟩), .pointer (some ⟨n11, 0, none⟩)] (bsHI n18 n9 n8 st x ++ H) (fun _ H' => ∃ y, bsOkI (visF k st (t, by1)) y ∧ H' = bsHI n18 n9 n8 (visF k st (t, by1)) y ++ H) := by
  obtain ⟨ho1, ho2⟩ := hx
  rw [bsHI_app]
  refine fn_spec Tryz.func126 rfl Tryz.ntmps126 rfl (j_seq (j_region (e_ (eff_box (T rfl) cs_) ?_ rfl)))
  rintro _ _ ⟨n6, rfl, rfl⟩
  refine jl_nil (q_then (j_seq (j_region ?_)))
  refine y_ (yl_load (T rfl) Tryz.isAgg72 (by first | exact c_o | exact c_o (hf := by repeat (first | exact h10 | refine fnd_t ?_ | refine fnd_a ?_)) | exact c_o (hf := fnd_t (fnd_t (fnd_t (fnd_t (fnd_a (fnd_a h10)))))) | exact c_o (hf := fnd_t (fnd_t (fnd_t (fnd_t (fnd_a (fnd_a h11)))))))) ?_ rfl
  refine y_ (yl_loadA (T rfl) Tryz.isAgg74 Tryz.sizeOf74 rfl (by first | exact cs_o | exact c_o (hf := fnd_t (fnd_t (fnd_t (fnd_t (fnd_a (fnd_a h10)))))) | exact c_o (hf := fnd_t (fnd_t (fnd_t (fnd_t (fnd_a (fnd_a h11)))))))) ?_ rfl
  refine y_ (yl_seenI (l := st.l) (p := t) (T rfl) (T rfl) rfl (by repeat (first | exact fnd_h | refine fnd_t ?_ | refine fnd_a ?_))) ?_ rfl
  first | refine jl_y (yl_not_d (T rfl)) rfl gd_n ?_ | refine jl_y (yl_not (T rfl)) rfl gd_n ?_
  refine jl_nil (q_then ?_)
  first | refine j_cond_d (at_f rfl) (fun c11 => ?_) (fun c11 => ?_) | refine j_cond (at_f rfl) (fun c11 => ?_) (fun c11 => ?_)
  · refine j_seq (j_region ?_)
    refine y_ (yl_load (T rfl) Tryz.isAgg72 (by first | exact c_o | exact c_o (hf := by repeat (first | exact h10 | refine fnd_t ?_ | refine fnd_a ?_)) | exact c_o (hf := fnd_t (fnd_t (fnd_t (fnd_t (fnd_a (fnd_a h10)))))) | exact c_o (hf := fnd_t (fnd_t (fnd_t (fnd_t (fnd_a (fnd_a h11)))))))) ?_ rfl
    refine y_ (yl_loadA (T rfl) Tryz.isAgg74 Tryz.sizeOf74 rfl (by first | exact cs_o | exact c_o (hf := fnd_t (fnd_t (fnd_t (fnd_t (fnd_a (fnd_a h10)))))) | exact c_o (hf := fnd_t (fnd_t (fnd_t (fnd_t (fnd_a (fnd_a h11)))))))) ?_ rfl
    refine e_ (eff_mapUpdate (l := trueM st.l) (encV := encBv) t true (keyP74 (V := Bool)) (T rfl) (T rfl) rfl ev_c rfl Tryz.runUnderlying72) ?_ rfl
    rintro _ _ ⟨rfl, rfl⟩
    rw [upsert_trueM c11]
    refine jl_nil (q_then (j_anyX 9 _ mixd (by kernel_rfl) (show List.Sublist ((n6, Cl (encPl t) 74) :: (n18, _) :: (n9, Cl [slV x.2 st.w.length] 187) :: (n8, Cl [slV x.1 st.l.length] 59) :: H) _ from by repeat (first | exact List.Sublist.refl _ | apply List.Sublist.cons_cons | exact sbt)) ?_))
    refine x_y (i := 0) rfl (by kernel_rfl) (yl_load (T rfl) Tryz.isAgg59 (by first | exact c_o | exact c_o (hf := fnd_t (fnd_t (fnd_t (fnd_t (fnd_a (fnd_a h10)))))) | exact c_o (hf := fnd_t (fnd_t (fnd_t (fnd_t (fnd_a (fnd_a h11)))))))) ?_ rfl gd_n
    refine x_y (i := 1) rfl (by kernel_rfl) (yl_loadA (T rfl) Tryz.isAgg74 Tryz.sizeOf74 rfl (by first | exact cs_o | exact c_o (hf := fnd_t (fnd_t (fnd_t (fnd_t (fnd_a (fnd_a h10)))))) | exact c_o (hf := fnd_t (fnd_t (fnd_t (fnd_t (fnd_a (fnd_a h11)))))))) ?_ rfl gd_n
    refine x_y (i := 4) rfl (by kernel_rfl) (yl_load (T rfl) Tryz.isAgg187 (by first | exact c_o | exact c_o (hf := fnd_t (fnd_t (fnd_t (fnd_t (fnd_a (fnd_a h10)))))) | exact c_o (hf := fnd_t (fnd_t (fnd_t (fnd_t (fnd_a (fnd_a h11)))))))) ?_ rfl gd_n
    refine x_y (i := 5) rfl (by kernel_rfl) (yl_load (T rfl) Tryz.isAgg3 (by first | exact c_o | exact c_o (hf := by repeat (first | exact h11 | refine fnd_t ?_ | refine fnd_a ?_)) | exact c_o (hf := fnd_t (fnd_t (fnd_t (fnd_t (fnd_a (fnd_a h10)))))) | exact c_o (hf := fnd_t (fnd_t (fnd_t (fnd_t (fnd_a (fnd_a h11)))))))) ?_ rfl gd_n
    refine x_y (i := 6) rfl (by kernel_rfl) (yl_move (T rfl)) ?_ rfl gd_n
    refine x_y (i := 7) rfl (by kernel_rfl) (yl_build (.cons (T rfl) (.cons (T rfl) .nil)) (bd186_0_1 _ _)) ?_ rfl gd_n
    refine x_two (i := 2) (j := 8) (by kernel_rfl) (by kernel_rfl) ?_ ?_
    · refine xs_e rfl (eff_bslice (.cons (T rfl) .nil) (bs59_1_0 _ _)) ?_ rfl gd_n
      rintro _ _ ⟨n16, rfl, rfl⟩
      refine ⟨sbt, ?_⟩
      refine x_two (i := 3) (j := 8) (by kernel_rfl) (by kernel_rfl) ?_ ?_
      · refine xs_e rfl (eff_app1_at (t) (by' := 16) (by repeat (first | exact LocL.h | apply LocL.t | apply LocL.a)) (T rfl) (T rfl) Tryz.runUnderlying59 Tryz.runUnderlying59 Tryz.sizeOf74 Tryz.typeInfo74 rfl Tryz.zeroValue74 rfl (fun _ => rfl) rfl ho1 (by decide) (by omega)) ?_ rfl gd_n
        rintro _ _ ⟨d', rfl, hokd, rfl⟩
        refine ⟨sbt, (x_one (i := 8) (by kernel_rfl) (by kernel_rfl) ?_)⟩
        refine xs_e rfl (eff_bslice (.cons (T rfl) .nil) (bs187_1_0 _ _)) ?_ rfl gd_n
        rintro _ _ ⟨n22, rfl, rfl⟩
        refine ⟨sbt, (x_nil (by kernel_rfl) rfl ?_)⟩
        refine e_ (eff_app1_at (((k : Int), by1)) (by' := 16) (by repeat (first | exact LocL.h | apply LocL.t | apply LocL.a)) (T rfl) (T rfl) Tryz.runUnderlying187 Tryz.runUnderlying187 Tryz.sizeOf186 Tryz.typeInfo186 rfl Tryz.zeroValue186 rfl (fun _ => rfl) rfl ho2 (by decide) (by omega)) ?_ rfl
        rintro _ _ ⟨e', rfl, hoke, rfl⟩
        first | refine jl_e (eff_sW (T rfl) (T rfl) Tryz.sizeOf59) rfl gd_n ?_ | refine jl_e (eff_s1 (T rfl) (T rfl) rfl Tryz.sizeOf59) rfl gd_n ?_ | refine jl_e (eff_s1r (T rfl) (T rfl) rfl Tryz.sizeOf59) rfl gd_n ?_
        rintro _ _ ⟨rfl, rfl⟩
        first | refine jl_e (eff_sW (T rfl) (T rfl) Tryz.sizeOf187) rfl gd_n ?_ | refine jl_e (eff_s1 (T rfl) (T rfl) rfl Tryz.sizeOf187) rfl gd_n ?_ | refine jl_e (eff_s1r (T rfl) (T rfl) rfl Tryz.sizeOf187) rfl gd_n ?_
        rintro _ _ ⟨rfl, rfl⟩
        refine jl_nil (q_end rfl .nil ?_)
        have hv : visF k st (t, by1) = ⟨st.l ++ [t], st.w ++ [((k : Int), by1)]⟩ := if_neg c11
        refine ⟨_, ⟨(d', e'), ⟨by rw [hv]; simpa using hokd, by rw [hv]; simpa using hoke⟩, rfl⟩, ?_⟩
        rw [hv, bsHI_app]
        simp only [List.length_append, List.length_cons, List.length_nil, Nat.zero_add]
        exact sbt
      · refine xs_e rfl (eff_bslice (.cons (T rfl) .nil) (bs187_1_0 _ _)) ?_ rfl gd_n
        rintro _ _ ⟨n22, rfl, rfl⟩
        refine ⟨sbt, (x_one (i := 3) (by kernel_rfl) (by kernel_rfl) ?_)⟩
        refine xs_e rfl (eff_app1_at (t) (by' := 16) (by repeat (first | exact LocL.h | apply LocL.t | apply LocL.a)) (T rfl) (T rfl) Tryz.runUnderlying59 Tryz.runUnderlying59 Tryz.sizeOf74 Tryz.typeInfo74 rfl Tryz.zeroValue74 rfl (fun _ => rfl) rfl ho1 (by decide) (by omega)) ?_ rfl gd_n
        rintro _ _ ⟨d', rfl, hokd, rfl⟩
        refine ⟨sbt, (x_nil (by kernel_rfl) rfl ?_)⟩
        refine e_ (eff_app1_at (((k : Int), by1)) (by' := 16) (by repeat (first | exact LocL.h | apply LocL.t | apply LocL.a)) (T rfl) (T rfl) Tryz.runUnderlying187 Tryz.runUnderlying187 Tryz.sizeOf186 Tryz.typeInfo186 rfl Tryz.zeroValue186 rfl (fun _ => rfl) rfl ho2 (by decide) (by omega)) ?_ rfl
        rintro _ _ ⟨e', rfl, hoke, rfl⟩
        first | refine jl_e (eff_sW (T rfl) (T rfl) Tryz.sizeOf59) rfl gd_n ?_ | refine jl_e (eff_s1 (T rfl) (T rfl) rfl Tryz.sizeOf59) rfl gd_n ?_ | refine jl_e (eff_s1r (T rfl) (T rfl) rfl Tryz.sizeOf59) rfl gd_n ?_
        rintro _ _ ⟨rfl, rfl⟩
        first | refine jl_e (eff_sW (T rfl) (T rfl) Tryz.sizeOf187) rfl gd_n ?_ | refine jl_e (eff_s1 (T rfl) (T rfl) rfl Tryz.sizeOf187) rfl gd_n ?_ | refine jl_e (eff_s1r (T rfl) (T rfl) rfl Tryz.sizeOf187) rfl gd_n ?_
        rintro _ _ ⟨rfl, rfl⟩
        refine jl_nil (q_end rfl .nil ?_)
        have hv : visF k st (t, by1) = ⟨st.l ++ [t], st.w ++ [((k : Int), by1)]⟩ := if_neg c11
        refine ⟨_, ⟨(d', e'), ⟨by rw [hv]; simpa using hokd, by rw [hv]; simpa using hoke⟩, rfl⟩, ?_⟩
        rw [hv, bsHI_app]
        simp only [List.length_append, List.length_cons, List.length_nil, Nat.zero_add]
        exact sbt
    · refine xs_e rfl (eff_bslice (.cons (T rfl) .nil) (bs187_1_0 _ _)) ?_ rfl gd_n
      rintro _ _ ⟨n22, rfl, rfl⟩
      refine ⟨sbt, (x_one (i := 2) (by kernel_rfl) (by kernel_rfl) ?_)⟩
      refine xs_e rfl (eff_bslice (.cons (T rfl) .nil) (bs59_1_0 _ _)) ?_ rfl gd_n
      rintro _ _ ⟨n16, rfl, rfl⟩
      refine ⟨sbt, (x_one (i := 3) (by kernel_rfl) (by kernel_rfl) ?_)⟩
      refine xs_e rfl (eff_app1_at (t) (by' := 16) (by repeat (first | exact LocL.h | apply LocL.t | apply LocL.a)) (T rfl) (T rfl) Tryz.runUnderlying59 Tryz.runUnderlying59 Tryz.sizeOf74 Tryz.typeInfo74 rfl Tryz.zeroValue74 rfl (fun _ => rfl) rfl ho1 (by decide) (by omega)) ?_ rfl gd_n
      rintro _ _ ⟨d', rfl, hokd, rfl⟩
      refine ⟨sbt, (x_nil (by kernel_rfl) rfl ?_)⟩
      refine e_ (eff_app1_at (((k : Int), by1)) (by' := 16) (by repeat (first | exact LocL.h | apply LocL.t | apply LocL.a)) (T rfl) (T rfl) Tryz.runUnderlying187 Tryz.runUnderlying187 Tryz.sizeOf186 Tryz.typeInfo186 rfl Tryz.zeroValue186 rfl (fun _ => rfl) rfl ho2 (by decide) (by omega)) ?_ rfl
      rintro _ _ ⟨e', rfl, hoke, rfl⟩
      first | refine jl_e (eff_sW (T rfl) (T rfl) Tryz.sizeOf59) rfl gd_n ?_ | refine jl_e (eff_s1 (T rfl) (T rfl) rfl Tryz.sizeOf59) rfl gd_n ?_ | refine jl_e (eff_s1r (T rfl) (T rfl) rfl Tryz.sizeOf59) rfl gd_n ?_
      rintro _ _ ⟨rfl, rfl⟩
      first | refine jl_e (eff_sW (T rfl) (T rfl) Tryz.sizeOf187) rfl gd_n ?_ | refine jl_e (eff_s1 (T rfl) (T rfl) rfl Tryz.sizeOf187) rfl gd_n ?_ | refine jl_e (eff_s1r (T rfl) (T rfl) rfl Tryz.sizeOf187) rfl gd_n ?_
      rintro _ _ ⟨rfl, rfl⟩
      refine jl_nil (q_end rfl .nil ?_)
      have hv : visF k st (t, by1) = ⟨st.l ++ [t], st.w ++ [((k : Int), by1)]⟩ := if_neg c11
      refine ⟨_, ⟨(d', e'), ⟨by rw [hv]; simpa using hokd, by rw [hv]; simpa using hoke⟩, rfl⟩, ?_⟩
      rw [hv, bsHI_app]
      simp only [List.length_append, List.length_cons, List.length_nil, Nat.zero_add]
      exact sbt
  · refine j_skip (q_end rfl .nil ?_)
    have hv : visF k st (t, by1) = st := if_pos (Classical.not_not.1 c11)
    refine ⟨_, ⟨x, ⟨by rw [hv]; exact ho1, by rw [hv]; exact ho2⟩, rfl⟩, ?_⟩
    rw [hv, bsHI_app]
    exact sbt
def bsHS (n18 n9 n8 : Nat) (st : BS ByteArray) (x : Sl × Sl) : List (Nat × Obj) := (n18, mapO encPK encBv (trueM st.l)) :: (n9, Cl [slV x.2 st.w.length] 179) :: (n8, Cl [slV x.1 st.l.length] 176) :: (slH x.2 (st.w.flatMap encWS) 178 ++ slH x.1 (st.l.flatMap encPl) 115)
theorem bsHS_app (n18 n9 n8 : Nat) (st : BS ByteArray) (x : Sl × Sl) (R : List (Nat × Obj)) : bsHS n18 n9 n8 st x ++ R = (n18, mapO encPK encBv (trueM st.l)) :: (n9, Cl [slV x.2 st.w.length] 179) :: (n8, Cl [slV x.1 st.l.length] 176) :: (slH x.2 (st.w.flatMap encWS) 178 ++ (slH x.1 (st.l.flatMap encPl) 115 ++ R)) := by
  unfold bsHS; simp only [List.cons_append, List.append_assoc]
structure bsOkS (st : BS ByteArray) (x : Sl × Sl) : Prop where
  o1 : SlOk x.1 st.l.length 2
  o2 : SlOk x.2 st.w.length 2
theorem yl_seenS {w0 : World} {H : List (Nat × Obj)} {L : Fm} {x y : Operand} {ty : TypeId} {r : Nat} {l : List Pl} {p : Pl} {v : Value} (hx : Ev L x (.map (some r))) (hy : Ev L y v) (hv : v = encPK p) (hf : Fnd H r (mapO encPK encBv (trueM l))) :
    Yl Tryz.prog w0 (.lookup 180 x y false) ty L H (.bool (decide (p ∈ l))) := by
  have h := yl_lookupB (P := Tryz.prog) (w0 := w0) (ty := ty) (encB := encBv) rfl (keyP115 (V := Bool)) hx hy hv Tryz.runUnderlying180 Tryz.zeroValue4 hf
  rw [look_trueM] at h
  by_cases hm : p ∈ l
  · rw [if_pos hm] at h; rw [decide_eq_true hm]; exact h
  · rw [if_neg hm] at h; rw [decide_eq_false hm]; exact h
theorem visS_s {w0 : World} {H : List (Nat × Obj)} (n18 n9 n8 n10 n11 k : Nat) (st : BS ByteArray) (x : Sl × Sl) (t : Pl) (by1 : ByteArray) (hx : bsOkS st x) (hl : st.l.length ≤ 100000) (hw : st.w.length = st.l.length) (h10 : Fnd H n10 (Cl [.map (some n18)] 180)) (h11 : Fnd H n11 (Cl [.int .i64 (k : Int)] 3)) :
    FSpec Tryz.prog w0 120 #[.agg (encPl t).toArray, .string by1, .pointer (some ⟨n10, 0, none⟩), .pointer (some ⟨n8, 0, none⟩), .pointer (some ⟨n9, 0, none⟩), .pointer (some ⟨n11, 0, none⟩)] (bsHS n18 n9 n8 st x ++ H) (fun _ H' => ∃ y, bsOkS (visF k st (t, by1)) y ∧ H' = bsHS n18 n9 n8 (visF k st (t, by1)) y ++ H) := by
  obtain ⟨ho1, ho2⟩ := hx
  rw [bsHS_app]
  refine fn_spec Tryz.func120 rfl Tryz.ntmps120 rfl (j_seq (j_region (e_ (eff_box (T rfl) cs_) ?_ rfl)))
  rintro _ _ ⟨n6, rfl, rfl⟩
  refine jl_nil (q_then (j_seq (j_region ?_)))
  refine y_ (yl_load (T rfl) Tryz.isAgg180 (by first | exact c_o | exact c_o (hf := by repeat (first | exact h10 | refine fnd_t ?_ | refine fnd_a ?_)) | exact c_o (hf := fnd_t (fnd_t (fnd_t (fnd_t (fnd_a (fnd_a h10)))))) | exact c_o (hf := fnd_t (fnd_t (fnd_t (fnd_t (fnd_a (fnd_a h11)))))))) ?_ rfl
  refine y_ (yl_loadA (T rfl) Tryz.isAgg115 Tryz.sizeOf115 rfl (by first | exact cs_o | exact c_o (hf := fnd_t (fnd_t (fnd_t (fnd_t (fnd_a (fnd_a h10)))))) | exact c_o (hf := fnd_t (fnd_t (fnd_t (fnd_t (fnd_a (fnd_a h11)))))))) ?_ rfl
  refine y_ (yl_seenS (l := st.l) (p := t) (T rfl) (T rfl) rfl (by repeat (first | exact fnd_h | refine fnd_t ?_ | refine fnd_a ?_))) ?_ rfl
  first | refine jl_y (yl_not_d (T rfl)) rfl gd_n ?_ | refine jl_y (yl_not (T rfl)) rfl gd_n ?_
  refine jl_nil (q_then ?_)
  first | refine j_cond_d (at_f rfl) (fun c11 => ?_) (fun c11 => ?_) | refine j_cond (at_f rfl) (fun c11 => ?_) (fun c11 => ?_)
  · refine j_seq (j_region ?_)
    refine y_ (yl_load (T rfl) Tryz.isAgg180 (by first | exact c_o | exact c_o (hf := by repeat (first | exact h10 | refine fnd_t ?_ | refine fnd_a ?_)) | exact c_o (hf := fnd_t (fnd_t (fnd_t (fnd_t (fnd_a (fnd_a h10)))))) | exact c_o (hf := fnd_t (fnd_t (fnd_t (fnd_t (fnd_a (fnd_a h11)))))))) ?_ rfl
    refine y_ (yl_loadA (T rfl) Tryz.isAgg115 Tryz.sizeOf115 rfl (by first | exact cs_o | exact c_o (hf := fnd_t (fnd_t (fnd_t (fnd_t (fnd_a (fnd_a h10)))))) | exact c_o (hf := fnd_t (fnd_t (fnd_t (fnd_t (fnd_a (fnd_a h11)))))))) ?_ rfl
    refine e_ (eff_mapUpdate (l := trueM st.l) (encV := encBv) t true (keyP115 (V := Bool)) (T rfl) (T rfl) rfl ev_c rfl Tryz.runUnderlying180) ?_ rfl
    rintro _ _ ⟨rfl, rfl⟩
    rw [upsert_trueM c11]
    refine jl_nil (q_then (j_anyX 9 _ mixd (by kernel_rfl) (show List.Sublist ((n6, Cl (encPl t) 115) :: (n18, _) :: (n9, Cl [slV x.2 st.w.length] 179) :: (n8, Cl [slV x.1 st.l.length] 176) :: H) _ from by repeat (first | exact List.Sublist.refl _ | apply List.Sublist.cons_cons | exact sbt)) ?_))
    refine x_y (i := 0) rfl (by kernel_rfl) (yl_load (T rfl) Tryz.isAgg176 (by first | exact c_o | exact c_o (hf := fnd_t (fnd_t (fnd_t (fnd_t (fnd_a (fnd_a h10)))))) | exact c_o (hf := fnd_t (fnd_t (fnd_t (fnd_t (fnd_a (fnd_a h11)))))))) ?_ rfl gd_n
    refine x_y (i := 1) rfl (by kernel_rfl) (yl_loadA (T rfl) Tryz.isAgg115 Tryz.sizeOf115 rfl (by first | exact cs_o | exact c_o (hf := fnd_t (fnd_t (fnd_t (fnd_t (fnd_a (fnd_a h10)))))) | exact c_o (hf := fnd_t (fnd_t (fnd_t (fnd_t (fnd_a (fnd_a h11)))))))) ?_ rfl gd_n
    refine x_y (i := 4) rfl (by kernel_rfl) (yl_load (T rfl) Tryz.isAgg179 (by first | exact c_o | exact c_o (hf := fnd_t (fnd_t (fnd_t (fnd_t (fnd_a (fnd_a h10)))))) | exact c_o (hf := fnd_t (fnd_t (fnd_t (fnd_t (fnd_a (fnd_a h11)))))))) ?_ rfl gd_n
    refine x_y (i := 5) rfl (by kernel_rfl) (yl_load (T rfl) Tryz.isAgg3 (by first | exact c_o | exact c_o (hf := by repeat (first | exact h11 | refine fnd_t ?_ | refine fnd_a ?_)) | exact c_o (hf := fnd_t (fnd_t (fnd_t (fnd_t (fnd_a (fnd_a h10)))))) | exact c_o (hf := fnd_t (fnd_t (fnd_t (fnd_t (fnd_a (fnd_a h11)))))))) ?_ rfl gd_n
    refine x_y (i := 6) rfl (by kernel_rfl) (yl_move (T rfl)) ?_ rfl gd_n
    refine x_y (i := 7) rfl (by kernel_rfl) (yl_build (.cons (T rfl) (.cons (T rfl) .nil)) (bd178_0_1 _ _)) ?_ rfl gd_n
    refine x_two (i := 2) (j := 8) (by kernel_rfl) (by kernel_rfl) ?_ ?_
    · refine xs_e rfl (eff_bslice (.cons (T rfl) .nil) (bs176_1_0 _ _)) ?_ rfl gd_n
      rintro _ _ ⟨n16, rfl, rfl⟩
      refine ⟨sbt, ?_⟩
      refine x_two (i := 3) (j := 8) (by kernel_rfl) (by kernel_rfl) ?_ ?_
      · refine xs_e rfl (eff_app1_at (t) (by' := 16) (by repeat (first | exact LocL.h | apply LocL.t | apply LocL.a)) (T rfl) (T rfl) Tryz.runUnderlying176 Tryz.runUnderlying176 Tryz.sizeOf115 Tryz.typeInfo115 rfl Tryz.zeroValue115 rfl (fun _ => rfl) rfl ho1 (by decide) (by omega)) ?_ rfl gd_n
        rintro _ _ ⟨d', rfl, hokd, rfl⟩
        refine ⟨sbt, (x_one (i := 8) (by kernel_rfl) (by kernel_rfl) ?_)⟩
        refine xs_e rfl (eff_bslice (.cons (T rfl) .nil) (bs179_1_0 _ _)) ?_ rfl gd_n
        rintro _ _ ⟨n22, rfl, rfl⟩
        refine ⟨sbt, (x_nil (by kernel_rfl) rfl ?_)⟩
        refine e_ (eff_app1_at (((k : Int), by1)) (by' := 24) (by repeat (first | exact LocL.h | apply LocL.t | apply LocL.a)) (T rfl) (T rfl) Tryz.runUnderlying179 Tryz.runUnderlying179 Tryz.sizeOf178 Tryz.typeInfo178 rfl Tryz.zeroValue178 rfl (fun _ => rfl) rfl ho2 (by decide) (by omega)) ?_ rfl
        rintro _ _ ⟨e', rfl, hoke, rfl⟩
        first | refine jl_e (eff_sW (T rfl) (T rfl) Tryz.sizeOf176) rfl gd_n ?_ | refine jl_e (eff_s1 (T rfl) (T rfl) rfl Tryz.sizeOf176) rfl gd_n ?_ | refine jl_e (eff_s1r (T rfl) (T rfl) rfl Tryz.sizeOf176) rfl gd_n ?_
        rintro _ _ ⟨rfl, rfl⟩
        first | refine jl_e (eff_sW (T rfl) (T rfl) Tryz.sizeOf179) rfl gd_n ?_ | refine jl_e (eff_s1 (T rfl) (T rfl) rfl Tryz.sizeOf179) rfl gd_n ?_ | refine jl_e (eff_s1r (T rfl) (T rfl) rfl Tryz.sizeOf179) rfl gd_n ?_
        rintro _ _ ⟨rfl, rfl⟩
        refine jl_nil (q_end rfl .nil ?_)
        have hv : visF k st (t, by1) = ⟨st.l ++ [t], st.w ++ [((k : Int), by1)]⟩ := if_neg c11
        refine ⟨_, ⟨(d', e'), ⟨by rw [hv]; simpa using hokd, by rw [hv]; simpa using hoke⟩, rfl⟩, ?_⟩
        rw [hv, bsHS_app]
        simp only [List.length_append, List.length_cons, List.length_nil, Nat.zero_add]
        exact sbt
      · refine xs_e rfl (eff_bslice (.cons (T rfl) .nil) (bs179_1_0 _ _)) ?_ rfl gd_n
        rintro _ _ ⟨n22, rfl, rfl⟩
        refine ⟨sbt, (x_one (i := 3) (by kernel_rfl) (by kernel_rfl) ?_)⟩
        refine xs_e rfl (eff_app1_at (t) (by' := 16) (by repeat (first | exact LocL.h | apply LocL.t | apply LocL.a)) (T rfl) (T rfl) Tryz.runUnderlying176 Tryz.runUnderlying176 Tryz.sizeOf115 Tryz.typeInfo115 rfl Tryz.zeroValue115 rfl (fun _ => rfl) rfl ho1 (by decide) (by omega)) ?_ rfl gd_n
        rintro _ _ ⟨d', rfl, hokd, rfl⟩
        refine ⟨sbt, (x_nil (by kernel_rfl) rfl ?_)⟩
        refine e_ (eff_app1_at (((k : Int), by1)) (by' := 24) (by repeat (first | exact LocL.h | apply LocL.t | apply LocL.a)) (T rfl) (T rfl) Tryz.runUnderlying179 Tryz.runUnderlying179 Tryz.sizeOf178 Tryz.typeInfo178 rfl Tryz.zeroValue178 rfl (fun _ => rfl) rfl ho2 (by decide) (by omega)) ?_ rfl
        rintro _ _ ⟨e', rfl, hoke, rfl⟩
        first | refine jl_e (eff_sW (T rfl) (T rfl) Tryz.sizeOf176) rfl gd_n ?_ | refine jl_e (eff_s1 (T rfl) (T rfl) rfl Tryz.sizeOf176) rfl gd_n ?_ | refine jl_e (eff_s1r (T rfl) (T rfl) rfl Tryz.sizeOf176) rfl gd_n ?_
        rintro _ _ ⟨rfl, rfl⟩
        first | refine jl_e (eff_sW (T rfl) (T rfl) Tryz.sizeOf179) rfl gd_n ?_ | refine jl_e (eff_s1 (T rfl) (T rfl) rfl Tryz.sizeOf179) rfl gd_n ?_ | refine jl_e (eff_s1r (T rfl) (T rfl) rfl Tryz.sizeOf179) rfl gd_n ?_
        rintro _ _ ⟨rfl, rfl⟩
        refine jl_nil (q_end rfl .nil ?_)
        have hv : visF k st (t, by1) = ⟨st.l ++ [t], st.w ++ [((k : Int), by1)]⟩ := if_neg c11
        refine ⟨_, ⟨(d', e'), ⟨by rw [hv]; simpa using hokd, by rw [hv]; simpa using hoke⟩, rfl⟩, ?_⟩
        rw [hv, bsHS_app]
        simp only [List.length_append, List.length_cons, List.length_nil, Nat.zero_add]
        exact sbt
    · refine xs_e rfl (eff_bslice (.cons (T rfl) .nil) (bs179_1_0 _ _)) ?_ rfl gd_n
      rintro _ _ ⟨n22, rfl, rfl⟩
      refine ⟨sbt, (x_one (i := 2) (by kernel_rfl) (by kernel_rfl) ?_)⟩
      refine xs_e rfl (eff_bslice (.cons (T rfl) .nil) (bs176_1_0 _ _)) ?_ rfl gd_n
      rintro _ _ ⟨n16, rfl, rfl⟩
      refine ⟨sbt, (x_one (i := 3) (by kernel_rfl) (by kernel_rfl) ?_)⟩
      refine xs_e rfl (eff_app1_at (t) (by' := 16) (by repeat (first | exact LocL.h | apply LocL.t | apply LocL.a)) (T rfl) (T rfl) Tryz.runUnderlying176 Tryz.runUnderlying176 Tryz.sizeOf115 Tryz.typeInfo115 rfl Tryz.zeroValue115 rfl (fun _ => rfl) rfl ho1 (by decide) (by omega)) ?_ rfl gd_n
      rintro _ _ ⟨d', rfl, hokd, rfl⟩
      refine ⟨sbt, (x_nil (by kernel_rfl) rfl ?_)⟩
      refine e_ (eff_app1_at (((k : Int), by1)) (by' := 24) (by repeat (first | exact LocL.h | apply LocL.t | apply LocL.a)) (T rfl) (T rfl) Tryz.runUnderlying179 Tryz.runUnderlying179 Tryz.sizeOf178 Tryz.typeInfo178 rfl Tryz.zeroValue178 rfl (fun _ => rfl) rfl ho2 (by decide) (by omega)) ?_ rfl
      rintro _ _ ⟨e', rfl, hoke, rfl⟩
      first | refine jl_e (eff_sW (T rfl) (T rfl) Tryz.sizeOf176) rfl gd_n ?_ | refine jl_e (eff_s1 (T rfl) (T rfl) rfl Tryz.sizeOf176) rfl gd_n ?_ | refine jl_e (eff_s1r (T rfl) (T rfl) rfl Tryz.sizeOf176) rfl gd_n ?_
      rintro _ _ ⟨rfl, rfl⟩
      first | refine jl_e (eff_sW (T rfl) (T rfl) Tryz.sizeOf179) rfl gd_n ?_ | refine jl_e (eff_s1 (T rfl) (T rfl) rfl Tryz.sizeOf179) rfl gd_n ?_ | refine jl_e (eff_s1r (T rfl) (T rfl) rfl Tryz.sizeOf179) rfl gd_n ?_
      rintro _ _ ⟨rfl, rfl⟩
      refine jl_nil (q_end rfl .nil ?_)
      have hv : visF k st (t, by1) = ⟨st.l ++ [t], st.w ++ [((k : Int), by1)]⟩ := if_neg c11
      refine ⟨_, ⟨(d', e'), ⟨by rw [hv]; simpa using hokd, by rw [hv]; simpa using hoke⟩, rfl⟩, ?_⟩
      rw [hv, bsHS_app]
      simp only [List.length_append, List.length_cons, List.length_nil, Nat.zero_add]
      exact sbt
  · refine j_skip (q_end rfl .nil ?_)
    have hv : visF k st (t, by1) = st := if_pos (Classical.not_not.1 c11)
    refine ⟨_, ⟨x, ⟨by rw [hv]; exact ho1, by rw [hv]; exact ho2⟩, rfl⟩, ?_⟩
    rw [hv, bsHS_app]
    exact sbt
end Go.Proofs.YtkdolgnpkjihpaaGreatDoor
