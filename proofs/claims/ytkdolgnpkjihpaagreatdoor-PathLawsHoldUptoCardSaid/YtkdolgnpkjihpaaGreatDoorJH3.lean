/-
  A part of what LawH rests on: the logic, walks and plain laws. No condition.
-/
import Derived.Test.YtkdolgnpkjihpaaGreatDoorJH2
import Derived.Laws.Cover3
namespace Go.Proofs.YtkdolgnpkjihpaaGreatDoor
open _root_.Go.Proofs.Tryz
open Go.RowKit
set_option linter.unusedVariables false
set_option linter.unusedSimpArgs false
theorem cell_e {w0 : World} {H : List (Nat × Obj)} {p : Addr} {v v' : Value} (h : v = v') (c : Cell w0 H p v) : Cell w0 H p v' := h ▸ c
theorem cells_pl {w0 : World} {H : List (Nat × Obj)} {b o : Nat} {a : Int × Int} {p : Pl} (h : a = toI p) (c : Cells w0 H b o (encPI a)) : Cells w0 H b o (encPl p) := by
 subst h; exact c
def namesF (n : Nn) (x : Nat) (ls : List Int) : List ByteArray := nmF n x :: ls.map fun l => nmF n (gd n.links l.toNat).dst
theorem namesF_take {n : Nn} {x : Nat} {ls : List Int} {i : Nat} (h : i < ls.length) : namesF n x (ls.take (i + 1)) = namesF n x (ls.take i) ++ [nmF n (gd n.links (gd ls i).toNat).dst] := by
 unfold namesF; rw [List.take_add_one, C7 h, List.map_append]; rfl
theorem namesF_len (n : Nn) (x : Nat) (ls : List Int) : (namesF n x ls).length = ls.length + 1 := by simp [namesF]
def upAll (n : Nn) (f : Flr) (ls : List Int) : Bool := ls.all fun l => upF n f l.toNat
theorem upAll_take {n : Nn} {f : Flr} {ls : List Int} {i : Nat} (h : i < ls.length) : upAll n f (ls.take (i + 1)) = (upAll n f (ls.take i) && upF n f (gd ls i).toNat) := by
 unfold upAll; rw [List.take_add_one, C7 h, List.all_append]; simp
theorem upAll_no {n : Nn} {f : Flr} {ls : List Int} {i : Nat} (h : i < ls.length) (hu : upF n f (gd ls i).toNat = false) : upAll n f ls = false := by
 unfold upAll
 rw [List.all_eq_false]
 exact ⟨gd ls i, A1 h, by rw [hu]; decide⟩
def holdsF (n : Nn) (f : Flr) (e : Re) (x to : Nat) (ls : List Int) : Bool := decide (wkF n (x : Int) ls = some (to : Int)) && (decide (¬ f.node = x) && (upAll n f ls && matchF e (namesF n x ls)))
theorem wkF_valid {n : Nn} : ∀ {ls : List Int} {x y : Int}, wkF n x ls = some y → ∀ i, i < ls.length → 0 ≤ gd ls i ∧ gd ls i < n.links.length
 | [], x, y, _, i, hi => absurd hi (Nat.not_lt_zero _)
 | l :: ls, x, y, h, i, hi => by
  rw [wkF] at h
  split at h
  ·rename_i hc
   cases i with
   | zero => exact ⟨hc.1, hc.2.1⟩
   | succ i => exact wkF_valid h i (by simpa using hi)
  ·cases h
theorem within_s {w0 : World} {H : List (Nat × Obj)} (a lo hi : Int) :
  FSpec Tryz.prog w0 129 #[.int .i64 a, .int .i64 lo, .int .i64 hi] H (Still (.bool (decide (lo ≤ a) && decide (a ≤ hi))) H) := by
 refine A7 Tryz.func129 U ntmps129 U (Ah (Ab (y_ (Ad Ak) (Af (Ac (Ah (Ab (y_ (Ae (T U)) (y_ (Ae (T U)) (y_ (yl_leq (T U) (T U)) (y_ (Ae (T U)) ?_ U) U) U) U))))) U)))
 first | refine Ci (s := 10) (Aa U) (fun c10 => ?_) (fun c10 => ?_) | refine C1 (s := 10) (Aa U) (fun c10 => ?_) (fun c10 => ?_)
 ·refine Bg (Ae (T U)) U (Ax U U (Aa U)) (Bg (Ae (T U)) U (Ax U U (Aa U)) (Bg (yl_leq (T U) (T U)) U (Ax U U (Aa U)) (y_ (Az (T U) (T U)) (y_ (Ad (T U)) (Af (Ac (A5 (A6 U (.tmp (Aa U) .nil) (⟨_, ⟨vbool ?_, rfl⟩, sbt⟩))))) U) U)))
  first | (rw [decide_eq_true (by omega : lo ≤ a)]; rfl) | (rw [decide_eq_false (by omega : ¬ lo ≤ a)]; rfl)
 ·refine Cf (Cf (Cf (y_ (Be (T U) Ak) (y_ (Ad (T U)) (Af (Ac (A5 (A6 U (.tmp (Aa U) .nil) (⟨_, ⟨vbool ?_, rfl⟩, sbt⟩))))) U) U) U U U U) U U U U) U U U U
  first | (rw [decide_eq_true (by omega : lo ≤ a)]; rfl) | (rw [decide_eq_false (by omega : ¬ lo ≤ a)]; rfl)
theorem gwalk_s {w0 : World} {H : List (Nat × Obj)} (n : Nn) (hn : NetR w0 H n) (hok : NnOk n) (x : Int) (ls : List Int) (q : Option Addr) (c : Nat) (hA : Arr w0 H q 1 encI ls) (hlen : ls.length ≤ 9223372036854775807) :
  FSpec Tryz.prog w0 83 #[.agg (encNn n).toArray, .int .i64 x, .slice q ls.length c] H (Still (.tuple #[.int .i64 ((wkF n x ls).getD (-1)), .bool (wkF n x ls).isSome]) H) := by
 refine A7 Tryz.func83 U ntmps83 U ?_
 have hfl := hok.fewL
 refine Ah (Ab (e_ (Bf (T U) cs_) ?_ U))
 rintro _ _ ⟨n3, rfl, rfl⟩
 refine y_ (Ad Ak) (y_ (Ad Ak) (Af (Ac (Ah (Ah (Ab (y_ (Ae (T U)) (y_ (Bw (T U) runUnderlying42) (y_ (Ae Ak) (Af (Ac (A2 ?_))) U) U) U)))))) U) U
 refine Co (X := Nat × Int) (V := fun ⟨i, y⟩ => [(12, .int .i64 (i : Nat)), (1, .int .i64 y)]) (C := [(3, _), (10, _), (11, _)]) (φ := fun ⟨i, y⟩ => i ≤ ls.length ∧ wkF n x (ls.take i) = some y) (μ := fun ⟨i, y⟩ => ls.length - i) (x0 := (0, x)) ?_ ⟨Aa rfl, Aa rfl, Aa rfl, trivial⟩ ⟨atd, atd, trivial⟩ ?_
 ·exact ⟨Nat.zero_le _, rfl⟩
 rintro ⟨i, y⟩ ⟨hi, hw⟩
 refine Ah (Ab (y_ (B4 (T U) (T U)) (Af (Ac (Ah ?_))) U))
 first | refine Au (Aa U) (fun c13 => ?_) (fun c13 => ?_) | refine Bb (Aa U) (fun c13 => ?_) (fun c13 => ?_)
 ·have hwt := wkF_take n x (ls := ls) (i := i) (by omega)
  rw [hw] at hwt
  simp only [Option.bind_some] at hwt
  refine A9 (Ac (Ah (A2 (Ah (Ab (y_ (Bh (T U) (T U) runUnderlying42 sizeOf3 (by omega) (by first | exact rfl | exact hA.b (i := i) (by omega) | exact hn.links.b (i := (gd ls i).toNat) (by omega))) ?_ U))))))
  refine y_ (Ai (T U) isAgg3 (by first | exact c_o | exact cell1 ((hA.mono sbt).cs (i := i) (by omega)))) ?_ U
  refine y_ (Ad (T U)) (Af (Ac (Ah (Ah (Ab (y_ (Ae (T U)) (y_ (Bk (T U) fa56_1) (y_ (Ai (T U) isAgg53 (by first | exact c_o)) ?_ U) U) U)))))) U
  refine y_ (Bw (T U) runUnderlying53) (y_ (yl_sub (T U) Ak (by omega)) ?_ U) U
  refine y_ (Aq (.cons (T U) (.cons Ak (.cons (T U) .nil))) call129 (fun H' hs => within_s _ _ _)) ?_ U
  first | refine Bg (Ct (T U)) U Ag ?_ | refine Bg (C2 (T U)) U Ag ?_
  refine y_ (Ae (T U)) ?_ U
  first | refine Ci (s := 23) (Aa U) (fun c23 => ?_) (fun c23 => ?_) | refine C1 (s := 23) (Aa U) (fun c23 => ?_) (fun c23 => ?_)
  ·have hno2 : wkF n x ls = none := wkF_none n x (i := i + 1) (by rw [hwt, if_neg (by intro h; simp at c23; omega)])
   refine Cy (Cy (Cy (Cy (Cy (Cy (Cy (Cy (y_ (Az (T U) Ak) (Af (Ac (Bt [(3, _), (9, _), (10, _), (11, _), (12, _), (32, _)] ⟨Aa U, Aa U, Aa U, Aa U, Aa U, Aa U, trivial⟩ ?_))) U) U U U U) U U U U) U U U U) U U U U) U U U U) U U U U) U U U U) U U U U
   first | refine Bu (Aa U) ?_ | refine Bu (Aj (Aa U) (vbool (decide_eq_true c32))) ?_
   refine Ah (Ab (y_ (Ad Ak) (y_ (Ad Ak) (Af (Ac (A5 (Ao (Aw (Ao (B9 (Aw (Ao (A6 U (.tmp (Aa U) (.tmp (Aa U) .nil)) ?_)))))))))) U) U))
   rw [hno2]; exact ⟨_, ⟨rfl, rfl⟩, sbt⟩
  ·have hin : 0 ≤ gd ls i ∧ gd ls i < n.links.length := by simp at c23; omega
   refine Bg (Bk (T U) fa56_1) U (Ax U U (Aa U)) (Bg (Ai (T U) isAgg53 (by first | exact c_o)) U (Ax U U (Aa U)) ?_)
   refine Bg (Ae (T U)) U (Ax U U (Aa U)) (Bg (Cw (T U) (T U) runUnderlying53 sizeOf71 (by omega) (by first | exact rfl | exact hA.b (i := i) (by omega) | exact hn.links.b (i := (gd ls i).toNat) (by omega))) U (Ax U U (Aa U)) ?_)
   refine Bg (Bp (T U) fa71_0) U (Ax U U (Aa U)) (Bg (Ai (T U) isAgg3 (by first | exact c_o | exact (hn.links.mono sbt).f0 (i := (gd ls i).toNat) (by omega) U)) U (Ax U U (Aa U)) ?_)
   refine Bg (Ae (T U)) U (Ax U U (Aa U)) (Bg (C3 (T U) (T U)) U (Ax U U (Aa U)) (y_ (Be (T U) (T U)) (Af (Ac (Bt [(3, _), (9, _), (10, _), (11, _), (12, _), (32, _)] ⟨Aa U, Aa U, Aa U, Aa U, Aa U, Aa U, trivial⟩ ?_))) U))
   first | refine Au (Aa U) (fun c32 => ?_) (fun c32 => ?_) | refine Bb (Aa U) (fun c32 => ?_) (fun c32 => ?_)
   ·have hno2 : wkF n x ls = none := wkF_none n x (i := i + 1) (by rw [hwt, if_neg (by intro h; omega)])
    refine Ah (Ab (y_ (Ad Ak) (y_ (Ad Ak) (Af (Ac (A5 (Ao (Aw (Ao (B9 (Aw (Ao (A6 U (.tmp (Aa U) (.tmp (Aa U) .nil)) ?_)))))))))) U) U))
    rw [hno2]; exact ⟨_, ⟨rfl, rfl⟩, sbt⟩
   ·have hyes : wkF n x (ls.take (i + 1)) = some ((gd n.links (gd ls i).toNat).dst : Int) := by rw [hwt, if_pos (by omega)]
    refine A9 (Ac (Ab (y_ (Bk (T U) fa56_1) (y_ (Ai (T U) isAgg53 (by first | exact c_o)) ?_ U) U)))
    refine y_ (Ae (T U)) (y_ (Cw (T U) (T U) runUnderlying53 sizeOf71 (by omega) (by first | exact rfl | exact hA.b (i := i) (by omega) | exact hn.links.b (i := (gd ls i).toNat) (by omega))) ?_ U) U
    refine y_ (Bk (T U) fa71_1) (y_ (Ai (T U) isAgg3 (by first | exact c_o | exact (hn.links.mono sbt).f (i := (gd ls i).toNat) (by omega) U)) ?_ U) U
    refine y_ (Ad (T U)) (Af (Bm (Ac (Ab (y_ (Bv (T U) Ak (by omega)) ?_ U))))) U
    refine y_ (Ae (T U)) (Af ?_) U
    refine Bs ((i + 1, ((gd n.links (gd ls i).toNat).dst : Int))) ?_ ?_ ⟨atd, atd, trivial⟩ ⟨Aa U, Aa U, Aa U, trivial⟩ ?_
    ·exact ⟨by omega, hyes⟩
    ·first | omega | (simp only []; omega)
    ·exact sbt
 ·refine B7 (A4 (A8 (Ba (Ac (Ah (Ab (y_ (Ae (T U)) (y_ (Ad (T U)) (y_ (Ad Ak) (Af (Ac (A5 (A6 U (.tmp (Aa U) (.tmp (Aa U) .nil)) ?_)))) U) U) U)))))))
  have hi2 : i = ls.length := by omega
  rw [hi2, List.take_length] at hw
  rw [hw]; exact ⟨_, ⟨rfl, rfl⟩, sbt⟩
theorem holds_s {w0 : World} {H : List (Nat × Obj)} (n : Nn) (hn : NetR w0 H n) (hok : NnOk n) (f : Flr) (hf : Arr w0 H f.q 1 encI f.links) (hfl : f.links.length ≤ 4611686018427387903) (m : Rxm) (e : Re) (hI : Is m e) (hM : RxM w0 H m) (hl : e.lv ≤ 64) (x to : Nat) (hx : x < n.nodes.length) (ls : List Int) (q : Option Addr) (c : Nat) (hA : Arr w0 H q 1 encI ls) (hlen : ls.length ≤ 1000000) :
  FSpec Tryz.prog w0 32 #[.agg (encNn n).toArray, .agg (encFl f).toArray, .agg (encRx m).toArray, .int .i64 (x : Int), .int .i64 (to : Int), .slice q ls.length c] H (Still (.bool (holdsF n f e x to ls)) H) := by
 refine A7 Tryz.func32 U ntmps32 U (Ah (Ab (e_ (Bf (T U) cs_) ?_ U)))
 rintro _ _ ⟨n6, rfl, rfl⟩
 refine e_ (Bf (T U) cs_) ?_ U
 rintro _ _ ⟨n7, rfl, rfl⟩
 refine e_ (Bf (T U) cs_) ?_ U
 rintro _ _ ⟨n8, rfl, rfl⟩
 refine y_ (Ad Ak) (Af (Ac (Ah (Ah (Ab (y_ (Am (T U) isAgg56 sizeOf56 U (by first | exact Bc)) ?_ U)))))) U
 refine y_ (Ae (T U)) (y_ (Ae (T U)) (y_ (Aq (.cons (T U) (.cons (T U) (.cons (T U) .nil))) call83 (fun H' hs => gwalk_s n (hn.mono (List.Sublist.trans sbt hs)) hok (x : Int) ls q c (hA.mono (List.Sublist.trans sbt hs)) (by omega))) ?_ U) U) U
 refine y_ (Ae (T U)) (y_ (Ay (T U) U) (y_ (Ay (T U) U) (y_ (Ad (T U)) (y_ (Ad (T U)) (Af (Ac (Ah (Ab (y_ (Ae (T U)) ?_ U))))) U) U) U) U) U
 first | refine Bg (Ct (T U)) U Ag ?_ | refine Bg (C2 (T U)) U Ag ?_
 refine y_ (Ae (T U)) ?_ U
 first | refine Ci (s := 27) (Aa U) (fun c27 => ?_) (fun c27 => ?_) | refine C1 (s := 27) (Aa U) (fun c27 => ?_) (fun c27 => ?_)
 ·have hwn : ¬ wkF n (x : Int) ls = some (to : Int) := fun h => by rw [h] at c27; simp at c27
  refine Cy (Cy (Cy (y_ (Az (T U) Ak) (y_ (Ae (T U)) (Cy (Cy (Cy (Cy (y_ (Az (T U) Ak) (Af (Ac (Bt [(3, _), (5, _), (6, _), (7, _), (8, _), (37, _)] ⟨Aa U, Aa U, Aa U, Aa U, Aa U, Aa U, trivial⟩ ?_))) U) U U U U) U U U U) U U U U) U U U U) U) U) U U U U) U U U U) U U U U
  first | refine Bu (Aa U) ?_ | refine Bu (Aj (Aa U) (vbool (decide_eq_true c37))) ?_
  refine Ah (Ab (y_ (Ad Ak) (Af (Ac (A5 (Ao (A6 U (.tmp (Aa U) .nil) ?_))))) U))
  have hh : holdsF n f e x to ls = false := by unfold holdsF; rw [decide_eq_false hwn]; rfl
  rw [hh]; exact ⟨_, ⟨rfl, rfl⟩, sbt⟩
 ·obtain ⟨y, hy⟩ : ∃ y, wkF n (x : Int) ls = some y := by
   cases h : wkF n (x : Int) ls with
   | none => rw [h] at c27; simp at c27
   | some y => exact ⟨y, rfl⟩
  have hval := wkF_valid hy
  refine Bg (Ae (T U)) U (Ax U U (Aa U)) (Bg (Ae (T U)) U (Ax U U (Aa U)) (Bg (C3 (T U) (T U)) U (Ax U U (Aa U)) (y_ (Be (T U) (T U)) (y_ (Ae (T U)) ?_ U) U)))
  first | refine Ci (s := 32) (Aa U) (fun c32 => ?_) (fun c32 => ?_) | refine C1 (s := 32) (Aa U) (fun c32 => ?_) (fun c32 => ?_)
  ·have hwn : ¬ wkF n (x : Int) ls = some (to : Int) := fun h => by rw [h] at c32; simp at c32
   refine Cy (Cy (Cy (Cy (y_ (Az (T U) Ak) (Af (Ac (Bt [(3, _), (5, _), (6, _), (7, _), (8, _), (37, _)] ⟨Aa U, Aa U, Aa U, Aa U, Aa U, Aa U, trivial⟩ ?_))) U) U U U U) U U U U) U U U U) U U U U
   first | refine Bu (Aa U) ?_ | refine Bu (Aj (Aa U) (vbool (decide_eq_true c37))) ?_
   refine Ah (Ab (y_ (Ad Ak) (Af (Ac (A5 (Ao (A6 U (.tmp (Aa U) .nil) ?_))))) U))
   have hh : holdsF n f e x to ls = false := by unfold holdsF; rw [decide_eq_false hwn]; rfl
   rw [hh]; exact ⟨_, ⟨rfl, rfl⟩, sbt⟩
  ·have hyt : wkF n (x : Int) ls = some (to : Int) := by
    rw [hy] at c32 ⊢; simp at c32; rw [c32]
   refine Bg (Bk (T U) fa58_1) U (Ax U U (Aa U)) (Bg (Ai (T U) isAgg3 (by first | exact c_o)) U (Ax U U (Aa U)) ?_)
   refine Bg (Ae (T U)) U (Ax U U (Aa U)) (Bg (B3 (T U) (T U)) U (Ax U U (Aa U)) (y_ (Be (T U) (T U)) (Af (Ac (Bt [(3, _), (5, _), (6, _), (7, _), (8, _), (37, _)] ⟨Aa U, Aa U, Aa U, Aa U, Aa U, Aa U, trivial⟩ ?_))) U))
   first | refine Au (Aa U) (fun c37 => ?_) (fun c37 => ?_) | refine Bb (Aa U) (fun c37 => ?_) (fun c37 => ?_)
   ·have hcon := 0
    refine Ah (Ab (y_ (Ad Ak) (Af (Ac (A5 (Ao (A6 U (.tmp (Aa U) .nil) ?_))))) U))
    have hh : holdsF n f e x to ls = false := by unfold holdsF; rw [decide_eq_true hyt, decide_eq_false (fun h => h c37)]; rfl
    rw [hh]; exact ⟨_, ⟨rfl, rfl⟩, sbt⟩
   ·have hcon := 0
    refine A9 (Ac (Ah (Ab (y_ (Bp (T U) fa56_0) (y_ (Ai (T U) isAgg52 (by first | exact c_o)) ?_ U) U))))
    refine y_ (Ae (T U)) (y_ (Bh (T U) (T U) runUnderlying52 sizeOf138 (by omega) (by first | exact rfl | exact hn.nodes.b (i := x) hx | exact hA.b (i := i) (by omega) | exact hn.links.b (i := ki) (by omega) | exact hn.nodes.b (i := (gd n.links ki).dst) hdd)) ?_ U) U
    refine y_ (Bp (T U) fa138_0) (y_ (Ai (T U) isAgg9 (by first | exact c_o | exact (hn.nodes.mono sbt).f0 (i := x) hx U)) ?_ U) U
    refine e_ (An (.cons (T U) .nil) (bs25_1_0 _)) ?_ U
    rintro _ _ ⟨n44, rfl, rfl⟩
    refine y_ (Ad (T U)) (Af (Ac (Ah (Ah (Ab (y_ (Ae (T U)) (y_ (Bw (T U) runUnderlying42) (y_ (Ae Ak) (Af (Ac (A2 ?_))) U) U) U)))))) U
    refine Cn (X := Nat × Sl) (V := fun ⟨i, d⟩ => [(47, .int .i64 (i : Nat)), (15, slV d (namesF n x (ls.take i)).length)]) (C := [(6, _), (7, _), (8, _), (45, _), (46, _)]) (G := fun ⟨i, d⟩ => slH d ((namesF n x (ls.take i)).flatMap encS) 9 ++ ((n8, Cl (encRx m) 24) :: (n7, Cl (encFl f) 58) :: (n6, Cl (encNn n) 56) :: H)) (φ := fun ⟨i, d⟩ => i ≤ ls.length ∧ SlOk d (namesF n x (ls.take i)).length 1 ∧ upAll n f (ls.take i) = true) (μ := fun ⟨i, d⟩ => ls.length - i) (x0 := (0, .blk n44 1 [])) ?_ ⟨Aa rfl, Aa rfl, Aa rfl, Aa rfl, Aa rfl, trivial⟩ ⟨(by first | exact Aa rfl | (refine Aj (Aa rfl) (vint ?_); omega) | (refine Aj (Aa rfl) ?_; simp; done) | (refine Aj (Aa rfl) ?_; exact by simp only [hnt, List.length_append, List.length_cons, List.length_nil])), (by first | exact Aa rfl | (refine Aj (Aa rfl) (vint ?_); omega) | (refine Aj (Aa rfl) ?_; simp; done) | (refine Aj (Aa rfl) ?_; exact by simp only [hnt, List.length_append, List.length_cons, List.length_nil])), trivial⟩ sb0 ?_
    ·exact ⟨Nat.zero_le _, ⟨Nat.le_refl _, rfl⟩, rfl⟩
    rintro ⟨i, d⟩ ⟨hi, hd, hu⟩
    refine Ah (Ab (y_ (B4 (T U) (T U)) (Af (Ac (Ah ?_))) U))
    first | refine Au (Aa U) (fun c48 => ?_) (fun c48 => ?_) | refine Bb (Aa U) (fun c48 => ?_) (fun c48 => ?_)
    ·have hv := hval i (by omega)
     obtain ⟨ki, hki⟩ : ∃ ki : Nat, gd ls i = (ki : Int) := ⟨(gd ls i).toNat, by omega⟩
     have hkt : (gd ls i).toNat = ki := by omega
     have hkl : ki < n.links.length := by omega
     have hdd := (hok.ends _ (A1 hkl)).2
     have hut := upAll_take (n := n) (f := f) (ls := ls) (i := i) (by omega)
     have hnt := namesF_take (n := n) (x := x) (ls := ls) (i := i) (by omega)
     rw [hkt] at hut hnt
     refine A9 (Ac (Ah (A2 (Ah (Ab (y_ (Bh (T U) (T U) runUnderlying42 sizeOf3 (by omega) (by first | exact rfl | exact hn.nodes.b (i := x) hx | exact hA.b (i := i) (by omega) | exact hn.links.b (i := ki) (by omega) | exact hn.nodes.b (i := (gd n.links ki).dst) hdd)) ?_ U))))))
     refine y_ (Ai (T U) isAgg3 (by first | exact c_o | exact cell_e (vint hki) (cell1 ((hA.mono sbt).cs (i := i) (by omega))))) ?_ U
     refine y_ (Ad (T U)) (Af (Ac (Ah (Ah (Ab (y_ (Am (T U) isAgg56 sizeOf56 U (by first | exact Bc)) ?_ U)))))) U
     refine y_ (Am (T U) isAgg58 sizeOf58 U (by first | exact Bc)) ?_ U
     refine y_ (Ae (T U)) (y_ (Aq (.cons (T U) (.cons (T U) (.cons (T U) .nil))) call39 (fun H' hs => gup_s n (hn.mono (List.Sublist.trans sbt hs)) f (hf.mono (List.Sublist.trans sbt hs)) hfl ki (by omega))) ?_ U) U
     first | refine Bg (Ct (T U)) U Ag ?_ | refine Bg (C2 (T U)) U Ag ?_
     refine Af (Ac ?_)
     first | refine Au (Aa U) (fun c55 => ?_) (fun c55 => ?_) | refine Bb (Aa U) (fun c55 => ?_) (fun c55 => ?_)
     ·have hun : upAll n f ls = false := upAll_no (i := i) (by omega) (by rw [hkt]; simpa using c55)
      refine Ah (Ab (y_ (Ad Ak) (Af (Ac (A5 (Ao (Aw (Ao (B9 (Aw (Ao (A6 U (.tmp (Aa U) .nil) ?_)))))))))) U))
      have hh : holdsF n f e x to ls = false := by unfold holdsF; rw [hun]; simp
      rw [hh]; exact ⟨_, ⟨rfl, rfl⟩, sbt⟩
     ·have huy : upAll n f (ls.take (i + 1)) = true := by rw [hut, hu]; simpa using c55
      refine A9 (Ac (Cv 13 [(0, true), (1, true), (2, true), (3, true), (4, true), (5, true), (6, true), (7, true), (8, true), (9, true), (10, true), (11, true), (12, false)] _ mixd (by kernel_rfl) sb0 ?_))
      refine o_y U (Ae (T U)) (o_y U (Bp (T U) fa56_0) (o_y U (Ai (T U) isAgg52 (by first | exact c_o)) ?_ U Ag) U Ag) U Ag
      refine o_y U (Bk (T U) fa56_1) (o_y U (Ai (T U) isAgg53 (by first | exact c_o)) ?_ U Ag) U Ag
      refine o_y U (Ae (T U)) (o_y U (Bh (T U) (T U) runUnderlying53 sizeOf71 (by omega) (by first | exact rfl | exact hn.nodes.b (i := x) hx | exact hA.b (i := i) (by omega) | exact hn.links.b (i := ki) (by omega) | exact hn.nodes.b (i := (gd n.links ki).dst) hdd)) ?_ U Ag) U Ag
      refine o_y U (Bk (T U) fa71_1) (o_y U (Ai (T U) isAgg3 (by first | exact c_o | exact (hn.links.mono sbt).f (i := ki) (by omega) U)) ?_ U Ag) U Ag
      refine o_y U (Bh (T U) (T U) runUnderlying52 sizeOf138 (by omega) (by first | exact rfl | exact hn.nodes.b (i := x) hx | exact hA.b (i := i) (by omega) | exact hn.links.b (i := ki) (by omega) | exact hn.nodes.b (i := (gd n.links ki).dst) hdd)) ?_ U Ag
      refine o_y U (Bp (T U) fa138_0) (o_y U (Ai (T U) isAgg9 (by first | exact c_o | exact (hn.nodes.mono sbt).f0 (i := (gd n.links ki).dst) hdd U)) ?_ U Ag) U Ag
      refine o_e U (An (.cons (T U) .nil) (bs25_1_0 _)) ?_ U Ag
      rintro _ _ ⟨n68, rfl, rfl⟩
      refine ⟨sbt, (B5 U (e_ (Bi (nmF n (gd n.links ki).dst) (by' := 16) (by repeat (first | exact LocL.h | apply LocL.t | apply LocL.a)) (T U) (T U) runUnderlying25 runUnderlying25 sizeOf9 typeInfo9 U zeroValue9 U (fun _ => rfl) U hd (by decide) (by rw [namesF_len, List.length_take]; omega)) ?_ U))⟩
      rintro _ _ ⟨d', rfl, hokd, rfl⟩
      refine y_ (Ad (T U)) (Af (Bm (Ac (Bt [(6, _), (7, _), (8, _), (15, _), (45, _), (46, _), (47, _)] ⟨Aa U, Aa U, Aa U, Aa U, Aa U, Aa U, Aa U, trivial⟩ (Ab (y_ (Bv (T U) Ak (by omega)) ?_ U)))))) U
      refine y_ (Ae (T U)) (Af ?_) U
      refine Bs ((i + 1, d')) ?_ ?_ ⟨(by first | exact Aa U | (refine Aj (Aa U) (vint ?_); omega) | (refine Aj (Aa U) ?_; simp; done) | (refine Aj (Aa U) ?_; exact by simp only [hnt, List.length_append, List.length_cons, List.length_nil])), (by first | exact Aa U | (refine Aj (Aa U) (vint ?_); omega) | (refine Aj (Aa U) ?_; simp; done) | (refine Aj (Aa U) ?_; exact by simp only [hnt, List.length_append, List.length_cons, List.length_nil])), trivial⟩ ⟨Aa U, Aa U, Aa U, Aa U, Aa U, trivial⟩ ?_
      ·exact ⟨by omega, by rw [hnt, List.length_append]; exact hokd, huy⟩
      ·first | omega | (simp only []; omega)
      ·simp only [hnt]; exact sbt
    ·have hi2 : i = ls.length := by omega
     rw [hi2, List.take_length] at hu
     have hd2 := hd
     rw [hi2, List.take_length] at hd2
     simp only [hi2, List.take_length]
     refine B7 (A4 (A8 (Ba (Ac (Ah (Ab (y_ (Am (T U) isAgg24 sizeOf24 U (by first | exact Bc)) ?_ U)))))))
     refine y_ (Ae (T rfl)) (y_ (Aq (.cons (T rfl) (.cons (T rfl) .nil)) call16 (fun H' hs => match_s m e _ _ (namesF n x ls) hI (hM.mono (List.Sublist.trans sbt hs)) hl ((Bz (X := H) (enc := encS) (sz := 1) (e := 9) (fun _ => rfl) hd2).mono (List.Sublist.trans sbt hs)) (by rw [namesF_len]; omega))) ?_ rfl) rfl
     refine y_ (Ad (T U)) (Af (Ac (A5 (A6 U (.tmp (Aa U) .nil) ?_)))) U
     have hh : holdsF n f e x to ls = matchF e (namesF n x ls) := by unfold holdsF; rw [decide_eq_true hyt, decide_eq_true c37, hu]; rfl
     rw [hh]; exact ⟨_, ⟨rfl, rfl⟩, sbt⟩
end Go.Proofs.YtkdolgnpkjihpaaGreatDoor
namespace Go.Proofs.YtkdolgnpkjihpaaGreatDoor
open _root_.Go.Proofs.Tryz
open Go.RowKit
set_option linter.unusedVariables false
set_option linter.unusedSimpArgs false
def SrtP (l : List (Int × Int)) : Prop := l.Pairwise fun a b => cmpPl a b < 0
theorem cmpPl_trans {a b c : Int × Int} (h1 : cmpPl a b < 0) (h2 : cmpPl b c < 0) : cmpPl a c < 0 := by
 rw [cmpPl_lt] at *; omega
theorem SrtP.lt {l : List (Int × Int)} (h : SrtP l) {i j : Nat} (hij : i < j) (hj : j < l.length) : cmpPl (gd l i) (gd l j) < 0 := by
 rw [Bj (by omega), Bj hj]
 exact List.pairwise_iff_getElem.1 h i j (by omega) hj hij
theorem srtP_of {l : List (Int × Int)} (h : ∀ k, 0 < k → k < l.length → cmpPl (gd l (k - 1)) (gd l k) < 0) : SrtP l := by
 have key : ∀ d i, i + d + 1 < l.length → cmpPl (gd l i) (gd l (i + d + 1)) < 0 := by
  intro d
  induction d with
  | zero => intro i hi; have := h (i + 1) (by omega) (by omega); simpa using this
  | succ d ih =>
   intro i hi
   have h1 := ih i (by omega)
   have h2 := h (i + (d + 1) + 1) (by omega) hi
   rw [show i + (d + 1) + 1 - 1 = i + d + 1 by omega] at h2
   exact cmpPl_trans h1 h2
 refine List.pairwise_iff_getElem.2 fun i j hi hj hij => ?_
 have := key (j - i - 1) i (by omega)
 rw [show i + (j - i - 1) + 1 = j by omega, Bj hi, Bj hj] at this
 exact this
theorem mem_gdP {l : List (Int × Int)} {x : Int × Int} : x ∈ l ↔ ∃ j, j < l.length ∧ gd l j = x := by
 constructor
 ·intro h
  obtain ⟨j, hj, e⟩ := List.getElem_of_mem h
  exact ⟨j, hj, by rw [Bj hj]; exact e⟩
 ·rintro ⟨j, hj, rfl⟩; exact A1 hj
def toN (p : Int × Int) : Pl := (p.1.toNat, p.2.toNat)
def PlIn (n : Nn) (m : PM) (to : Nat) (l : List (Int × Int)) (k : Nat) : Prop := (0 ≤ (gd l k).1 ∧ (gd l k).1 < n.nodes.length) ∧ (0 ≤ (gd l k).2 ∧ (gd l k).2 < m.next.length) ∧ (0 < k → cmpPl (gd l (k - 1)) (gd l k) < 0) ∧ ¬ ((gd l k).1 = to ∧ gd m.acc (gd l k).2.toNat = true)
instance plInDec (n : Nn) (m : PM) (to : Nat) (l : List (Int × Int)) (k : Nat) : Decidable (PlIn n m to l k) := by unfold PlIn; infer_instance
def RefOk (n : Nn) (f : Flr) (m : PM) (x to : Nat) (l : List (Int × Int)) : Prop := (∀ k, k < l.length → PlIn n m to l k) ∧ (¬ f.node = x → toI (p0F n m x) ∈ l) ∧ (∀ k, k < l.length → ∀ y ∈ movesF n f m (toN (gd l k)), toI y.1 ∈ l)
instance refOkDec (n : Nn) (f : Flr) (m : PM) (x to : Nat) (l : List (Int × Int)) : Decidable (RefOk n f m x to l) := by unfold RefOk; infer_instance
theorem bsf_s {w0 : World} {H : List (Nat × Obj)} (l : List (Int × Int)) (q : Option Addr) (c : Nat) (hA : Arr w0 H q 2 encPI l) (hlen : l.length ≤ 1000000) (hsr : SrtP l) (t : Int × Int) :
  FSpec Tryz.prog w0 93 #[.slice q l.length c, .agg (encPI t).toArray, .func (.func 90) #[] #[]] H (fun v H' => ∃ i : Nat, v = .tuple #[.int .i64 (i : Int), .bool (decide (t ∈ l))] ∧ H' = H) := by
 refine A7 Tryz.func93 U ntmps93 U (Ah (Ab (e_ (Bf (T U) cs_) ?_ U)))
 rintro _ _ ⟨n4, rfl, rfl⟩
 refine y_ (Ad Ak) (y_ (Ad Ak) (Af (Ac (Ah (Ab (y_ (Ae (T U)) (y_ (Bw (T U) runUnderlying59) (y_ (Ad (T U)) (Af (Ac (Ah (Ab (y_ (Ae (T U)) (y_ (Ad Ak) (y_ (Ad (T U)) (Af (Ac (Ah (A2 ?_)))) U) U) U))))) U) U) U))))) U) U
 refine Co (X := Nat × Nat) (V := fun ⟨i, j⟩ => [(9, .int .i64 (i : Nat)), (10, .int .i64 (j : Nat))]) (C := [(0, _), (2, _), (4, _), (8, _)]) (φ := fun ⟨i, j⟩ => i ≤ j ∧ j ≤ l.length ∧ (∀ k, k < i → cmpPl (gd l k) t < 0) ∧ (∀ k, j ≤ k → k < l.length → ¬ cmpPl (gd l k) t < 0)) (μ := fun ⟨i, j⟩ => j - i) (x0 := (0, l.length)) ?_ ⟨Aa rfl, Aa rfl, Aa rfl, Aa rfl, trivial⟩ ⟨atd, atd, trivial⟩ ?_
 ·exact ⟨Nat.zero_le _, Nat.le_refl _, fun k hk => absurd hk (Nat.not_lt_zero _), fun k h1 h2 => by omega⟩
 rintro ⟨i, j⟩ ⟨hij0, hj, h1, h2⟩
 refine Ah (Ah (Ab (y_ (Ae (T U)) (y_ (Ae (T U)) (y_ (B4 (T U) (T U)) (Af (Ac ?_)) U) U) U)))
 first | refine Au (Aa U) (fun c17 => ?_) (fun c17 => ?_) | refine Bb (Aa U) (fun c17 => ?_) (fun c17 => ?_)
 ·have hij : i < j := by omega
  refine A9 (Ac (A2 (Ah (Ab (y_ (Ae (T U)) (y_ (Ae (T U)) (y_ (Bv (T U) (T U) (by omega)) ?_ U) U) U)))))
  refine y_ (yl_convU (n := i + j) (by have := p63; omega) (T U) runUnderlying3 runUnderlying192) ?_ U
  refine y_ (yl_shrU (T U) Ak) (y_ (yl_convB64 (n := (i + j) / 2) (by have := p63; omega) (T U) runUnderlying192 runUnderlying3) ?_ U) U
  refine y_ (Ad (T U)) (Af (Ac (Ah (Cv 8 [(0, true), (1, true), (2, true), (3, true), (4, true), (5, true), (6, true), (7, true)] _ mixd (by kernel_rfl) sb0 ?_)))) U
  refine o_y U (Ae (T U)) (o_y U (Ae (T U)) (o_y U (Ae (T U)) (o_y U (Bh (T U) (T U) runUnderlying59 sizeOf74 (by omega) (by first | exact rfl | exact hA.b (i := ((i + j) / 2)) (by omega) | exact hA.b (i := i) (by omega))) ?_ U Ag) U Ag) U Ag) U Ag
  refine o_y U (Am (T U) isAgg74 sizeOf74 U (by first | exact (hA.mono sbt).cs (i := ((i + j) / 2)) (by omega) | exact Bc)) ?_ U Ag
  refine o_y U (Am (T U) isAgg74 sizeOf74 U (by first | exact Bc)) ?_ U Ag
  refine o_y U (yl_callV (T U) (.cons (T U) (.cons (T U) .nil)) call90 (fun H' hs => cmpPl_s (gd l ((i + j) / 2)) t)) (o_y U (B4 (T U) Ak) (B5 U (Af (Ac (Bt [(0, _), (2, _), (4, _), (8, _), (9, _), (10, _), (11, _), (31, _)] ⟨Aa U, Aa U, Aa U, Aa U, Aa U, Aa U, Aa U, Aa U, trivial⟩ ?_)))) U Ag) U Ag
  first | refine Au (Aa U) (fun c31 => ?_) (fun c31 => ?_) | refine Bb (Aa U) (fun c31 => ?_) (fun c31 => ?_)
  ·refine Ab (y_ (Ae (T U)) (y_ (Bv (T U) Ak (by omega)) ?_ U) U)
   refine y_ (Ad (T U)) (Af (Bm ?_)) U
   refine Bs ((((i + j) / 2) + 1, j)) ?_ ?_ ⟨atd, atd, trivial⟩ ⟨Aa U, Aa U, Aa U, Aa U, trivial⟩ ?_
   ·refine ⟨by omega, hj, fun k hk => ?_, h2⟩
    by_cases e : k = ((i + j) / 2)
    ·subst e; exact c31
    ·exact cmpPl_trans (hsr.lt (show k < ((i + j) / 2) by omega) (by omega)) c31
   ·first | omega | (simp only []; omega)
   ·exact sbt
  ·refine Ab (y_ (Ae (T U)) (y_ (Ad (T U)) (Af (Bm ?_)) U) U)
   refine Bs ((i, ((i + j) / 2))) ?_ ?_ ⟨atd, atd, trivial⟩ ⟨Aa U, Aa U, Aa U, Aa U, trivial⟩ ?_
   ·refine ⟨by omega, by omega, h1, fun k hk hk2 h3 => ?_⟩
    by_cases e : k = ((i + j) / 2)
    ·subst e; exact c31 h3
    ·exact c31 (cmpPl_trans (hsr.lt (show ((i + j) / 2) < k by omega) hk2) h3)
   ·first | omega | (simp only []; omega)
   ·exact sbt
 ·have hij : i = j := by omega
  subst hij
  refine B7 (A4 (A8 (Ba (Ac (Ah (Cv 16 [(0, true), (1, true), (2, true), (3, true), (4, true), (5, true), (6, true), (7, true), (8, true), (9, true), (10, true), (11, true), (12, true), (13, true), (14, true), (15, true)] _ mixd (by kernel_rfl) sb0 ?_))))))
  refine o_y U (Ae (T U)) (o_y U (Ae (T U)) (o_y U (Ae (T U)) (o_y U (B4 (T U) (T U)) (o_y U (Ae (T U)) ?_ U Ag) U Ag) U Ag) U Ag) U Ag
  first | refine C9 (s := 39) (Aa U) (fun c39 => ?_) (fun c39 => ?_) | refine Dx (s := 39) (Aa U) (fun c39 => ?_) (fun c39 => ?_)
  ·have hil : i < l.length := by omega
   have hdec : decide (cmpPl (gd l i) t = 0) = decide (t ∈ l) := by
    refine decide_eq_decide.2 ⟨fun h => by rw [← (cmpPl_eq _ _).1 h]; exact A1 hil, fun h => ?_⟩
    obtain ⟨k, hk, rfl⟩ := mem_gdP.1 h
    rw [cmpPl_eq]
    by_cases e : k < i
    ·exact absurd (h1 k e) (by rw [(cmpPl_eq _ _).2 rfl]; decide)
    ·by_cases e2 : k = i
     ·rw [e2]
     ·exact absurd (hsr.lt (show i < k by omega) hk) (h2 i (Nat.le_refl _) hil)
   refine o_y U (Ae (T U)) (o_y U (Ae (T U)) (o_y U (Ae (T U)) (o_y U (Bh (T U) (T U) runUnderlying59 sizeOf74 (by omega) (by first | exact rfl | exact hA.b (i := ((i + j) / 2)) (by omega) | exact hA.b (i := i) (by omega))) ?_ U (Ax U U (Aa U))) U (Ax U U (Aa U))) U (Ax U U (Aa U))) U (Ax U U (Aa U))
   refine o_y U (Am (T U) isAgg74 sizeOf74 U (by first | exact (hA.mono sbt).cs (i := i) (by omega) | exact Bc)) ?_ U (Ax U U (Aa U))
   refine o_y U (Am (T U) isAgg74 sizeOf74 U (by first | exact Bc)) ?_ U (Ax U U (Aa U))
   refine o_y U (yl_callV (T U) (.cons (T U) (.cons (T U) .nil)) call90 (fun H' hs => cmpPl_s (gd l i) t)) (o_y U (B3 (T U) Ak) (o_y U (Az (T U) (T U)) (o_y U (Ad (T U)) (o_y U (Ad (T U)) (B5 U (Af (Ac (Bt [(6, _), (7, _)] ⟨Aa U, Aa U, trivial⟩ (A5 (A6 U (.tmp (Aa U) (.tmp (Aa U) .nil)) ?_)))))) U Ag) U Ag) U Ag) U (Ax U U (Aa U))) U (Ax U U (Aa U))
   exact ⟨_, ⟨i, by rw [← hdec]; rfl, rfl⟩, sbt⟩
  ·have hdec : false = decide (t ∈ l) := by
    symm
    refine decide_eq_false fun h => ?_
    obtain ⟨k, hk, rfl⟩ := mem_gdP.1 h
    have := h1 k (by omega)
    rw [(cmpPl_eq _ _).2 rfl] at this
    exact absurd this (by decide)
   refine o_n U (o_n U (o_n U (o_n U (o_n U (o_n U (o_n U (o_n U (o_y U (Be (T U) Ak) (o_y U (Ad (T U)) (o_y U (Ad (T U)) (B5 U (Af (Ac (Bt [(6, _), (7, _)] ⟨Aa U, Aa U, trivial⟩ (A5 (A6 U (.tmp (Aa U) (.tmp (Aa U) .nil)) ?_)))))) U Ag) U Ag) U Ag) U (Cp U U (Aa U))) U (Cp U U (Aa U))) U (Cp U U (Aa U))) U (Cp U U (Aa U))) U (Cp U U (Aa U))) U (Cp U U (Aa U))) U (Cp U U (Aa U))) U (Cp U U (Aa U))
   exact ⟨_, ⟨i, by rw [← hdec]; rfl, rfl⟩, sbt⟩
theorem must_s {w0 : World} {H : List (Nat × Obj)} (l : List (Int × Int)) (q : Option Addr) (c : Nat) (hA : Arr w0 H q 2 encPI l) (hlen : l.length ≤ 1000000) (hsr : SrtP l) (p : Int × Int) (lk : Int) (b : Bool) (b11 b15 : Nat) (h11 : Fnd H b11 (Cl [.slice q l.length c] 59)) :
  FSpec Tryz.prog w0 92 #[.agg (encPI p).toArray, .int .i64 lk, .pointer (some ⟨b11, 0, none⟩), .pointer (some ⟨b15, 0, none⟩)] ((b15, Cl [.bool b] 4) :: H) (fun _ H' => H' = (b15, Cl [.bool (b && decide (p ∈ l))] 4) :: H) := by
 refine A7 Tryz.func92 U ntmps92 U (Ah (Ab (e_ (Bf (T U) cs_) ?_ U)))
 rintro _ _ ⟨n4, rfl, rfl⟩
 refine Af (Ac (Ah (Ab (y_ (Ai (T U) isAgg59 (by first | exact c_o | exact c_o (hf := Al (Al h11)))) ?_ U))))
 refine y_ (Am (T U) isAgg74 sizeOf74 U (by first | exact Bc)) ?_ U
 refine e_ (Av (.cons (T U) (.cons (T U) (.cons ev_f .nil))) call93 (bsf_s l q c (hA.mono sbt) hlen hsr p)) ?_ U
 rintro _ _ ⟨i, rfl, rfl⟩
 refine y_ (Ae (T U)) (y_ (Ay (T U) U) (y_ (Ay (T U) U) (y_ (Ad (T U)) (y_ (Ad (T U)) (Af (Ac (Ab (y_ (Ai (T U) isAgg4 (by first | exact c_o)) ?_ U)))) U) U) U) U) U
 refine y_ (Ae (T U)) ?_ U
 first | refine Ci (s := 15) (Aa U) (fun c15 => ?_) (fun c15 => ?_) | refine C1 (s := 15) (Aa U) (fun c15 => ?_) (fun c15 => ?_)
 ·refine Bg (Ae (T U)) U (Ax U U (Aa U)) (y_ (Az (T U) (T U)) ?_ U)
  first | refine A0 (As (T U) (T U) sizeOf4) U Ag ?_ | refine A0 (B6 (T U) (T U) U sizeOf4) U Ag ?_ | refine A0 (By (T U) (T U) U sizeOf4) U Ag ?_
  rintro _ _ ⟨rfl, rfl⟩
  refine Af (C8 U .nil ?_)
  rw [c15]; exact ⟨_, rfl, sbt⟩
 ·refine Cf (y_ (Be (T U) Ak) ?_ U) U U U U
  first | refine A0 (As (T U) (T U) sizeOf4) U Ag ?_ | refine A0 (B6 (T U) (T U) U sizeOf4) U Ag ?_ | refine A0 (By (T U) (T U) U sizeOf4) U Ag ?_
  rintro _ _ ⟨rfl, rfl⟩
  refine Af (C8 U .nil ?_)
  rw [c15]; exact ⟨_, rfl, sbt⟩
end Go.Proofs.YtkdolgnpkjihpaaGreatDoor
namespace Go.Proofs.YtkdolgnpkjihpaaGreatDoor
open _root_.Go.Proofs.Tryz
open Go.RowKit
set_option linter.unusedVariables false
set_option linter.unusedSimpArgs false
theorem must_at {w0 : World} {H : List (Nat × Obj)} (l : List (Int × Int)) (q : Option Addr) (c : Nat) (hA : Arr w0 H q 2 encPI l) (hlen : l.length ≤ 1000000) (hsr : SrtP l) (p : Int × Int) (lk : Int) (b : Bool) (b11 b15 : Nat) (h11 : Fnd H b11 (Cl [.slice q l.length c] 59)) :
  FSpec Tryz.prog w0 92 #[.agg (encPI p).toArray, .int .i64 lk, .pointer (some ⟨b11, 0, none⟩), .pointer (some ⟨b15, 0, none⟩)] ([(b15, Cl [.bool b] 4)] ++ H) (fun _ H' => ∃ u : Unit, True ∧ H' = [(b15, Cl [.bool (b && decide (p ∈ l))] 4)] ++ H) :=
 (must_s l q c hA hlen hsr p lk b b11 b15 h11).mono fun v H' e => ⟨(), trivial, e⟩
theorem loc5 {a b c d e : Nat × Obj} {X : List (Nat × Obj)} : LocL (a :: b :: c :: d :: e :: X) [e] (a :: b :: c :: d :: X) (fun M' => a :: b :: c :: d :: (M' ++ X)) := .t (.t (.t (.t (show LocL ([e] ++ X) [e] X _ from .h))))
def allIn (l : List (Int × Int)) (ts : List (Pl × Nat)) : Bool := ts.all fun y => decide (toI y.1 ∈ l)
theorem allIn_take {l : List (Int × Int)} {ts : List (Pl × Nat)} {j : Nat} {x : Pl × Nat} (h : ts[j]? = some x) : allIn l (ts.take (j + 1)) = (allIn l (ts.take j) && decide (toI x.1 ∈ l)) := by
 unfold allIn; rw [List.take_add_one, h, List.all_append]; simp
def okK (n : Nn) (f : Flr) (m : PM) (l : List (Int × Int)) (k : Nat) : Bool := (l.take k).all fun p => allIn l (movesF n f m (toN p))
theorem okK_succ {n : Nn} {f : Flr} {m : PM} {l : List (Int × Int)} {k : Nat} (h : k < l.length) : okK n f m l (k + 1) = (okK n f m l k && allIn l (movesF n f m (toN (gd l k)))) := by
 unfold okK; rw [List.take_add_one, C7 h, List.all_append]; simp
theorem refOk_eq {n : Nn} {f : Flr} {m : PM} {x to : Nat} {l : List (Int × Int)} (h : ∀ k, k < l.length → PlIn n m to l k) : decide (RefOk n f m x to l) = ((decide (f.node = (x : Int)) || decide (toI (p0F n m x) ∈ l)) && okK n f m l l.length) := by
 rw [Bool.eq_iff_iff]
 simp only [decide_eq_true_eq, Bool.and_eq_true, Bool.or_eq_true]
 unfold RefOk okK allIn
 rw [List.take_length, List.all_eq_true]
 constructor
 ·rintro ⟨_, h2, h3⟩
  refine ⟨?_, fun p hp => ?_⟩
  ·by_cases e : f.node = (x : Int)
   ·exact .inl e
   ·exact .inr (h2 e)
  ·obtain ⟨k, hk, rfl⟩ := mem_gdP.1 hp
   rw [List.all_eq_true]
   intro y hy
   exact decide_eq_true (h3 k hk y hy)
 ·rintro ⟨h2, h3⟩
  refine ⟨h, fun e => h2.resolve_left e, fun k hk y hy => ?_⟩
  have := h3 (gd l k) (A1 hk)
  rw [List.all_eq_true] at this
  exact of_decide_eq_true (this y hy)
theorem refOk_no {n : Nn} {f : Flr} {m : PM} {x to : Nat} {l : List (Int × Int)} {k : Nat} (hk : k < l.length) (h : ¬ PlIn n m to l k) : decide (RefOk n f m x to l) = false := decide_eq_false fun hr => h (hr.1 k hk)
theorem mustV {w0 : World} {R : List (Nat × Obj)} (l : List (Int × Int)) (q : Option Addr) (c : Nat) (hA : Arr w0 R q 2 encPI l) (hlen : l.length ≤ 1000000) (hsr : SrtP l) (ts : List (Pl × Nat)) (b : Bool) (b11 b15 : Nat) (h11 : Fnd R b11 (Cl [.slice q l.length c] 59)) :
  ∀ j x M1 H1, ts[j]? = some x → R.Sublist H1 → M1 = [(b15, Cl [.bool (b && allIn l (ts.take j))] 4)] →
   FSpec Tryz.prog w0 92 (.agg (encPl x.1).toArray :: .int .i64 (x.2 : Int) :: [.pointer (some ⟨b11, 0, none⟩), .pointer (some ⟨b15, 0, none⟩)]).toArray (M1 ++ H1) (fun _ H' => ∃ M2, M2 = [(b15, Cl [.bool (b && allIn l (ts.take (j + 1)))] 4)] ∧ H' = M2 ++ H1) := by
 rintro j x _ H1 hj hs rfl
 refine (must_s (H := H1) l q c (hA.mono hs) hlen hsr (toI x.1) (x.2 : Int) _ b11 b15 (h11.mono hs)).mono ?_
 rintro v H' rfl
 exact ⟨_, rfl, by rw [allIn_take hj, Bool.and_assoc]; rfl⟩
theorem refutes_s {w0 : World} {H : List (Nat × Obj)} (n : Nn) (f : Flr) (m : Mc) (he : Env w0 H n f m) (ho : EnvOk n f m) (x : Nat) (hx : x < n.nodes.length) (to : Nat) (l : List (Int × Int)) (q : Option Addr) (c : Nat) (hA : Arr w0 H q 2 encPI l) (hlen : l.length ≤ 1000000) :
  FSpec Tryz.prog w0 37 #[.agg (encNn n).toArray, .agg (encFl f).toArray, .agg (encMc m).toArray, .int .i64 (x : Int), .int .i64 (to : Int), .slice q l.length c] H (Still (.bool (decide (RefOk n f m.pl x to l))) H) := by
 refine A7 Tryz.func37 U ntmps37 U ?_
 have hrl : m.pl.next.length = m.rows.length := List.length_map ..
 have hal : m.acc.length = m.rows.length := by have := ho.om.acc; rw [hrl] at this; exact this
 refine Ah (Ab (e_ (Bf (T U) cs_) ?_ U))
 rintro _ _ ⟨n6, rfl, rfl⟩
 refine e_ (Bf (T U) cs_) ?_ U
 rintro _ _ ⟨n7, rfl, rfl⟩
 refine e_ (Bf (T U) cs_) ?_ U
 rintro _ _ ⟨n8, rfl, rfl⟩
 refine e_ (Bf (T U) cs_) ?_ U
 rintro _ _ ⟨n11, rfl, rfl⟩
 refine y_ (Ad Ak) (Af (Ac (Ah (Ah (Ab (y_ (Ai (T U) isAgg59 (by first | exact c_o)) ?_ U)))))) U
 refine y_ (Bw (T U) runUnderlying59) (y_ (Ae Ak) (Af (Ac (A2 ?_))) U) U
 refine Co (X := Nat) (V := fun k => [(21, .int .i64 (k : Nat))]) (C := [(3, _), (4, _), (6, _), (7, _), (8, _), (11, _), (19, _), (20, _)]) (φ := fun k => k ≤ l.length ∧ ∀ j, j < k → PlIn n m.pl to l j) (μ := fun k => l.length - k) (x0 := 0) ?_ ⟨Aa U, Aa U, Aa U, Aa U, Aa U, Aa U, Aa U, Aa U, trivial⟩ ⟨atd, trivial⟩ ?_
 ·exact ⟨Nat.zero_le _, fun j hj => absurd hj (Nat.not_lt_zero _)⟩
 rintro k ⟨hk, hall⟩
 refine Ah (Ab (y_ (B4 (T U) (T U)) (Af (Ac (Ah ?_))) U))
 first | refine Au (Aa U) (fun c22 => ?_) (fun c22 => ?_) | refine Bb (Aa U) (fun c22 => ?_) (fun c22 => ?_)
 ·refine A9 (Ac (Ah (A2 (Ah (Ab (y_ (Ae (T U)) (y_ (Bh (T U) (T U) runUnderlying59 sizeOf74 (by omega) (by first | exact rfl | exact hA.b (i := k) (by omega) | exact he.m.a3.b (i := (gd l k).2.toNat) (by omega) | exact hA.b (i := ((k : Int) - 1).toNat) (by omega))) ?_ U) U))))))
  refine y_ (Am (T U) isAgg74 sizeOf74 U (by first | exact (hA.mono sbt).cs (i := k) (by omega) | exact Bc)) ?_ U
  refine e_ (Ap zeroValue74 cs_) ?_ U
  rintro _ _ ⟨n14, rfl, rfl⟩
  refine y_ (Ad (T U)) ?_ U
  first | refine A0 (As (T U) (T U) sizeOf74) U Ag ?_
  rintro _ _ ⟨rfl, rfl⟩
  refine Af (Ac (Ah (Cv 52 [(0, true), (1, true), (2, true), (3, true), (4, true), (5, true), (6, true), (7, true), (8, true), (9, true), (10, true), (11, true), (12, true), (13, true), (14, true), (15, true), (16, true), (17, true), (18, true), (19, true), (20, true), (21, true), (22, true), (23, true), (24, true), (25, true), (26, true), (27, true), (28, true), (29, true), (30, true), (31, true), (32, true), (33, true), (34, true), (35, true), (36, true), (37, true), (38, true), (39, true), (40, true), (41, true), (42, true), (43, true), (44, true), (45, true), (46, true), (47, true), (48, true), (49, true), (50, true), (51, true)] _ mixd (by kernel_rfl) sb0 ?_)))
  refine o_y U (Bp (T U) fa74_0) (o_y U (Ai (T U) isAgg3 (by first | exact c_o)) ?_ U Ag) U Ag
  refine o_y U (B4 (T U) Ak) (o_y U (Ae (T U)) ?_ U Ag) U Ag
  first | refine C9 (s := 29) (Aa U) (fun c29 => ?_) (fun c29 => ?_) | refine Dx (s := 29) (Aa U) (fun c29 => ?_) (fun c29 => ?_)
  ·have hbad : ¬ PlIn n m.pl to l k := fun hq => by
    obtain ⟨q1, q2, q3, q4⟩ := hq
    omega
   refine o_n U (o_n U (o_n U (o_n U (o_n U (o_n U (o_y U (Az (T U) Ak) (o_y U (Ae (T U)) (o_n U (o_n U (o_n U (o_y U (Az (T U) Ak) (o_y U (Ae (T U)) (o_n U (o_n U (o_n U (o_n U (o_n U (o_n U (o_y U (Az (T U) Ak) (o_y U (Ae (T U)) (o_n U (o_n U (o_n U (o_n U (o_n U (o_n U (o_n U (o_n U (o_n U (o_n U (o_n U (o_n U (o_y U (Az (T U) Ak) (o_y U (Ae (T U)) (o_n U (o_n U (o_n U (o_n U (o_n U (o_n U (o_n U (o_n U (o_n U (o_n U (o_n U (o_n U (o_y U (Az (T U) Ak) (B5 U (Af (Ac (Bt [(3, _), (4, _), (6, _), (7, _), (8, _), (11, _), (19, _), (20, _), (21, _), (77, _)] ⟨Aa U, Aa U, Aa U, Aa U, Aa U, Aa U, Aa U, Aa U, Aa U, Aa U, trivial⟩ ?_)))) U Ag) U (Bd U U (Aa U))) U (Cg U U (Aa U))) U (Cg U U (Aa U))) U (Cg U U (Aa U))) U (Cg U U (Aa U))) U (Cg U U (Aa U))) U (Cg U U (Aa U))) U (Bd U U (Aa U))) U (Bd U U (Aa U))) U (Bd U U (Aa U))) U (Bd U U (Aa U))) U (Bd U U (Aa U))) U Ag) U Ag) U (Bd U U (Aa U))) U (Cg U U (Aa U))) U (Cg U U (Aa U))) U (Cg U U (Aa U))) U (Cg U U (Aa U))) U (Cg U U (Aa U))) U (Cg U U (Aa U))) U (Cg U U (Aa U))) U (Cg U U (Aa U))) U (Bd U U (Aa U))) U (Bd U U (Aa U))) U (Bd U U (Aa U))) U Ag) U Ag) U (Bd U U (Aa U))) U (Bd U U (Aa U))) U (Bd U U (Aa U))) U (Bd U U (Aa U))) U (Bd U U (Aa U))) U (Bd U U (Aa U))) U Ag) U Ag) U (Bd U U (Aa U))) U (Bd U U (Aa U))) U (Bd U U (Aa U))) U Ag) U Ag) U (Bd U U (Aa U))) U (Bd U U (Aa U))) U (Bd U U (Aa U))) U (Bd U U (Aa U))) U (Bd U U (Aa U))) U (Bd U U (Aa U))
   first | refine Bu (Aa U) ?_ | refine Bu (Aj (Aa U) (vbool (decide_eq_true c77))) ?_
   refine Ah (Ab (y_ (Ad Ak) (Af (Ac (A5 (Aw (Ao (B9 (Aw (Ao (A6 U (.tmp (Aa U) .nil) ?_))))))))) U))
   exact ⟨_, ⟨vbool (by rw [refOk_no (by omega) hbad]), rfl⟩, sbt⟩
  ·refine o_y U (Bp (T U) fa74_0) (o_y U (Ai (T U) isAgg3 (by first | exact c_o)) ?_ U (Ax U U (Aa U))) U (Ax U U (Aa U))
   refine o_y U (Bp (T U) fa56_0) (o_y U (Ai (T U) isAgg52 (by first | exact c_o)) ?_ U (Ax U U (Aa U))) U (Ax U U (Aa U))
   refine o_y U (Bw (T U) runUnderlying52) (o_y U (Ds (T U) (T U)) (o_y U (Be (T U) (T U)) (o_y U (Ae (T U)) ?_ U Ag) U Ag) U (Ax U U (Aa U))) U (Ax U U (Aa U))
   first | refine C9 (s := 37) (Aa U) (fun c37 => ?_) (fun c37 => ?_) | refine Dx (s := 37) (Aa U) (fun c37 => ?_) (fun c37 => ?_)
   ·have hbad : ¬ PlIn n m.pl to l k := fun hq => by
     obtain ⟨q1, q2, q3, q4⟩ := hq
     omega
    refine o_n U (o_n U (o_n U (o_y U (Az (T U) Ak) (o_y U (Ae (T U)) (o_n U (o_n U (o_n U (o_n U (o_n U (o_n U (o_y U (Az (T U) Ak) (o_y U (Ae (T U)) (o_n U (o_n U (o_n U (o_n U (o_n U (o_n U (o_n U (o_n U (o_n U (o_n U (o_n U (o_n U (o_y U (Az (T U) Ak) (o_y U (Ae (T U)) (o_n U (o_n U (o_n U (o_n U (o_n U (o_n U (o_n U (o_n U (o_n U (o_n U (o_n U (o_n U (o_y U (Az (T U) Ak) (B5 U (Af (Ac (Bt [(3, _), (4, _), (6, _), (7, _), (8, _), (11, _), (19, _), (20, _), (21, _), (77, _)] ⟨Aa U, Aa U, Aa U, Aa U, Aa U, Aa U, Aa U, Aa U, Aa U, Aa U, trivial⟩ ?_)))) U Ag) U (Bd U U (Aa U))) U (Cg U U (Aa U))) U (Cg U U (Aa U))) U (Cg U U (Aa U))) U (Cg U U (Aa U))) U (Cg U U (Aa U))) U (Cg U U (Aa U))) U (Bd U U (Aa U))) U (Bd U U (Aa U))) U (Bd U U (Aa U))) U (Bd U U (Aa U))) U (Bd U U (Aa U))) U Ag) U Ag) U (Bd U U (Aa U))) U (Cg U U (Aa U))) U (Cg U U (Aa U))) U (Cg U U (Aa U))) U (Cg U U (Aa U))) U (Cg U U (Aa U))) U (Cg U U (Aa U))) U (Cg U U (Aa U))) U (Cg U U (Aa U))) U (Bd U U (Aa U))) U (Bd U U (Aa U))) U (Bd U U (Aa U))) U Ag) U Ag) U (Bd U U (Aa U))) U (Bd U U (Aa U))) U (Bd U U (Aa U))) U (Bd U U (Aa U))) U (Bd U U (Aa U))) U (Bd U U (Aa U))) U Ag) U Ag) U (Bd U U (Aa U))) U (Bd U U (Aa U))) U (Bd U U (Aa U))
    first | refine Bu (Aa U) ?_ | refine Bu (Aj (Aa U) (vbool (decide_eq_true c77))) ?_
    refine Ah (Ab (y_ (Ad Ak) (Af (Ac (A5 (Aw (Ao (B9 (Aw (Ao (A6 U (.tmp (Aa U) .nil) ?_))))))))) U))
    exact ⟨_, ⟨vbool (by rw [refOk_no (by omega) hbad]), rfl⟩, sbt⟩
   ·refine o_y U (Bk (T U) fa74_1) (o_y U (Ai (T U) isAgg3 (by first | exact c_o)) ?_ U (Ax U U (Aa U))) U (Ax U U (Aa U))
    refine o_y U (B4 (T U) Ak) (o_y U (Be (T U) (T U)) (o_y U (Ae (T U)) ?_ U Ag) U Ag) U (Ax U U (Aa U))
    first | refine C9 (s := 42) (Aa U) (fun c42 => ?_) (fun c42 => ?_) | refine Dx (s := 42) (Aa U) (fun c42 => ?_) (fun c42 => ?_)
    ·have hbad : ¬ PlIn n m.pl to l k := fun hq => by
      obtain ⟨q1, q2, q3, q4⟩ := hq
      omega
     refine o_n U (o_n U (o_n U (o_n U (o_n U (o_n U (o_y U (Az (T U) Ak) (o_y U (Ae (T U)) (o_n U (o_n U (o_n U (o_n U (o_n U (o_n U (o_n U (o_n U (o_n U (o_n U (o_n U (o_n U (o_y U (Az (T U) Ak) (o_y U (Ae (T U)) (o_n U (o_n U (o_n U (o_n U (o_n U (o_n U (o_n U (o_n U (o_n U (o_n U (o_n U (o_n U (o_y U (Az (T U) Ak) (B5 U (Af (Ac (Bt [(3, _), (4, _), (6, _), (7, _), (8, _), (11, _), (19, _), (20, _), (21, _), (77, _)] ⟨Aa U, Aa U, Aa U, Aa U, Aa U, Aa U, Aa U, Aa U, Aa U, Aa U, trivial⟩ ?_)))) U Ag) U (Bd U U (Aa U))) U (Cg U U (Aa U))) U (Cg U U (Aa U))) U (Cg U U (Aa U))) U (Cg U U (Aa U))) U (Cg U U (Aa U))) U (Cg U U (Aa U))) U (Bd U U (Aa U))) U (Bd U U (Aa U))) U (Bd U U (Aa U))) U (Bd U U (Aa U))) U (Bd U U (Aa U))) U Ag) U Ag) U (Bd U U (Aa U))) U (Cg U U (Aa U))) U (Cg U U (Aa U))) U (Cg U U (Aa U))) U (Cg U U (Aa U))) U (Cg U U (Aa U))) U (Cg U U (Aa U))) U (Cg U U (Aa U))) U (Cg U U (Aa U))) U (Bd U U (Aa U))) U (Bd U U (Aa U))) U (Bd U U (Aa U))) U Ag) U Ag) U (Bd U U (Aa U))) U (Bd U U (Aa U))) U (Bd U U (Aa U))) U (Bd U U (Aa U))) U (Bd U U (Aa U))) U (Bd U U (Aa U))
     first | refine Bu (Aa U) ?_ | refine Bu (Aj (Aa U) (vbool (decide_eq_true c77))) ?_
     refine Ah (Ab (y_ (Ad Ak) (Af (Ac (A5 (Aw (Ao (B9 (Aw (Ao (A6 U (.tmp (Aa U) .nil) ?_))))))))) U))
     exact ⟨_, ⟨vbool (by rw [refOk_no (by omega) hbad]), rfl⟩, sbt⟩
    ·refine o_y U (Bk (T U) fa74_1) (o_y U (Ai (T U) isAgg3 (by first | exact c_o)) ?_ U (Ax U U (Aa U))) U (Ax U U (Aa U))
     refine o_y U (Bk (T U) Dc) (o_y U (Ai (T U) isAgg26 (by first | exact c_o)) ?_ U (Ax U U (Aa U))) U (Ax U U (Aa U))
     refine o_y U (Bw (T U) runUnderlying26) (o_y U (Ds (T U) (T U)) (o_y U (Be (T U) (T U)) (o_y U (Ae (T U)) ?_ U Ag) U Ag) U (Ax U U (Aa U))) U (Ax U U (Aa U))
     first | refine C9 (s := 50) (Aa U) (fun c50 => ?_) (fun c50 => ?_) | refine Dx (s := 50) (Aa U) (fun c50 => ?_) (fun c50 => ?_)
     ·have hbad : ¬ PlIn n m.pl to l k := fun hq => by
       obtain ⟨q1, q2, q3, q4⟩ := hq
       omega
      refine o_n U (o_n U (o_n U (o_n U (o_n U (o_n U (o_n U (o_n U (o_n U (o_n U (o_n U (o_n U (o_y U (Az (T U) Ak) (o_y U (Ae (T U)) (o_n U (o_n U (o_n U (o_n U (o_n U (o_n U (o_n U (o_n U (o_n U (o_n U (o_n U (o_n U (o_y U (Az (T U) Ak) (B5 U (Af (Ac (Bt [(3, _), (4, _), (6, _), (7, _), (8, _), (11, _), (19, _), (20, _), (21, _), (77, _)] ⟨Aa U, Aa U, Aa U, Aa U, Aa U, Aa U, Aa U, Aa U, Aa U, Aa U, trivial⟩ ?_)))) U Ag) U (Bd U U (Aa U))) U (Cg U U (Aa U))) U (Cg U U (Aa U))) U (Cg U U (Aa U))) U (Cg U U (Aa U))) U (Cg U U (Aa U))) U (Cg U U (Aa U))) U (Bd U U (Aa U))) U (Bd U U (Aa U))) U (Bd U U (Aa U))) U (Bd U U (Aa U))) U (Bd U U (Aa U))) U Ag) U Ag) U (Bd U U (Aa U))) U (Cg U U (Aa U))) U (Cg U U (Aa U))) U (Cg U U (Aa U))) U (Cg U U (Aa U))) U (Cg U U (Aa U))) U (Cg U U (Aa U))) U (Cg U U (Aa U))) U (Cg U U (Aa U))) U (Bd U U (Aa U))) U (Bd U U (Aa U))) U (Bd U U (Aa U))
      first | refine Bu (Aa U) ?_ | refine Bu (Aj (Aa U) (vbool (decide_eq_true c77))) ?_
      refine Ah (Ab (y_ (Ad Ak) (Af (Ac (A5 (Aw (Ao (B9 (Aw (Ao (A6 U (.tmp (Aa U) .nil) ?_))))))))) U))
      exact ⟨_, ⟨vbool (by rw [refOk_no (by omega) hbad]), rfl⟩, sbt⟩
     ·refine o_y U (Ae (T U)) (o_y U (yl_gtr (T U) Ak) (o_y U (Ae (T U)) ?_ U (Ax U U (Aa U))) U (Ax U U (Aa U))) U (Ax U U (Aa U))
      first | refine C9 (s := 53) (Aa U) (fun c53 => ?_) (fun c53 => ?_) | refine Dx (s := 53) (Aa U) (fun c53 => ?_) (fun c53 => ?_)
      ·have hk1 : ((k : Int) - 1).toNat = k - 1 := by omega
       refine o_y U (Ai (T U) isAgg59 (by first | exact c_o)) ?_ U (Ax U U (Aa U))
       refine o_y U (Ae (T U)) (o_y U (yl_sub (T U) Ak (by omega)) ?_ U (Ax U U (Aa U))) U (Ax U U (Aa U))
       refine o_y U (Cw (T U) (T U) runUnderlying59 sizeOf74 (by omega) (by first | exact rfl | exact hA.b (i := k) (by omega) | exact he.m.a3.b (i := (gd l k).2.toNat) (by omega) | exact hA.b (i := ((k : Int) - 1).toNat) (by omega))) ?_ U (Ax U U (Aa U))
       refine o_y U (Am (T U) isAgg74 sizeOf74 U (by first | exact (hA.mono sbt).cs (i := ((k : Int) - 1).toNat) (by omega) | exact Bc)) ?_ U (Ax U U (Aa U))
       refine o_y U (Am (T U) isAgg74 sizeOf74 U (by first | exact Bc)) ?_ U (Ax U U (Aa U))
       refine o_y U (Aq (.cons (T U) (.cons (T U) .nil)) call90 (fun H' hs => cmpPl_s _ _)) (o_y U (Ds (T U) Ak) (o_y U (Az (T U) (T U)) (o_y U (Be (T U) (T U)) (o_y U (Ae (T U)) ?_ U Ag) U Ag) U (Ax U U (Aa U))) U (Ax U U (Aa U))) U (Ax U U (Aa U))
       first | refine C9 (s := 64) (Aa U) (fun c64 => ?_) (fun c64 => ?_) | refine Dx (s := 64) (Aa U) (fun c64 => ?_) (fun c64 => ?_)
       ·have hbad : ¬ PlIn n m.pl to l k := fun hq => by
         obtain ⟨q1, q2, q3, q4⟩ := hq
         rw [hk1] at c64; exact absurd (q3 (by omega)) (by omega)
        refine o_n U (o_n U (o_n U (o_n U (o_n U (o_n U (o_n U (o_n U (o_n U (o_n U (o_n U (o_n U (o_y U (Az (T U) Ak) (B5 U (Af (Ac (Bt [(3, _), (4, _), (6, _), (7, _), (8, _), (11, _), (19, _), (20, _), (21, _), (77, _)] ⟨Aa U, Aa U, Aa U, Aa U, Aa U, Aa U, Aa U, Aa U, Aa U, Aa U, trivial⟩ ?_)))) U Ag) U (Bd U U (Aa U))) U (Cg U U (Aa U))) U (Cg U U (Aa U))) U (Cg U U (Aa U))) U (Cg U U (Aa U))) U (Cg U U (Aa U))) U (Cg U U (Aa U))) U (Bd U U (Aa U))) U (Bd U U (Aa U))) U (Bd U U (Aa U))) U (Bd U U (Aa U))) U (Bd U U (Aa U))
        first | refine Bu (Aa U) ?_ | refine Bu (Aj (Aa U) (vbool (decide_eq_true c77))) ?_
        refine Ah (Ab (y_ (Ad Ak) (Af (Ac (A5 (Aw (Ao (B9 (Aw (Ao (A6 U (.tmp (Aa U) .nil) ?_))))))))) U))
        exact ⟨_, ⟨vbool (by rw [refOk_no (by omega) hbad]), rfl⟩, sbt⟩
       ·refine o_y U (Bp (T U) fa74_0) (o_y U (Ai (T U) isAgg3 (by first | exact c_o)) ?_ U (Ax U U (Aa U))) U (Ax U U (Aa U))
        refine o_y U (Ae (T U)) (o_y U (B3 (T U) (T U)) (o_y U (Ae (T U)) ?_ U (Ax U U (Aa U))) U (Ax U U (Aa U))) U (Ax U U (Aa U))
        first | refine C9 (s := 69) (Aa U) (fun c69 => ?_) (fun c69 => ?_) | refine Dx (s := 69) (Aa U) (fun c69 => ?_) (fun c69 => ?_)
        ·refine o_y U (Bk (T U) Dn) (o_y U (Ai (T U) isAgg27 (by first | exact c_o)) ?_ U (Ax U U (Aa U))) U (Ax U U (Aa U))
         refine o_y U (Bk (T U) fa74_1) (o_y U (Ai (T U) isAgg3 (by first | exact c_o)) ?_ U (Ax U U (Aa U))) U (Ax U U (Aa U))
         refine o_y U (Cw (T U) (T U) runUnderlying27 sizeOf4 (by omega) (by first | exact rfl | exact hA.b (i := k) (by omega) | exact he.m.a3.b (i := (gd l k).2.toNat) (by omega) | exact hA.b (i := ((k : Int) - 1).toNat) (by omega))) ?_ U (Ax U U (Aa U))
         refine o_y U (Ai (T U) isAgg4 (by first | exact c_o | exact cell1 ((he.m.a3.mono sbt).cs (i := (gd l k).2.toNat) (by omega)))) ?_ U (Ax U U (Aa U))
         refine o_y U (Az (T U) (T U)) (o_y U (Be (T U) (T U)) (B5 U (Af (Ac (Bt [(3, _), (4, _), (6, _), (7, _), (8, _), (11, _), (19, _), (20, _), (21, _), (77, _)] ⟨Aa U, Aa U, Aa U, Aa U, Aa U, Aa U, Aa U, Aa U, Aa U, Aa U, trivial⟩ ?_)))) U Ag) U (Ax U U (Aa U))
         first | refine Au (Aa U) (fun c77 => ?_) (fun c77 => ?_) | refine Bb (Aa U) (fun c77 => ?_) (fun c77 => ?_)
         ·have hbad : ¬ PlIn n m.pl to l k := fun hq => by
           obtain ⟨q1, q2, q3, q4⟩ := hq
           exact q4 ⟨by omega, c77⟩
          refine Ah (Ab (y_ (Ad Ak) (Af (Ac (A5 (Aw (Ao (B9 (Aw (Ao (A6 U (.tmp (Aa U) .nil) ?_))))))))) U))
          exact ⟨_, ⟨vbool (by rw [refOk_no (by omega) hbad]), rfl⟩, sbt⟩
         ·have hgood : PlIn n m.pl to l k := ⟨by omega, by omega, fun hk0 => by first | (exfalso; omega) | (rw [hk1] at c64; omega), fun hq => Bool.false_ne_true (c77.symm.trans hq.2)⟩
          refine A9 (Bm (Ac (Ab (y_ (Bv (T U) Ak (by omega)) ?_ U))))
          refine y_ (Ae (T U)) (Af ?_) U
          refine Bs (k + 1) ?_ ?_ ⟨atd, trivial⟩ ⟨Aa U, Aa U, Aa U, Aa U, Aa U, Aa U, Aa U, Aa U, trivial⟩ ?_
          ·refine ⟨by omega, fun j hj => ?_⟩
           by_cases e : j = k
           ·subst e; exact hgood
           ·exact hall j (by omega)
          ·first | omega | (simp only []; omega)
          ·exact sbt
        ·have hgood : PlIn n m.pl to l k := ⟨by omega, by omega, fun hk0 => by first | (exfalso; omega) | (rw [hk1] at c64; omega), fun hq => c69 hq.1⟩
         refine o_n U (o_n U (o_n U (o_n U (o_n U (o_n U (o_y U (Be (T U) Ak) (o_y U (Be (T U) (T U)) (B5 U (Af (Ac (Bt [(3, _), (4, _), (6, _), (7, _), (8, _), (11, _), (19, _), (20, _), (21, _), (77, _)] ⟨Aa U, Aa U, Aa U, Aa U, Aa U, Aa U, Aa U, Aa U, Aa U, Aa U, trivial⟩ ?_)))) U Ag) U (Ax U U (Aa U))) U (Cp U U (Aa U))) U (Cp U U (Aa U))) U (Cp U U (Aa U))) U (Cp U U (Aa U))) U (Cp U U (Aa U))) U (Cp U U (Aa U))
         first | refine B8 (Aa U) ?_ | refine B8 (Aj (Aa U) (vbool (decide_eq_false c77))) ?_
         refine A9 (Bm (Ac (Ab (y_ (Bv (T U) Ak (by omega)) ?_ U))))
         refine y_ (Ae (T U)) (Af ?_) U
         refine Bs (k + 1) ?_ ?_ ⟨atd, trivial⟩ ⟨Aa U, Aa U, Aa U, Aa U, Aa U, Aa U, Aa U, Aa U, trivial⟩ ?_
         ·refine ⟨by omega, fun j hj => ?_⟩
          by_cases e : j = k
          ·subst e; exact hgood
          ·exact hall j (by omega)
         ·first | omega | (simp only []; omega)
         ·exact sbt
      ·refine o_n U (o_n U (o_n U (o_n U (o_n U (o_n U (o_n U (o_n U (o_y U (Be (T U) Ak) (o_y U (Be (T U) (T U)) (o_y U (Ae (T U)) (o_y U (Bp (T U) fa74_0) (o_y U (Ai (T U) isAgg3 (by first | exact c_o)) ?_ U (Ax U U (Aa U))) U (Ax U U (Aa U))) U Ag) U Ag) U (Ax U U (Aa U))) U (Cp U U (Aa U))) U (Cp U U (Aa U))) U (Cp U U (Aa U))) U (Cp U U (Aa U))) U (Cp U U (Aa U))) U (Cp U U (Aa U))) U (Cp U U (Aa U))) U (Cp U U (Aa U))
       refine o_y U (Ae (T U)) (o_y U (B3 (T U) (T U)) (o_y U (Ae (T U)) ?_ U (Ax U U (Aa U))) U (Ax U U (Aa U))) U (Ax U U (Aa U))
       first | refine C9 (s := 69) (Aa U) (fun c69 => ?_) (fun c69 => ?_) | refine Dx (s := 69) (Aa U) (fun c69 => ?_) (fun c69 => ?_)
       ·refine o_y U (Bk (T U) Dn) (o_y U (Ai (T U) isAgg27 (by first | exact c_o)) ?_ U (Ax U U (Aa U))) U (Ax U U (Aa U))
        refine o_y U (Bk (T U) fa74_1) (o_y U (Ai (T U) isAgg3 (by first | exact c_o)) ?_ U (Ax U U (Aa U))) U (Ax U U (Aa U))
        refine o_y U (Cw (T U) (T U) runUnderlying27 sizeOf4 (by omega) (by first | exact rfl | exact hA.b (i := k) (by omega) | exact he.m.a3.b (i := (gd l k).2.toNat) (by omega) | exact hA.b (i := ((k : Int) - 1).toNat) (by omega))) ?_ U (Ax U U (Aa U))
        refine o_y U (Ai (T U) isAgg4 (by first | exact c_o | exact cell1 ((he.m.a3.mono sbt).cs (i := (gd l k).2.toNat) (by omega)))) ?_ U (Ax U U (Aa U))
        refine o_y U (Az (T U) (T U)) (o_y U (Be (T U) (T U)) (B5 U (Af (Ac (Bt [(3, _), (4, _), (6, _), (7, _), (8, _), (11, _), (19, _), (20, _), (21, _), (77, _)] ⟨Aa U, Aa U, Aa U, Aa U, Aa U, Aa U, Aa U, Aa U, Aa U, Aa U, trivial⟩ ?_)))) U Ag) U (Ax U U (Aa U))
        first | refine Au (Aa U) (fun c77 => ?_) (fun c77 => ?_) | refine Bb (Aa U) (fun c77 => ?_) (fun c77 => ?_)
        ·have hbad : ¬ PlIn n m.pl to l k := fun hq => by
          obtain ⟨q1, q2, q3, q4⟩ := hq
          exact q4 ⟨by omega, c77⟩
         refine Ah (Ab (y_ (Ad Ak) (Af (Ac (A5 (Aw (Ao (B9 (Aw (Ao (A6 U (.tmp (Aa U) .nil) ?_))))))))) U))
         exact ⟨_, ⟨vbool (by rw [refOk_no (by omega) hbad]), rfl⟩, sbt⟩
        ·have hgood : PlIn n m.pl to l k := ⟨by omega, by omega, fun hk0 => by first | (exfalso; omega) | (rw [hk1] at c64; omega), fun hq => Bool.false_ne_true (c77.symm.trans hq.2)⟩
         refine A9 (Bm (Ac (Ab (y_ (Bv (T U) Ak (by omega)) ?_ U))))
         refine y_ (Ae (T U)) (Af ?_) U
         refine Bs (k + 1) ?_ ?_ ⟨atd, trivial⟩ ⟨Aa U, Aa U, Aa U, Aa U, Aa U, Aa U, Aa U, Aa U, trivial⟩ ?_
         ·refine ⟨by omega, fun j hj => ?_⟩
          by_cases e : j = k
          ·subst e; exact hgood
          ·exact hall j (by omega)
         ·first | omega | (simp only []; omega)
         ·exact sbt
       ·have hgood : PlIn n m.pl to l k := ⟨by omega, by omega, fun hk0 => by first | (exfalso; omega) | (rw [hk1] at c64; omega), fun hq => c69 hq.1⟩
        refine o_n U (o_n U (o_n U (o_n U (o_n U (o_n U (o_y U (Be (T U) Ak) (o_y U (Be (T U) (T U)) (B5 U (Af (Ac (Bt [(3, _), (4, _), (6, _), (7, _), (8, _), (11, _), (19, _), (20, _), (21, _), (77, _)] ⟨Aa U, Aa U, Aa U, Aa U, Aa U, Aa U, Aa U, Aa U, Aa U, Aa U, trivial⟩ ?_)))) U Ag) U (Ax U U (Aa U))) U (Cp U U (Aa U))) U (Cp U U (Aa U))) U (Cp U U (Aa U))) U (Cp U U (Aa U))) U (Cp U U (Aa U))) U (Cp U U (Aa U))
        first | refine B8 (Aa U) ?_ | refine B8 (Aj (Aa U) (vbool (decide_eq_false c77))) ?_
        refine A9 (Bm (Ac (Ab (y_ (Bv (T U) Ak (by omega)) ?_ U))))
        refine y_ (Ae (T U)) (Af ?_) U
        refine Bs (k + 1) ?_ ?_ ⟨atd, trivial⟩ ⟨Aa U, Aa U, Aa U, Aa U, Aa U, Aa U, Aa U, Aa U, trivial⟩ ?_
        ·refine ⟨by omega, fun j hj => ?_⟩
         by_cases e : j = k
         ·subst e; exact hgood
         ·exact hall j (by omega)
        ·first | omega | (simp only []; omega)
        ·exact sbt
 ·have hall2 : ∀ j, j < l.length → PlIn n m.pl to l j := fun j hj => hall j (by omega)
  have hsr : SrtP l := srtP_of fun j h0 hj => (hall2 j hj).2.2.1 h0
  refine B7 (A4 (A8 (Ba (Ac (Ah (Ab (e_ (Ap zeroValue4 cs_) ?_ U)))))))
  rintro _ _ ⟨n15, rfl, rfl⟩
  first | refine A0 (As (T U) Ak sizeOf4) U Ag ?_ | refine A0 (B6 (T U) Ak U sizeOf4) U Ag ?_ | refine A0 (By (T U) Ak U sizeOf4) U Ag ?_
  rintro _ _ ⟨rfl, rfl⟩
  refine Af (Ac (Ah (Ab (y_ (Cc (.cons (T U) (.cons (T U) .nil))) (y_ (Ad (T U)) (Af (Ac ?_)) U) U))))
  refine j_cutC (X := Unit) (V := fun _ => []) (C := [(6, _), (7, _), (8, _), (11, _), (15, _), (16, _)]) (G := fun _ => (n15, Cl [.bool (decide (f.node = (x : Int)) || decide (toI (p0F n m.pl x) ∈ l))] 4) :: (n11, Cl [.slice q l.length c] 59) :: (n8, Cl (encMc m) 29) :: (n7, Cl (encFl f) 58) :: (n6, Cl (encNn n) 56) :: H) (φ := fun _ => True) ⟨Aa U, Aa U, Aa U, Aa U, Aa U, Aa U, trivial⟩ ?_ ?_
  ·refine Ah (Ab (y_ (Bk (T U) fa58_1) (y_ (Ai (T U) isAgg3 (by first | exact c_o)) ?_ U) U))
   refine y_ (Ae (T U)) (y_ (C3 (T U) (T U)) (Af (Ac ?_)) U) U
   first | refine Au (Aa U) (fun c83 => ?_) (fun c83 => ?_) | refine Bb (Aa U) (fun c83 => ?_) (fun c83 => ?_)
   ·have hb0 : (decide (f.node = (x : Int)) || decide (toI (p0F n m.pl x) ∈ l)) = (true && decide (toI (p0F n m.pl x) ∈ l)) := by rw [decide_eq_false c83]; rfl
    refine Ab (y_ (Ae (T U)) (y_ (Am (T U) isAgg56 sizeOf56 U (by first | exact Bc)) ?_ U) U)
    refine y_ (Am (T U) isAgg29 sizeOf29 U (by first | exact Bc)) ?_ U
    refine y_ (Ae (T U)) (y_ (Aq (.cons (T U) (.cons (T U) (.cons (T U) .nil))) call79 (fun H' hs => begin_s n m (he.n.mono (List.Sublist.trans sbt hs)) (he.m.mono (List.Sublist.trans sbt hs)) ho.om ho.sr ho.ln x hx)) ?_ U) U
    refine e_ (C4 (T U) (.cons (T U) (.cons Ak .nil)) call92 (Bn [(n15, Cl [.bool true] 4)] loc1 (must_at l q c (hA.mono sbt) hlen hsr (toI (p0F n m.pl x)) 0 true n11 n15 fdd))) ?_ U
    rintro _ _ ⟨_, _, rfl⟩
    refine Af (Bl (()) ?_ trivial ⟨Aa U, Aa U, Aa U, Aa U, Aa U, Aa U, trivial⟩ (by simp only [hb0]; exact sbt))
    trivial
   ·have hb0 : (decide (f.node = (x : Int)) || decide (toI (p0F n m.pl x) ∈ l)) = true := by rw [decide_eq_true (Classical.not_not.1 c83)]; rfl
    refine A9 (Bl (()) ?_ trivial ⟨Aa U, Aa U, Aa U, Aa U, Aa U, Aa U, trivial⟩ (by simp only [hb0]; exact sbt))
    trivial
  rintro _ _
  refine Ah (Ah (Ab (y_ (Ai (T U) isAgg59 (by first | exact c_o)) ?_ U)))
  refine y_ (Bw (T U) runUnderlying59) (y_ (Ae Ak) (Af (Ac (A2 ?_))) U) U
  refine Cn (X := Nat) (V := fun k => [(92, .int .i64 (k : Nat))]) (C := [(6, _), (7, _), (8, _), (15, _), (16, _), (90, _), (91, _)]) (G := fun k => (n15, Cl [.bool ((decide (f.node = (x : Int)) || decide (toI (p0F n m.pl x) ∈ l)) && okK n f m.pl l k)] 4) :: (n11, Cl [.slice q l.length c] 59) :: (n8, Cl (encMc m) 29) :: (n7, Cl (encFl f) 58) :: (n6, Cl (encNn n) 56) :: H) (φ := fun k => k ≤ l.length) (μ := fun k => l.length - k) (x0 := 0) ?_ ⟨Aa U, Aa U, Aa U, Aa U, Aa U, Aa U, Aa U, trivial⟩ ⟨atd, trivial⟩ (by rw [show okK n f m.pl l 0 = true from rfl, Bool.and_true]; exact sbt) ?_
  ·exact Nat.zero_le _
  rintro k hk2
  refine Ah (Ab (y_ (B4 (T U) (T U)) (Af (Ac (Ah ?_))) U))
  first | refine Au (Aa U) (fun c93 => ?_) (fun c93 => ?_) | refine Bb (Aa U) (fun c93 => ?_) (fun c93 => ?_)
  ·have hin := hall2 k (by omega)
   have hpk : gd l k = toI (toN (gd l k)) := by
    obtain ⟨⟨a1, _⟩, ⟨a2, _⟩, _, _⟩ := hin
    show gd l k = (((gd l k).1.toNat : Int), ((gd l k).2.toNat : Int))
    rw [Int.toNat_of_nonneg a1, Int.toNat_of_nonneg a2]
   have hpd : PlOk n m.pl (toN (gd l k)) := by
    obtain ⟨⟨a1, a3⟩, ⟨a2, a4⟩, _, _⟩ := hin
    refine ⟨?_, ?_⟩
    ·show (gd l k).1.toNat < _; omega
    ·show (gd l k).2.toNat < _; omega
   have hoks := okK_succ (n := n) (f := f) (m := m.pl) (l := l) (k := k) (by omega)
   refine A9 (Ac (Ah (A2 (Ah (Ab (y_ (Bh (T U) (T U) runUnderlying59 sizeOf74 (by omega) (by first | exact rfl | exact hA.b (i := k) (by omega) | exact he.m.a3.b (i := (gd l k).2.toNat) (by omega) | exact hA.b (i := ((k : Int) - 1).toNat) (by omega))) ?_ U))))))
   refine y_ (Am (T U) isAgg74 sizeOf74 U (by first | exact cells_pl hpk ((hA.mono sbt).cs (i := k) (by omega)) | exact Bc)) ?_ U
   refine e_ (Ap zeroValue74 cs_) ?_ U
   rintro _ _ ⟨n18, rfl, rfl⟩
   first | refine A0 (As (T U) (T U) sizeOf74) U Ag ?_
   rintro _ _ ⟨rfl, rfl⟩
   refine Af (Ac (Cv 6 [(0, true), (1, true), (2, true), (4, true), (5, true), (3, false)] _ mixd (by kernel_rfl) sb0 ?_))
   refine o_y U (Am (T U) isAgg56 sizeOf56 U (by first | exact Bc)) ?_ U Ag
   refine o_y U (Am (T U) isAgg58 sizeOf58 U (by first | exact Bc)) ?_ U Ag
   refine o_y U (Am (T U) isAgg29 sizeOf29 U (by first | exact Bc)) ?_ U Ag
   refine o_y U (Am (T U) isAgg74 sizeOf74 U (by first | exact Bc)) ?_ U Ag
   refine o_y U (Ae (T U)) (o_e U (Av (.cons (T U) (.cons (T U) (.cons (T U) .nil))) call80 (moves_s n f m)) ?_ U Ag) U Ag
   rintro _ _ ⟨b3, b4, b5, rfl, rfl⟩
   refine ⟨sbt, (B5 U ?_)⟩
   refine e_ (C4 (T rfl) (.cons (T rfl) (.cons (T rfl) .nil)) call127 (Bn [(n15, Cl [.bool ((decide (f.node = (x : Int)) || decide (toI (p0F n m.pl x) ∈ l)) && okK n f m.pl l k)] 4)] loc5 (moves1_s n f m (he.mono sbt) ho b3 b4 b5 fdd fdd fdd (toN (gd l k)) hpd 92 [.pointer (some ⟨n11, 0, none⟩), .pointer (some ⟨n15, 0, none⟩)] (fun j M => M = [(n15, Cl [.bool (((decide (f.node = (x : Int)) || decide (toI (p0F n m.pl x) ∈ l)) && okK n f m.pl l k) && allIn l ((movesF n f m.pl (toN (gd l k))).take j))] 4)]) _ _ (List.Sublist.refl _) call92 (by simp [allIn]) (mustV l q c (hA.mono sbt) hlen hsr _ _ n11 n15 fdd)))) ?_ rfl
   rintro _ _ ⟨_, rfl, rfl⟩
   rw [List.take_length]
   refine Af (Bm (Ac (Ab (y_ (Bv (T U) Ak (by omega)) ?_ U))))
   refine y_ (Ae (T U)) (Af ?_) U
   refine Bs (k + 1) ?_ ?_ ⟨atd, trivial⟩ ⟨Aa U, Aa U, Aa U, Aa U, Aa U, Aa U, Aa U, trivial⟩ ?_
   ·show k + 1 ≤ _; omega
   ·first | omega | (simp only []; omega)
   ·simp only [hoks, ← Bool.and_assoc]; exact sbt
  ·refine B7 (A4 (A8 (Ba (Ac (Ah (Ab (y_ (Ai (T U) isAgg4 (by first | exact c_o)) ?_ U)))))))
   refine y_ (Ad (T U)) (Af (Ac (A5 (A6 U (.tmp (Aa U) .nil) ?_)))) U
   have hk3 : k = l.length := by omega
   exact ⟨_, ⟨vbool (by rw [refOk_eq hall2, hk3]), rfl⟩, sbt⟩
end Go.Proofs.YtkdolgnpkjihpaaGreatDoor
namespace Go.Proofs.YtkdolgnpkjihpaaGreatDoor
open _root_.Go.Proofs.Tryz
set_option linter.unusedVariables false
set_option linter.unusedSimpArgs false
theorem leU_or {a b : List UInt8} (h : a ≤ b) : a < b ∨ a = b := by
 by_cases e : a = b
 ·exact .inr e
 ·exact .inl (Std.lt_of_le_of_ne h e)
theorem ltU_of_le_lt {a b c : List UInt8} (h1 : a ≤ b) (h2 : b < c) : a < c := by
 rcases leU_or h1 with h | rfl
 ·exact ltU_trans h h2
 ·exact h2
theorem compact_incrU (l : List (List UInt8)) (h : l.Pairwise (· ≤ ·)) : (Lib.compact l).Pairwise (· < ·) ∧ ∀ x, x ∈ Lib.compact l ↔ x ∈ l := by
 have mono : ∀ (i j : Nat) (hij : i < j) (hj : j < l.length), l[i]'(by omega) ≤ l[j] := fun i j hij hj => List.pairwise_iff_getElem.1 h i j (by omega) hj hij
 unfold Lib.compact Lib.compactUpTo
 refine ⟨?_, fun x => ?_⟩
 ·rw [List.pairwise_map]
  have hr : (List.range l.length).Pairwise (· < ·) := List.pairwise_lt_range
  refine (hr.filter _).imp_of_mem ?_
  intro a b ha hb hab
  simp only [List.mem_filter, List.mem_range] at ha hb
  have hk := hb.2
  unfold Lib.keeps at hk
  simp only [decide_eq_true_eq] at hk
  have hb1 := hb.1
  have e1 : l.toArray[a]! = l[a]'(by omega) := by simp [show a < l.length by omega]
  have e2 : l.toArray[b]! = l[b] := by simp [hb1]
  have e3 : l.toArray[b - 1]! = l[b - 1]'(by omega) := by simp [show b - 1 < l.length by omega]
  rw [e1, e2]
  rcases hk with hk | hk
  ·omega
  ·rw [e2, e3] at hk
   have h1 := mono (b - 1) b (by omega) hb1
   have h3 : l[b - 1]'(by omega) < l[b] := by
    rcases leU_or h1 with h | h
    ·exact h
    ·exact absurd h.symm hk
   by_cases hab' : a = b - 1
   ·subst hab'; exact h3
   ·exact ltU_of_le_lt (mono a (b - 1) (by omega) (by omega)) h3
 ·simp only [List.mem_map, List.mem_filter, List.mem_range]
  constructor
  ·rintro ⟨i, ⟨hi, _⟩, rfl⟩
   rw [show l.toArray[i]! = l[i] by simp [hi]]
   exact List.getElem_mem _
  ·intro hx
   obtain ⟨i, hi, hxi⟩ := List.getElem_of_mem hx
   have key : ∀ (i : Nat) (hi : i < l.length), l[i] = x → ∃ a, (a < l.length ∧ Lib.keeps l.toArray a = true) ∧ l.toArray[a]! = x := by
    intro i
    induction i with
    | zero => intro hi hxi; exact ⟨0, ⟨hi, by simp [Lib.keeps]⟩, by simp [hi, hxi]⟩
    | succ i ih =>
     intro hi hxi
     by_cases hs : l[i]'(by omega) = x
     ·exact ih (by omega) hs
     ·refine ⟨i + 1, ⟨hi, ?_⟩, by simp [hi, hxi]⟩
      unfold Lib.keeps
      simp [hi, show i < l.length by omega]
      intro h; exact hs (by rw [← h, hxi])
   exact key i hi hxi
theorem leU_trans {a b c : List UInt8} (h1 : a ≤ b) (h2 : b ≤ c) : a ≤ c := List.le_trans h1 h2
theorem leU_total (a b : List UInt8) : a ≤ b ∨ b ≤ a := List.le_total a b
theorem Du (l : List ByteArray) : Srt (cptB (srtB l)) ∧ ∀ x, x ∈ cptB (srtB l) ↔ x ∈ l := by
 have hp : (srtU (l.map toL)).Pairwise (· ≤ ·) := by
  have := List.pairwise_mergeSort (le := fun x y : List UInt8 => decide (x ≤ y)) (by intro a b c; simp only [decide_eq_true_eq]; exact leU_trans) (by intro a b; simp only [Bool.or_eq_true, decide_eq_true_eq]; exact leU_total a b) (l.map toL)
  exact this.imp fun h => by simpa using h
 obtain ⟨h1, h2⟩ := compact_incrU _ hp
 have e : cptB (srtB l) = (Lib.compact (srtU (l.map toL))).map ofL := by
  unfold cptB srtB; rw [map_to_of]
 rw [e]
 refine ⟨?_, fun x => ?_⟩
 ·unfold Srt; rw [List.pairwise_map]; exact h1
 ·rw [List.mem_map]
  constructor
  ·rintro ⟨u, hu, rfl⟩
   rw [h2, List.mem_mergeSort, List.mem_map] at hu
   obtain ⟨y, hy, rfl⟩ := hu
   exact hy
  ·intro hx
   exact ⟨toL x, (h2 _).2 (List.mem_mergeSort.2 (List.mem_map_of_mem hx)), rfl⟩
def Re.nms : Re → List ByteArray
 | .emp => []
 | .nod s => [s]
 | .any => []
 | .seq a b => a.nms ++ b.nms
 | .alt a b => a.nms ++ b.nms
 | .star a => a.nms
theorem letF_srt : ∀ e : Re, Srt (letF e)
 | .emp => (Du _).1
 | .nod _ => (Du _).1
 | .any => (Du _).1
 | .seq _ _ => (Du _).1
 | .alt _ _ => (Du _).1
 | .star _ => (Du _).1
theorem letF_mem (x : ByteArray) : ∀ e : Re, x ∈ letF e ↔ x ∈ e.nms
 | .emp => (Du _).2 x
 | .nod _ => (Du _).2 x
 | .any => (Du _).2 x
 | .seq a b => by rw [show letF (.seq a b) = cptB (srtB (letF a ++ letF b)) from rfl, (Du _).2 x, List.mem_append, letF_mem x a, letF_mem x b]; simp [Re.nms]
 | .alt a b => by rw [show letF (.alt a b) = cptB (srtB (letF a ++ letF b)) from rfl, (Du _).2 x, List.mem_append, letF_mem x a, letF_mem x b]; simp [Re.nms]
 | .star a => by rw [show letF (.star a) = cptB (srtB (letF a)) from rfl, (Du _).2 x, letF_mem x a]; rfl
structure NumInv (m : PM) (b order : List Nat) (k : Nat) (rows : List (List Nat)) (acc : List Bool) : Prop where
 ord : OrdOk m b order
 kl : k ≤ order.length
 rl : rows.length = k
 al : acc.length = k
 row : ∀ r ∈ rows, r.length = m.names.length + 1 ∧ ∀ s ∈ r, s < order.length
theorem numK_lt (b tos order : List Nat) : ∀ i, (∀ s ∈ (numK b tos order i).2, s < (numK b tos order i).1.length) ∧ order.length ≤ (numK b tos order i).1.length
 | 0 => ⟨(fun s hs => by cases hs), Nat.le_refl _⟩
 | i + 1 => by
  obtain ⟨h1, h2⟩ := numK_lt b tos order i
  have hm := idx_lt (numK_mem b tos order i)
  rw [numK_idx, List.length_map] at hm
  have hle : (numK b tos order i).1.length ≤ (numK b tos order (i + 1)).1.length := by
   rw [numK_succ]; simp only []; split <;> simp
  refine ⟨fun s hs => ?_, by omega⟩
  rw [show (numK b tos order (i + 1)).2 = (numK b tos order i).2 ++ [idx ((numK b tos order i).1.map (gd b)) (gd b (gd tos i))] from rfl] at hs
  simp only [List.mem_append, List.mem_cons, List.not_mem_nil, or_false] at hs
  rcases hs with hs | rfl
  ·have := h1 s hs; omega
  ·exact hm
theorem numGo_ok {m : PM} (hp : PMok m) {b : List Nat} : ∀ (f k : Nat) (order : List Nat) (rows : List (List Nat)) (acc : List Bool), NumInv m b order k rows acc → 0 < order.length → 200 < f + k →
  0 < (numGo m b f k order rows acc).1.length ∧ (numGo m b f k order rows acc).1.length ≤ m.next.length ∧ (numGo m b f k order rows acc).2.length = (numGo m b f k order rows acc).1.length ∧ ∀ r ∈ (numGo m b f k order rows acc).1, r.length = m.names.length + 1 ∧ ∀ s ∈ r, s < (numGo m b f k order rows acc).1.length
 | 0, k, order, rows, acc, h, _, hf => by
  have h1 := h.ord.few
  have h2 := hp.few
  have := h.kl; omega
 | f + 1, k, order, rows, acc, h, h0, hf => by
  rw [numGo_succ]
  split
  ·rename_i hk
   have hok := h.ord.lt (gd order k) (A1 hk)
   obtain ⟨hr1, hr2⟩ := hp.row (gd m.next (gd order k)) (A1 hok)
   obtain ⟨g1, g2, g3⟩ := h.ord.step hr2 (gd m.next (gd order k)).length (Nat.le_refl _)
   obtain ⟨e1, e2⟩ := numK_lt b (gd m.next (gd order k)) order (gd m.next (gd order k)).length
   refine numGo_ok hp f (k + 1) _ _ _ ⟨g1, by omega, by simp [h.rl], by simp [h.al], fun r hr => ?_⟩ (by omega) (by omega)
   simp only [List.mem_append, List.mem_cons, List.not_mem_nil, or_false] at hr
   rcases hr with hr | rfl
   ·exact ⟨(h.row r hr).1, fun s hs => Nat.lt_of_lt_of_le ((h.row r hr).2 s hs) e2⟩
   ·exact ⟨by rw [g2, hr1], e1⟩
  ·rename_i hk
   have hkk : k = order.length := by have := h.kl; omega
   have h1 := h.ord.few
   have h2 := h.rl
   have h3 := h.al
   refine ⟨by simp only []; omega, by simp only []; omega, by simp only []; omega, fun r hr => ?_⟩
   simp only [] at hr ⊢
   exact ⟨(h.row r hr).1, fun s hs => by have := (h.row r hr).2 s hs; omega⟩
theorem numF_ok {m : PM} (hp : PMok m) (b : List Nat) : PMok (numF m b) := by
 have h0 : NumInv m b [0] 0 [] [] := ⟨⟨by simp, fun s hs => by
  simp only [List.mem_cons, List.not_mem_nil, or_false] at hs
  subst hs; exact hp.some'⟩, Nat.zero_le _, rfl, rfl, fun r hr => by cases hr⟩
 obtain ⟨h1, h2, h3, h4⟩ := numGo_ok hp 201 0 [0] [] [] h0 (by decide) (by omega)
 exact ⟨h1, Nat.le_trans h2 hp.few, h3, h4⟩
theorem leastF_ok {m : PM} (hp : PMok m) : PMok (leastF m) := numF_ok hp _
theorem rawGo_ok {t : Tr} {e : En} {names : List ByteArray} (ht : TrOk t) (hw : Low t) (he : e.first < 2 ^ t.names.length) : ∀ (f k : Nat) (l : List St) (rows : List (List Nat)) (acc : List Bool) (r : List (List Nat) × List Bool), RawInv t e names k l rows acc → rawGo t e names f k l rows acc = some r → PMok ⟨names, r.1, r.2⟩
 | 0, _, _, _, _, _, _, h => by cases h
 | f + 1, k, l, rows, acc, r, hi, h => by
  rw [rawGo_succ] at h
  split at h
  ·rename_i hk
   split at h
   ·cases h
   ·rename_i hf
    exact rawGo_ok ht hw he f (k + 1) _ _ _ r (hi.next ht hw he hk hf) h
  ·rename_i hk
   cases h
   exact hi.done hk
theorem rawF_ok {e : Re} (hl : e.lv ≤ 64) {r : List (List Nat) × List Bool} (h : rawF e = some r) : PMok ⟨letF e, r.1, r.2⟩ := by
 obtain ⟨hx1, hx2, hx3, hx4⟩ := Cx e Dm (by show 0 + e.lv ≤ 64; omega)
 have hxw := add_low e Dm (by show 0 + e.lv ≤ 64; omega) t00_low
 rw [← hx2] at hx3
 exact rawGo_ok hx1 hxw hx3 201 0 _ _ _ r (raw_start _ _ _) h
theorem Cz {e : Re} (hl : e.lv ≤ 64) (h : (buildF leastF e).2 = 0) : PMok (buildF leastF e).1 ∧ Srt (buildF leastF e).1.names := by
 unfold buildF at *
 cases hr : rawF e with
 | none => rw [hr] at h; cases h
 | some r =>
  simp only []
  have := leastF_ok (rawF_ok hl hr)
  exact ⟨⟨this.some', this.few, this.acc, this.row⟩, letF_srt e⟩
theorem build_names {e : Re} (h : (buildF leastF e).2 = 0) : (buildF leastF e).1.names = letF e := by
 unfold buildF at *
 cases hr : rawF e with
 | none => rw [hr] at h; cases h
 | some r => rfl
end Go.Proofs.YtkdolgnpkjihpaaGreatDoor
namespace Go.Proofs.YtkdolgnpkjihpaaGreatDoor
open _root_.Go.Proofs.Tryz
open Go.RowKit
set_option linter.unusedVariables false
set_option linter.unusedSimpArgs false
theorem bd115_0_1 (a0 : Int) (a1 : Int) (w : World) : (Instr.build 115 #[(0, .int .i64 a0), (1, .int .i64 a1)]).run Tryz.prog w = .ok (.agg #[.int .i64 a0, .int .i64 a1]) w := by kernel_rfl
theorem yl_neB {w0 : World} {L : Fm} {H : List (Nat × Obj)} {ty yt : TypeId} {x y : Operand} {a b : Bool} (hx : Ev L x (.bool a)) (hy : Ev L y (.bool b)) : Yl Tryz.prog w0 (.binOp .neq 4 x y yt) ty L H (.bool (a != b)) := Ca U fun b' w => by
 have e : (Op.equal 4 (.bool a) (.bool b)).run Tryz.prog w = .ok (a == b) w := run_equalIn_bool w 9999 4 a b (by kernel_rfl)
 simp [exO, execOp, hx b', hy b', binOp, eqGuard, Sem.run_bind, Result.andThen, e, bne]
def stepsF (a b : PM) (all : List ByteArray) (p : Pl) : List (Pl × ByteArray) := all.map fun s => ((afterF a p.1 s, afterF b p.2 s), s)
def DuOk (a b : PM) (p : Pl) : Prop := p.1 < a.next.length ∧ p.2 < b.next.length
theorem steps_ok {a b : PM} (ha : PMok a) (hb : PMok b) (all : List ByteArray) (p : Pl) (h : DuOk a b p) : ∀ x ∈ stepsF a b all p, DuOk a b x.1 := by
 intro x hx
 unfold stepsF at hx
 obtain ⟨s, _, rfl⟩ := List.mem_map.1 hx
 exact ⟨after_lt ha h.1 s, after_lt hb h.2 s⟩
def difF (a b : PM) (p : Pl) : Bool := gd a.acc p.1 != gd b.acc p.2
theorem steps_get {a b : PM} {all : List ByteArray} {p : Pl} {i : Nat} (h : i < all.length) : (stepsF a b all p)[i]? = some ((afterF a p.1 (gd all i), afterF b p.2 (gd all i)), gd all i) := by
 unfold stepsF; rw [List.getElem?_map, C7 h]; rfl
theorem cells2_0 {w0 : World} {H : List (Nat × Obj)} {n : Nat} {a b : Int} {t : TypeId} (hf : Fnd H n (Cl [.int .i64 a, .int .i64 b] t)) : Cell w0 H ⟨n, 0 + (0 : Int).toNat * 1, none⟩ (.int .i64 a) := Cr hf U
theorem cells2_1 {w0 : World} {H : List (Nat × Obj)} {n : Nat} {a b : Int} {t : TypeId} (hf : Fnd H n (Cl [.int .i64 a, .int .i64 b] t)) : Cell w0 H ⟨n, 0 + (1 : Int).toNat * 1, none⟩ (.int .i64 b) := Cr hf U
theorem eq1_s {w0 : World} {H0 : List (Nat × Obj)} (ma mb : Mc) (ha : McOk w0 H0 ma) (hb : McOk w0 H0 mb) (pa : PMok ma.pl) (pb : PMok mb.pl) (b7 b9 : Nat) (ca cb : List Value) (h7 : Fnd H0 b7 (Cl ca 29)) (h9 : Fnd H0 b9 (Cl cb 29)) (eca : ca = encMc ma) (ecb : cb = encMc mb) (sa : Srt ma.names) (sb : Srt mb.names) (la : ma.names.length ≤ 4611686018427387903) (lb : mb.names.length ≤ 4611686018427387903) (all : List ByteArray) (q : Option Addr) (c : Nat) (hA : Arr w0 H0 q 1 encS all) (hal : all.length ≤ 1000000) (b11 : Nat) (h11 : Fnd H0 b11 (Cl [.slice q all.length c] 25)) :
  NextS w0 H0 72 [.pointer (some ⟨b11, 0, none⟩), .pointer (some ⟨b7, 0, none⟩), .pointer (some ⟨b9, 0, none⟩)] (DuOk ma.pl mb.pl) (stepsF ma.pl mb.pl all) := by
 subst eca; subst ecb
 intro p hpd vf vcap S M0 H hH0 hvf hS0 hv
 show FSpec Tryz.prog w0 72 #[.agg (encPl p).toArray, .func (.func vf) #[] vcap.toArray, .pointer (some ⟨b11, 0, none⟩), .pointer (some ⟨b7, 0, none⟩), .pointer (some ⟨b9, 0, none⟩)] (M0 ++ H) _
 have hra : ma.pl.next.length = ma.rows.length := List.length_map ..
 have hrb : mb.pl.next.length = mb.rows.length := List.length_map ..
 have hp1 : p.1 < ma.rows.length := by have := hpd.1; omega
 have hp2 : p.2 < mb.rows.length := by have := hpd.2; omega
 refine A7 Tryz.func72 U ntmps72 U (Ah (Ab (e_ (Bf (T U) cs_) ?_ U)))
 rintro _ _ ⟨n5, rfl, rfl⟩
 refine Af (Ac (Ah (Ab (y_ (Ai (T U) isAgg25 (by first | exact c_o | exact c_o (hf := h11.mono (hH0.trans (by exact sbt))))) ?_ U))))
 refine y_ (Bw (T U) runUnderlying25) (y_ (Ae Ak) (Af (Ac (A2 ?_))) U) U
 refine Cn (X := Nat × List (Nat × Obj)) (V := fun ⟨i, M⟩ => [(11, .int .i64 (i : Nat))]) (C := [(1, _), (3, _), (4, _), (5, _), (9, _), (10, _)]) (G := fun ⟨i, M⟩ => (n5, Cl (encPl p) 115) :: (M ++ H)) (φ := fun ⟨i, M⟩ => i ≤ all.length ∧ S i M) (μ := fun ⟨i, M⟩ => all.length - i) (x0 := (0, M0)) ?_ ⟨Aa rfl, Aa rfl, Aa rfl, Aa rfl, Aa rfl, Aa rfl, trivial⟩ ⟨atd, trivial⟩ sb0 ?_
 ·exact ⟨Nat.zero_le _, hS0⟩
 rintro ⟨i, M⟩ ⟨hi, hS⟩
 refine Ah (Ab (y_ (B4 (T U) (T U)) (Af (Ac (Ah ?_))) U))
 first | refine Au (Aa U) (fun c12 => ?_) (fun c12 => ?_) | refine Bb (Aa U) (fun c12 => ?_) (fun c12 => ?_)
 ·refine A9 (Ac (Ah (A2 (Ah (Ab (y_ (Bh (T U) (T U) runUnderlying25 sizeOf9 (by omega) (by first | exact rfl | exact hA.b (i := i) (by omega))) ?_ U))))))
  refine y_ (Ai (T U) isAgg9 (by first | exact c_o | exact cell1 ((hA.mono (hH0.trans (by exact sbt))).cs (i := i) (by omega)))) ?_ U
  refine y_ (Ad (T U)) (Af (Ac (Cv 13 [(0, true), (1, true), (2, true), (3, true), (4, true), (5, true), (6, true), (7, true), (8, true), (9, true), (10, true), (11, true), (12, true)] _ mixd (by kernel_rfl) sb0 ?_))) U
  refine o_y U (Ae (T U)) (o_y U (Am (T U) isAgg29 sizeOf29 U (by first | exact cs_m (cells_own h7) (hH0.trans (by exact sbt)) | exact Bc)) ?_ U Ag) U Ag
  refine o_y U (Dk (T U) Ak runUnderlying115 sizeOf3 (by omega)) ?_ U Ag
  refine o_y U (Ai (T U) isAgg3 (by first | exact c_o | exact cells2_0 fdd)) ?_ U Ag
  refine o_y U (Ae (T U)) (o_y U (Aq (.cons (T U) (.cons (T U) (.cons (T U) .nil))) call69 (fun H' hs => after_s ma (ha.mono ((hH0.trans (by exact sbt)).trans hs)) pa sa la p.1 hp1 (gd all i))) ?_ U Ag) U Ag
  refine o_y U (Am (T U) isAgg29 sizeOf29 U (by first | exact cs_m (cells_own h9) (hH0.trans (by exact sbt)) | exact Bc)) ?_ U Ag
  refine o_y U (Dk (T U) Ak runUnderlying115 sizeOf3 (by omega)) ?_ U Ag
  refine o_y U (Ai (T U) isAgg3 (by first | exact c_o | exact cells2_1 fdd)) ?_ U Ag
  refine o_y U (Ae (T U)) (o_y U (Aq (.cons (T U) (.cons (T U) (.cons (T U) .nil))) call69 (fun H' hs => after_s mb (hb.mono ((hH0.trans (by exact sbt)).trans hs)) pb sb lb p.2 hp2 (gd all i))) ?_ U Ag) U Ag
  refine o_y U (Bq (.cons (T U) (.cons (T U) .nil)) (bd115_0_1 _ _)) (o_y U (Ae (T U)) (B5 U (e_ (C4 (T U) (.cons (T U) (.cons (T U) .nil)) hvf (Bn M (by repeat (first | exact LocL.h | apply LocL.t | apply LocL.a)) (hv i ((afterF ma.pl p.1 (gd all i), afterF mb.pl p.2 (gd all i)), gd all i) M _ (steps_get (by omega)) (by exact sbt) hS))) ?_ U)) U Ag) U Ag
  rintro _ _ ⟨M2, hS2, rfl⟩
  refine Af (Bm (Ac (Bt [(1, _), (3, _), (4, _), (5, _), (9, _), (10, _), (11, _)] ⟨Aa U, Aa U, Aa U, Aa U, Aa U, Aa U, Aa U, trivial⟩ (Ab (y_ (Bv (T U) Ak (by omega)) ?_ U)))))
  refine y_ (Ae (T U)) (Af ?_) U
  refine Bs ((i + 1, M2)) ?_ ?_ ⟨atd, trivial⟩ ⟨Aa U, Aa U, Aa U, Aa U, Aa U, Aa U, trivial⟩ ?_
  ·exact ⟨by omega, hS2⟩
  ·first | omega | (simp only []; omega)
  ·exact sbt
 ·refine B7 (A4 (A8 (Ba (C8 U .nil ?_))))
  have hi2 : i = (stepsF ma.pl mb.pl all p).length := by unfold stepsF; rw [List.length_map]; omega
  rw [hi2] at hS
  exact ⟨_, ⟨M, hS, rfl⟩, sbt⟩
theorem eq2_s {w0 : World} {H0 : List (Nat × Obj)} (ma mb : Mc) (ha : McOk w0 H0 ma) (hb : McOk w0 H0 mb) (pa : PMok ma.pl) (pb : PMok mb.pl) (b7 b9 : Nat) (ca cb : List Value) (h7 : Fnd H0 b7 (Cl ca 29)) (h9 : Fnd H0 b9 (Cl cb 29)) (eca : ca = encMc ma) (ecb : cb = encMc mb) : FoundS w0 H0 73 [.pointer (some ⟨b7, 0, none⟩), .pointer (some ⟨b9, 0, none⟩)] (DuOk ma.pl mb.pl) (difF ma.pl mb.pl) (fun _ M => M = []) := by
 subst eca; subst ecb
 rintro p hpd qq _ H hH0 _ rfl
 show FSpec Tryz.prog w0 73 #[.agg (encPl p).toArray, .pointer (some ⟨b7, 0, none⟩), .pointer (some ⟨b9, 0, none⟩)] H _
 have hra : ma.pl.next.length = ma.rows.length := List.length_map ..
 have hrb : mb.pl.next.length = mb.rows.length := List.length_map ..
 have hp1 : p.1 < ma.acc.length := by have := hpd.1; have := pa.acc; rw [show ma.pl.acc = ma.acc from rfl] at this; omega
 have hp2 : p.2 < mb.acc.length := by have := hpd.2; have := pb.acc; rw [show mb.pl.acc = mb.acc from rfl] at this; omega
 refine A7 Tryz.func73 U ntmps73 U (Ah (Ab (e_ (Bf (T U) cs_) ?_ U)))
 rintro _ _ ⟨n3, rfl, rfl⟩
 refine y_ (Ad Ak) (Af (Ac (Ah (Cv 14 [(0, true), (1, true), (2, true), (3, true), (4, true), (5, true), (6, true), (7, true), (8, true), (9, true), (10, true), (11, true), (12, true), (13, true)] _ mixd (by kernel_rfl) sb0 ?_)))) U
 refine o_y U (Bk (T U) Dn) (o_y U (Ai (T U) isAgg27 (by first | exact c_o | exact c_o (hf := h7.mono (hH0.trans (by exact sbt))))) ?_ U Ag) U Ag
 refine o_y U (Dk (T U) Ak runUnderlying115 sizeOf3 (by omega)) ?_ U Ag
 refine o_y U (Ai (T U) isAgg3 (by first | exact c_o | exact cells2_0 fdd)) ?_ U Ag
 refine o_y U (Bh (T U) (T U) runUnderlying27 sizeOf4 (by omega) (by first | exact rfl | exact ha.a3.b (i := p.1) hp1 | exact hb.a3.b (i := p.2) hp2)) ?_ U Ag
 refine o_y U (Ai (T U) isAgg4 (by first | exact c_o | exact cell1 ((ha.a3.mono (hH0.trans (by exact sbt))).cs (i := p.1) hp1))) ?_ U Ag
 refine o_y U (Bk (T U) Dn) (o_y U (Ai (T U) isAgg27 (by first | exact c_o | exact c_o (hf := h9.mono (hH0.trans (by exact sbt))))) ?_ U Ag) U Ag
 refine o_y U (Dk (T U) Ak runUnderlying115 sizeOf3 (by omega)) ?_ U Ag
 refine o_y U (Ai (T U) isAgg3 (by first | exact c_o | exact cells2_1 fdd)) ?_ U Ag
 refine o_y U (Bh (T U) (T U) runUnderlying27 sizeOf4 (by omega) (by first | exact rfl | exact ha.a3.b (i := p.1) hp1 | exact hb.a3.b (i := p.2) hp2)) ?_ U Ag
 refine o_y U (Ai (T U) isAgg4 (by first | exact c_o | exact cell1 ((hb.a3.mono (hH0.trans (by exact sbt))).cs (i := p.2) hp2))) ?_ U Ag
 refine o_y U (yl_neB (T U) (T U)) (o_y U (Ad (T U)) (B5 U (Af (Ac (A5 (A6 U (.tmp (Aa U) .nil) ?_))))) U Ag) U Ag
 exact ⟨_, ⟨[], ⟨rfl, rfl⟩, rfl⟩, sbt⟩
end Go.Proofs.YtkdolgnpkjihpaaGreatDoor
namespace Go.Proofs.YtkdolgnpkjihpaaGreatDoor
open _root_.Go.Proofs.Tryz
open Go.RowKit
set_option linter.unusedVariables false
set_option linter.unusedSimpArgs false
theorem bd115_z  (w : World) : (Instr.build 115 #[]).run Tryz.prog w = .ok (.agg #[.int .i64 0, .int .i64 0]) w := by kernel_rfl
theorem bd24_0_2 (a0 : Int) (a1 : Option Addr) (a1n a1c : Nat) (w : World) : (Instr.build 24 #[(0, .int .i64 a0), (2, .slice a1 a1n a1c)]).run Tryz.prog w = .ok (.agg #[.int .i64 a0, .string ⟨#[]⟩, .slice a1 a1n a1c]) w := by kernel_rfl
theorem B2 (a0 : Int) (a1 : ByteArray) (a2 : Option Addr) (a2n a2c : Nat) (a3 : Int) (a4 : ByteArray) (a5 : Option Addr) (a5n a5c : Nat) (w : World) : (Instr.buildSlice 22 2 #[(0, .agg #[.int .i64 a0, .string a1, .slice a2 a2n a2c]), (1, .agg #[.int .i64 a3, .string a4, .slice a5 a5n a5c])]).run Tryz.prog w = .ok (.slice (some ⟨w.heap.size, 0, none⟩) 2 2) (w.alloc (Cl [.int .i64 a0, .string a1, .slice a2 a2n a2c, .int .i64 a3, .string a4, .slice a5 a5n a5c] 24)) := by kernel_rfl
theorem arrRx2 {w0 : World} {H : List (Nat × Obj)} {n : Nat} {a b : Rxm} {t : TypeId} (hf : Fnd H n (Cl (encRx a ++ encRx b) t)) : Arr w0 H (some ⟨n, 0, none⟩) 3 encRx [a, b] := fun i x hi => by
 refine ⟨rfl, fun j v hj => ?_⟩
 match i, hi with
 | 0, hi =>
  have : a = x := by simpa using hi
  subst this
  refine Cr hf ?_
  rw [List.getElem?_append_left (by have := (List.getElem?_eq_some_iff.1 hj).1; show 0 + 0 * 3 + j < _; omega)]
  show (encRx a)[0 + 0 * 3 + j]? = some v
  rw [show (0 : Nat) + 0 * 3 + j = j by omega]; exact hj
 | 1, hi =>
  have : b = x := by simpa using hi
  subst this
  refine Cr hf ?_
  have e : (encRx a).length = 3 := rfl
  show (encRx a ++ encRx b)[0 + 1 * 3 + j]? = some v
  rw [List.getElem?_append_right (by omega), e, show 0 + 1 * 3 + j - 3 = j by omega]; exact hj
def allF (a b : Re) : List ByteArray := letF (.alt a b) ++ [otherF (letF (.alt a b))]
def eqR (a b : Re) : List ByteArray × Bool × List Pl := srF (stepsF (buildF leastF a).1 (buildF leastF b).1 (allF a b)) (difF (buildF leastF a).1 (buildF leastF b).1) ((buildF leastF a).1.next.length * (buildF leastF b).1.next.length) (0, 0)
def equalF (a b : Re) : List ByteArray × Bool × Int := if (buildF leastF a).2 = 0 ∧ (buildF leastF b).2 = 0 then ((eqR a b).1, !(eqR a b).2.1, 0) else ([], false, 2)
theorem equal_s {w0 : World} {H : List (Nat × Obj)} (m1 m2 : Rxm) (ea eb : Re) (hIa : Is m1 ea) (hIb : Is m2 eb) (hMa : RxM w0 H m1) (hMb : RxM w0 H m2) (hla : ea.lv ≤ 32) (hlb : eb.lv ≤ 32) :
  FSpec Tryz.prog w0 23 #[.agg (encRx m1).toArray, .agg (encRx m2).toArray] H (fun v H' => ∃ d : Sl, (v = .tuple #[slV d (equalF ea eb).1.length, .bool (equalF ea eb).2.1, .int .i64 (equalF ea eb).2.2] ∧ SlOk d (equalF ea eb).1.length 1) ∧ H' = slH d ((equalF ea eb).1.flatMap encS) 9 ++ H) := by
 refine A7 Tryz.func23 U ntmps23 U ?_
 have hla2 : ea.lv ≤ 64 := by omega
 have hlb2 : eb.lv ≤ 64 := by omega
 have hlab : (Re.alt ea eb).lv ≤ 64 := by simp only [Re.lv]; omega
 have hln := letF_few hlab
 refine Ah (Ab (e_ (Bf (T U) cs_) ?_ U))
 rintro _ _ ⟨n2, rfl, rfl⟩
 refine e_ (Bf (T U) cs_) ?_ U
 rintro _ _ ⟨n3, rfl, rfl⟩
 refine y_ (Ad Ak) (y_ (Ad Ak) (y_ (Ad Ak) (Af (Ac (Ah (Ab (y_ (Am (T U) isAgg24 sizeOf24 U (by first | exact Bc)) ?_ U))))) U) U) U
 refine e_ (Av (.cons (T U) .nil) call12 (buildL_s _ m1 ea hIa (hMa.mono sbt) hla2)) ?_ U
 rintro _ _ ⟨y1, ⟨rfl, hy1⟩, rfl⟩
 refine y_ (Ae (T U)) (y_ (Ay (T U) U) (y_ (Ay (T U) U) (e_ (Ap zeroValue29 cs_) ?_ U) U) U) U
 rintro _ _ ⟨n7, rfl, rfl⟩
 first | refine A0 (As (T U) (T U) sizeOf29) U Ag ?_
 rintro _ _ ⟨rfl, rfl⟩
 refine y_ (Ad (T U)) (Af (Ac (Ah (Ab (y_ (Am (T U) isAgg24 sizeOf24 U (by first | exact Bc)) ?_ U))))) U
 refine e_ (Av (.cons (T U) .nil) call12 (buildL_s _ m2 eb hIb (hMb.mono sbt) hlb2)) ?_ U
 rintro _ _ ⟨y2, ⟨rfl, hy2⟩, rfl⟩
 refine y_ (Ae (T U)) (y_ (Ay (T U) U) (y_ (Ay (T U) U) (e_ (Ap zeroValue29 cs_) ?_ U) U) U) U
 rintro _ _ ⟨n9, rfl, rfl⟩
 first | refine A0 (As (T U) (T U) sizeOf29) U Ag ?_
 rintro _ _ ⟨rfl, rfl⟩
 refine y_ (Ad (T U)) (Af (Ac (Ah (Ah (Ab (y_ (Ae (T U)) (y_ (C3 (T U) Ak) (y_ (Ae (T U)) ?_ U) U) U)))))) U
 first | refine Ci (s := 26) (Aa U) (fun c26 => ?_) (fun c26 => ?_) | refine C1 (s := 26) (Aa U) (fun c26 => ?_) (fun c26 => ?_)
 ·have hbad : ¬ ((buildF leastF ea).2 = 0 ∧ (buildF leastF eb).2 = 0) := fun h => c26 h.1
  refine Cy (Cy (y_ (Az (T U) Ak) (Af (Ac (Bt [(2, _), (3, _), (7, _), (9, _), (29, _)] ⟨Aa U, Aa U, Aa U, Aa U, Aa U, trivial⟩ ?_))) U) U U U U) U U U U
  first | refine Bu (Aa U) ?_ | refine Bu (Aj (Aa U) (vbool (decide_eq_true c29))) ?_
  refine Ah (Ab (y_ (Ad Ak) (y_ (Ad Ak) (y_ (Ad Ak) (Af (Ac (A5 (Ao (A6 U (.tmp (Aa U) (.tmp (Aa U) (.tmp (Aa U) .nil))) ?_))))) U) U) U))
  have he : equalF ea eb = ([], false, 2) := if_neg hbad
  rw [he]; exact ⟨_, ⟨.nil, ⟨rfl, rfl⟩, rfl⟩, sbt⟩
 ·refine Bg (Ae (T U)) U (Ax U U (Aa U)) (Bg (C3 (T U) Ak) U (Ax U U (Aa U)) (y_ (Be (T U) (T U)) (Af (Ac (Bt [(2, _), (3, _), (7, _), (9, _), (29, _)] ⟨Aa U, Aa U, Aa U, Aa U, Aa U, trivial⟩ ?_))) U))
  first | refine Au (Aa U) (fun c29 => ?_) (fun c29 => ?_) | refine Bb (Aa U) (fun c29 => ?_) (fun c29 => ?_)
  ·have hbad : ¬ ((buildF leastF ea).2 = 0 ∧ (buildF leastF eb).2 = 0) := fun h => by first | exact c26 h.1 | exact c29 h.2
   refine Ah (Ab (y_ (Ad Ak) (y_ (Ad Ak) (y_ (Ad Ak) (Af (Ac (A5 (Ao (A6 U (.tmp (Aa U) (.tmp (Aa U) (.tmp (Aa U) .nil))) ?_))))) U) U) U))
   have he : equalF ea eb = ([], false, 2) := if_neg hbad
   rw [he]; exact ⟨_, ⟨.nil, ⟨rfl, rfl⟩, rfl⟩, sbt⟩
  ·have hea : (buildF leastF ea).2 = 0 := Classical.not_not.1 c26
   have heb : (buildF leastF eb).2 = 0 := Classical.not_not.1 c29
   have hma : (mcOf (buildF leastF ea).1.names (slQ y1.1) (slC y1.1) y1.2 (buildF leastF ea).1.acc).pl = (buildF leastF ea).1 := mcOf_pl hy1.2
   have hmb : (mcOf (buildF leastF eb).1.names (slQ y2.1) (slC y2.1) y2.2 (buildF leastF eb).1.acc).pl = (buildF leastF eb).1 := mcOf_pl hy2.2
   refine A9 (Ac (Ah (Ab (y_ (Am (T U) isAgg24 sizeOf24 U (by first | exact Bc)) ?_ U))))
   refine y_ (Am (T U) isAgg24 sizeOf24 U (by first | exact Bc)) ?_ U
   refine e_ (An (.cons (T U) (.cons (T U) .nil)) (B2 _ _ _ _ _ _ _ _ _ _)) ?_ U
   rintro _ _ ⟨n32, rfl, rfl⟩
   refine y_ (Bq (.cons Ak (.cons (T U) .nil)) (bd24_0_2 _ _ _ _)) ?_ U
   refine e_ (Av (.cons (T rfl) .nil) call47 (letters_s (m := .mk 5 ⟨#[]⟩ (some ⟨n32, 0, none⟩) 2 [m1, m2]) (Is.alt hIa hIb) hlab _ (.mk (arrRx2 fdd) (fun a ha => by simp only [List.mem_cons, List.not_mem_nil, or_false] at ha; rcases ha with rfl | rfl <;> first | exact hMa.mono sbt | exact hMb.mono sbt) (by decide) (by simp)))) ?_ rfl
   rintro _ _ ⟨dl, ⟨rfl, hdl⟩, rfl⟩
   refine e_ (Ap zeroValue25 cs_) ?_ U
   rintro _ _ ⟨n11, rfl, rfl⟩
   first | refine A0 (As (T U) (T U) sizeOf25) U Ag ?_ | refine A0 (B6 (T U) (T U) U sizeOf25) U Ag ?_ | refine A0 (By (T U) (T U) U sizeOf25) U Ag ?_
   rintro _ _ ⟨rfl, rfl⟩
   refine Af (Ac (Ah (Cv 4 [(0, true), (1, true), (2, true), (3, false)] _ mixd (by kernel_rfl) sb0 ?_)))
   refine o_y U (Ai (T U) isAgg25 (by first | exact c_o)) ?_ U Ag
   refine o_y U (Ai (T U) isAgg25 (by first | exact c_o)) ?_ U Ag
   refine o_y U (Aq (.cons (T U) .nil) call19 (fun H' hs => other_s (letF (.alt ea eb)) _ _ ((Bz (X := H) (enc := encS) (sz := 1) (e := 9) (l := (letF (.alt ea eb))) (fun _ => rfl) hdl).mono (List.Sublist.trans sbt hs)) (by omega))) ?_ U Ag
   refine o_e U (An (.cons (T U) .nil) (bs25_1_0 _)) ?_ U Ag
   rintro _ _ ⟨n38, rfl, rfl⟩
   refine ⟨sbt, (B5 U (e_ (Bi (otherF (letF (.alt ea eb))) (by' := 16) (by repeat (first | exact LocL.h | apply LocL.t | apply LocL.a)) (T U) (T U) runUnderlying25 runUnderlying25 sizeOf9 typeInfo9 U zeroValue9 U (fun _ => rfl) U hdl (by decide) (by omega)) ?_ U))⟩
   rintro _ _ ⟨da, rfl, hda, rfl⟩
   have hal : (allF ea eb).length = (letF (.alt ea eb)).length + 1 := by unfold allF; simp
   have hdall : SlOk da (allF ea eb).length 1 := by rw [hal]; exact hda
   first | refine A0 (As (T U) (T U) sizeOf25) U Ag ?_ | refine A0 (B6 (T U) (T U) U sizeOf25) U Ag ?_ | refine A0 (By (T U) (T U) U sizeOf25) U Ag ?_
   rintro _ _ ⟨rfl, rfl⟩
   refine Af (Ac (Ah (Ab (y_ (Bq .nil (bd115_z)) (y_ (Cc (.cons (T U) (.cons (T U) (.cons (T U) .nil)))) (y_ (Cc (.cons (T U) (.cons (T U) .nil))) ?_ U) U) U))))
   refine e_ (Av (.cons (T U) (.cons (T U) (.cons (T U) .nil))) call71 (searchS_s (H0 := _) 72 73 [.pointer (some ⟨n11, 0, none⟩), .pointer (some ⟨n7, 0, none⟩), .pointer (some ⟨n9, 0, none⟩)] [.pointer (some ⟨n7, 0, none⟩), .pointer (some ⟨n9, 0, none⟩)] (DuOk (mcOf (buildF leastF ea).1.names (slQ y1.1) (slC y1.1) y1.2 (buildF leastF ea).1.acc).pl (mcOf (buildF leastF eb).1.names (slQ y2.1) (slC y2.1) y2.2 (buildF leastF eb).1.acc).pl) (stepsF (mcOf (buildF leastF ea).1.names (slQ y1.1) (slC y1.1) y1.2 (buildF leastF ea).1.acc).pl (mcOf (buildF leastF eb).1.names (slQ y2.1) (slC y2.1) y2.2 (buildF leastF eb).1.acc).pl (allF ea eb)) (difF (mcOf (buildF leastF ea).1.names (slQ y1.1) (slC y1.1) y1.2 (buildF leastF ea).1.acc).pl (mcOf (buildF leastF eb).1.names (slQ y2.1) (slC y2.1) y2.2 (buildF leastF eb).1.acc).pl) (fun _ M => M = []) ((mcOf (buildF leastF ea).1.names (slQ y1.1) (slC y1.1) y1.2 (buildF leastF ea).1.acc).pl.next.length * (mcOf (buildF leastF eb).1.names (slQ y2.1) (slC y2.1) y2.2 (buildF leastF eb).1.acc).pl.next.length) (0, 0) [] call72 call73 (eq1_s (mcOf (buildF leastF ea).1.names (slQ y1.1) (slC y1.1) y1.2 (buildF leastF ea).1.acc) (mcOf (buildF leastF eb).1.names (slQ y2.1) (slC y2.1) y2.2 (buildF leastF eb).1.acc) (mcOf_mono hy1.2 (H := H) (by exact sbt) ((Bz (X := H) (enc := encS) (sz := 1) (e := 9) (l := (buildF leastF ea).1.names) (fun _ => rfl) hy1.1).mono sbt)) (mcOf_mono hy2.2 (H := H) (by exact sbt) ((Bz (X := H) (enc := encS) (sz := 1) (e := 9) (l := (buildF leastF eb).1.names) (fun _ => rfl) hy2.1).mono sbt)) (by rw [hma]; exact (Cz hla2 hea).1) (by rw [hmb]; exact (Cz hlb2 heb).1) n7 n9 _ _ fdd fdd (mcOf_enc _ _ _ _ _).symm (mcOf_enc _ _ _ _ _).symm (by show Srt (buildF leastF ea).1.names; exact (Cz hla2 hea).2) (by show Srt (buildF leastF eb).1.names; exact (Cz hlb2 heb).2) (by show (buildF leastF ea).1.names.length ≤ _; rw [build_names hea]; have := letF_few hla2; omega) (by show (buildF leastF eb).1.names.length ≤ _; rw [build_names heb]; have := letF_few hlb2; omega) (allF ea eb) _ _ ((Bz (X := H) (enc := encS) (sz := 1) (e := 9) (l := allF ea eb) (fun _ => rfl) hdall).mono sbt) (by rw [hal]; omega) n11 (by rw [hal]; repeat (first | exact A3 | refine Al ?_ | refine Ar ?_))) (eq2_s (mcOf (buildF leastF ea).1.names (slQ y1.1) (slC y1.1) y1.2 (buildF leastF ea).1.acc) (mcOf (buildF leastF eb).1.names (slQ y2.1) (slC y2.1) y2.2 (buildF leastF eb).1.acc) (mcOf_mono hy1.2 (H := H) (by exact sbt) ((Bz (X := H) (enc := encS) (sz := 1) (e := 9) (l := (buildF leastF ea).1.names) (fun _ => rfl) hy1.1).mono sbt)) (mcOf_mono hy2.2 (H := H) (by exact sbt) ((Bz (X := H) (enc := encS) (sz := 1) (e := 9) (l := (buildF leastF eb).1.names) (fun _ => rfl) hy2.1).mono sbt)) (by rw [hma]; exact (Cz hla2 hea).1) (by rw [hmb]; exact (Cz hlb2 heb).1) n7 n9 _ _ fdd fdd (mcOf_enc _ _ _ _ _).symm (mcOf_enc _ _ _ _ _).symm) (by rw [hma, hmb]; exact fun p hpp => steps_ok (Cz hla2 hea).1 (Cz hlb2 heb).1 (allF ea eb) p hpp) (fun l h1 h2 => grid_few h1 h2) (by rw [hma, hmb]; exact Nat.le_trans (Nat.mul_le_mul (Cz hla2 hea).1.few (Cz hlb2 heb).1.few) (by decide)) (by rw [hma, hmb]; exact ⟨(Cz hla2 hea).1.some', (Cz hlb2 heb).1.some'⟩) U (List.Sublist.refl _))) ?_ U
   rintro _ _ ⟨⟨d, _⟩, ⟨rfl, hd, rfl⟩, rfl⟩
   refine y_ (Ae (T U)) (y_ (Ay (T U) U) (y_ (Ay (T U) U) (y_ (Ad (T U)) (y_ (Ad (T U)) (Af (Ac (Bt [(12, _), (13, _)] ⟨Aa U, Aa U, trivial⟩ (Ah (Ab (y_ (Ae (T U)) (y_ (Ae (T U)) ?_ U) U)))))) U) U) U) U) U
   first | refine Bg (Ct (T U)) U Ag ?_ | refine Bg (C2 (T U)) U Ag ?_
   refine y_ (Ad (T U)) (y_ (Ad (T U)) (y_ (Ad Ak) (Af (Ac (A5 (A6 U (.tmp (Aa U) (.tmp (Aa U) (.tmp (Aa U) .nil))) ?_)))) U) U) U
   have he : equalF ea eb = ((eqR ea eb).1, !(eqR ea eb).2.1, 0) := if_pos ⟨hea, heb⟩
   rw [he]
   unfold eqR
   rw [← hma, ← hmb]
   exact ⟨_, ⟨d, ⟨rfl, hd⟩, rfl⟩, sbt⟩
end Go.Proofs.YtkdolgnpkjihpaaGreatDoor
namespace Go.Proofs.YtkdolgnpkjihpaaGreatDoor
open _root_.Go.Proofs.Tryz
open Go.RowKit
set_option linter.unusedVariables false
set_option linter.unusedSimpArgs false
structure RowI where
 q : Option Addr
 c : Nat
 l : List Int
instance : Inhabited RowI := ⟨⟨none, 0, []⟩⟩
structure Mi where
 names : List ByteArray
 rows : List RowI
 acc : List Bool
 q1 : Option Addr
 c1 : Nat
 q2 : Option Addr
 c2 : Nat
 q3 : Option Addr
 c3 : Nat
abbrev encRI (r : RowI) : List Value := [.slice r.q r.l.length r.c]
abbrev encMi (m : Mi) : List Value := [.slice m.q1 m.names.length m.c1, .slice m.q2 m.rows.length m.c2, .slice m.q3 m.acc.length m.c3]
structure MiOk (w0 : World) (H : List (Nat × Obj)) (m : Mi) : Prop where
 a1 : Arr w0 H m.q1 1 encS m.names
 a2 : Arr w0 H m.q2 1 encRI m.rows
 a3 : Arr w0 H m.q3 1 encB1 m.acc
 r : ∀ r ∈ m.rows, Arr w0 H r.q 1 encI r.l
 l1 : m.names.length ≤ 1048576
 l2 : m.rows.length ≤ 1048576
 l3 : ∀ r ∈ m.rows, r.l.length ≤ 1048576
def badTo (n : Nat) (s : Int) : Bool := decide (s < 0) || decide ((n : Int) ≤ s)
def badRow (k n : Nat) (l : List Int) : Bool := decide (¬ (l.length : Int) = (k : Int) + 1) || l.any (badTo n)
def isSrt (names : List ByteArray) : Bool := decide (∀ i, i < names.length → 0 < i → ¬ toL (gd names i) < toL (gd names (i - 1)))
def chkI (m : Mi) : Bool := !(decide (m.rows.length = 0) || decide (200 < m.rows.length) || decide (¬ m.acc.length = m.rows.length) || !isSrt m.names || decide (¬ (cptB m.names).length = m.names.length)) && !(m.rows.any fun r => badRow m.names.length m.rows.length r.l)
theorem any_of {α : Type} [Inhabited α] {l : List α} {f : α → Bool} {i : Nat} (hi : i < l.length) (h : f (gd l i) = true) : l.any f = true := List.any_eq_true.2 ⟨_, A1 hi, h⟩
theorem any_no {α : Type} [Inhabited α] {l : List α} {f : α → Bool} (h : ∀ j, j < l.length → f (gd l j) = false) : l.any f = false := by
 rw [List.any_eq_false]
 intro x hx
 obtain ⟨j, hj, e⟩ := List.getElem_of_mem hx
 have := h j hj
 rw [Bj hj, e] at this
 rw [this]; decide
theorem c66_s {w0 : World} {H : List (Nat × Obj)} (s : Int) (n b : Nat) (hb : Fnd H b (Cl [.int .i64 (n : Int)] 3)) :
  FSpec Tryz.prog w0 66 #[.int .i64 s, .pointer (some ⟨b, 0, none⟩)] H (Still (.bool (badTo n s)) H) := by
 refine A7 Tryz.func66 U ntmps66 U (Ah (Ab (y_ (Ad Ak) (Af (Ac (Ah (Ab (y_ (Ae (T U)) (y_ (B4 (T U) Ak) (y_ (Ae (T U)) ?_ U) U) U))))) U)))
 first | refine Ci (s := 6) (Aa U) (fun c6 => ?_) (fun c6 => ?_) | refine C1 (s := 6) (Aa U) (fun c6 => ?_) (fun c6 => ?_)
 ·refine Cy (Cy (Cy (y_ (Az (T U) Ak) (y_ (Ad (T U)) (Af (Ac (A5 (A6 U (.tmp (Aa U) .nil) (⟨_, ⟨vbool ?_, rfl⟩, sbt⟩))))) U) U) U U U U) U U U U) U U U U
  unfold badTo
  first | (rw [decide_eq_true (show s < 0 by omega)]; rfl) | (rw [decide_eq_false (show ¬ s < 0 by omega)]; rfl)
 ·refine Bg (Ae (T U)) U (Ax U U (Aa U)) (Bg (Ai (T U) isAgg3 (by first | exact c_o | exact c_o (hf := hb))) U (Ax U U (Aa U)) ?_)
  refine Bg (Ds (T U) (T U)) U (Ax U U (Aa U)) (y_ (Be (T U) (T U)) (y_ (Ad (T U)) (Af (Ac (A5 (A6 U (.tmp (Aa U) .nil) (⟨_, ⟨vbool ?_, rfl⟩, sbt⟩))))) U) U)
  unfold badTo
  first | (rw [decide_eq_true (show s < 0 by omega)]; rfl) | (rw [decide_eq_false (show ¬ s < 0 by omega)]; rfl)
theorem ix114_s {w0 : World} {H : List (Nat × Obj)} (l : List Int) (q : Option Addr) (c : Nat) (n b : Nat) (hb : Fnd H b (Cl [.int .i64 (n : Int)] 3)) (hA : Arr w0 H q 1 encI l) (hlen : l.length ≤ 1048576) :
  FSpec Tryz.prog w0 114 #[.slice q l.length c, .func (.func 66) #[] #[.pointer (some ⟨b, 0, none⟩)]] H ((fun v H' => (∃ i : Int, v = .int .i64 i ∧ (0 ≤ i ↔ l.any (badTo n) = true)) ∧ H' = H)) := by
 refine A7 Tryz.func114 U ntmps114 U (Ah (Ab (y_ (Ad Ak) (Af (Ac (Ah (Ah (Ab (y_ (Ae (T U)) (y_ (Bw (T U) runUnderlying42) (y_ (Ae Ak) (Af (Ac (A2 ?_))) U) U) U)))))) U)))
 refine Co (X := Nat) (V := fun i => [(8, .int .i64 (i : Nat))]) (C := [(0, _), (1, _), (7, _)]) (φ := fun i => i ≤ l.length ∧ ∀ j, j < i → (badTo n) (gd l j) = false) (μ := fun i => l.length - i) (x0 := 0) ?_ ⟨Aa U, Aa U, Aa U, trivial⟩ ⟨atd, trivial⟩ ?_
 ·exact ⟨Nat.zero_le _, fun j hj => absurd hj (Nat.not_lt_zero _)⟩
 rintro i ⟨hi, hno⟩
 refine Ah (Ab (y_ (B4 (T U) (T U)) (Af (Ac (Ah ?_))) U))
 first | refine Au (Aa U) (fun c9 => ?_) (fun c9 => ?_) | refine Bb (Aa U) (fun c9 => ?_) (fun c9 => ?_)
 ·refine A9 (Ac (Ah (A2 (Ah (Ab (y_ (Ae (T U)) (y_ (Ad (T U)) (Af (Ac (Ah (Ab (y_ (Ae (T U)) (y_ (Ae (T U)) (y_ (Ae (T U)) (y_ (Bh (T U) (T U) runUnderlying42 sizeOf3 (by omega) (by first | exact rfl | exact hA.b (i := i) (by omega))) ?_ U) U) U) U))))) U) U))))))
  refine y_ (Ai (T U) isAgg3 (by first | exact c_o | exact cell1 ((hA.mono sbt).cs (i := i) (by omega)))) ?_ U
  refine y_ (yl_callV (T U) (.cons (T U) .nil) call66 (fun H' hs => c66_s (gd l i) n b (hb.mono (List.Sublist.trans sbt hs)))) (Af (Ac ?_)) U
  first | refine Au (Aa U) (fun c16 => ?_) (fun c16 => ?_) | refine Bb (Aa U) (fun c16 => ?_) (fun c16 => ?_)
  ·refine Ah (Ab (y_ (Ae (T U)) (y_ (Ad (T U)) (Af (Ac (A5 (Aw (Ao (B9 (Aw (Ao (A6 U (.tmp (Aa U) .nil) ?_))))))))) U) U))
   exact ⟨_, ⟨⟨_, rfl, fun _ => any_of (by omega) c16, fun _ => by omega⟩, rfl⟩, sbt⟩
  ·refine A9 (Bm (Ac (Ab (y_ (Bv (T U) Ak (by omega)) ?_ U))))
   refine y_ (Ae (T U)) (Af ?_) U
   refine Bs (i + 1) ?_ ?_ ⟨atd, trivial⟩ ⟨Aa U, Aa U, Aa U, trivial⟩ ?_
   ·refine ⟨by omega, fun j hj => ?_⟩
    by_cases e : j = i
    ·subst e; exact c16
    ·exact hno j (by omega)
   ·first | omega | (simp only []; omega)
   ·exact sbt
 ·refine B7 (A4 (A8 (Ba (Ac (Ah (Ab (y_ (Ad Ak) (Af (Ac (A5 (A6 U (.tmp (Aa U) .nil) (⟨_, ⟨⟨-1, rfl, fun h => absurd h (by decide), fun h => ?_⟩, rfl⟩, sbt⟩))))) U)))))))
  rw [any_no fun j hj => hno j (by omega)] at h; cases h
theorem cf65_s {w0 : World} {H : List (Nat × Obj)} (l : List Int) (q : Option Addr) (c : Nat) (n b : Nat) (hb : Fnd H b (Cl [.int .i64 (n : Int)] 3)) (hA : Arr w0 H q 1 encI l) (hlen : l.length ≤ 1048576) :
  FSpec Tryz.prog w0 65 #[.slice q l.length c, .func (.func 66) #[] #[.pointer (some ⟨b, 0, none⟩)]] H (Still (.bool (l.any (badTo n))) H) := by
 refine A7 Tryz.func65 U ntmps65 U (Ah (Ab (y_ (Ad Ak) (Af (Ac (Ah (Ab (y_ (Ae (T U)) (y_ (Ae (T U)) (e_ (Av (.cons (T U) (.cons (T U) .nil)) call114 (ix114_s l q c n b hb hA hlen)) ?_ U) U) U))))) U)))
 rintro _ _ ⟨⟨i, rfl, hi⟩, rfl⟩
 refine y_ (Ds (T U) Ak) (y_ (Ad (T U)) (Af (Ac (A5 (A6 U (.tmp (Aa U) .nil) ?_)))) U) U
 exact ⟨_, ⟨vbool (by rw [Bool.eq_iff_iff, decide_eq_true_eq]; exact hi), rfl⟩, sbt⟩
theorem c64_s {w0 : World} {H : List (Nat × Obj)} (r : RowI) (hr : Arr w0 H r.q 1 encI r.l) (hrl : r.l.length ≤ 1048576) (m : Mi) (hml : m.names.length ≤ 1048576) (n b1 b : Nat) (h1 : Fnd H b1 (Cl (encMi m) 29)) (hb : Fnd H b (Cl [.int .i64 (n : Int)] 3)) :
  FSpec Tryz.prog w0 64 #[.slice r.q r.l.length r.c, .pointer (some ⟨b1, 0, none⟩), .pointer (some ⟨b, 0, none⟩)] H (Still (.bool (badRow m.names.length n r.l)) H) := by
 refine A7 Tryz.func64 U ntmps64 U (Ah (Ab (y_ (Ad Ak) (Af (Ac (Ah (Ab (y_ (Ae (T U)) (y_ (Bw (T U) runUnderlying42) (y_ (Bp (T U) fa29_0) (y_ (Ai (T U) isAgg25 (by first | exact c_o | exact c_o (hf := h1))) ?_ U) U) U) U))))) U)))
 refine y_ (Bw (T U) runUnderlying25) (y_ (Bv (T U) Ak (by omega)) ?_ U) U
 refine y_ (C3 (T U) (T U)) (y_ (Ae (T U)) ?_ U) U
 first | refine Ci (s := 12) (Aa U) (fun c12 => ?_) (fun c12 => ?_) | refine C1 (s := 12) (Aa U) (fun c12 => ?_) (fun c12 => ?_)
 ·refine Cy (Cy (Cy (y_ (Az (T U) Ak) (y_ (Ad (T U)) (Af (Ac (A5 (A6 U (.tmp (Aa U) .nil) (⟨_, ⟨vbool ?_, rfl⟩, sbt⟩))))) U) U) U U U U) U U U U) U U U U
  unfold badRow
  first | (rw [decide_eq_true c12]; rfl) | (rw [decide_eq_false c12]; rfl)
 ·refine Bg (Ae (T U)) U (Ax U U (Aa U)) (Bg (Cc (.cons (T U) .nil)) U (Ax U U (Aa U)) (Bg (Aq (.cons (T U) (.cons (T U) .nil)) call65 (fun H' hs => cf65_s r.l r.q r.c n b (hb.mono (List.Sublist.trans sbt hs)) (hr.mono (List.Sublist.trans sbt hs)) hrl)) U (Ax U U (Aa U)) (y_ (Be (T U) (T U)) (y_ (Ad (T U)) (Af (Ac (A5 (A6 U (.tmp (Aa U) .nil) (⟨_, ⟨vbool ?_, rfl⟩, sbt⟩))))) U) U)))
  unfold badRow
  first | (rw [decide_eq_true c12]; rfl) | (rw [decide_eq_false c12]; rfl)
theorem ix113_s {w0 : World} {H : List (Nat × Obj)} (m : Mi) (hm : MiOk w0 H m) (n b1 b : Nat) (h1 : Fnd H b1 (Cl (encMi m) 29)) (hb : Fnd H b (Cl [.int .i64 (n : Int)] 3)) :
  FSpec Tryz.prog w0 113 #[.slice m.q2 m.rows.length m.c2, .func (.func 64) #[] #[.pointer (some ⟨b1, 0, none⟩), .pointer (some ⟨b, 0, none⟩)]] H ((fun v H' => (∃ i : Int, v = .int .i64 i ∧ (0 ≤ i ↔ m.rows.any (fun r : RowI => badRow m.names.length n r.l) = true)) ∧ H' = H)) := by
 refine A7 Tryz.func113 U ntmps113 U ?_
 have hl2 := hm.l2
 refine Ah (Ab (y_ (Ad Ak) (Af (Ac (Ah (Ah (Ab (y_ (Ae (T U)) (y_ (Bw (T U) runUnderlying26) (y_ (Ae Ak) (Af (Ac (A2 ?_))) U) U) U)))))) U))
 refine Co (X := Nat) (V := fun i => [(8, .int .i64 (i : Nat))]) (C := [(0, _), (1, _), (7, _)]) (φ := fun i => i ≤ m.rows.length ∧ ∀ j, j < i → (fun r : RowI => badRow m.names.length n r.l) (gd m.rows j) = false) (μ := fun i => m.rows.length - i) (x0 := 0) ?_ ⟨Aa U, Aa U, Aa U, trivial⟩ ⟨atd, trivial⟩ ?_
 ·exact ⟨Nat.zero_le _, fun j hj => absurd hj (Nat.not_lt_zero _)⟩
 rintro i ⟨hi, hno⟩
 refine Ah (Ab (y_ (B4 (T U) (T U)) (Af (Ac (Ah ?_))) U))
 first | refine Au (Aa U) (fun c9 => ?_) (fun c9 => ?_) | refine Bb (Aa U) (fun c9 => ?_) (fun c9 => ?_)
 ·refine A9 (Ac (Ah (A2 (Ah (Ab (y_ (Ae (T U)) (y_ (Ad (T U)) (Af (Ac (Ah (Ab (y_ (Ae (T U)) (y_ (Ae (T U)) (y_ (Ae (T U)) (y_ (Bh (T U) (T U) runUnderlying26 sizeOf42 (by omega) (by first | exact rfl | exact hm.a2.b (i := i) (by omega))) ?_ U) U) U) U))))) U) U))))))
  refine y_ (Ai (T U) isAgg42 (by first | exact c_o | exact cell1 ((hm.a2.mono sbt).cs (i := i) (by omega)))) ?_ U
  refine y_ (yl_callV (T U) (.cons (T U) .nil) call64 (fun H' hs => c64_s (gd m.rows i) ((hm.r _ (A1 (by omega))).mono (List.Sublist.trans sbt hs)) (hm.l3 _ (A1 (by omega))) m hm.l1 n b1 b (h1.mono (List.Sublist.trans sbt hs)) (hb.mono (List.Sublist.trans sbt hs)))) ?_ U
  refine Af (Ac ?_)
  first | refine Au (Aa U) (fun c16 => ?_) (fun c16 => ?_) | refine Bb (Aa U) (fun c16 => ?_) (fun c16 => ?_)
  ·refine Ah (Ab (y_ (Ae (T U)) (y_ (Ad (T U)) (Af (Ac (A5 (Aw (Ao (B9 (Aw (Ao (A6 U (.tmp (Aa U) .nil) ?_))))))))) U) U))
   exact ⟨_, ⟨⟨_, rfl, fun _ => any_of (by omega) c16, fun _ => by omega⟩, rfl⟩, sbt⟩
  ·refine A9 (Bm (Ac (Ab (y_ (Bv (T U) Ak (by omega)) ?_ U))))
   refine y_ (Ae (T U)) (Af ?_) U
   refine Bs (i + 1) ?_ ?_ ⟨atd, trivial⟩ ⟨Aa U, Aa U, Aa U, trivial⟩ ?_
   ·refine ⟨by omega, fun j hj => ?_⟩
    by_cases e : j = i
    ·subst e; exact c16
    ·exact hno j (by omega)
   ·first | omega | (simp only []; omega)
   ·exact sbt
 ·refine B7 (A4 (A8 (Ba (Ac (Ah (Ab (y_ (Ad Ak) (Af (Ac (A5 (A6 U (.tmp (Aa U) .nil) (⟨_, ⟨⟨-1, rfl, fun h => absurd h (by decide), fun h => ?_⟩, rfl⟩, sbt⟩))))) U)))))))
  rw [any_no fun j hj => hno j (by omega)] at h; cases h
theorem cf63_s {w0 : World} {H : List (Nat × Obj)} (m : Mi) (hm : MiOk w0 H m) (n b1 b : Nat) (h1 : Fnd H b1 (Cl (encMi m) 29)) (hb : Fnd H b (Cl [.int .i64 (n : Int)] 3)) :
  FSpec Tryz.prog w0 63 #[.slice m.q2 m.rows.length m.c2, .func (.func 64) #[] #[.pointer (some ⟨b1, 0, none⟩), .pointer (some ⟨b, 0, none⟩)]] H (Still (.bool (m.rows.any (fun r : RowI => badRow m.names.length n r.l))) H) := by
 refine A7 Tryz.func63 U ntmps63 U (Ah (Ab (y_ (Ad Ak) (Af (Ac (Ah (Ab (y_ (Ae (T U)) (y_ (Ae (T U)) (e_ (Av (.cons (T U) (.cons (T U) .nil)) call113 (ix113_s m hm n b1 b h1 hb)) ?_ U) U) U))))) U)))
 rintro _ _ ⟨⟨i, rfl, hi⟩, rfl⟩
 refine y_ (Ds (T U) Ak) (y_ (Ad (T U)) (Af (Ac (A5 (A6 U (.tmp (Aa U) .nil) ?_)))) U) U
 exact ⟨_, ⟨vbool (by rw [Bool.eq_iff_iff, decide_eq_true_eq]; exact hi), rfl⟩, sbt⟩
theorem srtS_s {w0 : World} {H : List (Nat × Obj)} (names : List ByteArray) (q : Option Addr) (c : Nat) (hA : Arr w0 H q 1 encS names) (hlen : names.length ≤ 1048576) :
  FSpec Tryz.prog w0 60 #[.slice q names.length c] H (Still (.bool (isSrt names)) H) := by
 refine A7 Tryz.func60 U ntmps60 U (Ah (Ab (y_ (Ad Ak) (Af (Ac (Ah (Ah (Ab (y_ (Ae (T U)) (y_ (Bw (T U) runUnderlying25) (y_ (yl_sub (T U) Ak (by omega)) ?_ U) U) U)))))) U)))
 refine y_ (Ad (T U)) (Af (Ac (A2 ?_))) U
 refine Co (X := Int) (V := fun i => [(3, .int .i64 i)]) (C := [(0, _)]) (φ := fun i => -1 ≤ i ∧ i ≤ (names.length : Int) - 1 ∧ ∀ j : Nat, i < j → j < names.length → 0 < j → ¬ toL (gd names j) < toL (gd names (j - 1))) (μ := fun i => (i + 1).toNat) (x0 := (names.length : Int) - 1) ?_ ⟨Aa U, trivial⟩ ⟨atd, trivial⟩ ?_
 ·exact ⟨by omega, Int.le_refl _, fun j h1 h2 => by omega⟩
 rintro i ⟨hlo, hhi, hgo⟩
 refine Ah (Ah (Ab (y_ (Ae (T U)) (y_ (yl_gtr (T U) Ak) (Af (Ac ?_)) U) U)))
 first | refine Au (Aa U) (fun c8 => ?_) (fun c8 => ?_) | refine Bb (Aa U) (fun c8 => ?_) (fun c8 => ?_)
 ·have hi1 : (i - 1).toNat = i.toNat - 1 := by omega
  refine A9 (Ac (Ah (A2 (Ah (Cv 10 [(0, true), (1, true), (2, true), (3, true), (4, true), (5, true), (6, true), (7, true), (8, true), (9, true)] _ mixd (by kernel_rfl) sb0 ?_)))))
  refine o_y U (Ae (T U)) (o_y U (Ae (T U)) (o_y U (Cw (T U) (T U) runUnderlying25 sizeOf9 (by omega) (by first | exact rfl | exact hA.b (i := i.toNat) (by omega) | exact hA.b (i := (i - 1).toNat) (by omega))) ?_ U Ag) U Ag) U Ag
  refine o_y U (Ai (T U) isAgg9 (by first | exact c_o | exact cell1 ((hA.mono sbt).cs (i := i.toNat) (by omega)))) ?_ U Ag
  refine o_y U (Ae (T U)) (o_y U (Ae (T U)) (o_y U (yl_sub (T U) Ak (by omega)) ?_ U Ag) U Ag) U Ag
  refine o_y U (Cw (T U) (T U) runUnderlying25 sizeOf9 (by omega) (by first | exact rfl | exact hA.b (i := i.toNat) (by omega) | exact hA.b (i := (i - 1).toNat) (by omega))) ?_ U Ag
  refine o_y U (Ai (T U) isAgg9 (by first | exact c_o | exact cell1 ((hA.mono sbt).cs (i := (i - 1).toNat) (by omega)))) ?_ U Ag
  refine o_y U (Aq (.cons (T U) (.cons (T U) .nil)) call112 (fun H' hs => less_s _ _)) (B5 U (Af (Ac ?_))) U Ag
  first | refine Au (Aa U) (fun c20 => ?_) (fun c20 => ?_) | refine Bb (Aa U) (fun c20 => ?_) (fun c20 => ?_)
  ·refine Ah (Ab (y_ (Ad Ak) (Af (Ac (A5 (Aw (Ao (B9 (Aw (Ao (A6 U (.tmp (Aa U) .nil) ?_))))))))) U))
   exact ⟨_, ⟨vbool (by symm; exact decide_eq_false fun h => h i.toNat (by omega) (by omega) (by rw [hi1] at c20; exact c20)), rfl⟩, sbt⟩
  ·refine A9 (Bm (Ac (Ab (y_ (Ae (T U)) (y_ (yl_sub (T U) Ak (by omega)) ?_ U) U))))
   refine y_ (Ad (T U)) (Af ?_) U
   refine Bs (i - 1) ?_ ?_ ⟨atd, trivial⟩ ⟨Aa U, trivial⟩ ?_
   ·refine ⟨by omega, by omega, fun j h1 h2 h3 => ?_⟩
    by_cases e : (j : Int) = i
    ·have e2 : j = i.toNat := by omega
     subst e2
     rw [hi1] at c20; exact c20
    ·exact hgo j (by omega) h2 h3
   ·first | omega | (simp only []; omega)
   ·exact sbt
 ·refine B7 (A4 (A8 (Ba (Ac (Ah (Ab (y_ (Ad Ak) (Af (Ac (A5 (A6 U (.tmp (Aa U) .nil) ?_)))) U)))))))
  exact ⟨_, ⟨vbool (by symm; exact decide_eq_true fun j h1 h2 => hgo j (by omega) h1 h2), rfl⟩, sbt⟩
end Go.Proofs.YtkdolgnpkjihpaaGreatDoor
namespace Go.Proofs.YtkdolgnpkjihpaaGreatDoor
open _root_.Go.Proofs.Tryz
open Go.RowKit
set_option linter.unusedVariables false
set_option linter.unusedSimpArgs false
theorem bs25_0_z  (w : World) : (Instr.buildSlice 25 0 #[]).run Tryz.prog w = .ok (.slice (some ⟨w.heap.size, 0, none⟩) 0 0) (w.alloc (Cl [] 9)) := by kernel_rfl
section
variable {P : Program} {r : Option Nat} {N : Nat} {w0 : World} {ops : Array Oper} {t : Nat} {Q : Post} {L : Fm} {ds : List Deferred} {H0 H : List (Nat × Obj)} {d : Option Tmp} {op : Op} {ty : TypeId} {p : String} {af : Array Edge} {g : Option (Nat × Bool)} {i : Nat} {plan : List (Nat × Bool)}
theorem o_nf (hi : ops[i]? = some ⟨d, op, ty, p, af, g⟩) (k : JO P r N w0 H0 ops t plan Q (pt d undef L) ds H) (hN : dOk d N = true) (hg : Nw ops L g N) : JO P r N w0 H0 ops t ((i, false) :: plan) Q L ds H :=
 fun hT hD hS hP hs listed inv hp b a hsz hf hd => by
  simp only [planB, Bool.and_eq_true, Nat.blt_eq, beq_iff_eq] at hp
  obtain ⟨⟨h1, h2⟩, h4⟩ := hp
  have hr : i ∈ Region.ready md ops listed := by rw [h2]; simp
  refine ⟨⟨i, hr, h1⟩, fun j hj _ w hO => ?_⟩
  rw [h2] at hj
  obtain rfl : j = i := by simpa using hj
  unfold wpOpIn
  simp only [hi, nw_wanted hg hsz hf, Bool.false_eq_true, if_false]
  exact ⟨fun f _ => rd_fn r f, H, hs, hO, k hT hD hS hP hs _ (inv.set hr h1) h4 b _ (by rw [size_put]; exact hsz) (fr_pt hN hsz hf) (by rw [defers_put]; exact hd)⟩
end
theorem yl_eqNil {w0 : World} {L : Fm} {H : List (Nat × Obj)} {ty yt : TypeId} {x y : Operand} {q : Option Addr} {n c : Nat} (hx : Ev L x (.slice q n c)) (hy : Ev L y (.slice none 0 0)) : Yl Tryz.prog w0 (.binOp .eql 25 x y yt) ty L H (.bool q.isNone) := Ca U fun b' w => by
 have e : (Op.equal 25 (.slice q n c) (.slice none 0 0)).run Tryz.prog w = .ok q.isNone w := run_equalIn_slice_nil w 9999 25 9 q n c (by kernel_rfl)
 simp [exO, execOp, hx b', hy b', binOp, eqGuard, Sem.run_bind, Result.andThen, e]
theorem loc_e {n : Nat} {e : TypeId} {X : List (Nat × Obj)} {enc : ByteArray → List Value} : LocL ((n, Cl [] e) :: X) (slH (.blk n 0 []) (([] : List ByteArray).flatMap enc) e) X (fun M' => M' ++ X) := show LocL ([(n, Cl [] e)] ++ X) [(n, Cl [] e)] X _ from .h
theorem clone_s {w0 : World} {H : List (Nat × Obj)} (names : List ByteArray) (q : Option Addr) (c : Nat) (hA : Arr w0 H q 1 encS names) (hlen : names.length ≤ 1048576) :
  FSpec Tryz.prog w0 62 #[.slice q names.length c] H (fun v H' => ∃ d, (v = slV d names.length ∧ SlOk d names.length 1) ∧ H' = slH d (names.flatMap encS) 9 ++ H) := by
 refine A7 Tryz.func62 U ntmps62 U (Ah (Ab (y_ (Ad Ak) (Af (Ac (Ah (Ah (Ab (y_ (Ae (T U)) (y_ (yl_eqNil (T U) Ak) (Af (Ac ?_)) U) U)))))) U)))
 first | refine Au (Aa U) (fun c4 => ?_) (fun c4 => ?_) | refine Bb (Aa U) (fun c4 => ?_) (fun c4 => ?_)
 ·have hnil : names = [] := by
   cases names with
   | nil => rfl
   | cons x l => have := (hA 0 x rfl).1; rw [this] at c4; cases c4
  refine Ah (Ab (y_ (Ad Ak) (Af (Ac (A5 (Ao (A6 U (.tmp (Aa U) .nil) ?_))))) U))
  rw [hnil]; exact ⟨_, ⟨.nil, ⟨rfl, rfl⟩, rfl⟩, sbt⟩
 ·refine A9 (Ac (Ah (Ab (e_ (An .nil (bs25_0_z)) ?_ U))))
  rintro _ _ ⟨n5, rfl, rfl⟩
  refine y_ (Ae (T U)) (e_ (eff_appN_at (d := .blk n5 0 []) (l := []) (names) (by' := 16) loc_e (T U) (T U) runUnderlying25 runUnderlying25 sizeOf9 typeInfo9 U zeroValue9 U (fun _ => rfl) (fun _ => rfl) ⟨Nat.le_refl _, rfl⟩ (by decide) (by simp only [List.length_nil]; omega) (hA.mono sbt)) ?_ U) U
  rintro _ _ ⟨d', rfl, hokd, rfl⟩
  refine y_ (Ad (T U)) (Af (Ac (A5 (A6 U (.tmp (Aa U) .nil) ?_)))) U
  rw [List.length_nil, Nat.zero_add] at hokd
  exact ⟨_, ⟨d', ⟨by rw [List.length_nil, Nat.zero_add]; rfl, hokd⟩, rfl⟩, sbt⟩
theorem MiOk.mono {w0 : World} {H H' : List (Nat × Obj)} {m : Mi} (h : MiOk w0 H m) (hs : H.Sublist H' := by exact sbt) : MiOk w0 H' m := ⟨h.a1.mono hs, h.a2.mono hs, h.a3.mono hs, fun r hr => (h.r r hr).mono hs, h.l1, h.l2, h.l3⟩
theorem pcheck_s {w0 : World} {H : List (Nat × Obj)} (m : Mi) (hm : MiOk w0 H m) :
  FSpec Tryz.prog w0 18 #[.agg (encMi m).toArray] H (Still (.bool (chkI m)) H) := by
 refine A7 Tryz.func18 U ntmps18 U ?_
 have hl1 := hm.l1
 have hl2 := hm.l2
 have hcl := cptB_len m.names
 refine Ah (Ab (e_ (Bf (T U) cs_) ?_ U))
 rintro _ _ ⟨n1, rfl, rfl⟩
 refine y_ (Ad Ak) (Af (Ac (Ah (Ab (y_ (Bk (T U) Dc) (y_ (Ai (T U) isAgg26 (by first | exact c_o)) ?_ U) U))))) U
 refine y_ (Bw (T U) runUnderlying26) (e_ (Ap zeroValue3 cs_) ?_ U) U
 rintro _ _ ⟨n3, rfl, rfl⟩
 first | refine A0 (As (T U) (T U) sizeOf3) U Ag ?_ | refine A0 (B6 (T U) (T U) U sizeOf3) U Ag ?_ | refine A0 (By (T U) (T U) U sizeOf3) U Ag ?_
 rintro _ _ ⟨rfl, rfl⟩
 refine Af (Ac (Ah (Ah (Cv 30 [(0, true), (1, true), (2, true), (3, true), (4, true), (5, true), (6, true), (7, true), (8, true), (9, true), (10, true), (11, true), (12, true), (13, true), (14, true), (15, true), (16, true), (17, true), (18, true), (19, true), (20, true), (21, true), (25, true), (26, true), (27, true), (22, false), (23, false), (24, true), (28, true), (29, true)] _ mixd (by kernel_rfl) sb0 ?_))))
 refine o_y U (Ai (T U) isAgg3 (by first | exact c_o)) ?_ U Ag
 refine o_y U (B3 (T U) Ak) (o_y U (Ae (T U)) ?_ U Ag) U Ag
 first | refine C9 (s := 9) (Aa U) (fun c9 => ?_) (fun c9 => ?_) | refine Dx (s := 9) (Aa U) (fun c9 => ?_) (fun c9 => ?_)
 ·have hf : chkI m = false := by unfold chkI; rw [decide_eq_true (show m.rows.length = 0 by omega)]; rfl
  refine o_n U (o_n U (o_y U (Az (T U) Ak) (o_y U (Ae (T U)) (o_n U (o_n U (o_n U (o_n U (o_n U (o_y U (Az (T U) Ak) (o_y U (Ae (T U)) (o_n U (o_n U (o_n U (o_n U (o_y U (Az (T U) Ak) (o_y U (Ae (T U)) (o_n U (o_n U (o_n U (o_n U (o_n U (o_nf U (o_nf U (o_n U (o_n U (o_y U (Az (T U) Ak) (B5 U (Af (Ac (Bt [(1, _), (3, _), (36, _)] ⟨Aa U, Aa U, Aa U, trivial⟩ ?_)))) U Ag) U (Bd U U (Aa U))) U (Bd U U (Aa U))) U (Bd U U (Aa U))) U (Bd U U (Aa U))) U (Bd U U (Aa U))) U (Bd U U (Aa U))) U (Bd U U (Aa U))) U (Bd U U (Aa U))) U (Bd U U (Aa U))) U Ag) U Ag) U (Bd U U (Aa U))) U (Bd U U (Aa U))) U (Bd U U (Aa U))) U (Bd U U (Aa U))) U Ag) U Ag) U (Bd U U (Aa U))) U (Bd U U (Aa U))) U (Bd U U (Aa U))) U (Bd U U (Aa U))) U (Bd U U (Aa U))) U Ag) U Ag) U (Bd U U (Aa U))) U (Bd U U (Aa U))
  first | refine Bu (Aa U) ?_ | refine Bu (Aj (Aa U) (vbool (decide_eq_true c36))) ?_
  refine Ah (Ab (y_ (Ad Ak) (Af (Ac (A5 (Ao (A6 U (.tmp (Aa U) .nil) ?_))))) U))
  exact ⟨_, ⟨vbool (by rw [hf]), rfl⟩, sbt⟩
 ·have e1 : decide (m.rows.length = 0) = false := decide_eq_false (by omega)
  refine o_y U (Ai (T U) isAgg3 (by first | exact c_o)) ?_ U (Ax U U (Aa U))
  refine o_y U (yl_gtr (T U) Ak) (o_y U (Be (T U) (T U)) (o_y U (Ae (T U)) ?_ U Ag) U Ag) U (Ax U U (Aa U))
  first | refine C9 (s := 13) (Aa U) (fun c13 => ?_) (fun c13 => ?_) | refine Dx (s := 13) (Aa U) (fun c13 => ?_) (fun c13 => ?_)
  ·have hf : chkI m = false := by unfold chkI; rw [e1, decide_eq_true (show 200 < m.rows.length by omega)]; rfl
   refine o_n U (o_n U (o_n U (o_n U (o_n U (o_y U (Az (T U) Ak) (o_y U (Ae (T U)) (o_n U (o_n U (o_n U (o_n U (o_y U (Az (T U) Ak) (o_y U (Ae (T U)) (o_n U (o_n U (o_n U (o_n U (o_n U (o_nf U (o_nf U (o_n U (o_n U (o_y U (Az (T U) Ak) (B5 U (Af (Ac (Bt [(1, _), (3, _), (36, _)] ⟨Aa U, Aa U, Aa U, trivial⟩ ?_)))) U Ag) U (Bd U U (Aa U))) U (Bd U U (Aa U))) U (Bd U U (Aa U))) U (Bd U U (Aa U))) U (Bd U U (Aa U))) U (Bd U U (Aa U))) U (Bd U U (Aa U))) U (Bd U U (Aa U))) U (Bd U U (Aa U))) U Ag) U Ag) U (Bd U U (Aa U))) U (Bd U U (Aa U))) U (Bd U U (Aa U))) U (Bd U U (Aa U))) U Ag) U Ag) U (Bd U U (Aa U))) U (Bd U U (Aa U))) U (Bd U U (Aa U))) U (Bd U U (Aa U))) U (Bd U U (Aa U))
   first | refine Bu (Aa U) ?_ | refine Bu (Aj (Aa U) (vbool (decide_eq_true c36))) ?_
   refine Ah (Ab (y_ (Ad Ak) (Af (Ac (A5 (Ao (A6 U (.tmp (Aa U) .nil) ?_))))) U))
   exact ⟨_, ⟨vbool (by rw [hf]), rfl⟩, sbt⟩
  ·have e2 : decide (200 < m.rows.length) = false := decide_eq_false (by omega)
   refine o_y U (Bk (T U) Dn) (o_y U (Ai (T U) isAgg27 (by first | exact c_o)) ?_ U (Ax U U (Aa U))) U (Ax U U (Aa U))
   refine o_y U (Bw (T U) runUnderlying27) (o_y U (Ai (T U) isAgg3 (by first | exact c_o)) ?_ U (Ax U U (Aa U))) U (Ax U U (Aa U))
   refine o_y U (C3 (T U) (T U)) (o_y U (Be (T U) (T U)) (o_y U (Ae (T U)) ?_ U Ag) U Ag) U (Ax U U (Aa U))
   first | refine C9 (s := 20) (Aa U) (fun c20 => ?_) (fun c20 => ?_) | refine Dx (s := 20) (Aa U) (fun c20 => ?_) (fun c20 => ?_)
   ·have hf : chkI m = false := by unfold chkI; rw [e1, e2, decide_eq_true (show ¬ m.acc.length = m.rows.length by omega)]; rfl
    refine o_n U (o_n U (o_n U (o_n U (o_y U (Az (T U) Ak) (o_y U (Ae (T U)) (o_n U (o_n U (o_n U (o_n U (o_n U (o_nf U (o_nf U (o_n U (o_n U (o_y U (Az (T U) Ak) (B5 U (Af (Ac (Bt [(1, _), (3, _), (36, _)] ⟨Aa U, Aa U, Aa U, trivial⟩ ?_)))) U Ag) U (Bd U U (Aa U))) U (Bd U U (Aa U))) U (Bd U U (Aa U))) U (Bd U U (Aa U))) U (Bd U U (Aa U))) U (Bd U U (Aa U))) U (Bd U U (Aa U))) U (Bd U U (Aa U))) U (Bd U U (Aa U))) U Ag) U Ag) U (Bd U U (Aa U))) U (Bd U U (Aa U))) U (Bd U U (Aa U))) U (Bd U U (Aa U))
    first | refine Bu (Aa U) ?_ | refine Bu (Aj (Aa U) (vbool (decide_eq_true c36))) ?_
    refine Ah (Ab (y_ (Ad Ak) (Af (Ac (A5 (Ao (A6 U (.tmp (Aa U) .nil) ?_))))) U))
    exact ⟨_, ⟨vbool (by rw [hf]), rfl⟩, sbt⟩
   ·have e3 : decide (¬ m.acc.length = m.rows.length) = false := decide_eq_false (by omega)
    refine o_y U (Bp (T U) fa29_0) (o_y U (Ai (T U) isAgg25 (by first | exact c_o)) ?_ U (Ax U U (Aa U))) U (Ax U U (Aa U))
    refine o_y U (Aq (.cons (T U) .nil) call60 (fun H' hs => srtS_s m.names m.q1 m.c1 (hm.a1.mono (List.Sublist.trans sbt hs)) hl1)) ?_ U (Ax U U (Aa U))
    first | refine o_y U (Ct (T U)) ?_ U (Ax U U (Aa U)) | refine o_y U (C2 (T U)) ?_ U (Ax U U (Aa U))
    refine o_y U (Be (T U) (T U)) (o_y U (Ae (T U)) ?_ U Ag) U Ag
    first | refine C9 (s := 26) (Aa U) (fun c26 => ?_) (fun c26 => ?_) | refine Dx (s := 26) (Aa U) (fun c26 => ?_) (fun c26 => ?_)
    ·have hf : chkI m = false := by unfold chkI; rw [e1, e2, e3, show isSrt m.names = false from decide_eq_false c26]; rfl
     refine o_n U (o_n U (o_n U (o_n U (o_n U (o_nf U (o_nf U (o_n U (o_n U (o_y U (Az (T U) Ak) (B5 U (Af (Ac (Bt [(1, _), (3, _), (36, _)] ⟨Aa U, Aa U, Aa U, trivial⟩ ?_)))) U Ag) U (Bd U U (Aa U))) U (Bd U U (Aa U))) U (Bd U U (Aa U))) U (Bd U U (Aa U))) U (Bd U U (Aa U))) U (Bd U U (Aa U))) U (Bd U U (Aa U))) U (Bd U U (Aa U))) U (Bd U U (Aa U))
     first | refine Bu (Aa U) ?_ | refine Bu (Aj (Aa U) (vbool (decide_eq_true c36))) ?_
     refine Ah (Ab (y_ (Ad Ak) (Af (Ac (A5 (Ao (A6 U (.tmp (Aa U) .nil) ?_))))) U))
     exact ⟨_, ⟨vbool (by rw [hf]), rfl⟩, sbt⟩
    ·have e4 : isSrt m.names = true := decide_eq_true (Decidable.not_not.1 c26)
     refine o_y U (Bp (T U) fa29_0) (o_y U (Ai (T U) isAgg25 (by first | exact c_o)) ?_ U (Ax U U (Aa U))) U (Ax U U (Aa U))
     refine o_y U (Bp (T U) fa29_0) (o_y U (Ai (T U) isAgg25 (by first | exact c_o)) ?_ U (Ax U U (Aa U))) U (Ax U U (Aa U))
     refine o_y U (Bw (T U) runUnderlying25) (o_e U (Av (.cons (T U) .nil) call62 (clone_s m.names m.q1 m.c1 (hm.a1.mono sbt) hl1)) ?_ U (Ax U U (Aa U))) U (Ax U U (Aa U))
     rintro _ _ ⟨d, ⟨rfl, hd⟩, rfl⟩
     refine ⟨sbt, (o_e U (Av (.cons (T U) .nil) call61 ((compactB_s d m.names hd (by omega)).toD)) ?_ U (Ax U U (Aa U)))⟩
     rintro _ _ ⟨d2, ⟨rfl, hd2⟩, rfl⟩
     refine ⟨sbt, (o_y U (Bw (T U) runUnderlying25) (o_y U (C3 (T U) (T U)) (o_y U (Be (T U) (T U)) (B5 U (Af (Ac (Bt [(1, _), (3, _), (36, _)] ⟨Aa U, Aa U, Aa U, trivial⟩ ?_)))) U Ag) U (Ax U U (Aa U))) U (Ax U U (Aa U)))⟩
     first | refine Au (Aa U) (fun c36 => ?_) (fun c36 => ?_) | refine Bb (Aa U) (fun c36 => ?_) (fun c36 => ?_)
     ·have hf : chkI m = false := by unfold chkI; rw [e1, e2, e3, e4, decide_eq_true (show ¬ (cptB m.names).length = m.names.length by omega)]; rfl
      refine Ah (Ab (y_ (Ad Ak) (Af (Ac (A5 (Ao (A6 U (.tmp (Aa U) .nil) ?_))))) U))
      exact ⟨_, ⟨vbool (by rw [hf]), rfl⟩, sbt⟩
     ·have e5 : decide (¬ (cptB m.names).length = m.names.length) = false := decide_eq_false (by omega)
      have hf : chkI m = !(m.rows.any fun r => badRow m.names.length m.rows.length r.l) := by unfold chkI; rw [e1, e2, e3, e4, e5]; rfl
      refine A9 (Ac (Ah (Ab (y_ (Bk (T U) Dc) (y_ (Ai (T U) isAgg26 (by first | exact c_o)) ?_ U) U))))
      refine y_ (Cc (.cons (T U) (.cons (T U) .nil))) ?_ U
      refine y_ (Aq (.cons (T U) (.cons (T U) .nil)) call63 (fun H' hs => cf63_s m (hm.mono (List.Sublist.trans sbt hs)) m.rows.length n1 n3 (Fnd.mono fdd hs) (Fnd.mono fdd hs))) ?_ U
      first | refine Bg (Ct (T U)) U Ag ?_ | refine Bg (C2 (T U)) U Ag ?_
      refine y_ (Ad (T U)) (Af (Ac (A5 (A6 U (.tmp (Aa U) .nil) ?_)))) U
      exact ⟨_, ⟨vbool (by rw [hf]), rfl⟩, sbt⟩
end Go.Proofs.YtkdolgnpkjihpaaGreatDoor
namespace Go.Proofs.YtkdolgnpkjihpaaGreatDoor
open _root_.Go.Proofs.Tryz
open Go.RowKit
set_option linter.unusedVariables false
set_option linter.unusedSimpArgs false
def insS (s : ByteArray) : List ByteArray → List ByteArray
 | [] => [s]
 | x :: l => if toL s < toL x then s :: x :: l else if toL s = toL x then x :: l else x :: insS s l
def csC (l : List ByteArray) : List ByteArray := l.foldr insS []
theorem toL_inj {a b : ByteArray} (h : toL a = toL b) : a = b := by
 have : ofL (toL a) = ofL (toL b) := by rw [h]
 exact ByteArray.ext (by simpa using this)
theorem insS_mem {s y : ByteArray} : ∀ {l : List ByteArray}, y ∈ insS s l ↔ y = s ∨ y ∈ l
 | [] => by simp [insS]
 | x :: l => by
  unfold insS
  split
  ·simp
  ·split
   ·rename_i h; have := toL_inj h; subst this; simp
   ·simp only [List.mem_cons, insS_mem]
    constructor
    ·rintro (h | h | h) <;> simp [h]
    ·rintro (h | h | h) <;> simp [h]
theorem insS_srt {s : ByteArray} : ∀ {l : List ByteArray}, Srt l → Srt (insS s l)
 | [], _ => List.pairwise_singleton ..
 | x :: l, h => by
  unfold insS
  have h' := List.pairwise_cons.1 h
  split
  ·rename_i hlt
   exact List.pairwise_cons.2 ⟨fun y hy => by
    rcases List.mem_cons.1 hy with rfl | hy
    ·exact hlt
    ·exact ltU_trans hlt (h'.1 y hy), h⟩
  ·split
   ·exact h
   ·rename_i h1 h2
    refine List.pairwise_cons.2 ⟨fun y hy => ?_, insS_srt h'.2⟩
    rcases insS_mem.1 hy with rfl | hy
    ·rcases leU_total (toL x) (toL y) with h3 | h3
     ·exact (leU_or h3).resolve_right fun e => h2 e.symm
     ·exact absurd ((leU_or h3).resolve_right h2) h1
    ·exact h'.1 y hy
theorem csC_mem {y : ByteArray} : ∀ {l : List ByteArray}, y ∈ csC l ↔ y ∈ l
 | [] => by simp [csC]
 | x :: l => by rw [show csC (x :: l) = insS x (csC l) from rfl, insS_mem, csC_mem]; simp
theorem csC_srt : ∀ {l : List ByteArray}, Srt (csC l)
 | [] => .nil
 | x :: l => insS_srt csC_srt
theorem ltU_ne {a b : List UInt8} (h : a < b) : ¬ b < a := fun h2 => absurd (ltU_trans h h2) (List.lt_irrefl a)
theorem srt_ext : ∀ {l l' : List ByteArray}, Srt l → Srt l' → (∀ x, x ∈ l ↔ x ∈ l') → l = l'
 | [], [], _, _, _ => rfl
 | [], y :: l', _, _, h => absurd ((h y).2 (by simp)) (by simp)
 | x :: l, [], _, _, h => absurd ((h x).1 (by simp)) (by simp)
 | x :: l, y :: l', h1, h2, h => by
  have p1 := List.pairwise_cons.1 h1
  have p2 := List.pairwise_cons.1 h2
  have e : x = y := by
   rcases List.mem_cons.1 ((h x).1 (by simp)) with e | e
   ·exact e
   ·rcases List.mem_cons.1 ((h y).2 (by simp)) with e2 | e2
    ·exact e2.symm
    ·exact absurd (p1.1 y e2) (ltU_ne (p2.1 x e))
  subst e
  rw [srt_ext p1.2 p2.2 fun z => ?_]
  constructor
  ·intro hz
   rcases List.mem_cons.1 ((h z).1 (List.mem_cons_of_mem _ hz)) with e | e
   ·subst e; exact absurd (p1.1 z hz) (List.lt_irrefl _)
   ·exact e
  ·intro hz
   rcases List.mem_cons.1 ((h z).2 (List.mem_cons_of_mem _ hz)) with e | e
   ·subst e; exact absurd (p2.1 z hz) (List.lt_irrefl _)
   ·exact e
theorem letF_eq (e : Re) : letF e = csC e.nms := srt_ext (letF_srt e) csC_srt fun x => by rw [letF_mem, csC_mem]
def rawC (e : Re) : Option (List (List Nat) × List Bool) := rawGo (addF e t00).1 (addF e t00).2 (csC e.nms) 201 0 [s00] [] []
theorem rawF_eq (e : Re) : rawF e = rawC e := by unfold rawF rawC; rw [letF_eq]
def buildC (e : Re) : PM × Int := match rawC e with
 | none => (⟨[], [], []⟩, 2)
 | some r => (⟨csC e.nms, (leastF ⟨csC e.nms, r.1, r.2⟩).next, (leastF ⟨csC e.nms, r.1, r.2⟩).acc⟩, 0)
theorem buildF_eq (e : Re) : buildF leastF e = buildC e := by unfold buildF buildC; rw [rawF_eq, letF_eq]; cases rawC e <;> rfl
def allC (a b : Re) : List ByteArray := csC (Re.alt a b).nms ++ [otherF (csC (Re.alt a b).nms)]
def eqC (a b : Re) : List ByteArray × Bool × List Pl := srF (stepsF (buildC a).1 (buildC b).1 (allC a b)) (difF (buildC a).1 (buildC b).1) ((buildC a).1.next.length * (buildC b).1.next.length) (0, 0)
def equalC (a b : Re) : List ByteArray × Bool × Int := if (buildC a).2 = 0 ∧ (buildC b).2 = 0 then ((eqC a b).1, !(eqC a b).2.1, 0) else ([], false, 2)
theorem equalF_eq (a b : Re) : equalF a b = equalC a b := by unfold equalF equalC eqR eqC allF allC; rw [buildF_eq, buildF_eq, letF_eq]
def sa : ByteArray := ⟨#[97]⟩
def sb' : ByteArray := ⟨#[98]⟩
def sc : ByteArray := ⟨#[99]⟩
def sd : ByteArray := ⟨#[100]⟩
def soth : ByteArray := ⟨#[111, 116, 104, 101, 114]⟩
def sany : Re := .star .any
def sX : Re := .seq (.seq (.seq (.nod sa) sany) (.nod sc)) sany
def sM : PM := ⟨[sa, sc], [[1, 2, 2], [1, 3, 1], [2, 2, 2], [3, 3, 3]], [false, false, false, true]⟩
theorem sX_build : buildF leastF sX = (sM, 0) := by rw [buildF_eq]; kernel_rfl
theorem sA_build : (buildF leastF sany) = (⟨[], [[0]], [true]⟩, 0) := by rw [buildF_eq]; kernel_rfl
theorem sE1 : equalF (.star (.alt (.nod sa) (.nod sb'))) (.star (.seq (.star (.nod sa)) (.star (.nod sb')))) = ([], true, 0) := by rw [equalF_eq]; kernel_rfl
theorem sE2 : equalF (.seq (.nod sa) .any) (.seq .any (.nod sa)) = ([sa, soth], false, 0) := by rw [equalF_eq]; kernel_rfl
theorem sM1 : matchF sX [sa, sc] = true := by kernel_rfl
theorem sM2 : matchF sX [sa, sb', sd] = false := by kernel_rfl
theorem sO : otherF [sa, soth] = ⟨#[111, 116, 104, 101, 114, 49]⟩ := by kernel_rfl
theorem sR : runM sM [sa, sc] = 3 := by kernel_rfl
end Go.Proofs.YtkdolgnpkjihpaaGreatDoor
namespace Go.Proofs.YtkdolgnpkjihpaaGreatDoor
open _root_.Go.Proofs.Tryz
open Go.RowKit
set_option linter.unusedVariables false
set_option linter.unusedSimpArgs false
theorem bEq_iff (a b : ByteArray) : (a.toList == b.toList) = decide (a = b) := by
 rw [ByteArray.toList_eq, ByteArray.toList_eq]
 refine Bool.eq_iff_iff.2 ?_
 rw [beq_iff_eq, decide_eq_true_iff]
 exact ⟨fun h => ByteArray.ext (Array.ext' h), fun h => by rw [h]⟩
theorem mtch_eq (t : Tr) (s : ByteArray) (n : Nat) : mtch t s n = (decide (gd t.names n = s) || decide (gd t.names n = ⟨#[]⟩)) := by
 unfold mtch; rw [bEq_iff, bEq_iff]
theorem takL_eq (t : Tr) (names : List ByteArray) (a n : Nat) : takL t names a n = (decide (gd t.names n = ⟨#[]⟩) || (decide (a < names.length) && decide (gd t.names n = gd names a))) := by
 unfold takL; rw [bEq_iff, bEq_iff]
 congr 2
 exact decide_eq_decide.2 (by omega)
theorem stepK_fst (t : Tr) (s : ByteArray) (can n : Nat) : ∀ i, (stepK t s can i).1.testBit n = (decide (n < i) && (can.testBit n && mtch t s n))
 | 0 => by simp [stepK]
 | i + 1 => by
  rw [stepK_succ]
  split
  ·rename_i h
   rw [Nat.testBit_or, stepK_fst t s can n i, Nat.testBit_two_pow]
   by_cases e : i = n
   ·subst e; simp [h]
   ·have : (n < i + 1) = (n < i) := by simp; omega
    simp [e, this]
  ·rename_i h
   rw [stepK_fst t s can n i]
   by_cases e : i = n
   ·subst e; simp at h; simp; intro h1; simp [h h1]
   ·have : (n < i + 1) = (n < i) := by simp; omega
    simp [this]
theorem stepL_bit (t : Tr) (names : List ByteArray) (can a n : Nat) : ∀ i, (stepL t names can a i).testBit n = (decide (n < i) && (can.testBit n && takL t names a n))
 | 0 => by simp [stepL]
 | i + 1 => by
  rw [stepL_succ]
  split
  ·rename_i h
   rw [Nat.testBit_or, stepL_bit t names can a n i, Nat.testBit_two_pow]
   by_cases e : i = n
   ·subst e; simp [h]
   ·have : (n < i + 1) = (n < i) := by simp; omega
    simp [e, this]
  ·rename_i h
   rw [stepL_bit t names can a n i]
   by_cases e : i = n
   ·subst e; simp at h; simp; intro h1; simp [h h1]
   ·have : (n < i + 1) = (n < i) := by simp; omega
    simp [this]
theorem stepK_snd (t : Tr) (s : ByteArray) (can x : Nat) : ∀ i, (∀ n, n < i → x.testBit n = (can.testBit n && mtch t s n)) → (stepK t s can i).2 = orK t.fol x i
 | 0, _ => rfl
 | i + 1, h => by
  rw [stepK_succ, orK_succ, h i (by omega), ← stepK_snd t s can x i fun n hn => h n (by omega)]
  split <;> rfl
theorem stepK_snd' (t : Tr) (s : ByteArray) (can : Nat) : (stepK t s can 256).2 = orK t.fol (stepK t s can 256).1 256 :=
 stepK_snd t s can _ 256 fun n hn => by rw [stepK_fst]; simp [hn]
theorem lett_mem {names : List ByteArray} (h : Srt names) {s : ByteArray} (hs : s ∈ names) : lett names s < names.length ∧ gd names (lett names s) = s := by
 obtain ⟨i, hi, rfl⟩ := mem_gdS.1 hs
 have hl : lbF names (gd names i) = i := lbF_eq (by omega) (fun j hj => h.lt hj hi) fun j hj hj2 => by
  rcases Nat.lt_or_ge i j with h1 | h1
  ·exact ltU_ne (h.lt h1 hj2)
  ·rw [show j = i by omega]; exact List.lt_irrefl _
 unfold lett
 rw [hl, if_pos ⟨hi, rfl⟩]
 exact ⟨hi, rfl⟩
theorem lett_no {names : List ByteArray} {s : ByteArray} (hs : s ∉ names) : lett names s = names.length := by
 unfold lett
 split
 ·rename_i h
  exact absurd (toL_inj h.2 ▸ A1 h.1) hs
 ·rfl
def Re.lvs : Re → List ByteArray
 | .emp => []
 | .nod s => [s]
 | .any => [⟨#[]⟩]
 | .seq a b => a.lvs ++ b.lvs
 | .alt a b => a.lvs ++ b.lvs
 | .star a => a.lvs
theorem add_names : ∀ (e : Re) (t : Tr), (addF e t).1.names = t.names ++ e.lvs
 | .emp, t => by simp [addF, Re.lvs]
 | .nod s, t => by simp [addF, Re.lvs]
 | .any, t => by simp [addF, Re.lvs]
 | .alt a b, t => by simp only [addF, Re.lvs]; rw [add_names b, add_names a, List.append_assoc]
 | .seq a b, t => by simp only [addF, Re.lvs, conn, connK_names]; rw [add_names b, add_names a, List.append_assoc]
 | .star a, t => by simp only [addF, Re.lvs, conn, connK_names]; rw [add_names a]
theorem lvs_mem {x : ByteArray} : ∀ {e : Re}, x ∈ e.lvs → x = ⟨#[]⟩ ∨ x ∈ e.nms
 | .emp, h => by cases h
 | .nod s, h => .inr h
 | .any, h => .inl (by simpa [Re.lvs] using h)
 | .seq a b, h => by
  rcases List.mem_append.1 h with h | h
  ·exact (lvs_mem h).imp id fun h => List.mem_append_left _ h
  ·exact (lvs_mem h).imp id fun h => List.mem_append_right _ h
 | .alt a b, h => by
  rcases List.mem_append.1 h with h | h
  ·exact (lvs_mem h).imp id fun h => List.mem_append_left _ h
  ·exact (lvs_mem h).imp id fun h => List.mem_append_right _ h
 | .star a, h => lvs_mem (e := a) h
theorem leaf_name (e : Re) {n : Nat} (h : n < (addF e t00).1.names.length) : gd (addF e t00).1.names n = ⟨#[]⟩ ∨ gd (addF e t00).1.names n ∈ letF e := by
 have h1 := A1 h
 rw [add_names] at h1 ⊢
 rw [letF_mem]
 exact lvs_mem (by simpa [t00] using h1)
theorem tak_mtch {t : Tr} {names : List ByteArray} (hs : Srt names) {n : Nat} (hn : gd t.names n = ⟨#[]⟩ ∨ gd t.names n ∈ names) (s : ByteArray) : takL t names (lett names s) n = mtch t s n := by
 rw [takL_eq, mtch_eq, Bool.or_comm]
 by_cases he : gd t.names n = ⟨#[]⟩
 ·simp [he]
 ·have hm := hn.resolve_left he
  simp only [he, decide_false, Bool.or_false]
  by_cases hq : s ∈ names
  ·obtain ⟨h1, h2⟩ := lett_mem hs hq
   simp [h1, h2]
  ·rw [lett_no hq]
   have : ¬ gd t.names n = s := fun h => hq (h ▸ hm)
   simp [this]
theorem step_eq {t : Tr} {names : List ByteArray} (hs : Srt names) {can : Nat} (hn : ∀ n, can.testBit n = true → gd t.names n = ⟨#[]⟩ ∨ gd t.names n ∈ names) (s : ByteArray) : (stepK t s can 256).1 = stepL t names can (lett names s) 256 := by
 refine Nat.eq_of_testBit_eq fun n => ?_
 rw [stepK_fst, stepL_bit]
 cases hc : can.testBit n with
 | false => simp
 | true => rw [tak_mtch hs (hn n hc)]
def stF (t : Tr) (e : En) (names : List ByteArray) (s : St) (x : ByteArray) : St := (stepL t names (canAt t e s) (lett names x) 256, true)
theorem stF_run (e : Re) (hl : e.lv ≤ 64) : ∀ (l : List ByteArray) (st : St) (r : Nat × Nat), r.1 = st.1 → r.2 = canAt (addF e t00).1 (addF e t00).2 st → st.1 < 2 ^ (addF e t00).1.names.length →
  (runF (addF e t00).1 r l).1 = (l.foldl (stF (addF e t00).1 (addF e t00).2 (letF e)) st).1
 | [], st, r, h1, h2, h3 => h1
 | x :: l, st, r, h1, h2, h3 => by
  obtain ⟨hok, hlen, hf1, hf2⟩ := Cx e Dm (by simpa [t00] using hl)
  have hlow := add_low e Dm (by simpa [t00] using hl) t00_low
  have hf : (addF e t00).2.first < 2 ^ (addF e t00).1.names.length := by rw [hlen]; exact hf1
  have hc : canAt (addF e t00).1 (addF e t00).2 st < 2 ^ (addF e t00).1.names.length := canAt_lt hok hlow hf h3
  have hst := step_eq (t := (addF e t00).1) (letF_srt e) (can := canAt (addF e t00).1 (addF e t00).2 st) (fun n hn => leaf_name e (bit_lt hc hn)) x
  refine stF_run e hl l _ (stepK (addF e t00).1 x r.2 256) ?_ ?_ ?_
  ·rw [h2, hst]; rfl
  ·rw [stepK_snd', h2, hst]; rfl
  ·exact stepL_lt hc 256
structure RawSem (t : Tr) (e : En) (names : List ByteArray) (k : Nat) (l : List St) (rows : List (List Nat)) (acc : List Bool) : Prop where
 nd : l.Nodup
 fst : gd l 0 = s00 ∧ 0 < l.length
 kl : k ≤ l.length
 rl : rows.length = k
 al : acc.length = k
 row : ∀ i, i < k → ∀ a, a < names.length + 1 → gd (gd rows i) a < l.length ∧ gd l (gd (gd rows i) a) = (stepL t names (canAt t e (gd l i)) a 256, true)
 acc : ∀ i, i < k → gd acc i = accAt e i (gd l i)
theorem addSt_ext (l : List St) (s : St) : ∃ x, addSt l s = l ++ x := by
 unfold addSt; split
 ·exact ⟨[], by simp⟩
 ·exact ⟨_, rfl⟩
theorem addSt_nd {l : List St} (h : l.Nodup) (s : St) : (addSt l s).Nodup := by
 unfold addSt; split
 ·exact h
 ·rename_i hs
  exact List.nodup_append.2 ⟨h, by simp, fun a ha b hb => by simp at hb; subst hb; rintro rfl; exact hs ha⟩
theorem idx_get {α : Type} [DecidableEq α] [Inhabited α] {l : List α} {x : α} (h : x ∈ l) : gd l (idx l x) = x := by
 rw [Bj (idx_lt h)]; exact List.getElem_idxOf (idx_lt h)
theorem addSt_idx (l : List St) (s : St) : idx l s < (addSt l s).length ∧ gd (addSt l s) (idx l s) = s := by
 unfold addSt
 by_cases h : s ∈ l
 ·rw [if_pos h]
  exact ⟨idx_lt h, idx_get h⟩
 ·rw [if_neg h, idx_not h]
  exact ⟨by simp, Cq⟩
theorem rowF_sem (t : Tr) (names : List ByteArray) (can : Nat) {l : List St} (hl : l.Nodup) : ∀ a, (rowF t names can l a).1.Nodup ∧ (∃ x, (rowF t names can l a).1 = l ++ x) ∧ (rowF t names can l a).2.length = a ∧ ∀ j, j < a → gd (rowF t names can l a).2 j < (rowF t names can l a).1.length ∧ gd (rowF t names can l a).1 (gd (rowF t names can l a).2 j) = (stepL t names can j 256, true)
 | 0 => ⟨hl, ⟨[], by simp [rowF]⟩, rfl, fun j hj => by omega⟩
 | a + 1 => by
  obtain ⟨h1, ⟨x, h2⟩, h3, h4⟩ := rowF_sem t names can hl a
  rw [rowF_succ]
  obtain ⟨y, hy⟩ := addSt_ext (rowF t names can l a).1 (stepL t names can a 256, true)
  refine ⟨addSt_nd h1 _, ⟨x ++ y, by simp only []; rw [hy, h2, List.append_assoc]⟩, by simp [h3], fun j hj => ?_⟩
  simp only []
  by_cases e : j = a
  ·subst e
   rw [show gd ((rowF t names can l j).2 ++ [idx (rowF t names can l j).1 (stepL t names can j 256, true)]) j = idx (rowF t names can l j).1 (stepL t names can j 256, true) by
    have := Cq (l := (rowF t names can l j).2) (x := idx (rowF t names can l j).1 (stepL t names can j 256, true))
    rwa [h3] at this]
   exact addSt_idx _ _
  ·have hj' : j < a := by omega
   obtain ⟨h5, h6⟩ := h4 j hj'
   rw [Cd (by rw [h3]; exact hj')]
   rw [hy, Cd h5]
   exact ⟨by simp; omega, h6⟩
theorem RawSem.next {t : Tr} {e : En} {names : List ByteArray} {k : Nat} {l : List St} {rows : List (List Nat)} {acc : List Bool} (h : RawSem t e names k l rows acc) (hk : k < l.length) :
  RawSem t e names (k + 1) (rowF t names (canAt t e (gd l k)) l (names.length + 1)).1 (rows ++ [(rowF t names (canAt t e (gd l k)) l (names.length + 1)).2]) (acc ++ [accAt e k (gd l k)]) := by
 obtain ⟨h1, ⟨x, h2⟩, h3, h4⟩ := rowF_sem t names (canAt t e (gd l k)) h.nd (names.length + 1)
 generalize (rowF t names (canAt t e (gd l k)) l (names.length + 1)) = q at *
 obtain ⟨q1, q2⟩ := q
 simp only [] at *
 subst h2
 refine ⟨h1, ⟨by rw [Cd h.fst.2]; exact h.fst.1, by have := h.fst.2; simp; omega⟩, by simp; omega, by simp [h.rl], by simp [h.al], fun i hi a ha => ?_, fun i hi => ?_⟩
 ·rw [Cd (l := l) (by omega : i < l.length)]
  by_cases ei : i = k
  ·subst ei
   have : gd (rows ++ [q2]) i = q2 := by have := Cq (l := rows) (x := q2); rwa [h.rl] at this
   rw [this]
   exact h4 a ha
  ·have : gd (rows ++ [q2]) i = gd rows i := Cd (by rw [h.rl]; omega)
   rw [this]
   obtain ⟨h5, h6⟩ := h.row i (by omega) a ha
   exact ⟨by simp; omega, by rw [Cd h5]; exact h6⟩
 ·rw [Cd (l := l) (by omega : i < l.length)]
  by_cases ei : i = k
  ·subst ei
   have := Cq (l := acc) (x := accAt e i (gd l i)); rwa [h.al] at this
  ·rw [Cd (by rw [h.al]; omega)]
   exact h.acc i (by omega)
theorem raw_sem {t : Tr} {e : En} {names : List ByteArray} : ∀ (f k : Nat) (l : List St) (rows : List (List Nat)) (acc : List Bool) (r : List (List Nat) × List Bool), RawSem t e names k l rows acc → rawGo t e names f k l rows acc = some r → ∃ L, RawSem t e names L.length L r.1 r.2
 | 0, _, _, _, _, _, _, h => by cases h
 | f + 1, k, l, rows, acc, r, hi, h => by
  rw [rawGo_succ] at h
  split at h
  ·rename_i hk
   split at h
   ·cases h
   ·exact raw_sem f _ _ _ _ r (hi.next hk) h
  ·rename_i hk
   cases h
   have : k = l.length := by have := hi.kl; omega
   subst this
   exact ⟨l, hi⟩
theorem raw_sem0 {e : Re} {r : List (List Nat) × List Bool} (h : rawF e = some r) : ∃ L, RawSem (addF e t00).1 (addF e t00).2 (letF e) L.length L r.1 r.2 :=
 raw_sem 201 0 [s00] [] [] r ⟨by simp, ⟨rfl, by simp⟩, by simp, rfl, rfl, fun i hi => by omega, fun i hi => by omega⟩ h
theorem raw_run {t : Tr} {e : En} {names : List ByteArray} {L : List St} {rows : List (List Nat)} {acc : List Bool} (h : RawSem t e names L.length L rows acc) : ∀ (l : List ByteArray) (i : Nat), i < L.length → (l.foldl (afterF ⟨names, rows, acc⟩) i) < L.length ∧ gd L (l.foldl (afterF ⟨names, rows, acc⟩) i) = l.foldl (stF t e names) (gd L i)
 | [], i, hi => ⟨hi, rfl⟩
 | x :: l, i, hi => by
  obtain ⟨h1, h2⟩ := h.row i hi (lett names x) (Nat.lt_succ_of_le (lett_le _ _))
  have h3 := raw_run h l (afterF ⟨names, rows, acc⟩ i x) h1
  rw [show gd L (afterF ⟨names, rows, acc⟩ i x) = stF t e names (gd L i) x from h2] at h3
  exact h3
theorem stF_true (t : Tr) (e : En) (names : List ByteArray) : ∀ (l : List ByteArray) (s : St), l ≠ [] → (l.foldl (stF t e names) s).2 = true
 | [], s, h => absurd rfl h
 | [x], s, _ => by rw [List.foldl_cons, List.foldl_nil]; unfold stF; rfl
 | x :: y :: l, s, _ => by rw [List.foldl_cons]; exact stF_true t e names (y :: l) _ (by simp)
theorem raw_acc {e : Re} (hl : e.lv ≤ 64) {r : List (List Nat) × List Bool} (h : rawF e = some r) (l : List ByteArray) : gd r.2 (runM ⟨letF e, r.1, r.2⟩ l) = matchF e l := by
 obtain ⟨L, hL⟩ := raw_sem0 h
 obtain ⟨h1, h2⟩ := raw_run hL l 0 hL.fst.2
 rw [hL.fst.1] at h2
 show gd r.2 (l.foldl (afterF ⟨letF e, r.1, r.2⟩) 0) = _
 rw [hL.acc _ h1, h2]
 obtain ⟨hok, hlen, hf1, hf2⟩ := Cx e Dm (by simpa [t00] using hl)
 unfold matchF accAt
 cases l with
 | nil =>
  simp [s00]
 | cons x l =>
  have hne : ¬ ((x :: l).foldl (afterF ⟨letF e, r.1, r.2⟩) 0) = 0 := fun h0 => by
   have h3 := stF_true (addF e t00).1 (addF e t00).2 (letF e) (x :: l) s00 (by simp)
   rw [← h2, h0, hL.fst.1] at h3
   cases h3
  rw [if_neg (by simp), decide_eq_false (p := (((x :: l).foldl (afterF ⟨letF e, r.1, r.2⟩) 0 : Nat) : Int) = 0) (by omega)]
  rw [stF_run e hl (x :: l) s00 (0, (addF e t00).2.first) U U (Nat.two_pow_pos _)]
  simp
end Go.Proofs.YtkdolgnpkjihpaaGreatDoor
namespace Go.Proofs.YtkdolgnpkjihpaaGreatDoor
open _root_.Go.Proofs.Tryz
open Go.RowKit
set_option linter.unusedVariables false
set_option linter.unusedSimpArgs false
def rnA (m : PM) (i : Nat) (ws : List Nat) : Nat := ws.foldl (nx m) i
def Lts (m : PM) (ws : List Nat) : Prop := ∀ a ∈ ws, a < m.names.length + 1
theorem rnA_lt {m : PM} (hp : PMok m) : ∀ (ws : List Nat) {i : Nat}, Lts m ws → i < m.next.length → rnA m i ws < m.next.length
 | [], i, _, hi => hi
 | a :: ws, i, ha, hi => rnA_lt hp ws (fun x hx => ha x (List.mem_cons_of_mem _ hx)) (nx_lt hp hi (ha a (by simp)))
def Dst (m : PM) (i k : Nat) : Prop := ∃ ws, Lts m ws ∧ ¬ gd m.acc (rnA m i ws) = gd m.acc (rnA m k ws)
theorem Dst.step {m : PM} {i k a : Nat} (ha : a < m.names.length + 1) (h : Dst m (nx m i a) (nx m k a)) : Dst m i k := by
 obtain ⟨ws, h1, h2⟩ := h
 exact ⟨a :: ws, fun x hx => by
  rcases List.mem_cons.1 hx with rfl | hx
  ·exact ha
  ·exact h1 x hx, h2⟩
structure Part (m : PM) (b : List Nat) : Prop where
 acc : ∀ i, i < m.next.length → ∀ k, k < m.next.length → gd b i = gd b k → gd m.acc i = gd m.acc k
 cong : ∀ i, i < m.next.length → ∀ k, k < m.next.length → gd b i = gd b k → ∀ a, a < m.names.length + 1 → gd b (nx m i a) = gd b (nx m k a)
 dst : ∀ i, i < m.next.length → ∀ k, k < m.next.length → ¬ gd b i = gd b k → Dst m i k
theorem Part.run {m : PM} (hp : PMok m) {b : List Nat} (h : Part m b) : ∀ (ws : List Nat) {i k : Nat}, Lts m ws → i < m.next.length → k < m.next.length → gd b i = gd b k → gd b (rnA m i ws) = gd b (rnA m k ws)
 | [], _, _, _, _, _, he => he
 | a :: ws, i, k, ha, hi, hk, he => h.run hp ws (fun x hx => ha x (List.mem_cons_of_mem _ hx)) (nx_lt hp hi (ha a (by simp))) (nx_lt hp hk (ha a (by simp))) (h.cong i hi k hk he a (ha a (by simp)))
theorem Part.iff {m : PM} (hp : PMok m) {b : List Nat} (h : Part m b) {i k : Nat} (hi : i < m.next.length) (hk : k < m.next.length) : gd b i = gd b k ↔ ¬ Dst m i k := by
 constructor
 ·rintro he ⟨ws, h1, h2⟩
  exact h2 (h.acc _ (rnA_lt hp ws h1 hi) _ (rnA_lt hp ws h1 hk) (h.run hp ws h1 hi hk he))
 ·intro hd
  exact Classical.byContradiction fun hn => hd (h.dst i hi k hk hn)
structure Prt (m : PM) (b : List Nat) : Prop where
 len : b.length = m.next.length
 acc : ∀ i, i < m.next.length → ∀ k, k < m.next.length → gd b i = gd b k → gd m.acc i = gd m.acc k
 dst : ∀ i, i < m.next.length → ∀ k, k < m.next.length → ¬ gd b i = gd b k → Dst m i k
 cont : Cont b
theorem fs_is {β : Type} {f : Nat → Option β} {n : Nat} {x : β} (h : (List.range n).findSome? f = some x) : ∃ j, j < n ∧ f j = some x := by
 obtain ⟨j, hj, e⟩ := List.exists_of_findSome?_eq_some h
 exact ⟨j, List.mem_range.1 hj, e⟩
theorem findSp_is {m : PM} {b : List Nat} {k a : Nat} (h : findSp m b = some (k, a)) : k < b.length ∧ ∃ i, i < k ∧ gd b i = gd b k ∧ a < (gd m.next k).length ∧ ¬ gd b (nx m i a) = gd b (nx m k a) := by
 obtain ⟨k', hk, h1⟩ := fs_is h
 obtain ⟨i, hi, h2⟩ := fs_is h1
 split at h2
 ·rename_i he
  obtain ⟨a', ha, h3⟩ := fs_is h2
  split at h3
  ·cases h3
  ·rename_i hn
   cases h3
   exact ⟨hk, i, hi, he, ha, hn⟩
 ·cases h2
theorem findSp_no {m : PM} {b : List Nat} (h : findSp m b = none) {i k a : Nat} (hk : k < b.length) (hi : i < k) (he : gd b i = gd b k) (ha : a < (gd m.next k).length) : gd b (nx m i a) = gd b (nx m k a) := by
 have h1 := List.findSome?_eq_none_iff.1 h k (List.mem_range.2 hk)
 have h2 := List.findSome?_eq_none_iff.1 h1 i (List.mem_range.2 hi)
 rw [if_pos he] at h2
 have h3 := List.findSome?_eq_none_iff.1 h2 a (List.mem_range.2 ha)
 split at h3
 ·assumption
 ·cases h3
theorem Prt.init {m : PM} (hp : PMok m) : Prt m (initB m) := by
 have hl : (initB m).length = m.next.length := by simp [initB, hp.acc]
 have hg : ∀ i, i < m.next.length → gd (initB m) i = if gd m.acc i then 1 else 0 := fun i hi => gd_map (by rw [hp.acc]; exact hi)
 refine ⟨hl, fun i hi k hk he => ?_, fun i hi k hk hn => ⟨[], (fun x hx => by cases hx), fun he => hn ?_⟩, .init (by rw [hp.acc]; exact hp.some')⟩
 ·rw [hg i hi, hg k hk] at he
  revert he
  cases gd m.acc i <;> cases gd m.acc k <;> simp
 ·rw [hg i hi, hg k hk, show gd m.acc i = gd m.acc k from he]
theorem Prt.split {m : PM} (hp : PMok m) {b : List Nat} (h : Prt m b) {k a : Nat} (hs : findSp m b = some (k, a)) : Prt m (splitF m b k a) ∧ maxF (splitF m b k a) = maxF b + 1 := by
 obtain ⟨hk, i, hi, he, ha, hn⟩ := findSp_is hs
 have hk' : k < m.next.length := by rw [← h.len]; exact hk
 have ha' : a < m.names.length + 1 := by rw [← (hp.row _ (A1 hk')).1]; exact ha
 have hmx : ∀ x, x < b.length → gd b x ≤ maxF b := fun x hx => maxF_all (A1 hx)
 refine ⟨⟨by rw [splitF_len]; exact h.len, fun x hx y hy e => ?_, fun x hx y hy e => ?_, h.cont.split (by omega) hk he hn⟩, split_max (by omega) hk he hn⟩
 ·have hx2 := hmx x (by rw [h.len]; exact hx)
  have hy2 := hmx y (by rw [h.len]; exact hy)
  rw [gd_splitF, gd_splitF] at e
  split at e
  ·rename_i c1
   split at e
   ·rename_i c2
    exact h.acc x hx y hy (by rw [c1.2.1, c2.2.1])
   ·omega
  ·split at e
   ·omega
   ·exact h.acc x hx y hy e
 ·by_cases hb : gd b x = gd b y
  ·rw [gd_splitF, gd_splitF] at e
   have hxl : x < b.length := by rw [h.len]; exact hx
   have hyl : y < b.length := by rw [h.len]; exact hy
   refine .step ha' (h.dst _ (nx_lt hp hx ha') _ (nx_lt hp hy ha') fun hc => e ?_)
   rw [hb, hc]
   simp only [hxl, hyl, true_and]
  ·exact h.dst x hx y hy hb
theorem refine_part {m : PM} (hp : PMok m) : ∀ (f : Nat) {b : List Nat}, Prt m b → 200 < f + maxF b → Part m (refineF m f b)
 | 0, b, h, hf => by
  have h1 := h.cont.max_le
  have h2 := hp.few
  have h3 := h.len
  omega
 | f + 1, b, h, hf => by
  cases hs : findSp m b with
  | none =>
   rw [refineF_none hs]
   refine ⟨h.acc, fun i hi k hk he a ha => ?_, h.dst⟩
   rcases Nat.lt_trichotomy i k with h1 | h1 | h1
   ·exact findSp_no hs (by rw [h.len]; exact hk) h1 he (by rw [(hp.row _ (A1 hk)).1]; exact ha)
   ·rw [h1]
   ·exact (findSp_no hs (by rw [h.len]; exact hi) h1 he.symm (by rw [(hp.row _ (A1 hi)).1]; exact ha)).symm
  | some p =>
   obtain ⟨k, a⟩ := p
   rw [refineF_some hs]
   obtain ⟨h1, h2⟩ := h.split hp hs
   exact refine_part hp f h1 (by omega)
theorem refine_part0 {m : PM} (hp : PMok m) : Part m (refineF m 201 (initB m)) := refine_part hp 201 (.init hp) (by omega)
structure NumSem (m : PM) (b order : List Nat) (k : Nat) (rows : List (List Nat)) (acc : List Bool) : Prop where
 ord : OrdOk m b order
 fst : gd order 0 = 0 ∧ 0 < order.length
 kl : k ≤ order.length
 rl : rows.length = k
 al : acc.length = k
 row : ∀ i, i < k → ∀ a, a < m.names.length + 1 → gd (gd rows i) a < order.length ∧ gd b (gd order (gd (gd rows i) a)) = gd b (nx m (gd order i) a)
 acc : ∀ i, i < k → gd acc i = gd m.acc (gd order i)
theorem numK_sem (b tos order : List Nat) : ∀ i, (∃ x, (numK b tos order i).1 = order ++ x) ∧ (numK b tos order i).2.length = i ∧ ∀ j, j < i → gd (numK b tos order i).2 j < (numK b tos order i).1.length ∧ gd b (gd (numK b tos order i).1 (gd (numK b tos order i).2 j)) = gd b (gd tos j)
 | 0 => ⟨⟨[], by simp [numK]⟩, rfl, fun j hj => by omega⟩
 | i + 1 => by
  obtain ⟨⟨x, h2⟩, h3, h4⟩ := numK_sem b tos order i
  have hm := numK_mem b tos order i
  have hx := idx_lt hm
  have hg : gd ((numK b tos order (i + 1)).1.map (gd b)) (idx ((numK b tos order (i + 1)).1.map (gd b)) (gd b (gd tos i))) = gd b (gd tos i) := by
   rw [Bj hx]; exact List.getElem_idxOf hx
  rw [numK_idx] at hx hg
  rw [List.length_map] at hx
  rw [gd_map hx] at hg
  have hext : ∃ y, (numK b tos order (i + 1)).1 = (numK b tos order i).1 ++ y := by
   rw [numK_succ]; simp only []
   split
   ·exact ⟨[], by simp⟩
   ·exact ⟨_, rfl⟩
  have h2nd : (numK b tos order (i + 1)).2 = (numK b tos order i).2 ++ [idx ((numK b tos order i).1.map (gd b)) (gd b (gd tos i))] := rfl
  generalize (numK b tos order (i + 1)) = q at *
  obtain ⟨q1, q2⟩ := q
  simp only [] at *
  obtain ⟨y, hy⟩ := hext
  refine ⟨⟨x ++ y, by rw [hy, h2, List.append_assoc]⟩, by rw [h2nd]; simp [h3], fun j hj => ?_⟩
  rw [h2nd]
  by_cases e : j = i
  ·subst e
   have : gd ((numK b tos order j).2 ++ [idx ((numK b tos order j).1.map (gd b)) (gd b (gd tos j))]) j = idx ((numK b tos order j).1.map (gd b)) (gd b (gd tos j)) := by
    have := Cq (l := (numK b tos order j).2) (x := idx ((numK b tos order j).1.map (gd b)) (gd b (gd tos j)))
    rwa [h3] at this
   rw [this]
   exact ⟨hx, hg⟩
  ·obtain ⟨h5, h6⟩ := h4 j (by omega)
   rw [Cd (by rw [h3]; omega), hy, Cd h5]
   exact ⟨by simp; omega, h6⟩
theorem NumSem.next {m : PM} (hp : PMok m) {b order : List Nat} {k : Nat} {rows : List (List Nat)} {acc : List Bool} (h : NumSem m b order k rows acc) (hk : k < order.length) :
  NumSem m b (numK b (gd m.next (gd order k)) order (gd m.next (gd order k)).length).1 (k + 1) (rows ++ [(numK b (gd m.next (gd order k)) order (gd m.next (gd order k)).length).2]) (acc ++ [gd m.acc (gd order k)]) := by
 have hok := h.ord.lt (gd order k) (A1 hk)
 obtain ⟨hr1, hr2⟩ := hp.row (gd m.next (gd order k)) (A1 hok)
 obtain ⟨g1, g2, g3⟩ := h.ord.step hr2 (gd m.next (gd order k)).length (Nat.le_refl _)
 obtain ⟨⟨x, h2⟩, h3, h4⟩ := numK_sem b (gd m.next (gd order k)) order (gd m.next (gd order k)).length
 generalize numK b (gd m.next (gd order k)) order (gd m.next (gd order k)).length = q at *
 obtain ⟨q1, q2⟩ := q
 simp only [] at *
 subst h2
 refine ⟨g1, ⟨by rw [Cd h.fst.2]; exact h.fst.1, by have := h.fst.2; simp; omega⟩, by simp; omega, by simp [h.rl], by simp [h.al], fun i hi a ha => ?_, fun i hi => ?_⟩
 ·by_cases ei : i = k
  ·subst ei
   have : gd (rows ++ [q2]) i = q2 := by have := Cq (l := rows) (x := q2); rwa [h.rl] at this
   rw [this, Cd (l := order) hk]
   exact h4 a (by rw [hr1]; exact ha)
  ·have : gd (rows ++ [q2]) i = gd rows i := Cd (by rw [h.rl]; omega)
   rw [this, Cd (l := order) (by omega : i < order.length)]
   obtain ⟨h5, h6⟩ := h.row i (by omega) a ha
   exact ⟨by simp; omega, by rw [Cd h5]; exact h6⟩
 ·rw [Cd (l := order) (by omega : i < order.length)]
  by_cases ei : i = k
  ·subst ei
   have := Cq (l := acc) (x := gd m.acc (gd order i)); rwa [h.al] at this
  ·rw [Cd (by rw [h.al]; omega)]
   exact h.acc i (by omega)
theorem numGo_sem {m : PM} (hp : PMok m) {b : List Nat} : ∀ (f k : Nat) (order : List Nat) (rows : List (List Nat)) (acc : List Bool), NumSem m b order k rows acc → 200 < f + k → ∃ O, NumSem m b O O.length (numGo m b f k order rows acc).1 (numGo m b f k order rows acc).2
 | 0, k, order, rows, acc, h, hf => by
  have h1 := h.ord.few
  have h2 := hp.few
  have := h.kl; omega
 | f + 1, k, order, rows, acc, h, hf => by
  rw [numGo_succ]
  split
  ·rename_i hk
   exact numGo_sem hp f (k + 1) _ _ _ (h.next hp hk) (by omega)
  ·rename_i hk
   have : k = order.length := by have := h.kl; omega
   subst this
   exact ⟨order, h⟩
theorem numF_sem {m : PM} (hp : PMok m) (b : List Nat) : ∃ O, NumSem m b O O.length (numF m b).next (numF m b).acc :=
 numGo_sem hp 201 0 [0] [] [] ⟨⟨by simp, fun s hs => by
  simp only [List.mem_cons, List.not_mem_nil, or_false] at hs
  subst hs; exact hp.some'⟩, ⟨rfl, by simp⟩, Nat.zero_le _, rfl, rfl, fun i hi => by omega, fun i hi => by omega⟩ (by omega)
theorem num_run {m : PM} (hp : PMok m) {b : List Nat} (hb : Part m b) {O : List Nat} (h : NumSem m b O O.length (numF m b).next (numF m b).acc) : ∀ (ws : List Nat) {i : Nat}, Lts m ws → i < O.length → rnA (numF m b) i ws < O.length ∧ gd b (gd O (rnA (numF m b) i ws)) = gd b (rnA m (gd O i) ws)
 | [], i, _, hi => ⟨hi, rfl⟩
 | a :: ws, i, ha, hi => by
  have ha0 := ha a (by simp)
  have hoi := h.ord.lt _ (A1 hi)
  obtain ⟨h1, h2⟩ := h.row i hi a ha0
  have has : Lts m ws := fun x hx => ha x (List.mem_cons_of_mem _ hx)
  obtain ⟨h3, h4⟩ := num_run hp hb h ws has h1
  refine ⟨h3, h4.trans ?_⟩
  exact hb.run hp ws has (h.ord.lt _ (A1 h1)) (nx_lt hp hoi ha0) h2
theorem num_acc {m : PM} (hp : PMok m) {b : List Nat} (hb : Part m b) {O : List Nat} (h : NumSem m b O O.length (numF m b).next (numF m b).acc) {ws : List Nat} {i : Nat} (ha : Lts m ws) (hi : i < O.length) : gd (numF m b).acc (rnA (numF m b) i ws) = gd m.acc (rnA m (gd O i) ws) := by
 obtain ⟨h1, h2⟩ := num_run hp hb h ws ha hi
 rw [h.acc _ h1]
 exact hb.acc _ (h.ord.lt _ (A1 h1)) _ (rnA_lt hp ws ha (h.ord.lt _ (A1 hi))) h2
theorem runM_rnA (m : PM) : ∀ (l : List ByteArray) (i : Nat), l.foldl (afterF m) i = rnA m i (l.map (lett m.names))
 | [], i => rfl
 | x :: l, i => runM_rnA m l (afterF m i x)
theorem lts_map (m : PM) (l : List ByteArray) : Lts m (l.map (lett m.names)) := fun a ha => by
 obtain ⟨x, _, rfl⟩ := List.mem_map.1 ha
 exact Nat.lt_succ_of_le (lett_le _ _)
theorem least_acc {m : PM} (hp : PMok m) (l : List ByteArray) : gd (leastF m).acc (runM (leastF m) l) = gd m.acc (runM m l) := by
 obtain ⟨O, hO⟩ := numF_sem hp (refineF m 201 (initB m))
 have h := num_acc hp (refine_part0 hp) hO (lts_map m l) hO.fst.2
 rw [hO.fst.1] at h
 unfold runM
 rw [runM_rnA, runM_rnA]
 exact h
theorem build_acc {e : Re} (hl : e.lv ≤ 64) (h : (buildF leastF e).2 = 0) (l : List ByteArray) : gd (buildF leastF e).1.acc (runM (buildF leastF e).1 l) = matchF e l := by
 unfold buildF at *
 cases hr : rawF e with
 | none => rw [hr] at h; cases h
 | some r =>
  simp only []
  rw [← raw_acc hl hr l, ← least_acc (rawF_ok hl hr) l]
  rfl
end Go.Proofs.YtkdolgnpkjihpaaGreatDoor
namespace Go.Proofs.YtkdolgnpkjihpaaGreatDoor
open _root_.Go.Proofs.Tryz
open Go.RowKit
set_option linter.unusedVariables false
set_option linter.unusedSimpArgs false
abbrev BRow := Nat × List Bool
def ap (M : List BRow) (k i : Nat) : Bool := gd (gd M k).2 i
def setA (M : List BRow) (k i : Nat) (v : Bool) : List BRow := M.set k ((gd M k).1, (gd M k).2.set i v)
structure ApOk (n : Nat) (M : List BRow) : Prop where
 len : M.length = n
 row : ∀ k, k < n → (gd M k).2.length = n
def cf (M : List BRow) : Nat := (M.map fun r => r.2.countP fun x => !x).sum
theorem gdB_set {l : List BRow} {k x : Nat} {r : BRow} (hk : k < l.length) : gd (l.set k r) x = if x = k then r else gd l x := by
 unfold gd
 by_cases e : x = k
 ·subst e; simp [List.getD, hk]
 ·rw [if_neg e]; simp [List.getD, List.getElem?_set, Ne.symm e]
theorem gdb_set {l : List Bool} {k x : Nat} {r : Bool} (hk : k < l.length) : gd (l.set k r) x = if x = k then r else gd l x := by
 unfold gd
 by_cases e : x = k
 ·subst e; simp [List.getD, hk]
 ·rw [if_neg e]; simp [List.getD, List.getElem?_set, Ne.symm e]
theorem ap_set {n : Nat} {M : List BRow} (h : ApOk n M) {k i : Nat} (hk : k < n) (hi : i < n) (x y : Nat) (v : Bool) : ap (setA M k i v) x y = if x = k ∧ y = i then v else ap M x y := by
 unfold ap setA
 rw [gdB_set (by rw [h.len]; exact hk)]
 by_cases e : x = k
 ·subst e
  rw [if_pos rfl]
  simp only []
  rw [gdb_set (by rw [h.row x hk]; exact hi)]
  simp
 ·rw [if_neg e, if_neg (fun h => e h.1)]
theorem ok_set {n : Nat} {M : List BRow} (h : ApOk n M) {k : Nat} (hk : k < n) (i : Nat) (v : Bool) : ApOk n (setA M k i v) := by
 refine ⟨by simp [setA, h.len], fun x hx => ?_⟩
 unfold setA
 rw [gdB_set (by rw [h.len]; exact hk)]
 split
 ·simp [h.row k hk]
 ·exact h.row x hx
structure ApInv (m : PM) (M : List BRow) : Prop where
 ok : ApOk m.next.length M
 base : ∀ k, k < m.next.length → ∀ i, i < m.next.length → ¬ gd m.acc k = gd m.acc i → ap M k i = true
 irr : ∀ k, k < m.next.length → ap M k k = false
def Clo (m : PM) (M : List BRow) (k i a : Nat) : Prop := ap M (nx m k a) (nx m i a) = true → ap M k i = true
theorem ApInv.set {m : PM} (hp : PMok m) {M : List BRow} (h : ApInv m M) {k i a : Nat} (hk : k < m.next.length) (hi : i < m.next.length) (ha : a < m.names.length + 1) (hs : ap M (nx m k a) (nx m i a) = true) : ApInv m (setA M k i true) := by
 have hne : ¬ k = i := fun e => by
  subst e
  rw [h.irr _ (nx_lt hp hk ha)] at hs; cases hs
 refine ⟨ok_set h.ok hk i true, fun x hx y hy hxy => ?_, fun x hx => ?_⟩
 ·rw [ap_set h.ok hk hi]; split
  ·rfl
  ·exact h.base x hx y hy hxy
 ·rw [ap_set h.ok hk hi, if_neg (fun e : x = k ∧ x = i => hne (e.1.symm.trans e.2)), h.irr x hx]
structure Pas (m : PM) (M0 M : List BRow) (more : Bool) (k i a : Nat) : Prop where
 inv : ApInv m M
 fst : M.map Prod.fst = M0.map Prod.fst
 le : cf M ≤ cf M0
 more' : more = true → cf M < cf M0
 done : more = false → (∀ x, x < k → ∀ y, y < m.next.length → ∀ z, z < m.names.length + 1 → Clo m M x y z) ∧ (∀ y, y < i → ∀ z, z < m.names.length + 1 → Clo m M k y z) ∧ ∀ z, z < a → Clo m M k i z
theorem Pas.start {m : PM} {M : List BRow} (h : ApInv m M) : Pas m M M false 0 0 0 := ⟨h, rfl, Nat.le_refl _, (fun h => by cases h), fun _ => ⟨fun x hx => absurd hx (Nat.not_lt_zero _), fun x hx => absurd hx (Nat.not_lt_zero _), fun x hx => absurd hx (Nat.not_lt_zero _)⟩⟩
theorem Pas.row {m : PM} {M0 M : List BRow} {more : Bool} {k : Nat} (h : Pas m M0 M more k m.next.length 0) : Pas m M0 M more (k + 1) 0 0 := ⟨h.inv, h.fst, h.le, h.more', fun e => ⟨fun x hx => by
 by_cases ex : x = k
 ·subst ex; exact (h.done e).2.1
 ·exact (h.done e).1 x (by omega), fun x hx => absurd hx (Nat.not_lt_zero _), fun x hx => absurd hx (Nat.not_lt_zero _)⟩⟩
theorem Pas.no {m : PM} {M0 M : List BRow} {more : Bool} {k i a : Nat} (h : Pas m M0 M more k i a) (hc : Clo m M k i a) : Pas m M0 M more k i (a + 1) := ⟨h.inv, h.fst, h.le, h.more', fun e => ⟨(h.done e).1, (h.done e).2.1, fun z hz => by
 by_cases ez : z = a
 ·subst ez; exact hc
 ·exact (h.done e).2.2 z (by omega)⟩⟩
def apR (m : PM) (k i : Nat) : List Bool := (List.range m.next.length).map fun j => decide (j < i) && (gd m.acc k != gd m.acc j)
theorem apR_len (m : PM) (k i : Nat) : (apR m k i).length = m.next.length := by simp [apR]
theorem apR_gd (m : PM) (k i : Nat) {j : Nat} (hj : j < m.next.length) : gd (apR m k i) j = (decide (j < i) && (gd m.acc k != gd m.acc j)) := by
 unfold apR; rw [gd_map (by simpa using hj), Bj (by simpa using hj)]; simp
def Mad (m : PM) (M : List BRow) (k : Nat) : Prop := M.length = k ∧ ∀ x, x < k → (gd M x).2 = apR m x m.next.length
theorem Mad.add {m : PM} {M : List BRow} {k : Nat} (h : Mad m M k) (b : Nat) : Mad m (M ++ [(b, apR m k m.next.length)]) (k + 1) := by
 refine ⟨by simp [h.1], fun x hx => ?_⟩
 by_cases e : x = k
 ·subst e
  have := Cq (l := M) (x := ((b, apR m x m.next.length) : BRow))
  rw [h.1] at this; rw [this]
 ·rw [Cd (by rw [h.1]; omega)]; exact h.2 x (by omega)
theorem Mad.inv {m : PM} {M : List BRow} (h : Mad m M m.next.length) : ApInv m M := by
 have hap : ∀ k, k < m.next.length → ∀ i, i < m.next.length → ap M k i = (gd m.acc k != gd m.acc i) := fun k hk i hi => by
  unfold ap; rw [h.2 k hk, apR_gd m k _ hi]; simp [hi]
 refine ⟨⟨h.1, fun k hk => by rw [h.2 k hk, apR_len]⟩, fun k hk i hi hn => ?_, fun k hk => ?_⟩
 ·rw [hap k hk i hi]; simpa using hn
 ·rw [hap k hk k hk]; simp
end Go.Proofs.YtkdolgnpkjihpaaGreatDoor
namespace Go.Proofs.YtkdolgnpkjihpaaGreatDoor
open _root_.Go.Proofs.Tryz
open Go.RowKit
set_option linter.unusedVariables false
set_option linter.unusedSimpArgs false
theorem bd138_2_3 (a0 : Int) (a1 : Int) (w : World) : (Instr.build 138 #[(2, .int .i64 a0), (3, .int .i64 a1)]).run Tryz.prog w = .ok (.agg #[.string ⟨#[]⟩, .bool false, .int .i64 a0, .int .i64 a1]) w := by kernel_rfl
theorem bd154_0_1 (a0 : ByteArray) (a1 : Int) (w : World) : (Instr.build 154 #[(0, .string a0), (1, .int .i64 a1)]).run Tryz.prog w = .ok (.agg #[.string a0, .int .i64 a1]) w := by kernel_rfl
theorem bd24_0 (a0 : Int) (w : World) : (Instr.build 24 #[(0, .int .i64 a0)]).run Tryz.prog w = .ok (.agg #[.int .i64 a0, .string ⟨#[]⟩, .slice none 0 0]) w := by kernel_rfl
theorem bd24_0_1 (a0 : Int) (a1 : ByteArray) (w : World) : (Instr.build 24 #[(0, .int .i64 a0), (1, .string a1)]).run Tryz.prog w = .ok (.agg #[.int .i64 a0, .string a1, .slice none 0 0]) w := by kernel_rfl
theorem bd56_0 (a0 : Option Addr) (a0n a0c : Nat) (w : World) : (Instr.build 56 #[(0, .slice a0 a0n a0c)]).run Tryz.prog w = .ok (.agg #[.slice a0 a0n a0c, .slice none 0 0, .slice none 0 0]) w := by kernel_rfl
theorem bd71_0_1_2 (a0 : Int) (a1 : Int) (a2 : Int) (w : World) : (Instr.build 71 #[(0, .int .i64 a0), (1, .int .i64 a1), (2, .int .i64 a2)]).run Tryz.prog w = .ok (.agg #[.int .i64 a0, .int .i64 a1, .int .i64 a2]) w := by kernel_rfl
theorem bs152_1_0 (a0 : Int) (w : World) : (Instr.buildSlice 152 1 #[(0, .int .u8 a0)]).run Tryz.prog w = .ok (.slice (some ⟨w.heap.size, 0, none⟩) 1 1) (w.alloc (Cl [.int .u8 a0] 5)) := by kernel_rfl
theorem bs52_4_0_1_2_3 (a0 : ByteArray) (a1 : Bool) (a2 : Int) (a3 : Int) (a4 : ByteArray) (a5 : Bool) (a6 : Int) (a7 : Int) (a8 : ByteArray) (a9 : Bool) (a10 : Int) (a11 : Int) (a12 : ByteArray) (a13 : Bool) (a14 : Int) (a15 : Int) (w : World) : (Instr.buildSlice 52 4 #[(0, .agg #[.string a0, .bool a1, .int .i64 a2, .int .i64 a3]), (1, .agg #[.string a4, .bool a5, .int .i64 a6, .int .i64 a7]), (2, .agg #[.string a8, .bool a9, .int .i64 a10, .int .i64 a11]), (3, .agg #[.string a12, .bool a13, .int .i64 a14, .int .i64 a15])]).run Tryz.prog w = .ok (.slice (some ⟨w.heap.size, 0, none⟩) 4 4) (w.alloc (Cl [.string a0, .bool a1, .int .i64 a2, .int .i64 a3, .string a4, .bool a5, .int .i64 a6, .int .i64 a7, .string a8, .bool a9, .int .i64 a10, .int .i64 a11, .string a12, .bool a13, .int .i64 a14, .int .i64 a15] 138)) := by kernel_rfl
theorem bs53_6_0_1_2_3_4_5 (a0 : Int) (a1 : Int) (a2 : Int) (a3 : Int) (a4 : Int) (a5 : Int) (a6 : Int) (a7 : Int) (a8 : Int) (a9 : Int) (a10 : Int) (a11 : Int) (a12 : Int) (a13 : Int) (a14 : Int) (a15 : Int) (a16 : Int) (a17 : Int) (w : World) : (Instr.buildSlice 53 6 #[(0, .agg #[.int .i64 a0, .int .i64 a1, .int .i64 a2]), (1, .agg #[.int .i64 a3, .int .i64 a4, .int .i64 a5]), (2, .agg #[.int .i64 a6, .int .i64 a7, .int .i64 a8]), (3, .agg #[.int .i64 a9, .int .i64 a10, .int .i64 a11]), (4, .agg #[.int .i64 a12, .int .i64 a13, .int .i64 a14]), (5, .agg #[.int .i64 a15, .int .i64 a16, .int .i64 a17])]).run Tryz.prog w = .ok (.slice (some ⟨w.heap.size, 0, none⟩) 6 6) (w.alloc (Cl [.int .i64 a0, .int .i64 a1, .int .i64 a2, .int .i64 a3, .int .i64 a4, .int .i64 a5, .int .i64 a6, .int .i64 a7, .int .i64 a8, .int .i64 a9, .int .i64 a10, .int .i64 a11, .int .i64 a12, .int .i64 a13, .int .i64 a14, .int .i64 a15, .int .i64 a16, .int .i64 a17] 71)) := by kernel_rfl
theorem bs54_2_0_1 (a0 : ByteArray) (a1 : Int) (a2 : ByteArray) (a3 : Int) (w : World) : (Instr.buildSlice 54 2 #[(0, .agg #[.string a0, .int .i64 a1]), (1, .agg #[.string a2, .int .i64 a3])]).run Tryz.prog w = .ok (.slice (some ⟨w.heap.size, 0, none⟩) 2 2) (w.alloc (Cl [.string a0, .int .i64 a1, .string a2, .int .i64 a3] 154)) := by kernel_rfl
theorem fa56_2 (b o : Nat) (w : World) : (Instr.fieldAt 56 (.pointer (some ⟨b, o, none⟩)) 2).run Tryz.prog w = .ok (.pointer (some ⟨b, o + 2, none⟩)) w := by kernel_rfl
theorem bytes_ext {a b : ByteArray} (h : ¬ ¬ a.data.toList = b.data.toList) : a = b := ByteArray.ext (Array.ext' (Classical.not_not.1 h))
section
variable {P : Program} {w0 : World} {s t : TypeId} {ty : TypeId} {L : Fm} {H : List (Nat × Obj)} {x : Operand}
theorem yl_convB {e n c : Nat} {b0 : Int} (hx : Ev L x (.slice (some ⟨n, 0, none⟩) 1 c)) (hs : ∀ w, (underlying s).run P w = .ok (.slice e) w) (he : ∀ w, (underlying e).run P w = .ok (.int .u8) w) (ht : ∀ w, (underlying t).run P w = .ok .string w) (hc : Cell w0 H ⟨n, 0, none⟩ (.int .u8 b0)) :
  Yl P w0 (.convert s t x) ty L H (.string ⟨#[b0.toNat.toUInt8]⟩) := yl_of U fun H' hs' b w hO => by
 have hc' := hc.mono hs' w hO
 have hl : (loadCells ⟨n, 0, none⟩ 1).run P w = .ok #[.int .u8 b0] w := by
  have := run_loadCells (P := P) (b := n) (o := 0) (w := w) [.int .u8 b0] 0 #[] (fun j v hj => by
   cases j with
   | zero => simp at hj; subst hj; exact hc'
   | succ j => simp at hj)
  simpa [loadCells] using this
 simp [exO, execOp, hx b, convert, hs, ht, he, Conv.bytesToString, hl, Sem.run_bind, Result.andThen]
 rfl
end
abbrev exC (a b c d : ByteArray) : List Value := [.string a, .bool false, .int .i64 100, .int .i64 100, .string b, .bool false, .int .i64 100, .int .i64 100, .string c, .bool false, .int .i64 100, .int .i64 100, .string d, .bool false, .int .i64 100, .int .i64 100]
def exNm (j k : Nat) : ByteArray := if j < k then ⟨#[(IntKind.u8.wrap (97 + (j : Int))).toNat.toUInt8]⟩ else ⟨#[]⟩
abbrev exK (k : Nat) : List Value := exC (exNm 0 k) (exNm 1 k) (exNm 2 k) (exNm 3 k)
theorem ex_set {k : Nat} (hk : k < 4) : SetN (exK k) (0 + k * 4) (.string ⟨#[(IntKind.u8.wrap (97 + (k : Int))).toNat.toUInt8]⟩) (exK (k + 1)) := by
 match k, hk with
 | 0, _ => exact setN_of rfl
 | 1, _ => exact setN_of rfl
 | 2, _ => exact setN_of rfl
 | 3, _ => exact setN_of rfl
def exLinks : List Ln := [⟨0, 1, 10⟩, ⟨1, 3, 10⟩, ⟨0, 2, 10⟩, ⟨2, 3, 10⟩, ⟨1, 2, 10⟩, ⟨3, 0, 10⟩]
def exEdges : List Edg := [⟨⟨#[101]⟩, 0⟩, ⟨⟨#[102]⟩, 3⟩]
def exN (n1 n2 n3 : Nat) : Nn where
 nodes := [⟨⟨#[97]⟩, false, 100, 100⟩, ⟨⟨#[98]⟩, false, 100, 100⟩, ⟨⟨#[99]⟩, false, 100, 100⟩, ⟨⟨#[100]⟩, false, 100, 100⟩]
 links := exLinks
 edges := exEdges
 qn := some ⟨n1, 0, none⟩
 cn := 4
 ql := some ⟨n2, 0, none⟩
 cl := 6
 qe := some ⟨n3, 0, none⟩
 ce := 2
theorem Di {α : Type} {w0 : World} {H : List (Nat × Obj)} {n sz : Nat} {enc : α → List Value} {l : List α} {cells : List Value} {e : TypeId} (he : ∀ x, (enc x).length = sz) (hc : cells = l.flatMap enc) (hf : Fnd H n (Cl cells e)) : Arr w0 H (some ⟨n, 0, none⟩) sz enc l := fun i x hi =>
 ⟨rfl, fun j v hj => by
  refine Cr hf ?_
  rw [hc]
  have := flat_get he l i x j v hi hj
  simpa [oq] using this⟩
theorem ex_net {w0 : World} {H : List (Nat × Obj)} {n1 n2 n3 : Nat} (h1 : Fnd H n1 (Cl (exK 4) 138)) (h2 : Fnd H n2 (Cl (exLinks.flatMap encLn) 71)) : NetR w0 H (exN n1 n2 n3) where
 nodes := Di (fun _ => rfl) U h1
 links := Di (fun _ => rfl) U h2
theorem ex_ok (n1 n2 n3 : Nat) : NnOk (exN n1 n2 n3) where
 fewN := by simp [exN]
 fewL := by simp [exN, exLinks]
 ends := by simp [exN, exLinks]
theorem Ch {w0 : World} {H : List (Nat × Obj)} (k : Int) (q : Option Addr) (xs : List Rxm) (c : Nat) :
  FSpec Tryz.prog w0 26 #[.int .i64 k, .slice q xs.length c] H (Still (.agg (encRx (.mk k ⟨#[]⟩ q c xs)).toArray) H) := by
 refine A7 Tryz.func26 U ntmps26 U (Ah (Ab (e_ (Ap zeroValue24 cs_) ?_ U)))
 rintro _ _ ⟨n4, rfl, rfl⟩
 refine Af (Ac (Ah (Ab (y_ (Ae (T U)) (y_ (Ae (T U)) (y_ (Bq (.cons (T U) (.cons (T U) .nil)) (bd24_0_2 _ _ _ _)) ?_ U) U) U))))
 first | refine A0 (As (T U) (T U) sizeOf24) U Ag ?_
 rintro _ _ ⟨rfl, rfl⟩
 refine Af (Ac (A5 (A6 U (.cellA (Aa U) isAgg24 sizeOf24 U (by first | exact Bc) .nil) ?_)))
 exact ⟨_, ⟨rfl, rfl⟩, sbt⟩
theorem node_s {w0 : World} {H : List (Nat × Obj)} (s : ByteArray) :
  FSpec Tryz.prog w0 45 #[.string s] H (Still (.agg (encRx (.mk 2 s none 0 [])).toArray) H) := by
 refine A7 Tryz.func45 U ntmps45 U (Ah (Ab (e_ (Ap zeroValue24 cs_) ?_ U)))
 rintro _ _ ⟨n2, rfl, rfl⟩
 refine Af (Ac (Ah (Ab (y_ (Ae (T U)) (y_ (Bq (.cons Ak (.cons (T U) .nil)) (bd24_0_1 _ _)) ?_ U) U))))
 first | refine A0 (As (T U) (T U) sizeOf24) U Ag ?_
 rintro _ _ ⟨rfl, rfl⟩
 refine Af (Ac (A5 (A6 U (.cellA (Aa U) isAgg24 sizeOf24 U (by first | exact Bc) .nil) ?_)))
 exact ⟨_, ⟨rfl, rfl⟩, sbt⟩
theorem some_s {w0 : World} {H : List (Nat × Obj)}  :
  FSpec Tryz.prog w0 44 #[] H (Still (.agg (encRx (.mk 3 ⟨#[]⟩ none 0 [])).toArray) H) := by
 refine A7 Tryz.func44 U ntmps44 U (Ah (Ab (e_ (Ap zeroValue24 cs_) ?_ U)))
 rintro _ _ ⟨n0, rfl, rfl⟩
 refine Af (Ac (Ah (Ab (y_ (Bq (.cons Ak .nil) (bd24_0 _)) ?_ U))))
 first | refine A0 (As (T U) (T U) sizeOf24) U Ag ?_
 rintro _ _ ⟨rfl, rfl⟩
 refine Af (Ac (A5 (A6 U (.cellA (Aa U) isAgg24 sizeOf24 U (by first | exact Bc) .nil) ?_)))
 exact ⟨_, ⟨rfl, rfl⟩, sbt⟩
theorem empty_s {w0 : World} {H : List (Nat × Obj)}  :
  FSpec Tryz.prog w0 27 #[] H (Still (.agg (encRx (.mk 1 ⟨#[]⟩ none 0 [])).toArray) H) := by
 refine A7 Tryz.func27 U ntmps27 U (Ah (Ab (e_ (Ap zeroValue24 cs_) ?_ U)))
 rintro _ _ ⟨n0, rfl, rfl⟩
 refine Af (Ac (Ah (Ab (y_ (Bq (.cons Ak .nil) (bd24_0 _)) ?_ U))))
 first | refine A0 (As (T U) (T U) sizeOf24) U Ag ?_
 rintro _ _ ⟨rfl, rfl⟩
 refine Af (Ac (A5 (A6 U (.cellA (Aa U) isAgg24 sizeOf24 U (by first | exact Bc) .nil) ?_)))
 exact ⟨_, ⟨rfl, rfl⟩, sbt⟩
theorem sameInts_s {w0 : World} {H : List (Nat × Obj)} (q q2 : Option Addr) (cap cap2 : Nat) (x y : List Int) (hx : Arr w0 H q 1 encI x) (hy : Arr w0 H q2 1 encI y) (hl : x.length ≤ 9223372036854775807) :
  FSpec Tryz.prog w0 31 #[.slice q x.length cap, .slice q2 y.length cap2] H (Still (.bool (decide (x = y))) H) := by
 refine A7 Tryz.func31 U ntmps31 U (Ah (Ab (y_ (Ad Ak) (Af (Ac (Ah (Ah (Ab (y_ (Ae (T U)) (y_ (Bw (T U) runUnderlying42) (y_ (Ae (T U)) (y_ (Bw (T U) runUnderlying42) (y_ (C3 (T U) (T U)) (Af (Ac ?_)) U) U) U) U) U)))))) U)))
 first | refine Au (Aa U) (fun c10 => ?_) (fun c10 => ?_) | refine Bb (Aa U) (fun c10 => ?_) (fun c10 => ?_)
 ·refine Ah (Ab (y_ (Ad Ak) (Af (Ac (A5 (Ao (A6 U (.tmp (Aa U) .nil) ?_))))) U))
  exact ⟨_, ⟨by rw [decide_eq_false (fun h => c10 (by rw [h]))]; rfl, rfl⟩, sbt⟩
 ·refine A9 (Ac (Ah (Ah (Ab (y_ (Ad Ak) (Af (Ac (A2 ?_))) U)))))
  refine Co (X := Nat) (V := fun k => [(5, .int .i64 (k : Nat))]) (C := [(0, _), (1, _)]) (φ := fun k => k ≤ x.length ∧ x.take k = y.take k) (μ := fun k => x.length - k) (x0 := 0) ?_ ⟨Aa U, Aa U, trivial⟩ ⟨atd, trivial⟩ ?_
  ·exact ⟨Nat.zero_le _, rfl⟩
  rintro k ⟨hk, heq⟩
  refine Ah (Ah (Ab (y_ (Ae (T U)) (y_ (Ae (T U)) (y_ (Bw (T U) runUnderlying42) (y_ (B4 (T U) (T U)) (Af (Ac ?_)) U) U) U) U)))
  first | refine Au (Aa U) (fun c14 => ?_) (fun c14 => ?_) | refine Bb (Aa U) (fun c14 => ?_) (fun c14 => ?_)
  ·refine A9 (Ac (Ah (A2 (Ah (Cv 9 [(0, true), (1, true), (2, true), (3, true), (4, true), (5, true), (6, true), (7, true), (8, true)] _ mixd (by kernel_rfl) sb0 ?_)))))
   refine o_y U (Ae (T U)) (o_y U (Ae (T U)) (o_y U (Bh (T U) (T U) runUnderlying42 sizeOf3 (by omega) (by first | exact rfl | exact hx.b (i := k) (by omega) | exact hy.b (i := k) (by omega))) ?_ U Ag) U Ag) U Ag
   refine o_y U (Ai (T U) isAgg3 (by first | exact c_o | exact cell1 ((hx.mono sbt).cs (i := k) (by omega)) | exact cell1 ((hx.mono sbt).cs (i := k) (by omega)) | exact cell1 ((hy.mono sbt).cs (i := k) (by omega)))) ?_ U Ag
   refine o_y U (Ae (T U)) (o_y U (Ae (T U)) (o_y U (Bh (T U) (T U) runUnderlying42 sizeOf3 (by omega) (by first | exact rfl | exact hx.b (i := k) (by omega) | exact hy.b (i := k) (by omega))) ?_ U Ag) U Ag) U Ag
   refine o_y U (Ai (T U) isAgg3 (by first | exact c_o | exact cell1 ((hy.mono sbt).cs (i := k) (by omega)) | exact cell1 ((hx.mono sbt).cs (i := k) (by omega)) | exact cell1 ((hy.mono sbt).cs (i := k) (by omega)))) ?_ U Ag
   refine o_y U (C3 (T U) (T U)) (B5 U (Af (Ac ?_))) U Ag
   first | refine Au (Aa U) (fun c25 => ?_) (fun c25 => ?_) | refine Bb (Aa U) (fun c25 => ?_) (fun c25 => ?_)
   ·refine Ah (Ab (y_ (Ad Ak) (Af (Ac (A5 (Aw (Ao (B9 (Aw (Ao (A6 U (.tmp (Aa U) .nil) ?_))))))))) U))
    exact ⟨_, ⟨by rw [decide_eq_false (fun h => c25 (by rw [h]))]; rfl, rfl⟩, sbt⟩
   ·refine A9 (Bm (Ac (Ab (y_ (Ae (T U)) (y_ (Bv (T U) Ak (by omega)) ?_ U) U))))
    refine y_ (Ad (T U)) (Af ?_) U
    refine Bs (k + 1) ?_ ?_ ⟨atd, trivial⟩ ⟨Aa U, Aa U, trivial⟩ ?_
    ·exact ⟨by omega, by rw [take_gd (by omega), take_gd (by omega), heq, Classical.not_not.1 c25]⟩
    ·first | omega | (simp only []; omega)
    ·exact sbt
  ·refine B7 (A4 (A8 (Ba (Ac (Ah (Ab (y_ (Ad Ak) (Af (Ac (A5 (A6 U (.tmp (Aa U) .nil) ?_)))) U)))))))
   exact ⟨_, ⟨by rw [decide_eq_true (by rw [take_end (by omega), take_end (by omega)] at heq; exact heq)]; rfl, rfl⟩, sbt⟩
theorem sameNames_s {w0 : World} {H : List (Nat × Obj)} (q q2 : Option Addr) (cap cap2 : Nat) (x y : List ByteArray) (hx : Arr w0 H q 1 encS x) (hy : Arr w0 H q2 1 encS y) (hl : x.length ≤ 9223372036854775807) :
  FSpec Tryz.prog w0 25 #[.slice q x.length cap, .slice q2 y.length cap2] H (Still (.bool (decide (x = y))) H) := by
 refine A7 Tryz.func25 U ntmps25 U (Ah (Ab (y_ (Ad Ak) (Af (Ac (Ah (Ah (Ab (y_ (Ae (T U)) (y_ (Bw (T U) runUnderlying25) (y_ (Ae (T U)) (y_ (Bw (T U) runUnderlying25) (y_ (C3 (T U) (T U)) (Af (Ac ?_)) U) U) U) U) U)))))) U)))
 first | refine Au (Aa U) (fun c10 => ?_) (fun c10 => ?_) | refine Bb (Aa U) (fun c10 => ?_) (fun c10 => ?_)
 ·refine Ah (Ab (y_ (Ad Ak) (Af (Ac (A5 (Ao (A6 U (.tmp (Aa U) .nil) ?_))))) U))
  exact ⟨_, ⟨by rw [decide_eq_false (fun h => c10 (by rw [h]))]; rfl, rfl⟩, sbt⟩
 ·refine A9 (Ac (Ah (Ah (Ab (y_ (Ad Ak) (Af (Ac (A2 ?_))) U)))))
  refine Co (X := Nat) (V := fun k => [(5, .int .i64 (k : Nat))]) (C := [(0, _), (1, _)]) (φ := fun k => k ≤ x.length ∧ x.take k = y.take k) (μ := fun k => x.length - k) (x0 := 0) ?_ ⟨Aa U, Aa U, trivial⟩ ⟨atd, trivial⟩ ?_
  ·exact ⟨Nat.zero_le _, rfl⟩
  rintro k ⟨hk, heq⟩
  refine Ah (Ah (Ab (y_ (Ae (T U)) (y_ (Ae (T U)) (y_ (Bw (T U) runUnderlying25) (y_ (B4 (T U) (T U)) (Af (Ac ?_)) U) U) U) U)))
  first | refine Au (Aa U) (fun c14 => ?_) (fun c14 => ?_) | refine Bb (Aa U) (fun c14 => ?_) (fun c14 => ?_)
  ·refine A9 (Ac (Ah (A2 (Ah (Cv 9 [(0, true), (1, true), (2, true), (3, true), (4, true), (5, true), (6, true), (7, true), (8, true)] _ mixd (by kernel_rfl) sb0 ?_)))))
   refine o_y U (Ae (T U)) (o_y U (Ae (T U)) (o_y U (Bh (T U) (T U) runUnderlying25 sizeOf9 (by omega) (by first | exact rfl | exact hx.b (i := k) (by omega) | exact hy.b (i := k) (by omega))) ?_ U Ag) U Ag) U Ag
   refine o_y U (Ai (T U) isAgg9 (by first | exact c_o | exact cell1 ((hx.mono sbt).cs (i := k) (by omega)) | exact cell1 ((hx.mono sbt).cs (i := k) (by omega)) | exact cell1 ((hy.mono sbt).cs (i := k) (by omega)))) ?_ U Ag
   refine o_y U (Ae (T U)) (o_y U (Ae (T U)) (o_y U (Bh (T U) (T U) runUnderlying25 sizeOf9 (by omega) (by first | exact rfl | exact hx.b (i := k) (by omega) | exact hy.b (i := k) (by omega))) ?_ U Ag) U Ag) U Ag
   refine o_y U (Ai (T U) isAgg9 (by first | exact c_o | exact cell1 ((hy.mono sbt).cs (i := k) (by omega)) | exact cell1 ((hx.mono sbt).cs (i := k) (by omega)) | exact cell1 ((hy.mono sbt).cs (i := k) (by omega)))) ?_ U Ag
   refine o_y U (yl_neSD (T U) (T U)) (B5 U (Af (Ac ?_))) U Ag
   first | refine Au (Aa U) (fun c25 => ?_) (fun c25 => ?_) | refine Bb (Aa U) (fun c25 => ?_) (fun c25 => ?_)
   ·refine Ah (Ab (y_ (Ad Ak) (Af (Ac (A5 (Aw (Ao (B9 (Aw (Ao (A6 U (.tmp (Aa U) .nil) ?_))))))))) U))
    exact ⟨_, ⟨by rw [decide_eq_false (fun h => c25 (by rw [h]))]; rfl, rfl⟩, sbt⟩
   ·refine A9 (Bm (Ac (Ab (y_ (Ae (T U)) (y_ (Bv (T U) Ak (by omega)) ?_ U) U))))
    refine y_ (Ad (T U)) (Af ?_) U
    refine Bs (k + 1) ?_ ?_ ⟨atd, trivial⟩ ⟨Aa U, Aa U, trivial⟩ ?_
    ·exact ⟨by omega, by rw [take_gd (by omega), take_gd (by omega), heq, bytes_ext c25]⟩
    ·first | omega | (simp only []; omega)
    ·exact sbt
  ·refine B7 (A4 (A8 (Ba (Ac (Ah (Ab (y_ (Ad Ak) (Af (Ac (A5 (A6 U (.tmp (Aa U) .nil) ?_)))) U)))))))
   exact ⟨_, ⟨by rw [decide_eq_true (by rw [take_end (by omega), take_end (by omega)] at heq; exact heq)]; rfl, rfl⟩, sbt⟩
theorem example_s {w0 : World} {H : List (Nat × Obj)} :
  FSpec Tryz.prog w0 43 #[] H (fun v H' => ∃ y : Nat × Nat × Nat, v = .agg (encNn (exN y.1 y.2.1 y.2.2)).toArray ∧ H' = (y.2.2, Cl (exEdges.flatMap encE) 154) :: (y.2.1, Cl (exLinks.flatMap encLn) 71) :: (y.1, Cl (exK 4) 138) :: H) := by
 refine A7 Tryz.func43 U ntmps43 U (Ah (Ab (e_ (Ap zeroValue56 cs_) ?_ U)))
 rintro _ _ ⟨n0, rfl, rfl⟩
 refine Af (Ac (Ah (Ab (y_ (Bq (.cons Ak (.cons Ak .nil)) (bd138_2_3 _ _)) (e_ (Ap zeroValue138 cs_) ?_ U) U))))
 rintro _ _ ⟨n1, rfl, rfl⟩
 first | refine A0 (As (T U) (T U) sizeOf138) U Ag ?_
 rintro _ _ ⟨rfl, rfl⟩
 refine Af (Ac (Ah (Ab (y_ (Am (T U) isAgg138 sizeOf138 U (by first | exact Bc)) ?_ U))))
 refine y_ (Am (T U) isAgg138 sizeOf138 U (by first | exact Bc)) ?_ U
 refine y_ (Am (T U) isAgg138 sizeOf138 U (by first | exact Bc)) ?_ U
 refine y_ (Am (T U) isAgg138 sizeOf138 U (by first | exact Bc)) ?_ U
 refine e_ (An (.cons (T U) (.cons (T U) (.cons (T U) (.cons (T U) .nil)))) (bs52_4_0_1_2_3 _ _ _ _ _ _ _ _ _ _ _ _ _ _ _ _)) ?_ U
 rintro _ _ ⟨n9, rfl, rfl⟩
 refine y_ (Bq (.cons (T U) .nil) (bd56_0 _ _ _)) (e_ (Ap zeroValue56 cs_) ?_ U) U
 rintro _ _ ⟨n2, rfl, rfl⟩
 first | refine A0 (As (T U) (T U) sizeOf56) U Ag ?_
 rintro _ _ ⟨rfl, rfl⟩
 refine Af (Ac (Ah (Ah (Ab (y_ (Ad Ak) (Af (Ac (A2 ?_))) U)))))
 refine Cn (X := Nat) (V := fun k => [(3, .int .i64 (k : Nat))]) (C := [(0, _), (2, _)]) (G := fun k => (n2, Cl [.slice (some ⟨n9, 0, none⟩) 4 4, .slice none 0 0, .slice none 0 0] 56) :: (n9, Cl (exK k) 138) :: (n1, Cl [.string ⟨#[]⟩, .bool false, .int .i64 100, .int .i64 100] 138) :: (n0, Cl [.slice none 0 0, .slice none 0 0, .slice none 0 0] 56) :: H) (φ := fun k => k ≤ 4) (μ := fun k => 4 - k) (x0 := 0) ?_ ⟨Aa U, Aa U, trivial⟩ ⟨atd, trivial⟩ sb0 ?_
 ·show 0 ≤ 4; omega
 rintro k hk
 refine Ah (Ah (Ab (y_ (Ae (T U)) (y_ (B4 (T U) Ak) (Af (Ac ?_)) U) U)))
 first | refine Au (Aa U) (fun c12 => ?_) (fun c12 => ?_) | refine Bb (Aa U) (fun c12 => ?_) (fun c12 => ?_)
 ·refine A9 (Ac (Ah (A2 (Ab (y_ (Bp (T U) fa56_0) (y_ (Ai (T U) isAgg52 (by first | exact c_o)) ?_ U) U)))))
  refine y_ (Ae (T U)) (y_ (Ae (T U)) (y_ (Bv Ak (T U) (by omega)) ?_ U) U) U
  refine y_ (yl_convI (T U) runUnderlying3 runUnderlying5) (e_ (An (.cons (T U) .nil) (bs152_1_0 _)) ?_ U) U
  rintro _ _ ⟨n21, rfl, rfl⟩
  refine y_ (yl_convB (T U) runUnderlying152 runUnderlying5 runUnderlying9 (by first | exact c_o)) ?_ U
  refine y_ (Bh (T U) (T U) runUnderlying52 sizeOf138 (by omega) (by first | exact rfl)) ?_ U
  refine y_ (Bp (T U) fa138_0) (e_ (eff_store1 (T U) (T U) U sizeOf9 (ex_set (k := k) (by omega)) (by repeat (first | exact Upd.h | apply Upd.t | apply Dz))) ?_ U) U
  rintro _ _ ⟨rfl, rfl⟩
  refine Af (Bm (Ac (Ab (y_ (Ae (T U)) (y_ (Bv (T U) Ak (by omega)) ?_ U) U))))
  refine y_ (Ad (T U)) (Af ?_) U
  refine Bs (k + 1) ?_ ?_ ⟨atd, trivial⟩ ⟨Aa U, Aa U, trivial⟩ ?_
  ·show k + 1 ≤ 4; omega
  ·first | omega | (simp only []; omega)
  ·exact sbt
 ·refine B7 (A4 (A8 (Ba (Ac (Ah (Ab (y_ (Bq (.cons Ak (.cons Ak (.cons Ak .nil))) (bd71_0_1_2 _ _ _)) (y_ (Bq (.cons Ak (.cons Ak (.cons Ak .nil))) (bd71_0_1_2 _ _ _)) (y_ (Bq (.cons Ak (.cons Ak (.cons Ak .nil))) (bd71_0_1_2 _ _ _)) (y_ (Bq (.cons Ak (.cons Ak (.cons Ak .nil))) (bd71_0_1_2 _ _ _)) (y_ (Bq (.cons Ak (.cons Ak (.cons Ak .nil))) (bd71_0_1_2 _ _ _)) (y_ (Bq (.cons Ak (.cons Ak (.cons Ak .nil))) (bd71_0_1_2 _ _ _)) (e_ (An (.cons (T U) (.cons (T U) (.cons (T U) (.cons (T U) (.cons (T U) (.cons (T U) .nil)))))) (bs53_6_0_1_2_3_4_5 _ _ _ _ _ _ _ _ _ _ _ _ _ _ _ _ _ _)) ?_ U) U) U) U) U) U) U)))))))
  rintro _ _ ⟨n31, rfl, rfl⟩
  refine y_ (Bk (T U) fa56_1) ?_ U
  first | refine A0 (As (T U) (T U) sizeOf53) U Ag ?_ | refine A0 (B6 (T U) (T U) U sizeOf53) U Ag ?_ | refine A0 (By (T U) (T U) U sizeOf53) U Ag ?_
  rintro _ _ ⟨rfl, rfl⟩
  refine Af (Ac (Ah (Ab (y_ (Bq (.cons Ak (.cons Ak .nil)) (bd154_0_1 _ _)) (y_ (Bq (.cons Ak (.cons Ak .nil)) (bd154_0_1 _ _)) (e_ (An (.cons (T U) (.cons (T U) .nil)) (bs54_2_0_1 _ _ _ _)) ?_ U) U) U))))
  rintro _ _ ⟨n35, rfl, rfl⟩
  refine y_ (Bk (T U) fa56_2) ?_ U
  first | refine A0 (As (T U) (T U) sizeOf54) U Ag ?_ | refine A0 (B6 (T U) (T U) U sizeOf54) U Ag ?_ | refine A0 (By (T U) (T U) U sizeOf54) U Ag ?_
  rintro _ _ ⟨rfl, rfl⟩
  refine Af (Ac (Ah (Ab (y_ (Am (T U) isAgg56 sizeOf56 U (by first | exact Bc)) ?_ U))))
  first | refine A0 (As (T U) (T U) sizeOf56) U Ag ?_
  rintro _ _ ⟨rfl, rfl⟩
  refine Af (Ac (A5 (A6 U (.cellA (Aa U) isAgg56 sizeOf56 U (by first | exact Bc) .nil) ?_)))
  have e4 : k = 4 := by omega
  subst e4
  exact ⟨_, ⟨(n9, n31, n35), rfl, rfl⟩, sbt⟩
end Go.Proofs.YtkdolgnpkjihpaaGreatDoor
namespace Go.Proofs.YtkdolgnpkjihpaaGreatDoor
open _root_.Go.Proofs.Tryz
open Go.RowKit
set_option linter.unusedVariables false
set_option linter.unusedSimpArgs false
theorem sF1 (n1 n2 n3 : Nat) (q : Option Addr) (c : Nat) : findF (exN n1 n2 n3) ⟨q, c, [], -1⟩ sM 0 3 = ([2, 3], 0) := by kernel_rfl
theorem sF2 (n1 n2 n3 : Nat) (q : Option Addr) (c : Nat) : findF (exN n1 n2 n3) ⟨q, c, [2], -1⟩ sM 0 3 = ([0, 4, 3], 0) := by kernel_rfl
theorem sF3 (n1 n2 n3 : Nat) (q : Option Addr) (c : Nat) : findF (exN n1 n2 n3) ⟨q, c, [], -1⟩ sM 1 3 = ([], 18) := by kernel_rfl
theorem sMet (n1 n2 n3 : Nat) (q : Option Addr) (c : Nat) : metF (exN n1 n2 n3) ⟨q, c, [], -1⟩ sM 1 = [(1, 2), (3, 2), (2, 2), (0, 2)] := by kernel_rfl
theorem sHo (n1 n2 n3 : Nat) (q : Option Addr) (c : Nat) : holdsF (exN n1 n2 n3) ⟨q, c, [], -1⟩ sX 0 3 [2, 3] = true := by kernel_rfl
theorem sRe (n1 n2 n3 : Nat) (q : Option Addr) (c : Nat) : decide (RefOk (exN n1 n2 n3) ⟨q, c, [], -1⟩ sM 1 3 [(0, 2), (1, 2), (2, 2), (3, 2)]) = true := by kernel_rfl
theorem sReach {n1 n2 n3 : Nat} {q : Option Addr} {c : Nat} {ks : List Pl} (h : Reach (exN n1 n2 n3) ⟨q, c, [], -1⟩ sM 1 ks) : ks = [(0, 2), (1, 2), (2, 2), (3, 2)] := by
 have h1 := h.1
 rw [if_neg (show ¬ (-1 : Int) = ((1 : Nat) : Int) by decide), sMet] at h1
 have h3 : ks.Perm [(0, 2), (1, 2), (2, 2), (3, 2)] := h1.trans (by decide)
 refine h3.eq_of_pairwise (fun a b ha hb hab hba => ?_) h.2 (by decide)
 have h1 : a ∈ [(0, 2), (1, 2), (2, 2), (3, 2)] := h3.mem_iff.1 ha
 simp only [List.mem_cons, List.not_mem_nil, or_false] at h1 hb
 rcases h1 with rfl | rfl | rfl | rfl <;> rcases hb with rfl | rfl | rfl | rfl <;> first | rfl | (revert hab hba; decide)
end Go.Proofs.YtkdolgnpkjihpaaGreatDoor
namespace Go.Proofs.YtkdolgnpkjihpaaGreatDoor
open _root_.Go.Proofs.Tryz
open Go.RowKit
set_option linter.unusedVariables false
set_option linter.unusedSimpArgs false
theorem still_b {P : Program} {w0 : World} {f : FuncId} {args : Array Value} {H : List (Nat × Obj)} {b c : Bool} (e : b = c) (h : FSpec P w0 f args H (Still (.bool b) H)) : FSpec P w0 f args H (Still (.bool c) H) := e ▸ h
theorem rx0 {w0 : World} {H : List (Nat × Obj)} {k : Int} {s : ByteArray} (hs : s.size ≤ 9223372036854775807 := by decide) : RxM w0 H (.mk k s none 0 []) := .mk (fun i x hi => by cases hi) (fun a ha => by cases ha) hs (by decide)
theorem rx1 {w0 : World} {H : List (Nat × Obj)} {k : Int} {n : Nat} {a : Rxm} (h : RxM w0 H a) (hf : Fnd H n (Cl (encRx a) 24) := by repeat (first | exact A3 | refine Al ?_ | refine Ar ?_)) : RxM w0 H (.mk k ⟨#[]⟩ (some ⟨n, 0, none⟩) 1 [a]) :=
 .mk (Di (fun _ => rfl) (by simp) hf) (fun x hx => by rw [List.mem_singleton] at hx; subst hx; exact h) (by decide) (by simp)
theorem rx2 {w0 : World} {H : List (Nat × Obj)} {k : Int} {n : Nat} {a b : Rxm} (h1 : RxM w0 H a) (h2 : RxM w0 H b) (hf : Fnd H n (Cl (encRx a ++ encRx b) 24) := by repeat (first | exact A3 | refine Al ?_ | refine Ar ?_)) : RxM w0 H (.mk k ⟨#[]⟩ (some ⟨n, 0, none⟩) 2 [a, b]) :=
 .mk (arrRx2 hf) (fun x hx => by simp only [List.mem_cons, List.not_mem_nil, or_false] at hx; rcases hx with rfl | rfl <;> assumption) (by decide) (by simp)
theorem buildM_s {w0 : World} {H : List (Nat × Obj)} (m : Rxm) (e : Re) (hI : Is m e) (hM : RxM w0 H m) (hl : e.lv ≤ 64) {pm : PM} {cc : Int} (hb : buildF leastF e = (pm, cc)) :
  FSpec Tryz.prog w0 12 #[.agg (encRx m).toArray] H (fun v H' => ∃ (y : Mc) (M : List (Nat × Obj)), (v = .tuple #[.agg (encMc y).toArray, .int .i64 cc] ∧ y.pl = pm ∧ McOk w0 (M ++ H) y) ∧ H' = M ++ H) := by
 have h := buildL_s (w0 := w0) H m e hI hM hl
 rw [hb] at h
 refine h.mono fun v H' hk => ?_
 obtain ⟨y, ⟨rfl, hok, ho⟩, rfl⟩ := hk
 refine ⟨mcOf pm.names (slQ y.1) (slC y.1) y.2 pm.acc, rowsH y.2.2.2 ++ (slH y.2.1 (y.2.2.2.flatMap encRow) 42 ++ (slH y.2.2.1 (pm.acc.flatMap encB1) 4 ++ slH y.1 (pm.names.flatMap encS) 9)), ⟨by rw [mcOf_enc], mcOf_pl ho, ?_⟩, by simp only [List.append_assoc]⟩
 have h2 := mcOf_ok (w0 := w0) (names := pm.names) (q1 := slQ y.1) (c1 := slC y.1) (H := slH y.1 (pm.names.flatMap encS) 9 ++ H) ho ((Bz (X := H) (enc := encS) (sz := 1) (e := 9) (l := pm.names) (fun _ => rfl) hok).mono (by exact sbt))
 simpa only [List.append_assoc, mOut] using h2
theorem C6 {w0 : World} {H : List (Nat × Obj)} (m1 m2 : Rxm) (ea eb : Re) (hIa : Is m1 ea) (hIb : Is m2 eb) (hMa : RxM w0 H m1) (hMb : RxM w0 H m2) (hla : ea.lv ≤ 32) (hlb : eb.lv ≤ 32) {l : List ByteArray} {b : Bool} {c : Int} (he : equalF ea eb = (l, b, c)) :
  FSpec Tryz.prog w0 23 #[.agg (encRx m1).toArray, .agg (encRx m2).toArray] H (fun v H' => ∃ d : Sl, (v = .tuple #[slV d l.length, .bool b, .int .i64 c] ∧ SlOk d l.length 1) ∧ H' = slH d (l.flatMap encS) 9 ++ H) := by
 have h := equal_s m1 m2 ea eb hIa hIb hMa hMb hla hlb
 rw [he] at h
 exact h
theorem findE_s {w0 : World} {H : List (Nat × Obj)} (n : Nn) (f : Flr) (m : Mc) (he : Env w0 H n f m) (ho : EnvOk n f m) (x : Nat) (hx : x < n.nodes.length) (to : Nat) {l : List Nat} {c : Int} (hf : findF n f m.pl x to = (l, c)) :
  FSpec Tryz.prog w0 29 #[.agg (encNn n).toArray, .agg (encFl f).toArray, .agg (encMc m).toArray, .int .i64 (x : Int), .int .i64 (to : Int)] H (fun v H' => ∃ d : Sl, (v = .tuple #[slV d l.length, .int .i64 c] ∧ SlOk d l.length 1) ∧ H' = slH d (l.flatMap encU) 3 ++ H) := by
 have h := find_s n f m he ho x hx to
 rw [hf] at h
 exact h
theorem reachedE_s {w0 : World} {H : List (Nat × Obj)} (n : Nn) (f : Flr) (m : Mc) (he : Env w0 H n f m) (ho : EnvOk n f m) (x : Nat) (hx : x < n.nodes.length) :
  FSpec Tryz.prog w0 35 #[.agg (encNn n).toArray, .agg (encFl f).toArray, .agg (encMc m).toArray, .int .i64 (x : Int)] H (fun v H' => ∃ (d : Sl) (l : List Pl), (v = slV d l.length ∧ SlOk d l.length 2 ∧ Reach n f m.pl x l) ∧ H' = slH d (l.flatMap encPl) 74 ++ H) :=
 (reached_s n f m he ho x hx).mono fun v H' ⟨y, h1, h2⟩ => ⟨y.1, y.2, h1, h2⟩
theorem arrUI {w0 : World} {H : List (Nat × Obj)} {q : Option Addr} {l : List Nat} (h : Arr w0 H q 1 encU l) : Arr w0 H q 1 encI (l.map fun k : Nat => (k : Int)) := fun i x hi => by
 rw [List.getElem?_map] at hi
 cases hl : l[i]? with
 | none => rw [hl] at hi; cases hi
 | some k =>
  rw [hl] at hi
  have : (k : Int) = x := by simpa using hi
  subst this
  exact h i k hl
theorem arrPP {w0 : World} {H : List (Nat × Obj)} {q : Option Addr} {l : List Pl} (h : Arr w0 H q 2 encPl l) : Arr w0 H q 2 encPI (l.map toI) := fun i x hi => by
 rw [List.getElem?_map] at hi
 cases hl : l[i]? with
 | none => rw [hl] at hi; cases hi
 | some k =>
  rw [hl] at hi
  have : toI k = x := by simpa using hi
  subst this
  exact h i k hl
def miOf (m : Mc) : Mi := ⟨m.names, m.rows.map fun r => ⟨r.q, r.c, r.l.map fun k : Nat => (k : Int)⟩, m.acc, m.q1, m.c1, m.q2, m.c2, m.q3, m.c3⟩
theorem miOf_enc (m : Mc) : encMi (miOf m) = encMc m := by simp [miOf]
theorem miOf_ok {w0 : World} {H : List (Nat × Obj)} {m : Mc} (h : McOk w0 H m) (hp : PMok m.pl) (hl : m.names.length ≤ 100) : MiOk w0 H (miOf m) := by
 have hrl : m.pl.next.length = m.rows.length := List.length_map ..
 refine ⟨h.a1, fun i x hi => ?_, h.a3, fun r hr => ?_, show m.names.length ≤ _ by omega, ?_, fun r hr => ?_⟩
 ·simp only [miOf, List.getElem?_map] at hi
  cases hl : m.rows[i]? with
  | none => rw [hl] at hi; cases hi
  | some r =>
   rw [hl] at hi
   have h1 := h.a2 i r hl
   have : (⟨r.q, r.c, r.l.map fun k : Nat => (k : Int)⟩ : RowI) = x := by simpa using hi
   subst this
   have e : encRI ⟨r.q, r.c, r.l.map fun k : Nat => (k : Int)⟩ = encRQ r := by simp [encRI, encRQ]
   rw [e]; exact h1
 ·simp only [miOf, List.mem_map] at hr
  obtain ⟨r0, h0, rfl⟩ := hr
  exact arrUI (h.r r0 h0)
 ·have := hp.few
  simp only [miOf, List.length_map]; omega
 ·simp only [miOf, List.mem_map] at hr
  obtain ⟨r0, h0, rfl⟩ := hr
  have := (hp.row r0.l (by simp only [Mc.pl, List.mem_map]; exact ⟨r0, h0, rfl⟩)).1
  simp only [List.length_map]
  rw [this]; show m.names.length + 1 ≤ _; omega
theorem compact_srt {names : List ByteArray} (h : Srt names) : (cptB names).length = names.length := by
 have h1 : (names.map toL).Pairwise (· < ·) := by rw [List.pairwise_map]; exact h
 have h2 := compact_incrU (names.map toL) (h1.imp fun h => Std.le_of_lt h)
 have h3 : Lib.compact (names.map toL) = names.map toL := by
  refine List.Perm.eq_of_pairwise (le := (· < ·)) (fun a b _ _ hab hba => absurd (ltU_trans hab hba) (List.lt_irrefl a)) h2.1 h1 ?_
  refine (List.perm_ext_iff_of_nodup (h2.1.imp fun hab e => by subst e; exact List.lt_irrefl _ hab) (h1.imp fun hab e => by subst e; exact List.lt_irrefl _ hab)).2 h2.2
 unfold cptB; rw [h3]; simp
theorem gd_lt_srt {names : List ByteArray} (h : Srt names) {i : Nat} (hi : i < names.length) (h0 : 0 < i) : toL (gd names (i - 1)) < toL (gd names i) := by
 rw [Bj hi, Bj (show i - 1 < names.length by omega)]
 exact List.pairwise_iff_getElem.1 h (i - 1) i (by omega) hi (by omega)
theorem chk_yes {m : Mc} (hp : PMok m.pl) (hs : Srt m.names) : chkI (miOf m) = true := by
 have hrl : m.pl.next.length = m.rows.length := List.length_map ..
 have e1 := hp.some'
 have e2 := hp.few
 have e3 : m.acc.length = m.pl.next.length := hp.acc
 have e4 : isSrt m.names = true := decide_eq_true fun i hi h0 h => absurd (ltU_trans h (gd_lt_srt hs hi h0)) (List.lt_irrefl _)
 have e5 : (m.rows.map fun r => (⟨r.q, r.c, r.l.map fun k : Nat => (k : Int)⟩ : RowI)).any (fun r => badRow m.names.length (m.rows.map fun r => (⟨r.q, r.c, r.l.map fun k : Nat => (k : Int)⟩ : RowI)).length r.l) = false := by
  rw [List.any_eq_false]
  intro r hr
  rw [List.mem_map] at hr
  obtain ⟨r0, h0, rfl⟩ := hr
  have h1 := hp.row r0.l (by simp only [Mc.pl, List.mem_map]; exact ⟨r0, h0, rfl⟩)
  have h2 : r0.l.length = m.names.length + 1 := h1.1
  simp only [badRow, List.length_map, Bool.or_eq_true, decide_eq_true_eq, List.any_eq_true, not_or, not_exists, not_and]
  refine ⟨by omega, fun x hx => ?_⟩
  rw [List.mem_map] at hx
  obtain ⟨s, h3, rfl⟩ := hx
  have := h1.2 s h3
  simp only [badTo, Bool.or_eq_true, decide_eq_true_eq]
  omega
 have hl : (miOf m).rows.length = m.rows.length := List.length_map ..
 have a1 : decide ((miOf m).rows.length = 0) = false := decide_eq_false (by omega)
 have a2 : decide (200 < (miOf m).rows.length) = false := decide_eq_false (by omega)
 have a3 : decide (¬ (miOf m).acc.length = (miOf m).rows.length) = false := decide_eq_false (by show ¬ ¬ m.acc.length = _; omega)
 have a4 : isSrt (miOf m).names = true := e4
 have a5 : decide (¬ (cptB (miOf m).names).length = (miOf m).names.length) = false := decide_eq_false (by show ¬ ¬ (cptB m.names).length = m.names.length; rw [compact_srt hs]; simp)
 have a6 : ((miOf m).rows.any fun r => badRow (miOf m).names.length (miOf m).rows.length r.l) = false := e5
 unfold chkI
 rw [a1, a2, a3, a4, a5, a6]
 rfl
theorem chkM_s {w0 : World} {H : List (Nat × Obj)} (m : Mc) (hm : McOk w0 H m) (hp : PMok m.pl) (hs : Srt m.names) (hl : m.names.length ≤ 100) :
  FSpec Tryz.prog w0 18 #[.agg (encMc m).toArray] H (Still (.bool true) H) := by
 have h := still_b (chk_yes hp hs) (pcheck_s (miOf m) (miOf_ok hm hp hl))
 rw [miOf_enc] at h
 exact h
theorem sM_ok : PMok sM := by
 have := (Cz (e := sX) (by decide) (by rw [sX_build])).1
 rw [sX_build] at this; exact this
theorem sM_srt : Srt sM.names := by
 have := (Cz (e := sX) (by decide) (by rw [sX_build])).2
 rw [sX_build] at this; exact this
end Go.Proofs.YtkdolgnpkjihpaaGreatDoor
