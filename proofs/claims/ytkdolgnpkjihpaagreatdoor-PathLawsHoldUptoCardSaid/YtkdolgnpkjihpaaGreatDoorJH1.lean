/-
  A part of what LawH rests on: the logic, walks and plain laws. No condition.
-/
import Derived.Test.YtkdolgnpkjihpaaGreatDoorJH0
import Derived.Test.YtkdolgnpkjihpaaGreatDoorProg
import Derived.KernelRfl
import Derived.Shelf.Sort.Plain
import Derived.Shelf.Slices.CompactS
import Derived.Shelf.Slices.In.SortNone
import Derived.Sort.Walk0
import Derived.Laws.Strings
import Derived.ChangeKeysEq
import Derived.Scope
namespace Go.Proofs.YtkdolgnpkjihpaaGreatDoor
open _root_.Go.Proofs.Tryz
open Go.RowKit
set_option linter.unusedVariables false
set_option linter.unusedSimpArgs false
theorem bd88_0_1_2 (a0 : Int) (a1 : Int) (a2 : Int) (a3 : Int) (a4 : Int) (a5 : Int) (a6 : Int) (a7 : Int) (a8 : Bool) (w : World) : (Instr.build 88 #[(0, .agg #[.int .u64 a0, .int .u64 a1, .int .u64 a2, .int .u64 a3]), (1, .agg #[.int .u64 a4, .int .u64 a5, .int .u64 a6, .int .u64 a7]), (2, .bool a8)]).run Tryz.prog w = .ok (.agg #[.int .u64 a0, .int .u64 a1, .int .u64 a2, .int .u64 a3, .int .u64 a4, .int .u64 a5, .int .u64 a6, .int .u64 a7, .bool a8]) w := by kernel_rfl
theorem Dj (b o : Nat) (w : World) : (Instr.fieldAt 24 (.pointer (some ⟨b, o, none⟩)) 2).run Tryz.prog w = .ok (.pointer (some ⟨b, o + 2, none⟩)) w := by kernel_rfl
theorem Dq (b o : Nat) (w : World) : (Instr.fieldAt 88 (.pointer (some ⟨b, o, none⟩)) 0).run Tryz.prog w = .ok (.pointer (some ⟨b, o, none⟩)) w := by kernel_rfl
theorem Dg (b o : Nat) (w : World) : (Instr.fieldAt 88 (.pointer (some ⟨b, o, none⟩)) 1).run Tryz.prog w = .ok (.pointer (some ⟨b, o + 4, none⟩)) w := by kernel_rfl
theorem fa88_2 (b o : Nat) (w : World) : (Instr.fieldAt 88 (.pointer (some ⟨b, o, none⟩)) 2).run Tryz.prog w = .ok (.pointer (some ⟨b, o + 8, none⟩)) w := by kernel_rfl
theorem Bn {β : Type} {P : Program} {w0 : World} {f : FuncId} {args : Array Value} {H R : List (Nat × Obj)} {F : List (Nat × Obj) → List (Nat × Obj)} {φ : Value → β → Prop} {M' : β → List (Nat × Obj)} (M : List (Nat × Obj)) (hl : LocL H M R F) (h : FSpec P w0 f args (M ++ R) (fun v H' => ∃ x, φ v x ∧ H' = M' x ++ R)) : FSpec P w0 f args H (fun v H' => ∃ x, φ v x ∧ H' = F (M' x)) := spec_atL h hl
theorem Arr.cs0 {w0 : World} {H H' : List (Nat × Obj)} {q : Option Addr} {a : Rxm} {l : List Rxm} (h : Arr w0 H q 3 encRx (a :: l)) (hs : H.Sublist H' := by exact sbt) : Cells w0 H' (bq q) (oq q + (0 : Int).toNat * 3) (encRx a) := (h.mono hs).cs (i := 0) (by simp)
theorem Arr.cs1 {w0 : World} {H H' : List (Nat × Obj)} {q : Option Addr} {a b : Rxm} {l : List Rxm} (h : Arr w0 H q 3 encRx (a :: b :: l)) (hs : H.Sublist H' := by exact sbt) : Cells w0 H' (bq q) (oq q + (1 : Int).toNat * 3) (encRx b) := (h.mono hs).cs (i := 1) (by simp)
theorem Arr.b0 {w0 : World} {H : List (Nat × Obj)} {q : Option Addr} {a : Rxm} {l : List Rxm} (h : Arr w0 H q 3 encRx (a :: l)) : Bas q := h.b (i := 0) (by simp)
theorem add_alt {w0 : World} {q : Option Addr} {c : Nat} {ma mb : Rxm} {a b : Re} (iha : AddS w0 ma a) (ihb : AddS w0 mb b) : AddS w0 (.mk 5 ⟨#[]⟩ q c [ma, mb]) (.alt a b) := by
 intro R nt d1 d2 t hM hok1 hok2 ht hl
 show FSpec Tryz.prog w0 46 #[.pointer (some ⟨nt, 0, none⟩), .agg #[.int .i64 5, .string ⟨#[]⟩, .slice q 2 c]] (trH nt d1 d2 t ++ R) _
 simp only [Re.lv] at hl
 obtain ⟨hA, hMM, _, _⟩ := hM
 have hMa := hMM ma (by simp)
 have hMb := hMM mb (by simp)
 obtain ⟨ha1, ha2, ha3, ha4⟩ := Cx a ht (by omega)
 obtain ⟨hb1, hb2, hb3, hb4⟩ := Cx b ha1 (by omega)
 have p1 : 2 ^ (t.names.length + a.lv) ≤ 2 ^ 64 := Nat.pow_le_pow_right (by omega) (by omega)
 have p2 : 2 ^ ((addF a t).1.names.length + b.lv) ≤ 2 ^ 64 := Nat.pow_le_pow_right (by omega) (by omega)
 refine A7 Tryz.func46 U ntmps46 U (Ah (Ab (e_ (Bf (T U) cs_) ?_ U)))
 rintro _ _ ⟨n2, rfl, rfl⟩
 refine e_ (Bf (T U) cs_) ?_ U
 rintro _ _ ⟨n3, rfl, rfl⟩
 refine e_ (Ap zeroValue88 cs_) ?_ U
 rintro _ _ ⟨n4, rfl, rfl⟩
 refine Af (Ac (Ah (Ab (y_ (Cc (.cons (T U) .nil)) (y_ (Ad (T U)) (Af (Ac (Ah (Ah (Ab (y_ (Bp (T U) Dt) (y_ (Ai (T U) isAgg3 (by first | exact c_o)) ?_ U) U)))))) U) U))))
 refine Af (Ac (A2 (Ah (Ah (Ab (y_ (B3 (T U) Ak) (y_ (Ad (T U)) (Af (Ac (B8 (Aa U) (Ab (y_ (B3 (T U) Ak) (y_ (Ad (T U)) (Af (Ac (B8 (Aa U) (Ah (Ah (Ab (y_ (B3 (T U) Ak) (y_ (Ad (T U)) (Af (Ac (B8 (Aa U) (Ab (y_ (B3 (T U) Ak) (y_ (Ad (T U)) (Af (Ac (Bu (Aa U) ?_))) U) U))))) U) U))))))) U) U))))) U) U))))))
 refine j_cutC (X := Nat × Nat × Sl × Sl) (V := fun ⟨m7, m8, e1, e2⟩ => [(7, .pointer (some ⟨m7, 0, none⟩)), (8, .pointer (some ⟨m8, 0, none⟩))]) (C := [(3, _), (4, _), (5, _)]) (G := fun ⟨m7, m8, e1, e2⟩ => (m8, Cl (encEn (addF b (addF a t).1).2) 88) :: (m7, Cl (encEn (addF a t).2) 88) :: (n4, Cl [.int .u64 0, .int .u64 0, .int .u64 0, .int .u64 0, .int .u64 0, .int .u64 0, .int .u64 0, .int .u64 0, .bool false] 88) :: (n3, Cl [.int .i64 5, .string ⟨#[]⟩, .slice q 2 c] 24) :: (n2, Cl [.pointer (some ⟨nt, 0, none⟩)] 80) :: (trH nt e1 e2 (addF b (addF a t).1).1 ++ R)) (φ := fun ⟨m7, m8, e1, e2⟩ => SlOk e1 (addF b (addF a t).1).1.names.length 1 ∧ SlOk e2 (addF b (addF a t).1).1.fol.length 4) ⟨Aa rfl, Aa rfl, Aa rfl, trivial⟩ ?_ ?_
 ·refine j_anyX 14 _ mixd (by kernel_rfl) (show List.Sublist ((n4, Cl [.int .u64 0, .int .u64 0, .int .u64 0, .int .u64 0, .int .u64 0, .int .u64 0, .int .u64 0, .int .u64 0, .bool false] 88) :: (n3, Cl [.int .i64 5, .string ⟨#[]⟩, .slice q 2 c] 24) :: (n2, Cl [.pointer (some ⟨nt, 0, none⟩)] 80) :: R) _ from by exact sbt) ?_
  refine x_y (i := 0) U (by kernel_rfl) (Ai (T U) isAgg80 (by first | exact c_o)) ?_ U Ag
  refine x_y (i := 1) U (by kernel_rfl) (Bk (T U) Dj) ?_ U Ag
  refine x_y (i := 2) U (by kernel_rfl) (Ai (T U) isAgg22 (by first | exact c_o)) ?_ U Ag
  refine x_y (i := 3) U (by kernel_rfl) (Cw (T U) Ak runUnderlying22 sizeOf24 (by omega) (by first | exact rfl | exact hA.b0 | exact hA.b1)) ?_ U Ag
  refine x_y (i := 4) U (by kernel_rfl) (Am (T U) isAgg24 sizeOf24 U (by first | exact hA.cs0 | exact Bc)) ?_ U Ag
  refine x_y (i := 6) U (by kernel_rfl) (Ai (T U) isAgg80 (by first | exact c_o)) ?_ U Ag
  refine x_y (i := 7) U (by kernel_rfl) (Bk (T U) Dj) ?_ U Ag
  refine x_y (i := 8) U (by kernel_rfl) (Ai (T U) isAgg22 (by first | exact c_o)) ?_ U Ag
  refine x_y (i := 9) U (by kernel_rfl) (Cw (T U) Ak runUnderlying22 sizeOf24 (by omega) (by first | exact rfl | exact hA.b0 | exact hA.b1)) ?_ U Ag
  refine x_y (i := 10) U (by kernel_rfl) (Am (T U) isAgg24 sizeOf24 U (by first | exact hA.cs1 | exact Bc)) ?_ U Ag
  refine x_three (i := 5) (j := 12) (k := 13) (by kernel_rfl) (by kernel_rfl) ?_ ?_ ?_
  ·refine Br U (Av (.cons (T U) (.cons (T U) .nil)) call46 (Bn (trH nt d1 d2 t) (by repeat (first | exact LocL.h | apply LocL.t | apply LocL.a)) (iha _ nt d1 d2 t (hMa.mono sbt) hok1 hok2 ht (by omega)))) ?_ U Ag
   rintro _ _ ⟨⟨e1, e2⟩, ⟨rfl, ho1, ho2⟩, rfl⟩
   refine ⟨sbt, ?_⟩
   refine x_three (i := 11) (j := 12) (k := 13) (by kernel_rfl) (by kernel_rfl) ?_ ?_ ?_
   ·refine Br U (Av (.cons (T U) (.cons (T U) .nil)) call46 (Bn (trH nt e1 e2 (addF a t).1) (by repeat (first | exact LocL.h | apply LocL.t | apply LocL.a)) (ihb _ nt e1 e2 (addF a t).1 (hMb.mono sbt) ho1 ho2 ha1 (by omega)))) ?_ U Ag
    rintro _ _ ⟨⟨f1, f2⟩, ⟨rfl, ho3, ho4⟩, rfl⟩
    refine ⟨sbt, ?_⟩
    refine C5 (i := 12) (j := 13) (by kernel_rfl) (by kernel_rfl) ?_ ?_
    ·refine Br U (Ap zeroValue88 cs_) ?_ U Ag
     rintro _ _ ⟨n7, rfl, rfl⟩
     refine ⟨sbt, (Bx (i := 13) (by kernel_rfl) (by kernel_rfl) ?_)⟩
     refine Br U (Ap zeroValue88 cs_) ?_ U Ag
     rintro _ _ ⟨n8, rfl, rfl⟩
     refine ⟨sbt, (Cj (by kernel_rfl) U ?_)⟩
     first | refine A0 (As (T U) (T U) sizeOf88) U Ag ?_
     rintro _ _ ⟨rfl, rfl⟩
     first | refine A0 (As (T U) (T U) sizeOf88) U Ag ?_
     rintro _ _ ⟨rfl, rfl⟩
     refine Af ?_
     first | (refine Bl ((n7, n8, f1, f2)) ?_ ⟨atd, atd, trivial⟩ ⟨Aa U, Aa U, Aa U, trivial⟩ (List.Sublist.refl _)) | (refine Ce (List.Perm.swap _ _ _) ?_; refine Bl ((n7, n8, f1, f2)) ?_ ⟨atd, atd, trivial⟩ ⟨Aa U, Aa U, Aa U, trivial⟩ (List.Sublist.refl _))
     exact ⟨ho3, ho4⟩
    ·refine Br U (Ap zeroValue88 cs_) ?_ U Ag
     rintro _ _ ⟨n8, rfl, rfl⟩
     refine ⟨sbt, (Bx (i := 12) (by kernel_rfl) (by kernel_rfl) ?_)⟩
     refine Br U (Ap zeroValue88 cs_) ?_ U Ag
     rintro _ _ ⟨n7, rfl, rfl⟩
     refine ⟨sbt, (Cj (by kernel_rfl) U ?_)⟩
     first | refine A0 (As (T U) (T U) sizeOf88) U Ag ?_
     rintro _ _ ⟨rfl, rfl⟩
     first | refine A0 (As (T U) (T U) sizeOf88) U Ag ?_
     rintro _ _ ⟨rfl, rfl⟩
     refine Af ?_
     first | (refine Bl ((n7, n8, f1, f2)) ?_ ⟨atd, atd, trivial⟩ ⟨Aa U, Aa U, Aa U, trivial⟩ (List.Sublist.refl _)) | (refine Ce (List.Perm.swap _ _ _) ?_; refine Bl ((n7, n8, f1, f2)) ?_ ⟨atd, atd, trivial⟩ ⟨Aa U, Aa U, Aa U, trivial⟩ (List.Sublist.refl _))
     exact ⟨ho3, ho4⟩
   ·refine Br U (Ap zeroValue88 cs_) ?_ U Ag
    rintro _ _ ⟨n7, rfl, rfl⟩
    refine ⟨sbt, ?_⟩
    refine C5 (i := 11) (j := 13) (by kernel_rfl) (by kernel_rfl) ?_ ?_
    ·refine Br U (Av (.cons (T U) (.cons (T U) .nil)) call46 (Bn (trH nt e1 e2 (addF a t).1) (by repeat (first | exact LocL.h | apply LocL.t | apply LocL.a)) (ihb _ nt e1 e2 (addF a t).1 (hMb.mono sbt) ho1 ho2 ha1 (by omega)))) ?_ U Ag
     rintro _ _ ⟨⟨f1, f2⟩, ⟨rfl, ho3, ho4⟩, rfl⟩
     refine ⟨sbt, (Bx (i := 13) (by kernel_rfl) (by kernel_rfl) ?_)⟩
     refine Br U (Ap zeroValue88 cs_) ?_ U Ag
     rintro _ _ ⟨n8, rfl, rfl⟩
     refine ⟨sbt, (Cj (by kernel_rfl) U ?_)⟩
     first | refine A0 (As (T U) (T U) sizeOf88) U Ag ?_
     rintro _ _ ⟨rfl, rfl⟩
     first | refine A0 (As (T U) (T U) sizeOf88) U Ag ?_
     rintro _ _ ⟨rfl, rfl⟩
     refine Af ?_
     first | (refine Bl ((n7, n8, f1, f2)) ?_ ⟨atd, atd, trivial⟩ ⟨Aa U, Aa U, Aa U, trivial⟩ (List.Sublist.refl _)) | (refine Ce (List.Perm.swap _ _ _) ?_; refine Bl ((n7, n8, f1, f2)) ?_ ⟨atd, atd, trivial⟩ ⟨Aa U, Aa U, Aa U, trivial⟩ (List.Sublist.refl _))
     exact ⟨ho3, ho4⟩
    ·refine Br U (Ap zeroValue88 cs_) ?_ U Ag
     rintro _ _ ⟨n8, rfl, rfl⟩
     refine ⟨sbt, (Bx (i := 11) (by kernel_rfl) (by kernel_rfl) ?_)⟩
     refine Br U (Av (.cons (T U) (.cons (T U) .nil)) call46 (Bn (trH nt e1 e2 (addF a t).1) (by repeat (first | exact LocL.h | apply LocL.t | apply LocL.a)) (ihb _ nt e1 e2 (addF a t).1 (hMb.mono sbt) ho1 ho2 ha1 (by omega)))) ?_ U Ag
     rintro _ _ ⟨⟨f1, f2⟩, ⟨rfl, ho3, ho4⟩, rfl⟩
     refine ⟨sbt, (Cj (by kernel_rfl) U ?_)⟩
     first | refine A0 (As (T U) (T U) sizeOf88) U Ag ?_
     rintro _ _ ⟨rfl, rfl⟩
     first | refine A0 (As (T U) (T U) sizeOf88) U Ag ?_
     rintro _ _ ⟨rfl, rfl⟩
     refine Af ?_
     first | (refine Bl ((n7, n8, f1, f2)) ?_ ⟨atd, atd, trivial⟩ ⟨Aa U, Aa U, Aa U, trivial⟩ (List.Sublist.refl _)) | (refine Ce (List.Perm.swap _ _ _) ?_; refine Bl ((n7, n8, f1, f2)) ?_ ⟨atd, atd, trivial⟩ ⟨Aa U, Aa U, Aa U, trivial⟩ (List.Sublist.refl _))
     exact ⟨ho3, ho4⟩
   ·refine Br U (Ap zeroValue88 cs_) ?_ U Ag
    rintro _ _ ⟨n8, rfl, rfl⟩
    refine ⟨sbt, ?_⟩
    refine C5 (i := 11) (j := 12) (by kernel_rfl) (by kernel_rfl) ?_ ?_
    ·refine Br U (Av (.cons (T U) (.cons (T U) .nil)) call46 (Bn (trH nt e1 e2 (addF a t).1) (by repeat (first | exact LocL.h | apply LocL.t | apply LocL.a)) (ihb _ nt e1 e2 (addF a t).1 (hMb.mono sbt) ho1 ho2 ha1 (by omega)))) ?_ U Ag
     rintro _ _ ⟨⟨f1, f2⟩, ⟨rfl, ho3, ho4⟩, rfl⟩
     refine ⟨sbt, (Bx (i := 12) (by kernel_rfl) (by kernel_rfl) ?_)⟩
     refine Br U (Ap zeroValue88 cs_) ?_ U Ag
     rintro _ _ ⟨n7, rfl, rfl⟩
     refine ⟨sbt, (Cj (by kernel_rfl) U ?_)⟩
     first | refine A0 (As (T U) (T U) sizeOf88) U Ag ?_
     rintro _ _ ⟨rfl, rfl⟩
     first | refine A0 (As (T U) (T U) sizeOf88) U Ag ?_
     rintro _ _ ⟨rfl, rfl⟩
     refine Af ?_
     first | (refine Bl ((n7, n8, f1, f2)) ?_ ⟨atd, atd, trivial⟩ ⟨Aa U, Aa U, Aa U, trivial⟩ (List.Sublist.refl _)) | (refine Ce (List.Perm.swap _ _ _) ?_; refine Bl ((n7, n8, f1, f2)) ?_ ⟨atd, atd, trivial⟩ ⟨Aa U, Aa U, Aa U, trivial⟩ (List.Sublist.refl _))
     exact ⟨ho3, ho4⟩
    ·refine Br U (Ap zeroValue88 cs_) ?_ U Ag
     rintro _ _ ⟨n7, rfl, rfl⟩
     refine ⟨sbt, (Bx (i := 11) (by kernel_rfl) (by kernel_rfl) ?_)⟩
     refine Br U (Av (.cons (T U) (.cons (T U) .nil)) call46 (Bn (trH nt e1 e2 (addF a t).1) (by repeat (first | exact LocL.h | apply LocL.t | apply LocL.a)) (ihb _ nt e1 e2 (addF a t).1 (hMb.mono sbt) ho1 ho2 ha1 (by omega)))) ?_ U Ag
     rintro _ _ ⟨⟨f1, f2⟩, ⟨rfl, ho3, ho4⟩, rfl⟩
     refine ⟨sbt, (Cj (by kernel_rfl) U ?_)⟩
     first | refine A0 (As (T U) (T U) sizeOf88) U Ag ?_
     rintro _ _ ⟨rfl, rfl⟩
     first | refine A0 (As (T U) (T U) sizeOf88) U Ag ?_
     rintro _ _ ⟨rfl, rfl⟩
     refine Af ?_
     first | (refine Bl ((n7, n8, f1, f2)) ?_ ⟨atd, atd, trivial⟩ ⟨Aa U, Aa U, Aa U, trivial⟩ (List.Sublist.refl _)) | (refine Ce (List.Perm.swap _ _ _) ?_; refine Bl ((n7, n8, f1, f2)) ?_ ⟨atd, atd, trivial⟩ ⟨Aa U, Aa U, Aa U, trivial⟩ (List.Sublist.refl _))
     exact ⟨ho3, ho4⟩
  ·refine Br U (Ap zeroValue88 cs_) ?_ U Ag
   rintro _ _ ⟨n7, rfl, rfl⟩
   refine ⟨sbt, ?_⟩
   refine C5 (i := 5) (j := 13) (by kernel_rfl) (by kernel_rfl) ?_ ?_
   ·refine Br U (Av (.cons (T U) (.cons (T U) .nil)) call46 (Bn (trH nt d1 d2 t) (by repeat (first | exact LocL.h | apply LocL.t | apply LocL.a)) (iha _ nt d1 d2 t (hMa.mono sbt) hok1 hok2 ht (by omega)))) ?_ U Ag
    rintro _ _ ⟨⟨e1, e2⟩, ⟨rfl, ho1, ho2⟩, rfl⟩
    refine ⟨sbt, ?_⟩
    refine C5 (i := 11) (j := 13) (by kernel_rfl) (by kernel_rfl) ?_ ?_
    ·refine Br U (Av (.cons (T U) (.cons (T U) .nil)) call46 (Bn (trH nt e1 e2 (addF a t).1) (by repeat (first | exact LocL.h | apply LocL.t | apply LocL.a)) (ihb _ nt e1 e2 (addF a t).1 (hMb.mono sbt) ho1 ho2 ha1 (by omega)))) ?_ U Ag
     rintro _ _ ⟨⟨f1, f2⟩, ⟨rfl, ho3, ho4⟩, rfl⟩
     refine ⟨sbt, (Bx (i := 13) (by kernel_rfl) (by kernel_rfl) ?_)⟩
     refine Br U (Ap zeroValue88 cs_) ?_ U Ag
     rintro _ _ ⟨n8, rfl, rfl⟩
     refine ⟨sbt, (Cj (by kernel_rfl) U ?_)⟩
     first | refine A0 (As (T U) (T U) sizeOf88) U Ag ?_
     rintro _ _ ⟨rfl, rfl⟩
     first | refine A0 (As (T U) (T U) sizeOf88) U Ag ?_
     rintro _ _ ⟨rfl, rfl⟩
     refine Af ?_
     first | (refine Bl ((n7, n8, f1, f2)) ?_ ⟨atd, atd, trivial⟩ ⟨Aa U, Aa U, Aa U, trivial⟩ (List.Sublist.refl _)) | (refine Ce (List.Perm.swap _ _ _) ?_; refine Bl ((n7, n8, f1, f2)) ?_ ⟨atd, atd, trivial⟩ ⟨Aa U, Aa U, Aa U, trivial⟩ (List.Sublist.refl _))
     exact ⟨ho3, ho4⟩
    ·refine Br U (Ap zeroValue88 cs_) ?_ U Ag
     rintro _ _ ⟨n8, rfl, rfl⟩
     refine ⟨sbt, (Bx (i := 11) (by kernel_rfl) (by kernel_rfl) ?_)⟩
     refine Br U (Av (.cons (T U) (.cons (T U) .nil)) call46 (Bn (trH nt e1 e2 (addF a t).1) (by repeat (first | exact LocL.h | apply LocL.t | apply LocL.a)) (ihb _ nt e1 e2 (addF a t).1 (hMb.mono sbt) ho1 ho2 ha1 (by omega)))) ?_ U Ag
     rintro _ _ ⟨⟨f1, f2⟩, ⟨rfl, ho3, ho4⟩, rfl⟩
     refine ⟨sbt, (Cj (by kernel_rfl) U ?_)⟩
     first | refine A0 (As (T U) (T U) sizeOf88) U Ag ?_
     rintro _ _ ⟨rfl, rfl⟩
     first | refine A0 (As (T U) (T U) sizeOf88) U Ag ?_
     rintro _ _ ⟨rfl, rfl⟩
     refine Af ?_
     first | (refine Bl ((n7, n8, f1, f2)) ?_ ⟨atd, atd, trivial⟩ ⟨Aa U, Aa U, Aa U, trivial⟩ (List.Sublist.refl _)) | (refine Ce (List.Perm.swap _ _ _) ?_; refine Bl ((n7, n8, f1, f2)) ?_ ⟨atd, atd, trivial⟩ ⟨Aa U, Aa U, Aa U, trivial⟩ (List.Sublist.refl _))
     exact ⟨ho3, ho4⟩
   ·refine Br U (Ap zeroValue88 cs_) ?_ U Ag
    rintro _ _ ⟨n8, rfl, rfl⟩
    refine ⟨sbt, (Bx (i := 5) (by kernel_rfl) (by kernel_rfl) ?_)⟩
    refine Br U (Av (.cons (T U) (.cons (T U) .nil)) call46 (Bn (trH nt d1 d2 t) (by repeat (first | exact LocL.h | apply LocL.t | apply LocL.a)) (iha _ nt d1 d2 t (hMa.mono sbt) hok1 hok2 ht (by omega)))) ?_ U Ag
    rintro _ _ ⟨⟨e1, e2⟩, ⟨rfl, ho1, ho2⟩, rfl⟩
    refine ⟨sbt, (Bx (i := 11) (by kernel_rfl) (by kernel_rfl) ?_)⟩
    refine Br U (Av (.cons (T U) (.cons (T U) .nil)) call46 (Bn (trH nt e1 e2 (addF a t).1) (by repeat (first | exact LocL.h | apply LocL.t | apply LocL.a)) (ihb _ nt e1 e2 (addF a t).1 (hMb.mono sbt) ho1 ho2 ha1 (by omega)))) ?_ U Ag
    rintro _ _ ⟨⟨f1, f2⟩, ⟨rfl, ho3, ho4⟩, rfl⟩
    refine ⟨sbt, (Cj (by kernel_rfl) U ?_)⟩
    first | refine A0 (As (T U) (T U) sizeOf88) U Ag ?_
    rintro _ _ ⟨rfl, rfl⟩
    first | refine A0 (As (T U) (T U) sizeOf88) U Ag ?_
    rintro _ _ ⟨rfl, rfl⟩
    refine Af ?_
    first | (refine Bl ((n7, n8, f1, f2)) ?_ ⟨atd, atd, trivial⟩ ⟨Aa U, Aa U, Aa U, trivial⟩ (List.Sublist.refl _)) | (refine Ce (List.Perm.swap _ _ _) ?_; refine Bl ((n7, n8, f1, f2)) ?_ ⟨atd, atd, trivial⟩ ⟨Aa U, Aa U, Aa U, trivial⟩ (List.Sublist.refl _))
    exact ⟨ho3, ho4⟩
  ·refine Br U (Ap zeroValue88 cs_) ?_ U Ag
   rintro _ _ ⟨n8, rfl, rfl⟩
   refine ⟨sbt, ?_⟩
   refine C5 (i := 5) (j := 12) (by kernel_rfl) (by kernel_rfl) ?_ ?_
   ·refine Br U (Av (.cons (T U) (.cons (T U) .nil)) call46 (Bn (trH nt d1 d2 t) (by repeat (first | exact LocL.h | apply LocL.t | apply LocL.a)) (iha _ nt d1 d2 t (hMa.mono sbt) hok1 hok2 ht (by omega)))) ?_ U Ag
    rintro _ _ ⟨⟨e1, e2⟩, ⟨rfl, ho1, ho2⟩, rfl⟩
    refine ⟨sbt, ?_⟩
    refine C5 (i := 11) (j := 12) (by kernel_rfl) (by kernel_rfl) ?_ ?_
    ·refine Br U (Av (.cons (T U) (.cons (T U) .nil)) call46 (Bn (trH nt e1 e2 (addF a t).1) (by repeat (first | exact LocL.h | apply LocL.t | apply LocL.a)) (ihb _ nt e1 e2 (addF a t).1 (hMb.mono sbt) ho1 ho2 ha1 (by omega)))) ?_ U Ag
     rintro _ _ ⟨⟨f1, f2⟩, ⟨rfl, ho3, ho4⟩, rfl⟩
     refine ⟨sbt, (Bx (i := 12) (by kernel_rfl) (by kernel_rfl) ?_)⟩
     refine Br U (Ap zeroValue88 cs_) ?_ U Ag
     rintro _ _ ⟨n7, rfl, rfl⟩
     refine ⟨sbt, (Cj (by kernel_rfl) U ?_)⟩
     first | refine A0 (As (T U) (T U) sizeOf88) U Ag ?_
     rintro _ _ ⟨rfl, rfl⟩
     first | refine A0 (As (T U) (T U) sizeOf88) U Ag ?_
     rintro _ _ ⟨rfl, rfl⟩
     refine Af ?_
     first | (refine Bl ((n7, n8, f1, f2)) ?_ ⟨atd, atd, trivial⟩ ⟨Aa U, Aa U, Aa U, trivial⟩ (List.Sublist.refl _)) | (refine Ce (List.Perm.swap _ _ _) ?_; refine Bl ((n7, n8, f1, f2)) ?_ ⟨atd, atd, trivial⟩ ⟨Aa U, Aa U, Aa U, trivial⟩ (List.Sublist.refl _))
     exact ⟨ho3, ho4⟩
    ·refine Br U (Ap zeroValue88 cs_) ?_ U Ag
     rintro _ _ ⟨n7, rfl, rfl⟩
     refine ⟨sbt, (Bx (i := 11) (by kernel_rfl) (by kernel_rfl) ?_)⟩
     refine Br U (Av (.cons (T U) (.cons (T U) .nil)) call46 (Bn (trH nt e1 e2 (addF a t).1) (by repeat (first | exact LocL.h | apply LocL.t | apply LocL.a)) (ihb _ nt e1 e2 (addF a t).1 (hMb.mono sbt) ho1 ho2 ha1 (by omega)))) ?_ U Ag
     rintro _ _ ⟨⟨f1, f2⟩, ⟨rfl, ho3, ho4⟩, rfl⟩
     refine ⟨sbt, (Cj (by kernel_rfl) U ?_)⟩
     first | refine A0 (As (T U) (T U) sizeOf88) U Ag ?_
     rintro _ _ ⟨rfl, rfl⟩
     first | refine A0 (As (T U) (T U) sizeOf88) U Ag ?_
     rintro _ _ ⟨rfl, rfl⟩
     refine Af ?_
     first | (refine Bl ((n7, n8, f1, f2)) ?_ ⟨atd, atd, trivial⟩ ⟨Aa U, Aa U, Aa U, trivial⟩ (List.Sublist.refl _)) | (refine Ce (List.Perm.swap _ _ _) ?_; refine Bl ((n7, n8, f1, f2)) ?_ ⟨atd, atd, trivial⟩ ⟨Aa U, Aa U, Aa U, trivial⟩ (List.Sublist.refl _))
     exact ⟨ho3, ho4⟩
   ·refine Br U (Ap zeroValue88 cs_) ?_ U Ag
    rintro _ _ ⟨n7, rfl, rfl⟩
    refine ⟨sbt, (Bx (i := 5) (by kernel_rfl) (by kernel_rfl) ?_)⟩
    refine Br U (Av (.cons (T U) (.cons (T U) .nil)) call46 (Bn (trH nt d1 d2 t) (by repeat (first | exact LocL.h | apply LocL.t | apply LocL.a)) (iha _ nt d1 d2 t (hMa.mono sbt) hok1 hok2 ht (by omega)))) ?_ U Ag
    rintro _ _ ⟨⟨e1, e2⟩, ⟨rfl, ho1, ho2⟩, rfl⟩
    refine ⟨sbt, (Bx (i := 11) (by kernel_rfl) (by kernel_rfl) ?_)⟩
    refine Br U (Av (.cons (T U) (.cons (T U) .nil)) call46 (Bn (trH nt e1 e2 (addF a t).1) (by repeat (first | exact LocL.h | apply LocL.t | apply LocL.a)) (ihb _ nt e1 e2 (addF a t).1 (hMb.mono sbt) ho1 ho2 ha1 (by omega)))) ?_ U Ag
    rintro _ _ ⟨⟨f1, f2⟩, ⟨rfl, ho3, ho4⟩, rfl⟩
    refine ⟨sbt, (Cj (by kernel_rfl) U ?_)⟩
    first | refine A0 (As (T U) (T U) sizeOf88) U Ag ?_
    rintro _ _ ⟨rfl, rfl⟩
    first | refine A0 (As (T U) (T U) sizeOf88) U Ag ?_
    rintro _ _ ⟨rfl, rfl⟩
    refine Af ?_
    first | (refine Bl ((n7, n8, f1, f2)) ?_ ⟨atd, atd, trivial⟩ ⟨Aa U, Aa U, Aa U, trivial⟩ (List.Sublist.refl _)) | (refine Ce (List.Perm.swap _ _ _) ?_; refine Bl ((n7, n8, f1, f2)) ?_ ⟨atd, atd, trivial⟩ ⟨Aa U, Aa U, Aa U, trivial⟩ (List.Sublist.refl _))
    exact ⟨ho3, ho4⟩
 rintro ⟨m7, m8, e1, e2⟩ ⟨he1, he2⟩
 refine Ah (Ah (Ab (y_ (Bp (T U) Dt) (y_ (Ai (T U) isAgg3 (by first | exact c_o)) ?_ U) U)))
 refine y_ (B3 (T U) Ak) (Af (Ac (Bu (Aa U) (Ah (Cv 17 [(0, true), (1, true), (2, true), (3, true), (4, true), (5, true), (6, true), (7, true), (8, true), (9, true), (10, true), (11, true), (12, true), (13, true), (14, true), (15, true), (16, true)] _ mixd (by kernel_rfl) sb0 ?_))))) U
 refine o_y U (Bp (T U) Dq) ?_ U Ag
 refine o_y U (Am (T U) isAgg86 sizeOf86 U (by first | exact Ck (o := 0) (k := 4) fdd | exact Bc)) ?_ U Ag
 refine o_y U (Bp (T U) Dq) ?_ U Ag
 refine o_y U (Am (T U) isAgg86 sizeOf86 U (by first | exact Ck (o := 0) (k := 4) fdd | exact Bc)) ?_ U Ag
 refine o_y U (Aq (.cons (T U) (.cons (T U) .nil)) call50 (fun H' hs => or_s _ (by omega) _ (by omega))) ?_ U Ag
 refine o_y U (Bk (T U) Dg) ?_ U Ag
 refine o_y U (Am (T U) isAgg86 sizeOf86 U (by first | exact Ck (o := 4) (k := 4) fdd | exact Bc)) ?_ U Ag
 refine o_y U (Bk (T U) Dg) ?_ U Ag
 refine o_y U (Am (T U) isAgg86 sizeOf86 U (by first | exact Ck (o := 4) (k := 4) fdd | exact Bc)) ?_ U Ag
 refine o_y U (Aq (.cons (T U) (.cons (T U) .nil)) call50 (fun H' hs => or_s _ (by omega) _ (by omega))) ?_ U Ag
 refine o_y U (Bk (T U) fa88_2) (o_y U (Ai (T U) isAgg4 (by first | exact c_o)) ?_ U Ag) U Ag
 refine o_y U (Ae (T U)) ?_ U Ag
 first | refine C9 (s := 78) (Aa U) (fun c78 => ?_) (fun c78 => ?_) | refine Dx (s := 78) (Aa U) (fun c78 => ?_) (fun c78 => ?_)
 ·refine o_n U (o_n U (o_y U (Az (T U) Ak) (o_y U (Bq (.cons (T U) (.cons (T U) (.cons (T U) .nil))) (bd88_0_1_2 _ _ _ _ _ _ _ _ _)) (B5 U ?_) U Ag) U Ag) U (Bd U U (Aa U))) U (Bd U U (Aa U))
  first | refine A0 (As (T U) (T U) sizeOf88) U Ag ?_
  rintro _ _ ⟨rfl, rfl⟩
  refine Af (Ac (Bt [(4, _)] ⟨Aa U, trivial⟩ (A5 (Ao (Aw (Ao (A6 U (.cellA (Aa U) isAgg88 sizeOf88 U (by first | exact Bc) .nil) ?_)))))))
  exact ⟨_, ⟨(e1, e2), ⟨by simp only [addF, c78, Bool.true_or, Bool.false_or]; rfl, he1, he2⟩, rfl⟩, sbt⟩
 ·refine o_y U (Bk (T U) fa88_2) (o_y U (Ai (T U) isAgg4 (by first | exact c_o)) ?_ U (Ax U U (Aa U))) U (Ax U U (Aa U))
  refine o_y U (Be (T U) (T U)) (o_y U (Bq (.cons (T U) (.cons (T U) (.cons (T U) .nil))) (bd88_0_1_2 _ _ _ _ _ _ _ _ _)) (B5 U ?_) U Ag) U Ag
  first | refine A0 (As (T U) (T U) sizeOf88) U Ag ?_
  rintro _ _ ⟨rfl, rfl⟩
  refine Af (Ac (Bt [(4, _)] ⟨Aa U, trivial⟩ (A5 (Ao (Aw (Ao (A6 U (.cellA (Aa U) isAgg88 sizeOf88 U (by first | exact Bc) .nil) ?_)))))))
  exact ⟨_, ⟨(e1, e2), ⟨by simp only [addF, c78, Bool.true_or, Bool.false_or]; rfl, he1, he2⟩, rfl⟩, sbt⟩
theorem add_seq {w0 : World} {q : Option Addr} {c : Nat} {ma mb : Rxm} {a b : Re} (iha : AddS w0 ma a) (ihb : AddS w0 mb b) : AddS w0 (.mk 4 ⟨#[]⟩ q c [ma, mb]) (.seq a b) := by
 intro R nt d1 d2 t hM hok1 hok2 ht hl
 show FSpec Tryz.prog w0 46 #[.pointer (some ⟨nt, 0, none⟩), .agg #[.int .i64 4, .string ⟨#[]⟩, .slice q 2 c]] (trH nt d1 d2 t ++ R) _
 simp only [Re.lv] at hl
 obtain ⟨hA, hMM, _, _⟩ := hM
 have hMa := hMM ma (by simp)
 have hMb := hMM mb (by simp)
 obtain ⟨ha1, ha2, ha3, ha4⟩ := Cx a ht (by omega)
 obtain ⟨hb1, hb2, hb3, hb4⟩ := Cx b ha1 (by omega)
 have p1 : 2 ^ (t.names.length + a.lv) ≤ 2 ^ 64 := Nat.pow_le_pow_right (by omega) (by omega)
 have p2 : 2 ^ ((addF a t).1.names.length + b.lv) ≤ 2 ^ 64 := Nat.pow_le_pow_right (by omega) (by omega)
 have p3 : (addF a t).2.last < 2 ^ (addF b (addF a t).1).1.names.length := Nat.lt_of_lt_of_le ha4 (Nat.pow_le_pow_right (by omega) (by omega))
 refine A7 Tryz.func46 U ntmps46 U (Ah (Ab (e_ (Bf (T U) cs_) ?_ U)))
 rintro _ _ ⟨n2, rfl, rfl⟩
 refine e_ (Bf (T U) cs_) ?_ U
 rintro _ _ ⟨n3, rfl, rfl⟩
 refine e_ (Ap zeroValue88 cs_) ?_ U
 rintro _ _ ⟨n4, rfl, rfl⟩
 refine Af (Ac (Ah (Ab (y_ (Cc (.cons (T U) .nil)) (y_ (Ad (T U)) (Af (Ac (Ah (Ah (Ab (y_ (Bp (T U) Dt) (y_ (Ai (T U) isAgg3 (by first | exact c_o)) ?_ U) U)))))) U) U))))
 refine Af (Ac (A2 (Ah (Ah (Ab (y_ (B3 (T U) Ak) (y_ (Ad (T U)) (Af (Ac (B8 (Aa U) (Ab (y_ (B3 (T U) Ak) (y_ (Ad (T U)) (Af (Ac (B8 (Aa U) (Ah (Ah (Ab (y_ (B3 (T U) Ak) (y_ (Ad (T U)) (Af (Ac (Bu (Aa U) (A9 (Ac (Bu (Aa U) ?_)))))) U) U))))))) U) U))))) U) U))))))
 refine j_cutC (X := Nat × Nat × Sl × Sl) (V := fun ⟨m7, m8, e1, e2⟩ => [(7, .pointer (some ⟨m7, 0, none⟩)), (8, .pointer (some ⟨m8, 0, none⟩))]) (C := [(3, _), (4, _), (5, _)]) (G := fun ⟨m7, m8, e1, e2⟩ => (m8, Cl (encEn (addF b (addF a t).1).2) 88) :: (m7, Cl (encEn (addF a t).2) 88) :: (n4, Cl [.int .u64 0, .int .u64 0, .int .u64 0, .int .u64 0, .int .u64 0, .int .u64 0, .int .u64 0, .int .u64 0, .bool false] 88) :: (n3, Cl [.int .i64 4, .string ⟨#[]⟩, .slice q 2 c] 24) :: (n2, Cl [.pointer (some ⟨nt, 0, none⟩)] 80) :: (trH nt e1 e2 (addF b (addF a t).1).1 ++ R)) (φ := fun ⟨m7, m8, e1, e2⟩ => SlOk e1 (addF b (addF a t).1).1.names.length 1 ∧ SlOk e2 (addF b (addF a t).1).1.fol.length 4) ⟨Aa rfl, Aa rfl, Aa rfl, trivial⟩ ?_ ?_
 ·refine j_anyX 14 _ mixd (by kernel_rfl) (show List.Sublist ((n4, Cl [.int .u64 0, .int .u64 0, .int .u64 0, .int .u64 0, .int .u64 0, .int .u64 0, .int .u64 0, .int .u64 0, .bool false] 88) :: (n3, Cl [.int .i64 4, .string ⟨#[]⟩, .slice q 2 c] 24) :: (n2, Cl [.pointer (some ⟨nt, 0, none⟩)] 80) :: R) _ from by exact sbt) ?_
  refine x_y (i := 0) U (by kernel_rfl) (Ai (T U) isAgg80 (by first | exact c_o)) ?_ U Ag
  refine x_y (i := 1) U (by kernel_rfl) (Bk (T U) Dj) ?_ U Ag
  refine x_y (i := 2) U (by kernel_rfl) (Ai (T U) isAgg22 (by first | exact c_o)) ?_ U Ag
  refine x_y (i := 3) U (by kernel_rfl) (Cw (T U) Ak runUnderlying22 sizeOf24 (by omega) (by first | exact rfl | exact hA.b0 | exact hA.b1)) ?_ U Ag
  refine x_y (i := 4) U (by kernel_rfl) (Am (T U) isAgg24 sizeOf24 U (by first | exact hA.cs0 | exact Bc)) ?_ U Ag
  refine x_y (i := 6) U (by kernel_rfl) (Ai (T U) isAgg80 (by first | exact c_o)) ?_ U Ag
  refine x_y (i := 7) U (by kernel_rfl) (Bk (T U) Dj) ?_ U Ag
  refine x_y (i := 8) U (by kernel_rfl) (Ai (T U) isAgg22 (by first | exact c_o)) ?_ U Ag
  refine x_y (i := 9) U (by kernel_rfl) (Cw (T U) Ak runUnderlying22 sizeOf24 (by omega) (by first | exact rfl | exact hA.b0 | exact hA.b1)) ?_ U Ag
  refine x_y (i := 10) U (by kernel_rfl) (Am (T U) isAgg24 sizeOf24 U (by first | exact hA.cs1 | exact Bc)) ?_ U Ag
  refine x_three (i := 5) (j := 12) (k := 13) (by kernel_rfl) (by kernel_rfl) ?_ ?_ ?_
  ·refine Br U (Av (.cons (T U) (.cons (T U) .nil)) call46 (Bn (trH nt d1 d2 t) (by repeat (first | exact LocL.h | apply LocL.t | apply LocL.a)) (iha _ nt d1 d2 t (hMa.mono sbt) hok1 hok2 ht (by omega)))) ?_ U Ag
   rintro _ _ ⟨⟨e1, e2⟩, ⟨rfl, ho1, ho2⟩, rfl⟩
   refine ⟨sbt, ?_⟩
   refine x_three (i := 11) (j := 12) (k := 13) (by kernel_rfl) (by kernel_rfl) ?_ ?_ ?_
   ·refine Br U (Av (.cons (T U) (.cons (T U) .nil)) call46 (Bn (trH nt e1 e2 (addF a t).1) (by repeat (first | exact LocL.h | apply LocL.t | apply LocL.a)) (ihb _ nt e1 e2 (addF a t).1 (hMb.mono sbt) ho1 ho2 ha1 (by omega)))) ?_ U Ag
    rintro _ _ ⟨⟨f1, f2⟩, ⟨rfl, ho3, ho4⟩, rfl⟩
    refine ⟨sbt, ?_⟩
    refine C5 (i := 12) (j := 13) (by kernel_rfl) (by kernel_rfl) ?_ ?_
    ·refine Br U (Ap zeroValue88 cs_) ?_ U Ag
     rintro _ _ ⟨n7, rfl, rfl⟩
     refine ⟨sbt, (Bx (i := 13) (by kernel_rfl) (by kernel_rfl) ?_)⟩
     refine Br U (Ap zeroValue88 cs_) ?_ U Ag
     rintro _ _ ⟨n8, rfl, rfl⟩
     refine ⟨sbt, (Cj (by kernel_rfl) U ?_)⟩
     first | refine A0 (As (T U) (T U) sizeOf88) U Ag ?_
     rintro _ _ ⟨rfl, rfl⟩
     first | refine A0 (As (T U) (T U) sizeOf88) U Ag ?_
     rintro _ _ ⟨rfl, rfl⟩
     refine Af ?_
     first | (refine Bl ((n7, n8, f1, f2)) ?_ ⟨atd, atd, trivial⟩ ⟨Aa U, Aa U, Aa U, trivial⟩ (List.Sublist.refl _)) | (refine Ce (List.Perm.swap _ _ _) ?_; refine Bl ((n7, n8, f1, f2)) ?_ ⟨atd, atd, trivial⟩ ⟨Aa U, Aa U, Aa U, trivial⟩ (List.Sublist.refl _))
     exact ⟨ho3, ho4⟩
    ·refine Br U (Ap zeroValue88 cs_) ?_ U Ag
     rintro _ _ ⟨n8, rfl, rfl⟩
     refine ⟨sbt, (Bx (i := 12) (by kernel_rfl) (by kernel_rfl) ?_)⟩
     refine Br U (Ap zeroValue88 cs_) ?_ U Ag
     rintro _ _ ⟨n7, rfl, rfl⟩
     refine ⟨sbt, (Cj (by kernel_rfl) U ?_)⟩
     first | refine A0 (As (T U) (T U) sizeOf88) U Ag ?_
     rintro _ _ ⟨rfl, rfl⟩
     first | refine A0 (As (T U) (T U) sizeOf88) U Ag ?_
     rintro _ _ ⟨rfl, rfl⟩
     refine Af ?_
     first | (refine Bl ((n7, n8, f1, f2)) ?_ ⟨atd, atd, trivial⟩ ⟨Aa U, Aa U, Aa U, trivial⟩ (List.Sublist.refl _)) | (refine Ce (List.Perm.swap _ _ _) ?_; refine Bl ((n7, n8, f1, f2)) ?_ ⟨atd, atd, trivial⟩ ⟨Aa U, Aa U, Aa U, trivial⟩ (List.Sublist.refl _))
     exact ⟨ho3, ho4⟩
   ·refine Br U (Ap zeroValue88 cs_) ?_ U Ag
    rintro _ _ ⟨n7, rfl, rfl⟩
    refine ⟨sbt, ?_⟩
    refine C5 (i := 11) (j := 13) (by kernel_rfl) (by kernel_rfl) ?_ ?_
    ·refine Br U (Av (.cons (T U) (.cons (T U) .nil)) call46 (Bn (trH nt e1 e2 (addF a t).1) (by repeat (first | exact LocL.h | apply LocL.t | apply LocL.a)) (ihb _ nt e1 e2 (addF a t).1 (hMb.mono sbt) ho1 ho2 ha1 (by omega)))) ?_ U Ag
     rintro _ _ ⟨⟨f1, f2⟩, ⟨rfl, ho3, ho4⟩, rfl⟩
     refine ⟨sbt, (Bx (i := 13) (by kernel_rfl) (by kernel_rfl) ?_)⟩
     refine Br U (Ap zeroValue88 cs_) ?_ U Ag
     rintro _ _ ⟨n8, rfl, rfl⟩
     refine ⟨sbt, (Cj (by kernel_rfl) U ?_)⟩
     first | refine A0 (As (T U) (T U) sizeOf88) U Ag ?_
     rintro _ _ ⟨rfl, rfl⟩
     first | refine A0 (As (T U) (T U) sizeOf88) U Ag ?_
     rintro _ _ ⟨rfl, rfl⟩
     refine Af ?_
     first | (refine Bl ((n7, n8, f1, f2)) ?_ ⟨atd, atd, trivial⟩ ⟨Aa U, Aa U, Aa U, trivial⟩ (List.Sublist.refl _)) | (refine Ce (List.Perm.swap _ _ _) ?_; refine Bl ((n7, n8, f1, f2)) ?_ ⟨atd, atd, trivial⟩ ⟨Aa U, Aa U, Aa U, trivial⟩ (List.Sublist.refl _))
     exact ⟨ho3, ho4⟩
    ·refine Br U (Ap zeroValue88 cs_) ?_ U Ag
     rintro _ _ ⟨n8, rfl, rfl⟩
     refine ⟨sbt, (Bx (i := 11) (by kernel_rfl) (by kernel_rfl) ?_)⟩
     refine Br U (Av (.cons (T U) (.cons (T U) .nil)) call46 (Bn (trH nt e1 e2 (addF a t).1) (by repeat (first | exact LocL.h | apply LocL.t | apply LocL.a)) (ihb _ nt e1 e2 (addF a t).1 (hMb.mono sbt) ho1 ho2 ha1 (by omega)))) ?_ U Ag
     rintro _ _ ⟨⟨f1, f2⟩, ⟨rfl, ho3, ho4⟩, rfl⟩
     refine ⟨sbt, (Cj (by kernel_rfl) U ?_)⟩
     first | refine A0 (As (T U) (T U) sizeOf88) U Ag ?_
     rintro _ _ ⟨rfl, rfl⟩
     first | refine A0 (As (T U) (T U) sizeOf88) U Ag ?_
     rintro _ _ ⟨rfl, rfl⟩
     refine Af ?_
     first | (refine Bl ((n7, n8, f1, f2)) ?_ ⟨atd, atd, trivial⟩ ⟨Aa U, Aa U, Aa U, trivial⟩ (List.Sublist.refl _)) | (refine Ce (List.Perm.swap _ _ _) ?_; refine Bl ((n7, n8, f1, f2)) ?_ ⟨atd, atd, trivial⟩ ⟨Aa U, Aa U, Aa U, trivial⟩ (List.Sublist.refl _))
     exact ⟨ho3, ho4⟩
   ·refine Br U (Ap zeroValue88 cs_) ?_ U Ag
    rintro _ _ ⟨n8, rfl, rfl⟩
    refine ⟨sbt, ?_⟩
    refine C5 (i := 11) (j := 12) (by kernel_rfl) (by kernel_rfl) ?_ ?_
    ·refine Br U (Av (.cons (T U) (.cons (T U) .nil)) call46 (Bn (trH nt e1 e2 (addF a t).1) (by repeat (first | exact LocL.h | apply LocL.t | apply LocL.a)) (ihb _ nt e1 e2 (addF a t).1 (hMb.mono sbt) ho1 ho2 ha1 (by omega)))) ?_ U Ag
     rintro _ _ ⟨⟨f1, f2⟩, ⟨rfl, ho3, ho4⟩, rfl⟩
     refine ⟨sbt, (Bx (i := 12) (by kernel_rfl) (by kernel_rfl) ?_)⟩
     refine Br U (Ap zeroValue88 cs_) ?_ U Ag
     rintro _ _ ⟨n7, rfl, rfl⟩
     refine ⟨sbt, (Cj (by kernel_rfl) U ?_)⟩
     first | refine A0 (As (T U) (T U) sizeOf88) U Ag ?_
     rintro _ _ ⟨rfl, rfl⟩
     first | refine A0 (As (T U) (T U) sizeOf88) U Ag ?_
     rintro _ _ ⟨rfl, rfl⟩
     refine Af ?_
     first | (refine Bl ((n7, n8, f1, f2)) ?_ ⟨atd, atd, trivial⟩ ⟨Aa U, Aa U, Aa U, trivial⟩ (List.Sublist.refl _)) | (refine Ce (List.Perm.swap _ _ _) ?_; refine Bl ((n7, n8, f1, f2)) ?_ ⟨atd, atd, trivial⟩ ⟨Aa U, Aa U, Aa U, trivial⟩ (List.Sublist.refl _))
     exact ⟨ho3, ho4⟩
    ·refine Br U (Ap zeroValue88 cs_) ?_ U Ag
     rintro _ _ ⟨n7, rfl, rfl⟩
     refine ⟨sbt, (Bx (i := 11) (by kernel_rfl) (by kernel_rfl) ?_)⟩
     refine Br U (Av (.cons (T U) (.cons (T U) .nil)) call46 (Bn (trH nt e1 e2 (addF a t).1) (by repeat (first | exact LocL.h | apply LocL.t | apply LocL.a)) (ihb _ nt e1 e2 (addF a t).1 (hMb.mono sbt) ho1 ho2 ha1 (by omega)))) ?_ U Ag
     rintro _ _ ⟨⟨f1, f2⟩, ⟨rfl, ho3, ho4⟩, rfl⟩
     refine ⟨sbt, (Cj (by kernel_rfl) U ?_)⟩
     first | refine A0 (As (T U) (T U) sizeOf88) U Ag ?_
     rintro _ _ ⟨rfl, rfl⟩
     first | refine A0 (As (T U) (T U) sizeOf88) U Ag ?_
     rintro _ _ ⟨rfl, rfl⟩
     refine Af ?_
     first | (refine Bl ((n7, n8, f1, f2)) ?_ ⟨atd, atd, trivial⟩ ⟨Aa U, Aa U, Aa U, trivial⟩ (List.Sublist.refl _)) | (refine Ce (List.Perm.swap _ _ _) ?_; refine Bl ((n7, n8, f1, f2)) ?_ ⟨atd, atd, trivial⟩ ⟨Aa U, Aa U, Aa U, trivial⟩ (List.Sublist.refl _))
     exact ⟨ho3, ho4⟩
  ·refine Br U (Ap zeroValue88 cs_) ?_ U Ag
   rintro _ _ ⟨n7, rfl, rfl⟩
   refine ⟨sbt, ?_⟩
   refine C5 (i := 5) (j := 13) (by kernel_rfl) (by kernel_rfl) ?_ ?_
   ·refine Br U (Av (.cons (T U) (.cons (T U) .nil)) call46 (Bn (trH nt d1 d2 t) (by repeat (first | exact LocL.h | apply LocL.t | apply LocL.a)) (iha _ nt d1 d2 t (hMa.mono sbt) hok1 hok2 ht (by omega)))) ?_ U Ag
    rintro _ _ ⟨⟨e1, e2⟩, ⟨rfl, ho1, ho2⟩, rfl⟩
    refine ⟨sbt, ?_⟩
    refine C5 (i := 11) (j := 13) (by kernel_rfl) (by kernel_rfl) ?_ ?_
    ·refine Br U (Av (.cons (T U) (.cons (T U) .nil)) call46 (Bn (trH nt e1 e2 (addF a t).1) (by repeat (first | exact LocL.h | apply LocL.t | apply LocL.a)) (ihb _ nt e1 e2 (addF a t).1 (hMb.mono sbt) ho1 ho2 ha1 (by omega)))) ?_ U Ag
     rintro _ _ ⟨⟨f1, f2⟩, ⟨rfl, ho3, ho4⟩, rfl⟩
     refine ⟨sbt, (Bx (i := 13) (by kernel_rfl) (by kernel_rfl) ?_)⟩
     refine Br U (Ap zeroValue88 cs_) ?_ U Ag
     rintro _ _ ⟨n8, rfl, rfl⟩
     refine ⟨sbt, (Cj (by kernel_rfl) U ?_)⟩
     first | refine A0 (As (T U) (T U) sizeOf88) U Ag ?_
     rintro _ _ ⟨rfl, rfl⟩
     first | refine A0 (As (T U) (T U) sizeOf88) U Ag ?_
     rintro _ _ ⟨rfl, rfl⟩
     refine Af ?_
     first | (refine Bl ((n7, n8, f1, f2)) ?_ ⟨atd, atd, trivial⟩ ⟨Aa U, Aa U, Aa U, trivial⟩ (List.Sublist.refl _)) | (refine Ce (List.Perm.swap _ _ _) ?_; refine Bl ((n7, n8, f1, f2)) ?_ ⟨atd, atd, trivial⟩ ⟨Aa U, Aa U, Aa U, trivial⟩ (List.Sublist.refl _))
     exact ⟨ho3, ho4⟩
    ·refine Br U (Ap zeroValue88 cs_) ?_ U Ag
     rintro _ _ ⟨n8, rfl, rfl⟩
     refine ⟨sbt, (Bx (i := 11) (by kernel_rfl) (by kernel_rfl) ?_)⟩
     refine Br U (Av (.cons (T U) (.cons (T U) .nil)) call46 (Bn (trH nt e1 e2 (addF a t).1) (by repeat (first | exact LocL.h | apply LocL.t | apply LocL.a)) (ihb _ nt e1 e2 (addF a t).1 (hMb.mono sbt) ho1 ho2 ha1 (by omega)))) ?_ U Ag
     rintro _ _ ⟨⟨f1, f2⟩, ⟨rfl, ho3, ho4⟩, rfl⟩
     refine ⟨sbt, (Cj (by kernel_rfl) U ?_)⟩
     first | refine A0 (As (T U) (T U) sizeOf88) U Ag ?_
     rintro _ _ ⟨rfl, rfl⟩
     first | refine A0 (As (T U) (T U) sizeOf88) U Ag ?_
     rintro _ _ ⟨rfl, rfl⟩
     refine Af ?_
     first | (refine Bl ((n7, n8, f1, f2)) ?_ ⟨atd, atd, trivial⟩ ⟨Aa U, Aa U, Aa U, trivial⟩ (List.Sublist.refl _)) | (refine Ce (List.Perm.swap _ _ _) ?_; refine Bl ((n7, n8, f1, f2)) ?_ ⟨atd, atd, trivial⟩ ⟨Aa U, Aa U, Aa U, trivial⟩ (List.Sublist.refl _))
     exact ⟨ho3, ho4⟩
   ·refine Br U (Ap zeroValue88 cs_) ?_ U Ag
    rintro _ _ ⟨n8, rfl, rfl⟩
    refine ⟨sbt, (Bx (i := 5) (by kernel_rfl) (by kernel_rfl) ?_)⟩
    refine Br U (Av (.cons (T U) (.cons (T U) .nil)) call46 (Bn (trH nt d1 d2 t) (by repeat (first | exact LocL.h | apply LocL.t | apply LocL.a)) (iha _ nt d1 d2 t (hMa.mono sbt) hok1 hok2 ht (by omega)))) ?_ U Ag
    rintro _ _ ⟨⟨e1, e2⟩, ⟨rfl, ho1, ho2⟩, rfl⟩
    refine ⟨sbt, (Bx (i := 11) (by kernel_rfl) (by kernel_rfl) ?_)⟩
    refine Br U (Av (.cons (T U) (.cons (T U) .nil)) call46 (Bn (trH nt e1 e2 (addF a t).1) (by repeat (first | exact LocL.h | apply LocL.t | apply LocL.a)) (ihb _ nt e1 e2 (addF a t).1 (hMb.mono sbt) ho1 ho2 ha1 (by omega)))) ?_ U Ag
    rintro _ _ ⟨⟨f1, f2⟩, ⟨rfl, ho3, ho4⟩, rfl⟩
    refine ⟨sbt, (Cj (by kernel_rfl) U ?_)⟩
    first | refine A0 (As (T U) (T U) sizeOf88) U Ag ?_
    rintro _ _ ⟨rfl, rfl⟩
    first | refine A0 (As (T U) (T U) sizeOf88) U Ag ?_
    rintro _ _ ⟨rfl, rfl⟩
    refine Af ?_
    first | (refine Bl ((n7, n8, f1, f2)) ?_ ⟨atd, atd, trivial⟩ ⟨Aa U, Aa U, Aa U, trivial⟩ (List.Sublist.refl _)) | (refine Ce (List.Perm.swap _ _ _) ?_; refine Bl ((n7, n8, f1, f2)) ?_ ⟨atd, atd, trivial⟩ ⟨Aa U, Aa U, Aa U, trivial⟩ (List.Sublist.refl _))
    exact ⟨ho3, ho4⟩
  ·refine Br U (Ap zeroValue88 cs_) ?_ U Ag
   rintro _ _ ⟨n8, rfl, rfl⟩
   refine ⟨sbt, ?_⟩
   refine C5 (i := 5) (j := 12) (by kernel_rfl) (by kernel_rfl) ?_ ?_
   ·refine Br U (Av (.cons (T U) (.cons (T U) .nil)) call46 (Bn (trH nt d1 d2 t) (by repeat (first | exact LocL.h | apply LocL.t | apply LocL.a)) (iha _ nt d1 d2 t (hMa.mono sbt) hok1 hok2 ht (by omega)))) ?_ U Ag
    rintro _ _ ⟨⟨e1, e2⟩, ⟨rfl, ho1, ho2⟩, rfl⟩
    refine ⟨sbt, ?_⟩
    refine C5 (i := 11) (j := 12) (by kernel_rfl) (by kernel_rfl) ?_ ?_
    ·refine Br U (Av (.cons (T U) (.cons (T U) .nil)) call46 (Bn (trH nt e1 e2 (addF a t).1) (by repeat (first | exact LocL.h | apply LocL.t | apply LocL.a)) (ihb _ nt e1 e2 (addF a t).1 (hMb.mono sbt) ho1 ho2 ha1 (by omega)))) ?_ U Ag
     rintro _ _ ⟨⟨f1, f2⟩, ⟨rfl, ho3, ho4⟩, rfl⟩
     refine ⟨sbt, (Bx (i := 12) (by kernel_rfl) (by kernel_rfl) ?_)⟩
     refine Br U (Ap zeroValue88 cs_) ?_ U Ag
     rintro _ _ ⟨n7, rfl, rfl⟩
     refine ⟨sbt, (Cj (by kernel_rfl) U ?_)⟩
     first | refine A0 (As (T U) (T U) sizeOf88) U Ag ?_
     rintro _ _ ⟨rfl, rfl⟩
     first | refine A0 (As (T U) (T U) sizeOf88) U Ag ?_
     rintro _ _ ⟨rfl, rfl⟩
     refine Af ?_
     first | (refine Bl ((n7, n8, f1, f2)) ?_ ⟨atd, atd, trivial⟩ ⟨Aa U, Aa U, Aa U, trivial⟩ (List.Sublist.refl _)) | (refine Ce (List.Perm.swap _ _ _) ?_; refine Bl ((n7, n8, f1, f2)) ?_ ⟨atd, atd, trivial⟩ ⟨Aa U, Aa U, Aa U, trivial⟩ (List.Sublist.refl _))
     exact ⟨ho3, ho4⟩
    ·refine Br U (Ap zeroValue88 cs_) ?_ U Ag
     rintro _ _ ⟨n7, rfl, rfl⟩
     refine ⟨sbt, (Bx (i := 11) (by kernel_rfl) (by kernel_rfl) ?_)⟩
     refine Br U (Av (.cons (T U) (.cons (T U) .nil)) call46 (Bn (trH nt e1 e2 (addF a t).1) (by repeat (first | exact LocL.h | apply LocL.t | apply LocL.a)) (ihb _ nt e1 e2 (addF a t).1 (hMb.mono sbt) ho1 ho2 ha1 (by omega)))) ?_ U Ag
     rintro _ _ ⟨⟨f1, f2⟩, ⟨rfl, ho3, ho4⟩, rfl⟩
     refine ⟨sbt, (Cj (by kernel_rfl) U ?_)⟩
     first | refine A0 (As (T U) (T U) sizeOf88) U Ag ?_
     rintro _ _ ⟨rfl, rfl⟩
     first | refine A0 (As (T U) (T U) sizeOf88) U Ag ?_
     rintro _ _ ⟨rfl, rfl⟩
     refine Af ?_
     first | (refine Bl ((n7, n8, f1, f2)) ?_ ⟨atd, atd, trivial⟩ ⟨Aa U, Aa U, Aa U, trivial⟩ (List.Sublist.refl _)) | (refine Ce (List.Perm.swap _ _ _) ?_; refine Bl ((n7, n8, f1, f2)) ?_ ⟨atd, atd, trivial⟩ ⟨Aa U, Aa U, Aa U, trivial⟩ (List.Sublist.refl _))
     exact ⟨ho3, ho4⟩
   ·refine Br U (Ap zeroValue88 cs_) ?_ U Ag
    rintro _ _ ⟨n7, rfl, rfl⟩
    refine ⟨sbt, (Bx (i := 5) (by kernel_rfl) (by kernel_rfl) ?_)⟩
    refine Br U (Av (.cons (T U) (.cons (T U) .nil)) call46 (Bn (trH nt d1 d2 t) (by repeat (first | exact LocL.h | apply LocL.t | apply LocL.a)) (iha _ nt d1 d2 t (hMa.mono sbt) hok1 hok2 ht (by omega)))) ?_ U Ag
    rintro _ _ ⟨⟨e1, e2⟩, ⟨rfl, ho1, ho2⟩, rfl⟩
    refine ⟨sbt, (Bx (i := 11) (by kernel_rfl) (by kernel_rfl) ?_)⟩
    refine Br U (Av (.cons (T U) (.cons (T U) .nil)) call46 (Bn (trH nt e1 e2 (addF a t).1) (by repeat (first | exact LocL.h | apply LocL.t | apply LocL.a)) (ihb _ nt e1 e2 (addF a t).1 (hMb.mono sbt) ho1 ho2 ha1 (by omega)))) ?_ U Ag
    rintro _ _ ⟨⟨f1, f2⟩, ⟨rfl, ho3, ho4⟩, rfl⟩
    refine ⟨sbt, (Cj (by kernel_rfl) U ?_)⟩
    first | refine A0 (As (T U) (T U) sizeOf88) U Ag ?_
    rintro _ _ ⟨rfl, rfl⟩
    first | refine A0 (As (T U) (T U) sizeOf88) U Ag ?_
    rintro _ _ ⟨rfl, rfl⟩
    refine Af ?_
    first | (refine Bl ((n7, n8, f1, f2)) ?_ ⟨atd, atd, trivial⟩ ⟨Aa U, Aa U, Aa U, trivial⟩ (List.Sublist.refl _)) | (refine Ce (List.Perm.swap _ _ _) ?_; refine Bl ((n7, n8, f1, f2)) ?_ ⟨atd, atd, trivial⟩ ⟨Aa U, Aa U, Aa U, trivial⟩ (List.Sublist.refl _))
    exact ⟨ho3, ho4⟩
 rintro ⟨m7, m8, e1, e2⟩ ⟨he1, he2⟩
 refine Ah (Ah (Ab (y_ (Bp (T U) Dt) (y_ (Ai (T U) isAgg3 (by first | exact c_o)) ?_ U) U)))
 refine y_ (B3 (T U) Ak) (Af (Ac (B8 (Aa U) (A9 (Ac (Ah (Ab (y_ (Ae (T U)) (y_ (Bk (T U) Dg) ?_ U) U)))))))) U
 refine y_ (Am (T U) isAgg86 sizeOf86 U (by first | exact Ck (o := 4) (k := 4) fdd | exact Bc)) ?_ U
 refine y_ (Bp (T U) Dq) ?_ U
 refine y_ (Am (T U) isAgg86 sizeOf86 U (by first | exact Ck (o := 0) (k := 4) fdd | exact Bc)) ?_ U
 refine e_ (C4 (T U) (.cons (T U) (.cons (T U) .nil)) call100 (Bn (trH nt e1 e2 (addF b (addF a t).1).1) (by repeat (first | exact LocL.h | apply LocL.t | apply LocL.a)) (conn_s nt e1 e2 (addF b (addF a t).1).1 he1 he2 hb1 (addF a t).2.last (addF b (addF a t).1).2.first n2 p3 (by omega) fdd))) ?_ U
 rintro _ _ ⟨_, _, rfl⟩
 refine Af (Ac (Ah (Ab (y_ (Bp (T U) Dq) ?_ U))))
 refine y_ (Am (T U) isAgg86 sizeOf86 U (by first | exact Ck (o := 0) (k := 4) fdd | exact Bc)) ?_ U
 refine y_ (Bk (T U) Dg) ?_ U
 refine y_ (Am (T U) isAgg86 sizeOf86 U (by first | exact Ck (o := 4) (k := 4) fdd | exact Bc)) ?_ U
 refine y_ (Bk (T U) fa88_2) (y_ (Ai (T U) isAgg4 (by first | exact c_o)) ?_ U) U
 refine y_ (Ae (T U)) ?_ U
 first | refine Ci (s := 95) (Aa U) (fun c95 => ?_) (fun c95 => ?_) | refine C1 (s := 95) (Aa U) (fun c95 => ?_) (fun c95 => ?_)
 ·refine Bg (Bk (T U) fa88_2) U (Ax U U (Aa U)) (Bg (Ai (T U) isAgg4 (by first | exact c_o)) U (Ax U U (Aa U)) ?_)
  refine y_ (Az (T U) (T U)) (y_ (Bq (.cons (T U) (.cons (T U) (.cons (T U) .nil))) (bd88_0_1_2 _ _ _ _ _ _ _ _ _)) (e_ (Ap zeroValue88 cs_) ?_ U) U) U
  rintro _ _ ⟨n9, rfl, rfl⟩
  first | refine A0 (As (T U) (T U) sizeOf88) U Ag ?_
  rintro _ _ ⟨rfl, rfl⟩
  refine Af (Ac (Bt [(4, _), (7, _), (8, _), (9, _)] ⟨Aa U, Aa U, Aa U, Aa U, trivial⟩ (Ah (Ah (Ab (y_ (Bk (T U) fa88_2) (y_ (Ai (T U) isAgg4 (by first | exact c_o)) ?_ U) U))))))
  refine Af (Ac (Bu (Aj (Aa U) (by rw [c95])) ?_))
  refine Ab (y_ (Bp (T U) Dq) ?_ U)
  refine y_ (Am (T U) isAgg86 sizeOf86 U (by first | exact Ck (o := 0) (k := 4) fdd | exact Bc)) ?_ U
  refine y_ (Bp (T U) Dq) ?_ U
  refine y_ (Am (T U) isAgg86 sizeOf86 U (by first | exact Ck (o := 0) (k := 4) fdd | exact Bc)) ?_ U
  refine y_ (Aq (.cons (T U) (.cons (T U) .nil)) call50 (fun H' hs => or_s _ (by omega) _ (by omega))) ?_ U
  refine y_ (Bp (T U) Dq) (e_ (eff_sP (o := 0) (m := 4) (T U) (T U) sizeOf86) ?_ U) U
  rintro _ _ ⟨rfl, rfl⟩
  refine Af (Ac (Ah (Ah (Ab (y_ (Bk (T U) fa88_2) (y_ (Ai (T U) isAgg4 (by first | exact c_o)) ?_ U) U)))))
  refine Af (Ac ?_)
  first | refine Au (Aa U) (fun c109 => ?_) (fun c109 => ?_) | refine Bb (Aa U) (fun c109 => ?_) (fun c109 => ?_)
  ·refine Ab (y_ (Bk (T U) Dg) ?_ U)
   refine y_ (Am (T U) isAgg86 sizeOf86 U (by first | exact Ck (o := 4) (k := 4) fdd | exact Bc)) ?_ U
   refine y_ (Bk (T U) Dg) ?_ U
   refine y_ (Am (T U) isAgg86 sizeOf86 U (by first | exact Ck (o := 4) (k := 4) fdd | exact Bc)) ?_ U
   refine y_ (Aq (.cons (T U) (.cons (T U) .nil)) call50 (fun H' hs => or_s _ (by omega) _ (by omega))) ?_ U
   refine y_ (Bk (T U) Dg) (e_ (eff_sP (o := 4) (m := 4) (T U) (T U) sizeOf86) ?_ U) U
   rintro _ _ ⟨rfl, rfl⟩
   refine Af (Ac (Ah (Ab (y_ (Am (T U) isAgg88 sizeOf88 U (by first | exact Bc)) ?_ U))))
   first | refine A0 (As (T U) (T U) sizeOf88) U Ag ?_
   rintro _ _ ⟨rfl, rfl⟩
   refine Af (Ac (Bt [(4, _)] ⟨Aa U, trivial⟩ (A5 (Aw (Ao (A6 U (.cellA (Aa U) isAgg88 sizeOf88 U (by first | exact Bc) .nil) ?_))))))
   exact ⟨_, ⟨(e1, e2), ⟨by simp only [addF, c95, c109, Bool.true_and, Bool.false_and, eq_self, if_true, if_false, Bool.false_eq_true, reduceIte]; rfl, he1, by simp only [addF, conn, connK_len]; exact he2⟩, rfl⟩, sbt⟩
  ·refine A9 (Ac (Ah (Ab (y_ (Am (T U) isAgg88 sizeOf88 U (by first | exact Bc)) ?_ U))))
   first | refine A0 (As (T U) (T U) sizeOf88) U Ag ?_
   rintro _ _ ⟨rfl, rfl⟩
   refine Af (Ac (A5 (Aw (Ao (A6 U (.cellA (Aa U) isAgg88 sizeOf88 U (by first | exact Bc) .nil) ?_)))))
   exact ⟨_, ⟨(e1, e2), ⟨by simp only [addF, c95, c109, Bool.true_and, Bool.false_and, eq_self, if_true, if_false, Bool.false_eq_true, reduceIte]; rfl, he1, by simp only [addF, conn, connK_len]; exact he2⟩, rfl⟩, sbt⟩
 ·refine Cf (Cf (y_ (Be (T U) Ak) (y_ (Bq (.cons (T U) (.cons (T U) (.cons (T U) .nil))) (bd88_0_1_2 _ _ _ _ _ _ _ _ _)) (e_ (Ap zeroValue88 cs_) ?_ U) U) U) U U U U) U U U U
  rintro _ _ ⟨n9, rfl, rfl⟩
  first | refine A0 (As (T U) (T U) sizeOf88) U Ag ?_
  rintro _ _ ⟨rfl, rfl⟩
  refine Af (Ac (Bt [(4, _), (7, _), (8, _), (9, _)] ⟨Aa U, Aa U, Aa U, Aa U, trivial⟩ (Ah (Ah (Ab (y_ (Bk (T U) fa88_2) (y_ (Ai (T U) isAgg4 (by first | exact c_o)) ?_ U) U))))))
  refine Af (Ac (B8 (Aj (Aa U) (by rw [c95])) ?_))
  refine A9 (Ac (Ah (Ah (Ab (y_ (Bk (T U) fa88_2) (y_ (Ai (T U) isAgg4 (by first | exact c_o)) ?_ U) U)))))
  refine Af (Ac ?_)
  first | refine Au (Aa U) (fun c109 => ?_) (fun c109 => ?_) | refine Bb (Aa U) (fun c109 => ?_) (fun c109 => ?_)
  ·refine Ab (y_ (Bk (T U) Dg) ?_ U)
   refine y_ (Am (T U) isAgg86 sizeOf86 U (by first | exact Ck (o := 4) (k := 4) fdd | exact Bc)) ?_ U
   refine y_ (Bk (T U) Dg) ?_ U
   refine y_ (Am (T U) isAgg86 sizeOf86 U (by first | exact Ck (o := 4) (k := 4) fdd | exact Bc)) ?_ U
   refine y_ (Aq (.cons (T U) (.cons (T U) .nil)) call50 (fun H' hs => or_s _ (by omega) _ (by omega))) ?_ U
   refine y_ (Bk (T U) Dg) (e_ (eff_sP (o := 4) (m := 4) (T U) (T U) sizeOf86) ?_ U) U
   rintro _ _ ⟨rfl, rfl⟩
   refine Af (Ac (Ah (Ab (y_ (Am (T U) isAgg88 sizeOf88 U (by first | exact Bc)) ?_ U))))
   first | refine A0 (As (T U) (T U) sizeOf88) U Ag ?_
   rintro _ _ ⟨rfl, rfl⟩
   refine Af (Ac (A5 (Aw (Ao (A6 U (.cellA (Aa U) isAgg88 sizeOf88 U (by first | exact Bc) .nil) ?_)))))
   exact ⟨_, ⟨(e1, e2), ⟨by simp only [addF, c95, c109, Bool.true_and, Bool.false_and, eq_self, if_true, if_false, Bool.false_eq_true, reduceIte]; rfl, he1, by simp only [addF, conn, connK_len]; exact he2⟩, rfl⟩, sbt⟩
  ·refine A9 (Ac (Ah (Ab (y_ (Am (T U) isAgg88 sizeOf88 U (by first | exact Bc)) ?_ U))))
   first | refine A0 (As (T U) (T U) sizeOf88) U Ag ?_
   rintro _ _ ⟨rfl, rfl⟩
   refine Af (Ac (A5 (Aw (Ao (A6 U (.cellA (Aa U) isAgg88 sizeOf88 U (by first | exact Bc) .nil) ?_)))))
   exact ⟨_, ⟨(e1, e2), ⟨by simp only [addF, c95, c109, Bool.true_and, Bool.false_and, eq_self, if_true, if_false, Bool.false_eq_true, reduceIte]; rfl, he1, by simp only [addF, conn, connK_len]; exact he2⟩, rfl⟩, sbt⟩
theorem add_star {w0 : World} {q : Option Addr} {c : Nat} {ma : Rxm} {a : Re} (iha : AddS w0 ma a) : AddS w0 (.mk 6 ⟨#[]⟩ q c [ma]) (.star a) := by
 intro R nt d1 d2 t hM hok1 hok2 ht hl
 show FSpec Tryz.prog w0 46 #[.pointer (some ⟨nt, 0, none⟩), .agg #[.int .i64 6, .string ⟨#[]⟩, .slice q 1 c]] (trH nt d1 d2 t ++ R) _
 simp only [Re.lv] at hl
 obtain ⟨hA, hMM, _, _⟩ := hM
 have hMa := hMM ma (by simp)
 obtain ⟨ha1, ha2, ha3, ha4⟩ := Cx a ht (by omega)
 have p1 : 2 ^ (t.names.length + a.lv) ≤ 2 ^ 64 := Nat.pow_le_pow_right (by omega) (by omega)
 rw [← ha2] at ha4
 refine A7 Tryz.func46 U ntmps46 U (Ah (Ab (e_ (Bf (T U) cs_) ?_ U)))
 rintro _ _ ⟨n2, rfl, rfl⟩
 refine e_ (Bf (T U) cs_) ?_ U
 rintro _ _ ⟨n3, rfl, rfl⟩
 refine e_ (Ap zeroValue88 cs_) ?_ U
 rintro _ _ ⟨n4, rfl, rfl⟩
 refine Af (Ac (Ah (Ab (y_ (Cc (.cons (T U) .nil)) (y_ (Ad (T U)) (Af (Ac (Ah (Ah (Ab (y_ (Bp (T U) Dt) (y_ (Ai (T U) isAgg3 (by first | exact c_o)) ?_ U) U)))))) U) U))))
 refine Af (Ac (A2 (Ah (Ah (Ab (y_ (B3 (T U) Ak) (y_ (Ad (T U)) (Af (Ac (B8 (Aa U) (Ab (y_ (B3 (T U) Ak) (y_ (Ad (T U)) (Af (Ac (B8 (Aa U) (Ah (Ah (Ab (y_ (B3 (T U) Ak) (y_ (Ad (T U)) (Af (Ac (B8 (Aa U) (Ab (y_ (B3 (T U) Ak) (y_ (Ad (T U)) (Af (Ac (B8 (Aa U) (Ah (Ab (y_ (B3 (T U) Ak) (y_ (Ad (T U)) (Af (Ac (Bu (Aa U) (Ah (j_anyX 7 _ mixd (by kernel_rfl) (show List.Sublist ((n4, Cl [.int .u64 0, .int .u64 0, .int .u64 0, .int .u64 0, .int .u64 0, .int .u64 0, .int .u64 0, .int .u64 0, .bool false] 88) :: (n3, Cl [.int .i64 6, .string ⟨#[]⟩, .slice q 1 c] 24) :: (n2, Cl [.pointer (some ⟨nt, 0, none⟩)] 80) :: R) _ from by exact sbt) ?_))))) U) U)))))) U) U))))) U) U))))))) U) U))))) U) U))))))
 refine x_y (i := 0) U (by kernel_rfl) (Ai (T U) isAgg80 (by first | exact c_o)) ?_ U Ag
 refine x_y (i := 1) U (by kernel_rfl) (Bk (T U) Dj) ?_ U Ag
 refine x_y (i := 2) U (by kernel_rfl) (Ai (T U) isAgg22 (by first | exact c_o)) ?_ U Ag
 refine x_y (i := 3) U (by kernel_rfl) (Cw (T U) Ak runUnderlying22 sizeOf24 (by omega) (by first | exact rfl | exact hA.b0)) ?_ U Ag
 refine x_y (i := 4) U (by kernel_rfl) (Am (T U) isAgg24 sizeOf24 U (by first | exact hA.cs0 | exact Bc)) ?_ U Ag
 refine C5 (i := 5) (j := 6) (by kernel_rfl) (by kernel_rfl) ?_ ?_
 ·refine Br U (Av (.cons (T U) (.cons (T U) .nil)) call46 (Bn (trH nt d1 d2 t) (by repeat (first | exact LocL.h | apply LocL.t | apply LocL.a)) (iha _ nt d1 d2 t (hMa.mono sbt) hok1 hok2 ht (by omega)))) ?_ U Ag
  rintro _ _ ⟨⟨e1, e2⟩, ⟨rfl, ho1, ho2⟩, rfl⟩
  refine ⟨sbt, (Bx (i := 6) (by kernel_rfl) (by kernel_rfl) ?_)⟩
  refine Br U (Ap zeroValue88 cs_) ?_ U Ag
  rintro _ _ ⟨n10, rfl, rfl⟩
  refine ⟨sbt, (Cj (by kernel_rfl) U ?_)⟩
  first | refine A0 (As (T U) (T U) sizeOf88) U Ag ?_
  rintro _ _ ⟨rfl, rfl⟩
  refine Af (Ac (Bt [(4, _), (5, _), (10, _)] ⟨Aa U, Aa U, Aa U, trivial⟩ (Ah (Ab (y_ (Ae (T U)) (y_ (Bk (T U) Dg) ?_ U) U)))))
  refine y_ (Am (T U) isAgg86 sizeOf86 U (by first | exact Ck (o := 4) (k := 4) fdd | exact Bc)) ?_ U
  refine y_ (Bp (T U) Dq) ?_ U
  refine y_ (Am (T U) isAgg86 sizeOf86 U (by first | exact Ck (o := 0) (k := 4) fdd | exact Bc)) ?_ U
  refine e_ (C4 (T U) (.cons (T U) (.cons (T U) .nil)) call100 (Bn (trH nt e1 e2 (addF a t).1) (by repeat (first | exact LocL.h | apply LocL.t | apply LocL.a)) (conn_s nt e1 e2 (addF a t).1 ho1 ho2 ha1 (addF a t).2.last (addF a t).2.first n2 ha4 (by omega) fdd))) ?_ U
  rintro _ _ ⟨_, _, rfl⟩
  refine Af (Ac (Ah (Ab (y_ (Bp (T U) Dq) ?_ U))))
  refine y_ (Am (T U) isAgg86 sizeOf86 U (by first | exact Ck (o := 0) (k := 4) fdd | exact Bc)) ?_ U
  refine y_ (Bk (T U) Dg) ?_ U
  refine y_ (Am (T U) isAgg86 sizeOf86 U (by first | exact Ck (o := 4) (k := 4) fdd | exact Bc)) ?_ U
  refine y_ (Bq (.cons (T U) (.cons (T U) (.cons Ak .nil))) (bd88_0_1_2 _ _ _ _ _ _ _ _ _)) ?_ U
  first | refine A0 (As (T U) (T U) sizeOf88) U Ag ?_
  rintro _ _ ⟨rfl, rfl⟩
  refine Af (Ac (A5 (Aw (Ao (A6 U (.cellA (Aa U) isAgg88 sizeOf88 U (by first | exact Bc) .nil) ?_)))))
  exact ⟨_, ⟨(e1, e2), ⟨rfl, ho1, by simp only [addF, conn, connK_len]; exact ho2⟩, rfl⟩, sbt⟩
 ·refine Br U (Ap zeroValue88 cs_) ?_ U Ag
  rintro _ _ ⟨n10, rfl, rfl⟩
  refine ⟨sbt, (Bx (i := 5) (by kernel_rfl) (by kernel_rfl) ?_)⟩
  refine Br U (Av (.cons (T U) (.cons (T U) .nil)) call46 (Bn (trH nt d1 d2 t) (by repeat (first | exact LocL.h | apply LocL.t | apply LocL.a)) (iha _ nt d1 d2 t (hMa.mono sbt) hok1 hok2 ht (by omega)))) ?_ U Ag
  rintro _ _ ⟨⟨e1, e2⟩, ⟨rfl, ho1, ho2⟩, rfl⟩
  refine ⟨sbt, (Cj (by kernel_rfl) U ?_)⟩
  first | refine A0 (As (T U) (T U) sizeOf88) U Ag ?_
  rintro _ _ ⟨rfl, rfl⟩
  refine Af (Ac (Bt [(4, _), (5, _), (10, _)] ⟨Aa U, Aa U, Aa U, trivial⟩ (Ah (Ab (y_ (Ae (T U)) (y_ (Bk (T U) Dg) ?_ U) U)))))
  refine y_ (Am (T U) isAgg86 sizeOf86 U (by first | exact Ck (o := 4) (k := 4) fdd | exact Bc)) ?_ U
  refine y_ (Bp (T U) Dq) ?_ U
  refine y_ (Am (T U) isAgg86 sizeOf86 U (by first | exact Ck (o := 0) (k := 4) fdd | exact Bc)) ?_ U
  refine e_ (C4 (T U) (.cons (T U) (.cons (T U) .nil)) call100 (Bn (trH nt e1 e2 (addF a t).1) (by repeat (first | exact LocL.h | apply LocL.t | apply LocL.a)) (conn_s nt e1 e2 (addF a t).1 ho1 ho2 ha1 (addF a t).2.last (addF a t).2.first n2 ha4 (by omega) fdd))) ?_ U
  rintro _ _ ⟨_, _, rfl⟩
  refine Af (Ac (Ah (Ab (y_ (Bp (T U) Dq) ?_ U))))
  refine y_ (Am (T U) isAgg86 sizeOf86 U (by first | exact Ck (o := 0) (k := 4) fdd | exact Bc)) ?_ U
  refine y_ (Bk (T U) Dg) ?_ U
  refine y_ (Am (T U) isAgg86 sizeOf86 U (by first | exact Ck (o := 4) (k := 4) fdd | exact Bc)) ?_ U
  refine y_ (Bq (.cons (T U) (.cons (T U) (.cons Ak .nil))) (bd88_0_1_2 _ _ _ _ _ _ _ _ _)) ?_ U
  first | refine A0 (As (T U) (T U) sizeOf88) U Ag ?_
  rintro _ _ ⟨rfl, rfl⟩
  refine Af (Ac (A5 (Aw (Ao (A6 U (.cellA (Aa U) isAgg88 sizeOf88 U (by first | exact Bc) .nil) ?_)))))
  exact ⟨_, ⟨(e1, e2), ⟨rfl, ho1, by simp only [addF, conn, connK_len]; exact ho2⟩, rfl⟩, sbt⟩
theorem add_s {w0 : World} {m : Rxm} {e : Re} (h : Is m e) : AddS w0 m e := by
 induction h with
 | emp => exact add_emp
 | nod _ => exact add_nod
 | any => exact add_any
 | seq _ _ ih1 ih2 => exact add_seq ih1 ih2
 | alt _ _ ih1 ih2 => exact add_alt ih1 ih2
 | star _ ih => exact add_star ih
end Go.Proofs.YtkdolgnpkjihpaaGreatDoor
namespace Go.Proofs.YtkdolgnpkjihpaaGreatDoor
open _root_.Go.Proofs.Tryz
open Go.RowKit
set_option linter.unusedVariables false
set_option linter.unusedSimpArgs false
theorem bd83_z  (w : World) : (Instr.build 83 #[]).run Tryz.prog w = .ok (.agg #[.slice none 0 0, .slice none 0 0]) w := by kernel_rfl
def Low (t : Tr) : Prop := ∀ f ∈ t.fol, f < 2 ^ t.names.length
theorem Low.push {t : Tr} (h : Low t) (s : ByteArray) : Low ⟨t.names ++ [s], t.fol ++ [0]⟩ := fun f hf => by
 simp only [List.mem_append, List.mem_cons, List.not_mem_nil, or_false] at hf
 simp only [List.length_append, List.length_cons, List.length_nil]
 rcases hf with hf | rfl
 ·exact Nat.lt_of_lt_of_le (h f hf) (Nat.pow_le_pow_right (by omega) (by omega))
 ·exact Nat.two_pow_pos _
theorem Low.conn {t : Tr} (h : Low t) {a b : Nat} (hb : b < 2 ^ t.names.length) : Low (conn t a b) := fun f hf => by
 simp only [Go.Proofs.YtkdolgnpkjihpaaGreatDoor.conn, connK, List.mem_mapIdx] at hf
 obtain ⟨i, hi, rfl⟩ := hf
 show _ < 2 ^ t.names.length
 split
 ·exact Nat.or_lt_two_pow (h _ (List.getElem_mem _)) hb
 ·exact h _ (List.getElem_mem _)
theorem add_low : ∀ (e : Re) {t : Tr}, TrOk t → t.names.length + e.lv ≤ 64 → Low t → Low (addF e t).1
 | .emp, t, _, _, h => h
 | .nod s, t, _, _, h => h.push s
 | .any, t, _, _, h => h.push _
 | .alt a b, t, ht, hl, h => by
  simp only [Re.lv] at hl
  obtain ⟨h1, h2, h3, h4⟩ := Cx a ht (by omega)
  exact add_low b h1 (by omega) (add_low a ht (by omega) h)
 | .seq a b, t, ht, hl, h => by
  simp only [Re.lv] at hl
  obtain ⟨h1, h2, h3, h4⟩ := Cx a ht (by omega)
  obtain ⟨k1, k2, k3, k4⟩ := Cx b h1 (by omega)
  refine (add_low b h1 (by omega) (add_low a ht (by omega) h)).conn ?_
  rw [k2]; exact k3
 | .star a, t, ht, hl, h => by
  simp only [Re.lv] at hl
  obtain ⟨h1, h2, h3, h4⟩ := Cx a ht (by omega)
  refine (add_low a ht (by omega) h).conn ?_
  rw [h2]; exact h3
def t00 : Tr := ⟨[], []⟩
theorem Dm : TrOk t00 := ⟨rfl, by decide, fun f hf => by cases hf⟩
theorem t00_low : Low t00 := fun f hf => by cases hf
def mtch (t : Tr) (s : ByteArray) (n : Nat) : Bool := ((gd t.names n).toList == s.toList) || ((gd t.names n).toList == (⟨#[]⟩ : ByteArray).toList)
def stepK (t : Tr) (s : ByteArray) (can : Nat) : Nat → Nat × Nat
 | 0 => (0, 0)
 | i + 1 => if can.testBit i && mtch t s i then ((stepK t s can i).1 ||| 2 ^ i, (stepK t s can i).2 ||| gd t.fol i) else stepK t s can i
theorem stepK_succ (t : Tr) (s : ByteArray) (can i : Nat) : stepK t s can (i + 1) = if can.testBit i && mtch t s i then ((stepK t s can i).1 ||| 2 ^ i, (stepK t s can i).2 ||| gd t.fol i) else stepK t s can i := rfl
theorem stepK_lt {t : Tr} (ht : TrOk t) (hw : Low t) {s : ByteArray} {can : Nat} (hc : can < 2 ^ t.names.length) : ∀ i, (stepK t s can i).1 < 2 ^ t.names.length ∧ (stepK t s can i).2 < 2 ^ t.names.length
 | 0 => ⟨Nat.two_pow_pos _, Nat.two_pow_pos _⟩
 | i + 1 => by
  have ih := stepK_lt ht hw (s := s) hc i
  unfold stepK; split
  ·rename_i h
   simp only [Bool.and_eq_true] at h
   have hi : i < t.names.length := Classical.byContradiction fun hge => by
    have := h.1
    rw [Nat.testBit_lt_two_pow (Nat.lt_of_lt_of_le hc (Nat.pow_le_pow_right (by omega) (by omega)))] at this; cases this
   exact ⟨Nat.or_lt_two_pow ih.1 (Nat.pow_lt_pow_right (by omega) hi), Nat.or_lt_two_pow ih.2 (hw _ (A1 (by rw [ht.len]; exact hi)))⟩
  ·exact ih
def runF (t : Tr) (st : Nat × Nat) (l : List ByteArray) : Nat × Nat := l.foldl (fun st s => stepK t s st.2 256) st
theorem runF_take {t : Tr} {st : Nat × Nat} {l : List ByteArray} {i : Nat} (h : i < l.length) : runF t st (l.take (i + 1)) = stepK t (gd l i) (runF t st (l.take i)).2 256 := by
 unfold runF
 rw [List.take_add_one, C7 h]
 simp [List.foldl_append]
def matchF (e : Re) (l : List ByteArray) : Bool := if l.length = 0 then (addF e t00).2.emp else decide (¬ (runF (addF e t00).1 (0, (addF e t00).2.first) l).1 &&& (addF e t00).2.last = 0)
structure TrR (w0 : World) (H : List (Nat × Obj)) (nt : Nat) (d1 d2 : Sl) (t : Tr) : Prop where
 c1 : Cell w0 H ⟨nt, 0, none⟩ (slV d1 t.names.length)
 c2 : Cell w0 H ⟨nt, 1, none⟩ (slV d2 t.fol.length)
 a1 : Arr w0 H (slQ d1) 1 encS t.names
 a2 : Arr w0 H (slQ d2) 4 encSet t.fol
theorem TrR.mono {w0 : World} {H H' : List (Nat × Obj)} {nt : Nat} {d1 d2 : Sl} {t : Tr} (h : TrR w0 H nt d1 d2 t) (hs : H.Sublist H' := by exact sbt) : TrR w0 H' nt d1 d2 t := ⟨h.c1.mono hs, h.c2.mono hs, h.a1.mono hs, h.a2.mono hs⟩
theorem tr_r {w0 : World} {R : List (Nat × Obj)} {nt : Nat} {d1 d2 : Sl} {t : Tr} (h1 : SlOk d1 t.names.length 1) (h2 : SlOk d2 t.fol.length 4) : TrR w0 (trH nt d1 d2 t ++ R) nt d1 d2 t := ⟨tr_c1, tr_c2, tr_a1 h1, tr_a2 h2⟩
theorem loc_t0 {e : Nat × Obj} {nt : Nat} {X : List (Nat × Obj)} : LocL (e :: (nt, Cl [.slice none 0 0, .slice none 0 0] 83) :: X) (trH nt .nil .nil t00) (e :: X) (fun M' => e :: (M' ++ X)) := .t (show LocL (trH nt .nil .nil t00 ++ X) _ _ _ from .h)
theorem loc3 {a b c : Nat × Obj} {X : List (Nat × Obj)} : LocL (a :: b :: c :: X) [a, b, c] X (fun M' => M' ++ X) := show LocL ([a, b, c] ++ X) _ _ _ from .h
theorem cell1 {w0 : World} {H : List (Nat × Obj)} {b o : Nat} {v : Value} (h : Cells w0 H b o [v]) : Cell w0 H ⟨b, o, none⟩ v := h 0 v U
theorem m1_s {w0 : World} {H : List (Nat × Obj)} (nt n5 n8 n10 n11 : Nat) (d1 d2 : Sl) (t : Tr) (s : ByteArray) (a b n : Nat) (ha : a < 2 ^ 64) (hb : b < 2 ^ 64) (ht : TrOk t) (hn : n < t.names.length) (hR : TrR w0 H nt d1 d2 t) (h5 : Fnd H n5 (Cl [.pointer (some ⟨nt, 0, none⟩)] 80)) :
  FSpec Tryz.prog w0 57 #[.int .i64 (n : Int), .pointer (some ⟨n5, 0, none⟩), .pointer (some ⟨n10, 0, none⟩), .pointer (some ⟨n8, 0, none⟩), .pointer (some ⟨n11, 0, none⟩)] ((n11, Cl (encSet b) 86) :: (n10, Cl [.string s] 9) :: (n8, Cl (encSet a) 86) :: H) (fun _ H' => H' = if mtch t s n then (n11, Cl (encSet (b ||| gd t.fol n)) 86) :: (n10, Cl [.string s] 9) :: (n8, Cl (encSet (a ||| 2 ^ n)) 86) :: H else (n11, Cl (encSet b) 86) :: (n10, Cl [.string s] 9) :: (n8, Cl (encSet a) 86) :: H) := by
 refine A7 Tryz.func57 U ntmps57 U ?_
 have hlen := ht.len
 have hfew := ht.few
 have hg := ht.low _ (A1 (show n < t.fol.length by omega))
 refine Ah (Cv 19 [(0, true), (1, true), (2, true), (3, true), (4, true), (5, true), (6, true), (7, true), (8, true), (9, true), (10, true), (11, true), (12, true), (13, true), (14, true), (15, true), (16, true), (17, true), (18, true)] _ mixd (by kernel_rfl) sb0 ?_)
 refine o_y U (Ai (T U) isAgg80 (by first | exact c_o | exact c_o (hf := Al (Al (Al h5))) | exact (hR.mono sbt).c1 | exact (hR.mono sbt).c2 | exact cell1 ((hR.mono sbt).a1.cs (i := n) hn) | exact (hR.mono sbt).a2.cs (i := n) (by omega))) ?_ U Ag
 refine o_y U (B1 (T U)) (o_y U (Bp (T U) Dl) (o_y U (Ai (T U) isAgg25 (by first | exact c_o | exact c_o (hf := Al (Al (Al h5))) | exact (hR.mono sbt).c1 | exact (hR.mono sbt).c2 | exact cell1 ((hR.mono sbt).a1.cs (i := n) hn) | exact (hR.mono sbt).a2.cs (i := n) (by omega))) ?_ U Ag) U Ag) U Ag
 refine o_y U (Ae (T U)) (o_y U (Cw (T U) (T U) runUnderlying25 sizeOf9 (by omega) (by first | exact rfl | exact hR.a1.b (i := n) hn | exact hR.a2.b (i := n) (by omega))) ?_ U Ag) U Ag
 refine o_y U (Ai (T U) isAgg9 (by first | exact c_o | exact c_o (hf := Al (Al (Al h5))) | exact (hR.mono sbt).c1 | exact (hR.mono sbt).c2 | exact cell1 ((hR.mono sbt).a1.cs (i := n) hn) | exact (hR.mono sbt).a2.cs (i := n) (by omega))) ?_ U Ag
 refine o_y U (Ai (T U) isAgg9 (by first | exact c_o | exact c_o (hf := Al (Al (Al h5))) | exact (hR.mono sbt).c1 | exact (hR.mono sbt).c2 | exact cell1 ((hR.mono sbt).a1.cs (i := n) hn) | exact (hR.mono sbt).a2.cs (i := n) (by omega))) ?_ U Ag
 refine o_y U (yl_eqS (T U) (T U)) (o_y U (Ae (T U)) ?_ U Ag) U Ag
 first | refine C9 (s := 15) (Aa U) (fun c15 => ?_) (fun c15 => ?_) | refine Dx (s := 15) (Aa U) (fun c15 => ?_) (fun c15 => ?_)
 ·refine o_n U (o_n U (o_n U (o_n U (o_n U (o_n U (o_n U (o_n U (o_y U (Az (T U) Ak) (B5 U (Af (Ac (Bu (Aa U) (Cv 12 [(0, true), (1, true), (2, true), (3, true), (4, true), (5, true), (6, true), (7, true), (8, true), (9, true), (10, true), (11, true)] _ mixd (by kernel_rfl) sb0 ?_))))) U Ag) U (Bd U U (Aa U))) U (Bd U U (Aa U))) U (Bd U U (Aa U))) U (Bd U U (Aa U))) U (Bd U U (Aa U))) U (Bd U U (Aa U))) U (Bd U U (Aa U))) U (Bd U U (Aa U))
  refine o_y U (Am (T U) isAgg86 sizeOf86 U (by first | exact Bc | exact c_o (hf := Al (Al (Al h5))) | exact (hR.mono sbt).c1 | exact (hR.mono sbt).c2 | exact cell1 ((hR.mono sbt).a1.cs (i := n) hn) | exact (hR.mono sbt).a2.cs (i := n) (by omega))) ?_ U Ag
  refine o_y U (Ae (T U)) (o_y U (Aq (.cons (T U) (.cons (T U) .nil)) call52 (fun H' hs => with_s a ha n (by omega))) ?_ U Ag) U Ag
  refine o_y U (Am (T U) isAgg86 sizeOf86 U (by first | exact Bc | exact c_o (hf := Al (Al (Al h5))) | exact (hR.mono sbt).c1 | exact (hR.mono sbt).c2 | exact cell1 ((hR.mono sbt).a1.cs (i := n) hn) | exact (hR.mono sbt).a2.cs (i := n) (by omega))) ?_ U Ag
  refine o_y U (Ai (T U) isAgg80 (by first | exact c_o | exact c_o (hf := Al (Al (Al h5))) | exact (hR.mono sbt).c1 | exact (hR.mono sbt).c2 | exact cell1 ((hR.mono sbt).a1.cs (i := n) hn) | exact (hR.mono sbt).a2.cs (i := n) (by omega))) ?_ U Ag
  refine o_y U (B1 (T U)) (o_y U (Bk (T U) Dp) (o_y U (Ai (T U) isAgg81 (by first | exact c_o | exact c_o (hf := Al (Al (Al h5))) | exact (hR.mono sbt).c1 | exact (hR.mono sbt).c2 | exact cell1 ((hR.mono sbt).a1.cs (i := n) hn) | exact (hR.mono sbt).a2.cs (i := n) (by omega))) ?_ U Ag) U Ag) U Ag
  refine o_y U (Ae (T U)) (o_y U (Cw (T U) (T U) runUnderlying81 sizeOf86 (by omega) (by first | exact rfl | exact hR.a1.b (i := n) hn | exact hR.a2.b (i := n) (by omega))) ?_ U Ag) U Ag
  refine o_y U (Am (T U) isAgg86 sizeOf86 U (by first | exact Bc | exact c_o (hf := Al (Al (Al h5))) | exact (hR.mono sbt).c1 | exact (hR.mono sbt).c2 | exact cell1 ((hR.mono sbt).a1.cs (i := n) hn) | exact (hR.mono sbt).a2.cs (i := n) (by omega))) ?_ U Ag
  refine o_y U (Aq (.cons (T U) (.cons (T U) .nil)) call50 (fun H' hs => or_s b hb _ hg)) (B5 U ?_) U Ag
  first | refine A0 (As (T U) (T U) sizeOf86) U Ag ?_
  rintro _ _ ⟨rfl, rfl⟩
  first | refine A0 (As (T U) (T U) sizeOf86) U Ag ?_
  rintro _ _ ⟨rfl, rfl⟩
  refine Af (C8 U .nil (⟨_, rfl, ?_⟩))
  rw [if_pos (by unfold mtch; rw [c15]; rfl)]
  exact sbt
 ·refine o_y U (Ai (T U) isAgg80 (by first | exact c_o | exact c_o (hf := Al (Al (Al h5))) | exact (hR.mono sbt).c1 | exact (hR.mono sbt).c2 | exact cell1 ((hR.mono sbt).a1.cs (i := n) hn) | exact (hR.mono sbt).a2.cs (i := n) (by omega))) ?_ U (Ax U U (Aa U))
  refine o_y U (B1 (T U)) (o_y U (Bp (T U) Dl) (o_y U (Ai (T U) isAgg25 (by first | exact c_o | exact c_o (hf := Al (Al (Al h5))) | exact (hR.mono sbt).c1 | exact (hR.mono sbt).c2 | exact cell1 ((hR.mono sbt).a1.cs (i := n) hn) | exact (hR.mono sbt).a2.cs (i := n) (by omega))) ?_ U (Ax U U (Aa U))) U (Ax U U (Aa U))) U (Ax U U (Aa U))
  refine o_y U (Ae (T U)) (o_y U (Cw (T U) (T U) runUnderlying25 sizeOf9 (by omega) (by first | exact rfl | exact hR.a1.b (i := n) hn | exact hR.a2.b (i := n) (by omega))) ?_ U (Ax U U (Aa U))) U (Ax U U (Aa U))
  refine o_y U (Ai (T U) isAgg9 (by first | exact c_o | exact c_o (hf := Al (Al (Al h5))) | exact (hR.mono sbt).c1 | exact (hR.mono sbt).c2 | exact cell1 ((hR.mono sbt).a1.cs (i := n) hn) | exact (hR.mono sbt).a2.cs (i := n) (by omega))) ?_ U (Ax U U (Aa U))
  refine o_y U (yl_eqS (T U) Ak) (o_y U (Be (T U) (T U)) (B5 U (Af (Ac ?_))) U Ag) U (Ax U U (Aa U))
  first | refine Au (Aa U) (fun c24 => ?_) (fun c24 => ?_) | refine Bb (Aa U) (fun c24 => ?_) (fun c24 => ?_)
  ·refine Cv 12 [(0, true), (1, true), (2, true), (3, true), (4, true), (5, true), (6, true), (7, true), (8, true), (9, true), (10, true), (11, true)] _ mixd (by kernel_rfl) sb0 ?_
   refine o_y U (Am (T U) isAgg86 sizeOf86 U (by first | exact Bc | exact c_o (hf := Al (Al (Al h5))) | exact (hR.mono sbt).c1 | exact (hR.mono sbt).c2 | exact cell1 ((hR.mono sbt).a1.cs (i := n) hn) | exact (hR.mono sbt).a2.cs (i := n) (by omega))) ?_ U Ag
   refine o_y U (Ae (T U)) (o_y U (Aq (.cons (T U) (.cons (T U) .nil)) call52 (fun H' hs => with_s a ha n (by omega))) ?_ U Ag) U Ag
   refine o_y U (Am (T U) isAgg86 sizeOf86 U (by first | exact Bc | exact c_o (hf := Al (Al (Al h5))) | exact (hR.mono sbt).c1 | exact (hR.mono sbt).c2 | exact cell1 ((hR.mono sbt).a1.cs (i := n) hn) | exact (hR.mono sbt).a2.cs (i := n) (by omega))) ?_ U Ag
   refine o_y U (Ai (T U) isAgg80 (by first | exact c_o | exact c_o (hf := Al (Al (Al h5))) | exact (hR.mono sbt).c1 | exact (hR.mono sbt).c2 | exact cell1 ((hR.mono sbt).a1.cs (i := n) hn) | exact (hR.mono sbt).a2.cs (i := n) (by omega))) ?_ U Ag
   refine o_y U (B1 (T U)) (o_y U (Bk (T U) Dp) (o_y U (Ai (T U) isAgg81 (by first | exact c_o | exact c_o (hf := Al (Al (Al h5))) | exact (hR.mono sbt).c1 | exact (hR.mono sbt).c2 | exact cell1 ((hR.mono sbt).a1.cs (i := n) hn) | exact (hR.mono sbt).a2.cs (i := n) (by omega))) ?_ U Ag) U Ag) U Ag
   refine o_y U (Ae (T U)) (o_y U (Cw (T U) (T U) runUnderlying81 sizeOf86 (by omega) (by first | exact rfl | exact hR.a1.b (i := n) hn | exact hR.a2.b (i := n) (by omega))) ?_ U Ag) U Ag
   refine o_y U (Am (T U) isAgg86 sizeOf86 U (by first | exact Bc | exact c_o (hf := Al (Al (Al h5))) | exact (hR.mono sbt).c1 | exact (hR.mono sbt).c2 | exact cell1 ((hR.mono sbt).a1.cs (i := n) hn) | exact (hR.mono sbt).a2.cs (i := n) (by omega))) ?_ U Ag
   refine o_y U (Aq (.cons (T U) (.cons (T U) .nil)) call50 (fun H' hs => or_s b hb _ hg)) (B5 U ?_) U Ag
   first | refine A0 (As (T U) (T U) sizeOf86) U Ag ?_
   rintro _ _ ⟨rfl, rfl⟩
   first | refine A0 (As (T U) (T U) sizeOf86) U Ag ?_
   rintro _ _ ⟨rfl, rfl⟩
   refine Af (C8 U .nil (⟨_, rfl, ?_⟩))
   rw [if_pos (by unfold mtch; rw [c15, c24]; rfl)]
   exact sbt
  ·refine A9 (C8 U .nil (⟨_, rfl, ?_⟩))
   rw [if_neg (by unfold mtch; rw [c15, c24]; decide)]
   exact sbt
theorem m1E_s {w0 : World} {H : List (Nat × Obj)} (nt n5 n8 n10 n11 : Nat) (d1 d2 : Sl) (t : Tr) (s : ByteArray) (can : Nat) (ht : TrOk t) (hw : Low t) (hc : can < 2 ^ t.names.length) (hR : TrR w0 H nt d1 d2 t) (h5 : Fnd H n5 (Cl [.pointer (some ⟨nt, 0, none⟩)] 80)) :
  FSpec Tryz.prog w0 48 #[.agg (encSet can).toArray, .func (.func 57) #[] #[.pointer (some ⟨n5, 0, none⟩), .pointer (some ⟨n10, 0, none⟩), .pointer (some ⟨n8, 0, none⟩), .pointer (some ⟨n11, 0, none⟩)]] ([(n11, Cl (encSet 0) 86), (n10, Cl [.string s] 9), (n8, Cl (encSet 0) 86)] ++ H) (fun v H' => ∃ x : Unit, True ∧ H' = [(n11, Cl (encSet (stepK t s can 256).2) 86), (n10, Cl [.string s] 9), (n8, Cl (encSet (stepK t s can 256).1) 86)] ++ H) := by
 have hp : 2 ^ t.names.length ≤ 2 ^ 64 := Nat.pow_le_pow_right (by omega) ht.few
 have h := each_s (w0 := w0) (H := H) can (Nat.lt_of_lt_of_le hc hp) 57 [.pointer (some ⟨n5, 0, none⟩), .pointer (some ⟨n10, 0, none⟩), .pointer (some ⟨n8, 0, none⟩), .pointer (some ⟨n11, 0, none⟩)] call57 (fun i => [(n11, Cl (encSet (stepK t s can i).2) 86), (n10, Cl [.string s] 9), (n8, Cl (encSet (stepK t s can i).1) 86)]) (fun n hn hb H1 hs => by
  have hlt : n < t.names.length := by
   refine Classical.byContradiction fun hge => ?_
   rw [Nat.testBit_lt_two_pow (Nat.lt_of_lt_of_le hc (Nat.pow_le_pow_right (by omega) (by omega)))] at hb; cases hb
  have hl := stepK_lt ht hw (s := s) hc n
  refine (m1_s (H := H1) nt n5 n8 n10 n11 d1 d2 t s _ _ n (by omega) (by omega) ht hlt (hR.mono hs) (h5.mono hs)).mono ?_
  rintro v H' rfl
  show _ = [(n11, Cl (encSet (stepK t s can (n + 1)).2) 86), (n10, Cl [.string s] 9), (n8, Cl (encSet (stepK t s can (n + 1)).1) 86)] ++ H1
  rw [stepK_succ, hb, Bool.true_and]
  split <;> rfl) (fun n hb => by
   show [(n11, Cl (encSet (stepK t s can (n + 1)).2) 86), (n10, Cl [.string s] 9), (n8, Cl (encSet (stepK t s can (n + 1)).1) 86)] = _
   rw [stepK_succ, hb]; rfl)
 exact h.mono fun v H' e => ⟨(), trivial, e⟩
theorem match_s {w0 : World} {H : List (Nat × Obj)} (m : Rxm) (e : Re) (q : Option Addr) (c : Nat) (names : List ByteArray) (hI : Is m e) (hM : RxM w0 H m) (hl : e.lv ≤ 64) (hA : Arr w0 H q 1 encS names) (hlen : names.length ≤ 9223372036854775807) :
  FSpec Tryz.prog w0 16 #[.agg (encRx m).toArray, .slice q names.length c] H (Still (.bool (matchF e names)) H) := by
 refine A7 Tryz.func16 U ntmps16 U ?_
 obtain ⟨hx1, hx2, hx3, hx4⟩ := Cx e Dm (by show 0 + e.lv ≤ 64; omega)
 have hxw := add_low e Dm (by show 0 + e.lv ≤ 64; omega) t00_low
 have hp : 2 ^ (t00.names.length + e.lv) ≤ 2 ^ 64 := Nat.pow_le_pow_right (by omega) (by show 0 + e.lv ≤ 64; omega)
 rw [← hx2] at hx3 hx4 hp
 refine Ah (Ab (e_ (Bf (T U) cs_) ?_ U))
 rintro _ _ ⟨n2, rfl, rfl⟩
 refine y_ (Ad Ak) (Af (Ac (Ah (Ab (y_ (Bq .nil (bd83_z)) (e_ (Bf (T U) cs_) ?_ U) U))))) U
 rintro _ _ ⟨n13, rfl, rfl⟩
 refine e_ (Ap zeroValue80 cs_) ?_ U
 rintro _ _ ⟨n5, rfl, rfl⟩
 first | refine A0 (As (T U) (T U) sizeOf80) U Ag ?_ | refine A0 (B6 (T U) (T U) U sizeOf80) U Ag ?_ | refine A0 (By (T U) (T U) U sizeOf80) U Ag ?_
 rintro _ _ ⟨rfl, rfl⟩
 refine Af (Ac (Ah (Ab (y_ (Ai (T U) isAgg80 (by first | exact c_o | exact cell1 ((hA.mono sbt).cs (i := i) (by omega)))) ?_ U))))
 refine y_ (Am (T U) isAgg24 sizeOf24 U (by first | exact Bc | exact cell1 ((hA.mono sbt).cs (i := i) (by omega)))) ?_ U
 refine e_ (Av (.cons (T U) (.cons (T U) .nil)) call46 (Bn (trH n13 .nil .nil t00) loc_t0 (add_s hI _ n13 .nil .nil t00 (hM.mono sbt) U U Dm (by show 0 + e.lv ≤ 64; omega)))) ?_ U
 rintro _ _ ⟨⟨e1, e2⟩, ⟨rfl, ho1, ho2⟩, rfl⟩
 refine e_ (Ap zeroValue88 cs_) ?_ U
 rintro _ _ ⟨n6, rfl, rfl⟩
 first | refine A0 (As (T U) (T U) sizeOf88) U Ag ?_
 rintro _ _ ⟨rfl, rfl⟩
 refine Af (Ac (Ah (Ah (Ab (y_ (Ae (T U)) (y_ (Bw (T U) runUnderlying25) (y_ (B3 (T U) Ak) (Af (Ac ?_)) U) U) U)))))
 first | refine Au (Aa U) (fun c19 => ?_) (fun c19 => ?_) | refine Bb (Aa U) (fun c19 => ?_) (fun c19 => ?_)
 ·refine Ah (Ab (y_ (Bk (T U) fa88_2) (y_ (Ai (T U) isAgg4 (by first | exact c_o | exact cell1 ((hA.mono sbt).cs (i := i) (by omega)))) ?_ U) U))
  refine y_ (Ad (T U)) (Af (Ac (A5 (Ao (A6 U (.tmp (Aa U) .nil) (⟨_, ⟨vbool ?_, rfl⟩, sbt⟩)))))) U
  unfold matchF; rw [if_pos (by omega)]
 ·refine A9 (Ac (Ah (Ab (y_ (Bp (T U) Dq) ?_ U))))
  refine y_ (Am (T U) isAgg86 sizeOf86 U (by first | exact Ck (o := 0) (k := 4) fdd | exact Bc | exact cell1 ((hA.mono sbt).cs (i := i) (by omega)))) ?_ U
  refine y_ (Bq .nil (bd86_z)) (e_ (Ap zeroValue86 cs_) ?_ U) U
  rintro _ _ ⟨n7, rfl, rfl⟩
  refine e_ (Ap zeroValue86 cs_) ?_ U
  rintro _ _ ⟨n8, rfl, rfl⟩
  first | refine A0 (As (T U) (T U) sizeOf86) U Ag ?_
  rintro _ _ ⟨rfl, rfl⟩
  first | refine A0 (As (T U) (T U) sizeOf86) U Ag ?_
  rintro _ _ ⟨rfl, rfl⟩
  refine Af (Ac (Ah (Ah (Ab (y_ (Ae (T U)) (y_ (Bw (T U) runUnderlying25) (y_ (Ae Ak) (Af (Ac (Bt [(5, _), (6, _), (7, _), (8, _), (25, _), (26, _), (27, _)] ⟨Aa U, Aa U, Aa U, Aa U, Aa U, Aa U, Aa U, trivial⟩ (A2 ?_)))) U) U) U)))))
  refine Cn (X := Nat × Nat × Nat) (V := fun ⟨i, now, can⟩ => [(27, .int .i64 (i : Nat))]) (C := [(5, _), (6, _), (7, _), (8, _), (25, _), (26, _)]) (G := fun ⟨i, now, can⟩ => (n8, Cl (encSet now) 86) :: (n7, Cl (encSet can) 86) :: (n6, Cl (encEn (addF e t00).2) 88) :: (n5, Cl [.pointer (some ⟨n13, 0, none⟩)] 80) :: (trH n13 e1 e2 (addF e t00).1 ++ (n2, Cl (encRx m) 24) :: H)) (φ := fun ⟨i, now, can⟩ => i ≤ names.length ∧ (now, can) = runF (addF e t00).1 (0, (addF e t00).2.first) (names.take i) ∧ now < 2 ^ (addF e t00).1.names.length ∧ can < 2 ^ (addF e t00).1.names.length) (μ := fun ⟨i, now, can⟩ => names.length - i) (x0 := (0, 0, (addF e t00).2.first)) ?_ ⟨Aa rfl, Aa rfl, Aa rfl, Aa rfl, Aa rfl, Aa rfl, trivial⟩ ⟨atd, trivial⟩ sb0 ?_
  ·exact ⟨Nat.zero_le _, rfl, Nat.two_pow_pos _, hx3⟩
  rintro ⟨i, now, can⟩ ⟨hi, hrun, hnow, hcan⟩
  refine Ah (Ab (y_ (B4 (T U) (T U)) (Af (Ac (Ah ?_))) U))
  first | refine Au (Aa U) (fun c28 => ?_) (fun c28 => ?_) | refine Bb (Aa U) (fun c28 => ?_) (fun c28 => ?_)
  ·refine A9 (Ac (Ah (A2 (Ah (Ab (y_ (Bh (T U) (T U) runUnderlying25 sizeOf9 (by omega) (by first | exact rfl | exact hA.b (i := i) (by omega))) ?_ U))))))
   refine y_ (Ai (T U) isAgg9 (by first | exact c_o | exact cell1 ((hA.mono sbt).cs (i := i) (by omega)))) ?_ U
   refine e_ (Ap zeroValue9 cs_) ?_ U
   rintro _ _ ⟨n10, rfl, rfl⟩
   first | refine A0 (As (T U) (T U) sizeOf9) U Ag ?_ | refine A0 (B6 (T U) (T U) U sizeOf9) U Ag ?_ | refine A0 (By (T U) (T U) U sizeOf9) U Ag ?_
   rintro _ _ ⟨rfl, rfl⟩
   refine Af (Ac (Ah (Ab (y_ (Bq .nil (bd86_z)) ?_ U))))
   first | refine A0 (As (T U) (T U) sizeOf86) U Ag ?_
   rintro _ _ ⟨rfl, rfl⟩
   refine Af (Ac (Ah (Ab (e_ (Ap zeroValue86 cs_) ?_ U))))
   rintro _ _ ⟨n11, rfl, rfl⟩
   refine Af (Ac (Ah (Ab (y_ (Am (T U) isAgg86 sizeOf86 U (by first | exact Bc | exact cell1 ((hA.mono sbt).cs (i := i) (by omega)))) ?_ U))))
   refine y_ (Cc (.cons (T U) (.cons (T U) (.cons (T U) (.cons (T U) .nil))))) ?_ U
   refine e_ (Av (.cons (T U) (.cons (T U) .nil)) call48 (Bn [(n11, Cl (encSet 0) 86), (n10, Cl [.string (gd names i)] 9), (n8, Cl (encSet 0) 86)] loc3 (m1E_s n13 n5 n8 n10 n11 e1 e2 (addF e t00).1 (gd names i) can hx1 hxw hcan ((tr_r (R := (n2, Cl (encRx m) 24) :: H) ho1 ho2).mono sbt) fdd))) ?_ U
   rintro _ _ ⟨_, _, rfl⟩
   refine Af (Ac (Ab (y_ (Am (T U) isAgg86 sizeOf86 U (by first | exact Bc | exact cell1 ((hA.mono sbt).cs (i := i) (by omega)))) ?_ U)))
   first | refine A0 (As (T U) (T U) sizeOf86) U Ag ?_
   rintro _ _ ⟨rfl, rfl⟩
   refine Af (Bm (Ac (Ab (y_ (Bv (T U) Ak (by omega)) ?_ U))))
   refine y_ (Ae (T U)) (Af ?_) U
   refine Bs ((i + 1, (stepK (addF e t00).1 (gd names i) can 256).1, (stepK (addF e t00).1 (gd names i) can 256).2)) ?_ ?_ ⟨atd, trivial⟩ ⟨Aa U, Aa U, Aa U, Aa U, Aa U, Aa U, trivial⟩ ?_
   ·refine ⟨by omega, ?_, (stepK_lt hx1 hxw hcan 256).1, (stepK_lt hx1 hxw hcan 256).2⟩
    rw [runF_take (by omega), ← hrun]
   ·first | omega | (simp only []; omega)
   ·exact sbt
  ·refine B7 (A4 (A8 (Ba (Ac (Ah (Ab (y_ (Am (T U) isAgg86 sizeOf86 U (by first | exact Bc | exact cell1 ((hA.mono sbt).cs (i := i) (by omega)))) ?_ U)))))))
   refine y_ (Bk (T U) Dg) ?_ U
   refine y_ (Am (T U) isAgg86 sizeOf86 U (by first | exact Ck (o := 4) (k := 4) fdd | exact Bc | exact cell1 ((hA.mono sbt).cs (i := i) (by omega)))) ?_ U
   refine y_ (Aq (.cons (T U) (.cons (T U) .nil)) call53 (fun H' hs => meets_s _ (by omega) _ (by omega))) ?_ U
   refine y_ (Ad (T U)) (Af (Ac (A5 (A6 U (.tmp (Aa U) .nil) (⟨_, ⟨vbool ?_, rfl⟩, sbt⟩))))) U
   unfold matchF; rw [if_neg (by omega)]
   have hi2 : i = names.length := by omega
   rw [hi2, List.take_length] at hrun
   rw [← hrun]
end Go.Proofs.YtkdolgnpkjihpaaGreatDoor
namespace Go.Proofs.YtkdolgnpkjihpaaGreatDoor
open _root_.Go.Proofs.Tryz
open Go.RowKit Go.Shelf Go.Sort Go.Proofs
set_option linter.unusedVariables false
set_option linter.unusedSimpArgs false
def laysSort_ren : Go.Shelf.Ren := ⟨fun | 190 => 102 | 125 => 131 | 258 => 138 | 128 => 155 | 129 => 156 | 302 => 159 | 303 => 160 | 304 => 161 | 305 => 162 | 306 => 163 | 307 => 164 | 308 => 112 | 309 => 165 | 310 => 166 | 333 => 179 | 329 => 172 | 330 => 173 | 334 => 180 | 335 => 181 | 336 => 141 | 344 => 189 | n => n, fun | 31 => 25 | 9 => 9 | 3 => 3 | 46 => 192 | 0 => 0 | 51 => 214 | 53 => 84 | 4 => 4 | 183 => 208 | 182 => 207 | 131 => 99 | 5 => 5 | 218 => 225 | 222 => 229 | 228 => 239 | 229 => 240 | n => n, fun | n => n⟩
theorem laysSort : Go.Proofs.Lays.n190 Tryz.prog laysSort_ren := {
 mixed := by kernel_rfl,
 f125 := Tryz.func131.trans (congrArg some (by kernel_rfl)),
 f128 := Tryz.func155.trans (congrArg some (by kernel_rfl)),
 f129 := Tryz.func156.trans (congrArg some (by kernel_rfl)),
 f190 := Tryz.func102.trans (congrArg some (by kernel_rfl)),
 f258 := Tryz.func138.trans (congrArg some (by kernel_rfl)),
 f302 := Tryz.func159.trans (congrArg some (by kernel_rfl)),
 f303 := Tryz.func160.trans (congrArg some (by kernel_rfl)),
 f304 := Tryz.func161.trans (congrArg some (by kernel_rfl)),
 f305 := Tryz.func162.trans (congrArg some (by kernel_rfl)),
 f306 := Tryz.func163.trans (congrArg some (by kernel_rfl)),
 f307 := Tryz.func164.trans (congrArg some (by kernel_rfl)),
 f308 := Tryz.func112.trans (congrArg some (by kernel_rfl)),
 f309 := Tryz.func165.trans (congrArg some (by kernel_rfl)),
 f310 := Tryz.func166.trans (congrArg some (by kernel_rfl)),
 f329 := Tryz.func172.trans (congrArg some (by kernel_rfl)),
 f330 := Tryz.func173.trans (congrArg some (by kernel_rfl)),
 f333 := Tryz.func179.trans (congrArg some (by kernel_rfl)),
 f334 := Tryz.func180.trans (congrArg some (by kernel_rfl)),
 f335 := Tryz.func181.trans (congrArg some (by kernel_rfl)),
 f336 := Tryz.func141.trans (congrArg some (by kernel_rfl)),
 f344 := Tryz.func189.trans (congrArg some (by kernel_rfl)),
 t0 := underlying0,
 a0 := isAgg0,
 z0 := sizeOf0,
 v0 := zeroValue0,
 t3 := underlying3,
 a3 := isAgg3,
 z3 := sizeOf3,
 v3 := zeroValue3,
 t4 := underlying4,
 a4 := isAgg4,
 z4 := sizeOf4,
 v4 := zeroValue4,
 t5 := underlying5,
 a5 := isAgg5,
 z5 := sizeOf5,
 v5 := zeroValue5,
 t9 := underlying9,
 a9 := isAgg9,
 z9 := sizeOf9,
 v9 := zeroValue9,
 t31 := underlying25,
 a31 := isAgg25,
 z31 := sizeOf25,
 v31 := zeroValue25,
 t46 := underlying192,
 a46 := isAgg192,
 z46 := sizeOf192,
 v46 := zeroValue192,
 t51 := underlying214,
 a51 := isAgg214,
 z51 := sizeOf214,
 v51 := zeroValue214,
 t53 := underlying84,
 a53 := isAgg84,
 z53 := sizeOf84,
 v53 := zeroValue84,
 t131 := underlying99,
 a131 := isAgg99,
 z131 := sizeOf99,
 v131 := zeroValue99,
 t182 := underlying207,
 a182 := isAgg207,
 z182 := sizeOf207,
 v182 := zeroValue207,
 t183 := underlying208,
 a183 := isAgg208,
 z183 := sizeOf208,
 v183 := zeroValue208,
 t218 := underlying225,
 a218 := isAgg225,
 z218 := sizeOf225,
 v218 := zeroValue225,
 t222 := underlying229,
 a222 := isAgg229,
 z222 := sizeOf229,
 v222 := zeroValue229,
 t228 := underlying239,
 a228 := isAgg239,
 z228 := sizeOf239,
 v228 := zeroValue239,
 t229 := underlying240,
 a229 := isAgg240,
 z229 := sizeOf240,
 v229 := zeroValue240 }
def laysCompact_ren : Go.Shelf.Ren := ⟨fun | 194 => 61 | n => n, fun | 31 => 25 | 9 => 9 | 3 => 3 | 4 => 4 | 0 => 0 | n => n, fun | n => n⟩
theorem laysCompact : Go.Proofs.Lays.n194 Tryz.prog laysCompact_ren := {
 mixed := by kernel_rfl,
 f194 := Tryz.func61.trans (congrArg some (by kernel_rfl)),
 t0 := underlying0,
 a0 := isAgg0,
 z0 := sizeOf0,
 v0 := zeroValue0,
 t3 := underlying3,
 a3 := isAgg3,
 z3 := sizeOf3,
 v3 := zeroValue3,
 t4 := underlying4,
 a4 := isAgg4,
 z4 := sizeOf4,
 v4 := zeroValue4,
 t9 := underlying9,
 a9 := isAgg9,
 z9 := sizeOf9,
 v9 := zeroValue9,
 t31 := underlying25,
 a31 := isAgg25,
 z31 := sizeOf25,
 v31 := zeroValue25 }
abbrev toL (s : ByteArray) : List UInt8 := s.data.toList
abbrev ofL (u : List UInt8) : ByteArray := ⟨u.toArray⟩
theorem map_to_of (l : List (List UInt8)) : (l.map ofL).map toL = l := by simp [List.map_map, Function.comp_def]
theorem enc_str (l : List ByteArray) : l.flatMap encS = (l.map toL).map encStr := by
 induction l with
 | nil => rfl
 | cons x l ih => rw [List.flatMap_cons, ih]; rfl
theorem enc_str2 (l : List (List UInt8)) : (l.map ofL).flatMap encS = l.map encStr := by rw [enc_str, map_to_of]
abbrev srtU (l : List (List UInt8)) : List (List UInt8) := l.mergeSort fun x y => decide (x ≤ y)
def srtB (l : List ByteArray) : List ByteArray := (srtU (l.map toL)).map ofL
def cptB (l : List ByteArray) : List ByteArray := (Lib.compact (l.map toL)).map ofL
theorem srtB_len (l : List ByteArray) : (srtB l).length = l.length := by simp [srtB]
theorem compactU_len (zs : List (List UInt8)) : (Lib.compact zs).length ≤ zs.length := by
 unfold Lib.compact Lib.compactUpTo
 rw [List.length_map]
 exact Nat.le_trans (List.length_filter_le _ _) (by simp)
theorem sortB_s {w0 : World} {H : List (Nat × Obj)} (d : Sl) (l : List ByteArray) (hok : SlOk d l.length 1) (hsz : l.length ≤ 2000000) :
  FSpec Tryz.prog w0 102 #[slV d l.length] (slH d (l.flatMap encS) 9 ++ H) (fun v H' => v = .tuple #[] ∧ H' = slH d ((srtB l).flatMap encS) 9 ++ H) := fun w hO => by
 have hlen : (l.map toL).length = (srtU (l.map toL)).length := by simp [srtU]
 have e0 : l.length = (l.map toL).length := by simp
 rw [enc_str] at hO
 unfold srtB
 rw [enc_str2]
 cases d with
 | nil =>
  have : l = [] := List.eq_nil_of_length_eq_zero hok
  subst this
  exact (Any.slices_Sort_string_none laysSort none 0 w).mono fun e w' ⟨he, hw⟩ => ⟨_, _, he, hw ▸ hO, rfl, by simp [slH]⟩
 | blk n cap junk =>
  simp only [slH, List.singleton_append] at hO ⊢
  show Calls Tryz.prog 102 #[.slice (some ⟨n, 0, none⟩) l.length cap] w _
  rw [e0]
  exact (Any.slices_Sort_string laysSort n 0 cap (l.map toL) w (own_holds hO) (own_lt hO) (by omega)).mono fun e w' ⟨he, q, os, hw⟩ => ⟨_, _, he, hw ▸ own_row (l := l.map toL) (l' := srtU (l.map toL)) hO hlen q os, rfl, rfl⟩
theorem compactB_s {w0 : World} {H : List (Nat × Obj)} (d : Sl) (l : List ByteArray) (hok : SlOk d l.length 1) (hsz : l.length ≤ 2000000) :
  FSpec Tryz.prog w0 61 #[slV d l.length] (slH d (l.flatMap encS) 9 ++ H) (fun v H' => ∃ d', v = slV d' (cptB l).length ∧ SlOk d' (cptB l).length 1 ∧ H' = slH d' ((cptB l).flatMap encS) 9 ++ H) := fun w hO => by
 have e0 : l.length = (l.map toL).length := by simp
 have e1 : (cptB l).length = (Lib.compact (l.map toL)).length := by simp [cptB]
 rw [enc_str] at hO
 rw [e1]
 unfold cptB
 rw [enc_str2]
 cases d with
 | nil =>
  have : l = [] := List.eq_nil_of_length_eq_zero hok
  subst this
  exact (Any.slices_Compact_string_empty laysCompact none 0 w).mono fun e w' ⟨he, hw⟩ => ⟨_, _, he, hw ▸ hO, .nil, rfl, rfl, by simp [slH]⟩
 | blk n cap junk =>
  have hcl := compactU_len (l.map toL)
  obtain ⟨hk1, hk2⟩ := hok
  rw [e0] at hk1 hk2 hsz
  simp only [slH, List.singleton_append] at hO ⊢
  show Calls Tryz.prog 61 #[.slice (some ⟨n, 0, none⟩) l.length cap] w _
  rw [e0]
  refine (Any.slices_Compact_string laysCompact n 0 cap (l.map toL) w (own_holds hO) (by omega) hk1).mono fun e w' ⟨he, q, hw⟩ => ⟨_, (n, Cl ((Lib.compact (l.map toL)).map encStr ++ (List.replicate ((l.map toL).length - (Lib.compact (l.map toL)).length) (encStr []) ++ junk)) 9) :: H, he, ?_, .blk n cap (List.replicate ((l.map toL).length - (Lib.compact (l.map toL)).length) (encStr []) ++ junk), rfl, ⟨by omega, ?_⟩, rfl⟩
  ·have h1 := own_row (l := l.map toL) (l' := Lib.compact (l.map toL) ++ List.replicate ((l.map toL).length - (Lib.compact (l.map toL)).length) []) hO (by simp at hcl ⊢; omega) q #[]
   rw [grow_empty, ← hw] at h1
   simpa [List.append_assoc] using h1
  ·simp [hk2]; simp at hcl; omega
end Go.Proofs.YtkdolgnpkjihpaaGreatDoor
namespace Go.Proofs.YtkdolgnpkjihpaaGreatDoor
open _root_.Go.Proofs.Tryz
open Go.RowKit
set_option linter.unusedVariables false
set_option linter.unusedSimpArgs false
theorem cells_flat {α : Type} {enc : α → List Value} {sz : Nat} (he : ∀ u, (enc u).length = sz) {w0 : World} {H : List (Nat × Obj)} {b : Nat} : ∀ (l : List α) (o : Nat), (∀ i x, l[i]? = some x → Cells w0 H b (o + i * sz) (enc x)) → Cells w0 H b o (l.flatMap enc)
 | [], o, _ => fun i v hi => by simp at hi
 | x :: l, o, h => fun i v hi => by
  rw [List.flatMap_cons] at hi
  rcases Nat.lt_or_ge i (enc x).length with hlt | hge
  ·rw [List.getElem?_append_left hlt] at hi
   have := h 0 x U i v hi
   simpa using this
  ·rw [List.getElem?_append_right hge] at hi
   have h2 := cells_flat he l (o + sz) (fun j y hj => by
    have := h (j + 1) y (by simpa using hj)
    rw [show o + sz + j * sz = o + (j + 1) * sz by rw [Nat.succ_mul]; omega]
    exact this) (i - (enc x).length) v hi
   rw [he] at h2 hge
   rw [show o + sz + (i - sz) = o + i by omega] at h2
   exact h2
theorem Arr.all {α : Type} {enc : α → List Value} {sz : Nat} (he : ∀ u, (enc u).length = sz) {w0 : World} {H : List (Nat × Obj)} {q : Option Addr} {l : List α} (h : Arr w0 H q sz enc l) : Cells w0 H (bq q) (oq q) (l.flatMap enc) :=
 cells_flat he l (oq q) fun i x hi => (h i x hi).2
theorem all_flat {α : Type} {enc : α → List Value} (h : ∀ u, (enc u).all oneB = true) : ∀ (l : List α), (l.flatMap enc).all oneB = true
 | [] => rfl
 | x :: l => by rw [List.flatMap_cons, List.all_append, h x, all_flat h l]; rfl
section
variable {P : Program} {w0 : World} {L : Fm} {op : Op} {ty xt yt : TypeId} {H : List (Nat × Obj)} {x y : Operand} {t t2 e : TypeId}
theorem eff_appN_at {α : Type} {enc : α → List Value} (l2 : List α) {R : List (Nat × Obj)} {F : List (Nat × Obj) → List (Nat × Obj)} {d : Sl} {l : List α} {q : Option Addr} {c sz by' : Nat} {z : Value} {i0 : TypeInfo} {e2 : TypeId} (hl : LocL H (slH d (l.flatMap enc) e) R F) (hx : Ev L x (slV d l.length)) (hy : Ev L y (.slice q l2.length c))
  (ht : ∀ w, (underlying t).run P w = .ok (.slice e) w) (ht2 : ∀ w, (underlying t2).run P w = .ok (.slice e2) w) (hz : ∀ w, (sizeOf e).run P w = .ok sz w) (hi : ∀ w, (typeInfo e).run P w = .ok i0 w) (hby : i0.bytes = by') (hzv : ∀ w, (zeroValue e).run P w = .ok z w) (hzs : z.cells.size = sz)
  (he : ∀ u, (enc u).length = sz) (h1 : ∀ u, (enc u).all oneB = true) (hok : SlOk d l.length sz) (hb0 : by' ≠ 0) (hb : (2 * (l.length + l2.length) + 600) * by' ≤ 281474976710656) (hA : Arr w0 H q sz enc l2) :
  Eff P w0 (.call { callee := .builtin .append, args := #[x, y], argTypes := #[t, t2] }) ty L H (fun u H' => ∃ d', u = slV d' (l.length + l2.length) ∧ SlOk d' (l.length + l2.length) sz ∧ H' = F (slH d' ((l ++ l2).flatMap enc) e)) := by
 have hn := hA.all he
 have hn' : Cells w0 ([] ++ (slH d (l.flatMap enc) e ++ R)) (bq q) (oq q) (l2.flatMap enc) := fun i u hi w hO => hn i u hi w (own_perm hO hl.perm.1.symm)
 have hq : l2.length = 0 ∨ Bas q := by
  cases l2 with
  | nil => exact .inl rfl
  | cons x l2 => exact .inr (hA 0 x rfl).1
 refine (eff_append (A := []) (X := R) (cells := l.flatMap enc) (new := l2.flatMap enc) hx hy ht ht2 hz hi hby hzv hzs hq (flat_len he l2) hn' (all_flat h1 l2) (flat_len he l) hok hb0 hb).perm hl.perm.1 ?_
 rintro u H' ⟨d', h1, h2, rfl⟩
 exact ⟨_, (hl.perm.2 _).symm, d', h1, h2, by rw [List.flatMap_append]⟩
theorem yl_ltS {a b : ByteArray} (hx : Ev L x (.string a)) (hy : Ev L y (.string b)) : Yl P w0 (.binOp .lss xt x y yt) ty L H (.bool (decide (a.data.toList < b.data.toList))) := Ca U fun b' w => by
 have e1 : Op.bytesLess a.toList b.toList = decide (a.data.toList < b.data.toList) := by rw [Go.Proofs.bytesLess_eq, ByteArray.toList_eq, ByteArray.toList_eq]
 simp [exO, execOp, hx b', hy b', binOp, eqGuard, Op.stringOp, Sem.run_bind, Result.andThen, e1]
theorem yl_eqSD {a b : ByteArray} (hx : Ev L x (.string a)) (hy : Ev L y (.string b)) : Yl P w0 (.binOp .eql xt x y yt) ty L H (.bool (decide (a.data.toList = b.data.toList))) := Ca U fun b' w => by
 have e1 : (a.toList == b.toList) = decide (a.data.toList = b.data.toList) := by
  rw [ByteArray.toList_eq, ByteArray.toList_eq]
  exact Bool.eq_iff_iff.2 (by simp)
 simp [exO, execOp, hx b', hy b', binOp, eqGuard, Op.stringOp, Sem.run_bind, Result.andThen, e1]
theorem yl_neSD {a b : ByteArray} (hx : Ev L x (.string a)) (hy : Ev L y (.string b)) : Yl P w0 (.binOp .neq xt x y yt) ty L H (.bool (decide (¬ a.data.toList = b.data.toList))) := Ca U fun b' w => by
 have e1 : (!(a.toList == b.toList)) = decide (¬ a.data.toList = b.data.toList) := by
  rw [ByteArray.toList_eq, ByteArray.toList_eq]
  exact Bool.eq_iff_iff.2 (by simp)
 have e2 : (a.toList != b.toList) = decide (¬ a.data.toList = b.data.toList) := e1
 simp [exO, execOp, hx b', hy b', binOp, eqGuard, Op.stringOp, Sem.run_bind, Result.andThen, e1, e2]
theorem yl_catS {a b : ByteArray} (hx : Ev L x (.string a)) (hy : Ev L y (.string b)) (hb : a.size + b.size ≤ 9223372036854775807) : Yl P w0 (.binOp .add xt x y yt) ty L H (.string (a ++ b)) := Ca U fun b' w => by
 have e1 : ¬ ((a.size + b.size : Nat) : Int) > IntKind.i64.max := by
  have : IntKind.i64.max = 9223372036854775807 := by decide
  rw [this]; omega
 have e2 : ¬ (9223372036854775807 < (a.size : Int) + (b.size : Int)) := by omega
 simp [exO, execOp, hx b', hy b', binOp, eqGuard, Op.stringOp, Sem.run_bind, Result.andThen, e1, e2]
end
section
variable {P : Program} {w0 : World} {L : Fm} {ty t et kt : TypeId} {H : List (Nat × Obj)} {x y z : Operand} {K V : Type} [DecidableEq K] {encK : K → Value} {encV : V → Value}
theorem eff_insert {r : Nat} {l : List (K × V)} (k : K) (u : V) {v v' : Value} {H' : List (Nat × Obj)} (hk : KeyOk (V := V) P kt encK) (hx : Ev L x (.map (some r))) (hy : Ev L y v) (hv : v = encK k) (hz : Ev L z v') (hv' : v' = encV u) (ht : ∀ w, (underlying t).run P w = .ok (.map kt et) w)
  (hu : Upd H r (mapO encK encV l) (mapO encK encV (upsert l k u)) H' := by (repeat (first | exact Upd.h | apply Upd.t | apply Dz)); done) : Eff P w0 (.insert t x y z) ty L H (Still undef H') :=
 ⟨rfl, fun b w hO => (eff_mapUpdate (ty := ty) k u hk hx hy hv hz hv' ht hu).2 b w hO⟩
theorem eff_makeSlice0 {e k by' : Nat} {z : Value} {i0 : TypeInfo} (hx : Ev L x (.int .i64 0)) (hy : Ev L y (.int .i64 (k : Int))) (ht : ∀ w, (underlying t).run P w = .ok (.slice e) w) (hz : ∀ w, (sizeOf e).run P w = .ok 1 w) (hi : ∀ w, (typeInfo e).run P w = .ok i0 w) (hby : i0.bytes = by') (hzv : ∀ w, (zeroValue e).run P w = .ok z w) (hzc : z.cells = #[z]) (hb : k * by' ≤ 281474976710656) (hk : k ≤ 1000000) :
  Eff P w0 (.makeSlice t x y) ty L H (fun v H' => ∃ n, v = slV (.blk n k (List.replicate k z)) 0 ∧ H' = slH (.blk n k (List.replicate k z)) [] e ++ H) :=
 ⟨rfl, fun b w hO => by
  have e1 : IntKind.i64.wrap (k : Int) = k := IntWalk.i64_in _ (by omega)
  have e1b : IntKind.i64.wrap (0 : Int) = 0 := IntWalk.i64_in _ (by omega)
  have e2 : ¬ ((281474976710656 : Int) < (by' : Int) * k) := by
   have : (k * by' : Nat) ≤ 281474976710656 := hb
   have h2 : ((k * by' : Nat) : Int) = (by' : Int) * k := by rw [Nat.mul_comm]; simp
   omega
  have e3 : ¬ ((k : Int) < 0) := by omega
  have : (exO (ev (lk L b)) (.makeSlice t x y) ty).run P w = .ok (.value (.slice (some ⟨w.heap.size, 0, none⟩) 0 k)) (w.alloc (Cl (List.replicate k z) e)) := by
   simp [exO, execOp, Instr.makeSlice, hx b, hy b, ht, hz, hi, hby, hzv, hzc, asInt, asIntOf, e1, e1b, e2, Sem.run_bind, Result.andThen]
   rw [if_neg e3]
   by_cases h0 : k = 0
   ·subst h0
    have e5 : (Array.map (fun (_ : Nat) => (default : Value)) (Array.range 0)) = ([] : List Value).toArray := by simp
    rw [if_pos U, e5, run_new]; rfl
   ·have e4 : Array.map (fun x => [z][x % 1]?.getD default) (Array.range k) = (List.replicate k z).toArray := by
     apply Array.ext_getElem?
     intro i
     by_cases hi : i < k
     ·simp [hi, Nat.mod_one]
     ·simp [hi]
    rw [if_neg h0, e4, run_new]
  rw [this]; exact ⟨_, hO.alloc _, _, rfl, rfl⟩⟩
end
end Go.Proofs.YtkdolgnpkjihpaaGreatDoor
namespace Go.Proofs.YtkdolgnpkjihpaaGreatDoor
open _root_.Go.Proofs.Tryz
open Go.RowKit
set_option linter.unusedVariables false
set_option linter.unusedSimpArgs false
def LetS (w0 : World) (m : Rxm) (l : List ByteArray) : Prop := ∀ (H : List (Nat × Obj)), RxM w0 H m → FSpec Tryz.prog w0 47 #[.agg (encRx m).toArray] H (fun v H' => ∃ d, (v = slV d l.length ∧ SlOk d l.length 1) ∧ H' = slH d (l.flatMap encS) 9 ++ H)
theorem loc_nil {H : List (Nat × Obj)} {c : List Value} {e : TypeId} : LocL H (slH .nil c e) H (fun M' => M' ++ H) := show LocL ([] ++ H) [] H _ from .h
theorem cptB_len (l : List ByteArray) : (cptB l).length ≤ l.length := by
 have := compactU_len (l.map toL); simpa [cptB] using this
theorem FSpec.toL {P : Program} {w0 : World} {f : FuncId} {args : Array Value} {M : List (Nat × Obj)} {v0 : Value} {M' : List (Nat × Obj)} {R : List (Nat × Obj)} (h : FSpec P w0 f args (M ++ R) (fun v H' => v = v0 ∧ H' = M' ++ R)) : FSpec P w0 f args (M ++ R) (fun v H' => ∃ x : Unit, v = v0 ∧ H' = M' ++ R) := h.mono fun v H' e => ⟨(), e⟩
theorem FSpec.toD {P : Program} {w0 : World} {f : FuncId} {args : Array Value} {M : List (Nat × Obj)} {n : Nat} {M' : Sl → List (Nat × Obj)} {R : List (Nat × Obj)} (h : FSpec P w0 f args (M ++ R) (fun v H' => ∃ d, v = slV d n ∧ SlOk d n 1 ∧ H' = M' d ++ R)) : FSpec P w0 f args (M ++ R) (fun v H' => ∃ d, (v = slV d n ∧ SlOk d n 1) ∧ H' = M' d ++ R) := h.mono fun v H' ⟨d, h1, h2, h3⟩ => ⟨d, ⟨h1, h2⟩, h3⟩
theorem flatMap_take {α β : Type} [Inhabited α] (f : α → List β) (xs : List α) (i : Nat) (h : i < xs.length) : (xs.take (i + 1)).flatMap f = (xs.take i).flatMap f ++ f (gd xs i) := by
 rw [List.take_add_one, C7 h, List.flatMap_append]; simp
theorem flatMap_take_le {α β : Type} [Inhabited α] (f : α → List β) (xs : List α) (i : Nat) (h : i < xs.length) : ((xs.take i).flatMap f).length + (f (gd xs i)).length ≤ (xs.flatMap f).length := by
 have e : xs.flatMap f = (xs.take (i + 1)).flatMap f ++ (xs.drop (i + 1)).flatMap f := by rw [← List.flatMap_append, List.take_append_drop]
 rw [e, flatMap_take f xs i h, List.length_append, List.length_append]; omega
theorem compS_s {w0 : World} {H : List (Nat × Obj)} (d : Sl) (l : List ByteArray) (hok : SlOk d l.length 1) (hsz : l.length ≤ 100000) :
  FSpec Tryz.prog w0 61 #[slV d l.length] (slH d ((srtB l).flatMap encS) 9 ++ H) (fun v H' => ∃ d', (v = slV d' (cptB (srtB l)).length ∧ SlOk d' (cptB (srtB l)).length 1) ∧ H' = slH d' ((cptB (srtB l)).flatMap encS) 9 ++ H) := by
 have h := (compactB_s (w0 := w0) (H := H) d (srtB l) (by rw [srtB_len]; exact hok) (by rw [srtB_len]; omega)).toD
 rw [srtB_len] at h; exact h
theorem let_gen {w0 : World} {k : Int} {s : ByteArray} {q : Option Addr} {c : Nat} {xs : List Rxm} (hk : k ≠ 2) (f : Rxm → List ByteArray) (hf : ∀ a ∈ xs, LetS w0 a (f a)) (hb : (xs.flatMap f).length ≤ 64) : LetS w0 (.mk k s q c xs) (cptB (srtB (xs.flatMap f))) := by
 intro H hM
 show FSpec Tryz.prog w0 47 #[.agg #[.int .i64 k, .string s, .slice q xs.length c]] H _
 obtain ⟨hA, hMM, _, hxl⟩ := hM
 refine A7 Tryz.func47 U ntmps47 U (Ah (Ab (e_ (Bf (T U) cs_) ?_ U)))
 rintro _ _ ⟨n1, rfl, rfl⟩
 refine y_ (Ad Ak) (Af (Ac (Ah (Ab (y_ (Ad Ak) (Af (Ac (Ah (Ah (Ab (y_ (Bp (T U) Dt) (y_ (Ai (T U) isAgg3 (by first | exact c_o)) ?_ U) U)))))) U))))) U
 refine y_ (B3 (T U) Ak) (Af (Ac ?_)) U
 first | refine Au (Aa U) (fun c8 => ?_) (fun c8 => ?_) | refine Bb (Aa U) (fun c8 => ?_) (fun c8 => ?_)
 ·exfalso; omega
 ·refine A9 (Ac (Ah (Ah (Ab (y_ (Bk (T U) Dj) (y_ (Ai (T U) isAgg22 (by first | exact c_o)) ?_ U) U)))))
  refine y_ (Bw (T U) runUnderlying22) (y_ (Ae Ak) (Af (Ac (A2 ?_))) U) U
  refine Cn (X := Nat × Sl) (V := fun ⟨i, d⟩ => [(17, .int .i64 (i : Nat)), (3, slV d ((xs.take i).flatMap f).length)]) (C := [(15, _), (16, _)]) (G := fun ⟨i, d⟩ => slH d (((xs.take i).flatMap f).flatMap encS) 9 ++ (n1, Cl [.int .i64 k, .string s, .slice q xs.length c] 24) :: H) (φ := fun ⟨i, d⟩ => i ≤ xs.length ∧ SlOk d ((xs.take i).flatMap f).length 1) (μ := fun ⟨i, d⟩ => xs.length - i) (x0 := (0, .nil)) ?_ ⟨Aa rfl, Aa rfl, trivial⟩ ⟨(by first | exact Aa rfl | (refine Aj (Aa rfl) (vint ?_); omega) | (refine Aj (Aa rfl) ?_; simp; done) | (refine Aj (Aa rfl) ?_; exact by rw [hfl])), (by first | exact Aa rfl | (refine Aj (Aa rfl) (vint ?_); omega) | (refine Aj (Aa rfl) ?_; simp; done) | (refine Aj (Aa rfl) ?_; exact by rw [hfl])), trivial⟩ sb0 ?_
  ·exact ⟨Nat.zero_le _, rfl⟩
  rintro ⟨i, d⟩ ⟨hi, hd⟩
  refine Ah (Ab (y_ (B4 (T U) (T U)) (Af (Ac (Ah ?_))) U))
  first | refine Au (Aa U) (fun c18 => ?_) (fun c18 => ?_) | refine Bb (Aa U) (fun c18 => ?_) (fun c18 => ?_)
  ·refine A9 (Ac (Ah (A2 (Ah (Ab (y_ (Bh (T U) (T U) runUnderlying22 sizeOf24 (by omega) (by first | exact rfl | exact hA.b (i := i) (by omega))) ?_ U))))))
   refine y_ (Am (T U) isAgg24 sizeOf24 U (by first | exact ((hA.mono sbt).cs (i := i) (by omega)) | exact Bc)) ?_ U
   refine e_ (Ap zeroValue24 cs_) ?_ U
   rintro _ _ ⟨n5, rfl, rfl⟩
   first | refine A0 (As (T U) (T U) sizeOf24) U Ag ?_
   rintro _ _ ⟨rfl, rfl⟩
   refine Af (Ac (Ab (y_ (Ae (T U)) (y_ (Am (T U) isAgg24 sizeOf24 U (by first | exact Bc)) ?_ U) U)))
   refine e_ (Av (.cons (T U) .nil) call47 (hf _ (A1 (by omega)) _ ((hMM _ (A1 (by omega))).mono sbt))) ?_ U
   rintro _ _ ⟨e, ⟨rfl, hoe⟩, rfl⟩
   refine e_ (eff_appN_at (f (gd xs i)) (by' := 16) (by repeat (first | exact LocL.h | apply LocL.t | apply LocL.a)) (T U) (T U) runUnderlying25 runUnderlying25 sizeOf9 typeInfo9 U zeroValue9 U (fun _ => rfl) (fun _ => rfl) hd (by decide) (by have := flatMap_take_le f xs i (by omega); omega) ((Bz (enc := encS) (sz := 1) (fun _ => rfl) hoe))) ?_ U
   rintro _ _ ⟨d', rfl, hok', rfl⟩
   refine y_ (Ad (T U)) (Af (Bm (Ac (Ab (y_ (Bv (T U) Ak (by omega)) ?_ U))))) U
   refine y_ (Ae (T U)) (Af ?_) U
   have hft := flatMap_take f xs i (by omega)
   have hfl : ((xs.take (i + 1)).flatMap f).length = ((xs.take i).flatMap f).length + (f (gd xs i)).length := by rw [hft, List.length_append]
   refine Bs ((i + 1, d')) ?_ ?_ ⟨(by first | exact Aa U | (refine Aj (Aa U) (vint ?_); omega) | (refine Aj (Aa U) ?_; simp; done) | (refine Aj (Aa U) ?_; exact by rw [hfl])), (by first | exact Aa U | (refine Aj (Aa U) (vint ?_); omega) | (refine Aj (Aa U) ?_; simp; done) | (refine Aj (Aa U) ?_; exact by rw [hfl])), trivial⟩ ⟨Aa U, Aa U, trivial⟩ ?_
   ·refine ⟨by omega, ?_⟩
    rw [flatMap_take f xs i (by omega), List.length_append]; exact hok'
   ·first | omega | (simp only []; omega)
   ·simp only [hft]; exact sbt
  ·have hi2 : i = xs.length := by omega
   subst hi2
   have hd2 := hd
   rw [List.take_length] at hd2
   simp only [List.take_length]
   refine B7 (A4 (A8 (Ba (Ac (Ah (Ab (y_ (Ae (T U)) (e_ (Av (.cons (T U) .nil) call102 (Bn (slH d ((xs.flatMap f).flatMap encS) 9) (by repeat (first | exact LocL.h | apply LocL.t | apply LocL.a)) ((sortB_s d _ hd2 (by omega)).toL))) ?_ U) U)))))))
   rintro _ _ ⟨_, rfl, rfl⟩
   refine Af (Ac (Ah (Ab (y_ (Ae (T U)) (e_ (Av (.cons (T U) .nil) call61 (Bn (slH d ((srtB (xs.flatMap f)).flatMap encS) 9) (by repeat (first | exact LocL.h | apply LocL.t | apply LocL.a)) (compS_s d (xs.flatMap f) hd2 (by omega)))) ?_ U) U))))
   rintro _ _ ⟨e, ⟨rfl, hoe⟩, rfl⟩
   refine y_ (Ad (T U)) (Af (Ac (A5 (A6 U (.tmp (Aa U) .nil) ?_)))) U
   refine ⟨_, ⟨e, ⟨rfl, hoe⟩, rfl⟩, sbt⟩
theorem let_nod {w0 : World} {s : ByteArray} {q : Option Addr} {c : Nat} : LetS w0 (.mk 2 s q c []) (cptB (srtB [s])) := by
 intro H hM
 show FSpec Tryz.prog w0 47 #[.agg #[.int .i64 2, .string s, .slice q 0 c]] H _
 refine A7 Tryz.func47 U ntmps47 U (Ah (Ab (e_ (Bf (T U) cs_) ?_ U)))
 rintro _ _ ⟨n1, rfl, rfl⟩
 refine y_ (Ad Ak) (Af (Ac (Ah (Ab (y_ (Ad Ak) (Af (Ac (Ah (Ah (Ab (y_ (Bp (T U) Dt) (y_ (Ai (T U) isAgg3 (by first | exact c_o)) ?_ U) U)))))) U))))) U
 refine y_ (B3 (T U) Ak) (Af (Ac ?_)) U
 first | refine Bu (Aa U) ?_ | refine Bu (Aj (Aa U) (vbool (decide_eq_true c8))) ?_
 refine Ab (y_ (Ae (T U)) (y_ (Bk (T U) fa24_1) (y_ (Ai (T U) isAgg9 (by first | exact c_o)) ?_ U) U) U)
 refine e_ (An (.cons (T U) .nil) (bs25_1_0 _)) ?_ U
 rintro _ _ ⟨n12, rfl, rfl⟩
 refine e_ (Bi (enc := encS) (d := .nil) (l := []) (s) (by' := 16) loc_nil (T U) (T U) runUnderlying25 runUnderlying25 sizeOf9 typeInfo9 U zeroValue9 U (fun _ => rfl) U U (by decide) (by decide)) ?_ U
 rintro _ _ ⟨d', rfl, hok', rfl⟩
 refine y_ (Ad (T U)) (Af (Ac (Ah (Ah (Ab (y_ (Bk (T U) Dj) (y_ (Ai (T U) isAgg22 (by first | exact c_o)) ?_ U) U)))))) U
 refine y_ (Bw (T U) runUnderlying22) (y_ (Ae Ak) (Af (Ac (A2 ?_))) U) U
 refine Cn (X := Sl) (V := fun d => [(17, .int .i64 0), (3, slV d 1)]) (C := [(15, _), (16, _)]) (G := fun d => slH d ([s].flatMap encS) 9 ++ (n1, Cl [.int .i64 2, .string s, .slice q 0 c] 24) :: H) (φ := fun d => SlOk d 1 1) (μ := fun d => 0) (x0 := d') ?_ ⟨Aa U, Aa U, trivial⟩ ⟨atd, atd, trivial⟩ sbt ?_
 ·exact hok'
 rintro d hd
 refine Ah (Ab (y_ (B4 (T U) (T U)) (Af (Ac (Ah ?_))) U))
 first | refine Au (Aa U) (fun c18 => ?_) (fun c18 => ?_) | refine Bb (Aa U) (fun c18 => ?_) (fun c18 => ?_)
 ·exfalso; omega
 ·refine B7 (A4 (A8 (Ba (Ac (Ah (Ab (y_ (Ae (T U)) (e_ (Av (.cons (T U) .nil) call102 (Bn (slH d ([s].flatMap encS) 9) (by repeat (first | exact LocL.h | apply LocL.t | apply LocL.a)) ((sortB_s d [s] hd (by simp)).toL))) ?_ U) U)))))))
  rintro _ _ ⟨_, rfl, rfl⟩
  refine Af (Ac (Ah (Ab (y_ (Ae (T U)) (e_ (Av (.cons (T U) .nil) call61 (Bn (slH d ((srtB [s]).flatMap encS) 9) (by repeat (first | exact LocL.h | apply LocL.t | apply LocL.a)) (compS_s d [s] hd (by simp)))) ?_ U) U))))
  rintro _ _ ⟨e, ⟨rfl, hoe⟩, rfl⟩
  refine y_ (Ad (T U)) (Af (Ac (A5 (A6 U (.tmp (Aa U) .nil) ?_)))) U
  refine ⟨_, ⟨e, ⟨rfl, hoe⟩, rfl⟩, sbt⟩
def letF : Re → List ByteArray
 | .emp => cptB (srtB [])
 | .nod s => cptB (srtB [s])
 | .any => cptB (srtB [])
 | .seq a b => cptB (srtB (letF a ++ letF b))
 | .alt a b => cptB (srtB (letF a ++ letF b))
 | .star a => cptB (srtB (letF a))
theorem letF_len : ∀ e : Re, (letF e).length ≤ e.lv
 | .emp => by have := cptB_len (srtB []); rw [srtB_len] at this; exact this
 | .nod s => by have := cptB_len (srtB [s]); rw [srtB_len] at this; simpa [letF, Re.lv] using this
 | .any => by have := cptB_len (srtB []); rw [srtB_len] at this; exact Nat.le_succ_of_le this
 | .seq a b => by have := cptB_len (srtB (letF a ++ letF b)); rw [srtB_len, List.length_append] at this; have h1 := letF_len a; have h2 := letF_len b; simp only [letF, Re.lv]; omega
 | .alt a b => by have := cptB_len (srtB (letF a ++ letF b)); rw [srtB_len, List.length_append] at this; have h1 := letF_len a; have h2 := letF_len b; simp only [letF, Re.lv]; omega
 | .star a => by have := cptB_len (srtB (letF a)); rw [srtB_len] at this; have h1 := letF_len a; simp only [letF, Re.lv]; omega
theorem Is.det {m : Rxm} {e e' : Re} (h : Is m e) (h' : Is m e') : e = e' := by
 induction h generalizing e' with
 | emp => cases h'; rfl
 | nod _ => cases h'; rfl
 | any => cases h'; rfl
 | seq _ _ i1 i2 => cases h' with | seq a b => rw [i1 a, i2 b]
 | alt _ _ i1 i2 => cases h' with | alt a b => rw [i1 a, i2 b]
 | star _ i1 => cases h' with | star a => rw [i1 a]
open Classical in
noncomputable def reOf (m : Rxm) : Re := if h : ∃ e, Is m e then Classical.choose h else .emp
theorem Da {m : Rxm} {e : Re} (h : Is m e) : reOf m = e := by
 unfold reOf
 rw [dif_pos ⟨e, h⟩]
 exact Is.det (Classical.choose_spec _) h
theorem letters_s {w0 : World} {m : Rxm} {e : Re} (h : Is m e) (hl : e.lv ≤ 64) : LetS w0 m (letF e) := by
 induction h with
 | emp => exact let_gen (by decide) (fun _ => []) (fun a ha => by cases ha) (by simp)
 | nod _ => exact let_nod
 | any => exact let_gen (by decide) (fun _ => []) (fun a ha => by cases ha) (by simp)
 | @seq q c a b x y ha hb i1 i2 =>
  simp only [Re.lv] at hl
  have h1 := letF_len x; have h2 := letF_len y
  have := let_gen (w0 := w0) (k := 4) (s := ⟨#[]⟩) (q := q) (c := c) (xs := [a, b]) (by decide) (fun m => letF (reOf m)) (fun z hz => by
   simp only [List.mem_cons, List.not_mem_nil, or_false] at hz
   rcases hz with rfl | rfl
   ·rw [Da ha]; exact i1 (by omega)
   ·rw [Da hb]; exact i2 (by omega)) (by simp [Da ha, Da hb]; omega)
  simpa [letF, Da ha, Da hb] using this
 | @alt q c a b x y ha hb i1 i2 =>
  simp only [Re.lv] at hl
  have h1 := letF_len x; have h2 := letF_len y
  have := let_gen (w0 := w0) (k := 5) (s := ⟨#[]⟩) (q := q) (c := c) (xs := [a, b]) (by decide) (fun m => letF (reOf m)) (fun z hz => by
   simp only [List.mem_cons, List.not_mem_nil, or_false] at hz
   rcases hz with rfl | rfl
   ·rw [Da ha]; exact i1 (by omega)
   ·rw [Da hb]; exact i2 (by omega)) (by simp [Da ha, Da hb]; omega)
  simpa [letF, Da ha, Da hb] using this
 | @star q c a x ha i1 =>
  simp only [Re.lv] at hl
  have h1 := letF_len x
  have := let_gen (w0 := w0) (k := 6) (s := ⟨#[]⟩) (q := q) (c := c) (xs := [a]) (by decide) (fun m => letF (reOf m)) (fun z hz => by
   simp only [List.mem_cons, List.not_mem_nil, or_false] at hz
   rcases hz with rfl
   rw [Da ha]; exact i1 (by omega)) (by simp [Da ha]; omega)
  simpa [letF, Da ha] using this
end Go.Proofs.YtkdolgnpkjihpaaGreatDoor
namespace Go.Proofs.YtkdolgnpkjihpaaGreatDoor
open _root_.Go.Proofs.Tryz
open Go.RowKit
set_option linter.unusedVariables false
set_option linter.unusedSimpArgs false
def orK (fol : List Nat) (at' : Nat) : Nat → Nat
 | 0 => 0
 | i + 1 => if at'.testBit i then orK fol at' i ||| gd fol i else orK fol at' i
theorem orK_succ (fol : List Nat) (at' i : Nat) : orK fol at' (i + 1) = if at'.testBit i then orK fol at' i ||| gd fol i else orK fol at' i := rfl
theorem bit_lt {w n m : Nat} (h : w < 2 ^ m) (hb : w.testBit n = true) : n < m := Classical.byContradiction fun hge => by
 rw [Nat.testBit_lt_two_pow (Nat.lt_of_lt_of_le h (Nat.pow_le_pow_right (by omega) (by omega)))] at hb; cases hb
theorem orK_lt {t : Tr} (ht : TrOk t) (hw : Low t) {a : Nat} (ha : a < 2 ^ t.names.length) : ∀ i, orK t.fol a i < 2 ^ t.names.length
 | 0 => Nat.two_pow_pos _
 | i + 1 => by
  rw [orK_succ]; split
  ·rename_i h
   exact Nat.or_lt_two_pow (orK_lt ht hw ha i) (hw _ (A1 (by rw [ht.len]; exact bit_lt ha h)))
  ·exact orK_lt ht hw ha i
def takL (t : Tr) (names : List ByteArray) (a n : Nat) : Bool := ((gd t.names n).toList == (⟨#[]⟩ : ByteArray).toList) || (decide ((a : Int) < names.length) && ((gd t.names n).toList == (gd names a).toList))
def stepL (t : Tr) (names : List ByteArray) (can a : Nat) : Nat → Nat
 | 0 => 0
 | i + 1 => if can.testBit i && takL t names a i then stepL t names can a i ||| 2 ^ i else stepL t names can a i
theorem stepL_succ (t : Tr) (names : List ByteArray) (can a i : Nat) : stepL t names can a (i + 1) = if can.testBit i && takL t names a i then stepL t names can a i ||| 2 ^ i else stepL t names can a i := rfl
theorem stepL_lt {m : Nat} {t : Tr} {names : List ByteArray} {can a : Nat} (hc : can < 2 ^ m) : ∀ i, stepL t names can a i < 2 ^ m
 | 0 => Nat.two_pow_pos _
 | i + 1 => by
  rw [stepL_succ]; split
  ·rename_i h
   simp only [Bool.and_eq_true] at h
   exact Nat.or_lt_two_pow (stepL_lt hc i) (Nat.pow_lt_pow_right (by omega) (bit_lt hc h.1))
  ·exact stepL_lt hc i
abbrev St := Nat × Bool
abbrev encSt (s : St) : List Value := [.int .u64 (s.1 : Int), .int .u64 0, .int .u64 0, .int .u64 0, .bool s.2]
abbrev encStK (s : St) : Value := .agg (encSt s).toArray
abbrev encIv (k : Nat) : Value := .int .i64 (k : Int)
abbrev encBv (b : Bool) : Value := .bool b
abbrev encPlK (p : Int × Int) : Value := .agg #[.int .i64 p.1, .int .i64 p.2]
theorem eqPl (a b : Int × Int) (w : World) : (Op.equal 74 (encPlK a) (encPlK b)).run Tryz.prog w = .ok (decide (b = a)) w := by
 unfold Op.equal Op.maxDepth
 rw [run_equalIn_struct w 9999 74 _ _ (by kernel_rfl) (by kernel_rfl)]
 simp [go_sem, Program.fieldsOf, underlying74, Op.eqFields]
 obtain ⟨a1, a2⟩ := a
 obtain ⟨b1, b2⟩ := b
 by_cases h : b1 = a1 <;> by_cases h2 : b2 = a2 <;> simp [h, h2] <;> (intros; omega)
theorem part3 (xs : Array Value) (i : Nat) (v : Value) (h : xs[i]? = some v) (w : World) : (part 3 xs i).run Tryz.prog w = .ok v w := by
 simp [part, isAgg3, Sem.run_bind, Result.andThen, h]
theorem part84 (xs : Array Value) (i : Nat) (v : Value) (h : xs[i]? = some v) (w : World) : (part 84 xs i).run Tryz.prog w = .ok v w := by
 simp [part, isAgg84, Sem.run_bind, Result.andThen, h]
theorem eqItems_ints (d t : Nat) (k k' : IntKind) (hu : Tryz.prog.underlying t = some (.int k')) (hp : ∀ (xs : Array Value) (i : Nat) (v : Value), xs[i]? = some v → ∀ w, (part t xs i).run Tryz.prog w = .ok v w) (xs ys : List Int) (w : World) : ∀ (is : List Nat), (∀ i ∈ is, i < xs.length ∧ i < ys.length) →
  (Op.eqItems (d + 1) t 1 (xs.map (Value.int k)).toArray (ys.map (Value.int k)).toArray is).run Tryz.prog w = .ok (is.all fun i => gd xs i == gd ys i) w
 | [], _ => by simp [Op.eqItems]
 | i :: is, h => by
  obtain ⟨h1, h2⟩ := h i (by simp)
  have e1 := hp (xs.map (Value.int k)).toArray (i * 1) (.int k (gd xs i)) (by simp [C7 h1]) w
  have e2 := hp (ys.map (Value.int k)).toArray (i * 1) (.int k (gd ys i)) (by simp [C7 h2]) w
  simp only [Op.eqItems, Sem.run_bind, e1, e2, Result.andThen_ok, run_equalIn_int w d t k k' _ _ hu]
  have ih := eqItems_ints d t k k' hu hp xs ys w is (fun j hj => h j (by simp [hj]))
  cases hb : (gd xs i == gd ys i)
  ·simp [hb]
  ·simp [hb, ih]
theorem eqA2 (a b : Int × Int) (w : World) : (Op.equal 115 (encPlK a) (encPlK b)).run Tryz.prog w = .ok (decide (b = a)) w := by
 unfold Op.equal Op.maxDepth
 rw [run_equalIn_array (i := Tryz.prog.types.getD 3 default) w 9999 _ _ (show Tryz.prog.underlying 115 = some (.array 2 3) from by kernel_rfl) (by kernel_rfl)]
 have h := eqItems_ints 9998 3 .i64 .i64 (by kernel_rfl) part3 [a.1, a.2] [b.1, b.2] w [0, 1] (by simp)
 rw [show Tryz.prog.cellsOf 3 = 1 from by kernel_rfl, show List.range 2 = [0, 1] from rfl]
 show (Op.eqItems (9998 + 1) 3 1 ([a.1, a.2].map (Value.int .i64)).toArray ([b.1, b.2].map (Value.int .i64)).toArray [0, 1]).run Tryz.prog w = _
 rw [h]
 refine congrArg (fun r => Result.ok r w) ?_
 simp [gd]
 obtain ⟨a1, a2⟩ := a
 obtain ⟨b1, b2⟩ := b
 by_cases h : b1 = a1 <;> by_cases h2 : b2 = a2 <;> simp [h, h2] <;> (intros; omega)
theorem eqSet (a b : Nat) (d : Nat) (w : World) : (Op.equalIn (d + 2) 86 (.agg (encSet a).toArray) (.agg (encSet b).toArray)).run Tryz.prog w = .ok (decide (b = a)) w := by
 rw [run_equalIn_array (i := Tryz.prog.types.getD 84 default) w (d + 1) _ _ (show Tryz.prog.underlying 86 = some (.array 4 84) from by kernel_rfl) (by kernel_rfl)]
 have h := eqItems_ints d 84 .u64 .u64 (by kernel_rfl) part84 [(a : Int), 0, 0, 0] [(b : Int), 0, 0, 0] w [0, 1, 2, 3] (by simp)
 rw [show Tryz.prog.cellsOf 84 = 1 from by kernel_rfl, show List.range 4 = [0, 1, 2, 3] from rfl]
 show (Op.eqItems (d + 1) 84 1 ([(a : Int), 0, 0, 0].map (Value.int .u64)).toArray ([(b : Int), 0, 0, 0].map (Value.int .u64)).toArray [0, 1, 2, 3]).run Tryz.prog w = _
 rw [h]
 refine congrArg (fun r => Result.ok r w) ?_
 simp [gd]
 by_cases h : b = a
 ·simp [h]
 ·simp [h]; omega
theorem eqSt (a b : St) (w : World) : (Op.equal 92 (encStK a) (encStK b)).run Tryz.prog w = .ok (decide (b = a)) w := by
 unfold Op.equal Op.maxDepth
 rw [run_equalIn_struct w 9999 92 _ _ (by kernel_rfl) (by kernel_rfl)]
 have e1 : ∀ (s : St) w, (part 86 (encSt s).toArray 0).run Tryz.prog w = .ok (.agg (encSet s.1).toArray) w := fun s w => by
  simp [part, isAgg86, sizeOf86, Sem.run_bind, Result.andThen]
 have e2 : ∀ (s : St) w, (part 4 (encSt s).toArray 4).run Tryz.prog w = .ok (.bool s.2) w := fun s w => by
  simp [part, isAgg4, Sem.run_bind, Result.andThen]
 have e3 : (Tryz.prog.fieldsOf 92).toList.map (fun f => (f.type, f.offset, f.name == "_")) = [(86, 0, false), (4, 4, false)] := by kernel_rfl
 obtain ⟨f, g, hfg⟩ : ∃ f g, (Tryz.prog.fieldsOf 92).toList = [f, g] := by
  generalize (Tryz.prog.fieldsOf 92).toList = l at e3
  have hl : l.length = 2 := by simpa using congrArg List.length e3
  match l, hl with
  | [f, g], _ => exact ⟨f, g, rfl⟩
 rw [hfg] at e3 ⊢
 simp only [List.map_cons, List.map_nil, List.cons.injEq, Prod.mk.injEq, and_true] at e3
 obtain ⟨⟨f1, f2, f3⟩, g1, g2, g3⟩ := e3
 have f4 : f.name ≠ "_" := by simpa using f3
 have g4 : g.name ≠ "_" := by simpa using g3
 simp only [Op.eqFields, ne_eq, f4, g4, not_false_eq_true, if_true, f1, f2, g1, g2, Sem.run_bind, e1, e2, Result.andThen_ok, eqSet a.1 b.1 9997, run_equalIn_bool w 9998 4 _ _ (show Tryz.prog.underlying 4 = some .bool by kernel_rfl), Sem.run_ite, Sem.run_pure]
 obtain ⟨a1, a2⟩ := a
 obtain ⟨b1, b2⟩ := b
 by_cases h : b1 = a1 <;> cases a2 <;> cases b2 <;> simp [h]
theorem keySt {V : Type} : KeyOk (V := V) Tryz.prog 92 encStK := keyOk_ask runUnderlying92 (fun b k w => by cases b <;> kernel_rfl) (fun k k' => by simp [Instr.sameNow]) eqSt (fun k => by simp [Instr.sameBits])
end Go.Proofs.YtkdolgnpkjihpaaGreatDoor
namespace Go.Proofs.YtkdolgnpkjihpaaGreatDoor
open _root_.Go.Proofs.Tryz
open Go.RowKit
set_option linter.unusedVariables false
set_option linter.unusedSimpArgs false
theorem fa29_0 (b o : Nat) (w : World) : (Instr.fieldAt 29 (.pointer (some ⟨b, o, none⟩)) 0).run Tryz.prog w = .ok (.pointer (some ⟨b, o, none⟩)) w := by kernel_rfl
theorem fa92_0 (b o : Nat) (w : World) : (Instr.fieldAt 92 (.pointer (some ⟨b, o, none⟩)) 0).run Tryz.prog w = .ok (.pointer (some ⟨b, o, none⟩)) w := by kernel_rfl
theorem b1_s {w0 : World} {H : List (Nat × Obj)} (nt n4 n10 : Nat) (d1 d2 : Sl) (t : Tr) (c n : Nat) (hc : c < 2 ^ 64) (ht : TrOk t) (hn : n < t.names.length) (hR : TrR w0 H nt d1 d2 t) (h4 : Fnd H n4 (Cl [.pointer (some ⟨nt, 0, none⟩)] 80)) :
  FSpec Tryz.prog w0 49 #[.int .i64 (n : Int), .pointer (some ⟨n10, 0, none⟩), .pointer (some ⟨n4, 0, none⟩)] ((n10, Cl (encSet c) 86) :: H) (fun _ H' => H' = (n10, Cl (encSet (c ||| gd t.fol n)) 86) :: H) := by
 refine A7 Tryz.func49 U ntmps49 U ?_
 have hlen := ht.len
 have hg := ht.low _ (A1 (show n < t.fol.length by omega))
 refine Cv 9 [(0, true), (1, true), (2, true), (3, true), (4, true), (5, true), (6, true), (7, true), (8, true)] _ mixd (by kernel_rfl) sb0 ?_
 refine o_y U (Am (T U) isAgg86 sizeOf86 U (by first | exact Bc | exact c_o (hf := Al h4) | exact (hR.mono sbt).c2 | exact (hR.mono sbt).a2.cs (i := n) (by omega))) ?_ U Ag
 refine o_y U (Ai (T U) isAgg80 (by first | exact c_o | exact c_o (hf := Al h4) | exact (hR.mono sbt).c2 | exact (hR.mono sbt).a2.cs (i := n) (by omega))) ?_ U Ag
 refine o_y U (B1 (T U)) (o_y U (Bk (T U) Dp) (o_y U (Ai (T U) isAgg81 (by first | exact c_o | exact c_o (hf := Al h4) | exact (hR.mono sbt).c2 | exact (hR.mono sbt).a2.cs (i := n) (by omega))) ?_ U Ag) U Ag) U Ag
 refine o_y U (Ae (T U)) (o_y U (Cw (T U) (T U) runUnderlying81 sizeOf86 (by omega) (by first | exact rfl | exact hR.a2.b (i := n) (by omega))) ?_ U Ag) U Ag
 refine o_y U (Am (T U) isAgg86 sizeOf86 U (by first | exact Bc | exact c_o (hf := Al h4) | exact (hR.mono sbt).c2 | exact (hR.mono sbt).a2.cs (i := n) (by omega))) ?_ U Ag
 refine o_y U (Aq (.cons (T U) (.cons (T U) .nil)) call50 (fun H' hs => or_s c hc _ hg)) (B5 U ?_) U Ag
 first | refine A0 (As (T U) (T U) sizeOf86) U Ag ?_
 rintro _ _ ⟨rfl, rfl⟩
 refine Af (C8 U .nil ?_)
 exact ⟨_, rfl, sbt⟩
theorem b1E_s {w0 : World} {H : List (Nat × Obj)} (nt n4 n10 : Nat) (d1 d2 : Sl) (t : Tr) (a : Nat) (ht : TrOk t) (hw : Low t) (ha : a < 2 ^ t.names.length) (hR : TrR w0 H nt d1 d2 t) (h4 : Fnd H n4 (Cl [.pointer (some ⟨nt, 0, none⟩)] 80)) :
  FSpec Tryz.prog w0 48 #[.agg (encSet a).toArray, .func (.func 49) #[] #[.pointer (some ⟨n10, 0, none⟩), .pointer (some ⟨n4, 0, none⟩)]] ([(n10, Cl (encSet 0) 86)] ++ H) (fun v H' => ∃ x : Unit, True ∧ H' = [(n10, Cl (encSet (orK t.fol a 256)) 86)] ++ H) := by
 have hp : 2 ^ t.names.length ≤ 2 ^ 64 := Nat.pow_le_pow_right (by omega) ht.few
 have h := each_s (w0 := w0) (H := H) a (Nat.lt_of_lt_of_le ha hp) 49 [.pointer (some ⟨n10, 0, none⟩), .pointer (some ⟨n4, 0, none⟩)] call49 (fun i => [(n10, Cl (encSet (orK t.fol a i)) 86)]) (fun n hn hb H1 hs => by
  have hl := orK_lt ht hw ha n
  refine (b1_s (H := H1) nt n4 n10 d1 d2 t _ n (by omega) ht (bit_lt ha hb) (hR.mono hs) (h4.mono hs)).mono ?_
  rintro v H' rfl
  show _ = [(n10, Cl (encSet (orK t.fol a (n + 1))) 86)] ++ H1
  rw [orK_succ, hb]; rfl) (fun n hb => by
   show [(n10, Cl (encSet (orK t.fol a (n + 1))) 86)] = _
   rw [orK_succ, hb]; rfl)
 exact h.mono fun v H' e => ⟨(), trivial, e⟩
theorem b2_s {w0 : World} {H : List (Nat × Obj)} (nt n4 n6 n12 n13 : Nat) (d1 d2 dn : Sl) (v2 v3 : Value) (t : Tr) (names : List ByteArray) (c a n : Nat) (hc : c < 2 ^ 64) (ht : TrOk t) (hn : n < t.names.length) (hR : TrR w0 H nt d1 d2 t) (h4 : Fnd H n4 (Cl [.pointer (some ⟨nt, 0, none⟩)] 80)) (h6 : Fnd H n6 (Cl [slV dn names.length, v2, v3] 29)) (h12 : Fnd H n12 (Cl [.int .i64 (a : Int)] 3)) (hA : Arr w0 H (slQ dn) 1 encS names) :
  FSpec Tryz.prog w0 51 #[.int .i64 (n : Int), .pointer (some ⟨n4, 0, none⟩), .pointer (some ⟨n12, 0, none⟩), .pointer (some ⟨n6, 0, none⟩), .pointer (some ⟨n13, 0, none⟩)] ((n13, Cl (encSt (c, true)) 92) :: H) (fun _ H' => H' = (n13, Cl (encSt (if takL t names a n then c ||| 2 ^ n else c, true)) 92) :: H) := by
 refine A7 Tryz.func51 U ntmps51 U ?_
 have hlen := ht.len
 have hfew := ht.few
 refine Ah (Cv 30 [(0, true), (1, true), (2, true), (3, true), (4, true), (5, true), (6, true), (7, true), (8, true), (9, true), (10, true), (11, true), (12, true), (13, true), (14, true), (15, true), (16, true), (17, true), (18, true), (19, true), (20, true), (21, true), (22, true), (23, true), (24, true), (25, true), (26, true), (27, true), (28, true), (29, true)] _ mixd (by kernel_rfl) sb0 ?_)
 refine o_y U (Ai (T U) isAgg80 (by first | exact c_o | exact c_o (hf := Al h4) | exact c_o (hf := Al h12) | exact c_o (hf := Al h6) | exact (hR.mono sbt).c1 | exact cell1 ((hR.mono sbt).a1.cs (i := n) (by omega)) | exact cell1 ((hA.mono sbt).cs (i := a) (by omega)))) ?_ U Ag
 refine o_y U (B1 (T U)) (o_y U (Bp (T U) Dl) (o_y U (Ai (T U) isAgg25 (by first | exact c_o | exact c_o (hf := Al h4) | exact c_o (hf := Al h12) | exact c_o (hf := Al h6) | exact (hR.mono sbt).c1 | exact cell1 ((hR.mono sbt).a1.cs (i := n) (by omega)) | exact cell1 ((hA.mono sbt).cs (i := a) (by omega)))) ?_ U Ag) U Ag) U Ag
 refine o_y U (Ae (T U)) (o_y U (Cw (T U) (T U) runUnderlying25 sizeOf9 (by omega) (by first | exact rfl | exact hR.a1.b (i := n) (by omega) | exact hA.b (i := a) (by omega))) ?_ U Ag) U Ag
 refine o_y U (Ai (T U) isAgg9 (by first | exact c_o | exact c_o (hf := Al h4) | exact c_o (hf := Al h12) | exact c_o (hf := Al h6) | exact (hR.mono sbt).c1 | exact cell1 ((hR.mono sbt).a1.cs (i := n) (by omega)) | exact cell1 ((hA.mono sbt).cs (i := a) (by omega)))) ?_ U Ag
 refine o_y U (yl_eqS (T U) Ak) (o_y U (Ae (T U)) ?_ U Ag) U Ag
 first | refine C9 (s := 14) (Aa U) (fun c14 => ?_) (fun c14 => ?_) | refine Dx (s := 14) (Aa U) (fun c14 => ?_) (fun c14 => ?_)
 ·refine o_n U (o_n U (o_n U (o_n U (o_n U (o_n U (o_n U (o_n U (o_n U (o_n U (o_n U (o_n U (o_n U (o_n U (o_n U (o_n U (o_n U (o_n U (o_n U (o_n U (o_y U (Az (T U) Ak) (B5 U (Af (Ac (Bt [(0, _), (4, _), (35, _)] ⟨Aa U, Aa U, Aa U, trivial⟩ ?_)))) U Ag) U (Bd U U (Aa U))) U (Cg U U (Aa U))) U (Cg U U (Aa U))) U (Cg U U (Aa U))) U (Cg U U (Aa U))) U (Cg U U (Aa U))) U (Cg U U (Aa U))) U (Cg U U (Aa U))) U (Cg U U (Aa U))) U (Cg U U (Aa U))) U (Cg U U (Aa U))) U (Cg U U (Aa U))) U (Cg U U (Aa U))) U (Cg U U (Aa U))) U (Bd U U (Aa U))) U (Bd U U (Aa U))) U (Bd U U (Aa U))) U (Bd U U (Aa U))) U (Bd U U (Aa U))) U (Bd U U (Aa U))
  first | refine Bu (Aa U) ?_ | refine Bu (Aj (Aa U) (vbool (decide_eq_true c35))) ?_
  refine Ab (y_ (Bp (T U) fa92_0) ?_ U)
  refine y_ (Am (T U) isAgg86 sizeOf86 U (by first | exact Ck (o := 0) (k := 4) fdd | exact Bc | exact c_o (hf := Al h4) | exact c_o (hf := Al h12) | exact c_o (hf := Al h6) | exact (hR.mono sbt).c1 | exact cell1 ((hR.mono sbt).a1.cs (i := n) (by omega)) | exact cell1 ((hA.mono sbt).cs (i := a) (by omega)))) ?_ U
  refine y_ (Ae (T U)) (y_ (Aq (.cons (T U) (.cons (T U) .nil)) call52 (fun H' hs => with_s c hc n (by omega))) ?_ U) U
  refine y_ (Bp (T U) fa92_0) (e_ (eff_sP (o := 0) (m := 4) (T U) (T U) sizeOf86) ?_ U) U
  rintro _ _ ⟨rfl, rfl⟩
  refine Af (C8 U .nil (⟨_, rfl, ?_⟩))
  have hm : takL t names a n = true := by unfold takL; simp only [c14, decide_true, Bool.true_or, Bool.false_or, Bool.true_and]
  rw [if_pos hm]; exact sbt
 ·refine o_y U (Ai (T U) isAgg3 (by first | exact c_o | exact c_o (hf := Al h4) | exact c_o (hf := Al h12) | exact c_o (hf := Al h6) | exact (hR.mono sbt).c1 | exact cell1 ((hR.mono sbt).a1.cs (i := n) (by omega)) | exact cell1 ((hA.mono sbt).cs (i := a) (by omega)))) ?_ U (Ax U U (Aa U))
  refine o_y U (Bp (T U) fa29_0) (o_y U (Ai (T U) isAgg25 (by first | exact c_o | exact c_o (hf := Al h4) | exact c_o (hf := Al h12) | exact c_o (hf := Al h6) | exact (hR.mono sbt).c1 | exact cell1 ((hR.mono sbt).a1.cs (i := n) (by omega)) | exact cell1 ((hA.mono sbt).cs (i := a) (by omega)))) ?_ U (Ax U U (Aa U))) U (Ax U U (Aa U))
  refine o_y U (Bw (T U) runUnderlying25) (o_y U (B4 (T U) (T U)) (o_y U (Ae (T U)) ?_ U (Ax U U (Aa U))) U (Ax U U (Aa U))) U (Ax U U (Aa U))
  first | refine C9 (s := 20) (Aa U) (fun c20 => ?_) (fun c20 => ?_) | refine Dx (s := 20) (Aa U) (fun c20 => ?_) (fun c20 => ?_)
  ·refine o_y U (Ai (T U) isAgg80 (by first | exact c_o | exact c_o (hf := Al h4) | exact c_o (hf := Al h12) | exact c_o (hf := Al h6) | exact (hR.mono sbt).c1 | exact cell1 ((hR.mono sbt).a1.cs (i := n) (by omega)) | exact cell1 ((hA.mono sbt).cs (i := a) (by omega)))) ?_ U (Ax U U (Aa U))
   refine o_y U (B1 (T U)) (o_y U (Bp (T U) Dl) (o_y U (Ai (T U) isAgg25 (by first | exact c_o | exact c_o (hf := Al h4) | exact c_o (hf := Al h12) | exact c_o (hf := Al h6) | exact (hR.mono sbt).c1 | exact cell1 ((hR.mono sbt).a1.cs (i := n) (by omega)) | exact cell1 ((hA.mono sbt).cs (i := a) (by omega)))) ?_ U (Ax U U (Aa U))) U (Ax U U (Aa U))) U (Ax U U (Aa U))
   refine o_y U (Ae (T U)) (o_y U (Cw (T U) (T U) runUnderlying25 sizeOf9 (by omega) (by first | exact rfl | exact hR.a1.b (i := n) (by omega) | exact hA.b (i := a) (by omega))) ?_ U (Ax U U (Aa U))) U (Ax U U (Aa U))
   refine o_y U (Ai (T U) isAgg9 (by first | exact c_o | exact c_o (hf := Al h4) | exact c_o (hf := Al h12) | exact c_o (hf := Al h6) | exact (hR.mono sbt).c1 | exact cell1 ((hR.mono sbt).a1.cs (i := n) (by omega)) | exact cell1 ((hA.mono sbt).cs (i := a) (by omega)))) ?_ U (Ax U U (Aa U))
   refine o_y U (Bp (T U) fa29_0) (o_y U (Ai (T U) isAgg25 (by first | exact c_o | exact c_o (hf := Al h4) | exact c_o (hf := Al h12) | exact c_o (hf := Al h6) | exact (hR.mono sbt).c1 | exact cell1 ((hR.mono sbt).a1.cs (i := n) (by omega)) | exact cell1 ((hA.mono sbt).cs (i := a) (by omega)))) ?_ U (Ax U U (Aa U))) U (Ax U U (Aa U))
   refine o_y U (Ai (T U) isAgg3 (by first | exact c_o | exact c_o (hf := Al h4) | exact c_o (hf := Al h12) | exact c_o (hf := Al h6) | exact (hR.mono sbt).c1 | exact cell1 ((hR.mono sbt).a1.cs (i := n) (by omega)) | exact cell1 ((hA.mono sbt).cs (i := a) (by omega)))) ?_ U (Ax U U (Aa U))
   refine o_y U (Bh (T U) (T U) runUnderlying25 sizeOf9 (by omega) (by first | exact rfl | exact hR.a1.b (i := n) (by omega) | exact hA.b (i := a) (by omega))) ?_ U (Ax U U (Aa U))
   refine o_y U (Ai (T U) isAgg9 (by first | exact c_o | exact c_o (hf := Al h4) | exact c_o (hf := Al h12) | exact c_o (hf := Al h6) | exact (hR.mono sbt).c1 | exact cell1 ((hR.mono sbt).a1.cs (i := n) (by omega)) | exact cell1 ((hA.mono sbt).cs (i := a) (by omega)))) ?_ U (Ax U U (Aa U))
   refine o_y U (yl_eqS (T U) (T U)) (o_y U (Az (T U) (T U)) (o_y U (Be (T U) (T U)) (B5 U (Af (Ac (Bt [(0, _), (4, _), (35, _)] ⟨Aa U, Aa U, Aa U, trivial⟩ ?_)))) U Ag) U (Ax U U (Aa U))) U (Ax U U (Aa U))
   first | refine Au (Aa U) (fun c35 => ?_) (fun c35 => ?_) | refine Bb (Aa U) (fun c35 => ?_) (fun c35 => ?_)
   ·refine Ab (y_ (Bp (T U) fa92_0) ?_ U)
    refine y_ (Am (T U) isAgg86 sizeOf86 U (by first | exact Ck (o := 0) (k := 4) fdd | exact Bc | exact c_o (hf := Al h4) | exact c_o (hf := Al h12) | exact c_o (hf := Al h6) | exact (hR.mono sbt).c1 | exact cell1 ((hR.mono sbt).a1.cs (i := n) (by omega)) | exact cell1 ((hA.mono sbt).cs (i := a) (by omega)))) ?_ U
    refine y_ (Ae (T U)) (y_ (Aq (.cons (T U) (.cons (T U) .nil)) call52 (fun H' hs => with_s c hc n (by omega))) ?_ U) U
    refine y_ (Bp (T U) fa92_0) (e_ (eff_sP (o := 0) (m := 4) (T U) (T U) sizeOf86) ?_ U) U
    rintro _ _ ⟨rfl, rfl⟩
    refine Af (C8 U .nil (⟨_, rfl, ?_⟩))
    have hm : takL t names a n = true := by unfold takL; simp only [c14, c20, c35, decide_true, Bool.true_or, Bool.false_or, Bool.true_and]
    rw [if_pos hm]; exact sbt
   ·refine A9 (C8 U .nil (⟨_, rfl, ?_⟩))
    have hm : takL t names a n = false := by unfold takL; simp only [c14, c20, c35, decide_true, decide_false, Bool.false_or, Bool.true_and, Bool.false_and]
    rw [if_neg (by rw [hm]; decide)]; exact sbt
  ·refine o_n U (o_n U (o_n U (o_n U (o_n U (o_n U (o_n U (o_n U (o_n U (o_n U (o_n U (o_n U (o_n U (o_y U (Be (T U) Ak) (o_y U (Be (T U) (T U)) (B5 U (Af (Ac (Bt [(0, _), (4, _), (35, _)] ⟨Aa U, Aa U, Aa U, trivial⟩ ?_)))) U Ag) U (Ax U U (Aa U))) U (Cp U U (Aa U))) U (Cp U U (Aa U))) U (Cp U U (Aa U))) U (Cp U U (Aa U))) U (Cp U U (Aa U))) U (Cp U U (Aa U))) U (Cp U U (Aa U))) U (Cp U U (Aa U))) U (Cp U U (Aa U))) U (Cp U U (Aa U))) U (Cp U U (Aa U))) U (Cp U U (Aa U))) U (Cp U U (Aa U))
   first | refine B8 (Aa U) ?_ | refine B8 (Aj (Aa U) (vbool (decide_eq_false c35))) ?_
   refine A9 (C8 U .nil (⟨_, rfl, ?_⟩))
   have hm : takL t names a n = false := by unfold takL; simp only [c14, c20, decide_true, decide_false, Bool.false_or, Bool.true_and, Bool.false_and]
   rw [if_neg (by rw [hm]; decide)]; exact sbt
theorem b2E_s {w0 : World} {H : List (Nat × Obj)} (nt n4 n6 n12 n13 : Nat) (d1 d2 dn : Sl) (v2 v3 : Value) (t : Tr) (names : List ByteArray) (can a : Nat) (ht : TrOk t) (hc : can < 2 ^ t.names.length) (hR : TrR w0 H nt d1 d2 t) (h4 : Fnd H n4 (Cl [.pointer (some ⟨nt, 0, none⟩)] 80)) (h6 : Fnd H n6 (Cl [slV dn names.length, v2, v3] 29)) (h12 : Fnd H n12 (Cl [.int .i64 (a : Int)] 3)) (hA : Arr w0 H (slQ dn) 1 encS names) :
  FSpec Tryz.prog w0 48 #[.agg (encSet can).toArray, .func (.func 51) #[] #[.pointer (some ⟨n4, 0, none⟩), .pointer (some ⟨n12, 0, none⟩), .pointer (some ⟨n6, 0, none⟩), .pointer (some ⟨n13, 0, none⟩)]] ([(n13, Cl (encSt (0, true)) 92)] ++ H) (fun v H' => ∃ x : Unit, True ∧ H' = [(n13, Cl (encSt (stepL t names can a 256, true)) 92)] ++ H) := by
 have hp : 2 ^ t.names.length ≤ 2 ^ 64 := Nat.pow_le_pow_right (by omega) ht.few
 have h := each_s (w0 := w0) (H := H) can (Nat.lt_of_lt_of_le hc hp) 51 [.pointer (some ⟨n4, 0, none⟩), .pointer (some ⟨n12, 0, none⟩), .pointer (some ⟨n6, 0, none⟩), .pointer (some ⟨n13, 0, none⟩)] call51 (fun i => [(n13, Cl (encSt (stepL t names can a i, true)) 92)]) (fun n hn hb H1 hs => by
  have hl := stepL_lt (t := t) (names := names) (a := a) hc n
  refine (b2_s (H := H1) nt n4 n6 n12 n13 d1 d2 dn v2 v3 t names _ a n (by omega) ht (bit_lt hc hb) (hR.mono hs) (h4.mono hs) (h6.mono hs) (h12.mono hs) (hA.mono hs)).mono ?_
  rintro v H' rfl
  show _ = [(n13, Cl (encSt (stepL t names can a (n + 1), true)) 92)] ++ H1
  rw [stepL_succ, hb, Bool.true_and]
  split <;> rfl) (fun n hb => by
   show [(n13, Cl (encSt (stepL t names can a (n + 1), true)) 92)] = _
   rw [stepL_succ, hb]; rfl)
 exact h.mono fun v H' e => ⟨(), trivial, e⟩
end Go.Proofs.YtkdolgnpkjihpaaGreatDoor
namespace Go.Proofs.YtkdolgnpkjihpaaGreatDoor
open _root_.Go.Proofs.Tryz
open Go.RowKit
set_option linter.unusedVariables false
set_option linter.unusedSimpArgs false
abbrev encU (k : Nat) : List Value := [.int .i64 (k : Int)]
structure Row where
 d : Sl
 l : List Nat
instance : Inhabited Row := ⟨⟨.nil, []⟩⟩
abbrev encRow (r : Row) : List Value := [slV r.d r.l.length]
def rowsH (rs : List Row) : List (Nat × Obj) := rs.reverse.flatMap fun r => slH r.d (r.l.flatMap encU) 3
theorem rowsH_app (rs : List Row) (r : Row) : rowsH (rs ++ [r]) = slH r.d (r.l.flatMap encU) 3 ++ rowsH rs := by simp [rowsH]
def zipM {α : Type} (l : List α) : List (α × Nat) := l.zipIdx
theorem look_zip {α : Type} [DecidableEq α] (x : α) : ∀ (l : List α) (n : Nat), look (l.zipIdx n) x = if x ∈ l then some (n + l.idxOf x) else none
 | [], n => rfl
 | y :: l, n => by
  rw [List.zipIdx_cons, look_cons, look_zip x l (n + 1)]
  by_cases h : y = x
  ·subst h; simp
  ·have h2 : ¬ x = y := fun e => h e.symm
   simp only [h, if_false, List.mem_cons, h2, false_or]
   split
   ·have hb : (y == x) = false := by simp [h]
    rw [List.idxOf_cons, hb]; simp; omega
   ·rfl
def idx {α : Type} [DecidableEq α] (l : List α) (x : α) : Nat := l.idxOf x
theorem idx_app {α : Type} [DecidableEq α] {l : List α} {x : α} (h : x ∉ l) : idx (l ++ [x]) x = idx l x := by
 unfold idx; rw [List.idxOf_append, if_neg h, List.idxOf_eq_length h]; simp
theorem idx_lt {α : Type} [DecidableEq α] {l : List α} {x : α} (h : x ∈ l) : idx l x < l.length := List.idxOf_lt_length_of_mem h
theorem idx_not {α : Type} [DecidableEq α] {l : List α} {x : α} (h : x ∉ l) : idx l x = l.length := List.idxOf_eq_length h
theorem look_zipM {α : Type} [DecidableEq α] (x : α) (l : List α) : look (zipM l) x = if x ∈ l then some (idx l x) else none := by
 unfold zipM; rw [look_zip]; simp [idx]
theorem upsert_zip {α : Type} [DecidableEq α] (x : α) : ∀ (l : List α) (n : Nat), x ∉ l → upsert (l.zipIdx n) x (n + l.length) = (l ++ [x]).zipIdx n
 | [], n, _ => rfl
 | y :: l, n, h => by
  simp only [List.mem_cons, not_or] at h
  rw [List.zipIdx_cons, upsert_cons, if_neg (fun e => h.1 e.symm), List.cons_append, List.zipIdx_cons]
  have := upsert_zip x l (n + 1) h.2
  rw [← this, List.length_cons]
  congr 2; omega
theorem upsert_zipM {α : Type} [DecidableEq α] {x : α} {l : List α} (h : x ∉ l) : upsert (zipM l) x l.length = zipM (l ++ [x]) := by
 have := upsert_zip x l 0 h
 simpa [zipM] using this
def addSt (l : List St) (s : St) : List St := if s ∈ l then l else l ++ [s]
theorem idx_addSt (l : List St) (s : St) : idx (addSt l s) s = idx l s := by
 unfold addSt; split
 ·rfl
 ·rename_i h; exact idx_app h
theorem mem_addSt (l : List St) (s : St) : s ∈ addSt l s := by
 unfold addSt; split
 ·assumption
 ·simp
theorem addSt_get {l : List St} {s : St} {k : Nat} (h : k < l.length) : gd (addSt l s) k = gd l k := by
 unfold addSt; split
 ·rfl
 ·rw [Bj h, Bj (by simp; omega)]; simp [List.getElem_append, h]
theorem addSt_len (l : List St) (s : St) : l.length ≤ (addSt l s).length ∧ (addSt l s).length ≤ l.length + 1 := by
 unfold addSt; split <;> simp
def rowF (t : Tr) (names : List ByteArray) (can : Nat) (l : List St) : Nat → List St × List Nat
 | 0 => (l, [])
 | a + 1 => (addSt (rowF t names can l a).1 (stepL t names can a 256, true), (rowF t names can l a).2 ++ [idx (rowF t names can l a).1 (stepL t names can a 256, true)])
theorem rowF_succ (t : Tr) (names : List ByteArray) (can : Nat) (l : List St) (a : Nat) : rowF t names can l (a + 1) = (addSt (rowF t names can l a).1 (stepL t names can a 256, true), (rowF t names can l a).2 ++ [idx (rowF t names can l a).1 (stepL t names can a 256, true)]) := rfl
theorem rowF_len (t : Tr) (names : List ByteArray) (can : Nat) (l : List St) : ∀ a, (rowF t names can l a).2.length = a ∧ l.length ≤ (rowF t names can l a).1.length ∧ (rowF t names can l a).1.length ≤ l.length + a
 | 0 => ⟨rfl, Nat.le_refl _, Nat.le_refl _⟩
 | a + 1 => by
  obtain ⟨h1, h2, h3⟩ := rowF_len t names can l a
  have h4 := addSt_len (rowF t names can l a).1 (stepL t names can a 256, true)
  rw [rowF_succ]
  exact ⟨by simp [h1], by simp only []; omega, by simp only []; omega⟩
theorem rowF_get (t : Tr) (names : List ByteArray) (can : Nat) (l : List St) {k : Nat} (h : k < l.length) : ∀ a, gd (rowF t names can l a).1 k = gd l k
 | 0 => rfl
 | a + 1 => by
  rw [rowF_succ]
  have := (rowF_len t names can l a).2.1
  rw [addSt_get (by omega)]
  exact rowF_get t names can l h a
def StLow (m : Nat) (l : List St) : Prop := ∀ s ∈ l, s.1 < 2 ^ m
theorem rowF_low {m : Nat} {t : Tr} {names : List ByteArray} {can : Nat} {l : List St} (hc : can < 2 ^ m) (hl : StLow m l) : ∀ a, StLow m (rowF t names can l a).1
 | 0 => hl
 | a + 1 => by
  rw [rowF_succ]
  unfold addSt; split
  ·exact rowF_low hc hl a
  ·intro s hs
   simp only [List.mem_append, List.mem_cons, List.not_mem_nil, or_false] at hs
   rcases hs with hs | rfl
   ·exact rowF_low hc hl a s hs
   ·exact stepL_lt hc 256
def canAt (t : Tr) (e : En) (s : St) : Nat := if s.2 then orK t.fol s.1 256 else e.first
def accAt (e : En) (k : Nat) (s : St) : Bool := decide (¬ s.1 &&& e.last = 0) || (decide ((k : Int) = 0) && e.emp)
def rawGo (t : Tr) (e : En) (names : List ByteArray) : Nat → Nat → List St → List (List Nat) → List Bool → Option (List (List Nat) × List Bool)
 | 0, _, _, _, _ => none
 | f + 1, k, l, rows, acc => if k < l.length then (if 200 < (rowF t names (canAt t e (gd l k)) l (names.length + 1)).1.length then none else rawGo t e names f (k + 1) (rowF t names (canAt t e (gd l k)) l (names.length + 1)).1 (rows ++ [(rowF t names (canAt t e (gd l k)) l (names.length + 1)).2]) (acc ++ [accAt e k (gd l k)])) else some (rows, acc)
theorem rawGo_succ (t : Tr) (e : En) (names : List ByteArray) (f k : Nat) (l : List St) (rows : List (List Nat)) (acc : List Bool) : rawGo t e names (f + 1) k l rows acc = if k < l.length then (if 200 < (rowF t names (canAt t e (gd l k)) l (names.length + 1)).1.length then none else rawGo t e names f (k + 1) (rowF t names (canAt t e (gd l k)) l (names.length + 1)).1 (rows ++ [(rowF t names (canAt t e (gd l k)) l (names.length + 1)).2]) (acc ++ [accAt e k (gd l k)])) else some (rows, acc) := rfl
def s00 : St := (0, false)
def rawF (e : Re) : Option (List (List Nat) × List Bool) := rawGo (addF e t00).1 (addF e t00).2 (letF e) 201 0 [s00] [] []
theorem cells_take {w0 : World} {H : List (Nat × Obj)} {b o k : Nat} {vs : List Value} (h : Cells w0 H b o vs) : Cells w0 H b o (vs.take k) := fun i v hi => h i v (by
 rw [List.getElem?_take] at hi
 split at hi
 ·exact hi
 ·cases hi)
theorem row_set (r : List Nat) (m v : Nat) (h : r.length < m) : (r.flatMap encU ++ List.replicate (m - r.length) (Value.int .i64 0)).set r.length (.int .i64 (v : Int)) = (r ++ [v]).flatMap encU ++ List.replicate (m - (r.length + 1)) (Value.int .i64 0) := by
 have hl : (r.flatMap encU).length = r.length := by rw [flat_len (sz := 1) (fun _ => rfl)]; omega
 rw [List.set_append_right _ _ (by omega), hl, Nat.sub_self, List.flatMap_append]
 rw [show m - r.length = (m - (r.length + 1)) + 1 by omega, List.replicate_succ, List.set_cons_zero]
 simp
theorem eff_sRow {P : Program} {w0 : World} {L : Fm} {ty t : TypeId} {x y : Operand} {H H' : List (Nat × Obj)} {n m v i : Nat} (r : List Nat) (hi : i = r.length) (hx : Ev L x (.pointer (some ⟨n, 0 + i * 1, none⟩))) (hy : Ev L y (.int .i64 (v : Int))) (hz : ∀ w, (sizeOf t).run P w = .ok 1 w) (hm : r.length < m)
  (hu : Upd H n (Cl (r.flatMap encU ++ List.replicate (m - r.length) (Value.int .i64 0)) 3) (Cl ((r ++ [v]).flatMap encU ++ List.replicate (m - (r.length + 1)) (Value.int .i64 0)) 3) H') : Eff P w0 (.store t x y) ty L H (Still undef H') := by
 subst hi
 rw [show 0 + r.length * 1 = r.length by omega] at hx
 refine eff_store1 hx hy U hz ?_ hu
 rw [← row_set r m v hm]
 exact setN_set (by rw [List.length_append, flat_len (sz := 1) (fun _ => rfl), List.length_replicate]; omega)
theorem yl_lookSt {w0 : World} {H : List (Nat × Obj)} {L : Fm} {x y : Operand} {ty : TypeId} {r : Nat} {l : List St} {s : St} {v : Value} (hx : Ev L x (.map (some r))) (hy : Ev L y v) (hv : v = encStK s) (hf : Fnd H r (mapO encStK encIv (zipM l))) :
  Yl Tryz.prog w0 (.lookup 93 x y true) ty L H (.tuple #[.int .i64 (((look (zipM l) s).getD 0 : Nat) : Int), .bool (decide (s ∈ l))]) := by
 have h := yl_lookup2 (P := Tryz.prog) (w0 := w0) (ty := ty) (keySt (V := Nat)) hx hy hv runUnderlying93 zeroValue3 hf
 rw [look_zipM] at h ⊢
 by_cases hm : s ∈ l
 ·rw [if_pos hm] at h ⊢; rw [decide_eq_true hm]; exact h
 ·rw [if_neg hm] at h ⊢; rw [decide_eq_false hm]; exact h
theorem yl_lookSt1 {w0 : World} {H : List (Nat × Obj)} {L : Fm} {x y : Operand} {ty : TypeId} {r : Nat} {l : List St} {s : St} {v : Value} (hs : s ∈ l) (hx : Ev L x (.map (some r))) (hy : Ev L y v) (hv : v = encStK s) (hf : Fnd H r (mapO encStK encIv (zipM l))) :
  Yl Tryz.prog w0 (.lookup 93 x y false) ty L H (.int .i64 ((idx l s : Nat) : Int)) := by
 have h := yl_lookup (P := Tryz.prog) (w0 := w0) (ty := ty) (keySt (V := Nat)) hx hy hv runUnderlying93 zeroValue3 hf
 rw [look_zipM] at h
 rw [if_pos hs] at h; exact h
end Go.Proofs.YtkdolgnpkjihpaaGreatDoor
namespace Go.Proofs.YtkdolgnpkjihpaaGreatDoor
open _root_.Go.Proofs.Tryz
open Go.RowKit
set_option linter.unusedVariables false
set_option linter.unusedSimpArgs false
structure RowQ where
 q : Option Addr
 c : Nat
 l : List Nat
instance : Inhabited RowQ := ⟨⟨none, 0, []⟩⟩
structure Mc where
 names : List ByteArray
 rows : List RowQ
 acc : List Bool
 q1 : Option Addr
 c1 : Nat
 q2 : Option Addr
 c2 : Nat
 q3 : Option Addr
 c3 : Nat
abbrev encRQ (r : RowQ) : List Value := [.slice r.q r.l.length r.c]
abbrev encB1 (b : Bool) : List Value := [.bool b]
abbrev encMc (m : Mc) : List Value := [.slice m.q1 m.names.length m.c1, .slice m.q2 m.rows.length m.c2, .slice m.q3 m.acc.length m.c3]
structure McOk (w0 : World) (H : List (Nat × Obj)) (m : Mc) : Prop where
 a1 : Arr w0 H m.q1 1 encS m.names
 a2 : Arr w0 H m.q2 1 encRQ m.rows
 a3 : Arr w0 H m.q3 1 encB1 m.acc
 r : ∀ r ∈ m.rows, Arr w0 H r.q 1 encU r.l
theorem McOk.mono {w0 : World} {H H' : List (Nat × Obj)} {m : Mc} (h : McOk w0 H m) (hs : H.Sublist H' := by exact sbt) : McOk w0 H' m := ⟨h.a1.mono hs, h.a2.mono hs, h.a3.mono hs, fun r hr => (h.r r hr).mono hs⟩
structure PM where
 names : List ByteArray
 next : List (List Nat)
 acc : List Bool
def Mc.pl (m : Mc) : PM := ⟨m.names, m.rows.map RowQ.l, m.acc⟩
structure PMok (m : PM) : Prop where
 some' : 0 < m.next.length
 few : m.next.length ≤ 200
 acc : m.acc.length = m.next.length
 row : ∀ r ∈ m.next, r.length = m.names.length + 1 ∧ ∀ s ∈ r, s < m.next.length
abbrev MX := Sl × Sl × List Row
abbrev mOut (x : MX) (acc : List Bool) (H : List (Nat × Obj)) : List (Nat × Obj) := rowsH x.2.2 ++ (slH x.1 (x.2.2.flatMap encRow) 42 ++ (slH x.2.1 (acc.flatMap encB1) 4 ++ H))
structure OutOk (x : MX) (next : List (List Nat)) (acc : List Bool) : Prop where
 o1 : SlOk x.1 x.2.2.length 1
 o2 : SlOk x.2.1 acc.length 1
 rows : x.2.2.map Row.l = next
 o3 : ∀ r ∈ x.2.2, SlOk r.d r.l.length 1
theorem rowsH_sub {rs : List Row} {r : Row} (h : r ∈ rs) : (slH r.d (r.l.flatMap encU) 3).Sublist (rowsH rs) := by
 have h2 : r ∈ rs.reverse := by simpa using h
 unfold rowsH
 generalize rs.reverse = l at h2
 clear h
 induction l with
 | nil => cases h2
 | cons a l ih =>
  rw [List.flatMap_cons]
  rcases List.mem_cons.1 h2 with rfl | h
  ·exact List.sublist_append_left _ _
  ·exact (ih h).trans (List.sublist_append_right _ _)
def Row.toQ (r : Row) : RowQ := ⟨slQ r.d, slC r.d, r.l⟩
theorem encRow_toQ (rs : List Row) : rs.flatMap encRow = (rs.map Row.toQ).flatMap encRQ := by
 induction rs with
 | nil => rfl
 | cons a rs ih => rw [List.map_cons, List.flatMap_cons, List.flatMap_cons, ih]; rfl
def mcOf (names : List ByteArray) (q1 : Option Addr) (c1 : Nat) (x : MX) (acc : List Bool) : Mc := ⟨names, x.2.2.map Row.toQ, acc, q1, c1, slQ x.1, slC x.1, slQ x.2.1, slC x.2.1⟩
theorem mcOf_pl {names : List ByteArray} {q1 : Option Addr} {c1 : Nat} {x : MX} {next : List (List Nat)} {acc : List Bool} (h : OutOk x next acc) : (mcOf names q1 c1 x acc).pl = ⟨names, next, acc⟩ := by
 unfold mcOf Mc.pl
 simp only [PM.mk.injEq, true_and, and_true]
 rw [← h.rows, List.map_map]; rfl
theorem mcOf_ok {w0 : World} {names : List ByteArray} {q1 : Option Addr} {c1 : Nat} {x : MX} {next : List (List Nat)} {acc : List Bool} {H : List (Nat × Obj)} (h : OutOk x next acc) (hn : Arr w0 (mOut x acc H) q1 1 encS names) : McOk w0 (mOut x acc H) (mcOf names q1 c1 x acc) := by
 refine ⟨hn, ?_, ?_, ?_⟩
 ·have h1 : Arr w0 (slH x.1 (x.2.2.flatMap encRow) 42 ++ (slH x.2.1 (acc.flatMap encB1) 4 ++ H)) (slQ x.1) 1 encRQ (x.2.2.map Row.toQ) := by
   rw [encRow_toQ]; exact Bz (fun _ => rfl) (by rw [List.length_map]; exact h.o1)
  exact h1.mono (List.sublist_append_right _ _)
 ·have h1 : Arr w0 (slH x.2.1 (acc.flatMap encB1) 4 ++ H) (slQ x.2.1) 1 encB1 acc := Bz (fun _ => rfl) h.o2
  exact h1.mono ((List.sublist_append_right _ _).trans (List.sublist_append_right _ _))
 ·intro r hr
  simp only [mcOf, List.mem_map] at hr
  obtain ⟨r0, hr0, rfl⟩ := hr
  have h1 : Arr w0 (slH r0.d (r0.l.flatMap encU) 3 ++ []) (slQ r0.d) 1 encU r0.l := Bz (fun _ => rfl) (h.o3 r0 hr0)
  rw [List.append_nil] at h1
  exact h1.mono ((rowsH_sub hr0).trans (List.sublist_append_left _ _))
theorem mcOf_mono {w0 : World} {names : List ByteArray} {q1 : Option Addr} {c1 : Nat} {x : MX} {next : List (List Nat)} {acc : List Bool} {H H' : List (Nat × Obj)} (h : OutOk x next acc) (hs : (mOut x acc H).Sublist H') (hn : Arr w0 H' q1 1 encS names) : McOk w0 H' (mcOf names q1 c1 x acc) :=
 have h2 := (mcOf_ok (w0 := w0) (names := []) (q1 := none) (c1 := 0) (H := H) h (fun i x hi => by cases hi)).mono hs
 ⟨hn, h2.a2, h2.a3, h2.r⟩
theorem mcOf_enc (names : List ByteArray) (q1 : Option Addr) (c1 : Nat) (x : MX) (acc : List Bool) : encMc (mcOf names q1 c1 x acc) = [.slice q1 names.length c1, slV x.1 x.2.2.length, slV x.2.1 acc.length] := by simp [encMc, mcOf]
def LeastS (w0 : World) (leastF : PM → PM) : Prop := ∀ (H : List (Nat × Obj)) (m : Mc), McOk w0 H m → PMok m.pl → m.names.length ≤ 64 →
  FSpec Tryz.prog w0 54 #[.agg (encMc m).toArray] H (fun v H' => ∃ x : MX, (v = .agg #[.slice m.q1 m.names.length m.c1, slV x.1 x.2.2.length, slV x.2.1 (leastF m.pl).acc.length] ∧ OutOk x (leastF m.pl).next (leastF m.pl).acc) ∧ H' = mOut x (leastF m.pl).acc H)
theorem least_own {w0 : World} {leastF : PM → PM} (hL : LeastS w0 leastF) {H H0 : List (Nat × Obj)} {names : List ByteArray} {dn : Sl} {x : MX} {next : List (List Nat)} {acc : List Bool} (ho : OutOk x next acc) (hs : (mOut x acc H0).Sublist H) (hn : Arr w0 H (slQ dn) 1 encS names) (hp : PMok ⟨names, next, acc⟩) (hl : names.length ≤ 64) :
  FSpec Tryz.prog w0 54 #[.agg #[slV dn names.length, slV x.1 x.2.2.length, slV x.2.1 acc.length]] H (fun v H' => ∃ y : MX, (v = .agg #[slV dn names.length, slV y.1 y.2.2.length, slV y.2.1 (leastF ⟨names, next, acc⟩).acc.length] ∧ OutOk y (leastF ⟨names, next, acc⟩).next (leastF ⟨names, next, acc⟩).acc) ∧ H' = mOut y (leastF ⟨names, next, acc⟩).acc H) := by
 have h := hL H (mcOf names (slQ dn) (slC dn) x acc) (mcOf_mono ho hs hn) (by rw [mcOf_pl ho]; exact hp) hl
 rw [mcOf_enc, mcOf_pl ho] at h
 exact h
theorem letF_few {e : Re} (h : e.lv ≤ 64) : (letF e).length ≤ 64 := Nat.le_trans (letF_len e) h
structure RawInv (t : Tr) (e : En) (names : List ByteArray) (k : Nat) (l : List St) (rows : List (List Nat)) (acc : List Bool) : Prop where
 kl : k ≤ l.length
 few : l.length ≤ 200
 rl : rows.length = k
 al : acc.length = k
 low : StLow t.names.length l
 row : ∀ r ∈ rows, r.length = names.length + 1 ∧ ∀ s ∈ r, s < l.length
 fst : gd l 0 = s00 ∧ 0 < l.length
theorem rowF_lt (t : Tr) (names : List ByteArray) (can : Nat) (l : List St) : ∀ a, ∀ s ∈ (rowF t names can l a).2, s < (rowF t names can l a).1.length
 | 0, s, hs => by cases hs
 | a + 1, s, hs => by
  rw [rowF_succ] at hs ⊢
  simp only [List.mem_append, List.mem_cons, List.not_mem_nil, or_false] at hs
  have h4 := addSt_len (rowF t names can l a).1 (stepL t names can a 256, true)
  rcases hs with hs | rfl
  ·exact Nat.lt_of_lt_of_le (rowF_lt t names can l a s hs) h4.1
  ·rw [← idx_addSt]; exact idx_lt (mem_addSt _ _)
theorem canAt_lt {t : Tr} {e : En} (ht : TrOk t) (hw : Low t) (he : e.first < 2 ^ t.names.length) {s : St} (hs : s.1 < 2 ^ t.names.length) : canAt t e s < 2 ^ t.names.length := by
 unfold canAt; split
 ·exact orK_lt ht hw hs 256
 ·exact he
theorem RawInv.next {t : Tr} {e : En} {names : List ByteArray} {k : Nat} {l : List St} {rows : List (List Nat)} {acc : List Bool} (h : RawInv t e names k l rows acc) (ht : TrOk t) (hw : Low t) (he : e.first < 2 ^ t.names.length) (hk : k < l.length) (hf : ¬ 200 < (rowF t names (canAt t e (gd l k)) l (names.length + 1)).1.length) :
  RawInv t e names (k + 1) (rowF t names (canAt t e (gd l k)) l (names.length + 1)).1 (rows ++ [(rowF t names (canAt t e (gd l k)) l (names.length + 1)).2]) (acc ++ [accAt e k (gd l k)]) := by
 obtain ⟨h1, h2, h3⟩ := rowF_len t names (canAt t e (gd l k)) l (names.length + 1)
 have hc := canAt_lt ht hw he (h.low _ (A1 hk))
 refine ⟨by omega, by omega, by simp [h.rl], by simp [h.al], rowF_low hc h.low _, fun r hr => ?_, ?_⟩
 ·simp only [List.mem_append, List.mem_cons, List.not_mem_nil, or_false] at hr
  rcases hr with hr | rfl
  ·exact ⟨(h.row r hr).1, fun s hs => Nat.lt_of_lt_of_le ((h.row r hr).2 s hs) h2⟩
  ·exact ⟨h1, rowF_lt _ _ _ _ _⟩
 ·rw [rowF_get _ _ _ _ h.fst.2]
  exact ⟨h.fst.1, by have := h.fst.2; omega⟩
theorem RawInv.done {t : Tr} {e : En} {names : List ByteArray} {k : Nat} {l : List St} {rows : List (List Nat)} {acc : List Bool} (h : RawInv t e names k l rows acc) (hk : ¬ k < l.length) : PMok ⟨names, rows, acc⟩ := by
 have hk2 : k = l.length := by have := h.kl; omega
 refine ⟨?_, ?_, ?_, fun r hr => ?_⟩
 ·show 0 < rows.length; have := h.fst.2; have := h.rl; omega
 ·show rows.length ≤ 200; have := h.few; have := h.rl; omega
 ·show acc.length = rows.length; have := h.al; have := h.rl; omega
 ·show r.length = names.length + 1 ∧ ∀ s ∈ r, s < rows.length
  rw [h.rl, hk2]; exact h.row r hr
theorem raw_start (t : Tr) (e : En) (names : List ByteArray) : RawInv t e names 0 [s00] [] [] := ⟨by simp, by simp, rfl, rfl, (fun s hs => by
 simp only [List.mem_cons, List.not_mem_nil, or_false] at hs
 subst hs; exact Nat.two_pow_pos _), (fun r hr => by cases hr), rfl, by simp⟩
def buildF (leastF : PM → PM) (e : Re) : PM × Int := match rawF e with
 | none => (⟨[], [], []⟩, 2)
 | some r => (⟨letF e, (leastF ⟨letF e, r.1, r.2⟩).next, (leastF ⟨letF e, r.1, r.2⟩).acc⟩, 0)
end Go.Proofs.YtkdolgnpkjihpaaGreatDoor
namespace Go.Proofs.YtkdolgnpkjihpaaGreatDoor
open _root_.Go.Proofs.Tryz
set_option linter.unusedVariables false
set_option linter.unusedSimpArgs false
def nx (m : PM) (i a : Nat) : Nat := gd (gd m.next i) a
def maxF : List Nat → Nat
 | [] => 0
 | x :: l => l.foldl max x
theorem foldl_max_ge (l : List Nat) : ∀ x, x ≤ l.foldl max x := by
 induction l with
 | nil => intro x; exact Nat.le_refl _
 | cons a l ih => intro x; exact Nat.le_trans (Nat.le_max_left x a) (ih _)
theorem foldl_max_mem (l : List Nat) : ∀ x, l.foldl max x = x ∨ l.foldl max x ∈ l := by
 induction l with
 | nil => intro x; exact .inl rfl
 | cons a l ih =>
  intro x
  rw [List.foldl_cons]
  rcases ih (max x a) with h | h
  ·rw [h]
   rcases Nat.le_total x a with h2 | h2
   ·right; rw [Nat.max_eq_right h2]; exact List.mem_cons_self ..
   ·left; rw [Nat.max_eq_left h2]
  ·exact .inr (List.mem_cons_of_mem _ h)
theorem foldl_max_all (l : List Nat) : ∀ x, ∀ y ∈ l, y ≤ l.foldl max x := by
 induction l with
 | nil => intro x y hy; cases hy
 | cons a l ih =>
  intro x y hy
  rw [List.foldl_cons]
  rcases List.mem_cons.1 hy with rfl | h
  ·exact Nat.le_trans (Nat.le_max_right x y) (foldl_max_ge l _)
  ·exact ih _ y h
theorem maxF_mem {l : List Nat} (h : 0 < l.length) : maxF l ∈ l := by
 cases l with
 | nil => simp at h
 | cons x l =>
  rcases foldl_max_mem l x with h | h
  ·show l.foldl max x ∈ _; rw [h]; exact List.mem_cons_self ..
  ·exact List.mem_cons_of_mem _ h
theorem maxF_all {l : List Nat} {y : Nat} (hy : y ∈ l) : y ≤ maxF l := by
 cases l with
 | nil => cases hy
 | cons x l =>
  rcases List.mem_cons.1 hy with rfl | h
  ·exact foldl_max_ge l y
  ·exact foldl_max_all l x y h
theorem maxF_take {l : List Nat} {i : Nat} (h0 : 0 < i) (h : i < l.length) : maxF (l.take (i + 1)) = max (maxF (l.take i)) (gd l i) := by
 rw [List.take_add_one, C7 h]
 cases l with
 | nil => simp at h
 | cons x l =>
  obtain ⟨j, rfl⟩ : ∃ j, i = j + 1 := ⟨i - 1, by omega⟩
  simp [maxF, List.foldl_append]
def mvK (m : PM) (b : List Nat) (old goal a : Nat) : Nat → List Nat
 | 0 => []
 | j + 1 => if gd b j = old ∧ gd b (nx m j a) = goal then mvK m b old goal a j ++ [j] else mvK m b old goal a j
theorem mvK_succ (m : PM) (b : List Nat) (old goal a j : Nat) : mvK m b old goal a (j + 1) = if gd b j = old ∧ gd b (nx m j a) = goal then mvK m b old goal a j ++ [j] else mvK m b old goal a j := rfl
theorem mem_mvK (m : PM) (b : List Nat) (old goal a : Nat) (x : Nat) : ∀ j, x ∈ mvK m b old goal a j ↔ x < j ∧ gd b x = old ∧ gd b (nx m x a) = goal
 | 0 => by simp [mvK]
 | j + 1 => by
  rw [mvK_succ]
  have ih := mem_mvK m b old goal a x j
  split
  ·rename_i h
   rw [List.mem_append, ih]
   constructor
   ·rintro (h1 | h1)
    ·exact ⟨by omega, h1.2⟩
    ·simp at h1; subst h1; exact ⟨by omega, h⟩
   ·rintro ⟨h1, h2⟩
    by_cases e : x = j
    ·subst e; exact .inr (by simp)
    ·exact .inl ⟨by omega, h2⟩
  ·rename_i h
   rw [ih]
   constructor
   ·rintro ⟨h1, h2⟩; exact ⟨by omega, h2⟩
   ·rintro ⟨h1, h2⟩
    by_cases e : x = j
    ·subst e; exact absurd h2 h
    ·exact ⟨by omega, h2⟩
theorem mvK_len (m : PM) (b : List Nat) (old goal a : Nat) : ∀ j, (mvK m b old goal a j).length ≤ j
 | 0 => Nat.le_refl _
 | j + 1 => by
  have := mvK_len m b old goal a j
  rw [mvK_succ]; split
  ·simp; omega
  ·omega
def setM (b : List Nat) (f : Nat) (l : List Nat) : List Nat := l.foldl (fun b j => b.set j f) b
theorem setM_take {b : List Nat} {f : Nat} {l : List Nat} {i : Nat} (h : i < l.length) : setM b f (l.take (i + 1)) = (setM b f (l.take i)).set (gd l i) f := by
 unfold setM; rw [List.take_add_one, C7 h, List.foldl_append]; rfl
theorem setM_len (f : Nat) : ∀ (l : List Nat) (b : List Nat), (setM b f l).length = b.length
 | [], b => rfl
 | j :: l, b => by
  show (setM (b.set j f) f l).length = _
  rw [setM_len f l]; simp
theorem gd_set {b : List Nat} {j f x : Nat} : gd (b.set j f) x = if x = j ∧ x < b.length then f else gd b x := by
 simp only [gd, List.getD_eq_getElem?_getD, List.getElem?_set]
 by_cases h : j = x
 ·subst h
  by_cases h2 : j < b.length
  ·simp [h2]
  ·simp [h2]
 ·have h2 : ¬ x = j := fun e => h e.symm
  simp [h, h2]
theorem gd_setM (f x : Nat) : ∀ (l : List Nat) (b : List Nat), gd (setM b f l) x = if x ∈ l ∧ x < b.length then f else gd b x
 | [], b => by simp [setM]
 | j :: l, b => by
  show gd (setM (b.set j f) f l) x = _
  rw [gd_setM f x l, List.length_set, gd_set]
  by_cases h3 : x < b.length
  ·by_cases h1 : x ∈ l
   ·rw [if_pos ⟨h1, h3⟩, if_pos ⟨List.mem_cons_of_mem _ h1, h3⟩]
   ·rw [if_neg (fun h => h1 h.1)]
    by_cases h2 : x = j
    ·rw [if_pos ⟨h2, h3⟩, if_pos ⟨by rw [h2]; exact List.mem_cons_self .., h3⟩]
    ·rw [if_neg (fun h => h2 h.1), if_neg (fun h => (List.mem_cons.1 h.1).elim h2 h1)]
  ·rw [if_neg (fun h => h3 h.2), if_neg (fun h => h3 h.2), if_neg (fun h => h3 h.2)]
def splitF (m : PM) (b : List Nat) (k a : Nat) : List Nat := setM b (maxF b + 1) (mvK m b (gd b k) (gd b (nx m k a)) a b.length)
theorem splitF_len (m : PM) (b : List Nat) (k a : Nat) : (splitF m b k a).length = b.length := setM_len _ _ _
theorem gd_splitF (m : PM) (b : List Nat) (k a x : Nat) : gd (splitF m b k a) x = if x < b.length ∧ gd b x = gd b k ∧ gd b (nx m x a) = gd b (nx m k a) then maxF b + 1 else gd b x := by
 unfold splitF
 rw [gd_setM]
 simp only [mem_mvK]
 by_cases h : x < b.length
 ·by_cases h2 : gd b x = gd b k ∧ gd b (nx m x a) = gd b (nx m k a)
  ·rw [if_pos ⟨⟨h, h2⟩, h⟩, if_pos ⟨h, h2⟩]
  ·rw [if_neg (fun h3 => h2 h3.1.2), if_neg (fun h3 => h2 h3.2)]
 ·rw [if_neg (fun h3 => h h3.2), if_neg (fun h3 => h h3.1)]
def fsA (m : PM) (b : List Nat) (k i : Nat) : Option (Nat × Nat) := (List.range (gd m.next k).length).findSome? fun a => if gd b (nx m i a) = gd b (nx m k a) then none else some (k, a)
def fsI (m : PM) (b : List Nat) (k : Nat) : Option (Nat × Nat) := (List.range k).findSome? fun i => if gd b i = gd b k then fsA m b k i else none
def findSp (m : PM) (b : List Nat) : Option (Nat × Nat) := (List.range b.length).findSome? (fsI m b)
theorem fs_none {β : Type} {f : Nat → Option β} {n : Nat} (h : ∀ j, j < n → f j = none) : (List.range n).findSome? f = none := by
 rw [List.findSome?_eq_none_iff]; intro j hj; exact h j (List.mem_range.1 hj)
theorem fs_some {β : Type} {f : Nat → Option β} {n k : Nat} {x : β} (hk : k < n) (hx : f k = some x) (h : ∀ j, j < k → f j = none) : (List.range n).findSome? f = some x := by
 have e : List.range n = List.range k ++ (k :: List.range' (k + 1) (n - k - 1)) := by
  rw [List.range_eq_range', List.range_eq_range', show n = k + (n - k) by omega, ← List.range'_append_1, Nat.zero_add, show n - k = (n - k - 1) + 1 by omega, List.range'_succ]
  simp
 rw [e, List.findSome?_append, fs_none h]
 simp [List.findSome?_cons, hx]
def refineF (m : PM) : Nat → List Nat → List Nat
 | 0, b => b
 | f + 1, b => match findSp m b with
  | none => b
  | some p => refineF m f (splitF m b p.1 p.2)
theorem refineF_none {m : PM} {b : List Nat} (h : findSp m b = none) : ∀ f, refineF m f b = b
 | 0 => rfl
 | f + 1 => by unfold refineF; rw [h]
theorem refineF_some {m : PM} {b : List Nat} {k a : Nat} (h : findSp m b = some (k, a)) (f : Nat) : refineF m (f + 1) b = refineF m f (splitF m b k a) := by
 conv => lhs; unfold refineF
 rw [h]
def initB (m : PM) : List Nat := m.acc.map fun y => if y then 1 else 0
def Cont (b : List Nat) : Prop := ∃ lo, lo ≤ 1 ∧ ∀ x, x ∈ b ↔ lo ≤ x ∧ x ≤ maxF b
theorem nodup_le {α : Type} [DecidableEq α] : ∀ {l l' : List α}, l.Nodup → (∀ x ∈ l, x ∈ l') → l.length ≤ l'.length
 | [], l', _, _ => Nat.zero_le _
 | x :: l, l', h, hs => by
  rw [List.nodup_cons] at h
  have hx := hs x (by simp)
  have h2 : ∀ y ∈ l, y ∈ l'.erase x := fun y hy => (List.mem_erase_of_ne (fun e => h.1 (by rw [← e]; exact hy))).2 (hs y (by simp [hy]))
  have h3 := nodup_le h.2 h2
  have h4 := List.length_erase_of_mem hx
  have h5 : 0 < l'.length := List.length_pos_of_mem hx
  simp only [List.length_cons]; omega
theorem Cont.max_le {b : List Nat} (h : Cont b) : maxF b ≤ b.length := by
 obtain ⟨lo, h1, h2⟩ := h
 have h3 : (List.range' lo (maxF b + 1 - lo)).Nodup := List.nodup_range' ..
 have h4 := nodup_le h3 (l' := b) fun x hx => by
  rw [List.mem_range'_1] at hx
  exact (h2 x).2 ⟨by omega, by omega⟩
 rw [List.length_range'] at h4; omega
theorem mem_gd {b : List Nat} {x : Nat} : x ∈ b ↔ ∃ j, j < b.length ∧ gd b j = x := by
 constructor
 ·intro h
  obtain ⟨j, hj, e⟩ := List.getElem_of_mem h
  exact ⟨j, hj, by rw [Bj hj]; exact e⟩
 ·rintro ⟨j, hj, rfl⟩; exact A1 hj
theorem maxF_eq {b : List Nat} {x : Nat} (h1 : x ∈ b) (h2 : ∀ y ∈ b, y ≤ x) : maxF b = x :=
 Nat.le_antisymm (h2 _ (maxF_mem (List.length_pos_of_mem h1))) (maxF_all h1)
theorem split_mem {m : PM} {b : List Nat} {i k a : Nat} (hi : i < b.length) (hk : k < b.length) (he : gd b i = gd b k) (hn : ¬ gd b (nx m i a) = gd b (nx m k a)) (x : Nat) : x ∈ splitF m b k a ↔ x ∈ b ∨ x = maxF b + 1 := by
 rw [mem_gd, splitF_len]
 constructor
 ·rintro ⟨j, hj, rfl⟩
  rw [gd_splitF]; split
  ·exact .inr U
  ·exact .inl (A1 hj)
 ·rintro (h | rfl)
  ·obtain ⟨j, hj, rfl⟩ := mem_gd.1 h
   by_cases hm : gd b j = gd b k ∧ gd b (nx m j a) = gd b (nx m k a)
   ·refine ⟨i, hi, ?_⟩
    rw [gd_splitF, if_neg (fun h => hn h.2.2), he, hm.1]
   ·exact ⟨j, hj, by rw [gd_splitF, if_neg (fun h => hm h.2)]⟩
  ·exact ⟨k, hk, by rw [gd_splitF, if_pos ⟨hk, rfl, rfl⟩]⟩
theorem split_max {m : PM} {b : List Nat} {i k a : Nat} (hi : i < b.length) (hk : k < b.length) (he : gd b i = gd b k) (hn : ¬ gd b (nx m i a) = gd b (nx m k a)) : maxF (splitF m b k a) = maxF b + 1 :=
 maxF_eq ((split_mem hi hk he hn _).2 (.inr U)) fun y hy => by
  rcases (split_mem hi hk he hn y).1 hy with h | rfl
  ·have := maxF_all h; omega
  ·exact Nat.le_refl _
theorem Cont.split {m : PM} {b : List Nat} {i k a : Nat} (h : Cont b) (hi : i < b.length) (hk : k < b.length) (he : gd b i = gd b k) (hn : ¬ gd b (nx m i a) = gd b (nx m k a)) : Cont (splitF m b k a) := by
 obtain ⟨lo, h1, h2⟩ := h
 refine ⟨lo, h1, fun x => ?_⟩
 rw [split_mem hi hk he hn, split_max hi hk he hn, h2]
 have h3 := (h2 (maxF b)).1 (maxF_mem (by omega))
 constructor
 ·rintro (h | h) <;> omega
 ·intro h; omega
theorem Cont.init {m : PM} (h : 0 < m.acc.length) : Cont (initB m) := by
 have hle : ∀ x ∈ initB m, x ≤ 1 := fun x hx => by
  simp only [initB, List.mem_map] at hx
  obtain ⟨y, _, rfl⟩ := hx
  split <;> omega
 have hp : 0 < (initB m).length := by simp [initB, h]
 by_cases h0 : 0 ∈ initB m
 ·refine ⟨0, by omega, fun x => ⟨fun hx => ⟨by omega, maxF_all hx⟩, fun hx => ?_⟩⟩
  have hm := maxF_mem hp
  have := hle _ hm
  by_cases e : x = 0
  ·subst e; exact h0
  ·rw [show x = maxF (initB m) by omega]; exact hm
 ·refine ⟨1, by omega, fun x => ⟨fun hx => ⟨?_, maxF_all hx⟩, fun hx => ?_⟩⟩
  ·rcases Nat.eq_zero_or_pos x with e | e
   ·subst e; exact absurd hx h0
   ·exact e
  ·have hm := maxF_mem hp
   have := hle _ hm
   rw [show x = maxF (initB m) by omega]; exact hm
def numK (b tos order : List Nat) : Nat → List Nat × List Nat
 | 0 => (order, [])
 | i + 1 => (if gd b (gd tos i) ∈ (numK b tos order i).1.map (gd b) then (numK b tos order i).1 else (numK b tos order i).1 ++ [gd tos i], (numK b tos order i).2 ++ [idx ((numK b tos order i).1.map (gd b)) (gd b (gd tos i))])
theorem numK_succ (b tos order : List Nat) (i : Nat) : numK b tos order (i + 1) = (if gd b (gd tos i) ∈ (numK b tos order i).1.map (gd b) then (numK b tos order i).1 else (numK b tos order i).1 ++ [gd tos i], (numK b tos order i).2 ++ [idx ((numK b tos order i).1.map (gd b)) (gd b (gd tos i))]) := rfl
def numGo (m : PM) (b : List Nat) : Nat → Nat → List Nat → List (List Nat) → List Bool → List (List Nat) × List Bool
 | 0, _, _, rows, acc => (rows, acc)
 | f + 1, k, order, rows, acc => if k < order.length then numGo m b f (k + 1) (numK b (gd m.next (gd order k)) order (gd m.next (gd order k)).length).1 (rows ++ [(numK b (gd m.next (gd order k)) order (gd m.next (gd order k)).length).2]) (acc ++ [gd m.acc (gd order k)]) else (rows, acc)
theorem numGo_succ (m : PM) (b : List Nat) (f k : Nat) (order : List Nat) (rows : List (List Nat)) (acc : List Bool) : numGo m b (f + 1) k order rows acc = if k < order.length then numGo m b f (k + 1) (numK b (gd m.next (gd order k)) order (gd m.next (gd order k)).length).1 (rows ++ [(numK b (gd m.next (gd order k)) order (gd m.next (gd order k)).length).2]) (acc ++ [gd m.acc (gd order k)]) else (rows, acc) := rfl
def numF (m : PM) (b : List Nat) : PM := ⟨m.names, (numGo m b 201 0 [0] [] []).1, (numGo m b 201 0 [0] [] []).2⟩
def leastF (m : PM) : PM := numF m (refineF m 201 (initB m))
structure OrdOk (m : PM) (b order : List Nat) : Prop where
 nd : (order.map (gd b)).Nodup
 lt : ∀ s ∈ order, s < m.next.length
theorem OrdOk.few {m : PM} {b order : List Nat} (h : OrdOk m b order) : order.length ≤ m.next.length := by
 have h1 : order.Nodup := by
  have := h.nd
  rw [List.Nodup, List.pairwise_map] at this
  exact this.imp fun hne e => hne (by rw [e])
 have := nodup_le h1 (l' := List.range m.next.length) fun s hs => List.mem_range.2 (h.lt s hs)
 simpa using this
theorem OrdOk.step {m : PM} {b tos order : List Nat} (h : OrdOk m b order) (ht : ∀ s ∈ tos, s < m.next.length) : ∀ i, i ≤ tos.length → OrdOk m b (numK b tos order i).1 ∧ (numK b tos order i).2.length = i ∧ (∃ e, (numK b tos order i).1 = order ++ e)
 | 0, _ => ⟨h, rfl, [], by simp [numK]⟩
 | i + 1, hi => by
  obtain ⟨h1, h2, e, h3⟩ := OrdOk.step h ht i (by omega)
  rw [numK_succ]
  refine ⟨?_, by simp [h2], ?_⟩
  ·simp only []
   split
   ·exact h1
   ·rename_i hn
    refine ⟨?_, fun s hs => ?_⟩
    ·rw [List.map_append, List.nodup_append]
     refine ⟨h1.nd, by simp, fun x hx y hy => ?_⟩
     simp at hy; subst hy
     rintro rfl; exact hn hx
    ·simp only [List.mem_append, List.mem_cons, List.not_mem_nil, or_false] at hs
     rcases hs with hs | rfl
     ·exact h1.lt s hs
     ·exact ht _ (A1 (by omega))
  ·simp only []
   split
   ·exact ⟨e, h3⟩
   ·exact ⟨e ++ [gd tos i], by rw [h3, List.append_assoc]⟩
end Go.Proofs.YtkdolgnpkjihpaaGreatDoor
namespace Go.Proofs.YtkdolgnpkjihpaaGreatDoor
open _root_.Go.Proofs.Tryz
open Go.RowKit
set_option linter.unusedVariables false
set_option linter.unusedSimpArgs false
theorem bd29_0 (a0 : Option Addr) (a0n a0c : Nat) (w : World) : (Instr.build 29 #[(0, .slice a0 a0n a0c)]).run Tryz.prog w = .ok (.agg #[.slice a0 a0n a0c, .slice none 0 0, .slice none 0 0]) w := by kernel_rfl
theorem bd29_z  (w : World) : (Instr.build 29 #[]).run Tryz.prog w = .ok (.agg #[.slice none 0 0, .slice none 0 0, .slice none 0 0]) w := by kernel_rfl
theorem bd92_1 (a0 : Bool) (w : World) : (Instr.build 92 #[(1, .bool a0)]).run Tryz.prog w = .ok (.agg #[.int .u64 0, .int .u64 0, .int .u64 0, .int .u64 0, .bool a0]) w := by kernel_rfl
theorem bd92_z  (w : World) : (Instr.build 92 #[]).run Tryz.prog w = .ok (.agg #[.int .u64 0, .int .u64 0, .int .u64 0, .int .u64 0, .bool false]) w := by kernel_rfl
theorem bs26_1_0 (a0 : Option Addr) (a0n a0c : Nat) (w : World) : (Instr.buildSlice 26 1 #[(0, .slice a0 a0n a0c)]).run Tryz.prog w = .ok (.slice (some ⟨w.heap.size, 0, none⟩) 1 1) (w.alloc (Cl [.slice a0 a0n a0c] 42)) := by kernel_rfl
theorem bs27_1_0 (a0 : Bool) (w : World) : (Instr.buildSlice 27 1 #[(0, .bool a0)]).run Tryz.prog w = .ok (.slice (some ⟨w.heap.size, 0, none⟩) 1 1) (w.alloc (Cl [.bool a0] 4)) := by kernel_rfl
theorem bs94_1_0 (a0 : Int) (a1 : Int) (a2 : Int) (a3 : Int) (a4 : Bool) (w : World) : (Instr.buildSlice 94 1 #[(0, .agg #[.int .u64 a0, .int .u64 a1, .int .u64 a2, .int .u64 a3, .bool a4])]).run Tryz.prog w = .ok (.slice (some ⟨w.heap.size, 0, none⟩) 1 1) (w.alloc (Cl [.int .u64 a0, .int .u64 a1, .int .u64 a2, .int .u64 a3, .bool a4] 92)) := by kernel_rfl
theorem Dc (b o : Nat) (w : World) : (Instr.fieldAt 29 (.pointer (some ⟨b, o, none⟩)) 1).run Tryz.prog w = .ok (.pointer (some ⟨b, o + 1, none⟩)) w := by kernel_rfl
theorem Dn (b o : Nat) (w : World) : (Instr.fieldAt 29 (.pointer (some ⟨b, o, none⟩)) 2).run Tryz.prog w = .ok (.pointer (some ⟨b, o + 2, none⟩)) w := by kernel_rfl
theorem fa92_1 (b o : Nat) (w : World) : (Instr.fieldAt 92 (.pointer (some ⟨b, o, none⟩)) 1).run Tryz.prog w = .ok (.pointer (some ⟨b, o + 4, none⟩)) w := by kernel_rfl
theorem loc1 {a : Nat × Obj} {X : List (Nat × Obj)} : LocL (a :: X) [a] X (fun M' => M' ++ X) := show LocL ([a] ++ X) _ _ _ from .h
theorem cs_row {w0 : World} {H : List (Nat × Obj)} {n b M : Nat} {r : List Nat} (h : r.length = M) (hc : Cells w0 H n 0 [.slice (some ⟨b, 0, none⟩) M M]) : Cells w0 H n 0 (encRow ⟨.blk b M [], r⟩) := by
 subst h; exact hc
theorem cs_b1 {w0 : World} {H : List (Nat × Obj)} {n : Nat} {a b : Bool} (h : b = a) (hc : Cells w0 H n 0 [.bool a]) : Cells w0 H n 0 (encB1 b) := by
 subst h; exact hc
def BuildS (w0 : World) (leastF : PM → PM) : Prop := ∀ (H : List (Nat × Obj)) (m : Rxm) (e : Re), Is m e → RxM w0 H m → e.lv ≤ 64 →
  FSpec Tryz.prog w0 12 #[.agg (encRx m).toArray] H (fun v H' => ∃ y : Sl × MX, (v = .tuple #[.agg #[slV y.1 (buildF leastF e).1.names.length, slV y.2.1 y.2.2.2.length, slV y.2.2.1 (buildF leastF e).1.acc.length], .int .i64 (buildF leastF e).2] ∧ SlOk y.1 (buildF leastF e).1.names.length 1 ∧ OutOk y.2 (buildF leastF e).1.next (buildF leastF e).1.acc) ∧ H' = mOut y.2 (buildF leastF e).1.acc (slH y.1 ((buildF leastF e).1.names.flatMap encS) 9 ++ H))
theorem build_s {w0 : World} {leastF : PM → PM} (hL : LeastS w0 leastF) : BuildS w0 leastF := by
 intro H m e hI hM hl
 obtain ⟨hx1, hx2, hx3, hx4⟩ := Cx e Dm (by show 0 + e.lv ≤ 64; omega)
 have hxw := add_low e Dm (by show 0 + e.lv ≤ 64; omega) t00_low
 have hp : 2 ^ (t00.names.length + e.lv) ≤ 2 ^ 64 := Nat.pow_le_pow_right (by omega) (by show 0 + e.lv ≤ 64; omega)
 rw [← hx2] at hx3 hx4 hp
 have hln := letF_few hl
 refine A7 Tryz.func12 U ntmps12 U (Ah (Ab (e_ (Bf (T U) cs_) ?_ U)))
 rintro _ _ ⟨n1, rfl, rfl⟩
 refine e_ (Ap zeroValue29 cs_) ?_ U
 rintro _ _ ⟨n2, rfl, rfl⟩
 refine y_ (Ad Ak) (Af (Ac (Ah (Ab (y_ (Bq .nil (bd83_z)) (e_ (Bf (T U) cs_) ?_ U) U))))) U
 rintro _ _ ⟨n17, rfl, rfl⟩
 refine e_ (Ap zeroValue80 cs_) ?_ U
 rintro _ _ ⟨n4, rfl, rfl⟩
 first | refine A0 (As (T U) (T U) sizeOf80) U Ag ?_ | refine A0 (B6 (T U) (T U) U sizeOf80) U Ag ?_ | refine A0 (By (T U) (T U) U sizeOf80) U Ag ?_
 rintro _ _ ⟨rfl, rfl⟩
 refine Af (Ac (Ah (Ab (y_ (Ai (T U) isAgg80 (by first | exact c_o)) ?_ U))))
 refine y_ (Am (T U) isAgg24 sizeOf24 U (by first | exact Bc)) ?_ U
 refine e_ (Av (.cons (T U) (.cons (T U) .nil)) call46 (Bn (trH n17 .nil .nil t00) loc_t0 (add_s hI _ n17 .nil .nil t00 (hM.mono sbt) U U Dm (by show 0 + e.lv ≤ 64; omega)))) ?_ U
 rintro _ _ ⟨⟨e1, e2⟩, ⟨rfl, ho1, ho2⟩, rfl⟩
 refine e_ (Ap zeroValue88 cs_) ?_ U
 rintro _ _ ⟨n5, rfl, rfl⟩
 first | refine A0 (As (T U) (T U) sizeOf88) U Ag ?_
 rintro _ _ ⟨rfl, rfl⟩
 refine Af (Ac (Ah (Ab (y_ (Am (T U) isAgg24 sizeOf24 U (by first | exact Bc)) ?_ U))))
 refine e_ (Av (.cons (T U) .nil) call47 (letters_s hI hl _ (hM.mono sbt))) ?_ U
 rintro _ _ ⟨dn, ⟨rfl, hdn⟩, rfl⟩
 refine y_ (Bq (.cons (T U) .nil) (bd29_0 _ _ _)) (e_ (Ap zeroValue29 cs_) ?_ U) U
 rintro _ _ ⟨n6, rfl, rfl⟩
 first | refine A0 (As (T U) (T U) sizeOf29) U Ag ?_
 rintro _ _ ⟨rfl, rfl⟩
 refine Af (Ac (Ah (Ab (e_ eff_makeMap ?_ U))))
 rintro _ _ ⟨n24, rfl, rfl⟩
 refine y_ (Bq .nil (bd92_z)) (e_ (eff_insert (l := []) (encV := encIv) s00 0 (keySt (V := Nat)) (T U) (T U) U Ak U runUnderlying93) ?_ U) U
 rintro _ _ ⟨rfl, rfl⟩
 refine y_ (Ae (T U)) (y_ (Ad (T U)) (Af (Ac (Ah (Ab (y_ (Bq .nil (bd92_z)) (e_ (An (.cons (T U) .nil) (bs94_1_0 _ _ _ _ _)) ?_ U) U))))) U) U
 rintro _ _ ⟨n28, rfl, rfl⟩
 refine y_ (Ad (T U)) (Af (Ac (Bt [(2, _), (4, _), (5, _), (6, _), (7, _), (8, _)] ⟨Aa U, Aa U, Aa U, Aa U, Aa U, Aa U, trivial⟩ (Ah (Ah (Ab (y_ (Ad Ak) (Af (Ac (A2 ?_))) U))))))) U
 refine Cn (X := Nat × List St × List Row × List Bool × Sl × Sl × Sl) (V := fun ⟨k, l, rows, acc, d8, dx, da⟩ => [(9, .int .i64 (k : Nat)), (8, slV d8 l.length)]) (C := [(2, _), (4, _), (5, _), (6, _), (7, _)]) (G := fun ⟨k, l, rows, acc, d8, dx, da⟩ => rowsH rows ++ (slH d8 (l.flatMap encSt) 92 ++ ((n24, mapO encStK encIv (zipM l)) :: (n6, Cl [slV dn (letF e).length, slV dx rows.length, slV da acc.length] 29) :: (slH dx (rows.flatMap encRow) 42 ++ (slH da (acc.flatMap encB1) 4 ++ (slH dn ((letF e).flatMap encS) 9 ++ ((n5, Cl (encEn (addF e t00).2) 88) :: (n4, Cl [.pointer (some ⟨n17, 0, none⟩)] 80) :: (trH n17 e1 e2 (addF e t00).1 ++ (n2, Cl [.slice none 0 0, .slice none 0 0, .slice none 0 0] 29) :: (n1, Cl (encRx m) 24) :: H)))))))) (φ := fun ⟨k, l, rows, acc, d8, dx, da⟩ => RawInv (addF e t00).1 (addF e t00).2 (letF e) k l (rows.map Row.l) acc ∧ SlOk d8 l.length 5 ∧ SlOk dx rows.length 1 ∧ SlOk da acc.length 1 ∧ (∀ r ∈ rows, SlOk r.d r.l.length 1) ∧ rawGo (addF e t00).1 (addF e t00).2 (letF e) (201 - k) k l (rows.map Row.l) acc = rawF e) (μ := fun ⟨k, l, rows, acc, d8, dx, da⟩ => 201 - k) (x0 := (0, [s00], [], [], .blk n28 1 [], .nil, .nil)) ?_ ⟨Aa rfl, Aa rfl, Aa rfl, Aa rfl, Aa rfl, trivial⟩ ⟨(by first | exact Aa rfl | (refine Aj (Aa rfl) (vint ?_); omega) | (refine Aj (Aa rfl) ?_; simp; done) | (refine Aj (Aa rfl) ?_; exact by simp only [hrow, List.length_append, List.length_cons, List.length_nil])), (by first | exact Aa rfl | (refine Aj (Aa rfl) (vint ?_); omega) | (refine Aj (Aa rfl) ?_; simp; done) | (refine Aj (Aa rfl) ?_; exact by simp only [hrow, List.length_append, List.length_cons, List.length_nil])), trivial⟩ sb0 ?_
 ·exact ⟨raw_start _ _ _, ⟨Nat.le_refl _, rfl⟩, rfl, rfl, (fun r hr => by cases hr), rfl⟩
 rintro ⟨k, l, rows, acc, d8, dx, da⟩ ⟨hinv, hd8, hox, hoa, hor, hgo⟩
 have hkl := hinv.kl
 have hfw := hinv.few
 have hrl0 := hinv.rl
 rw [List.length_map] at hrl0
 have hal0 := hinv.al
 refine Ah (Ah (Ab (y_ (Ae (T U)) (y_ (Ae (T U)) (y_ (Bw (T U) runUnderlying94) (y_ (B4 (T U) (T U)) (Af (Ac ?_)) U) U) U) U)))
 first | refine Au (Aa U) (fun c32 => ?_) (fun c32 => ?_) | refine Bb (Aa U) (fun c32 => ?_) (fun c32 => ?_)
 ·refine A9 (Ac (Ah (A2 (Ah (Ab (y_ (Bp (T U) Dq) ?_ U))))))
  refine y_ (Am (T U) isAgg86 sizeOf86 U (by first | exact Ck (o := 0) (k := 4) fdd | exact Bc)) ?_ U
  refine e_ (Ap zeroValue86 cs_) ?_ U
  rintro _ _ ⟨n10, rfl, rfl⟩
  first | refine A0 (As (T U) (T U) sizeOf86) U Ag ?_
  rintro _ _ ⟨rfl, rfl⟩
  refine Af (Ac ?_)
  refine j_cutC (X := Unit) (V := fun _ => []) (C := [(2, _), (4, _), (5, _), (6, _), (7, _), (8, _), (9, _), (10, _)]) (G := fun _ => (n10, Cl (encSet (canAt (addF e t00).1 (addF e t00).2 (gd l k))) 86) :: (rowsH rows ++ (slH d8 (l.flatMap encSt) 92 ++ ((n24, mapO encStK encIv (zipM l)) :: (n6, Cl [slV dn (letF e).length, slV dx rows.length, slV da acc.length] 29) :: (slH dx (rows.flatMap encRow) 42 ++ (slH da (acc.flatMap encB1) 4 ++ (slH dn ((letF e).flatMap encS) 9 ++ ((n5, Cl (encEn (addF e t00).2) 88) :: (n4, Cl [.pointer (some ⟨n17, 0, none⟩)] 80) :: (trH n17 e1 e2 (addF e t00).1 ++ (n2, Cl [.slice none 0 0, .slice none 0 0, .slice none 0 0] 29) :: (n1, Cl (encRx m) 24) :: H))))))))) (φ := fun _ => True) ⟨Aa U, Aa U, Aa U, Aa U, Aa U, Aa U, Aa U, Aa U, trivial⟩ ?_ ?_
  ·refine Ah (Ab (y_ (Ae (T U)) (y_ (Ae (T U)) (y_ (Bh (T U) (T U) runUnderlying94 sizeOf92 (by omega) (by first | exact rfl | exact hd8.bas (by omega) | exact hd8i.bas (by omega))) ?_ U) U) U))
   refine y_ (Bk (T U) fa92_1) (y_ (Ai (T U) isAgg4 (by first | exact c_o | exact ((Bz (X := H) (enc := encSt) (sz := 5) (e := 92) (l := l) (fun _ => rfl) hd8).mono sbt).f (i := k) (by omega) U)) ?_ U) U
   refine Af (Ac ?_)
   first | refine Au (Aa U) (fun c41 => ?_) (fun c41 => ?_) | refine Bb (Aa U) (fun c41 => ?_) (fun c41 => ?_)
   ·have hce : (canAt (addF e t00).1 (addF e t00).2 (gd l k)) = orK (addF e t00).1.fol (gd l k).1 256 := by unfold canAt; rw [if_pos c41]
    refine Ah (Ab (y_ (Bq .nil (bd86_z)) ?_ U))
    first | refine A0 (As (T U) (T U) sizeOf86) U Ag ?_
    rintro _ _ ⟨rfl, rfl⟩
    refine Af (Ac (Ab (y_ (Ae (T U)) (y_ (Ae (T U)) (y_ (Bh (T U) (T U) runUnderlying94 sizeOf92 (by omega) (by first | exact rfl | exact hd8.bas (by omega) | exact hd8i.bas (by omega))) ?_ U) U) U)))
    refine y_ (Bp (T U) fa92_0) (y_ (Am (T U) isAgg86 sizeOf86 U (by first | exact cells_take (k := 4) (((Bz (X := H) (enc := encSt) (sz := 5) (e := 92) (l := l) (fun _ => rfl) hd8).mono sbt).cs (i := k) (by omega)) | exact Bc)) ?_ U) U
    refine y_ (Cc (.cons (T U) (.cons (T U) .nil))) ?_ U
    refine e_ (Av (.cons (T U) (.cons (T U) .nil)) call48 (Bn [(n10, Cl (encSet 0) 86)] loc1 (b1E_s n17 n4 n10 e1 e2 (addF e t00).1 (gd l k).1 hx1 hxw (hinv.low _ (A1 (by omega))) ((tr_r (R := H) ho1 ho2).mono sbt) fdd))) ?_ U
    rintro _ _ ⟨_, _, rfl⟩
    refine Af (Bl (()) ?_ trivial ⟨Aa U, Aa U, Aa U, Aa U, Aa U, Aa U, Aa U, Aa U, trivial⟩ (by simp only [hce]; exact sbt))
    trivial
   ·have hce : (canAt (addF e t00).1 (addF e t00).2 (gd l k)) = (addF e t00).2.first := by unfold canAt; rw [if_neg (by rw [c41]; decide)]
    refine A9 (Bl (()) ?_ trivial ⟨Aa U, Aa U, Aa U, Aa U, Aa U, Aa U, Aa U, Aa U, trivial⟩ (by simp only [hce]; exact sbt))
    trivial
  rintro _ _
  have hcan := canAt_lt hx1 hxw hx3 (hinv.low _ (A1 (show k < l.length by omega)))
  refine Ah (Ab (y_ (Bp (T U) fa29_0) (y_ (Ai (T U) isAgg25 (by first | exact c_o)) ?_ U) U))
  refine y_ (Bw (T U) runUnderlying25) (y_ (Bv (T U) Ak (by omega)) ?_ U) U
  refine e_ (eff_makeSlice (by' := 8) (k := ((letF e).length + 1)) (T U) runUnderlying42 sizeOf3 typeInfo3 U zeroValue3 U (by omega) (by omega)) ?_ U
  rintro _ _ ⟨n54, rfl, rfl⟩
  refine y_ (Ad (T U)) (Af (Ac (Ah (Ah (Ab (y_ (Ae (T U)) (y_ (Bw (T U) runUnderlying42) (y_ (Ae Ak) (Af (Ac (A2 ?_))) U) U) U)))))) U
  refine Cn (X := Nat × Sl) (V := fun ⟨a, d8⟩ => [(57, .int .i64 (a : Nat)), (8, slV d8 (rowF (addF e t00).1 (letF e) (canAt (addF e t00).1 (addF e t00).2 (gd l k)) l a).1.length)]) (C := [(2, _), (4, _), (5, _), (6, _), (7, _), (9, _), (10, _), (11, _), (56, _)]) (G := fun ⟨a, d8⟩ => (n54, Cl ((rowF (addF e t00).1 (letF e) (canAt (addF e t00).1 (addF e t00).2 (gd l k)) l a).2.flatMap encU ++ List.replicate (((letF e).length + 1) - (rowF (addF e t00).1 (letF e) (canAt (addF e t00).1 (addF e t00).2 (gd l k)) l a).2.length) (.int .i64 0)) 3) :: (n10, Cl (encSet (canAt (addF e t00).1 (addF e t00).2 (gd l k))) 86) :: (rowsH rows ++ (slH d8 ((rowF (addF e t00).1 (letF e) (canAt (addF e t00).1 (addF e t00).2 (gd l k)) l a).1.flatMap encSt) 92 ++ ((n24, mapO encStK encIv (zipM (rowF (addF e t00).1 (letF e) (canAt (addF e t00).1 (addF e t00).2 (gd l k)) l a).1)) :: (n6, Cl [slV dn (letF e).length, slV dx rows.length, slV da acc.length] 29) :: (slH dx (rows.flatMap encRow) 42 ++ (slH da (acc.flatMap encB1) 4 ++ (slH dn ((letF e).flatMap encS) 9 ++ ((n5, Cl (encEn (addF e t00).2) 88) :: (n4, Cl [.pointer (some ⟨n17, 0, none⟩)] 80) :: (trH n17 e1 e2 (addF e t00).1 ++ (n2, Cl [.slice none 0 0, .slice none 0 0, .slice none 0 0] 29) :: (n1, Cl (encRx m) 24) :: H))))))))) (φ := fun ⟨a, d8⟩ => a ≤ ((letF e).length + 1) ∧ SlOk d8 (rowF (addF e t00).1 (letF e) (canAt (addF e t00).1 (addF e t00).2 (gd l k)) l a).1.length 5) (μ := fun ⟨a, d8⟩ => ((letF e).length + 1) - a) (x0 := (0, d8)) ?_ ⟨Aa rfl, Aa rfl, Aa rfl, Aa rfl, Aa rfl, Aa rfl, Aa rfl, Aa rfl, Aa rfl, trivial⟩ ⟨(by first | exact Aa rfl | (refine Aj (Aa rfl) (vint ?_); omega) | (refine Aj (Aa rfl) ?_; simp; done) | (refine Aj (Aa rfl) ?_; exact by simp only [hrow, List.length_append, List.length_cons, List.length_nil])), (by first | exact Aa rfl | (refine Aj (Aa rfl) (vint ?_); omega) | (refine Aj (Aa rfl) ?_; simp; done) | (refine Aj (Aa rfl) ?_; exact by simp only [hrow, List.length_append, List.length_cons, List.length_nil])), trivial⟩ sb0 ?_
  ·exact ⟨Nat.zero_le _, hd8⟩
  rintro ⟨a, d8⟩ ⟨ha, hd8i⟩
  have hrl := rowF_len (addF e t00).1 (letF e) (canAt (addF e t00).1 (addF e t00).2 (gd l k)) l a
  refine Ah (Ab (y_ (B4 (T U) (T U)) (Af (Ac (Ah ?_))) U))
  first | refine Au (Aa U) (fun c58 => ?_) (fun c58 => ?_) | refine Bb (Aa U) (fun c58 => ?_) (fun c58 => ?_)
  ·have ha2 : a < ((letF e).length + 1) := by omega
   refine A9 (Ac (Ah (A2 (Ah (Ab (y_ (Ae (T U)) (e_ (Ap zeroValue3 cs_) ?_ U) U))))))
   rintro _ _ ⟨n12, rfl, rfl⟩
   first | refine A0 (As (T U) (T U) sizeOf3) U Ag ?_ | refine A0 (B6 (T U) (T U) U sizeOf3) U Ag ?_ | refine A0 (By (T U) (T U) U sizeOf3) U Ag ?_
   rintro _ _ ⟨rfl, rfl⟩
   refine Af (Ac (Ah (Ab (y_ (Bq (.cons Ak .nil) (bd92_1 _)) (e_ (Ap zeroValue92 cs_) ?_ U) U))))
   rintro _ _ ⟨n13, rfl, rfl⟩
   first | refine A0 (As (T U) (T U) sizeOf92) U Ag ?_
   rintro _ _ ⟨rfl, rfl⟩
   refine Af (Ac (Ah (Ab (y_ (Am (T U) isAgg86 sizeOf86 U (by first | exact Bc)) ?_ U))))
   refine y_ (Cc (.cons (T U) (.cons (T U) (.cons (T U) (.cons (T U) .nil))))) ?_ U
   refine e_ (Av (.cons (T U) (.cons (T U) .nil)) call48 (Bn [(n13, Cl (encSt (0, true)) 92)] loc1 (b2E_s n17 n4 n6 n12 n13 e1 e2 dn (slV dx rows.length) (slV da acc.length) (addF e t00).1 (letF e) (canAt (addF e t00).1 (addF e t00).2 (gd l k)) a hx1 hcan ((tr_r (R := H) ho1 ho2).mono sbt) fdd fdd fdd ((Bz (X := H) (enc := encS) (sz := 1) (e := 9) (fun _ => rfl) hdn).mono sbt)))) ?_ U
   rintro _ _ ⟨_, _, rfl⟩
   refine Af (Ac ?_)
   refine j_cutC (X := Sl) (V := fun g8 => [(8, slV g8 (rowF (addF e t00).1 (letF e) (canAt (addF e t00).1 (addF e t00).2 (gd l k)) l (a + 1)).1.length)]) (C := [(2, _), (4, _), (5, _), (6, _), (7, _), (9, _), (10, _), (11, _), (12, _), (13, _), (56, _), (57, _)]) (G := fun g8 => (n13, Cl (encSt (stepL (addF e t00).1 (letF e) (canAt (addF e t00).1 (addF e t00).2 (gd l k)) a 256, true)) 92) :: (n12, Cl [.int .i64 (a : Int)] 3) :: (n54, Cl ((rowF (addF e t00).1 (letF e) (canAt (addF e t00).1 (addF e t00).2 (gd l k)) l a).2.flatMap encU ++ List.replicate (((letF e).length + 1) - (rowF (addF e t00).1 (letF e) (canAt (addF e t00).1 (addF e t00).2 (gd l k)) l a).2.length) (.int .i64 0)) 3) :: (n10, Cl (encSet (canAt (addF e t00).1 (addF e t00).2 (gd l k))) 86) :: (rowsH rows ++ (slH g8 ((rowF (addF e t00).1 (letF e) (canAt (addF e t00).1 (addF e t00).2 (gd l k)) l (a + 1)).1.flatMap encSt) 92 ++ ((n24, mapO encStK encIv (zipM (rowF (addF e t00).1 (letF e) (canAt (addF e t00).1 (addF e t00).2 (gd l k)) l (a + 1)).1)) :: (n6, Cl [slV dn (letF e).length, slV dx rows.length, slV da acc.length] 29) :: (slH dx (rows.flatMap encRow) 42 ++ (slH da (acc.flatMap encB1) 4 ++ (slH dn ((letF e).flatMap encS) 9 ++ ((n5, Cl (encEn (addF e t00).2) 88) :: (n4, Cl [.pointer (some ⟨n17, 0, none⟩)] 80) :: (trH n17 e1 e2 (addF e t00).1 ++ (n2, Cl [.slice none 0 0, .slice none 0 0, .slice none 0 0] 29) :: (n1, Cl (encRx m) 24) :: H))))))))) (φ := fun g8 => SlOk g8 (rowF (addF e t00).1 (letF e) (canAt (addF e t00).1 (addF e t00).2 (gd l k)) l (a + 1)).1.length 5) ⟨Aa U, Aa U, Aa U, Aa U, Aa U, Aa U, Aa U, Aa U, Aa U, Aa U, Aa U, Aa U, trivial⟩ ?_ ?_
   ·refine Ah (Ab (y_ (Ae (T U)) (y_ (Am (T U) isAgg92 sizeOf92 U (by first | exact Bc)) ?_ U) U))
    refine y_ (yl_lookSt (l := (rowF (addF e t00).1 (letF e) (canAt (addF e t00).1 (addF e t00).2 (gd l k)) l a).1) (s := (stepL (addF e t00).1 (letF e) (canAt (addF e t00).1 (addF e t00).2 (gd l k)) a 256, true)) (T U) (T U) U fdd) ?_ U
    refine y_ (Ae (T U)) (y_ (Ay (T U) U) (y_ (Ay (T U) U) (y_ (Ad (T U)) (y_ (Ad (T U)) (Af (Ac (Bt [(2, _), (4, _), (5, _), (6, _), (7, _), (8, _), (9, _), (10, _), (11, _), (12, _), (13, _), (15, _), (56, _), (57, _)] ⟨Aa U, Aa U, Aa U, Aa U, Aa U, Aa U, Aa U, Aa U, Aa U, Aa U, Aa U, Aa U, Aa U, Aa U, trivial⟩ (Ah (Ab (y_ (Ae (T U)) ?_ U)))))) U) U) U) U) U
    first | refine Bg (Ct (T U)) U Ag ?_ | refine Bg (C2 (T U)) U Ag ?_
    refine Af (Ac ?_)
    first | refine Au (Aa U) (fun c71 => ?_) (fun c71 => ?_) | refine Bb (Aa U) (fun c71 => ?_) (fun c71 => ?_)
    ·have hrow : (rowF (addF e t00).1 (letF e) (canAt (addF e t00).1 (addF e t00).2 (gd l k)) l (a + 1)).1 = (rowF (addF e t00).1 (letF e) (canAt (addF e t00).1 (addF e t00).2 (gd l k)) l a).1 ++ [(stepL (addF e t00).1 (letF e) (canAt (addF e t00).1 (addF e t00).2 (gd l k)) a 256, true)] := by rw [rowF_succ]; unfold addSt; rw [if_neg c71]
     refine Ah (Ab (y_ (Ae (T U)) (y_ (Am (T U) isAgg92 sizeOf92 U (by first | exact Bc)) ?_ U) U))
     refine y_ (Ae (T U)) (y_ (Bw (T U) runUnderlying94) (e_ (eff_mapUpdate (l := zipM (rowF (addF e t00).1 (letF e) (canAt (addF e t00).1 (addF e t00).2 (gd l k)) l a).1) (encV := encIv) (stepL (addF e t00).1 (letF e) (canAt (addF e t00).1 (addF e t00).2 (gd l k)) a 256, true) (rowF (addF e t00).1 (letF e) (canAt (addF e t00).1 (addF e t00).2 (gd l k)) l a).1.length (keySt (V := Nat)) (T U) (T U) U (T U) U runUnderlying93) ?_ U) U) U
     rintro _ _ ⟨rfl, rfl⟩
     rw [upsert_zipM c71]
     refine Af (Ac (Ab (y_ (Ae (T U)) (y_ (Am (T U) isAgg92 sizeOf92 U (by first | exact Bc)) ?_ U) U)))
     refine e_ (An (.cons (T U) .nil) (bs94_1_0 _ _ _ _ _)) ?_ U
     rintro _ _ ⟨n78, rfl, rfl⟩
     refine e_ (Bi ((stepL (addF e t00).1 (letF e) (canAt (addF e t00).1 (addF e t00).2 (gd l k)) a 256, true)) (by' := 40) (by repeat (first | exact LocL.h | apply LocL.t | apply LocL.a)) (T U) (T U) runUnderlying94 runUnderlying94 sizeOf92 typeInfo92 U zeroValue92 U (fun _ => rfl) U hd8i (by decide) (by omega)) ?_ U
     rintro _ _ ⟨d8', rfl, hok8, rfl⟩
     refine y_ (Ad (T U)) (Af ?_) U
     refine Bl (d8') ?_ ⟨(by first | exact Aa U | (refine Aj (Aa U) (vint ?_); omega) | (refine Aj (Aa U) ?_; simp; done) | (refine Aj (Aa U) ?_; exact by simp only [hrow, List.length_append, List.length_cons, List.length_nil])), trivial⟩ ⟨Aa U, Aa U, Aa U, Aa U, Aa U, Aa U, Aa U, Aa U, Aa U, Aa U, Aa U, Aa U, trivial⟩ (by simp only [hrow]; exact sbt)
     first | (rw [hrow]; simpa using hok8) | (rw [hrow]; exact hd8i)
    ·have hrow : (rowF (addF e t00).1 (letF e) (canAt (addF e t00).1 (addF e t00).2 (gd l k)) l (a + 1)).1 = (rowF (addF e t00).1 (letF e) (canAt (addF e t00).1 (addF e t00).2 (gd l k)) l a).1 := by rw [rowF_succ]; unfold addSt; rw [if_pos (Classical.not_not.1 c71)]
     refine A9 ?_
     refine Bl (d8) ?_ ⟨(by first | exact Aa U | (refine Aj (Aa U) (vint ?_); omega) | (refine Aj (Aa U) ?_; simp; done) | (refine Aj (Aa U) ?_; exact by simp only [hrow, List.length_append, List.length_cons, List.length_nil])), trivial⟩ ⟨Aa U, Aa U, Aa U, Aa U, Aa U, Aa U, Aa U, Aa U, Aa U, Aa U, Aa U, Aa U, trivial⟩ (by simp only [hrow]; exact sbt)
     first | (rw [hrow]; simpa using hok8) | (rw [hrow]; exact hd8i)
   rintro g8 hg8
   have hmem : (stepL (addF e t00).1 (letF e) (canAt (addF e t00).1 (addF e t00).2 (gd l k)) a 256, true) ∈ (rowF (addF e t00).1 (letF e) (canAt (addF e t00).1 (addF e t00).2 (gd l k)) l (a + 1)).1 := by rw [rowF_succ]; exact mem_addSt _ _
   refine Cv 6 [(0, true), (1, true), (2, true), (3, true), (4, true), (5, true)] _ mixd (by kernel_rfl) sb0 ?_
   refine o_y U (Ae (T U)) (o_y U (Ai (T U) isAgg3 (by first | exact c_o)) ?_ U Ag) U Ag
   refine o_y U (Ae (T U)) (o_y U (Am (T U) isAgg92 sizeOf92 U (by first | exact Bc)) ?_ U Ag) U Ag
   refine o_y U (yl_lookSt1 (l := (rowF (addF e t00).1 (letF e) (canAt (addF e t00).1 (addF e t00).2 (gd l k)) l (a + 1)).1) (s := (stepL (addF e t00).1 (letF e) (canAt (addF e t00).1 (addF e t00).2 (gd l k)) a 256, true)) hmem (T U) (T U) U fdd) ?_ U Ag
   refine o_y U (Bh (T U) (T U) runUnderlying42 sizeOf3 (by omega) (by first | exact rfl | exact hd8.bas (by omega) | exact hd8i.bas (by omega))) ?_ U Ag
   refine B5 U (e_ (eff_sRow (m := ((letF e).length + 1)) (v := idx (rowF (addF e t00).1 (letF e) (canAt (addF e t00).1 (addF e t00).2 (gd l k)) l (a + 1)).1 (stepL (addF e t00).1 (letF e) (canAt (addF e t00).1 (addF e t00).2 (gd l k)) a 256, true)) (rowF (addF e t00).1 (letF e) (canAt (addF e t00).1 (addF e t00).2 (gd l k)) l a).2 hrl.1.symm (T U) (T U) sizeOf3 (by omega) (by (repeat (first | exact Upd.h | apply Upd.t | apply Dz)); done)) ?_ U)
   rintro _ _ ⟨rfl, rfl⟩
   refine Af (Bm (Ac (Ab (y_ (Bv (T U) Ak (by omega)) ?_ U))))
   refine y_ (Ae (T U)) (Af ?_) U
   have hrow2 : (rowF (addF e t00).1 (letF e) (canAt (addF e t00).1 (addF e t00).2 (gd l k)) l (a + 1)).2 = (rowF (addF e t00).1 (letF e) (canAt (addF e t00).1 (addF e t00).2 (gd l k)) l a).2 ++ [idx (rowF (addF e t00).1 (letF e) (canAt (addF e t00).1 (addF e t00).2 (gd l k)) l (a + 1)).1 (stepL (addF e t00).1 (letF e) (canAt (addF e t00).1 (addF e t00).2 (gd l k)) a 256, true)] := by rw [rowF_succ]; simp only [idx_addSt]
   refine Bs ((a + 1, g8)) ?_ ?_ ⟨(by first | exact Aa U | (refine Aj (Aa U) (vint ?_); omega) | (refine Aj (Aa U) ?_; simp; done) | (refine Aj (Aa U) ?_; exact by simp only [hrow, List.length_append, List.length_cons, List.length_nil])), (by first | exact Aa U | (refine Aj (Aa U) (vint ?_); omega) | (refine Aj (Aa U) ?_; simp; done) | (refine Aj (Aa U) ?_; exact by simp only [hrow, List.length_append, List.length_cons, List.length_nil])), trivial⟩ ⟨Aa U, Aa U, Aa U, Aa U, Aa U, Aa U, Aa U, Aa U, Aa U, trivial⟩ ?_
   ·exact ⟨by omega, hg8⟩
   ·first | omega | (simp only []; omega)
   ·simp only [hrow2, List.length_append, List.length_cons, List.length_nil, Nat.zero_add]; exact sbt
  ·have ha2 : a = ((letF e).length + 1) := by omega
   subst ha2
   have hrm := hrl.1
   have hgk := rowF_get (addF e t00).1 (letF e) (canAt (addF e t00).1 (addF e t00).2 (gd l k)) l (k := k) (by omega) ((letF e).length + 1)
   have hlk : (gd (rowF (addF e t00).1 (letF e) (canAt (addF e t00).1 (addF e t00).2 (gd l k)) l ((letF e).length + 1)).1 k).1 < 2 ^ (addF e t00).1.names.length := by rw [hgk]; exact hinv.low _ (A1 (by omega))
   refine B7 (A4 (A8 (Ba (Ac (Ah (Ah (Ab (y_ (Ae (T U)) (y_ (Bw (T U) runUnderlying94) (y_ (yl_gtr (T U) Ak) (Af (Ac ?_)) U) U) U))))))))
   first | refine Au (Aa U) (fun c89 => ?_) (fun c89 => ?_) | refine Bb (Aa U) (fun c89 => ?_) (fun c89 => ?_)
   ·have hnone : rawF e = none := by rw [← hgo, show 201 - k = (200 - k) + 1 by have := hinv.kl; have := hinv.few; omega, rawGo_succ, if_pos (by omega), if_pos (by omega)]
    refine Ah (Ab (y_ (Bq .nil (bd29_z)) ?_ U))
    first | refine A0 (As (T U) (T U) sizeOf29) U Ag ?_
    rintro _ _ ⟨rfl, rfl⟩
    refine y_ (Ad Ak) (Af (Ac (A5 (Ao (Aw (Ao (B9 (Aw (Ao (A6 U (.cellA (Aa U) isAgg29 sizeOf29 U (by first | exact Bc) (.tmp (Aa U) .nil)) ?_)))))))))) U
    have hb : buildF leastF e = (⟨[], [], []⟩, 2) := by unfold buildF; rw [hnone]
    rw [hb]
    exact ⟨_, ⟨(.nil, .nil, .nil, []), ⟨rfl, rfl, rfl, rfl, rfl, (fun r hr => by cases hr)⟩, rfl⟩, sbt⟩
   ·refine A9 (Ac (Ah (Ab (y_ (Bk (T U) Dc) (y_ (Ai (T U) isAgg26 (by first | exact c_o)) ?_ U) U))))
    refine y_ (Ae (T U)) (e_ (An (.cons (T U) .nil) (bs26_1_0 _ _ _)) ?_ U) U
    rintro _ _ ⟨n94, rfl, rfl⟩
    refine e_ (Bi ((⟨.blk n54 ((letF e).length + 1) [], (rowF (addF e t00).1 (letF e) (canAt (addF e t00).1 (addF e t00).2 (gd l k)) l ((letF e).length + 1)).2⟩ : Row)) (by' := 24) (by repeat (first | exact LocL.h | apply LocL.t | apply LocL.a)) (T U) (T U) runUnderlying26 runUnderlying26 sizeOf42 typeInfo42 U zeroValue42 U (fun _ => rfl) U hox (by decide) (by omega) (hn := cs_row hrm Bc)) ?_ U
    rintro _ _ ⟨dx', rfl, hokx, rfl⟩
    refine y_ (Bk (T U) Dc) ?_ U
    first | refine A0 (As (T U) (T U) sizeOf26) U Ag ?_ | refine A0 (B6 (T U) (T U) U sizeOf26) U Ag ?_ | refine A0 (By (T U) (T U) U sizeOf26) U Ag ?_
    rintro _ _ ⟨rfl, rfl⟩
    refine Af (Ac (Cv 19 [(0, true), (1, true), (2, true), (3, true), (4, true), (5, true), (6, true), (7, true), (8, true), (9, true), (10, true), (11, true), (12, true), (13, true), (14, true), (15, true), (16, true), (17, true), (18, false)] _ mixd (by kernel_rfl) (by exact sbt) ?_))
    refine o_y U (Bk (T U) Dn) (o_y U (Ai (T U) isAgg27 (by first | exact c_o)) ?_ U Ag) U Ag
    refine o_y U (Ae (T U)) (o_y U (Ae (T U)) (o_y U (Bh (T U) (T U) runUnderlying94 sizeOf92 (by omega) (by first | exact rfl | exact hd8.bas (by omega) | exact hd8i.bas (by omega))) ?_ U Ag) U Ag) U Ag
    refine o_y U (Bp (T U) fa92_0) (o_y U (Am (T U) isAgg86 sizeOf86 U (by first | exact cells_take (k := 4) (((Bz (X := H) (enc := encSt) (sz := 5) (e := 92) (l := (rowF (addF e t00).1 (letF e) (canAt (addF e t00).1 (addF e t00).2 (gd l k)) l ((letF e).length + 1)).1) (fun _ => rfl) hd8i).mono sbt).cs (i := k) (by omega)) | exact Bc)) ?_ U Ag) U Ag
    refine o_y U (Bk (T U) Dg) ?_ U Ag
    refine o_y U (Am (T U) isAgg86 sizeOf86 U (by first | exact Ck (o := 4) (k := 4) fdd | exact Bc)) ?_ U Ag
    refine o_y U (Aq (.cons (T U) (.cons (T U) .nil)) call53 (fun H' hs => meets_s _ (Nat.lt_of_lt_of_le hlk hp) _ (by omega))) ?_ U Ag
    refine o_y U (Ae (T U)) ?_ U Ag
    first | refine C9 (s := 107) (Aa U) (fun c107 => ?_) (fun c107 => ?_) | refine Dx (s := 107) (Aa U) (fun c107 => ?_) (fun c107 => ?_)
    ·have hacc : accAt (addF e t00).2 k (gd l k) = true := by unfold accAt; rw [← hgk, decide_eq_true c107]; rfl
     refine o_n U (o_n U (o_n U (o_n U (o_n U (o_n U (o_y U (Az (T U) Ak) (o_e U (An (.cons (T U) .nil) (bs27_1_0 _)) ?_ U Ag) U Ag) U (Bd U U (Aa U))) U (Cg U U (Aa U))) U (Cg U U (Aa U))) U (Bd U U (Aa U))) U (Bd U U (Aa U))) U (Bd U U (Aa U))
     rintro _ _ ⟨n115, rfl, rfl⟩
     refine ⟨sbt, (B5 U (e_ (Bi (accAt (addF e t00).2 k (gd l k)) (by' := 1) (by repeat (first | exact LocL.h | apply LocL.t | apply LocL.a)) (T U) (T U) runUnderlying27 runUnderlying27 sizeOf4 typeInfo4 U zeroValue4 U (fun _ => rfl) U hoa (by decide) (by omega) (hn := cs_b1 hacc Bc)) ?_ U))⟩
     rintro _ _ ⟨da', rfl, hoka, rfl⟩
     refine y_ (Bk (T U) Dn) ?_ U
     first | refine A0 (As (T U) (T U) sizeOf27) U Ag ?_ | refine A0 (B6 (T U) (T U) U sizeOf27) U Ag ?_ | refine A0 (By (T U) (T U) U sizeOf27) U Ag ?_
     rintro _ _ ⟨rfl, rfl⟩
     refine Af (Bm (Ac (Bt [(2, _), (4, _), (5, _), (6, _), (7, _), (8, _), (9, _)] ⟨Aa U, Aa U, Aa U, Aa U, Aa U, Aa U, Aa U, trivial⟩ (Ab (y_ (Ae (T U)) (y_ (Bv (T U) Ak (by omega)) ?_ U) U)))))
     refine y_ (Ad (T U)) (Af ?_) U
     refine Bs ((k + 1, (rowF (addF e t00).1 (letF e) (canAt (addF e t00).1 (addF e t00).2 (gd l k)) l ((letF e).length + 1)).1, rows ++ [(⟨.blk n54 ((letF e).length + 1) [], (rowF (addF e t00).1 (letF e) (canAt (addF e t00).1 (addF e t00).2 (gd l k)) l ((letF e).length + 1)).2⟩ : Row)], acc ++ [accAt (addF e t00).2 k (gd l k)], d8, dx', da')) ?_ ?_ ⟨(by first | exact Aa U | (refine Aj (Aa U) (vint ?_); omega) | (refine Aj (Aa U) ?_; simp; done) | (refine Aj (Aa U) ?_; exact by simp only [hrow, List.length_append, List.length_cons, List.length_nil])), (by first | exact Aa U | (refine Aj (Aa U) (vint ?_); omega) | (refine Aj (Aa U) ?_; simp; done) | (refine Aj (Aa U) ?_; exact by simp only [hrow, List.length_append, List.length_cons, List.length_nil])), trivial⟩ ⟨Aa U, Aa U, Aa U, Aa U, Aa U, trivial⟩ ?_
     ·have hnx := hinv.next hx1 hxw hx3 (by omega) (by omega)
      refine ⟨by rw [List.map_append]; exact hnx, hd8i, by simpa using hokx, by simpa using hoka, ?_, ?_⟩
      ·intro r hr
       simp only [List.mem_append, List.mem_cons, List.not_mem_nil, or_false] at hr
       rcases hr with hr | rfl
       ·exact hor r hr
       ·exact ⟨Nat.le_of_eq hrm, by show 0 = (_ - _) * 1; rw [hrm]; omega⟩
      ·rw [← hgo, List.map_append, show 201 - k = (200 - k) + 1 by omega, rawGo_succ, if_pos (show k < l.length by omega), if_neg (show ¬ 200 < (rowF (addF e t00).1 (letF e) (canAt (addF e t00).1 (addF e t00).2 (gd l k)) l ((letF e).length + 1)).1.length by omega), show 201 - (k + 1) = 200 - k by omega]; rfl
     ·show 201 - (k + 1) < 201 - k; omega
     ·simp only [rowsH_app, slH, hrm, Nat.sub_self, List.replicate_zero, List.length_append, List.length_cons, List.length_nil, Nat.zero_add, List.cons_append, List.nil_append]; exact sbt
    ·refine o_y U (Ae (T U)) (o_y U (B3 (T U) Ak) (o_y U (Ae (T U)) ?_ U (Ax U U (Aa U))) U (Ax U U (Aa U))) U (Ax U U (Aa U))
     first | refine C9 (s := 110) (Aa U) (fun c110 => ?_) (fun c110 => ?_) | refine Dx (s := 110) (Aa U) (fun c110 => ?_) (fun c110 => ?_)
     ·have hacc : accAt (addF e t00).2 k (gd l k) = (addF e t00).2.emp := by unfold accAt; rw [← hgk, decide_eq_false c107, decide_eq_true c110]; rfl
      refine o_y U (Bk (T U) fa88_2) (o_y U (Ai (T U) isAgg4 (by first | exact c_o)) ?_ U (Ax U U (Aa U))) U (Ax U U (Aa U))
      refine o_y U (Az (T U) (T U)) (o_y U (Be (T U) (T U)) (o_e U (An (.cons (T U) .nil) (bs27_1_0 _)) ?_ U Ag) U Ag) U (Ax U U (Aa U))
      rintro _ _ ⟨n115, rfl, rfl⟩
      refine ⟨sbt, (B5 U (e_ (Bi (accAt (addF e t00).2 k (gd l k)) (by' := 1) (by repeat (first | exact LocL.h | apply LocL.t | apply LocL.a)) (T U) (T U) runUnderlying27 runUnderlying27 sizeOf4 typeInfo4 U zeroValue4 U (fun _ => rfl) U hoa (by decide) (by omega) (hn := cs_b1 hacc Bc)) ?_ U))⟩
      rintro _ _ ⟨da', rfl, hoka, rfl⟩
      refine y_ (Bk (T U) Dn) ?_ U
      first | refine A0 (As (T U) (T U) sizeOf27) U Ag ?_ | refine A0 (B6 (T U) (T U) U sizeOf27) U Ag ?_ | refine A0 (By (T U) (T U) U sizeOf27) U Ag ?_
      rintro _ _ ⟨rfl, rfl⟩
      refine Af (Bm (Ac (Bt [(2, _), (4, _), (5, _), (6, _), (7, _), (8, _), (9, _)] ⟨Aa U, Aa U, Aa U, Aa U, Aa U, Aa U, Aa U, trivial⟩ (Ab (y_ (Ae (T U)) (y_ (Bv (T U) Ak (by omega)) ?_ U) U)))))
      refine y_ (Ad (T U)) (Af ?_) U
      refine Bs ((k + 1, (rowF (addF e t00).1 (letF e) (canAt (addF e t00).1 (addF e t00).2 (gd l k)) l ((letF e).length + 1)).1, rows ++ [(⟨.blk n54 ((letF e).length + 1) [], (rowF (addF e t00).1 (letF e) (canAt (addF e t00).1 (addF e t00).2 (gd l k)) l ((letF e).length + 1)).2⟩ : Row)], acc ++ [accAt (addF e t00).2 k (gd l k)], d8, dx', da')) ?_ ?_ ⟨(by first | exact Aa U | (refine Aj (Aa U) (vint ?_); omega) | (refine Aj (Aa U) ?_; simp; done) | (refine Aj (Aa U) ?_; exact by simp only [hrow, List.length_append, List.length_cons, List.length_nil])), (by first | exact Aa U | (refine Aj (Aa U) (vint ?_); omega) | (refine Aj (Aa U) ?_; simp; done) | (refine Aj (Aa U) ?_; exact by simp only [hrow, List.length_append, List.length_cons, List.length_nil])), trivial⟩ ⟨Aa U, Aa U, Aa U, Aa U, Aa U, trivial⟩ ?_
      ·have hnx := hinv.next hx1 hxw hx3 (by omega) (by omega)
       refine ⟨by rw [List.map_append]; exact hnx, hd8i, by simpa using hokx, by simpa using hoka, ?_, ?_⟩
       ·intro r hr
        simp only [List.mem_append, List.mem_cons, List.not_mem_nil, or_false] at hr
        rcases hr with hr | rfl
        ·exact hor r hr
        ·exact ⟨Nat.le_of_eq hrm, by show 0 = (_ - _) * 1; rw [hrm]; omega⟩
       ·rw [← hgo, List.map_append, show 201 - k = (200 - k) + 1 by omega, rawGo_succ, if_pos (show k < l.length by omega), if_neg (show ¬ 200 < (rowF (addF e t00).1 (letF e) (canAt (addF e t00).1 (addF e t00).2 (gd l k)) l ((letF e).length + 1)).1.length by omega), show 201 - (k + 1) = 200 - k by omega]; rfl
      ·show 201 - (k + 1) < 201 - k; omega
      ·simp only [rowsH_app, slH, hrm, Nat.sub_self, List.replicate_zero, List.length_append, List.length_cons, List.length_nil, Nat.zero_add, List.cons_append, List.nil_append]; exact sbt
     ·have hacc : accAt (addF e t00).2 k (gd l k) = false := by unfold accAt; rw [← hgk, decide_eq_false c107, decide_eq_false c110]; rfl
      refine o_n U (o_n U (o_y U (Be (T U) Ak) (o_y U (Be (T U) (T U)) (o_e U (An (.cons (T U) .nil) (bs27_1_0 _)) ?_ U Ag) U Ag) U (Ax U U (Aa U))) U (Cp U U (Aa U))) U (Cp U U (Aa U))
      rintro _ _ ⟨n115, rfl, rfl⟩
      refine ⟨sbt, (B5 U (e_ (Bi (accAt (addF e t00).2 k (gd l k)) (by' := 1) (by repeat (first | exact LocL.h | apply LocL.t | apply LocL.a)) (T U) (T U) runUnderlying27 runUnderlying27 sizeOf4 typeInfo4 U zeroValue4 U (fun _ => rfl) U hoa (by decide) (by omega) (hn := cs_b1 hacc Bc)) ?_ U))⟩
      rintro _ _ ⟨da', rfl, hoka, rfl⟩
      refine y_ (Bk (T U) Dn) ?_ U
      first | refine A0 (As (T U) (T U) sizeOf27) U Ag ?_ | refine A0 (B6 (T U) (T U) U sizeOf27) U Ag ?_ | refine A0 (By (T U) (T U) U sizeOf27) U Ag ?_
      rintro _ _ ⟨rfl, rfl⟩
      refine Af (Bm (Ac (Bt [(2, _), (4, _), (5, _), (6, _), (7, _), (8, _), (9, _)] ⟨Aa U, Aa U, Aa U, Aa U, Aa U, Aa U, Aa U, trivial⟩ (Ab (y_ (Ae (T U)) (y_ (Bv (T U) Ak (by omega)) ?_ U) U)))))
      refine y_ (Ad (T U)) (Af ?_) U
      refine Bs ((k + 1, (rowF (addF e t00).1 (letF e) (canAt (addF e t00).1 (addF e t00).2 (gd l k)) l ((letF e).length + 1)).1, rows ++ [(⟨.blk n54 ((letF e).length + 1) [], (rowF (addF e t00).1 (letF e) (canAt (addF e t00).1 (addF e t00).2 (gd l k)) l ((letF e).length + 1)).2⟩ : Row)], acc ++ [accAt (addF e t00).2 k (gd l k)], d8, dx', da')) ?_ ?_ ⟨(by first | exact Aa U | (refine Aj (Aa U) (vint ?_); omega) | (refine Aj (Aa U) ?_; simp; done) | (refine Aj (Aa U) ?_; exact by simp only [hrow, List.length_append, List.length_cons, List.length_nil])), (by first | exact Aa U | (refine Aj (Aa U) (vint ?_); omega) | (refine Aj (Aa U) ?_; simp; done) | (refine Aj (Aa U) ?_; exact by simp only [hrow, List.length_append, List.length_cons, List.length_nil])), trivial⟩ ⟨Aa U, Aa U, Aa U, Aa U, Aa U, trivial⟩ ?_
      ·have hnx := hinv.next hx1 hxw hx3 (by omega) (by omega)
       refine ⟨by rw [List.map_append]; exact hnx, hd8i, by simpa using hokx, by simpa using hoka, ?_, ?_⟩
       ·intro r hr
        simp only [List.mem_append, List.mem_cons, List.not_mem_nil, or_false] at hr
        rcases hr with hr | rfl
        ·exact hor r hr
        ·exact ⟨Nat.le_of_eq hrm, by show 0 = (_ - _) * 1; rw [hrm]; omega⟩
       ·rw [← hgo, List.map_append, show 201 - k = (200 - k) + 1 by omega, rawGo_succ, if_pos (show k < l.length by omega), if_neg (show ¬ 200 < (rowF (addF e t00).1 (letF e) (canAt (addF e t00).1 (addF e t00).2 (gd l k)) l ((letF e).length + 1)).1.length by omega), show 201 - (k + 1) = 200 - k by omega]; rfl
      ·show 201 - (k + 1) < 201 - k; omega
      ·simp only [rowsH_app, slH, hrm, Nat.sub_self, List.replicate_zero, List.length_append, List.length_cons, List.length_nil, Nat.zero_add, List.cons_append, List.nil_append]; exact sbt
 ·have hpm := hinv.done (by omega)
  have hsome : rawF e = some (rows.map Row.l, acc) := by rw [← hgo, show 201 - k = (200 - k) + 1 by have := hinv.kl; have := hinv.few; omega, rawGo_succ, if_neg (by omega)]
  refine B7 (A4 (A8 (Ba (Ac (Ah (Ab (y_ (Am (T U) isAgg29 sizeOf29 U (by first | exact Bc)) ?_ U)))))))
  refine e_ (Av (.cons (T U) .nil) call54 (least_own hL (x := (dx, da, rows)) (H0 := (slH dn ((letF e).flatMap encS) 9 ++ ((n5, Cl (encEn (addF e t00).2) 88) :: (n4, Cl [.pointer (some ⟨n17, 0, none⟩)] 80) :: (trH n17 e1 e2 (addF e t00).1 ++ (n2, Cl [.slice none 0 0, .slice none 0 0, .slice none 0 0] 29) :: (n1, Cl (encRx m) 24) :: H)))) ⟨hox, hoa, rfl, hor⟩ (by exact sbt) ((Bz (X := H) (enc := encS) (sz := 1) (e := 9) (fun _ => rfl) hdn).mono sbt) hpm hln)) ?_ U
  rintro _ _ ⟨y, ⟨rfl, hoy⟩, rfl⟩
  first | refine A0 (As (T U) (T U) sizeOf29) U Ag ?_
  rintro _ _ ⟨rfl, rfl⟩
  refine y_ (Ad Ak) (Af (Ac (A5 (A6 U (.cellA (Aa U) isAgg29 sizeOf29 U (by first | exact Bc) (.tmp (Aa U) .nil)) ?_)))) U
  have hb : buildF leastF e = (⟨letF e, (leastF ⟨letF e, rows.map Row.l, acc⟩).next, (leastF ⟨letF e, rows.map Row.l, acc⟩).acc⟩, 0) := by unfold buildF; rw [hsome]
  rw [hb]
  exact ⟨_, ⟨(dn, y), ⟨rfl, hdn, hoy⟩, rfl⟩, sbt⟩
end Go.Proofs.YtkdolgnpkjihpaaGreatDoor
namespace Go.Proofs.YtkdolgnpkjihpaaGreatDoor
open _root_.Go.Proofs.Tryz
open Go.RowKit
set_option linter.unusedVariables false
theorem stepR_scope {P : Program} {b : Frame} {a : Act} {k : List Item} {cs : List Frame} {w : World} {c : Code} :
  step P (lone (b.atR a (.code (.scope c) :: k)) cs w) = .next (lone (b.atR a (.code c :: .inScope c :: k)) cs w) :=
 step_lone_go (by simp [stepG, stepG.exec, Frame.atR])
theorem stepR_inScope {P : Program} {b : Frame} {a : Act} {k : List Item} {cs : List Frame} {w : World} {c : Code} :
  step P (lone (b.atR a (.inScope c :: k)) cs w) = .next (lone (b.atR a k) cs w) :=
 step_lone_go (by simp [stepG, stepG.exec, Frame.atR])
theorem wpIn_scope {F : Fence} {n : Nat} {P : Program} {Q : Exit → Act → World → Prop} {a : Act} {w : World} {c : Code} (h : c.wpIn F n P (Exit.noGoto Q) a w) : (Code.scope c).wpIn F n P Q a w := by
 intro b k cs hro hb hr
 have h0 : (lone (b.atR a (.code (.scope c) :: k)) cs w).fenced P F := fenced_calm hb hr U
 obtain ⟨e, a₁, w₁, hq, harr⟩ := h b (.inScope c :: k) cs hro hb hr
 cases e with
 | normal => exact ⟨.normal, a₁, w₁, hq, .head h0 stepR_scope (StepsIn.trans harr (.one (fenced_calm hb hr rfl) stepR_inScope))⟩
 | exit id' =>
  have hx : exitTo id' (.inScope c :: k) = exitTo id' k := by simp [exitTo]
  exact ⟨.exit id', a₁, w₁, hq, fun k' hk => .head h0 stepR_scope (harr.1 k' (by rw [hx]; exact hk)),
   fun hr' hk => let ⟨k₁, h1, h2⟩ := harr.2 hr' (by rw [hx]; exact hk); ⟨k₁, h1, .head h0 stepR_scope h2⟩⟩
 | goto l => exact hq.elim
 | ret => exact ⟨_, a₁, w₁, hq, .of_steps (.one h0 stepR_scope) harr⟩
 | panic ch => exact ⟨_, a₁, w₁, hq, .of_steps (.one h0 stepR_scope) harr⟩
 | outgrown => exact ⟨_, a₁, w₁, hq, .of_steps (.one h0 stepR_scope) harr⟩
section
variable {P : Program} {r : Option Nat} {N : Nat} {w0 : World} {Q : Post} {L : Fm} {ds : List Deferred} {H : List (Nat × Obj)}
def noG (Q : Post) : Post
 | .goto _, _, _, _ => False
 | e, σ, ds, w => Q e σ ds w
theorem j_scope {c : Code} (h : J P r N w0 c (noG Q) L ds H) : J P r N w0 (.scope c) Q L ds H := fun b w hO a hs hf hd =>
 wpIn_scope (wpIn_mono (h b w hO a hs hf hd) (by
  intro e a' w' hq
  cases e with
  | goto l => exact hq.2
  | normal => exact hq
  | exit id => exact hq
  | ret => exact hq
  | panic ch => exact hq
  | outgrown => exact hq))
theorem j_label {l : Nat} (h : JQ w0 Q .normal L ds H) : J P r N w0 (.label l) Q L ds H := fun b w hO a hs hf hd => wpIn_label ⟨hs, by rw [hf, hd]; exact h b w hO⟩
theorem q_scope_ret (h : JQ w0 Q .ret L ds H) : JQ w0 (noG Q) .ret L ds H := h
theorem np_scope (h : NoPanic Q) : NoPanic (noG Q) := ⟨fun c σ ds w hq => h.no c σ ds w hq⟩
end
end Go.Proofs.YtkdolgnpkjihpaaGreatDoor
namespace Go.Proofs.YtkdolgnpkjihpaaGreatDoor
open _root_.Go.Proofs.Tryz
open Go.RowKit
set_option linter.unusedVariables false
set_option linter.unusedSimpArgs false
theorem bs42_1_0 (a0 : Int) (w : World) : (Instr.buildSlice 42 1 #[(0, .int .i64 a0)]).run Tryz.prog w = .ok (.slice (some ⟨w.heap.size, 0, none⟩) 1 1) (w.alloc (Cl [.int .i64 a0] 3)) := by kernel_rfl
theorem gd_rows (rs : List RowQ) (i : Nat) : gd (rs.map RowQ.l) i = (gd rs i).l := by
 by_cases h : i < rs.length
 ·exact gd_map h
 ·have h1 : gd rs i = default := by simp [gd, List.getD, List.getElem?_eq_none (by omega : rs.length ≤ i)]
  have h2 : gd (rs.map RowQ.l) i = default := by simp [gd, List.getD, List.getElem?_eq_none (by omega : rs.length ≤ i)]
  rw [h1, h2]; rfl
theorem nx_pl (m : Mc) (i a : Nat) : nx m.pl i a = gd (gd m.rows i).l a := by unfold nx; rw [show m.pl.next = m.rows.map RowQ.l from rfl, gd_rows]
theorem pm_row {m : Mc} (h : PMok m.pl) {i : Nat} (hi : i < m.rows.length) : (gd m.rows i).l.length = m.names.length + 1 ∧ ∀ a, a < m.names.length + 1 → gd (gd m.rows i).l a < m.rows.length := by
 obtain ⟨h1, h2⟩ := h.row (gd m.rows i).l (List.mem_map_of_mem (A1 hi))
 refine ⟨h1, fun a ha => ?_⟩
 have := h2 _ (A1 (i := a) (by rw [h1]; exact ha))
 simpa [Mc.pl] using this
abbrev encNK (k : Nat) : Value := .int .i64 (k : Int)
theorem keyN {V : Type} : KeyOk (V := V) Tryz.prog 3 encNK := keyOk_now runUnderlying3 (fun b k w => by cases b <;> kernel_rfl) (fun k k' => by
 by_cases h : k = k'
 ·subst h; simp [Instr.sameNow]
 ·have h2 : ¬ k' = k := fun e => h e.symm
  have h3 : ¬ (k : Int) = (k' : Int) := by omega
  simp [Instr.sameNow, h, h2, h3]) (fun k => by simp [Instr.sameBits])
theorem yl_lookN {w0 : World} {H : List (Nat × Obj)} {L : Fm} {x y : Operand} {ty : TypeId} {r : Nat} {l : List Nat} {s : Nat} (hx : Ev L x (.map (some r))) (hy : Ev L y (.int .i64 (s : Int))) (hf : Fnd H r (mapO encNK encIv (zipM l))) :
  Yl Tryz.prog w0 (.lookup 201 x y true) ty L H (.tuple #[.int .i64 (((look (zipM l) s).getD 0 : Nat) : Int), .bool (decide (s ∈ l))]) := by
 have h := yl_lookup2 (P := Tryz.prog) (w0 := w0) (ty := ty) (k := s) (keyN (V := Nat)) hx hy U runUnderlying201 zeroValue3 hf
 rw [look_zipM] at h ⊢
 by_cases hm : s ∈ l
 ·rw [if_pos hm] at h ⊢; rw [decide_eq_true hm]; exact h
 ·rw [if_neg hm] at h ⊢; rw [decide_eq_false hm]; exact h
theorem yl_lookN1 {w0 : World} {H : List (Nat × Obj)} {L : Fm} {x y : Operand} {ty : TypeId} {r : Nat} {l : List Nat} {s : Nat} (hs : s ∈ l) (hx : Ev L x (.map (some r))) (hy : Ev L y (.int .i64 (s : Int))) (hf : Fnd H r (mapO encNK encIv (zipM l))) :
  Yl Tryz.prog w0 (.lookup 201 x y false) ty L H (.int .i64 ((idx l s : Nat) : Int)) := by
 have h := yl_lookup (P := Tryz.prog) (w0 := w0) (ty := ty) (k := s) (keyN (V := Nat)) hx hy U runUnderlying201 zeroValue3 hf
 rw [look_zipM] at h
 rw [if_pos hs] at h; exact h
theorem numK_get (b tos : List Nat) {order : List Nat} {k : Nat} (h : k < order.length) : ∀ i, gd (numK b tos order i).1 k = gd order k ∧ order.length ≤ (numK b tos order i).1.length
 | 0 => ⟨rfl, Nat.le_refl _⟩
 | i + 1 => by
  obtain ⟨h1, h2⟩ := numK_get b tos h i
  rw [numK_succ]
  simp only []
  split
  ·exact ⟨h1, h2⟩
  ·refine ⟨?_, by simp; omega⟩
   rw [Bj (by simp; omega), List.getElem_append_left (by omega), ← Bj (by omega), h1]
theorem numK_mem (b tos order : List Nat) (i : Nat) : gd b (gd tos i) ∈ (numK b tos order (i + 1)).1.map (gd b) := by
 rw [numK_succ]; simp only []
 split
 ·assumption
 ·simp
theorem numK_idx (b tos order : List Nat) (i : Nat) : idx ((numK b tos order (i + 1)).1.map (gd b)) (gd b (gd tos i)) = idx ((numK b tos order i).1.map (gd b)) (gd b (gd tos i)) := by
 rw [numK_succ]; simp only []
 split
 ·rfl
 ·rename_i h; rw [List.map_append]; exact idx_app h
theorem max_s {w0 : World} {H : List (Nat × Obj)} (l : List Nat) (q : Option Addr) (c : Nat) (hA : Arr w0 H q 1 encU l) (hl : 0 < l.length) (hll : l.length ≤ 1000000) :
  FSpec Tryz.prog w0 139 #[.slice q l.length c] H (Still (.int .i64 (maxF l : Nat)) H) := by
 refine A7 Tryz.func139 U ntmps139 U (Ah (Ab (y_ (Ad Ak) (Af (Ac (Ah (Ah (Ab (y_ (Ae (T U)) (y_ (Bw (T U) runUnderlying42) (y_ (B4 (T U) Ak) (Af (Ac ?_)) U) U) U)))))) U)))
 first | refine Au (Aa U) (fun c7 => ?_) (fun c7 => ?_) | refine Bb (Aa U) (fun c7 => ?_) (fun c7 => ?_)
 ·exfalso; omega
 ·refine A9 (Ac (Ah (Ab (y_ (Ae (T U)) (y_ (Cw (T U) Ak runUnderlying42 sizeOf3 (by omega) (by first | exact rfl | exact hA.b (i := 0) (by omega))) ?_ U) U))))
  refine y_ (Ai (T U) isAgg3 (by first | exact c_o | exact cell1 ((hA.mono sbt).cs (i := i) (by omega)) | exact cell1 ((hA.mono sbt).cs (i := 0) (by omega)))) ?_ U
  refine y_ (Ad (T U)) (Af (Ac (Ah (Ah (Ab (y_ (Ad Ak) (Af (Ac (A2 ?_))) U)))))) U
  refine Co (X := Nat) (V := fun i => [(4, .int .i64 (i : Nat)), (3, .int .i64 (maxF (l.take i) : Nat))]) (C := [(0, _)]) (φ := fun i => 1 ≤ i ∧ i ≤ l.length) (μ := fun i => l.length - i) (x0 := 1) ?_ ⟨Aa U, trivial⟩ ⟨(by first | exact Aa U | (refine Aj (Aa U) (vint ?_); omega) | (refine Aj (Aa U) ?_; simp; done) | (refine Aj (Aa U) ?_; exact by cases l with | nil => simp at hl | cons x l => rfl)), (by first | exact Aa U | (refine Aj (Aa U) (vint ?_); omega) | (refine Aj (Aa U) ?_; simp; done) | (refine Aj (Aa U) ?_; exact by cases l with | nil => simp at hl | cons x l => rfl)), trivial⟩ ?_
  ·exact ⟨Nat.le_refl _, by omega⟩
  rintro i ⟨hi1, hi⟩
  refine Ah (Ah (Ab (y_ (Ae (T U)) (y_ (Ae (T U)) (y_ (Bw (T U) runUnderlying42) (y_ (B4 (T U) (T U)) (Af (Ac ?_)) U) U) U) U)))
  first | refine Au (Aa U) (fun c15 => ?_) (fun c15 => ?_) | refine Bb (Aa U) (fun c15 => ?_) (fun c15 => ?_)
  ·refine A9 (Ac (Ah (A2 (Ab (y_ (Ae (T U)) (y_ (Ae (T U)) (y_ (Ae (T U)) (y_ (Bh (T U) (T U) runUnderlying42 sizeOf3 (by omega) (by first | exact rfl | exact hA.b (i := 0) (by omega))) ?_ U) U) U) U)))))
   refine y_ (Ai (T U) isAgg3 (by first | exact c_o | exact cell1 ((hA.mono sbt).cs (i := i) (by omega)) | exact cell1 ((hA.mono sbt).cs (i := 0) (by omega)))) ?_ U
   refine y_ (yl_max (T U) (T U)) (y_ (Ad (T U)) (Af (Bm (Ac (Ab (y_ (Ae (T U)) (y_ (Bv (T U) Ak (by omega)) ?_ U) U))))) U) U
   refine y_ (Ad (T U)) (Af ?_) U
   have hmx := maxF_take (l := l) (i := i) (by omega) (by omega)
   refine Bs (i + 1) ?_ ?_ ⟨(by first | exact Aa U | (refine Aj (Aa U) (vint ?_); omega) | (refine Aj (Aa U) ?_; simp; done) | (refine Aj (Aa U) ?_; exact by cases l with | nil => simp at hl | cons x l => rfl)), (by first | exact Aa U | (refine Aj (Aa U) (vint ?_); omega) | (refine Aj (Aa U) ?_; simp; done) | (refine Aj (Aa U) ?_; exact by cases l with | nil => simp at hl | cons x l => rfl)), trivial⟩ ⟨Aa U, trivial⟩ ?_
   ·exact ⟨by omega, by omega⟩
   ·first | omega | (simp only []; omega)
   ·exact sbt
  ·refine B7 (A4 (A8 (Ba (Ac (Ah (Ab (y_ (Ae (T U)) (y_ (Ad (T U)) (Af (Ac (A5 (A6 U (.tmp (Aa U) .nil) ?_)))) U) U)))))))
   have hi2 : i = l.length := by omega
   rw [hi2, List.take_length]
   exact ⟨_, ⟨rfl, rfl⟩, sbt⟩
theorem split_s {w0 : World} {H : List (Nat × Obj)} (m : Mc) (hm : McOk w0 H m) (hp : PMok m.pl) (d : Sl) (n : Nat) (b : List Nat) (k a : Nat) (hd : SlOk d b.length 1) (hn : b.length = n) (hb : n = m.rows.length) (hk : k < n) (ha : a < m.names.length + 1) (hbm : maxF b ≤ n) :
  FSpec Tryz.prog w0 104 #[.agg (encMc m).toArray, slV d n, .int .i64 (k : Int), .int .i64 (a : Int)] (slH d (b.flatMap encU) 3 ++ H) (fun v H' => ∃ x : Unit, True ∧ H' = slH d ((splitF m.pl b k a).flatMap encU) 3 ++ H) := by
 subst hn
 refine A7 Tryz.func104 U ntmps104 U ?_
 have hf := hp.few
 have hfl : m.pl.next.length = m.rows.length := List.length_map ..
 obtain ⟨hk1, hk2⟩ := pm_row hp (show k < m.rows.length by omega)
 have hkl : gd (gd m.rows k).l a < b.length := by rw [hb]; exact hk2 a ha
 have hml := mvK_len m.pl b (gd b k) (gd b (nx m.pl k a)) a b.length
 refine Ah (Ab (e_ (Bf (T U) cs_) ?_ U))
 rintro _ _ ⟨n4, rfl, rfl⟩
 refine Af (Ac (Ah (Cv 21 [(0, true), (1, true), (2, true), (3, true), (4, true), (5, true), (6, true), (7, true), (8, true), (9, true), (10, true), (11, true), (12, true), (13, true), (14, true), (15, true), (16, true), (17, true), (18, true), (19, true), (20, true)] _ mixd (by kernel_rfl) sb0 ?_)))
 refine o_y U (Ae (T U)) (o_y U (Aq (.cons (T U) .nil) call139 (fun H' hs => max_s b _ _ ((Bz (X := H) (enc := encU) (sz := 1) (e := 3) (fun _ => rfl) hd).mono (List.Sublist.trans sbt hs)) (by omega) (by omega))) ?_ U Ag) U Ag
 refine o_y U (Bv (T U) Ak (by omega)) ?_ U Ag
 refine o_y U (Ae (T U)) (o_y U (Ae (T U)) (o_y U (Bh (T U) (T U) runUnderlying42 sizeOf3 (by omega) (by first | exact rfl | exact hd.bas (by omega) | exact hm.a2.b (i := k) (by omega) | exact (hm.r (gd m.rows k) (A1 (by omega))).b (i := a) (by omega) | exact hm.a2.b (i := j) (by omega) | exact (hm.r (gd m.rows j) (A1 (by omega))).b (i := a) (by omega) | exact hdm.bas (by omega) | exact SlOk.bas (k := b.length) (sz := 1) hd (by omega))) ?_ U Ag) U Ag) U Ag
 refine o_y U (Ai (T U) isAgg3 (by first | exact c_o | exact cell1 (((Bz (X := H) (enc := encU) (sz := 1) (e := 3) (l := b) (fun _ => rfl) hd).mono sbt).cs (i := k) hk) | exact cell1 (((Bz (X := H) (enc := encU) (sz := 1) (e := 3) (l := b) (fun _ => rfl) hd).mono sbt).cs (i := k) (by omega)))) ?_ U Ag
 refine o_y U (Ae (T U)) (o_y U (Bk (T U) Dc) (o_y U (Ai (T U) isAgg26 (by first | exact c_o | exact cell1 (((Bz (X := H) (enc := encU) (sz := 1) (e := 3) (l := b) (fun _ => rfl) hd).mono sbt).cs (i := k) (by omega)))) ?_ U Ag) U Ag) U Ag
 refine o_y U (Ae (T U)) (o_y U (Bh (T U) (T U) runUnderlying26 sizeOf42 (by omega) (by first | exact rfl | exact hd.bas (by omega) | exact hm.a2.b (i := k) (by omega) | exact (hm.r (gd m.rows k) (A1 (by omega))).b (i := a) (by omega) | exact hm.a2.b (i := j) (by omega) | exact (hm.r (gd m.rows j) (A1 (by omega))).b (i := a) (by omega) | exact hdm.bas (by omega) | exact SlOk.bas (k := b.length) (sz := 1) hd (by omega))) ?_ U Ag) U Ag
 refine o_y U (Ai (T U) isAgg42 (by first | exact c_o | exact cell1 ((hm.a2.mono sbt).cs (i := k) (by omega)) | exact cell1 (((Bz (X := H) (enc := encU) (sz := 1) (e := 3) (l := b) (fun _ => rfl) hd).mono sbt).cs (i := k) (by omega)))) ?_ U Ag
 refine o_y U (Ae (T U)) (o_y U (Bh (T U) (T U) runUnderlying42 sizeOf3 (by omega) (by first | exact rfl | exact hd.bas (by omega) | exact hm.a2.b (i := k) (by omega) | exact (hm.r (gd m.rows k) (A1 (by omega))).b (i := a) (by omega) | exact hm.a2.b (i := j) (by omega) | exact (hm.r (gd m.rows j) (A1 (by omega))).b (i := a) (by omega) | exact hdm.bas (by omega) | exact SlOk.bas (k := b.length) (sz := 1) hd (by omega))) ?_ U Ag) U Ag
 refine o_y U (Ai (T U) isAgg3 (by first | exact c_o | exact cell1 (((hm.r (gd m.rows k) (A1 (by omega))).mono sbt).cs (i := a) (by omega)) | exact cell1 (((Bz (X := H) (enc := encU) (sz := 1) (e := 3) (l := b) (fun _ => rfl) hd).mono sbt).cs (i := k) (by omega)))) ?_ U Ag
 refine o_y U (Bh (T U) (T U) runUnderlying42 sizeOf3 (by omega) (by first | exact rfl | exact hd.bas (by omega) | exact hm.a2.b (i := k) (by omega) | exact (hm.r (gd m.rows k) (A1 (by omega))).b (i := a) (by omega) | exact hm.a2.b (i := j) (by omega) | exact (hm.r (gd m.rows j) (A1 (by omega))).b (i := a) (by omega) | exact hdm.bas (by omega) | exact SlOk.bas (k := b.length) (sz := 1) hd (by omega))) ?_ U Ag
 refine o_y U (Ai (T U) isAgg3 (by first | exact c_o | exact cell1 (((Bz (X := H) (enc := encU) (sz := 1) (e := 3) (l := b) (fun _ => rfl) hd).mono sbt).cs (i := gd (gd m.rows k).l a) hkl) | exact cell1 (((Bz (X := H) (enc := encU) (sz := 1) (e := 3) (l := b) (fun _ => rfl) hd).mono sbt).cs (i := k) (by omega)))) ?_ U Ag
 refine o_y U (Ad (T U)) (o_y U (Ad (T U)) (o_y U (Ad (T U)) (B5 U (Af (Ac (Ah (Ab (y_ (Ad Ak) (Af (Ac (Ah (Ah (Ab (y_ (Ae (T U)) (y_ (Bw (T U) runUnderlying42) (y_ (Ae Ak) (Af (Ac (Bt [(1, _), (3, _), (4, _), (8, _), (9, _), (10, _), (11, _), (34, _), (35, _)] ⟨Aa U, Aa U, Aa U, Aa U, Aa U, Aa U, Aa U, Aa U, Aa U, trivial⟩ (A2 ?_)))) U) U) U)))))) U)))))) U Ag) U Ag) U Ag
 refine Cn (X := Nat × Sl) (V := fun ⟨j, dm⟩ => [(35, .int .i64 (j : Nat)), (11, slV dm (mvK m.pl b (gd b k) (gd b (nx m.pl k a)) a j).length)]) (C := [(1, _), (3, _), (4, _), (8, _), (9, _), (10, _), (34, _)]) (G := fun ⟨j, dm⟩ => slH dm ((mvK m.pl b (gd b k) (gd b (nx m.pl k a)) a j).flatMap encU) 3 ++ ((n4, Cl (encMc m) 29) :: (slH d (b.flatMap encU) 3 ++ H))) (φ := fun ⟨j, dm⟩ => j ≤ b.length ∧ SlOk dm (mvK m.pl b (gd b k) (gd b (nx m.pl k a)) a j).length 1) (μ := fun ⟨j, dm⟩ => b.length - j) (x0 := (0, .nil)) ?_ ⟨Aa rfl, Aa rfl, Aa rfl, Aa rfl, Aa rfl, Aa rfl, Aa rfl, trivial⟩ ⟨(by first | exact Aa rfl | (refine Aj (Aa rfl) (vint ?_); omega) | (refine Aj (Aa rfl) ?_; simp; done) | (refine Aj (Aa rfl) ?_; exact by simp only [hmv2, List.length_append, List.length_cons, List.length_nil])), (by first | exact Aa rfl | (refine Aj (Aa rfl) (vint ?_); omega) | (refine Aj (Aa rfl) ?_; simp; done) | (refine Aj (Aa rfl) ?_; exact by simp only [hmv2, List.length_append, List.length_cons, List.length_nil])), trivial⟩ sb0 ?_
 ·exact ⟨Nat.zero_le _, rfl⟩
 rintro ⟨j, dm⟩ ⟨hj, hdm⟩
 have hml2 := mvK_len m.pl b (gd b k) (gd b (nx m.pl k a)) a j
 refine Ah (Ab (y_ (B4 (T U) (T U)) (Af (Ac (Ah ?_))) U))
 first | refine Au (Aa U) (fun c36 => ?_) (fun c36 => ?_) | refine Bb (Aa U) (fun c36 => ?_) (fun c36 => ?_)
 ·obtain ⟨hj1, hj2⟩ := pm_row hp (show j < m.rows.length by omega)
  have hjl := hj2 a ha
  have hmv := mvK_succ m.pl b (gd b k) (gd b (nx m.pl k a)) a j
  have e1 := nx_pl m j a
  have e2 := nx_pl m k a
  refine A9 (Ac (Ah (A2 (Ah (Ab (y_ (Ae (T U)) (y_ (Ad (T U)) (Af (Ac (Ah (Ab (y_ (Ae (T U)) (y_ (Ae (T U)) (y_ (Bh (T U) (T U) runUnderlying42 sizeOf3 (by omega) (by first | exact rfl | exact hd.bas (by omega) | exact hm.a2.b (i := k) (by omega) | exact (hm.r (gd m.rows k) (A1 (by omega))).b (i := a) (by omega) | exact hm.a2.b (i := j) (by omega) | exact (hm.r (gd m.rows j) (A1 (by omega))).b (i := a) (by omega) | exact hdm.bas (by omega) | exact SlOk.bas (k := b.length) (sz := 1) hd (by omega))) ?_ U) U) U))))) U) U))))))
  refine y_ (Ai (T U) isAgg3 (by first | exact c_o | exact cell1 (((Bz (X := H) (enc := encU) (sz := 1) (e := 3) (l := b) (fun _ => rfl) hd).mono sbt).cs (i := j) (by omega)) | exact cell1 (((Bz (X := H) (enc := encU) (sz := 1) (e := 3) (l := b) (fun _ => rfl) hd).mono sbt).cs (i := k) (by omega)))) ?_ U
  refine y_ (Ae (T U)) (y_ (B3 (T U) (T U)) (y_ (Ae (T U)) ?_ U) U) U
  first | refine Ci (s := 44) (Aa U) (fun c44 => ?_) (fun c44 => ?_) | refine C1 (s := 44) (Aa U) (fun c44 => ?_) (fun c44 => ?_)
  ·refine Bg (Ae (T U)) U (Ax U U (Aa U)) (Bg (Bk (T U) Dc) U (Ax U U (Aa U)) (Bg (Ai (T U) isAgg26 (by first | exact c_o | exact cell1 (((Bz (X := H) (enc := encU) (sz := 1) (e := 3) (l := b) (fun _ => rfl) hd).mono sbt).cs (i := k) (by omega)))) U (Ax U U (Aa U)) ?_))
   refine Bg (Ae (T U)) U (Ax U U (Aa U)) (Bg (Bh (T U) (T U) runUnderlying26 sizeOf42 (by omega) (by first | exact rfl | exact hd.bas (by omega) | exact hm.a2.b (i := k) (by omega) | exact (hm.r (gd m.rows k) (A1 (by omega))).b (i := a) (by omega) | exact hm.a2.b (i := j) (by omega) | exact (hm.r (gd m.rows j) (A1 (by omega))).b (i := a) (by omega) | exact hdm.bas (by omega) | exact SlOk.bas (k := b.length) (sz := 1) hd (by omega))) U (Ax U U (Aa U)) ?_)
   refine Bg (Ai (T U) isAgg42 (by first | exact c_o | exact cell1 ((hm.a2.mono sbt).cs (i := j) (by omega)) | exact cell1 (((Bz (X := H) (enc := encU) (sz := 1) (e := 3) (l := b) (fun _ => rfl) hd).mono sbt).cs (i := k) (by omega)))) U (Ax U U (Aa U)) ?_
   refine Bg (Ae (T U)) U (Ax U U (Aa U)) (Bg (Bh (T U) (T U) runUnderlying42 sizeOf3 (by omega) (by first | exact rfl | exact hd.bas (by omega) | exact hm.a2.b (i := k) (by omega) | exact (hm.r (gd m.rows k) (A1 (by omega))).b (i := a) (by omega) | exact hm.a2.b (i := j) (by omega) | exact (hm.r (gd m.rows j) (A1 (by omega))).b (i := a) (by omega) | exact hdm.bas (by omega) | exact SlOk.bas (k := b.length) (sz := 1) hd (by omega))) U (Ax U U (Aa U)) ?_)
   refine Bg (Ai (T U) isAgg3 (by first | exact c_o | exact cell1 (((hm.r (gd m.rows j) (A1 (by omega))).mono sbt).cs (i := a) (by omega)) | exact cell1 (((Bz (X := H) (enc := encU) (sz := 1) (e := 3) (l := b) (fun _ => rfl) hd).mono sbt).cs (i := k) (by omega)))) U (Ax U U (Aa U)) ?_
   refine Bg (Bh (T U) (T U) runUnderlying42 sizeOf3 (by omega) (by first | exact rfl | exact hd.bas (by omega) | exact hm.a2.b (i := k) (by omega) | exact (hm.r (gd m.rows k) (A1 (by omega))).b (i := a) (by omega) | exact hm.a2.b (i := j) (by omega) | exact (hm.r (gd m.rows j) (A1 (by omega))).b (i := a) (by omega) | exact hdm.bas (by omega) | exact SlOk.bas (k := b.length) (sz := 1) hd (by omega))) U (Ax U U (Aa U)) ?_
   refine Bg (Ai (T U) isAgg3 (by first | exact c_o | exact cell1 (((Bz (X := H) (enc := encU) (sz := 1) (e := 3) (l := b) (fun _ => rfl) hd).mono sbt).cs (i := gd (gd m.rows j).l a) (by omega)) | exact cell1 (((Bz (X := H) (enc := encU) (sz := 1) (e := 3) (l := b) (fun _ => rfl) hd).mono sbt).cs (i := k) (by omega)))) U (Ax U U (Aa U)) ?_
   refine Bg (Ae (T U)) U (Ax U U (Aa U)) (Bg (B3 (T U) (T U)) U (Ax U U (Aa U)) (y_ (Az (T U) (T U)) (Af (Ac (Bt [(1, _), (3, _), (4, _), (8, _), (9, _), (10, _), (11, _), (12, _), (34, _), (35, _), (58, _)] ⟨Aa U, Aa U, Aa U, Aa U, Aa U, Aa U, Aa U, Aa U, Aa U, Aa U, Aa U, trivial⟩ ?_))) U))
   first | refine Au (Aa U) (fun c58 => ?_) (fun c58 => ?_) | refine Bb (Aa U) (fun c58 => ?_) (fun c58 => ?_)
   ·have hmv2 : (mvK m.pl b (gd b k) (gd b (nx m.pl k a)) a (j + 1)) = (mvK m.pl b (gd b k) (gd b (nx m.pl k a)) a j) ++ [j] := by rw [hmv, if_pos ⟨by omega, by rw [e1, e2]; omega⟩]
    refine Ab (y_ (Ae (T U)) (y_ (Ae (T U)) (e_ (An (.cons (T U) .nil) (bs42_1_0 _)) ?_ U) U) U)
    rintro _ _ ⟨n61, rfl, rfl⟩
    refine e_ (Bi (j) (by' := 8) (by repeat (first | exact LocL.h | apply LocL.t | apply LocL.a)) (T U) (T U) runUnderlying42 runUnderlying42 sizeOf3 typeInfo3 U zeroValue3 U (fun _ => rfl) U hdm (by decide) (by omega)) ?_ U
    rintro _ _ ⟨d', rfl, hokd, rfl⟩
    refine y_ (Ad (T U)) (Af (Bm (Ac (Ab (y_ (Bv (T U) Ak (by omega)) ?_ U))))) U
    refine y_ (Ae (T U)) (Af ?_) U
    refine Bs ((j + 1, d')) ?_ ?_ ⟨(by first | exact Aa U | (refine Aj (Aa U) (vint ?_); omega) | (refine Aj (Aa U) ?_; simp; done) | (refine Aj (Aa U) ?_; exact by simp only [hmv2, List.length_append, List.length_cons, List.length_nil])), (by first | exact Aa U | (refine Aj (Aa U) (vint ?_); omega) | (refine Aj (Aa U) ?_; simp; done) | (refine Aj (Aa U) ?_; exact by simp only [hmv2, List.length_append, List.length_cons, List.length_nil])), trivial⟩ ⟨Aa U, Aa U, Aa U, Aa U, Aa U, Aa U, Aa U, trivial⟩ ?_
    ·exact ⟨by omega, by rw [hmv2, List.length_append]; exact hokd⟩
    ·first | omega | (simp only []; omega)
    ·simp only [hmv2]; exact sbt
   ·have hmv2 : (mvK m.pl b (gd b k) (gd b (nx m.pl k a)) a (j + 1)) = (mvK m.pl b (gd b k) (gd b (nx m.pl k a)) a j) := by rw [hmv, if_neg (fun h => by have := h.2; rw [e1, e2] at this; omega)]
    refine A9 (Bm (Ac (Ab (y_ (Bv (T U) Ak (by omega)) ?_ U))))
    refine y_ (Ae (T U)) (Af ?_) U
    refine Bs ((j + 1, dm)) ?_ ?_ ⟨(by first | exact Aa U | (refine Aj (Aa U) (vint ?_); omega) | (refine Aj (Aa U) ?_; simp; done) | (refine Aj (Aa U) ?_; exact by simp only [hmv2, List.length_append, List.length_cons, List.length_nil])), (by first | exact Aa U | (refine Aj (Aa U) (vint ?_); omega) | (refine Aj (Aa U) ?_; simp; done) | (refine Aj (Aa U) ?_; exact by simp only [hmv2, List.length_append, List.length_cons, List.length_nil])), trivial⟩ ⟨Aa U, Aa U, Aa U, Aa U, Aa U, Aa U, Aa U, trivial⟩ ?_
    ·exact ⟨by omega, by rw [hmv2]; exact hdm⟩
    ·first | omega | (simp only []; omega)
    ·simp only [hmv2]; exact sbt
  ·have hmv2 : (mvK m.pl b (gd b k) (gd b (nx m.pl k a)) a (j + 1)) = (mvK m.pl b (gd b k) (gd b (nx m.pl k a)) a j) := by rw [hmv, if_neg (fun h => by have := h.1; omega)]
   refine Cf (Cf (Cf (Cf (Cf (Cf (Cf (Cf (Cf (Cf (Cf (Cf (Cf (y_ (Be (T U) Ak) (Af (Ac (Bt [(1, _), (3, _), (4, _), (8, _), (9, _), (10, _), (11, _), (12, _), (34, _), (35, _), (58, _)] ⟨Aa U, Aa U, Aa U, Aa U, Aa U, Aa U, Aa U, Aa U, Aa U, Aa U, Aa U, trivial⟩ ?_))) U) U U U U) U U U U) U U U U) U U U U) U U U U) U U U U) U U U U) U U U U) U U U U) U U U U) U U U U) U U U U) U U U U
   first | refine B8 (Aa U) ?_ | refine B8 (Aj (Aa U) (vbool (decide_eq_false c58))) ?_
   refine A9 (Bm (Ac (Ab (y_ (Bv (T U) Ak (by omega)) ?_ U))))
   refine y_ (Ae (T U)) (Af ?_) U
   refine Bs ((j + 1, dm)) ?_ ?_ ⟨(by first | exact Aa U | (refine Aj (Aa U) (vint ?_); omega) | (refine Aj (Aa U) ?_; simp; done) | (refine Aj (Aa U) ?_; exact by simp only [hmv2, List.length_append, List.length_cons, List.length_nil])), (by first | exact Aa U | (refine Aj (Aa U) (vint ?_); omega) | (refine Aj (Aa U) ?_; simp; done) | (refine Aj (Aa U) ?_; exact by simp only [hmv2, List.length_append, List.length_cons, List.length_nil])), trivial⟩ ⟨Aa U, Aa U, Aa U, Aa U, Aa U, Aa U, Aa U, trivial⟩ ?_
   ·exact ⟨by omega, by rw [hmv2]; exact hdm⟩
   ·first | omega | (simp only []; omega)
   ·simp only [hmv2]; exact sbt
 ·have hj2 : j = b.length := by omega
  subst hj2
  refine B7 (A4 (A8 (Ba (Ac (Ah (Ab (y_ (Ae (T U)) (y_ (Bw (T U) runUnderlying42) (y_ (Ae Ak) (Af (Ac (A2 ?_))) U) U) U)))))))
  refine Cn (X := Nat) (V := fun i => [(66, .int .i64 (i : Nat))]) (C := [(1, _), (8, _), (64, _), (65, _)]) (G := fun i => slH dm ((mvK m.pl b (gd b k) (gd b (nx m.pl k a)) a b.length).flatMap encU) 3 ++ ((n4, Cl (encMc m) 29) :: (slH d ((setM b (maxF b + 1) ((mvK m.pl b (gd b k) (gd b (nx m.pl k a)) a b.length).take i)).flatMap encU) 3 ++ H))) (φ := fun i => i ≤ (mvK m.pl b (gd b k) (gd b (nx m.pl k a)) a b.length).length) (μ := fun i => (mvK m.pl b (gd b k) (gd b (nx m.pl k a)) a b.length).length - i) (x0 := 0) ?_ ⟨Aa U, Aa U, Aa U, Aa U, trivial⟩ ⟨(by first | exact Aa U | (refine Aj (Aa U) (vint ?_); omega) | (refine Aj (Aa U) ?_; simp; done) | (refine Aj (Aa U) ?_; exact by simp only [hmv2, List.length_append, List.length_cons, List.length_nil])), trivial⟩ sb0 ?_
  ·exact Nat.zero_le _
  rintro i hi
  refine Ah (Ab (y_ (B4 (T U) (T U)) (Af (Ac (Ah ?_))) U))
  first | refine Au (Aa U) (fun c67 => ?_) (fun c67 => ?_) | refine Bb (Aa U) (fun c67 => ?_) (fun c67 => ?_)
  ·have hmi : gd (mvK m.pl b (gd b k) (gd b (nx m.pl k a)) a b.length) i < b.length := ((mem_mvK m.pl b (gd b k) (gd b (nx m.pl k a)) a _ b.length).1 (A1 (show i < (mvK m.pl b (gd b k) (gd b (nx m.pl k a)) a b.length).length by omega))).1
   have hst := setM_take (b := b) (f := maxF b + 1) (l := (mvK m.pl b (gd b k) (gd b (nx m.pl k a)) a b.length)) (i := i) (by omega)
   refine A9 (Ac (Ah (A2 (Ah (Ab (y_ (Bh (T U) (T U) runUnderlying42 sizeOf3 (by omega) (by first | exact rfl | exact hd.bas (by omega) | exact hm.a2.b (i := k) (by omega) | exact (hm.r (gd m.rows k) (A1 (by omega))).b (i := a) (by omega) | exact hm.a2.b (i := j) (by omega) | exact (hm.r (gd m.rows j) (A1 (by omega))).b (i := a) (by omega) | exact hdm.bas (by omega) | exact SlOk.bas (k := b.length) (sz := 1) hd (by omega))) ?_ U))))))
   refine y_ (Ai (T U) isAgg3 (by first | exact c_o | exact cell1 (((Bz (X := H) (enc := encU) (sz := 1) (e := 3) (l := (mvK m.pl b (gd b k) (gd b (nx m.pl k a)) a b.length)) (fun _ => rfl) hdm).mono sbt).cs (i := i) (by omega)) | exact cell1 (((Bz (X := H) (enc := encU) (sz := 1) (e := 3) (l := b) (fun _ => rfl) hd).mono sbt).cs (i := k) (by omega)))) ?_ U
   refine y_ (Ad (T U)) (Af (Ac (Ab (y_ (Ae (T U)) (y_ (Ae (T U)) (y_ (Ae (T U)) (y_ (Bh (T U) (T U) runUnderlying42 sizeOf3 (by omega) (by first | exact rfl | exact hd.bas (by omega) | exact hm.a2.b (i := k) (by omega) | exact (hm.r (gd m.rows k) (A1 (by omega))).b (i := a) (by omega) | exact hm.a2.b (i := j) (by omega) | exact (hm.r (gd m.rows j) (A1 (by omega))).b (i := a) (by omega) | exact hdm.bas (by omega) | exact SlOk.bas (k := b.length) (sz := 1) hd (by omega))) ?_ U) U) U) U)))) U
   refine e_ (eff_sElem (l := setM b (maxF b + 1) ((mvK m.pl b (gd b k) (gd b (nx m.pl k a)) a b.length).take i)) (e := 3) (enc := encU) (sz := 1) (i := gd (mvK m.pl b (gd b k) (gd b (nx m.pl k a)) a b.length) i) (maxF b + 1) (fun _ => rfl) (by repeat (first | exact LocL.h | apply LocL.t | apply LocL.a)) (T U) (T U) (.one U) U sizeOf3 (by rw [setM_len]; exact hmi) (by rw [setM_len]; exact hd)) ?_ U
   rintro _ _ ⟨rfl, rfl⟩
   refine Af (Bm (Ac (Ab (y_ (Bv (T U) Ak (by omega)) ?_ U))))
   refine y_ (Ae (T U)) (Af ?_) U
   refine Bs (i + 1) ?_ ?_ ⟨(by first | exact Aa U | (refine Aj (Aa U) (vint ?_); omega) | (refine Aj (Aa U) ?_; simp; done) | (refine Aj (Aa U) ?_; exact by simp only [hmv2, List.length_append, List.length_cons, List.length_nil])), trivial⟩ ⟨Aa U, Aa U, Aa U, Aa U, trivial⟩ ?_
   ·show i + 1 ≤ _; omega
   ·first | omega | (simp only []; omega)
   ·simp only [hst]; exact sbt
  ·refine B7 (A4 (A8 (Ba (C8 U .nil ?_))))
   have hi2 : i = (mvK m.pl b (gd b k) (gd b (nx m.pl k a)) a b.length).length := by omega
   rw [hi2, List.take_length]
   exact ⟨_, ⟨(), trivial, rfl⟩, sbt⟩
end Go.Proofs.YtkdolgnpkjihpaaGreatDoor
