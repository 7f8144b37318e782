/-
  A part of what LawH rests on: the logic, walks and plain laws. No condition.
-/
import Derived.Test.YtkdolgnpkjihpaaGreatDoorJH3
namespace Go.Proofs.YtkdolgnpkjihpaaGreatDoor
open _root_.Go.Proofs.Tryz
open Go.RowKit
set_option linter.unusedVariables false
set_option linter.unusedSimpArgs false
theorem bd58_0_1 (a0 : Option Addr) (a0n a0c : Nat) (a1 : Int) (w : World) : (Instr.build 58 #[(0, .slice a0 a0n a0c), (1, .int .i64 a1)]).run Tryz.prog w = .ok (.agg #[.slice a0 a0n a0c, .int .i64 a1]) w := by kernel_rfl
theorem bd58_1 (a0 : Int) (w : World) : (Instr.build 58 #[(1, .int .i64 a0)]).run Tryz.prog w = .ok (.agg #[.slice none 0 0, .int .i64 a0]) w := by kernel_rfl
theorem B0 (a0 : Int) (a1 : ByteArray) (a2 : Option Addr) (a2n a2c : Nat) (w : World) : (Instr.buildSlice 22 1 #[(0, .agg #[.int .i64 a0, .string a1, .slice a2 a2n a2c])]).run Tryz.prog w = .ok (.slice (some ⟨w.heap.size, 0, none⟩) 1 1) (w.alloc (Cl [.int .i64 a0, .string a1, .slice a2 a2n a2c] 24)) := by kernel_rfl
theorem bs25_2_0_1 (a0 : ByteArray) (a1 : ByteArray) (w : World) : (Instr.buildSlice 25 2 #[(0, .string a0), (1, .string a1)]).run Tryz.prog w = .ok (.slice (some ⟨w.heap.size, 0, none⟩) 2 2) (w.alloc (Cl [.string a0, .string a1] 9)) := by kernel_rfl
theorem bs25_3_0_1_2 (a0 : ByteArray) (a1 : ByteArray) (a2 : ByteArray) (w : World) : (Instr.buildSlice 25 3 #[(0, .string a0), (1, .string a1), (2, .string a2)]).run Tryz.prog w = .ok (.slice (some ⟨w.heap.size, 0, none⟩) 3 3) (w.alloc (Cl [.string a0, .string a1, .string a2] 9)) := by kernel_rfl
theorem bs42_3_0_1_2 (a0 : Int) (a1 : Int) (a2 : Int) (w : World) : (Instr.buildSlice 42 3 #[(0, .int .i64 a0), (1, .int .i64 a1), (2, .int .i64 a2)]).run Tryz.prog w = .ok (.slice (some ⟨w.heap.size, 0, none⟩) 3 3) (w.alloc (Cl [.int .i64 a0, .int .i64 a1, .int .i64 a2] 3)) := by kernel_rfl
theorem still_v {P : Program} {w0 : World} {f : FuncId} {args : Array Value} {H : List (Nat × Obj)} {b c : Value} (e : b = c) (h : FSpec P w0 f args H (Still b H)) : FSpec P w0 f args H (Still c H) := e ▸ h
theorem rxx_own {w0 : World} {H H' : List (Nat × Obj)} {n27 n31 n34 n37 : Nat} (h1 : Fnd H n27 (Cl (encRx (.mk 3 ⟨#[]⟩ none 0 [])) 24)) (h2 : Fnd H n31 (Cl (encRx (.mk 2 ⟨#[97]⟩ none 0 []) ++ encRx (.mk 6 ⟨#[]⟩ (some ⟨n27, 0, none⟩) 1 [(.mk 3 ⟨#[]⟩ none 0 [])])) 24)) (h3 : Fnd H n34 (Cl (encRx (.mk 4 ⟨#[]⟩ (some ⟨n31, 0, none⟩) 2 [(.mk 2 ⟨#[97]⟩ none 0 []), (.mk 6 ⟨#[]⟩ (some ⟨n27, 0, none⟩) 1 [(.mk 3 ⟨#[]⟩ none 0 [])])]) ++ encRx (.mk 2 ⟨#[99]⟩ none 0 [])) 24)) (h4 : Fnd H n37 (Cl (encRx (.mk 4 ⟨#[]⟩ (some ⟨n34, 0, none⟩) 2 [(.mk 4 ⟨#[]⟩ (some ⟨n31, 0, none⟩) 2 [(.mk 2 ⟨#[97]⟩ none 0 []), (.mk 6 ⟨#[]⟩ (some ⟨n27, 0, none⟩) 1 [(.mk 3 ⟨#[]⟩ none 0 [])])]), (.mk 2 ⟨#[99]⟩ none 0 [])]) ++ encRx (.mk 6 ⟨#[]⟩ (some ⟨n27, 0, none⟩) 1 [(.mk 3 ⟨#[]⟩ none 0 [])])) 24)) (hs : H.Sublist H') : RxM w0 H' (.mk 4 ⟨#[]⟩ (some ⟨n37, 0, none⟩) 2 [(.mk 4 ⟨#[]⟩ (some ⟨n34, 0, none⟩) 2 [(.mk 4 ⟨#[]⟩ (some ⟨n31, 0, none⟩) 2 [(.mk 2 ⟨#[97]⟩ none 0 []), (.mk 6 ⟨#[]⟩ (some ⟨n27, 0, none⟩) 1 [(.mk 3 ⟨#[]⟩ none 0 [])])]), (.mk 2 ⟨#[99]⟩ none 0 [])]), (.mk 6 ⟨#[]⟩ (some ⟨n27, 0, none⟩) 1 [(.mk 3 ⟨#[]⟩ none 0 [])])]) :=
 (rx2 (rx2 (rx2 rx0 (rx1 rx0 h1) h2) rx0 h3) (rx1 rx0 h1) h4).mono hs
theorem sRe' {m : Mc} (h : m.pl = sM) (n1 n2 n3 : Nat) : decide (RefOk (exN n1 n2 n3) ⟨none, 0, [], -1⟩ m.pl 1 3 ([(0, 2), (1, 2), (2, 2), (3, 2)].map toI)) = true := by rw [h]; exact sRe n1 n2 n3 _ _
set_option maxHeartbeats 2000000 in
theorem sanity_s {w0 : World} {H : List (Nat × Obj)}  :
  FSpec Tryz.prog w0 11 #[] H (Still (.bool true) H) := by
 refine A7 Tryz.func11 U ntmps11 U (Ah (Ab (y_ (Ad Ak) (Af (Ac (Ah (Ab (e_ (Av .nil call43 (example_s)) ?_ U))))) U)))
 rintro _ _ ⟨⟨x1, x2, x3⟩, rfl, rfl⟩
 refine e_ (Ap zeroValue56 cs_) ?_ U
 rintro _ _ ⟨n1, rfl, rfl⟩
 first | refine A0 (As (T U) (T U) sizeOf56) U Ag ?_
 rintro _ _ ⟨rfl, rfl⟩
 refine Af (Ac (Ah (Ab (y_ (Aq .nil call44 (fun H' hs => some_s)) (e_ (An (.cons (T U) .nil) (B0 _ _ _ _ _)) ?_ U) U))))
 rintro _ _ ⟨n27, rfl, rfl⟩
 refine y_ (Aq (.cons Ak (.cons (T U) .nil)) call26 (fun H' hs => Ch 6 (some ⟨n27, 0, none⟩) [(.mk 3 ⟨#[]⟩ none 0 [])] 1)) (e_ (Ap zeroValue24 cs_) ?_ U) U
 rintro _ _ ⟨n2, rfl, rfl⟩
 first | refine A0 (As (T U) (T U) sizeOf24) U Ag ?_
 rintro _ _ ⟨rfl, rfl⟩
 refine Af (Ac ?_)
 refine j_cutC (X := Nat × Nat × Nat × Nat) (V := fun ⟨n3, n31, n34, n37⟩ => [(3, .pointer (some ⟨n3, 0, none⟩))]) (C := [(1, _), (2, _)]) (G := fun ⟨n3, n31, n34, n37⟩ => (n3, Cl (encRx (.mk 4 ⟨#[]⟩ (some ⟨n37, 0, none⟩) 2 [(.mk 4 ⟨#[]⟩ (some ⟨n34, 0, none⟩) 2 [(.mk 4 ⟨#[]⟩ (some ⟨n31, 0, none⟩) 2 [(.mk 2 ⟨#[97]⟩ none 0 []), (.mk 6 ⟨#[]⟩ (some ⟨n27, 0, none⟩) 1 [(.mk 3 ⟨#[]⟩ none 0 [])])]), (.mk 2 ⟨#[99]⟩ none 0 [])]), (.mk 6 ⟨#[]⟩ (some ⟨n27, 0, none⟩) 1 [(.mk 3 ⟨#[]⟩ none 0 [])])])) 24) :: (n37, Cl (encRx (.mk 4 ⟨#[]⟩ (some ⟨n34, 0, none⟩) 2 [(.mk 4 ⟨#[]⟩ (some ⟨n31, 0, none⟩) 2 [(.mk 2 ⟨#[97]⟩ none 0 []), (.mk 6 ⟨#[]⟩ (some ⟨n27, 0, none⟩) 1 [(.mk 3 ⟨#[]⟩ none 0 [])])]), (.mk 2 ⟨#[99]⟩ none 0 [])]) ++ encRx (.mk 6 ⟨#[]⟩ (some ⟨n27, 0, none⟩) 1 [(.mk 3 ⟨#[]⟩ none 0 [])])) 24) :: (n34, Cl (encRx (.mk 4 ⟨#[]⟩ (some ⟨n31, 0, none⟩) 2 [(.mk 2 ⟨#[97]⟩ none 0 []), (.mk 6 ⟨#[]⟩ (some ⟨n27, 0, none⟩) 1 [(.mk 3 ⟨#[]⟩ none 0 [])])]) ++ encRx (.mk 2 ⟨#[99]⟩ none 0 [])) 24) :: (n31, Cl (encRx (.mk 2 ⟨#[97]⟩ none 0 []) ++ encRx (.mk 6 ⟨#[]⟩ (some ⟨n27, 0, none⟩) 1 [(.mk 3 ⟨#[]⟩ none 0 [])])) 24) :: (n2, Cl (encRx (.mk 6 ⟨#[]⟩ (some ⟨n27, 0, none⟩) 1 [(.mk 3 ⟨#[]⟩ none 0 [])])) 24) :: (n27, Cl (encRx (.mk 3 ⟨#[]⟩ none 0 [])) 24) :: (n1, Cl (encNn (exN x1 x2 x3)) 56) :: (x3, Cl (exEdges.flatMap encE) 154) :: (x2, Cl (exLinks.flatMap encLn) 71) :: (x1, Cl (exK 4) 138) :: H) (φ := fun ⟨n3, n31, n34, n37⟩ => True) ⟨Aa rfl, Aa rfl, trivial⟩ ?_ ?_
 ·refine j_anyX 11 _ mixd (by kernel_rfl) sb0 ?_
  refine x_y (i := 0) U (by kernel_rfl) (Aq (.cons Ak .nil) call45 (fun H' hs => node_s ⟨#[97]⟩)) ?_ U Ag
  refine x_y (i := 1) U (by kernel_rfl) (Am (T U) isAgg24 sizeOf24 U (by first | exact Bc)) ?_ U Ag
  refine x_y (i := 7) U (by kernel_rfl) (Am (T U) isAgg24 sizeOf24 U (by first | exact Bc)) ?_ U Ag
  refine C5 (i := 2) (j := 10) (by kernel_rfl) (by kernel_rfl) ?_ ?_
  ·refine Br U (An (.cons (T U) (.cons (T U) .nil)) (B2 _ _ _ _ _ _ _ _ _ _)) ?_ U Ag
   rintro _ _ ⟨n31, rfl, rfl⟩
   refine ⟨sbt, (x_y (i := 3) U (by kernel_rfl) (Aq (.cons Ak (.cons (T U) .nil)) call26 (fun H' hs => Ch 4 (some ⟨n31, 0, none⟩) [(.mk 2 ⟨#[97]⟩ none 0 []), (.mk 6 ⟨#[]⟩ (some ⟨n27, 0, none⟩) 1 [(.mk 3 ⟨#[]⟩ none 0 [])])] 2)) ?_ U Ag)⟩
   refine x_y (i := 4) U (by kernel_rfl) (Aq (.cons Ak .nil) call45 (fun H' hs => node_s ⟨#[99]⟩)) ?_ U Ag
   refine C5 (i := 5) (j := 10) (by kernel_rfl) (by kernel_rfl) ?_ ?_
   ·refine Br U (An (.cons (T U) (.cons (T U) .nil)) (B2 _ _ _ _ _ _ _ _ _ _)) ?_ U Ag
    rintro _ _ ⟨n34, rfl, rfl⟩
    refine ⟨sbt, (x_y (i := 6) U (by kernel_rfl) (Aq (.cons Ak (.cons (T U) .nil)) call26 (fun H' hs => Ch 4 (some ⟨n34, 0, none⟩) [(.mk 4 ⟨#[]⟩ (some ⟨n31, 0, none⟩) 2 [(.mk 2 ⟨#[97]⟩ none 0 []), (.mk 6 ⟨#[]⟩ (some ⟨n27, 0, none⟩) 1 [(.mk 3 ⟨#[]⟩ none 0 [])])]), (.mk 2 ⟨#[99]⟩ none 0 [])] 2)) ?_ U Ag)⟩
    refine C5 (i := 8) (j := 10) (by kernel_rfl) (by kernel_rfl) ?_ ?_
    ·refine Br U (An (.cons (T U) (.cons (T U) .nil)) (B2 _ _ _ _ _ _ _ _ _ _)) ?_ U Ag
     rintro _ _ ⟨n37, rfl, rfl⟩
     refine ⟨sbt, (x_y (i := 9) U (by kernel_rfl) (Aq (.cons Ak (.cons (T U) .nil)) call26 (fun H' hs => Ch 4 (some ⟨n37, 0, none⟩) [(.mk 4 ⟨#[]⟩ (some ⟨n34, 0, none⟩) 2 [(.mk 4 ⟨#[]⟩ (some ⟨n31, 0, none⟩) 2 [(.mk 2 ⟨#[97]⟩ none 0 []), (.mk 6 ⟨#[]⟩ (some ⟨n27, 0, none⟩) 1 [(.mk 3 ⟨#[]⟩ none 0 [])])]), (.mk 2 ⟨#[99]⟩ none 0 [])]), (.mk 6 ⟨#[]⟩ (some ⟨n27, 0, none⟩) 1 [(.mk 3 ⟨#[]⟩ none 0 [])])] 2)) ?_ U Ag)⟩
     refine Bx (i := 10) (by kernel_rfl) (by kernel_rfl) ?_
     refine Br U (Ap zeroValue24 cs_) ?_ U Ag
     rintro _ _ ⟨n3, rfl, rfl⟩
     refine ⟨sbt, (Cj (by kernel_rfl) U ?_)⟩
     first | refine A0 (As (T U) (T U) sizeOf24) U Ag ?_
     rintro _ _ ⟨rfl, rfl⟩
     refine Af ?_
     first | (refine Bl ((n3, n31, n34, n37)) ?_ ⟨atd, trivial⟩ ⟨Aa U, Aa U, trivial⟩ (List.Sublist.refl _)) | (refine Ce (List.Perm.swap _ _ _) ?_; refine Bl ((n3, n31, n34, n37)) ?_ ⟨atd, trivial⟩ ⟨Aa U, Aa U, trivial⟩ (List.Sublist.refl _)) | (refine Ce ((List.Perm.cons _ (List.Perm.swap _ _ _)).trans (List.Perm.swap _ _ _)) ?_; refine Bl ((n3, n31, n34, n37)) ?_ ⟨atd, trivial⟩ ⟨Aa U, Aa U, trivial⟩ (List.Sublist.refl _)) | (refine Ce ((List.Perm.cons _ (List.Perm.cons _ (List.Perm.swap _ _ _))).trans ((List.Perm.cons _ (List.Perm.swap _ _ _)).trans (List.Perm.swap _ _ _))) ?_; refine Bl ((n3, n31, n34, n37)) ?_ ⟨atd, trivial⟩ ⟨Aa U, Aa U, trivial⟩ (List.Sublist.refl _))
     trivial
    ·refine Br U (Ap zeroValue24 cs_) ?_ U Ag
     rintro _ _ ⟨n3, rfl, rfl⟩
     refine ⟨sbt, (Bx (i := 8) (by kernel_rfl) (by kernel_rfl) ?_)⟩
     refine Br U (An (.cons (T U) (.cons (T U) .nil)) (B2 _ _ _ _ _ _ _ _ _ _)) ?_ U Ag
     rintro _ _ ⟨n37, rfl, rfl⟩
     refine ⟨sbt, (x_y (i := 9) U (by kernel_rfl) (Aq (.cons Ak (.cons (T U) .nil)) call26 (fun H' hs => Ch 4 (some ⟨n37, 0, none⟩) [(.mk 4 ⟨#[]⟩ (some ⟨n34, 0, none⟩) 2 [(.mk 4 ⟨#[]⟩ (some ⟨n31, 0, none⟩) 2 [(.mk 2 ⟨#[97]⟩ none 0 []), (.mk 6 ⟨#[]⟩ (some ⟨n27, 0, none⟩) 1 [(.mk 3 ⟨#[]⟩ none 0 [])])]), (.mk 2 ⟨#[99]⟩ none 0 [])]), (.mk 6 ⟨#[]⟩ (some ⟨n27, 0, none⟩) 1 [(.mk 3 ⟨#[]⟩ none 0 [])])] 2)) ?_ U Ag)⟩
     refine Cj (by kernel_rfl) U ?_
     first | refine A0 (As (T U) (T U) sizeOf24) U Ag ?_
     rintro _ _ ⟨rfl, rfl⟩
     refine Af ?_
     first | (refine Bl ((n3, n31, n34, n37)) ?_ ⟨atd, trivial⟩ ⟨Aa U, Aa U, trivial⟩ (List.Sublist.refl _)) | (refine Ce (List.Perm.swap _ _ _) ?_; refine Bl ((n3, n31, n34, n37)) ?_ ⟨atd, trivial⟩ ⟨Aa U, Aa U, trivial⟩ (List.Sublist.refl _)) | (refine Ce ((List.Perm.cons _ (List.Perm.swap _ _ _)).trans (List.Perm.swap _ _ _)) ?_; refine Bl ((n3, n31, n34, n37)) ?_ ⟨atd, trivial⟩ ⟨Aa U, Aa U, trivial⟩ (List.Sublist.refl _)) | (refine Ce ((List.Perm.cons _ (List.Perm.cons _ (List.Perm.swap _ _ _))).trans ((List.Perm.cons _ (List.Perm.swap _ _ _)).trans (List.Perm.swap _ _ _))) ?_; refine Bl ((n3, n31, n34, n37)) ?_ ⟨atd, trivial⟩ ⟨Aa U, Aa U, trivial⟩ (List.Sublist.refl _))
     trivial
   ·refine Br U (Ap zeroValue24 cs_) ?_ U Ag
    rintro _ _ ⟨n3, rfl, rfl⟩
    refine ⟨sbt, (Bx (i := 5) (by kernel_rfl) (by kernel_rfl) ?_)⟩
    refine Br U (An (.cons (T U) (.cons (T U) .nil)) (B2 _ _ _ _ _ _ _ _ _ _)) ?_ U Ag
    rintro _ _ ⟨n34, rfl, rfl⟩
    refine ⟨sbt, (x_y (i := 6) U (by kernel_rfl) (Aq (.cons Ak (.cons (T U) .nil)) call26 (fun H' hs => Ch 4 (some ⟨n34, 0, none⟩) [(.mk 4 ⟨#[]⟩ (some ⟨n31, 0, none⟩) 2 [(.mk 2 ⟨#[97]⟩ none 0 []), (.mk 6 ⟨#[]⟩ (some ⟨n27, 0, none⟩) 1 [(.mk 3 ⟨#[]⟩ none 0 [])])]), (.mk 2 ⟨#[99]⟩ none 0 [])] 2)) ?_ U Ag)⟩
    refine Bx (i := 8) (by kernel_rfl) (by kernel_rfl) ?_
    refine Br U (An (.cons (T U) (.cons (T U) .nil)) (B2 _ _ _ _ _ _ _ _ _ _)) ?_ U Ag
    rintro _ _ ⟨n37, rfl, rfl⟩
    refine ⟨sbt, (x_y (i := 9) U (by kernel_rfl) (Aq (.cons Ak (.cons (T U) .nil)) call26 (fun H' hs => Ch 4 (some ⟨n37, 0, none⟩) [(.mk 4 ⟨#[]⟩ (some ⟨n34, 0, none⟩) 2 [(.mk 4 ⟨#[]⟩ (some ⟨n31, 0, none⟩) 2 [(.mk 2 ⟨#[97]⟩ none 0 []), (.mk 6 ⟨#[]⟩ (some ⟨n27, 0, none⟩) 1 [(.mk 3 ⟨#[]⟩ none 0 [])])]), (.mk 2 ⟨#[99]⟩ none 0 [])]), (.mk 6 ⟨#[]⟩ (some ⟨n27, 0, none⟩) 1 [(.mk 3 ⟨#[]⟩ none 0 [])])] 2)) ?_ U Ag)⟩
    refine Cj (by kernel_rfl) U ?_
    first | refine A0 (As (T U) (T U) sizeOf24) U Ag ?_
    rintro _ _ ⟨rfl, rfl⟩
    refine Af ?_
    first | (refine Bl ((n3, n31, n34, n37)) ?_ ⟨atd, trivial⟩ ⟨Aa U, Aa U, trivial⟩ (List.Sublist.refl _)) | (refine Ce (List.Perm.swap _ _ _) ?_; refine Bl ((n3, n31, n34, n37)) ?_ ⟨atd, trivial⟩ ⟨Aa U, Aa U, trivial⟩ (List.Sublist.refl _)) | (refine Ce ((List.Perm.cons _ (List.Perm.swap _ _ _)).trans (List.Perm.swap _ _ _)) ?_; refine Bl ((n3, n31, n34, n37)) ?_ ⟨atd, trivial⟩ ⟨Aa U, Aa U, trivial⟩ (List.Sublist.refl _)) | (refine Ce ((List.Perm.cons _ (List.Perm.cons _ (List.Perm.swap _ _ _))).trans ((List.Perm.cons _ (List.Perm.swap _ _ _)).trans (List.Perm.swap _ _ _))) ?_; refine Bl ((n3, n31, n34, n37)) ?_ ⟨atd, trivial⟩ ⟨Aa U, Aa U, trivial⟩ (List.Sublist.refl _))
    trivial
  ·refine Br U (Ap zeroValue24 cs_) ?_ U Ag
   rintro _ _ ⟨n3, rfl, rfl⟩
   refine ⟨sbt, (Bx (i := 2) (by kernel_rfl) (by kernel_rfl) ?_)⟩
   refine Br U (An (.cons (T U) (.cons (T U) .nil)) (B2 _ _ _ _ _ _ _ _ _ _)) ?_ U Ag
   rintro _ _ ⟨n31, rfl, rfl⟩
   refine ⟨sbt, (x_y (i := 3) U (by kernel_rfl) (Aq (.cons Ak (.cons (T U) .nil)) call26 (fun H' hs => Ch 4 (some ⟨n31, 0, none⟩) [(.mk 2 ⟨#[97]⟩ none 0 []), (.mk 6 ⟨#[]⟩ (some ⟨n27, 0, none⟩) 1 [(.mk 3 ⟨#[]⟩ none 0 [])])] 2)) ?_ U Ag)⟩
   refine x_y (i := 4) U (by kernel_rfl) (Aq (.cons Ak .nil) call45 (fun H' hs => node_s ⟨#[99]⟩)) ?_ U Ag
   refine Bx (i := 5) (by kernel_rfl) (by kernel_rfl) ?_
   refine Br U (An (.cons (T U) (.cons (T U) .nil)) (B2 _ _ _ _ _ _ _ _ _ _)) ?_ U Ag
   rintro _ _ ⟨n34, rfl, rfl⟩
   refine ⟨sbt, (x_y (i := 6) U (by kernel_rfl) (Aq (.cons Ak (.cons (T U) .nil)) call26 (fun H' hs => Ch 4 (some ⟨n34, 0, none⟩) [(.mk 4 ⟨#[]⟩ (some ⟨n31, 0, none⟩) 2 [(.mk 2 ⟨#[97]⟩ none 0 []), (.mk 6 ⟨#[]⟩ (some ⟨n27, 0, none⟩) 1 [(.mk 3 ⟨#[]⟩ none 0 [])])]), (.mk 2 ⟨#[99]⟩ none 0 [])] 2)) ?_ U Ag)⟩
   refine Bx (i := 8) (by kernel_rfl) (by kernel_rfl) ?_
   refine Br U (An (.cons (T U) (.cons (T U) .nil)) (B2 _ _ _ _ _ _ _ _ _ _)) ?_ U Ag
   rintro _ _ ⟨n37, rfl, rfl⟩
   refine ⟨sbt, (x_y (i := 9) U (by kernel_rfl) (Aq (.cons Ak (.cons (T U) .nil)) call26 (fun H' hs => Ch 4 (some ⟨n37, 0, none⟩) [(.mk 4 ⟨#[]⟩ (some ⟨n34, 0, none⟩) 2 [(.mk 4 ⟨#[]⟩ (some ⟨n31, 0, none⟩) 2 [(.mk 2 ⟨#[97]⟩ none 0 []), (.mk 6 ⟨#[]⟩ (some ⟨n27, 0, none⟩) 1 [(.mk 3 ⟨#[]⟩ none 0 [])])]), (.mk 2 ⟨#[99]⟩ none 0 [])]), (.mk 6 ⟨#[]⟩ (some ⟨n27, 0, none⟩) 1 [(.mk 3 ⟨#[]⟩ none 0 [])])] 2)) ?_ U Ag)⟩
   refine Cj (by kernel_rfl) U ?_
   first | refine A0 (As (T U) (T U) sizeOf24) U Ag ?_
   rintro _ _ ⟨rfl, rfl⟩
   refine Af ?_
   first | (refine Bl ((n3, n31, n34, n37)) ?_ ⟨atd, trivial⟩ ⟨Aa U, Aa U, trivial⟩ (List.Sublist.refl _)) | (refine Ce (List.Perm.swap _ _ _) ?_; refine Bl ((n3, n31, n34, n37)) ?_ ⟨atd, trivial⟩ ⟨Aa U, Aa U, trivial⟩ (List.Sublist.refl _)) | (refine Ce ((List.Perm.cons _ (List.Perm.swap _ _ _)).trans (List.Perm.swap _ _ _)) ?_; refine Bl ((n3, n31, n34, n37)) ?_ ⟨atd, trivial⟩ ⟨Aa U, Aa U, trivial⟩ (List.Sublist.refl _)) | (refine Ce ((List.Perm.cons _ (List.Perm.cons _ (List.Perm.swap _ _ _))).trans ((List.Perm.cons _ (List.Perm.swap _ _ _)).trans (List.Perm.swap _ _ _))) ?_; refine Bl ((n3, n31, n34, n37)) ?_ ⟨atd, trivial⟩ ⟨Aa U, Aa U, trivial⟩ (List.Sublist.refl _))
   trivial
 rintro ⟨n3, n31, n34, n37⟩ _
 refine Ah (Ab (y_ (Am (T U) isAgg24 sizeOf24 U (by first | exact Bc)) ?_ U))
 refine e_ (Av (.cons (T U) .nil) call12 (buildM_s (e := sX) (.mk 4 ⟨#[]⟩ (some ⟨n37, 0, none⟩) 2 [(.mk 4 ⟨#[]⟩ (some ⟨n34, 0, none⟩) 2 [(.mk 4 ⟨#[]⟩ (some ⟨n31, 0, none⟩) 2 [(.mk 2 ⟨#[97]⟩ none 0 []), (.mk 6 ⟨#[]⟩ (some ⟨n27, 0, none⟩) 1 [(.mk 3 ⟨#[]⟩ none 0 [])])]), (.mk 2 ⟨#[99]⟩ none 0 [])]), (.mk 6 ⟨#[]⟩ (some ⟨n27, 0, none⟩) 1 [(.mk 3 ⟨#[]⟩ none 0 [])])]) (.seq (.seq (.seq (.nod (by decide)) (.star .any)) (.nod (by decide))) (.star .any)) (rx2 (rx2 (rx2 rx0 (rx1 rx0)) rx0) (rx1 rx0)) (by decide) sX_build)) ?_ U
 rintro _ _ ⟨m1, M1, ⟨rfl, hp1, hm1⟩, rfl⟩
 have hr1 : m1.rows.length = 4 := by have := congrArg (fun p => p.next.length) hp1; simpa [Mc.pl, sM] using this
 have hk1 : PMok m1.pl := by rw [hp1]; exact sM_ok
 have hs1 : Srt m1.names := by have := congrArg PM.names hp1; simp only [Mc.pl] at this; rw [this]; exact sM_srt
 have hn1 : m1.names.length = 2 := by have := congrArg (fun p => p.names.length) hp1; simpa [Mc.pl, sM] using this
 refine y_ (Ae (T U)) (y_ (Ay (T U) U) (y_ (Ay (T U) U) (e_ (Ap zeroValue29 cs_) ?_ U) U) U) U
 rintro _ _ ⟨n4, rfl, rfl⟩
 first | refine A0 (As (T U) (T U) sizeOf29) U Ag ?_
 rintro _ _ ⟨rfl, rfl⟩
 refine y_ (Ad (T U)) (Af (Ac (Ah (Ab (y_ (Am (T U) isAgg24 sizeOf24 U (by first | exact Bc)) ?_ U))))) U
 refine e_ (Av (.cons (T U) .nil) call12 (buildM_s (e := sany) (.mk 6 ⟨#[]⟩ (some ⟨n27, 0, none⟩) 1 [(.mk 3 ⟨#[]⟩ none 0 [])]) (.star .any) (rx1 rx0) (by decide) sA_build)) ?_ U
 rintro _ _ ⟨m2, M2, ⟨rfl, hp2, hm2⟩, rfl⟩
 have hr2 : m2.rows.length = 1 := by have := congrArg (fun p => p.next.length) hp2; simpa [Mc.pl] using this
 refine y_ (Ae (T U)) (y_ (Ay (T U) U) (y_ (Ay (T U) U) (e_ (Ap zeroValue29 cs_) ?_ U) U) U) U
 rintro _ _ ⟨n6, rfl, rfl⟩
 first | refine A0 (As (T U) (T U) sizeOf29) U Ag ?_
 rintro _ _ ⟨rfl, rfl⟩
 refine y_ (Ad (T U)) (Af (Ac (Ah (Ah (Ab (y_ (Ae (T U)) (y_ (C3 (T U) Ak) (y_ (Ae (T U)) (Bg (Ae (T U)) U (Ax U U (Aa U)) (Bg (C3 (T U) Ak) U (Ax U U (Aa U)) (y_ (Be (T U) (T U)) (y_ (Ae (T U)) (Bg (Bk (T U) Dc) U (Ax U U (Aa U)) (Bg (Ai (T U) isAgg26 (by first | exact c_o)) U (Ax U U (Aa U)) ?_)) U) U))) U) U) U)))))) U
 refine Bg (Bw (T U) runUnderlying26) U (Ax U U (Aa U)) (Bg (C3 (T U) Ak) U (Ax U U (Aa U)) (y_ (Be (T U) (T U)) (y_ (Ae (T U)) ?_ U) U))
 first | refine Ci (s := 61) (Aa U) (fun c61 => ?_) (fun c61 => ?_) | refine C1 (s := 61) (Aa U) (fun c61 => ?_) (fun c61 => ?_)
 ·exfalso; omega
 ·refine Bg (Bk (T U) Dc) U (Ax U U (Aa U)) (Bg (Ai (T U) isAgg26 (by first | exact c_o)) U (Ax U U (Aa U)) ?_)
  refine Bg (Bw (T U) runUnderlying26) U (Ax U U (Aa U)) (Bg (C3 (T U) Ak) U (Ax U U (Aa U)) (y_ (Be (T U) (T U)) (y_ (Ae (T U)) ?_ U) U))
  first | refine Ci (s := 67) (Aa U) (fun c67 => ?_) (fun c67 => ?_) | refine C1 (s := 67) (Aa U) (fun c67 => ?_) (fun c67 => ?_)
  ·exfalso; omega
  ·refine Bg (Am (T U) isAgg29 sizeOf29 U (by first | exact Bc)) U (Ax U U (Aa U)) ?_
   refine Bg (Aq (.cons (T U) .nil) call18 (fun H' hs => chkM_s m1 (hm1.mono (List.Sublist.trans sbt hs)) hk1 hs1 (by omega))) U (Ax U U (Aa U)) ?_
   refine Bg (C2 (T U)) U (Ax U U (Aa U)) (y_ (Be (T U) (T U)) (y_ (Ae (T U)) (Bg (Bq .nil (bd29_z)) U (Ax U U (Aa U)) (Bg (Aq (.cons (T U) .nil) call18 (fun H' hs => still_b (c := false) (b := chkI ⟨[], [], [], none, 0, none, 0, none, 0⟩) (by decide) (pcheck_s ⟨[], [], [], none, 0, none, 0, none, 0⟩ ⟨fun i x hi => (by cases hi), fun i x hi => (by cases hi), fun i x hi => (by cases hi), fun r hr => (by cases hr), by decide, by decide, fun r hr => (by cases hr)⟩))) U (Ax U U (Aa U)) ?_)) U) U)
   refine y_ (Be (T U) (T U)) (y_ (Ae (T U)) (Bg (Am (T U) isAgg24 sizeOf24 U (by first | exact Bc)) U (Ax U U (Aa U)) ?_) U) U
   refine A0 (An (.cons Ak (.cons Ak .nil)) (bs25_2_0_1 _ _)) U (Ax U U (Aa U)) ?_
   rintro _ _ ⟨n78, rfl, rfl⟩
   refine Bg (Aq (.cons (T rfl) (.cons (T rfl) .nil)) call16 (fun H' hs => still_b sM1 (match_s (.mk 4 ⟨#[]⟩ (some ⟨n37, 0, none⟩) 2 [(.mk 4 ⟨#[]⟩ (some ⟨n34, 0, none⟩) 2 [(.mk 4 ⟨#[]⟩ (some ⟨n31, 0, none⟩) 2 [(.mk 2 ⟨#[97]⟩ none 0 []), (.mk 6 ⟨#[]⟩ (some ⟨n27, 0, none⟩) 1 [(.mk 3 ⟨#[]⟩ none 0 [])])]), (.mk 2 ⟨#[99]⟩ none 0 [])]), (.mk 6 ⟨#[]⟩ (some ⟨n27, 0, none⟩) 1 [(.mk 3 ⟨#[]⟩ none 0 [])])]) sX (some ⟨n78, 0, none⟩) 2 [(⟨#[97]⟩ : ByteArray), (⟨#[99]⟩ : ByteArray)] (.seq (.seq (.seq (.nod (by decide)) (.star .any)) (.nod (by decide))) (.star .any)) (rxx_own fdd fdd fdd fdd hs) (by decide) (Di (l := [(⟨#[97]⟩ : ByteArray), (⟨#[99]⟩ : ByteArray)]) (cells := ([(⟨#[97]⟩ : ByteArray), (⟨#[99]⟩ : ByteArray)]).flatMap encS) (e := 9) (fun _ => rfl) rfl (Fnd.mono fdd hs)) (by decide)))) rfl (Ax rfl rfl (Aa rfl)) ?_
   refine Bg (C2 (T U)) U (Ax U U (Aa U)) (y_ (Be (T U) (T U)) (y_ (Ae (T U)) (Bg (Am (T U) isAgg24 sizeOf24 U (by first | exact Bc)) U (Ax U U (Aa U)) ?_) U) U)
   refine A0 (An (.cons Ak (.cons Ak (.cons Ak .nil))) (bs25_3_0_1_2 _ _ _)) U (Ax U U (Aa U)) ?_
   rintro _ _ ⟨n84, rfl, rfl⟩
   refine Bg (Aq (.cons (T rfl) (.cons (T rfl) .nil)) call16 (fun H' hs => still_b sM2 (match_s (.mk 4 ⟨#[]⟩ (some ⟨n37, 0, none⟩) 2 [(.mk 4 ⟨#[]⟩ (some ⟨n34, 0, none⟩) 2 [(.mk 4 ⟨#[]⟩ (some ⟨n31, 0, none⟩) 2 [(.mk 2 ⟨#[97]⟩ none 0 []), (.mk 6 ⟨#[]⟩ (some ⟨n27, 0, none⟩) 1 [(.mk 3 ⟨#[]⟩ none 0 [])])]), (.mk 2 ⟨#[99]⟩ none 0 [])]), (.mk 6 ⟨#[]⟩ (some ⟨n27, 0, none⟩) 1 [(.mk 3 ⟨#[]⟩ none 0 [])])]) sX (some ⟨n84, 0, none⟩) 3 [(⟨#[97]⟩ : ByteArray), (⟨#[98]⟩ : ByteArray), (⟨#[100]⟩ : ByteArray)] (.seq (.seq (.seq (.nod (by decide)) (.star .any)) (.nod (by decide))) (.star .any)) (rxx_own fdd fdd fdd fdd hs) (by decide) (Di (l := [(⟨#[97]⟩ : ByteArray), (⟨#[98]⟩ : ByteArray), (⟨#[100]⟩ : ByteArray)]) (cells := ([(⟨#[97]⟩ : ByteArray), (⟨#[98]⟩ : ByteArray), (⟨#[100]⟩ : ByteArray)]).flatMap encS) (e := 9) (fun _ => rfl) rfl (Fnd.mono fdd hs)) (by decide)))) rfl (Ax rfl rfl (Aa rfl)) ?_
   refine y_ (Be (T U) (T U)) (Af (Ac (Bt [(1, _), (3, _), (4, _), (86, _)] ⟨Aa U, Aa U, Aa U, Aa U, trivial⟩ ?_))) U
   first | refine B8 (Aa U) ?_ | refine B8 (Aj (Aa U) (vbool (decide_eq_false c86))) ?_
   refine A9 (Ac (Ah (Ab (y_ (Aq (.cons Ak .nil) call45 (fun H' hs => node_s ⟨#[97]⟩)) (y_ (Aq (.cons Ak .nil) call45 (fun H' hs => node_s ⟨#[98]⟩)) (e_ (Ap zeroValue24 cs_) ?_ U) U) U))))
   rintro _ _ ⟨n8, rfl, rfl⟩
   refine e_ (Ap zeroValue24 cs_) ?_ U
   rintro _ _ ⟨n9, rfl, rfl⟩
   first | refine A0 (As (T U) (T U) sizeOf24) U Ag ?_
   rintro _ _ ⟨rfl, rfl⟩
   first | refine A0 (As (T U) (T U) sizeOf24) U Ag ?_
   rintro _ _ ⟨rfl, rfl⟩
   refine Af (Ac ?_)
   refine j_cutH (X := Unit) (V := fun _ => [(11, .bool true), (12, .int .i64 0)]) (C := [(1, _), (3, _), (4, _), (8, _)]) (φ := fun _ => True) ⟨Aa U, Aa U, Aa U, Aa U, trivial⟩ ?_ ?_
   ·refine j_anyX 24 _ mixd (by kernel_rfl) sb0 ?_
    refine x_y (i := 0) U (by kernel_rfl) (Am (T U) isAgg24 sizeOf24 U (by first | exact Bc)) ?_ U Ag
    refine x_y (i := 1) U (by kernel_rfl) (Am (T U) isAgg24 sizeOf24 U (by first | exact Bc)) ?_ U Ag
    refine x_y (i := 6) U (by kernel_rfl) (Am (T U) isAgg24 sizeOf24 U (by first | exact Bc)) ?_ U Ag
    refine x_y (i := 9) U (by kernel_rfl) (Am (T U) isAgg24 sizeOf24 U (by first | exact Bc)) ?_ U Ag
    refine x_three (i := 2) (j := 7) (k := 10) (by kernel_rfl) (by kernel_rfl) ?_ ?_ ?_
    ·refine Br U (An (.cons (T U) (.cons (T U) .nil)) (B2 _ _ _ _ _ _ _ _ _ _)) ?_ U Ag
     rintro _ _ ⟨n92, rfl, rfl⟩
     refine ⟨sbt, (x_y (i := 3) U (by kernel_rfl) (Aq (.cons Ak (.cons (T U) .nil)) call26 (fun H' hs => Ch 5 (some ⟨n92, 0, none⟩) [(.mk 2 ⟨#[97]⟩ none 0 []), (.mk 2 ⟨#[98]⟩ none 0 [])] 2)) ?_ U Ag)⟩
     refine x_three (i := 4) (j := 7) (k := 10) (by kernel_rfl) (by kernel_rfl) ?_ ?_ ?_
     ·refine Br U (An (.cons (T U) .nil) (B0 _ _ _ _ _)) ?_ U Ag
      rintro _ _ ⟨n94, rfl, rfl⟩
      refine ⟨sbt, (x_y (i := 5) U (by kernel_rfl) (Aq (.cons Ak (.cons (T U) .nil)) call26 (fun H' hs => Ch 6 (some ⟨n94, 0, none⟩) [(.mk 5 ⟨#[]⟩ (some ⟨n92, 0, none⟩) 2 [(.mk 2 ⟨#[97]⟩ none 0 []), (.mk 2 ⟨#[98]⟩ none 0 [])])] 1)) ?_ U Ag)⟩
      refine C5 (i := 7) (j := 10) (by kernel_rfl) (by kernel_rfl) ?_ ?_
      ·refine Br U (An (.cons (T U) .nil) (B0 _ _ _ _ _)) ?_ U Ag
       rintro _ _ ⟨n97, rfl, rfl⟩
       refine ⟨sbt, (x_y (i := 8) U (by kernel_rfl) (Aq (.cons Ak (.cons (T U) .nil)) call26 (fun H' hs => Ch 6 (some ⟨n97, 0, none⟩) [(.mk 2 ⟨#[97]⟩ none 0 [])] 1)) ?_ U Ag)⟩
       refine Bx (i := 10) (by kernel_rfl) (by kernel_rfl) ?_
       refine Br U (An (.cons (T U) .nil) (B0 _ _ _ _ _)) ?_ U Ag
       rintro _ _ ⟨n100, rfl, rfl⟩
       refine ⟨sbt, (x_y (i := 11) U (by kernel_rfl) (Aq (.cons Ak (.cons (T U) .nil)) call26 (fun H' hs => Ch 6 (some ⟨n100, 0, none⟩) [(.mk 2 ⟨#[98]⟩ none 0 [])] 1)) ?_ U Ag)⟩
       refine Bx (i := 12) (by kernel_rfl) (by kernel_rfl) ?_
       refine Br U (An (.cons (T U) (.cons (T U) .nil)) (B2 _ _ _ _ _ _ _ _ _ _)) ?_ U Ag
       rintro _ _ ⟨n102, rfl, rfl⟩
       refine ⟨sbt, (x_y (i := 13) U (by kernel_rfl) (Aq (.cons Ak (.cons (T U) .nil)) call26 (fun H' hs => Ch 4 (some ⟨n102, 0, none⟩) [(.mk 6 ⟨#[]⟩ (some ⟨n97, 0, none⟩) 1 [(.mk 2 ⟨#[97]⟩ none 0 [])]), (.mk 6 ⟨#[]⟩ (some ⟨n100, 0, none⟩) 1 [(.mk 2 ⟨#[98]⟩ none 0 [])])] 2)) ?_ U Ag)⟩
       refine Bx (i := 14) (by kernel_rfl) (by kernel_rfl) ?_
       refine Br U (An (.cons (T U) .nil) (B0 _ _ _ _ _)) ?_ U Ag
       rintro _ _ ⟨n104, rfl, rfl⟩
       refine ⟨sbt, (x_y (i := 15) U (by kernel_rfl) (Aq (.cons Ak (.cons (T U) .nil)) call26 (fun H' hs => Ch 6 (some ⟨n104, 0, none⟩) [(.mk 4 ⟨#[]⟩ (some ⟨n102, 0, none⟩) 2 [(.mk 6 ⟨#[]⟩ (some ⟨n97, 0, none⟩) 1 [(.mk 2 ⟨#[97]⟩ none 0 [])]), (.mk 6 ⟨#[]⟩ (some ⟨n100, 0, none⟩) 1 [(.mk 2 ⟨#[98]⟩ none 0 [])])])] 1)) ?_ U Ag)⟩
       refine Bx (i := 16) (by kernel_rfl) (by kernel_rfl) ?_
       refine Br U (Av (.cons (T U) (.cons (T U) .nil)) call23 (C6 (.mk 6 ⟨#[]⟩ (some ⟨n94, 0, none⟩) 1 [(.mk 5 ⟨#[]⟩ (some ⟨n92, 0, none⟩) 2 [(.mk 2 ⟨#[97]⟩ none 0 []), (.mk 2 ⟨#[98]⟩ none 0 [])])]) (.mk 6 ⟨#[]⟩ (some ⟨n104, 0, none⟩) 1 [(.mk 4 ⟨#[]⟩ (some ⟨n102, 0, none⟩) 2 [(.mk 6 ⟨#[]⟩ (some ⟨n97, 0, none⟩) 1 [(.mk 2 ⟨#[97]⟩ none 0 [])]), (.mk 6 ⟨#[]⟩ (some ⟨n100, 0, none⟩) 1 [(.mk 2 ⟨#[98]⟩ none 0 [])])])]) (.star (.alt (.nod sa) (.nod sb'))) (.star (.seq (.star (.nod sa)) (.star (.nod sb')))) (.star (.alt (.nod (by decide)) (.nod (by decide)))) (.star (.seq (.star (.nod (by decide))) (.star (.nod (by decide))))) (rx1 (rx2 rx0 rx0)) (rx1 (rx2 (rx1 rx0) (rx1 rx0))) (by decide) (by decide) sE1)) ?_ U Ag
       rintro _ _ ⟨d1, ⟨rfl, hd1⟩, rfl⟩
       refine ⟨sbt, (x_y (i := 17) U (by kernel_rfl) (Ae (T U)) ?_ U Ag)⟩
       refine x_y (i := 18) U (by kernel_rfl) (Ay (T U) U) ?_ U Ag
       refine x_y (i := 19) U (by kernel_rfl) (Ay (T U) U) ?_ U Ag
       refine x_y (i := 20) U (by kernel_rfl) (Ay (T U) U) ?_ U Ag
       refine x_y (i := 21) U (by kernel_rfl) (Ad (T U)) ?_ U Ag
       refine x_y (i := 22) U (by kernel_rfl) (Ad (T U)) ?_ U Ag
       refine x_y (i := 23) U (by kernel_rfl) (Ad (T U)) ?_ U Ag
       refine Cj (by kernel_rfl) U ?_
       refine Af ?_
       refine Bl (()) ?_ ⟨atd, atd, trivial⟩ ⟨Aa U, Aa U, Aa U, Aa U, trivial⟩ sbt
       trivial
      ·refine Br U (An (.cons (T U) .nil) (B0 _ _ _ _ _)) ?_ U Ag
       rintro _ _ ⟨n100, rfl, rfl⟩
       refine ⟨sbt, (Bx (i := 7) (by kernel_rfl) (by kernel_rfl) ?_)⟩
       refine Br U (An (.cons (T U) .nil) (B0 _ _ _ _ _)) ?_ U Ag
       rintro _ _ ⟨n97, rfl, rfl⟩
       refine ⟨sbt, (x_y (i := 8) U (by kernel_rfl) (Aq (.cons Ak (.cons (T U) .nil)) call26 (fun H' hs => Ch 6 (some ⟨n97, 0, none⟩) [(.mk 2 ⟨#[97]⟩ none 0 [])] 1)) ?_ U Ag)⟩
       refine x_y (i := 11) U (by kernel_rfl) (Aq (.cons Ak (.cons (T U) .nil)) call26 (fun H' hs => Ch 6 (some ⟨n100, 0, none⟩) [(.mk 2 ⟨#[98]⟩ none 0 [])] 1)) ?_ U Ag
       refine Bx (i := 12) (by kernel_rfl) (by kernel_rfl) ?_
       refine Br U (An (.cons (T U) (.cons (T U) .nil)) (B2 _ _ _ _ _ _ _ _ _ _)) ?_ U Ag
       rintro _ _ ⟨n102, rfl, rfl⟩
       refine ⟨sbt, (x_y (i := 13) U (by kernel_rfl) (Aq (.cons Ak (.cons (T U) .nil)) call26 (fun H' hs => Ch 4 (some ⟨n102, 0, none⟩) [(.mk 6 ⟨#[]⟩ (some ⟨n97, 0, none⟩) 1 [(.mk 2 ⟨#[97]⟩ none 0 [])]), (.mk 6 ⟨#[]⟩ (some ⟨n100, 0, none⟩) 1 [(.mk 2 ⟨#[98]⟩ none 0 [])])] 2)) ?_ U Ag)⟩
       refine Bx (i := 14) (by kernel_rfl) (by kernel_rfl) ?_
       refine Br U (An (.cons (T U) .nil) (B0 _ _ _ _ _)) ?_ U Ag
       rintro _ _ ⟨n104, rfl, rfl⟩
       refine ⟨sbt, (x_y (i := 15) U (by kernel_rfl) (Aq (.cons Ak (.cons (T U) .nil)) call26 (fun H' hs => Ch 6 (some ⟨n104, 0, none⟩) [(.mk 4 ⟨#[]⟩ (some ⟨n102, 0, none⟩) 2 [(.mk 6 ⟨#[]⟩ (some ⟨n97, 0, none⟩) 1 [(.mk 2 ⟨#[97]⟩ none 0 [])]), (.mk 6 ⟨#[]⟩ (some ⟨n100, 0, none⟩) 1 [(.mk 2 ⟨#[98]⟩ none 0 [])])])] 1)) ?_ U Ag)⟩
       refine Bx (i := 16) (by kernel_rfl) (by kernel_rfl) ?_
       refine Br U (Av (.cons (T U) (.cons (T U) .nil)) call23 (C6 (.mk 6 ⟨#[]⟩ (some ⟨n94, 0, none⟩) 1 [(.mk 5 ⟨#[]⟩ (some ⟨n92, 0, none⟩) 2 [(.mk 2 ⟨#[97]⟩ none 0 []), (.mk 2 ⟨#[98]⟩ none 0 [])])]) (.mk 6 ⟨#[]⟩ (some ⟨n104, 0, none⟩) 1 [(.mk 4 ⟨#[]⟩ (some ⟨n102, 0, none⟩) 2 [(.mk 6 ⟨#[]⟩ (some ⟨n97, 0, none⟩) 1 [(.mk 2 ⟨#[97]⟩ none 0 [])]), (.mk 6 ⟨#[]⟩ (some ⟨n100, 0, none⟩) 1 [(.mk 2 ⟨#[98]⟩ none 0 [])])])]) (.star (.alt (.nod sa) (.nod sb'))) (.star (.seq (.star (.nod sa)) (.star (.nod sb')))) (.star (.alt (.nod (by decide)) (.nod (by decide)))) (.star (.seq (.star (.nod (by decide))) (.star (.nod (by decide))))) (rx1 (rx2 rx0 rx0)) (rx1 (rx2 (rx1 rx0) (rx1 rx0))) (by decide) (by decide) sE1)) ?_ U Ag
       rintro _ _ ⟨d1, ⟨rfl, hd1⟩, rfl⟩
       refine ⟨sbt, (x_y (i := 17) U (by kernel_rfl) (Ae (T U)) ?_ U Ag)⟩
       refine x_y (i := 18) U (by kernel_rfl) (Ay (T U) U) ?_ U Ag
       refine x_y (i := 19) U (by kernel_rfl) (Ay (T U) U) ?_ U Ag
       refine x_y (i := 20) U (by kernel_rfl) (Ay (T U) U) ?_ U Ag
       refine x_y (i := 21) U (by kernel_rfl) (Ad (T U)) ?_ U Ag
       refine x_y (i := 22) U (by kernel_rfl) (Ad (T U)) ?_ U Ag
       refine x_y (i := 23) U (by kernel_rfl) (Ad (T U)) ?_ U Ag
       refine Cj (by kernel_rfl) U ?_
       refine Af ?_
       refine Bl (()) ?_ ⟨atd, atd, trivial⟩ ⟨Aa U, Aa U, Aa U, Aa U, trivial⟩ sbt
       trivial
     ·refine Br U (An (.cons (T U) .nil) (B0 _ _ _ _ _)) ?_ U Ag
      rintro _ _ ⟨n97, rfl, rfl⟩
      refine ⟨sbt, ?_⟩
      refine C5 (i := 4) (j := 10) (by kernel_rfl) (by kernel_rfl) ?_ ?_
      ·refine Br U (An (.cons (T U) .nil) (B0 _ _ _ _ _)) ?_ U Ag
       rintro _ _ ⟨n94, rfl, rfl⟩
       refine ⟨sbt, (x_y (i := 5) U (by kernel_rfl) (Aq (.cons Ak (.cons (T U) .nil)) call26 (fun H' hs => Ch 6 (some ⟨n94, 0, none⟩) [(.mk 5 ⟨#[]⟩ (some ⟨n92, 0, none⟩) 2 [(.mk 2 ⟨#[97]⟩ none 0 []), (.mk 2 ⟨#[98]⟩ none 0 [])])] 1)) ?_ U Ag)⟩
       refine x_y (i := 8) U (by kernel_rfl) (Aq (.cons Ak (.cons (T U) .nil)) call26 (fun H' hs => Ch 6 (some ⟨n97, 0, none⟩) [(.mk 2 ⟨#[97]⟩ none 0 [])] 1)) ?_ U Ag
       refine Bx (i := 10) (by kernel_rfl) (by kernel_rfl) ?_
       refine Br U (An (.cons (T U) .nil) (B0 _ _ _ _ _)) ?_ U Ag
       rintro _ _ ⟨n100, rfl, rfl⟩
       refine ⟨sbt, (x_y (i := 11) U (by kernel_rfl) (Aq (.cons Ak (.cons (T U) .nil)) call26 (fun H' hs => Ch 6 (some ⟨n100, 0, none⟩) [(.mk 2 ⟨#[98]⟩ none 0 [])] 1)) ?_ U Ag)⟩
       refine Bx (i := 12) (by kernel_rfl) (by kernel_rfl) ?_
       refine Br U (An (.cons (T U) (.cons (T U) .nil)) (B2 _ _ _ _ _ _ _ _ _ _)) ?_ U Ag
       rintro _ _ ⟨n102, rfl, rfl⟩
       refine ⟨sbt, (x_y (i := 13) U (by kernel_rfl) (Aq (.cons Ak (.cons (T U) .nil)) call26 (fun H' hs => Ch 4 (some ⟨n102, 0, none⟩) [(.mk 6 ⟨#[]⟩ (some ⟨n97, 0, none⟩) 1 [(.mk 2 ⟨#[97]⟩ none 0 [])]), (.mk 6 ⟨#[]⟩ (some ⟨n100, 0, none⟩) 1 [(.mk 2 ⟨#[98]⟩ none 0 [])])] 2)) ?_ U Ag)⟩
       refine Bx (i := 14) (by kernel_rfl) (by kernel_rfl) ?_
       refine Br U (An (.cons (T U) .nil) (B0 _ _ _ _ _)) ?_ U Ag
       rintro _ _ ⟨n104, rfl, rfl⟩
       refine ⟨sbt, (x_y (i := 15) U (by kernel_rfl) (Aq (.cons Ak (.cons (T U) .nil)) call26 (fun H' hs => Ch 6 (some ⟨n104, 0, none⟩) [(.mk 4 ⟨#[]⟩ (some ⟨n102, 0, none⟩) 2 [(.mk 6 ⟨#[]⟩ (some ⟨n97, 0, none⟩) 1 [(.mk 2 ⟨#[97]⟩ none 0 [])]), (.mk 6 ⟨#[]⟩ (some ⟨n100, 0, none⟩) 1 [(.mk 2 ⟨#[98]⟩ none 0 [])])])] 1)) ?_ U Ag)⟩
       refine Bx (i := 16) (by kernel_rfl) (by kernel_rfl) ?_
       refine Br U (Av (.cons (T U) (.cons (T U) .nil)) call23 (C6 (.mk 6 ⟨#[]⟩ (some ⟨n94, 0, none⟩) 1 [(.mk 5 ⟨#[]⟩ (some ⟨n92, 0, none⟩) 2 [(.mk 2 ⟨#[97]⟩ none 0 []), (.mk 2 ⟨#[98]⟩ none 0 [])])]) (.mk 6 ⟨#[]⟩ (some ⟨n104, 0, none⟩) 1 [(.mk 4 ⟨#[]⟩ (some ⟨n102, 0, none⟩) 2 [(.mk 6 ⟨#[]⟩ (some ⟨n97, 0, none⟩) 1 [(.mk 2 ⟨#[97]⟩ none 0 [])]), (.mk 6 ⟨#[]⟩ (some ⟨n100, 0, none⟩) 1 [(.mk 2 ⟨#[98]⟩ none 0 [])])])]) (.star (.alt (.nod sa) (.nod sb'))) (.star (.seq (.star (.nod sa)) (.star (.nod sb')))) (.star (.alt (.nod (by decide)) (.nod (by decide)))) (.star (.seq (.star (.nod (by decide))) (.star (.nod (by decide))))) (rx1 (rx2 rx0 rx0)) (rx1 (rx2 (rx1 rx0) (rx1 rx0))) (by decide) (by decide) sE1)) ?_ U Ag
       rintro _ _ ⟨d1, ⟨rfl, hd1⟩, rfl⟩
       refine ⟨sbt, (x_y (i := 17) U (by kernel_rfl) (Ae (T U)) ?_ U Ag)⟩
       refine x_y (i := 18) U (by kernel_rfl) (Ay (T U) U) ?_ U Ag
       refine x_y (i := 19) U (by kernel_rfl) (Ay (T U) U) ?_ U Ag
       refine x_y (i := 20) U (by kernel_rfl) (Ay (T U) U) ?_ U Ag
       refine x_y (i := 21) U (by kernel_rfl) (Ad (T U)) ?_ U Ag
       refine x_y (i := 22) U (by kernel_rfl) (Ad (T U)) ?_ U Ag
       refine x_y (i := 23) U (by kernel_rfl) (Ad (T U)) ?_ U Ag
       refine Cj (by kernel_rfl) U ?_
       refine Af ?_
       refine Bl (()) ?_ ⟨atd, atd, trivial⟩ ⟨Aa U, Aa U, Aa U, Aa U, trivial⟩ sbt
       trivial
      ·refine Br U (An (.cons (T U) .nil) (B0 _ _ _ _ _)) ?_ U Ag
       rintro _ _ ⟨n100, rfl, rfl⟩
       refine ⟨sbt, (Bx (i := 4) (by kernel_rfl) (by kernel_rfl) ?_)⟩
       refine Br U (An (.cons (T U) .nil) (B0 _ _ _ _ _)) ?_ U Ag
       rintro _ _ ⟨n94, rfl, rfl⟩
       refine ⟨sbt, (x_y (i := 5) U (by kernel_rfl) (Aq (.cons Ak (.cons (T U) .nil)) call26 (fun H' hs => Ch 6 (some ⟨n94, 0, none⟩) [(.mk 5 ⟨#[]⟩ (some ⟨n92, 0, none⟩) 2 [(.mk 2 ⟨#[97]⟩ none 0 []), (.mk 2 ⟨#[98]⟩ none 0 [])])] 1)) ?_ U Ag)⟩
       refine x_y (i := 8) U (by kernel_rfl) (Aq (.cons Ak (.cons (T U) .nil)) call26 (fun H' hs => Ch 6 (some ⟨n97, 0, none⟩) [(.mk 2 ⟨#[97]⟩ none 0 [])] 1)) ?_ U Ag
       refine x_y (i := 11) U (by kernel_rfl) (Aq (.cons Ak (.cons (T U) .nil)) call26 (fun H' hs => Ch 6 (some ⟨n100, 0, none⟩) [(.mk 2 ⟨#[98]⟩ none 0 [])] 1)) ?_ U Ag
       refine Bx (i := 12) (by kernel_rfl) (by kernel_rfl) ?_
       refine Br U (An (.cons (T U) (.cons (T U) .nil)) (B2 _ _ _ _ _ _ _ _ _ _)) ?_ U Ag
       rintro _ _ ⟨n102, rfl, rfl⟩
       refine ⟨sbt, (x_y (i := 13) U (by kernel_rfl) (Aq (.cons Ak (.cons (T U) .nil)) call26 (fun H' hs => Ch 4 (some ⟨n102, 0, none⟩) [(.mk 6 ⟨#[]⟩ (some ⟨n97, 0, none⟩) 1 [(.mk 2 ⟨#[97]⟩ none 0 [])]), (.mk 6 ⟨#[]⟩ (some ⟨n100, 0, none⟩) 1 [(.mk 2 ⟨#[98]⟩ none 0 [])])] 2)) ?_ U Ag)⟩
       refine Bx (i := 14) (by kernel_rfl) (by kernel_rfl) ?_
       refine Br U (An (.cons (T U) .nil) (B0 _ _ _ _ _)) ?_ U Ag
       rintro _ _ ⟨n104, rfl, rfl⟩
       refine ⟨sbt, (x_y (i := 15) U (by kernel_rfl) (Aq (.cons Ak (.cons (T U) .nil)) call26 (fun H' hs => Ch 6 (some ⟨n104, 0, none⟩) [(.mk 4 ⟨#[]⟩ (some ⟨n102, 0, none⟩) 2 [(.mk 6 ⟨#[]⟩ (some ⟨n97, 0, none⟩) 1 [(.mk 2 ⟨#[97]⟩ none 0 [])]), (.mk 6 ⟨#[]⟩ (some ⟨n100, 0, none⟩) 1 [(.mk 2 ⟨#[98]⟩ none 0 [])])])] 1)) ?_ U Ag)⟩
       refine Bx (i := 16) (by kernel_rfl) (by kernel_rfl) ?_
       refine Br U (Av (.cons (T U) (.cons (T U) .nil)) call23 (C6 (.mk 6 ⟨#[]⟩ (some ⟨n94, 0, none⟩) 1 [(.mk 5 ⟨#[]⟩ (some ⟨n92, 0, none⟩) 2 [(.mk 2 ⟨#[97]⟩ none 0 []), (.mk 2 ⟨#[98]⟩ none 0 [])])]) (.mk 6 ⟨#[]⟩ (some ⟨n104, 0, none⟩) 1 [(.mk 4 ⟨#[]⟩ (some ⟨n102, 0, none⟩) 2 [(.mk 6 ⟨#[]⟩ (some ⟨n97, 0, none⟩) 1 [(.mk 2 ⟨#[97]⟩ none 0 [])]), (.mk 6 ⟨#[]⟩ (some ⟨n100, 0, none⟩) 1 [(.mk 2 ⟨#[98]⟩ none 0 [])])])]) (.star (.alt (.nod sa) (.nod sb'))) (.star (.seq (.star (.nod sa)) (.star (.nod sb')))) (.star (.alt (.nod (by decide)) (.nod (by decide)))) (.star (.seq (.star (.nod (by decide))) (.star (.nod (by decide))))) (rx1 (rx2 rx0 rx0)) (rx1 (rx2 (rx1 rx0) (rx1 rx0))) (by decide) (by decide) sE1)) ?_ U Ag
       rintro _ _ ⟨d1, ⟨rfl, hd1⟩, rfl⟩
       refine ⟨sbt, (x_y (i := 17) U (by kernel_rfl) (Ae (T U)) ?_ U Ag)⟩
       refine x_y (i := 18) U (by kernel_rfl) (Ay (T U) U) ?_ U Ag
       refine x_y (i := 19) U (by kernel_rfl) (Ay (T U) U) ?_ U Ag
       refine x_y (i := 20) U (by kernel_rfl) (Ay (T U) U) ?_ U Ag
       refine x_y (i := 21) U (by kernel_rfl) (Ad (T U)) ?_ U Ag
       refine x_y (i := 22) U (by kernel_rfl) (Ad (T U)) ?_ U Ag
       refine x_y (i := 23) U (by kernel_rfl) (Ad (T U)) ?_ U Ag
       refine Cj (by kernel_rfl) U ?_
       refine Af ?_
       refine Bl (()) ?_ ⟨atd, atd, trivial⟩ ⟨Aa U, Aa U, Aa U, Aa U, trivial⟩ sbt
       trivial
     ·refine Br U (An (.cons (T U) .nil) (B0 _ _ _ _ _)) ?_ U Ag
      rintro _ _ ⟨n100, rfl, rfl⟩
      refine ⟨sbt, ?_⟩
      refine C5 (i := 4) (j := 7) (by kernel_rfl) (by kernel_rfl) ?_ ?_
      ·refine Br U (An (.cons (T U) .nil) (B0 _ _ _ _ _)) ?_ U Ag
       rintro _ _ ⟨n94, rfl, rfl⟩
       refine ⟨sbt, (x_y (i := 5) U (by kernel_rfl) (Aq (.cons Ak (.cons (T U) .nil)) call26 (fun H' hs => Ch 6 (some ⟨n94, 0, none⟩) [(.mk 5 ⟨#[]⟩ (some ⟨n92, 0, none⟩) 2 [(.mk 2 ⟨#[97]⟩ none 0 []), (.mk 2 ⟨#[98]⟩ none 0 [])])] 1)) ?_ U Ag)⟩
       refine Bx (i := 7) (by kernel_rfl) (by kernel_rfl) ?_
       refine Br U (An (.cons (T U) .nil) (B0 _ _ _ _ _)) ?_ U Ag
       rintro _ _ ⟨n97, rfl, rfl⟩
       refine ⟨sbt, (x_y (i := 8) U (by kernel_rfl) (Aq (.cons Ak (.cons (T U) .nil)) call26 (fun H' hs => Ch 6 (some ⟨n97, 0, none⟩) [(.mk 2 ⟨#[97]⟩ none 0 [])] 1)) ?_ U Ag)⟩
       refine x_y (i := 11) U (by kernel_rfl) (Aq (.cons Ak (.cons (T U) .nil)) call26 (fun H' hs => Ch 6 (some ⟨n100, 0, none⟩) [(.mk 2 ⟨#[98]⟩ none 0 [])] 1)) ?_ U Ag
       refine Bx (i := 12) (by kernel_rfl) (by kernel_rfl) ?_
       refine Br U (An (.cons (T U) (.cons (T U) .nil)) (B2 _ _ _ _ _ _ _ _ _ _)) ?_ U Ag
       rintro _ _ ⟨n102, rfl, rfl⟩
       refine ⟨sbt, (x_y (i := 13) U (by kernel_rfl) (Aq (.cons Ak (.cons (T U) .nil)) call26 (fun H' hs => Ch 4 (some ⟨n102, 0, none⟩) [(.mk 6 ⟨#[]⟩ (some ⟨n97, 0, none⟩) 1 [(.mk 2 ⟨#[97]⟩ none 0 [])]), (.mk 6 ⟨#[]⟩ (some ⟨n100, 0, none⟩) 1 [(.mk 2 ⟨#[98]⟩ none 0 [])])] 2)) ?_ U Ag)⟩
       refine Bx (i := 14) (by kernel_rfl) (by kernel_rfl) ?_
       refine Br U (An (.cons (T U) .nil) (B0 _ _ _ _ _)) ?_ U Ag
       rintro _ _ ⟨n104, rfl, rfl⟩
       refine ⟨sbt, (x_y (i := 15) U (by kernel_rfl) (Aq (.cons Ak (.cons (T U) .nil)) call26 (fun H' hs => Ch 6 (some ⟨n104, 0, none⟩) [(.mk 4 ⟨#[]⟩ (some ⟨n102, 0, none⟩) 2 [(.mk 6 ⟨#[]⟩ (some ⟨n97, 0, none⟩) 1 [(.mk 2 ⟨#[97]⟩ none 0 [])]), (.mk 6 ⟨#[]⟩ (some ⟨n100, 0, none⟩) 1 [(.mk 2 ⟨#[98]⟩ none 0 [])])])] 1)) ?_ U Ag)⟩
       refine Bx (i := 16) (by kernel_rfl) (by kernel_rfl) ?_
       refine Br U (Av (.cons (T U) (.cons (T U) .nil)) call23 (C6 (.mk 6 ⟨#[]⟩ (some ⟨n94, 0, none⟩) 1 [(.mk 5 ⟨#[]⟩ (some ⟨n92, 0, none⟩) 2 [(.mk 2 ⟨#[97]⟩ none 0 []), (.mk 2 ⟨#[98]⟩ none 0 [])])]) (.mk 6 ⟨#[]⟩ (some ⟨n104, 0, none⟩) 1 [(.mk 4 ⟨#[]⟩ (some ⟨n102, 0, none⟩) 2 [(.mk 6 ⟨#[]⟩ (some ⟨n97, 0, none⟩) 1 [(.mk 2 ⟨#[97]⟩ none 0 [])]), (.mk 6 ⟨#[]⟩ (some ⟨n100, 0, none⟩) 1 [(.mk 2 ⟨#[98]⟩ none 0 [])])])]) (.star (.alt (.nod sa) (.nod sb'))) (.star (.seq (.star (.nod sa)) (.star (.nod sb')))) (.star (.alt (.nod (by decide)) (.nod (by decide)))) (.star (.seq (.star (.nod (by decide))) (.star (.nod (by decide))))) (rx1 (rx2 rx0 rx0)) (rx1 (rx2 (rx1 rx0) (rx1 rx0))) (by decide) (by decide) sE1)) ?_ U Ag
       rintro _ _ ⟨d1, ⟨rfl, hd1⟩, rfl⟩
       refine ⟨sbt, (x_y (i := 17) U (by kernel_rfl) (Ae (T U)) ?_ U Ag)⟩
       refine x_y (i := 18) U (by kernel_rfl) (Ay (T U) U) ?_ U Ag
       refine x_y (i := 19) U (by kernel_rfl) (Ay (T U) U) ?_ U Ag
       refine x_y (i := 20) U (by kernel_rfl) (Ay (T U) U) ?_ U Ag
       refine x_y (i := 21) U (by kernel_rfl) (Ad (T U)) ?_ U Ag
       refine x_y (i := 22) U (by kernel_rfl) (Ad (T U)) ?_ U Ag
       refine x_y (i := 23) U (by kernel_rfl) (Ad (T U)) ?_ U Ag
       refine Cj (by kernel_rfl) U ?_
       refine Af ?_
       refine Bl (()) ?_ ⟨atd, atd, trivial⟩ ⟨Aa U, Aa U, Aa U, Aa U, trivial⟩ sbt
       trivial
      ·refine Br U (An (.cons (T U) .nil) (B0 _ _ _ _ _)) ?_ U Ag
       rintro _ _ ⟨n97, rfl, rfl⟩
       refine ⟨sbt, (Bx (i := 4) (by kernel_rfl) (by kernel_rfl) ?_)⟩
       refine Br U (An (.cons (T U) .nil) (B0 _ _ _ _ _)) ?_ U Ag
       rintro _ _ ⟨n94, rfl, rfl⟩
       refine ⟨sbt, (x_y (i := 5) U (by kernel_rfl) (Aq (.cons Ak (.cons (T U) .nil)) call26 (fun H' hs => Ch 6 (some ⟨n94, 0, none⟩) [(.mk 5 ⟨#[]⟩ (some ⟨n92, 0, none⟩) 2 [(.mk 2 ⟨#[97]⟩ none 0 []), (.mk 2 ⟨#[98]⟩ none 0 [])])] 1)) ?_ U Ag)⟩
       refine x_y (i := 8) U (by kernel_rfl) (Aq (.cons Ak (.cons (T U) .nil)) call26 (fun H' hs => Ch 6 (some ⟨n97, 0, none⟩) [(.mk 2 ⟨#[97]⟩ none 0 [])] 1)) ?_ U Ag
       refine x_y (i := 11) U (by kernel_rfl) (Aq (.cons Ak (.cons (T U) .nil)) call26 (fun H' hs => Ch 6 (some ⟨n100, 0, none⟩) [(.mk 2 ⟨#[98]⟩ none 0 [])] 1)) ?_ U Ag
       refine Bx (i := 12) (by kernel_rfl) (by kernel_rfl) ?_
       refine Br U (An (.cons (T U) (.cons (T U) .nil)) (B2 _ _ _ _ _ _ _ _ _ _)) ?_ U Ag
       rintro _ _ ⟨n102, rfl, rfl⟩
       refine ⟨sbt, (x_y (i := 13) U (by kernel_rfl) (Aq (.cons Ak (.cons (T U) .nil)) call26 (fun H' hs => Ch 4 (some ⟨n102, 0, none⟩) [(.mk 6 ⟨#[]⟩ (some ⟨n97, 0, none⟩) 1 [(.mk 2 ⟨#[97]⟩ none 0 [])]), (.mk 6 ⟨#[]⟩ (some ⟨n100, 0, none⟩) 1 [(.mk 2 ⟨#[98]⟩ none 0 [])])] 2)) ?_ U Ag)⟩
       refine Bx (i := 14) (by kernel_rfl) (by kernel_rfl) ?_
       refine Br U (An (.cons (T U) .nil) (B0 _ _ _ _ _)) ?_ U Ag
       rintro _ _ ⟨n104, rfl, rfl⟩
       refine ⟨sbt, (x_y (i := 15) U (by kernel_rfl) (Aq (.cons Ak (.cons (T U) .nil)) call26 (fun H' hs => Ch 6 (some ⟨n104, 0, none⟩) [(.mk 4 ⟨#[]⟩ (some ⟨n102, 0, none⟩) 2 [(.mk 6 ⟨#[]⟩ (some ⟨n97, 0, none⟩) 1 [(.mk 2 ⟨#[97]⟩ none 0 [])]), (.mk 6 ⟨#[]⟩ (some ⟨n100, 0, none⟩) 1 [(.mk 2 ⟨#[98]⟩ none 0 [])])])] 1)) ?_ U Ag)⟩
       refine Bx (i := 16) (by kernel_rfl) (by kernel_rfl) ?_
       refine Br U (Av (.cons (T U) (.cons (T U) .nil)) call23 (C6 (.mk 6 ⟨#[]⟩ (some ⟨n94, 0, none⟩) 1 [(.mk 5 ⟨#[]⟩ (some ⟨n92, 0, none⟩) 2 [(.mk 2 ⟨#[97]⟩ none 0 []), (.mk 2 ⟨#[98]⟩ none 0 [])])]) (.mk 6 ⟨#[]⟩ (some ⟨n104, 0, none⟩) 1 [(.mk 4 ⟨#[]⟩ (some ⟨n102, 0, none⟩) 2 [(.mk 6 ⟨#[]⟩ (some ⟨n97, 0, none⟩) 1 [(.mk 2 ⟨#[97]⟩ none 0 [])]), (.mk 6 ⟨#[]⟩ (some ⟨n100, 0, none⟩) 1 [(.mk 2 ⟨#[98]⟩ none 0 [])])])]) (.star (.alt (.nod sa) (.nod sb'))) (.star (.seq (.star (.nod sa)) (.star (.nod sb')))) (.star (.alt (.nod (by decide)) (.nod (by decide)))) (.star (.seq (.star (.nod (by decide))) (.star (.nod (by decide))))) (rx1 (rx2 rx0 rx0)) (rx1 (rx2 (rx1 rx0) (rx1 rx0))) (by decide) (by decide) sE1)) ?_ U Ag
       rintro _ _ ⟨d1, ⟨rfl, hd1⟩, rfl⟩
       refine ⟨sbt, (x_y (i := 17) U (by kernel_rfl) (Ae (T U)) ?_ U Ag)⟩
       refine x_y (i := 18) U (by kernel_rfl) (Ay (T U) U) ?_ U Ag
       refine x_y (i := 19) U (by kernel_rfl) (Ay (T U) U) ?_ U Ag
       refine x_y (i := 20) U (by kernel_rfl) (Ay (T U) U) ?_ U Ag
       refine x_y (i := 21) U (by kernel_rfl) (Ad (T U)) ?_ U Ag
       refine x_y (i := 22) U (by kernel_rfl) (Ad (T U)) ?_ U Ag
       refine x_y (i := 23) U (by kernel_rfl) (Ad (T U)) ?_ U Ag
       refine Cj (by kernel_rfl) U ?_
       refine Af ?_
       refine Bl (()) ?_ ⟨atd, atd, trivial⟩ ⟨Aa U, Aa U, Aa U, Aa U, trivial⟩ sbt
       trivial
    ·refine Br U (An (.cons (T U) .nil) (B0 _ _ _ _ _)) ?_ U Ag
     rintro _ _ ⟨n97, rfl, rfl⟩
     refine ⟨sbt, ?_⟩
     refine C5 (i := 2) (j := 10) (by kernel_rfl) (by kernel_rfl) ?_ ?_
     ·refine Br U (An (.cons (T U) (.cons (T U) .nil)) (B2 _ _ _ _ _ _ _ _ _ _)) ?_ U Ag
      rintro _ _ ⟨n92, rfl, rfl⟩
      refine ⟨sbt, (x_y (i := 3) U (by kernel_rfl) (Aq (.cons Ak (.cons (T U) .nil)) call26 (fun H' hs => Ch 5 (some ⟨n92, 0, none⟩) [(.mk 2 ⟨#[97]⟩ none 0 []), (.mk 2 ⟨#[98]⟩ none 0 [])] 2)) ?_ U Ag)⟩
      refine C5 (i := 4) (j := 10) (by kernel_rfl) (by kernel_rfl) ?_ ?_
      ·refine Br U (An (.cons (T U) .nil) (B0 _ _ _ _ _)) ?_ U Ag
       rintro _ _ ⟨n94, rfl, rfl⟩
       refine ⟨sbt, (x_y (i := 5) U (by kernel_rfl) (Aq (.cons Ak (.cons (T U) .nil)) call26 (fun H' hs => Ch 6 (some ⟨n94, 0, none⟩) [(.mk 5 ⟨#[]⟩ (some ⟨n92, 0, none⟩) 2 [(.mk 2 ⟨#[97]⟩ none 0 []), (.mk 2 ⟨#[98]⟩ none 0 [])])] 1)) ?_ U Ag)⟩
       refine x_y (i := 8) U (by kernel_rfl) (Aq (.cons Ak (.cons (T U) .nil)) call26 (fun H' hs => Ch 6 (some ⟨n97, 0, none⟩) [(.mk 2 ⟨#[97]⟩ none 0 [])] 1)) ?_ U Ag
       refine Bx (i := 10) (by kernel_rfl) (by kernel_rfl) ?_
       refine Br U (An (.cons (T U) .nil) (B0 _ _ _ _ _)) ?_ U Ag
       rintro _ _ ⟨n100, rfl, rfl⟩
       refine ⟨sbt, (x_y (i := 11) U (by kernel_rfl) (Aq (.cons Ak (.cons (T U) .nil)) call26 (fun H' hs => Ch 6 (some ⟨n100, 0, none⟩) [(.mk 2 ⟨#[98]⟩ none 0 [])] 1)) ?_ U Ag)⟩
       refine Bx (i := 12) (by kernel_rfl) (by kernel_rfl) ?_
       refine Br U (An (.cons (T U) (.cons (T U) .nil)) (B2 _ _ _ _ _ _ _ _ _ _)) ?_ U Ag
       rintro _ _ ⟨n102, rfl, rfl⟩
       refine ⟨sbt, (x_y (i := 13) U (by kernel_rfl) (Aq (.cons Ak (.cons (T U) .nil)) call26 (fun H' hs => Ch 4 (some ⟨n102, 0, none⟩) [(.mk 6 ⟨#[]⟩ (some ⟨n97, 0, none⟩) 1 [(.mk 2 ⟨#[97]⟩ none 0 [])]), (.mk 6 ⟨#[]⟩ (some ⟨n100, 0, none⟩) 1 [(.mk 2 ⟨#[98]⟩ none 0 [])])] 2)) ?_ U Ag)⟩
       refine Bx (i := 14) (by kernel_rfl) (by kernel_rfl) ?_
       refine Br U (An (.cons (T U) .nil) (B0 _ _ _ _ _)) ?_ U Ag
       rintro _ _ ⟨n104, rfl, rfl⟩
       refine ⟨sbt, (x_y (i := 15) U (by kernel_rfl) (Aq (.cons Ak (.cons (T U) .nil)) call26 (fun H' hs => Ch 6 (some ⟨n104, 0, none⟩) [(.mk 4 ⟨#[]⟩ (some ⟨n102, 0, none⟩) 2 [(.mk 6 ⟨#[]⟩ (some ⟨n97, 0, none⟩) 1 [(.mk 2 ⟨#[97]⟩ none 0 [])]), (.mk 6 ⟨#[]⟩ (some ⟨n100, 0, none⟩) 1 [(.mk 2 ⟨#[98]⟩ none 0 [])])])] 1)) ?_ U Ag)⟩
       refine Bx (i := 16) (by kernel_rfl) (by kernel_rfl) ?_
       refine Br U (Av (.cons (T U) (.cons (T U) .nil)) call23 (C6 (.mk 6 ⟨#[]⟩ (some ⟨n94, 0, none⟩) 1 [(.mk 5 ⟨#[]⟩ (some ⟨n92, 0, none⟩) 2 [(.mk 2 ⟨#[97]⟩ none 0 []), (.mk 2 ⟨#[98]⟩ none 0 [])])]) (.mk 6 ⟨#[]⟩ (some ⟨n104, 0, none⟩) 1 [(.mk 4 ⟨#[]⟩ (some ⟨n102, 0, none⟩) 2 [(.mk 6 ⟨#[]⟩ (some ⟨n97, 0, none⟩) 1 [(.mk 2 ⟨#[97]⟩ none 0 [])]), (.mk 6 ⟨#[]⟩ (some ⟨n100, 0, none⟩) 1 [(.mk 2 ⟨#[98]⟩ none 0 [])])])]) (.star (.alt (.nod sa) (.nod sb'))) (.star (.seq (.star (.nod sa)) (.star (.nod sb')))) (.star (.alt (.nod (by decide)) (.nod (by decide)))) (.star (.seq (.star (.nod (by decide))) (.star (.nod (by decide))))) (rx1 (rx2 rx0 rx0)) (rx1 (rx2 (rx1 rx0) (rx1 rx0))) (by decide) (by decide) sE1)) ?_ U Ag
       rintro _ _ ⟨d1, ⟨rfl, hd1⟩, rfl⟩
       refine ⟨sbt, (x_y (i := 17) U (by kernel_rfl) (Ae (T U)) ?_ U Ag)⟩
       refine x_y (i := 18) U (by kernel_rfl) (Ay (T U) U) ?_ U Ag
       refine x_y (i := 19) U (by kernel_rfl) (Ay (T U) U) ?_ U Ag
       refine x_y (i := 20) U (by kernel_rfl) (Ay (T U) U) ?_ U Ag
       refine x_y (i := 21) U (by kernel_rfl) (Ad (T U)) ?_ U Ag
       refine x_y (i := 22) U (by kernel_rfl) (Ad (T U)) ?_ U Ag
       refine x_y (i := 23) U (by kernel_rfl) (Ad (T U)) ?_ U Ag
       refine Cj (by kernel_rfl) U ?_
       refine Af ?_
       refine Bl (()) ?_ ⟨atd, atd, trivial⟩ ⟨Aa U, Aa U, Aa U, Aa U, trivial⟩ sbt
       trivial
      ·refine Br U (An (.cons (T U) .nil) (B0 _ _ _ _ _)) ?_ U Ag
       rintro _ _ ⟨n100, rfl, rfl⟩
       refine ⟨sbt, (Bx (i := 4) (by kernel_rfl) (by kernel_rfl) ?_)⟩
       refine Br U (An (.cons (T U) .nil) (B0 _ _ _ _ _)) ?_ U Ag
       rintro _ _ ⟨n94, rfl, rfl⟩
       refine ⟨sbt, (x_y (i := 5) U (by kernel_rfl) (Aq (.cons Ak (.cons (T U) .nil)) call26 (fun H' hs => Ch 6 (some ⟨n94, 0, none⟩) [(.mk 5 ⟨#[]⟩ (some ⟨n92, 0, none⟩) 2 [(.mk 2 ⟨#[97]⟩ none 0 []), (.mk 2 ⟨#[98]⟩ none 0 [])])] 1)) ?_ U Ag)⟩
       refine x_y (i := 8) U (by kernel_rfl) (Aq (.cons Ak (.cons (T U) .nil)) call26 (fun H' hs => Ch 6 (some ⟨n97, 0, none⟩) [(.mk 2 ⟨#[97]⟩ none 0 [])] 1)) ?_ U Ag
       refine x_y (i := 11) U (by kernel_rfl) (Aq (.cons Ak (.cons (T U) .nil)) call26 (fun H' hs => Ch 6 (some ⟨n100, 0, none⟩) [(.mk 2 ⟨#[98]⟩ none 0 [])] 1)) ?_ U Ag
       refine Bx (i := 12) (by kernel_rfl) (by kernel_rfl) ?_
       refine Br U (An (.cons (T U) (.cons (T U) .nil)) (B2 _ _ _ _ _ _ _ _ _ _)) ?_ U Ag
       rintro _ _ ⟨n102, rfl, rfl⟩
       refine ⟨sbt, (x_y (i := 13) U (by kernel_rfl) (Aq (.cons Ak (.cons (T U) .nil)) call26 (fun H' hs => Ch 4 (some ⟨n102, 0, none⟩) [(.mk 6 ⟨#[]⟩ (some ⟨n97, 0, none⟩) 1 [(.mk 2 ⟨#[97]⟩ none 0 [])]), (.mk 6 ⟨#[]⟩ (some ⟨n100, 0, none⟩) 1 [(.mk 2 ⟨#[98]⟩ none 0 [])])] 2)) ?_ U Ag)⟩
       refine Bx (i := 14) (by kernel_rfl) (by kernel_rfl) ?_
       refine Br U (An (.cons (T U) .nil) (B0 _ _ _ _ _)) ?_ U Ag
       rintro _ _ ⟨n104, rfl, rfl⟩
       refine ⟨sbt, (x_y (i := 15) U (by kernel_rfl) (Aq (.cons Ak (.cons (T U) .nil)) call26 (fun H' hs => Ch 6 (some ⟨n104, 0, none⟩) [(.mk 4 ⟨#[]⟩ (some ⟨n102, 0, none⟩) 2 [(.mk 6 ⟨#[]⟩ (some ⟨n97, 0, none⟩) 1 [(.mk 2 ⟨#[97]⟩ none 0 [])]), (.mk 6 ⟨#[]⟩ (some ⟨n100, 0, none⟩) 1 [(.mk 2 ⟨#[98]⟩ none 0 [])])])] 1)) ?_ U Ag)⟩
       refine Bx (i := 16) (by kernel_rfl) (by kernel_rfl) ?_
       refine Br U (Av (.cons (T U) (.cons (T U) .nil)) call23 (C6 (.mk 6 ⟨#[]⟩ (some ⟨n94, 0, none⟩) 1 [(.mk 5 ⟨#[]⟩ (some ⟨n92, 0, none⟩) 2 [(.mk 2 ⟨#[97]⟩ none 0 []), (.mk 2 ⟨#[98]⟩ none 0 [])])]) (.mk 6 ⟨#[]⟩ (some ⟨n104, 0, none⟩) 1 [(.mk 4 ⟨#[]⟩ (some ⟨n102, 0, none⟩) 2 [(.mk 6 ⟨#[]⟩ (some ⟨n97, 0, none⟩) 1 [(.mk 2 ⟨#[97]⟩ none 0 [])]), (.mk 6 ⟨#[]⟩ (some ⟨n100, 0, none⟩) 1 [(.mk 2 ⟨#[98]⟩ none 0 [])])])]) (.star (.alt (.nod sa) (.nod sb'))) (.star (.seq (.star (.nod sa)) (.star (.nod sb')))) (.star (.alt (.nod (by decide)) (.nod (by decide)))) (.star (.seq (.star (.nod (by decide))) (.star (.nod (by decide))))) (rx1 (rx2 rx0 rx0)) (rx1 (rx2 (rx1 rx0) (rx1 rx0))) (by decide) (by decide) sE1)) ?_ U Ag
       rintro _ _ ⟨d1, ⟨rfl, hd1⟩, rfl⟩
       refine ⟨sbt, (x_y (i := 17) U (by kernel_rfl) (Ae (T U)) ?_ U Ag)⟩
       refine x_y (i := 18) U (by kernel_rfl) (Ay (T U) U) ?_ U Ag
       refine x_y (i := 19) U (by kernel_rfl) (Ay (T U) U) ?_ U Ag
       refine x_y (i := 20) U (by kernel_rfl) (Ay (T U) U) ?_ U Ag
       refine x_y (i := 21) U (by kernel_rfl) (Ad (T U)) ?_ U Ag
       refine x_y (i := 22) U (by kernel_rfl) (Ad (T U)) ?_ U Ag
       refine x_y (i := 23) U (by kernel_rfl) (Ad (T U)) ?_ U Ag
       refine Cj (by kernel_rfl) U ?_
       refine Af ?_
       refine Bl (()) ?_ ⟨atd, atd, trivial⟩ ⟨Aa U, Aa U, Aa U, Aa U, trivial⟩ sbt
       trivial
     ·refine Br U (An (.cons (T U) .nil) (B0 _ _ _ _ _)) ?_ U Ag
      rintro _ _ ⟨n100, rfl, rfl⟩
      refine ⟨sbt, (Bx (i := 2) (by kernel_rfl) (by kernel_rfl) ?_)⟩
      refine Br U (An (.cons (T U) (.cons (T U) .nil)) (B2 _ _ _ _ _ _ _ _ _ _)) ?_ U Ag
      rintro _ _ ⟨n92, rfl, rfl⟩
      refine ⟨sbt, (x_y (i := 3) U (by kernel_rfl) (Aq (.cons Ak (.cons (T U) .nil)) call26 (fun H' hs => Ch 5 (some ⟨n92, 0, none⟩) [(.mk 2 ⟨#[97]⟩ none 0 []), (.mk 2 ⟨#[98]⟩ none 0 [])] 2)) ?_ U Ag)⟩
      refine Bx (i := 4) (by kernel_rfl) (by kernel_rfl) ?_
      refine Br U (An (.cons (T U) .nil) (B0 _ _ _ _ _)) ?_ U Ag
      rintro _ _ ⟨n94, rfl, rfl⟩
      refine ⟨sbt, (x_y (i := 5) U (by kernel_rfl) (Aq (.cons Ak (.cons (T U) .nil)) call26 (fun H' hs => Ch 6 (some ⟨n94, 0, none⟩) [(.mk 5 ⟨#[]⟩ (some ⟨n92, 0, none⟩) 2 [(.mk 2 ⟨#[97]⟩ none 0 []), (.mk 2 ⟨#[98]⟩ none 0 [])])] 1)) ?_ U Ag)⟩
      refine x_y (i := 8) U (by kernel_rfl) (Aq (.cons Ak (.cons (T U) .nil)) call26 (fun H' hs => Ch 6 (some ⟨n97, 0, none⟩) [(.mk 2 ⟨#[97]⟩ none 0 [])] 1)) ?_ U Ag
      refine x_y (i := 11) U (by kernel_rfl) (Aq (.cons Ak (.cons (T U) .nil)) call26 (fun H' hs => Ch 6 (some ⟨n100, 0, none⟩) [(.mk 2 ⟨#[98]⟩ none 0 [])] 1)) ?_ U Ag
      refine Bx (i := 12) (by kernel_rfl) (by kernel_rfl) ?_
      refine Br U (An (.cons (T U) (.cons (T U) .nil)) (B2 _ _ _ _ _ _ _ _ _ _)) ?_ U Ag
      rintro _ _ ⟨n102, rfl, rfl⟩
      refine ⟨sbt, (x_y (i := 13) U (by kernel_rfl) (Aq (.cons Ak (.cons (T U) .nil)) call26 (fun H' hs => Ch 4 (some ⟨n102, 0, none⟩) [(.mk 6 ⟨#[]⟩ (some ⟨n97, 0, none⟩) 1 [(.mk 2 ⟨#[97]⟩ none 0 [])]), (.mk 6 ⟨#[]⟩ (some ⟨n100, 0, none⟩) 1 [(.mk 2 ⟨#[98]⟩ none 0 [])])] 2)) ?_ U Ag)⟩
      refine Bx (i := 14) (by kernel_rfl) (by kernel_rfl) ?_
      refine Br U (An (.cons (T U) .nil) (B0 _ _ _ _ _)) ?_ U Ag
      rintro _ _ ⟨n104, rfl, rfl⟩
      refine ⟨sbt, (x_y (i := 15) U (by kernel_rfl) (Aq (.cons Ak (.cons (T U) .nil)) call26 (fun H' hs => Ch 6 (some ⟨n104, 0, none⟩) [(.mk 4 ⟨#[]⟩ (some ⟨n102, 0, none⟩) 2 [(.mk 6 ⟨#[]⟩ (some ⟨n97, 0, none⟩) 1 [(.mk 2 ⟨#[97]⟩ none 0 [])]), (.mk 6 ⟨#[]⟩ (some ⟨n100, 0, none⟩) 1 [(.mk 2 ⟨#[98]⟩ none 0 [])])])] 1)) ?_ U Ag)⟩
      refine Bx (i := 16) (by kernel_rfl) (by kernel_rfl) ?_
      refine Br U (Av (.cons (T U) (.cons (T U) .nil)) call23 (C6 (.mk 6 ⟨#[]⟩ (some ⟨n94, 0, none⟩) 1 [(.mk 5 ⟨#[]⟩ (some ⟨n92, 0, none⟩) 2 [(.mk 2 ⟨#[97]⟩ none 0 []), (.mk 2 ⟨#[98]⟩ none 0 [])])]) (.mk 6 ⟨#[]⟩ (some ⟨n104, 0, none⟩) 1 [(.mk 4 ⟨#[]⟩ (some ⟨n102, 0, none⟩) 2 [(.mk 6 ⟨#[]⟩ (some ⟨n97, 0, none⟩) 1 [(.mk 2 ⟨#[97]⟩ none 0 [])]), (.mk 6 ⟨#[]⟩ (some ⟨n100, 0, none⟩) 1 [(.mk 2 ⟨#[98]⟩ none 0 [])])])]) (.star (.alt (.nod sa) (.nod sb'))) (.star (.seq (.star (.nod sa)) (.star (.nod sb')))) (.star (.alt (.nod (by decide)) (.nod (by decide)))) (.star (.seq (.star (.nod (by decide))) (.star (.nod (by decide))))) (rx1 (rx2 rx0 rx0)) (rx1 (rx2 (rx1 rx0) (rx1 rx0))) (by decide) (by decide) sE1)) ?_ U Ag
      rintro _ _ ⟨d1, ⟨rfl, hd1⟩, rfl⟩
      refine ⟨sbt, (x_y (i := 17) U (by kernel_rfl) (Ae (T U)) ?_ U Ag)⟩
      refine x_y (i := 18) U (by kernel_rfl) (Ay (T U) U) ?_ U Ag
      refine x_y (i := 19) U (by kernel_rfl) (Ay (T U) U) ?_ U Ag
      refine x_y (i := 20) U (by kernel_rfl) (Ay (T U) U) ?_ U Ag
      refine x_y (i := 21) U (by kernel_rfl) (Ad (T U)) ?_ U Ag
      refine x_y (i := 22) U (by kernel_rfl) (Ad (T U)) ?_ U Ag
      refine x_y (i := 23) U (by kernel_rfl) (Ad (T U)) ?_ U Ag
      refine Cj (by kernel_rfl) U ?_
      refine Af ?_
      refine Bl (()) ?_ ⟨atd, atd, trivial⟩ ⟨Aa U, Aa U, Aa U, Aa U, trivial⟩ sbt
      trivial
    ·refine Br U (An (.cons (T U) .nil) (B0 _ _ _ _ _)) ?_ U Ag
     rintro _ _ ⟨n100, rfl, rfl⟩
     refine ⟨sbt, ?_⟩
     refine C5 (i := 2) (j := 7) (by kernel_rfl) (by kernel_rfl) ?_ ?_
     ·refine Br U (An (.cons (T U) (.cons (T U) .nil)) (B2 _ _ _ _ _ _ _ _ _ _)) ?_ U Ag
      rintro _ _ ⟨n92, rfl, rfl⟩
      refine ⟨sbt, (x_y (i := 3) U (by kernel_rfl) (Aq (.cons Ak (.cons (T U) .nil)) call26 (fun H' hs => Ch 5 (some ⟨n92, 0, none⟩) [(.mk 2 ⟨#[97]⟩ none 0 []), (.mk 2 ⟨#[98]⟩ none 0 [])] 2)) ?_ U Ag)⟩
      refine C5 (i := 4) (j := 7) (by kernel_rfl) (by kernel_rfl) ?_ ?_
      ·refine Br U (An (.cons (T U) .nil) (B0 _ _ _ _ _)) ?_ U Ag
       rintro _ _ ⟨n94, rfl, rfl⟩
       refine ⟨sbt, (x_y (i := 5) U (by kernel_rfl) (Aq (.cons Ak (.cons (T U) .nil)) call26 (fun H' hs => Ch 6 (some ⟨n94, 0, none⟩) [(.mk 5 ⟨#[]⟩ (some ⟨n92, 0, none⟩) 2 [(.mk 2 ⟨#[97]⟩ none 0 []), (.mk 2 ⟨#[98]⟩ none 0 [])])] 1)) ?_ U Ag)⟩
       refine Bx (i := 7) (by kernel_rfl) (by kernel_rfl) ?_
       refine Br U (An (.cons (T U) .nil) (B0 _ _ _ _ _)) ?_ U Ag
       rintro _ _ ⟨n97, rfl, rfl⟩
       refine ⟨sbt, (x_y (i := 8) U (by kernel_rfl) (Aq (.cons Ak (.cons (T U) .nil)) call26 (fun H' hs => Ch 6 (some ⟨n97, 0, none⟩) [(.mk 2 ⟨#[97]⟩ none 0 [])] 1)) ?_ U Ag)⟩
       refine x_y (i := 11) U (by kernel_rfl) (Aq (.cons Ak (.cons (T U) .nil)) call26 (fun H' hs => Ch 6 (some ⟨n100, 0, none⟩) [(.mk 2 ⟨#[98]⟩ none 0 [])] 1)) ?_ U Ag
       refine Bx (i := 12) (by kernel_rfl) (by kernel_rfl) ?_
       refine Br U (An (.cons (T U) (.cons (T U) .nil)) (B2 _ _ _ _ _ _ _ _ _ _)) ?_ U Ag
       rintro _ _ ⟨n102, rfl, rfl⟩
       refine ⟨sbt, (x_y (i := 13) U (by kernel_rfl) (Aq (.cons Ak (.cons (T U) .nil)) call26 (fun H' hs => Ch 4 (some ⟨n102, 0, none⟩) [(.mk 6 ⟨#[]⟩ (some ⟨n97, 0, none⟩) 1 [(.mk 2 ⟨#[97]⟩ none 0 [])]), (.mk 6 ⟨#[]⟩ (some ⟨n100, 0, none⟩) 1 [(.mk 2 ⟨#[98]⟩ none 0 [])])] 2)) ?_ U Ag)⟩
       refine Bx (i := 14) (by kernel_rfl) (by kernel_rfl) ?_
       refine Br U (An (.cons (T U) .nil) (B0 _ _ _ _ _)) ?_ U Ag
       rintro _ _ ⟨n104, rfl, rfl⟩
       refine ⟨sbt, (x_y (i := 15) U (by kernel_rfl) (Aq (.cons Ak (.cons (T U) .nil)) call26 (fun H' hs => Ch 6 (some ⟨n104, 0, none⟩) [(.mk 4 ⟨#[]⟩ (some ⟨n102, 0, none⟩) 2 [(.mk 6 ⟨#[]⟩ (some ⟨n97, 0, none⟩) 1 [(.mk 2 ⟨#[97]⟩ none 0 [])]), (.mk 6 ⟨#[]⟩ (some ⟨n100, 0, none⟩) 1 [(.mk 2 ⟨#[98]⟩ none 0 [])])])] 1)) ?_ U Ag)⟩
       refine Bx (i := 16) (by kernel_rfl) (by kernel_rfl) ?_
       refine Br U (Av (.cons (T U) (.cons (T U) .nil)) call23 (C6 (.mk 6 ⟨#[]⟩ (some ⟨n94, 0, none⟩) 1 [(.mk 5 ⟨#[]⟩ (some ⟨n92, 0, none⟩) 2 [(.mk 2 ⟨#[97]⟩ none 0 []), (.mk 2 ⟨#[98]⟩ none 0 [])])]) (.mk 6 ⟨#[]⟩ (some ⟨n104, 0, none⟩) 1 [(.mk 4 ⟨#[]⟩ (some ⟨n102, 0, none⟩) 2 [(.mk 6 ⟨#[]⟩ (some ⟨n97, 0, none⟩) 1 [(.mk 2 ⟨#[97]⟩ none 0 [])]), (.mk 6 ⟨#[]⟩ (some ⟨n100, 0, none⟩) 1 [(.mk 2 ⟨#[98]⟩ none 0 [])])])]) (.star (.alt (.nod sa) (.nod sb'))) (.star (.seq (.star (.nod sa)) (.star (.nod sb')))) (.star (.alt (.nod (by decide)) (.nod (by decide)))) (.star (.seq (.star (.nod (by decide))) (.star (.nod (by decide))))) (rx1 (rx2 rx0 rx0)) (rx1 (rx2 (rx1 rx0) (rx1 rx0))) (by decide) (by decide) sE1)) ?_ U Ag
       rintro _ _ ⟨d1, ⟨rfl, hd1⟩, rfl⟩
       refine ⟨sbt, (x_y (i := 17) U (by kernel_rfl) (Ae (T U)) ?_ U Ag)⟩
       refine x_y (i := 18) U (by kernel_rfl) (Ay (T U) U) ?_ U Ag
       refine x_y (i := 19) U (by kernel_rfl) (Ay (T U) U) ?_ U Ag
       refine x_y (i := 20) U (by kernel_rfl) (Ay (T U) U) ?_ U Ag
       refine x_y (i := 21) U (by kernel_rfl) (Ad (T U)) ?_ U Ag
       refine x_y (i := 22) U (by kernel_rfl) (Ad (T U)) ?_ U Ag
       refine x_y (i := 23) U (by kernel_rfl) (Ad (T U)) ?_ U Ag
       refine Cj (by kernel_rfl) U ?_
       refine Af ?_
       refine Bl (()) ?_ ⟨atd, atd, trivial⟩ ⟨Aa U, Aa U, Aa U, Aa U, trivial⟩ sbt
       trivial
      ·refine Br U (An (.cons (T U) .nil) (B0 _ _ _ _ _)) ?_ U Ag
       rintro _ _ ⟨n97, rfl, rfl⟩
       refine ⟨sbt, (Bx (i := 4) (by kernel_rfl) (by kernel_rfl) ?_)⟩
       refine Br U (An (.cons (T U) .nil) (B0 _ _ _ _ _)) ?_ U Ag
       rintro _ _ ⟨n94, rfl, rfl⟩
       refine ⟨sbt, (x_y (i := 5) U (by kernel_rfl) (Aq (.cons Ak (.cons (T U) .nil)) call26 (fun H' hs => Ch 6 (some ⟨n94, 0, none⟩) [(.mk 5 ⟨#[]⟩ (some ⟨n92, 0, none⟩) 2 [(.mk 2 ⟨#[97]⟩ none 0 []), (.mk 2 ⟨#[98]⟩ none 0 [])])] 1)) ?_ U Ag)⟩
       refine x_y (i := 8) U (by kernel_rfl) (Aq (.cons Ak (.cons (T U) .nil)) call26 (fun H' hs => Ch 6 (some ⟨n97, 0, none⟩) [(.mk 2 ⟨#[97]⟩ none 0 [])] 1)) ?_ U Ag
       refine x_y (i := 11) U (by kernel_rfl) (Aq (.cons Ak (.cons (T U) .nil)) call26 (fun H' hs => Ch 6 (some ⟨n100, 0, none⟩) [(.mk 2 ⟨#[98]⟩ none 0 [])] 1)) ?_ U Ag
       refine Bx (i := 12) (by kernel_rfl) (by kernel_rfl) ?_
       refine Br U (An (.cons (T U) (.cons (T U) .nil)) (B2 _ _ _ _ _ _ _ _ _ _)) ?_ U Ag
       rintro _ _ ⟨n102, rfl, rfl⟩
       refine ⟨sbt, (x_y (i := 13) U (by kernel_rfl) (Aq (.cons Ak (.cons (T U) .nil)) call26 (fun H' hs => Ch 4 (some ⟨n102, 0, none⟩) [(.mk 6 ⟨#[]⟩ (some ⟨n97, 0, none⟩) 1 [(.mk 2 ⟨#[97]⟩ none 0 [])]), (.mk 6 ⟨#[]⟩ (some ⟨n100, 0, none⟩) 1 [(.mk 2 ⟨#[98]⟩ none 0 [])])] 2)) ?_ U Ag)⟩
       refine Bx (i := 14) (by kernel_rfl) (by kernel_rfl) ?_
       refine Br U (An (.cons (T U) .nil) (B0 _ _ _ _ _)) ?_ U Ag
       rintro _ _ ⟨n104, rfl, rfl⟩
       refine ⟨sbt, (x_y (i := 15) U (by kernel_rfl) (Aq (.cons Ak (.cons (T U) .nil)) call26 (fun H' hs => Ch 6 (some ⟨n104, 0, none⟩) [(.mk 4 ⟨#[]⟩ (some ⟨n102, 0, none⟩) 2 [(.mk 6 ⟨#[]⟩ (some ⟨n97, 0, none⟩) 1 [(.mk 2 ⟨#[97]⟩ none 0 [])]), (.mk 6 ⟨#[]⟩ (some ⟨n100, 0, none⟩) 1 [(.mk 2 ⟨#[98]⟩ none 0 [])])])] 1)) ?_ U Ag)⟩
       refine Bx (i := 16) (by kernel_rfl) (by kernel_rfl) ?_
       refine Br U (Av (.cons (T U) (.cons (T U) .nil)) call23 (C6 (.mk 6 ⟨#[]⟩ (some ⟨n94, 0, none⟩) 1 [(.mk 5 ⟨#[]⟩ (some ⟨n92, 0, none⟩) 2 [(.mk 2 ⟨#[97]⟩ none 0 []), (.mk 2 ⟨#[98]⟩ none 0 [])])]) (.mk 6 ⟨#[]⟩ (some ⟨n104, 0, none⟩) 1 [(.mk 4 ⟨#[]⟩ (some ⟨n102, 0, none⟩) 2 [(.mk 6 ⟨#[]⟩ (some ⟨n97, 0, none⟩) 1 [(.mk 2 ⟨#[97]⟩ none 0 [])]), (.mk 6 ⟨#[]⟩ (some ⟨n100, 0, none⟩) 1 [(.mk 2 ⟨#[98]⟩ none 0 [])])])]) (.star (.alt (.nod sa) (.nod sb'))) (.star (.seq (.star (.nod sa)) (.star (.nod sb')))) (.star (.alt (.nod (by decide)) (.nod (by decide)))) (.star (.seq (.star (.nod (by decide))) (.star (.nod (by decide))))) (rx1 (rx2 rx0 rx0)) (rx1 (rx2 (rx1 rx0) (rx1 rx0))) (by decide) (by decide) sE1)) ?_ U Ag
       rintro _ _ ⟨d1, ⟨rfl, hd1⟩, rfl⟩
       refine ⟨sbt, (x_y (i := 17) U (by kernel_rfl) (Ae (T U)) ?_ U Ag)⟩
       refine x_y (i := 18) U (by kernel_rfl) (Ay (T U) U) ?_ U Ag
       refine x_y (i := 19) U (by kernel_rfl) (Ay (T U) U) ?_ U Ag
       refine x_y (i := 20) U (by kernel_rfl) (Ay (T U) U) ?_ U Ag
       refine x_y (i := 21) U (by kernel_rfl) (Ad (T U)) ?_ U Ag
       refine x_y (i := 22) U (by kernel_rfl) (Ad (T U)) ?_ U Ag
       refine x_y (i := 23) U (by kernel_rfl) (Ad (T U)) ?_ U Ag
       refine Cj (by kernel_rfl) U ?_
       refine Af ?_
       refine Bl (()) ?_ ⟨atd, atd, trivial⟩ ⟨Aa U, Aa U, Aa U, Aa U, trivial⟩ sbt
       trivial
     ·refine Br U (An (.cons (T U) .nil) (B0 _ _ _ _ _)) ?_ U Ag
      rintro _ _ ⟨n97, rfl, rfl⟩
      refine ⟨sbt, (Bx (i := 2) (by kernel_rfl) (by kernel_rfl) ?_)⟩
      refine Br U (An (.cons (T U) (.cons (T U) .nil)) (B2 _ _ _ _ _ _ _ _ _ _)) ?_ U Ag
      rintro _ _ ⟨n92, rfl, rfl⟩
      refine ⟨sbt, (x_y (i := 3) U (by kernel_rfl) (Aq (.cons Ak (.cons (T U) .nil)) call26 (fun H' hs => Ch 5 (some ⟨n92, 0, none⟩) [(.mk 2 ⟨#[97]⟩ none 0 []), (.mk 2 ⟨#[98]⟩ none 0 [])] 2)) ?_ U Ag)⟩
      refine Bx (i := 4) (by kernel_rfl) (by kernel_rfl) ?_
      refine Br U (An (.cons (T U) .nil) (B0 _ _ _ _ _)) ?_ U Ag
      rintro _ _ ⟨n94, rfl, rfl⟩
      refine ⟨sbt, (x_y (i := 5) U (by kernel_rfl) (Aq (.cons Ak (.cons (T U) .nil)) call26 (fun H' hs => Ch 6 (some ⟨n94, 0, none⟩) [(.mk 5 ⟨#[]⟩ (some ⟨n92, 0, none⟩) 2 [(.mk 2 ⟨#[97]⟩ none 0 []), (.mk 2 ⟨#[98]⟩ none 0 [])])] 1)) ?_ U Ag)⟩
      refine x_y (i := 8) U (by kernel_rfl) (Aq (.cons Ak (.cons (T U) .nil)) call26 (fun H' hs => Ch 6 (some ⟨n97, 0, none⟩) [(.mk 2 ⟨#[97]⟩ none 0 [])] 1)) ?_ U Ag
      refine x_y (i := 11) U (by kernel_rfl) (Aq (.cons Ak (.cons (T U) .nil)) call26 (fun H' hs => Ch 6 (some ⟨n100, 0, none⟩) [(.mk 2 ⟨#[98]⟩ none 0 [])] 1)) ?_ U Ag
      refine Bx (i := 12) (by kernel_rfl) (by kernel_rfl) ?_
      refine Br U (An (.cons (T U) (.cons (T U) .nil)) (B2 _ _ _ _ _ _ _ _ _ _)) ?_ U Ag
      rintro _ _ ⟨n102, rfl, rfl⟩
      refine ⟨sbt, (x_y (i := 13) U (by kernel_rfl) (Aq (.cons Ak (.cons (T U) .nil)) call26 (fun H' hs => Ch 4 (some ⟨n102, 0, none⟩) [(.mk 6 ⟨#[]⟩ (some ⟨n97, 0, none⟩) 1 [(.mk 2 ⟨#[97]⟩ none 0 [])]), (.mk 6 ⟨#[]⟩ (some ⟨n100, 0, none⟩) 1 [(.mk 2 ⟨#[98]⟩ none 0 [])])] 2)) ?_ U Ag)⟩
      refine Bx (i := 14) (by kernel_rfl) (by kernel_rfl) ?_
      refine Br U (An (.cons (T U) .nil) (B0 _ _ _ _ _)) ?_ U Ag
      rintro _ _ ⟨n104, rfl, rfl⟩
      refine ⟨sbt, (x_y (i := 15) U (by kernel_rfl) (Aq (.cons Ak (.cons (T U) .nil)) call26 (fun H' hs => Ch 6 (some ⟨n104, 0, none⟩) [(.mk 4 ⟨#[]⟩ (some ⟨n102, 0, none⟩) 2 [(.mk 6 ⟨#[]⟩ (some ⟨n97, 0, none⟩) 1 [(.mk 2 ⟨#[97]⟩ none 0 [])]), (.mk 6 ⟨#[]⟩ (some ⟨n100, 0, none⟩) 1 [(.mk 2 ⟨#[98]⟩ none 0 [])])])] 1)) ?_ U Ag)⟩
      refine Bx (i := 16) (by kernel_rfl) (by kernel_rfl) ?_
      refine Br U (Av (.cons (T U) (.cons (T U) .nil)) call23 (C6 (.mk 6 ⟨#[]⟩ (some ⟨n94, 0, none⟩) 1 [(.mk 5 ⟨#[]⟩ (some ⟨n92, 0, none⟩) 2 [(.mk 2 ⟨#[97]⟩ none 0 []), (.mk 2 ⟨#[98]⟩ none 0 [])])]) (.mk 6 ⟨#[]⟩ (some ⟨n104, 0, none⟩) 1 [(.mk 4 ⟨#[]⟩ (some ⟨n102, 0, none⟩) 2 [(.mk 6 ⟨#[]⟩ (some ⟨n97, 0, none⟩) 1 [(.mk 2 ⟨#[97]⟩ none 0 [])]), (.mk 6 ⟨#[]⟩ (some ⟨n100, 0, none⟩) 1 [(.mk 2 ⟨#[98]⟩ none 0 [])])])]) (.star (.alt (.nod sa) (.nod sb'))) (.star (.seq (.star (.nod sa)) (.star (.nod sb')))) (.star (.alt (.nod (by decide)) (.nod (by decide)))) (.star (.seq (.star (.nod (by decide))) (.star (.nod (by decide))))) (rx1 (rx2 rx0 rx0)) (rx1 (rx2 (rx1 rx0) (rx1 rx0))) (by decide) (by decide) sE1)) ?_ U Ag
      rintro _ _ ⟨d1, ⟨rfl, hd1⟩, rfl⟩
      refine ⟨sbt, (x_y (i := 17) U (by kernel_rfl) (Ae (T U)) ?_ U Ag)⟩
      refine x_y (i := 18) U (by kernel_rfl) (Ay (T U) U) ?_ U Ag
      refine x_y (i := 19) U (by kernel_rfl) (Ay (T U) U) ?_ U Ag
      refine x_y (i := 20) U (by kernel_rfl) (Ay (T U) U) ?_ U Ag
      refine x_y (i := 21) U (by kernel_rfl) (Ad (T U)) ?_ U Ag
      refine x_y (i := 22) U (by kernel_rfl) (Ad (T U)) ?_ U Ag
      refine x_y (i := 23) U (by kernel_rfl) (Ad (T U)) ?_ U Ag
      refine Cj (by kernel_rfl) U ?_
      refine Af ?_
      refine Bl (()) ?_ ⟨atd, atd, trivial⟩ ⟨Aa U, Aa U, Aa U, Aa U, trivial⟩ sbt
      trivial
   rintro _ _
   refine Ah (Cv 16 [(0, true), (1, true), (5, true), (2, false), (3, true), (4, true), (6, false), (7, true), (8, false), (9, true), (10, true), (11, true), (12, true), (13, true), (14, true), (15, true)] _ mixd (by kernel_rfl) sb0 ?_)
   refine o_y U (Am (T U) isAgg24 sizeOf24 U (by first | exact Bc)) ?_ U Ag
   refine o_y U (Aq .nil call44 (fun H' hs => some_s)) (o_y U (Am (T U) isAgg24 sizeOf24 U (by first | exact Bc)) ?_ U Ag) U Ag
   refine o_e U (An (.cons (T U) (.cons (T U) .nil)) (B2 _ _ _ _ _ _ _ _ _ _)) ?_ U Ag
   rintro _ _ ⟨n113, rfl, rfl⟩
   refine ⟨sbt, (o_y U (Aq (.cons Ak (.cons (T U) .nil)) call26 (fun H' hs => Ch 4 (some ⟨n113, 0, none⟩) [(.mk 2 ⟨#[97]⟩ none 0 []), (.mk 3 ⟨#[]⟩ none 0 [])] 2)) (o_y U (Aq .nil call44 (fun H' hs => some_s)) (o_e U (An (.cons (T U) (.cons (T U) .nil)) (B2 _ _ _ _ _ _ _ _ _ _)) ?_ U Ag) U Ag) U Ag)⟩
   rintro _ _ ⟨n117, rfl, rfl⟩
   refine ⟨sbt, (o_y U (Aq (.cons Ak (.cons (T U) .nil)) call26 (fun H' hs => Ch 4 (some ⟨n117, 0, none⟩) [(.mk 3 ⟨#[]⟩ none 0 []), (.mk 2 ⟨#[97]⟩ none 0 [])] 2)) (o_e U (Av (.cons (T U) (.cons (T U) .nil)) call23 (C6 (.mk 4 ⟨#[]⟩ (some ⟨n113, 0, none⟩) 2 [(.mk 2 ⟨#[97]⟩ none 0 []), (.mk 3 ⟨#[]⟩ none 0 [])]) (.mk 4 ⟨#[]⟩ (some ⟨n117, 0, none⟩) 2 [(.mk 3 ⟨#[]⟩ none 0 []), (.mk 2 ⟨#[97]⟩ none 0 [])]) (.seq (.nod sa) .any) (.seq .any (.nod sa)) (.seq (.nod (by decide)) .any) (.seq .any (.nod (by decide))) (rx2 rx0 rx0) (rx2 rx0 rx0) (by decide) (by decide) sE2)) ?_ U Ag) U Ag)⟩
   rintro _ _ ⟨d2, ⟨rfl, hd2⟩, rfl⟩
   refine ⟨sbt, (o_y U (Ae (T U)) (o_y U (Ay (T U) U) (o_y U (Ay (T U) U) (o_y U (Ay (T U) U) (o_y U (Ad (T U)) (o_y U (Ad (T U)) (o_y U (Ad (T U)) (B5 U (Af (Ac (Ah (Ab (y_ (Bq (.cons Ak .nil) (bd58_1 _)) (e_ (An (.cons Ak .nil) (bs42_1_0 _)) ?_ U) U)))))) U Ag) U Ag) U Ag) U Ag) U Ag) U Ag) U Ag)⟩
   rintro _ _ ⟨n124, rfl, rfl⟩
   refine y_ (Bq (.cons (T U) (.cons Ak .nil)) (bd58_0_1 _ _ _ _)) (e_ (Ap zeroValue58 cs_) ?_ U) U
   rintro _ _ ⟨n16, rfl, rfl⟩
   refine e_ (Ap zeroValue58 cs_) ?_ U
   rintro _ _ ⟨n17, rfl, rfl⟩
   first | refine A0 (As (T U) (T U) sizeOf58) U Ag ?_
   rintro _ _ ⟨rfl, rfl⟩
   first | refine A0 (As (T U) (T U) sizeOf58) U Ag ?_
   rintro _ _ ⟨rfl, rfl⟩
   refine Af (Ac (Bt [(1, _), (3, _), (4, _), (11, _), (12, _), (13, _), (14, _), (15, _), (16, _), (17, _)] ⟨Aa U, Aa U, Aa U, Aa U, Aa U, Aa U, Aa U, Aa U, Aa U, Aa U, trivial⟩ (Ah (Ab (y_ (Am (T U) isAgg56 sizeOf56 U (by first | exact Bc)) ?_ U)))))
   refine y_ (Am (T U) isAgg58 sizeOf58 U (by first | exact Bc)) ?_ U
   refine y_ (Am (T U) isAgg29 sizeOf29 U (by first | exact Bc)) ?_ U
   refine e_ (Av (.cons (T U) (.cons (T U) (.cons (T U) (.cons Ak (.cons Ak .nil))))) call29 (findE_s (l := [2, 3]) (c := 0) (exN x1 x2 x3) ⟨none, 0, [], -1⟩ m1 ⟨(ex_net fdd fdd), (fun i x hi => by cases hi), hm1.mono sbt⟩ ⟨ex_ok x1 x2 x3, (by first | exact Nat.zero_le _ | (show 1 ≤ 4611686018427387903; omega)), hk1, hs1, by omega⟩ 0 (show _ < 4 by omega) 3 (by rw [hp1]; exact sF1 x1 x2 x3 _ _))) ?_ U
   rintro _ _ ⟨d3, ⟨rfl, hd3⟩, rfl⟩
   refine y_ (Ae (T U)) (y_ (Ay (T U) U) (y_ (Ay (T U) U) (y_ (Ad (T U)) (y_ (Ad (T U)) (Af (Ac (Ah (Ab (y_ (Am (T U) isAgg56 sizeOf56 U (by first | exact Bc)) ?_ U))))) U) U) U) U) U
   refine y_ (Am (T U) isAgg58 sizeOf58 U (by first | exact Bc)) ?_ U
   refine y_ (Am (T U) isAgg29 sizeOf29 U (by first | exact Bc)) ?_ U
   refine e_ (Av (.cons (T U) (.cons (T U) (.cons (T U) (.cons Ak (.cons Ak .nil))))) call29 (findE_s (l := [0, 4, 3]) (c := 0) (exN x1 x2 x3) ⟨some ⟨n124, 0, none⟩, 1, [2], -1⟩ m1 ⟨(ex_net fdd fdd), (Di (l := [(2 : Int)]) (cells := [(2 : Int)].flatMap encI) (e := 3) (fun _ => rfl) U fdd), hm1.mono sbt⟩ ⟨ex_ok x1 x2 x3, (by first | exact Nat.zero_le _ | (show 1 ≤ 4611686018427387903; omega)), hk1, hs1, by omega⟩ 0 (show _ < 4 by omega) 3 (by rw [hp1]; exact sF2 x1 x2 x3 _ _))) ?_ U
   rintro _ _ ⟨d4, ⟨rfl, hd4⟩, rfl⟩
   refine y_ (Ae (T U)) (y_ (Ay (T U) U) (y_ (Ay (T U) U) (y_ (Ad (T U)) (y_ (Ad (T U)) (Af (Ac (Bt [(1, _), (3, _), (4, _), (11, _), (12, _), (13, _), (14, _), (15, _), (16, _), (18, _), (19, _), (20, _), (21, _)] ⟨Aa U, Aa U, Aa U, Aa U, Aa U, Aa U, Aa U, Aa U, Aa U, Aa U, Aa U, Aa U, Aa U, trivial⟩ (Ah (Ab (y_ (Am (T U) isAgg56 sizeOf56 U (by first | exact Bc)) ?_ U)))))) U) U) U) U) U
   refine y_ (Am (T U) isAgg58 sizeOf58 U (by first | exact Bc)) ?_ U
   refine y_ (Am (T U) isAgg29 sizeOf29 U (by first | exact Bc)) ?_ U
   refine e_ (Av (.cons (T U) (.cons (T U) (.cons (T U) (.cons Ak (.cons Ak .nil))))) call29 (findE_s (l := []) (c := 18) (exN x1 x2 x3) ⟨none, 0, [], -1⟩ m1 ⟨(ex_net fdd fdd), (fun i x hi => by cases hi), hm1.mono sbt⟩ ⟨ex_ok x1 x2 x3, (by first | exact Nat.zero_le _ | (show 1 ≤ 4611686018427387903; omega)), hk1, hs1, by omega⟩ 1 (show _ < 4 by omega) 3 (by rw [hp1]; exact sF3 x1 x2 x3 _ _))) ?_ U
   rintro _ _ ⟨d5, ⟨rfl, hd5⟩, rfl⟩
   refine y_ (Ae (T U)) (y_ (Ay (T U) U) (y_ (Ay (T U) U) (y_ (Ad (T U)) (y_ (Ad (T U)) (Af (Ac (Ah (Ab (y_ (Am (T U) isAgg56 sizeOf56 U (by first | exact Bc)) ?_ U))))) U) U) U) U) U
   refine y_ (Am (T U) isAgg58 sizeOf58 U (by first | exact Bc)) ?_ U
   refine y_ (Am (T U) isAgg29 sizeOf29 U (by first | exact Bc)) ?_ U
   refine e_ (Av (.cons (T U) (.cons (T U) (.cons (T U) (.cons Ak .nil)))) call35 (reachedE_s (exN x1 x2 x3) ⟨none, 0, [], -1⟩ m1 ⟨(ex_net fdd fdd), (fun i x hi => by cases hi), hm1.mono sbt⟩ ⟨ex_ok x1 x2 x3, (by first | exact Nat.zero_le _ | (show 1 ≤ 4611686018427387903; omega)), hk1, hs1, by omega⟩ 1 (show _ < 4 by omega))) ?_ U
   rintro _ _ ⟨d6, ks, ⟨rfl, hd6, hreach⟩, rfl⟩
   rw [hp1] at hreach
   obtain rfl := sReach hreach
   clear hreach
   refine y_ (Ad (T U)) (Af (Ac (Bt [(1, _), (3, _), (4, _), (11, _), (12, _), (13, _), (14, _), (15, _), (16, _), (18, _), (19, _), (20, _), (21, _), (23, _), (24, _)] ⟨Aa U, Aa U, Aa U, Aa U, Aa U, Aa U, Aa U, Aa U, Aa U, Aa U, Aa U, Aa U, Aa U, Aa U, Aa U, trivial⟩ (Ah (Ab (y_ (Ae (T U)) (y_ (Ae (T U)) (Bg (Ae (T U)) U (Ax U U (Aa U)) (Bg (B3 (T U) Ak) U (Ax U U (Aa U)) (y_ (Az (T U) (T U)) (y_ (Ae (T U)) (Bg (Ae (T U)) U (Ax U U (Aa U)) (Bg (C2 (T U)) U (Ax U U (Aa U)) (y_ (Az (T U) (T U)) (y_ (Ae (T U)) (Bg (Ae (T U)) U (Ax U U (Aa U)) (Bg (B3 (T U) Ak) U (Ax U U (Aa U)) (y_ (Az (T U) (T U)) (y_ (Ae (T U)) (Bg (Ae (T U)) U (Ax U U (Aa U)) (A0 (An (.cons Ak (.cons Ak .nil)) (bs25_2_0_1 _ _)) U (Ax U U (Aa U)) ?_)) U) U))) U) U))) U) U))) U) U)))))) U
   rintro _ _ ⟨n166, rfl, rfl⟩
   refine Bg (Aq (.cons (T U) (.cons (T U) .nil)) call25 (fun H' hs => still_b (decide_eq_true U) (sameNames_s (slQ d2) (some ⟨n166, 0, none⟩) (slC d2) 2 [sa, soth] [sa, soth] ((Bz (X := H) (enc := encS) (sz := 1) (e := 9) (l := [sa, soth]) (fun _ => rfl) hd2).mono (List.Sublist.trans sbt hs)) (Di (l := [sa, soth]) (cells := ([sa, soth]).flatMap encS) (e := 9) (fun _ => rfl) U (Fnd.mono fdd hs)) (by decide)))) U (Ax U U (Aa U)) ?_
   refine y_ (Az (T U) (T U)) (y_ (Ae (T U)) (Bg (Ae (T U)) U (Ax U U (Aa U)) (Bg (B3 (T U) Ak) U (Ax U U (Aa U)) (y_ (Az (T U) (T U)) (y_ (Ae (T U)) (Bg (Ae (T U)) U (Ax U U (Aa U)) (A0 (An (.cons Ak (.cons Ak .nil)) (bs42_2_0_1 _ _)) U (Ax U U (Aa U)) ?_)) U) U))) U) U
   rintro _ _ ⟨n175, rfl, rfl⟩
   refine Bg (Aq (.cons (T U) (.cons (T U) .nil)) call31 (fun H' hs => still_b (decide_eq_true (show [2, 3].map (fun k : Nat => (k : Int)) = [2, 3] from rfl)) (sameInts_s (slQ d3) (some ⟨n175, 0, none⟩) (slC d3) 2 ([2, 3].map (fun k : Nat => (k : Int))) [2, 3] (arrUI ((Bz (X := H) (enc := encU) (sz := 1) (e := 3) (l := [2, 3]) (fun _ => rfl) hd3).mono (List.Sublist.trans sbt hs))) (Di (l := [2, 3]) (cells := ([2, 3] : List Int).flatMap encI) (e := 3) (fun _ => rfl) U (Fnd.mono fdd hs)) (by decide)))) U (Ax U U (Aa U)) ?_
   refine y_ (Az (T U) (T U)) (y_ (Ae (T U)) (Bg (Ae (T U)) U (Ax U U (Aa U)) (Bg (B3 (T U) Ak) U (Ax U U (Aa U)) (y_ (Az (T U) (T U)) (y_ (Ae (T U)) (Bg (Ae (T U)) U (Ax U U (Aa U)) (A0 (An (.cons Ak (.cons Ak (.cons Ak .nil))) (bs42_3_0_1_2 _ _ _)) U (Ax U U (Aa U)) ?_)) U) U))) U) U
   rintro _ _ ⟨n184, rfl, rfl⟩
   refine Bg (Aq (.cons (T U) (.cons (T U) .nil)) call31 (fun H' hs => still_b (decide_eq_true (show [0, 4, 3].map (fun k : Nat => (k : Int)) = [0, 4, 3] from rfl)) (sameInts_s (slQ d4) (some ⟨n184, 0, none⟩) (slC d4) 3 ([0, 4, 3].map (fun k : Nat => (k : Int))) [0, 4, 3] (arrUI ((Bz (X := H) (enc := encU) (sz := 1) (e := 3) (l := [0, 4, 3]) (fun _ => rfl) hd4).mono (List.Sublist.trans sbt hs))) (Di (l := [0, 4, 3]) (cells := ([0, 4, 3] : List Int).flatMap encI) (e := 3) (fun _ => rfl) U (Fnd.mono fdd hs)) (by decide)))) U (Ax U U (Aa U)) ?_
   refine y_ (Az (T U) (T U)) (y_ (Ae (T U)) (Bg (Ae (T U)) U (Ax U U (Aa U)) (Bg (B3 (T U) Ak) U (Ax U U (Aa U)) (y_ (Az (T U) (T U)) (y_ (Ae (T U)) (Bg (Ae (T U)) U (Ax U U (Aa U)) (Bg (Bw (T U) runUnderlying59) U (Ax U U (Aa U)) (Bg (B3 (T U) Ak) U (Ax U U (Aa U)) (y_ (Az (T U) (T U)) (y_ (Ae (T U)) (Bg (Am (T U) isAgg56 sizeOf56 U (by first | exact Bc)) U (Ax U U (Aa U)) ?_) U) U)))) U) U))) U) U
   refine Bg (Am (T U) isAgg58 sizeOf58 U (by first | exact Bc)) U (Ax U U (Aa U)) ?_
   refine Bg (Am (T U) isAgg29 sizeOf29 U (by first | exact Bc)) U (Ax U U (Aa U)) ?_
   refine Bg (Ae (T U)) U (Ax U U (Aa U)) ?_
   refine Bg (Aq (.cons (T U) (.cons (T U) (.cons (T U) (.cons Ak (.cons Ak (.cons (T U) .nil)))))) call37 (fun H' hs => still_b (sRe' hp1 x1 x2 x3) (refutes_s (exN x1 x2 x3) ⟨none, 0, [], -1⟩ m1 ⟨(ex_net (Fnd.mono fdd hs) (Fnd.mono fdd hs)), (fun i x hi => by cases hi), hm1.mono (List.Sublist.trans sbt hs)⟩ ⟨ex_ok x1 x2 x3, (by first | exact Nat.zero_le _ | (show 1 ≤ 4611686018427387903; omega)), hk1, hs1, by omega⟩ 1 (show _ < 4 by omega) 3 ([(0, 2), (1, 2), (2, 2), (3, 2)].map toI) (slQ d6) (slC d6) (arrPP ((Bz (X := H) (enc := encPl) (sz := 2) (e := 74) (l := [(0, 2), (1, 2), (2, 2), (3, 2)]) (fun _ => rfl) hd6).mono (List.Sublist.trans sbt hs))) (by decide)))) U (Ax U U (Aa U)) ?_
   refine y_ (Az (T U) (T U)) (y_ (Ae (T U)) (Bg (Am (T U) isAgg56 sizeOf56 U (by first | exact Bc)) U (Ax U U (Aa U)) ?_) U) U
   refine Bg (Am (T U) isAgg58 sizeOf58 U (by first | exact Bc)) U (Ax U U (Aa U)) ?_
   refine Bg (Am (T U) isAgg24 sizeOf24 U (by first | exact Bc)) U (Ax U U (Aa U)) ?_
   refine Bg (Ae (T U)) U (Ax U U (Aa U)) ?_
   refine Bg (Aq (.cons (T U) (.cons (T U) (.cons (T U) (.cons Ak (.cons Ak (.cons (T U) .nil)))))) call32 (fun H' hs => still_b (sHo x1 x2 x3 _ _) (holds_s (exN x1 x2 x3) (ex_net (Fnd.mono fdd hs) (Fnd.mono fdd hs)) (ex_ok x1 x2 x3) ⟨none, 0, [], -1⟩ (fun i x hi => by cases hi) (Nat.zero_le _) (.mk 4 ⟨#[]⟩ (some ⟨n37, 0, none⟩) 2 [(.mk 4 ⟨#[]⟩ (some ⟨n34, 0, none⟩) 2 [(.mk 4 ⟨#[]⟩ (some ⟨n31, 0, none⟩) 2 [(.mk 2 ⟨#[97]⟩ none 0 []), (.mk 6 ⟨#[]⟩ (some ⟨n27, 0, none⟩) 1 [(.mk 3 ⟨#[]⟩ none 0 [])])]), (.mk 2 ⟨#[99]⟩ none 0 [])]), (.mk 6 ⟨#[]⟩ (some ⟨n27, 0, none⟩) 1 [(.mk 3 ⟨#[]⟩ none 0 [])])]) sX (.seq (.seq (.seq (.nod (by decide)) (.star .any)) (.nod (by decide))) (.star .any)) (rxx_own fdd fdd fdd fdd hs) (by decide) 0 3 (show _ < 4 by omega) ([2, 3].map (fun k : Nat => (k : Int))) (slQ d3) (slC d3) (arrUI ((Bz (X := H) (enc := encU) (sz := 1) (e := 3) (l := [2, 3]) (fun _ => rfl) hd3).mono (List.Sublist.trans sbt hs))) (by decide)))) U (Ax U U (Aa U)) ?_
   refine y_ (Az (T U) (T U)) (y_ (Ae (T U)) (A0 (An (.cons Ak (.cons Ak .nil)) (bs25_2_0_1 _ _)) U (Ax U U (Aa U)) ?_) U) U
   rintro _ _ ⟨n211, rfl, rfl⟩
   refine Bg (Aq (.cons (T U) .nil) call19 (fun H' hs => sO ▸ other_s [sa, soth] (some ⟨n211, 0, none⟩) 2 (Di (l := [sa, soth]) (cells := ([sa, soth]).flatMap encS) (e := 9) (fun _ => rfl) U (Fnd.mono fdd hs)) (by decide))) U (Ax U U (Aa U)) ?_
   refine Bg (yl_eqSD (T U) Ak) U (Ax U U (Aa U)) (y_ (Az (T U) (T U)) (y_ (Ae (T U)) (Bg (Am (T U) isAgg29 sizeOf29 U (by first | exact Bc)) U (Ax U U (Aa U)) ?_) U) U)
   refine A0 (An (.cons Ak (.cons Ak .nil)) (bs25_2_0_1 _ _)) U (Ax U U (Aa U)) ?_
   rintro _ _ ⟨n217, rfl, rfl⟩
   refine Bg (Aq (.cons (T U) (.cons (T U) .nil)) call21 (fun H' hs => still_v (c := .int .i64 ((3 : Nat) : Int)) (congrArg (fun k : Nat => Value.int .i64 (k : Int)) (hp1.symm ▸ sR)) (run_s m1 (hm1.mono (List.Sublist.trans sbt hs)) hk1 hs1 (by omega) [sa, sc] (some ⟨n217, 0, none⟩) 2 (Di (l := [sa, sc]) (cells := ([sa, sc]).flatMap encS) (e := 9) (fun _ => rfl) U (Fnd.mono fdd hs)) (by decide)))) U (Ax U U (Aa U)) ?_
   refine Bg (B3 (T U) Ak) U (Ax U U (Aa U)) (y_ (Az (T U) (T U)) (y_ (Ad (T U)) (Af (Ac (Bt [(0, _)] ⟨Aa U, trivial⟩ (A5 (A6 U (.tmp (Aa U) .nil) ?_))))) U) U)
   exact ⟨_, ⟨rfl, rfl⟩, sbt⟩
end Go.Proofs.YtkdolgnpkjihpaaGreatDoor
namespace Go.Proofs.YtkdolgnpkjihpaaGreatDoor
open _root_.Go.Proofs.Tryz
open Go.RowKit
set_option linter.unusedVariables false
set_option linter.unusedSimpArgs false
theorem bs25_49_0_1_2_3_4_5_6_7_8_9_10_11_12_13_14_15_16_17_18_19_20_21_22_23_24_25_26_27_28_29_30_31_32_33_34_35_36_37_38_39_40_41_42_43_44_45_46_47_48 (a0 : ByteArray) (a1 : ByteArray) (a2 : ByteArray) (a3 : ByteArray) (a4 : ByteArray) (a5 : ByteArray) (a6 : ByteArray) (a7 : ByteArray) (a8 : ByteArray) (a9 : ByteArray) (a10 : ByteArray) (a11 : ByteArray) (a12 : ByteArray) (a13 : ByteArray) (a14 : ByteArray) (a15 : ByteArray) (a16 : ByteArray) (a17 : ByteArray) (a18 : ByteArray) (a19 : ByteArray) (a20 : ByteArray) (a21 : ByteArray) (a22 : ByteArray) (a23 : ByteArray) (a24 : ByteArray) (a25 : ByteArray) (a26 : ByteArray) (a27 : ByteArray) (a28 : ByteArray) (a29 : ByteArray) (a30 : ByteArray) (a31 : ByteArray) (a32 : ByteArray) (a33 : ByteArray) (a34 : ByteArray) (a35 : ByteArray) (a36 : ByteArray) (a37 : ByteArray) (a38 : ByteArray) (a39 : ByteArray) (a40 : ByteArray) (a41 : ByteArray) (a42 : ByteArray) (a43 : ByteArray) (a44 : ByteArray) (a45 : ByteArray) (a46 : ByteArray) (a47 : ByteArray) (a48 : ByteArray) (w : World) : (Instr.buildSlice 25 49 #[(0, .string a0), (1, .string a1), (2, .string a2), (3, .string a3), (4, .string a4), (5, .string a5), (6, .string a6), (7, .string a7), (8, .string a8), (9, .string a9), (10, .string a10), (11, .string a11), (12, .string a12), (13, .string a13), (14, .string a14), (15, .string a15), (16, .string a16), (17, .string a17), (18, .string a18), (19, .string a19), (20, .string a20), (21, .string a21), (22, .string a22), (23, .string a23), (24, .string a24), (25, .string a25), (26, .string a26), (27, .string a27), (28, .string a28), (29, .string a29), (30, .string a30), (31, .string a31), (32, .string a32), (33, .string a33), (34, .string a34), (35, .string a35), (36, .string a36), (37, .string a37), (38, .string a38), (39, .string a39), (40, .string a40), (41, .string a41), (42, .string a42), (43, .string a43), (44, .string a44), (45, .string a45), (46, .string a46), (47, .string a47), (48, .string a48)]).run Tryz.prog w = .ok (.slice (some ⟨w.heap.size, 0, none⟩) 49 49) (w.alloc (Cl [.string a0, .string a1, .string a2, .string a3, .string a4, .string a5, .string a6, .string a7, .string a8, .string a9, .string a10, .string a11, .string a12, .string a13, .string a14, .string a15, .string a16, .string a17, .string a18, .string a19, .string a20, .string a21, .string a22, .string a23, .string a24, .string a25, .string a26, .string a27, .string a28, .string a29, .string a30, .string a31, .string a32, .string a33, .string a34, .string a35, .string a36, .string a37, .string a38, .string a39, .string a40, .string a41, .string a42, .string a43, .string a44, .string a45, .string a46, .string a47, .string a48] 9)) := by kernel_rfl
theorem ch10_s {w0 : World} {H : List (Nat × Obj)} (c : Int) :
  FSpec Tryz.prog w0 176 #[.int .u8 c] H (fun v H' => (∃ t : Bool, v = .bool t) ∧ H' = H) := by
 refine A7 Tryz.func176 U ntmps176 U (Ah (Ab (y_ (Ad Ak) (Af (Ac (Ah (Ab (y_ (Ae (T U)) (y_ (Ds (T U) Ak) (y_ (Ae (T U)) ?_ U) U) U))))) U)))
 first | refine Ci (s := 5) (Aa U) (fun c5 => ?_) (fun c5 => ?_) | refine C1 (s := 5) (Aa U) (fun c5 => ?_) (fun c5 => ?_)
 ·refine Bg (Ae (T U)) U (Ax U U (Aa U)) (Bg (yl_leq (T U) Ak) U (Ax U U (Aa U)) (y_ (Az (T U) (T U)) (y_ (Ad (T U)) (Af (Ac (A5 (A6 U (.tmp (Aa U) .nil) ?_)))) U) U))
  exact ⟨_, ⟨⟨_, rfl⟩, rfl⟩, sbt⟩
 ·refine Cf (Cf (y_ (Be (T U) Ak) (y_ (Ad (T U)) (Af (Ac (A5 (A6 U (.tmp (Aa U) .nil) ?_)))) U) U) U U U U) U U U U
  exact ⟨_, ⟨⟨_, rfl⟩, rfl⟩, sbt⟩
theorem dg10_s {w0 : World} {H : List (Nat × Obj)} (c : Int) :
  FSpec Tryz.prog w0 192 #[.int .u8 c] H (fun v H' => (∃ t : Bool, v = .bool t) ∧ H' = H) := by
 refine A7 Tryz.func192 U ntmps192 U (Ah (Ab (y_ (Ad Ak) (Af (Ac (Ah (Ab (y_ (Ae (T U)) (y_ (Ds (T U) Ak) (y_ (Ae (T U)) ?_ U) U) U))))) U)))
 first | refine Ci (s := 5) (Aa U) (fun c5 => ?_) (fun c5 => ?_) | refine C1 (s := 5) (Aa U) (fun c5 => ?_) (fun c5 => ?_)
 ·refine Bg (Ae (T U)) U (Ax U U (Aa U)) (Bg (yl_leq (T U) Ak) U (Ax U U (Aa U)) (y_ (Az (T U) (T U)) (y_ (Ad (T U)) (Af (Ac (A5 (A6 U (.tmp (Aa U) .nil) ?_)))) U) U))
  exact ⟨_, ⟨⟨_, rfl⟩, rfl⟩, sbt⟩
 ·refine Cf (Cf (y_ (Be (T U) Ak) (y_ (Ad (T U)) (Af (Ac (A5 (A6 U (.tmp (Aa U) .nil) ?_)))) U) U) U U U U) U U U U
  exact ⟨_, ⟨⟨_, rfl⟩, rfl⟩, sbt⟩
theorem wb10_s {w0 : World} {H : List (Nat × Obj)} (c : Int) :
  FSpec Tryz.prog w0 188 #[.int .u8 c] H (fun v H' => (∃ t : Bool, v = .bool t) ∧ H' = H) := by
 refine A7 Tryz.func188 U ntmps188 U (Ah (Ab (y_ (Ad Ak) (Af (Ac (Ah (Ab (y_ (Ae (T U)) (e_ (Av (.cons (T U) .nil) call176 (ch10_s _)) ?_ U) U))))) U)))
 rintro _ _ ⟨⟨t1, rfl⟩, rfl⟩
 refine y_ (Ad (T U)) (Af (Ac (Ah (Ab (y_ (Ae (T U)) (e_ (Av (.cons (T U) .nil) call192 (dg10_s _)) ?_ U) U))))) U
 rintro _ _ ⟨⟨t2, rfl⟩, rfl⟩
 refine y_ (Ad (T U)) (Af (Ac (Ah (Ab (y_ (Ae (T U)) (y_ (Ae (T U)) ?_ U) U))))) U
 first | refine Ci (s := 10) (Aa U) (fun c10 => ?_) (fun c10 => ?_) | refine C1 (s := 10) (Aa U) (fun c10 => ?_) (fun c10 => ?_)
 ·refine Cy (y_ (Az (T U) Ak) (y_ (Ae (T U)) (Cy (Cy (y_ (Az (T U) Ak) (y_ (Ad (T U)) (Af (Ac (A5 (A6 U (.tmp (Aa U) .nil) ?_)))) U) U) U U U U) U U U U) U) U) U U U U
  exact ⟨_, ⟨⟨_, rfl⟩, rfl⟩, sbt⟩
 ·refine Bg (Ae (T U)) U (Ax U U (Aa U)) (y_ (Be (T U) (T U)) (y_ (Ae (T U)) ?_ U) U)
  first | refine Ci (s := 13) (Aa U) (fun c13 => ?_) (fun c13 => ?_) | refine C1 (s := 13) (Aa U) (fun c13 => ?_) (fun c13 => ?_)
  ·refine Cy (Cy (y_ (Az (T U) Ak) (y_ (Ad (T U)) (Af (Ac (A5 (A6 U (.tmp (Aa U) .nil) ?_)))) U) U) U U U U) U U U U
   exact ⟨_, ⟨⟨_, rfl⟩, rfl⟩, sbt⟩
  ·refine Bg (Ae (T U)) U (Ax U U (Aa U)) (Bg (B3 (T U) Ak) U (Ax U U (Aa U)) (y_ (Be (T U) (T U)) (y_ (Ad (T U)) (Af (Ac (A5 (A6 U (.tmp (Aa U) .nil) ?_)))) U) U))
   exact ⟨_, ⟨⟨_, rfl⟩, rfl⟩, sbt⟩
theorem run10_s {w0 : World} {H : List (Nat × Obj)} (s : ByteArray) (hs : s.size ≤ 9223372036854775807) :
  FSpec Tryz.prog w0 178 #[.string s] H (fun v H' => (∃ t : Int, v = .int .i64 t) ∧ H' = H) := by
 refine A7 Tryz.func178 U ntmps178 U (Ah (Ab (y_ (Ad Ak) (Af (Ac (Ah (Ab (y_ (Ad Ak) (Af (Ac (Ah (A2 ?_)))) U))))) U)))
 refine Co (X := Nat) (V := fun k => [(3, .int .i64 (k : Nat))]) (C := [(0, _)]) (φ := fun k => k ≤ s.size) (μ := fun k => s.size - k) (x0 := 0) ?_ ⟨Aa U, trivial⟩ ⟨atd, trivial⟩ ?_
 ·exact Nat.zero_le _
 rintro k hk
 refine Ah (Ah (Ab (y_ (Ae (T U)) (y_ (Ae (T U)) (y_ (yl_len_s (T U) runUnderlying9) (y_ (B4 (T U) (T U)) (Af (Ac ?_)) U) U) U) U)))
 first | refine Au (Aa U) (fun c8 => ?_) (fun c8 => ?_) | refine Bb (Aa U) (fun c8 => ?_) (fun c8 => ?_)
 ·refine A9 (Ac (A2 (Ah (Ab (y_ (Ae (T U)) (y_ (Ae (T U)) (y_ (yl_sidx (T U) (T U) runUnderlying9 (by omega)) ?_ U) U) U)))))
  refine e_ (Av (.cons (T U) .nil) call188 (wb10_s _)) ?_ U
  rintro _ _ ⟨⟨t, rfl⟩, rfl⟩
  refine y_ (Ad (T U)) (Af (Ac (Ah (Ah (Ab (y_ (Ae (T U)) ?_ U)))))) U
  first | refine Bg (Ct (T U)) U Ag ?_ | refine Bg (C2 (T U)) U Ag ?_
  refine Af (Ac ?_)
  first | refine Au (Aa U) (fun c14 => ?_) (fun c14 => ?_) | refine Bb (Aa U) (fun c14 => ?_) (fun c14 => ?_)
  ·refine B7 (A4 (q_block_miss U (A8 (Ba (Ac (Ah (Ab (y_ (Ae (T U)) (y_ (Ad (T U)) (Af (Ac (A5 (A6 U (.tmp (Aa U) .nil) ?_)))) U) U))))))))
   exact ⟨_, ⟨⟨_, rfl⟩, rfl⟩, sbt⟩
  ·refine A9 (Ac (Ab (y_ (Ae (T U)) (y_ (Bv (T U) Ak (by omega)) ?_ U) U)))
   refine y_ (Ad (T U)) (Af (Bm ?_)) U
   refine Bs (k + 1) ?_ ?_ ⟨atd, trivial⟩ ⟨Aa U, trivial⟩ ?_
   ·show k + 1 ≤ _; omega
   ·first | omega | (simp only []; omega)
   ·exact sbt
 ·refine B7 (A4 (A8 (Ba (Ac (Ah (Ab (y_ (Ae (T U)) (y_ (Ad (T U)) (Af (Ac (A5 (A6 U (.tmp (Aa U) .nil) ?_)))) U) U)))))))
  exact ⟨_, ⟨⟨_, rfl⟩, rfl⟩, sbt⟩
def wordsL : List ByteArray := [⟨#[97,110,100]⟩, ⟨#[97,110,121]⟩, ⟨#[97,116]⟩, ⟨#[98,97,99,107]⟩, ⟨#[98,111,120]⟩, ⟨#[98,117,114,115,116]⟩, ⟨#[98,121]⟩, ⟨#[99,97,112,97,99,105,116,121]⟩, ⟨#[99,101,105,108,105,110,103]⟩, ⟨#[99,104,101,99,107]⟩, ⟨#[99,111,110,116,114,97,99,116]⟩, ⟨#[99,111,117,110,116]⟩, ⟨#[100,101,109,97,110,100]⟩, ⟨#[100,114,111,112]⟩, ⟨#[101,97,99,104]⟩, ⟨#[101,100,103,101]⟩, ⟨#[101,110,116,114,105,101,115]⟩, ⟨#[102,97,108,115,101]⟩, ⟨#[102,105,101,108,100]⟩, ⟨#[102,108,111,111,114]⟩, ⟨#[102,114,111,109]⟩, ⟨#[105,100]⟩, ⟨#[105,110]⟩, ⟨#[105,110,110,101,114]⟩, ⟨#[105,110,116,111]⟩, ⟨#[108,105,110,107]⟩, ⟨#[110,101,116,119,111,114,107]⟩, ⟨#[110,111,100,101]⟩, ⟨#[110,111,116]⟩, ⟨#[111,112,101,110]⟩, ⟨#[111,114]⟩, ⟨#[112,97,116,104]⟩, ⟨#[112,111,114,116]⟩, ⟨#[112,114,105,99,101]⟩, ⟨#[114,111,117,116,101]⟩, ⟨#[114,117,108,101,115]⟩, ⟨#[115,116,97,103,101]⟩, ⟨#[116,97,107,101]⟩, ⟨#[116,101,110,97,110,116]⟩, ⟨#[116,104,101,110]⟩, ⟨#[116,105,109,101]⟩, ⟨#[116,111]⟩, ⟨#[116,111,107,101,110]⟩, ⟨#[116,114,97,110,115,108,97,116,101]⟩, ⟨#[116,114,117,101]⟩, ⟨#[118,105,97]⟩, ⟨#[119,105,100,116,104]⟩, ⟨#[119,105,114,101]⟩, ⟨#[119,105,116,104,105,110]⟩]
theorem words_s {w0 : World} {H : List (Nat × Obj)}  :
  FSpec Tryz.prog w0 187 #[] H (fun v H' => (∃ n : Nat, v = .slice (some ⟨n, 0, none⟩) 49 49 ∧ H' = (n, Cl (wordsL.flatMap encS) 9) :: H)) := by
 refine A7 Tryz.func187 U ntmps187 U (Ah (Ab (y_ (Ad Ak) (Af (Ac (Ah (Ab (e_ (An (.cons Ak (.cons Ak (.cons Ak (.cons Ak (.cons Ak (.cons Ak (.cons Ak (.cons Ak (.cons Ak (.cons Ak (.cons Ak (.cons Ak (.cons Ak (.cons Ak (.cons Ak (.cons Ak (.cons Ak (.cons Ak (.cons Ak (.cons Ak (.cons Ak (.cons Ak (.cons Ak (.cons Ak (.cons Ak (.cons Ak (.cons Ak (.cons Ak (.cons Ak (.cons Ak (.cons Ak (.cons Ak (.cons Ak (.cons Ak (.cons Ak (.cons Ak (.cons Ak (.cons Ak (.cons Ak (.cons Ak (.cons Ak (.cons Ak (.cons Ak (.cons Ak (.cons Ak (.cons Ak (.cons Ak (.cons Ak (.cons Ak .nil))))))))))))))))))))))))))))))))))))))))))))))))) (bs25_49_0_1_2_3_4_5_6_7_8_9_10_11_12_13_14_15_16_17_18_19_20_21_22_23_24_25_26_27_28_29_30_31_32_33_34_35_36_37_38_39_40_41_42_43_44_45_46_47_48 _ _ _ _ _ _ _ _ _ _ _ _ _ _ _ _ _ _ _ _ _ _ _ _ _ _ _ _ _ _ _ _ _ _ _ _ _ _ _ _ _ _ _ _ _ _ _ _ _)) ?_ U))))) U)))
 rintro _ _ ⟨n1, rfl, rfl⟩
 refine y_ (Ad (T U)) (Af (Ac (A5 (A6 U (.tmp (Aa U) .nil) ?_)))) U
 exact ⟨_, ⟨_, rfl, rfl⟩, sbt⟩
theorem isw_s {w0 : World} {H : List (Nat × Obj)} (s : ByteArray) :
  FSpec Tryz.prog w0 177 #[.string s] H (fun v H' => (∃ t : Bool, v = .bool t) ∧ H' = H) := by
 refine A7 Tryz.func177 U ntmps177 U (Ah (Ab (y_ (Ad Ak) (Af (Ac (Ah (Ab (e_ (Av .nil call187 (words_s)) ?_ U))))) U)))
 rintro _ _ ⟨n5, rfl, rfl⟩
 refine y_ (Ad (T U)) (Af (Ac (Ah (Ah (Ab (y_ (Ad Ak) (Af (Ac (A2 ?_))) U)))))) U
 refine Co (X := Nat) (V := fun k => [(4, .int .i64 (k : Nat))]) (C := [(0, _), (3, _)]) (φ := fun k => k ≤ 49) (μ := fun k => 49 - k) (x0 := 0) ?_ ⟨Aa U, Aa U, trivial⟩ ⟨atd, trivial⟩ ?_
 ·exact Nat.zero_le _
 rintro k hk
 refine Ah (Ah (Ab (y_ (Ae (T U)) (y_ (Ae (T U)) (y_ (Bw (T U) runUnderlying25) (y_ (B4 (T U) (T U)) (Af (Ac ?_)) U) U) U) U)))
 first | refine Au (Aa U) (fun c9 => ?_) (fun c9 => ?_) | refine Bb (Aa U) (fun c9 => ?_) (fun c9 => ?_)
 ·refine A9 (Ac (Ah (A2 (Ah (Ab (y_ (Ae (T U)) (y_ (Ae (T U)) (y_ (Bh (T U) (T U) runUnderlying25 sizeOf9 (by omega) (by first | exact rfl | exact (by rfl))) ?_ U) U) U))))))
  refine y_ (Ai (T U) isAgg9 (by first | exact c_o | exact cell1 ((Di (l := wordsL) (sz := 1) (enc := encS) (fun _ => rfl) U fdd).cs (i := k) (show k < 49 by omega)))) ?_ U
  refine y_ (Ae (T U)) (y_ (yl_eqSD (T U) (T U)) (Af (Ac ?_)) U) U
  first | refine Au (Aa U) (fun c17 => ?_) (fun c17 => ?_) | refine Bb (Aa U) (fun c17 => ?_) (fun c17 => ?_)
  ·refine Ah (Ab (y_ (Ad Ak) (Af (Ac (A5 (Aw (Ao (B9 (Aw (Ao (A6 U (.tmp (Aa U) .nil) ?_))))))))) U))
   exact ⟨_, ⟨⟨_, rfl⟩, rfl⟩, sbt⟩
  ·refine A9 (Bm (Ac (Ab (y_ (Ae (T U)) (y_ (Bv (T U) Ak (by omega)) ?_ U) U))))
   refine y_ (Ad (T U)) (Af ?_) U
   refine Bs (k + 1) ?_ ?_ ⟨atd, trivial⟩ ⟨Aa U, Aa U, trivial⟩ ?_
   ·show k + 1 ≤ _; omega
   ·first | omega | (simp only []; omega)
   ·exact sbt
 ·refine B7 (A4 (A8 (Ba (Ac (Ah (Ab (y_ (Ad Ak) (Af (Ac (A5 (A6 U (.tmp (Aa U) .nil) ?_)))) U)))))))
  exact ⟨_, ⟨⟨_, rfl⟩, rfl⟩, sbt⟩
theorem name10_s {w0 : World} {H : List (Nat × Obj)} (s : ByteArray) (hs : s.size ≤ 9223372036854775807) :
  FSpec Tryz.prog w0 158 #[.string s] H (fun v H' => (∃ t : Bool, v = .bool t ∧ (t = true → s.size ≠ 0)) ∧ H' = H) := by
 refine A7 Tryz.func158 U ntmps158 U (Ah (Ab (y_ (Ad Ak) (Af (Ac (Ah (Ah (Ab (y_ (Ae (T U)) (y_ (yl_len_s (T U) runUnderlying9) (y_ (B3 (T U) Ak) (y_ (Ae (T U)) ?_ U) U) U) U)))))) U)))
 first | refine Ci (s := 8) (Aa U) (fun c8 => ?_) (fun c8 => ?_) | refine C1 (s := 8) (Aa U) (fun c8 => ?_) (fun c8 => ?_)
 ·refine Cy (Cy (Cy (y_ (Az (T U) Ak) (Af (Ac ?_)) U) U U U U) U U U U) U U U U
  first | refine Bu (Aa U) ?_ | refine Bu (Aj (Aa U) (vbool (decide_eq_true c12))) ?_
  refine Ah (Ab (y_ (Ad Ak) (Af (Ac (A5 (Ao (A6 U (.tmp (Aa U) .nil) ?_))))) U))
  exact ⟨_, ⟨⟨_, rfl, fun h => (by first | omega | cases h)⟩, rfl⟩, sbt⟩
 ·refine Bg (Ae (T U)) U (Ax U U (Aa U)) (Bg (yl_len_s (T U) runUnderlying9) U (Ax U U (Aa U)) (Bg (yl_gtr (T U) Ak) U (Ax U U (Aa U)) (y_ (Be (T U) (T U)) (Af (Ac ?_)) U)))
  first | refine Au (Aa U) (fun c12 => ?_) (fun c12 => ?_) | refine Bb (Aa U) (fun c12 => ?_) (fun c12 => ?_)
  ·refine Ah (Ab (y_ (Ad Ak) (Af (Ac (A5 (Ao (A6 U (.tmp (Aa U) .nil) ?_))))) U))
   exact ⟨_, ⟨⟨_, rfl, fun h => (by first | omega | cases h)⟩, rfl⟩, sbt⟩
  ·refine A9 (Ac (Ah (Ab (y_ (Ae (T U)) (y_ (yl_sidx (T U) Ak runUnderlying9 (by show 0 < s.size; omega)) ?_ U) U))))
   refine e_ (Av (.cons (T U) .nil) call176 (ch10_s _)) ?_ U
   rintro _ _ ⟨⟨t1, rfl⟩, rfl⟩
   refine y_ (Ad (T U)) (Af (Ac (Ah (Ab (y_ (Ae (T U)) (e_ (Av (.cons (T U) .nil) call177 (isw_s s)) ?_ U) U))))) U
   rintro _ _ ⟨⟨t2, rfl⟩, rfl⟩
   refine y_ (Ad (T U)) (Af (Ac (Ah (Ab (y_ (Ae (T U)) (y_ (Ae (T U)) ?_ U) U))))) U
   first | refine Ci (s := 19) (Aa U) (fun c19 => ?_) (fun c19 => ?_) | refine C1 (s := 19) (Aa U) (fun c19 => ?_) (fun c19 => ?_)
   ·refine Bg (Ae (T U)) U (Ax U U (Aa U)) (A0 (Av (.cons (T U) .nil) call178 (run10_s s hs)) U (Ax U U (Aa U)) ?_)
    rintro _ _ ⟨⟨t3, rfl⟩, rfl⟩
    refine Bg (Ae (T U)) U (Ax U U (Aa U)) (Bg (yl_len_s (T U) runUnderlying9) U (Ax U U (Aa U)) (Bg (B3 (T U) (T U)) U (Ax U U (Aa U)) (y_ (Az (T U) (T U)) (y_ (Ae (T U)) ?_ U) U)))
    first | refine Ci (s := 26) (Aa U) (fun c26 => ?_) (fun c26 => ?_) | refine C1 (s := 26) (Aa U) (fun c26 => ?_) (fun c26 => ?_)
    ·refine Bg (Ae (T U)) U (Ax U U (Aa U)) ?_
     first | refine Bg (Ct (T U)) U (Ax U U (Aa U)) ?_ | refine Bg (C2 (T U)) U (Ax U U (Aa U)) ?_
     refine y_ (Az (T U) (T U)) (y_ (Ad (T U)) (Af (Ac (Bt [(2, _)] ⟨Aa U, trivial⟩ (A5 (A6 U (.tmp (Aa U) .nil) ?_))))) U) U
     exact ⟨_, ⟨⟨_, rfl, fun h => (by first | omega | cases h)⟩, rfl⟩, sbt⟩
    ·refine Cf (Cf (y_ (Be (T U) Ak) (y_ (Ad (T U)) (Af (Ac (Bt [(2, _)] ⟨Aa U, trivial⟩ (A5 (A6 U (.tmp (Aa U) .nil) ?_))))) U) U) U U U U) U U U U
     exact ⟨_, ⟨⟨_, rfl, fun h => (by first | omega | cases h)⟩, rfl⟩, sbt⟩
   ·refine Cf (Cf (Cf (Cf (Cf (y_ (Be (T U) Ak) (y_ (Ae (T U)) (Cf (Cf (y_ (Be (T U) Ak) (y_ (Ad (T U)) (Af (Ac (Bt [(2, _)] ⟨Aa U, trivial⟩ (A5 (A6 U (.tmp (Aa U) .nil) ?_))))) U) U) U U U U) U U U U) U) U) U U U U) U U U U) U U U U) U U U U) U U U U
    exact ⟨_, ⟨⟨_, rfl, fun h => (by first | omega | cases h)⟩, rfl⟩, sbt⟩
theorem plain_s {w0 : World} {H : List (Nat × Obj)} (s : ByteArray) (hs : s.size ≤ 9223372036854775807) :
  FSpec Tryz.prog w0 137 #[.string s] H (fun v H' => (∃ t : Bool, v = .bool t ∧ (t = true → s.size ≠ 0)) ∧ H' = H) := by
 refine A7 Tryz.func137 U ntmps137 U (Ah (Ab (y_ (Ad Ak) (Af (Ac (Ah (Ab (y_ (Ae (T U)) (e_ (Av (.cons (T U) .nil) call158 (name10_s s hs)) ?_ U) U))))) U)))
 rintro _ _ ⟨⟨t1, rfl, h1⟩, rfl⟩
 refine y_ (Ad (T U)) (Af (Ac (A5 (A6 U (.tmp (Aa U) .nil) ?_)))) U
 exact ⟨_, ⟨⟨_, rfl, h1⟩, rfl⟩, sbt⟩
end Go.Proofs.YtkdolgnpkjihpaaGreatDoor
namespace Go.Proofs.YtkdolgnpkjihpaaGreatDoor
open _root_.Go.Proofs.Tryz
open Go.RowKit
set_option linter.unusedVariables false
set_option linter.unusedSimpArgs false
theorem bd150_0_1 (a0 : Int) (a1 : Int) (w : World) : (Instr.build 150 #[(0, .int .i64 a0), (1, .int .i64 a1)]).run Tryz.prog w = .ok (.agg #[.int .i64 a0, .int .i64 a1]) w := by kernel_rfl
theorem fa150_0 (b o : Nat) (w : World) : (Instr.fieldAt 150 (.pointer (some ⟨b, o, none⟩)) 0).run Tryz.prog w = .ok (.pointer (some ⟨b, o, none⟩)) w := by kernel_rfl
theorem fa150_1 (b o : Nat) (w : World) : (Instr.fieldAt 150 (.pointer (some ⟨b, o, none⟩)) 1).run Tryz.prog w = .ok (.pointer (some ⟨b, o + 1, none⟩)) w := by kernel_rfl
mutual
def Rxm.sz : Rxm → Nat
 | .mk _ _ _ _ xs => 1 + szL xs
def szL : List Rxm → Nat
 | [] => 0
 | x :: xs => x.sz + szL xs
end
theorem sz_eq (m : Rxm) : m.sz = 1 + szL m.args := by cases m; rfl
theorem szL_app : ∀ (a b : List Rxm), szL (a ++ b) = szL a + szL b
 | [], b => by simp [szL]
 | x :: a, b => by simp only [List.cons_append, szL, szL_app a b]; omega
theorem szL_take {l : List Rxm} {i : Nat} (h : i < l.length) : szL (l.take (i + 1)) = szL (l.take i) + (gd l i).sz := by
 rw [take_gd h, szL_app]; simp [szL]
theorem szL_le : ∀ (l : List Rxm) (i : Nat), szL (l.take i) ≤ szL l
 | [], i => by simp [szL]
 | x :: l, 0 => by simp [szL]
 | x :: l, i + 1 => by simp only [List.take_succ_cons, szL]; have := szL_le l i; omega
theorem szL_len : ∀ l : List Rxm, l.length ≤ szL l
 | [] => Nat.le_refl _
 | x :: l => by simp only [List.length_cons, szL]; have := szL_len l; have := sz_eq x; omega
theorem sz_mem {m a : Rxm} (h : a ∈ m.args) : a.sz < m.sz := by
 rw [sz_eq m]
 have : ∀ l : List Rxm, a ∈ l → a.sz ≤ szL l := fun l => by
  induction l with
  | nil => intro h; cases h
  | cons x l ih =>
   intro h
   rcases List.mem_cons.1 h with rfl | h
   ·simp only [szL]; omega
   ·have := ih h; simp only [szL]; omega
 have := this _ h; omega
theorem RxM.arr {w0 : World} {H : List (Nat × Obj)} {m : Rxm} (h : RxM w0 H m) : Arr w0 H m.q 3 encRx m.args := by cases h; assumption
theorem RxM.arg {w0 : World} {H : List (Nat × Obj)} {m a : Rxm} (h : RxM w0 H m) (ha : a ∈ m.args) : RxM w0 H a := by cases h; rename_i h1 h2 h3 h4; exact h2 _ ha
theorem RxM.nl {w0 : World} {H : List (Nat × Obj)} {m : Rxm} (h : RxM w0 H m) : m.node.size ≤ 9223372036854775807 := by cases h; assumption
theorem RxM.al {w0 : World} {H : List (Nat × Obj)} {m : Rxm} (h : RxM w0 H m) : m.args.length ≤ 9223372036854775807 := by cases h; assumption
theorem rx_ind {Q : Rxm → Prop} (h : ∀ m, (∀ a ∈ m.args, Q a) → Q m) : ∀ m, Q m := fun m => by
 have : ∀ n (m : Rxm), m.sz ≤ n → Q m := fun n => by
  induction n with
  | zero => intro m hm; rw [sz_eq] at hm; omega
  | succ n ih => intro m hm; exact h m fun a ha => ih a (by have := sz_mem ha; omega)
 exact this _ m (Nat.le_refl _)
def cntS (w0 : World) (m : Rxm) : Prop := ∀ H : List (Nat × Obj), RxM w0 H m → m.sz ≤ 8388608 → FSpec Tryz.prog w0 41 #[.agg (encRx m).toArray] H (Still (.int .i64 (m.sz : Nat)) H)
theorem cnt_step {w0 : World} {H : List (Nat × Obj)} (m : Rxm) (hM : RxM w0 H m) (hz : m.sz ≤ 8388608) (ih : ∀ a ∈ m.args, cntS w0 a) :
  FSpec Tryz.prog w0 41 #[.agg (encRx m).toArray] H (Still (.int .i64 (m.sz : Nat)) H) := by
 refine A7 Tryz.func41 U ntmps41 U ?_
 have hse := sz_eq m
 have hln := szL_len m.args
 have hA := hM.arr
 refine Ah (Ab (e_ (Bf (T U) cs_) ?_ U))
 rintro _ _ ⟨n1, rfl, rfl⟩
 refine y_ (Ad Ak) (Af (Ac (Ah (Ab (y_ (Ad Ak) (Af (Ac (Ah (Ah (Ab (y_ (Ad Ak) (Af (Ac (A2 ?_))) U)))))) U))))) U
 refine Co (X := Nat) (V := fun i => [(4, .int .i64 (i : Nat)), (3, .int .i64 (1 + szL (m.args.take i) : Nat))]) (C := [(1, _)]) (φ := fun i => i ≤ m.args.length) (μ := fun i => m.args.length - i) (x0 := 0) ?_ ⟨Aa U, trivial⟩ ⟨atd, atd, trivial⟩ ?_
 ·exact Nat.zero_le _
 rintro i hi
 have htk : i < m.args.length → szL (m.args.take (i + 1)) = szL (m.args.take i) + (gd m.args i).sz := fun h => szL_take h
 have htl := szL_le m.args (i + 1)
 have htl0 := szL_le m.args i
 refine Ah (Ah (Ab (y_ (Ae (T U)) (y_ (Bk (T U) Dj) (y_ (Ai (T U) isAgg22 (by first | exact c_o)) ?_ U) U) U)))
 refine y_ (Bw (T U) runUnderlying22) (y_ (B4 (T U) (T U)) (Af (Ac ?_)) U) U
 first | refine Au (Aa U) (fun c9 => ?_) (fun c9 => ?_) | refine Bb (Aa U) (fun c9 => ?_) (fun c9 => ?_)
 ·refine A9 (Ac (Ah (A2 (Ab (y_ (Ae (T U)) (y_ (Bk (T U) Dj) (y_ (Ai (T U) isAgg22 (by first | exact c_o)) ?_ U) U) U)))))
  refine y_ (Ae (T U)) (y_ (Bh (T U) (T U) runUnderlying22 sizeOf24 (by omega) (by first | exact rfl | exact hA.b (i := i) (by omega))) ?_ U) U
  refine y_ (Am (T U) isAgg24 sizeOf24 U (by first | exact (hA.mono sbt).cs (i := i) (by omega) | exact Bc)) ?_ U
  refine y_ (Aq (.cons (T U) .nil) call41 (fun H' hs => ih _ (A1 (i := i) (by omega)) _ ((hM.arg (A1 (i := i) (by omega))).mono (List.Sublist.trans sbt hs)) (by omega))) ?_ U
  refine y_ (Bv (T U) (T U) (by omega)) ?_ U
  refine y_ (Ad (T U)) (Af (Bm (Ac (Ab (y_ (Ae (T U)) (y_ (Bv (T U) Ak (by omega)) ?_ U) U))))) U
  refine y_ (Ad (T U)) (Af ?_) U
  refine Bs (i + 1) ?_ ?_ ⟨atd, atd, trivial⟩ ⟨Aa U, trivial⟩ ?_
  ·show i + 1 ≤ _; omega
  ·first | omega | (simp only []; omega)
  ·exact sbt
 ·refine B7 (A4 (A8 (Ba (Ac (Ah (Ab (y_ (Ae (T U)) (y_ (Ad (T U)) (Af (Ac (A5 (A6 U (.tmp (Aa U) .nil) ?_)))) U) U)))))))
  exact ⟨_, ⟨vint (by rw [List.take_of_length_le (by omega)]; omega), rfl⟩, sbt⟩
theorem cnt_s {w0 : World} {H : List (Nat × Obj)} (m : Rxm) (hM : RxM w0 H m) (hz : m.sz ≤ 8388608) : FSpec Tryz.prog w0 41 #[.agg (encRx m).toArray] H (Still (.int .i64 (m.sz : Nat)) H) :=
 rx_ind (Q := cntS w0) (fun m ih H hM hz => cnt_step m hM hz ih) m H hM hz
def strS (w0 : World) (m : Rxm) : Prop := ∀ H : List (Nat × Obj), RxM w0 H m → m.sz ≤ 8388608 → FSpec Tryz.prog w0 42 #[.agg (encRx m).toArray] H (fun v H' => (∃ t : Nat, v = .int .i64 (t : Nat) ∧ t ≤ m.sz) ∧ H' = H)
theorem str_step {w0 : World} {H : List (Nat × Obj)} (m : Rxm) (hM : RxM w0 H m) (hz : m.sz ≤ 8388608) (ih : ∀ a ∈ m.args, strS w0 a) :
  FSpec Tryz.prog w0 42 #[.agg (encRx m).toArray] H (fun v H' => (∃ t : Nat, v = .int .i64 (t : Nat) ∧ t ≤ m.sz) ∧ H' = H) := by
 refine A7 Tryz.func42 U ntmps42 U ?_
 have hse := sz_eq m
 have hln := szL_len m.args
 have hA := hM.arr
 refine Ah (Ab (e_ (Bf (T U) cs_) ?_ U))
 rintro _ _ ⟨n1, rfl, rfl⟩
 refine y_ (Ad Ak) (Af (Ac (Ah (Ab (y_ (Ad Ak) (Af (Ac (Ah (Ah (Ab (y_ (Ad Ak) (Af (Ac (A2 ?_))) U)))))) U))))) U
 refine Co (X := Nat × Nat) (V := fun ⟨i, r⟩ => [(4, .int .i64 (i : Nat)), (3, .int .i64 (r : Nat))]) (C := [(1, _)]) (φ := fun ⟨i, r⟩ => i ≤ m.args.length ∧ r ≤ szL m.args) (μ := fun ⟨i, r⟩ => m.args.length - i) (x0 := (0, 0)) ?_ ⟨Aa rfl, trivial⟩ ⟨atd, atd, trivial⟩ ?_
 ·exact ⟨Nat.zero_le _, Nat.zero_le _⟩
 rintro ⟨i, r⟩ ⟨hi, hr⟩
 have htk : i < m.args.length → szL (m.args.take (i + 1)) = szL (m.args.take i) + (gd m.args i).sz := fun h => szL_take h
 have htl := szL_le m.args (i + 1)
 have htl0 := szL_le m.args i
 refine Ah (Ah (Ab (y_ (Ae (T U)) (y_ (Bk (T U) Dj) (y_ (Ai (T U) isAgg22 (by first | exact c_o)) ?_ U) U) U)))
 refine y_ (Bw (T U) runUnderlying22) (y_ (B4 (T U) (T U)) (Af (Ac ?_)) U) U
 first | refine Au (Aa U) (fun c9 => ?_) (fun c9 => ?_) | refine Bb (Aa U) (fun c9 => ?_) (fun c9 => ?_)
 ·refine A9 (Ac (Ah (A2 (Ab (y_ (Ae (T U)) (y_ (Bk (T U) Dj) (y_ (Ai (T U) isAgg22 (by first | exact c_o)) ?_ U) U) U)))))
  refine y_ (Ae (T U)) (y_ (Bh (T U) (T U) runUnderlying22 sizeOf24 (by omega) (by first | exact rfl | exact hA.b (i := i) (by omega))) ?_ U) U
  refine y_ (Am (T U) isAgg24 sizeOf24 U (by first | exact (hA.mono sbt).cs (i := i) (by omega) | exact Bc)) ?_ U
  refine e_ (Av (.cons (T U) .nil) call42 (ih _ (A1 (i := i) (by omega)) _ ((hM.arg (A1 (i := i) (by omega))).mono sbt) (by omega))) ?_ U
  rintro _ _ ⟨⟨t, rfl, ht⟩, rfl⟩
  refine y_ (yl_max (T U) (T U)) (y_ (Ad (T U)) (Af (Bm (Ac (Ab (y_ (Ae (T U)) (y_ (Bv (T U) Ak (by omega)) ?_ U) U))))) U) U
  refine y_ (Ad (T U)) (Af ?_) U
  refine Bs ((i + 1, max r t)) ?_ ?_ ⟨atd, atd, trivial⟩ ⟨Aa U, trivial⟩ ?_
  ·exact ⟨by omega, by omega⟩
  ·first | omega | (simp only []; omega)
  ·exact sbt
 ·refine B7 (A4 (A8 (Ba (Ac (Ah (Ah (Ab (y_ (Bp (T U) Dt) (y_ (Ai (T U) isAgg3 (by first | exact c_o)) ?_ U) U))))))))
  refine y_ (B3 (T U) Ak) (Af (Ac ?_)) U
  first | refine Au (Aa U) (fun c22 => ?_) (fun c22 => ?_) | refine Bb (Aa U) (fun c22 => ?_) (fun c22 => ?_)
  ·refine Ab (y_ (Ae (T U)) (y_ (Bv (T U) Ak (by omega)) ?_ U) U)
   refine y_ (Ad (T U)) (Af (Ac (Ah (Ab (y_ (Ae (T U)) (y_ (Ad (T U)) (Af (Ac (A5 (A6 U (.tmp (Aa U) .nil) ?_)))) U) U))))) U
   exact ⟨_, ⟨⟨r + 1, rfl, by omega⟩, rfl⟩, sbt⟩
  ·refine A9 (Ac (Ah (Ab (y_ (Ae (T U)) (y_ (Ad (T U)) (Af (Ac (A5 (A6 U (.tmp (Aa U) .nil) ?_)))) U) U))))
   exact ⟨_, ⟨⟨r, rfl, by omega⟩, rfl⟩, sbt⟩
theorem str_s {w0 : World} {H : List (Nat × Obj)} (m : Rxm) (hM : RxM w0 H m) (hz : m.sz ≤ 8388608) : FSpec Tryz.prog w0 42 #[.agg (encRx m).toArray] H (fun v H' => (∃ t : Nat, v = .int .i64 (t : Nat) ∧ t ≤ m.sz) ∧ H' = H) :=
 rx_ind (Q := strS w0) (fun m ih H hM hz => str_step m hM hz ih) m H hM hz
theorem more_s {w0 : World} {H : List (Nat × Obj)} (a b c d : Nat) (h : a + b + c + d ≤ 1000000000) :
  FSpec Tryz.prog w0 136 #[.agg #[.int .i64 (a : Nat), .int .i64 (b : Nat)], .agg #[.int .i64 (c : Nat), .int .i64 (d : Nat)]] H (Still (.agg #[.int .i64 ((a + c : Nat) : Int), .int .i64 ((max b (d + 1) : Nat) : Int)]) H) := by
 refine A7 Tryz.func136 U ntmps136 U (Ah (Ab (e_ (Bf (T U) cs_) ?_ U)))
 rintro _ _ ⟨n2, rfl, rfl⟩
 refine e_ (Bf (T U) cs_) ?_ U
 rintro _ _ ⟨n3, rfl, rfl⟩
 refine e_ (Ap zeroValue150 cs_) ?_ U
 rintro _ _ ⟨n4, rfl, rfl⟩
 refine Af (Ac (Ah (Ab (y_ (Bp (T U) fa150_0) (y_ (Ai (T U) isAgg3 (by first | exact c_o)) ?_ U) U))))
 refine y_ (Bp (T U) fa150_0) (y_ (Ai (T U) isAgg3 (by first | exact c_o)) ?_ U) U
 refine y_ (Bv (T U) (T U) (by omega)) ?_ U
 refine y_ (Bk (T U) fa150_1) (y_ (Ai (T U) isAgg3 (by first | exact c_o)) ?_ U) U
 refine y_ (Bk (T U) fa150_1) (y_ (Ai (T U) isAgg3 (by first | exact c_o)) ?_ U) U
 refine y_ (Bv (T U) Ak (by omega)) ?_ U
 refine y_ (yl_max (T U) (T U)) (y_ (Bq (.cons (T U) (.cons (T U) .nil)) (bd150_0_1 _ _)) ?_ U) U
 first | refine A0 (As (T U) (T U) sizeOf150) U Ag ?_
 rintro _ _ ⟨rfl, rfl⟩
 refine Af (Ac (A5 (A6 U (.cellA (Aa U) isAgg150 sizeOf150 U (by first | exact Bc) .nil) ?_)))
 exact ⟨_, ⟨by rw [show ((a + c : Nat) : Int) = a + c by omega, show ((max b (d + 1) : Nat) : Int) = max (b : Int) ((d : Int) + 1) by omega]; rfl, rfl⟩, sbt⟩
def sizS (w0 : World) (m : Rxm) : Prop := ∀ H : List (Nat × Obj), RxM w0 H m → m.sz ≤ 8388608 → FSpec Tryz.prog w0 98 #[.agg (encRx m).toArray] H (fun v H' => (∃ d : Nat, v = .agg #[.int .i64 (m.sz : Nat), .int .i64 (d : Nat)] ∧ d ≤ m.sz) ∧ H' = H)
theorem siz_step {w0 : World} {H : List (Nat × Obj)} (m : Rxm) (hM : RxM w0 H m) (hz : m.sz ≤ 8388608) (ih : ∀ a ∈ m.args, sizS w0 a) :
  FSpec Tryz.prog w0 98 #[.agg (encRx m).toArray] H (fun v H' => (∃ d : Nat, v = .agg #[.int .i64 (m.sz : Nat), .int .i64 (d : Nat)] ∧ d ≤ m.sz) ∧ H' = H) := by
 refine A7 Tryz.func98 U ntmps98 U ?_
 have hse := sz_eq m
 have hln := szL_len m.args
 have hA := hM.arr
 refine Ah (Ab (e_ (Bf (T U) cs_) ?_ U))
 rintro _ _ ⟨n1, rfl, rfl⟩
 refine e_ (Ap zeroValue150 cs_) ?_ U
 rintro _ _ ⟨n2, rfl, rfl⟩
 refine Af (Ac (Ah (Ab (y_ (Bq (.cons Ak (.cons Ak .nil)) (bd150_0_1 _ _)) (e_ (Ap zeroValue150 cs_) ?_ U) U))))
 rintro _ _ ⟨n3, rfl, rfl⟩
 first | refine A0 (As (T U) (T U) sizeOf150) U Ag ?_
 rintro _ _ ⟨rfl, rfl⟩
 refine Af (Ac (Ah (Ah (Ab (y_ (Ad Ak) (Af (Ac (A2 ?_))) U)))))
 refine Cn (X := Nat × Nat) (V := fun ⟨i, d⟩ => [(4, .int .i64 (i : Nat))]) (C := [(1, _), (2, _), (3, _)]) (G := fun ⟨i, d⟩ => (n3, Cl [.int .i64 ((1 + szL (m.args.take i) : Nat) : Int), .int .i64 (d : Nat)] 150) :: (n2, Cl [.int .i64 0, .int .i64 0] 150) :: (n1, Cl (encRx m) 24) :: H) (φ := fun ⟨i, d⟩ => i ≤ m.args.length ∧ d ≤ 1 + szL (m.args.take i)) (μ := fun ⟨i, d⟩ => m.args.length - i) (x0 := (0, 1)) ?_ ⟨Aa rfl, Aa rfl, Aa rfl, trivial⟩ ⟨atd, trivial⟩ sb0 ?_
 ·exact ⟨Nat.zero_le _, by omega⟩
 rintro ⟨i, d⟩ ⟨hi, hd⟩
 have htk : i < m.args.length → szL (m.args.take (i + 1)) = szL (m.args.take i) + (gd m.args i).sz := fun h => szL_take h
 have htl := szL_le m.args (i + 1)
 have htl0 := szL_le m.args i
 refine Ah (Ah (Ab (y_ (Ae (T U)) (y_ (Bk (T U) Dj) (y_ (Ai (T U) isAgg22 (by first | exact c_o)) ?_ U) U) U)))
 refine y_ (Bw (T U) runUnderlying22) (y_ (B4 (T U) (T U)) (Af (Ac ?_)) U) U
 first | refine Au (Aa U) (fun c10 => ?_) (fun c10 => ?_) | refine Bb (Aa U) (fun c10 => ?_) (fun c10 => ?_)
 ·refine A9 (Ac (Ah (A2 (Cv 8 [(0, true), (1, true), (2, true), (3, true), (4, true), (5, true), (6, false), (7, true)] _ mixd (by kernel_rfl) sb0 ?_))))
  refine o_y U (Am (T U) isAgg150 sizeOf150 U (by first | exact Bc)) ?_ U Ag
  refine o_y U (Bk (T U) Dj) (o_y U (Ai (T U) isAgg22 (by first | exact c_o)) ?_ U Ag) U Ag
  refine o_y U (Ae (T U)) (o_y U (Bh (T U) (T U) runUnderlying22 sizeOf24 (by omega) (by first | exact rfl | exact hA.b (i := i) (by omega))) ?_ U Ag) U Ag
  refine o_y U (Am (T U) isAgg24 sizeOf24 U (by first | exact (hA.mono sbt).cs (i := i) (by omega) | exact Bc)) ?_ U Ag
  refine o_e U (Av (.cons (T U) .nil) call98 (ih _ (A1 (i := i) (by omega)) _ ((hM.arg (A1 (i := i) (by omega))).mono sbt) (by omega))) ?_ U Ag
  rintro _ _ ⟨⟨t, rfl, ht⟩, rfl⟩
  refine ⟨sbt, (o_y U (Aq (.cons (T U) (.cons (T U) .nil)) call136 (fun H' hs => more_s (1 + szL (m.args.take i)) d (gd m.args i).sz t (by omega))) ?_ U Ag)⟩
  refine B5 U ?_
  first | refine A0 (As (T U) (T U) sizeOf150) U Ag ?_
  rintro _ _ ⟨rfl, rfl⟩
  refine Af (Bm (Ac (Ab (y_ (Ae (T U)) (y_ (Bv (T U) Ak (by omega)) ?_ U) U))))
  refine y_ (Ad (T U)) (Af ?_) U
  have htk := szL_take (l := m.args) (i := i) (by omega)
  have htl := szL_le m.args (i + 1)
  have hgm := sz_mem (A1 (l := m.args) (i := i) (by omega))
  rw [show 1 + szL (m.args.take i) + (gd m.args i).sz = 1 + szL (m.args.take (i + 1)) by omega]
  refine Bs ((i + 1, max d (t + 1))) ?_ ?_ ⟨atd, trivial⟩ ⟨Aa U, Aa U, Aa U, trivial⟩ ?_
  ·exact ⟨by omega, by omega⟩
  ·first | omega | (simp only []; omega)
  ·exact sbt
 ·refine B7 (A4 (A8 (Ba (Ac (Ah (Ab (y_ (Am (T U) isAgg150 sizeOf150 U (by first | exact Bc)) ?_ U)))))))
  first | refine A0 (As (T U) (T U) sizeOf150) U Ag ?_
  rintro _ _ ⟨rfl, rfl⟩
  refine Af (Ac (A5 (A6 U (.cellA (Aa U) isAgg150 sizeOf150 U (by first | exact Bc) .nil) ?_)))
  rw [List.take_of_length_le (by omega)] at *
  exact ⟨_, ⟨⟨d, by rw [hse]; rfl, by omega⟩, rfl⟩, sbt⟩
theorem siz_s {w0 : World} {H : List (Nat × Obj)} (m : Rxm) (hM : RxM w0 H m) (hz : m.sz ≤ 8388608) : FSpec Tryz.prog w0 98 #[.agg (encRx m).toArray] H (fun v H' => (∃ d : Nat, v = .agg #[.int .i64 (m.sz : Nat), .int .i64 (d : Nat)] ∧ d ≤ m.sz) ∧ H' = H) :=
 rx_ind (Q := sizS w0) (fun m ih H hM hz => siz_step m hM hz ih) m H hM hz
end Go.Proofs.YtkdolgnpkjihpaaGreatDoor
namespace Go.Proofs.YtkdolgnpkjihpaaGreatDoor
open _root_.Go.Proofs.Tryz
open Go.RowKit
set_option linter.unusedVariables false
set_option linter.unusedSimpArgs false
def WantOk (m : Rxm) (w : Nat) (ok : Bool) : Prop := ((m.kind = 1 ∨ m.kind = 3) ∧ w = 0 ∧ (ok = true → m.node = ⟨#[]⟩)) ∨ (m.kind = 2 ∧ w = 0 ∧ (ok = true → m.node.size ≠ 0)) ∨ ((m.kind = 4 ∨ m.kind = 5) ∧ w = 2 ∧ (ok = true → m.node = ⟨#[]⟩)) ∨ (m.kind = 6 ∧ w = 1 ∧ (ok = true → m.node = ⟨#[]⟩))
theorem WantOk.le {m : Rxm} {w : Nat} {ok : Bool} (h : WantOk m w ok) : w ≤ 2 := by unfold WantOk at h; omega
theorem want_is {m : Rxm} {w : Nat} (h : WantOk m w true) (hl : m.args.length = w) (hp : ∀ j, j < w → ∃ e, Is (gd m.args j) e) : ∃ e, Is m e := by
 obtain ⟨k, s, q, c, xs⟩ := m
 simp only [WantOk, Rxm.kind, Rxm.node, Rxm.args] at h hl hp
 rcases h with ⟨hk, rfl, hn⟩ | ⟨rfl, rfl, hn⟩ | ⟨hk, rfl, hn⟩ | ⟨rfl, rfl, hn⟩
 ·have := List.eq_nil_of_length_eq_zero hl; subst this
  have := hn trivial; subst this
  rcases hk with rfl | rfl
  ·exact ⟨_, .emp⟩
  ·exact ⟨_, .any⟩
 ·have := List.eq_nil_of_length_eq_zero hl; subst this
  exact ⟨_, .nod (hn trivial)⟩
 ·match xs, hl with
  | [a, b], _ =>
   have := hn trivial; subst this
   obtain ⟨e1, h1⟩ := hp 0 (by omega)
   obtain ⟨e2, h2⟩ := hp 1 (by omega)
   rcases hk with rfl | rfl
   ·exact ⟨_, .seq h1 h2⟩
   ·exact ⟨_, .alt h1 h2⟩
 ·match xs, hl with
  | [a], _ =>
   have := hn trivial; subst this
   obtain ⟨e1, h1⟩ := hp 0 (by omega)
   exact ⟨_, .star h1⟩
theorem Is.lvz {m : Rxm} {e : Re} (h : Is m e) : 2 * e.lv ≤ m.sz + 1 := by
 induction h with
 | emp => simp [Re.lv]
 | nod _ => simp [Re.lv, Rxm.sz, szL]
 | any => simp [Re.lv, Rxm.sz, szL]
 | seq h1 h2 i1 i2 => simp only [Re.lv, Rxm.sz, szL]; omega
 | alt h1 h2 i1 i2 => simp only [Re.lv, Rxm.sz, szL]; omega
 | star h1 i1 => simp only [Re.lv, Rxm.sz, szL]; omega
theorem Dd {s : ByteArray} {b : Bool} (e : b = decide (s.data.toList = (⟨#[]⟩ : ByteArray).data.toList)) (h : b = true) : s = ⟨#[]⟩ := by
 rw [h] at e
 exact ByteArray.ext (Array.ext' (of_decide_eq_true e.symm))
def fmdS (w0 : World) (m : Rxm) : Prop := ∀ H : List (Nat × Obj), RxM w0 H m → m.sz ≤ 8388608 → FSpec Tryz.prog w0 99 #[.agg (encRx m).toArray] H (fun v H' => (∃ t : Bool, v = .bool t ∧ (t = true → ∃ e, Is m e)) ∧ H' = H)
theorem fmd_step {w0 : World} {H : List (Nat × Obj)} (m : Rxm) (hM : RxM w0 H m) (hz : m.sz ≤ 8388608) (ih : ∀ a ∈ m.args, fmdS w0 a) :
  FSpec Tryz.prog w0 99 #[.agg (encRx m).toArray] H (fun v H' => (∃ t : Bool, v = .bool t ∧ (t = true → ∃ e, Is m e)) ∧ H' = H) := by
 refine A7 Tryz.func99 U ntmps99 U ?_
 have hse := sz_eq m
 have hln := szL_len m.args
 have hA := hM.arr
 refine Ah (Ab (e_ (Bf (T U) cs_) ?_ U))
 rintro _ _ ⟨n1, rfl, rfl⟩
 refine y_ (Ad Ak) (Af (Ac (Ah (Ab (y_ (Bk (T U) fa24_1) (y_ (Ai (T U) isAgg9 (by first | exact c_o)) ?_ U) U))))) U
 refine e_ (Av (.cons (T U) .nil) call137 (plain_s m.node hM.nl)) ?_ U
 rintro _ _ ⟨⟨t1, rfl, ht1⟩, rfl⟩
 refine y_ (Ad (T U)) (Af (Ac (Ah (Ab (y_ (Ad Ak) (Af (Ac (Ah (Ab (y_ (Bk (T U) fa24_1) (y_ (Ai (T U) isAgg9 (by first | exact c_o)) ?_ U) U))))) U))))) U
 refine y_ (yl_eqSD (T U) Ak) (y_ (Ad (T U)) (Af (Ac ?_)) U) U
 refine j_cutH (X := Nat × Bool) (V := fun ⟨wn, ok⟩ => [(4, .int .i64 (wn : Nat)), (5, .bool ok)]) (C := [(1, _)]) (φ := fun ⟨wn, ok⟩ => WantOk m wn ok) ⟨Aa rfl, trivial⟩ ?_ ?_
 ·refine Ah (Ab (y_ (Bp (T U) Dt) (y_ (Ai (T U) isAgg3 (by first | exact c_o)) ?_ U) U))
  refine Af (Ac (A2 (Ah (Ah (Ab (y_ (B3 (T U) Ak) (y_ (Ad (T U)) (Af (Ac ?_)) U) U))))))
  first | refine Au (Aa U) (fun c16 => ?_) (fun c16 => ?_) | refine Bb (Aa U) (fun c16 => ?_) (fun c16 => ?_)
  ·refine A9 (Ac ?_)
   first | refine Bu (Aa U) ?_ | refine Bu (Aj (Aa U) (vbool (decide_eq_true c16))) ?_
   refine Ab (y_ (Ad Ak) (Af (Bm ?_)) U)
   refine Bl ((0, _)) ?_ ⟨atd, atd, trivial⟩ ⟨Aa U, trivial⟩ sbt
   first | exact .inl ⟨by omega, rfl, fun h => Dd U h⟩ | exact .inr (.inl ⟨by omega, rfl, ht1⟩) | exact .inr (.inr (.inl ⟨by omega, rfl, fun h => Dd U h⟩)) | exact .inr (.inr (.inr ⟨by omega, rfl, fun h => Dd U h⟩))
  ·refine Ab (y_ (B3 (T U) Ak) (y_ (Ad (T U)) (Af (Ac ?_)) U) U)
   first | refine Au (Aa U) (fun c16 => ?_) (fun c16 => ?_) | refine Bb (Aa U) (fun c16 => ?_) (fun c16 => ?_)
   ·refine Ab (y_ (Ad Ak) (Af (Bm ?_)) U)
    refine Bl ((0, _)) ?_ ⟨atd, atd, trivial⟩ ⟨Aa U, trivial⟩ sbt
    first | exact .inl ⟨by omega, rfl, fun h => Dd U h⟩ | exact .inr (.inl ⟨by omega, rfl, ht1⟩) | exact .inr (.inr (.inl ⟨by omega, rfl, fun h => Dd U h⟩)) | exact .inr (.inr (.inr ⟨by omega, rfl, fun h => Dd U h⟩))
   ·refine Ah (Ab (y_ (B3 (T U) Ak) (y_ (Ad (T U)) (Af (Ac ?_)) U) U))
    first | refine Au (Aa U) (fun c19 => ?_) (fun c19 => ?_) | refine Bb (Aa U) (fun c19 => ?_) (fun c19 => ?_)
    ·refine Ab (y_ (Ae (T U)) (y_ (Ad (T U)) (Af (Bm ?_)) U) U)
     refine Bl ((0, _)) ?_ ⟨atd, atd, trivial⟩ ⟨Aa U, trivial⟩ sbt
     first | exact .inl ⟨by omega, rfl, fun h => Dd U h⟩ | exact .inr (.inl ⟨by omega, rfl, ht1⟩) | exact .inr (.inr (.inl ⟨by omega, rfl, fun h => Dd U h⟩)) | exact .inr (.inr (.inr ⟨by omega, rfl, fun h => Dd U h⟩))
    ·refine Ah (Ah (Ab (y_ (B3 (T U) Ak) (y_ (Ad (T U)) (Af (Ac ?_)) U) U)))
     first | refine Au (Aa U) (fun c22 => ?_) (fun c22 => ?_) | refine Bb (Aa U) (fun c22 => ?_) (fun c22 => ?_)
     ·refine A9 (Ac ?_)
      first | refine Bu (Aa U) ?_ | refine Bu (Aj (Aa U) (vbool (decide_eq_true c22))) ?_
      refine Ab (y_ (Ad Ak) (Af (Bm ?_)) U)
      refine Bl ((2, _)) ?_ ⟨atd, atd, trivial⟩ ⟨Aa U, trivial⟩ sbt
      first | exact .inl ⟨by omega, rfl, fun h => Dd U h⟩ | exact .inr (.inl ⟨by omega, rfl, ht1⟩) | exact .inr (.inr (.inl ⟨by omega, rfl, fun h => Dd U h⟩)) | exact .inr (.inr (.inr ⟨by omega, rfl, fun h => Dd U h⟩))
     ·refine Ab (y_ (B3 (T U) Ak) (y_ (Ad (T U)) (Af (Ac ?_)) U) U)
      first | refine Au (Aa U) (fun c22 => ?_) (fun c22 => ?_) | refine Bb (Aa U) (fun c22 => ?_) (fun c22 => ?_)
      ·refine Ab (y_ (Ad Ak) (Af (Bm ?_)) U)
       refine Bl ((2, _)) ?_ ⟨atd, atd, trivial⟩ ⟨Aa U, trivial⟩ sbt
       first | exact .inl ⟨by omega, rfl, fun h => Dd U h⟩ | exact .inr (.inl ⟨by omega, rfl, ht1⟩) | exact .inr (.inr (.inl ⟨by omega, rfl, fun h => Dd U h⟩)) | exact .inr (.inr (.inr ⟨by omega, rfl, fun h => Dd U h⟩))
      ·refine Ah (Ab (y_ (B3 (T U) Ak) (y_ (Ad (T U)) (Af (Ac (Bt [(1, _), (5, _), (25, _)] ⟨Aa U, Aa U, Aa U, trivial⟩ ?_))) U) U))
       first | refine Au (Aa U) (fun c25 => ?_) (fun c25 => ?_) | refine Bb (Aa U) (fun c25 => ?_) (fun c25 => ?_)
       ·refine Ab (y_ (Ad Ak) (Af (Bm ?_)) U)
        refine Bl ((1, _)) ?_ ⟨atd, atd, trivial⟩ ⟨Aa U, trivial⟩ sbt
        first | exact .inl ⟨by omega, rfl, fun h => Dd U h⟩ | exact .inr (.inl ⟨by omega, rfl, ht1⟩) | exact .inr (.inr (.inl ⟨by omega, rfl, fun h => Dd U h⟩)) | exact .inr (.inr (.inr ⟨by omega, rfl, fun h => Dd U h⟩))
       ·refine Ah (Ab (y_ (Ad Ak) (Af (Ac (A5 (Aw (q_cut_ret (A6 U (.tmp (Aa U) .nil) ?_)))))) U))
        exact ⟨_, ⟨⟨_, rfl, fun h => by cases h⟩, rfl⟩, sbt⟩
 rintro ⟨wn, ok⟩ hw
 have hwl := hw.le
 refine Ah (Ah (Ab (y_ (Ae (T U)) ?_ U)))
 first | refine Bg (Ct (T U)) U Ag ?_ | refine Bg (C2 (T U)) U Ag ?_
 refine y_ (Ae (T U)) ?_ U
 first | refine Ci (s := 29) (Aa U) (fun c29 => ?_) (fun c29 => ?_) | refine C1 (s := 29) (Aa U) (fun c29 => ?_) (fun c29 => ?_)
 ·refine Cy (Cy (Cy (Cy (Cy (y_ (Az (T U) Ak) (Af (Ac ?_)) U) U U U U) U U U U) U U U U) U U U U) U U U U
  first | refine Bu (Aa U) ?_ | refine Bu (Aj (Aa U) (vbool (decide_eq_true c35))) ?_
  refine Ah (Ab (y_ (Ad Ak) (Af (Ac (A5 (Ao (A6 U (.tmp (Aa U) .nil) ?_))))) U))
  exact ⟨_, ⟨⟨_, rfl, fun h => by cases h⟩, rfl⟩, sbt⟩
 ·refine Bg (Bk (T U) Dj) U (Ax U U (Aa U)) (Bg (Ai (T U) isAgg22 (by first | exact c_o)) U (Ax U U (Aa U)) ?_)
  refine Bg (Bw (T U) runUnderlying22) U (Ax U U (Aa U)) (Bg (Ae (T U)) U (Ax U U (Aa U)) (Bg (C3 (T U) (T U)) U (Ax U U (Aa U)) (y_ (Be (T U) (T U)) (Af (Ac ?_)) U)))
  first | refine Au (Aa U) (fun c35 => ?_) (fun c35 => ?_) | refine Bb (Aa U) (fun c35 => ?_) (fun c35 => ?_)
  ·refine Ah (Ab (y_ (Ad Ak) (Af (Ac (A5 (Ao (A6 U (.tmp (Aa U) .nil) ?_))))) U))
   exact ⟨_, ⟨⟨_, rfl, fun h => by cases h⟩, rfl⟩, sbt⟩
  ·refine A9 (Ac (Ah (Ah (Ab (y_ (Ad Ak) (Af (Ac (A2 ?_))) U)))))
   refine Co (X := Nat) (V := fun i => [(6, .int .i64 (i : Nat))]) (C := [(1, _), (4, _)]) (φ := fun i => i ≤ wn ∧ m.args.length = wn ∧ ok = true ∧ ∀ j, j < i → ∃ e, Is (gd m.args j) e) (μ := fun i => wn - i) (x0 := 0) ?_ ⟨Aa U, Aa U, trivial⟩ ⟨atd, trivial⟩ ?_
   ·exact ⟨Nat.zero_le _, by omega, by simpa using c29, fun j hj => absurd hj (Nat.not_lt_zero _)⟩
   rintro i ⟨hi, hal, hok, hall⟩
   have htk : i < m.args.length → szL (m.args.take (i + 1)) = szL (m.args.take i) + (gd m.args i).sz := fun h => szL_take h
   have htl := szL_le m.args (i + 1)
   have htl0 := szL_le m.args i
   refine Ah (Ah (Ab (y_ (Ae (T U)) (y_ (Ae (T U)) (y_ (B4 (T U) (T U)) (Af (Ac ?_)) U) U) U)))
   first | refine Au (Aa U) (fun c38 => ?_) (fun c38 => ?_) | refine Bb (Aa U) (fun c38 => ?_) (fun c38 => ?_)
   ·refine A9 (Ac (Ah (A2 (Ah (Ab (y_ (Bk (T U) Dj) (y_ (Ai (T U) isAgg22 (by first | exact c_o)) ?_ U) U))))))
    refine y_ (Ae (T U)) (y_ (Bh (T U) (T U) runUnderlying22 sizeOf24 (by omega) (by first | exact rfl | exact hA.b (i := i) (by omega))) ?_ U) U
    refine y_ (Am (T U) isAgg24 sizeOf24 U (by first | exact (hA.mono sbt).cs (i := i) (by omega) | exact Bc)) ?_ U
    refine e_ (Av (.cons (T U) .nil) call99 (ih _ (A1 (i := i) (by omega)) _ ((hM.arg (A1 (i := i) (by omega))).mono sbt) (by omega))) ?_ U
    rintro _ _ ⟨⟨t, rfl, ht⟩, rfl⟩
    refine y_ (Ad (T U)) (Af (Ac (Ah (Ab (y_ (Ae (T U)) ?_ U))))) U
    first | refine Bg (Ct (T U)) U Ag ?_ | refine Bg (C2 (T U)) U Ag ?_
    refine Af (Ac ?_)
    first | refine Au (Aa U) (fun c48 => ?_) (fun c48 => ?_) | refine Bb (Aa U) (fun c48 => ?_) (fun c48 => ?_)
    ·refine Ah (Ab (y_ (Ad Ak) (Af (Ac (A5 (Aw (Ao (B9 (Aw (Ao (A6 U (.tmp (Aa U) .nil) ?_))))))))) U))
     exact ⟨_, ⟨⟨_, rfl, fun h => by cases h⟩, rfl⟩, sbt⟩
    ·refine A9 (Bm (Ac (Ab (y_ (Ae (T U)) (y_ (Bv (T U) Ak (by omega)) ?_ U) U))))
     refine y_ (Ad (T U)) (Af ?_) U
     refine Bs (i + 1) ?_ ?_ ⟨atd, trivial⟩ ⟨Aa U, Aa U, trivial⟩ ?_
     ·refine ⟨by omega, hal, hok, fun j hj => ?_⟩
      by_cases e : j = i
      ·subst e; exact ht (by simpa using c48)
      ·exact hall j (by omega)
     ·first | omega | (simp only []; omega)
     ·exact sbt
   ·refine B7 (A4 (A8 (Ba (Ac (Ah (Ab (y_ (Ad Ak) (Af (Ac (A5 (A6 U (.tmp (Aa U) .nil) ?_)))) U)))))))
    exact ⟨_, ⟨⟨_, rfl, fun _ => want_is (hok ▸ hw) hal (fun j hj => hall j (by omega))⟩, rfl⟩, sbt⟩
theorem fmd_s {w0 : World} {H : List (Nat × Obj)} (m : Rxm) (hM : RxM w0 H m) (hz : m.sz ≤ 8388608) : FSpec Tryz.prog w0 99 #[.agg (encRx m).toArray] H (fun v H' => (∃ t : Bool, v = .bool t ∧ (t = true → ∃ e, Is m e)) ∧ H' = H) :=
 rx_ind (Q := fmdS w0) (fun m ih H hM hz => fmd_step m hM hz ih) m H hM hz
theorem lim_s {w0 : World} {H : List (Nat × Obj)} (a b : Nat) :
  FSpec Tryz.prog w0 135 #[.agg #[.int .i64 (a : Nat), .int .i64 (b : Nat)]] H (fun v H' => (∃ t : Int, v = .int .i64 t) ∧ H' = H) := by
 refine A7 Tryz.func135 U ntmps135 U (Ah (Ab (e_ (Bf (T U) cs_) ?_ U)))
 rintro _ _ ⟨n1, rfl, rfl⟩
 refine y_ (Ad Ak) (Af (Ac (Ah (Ah (Ab (y_ (Bp (T U) fa150_0) (y_ (Ai (T U) isAgg3 (by first | exact c_o)) ?_ U) U)))))) U
 refine y_ (yl_gtr (T U) Ak) (y_ (Ae (T U)) ?_ U) U
 first | refine Ci (s := 6) (Aa U) (fun c6 => ?_) (fun c6 => ?_) | refine C1 (s := 6) (Aa U) (fun c6 => ?_) (fun c6 => ?_)
 ·refine Cy (Cy (Cy (y_ (Az (T U) Ak) (Af (Ac ?_)) U) U U U U) U U U U) U U U U
  first | refine Bu (Aa U) ?_ | refine Bu (Aj (Aa U) (vbool (decide_eq_true c10))) ?_
  refine Ah (Ab (y_ (Ad Ak) (Af (Ac (A5 (Ao (A6 U (.tmp (Aa U) .nil) ?_))))) U))
  exact ⟨_, ⟨⟨_, rfl⟩, rfl⟩, sbt⟩
 ·refine Bg (Bk (T U) fa150_1) U (Ax U U (Aa U)) (Bg (Ai (T U) isAgg3 (by first | exact c_o)) U (Ax U U (Aa U)) ?_)
  refine Bg (yl_gtr (T U) Ak) U (Ax U U (Aa U)) (y_ (Be (T U) (T U)) (Af (Ac ?_)) U)
  first | refine Au (Aa U) (fun c10 => ?_) (fun c10 => ?_) | refine Bb (Aa U) (fun c10 => ?_) (fun c10 => ?_)
  ·refine Ah (Ab (y_ (Ad Ak) (Af (Ac (A5 (Ao (A6 U (.tmp (Aa U) .nil) ?_))))) U))
   exact ⟨_, ⟨⟨_, rfl⟩, rfl⟩, sbt⟩
  ·refine A9 (Ac (Ah (Ab (y_ (Ad Ak) (Af (Ac (A5 (A6 U (.tmp (Aa U) .nil) ?_)))) U))))
   exact ⟨_, ⟨⟨_, rfl⟩, rfl⟩, sbt⟩
theorem frm_s {w0 : World} {H : List (Nat × Obj)} (a b : Nat) (t : Bool) :
  FSpec Tryz.prog w0 97 #[.agg #[.int .i64 (a : Nat), .int .i64 (b : Nat)], .bool t] H (fun v H' => (∃ e : Int, v = .int .i64 e ∧ (e = 0 → t = true)) ∧ H' = H) := by
 refine A7 Tryz.func97 U ntmps97 U (Ah (Ab (e_ (Bf (T U) cs_) ?_ U)))
 rintro _ _ ⟨n2, rfl, rfl⟩
 refine y_ (Ad Ak) (Af (Ac (Ah (Ab (y_ (Am (T U) isAgg150 sizeOf150 U (by first | exact Bc)) ?_ U))))) U
 refine e_ (Av (.cons (T U) .nil) call135 (lim_s a b)) ?_ U
 rintro _ _ ⟨⟨e0, rfl⟩, rfl⟩
 refine y_ (Ad (T U)) (Af (Ac (Ah (Ah (Ab (y_ (Ae (T U)) (y_ (B3 (T U) Ak) (y_ (Ae (T U)) ?_ U) U) U)))))) U
 first | refine Ci (s := 10) (Aa U) (fun c10 => ?_) (fun c10 => ?_) | refine C1 (s := 10) (Aa U) (fun c10 => ?_) (fun c10 => ?_)
 ·refine Bg (Ae (T U)) U (Ax U U (Aa U)) ?_
  first | refine Bg (Ct (T U)) U (Ax U U (Aa U)) ?_ | refine Bg (C2 (T U)) U (Ax U U (Aa U)) ?_
  refine y_ (Az (T U) (T U)) (Af (Ac ?_)) U
  first | refine Au (Aa U) (fun c13 => ?_) (fun c13 => ?_) | refine Bb (Aa U) (fun c13 => ?_) (fun c13 => ?_)
  ·refine Ah (Ab (y_ (Ad Ak) (Af (Ac (A5 (Ao (A6 U (.tmp (Aa U) .nil) ?_))))) U))
   exact ⟨_, ⟨⟨_, rfl, fun h => (by first | (exfalso; omega) | (simp_all; done) | (cases t <;> simp_all; done))⟩, rfl⟩, sbt⟩
  ·refine A9 (Ac (Ah (Ab (y_ (Ae (T U)) (y_ (Ad (T U)) (Af (Ac (A5 (A6 U (.tmp (Aa U) .nil) ?_)))) U) U))))
   exact ⟨_, ⟨⟨_, rfl, fun h => (by first | (exfalso; omega) | (simp_all; done) | (cases t <;> simp_all; done))⟩, rfl⟩, sbt⟩
 ·refine Cf (Cf (y_ (Be (T U) Ak) (Af (Ac ?_)) U) U U U U) U U U U
  first | refine B8 (Aa U) ?_ | refine B8 (Aj (Aa U) (vbool (decide_eq_false c13))) ?_
  refine A9 (Ac (Ah (Ab (y_ (Ae (T U)) (y_ (Ad (T U)) (Af (Ac (A5 (A6 U (.tmp (Aa U) .nil) ?_)))) U) U))))
  exact ⟨_, ⟨⟨_, rfl, fun h => (by first | (exfalso; omega) | (simp_all; done) | (cases t <;> simp_all; done))⟩, rfl⟩, sbt⟩
theorem chkr_s {w0 : World} {H : List (Nat × Obj)} (m : Rxm) (hM : RxM w0 H m) (hz : m.sz ≤ 8388608) :
  FSpec Tryz.prog w0 40 #[.agg (encRx m).toArray] H (fun v H' => (∃ e : Int, v = .int .i64 e ∧ (e = 0 → ∃ x, Is m x)) ∧ H' = H) := by
 refine A7 Tryz.func40 U ntmps40 U (Ah (Ab (e_ (Bf (T U) cs_) ?_ U)))
 rintro _ _ ⟨n1, rfl, rfl⟩
 refine y_ (Ad Ak) (Af (Ac (Ah (Cv 3 [(0, true), (2, true), (1, false)] _ mixd (by kernel_rfl) sb0 ?_)))) U
 refine o_y U (Am (T U) isAgg24 sizeOf24 U (by first | exact Bc)) ?_ U Ag
 refine o_y U (Am (T U) isAgg24 sizeOf24 U (by first | exact Bc)) ?_ U Ag
 refine o_e U (Av (.cons (T U) .nil) call98 (siz_s m (hM.mono sbt) hz)) ?_ U Ag
 rintro _ _ ⟨⟨d, rfl, hd⟩, rfl⟩
 refine ⟨sbt, (B5 U (e_ (Av (.cons (T U) .nil) call99 (fmd_s m (hM.mono sbt) hz)) ?_ U))⟩
 rintro _ _ ⟨⟨t, rfl, ht⟩, rfl⟩
 refine e_ (Av (.cons (T U) (.cons (T U) .nil)) call97 (frm_s m.sz d t)) ?_ U
 rintro _ _ ⟨⟨e, rfl, he⟩, rfl⟩
 refine y_ (Ad (T U)) (Af (Ac (A5 (A6 U (.tmp (Aa U) .nil) ?_)))) U
 exact ⟨_, ⟨⟨_, rfl, fun h => ht (he h)⟩, rfl⟩, sbt⟩
theorem few8_s {w0 : World} {H : List (Nat × Obj)} (m : Rxm) (hM : RxM w0 H m) (hz : m.sz ≤ 8388608) :
  FSpec Tryz.prog w0 10 #[.agg (encRx m).toArray] H (fun v H' => (∃ t : Bool, v = .bool t ∧ (t = true → ∃ x, Is m x ∧ m.sz ≤ 40)) ∧ H' = H) := by
 refine A7 Tryz.func10 U ntmps10 U (Ah (Ab (e_ (Bf (T U) cs_) ?_ U)))
 rintro _ _ ⟨n1, rfl, rfl⟩
 refine y_ (Ad Ak) (Af (Ac (Ah (Ab (y_ (Am (T U) isAgg24 sizeOf24 U (by first | exact Bc)) ?_ U))))) U
 refine e_ (Av (.cons (T U) .nil) call40 (chkr_s m (hM.mono sbt) hz)) ?_ U
 rintro _ _ ⟨⟨e, rfl, he⟩, rfl⟩
 refine y_ (Ad (T U)) (Af (Ac (Ah (Ab (y_ (Ae (T U)) (y_ (B3 (T U) Ak) (y_ (Ae (T U)) ?_ U) U) U))))) U
 first | refine Ci (s := 8) (Aa U) (fun c8 => ?_) (fun c8 => ?_) | refine C1 (s := 8) (Aa U) (fun c8 => ?_) (fun c8 => ?_)
 ·refine Bg (Am (T U) isAgg24 sizeOf24 U (by first | exact Bc)) U (Ax U U (Aa U)) ?_
  refine Bg (Aq (.cons (T U) .nil) call41 (fun H' hs => cnt_s m (hM.mono (List.Sublist.trans sbt hs)) hz)) U (Ax U U (Aa U)) (Bg (yl_leq (T U) Ak) U (Ax U U (Aa U)) (y_ (Az (T U) (T U)) (y_ (Ae (T U)) ?_ U) U))
  first | refine Ci (s := 13) (Aa U) (fun c13 => ?_) (fun c13 => ?_) | refine C1 (s := 13) (Aa U) (fun c13 => ?_) (fun c13 => ?_)
  ·refine Bg (Am (T U) isAgg24 sizeOf24 U (by first | exact Bc)) U (Ax U U (Aa U)) ?_
   refine A0 (Av (.cons (T U) .nil) call42 (str_s m (hM.mono sbt) hz)) U (Ax U U (Aa U)) ?_
   rintro _ _ ⟨⟨t, rfl, ht⟩, rfl⟩
   refine Bg (yl_leq (T U) Ak) U (Ax U U (Aa U)) (y_ (Az (T U) (T U)) (y_ (Ad (T U)) (Af (Ac (A5 (A6 U (.tmp (Aa U) .nil) ?_)))) U) U)
   exact ⟨_, ⟨⟨_, rfl, fun h => (by first | (obtain ⟨x, hx⟩ := he (by omega); exact ⟨x, hx, by omega⟩) | cases h)⟩, rfl⟩, sbt⟩
  ·refine Cf (Cf (Cf (y_ (Be (T U) Ak) (y_ (Ad (T U)) (Af (Ac (A5 (A6 U (.tmp (Aa U) .nil) ?_)))) U) U) U U U U) U U U U) U U U U
   exact ⟨_, ⟨⟨_, rfl, fun h => (by first | (obtain ⟨x, hx⟩ := he (by omega); exact ⟨x, hx, by omega⟩) | cases h)⟩, rfl⟩, sbt⟩
 ·refine Cf (Cf (Cf (y_ (Be (T U) Ak) (y_ (Ae (T U)) (Cf (Cf (Cf (y_ (Be (T U) Ak) (y_ (Ad (T U)) (Af (Ac (A5 (A6 U (.tmp (Aa U) .nil) ?_)))) U) U) U U U U) U U U U) U U U U) U) U) U U U U) U U U U) U U U U
  exact ⟨_, ⟨⟨_, rfl, fun h => (by first | (obtain ⟨x, hx⟩ := he (by omega); exact ⟨x, hx, by omega⟩) | cases h)⟩, rfl⟩, sbt⟩
end Go.Proofs.YtkdolgnpkjihpaaGreatDoor
namespace Go.Proofs.YtkdolgnpkjihpaaGreatDoor
open _root_.Go.Proofs.Tryz
open Go.RowKit
set_option linter.unusedVariables false
set_option linter.unusedSimpArgs false
end Go.Proofs.YtkdolgnpkjihpaaGreatDoor
namespace Go.Proofs.YtkdolgnpkjihpaaGreatDoor
open _root_.Go.Proofs.Tryz
open Go.RowKit
set_option linter.unusedVariables false
set_option linter.unusedSimpArgs false
structure RgtOk (n : Nm) (f : Flr) (x y : Int) : Prop where
 net : NetOk n
 nn : n.nodes.length ≤ 12
 nl : n.links.length ≤ 30
 fl : f.links.length ≤ 30
 x : 0 ≤ x ∧ x < n.nodes.length
 y : 0 ≤ y ∧ y < n.nodes.length
end Go.Proofs.YtkdolgnpkjihpaaGreatDoor
namespace Go.Proofs.YtkdolgnpkjihpaaGreatDoor
open _root_.Go.Proofs.Tryz
open Go.RowKit
set_option linter.unusedVariables false
set_option linter.unusedSimpArgs false
def putF (n : Nat) : List Nat → List Nat
 | [] => [n]
 | x :: l => if x < n then x :: putF n l else if x = n then x :: l else n :: x :: l
def mergeF (a b : List Nat) : List Nat := b.foldl (fun l n => putF n l) a
end Go.Proofs.YtkdolgnpkjihpaaGreatDoor
namespace Go.Proofs.YtkdolgnpkjihpaaGreatDoor
open _root_.Go.Proofs.Tryz
open Go.RowKit
set_option linter.unusedVariables false
set_option linter.unusedSimpArgs false
inductive Lang : Re → List ByteArray → Prop
 | emp : Lang .emp []
 | nod (s) : Lang (.nod s) [s]
 | any (s) : Lang .any [s]
 | seq {a b u v} : Lang a u → Lang b v → Lang (.seq a b) (u ++ v)
 | altl {a b u} : Lang a u → Lang (.alt a b) u
 | altr {a b u} : Lang b u → Lang (.alt a b) u
 | stn {a} : Lang (.star a) []
 | stc {a u v} : Lang a u → Lang (.star a) v → Lang (.star a) (u ++ v)
def nulE : Re → Bool
 | .emp => true
 | .nod _ => false
 | .any => false
 | .seq a b => nulE a && nulE b
 | .alt a b => nulE a || nulE b
 | .star _ => true
def fiE : Re → Nat → Nat → Prop
 | .emp, _, _ => False
 | .nod _, n, p => p = n
 | .any, n, p => p = n
 | .seq a b, n, p => fiE a n p ∨ (nulE a = true ∧ fiE b (n + a.lv) p)
 | .alt a b, n, p => fiE a n p ∨ fiE b (n + a.lv) p
 | .star a, n, p => fiE a n p
def laE : Re → Nat → Nat → Prop
 | .emp, _, _ => False
 | .nod _, n, p => p = n
 | .any, n, p => p = n
 | .seq a b, n, p => laE b (n + a.lv) p ∨ (nulE b = true ∧ laE a n p)
 | .alt a b, n, p => laE a n p ∨ laE b (n + a.lv) p
 | .star a, n, p => laE a n p
def foE : Re → Nat → Nat → Nat → Prop
 | .emp, _, _, _ => False
 | .nod _, _, _, _ => False
 | .any, _, _, _ => False
 | .seq a b, n, p, q => foE a n p q ∨ foE b (n + a.lv) p q ∨ (laE a n p ∧ fiE b (n + a.lv) q)
 | .alt a b, n, p, q => foE a n p q ∨ foE b (n + a.lv) p q
 | .star a, n, p, q => foE a n p q ∨ (laE a n p ∧ fiE a n q)
theorem Dv : ∀ {e : Re} {n p : Nat}, fiE e n p → n ≤ p ∧ p < n + e.lv
 | .emp, _, _, h => by cases h
 | .nod _, _, _, h => by simp only [fiE, Re.lv] at *; omega
 | .any, _, _, h => by simp only [fiE, Re.lv] at *; omega
 | .seq a b, _, _, h => by
  simp only [Re.lv]
  rcases h with h | ⟨_, h⟩
  ·have := Dv h; omega
  ·have := Dv h; omega
 | .alt a b, _, _, h => by
  simp only [Re.lv]
  rcases h with h | h
  ·have := Dv h; omega
  ·have := Dv h; omega
 | .star a, _, _, h => Dv (e := a) h
theorem Dr : ∀ {e : Re} {n p : Nat}, laE e n p → n ≤ p ∧ p < n + e.lv
 | .emp, _, _, h => by cases h
 | .nod _, _, _, h => by simp only [laE, Re.lv] at *; omega
 | .any, _, _, h => by simp only [laE, Re.lv] at *; omega
 | .seq a b, _, _, h => by
  simp only [Re.lv]
  rcases h with h | ⟨_, h⟩
  ·have := Dr h; omega
  ·have := Dr h; omega
 | .alt a b, _, _, h => by
  simp only [Re.lv]
  rcases h with h | h
  ·have := Dr h; omega
  ·have := Dr h; omega
 | .star a, _, _, h => Dr (e := a) h
theorem Dh : ∀ {e : Re} {n p q : Nat}, foE e n p q → (n ≤ p ∧ p < n + e.lv) ∧ (n ≤ q ∧ q < n + e.lv)
 | .emp, _, _, _, h => by cases h
 | .nod _, _, _, _, h => by cases h
 | .any, _, _, _, h => by cases h
 | .seq a b, _, _, _, h => by
  simp only [Re.lv]
  rcases h with h | h | ⟨h1, h2⟩
  ·have := Dh h; omega
  ·have := Dh h; omega
  ·have := Dr h1; have := Dv h2; omega
 | .alt a b, _, _, _, h => by
  simp only [Re.lv]
  rcases h with h | h
  ·have := Dh h; omega
  ·have := Dh h; omega
 | .star a, n, _, _, h => by
  rcases h with h | ⟨h1, h2⟩
  ·exact Dh (e := a) h
  ·have := Dr h1; have := Dv h2; simp only [Re.lv]; omega
inductive Rw (F : Nat → Nat → Prop) (La : Nat → Prop) (mt : Nat → ByteArray → Prop) : Nat → List ByteArray → Prop
 | nil {p} : La p → Rw F La mt p []
 | cons {p q s w} : F p q → mt q s → Rw F La mt q w → Rw F La mt p (s :: w)
theorem Rw.app {F F' : Nat → Nat → Prop} {La La' : Nat → Prop} {mt : Nat → ByteArray → Prop} {p : Nat} {u v : List ByteArray} (h : Rw F La mt p u) (hF : ∀ p q, F p q → F' p q) (hL : ∀ p, La p → Rw F' La' mt p v) : Rw F' La' mt p (u ++ v) := by
 induction h with
 | nil h => exact hL _ h
 | cons h1 h2 _ ih => exact .cons (hF _ _ h1) h2 ih
theorem Rw.mono {F F' : Nat → Nat → Prop} {La La' : Nat → Prop} {mt : Nat → ByteArray → Prop} {p : Nat} {u : List ByteArray} (h : Rw F La mt p u) (hF : ∀ p q, F p q → F' p q) (hL : ∀ p, La p → La' p) : Rw F' La' mt p u := by
 have := h.app (v := []) hF fun p hp => .nil (hL p hp)
 rwa [List.append_nil] at this
def Thr (mt : Nat → ByteArray → Prop) (e : Re) (n : Nat) (w : List ByteArray) : Prop := (w = [] ∧ nulE e = true) ∨ ∃ p s v, w = s :: v ∧ fiE e n p ∧ mt p s ∧ Rw (foE e n) (laE e n) mt p v
def Mts (mt : Nat → ByteArray → Prop) : Re → Nat → Prop
 | .emp, _ => True
 | .nod x, n => ∀ s, mt n s ↔ s = x
 | .any, n => ∀ s, mt n s
 | .seq a b, n => Mts mt a n ∧ Mts mt b (n + a.lv)
 | .alt a b, n => Mts mt a n ∧ Mts mt b (n + a.lv)
 | .star a, n => Mts mt a n
variable {mt : Nat → ByteArray → Prop}
theorem Thr.seq {a b : Re} {n : Nat} {u v : List ByteArray} (h1 : Thr mt a n u) (h2 : Thr mt b (n + a.lv) v) : Thr mt (.seq a b) n (u ++ v) := by
 rcases h2 with ⟨rfl, hb⟩ | ⟨q, t, v', rfl, hq, hm, hr⟩
 ·rw [List.append_nil]
  rcases h1 with ⟨rfl, ha⟩ | ⟨p, s, u', rfl, hp, hm, hr⟩
  ·exact .inl ⟨rfl, by simp [nulE, ha, hb]⟩
  ·exact .inr ⟨p, s, u', rfl, .inl hp, hm, hr.mono (fun _ _ h => .inl h) fun _ h => .inr ⟨hb, h⟩⟩
 ·have hr' : Rw (foE (.seq a b) n) (laE (.seq a b) n) mt q v' := hr.mono (fun _ _ h => .inr (.inl h)) fun _ h => .inl h
  rcases h1 with ⟨rfl, ha⟩ | ⟨p, s, u', rfl, hp, hm1, hr1⟩
  ·exact .inr ⟨q, t, v', rfl, .inr ⟨ha, hq⟩, hm, hr'⟩
  ·exact .inr ⟨p, s, u' ++ t :: v', rfl, .inl hp, hm1, hr1.app (fun _ _ h => .inl h) fun p' h => .cons (.inr (.inr ⟨h, hq⟩)) hm hr'⟩
theorem Thr.star {a : Re} {n : Nat} {u v : List ByteArray} (h1 : Thr mt a n u) (h2 : Thr mt (.star a) n v) : Thr mt (.star a) n (u ++ v) := by
 rcases h1 with ⟨rfl, ha⟩ | ⟨p, s, u', rfl, hp, hm1, hr1⟩
 ·exact h2
 ·rcases h2 with ⟨rfl, hb⟩ | ⟨q, t, v', rfl, hq, hm, hr⟩
  ·rw [List.append_nil]
   exact .inr ⟨p, s, u', rfl, hp, hm1, hr1.mono (fun _ _ h => .inl h) fun _ h => h⟩
  ·exact .inr ⟨p, s, u' ++ t :: v', rfl, hp, hm1, hr1.app (fun _ _ h => .inl h) fun p' h => .cons (.inr ⟨h, hq⟩) hm hr⟩
theorem thr_of {e : Re} {w : List ByteArray} (h : Lang e w) : ∀ {n : Nat}, Mts mt e n → Thr mt e n w := by
 induction h with
 | emp => exact fun _ => .inl ⟨rfl, rfl⟩
 | nod s => exact fun hm => .inr ⟨_, s, [], rfl, rfl, (hm s).2 rfl, .nil rfl⟩
 | any s => exact fun hm => .inr ⟨_, s, [], rfl, rfl, hm s, .nil rfl⟩
 | seq _ _ ih1 ih2 => exact fun hm => .seq (ih1 hm.1) (ih2 hm.2)
 | altl _ ih =>
  intro n hm
  rcases ih hm.1 with ⟨rfl, ha⟩ | ⟨p, s, v, rfl, hp, hm1, hr⟩
  ·exact .inl ⟨rfl, by simp [nulE, ha]⟩
  ·exact .inr ⟨p, s, v, rfl, .inl hp, hm1, hr.mono (fun _ _ h => .inl h) fun _ h => .inl h⟩
 | altr _ ih =>
  intro n hm
  rcases ih hm.2 with ⟨rfl, ha⟩ | ⟨p, s, v, rfl, hp, hm1, hr⟩
  ·exact .inl ⟨rfl, by simp [nulE, ha]⟩
  ·exact .inr ⟨p, s, v, rfl, .inr hp, hm1, hr.mono (fun _ _ h => .inr h) fun _ h => .inr h⟩
 | stn => exact fun _ => .inl ⟨rfl, rfl⟩
 | stc _ _ ih1 ih2 => exact fun hm => .star (ih1 hm) (ih2 hm)
theorem rw_r {a b : Re} {n p : Nat} {w : List ByteArray} (h : Rw (foE (.seq a b) n) (laE (.seq a b) n) mt p w) : n + a.lv ≤ p → Rw (foE b (n + a.lv)) (laE b (n + a.lv)) mt p w := by
 induction h with
 | nil h =>
  intro hp
  rcases h with h | ⟨_, h⟩
  ·exact .nil h
  ·have := Dr h; omega
 | cons h1 h2 _ ih =>
  intro hp
  rcases h1 with h1 | h1 | ⟨h1, _⟩
  ·have := Dh h1; omega
  ·exact .cons h1 h2 (ih (Dh h1).2.1)
  ·have := Dr h1; omega
theorem rw_alt1 {a b : Re} {n p : Nat} {w : List ByteArray} (h : Rw (foE (.alt a b) n) (laE (.alt a b) n) mt p w) : p < n + a.lv → Rw (foE a n) (laE a n) mt p w := by
 induction h with
 | nil h =>
  intro hp
  rcases h with h | h
  ·exact .nil h
  ·have := Dr h; omega
 | cons h1 h2 _ ih =>
  intro hp
  rcases h1 with h1 | h1
  ·exact .cons h1 h2 (ih (Dh h1).2.2)
  ·have := Dh h1; omega
theorem rw_alt2 {a b : Re} {n p : Nat} {w : List ByteArray} (h : Rw (foE (.alt a b) n) (laE (.alt a b) n) mt p w) : n + a.lv ≤ p → Rw (foE b (n + a.lv)) (laE b (n + a.lv)) mt p w := by
 induction h with
 | nil h =>
  intro hp
  rcases h with h | h
  ·have := Dr h; omega
  ·exact .nil h
 | cons h1 h2 _ ih =>
  intro hp
  rcases h1 with h1 | h1
  ·have := Dh h1; omega
  ·exact .cons h1 h2 (ih (Dh h1).2.1)
theorem lang_of : ∀ {e : Re} {n : Nat} {w : List ByteArray}, Mts mt e n → Thr mt e n w → Lang e w
 | .emp, n, w, _, h => by
  rcases h with ⟨rfl, _⟩ | ⟨p, s, v, rfl, hp, _⟩
  ·exact .emp
  ·cases hp
 | .nod x, n, w, hm, h => by
  rcases h with ⟨rfl, h⟩ | ⟨p, s, v, rfl, hp, hs, hr⟩
  ·cases h
  ·simp only [fiE] at hp; subst hp
   have := (hm s).1 hs; subst this
   cases hr with
   | nil _ => exact .nod _
   | cons h _ _ => cases h
 | .any, n, w, hm, h => by
  rcases h with ⟨rfl, h⟩ | ⟨p, s, v, rfl, hp, hs, hr⟩
  ·cases h
  ·cases hr with
   | nil _ => exact .any _
   | cons h _ _ => cases h
 | .seq a b, n, w, hm, h => by
  have iha := fun {w} => lang_of (e := a) (w := w) hm.1
  have ihb := fun {w} => lang_of (e := b) (w := w) hm.2
  have key : ∀ {p : Nat} {w : List ByteArray}, Rw (foE (.seq a b) n) (laE (.seq a b) n) mt p w → p < n + a.lv → ∃ u v, w = u ++ v ∧ Rw (foE a n) (laE a n) mt p u ∧ Lang b v := by
   intro p w h
   induction h with
   | nil h =>
    intro hp
    rcases h with h | ⟨hb, h⟩
    ·have := Dr h; omega
    ·exact ⟨[], [], rfl, .nil h, ihb (.inl ⟨rfl, hb⟩)⟩
   | @cons p q s w h1 h2 h3 ih =>
    intro hp
    rcases h1 with h1 | h1 | ⟨h1, h4⟩
    ·obtain ⟨u, v, rfl, e1, e2⟩ := ih (Dh h1).2.2
     exact ⟨s :: u, v, rfl, .cons h1 h2 e1, e2⟩
    ·have := Dh h1; omega
    ·exact ⟨[], s :: w, rfl, .nil h1, ihb (.inr ⟨q, s, w, rfl, h4, h2, rw_r h3 (Dv h4).1⟩)⟩
  rcases h with ⟨rfl, h⟩ | ⟨p, s, v, rfl, hp, hs, hr⟩
  ·simp only [nulE, Bool.and_eq_true] at h
   exact .seq (u := []) (iha (.inl ⟨rfl, h.1⟩)) (ihb (.inl ⟨rfl, h.2⟩))
  ·rcases hp with hp | ⟨ha, hp⟩
   ·obtain ⟨u, v, rfl, e1, e2⟩ := key hr (Dv hp).2
    exact .seq (u := s :: u) (iha (.inr ⟨p, s, u, rfl, hp, hs, e1⟩)) e2
   ·exact .seq (u := []) (iha (.inl ⟨rfl, ha⟩)) (ihb (.inr ⟨p, s, v, rfl, hp, hs, rw_r hr (Dv hp).1⟩))
 | .alt a b, n, w, hm, h => by
  rcases h with ⟨rfl, h⟩ | ⟨p, s, v, rfl, hp, hs, hr⟩
  ·simp only [nulE, Bool.or_eq_true] at h
   rcases h with h | h
   ·exact .altl (lang_of hm.1 (.inl ⟨rfl, h⟩))
   ·exact .altr (lang_of hm.2 (.inl ⟨rfl, h⟩))
  ·rcases hp with hp | hp
   ·exact .altl (lang_of hm.1 (.inr ⟨p, s, v, rfl, hp, hs, rw_alt1 hr (Dv hp).2⟩))
   ·exact .altr (lang_of hm.2 (.inr ⟨p, s, v, rfl, hp, hs, rw_alt2 hr (Dv hp).1⟩))
 | .star a, n, w, hm, h => by
  have iha := fun {w} => lang_of (e := a) (n := n) (w := w) hm
  have key : ∀ {p : Nat} {w : List ByteArray}, Rw (foE (.star a) n) (laE (.star a) n) mt p w → ∃ u v, w = u ++ v ∧ Rw (foE a n) (laE a n) mt p u ∧ Lang (.star a) v := by
   intro p w h
   induction h with
   | nil h => exact ⟨[], [], rfl, .nil h, .stn⟩
   | @cons p q s w h1 h2 h3 ih =>
    obtain ⟨u, v, rfl, e1, e2⟩ := ih
    rcases h1 with h1 | ⟨h1, h4⟩
    ·exact ⟨s :: u, v, rfl, .cons h1 h2 e1, e2⟩
    ·exact ⟨[], s :: (u ++ v), rfl, .nil h1, .stc (u := s :: u) (iha (.inr ⟨q, s, u, rfl, h4, h2, e1⟩)) e2⟩
  rcases h with ⟨rfl, h⟩ | ⟨p, s, v, rfl, hp, hs, hr⟩
  ·exact .stn
  ·obtain ⟨u, v, rfl, e1, e2⟩ := key hr
   exact .stc (u := s :: u) (iha (.inr ⟨p, s, u, rfl, hp, hs, e1⟩)) e2
structure Adds (e : Re) (t : Tr) (r : Tr × En) : Prop where
 emp : r.2.emp = nulE e
 fst : ∀ p, r.2.first.testBit p = true ↔ fiE e t.names.length p
 lst : ∀ p, r.2.last.testBit p = true ↔ laE e t.names.length p
 fol : ∀ p, p < r.1.names.length → ∀ q, (gd r.1.fol p).testBit q = true ↔ (p < t.names.length ∧ (gd t.fol p).testBit q = true) ∨ foE e t.names.length p q
theorem conn_bit {t : Tr} (h : TrOk t) (a b : Nat) {p : Nat} (hp : p < t.names.length) (q : Nat) : (gd (conn t a b).fol p).testBit q = true ↔ (gd t.fol p).testBit q = true ∨ (a.testBit p = true ∧ b.testBit q = true) := by
 have hl : p < t.fol.length := by rw [h.len]; exact hp
 have hf := h.few
 rw [Bj (show p < (conn t a b).fol.length by rw [show (conn t a b).fol.length = t.fol.length from connK_len ..]; exact hl), Bj hl]
 simp only [conn, connK, List.getElem_mapIdx]
 by_cases h1 : a.testBit p = true
 ·rw [if_pos ⟨by omega, h1⟩, Nat.testBit_or, Bool.or_eq_true]; simp [h1]
 ·rw [if_neg (fun h => h1 h.2)]; simp [h1]
theorem adds : ∀ (e : Re) {t : Tr}, TrOk t → t.names.length + e.lv ≤ 64 → Adds e t (addF e t)
 | .emp, t, h, hl => ⟨rfl, fun p => by simp [addF, fiE], fun p => by simp [addF, laE], fun p hp q => by simp only [addF] at *; simp [foE, hp]⟩
 | .nod s, t, h, hl => by
  refine ⟨rfl, fun p => by simp [addF, fiE, Nat.testBit_two_pow, eq_comm], fun p => by simp [addF, laE, Nat.testBit_two_pow, eq_comm], fun p hp q => ?_⟩
  simp only [addF, List.length_append, List.length_cons, List.length_nil] at *
  simp only [foE, or_false]
  by_cases e : p = t.names.length
  ·subst e
   rw [show gd (t.fol ++ [0]) t.names.length = 0 by rw [← h.len]; exact Cq]
   simp
  ·rw [Cd (by rw [h.len]; omega)]
   simp; intro _; omega
 | .any, t, h, hl => by
  refine ⟨rfl, fun p => by simp [addF, fiE, Nat.testBit_two_pow, eq_comm], fun p => by simp [addF, laE, Nat.testBit_two_pow, eq_comm], fun p hp q => ?_⟩
  simp only [addF, List.length_append, List.length_cons, List.length_nil] at *
  simp only [foE, or_false]
  by_cases e : p = t.names.length
  ·subst e
   rw [show gd (t.fol ++ [0]) t.names.length = 0 by rw [← h.len]; exact Cq]
   simp
  ·rw [Cd (by rw [h.len]; omega)]
   simp; intro _; omega
 | .alt a b, t, h, hl => by
  simp only [Re.lv] at hl
  obtain ⟨h1, h2, h3, h4⟩ := Cx a h (by omega)
  obtain ⟨k1, k2, k3, k4⟩ := Cx b h1 (by omega)
  have ia := adds a h (by omega)
  have ib := adds b h1 (by omega)
  simp only [addF]
  refine ⟨by simp [nulE, ia.emp, ib.emp], fun p => ?_, fun p => ?_, fun p hp q => ?_⟩
  ·simp only [Nat.testBit_or, Bool.or_eq_true, fiE, ia.fst, ib.fst, h2]
  ·simp only [Nat.testBit_or, Bool.or_eq_true, laE, ia.lst, ib.lst, h2]
  ·simp only [] at hp ⊢
   rw [ib.fol p hp q, h2]
   simp only [foE]
   constructor
   ·rintro (⟨e1, e2⟩ | e)
    ·exact ((ia.fol p (by omega) q).1 e2).imp id .inl
    ·exact .inr (.inr e)
   ·rintro (e | e | e)
    ·exact .inl ⟨by omega, (ia.fol p (by omega) q).2 (.inl e)⟩
    ·have := Dh e
     exact .inl ⟨by omega, (ia.fol p (by omega) q).2 (.inr e)⟩
    ·exact .inr e
 | .seq a b, t, h, hl => by
  simp only [Re.lv] at hl
  obtain ⟨h1, h2, h3, h4⟩ := Cx a h (by omega)
  obtain ⟨k1, k2, k3, k4⟩ := Cx b h1 (by omega)
  have ia := adds a h (by omega)
  have ib := adds b h1 (by omega)
  simp only [addF]
  refine ⟨by simp [nulE, ia.emp, ib.emp], fun p => ?_, fun p => ?_, fun p hp q => ?_⟩
  ·simp only [ia.emp]
   cases hn : nulE a <;> simp [Nat.testBit_or, fiE, ia.fst, ib.fst, h2, hn]
  ·simp only [ib.emp]
   cases hn : nulE b <;> simp [Nat.testBit_or, laE, ia.lst, ib.lst, h2, hn]
  ·simp only [] at hp ⊢
   rw [show (conn (addF b (addF a t).1).1 (addF a t).2.last (addF b (addF a t).1).2.first).names = (addF b (addF a t).1).1.names from rfl] at hp
   rw [conn_bit k1 _ _ hp, ib.fol p hp q, ia.lst, ib.fst, h2]
   simp only [foE]
   constructor
   ·rintro ((⟨e1, e2⟩ | e) | e)
    ·exact ((ia.fol p (by omega) q).1 e2).imp id .inl
    ·exact .inr (.inr (.inl e))
    ·exact .inr (.inr (.inr e))
   ·rintro (e | e | e | e)
    ·exact .inl (.inl ⟨by omega, (ia.fol p (by omega) q).2 (.inl e)⟩)
    ·have := Dh e
     exact .inl (.inl ⟨by omega, (ia.fol p (by omega) q).2 (.inr e)⟩)
    ·exact .inl (.inr e)
    ·exact .inr e
 | .star a, t, h, hl => by
  simp only [Re.lv] at hl
  obtain ⟨h1, h2, h3, h4⟩ := Cx a h (by omega)
  have ia := adds a h (by omega)
  simp only [addF]
  refine ⟨rfl, ia.fst, ia.lst, fun p hp q => ?_⟩
  simp only [] at hp ⊢
  rw [show (conn (addF a t).1 (addF a t).2.last (addF a t).2.first).names = (addF a t).1.names from rfl] at hp
  rw [conn_bit h1 _ _ hp, ia.fol p hp q, ia.lst, ia.fst]
  simp only [foE]
  rw [or_assoc]
def Re.good : Re → Prop
 | .emp => True
 | .nod s => s ≠ ⟨#[]⟩
 | .any => True
 | .seq a b => a.good ∧ b.good
 | .alt a b => a.good ∧ b.good
 | .star a => a.good
theorem Is.good {m : Rxm} {e : Re} (h : Is m e) : e.good := by
 induction h with
 | emp => trivial
 | nod h => exact fun e => h (by rw [e]; rfl)
 | any => trivial
 | seq _ _ h1 h2 => exact ⟨h1, h2⟩
 | alt _ _ h1 h2 => exact ⟨h1, h2⟩
 | star _ h => exact h
theorem lvs_len : ∀ e : Re, e.lvs.length = e.lv
 | .emp => rfl
 | .nod _ => rfl
 | .any => rfl
 | .seq a b => by simp [Re.lvs, Re.lv, lvs_len a, lvs_len b]
 | .alt a b => by simp [Re.lvs, Re.lv, lvs_len a, lvs_len b]
 | .star a => lvs_len a
theorem mts_of {t : Tr} : ∀ {e : Re} {n : Nat} {u v : List ByteArray}, e.good → t.names = u ++ e.lvs ++ v → u.length = n → Mts (fun p s => mtch t s p = true) e n
 | .emp, _, _, _, _, _, _ => trivial
 | .nod x, n, u, v, hg, ht, hn => fun s => by
  have : gd t.names n = x := by rw [ht, ← hn]; simp [gd, Re.lvs]
  simp only []
  rw [mtch_eq, this]
  have hx : ¬ x = ⟨#[]⟩ := hg
  simp [hx, eq_comm]
 | .any, n, u, v, hg, ht, hn => fun s => by
  have : gd t.names n = ⟨#[]⟩ := by rw [ht, ← hn]; simp [gd, Re.lvs]
  simp only []
  rw [mtch_eq, this]; simp
 | .seq a b, n, u, v, hg, ht, hn => ⟨mts_of (v := b.lvs ++ v) hg.1 (by rw [ht]; simp [Re.lvs]) hn, mts_of (u := u ++ a.lvs) (v := v) hg.2 (by rw [ht]; simp [Re.lvs]) (by simp [hn, lvs_len])⟩
 | .alt a b, n, u, v, hg, ht, hn => ⟨mts_of (v := b.lvs ++ v) hg.1 (by rw [ht]; simp [Re.lvs]) hn, mts_of (u := u ++ a.lvs) (v := v) hg.2 (by rw [ht]; simp [Re.lvs]) (by simp [hn, lvs_len])⟩
 | .star a, n, u, v, hg, ht, hn => mts_of (e := a) hg ht hn
theorem orK_bit (fol : List Nat) (x q : Nat) : ∀ i, (orK fol x i).testBit q = true ↔ ∃ p, p < i ∧ x.testBit p = true ∧ (gd fol p).testBit q = true
 | 0 => by simp [orK]
 | i + 1 => by
  rw [orK_succ]
  split
  ·rename_i h
   rw [Nat.testBit_or, Bool.or_eq_true, orK_bit fol x q i]
   constructor
   ·rintro (⟨p, h1, h2, h3⟩ | h3)
    ·exact ⟨p, by omega, h2, h3⟩
    ·exact ⟨i, by omega, h, h3⟩
   ·rintro ⟨p, h1, h2, h3⟩
    by_cases e : p = i
    ·subst e; exact .inr h3
    ·exact .inl ⟨p, by omega, h2, h3⟩
  ·rename_i h
   rw [orK_bit fol x q i]
   constructor
   ·rintro ⟨p, h1, h2, h3⟩; exact ⟨p, by omega, h2, h3⟩
   ·rintro ⟨p, h1, h2, h3⟩
    by_cases e : p = i
    ·subst e; exact absurd h2 h
    ·exact ⟨p, by omega, h2, h3⟩
theorem and_bit (a b : Nat) : ¬ a &&& b = 0 ↔ ∃ p, a.testBit p = true ∧ b.testBit p = true := by
 constructor
 ·intro h
  refine Classical.byContradiction fun hn => h (Nat.eq_of_testBit_eq fun p => ?_)
  rw [Nat.testBit_and, Nat.zero_testBit]
  cases h1 : a.testBit p with
  | false => rfl
  | true =>
   cases h2 : b.testBit p with
   | false => rfl
   | true => exact absurd ⟨p, h1, h2⟩ hn
 ·rintro ⟨p, h1, h2⟩ h
  have := congrArg (fun x => x.testBit p) h
  simp [Nat.testBit_and, h1, h2] at this
theorem runF_cons (t : Tr) (st : Nat × Nat) (s : ByteArray) (l : List ByteArray) : runF t st (s :: l) = runF t (stepK t s st.2 256) l := by unfold runF; rw [List.foldl_cons]
theorem run_rw {t : Tr} (ht : TrOk t) (hw : Low t) {La : Nat} : ∀ (w : List ByteArray) (s : ByteArray) (x C : Nat), C < 2 ^ t.names.length → ((¬ (runF t (x, C) (s :: w)).1 &&& La = 0) ↔ ∃ p, C.testBit p = true ∧ mtch t s p = true ∧ Rw (fun p q => p < t.names.length ∧ (gd t.fol p).testBit q = true) (fun p => p < t.names.length ∧ La.testBit p = true) (fun p s => mtch t s p = true) p w)
 | [], s, x, C, hC => by
  rw [runF_cons, show runF t (stepK t s (x, C).2 256) [] = stepK t s C 256 from rfl, and_bit]
  constructor
  ·rintro ⟨p, h1, h2⟩
   rw [stepK_fst] at h1
   simp only [Bool.and_eq_true, decide_eq_true_eq] at h1
   exact ⟨p, h1.2.1, h1.2.2, .nil ⟨bit_lt hC h1.2.1, h2⟩⟩
  ·rintro ⟨p, h1, h2, h3⟩
   cases h3 with
   | nil h3 =>
    refine ⟨p, ?_, h3.2⟩
    rw [stepK_fst]
    have := ht.few
    simp [h1, h2]; omega
 | y :: w, s, x, C, hC => by
  have hlt := stepK_lt ht hw (s := s) hC 256
  rw [runF_cons]
  simp only []
  generalize hq : stepK t s C 256 = q at *
  obtain ⟨q1, q2⟩ := q
  rw [run_rw ht hw w y _ _ hlt.2]
  have hq2 : q2 = (stepK t s C 256).2 := by rw [hq]
  have hf := ht.few
  constructor
  ·rintro ⟨q, h1, h2, h3⟩
   rw [hq2, stepK_snd', orK_bit] at h1
   obtain ⟨p, hp, h4, h5⟩ := h1
   rw [stepK_fst] at h4
   simp only [Bool.and_eq_true, decide_eq_true_eq] at h4
   exact ⟨p, h4.2.1, h4.2.2, .cons ⟨bit_lt hC h4.2.1, h5⟩ h2 h3⟩
  ·rintro ⟨p, h1, h2, h3⟩
   cases h3 with
   | @cons _ q _ _ h4 h5 h6 =>
    refine ⟨q, ?_, h5, h6⟩
    rw [hq2, stepK_snd', orK_bit]
    refine ⟨p, by omega, ?_, h4.2⟩
    rw [stepK_fst]
    simp [h1, h2]; omega
theorem match_lang {e : Re} (hl : e.lv ≤ 64) (hg : e.good) (w : List ByteArray) : matchF e w = true ↔ Lang e w := by
 have h64 : t00.names.length + e.lv ≤ 64 := by simpa [t00] using hl
 obtain ⟨hok, hlen, hf1, hf2⟩ := Cx e Dm h64
 have hlow := add_low e Dm h64 t00_low
 have ha := adds e Dm h64
 have hm : Mts (fun p s => mtch (addF e t00).1 s p = true) e 0 := mts_of (u := []) (v := []) hg (by rw [add_names]; simp [t00]) rfl
 have hthr : matchF e w = true ↔ Thr (fun p s => mtch (addF e t00).1 s p = true) e 0 w := by
  unfold matchF Thr
  cases w with
  | nil => simp [ha.emp]
  | cons s w =>
   rw [if_neg (by simp), decide_eq_true_iff, run_rw hok hlow w s 0 _ (by rw [hlen]; exact hf1)]
   have hF : ∀ p q, (p < (addF e t00).1.names.length ∧ (gd (addF e t00).1.fol p).testBit q = true) ↔ foE e 0 p q := fun p q => by
    constructor
    ·rintro ⟨h1, h2⟩
     rcases (ha.fol p h1 q).1 h2 with h | h
     ·exact absurd h.1 (Nat.not_lt_zero _)
     ·exact h
    ·intro h
     have h1 : p < (addF e t00).1.names.length := by rw [hlen]; exact (Dh h).1.2
     exact ⟨h1, (ha.fol p h1 q).2 (.inr h)⟩
   have hL : ∀ p, (p < (addF e t00).1.names.length ∧ (addF e t00).2.last.testBit p = true) ↔ laE e 0 p := fun p => by
    rw [ha.lst]
    exact ⟨fun h => h.2, fun h => ⟨by rw [hlen]; exact (Dr h).2, h⟩⟩
   constructor
   ·rintro ⟨p, h1, h2, h3⟩
    exact .inr ⟨p, s, w, rfl, (ha.fst p).1 h1, h2, h3.mono (fun p q h => (hF p q).1 h) fun p h => (hL p).1 h⟩
   ·rintro (⟨h, _⟩ | ⟨p, s', w', h0, h1, h2, h3⟩)
    ·cases h
    ·cases h0
     exact ⟨p, (ha.fst p).2 h1, h2, h3.mono (fun p q h => (hF p q).2 h) fun p h => (hL p).2 h⟩
 rw [hthr]
 exact ⟨lang_of hm, fun h => thr_of h hm⟩
end Go.Proofs.YtkdolgnpkjihpaaGreatDoor
namespace Go.Proofs.YtkdolgnpkjihpaaGreatDoor
open _root_.Go.Proofs.Tryz
open Go.RowKit
set_option linter.unusedVariables false
set_option linter.unusedSimpArgs false
structure Inc (lo hi : Nat) (l : List Nat) : Prop where
 pw : l.Pairwise (· < ·)
 rg : ∀ x ∈ l, lo ≤ x ∧ x ≤ hi
theorem Inc.nd {lo hi : Nat} {l : List Nat} (h : Inc lo hi l) : l.Nodup := h.pw.imp fun {a b} hab e => by omega
theorem Inc.len {lo hi : Nat} {l : List Nat} (h : Inc lo hi l) : l.length ≤ hi + 1 := by
 have := nodup_le h.nd (l' := List.range (hi + 1)) fun x hx => List.mem_range.2 (by have := (h.rg x hx).2; omega)
 simpa using this
theorem Inc.mono {lo lo' hi : Nat} {l : List Nat} (h : Inc lo hi l) (hl : lo' ≤ lo) : Inc lo' hi l := ⟨h.pw, fun x hx => by have := h.rg x hx; omega⟩
def sub (l : List ByteArray) (p q : Nat) : List ByteArray := (l.drop p).take (q - p)
theorem sub_self (l : List ByteArray) (p : Nat) : sub l p p = [] := by simp [sub]
end Go.Proofs.YtkdolgnpkjihpaaGreatDoor
namespace Go.Proofs.YtkdolgnpkjihpaaGreatDoor
open _root_.Go.Proofs.Tryz
open Go.RowKit
set_option linter.unusedVariables false
set_option linter.unusedSimpArgs false
end Go.Proofs.YtkdolgnpkjihpaaGreatDoor
namespace Go.Proofs.YtkdolgnpkjihpaaGreatDoor
open _root_.Go.Proofs.Tryz
open Go.RowKit
set_option linter.unusedVariables false
set_option linter.unusedSimpArgs false
end Go.Proofs.YtkdolgnpkjihpaaGreatDoor
namespace Go.Proofs.YtkdolgnpkjihpaaGreatDoor
open _root_.Go.Proofs.Tryz
open Go.RowKit
set_option linter.unusedVariables false
set_option linter.unusedSimpArgs false
theorem list_eq {α : Type} [Inhabited α] {a b : List α} (hl : a.length = b.length) (h : ∀ j, j < a.length → gd a j = gd b j) : a = b :=
 List.ext_getElem hl fun j h1 h2 => by rw [← Bj h1, ← Bj h2]; exact h j h1
end Go.Proofs.YtkdolgnpkjihpaaGreatDoor
namespace Go.Proofs.YtkdolgnpkjihpaaGreatDoor
open _root_.Go.Proofs.Tryz
open Go.RowKit
set_option linter.unusedVariables false
set_option linter.unusedSimpArgs false
def lx : List Nat → List Nat → Prop
 | x :: a, y :: b => x < y ∨ (x = y ∧ lx a b)
 | _, _ => False
theorem lx_trans : ∀ {a b c : List Nat}, lx a b → lx b c → lx a c
 | [], _, _, h, _ => by cases h
 | _ :: _, [], _, h, _ => by cases h
 | _ :: _, _ :: _, [], _, h => by cases h
 | x :: a, y :: b, z :: c, h1, h2 => by
  simp only [lx] at h1 h2 ⊢
  rcases h1 with h1 | ⟨h1, h3⟩ <;> rcases h2 with h2 | ⟨h2, h4⟩
  ·left; omega
  ·left; omega
  ·left; omega
  ·right; exact ⟨by omega, lx_trans h3 h4⟩
theorem lx_app : ∀ {a b : List Nat} (c d : List Nat), lx a b → lx (a ++ c) (b ++ d)
 | [], _, _, _, h => by cases h
 | _ :: _, [], _, _, h => by cases h
 | x :: a, y :: b, c, d, h => by
  simp only [lx, List.cons_append] at h ⊢
  exact h.imp id fun h => ⟨h.1, lx_app c d h.2⟩
theorem lx_last : ∀ (a : List Nat) {x y : Nat}, x < y → lx (a ++ [x]) (a ++ [y])
 | [], x, y, h => .inl h
 | z :: a, x, y, h => .inr ⟨rfl, lx_last a h⟩
def ltL (a b : List Nat) : Prop := a.length < b.length ∨ (a.length = b.length ∧ lx a b)
def leL (a b : List Nat) : Prop := ltL a b ∨ a = b
theorem ltL_trans {a b c : List Nat} (h1 : ltL a b) (h2 : ltL b c) : ltL a c := by
 unfold ltL at *
 rcases h1 with h1 | ⟨h1, h3⟩ <;> rcases h2 with h2 | ⟨h2, h4⟩
 ·left; omega
 ·left; omega
 ·left; omega
 ·right; exact ⟨by omega, lx_trans h3 h4⟩
theorem leL_trans {a b c : List Nat} (h1 : leL a b) (h2 : leL b c) : leL a c := by
 rcases h1 with h1 | rfl
 ·rcases h2 with h2 | rfl
  ·exact .inl (ltL_trans h1 h2)
  ·exact .inl h1
 ·exact h2
theorem leL_len {a b : List Nat} (h : leL a b) : a.length ≤ b.length := by
 rcases h with (h | ⟨h, _⟩) | rfl
 ·omega
 ·omega
 ·exact Nat.le_refl _
theorem ltL_snoc {a b : List Nat} (x y : Nat) (h : ltL a b) : ltL (a ++ [x]) (b ++ [y]) := by
 unfold ltL at *
 simp only [List.length_append, List.length_cons, List.length_nil]
 rcases h with h | ⟨h, h2⟩
 ·left; omega
 ·right; exact ⟨by omega, lx_app _ _ h2⟩
theorem leL_snoc {a b : List Nat} {x y : Nat} (h : leL a b) (hx : x ≤ y) : leL (a ++ [x]) (b ++ [y]) := by
 rcases h with h | rfl
 ·exact .inl (ltL_snoc x y h)
 ·rcases Nat.lt_or_ge x y with h1 | h1
  ·exact .inl (.inr ⟨by simp, lx_last a h1⟩)
  ·rw [show x = y by omega]; exact .inr U
section
variable {σ : Type} [Inhabited σ]
def pth (w : List (Int × σ)) (i : Nat) : List σ := (backF w (i + 1) i).reverse
theorem pth_zero {w : List (Int × σ)} (h : (gd w 0).1 = -1) : pth w 0 = [] := by
 unfold pth; rw [backF_succ, if_neg (by omega)]; rfl
theorem pth_snoc {w : List (Int × σ)} (hw : ∀ i, i < w.length → -1 ≤ (gd w i).1 ∧ (gd w i).1 < i) {i : Nat} (hi : i < w.length) (h0 : 0 ≤ (gd w i).1) : pth w i = pth w (gd w i).1.toNat ++ [(gd w i).2] := by
 have h1 := (hw i hi).2
 unfold pth
 rw [backF_succ, if_pos h0, List.reverse_cons]
 rw [backF_fuel hw i (gd w i).1.toNat (by omega) (by omega)]
theorem backF_app {w : List (Int × σ)} (hw : ∀ i, i < w.length → -1 ≤ (gd w i).1 ∧ (gd w i).1 < i) (x : List (Int × σ)) : ∀ (f i : Nat), i < w.length → backF (w ++ x) f i = backF w f i
 | 0, _, _ => rfl
 | f + 1, i, hi => by
  rw [backF_succ, backF_succ, Cd hi]
  split
  ·rename_i h0
   have h1 := (hw i hi).2
   rw [backF_app hw x f _ (by omega)]
  ·rfl
theorem pth_app {w : List (Int × σ)} (hw : ∀ i, i < w.length → -1 ≤ (gd w i).1 ∧ (gd w i).1 < i) (x : List (Int × σ)) {i : Nat} (hi : i < w.length) : pth (w ++ x) i = pth w i := by
 unfold pth; rw [backF_app hw x _ _ hi]
inductive Chn (ts : Pl → List (Pl × σ)) (p : Pl) : List σ → Pl → Prop
 | nil : Chn ts p [] p
 | snoc {ls : List σ} {q r : Pl} {s : σ} : Chn ts p ls q → (r, s) ∈ ts q → Chn ts p (ls ++ [s]) r
structure BI (ts : Pl → List (Pl × σ)) (rk : σ → Nat) (p0 : Pl) (k : Nat) (d : List (Pl × σ)) (st : BS σ) : Prop where
 nd : st.l.Nodup
 len : st.w.length = st.l.length
 fst : gd st.l 0 = p0 ∧ (gd st.w 0).1 = -1 ∧ 0 < st.l.length
 kl : k ≤ st.l.length
 edge : ∀ i, 0 < i → i < st.l.length → 0 ≤ (gd st.w i).1 ∧ (gd st.w i).1 < i ∧ (gd st.l i, (gd st.w i).2) ∈ ts (gd st.l (gd st.w i).1.toNat) ∧ ((gd st.w i).1 < k ∨ ((gd st.w i).1 = k ∧ (gd st.l i, (gd st.w i).2) ∈ d))
 mono : ∀ i j, 0 < i → i < j → j < st.l.length → (gd st.w i).1 < (gd st.w j).1 ∨ ((gd st.w i).1 = (gd st.w j).1 ∧ rk (gd st.w i).2 < rk (gd st.w j).2)
 done : ∀ j, j < k → ∀ x ∈ ts (gd st.l j), ∃ i, i < st.l.length ∧ gd st.l i = x.1 ∧ (i = 0 ∨ (gd st.w i).1 < j ∨ ((gd st.w i).1 = j ∧ rk (gd st.w i).2 ≤ rk x.2))
 part : ∀ x ∈ d, ∃ i, i < st.l.length ∧ gd st.l i = x.1 ∧ (i = 0 ∨ (gd st.w i).1 < k ∨ ((gd st.w i).1 = k ∧ rk (gd st.w i).2 ≤ rk x.2))
variable {ts : Pl → List (Pl × σ)} {rk : σ → Nat} {p0 : Pl}
theorem BI.start : BI ts rk p0 0 [] ⟨[p0], [(-1, default)]⟩ where
 nd := by simp
 len := rfl
 fst := ⟨rfl, rfl, by simp⟩
 kl := Nat.zero_le _
 edge i h1 h2 := by simp at h2; omega
 mono i j h1 h2 h3 := by simp at h3; omega
 done j hj := by omega
 part x hx := by cases hx
theorem BI.back {k : Nat} {d : List (Pl × σ)} {st : BS σ} (h : BI ts rk p0 k d st) : ∀ i, i < st.w.length → -1 ≤ (gd st.w i).1 ∧ (gd st.w i).1 < i := fun i hi => by
 rw [h.len] at hi
 rcases Nat.eq_zero_or_pos i with rfl | h0
 ·rw [h.fst.2.1]; omega
 ·have := h.edge i h0 hi; omega
theorem memPl {l : List Pl} {p : Pl} (h : p ∈ l) : ∃ i, i < l.length ∧ gd l i = p := by
 obtain ⟨i, hi, e⟩ := List.getElem_of_mem h
 exact ⟨i, hi, by rw [Bj hi]; exact e⟩
theorem BI.vis {k : Nat} {d rest : List (Pl × σ)} {x : Pl × σ} {st : BS σ} (h : BI ts rk p0 k d st) (hk : k < st.l.length) (ht : ts (gd st.l k) = d ++ x :: rest) (hr : (ts (gd st.l k)).Pairwise fun a b => rk a.2 < rk b.2) : BI ts rk p0 k (d ++ [x]) (visF k st x) := by
 have hlt : ∀ y ∈ d, rk y.2 < rk x.2 := fun y hy => by
  rw [ht] at hr
  exact (List.pairwise_append.1 hr).2.2 y hy x (by simp)
 have hxm : x ∈ ts (gd st.l k) := by rw [ht]; simp
 unfold visF
 by_cases hx : x.1 ∈ st.l
 ·rw [if_pos hx]
  refine ⟨h.nd, h.len, h.fst, h.kl, fun i h1 h2 => ?_, h.mono, h.done, fun y hy => ?_⟩
  ·obtain ⟨a, b, c, e⟩ := h.edge i h1 h2
   exact ⟨a, b, c, e.imp id fun e => ⟨e.1, List.mem_append_left _ e.2⟩⟩
  ·rcases List.mem_append.1 hy with hy | hy
   ·exact h.part y hy
   ·simp only [List.mem_cons, List.not_mem_nil, or_false] at hy
    subst hy
    obtain ⟨i, hi, e⟩ := memPl hx
    refine ⟨i, hi, e, ?_⟩
    rcases Nat.eq_zero_or_pos i with h0 | h0
    ·exact .inl h0
    ·obtain ⟨_, _, _, e2⟩ := h.edge i h0 hi
     rcases e2 with e2 | e2
     ·exact .inr (.inl e2)
     ·exact .inr (.inr ⟨e2.1, Nat.le_of_lt (hlt _ e2.2)⟩)
 ·rw [if_neg hx]
  have hln := h.len
  have g1 : ∀ i, i < st.l.length → gd (st.l ++ [x.1]) i = gd st.l i := fun i hi => Cd hi
  have g2 : ∀ i, i < st.l.length → gd (st.w ++ [((k : Int), x.2)]) i = gd st.w i := fun i hi => Cd (by omega)
  have g3 : gd (st.l ++ [x.1]) st.l.length = x.1 := Cq
  have g4 : gd (st.w ++ [((k : Int), x.2)]) st.l.length = ((k : Int), x.2) := by rw [← hln]; exact Cq
  have hp0 := h.fst.2.2
  refine ⟨?_, by simp [hln], ⟨by simp only []; rw [g1 0 hp0]; exact h.fst.1, by simp only []; rw [g2 0 hp0]; exact h.fst.2.1, by simp⟩, by simp; have := h.kl; omega, fun i h1 h2 => ?_, fun i j h1 h2 h3 => ?_, fun j hj y hy => ?_, fun y hy => ?_⟩
  ·exact List.nodup_append.2 ⟨h.nd, by simp, fun a ha b hb => by simp at hb; subst hb; rintro rfl; exact hx ha⟩
  ·simp only [] at h2 ⊢
   simp only [List.length_append, List.length_cons, List.length_nil] at h2
   by_cases e : i = st.l.length
   ·subst e
    rw [g3, g4]
    simp only [Int.toNat_natCast]
    rw [g1 k hk]
    exact ⟨by omega, by omega, hxm, .inr ⟨by simp, by simp⟩⟩
   ·have hi : i < st.l.length := by omega
    obtain ⟨a, b, c, e⟩ := h.edge i h1 hi
    rw [g1 i hi, g2 i hi, g1 _ (by omega)]
    exact ⟨a, b, c, e.imp id fun e => ⟨e.1, List.mem_append_left _ e.2⟩⟩
  ·simp only [] at h3 ⊢
   simp only [List.length_append, List.length_cons, List.length_nil] at h3
   have hi : i < st.l.length := by omega
   rw [g2 i hi]
   by_cases e : j = st.l.length
   ·subst e
    rw [g4]
    obtain ⟨a, b, c, e⟩ := h.edge i h1 hi
    exact e.imp id fun e => ⟨e.1, hlt _ e.2⟩
   ·rw [g2 j (by omega)]
    exact h.mono i j h1 h2 (by omega)
  ·simp only [] at hy ⊢
   rw [g1 j (by omega)] at hy
   obtain ⟨i, hi, e1, e2⟩ := h.done j hj y hy
   exact ⟨i, by simp; omega, by rw [g1 i hi]; exact e1, by rw [g2 i hi]; exact e2⟩
  ·simp only []
   rcases List.mem_append.1 hy with hy | hy
   ·obtain ⟨i, hi, e1, e2⟩ := h.part y hy
    exact ⟨i, by simp; omega, by rw [g1 i hi]; exact e1, by rw [g2 i hi]; exact e2⟩
   ·simp only [List.mem_cons, List.not_mem_nil, or_false] at hy
    subst hy
    exact ⟨st.l.length, by simp, g3, by rw [g4]; exact .inr (.inr ⟨rfl, Nat.le_refl _⟩)⟩
theorem BI.all' {k : Nat} : ∀ (rest d : List (Pl × σ)) {st : BS σ}, BI ts rk p0 k d st → k < st.l.length → ts (gd st.l k) = d ++ rest → ((ts (gd st.l k)).Pairwise fun a b => rk a.2 < rk b.2) → BI ts rk p0 k (d ++ rest) (visAll k st rest)
 | [], d, st, h, _, _, _ => by rw [List.append_nil]; exact h
 | x :: rest, d, st, h, hk, ht, hr => by
  have h1 := h.vis hk ht hr
  have hg : gd (visF k st x).l k = gd st.l k := visF_get hk
  have h2 := BI.all' rest (d ++ [x]) h1 (by
   unfold visF; split
   ·exact hk
   ·simp; omega) (by rw [hg, ht]; simp) (by rw [hg]; exact hr)
  rw [List.append_assoc] at h2
  exact h2
theorem BI.next {k : Nat} {st : BS σ} (h : BI ts rk p0 k [] st) (hk : k < st.l.length) (hr : (ts (gd st.l k)).Pairwise fun a b => rk a.2 < rk b.2) : BI ts rk p0 (k + 1) [] (visAll k st (ts (gd st.l k))) := by
 have h1 := h.all' (ts (gd st.l k)) [] hk U hr
 obtain ⟨hg, hl⟩ := visAll_get (k := k) (ts (gd st.l k)) (st := st) hk
 rw [List.nil_append] at h1
 refine ⟨h1.nd, h1.len, h1.fst, by omega, fun i a b => ?_, h1.mono, fun j hj x hx => ?_, fun x hx => by cases hx⟩
 ·obtain ⟨e1, e2, e3, e4⟩ := h1.edge i a b
  exact ⟨e1, e2, e3, .inl (by omega)⟩
 ·by_cases e : j = k
  ·subst e
   rw [hg] at hx
   exact h1.part x hx
  ·exact h1.done j (by omega) x hx
theorem BI.chain {k : Nat} {d : List (Pl × σ)} {st : BS σ} (h : BI ts rk p0 k d st) : ∀ (n i : Nat), i ≤ n → i < st.l.length → Chn ts p0 (pth st.w i) (gd st.l i)
 | 0, i, hn, hi => by
  rw [show i = 0 by omega, pth_zero h.fst.2.1, h.fst.1]; exact .nil
 | n + 1, i, hn, hi => by
  rcases Nat.eq_zero_or_pos i with rfl | h0
  ·rw [pth_zero h.fst.2.1, h.fst.1]; exact .nil
  ·obtain ⟨a, b, c, e⟩ := h.edge i h0 hi
   rw [pth_snoc h.back (by rw [h.len]; exact hi) a]
   exact .snoc (h.chain n (gd st.w i).1.toNat (by omega) (by omega)) c
theorem BI.lt {k : Nat} {d : List (Pl × σ)} {st : BS σ} (h : BI ts rk p0 k d st) : ∀ (n i j : Nat), j ≤ n → i < j → j < st.l.length → ltL ((pth st.w i).map rk) ((pth st.w j).map rk)
 | 0, i, j, hn, hij, _ => by omega
 | n + 1, i, j, hn, hij, hj => by
  obtain ⟨a, b, c, e⟩ := h.edge j (by omega) hj
  rw [pth_snoc h.back (by rw [h.len]; exact hj) a]
  rcases Nat.eq_zero_or_pos i with rfl | h0
  ·rw [pth_zero h.fst.2.1]; left; simp
  ·obtain ⟨a2, b2, c2, e2⟩ := h.edge i h0 (by omega)
   rw [pth_snoc h.back (by rw [h.len]; omega) a2]
   simp only [List.map_append, List.map_cons, List.map_nil]
   rcases h.mono i j h0 hij hj with hm | ⟨hm, hm2⟩
   ·exact ltL_snoc _ _ (h.lt n (gd st.w i).1.toNat (gd st.w j).1.toNat (by omega) (by omega) (by omega))
   ·rw [hm]; exact .inr ⟨by simp, lx_last _ hm2⟩
theorem BI.le {k : Nat} {d : List (Pl × σ)} {st : BS σ} (h : BI ts rk p0 k d st) {i j : Nat} (hij : i ≤ j) (hj : j < st.l.length) : leL ((pth st.w i).map rk) ((pth st.w j).map rk) := by
 rcases Nat.lt_or_ge i j with h1 | h1
 ·exact .inl (h.lt j i j (Nat.le_refl _) h1 hj)
 ·rw [show i = j by omega]; exact .inr U
theorem BI.ways {k : Nat} {st : BS σ} (h : BI ts rk p0 k [] st) {ls : List σ} {q : Pl} (hc : Chn ts p0 ls q) : (∃ i, i < st.l.length ∧ gd st.l i = q ∧ leL ((pth st.w i).map rk) (ls.map rk)) ∨ (∃ i, k ≤ i ∧ i < st.l.length ∧ ∃ p : List Nat, p.length < ls.length ∧ leL ((pth st.w i).map rk) p) := by
 induction hc with
 | nil => exact .inl ⟨0, h.fst.2.2, h.fst.1, by rw [pth_zero h.fst.2.1]; exact .inr rfl⟩
 | @snoc ls q r s hc hs ih =>
  rcases ih with ⟨j, hj, e, hle⟩ | ⟨i, h1, h2, p, h3, h4⟩
  ·rcases Nat.lt_or_ge j k with hk | hk
   ·obtain ⟨i, hi, e1, e2⟩ := h.done j hk (r, s) (by rw [e]; exact hs)
    refine .inl ⟨i, hi, e1, ?_⟩
    rcases Nat.eq_zero_or_pos i with rfl | h0
    ·rw [pth_zero h.fst.2.1]; exact .inl (.inl (by simp))
    ·obtain ⟨a, b, c, _⟩ := h.edge i h0 hi
     rw [pth_snoc h.back (by rw [h.len]; exact hi) a]
     simp only [List.map_append, List.map_cons, List.map_nil]
     rcases e2 with e2 | e2 | ⟨e2, e3⟩
     ·omega
     ·have h5 := h.lt j (gd st.w i).1.toNat j (Nat.le_refl _) (by omega) hj
      rcases hle with hle | hle
      ·exact .inl (ltL_snoc _ _ (ltL_trans h5 hle))
      ·rw [← hle]; exact .inl (ltL_snoc _ _ h5)
     ·rw [e2]; exact leL_snoc hle e3
   ·exact .inr ⟨j, hk, hj, ls.map rk, by simp, hle⟩
  ·exact .inr ⟨i, h1, h2, p, by simp; omega, h4⟩
structure GoOk (ts : Pl → List (Pl × σ)) (rk : σ → Nat) (fnd : Pl → Bool) (p0 : Pl) (r : Option Nat × BS σ) : Prop where
 some' : ∀ k, r.1 = some k → BI ts rk p0 k [] r.2 ∧ k < r.2.l.length ∧ fnd (gd r.2.l k) = true ∧ ∀ j, j < k → fnd (gd r.2.l j) = false
 none' : r.1 = none → BI ts rk p0 r.2.l.length [] r.2 ∧ ∀ j, j < r.2.l.length → fnd (gd r.2.l j) = false
theorem goF_sem {Pd : Pl → Prop} (hts : ∀ p, Pd p → ∀ x ∈ ts p, Pd x.1) (hr : ∀ p, Pd p → (ts p).Pairwise fun a b => rk a.2 < rk b.2) {N : Nat} (hN : ∀ l : List Pl, l.Nodup → (∀ p ∈ l, Pd p) → l.length ≤ N) {fnd : Pl → Bool} : ∀ (f k : Nat) (st : BS σ), BI ts rk p0 k [] st → BSok Pd k st → (∀ j, j < k → fnd (gd st.l j) = false) → N < f + k → GoOk ts rk fnd p0 (goF ts fnd f k st)
 | 0, k, st, h, hb, _, hf => by
  have := hN st.l h.nd hb.ok
  have := h.kl; omega
 | f + 1, k, st, h, hb, hn, hf => by
  rw [goF_succ]
  split
  ·rename_i hk
   have hpd := hb.ok _ (A1 hk)
   split
   ·rename_i hfn
    exact ⟨(fun k' e => by cases e; exact ⟨h, hk, hfn, hn⟩), (fun e => by cases e)⟩
   ·rename_i hfn
    obtain ⟨hb1, hb2⟩ := hb.visAll (k' := k) (ts (gd st.l k)) hk (hts _ hpd)
    obtain ⟨hg, hl⟩ := visAll_get (k := k) (ts (gd st.l k)) (st := st) hk
    refine goF_sem hts hr hN f (k + 1) _ (h.next hk (hr _ hpd)) ⟨hb1.nd, hb1.ok, hb1.len, hb1.back, by omega⟩ (fun j hj => ?_) (by omega)
    by_cases e : j = k
    ·subst e; rw [hg]; simpa using hfn
    ·rw [(visAll_get (k := k) (ts (gd st.l k)) (st := st) (show j < st.l.length by omega)).1]
     exact hn j (by omega)
  ·rename_i hk
   have : k = st.l.length := by have := h.kl; omega
   subst this
   exact ⟨(fun k' e => by cases e), fun _ => ⟨h, hn⟩⟩
theorem goF_sem0 {Pd : Pl → Prop} (hts : ∀ p, Pd p → ∀ x ∈ ts p, Pd x.1) (hr : ∀ p, Pd p → (ts p).Pairwise fun a b => rk a.2 < rk b.2) {N : Nat} (hN : ∀ l : List Pl, l.Nodup → (∀ p ∈ l, Pd p) → l.length ≤ N) (fnd : Pl → Bool) (hp : Pd p0) : GoOk ts rk fnd p0 (goF ts fnd (N + 1) 0 ⟨[p0], [(-1, default)]⟩) :=
 goF_sem hts hr hN (N + 1) 0 _ .start ⟨by simp, by simpa using hp, rfl, (fun i hi => by
  simp at hi; subst hi; show -1 ≤ (-1 : Int) ∧ (-1 : Int) < ((0 : Nat) : Int); omega), Nat.zero_le _⟩ (fun j hj => by omega) (by omega)
theorem srF_yes {Pd : Pl → Prop} (hts : ∀ p, Pd p → ∀ x ∈ ts p, Pd x.1) (hr : ∀ p, Pd p → (ts p).Pairwise fun a b => rk a.2 < rk b.2) {N : Nat} (hN : ∀ l : List Pl, l.Nodup → (∀ p ∈ l, Pd p) → l.length ≤ N) (fnd : Pl → Bool) (hp : Pd p0) (h : (srF ts fnd N p0).2.1 = true) :
  (∃ q, Chn ts p0 (srF ts fnd N p0).1 q ∧ fnd q = true) ∧ ∀ ls q, Chn ts p0 ls q → fnd q = true → leL ((srF ts fnd N p0).1.map rk) (ls.map rk) := by
 have hg := goF_sem0 (rk := rk) hts hr hN fnd hp
 unfold srF at *
 generalize goF ts fnd (N + 1) 0 ⟨[p0], [(-1, default)]⟩ = r at *
 obtain ⟨k, st⟩ := r
 cases k with
 | none => cases h
 | some k =>
  obtain ⟨h1, h2, h3, h4⟩ := hg.some' k rfl
  simp only [] at *
  refine ⟨⟨_, h1.chain k k (Nat.le_refl _) h2, h3⟩, fun ls q hc hq => ?_⟩
  rcases h1.ways hc with ⟨i, hi, e, hle⟩ | ⟨i, hi1, hi2, p, hp1, hp2⟩
  ·rcases Nat.lt_or_ge i k with hik | hik
   ·have := h4 i hik; rw [e, hq] at this; cases this
   ·exact leL_trans (h1.le hik hi) hle
  ·have h5 := leL_len (leL_trans (h1.le hi1 hi2) hp2)
   left; left
   have : (pth st.w k).length = (backF st.w (k + 1) k).reverse.length := rfl
   simp only [List.length_map] at h5 ⊢
   unfold pth at h5
   omega
theorem srF_no {Pd : Pl → Prop} (hts : ∀ p, Pd p → ∀ x ∈ ts p, Pd x.1) (hr : ∀ p, Pd p → (ts p).Pairwise fun a b => rk a.2 < rk b.2) {N : Nat} (hN : ∀ l : List Pl, l.Nodup → (∀ p ∈ l, Pd p) → l.length ≤ N) (fnd : Pl → Bool) (hp : Pd p0) (h : (srF ts fnd N p0).2.1 = false) :
  (srF ts fnd N p0).1 = [] ∧ (∀ q, q ∈ (srF ts fnd N p0).2.2 ↔ ∃ ls, Chn ts p0 ls q) ∧ ∀ ls q, Chn ts p0 ls q → fnd q = false := by
 have hg := goF_sem0 (rk := rk) hts hr hN fnd hp
 unfold srF at *
 generalize goF ts fnd (N + 1) 0 ⟨[p0], [(-1, default)]⟩ = r at *
 obtain ⟨k, st⟩ := r
 cases k with
 | some k => cases h
 | none =>
  obtain ⟨h1, h2⟩ := hg.none' rfl
  simp only [] at *
  have hall : ∀ ls q, Chn ts p0 ls q → ∃ i, i < st.l.length ∧ gd st.l i = q := fun ls q hc => by
   rcases h1.ways hc with ⟨i, hi, e, _⟩ | ⟨i, hi1, hi2, _⟩
   ·exact ⟨i, hi, e⟩
   ·omega
  refine ⟨trivial, fun q => ⟨fun hq => ?_, fun ⟨ls, hc⟩ => ?_⟩, fun ls q hc => ?_⟩
  ·obtain ⟨i, hi, e⟩ := memPl hq
   exact ⟨_, e ▸ h1.chain i i (Nat.le_refl _) hi⟩
  ·obtain ⟨i, hi, e⟩ := hall ls q hc
   rw [← e]; exact A1 hi
  ·obtain ⟨i, hi, e⟩ := hall ls q hc
   rw [← e]; exact h2 i hi
end
end Go.Proofs.YtkdolgnpkjihpaaGreatDoor
namespace Go.Proofs.YtkdolgnpkjihpaaGreatDoor
open _root_.Go.Proofs.Tryz
open Go.RowKit
set_option linter.unusedVariables false
set_option linter.unusedSimpArgs false
def lnOf (l : Lnk) : Ln := ⟨l.src.toNat, l.dst.toNat, l.cap⟩
def nnOf (n : Nm) : Nn := ⟨n.nodes, n.links.map lnOf, n.edges, n.qn, n.cn, n.ql, n.cl, n.qe, n.ce⟩
abbrev toInts (l : List Nat) : List Int := l.map fun k : Nat => (k : Int)
theorem runM_snoc (m : PM) (ls : List ByteArray) (s : ByteArray) : runM m (ls ++ [s]) = afterF m (runM m ls) s := by simp [runM]
structure Rch (n : Nn) (f : Flr) (m : PM) (x : Nat) (ks : List Pl) : Prop where
 mem : ∀ q, q ∈ ks ↔ ¬ f.node = x ∧ ∃ ls, Chn (movesF n f m) (p0F n m x) ls q
 srt : ks.Pairwise plLt
 ok : ∀ q ∈ ks, PlOk n m q
end Go.Proofs.YtkdolgnpkjihpaaGreatDoor
namespace Go.Proofs.YtkdolgnpkjihpaaGreatDoor
open _root_.Go.Proofs.Tryz
open Go.RowKit
set_option linter.unusedVariables false
set_option linter.unusedSimpArgs false
section
variable {w0 : World} {H : List (Nat × Obj)} {n : Nm} {f : Flr} {m : Mc} {x to : Nat}
structure NF (w0 : World) (H : List (Nat × Obj)) (n : Nm) (f : Flr) (x to : Nat) : Prop where
 nm : NetM w0 H n
 fl : Arr w0 H f.q 1 encI f.links
 rg : RgtOk n f x to
theorem NF.mono {H' : List (Nat × Obj)} (h : NF w0 H n f x to) (hs : H.Sublist H' := by exact sbt) : NF w0 H' n f x to := ⟨h.nm.mono hs, h.fl.mono hs, h.rg⟩
theorem NF.hx (h : NF w0 H n f x to) : x < (nnOf n).nodes.length := by have := h.rg.x; show x < n.nodes.length; omega
end
theorem Rch.nd {n : Nn} {f : Flr} {m : PM} {x : Nat} {ks : List Pl} (h : Rch n f m x ks) : ks.Nodup := h.srt.imp fun {a b} hab e => by
 subst e; unfold plLt at hab; omega
end Go.Proofs.YtkdolgnpkjihpaaGreatDoor
namespace Go.Proofs.YtkdolgnpkjihpaaGreatDoor
open _root_.Go.Proofs.Tryz
open Go.RowKit
set_option linter.unusedVariables false
set_option linter.unusedSimpArgs false
set_option linter.unusedSectionVars false
structure Vi where
 p : Pl
 q : Option Addr
 c : Nat
 l : List Nat
instance : Inhabited Vi := ⟨⟨(0, 0), none, 0, []⟩⟩
abbrev encVi (v : Vi) : List Value := [.int .i64 (v.p.1 : Int), .int .i64 (v.p.2 : Int), .slice v.q v.l.length v.c]
structure VR (vs : List Vi) (st : BS Nat) : Prop where
 len : vs.length = st.l.length
 at' : ∀ i, i < vs.length → (gd vs i).p = gd st.l i ∧ (gd vs i).l = pth st.w i
theorem VR.mem {vs : List Vi} {st : BS Nat} (h : VR vs st) (p : Pl) : p ∈ st.l ↔ ∃ j, j < vs.length ∧ (gd vs j).p = p := by
 constructor
 ·intro hp
  obtain ⟨j, hj, e⟩ := memPl hp
  exact ⟨j, by rw [h.len]; exact hj, by rw [(h.at' j (by rw [h.len]; exact hj)).1]; exact e⟩
 ·rintro ⟨j, hj, e⟩
  rw [← e, (h.at' j hj).1]
  exact A1 (by rw [← h.len]; exact hj)
theorem VR.start (p : Pl) : VR [⟨p, none, 0, []⟩] ⟨[p], [(-1, default)]⟩ := ⟨rfl, fun i hi => by
 simp at hi; subst hi
 exact ⟨rfl, rfl⟩⟩
theorem VR.old {Pd : Pl → Prop} {k k' : Nat} {st : BS Nat} {vs : List Vi} (h : VR vs st) {x : Pl × Nat} (hx : x.1 ∈ st.l) : VR vs (visF k st x) := by
 unfold visF; rw [if_pos hx]; exact h
theorem VR.new {Pd : Pl → Prop} {k k' : Nat} {st : BS Nat} {vs : List Vi} (h : VR vs st) (hb : BSok Pd k' st) (hk : k < st.l.length) {x : Pl × Nat} (hx : x.1 ∉ st.l) (q : Option Addr) (c : Nat) : VR (vs ++ [⟨x.1, q, c, (gd vs k).l ++ [x.2]⟩]) (visF k st x) := by
 have hw := hb.len
 have hl := h.len
 have hback : ∀ i, i < (st.w ++ [((k : Int), x.2)]).length → -1 ≤ (gd (st.w ++ [((k : Int), x.2)]) i).1 ∧ (gd (st.w ++ [((k : Int), x.2)]) i).1 < i := fun i hi => by
  by_cases e : i = st.w.length
  ·subst e; rw [Cq]; simp only []; omega
  ·have hi' : i < st.w.length := by simp at hi; omega
   rw [Cd hi']; exact hb.back i hi'
 unfold visF; rw [if_neg hx]
 refine ⟨by simp [hl], fun i hi => ?_⟩
 by_cases e : i = vs.length
 ·subst e
  rw [Cq]
  simp only []
  have e1 : gd (st.l ++ [x.1]) vs.length = x.1 := by rw [hl]; exact Cq
  refine ⟨e1.symm, ?_⟩
  have e2 : gd (st.w ++ [((k : Int), x.2)]) vs.length = ((k : Int), x.2) := by rw [hl, ← hw]; exact Cq
  rw [pth_snoc hback (by simp; omega) (by rw [e2]; simp only []; omega), e2]
  simp only [Int.toNat_natCast]
  rw [pth_app hb.back _ (by omega), (h.at' k (by omega)).2]
 ·have hi' : i < vs.length := by simp at hi; omega
  rw [Cd hi']
  simp only []
  rw [Cd (by omega), pth_app hb.back _ (by omega)]
  exact h.at' i hi'
end Go.Proofs.YtkdolgnpkjihpaaGreatDoor
namespace Go.Proofs.YtkdolgnpkjihpaaGreatDoor
open _root_.Go.Proofs.Tryz
open Go.RowKit
set_option linter.unusedVariables false
set_option linter.unusedSimpArgs false
structure VOk (w0 : World) (H M : List (Nat × Obj)) (vs : List Vi) (d : Sl) (st : BS Nat) : Prop where
 ok : SlOk d vs.length 3
 vr : VR vs st
 pa : ∀ u ∈ vs, Arr w0 (M ++ H) u.q 1 encU u.l
theorem VOk.path {w0 : World} {H M : List (Nat × Obj)} {vs : List Vi} {d : Sl} {st : BS Nat} (h : VOk w0 H M vs d st) {i : Nat} (hi : i < vs.length) : Arr w0 (M ++ H) (gd vs i).q 1 encU (gd vs i).l := h.pa _ (A1 hi)
theorem VOk.arr {w0 : World} {H M X : List (Nat × Obj)} {vs : List Vi} {d : Sl} {st : BS Nat} (h : VOk w0 H M vs d st) : Arr w0 (slH d (vs.flatMap encVi) 135 ++ X) (slQ d) 3 encVi vs := Bz (fun _ => rfl) h.ok
theorem VOk.old {w0 : World} {H M : List (Nat × Obj)} {vs : List Vi} {d : Sl} {st : BS Nat} (h : VOk w0 H M vs d st) {k : Nat} {x : Pl × Nat} (hx : x.1 ∈ st.l) : VOk w0 H M vs d (visF k st x) := ⟨h.ok, h.vr.old (Pd := fun _ => True) (k' := 0) hx, h.pa⟩
theorem VOk.new {w0 : World} {H M M' : List (Nat × Obj)} {vs : List Vi} {d d' : Sl} {st : BS Nat} (h : VOk w0 H M vs d st) {Pd : Pl → Prop} {k k' : Nat} (hb : BSok Pd k' st) (hk : k < st.l.length) {x : Pl × Nat} (hx : x.1 ∉ st.l) {q : Option Addr} {c : Nat} (hd : SlOk d' (vs ++ [(⟨x.1, q, c, (gd vs k).l ++ [x.2]⟩ : Vi)]).length 3) (hs : (M ++ H).Sublist (M' ++ H)) (hA : Arr w0 (M' ++ H) q 1 encU ((gd vs k).l ++ [x.2])) : VOk w0 H M' (vs ++ [(⟨x.1, q, c, (gd vs k).l ++ [x.2]⟩ : Vi)]) d' (visF k st x) :=
 ⟨hd, h.vr.new (Pd := Pd) (k' := k') hb hk hx q c, fun u hu => by
  rcases List.mem_append.1 hu with hu | hu
  ·exact (h.pa u hu).mono hs
  ·simp at hu; subst hu; exact hA⟩
end Go.Proofs.YtkdolgnpkjihpaaGreatDoor
namespace Go.Proofs.YtkdolgnpkjihpaaGreatDoor
open _root_.Go.Proofs.Tryz
open Go.RowKit
set_option linter.unusedVariables false
set_option linter.unusedSimpArgs false
end Go.Proofs.YtkdolgnpkjihpaaGreatDoor
namespace Go.Proofs.YtkdolgnpkjihpaaGreatDoor
open _root_.Go.Proofs.Tryz
open Go.RowKit
set_option linter.unusedVariables false
set_option linter.unusedSimpArgs false
end Go.Proofs.YtkdolgnpkjihpaaGreatDoor
namespace Go.Proofs.YtkdolgnpkjihpaaGreatDoor
open _root_.Go.Proofs.Tryz
open Go.RowKit
set_option linter.unusedVariables false
set_option linter.unusedSimpArgs false
end Go.Proofs.YtkdolgnpkjihpaaGreatDoor
namespace Go.Proofs.YtkdolgnpkjihpaaGreatDoor
open _root_.Go.Proofs.Tryz
open Go.RowKit
set_option linter.unusedVariables false
set_option linter.unusedSimpArgs false
end Go.Proofs.YtkdolgnpkjihpaaGreatDoor
namespace Go.Proofs.YtkdolgnpkjihpaaGreatDoor
open _root_.Go.Proofs.Tryz
open Go.RowKit
set_option linter.unusedVariables false
set_option linter.unusedSimpArgs false
end Go.Proofs.YtkdolgnpkjihpaaGreatDoor
namespace Go.Proofs.YtkdolgnpkjihpaaGreatDoor
open _root_.Go.Proofs.Tryz
open Go.RowKit
set_option linter.unusedVariables false
set_option linter.unusedSimpArgs false
theorem idx_at {α : Type} [DecidableEq α] [Inhabited α] {l : List α} {x : α} {k : Nat} (hk : k < l.length) (h : gd l k = x) (hj : ∀ j, j < k → ¬ gd l j = x) : idx l x = k := by
 have hm : x ∈ l := by rw [← h]; exact A1 hk
 have h1 := idx_lt hm
 have h2 := idx_get hm
 rcases Nat.lt_trichotomy (idx l x) k with h3 | h3 | h3
 ·exact absurd h2 (hj _ h3)
 ·exact h3
 ·exfalso
  have h4 : k < l.findIdx (fun y => y == x) := h3
  have h5 := List.not_of_lt_findIdx h4
  rw [Bj hk] at h
  simp [h] at h5
end Go.Proofs.YtkdolgnpkjihpaaGreatDoor
namespace Go.Proofs.YtkdolgnpkjihpaaGreatDoor
open _root_.Go.Proofs.Tryz
open Go.RowKit
set_option linter.unusedVariables false
set_option linter.unusedSimpArgs false
end Go.Proofs.YtkdolgnpkjihpaaGreatDoor
namespace Go.Proofs.YtkdolgnpkjihpaaGreatDoor
open _root_.Go.Proofs.Tryz
open Go.RowKit
set_option linter.unusedVariables false
set_option linter.unusedSimpArgs false
def Srn (n : Nat) (l : List Nat) : Prop := l.Pairwise (· < ·) ∧ ∀ x ∈ l, x < n
theorem Srn.nil {n : Nat} : Srn n [] := ⟨.nil, fun x hx => by cases hx⟩
theorem Srn.le {n m : Nat} {l : List Nat} (h : Srn n l) (hm : n ≤ m) : Srn m l := ⟨h.1, fun x hx => Nat.lt_of_lt_of_le (h.2 x hx) hm⟩
theorem Srn.len {n : Nat} {l : List Nat} (h : Srn n l) : l.length ≤ n := by
 have h1 : l.Nodup := h.1.imp fun h => Nat.ne_of_lt h
 have := nodup_le h1 (l' := List.range n) fun s hs => List.mem_range.2 (h.2 s hs)
 simpa using this
theorem mem_putF {n x : Nat} : ∀ {l : List Nat}, x ∈ putF n l ↔ x = n ∨ x ∈ l
 | [] => by simp [putF]
 | y :: l => by
  have ih := mem_putF (n := n) (x := x) (l := l)
  unfold putF
  split
  ·simp only [List.mem_cons, ih]
   constructor
   ·rintro (h | h | h)
    ·exact .inr (.inl h)
    ·exact .inl h
    ·exact .inr (.inr h)
   ·rintro (h | h | h)
    ·exact .inr (.inl h)
    ·exact .inl h
    ·exact .inr (.inr h)
  ·split
   ·rename_i h; subst h; simp only [List.mem_cons]
    constructor
    ·exact fun h => .inr h
    ·rintro (h | h)
     ·exact .inl h
     ·exact h
   ·simp only [List.mem_cons]
theorem putF_srt {n : Nat} : ∀ {l : List Nat}, l.Pairwise (· < ·) → (putF n l).Pairwise (· < ·)
 | [], _ => by simp [putF]
 | y :: l, h => by
  rw [List.pairwise_cons] at h
  unfold putF
  split
  ·rename_i h0
   rw [List.pairwise_cons]
   refine ⟨fun x hx => ?_, putF_srt h.2⟩
   rcases mem_putF.1 hx with e | e
   ·subst e; exact h0
   ·exact h.1 x e
  ·split
   ·rw [List.pairwise_cons]; exact h
   ·rename_i h0 h1
    rw [List.pairwise_cons]
    refine ⟨fun x hx => ?_, by rw [List.pairwise_cons]; exact h⟩
    rcases List.mem_cons.1 hx with e | e
    ·subst e; omega
    ·have := h.1 x e; omega
theorem mem_mergeF {x : Nat} : ∀ {b a : List Nat}, x ∈ mergeF a b ↔ x ∈ a ∨ x ∈ b
 | [], a => by simp [mergeF]
 | y :: b, a => by
  have ih := mem_mergeF (x := x) (b := b) (a := putF y a)
  have e : mergeF a (y :: b) = mergeF (putF y a) b := rfl
  rw [e, ih, mem_putF, List.mem_cons]
  constructor
  ·rintro ((h | h) | h)
   ·exact .inr (.inl h)
   ·exact .inl h
   ·exact .inr (.inr h)
  ·rintro (h | h | h)
   ·exact .inl (.inr h)
   ·exact .inl (.inl h)
   ·exact .inr h
theorem mergeF_srt : ∀ {b a : List Nat}, a.Pairwise (· < ·) → (mergeF a b).Pairwise (· < ·)
 | [], _, h => h
 | y :: b, a, h => mergeF_srt (b := b) (putF_srt h)
theorem Srn.merge {n : Nat} {a b : List Nat} (ha : Srn n a) (hb : Srn n b) : Srn n (mergeF a b) := ⟨mergeF_srt ha.1, fun x hx => (mem_mergeF.1 hx).elim (ha.2 x) (hb.2 x)⟩
structure PT where
 nms : List ByteArray
 fol : List (List Nat)
structure PE where
 first : List Nat
 last : List Nat
 emp : Bool
def leadP (fol : List (List Nat)) (fr to : List Nat) : List (List Nat) := fr.foldl (fun f i => f.set i (mergeF (gd f i) to)) fol
def readP : Re → PT → PT × PE
 | .emp, t => (t, ⟨[], [], true⟩)
 | .nod s, t => (⟨t.nms ++ [s], t.fol ++ [[]]⟩, ⟨[t.fol.length], [t.fol.length], false⟩)
 | .any, t => (⟨t.nms ++ [⟨#[]⟩], t.fol ++ [[]]⟩, ⟨[t.fol.length], [t.fol.length], false⟩)
 | .alt a b, t =>
  let x := readP a t
  let y := readP b x.1
  (y.1, ⟨mergeF x.2.first y.2.first, mergeF x.2.last y.2.last, x.2.emp || y.2.emp⟩)
 | .seq a b, t =>
  let x := readP a t
  let y := readP b x.1
  (⟨y.1.nms, leadP y.1.fol x.2.last y.2.first⟩, ⟨if x.2.emp then mergeF x.2.first y.2.first else x.2.first, if y.2.emp then mergeF y.2.last x.2.last else y.2.last, x.2.emp && y.2.emp⟩)
 | .star a, t =>
  let x := readP a t
  (⟨x.1.nms, leadP x.1.fol x.2.last x.2.first⟩, ⟨x.2.first, x.2.last, true⟩)
structure LT where
 lv : List Rxm
 fol : List RowQ
def LT.pl (t : LT) : PT := ⟨t.lv.map Rxm.node, t.fol.map RowQ.l⟩
def LfOk (m : Rxm) : Prop := (m.kind = 2 ∧ m.node.size ≠ 0) ∨ (m.kind = 3 ∧ m.node = ⟨#[]⟩)
structure LtOk (w0 : World) (X : List (Nat × Obj)) (t : LT) : Prop where
 len : t.fol.length = t.lv.length
 few : t.lv.length ≤ 64
 lf : ∀ m ∈ t.lv, LfOk m
 arr : ∀ r ∈ t.fol, Arr w0 X r.q 1 encU r.l
 cap : ∀ r ∈ t.fol, r.l.length ≤ r.c
 srt : ∀ r ∈ t.fol, Srn t.lv.length r.l
theorem LtOk.mono {w0 : World} {X Y : List (Nat × Obj)} {t : LT} (h : LtOk w0 X t) (hs : X.Sublist Y := by exact sbt) : LtOk w0 Y t := ⟨h.len, h.few, h.lf, fun r hr => (h.arr r hr).mono hs, h.cap, h.srt⟩
theorem LtOk.set {w0 : World} {X Y : List (Nat × Obj)} {t : LT} (h : LtOk w0 X t) {k : Nat} {r : RowQ} (hs : X.Sublist Y) (hA : Arr w0 Y r.q 1 encU r.l) (hc : r.l.length ≤ r.c) (hr : Srn t.lv.length r.l) : LtOk w0 Y { t with fol := t.fol.set k r } := by
 have hm : ∀ x ∈ t.fol.set k r, x ∈ t.fol ∨ x = r := fun x hx => List.mem_or_eq_of_mem_set hx
 refine ⟨by simpa using h.len, h.few, h.lf, fun x hx => ?_, fun x hx => ?_, fun x hx => ?_⟩
 ·rcases hm x hx with e | e
  ·exact (h.arr x e).mono hs
  ·subst e; exact hA
 ·rcases hm x hx with e | e
  ·exact h.cap x e
  ·subst e; exact hc
 ·rcases hm x hx with e | e
  ·exact h.srt x e
  ·subst e; exact hr
end Go.Proofs.YtkdolgnpkjihpaaGreatDoor
namespace Go.Proofs.YtkdolgnpkjihpaaGreatDoor
open _root_.Go.Proofs.Tryz
open Go.RowKit
set_option linter.unusedVariables false
set_option linter.unusedSimpArgs false
structure EQ where
 pe : PE
 q1 : Option Addr
 c1 : Nat
 q2 : Option Addr
 c2 : Nat
structure EqOk (w0 : World) (X : List (Nat × Obj)) (n : Nat) (E : EQ) : Prop where
 a1 : Arr w0 X E.q1 1 encU E.pe.first
 a2 : Arr w0 X E.q2 1 encU E.pe.last
 k1 : E.pe.first.length ≤ E.c1
 k2 : E.pe.last.length ≤ E.c2
 s1 : Srn n E.pe.first
 s2 : Srn n E.pe.last
theorem EqOk.mono {w0 : World} {X Y : List (Nat × Obj)} {n m : Nat} {E : EQ} (h : EqOk w0 X n E) (hm : n ≤ m) (hs : X.Sublist Y := by exact sbt) : EqOk w0 Y m E := ⟨h.a1.mono hs, h.a2.mono hs, h.k1, h.k2, h.s1.le hm, h.s2.le hm⟩
structure RdOk (w0 : World) (e : Re) (t t' : LT) (E : EQ) (M : List (Nat × Obj)) : Prop where
 pl : t'.pl = (readP e t.pl).1
 pe : E.pe = (readP e t.pl).2
 len : t'.lv.length = t.lv.length + e.lv
 ok : ∀ X, LtOk w0 X t → LtOk w0 (M ++ X) t' ∧ EqOk w0 (M ++ X) t'.lv.length E
theorem LtOk.push {w0 : World} {X Y : List (Nat × Obj)} {t : LT} (h : LtOk w0 X t) (hs : X.Sublist Y) (hl : t.lv.length + 1 ≤ 64) {m : Rxm} (hm : LfOk m) : LtOk w0 Y ⟨t.lv ++ [m], t.fol ++ [⟨none, 0, []⟩]⟩ := by
 refine ⟨by simp [h.len], by simpa using hl, fun x hx => ?_, fun r hr => ?_, fun r hr => ?_, fun r hr => ?_⟩
 ·rcases List.mem_append.1 hx with e | e
  ·exact h.lf x e
  ·simp at e; subst e; exact hm
 ·rcases List.mem_append.1 hr with e | e
  ·exact (h.arr r e).mono hs
  ·simp at e; subst e; exact fun i x hi => by cases hi
 ·rcases List.mem_append.1 hr with e | e
  ·exact h.cap r e
  ·simp at e; subst e; exact Nat.le_refl _
 ·rcases List.mem_append.1 hr with e | e
  ·exact (h.srt r e).le (by simp)
  ·simp at e; subst e; exact .nil
theorem Srn.one {k n : Nat} (h : k < n) : Srn n [k] := ⟨by simp, by simpa using h⟩
end Go.Proofs.YtkdolgnpkjihpaaGreatDoor
namespace Go.Proofs.YtkdolgnpkjihpaaGreatDoor
open _root_.Go.Proofs.Tryz
open Go.RowKit
set_option linter.unusedVariables false
set_option linter.unusedSimpArgs false
theorem RdOk.alt {w0 : World} {a b : Re} {t t1 t2 : LT} {E1 E2 : EQ} {M1 M2 M5 M6 : List (Nat × Obj)} {q5 q6 : Option Addr} {c5 c6 : Nat} (h1 : RdOk w0 a t t1 E1 M1) (h2 : RdOk w0 b t1 t2 E2 M2)
  (k5 : (mergeF E1.pe.first E2.pe.first).length ≤ c5) (h5 : ∀ X, Arr w0 X E1.q1 1 encU E1.pe.first → Arr w0 (M5 ++ X) q5 1 encU (mergeF E1.pe.first E2.pe.first))
  (k6 : (mergeF E1.pe.last E2.pe.last).length ≤ c6) (h6 : ∀ X, Arr w0 X E1.q2 1 encU E1.pe.last → Arr w0 (M6 ++ X) q6 1 encU (mergeF E1.pe.last E2.pe.last)) {x : Bool} (hx : x = (E1.pe.emp || E2.pe.emp)) :
  RdOk w0 (.alt a b) t t2 ⟨⟨mergeF E1.pe.first E2.pe.first, mergeF E1.pe.last E2.pe.last, x⟩, q5, c5, q6, c6⟩ (M6 ++ (M5 ++ (M2 ++ M1))) := by
 have hl1 := h1.len
 have hl2 := h2.len
 refine ⟨by rw [h2.pl, h1.pl]; rfl, by rw [hx, h1.pe, h2.pe, h1.pl]; rfl, by rw [hl2, hl1]; simp only [Re.lv]; omega, fun X hX => ?_⟩
 obtain ⟨g1, b1⟩ := h1.ok X hX
 obtain ⟨g2, b2⟩ := h2.ok _ g1
 have hS : (M2 ++ (M1 ++ X)).Sublist (M6 ++ (M5 ++ (M2 ++ M1)) ++ X) := by simp only [List.append_assoc]; exact (List.sublist_append_right _ _).trans (List.sublist_append_right _ _)
 have b1' : EqOk w0 (M2 ++ (M1 ++ X)) t2.lv.length E1 := b1.mono (by omega) (List.sublist_append_right _ _)
 refine ⟨g2.mono hS, ?_, ?_, k5, k6, b1'.s1.merge b2.s1, b1'.s2.merge b2.s2⟩
 ·refine (h5 _ b1'.a1).mono ?_
  simp only [List.append_assoc]; exact List.sublist_append_right _ _
 ·refine (h6 _ b1'.a2).mono ?_
  simp only [List.append_assoc]; exact (List.Sublist.refl _).append (List.sublist_append_right _ _)
theorem RdOk.seq {w0 : World} {a b : Re} {t t1 t2 : LT} {fol3 : List RowQ} {E1 E2 : EQ} {M1 M2 M3 M5 M6 : List (Nat × Obj)} {q5 q6 : Option Addr} {c5 c6 : Nat} {l5 l6 : List Nat} (h1 : RdOk w0 a t t1 E1 M1) (h2 : RdOk w0 b t1 t2 E2 M2)
  (hf : fol3.map RowQ.l = leadP t2.pl.fol E1.pe.last E2.pe.first) (h3 : ∀ X, LtOk w0 X t2 → LtOk w0 (M3 ++ X) ⟨t2.lv, fol3⟩)
  (e5 : l5 = if E1.pe.emp then mergeF E1.pe.first E2.pe.first else E1.pe.first) (k5 : l5.length ≤ c5) (h5 : ∀ X, Arr w0 X E1.q1 1 encU E1.pe.first → Arr w0 (M5 ++ X) q5 1 encU l5)
  (e6 : l6 = if E2.pe.emp then mergeF E2.pe.last E1.pe.last else E2.pe.last) (k6 : l6.length ≤ c6) (h6 : ∀ X, Arr w0 X E2.q2 1 encU E2.pe.last → Arr w0 (M6 ++ X) q6 1 encU l6) {x : Bool} (hx : x = (E1.pe.emp && E2.pe.emp)) :
  RdOk w0 (.seq a b) t ⟨t2.lv, fol3⟩ ⟨⟨l5, l6, x⟩, q5, c5, q6, c6⟩ (M6 ++ (M5 ++ (M3 ++ (M2 ++ M1)))) := by
 have hl1 := h1.len
 have hl2 := h2.len
 refine ⟨?_, by rw [hx, e5, e6, h1.pe, h2.pe, h1.pl]; rfl, by show t2.lv.length = _; rw [hl2, hl1]; simp only [Re.lv]; omega, fun X hX => ?_⟩
 ·show (⟨t2.lv.map Rxm.node, fol3.map RowQ.l⟩ : PT) = _
  rw [hf, h1.pe, h2.pe, show t2.lv.map Rxm.node = t2.pl.nms from rfl, h2.pl, h1.pl]; rfl
 obtain ⟨g1, b1⟩ := h1.ok X hX
 obtain ⟨g2, b2⟩ := h2.ok _ g1
 have g3 := h3 _ g2
 have b1' : EqOk w0 (M2 ++ (M1 ++ X)) t2.lv.length E1 := b1.mono (by omega) (List.sublist_append_right _ _)
 refine ⟨g3.mono (by simp only [List.append_assoc]; exact (List.sublist_append_right _ _).trans (List.sublist_append_right _ _)), ?_, ?_, k5, k6, ?_, ?_⟩
 ·refine (h5 _ b1'.a1).mono ?_
  simp only [List.append_assoc]; exact ((List.Sublist.refl _).append (List.sublist_append_right _ _)).trans (List.sublist_append_right _ _)
 ·refine (h6 _ b2.a2).mono ?_
  simp only [List.append_assoc]; exact (List.Sublist.refl _).append ((List.sublist_append_right _ _).trans (List.sublist_append_right _ _))
 ·show Srn t2.lv.length l5
  rw [e5]; split
  ·exact b1'.s1.merge b2.s1
  ·exact b1'.s1
 ·show Srn t2.lv.length l6
  rw [e6]; split
  ·exact b2.s2.merge b1'.s2
  ·exact b2.s2
theorem RdOk.star {w0 : World} {a : Re} {t t1 : LT} {fol3 : List RowQ} {E1 : EQ} {M1 M3 : List (Nat × Obj)} (h1 : RdOk w0 a t t1 E1 M1)
  (hf : fol3.map RowQ.l = leadP t1.pl.fol E1.pe.last E1.pe.first) (h3 : ∀ X, LtOk w0 X t1 → LtOk w0 (M3 ++ X) ⟨t1.lv, fol3⟩) :
  RdOk w0 (.star a) t ⟨t1.lv, fol3⟩ ⟨⟨E1.pe.first, E1.pe.last, true⟩, E1.q1, E1.c1, E1.q2, E1.c2⟩ (M3 ++ M1) := by
 refine ⟨?_, by rw [h1.pe]; rfl, h1.len, fun X hX => ?_⟩
 ·show (⟨t1.lv.map Rxm.node, fol3.map RowQ.l⟩ : PT) = _
  rw [hf, h1.pe, show t1.lv.map Rxm.node = t1.pl.nms from rfl, h1.pl]; rfl
 obtain ⟨g1, b1⟩ := h1.ok X hX
 have g3 := h3 _ g1
 have b1' : EqOk w0 (M3 ++ M1 ++ X) t1.lv.length E1 := b1.mono (Nat.le_refl _) (by simp only [List.append_assoc]; exact List.sublist_append_right _ _)
 exact ⟨g3.mono (by simp only [List.append_assoc]; exact List.Sublist.refl _), b1'.a1, b1'.a2, b1'.k1, b1'.k2, b1'.s1, b1'.s2⟩
end Go.Proofs.YtkdolgnpkjihpaaGreatDoor
namespace Go.Proofs.YtkdolgnpkjihpaaGreatDoor
open _root_.Go.Proofs.Tryz
open Go.RowKit
set_option linter.unusedVariables false
set_option linter.unusedSimpArgs false
end Go.Proofs.YtkdolgnpkjihpaaGreatDoor
namespace Go.Proofs.YtkdolgnpkjihpaaGreatDoor
open _root_.Go.Proofs.Tryz
open Go.RowKit
set_option linter.unusedVariables false
set_option linter.unusedSimpArgs false
theorem Srn.put {n k : Nat} {l : List Nat} (h : Srn n l) (hk : k < n) : Srn n (putF k l) := ⟨putF_srt h.1, fun x hx => (mem_putF.1 hx).elim (fun e => by rw [e]; exact hk) (h.2 x)⟩
def addL (l : List (List Int)) (s : List Int) : List (List Int) := if s ∈ l then l else l ++ [s]
theorem mem_toInts {l : List Nat} {x : Int} : x ∈ toInts l ↔ ∃ k : Nat, k ∈ l ∧ (k : Int) = x := by simp [toInts]
end Go.Proofs.YtkdolgnpkjihpaaGreatDoor
namespace Go.Proofs.YtkdolgnpkjihpaaGreatDoor
open _root_.Go.Proofs.Tryz
open Go.RowKit
set_option linter.unusedVariables false
set_option linter.unusedSimpArgs false
def StI (n : Nat) (l : List Int) : Prop := l = [-1] ∨ ∃ ns, Srn n ns ∧ l = toInts ns
theorem StI.len {n : Nat} {l : List Int} (h : StI n l) : l.length ≤ n + 1 := by
 rcases h with rfl | ⟨ns, h, rfl⟩
 ·simp
 ·have := h.len; simp [toInts]; omega
theorem StI.at {n : Nat} {l : List Int} (h : StI n l) {x : Int} (hx : x ∈ l) : x = -1 ∨ (0 ≤ x ∧ x.toNat < n) := by
 rcases h with rfl | ⟨ns, h, rfl⟩
 ·left; simpa using hx
 ·obtain ⟨k, hk, rfl⟩ := mem_toInts.1 hx
  have := h.2 k hk
  right; omega
structure SsOk (w0 : World) (X : List (Nat × Obj)) (n : Nat) (S : List RowI) : Prop where
 arr : ∀ r ∈ S, Arr w0 X r.q 1 encI r.l
 st : ∀ r ∈ S, StI n r.l
theorem SsOk.mono {w0 : World} {X Y : List (Nat × Obj)} {n : Nat} {S : List RowI} (h : SsOk w0 X n S) (hs : X.Sublist Y := by exact sbt) : SsOk w0 Y n S := ⟨fun r hr => (h.arr r hr).mono hs, h.st⟩
theorem SsOk.push {w0 : World} {X Y : List (Nat × Obj)} {n : Nat} {S : List RowI} (h : SsOk w0 X n S) (hs : X.Sublist Y) {r : RowI} (hA : Arr w0 Y r.q 1 encI r.l) (hst : StI n r.l) : SsOk w0 Y n (S ++ [r]) := ⟨fun x hx => by
  rcases List.mem_append.1 hx with e | e
  ·exact (h.arr x e).mono hs
  ·simp at e; subst e; exact hA, fun x hx => by
  rcases List.mem_append.1 hx with e | e
  ·exact h.st x e
  ·simp at e; subst e; exact hst⟩
end Go.Proofs.YtkdolgnpkjihpaaGreatDoor
namespace Go.Proofs.YtkdolgnpkjihpaaGreatDoor
open _root_.Go.Proofs.Tryz
open Go.RowKit
set_option linter.unusedVariables false
set_option linter.unusedSimpArgs false
def sgR (m : PM) (b : List Nat) (i : Nat) : List Nat := gd b i :: (gd m.next i).map (gd b)
def sgK (m : PM) (b : List Nat) : Nat → List (List Int) × List Nat
 | 0 => ([], [])
 | i + 1 => (addL (sgK m b i).1 (toInts (sgR m b i)), (sgK m b i).2 ++ [idx (sgK m b i).1 (toInts (sgR m b i))])
theorem sgK_succ (m : PM) (b : List Nat) (i : Nat) : sgK m b (i + 1) = (addL (sgK m b i).1 (toInts (sgR m b i)), (sgK m b i).2 ++ [idx (sgK m b i).1 (toInts (sgR m b i))]) := rfl
theorem sgK_len (m : PM) (b : List Nat) : ∀ i, (sgK m b i).2.length = i ∧ (sgK m b i).1.length ≤ i
 | 0 => ⟨rfl, Nat.le_refl _⟩
 | i + 1 => by
  obtain ⟨h1, h2⟩ := sgK_len m b i
  rw [sgK_succ]
  refine ⟨by simp [h1], ?_⟩
  simp only [addL]; split
  ·omega
  ·simp; omega
end Go.Proofs.YtkdolgnpkjihpaaGreatDoor
namespace Go.Proofs.YtkdolgnpkjihpaaGreatDoor
open _root_.Go.Proofs.Tryz
open Go.RowKit
set_option linter.unusedVariables false
set_option linter.unusedSimpArgs false
end Go.Proofs.YtkdolgnpkjihpaaGreatDoor
namespace Go.Proofs.YtkdolgnpkjihpaaGreatDoor
open _root_.Go.Proofs.Tryz
open Go.RowKit
set_option linter.unusedVariables false
set_option linter.unusedSimpArgs false
def Rep (x : Nat) (l : List Nat) : Prop := ∀ n, x.testBit n = decide (n ∈ l)
theorem Rep.eq {x y : Nat} {l : List Nat} (h : Rep x l) (h2 : Rep y l) : x = y := Nat.eq_of_testBit_eq fun n => by rw [h n, h2 n]
theorem Rep.nil : Rep 0 [] := fun n => by simp
theorem Rep.one (k : Nat) : Rep (2 ^ k) [k] := fun n => by
 rw [Nat.testBit_two_pow]
 exact decide_eq_decide.2 (by simp [eq_comm])
theorem Rep.or {x y : Nat} {a b : List Nat} (h1 : Rep x a) (h2 : Rep y b) : Rep (x ||| y) (mergeF a b) := fun n => by
 rw [Nat.testBit_or, h1 n, h2 n, Bool.eq_iff_iff]
 simp [mem_mergeF]
theorem srn_ext {n : Nat} : ∀ {a b : List Nat}, a.Pairwise (· < ·) → b.Pairwise (· < ·) → (∀ x, x ∈ a ↔ x ∈ b) → a = b
 | [], [], _, _, _ => rfl
 | [], y :: l', _, _, h => absurd ((h y).2 (by simp)) (by simp)
 | x :: l, [], _, _, h => absurd ((h x).1 (by simp)) (by simp)
 | x :: l, y :: l', h1, h2, h => by
  have p1 := List.pairwise_cons.1 h1
  have p2 := List.pairwise_cons.1 h2
  have e : x = y := by
   rcases List.mem_cons.1 ((h x).1 (by simp)) with e | e
   ·exact e
   ·rcases List.mem_cons.1 ((h y).2 (by simp)) with e2 | e2
    ·exact e2.symm
    ·have := p1.1 y e2; have := p2.1 x e; omega
  subst e
  rw [srn_ext (n := n) p1.2 p2.2 fun z => ?_]
  constructor
  ·intro hz
   rcases List.mem_cons.1 ((h z).1 (List.mem_cons_of_mem _ hz)) with e | e
   ·subst e; exact absurd (p1.1 z hz) (Nat.lt_irrefl _)
   ·exact e
  ·intro hz
   rcases List.mem_cons.1 ((h z).2 (List.mem_cons_of_mem _ hz)) with e | e
   ·subst e; exact absurd (p2.1 z hz) (Nat.lt_irrefl _)
   ·exact e
theorem Rep.inj {x : Nat} {a b : List Nat} (h1 : Rep x a) (h2 : Rep x b) (ha : a.Pairwise (· < ·)) (hb : b.Pairwise (· < ·)) : a = b :=
 srn_ext (n := 0) ha hb fun n => by
  have := (h1 n).symm.trans (h2 n)
  exact decide_eq_decide.1 this
structure TRel (t : Tr) (u : PT) : Prop where
 nm : t.names = u.nms
 len : t.fol.length = u.fol.length
 ln2 : u.fol.length = u.nms.length
 fol : ∀ i, i < t.fol.length → Rep (gd t.fol i) (gd u.fol i)
theorem gdp_l {α : Type} [Inhabited α] {l : List α} {x : α} {i : Nat} (h : i < l.length) : gd (l ++ [x]) i = gd l i := by
 rw [Bj h, Bj (by simp; omega)]; simp [List.getElem_append, h]
theorem gdp_r {α : Type} [Inhabited α] {l : List α} {x : α} : gd (l ++ [x]) l.length = x := by
 rw [Bj (by simp)]; simp
theorem TRel.push {t : Tr} {u : PT} (h : TRel t u) (s : ByteArray) : TRel ⟨t.names ++ [s], t.fol ++ [0]⟩ ⟨u.nms ++ [s], u.fol ++ [[]]⟩ := by
 refine ⟨by simp [h.nm], by simp [h.len], by simp [h.ln2], fun i hi => ?_⟩
 simp only [List.length_append, List.length_cons, List.length_nil] at hi
 have hl := h.len
 by_cases e : i < t.fol.length
 ·show Rep (gd (t.fol ++ [0]) i) (gd (u.fol ++ [[]]) i)
  rw [gdp_l e, gdp_l (by omega)]; exact h.fol i e
 ·obtain rfl : i = t.fol.length := by omega
  show Rep (gd (t.fol ++ [0]) t.fol.length) (gd (u.fol ++ [[]]) t.fol.length)
  rw [gdp_r, hl, gdp_r]; exact .nil
theorem Srn.nodup {n : Nat} {l : List Nat} (h : Srn n l) : l.Nodup := h.1.imp fun h => Nat.ne_of_lt h
end Go.Proofs.YtkdolgnpkjihpaaGreatDoor
namespace Go.Proofs.YtkdolgnpkjihpaaGreatDoor
open _root_.Go.Proofs.Tryz
open Go.RowKit
set_option linter.unusedVariables false
set_option linter.unusedSimpArgs false
theorem toInts_inj {a b : List Nat} (h : toInts a = toInts b) : a = b := by
 unfold toInts at h
 exact (List.map_inj_right (f := fun k : Nat => (k : Int)) fun x y e => Int.ofNat.inj e).1 h
def SRel (n : Nat) (s : St) (l : List Int) : Prop := (s = s00 ∧ l = [-1]) ∨ (s.2 = true ∧ ∃ ns, Srn n ns ∧ l = toInts ns ∧ Rep s.1 ns)
theorem neg_toInts {ns : List Nat} : ¬ [(-1 : Int)] = toInts ns := fun e => by
 have h : (-1 : Int) ∈ toInts ns := by rw [← e]; simp
 obtain ⟨k, _, hk⟩ := mem_toInts.1 h
 omega
theorem SRel.iff {n : Nat} {s s' : St} {l l' : List Int} (h : SRel n s l) (h' : SRel n s' l') : s = s' ↔ l = l' := by
 rcases h with ⟨rfl, rfl⟩ | ⟨h1, ns, h2, rfl, h3⟩ <;> rcases h' with ⟨rfl, rfl⟩ | ⟨g1, ms, g2, rfl, g3⟩
 ·simp
 ·exact ⟨fun e => (by rw [← e] at g1; cases g1), fun e => absurd e neg_toInts⟩
 ·exact ⟨fun e => (by rw [e] at h1; cases h1), fun e => absurd e.symm neg_toInts⟩
 ·constructor
  ·rintro rfl; rw [h3.inj g3 h2.1 g2.1]
  ·intro e
   have := toInts_inj e
   subst this
   exact Prod.ext (h3.eq g3) (by rw [h1, g1])
structure LRel (n : Nat) (L : List St) (M : List (List Int)) : Prop where
 len : L.length = M.length
 at' : ∀ i, i < L.length → SRel n (gd L i) (gd M i)
theorem idx_before {α : Type} [DecidableEq α] [Inhabited α] {l : List α} {x : α} {j : Nat} (h : j < idx l x) (hl : j < l.length) : ¬ gd l j = x := fun e => by
 have h4 : j < l.findIdx (fun y => y == x) := h
 have h5 := List.not_of_lt_findIdx h4
 rw [Bj hl] at e
 simp [e] at h5
theorem LRel.idx {n : Nat} {L : List St} {M : List (List Int)} (h : LRel n L M) {s : St} {l : List Int} (hs : SRel n s l) : idx L s = idx M l ∧ (s ∈ L ↔ l ∈ M) := by
 have hl := h.len
 by_cases hm : s ∈ L
 ·have h1 := idx_lt hm
  have h2 := idx_get hm
  have h3 : gd M (Go.Proofs.YtkdolgnpkjihpaaGreatDoor.idx L s) = l := ((h.at' _ h1).iff hs).1 h2
  refine ⟨(idx_at (by omega) h3 fun j hj e => idx_before hj (by omega) (((h.at' j (by omega)).iff hs).2 e)).symm, fun _ => by rw [← h3]; exact A1 (by omega), fun _ => hm⟩
 ·have hm2 : l ∉ M := fun hM => by
   obtain ⟨j, hj, e⟩ := List.getElem_of_mem hM
   have e2 : gd M j = l := by rw [Bj hj]; exact e
   exact hm (by rw [← ((h.at' j (by omega)).iff hs).2 e2]; exact A1 (by omega))
  exact ⟨by rw [idx_not hm, idx_not hm2, hl], fun e => absurd e hm, fun e => absurd e hm2⟩
theorem LRel.push {n : Nat} {L : List St} {M : List (List Int)} (h : LRel n L M) {s : St} {l : List Int} (hs : SRel n s l) : LRel n (L ++ [s]) (M ++ [l]) := by
 refine ⟨by simp [h.len], fun i hi => ?_⟩
 have hl := h.len
 simp only [List.length_append, List.length_cons, List.length_nil] at hi
 by_cases e : i < L.length
 ·rw [gdp_l e, gdp_l (by omega)]; exact h.at' i e
 ·obtain rfl : i = L.length := by omega
  rw [gdp_r, hl, gdp_r]; exact hs
theorem LRel.add {n : Nat} {L : List St} {M : List (List Int)} (h : LRel n L M) {s : St} {l : List Int} (hs : SRel n s l) : LRel n (addSt L s) (addL M l) := by
 have h1 := (h.idx hs).2
 unfold addSt addL
 by_cases hm : s ∈ L
 ·rw [if_pos hm, if_pos (h1.1 hm)]; exact h
 ·rw [if_neg hm, if_neg (fun e => hm (h1.2 e))]; exact h.push hs
end Go.Proofs.YtkdolgnpkjihpaaGreatDoor
namespace Go.Proofs.YtkdolgnpkjihpaaGreatDoor
open _root_.Go.Proofs.Tryz
open Go.RowKit
set_option linter.unusedVariables false
set_option linter.unusedSimpArgs false
theorem idx_addL {l : List (List Int)} {s x : List Int} (h : x ∈ l) : idx (addL l s) x = idx l x := by
 unfold addL; split
 ·rfl
 ·have h1 := idx_lt h
  exact idx_at (by simp; omega) (by rw [gdp_l h1]; exact idx_get h) fun j hj e => idx_before hj (by omega) (by rw [gdp_l (by omega)] at e; exact e)
theorem mem_addL {l : List (List Int)} {s x : List Int} : x ∈ addL l s ↔ x ∈ l ∨ x = s := by
 unfold addL; split
 ·rename_i h
  constructor
  ·exact .inl
  ·rintro (h2 | rfl)
   ·exact h2
   ·exact h
 ·simp
theorem addL_nd {l : List (List Int)} {s : List Int} (h : l.Nodup) : (addL l s).Nodup := by
 unfold addL; split
 ·exact h
 ·rename_i h2
  exact List.nodup_append.2 ⟨h, by simp, fun a ha b hb e => by simp at hb; subst hb; subst e; exact h2 ha⟩
theorem sgK_sem (m : PM) (b : List Nat) : ∀ i, (sgK m b i).1.Nodup ∧ (∀ x, x ∈ (sgK m b i).1 ↔ ∃ j, j < i ∧ toInts (sgR m b j) = x) ∧ ∀ j, j < i → gd (sgK m b i).2 j = idx (sgK m b i).1 (toInts (sgR m b j))
 | 0 => ⟨.nil, fun x => ⟨(fun h => by cases h), fun ⟨j, h, _⟩ => absurd h (Nat.not_lt_zero _)⟩, fun j h => absurd h (Nat.not_lt_zero _)⟩
 | i + 1 => by
  obtain ⟨h1, h2, h3⟩ := sgK_sem m b i
  have hl := (sgK_len m b i).1
  rw [sgK_succ]
  refine ⟨addL_nd h1, fun x => ?_, fun j hj => ?_⟩
  ·show x ∈ addL _ _ ↔ _
   rw [mem_addL, h2]
   constructor
   ·rintro (⟨j, h4, h5⟩ | rfl)
    ·exact ⟨j, by omega, h5⟩
    ·exact ⟨i, by omega, rfl⟩
   ·rintro ⟨j, h4, h5⟩
    by_cases e : j = i
    ·subst e; exact .inr h5.symm
    ·exact .inl ⟨j, by omega, h5⟩
  ·show gd ((sgK m b i).2 ++ _) j = idx (addL _ _) _
   by_cases e : j < i
   ·rw [gdp_l (by omega), h3 j e, idx_addL ((h2 _).2 ⟨j, e, rfl⟩)]
   ·obtain rfl : j = i := by omega
    have e2 : gd ((sgK m b j).2 ++ [idx (sgK m b j).1 (toInts (sgR m b j))]) (sgK m b j).2.length = idx (sgK m b j).1 (toInts (sgR m b j)) := gdp_r
    rw [hl] at e2
    rw [e2]
    by_cases hm : toInts (sgR m b j) ∈ (sgK m b j).1
    ·rw [idx_addL hm]
    ·unfold addL; rw [if_neg hm, idx_app hm]
theorem sg_iff (m : PM) (b : List Nat) {n i k : Nat} (hi : i < n) (hk : k < n) : gd (sgK m b n).2 i = gd (sgK m b n).2 k ↔ sgR m b i = sgR m b k := by
 obtain ⟨h1, h2, h3⟩ := sgK_sem m b n
 rw [h3 i hi, h3 k hk]
 constructor
 ·intro e
  have a1 := idx_get ((h2 _).2 ⟨i, hi, rfl⟩)
  have a2 := idx_get ((h2 _).2 ⟨k, hk, rfl⟩)
  rw [e, a2] at a1
  exact (toInts_inj a1).symm
 ·intro e; rw [e]
theorem sgR_iff {m : PM} (hp : PMok m) (b : List Nat) {i k : Nat} (hi : i < m.next.length) (hk : k < m.next.length) : sgR m b i = sgR m b k ↔ gd b i = gd b k ∧ ∀ a, a < m.names.length + 1 → gd b (nx m i a) = gd b (nx m k a) := by
 have r1 := (hp.row _ (A1 hi)).1
 have r2 := (hp.row _ (A1 hk)).1
 unfold sgR
 rw [List.cons.injEq]
 refine and_congr_right fun _ => ?_
 constructor
 ·intro e a ha
  have e2 : gd ((gd m.next i).map (gd b)) a = gd ((gd m.next k).map (gd b)) a := by rw [e]
  rw [gd_map (by omega), gd_map (by omega)] at e2
  exact e2
 ·intro h
  refine list_eq (by simp [r1, r2]) fun j hj => ?_
  rw [List.length_map] at hj
  rw [gd_map hj, gd_map (by omega)]
  exact h j (by omega)
structure Cls (m : PM) (b : List Nat) : Prop where
 acc : ∀ i, i < m.next.length → ∀ k, k < m.next.length → gd b i = gd b k → gd m.acc i = gd m.acc k
 dst : ∀ i, i < m.next.length → ∀ k, k < m.next.length → ¬ gd b i = gd b k → Dst m i k
theorem Cls.next {m : PM} (hp : PMok m) {b : List Nat} (h : Cls m b) : Cls m (sgK m b m.next.length).2 := by
 refine ⟨fun i hi k hk e => ?_, fun i hi k hk e => ?_⟩
 ·exact h.acc i hi k hk ((sgR_iff hp b hi hk).1 ((sg_iff m b hi hk).1 e)).1
 ·by_cases e1 : gd b i = gd b k
  ·have h2 : ¬ ∀ a, a < m.names.length + 1 → gd b (nx m i a) = gd b (nx m k a) := fun h3 => e ((sg_iff m b hi hk).2 ((sgR_iff hp b hi hk).2 ⟨e1, h3⟩))
   obtain ⟨a, ha⟩ := Classical.not_forall.1 h2
   obtain ⟨ha1, ha2⟩ := Classical.not_imp.1 ha
   exact .step ha1 (h.dst _ (nx_lt hp hi ha1) _ (nx_lt hp hk ha1) ha2)
  ·exact h.dst i hi k hk e1
end Go.Proofs.YtkdolgnpkjihpaaGreatDoor
namespace Go.Proofs.YtkdolgnpkjihpaaGreatDoor
open _root_.Go.Proofs.Tryz
open Go.RowKit
set_option linter.unusedVariables false
set_option linter.unusedSimpArgs false
end Go.Proofs.YtkdolgnpkjihpaaGreatDoor
namespace Go.Proofs.YtkdolgnpkjihpaaGreatDoor
open _root_.Go.Proofs.Tryz
open Go.RowKit
set_option linter.unusedVariables false
set_option linter.unusedSimpArgs false
end Go.Proofs.YtkdolgnpkjihpaaGreatDoor
namespace Go.Proofs.YtkdolgnpkjihpaaGreatDoor
open _root_.Go.Proofs.Tryz
open Go.RowKit
set_option linter.unusedVariables false
set_option linter.unusedSimpArgs false
end Go.Proofs.YtkdolgnpkjihpaaGreatDoor
namespace Go.Proofs.YtkdolgnpkjihpaaGreatDoor
open _root_.Go.Proofs.Tryz
open Go.RowKit
set_option linter.unusedVariables false
set_option linter.unusedSimpArgs false
structure Vs where
 p : Pl
 q : Option Addr
 c : Nat
 l : List ByteArray
instance : Inhabited Vs := ⟨⟨(0, 0), none, 0, []⟩⟩
abbrev encVs (v : Vs) : List Value := [.int .i64 (v.p.1 : Int), .int .i64 (v.p.2 : Int), .slice v.q v.l.length v.c]
structure VT (vs : List Vs) (st : BS ByteArray) : Prop where
 len : vs.length = st.l.length
 at' : ∀ i, i < vs.length → (gd vs i).p = gd st.l i ∧ (gd vs i).l = pth st.w i
theorem VT.mem {vs : List Vs} {st : BS ByteArray} (h : VT vs st) (p : Pl) : p ∈ st.l ↔ ∃ j, j < vs.length ∧ (gd vs j).p = p := by
 constructor
 ·intro hp
  obtain ⟨j, hj, e⟩ := memPl hp
  exact ⟨j, by rw [h.len]; exact hj, by rw [(h.at' j (by rw [h.len]; exact hj)).1]; exact e⟩
 ·rintro ⟨j, hj, e⟩
  rw [← e, (h.at' j hj).1]
  exact A1 (by rw [← h.len]; exact hj)
theorem VT.start (p : Pl) : VT [⟨p, none, 0, []⟩] ⟨[p], [(-1, default)]⟩ := ⟨rfl, fun i hi => by
 simp at hi; subst hi
 exact ⟨rfl, rfl⟩⟩
theorem VT.old {Pd : Pl → Prop} {k k' : Nat} {st : BS ByteArray} {vs : List Vs} (h : VT vs st) {x : Pl × ByteArray} (hx : x.1 ∈ st.l) : VT vs (visF k st x) := by
 unfold visF; rw [if_pos hx]; exact h
theorem VT.new {Pd : Pl → Prop} {k k' : Nat} {st : BS ByteArray} {vs : List Vs} (h : VT vs st) (hb : BSok Pd k' st) (hk : k < st.l.length) {x : Pl × ByteArray} (hx : x.1 ∉ st.l) (q : Option Addr) (c : Nat) : VT (vs ++ [⟨x.1, q, c, (gd vs k).l ++ [x.2]⟩]) (visF k st x) := by
 have hw := hb.len
 have hl := h.len
 have hback : ∀ i, i < (st.w ++ [((k : Int), x.2)]).length → -1 ≤ (gd (st.w ++ [((k : Int), x.2)]) i).1 ∧ (gd (st.w ++ [((k : Int), x.2)]) i).1 < i := fun i hi => by
  by_cases e : i = st.w.length
  ·subst e; rw [Cq]; simp only []; omega
  ·have hi' : i < st.w.length := by simp at hi; omega
   rw [Cd hi']; exact hb.back i hi'
 unfold visF; rw [if_neg hx]
 refine ⟨by simp [hl], fun i hi => ?_⟩
 by_cases e : i = vs.length
 ·subst e
  rw [Cq]
  simp only []
  have e1 : gd (st.l ++ [x.1]) vs.length = x.1 := by rw [hl]; exact Cq
  refine ⟨e1.symm, ?_⟩
  have e2 : gd (st.w ++ [((k : Int), x.2)]) vs.length = ((k : Int), x.2) := by rw [hl, ← hw]; exact Cq
  rw [pth_snoc hback (by simp; omega) (by rw [e2]; simp only []; omega), e2]
  simp only [Int.toNat_natCast]
  rw [pth_app hb.back _ (by omega), (h.at' k (by omega)).2]
 ·have hi' : i < vs.length := by simp at hi; omega
  rw [Cd hi']
  simp only []
  rw [Cd (by omega), pth_app hb.back _ (by omega)]
  exact h.at' i hi'
structure VsOk (w0 : World) (M : List (Nat × Obj)) (vs : List Vs) (d : Sl) (st : BS ByteArray) : Prop where
 ok : SlOk d vs.length 3
 vr : VT vs st
 pa : ∀ u ∈ vs, ∀ X, Arr w0 (M ++ X) u.q 1 encS u.l
end Go.Proofs.YtkdolgnpkjihpaaGreatDoor
namespace Go.Proofs.YtkdolgnpkjihpaaGreatDoor
open _root_.Go.Proofs.Tryz
open Go.RowKit
set_option linter.unusedVariables false
set_option linter.unusedSimpArgs false
def OwnB (q : Option Addr) (c : Nat) (l : List ByteArray) (q' : Option Addr) (c' : Nat) (l' : List ByteArray) (M : List (Nat × Obj)) : Prop :=
 (q' = q ∧ c' = c ∧ l' = l) ∨ ∃ (d : Sl) (A B : List (Nat × Obj)), q' = slQ d ∧ c' = slC d ∧ SlOk d l'.length 1 ∧ M = A ++ (slH d (l'.flatMap encS) 9 ++ B)
theorem OwnB.trans {q q1 q2 : Option Addr} {c c1 c2 : Nat} {l l1 l2 : List ByteArray} {M M2 : List (Nat × Obj)} (h : OwnB q c l q1 c1 l1 M) (h2 : OwnB q1 c1 l1 q2 c2 l2 M2) : OwnB q c l q2 c2 l2 (M2 ++ M) := by
 rcases h2 with ⟨rfl, rfl, rfl⟩ | ⟨d, A, B, e1, e2, e3, rfl⟩
 ·rcases h with h | ⟨d, A, B, e1, e2, e3, rfl⟩
  ·exact .inl h
  ·exact .inr ⟨d, M2 ++ A, B, e1, e2, e3, by simp⟩
 ·exact .inr ⟨d, A, B ++ M, e1, e2, e3, by simp⟩
end Go.Proofs.YtkdolgnpkjihpaaGreatDoor
namespace Go.Proofs.YtkdolgnpkjihpaaGreatDoor
open _root_.Go.Proofs.Tryz
open Go.RowKit
set_option linter.unusedVariables false
set_option linter.unusedSimpArgs false
theorem oth_not {names : List ByteArray} (h : names.length < 100) : otherF names ∉ names := by
 intro hm
 have hm2 : toL (otherF names) ∈ names.map toL := List.mem_map_of_mem hm
 unfold otherF othN at hm2
 cases hf : (List.range 100).findSome? (fun k => if toL (othK k) ∈ names.map toL then none else some k) with
 | none =>
  have h1 := List.findSome?_eq_none_iff.1 hf
  have := oth_few (names := names) (k := 100) (Nat.le_refl _) fun j hj => by
   have h2 := h1 j (by simpa using hj)
   by_cases h3 : toL (othK j) ∈ names.map toL
   ·exact h3
   ·rw [if_neg h3] at h2; cases h2
  omega
 | some k =>
  rw [hf] at hm2
  obtain ⟨a, _, ha⟩ := List.exists_of_findSome?_eq_some hf
  by_cases h3 : toL (othK a) ∈ names.map toL
  ·rw [if_pos h3] at ha; cases ha
  ·rw [if_neg h3] at ha
   obtain rfl : a = k := Option.some.inj ha
   exact h3 hm2
theorem lett_not {names : List ByteArray} {s : ByteArray} (h : s ∉ names) : lett names s = names.length := by
 unfold lett
 rw [if_neg]
 rintro ⟨h1, h2⟩
 exact h (toL_inj h2 ▸ A1 h1)
open Classical in
noncomputable def toA (all : List ByteArray) (o s : ByteArray) : ByteArray := if s ∈ all then s else o
theorem after_toA {m : PM} {all : List ByteArray} {o : ByteArray} (hm : ∀ x ∈ m.names, x ∈ all) (ho : o ∉ all) (st : Nat) (s : ByteArray) : afterF m st (toA all o s) = afterF m st s := by
 unfold toA
 by_cases h : s ∈ all
 ·rw [if_pos h]
 ·rw [if_neg h]
  unfold afterF
  rw [lett_not (fun h2 => h (hm _ h2)), lett_not (fun h2 => ho (hm _ h2))]
theorem run_toA {m : PM} {all : List ByteArray} {o : ByteArray} (hm : ∀ x ∈ m.names, x ∈ all) (ho : o ∉ all) (l : List ByteArray) : runM m (l.map (toA all o)) = runM m l := by
 unfold runM
 suffices ∀ st, (l.map (toA all o)).foldl (afterF m) st = l.foldl (afterF m) st from this 0
 induction l with
 | nil => intro st; rfl
 | cons s l ih => intro st; rw [List.map_cons, List.foldl_cons, List.foldl_cons, after_toA hm ho]; exact ih _
theorem chnE_run {A B : PM} {all ls : List ByteArray} {q : Pl} (h : Chn (stepsF A B all) (0, 0) ls q) : q = (runM A ls, runM B ls) := by
 induction h with
 | nil => rfl
 | snoc hc hm ih =>
  unfold stepsF at hm
  obtain ⟨s', _, e⟩ := List.mem_map.1 hm
  obtain ⟨rfl, rfl⟩ := Prod.mk.inj e
  rw [ih, runM_snoc, runM_snoc]
theorem chnE_of {A B : PM} {all : List ByteArray} : ∀ {ls : List ByteArray}, (∀ s ∈ ls, s ∈ all) → Chn (stepsF A B all) (0, 0) ls (runM A ls, runM B ls) := by
 intro ls
 suffices ∀ n, ∀ ls : List ByteArray, ls.length = n → (∀ s ∈ ls, s ∈ all) → Chn (stepsF A B all) (0, 0) ls (runM A ls, runM B ls) from this _ ls U
 intro n
 induction n with
 | zero => intro ls hl _; have : ls = [] := List.eq_nil_of_length_eq_zero hl; subst this; exact .nil
 | succ n ih =>
  intro ls hl h
  rcases List.eq_nil_or_concat ls with rfl | ⟨l, s, rfl⟩
  ·simp at hl
  ·rw [List.concat_eq_append] at *
   rw [runM_snoc, runM_snoc]
   refine .snoc (ih l (by simpa using hl) fun x hx => h x (by simp [hx])) ?_
   unfold stepsF
   exact List.mem_map.2 ⟨s, h s (by simp), rfl⟩
def rkA (l : List ByteArray) (s : ByteArray) : Nat := (l.map toL).idxOf (toL s)
theorem idx_pw {l : List ByteArray} (h : l.Nodup) : l.Pairwise fun a b => rkA l a < rkA l b := by
 have hn : (l.map toL).Nodup := by
  rw [List.Nodup, List.pairwise_map]
  exact h.imp fun {a b} hab e => hab (toL_inj e)
 rw [List.pairwise_iff_getElem]
 intro i j hi hj hij
 have e : ∀ (i : Nat) (hi : i < l.length), rkA l l[i] = i := fun i hi => by
  unfold rkA
  have := hn.idxOf_getElem i (by simpa using hi)
  rw [List.getElem_map] at this; exact this
 rw [e i hi, e j hj]; exact hij
theorem srt_nodup {l : List ByteArray} (h : Srt l) : l.Nodup := h.imp fun {a b} hab e => by subst e; exact absurd hab (ltU_irrefl _)
theorem all_nodup {a b : Re} (h : (Re.alt a b).lv ≤ 64) : (allF a b).Nodup := by
 unfold allF
 rw [List.nodup_append]
 have := letF_few h
 refine ⟨srt_nodup (letF_srt _), by simp, fun x hx y hy e => ?_⟩
 simp at hy; subst hy; subst e
 exact oth_not (by omega) hx
theorem equal_sem {a b : Re} (hab : (Re.alt a b).lv ≤ 64) (h0 : (equalF a b).2.2 = 0) :
  ((equalF a b).2.1 = true → (equalF a b).1 = [] ∧ ∀ l, matchF a l = matchF b l) ∧ ((equalF a b).2.1 = false → matchF a (equalF a b).1 ≠ matchF b (equalF a b).1 ∧ (∀ l, matchF a l ≠ matchF b l → (equalF a b).1.length ≤ l.length)) := by
 have hlv : (Re.alt a b).lv = a.lv + b.lv := rfl
 have hla : a.lv ≤ 64 := by omega
 have hlb : b.lv ≤ 64 := by omega
 by_cases hok : (buildF leastF a).2 = 0 ∧ (buildF leastF b).2 = 0
 ·obtain ⟨h1, h2⟩ := hok
  obtain ⟨pa, sa⟩ := Cz hla h1
  obtain ⟨pb, sb⟩ := Cz hlb h2
  have hal := letF_few hab
  have hoth := oth_not (names := letF (.alt a b)) (by omega)
  have hna : ∀ x ∈ (buildF leastF a).1.names, x ∈ letF (.alt a b) := fun x hx => by
   rw [build_names h1, letF_mem] at hx; rw [letF_mem]; simp [Re.nms, hx]
  have hnb : ∀ x ∈ (buildF leastF b).1.names, x ∈ letF (.alt a b) := fun x hx => by
   rw [build_names h2, letF_mem] at hx; rw [letF_mem]; simp [Re.nms, hx]
  have hdif : ∀ l, difF (buildF leastF a).1 (buildF leastF b).1 (runM (buildF leastF a).1 l, runM (buildF leastF b).1 l) = (matchF a l != matchF b l) := fun l => by
   unfold difF; simp only []; rw [build_acc hla h1, build_acc hlb h2]
  have hany : ∀ l : List ByteArray, Chn (stepsF (buildF leastF a).1 (buildF leastF b).1 (allF a b)) (0, 0) (l.map (toA (letF (.alt a b)) (otherF (letF (.alt a b))))) (runM (buildF leastF a).1 l, runM (buildF leastF b).1 l) := fun l => by
   have := chnE_of (A := (buildF leastF a).1) (B := (buildF leastF b).1) (all := allF a b) (ls := l.map (toA (letF (.alt a b)) (otherF (letF (.alt a b))))) fun s hs => by
    obtain ⟨x, _, rfl⟩ := List.mem_map.1 hs
    unfold toA allF
    by_cases hx : x ∈ letF (.alt a b)
    ·rw [if_pos hx]; simp [hx]
    ·rw [if_neg hx]; simp
   rwa [run_toA hna hoth, run_toA hnb hoth] at this
  have he : equalF a b = ((eqR a b).1, !(eqR a b).2.1, 0) := if_pos ⟨h1, h2⟩
  have hts := fun p hp => steps_ok pa pb (allF a b) p hp
  have hr : ∀ p, DuOk (buildF leastF a).1 (buildF leastF b).1 p → (stepsF (buildF leastF a).1 (buildF leastF b).1 (allF a b) p).Pairwise fun x y => rkA (allF a b) x.2 < rkA (allF a b) y.2 := fun p _ => by
   unfold stepsF; rw [List.pairwise_map]; exact idx_pw (all_nodup hab)
  have hN : ∀ l : List Pl, l.Nodup → (∀ p ∈ l, DuOk (buildF leastF a).1 (buildF leastF b).1 p) → l.length ≤ (buildF leastF a).1.next.length * (buildF leastF b).1.next.length := fun l g1 g2 => grid_few g1 g2
  have hp0 : DuOk (buildF leastF a).1 (buildF leastF b).1 (0, 0) := ⟨pa.some', pb.some'⟩
  rw [he]
  simp only [Bool.not_eq_true', Bool.not_eq_false']
  refine ⟨fun hs => ?_, fun hs => ?_⟩
  ·obtain ⟨g1, _, g3⟩ := srF_no (rk := rkA (allF a b)) hts hr hN (difF (buildF leastF a).1 (buildF leastF b).1) hp0 hs
   refine ⟨g1, fun l => ?_⟩
   have := g3 _ _ (hany l)
   rw [hdif] at this
   simpa using this
  ·obtain ⟨⟨q, g1, g2⟩, g3⟩ := srF_yes (rk := rkA (allF a b)) hts hr hN (difF (buildF leastF a).1 (buildF leastF b).1) hp0 hs
   have hq := chnE_run g1
   refine ⟨?_, fun l hl => ?_⟩
   ·rw [hq, hdif] at g2
    simpa [eqR] using g2
   ·have := leL_len (g3 _ _ (hany l) (by rw [hdif]; simpa using hl))
    simpa [eqR] using this
 ·have he : equalF a b = ([], false, 2) := if_neg hok
  rw [he] at h0; cases h0
end Go.Proofs.YtkdolgnpkjihpaaGreatDoor
namespace Go.Proofs.YtkdolgnpkjihpaaGreatDoor
open _root_.Go.Proofs.Tryz
open Go.RowKit
set_option linter.unusedVariables false
set_option linter.unusedSimpArgs false
theorem VsOk.arr {w0 : World} {M X : List (Nat × Obj)} {vs : List Vs} {d : Sl} {st : BS ByteArray} (h : VsOk w0 M vs d st) : Arr w0 (slH d (vs.flatMap encVs) 121 ++ X) (slQ d) 3 encVs vs := Bz (fun _ => rfl) h.ok
theorem VsOk.old {w0 : World} {M : List (Nat × Obj)} {vs : List Vs} {d : Sl} {st : BS ByteArray} (h : VsOk w0 M vs d st) {k : Nat} {x : Pl × ByteArray} (hx : x.1 ∈ st.l) : VsOk w0 M vs d (visF k st x) := ⟨h.ok, h.vr.old (Pd := fun _ => True) (k' := 0) hx, h.pa⟩
theorem VsOk.new {w0 : World} {M M' : List (Nat × Obj)} {vs : List Vs} {d d' : Sl} {st : BS ByteArray} (h : VsOk w0 M vs d st) {Pd : Pl → Prop} {k k' : Nat} (hb : BSok Pd k' st) (hk : k < st.l.length) {x : Pl × ByteArray} (hx : x.1 ∉ st.l) {q : Option Addr} {c : Nat} (hd : SlOk d' (vs ++ [(⟨x.1, q, c, (gd vs k).l ++ [x.2]⟩ : Vs)]).length 3) (hs : M.Sublist M') (hA : ∀ X, Arr w0 (M' ++ X) q 1 encS ((gd vs k).l ++ [x.2])) : VsOk w0 M' (vs ++ [(⟨x.1, q, c, (gd vs k).l ++ [x.2]⟩ : Vs)]) d' (visF k st x) :=
 ⟨hd, h.vr.new (Pd := Pd) (k' := k') hb hk hx q c, fun u hu X => by
  rcases List.mem_append.1 hu with hu | hu
  ·exact (h.pa u hu X).mono (hs.append (List.Sublist.refl _))
  ·simp at hu; subst hu; exact hA X⟩
end Go.Proofs.YtkdolgnpkjihpaaGreatDoor
namespace Go.Proofs.YtkdolgnpkjihpaaGreatDoor
open _root_.Go.Proofs.Tryz
open Go.RowKit
set_option linter.unusedVariables false
set_option linter.unusedSimpArgs false
theorem equal_semE {a b : Re} {l : List ByteArray} {s : Bool} {c : Int} (he : equalF a b = (l, s, c)) (hab : (Re.alt a b).lv ≤ 64) (h : c = 0) : (s = true → l = [] ∧ ∀ x, matchF a x = matchF b x) ∧ (s = false → matchF a l ≠ matchF b l ∧ ∀ x, matchF a x ≠ matchF b x → l.length ≤ x.length) := by
 have := equal_sem hab (by rw [he]; exact h)
 rw [he] at this; exact this
end Go.Proofs.YtkdolgnpkjihpaaGreatDoor
