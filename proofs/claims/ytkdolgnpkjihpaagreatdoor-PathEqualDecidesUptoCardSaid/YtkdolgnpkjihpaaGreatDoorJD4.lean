/-
  A part of what LawD rests on: the logic, walks and plain laws. No condition.
-/
import Derived.Test.YtkdolgnpkjihpaaGreatDoorJD3
namespace Go.Proofs.YtkdolgnpkjihpaaGreatDoor
open _root_.Go.Proofs.Tryz
open Go.RowKit
set_option linter.unusedVariables false
set_option linter.unusedSimpArgs false
theorem bd58_0_1 (a0 : Option Addr) (a0n a0c : Nat) (a1 : Int) (w : World) : (Instr.build 58 #[(0, .slice a0 a0n a0c), (1, .int .i64 a1)]).run Tryz.prog w = .ok (.agg #[.slice a0 a0n a0c, .int .i64 a1]) w := by kernel_rfl
theorem bd58_1 (a0 : Int) (w : World) : (Instr.build 58 #[(1, .int .i64 a0)]).run Tryz.prog w = .ok (.agg #[.slice none 0 0, .int .i64 a0]) w := by kernel_rfl
theorem B7 (a0 : Int) (a1 : ByteArray) (a2 : Option Addr) (a2n a2c : Nat) (w : World) : (Instr.buildSlice 22 1 #[(0, .agg #[.int .i64 a0, .string a1, .slice a2 a2n a2c])]).run Tryz.prog w = .ok (.slice (some ⟨w.heap.size, 0, none⟩) 1 1) (w.alloc (Cl [.int .i64 a0, .string a1, .slice a2 a2n a2c] 24)) := by kernel_rfl
theorem bs25_2_0_1 (a0 : ByteArray) (a1 : ByteArray) (w : World) : (Instr.buildSlice 25 2 #[(0, .string a0), (1, .string a1)]).run Tryz.prog w = .ok (.slice (some ⟨w.heap.size, 0, none⟩) 2 2) (w.alloc (Cl [.string a0, .string a1] 9)) := by kernel_rfl
theorem bs25_3_0_1_2 (a0 : ByteArray) (a1 : ByteArray) (a2 : ByteArray) (w : World) : (Instr.buildSlice 25 3 #[(0, .string a0), (1, .string a1), (2, .string a2)]).run Tryz.prog w = .ok (.slice (some ⟨w.heap.size, 0, none⟩) 3 3) (w.alloc (Cl [.string a0, .string a1, .string a2] 9)) := by kernel_rfl
theorem bs42_3_0_1_2 (a0 : Int) (a1 : Int) (a2 : Int) (w : World) : (Instr.buildSlice 42 3 #[(0, .int .i64 a0), (1, .int .i64 a1), (2, .int .i64 a2)]).run Tryz.prog w = .ok (.slice (some ⟨w.heap.size, 0, none⟩) 3 3) (w.alloc (Cl [.int .i64 a0, .int .i64 a1, .int .i64 a2] 3)) := by kernel_rfl
theorem still_v {P : Program} {w0 : World} {f : FuncId} {args : Array Value} {H : List (Nat × Obj)} {b c : Value} (e : b = c) (h : FSpec P w0 f args H (Still b H)) : FSpec P w0 f args H (Still c H) := e ▸ h
theorem rxx_own {w0 : World} {H H' : List (Nat × Obj)} {n27 n31 n34 n37 : Nat} (h1 : Fnd H n27 (Cl (encRx (.mk 3 ⟨#[]⟩ none 0 [])) 24)) (h2 : Fnd H n31 (Cl (encRx (.mk 2 ⟨#[97]⟩ none 0 []) ++ encRx (.mk 6 ⟨#[]⟩ (some ⟨n27, 0, none⟩) 1 [(.mk 3 ⟨#[]⟩ none 0 [])])) 24)) (h3 : Fnd H n34 (Cl (encRx (.mk 4 ⟨#[]⟩ (some ⟨n31, 0, none⟩) 2 [(.mk 2 ⟨#[97]⟩ none 0 []), (.mk 6 ⟨#[]⟩ (some ⟨n27, 0, none⟩) 1 [(.mk 3 ⟨#[]⟩ none 0 [])])]) ++ encRx (.mk 2 ⟨#[99]⟩ none 0 [])) 24)) (h4 : Fnd H n37 (Cl (encRx (.mk 4 ⟨#[]⟩ (some ⟨n34, 0, none⟩) 2 [(.mk 4 ⟨#[]⟩ (some ⟨n31, 0, none⟩) 2 [(.mk 2 ⟨#[97]⟩ none 0 []), (.mk 6 ⟨#[]⟩ (some ⟨n27, 0, none⟩) 1 [(.mk 3 ⟨#[]⟩ none 0 [])])]), (.mk 2 ⟨#[99]⟩ none 0 [])]) ++ encRx (.mk 6 ⟨#[]⟩ (some ⟨n27, 0, none⟩) 1 [(.mk 3 ⟨#[]⟩ none 0 [])])) 24)) (hs : H.Sublist H') : RxM w0 H' (.mk 4 ⟨#[]⟩ (some ⟨n37, 0, none⟩) 2 [(.mk 4 ⟨#[]⟩ (some ⟨n34, 0, none⟩) 2 [(.mk 4 ⟨#[]⟩ (some ⟨n31, 0, none⟩) 2 [(.mk 2 ⟨#[97]⟩ none 0 []), (.mk 6 ⟨#[]⟩ (some ⟨n27, 0, none⟩) 1 [(.mk 3 ⟨#[]⟩ none 0 [])])]), (.mk 2 ⟨#[99]⟩ none 0 [])]), (.mk 6 ⟨#[]⟩ (some ⟨n27, 0, none⟩) 1 [(.mk 3 ⟨#[]⟩ none 0 [])])]) :=
 (rx2 (rx2 (rx2 rx0 (rx1 rx0 h1) h2) rx0 h3) (rx1 rx0 h1) h4).mono hs
theorem sRe' {m : Mc} (h : m.pl = sM) (n1 n2 n3 : Nat) : decide (RefOk (exN n1 n2 n3) ⟨none, 0, [], -1⟩ m.pl 1 3 ([(0, 2), (1, 2), (2, 2), (3, 2)].map toI)) = true := by rw [h]; exact sRe n1 n2 n3 _ _
set_option maxHeartbeats 2000000 in
theorem sanity_s {w0 : World} {H : List (Nat × Obj)}  :
  FSpec Tryz.prog w0 11 #[] H (Still (.bool true) H) := by
 refine Bc Tryz.func11 U ntmps11 U (Ag (Ab (y_ (Ad Ak) (Af (Ae (Ag (Ab (e_ (Au .nil call43 (example_s)) ?_ U))))) U)))
 rintro _ _ ⟨⟨x1, x2, x3⟩, rfl, rfl⟩
 refine e_ (Aq zeroValue56 cs_) ?_ U
 rintro _ _ ⟨n1, rfl, rfl⟩
 first | refine A6 (As (T U) (T U) sizeOf56) U Ah ?_
 rintro _ _ ⟨rfl, rfl⟩
 refine Af (Ae (Ag (Ab (y_ (Av .nil call44 (fun H' hs => some_s)) (e_ (Al (.cons (T U) .nil) (B7 _ _ _ _ _)) ?_ U) U))))
 rintro _ _ ⟨n27, rfl, rfl⟩
 refine y_ (Av (.cons Ak (.cons (T U) .nil)) call26 (fun H' hs => Co 6 (some ⟨n27, 0, none⟩) [(.mk 3 ⟨#[]⟩ none 0 [])] 1)) (e_ (Aq zeroValue24 cs_) ?_ U) U
 rintro _ _ ⟨n2, rfl, rfl⟩
 first | refine A6 (As (T U) (T U) sizeOf24) U Ah ?_
 rintro _ _ ⟨rfl, rfl⟩
 refine Af (Ae ?_)
 refine Du (X := Nat × Nat × Nat × Nat) (V := fun ⟨n3, n31, n34, n37⟩ => [(3, .pointer (some ⟨n3, 0, none⟩))]) (C := [(1, _), (2, _)]) (G := fun ⟨n3, n31, n34, n37⟩ => (n3, Cl (encRx (.mk 4 ⟨#[]⟩ (some ⟨n37, 0, none⟩) 2 [(.mk 4 ⟨#[]⟩ (some ⟨n34, 0, none⟩) 2 [(.mk 4 ⟨#[]⟩ (some ⟨n31, 0, none⟩) 2 [(.mk 2 ⟨#[97]⟩ none 0 []), (.mk 6 ⟨#[]⟩ (some ⟨n27, 0, none⟩) 1 [(.mk 3 ⟨#[]⟩ none 0 [])])]), (.mk 2 ⟨#[99]⟩ none 0 [])]), (.mk 6 ⟨#[]⟩ (some ⟨n27, 0, none⟩) 1 [(.mk 3 ⟨#[]⟩ none 0 [])])])) 24) :: (n37, Cl (encRx (.mk 4 ⟨#[]⟩ (some ⟨n34, 0, none⟩) 2 [(.mk 4 ⟨#[]⟩ (some ⟨n31, 0, none⟩) 2 [(.mk 2 ⟨#[97]⟩ none 0 []), (.mk 6 ⟨#[]⟩ (some ⟨n27, 0, none⟩) 1 [(.mk 3 ⟨#[]⟩ none 0 [])])]), (.mk 2 ⟨#[99]⟩ none 0 [])]) ++ encRx (.mk 6 ⟨#[]⟩ (some ⟨n27, 0, none⟩) 1 [(.mk 3 ⟨#[]⟩ none 0 [])])) 24) :: (n34, Cl (encRx (.mk 4 ⟨#[]⟩ (some ⟨n31, 0, none⟩) 2 [(.mk 2 ⟨#[97]⟩ none 0 []), (.mk 6 ⟨#[]⟩ (some ⟨n27, 0, none⟩) 1 [(.mk 3 ⟨#[]⟩ none 0 [])])]) ++ encRx (.mk 2 ⟨#[99]⟩ none 0 [])) 24) :: (n31, Cl (encRx (.mk 2 ⟨#[97]⟩ none 0 []) ++ encRx (.mk 6 ⟨#[]⟩ (some ⟨n27, 0, none⟩) 1 [(.mk 3 ⟨#[]⟩ none 0 [])])) 24) :: (n2, Cl (encRx (.mk 6 ⟨#[]⟩ (some ⟨n27, 0, none⟩) 1 [(.mk 3 ⟨#[]⟩ none 0 [])])) 24) :: (n27, Cl (encRx (.mk 3 ⟨#[]⟩ none 0 [])) 24) :: (n1, Cl (encNn (exN x1 x2 x3)) 56) :: (x3, Cl (exEdges.flatMap encE) 154) :: (x2, Cl (exLinks.flatMap encLn) 71) :: (x1, Cl (exK 4) 138) :: H) (φ := fun ⟨n3, n31, n34, n37⟩ => True) ⟨Aa rfl, Aa rfl, trivial⟩ ?_ ?_
 ·refine j_anyX 11 _ mixd (by kernel_rfl) sb0 ?_
  refine x_y (i := 0) U (by kernel_rfl) (Av (.cons Ak .nil) call45 (fun H' hs => node_s ⟨#[97]⟩)) ?_ U Ah
  refine x_y (i := 1) U (by kernel_rfl) (Am (T U) isAgg24 sizeOf24 U (by first | exact Bf)) ?_ U Ah
  refine x_y (i := 7) U (by kernel_rfl) (Am (T U) isAgg24 sizeOf24 U (by first | exact Bf)) ?_ U Ah
  refine Db (i := 2) (j := 10) (by kernel_rfl) (by kernel_rfl) ?_ ?_
  ·refine B0 U (Al (.cons (T U) (.cons (T U) .nil)) (Ca _ _ _ _ _ _ _ _ _ _)) ?_ U Ah
   rintro _ _ ⟨n31, rfl, rfl⟩
   refine ⟨sbt, (x_y (i := 3) U (by kernel_rfl) (Av (.cons Ak (.cons (T U) .nil)) call26 (fun H' hs => Co 4 (some ⟨n31, 0, none⟩) [(.mk 2 ⟨#[97]⟩ none 0 []), (.mk 6 ⟨#[]⟩ (some ⟨n27, 0, none⟩) 1 [(.mk 3 ⟨#[]⟩ none 0 [])])] 2)) ?_ U Ah)⟩
   refine x_y (i := 4) U (by kernel_rfl) (Av (.cons Ak .nil) call45 (fun H' hs => node_s ⟨#[99]⟩)) ?_ U Ah
   refine Db (i := 5) (j := 10) (by kernel_rfl) (by kernel_rfl) ?_ ?_
   ·refine B0 U (Al (.cons (T U) (.cons (T U) .nil)) (Ca _ _ _ _ _ _ _ _ _ _)) ?_ U Ah
    rintro _ _ ⟨n34, rfl, rfl⟩
    refine ⟨sbt, (x_y (i := 6) U (by kernel_rfl) (Av (.cons Ak (.cons (T U) .nil)) call26 (fun H' hs => Co 4 (some ⟨n34, 0, none⟩) [(.mk 4 ⟨#[]⟩ (some ⟨n31, 0, none⟩) 2 [(.mk 2 ⟨#[97]⟩ none 0 []), (.mk 6 ⟨#[]⟩ (some ⟨n27, 0, none⟩) 1 [(.mk 3 ⟨#[]⟩ none 0 [])])]), (.mk 2 ⟨#[99]⟩ none 0 [])] 2)) ?_ U Ah)⟩
    refine Db (i := 8) (j := 10) (by kernel_rfl) (by kernel_rfl) ?_ ?_
    ·refine B0 U (Al (.cons (T U) (.cons (T U) .nil)) (Ca _ _ _ _ _ _ _ _ _ _)) ?_ U Ah
     rintro _ _ ⟨n37, rfl, rfl⟩
     refine ⟨sbt, (x_y (i := 9) U (by kernel_rfl) (Av (.cons Ak (.cons (T U) .nil)) call26 (fun H' hs => Co 4 (some ⟨n37, 0, none⟩) [(.mk 4 ⟨#[]⟩ (some ⟨n34, 0, none⟩) 2 [(.mk 4 ⟨#[]⟩ (some ⟨n31, 0, none⟩) 2 [(.mk 2 ⟨#[97]⟩ none 0 []), (.mk 6 ⟨#[]⟩ (some ⟨n27, 0, none⟩) 1 [(.mk 3 ⟨#[]⟩ none 0 [])])]), (.mk 2 ⟨#[99]⟩ none 0 [])]), (.mk 6 ⟨#[]⟩ (some ⟨n27, 0, none⟩) 1 [(.mk 3 ⟨#[]⟩ none 0 [])])] 2)) ?_ U Ah)⟩
     refine B4 (i := 10) (by kernel_rfl) (by kernel_rfl) ?_
     refine B0 U (Aq zeroValue24 cs_) ?_ U Ah
     rintro _ _ ⟨n3, rfl, rfl⟩
     refine ⟨sbt, (Cn (by kernel_rfl) U ?_)⟩
     first | refine A6 (As (T U) (T U) sizeOf24) U Ah ?_
     rintro _ _ ⟨rfl, rfl⟩
     refine Af ?_
     first | (refine Bp ((n3, n31, n34, n37)) ?_ ⟨atd, trivial⟩ ⟨Aa U, Aa U, trivial⟩ (List.Sublist.refl _)) | (refine Ch (List.Perm.swap _ _ _) ?_; refine Bp ((n3, n31, n34, n37)) ?_ ⟨atd, trivial⟩ ⟨Aa U, Aa U, trivial⟩ (List.Sublist.refl _)) | (refine Ch ((List.Perm.cons _ (List.Perm.swap _ _ _)).trans (List.Perm.swap _ _ _)) ?_; refine Bp ((n3, n31, n34, n37)) ?_ ⟨atd, trivial⟩ ⟨Aa U, Aa U, trivial⟩ (List.Sublist.refl _)) | (refine Ch ((List.Perm.cons _ (List.Perm.cons _ (List.Perm.swap _ _ _))).trans ((List.Perm.cons _ (List.Perm.swap _ _ _)).trans (List.Perm.swap _ _ _))) ?_; refine Bp ((n3, n31, n34, n37)) ?_ ⟨atd, trivial⟩ ⟨Aa U, Aa U, trivial⟩ (List.Sublist.refl _))
     trivial
    ·refine B0 U (Aq zeroValue24 cs_) ?_ U Ah
     rintro _ _ ⟨n3, rfl, rfl⟩
     refine ⟨sbt, (B4 (i := 8) (by kernel_rfl) (by kernel_rfl) ?_)⟩
     refine B0 U (Al (.cons (T U) (.cons (T U) .nil)) (Ca _ _ _ _ _ _ _ _ _ _)) ?_ U Ah
     rintro _ _ ⟨n37, rfl, rfl⟩
     refine ⟨sbt, (x_y (i := 9) U (by kernel_rfl) (Av (.cons Ak (.cons (T U) .nil)) call26 (fun H' hs => Co 4 (some ⟨n37, 0, none⟩) [(.mk 4 ⟨#[]⟩ (some ⟨n34, 0, none⟩) 2 [(.mk 4 ⟨#[]⟩ (some ⟨n31, 0, none⟩) 2 [(.mk 2 ⟨#[97]⟩ none 0 []), (.mk 6 ⟨#[]⟩ (some ⟨n27, 0, none⟩) 1 [(.mk 3 ⟨#[]⟩ none 0 [])])]), (.mk 2 ⟨#[99]⟩ none 0 [])]), (.mk 6 ⟨#[]⟩ (some ⟨n27, 0, none⟩) 1 [(.mk 3 ⟨#[]⟩ none 0 [])])] 2)) ?_ U Ah)⟩
     refine Cn (by kernel_rfl) U ?_
     first | refine A6 (As (T U) (T U) sizeOf24) U Ah ?_
     rintro _ _ ⟨rfl, rfl⟩
     refine Af ?_
     first | (refine Bp ((n3, n31, n34, n37)) ?_ ⟨atd, trivial⟩ ⟨Aa U, Aa U, trivial⟩ (List.Sublist.refl _)) | (refine Ch (List.Perm.swap _ _ _) ?_; refine Bp ((n3, n31, n34, n37)) ?_ ⟨atd, trivial⟩ ⟨Aa U, Aa U, trivial⟩ (List.Sublist.refl _)) | (refine Ch ((List.Perm.cons _ (List.Perm.swap _ _ _)).trans (List.Perm.swap _ _ _)) ?_; refine Bp ((n3, n31, n34, n37)) ?_ ⟨atd, trivial⟩ ⟨Aa U, Aa U, trivial⟩ (List.Sublist.refl _)) | (refine Ch ((List.Perm.cons _ (List.Perm.cons _ (List.Perm.swap _ _ _))).trans ((List.Perm.cons _ (List.Perm.swap _ _ _)).trans (List.Perm.swap _ _ _))) ?_; refine Bp ((n3, n31, n34, n37)) ?_ ⟨atd, trivial⟩ ⟨Aa U, Aa U, trivial⟩ (List.Sublist.refl _))
     trivial
   ·refine B0 U (Aq zeroValue24 cs_) ?_ U Ah
    rintro _ _ ⟨n3, rfl, rfl⟩
    refine ⟨sbt, (B4 (i := 5) (by kernel_rfl) (by kernel_rfl) ?_)⟩
    refine B0 U (Al (.cons (T U) (.cons (T U) .nil)) (Ca _ _ _ _ _ _ _ _ _ _)) ?_ U Ah
    rintro _ _ ⟨n34, rfl, rfl⟩
    refine ⟨sbt, (x_y (i := 6) U (by kernel_rfl) (Av (.cons Ak (.cons (T U) .nil)) call26 (fun H' hs => Co 4 (some ⟨n34, 0, none⟩) [(.mk 4 ⟨#[]⟩ (some ⟨n31, 0, none⟩) 2 [(.mk 2 ⟨#[97]⟩ none 0 []), (.mk 6 ⟨#[]⟩ (some ⟨n27, 0, none⟩) 1 [(.mk 3 ⟨#[]⟩ none 0 [])])]), (.mk 2 ⟨#[99]⟩ none 0 [])] 2)) ?_ U Ah)⟩
    refine B4 (i := 8) (by kernel_rfl) (by kernel_rfl) ?_
    refine B0 U (Al (.cons (T U) (.cons (T U) .nil)) (Ca _ _ _ _ _ _ _ _ _ _)) ?_ U Ah
    rintro _ _ ⟨n37, rfl, rfl⟩
    refine ⟨sbt, (x_y (i := 9) U (by kernel_rfl) (Av (.cons Ak (.cons (T U) .nil)) call26 (fun H' hs => Co 4 (some ⟨n37, 0, none⟩) [(.mk 4 ⟨#[]⟩ (some ⟨n34, 0, none⟩) 2 [(.mk 4 ⟨#[]⟩ (some ⟨n31, 0, none⟩) 2 [(.mk 2 ⟨#[97]⟩ none 0 []), (.mk 6 ⟨#[]⟩ (some ⟨n27, 0, none⟩) 1 [(.mk 3 ⟨#[]⟩ none 0 [])])]), (.mk 2 ⟨#[99]⟩ none 0 [])]), (.mk 6 ⟨#[]⟩ (some ⟨n27, 0, none⟩) 1 [(.mk 3 ⟨#[]⟩ none 0 [])])] 2)) ?_ U Ah)⟩
    refine Cn (by kernel_rfl) U ?_
    first | refine A6 (As (T U) (T U) sizeOf24) U Ah ?_
    rintro _ _ ⟨rfl, rfl⟩
    refine Af ?_
    first | (refine Bp ((n3, n31, n34, n37)) ?_ ⟨atd, trivial⟩ ⟨Aa U, Aa U, trivial⟩ (List.Sublist.refl _)) | (refine Ch (List.Perm.swap _ _ _) ?_; refine Bp ((n3, n31, n34, n37)) ?_ ⟨atd, trivial⟩ ⟨Aa U, Aa U, trivial⟩ (List.Sublist.refl _)) | (refine Ch ((List.Perm.cons _ (List.Perm.swap _ _ _)).trans (List.Perm.swap _ _ _)) ?_; refine Bp ((n3, n31, n34, n37)) ?_ ⟨atd, trivial⟩ ⟨Aa U, Aa U, trivial⟩ (List.Sublist.refl _)) | (refine Ch ((List.Perm.cons _ (List.Perm.cons _ (List.Perm.swap _ _ _))).trans ((List.Perm.cons _ (List.Perm.swap _ _ _)).trans (List.Perm.swap _ _ _))) ?_; refine Bp ((n3, n31, n34, n37)) ?_ ⟨atd, trivial⟩ ⟨Aa U, Aa U, trivial⟩ (List.Sublist.refl _))
    trivial
  ·refine B0 U (Aq zeroValue24 cs_) ?_ U Ah
   rintro _ _ ⟨n3, rfl, rfl⟩
   refine ⟨sbt, (B4 (i := 2) (by kernel_rfl) (by kernel_rfl) ?_)⟩
   refine B0 U (Al (.cons (T U) (.cons (T U) .nil)) (Ca _ _ _ _ _ _ _ _ _ _)) ?_ U Ah
   rintro _ _ ⟨n31, rfl, rfl⟩
   refine ⟨sbt, (x_y (i := 3) U (by kernel_rfl) (Av (.cons Ak (.cons (T U) .nil)) call26 (fun H' hs => Co 4 (some ⟨n31, 0, none⟩) [(.mk 2 ⟨#[97]⟩ none 0 []), (.mk 6 ⟨#[]⟩ (some ⟨n27, 0, none⟩) 1 [(.mk 3 ⟨#[]⟩ none 0 [])])] 2)) ?_ U Ah)⟩
   refine x_y (i := 4) U (by kernel_rfl) (Av (.cons Ak .nil) call45 (fun H' hs => node_s ⟨#[99]⟩)) ?_ U Ah
   refine B4 (i := 5) (by kernel_rfl) (by kernel_rfl) ?_
   refine B0 U (Al (.cons (T U) (.cons (T U) .nil)) (Ca _ _ _ _ _ _ _ _ _ _)) ?_ U Ah
   rintro _ _ ⟨n34, rfl, rfl⟩
   refine ⟨sbt, (x_y (i := 6) U (by kernel_rfl) (Av (.cons Ak (.cons (T U) .nil)) call26 (fun H' hs => Co 4 (some ⟨n34, 0, none⟩) [(.mk 4 ⟨#[]⟩ (some ⟨n31, 0, none⟩) 2 [(.mk 2 ⟨#[97]⟩ none 0 []), (.mk 6 ⟨#[]⟩ (some ⟨n27, 0, none⟩) 1 [(.mk 3 ⟨#[]⟩ none 0 [])])]), (.mk 2 ⟨#[99]⟩ none 0 [])] 2)) ?_ U Ah)⟩
   refine B4 (i := 8) (by kernel_rfl) (by kernel_rfl) ?_
   refine B0 U (Al (.cons (T U) (.cons (T U) .nil)) (Ca _ _ _ _ _ _ _ _ _ _)) ?_ U Ah
   rintro _ _ ⟨n37, rfl, rfl⟩
   refine ⟨sbt, (x_y (i := 9) U (by kernel_rfl) (Av (.cons Ak (.cons (T U) .nil)) call26 (fun H' hs => Co 4 (some ⟨n37, 0, none⟩) [(.mk 4 ⟨#[]⟩ (some ⟨n34, 0, none⟩) 2 [(.mk 4 ⟨#[]⟩ (some ⟨n31, 0, none⟩) 2 [(.mk 2 ⟨#[97]⟩ none 0 []), (.mk 6 ⟨#[]⟩ (some ⟨n27, 0, none⟩) 1 [(.mk 3 ⟨#[]⟩ none 0 [])])]), (.mk 2 ⟨#[99]⟩ none 0 [])]), (.mk 6 ⟨#[]⟩ (some ⟨n27, 0, none⟩) 1 [(.mk 3 ⟨#[]⟩ none 0 [])])] 2)) ?_ U Ah)⟩
   refine Cn (by kernel_rfl) U ?_
   first | refine A6 (As (T U) (T U) sizeOf24) U Ah ?_
   rintro _ _ ⟨rfl, rfl⟩
   refine Af ?_
   first | (refine Bp ((n3, n31, n34, n37)) ?_ ⟨atd, trivial⟩ ⟨Aa U, Aa U, trivial⟩ (List.Sublist.refl _)) | (refine Ch (List.Perm.swap _ _ _) ?_; refine Bp ((n3, n31, n34, n37)) ?_ ⟨atd, trivial⟩ ⟨Aa U, Aa U, trivial⟩ (List.Sublist.refl _)) | (refine Ch ((List.Perm.cons _ (List.Perm.swap _ _ _)).trans (List.Perm.swap _ _ _)) ?_; refine Bp ((n3, n31, n34, n37)) ?_ ⟨atd, trivial⟩ ⟨Aa U, Aa U, trivial⟩ (List.Sublist.refl _)) | (refine Ch ((List.Perm.cons _ (List.Perm.cons _ (List.Perm.swap _ _ _))).trans ((List.Perm.cons _ (List.Perm.swap _ _ _)).trans (List.Perm.swap _ _ _))) ?_; refine Bp ((n3, n31, n34, n37)) ?_ ⟨atd, trivial⟩ ⟨Aa U, Aa U, trivial⟩ (List.Sublist.refl _))
   trivial
 rintro ⟨n3, n31, n34, n37⟩ _
 refine Ag (Ab (y_ (Am (T U) isAgg24 sizeOf24 U (by first | exact Bf)) ?_ U))
 refine e_ (Au (.cons (T U) .nil) call12 (buildM_s (e := sX) (.mk 4 ⟨#[]⟩ (some ⟨n37, 0, none⟩) 2 [(.mk 4 ⟨#[]⟩ (some ⟨n34, 0, none⟩) 2 [(.mk 4 ⟨#[]⟩ (some ⟨n31, 0, none⟩) 2 [(.mk 2 ⟨#[97]⟩ none 0 []), (.mk 6 ⟨#[]⟩ (some ⟨n27, 0, none⟩) 1 [(.mk 3 ⟨#[]⟩ none 0 [])])]), (.mk 2 ⟨#[99]⟩ none 0 [])]), (.mk 6 ⟨#[]⟩ (some ⟨n27, 0, none⟩) 1 [(.mk 3 ⟨#[]⟩ none 0 [])])]) (.seq (.seq (.seq (.nod (by decide)) (.star .any)) (.nod (by decide))) (.star .any)) (rx2 (rx2 (rx2 rx0 (rx1 rx0)) rx0) (rx1 rx0)) (by decide) sX_build)) ?_ U
 rintro _ _ ⟨m1, M1, ⟨rfl, hp1, hm1⟩, rfl⟩
 have hr1 : m1.rows.length = 4 := by have := congrArg (fun p => p.next.length) hp1; simpa [Mc.pl, sM] using this
 have hk1 : PMok m1.pl := by rw [hp1]; exact sM_ok
 have hs1 : Srt m1.names := by have := congrArg PM.names hp1; simp only [Mc.pl] at this; rw [this]; exact sM_srt
 have hn1 : m1.names.length = 2 := by have := congrArg (fun p => p.names.length) hp1; simpa [Mc.pl, sM] using this
 refine y_ (Ac (T U)) (y_ (Ba (T U) U) (y_ (Ba (T U) U) (e_ (Aq zeroValue29 cs_) ?_ U) U) U) U
 rintro _ _ ⟨n4, rfl, rfl⟩
 first | refine A6 (As (T U) (T U) sizeOf29) U Ah ?_
 rintro _ _ ⟨rfl, rfl⟩
 refine y_ (Ad (T U)) (Af (Ae (Ag (Ab (y_ (Am (T U) isAgg24 sizeOf24 U (by first | exact Bf)) ?_ U))))) U
 refine e_ (Au (.cons (T U) .nil) call12 (buildM_s (e := sany) (.mk 6 ⟨#[]⟩ (some ⟨n27, 0, none⟩) 1 [(.mk 3 ⟨#[]⟩ none 0 [])]) (.star .any) (rx1 rx0) (by decide) sA_build)) ?_ U
 rintro _ _ ⟨m2, M2, ⟨rfl, hp2, hm2⟩, rfl⟩
 have hr2 : m2.rows.length = 1 := by have := congrArg (fun p => p.next.length) hp2; simpa [Mc.pl] using this
 refine y_ (Ac (T U)) (y_ (Ba (T U) U) (y_ (Ba (T U) U) (e_ (Aq zeroValue29 cs_) ?_ U) U) U) U
 rintro _ _ ⟨n6, rfl, rfl⟩
 first | refine A6 (As (T U) (T U) sizeOf29) U Ah ?_
 rintro _ _ ⟨rfl, rfl⟩
 refine y_ (Ad (T U)) (Af (Ae (Ag (Ag (Ab (y_ (Ac (T U)) (y_ (Cy (T U) Ak) (y_ (Ac (T U)) (Be (Ac (T U)) U (Ar U U (Aa U)) (Be (Cy (T U) Ak) U (Ar U U (Aa U)) (y_ (A9 (T U) (T U)) (y_ (Ac (T U)) (Be (Bg (T U) C2) U (Ar U U (Aa U)) (Be (Aj (T U) isAgg26 (by first | exact c_o)) U (Ar U U (Aa U)) ?_)) U) U))) U) U) U)))))) U
 refine Be (Bn (T U) runUnderlying26) U (Ar U U (Aa U)) (Be (Cy (T U) Ak) U (Ar U U (Aa U)) (y_ (A9 (T U) (T U)) (y_ (Ac (T U)) ?_ U) U))
 first | refine Cb (s := 61) (Aa U) (fun c61 => ?_) (fun c61 => ?_) | refine Cu (s := 61) (Aa U) (fun c61 => ?_) (fun c61 => ?_)
 ·exfalso; omega
 ·refine Be (Bg (T U) C2) U (Ar U U (Aa U)) (Be (Aj (T U) isAgg26 (by first | exact c_o)) U (Ar U U (Aa U)) ?_)
  refine Be (Bn (T U) runUnderlying26) U (Ar U U (Aa U)) (Be (Cy (T U) Ak) U (Ar U U (Aa U)) (y_ (A9 (T U) (T U)) (y_ (Ac (T U)) ?_ U) U))
  first | refine Cb (s := 67) (Aa U) (fun c67 => ?_) (fun c67 => ?_) | refine Cu (s := 67) (Aa U) (fun c67 => ?_) (fun c67 => ?_)
  ·exfalso; omega
  ·refine Be (Am (T U) isAgg29 sizeOf29 U (by first | exact Bf)) U (Ar U U (Aa U)) ?_
   refine Be (Av (.cons (T U) .nil) call18 (fun H' hs => chkM_s m1 (hm1.mono (List.Sublist.trans sbt hs)) hk1 hs1 (by omega))) U (Ar U U (Aa U)) ?_
   refine Be (C1 (T U)) U (Ar U U (Aa U)) (y_ (A9 (T U) (T U)) (y_ (Ac (T U)) (Be (Bq .nil (bd29_z)) U (Ar U U (Aa U)) (Be (Av (.cons (T U) .nil) call18 (fun H' hs => still_b (c := false) (b := chkI ⟨[], [], [], none, 0, none, 0, none, 0⟩) (by decide) (pcheck_s ⟨[], [], [], none, 0, none, 0, none, 0⟩ ⟨fun i x hi => (by cases hi), fun i x hi => (by cases hi), fun i x hi => (by cases hi), fun r hr => (by cases hr), by decide, by decide, fun r hr => (by cases hr)⟩))) U (Ar U U (Aa U)) ?_)) U) U)
   refine y_ (A9 (T U) (T U)) (y_ (Ac (T U)) (Be (Am (T U) isAgg24 sizeOf24 U (by first | exact Bf)) U (Ar U U (Aa U)) ?_) U) U
   refine A6 (Al (.cons Ak (.cons Ak .nil)) (bs25_2_0_1 _ _)) U (Ar U U (Aa U)) ?_
   rintro _ _ ⟨n78, rfl, rfl⟩
   refine Be (Av (.cons (T rfl) (.cons (T rfl) .nil)) call16 (fun H' hs => still_b sM1 (match_s (.mk 4 ⟨#[]⟩ (some ⟨n37, 0, none⟩) 2 [(.mk 4 ⟨#[]⟩ (some ⟨n34, 0, none⟩) 2 [(.mk 4 ⟨#[]⟩ (some ⟨n31, 0, none⟩) 2 [(.mk 2 ⟨#[97]⟩ none 0 []), (.mk 6 ⟨#[]⟩ (some ⟨n27, 0, none⟩) 1 [(.mk 3 ⟨#[]⟩ none 0 [])])]), (.mk 2 ⟨#[99]⟩ none 0 [])]), (.mk 6 ⟨#[]⟩ (some ⟨n27, 0, none⟩) 1 [(.mk 3 ⟨#[]⟩ none 0 [])])]) sX (some ⟨n78, 0, none⟩) 2 [(⟨#[97]⟩ : ByteArray), (⟨#[99]⟩ : ByteArray)] (.seq (.seq (.seq (.nod (by decide)) (.star .any)) (.nod (by decide))) (.star .any)) (rxx_own fdd fdd fdd fdd hs) (by decide) (C0 (l := [(⟨#[97]⟩ : ByteArray), (⟨#[99]⟩ : ByteArray)]) (cells := ([(⟨#[97]⟩ : ByteArray), (⟨#[99]⟩ : ByteArray)]).flatMap encS) (e := 9) (fun _ => rfl) rfl (Fnd.mono fdd hs)) (by decide)))) rfl (Ar rfl rfl (Aa rfl)) ?_
   refine Be (C1 (T U)) U (Ar U U (Aa U)) (y_ (A9 (T U) (T U)) (y_ (Ac (T U)) (Be (Am (T U) isAgg24 sizeOf24 U (by first | exact Bf)) U (Ar U U (Aa U)) ?_) U) U)
   refine A6 (Al (.cons Ak (.cons Ak (.cons Ak .nil))) (bs25_3_0_1_2 _ _ _)) U (Ar U U (Aa U)) ?_
   rintro _ _ ⟨n84, rfl, rfl⟩
   refine Be (Av (.cons (T rfl) (.cons (T rfl) .nil)) call16 (fun H' hs => still_b sM2 (match_s (.mk 4 ⟨#[]⟩ (some ⟨n37, 0, none⟩) 2 [(.mk 4 ⟨#[]⟩ (some ⟨n34, 0, none⟩) 2 [(.mk 4 ⟨#[]⟩ (some ⟨n31, 0, none⟩) 2 [(.mk 2 ⟨#[97]⟩ none 0 []), (.mk 6 ⟨#[]⟩ (some ⟨n27, 0, none⟩) 1 [(.mk 3 ⟨#[]⟩ none 0 [])])]), (.mk 2 ⟨#[99]⟩ none 0 [])]), (.mk 6 ⟨#[]⟩ (some ⟨n27, 0, none⟩) 1 [(.mk 3 ⟨#[]⟩ none 0 [])])]) sX (some ⟨n84, 0, none⟩) 3 [(⟨#[97]⟩ : ByteArray), (⟨#[98]⟩ : ByteArray), (⟨#[100]⟩ : ByteArray)] (.seq (.seq (.seq (.nod (by decide)) (.star .any)) (.nod (by decide))) (.star .any)) (rxx_own fdd fdd fdd fdd hs) (by decide) (C0 (l := [(⟨#[97]⟩ : ByteArray), (⟨#[98]⟩ : ByteArray), (⟨#[100]⟩ : ByteArray)]) (cells := ([(⟨#[97]⟩ : ByteArray), (⟨#[98]⟩ : ByteArray), (⟨#[100]⟩ : ByteArray)]).flatMap encS) (e := 9) (fun _ => rfl) rfl (Fnd.mono fdd hs)) (by decide)))) rfl (Ar rfl rfl (Aa rfl)) ?_
   refine y_ (A9 (T U) (T U)) (Af (Ae (Bl [(1, _), (3, _), (4, _), (86, _)] ⟨Aa U, Aa U, Aa U, Aa U, trivial⟩ ?_))) U
   first | refine Br (Aa U) ?_ | refine Br (Ai (Aa U) (vbool (decide_eq_false c86))) ?_
   refine A4 (Ae (Ag (Ab (y_ (Av (.cons Ak .nil) call45 (fun H' hs => node_s ⟨#[97]⟩)) (y_ (Av (.cons Ak .nil) call45 (fun H' hs => node_s ⟨#[98]⟩)) (e_ (Aq zeroValue24 cs_) ?_ U) U) U))))
   rintro _ _ ⟨n8, rfl, rfl⟩
   refine e_ (Aq zeroValue24 cs_) ?_ U
   rintro _ _ ⟨n9, rfl, rfl⟩
   first | refine A6 (As (T U) (T U) sizeOf24) U Ah ?_
   rintro _ _ ⟨rfl, rfl⟩
   first | refine A6 (As (T U) (T U) sizeOf24) U Ah ?_
   rintro _ _ ⟨rfl, rfl⟩
   refine Af (Ae ?_)
   refine j_cutH (X := Unit) (V := fun _ => [(11, .bool true), (12, .int .i64 0)]) (C := [(1, _), (3, _), (4, _), (8, _)]) (φ := fun _ => True) ⟨Aa U, Aa U, Aa U, Aa U, trivial⟩ ?_ ?_
   ·refine j_anyX 24 _ mixd (by kernel_rfl) sb0 ?_
    refine x_y (i := 0) U (by kernel_rfl) (Am (T U) isAgg24 sizeOf24 U (by first | exact Bf)) ?_ U Ah
    refine x_y (i := 1) U (by kernel_rfl) (Am (T U) isAgg24 sizeOf24 U (by first | exact Bf)) ?_ U Ah
    refine x_y (i := 6) U (by kernel_rfl) (Am (T U) isAgg24 sizeOf24 U (by first | exact Bf)) ?_ U Ah
    refine x_y (i := 9) U (by kernel_rfl) (Am (T U) isAgg24 sizeOf24 U (by first | exact Bf)) ?_ U Ah
    refine x_three (i := 2) (j := 7) (k := 10) (by kernel_rfl) (by kernel_rfl) ?_ ?_ ?_
    ·refine B0 U (Al (.cons (T U) (.cons (T U) .nil)) (Ca _ _ _ _ _ _ _ _ _ _)) ?_ U Ah
     rintro _ _ ⟨n92, rfl, rfl⟩
     refine ⟨sbt, (x_y (i := 3) U (by kernel_rfl) (Av (.cons Ak (.cons (T U) .nil)) call26 (fun H' hs => Co 5 (some ⟨n92, 0, none⟩) [(.mk 2 ⟨#[97]⟩ none 0 []), (.mk 2 ⟨#[98]⟩ none 0 [])] 2)) ?_ U Ah)⟩
     refine x_three (i := 4) (j := 7) (k := 10) (by kernel_rfl) (by kernel_rfl) ?_ ?_ ?_
     ·refine B0 U (Al (.cons (T U) .nil) (B7 _ _ _ _ _)) ?_ U Ah
      rintro _ _ ⟨n94, rfl, rfl⟩
      refine ⟨sbt, (x_y (i := 5) U (by kernel_rfl) (Av (.cons Ak (.cons (T U) .nil)) call26 (fun H' hs => Co 6 (some ⟨n94, 0, none⟩) [(.mk 5 ⟨#[]⟩ (some ⟨n92, 0, none⟩) 2 [(.mk 2 ⟨#[97]⟩ none 0 []), (.mk 2 ⟨#[98]⟩ none 0 [])])] 1)) ?_ U Ah)⟩
      refine Db (i := 7) (j := 10) (by kernel_rfl) (by kernel_rfl) ?_ ?_
      ·refine B0 U (Al (.cons (T U) .nil) (B7 _ _ _ _ _)) ?_ U Ah
       rintro _ _ ⟨n97, rfl, rfl⟩
       refine ⟨sbt, (x_y (i := 8) U (by kernel_rfl) (Av (.cons Ak (.cons (T U) .nil)) call26 (fun H' hs => Co 6 (some ⟨n97, 0, none⟩) [(.mk 2 ⟨#[97]⟩ none 0 [])] 1)) ?_ U Ah)⟩
       refine B4 (i := 10) (by kernel_rfl) (by kernel_rfl) ?_
       refine B0 U (Al (.cons (T U) .nil) (B7 _ _ _ _ _)) ?_ U Ah
       rintro _ _ ⟨n100, rfl, rfl⟩
       refine ⟨sbt, (x_y (i := 11) U (by kernel_rfl) (Av (.cons Ak (.cons (T U) .nil)) call26 (fun H' hs => Co 6 (some ⟨n100, 0, none⟩) [(.mk 2 ⟨#[98]⟩ none 0 [])] 1)) ?_ U Ah)⟩
       refine B4 (i := 12) (by kernel_rfl) (by kernel_rfl) ?_
       refine B0 U (Al (.cons (T U) (.cons (T U) .nil)) (Ca _ _ _ _ _ _ _ _ _ _)) ?_ U Ah
       rintro _ _ ⟨n102, rfl, rfl⟩
       refine ⟨sbt, (x_y (i := 13) U (by kernel_rfl) (Av (.cons Ak (.cons (T U) .nil)) call26 (fun H' hs => Co 4 (some ⟨n102, 0, none⟩) [(.mk 6 ⟨#[]⟩ (some ⟨n97, 0, none⟩) 1 [(.mk 2 ⟨#[97]⟩ none 0 [])]), (.mk 6 ⟨#[]⟩ (some ⟨n100, 0, none⟩) 1 [(.mk 2 ⟨#[98]⟩ none 0 [])])] 2)) ?_ U Ah)⟩
       refine B4 (i := 14) (by kernel_rfl) (by kernel_rfl) ?_
       refine B0 U (Al (.cons (T U) .nil) (B7 _ _ _ _ _)) ?_ U Ah
       rintro _ _ ⟨n104, rfl, rfl⟩
       refine ⟨sbt, (x_y (i := 15) U (by kernel_rfl) (Av (.cons Ak (.cons (T U) .nil)) call26 (fun H' hs => Co 6 (some ⟨n104, 0, none⟩) [(.mk 4 ⟨#[]⟩ (some ⟨n102, 0, none⟩) 2 [(.mk 6 ⟨#[]⟩ (some ⟨n97, 0, none⟩) 1 [(.mk 2 ⟨#[97]⟩ none 0 [])]), (.mk 6 ⟨#[]⟩ (some ⟨n100, 0, none⟩) 1 [(.mk 2 ⟨#[98]⟩ none 0 [])])])] 1)) ?_ U Ah)⟩
       refine B4 (i := 16) (by kernel_rfl) (by kernel_rfl) ?_
       refine B0 U (Au (.cons (T U) (.cons (T U) .nil)) call23 (Di (.mk 6 ⟨#[]⟩ (some ⟨n94, 0, none⟩) 1 [(.mk 5 ⟨#[]⟩ (some ⟨n92, 0, none⟩) 2 [(.mk 2 ⟨#[97]⟩ none 0 []), (.mk 2 ⟨#[98]⟩ none 0 [])])]) (.mk 6 ⟨#[]⟩ (some ⟨n104, 0, none⟩) 1 [(.mk 4 ⟨#[]⟩ (some ⟨n102, 0, none⟩) 2 [(.mk 6 ⟨#[]⟩ (some ⟨n97, 0, none⟩) 1 [(.mk 2 ⟨#[97]⟩ none 0 [])]), (.mk 6 ⟨#[]⟩ (some ⟨n100, 0, none⟩) 1 [(.mk 2 ⟨#[98]⟩ none 0 [])])])]) (.star (.alt (.nod sa) (.nod sb'))) (.star (.seq (.star (.nod sa)) (.star (.nod sb')))) (.star (.alt (.nod (by decide)) (.nod (by decide)))) (.star (.seq (.star (.nod (by decide))) (.star (.nod (by decide))))) (rx1 (rx2 rx0 rx0)) (rx1 (rx2 (rx1 rx0) (rx1 rx0))) (by decide) (by decide) sE1)) ?_ U Ah
       rintro _ _ ⟨d1, ⟨rfl, hd1⟩, rfl⟩
       refine ⟨sbt, (x_y (i := 17) U (by kernel_rfl) (Ac (T U)) ?_ U Ah)⟩
       refine x_y (i := 18) U (by kernel_rfl) (Ba (T U) U) ?_ U Ah
       refine x_y (i := 19) U (by kernel_rfl) (Ba (T U) U) ?_ U Ah
       refine x_y (i := 20) U (by kernel_rfl) (Ba (T U) U) ?_ U Ah
       refine x_y (i := 21) U (by kernel_rfl) (Ad (T U)) ?_ U Ah
       refine x_y (i := 22) U (by kernel_rfl) (Ad (T U)) ?_ U Ah
       refine x_y (i := 23) U (by kernel_rfl) (Ad (T U)) ?_ U Ah
       refine Cn (by kernel_rfl) U ?_
       refine Af ?_
       refine Bp (()) ?_ ⟨atd, atd, trivial⟩ ⟨Aa U, Aa U, Aa U, Aa U, trivial⟩ sbt
       trivial
      ·refine B0 U (Al (.cons (T U) .nil) (B7 _ _ _ _ _)) ?_ U Ah
       rintro _ _ ⟨n100, rfl, rfl⟩
       refine ⟨sbt, (B4 (i := 7) (by kernel_rfl) (by kernel_rfl) ?_)⟩
       refine B0 U (Al (.cons (T U) .nil) (B7 _ _ _ _ _)) ?_ U Ah
       rintro _ _ ⟨n97, rfl, rfl⟩
       refine ⟨sbt, (x_y (i := 8) U (by kernel_rfl) (Av (.cons Ak (.cons (T U) .nil)) call26 (fun H' hs => Co 6 (some ⟨n97, 0, none⟩) [(.mk 2 ⟨#[97]⟩ none 0 [])] 1)) ?_ U Ah)⟩
       refine x_y (i := 11) U (by kernel_rfl) (Av (.cons Ak (.cons (T U) .nil)) call26 (fun H' hs => Co 6 (some ⟨n100, 0, none⟩) [(.mk 2 ⟨#[98]⟩ none 0 [])] 1)) ?_ U Ah
       refine B4 (i := 12) (by kernel_rfl) (by kernel_rfl) ?_
       refine B0 U (Al (.cons (T U) (.cons (T U) .nil)) (Ca _ _ _ _ _ _ _ _ _ _)) ?_ U Ah
       rintro _ _ ⟨n102, rfl, rfl⟩
       refine ⟨sbt, (x_y (i := 13) U (by kernel_rfl) (Av (.cons Ak (.cons (T U) .nil)) call26 (fun H' hs => Co 4 (some ⟨n102, 0, none⟩) [(.mk 6 ⟨#[]⟩ (some ⟨n97, 0, none⟩) 1 [(.mk 2 ⟨#[97]⟩ none 0 [])]), (.mk 6 ⟨#[]⟩ (some ⟨n100, 0, none⟩) 1 [(.mk 2 ⟨#[98]⟩ none 0 [])])] 2)) ?_ U Ah)⟩
       refine B4 (i := 14) (by kernel_rfl) (by kernel_rfl) ?_
       refine B0 U (Al (.cons (T U) .nil) (B7 _ _ _ _ _)) ?_ U Ah
       rintro _ _ ⟨n104, rfl, rfl⟩
       refine ⟨sbt, (x_y (i := 15) U (by kernel_rfl) (Av (.cons Ak (.cons (T U) .nil)) call26 (fun H' hs => Co 6 (some ⟨n104, 0, none⟩) [(.mk 4 ⟨#[]⟩ (some ⟨n102, 0, none⟩) 2 [(.mk 6 ⟨#[]⟩ (some ⟨n97, 0, none⟩) 1 [(.mk 2 ⟨#[97]⟩ none 0 [])]), (.mk 6 ⟨#[]⟩ (some ⟨n100, 0, none⟩) 1 [(.mk 2 ⟨#[98]⟩ none 0 [])])])] 1)) ?_ U Ah)⟩
       refine B4 (i := 16) (by kernel_rfl) (by kernel_rfl) ?_
       refine B0 U (Au (.cons (T U) (.cons (T U) .nil)) call23 (Di (.mk 6 ⟨#[]⟩ (some ⟨n94, 0, none⟩) 1 [(.mk 5 ⟨#[]⟩ (some ⟨n92, 0, none⟩) 2 [(.mk 2 ⟨#[97]⟩ none 0 []), (.mk 2 ⟨#[98]⟩ none 0 [])])]) (.mk 6 ⟨#[]⟩ (some ⟨n104, 0, none⟩) 1 [(.mk 4 ⟨#[]⟩ (some ⟨n102, 0, none⟩) 2 [(.mk 6 ⟨#[]⟩ (some ⟨n97, 0, none⟩) 1 [(.mk 2 ⟨#[97]⟩ none 0 [])]), (.mk 6 ⟨#[]⟩ (some ⟨n100, 0, none⟩) 1 [(.mk 2 ⟨#[98]⟩ none 0 [])])])]) (.star (.alt (.nod sa) (.nod sb'))) (.star (.seq (.star (.nod sa)) (.star (.nod sb')))) (.star (.alt (.nod (by decide)) (.nod (by decide)))) (.star (.seq (.star (.nod (by decide))) (.star (.nod (by decide))))) (rx1 (rx2 rx0 rx0)) (rx1 (rx2 (rx1 rx0) (rx1 rx0))) (by decide) (by decide) sE1)) ?_ U Ah
       rintro _ _ ⟨d1, ⟨rfl, hd1⟩, rfl⟩
       refine ⟨sbt, (x_y (i := 17) U (by kernel_rfl) (Ac (T U)) ?_ U Ah)⟩
       refine x_y (i := 18) U (by kernel_rfl) (Ba (T U) U) ?_ U Ah
       refine x_y (i := 19) U (by kernel_rfl) (Ba (T U) U) ?_ U Ah
       refine x_y (i := 20) U (by kernel_rfl) (Ba (T U) U) ?_ U Ah
       refine x_y (i := 21) U (by kernel_rfl) (Ad (T U)) ?_ U Ah
       refine x_y (i := 22) U (by kernel_rfl) (Ad (T U)) ?_ U Ah
       refine x_y (i := 23) U (by kernel_rfl) (Ad (T U)) ?_ U Ah
       refine Cn (by kernel_rfl) U ?_
       refine Af ?_
       refine Bp (()) ?_ ⟨atd, atd, trivial⟩ ⟨Aa U, Aa U, Aa U, Aa U, trivial⟩ sbt
       trivial
     ·refine B0 U (Al (.cons (T U) .nil) (B7 _ _ _ _ _)) ?_ U Ah
      rintro _ _ ⟨n97, rfl, rfl⟩
      refine ⟨sbt, ?_⟩
      refine Db (i := 4) (j := 10) (by kernel_rfl) (by kernel_rfl) ?_ ?_
      ·refine B0 U (Al (.cons (T U) .nil) (B7 _ _ _ _ _)) ?_ U Ah
       rintro _ _ ⟨n94, rfl, rfl⟩
       refine ⟨sbt, (x_y (i := 5) U (by kernel_rfl) (Av (.cons Ak (.cons (T U) .nil)) call26 (fun H' hs => Co 6 (some ⟨n94, 0, none⟩) [(.mk 5 ⟨#[]⟩ (some ⟨n92, 0, none⟩) 2 [(.mk 2 ⟨#[97]⟩ none 0 []), (.mk 2 ⟨#[98]⟩ none 0 [])])] 1)) ?_ U Ah)⟩
       refine x_y (i := 8) U (by kernel_rfl) (Av (.cons Ak (.cons (T U) .nil)) call26 (fun H' hs => Co 6 (some ⟨n97, 0, none⟩) [(.mk 2 ⟨#[97]⟩ none 0 [])] 1)) ?_ U Ah
       refine B4 (i := 10) (by kernel_rfl) (by kernel_rfl) ?_
       refine B0 U (Al (.cons (T U) .nil) (B7 _ _ _ _ _)) ?_ U Ah
       rintro _ _ ⟨n100, rfl, rfl⟩
       refine ⟨sbt, (x_y (i := 11) U (by kernel_rfl) (Av (.cons Ak (.cons (T U) .nil)) call26 (fun H' hs => Co 6 (some ⟨n100, 0, none⟩) [(.mk 2 ⟨#[98]⟩ none 0 [])] 1)) ?_ U Ah)⟩
       refine B4 (i := 12) (by kernel_rfl) (by kernel_rfl) ?_
       refine B0 U (Al (.cons (T U) (.cons (T U) .nil)) (Ca _ _ _ _ _ _ _ _ _ _)) ?_ U Ah
       rintro _ _ ⟨n102, rfl, rfl⟩
       refine ⟨sbt, (x_y (i := 13) U (by kernel_rfl) (Av (.cons Ak (.cons (T U) .nil)) call26 (fun H' hs => Co 4 (some ⟨n102, 0, none⟩) [(.mk 6 ⟨#[]⟩ (some ⟨n97, 0, none⟩) 1 [(.mk 2 ⟨#[97]⟩ none 0 [])]), (.mk 6 ⟨#[]⟩ (some ⟨n100, 0, none⟩) 1 [(.mk 2 ⟨#[98]⟩ none 0 [])])] 2)) ?_ U Ah)⟩
       refine B4 (i := 14) (by kernel_rfl) (by kernel_rfl) ?_
       refine B0 U (Al (.cons (T U) .nil) (B7 _ _ _ _ _)) ?_ U Ah
       rintro _ _ ⟨n104, rfl, rfl⟩
       refine ⟨sbt, (x_y (i := 15) U (by kernel_rfl) (Av (.cons Ak (.cons (T U) .nil)) call26 (fun H' hs => Co 6 (some ⟨n104, 0, none⟩) [(.mk 4 ⟨#[]⟩ (some ⟨n102, 0, none⟩) 2 [(.mk 6 ⟨#[]⟩ (some ⟨n97, 0, none⟩) 1 [(.mk 2 ⟨#[97]⟩ none 0 [])]), (.mk 6 ⟨#[]⟩ (some ⟨n100, 0, none⟩) 1 [(.mk 2 ⟨#[98]⟩ none 0 [])])])] 1)) ?_ U Ah)⟩
       refine B4 (i := 16) (by kernel_rfl) (by kernel_rfl) ?_
       refine B0 U (Au (.cons (T U) (.cons (T U) .nil)) call23 (Di (.mk 6 ⟨#[]⟩ (some ⟨n94, 0, none⟩) 1 [(.mk 5 ⟨#[]⟩ (some ⟨n92, 0, none⟩) 2 [(.mk 2 ⟨#[97]⟩ none 0 []), (.mk 2 ⟨#[98]⟩ none 0 [])])]) (.mk 6 ⟨#[]⟩ (some ⟨n104, 0, none⟩) 1 [(.mk 4 ⟨#[]⟩ (some ⟨n102, 0, none⟩) 2 [(.mk 6 ⟨#[]⟩ (some ⟨n97, 0, none⟩) 1 [(.mk 2 ⟨#[97]⟩ none 0 [])]), (.mk 6 ⟨#[]⟩ (some ⟨n100, 0, none⟩) 1 [(.mk 2 ⟨#[98]⟩ none 0 [])])])]) (.star (.alt (.nod sa) (.nod sb'))) (.star (.seq (.star (.nod sa)) (.star (.nod sb')))) (.star (.alt (.nod (by decide)) (.nod (by decide)))) (.star (.seq (.star (.nod (by decide))) (.star (.nod (by decide))))) (rx1 (rx2 rx0 rx0)) (rx1 (rx2 (rx1 rx0) (rx1 rx0))) (by decide) (by decide) sE1)) ?_ U Ah
       rintro _ _ ⟨d1, ⟨rfl, hd1⟩, rfl⟩
       refine ⟨sbt, (x_y (i := 17) U (by kernel_rfl) (Ac (T U)) ?_ U Ah)⟩
       refine x_y (i := 18) U (by kernel_rfl) (Ba (T U) U) ?_ U Ah
       refine x_y (i := 19) U (by kernel_rfl) (Ba (T U) U) ?_ U Ah
       refine x_y (i := 20) U (by kernel_rfl) (Ba (T U) U) ?_ U Ah
       refine x_y (i := 21) U (by kernel_rfl) (Ad (T U)) ?_ U Ah
       refine x_y (i := 22) U (by kernel_rfl) (Ad (T U)) ?_ U Ah
       refine x_y (i := 23) U (by kernel_rfl) (Ad (T U)) ?_ U Ah
       refine Cn (by kernel_rfl) U ?_
       refine Af ?_
       refine Bp (()) ?_ ⟨atd, atd, trivial⟩ ⟨Aa U, Aa U, Aa U, Aa U, trivial⟩ sbt
       trivial
      ·refine B0 U (Al (.cons (T U) .nil) (B7 _ _ _ _ _)) ?_ U Ah
       rintro _ _ ⟨n100, rfl, rfl⟩
       refine ⟨sbt, (B4 (i := 4) (by kernel_rfl) (by kernel_rfl) ?_)⟩
       refine B0 U (Al (.cons (T U) .nil) (B7 _ _ _ _ _)) ?_ U Ah
       rintro _ _ ⟨n94, rfl, rfl⟩
       refine ⟨sbt, (x_y (i := 5) U (by kernel_rfl) (Av (.cons Ak (.cons (T U) .nil)) call26 (fun H' hs => Co 6 (some ⟨n94, 0, none⟩) [(.mk 5 ⟨#[]⟩ (some ⟨n92, 0, none⟩) 2 [(.mk 2 ⟨#[97]⟩ none 0 []), (.mk 2 ⟨#[98]⟩ none 0 [])])] 1)) ?_ U Ah)⟩
       refine x_y (i := 8) U (by kernel_rfl) (Av (.cons Ak (.cons (T U) .nil)) call26 (fun H' hs => Co 6 (some ⟨n97, 0, none⟩) [(.mk 2 ⟨#[97]⟩ none 0 [])] 1)) ?_ U Ah
       refine x_y (i := 11) U (by kernel_rfl) (Av (.cons Ak (.cons (T U) .nil)) call26 (fun H' hs => Co 6 (some ⟨n100, 0, none⟩) [(.mk 2 ⟨#[98]⟩ none 0 [])] 1)) ?_ U Ah
       refine B4 (i := 12) (by kernel_rfl) (by kernel_rfl) ?_
       refine B0 U (Al (.cons (T U) (.cons (T U) .nil)) (Ca _ _ _ _ _ _ _ _ _ _)) ?_ U Ah
       rintro _ _ ⟨n102, rfl, rfl⟩
       refine ⟨sbt, (x_y (i := 13) U (by kernel_rfl) (Av (.cons Ak (.cons (T U) .nil)) call26 (fun H' hs => Co 4 (some ⟨n102, 0, none⟩) [(.mk 6 ⟨#[]⟩ (some ⟨n97, 0, none⟩) 1 [(.mk 2 ⟨#[97]⟩ none 0 [])]), (.mk 6 ⟨#[]⟩ (some ⟨n100, 0, none⟩) 1 [(.mk 2 ⟨#[98]⟩ none 0 [])])] 2)) ?_ U Ah)⟩
       refine B4 (i := 14) (by kernel_rfl) (by kernel_rfl) ?_
       refine B0 U (Al (.cons (T U) .nil) (B7 _ _ _ _ _)) ?_ U Ah
       rintro _ _ ⟨n104, rfl, rfl⟩
       refine ⟨sbt, (x_y (i := 15) U (by kernel_rfl) (Av (.cons Ak (.cons (T U) .nil)) call26 (fun H' hs => Co 6 (some ⟨n104, 0, none⟩) [(.mk 4 ⟨#[]⟩ (some ⟨n102, 0, none⟩) 2 [(.mk 6 ⟨#[]⟩ (some ⟨n97, 0, none⟩) 1 [(.mk 2 ⟨#[97]⟩ none 0 [])]), (.mk 6 ⟨#[]⟩ (some ⟨n100, 0, none⟩) 1 [(.mk 2 ⟨#[98]⟩ none 0 [])])])] 1)) ?_ U Ah)⟩
       refine B4 (i := 16) (by kernel_rfl) (by kernel_rfl) ?_
       refine B0 U (Au (.cons (T U) (.cons (T U) .nil)) call23 (Di (.mk 6 ⟨#[]⟩ (some ⟨n94, 0, none⟩) 1 [(.mk 5 ⟨#[]⟩ (some ⟨n92, 0, none⟩) 2 [(.mk 2 ⟨#[97]⟩ none 0 []), (.mk 2 ⟨#[98]⟩ none 0 [])])]) (.mk 6 ⟨#[]⟩ (some ⟨n104, 0, none⟩) 1 [(.mk 4 ⟨#[]⟩ (some ⟨n102, 0, none⟩) 2 [(.mk 6 ⟨#[]⟩ (some ⟨n97, 0, none⟩) 1 [(.mk 2 ⟨#[97]⟩ none 0 [])]), (.mk 6 ⟨#[]⟩ (some ⟨n100, 0, none⟩) 1 [(.mk 2 ⟨#[98]⟩ none 0 [])])])]) (.star (.alt (.nod sa) (.nod sb'))) (.star (.seq (.star (.nod sa)) (.star (.nod sb')))) (.star (.alt (.nod (by decide)) (.nod (by decide)))) (.star (.seq (.star (.nod (by decide))) (.star (.nod (by decide))))) (rx1 (rx2 rx0 rx0)) (rx1 (rx2 (rx1 rx0) (rx1 rx0))) (by decide) (by decide) sE1)) ?_ U Ah
       rintro _ _ ⟨d1, ⟨rfl, hd1⟩, rfl⟩
       refine ⟨sbt, (x_y (i := 17) U (by kernel_rfl) (Ac (T U)) ?_ U Ah)⟩
       refine x_y (i := 18) U (by kernel_rfl) (Ba (T U) U) ?_ U Ah
       refine x_y (i := 19) U (by kernel_rfl) (Ba (T U) U) ?_ U Ah
       refine x_y (i := 20) U (by kernel_rfl) (Ba (T U) U) ?_ U Ah
       refine x_y (i := 21) U (by kernel_rfl) (Ad (T U)) ?_ U Ah
       refine x_y (i := 22) U (by kernel_rfl) (Ad (T U)) ?_ U Ah
       refine x_y (i := 23) U (by kernel_rfl) (Ad (T U)) ?_ U Ah
       refine Cn (by kernel_rfl) U ?_
       refine Af ?_
       refine Bp (()) ?_ ⟨atd, atd, trivial⟩ ⟨Aa U, Aa U, Aa U, Aa U, trivial⟩ sbt
       trivial
     ·refine B0 U (Al (.cons (T U) .nil) (B7 _ _ _ _ _)) ?_ U Ah
      rintro _ _ ⟨n100, rfl, rfl⟩
      refine ⟨sbt, ?_⟩
      refine Db (i := 4) (j := 7) (by kernel_rfl) (by kernel_rfl) ?_ ?_
      ·refine B0 U (Al (.cons (T U) .nil) (B7 _ _ _ _ _)) ?_ U Ah
       rintro _ _ ⟨n94, rfl, rfl⟩
       refine ⟨sbt, (x_y (i := 5) U (by kernel_rfl) (Av (.cons Ak (.cons (T U) .nil)) call26 (fun H' hs => Co 6 (some ⟨n94, 0, none⟩) [(.mk 5 ⟨#[]⟩ (some ⟨n92, 0, none⟩) 2 [(.mk 2 ⟨#[97]⟩ none 0 []), (.mk 2 ⟨#[98]⟩ none 0 [])])] 1)) ?_ U Ah)⟩
       refine B4 (i := 7) (by kernel_rfl) (by kernel_rfl) ?_
       refine B0 U (Al (.cons (T U) .nil) (B7 _ _ _ _ _)) ?_ U Ah
       rintro _ _ ⟨n97, rfl, rfl⟩
       refine ⟨sbt, (x_y (i := 8) U (by kernel_rfl) (Av (.cons Ak (.cons (T U) .nil)) call26 (fun H' hs => Co 6 (some ⟨n97, 0, none⟩) [(.mk 2 ⟨#[97]⟩ none 0 [])] 1)) ?_ U Ah)⟩
       refine x_y (i := 11) U (by kernel_rfl) (Av (.cons Ak (.cons (T U) .nil)) call26 (fun H' hs => Co 6 (some ⟨n100, 0, none⟩) [(.mk 2 ⟨#[98]⟩ none 0 [])] 1)) ?_ U Ah
       refine B4 (i := 12) (by kernel_rfl) (by kernel_rfl) ?_
       refine B0 U (Al (.cons (T U) (.cons (T U) .nil)) (Ca _ _ _ _ _ _ _ _ _ _)) ?_ U Ah
       rintro _ _ ⟨n102, rfl, rfl⟩
       refine ⟨sbt, (x_y (i := 13) U (by kernel_rfl) (Av (.cons Ak (.cons (T U) .nil)) call26 (fun H' hs => Co 4 (some ⟨n102, 0, none⟩) [(.mk 6 ⟨#[]⟩ (some ⟨n97, 0, none⟩) 1 [(.mk 2 ⟨#[97]⟩ none 0 [])]), (.mk 6 ⟨#[]⟩ (some ⟨n100, 0, none⟩) 1 [(.mk 2 ⟨#[98]⟩ none 0 [])])] 2)) ?_ U Ah)⟩
       refine B4 (i := 14) (by kernel_rfl) (by kernel_rfl) ?_
       refine B0 U (Al (.cons (T U) .nil) (B7 _ _ _ _ _)) ?_ U Ah
       rintro _ _ ⟨n104, rfl, rfl⟩
       refine ⟨sbt, (x_y (i := 15) U (by kernel_rfl) (Av (.cons Ak (.cons (T U) .nil)) call26 (fun H' hs => Co 6 (some ⟨n104, 0, none⟩) [(.mk 4 ⟨#[]⟩ (some ⟨n102, 0, none⟩) 2 [(.mk 6 ⟨#[]⟩ (some ⟨n97, 0, none⟩) 1 [(.mk 2 ⟨#[97]⟩ none 0 [])]), (.mk 6 ⟨#[]⟩ (some ⟨n100, 0, none⟩) 1 [(.mk 2 ⟨#[98]⟩ none 0 [])])])] 1)) ?_ U Ah)⟩
       refine B4 (i := 16) (by kernel_rfl) (by kernel_rfl) ?_
       refine B0 U (Au (.cons (T U) (.cons (T U) .nil)) call23 (Di (.mk 6 ⟨#[]⟩ (some ⟨n94, 0, none⟩) 1 [(.mk 5 ⟨#[]⟩ (some ⟨n92, 0, none⟩) 2 [(.mk 2 ⟨#[97]⟩ none 0 []), (.mk 2 ⟨#[98]⟩ none 0 [])])]) (.mk 6 ⟨#[]⟩ (some ⟨n104, 0, none⟩) 1 [(.mk 4 ⟨#[]⟩ (some ⟨n102, 0, none⟩) 2 [(.mk 6 ⟨#[]⟩ (some ⟨n97, 0, none⟩) 1 [(.mk 2 ⟨#[97]⟩ none 0 [])]), (.mk 6 ⟨#[]⟩ (some ⟨n100, 0, none⟩) 1 [(.mk 2 ⟨#[98]⟩ none 0 [])])])]) (.star (.alt (.nod sa) (.nod sb'))) (.star (.seq (.star (.nod sa)) (.star (.nod sb')))) (.star (.alt (.nod (by decide)) (.nod (by decide)))) (.star (.seq (.star (.nod (by decide))) (.star (.nod (by decide))))) (rx1 (rx2 rx0 rx0)) (rx1 (rx2 (rx1 rx0) (rx1 rx0))) (by decide) (by decide) sE1)) ?_ U Ah
       rintro _ _ ⟨d1, ⟨rfl, hd1⟩, rfl⟩
       refine ⟨sbt, (x_y (i := 17) U (by kernel_rfl) (Ac (T U)) ?_ U Ah)⟩
       refine x_y (i := 18) U (by kernel_rfl) (Ba (T U) U) ?_ U Ah
       refine x_y (i := 19) U (by kernel_rfl) (Ba (T U) U) ?_ U Ah
       refine x_y (i := 20) U (by kernel_rfl) (Ba (T U) U) ?_ U Ah
       refine x_y (i := 21) U (by kernel_rfl) (Ad (T U)) ?_ U Ah
       refine x_y (i := 22) U (by kernel_rfl) (Ad (T U)) ?_ U Ah
       refine x_y (i := 23) U (by kernel_rfl) (Ad (T U)) ?_ U Ah
       refine Cn (by kernel_rfl) U ?_
       refine Af ?_
       refine Bp (()) ?_ ⟨atd, atd, trivial⟩ ⟨Aa U, Aa U, Aa U, Aa U, trivial⟩ sbt
       trivial
      ·refine B0 U (Al (.cons (T U) .nil) (B7 _ _ _ _ _)) ?_ U Ah
       rintro _ _ ⟨n97, rfl, rfl⟩
       refine ⟨sbt, (B4 (i := 4) (by kernel_rfl) (by kernel_rfl) ?_)⟩
       refine B0 U (Al (.cons (T U) .nil) (B7 _ _ _ _ _)) ?_ U Ah
       rintro _ _ ⟨n94, rfl, rfl⟩
       refine ⟨sbt, (x_y (i := 5) U (by kernel_rfl) (Av (.cons Ak (.cons (T U) .nil)) call26 (fun H' hs => Co 6 (some ⟨n94, 0, none⟩) [(.mk 5 ⟨#[]⟩ (some ⟨n92, 0, none⟩) 2 [(.mk 2 ⟨#[97]⟩ none 0 []), (.mk 2 ⟨#[98]⟩ none 0 [])])] 1)) ?_ U Ah)⟩
       refine x_y (i := 8) U (by kernel_rfl) (Av (.cons Ak (.cons (T U) .nil)) call26 (fun H' hs => Co 6 (some ⟨n97, 0, none⟩) [(.mk 2 ⟨#[97]⟩ none 0 [])] 1)) ?_ U Ah
       refine x_y (i := 11) U (by kernel_rfl) (Av (.cons Ak (.cons (T U) .nil)) call26 (fun H' hs => Co 6 (some ⟨n100, 0, none⟩) [(.mk 2 ⟨#[98]⟩ none 0 [])] 1)) ?_ U Ah
       refine B4 (i := 12) (by kernel_rfl) (by kernel_rfl) ?_
       refine B0 U (Al (.cons (T U) (.cons (T U) .nil)) (Ca _ _ _ _ _ _ _ _ _ _)) ?_ U Ah
       rintro _ _ ⟨n102, rfl, rfl⟩
       refine ⟨sbt, (x_y (i := 13) U (by kernel_rfl) (Av (.cons Ak (.cons (T U) .nil)) call26 (fun H' hs => Co 4 (some ⟨n102, 0, none⟩) [(.mk 6 ⟨#[]⟩ (some ⟨n97, 0, none⟩) 1 [(.mk 2 ⟨#[97]⟩ none 0 [])]), (.mk 6 ⟨#[]⟩ (some ⟨n100, 0, none⟩) 1 [(.mk 2 ⟨#[98]⟩ none 0 [])])] 2)) ?_ U Ah)⟩
       refine B4 (i := 14) (by kernel_rfl) (by kernel_rfl) ?_
       refine B0 U (Al (.cons (T U) .nil) (B7 _ _ _ _ _)) ?_ U Ah
       rintro _ _ ⟨n104, rfl, rfl⟩
       refine ⟨sbt, (x_y (i := 15) U (by kernel_rfl) (Av (.cons Ak (.cons (T U) .nil)) call26 (fun H' hs => Co 6 (some ⟨n104, 0, none⟩) [(.mk 4 ⟨#[]⟩ (some ⟨n102, 0, none⟩) 2 [(.mk 6 ⟨#[]⟩ (some ⟨n97, 0, none⟩) 1 [(.mk 2 ⟨#[97]⟩ none 0 [])]), (.mk 6 ⟨#[]⟩ (some ⟨n100, 0, none⟩) 1 [(.mk 2 ⟨#[98]⟩ none 0 [])])])] 1)) ?_ U Ah)⟩
       refine B4 (i := 16) (by kernel_rfl) (by kernel_rfl) ?_
       refine B0 U (Au (.cons (T U) (.cons (T U) .nil)) call23 (Di (.mk 6 ⟨#[]⟩ (some ⟨n94, 0, none⟩) 1 [(.mk 5 ⟨#[]⟩ (some ⟨n92, 0, none⟩) 2 [(.mk 2 ⟨#[97]⟩ none 0 []), (.mk 2 ⟨#[98]⟩ none 0 [])])]) (.mk 6 ⟨#[]⟩ (some ⟨n104, 0, none⟩) 1 [(.mk 4 ⟨#[]⟩ (some ⟨n102, 0, none⟩) 2 [(.mk 6 ⟨#[]⟩ (some ⟨n97, 0, none⟩) 1 [(.mk 2 ⟨#[97]⟩ none 0 [])]), (.mk 6 ⟨#[]⟩ (some ⟨n100, 0, none⟩) 1 [(.mk 2 ⟨#[98]⟩ none 0 [])])])]) (.star (.alt (.nod sa) (.nod sb'))) (.star (.seq (.star (.nod sa)) (.star (.nod sb')))) (.star (.alt (.nod (by decide)) (.nod (by decide)))) (.star (.seq (.star (.nod (by decide))) (.star (.nod (by decide))))) (rx1 (rx2 rx0 rx0)) (rx1 (rx2 (rx1 rx0) (rx1 rx0))) (by decide) (by decide) sE1)) ?_ U Ah
       rintro _ _ ⟨d1, ⟨rfl, hd1⟩, rfl⟩
       refine ⟨sbt, (x_y (i := 17) U (by kernel_rfl) (Ac (T U)) ?_ U Ah)⟩
       refine x_y (i := 18) U (by kernel_rfl) (Ba (T U) U) ?_ U Ah
       refine x_y (i := 19) U (by kernel_rfl) (Ba (T U) U) ?_ U Ah
       refine x_y (i := 20) U (by kernel_rfl) (Ba (T U) U) ?_ U Ah
       refine x_y (i := 21) U (by kernel_rfl) (Ad (T U)) ?_ U Ah
       refine x_y (i := 22) U (by kernel_rfl) (Ad (T U)) ?_ U Ah
       refine x_y (i := 23) U (by kernel_rfl) (Ad (T U)) ?_ U Ah
       refine Cn (by kernel_rfl) U ?_
       refine Af ?_
       refine Bp (()) ?_ ⟨atd, atd, trivial⟩ ⟨Aa U, Aa U, Aa U, Aa U, trivial⟩ sbt
       trivial
    ·refine B0 U (Al (.cons (T U) .nil) (B7 _ _ _ _ _)) ?_ U Ah
     rintro _ _ ⟨n97, rfl, rfl⟩
     refine ⟨sbt, ?_⟩
     refine Db (i := 2) (j := 10) (by kernel_rfl) (by kernel_rfl) ?_ ?_
     ·refine B0 U (Al (.cons (T U) (.cons (T U) .nil)) (Ca _ _ _ _ _ _ _ _ _ _)) ?_ U Ah
      rintro _ _ ⟨n92, rfl, rfl⟩
      refine ⟨sbt, (x_y (i := 3) U (by kernel_rfl) (Av (.cons Ak (.cons (T U) .nil)) call26 (fun H' hs => Co 5 (some ⟨n92, 0, none⟩) [(.mk 2 ⟨#[97]⟩ none 0 []), (.mk 2 ⟨#[98]⟩ none 0 [])] 2)) ?_ U Ah)⟩
      refine Db (i := 4) (j := 10) (by kernel_rfl) (by kernel_rfl) ?_ ?_
      ·refine B0 U (Al (.cons (T U) .nil) (B7 _ _ _ _ _)) ?_ U Ah
       rintro _ _ ⟨n94, rfl, rfl⟩
       refine ⟨sbt, (x_y (i := 5) U (by kernel_rfl) (Av (.cons Ak (.cons (T U) .nil)) call26 (fun H' hs => Co 6 (some ⟨n94, 0, none⟩) [(.mk 5 ⟨#[]⟩ (some ⟨n92, 0, none⟩) 2 [(.mk 2 ⟨#[97]⟩ none 0 []), (.mk 2 ⟨#[98]⟩ none 0 [])])] 1)) ?_ U Ah)⟩
       refine x_y (i := 8) U (by kernel_rfl) (Av (.cons Ak (.cons (T U) .nil)) call26 (fun H' hs => Co 6 (some ⟨n97, 0, none⟩) [(.mk 2 ⟨#[97]⟩ none 0 [])] 1)) ?_ U Ah
       refine B4 (i := 10) (by kernel_rfl) (by kernel_rfl) ?_
       refine B0 U (Al (.cons (T U) .nil) (B7 _ _ _ _ _)) ?_ U Ah
       rintro _ _ ⟨n100, rfl, rfl⟩
       refine ⟨sbt, (x_y (i := 11) U (by kernel_rfl) (Av (.cons Ak (.cons (T U) .nil)) call26 (fun H' hs => Co 6 (some ⟨n100, 0, none⟩) [(.mk 2 ⟨#[98]⟩ none 0 [])] 1)) ?_ U Ah)⟩
       refine B4 (i := 12) (by kernel_rfl) (by kernel_rfl) ?_
       refine B0 U (Al (.cons (T U) (.cons (T U) .nil)) (Ca _ _ _ _ _ _ _ _ _ _)) ?_ U Ah
       rintro _ _ ⟨n102, rfl, rfl⟩
       refine ⟨sbt, (x_y (i := 13) U (by kernel_rfl) (Av (.cons Ak (.cons (T U) .nil)) call26 (fun H' hs => Co 4 (some ⟨n102, 0, none⟩) [(.mk 6 ⟨#[]⟩ (some ⟨n97, 0, none⟩) 1 [(.mk 2 ⟨#[97]⟩ none 0 [])]), (.mk 6 ⟨#[]⟩ (some ⟨n100, 0, none⟩) 1 [(.mk 2 ⟨#[98]⟩ none 0 [])])] 2)) ?_ U Ah)⟩
       refine B4 (i := 14) (by kernel_rfl) (by kernel_rfl) ?_
       refine B0 U (Al (.cons (T U) .nil) (B7 _ _ _ _ _)) ?_ U Ah
       rintro _ _ ⟨n104, rfl, rfl⟩
       refine ⟨sbt, (x_y (i := 15) U (by kernel_rfl) (Av (.cons Ak (.cons (T U) .nil)) call26 (fun H' hs => Co 6 (some ⟨n104, 0, none⟩) [(.mk 4 ⟨#[]⟩ (some ⟨n102, 0, none⟩) 2 [(.mk 6 ⟨#[]⟩ (some ⟨n97, 0, none⟩) 1 [(.mk 2 ⟨#[97]⟩ none 0 [])]), (.mk 6 ⟨#[]⟩ (some ⟨n100, 0, none⟩) 1 [(.mk 2 ⟨#[98]⟩ none 0 [])])])] 1)) ?_ U Ah)⟩
       refine B4 (i := 16) (by kernel_rfl) (by kernel_rfl) ?_
       refine B0 U (Au (.cons (T U) (.cons (T U) .nil)) call23 (Di (.mk 6 ⟨#[]⟩ (some ⟨n94, 0, none⟩) 1 [(.mk 5 ⟨#[]⟩ (some ⟨n92, 0, none⟩) 2 [(.mk 2 ⟨#[97]⟩ none 0 []), (.mk 2 ⟨#[98]⟩ none 0 [])])]) (.mk 6 ⟨#[]⟩ (some ⟨n104, 0, none⟩) 1 [(.mk 4 ⟨#[]⟩ (some ⟨n102, 0, none⟩) 2 [(.mk 6 ⟨#[]⟩ (some ⟨n97, 0, none⟩) 1 [(.mk 2 ⟨#[97]⟩ none 0 [])]), (.mk 6 ⟨#[]⟩ (some ⟨n100, 0, none⟩) 1 [(.mk 2 ⟨#[98]⟩ none 0 [])])])]) (.star (.alt (.nod sa) (.nod sb'))) (.star (.seq (.star (.nod sa)) (.star (.nod sb')))) (.star (.alt (.nod (by decide)) (.nod (by decide)))) (.star (.seq (.star (.nod (by decide))) (.star (.nod (by decide))))) (rx1 (rx2 rx0 rx0)) (rx1 (rx2 (rx1 rx0) (rx1 rx0))) (by decide) (by decide) sE1)) ?_ U Ah
       rintro _ _ ⟨d1, ⟨rfl, hd1⟩, rfl⟩
       refine ⟨sbt, (x_y (i := 17) U (by kernel_rfl) (Ac (T U)) ?_ U Ah)⟩
       refine x_y (i := 18) U (by kernel_rfl) (Ba (T U) U) ?_ U Ah
       refine x_y (i := 19) U (by kernel_rfl) (Ba (T U) U) ?_ U Ah
       refine x_y (i := 20) U (by kernel_rfl) (Ba (T U) U) ?_ U Ah
       refine x_y (i := 21) U (by kernel_rfl) (Ad (T U)) ?_ U Ah
       refine x_y (i := 22) U (by kernel_rfl) (Ad (T U)) ?_ U Ah
       refine x_y (i := 23) U (by kernel_rfl) (Ad (T U)) ?_ U Ah
       refine Cn (by kernel_rfl) U ?_
       refine Af ?_
       refine Bp (()) ?_ ⟨atd, atd, trivial⟩ ⟨Aa U, Aa U, Aa U, Aa U, trivial⟩ sbt
       trivial
      ·refine B0 U (Al (.cons (T U) .nil) (B7 _ _ _ _ _)) ?_ U Ah
       rintro _ _ ⟨n100, rfl, rfl⟩
       refine ⟨sbt, (B4 (i := 4) (by kernel_rfl) (by kernel_rfl) ?_)⟩
       refine B0 U (Al (.cons (T U) .nil) (B7 _ _ _ _ _)) ?_ U Ah
       rintro _ _ ⟨n94, rfl, rfl⟩
       refine ⟨sbt, (x_y (i := 5) U (by kernel_rfl) (Av (.cons Ak (.cons (T U) .nil)) call26 (fun H' hs => Co 6 (some ⟨n94, 0, none⟩) [(.mk 5 ⟨#[]⟩ (some ⟨n92, 0, none⟩) 2 [(.mk 2 ⟨#[97]⟩ none 0 []), (.mk 2 ⟨#[98]⟩ none 0 [])])] 1)) ?_ U Ah)⟩
       refine x_y (i := 8) U (by kernel_rfl) (Av (.cons Ak (.cons (T U) .nil)) call26 (fun H' hs => Co 6 (some ⟨n97, 0, none⟩) [(.mk 2 ⟨#[97]⟩ none 0 [])] 1)) ?_ U Ah
       refine x_y (i := 11) U (by kernel_rfl) (Av (.cons Ak (.cons (T U) .nil)) call26 (fun H' hs => Co 6 (some ⟨n100, 0, none⟩) [(.mk 2 ⟨#[98]⟩ none 0 [])] 1)) ?_ U Ah
       refine B4 (i := 12) (by kernel_rfl) (by kernel_rfl) ?_
       refine B0 U (Al (.cons (T U) (.cons (T U) .nil)) (Ca _ _ _ _ _ _ _ _ _ _)) ?_ U Ah
       rintro _ _ ⟨n102, rfl, rfl⟩
       refine ⟨sbt, (x_y (i := 13) U (by kernel_rfl) (Av (.cons Ak (.cons (T U) .nil)) call26 (fun H' hs => Co 4 (some ⟨n102, 0, none⟩) [(.mk 6 ⟨#[]⟩ (some ⟨n97, 0, none⟩) 1 [(.mk 2 ⟨#[97]⟩ none 0 [])]), (.mk 6 ⟨#[]⟩ (some ⟨n100, 0, none⟩) 1 [(.mk 2 ⟨#[98]⟩ none 0 [])])] 2)) ?_ U Ah)⟩
       refine B4 (i := 14) (by kernel_rfl) (by kernel_rfl) ?_
       refine B0 U (Al (.cons (T U) .nil) (B7 _ _ _ _ _)) ?_ U Ah
       rintro _ _ ⟨n104, rfl, rfl⟩
       refine ⟨sbt, (x_y (i := 15) U (by kernel_rfl) (Av (.cons Ak (.cons (T U) .nil)) call26 (fun H' hs => Co 6 (some ⟨n104, 0, none⟩) [(.mk 4 ⟨#[]⟩ (some ⟨n102, 0, none⟩) 2 [(.mk 6 ⟨#[]⟩ (some ⟨n97, 0, none⟩) 1 [(.mk 2 ⟨#[97]⟩ none 0 [])]), (.mk 6 ⟨#[]⟩ (some ⟨n100, 0, none⟩) 1 [(.mk 2 ⟨#[98]⟩ none 0 [])])])] 1)) ?_ U Ah)⟩
       refine B4 (i := 16) (by kernel_rfl) (by kernel_rfl) ?_
       refine B0 U (Au (.cons (T U) (.cons (T U) .nil)) call23 (Di (.mk 6 ⟨#[]⟩ (some ⟨n94, 0, none⟩) 1 [(.mk 5 ⟨#[]⟩ (some ⟨n92, 0, none⟩) 2 [(.mk 2 ⟨#[97]⟩ none 0 []), (.mk 2 ⟨#[98]⟩ none 0 [])])]) (.mk 6 ⟨#[]⟩ (some ⟨n104, 0, none⟩) 1 [(.mk 4 ⟨#[]⟩ (some ⟨n102, 0, none⟩) 2 [(.mk 6 ⟨#[]⟩ (some ⟨n97, 0, none⟩) 1 [(.mk 2 ⟨#[97]⟩ none 0 [])]), (.mk 6 ⟨#[]⟩ (some ⟨n100, 0, none⟩) 1 [(.mk 2 ⟨#[98]⟩ none 0 [])])])]) (.star (.alt (.nod sa) (.nod sb'))) (.star (.seq (.star (.nod sa)) (.star (.nod sb')))) (.star (.alt (.nod (by decide)) (.nod (by decide)))) (.star (.seq (.star (.nod (by decide))) (.star (.nod (by decide))))) (rx1 (rx2 rx0 rx0)) (rx1 (rx2 (rx1 rx0) (rx1 rx0))) (by decide) (by decide) sE1)) ?_ U Ah
       rintro _ _ ⟨d1, ⟨rfl, hd1⟩, rfl⟩
       refine ⟨sbt, (x_y (i := 17) U (by kernel_rfl) (Ac (T U)) ?_ U Ah)⟩
       refine x_y (i := 18) U (by kernel_rfl) (Ba (T U) U) ?_ U Ah
       refine x_y (i := 19) U (by kernel_rfl) (Ba (T U) U) ?_ U Ah
       refine x_y (i := 20) U (by kernel_rfl) (Ba (T U) U) ?_ U Ah
       refine x_y (i := 21) U (by kernel_rfl) (Ad (T U)) ?_ U Ah
       refine x_y (i := 22) U (by kernel_rfl) (Ad (T U)) ?_ U Ah
       refine x_y (i := 23) U (by kernel_rfl) (Ad (T U)) ?_ U Ah
       refine Cn (by kernel_rfl) U ?_
       refine Af ?_
       refine Bp (()) ?_ ⟨atd, atd, trivial⟩ ⟨Aa U, Aa U, Aa U, Aa U, trivial⟩ sbt
       trivial
     ·refine B0 U (Al (.cons (T U) .nil) (B7 _ _ _ _ _)) ?_ U Ah
      rintro _ _ ⟨n100, rfl, rfl⟩
      refine ⟨sbt, (B4 (i := 2) (by kernel_rfl) (by kernel_rfl) ?_)⟩
      refine B0 U (Al (.cons (T U) (.cons (T U) .nil)) (Ca _ _ _ _ _ _ _ _ _ _)) ?_ U Ah
      rintro _ _ ⟨n92, rfl, rfl⟩
      refine ⟨sbt, (x_y (i := 3) U (by kernel_rfl) (Av (.cons Ak (.cons (T U) .nil)) call26 (fun H' hs => Co 5 (some ⟨n92, 0, none⟩) [(.mk 2 ⟨#[97]⟩ none 0 []), (.mk 2 ⟨#[98]⟩ none 0 [])] 2)) ?_ U Ah)⟩
      refine B4 (i := 4) (by kernel_rfl) (by kernel_rfl) ?_
      refine B0 U (Al (.cons (T U) .nil) (B7 _ _ _ _ _)) ?_ U Ah
      rintro _ _ ⟨n94, rfl, rfl⟩
      refine ⟨sbt, (x_y (i := 5) U (by kernel_rfl) (Av (.cons Ak (.cons (T U) .nil)) call26 (fun H' hs => Co 6 (some ⟨n94, 0, none⟩) [(.mk 5 ⟨#[]⟩ (some ⟨n92, 0, none⟩) 2 [(.mk 2 ⟨#[97]⟩ none 0 []), (.mk 2 ⟨#[98]⟩ none 0 [])])] 1)) ?_ U Ah)⟩
      refine x_y (i := 8) U (by kernel_rfl) (Av (.cons Ak (.cons (T U) .nil)) call26 (fun H' hs => Co 6 (some ⟨n97, 0, none⟩) [(.mk 2 ⟨#[97]⟩ none 0 [])] 1)) ?_ U Ah
      refine x_y (i := 11) U (by kernel_rfl) (Av (.cons Ak (.cons (T U) .nil)) call26 (fun H' hs => Co 6 (some ⟨n100, 0, none⟩) [(.mk 2 ⟨#[98]⟩ none 0 [])] 1)) ?_ U Ah
      refine B4 (i := 12) (by kernel_rfl) (by kernel_rfl) ?_
      refine B0 U (Al (.cons (T U) (.cons (T U) .nil)) (Ca _ _ _ _ _ _ _ _ _ _)) ?_ U Ah
      rintro _ _ ⟨n102, rfl, rfl⟩
      refine ⟨sbt, (x_y (i := 13) U (by kernel_rfl) (Av (.cons Ak (.cons (T U) .nil)) call26 (fun H' hs => Co 4 (some ⟨n102, 0, none⟩) [(.mk 6 ⟨#[]⟩ (some ⟨n97, 0, none⟩) 1 [(.mk 2 ⟨#[97]⟩ none 0 [])]), (.mk 6 ⟨#[]⟩ (some ⟨n100, 0, none⟩) 1 [(.mk 2 ⟨#[98]⟩ none 0 [])])] 2)) ?_ U Ah)⟩
      refine B4 (i := 14) (by kernel_rfl) (by kernel_rfl) ?_
      refine B0 U (Al (.cons (T U) .nil) (B7 _ _ _ _ _)) ?_ U Ah
      rintro _ _ ⟨n104, rfl, rfl⟩
      refine ⟨sbt, (x_y (i := 15) U (by kernel_rfl) (Av (.cons Ak (.cons (T U) .nil)) call26 (fun H' hs => Co 6 (some ⟨n104, 0, none⟩) [(.mk 4 ⟨#[]⟩ (some ⟨n102, 0, none⟩) 2 [(.mk 6 ⟨#[]⟩ (some ⟨n97, 0, none⟩) 1 [(.mk 2 ⟨#[97]⟩ none 0 [])]), (.mk 6 ⟨#[]⟩ (some ⟨n100, 0, none⟩) 1 [(.mk 2 ⟨#[98]⟩ none 0 [])])])] 1)) ?_ U Ah)⟩
      refine B4 (i := 16) (by kernel_rfl) (by kernel_rfl) ?_
      refine B0 U (Au (.cons (T U) (.cons (T U) .nil)) call23 (Di (.mk 6 ⟨#[]⟩ (some ⟨n94, 0, none⟩) 1 [(.mk 5 ⟨#[]⟩ (some ⟨n92, 0, none⟩) 2 [(.mk 2 ⟨#[97]⟩ none 0 []), (.mk 2 ⟨#[98]⟩ none 0 [])])]) (.mk 6 ⟨#[]⟩ (some ⟨n104, 0, none⟩) 1 [(.mk 4 ⟨#[]⟩ (some ⟨n102, 0, none⟩) 2 [(.mk 6 ⟨#[]⟩ (some ⟨n97, 0, none⟩) 1 [(.mk 2 ⟨#[97]⟩ none 0 [])]), (.mk 6 ⟨#[]⟩ (some ⟨n100, 0, none⟩) 1 [(.mk 2 ⟨#[98]⟩ none 0 [])])])]) (.star (.alt (.nod sa) (.nod sb'))) (.star (.seq (.star (.nod sa)) (.star (.nod sb')))) (.star (.alt (.nod (by decide)) (.nod (by decide)))) (.star (.seq (.star (.nod (by decide))) (.star (.nod (by decide))))) (rx1 (rx2 rx0 rx0)) (rx1 (rx2 (rx1 rx0) (rx1 rx0))) (by decide) (by decide) sE1)) ?_ U Ah
      rintro _ _ ⟨d1, ⟨rfl, hd1⟩, rfl⟩
      refine ⟨sbt, (x_y (i := 17) U (by kernel_rfl) (Ac (T U)) ?_ U Ah)⟩
      refine x_y (i := 18) U (by kernel_rfl) (Ba (T U) U) ?_ U Ah
      refine x_y (i := 19) U (by kernel_rfl) (Ba (T U) U) ?_ U Ah
      refine x_y (i := 20) U (by kernel_rfl) (Ba (T U) U) ?_ U Ah
      refine x_y (i := 21) U (by kernel_rfl) (Ad (T U)) ?_ U Ah
      refine x_y (i := 22) U (by kernel_rfl) (Ad (T U)) ?_ U Ah
      refine x_y (i := 23) U (by kernel_rfl) (Ad (T U)) ?_ U Ah
      refine Cn (by kernel_rfl) U ?_
      refine Af ?_
      refine Bp (()) ?_ ⟨atd, atd, trivial⟩ ⟨Aa U, Aa U, Aa U, Aa U, trivial⟩ sbt
      trivial
    ·refine B0 U (Al (.cons (T U) .nil) (B7 _ _ _ _ _)) ?_ U Ah
     rintro _ _ ⟨n100, rfl, rfl⟩
     refine ⟨sbt, ?_⟩
     refine Db (i := 2) (j := 7) (by kernel_rfl) (by kernel_rfl) ?_ ?_
     ·refine B0 U (Al (.cons (T U) (.cons (T U) .nil)) (Ca _ _ _ _ _ _ _ _ _ _)) ?_ U Ah
      rintro _ _ ⟨n92, rfl, rfl⟩
      refine ⟨sbt, (x_y (i := 3) U (by kernel_rfl) (Av (.cons Ak (.cons (T U) .nil)) call26 (fun H' hs => Co 5 (some ⟨n92, 0, none⟩) [(.mk 2 ⟨#[97]⟩ none 0 []), (.mk 2 ⟨#[98]⟩ none 0 [])] 2)) ?_ U Ah)⟩
      refine Db (i := 4) (j := 7) (by kernel_rfl) (by kernel_rfl) ?_ ?_
      ·refine B0 U (Al (.cons (T U) .nil) (B7 _ _ _ _ _)) ?_ U Ah
       rintro _ _ ⟨n94, rfl, rfl⟩
       refine ⟨sbt, (x_y (i := 5) U (by kernel_rfl) (Av (.cons Ak (.cons (T U) .nil)) call26 (fun H' hs => Co 6 (some ⟨n94, 0, none⟩) [(.mk 5 ⟨#[]⟩ (some ⟨n92, 0, none⟩) 2 [(.mk 2 ⟨#[97]⟩ none 0 []), (.mk 2 ⟨#[98]⟩ none 0 [])])] 1)) ?_ U Ah)⟩
       refine B4 (i := 7) (by kernel_rfl) (by kernel_rfl) ?_
       refine B0 U (Al (.cons (T U) .nil) (B7 _ _ _ _ _)) ?_ U Ah
       rintro _ _ ⟨n97, rfl, rfl⟩
       refine ⟨sbt, (x_y (i := 8) U (by kernel_rfl) (Av (.cons Ak (.cons (T U) .nil)) call26 (fun H' hs => Co 6 (some ⟨n97, 0, none⟩) [(.mk 2 ⟨#[97]⟩ none 0 [])] 1)) ?_ U Ah)⟩
       refine x_y (i := 11) U (by kernel_rfl) (Av (.cons Ak (.cons (T U) .nil)) call26 (fun H' hs => Co 6 (some ⟨n100, 0, none⟩) [(.mk 2 ⟨#[98]⟩ none 0 [])] 1)) ?_ U Ah
       refine B4 (i := 12) (by kernel_rfl) (by kernel_rfl) ?_
       refine B0 U (Al (.cons (T U) (.cons (T U) .nil)) (Ca _ _ _ _ _ _ _ _ _ _)) ?_ U Ah
       rintro _ _ ⟨n102, rfl, rfl⟩
       refine ⟨sbt, (x_y (i := 13) U (by kernel_rfl) (Av (.cons Ak (.cons (T U) .nil)) call26 (fun H' hs => Co 4 (some ⟨n102, 0, none⟩) [(.mk 6 ⟨#[]⟩ (some ⟨n97, 0, none⟩) 1 [(.mk 2 ⟨#[97]⟩ none 0 [])]), (.mk 6 ⟨#[]⟩ (some ⟨n100, 0, none⟩) 1 [(.mk 2 ⟨#[98]⟩ none 0 [])])] 2)) ?_ U Ah)⟩
       refine B4 (i := 14) (by kernel_rfl) (by kernel_rfl) ?_
       refine B0 U (Al (.cons (T U) .nil) (B7 _ _ _ _ _)) ?_ U Ah
       rintro _ _ ⟨n104, rfl, rfl⟩
       refine ⟨sbt, (x_y (i := 15) U (by kernel_rfl) (Av (.cons Ak (.cons (T U) .nil)) call26 (fun H' hs => Co 6 (some ⟨n104, 0, none⟩) [(.mk 4 ⟨#[]⟩ (some ⟨n102, 0, none⟩) 2 [(.mk 6 ⟨#[]⟩ (some ⟨n97, 0, none⟩) 1 [(.mk 2 ⟨#[97]⟩ none 0 [])]), (.mk 6 ⟨#[]⟩ (some ⟨n100, 0, none⟩) 1 [(.mk 2 ⟨#[98]⟩ none 0 [])])])] 1)) ?_ U Ah)⟩
       refine B4 (i := 16) (by kernel_rfl) (by kernel_rfl) ?_
       refine B0 U (Au (.cons (T U) (.cons (T U) .nil)) call23 (Di (.mk 6 ⟨#[]⟩ (some ⟨n94, 0, none⟩) 1 [(.mk 5 ⟨#[]⟩ (some ⟨n92, 0, none⟩) 2 [(.mk 2 ⟨#[97]⟩ none 0 []), (.mk 2 ⟨#[98]⟩ none 0 [])])]) (.mk 6 ⟨#[]⟩ (some ⟨n104, 0, none⟩) 1 [(.mk 4 ⟨#[]⟩ (some ⟨n102, 0, none⟩) 2 [(.mk 6 ⟨#[]⟩ (some ⟨n97, 0, none⟩) 1 [(.mk 2 ⟨#[97]⟩ none 0 [])]), (.mk 6 ⟨#[]⟩ (some ⟨n100, 0, none⟩) 1 [(.mk 2 ⟨#[98]⟩ none 0 [])])])]) (.star (.alt (.nod sa) (.nod sb'))) (.star (.seq (.star (.nod sa)) (.star (.nod sb')))) (.star (.alt (.nod (by decide)) (.nod (by decide)))) (.star (.seq (.star (.nod (by decide))) (.star (.nod (by decide))))) (rx1 (rx2 rx0 rx0)) (rx1 (rx2 (rx1 rx0) (rx1 rx0))) (by decide) (by decide) sE1)) ?_ U Ah
       rintro _ _ ⟨d1, ⟨rfl, hd1⟩, rfl⟩
       refine ⟨sbt, (x_y (i := 17) U (by kernel_rfl) (Ac (T U)) ?_ U Ah)⟩
       refine x_y (i := 18) U (by kernel_rfl) (Ba (T U) U) ?_ U Ah
       refine x_y (i := 19) U (by kernel_rfl) (Ba (T U) U) ?_ U Ah
       refine x_y (i := 20) U (by kernel_rfl) (Ba (T U) U) ?_ U Ah
       refine x_y (i := 21) U (by kernel_rfl) (Ad (T U)) ?_ U Ah
       refine x_y (i := 22) U (by kernel_rfl) (Ad (T U)) ?_ U Ah
       refine x_y (i := 23) U (by kernel_rfl) (Ad (T U)) ?_ U Ah
       refine Cn (by kernel_rfl) U ?_
       refine Af ?_
       refine Bp (()) ?_ ⟨atd, atd, trivial⟩ ⟨Aa U, Aa U, Aa U, Aa U, trivial⟩ sbt
       trivial
      ·refine B0 U (Al (.cons (T U) .nil) (B7 _ _ _ _ _)) ?_ U Ah
       rintro _ _ ⟨n97, rfl, rfl⟩
       refine ⟨sbt, (B4 (i := 4) (by kernel_rfl) (by kernel_rfl) ?_)⟩
       refine B0 U (Al (.cons (T U) .nil) (B7 _ _ _ _ _)) ?_ U Ah
       rintro _ _ ⟨n94, rfl, rfl⟩
       refine ⟨sbt, (x_y (i := 5) U (by kernel_rfl) (Av (.cons Ak (.cons (T U) .nil)) call26 (fun H' hs => Co 6 (some ⟨n94, 0, none⟩) [(.mk 5 ⟨#[]⟩ (some ⟨n92, 0, none⟩) 2 [(.mk 2 ⟨#[97]⟩ none 0 []), (.mk 2 ⟨#[98]⟩ none 0 [])])] 1)) ?_ U Ah)⟩
       refine x_y (i := 8) U (by kernel_rfl) (Av (.cons Ak (.cons (T U) .nil)) call26 (fun H' hs => Co 6 (some ⟨n97, 0, none⟩) [(.mk 2 ⟨#[97]⟩ none 0 [])] 1)) ?_ U Ah
       refine x_y (i := 11) U (by kernel_rfl) (Av (.cons Ak (.cons (T U) .nil)) call26 (fun H' hs => Co 6 (some ⟨n100, 0, none⟩) [(.mk 2 ⟨#[98]⟩ none 0 [])] 1)) ?_ U Ah
       refine B4 (i := 12) (by kernel_rfl) (by kernel_rfl) ?_
       refine B0 U (Al (.cons (T U) (.cons (T U) .nil)) (Ca _ _ _ _ _ _ _ _ _ _)) ?_ U Ah
       rintro _ _ ⟨n102, rfl, rfl⟩
       refine ⟨sbt, (x_y (i := 13) U (by kernel_rfl) (Av (.cons Ak (.cons (T U) .nil)) call26 (fun H' hs => Co 4 (some ⟨n102, 0, none⟩) [(.mk 6 ⟨#[]⟩ (some ⟨n97, 0, none⟩) 1 [(.mk 2 ⟨#[97]⟩ none 0 [])]), (.mk 6 ⟨#[]⟩ (some ⟨n100, 0, none⟩) 1 [(.mk 2 ⟨#[98]⟩ none 0 [])])] 2)) ?_ U Ah)⟩
       refine B4 (i := 14) (by kernel_rfl) (by kernel_rfl) ?_
       refine B0 U (Al (.cons (T U) .nil) (B7 _ _ _ _ _)) ?_ U Ah
       rintro _ _ ⟨n104, rfl, rfl⟩
       refine ⟨sbt, (x_y (i := 15) U (by kernel_rfl) (Av (.cons Ak (.cons (T U) .nil)) call26 (fun H' hs => Co 6 (some ⟨n104, 0, none⟩) [(.mk 4 ⟨#[]⟩ (some ⟨n102, 0, none⟩) 2 [(.mk 6 ⟨#[]⟩ (some ⟨n97, 0, none⟩) 1 [(.mk 2 ⟨#[97]⟩ none 0 [])]), (.mk 6 ⟨#[]⟩ (some ⟨n100, 0, none⟩) 1 [(.mk 2 ⟨#[98]⟩ none 0 [])])])] 1)) ?_ U Ah)⟩
       refine B4 (i := 16) (by kernel_rfl) (by kernel_rfl) ?_
       refine B0 U (Au (.cons (T U) (.cons (T U) .nil)) call23 (Di (.mk 6 ⟨#[]⟩ (some ⟨n94, 0, none⟩) 1 [(.mk 5 ⟨#[]⟩ (some ⟨n92, 0, none⟩) 2 [(.mk 2 ⟨#[97]⟩ none 0 []), (.mk 2 ⟨#[98]⟩ none 0 [])])]) (.mk 6 ⟨#[]⟩ (some ⟨n104, 0, none⟩) 1 [(.mk 4 ⟨#[]⟩ (some ⟨n102, 0, none⟩) 2 [(.mk 6 ⟨#[]⟩ (some ⟨n97, 0, none⟩) 1 [(.mk 2 ⟨#[97]⟩ none 0 [])]), (.mk 6 ⟨#[]⟩ (some ⟨n100, 0, none⟩) 1 [(.mk 2 ⟨#[98]⟩ none 0 [])])])]) (.star (.alt (.nod sa) (.nod sb'))) (.star (.seq (.star (.nod sa)) (.star (.nod sb')))) (.star (.alt (.nod (by decide)) (.nod (by decide)))) (.star (.seq (.star (.nod (by decide))) (.star (.nod (by decide))))) (rx1 (rx2 rx0 rx0)) (rx1 (rx2 (rx1 rx0) (rx1 rx0))) (by decide) (by decide) sE1)) ?_ U Ah
       rintro _ _ ⟨d1, ⟨rfl, hd1⟩, rfl⟩
       refine ⟨sbt, (x_y (i := 17) U (by kernel_rfl) (Ac (T U)) ?_ U Ah)⟩
       refine x_y (i := 18) U (by kernel_rfl) (Ba (T U) U) ?_ U Ah
       refine x_y (i := 19) U (by kernel_rfl) (Ba (T U) U) ?_ U Ah
       refine x_y (i := 20) U (by kernel_rfl) (Ba (T U) U) ?_ U Ah
       refine x_y (i := 21) U (by kernel_rfl) (Ad (T U)) ?_ U Ah
       refine x_y (i := 22) U (by kernel_rfl) (Ad (T U)) ?_ U Ah
       refine x_y (i := 23) U (by kernel_rfl) (Ad (T U)) ?_ U Ah
       refine Cn (by kernel_rfl) U ?_
       refine Af ?_
       refine Bp (()) ?_ ⟨atd, atd, trivial⟩ ⟨Aa U, Aa U, Aa U, Aa U, trivial⟩ sbt
       trivial
     ·refine B0 U (Al (.cons (T U) .nil) (B7 _ _ _ _ _)) ?_ U Ah
      rintro _ _ ⟨n97, rfl, rfl⟩
      refine ⟨sbt, (B4 (i := 2) (by kernel_rfl) (by kernel_rfl) ?_)⟩
      refine B0 U (Al (.cons (T U) (.cons (T U) .nil)) (Ca _ _ _ _ _ _ _ _ _ _)) ?_ U Ah
      rintro _ _ ⟨n92, rfl, rfl⟩
      refine ⟨sbt, (x_y (i := 3) U (by kernel_rfl) (Av (.cons Ak (.cons (T U) .nil)) call26 (fun H' hs => Co 5 (some ⟨n92, 0, none⟩) [(.mk 2 ⟨#[97]⟩ none 0 []), (.mk 2 ⟨#[98]⟩ none 0 [])] 2)) ?_ U Ah)⟩
      refine B4 (i := 4) (by kernel_rfl) (by kernel_rfl) ?_
      refine B0 U (Al (.cons (T U) .nil) (B7 _ _ _ _ _)) ?_ U Ah
      rintro _ _ ⟨n94, rfl, rfl⟩
      refine ⟨sbt, (x_y (i := 5) U (by kernel_rfl) (Av (.cons Ak (.cons (T U) .nil)) call26 (fun H' hs => Co 6 (some ⟨n94, 0, none⟩) [(.mk 5 ⟨#[]⟩ (some ⟨n92, 0, none⟩) 2 [(.mk 2 ⟨#[97]⟩ none 0 []), (.mk 2 ⟨#[98]⟩ none 0 [])])] 1)) ?_ U Ah)⟩
      refine x_y (i := 8) U (by kernel_rfl) (Av (.cons Ak (.cons (T U) .nil)) call26 (fun H' hs => Co 6 (some ⟨n97, 0, none⟩) [(.mk 2 ⟨#[97]⟩ none 0 [])] 1)) ?_ U Ah
      refine x_y (i := 11) U (by kernel_rfl) (Av (.cons Ak (.cons (T U) .nil)) call26 (fun H' hs => Co 6 (some ⟨n100, 0, none⟩) [(.mk 2 ⟨#[98]⟩ none 0 [])] 1)) ?_ U Ah
      refine B4 (i := 12) (by kernel_rfl) (by kernel_rfl) ?_
      refine B0 U (Al (.cons (T U) (.cons (T U) .nil)) (Ca _ _ _ _ _ _ _ _ _ _)) ?_ U Ah
      rintro _ _ ⟨n102, rfl, rfl⟩
      refine ⟨sbt, (x_y (i := 13) U (by kernel_rfl) (Av (.cons Ak (.cons (T U) .nil)) call26 (fun H' hs => Co 4 (some ⟨n102, 0, none⟩) [(.mk 6 ⟨#[]⟩ (some ⟨n97, 0, none⟩) 1 [(.mk 2 ⟨#[97]⟩ none 0 [])]), (.mk 6 ⟨#[]⟩ (some ⟨n100, 0, none⟩) 1 [(.mk 2 ⟨#[98]⟩ none 0 [])])] 2)) ?_ U Ah)⟩
      refine B4 (i := 14) (by kernel_rfl) (by kernel_rfl) ?_
      refine B0 U (Al (.cons (T U) .nil) (B7 _ _ _ _ _)) ?_ U Ah
      rintro _ _ ⟨n104, rfl, rfl⟩
      refine ⟨sbt, (x_y (i := 15) U (by kernel_rfl) (Av (.cons Ak (.cons (T U) .nil)) call26 (fun H' hs => Co 6 (some ⟨n104, 0, none⟩) [(.mk 4 ⟨#[]⟩ (some ⟨n102, 0, none⟩) 2 [(.mk 6 ⟨#[]⟩ (some ⟨n97, 0, none⟩) 1 [(.mk 2 ⟨#[97]⟩ none 0 [])]), (.mk 6 ⟨#[]⟩ (some ⟨n100, 0, none⟩) 1 [(.mk 2 ⟨#[98]⟩ none 0 [])])])] 1)) ?_ U Ah)⟩
      refine B4 (i := 16) (by kernel_rfl) (by kernel_rfl) ?_
      refine B0 U (Au (.cons (T U) (.cons (T U) .nil)) call23 (Di (.mk 6 ⟨#[]⟩ (some ⟨n94, 0, none⟩) 1 [(.mk 5 ⟨#[]⟩ (some ⟨n92, 0, none⟩) 2 [(.mk 2 ⟨#[97]⟩ none 0 []), (.mk 2 ⟨#[98]⟩ none 0 [])])]) (.mk 6 ⟨#[]⟩ (some ⟨n104, 0, none⟩) 1 [(.mk 4 ⟨#[]⟩ (some ⟨n102, 0, none⟩) 2 [(.mk 6 ⟨#[]⟩ (some ⟨n97, 0, none⟩) 1 [(.mk 2 ⟨#[97]⟩ none 0 [])]), (.mk 6 ⟨#[]⟩ (some ⟨n100, 0, none⟩) 1 [(.mk 2 ⟨#[98]⟩ none 0 [])])])]) (.star (.alt (.nod sa) (.nod sb'))) (.star (.seq (.star (.nod sa)) (.star (.nod sb')))) (.star (.alt (.nod (by decide)) (.nod (by decide)))) (.star (.seq (.star (.nod (by decide))) (.star (.nod (by decide))))) (rx1 (rx2 rx0 rx0)) (rx1 (rx2 (rx1 rx0) (rx1 rx0))) (by decide) (by decide) sE1)) ?_ U Ah
      rintro _ _ ⟨d1, ⟨rfl, hd1⟩, rfl⟩
      refine ⟨sbt, (x_y (i := 17) U (by kernel_rfl) (Ac (T U)) ?_ U Ah)⟩
      refine x_y (i := 18) U (by kernel_rfl) (Ba (T U) U) ?_ U Ah
      refine x_y (i := 19) U (by kernel_rfl) (Ba (T U) U) ?_ U Ah
      refine x_y (i := 20) U (by kernel_rfl) (Ba (T U) U) ?_ U Ah
      refine x_y (i := 21) U (by kernel_rfl) (Ad (T U)) ?_ U Ah
      refine x_y (i := 22) U (by kernel_rfl) (Ad (T U)) ?_ U Ah
      refine x_y (i := 23) U (by kernel_rfl) (Ad (T U)) ?_ U Ah
      refine Cn (by kernel_rfl) U ?_
      refine Af ?_
      refine Bp (()) ?_ ⟨atd, atd, trivial⟩ ⟨Aa U, Aa U, Aa U, Aa U, trivial⟩ sbt
      trivial
   rintro _ _
   refine Ag (Cm 16 [(0, true), (1, true), (5, true), (2, false), (3, true), (4, true), (6, false), (7, true), (8, false), (9, true), (10, true), (11, true), (12, true), (13, true), (14, true), (15, true)] _ mixd (by kernel_rfl) sb0 ?_)
   refine o_y U (Am (T U) isAgg24 sizeOf24 U (by first | exact Bf)) ?_ U Ah
   refine o_y U (Av .nil call44 (fun H' hs => some_s)) (o_y U (Am (T U) isAgg24 sizeOf24 U (by first | exact Bf)) ?_ U Ah) U Ah
   refine o_e U (Al (.cons (T U) (.cons (T U) .nil)) (Ca _ _ _ _ _ _ _ _ _ _)) ?_ U Ah
   rintro _ _ ⟨n113, rfl, rfl⟩
   refine ⟨sbt, (o_y U (Av (.cons Ak (.cons (T U) .nil)) call26 (fun H' hs => Co 4 (some ⟨n113, 0, none⟩) [(.mk 2 ⟨#[97]⟩ none 0 []), (.mk 3 ⟨#[]⟩ none 0 [])] 2)) (o_y U (Av .nil call44 (fun H' hs => some_s)) (o_e U (Al (.cons (T U) (.cons (T U) .nil)) (Ca _ _ _ _ _ _ _ _ _ _)) ?_ U Ah) U Ah) U Ah)⟩
   rintro _ _ ⟨n117, rfl, rfl⟩
   refine ⟨sbt, (o_y U (Av (.cons Ak (.cons (T U) .nil)) call26 (fun H' hs => Co 4 (some ⟨n117, 0, none⟩) [(.mk 3 ⟨#[]⟩ none 0 []), (.mk 2 ⟨#[97]⟩ none 0 [])] 2)) (o_e U (Au (.cons (T U) (.cons (T U) .nil)) call23 (Di (.mk 4 ⟨#[]⟩ (some ⟨n113, 0, none⟩) 2 [(.mk 2 ⟨#[97]⟩ none 0 []), (.mk 3 ⟨#[]⟩ none 0 [])]) (.mk 4 ⟨#[]⟩ (some ⟨n117, 0, none⟩) 2 [(.mk 3 ⟨#[]⟩ none 0 []), (.mk 2 ⟨#[97]⟩ none 0 [])]) (.seq (.nod sa) .any) (.seq .any (.nod sa)) (.seq (.nod (by decide)) .any) (.seq .any (.nod (by decide))) (rx2 rx0 rx0) (rx2 rx0 rx0) (by decide) (by decide) sE2)) ?_ U Ah) U Ah)⟩
   rintro _ _ ⟨d2, ⟨rfl, hd2⟩, rfl⟩
   refine ⟨sbt, (o_y U (Ac (T U)) (o_y U (Ba (T U) U) (o_y U (Ba (T U) U) (o_y U (Ba (T U) U) (o_y U (Ad (T U)) (o_y U (Ad (T U)) (o_y U (Ad (T U)) (B3 U (Af (Ae (Ag (Ab (y_ (Bq (.cons Ak .nil) (bd58_1 _)) (e_ (Al (.cons Ak .nil) (Ck _)) ?_ U) U)))))) U Ah) U Ah) U Ah) U Ah) U Ah) U Ah) U Ah)⟩
   rintro _ _ ⟨n124, rfl, rfl⟩
   refine y_ (Bq (.cons (T U) (.cons Ak .nil)) (bd58_0_1 _ _ _ _)) (e_ (Aq zeroValue58 cs_) ?_ U) U
   rintro _ _ ⟨n16, rfl, rfl⟩
   refine e_ (Aq zeroValue58 cs_) ?_ U
   rintro _ _ ⟨n17, rfl, rfl⟩
   first | refine A6 (As (T U) (T U) sizeOf58) U Ah ?_
   rintro _ _ ⟨rfl, rfl⟩
   first | refine A6 (As (T U) (T U) sizeOf58) U Ah ?_
   rintro _ _ ⟨rfl, rfl⟩
   refine Af (Ae (Bl [(1, _), (3, _), (4, _), (11, _), (12, _), (13, _), (14, _), (15, _), (16, _), (17, _)] ⟨Aa U, Aa U, Aa U, Aa U, Aa U, Aa U, Aa U, Aa U, Aa U, Aa U, trivial⟩ (Ag (Ab (y_ (Am (T U) isAgg56 sizeOf56 U (by first | exact Bf)) ?_ U)))))
   refine y_ (Am (T U) isAgg58 sizeOf58 U (by first | exact Bf)) ?_ U
   refine y_ (Am (T U) isAgg29 sizeOf29 U (by first | exact Bf)) ?_ U
   refine e_ (Au (.cons (T U) (.cons (T U) (.cons (T U) (.cons Ak (.cons Ak .nil))))) call29 (findE_s (l := [2, 3]) (c := 0) (exN x1 x2 x3) ⟨none, 0, [], -1⟩ m1 ⟨(ex_net fdd fdd), (fun i x hi => by cases hi), hm1.mono sbt⟩ ⟨ex_ok x1 x2 x3, (by first | exact Nat.zero_le _ | (show 1 ≤ 4611686018427387903; omega)), hk1, hs1, by omega⟩ 0 (show _ < 4 by omega) 3 (by rw [hp1]; exact sF1 x1 x2 x3 _ _))) ?_ U
   rintro _ _ ⟨d3, ⟨rfl, hd3⟩, rfl⟩
   refine y_ (Ac (T U)) (y_ (Ba (T U) U) (y_ (Ba (T U) U) (y_ (Ad (T U)) (y_ (Ad (T U)) (Af (Ae (Ag (Ab (y_ (Am (T U) isAgg56 sizeOf56 U (by first | exact Bf)) ?_ U))))) U) U) U) U) U
   refine y_ (Am (T U) isAgg58 sizeOf58 U (by first | exact Bf)) ?_ U
   refine y_ (Am (T U) isAgg29 sizeOf29 U (by first | exact Bf)) ?_ U
   refine e_ (Au (.cons (T U) (.cons (T U) (.cons (T U) (.cons Ak (.cons Ak .nil))))) call29 (findE_s (l := [0, 4, 3]) (c := 0) (exN x1 x2 x3) ⟨some ⟨n124, 0, none⟩, 1, [2], -1⟩ m1 ⟨(ex_net fdd fdd), (C0 (l := [(2 : Int)]) (cells := [(2 : Int)].flatMap encI) (e := 3) (fun _ => rfl) U fdd), hm1.mono sbt⟩ ⟨ex_ok x1 x2 x3, (by first | exact Nat.zero_le _ | (show 1 ≤ 4611686018427387903; omega)), hk1, hs1, by omega⟩ 0 (show _ < 4 by omega) 3 (by rw [hp1]; exact sF2 x1 x2 x3 _ _))) ?_ U
   rintro _ _ ⟨d4, ⟨rfl, hd4⟩, rfl⟩
   refine y_ (Ac (T U)) (y_ (Ba (T U) U) (y_ (Ba (T U) U) (y_ (Ad (T U)) (y_ (Ad (T U)) (Af (Ae (Bl [(1, _), (3, _), (4, _), (11, _), (12, _), (13, _), (14, _), (15, _), (16, _), (18, _), (19, _), (20, _), (21, _)] ⟨Aa U, Aa U, Aa U, Aa U, Aa U, Aa U, Aa U, Aa U, Aa U, Aa U, Aa U, Aa U, Aa U, trivial⟩ (Ag (Ab (y_ (Am (T U) isAgg56 sizeOf56 U (by first | exact Bf)) ?_ U)))))) U) U) U) U) U
   refine y_ (Am (T U) isAgg58 sizeOf58 U (by first | exact Bf)) ?_ U
   refine y_ (Am (T U) isAgg29 sizeOf29 U (by first | exact Bf)) ?_ U
   refine e_ (Au (.cons (T U) (.cons (T U) (.cons (T U) (.cons Ak (.cons Ak .nil))))) call29 (findE_s (l := []) (c := 18) (exN x1 x2 x3) ⟨none, 0, [], -1⟩ m1 ⟨(ex_net fdd fdd), (fun i x hi => by cases hi), hm1.mono sbt⟩ ⟨ex_ok x1 x2 x3, (by first | exact Nat.zero_le _ | (show 1 ≤ 4611686018427387903; omega)), hk1, hs1, by omega⟩ 1 (show _ < 4 by omega) 3 (by rw [hp1]; exact sF3 x1 x2 x3 _ _))) ?_ U
   rintro _ _ ⟨d5, ⟨rfl, hd5⟩, rfl⟩
   refine y_ (Ac (T U)) (y_ (Ba (T U) U) (y_ (Ba (T U) U) (y_ (Ad (T U)) (y_ (Ad (T U)) (Af (Ae (Ag (Ab (y_ (Am (T U) isAgg56 sizeOf56 U (by first | exact Bf)) ?_ U))))) U) U) U) U) U
   refine y_ (Am (T U) isAgg58 sizeOf58 U (by first | exact Bf)) ?_ U
   refine y_ (Am (T U) isAgg29 sizeOf29 U (by first | exact Bf)) ?_ U
   refine e_ (Au (.cons (T U) (.cons (T U) (.cons (T U) (.cons Ak .nil)))) call35 (reachedE_s (exN x1 x2 x3) ⟨none, 0, [], -1⟩ m1 ⟨(ex_net fdd fdd), (fun i x hi => by cases hi), hm1.mono sbt⟩ ⟨ex_ok x1 x2 x3, (by first | exact Nat.zero_le _ | (show 1 ≤ 4611686018427387903; omega)), hk1, hs1, by omega⟩ 1 (show _ < 4 by omega))) ?_ U
   rintro _ _ ⟨d6, ks, ⟨rfl, hd6, hreach⟩, rfl⟩
   rw [hp1] at hreach
   obtain rfl := sReach hreach
   clear hreach
   refine y_ (Ad (T U)) (Af (Ae (Bl [(1, _), (3, _), (4, _), (11, _), (12, _), (13, _), (14, _), (15, _), (16, _), (18, _), (19, _), (20, _), (21, _), (23, _), (24, _)] ⟨Aa U, Aa U, Aa U, Aa U, Aa U, Aa U, Aa U, Aa U, Aa U, Aa U, Aa U, Aa U, Aa U, Aa U, Aa U, trivial⟩ (Ag (Ab (y_ (Ac (T U)) (y_ (Ac (T U)) (Be (Ac (T U)) U (Ar U U (Aa U)) (Be (By (T U) Ak) U (Ar U U (Aa U)) (y_ (Az (T U) (T U)) (y_ (Ac (T U)) (Be (Ac (T U)) U (Ar U U (Aa U)) (Be (C1 (T U)) U (Ar U U (Aa U)) (y_ (Az (T U) (T U)) (y_ (Ac (T U)) (Be (Ac (T U)) U (Ar U U (Aa U)) (Be (By (T U) Ak) U (Ar U U (Aa U)) (y_ (Az (T U) (T U)) (y_ (Ac (T U)) (Be (Ac (T U)) U (Ar U U (Aa U)) (A6 (Al (.cons Ak (.cons Ak .nil)) (bs25_2_0_1 _ _)) U (Ar U U (Aa U)) ?_)) U) U))) U) U))) U) U))) U) U)))))) U
   rintro _ _ ⟨n166, rfl, rfl⟩
   refine Be (Av (.cons (T U) (.cons (T U) .nil)) call25 (fun H' hs => still_b (decide_eq_true U) (sameNames_s (slQ d2) (some ⟨n166, 0, none⟩) (slC d2) 2 [sa, soth] [sa, soth] ((A1 (X := H) (enc := encS) (sz := 1) (e := 9) (l := [sa, soth]) (fun _ => rfl) hd2).mono (List.Sublist.trans sbt hs)) (C0 (l := [sa, soth]) (cells := ([sa, soth]).flatMap encS) (e := 9) (fun _ => rfl) U (Fnd.mono fdd hs)) (by decide)))) U (Ar U U (Aa U)) ?_
   refine y_ (Az (T U) (T U)) (y_ (Ac (T U)) (Be (Ac (T U)) U (Ar U U (Aa U)) (Be (By (T U) Ak) U (Ar U U (Aa U)) (y_ (Az (T U) (T U)) (y_ (Ac (T U)) (Be (Ac (T U)) U (Ar U U (Aa U)) (A6 (Al (.cons Ak (.cons Ak .nil)) (bs42_2_0_1 _ _)) U (Ar U U (Aa U)) ?_)) U) U))) U) U
   rintro _ _ ⟨n175, rfl, rfl⟩
   refine Be (Av (.cons (T U) (.cons (T U) .nil)) call31 (fun H' hs => still_b (decide_eq_true (show [2, 3].map (fun k : Nat => (k : Int)) = [2, 3] from rfl)) (sameInts_s (slQ d3) (some ⟨n175, 0, none⟩) (slC d3) 2 ([2, 3].map (fun k : Nat => (k : Int))) [2, 3] (arrUI ((A1 (X := H) (enc := encU) (sz := 1) (e := 3) (l := [2, 3]) (fun _ => rfl) hd3).mono (List.Sublist.trans sbt hs))) (C0 (l := [2, 3]) (cells := ([2, 3] : List Int).flatMap encI) (e := 3) (fun _ => rfl) U (Fnd.mono fdd hs)) (by decide)))) U (Ar U U (Aa U)) ?_
   refine y_ (Az (T U) (T U)) (y_ (Ac (T U)) (Be (Ac (T U)) U (Ar U U (Aa U)) (Be (By (T U) Ak) U (Ar U U (Aa U)) (y_ (Az (T U) (T U)) (y_ (Ac (T U)) (Be (Ac (T U)) U (Ar U U (Aa U)) (A6 (Al (.cons Ak (.cons Ak (.cons Ak .nil))) (bs42_3_0_1_2 _ _ _)) U (Ar U U (Aa U)) ?_)) U) U))) U) U
   rintro _ _ ⟨n184, rfl, rfl⟩
   refine Be (Av (.cons (T U) (.cons (T U) .nil)) call31 (fun H' hs => still_b (decide_eq_true (show [0, 4, 3].map (fun k : Nat => (k : Int)) = [0, 4, 3] from rfl)) (sameInts_s (slQ d4) (some ⟨n184, 0, none⟩) (slC d4) 3 ([0, 4, 3].map (fun k : Nat => (k : Int))) [0, 4, 3] (arrUI ((A1 (X := H) (enc := encU) (sz := 1) (e := 3) (l := [0, 4, 3]) (fun _ => rfl) hd4).mono (List.Sublist.trans sbt hs))) (C0 (l := [0, 4, 3]) (cells := ([0, 4, 3] : List Int).flatMap encI) (e := 3) (fun _ => rfl) U (Fnd.mono fdd hs)) (by decide)))) U (Ar U U (Aa U)) ?_
   refine y_ (Az (T U) (T U)) (y_ (Ac (T U)) (Be (Ac (T U)) U (Ar U U (Aa U)) (Be (By (T U) Ak) U (Ar U U (Aa U)) (y_ (Az (T U) (T U)) (y_ (Ac (T U)) (Be (Ac (T U)) U (Ar U U (Aa U)) (Be (Bn (T U) runUnderlying59) U (Ar U U (Aa U)) (Be (By (T U) Ak) U (Ar U U (Aa U)) (y_ (Az (T U) (T U)) (y_ (Ac (T U)) (Be (Am (T U) isAgg56 sizeOf56 U (by first | exact Bf)) U (Ar U U (Aa U)) ?_) U) U)))) U) U))) U) U
   refine Be (Am (T U) isAgg58 sizeOf58 U (by first | exact Bf)) U (Ar U U (Aa U)) ?_
   refine Be (Am (T U) isAgg29 sizeOf29 U (by first | exact Bf)) U (Ar U U (Aa U)) ?_
   refine Be (Ac (T U)) U (Ar U U (Aa U)) ?_
   refine Be (Av (.cons (T U) (.cons (T U) (.cons (T U) (.cons Ak (.cons Ak (.cons (T U) .nil)))))) call37 (fun H' hs => still_b (sRe' hp1 x1 x2 x3) (refutes_s (exN x1 x2 x3) ⟨none, 0, [], -1⟩ m1 ⟨(ex_net (Fnd.mono fdd hs) (Fnd.mono fdd hs)), (fun i x hi => by cases hi), hm1.mono (List.Sublist.trans sbt hs)⟩ ⟨ex_ok x1 x2 x3, (by first | exact Nat.zero_le _ | (show 1 ≤ 4611686018427387903; omega)), hk1, hs1, by omega⟩ 1 (show _ < 4 by omega) 3 ([(0, 2), (1, 2), (2, 2), (3, 2)].map toI) (slQ d6) (slC d6) (arrPP ((A1 (X := H) (enc := encPl) (sz := 2) (e := 74) (l := [(0, 2), (1, 2), (2, 2), (3, 2)]) (fun _ => rfl) hd6).mono (List.Sublist.trans sbt hs))) (by decide)))) U (Ar U U (Aa U)) ?_
   refine y_ (Az (T U) (T U)) (y_ (Ac (T U)) (Be (Am (T U) isAgg56 sizeOf56 U (by first | exact Bf)) U (Ar U U (Aa U)) ?_) U) U
   refine Be (Am (T U) isAgg58 sizeOf58 U (by first | exact Bf)) U (Ar U U (Aa U)) ?_
   refine Be (Am (T U) isAgg24 sizeOf24 U (by first | exact Bf)) U (Ar U U (Aa U)) ?_
   refine Be (Ac (T U)) U (Ar U U (Aa U)) ?_
   refine Be (Av (.cons (T U) (.cons (T U) (.cons (T U) (.cons Ak (.cons Ak (.cons (T U) .nil)))))) call32 (fun H' hs => still_b (sHo x1 x2 x3 _ _) (holds_s (exN x1 x2 x3) (ex_net (Fnd.mono fdd hs) (Fnd.mono fdd hs)) (ex_ok x1 x2 x3) ⟨none, 0, [], -1⟩ (fun i x hi => by cases hi) (Nat.zero_le _) (.mk 4 ⟨#[]⟩ (some ⟨n37, 0, none⟩) 2 [(.mk 4 ⟨#[]⟩ (some ⟨n34, 0, none⟩) 2 [(.mk 4 ⟨#[]⟩ (some ⟨n31, 0, none⟩) 2 [(.mk 2 ⟨#[97]⟩ none 0 []), (.mk 6 ⟨#[]⟩ (some ⟨n27, 0, none⟩) 1 [(.mk 3 ⟨#[]⟩ none 0 [])])]), (.mk 2 ⟨#[99]⟩ none 0 [])]), (.mk 6 ⟨#[]⟩ (some ⟨n27, 0, none⟩) 1 [(.mk 3 ⟨#[]⟩ none 0 [])])]) sX (.seq (.seq (.seq (.nod (by decide)) (.star .any)) (.nod (by decide))) (.star .any)) (rxx_own fdd fdd fdd fdd hs) (by decide) 0 3 (show _ < 4 by omega) ([2, 3].map (fun k : Nat => (k : Int))) (slQ d3) (slC d3) (arrUI ((A1 (X := H) (enc := encU) (sz := 1) (e := 3) (l := [2, 3]) (fun _ => rfl) hd3).mono (List.Sublist.trans sbt hs))) (by decide)))) U (Ar U U (Aa U)) ?_
   refine y_ (Az (T U) (T U)) (y_ (Ac (T U)) (A6 (Al (.cons Ak (.cons Ak .nil)) (bs25_2_0_1 _ _)) U (Ar U U (Aa U)) ?_) U) U
   rintro _ _ ⟨n211, rfl, rfl⟩
   refine Be (Av (.cons (T U) .nil) call19 (fun H' hs => sO ▸ other_s [sa, soth] (some ⟨n211, 0, none⟩) 2 (C0 (l := [sa, soth]) (cells := ([sa, soth]).flatMap encS) (e := 9) (fun _ => rfl) U (Fnd.mono fdd hs)) (by decide))) U (Ar U U (Aa U)) ?_
   refine Be (D0 (T U) Ak) U (Ar U U (Aa U)) (y_ (Az (T U) (T U)) (y_ (Ac (T U)) (Be (Am (T U) isAgg29 sizeOf29 U (by first | exact Bf)) U (Ar U U (Aa U)) ?_) U) U)
   refine A6 (Al (.cons Ak (.cons Ak .nil)) (bs25_2_0_1 _ _)) U (Ar U U (Aa U)) ?_
   rintro _ _ ⟨n217, rfl, rfl⟩
   refine Be (Av (.cons (T U) (.cons (T U) .nil)) call21 (fun H' hs => still_v (c := .int .i64 ((3 : Nat) : Int)) (congrArg (fun k : Nat => Value.int .i64 (k : Int)) (hp1.symm ▸ sR)) (run_s m1 (hm1.mono (List.Sublist.trans sbt hs)) hk1 hs1 (by omega) [sa, sc] (some ⟨n217, 0, none⟩) 2 (C0 (l := [sa, sc]) (cells := ([sa, sc]).flatMap encS) (e := 9) (fun _ => rfl) U (Fnd.mono fdd hs)) (by decide)))) U (Ar U U (Aa U)) ?_
   refine Be (By (T U) Ak) U (Ar U U (Aa U)) (y_ (Az (T U) (T U)) (y_ (Ad (T U)) (Af (Ae (Bl [(0, _)] ⟨Aa U, trivial⟩ (A7 (A8 U (.tmp (Aa U) .nil) ?_))))) U) U)
   exact ⟨_, ⟨rfl, rfl⟩, sbt⟩
end Go.Proofs.YtkdolgnpkjihpaaGreatDoor
namespace Go.Proofs.YtkdolgnpkjihpaaGreatDoor
open _root_.Go.Proofs.Tryz
open Go.RowKit
set_option linter.unusedVariables false
set_option linter.unusedSimpArgs false
theorem bs25_49_0_1_2_3_4_5_6_7_8_9_10_11_12_13_14_15_16_17_18_19_20_21_22_23_24_25_26_27_28_29_30_31_32_33_34_35_36_37_38_39_40_41_42_43_44_45_46_47_48 (a0 : ByteArray) (a1 : ByteArray) (a2 : ByteArray) (a3 : ByteArray) (a4 : ByteArray) (a5 : ByteArray) (a6 : ByteArray) (a7 : ByteArray) (a8 : ByteArray) (a9 : ByteArray) (a10 : ByteArray) (a11 : ByteArray) (a12 : ByteArray) (a13 : ByteArray) (a14 : ByteArray) (a15 : ByteArray) (a16 : ByteArray) (a17 : ByteArray) (a18 : ByteArray) (a19 : ByteArray) (a20 : ByteArray) (a21 : ByteArray) (a22 : ByteArray) (a23 : ByteArray) (a24 : ByteArray) (a25 : ByteArray) (a26 : ByteArray) (a27 : ByteArray) (a28 : ByteArray) (a29 : ByteArray) (a30 : ByteArray) (a31 : ByteArray) (a32 : ByteArray) (a33 : ByteArray) (a34 : ByteArray) (a35 : ByteArray) (a36 : ByteArray) (a37 : ByteArray) (a38 : ByteArray) (a39 : ByteArray) (a40 : ByteArray) (a41 : ByteArray) (a42 : ByteArray) (a43 : ByteArray) (a44 : ByteArray) (a45 : ByteArray) (a46 : ByteArray) (a47 : ByteArray) (a48 : ByteArray) (w : World) : (Instr.buildSlice 25 49 #[(0, .string a0), (1, .string a1), (2, .string a2), (3, .string a3), (4, .string a4), (5, .string a5), (6, .string a6), (7, .string a7), (8, .string a8), (9, .string a9), (10, .string a10), (11, .string a11), (12, .string a12), (13, .string a13), (14, .string a14), (15, .string a15), (16, .string a16), (17, .string a17), (18, .string a18), (19, .string a19), (20, .string a20), (21, .string a21), (22, .string a22), (23, .string a23), (24, .string a24), (25, .string a25), (26, .string a26), (27, .string a27), (28, .string a28), (29, .string a29), (30, .string a30), (31, .string a31), (32, .string a32), (33, .string a33), (34, .string a34), (35, .string a35), (36, .string a36), (37, .string a37), (38, .string a38), (39, .string a39), (40, .string a40), (41, .string a41), (42, .string a42), (43, .string a43), (44, .string a44), (45, .string a45), (46, .string a46), (47, .string a47), (48, .string a48)]).run Tryz.prog w = .ok (.slice (some ⟨w.heap.size, 0, none⟩) 49 49) (w.alloc (Cl [.string a0, .string a1, .string a2, .string a3, .string a4, .string a5, .string a6, .string a7, .string a8, .string a9, .string a10, .string a11, .string a12, .string a13, .string a14, .string a15, .string a16, .string a17, .string a18, .string a19, .string a20, .string a21, .string a22, .string a23, .string a24, .string a25, .string a26, .string a27, .string a28, .string a29, .string a30, .string a31, .string a32, .string a33, .string a34, .string a35, .string a36, .string a37, .string a38, .string a39, .string a40, .string a41, .string a42, .string a43, .string a44, .string a45, .string a46, .string a47, .string a48] 9)) := by kernel_rfl
theorem ch10_s {w0 : World} {H : List (Nat × Obj)} (c : Int) :
  FSpec Tryz.prog w0 176 #[.int .u8 c] H (fun v H' => (∃ t : Bool, v = .bool t) ∧ H' = H) := by
 refine Bc Tryz.func176 U ntmps176 U (Ag (Ab (y_ (Ad Ak) (Af (Ae (Ag (Ab (y_ (Ac (T U)) (y_ (D1 (T U) Ak) (y_ (Ac (T U)) ?_ U) U) U))))) U)))
 first | refine Cb (s := 5) (Aa U) (fun c5 => ?_) (fun c5 => ?_) | refine Cu (s := 5) (Aa U) (fun c5 => ?_) (fun c5 => ?_)
 ·refine Be (Ac (T U)) U (Ar U U (Aa U)) (Be (yl_leq (T U) Ak) U (Ar U U (Aa U)) (y_ (Az (T U) (T U)) (y_ (Ad (T U)) (Af (Ae (A7 (A8 U (.tmp (Aa U) .nil) ?_)))) U) U))
  exact ⟨_, ⟨⟨_, rfl⟩, rfl⟩, sbt⟩
 ·refine B6 (B6 (y_ (A9 (T U) Ak) (y_ (Ad (T U)) (Af (Ae (A7 (A8 U (.tmp (Aa U) .nil) ?_)))) U) U) U U U U) U U U U
  exact ⟨_, ⟨⟨_, rfl⟩, rfl⟩, sbt⟩
theorem dg10_s {w0 : World} {H : List (Nat × Obj)} (c : Int) :
  FSpec Tryz.prog w0 192 #[.int .u8 c] H (fun v H' => (∃ t : Bool, v = .bool t) ∧ H' = H) := by
 refine Bc Tryz.func192 U ntmps192 U (Ag (Ab (y_ (Ad Ak) (Af (Ae (Ag (Ab (y_ (Ac (T U)) (y_ (D1 (T U) Ak) (y_ (Ac (T U)) ?_ U) U) U))))) U)))
 first | refine Cb (s := 5) (Aa U) (fun c5 => ?_) (fun c5 => ?_) | refine Cu (s := 5) (Aa U) (fun c5 => ?_) (fun c5 => ?_)
 ·refine Be (Ac (T U)) U (Ar U U (Aa U)) (Be (yl_leq (T U) Ak) U (Ar U U (Aa U)) (y_ (Az (T U) (T U)) (y_ (Ad (T U)) (Af (Ae (A7 (A8 U (.tmp (Aa U) .nil) ?_)))) U) U))
  exact ⟨_, ⟨⟨_, rfl⟩, rfl⟩, sbt⟩
 ·refine B6 (B6 (y_ (A9 (T U) Ak) (y_ (Ad (T U)) (Af (Ae (A7 (A8 U (.tmp (Aa U) .nil) ?_)))) U) U) U U U U) U U U U
  exact ⟨_, ⟨⟨_, rfl⟩, rfl⟩, sbt⟩
theorem wb10_s {w0 : World} {H : List (Nat × Obj)} (c : Int) :
  FSpec Tryz.prog w0 188 #[.int .u8 c] H (fun v H' => (∃ t : Bool, v = .bool t) ∧ H' = H) := by
 refine Bc Tryz.func188 U ntmps188 U (Ag (Ab (y_ (Ad Ak) (Af (Ae (Ag (Ab (y_ (Ac (T U)) (e_ (Au (.cons (T U) .nil) call176 (ch10_s _)) ?_ U) U))))) U)))
 rintro _ _ ⟨⟨t1, rfl⟩, rfl⟩
 refine y_ (Ad (T U)) (Af (Ae (Ag (Ab (y_ (Ac (T U)) (e_ (Au (.cons (T U) .nil) call192 (dg10_s _)) ?_ U) U))))) U
 rintro _ _ ⟨⟨t2, rfl⟩, rfl⟩
 refine y_ (Ad (T U)) (Af (Ae (Ag (Ab (y_ (Ac (T U)) (y_ (Ac (T U)) ?_ U) U))))) U
 first | refine Cb (s := 10) (Aa U) (fun c10 => ?_) (fun c10 => ?_) | refine Cu (s := 10) (Aa U) (fun c10 => ?_) (fun c10 => ?_)
 ·refine Cv (y_ (Az (T U) Ak) (y_ (Ac (T U)) (Cv (Cv (y_ (Az (T U) Ak) (y_ (Ad (T U)) (Af (Ae (A7 (A8 U (.tmp (Aa U) .nil) ?_)))) U) U) U U U U) U U U U) U) U) U U U U
  exact ⟨_, ⟨⟨_, rfl⟩, rfl⟩, sbt⟩
 ·refine Be (Ac (T U)) U (Ar U U (Aa U)) (y_ (A9 (T U) (T U)) (y_ (Ac (T U)) ?_ U) U)
  first | refine Cb (s := 13) (Aa U) (fun c13 => ?_) (fun c13 => ?_) | refine Cu (s := 13) (Aa U) (fun c13 => ?_) (fun c13 => ?_)
  ·refine Cv (Cv (y_ (Az (T U) Ak) (y_ (Ad (T U)) (Af (Ae (A7 (A8 U (.tmp (Aa U) .nil) ?_)))) U) U) U U U U) U U U U
   exact ⟨_, ⟨⟨_, rfl⟩, rfl⟩, sbt⟩
  ·refine Be (Ac (T U)) U (Ar U U (Aa U)) (Be (By (T U) Ak) U (Ar U U (Aa U)) (y_ (A9 (T U) (T U)) (y_ (Ad (T U)) (Af (Ae (A7 (A8 U (.tmp (Aa U) .nil) ?_)))) U) U))
   exact ⟨_, ⟨⟨_, rfl⟩, rfl⟩, sbt⟩
theorem run10_s {w0 : World} {H : List (Nat × Obj)} (s : ByteArray) (hs : s.size ≤ 9223372036854775807) :
  FSpec Tryz.prog w0 178 #[.string s] H (fun v H' => (∃ t : Int, v = .int .i64 t) ∧ H' = H) := by
 refine Bc Tryz.func178 U ntmps178 U (Ag (Ab (y_ (Ad Ak) (Af (Ae (Ag (Ab (y_ (Ad Ak) (Af (Ae (Ag (Aw ?_)))) U))))) U)))
 refine Ci (X := Nat) (V := fun k => [(3, .int .i64 (k : Nat))]) (C := [(0, _)]) (φ := fun k => k ≤ s.size) (μ := fun k => s.size - k) (x0 := 0) ?_ ⟨Aa U, trivial⟩ ⟨atd, trivial⟩ ?_
 ·exact Nat.zero_le _
 rintro k hk
 refine Ag (Ag (Ab (y_ (Ac (T U)) (y_ (Ac (T U)) (y_ (yl_len_s (T U) runUnderlying9) (y_ (B1 (T U) (T U)) (Af (Ae ?_)) U) U) U) U)))
 first | refine Ao (Aa U) (fun c8 => ?_) (fun c8 => ?_) | refine A5 (Aa U) (fun c8 => ?_) (fun c8 => ?_)
 ·refine A4 (Ae (Aw (Ag (Ab (y_ (Ac (T U)) (y_ (Ac (T U)) (y_ (yl_sidx (T U) (T U) runUnderlying9 (by omega)) ?_ U) U) U)))))
  refine e_ (Au (.cons (T U) .nil) call188 (wb10_s _)) ?_ U
  rintro _ _ ⟨⟨t, rfl⟩, rfl⟩
  refine y_ (Ad (T U)) (Af (Ae (Ag (Ag (Ab (y_ (Ac (T U)) ?_ U)))))) U
  first | refine Be (Cp (T U)) U Ah ?_ | refine Be (C1 (T U)) U Ah ?_
  refine Af (Ae ?_)
  first | refine Ao (Aa U) (fun c14 => ?_) (fun c14 => ?_) | refine A5 (Aa U) (fun c14 => ?_) (fun c14 => ?_)
  ·refine B2 (Ay (q_block_miss U (A2 (A3 (Ae (Ag (Ab (y_ (Ac (T U)) (y_ (Ad (T U)) (Af (Ae (A7 (A8 U (.tmp (Aa U) .nil) ?_)))) U) U))))))))
   exact ⟨_, ⟨⟨_, rfl⟩, rfl⟩, sbt⟩
  ·refine A4 (Ae (Ab (y_ (Ac (T U)) (y_ (Bt (T U) Ak (by omega)) ?_ U) U)))
   refine y_ (Ad (T U)) (Af (Bi ?_)) U
   refine Bk (k + 1) ?_ ?_ ⟨atd, trivial⟩ ⟨Aa U, trivial⟩ ?_
   ·show k + 1 ≤ _; omega
   ·first | omega | (simp only []; omega)
   ·exact sbt
 ·refine B2 (Ay (A2 (A3 (Ae (Ag (Ab (y_ (Ac (T U)) (y_ (Ad (T U)) (Af (Ae (A7 (A8 U (.tmp (Aa U) .nil) ?_)))) U) U)))))))
  exact ⟨_, ⟨⟨_, rfl⟩, rfl⟩, sbt⟩
def wordsL : List ByteArray := [⟨#[97,110,100]⟩, ⟨#[97,110,121]⟩, ⟨#[97,116]⟩, ⟨#[98,97,99,107]⟩, ⟨#[98,111,120]⟩, ⟨#[98,117,114,115,116]⟩, ⟨#[98,121]⟩, ⟨#[99,97,112,97,99,105,116,121]⟩, ⟨#[99,101,105,108,105,110,103]⟩, ⟨#[99,104,101,99,107]⟩, ⟨#[99,111,110,116,114,97,99,116]⟩, ⟨#[99,111,117,110,116]⟩, ⟨#[100,101,109,97,110,100]⟩, ⟨#[100,114,111,112]⟩, ⟨#[101,97,99,104]⟩, ⟨#[101,100,103,101]⟩, ⟨#[101,110,116,114,105,101,115]⟩, ⟨#[102,97,108,115,101]⟩, ⟨#[102,105,101,108,100]⟩, ⟨#[102,108,111,111,114]⟩, ⟨#[102,114,111,109]⟩, ⟨#[105,100]⟩, ⟨#[105,110]⟩, ⟨#[105,110,110,101,114]⟩, ⟨#[105,110,116,111]⟩, ⟨#[108,105,110,107]⟩, ⟨#[110,101,116,119,111,114,107]⟩, ⟨#[110,111,100,101]⟩, ⟨#[110,111,116]⟩, ⟨#[111,112,101,110]⟩, ⟨#[111,114]⟩, ⟨#[112,97,116,104]⟩, ⟨#[112,111,114,116]⟩, ⟨#[112,114,105,99,101]⟩, ⟨#[114,111,117,116,101]⟩, ⟨#[114,117,108,101,115]⟩, ⟨#[115,116,97,103,101]⟩, ⟨#[116,97,107,101]⟩, ⟨#[116,101,110,97,110,116]⟩, ⟨#[116,104,101,110]⟩, ⟨#[116,105,109,101]⟩, ⟨#[116,111]⟩, ⟨#[116,111,107,101,110]⟩, ⟨#[116,114,97,110,115,108,97,116,101]⟩, ⟨#[116,114,117,101]⟩, ⟨#[118,105,97]⟩, ⟨#[119,105,100,116,104]⟩, ⟨#[119,105,114,101]⟩, ⟨#[119,105,116,104,105,110]⟩]
theorem words_s {w0 : World} {H : List (Nat × Obj)}  :
  FSpec Tryz.prog w0 187 #[] H (fun v H' => (∃ n : Nat, v = .slice (some ⟨n, 0, none⟩) 49 49 ∧ H' = (n, Cl (wordsL.flatMap encS) 9) :: H)) := by
 refine Bc Tryz.func187 U ntmps187 U (Ag (Ab (y_ (Ad Ak) (Af (Ae (Ag (Ab (e_ (Al (.cons Ak (.cons Ak (.cons Ak (.cons Ak (.cons Ak (.cons Ak (.cons Ak (.cons Ak (.cons Ak (.cons Ak (.cons Ak (.cons Ak (.cons Ak (.cons Ak (.cons Ak (.cons Ak (.cons Ak (.cons Ak (.cons Ak (.cons Ak (.cons Ak (.cons Ak (.cons Ak (.cons Ak (.cons Ak (.cons Ak (.cons Ak (.cons Ak (.cons Ak (.cons Ak (.cons Ak (.cons Ak (.cons Ak (.cons Ak (.cons Ak (.cons Ak (.cons Ak (.cons Ak (.cons Ak (.cons Ak (.cons Ak (.cons Ak (.cons Ak (.cons Ak (.cons Ak (.cons Ak (.cons Ak (.cons Ak (.cons Ak .nil))))))))))))))))))))))))))))))))))))))))))))))))) (bs25_49_0_1_2_3_4_5_6_7_8_9_10_11_12_13_14_15_16_17_18_19_20_21_22_23_24_25_26_27_28_29_30_31_32_33_34_35_36_37_38_39_40_41_42_43_44_45_46_47_48 _ _ _ _ _ _ _ _ _ _ _ _ _ _ _ _ _ _ _ _ _ _ _ _ _ _ _ _ _ _ _ _ _ _ _ _ _ _ _ _ _ _ _ _ _ _ _ _ _)) ?_ U))))) U)))
 rintro _ _ ⟨n1, rfl, rfl⟩
 refine y_ (Ad (T U)) (Af (Ae (A7 (A8 U (.tmp (Aa U) .nil) ?_)))) U
 exact ⟨_, ⟨_, rfl, rfl⟩, sbt⟩
theorem isw_s {w0 : World} {H : List (Nat × Obj)} (s : ByteArray) :
  FSpec Tryz.prog w0 177 #[.string s] H (fun v H' => (∃ t : Bool, v = .bool t) ∧ H' = H) := by
 refine Bc Tryz.func177 U ntmps177 U (Ag (Ab (y_ (Ad Ak) (Af (Ae (Ag (Ab (e_ (Au .nil call187 (words_s)) ?_ U))))) U)))
 rintro _ _ ⟨n5, rfl, rfl⟩
 refine y_ (Ad (T U)) (Af (Ae (Ag (Ag (Ab (y_ (Ad Ak) (Af (Ae (Aw ?_))) U)))))) U
 refine Ci (X := Nat) (V := fun k => [(4, .int .i64 (k : Nat))]) (C := [(0, _), (3, _)]) (φ := fun k => k ≤ 49) (μ := fun k => 49 - k) (x0 := 0) ?_ ⟨Aa U, Aa U, trivial⟩ ⟨atd, trivial⟩ ?_
 ·exact Nat.zero_le _
 rintro k hk
 refine Ag (Ag (Ab (y_ (Ac (T U)) (y_ (Ac (T U)) (y_ (Bn (T U) runUnderlying25) (y_ (B1 (T U) (T U)) (Af (Ae ?_)) U) U) U) U)))
 first | refine Ao (Aa U) (fun c9 => ?_) (fun c9 => ?_) | refine A5 (Aa U) (fun c9 => ?_) (fun c9 => ?_)
 ·refine A4 (Ae (Ag (Aw (Ag (Ab (y_ (Ac (T U)) (y_ (Ac (T U)) (y_ (Bb (T U) (T U) runUnderlying25 sizeOf9 (by omega) (by first | exact rfl | exact (by rfl))) ?_ U) U) U))))))
  refine y_ (Aj (T U) isAgg9 (by first | exact c_o | exact cell1 ((C0 (l := wordsL) (sz := 1) (enc := encS) (fun _ => rfl) U fdd).cs (i := k) (show k < 49 by omega)))) ?_ U
  refine y_ (Ac (T U)) (y_ (D0 (T U) (T U)) (Af (Ae ?_)) U) U
  first | refine Ao (Aa U) (fun c17 => ?_) (fun c17 => ?_) | refine A5 (Aa U) (fun c17 => ?_) (fun c17 => ?_)
  ·refine Ag (Ab (y_ (Ad Ak) (Af (Ae (A7 (A0 (Ap (B9 (A0 (Ap (A8 U (.tmp (Aa U) .nil) ?_))))))))) U))
   exact ⟨_, ⟨⟨_, rfl⟩, rfl⟩, sbt⟩
  ·refine A4 (Bi (Ae (Ab (y_ (Ac (T U)) (y_ (Bt (T U) Ak (by omega)) ?_ U) U))))
   refine y_ (Ad (T U)) (Af ?_) U
   refine Bk (k + 1) ?_ ?_ ⟨atd, trivial⟩ ⟨Aa U, Aa U, trivial⟩ ?_
   ·show k + 1 ≤ _; omega
   ·first | omega | (simp only []; omega)
   ·exact sbt
 ·refine B2 (Ay (A2 (A3 (Ae (Ag (Ab (y_ (Ad Ak) (Af (Ae (A7 (A8 U (.tmp (Aa U) .nil) ?_)))) U)))))))
  exact ⟨_, ⟨⟨_, rfl⟩, rfl⟩, sbt⟩
theorem name10_s {w0 : World} {H : List (Nat × Obj)} (s : ByteArray) (hs : s.size ≤ 9223372036854775807) :
  FSpec Tryz.prog w0 158 #[.string s] H (fun v H' => (∃ t : Bool, v = .bool t ∧ (t = true → s.size ≠ 0)) ∧ H' = H) := by
 refine Bc Tryz.func158 U ntmps158 U (Ag (Ab (y_ (Ad Ak) (Af (Ae (Ag (Ag (Ab (y_ (Ac (T U)) (y_ (yl_len_s (T U) runUnderlying9) (y_ (By (T U) Ak) (y_ (Ac (T U)) ?_ U) U) U) U)))))) U)))
 first | refine Cb (s := 8) (Aa U) (fun c8 => ?_) (fun c8 => ?_) | refine Cu (s := 8) (Aa U) (fun c8 => ?_) (fun c8 => ?_)
 ·refine Cv (Cv (Cv (y_ (Az (T U) Ak) (Af (Ae ?_)) U) U U U U) U U U U) U U U U
  first | refine Bx (Aa U) ?_ | refine Bx (Ai (Aa U) (vbool (decide_eq_true c12))) ?_
  refine Ag (Ab (y_ (Ad Ak) (Af (Ae (A7 (Ap (A8 U (.tmp (Aa U) .nil) ?_))))) U))
  exact ⟨_, ⟨⟨_, rfl, fun h => (by first | omega | cases h)⟩, rfl⟩, sbt⟩
 ·refine Be (Ac (T U)) U (Ar U U (Aa U)) (Be (yl_len_s (T U) runUnderlying9) U (Ar U U (Aa U)) (Be (yl_gtr (T U) Ak) U (Ar U U (Aa U)) (y_ (A9 (T U) (T U)) (Af (Ae ?_)) U)))
  first | refine Ao (Aa U) (fun c12 => ?_) (fun c12 => ?_) | refine A5 (Aa U) (fun c12 => ?_) (fun c12 => ?_)
  ·refine Ag (Ab (y_ (Ad Ak) (Af (Ae (A7 (Ap (A8 U (.tmp (Aa U) .nil) ?_))))) U))
   exact ⟨_, ⟨⟨_, rfl, fun h => (by first | omega | cases h)⟩, rfl⟩, sbt⟩
  ·refine A4 (Ae (Ag (Ab (y_ (Ac (T U)) (y_ (yl_sidx (T U) Ak runUnderlying9 (by show 0 < s.size; omega)) ?_ U) U))))
   refine e_ (Au (.cons (T U) .nil) call176 (ch10_s _)) ?_ U
   rintro _ _ ⟨⟨t1, rfl⟩, rfl⟩
   refine y_ (Ad (T U)) (Af (Ae (Ag (Ab (y_ (Ac (T U)) (e_ (Au (.cons (T U) .nil) call177 (isw_s s)) ?_ U) U))))) U
   rintro _ _ ⟨⟨t2, rfl⟩, rfl⟩
   refine y_ (Ad (T U)) (Af (Ae (Ag (Ab (y_ (Ac (T U)) (y_ (Ac (T U)) ?_ U) U))))) U
   first | refine Cb (s := 19) (Aa U) (fun c19 => ?_) (fun c19 => ?_) | refine Cu (s := 19) (Aa U) (fun c19 => ?_) (fun c19 => ?_)
   ·refine Be (Ac (T U)) U (Ar U U (Aa U)) (A6 (Au (.cons (T U) .nil) call178 (run10_s s hs)) U (Ar U U (Aa U)) ?_)
    rintro _ _ ⟨⟨t3, rfl⟩, rfl⟩
    refine Be (Ac (T U)) U (Ar U U (Aa U)) (Be (yl_len_s (T U) runUnderlying9) U (Ar U U (Aa U)) (Be (By (T U) (T U)) U (Ar U U (Aa U)) (y_ (Az (T U) (T U)) (y_ (Ac (T U)) ?_ U) U)))
    first | refine Cb (s := 26) (Aa U) (fun c26 => ?_) (fun c26 => ?_) | refine Cu (s := 26) (Aa U) (fun c26 => ?_) (fun c26 => ?_)
    ·refine Be (Ac (T U)) U (Ar U U (Aa U)) ?_
     first | refine Be (Cp (T U)) U (Ar U U (Aa U)) ?_ | refine Be (C1 (T U)) U (Ar U U (Aa U)) ?_
     refine y_ (Az (T U) (T U)) (y_ (Ad (T U)) (Af (Ae (Bl [(2, _)] ⟨Aa U, trivial⟩ (A7 (A8 U (.tmp (Aa U) .nil) ?_))))) U) U
     exact ⟨_, ⟨⟨_, rfl, fun h => (by first | omega | cases h)⟩, rfl⟩, sbt⟩
    ·refine B6 (B6 (y_ (A9 (T U) Ak) (y_ (Ad (T U)) (Af (Ae (Bl [(2, _)] ⟨Aa U, trivial⟩ (A7 (A8 U (.tmp (Aa U) .nil) ?_))))) U) U) U U U U) U U U U
     exact ⟨_, ⟨⟨_, rfl, fun h => (by first | omega | cases h)⟩, rfl⟩, sbt⟩
   ·refine B6 (B6 (B6 (B6 (B6 (y_ (A9 (T U) Ak) (y_ (Ac (T U)) (B6 (B6 (y_ (A9 (T U) Ak) (y_ (Ad (T U)) (Af (Ae (Bl [(2, _)] ⟨Aa U, trivial⟩ (A7 (A8 U (.tmp (Aa U) .nil) ?_))))) U) U) U U U U) U U U U) U) U) U U U U) U U U U) U U U U) U U U U) U U U U
    exact ⟨_, ⟨⟨_, rfl, fun h => (by first | omega | cases h)⟩, rfl⟩, sbt⟩
theorem plain_s {w0 : World} {H : List (Nat × Obj)} (s : ByteArray) (hs : s.size ≤ 9223372036854775807) :
  FSpec Tryz.prog w0 137 #[.string s] H (fun v H' => (∃ t : Bool, v = .bool t ∧ (t = true → s.size ≠ 0)) ∧ H' = H) := by
 refine Bc Tryz.func137 U ntmps137 U (Ag (Ab (y_ (Ad Ak) (Af (Ae (Ag (Ab (y_ (Ac (T U)) (e_ (Au (.cons (T U) .nil) call158 (name10_s s hs)) ?_ U) U))))) U)))
 rintro _ _ ⟨⟨t1, rfl, h1⟩, rfl⟩
 refine y_ (Ad (T U)) (Af (Ae (A7 (A8 U (.tmp (Aa U) .nil) ?_)))) U
 exact ⟨_, ⟨⟨_, rfl, h1⟩, rfl⟩, sbt⟩
end Go.Proofs.YtkdolgnpkjihpaaGreatDoor
namespace Go.Proofs.YtkdolgnpkjihpaaGreatDoor
open _root_.Go.Proofs.Tryz
open Go.RowKit
set_option linter.unusedVariables false
set_option linter.unusedSimpArgs false
theorem bd150_0_1 (a0 : Int) (a1 : Int) (w : World) : (Instr.build 150 #[(0, .int .i64 a0), (1, .int .i64 a1)]).run Tryz.prog w = .ok (.agg #[.int .i64 a0, .int .i64 a1]) w := by kernel_rfl
theorem fa150_0 (b o : Nat) (w : World) : (Instr.fieldAt 150 (.pointer (some ⟨b, o, none⟩)) 0).run Tryz.prog w = .ok (.pointer (some ⟨b, o, none⟩)) w := by kernel_rfl
theorem fa150_1 (b o : Nat) (w : World) : (Instr.fieldAt 150 (.pointer (some ⟨b, o, none⟩)) 1).run Tryz.prog w = .ok (.pointer (some ⟨b, o + 1, none⟩)) w := by kernel_rfl
mutual
def Rxm.sz : Rxm → Nat
 | .mk _ _ _ _ xs => 1 + szL xs
def szL : List Rxm → Nat
 | [] => 0
 | x :: xs => x.sz + szL xs
end
theorem sz_eq (m : Rxm) : m.sz = 1 + szL m.args := by cases m; rfl
theorem szL_app : ∀ (a b : List Rxm), szL (a ++ b) = szL a + szL b
 | [], b => by simp [szL]
 | x :: a, b => by simp only [List.cons_append, szL, szL_app a b]; omega
theorem szL_take {l : List Rxm} {i : Nat} (h : i < l.length) : szL (l.take (i + 1)) = szL (l.take i) + (gd l i).sz := by
 rw [Dz h, szL_app]; simp [szL]
theorem Eb : ∀ (l : List Rxm) (i : Nat), szL (l.take i) ≤ szL l
 | [], i => by simp [szL]
 | x :: l, 0 => by simp [szL]
 | x :: l, i + 1 => by simp only [List.take_succ_cons, szL]; have := Eb l i; omega
theorem szL_len : ∀ l : List Rxm, l.length ≤ szL l
 | [] => Nat.le_refl _
 | x :: l => by simp only [List.length_cons, szL]; have := szL_len l; have := sz_eq x; omega
theorem sz_mem {m a : Rxm} (h : a ∈ m.args) : a.sz < m.sz := by
 rw [sz_eq m]
 have : ∀ l : List Rxm, a ∈ l → a.sz ≤ szL l := fun l => by
  induction l with
  | nil => intro h; cases h
  | cons x l ih =>
   intro h
   rcases List.mem_cons.1 h with rfl | h
   ·simp only [szL]; omega
   ·have := ih h; simp only [szL]; omega
 have := this _ h; omega
theorem RxM.arr {w0 : World} {H : List (Nat × Obj)} {m : Rxm} (h : RxM w0 H m) : Arr w0 H m.q 3 encRx m.args := by cases h; assumption
theorem RxM.arg {w0 : World} {H : List (Nat × Obj)} {m a : Rxm} (h : RxM w0 H m) (ha : a ∈ m.args) : RxM w0 H a := by cases h; rename_i h1 h2 h3 h4; exact h2 _ ha
theorem RxM.nl {w0 : World} {H : List (Nat × Obj)} {m : Rxm} (h : RxM w0 H m) : m.node.size ≤ 9223372036854775807 := by cases h; assumption
theorem RxM.al {w0 : World} {H : List (Nat × Obj)} {m : Rxm} (h : RxM w0 H m) : m.args.length ≤ 9223372036854775807 := by cases h; assumption
theorem rx_ind {Q : Rxm → Prop} (h : ∀ m, (∀ a ∈ m.args, Q a) → Q m) : ∀ m, Q m := fun m => by
 have : ∀ n (m : Rxm), m.sz ≤ n → Q m := fun n => by
  induction n with
  | zero => intro m hm; rw [sz_eq] at hm; omega
  | succ n ih => intro m hm; exact h m fun a ha => ih a (by have := sz_mem ha; omega)
 exact this _ m (Nat.le_refl _)
def cntS (w0 : World) (m : Rxm) : Prop := ∀ H : List (Nat × Obj), RxM w0 H m → m.sz ≤ 8388608 → FSpec Tryz.prog w0 41 #[.agg (encRx m).toArray] H (Still (.int .i64 (m.sz : Nat)) H)
theorem cnt_step {w0 : World} {H : List (Nat × Obj)} (m : Rxm) (hM : RxM w0 H m) (hz : m.sz ≤ 8388608) (ih : ∀ a ∈ m.args, cntS w0 a) :
  FSpec Tryz.prog w0 41 #[.agg (encRx m).toArray] H (Still (.int .i64 (m.sz : Nat)) H) := by
 refine Bc Tryz.func41 U ntmps41 U ?_
 have hse := sz_eq m
 have hln := szL_len m.args
 have hA := hM.arr
 refine Ag (Ab (e_ (Bj (T U) cs_) ?_ U))
 rintro _ _ ⟨n1, rfl, rfl⟩
 refine y_ (Ad Ak) (Af (Ae (Ag (Ab (y_ (Ad Ak) (Af (Ae (Ag (Ag (Ab (y_ (Ad Ak) (Af (Ae (Aw ?_))) U)))))) U))))) U
 refine Ci (X := Nat) (V := fun i => [(4, .int .i64 (i : Nat)), (3, .int .i64 (1 + szL (m.args.take i) : Nat))]) (C := [(1, _)]) (φ := fun i => i ≤ m.args.length) (μ := fun i => m.args.length - i) (x0 := 0) ?_ ⟨Aa U, trivial⟩ ⟨atd, atd, trivial⟩ ?_
 ·exact Nat.zero_le _
 rintro i hi
 have htk : i < m.args.length → szL (m.args.take (i + 1)) = szL (m.args.take i) + (gd m.args i).sz := fun h => szL_take h
 have htl := Eb m.args (i + 1)
 have htl0 := Eb m.args i
 refine Ag (Ag (Ab (y_ (Ac (T U)) (y_ (Bg (T U) C8) (y_ (Aj (T U) isAgg22 (by first | exact c_o)) ?_ U) U) U)))
 refine y_ (Bn (T U) runUnderlying22) (y_ (B1 (T U) (T U)) (Af (Ae ?_)) U) U
 first | refine Ao (Aa U) (fun c9 => ?_) (fun c9 => ?_) | refine A5 (Aa U) (fun c9 => ?_) (fun c9 => ?_)
 ·refine A4 (Ae (Ag (Aw (Ab (y_ (Ac (T U)) (y_ (Bg (T U) C8) (y_ (Aj (T U) isAgg22 (by first | exact c_o)) ?_ U) U) U)))))
  refine y_ (Ac (T U)) (y_ (Bb (T U) (T U) runUnderlying22 sizeOf24 (by omega) (by first | exact rfl | exact hA.b (i := i) (by omega))) ?_ U) U
  refine y_ (Am (T U) isAgg24 sizeOf24 U (by first | exact (hA.mono sbt).cs (i := i) (by omega) | exact Bf)) ?_ U
  refine y_ (Av (.cons (T U) .nil) call41 (fun H' hs => ih _ (Ax (i := i) (by omega)) _ ((hM.arg (Ax (i := i) (by omega))).mono (List.Sublist.trans sbt hs)) (by omega))) ?_ U
  refine y_ (Bt (T U) (T U) (by omega)) ?_ U
  refine y_ (Ad (T U)) (Af (Bi (Ae (Ab (y_ (Ac (T U)) (y_ (Bt (T U) Ak (by omega)) ?_ U) U))))) U
  refine y_ (Ad (T U)) (Af ?_) U
  refine Bk (i + 1) ?_ ?_ ⟨atd, atd, trivial⟩ ⟨Aa U, trivial⟩ ?_
  ·show i + 1 ≤ _; omega
  ·first | omega | (simp only []; omega)
  ·exact sbt
 ·refine B2 (Ay (A2 (A3 (Ae (Ag (Ab (y_ (Ac (T U)) (y_ (Ad (T U)) (Af (Ae (A7 (A8 U (.tmp (Aa U) .nil) ?_)))) U) U)))))))
  exact ⟨_, ⟨vint (by rw [List.take_of_length_le (by omega)]; omega), rfl⟩, sbt⟩
theorem cnt_s {w0 : World} {H : List (Nat × Obj)} (m : Rxm) (hM : RxM w0 H m) (hz : m.sz ≤ 8388608) : FSpec Tryz.prog w0 41 #[.agg (encRx m).toArray] H (Still (.int .i64 (m.sz : Nat)) H) :=
 rx_ind (Q := cntS w0) (fun m ih H hM hz => cnt_step m hM hz ih) m H hM hz
def strS (w0 : World) (m : Rxm) : Prop := ∀ H : List (Nat × Obj), RxM w0 H m → m.sz ≤ 8388608 → FSpec Tryz.prog w0 42 #[.agg (encRx m).toArray] H (fun v H' => (∃ t : Nat, v = .int .i64 (t : Nat) ∧ t ≤ m.sz) ∧ H' = H)
theorem str_step {w0 : World} {H : List (Nat × Obj)} (m : Rxm) (hM : RxM w0 H m) (hz : m.sz ≤ 8388608) (ih : ∀ a ∈ m.args, strS w0 a) :
  FSpec Tryz.prog w0 42 #[.agg (encRx m).toArray] H (fun v H' => (∃ t : Nat, v = .int .i64 (t : Nat) ∧ t ≤ m.sz) ∧ H' = H) := by
 refine Bc Tryz.func42 U ntmps42 U ?_
 have hse := sz_eq m
 have hln := szL_len m.args
 have hA := hM.arr
 refine Ag (Ab (e_ (Bj (T U) cs_) ?_ U))
 rintro _ _ ⟨n1, rfl, rfl⟩
 refine y_ (Ad Ak) (Af (Ae (Ag (Ab (y_ (Ad Ak) (Af (Ae (Ag (Ag (Ab (y_ (Ad Ak) (Af (Ae (Aw ?_))) U)))))) U))))) U
 refine Ci (X := Nat × Nat) (V := fun ⟨i, r⟩ => [(4, .int .i64 (i : Nat)), (3, .int .i64 (r : Nat))]) (C := [(1, _)]) (φ := fun ⟨i, r⟩ => i ≤ m.args.length ∧ r ≤ szL m.args) (μ := fun ⟨i, r⟩ => m.args.length - i) (x0 := (0, 0)) ?_ ⟨Aa rfl, trivial⟩ ⟨atd, atd, trivial⟩ ?_
 ·exact ⟨Nat.zero_le _, Nat.zero_le _⟩
 rintro ⟨i, r⟩ ⟨hi, hr⟩
 have htk : i < m.args.length → szL (m.args.take (i + 1)) = szL (m.args.take i) + (gd m.args i).sz := fun h => szL_take h
 have htl := Eb m.args (i + 1)
 have htl0 := Eb m.args i
 refine Ag (Ag (Ab (y_ (Ac (T U)) (y_ (Bg (T U) C8) (y_ (Aj (T U) isAgg22 (by first | exact c_o)) ?_ U) U) U)))
 refine y_ (Bn (T U) runUnderlying22) (y_ (B1 (T U) (T U)) (Af (Ae ?_)) U) U
 first | refine Ao (Aa U) (fun c9 => ?_) (fun c9 => ?_) | refine A5 (Aa U) (fun c9 => ?_) (fun c9 => ?_)
 ·refine A4 (Ae (Ag (Aw (Ab (y_ (Ac (T U)) (y_ (Bg (T U) C8) (y_ (Aj (T U) isAgg22 (by first | exact c_o)) ?_ U) U) U)))))
  refine y_ (Ac (T U)) (y_ (Bb (T U) (T U) runUnderlying22 sizeOf24 (by omega) (by first | exact rfl | exact hA.b (i := i) (by omega))) ?_ U) U
  refine y_ (Am (T U) isAgg24 sizeOf24 U (by first | exact (hA.mono sbt).cs (i := i) (by omega) | exact Bf)) ?_ U
  refine e_ (Au (.cons (T U) .nil) call42 (ih _ (Ax (i := i) (by omega)) _ ((hM.arg (Ax (i := i) (by omega))).mono sbt) (by omega))) ?_ U
  rintro _ _ ⟨⟨t, rfl, ht⟩, rfl⟩
  refine y_ (yl_max (T U) (T U)) (y_ (Ad (T U)) (Af (Bi (Ae (Ab (y_ (Ac (T U)) (y_ (Bt (T U) Ak (by omega)) ?_ U) U))))) U) U
  refine y_ (Ad (T U)) (Af ?_) U
  refine Bk ((i + 1, max r t)) ?_ ?_ ⟨atd, atd, trivial⟩ ⟨Aa U, trivial⟩ ?_
  ·exact ⟨by omega, by omega⟩
  ·first | omega | (simp only []; omega)
  ·exact sbt
 ·refine B2 (Ay (A2 (A3 (Ae (Ag (Ag (Ab (y_ (Bm (T U) Dk) (y_ (Aj (T U) isAgg3 (by first | exact c_o)) ?_ U) U))))))))
  refine y_ (By (T U) Ak) (Af (Ae ?_)) U
  first | refine Ao (Aa U) (fun c22 => ?_) (fun c22 => ?_) | refine A5 (Aa U) (fun c22 => ?_) (fun c22 => ?_)
  ·refine Ab (y_ (Ac (T U)) (y_ (Bt (T U) Ak (by omega)) ?_ U) U)
   refine y_ (Ad (T U)) (Af (Ae (Ag (Ab (y_ (Ac (T U)) (y_ (Ad (T U)) (Af (Ae (A7 (A8 U (.tmp (Aa U) .nil) ?_)))) U) U))))) U
   exact ⟨_, ⟨⟨r + 1, rfl, by omega⟩, rfl⟩, sbt⟩
  ·refine A4 (Ae (Ag (Ab (y_ (Ac (T U)) (y_ (Ad (T U)) (Af (Ae (A7 (A8 U (.tmp (Aa U) .nil) ?_)))) U) U))))
   exact ⟨_, ⟨⟨r, rfl, by omega⟩, rfl⟩, sbt⟩
theorem str_s {w0 : World} {H : List (Nat × Obj)} (m : Rxm) (hM : RxM w0 H m) (hz : m.sz ≤ 8388608) : FSpec Tryz.prog w0 42 #[.agg (encRx m).toArray] H (fun v H' => (∃ t : Nat, v = .int .i64 (t : Nat) ∧ t ≤ m.sz) ∧ H' = H) :=
 rx_ind (Q := strS w0) (fun m ih H hM hz => str_step m hM hz ih) m H hM hz
theorem more_s {w0 : World} {H : List (Nat × Obj)} (a b c d : Nat) (h : a + b + c + d ≤ 1000000000) :
  FSpec Tryz.prog w0 136 #[.agg #[.int .i64 (a : Nat), .int .i64 (b : Nat)], .agg #[.int .i64 (c : Nat), .int .i64 (d : Nat)]] H (Still (.agg #[.int .i64 ((a + c : Nat) : Int), .int .i64 ((max b (d + 1) : Nat) : Int)]) H) := by
 refine Bc Tryz.func136 U ntmps136 U (Ag (Ab (e_ (Bj (T U) cs_) ?_ U)))
 rintro _ _ ⟨n2, rfl, rfl⟩
 refine e_ (Bj (T U) cs_) ?_ U
 rintro _ _ ⟨n3, rfl, rfl⟩
 refine e_ (Aq zeroValue150 cs_) ?_ U
 rintro _ _ ⟨n4, rfl, rfl⟩
 refine Af (Ae (Ag (Ab (y_ (Bm (T U) fa150_0) (y_ (Aj (T U) isAgg3 (by first | exact c_o)) ?_ U) U))))
 refine y_ (Bm (T U) fa150_0) (y_ (Aj (T U) isAgg3 (by first | exact c_o)) ?_ U) U
 refine y_ (Bt (T U) (T U) (by omega)) ?_ U
 refine y_ (Bg (T U) fa150_1) (y_ (Aj (T U) isAgg3 (by first | exact c_o)) ?_ U) U
 refine y_ (Bg (T U) fa150_1) (y_ (Aj (T U) isAgg3 (by first | exact c_o)) ?_ U) U
 refine y_ (Bt (T U) Ak (by omega)) ?_ U
 refine y_ (yl_max (T U) (T U)) (y_ (Bq (.cons (T U) (.cons (T U) .nil)) (bd150_0_1 _ _)) ?_ U) U
 first | refine A6 (As (T U) (T U) sizeOf150) U Ah ?_
 rintro _ _ ⟨rfl, rfl⟩
 refine Af (Ae (A7 (A8 U (.cellA (Aa U) isAgg150 sizeOf150 U (by first | exact Bf) .nil) ?_)))
 exact ⟨_, ⟨by rw [show ((a + c : Nat) : Int) = a + c by omega, show ((max b (d + 1) : Nat) : Int) = max (b : Int) ((d : Int) + 1) by omega]; rfl, rfl⟩, sbt⟩
def sizS (w0 : World) (m : Rxm) : Prop := ∀ H : List (Nat × Obj), RxM w0 H m → m.sz ≤ 8388608 → FSpec Tryz.prog w0 98 #[.agg (encRx m).toArray] H (fun v H' => (∃ d : Nat, v = .agg #[.int .i64 (m.sz : Nat), .int .i64 (d : Nat)] ∧ d ≤ m.sz) ∧ H' = H)
theorem siz_step {w0 : World} {H : List (Nat × Obj)} (m : Rxm) (hM : RxM w0 H m) (hz : m.sz ≤ 8388608) (ih : ∀ a ∈ m.args, sizS w0 a) :
  FSpec Tryz.prog w0 98 #[.agg (encRx m).toArray] H (fun v H' => (∃ d : Nat, v = .agg #[.int .i64 (m.sz : Nat), .int .i64 (d : Nat)] ∧ d ≤ m.sz) ∧ H' = H) := by
 refine Bc Tryz.func98 U ntmps98 U ?_
 have hse := sz_eq m
 have hln := szL_len m.args
 have hA := hM.arr
 refine Ag (Ab (e_ (Bj (T U) cs_) ?_ U))
 rintro _ _ ⟨n1, rfl, rfl⟩
 refine e_ (Aq zeroValue150 cs_) ?_ U
 rintro _ _ ⟨n2, rfl, rfl⟩
 refine Af (Ae (Ag (Ab (y_ (Bq (.cons Ak (.cons Ak .nil)) (bd150_0_1 _ _)) (e_ (Aq zeroValue150 cs_) ?_ U) U))))
 rintro _ _ ⟨n3, rfl, rfl⟩
 first | refine A6 (As (T U) (T U) sizeOf150) U Ah ?_
 rintro _ _ ⟨rfl, rfl⟩
 refine Af (Ae (Ag (Ag (Ab (y_ (Ad Ak) (Af (Ae (Aw ?_))) U)))))
 refine Cd (X := Nat × Nat) (V := fun ⟨i, d⟩ => [(4, .int .i64 (i : Nat))]) (C := [(1, _), (2, _), (3, _)]) (G := fun ⟨i, d⟩ => (n3, Cl [.int .i64 ((1 + szL (m.args.take i) : Nat) : Int), .int .i64 (d : Nat)] 150) :: (n2, Cl [.int .i64 0, .int .i64 0] 150) :: (n1, Cl (encRx m) 24) :: H) (φ := fun ⟨i, d⟩ => i ≤ m.args.length ∧ d ≤ 1 + szL (m.args.take i)) (μ := fun ⟨i, d⟩ => m.args.length - i) (x0 := (0, 1)) ?_ ⟨Aa rfl, Aa rfl, Aa rfl, trivial⟩ ⟨atd, trivial⟩ sb0 ?_
 ·exact ⟨Nat.zero_le _, by omega⟩
 rintro ⟨i, d⟩ ⟨hi, hd⟩
 have htk : i < m.args.length → szL (m.args.take (i + 1)) = szL (m.args.take i) + (gd m.args i).sz := fun h => szL_take h
 have htl := Eb m.args (i + 1)
 have htl0 := Eb m.args i
 refine Ag (Ag (Ab (y_ (Ac (T U)) (y_ (Bg (T U) C8) (y_ (Aj (T U) isAgg22 (by first | exact c_o)) ?_ U) U) U)))
 refine y_ (Bn (T U) runUnderlying22) (y_ (B1 (T U) (T U)) (Af (Ae ?_)) U) U
 first | refine Ao (Aa U) (fun c10 => ?_) (fun c10 => ?_) | refine A5 (Aa U) (fun c10 => ?_) (fun c10 => ?_)
 ·refine A4 (Ae (Ag (Aw (Cm 8 [(0, true), (1, true), (2, true), (3, true), (4, true), (5, true), (6, false), (7, true)] _ mixd (by kernel_rfl) sb0 ?_))))
  refine o_y U (Am (T U) isAgg150 sizeOf150 U (by first | exact Bf)) ?_ U Ah
  refine o_y U (Bg (T U) C8) (o_y U (Aj (T U) isAgg22 (by first | exact c_o)) ?_ U Ah) U Ah
  refine o_y U (Ac (T U)) (o_y U (Bb (T U) (T U) runUnderlying22 sizeOf24 (by omega) (by first | exact rfl | exact hA.b (i := i) (by omega))) ?_ U Ah) U Ah
  refine o_y U (Am (T U) isAgg24 sizeOf24 U (by first | exact (hA.mono sbt).cs (i := i) (by omega) | exact Bf)) ?_ U Ah
  refine o_e U (Au (.cons (T U) .nil) call98 (ih _ (Ax (i := i) (by omega)) _ ((hM.arg (Ax (i := i) (by omega))).mono sbt) (by omega))) ?_ U Ah
  rintro _ _ ⟨⟨t, rfl, ht⟩, rfl⟩
  refine ⟨sbt, (o_y U (Av (.cons (T U) (.cons (T U) .nil)) call136 (fun H' hs => more_s (1 + szL (m.args.take i)) d (gd m.args i).sz t (by omega))) ?_ U Ah)⟩
  refine B3 U ?_
  first | refine A6 (As (T U) (T U) sizeOf150) U Ah ?_
  rintro _ _ ⟨rfl, rfl⟩
  refine Af (Bi (Ae (Ab (y_ (Ac (T U)) (y_ (Bt (T U) Ak (by omega)) ?_ U) U))))
  refine y_ (Ad (T U)) (Af ?_) U
  have htk := szL_take (l := m.args) (i := i) (by omega)
  have htl := Eb m.args (i + 1)
  have hgm := sz_mem (Ax (l := m.args) (i := i) (by omega))
  rw [show 1 + szL (m.args.take i) + (gd m.args i).sz = 1 + szL (m.args.take (i + 1)) by omega]
  refine Bk ((i + 1, max d (t + 1))) ?_ ?_ ⟨atd, trivial⟩ ⟨Aa U, Aa U, Aa U, trivial⟩ ?_
  ·exact ⟨by omega, by omega⟩
  ·first | omega | (simp only []; omega)
  ·exact sbt
 ·refine B2 (Ay (A2 (A3 (Ae (Ag (Ab (y_ (Am (T U) isAgg150 sizeOf150 U (by first | exact Bf)) ?_ U)))))))
  first | refine A6 (As (T U) (T U) sizeOf150) U Ah ?_
  rintro _ _ ⟨rfl, rfl⟩
  refine Af (Ae (A7 (A8 U (.cellA (Aa U) isAgg150 sizeOf150 U (by first | exact Bf) .nil) ?_)))
  rw [List.take_of_length_le (by omega)] at *
  exact ⟨_, ⟨⟨d, by rw [hse]; rfl, by omega⟩, rfl⟩, sbt⟩
theorem siz_s {w0 : World} {H : List (Nat × Obj)} (m : Rxm) (hM : RxM w0 H m) (hz : m.sz ≤ 8388608) : FSpec Tryz.prog w0 98 #[.agg (encRx m).toArray] H (fun v H' => (∃ d : Nat, v = .agg #[.int .i64 (m.sz : Nat), .int .i64 (d : Nat)] ∧ d ≤ m.sz) ∧ H' = H) :=
 rx_ind (Q := sizS w0) (fun m ih H hM hz => siz_step m hM hz ih) m H hM hz
end Go.Proofs.YtkdolgnpkjihpaaGreatDoor
namespace Go.Proofs.YtkdolgnpkjihpaaGreatDoor
open _root_.Go.Proofs.Tryz
open Go.RowKit
set_option linter.unusedVariables false
set_option linter.unusedSimpArgs false
def WantOk (m : Rxm) (w : Nat) (ok : Bool) : Prop := ((m.kind = 1 ∨ m.kind = 3) ∧ w = 0 ∧ (ok = true → m.node = ⟨#[]⟩)) ∨ (m.kind = 2 ∧ w = 0 ∧ (ok = true → m.node.size ≠ 0)) ∨ ((m.kind = 4 ∨ m.kind = 5) ∧ w = 2 ∧ (ok = true → m.node = ⟨#[]⟩)) ∨ (m.kind = 6 ∧ w = 1 ∧ (ok = true → m.node = ⟨#[]⟩))
theorem WantOk.le {m : Rxm} {w : Nat} {ok : Bool} (h : WantOk m w ok) : w ≤ 2 := by unfold WantOk at h; omega
theorem want_is {m : Rxm} {w : Nat} (h : WantOk m w true) (hl : m.args.length = w) (hp : ∀ j, j < w → ∃ e, Is (gd m.args j) e) : ∃ e, Is m e := by
 obtain ⟨k, s, q, c, xs⟩ := m
 simp only [WantOk, Rxm.kind, Rxm.node, Rxm.args] at h hl hp
 rcases h with ⟨hk, rfl, hn⟩ | ⟨rfl, rfl, hn⟩ | ⟨hk, rfl, hn⟩ | ⟨rfl, rfl, hn⟩
 ·have := List.eq_nil_of_length_eq_zero hl; subst this
  have := hn trivial; subst this
  rcases hk with rfl | rfl
  ·exact ⟨_, .emp⟩
  ·exact ⟨_, .any⟩
 ·have := List.eq_nil_of_length_eq_zero hl; subst this
  exact ⟨_, .nod (hn trivial)⟩
 ·match xs, hl with
  | [a, b], _ =>
   have := hn trivial; subst this
   obtain ⟨e1, h1⟩ := hp 0 (by omega)
   obtain ⟨e2, h2⟩ := hp 1 (by omega)
   rcases hk with rfl | rfl
   ·exact ⟨_, .seq h1 h2⟩
   ·exact ⟨_, .alt h1 h2⟩
 ·match xs, hl with
  | [a], _ =>
   have := hn trivial; subst this
   obtain ⟨e1, h1⟩ := hp 0 (by omega)
   exact ⟨_, .star h1⟩
theorem Is.lvz {m : Rxm} {e : Re} (h : Is m e) : 2 * e.lv ≤ m.sz + 1 := by
 induction h with
 | emp => simp [Re.lv]
 | nod _ => simp [Re.lv, Rxm.sz, szL]
 | any => simp [Re.lv, Rxm.sz, szL]
 | seq h1 h2 i1 i2 => simp only [Re.lv, Rxm.sz, szL]; omega
 | alt h1 h2 i1 i2 => simp only [Re.lv, Rxm.sz, szL]; omega
 | star h1 i1 => simp only [Re.lv, Rxm.sz, szL]; omega
theorem Dt {s : ByteArray} {b : Bool} (e : b = decide (s.data.toList = (⟨#[]⟩ : ByteArray).data.toList)) (h : b = true) : s = ⟨#[]⟩ := by
 rw [h] at e
 exact ByteArray.ext (Array.ext' (of_decide_eq_true e.symm))
def fmdS (w0 : World) (m : Rxm) : Prop := ∀ H : List (Nat × Obj), RxM w0 H m → m.sz ≤ 8388608 → FSpec Tryz.prog w0 99 #[.agg (encRx m).toArray] H (fun v H' => (∃ t : Bool, v = .bool t ∧ (t = true → ∃ e, Is m e)) ∧ H' = H)
theorem fmd_step {w0 : World} {H : List (Nat × Obj)} (m : Rxm) (hM : RxM w0 H m) (hz : m.sz ≤ 8388608) (ih : ∀ a ∈ m.args, fmdS w0 a) :
  FSpec Tryz.prog w0 99 #[.agg (encRx m).toArray] H (fun v H' => (∃ t : Bool, v = .bool t ∧ (t = true → ∃ e, Is m e)) ∧ H' = H) := by
 refine Bc Tryz.func99 U ntmps99 U ?_
 have hse := sz_eq m
 have hln := szL_len m.args
 have hA := hM.arr
 refine Ag (Ab (e_ (Bj (T U) cs_) ?_ U))
 rintro _ _ ⟨n1, rfl, rfl⟩
 refine y_ (Ad Ak) (Af (Ae (Ag (Ab (y_ (Bg (T U) fa24_1) (y_ (Aj (T U) isAgg9 (by first | exact c_o)) ?_ U) U))))) U
 refine e_ (Au (.cons (T U) .nil) call137 (plain_s m.node hM.nl)) ?_ U
 rintro _ _ ⟨⟨t1, rfl, ht1⟩, rfl⟩
 refine y_ (Ad (T U)) (Af (Ae (Ag (Ab (y_ (Ad Ak) (Af (Ae (Ag (Ab (y_ (Bg (T U) fa24_1) (y_ (Aj (T U) isAgg9 (by first | exact c_o)) ?_ U) U))))) U))))) U
 refine y_ (D0 (T U) Ak) (y_ (Ad (T U)) (Af (Ae ?_)) U) U
 refine j_cutH (X := Nat × Bool) (V := fun ⟨wn, ok⟩ => [(4, .int .i64 (wn : Nat)), (5, .bool ok)]) (C := [(1, _)]) (φ := fun ⟨wn, ok⟩ => WantOk m wn ok) ⟨Aa rfl, trivial⟩ ?_ ?_
 ·refine Ag (Ab (y_ (Bm (T U) Dk) (y_ (Aj (T U) isAgg3 (by first | exact c_o)) ?_ U) U))
  refine Af (Ae (Aw (Ag (Ag (Ab (y_ (By (T U) Ak) (y_ (Ad (T U)) (Af (Ae ?_)) U) U))))))
  first | refine Ao (Aa U) (fun c16 => ?_) (fun c16 => ?_) | refine A5 (Aa U) (fun c16 => ?_) (fun c16 => ?_)
  ·refine A4 (Ae ?_)
   first | refine Bx (Aa U) ?_ | refine Bx (Ai (Aa U) (vbool (decide_eq_true c16))) ?_
   refine Ab (y_ (Ad Ak) (Af (Bi ?_)) U)
   refine Bp ((0, _)) ?_ ⟨atd, atd, trivial⟩ ⟨Aa U, trivial⟩ sbt
   first | exact .inl ⟨by omega, rfl, fun h => Dt U h⟩ | exact .inr (.inl ⟨by omega, rfl, ht1⟩) | exact .inr (.inr (.inl ⟨by omega, rfl, fun h => Dt U h⟩)) | exact .inr (.inr (.inr ⟨by omega, rfl, fun h => Dt U h⟩))
  ·refine Ab (y_ (By (T U) Ak) (y_ (Ad (T U)) (Af (Ae ?_)) U) U)
   first | refine Ao (Aa U) (fun c16 => ?_) (fun c16 => ?_) | refine A5 (Aa U) (fun c16 => ?_) (fun c16 => ?_)
   ·refine Ab (y_ (Ad Ak) (Af (Bi ?_)) U)
    refine Bp ((0, _)) ?_ ⟨atd, atd, trivial⟩ ⟨Aa U, trivial⟩ sbt
    first | exact .inl ⟨by omega, rfl, fun h => Dt U h⟩ | exact .inr (.inl ⟨by omega, rfl, ht1⟩) | exact .inr (.inr (.inl ⟨by omega, rfl, fun h => Dt U h⟩)) | exact .inr (.inr (.inr ⟨by omega, rfl, fun h => Dt U h⟩))
   ·refine Ag (Ab (y_ (By (T U) Ak) (y_ (Ad (T U)) (Af (Ae ?_)) U) U))
    first | refine Ao (Aa U) (fun c19 => ?_) (fun c19 => ?_) | refine A5 (Aa U) (fun c19 => ?_) (fun c19 => ?_)
    ·refine Ab (y_ (Ac (T U)) (y_ (Ad (T U)) (Af (Bi ?_)) U) U)
     refine Bp ((0, _)) ?_ ⟨atd, atd, trivial⟩ ⟨Aa U, trivial⟩ sbt
     first | exact .inl ⟨by omega, rfl, fun h => Dt U h⟩ | exact .inr (.inl ⟨by omega, rfl, ht1⟩) | exact .inr (.inr (.inl ⟨by omega, rfl, fun h => Dt U h⟩)) | exact .inr (.inr (.inr ⟨by omega, rfl, fun h => Dt U h⟩))
    ·refine Ag (Ag (Ab (y_ (By (T U) Ak) (y_ (Ad (T U)) (Af (Ae ?_)) U) U)))
     first | refine Ao (Aa U) (fun c22 => ?_) (fun c22 => ?_) | refine A5 (Aa U) (fun c22 => ?_) (fun c22 => ?_)
     ·refine A4 (Ae ?_)
      first | refine Bx (Aa U) ?_ | refine Bx (Ai (Aa U) (vbool (decide_eq_true c22))) ?_
      refine Ab (y_ (Ad Ak) (Af (Bi ?_)) U)
      refine Bp ((2, _)) ?_ ⟨atd, atd, trivial⟩ ⟨Aa U, trivial⟩ sbt
      first | exact .inl ⟨by omega, rfl, fun h => Dt U h⟩ | exact .inr (.inl ⟨by omega, rfl, ht1⟩) | exact .inr (.inr (.inl ⟨by omega, rfl, fun h => Dt U h⟩)) | exact .inr (.inr (.inr ⟨by omega, rfl, fun h => Dt U h⟩))
     ·refine Ab (y_ (By (T U) Ak) (y_ (Ad (T U)) (Af (Ae ?_)) U) U)
      first | refine Ao (Aa U) (fun c22 => ?_) (fun c22 => ?_) | refine A5 (Aa U) (fun c22 => ?_) (fun c22 => ?_)
      ·refine Ab (y_ (Ad Ak) (Af (Bi ?_)) U)
       refine Bp ((2, _)) ?_ ⟨atd, atd, trivial⟩ ⟨Aa U, trivial⟩ sbt
       first | exact .inl ⟨by omega, rfl, fun h => Dt U h⟩ | exact .inr (.inl ⟨by omega, rfl, ht1⟩) | exact .inr (.inr (.inl ⟨by omega, rfl, fun h => Dt U h⟩)) | exact .inr (.inr (.inr ⟨by omega, rfl, fun h => Dt U h⟩))
      ·refine Ag (Ab (y_ (By (T U) Ak) (y_ (Ad (T U)) (Af (Ae (Bl [(1, _), (5, _), (25, _)] ⟨Aa U, Aa U, Aa U, trivial⟩ ?_))) U) U))
       first | refine Ao (Aa U) (fun c25 => ?_) (fun c25 => ?_) | refine A5 (Aa U) (fun c25 => ?_) (fun c25 => ?_)
       ·refine Ab (y_ (Ad Ak) (Af (Bi ?_)) U)
        refine Bp ((1, _)) ?_ ⟨atd, atd, trivial⟩ ⟨Aa U, trivial⟩ sbt
        first | exact .inl ⟨by omega, rfl, fun h => Dt U h⟩ | exact .inr (.inl ⟨by omega, rfl, ht1⟩) | exact .inr (.inr (.inl ⟨by omega, rfl, fun h => Dt U h⟩)) | exact .inr (.inr (.inr ⟨by omega, rfl, fun h => Dt U h⟩))
       ·refine Ag (Ab (y_ (Ad Ak) (Af (Ae (A7 (A0 (q_cut_ret (A8 U (.tmp (Aa U) .nil) ?_)))))) U))
        exact ⟨_, ⟨⟨_, rfl, fun h => by cases h⟩, rfl⟩, sbt⟩
 rintro ⟨wn, ok⟩ hw
 have hwl := hw.le
 refine Ag (Ag (Ab (y_ (Ac (T U)) ?_ U)))
 first | refine Be (Cp (T U)) U Ah ?_ | refine Be (C1 (T U)) U Ah ?_
 refine y_ (Ac (T U)) ?_ U
 first | refine Cb (s := 29) (Aa U) (fun c29 => ?_) (fun c29 => ?_) | refine Cu (s := 29) (Aa U) (fun c29 => ?_) (fun c29 => ?_)
 ·refine Cv (Cv (Cv (Cv (Cv (y_ (Az (T U) Ak) (Af (Ae ?_)) U) U U U U) U U U U) U U U U) U U U U) U U U U
  first | refine Bx (Aa U) ?_ | refine Bx (Ai (Aa U) (vbool (decide_eq_true c35))) ?_
  refine Ag (Ab (y_ (Ad Ak) (Af (Ae (A7 (Ap (A8 U (.tmp (Aa U) .nil) ?_))))) U))
  exact ⟨_, ⟨⟨_, rfl, fun h => by cases h⟩, rfl⟩, sbt⟩
 ·refine Be (Bg (T U) C8) U (Ar U U (Aa U)) (Be (Aj (T U) isAgg22 (by first | exact c_o)) U (Ar U U (Aa U)) ?_)
  refine Be (Bn (T U) runUnderlying22) U (Ar U U (Aa U)) (Be (Ac (T U)) U (Ar U U (Aa U)) (Be (Cy (T U) (T U)) U (Ar U U (Aa U)) (y_ (A9 (T U) (T U)) (Af (Ae ?_)) U)))
  first | refine Ao (Aa U) (fun c35 => ?_) (fun c35 => ?_) | refine A5 (Aa U) (fun c35 => ?_) (fun c35 => ?_)
  ·refine Ag (Ab (y_ (Ad Ak) (Af (Ae (A7 (Ap (A8 U (.tmp (Aa U) .nil) ?_))))) U))
   exact ⟨_, ⟨⟨_, rfl, fun h => by cases h⟩, rfl⟩, sbt⟩
  ·refine A4 (Ae (Ag (Ag (Ab (y_ (Ad Ak) (Af (Ae (Aw ?_))) U)))))
   refine Ci (X := Nat) (V := fun i => [(6, .int .i64 (i : Nat))]) (C := [(1, _), (4, _)]) (φ := fun i => i ≤ wn ∧ m.args.length = wn ∧ ok = true ∧ ∀ j, j < i → ∃ e, Is (gd m.args j) e) (μ := fun i => wn - i) (x0 := 0) ?_ ⟨Aa U, Aa U, trivial⟩ ⟨atd, trivial⟩ ?_
   ·exact ⟨Nat.zero_le _, by omega, by simpa using c29, fun j hj => absurd hj (Nat.not_lt_zero _)⟩
   rintro i ⟨hi, hal, hok, hall⟩
   have htk : i < m.args.length → szL (m.args.take (i + 1)) = szL (m.args.take i) + (gd m.args i).sz := fun h => szL_take h
   have htl := Eb m.args (i + 1)
   have htl0 := Eb m.args i
   refine Ag (Ag (Ab (y_ (Ac (T U)) (y_ (Ac (T U)) (y_ (B1 (T U) (T U)) (Af (Ae ?_)) U) U) U)))
   first | refine Ao (Aa U) (fun c38 => ?_) (fun c38 => ?_) | refine A5 (Aa U) (fun c38 => ?_) (fun c38 => ?_)
   ·refine A4 (Ae (Ag (Aw (Ag (Ab (y_ (Bg (T U) C8) (y_ (Aj (T U) isAgg22 (by first | exact c_o)) ?_ U) U))))))
    refine y_ (Ac (T U)) (y_ (Bb (T U) (T U) runUnderlying22 sizeOf24 (by omega) (by first | exact rfl | exact hA.b (i := i) (by omega))) ?_ U) U
    refine y_ (Am (T U) isAgg24 sizeOf24 U (by first | exact (hA.mono sbt).cs (i := i) (by omega) | exact Bf)) ?_ U
    refine e_ (Au (.cons (T U) .nil) call99 (ih _ (Ax (i := i) (by omega)) _ ((hM.arg (Ax (i := i) (by omega))).mono sbt) (by omega))) ?_ U
    rintro _ _ ⟨⟨t, rfl, ht⟩, rfl⟩
    refine y_ (Ad (T U)) (Af (Ae (Ag (Ab (y_ (Ac (T U)) ?_ U))))) U
    first | refine Be (Cp (T U)) U Ah ?_ | refine Be (C1 (T U)) U Ah ?_
    refine Af (Ae ?_)
    first | refine Ao (Aa U) (fun c48 => ?_) (fun c48 => ?_) | refine A5 (Aa U) (fun c48 => ?_) (fun c48 => ?_)
    ·refine Ag (Ab (y_ (Ad Ak) (Af (Ae (A7 (A0 (Ap (B9 (A0 (Ap (A8 U (.tmp (Aa U) .nil) ?_))))))))) U))
     exact ⟨_, ⟨⟨_, rfl, fun h => by cases h⟩, rfl⟩, sbt⟩
    ·refine A4 (Bi (Ae (Ab (y_ (Ac (T U)) (y_ (Bt (T U) Ak (by omega)) ?_ U) U))))
     refine y_ (Ad (T U)) (Af ?_) U
     refine Bk (i + 1) ?_ ?_ ⟨atd, trivial⟩ ⟨Aa U, Aa U, trivial⟩ ?_
     ·refine ⟨by omega, hal, hok, fun j hj => ?_⟩
      by_cases e : j = i
      ·subst e; exact ht (by simpa using c48)
      ·exact hall j (by omega)
     ·first | omega | (simp only []; omega)
     ·exact sbt
   ·refine B2 (Ay (A2 (A3 (Ae (Ag (Ab (y_ (Ad Ak) (Af (Ae (A7 (A8 U (.tmp (Aa U) .nil) ?_)))) U)))))))
    exact ⟨_, ⟨⟨_, rfl, fun _ => want_is (hok ▸ hw) hal (fun j hj => hall j (by omega))⟩, rfl⟩, sbt⟩
theorem fmd_s {w0 : World} {H : List (Nat × Obj)} (m : Rxm) (hM : RxM w0 H m) (hz : m.sz ≤ 8388608) : FSpec Tryz.prog w0 99 #[.agg (encRx m).toArray] H (fun v H' => (∃ t : Bool, v = .bool t ∧ (t = true → ∃ e, Is m e)) ∧ H' = H) :=
 rx_ind (Q := fmdS w0) (fun m ih H hM hz => fmd_step m hM hz ih) m H hM hz
theorem lim_s {w0 : World} {H : List (Nat × Obj)} (a b : Nat) :
  FSpec Tryz.prog w0 135 #[.agg #[.int .i64 (a : Nat), .int .i64 (b : Nat)]] H (fun v H' => (∃ t : Int, v = .int .i64 t) ∧ H' = H) := by
 refine Bc Tryz.func135 U ntmps135 U (Ag (Ab (e_ (Bj (T U) cs_) ?_ U)))
 rintro _ _ ⟨n1, rfl, rfl⟩
 refine y_ (Ad Ak) (Af (Ae (Ag (Ag (Ab (y_ (Bm (T U) fa150_0) (y_ (Aj (T U) isAgg3 (by first | exact c_o)) ?_ U) U)))))) U
 refine y_ (yl_gtr (T U) Ak) (y_ (Ac (T U)) ?_ U) U
 first | refine Cb (s := 6) (Aa U) (fun c6 => ?_) (fun c6 => ?_) | refine Cu (s := 6) (Aa U) (fun c6 => ?_) (fun c6 => ?_)
 ·refine Cv (Cv (Cv (y_ (Az (T U) Ak) (Af (Ae ?_)) U) U U U U) U U U U) U U U U
  first | refine Bx (Aa U) ?_ | refine Bx (Ai (Aa U) (vbool (decide_eq_true c10))) ?_
  refine Ag (Ab (y_ (Ad Ak) (Af (Ae (A7 (Ap (A8 U (.tmp (Aa U) .nil) ?_))))) U))
  exact ⟨_, ⟨⟨_, rfl⟩, rfl⟩, sbt⟩
 ·refine Be (Bg (T U) fa150_1) U (Ar U U (Aa U)) (Be (Aj (T U) isAgg3 (by first | exact c_o)) U (Ar U U (Aa U)) ?_)
  refine Be (yl_gtr (T U) Ak) U (Ar U U (Aa U)) (y_ (A9 (T U) (T U)) (Af (Ae ?_)) U)
  first | refine Ao (Aa U) (fun c10 => ?_) (fun c10 => ?_) | refine A5 (Aa U) (fun c10 => ?_) (fun c10 => ?_)
  ·refine Ag (Ab (y_ (Ad Ak) (Af (Ae (A7 (Ap (A8 U (.tmp (Aa U) .nil) ?_))))) U))
   exact ⟨_, ⟨⟨_, rfl⟩, rfl⟩, sbt⟩
  ·refine A4 (Ae (Ag (Ab (y_ (Ad Ak) (Af (Ae (A7 (A8 U (.tmp (Aa U) .nil) ?_)))) U))))
   exact ⟨_, ⟨⟨_, rfl⟩, rfl⟩, sbt⟩
theorem frm_s {w0 : World} {H : List (Nat × Obj)} (a b : Nat) (t : Bool) :
  FSpec Tryz.prog w0 97 #[.agg #[.int .i64 (a : Nat), .int .i64 (b : Nat)], .bool t] H (fun v H' => (∃ e : Int, v = .int .i64 e ∧ (e = 0 → t = true)) ∧ H' = H) := by
 refine Bc Tryz.func97 U ntmps97 U (Ag (Ab (e_ (Bj (T U) cs_) ?_ U)))
 rintro _ _ ⟨n2, rfl, rfl⟩
 refine y_ (Ad Ak) (Af (Ae (Ag (Ab (y_ (Am (T U) isAgg150 sizeOf150 U (by first | exact Bf)) ?_ U))))) U
 refine e_ (Au (.cons (T U) .nil) call135 (lim_s a b)) ?_ U
 rintro _ _ ⟨⟨e0, rfl⟩, rfl⟩
 refine y_ (Ad (T U)) (Af (Ae (Ag (Ag (Ab (y_ (Ac (T U)) (y_ (By (T U) Ak) (y_ (Ac (T U)) ?_ U) U) U)))))) U
 first | refine Cb (s := 10) (Aa U) (fun c10 => ?_) (fun c10 => ?_) | refine Cu (s := 10) (Aa U) (fun c10 => ?_) (fun c10 => ?_)
 ·refine Be (Ac (T U)) U (Ar U U (Aa U)) ?_
  first | refine Be (Cp (T U)) U (Ar U U (Aa U)) ?_ | refine Be (C1 (T U)) U (Ar U U (Aa U)) ?_
  refine y_ (Az (T U) (T U)) (Af (Ae ?_)) U
  first | refine Ao (Aa U) (fun c13 => ?_) (fun c13 => ?_) | refine A5 (Aa U) (fun c13 => ?_) (fun c13 => ?_)
  ·refine Ag (Ab (y_ (Ad Ak) (Af (Ae (A7 (Ap (A8 U (.tmp (Aa U) .nil) ?_))))) U))
   exact ⟨_, ⟨⟨_, rfl, fun h => (by first | (exfalso; omega) | (simp_all; done) | (cases t <;> simp_all; done))⟩, rfl⟩, sbt⟩
  ·refine A4 (Ae (Ag (Ab (y_ (Ac (T U)) (y_ (Ad (T U)) (Af (Ae (A7 (A8 U (.tmp (Aa U) .nil) ?_)))) U) U))))
   exact ⟨_, ⟨⟨_, rfl, fun h => (by first | (exfalso; omega) | (simp_all; done) | (cases t <;> simp_all; done))⟩, rfl⟩, sbt⟩
 ·refine B6 (B6 (y_ (A9 (T U) Ak) (Af (Ae ?_)) U) U U U U) U U U U
  first | refine Br (Aa U) ?_ | refine Br (Ai (Aa U) (vbool (decide_eq_false c13))) ?_
  refine A4 (Ae (Ag (Ab (y_ (Ac (T U)) (y_ (Ad (T U)) (Af (Ae (A7 (A8 U (.tmp (Aa U) .nil) ?_)))) U) U))))
  exact ⟨_, ⟨⟨_, rfl, fun h => (by first | (exfalso; omega) | (simp_all; done) | (cases t <;> simp_all; done))⟩, rfl⟩, sbt⟩
theorem chkr_s {w0 : World} {H : List (Nat × Obj)} (m : Rxm) (hM : RxM w0 H m) (hz : m.sz ≤ 8388608) :
  FSpec Tryz.prog w0 40 #[.agg (encRx m).toArray] H (fun v H' => (∃ e : Int, v = .int .i64 e ∧ (e = 0 → ∃ x, Is m x)) ∧ H' = H) := by
 refine Bc Tryz.func40 U ntmps40 U (Ag (Ab (e_ (Bj (T U) cs_) ?_ U)))
 rintro _ _ ⟨n1, rfl, rfl⟩
 refine y_ (Ad Ak) (Af (Ae (Ag (Cm 3 [(0, true), (2, true), (1, false)] _ mixd (by kernel_rfl) sb0 ?_)))) U
 refine o_y U (Am (T U) isAgg24 sizeOf24 U (by first | exact Bf)) ?_ U Ah
 refine o_y U (Am (T U) isAgg24 sizeOf24 U (by first | exact Bf)) ?_ U Ah
 refine o_e U (Au (.cons (T U) .nil) call98 (siz_s m (hM.mono sbt) hz)) ?_ U Ah
 rintro _ _ ⟨⟨d, rfl, hd⟩, rfl⟩
 refine ⟨sbt, (B3 U (e_ (Au (.cons (T U) .nil) call99 (fmd_s m (hM.mono sbt) hz)) ?_ U))⟩
 rintro _ _ ⟨⟨t, rfl, ht⟩, rfl⟩
 refine e_ (Au (.cons (T U) (.cons (T U) .nil)) call97 (frm_s m.sz d t)) ?_ U
 rintro _ _ ⟨⟨e, rfl, he⟩, rfl⟩
 refine y_ (Ad (T U)) (Af (Ae (A7 (A8 U (.tmp (Aa U) .nil) ?_)))) U
 exact ⟨_, ⟨⟨_, rfl, fun h => ht (he h)⟩, rfl⟩, sbt⟩
theorem few8_s {w0 : World} {H : List (Nat × Obj)} (m : Rxm) (hM : RxM w0 H m) (hz : m.sz ≤ 8388608) :
  FSpec Tryz.prog w0 10 #[.agg (encRx m).toArray] H (fun v H' => (∃ t : Bool, v = .bool t ∧ (t = true → ∃ x, Is m x ∧ m.sz ≤ 40)) ∧ H' = H) := by
 refine Bc Tryz.func10 U ntmps10 U (Ag (Ab (e_ (Bj (T U) cs_) ?_ U)))
 rintro _ _ ⟨n1, rfl, rfl⟩
 refine y_ (Ad Ak) (Af (Ae (Ag (Ab (y_ (Am (T U) isAgg24 sizeOf24 U (by first | exact Bf)) ?_ U))))) U
 refine e_ (Au (.cons (T U) .nil) call40 (chkr_s m (hM.mono sbt) hz)) ?_ U
 rintro _ _ ⟨⟨e, rfl, he⟩, rfl⟩
 refine y_ (Ad (T U)) (Af (Ae (Ag (Ab (y_ (Ac (T U)) (y_ (By (T U) Ak) (y_ (Ac (T U)) ?_ U) U) U))))) U
 first | refine Cb (s := 8) (Aa U) (fun c8 => ?_) (fun c8 => ?_) | refine Cu (s := 8) (Aa U) (fun c8 => ?_) (fun c8 => ?_)
 ·refine Be (Am (T U) isAgg24 sizeOf24 U (by first | exact Bf)) U (Ar U U (Aa U)) ?_
  refine Be (Av (.cons (T U) .nil) call41 (fun H' hs => cnt_s m (hM.mono (List.Sublist.trans sbt hs)) hz)) U (Ar U U (Aa U)) (Be (yl_leq (T U) Ak) U (Ar U U (Aa U)) (y_ (Az (T U) (T U)) (y_ (Ac (T U)) ?_ U) U))
  first | refine Cb (s := 13) (Aa U) (fun c13 => ?_) (fun c13 => ?_) | refine Cu (s := 13) (Aa U) (fun c13 => ?_) (fun c13 => ?_)
  ·refine Be (Am (T U) isAgg24 sizeOf24 U (by first | exact Bf)) U (Ar U U (Aa U)) ?_
   refine A6 (Au (.cons (T U) .nil) call42 (str_s m (hM.mono sbt) hz)) U (Ar U U (Aa U)) ?_
   rintro _ _ ⟨⟨t, rfl, ht⟩, rfl⟩
   refine Be (yl_leq (T U) Ak) U (Ar U U (Aa U)) (y_ (Az (T U) (T U)) (y_ (Ad (T U)) (Af (Ae (A7 (A8 U (.tmp (Aa U) .nil) ?_)))) U) U)
   exact ⟨_, ⟨⟨_, rfl, fun h => (by first | (obtain ⟨x, hx⟩ := he (by omega); exact ⟨x, hx, by omega⟩) | cases h)⟩, rfl⟩, sbt⟩
  ·refine B6 (B6 (B6 (y_ (A9 (T U) Ak) (y_ (Ad (T U)) (Af (Ae (A7 (A8 U (.tmp (Aa U) .nil) ?_)))) U) U) U U U U) U U U U) U U U U
   exact ⟨_, ⟨⟨_, rfl, fun h => (by first | (obtain ⟨x, hx⟩ := he (by omega); exact ⟨x, hx, by omega⟩) | cases h)⟩, rfl⟩, sbt⟩
 ·refine B6 (B6 (B6 (y_ (A9 (T U) Ak) (y_ (Ac (T U)) (B6 (B6 (B6 (y_ (A9 (T U) Ak) (y_ (Ad (T U)) (Af (Ae (A7 (A8 U (.tmp (Aa U) .nil) ?_)))) U) U) U U U U) U U U U) U U U U) U) U) U U U U) U U U U) U U U U
  exact ⟨_, ⟨⟨_, rfl, fun h => (by first | (obtain ⟨x, hx⟩ := he (by omega); exact ⟨x, hx, by omega⟩) | cases h)⟩, rfl⟩, sbt⟩
theorem few_s {w0 : World} {H : List (Nat × Obj)} (m : Rxm) (hM : RxM w0 H m) (hz : m.sz ≤ 1048576) :
  FSpec Tryz.prog w0 10 #[.agg (encRx m).toArray] H (fun v H' => (∃ t : Bool, v = .bool t ∧ (t = true → ∃ x, Is m x ∧ m.sz ≤ 40)) ∧ H' = H) := few8_s m hM (by omega)
end Go.Proofs.YtkdolgnpkjihpaaGreatDoor
namespace Go.Proofs.YtkdolgnpkjihpaaGreatDoor
open _root_.Go.Proofs.Tryz
open Go.RowKit
set_option linter.unusedVariables false
set_option linter.unusedSimpArgs false
end Go.Proofs.YtkdolgnpkjihpaaGreatDoor
namespace Go.Proofs.YtkdolgnpkjihpaaGreatDoor
open _root_.Go.Proofs.Tryz
open Go.RowKit
set_option linter.unusedVariables false
set_option linter.unusedSimpArgs false
structure RgtOk (n : Nm) (f : Flr) (x y : Int) : Prop where
 net : NetOk n
 nn : n.nodes.length ≤ 12
 nl : n.links.length ≤ 30
 fl : f.links.length ≤ 30
 x : 0 ≤ x ∧ x < n.nodes.length
 y : 0 ≤ y ∧ y < n.nodes.length
end Go.Proofs.YtkdolgnpkjihpaaGreatDoor
namespace Go.Proofs.YtkdolgnpkjihpaaGreatDoor
open _root_.Go.Proofs.Tryz
open Go.RowKit
set_option linter.unusedVariables false
set_option linter.unusedSimpArgs false
section
variable {P : Program} {w0 : World} {L : Fm} {ty : TypeId} {H : List (Nat × Obj)} {x y : Operand} {t t2 e : TypeId}
theorem C7 {α : Type} {enc : α → List Value} (l2 : List α) {q : Option Addr} {k c sz by' : Nat} {z : Value} {i0 : TypeInfo} {e2 : TypeId} (hk : k = l2.length) (hx : Ev L x (.slice none 0 0)) (hy : Ev L y (.slice q k c))
  (ht : ∀ w, (underlying t).run P w = .ok (.slice e) w) (ht2 : ∀ w, (underlying t2).run P w = .ok (.slice e2) w) (hz : ∀ w, (sizeOf e).run P w = .ok sz w) (hi : ∀ w, (typeInfo e).run P w = .ok i0 w) (hby : i0.bytes = by') (hzv : ∀ w, (zeroValue e).run P w = .ok z w) (hzs : z.cells.size = sz)
  (he : ∀ u, (enc u).length = sz) (h1 : ∀ u, (enc u).all oneB = true) (hb0 : by' ≠ 0) (hb : (2 * l2.length + 600) * by' ≤ 281474976710656) (hA : Arr w0 H q sz enc l2) :
  Eff P w0 (.call { callee := .builtin .append, args := #[x, y], argTypes := #[t, t2] }) ty L H (fun u H' => ∃ d', u = slV d' l2.length ∧ SlOk d' l2.length sz ∧ H' = slH d' (l2.flatMap enc) e ++ H) := by
 subst hk
 have h := eff_appN_at (P := P) (w0 := w0) (L := L) (ty := ty) (H := H) (x := x) (y := y) (t := t) (t2 := t2) (e := e) (enc := enc) l2 (R := H) (d := .nil) (l := []) (F := fun M' => M' ++ H) (show LocL ([] ++ H) [] H _ from .h) hx hy ht ht2 hz hi hby hzv hzs he h1 U hb0 (by simpa using hb) hA
 simpa using h
theorem C9 {α : Type} {enc : α → List Value} (l2 : List α) {R : List (Nat × Obj)} {F : List (Nat × Obj) → List (Nat × Obj)} {d : Sl} {l : List α} {q : Option Addr} {k c sz by' : Nat} {z : Value} {i0 : TypeInfo} {e2 : TypeId} (hk : k = l2.length) (hl : LocL H (slH d (l.flatMap enc) e) R F) (hx : Ev L x (slV d l.length)) (hy : Ev L y (.slice q k c))
  (ht : ∀ w, (underlying t).run P w = .ok (.slice e) w) (ht2 : ∀ w, (underlying t2).run P w = .ok (.slice e2) w) (hz : ∀ w, (sizeOf e).run P w = .ok sz w) (hi : ∀ w, (typeInfo e).run P w = .ok i0 w) (hby : i0.bytes = by') (hzv : ∀ w, (zeroValue e).run P w = .ok z w) (hzs : z.cells.size = sz)
  (he : ∀ u, (enc u).length = sz) (h1 : ∀ u, (enc u).all oneB = true) (hok : SlOk d l.length sz) (hb0 : by' ≠ 0) (hb : (2 * (l.length + l2.length) + 600) * by' ≤ 281474976710656) (hA : Arr w0 H q sz enc l2) :
  Eff P w0 (.call { callee := .builtin .append, args := #[x, y], argTypes := #[t, t2] }) ty L H (fun u H' => ∃ d', u = slV d' (l ++ l2).length ∧ SlOk d' (l ++ l2).length sz ∧ H' = F (slH d' ((l ++ l2).flatMap enc) e)) := by
 subst hk
 rw [List.length_append]
 exact eff_appN_at l2 hl hx hy ht ht2 hz hi hby hzv hzs he h1 hok hb0 hb hA
theorem B8 {α : Type} {enc : α → List Value} (v : α) {R : List (Nat × Obj)} {F : List (Nat × Obj) → List (Nat × Obj)} {d : Sl} {l : List α} {n sz by' : Nat} {z : Value} {i0 : TypeInfo} {e2 : TypeId} (hl : LocL H (slH d (l.flatMap enc) e) R F) (hx : Ev L x (slV d l.length)) (hy : Ev L y (.slice (some ⟨n, 0, none⟩) 1 1))
  (ht : ∀ w, (underlying t).run P w = .ok (.slice e) w) (ht2 : ∀ w, (underlying t2).run P w = .ok (.slice e2) w) (hz : ∀ w, (sizeOf e).run P w = .ok sz w) (hi : ∀ w, (typeInfo e).run P w = .ok i0 w) (hby : i0.bytes = by') (hzv : ∀ w, (zeroValue e).run P w = .ok z w) (hzs : z.cells.size = sz)
  (he : ∀ u, (enc u).length = sz) (h1 : (enc v).all oneB = true) (hok : SlOk d l.length sz) (hb0 : by' ≠ 0) (hb : (2 * (l.length + 1) + 600) * by' ≤ 281474976710656) (hn : Cells w0 H n 0 (enc v) := by exact Bf) :
  Eff P w0 (.call { callee := .builtin .append, args := #[x, y], argTypes := #[t, t2] }) ty L H (fun u H' => ∃ d', u = slV d' (l ++ [v]).length ∧ SlOk d' (l ++ [v]).length sz ∧ H' = F (slH d' ((l ++ [v]).flatMap enc) e)) := by
 rw [List.length_append]
 exact Bw v hl hx hy ht ht2 hz hi hby hzv hzs he h1 hok hb0 hb hn
end
theorem D4 {d : Sl} {k sz : Nat} (h : SlOk d k sz) : k ≤ slC d := by
 cases d with
 | nil => have : k = 0 := h; rw [this]; exact Nat.zero_le _
 | blk n cap junk => exact h.1
def putF (n : Nat) : List Nat → List Nat
 | [] => [n]
 | x :: l => if x < n then x :: putF n l else if x = n then x :: l else n :: x :: l
theorem putF_in {n : Nat} : ∀ {l : List Nat} {k : Nat}, k < l.length → (∀ j, j < k → gd l j < n) → gd l k = n → putF n l = l
 | [], k, h, _, _ => by simp at h
 | x :: l, 0, _, _, h => by have h : x = n := h; subst h; simp [putF]
 | x :: l, k + 1, h, hj, hk => by
  have h0 : x < n := hj 0 (by omega)
  unfold putF
  rw [if_pos h0, putF_in (k := k) (by simpa using h) (fun j hj2 => hj (j + 1) (by omega)) hk]
theorem putF_at {n : Nat} : ∀ {l : List Nat} {k : Nat}, k ≤ l.length → (∀ j, j < k → gd l j < n) → (k < l.length → n < gd l k) → putF n l = l.take k ++ [n] ++ l.drop k
 | [], 0, _, _, _ => rfl
 | x :: l, 0, _, _, h => by
  have h : n < x := h (by simp)
  unfold putF
  rw [if_neg (by omega), if_neg (by omega)]; rfl
 | x :: l, k + 1, h, hj, hk => by
  have h0 : x < n := hj 0 (by omega)
  unfold putF
  rw [if_pos h0, putF_at (k := k) (by simpa using h) (fun j hj2 => hj (j + 1) (by omega)) fun h2 => hk (by simpa using h2)]
  simp
theorem putF_len (n : Nat) : ∀ l : List Nat, (putF n l).length ≤ l.length + 1
 | [] => by simp [putF]
 | x :: l => by
  have := putF_len n l
  unfold putF; split
  ·simp only [List.length_cons]; omega
  ·split <;> simp
def mergeF (a b : List Nat) : List Nat := b.foldl (fun l n => putF n l) a
theorem mergeF_take {a b : List Nat} {k : Nat} (h : k < b.length) : mergeF a (b.take (k + 1)) = putF (gd b k) (mergeF a (b.take k)) := by
 unfold mergeF; rw [Dz h]; simp
theorem mergeF_len (a : List Nat) : ∀ b : List Nat, (mergeF a b).length ≤ a.length + b.length := fun b => by
 unfold mergeF
 induction b generalizing a with
 | nil => simp
 | cons x b ih =>
  simp only [List.foldl_cons, List.length_cons]
  have := ih (putF x a)
  have := putF_len x a
  omega
theorem put_x {w0 : World} {H : List (Nat × Obj)} (l : List Nat) (q : Option Addr) (c : Nat) (hA : Arr w0 H q 1 encU l) (hc : l.length ≤ c) (hl : l.length ≤ 100000) (n : Nat) :
  FSpec Tryz.prog w0 108 #[.slice q l.length c, .int .i64 (n : Int)] H (fun v H' => ∃ (q' : Option Addr) (c' : Nat) (M : List (Nat × Obj)), (v = .slice q' (putF n l).length c' ∧ (putF n l).length ≤ c' ∧ ∀ X, Arr w0 X q 1 encU l → Arr w0 (M ++ X) q' 1 encU (putF n l)) ∧ H' = M ++ H) := by
 refine Bc Tryz.func108 U ntmps108 U (Ag (Ab (y_ (Ad Ak) (Af (Ae (Ag (Ab (y_ (Ad Ak) (Af (Ae (Ag (Aw ?_)))) U))))) U)))
 refine Ci (X := Nat) (V := fun k => [(5, .int .i64 (k : Nat))]) (C := [(0, _), (1, _)]) (φ := fun k => k ≤ l.length ∧ ∀ j, j < k → gd l j < n) (μ := fun k => l.length - k) (x0 := 0) ?_ ⟨Aa U, Aa U, trivial⟩ ⟨atd, trivial⟩ ?_
 ·exact ⟨Nat.zero_le _, fun j hj => by omega⟩
 rintro k ⟨hk, hlt⟩
 refine Ag (Ag (Ab (y_ (Ac (T U)) (y_ (Ac (T U)) (y_ (Bn (T U) runUnderlying42) (y_ (B1 (T U) (T U)) (y_ (Ac (T U)) ?_ U) U) U) U) U)))
 first | refine Cb (s := 11) (Aa U) (fun c11 => ?_) (fun c11 => ?_) | refine Cu (s := 11) (Aa U) (fun c11 => ?_) (fun c11 => ?_)
 ·refine Be (Ac (T U)) U (Ar U U (Aa U)) (Be (Ac (T U)) U (Ar U U (Aa U)) (Be (Bb (T U) (T U) runUnderlying42 sizeOf3 (by omega) (by first | exact rfl | exact hA.b (i := k) (by omega))) U (Ar U U (Aa U)) ?_))
  refine Be (Aj (T U) isAgg3 (by first | exact c_o | exact cell1 ((hA.mono sbt).cs (i := k) (by omega)))) U (Ar U U (Aa U)) ?_
  refine Be (Ac (T U)) U (Ar U U (Aa U)) (Be (B1 (T U) (T U)) U (Ar U U (Aa U)) (y_ (Az (T U) (T U)) (Af (Ae ?_)) U))
  first | refine Ao (Aa U) (fun c18 => ?_) (fun c18 => ?_) | refine A5 (Aa U) (fun c18 => ?_) (fun c18 => ?_)
  ·refine A4 (Ae (Aw (Ab (y_ (Ac (T U)) (y_ (Bt (T U) Ak (by omega)) ?_ U) U))))
   refine y_ (Ad (T U)) (Af (Bi ?_)) U
   refine Bk (k + 1) ?_ ?_ ⟨atd, trivial⟩ ⟨Aa U, Aa U, trivial⟩ ?_
   ·refine ⟨by omega, fun j hj => ?_⟩
    by_cases e : j = k
    ·subst e; omega
    ·exact hlt j (by omega)
   ·first | omega | (simp only []; omega)
   ·exact sbt
  ·refine B2 (Ay (A2 (A3 (Ae (Ag (Ag (Ab (y_ (Ac (T U)) (y_ (Ac (T U)) (y_ (Bn (T U) runUnderlying42) (y_ (B1 (T U) (T U)) (y_ (Ac (T U)) ?_ U) U) U) U) U))))))))
   first | refine Cb (s := 25) (Aa U) (fun c25 => ?_) (fun c25 => ?_) | refine Cu (s := 25) (Aa U) (fun c25 => ?_) (fun c25 => ?_)
   ·refine Be (Ac (T U)) U (Ar U U (Aa U)) (Be (Ac (T U)) U (Ar U U (Aa U)) (Be (Bb (T U) (T U) runUnderlying42 sizeOf3 (by omega) (by first | exact rfl | exact hA.b (i := k) (by omega))) U (Ar U U (Aa U)) ?_))
    refine Be (Aj (T U) isAgg3 (by first | exact c_o | exact cell1 ((hA.mono sbt).cs (i := k) (by omega)))) U (Ar U U (Aa U)) ?_
    refine Be (Ac (T U)) U (Ar U U (Aa U)) (Be (By (T U) (T U)) U (Ar U U (Aa U)) (y_ (Az (T U) (T U)) (Af (Ae (Bl [(0, _), (1, _), (5, _), (32, _)] ⟨Aa U, Aa U, Aa U, Aa U, trivial⟩ ?_))) U))
    first | refine Ao (Aa U) (fun c32 => ?_) (fun c32 => ?_) | refine A5 (Aa U) (fun c32 => ?_) (fun c32 => ?_)
    ·refine Ag (Ab (y_ (Ac (T U)) (y_ (Ad (T U)) (Af (Ae (A7 (Ap (A8 U (.tmp (Aa U) .nil) ?_))))) U) U))
     first | (have hp : putF n l = l := putF_in (k := k) (by omega) hlt (by omega); exact ⟨_, ⟨q, c, [], ⟨by rw [hp]; rfl, by rw [hp]; exact hc, fun X hX => by rw [hp]; exact hX⟩, rfl⟩, sbt⟩) | (have hp : putF n l = l.take k ++ [n] ++ l.drop k := putF_at (by omega) hlt (fun h => by omega); exact ⟨_, ⟨slQ d3, slC d3, slH d3 ((l.take k ++ [n] ++ l.drop k).flatMap encU) 3, ⟨by rw [hp]; rfl, by rw [hp]; exact D4 hd3, fun X _ => by rw [hp]; exact A1 (fun _ => rfl) hd3⟩, rfl⟩, sbt⟩)
    ·refine A4 (Ae (Ag (Ab (y_ (Ad Ak) (Af (Ae (Ag (Ab (y_ (Ac (T U)) (y_ (Ac (T U)) (y_ (Ac (T U)) (y_ (Df  (T U) (T U) runUnderlying42 sizeOf3 (by omega)) ?_ U) U) U) U))))) U))))
     refine e_ (C7 (l.take k) (by' := 8) (by first | exact (by simp; omega) | omega) (T U) (T U) runUnderlying42 runUnderlying42 sizeOf3 typeInfo3 U zeroValue3 U (fun _ => rfl) (fun _ => rfl) (by decide) (by simp; omega) ((hA.mono sbt).take k)) ?_ U
     rintro _ _ ⟨d1, rfl, hd1, rfl⟩
     refine y_ (Ad (T U)) (Af (Ae (Ag (Ab (y_ (Ac (T U)) (y_ (Ac (T U)) (e_ (Al (.cons (T U) .nil) (Ck _)) ?_ U) U) U))))) U
     rintro _ _ ⟨n41, rfl, rfl⟩
     refine e_ (B8 (n) (by' := 8) (by repeat (first | exact LocL.h | apply LocL.t | apply LocL.a)) (T U) (T U) runUnderlying42 runUnderlying42 sizeOf3 typeInfo3 U zeroValue3 U (fun _ => rfl) U hd1 (by decide) (by simp; omega)) ?_ U
     rintro _ _ ⟨d2, rfl, hd2, rfl⟩
     refine y_ (Ad (T U)) (Af (Ae (Ag (Ab (y_ (Ac (T U)) (y_ (Ac (T U)) (y_ (Ac (T U)) (y_ (Dg  (T U) (T U) runUnderlying42 sizeOf3 (by omega)) ?_ U) U) U) U))))) U
     refine e_ (C9 (l.drop k) (by' := 8) (by first | exact (by simp) | omega) (by repeat (first | exact LocL.h | apply LocL.t | apply LocL.a)) (T U) (T U) runUnderlying42 runUnderlying42 sizeOf3 typeInfo3 U zeroValue3 U (fun _ => rfl) (fun _ => rfl) hd2 (by decide) (by simp; omega) ((hA.mono sbt).drop hc k)) ?_ U
     rintro _ _ ⟨d3, rfl, hd3, rfl⟩
     refine y_ (Ad (T U)) (Af (Ae (A7 (A8 U (.tmp (Aa U) .nil) ?_)))) U
     first | (have hp : putF n l = l := putF_in (k := k) (by omega) hlt (by omega); exact ⟨_, ⟨q, c, [], ⟨by rw [hp]; rfl, by rw [hp]; exact hc, fun X hX => by rw [hp]; exact hX⟩, rfl⟩, sbt⟩) | (have hp : putF n l = l.take k ++ [n] ++ l.drop k := putF_at (by omega) hlt (fun h => by omega); exact ⟨_, ⟨slQ d3, slC d3, slH d3 ((l.take k ++ [n] ++ l.drop k).flatMap encU) 3, ⟨by rw [hp]; rfl, by rw [hp]; exact D4 hd3, fun X _ => by rw [hp]; exact A1 (fun _ => rfl) hd3⟩, rfl⟩, sbt⟩)
   ·refine B6 (B6 (B6 (B6 (B6 (B6 (y_ (A9 (T U) Ak) (Af (Ae (Bl [(0, _), (1, _), (5, _), (32, _)] ⟨Aa U, Aa U, Aa U, Aa U, trivial⟩ ?_))) U) U U U U) U U U U) U U U U) U U U U) U U U U) U U U U
    first | refine Br (Aa U) ?_ | refine Br (Ai (Aa U) (vbool (decide_eq_false c32))) ?_
    refine A4 (Ae (Ag (Ab (y_ (Ad Ak) (Af (Ae (Ag (Ab (y_ (Ac (T U)) (y_ (Ac (T U)) (y_ (Ac (T U)) (y_ (Df  (T U) (T U) runUnderlying42 sizeOf3 (by omega)) ?_ U) U) U) U))))) U))))
    refine e_ (C7 (l.take k) (by' := 8) (by first | exact (by simp; omega) | omega) (T U) (T U) runUnderlying42 runUnderlying42 sizeOf3 typeInfo3 U zeroValue3 U (fun _ => rfl) (fun _ => rfl) (by decide) (by simp; omega) ((hA.mono sbt).take k)) ?_ U
    rintro _ _ ⟨d1, rfl, hd1, rfl⟩
    refine y_ (Ad (T U)) (Af (Ae (Ag (Ab (y_ (Ac (T U)) (y_ (Ac (T U)) (e_ (Al (.cons (T U) .nil) (Ck _)) ?_ U) U) U))))) U
    rintro _ _ ⟨n41, rfl, rfl⟩
    refine e_ (B8 (n) (by' := 8) (by repeat (first | exact LocL.h | apply LocL.t | apply LocL.a)) (T U) (T U) runUnderlying42 runUnderlying42 sizeOf3 typeInfo3 U zeroValue3 U (fun _ => rfl) U hd1 (by decide) (by simp; omega)) ?_ U
    rintro _ _ ⟨d2, rfl, hd2, rfl⟩
    refine y_ (Ad (T U)) (Af (Ae (Ag (Ab (y_ (Ac (T U)) (y_ (Ac (T U)) (y_ (Ac (T U)) (y_ (Dg  (T U) (T U) runUnderlying42 sizeOf3 (by omega)) ?_ U) U) U) U))))) U
    refine e_ (C9 (l.drop k) (by' := 8) (by first | exact (by simp) | omega) (by repeat (first | exact LocL.h | apply LocL.t | apply LocL.a)) (T U) (T U) runUnderlying42 runUnderlying42 sizeOf3 typeInfo3 U zeroValue3 U (fun _ => rfl) (fun _ => rfl) hd2 (by decide) (by simp; omega) ((hA.mono sbt).drop hc k)) ?_ U
    rintro _ _ ⟨d3, rfl, hd3, rfl⟩
    refine y_ (Ad (T U)) (Af (Ae (A7 (A8 U (.tmp (Aa U) .nil) ?_)))) U
    first | (have hp : putF n l = l := putF_in (k := k) (by omega) hlt (by omega); exact ⟨_, ⟨q, c, [], ⟨by rw [hp]; rfl, by rw [hp]; exact hc, fun X hX => by rw [hp]; exact hX⟩, rfl⟩, sbt⟩) | (have hp : putF n l = l.take k ++ [n] ++ l.drop k := putF_at (by omega) hlt (fun h => by omega); exact ⟨_, ⟨slQ d3, slC d3, slH d3 ((l.take k ++ [n] ++ l.drop k).flatMap encU) 3, ⟨by rw [hp]; rfl, by rw [hp]; exact D4 hd3, fun X _ => by rw [hp]; exact A1 (fun _ => rfl) hd3⟩, rfl⟩, sbt⟩)
 ·refine B6 (B6 (B6 (B6 (B6 (B6 (y_ (A9 (T U) Ak) (Af (Ae ?_)) U) U U U U) U U U U) U U U U) U U U U) U U U U) U U U U
  first | refine Br (Aa U) ?_ | refine Br (Ai (Aa U) (vbool (decide_eq_false c18))) ?_
  refine B2 (Ay (A2 (A3 (Ae (Ag (Ag (Ab (y_ (Ac (T U)) (y_ (Ac (T U)) (y_ (Bn (T U) runUnderlying42) (y_ (B1 (T U) (T U)) (y_ (Ac (T U)) ?_ U) U) U) U) U))))))))
  first | refine Cb (s := 25) (Aa U) (fun c25 => ?_) (fun c25 => ?_) | refine Cu (s := 25) (Aa U) (fun c25 => ?_) (fun c25 => ?_)
  ·refine Be (Ac (T U)) U (Ar U U (Aa U)) (Be (Ac (T U)) U (Ar U U (Aa U)) (Be (Bb (T U) (T U) runUnderlying42 sizeOf3 (by omega) (by first | exact rfl | exact hA.b (i := k) (by omega))) U (Ar U U (Aa U)) ?_))
   refine Be (Aj (T U) isAgg3 (by first | exact c_o | exact cell1 ((hA.mono sbt).cs (i := k) (by omega)))) U (Ar U U (Aa U)) ?_
   refine Be (Ac (T U)) U (Ar U U (Aa U)) (Be (By (T U) (T U)) U (Ar U U (Aa U)) (y_ (Az (T U) (T U)) (Af (Ae (Bl [(0, _), (1, _), (5, _), (32, _)] ⟨Aa U, Aa U, Aa U, Aa U, trivial⟩ ?_))) U))
   first | refine Ao (Aa U) (fun c32 => ?_) (fun c32 => ?_) | refine A5 (Aa U) (fun c32 => ?_) (fun c32 => ?_)
   ·refine Ag (Ab (y_ (Ac (T U)) (y_ (Ad (T U)) (Af (Ae (A7 (Ap (A8 U (.tmp (Aa U) .nil) ?_))))) U) U))
    first | (have hp : putF n l = l := putF_in (k := k) (by omega) hlt (by omega); exact ⟨_, ⟨q, c, [], ⟨by rw [hp]; rfl, by rw [hp]; exact hc, fun X hX => by rw [hp]; exact hX⟩, rfl⟩, sbt⟩) | (have hp : putF n l = l.take k ++ [n] ++ l.drop k := putF_at (by omega) hlt (fun h => by omega); exact ⟨_, ⟨slQ d3, slC d3, slH d3 ((l.take k ++ [n] ++ l.drop k).flatMap encU) 3, ⟨by rw [hp]; rfl, by rw [hp]; exact D4 hd3, fun X _ => by rw [hp]; exact A1 (fun _ => rfl) hd3⟩, rfl⟩, sbt⟩)
   ·refine A4 (Ae (Ag (Ab (y_ (Ad Ak) (Af (Ae (Ag (Ab (y_ (Ac (T U)) (y_ (Ac (T U)) (y_ (Ac (T U)) (y_ (Df  (T U) (T U) runUnderlying42 sizeOf3 (by omega)) ?_ U) U) U) U))))) U))))
    refine e_ (C7 (l.take k) (by' := 8) (by first | exact (by simp; omega) | omega) (T U) (T U) runUnderlying42 runUnderlying42 sizeOf3 typeInfo3 U zeroValue3 U (fun _ => rfl) (fun _ => rfl) (by decide) (by simp; omega) ((hA.mono sbt).take k)) ?_ U
    rintro _ _ ⟨d1, rfl, hd1, rfl⟩
    refine y_ (Ad (T U)) (Af (Ae (Ag (Ab (y_ (Ac (T U)) (y_ (Ac (T U)) (e_ (Al (.cons (T U) .nil) (Ck _)) ?_ U) U) U))))) U
    rintro _ _ ⟨n41, rfl, rfl⟩
    refine e_ (B8 (n) (by' := 8) (by repeat (first | exact LocL.h | apply LocL.t | apply LocL.a)) (T U) (T U) runUnderlying42 runUnderlying42 sizeOf3 typeInfo3 U zeroValue3 U (fun _ => rfl) U hd1 (by decide) (by simp; omega)) ?_ U
    rintro _ _ ⟨d2, rfl, hd2, rfl⟩
    refine y_ (Ad (T U)) (Af (Ae (Ag (Ab (y_ (Ac (T U)) (y_ (Ac (T U)) (y_ (Ac (T U)) (y_ (Dg  (T U) (T U) runUnderlying42 sizeOf3 (by omega)) ?_ U) U) U) U))))) U
    refine e_ (C9 (l.drop k) (by' := 8) (by first | exact (by simp) | omega) (by repeat (first | exact LocL.h | apply LocL.t | apply LocL.a)) (T U) (T U) runUnderlying42 runUnderlying42 sizeOf3 typeInfo3 U zeroValue3 U (fun _ => rfl) (fun _ => rfl) hd2 (by decide) (by simp; omega) ((hA.mono sbt).drop hc k)) ?_ U
    rintro _ _ ⟨d3, rfl, hd3, rfl⟩
    refine y_ (Ad (T U)) (Af (Ae (A7 (A8 U (.tmp (Aa U) .nil) ?_)))) U
    first | (have hp : putF n l = l := putF_in (k := k) (by omega) hlt (by omega); exact ⟨_, ⟨q, c, [], ⟨by rw [hp]; rfl, by rw [hp]; exact hc, fun X hX => by rw [hp]; exact hX⟩, rfl⟩, sbt⟩) | (have hp : putF n l = l.take k ++ [n] ++ l.drop k := putF_at (by omega) hlt (fun h => by omega); exact ⟨_, ⟨slQ d3, slC d3, slH d3 ((l.take k ++ [n] ++ l.drop k).flatMap encU) 3, ⟨by rw [hp]; rfl, by rw [hp]; exact D4 hd3, fun X _ => by rw [hp]; exact A1 (fun _ => rfl) hd3⟩, rfl⟩, sbt⟩)
  ·refine B6 (B6 (B6 (B6 (B6 (B6 (y_ (A9 (T U) Ak) (Af (Ae (Bl [(0, _), (1, _), (5, _), (32, _)] ⟨Aa U, Aa U, Aa U, Aa U, trivial⟩ ?_))) U) U U U U) U U U U) U U U U) U U U U) U U U U) U U U U
   first | refine Br (Aa U) ?_ | refine Br (Ai (Aa U) (vbool (decide_eq_false c32))) ?_
   refine A4 (Ae (Ag (Ab (y_ (Ad Ak) (Af (Ae (Ag (Ab (y_ (Ac (T U)) (y_ (Ac (T U)) (y_ (Ac (T U)) (y_ (Df  (T U) (T U) runUnderlying42 sizeOf3 (by omega)) ?_ U) U) U) U))))) U))))
   refine e_ (C7 (l.take k) (by' := 8) (by first | exact (by simp; omega) | omega) (T U) (T U) runUnderlying42 runUnderlying42 sizeOf3 typeInfo3 U zeroValue3 U (fun _ => rfl) (fun _ => rfl) (by decide) (by simp; omega) ((hA.mono sbt).take k)) ?_ U
   rintro _ _ ⟨d1, rfl, hd1, rfl⟩
   refine y_ (Ad (T U)) (Af (Ae (Ag (Ab (y_ (Ac (T U)) (y_ (Ac (T U)) (e_ (Al (.cons (T U) .nil) (Ck _)) ?_ U) U) U))))) U
   rintro _ _ ⟨n41, rfl, rfl⟩
   refine e_ (B8 (n) (by' := 8) (by repeat (first | exact LocL.h | apply LocL.t | apply LocL.a)) (T U) (T U) runUnderlying42 runUnderlying42 sizeOf3 typeInfo3 U zeroValue3 U (fun _ => rfl) U hd1 (by decide) (by simp; omega)) ?_ U
   rintro _ _ ⟨d2, rfl, hd2, rfl⟩
   refine y_ (Ad (T U)) (Af (Ae (Ag (Ab (y_ (Ac (T U)) (y_ (Ac (T U)) (y_ (Ac (T U)) (y_ (Dg  (T U) (T U) runUnderlying42 sizeOf3 (by omega)) ?_ U) U) U) U))))) U
   refine e_ (C9 (l.drop k) (by' := 8) (by first | exact (by simp) | omega) (by repeat (first | exact LocL.h | apply LocL.t | apply LocL.a)) (T U) (T U) runUnderlying42 runUnderlying42 sizeOf3 typeInfo3 U zeroValue3 U (fun _ => rfl) (fun _ => rfl) hd2 (by decide) (by simp; omega) ((hA.mono sbt).drop hc k)) ?_ U
   rintro _ _ ⟨d3, rfl, hd3, rfl⟩
   refine y_ (Ad (T U)) (Af (Ae (A7 (A8 U (.tmp (Aa U) .nil) ?_)))) U
   first | (have hp : putF n l = l := putF_in (k := k) (by omega) hlt (by omega); exact ⟨_, ⟨q, c, [], ⟨by rw [hp]; rfl, by rw [hp]; exact hc, fun X hX => by rw [hp]; exact hX⟩, rfl⟩, sbt⟩) | (have hp : putF n l = l.take k ++ [n] ++ l.drop k := putF_at (by omega) hlt (fun h => by omega); exact ⟨_, ⟨slQ d3, slC d3, slH d3 ((l.take k ++ [n] ++ l.drop k).flatMap encU) 3, ⟨by rw [hp]; rfl, by rw [hp]; exact D4 hd3, fun X _ => by rw [hp]; exact A1 (fun _ => rfl) hd3⟩, rfl⟩, sbt⟩)
theorem merge_x {w0 : World} {H : List (Nat × Obj)} (a : List Nat) (q : Option Addr) (c : Nat) (hA : Arr w0 H q 1 encU a) (hc : a.length ≤ c) (b : List Nat) (q2 : Option Addr) (c2 : Nat) (hB : Arr w0 H q2 1 encU b) (hl : a.length + b.length ≤ 100000) :
  FSpec Tryz.prog w0 111 #[.slice q a.length c, .slice q2 b.length c2] H (fun v H' => ∃ (q' : Option Addr) (c' : Nat) (M : List (Nat × Obj)), (v = .slice q' (mergeF a b).length c' ∧ (mergeF a b).length ≤ c' ∧ ∀ X, Arr w0 X q 1 encU a → Arr w0 (M ++ X) q' 1 encU (mergeF a b)) ∧ H' = M ++ H) := by
 refine Bc Tryz.func111 U ntmps111 U (Ag (Ab (y_ (Ad Ak) (Af (Ae (Ag (Ag (Ab (y_ (Ad Ak) (Af (Ae (Aw ?_))) U)))))) U)))
 refine Cd (X := Nat × Option Addr × Nat × List (Nat × Obj)) (V := fun ⟨k, q1, c1, M⟩ => [(5, .int .i64 (k : Nat)), (0, .slice q1 (mergeF a (b.take k)).length c1)]) (C := [(1, _)]) (G := fun ⟨k, q1, c1, M⟩ => M ++ H) (φ := fun ⟨k, q1, c1, M⟩ => k ≤ b.length ∧ (mergeF a (b.take k)).length ≤ c1 ∧ ∀ X, Arr w0 X q 1 encU a → Arr w0 (M ++ X) q1 1 encU (mergeF a (b.take k))) (μ := fun ⟨k, q1, c1, M⟩ => b.length - k) (x0 := (0, q, c, [])) ?_ ⟨Aa rfl, trivial⟩ ⟨(by first | exact Aa rfl | (refine Ai (Aa rfl) (vint ?_); omega) | (refine Ai (Aa rfl) ?_; simp; done) | (refine Ai (Aa rfl) ?_; exact by rw [hmt])), (by first | exact Aa rfl | (refine Ai (Aa rfl) (vint ?_); omega) | (refine Ai (Aa rfl) ?_; simp; done) | (refine Ai (Aa rfl) ?_; exact by rw [hmt])), trivial⟩ sb0 ?_
 ·exact ⟨Nat.zero_le _, hc, fun X hX => hX⟩
 rintro ⟨k, q1, c1, M⟩ ⟨hk, hc1, hA1⟩
 have hml := mergeF_len a (b.take k)
 rw [List.length_take] at hml
 refine Ag (Ag (Ab (y_ (Ac (T U)) (y_ (Ac (T U)) (y_ (Bn (T U) runUnderlying42) (y_ (B1 (T U) (T U)) (Af (Ae ?_)) U) U) U) U)))
 first | refine Ao (Aa U) (fun c9 => ?_) (fun c9 => ?_) | refine A5 (Aa U) (fun c9 => ?_) (fun c9 => ?_)
 ·refine A4 (Ae (Ag (Aw (Ab (y_ (Ac (T U)) (y_ (Ac (T U)) (y_ (Ac (T U)) (y_ (Bb (T U) (T U) runUnderlying42 sizeOf3 (by omega) (by first | exact rfl | exact hB.b (i := k) (by omega))) ?_ U) U) U) U)))))
  refine y_ (Aj (T U) isAgg3 (by first | exact c_o | exact cell1 ((hB.mono sbt).cs (i := k) (by omega)))) ?_ U
  refine e_ (Au (.cons (T U) (.cons (T U) .nil)) call108 (put_x _ q1 c1 (hA1 _ hA) hc1 (by omega) (gd b k))) ?_ U
  rintro _ _ ⟨q3, c3, M3, ⟨rfl, hc3, hA3⟩, rfl⟩
  refine y_ (Ad (T U)) (Af (Bi (Ae (Ab (y_ (Ac (T U)) (y_ (Bt (T U) Ak (by omega)) ?_ U) U))))) U
  refine y_ (Ad (T U)) (Af ?_) U
  have hmt := mergeF_take (a := a) (b := b) (k := k) (by omega)
  refine Bk ((k + 1, q3, c3, M3 ++ M)) ?_ ?_ ⟨(by first | exact Aa U | (refine Ai (Aa U) (vint ?_); omega) | (refine Ai (Aa U) ?_; simp; done) | (refine Ai (Aa U) ?_; exact by rw [hmt])), (by first | exact Aa U | (refine Ai (Aa U) (vint ?_); omega) | (refine Ai (Aa U) ?_; simp; done) | (refine Ai (Aa U) ?_; exact by rw [hmt])), trivial⟩ ⟨Aa U, trivial⟩ ?_
  ·exact ⟨by omega, by rw [hmt]; exact hc3, fun X hX => by rw [hmt, List.append_assoc]; exact hA3 _ (hA1 X hX)⟩
  ·first | omega | (simp only []; omega)
  ·show (M3 ++ M ++ H).Sublist _; rw [List.append_assoc]; exact sbt
 ·refine B2 (Ay (A2 (A3 (Ae (Ag (Ab (y_ (Ac (T U)) (y_ (Ad (T U)) (Af (Ae (A7 (A8 U (.tmp (Aa U) .nil) ?_)))) U) U)))))))
  have hb : b.take k = b := List.take_of_length_le (by omega)
  rw [hb] at hc1 hA1 ⊢
  exact ⟨_, ⟨q1, c1, M, ⟨rfl, hc1, hA1⟩, rfl⟩, sbt⟩
end Go.Proofs.YtkdolgnpkjihpaaGreatDoor
namespace Go.Proofs.YtkdolgnpkjihpaaGreatDoor
open _root_.Go.Proofs.Tryz
open Go.RowKit
set_option linter.unusedVariables false
set_option linter.unusedSimpArgs false
def nulE : Re → Bool
 | .emp => true
 | .nod _ => false
 | .any => false
 | .seq a b => nulE a && nulE b
 | .alt a b => nulE a || nulE b
 | .star _ => true
def fiE : Re → Nat → Nat → Prop
 | .emp, _, _ => False
 | .nod _, n, p => p = n
 | .any, n, p => p = n
 | .seq a b, n, p => fiE a n p ∨ (nulE a = true ∧ fiE b (n + a.lv) p)
 | .alt a b, n, p => fiE a n p ∨ fiE b (n + a.lv) p
 | .star a, n, p => fiE a n p
def laE : Re → Nat → Nat → Prop
 | .emp, _, _ => False
 | .nod _, n, p => p = n
 | .any, n, p => p = n
 | .seq a b, n, p => laE b (n + a.lv) p ∨ (nulE b = true ∧ laE a n p)
 | .alt a b, n, p => laE a n p ∨ laE b (n + a.lv) p
 | .star a, n, p => laE a n p
def foE : Re → Nat → Nat → Nat → Prop
 | .emp, _, _, _ => False
 | .nod _, _, _, _ => False
 | .any, _, _, _ => False
 | .seq a b, n, p, q => foE a n p q ∨ foE b (n + a.lv) p q ∨ (laE a n p ∧ fiE b (n + a.lv) q)
 | .alt a b, n, p, q => foE a n p q ∨ foE b (n + a.lv) p q
 | .star a, n, p, q => foE a n p q ∨ (laE a n p ∧ fiE a n q)
inductive Rw (F : Nat → Nat → Prop) (La : Nat → Prop) (mt : Nat → ByteArray → Prop) : Nat → List ByteArray → Prop
 | nil {p} : La p → Rw F La mt p []
 | cons {p q s w} : F p q → mt q s → Rw F La mt q w → Rw F La mt p (s :: w)
theorem Rw.app {F F' : Nat → Nat → Prop} {La La' : Nat → Prop} {mt : Nat → ByteArray → Prop} {p : Nat} {u v : List ByteArray} (h : Rw F La mt p u) (hF : ∀ p q, F p q → F' p q) (hL : ∀ p, La p → Rw F' La' mt p v) : Rw F' La' mt p (u ++ v) := by
 induction h with
 | nil h => exact hL _ h
 | cons h1 h2 _ ih => exact .cons (hF _ _ h1) h2 ih
theorem Rw.mono {F F' : Nat → Nat → Prop} {La La' : Nat → Prop} {mt : Nat → ByteArray → Prop} {p : Nat} {u : List ByteArray} (h : Rw F La mt p u) (hF : ∀ p q, F p q → F' p q) (hL : ∀ p, La p → La' p) : Rw F' La' mt p u := by
 have := h.app (v := []) hF fun p hp => .nil (hL p hp)
 rwa [List.append_nil] at this
def Thr (mt : Nat → ByteArray → Prop) (e : Re) (n : Nat) (w : List ByteArray) : Prop := (w = [] ∧ nulE e = true) ∨ ∃ p s v, w = s :: v ∧ fiE e n p ∧ mt p s ∧ Rw (foE e n) (laE e n) mt p v
variable {mt : Nat → ByteArray → Prop}
theorem Thr.seq {a b : Re} {n : Nat} {u v : List ByteArray} (h1 : Thr mt a n u) (h2 : Thr mt b (n + a.lv) v) : Thr mt (.seq a b) n (u ++ v) := by
 rcases h2 with ⟨rfl, hb⟩ | ⟨q, t, v', rfl, hq, hm, hr⟩
 ·rw [List.append_nil]
  rcases h1 with ⟨rfl, ha⟩ | ⟨p, s, u', rfl, hp, hm, hr⟩
  ·exact .inl ⟨rfl, by simp [nulE, ha, hb]⟩
  ·exact .inr ⟨p, s, u', rfl, .inl hp, hm, hr.mono (fun _ _ h => .inl h) fun _ h => .inr ⟨hb, h⟩⟩
 ·have hr' : Rw (foE (.seq a b) n) (laE (.seq a b) n) mt q v' := hr.mono (fun _ _ h => .inr (.inl h)) fun _ h => .inl h
  rcases h1 with ⟨rfl, ha⟩ | ⟨p, s, u', rfl, hp, hm1, hr1⟩
  ·exact .inr ⟨q, t, v', rfl, .inr ⟨ha, hq⟩, hm, hr'⟩
  ·exact .inr ⟨p, s, u' ++ t :: v', rfl, .inl hp, hm1, hr1.app (fun _ _ h => .inl h) fun p' h => .cons (.inr (.inr ⟨h, hq⟩)) hm hr'⟩
theorem Thr.star {a : Re} {n : Nat} {u v : List ByteArray} (h1 : Thr mt a n u) (h2 : Thr mt (.star a) n v) : Thr mt (.star a) n (u ++ v) := by
 rcases h1 with ⟨rfl, ha⟩ | ⟨p, s, u', rfl, hp, hm1, hr1⟩
 ·exact h2
 ·rcases h2 with ⟨rfl, hb⟩ | ⟨q, t, v', rfl, hq, hm, hr⟩
  ·rw [List.append_nil]
   exact .inr ⟨p, s, u', rfl, hp, hm1, hr1.mono (fun _ _ h => .inl h) fun _ h => h⟩
  ·exact .inr ⟨p, s, u' ++ t :: v', rfl, hp, hm1, hr1.app (fun _ _ h => .inl h) fun p' h => .cons (.inr ⟨h, hq⟩) hm hr⟩
end Go.Proofs.YtkdolgnpkjihpaaGreatDoor
namespace Go.Proofs.YtkdolgnpkjihpaaGreatDoor
open _root_.Go.Proofs.Tryz
open Go.RowKit
set_option linter.unusedVariables false
set_option linter.unusedSimpArgs false
structure Inc (lo hi : Nat) (l : List Nat) : Prop where
 pw : l.Pairwise (· < ·)
 rg : ∀ x ∈ l, lo ≤ x ∧ x ≤ hi
theorem Inc.nd {lo hi : Nat} {l : List Nat} (h : Inc lo hi l) : l.Nodup := h.pw.imp fun {a b} hab e => by omega
theorem Inc.len {lo hi : Nat} {l : List Nat} (h : Inc lo hi l) : l.length ≤ hi + 1 := by
 have := nodup_le h.nd (l' := List.range (hi + 1)) fun x hx => List.mem_range.2 (by have := (h.rg x hx).2; omega)
 simpa using this
theorem Inc.mono {lo lo' hi : Nat} {l : List Nat} (h : Inc lo hi l) (hl : lo' ≤ lo) : Inc lo' hi l := ⟨h.pw, fun x hx => by have := h.rg x hx; omega⟩
def sub (l : List ByteArray) (p q : Nat) : List ByteArray := (l.drop p).take (q - p)
theorem sub_self (l : List ByteArray) (p : Nat) : sub l p p = [] := by simp [sub]
end Go.Proofs.YtkdolgnpkjihpaaGreatDoor
namespace Go.Proofs.YtkdolgnpkjihpaaGreatDoor
open _root_.Go.Proofs.Tryz
open Go.RowKit
set_option linter.unusedVariables false
set_option linter.unusedSimpArgs false
end Go.Proofs.YtkdolgnpkjihpaaGreatDoor
namespace Go.Proofs.YtkdolgnpkjihpaaGreatDoor
open _root_.Go.Proofs.Tryz
open Go.RowKit
set_option linter.unusedVariables false
set_option linter.unusedSimpArgs false
theorem lett_at {names : List ByteArray} (h : Srt names) {k : Nat} (hk : k < names.length) : lett names (gd names k) = k := by
 have hl : lbF names (gd names k) = k := lbF_eq (by omega) (fun j hj => h.lt hj hk) fun j hj hj2 => by
  rcases Nat.lt_or_ge k j with h1 | h1
  ·exact ltU_ne (h.lt h1 hj2)
  ·rw [show j = k by omega]; exact List.lt_irrefl _
 unfold lett
 rw [hl, if_pos ⟨hk, rfl⟩]
theorem lett_none {names : List ByteArray} {s : ByteArray} (h : ∀ j, j < names.length → ¬ gd names j = s) : lett names s = names.length :=
 lett_no fun hm => by
  obtain ⟨j, hj, e⟩ := mem_gdS.1 hm
  exact h j hj e
theorem letter_s {w0 : World} {H : List (Nat × Obj)} (m : Mc) (hm : McOk w0 H m) (hsr : Srt m.names) (hl : m.names.length ≤ 4611686018427387903) (s : ByteArray) :
  FSpec Tryz.prog w0 118 #[.agg (encMc m).toArray, .string s] H (Still (.int .i64 (lett m.names s : Nat)) H) := by
 refine Bc Tryz.func118 U ntmps118 U (Ag (Ab (e_ (Bj (T U) cs_) ?_ U)))
 rintro _ _ ⟨n2, rfl, rfl⟩
 refine y_ (Ad Ak) (Af (Ae (Ag (Ag (Ab (y_ (Ad Ak) (Af (Ae (Aw ?_))) U)))))) U
 refine Ci (X := Nat) (V := fun k => [(5, .int .i64 (k : Nat))]) (C := [(1, _), (2, _)]) (φ := fun k => k ≤ m.names.length ∧ ∀ j, j < k → ¬ gd m.names j = s) (μ := fun k => m.names.length - k) (x0 := 0) ?_ ⟨Aa U, Aa U, trivial⟩ ⟨atd, trivial⟩ ?_
 ·exact ⟨Nat.zero_le _, fun j hj => by omega⟩
 rintro k ⟨hk, hno⟩
 refine Ag (Ag (Ab (y_ (Ac (T U)) (y_ (Bm (T U) Dv) (y_ (Aj (T U) isAgg25 (by first | exact c_o)) ?_ U) U) U)))
 refine y_ (Bn (T U) runUnderlying25) (y_ (B1 (T U) (T U)) (Af (Ae ?_)) U) U
 first | refine Ao (Aa U) (fun c10 => ?_) (fun c10 => ?_) | refine A5 (Aa U) (fun c10 => ?_) (fun c10 => ?_)
 ·refine A4 (Ae (Ag (Aw (Ag (Ab (y_ (Bm (T U) Dv) (y_ (Aj (T U) isAgg25 (by first | exact c_o)) ?_ U) U))))))
  refine y_ (Ac (T U)) (y_ (Bb (T U) (T U) runUnderlying25 sizeOf9 (by omega) (by first | exact rfl | exact hm.a1.b (i := k) (by omega))) ?_ U) U
  refine y_ (Aj (T U) isAgg9 (by first | exact c_o | exact cell1 ((hm.a1.mono sbt).cs (i := k) (by omega)))) ?_ U
  refine y_ (Ac (T U)) (y_ (D0 (T U) (T U)) (Af (Ae ?_)) U) U
  first | refine Ao (Aa U) (fun c19 => ?_) (fun c19 => ?_) | refine A5 (Aa U) (fun c19 => ?_) (fun c19 => ?_)
  ·refine Ag (Ab (y_ (Ac (T U)) (y_ (Ad (T U)) (Af (Ae (A7 (A0 (Ap (B9 (A0 (Ap (A8 U (.tmp (Aa U) .nil) ?_))))))))) U) U))
   have e := bytes_ext (fun h => h c19)
   have e2 := lett_at hsr (k := k) (by omega)
   rw [e] at e2
   exact ⟨_, ⟨by rw [e2]; rfl, rfl⟩, sbt⟩
  ·refine A4 (Bi (Ae (Ab (y_ (Ac (T U)) (y_ (Bt (T U) Ak (by omega)) ?_ U) U))))
   refine y_ (Ad (T U)) (Af ?_) U
   refine Bk (k + 1) ?_ ?_ ⟨atd, trivial⟩ ⟨Aa U, Aa U, trivial⟩ ?_
   ·refine ⟨by omega, fun j hj => ?_⟩
    by_cases e : j = k
    ·subst e; exact fun h => c19 (by rw [h])
    ·exact hno j (by omega)
   ·first | omega | (simp only []; omega)
   ·exact sbt
 ·refine B2 (Ay (A2 (A3 (Ae (Ag (Ab (y_ (Bm (T U) Dv) (y_ (Aj (T U) isAgg25 (by first | exact c_o)) ?_ U) U)))))))
  refine y_ (Bn (T U) runUnderlying25) (y_ (Ad (T U)) (Af (Ae (A7 (A8 U (.tmp (Aa U) .nil) ?_)))) U) U
  have e2 := lett_none (fun j hj => hno j (by omega))
  exact ⟨_, ⟨by rw [e2]; rfl, rfl⟩, sbt⟩
theorem rstep_s {w0 : World} {H : List (Nat × Obj)} (m : Mc) (hm : McOk w0 H m) (hsr : Srt m.names) (hl : m.names.length ≤ 4611686018427387903) (hp : PMok m.pl) (st : Nat) (hst : st < m.rows.length) (s : ByteArray) :
  FSpec Tryz.prog w0 70 #[.agg (encMc m).toArray, .int .i64 (st : Int), .string s] H (Still (.int .i64 (afterF m.pl st s : Nat)) H) := by
 refine Bc Tryz.func70 U ntmps70 U ?_
 have hrow := (pm_row hp hst).1
 have hlt := (pm_row hp hst).2 _ (Nat.lt_succ_of_le (lett_le m.names s))
 have hle := lett_le m.names s
 refine Ag (Ab (e_ (Bj (T U) cs_) ?_ U))
 rintro _ _ ⟨n3, rfl, rfl⟩
 refine y_ (Ad Ak) (Af (Ae (Ag (Cm 11 [(0, true), (1, true), (2, true), (3, true), (4, true), (5, true), (6, true), (7, true), (8, true), (9, true), (10, true)] _ mixd (by kernel_rfl) sb0 ?_)))) U
 refine o_y U (Bg (T U) C2) (o_y U (Aj (T U) isAgg26 (by first | exact c_o)) ?_ U Ah) U Ah
 refine o_y U (Ac (T U)) (o_y U (Bb (T U) (T U) runUnderlying26 sizeOf42 (by omega) (by first | exact rfl | exact hm.a2.b (i := st) hst | exact (hm.r _ (Ax hst)).b (i := lett m.names s) (by omega))) ?_ U Ah) U Ah
 refine o_y U (Aj (T U) isAgg42 (by first | exact c_o | exact cell1 ((hm.a2.mono sbt).cs (i := st) hst))) ?_ U Ah
 refine o_y U (Am (T U) isAgg29 sizeOf29 U (by first | exact Bf)) ?_ U Ah
 refine o_y U (Ac (T U)) (o_y U (Av (.cons (T U) (.cons (T U) .nil)) call118 (fun H' hs => letter_s m (hm.mono (List.Sublist.trans sbt hs)) hsr hl s)) (o_y U (Bb (T U) (T U) runUnderlying42 sizeOf3 (by omega) (by first | exact rfl | exact hm.a2.b (i := st) hst | exact (hm.r _ (Ax hst)).b (i := lett m.names s) (by omega))) ?_ U Ah) U Ah) U Ah
 refine o_y U (Aj (T U) isAgg3 (by first | exact c_o | exact cell1 (((hm.r _ (Ax hst)).mono sbt).cs (i := lett m.names s) (by omega)))) ?_ U Ah
 refine o_y U (Ad (T U)) (B3 U (Af (Ae (A7 (A8 U (.tmp (Aa U) .nil) ?_))))) U Ah
 exact ⟨_, ⟨by unfold afterF; rw [nx_pl]; rfl, rfl⟩, sbt⟩
end Go.Proofs.YtkdolgnpkjihpaaGreatDoor
namespace Go.Proofs.YtkdolgnpkjihpaaGreatDoor
open _root_.Go.Proofs.Tryz
open Go.RowKit
set_option linter.unusedVariables false
set_option linter.unusedSimpArgs false
theorem list_eq {α : Type} [Inhabited α] {a b : List α} (hl : a.length = b.length) (h : ∀ j, j < a.length → gd a j = gd b j) : a = b :=
 List.ext_getElem hl fun j h1 h2 => by rw [← Bo h1, ← Bo h2]; exact h j h1
end Go.Proofs.YtkdolgnpkjihpaaGreatDoor
namespace Go.Proofs.YtkdolgnpkjihpaaGreatDoor
open _root_.Go.Proofs.Tryz
open Go.RowKit
set_option linter.unusedVariables false
set_option linter.unusedSimpArgs false
def lx : List Nat → List Nat → Prop
 | x :: a, y :: b => x < y ∨ (x = y ∧ lx a b)
 | _, _ => False
theorem lx_trans : ∀ {a b c : List Nat}, lx a b → lx b c → lx a c
 | [], _, _, h, _ => by cases h
 | _ :: _, [], _, h, _ => by cases h
 | _ :: _, _ :: _, [], _, h => by cases h
 | x :: a, y :: b, z :: c, h1, h2 => by
  simp only [lx] at h1 h2 ⊢
  rcases h1 with h1 | ⟨h1, h3⟩ <;> rcases h2 with h2 | ⟨h2, h4⟩
  ·left; omega
  ·left; omega
  ·left; omega
  ·right; exact ⟨by omega, lx_trans h3 h4⟩
theorem lx_app : ∀ {a b : List Nat} (c d : List Nat), lx a b → lx (a ++ c) (b ++ d)
 | [], _, _, _, h => by cases h
 | _ :: _, [], _, _, h => by cases h
 | x :: a, y :: b, c, d, h => by
  simp only [lx, List.cons_append] at h ⊢
  exact h.imp id fun h => ⟨h.1, lx_app c d h.2⟩
theorem lx_last : ∀ (a : List Nat) {x y : Nat}, x < y → lx (a ++ [x]) (a ++ [y])
 | [], x, y, h => .inl h
 | z :: a, x, y, h => .inr ⟨rfl, lx_last a h⟩
def ltL (a b : List Nat) : Prop := a.length < b.length ∨ (a.length = b.length ∧ lx a b)
def leL (a b : List Nat) : Prop := ltL a b ∨ a = b
theorem ltL_trans {a b c : List Nat} (h1 : ltL a b) (h2 : ltL b c) : ltL a c := by
 unfold ltL at *
 rcases h1 with h1 | ⟨h1, h3⟩ <;> rcases h2 with h2 | ⟨h2, h4⟩
 ·left; omega
 ·left; omega
 ·left; omega
 ·right; exact ⟨by omega, lx_trans h3 h4⟩
theorem leL_trans {a b c : List Nat} (h1 : leL a b) (h2 : leL b c) : leL a c := by
 rcases h1 with h1 | rfl
 ·rcases h2 with h2 | rfl
  ·exact .inl (ltL_trans h1 h2)
  ·exact .inl h1
 ·exact h2
theorem leL_len {a b : List Nat} (h : leL a b) : a.length ≤ b.length := by
 rcases h with (h | ⟨h, _⟩) | rfl
 ·omega
 ·omega
 ·exact Nat.le_refl _
theorem ltL_snoc {a b : List Nat} (x y : Nat) (h : ltL a b) : ltL (a ++ [x]) (b ++ [y]) := by
 unfold ltL at *
 simp only [List.length_append, List.length_cons, List.length_nil]
 rcases h with h | ⟨h, h2⟩
 ·left; omega
 ·right; exact ⟨by omega, lx_app _ _ h2⟩
theorem leL_snoc {a b : List Nat} {x y : Nat} (h : leL a b) (hx : x ≤ y) : leL (a ++ [x]) (b ++ [y]) := by
 rcases h with h | rfl
 ·exact .inl (ltL_snoc x y h)
 ·rcases Nat.lt_or_ge x y with h1 | h1
  ·exact .inl (.inr ⟨by simp, lx_last a h1⟩)
  ·rw [show x = y by omega]; exact .inr U
section
variable {σ : Type} [Inhabited σ]
def pth (w : List (Int × σ)) (i : Nat) : List σ := (backF w (i + 1) i).reverse
theorem pth_zero {w : List (Int × σ)} (h : (gd w 0).1 = -1) : pth w 0 = [] := by
 unfold pth; rw [backF_succ, if_neg (by omega)]; rfl
theorem pth_snoc {w : List (Int × σ)} (hw : ∀ i, i < w.length → -1 ≤ (gd w i).1 ∧ (gd w i).1 < i) {i : Nat} (hi : i < w.length) (h0 : 0 ≤ (gd w i).1) : pth w i = pth w (gd w i).1.toNat ++ [(gd w i).2] := by
 have h1 := (hw i hi).2
 unfold pth
 rw [backF_succ, if_pos h0, List.reverse_cons]
 rw [backF_fuel hw i (gd w i).1.toNat (by omega) (by omega)]
theorem backF_app {w : List (Int × σ)} (hw : ∀ i, i < w.length → -1 ≤ (gd w i).1 ∧ (gd w i).1 < i) (x : List (Int × σ)) : ∀ (f i : Nat), i < w.length → backF (w ++ x) f i = backF w f i
 | 0, _, _ => rfl
 | f + 1, i, hi => by
  rw [backF_succ, backF_succ, Cj hi]
  split
  ·rename_i h0
   have h1 := (hw i hi).2
   rw [backF_app hw x f _ (by omega)]
  ·rfl
theorem pth_app {w : List (Int × σ)} (hw : ∀ i, i < w.length → -1 ≤ (gd w i).1 ∧ (gd w i).1 < i) (x : List (Int × σ)) {i : Nat} (hi : i < w.length) : pth (w ++ x) i = pth w i := by
 unfold pth; rw [backF_app hw x _ _ hi]
inductive Chn (ts : Pl → List (Pl × σ)) (p : Pl) : List σ → Pl → Prop
 | nil : Chn ts p [] p
 | snoc {ls : List σ} {q r : Pl} {s : σ} : Chn ts p ls q → (r, s) ∈ ts q → Chn ts p (ls ++ [s]) r
structure BI (ts : Pl → List (Pl × σ)) (rk : σ → Nat) (p0 : Pl) (k : Nat) (d : List (Pl × σ)) (st : BS σ) : Prop where
 nd : st.l.Nodup
 len : st.w.length = st.l.length
 fst : gd st.l 0 = p0 ∧ (gd st.w 0).1 = -1 ∧ 0 < st.l.length
 kl : k ≤ st.l.length
 edge : ∀ i, 0 < i → i < st.l.length → 0 ≤ (gd st.w i).1 ∧ (gd st.w i).1 < i ∧ (gd st.l i, (gd st.w i).2) ∈ ts (gd st.l (gd st.w i).1.toNat) ∧ ((gd st.w i).1 < k ∨ ((gd st.w i).1 = k ∧ (gd st.l i, (gd st.w i).2) ∈ d))
 mono : ∀ i j, 0 < i → i < j → j < st.l.length → (gd st.w i).1 < (gd st.w j).1 ∨ ((gd st.w i).1 = (gd st.w j).1 ∧ rk (gd st.w i).2 < rk (gd st.w j).2)
 done : ∀ j, j < k → ∀ x ∈ ts (gd st.l j), ∃ i, i < st.l.length ∧ gd st.l i = x.1 ∧ (i = 0 ∨ (gd st.w i).1 < j ∨ ((gd st.w i).1 = j ∧ rk (gd st.w i).2 ≤ rk x.2))
 part : ∀ x ∈ d, ∃ i, i < st.l.length ∧ gd st.l i = x.1 ∧ (i = 0 ∨ (gd st.w i).1 < k ∨ ((gd st.w i).1 = k ∧ rk (gd st.w i).2 ≤ rk x.2))
variable {ts : Pl → List (Pl × σ)} {rk : σ → Nat} {p0 : Pl}
theorem BI.start : BI ts rk p0 0 [] ⟨[p0], [(-1, default)]⟩ where
 nd := by simp
 len := rfl
 fst := ⟨rfl, rfl, by simp⟩
 kl := Nat.zero_le _
 edge i h1 h2 := by simp at h2; omega
 mono i j h1 h2 h3 := by simp at h3; omega
 done j hj := by omega
 part x hx := by cases hx
theorem BI.back {k : Nat} {d : List (Pl × σ)} {st : BS σ} (h : BI ts rk p0 k d st) : ∀ i, i < st.w.length → -1 ≤ (gd st.w i).1 ∧ (gd st.w i).1 < i := fun i hi => by
 rw [h.len] at hi
 rcases Nat.eq_zero_or_pos i with rfl | h0
 ·rw [h.fst.2.1]; omega
 ·have := h.edge i h0 hi; omega
theorem memPl {l : List Pl} {p : Pl} (h : p ∈ l) : ∃ i, i < l.length ∧ gd l i = p := by
 obtain ⟨i, hi, e⟩ := List.getElem_of_mem h
 exact ⟨i, hi, by rw [Bo hi]; exact e⟩
theorem BI.vis {k : Nat} {d rest : List (Pl × σ)} {x : Pl × σ} {st : BS σ} (h : BI ts rk p0 k d st) (hk : k < st.l.length) (ht : ts (gd st.l k) = d ++ x :: rest) (hr : (ts (gd st.l k)).Pairwise fun a b => rk a.2 < rk b.2) : BI ts rk p0 k (d ++ [x]) (visF k st x) := by
 have hlt : ∀ y ∈ d, rk y.2 < rk x.2 := fun y hy => by
  rw [ht] at hr
  exact (List.pairwise_append.1 hr).2.2 y hy x (by simp)
 have hxm : x ∈ ts (gd st.l k) := by rw [ht]; simp
 unfold visF
 by_cases hx : x.1 ∈ st.l
 ·rw [if_pos hx]
  refine ⟨h.nd, h.len, h.fst, h.kl, fun i h1 h2 => ?_, h.mono, h.done, fun y hy => ?_⟩
  ·obtain ⟨a, b, c, e⟩ := h.edge i h1 h2
   exact ⟨a, b, c, e.imp id fun e => ⟨e.1, List.mem_append_left _ e.2⟩⟩
  ·rcases List.mem_append.1 hy with hy | hy
   ·exact h.part y hy
   ·simp only [List.mem_cons, List.not_mem_nil, or_false] at hy
    subst hy
    obtain ⟨i, hi, e⟩ := memPl hx
    refine ⟨i, hi, e, ?_⟩
    rcases Nat.eq_zero_or_pos i with h0 | h0
    ·exact .inl h0
    ·obtain ⟨_, _, _, e2⟩ := h.edge i h0 hi
     rcases e2 with e2 | e2
     ·exact .inr (.inl e2)
     ·exact .inr (.inr ⟨e2.1, Nat.le_of_lt (hlt _ e2.2)⟩)
 ·rw [if_neg hx]
  have hln := h.len
  have g1 : ∀ i, i < st.l.length → gd (st.l ++ [x.1]) i = gd st.l i := fun i hi => Cj hi
  have g2 : ∀ i, i < st.l.length → gd (st.w ++ [((k : Int), x.2)]) i = gd st.w i := fun i hi => Cj (by omega)
  have g3 : gd (st.l ++ [x.1]) st.l.length = x.1 := Cz
  have g4 : gd (st.w ++ [((k : Int), x.2)]) st.l.length = ((k : Int), x.2) := by rw [← hln]; exact Cz
  have hp0 := h.fst.2.2
  refine ⟨?_, by simp [hln], ⟨by simp only []; rw [g1 0 hp0]; exact h.fst.1, by simp only []; rw [g2 0 hp0]; exact h.fst.2.1, by simp⟩, by simp; have := h.kl; omega, fun i h1 h2 => ?_, fun i j h1 h2 h3 => ?_, fun j hj y hy => ?_, fun y hy => ?_⟩
  ·exact List.nodup_append.2 ⟨h.nd, by simp, fun a ha b hb => by simp at hb; subst hb; rintro rfl; exact hx ha⟩
  ·simp only [] at h2 ⊢
   simp only [List.length_append, List.length_cons, List.length_nil] at h2
   by_cases e : i = st.l.length
   ·subst e
    rw [g3, g4]
    simp only [Int.toNat_natCast]
    rw [g1 k hk]
    exact ⟨by omega, by omega, hxm, .inr ⟨by simp, by simp⟩⟩
   ·have hi : i < st.l.length := by omega
    obtain ⟨a, b, c, e⟩ := h.edge i h1 hi
    rw [g1 i hi, g2 i hi, g1 _ (by omega)]
    exact ⟨a, b, c, e.imp id fun e => ⟨e.1, List.mem_append_left _ e.2⟩⟩
  ·simp only [] at h3 ⊢
   simp only [List.length_append, List.length_cons, List.length_nil] at h3
   have hi : i < st.l.length := by omega
   rw [g2 i hi]
   by_cases e : j = st.l.length
   ·subst e
    rw [g4]
    obtain ⟨a, b, c, e⟩ := h.edge i h1 hi
    exact e.imp id fun e => ⟨e.1, hlt _ e.2⟩
   ·rw [g2 j (by omega)]
    exact h.mono i j h1 h2 (by omega)
  ·simp only [] at hy ⊢
   rw [g1 j (by omega)] at hy
   obtain ⟨i, hi, e1, e2⟩ := h.done j hj y hy
   exact ⟨i, by simp; omega, by rw [g1 i hi]; exact e1, by rw [g2 i hi]; exact e2⟩
  ·simp only []
   rcases List.mem_append.1 hy with hy | hy
   ·obtain ⟨i, hi, e1, e2⟩ := h.part y hy
    exact ⟨i, by simp; omega, by rw [g1 i hi]; exact e1, by rw [g2 i hi]; exact e2⟩
   ·simp only [List.mem_cons, List.not_mem_nil, or_false] at hy
    subst hy
    exact ⟨st.l.length, by simp, g3, by rw [g4]; exact .inr (.inr ⟨rfl, Nat.le_refl _⟩)⟩
theorem BI.all' {k : Nat} : ∀ (rest d : List (Pl × σ)) {st : BS σ}, BI ts rk p0 k d st → k < st.l.length → ts (gd st.l k) = d ++ rest → ((ts (gd st.l k)).Pairwise fun a b => rk a.2 < rk b.2) → BI ts rk p0 k (d ++ rest) (visAll k st rest)
 | [], d, st, h, _, _, _ => by rw [List.append_nil]; exact h
 | x :: rest, d, st, h, hk, ht, hr => by
  have h1 := h.vis hk ht hr
  have hg : gd (visF k st x).l k = gd st.l k := visF_get hk
  have h2 := BI.all' rest (d ++ [x]) h1 (by
   unfold visF; split
   ·exact hk
   ·simp; omega) (by rw [hg, ht]; simp) (by rw [hg]; exact hr)
  rw [List.append_assoc] at h2
  exact h2
theorem BI.next {k : Nat} {st : BS σ} (h : BI ts rk p0 k [] st) (hk : k < st.l.length) (hr : (ts (gd st.l k)).Pairwise fun a b => rk a.2 < rk b.2) : BI ts rk p0 (k + 1) [] (visAll k st (ts (gd st.l k))) := by
 have h1 := h.all' (ts (gd st.l k)) [] hk U hr
 obtain ⟨hg, hl⟩ := visAll_get (k := k) (ts (gd st.l k)) (st := st) hk
 rw [List.nil_append] at h1
 refine ⟨h1.nd, h1.len, h1.fst, by omega, fun i a b => ?_, h1.mono, fun j hj x hx => ?_, fun x hx => by cases hx⟩
 ·obtain ⟨e1, e2, e3, e4⟩ := h1.edge i a b
  exact ⟨e1, e2, e3, .inl (by omega)⟩
 ·by_cases e : j = k
  ·subst e
   rw [hg] at hx
   exact h1.part x hx
  ·exact h1.done j (by omega) x hx
theorem BI.chain {k : Nat} {d : List (Pl × σ)} {st : BS σ} (h : BI ts rk p0 k d st) : ∀ (n i : Nat), i ≤ n → i < st.l.length → Chn ts p0 (pth st.w i) (gd st.l i)
 | 0, i, hn, hi => by
  rw [show i = 0 by omega, pth_zero h.fst.2.1, h.fst.1]; exact .nil
 | n + 1, i, hn, hi => by
  rcases Nat.eq_zero_or_pos i with rfl | h0
  ·rw [pth_zero h.fst.2.1, h.fst.1]; exact .nil
  ·obtain ⟨a, b, c, e⟩ := h.edge i h0 hi
   rw [pth_snoc h.back (by rw [h.len]; exact hi) a]
   exact .snoc (h.chain n (gd st.w i).1.toNat (by omega) (by omega)) c
theorem BI.lt {k : Nat} {d : List (Pl × σ)} {st : BS σ} (h : BI ts rk p0 k d st) : ∀ (n i j : Nat), j ≤ n → i < j → j < st.l.length → ltL ((pth st.w i).map rk) ((pth st.w j).map rk)
 | 0, i, j, hn, hij, _ => by omega
 | n + 1, i, j, hn, hij, hj => by
  obtain ⟨a, b, c, e⟩ := h.edge j (by omega) hj
  rw [pth_snoc h.back (by rw [h.len]; exact hj) a]
  rcases Nat.eq_zero_or_pos i with rfl | h0
  ·rw [pth_zero h.fst.2.1]; left; simp
  ·obtain ⟨a2, b2, c2, e2⟩ := h.edge i h0 (by omega)
   rw [pth_snoc h.back (by rw [h.len]; omega) a2]
   simp only [List.map_append, List.map_cons, List.map_nil]
   rcases h.mono i j h0 hij hj with hm | ⟨hm, hm2⟩
   ·exact ltL_snoc _ _ (h.lt n (gd st.w i).1.toNat (gd st.w j).1.toNat (by omega) (by omega) (by omega))
   ·rw [hm]; exact .inr ⟨by simp, lx_last _ hm2⟩
theorem BI.le {k : Nat} {d : List (Pl × σ)} {st : BS σ} (h : BI ts rk p0 k d st) {i j : Nat} (hij : i ≤ j) (hj : j < st.l.length) : leL ((pth st.w i).map rk) ((pth st.w j).map rk) := by
 rcases Nat.lt_or_ge i j with h1 | h1
 ·exact .inl (h.lt j i j (Nat.le_refl _) h1 hj)
 ·rw [show i = j by omega]; exact .inr U
theorem BI.ways {k : Nat} {st : BS σ} (h : BI ts rk p0 k [] st) {ls : List σ} {q : Pl} (hc : Chn ts p0 ls q) : (∃ i, i < st.l.length ∧ gd st.l i = q ∧ leL ((pth st.w i).map rk) (ls.map rk)) ∨ (∃ i, k ≤ i ∧ i < st.l.length ∧ ∃ p : List Nat, p.length < ls.length ∧ leL ((pth st.w i).map rk) p) := by
 induction hc with
 | nil => exact .inl ⟨0, h.fst.2.2, h.fst.1, by rw [pth_zero h.fst.2.1]; exact .inr rfl⟩
 | @snoc ls q r s hc hs ih =>
  rcases ih with ⟨j, hj, e, hle⟩ | ⟨i, h1, h2, p, h3, h4⟩
  ·rcases Nat.lt_or_ge j k with hk | hk
   ·obtain ⟨i, hi, e1, e2⟩ := h.done j hk (r, s) (by rw [e]; exact hs)
    refine .inl ⟨i, hi, e1, ?_⟩
    rcases Nat.eq_zero_or_pos i with rfl | h0
    ·rw [pth_zero h.fst.2.1]; exact .inl (.inl (by simp))
    ·obtain ⟨a, b, c, _⟩ := h.edge i h0 hi
     rw [pth_snoc h.back (by rw [h.len]; exact hi) a]
     simp only [List.map_append, List.map_cons, List.map_nil]
     rcases e2 with e2 | e2 | ⟨e2, e3⟩
     ·omega
     ·have h5 := h.lt j (gd st.w i).1.toNat j (Nat.le_refl _) (by omega) hj
      rcases hle with hle | hle
      ·exact .inl (ltL_snoc _ _ (ltL_trans h5 hle))
      ·rw [← hle]; exact .inl (ltL_snoc _ _ h5)
     ·rw [e2]; exact leL_snoc hle e3
   ·exact .inr ⟨j, hk, hj, ls.map rk, by simp, hle⟩
  ·exact .inr ⟨i, h1, h2, p, by simp; omega, h4⟩
structure GoOk (ts : Pl → List (Pl × σ)) (rk : σ → Nat) (fnd : Pl → Bool) (p0 : Pl) (r : Option Nat × BS σ) : Prop where
 some' : ∀ k, r.1 = some k → BI ts rk p0 k [] r.2 ∧ k < r.2.l.length ∧ fnd (gd r.2.l k) = true ∧ ∀ j, j < k → fnd (gd r.2.l j) = false
 none' : r.1 = none → BI ts rk p0 r.2.l.length [] r.2 ∧ ∀ j, j < r.2.l.length → fnd (gd r.2.l j) = false
theorem goF_sem {Pd : Pl → Prop} (hts : ∀ p, Pd p → ∀ x ∈ ts p, Pd x.1) (hr : ∀ p, Pd p → (ts p).Pairwise fun a b => rk a.2 < rk b.2) {N : Nat} (hN : ∀ l : List Pl, l.Nodup → (∀ p ∈ l, Pd p) → l.length ≤ N) {fnd : Pl → Bool} : ∀ (f k : Nat) (st : BS σ), BI ts rk p0 k [] st → BSok Pd k st → (∀ j, j < k → fnd (gd st.l j) = false) → N < f + k → GoOk ts rk fnd p0 (goF ts fnd f k st)
 | 0, k, st, h, hb, _, hf => by
  have := hN st.l h.nd hb.ok
  have := h.kl; omega
 | f + 1, k, st, h, hb, hn, hf => by
  rw [goF_succ]
  split
  ·rename_i hk
   have hpd := hb.ok _ (Ax hk)
   split
   ·rename_i hfn
    exact ⟨(fun k' e => by cases e; exact ⟨h, hk, hfn, hn⟩), (fun e => by cases e)⟩
   ·rename_i hfn
    obtain ⟨hb1, hb2⟩ := hb.visAll (k' := k) (ts (gd st.l k)) hk (hts _ hpd)
    obtain ⟨hg, hl⟩ := visAll_get (k := k) (ts (gd st.l k)) (st := st) hk
    refine goF_sem hts hr hN f (k + 1) _ (h.next hk (hr _ hpd)) ⟨hb1.nd, hb1.ok, hb1.len, hb1.back, by omega⟩ (fun j hj => ?_) (by omega)
    by_cases e : j = k
    ·subst e; rw [hg]; simpa using hfn
    ·rw [(visAll_get (k := k) (ts (gd st.l k)) (st := st) (show j < st.l.length by omega)).1]
     exact hn j (by omega)
  ·rename_i hk
   have : k = st.l.length := by have := h.kl; omega
   subst this
   exact ⟨(fun k' e => by cases e), fun _ => ⟨h, hn⟩⟩
theorem goF_sem0 {Pd : Pl → Prop} (hts : ∀ p, Pd p → ∀ x ∈ ts p, Pd x.1) (hr : ∀ p, Pd p → (ts p).Pairwise fun a b => rk a.2 < rk b.2) {N : Nat} (hN : ∀ l : List Pl, l.Nodup → (∀ p ∈ l, Pd p) → l.length ≤ N) (fnd : Pl → Bool) (hp : Pd p0) : GoOk ts rk fnd p0 (goF ts fnd (N + 1) 0 ⟨[p0], [(-1, default)]⟩) :=
 goF_sem hts hr hN (N + 1) 0 _ .start ⟨by simp, by simpa using hp, rfl, (fun i hi => by
  simp at hi; subst hi; show -1 ≤ (-1 : Int) ∧ (-1 : Int) < ((0 : Nat) : Int); omega), Nat.zero_le _⟩ (fun j hj => by omega) (by omega)
theorem srF_yes {Pd : Pl → Prop} (hts : ∀ p, Pd p → ∀ x ∈ ts p, Pd x.1) (hr : ∀ p, Pd p → (ts p).Pairwise fun a b => rk a.2 < rk b.2) {N : Nat} (hN : ∀ l : List Pl, l.Nodup → (∀ p ∈ l, Pd p) → l.length ≤ N) (fnd : Pl → Bool) (hp : Pd p0) (h : (srF ts fnd N p0).2.1 = true) :
  (∃ q, Chn ts p0 (srF ts fnd N p0).1 q ∧ fnd q = true) ∧ ∀ ls q, Chn ts p0 ls q → fnd q = true → leL ((srF ts fnd N p0).1.map rk) (ls.map rk) := by
 have hg := goF_sem0 (rk := rk) hts hr hN fnd hp
 unfold srF at *
 generalize goF ts fnd (N + 1) 0 ⟨[p0], [(-1, default)]⟩ = r at *
 obtain ⟨k, st⟩ := r
 cases k with
 | none => cases h
 | some k =>
  obtain ⟨h1, h2, h3, h4⟩ := hg.some' k rfl
  simp only [] at *
  refine ⟨⟨_, h1.chain k k (Nat.le_refl _) h2, h3⟩, fun ls q hc hq => ?_⟩
  rcases h1.ways hc with ⟨i, hi, e, hle⟩ | ⟨i, hi1, hi2, p, hp1, hp2⟩
  ·rcases Nat.lt_or_ge i k with hik | hik
   ·have := h4 i hik; rw [e, hq] at this; cases this
   ·exact leL_trans (h1.le hik hi) hle
  ·have h5 := leL_len (leL_trans (h1.le hi1 hi2) hp2)
   left; left
   have : (pth st.w k).length = (backF st.w (k + 1) k).reverse.length := rfl
   simp only [List.length_map] at h5 ⊢
   unfold pth at h5
   omega
theorem srF_no {Pd : Pl → Prop} (hts : ∀ p, Pd p → ∀ x ∈ ts p, Pd x.1) (hr : ∀ p, Pd p → (ts p).Pairwise fun a b => rk a.2 < rk b.2) {N : Nat} (hN : ∀ l : List Pl, l.Nodup → (∀ p ∈ l, Pd p) → l.length ≤ N) (fnd : Pl → Bool) (hp : Pd p0) (h : (srF ts fnd N p0).2.1 = false) :
  (srF ts fnd N p0).1 = [] ∧ (∀ q, q ∈ (srF ts fnd N p0).2.2 ↔ ∃ ls, Chn ts p0 ls q) ∧ ∀ ls q, Chn ts p0 ls q → fnd q = false := by
 have hg := goF_sem0 (rk := rk) hts hr hN fnd hp
 unfold srF at *
 generalize goF ts fnd (N + 1) 0 ⟨[p0], [(-1, default)]⟩ = r at *
 obtain ⟨k, st⟩ := r
 cases k with
 | some k => cases h
 | none =>
  obtain ⟨h1, h2⟩ := hg.none' rfl
  simp only [] at *
  have hall : ∀ ls q, Chn ts p0 ls q → ∃ i, i < st.l.length ∧ gd st.l i = q := fun ls q hc => by
   rcases h1.ways hc with ⟨i, hi, e, _⟩ | ⟨i, hi1, hi2, _⟩
   ·exact ⟨i, hi, e⟩
   ·omega
  refine ⟨trivial, fun q => ⟨fun hq => ?_, fun ⟨ls, hc⟩ => ?_⟩, fun ls q hc => ?_⟩
  ·obtain ⟨i, hi, e⟩ := memPl hq
   exact ⟨_, e ▸ h1.chain i i (Nat.le_refl _) hi⟩
  ·obtain ⟨i, hi, e⟩ := hall ls q hc
   rw [← e]; exact Ax hi
  ·obtain ⟨i, hi, e⟩ := hall ls q hc
   rw [← e]; exact h2 i hi
end
end Go.Proofs.YtkdolgnpkjihpaaGreatDoor
namespace Go.Proofs.YtkdolgnpkjihpaaGreatDoor
open _root_.Go.Proofs.Tryz
open Go.RowKit
set_option linter.unusedVariables false
set_option linter.unusedSimpArgs false
def lnOf (l : Lnk) : Ln := ⟨l.src.toNat, l.dst.toNat, l.cap⟩
def nnOf (n : Nm) : Nn := ⟨n.nodes, n.links.map lnOf, n.edges, n.qn, n.cn, n.ql, n.cl, n.qe, n.ce⟩
abbrev toInts (l : List Nat) : List Int := l.map fun k : Nat => (k : Int)
theorem runM_snoc (m : PM) (ls : List ByteArray) (s : ByteArray) : runM m (ls ++ [s]) = afterF m (runM m ls) s := by simp [runM]
structure Rch (n : Nn) (f : Flr) (m : PM) (x : Nat) (ks : List Pl) : Prop where
 mem : ∀ q, q ∈ ks ↔ ¬ f.node = x ∧ ∃ ls, Chn (movesF n f m) (p0F n m x) ls q
 srt : ks.Pairwise plLt
 ok : ∀ q ∈ ks, PlOk n m q
end Go.Proofs.YtkdolgnpkjihpaaGreatDoor
namespace Go.Proofs.YtkdolgnpkjihpaaGreatDoor
open _root_.Go.Proofs.Tryz
open Go.RowKit
set_option linter.unusedVariables false
set_option linter.unusedSimpArgs false
section
variable {w0 : World} {H : List (Nat × Obj)} {n : Nm} {f : Flr} {m : Mc} {x to : Nat}
structure NF (w0 : World) (H : List (Nat × Obj)) (n : Nm) (f : Flr) (x to : Nat) : Prop where
 nm : NetM w0 H n
 fl : Arr w0 H f.q 1 encI f.links
 rg : RgtOk n f x to
theorem NF.mono {H' : List (Nat × Obj)} (h : NF w0 H n f x to) (hs : H.Sublist H' := by exact sbt) : NF w0 H' n f x to := ⟨h.nm.mono hs, h.fl.mono hs, h.rg⟩
theorem NF.hx (h : NF w0 H n f x to) : x < (nnOf n).nodes.length := by have := h.rg.x; show x < n.nodes.length; omega
end
theorem Rch.nd {n : Nn} {f : Flr} {m : PM} {x : Nat} {ks : List Pl} (h : Rch n f m x ks) : ks.Nodup := h.srt.imp fun {a b} hab e => by
 subst e; unfold plLt at hab; omega
theorem backF_len {σ : Type} [Inhabited σ] (w : List (Int × σ)) : ∀ (f i : Nat), (backF w f i).length ≤ f
 | 0, _ => Nat.le_refl _
 | f + 1, i => by
  rw [backF_succ]; split
  ·simp only [List.length_cons]; have := backF_len w f (gd w i).1.toNat; omega
  ·exact Nat.zero_le _
end Go.Proofs.YtkdolgnpkjihpaaGreatDoor
namespace Go.Proofs.YtkdolgnpkjihpaaGreatDoor
open _root_.Go.Proofs.Tryz
open Go.RowKit
set_option linter.unusedVariables false
set_option linter.unusedSimpArgs false
set_option linter.unusedSectionVars false
structure Vi where
 p : Pl
 q : Option Addr
 c : Nat
 l : List Nat
instance : Inhabited Vi := ⟨⟨(0, 0), none, 0, []⟩⟩
abbrev encVi (v : Vi) : List Value := [.int .i64 (v.p.1 : Int), .int .i64 (v.p.2 : Int), .slice v.q v.l.length v.c]
structure VR (vs : List Vi) (st : BS Nat) : Prop where
 len : vs.length = st.l.length
 at' : ∀ i, i < vs.length → (gd vs i).p = gd st.l i ∧ (gd vs i).l = pth st.w i
theorem VR.mem {vs : List Vi} {st : BS Nat} (h : VR vs st) (p : Pl) : p ∈ st.l ↔ ∃ j, j < vs.length ∧ (gd vs j).p = p := by
 constructor
 ·intro hp
  obtain ⟨j, hj, e⟩ := memPl hp
  exact ⟨j, by rw [h.len]; exact hj, by rw [(h.at' j (by rw [h.len]; exact hj)).1]; exact e⟩
 ·rintro ⟨j, hj, e⟩
  rw [← e, (h.at' j hj).1]
  exact Ax (by rw [← h.len]; exact hj)
theorem VR.start (p : Pl) : VR [⟨p, none, 0, []⟩] ⟨[p], [(-1, default)]⟩ := ⟨rfl, fun i hi => by
 simp at hi; subst hi
 exact ⟨rfl, rfl⟩⟩
theorem VR.old {Pd : Pl → Prop} {k k' : Nat} {st : BS Nat} {vs : List Vi} (h : VR vs st) {x : Pl × Nat} (hx : x.1 ∈ st.l) : VR vs (visF k st x) := by
 unfold visF; rw [if_pos hx]; exact h
theorem VR.new {Pd : Pl → Prop} {k k' : Nat} {st : BS Nat} {vs : List Vi} (h : VR vs st) (hb : BSok Pd k' st) (hk : k < st.l.length) {x : Pl × Nat} (hx : x.1 ∉ st.l) (q : Option Addr) (c : Nat) : VR (vs ++ [⟨x.1, q, c, (gd vs k).l ++ [x.2]⟩]) (visF k st x) := by
 have hw := hb.len
 have hl := h.len
 have hback : ∀ i, i < (st.w ++ [((k : Int), x.2)]).length → -1 ≤ (gd (st.w ++ [((k : Int), x.2)]) i).1 ∧ (gd (st.w ++ [((k : Int), x.2)]) i).1 < i := fun i hi => by
  by_cases e : i = st.w.length
  ·subst e; rw [Cz]; simp only []; omega
  ·have hi' : i < st.w.length := by simp at hi; omega
   rw [Cj hi']; exact hb.back i hi'
 unfold visF; rw [if_neg hx]
 refine ⟨by simp [hl], fun i hi => ?_⟩
 by_cases e : i = vs.length
 ·subst e
  rw [Cz]
  simp only []
  have e1 : gd (st.l ++ [x.1]) vs.length = x.1 := by rw [hl]; exact Cz
  refine ⟨e1.symm, ?_⟩
  have e2 : gd (st.w ++ [((k : Int), x.2)]) vs.length = ((k : Int), x.2) := by rw [hl, ← hw]; exact Cz
  rw [pth_snoc hback (by simp; omega) (by rw [e2]; simp only []; omega), e2]
  simp only [Int.toNat_natCast]
  rw [pth_app hb.back _ (by omega), (h.at' k (by omega)).2]
 ·have hi' : i < vs.length := by simp at hi; omega
  rw [Cj hi']
  simp only []
  rw [Cj (by omega), pth_app hb.back _ (by omega)]
  exact h.at' i hi'
theorem pth_len {σ : Type} [Inhabited σ] (w : List (Int × σ)) (i : Nat) : (pth w i).length ≤ i + 1 := by
 unfold pth; rw [List.length_reverse]; exact backF_len _ _ _
end Go.Proofs.YtkdolgnpkjihpaaGreatDoor
namespace Go.Proofs.YtkdolgnpkjihpaaGreatDoor
open _root_.Go.Proofs.Tryz
open Go.RowKit
set_option linter.unusedVariables false
set_option linter.unusedSimpArgs false
theorem eff_appEmp {P : Program} {w0 : World} {L : Fm} {ty : TypeId} {H : List (Nat × Obj)} {x y : Operand} {t t2 e : TypeId} {α : Type} {enc : α → List Value} (l2 : List α) {R : List (Nat × Obj)} {F : List (Nat × Obj) → List (Nat × Obj)} {n : Nat} {q : Option Addr} {k c sz by' : Nat} {z : Value} {i0 : TypeInfo} {e2 : TypeId} (hk : k = l2.length) (hl : LocL H [(n, Cl [] e)] R F) (hx : Ev L x (.slice (some ⟨n, 0, none⟩) 0 0)) (hy : Ev L y (.slice q k c))
  (ht : ∀ w, (underlying t).run P w = .ok (.slice e) w) (ht2 : ∀ w, (underlying t2).run P w = .ok (.slice e2) w) (hz : ∀ w, (sizeOf e).run P w = .ok sz w) (hi : ∀ w, (typeInfo e).run P w = .ok i0 w) (hby : i0.bytes = by') (hzv : ∀ w, (zeroValue e).run P w = .ok z w) (hzs : z.cells.size = sz)
  (he : ∀ u, (enc u).length = sz) (h1 : ∀ u, (enc u).all oneB = true) (hb0 : by' ≠ 0) (hb : (2 * l2.length + 600) * by' ≤ 281474976710656) (hA : Arr w0 H q sz enc l2) :
  Eff P w0 (.call { callee := .builtin .append, args := #[x, y], argTypes := #[t, t2] }) ty L H (fun u H' => ∃ d', u = slV d' l2.length ∧ SlOk d' l2.length sz ∧ H' = F (slH d' (l2.flatMap enc) e)) := by
 have h := C9 (P := P) (w0 := w0) (L := L) (ty := ty) (H := H) (x := x) (y := y) (t := t) (t2 := t2) (e := e) (enc := enc) l2 (d := .blk n 0 []) (l := []) (R := R) (F := F) hk hl hx hy ht ht2 hz hi hby hzv hzs he h1 ⟨Nat.le_refl _, by simp⟩ hb0 (by simpa using hb) hA
 simpa using h
theorem locH1 {e : Nat × Obj} {X : List (Nat × Obj)} : LocL (e :: X) [e] X (fun M' => M' ++ X) := show LocL ([e] ++ X) _ _ _ from .h
structure VOk (w0 : World) (H M : List (Nat × Obj)) (vs : List Vi) (d : Sl) (st : BS Nat) : Prop where
 ok : SlOk d vs.length 3
 vr : VR vs st
 pa : ∀ u ∈ vs, Arr w0 (M ++ H) u.q 1 encU u.l
theorem VOk.path {w0 : World} {H M : List (Nat × Obj)} {vs : List Vi} {d : Sl} {st : BS Nat} (h : VOk w0 H M vs d st) {i : Nat} (hi : i < vs.length) : Arr w0 (M ++ H) (gd vs i).q 1 encU (gd vs i).l := h.pa _ (Ax hi)
theorem VOk.arr {w0 : World} {H M X : List (Nat × Obj)} {vs : List Vi} {d : Sl} {st : BS Nat} (h : VOk w0 H M vs d st) : Arr w0 (slH d (vs.flatMap encVi) 135 ++ X) (slQ d) 3 encVi vs := A1 (fun _ => rfl) h.ok
theorem VOk.old {w0 : World} {H M : List (Nat × Obj)} {vs : List Vi} {d : Sl} {st : BS Nat} (h : VOk w0 H M vs d st) {k : Nat} {x : Pl × Nat} (hx : x.1 ∈ st.l) : VOk w0 H M vs d (visF k st x) := ⟨h.ok, h.vr.old (Pd := fun _ => True) (k' := 0) hx, h.pa⟩
theorem VOk.new {w0 : World} {H M M' : List (Nat × Obj)} {vs : List Vi} {d d' : Sl} {st : BS Nat} (h : VOk w0 H M vs d st) {Pd : Pl → Prop} {k k' : Nat} (hb : BSok Pd k' st) (hk : k < st.l.length) {x : Pl × Nat} (hx : x.1 ∉ st.l) {q : Option Addr} {c : Nat} (hd : SlOk d' (vs ++ [(⟨x.1, q, c, (gd vs k).l ++ [x.2]⟩ : Vi)]).length 3) (hs : (M ++ H).Sublist (M' ++ H)) (hA : Arr w0 (M' ++ H) q 1 encU ((gd vs k).l ++ [x.2])) : VOk w0 H M' (vs ++ [(⟨x.1, q, c, (gd vs k).l ++ [x.2]⟩ : Vi)]) d' (visF k st x) :=
 ⟨hd, h.vr.new (Pd := Pd) (k' := k') hb hk hx q c, fun u hu => by
  rcases List.mem_append.1 hu with hu | hu
  ·exact (h.pa u hu).mono hs
  ·simp at hu; subst hu; exact hA⟩
theorem visAll_snoc {σ : Type} (k : Nat) (st : BS σ) (ts : List (Pl × σ)) (x : Pl × σ) : visAll k st (ts ++ [x]) = visF k (visAll k st ts) x := by simp [visAll]
end Go.Proofs.YtkdolgnpkjihpaaGreatDoor
namespace Go.Proofs.YtkdolgnpkjihpaaGreatDoor
open _root_.Go.Proofs.Tryz
open Go.RowKit
set_option linter.unusedVariables false
set_option linter.unusedSimpArgs false
end Go.Proofs.YtkdolgnpkjihpaaGreatDoor
namespace Go.Proofs.YtkdolgnpkjihpaaGreatDoor
open _root_.Go.Proofs.Tryz
open Go.RowKit
set_option linter.unusedVariables false
set_option linter.unusedSimpArgs false
end Go.Proofs.YtkdolgnpkjihpaaGreatDoor
namespace Go.Proofs.YtkdolgnpkjihpaaGreatDoor
open _root_.Go.Proofs.Tryz
open Go.RowKit
set_option linter.unusedVariables false
set_option linter.unusedSimpArgs false
end Go.Proofs.YtkdolgnpkjihpaaGreatDoor
namespace Go.Proofs.YtkdolgnpkjihpaaGreatDoor
open _root_.Go.Proofs.Tryz
open Go.RowKit
set_option linter.unusedVariables false
set_option linter.unusedSimpArgs false
theorem yl_neBs {w0 : World} {L : Fm} {H : List (Nat × Obj)} {ty yt : TypeId} {x y : Operand} {a : Bool} (hx : Ev L x (.bool a)) (hy : Ev L y (.bool a)) : Yl Tryz.prog w0 (.binOp .neq 4 x y yt) ty L H (.bool false) := by
 have h := yl_neB (w0 := w0) (H := H) (ty := ty) (yt := yt) hx hy
 rwa [show (a != a) = false by simp] at h
theorem yl_neqs {w0 : World} {L : Fm} {H : List (Nat × Obj)} {ty yt xt : TypeId} {x y : Operand} {a : Int} {k : IntKind} (hx : Ev L x (.int k a)) (hy : Ev L y (.int k a)) : Yl Tryz.prog w0 (.binOp .neq xt x y yt) ty L H (.bool false) := by
 have h := Cy (P := Tryz.prog) (w0 := w0) (H := H) (ty := ty) (yt := yt) (xt := xt) hx hy
 rwa [show decide (¬ a = a) = false by simp] at h
end Go.Proofs.YtkdolgnpkjihpaaGreatDoor
namespace Go.Proofs.YtkdolgnpkjihpaaGreatDoor
open _root_.Go.Proofs.Tryz
open Go.RowKit
set_option linter.unusedVariables false
set_option linter.unusedSimpArgs false
theorem oth_in {names : List ByteArray} {s : ByteArray} : toL s ∈ names.map toL ↔ ∃ j, j < names.length ∧ toL (gd names j) = toL s := by
 rw [List.mem_map]
 constructor
 ·rintro ⟨x, hx, e⟩
  obtain ⟨j, hj, rfl⟩ := List.getElem_of_mem hx
  exact ⟨j, hj, by rw [Bo hj]; exact e⟩
 ·rintro ⟨j, hj, e⟩
  exact ⟨_, Ax hj, e⟩
theorem rother_s {w0 : World} {H : List (Nat × Obj)} (names : List ByteArray) (q : Option Addr) (c : Nat) (hA : Arr w0 H q 1 encS names) (hlen : names.length ≤ 90) :
  FSpec Tryz.prog w0 20 #[.slice q names.length c] H (Still (.string (otherF names)) H) := by
 refine Bc Tryz.func20 U ntmps20 U (Ag (Ab (y_ (Ad Ak) (Af (Ae (Ag (Ab (y_ (Ad Ak) (Af (Ae (Ag (Ab (y_ (Ad Ak) (Af (Ae (Ag (Ag (Ab (y_ (Ad Ak) (Af (Ae (Aw ?_))) U)))))) U))))) U))))) U)))
 refine Ci (X := Nat × Bool) (V := fun ⟨k, b⟩ => [(3, .string (othK k)), (4, .int .i64 (k : Nat)), (5, .bool b)]) (C := [(0, _)]) (φ := fun ⟨k, b⟩ => k ≤ 90 ∧ (∀ j, j < k → toL (othK j) ∈ names.map toL) ∧ (b = false → ¬ toL (othK k) ∈ names.map toL)) (μ := fun ⟨k, b⟩ => 2 * (91 - k) + b.toNat) (x0 := (0, true)) ?_ ⟨Aa rfl, trivial⟩ ⟨atd, atd, atd, trivial⟩ ?_
 ·exact ⟨Nat.zero_le _, fun j hj => absurd hj (Nat.not_lt_zero _), fun h => by cases h⟩
 rintro ⟨k, b⟩ ⟨hk, hin, hno⟩
 refine Ag (Ag (Ab (y_ (Ac (T U)) (Af (Ae ?_)) U)))
 first | refine Ao (Aa U) (fun c7 => ?_) (fun c7 => ?_) | refine A5 (Aa U) (fun c7 => ?_) (fun c7 => ?_)
 ·subst c7
  refine A4 (Ae (Aw (Ag (Ab (y_ (Ad Ak) (Af (Ae (Ag (Ag (Ab (y_ (Ad Ak) (Af (Ae (Aw ?_))) U)))))) U)))))
  refine Ci (X := Nat × Bool) (V := fun ⟨i, fd⟩ => [(6, .int .i64 (i : Nat)), (5, .bool fd)]) (C := [(0, _), (3, _), (4, _)]) (φ := fun ⟨i, fd⟩ => i ≤ names.length ∧ (fd = true ↔ ∃ j, j < i ∧ toL (gd names j) = toL (othK k))) (μ := fun ⟨i, fd⟩ => names.length - i) (x0 := (0, false)) ?_ ⟨Aa rfl, Aa rfl, Aa rfl, trivial⟩ ⟨atd, atd, trivial⟩ ?_
  ·exact ⟨Nat.zero_le _, ⟨(fun h => by cases h), fun ⟨j, h, _⟩ => by omega⟩⟩
  rintro ⟨i, fd⟩ ⟨hi, hfd⟩
  refine Ag (Ag (Ab (y_ (Ac (T U)) (y_ (Ac (T U)) (y_ (Bn (T U) runUnderlying25) (y_ (B1 (T U) (T U)) (Af (Ae ?_)) U) U) U) U)))
  first | refine Ao (Aa U) (fun c11 => ?_) (fun c11 => ?_) | refine A5 (Aa U) (fun c11 => ?_) (fun c11 => ?_)
  ·refine A4 (Ae (Ag (Aw (Ab (y_ (Ac (T U)) (y_ (Ac (T U)) ?_ U) U)))))
   first | refine Cb (s := 15) (Aa U) (fun c15 => ?_) (fun c15 => ?_) | refine Cu (s := 15) (Aa U) (fun c15 => ?_) (fun c15 => ?_)
   ·refine Cv (Cv (Cv (Cv (Cv (Cv (y_ (Az (T U) Ak) (y_ (Ad (T U)) (Af (Bi (Ae (Ab (y_ (Ac (T U)) (y_ (Bt (T U) Ak (by omega)) ?_ U) U))))) U) U) U U U U) U U U U) U U U U) U U U U) U U U U) U U U U
    refine y_ (Ad (T U)) (Af ?_) U
    refine Bk ((i + 1, true)) ?_ ?_ ⟨atd, atd, trivial⟩ ⟨Aa U, Aa U, Aa U, trivial⟩ ?_
    ·refine ⟨by omega, fun _ => ?_, fun _ => rfl⟩
     obtain ⟨j, h1, h2⟩ := hfd.1 c15
     exact ⟨j, by omega, h2⟩
    ·first | omega | (simp only []; omega)
    ·exact sbt
   ·refine Be (Ac (T U)) U (Ar U U (Aa U)) (Be (Ac (T U)) U (Ar U U (Aa U)) (Be (Bb (T U) (T U) runUnderlying25 sizeOf9 (by omega) (by first | exact rfl | exact hA.b (i := i) (by omega))) U (Ar U U (Aa U)) ?_))
    refine Be (Aj (T U) isAgg9 (by first | exact c_o | exact cell1 ((hA.mono sbt).cs (i := i) (by omega)))) U (Ar U U (Aa U)) ?_
    refine Be (Ac (T U)) U (Ar U U (Aa U)) (Be (D0 (T U) (T U)) U (Ar U U (Aa U)) (y_ (A9 (T U) (T U)) (y_ (Ad (T U)) (Af (Bi (Ae (Ab (y_ (Ac (T U)) (y_ (Bt (T U) Ak (by omega)) ?_ U) U))))) U) U))
    refine y_ (Ad (T U)) (Af ?_) U
    refine Bk ((i + 1, decide (toL (gd names i) = toL (othK k)))) ?_ ?_ ⟨atd, atd, trivial⟩ ⟨Aa U, Aa U, Aa U, trivial⟩ ?_
    ·refine ⟨by omega, fun h => ⟨i, by omega, of_decide_eq_true h⟩, fun ⟨j, h1, h2⟩ => decide_eq_true ?_⟩
     by_cases ej : j = i
     ·subst ej; exact h2
     ·exact absurd (hfd.2 ⟨j, by omega, h2⟩) (by rw [c15]; exact Bool.false_ne_true)
    ·first | omega | (simp only []; omega)
    ·exact sbt
  ·refine B2 (Ay (A2 (A3 (Ae (Ag (Ab (y_ (Ac (T U)) (Af (Ae ?_)) U)))))))
   first | refine Ao (Aa U) (fun c23 => ?_) (fun c23 => ?_) | refine A5 (Aa U) (fun c23 => ?_) (fun c23 => ?_)
   ·subst c23
    have hy : ∀ j, j < k + 1 → toL (othK j) ∈ names.map toL := fun j hj => by
     by_cases e : j = k
     ·subst e; obtain ⟨j2, h1, h2⟩ := hfd.1 rfl; exact oth_in.2 ⟨j2, by omega, h2⟩
     ·exact hin j (by omega)
    have hkf := oth_few (k := k + 1) (by omega) hy
    refine Ag (Ab (y_ (Ac (T U)) (y_ (Bt (T U) Ak (by omega)) ?_ U) U))
    refine y_ (Ad (T U)) (Af (Ae (Ab (y_ (Ac (T U)) (y_ (Av (.cons (T U) .nil) call68 (fun H' hs => itoa_s (k + 1) (by omega))) ?_ U) U)))) U
    refine y_ (yl_catS Ak (T U) (by have := itoa_size ⟨k + 1, by omega⟩; simp only [] at this; show 5 + _ ≤ _; omega)) ?_ U
    refine y_ (Ad (T U)) (Af (Bi ?_)) U
    refine Bk ((k + 1, true)) ?_ ?_ ⟨atd, atd, atd, trivial⟩ ⟨Aa U, trivial⟩ ?_
    ·exact ⟨by omega, hy, fun h => by cases h⟩
    ·first | (show 2 * (91 - (k + 1)) + 1 < 2 * (91 - k) + 1; omega) | (show 2 * (91 - k) + 0 < 2 * (91 - k) + 1; omega)
    ·exact sbt
   ·subst c23
    refine A4 (Bi ?_)
    refine Bk ((k, false)) ?_ ?_ ⟨atd, atd, atd, trivial⟩ ⟨Aa U, trivial⟩ ?_
    ·refine ⟨hk, hin, fun _ h => ?_⟩
     obtain ⟨j, h1, h2⟩ := oth_in.1 h
     exact Bool.false_ne_true (hfd.2 ⟨j, by omega, h2⟩)
    ·first | (show 2 * (91 - (k + 1)) + 1 < 2 * (91 - k) + 1; omega) | (show 2 * (91 - k) + 0 < 2 * (91 - k) + 1; omega)
    ·exact sbt
 ·subst c7
  have hoth : otherF names = othK k := by
   unfold otherF othN
   rw [fs_some (k := k) (x := k) (by omega) (if_neg (hno U)) (fun j hj => if_pos (hin j hj))]; rfl
  refine B2 (Ay (A2 (A3 (Ae (Ag (Ab (y_ (Ac (T U)) (y_ (Ad (T U)) (Af (Ae (A7 (A8 U (.tmp (Aa U) .nil) ?_)))) U) U)))))))
  exact ⟨_, ⟨by rw [hoth]; rfl, rfl⟩, sbt⟩
end Go.Proofs.YtkdolgnpkjihpaaGreatDoor
namespace Go.Proofs.YtkdolgnpkjihpaaGreatDoor
open _root_.Go.Proofs.Tryz
open Go.RowKit
set_option linter.unusedVariables false
set_option linter.unusedSimpArgs false
theorem idx_at {α : Type} [DecidableEq α] [Inhabited α] {l : List α} {x : α} {k : Nat} (hk : k < l.length) (h : gd l k = x) (hj : ∀ j, j < k → ¬ gd l j = x) : idx l x = k := by
 have hm : x ∈ l := by rw [← h]; exact Ax hk
 have h1 := Dw hm
 have h2 := idx_get hm
 rcases Nat.lt_trichotomy (idx l x) k with h3 | h3 | h3
 ·exact absurd h2 (hj _ h3)
 ·exact h3
 ·exfalso
  have h4 : k < l.findIdx (fun y => y == x) := h3
  have h5 := List.not_of_lt_findIdx h4
  rw [Bo hk] at h
  simp [h] at h5
theorem idx_none {α : Type} [DecidableEq α] [Inhabited α] {l : List α} {x : α} (hj : ∀ j, j < l.length → ¬ gd l j = x) : idx l x = l.length := idx_not fun hm => by
 obtain ⟨j, hj2, e⟩ := List.getElem_of_mem hm
 exact hj j hj2 (by rw [Bo hj2]; exact e)
theorem place_s {w0 : World} {H : List (Nat × Obj)} (rows : List RowI) (q : Option Addr) (c : Nat) (hA : Arr w0 H q 1 encRI rows) (hr : ∀ r ∈ rows, Arr w0 H r.q 1 encI r.l) (hn : ∀ r ∈ rows, r.l.length ≤ 100000) (hl : rows.length ≤ 100000) (st : List Int) (q2 : Option Addr) (c2 : Nat) (hB : Arr w0 H q2 1 encI st) :
  FSpec Tryz.prog w0 109 #[.slice q rows.length c, .slice q2 st.length c2] H (Still (.int .i64 (idx (rows.map RowI.l) st : Nat)) H) := by
 refine Bc Tryz.func109 U ntmps109 U (Ag (Ab (y_ (Ad Ak) (Af (Ae (Ag (Ag (Ab (y_ (Ad Ak) (Af (Ae (Aw ?_))) U)))))) U)))
 refine Ci (X := Nat) (V := fun k => [(5, .int .i64 (k : Nat))]) (C := [(0, _), (1, _)]) (φ := fun k => k ≤ rows.length ∧ ∀ j, j < k → ¬ gd (rows.map RowI.l) j = st) (μ := fun k => rows.length - k) (x0 := 0) ?_ ⟨Aa U, Aa U, trivial⟩ ⟨atd, trivial⟩ ?_
 ·exact ⟨Nat.zero_le _, fun j hj => by omega⟩
 rintro k ⟨hk, hno⟩
 refine Ag (Ag (Ab (y_ (Ac (T U)) (y_ (Ac (T U)) (y_ (Bn (T U) runUnderlying26) (y_ (B1 (T U) (T U)) (Af (Ae ?_)) U) U) U) U)))
 first | refine Ao (Aa U) (fun c10 => ?_) (fun c10 => ?_) | refine A5 (Aa U) (fun c10 => ?_) (fun c10 => ?_)
 ·refine A4 (Ae (Ag (Aw (Ag (Ab (y_ (Ac (T U)) (y_ (Ac (T U)) (y_ (Bb (T U) (T U) runUnderlying26 sizeOf42 (by omega) (by first | exact rfl | exact hA.b (i := k) (by omega))) ?_ U) U) U))))))
  refine y_ (Aj (T U) isAgg42 (by first | exact c_o | exact cell1 ((hA.mono sbt).cs (i := k) (by omega)))) ?_ U
  refine y_ (Ac (T U)) (y_ (Av (.cons (T U) (.cons (T U) .nil)) call31 (fun H' hs => sameInts_s (gd rows k).q q2 (gd rows k).c c2 (gd rows k).l st ((hr _ (Ax (by omega))).mono (List.Sublist.trans sbt hs)) (hB.mono (List.Sublist.trans sbt hs)) (by have := hn _ (Ax (l := rows) (i := k) (by omega)); omega))) ?_ U) U
  refine y_ (Ad (T U)) (Af (Ae (Ag (Ab (y_ (Ac (T U)) (Af (Ae ?_)) U))))) U
  first | refine Ao (Aa U) (fun c19 => ?_) (fun c19 => ?_) | refine A5 (Aa U) (fun c19 => ?_) (fun c19 => ?_)
  ·refine Ag (Ab (y_ (Ac (T U)) (y_ (Ad (T U)) (Af (Ae (A7 (A0 (Ap (B9 (A0 (Ap (A8 U (.tmp (Aa U) .nil) ?_))))))))) U) U))
   exact ⟨_, ⟨by rw [idx_at (k := k) (by simp; omega) (by rw [C4 (by omega)]; exact c19) hno]; rfl, rfl⟩, sbt⟩
  ·refine A4 (Bi (Ae (Ab (y_ (Ac (T U)) (y_ (Bt (T U) Ak (by omega)) ?_ U) U))))
   refine y_ (Ad (T U)) (Af ?_) U
   refine Bk (k + 1) ?_ ?_ ⟨atd, trivial⟩ ⟨Aa U, Aa U, trivial⟩ ?_
   ·refine ⟨by omega, fun j hj => ?_⟩
    by_cases e : j = k
    ·subst e; rw [C4 (by omega)]; exact c19
    ·exact hno j (by omega)
   ·first | omega | (simp only []; omega)
   ·exact sbt
 ·refine B2 (Ay (A2 (A3 (Ae (Ag (Ab (y_ (Ac (T U)) (y_ (Bn (T U) runUnderlying26) (y_ (Ad (T U)) (Af (Ae (A7 (A8 U (.tmp (Aa U) .nil) ?_)))) U) U) U)))))))
  exact ⟨_, ⟨by rw [idx_none (fun j hj => hno j (by simp at hj; omega)), List.length_map]; rfl, rfl⟩, sbt⟩
def takR (m : Rxm) (names : List ByteArray) (a : Nat) : Bool := decide (m.kind = 3) || (decide (a < names.length) && decide (m.node = gd names a))
theorem takes_s {w0 : World} {H : List (Nat × Obj)} (m : Rxm) (names : List ByteArray) (q : Option Addr) (c : Nat) (hA : Arr w0 H q 1 encS names) (hl : names.length ≤ 9223372036854775807) (a : Nat) :
  FSpec Tryz.prog w0 107 #[.agg (encRx m).toArray, .slice q names.length c, .int .i64 (a : Int)] H (Still (.bool (takR m names a)) H) := by
 refine Bc Tryz.func107 U ntmps107 U (Ag (Ab (e_ (Bj (T U) cs_) ?_ U)))
 rintro _ _ ⟨n3, rfl, rfl⟩
 refine y_ (Ad Ak) (Af (Ae (Ag (Cm 19 [(0, true), (1, true), (2, true), (3, true), (4, true), (5, true), (6, true), (7, true), (8, true), (9, true), (10, true), (11, true), (12, true), (13, true), (14, true), (15, true), (16, true), (17, true), (18, true)] _ mixd (by kernel_rfl) sb0 ?_)))) U
 refine o_y U (Bm (T U) Dk) (o_y U (Aj (T U) isAgg3 (by first | exact c_o)) ?_ U Ah) U Ah
 refine o_y U (By (T U) Ak) (o_y U (Ac (T U)) ?_ U Ah) U Ah
 first | refine C5 (s := 10) (Aa U) (fun c10 => ?_) (fun c10 => ?_) | refine D5 (s := 10) (Aa U) (fun c10 => ?_) (fun c10 => ?_)
 ·refine o_n U (o_n U (o_n U (o_n U (o_n U (o_n U (o_n U (o_n U (o_n U (o_n U (o_n U (o_n U (o_n U (o_y U (Az (T U) Ak) (o_y U (Ad (T U)) (B3 U (Af (Ae (A7 (A8 U (.tmp (Aa U) .nil) (⟨_, ⟨vbool ?_, rfl⟩, sbt⟩)))))) U Ah) U Ah) U (Bh U U (Aa U))) U (Cg U U (Aa U))) U (Cg U U (Aa U))) U (Cg U U (Aa U))) U (Cg U U (Aa U))) U (Cg U U (Aa U))) U (Cg U U (Aa U))) U (Cg U U (Aa U))) U (Bh U U (Aa U))) U (Bh U U (Aa U))) U (Bh U U (Aa U))) U (Bh U U (Aa U))) U (Bh U U (Aa U))
  unfold takR
  first | (rw [decide_eq_true c10]; rfl) | (rw [decide_eq_false c10, decide_eq_true (show a < names.length by omega), Bool.false_or, Bool.true_and]; exact decide_eq_decide.2 ⟨fun h => C6 h, fun h => by rw [h]⟩) | (rw [decide_eq_false c10, decide_eq_false (show ¬ a < names.length by omega)]; rfl)
 ·refine o_y U (Ac (T U)) (o_y U (Ac (T U)) (o_y U (Bn (T U) runUnderlying25) (o_y U (B1 (T U) (T U)) (o_y U (Ac (T U)) ?_ U (Ar U U (Aa U))) U (Ar U U (Aa U))) U (Ar U U (Aa U))) U (Ar U U (Aa U))) U (Ar U U (Aa U))
  first | refine C5 (s := 15) (Aa U) (fun c15 => ?_) (fun c15 => ?_) | refine D5 (s := 15) (Aa U) (fun c15 => ?_) (fun c15 => ?_)
  ·refine o_y U (Bg (T U) fa24_1) (o_y U (Aj (T U) isAgg9 (by first | exact c_o)) ?_ U (Ar U U (Aa U))) U (Ar U U (Aa U))
   refine o_y U (Ac (T U)) (o_y U (Ac (T U)) (o_y U (Bb (T U) (T U) runUnderlying25 sizeOf9 (by omega) (by first | exact rfl | exact hA.b (i := a) (by omega))) ?_ U (Ar U U (Aa U))) U (Ar U U (Aa U))) U (Ar U U (Aa U))
   refine o_y U (Aj (T U) isAgg9 (by first | exact c_o | exact cell1 ((hA.mono sbt).cs (i := a) (by omega)))) ?_ U (Ar U U (Aa U))
   refine o_y U (D0 (T U) (T U)) (o_y U (Az (T U) (T U)) (o_y U (A9 (T U) (T U)) (o_y U (Ad (T U)) (B3 U (Af (Ae (A7 (A8 U (.tmp (Aa U) .nil) (⟨_, ⟨vbool ?_, rfl⟩, sbt⟩)))))) U Ah) U Ah) U (Ar U U (Aa U))) U (Ar U U (Aa U))
   unfold takR
   first | (rw [decide_eq_true c10]; rfl) | (rw [decide_eq_false c10, decide_eq_true (show a < names.length by omega), Bool.false_or, Bool.true_and]; exact decide_eq_decide.2 ⟨fun h => C6 h, fun h => by rw [h]⟩) | (rw [decide_eq_false c10, decide_eq_false (show ¬ a < names.length by omega)]; rfl)
  ·refine o_n U (o_n U (o_n U (o_n U (o_n U (o_n U (o_n U (o_y U (A9 (T U) Ak) (o_y U (A9 (T U) (T U)) (o_y U (Ad (T U)) (B3 U (Af (Ae (A7 (A8 U (.tmp (Aa U) .nil) (⟨_, ⟨vbool ?_, rfl⟩, sbt⟩)))))) U Ah) U Ah) U (Ar U U (Aa U))) U (Ce U U (Aa U))) U (Ce U U (Aa U))) U (Ce U U (Aa U))) U (Ce U U (Aa U))) U (Ce U U (Aa U))) U (Ce U U (Aa U))) U (Ce U U (Aa U))
   unfold takR
   first | (rw [decide_eq_true c10]; rfl) | (rw [decide_eq_false c10, decide_eq_true (show a < names.length by omega), Bool.false_or, Bool.true_and]; exact decide_eq_decide.2 ⟨fun h => C6 h, fun h => by rw [h]⟩) | (rw [decide_eq_false c10, decide_eq_false (show ¬ a < names.length by omega)]; rfl)
def nameF (s : ByteArray) : List ByteArray → List ByteArray
 | [] => [s]
 | x :: l => if toL x < toL s then x :: nameF s l else if x = s then x :: l else s :: x :: l
theorem Dp {s : ByteArray} : ∀ {l : List ByteArray} {k : Nat}, k < l.length → (∀ j, j < k → toL (gd l j) < toL s) → gd l k = s → nameF s l = l
 | [], k, h, _, _ => by simp at h
 | x :: l, 0, _, _, h => by
  have h : x = s := h
  subst h; unfold nameF
  rw [if_neg (List.lt_irrefl _), if_pos rfl]
 | x :: l, k + 1, h, hj, hk => by
  have h0 : toL x < toL s := hj 0 (by omega)
  unfold nameF
  rw [if_pos h0, Dp (k := k) (by simpa using h) (fun j hj2 => hj (j + 1) (by omega)) hk]
theorem Dq {s : ByteArray} : ∀ {l : List ByteArray} {k : Nat}, k ≤ l.length → (∀ j, j < k → toL (gd l j) < toL s) → (k < l.length → ¬ toL (gd l k) < toL s ∧ ¬ gd l k = s) → nameF s l = l.take k ++ [s] ++ l.drop k
 | [], 0, _, _, _ => rfl
 | x :: l, 0, _, _, h => by
  have h : ¬ toL x < toL s ∧ ¬ x = s := h (by simp)
  unfold nameF
  rw [if_neg h.1, if_neg h.2]; rfl
 | x :: l, k + 1, h, hj, hk => by
  have h0 : toL x < toL s := hj 0 (by omega)
  unfold nameF
  rw [if_pos h0, Dq (k := k) (by simpa using h) (fun j hj2 => hj (j + 1) (by omega)) fun h2 => hk (by simpa using h2)]
  simp
theorem nameF_len (s : ByteArray) : ∀ l : List ByteArray, (nameF s l).length ≤ l.length + 1
 | [] => by simp [nameF]
 | x :: l => by
  have := nameF_len s l
  unfold nameF; split
  ·simp only [List.length_cons]; omega
  ·split <;> simp
theorem name_r {w0 : World} {H : List (Nat × Obj)} (l : List ByteArray) (q : Option Addr) (c : Nat) (hA : Arr w0 H q 1 encS l) (hc : l.length ≤ c) (hl : l.length ≤ 100000) (s : ByteArray) :
  FSpec Tryz.prog w0 121 #[.slice q l.length c, .string s] H (fun v H' => ∃ (q' : Option Addr) (c' : Nat) (M : List (Nat × Obj)), (v = .slice q' (nameF s l).length c' ∧ (nameF s l).length ≤ c' ∧ ∀ X, Arr w0 X q 1 encS l → Arr w0 (M ++ X) q' 1 encS (nameF s l)) ∧ H' = M ++ H) := by
 refine Bc Tryz.func121 U ntmps121 U (Ag (Ab (y_ (Ad Ak) (Af (Ae (Ag (Ab (y_ (Ad Ak) (Af (Ae (Ag (Aw ?_)))) U))))) U)))
 refine Ci (X := Nat) (V := fun k => [(5, .int .i64 (k : Nat))]) (C := [(0, _), (1, _)]) (φ := fun k => k ≤ l.length ∧ ∀ j, j < k → toL (gd l j) < toL s) (μ := fun k => l.length - k) (x0 := 0) ?_ ⟨Aa U, Aa U, trivial⟩ ⟨atd, trivial⟩ ?_
 ·exact ⟨Nat.zero_le _, fun j hj => by omega⟩
 rintro k ⟨hk, hlt⟩
 refine Ag (Ag (Ab (y_ (Ac (T U)) (y_ (Ac (T U)) (y_ (Bn (T U) runUnderlying25) (y_ (B1 (T U) (T U)) (y_ (Ac (T U)) ?_ U) U) U) U) U)))
 first | refine Cb (s := 11) (Aa U) (fun c11 => ?_) (fun c11 => ?_) | refine Cu (s := 11) (Aa U) (fun c11 => ?_) (fun c11 => ?_)
 ·refine Be (Ac (T U)) U (Ar U U (Aa U)) (Be (Ac (T U)) U (Ar U U (Aa U)) (Be (Bb (T U) (T U) runUnderlying25 sizeOf9 (by omega) (by first | exact rfl | exact hA.b (i := k) (by omega))) U (Ar U U (Aa U)) ?_))
  refine Be (Aj (T U) isAgg9 (by first | exact c_o | exact cell1 ((hA.mono sbt).cs (i := k) (by omega)))) U (Ar U U (Aa U)) ?_
  refine Be (Ac (T U)) U (Ar U U (Aa U)) (Be (yl_ltS (T U) (T U)) U (Ar U U (Aa U)) (y_ (Az (T U) (T U)) (Af (Ae ?_)) U))
  first | refine Ao (Aa U) (fun c18 => ?_) (fun c18 => ?_) | refine A5 (Aa U) (fun c18 => ?_) (fun c18 => ?_)
  ·refine A4 (Ae (Aw (Ab (y_ (Ac (T U)) (y_ (Bt (T U) Ak (by omega)) ?_ U) U))))
   refine y_ (Ad (T U)) (Af (Bi ?_)) U
   refine Bk (k + 1) ?_ ?_ ⟨atd, trivial⟩ ⟨Aa U, Aa U, trivial⟩ ?_
   ·refine ⟨by omega, fun j hj => ?_⟩
    by_cases e : j = k
    ·subst e; exact c18
    ·exact hlt j (by omega)
   ·first | omega | (simp only []; omega)
   ·exact sbt
  ·refine B2 (Ay (A2 (A3 (Ae (Ag (Ag (Ab (y_ (Ac (T U)) (y_ (Ac (T U)) (y_ (Bn (T U) runUnderlying25) (y_ (B1 (T U) (T U)) (y_ (Ac (T U)) ?_ U) U) U) U) U))))))))
   first | refine Cb (s := 25) (Aa U) (fun c25 => ?_) (fun c25 => ?_) | refine Cu (s := 25) (Aa U) (fun c25 => ?_) (fun c25 => ?_)
   ·refine Be (Ac (T U)) U (Ar U U (Aa U)) (Be (Ac (T U)) U (Ar U U (Aa U)) (Be (Bb (T U) (T U) runUnderlying25 sizeOf9 (by omega) (by first | exact rfl | exact hA.b (i := k) (by omega))) U (Ar U U (Aa U)) ?_))
    refine Be (Aj (T U) isAgg9 (by first | exact c_o | exact cell1 ((hA.mono sbt).cs (i := k) (by omega)))) U (Ar U U (Aa U)) ?_
    refine Be (Ac (T U)) U (Ar U U (Aa U)) (Be (D0 (T U) (T U)) U (Ar U U (Aa U)) (y_ (Az (T U) (T U)) (Af (Ae (Bl [(0, _), (1, _), (5, _), (32, _)] ⟨Aa U, Aa U, Aa U, Aa U, trivial⟩ ?_))) U))
    first | refine Ao (Aa U) (fun c32 => ?_) (fun c32 => ?_) | refine A5 (Aa U) (fun c32 => ?_) (fun c32 => ?_)
    ·refine Ag (Ab (y_ (Ac (T U)) (y_ (Ad (T U)) (Af (Ae (A7 (Ap (A8 U (.tmp (Aa U) .nil) ?_))))) U) U))
     first | (have hp : nameF s l = l := Dp (k := k) (by omega) hlt (C6 c32); exact ⟨_, ⟨q, c, [], ⟨by rw [hp]; rfl, by rw [hp]; exact hc, fun X hX => by rw [hp]; exact hX⟩, rfl⟩, sbt⟩) | (have hp : nameF s l = l.take k ++ [s] ++ l.drop k := Dq (by omega) hlt (fun h => ⟨by first | exact c18 | (exfalso; omega), fun e => by first | exact c32 (by rw [e]) | (exfalso; omega)⟩); exact ⟨_, ⟨slQ d3, slC d3, slH d3 ((l.take k ++ [s] ++ l.drop k).flatMap encS) 9, ⟨by rw [hp]; rfl, by rw [hp]; exact D4 hd3, fun X _ => by rw [hp]; exact A1 (fun _ => rfl) hd3⟩, rfl⟩, sbt⟩)
    ·refine A4 (Ae (Ag (Ab (y_ (Ad Ak) (Af (Ae (Ag (Ab (y_ (Ac (T U)) (y_ (Ac (T U)) (y_ (Ac (T U)) (y_ (Df  (T U) (T U) runUnderlying25 sizeOf9 (by omega)) ?_ U) U) U) U))))) U))))
     refine e_ (C7 (l.take k) (by' := 16) (by first | exact (by simp; omega) | omega) (T U) (T U) runUnderlying25 runUnderlying25 sizeOf9 typeInfo9 U zeroValue9 U (fun _ => rfl) (fun _ => rfl) (by decide) (by simp; omega) ((hA.mono sbt).take k)) ?_ U
     rintro _ _ ⟨d1, rfl, hd1, rfl⟩
     refine y_ (Ad (T U)) (Af (Ae (Ag (Ab (y_ (Ac (T U)) (y_ (Ac (T U)) (e_ (Al (.cons (T U) .nil) (Cw _)) ?_ U) U) U))))) U
     rintro _ _ ⟨n41, rfl, rfl⟩
     refine e_ (B8 (s) (by' := 16) (enc := encS) (by repeat (first | exact LocL.h | apply LocL.t | apply LocL.a)) (T U) (T U) runUnderlying25 runUnderlying25 sizeOf9 typeInfo9 U zeroValue9 U (fun _ => rfl) U hd1 (by decide) (by simp; omega)) ?_ U
     rintro _ _ ⟨d2, rfl, hd2, rfl⟩
     refine y_ (Ad (T U)) (Af (Ae (Ag (Ab (y_ (Ac (T U)) (y_ (Ac (T U)) (y_ (Ac (T U)) (y_ (Dg  (T U) (T U) runUnderlying25 sizeOf9 (by omega)) ?_ U) U) U) U))))) U
     refine e_ (C9 (l.drop k) (by' := 16) (enc := encS) (by first | exact (by simp) | omega) (by repeat (first | exact LocL.h | apply LocL.t | apply LocL.a)) (T U) (T U) runUnderlying25 runUnderlying25 sizeOf9 typeInfo9 U zeroValue9 U (fun _ => rfl) (fun _ => rfl) hd2 (by decide) (by simp; omega) ((hA.mono sbt).drop hc k)) ?_ U
     rintro _ _ ⟨d3, rfl, hd3, rfl⟩
     refine y_ (Ad (T U)) (Af (Ae (A7 (A8 U (.tmp (Aa U) .nil) ?_)))) U
     first | (have hp : nameF s l = l := Dp (k := k) (by omega) hlt (C6 c32); exact ⟨_, ⟨q, c, [], ⟨by rw [hp]; rfl, by rw [hp]; exact hc, fun X hX => by rw [hp]; exact hX⟩, rfl⟩, sbt⟩) | (have hp : nameF s l = l.take k ++ [s] ++ l.drop k := Dq (by omega) hlt (fun h => ⟨by first | exact c18 | (exfalso; omega), fun e => by first | exact c32 (by rw [e]) | (exfalso; omega)⟩); exact ⟨_, ⟨slQ d3, slC d3, slH d3 ((l.take k ++ [s] ++ l.drop k).flatMap encS) 9, ⟨by rw [hp]; rfl, by rw [hp]; exact D4 hd3, fun X _ => by rw [hp]; exact A1 (fun _ => rfl) hd3⟩, rfl⟩, sbt⟩)
   ·refine B6 (B6 (B6 (B6 (B6 (B6 (y_ (A9 (T U) Ak) (Af (Ae (Bl [(0, _), (1, _), (5, _), (32, _)] ⟨Aa U, Aa U, Aa U, Aa U, trivial⟩ ?_))) U) U U U U) U U U U) U U U U) U U U U) U U U U) U U U U
    first | refine Br (Aa U) ?_ | refine Br (Ai (Aa U) (vbool (decide_eq_false c32))) ?_
    refine A4 (Ae (Ag (Ab (y_ (Ad Ak) (Af (Ae (Ag (Ab (y_ (Ac (T U)) (y_ (Ac (T U)) (y_ (Ac (T U)) (y_ (Df  (T U) (T U) runUnderlying25 sizeOf9 (by omega)) ?_ U) U) U) U))))) U))))
    refine e_ (C7 (l.take k) (by' := 16) (by first | exact (by simp; omega) | omega) (T U) (T U) runUnderlying25 runUnderlying25 sizeOf9 typeInfo9 U zeroValue9 U (fun _ => rfl) (fun _ => rfl) (by decide) (by simp; omega) ((hA.mono sbt).take k)) ?_ U
    rintro _ _ ⟨d1, rfl, hd1, rfl⟩
    refine y_ (Ad (T U)) (Af (Ae (Ag (Ab (y_ (Ac (T U)) (y_ (Ac (T U)) (e_ (Al (.cons (T U) .nil) (Cw _)) ?_ U) U) U))))) U
    rintro _ _ ⟨n41, rfl, rfl⟩
    refine e_ (B8 (s) (by' := 16) (enc := encS) (by repeat (first | exact LocL.h | apply LocL.t | apply LocL.a)) (T U) (T U) runUnderlying25 runUnderlying25 sizeOf9 typeInfo9 U zeroValue9 U (fun _ => rfl) U hd1 (by decide) (by simp; omega)) ?_ U
    rintro _ _ ⟨d2, rfl, hd2, rfl⟩
    refine y_ (Ad (T U)) (Af (Ae (Ag (Ab (y_ (Ac (T U)) (y_ (Ac (T U)) (y_ (Ac (T U)) (y_ (Dg  (T U) (T U) runUnderlying25 sizeOf9 (by omega)) ?_ U) U) U) U))))) U
    refine e_ (C9 (l.drop k) (by' := 16) (enc := encS) (by first | exact (by simp) | omega) (by repeat (first | exact LocL.h | apply LocL.t | apply LocL.a)) (T U) (T U) runUnderlying25 runUnderlying25 sizeOf9 typeInfo9 U zeroValue9 U (fun _ => rfl) (fun _ => rfl) hd2 (by decide) (by simp; omega) ((hA.mono sbt).drop hc k)) ?_ U
    rintro _ _ ⟨d3, rfl, hd3, rfl⟩
    refine y_ (Ad (T U)) (Af (Ae (A7 (A8 U (.tmp (Aa U) .nil) ?_)))) U
    first | (have hp : nameF s l = l := Dp (k := k) (by omega) hlt (C6 c32); exact ⟨_, ⟨q, c, [], ⟨by rw [hp]; rfl, by rw [hp]; exact hc, fun X hX => by rw [hp]; exact hX⟩, rfl⟩, sbt⟩) | (have hp : nameF s l = l.take k ++ [s] ++ l.drop k := Dq (by omega) hlt (fun h => ⟨by first | exact c18 | (exfalso; omega), fun e => by first | exact c32 (by rw [e]) | (exfalso; omega)⟩); exact ⟨_, ⟨slQ d3, slC d3, slH d3 ((l.take k ++ [s] ++ l.drop k).flatMap encS) 9, ⟨by rw [hp]; rfl, by rw [hp]; exact D4 hd3, fun X _ => by rw [hp]; exact A1 (fun _ => rfl) hd3⟩, rfl⟩, sbt⟩)
 ·refine B6 (B6 (B6 (B6 (B6 (B6 (y_ (A9 (T U) Ak) (Af (Ae ?_)) U) U U U U) U U U U) U U U U) U U U U) U U U U) U U U U
  first | refine Br (Aa U) ?_ | refine Br (Ai (Aa U) (vbool (decide_eq_false c18))) ?_
  refine B2 (Ay (A2 (A3 (Ae (Ag (Ag (Ab (y_ (Ac (T U)) (y_ (Ac (T U)) (y_ (Bn (T U) runUnderlying25) (y_ (B1 (T U) (T U)) (y_ (Ac (T U)) ?_ U) U) U) U) U))))))))
  first | refine Cb (s := 25) (Aa U) (fun c25 => ?_) (fun c25 => ?_) | refine Cu (s := 25) (Aa U) (fun c25 => ?_) (fun c25 => ?_)
  ·refine Be (Ac (T U)) U (Ar U U (Aa U)) (Be (Ac (T U)) U (Ar U U (Aa U)) (Be (Bb (T U) (T U) runUnderlying25 sizeOf9 (by omega) (by first | exact rfl | exact hA.b (i := k) (by omega))) U (Ar U U (Aa U)) ?_))
   refine Be (Aj (T U) isAgg9 (by first | exact c_o | exact cell1 ((hA.mono sbt).cs (i := k) (by omega)))) U (Ar U U (Aa U)) ?_
   refine Be (Ac (T U)) U (Ar U U (Aa U)) (Be (D0 (T U) (T U)) U (Ar U U (Aa U)) (y_ (Az (T U) (T U)) (Af (Ae (Bl [(0, _), (1, _), (5, _), (32, _)] ⟨Aa U, Aa U, Aa U, Aa U, trivial⟩ ?_))) U))
   first | refine Ao (Aa U) (fun c32 => ?_) (fun c32 => ?_) | refine A5 (Aa U) (fun c32 => ?_) (fun c32 => ?_)
   ·refine Ag (Ab (y_ (Ac (T U)) (y_ (Ad (T U)) (Af (Ae (A7 (Ap (A8 U (.tmp (Aa U) .nil) ?_))))) U) U))
    first | (have hp : nameF s l = l := Dp (k := k) (by omega) hlt (C6 c32); exact ⟨_, ⟨q, c, [], ⟨by rw [hp]; rfl, by rw [hp]; exact hc, fun X hX => by rw [hp]; exact hX⟩, rfl⟩, sbt⟩) | (have hp : nameF s l = l.take k ++ [s] ++ l.drop k := Dq (by omega) hlt (fun h => ⟨by first | exact c18 | (exfalso; omega), fun e => by first | exact c32 (by rw [e]) | (exfalso; omega)⟩); exact ⟨_, ⟨slQ d3, slC d3, slH d3 ((l.take k ++ [s] ++ l.drop k).flatMap encS) 9, ⟨by rw [hp]; rfl, by rw [hp]; exact D4 hd3, fun X _ => by rw [hp]; exact A1 (fun _ => rfl) hd3⟩, rfl⟩, sbt⟩)
   ·refine A4 (Ae (Ag (Ab (y_ (Ad Ak) (Af (Ae (Ag (Ab (y_ (Ac (T U)) (y_ (Ac (T U)) (y_ (Ac (T U)) (y_ (Df  (T U) (T U) runUnderlying25 sizeOf9 (by omega)) ?_ U) U) U) U))))) U))))
    refine e_ (C7 (l.take k) (by' := 16) (by first | exact (by simp; omega) | omega) (T U) (T U) runUnderlying25 runUnderlying25 sizeOf9 typeInfo9 U zeroValue9 U (fun _ => rfl) (fun _ => rfl) (by decide) (by simp; omega) ((hA.mono sbt).take k)) ?_ U
    rintro _ _ ⟨d1, rfl, hd1, rfl⟩
    refine y_ (Ad (T U)) (Af (Ae (Ag (Ab (y_ (Ac (T U)) (y_ (Ac (T U)) (e_ (Al (.cons (T U) .nil) (Cw _)) ?_ U) U) U))))) U
    rintro _ _ ⟨n41, rfl, rfl⟩
    refine e_ (B8 (s) (by' := 16) (enc := encS) (by repeat (first | exact LocL.h | apply LocL.t | apply LocL.a)) (T U) (T U) runUnderlying25 runUnderlying25 sizeOf9 typeInfo9 U zeroValue9 U (fun _ => rfl) U hd1 (by decide) (by simp; omega)) ?_ U
    rintro _ _ ⟨d2, rfl, hd2, rfl⟩
    refine y_ (Ad (T U)) (Af (Ae (Ag (Ab (y_ (Ac (T U)) (y_ (Ac (T U)) (y_ (Ac (T U)) (y_ (Dg  (T U) (T U) runUnderlying25 sizeOf9 (by omega)) ?_ U) U) U) U))))) U
    refine e_ (C9 (l.drop k) (by' := 16) (enc := encS) (by first | exact (by simp) | omega) (by repeat (first | exact LocL.h | apply LocL.t | apply LocL.a)) (T U) (T U) runUnderlying25 runUnderlying25 sizeOf9 typeInfo9 U zeroValue9 U (fun _ => rfl) (fun _ => rfl) hd2 (by decide) (by simp; omega) ((hA.mono sbt).drop hc k)) ?_ U
    rintro _ _ ⟨d3, rfl, hd3, rfl⟩
    refine y_ (Ad (T U)) (Af (Ae (A7 (A8 U (.tmp (Aa U) .nil) ?_)))) U
    first | (have hp : nameF s l = l := Dp (k := k) (by omega) hlt (C6 c32); exact ⟨_, ⟨q, c, [], ⟨by rw [hp]; rfl, by rw [hp]; exact hc, fun X hX => by rw [hp]; exact hX⟩, rfl⟩, sbt⟩) | (have hp : nameF s l = l.take k ++ [s] ++ l.drop k := Dq (by omega) hlt (fun h => ⟨by first | exact c18 | (exfalso; omega), fun e => by first | exact c32 (by rw [e]) | (exfalso; omega)⟩); exact ⟨_, ⟨slQ d3, slC d3, slH d3 ((l.take k ++ [s] ++ l.drop k).flatMap encS) 9, ⟨by rw [hp]; rfl, by rw [hp]; exact D4 hd3, fun X _ => by rw [hp]; exact A1 (fun _ => rfl) hd3⟩, rfl⟩, sbt⟩)
  ·refine B6 (B6 (B6 (B6 (B6 (B6 (y_ (A9 (T U) Ak) (Af (Ae (Bl [(0, _), (1, _), (5, _), (32, _)] ⟨Aa U, Aa U, Aa U, Aa U, trivial⟩ ?_))) U) U U U U) U U U U) U U U U) U U U U) U U U U) U U U U
   first | refine Br (Aa U) ?_ | refine Br (Ai (Aa U) (vbool (decide_eq_false c32))) ?_
   refine A4 (Ae (Ag (Ab (y_ (Ad Ak) (Af (Ae (Ag (Ab (y_ (Ac (T U)) (y_ (Ac (T U)) (y_ (Ac (T U)) (y_ (Df  (T U) (T U) runUnderlying25 sizeOf9 (by omega)) ?_ U) U) U) U))))) U))))
   refine e_ (C7 (l.take k) (by' := 16) (by first | exact (by simp; omega) | omega) (T U) (T U) runUnderlying25 runUnderlying25 sizeOf9 typeInfo9 U zeroValue9 U (fun _ => rfl) (fun _ => rfl) (by decide) (by simp; omega) ((hA.mono sbt).take k)) ?_ U
   rintro _ _ ⟨d1, rfl, hd1, rfl⟩
   refine y_ (Ad (T U)) (Af (Ae (Ag (Ab (y_ (Ac (T U)) (y_ (Ac (T U)) (e_ (Al (.cons (T U) .nil) (Cw _)) ?_ U) U) U))))) U
   rintro _ _ ⟨n41, rfl, rfl⟩
   refine e_ (B8 (s) (by' := 16) (enc := encS) (by repeat (first | exact LocL.h | apply LocL.t | apply LocL.a)) (T U) (T U) runUnderlying25 runUnderlying25 sizeOf9 typeInfo9 U zeroValue9 U (fun _ => rfl) U hd1 (by decide) (by simp; omega)) ?_ U
   rintro _ _ ⟨d2, rfl, hd2, rfl⟩
   refine y_ (Ad (T U)) (Af (Ae (Ag (Ab (y_ (Ac (T U)) (y_ (Ac (T U)) (y_ (Ac (T U)) (y_ (Dg  (T U) (T U) runUnderlying25 sizeOf9 (by omega)) ?_ U) U) U) U))))) U
   refine e_ (C9 (l.drop k) (by' := 16) (enc := encS) (by first | exact (by simp) | omega) (by repeat (first | exact LocL.h | apply LocL.t | apply LocL.a)) (T U) (T U) runUnderlying25 runUnderlying25 sizeOf9 typeInfo9 U zeroValue9 U (fun _ => rfl) (fun _ => rfl) hd2 (by decide) (by simp; omega) ((hA.mono sbt).drop hc k)) ?_ U
   rintro _ _ ⟨d3, rfl, hd3, rfl⟩
   refine y_ (Ad (T U)) (Af (Ae (A7 (A8 U (.tmp (Aa U) .nil) ?_)))) U
   first | (have hp : nameF s l = l := Dp (k := k) (by omega) hlt (C6 c32); exact ⟨_, ⟨q, c, [], ⟨by rw [hp]; rfl, by rw [hp]; exact hc, fun X hX => by rw [hp]; exact hX⟩, rfl⟩, sbt⟩) | (have hp : nameF s l = l.take k ++ [s] ++ l.drop k := Dq (by omega) hlt (fun h => ⟨by first | exact c18 | (exfalso; omega), fun e => by first | exact c32 (by rw [e]) | (exfalso; omega)⟩); exact ⟨_, ⟨slQ d3, slC d3, slH d3 ((l.take k ++ [s] ++ l.drop k).flatMap encS) 9, ⟨by rw [hp]; rfl, by rw [hp]; exact D4 hd3, fun X _ => by rw [hp]; exact A1 (fun _ => rfl) hd3⟩, rfl⟩, sbt⟩)
end Go.Proofs.YtkdolgnpkjihpaaGreatDoor
