/-
  A part of what LawP rests on: the logic, walks and plain laws. No condition.
-/
import Derived.Test.YtkdolgnpkjihpaaGreatDoorJP3
namespace Go.Proofs.YtkdolgnpkjihpaaGreatDoor
open _root_.Go.Proofs.Tryz
open Go.RowKit
set_option linter.unusedVariables false
set_option linter.unusedSimpArgs false
theorem bd58_0_1 (a0 : Option Addr) (a0n a0c : Nat) (a1 : Int) (w : World) : (Instr.build 58 #[(0, .slice a0 a0n a0c), (1, .int .i64 a1)]).run Tryz.prog w = .ok (.agg #[.slice a0 a0n a0c, .int .i64 a1]) w := by kernel_rfl
theorem bd58_1 (a0 : Int) (w : World) : (Instr.build 58 #[(1, .int .i64 a0)]).run Tryz.prog w = .ok (.agg #[.slice none 0 0, .int .i64 a0]) w := by kernel_rfl
theorem B7 (a0 : Int) (a1 : ByteArray) (a2 : Option Addr) (a2n a2c : Nat) (w : World) : (Instr.buildSlice 22 1 #[(0, .agg #[.int .i64 a0, .string a1, .slice a2 a2n a2c])]).run Tryz.prog w = .ok (.slice (some ⟨w.heap.size, 0, none⟩) 1 1) (w.alloc (Cl [.int .i64 a0, .string a1, .slice a2 a2n a2c] 24)) := by kernel_rfl
theorem bs25_2_0_1 (a0 : ByteArray) (a1 : ByteArray) (w : World) : (Instr.buildSlice 25 2 #[(0, .string a0), (1, .string a1)]).run Tryz.prog w = .ok (.slice (some ⟨w.heap.size, 0, none⟩) 2 2) (w.alloc (Cl [.string a0, .string a1] 9)) := by kernel_rfl
theorem bs25_3_0_1_2 (a0 : ByteArray) (a1 : ByteArray) (a2 : ByteArray) (w : World) : (Instr.buildSlice 25 3 #[(0, .string a0), (1, .string a1), (2, .string a2)]).run Tryz.prog w = .ok (.slice (some ⟨w.heap.size, 0, none⟩) 3 3) (w.alloc (Cl [.string a0, .string a1, .string a2] 9)) := by kernel_rfl
theorem bs42_3_0_1_2 (a0 : Int) (a1 : Int) (a2 : Int) (w : World) : (Instr.buildSlice 42 3 #[(0, .int .i64 a0), (1, .int .i64 a1), (2, .int .i64 a2)]).run Tryz.prog w = .ok (.slice (some ⟨w.heap.size, 0, none⟩) 3 3) (w.alloc (Cl [.int .i64 a0, .int .i64 a1, .int .i64 a2] 3)) := by kernel_rfl
theorem still_v {P : Program} {w0 : World} {f : FuncId} {args : Array Value} {H : List (Nat × Obj)} {b c : Value} (e : b = c) (h : FSpec P w0 f args H (Still b H)) : FSpec P w0 f args H (Still c H) := e ▸ h
theorem rxx_own {w0 : World} {H H' : List (Nat × Obj)} {n27 n31 n34 n37 : Nat} (h1 : Fnd H n27 (Cl (encRx (.mk 3 ⟨#[]⟩ none 0 [])) 24)) (h2 : Fnd H n31 (Cl (encRx (.mk 2 ⟨#[97]⟩ none 0 []) ++ encRx (.mk 6 ⟨#[]⟩ (some ⟨n27, 0, none⟩) 1 [(.mk 3 ⟨#[]⟩ none 0 [])])) 24)) (h3 : Fnd H n34 (Cl (encRx (.mk 4 ⟨#[]⟩ (some ⟨n31, 0, none⟩) 2 [(.mk 2 ⟨#[97]⟩ none 0 []), (.mk 6 ⟨#[]⟩ (some ⟨n27, 0, none⟩) 1 [(.mk 3 ⟨#[]⟩ none 0 [])])]) ++ encRx (.mk 2 ⟨#[99]⟩ none 0 [])) 24)) (h4 : Fnd H n37 (Cl (encRx (.mk 4 ⟨#[]⟩ (some ⟨n34, 0, none⟩) 2 [(.mk 4 ⟨#[]⟩ (some ⟨n31, 0, none⟩) 2 [(.mk 2 ⟨#[97]⟩ none 0 []), (.mk 6 ⟨#[]⟩ (some ⟨n27, 0, none⟩) 1 [(.mk 3 ⟨#[]⟩ none 0 [])])]), (.mk 2 ⟨#[99]⟩ none 0 [])]) ++ encRx (.mk 6 ⟨#[]⟩ (some ⟨n27, 0, none⟩) 1 [(.mk 3 ⟨#[]⟩ none 0 [])])) 24)) (hs : H.Sublist H') : RxM w0 H' (.mk 4 ⟨#[]⟩ (some ⟨n37, 0, none⟩) 2 [(.mk 4 ⟨#[]⟩ (some ⟨n34, 0, none⟩) 2 [(.mk 4 ⟨#[]⟩ (some ⟨n31, 0, none⟩) 2 [(.mk 2 ⟨#[97]⟩ none 0 []), (.mk 6 ⟨#[]⟩ (some ⟨n27, 0, none⟩) 1 [(.mk 3 ⟨#[]⟩ none 0 [])])]), (.mk 2 ⟨#[99]⟩ none 0 [])]), (.mk 6 ⟨#[]⟩ (some ⟨n27, 0, none⟩) 1 [(.mk 3 ⟨#[]⟩ none 0 [])])]) :=
 (rx2 (rx2 (rx2 rx0 (rx1 rx0 h1) h2) rx0 h3) (rx1 rx0 h1) h4).mono hs
theorem sRe' {m : Mc} (h : m.pl = sM) (n1 n2 n3 : Nat) : decide (RefOk (exN n1 n2 n3) ⟨none, 0, [], -1⟩ m.pl 1 3 ([(0, 2), (1, 2), (2, 2), (3, 2)].map toI)) = true := by rw [h]; exact sRe n1 n2 n3 _ _
set_option maxHeartbeats 2000000 in
theorem sanity_s {w0 : World} {H : List (Nat × Obj)}  :
  FSpec Tryz.prog w0 11 #[] H (Still (.bool true) H) := by
 refine A8 Tryz.func11 U ntmps11 U (Ag (Ab (y_ (Ad Ak) (Af (Ae (Ag (Ab (e_ (Aw .nil call43 (example_s)) ?_ U))))) U)))
 rintro _ _ ⟨⟨x1, x2, x3⟩, rfl, rfl⟩
 refine e_ (Ar zeroValue56 cs_) ?_ U
 rintro _ _ ⟨n1, rfl, rfl⟩
 first | refine A7 (Av (T U) (T U) sizeOf56) U Ah ?_
 rintro _ _ ⟨rfl, rfl⟩
 refine Af (Ae (Ag (Ab (y_ (Ax .nil call44 (fun H' hs => some_s)) (e_ (Al (.cons (T U) .nil) (B7 _ _ _ _ _)) ?_ U) U))))
 rintro _ _ ⟨n27, rfl, rfl⟩
 refine y_ (Ax (.cons Ak (.cons (T U) .nil)) call26 (fun H' hs => Cq 6 (some ⟨n27, 0, none⟩) [(.mk 3 ⟨#[]⟩ none 0 [])] 1)) (e_ (Ar zeroValue24 cs_) ?_ U) U
 rintro _ _ ⟨n2, rfl, rfl⟩
 first | refine A7 (Av (T U) (T U) sizeOf24) U Ah ?_
 rintro _ _ ⟨rfl, rfl⟩
 refine Af (Ae ?_)
 refine Dr (X := Nat × Nat × Nat × Nat) (V := fun ⟨n3, n31, n34, n37⟩ => [(3, .pointer (some ⟨n3, 0, none⟩))]) (C := [(1, _), (2, _)]) (G := fun ⟨n3, n31, n34, n37⟩ => (n3, Cl (encRx (.mk 4 ⟨#[]⟩ (some ⟨n37, 0, none⟩) 2 [(.mk 4 ⟨#[]⟩ (some ⟨n34, 0, none⟩) 2 [(.mk 4 ⟨#[]⟩ (some ⟨n31, 0, none⟩) 2 [(.mk 2 ⟨#[97]⟩ none 0 []), (.mk 6 ⟨#[]⟩ (some ⟨n27, 0, none⟩) 1 [(.mk 3 ⟨#[]⟩ none 0 [])])]), (.mk 2 ⟨#[99]⟩ none 0 [])]), (.mk 6 ⟨#[]⟩ (some ⟨n27, 0, none⟩) 1 [(.mk 3 ⟨#[]⟩ none 0 [])])])) 24) :: (n37, Cl (encRx (.mk 4 ⟨#[]⟩ (some ⟨n34, 0, none⟩) 2 [(.mk 4 ⟨#[]⟩ (some ⟨n31, 0, none⟩) 2 [(.mk 2 ⟨#[97]⟩ none 0 []), (.mk 6 ⟨#[]⟩ (some ⟨n27, 0, none⟩) 1 [(.mk 3 ⟨#[]⟩ none 0 [])])]), (.mk 2 ⟨#[99]⟩ none 0 [])]) ++ encRx (.mk 6 ⟨#[]⟩ (some ⟨n27, 0, none⟩) 1 [(.mk 3 ⟨#[]⟩ none 0 [])])) 24) :: (n34, Cl (encRx (.mk 4 ⟨#[]⟩ (some ⟨n31, 0, none⟩) 2 [(.mk 2 ⟨#[97]⟩ none 0 []), (.mk 6 ⟨#[]⟩ (some ⟨n27, 0, none⟩) 1 [(.mk 3 ⟨#[]⟩ none 0 [])])]) ++ encRx (.mk 2 ⟨#[99]⟩ none 0 [])) 24) :: (n31, Cl (encRx (.mk 2 ⟨#[97]⟩ none 0 []) ++ encRx (.mk 6 ⟨#[]⟩ (some ⟨n27, 0, none⟩) 1 [(.mk 3 ⟨#[]⟩ none 0 [])])) 24) :: (n2, Cl (encRx (.mk 6 ⟨#[]⟩ (some ⟨n27, 0, none⟩) 1 [(.mk 3 ⟨#[]⟩ none 0 [])])) 24) :: (n27, Cl (encRx (.mk 3 ⟨#[]⟩ none 0 [])) 24) :: (n1, Cl (encNn (exN x1 x2 x3)) 56) :: (x3, Cl (exEdges.flatMap encE) 154) :: (x2, Cl (exLinks.flatMap encLn) 71) :: (x1, Cl (exK 4) 138) :: H) (φ := fun ⟨n3, n31, n34, n37⟩ => True) ⟨Aa rfl, Aa rfl, trivial⟩ ?_ ?_
 ·refine j_anyX 11 _ mixd (by kernel_rfl) sb0 ?_
  refine x_y (i := 0) U (by kernel_rfl) (Ax (.cons Ak .nil) call45 (fun H' hs => node_s ⟨#[97]⟩)) ?_ U Ah
  refine x_y (i := 1) U (by kernel_rfl) (Am (T U) isAgg24 sizeOf24 U (by first | exact Bh)) ?_ U Ah
  refine x_y (i := 7) U (by kernel_rfl) (Am (T U) isAgg24 sizeOf24 U (by first | exact Bh)) ?_ U Ah
  refine De (i := 2) (j := 10) (by kernel_rfl) (by kernel_rfl) ?_ ?_
  ·refine B3 U (Al (.cons (T U) (.cons (T U) .nil)) (B8 _ _ _ _ _ _ _ _ _ _)) ?_ U Ah
   rintro _ _ ⟨n31, rfl, rfl⟩
   refine ⟨sbt, (x_y (i := 3) U (by kernel_rfl) (Ax (.cons Ak (.cons (T U) .nil)) call26 (fun H' hs => Cq 4 (some ⟨n31, 0, none⟩) [(.mk 2 ⟨#[97]⟩ none 0 []), (.mk 6 ⟨#[]⟩ (some ⟨n27, 0, none⟩) 1 [(.mk 3 ⟨#[]⟩ none 0 [])])] 2)) ?_ U Ah)⟩
   refine x_y (i := 4) U (by kernel_rfl) (Ax (.cons Ak .nil) call45 (fun H' hs => node_s ⟨#[99]⟩)) ?_ U Ah
   refine De (i := 5) (j := 10) (by kernel_rfl) (by kernel_rfl) ?_ ?_
   ·refine B3 U (Al (.cons (T U) (.cons (T U) .nil)) (B8 _ _ _ _ _ _ _ _ _ _)) ?_ U Ah
    rintro _ _ ⟨n34, rfl, rfl⟩
    refine ⟨sbt, (x_y (i := 6) U (by kernel_rfl) (Ax (.cons Ak (.cons (T U) .nil)) call26 (fun H' hs => Cq 4 (some ⟨n34, 0, none⟩) [(.mk 4 ⟨#[]⟩ (some ⟨n31, 0, none⟩) 2 [(.mk 2 ⟨#[97]⟩ none 0 []), (.mk 6 ⟨#[]⟩ (some ⟨n27, 0, none⟩) 1 [(.mk 3 ⟨#[]⟩ none 0 [])])]), (.mk 2 ⟨#[99]⟩ none 0 [])] 2)) ?_ U Ah)⟩
    refine De (i := 8) (j := 10) (by kernel_rfl) (by kernel_rfl) ?_ ?_
    ·refine B3 U (Al (.cons (T U) (.cons (T U) .nil)) (B8 _ _ _ _ _ _ _ _ _ _)) ?_ U Ah
     rintro _ _ ⟨n37, rfl, rfl⟩
     refine ⟨sbt, (x_y (i := 9) U (by kernel_rfl) (Ax (.cons Ak (.cons (T U) .nil)) call26 (fun H' hs => Cq 4 (some ⟨n37, 0, none⟩) [(.mk 4 ⟨#[]⟩ (some ⟨n34, 0, none⟩) 2 [(.mk 4 ⟨#[]⟩ (some ⟨n31, 0, none⟩) 2 [(.mk 2 ⟨#[97]⟩ none 0 []), (.mk 6 ⟨#[]⟩ (some ⟨n27, 0, none⟩) 1 [(.mk 3 ⟨#[]⟩ none 0 [])])]), (.mk 2 ⟨#[99]⟩ none 0 [])]), (.mk 6 ⟨#[]⟩ (some ⟨n27, 0, none⟩) 1 [(.mk 3 ⟨#[]⟩ none 0 [])])] 2)) ?_ U Ah)⟩
     refine B5 (i := 10) (by kernel_rfl) (by kernel_rfl) ?_
     refine B3 U (Ar zeroValue24 cs_) ?_ U Ah
     rintro _ _ ⟨n3, rfl, rfl⟩
     refine ⟨sbt, (Ct (by kernel_rfl) U ?_)⟩
     first | refine A7 (Av (T U) (T U) sizeOf24) U Ah ?_
     rintro _ _ ⟨rfl, rfl⟩
     refine Af ?_
     first | (refine Br ((n3, n31, n34, n37)) ?_ ⟨atd, trivial⟩ ⟨Aa U, Aa U, trivial⟩ (List.Sublist.refl _)) | (refine Ci (List.Perm.swap _ _ _) ?_; refine Br ((n3, n31, n34, n37)) ?_ ⟨atd, trivial⟩ ⟨Aa U, Aa U, trivial⟩ (List.Sublist.refl _)) | (refine Ci ((List.Perm.cons _ (List.Perm.swap _ _ _)).trans (List.Perm.swap _ _ _)) ?_; refine Br ((n3, n31, n34, n37)) ?_ ⟨atd, trivial⟩ ⟨Aa U, Aa U, trivial⟩ (List.Sublist.refl _)) | (refine Ci ((List.Perm.cons _ (List.Perm.cons _ (List.Perm.swap _ _ _))).trans ((List.Perm.cons _ (List.Perm.swap _ _ _)).trans (List.Perm.swap _ _ _))) ?_; refine Br ((n3, n31, n34, n37)) ?_ ⟨atd, trivial⟩ ⟨Aa U, Aa U, trivial⟩ (List.Sublist.refl _))
     trivial
    ·refine B3 U (Ar zeroValue24 cs_) ?_ U Ah
     rintro _ _ ⟨n3, rfl, rfl⟩
     refine ⟨sbt, (B5 (i := 8) (by kernel_rfl) (by kernel_rfl) ?_)⟩
     refine B3 U (Al (.cons (T U) (.cons (T U) .nil)) (B8 _ _ _ _ _ _ _ _ _ _)) ?_ U Ah
     rintro _ _ ⟨n37, rfl, rfl⟩
     refine ⟨sbt, (x_y (i := 9) U (by kernel_rfl) (Ax (.cons Ak (.cons (T U) .nil)) call26 (fun H' hs => Cq 4 (some ⟨n37, 0, none⟩) [(.mk 4 ⟨#[]⟩ (some ⟨n34, 0, none⟩) 2 [(.mk 4 ⟨#[]⟩ (some ⟨n31, 0, none⟩) 2 [(.mk 2 ⟨#[97]⟩ none 0 []), (.mk 6 ⟨#[]⟩ (some ⟨n27, 0, none⟩) 1 [(.mk 3 ⟨#[]⟩ none 0 [])])]), (.mk 2 ⟨#[99]⟩ none 0 [])]), (.mk 6 ⟨#[]⟩ (some ⟨n27, 0, none⟩) 1 [(.mk 3 ⟨#[]⟩ none 0 [])])] 2)) ?_ U Ah)⟩
     refine Ct (by kernel_rfl) U ?_
     first | refine A7 (Av (T U) (T U) sizeOf24) U Ah ?_
     rintro _ _ ⟨rfl, rfl⟩
     refine Af ?_
     first | (refine Br ((n3, n31, n34, n37)) ?_ ⟨atd, trivial⟩ ⟨Aa U, Aa U, trivial⟩ (List.Sublist.refl _)) | (refine Ci (List.Perm.swap _ _ _) ?_; refine Br ((n3, n31, n34, n37)) ?_ ⟨atd, trivial⟩ ⟨Aa U, Aa U, trivial⟩ (List.Sublist.refl _)) | (refine Ci ((List.Perm.cons _ (List.Perm.swap _ _ _)).trans (List.Perm.swap _ _ _)) ?_; refine Br ((n3, n31, n34, n37)) ?_ ⟨atd, trivial⟩ ⟨Aa U, Aa U, trivial⟩ (List.Sublist.refl _)) | (refine Ci ((List.Perm.cons _ (List.Perm.cons _ (List.Perm.swap _ _ _))).trans ((List.Perm.cons _ (List.Perm.swap _ _ _)).trans (List.Perm.swap _ _ _))) ?_; refine Br ((n3, n31, n34, n37)) ?_ ⟨atd, trivial⟩ ⟨Aa U, Aa U, trivial⟩ (List.Sublist.refl _))
     trivial
   ·refine B3 U (Ar zeroValue24 cs_) ?_ U Ah
    rintro _ _ ⟨n3, rfl, rfl⟩
    refine ⟨sbt, (B5 (i := 5) (by kernel_rfl) (by kernel_rfl) ?_)⟩
    refine B3 U (Al (.cons (T U) (.cons (T U) .nil)) (B8 _ _ _ _ _ _ _ _ _ _)) ?_ U Ah
    rintro _ _ ⟨n34, rfl, rfl⟩
    refine ⟨sbt, (x_y (i := 6) U (by kernel_rfl) (Ax (.cons Ak (.cons (T U) .nil)) call26 (fun H' hs => Cq 4 (some ⟨n34, 0, none⟩) [(.mk 4 ⟨#[]⟩ (some ⟨n31, 0, none⟩) 2 [(.mk 2 ⟨#[97]⟩ none 0 []), (.mk 6 ⟨#[]⟩ (some ⟨n27, 0, none⟩) 1 [(.mk 3 ⟨#[]⟩ none 0 [])])]), (.mk 2 ⟨#[99]⟩ none 0 [])] 2)) ?_ U Ah)⟩
    refine B5 (i := 8) (by kernel_rfl) (by kernel_rfl) ?_
    refine B3 U (Al (.cons (T U) (.cons (T U) .nil)) (B8 _ _ _ _ _ _ _ _ _ _)) ?_ U Ah
    rintro _ _ ⟨n37, rfl, rfl⟩
    refine ⟨sbt, (x_y (i := 9) U (by kernel_rfl) (Ax (.cons Ak (.cons (T U) .nil)) call26 (fun H' hs => Cq 4 (some ⟨n37, 0, none⟩) [(.mk 4 ⟨#[]⟩ (some ⟨n34, 0, none⟩) 2 [(.mk 4 ⟨#[]⟩ (some ⟨n31, 0, none⟩) 2 [(.mk 2 ⟨#[97]⟩ none 0 []), (.mk 6 ⟨#[]⟩ (some ⟨n27, 0, none⟩) 1 [(.mk 3 ⟨#[]⟩ none 0 [])])]), (.mk 2 ⟨#[99]⟩ none 0 [])]), (.mk 6 ⟨#[]⟩ (some ⟨n27, 0, none⟩) 1 [(.mk 3 ⟨#[]⟩ none 0 [])])] 2)) ?_ U Ah)⟩
    refine Ct (by kernel_rfl) U ?_
    first | refine A7 (Av (T U) (T U) sizeOf24) U Ah ?_
    rintro _ _ ⟨rfl, rfl⟩
    refine Af ?_
    first | (refine Br ((n3, n31, n34, n37)) ?_ ⟨atd, trivial⟩ ⟨Aa U, Aa U, trivial⟩ (List.Sublist.refl _)) | (refine Ci (List.Perm.swap _ _ _) ?_; refine Br ((n3, n31, n34, n37)) ?_ ⟨atd, trivial⟩ ⟨Aa U, Aa U, trivial⟩ (List.Sublist.refl _)) | (refine Ci ((List.Perm.cons _ (List.Perm.swap _ _ _)).trans (List.Perm.swap _ _ _)) ?_; refine Br ((n3, n31, n34, n37)) ?_ ⟨atd, trivial⟩ ⟨Aa U, Aa U, trivial⟩ (List.Sublist.refl _)) | (refine Ci ((List.Perm.cons _ (List.Perm.cons _ (List.Perm.swap _ _ _))).trans ((List.Perm.cons _ (List.Perm.swap _ _ _)).trans (List.Perm.swap _ _ _))) ?_; refine Br ((n3, n31, n34, n37)) ?_ ⟨atd, trivial⟩ ⟨Aa U, Aa U, trivial⟩ (List.Sublist.refl _))
    trivial
  ·refine B3 U (Ar zeroValue24 cs_) ?_ U Ah
   rintro _ _ ⟨n3, rfl, rfl⟩
   refine ⟨sbt, (B5 (i := 2) (by kernel_rfl) (by kernel_rfl) ?_)⟩
   refine B3 U (Al (.cons (T U) (.cons (T U) .nil)) (B8 _ _ _ _ _ _ _ _ _ _)) ?_ U Ah
   rintro _ _ ⟨n31, rfl, rfl⟩
   refine ⟨sbt, (x_y (i := 3) U (by kernel_rfl) (Ax (.cons Ak (.cons (T U) .nil)) call26 (fun H' hs => Cq 4 (some ⟨n31, 0, none⟩) [(.mk 2 ⟨#[97]⟩ none 0 []), (.mk 6 ⟨#[]⟩ (some ⟨n27, 0, none⟩) 1 [(.mk 3 ⟨#[]⟩ none 0 [])])] 2)) ?_ U Ah)⟩
   refine x_y (i := 4) U (by kernel_rfl) (Ax (.cons Ak .nil) call45 (fun H' hs => node_s ⟨#[99]⟩)) ?_ U Ah
   refine B5 (i := 5) (by kernel_rfl) (by kernel_rfl) ?_
   refine B3 U (Al (.cons (T U) (.cons (T U) .nil)) (B8 _ _ _ _ _ _ _ _ _ _)) ?_ U Ah
   rintro _ _ ⟨n34, rfl, rfl⟩
   refine ⟨sbt, (x_y (i := 6) U (by kernel_rfl) (Ax (.cons Ak (.cons (T U) .nil)) call26 (fun H' hs => Cq 4 (some ⟨n34, 0, none⟩) [(.mk 4 ⟨#[]⟩ (some ⟨n31, 0, none⟩) 2 [(.mk 2 ⟨#[97]⟩ none 0 []), (.mk 6 ⟨#[]⟩ (some ⟨n27, 0, none⟩) 1 [(.mk 3 ⟨#[]⟩ none 0 [])])]), (.mk 2 ⟨#[99]⟩ none 0 [])] 2)) ?_ U Ah)⟩
   refine B5 (i := 8) (by kernel_rfl) (by kernel_rfl) ?_
   refine B3 U (Al (.cons (T U) (.cons (T U) .nil)) (B8 _ _ _ _ _ _ _ _ _ _)) ?_ U Ah
   rintro _ _ ⟨n37, rfl, rfl⟩
   refine ⟨sbt, (x_y (i := 9) U (by kernel_rfl) (Ax (.cons Ak (.cons (T U) .nil)) call26 (fun H' hs => Cq 4 (some ⟨n37, 0, none⟩) [(.mk 4 ⟨#[]⟩ (some ⟨n34, 0, none⟩) 2 [(.mk 4 ⟨#[]⟩ (some ⟨n31, 0, none⟩) 2 [(.mk 2 ⟨#[97]⟩ none 0 []), (.mk 6 ⟨#[]⟩ (some ⟨n27, 0, none⟩) 1 [(.mk 3 ⟨#[]⟩ none 0 [])])]), (.mk 2 ⟨#[99]⟩ none 0 [])]), (.mk 6 ⟨#[]⟩ (some ⟨n27, 0, none⟩) 1 [(.mk 3 ⟨#[]⟩ none 0 [])])] 2)) ?_ U Ah)⟩
   refine Ct (by kernel_rfl) U ?_
   first | refine A7 (Av (T U) (T U) sizeOf24) U Ah ?_
   rintro _ _ ⟨rfl, rfl⟩
   refine Af ?_
   first | (refine Br ((n3, n31, n34, n37)) ?_ ⟨atd, trivial⟩ ⟨Aa U, Aa U, trivial⟩ (List.Sublist.refl _)) | (refine Ci (List.Perm.swap _ _ _) ?_; refine Br ((n3, n31, n34, n37)) ?_ ⟨atd, trivial⟩ ⟨Aa U, Aa U, trivial⟩ (List.Sublist.refl _)) | (refine Ci ((List.Perm.cons _ (List.Perm.swap _ _ _)).trans (List.Perm.swap _ _ _)) ?_; refine Br ((n3, n31, n34, n37)) ?_ ⟨atd, trivial⟩ ⟨Aa U, Aa U, trivial⟩ (List.Sublist.refl _)) | (refine Ci ((List.Perm.cons _ (List.Perm.cons _ (List.Perm.swap _ _ _))).trans ((List.Perm.cons _ (List.Perm.swap _ _ _)).trans (List.Perm.swap _ _ _))) ?_; refine Br ((n3, n31, n34, n37)) ?_ ⟨atd, trivial⟩ ⟨Aa U, Aa U, trivial⟩ (List.Sublist.refl _))
   trivial
 rintro ⟨n3, n31, n34, n37⟩ _
 refine Ag (Ab (y_ (Am (T U) isAgg24 sizeOf24 U (by first | exact Bh)) ?_ U))
 refine e_ (Aw (.cons (T U) .nil) call12 (buildM_s (e := sX) (.mk 4 ⟨#[]⟩ (some ⟨n37, 0, none⟩) 2 [(.mk 4 ⟨#[]⟩ (some ⟨n34, 0, none⟩) 2 [(.mk 4 ⟨#[]⟩ (some ⟨n31, 0, none⟩) 2 [(.mk 2 ⟨#[97]⟩ none 0 []), (.mk 6 ⟨#[]⟩ (some ⟨n27, 0, none⟩) 1 [(.mk 3 ⟨#[]⟩ none 0 [])])]), (.mk 2 ⟨#[99]⟩ none 0 [])]), (.mk 6 ⟨#[]⟩ (some ⟨n27, 0, none⟩) 1 [(.mk 3 ⟨#[]⟩ none 0 [])])]) (.seq (.seq (.seq (.nod (by decide)) (.star .any)) (.nod (by decide))) (.star .any)) (rx2 (rx2 (rx2 rx0 (rx1 rx0)) rx0) (rx1 rx0)) (by decide) sX_build)) ?_ U
 rintro _ _ ⟨m1, M1, ⟨rfl, hp1, hm1⟩, rfl⟩
 have hr1 : m1.rows.length = 4 := by have := congrArg (fun p => p.next.length) hp1; simpa [Mc.pl, sM] using this
 have hk1 : PMok m1.pl := by rw [hp1]; exact sM_ok
 have hs1 : Srt m1.names := by have := congrArg PM.names hp1; simp only [Mc.pl] at this; rw [this]; exact sM_srt
 have hn1 : m1.names.length = 2 := by have := congrArg (fun p => p.names.length) hp1; simpa [Mc.pl, sM] using this
 refine y_ (Ac (T U)) (y_ (Bf (T U) U) (y_ (Bf (T U) U) (e_ (Ar zeroValue29 cs_) ?_ U) U) U) U
 rintro _ _ ⟨n4, rfl, rfl⟩
 first | refine A7 (Av (T U) (T U) sizeOf29) U Ah ?_
 rintro _ _ ⟨rfl, rfl⟩
 refine y_ (Ad (T U)) (Af (Ae (Ag (Ab (y_ (Am (T U) isAgg24 sizeOf24 U (by first | exact Bh)) ?_ U))))) U
 refine e_ (Aw (.cons (T U) .nil) call12 (buildM_s (e := sany) (.mk 6 ⟨#[]⟩ (some ⟨n27, 0, none⟩) 1 [(.mk 3 ⟨#[]⟩ none 0 [])]) (.star .any) (rx1 rx0) (by decide) sA_build)) ?_ U
 rintro _ _ ⟨m2, M2, ⟨rfl, hp2, hm2⟩, rfl⟩
 have hr2 : m2.rows.length = 1 := by have := congrArg (fun p => p.next.length) hp2; simpa [Mc.pl] using this
 refine y_ (Ac (T U)) (y_ (Bf (T U) U) (y_ (Bf (T U) U) (e_ (Ar zeroValue29 cs_) ?_ U) U) U) U
 rintro _ _ ⟨n6, rfl, rfl⟩
 first | refine A7 (Av (T U) (T U) sizeOf29) U Ah ?_
 rintro _ _ ⟨rfl, rfl⟩
 refine y_ (Ad (T U)) (Af (Ae (Ag (Ag (Ab (y_ (Ac (T U)) (y_ (C0 (T U) Ak) (y_ (Ac (T U)) (Bj (Ac (T U)) U (As U U (Aa U)) (Bj (C0 (T U) Ak) U (As U U (Aa U)) (y_ (A9 (T U) (T U)) (y_ (Ac (T U)) (Bj (Be (T U) Ck) U (As U U (Aa U)) (Bj (Aj (T U) isAgg26 (by first | exact c_o)) U (As U U (Aa U)) ?_)) U) U))) U) U) U)))))) U
 refine Bj (Bm (T U) runUnderlying26) U (As U U (Aa U)) (Bj (C0 (T U) Ak) U (As U U (Aa U)) (y_ (A9 (T U) (T U)) (y_ (Ac (T U)) ?_ U) U))
 first | refine Cb (s := 61) (Aa U) (fun c61 => ?_) (fun c61 => ?_) | refine Cw (s := 61) (Aa U) (fun c61 => ?_) (fun c61 => ?_)
 ·exfalso; omega
 ·refine Bj (Be (T U) Ck) U (As U U (Aa U)) (Bj (Aj (T U) isAgg26 (by first | exact c_o)) U (As U U (Aa U)) ?_)
  refine Bj (Bm (T U) runUnderlying26) U (As U U (Aa U)) (Bj (C0 (T U) Ak) U (As U U (Aa U)) (y_ (A9 (T U) (T U)) (y_ (Ac (T U)) ?_ U) U))
  first | refine Cb (s := 67) (Aa U) (fun c67 => ?_) (fun c67 => ?_) | refine Cw (s := 67) (Aa U) (fun c67 => ?_) (fun c67 => ?_)
  ·exfalso; omega
  ·refine Bj (Am (T U) isAgg29 sizeOf29 U (by first | exact Bh)) U (As U U (Aa U)) ?_
   refine Bj (Ax (.cons (T U) .nil) call18 (fun H' hs => chkM_s m1 (hm1.mono (List.Sublist.trans sbt hs)) hk1 hs1 (by omega))) U (As U U (Aa U)) ?_
   refine Bj (C2 (T U)) U (As U U (Aa U)) (y_ (A9 (T U) (T U)) (y_ (Ac (T U)) (Bj (Bv .nil (bd29_z)) U (As U U (Aa U)) (Bj (Ax (.cons (T U) .nil) call18 (fun H' hs => Dq (c := false) (b := chkI ⟨[], [], [], none, 0, none, 0, none, 0⟩) (by decide) (pcheck_s ⟨[], [], [], none, 0, none, 0, none, 0⟩ ⟨fun i x hi => (by cases hi), fun i x hi => (by cases hi), fun i x hi => (by cases hi), fun r hr => (by cases hr), by decide, by decide, fun r hr => (by cases hr)⟩))) U (As U U (Aa U)) ?_)) U) U)
   refine y_ (A9 (T U) (T U)) (y_ (Ac (T U)) (Bj (Am (T U) isAgg24 sizeOf24 U (by first | exact Bh)) U (As U U (Aa U)) ?_) U) U
   refine A7 (Al (.cons Ak (.cons Ak .nil)) (bs25_2_0_1 _ _)) U (As U U (Aa U)) ?_
   rintro _ _ ⟨n78, rfl, rfl⟩
   refine Bj (Ax (.cons (T rfl) (.cons (T rfl) .nil)) call16 (fun H' hs => Dq sM1 (match_s (.mk 4 ⟨#[]⟩ (some ⟨n37, 0, none⟩) 2 [(.mk 4 ⟨#[]⟩ (some ⟨n34, 0, none⟩) 2 [(.mk 4 ⟨#[]⟩ (some ⟨n31, 0, none⟩) 2 [(.mk 2 ⟨#[97]⟩ none 0 []), (.mk 6 ⟨#[]⟩ (some ⟨n27, 0, none⟩) 1 [(.mk 3 ⟨#[]⟩ none 0 [])])]), (.mk 2 ⟨#[99]⟩ none 0 [])]), (.mk 6 ⟨#[]⟩ (some ⟨n27, 0, none⟩) 1 [(.mk 3 ⟨#[]⟩ none 0 [])])]) sX (some ⟨n78, 0, none⟩) 2 [(⟨#[97]⟩ : ByteArray), (⟨#[99]⟩ : ByteArray)] (.seq (.seq (.seq (.nod (by decide)) (.star .any)) (.nod (by decide))) (.star .any)) (rxx_own fdd fdd fdd fdd hs) (by decide) (Cx (l := [(⟨#[97]⟩ : ByteArray), (⟨#[99]⟩ : ByteArray)]) (cells := ([(⟨#[97]⟩ : ByteArray), (⟨#[99]⟩ : ByteArray)]).flatMap encS) (e := 9) (fun _ => rfl) rfl (Fnd.mono fdd hs)) (by decide)))) rfl (As rfl rfl (Aa rfl)) ?_
   refine Bj (C2 (T U)) U (As U U (Aa U)) (y_ (A9 (T U) (T U)) (y_ (Ac (T U)) (Bj (Am (T U) isAgg24 sizeOf24 U (by first | exact Bh)) U (As U U (Aa U)) ?_) U) U)
   refine A7 (Al (.cons Ak (.cons Ak (.cons Ak .nil))) (bs25_3_0_1_2 _ _ _)) U (As U U (Aa U)) ?_
   rintro _ _ ⟨n84, rfl, rfl⟩
   refine Bj (Ax (.cons (T rfl) (.cons (T rfl) .nil)) call16 (fun H' hs => Dq sM2 (match_s (.mk 4 ⟨#[]⟩ (some ⟨n37, 0, none⟩) 2 [(.mk 4 ⟨#[]⟩ (some ⟨n34, 0, none⟩) 2 [(.mk 4 ⟨#[]⟩ (some ⟨n31, 0, none⟩) 2 [(.mk 2 ⟨#[97]⟩ none 0 []), (.mk 6 ⟨#[]⟩ (some ⟨n27, 0, none⟩) 1 [(.mk 3 ⟨#[]⟩ none 0 [])])]), (.mk 2 ⟨#[99]⟩ none 0 [])]), (.mk 6 ⟨#[]⟩ (some ⟨n27, 0, none⟩) 1 [(.mk 3 ⟨#[]⟩ none 0 [])])]) sX (some ⟨n84, 0, none⟩) 3 [(⟨#[97]⟩ : ByteArray), (⟨#[98]⟩ : ByteArray), (⟨#[100]⟩ : ByteArray)] (.seq (.seq (.seq (.nod (by decide)) (.star .any)) (.nod (by decide))) (.star .any)) (rxx_own fdd fdd fdd fdd hs) (by decide) (Cx (l := [(⟨#[97]⟩ : ByteArray), (⟨#[98]⟩ : ByteArray), (⟨#[100]⟩ : ByteArray)]) (cells := ([(⟨#[97]⟩ : ByteArray), (⟨#[98]⟩ : ByteArray), (⟨#[100]⟩ : ByteArray)]).flatMap encS) (e := 9) (fun _ => rfl) rfl (Fnd.mono fdd hs)) (by decide)))) rfl (As rfl rfl (Aa rfl)) ?_
   refine y_ (A9 (T U) (T U)) (Af (Ae (Bq [(1, _), (3, _), (4, _), (86, _)] ⟨Aa U, Aa U, Aa U, Aa U, trivial⟩ ?_))) U
   first | refine Bc (Aa U) ?_ | refine Bc (Ai (Aa U) (vbool (decide_eq_false c86))) ?_
   refine A2 (Ae (Ag (Ab (y_ (Ax (.cons Ak .nil) call45 (fun H' hs => node_s ⟨#[97]⟩)) (y_ (Ax (.cons Ak .nil) call45 (fun H' hs => node_s ⟨#[98]⟩)) (e_ (Ar zeroValue24 cs_) ?_ U) U) U))))
   rintro _ _ ⟨n8, rfl, rfl⟩
   refine e_ (Ar zeroValue24 cs_) ?_ U
   rintro _ _ ⟨n9, rfl, rfl⟩
   first | refine A7 (Av (T U) (T U) sizeOf24) U Ah ?_
   rintro _ _ ⟨rfl, rfl⟩
   first | refine A7 (Av (T U) (T U) sizeOf24) U Ah ?_
   rintro _ _ ⟨rfl, rfl⟩
   refine Af (Ae ?_)
   refine j_cutH (X := Unit) (V := fun _ => [(11, .bool true), (12, .int .i64 0)]) (C := [(1, _), (3, _), (4, _), (8, _)]) (φ := fun _ => True) ⟨Aa U, Aa U, Aa U, Aa U, trivial⟩ ?_ ?_
   ·refine j_anyX 24 _ mixd (by kernel_rfl) sb0 ?_
    refine x_y (i := 0) U (by kernel_rfl) (Am (T U) isAgg24 sizeOf24 U (by first | exact Bh)) ?_ U Ah
    refine x_y (i := 1) U (by kernel_rfl) (Am (T U) isAgg24 sizeOf24 U (by first | exact Bh)) ?_ U Ah
    refine x_y (i := 6) U (by kernel_rfl) (Am (T U) isAgg24 sizeOf24 U (by first | exact Bh)) ?_ U Ah
    refine x_y (i := 9) U (by kernel_rfl) (Am (T U) isAgg24 sizeOf24 U (by first | exact Bh)) ?_ U Ah
    refine x_three (i := 2) (j := 7) (k := 10) (by kernel_rfl) (by kernel_rfl) ?_ ?_ ?_
    ·refine B3 U (Al (.cons (T U) (.cons (T U) .nil)) (B8 _ _ _ _ _ _ _ _ _ _)) ?_ U Ah
     rintro _ _ ⟨n92, rfl, rfl⟩
     refine ⟨sbt, (x_y (i := 3) U (by kernel_rfl) (Ax (.cons Ak (.cons (T U) .nil)) call26 (fun H' hs => Cq 5 (some ⟨n92, 0, none⟩) [(.mk 2 ⟨#[97]⟩ none 0 []), (.mk 2 ⟨#[98]⟩ none 0 [])] 2)) ?_ U Ah)⟩
     refine x_three (i := 4) (j := 7) (k := 10) (by kernel_rfl) (by kernel_rfl) ?_ ?_ ?_
     ·refine B3 U (Al (.cons (T U) .nil) (B7 _ _ _ _ _)) ?_ U Ah
      rintro _ _ ⟨n94, rfl, rfl⟩
      refine ⟨sbt, (x_y (i := 5) U (by kernel_rfl) (Ax (.cons Ak (.cons (T U) .nil)) call26 (fun H' hs => Cq 6 (some ⟨n94, 0, none⟩) [(.mk 5 ⟨#[]⟩ (some ⟨n92, 0, none⟩) 2 [(.mk 2 ⟨#[97]⟩ none 0 []), (.mk 2 ⟨#[98]⟩ none 0 [])])] 1)) ?_ U Ah)⟩
      refine De (i := 7) (j := 10) (by kernel_rfl) (by kernel_rfl) ?_ ?_
      ·refine B3 U (Al (.cons (T U) .nil) (B7 _ _ _ _ _)) ?_ U Ah
       rintro _ _ ⟨n97, rfl, rfl⟩
       refine ⟨sbt, (x_y (i := 8) U (by kernel_rfl) (Ax (.cons Ak (.cons (T U) .nil)) call26 (fun H' hs => Cq 6 (some ⟨n97, 0, none⟩) [(.mk 2 ⟨#[97]⟩ none 0 [])] 1)) ?_ U Ah)⟩
       refine B5 (i := 10) (by kernel_rfl) (by kernel_rfl) ?_
       refine B3 U (Al (.cons (T U) .nil) (B7 _ _ _ _ _)) ?_ U Ah
       rintro _ _ ⟨n100, rfl, rfl⟩
       refine ⟨sbt, (x_y (i := 11) U (by kernel_rfl) (Ax (.cons Ak (.cons (T U) .nil)) call26 (fun H' hs => Cq 6 (some ⟨n100, 0, none⟩) [(.mk 2 ⟨#[98]⟩ none 0 [])] 1)) ?_ U Ah)⟩
       refine B5 (i := 12) (by kernel_rfl) (by kernel_rfl) ?_
       refine B3 U (Al (.cons (T U) (.cons (T U) .nil)) (B8 _ _ _ _ _ _ _ _ _ _)) ?_ U Ah
       rintro _ _ ⟨n102, rfl, rfl⟩
       refine ⟨sbt, (x_y (i := 13) U (by kernel_rfl) (Ax (.cons Ak (.cons (T U) .nil)) call26 (fun H' hs => Cq 4 (some ⟨n102, 0, none⟩) [(.mk 6 ⟨#[]⟩ (some ⟨n97, 0, none⟩) 1 [(.mk 2 ⟨#[97]⟩ none 0 [])]), (.mk 6 ⟨#[]⟩ (some ⟨n100, 0, none⟩) 1 [(.mk 2 ⟨#[98]⟩ none 0 [])])] 2)) ?_ U Ah)⟩
       refine B5 (i := 14) (by kernel_rfl) (by kernel_rfl) ?_
       refine B3 U (Al (.cons (T U) .nil) (B7 _ _ _ _ _)) ?_ U Ah
       rintro _ _ ⟨n104, rfl, rfl⟩
       refine ⟨sbt, (x_y (i := 15) U (by kernel_rfl) (Ax (.cons Ak (.cons (T U) .nil)) call26 (fun H' hs => Cq 6 (some ⟨n104, 0, none⟩) [(.mk 4 ⟨#[]⟩ (some ⟨n102, 0, none⟩) 2 [(.mk 6 ⟨#[]⟩ (some ⟨n97, 0, none⟩) 1 [(.mk 2 ⟨#[97]⟩ none 0 [])]), (.mk 6 ⟨#[]⟩ (some ⟨n100, 0, none⟩) 1 [(.mk 2 ⟨#[98]⟩ none 0 [])])])] 1)) ?_ U Ah)⟩
       refine B5 (i := 16) (by kernel_rfl) (by kernel_rfl) ?_
       refine B3 U (Aw (.cons (T U) (.cons (T U) .nil)) call23 (Dj (.mk 6 ⟨#[]⟩ (some ⟨n94, 0, none⟩) 1 [(.mk 5 ⟨#[]⟩ (some ⟨n92, 0, none⟩) 2 [(.mk 2 ⟨#[97]⟩ none 0 []), (.mk 2 ⟨#[98]⟩ none 0 [])])]) (.mk 6 ⟨#[]⟩ (some ⟨n104, 0, none⟩) 1 [(.mk 4 ⟨#[]⟩ (some ⟨n102, 0, none⟩) 2 [(.mk 6 ⟨#[]⟩ (some ⟨n97, 0, none⟩) 1 [(.mk 2 ⟨#[97]⟩ none 0 [])]), (.mk 6 ⟨#[]⟩ (some ⟨n100, 0, none⟩) 1 [(.mk 2 ⟨#[98]⟩ none 0 [])])])]) (.star (.alt (.nod sa) (.nod sb'))) (.star (.seq (.star (.nod sa)) (.star (.nod sb')))) (.star (.alt (.nod (by decide)) (.nod (by decide)))) (.star (.seq (.star (.nod (by decide))) (.star (.nod (by decide))))) (rx1 (rx2 rx0 rx0)) (rx1 (rx2 (rx1 rx0) (rx1 rx0))) (by decide) (by decide) sE1)) ?_ U Ah
       rintro _ _ ⟨d1, ⟨rfl, hd1⟩, rfl⟩
       refine ⟨sbt, (x_y (i := 17) U (by kernel_rfl) (Ac (T U)) ?_ U Ah)⟩
       refine x_y (i := 18) U (by kernel_rfl) (Bf (T U) U) ?_ U Ah
       refine x_y (i := 19) U (by kernel_rfl) (Bf (T U) U) ?_ U Ah
       refine x_y (i := 20) U (by kernel_rfl) (Bf (T U) U) ?_ U Ah
       refine x_y (i := 21) U (by kernel_rfl) (Ad (T U)) ?_ U Ah
       refine x_y (i := 22) U (by kernel_rfl) (Ad (T U)) ?_ U Ah
       refine x_y (i := 23) U (by kernel_rfl) (Ad (T U)) ?_ U Ah
       refine Ct (by kernel_rfl) U ?_
       refine Af ?_
       refine Br (()) ?_ ⟨atd, atd, trivial⟩ ⟨Aa U, Aa U, Aa U, Aa U, trivial⟩ sbt
       trivial
      ·refine B3 U (Al (.cons (T U) .nil) (B7 _ _ _ _ _)) ?_ U Ah
       rintro _ _ ⟨n100, rfl, rfl⟩
       refine ⟨sbt, (B5 (i := 7) (by kernel_rfl) (by kernel_rfl) ?_)⟩
       refine B3 U (Al (.cons (T U) .nil) (B7 _ _ _ _ _)) ?_ U Ah
       rintro _ _ ⟨n97, rfl, rfl⟩
       refine ⟨sbt, (x_y (i := 8) U (by kernel_rfl) (Ax (.cons Ak (.cons (T U) .nil)) call26 (fun H' hs => Cq 6 (some ⟨n97, 0, none⟩) [(.mk 2 ⟨#[97]⟩ none 0 [])] 1)) ?_ U Ah)⟩
       refine x_y (i := 11) U (by kernel_rfl) (Ax (.cons Ak (.cons (T U) .nil)) call26 (fun H' hs => Cq 6 (some ⟨n100, 0, none⟩) [(.mk 2 ⟨#[98]⟩ none 0 [])] 1)) ?_ U Ah
       refine B5 (i := 12) (by kernel_rfl) (by kernel_rfl) ?_
       refine B3 U (Al (.cons (T U) (.cons (T U) .nil)) (B8 _ _ _ _ _ _ _ _ _ _)) ?_ U Ah
       rintro _ _ ⟨n102, rfl, rfl⟩
       refine ⟨sbt, (x_y (i := 13) U (by kernel_rfl) (Ax (.cons Ak (.cons (T U) .nil)) call26 (fun H' hs => Cq 4 (some ⟨n102, 0, none⟩) [(.mk 6 ⟨#[]⟩ (some ⟨n97, 0, none⟩) 1 [(.mk 2 ⟨#[97]⟩ none 0 [])]), (.mk 6 ⟨#[]⟩ (some ⟨n100, 0, none⟩) 1 [(.mk 2 ⟨#[98]⟩ none 0 [])])] 2)) ?_ U Ah)⟩
       refine B5 (i := 14) (by kernel_rfl) (by kernel_rfl) ?_
       refine B3 U (Al (.cons (T U) .nil) (B7 _ _ _ _ _)) ?_ U Ah
       rintro _ _ ⟨n104, rfl, rfl⟩
       refine ⟨sbt, (x_y (i := 15) U (by kernel_rfl) (Ax (.cons Ak (.cons (T U) .nil)) call26 (fun H' hs => Cq 6 (some ⟨n104, 0, none⟩) [(.mk 4 ⟨#[]⟩ (some ⟨n102, 0, none⟩) 2 [(.mk 6 ⟨#[]⟩ (some ⟨n97, 0, none⟩) 1 [(.mk 2 ⟨#[97]⟩ none 0 [])]), (.mk 6 ⟨#[]⟩ (some ⟨n100, 0, none⟩) 1 [(.mk 2 ⟨#[98]⟩ none 0 [])])])] 1)) ?_ U Ah)⟩
       refine B5 (i := 16) (by kernel_rfl) (by kernel_rfl) ?_
       refine B3 U (Aw (.cons (T U) (.cons (T U) .nil)) call23 (Dj (.mk 6 ⟨#[]⟩ (some ⟨n94, 0, none⟩) 1 [(.mk 5 ⟨#[]⟩ (some ⟨n92, 0, none⟩) 2 [(.mk 2 ⟨#[97]⟩ none 0 []), (.mk 2 ⟨#[98]⟩ none 0 [])])]) (.mk 6 ⟨#[]⟩ (some ⟨n104, 0, none⟩) 1 [(.mk 4 ⟨#[]⟩ (some ⟨n102, 0, none⟩) 2 [(.mk 6 ⟨#[]⟩ (some ⟨n97, 0, none⟩) 1 [(.mk 2 ⟨#[97]⟩ none 0 [])]), (.mk 6 ⟨#[]⟩ (some ⟨n100, 0, none⟩) 1 [(.mk 2 ⟨#[98]⟩ none 0 [])])])]) (.star (.alt (.nod sa) (.nod sb'))) (.star (.seq (.star (.nod sa)) (.star (.nod sb')))) (.star (.alt (.nod (by decide)) (.nod (by decide)))) (.star (.seq (.star (.nod (by decide))) (.star (.nod (by decide))))) (rx1 (rx2 rx0 rx0)) (rx1 (rx2 (rx1 rx0) (rx1 rx0))) (by decide) (by decide) sE1)) ?_ U Ah
       rintro _ _ ⟨d1, ⟨rfl, hd1⟩, rfl⟩
       refine ⟨sbt, (x_y (i := 17) U (by kernel_rfl) (Ac (T U)) ?_ U Ah)⟩
       refine x_y (i := 18) U (by kernel_rfl) (Bf (T U) U) ?_ U Ah
       refine x_y (i := 19) U (by kernel_rfl) (Bf (T U) U) ?_ U Ah
       refine x_y (i := 20) U (by kernel_rfl) (Bf (T U) U) ?_ U Ah
       refine x_y (i := 21) U (by kernel_rfl) (Ad (T U)) ?_ U Ah
       refine x_y (i := 22) U (by kernel_rfl) (Ad (T U)) ?_ U Ah
       refine x_y (i := 23) U (by kernel_rfl) (Ad (T U)) ?_ U Ah
       refine Ct (by kernel_rfl) U ?_
       refine Af ?_
       refine Br (()) ?_ ⟨atd, atd, trivial⟩ ⟨Aa U, Aa U, Aa U, Aa U, trivial⟩ sbt
       trivial
     ·refine B3 U (Al (.cons (T U) .nil) (B7 _ _ _ _ _)) ?_ U Ah
      rintro _ _ ⟨n97, rfl, rfl⟩
      refine ⟨sbt, ?_⟩
      refine De (i := 4) (j := 10) (by kernel_rfl) (by kernel_rfl) ?_ ?_
      ·refine B3 U (Al (.cons (T U) .nil) (B7 _ _ _ _ _)) ?_ U Ah
       rintro _ _ ⟨n94, rfl, rfl⟩
       refine ⟨sbt, (x_y (i := 5) U (by kernel_rfl) (Ax (.cons Ak (.cons (T U) .nil)) call26 (fun H' hs => Cq 6 (some ⟨n94, 0, none⟩) [(.mk 5 ⟨#[]⟩ (some ⟨n92, 0, none⟩) 2 [(.mk 2 ⟨#[97]⟩ none 0 []), (.mk 2 ⟨#[98]⟩ none 0 [])])] 1)) ?_ U Ah)⟩
       refine x_y (i := 8) U (by kernel_rfl) (Ax (.cons Ak (.cons (T U) .nil)) call26 (fun H' hs => Cq 6 (some ⟨n97, 0, none⟩) [(.mk 2 ⟨#[97]⟩ none 0 [])] 1)) ?_ U Ah
       refine B5 (i := 10) (by kernel_rfl) (by kernel_rfl) ?_
       refine B3 U (Al (.cons (T U) .nil) (B7 _ _ _ _ _)) ?_ U Ah
       rintro _ _ ⟨n100, rfl, rfl⟩
       refine ⟨sbt, (x_y (i := 11) U (by kernel_rfl) (Ax (.cons Ak (.cons (T U) .nil)) call26 (fun H' hs => Cq 6 (some ⟨n100, 0, none⟩) [(.mk 2 ⟨#[98]⟩ none 0 [])] 1)) ?_ U Ah)⟩
       refine B5 (i := 12) (by kernel_rfl) (by kernel_rfl) ?_
       refine B3 U (Al (.cons (T U) (.cons (T U) .nil)) (B8 _ _ _ _ _ _ _ _ _ _)) ?_ U Ah
       rintro _ _ ⟨n102, rfl, rfl⟩
       refine ⟨sbt, (x_y (i := 13) U (by kernel_rfl) (Ax (.cons Ak (.cons (T U) .nil)) call26 (fun H' hs => Cq 4 (some ⟨n102, 0, none⟩) [(.mk 6 ⟨#[]⟩ (some ⟨n97, 0, none⟩) 1 [(.mk 2 ⟨#[97]⟩ none 0 [])]), (.mk 6 ⟨#[]⟩ (some ⟨n100, 0, none⟩) 1 [(.mk 2 ⟨#[98]⟩ none 0 [])])] 2)) ?_ U Ah)⟩
       refine B5 (i := 14) (by kernel_rfl) (by kernel_rfl) ?_
       refine B3 U (Al (.cons (T U) .nil) (B7 _ _ _ _ _)) ?_ U Ah
       rintro _ _ ⟨n104, rfl, rfl⟩
       refine ⟨sbt, (x_y (i := 15) U (by kernel_rfl) (Ax (.cons Ak (.cons (T U) .nil)) call26 (fun H' hs => Cq 6 (some ⟨n104, 0, none⟩) [(.mk 4 ⟨#[]⟩ (some ⟨n102, 0, none⟩) 2 [(.mk 6 ⟨#[]⟩ (some ⟨n97, 0, none⟩) 1 [(.mk 2 ⟨#[97]⟩ none 0 [])]), (.mk 6 ⟨#[]⟩ (some ⟨n100, 0, none⟩) 1 [(.mk 2 ⟨#[98]⟩ none 0 [])])])] 1)) ?_ U Ah)⟩
       refine B5 (i := 16) (by kernel_rfl) (by kernel_rfl) ?_
       refine B3 U (Aw (.cons (T U) (.cons (T U) .nil)) call23 (Dj (.mk 6 ⟨#[]⟩ (some ⟨n94, 0, none⟩) 1 [(.mk 5 ⟨#[]⟩ (some ⟨n92, 0, none⟩) 2 [(.mk 2 ⟨#[97]⟩ none 0 []), (.mk 2 ⟨#[98]⟩ none 0 [])])]) (.mk 6 ⟨#[]⟩ (some ⟨n104, 0, none⟩) 1 [(.mk 4 ⟨#[]⟩ (some ⟨n102, 0, none⟩) 2 [(.mk 6 ⟨#[]⟩ (some ⟨n97, 0, none⟩) 1 [(.mk 2 ⟨#[97]⟩ none 0 [])]), (.mk 6 ⟨#[]⟩ (some ⟨n100, 0, none⟩) 1 [(.mk 2 ⟨#[98]⟩ none 0 [])])])]) (.star (.alt (.nod sa) (.nod sb'))) (.star (.seq (.star (.nod sa)) (.star (.nod sb')))) (.star (.alt (.nod (by decide)) (.nod (by decide)))) (.star (.seq (.star (.nod (by decide))) (.star (.nod (by decide))))) (rx1 (rx2 rx0 rx0)) (rx1 (rx2 (rx1 rx0) (rx1 rx0))) (by decide) (by decide) sE1)) ?_ U Ah
       rintro _ _ ⟨d1, ⟨rfl, hd1⟩, rfl⟩
       refine ⟨sbt, (x_y (i := 17) U (by kernel_rfl) (Ac (T U)) ?_ U Ah)⟩
       refine x_y (i := 18) U (by kernel_rfl) (Bf (T U) U) ?_ U Ah
       refine x_y (i := 19) U (by kernel_rfl) (Bf (T U) U) ?_ U Ah
       refine x_y (i := 20) U (by kernel_rfl) (Bf (T U) U) ?_ U Ah
       refine x_y (i := 21) U (by kernel_rfl) (Ad (T U)) ?_ U Ah
       refine x_y (i := 22) U (by kernel_rfl) (Ad (T U)) ?_ U Ah
       refine x_y (i := 23) U (by kernel_rfl) (Ad (T U)) ?_ U Ah
       refine Ct (by kernel_rfl) U ?_
       refine Af ?_
       refine Br (()) ?_ ⟨atd, atd, trivial⟩ ⟨Aa U, Aa U, Aa U, Aa U, trivial⟩ sbt
       trivial
      ·refine B3 U (Al (.cons (T U) .nil) (B7 _ _ _ _ _)) ?_ U Ah
       rintro _ _ ⟨n100, rfl, rfl⟩
       refine ⟨sbt, (B5 (i := 4) (by kernel_rfl) (by kernel_rfl) ?_)⟩
       refine B3 U (Al (.cons (T U) .nil) (B7 _ _ _ _ _)) ?_ U Ah
       rintro _ _ ⟨n94, rfl, rfl⟩
       refine ⟨sbt, (x_y (i := 5) U (by kernel_rfl) (Ax (.cons Ak (.cons (T U) .nil)) call26 (fun H' hs => Cq 6 (some ⟨n94, 0, none⟩) [(.mk 5 ⟨#[]⟩ (some ⟨n92, 0, none⟩) 2 [(.mk 2 ⟨#[97]⟩ none 0 []), (.mk 2 ⟨#[98]⟩ none 0 [])])] 1)) ?_ U Ah)⟩
       refine x_y (i := 8) U (by kernel_rfl) (Ax (.cons Ak (.cons (T U) .nil)) call26 (fun H' hs => Cq 6 (some ⟨n97, 0, none⟩) [(.mk 2 ⟨#[97]⟩ none 0 [])] 1)) ?_ U Ah
       refine x_y (i := 11) U (by kernel_rfl) (Ax (.cons Ak (.cons (T U) .nil)) call26 (fun H' hs => Cq 6 (some ⟨n100, 0, none⟩) [(.mk 2 ⟨#[98]⟩ none 0 [])] 1)) ?_ U Ah
       refine B5 (i := 12) (by kernel_rfl) (by kernel_rfl) ?_
       refine B3 U (Al (.cons (T U) (.cons (T U) .nil)) (B8 _ _ _ _ _ _ _ _ _ _)) ?_ U Ah
       rintro _ _ ⟨n102, rfl, rfl⟩
       refine ⟨sbt, (x_y (i := 13) U (by kernel_rfl) (Ax (.cons Ak (.cons (T U) .nil)) call26 (fun H' hs => Cq 4 (some ⟨n102, 0, none⟩) [(.mk 6 ⟨#[]⟩ (some ⟨n97, 0, none⟩) 1 [(.mk 2 ⟨#[97]⟩ none 0 [])]), (.mk 6 ⟨#[]⟩ (some ⟨n100, 0, none⟩) 1 [(.mk 2 ⟨#[98]⟩ none 0 [])])] 2)) ?_ U Ah)⟩
       refine B5 (i := 14) (by kernel_rfl) (by kernel_rfl) ?_
       refine B3 U (Al (.cons (T U) .nil) (B7 _ _ _ _ _)) ?_ U Ah
       rintro _ _ ⟨n104, rfl, rfl⟩
       refine ⟨sbt, (x_y (i := 15) U (by kernel_rfl) (Ax (.cons Ak (.cons (T U) .nil)) call26 (fun H' hs => Cq 6 (some ⟨n104, 0, none⟩) [(.mk 4 ⟨#[]⟩ (some ⟨n102, 0, none⟩) 2 [(.mk 6 ⟨#[]⟩ (some ⟨n97, 0, none⟩) 1 [(.mk 2 ⟨#[97]⟩ none 0 [])]), (.mk 6 ⟨#[]⟩ (some ⟨n100, 0, none⟩) 1 [(.mk 2 ⟨#[98]⟩ none 0 [])])])] 1)) ?_ U Ah)⟩
       refine B5 (i := 16) (by kernel_rfl) (by kernel_rfl) ?_
       refine B3 U (Aw (.cons (T U) (.cons (T U) .nil)) call23 (Dj (.mk 6 ⟨#[]⟩ (some ⟨n94, 0, none⟩) 1 [(.mk 5 ⟨#[]⟩ (some ⟨n92, 0, none⟩) 2 [(.mk 2 ⟨#[97]⟩ none 0 []), (.mk 2 ⟨#[98]⟩ none 0 [])])]) (.mk 6 ⟨#[]⟩ (some ⟨n104, 0, none⟩) 1 [(.mk 4 ⟨#[]⟩ (some ⟨n102, 0, none⟩) 2 [(.mk 6 ⟨#[]⟩ (some ⟨n97, 0, none⟩) 1 [(.mk 2 ⟨#[97]⟩ none 0 [])]), (.mk 6 ⟨#[]⟩ (some ⟨n100, 0, none⟩) 1 [(.mk 2 ⟨#[98]⟩ none 0 [])])])]) (.star (.alt (.nod sa) (.nod sb'))) (.star (.seq (.star (.nod sa)) (.star (.nod sb')))) (.star (.alt (.nod (by decide)) (.nod (by decide)))) (.star (.seq (.star (.nod (by decide))) (.star (.nod (by decide))))) (rx1 (rx2 rx0 rx0)) (rx1 (rx2 (rx1 rx0) (rx1 rx0))) (by decide) (by decide) sE1)) ?_ U Ah
       rintro _ _ ⟨d1, ⟨rfl, hd1⟩, rfl⟩
       refine ⟨sbt, (x_y (i := 17) U (by kernel_rfl) (Ac (T U)) ?_ U Ah)⟩
       refine x_y (i := 18) U (by kernel_rfl) (Bf (T U) U) ?_ U Ah
       refine x_y (i := 19) U (by kernel_rfl) (Bf (T U) U) ?_ U Ah
       refine x_y (i := 20) U (by kernel_rfl) (Bf (T U) U) ?_ U Ah
       refine x_y (i := 21) U (by kernel_rfl) (Ad (T U)) ?_ U Ah
       refine x_y (i := 22) U (by kernel_rfl) (Ad (T U)) ?_ U Ah
       refine x_y (i := 23) U (by kernel_rfl) (Ad (T U)) ?_ U Ah
       refine Ct (by kernel_rfl) U ?_
       refine Af ?_
       refine Br (()) ?_ ⟨atd, atd, trivial⟩ ⟨Aa U, Aa U, Aa U, Aa U, trivial⟩ sbt
       trivial
     ·refine B3 U (Al (.cons (T U) .nil) (B7 _ _ _ _ _)) ?_ U Ah
      rintro _ _ ⟨n100, rfl, rfl⟩
      refine ⟨sbt, ?_⟩
      refine De (i := 4) (j := 7) (by kernel_rfl) (by kernel_rfl) ?_ ?_
      ·refine B3 U (Al (.cons (T U) .nil) (B7 _ _ _ _ _)) ?_ U Ah
       rintro _ _ ⟨n94, rfl, rfl⟩
       refine ⟨sbt, (x_y (i := 5) U (by kernel_rfl) (Ax (.cons Ak (.cons (T U) .nil)) call26 (fun H' hs => Cq 6 (some ⟨n94, 0, none⟩) [(.mk 5 ⟨#[]⟩ (some ⟨n92, 0, none⟩) 2 [(.mk 2 ⟨#[97]⟩ none 0 []), (.mk 2 ⟨#[98]⟩ none 0 [])])] 1)) ?_ U Ah)⟩
       refine B5 (i := 7) (by kernel_rfl) (by kernel_rfl) ?_
       refine B3 U (Al (.cons (T U) .nil) (B7 _ _ _ _ _)) ?_ U Ah
       rintro _ _ ⟨n97, rfl, rfl⟩
       refine ⟨sbt, (x_y (i := 8) U (by kernel_rfl) (Ax (.cons Ak (.cons (T U) .nil)) call26 (fun H' hs => Cq 6 (some ⟨n97, 0, none⟩) [(.mk 2 ⟨#[97]⟩ none 0 [])] 1)) ?_ U Ah)⟩
       refine x_y (i := 11) U (by kernel_rfl) (Ax (.cons Ak (.cons (T U) .nil)) call26 (fun H' hs => Cq 6 (some ⟨n100, 0, none⟩) [(.mk 2 ⟨#[98]⟩ none 0 [])] 1)) ?_ U Ah
       refine B5 (i := 12) (by kernel_rfl) (by kernel_rfl) ?_
       refine B3 U (Al (.cons (T U) (.cons (T U) .nil)) (B8 _ _ _ _ _ _ _ _ _ _)) ?_ U Ah
       rintro _ _ ⟨n102, rfl, rfl⟩
       refine ⟨sbt, (x_y (i := 13) U (by kernel_rfl) (Ax (.cons Ak (.cons (T U) .nil)) call26 (fun H' hs => Cq 4 (some ⟨n102, 0, none⟩) [(.mk 6 ⟨#[]⟩ (some ⟨n97, 0, none⟩) 1 [(.mk 2 ⟨#[97]⟩ none 0 [])]), (.mk 6 ⟨#[]⟩ (some ⟨n100, 0, none⟩) 1 [(.mk 2 ⟨#[98]⟩ none 0 [])])] 2)) ?_ U Ah)⟩
       refine B5 (i := 14) (by kernel_rfl) (by kernel_rfl) ?_
       refine B3 U (Al (.cons (T U) .nil) (B7 _ _ _ _ _)) ?_ U Ah
       rintro _ _ ⟨n104, rfl, rfl⟩
       refine ⟨sbt, (x_y (i := 15) U (by kernel_rfl) (Ax (.cons Ak (.cons (T U) .nil)) call26 (fun H' hs => Cq 6 (some ⟨n104, 0, none⟩) [(.mk 4 ⟨#[]⟩ (some ⟨n102, 0, none⟩) 2 [(.mk 6 ⟨#[]⟩ (some ⟨n97, 0, none⟩) 1 [(.mk 2 ⟨#[97]⟩ none 0 [])]), (.mk 6 ⟨#[]⟩ (some ⟨n100, 0, none⟩) 1 [(.mk 2 ⟨#[98]⟩ none 0 [])])])] 1)) ?_ U Ah)⟩
       refine B5 (i := 16) (by kernel_rfl) (by kernel_rfl) ?_
       refine B3 U (Aw (.cons (T U) (.cons (T U) .nil)) call23 (Dj (.mk 6 ⟨#[]⟩ (some ⟨n94, 0, none⟩) 1 [(.mk 5 ⟨#[]⟩ (some ⟨n92, 0, none⟩) 2 [(.mk 2 ⟨#[97]⟩ none 0 []), (.mk 2 ⟨#[98]⟩ none 0 [])])]) (.mk 6 ⟨#[]⟩ (some ⟨n104, 0, none⟩) 1 [(.mk 4 ⟨#[]⟩ (some ⟨n102, 0, none⟩) 2 [(.mk 6 ⟨#[]⟩ (some ⟨n97, 0, none⟩) 1 [(.mk 2 ⟨#[97]⟩ none 0 [])]), (.mk 6 ⟨#[]⟩ (some ⟨n100, 0, none⟩) 1 [(.mk 2 ⟨#[98]⟩ none 0 [])])])]) (.star (.alt (.nod sa) (.nod sb'))) (.star (.seq (.star (.nod sa)) (.star (.nod sb')))) (.star (.alt (.nod (by decide)) (.nod (by decide)))) (.star (.seq (.star (.nod (by decide))) (.star (.nod (by decide))))) (rx1 (rx2 rx0 rx0)) (rx1 (rx2 (rx1 rx0) (rx1 rx0))) (by decide) (by decide) sE1)) ?_ U Ah
       rintro _ _ ⟨d1, ⟨rfl, hd1⟩, rfl⟩
       refine ⟨sbt, (x_y (i := 17) U (by kernel_rfl) (Ac (T U)) ?_ U Ah)⟩
       refine x_y (i := 18) U (by kernel_rfl) (Bf (T U) U) ?_ U Ah
       refine x_y (i := 19) U (by kernel_rfl) (Bf (T U) U) ?_ U Ah
       refine x_y (i := 20) U (by kernel_rfl) (Bf (T U) U) ?_ U Ah
       refine x_y (i := 21) U (by kernel_rfl) (Ad (T U)) ?_ U Ah
       refine x_y (i := 22) U (by kernel_rfl) (Ad (T U)) ?_ U Ah
       refine x_y (i := 23) U (by kernel_rfl) (Ad (T U)) ?_ U Ah
       refine Ct (by kernel_rfl) U ?_
       refine Af ?_
       refine Br (()) ?_ ⟨atd, atd, trivial⟩ ⟨Aa U, Aa U, Aa U, Aa U, trivial⟩ sbt
       trivial
      ·refine B3 U (Al (.cons (T U) .nil) (B7 _ _ _ _ _)) ?_ U Ah
       rintro _ _ ⟨n97, rfl, rfl⟩
       refine ⟨sbt, (B5 (i := 4) (by kernel_rfl) (by kernel_rfl) ?_)⟩
       refine B3 U (Al (.cons (T U) .nil) (B7 _ _ _ _ _)) ?_ U Ah
       rintro _ _ ⟨n94, rfl, rfl⟩
       refine ⟨sbt, (x_y (i := 5) U (by kernel_rfl) (Ax (.cons Ak (.cons (T U) .nil)) call26 (fun H' hs => Cq 6 (some ⟨n94, 0, none⟩) [(.mk 5 ⟨#[]⟩ (some ⟨n92, 0, none⟩) 2 [(.mk 2 ⟨#[97]⟩ none 0 []), (.mk 2 ⟨#[98]⟩ none 0 [])])] 1)) ?_ U Ah)⟩
       refine x_y (i := 8) U (by kernel_rfl) (Ax (.cons Ak (.cons (T U) .nil)) call26 (fun H' hs => Cq 6 (some ⟨n97, 0, none⟩) [(.mk 2 ⟨#[97]⟩ none 0 [])] 1)) ?_ U Ah
       refine x_y (i := 11) U (by kernel_rfl) (Ax (.cons Ak (.cons (T U) .nil)) call26 (fun H' hs => Cq 6 (some ⟨n100, 0, none⟩) [(.mk 2 ⟨#[98]⟩ none 0 [])] 1)) ?_ U Ah
       refine B5 (i := 12) (by kernel_rfl) (by kernel_rfl) ?_
       refine B3 U (Al (.cons (T U) (.cons (T U) .nil)) (B8 _ _ _ _ _ _ _ _ _ _)) ?_ U Ah
       rintro _ _ ⟨n102, rfl, rfl⟩
       refine ⟨sbt, (x_y (i := 13) U (by kernel_rfl) (Ax (.cons Ak (.cons (T U) .nil)) call26 (fun H' hs => Cq 4 (some ⟨n102, 0, none⟩) [(.mk 6 ⟨#[]⟩ (some ⟨n97, 0, none⟩) 1 [(.mk 2 ⟨#[97]⟩ none 0 [])]), (.mk 6 ⟨#[]⟩ (some ⟨n100, 0, none⟩) 1 [(.mk 2 ⟨#[98]⟩ none 0 [])])] 2)) ?_ U Ah)⟩
       refine B5 (i := 14) (by kernel_rfl) (by kernel_rfl) ?_
       refine B3 U (Al (.cons (T U) .nil) (B7 _ _ _ _ _)) ?_ U Ah
       rintro _ _ ⟨n104, rfl, rfl⟩
       refine ⟨sbt, (x_y (i := 15) U (by kernel_rfl) (Ax (.cons Ak (.cons (T U) .nil)) call26 (fun H' hs => Cq 6 (some ⟨n104, 0, none⟩) [(.mk 4 ⟨#[]⟩ (some ⟨n102, 0, none⟩) 2 [(.mk 6 ⟨#[]⟩ (some ⟨n97, 0, none⟩) 1 [(.mk 2 ⟨#[97]⟩ none 0 [])]), (.mk 6 ⟨#[]⟩ (some ⟨n100, 0, none⟩) 1 [(.mk 2 ⟨#[98]⟩ none 0 [])])])] 1)) ?_ U Ah)⟩
       refine B5 (i := 16) (by kernel_rfl) (by kernel_rfl) ?_
       refine B3 U (Aw (.cons (T U) (.cons (T U) .nil)) call23 (Dj (.mk 6 ⟨#[]⟩ (some ⟨n94, 0, none⟩) 1 [(.mk 5 ⟨#[]⟩ (some ⟨n92, 0, none⟩) 2 [(.mk 2 ⟨#[97]⟩ none 0 []), (.mk 2 ⟨#[98]⟩ none 0 [])])]) (.mk 6 ⟨#[]⟩ (some ⟨n104, 0, none⟩) 1 [(.mk 4 ⟨#[]⟩ (some ⟨n102, 0, none⟩) 2 [(.mk 6 ⟨#[]⟩ (some ⟨n97, 0, none⟩) 1 [(.mk 2 ⟨#[97]⟩ none 0 [])]), (.mk 6 ⟨#[]⟩ (some ⟨n100, 0, none⟩) 1 [(.mk 2 ⟨#[98]⟩ none 0 [])])])]) (.star (.alt (.nod sa) (.nod sb'))) (.star (.seq (.star (.nod sa)) (.star (.nod sb')))) (.star (.alt (.nod (by decide)) (.nod (by decide)))) (.star (.seq (.star (.nod (by decide))) (.star (.nod (by decide))))) (rx1 (rx2 rx0 rx0)) (rx1 (rx2 (rx1 rx0) (rx1 rx0))) (by decide) (by decide) sE1)) ?_ U Ah
       rintro _ _ ⟨d1, ⟨rfl, hd1⟩, rfl⟩
       refine ⟨sbt, (x_y (i := 17) U (by kernel_rfl) (Ac (T U)) ?_ U Ah)⟩
       refine x_y (i := 18) U (by kernel_rfl) (Bf (T U) U) ?_ U Ah
       refine x_y (i := 19) U (by kernel_rfl) (Bf (T U) U) ?_ U Ah
       refine x_y (i := 20) U (by kernel_rfl) (Bf (T U) U) ?_ U Ah
       refine x_y (i := 21) U (by kernel_rfl) (Ad (T U)) ?_ U Ah
       refine x_y (i := 22) U (by kernel_rfl) (Ad (T U)) ?_ U Ah
       refine x_y (i := 23) U (by kernel_rfl) (Ad (T U)) ?_ U Ah
       refine Ct (by kernel_rfl) U ?_
       refine Af ?_
       refine Br (()) ?_ ⟨atd, atd, trivial⟩ ⟨Aa U, Aa U, Aa U, Aa U, trivial⟩ sbt
       trivial
    ·refine B3 U (Al (.cons (T U) .nil) (B7 _ _ _ _ _)) ?_ U Ah
     rintro _ _ ⟨n97, rfl, rfl⟩
     refine ⟨sbt, ?_⟩
     refine De (i := 2) (j := 10) (by kernel_rfl) (by kernel_rfl) ?_ ?_
     ·refine B3 U (Al (.cons (T U) (.cons (T U) .nil)) (B8 _ _ _ _ _ _ _ _ _ _)) ?_ U Ah
      rintro _ _ ⟨n92, rfl, rfl⟩
      refine ⟨sbt, (x_y (i := 3) U (by kernel_rfl) (Ax (.cons Ak (.cons (T U) .nil)) call26 (fun H' hs => Cq 5 (some ⟨n92, 0, none⟩) [(.mk 2 ⟨#[97]⟩ none 0 []), (.mk 2 ⟨#[98]⟩ none 0 [])] 2)) ?_ U Ah)⟩
      refine De (i := 4) (j := 10) (by kernel_rfl) (by kernel_rfl) ?_ ?_
      ·refine B3 U (Al (.cons (T U) .nil) (B7 _ _ _ _ _)) ?_ U Ah
       rintro _ _ ⟨n94, rfl, rfl⟩
       refine ⟨sbt, (x_y (i := 5) U (by kernel_rfl) (Ax (.cons Ak (.cons (T U) .nil)) call26 (fun H' hs => Cq 6 (some ⟨n94, 0, none⟩) [(.mk 5 ⟨#[]⟩ (some ⟨n92, 0, none⟩) 2 [(.mk 2 ⟨#[97]⟩ none 0 []), (.mk 2 ⟨#[98]⟩ none 0 [])])] 1)) ?_ U Ah)⟩
       refine x_y (i := 8) U (by kernel_rfl) (Ax (.cons Ak (.cons (T U) .nil)) call26 (fun H' hs => Cq 6 (some ⟨n97, 0, none⟩) [(.mk 2 ⟨#[97]⟩ none 0 [])] 1)) ?_ U Ah
       refine B5 (i := 10) (by kernel_rfl) (by kernel_rfl) ?_
       refine B3 U (Al (.cons (T U) .nil) (B7 _ _ _ _ _)) ?_ U Ah
       rintro _ _ ⟨n100, rfl, rfl⟩
       refine ⟨sbt, (x_y (i := 11) U (by kernel_rfl) (Ax (.cons Ak (.cons (T U) .nil)) call26 (fun H' hs => Cq 6 (some ⟨n100, 0, none⟩) [(.mk 2 ⟨#[98]⟩ none 0 [])] 1)) ?_ U Ah)⟩
       refine B5 (i := 12) (by kernel_rfl) (by kernel_rfl) ?_
       refine B3 U (Al (.cons (T U) (.cons (T U) .nil)) (B8 _ _ _ _ _ _ _ _ _ _)) ?_ U Ah
       rintro _ _ ⟨n102, rfl, rfl⟩
       refine ⟨sbt, (x_y (i := 13) U (by kernel_rfl) (Ax (.cons Ak (.cons (T U) .nil)) call26 (fun H' hs => Cq 4 (some ⟨n102, 0, none⟩) [(.mk 6 ⟨#[]⟩ (some ⟨n97, 0, none⟩) 1 [(.mk 2 ⟨#[97]⟩ none 0 [])]), (.mk 6 ⟨#[]⟩ (some ⟨n100, 0, none⟩) 1 [(.mk 2 ⟨#[98]⟩ none 0 [])])] 2)) ?_ U Ah)⟩
       refine B5 (i := 14) (by kernel_rfl) (by kernel_rfl) ?_
       refine B3 U (Al (.cons (T U) .nil) (B7 _ _ _ _ _)) ?_ U Ah
       rintro _ _ ⟨n104, rfl, rfl⟩
       refine ⟨sbt, (x_y (i := 15) U (by kernel_rfl) (Ax (.cons Ak (.cons (T U) .nil)) call26 (fun H' hs => Cq 6 (some ⟨n104, 0, none⟩) [(.mk 4 ⟨#[]⟩ (some ⟨n102, 0, none⟩) 2 [(.mk 6 ⟨#[]⟩ (some ⟨n97, 0, none⟩) 1 [(.mk 2 ⟨#[97]⟩ none 0 [])]), (.mk 6 ⟨#[]⟩ (some ⟨n100, 0, none⟩) 1 [(.mk 2 ⟨#[98]⟩ none 0 [])])])] 1)) ?_ U Ah)⟩
       refine B5 (i := 16) (by kernel_rfl) (by kernel_rfl) ?_
       refine B3 U (Aw (.cons (T U) (.cons (T U) .nil)) call23 (Dj (.mk 6 ⟨#[]⟩ (some ⟨n94, 0, none⟩) 1 [(.mk 5 ⟨#[]⟩ (some ⟨n92, 0, none⟩) 2 [(.mk 2 ⟨#[97]⟩ none 0 []), (.mk 2 ⟨#[98]⟩ none 0 [])])]) (.mk 6 ⟨#[]⟩ (some ⟨n104, 0, none⟩) 1 [(.mk 4 ⟨#[]⟩ (some ⟨n102, 0, none⟩) 2 [(.mk 6 ⟨#[]⟩ (some ⟨n97, 0, none⟩) 1 [(.mk 2 ⟨#[97]⟩ none 0 [])]), (.mk 6 ⟨#[]⟩ (some ⟨n100, 0, none⟩) 1 [(.mk 2 ⟨#[98]⟩ none 0 [])])])]) (.star (.alt (.nod sa) (.nod sb'))) (.star (.seq (.star (.nod sa)) (.star (.nod sb')))) (.star (.alt (.nod (by decide)) (.nod (by decide)))) (.star (.seq (.star (.nod (by decide))) (.star (.nod (by decide))))) (rx1 (rx2 rx0 rx0)) (rx1 (rx2 (rx1 rx0) (rx1 rx0))) (by decide) (by decide) sE1)) ?_ U Ah
       rintro _ _ ⟨d1, ⟨rfl, hd1⟩, rfl⟩
       refine ⟨sbt, (x_y (i := 17) U (by kernel_rfl) (Ac (T U)) ?_ U Ah)⟩
       refine x_y (i := 18) U (by kernel_rfl) (Bf (T U) U) ?_ U Ah
       refine x_y (i := 19) U (by kernel_rfl) (Bf (T U) U) ?_ U Ah
       refine x_y (i := 20) U (by kernel_rfl) (Bf (T U) U) ?_ U Ah
       refine x_y (i := 21) U (by kernel_rfl) (Ad (T U)) ?_ U Ah
       refine x_y (i := 22) U (by kernel_rfl) (Ad (T U)) ?_ U Ah
       refine x_y (i := 23) U (by kernel_rfl) (Ad (T U)) ?_ U Ah
       refine Ct (by kernel_rfl) U ?_
       refine Af ?_
       refine Br (()) ?_ ⟨atd, atd, trivial⟩ ⟨Aa U, Aa U, Aa U, Aa U, trivial⟩ sbt
       trivial
      ·refine B3 U (Al (.cons (T U) .nil) (B7 _ _ _ _ _)) ?_ U Ah
       rintro _ _ ⟨n100, rfl, rfl⟩
       refine ⟨sbt, (B5 (i := 4) (by kernel_rfl) (by kernel_rfl) ?_)⟩
       refine B3 U (Al (.cons (T U) .nil) (B7 _ _ _ _ _)) ?_ U Ah
       rintro _ _ ⟨n94, rfl, rfl⟩
       refine ⟨sbt, (x_y (i := 5) U (by kernel_rfl) (Ax (.cons Ak (.cons (T U) .nil)) call26 (fun H' hs => Cq 6 (some ⟨n94, 0, none⟩) [(.mk 5 ⟨#[]⟩ (some ⟨n92, 0, none⟩) 2 [(.mk 2 ⟨#[97]⟩ none 0 []), (.mk 2 ⟨#[98]⟩ none 0 [])])] 1)) ?_ U Ah)⟩
       refine x_y (i := 8) U (by kernel_rfl) (Ax (.cons Ak (.cons (T U) .nil)) call26 (fun H' hs => Cq 6 (some ⟨n97, 0, none⟩) [(.mk 2 ⟨#[97]⟩ none 0 [])] 1)) ?_ U Ah
       refine x_y (i := 11) U (by kernel_rfl) (Ax (.cons Ak (.cons (T U) .nil)) call26 (fun H' hs => Cq 6 (some ⟨n100, 0, none⟩) [(.mk 2 ⟨#[98]⟩ none 0 [])] 1)) ?_ U Ah
       refine B5 (i := 12) (by kernel_rfl) (by kernel_rfl) ?_
       refine B3 U (Al (.cons (T U) (.cons (T U) .nil)) (B8 _ _ _ _ _ _ _ _ _ _)) ?_ U Ah
       rintro _ _ ⟨n102, rfl, rfl⟩
       refine ⟨sbt, (x_y (i := 13) U (by kernel_rfl) (Ax (.cons Ak (.cons (T U) .nil)) call26 (fun H' hs => Cq 4 (some ⟨n102, 0, none⟩) [(.mk 6 ⟨#[]⟩ (some ⟨n97, 0, none⟩) 1 [(.mk 2 ⟨#[97]⟩ none 0 [])]), (.mk 6 ⟨#[]⟩ (some ⟨n100, 0, none⟩) 1 [(.mk 2 ⟨#[98]⟩ none 0 [])])] 2)) ?_ U Ah)⟩
       refine B5 (i := 14) (by kernel_rfl) (by kernel_rfl) ?_
       refine B3 U (Al (.cons (T U) .nil) (B7 _ _ _ _ _)) ?_ U Ah
       rintro _ _ ⟨n104, rfl, rfl⟩
       refine ⟨sbt, (x_y (i := 15) U (by kernel_rfl) (Ax (.cons Ak (.cons (T U) .nil)) call26 (fun H' hs => Cq 6 (some ⟨n104, 0, none⟩) [(.mk 4 ⟨#[]⟩ (some ⟨n102, 0, none⟩) 2 [(.mk 6 ⟨#[]⟩ (some ⟨n97, 0, none⟩) 1 [(.mk 2 ⟨#[97]⟩ none 0 [])]), (.mk 6 ⟨#[]⟩ (some ⟨n100, 0, none⟩) 1 [(.mk 2 ⟨#[98]⟩ none 0 [])])])] 1)) ?_ U Ah)⟩
       refine B5 (i := 16) (by kernel_rfl) (by kernel_rfl) ?_
       refine B3 U (Aw (.cons (T U) (.cons (T U) .nil)) call23 (Dj (.mk 6 ⟨#[]⟩ (some ⟨n94, 0, none⟩) 1 [(.mk 5 ⟨#[]⟩ (some ⟨n92, 0, none⟩) 2 [(.mk 2 ⟨#[97]⟩ none 0 []), (.mk 2 ⟨#[98]⟩ none 0 [])])]) (.mk 6 ⟨#[]⟩ (some ⟨n104, 0, none⟩) 1 [(.mk 4 ⟨#[]⟩ (some ⟨n102, 0, none⟩) 2 [(.mk 6 ⟨#[]⟩ (some ⟨n97, 0, none⟩) 1 [(.mk 2 ⟨#[97]⟩ none 0 [])]), (.mk 6 ⟨#[]⟩ (some ⟨n100, 0, none⟩) 1 [(.mk 2 ⟨#[98]⟩ none 0 [])])])]) (.star (.alt (.nod sa) (.nod sb'))) (.star (.seq (.star (.nod sa)) (.star (.nod sb')))) (.star (.alt (.nod (by decide)) (.nod (by decide)))) (.star (.seq (.star (.nod (by decide))) (.star (.nod (by decide))))) (rx1 (rx2 rx0 rx0)) (rx1 (rx2 (rx1 rx0) (rx1 rx0))) (by decide) (by decide) sE1)) ?_ U Ah
       rintro _ _ ⟨d1, ⟨rfl, hd1⟩, rfl⟩
       refine ⟨sbt, (x_y (i := 17) U (by kernel_rfl) (Ac (T U)) ?_ U Ah)⟩
       refine x_y (i := 18) U (by kernel_rfl) (Bf (T U) U) ?_ U Ah
       refine x_y (i := 19) U (by kernel_rfl) (Bf (T U) U) ?_ U Ah
       refine x_y (i := 20) U (by kernel_rfl) (Bf (T U) U) ?_ U Ah
       refine x_y (i := 21) U (by kernel_rfl) (Ad (T U)) ?_ U Ah
       refine x_y (i := 22) U (by kernel_rfl) (Ad (T U)) ?_ U Ah
       refine x_y (i := 23) U (by kernel_rfl) (Ad (T U)) ?_ U Ah
       refine Ct (by kernel_rfl) U ?_
       refine Af ?_
       refine Br (()) ?_ ⟨atd, atd, trivial⟩ ⟨Aa U, Aa U, Aa U, Aa U, trivial⟩ sbt
       trivial
     ·refine B3 U (Al (.cons (T U) .nil) (B7 _ _ _ _ _)) ?_ U Ah
      rintro _ _ ⟨n100, rfl, rfl⟩
      refine ⟨sbt, (B5 (i := 2) (by kernel_rfl) (by kernel_rfl) ?_)⟩
      refine B3 U (Al (.cons (T U) (.cons (T U) .nil)) (B8 _ _ _ _ _ _ _ _ _ _)) ?_ U Ah
      rintro _ _ ⟨n92, rfl, rfl⟩
      refine ⟨sbt, (x_y (i := 3) U (by kernel_rfl) (Ax (.cons Ak (.cons (T U) .nil)) call26 (fun H' hs => Cq 5 (some ⟨n92, 0, none⟩) [(.mk 2 ⟨#[97]⟩ none 0 []), (.mk 2 ⟨#[98]⟩ none 0 [])] 2)) ?_ U Ah)⟩
      refine B5 (i := 4) (by kernel_rfl) (by kernel_rfl) ?_
      refine B3 U (Al (.cons (T U) .nil) (B7 _ _ _ _ _)) ?_ U Ah
      rintro _ _ ⟨n94, rfl, rfl⟩
      refine ⟨sbt, (x_y (i := 5) U (by kernel_rfl) (Ax (.cons Ak (.cons (T U) .nil)) call26 (fun H' hs => Cq 6 (some ⟨n94, 0, none⟩) [(.mk 5 ⟨#[]⟩ (some ⟨n92, 0, none⟩) 2 [(.mk 2 ⟨#[97]⟩ none 0 []), (.mk 2 ⟨#[98]⟩ none 0 [])])] 1)) ?_ U Ah)⟩
      refine x_y (i := 8) U (by kernel_rfl) (Ax (.cons Ak (.cons (T U) .nil)) call26 (fun H' hs => Cq 6 (some ⟨n97, 0, none⟩) [(.mk 2 ⟨#[97]⟩ none 0 [])] 1)) ?_ U Ah
      refine x_y (i := 11) U (by kernel_rfl) (Ax (.cons Ak (.cons (T U) .nil)) call26 (fun H' hs => Cq 6 (some ⟨n100, 0, none⟩) [(.mk 2 ⟨#[98]⟩ none 0 [])] 1)) ?_ U Ah
      refine B5 (i := 12) (by kernel_rfl) (by kernel_rfl) ?_
      refine B3 U (Al (.cons (T U) (.cons (T U) .nil)) (B8 _ _ _ _ _ _ _ _ _ _)) ?_ U Ah
      rintro _ _ ⟨n102, rfl, rfl⟩
      refine ⟨sbt, (x_y (i := 13) U (by kernel_rfl) (Ax (.cons Ak (.cons (T U) .nil)) call26 (fun H' hs => Cq 4 (some ⟨n102, 0, none⟩) [(.mk 6 ⟨#[]⟩ (some ⟨n97, 0, none⟩) 1 [(.mk 2 ⟨#[97]⟩ none 0 [])]), (.mk 6 ⟨#[]⟩ (some ⟨n100, 0, none⟩) 1 [(.mk 2 ⟨#[98]⟩ none 0 [])])] 2)) ?_ U Ah)⟩
      refine B5 (i := 14) (by kernel_rfl) (by kernel_rfl) ?_
      refine B3 U (Al (.cons (T U) .nil) (B7 _ _ _ _ _)) ?_ U Ah
      rintro _ _ ⟨n104, rfl, rfl⟩
      refine ⟨sbt, (x_y (i := 15) U (by kernel_rfl) (Ax (.cons Ak (.cons (T U) .nil)) call26 (fun H' hs => Cq 6 (some ⟨n104, 0, none⟩) [(.mk 4 ⟨#[]⟩ (some ⟨n102, 0, none⟩) 2 [(.mk 6 ⟨#[]⟩ (some ⟨n97, 0, none⟩) 1 [(.mk 2 ⟨#[97]⟩ none 0 [])]), (.mk 6 ⟨#[]⟩ (some ⟨n100, 0, none⟩) 1 [(.mk 2 ⟨#[98]⟩ none 0 [])])])] 1)) ?_ U Ah)⟩
      refine B5 (i := 16) (by kernel_rfl) (by kernel_rfl) ?_
      refine B3 U (Aw (.cons (T U) (.cons (T U) .nil)) call23 (Dj (.mk 6 ⟨#[]⟩ (some ⟨n94, 0, none⟩) 1 [(.mk 5 ⟨#[]⟩ (some ⟨n92, 0, none⟩) 2 [(.mk 2 ⟨#[97]⟩ none 0 []), (.mk 2 ⟨#[98]⟩ none 0 [])])]) (.mk 6 ⟨#[]⟩ (some ⟨n104, 0, none⟩) 1 [(.mk 4 ⟨#[]⟩ (some ⟨n102, 0, none⟩) 2 [(.mk 6 ⟨#[]⟩ (some ⟨n97, 0, none⟩) 1 [(.mk 2 ⟨#[97]⟩ none 0 [])]), (.mk 6 ⟨#[]⟩ (some ⟨n100, 0, none⟩) 1 [(.mk 2 ⟨#[98]⟩ none 0 [])])])]) (.star (.alt (.nod sa) (.nod sb'))) (.star (.seq (.star (.nod sa)) (.star (.nod sb')))) (.star (.alt (.nod (by decide)) (.nod (by decide)))) (.star (.seq (.star (.nod (by decide))) (.star (.nod (by decide))))) (rx1 (rx2 rx0 rx0)) (rx1 (rx2 (rx1 rx0) (rx1 rx0))) (by decide) (by decide) sE1)) ?_ U Ah
      rintro _ _ ⟨d1, ⟨rfl, hd1⟩, rfl⟩
      refine ⟨sbt, (x_y (i := 17) U (by kernel_rfl) (Ac (T U)) ?_ U Ah)⟩
      refine x_y (i := 18) U (by kernel_rfl) (Bf (T U) U) ?_ U Ah
      refine x_y (i := 19) U (by kernel_rfl) (Bf (T U) U) ?_ U Ah
      refine x_y (i := 20) U (by kernel_rfl) (Bf (T U) U) ?_ U Ah
      refine x_y (i := 21) U (by kernel_rfl) (Ad (T U)) ?_ U Ah
      refine x_y (i := 22) U (by kernel_rfl) (Ad (T U)) ?_ U Ah
      refine x_y (i := 23) U (by kernel_rfl) (Ad (T U)) ?_ U Ah
      refine Ct (by kernel_rfl) U ?_
      refine Af ?_
      refine Br (()) ?_ ⟨atd, atd, trivial⟩ ⟨Aa U, Aa U, Aa U, Aa U, trivial⟩ sbt
      trivial
    ·refine B3 U (Al (.cons (T U) .nil) (B7 _ _ _ _ _)) ?_ U Ah
     rintro _ _ ⟨n100, rfl, rfl⟩
     refine ⟨sbt, ?_⟩
     refine De (i := 2) (j := 7) (by kernel_rfl) (by kernel_rfl) ?_ ?_
     ·refine B3 U (Al (.cons (T U) (.cons (T U) .nil)) (B8 _ _ _ _ _ _ _ _ _ _)) ?_ U Ah
      rintro _ _ ⟨n92, rfl, rfl⟩
      refine ⟨sbt, (x_y (i := 3) U (by kernel_rfl) (Ax (.cons Ak (.cons (T U) .nil)) call26 (fun H' hs => Cq 5 (some ⟨n92, 0, none⟩) [(.mk 2 ⟨#[97]⟩ none 0 []), (.mk 2 ⟨#[98]⟩ none 0 [])] 2)) ?_ U Ah)⟩
      refine De (i := 4) (j := 7) (by kernel_rfl) (by kernel_rfl) ?_ ?_
      ·refine B3 U (Al (.cons (T U) .nil) (B7 _ _ _ _ _)) ?_ U Ah
       rintro _ _ ⟨n94, rfl, rfl⟩
       refine ⟨sbt, (x_y (i := 5) U (by kernel_rfl) (Ax (.cons Ak (.cons (T U) .nil)) call26 (fun H' hs => Cq 6 (some ⟨n94, 0, none⟩) [(.mk 5 ⟨#[]⟩ (some ⟨n92, 0, none⟩) 2 [(.mk 2 ⟨#[97]⟩ none 0 []), (.mk 2 ⟨#[98]⟩ none 0 [])])] 1)) ?_ U Ah)⟩
       refine B5 (i := 7) (by kernel_rfl) (by kernel_rfl) ?_
       refine B3 U (Al (.cons (T U) .nil) (B7 _ _ _ _ _)) ?_ U Ah
       rintro _ _ ⟨n97, rfl, rfl⟩
       refine ⟨sbt, (x_y (i := 8) U (by kernel_rfl) (Ax (.cons Ak (.cons (T U) .nil)) call26 (fun H' hs => Cq 6 (some ⟨n97, 0, none⟩) [(.mk 2 ⟨#[97]⟩ none 0 [])] 1)) ?_ U Ah)⟩
       refine x_y (i := 11) U (by kernel_rfl) (Ax (.cons Ak (.cons (T U) .nil)) call26 (fun H' hs => Cq 6 (some ⟨n100, 0, none⟩) [(.mk 2 ⟨#[98]⟩ none 0 [])] 1)) ?_ U Ah
       refine B5 (i := 12) (by kernel_rfl) (by kernel_rfl) ?_
       refine B3 U (Al (.cons (T U) (.cons (T U) .nil)) (B8 _ _ _ _ _ _ _ _ _ _)) ?_ U Ah
       rintro _ _ ⟨n102, rfl, rfl⟩
       refine ⟨sbt, (x_y (i := 13) U (by kernel_rfl) (Ax (.cons Ak (.cons (T U) .nil)) call26 (fun H' hs => Cq 4 (some ⟨n102, 0, none⟩) [(.mk 6 ⟨#[]⟩ (some ⟨n97, 0, none⟩) 1 [(.mk 2 ⟨#[97]⟩ none 0 [])]), (.mk 6 ⟨#[]⟩ (some ⟨n100, 0, none⟩) 1 [(.mk 2 ⟨#[98]⟩ none 0 [])])] 2)) ?_ U Ah)⟩
       refine B5 (i := 14) (by kernel_rfl) (by kernel_rfl) ?_
       refine B3 U (Al (.cons (T U) .nil) (B7 _ _ _ _ _)) ?_ U Ah
       rintro _ _ ⟨n104, rfl, rfl⟩
       refine ⟨sbt, (x_y (i := 15) U (by kernel_rfl) (Ax (.cons Ak (.cons (T U) .nil)) call26 (fun H' hs => Cq 6 (some ⟨n104, 0, none⟩) [(.mk 4 ⟨#[]⟩ (some ⟨n102, 0, none⟩) 2 [(.mk 6 ⟨#[]⟩ (some ⟨n97, 0, none⟩) 1 [(.mk 2 ⟨#[97]⟩ none 0 [])]), (.mk 6 ⟨#[]⟩ (some ⟨n100, 0, none⟩) 1 [(.mk 2 ⟨#[98]⟩ none 0 [])])])] 1)) ?_ U Ah)⟩
       refine B5 (i := 16) (by kernel_rfl) (by kernel_rfl) ?_
       refine B3 U (Aw (.cons (T U) (.cons (T U) .nil)) call23 (Dj (.mk 6 ⟨#[]⟩ (some ⟨n94, 0, none⟩) 1 [(.mk 5 ⟨#[]⟩ (some ⟨n92, 0, none⟩) 2 [(.mk 2 ⟨#[97]⟩ none 0 []), (.mk 2 ⟨#[98]⟩ none 0 [])])]) (.mk 6 ⟨#[]⟩ (some ⟨n104, 0, none⟩) 1 [(.mk 4 ⟨#[]⟩ (some ⟨n102, 0, none⟩) 2 [(.mk 6 ⟨#[]⟩ (some ⟨n97, 0, none⟩) 1 [(.mk 2 ⟨#[97]⟩ none 0 [])]), (.mk 6 ⟨#[]⟩ (some ⟨n100, 0, none⟩) 1 [(.mk 2 ⟨#[98]⟩ none 0 [])])])]) (.star (.alt (.nod sa) (.nod sb'))) (.star (.seq (.star (.nod sa)) (.star (.nod sb')))) (.star (.alt (.nod (by decide)) (.nod (by decide)))) (.star (.seq (.star (.nod (by decide))) (.star (.nod (by decide))))) (rx1 (rx2 rx0 rx0)) (rx1 (rx2 (rx1 rx0) (rx1 rx0))) (by decide) (by decide) sE1)) ?_ U Ah
       rintro _ _ ⟨d1, ⟨rfl, hd1⟩, rfl⟩
       refine ⟨sbt, (x_y (i := 17) U (by kernel_rfl) (Ac (T U)) ?_ U Ah)⟩
       refine x_y (i := 18) U (by kernel_rfl) (Bf (T U) U) ?_ U Ah
       refine x_y (i := 19) U (by kernel_rfl) (Bf (T U) U) ?_ U Ah
       refine x_y (i := 20) U (by kernel_rfl) (Bf (T U) U) ?_ U Ah
       refine x_y (i := 21) U (by kernel_rfl) (Ad (T U)) ?_ U Ah
       refine x_y (i := 22) U (by kernel_rfl) (Ad (T U)) ?_ U Ah
       refine x_y (i := 23) U (by kernel_rfl) (Ad (T U)) ?_ U Ah
       refine Ct (by kernel_rfl) U ?_
       refine Af ?_
       refine Br (()) ?_ ⟨atd, atd, trivial⟩ ⟨Aa U, Aa U, Aa U, Aa U, trivial⟩ sbt
       trivial
      ·refine B3 U (Al (.cons (T U) .nil) (B7 _ _ _ _ _)) ?_ U Ah
       rintro _ _ ⟨n97, rfl, rfl⟩
       refine ⟨sbt, (B5 (i := 4) (by kernel_rfl) (by kernel_rfl) ?_)⟩
       refine B3 U (Al (.cons (T U) .nil) (B7 _ _ _ _ _)) ?_ U Ah
       rintro _ _ ⟨n94, rfl, rfl⟩
       refine ⟨sbt, (x_y (i := 5) U (by kernel_rfl) (Ax (.cons Ak (.cons (T U) .nil)) call26 (fun H' hs => Cq 6 (some ⟨n94, 0, none⟩) [(.mk 5 ⟨#[]⟩ (some ⟨n92, 0, none⟩) 2 [(.mk 2 ⟨#[97]⟩ none 0 []), (.mk 2 ⟨#[98]⟩ none 0 [])])] 1)) ?_ U Ah)⟩
       refine x_y (i := 8) U (by kernel_rfl) (Ax (.cons Ak (.cons (T U) .nil)) call26 (fun H' hs => Cq 6 (some ⟨n97, 0, none⟩) [(.mk 2 ⟨#[97]⟩ none 0 [])] 1)) ?_ U Ah
       refine x_y (i := 11) U (by kernel_rfl) (Ax (.cons Ak (.cons (T U) .nil)) call26 (fun H' hs => Cq 6 (some ⟨n100, 0, none⟩) [(.mk 2 ⟨#[98]⟩ none 0 [])] 1)) ?_ U Ah
       refine B5 (i := 12) (by kernel_rfl) (by kernel_rfl) ?_
       refine B3 U (Al (.cons (T U) (.cons (T U) .nil)) (B8 _ _ _ _ _ _ _ _ _ _)) ?_ U Ah
       rintro _ _ ⟨n102, rfl, rfl⟩
       refine ⟨sbt, (x_y (i := 13) U (by kernel_rfl) (Ax (.cons Ak (.cons (T U) .nil)) call26 (fun H' hs => Cq 4 (some ⟨n102, 0, none⟩) [(.mk 6 ⟨#[]⟩ (some ⟨n97, 0, none⟩) 1 [(.mk 2 ⟨#[97]⟩ none 0 [])]), (.mk 6 ⟨#[]⟩ (some ⟨n100, 0, none⟩) 1 [(.mk 2 ⟨#[98]⟩ none 0 [])])] 2)) ?_ U Ah)⟩
       refine B5 (i := 14) (by kernel_rfl) (by kernel_rfl) ?_
       refine B3 U (Al (.cons (T U) .nil) (B7 _ _ _ _ _)) ?_ U Ah
       rintro _ _ ⟨n104, rfl, rfl⟩
       refine ⟨sbt, (x_y (i := 15) U (by kernel_rfl) (Ax (.cons Ak (.cons (T U) .nil)) call26 (fun H' hs => Cq 6 (some ⟨n104, 0, none⟩) [(.mk 4 ⟨#[]⟩ (some ⟨n102, 0, none⟩) 2 [(.mk 6 ⟨#[]⟩ (some ⟨n97, 0, none⟩) 1 [(.mk 2 ⟨#[97]⟩ none 0 [])]), (.mk 6 ⟨#[]⟩ (some ⟨n100, 0, none⟩) 1 [(.mk 2 ⟨#[98]⟩ none 0 [])])])] 1)) ?_ U Ah)⟩
       refine B5 (i := 16) (by kernel_rfl) (by kernel_rfl) ?_
       refine B3 U (Aw (.cons (T U) (.cons (T U) .nil)) call23 (Dj (.mk 6 ⟨#[]⟩ (some ⟨n94, 0, none⟩) 1 [(.mk 5 ⟨#[]⟩ (some ⟨n92, 0, none⟩) 2 [(.mk 2 ⟨#[97]⟩ none 0 []), (.mk 2 ⟨#[98]⟩ none 0 [])])]) (.mk 6 ⟨#[]⟩ (some ⟨n104, 0, none⟩) 1 [(.mk 4 ⟨#[]⟩ (some ⟨n102, 0, none⟩) 2 [(.mk 6 ⟨#[]⟩ (some ⟨n97, 0, none⟩) 1 [(.mk 2 ⟨#[97]⟩ none 0 [])]), (.mk 6 ⟨#[]⟩ (some ⟨n100, 0, none⟩) 1 [(.mk 2 ⟨#[98]⟩ none 0 [])])])]) (.star (.alt (.nod sa) (.nod sb'))) (.star (.seq (.star (.nod sa)) (.star (.nod sb')))) (.star (.alt (.nod (by decide)) (.nod (by decide)))) (.star (.seq (.star (.nod (by decide))) (.star (.nod (by decide))))) (rx1 (rx2 rx0 rx0)) (rx1 (rx2 (rx1 rx0) (rx1 rx0))) (by decide) (by decide) sE1)) ?_ U Ah
       rintro _ _ ⟨d1, ⟨rfl, hd1⟩, rfl⟩
       refine ⟨sbt, (x_y (i := 17) U (by kernel_rfl) (Ac (T U)) ?_ U Ah)⟩
       refine x_y (i := 18) U (by kernel_rfl) (Bf (T U) U) ?_ U Ah
       refine x_y (i := 19) U (by kernel_rfl) (Bf (T U) U) ?_ U Ah
       refine x_y (i := 20) U (by kernel_rfl) (Bf (T U) U) ?_ U Ah
       refine x_y (i := 21) U (by kernel_rfl) (Ad (T U)) ?_ U Ah
       refine x_y (i := 22) U (by kernel_rfl) (Ad (T U)) ?_ U Ah
       refine x_y (i := 23) U (by kernel_rfl) (Ad (T U)) ?_ U Ah
       refine Ct (by kernel_rfl) U ?_
       refine Af ?_
       refine Br (()) ?_ ⟨atd, atd, trivial⟩ ⟨Aa U, Aa U, Aa U, Aa U, trivial⟩ sbt
       trivial
     ·refine B3 U (Al (.cons (T U) .nil) (B7 _ _ _ _ _)) ?_ U Ah
      rintro _ _ ⟨n97, rfl, rfl⟩
      refine ⟨sbt, (B5 (i := 2) (by kernel_rfl) (by kernel_rfl) ?_)⟩
      refine B3 U (Al (.cons (T U) (.cons (T U) .nil)) (B8 _ _ _ _ _ _ _ _ _ _)) ?_ U Ah
      rintro _ _ ⟨n92, rfl, rfl⟩
      refine ⟨sbt, (x_y (i := 3) U (by kernel_rfl) (Ax (.cons Ak (.cons (T U) .nil)) call26 (fun H' hs => Cq 5 (some ⟨n92, 0, none⟩) [(.mk 2 ⟨#[97]⟩ none 0 []), (.mk 2 ⟨#[98]⟩ none 0 [])] 2)) ?_ U Ah)⟩
      refine B5 (i := 4) (by kernel_rfl) (by kernel_rfl) ?_
      refine B3 U (Al (.cons (T U) .nil) (B7 _ _ _ _ _)) ?_ U Ah
      rintro _ _ ⟨n94, rfl, rfl⟩
      refine ⟨sbt, (x_y (i := 5) U (by kernel_rfl) (Ax (.cons Ak (.cons (T U) .nil)) call26 (fun H' hs => Cq 6 (some ⟨n94, 0, none⟩) [(.mk 5 ⟨#[]⟩ (some ⟨n92, 0, none⟩) 2 [(.mk 2 ⟨#[97]⟩ none 0 []), (.mk 2 ⟨#[98]⟩ none 0 [])])] 1)) ?_ U Ah)⟩
      refine x_y (i := 8) U (by kernel_rfl) (Ax (.cons Ak (.cons (T U) .nil)) call26 (fun H' hs => Cq 6 (some ⟨n97, 0, none⟩) [(.mk 2 ⟨#[97]⟩ none 0 [])] 1)) ?_ U Ah
      refine x_y (i := 11) U (by kernel_rfl) (Ax (.cons Ak (.cons (T U) .nil)) call26 (fun H' hs => Cq 6 (some ⟨n100, 0, none⟩) [(.mk 2 ⟨#[98]⟩ none 0 [])] 1)) ?_ U Ah
      refine B5 (i := 12) (by kernel_rfl) (by kernel_rfl) ?_
      refine B3 U (Al (.cons (T U) (.cons (T U) .nil)) (B8 _ _ _ _ _ _ _ _ _ _)) ?_ U Ah
      rintro _ _ ⟨n102, rfl, rfl⟩
      refine ⟨sbt, (x_y (i := 13) U (by kernel_rfl) (Ax (.cons Ak (.cons (T U) .nil)) call26 (fun H' hs => Cq 4 (some ⟨n102, 0, none⟩) [(.mk 6 ⟨#[]⟩ (some ⟨n97, 0, none⟩) 1 [(.mk 2 ⟨#[97]⟩ none 0 [])]), (.mk 6 ⟨#[]⟩ (some ⟨n100, 0, none⟩) 1 [(.mk 2 ⟨#[98]⟩ none 0 [])])] 2)) ?_ U Ah)⟩
      refine B5 (i := 14) (by kernel_rfl) (by kernel_rfl) ?_
      refine B3 U (Al (.cons (T U) .nil) (B7 _ _ _ _ _)) ?_ U Ah
      rintro _ _ ⟨n104, rfl, rfl⟩
      refine ⟨sbt, (x_y (i := 15) U (by kernel_rfl) (Ax (.cons Ak (.cons (T U) .nil)) call26 (fun H' hs => Cq 6 (some ⟨n104, 0, none⟩) [(.mk 4 ⟨#[]⟩ (some ⟨n102, 0, none⟩) 2 [(.mk 6 ⟨#[]⟩ (some ⟨n97, 0, none⟩) 1 [(.mk 2 ⟨#[97]⟩ none 0 [])]), (.mk 6 ⟨#[]⟩ (some ⟨n100, 0, none⟩) 1 [(.mk 2 ⟨#[98]⟩ none 0 [])])])] 1)) ?_ U Ah)⟩
      refine B5 (i := 16) (by kernel_rfl) (by kernel_rfl) ?_
      refine B3 U (Aw (.cons (T U) (.cons (T U) .nil)) call23 (Dj (.mk 6 ⟨#[]⟩ (some ⟨n94, 0, none⟩) 1 [(.mk 5 ⟨#[]⟩ (some ⟨n92, 0, none⟩) 2 [(.mk 2 ⟨#[97]⟩ none 0 []), (.mk 2 ⟨#[98]⟩ none 0 [])])]) (.mk 6 ⟨#[]⟩ (some ⟨n104, 0, none⟩) 1 [(.mk 4 ⟨#[]⟩ (some ⟨n102, 0, none⟩) 2 [(.mk 6 ⟨#[]⟩ (some ⟨n97, 0, none⟩) 1 [(.mk 2 ⟨#[97]⟩ none 0 [])]), (.mk 6 ⟨#[]⟩ (some ⟨n100, 0, none⟩) 1 [(.mk 2 ⟨#[98]⟩ none 0 [])])])]) (.star (.alt (.nod sa) (.nod sb'))) (.star (.seq (.star (.nod sa)) (.star (.nod sb')))) (.star (.alt (.nod (by decide)) (.nod (by decide)))) (.star (.seq (.star (.nod (by decide))) (.star (.nod (by decide))))) (rx1 (rx2 rx0 rx0)) (rx1 (rx2 (rx1 rx0) (rx1 rx0))) (by decide) (by decide) sE1)) ?_ U Ah
      rintro _ _ ⟨d1, ⟨rfl, hd1⟩, rfl⟩
      refine ⟨sbt, (x_y (i := 17) U (by kernel_rfl) (Ac (T U)) ?_ U Ah)⟩
      refine x_y (i := 18) U (by kernel_rfl) (Bf (T U) U) ?_ U Ah
      refine x_y (i := 19) U (by kernel_rfl) (Bf (T U) U) ?_ U Ah
      refine x_y (i := 20) U (by kernel_rfl) (Bf (T U) U) ?_ U Ah
      refine x_y (i := 21) U (by kernel_rfl) (Ad (T U)) ?_ U Ah
      refine x_y (i := 22) U (by kernel_rfl) (Ad (T U)) ?_ U Ah
      refine x_y (i := 23) U (by kernel_rfl) (Ad (T U)) ?_ U Ah
      refine Ct (by kernel_rfl) U ?_
      refine Af ?_
      refine Br (()) ?_ ⟨atd, atd, trivial⟩ ⟨Aa U, Aa U, Aa U, Aa U, trivial⟩ sbt
      trivial
   rintro _ _
   refine Ag (Cj 16 [(0, true), (1, true), (5, true), (2, false), (3, true), (4, true), (6, false), (7, true), (8, false), (9, true), (10, true), (11, true), (12, true), (13, true), (14, true), (15, true)] _ mixd (by kernel_rfl) sb0 ?_)
   refine o_y U (Am (T U) isAgg24 sizeOf24 U (by first | exact Bh)) ?_ U Ah
   refine o_y U (Ax .nil call44 (fun H' hs => some_s)) (o_y U (Am (T U) isAgg24 sizeOf24 U (by first | exact Bh)) ?_ U Ah) U Ah
   refine o_e U (Al (.cons (T U) (.cons (T U) .nil)) (B8 _ _ _ _ _ _ _ _ _ _)) ?_ U Ah
   rintro _ _ ⟨n113, rfl, rfl⟩
   refine ⟨sbt, (o_y U (Ax (.cons Ak (.cons (T U) .nil)) call26 (fun H' hs => Cq 4 (some ⟨n113, 0, none⟩) [(.mk 2 ⟨#[97]⟩ none 0 []), (.mk 3 ⟨#[]⟩ none 0 [])] 2)) (o_y U (Ax .nil call44 (fun H' hs => some_s)) (o_e U (Al (.cons (T U) (.cons (T U) .nil)) (B8 _ _ _ _ _ _ _ _ _ _)) ?_ U Ah) U Ah) U Ah)⟩
   rintro _ _ ⟨n117, rfl, rfl⟩
   refine ⟨sbt, (o_y U (Ax (.cons Ak (.cons (T U) .nil)) call26 (fun H' hs => Cq 4 (some ⟨n117, 0, none⟩) [(.mk 3 ⟨#[]⟩ none 0 []), (.mk 2 ⟨#[97]⟩ none 0 [])] 2)) (o_e U (Aw (.cons (T U) (.cons (T U) .nil)) call23 (Dj (.mk 4 ⟨#[]⟩ (some ⟨n113, 0, none⟩) 2 [(.mk 2 ⟨#[97]⟩ none 0 []), (.mk 3 ⟨#[]⟩ none 0 [])]) (.mk 4 ⟨#[]⟩ (some ⟨n117, 0, none⟩) 2 [(.mk 3 ⟨#[]⟩ none 0 []), (.mk 2 ⟨#[97]⟩ none 0 [])]) (.seq (.nod sa) .any) (.seq .any (.nod sa)) (.seq (.nod (by decide)) .any) (.seq .any (.nod (by decide))) (rx2 rx0 rx0) (rx2 rx0 rx0) (by decide) (by decide) sE2)) ?_ U Ah) U Ah)⟩
   rintro _ _ ⟨d2, ⟨rfl, hd2⟩, rfl⟩
   refine ⟨sbt, (o_y U (Ac (T U)) (o_y U (Bf (T U) U) (o_y U (Bf (T U) U) (o_y U (Bf (T U) U) (o_y U (Ad (T U)) (o_y U (Ad (T U)) (o_y U (Ad (T U)) (B2 U (Af (Ae (Ag (Ab (y_ (Bv (.cons Ak .nil) (bd58_1 _)) (e_ (Al (.cons Ak .nil) (Cg _)) ?_ U) U)))))) U Ah) U Ah) U Ah) U Ah) U Ah) U Ah) U Ah)⟩
   rintro _ _ ⟨n124, rfl, rfl⟩
   refine y_ (Bv (.cons (T U) (.cons Ak .nil)) (bd58_0_1 _ _ _ _)) (e_ (Ar zeroValue58 cs_) ?_ U) U
   rintro _ _ ⟨n16, rfl, rfl⟩
   refine e_ (Ar zeroValue58 cs_) ?_ U
   rintro _ _ ⟨n17, rfl, rfl⟩
   first | refine A7 (Av (T U) (T U) sizeOf58) U Ah ?_
   rintro _ _ ⟨rfl, rfl⟩
   first | refine A7 (Av (T U) (T U) sizeOf58) U Ah ?_
   rintro _ _ ⟨rfl, rfl⟩
   refine Af (Ae (Bq [(1, _), (3, _), (4, _), (11, _), (12, _), (13, _), (14, _), (15, _), (16, _), (17, _)] ⟨Aa U, Aa U, Aa U, Aa U, Aa U, Aa U, Aa U, Aa U, Aa U, Aa U, trivial⟩ (Ag (Ab (y_ (Am (T U) isAgg56 sizeOf56 U (by first | exact Bh)) ?_ U)))))
   refine y_ (Am (T U) isAgg58 sizeOf58 U (by first | exact Bh)) ?_ U
   refine y_ (Am (T U) isAgg29 sizeOf29 U (by first | exact Bh)) ?_ U
   refine e_ (Aw (.cons (T U) (.cons (T U) (.cons (T U) (.cons Ak (.cons Ak .nil))))) call29 (findE_s (l := [2, 3]) (c := 0) (exN x1 x2 x3) ⟨none, 0, [], -1⟩ m1 ⟨(ex_net fdd fdd), (fun i x hi => by cases hi), hm1.mono sbt⟩ ⟨ex_ok x1 x2 x3, (by first | exact Nat.zero_le _ | (show 1 ≤ 4611686018427387903; omega)), hk1, hs1, by omega⟩ 0 (show _ < 4 by omega) 3 (by rw [hp1]; exact sF1 x1 x2 x3 _ _))) ?_ U
   rintro _ _ ⟨d3, ⟨rfl, hd3⟩, rfl⟩
   refine y_ (Ac (T U)) (y_ (Bf (T U) U) (y_ (Bf (T U) U) (y_ (Ad (T U)) (y_ (Ad (T U)) (Af (Ae (Ag (Ab (y_ (Am (T U) isAgg56 sizeOf56 U (by first | exact Bh)) ?_ U))))) U) U) U) U) U
   refine y_ (Am (T U) isAgg58 sizeOf58 U (by first | exact Bh)) ?_ U
   refine y_ (Am (T U) isAgg29 sizeOf29 U (by first | exact Bh)) ?_ U
   refine e_ (Aw (.cons (T U) (.cons (T U) (.cons (T U) (.cons Ak (.cons Ak .nil))))) call29 (findE_s (l := [0, 4, 3]) (c := 0) (exN x1 x2 x3) ⟨some ⟨n124, 0, none⟩, 1, [2], -1⟩ m1 ⟨(ex_net fdd fdd), (Cx (l := [(2 : Int)]) (cells := [(2 : Int)].flatMap encI) (e := 3) (fun _ => rfl) U fdd), hm1.mono sbt⟩ ⟨ex_ok x1 x2 x3, (by first | exact Nat.zero_le _ | (show 1 ≤ 4611686018427387903; omega)), hk1, hs1, by omega⟩ 0 (show _ < 4 by omega) 3 (by rw [hp1]; exact sF2 x1 x2 x3 _ _))) ?_ U
   rintro _ _ ⟨d4, ⟨rfl, hd4⟩, rfl⟩
   refine y_ (Ac (T U)) (y_ (Bf (T U) U) (y_ (Bf (T U) U) (y_ (Ad (T U)) (y_ (Ad (T U)) (Af (Ae (Bq [(1, _), (3, _), (4, _), (11, _), (12, _), (13, _), (14, _), (15, _), (16, _), (18, _), (19, _), (20, _), (21, _)] ⟨Aa U, Aa U, Aa U, Aa U, Aa U, Aa U, Aa U, Aa U, Aa U, Aa U, Aa U, Aa U, Aa U, trivial⟩ (Ag (Ab (y_ (Am (T U) isAgg56 sizeOf56 U (by first | exact Bh)) ?_ U)))))) U) U) U) U) U
   refine y_ (Am (T U) isAgg58 sizeOf58 U (by first | exact Bh)) ?_ U
   refine y_ (Am (T U) isAgg29 sizeOf29 U (by first | exact Bh)) ?_ U
   refine e_ (Aw (.cons (T U) (.cons (T U) (.cons (T U) (.cons Ak (.cons Ak .nil))))) call29 (findE_s (l := []) (c := 18) (exN x1 x2 x3) ⟨none, 0, [], -1⟩ m1 ⟨(ex_net fdd fdd), (fun i x hi => by cases hi), hm1.mono sbt⟩ ⟨ex_ok x1 x2 x3, (by first | exact Nat.zero_le _ | (show 1 ≤ 4611686018427387903; omega)), hk1, hs1, by omega⟩ 1 (show _ < 4 by omega) 3 (by rw [hp1]; exact sF3 x1 x2 x3 _ _))) ?_ U
   rintro _ _ ⟨d5, ⟨rfl, hd5⟩, rfl⟩
   refine y_ (Ac (T U)) (y_ (Bf (T U) U) (y_ (Bf (T U) U) (y_ (Ad (T U)) (y_ (Ad (T U)) (Af (Ae (Ag (Ab (y_ (Am (T U) isAgg56 sizeOf56 U (by first | exact Bh)) ?_ U))))) U) U) U) U) U
   refine y_ (Am (T U) isAgg58 sizeOf58 U (by first | exact Bh)) ?_ U
   refine y_ (Am (T U) isAgg29 sizeOf29 U (by first | exact Bh)) ?_ U
   refine e_ (Aw (.cons (T U) (.cons (T U) (.cons (T U) (.cons Ak .nil)))) call35 (reachedE_s (exN x1 x2 x3) ⟨none, 0, [], -1⟩ m1 ⟨(ex_net fdd fdd), (fun i x hi => by cases hi), hm1.mono sbt⟩ ⟨ex_ok x1 x2 x3, (by first | exact Nat.zero_le _ | (show 1 ≤ 4611686018427387903; omega)), hk1, hs1, by omega⟩ 1 (show _ < 4 by omega))) ?_ U
   rintro _ _ ⟨d6, ks, ⟨rfl, hd6, hreach⟩, rfl⟩
   rw [hp1] at hreach
   obtain rfl := sReach hreach
   clear hreach
   refine y_ (Ad (T U)) (Af (Ae (Bq [(1, _), (3, _), (4, _), (11, _), (12, _), (13, _), (14, _), (15, _), (16, _), (18, _), (19, _), (20, _), (21, _), (23, _), (24, _)] ⟨Aa U, Aa U, Aa U, Aa U, Aa U, Aa U, Aa U, Aa U, Aa U, Aa U, Aa U, Aa U, Aa U, Aa U, Aa U, trivial⟩ (Ag (Ab (y_ (Ac (T U)) (y_ (Ac (T U)) (Bj (Ac (T U)) U (As U U (Aa U)) (Bj (Bs (T U) Ak) U (As U U (Aa U)) (y_ (A4 (T U) (T U)) (y_ (Ac (T U)) (Bj (Ac (T U)) U (As U U (Aa U)) (Bj (C2 (T U)) U (As U U (Aa U)) (y_ (A4 (T U) (T U)) (y_ (Ac (T U)) (Bj (Ac (T U)) U (As U U (Aa U)) (Bj (Bs (T U) Ak) U (As U U (Aa U)) (y_ (A4 (T U) (T U)) (y_ (Ac (T U)) (Bj (Ac (T U)) U (As U U (Aa U)) (A7 (Al (.cons Ak (.cons Ak .nil)) (bs25_2_0_1 _ _)) U (As U U (Aa U)) ?_)) U) U))) U) U))) U) U))) U) U)))))) U
   rintro _ _ ⟨n166, rfl, rfl⟩
   refine Bj (Ax (.cons (T U) (.cons (T U) .nil)) call25 (fun H' hs => Dq (decide_eq_true U) (sameNames_s (slQ d2) (some ⟨n166, 0, none⟩) (slC d2) 2 [sa, soth] [sa, soth] ((Ba (X := H) (enc := encS) (sz := 1) (e := 9) (l := [sa, soth]) (fun _ => rfl) hd2).mono (List.Sublist.trans sbt hs)) (Cx (l := [sa, soth]) (cells := ([sa, soth]).flatMap encS) (e := 9) (fun _ => rfl) U (Fnd.mono fdd hs)) (by decide)))) U (As U U (Aa U)) ?_
   refine y_ (A4 (T U) (T U)) (y_ (Ac (T U)) (Bj (Ac (T U)) U (As U U (Aa U)) (Bj (Bs (T U) Ak) U (As U U (Aa U)) (y_ (A4 (T U) (T U)) (y_ (Ac (T U)) (Bj (Ac (T U)) U (As U U (Aa U)) (A7 (Al (.cons Ak (.cons Ak .nil)) (bs42_2_0_1 _ _)) U (As U U (Aa U)) ?_)) U) U))) U) U
   rintro _ _ ⟨n175, rfl, rfl⟩
   refine Bj (Ax (.cons (T U) (.cons (T U) .nil)) call31 (fun H' hs => Dq (decide_eq_true (show [2, 3].map (fun k : Nat => (k : Int)) = [2, 3] from rfl)) (sameInts_s (slQ d3) (some ⟨n175, 0, none⟩) (slC d3) 2 ([2, 3].map (fun k : Nat => (k : Int))) [2, 3] (arrUI ((Ba (X := H) (enc := encU) (sz := 1) (e := 3) (l := [2, 3]) (fun _ => rfl) hd3).mono (List.Sublist.trans sbt hs))) (Cx (l := [2, 3]) (cells := ([2, 3] : List Int).flatMap encI) (e := 3) (fun _ => rfl) U (Fnd.mono fdd hs)) (by decide)))) U (As U U (Aa U)) ?_
   refine y_ (A4 (T U) (T U)) (y_ (Ac (T U)) (Bj (Ac (T U)) U (As U U (Aa U)) (Bj (Bs (T U) Ak) U (As U U (Aa U)) (y_ (A4 (T U) (T U)) (y_ (Ac (T U)) (Bj (Ac (T U)) U (As U U (Aa U)) (A7 (Al (.cons Ak (.cons Ak (.cons Ak .nil))) (bs42_3_0_1_2 _ _ _)) U (As U U (Aa U)) ?_)) U) U))) U) U
   rintro _ _ ⟨n184, rfl, rfl⟩
   refine Bj (Ax (.cons (T U) (.cons (T U) .nil)) call31 (fun H' hs => Dq (decide_eq_true (show [0, 4, 3].map (fun k : Nat => (k : Int)) = [0, 4, 3] from rfl)) (sameInts_s (slQ d4) (some ⟨n184, 0, none⟩) (slC d4) 3 ([0, 4, 3].map (fun k : Nat => (k : Int))) [0, 4, 3] (arrUI ((Ba (X := H) (enc := encU) (sz := 1) (e := 3) (l := [0, 4, 3]) (fun _ => rfl) hd4).mono (List.Sublist.trans sbt hs))) (Cx (l := [0, 4, 3]) (cells := ([0, 4, 3] : List Int).flatMap encI) (e := 3) (fun _ => rfl) U (Fnd.mono fdd hs)) (by decide)))) U (As U U (Aa U)) ?_
   refine y_ (A4 (T U) (T U)) (y_ (Ac (T U)) (Bj (Ac (T U)) U (As U U (Aa U)) (Bj (Bs (T U) Ak) U (As U U (Aa U)) (y_ (A4 (T U) (T U)) (y_ (Ac (T U)) (Bj (Ac (T U)) U (As U U (Aa U)) (Bj (Bm (T U) runUnderlying59) U (As U U (Aa U)) (Bj (Bs (T U) Ak) U (As U U (Aa U)) (y_ (A4 (T U) (T U)) (y_ (Ac (T U)) (Bj (Am (T U) isAgg56 sizeOf56 U (by first | exact Bh)) U (As U U (Aa U)) ?_) U) U)))) U) U))) U) U
   refine Bj (Am (T U) isAgg58 sizeOf58 U (by first | exact Bh)) U (As U U (Aa U)) ?_
   refine Bj (Am (T U) isAgg29 sizeOf29 U (by first | exact Bh)) U (As U U (Aa U)) ?_
   refine Bj (Ac (T U)) U (As U U (Aa U)) ?_
   refine Bj (Ax (.cons (T U) (.cons (T U) (.cons (T U) (.cons Ak (.cons Ak (.cons (T U) .nil)))))) call37 (fun H' hs => Dq (sRe' hp1 x1 x2 x3) (refutes_s (exN x1 x2 x3) ⟨none, 0, [], -1⟩ m1 ⟨(ex_net (Fnd.mono fdd hs) (Fnd.mono fdd hs)), (fun i x hi => by cases hi), hm1.mono (List.Sublist.trans sbt hs)⟩ ⟨ex_ok x1 x2 x3, (by first | exact Nat.zero_le _ | (show 1 ≤ 4611686018427387903; omega)), hk1, hs1, by omega⟩ 1 (show _ < 4 by omega) 3 ([(0, 2), (1, 2), (2, 2), (3, 2)].map toI) (slQ d6) (slC d6) (arrPP ((Ba (X := H) (enc := encPl) (sz := 2) (e := 74) (l := [(0, 2), (1, 2), (2, 2), (3, 2)]) (fun _ => rfl) hd6).mono (List.Sublist.trans sbt hs))) (by decide)))) U (As U U (Aa U)) ?_
   refine y_ (A4 (T U) (T U)) (y_ (Ac (T U)) (Bj (Am (T U) isAgg56 sizeOf56 U (by first | exact Bh)) U (As U U (Aa U)) ?_) U) U
   refine Bj (Am (T U) isAgg58 sizeOf58 U (by first | exact Bh)) U (As U U (Aa U)) ?_
   refine Bj (Am (T U) isAgg24 sizeOf24 U (by first | exact Bh)) U (As U U (Aa U)) ?_
   refine Bj (Ac (T U)) U (As U U (Aa U)) ?_
   refine Bj (Ax (.cons (T U) (.cons (T U) (.cons (T U) (.cons Ak (.cons Ak (.cons (T U) .nil)))))) call32 (fun H' hs => Dq (sHo x1 x2 x3 _ _) (holds_s (exN x1 x2 x3) (ex_net (Fnd.mono fdd hs) (Fnd.mono fdd hs)) (ex_ok x1 x2 x3) ⟨none, 0, [], -1⟩ (fun i x hi => by cases hi) (Nat.zero_le _) (.mk 4 ⟨#[]⟩ (some ⟨n37, 0, none⟩) 2 [(.mk 4 ⟨#[]⟩ (some ⟨n34, 0, none⟩) 2 [(.mk 4 ⟨#[]⟩ (some ⟨n31, 0, none⟩) 2 [(.mk 2 ⟨#[97]⟩ none 0 []), (.mk 6 ⟨#[]⟩ (some ⟨n27, 0, none⟩) 1 [(.mk 3 ⟨#[]⟩ none 0 [])])]), (.mk 2 ⟨#[99]⟩ none 0 [])]), (.mk 6 ⟨#[]⟩ (some ⟨n27, 0, none⟩) 1 [(.mk 3 ⟨#[]⟩ none 0 [])])]) sX (.seq (.seq (.seq (.nod (by decide)) (.star .any)) (.nod (by decide))) (.star .any)) (rxx_own fdd fdd fdd fdd hs) (by decide) 0 3 (show _ < 4 by omega) ([2, 3].map (fun k : Nat => (k : Int))) (slQ d3) (slC d3) (arrUI ((Ba (X := H) (enc := encU) (sz := 1) (e := 3) (l := [2, 3]) (fun _ => rfl) hd3).mono (List.Sublist.trans sbt hs))) (by decide)))) U (As U U (Aa U)) ?_
   refine y_ (A4 (T U) (T U)) (y_ (Ac (T U)) (A7 (Al (.cons Ak (.cons Ak .nil)) (bs25_2_0_1 _ _)) U (As U U (Aa U)) ?_) U) U
   rintro _ _ ⟨n211, rfl, rfl⟩
   refine Bj (Ax (.cons (T U) .nil) call19 (fun H' hs => sO ▸ other_s [sa, soth] (some ⟨n211, 0, none⟩) 2 (Cx (l := [sa, soth]) (cells := ([sa, soth]).flatMap encS) (e := 9) (fun _ => rfl) U (Fnd.mono fdd hs)) (by decide))) U (As U U (Aa U)) ?_
   refine Bj (yl_eqSD (T U) Ak) U (As U U (Aa U)) (y_ (A4 (T U) (T U)) (y_ (Ac (T U)) (Bj (Am (T U) isAgg29 sizeOf29 U (by first | exact Bh)) U (As U U (Aa U)) ?_) U) U)
   refine A7 (Al (.cons Ak (.cons Ak .nil)) (bs25_2_0_1 _ _)) U (As U U (Aa U)) ?_
   rintro _ _ ⟨n217, rfl, rfl⟩
   refine Bj (Ax (.cons (T U) (.cons (T U) .nil)) call21 (fun H' hs => still_v (c := .int .i64 ((3 : Nat) : Int)) (congrArg (fun k : Nat => Value.int .i64 (k : Int)) (hp1.symm ▸ sR)) (run_s m1 (hm1.mono (List.Sublist.trans sbt hs)) hk1 hs1 (by omega) [sa, sc] (some ⟨n217, 0, none⟩) 2 (Cx (l := [sa, sc]) (cells := ([sa, sc]).flatMap encS) (e := 9) (fun _ => rfl) U (Fnd.mono fdd hs)) (by decide)))) U (As U U (Aa U)) ?_
   refine Bj (Bs (T U) Ak) U (As U U (Aa U)) (y_ (A4 (T U) (T U)) (y_ (Ad (T U)) (Af (Ae (Bq [(0, _)] ⟨Aa U, trivial⟩ (A5 (A6 U (.tmp (Aa U) .nil) ?_))))) U) U)
   exact ⟨_, ⟨rfl, rfl⟩, sbt⟩
end Go.Proofs.YtkdolgnpkjihpaaGreatDoor
namespace Go.Proofs.YtkdolgnpkjihpaaGreatDoor
open _root_.Go.Proofs.Tryz
open Go.RowKit
set_option linter.unusedVariables false
set_option linter.unusedSimpArgs false
theorem bs25_49_0_1_2_3_4_5_6_7_8_9_10_11_12_13_14_15_16_17_18_19_20_21_22_23_24_25_26_27_28_29_30_31_32_33_34_35_36_37_38_39_40_41_42_43_44_45_46_47_48 (a0 : ByteArray) (a1 : ByteArray) (a2 : ByteArray) (a3 : ByteArray) (a4 : ByteArray) (a5 : ByteArray) (a6 : ByteArray) (a7 : ByteArray) (a8 : ByteArray) (a9 : ByteArray) (a10 : ByteArray) (a11 : ByteArray) (a12 : ByteArray) (a13 : ByteArray) (a14 : ByteArray) (a15 : ByteArray) (a16 : ByteArray) (a17 : ByteArray) (a18 : ByteArray) (a19 : ByteArray) (a20 : ByteArray) (a21 : ByteArray) (a22 : ByteArray) (a23 : ByteArray) (a24 : ByteArray) (a25 : ByteArray) (a26 : ByteArray) (a27 : ByteArray) (a28 : ByteArray) (a29 : ByteArray) (a30 : ByteArray) (a31 : ByteArray) (a32 : ByteArray) (a33 : ByteArray) (a34 : ByteArray) (a35 : ByteArray) (a36 : ByteArray) (a37 : ByteArray) (a38 : ByteArray) (a39 : ByteArray) (a40 : ByteArray) (a41 : ByteArray) (a42 : ByteArray) (a43 : ByteArray) (a44 : ByteArray) (a45 : ByteArray) (a46 : ByteArray) (a47 : ByteArray) (a48 : ByteArray) (w : World) : (Instr.buildSlice 25 49 #[(0, .string a0), (1, .string a1), (2, .string a2), (3, .string a3), (4, .string a4), (5, .string a5), (6, .string a6), (7, .string a7), (8, .string a8), (9, .string a9), (10, .string a10), (11, .string a11), (12, .string a12), (13, .string a13), (14, .string a14), (15, .string a15), (16, .string a16), (17, .string a17), (18, .string a18), (19, .string a19), (20, .string a20), (21, .string a21), (22, .string a22), (23, .string a23), (24, .string a24), (25, .string a25), (26, .string a26), (27, .string a27), (28, .string a28), (29, .string a29), (30, .string a30), (31, .string a31), (32, .string a32), (33, .string a33), (34, .string a34), (35, .string a35), (36, .string a36), (37, .string a37), (38, .string a38), (39, .string a39), (40, .string a40), (41, .string a41), (42, .string a42), (43, .string a43), (44, .string a44), (45, .string a45), (46, .string a46), (47, .string a47), (48, .string a48)]).run Tryz.prog w = .ok (.slice (some ⟨w.heap.size, 0, none⟩) 49 49) (w.alloc (Cl [.string a0, .string a1, .string a2, .string a3, .string a4, .string a5, .string a6, .string a7, .string a8, .string a9, .string a10, .string a11, .string a12, .string a13, .string a14, .string a15, .string a16, .string a17, .string a18, .string a19, .string a20, .string a21, .string a22, .string a23, .string a24, .string a25, .string a26, .string a27, .string a28, .string a29, .string a30, .string a31, .string a32, .string a33, .string a34, .string a35, .string a36, .string a37, .string a38, .string a39, .string a40, .string a41, .string a42, .string a43, .string a44, .string a45, .string a46, .string a47, .string a48] 9)) := by kernel_rfl
theorem ch10_s {w0 : World} {H : List (Nat × Obj)} (c : Int) :
  FSpec Tryz.prog w0 176 #[.int .u8 c] H (fun v H' => (∃ t : Bool, v = .bool t) ∧ H' = H) := by
 refine A8 Tryz.func176 U ntmps176 U (Ag (Ab (y_ (Ad Ak) (Af (Ae (Ag (Ab (y_ (Ac (T U)) (y_ (Dx (T U) Ak) (y_ (Ac (T U)) ?_ U) U) U))))) U)))
 first | refine Cb (s := 5) (Aa U) (fun c5 => ?_) (fun c5 => ?_) | refine Cw (s := 5) (Aa U) (fun c5 => ?_) (fun c5 => ?_)
 ·refine Bj (Ac (T U)) U (As U U (Aa U)) (Bj (yl_leq (T U) Ak) U (As U U (Aa U)) (y_ (A4 (T U) (T U)) (y_ (Ad (T U)) (Af (Ae (A5 (A6 U (.tmp (Aa U) .nil) ?_)))) U) U))
  exact ⟨_, ⟨⟨_, rfl⟩, rfl⟩, sbt⟩
 ·refine B9 (B9 (y_ (A9 (T U) Ak) (y_ (Ad (T U)) (Af (Ae (A5 (A6 U (.tmp (Aa U) .nil) ?_)))) U) U) U U U U) U U U U
  exact ⟨_, ⟨⟨_, rfl⟩, rfl⟩, sbt⟩
theorem dg10_s {w0 : World} {H : List (Nat × Obj)} (c : Int) :
  FSpec Tryz.prog w0 192 #[.int .u8 c] H (fun v H' => (∃ t : Bool, v = .bool t) ∧ H' = H) := by
 refine A8 Tryz.func192 U ntmps192 U (Ag (Ab (y_ (Ad Ak) (Af (Ae (Ag (Ab (y_ (Ac (T U)) (y_ (Dx (T U) Ak) (y_ (Ac (T U)) ?_ U) U) U))))) U)))
 first | refine Cb (s := 5) (Aa U) (fun c5 => ?_) (fun c5 => ?_) | refine Cw (s := 5) (Aa U) (fun c5 => ?_) (fun c5 => ?_)
 ·refine Bj (Ac (T U)) U (As U U (Aa U)) (Bj (yl_leq (T U) Ak) U (As U U (Aa U)) (y_ (A4 (T U) (T U)) (y_ (Ad (T U)) (Af (Ae (A5 (A6 U (.tmp (Aa U) .nil) ?_)))) U) U))
  exact ⟨_, ⟨⟨_, rfl⟩, rfl⟩, sbt⟩
 ·refine B9 (B9 (y_ (A9 (T U) Ak) (y_ (Ad (T U)) (Af (Ae (A5 (A6 U (.tmp (Aa U) .nil) ?_)))) U) U) U U U U) U U U U
  exact ⟨_, ⟨⟨_, rfl⟩, rfl⟩, sbt⟩
theorem wb10_s {w0 : World} {H : List (Nat × Obj)} (c : Int) :
  FSpec Tryz.prog w0 188 #[.int .u8 c] H (fun v H' => (∃ t : Bool, v = .bool t) ∧ H' = H) := by
 refine A8 Tryz.func188 U ntmps188 U (Ag (Ab (y_ (Ad Ak) (Af (Ae (Ag (Ab (y_ (Ac (T U)) (e_ (Aw (.cons (T U) .nil) call176 (ch10_s _)) ?_ U) U))))) U)))
 rintro _ _ ⟨⟨t1, rfl⟩, rfl⟩
 refine y_ (Ad (T U)) (Af (Ae (Ag (Ab (y_ (Ac (T U)) (e_ (Aw (.cons (T U) .nil) call192 (dg10_s _)) ?_ U) U))))) U
 rintro _ _ ⟨⟨t2, rfl⟩, rfl⟩
 refine y_ (Ad (T U)) (Af (Ae (Ag (Ab (y_ (Ac (T U)) (y_ (Ac (T U)) ?_ U) U))))) U
 first | refine Cb (s := 10) (Aa U) (fun c10 => ?_) (fun c10 => ?_) | refine Cw (s := 10) (Aa U) (fun c10 => ?_) (fun c10 => ?_)
 ·refine Cm (y_ (A4 (T U) Ak) (y_ (Ac (T U)) (Cm (Cm (y_ (A4 (T U) Ak) (y_ (Ad (T U)) (Af (Ae (A5 (A6 U (.tmp (Aa U) .nil) ?_)))) U) U) U U U U) U U U U) U) U) U U U U
  exact ⟨_, ⟨⟨_, rfl⟩, rfl⟩, sbt⟩
 ·refine Bj (Ac (T U)) U (As U U (Aa U)) (y_ (A9 (T U) (T U)) (y_ (Ac (T U)) ?_ U) U)
  first | refine Cb (s := 13) (Aa U) (fun c13 => ?_) (fun c13 => ?_) | refine Cw (s := 13) (Aa U) (fun c13 => ?_) (fun c13 => ?_)
  ·refine Cm (Cm (y_ (A4 (T U) Ak) (y_ (Ad (T U)) (Af (Ae (A5 (A6 U (.tmp (Aa U) .nil) ?_)))) U) U) U U U U) U U U U
   exact ⟨_, ⟨⟨_, rfl⟩, rfl⟩, sbt⟩
  ·refine Bj (Ac (T U)) U (As U U (Aa U)) (Bj (Bs (T U) Ak) U (As U U (Aa U)) (y_ (A9 (T U) (T U)) (y_ (Ad (T U)) (Af (Ae (A5 (A6 U (.tmp (Aa U) .nil) ?_)))) U) U))
   exact ⟨_, ⟨⟨_, rfl⟩, rfl⟩, sbt⟩
theorem run10_s {w0 : World} {H : List (Nat × Obj)} (s : ByteArray) (hs : s.size ≤ 9223372036854775807) :
  FSpec Tryz.prog w0 178 #[.string s] H (fun v H' => (∃ t : Int, v = .int .i64 t) ∧ H' = H) := by
 refine A8 Tryz.func178 U ntmps178 U (Ag (Ab (y_ (Ad Ak) (Af (Ae (Ag (Ab (y_ (Ad Ak) (Af (Ae (Ag (Au ?_)))) U))))) U)))
 refine Ce (X := Nat) (V := fun k => [(3, .int .i64 (k : Nat))]) (C := [(0, _)]) (φ := fun k => k ≤ s.size) (μ := fun k => s.size - k) (x0 := 0) ?_ ⟨Aa U, trivial⟩ ⟨atd, trivial⟩ ?_
 ·exact Nat.zero_le _
 rintro k hk
 refine Ag (Ag (Ab (y_ (Ac (T U)) (y_ (Ac (T U)) (y_ (yl_len_s (T U) runUnderlying9) (y_ (Bz (T U) (T U)) (Af (Ae ?_)) U) U) U) U)))
 first | refine Ao (Aa U) (fun c8 => ?_) (fun c8 => ?_) | refine A3 (Aa U) (fun c8 => ?_) (fun c8 => ?_)
 ·refine A2 (Ae (Au (Ag (Ab (y_ (Ac (T U)) (y_ (Ac (T U)) (y_ (yl_sidx (T U) (T U) runUnderlying9 (by omega)) ?_ U) U) U)))))
  refine e_ (Aw (.cons (T U) .nil) call188 (wb10_s _)) ?_ U
  rintro _ _ ⟨⟨t, rfl⟩, rfl⟩
  refine y_ (Ad (T U)) (Af (Ae (Ag (Ag (Ab (y_ (Ac (T U)) ?_ U)))))) U
  first | refine Bj (Cv (T U)) U Ah ?_ | refine Bj (C2 (T U)) U Ah ?_
  refine Af (Ae ?_)
  first | refine Ao (Aa U) (fun c14 => ?_) (fun c14 => ?_) | refine A3 (Aa U) (fun c14 => ?_) (fun c14 => ?_)
  ·refine B1 (Ay (q_block_miss U (A0 (A1 (Ae (Ag (Ab (y_ (Ac (T U)) (y_ (Ad (T U)) (Af (Ae (A5 (A6 U (.tmp (Aa U) .nil) ?_)))) U) U))))))))
   exact ⟨_, ⟨⟨_, rfl⟩, rfl⟩, sbt⟩
  ·refine A2 (Ae (Ab (y_ (Ac (T U)) (y_ (Bu (T U) Ak (by omega)) ?_ U) U)))
   refine y_ (Ad (T U)) (Af (Bl ?_)) U
   refine Bo (k + 1) ?_ ?_ ⟨atd, trivial⟩ ⟨Aa U, trivial⟩ ?_
   ·show k + 1 ≤ _; omega
   ·first | omega | (simp only []; omega)
   ·exact sbt
 ·refine B1 (Ay (A0 (A1 (Ae (Ag (Ab (y_ (Ac (T U)) (y_ (Ad (T U)) (Af (Ae (A5 (A6 U (.tmp (Aa U) .nil) ?_)))) U) U)))))))
  exact ⟨_, ⟨⟨_, rfl⟩, rfl⟩, sbt⟩
def wordsL : List ByteArray := [⟨#[97,110,100]⟩, ⟨#[97,110,121]⟩, ⟨#[97,116]⟩, ⟨#[98,97,99,107]⟩, ⟨#[98,111,120]⟩, ⟨#[98,117,114,115,116]⟩, ⟨#[98,121]⟩, ⟨#[99,97,112,97,99,105,116,121]⟩, ⟨#[99,101,105,108,105,110,103]⟩, ⟨#[99,104,101,99,107]⟩, ⟨#[99,111,110,116,114,97,99,116]⟩, ⟨#[99,111,117,110,116]⟩, ⟨#[100,101,109,97,110,100]⟩, ⟨#[100,114,111,112]⟩, ⟨#[101,97,99,104]⟩, ⟨#[101,100,103,101]⟩, ⟨#[101,110,116,114,105,101,115]⟩, ⟨#[102,97,108,115,101]⟩, ⟨#[102,105,101,108,100]⟩, ⟨#[102,108,111,111,114]⟩, ⟨#[102,114,111,109]⟩, ⟨#[105,100]⟩, ⟨#[105,110]⟩, ⟨#[105,110,110,101,114]⟩, ⟨#[105,110,116,111]⟩, ⟨#[108,105,110,107]⟩, ⟨#[110,101,116,119,111,114,107]⟩, ⟨#[110,111,100,101]⟩, ⟨#[110,111,116]⟩, ⟨#[111,112,101,110]⟩, ⟨#[111,114]⟩, ⟨#[112,97,116,104]⟩, ⟨#[112,111,114,116]⟩, ⟨#[112,114,105,99,101]⟩, ⟨#[114,111,117,116,101]⟩, ⟨#[114,117,108,101,115]⟩, ⟨#[115,116,97,103,101]⟩, ⟨#[116,97,107,101]⟩, ⟨#[116,101,110,97,110,116]⟩, ⟨#[116,104,101,110]⟩, ⟨#[116,105,109,101]⟩, ⟨#[116,111]⟩, ⟨#[116,111,107,101,110]⟩, ⟨#[116,114,97,110,115,108,97,116,101]⟩, ⟨#[116,114,117,101]⟩, ⟨#[118,105,97]⟩, ⟨#[119,105,100,116,104]⟩, ⟨#[119,105,114,101]⟩, ⟨#[119,105,116,104,105,110]⟩]
theorem words_s {w0 : World} {H : List (Nat × Obj)}  :
  FSpec Tryz.prog w0 187 #[] H (fun v H' => (∃ n : Nat, v = .slice (some ⟨n, 0, none⟩) 49 49 ∧ H' = (n, Cl (wordsL.flatMap encS) 9) :: H)) := by
 refine A8 Tryz.func187 U ntmps187 U (Ag (Ab (y_ (Ad Ak) (Af (Ae (Ag (Ab (e_ (Al (.cons Ak (.cons Ak (.cons Ak (.cons Ak (.cons Ak (.cons Ak (.cons Ak (.cons Ak (.cons Ak (.cons Ak (.cons Ak (.cons Ak (.cons Ak (.cons Ak (.cons Ak (.cons Ak (.cons Ak (.cons Ak (.cons Ak (.cons Ak (.cons Ak (.cons Ak (.cons Ak (.cons Ak (.cons Ak (.cons Ak (.cons Ak (.cons Ak (.cons Ak (.cons Ak (.cons Ak (.cons Ak (.cons Ak (.cons Ak (.cons Ak (.cons Ak (.cons Ak (.cons Ak (.cons Ak (.cons Ak (.cons Ak (.cons Ak (.cons Ak (.cons Ak (.cons Ak (.cons Ak (.cons Ak (.cons Ak (.cons Ak .nil))))))))))))))))))))))))))))))))))))))))))))))))) (bs25_49_0_1_2_3_4_5_6_7_8_9_10_11_12_13_14_15_16_17_18_19_20_21_22_23_24_25_26_27_28_29_30_31_32_33_34_35_36_37_38_39_40_41_42_43_44_45_46_47_48 _ _ _ _ _ _ _ _ _ _ _ _ _ _ _ _ _ _ _ _ _ _ _ _ _ _ _ _ _ _ _ _ _ _ _ _ _ _ _ _ _ _ _ _ _ _ _ _ _)) ?_ U))))) U)))
 rintro _ _ ⟨n1, rfl, rfl⟩
 refine y_ (Ad (T U)) (Af (Ae (A5 (A6 U (.tmp (Aa U) .nil) ?_)))) U
 exact ⟨_, ⟨_, rfl, rfl⟩, sbt⟩
theorem isw_s {w0 : World} {H : List (Nat × Obj)} (s : ByteArray) :
  FSpec Tryz.prog w0 177 #[.string s] H (fun v H' => (∃ t : Bool, v = .bool t) ∧ H' = H) := by
 refine A8 Tryz.func177 U ntmps177 U (Ag (Ab (y_ (Ad Ak) (Af (Ae (Ag (Ab (e_ (Aw .nil call187 (words_s)) ?_ U))))) U)))
 rintro _ _ ⟨n5, rfl, rfl⟩
 refine y_ (Ad (T U)) (Af (Ae (Ag (Ag (Ab (y_ (Ad Ak) (Af (Ae (Au ?_))) U)))))) U
 refine Ce (X := Nat) (V := fun k => [(4, .int .i64 (k : Nat))]) (C := [(0, _), (3, _)]) (φ := fun k => k ≤ 49) (μ := fun k => 49 - k) (x0 := 0) ?_ ⟨Aa U, Aa U, trivial⟩ ⟨atd, trivial⟩ ?_
 ·exact Nat.zero_le _
 rintro k hk
 refine Ag (Ag (Ab (y_ (Ac (T U)) (y_ (Ac (T U)) (y_ (Bm (T U) runUnderlying25) (y_ (Bz (T U) (T U)) (Af (Ae ?_)) U) U) U) U)))
 first | refine Ao (Aa U) (fun c9 => ?_) (fun c9 => ?_) | refine A3 (Aa U) (fun c9 => ?_) (fun c9 => ?_)
 ·refine A2 (Ae (Ag (Au (Ag (Ab (y_ (Ac (T U)) (y_ (Ac (T U)) (y_ (Bb (T U) (T U) runUnderlying25 sizeOf9 (by omega) (by first | exact rfl | exact (by rfl))) ?_ U) U) U))))))
  refine y_ (Aj (T U) isAgg9 (by first | exact c_o | exact cell1 ((Cx (l := wordsL) (sz := 1) (enc := encS) (fun _ => rfl) U fdd).cs (i := k) (show k < 49 by omega)))) ?_ U
  refine y_ (Ac (T U)) (y_ (yl_eqSD (T U) (T U)) (Af (Ae ?_)) U) U
  first | refine Ao (Aa U) (fun c17 => ?_) (fun c17 => ?_) | refine A3 (Aa U) (fun c17 => ?_) (fun c17 => ?_)
  ·refine Ag (Ab (y_ (Ad Ak) (Af (Ae (A5 (Aq (An (B4 (Aq (An (A6 U (.tmp (Aa U) .nil) ?_))))))))) U))
   exact ⟨_, ⟨⟨_, rfl⟩, rfl⟩, sbt⟩
  ·refine A2 (Bl (Ae (Ab (y_ (Ac (T U)) (y_ (Bu (T U) Ak (by omega)) ?_ U) U))))
   refine y_ (Ad (T U)) (Af ?_) U
   refine Bo (k + 1) ?_ ?_ ⟨atd, trivial⟩ ⟨Aa U, Aa U, trivial⟩ ?_
   ·show k + 1 ≤ _; omega
   ·first | omega | (simp only []; omega)
   ·exact sbt
 ·refine B1 (Ay (A0 (A1 (Ae (Ag (Ab (y_ (Ad Ak) (Af (Ae (A5 (A6 U (.tmp (Aa U) .nil) ?_)))) U)))))))
  exact ⟨_, ⟨⟨_, rfl⟩, rfl⟩, sbt⟩
theorem name10_s {w0 : World} {H : List (Nat × Obj)} (s : ByteArray) (hs : s.size ≤ 9223372036854775807) :
  FSpec Tryz.prog w0 158 #[.string s] H (fun v H' => (∃ t : Bool, v = .bool t ∧ (t = true → s.size ≠ 0)) ∧ H' = H) := by
 refine A8 Tryz.func158 U ntmps158 U (Ag (Ab (y_ (Ad Ak) (Af (Ae (Ag (Ag (Ab (y_ (Ac (T U)) (y_ (yl_len_s (T U) runUnderlying9) (y_ (Bs (T U) Ak) (y_ (Ac (T U)) ?_ U) U) U) U)))))) U)))
 first | refine Cb (s := 8) (Aa U) (fun c8 => ?_) (fun c8 => ?_) | refine Cw (s := 8) (Aa U) (fun c8 => ?_) (fun c8 => ?_)
 ·refine Cm (Cm (Cm (y_ (A4 (T U) Ak) (Af (Ae ?_)) U) U U U U) U U U U) U U U U
  first | refine Bp (Aa U) ?_ | refine Bp (Ai (Aa U) (vbool (decide_eq_true c12))) ?_
  refine Ag (Ab (y_ (Ad Ak) (Af (Ae (A5 (An (A6 U (.tmp (Aa U) .nil) ?_))))) U))
  exact ⟨_, ⟨⟨_, rfl, fun h => (by first | omega | cases h)⟩, rfl⟩, sbt⟩
 ·refine Bj (Ac (T U)) U (As U U (Aa U)) (Bj (yl_len_s (T U) runUnderlying9) U (As U U (Aa U)) (Bj (Dw (T U) Ak) U (As U U (Aa U)) (y_ (A9 (T U) (T U)) (Af (Ae ?_)) U)))
  first | refine Ao (Aa U) (fun c12 => ?_) (fun c12 => ?_) | refine A3 (Aa U) (fun c12 => ?_) (fun c12 => ?_)
  ·refine Ag (Ab (y_ (Ad Ak) (Af (Ae (A5 (An (A6 U (.tmp (Aa U) .nil) ?_))))) U))
   exact ⟨_, ⟨⟨_, rfl, fun h => (by first | omega | cases h)⟩, rfl⟩, sbt⟩
  ·refine A2 (Ae (Ag (Ab (y_ (Ac (T U)) (y_ (yl_sidx (T U) Ak runUnderlying9 (by show 0 < s.size; omega)) ?_ U) U))))
   refine e_ (Aw (.cons (T U) .nil) call176 (ch10_s _)) ?_ U
   rintro _ _ ⟨⟨t1, rfl⟩, rfl⟩
   refine y_ (Ad (T U)) (Af (Ae (Ag (Ab (y_ (Ac (T U)) (e_ (Aw (.cons (T U) .nil) call177 (isw_s s)) ?_ U) U))))) U
   rintro _ _ ⟨⟨t2, rfl⟩, rfl⟩
   refine y_ (Ad (T U)) (Af (Ae (Ag (Ab (y_ (Ac (T U)) (y_ (Ac (T U)) ?_ U) U))))) U
   first | refine Cb (s := 19) (Aa U) (fun c19 => ?_) (fun c19 => ?_) | refine Cw (s := 19) (Aa U) (fun c19 => ?_) (fun c19 => ?_)
   ·refine Bj (Ac (T U)) U (As U U (Aa U)) (A7 (Aw (.cons (T U) .nil) call178 (run10_s s hs)) U (As U U (Aa U)) ?_)
    rintro _ _ ⟨⟨t3, rfl⟩, rfl⟩
    refine Bj (Ac (T U)) U (As U U (Aa U)) (Bj (yl_len_s (T U) runUnderlying9) U (As U U (Aa U)) (Bj (Bs (T U) (T U)) U (As U U (Aa U)) (y_ (A4 (T U) (T U)) (y_ (Ac (T U)) ?_ U) U)))
    first | refine Cb (s := 26) (Aa U) (fun c26 => ?_) (fun c26 => ?_) | refine Cw (s := 26) (Aa U) (fun c26 => ?_) (fun c26 => ?_)
    ·refine Bj (Ac (T U)) U (As U U (Aa U)) ?_
     first | refine Bj (Cv (T U)) U (As U U (Aa U)) ?_ | refine Bj (C2 (T U)) U (As U U (Aa U)) ?_
     refine y_ (A4 (T U) (T U)) (y_ (Ad (T U)) (Af (Ae (Bq [(2, _)] ⟨Aa U, trivial⟩ (A5 (A6 U (.tmp (Aa U) .nil) ?_))))) U) U
     exact ⟨_, ⟨⟨_, rfl, fun h => (by first | omega | cases h)⟩, rfl⟩, sbt⟩
    ·refine B9 (B9 (y_ (A9 (T U) Ak) (y_ (Ad (T U)) (Af (Ae (Bq [(2, _)] ⟨Aa U, trivial⟩ (A5 (A6 U (.tmp (Aa U) .nil) ?_))))) U) U) U U U U) U U U U
     exact ⟨_, ⟨⟨_, rfl, fun h => (by first | omega | cases h)⟩, rfl⟩, sbt⟩
   ·refine B9 (B9 (B9 (B9 (B9 (y_ (A9 (T U) Ak) (y_ (Ac (T U)) (B9 (B9 (y_ (A9 (T U) Ak) (y_ (Ad (T U)) (Af (Ae (Bq [(2, _)] ⟨Aa U, trivial⟩ (A5 (A6 U (.tmp (Aa U) .nil) ?_))))) U) U) U U U U) U U U U) U) U) U U U U) U U U U) U U U U) U U U U) U U U U
    exact ⟨_, ⟨⟨_, rfl, fun h => (by first | omega | cases h)⟩, rfl⟩, sbt⟩
theorem plain_s {w0 : World} {H : List (Nat × Obj)} (s : ByteArray) (hs : s.size ≤ 9223372036854775807) :
  FSpec Tryz.prog w0 137 #[.string s] H (fun v H' => (∃ t : Bool, v = .bool t ∧ (t = true → s.size ≠ 0)) ∧ H' = H) := by
 refine A8 Tryz.func137 U ntmps137 U (Ag (Ab (y_ (Ad Ak) (Af (Ae (Ag (Ab (y_ (Ac (T U)) (e_ (Aw (.cons (T U) .nil) call158 (name10_s s hs)) ?_ U) U))))) U)))
 rintro _ _ ⟨⟨t1, rfl, h1⟩, rfl⟩
 refine y_ (Ad (T U)) (Af (Ae (A5 (A6 U (.tmp (Aa U) .nil) ?_)))) U
 exact ⟨_, ⟨⟨_, rfl, h1⟩, rfl⟩, sbt⟩
end Go.Proofs.YtkdolgnpkjihpaaGreatDoor
namespace Go.Proofs.YtkdolgnpkjihpaaGreatDoor
open _root_.Go.Proofs.Tryz
open Go.RowKit
set_option linter.unusedVariables false
set_option linter.unusedSimpArgs false
theorem bd150_0_1 (a0 : Int) (a1 : Int) (w : World) : (Instr.build 150 #[(0, .int .i64 a0), (1, .int .i64 a1)]).run Tryz.prog w = .ok (.agg #[.int .i64 a0, .int .i64 a1]) w := by kernel_rfl
theorem fa150_0 (b o : Nat) (w : World) : (Instr.fieldAt 150 (.pointer (some ⟨b, o, none⟩)) 0).run Tryz.prog w = .ok (.pointer (some ⟨b, o, none⟩)) w := by kernel_rfl
theorem fa150_1 (b o : Nat) (w : World) : (Instr.fieldAt 150 (.pointer (some ⟨b, o, none⟩)) 1).run Tryz.prog w = .ok (.pointer (some ⟨b, o + 1, none⟩)) w := by kernel_rfl
mutual
def Rxm.sz : Rxm → Nat
 | .mk _ _ _ _ xs => 1 + szL xs
def szL : List Rxm → Nat
 | [] => 0
 | x :: xs => x.sz + szL xs
end
theorem sz_eq (m : Rxm) : m.sz = 1 + szL m.args := by cases m; rfl
theorem szL_app : ∀ (a b : List Rxm), szL (a ++ b) = szL a + szL b
 | [], b => by simp [szL]
 | x :: a, b => by simp only [List.cons_append, szL, szL_app a b]; omega
theorem szL_take {l : List Rxm} {i : Nat} (h : i < l.length) : szL (l.take (i + 1)) = szL (l.take i) + (gd l i).sz := by
 rw [Du h, szL_app]; simp [szL]
theorem szL_le : ∀ (l : List Rxm) (i : Nat), szL (l.take i) ≤ szL l
 | [], i => by simp [szL]
 | x :: l, 0 => by simp [szL]
 | x :: l, i + 1 => by simp only [List.take_succ_cons, szL]; have := szL_le l i; omega
theorem szL_len : ∀ l : List Rxm, l.length ≤ szL l
 | [] => Nat.le_refl _
 | x :: l => by simp only [List.length_cons, szL]; have := szL_len l; have := sz_eq x; omega
theorem sz_mem {m a : Rxm} (h : a ∈ m.args) : a.sz < m.sz := by
 rw [sz_eq m]
 have : ∀ l : List Rxm, a ∈ l → a.sz ≤ szL l := fun l => by
  induction l with
  | nil => intro h; cases h
  | cons x l ih =>
   intro h
   rcases List.mem_cons.1 h with rfl | h
   ·simp only [szL]; omega
   ·have := ih h; simp only [szL]; omega
 have := this _ h; omega
theorem RxM.arr {w0 : World} {H : List (Nat × Obj)} {m : Rxm} (h : RxM w0 H m) : Arr w0 H m.q 3 encRx m.args := by cases h; assumption
theorem RxM.arg {w0 : World} {H : List (Nat × Obj)} {m a : Rxm} (h : RxM w0 H m) (ha : a ∈ m.args) : RxM w0 H a := by cases h; rename_i h1 h2 h3 h4; exact h2 _ ha
theorem RxM.nl {w0 : World} {H : List (Nat × Obj)} {m : Rxm} (h : RxM w0 H m) : m.node.size ≤ 9223372036854775807 := by cases h; assumption
theorem RxM.al {w0 : World} {H : List (Nat × Obj)} {m : Rxm} (h : RxM w0 H m) : m.args.length ≤ 9223372036854775807 := by cases h; assumption
theorem rx_ind {Q : Rxm → Prop} (h : ∀ m, (∀ a ∈ m.args, Q a) → Q m) : ∀ m, Q m := fun m => by
 have : ∀ n (m : Rxm), m.sz ≤ n → Q m := fun n => by
  induction n with
  | zero => intro m hm; rw [sz_eq] at hm; omega
  | succ n ih => intro m hm; exact h m fun a ha => ih a (by have := sz_mem ha; omega)
 exact this _ m (Nat.le_refl _)
def cntS (w0 : World) (m : Rxm) : Prop := ∀ H : List (Nat × Obj), RxM w0 H m → m.sz ≤ 8388608 → FSpec Tryz.prog w0 41 #[.agg (encRx m).toArray] H (Still (.int .i64 (m.sz : Nat)) H)
theorem cnt_step {w0 : World} {H : List (Nat × Obj)} (m : Rxm) (hM : RxM w0 H m) (hz : m.sz ≤ 8388608) (ih : ∀ a ∈ m.args, cntS w0 a) :
  FSpec Tryz.prog w0 41 #[.agg (encRx m).toArray] H (Still (.int .i64 (m.sz : Nat)) H) := by
 refine A8 Tryz.func41 U ntmps41 U ?_
 have hse := sz_eq m
 have hln := szL_len m.args
 have hA := hM.arr
 refine Ag (Ab (e_ (Bi (T U) cs_) ?_ U))
 rintro _ _ ⟨n1, rfl, rfl⟩
 refine y_ (Ad Ak) (Af (Ae (Ag (Ab (y_ (Ad Ak) (Af (Ae (Ag (Ag (Ab (y_ (Ad Ak) (Af (Ae (Au ?_))) U)))))) U))))) U
 refine Ce (X := Nat) (V := fun i => [(4, .int .i64 (i : Nat)), (3, .int .i64 (1 + szL (m.args.take i) : Nat))]) (C := [(1, _)]) (φ := fun i => i ≤ m.args.length) (μ := fun i => m.args.length - i) (x0 := 0) ?_ ⟨Aa U, trivial⟩ ⟨atd, atd, trivial⟩ ?_
 ·exact Nat.zero_le _
 rintro i hi
 have htk : i < m.args.length → szL (m.args.take (i + 1)) = szL (m.args.take i) + (gd m.args i).sz := fun h => szL_take h
 have htl := szL_le m.args (i + 1)
 have htl0 := szL_le m.args i
 refine Ag (Ag (Ab (y_ (Ac (T U)) (y_ (Be (T U) C1) (y_ (Aj (T U) isAgg22 (by first | exact c_o)) ?_ U) U) U)))
 refine y_ (Bm (T U) runUnderlying22) (y_ (Bz (T U) (T U)) (Af (Ae ?_)) U) U
 first | refine Ao (Aa U) (fun c9 => ?_) (fun c9 => ?_) | refine A3 (Aa U) (fun c9 => ?_) (fun c9 => ?_)
 ·refine A2 (Ae (Ag (Au (Ab (y_ (Ac (T U)) (y_ (Be (T U) C1) (y_ (Aj (T U) isAgg22 (by first | exact c_o)) ?_ U) U) U)))))
  refine y_ (Ac (T U)) (y_ (Bb (T U) (T U) runUnderlying22 sizeOf24 (by omega) (by first | exact rfl | exact hA.b (i := i) (by omega))) ?_ U) U
  refine y_ (Am (T U) isAgg24 sizeOf24 U (by first | exact (hA.mono sbt).cs (i := i) (by omega) | exact Bh)) ?_ U
  refine y_ (Ax (.cons (T U) .nil) call41 (fun H' hs => ih _ (Az (i := i) (by omega)) _ ((hM.arg (Az (i := i) (by omega))).mono (List.Sublist.trans sbt hs)) (by omega))) ?_ U
  refine y_ (Bu (T U) (T U) (by omega)) ?_ U
  refine y_ (Ad (T U)) (Af (Bl (Ae (Ab (y_ (Ac (T U)) (y_ (Bu (T U) Ak (by omega)) ?_ U) U))))) U
  refine y_ (Ad (T U)) (Af ?_) U
  refine Bo (i + 1) ?_ ?_ ⟨atd, atd, trivial⟩ ⟨Aa U, trivial⟩ ?_
  ·show i + 1 ≤ _; omega
  ·first | omega | (simp only []; omega)
  ·exact sbt
 ·refine B1 (Ay (A0 (A1 (Ae (Ag (Ab (y_ (Ac (T U)) (y_ (Ad (T U)) (Af (Ae (A5 (A6 U (.tmp (Aa U) .nil) ?_)))) U) U)))))))
  exact ⟨_, ⟨vint (by rw [List.take_of_length_le (by omega)]; omega), rfl⟩, sbt⟩
theorem cnt_s {w0 : World} {H : List (Nat × Obj)} (m : Rxm) (hM : RxM w0 H m) (hz : m.sz ≤ 8388608) : FSpec Tryz.prog w0 41 #[.agg (encRx m).toArray] H (Still (.int .i64 (m.sz : Nat)) H) :=
 rx_ind (Q := cntS w0) (fun m ih H hM hz => cnt_step m hM hz ih) m H hM hz
def strS (w0 : World) (m : Rxm) : Prop := ∀ H : List (Nat × Obj), RxM w0 H m → m.sz ≤ 8388608 → FSpec Tryz.prog w0 42 #[.agg (encRx m).toArray] H (fun v H' => (∃ t : Nat, v = .int .i64 (t : Nat) ∧ t ≤ m.sz) ∧ H' = H)
theorem str_step {w0 : World} {H : List (Nat × Obj)} (m : Rxm) (hM : RxM w0 H m) (hz : m.sz ≤ 8388608) (ih : ∀ a ∈ m.args, strS w0 a) :
  FSpec Tryz.prog w0 42 #[.agg (encRx m).toArray] H (fun v H' => (∃ t : Nat, v = .int .i64 (t : Nat) ∧ t ≤ m.sz) ∧ H' = H) := by
 refine A8 Tryz.func42 U ntmps42 U ?_
 have hse := sz_eq m
 have hln := szL_len m.args
 have hA := hM.arr
 refine Ag (Ab (e_ (Bi (T U) cs_) ?_ U))
 rintro _ _ ⟨n1, rfl, rfl⟩
 refine y_ (Ad Ak) (Af (Ae (Ag (Ab (y_ (Ad Ak) (Af (Ae (Ag (Ag (Ab (y_ (Ad Ak) (Af (Ae (Au ?_))) U)))))) U))))) U
 refine Ce (X := Nat × Nat) (V := fun ⟨i, r⟩ => [(4, .int .i64 (i : Nat)), (3, .int .i64 (r : Nat))]) (C := [(1, _)]) (φ := fun ⟨i, r⟩ => i ≤ m.args.length ∧ r ≤ szL m.args) (μ := fun ⟨i, r⟩ => m.args.length - i) (x0 := (0, 0)) ?_ ⟨Aa rfl, trivial⟩ ⟨atd, atd, trivial⟩ ?_
 ·exact ⟨Nat.zero_le _, Nat.zero_le _⟩
 rintro ⟨i, r⟩ ⟨hi, hr⟩
 have htk : i < m.args.length → szL (m.args.take (i + 1)) = szL (m.args.take i) + (gd m.args i).sz := fun h => szL_take h
 have htl := szL_le m.args (i + 1)
 have htl0 := szL_le m.args i
 refine Ag (Ag (Ab (y_ (Ac (T U)) (y_ (Be (T U) C1) (y_ (Aj (T U) isAgg22 (by first | exact c_o)) ?_ U) U) U)))
 refine y_ (Bm (T U) runUnderlying22) (y_ (Bz (T U) (T U)) (Af (Ae ?_)) U) U
 first | refine Ao (Aa U) (fun c9 => ?_) (fun c9 => ?_) | refine A3 (Aa U) (fun c9 => ?_) (fun c9 => ?_)
 ·refine A2 (Ae (Ag (Au (Ab (y_ (Ac (T U)) (y_ (Be (T U) C1) (y_ (Aj (T U) isAgg22 (by first | exact c_o)) ?_ U) U) U)))))
  refine y_ (Ac (T U)) (y_ (Bb (T U) (T U) runUnderlying22 sizeOf24 (by omega) (by first | exact rfl | exact hA.b (i := i) (by omega))) ?_ U) U
  refine y_ (Am (T U) isAgg24 sizeOf24 U (by first | exact (hA.mono sbt).cs (i := i) (by omega) | exact Bh)) ?_ U
  refine e_ (Aw (.cons (T U) .nil) call42 (ih _ (Az (i := i) (by omega)) _ ((hM.arg (Az (i := i) (by omega))).mono sbt) (by omega))) ?_ U
  rintro _ _ ⟨⟨t, rfl, ht⟩, rfl⟩
  refine y_ (yl_max (T U) (T U)) (y_ (Ad (T U)) (Af (Bl (Ae (Ab (y_ (Ac (T U)) (y_ (Bu (T U) Ak (by omega)) ?_ U) U))))) U) U
  refine y_ (Ad (T U)) (Af ?_) U
  refine Bo ((i + 1, max r t)) ?_ ?_ ⟨atd, atd, trivial⟩ ⟨Aa U, trivial⟩ ?_
  ·exact ⟨by omega, by omega⟩
  ·first | omega | (simp only []; omega)
  ·exact sbt
 ·refine B1 (Ay (A0 (A1 (Ae (Ag (Ag (Ab (y_ (Bn (T U) C4) (y_ (Aj (T U) isAgg3 (by first | exact c_o)) ?_ U) U))))))))
  refine y_ (Bs (T U) Ak) (Af (Ae ?_)) U
  first | refine Ao (Aa U) (fun c22 => ?_) (fun c22 => ?_) | refine A3 (Aa U) (fun c22 => ?_) (fun c22 => ?_)
  ·refine Ab (y_ (Ac (T U)) (y_ (Bu (T U) Ak (by omega)) ?_ U) U)
   refine y_ (Ad (T U)) (Af (Ae (Ag (Ab (y_ (Ac (T U)) (y_ (Ad (T U)) (Af (Ae (A5 (A6 U (.tmp (Aa U) .nil) ?_)))) U) U))))) U
   exact ⟨_, ⟨⟨r + 1, rfl, by omega⟩, rfl⟩, sbt⟩
  ·refine A2 (Ae (Ag (Ab (y_ (Ac (T U)) (y_ (Ad (T U)) (Af (Ae (A5 (A6 U (.tmp (Aa U) .nil) ?_)))) U) U))))
   exact ⟨_, ⟨⟨r, rfl, by omega⟩, rfl⟩, sbt⟩
theorem str_s {w0 : World} {H : List (Nat × Obj)} (m : Rxm) (hM : RxM w0 H m) (hz : m.sz ≤ 8388608) : FSpec Tryz.prog w0 42 #[.agg (encRx m).toArray] H (fun v H' => (∃ t : Nat, v = .int .i64 (t : Nat) ∧ t ≤ m.sz) ∧ H' = H) :=
 rx_ind (Q := strS w0) (fun m ih H hM hz => str_step m hM hz ih) m H hM hz
theorem more_s {w0 : World} {H : List (Nat × Obj)} (a b c d : Nat) (h : a + b + c + d ≤ 1000000000) :
  FSpec Tryz.prog w0 136 #[.agg #[.int .i64 (a : Nat), .int .i64 (b : Nat)], .agg #[.int .i64 (c : Nat), .int .i64 (d : Nat)]] H (Still (.agg #[.int .i64 ((a + c : Nat) : Int), .int .i64 ((max b (d + 1) : Nat) : Int)]) H) := by
 refine A8 Tryz.func136 U ntmps136 U (Ag (Ab (e_ (Bi (T U) cs_) ?_ U)))
 rintro _ _ ⟨n2, rfl, rfl⟩
 refine e_ (Bi (T U) cs_) ?_ U
 rintro _ _ ⟨n3, rfl, rfl⟩
 refine e_ (Ar zeroValue150 cs_) ?_ U
 rintro _ _ ⟨n4, rfl, rfl⟩
 refine Af (Ae (Ag (Ab (y_ (Bn (T U) fa150_0) (y_ (Aj (T U) isAgg3 (by first | exact c_o)) ?_ U) U))))
 refine y_ (Bn (T U) fa150_0) (y_ (Aj (T U) isAgg3 (by first | exact c_o)) ?_ U) U
 refine y_ (Bu (T U) (T U) (by omega)) ?_ U
 refine y_ (Be (T U) fa150_1) (y_ (Aj (T U) isAgg3 (by first | exact c_o)) ?_ U) U
 refine y_ (Be (T U) fa150_1) (y_ (Aj (T U) isAgg3 (by first | exact c_o)) ?_ U) U
 refine y_ (Bu (T U) Ak (by omega)) ?_ U
 refine y_ (yl_max (T U) (T U)) (y_ (Bv (.cons (T U) (.cons (T U) .nil)) (bd150_0_1 _ _)) ?_ U) U
 first | refine A7 (Av (T U) (T U) sizeOf150) U Ah ?_
 rintro _ _ ⟨rfl, rfl⟩
 refine Af (Ae (A5 (A6 U (.cellA (Aa U) isAgg150 sizeOf150 U (by first | exact Bh) .nil) ?_)))
 exact ⟨_, ⟨by rw [show ((a + c : Nat) : Int) = a + c by omega, show ((max b (d + 1) : Nat) : Int) = max (b : Int) ((d : Int) + 1) by omega]; rfl, rfl⟩, sbt⟩
def sizS (w0 : World) (m : Rxm) : Prop := ∀ H : List (Nat × Obj), RxM w0 H m → m.sz ≤ 8388608 → FSpec Tryz.prog w0 98 #[.agg (encRx m).toArray] H (fun v H' => (∃ d : Nat, v = .agg #[.int .i64 (m.sz : Nat), .int .i64 (d : Nat)] ∧ d ≤ m.sz) ∧ H' = H)
theorem siz_step {w0 : World} {H : List (Nat × Obj)} (m : Rxm) (hM : RxM w0 H m) (hz : m.sz ≤ 8388608) (ih : ∀ a ∈ m.args, sizS w0 a) :
  FSpec Tryz.prog w0 98 #[.agg (encRx m).toArray] H (fun v H' => (∃ d : Nat, v = .agg #[.int .i64 (m.sz : Nat), .int .i64 (d : Nat)] ∧ d ≤ m.sz) ∧ H' = H) := by
 refine A8 Tryz.func98 U ntmps98 U ?_
 have hse := sz_eq m
 have hln := szL_len m.args
 have hA := hM.arr
 refine Ag (Ab (e_ (Bi (T U) cs_) ?_ U))
 rintro _ _ ⟨n1, rfl, rfl⟩
 refine e_ (Ar zeroValue150 cs_) ?_ U
 rintro _ _ ⟨n2, rfl, rfl⟩
 refine Af (Ae (Ag (Ab (y_ (Bv (.cons Ak (.cons Ak .nil)) (bd150_0_1 _ _)) (e_ (Ar zeroValue150 cs_) ?_ U) U))))
 rintro _ _ ⟨n3, rfl, rfl⟩
 first | refine A7 (Av (T U) (T U) sizeOf150) U Ah ?_
 rintro _ _ ⟨rfl, rfl⟩
 refine Af (Ae (Ag (Ag (Ab (y_ (Ad Ak) (Af (Ae (Au ?_))) U)))))
 refine Cc (X := Nat × Nat) (V := fun ⟨i, d⟩ => [(4, .int .i64 (i : Nat))]) (C := [(1, _), (2, _), (3, _)]) (G := fun ⟨i, d⟩ => (n3, Cl [.int .i64 ((1 + szL (m.args.take i) : Nat) : Int), .int .i64 (d : Nat)] 150) :: (n2, Cl [.int .i64 0, .int .i64 0] 150) :: (n1, Cl (encRx m) 24) :: H) (φ := fun ⟨i, d⟩ => i ≤ m.args.length ∧ d ≤ 1 + szL (m.args.take i)) (μ := fun ⟨i, d⟩ => m.args.length - i) (x0 := (0, 1)) ?_ ⟨Aa rfl, Aa rfl, Aa rfl, trivial⟩ ⟨atd, trivial⟩ sb0 ?_
 ·exact ⟨Nat.zero_le _, by omega⟩
 rintro ⟨i, d⟩ ⟨hi, hd⟩
 have htk : i < m.args.length → szL (m.args.take (i + 1)) = szL (m.args.take i) + (gd m.args i).sz := fun h => szL_take h
 have htl := szL_le m.args (i + 1)
 have htl0 := szL_le m.args i
 refine Ag (Ag (Ab (y_ (Ac (T U)) (y_ (Be (T U) C1) (y_ (Aj (T U) isAgg22 (by first | exact c_o)) ?_ U) U) U)))
 refine y_ (Bm (T U) runUnderlying22) (y_ (Bz (T U) (T U)) (Af (Ae ?_)) U) U
 first | refine Ao (Aa U) (fun c10 => ?_) (fun c10 => ?_) | refine A3 (Aa U) (fun c10 => ?_) (fun c10 => ?_)
 ·refine A2 (Ae (Ag (Au (Cj 8 [(0, true), (1, true), (2, true), (3, true), (4, true), (5, true), (6, false), (7, true)] _ mixd (by kernel_rfl) sb0 ?_))))
  refine o_y U (Am (T U) isAgg150 sizeOf150 U (by first | exact Bh)) ?_ U Ah
  refine o_y U (Be (T U) C1) (o_y U (Aj (T U) isAgg22 (by first | exact c_o)) ?_ U Ah) U Ah
  refine o_y U (Ac (T U)) (o_y U (Bb (T U) (T U) runUnderlying22 sizeOf24 (by omega) (by first | exact rfl | exact hA.b (i := i) (by omega))) ?_ U Ah) U Ah
  refine o_y U (Am (T U) isAgg24 sizeOf24 U (by first | exact (hA.mono sbt).cs (i := i) (by omega) | exact Bh)) ?_ U Ah
  refine o_e U (Aw (.cons (T U) .nil) call98 (ih _ (Az (i := i) (by omega)) _ ((hM.arg (Az (i := i) (by omega))).mono sbt) (by omega))) ?_ U Ah
  rintro _ _ ⟨⟨t, rfl, ht⟩, rfl⟩
  refine ⟨sbt, (o_y U (Ax (.cons (T U) (.cons (T U) .nil)) call136 (fun H' hs => more_s (1 + szL (m.args.take i)) d (gd m.args i).sz t (by omega))) ?_ U Ah)⟩
  refine B2 U ?_
  first | refine A7 (Av (T U) (T U) sizeOf150) U Ah ?_
  rintro _ _ ⟨rfl, rfl⟩
  refine Af (Bl (Ae (Ab (y_ (Ac (T U)) (y_ (Bu (T U) Ak (by omega)) ?_ U) U))))
  refine y_ (Ad (T U)) (Af ?_) U
  have htk := szL_take (l := m.args) (i := i) (by omega)
  have htl := szL_le m.args (i + 1)
  have hgm := sz_mem (Az (l := m.args) (i := i) (by omega))
  rw [show 1 + szL (m.args.take i) + (gd m.args i).sz = 1 + szL (m.args.take (i + 1)) by omega]
  refine Bo ((i + 1, max d (t + 1))) ?_ ?_ ⟨atd, trivial⟩ ⟨Aa U, Aa U, Aa U, trivial⟩ ?_
  ·exact ⟨by omega, by omega⟩
  ·first | omega | (simp only []; omega)
  ·exact sbt
 ·refine B1 (Ay (A0 (A1 (Ae (Ag (Ab (y_ (Am (T U) isAgg150 sizeOf150 U (by first | exact Bh)) ?_ U)))))))
  first | refine A7 (Av (T U) (T U) sizeOf150) U Ah ?_
  rintro _ _ ⟨rfl, rfl⟩
  refine Af (Ae (A5 (A6 U (.cellA (Aa U) isAgg150 sizeOf150 U (by first | exact Bh) .nil) ?_)))
  rw [List.take_of_length_le (by omega)] at *
  exact ⟨_, ⟨⟨d, by rw [hse]; rfl, by omega⟩, rfl⟩, sbt⟩
theorem siz_s {w0 : World} {H : List (Nat × Obj)} (m : Rxm) (hM : RxM w0 H m) (hz : m.sz ≤ 8388608) : FSpec Tryz.prog w0 98 #[.agg (encRx m).toArray] H (fun v H' => (∃ d : Nat, v = .agg #[.int .i64 (m.sz : Nat), .int .i64 (d : Nat)] ∧ d ≤ m.sz) ∧ H' = H) :=
 rx_ind (Q := sizS w0) (fun m ih H hM hz => siz_step m hM hz ih) m H hM hz
end Go.Proofs.YtkdolgnpkjihpaaGreatDoor
namespace Go.Proofs.YtkdolgnpkjihpaaGreatDoor
open _root_.Go.Proofs.Tryz
open Go.RowKit
set_option linter.unusedVariables false
set_option linter.unusedSimpArgs false
def WantOk (m : Rxm) (w : Nat) (ok : Bool) : Prop := ((m.kind = 1 ∨ m.kind = 3) ∧ w = 0 ∧ (ok = true → m.node = ⟨#[]⟩)) ∨ (m.kind = 2 ∧ w = 0 ∧ (ok = true → m.node.size ≠ 0)) ∨ ((m.kind = 4 ∨ m.kind = 5) ∧ w = 2 ∧ (ok = true → m.node = ⟨#[]⟩)) ∨ (m.kind = 6 ∧ w = 1 ∧ (ok = true → m.node = ⟨#[]⟩))
theorem WantOk.le {m : Rxm} {w : Nat} {ok : Bool} (h : WantOk m w ok) : w ≤ 2 := by unfold WantOk at h; omega
theorem want_is {m : Rxm} {w : Nat} (h : WantOk m w true) (hl : m.args.length = w) (hp : ∀ j, j < w → ∃ e, Is (gd m.args j) e) : ∃ e, Is m e := by
 obtain ⟨k, s, q, c, xs⟩ := m
 simp only [WantOk, Rxm.kind, Rxm.node, Rxm.args] at h hl hp
 rcases h with ⟨hk, rfl, hn⟩ | ⟨rfl, rfl, hn⟩ | ⟨hk, rfl, hn⟩ | ⟨rfl, rfl, hn⟩
 ·have := List.eq_nil_of_length_eq_zero hl; subst this
  have := hn trivial; subst this
  rcases hk with rfl | rfl
  ·exact ⟨_, .emp⟩
  ·exact ⟨_, .any⟩
 ·have := List.eq_nil_of_length_eq_zero hl; subst this
  exact ⟨_, .nod (hn trivial)⟩
 ·match xs, hl with
  | [a, b], _ =>
   have := hn trivial; subst this
   obtain ⟨e1, h1⟩ := hp 0 (by omega)
   obtain ⟨e2, h2⟩ := hp 1 (by omega)
   rcases hk with rfl | rfl
   ·exact ⟨_, .seq h1 h2⟩
   ·exact ⟨_, .alt h1 h2⟩
 ·match xs, hl with
  | [a], _ =>
   have := hn trivial; subst this
   obtain ⟨e1, h1⟩ := hp 0 (by omega)
   exact ⟨_, .star h1⟩
theorem Is.lvz {m : Rxm} {e : Re} (h : Is m e) : 2 * e.lv ≤ m.sz + 1 := by
 induction h with
 | emp => simp [Re.lv]
 | nod _ => simp [Re.lv, Rxm.sz, szL]
 | any => simp [Re.lv, Rxm.sz, szL]
 | seq h1 h2 i1 i2 => simp only [Re.lv, Rxm.sz, szL]; omega
 | alt h1 h2 i1 i2 => simp only [Re.lv, Rxm.sz, szL]; omega
 | star h1 i1 => simp only [Re.lv, Rxm.sz, szL]; omega
theorem Dm {s : ByteArray} {b : Bool} (e : b = decide (s.data.toList = (⟨#[]⟩ : ByteArray).data.toList)) (h : b = true) : s = ⟨#[]⟩ := by
 rw [h] at e
 exact ByteArray.ext (Array.ext' (of_decide_eq_true e.symm))
def fmdS (w0 : World) (m : Rxm) : Prop := ∀ H : List (Nat × Obj), RxM w0 H m → m.sz ≤ 8388608 → FSpec Tryz.prog w0 99 #[.agg (encRx m).toArray] H (fun v H' => (∃ t : Bool, v = .bool t ∧ (t = true → ∃ e, Is m e)) ∧ H' = H)
theorem fmd_step {w0 : World} {H : List (Nat × Obj)} (m : Rxm) (hM : RxM w0 H m) (hz : m.sz ≤ 8388608) (ih : ∀ a ∈ m.args, fmdS w0 a) :
  FSpec Tryz.prog w0 99 #[.agg (encRx m).toArray] H (fun v H' => (∃ t : Bool, v = .bool t ∧ (t = true → ∃ e, Is m e)) ∧ H' = H) := by
 refine A8 Tryz.func99 U ntmps99 U ?_
 have hse := sz_eq m
 have hln := szL_len m.args
 have hA := hM.arr
 refine Ag (Ab (e_ (Bi (T U) cs_) ?_ U))
 rintro _ _ ⟨n1, rfl, rfl⟩
 refine y_ (Ad Ak) (Af (Ae (Ag (Ab (y_ (Be (T U) fa24_1) (y_ (Aj (T U) isAgg9 (by first | exact c_o)) ?_ U) U))))) U
 refine e_ (Aw (.cons (T U) .nil) call137 (plain_s m.node hM.nl)) ?_ U
 rintro _ _ ⟨⟨t1, rfl, ht1⟩, rfl⟩
 refine y_ (Ad (T U)) (Af (Ae (Ag (Ab (y_ (Ad Ak) (Af (Ae (Ag (Ab (y_ (Be (T U) fa24_1) (y_ (Aj (T U) isAgg9 (by first | exact c_o)) ?_ U) U))))) U))))) U
 refine y_ (yl_eqSD (T U) Ak) (y_ (Ad (T U)) (Af (Ae ?_)) U) U
 refine j_cutH (X := Nat × Bool) (V := fun ⟨wn, ok⟩ => [(4, .int .i64 (wn : Nat)), (5, .bool ok)]) (C := [(1, _)]) (φ := fun ⟨wn, ok⟩ => WantOk m wn ok) ⟨Aa rfl, trivial⟩ ?_ ?_
 ·refine Ag (Ab (y_ (Bn (T U) C4) (y_ (Aj (T U) isAgg3 (by first | exact c_o)) ?_ U) U))
  refine Af (Ae (Au (Ag (Ag (Ab (y_ (Bs (T U) Ak) (y_ (Ad (T U)) (Af (Ae ?_)) U) U))))))
  first | refine Ao (Aa U) (fun c16 => ?_) (fun c16 => ?_) | refine A3 (Aa U) (fun c16 => ?_) (fun c16 => ?_)
  ·refine A2 (Ae ?_)
   first | refine Bp (Aa U) ?_ | refine Bp (Ai (Aa U) (vbool (decide_eq_true c16))) ?_
   refine Ab (y_ (Ad Ak) (Af (Bl ?_)) U)
   refine Br ((0, _)) ?_ ⟨atd, atd, trivial⟩ ⟨Aa U, trivial⟩ sbt
   first | exact .inl ⟨by omega, rfl, fun h => Dm U h⟩ | exact .inr (.inl ⟨by omega, rfl, ht1⟩) | exact .inr (.inr (.inl ⟨by omega, rfl, fun h => Dm U h⟩)) | exact .inr (.inr (.inr ⟨by omega, rfl, fun h => Dm U h⟩))
  ·refine Ab (y_ (Bs (T U) Ak) (y_ (Ad (T U)) (Af (Ae ?_)) U) U)
   first | refine Ao (Aa U) (fun c16 => ?_) (fun c16 => ?_) | refine A3 (Aa U) (fun c16 => ?_) (fun c16 => ?_)
   ·refine Ab (y_ (Ad Ak) (Af (Bl ?_)) U)
    refine Br ((0, _)) ?_ ⟨atd, atd, trivial⟩ ⟨Aa U, trivial⟩ sbt
    first | exact .inl ⟨by omega, rfl, fun h => Dm U h⟩ | exact .inr (.inl ⟨by omega, rfl, ht1⟩) | exact .inr (.inr (.inl ⟨by omega, rfl, fun h => Dm U h⟩)) | exact .inr (.inr (.inr ⟨by omega, rfl, fun h => Dm U h⟩))
   ·refine Ag (Ab (y_ (Bs (T U) Ak) (y_ (Ad (T U)) (Af (Ae ?_)) U) U))
    first | refine Ao (Aa U) (fun c19 => ?_) (fun c19 => ?_) | refine A3 (Aa U) (fun c19 => ?_) (fun c19 => ?_)
    ·refine Ab (y_ (Ac (T U)) (y_ (Ad (T U)) (Af (Bl ?_)) U) U)
     refine Br ((0, _)) ?_ ⟨atd, atd, trivial⟩ ⟨Aa U, trivial⟩ sbt
     first | exact .inl ⟨by omega, rfl, fun h => Dm U h⟩ | exact .inr (.inl ⟨by omega, rfl, ht1⟩) | exact .inr (.inr (.inl ⟨by omega, rfl, fun h => Dm U h⟩)) | exact .inr (.inr (.inr ⟨by omega, rfl, fun h => Dm U h⟩))
    ·refine Ag (Ag (Ab (y_ (Bs (T U) Ak) (y_ (Ad (T U)) (Af (Ae ?_)) U) U)))
     first | refine Ao (Aa U) (fun c22 => ?_) (fun c22 => ?_) | refine A3 (Aa U) (fun c22 => ?_) (fun c22 => ?_)
     ·refine A2 (Ae ?_)
      first | refine Bp (Aa U) ?_ | refine Bp (Ai (Aa U) (vbool (decide_eq_true c22))) ?_
      refine Ab (y_ (Ad Ak) (Af (Bl ?_)) U)
      refine Br ((2, _)) ?_ ⟨atd, atd, trivial⟩ ⟨Aa U, trivial⟩ sbt
      first | exact .inl ⟨by omega, rfl, fun h => Dm U h⟩ | exact .inr (.inl ⟨by omega, rfl, ht1⟩) | exact .inr (.inr (.inl ⟨by omega, rfl, fun h => Dm U h⟩)) | exact .inr (.inr (.inr ⟨by omega, rfl, fun h => Dm U h⟩))
     ·refine Ab (y_ (Bs (T U) Ak) (y_ (Ad (T U)) (Af (Ae ?_)) U) U)
      first | refine Ao (Aa U) (fun c22 => ?_) (fun c22 => ?_) | refine A3 (Aa U) (fun c22 => ?_) (fun c22 => ?_)
      ·refine Ab (y_ (Ad Ak) (Af (Bl ?_)) U)
       refine Br ((2, _)) ?_ ⟨atd, atd, trivial⟩ ⟨Aa U, trivial⟩ sbt
       first | exact .inl ⟨by omega, rfl, fun h => Dm U h⟩ | exact .inr (.inl ⟨by omega, rfl, ht1⟩) | exact .inr (.inr (.inl ⟨by omega, rfl, fun h => Dm U h⟩)) | exact .inr (.inr (.inr ⟨by omega, rfl, fun h => Dm U h⟩))
      ·refine Ag (Ab (y_ (Bs (T U) Ak) (y_ (Ad (T U)) (Af (Ae (Bq [(1, _), (5, _), (25, _)] ⟨Aa U, Aa U, Aa U, trivial⟩ ?_))) U) U))
       first | refine Ao (Aa U) (fun c25 => ?_) (fun c25 => ?_) | refine A3 (Aa U) (fun c25 => ?_) (fun c25 => ?_)
       ·refine Ab (y_ (Ad Ak) (Af (Bl ?_)) U)
        refine Br ((1, _)) ?_ ⟨atd, atd, trivial⟩ ⟨Aa U, trivial⟩ sbt
        first | exact .inl ⟨by omega, rfl, fun h => Dm U h⟩ | exact .inr (.inl ⟨by omega, rfl, ht1⟩) | exact .inr (.inr (.inl ⟨by omega, rfl, fun h => Dm U h⟩)) | exact .inr (.inr (.inr ⟨by omega, rfl, fun h => Dm U h⟩))
       ·refine Ag (Ab (y_ (Ad Ak) (Af (Ae (A5 (Aq (q_cut_ret (A6 U (.tmp (Aa U) .nil) ?_)))))) U))
        exact ⟨_, ⟨⟨_, rfl, fun h => by cases h⟩, rfl⟩, sbt⟩
 rintro ⟨wn, ok⟩ hw
 have hwl := hw.le
 refine Ag (Ag (Ab (y_ (Ac (T U)) ?_ U)))
 first | refine Bj (Cv (T U)) U Ah ?_ | refine Bj (C2 (T U)) U Ah ?_
 refine y_ (Ac (T U)) ?_ U
 first | refine Cb (s := 29) (Aa U) (fun c29 => ?_) (fun c29 => ?_) | refine Cw (s := 29) (Aa U) (fun c29 => ?_) (fun c29 => ?_)
 ·refine Cm (Cm (Cm (Cm (Cm (y_ (A4 (T U) Ak) (Af (Ae ?_)) U) U U U U) U U U U) U U U U) U U U U) U U U U
  first | refine Bp (Aa U) ?_ | refine Bp (Ai (Aa U) (vbool (decide_eq_true c35))) ?_
  refine Ag (Ab (y_ (Ad Ak) (Af (Ae (A5 (An (A6 U (.tmp (Aa U) .nil) ?_))))) U))
  exact ⟨_, ⟨⟨_, rfl, fun h => by cases h⟩, rfl⟩, sbt⟩
 ·refine Bj (Be (T U) C1) U (As U U (Aa U)) (Bj (Aj (T U) isAgg22 (by first | exact c_o)) U (As U U (Aa U)) ?_)
  refine Bj (Bm (T U) runUnderlying22) U (As U U (Aa U)) (Bj (Ac (T U)) U (As U U (Aa U)) (Bj (C0 (T U) (T U)) U (As U U (Aa U)) (y_ (A9 (T U) (T U)) (Af (Ae ?_)) U)))
  first | refine Ao (Aa U) (fun c35 => ?_) (fun c35 => ?_) | refine A3 (Aa U) (fun c35 => ?_) (fun c35 => ?_)
  ·refine Ag (Ab (y_ (Ad Ak) (Af (Ae (A5 (An (A6 U (.tmp (Aa U) .nil) ?_))))) U))
   exact ⟨_, ⟨⟨_, rfl, fun h => by cases h⟩, rfl⟩, sbt⟩
  ·refine A2 (Ae (Ag (Ag (Ab (y_ (Ad Ak) (Af (Ae (Au ?_))) U)))))
   refine Ce (X := Nat) (V := fun i => [(6, .int .i64 (i : Nat))]) (C := [(1, _), (4, _)]) (φ := fun i => i ≤ wn ∧ m.args.length = wn ∧ ok = true ∧ ∀ j, j < i → ∃ e, Is (gd m.args j) e) (μ := fun i => wn - i) (x0 := 0) ?_ ⟨Aa U, Aa U, trivial⟩ ⟨atd, trivial⟩ ?_
   ·exact ⟨Nat.zero_le _, by omega, by simpa using c29, fun j hj => absurd hj (Nat.not_lt_zero _)⟩
   rintro i ⟨hi, hal, hok, hall⟩
   have htk : i < m.args.length → szL (m.args.take (i + 1)) = szL (m.args.take i) + (gd m.args i).sz := fun h => szL_take h
   have htl := szL_le m.args (i + 1)
   have htl0 := szL_le m.args i
   refine Ag (Ag (Ab (y_ (Ac (T U)) (y_ (Ac (T U)) (y_ (Bz (T U) (T U)) (Af (Ae ?_)) U) U) U)))
   first | refine Ao (Aa U) (fun c38 => ?_) (fun c38 => ?_) | refine A3 (Aa U) (fun c38 => ?_) (fun c38 => ?_)
   ·refine A2 (Ae (Ag (Au (Ag (Ab (y_ (Be (T U) C1) (y_ (Aj (T U) isAgg22 (by first | exact c_o)) ?_ U) U))))))
    refine y_ (Ac (T U)) (y_ (Bb (T U) (T U) runUnderlying22 sizeOf24 (by omega) (by first | exact rfl | exact hA.b (i := i) (by omega))) ?_ U) U
    refine y_ (Am (T U) isAgg24 sizeOf24 U (by first | exact (hA.mono sbt).cs (i := i) (by omega) | exact Bh)) ?_ U
    refine e_ (Aw (.cons (T U) .nil) call99 (ih _ (Az (i := i) (by omega)) _ ((hM.arg (Az (i := i) (by omega))).mono sbt) (by omega))) ?_ U
    rintro _ _ ⟨⟨t, rfl, ht⟩, rfl⟩
    refine y_ (Ad (T U)) (Af (Ae (Ag (Ab (y_ (Ac (T U)) ?_ U))))) U
    first | refine Bj (Cv (T U)) U Ah ?_ | refine Bj (C2 (T U)) U Ah ?_
    refine Af (Ae ?_)
    first | refine Ao (Aa U) (fun c48 => ?_) (fun c48 => ?_) | refine A3 (Aa U) (fun c48 => ?_) (fun c48 => ?_)
    ·refine Ag (Ab (y_ (Ad Ak) (Af (Ae (A5 (Aq (An (B4 (Aq (An (A6 U (.tmp (Aa U) .nil) ?_))))))))) U))
     exact ⟨_, ⟨⟨_, rfl, fun h => by cases h⟩, rfl⟩, sbt⟩
    ·refine A2 (Bl (Ae (Ab (y_ (Ac (T U)) (y_ (Bu (T U) Ak (by omega)) ?_ U) U))))
     refine y_ (Ad (T U)) (Af ?_) U
     refine Bo (i + 1) ?_ ?_ ⟨atd, trivial⟩ ⟨Aa U, Aa U, trivial⟩ ?_
     ·refine ⟨by omega, hal, hok, fun j hj => ?_⟩
      by_cases e : j = i
      ·subst e; exact ht (by simpa using c48)
      ·exact hall j (by omega)
     ·first | omega | (simp only []; omega)
     ·exact sbt
   ·refine B1 (Ay (A0 (A1 (Ae (Ag (Ab (y_ (Ad Ak) (Af (Ae (A5 (A6 U (.tmp (Aa U) .nil) ?_)))) U)))))))
    exact ⟨_, ⟨⟨_, rfl, fun _ => want_is (hok ▸ hw) hal (fun j hj => hall j (by omega))⟩, rfl⟩, sbt⟩
theorem fmd_s {w0 : World} {H : List (Nat × Obj)} (m : Rxm) (hM : RxM w0 H m) (hz : m.sz ≤ 8388608) : FSpec Tryz.prog w0 99 #[.agg (encRx m).toArray] H (fun v H' => (∃ t : Bool, v = .bool t ∧ (t = true → ∃ e, Is m e)) ∧ H' = H) :=
 rx_ind (Q := fmdS w0) (fun m ih H hM hz => fmd_step m hM hz ih) m H hM hz
theorem lim_s {w0 : World} {H : List (Nat × Obj)} (a b : Nat) :
  FSpec Tryz.prog w0 135 #[.agg #[.int .i64 (a : Nat), .int .i64 (b : Nat)]] H (fun v H' => (∃ t : Int, v = .int .i64 t) ∧ H' = H) := by
 refine A8 Tryz.func135 U ntmps135 U (Ag (Ab (e_ (Bi (T U) cs_) ?_ U)))
 rintro _ _ ⟨n1, rfl, rfl⟩
 refine y_ (Ad Ak) (Af (Ae (Ag (Ag (Ab (y_ (Bn (T U) fa150_0) (y_ (Aj (T U) isAgg3 (by first | exact c_o)) ?_ U) U)))))) U
 refine y_ (Dw (T U) Ak) (y_ (Ac (T U)) ?_ U) U
 first | refine Cb (s := 6) (Aa U) (fun c6 => ?_) (fun c6 => ?_) | refine Cw (s := 6) (Aa U) (fun c6 => ?_) (fun c6 => ?_)
 ·refine Cm (Cm (Cm (y_ (A4 (T U) Ak) (Af (Ae ?_)) U) U U U U) U U U U) U U U U
  first | refine Bp (Aa U) ?_ | refine Bp (Ai (Aa U) (vbool (decide_eq_true c10))) ?_
  refine Ag (Ab (y_ (Ad Ak) (Af (Ae (A5 (An (A6 U (.tmp (Aa U) .nil) ?_))))) U))
  exact ⟨_, ⟨⟨_, rfl⟩, rfl⟩, sbt⟩
 ·refine Bj (Be (T U) fa150_1) U (As U U (Aa U)) (Bj (Aj (T U) isAgg3 (by first | exact c_o)) U (As U U (Aa U)) ?_)
  refine Bj (Dw (T U) Ak) U (As U U (Aa U)) (y_ (A9 (T U) (T U)) (Af (Ae ?_)) U)
  first | refine Ao (Aa U) (fun c10 => ?_) (fun c10 => ?_) | refine A3 (Aa U) (fun c10 => ?_) (fun c10 => ?_)
  ·refine Ag (Ab (y_ (Ad Ak) (Af (Ae (A5 (An (A6 U (.tmp (Aa U) .nil) ?_))))) U))
   exact ⟨_, ⟨⟨_, rfl⟩, rfl⟩, sbt⟩
  ·refine A2 (Ae (Ag (Ab (y_ (Ad Ak) (Af (Ae (A5 (A6 U (.tmp (Aa U) .nil) ?_)))) U))))
   exact ⟨_, ⟨⟨_, rfl⟩, rfl⟩, sbt⟩
theorem frm_s {w0 : World} {H : List (Nat × Obj)} (a b : Nat) (t : Bool) :
  FSpec Tryz.prog w0 97 #[.agg #[.int .i64 (a : Nat), .int .i64 (b : Nat)], .bool t] H (fun v H' => (∃ e : Int, v = .int .i64 e ∧ (e = 0 → t = true)) ∧ H' = H) := by
 refine A8 Tryz.func97 U ntmps97 U (Ag (Ab (e_ (Bi (T U) cs_) ?_ U)))
 rintro _ _ ⟨n2, rfl, rfl⟩
 refine y_ (Ad Ak) (Af (Ae (Ag (Ab (y_ (Am (T U) isAgg150 sizeOf150 U (by first | exact Bh)) ?_ U))))) U
 refine e_ (Aw (.cons (T U) .nil) call135 (lim_s a b)) ?_ U
 rintro _ _ ⟨⟨e0, rfl⟩, rfl⟩
 refine y_ (Ad (T U)) (Af (Ae (Ag (Ag (Ab (y_ (Ac (T U)) (y_ (Bs (T U) Ak) (y_ (Ac (T U)) ?_ U) U) U)))))) U
 first | refine Cb (s := 10) (Aa U) (fun c10 => ?_) (fun c10 => ?_) | refine Cw (s := 10) (Aa U) (fun c10 => ?_) (fun c10 => ?_)
 ·refine Bj (Ac (T U)) U (As U U (Aa U)) ?_
  first | refine Bj (Cv (T U)) U (As U U (Aa U)) ?_ | refine Bj (C2 (T U)) U (As U U (Aa U)) ?_
  refine y_ (A4 (T U) (T U)) (Af (Ae ?_)) U
  first | refine Ao (Aa U) (fun c13 => ?_) (fun c13 => ?_) | refine A3 (Aa U) (fun c13 => ?_) (fun c13 => ?_)
  ·refine Ag (Ab (y_ (Ad Ak) (Af (Ae (A5 (An (A6 U (.tmp (Aa U) .nil) ?_))))) U))
   exact ⟨_, ⟨⟨_, rfl, fun h => (by first | (exfalso; omega) | (simp_all; done) | (cases t <;> simp_all; done))⟩, rfl⟩, sbt⟩
  ·refine A2 (Ae (Ag (Ab (y_ (Ac (T U)) (y_ (Ad (T U)) (Af (Ae (A5 (A6 U (.tmp (Aa U) .nil) ?_)))) U) U))))
   exact ⟨_, ⟨⟨_, rfl, fun h => (by first | (exfalso; omega) | (simp_all; done) | (cases t <;> simp_all; done))⟩, rfl⟩, sbt⟩
 ·refine B9 (B9 (y_ (A9 (T U) Ak) (Af (Ae ?_)) U) U U U U) U U U U
  first | refine Bc (Aa U) ?_ | refine Bc (Ai (Aa U) (vbool (decide_eq_false c13))) ?_
  refine A2 (Ae (Ag (Ab (y_ (Ac (T U)) (y_ (Ad (T U)) (Af (Ae (A5 (A6 U (.tmp (Aa U) .nil) ?_)))) U) U))))
  exact ⟨_, ⟨⟨_, rfl, fun h => (by first | (exfalso; omega) | (simp_all; done) | (cases t <;> simp_all; done))⟩, rfl⟩, sbt⟩
theorem chkr_s {w0 : World} {H : List (Nat × Obj)} (m : Rxm) (hM : RxM w0 H m) (hz : m.sz ≤ 8388608) :
  FSpec Tryz.prog w0 40 #[.agg (encRx m).toArray] H (fun v H' => (∃ e : Int, v = .int .i64 e ∧ (e = 0 → ∃ x, Is m x)) ∧ H' = H) := by
 refine A8 Tryz.func40 U ntmps40 U (Ag (Ab (e_ (Bi (T U) cs_) ?_ U)))
 rintro _ _ ⟨n1, rfl, rfl⟩
 refine y_ (Ad Ak) (Af (Ae (Ag (Cj 3 [(0, true), (2, true), (1, false)] _ mixd (by kernel_rfl) sb0 ?_)))) U
 refine o_y U (Am (T U) isAgg24 sizeOf24 U (by first | exact Bh)) ?_ U Ah
 refine o_y U (Am (T U) isAgg24 sizeOf24 U (by first | exact Bh)) ?_ U Ah
 refine o_e U (Aw (.cons (T U) .nil) call98 (siz_s m (hM.mono sbt) hz)) ?_ U Ah
 rintro _ _ ⟨⟨d, rfl, hd⟩, rfl⟩
 refine ⟨sbt, (B2 U (e_ (Aw (.cons (T U) .nil) call99 (fmd_s m (hM.mono sbt) hz)) ?_ U))⟩
 rintro _ _ ⟨⟨t, rfl, ht⟩, rfl⟩
 refine e_ (Aw (.cons (T U) (.cons (T U) .nil)) call97 (frm_s m.sz d t)) ?_ U
 rintro _ _ ⟨⟨e, rfl, he⟩, rfl⟩
 refine y_ (Ad (T U)) (Af (Ae (A5 (A6 U (.tmp (Aa U) .nil) ?_)))) U
 exact ⟨_, ⟨⟨_, rfl, fun h => ht (he h)⟩, rfl⟩, sbt⟩
theorem few8_s {w0 : World} {H : List (Nat × Obj)} (m : Rxm) (hM : RxM w0 H m) (hz : m.sz ≤ 8388608) :
  FSpec Tryz.prog w0 10 #[.agg (encRx m).toArray] H (fun v H' => (∃ t : Bool, v = .bool t ∧ (t = true → ∃ x, Is m x ∧ m.sz ≤ 40)) ∧ H' = H) := by
 refine A8 Tryz.func10 U ntmps10 U (Ag (Ab (e_ (Bi (T U) cs_) ?_ U)))
 rintro _ _ ⟨n1, rfl, rfl⟩
 refine y_ (Ad Ak) (Af (Ae (Ag (Ab (y_ (Am (T U) isAgg24 sizeOf24 U (by first | exact Bh)) ?_ U))))) U
 refine e_ (Aw (.cons (T U) .nil) call40 (chkr_s m (hM.mono sbt) hz)) ?_ U
 rintro _ _ ⟨⟨e, rfl, he⟩, rfl⟩
 refine y_ (Ad (T U)) (Af (Ae (Ag (Ab (y_ (Ac (T U)) (y_ (Bs (T U) Ak) (y_ (Ac (T U)) ?_ U) U) U))))) U
 first | refine Cb (s := 8) (Aa U) (fun c8 => ?_) (fun c8 => ?_) | refine Cw (s := 8) (Aa U) (fun c8 => ?_) (fun c8 => ?_)
 ·refine Bj (Am (T U) isAgg24 sizeOf24 U (by first | exact Bh)) U (As U U (Aa U)) ?_
  refine Bj (Ax (.cons (T U) .nil) call41 (fun H' hs => cnt_s m (hM.mono (List.Sublist.trans sbt hs)) hz)) U (As U U (Aa U)) (Bj (yl_leq (T U) Ak) U (As U U (Aa U)) (y_ (A4 (T U) (T U)) (y_ (Ac (T U)) ?_ U) U))
  first | refine Cb (s := 13) (Aa U) (fun c13 => ?_) (fun c13 => ?_) | refine Cw (s := 13) (Aa U) (fun c13 => ?_) (fun c13 => ?_)
  ·refine Bj (Am (T U) isAgg24 sizeOf24 U (by first | exact Bh)) U (As U U (Aa U)) ?_
   refine A7 (Aw (.cons (T U) .nil) call42 (str_s m (hM.mono sbt) hz)) U (As U U (Aa U)) ?_
   rintro _ _ ⟨⟨t, rfl, ht⟩, rfl⟩
   refine Bj (yl_leq (T U) Ak) U (As U U (Aa U)) (y_ (A4 (T U) (T U)) (y_ (Ad (T U)) (Af (Ae (A5 (A6 U (.tmp (Aa U) .nil) ?_)))) U) U)
   exact ⟨_, ⟨⟨_, rfl, fun h => (by first | (obtain ⟨x, hx⟩ := he (by omega); exact ⟨x, hx, by omega⟩) | cases h)⟩, rfl⟩, sbt⟩
  ·refine B9 (B9 (B9 (y_ (A9 (T U) Ak) (y_ (Ad (T U)) (Af (Ae (A5 (A6 U (.tmp (Aa U) .nil) ?_)))) U) U) U U U U) U U U U) U U U U
   exact ⟨_, ⟨⟨_, rfl, fun h => (by first | (obtain ⟨x, hx⟩ := he (by omega); exact ⟨x, hx, by omega⟩) | cases h)⟩, rfl⟩, sbt⟩
 ·refine B9 (B9 (B9 (y_ (A9 (T U) Ak) (y_ (Ac (T U)) (B9 (B9 (B9 (y_ (A9 (T U) Ak) (y_ (Ad (T U)) (Af (Ae (A5 (A6 U (.tmp (Aa U) .nil) ?_)))) U) U) U U U U) U U U U) U U U U) U) U) U U U U) U U U U) U U U U
  exact ⟨_, ⟨⟨_, rfl, fun h => (by first | (obtain ⟨x, hx⟩ := he (by omega); exact ⟨x, hx, by omega⟩) | cases h)⟩, rfl⟩, sbt⟩
theorem few_s {w0 : World} {H : List (Nat × Obj)} (m : Rxm) (hM : RxM w0 H m) (hz : m.sz ≤ 1048576) :
  FSpec Tryz.prog w0 10 #[.agg (encRx m).toArray] H (fun v H' => (∃ t : Bool, v = .bool t ∧ (t = true → ∃ x, Is m x ∧ m.sz ≤ 40)) ∧ H' = H) := few8_s m hM (by omega)
end Go.Proofs.YtkdolgnpkjihpaaGreatDoor
namespace Go.Proofs.YtkdolgnpkjihpaaGreatDoor
open _root_.Go.Proofs.Tryz
open Go.RowKit
set_option linter.unusedVariables false
set_option linter.unusedSimpArgs false
end Go.Proofs.YtkdolgnpkjihpaaGreatDoor
namespace Go.Proofs.YtkdolgnpkjihpaaGreatDoor
open _root_.Go.Proofs.Tryz
open Go.RowKit
set_option linter.unusedVariables false
set_option linter.unusedSimpArgs false
structure RgtOk (n : Nm) (f : Flr) (x y : Int) : Prop where
 net : NetOk n
 nn : n.nodes.length ≤ 12
 nl : n.links.length ≤ 30
 fl : f.links.length ≤ 30
 x : 0 ≤ x ∧ x < n.nodes.length
 y : 0 ≤ y ∧ y < n.nodes.length
end Go.Proofs.YtkdolgnpkjihpaaGreatDoor
namespace Go.Proofs.YtkdolgnpkjihpaaGreatDoor
open _root_.Go.Proofs.Tryz
open Go.RowKit
set_option linter.unusedVariables false
set_option linter.unusedSimpArgs false
section
variable {P : Program} {w0 : World} {L : Fm} {ty : TypeId} {H : List (Nat × Obj)} {x y : Operand} {t t2 e : TypeId}
theorem eff_appNil {α : Type} {enc : α → List Value} (l2 : List α) {q : Option Addr} {k c sz by' : Nat} {z : Value} {i0 : TypeInfo} {e2 : TypeId} (hk : k = l2.length) (hx : Ev L x (.slice none 0 0)) (hy : Ev L y (.slice q k c))
  (ht : ∀ w, (underlying t).run P w = .ok (.slice e) w) (ht2 : ∀ w, (underlying t2).run P w = .ok (.slice e2) w) (hz : ∀ w, (sizeOf e).run P w = .ok sz w) (hi : ∀ w, (typeInfo e).run P w = .ok i0 w) (hby : i0.bytes = by') (hzv : ∀ w, (zeroValue e).run P w = .ok z w) (hzs : z.cells.size = sz)
  (he : ∀ u, (enc u).length = sz) (h1 : ∀ u, (enc u).all oneB = true) (hb0 : by' ≠ 0) (hb : (2 * l2.length + 600) * by' ≤ 281474976710656) (hA : Arr w0 H q sz enc l2) :
  Eff P w0 (.call { callee := .builtin .append, args := #[x, y], argTypes := #[t, t2] }) ty L H (fun u H' => ∃ d', u = slV d' l2.length ∧ SlOk d' l2.length sz ∧ H' = slH d' (l2.flatMap enc) e ++ H) := by
 subst hk
 have h := eff_appN_at (P := P) (w0 := w0) (L := L) (ty := ty) (H := H) (x := x) (y := y) (t := t) (t2 := t2) (e := e) (enc := enc) l2 (R := H) (d := .nil) (l := []) (F := fun M' => M' ++ H) (show LocL ([] ++ H) [] H _ from .h) hx hy ht ht2 hz hi hby hzv hzs he h1 U hb0 (by simpa using hb) hA
 simpa using h
theorem eff_appTo {α : Type} {enc : α → List Value} (l2 : List α) {R : List (Nat × Obj)} {F : List (Nat × Obj) → List (Nat × Obj)} {d : Sl} {l : List α} {q : Option Addr} {k c sz by' : Nat} {z : Value} {i0 : TypeInfo} {e2 : TypeId} (hk : k = l2.length) (hl : LocL H (slH d (l.flatMap enc) e) R F) (hx : Ev L x (slV d l.length)) (hy : Ev L y (.slice q k c))
  (ht : ∀ w, (underlying t).run P w = .ok (.slice e) w) (ht2 : ∀ w, (underlying t2).run P w = .ok (.slice e2) w) (hz : ∀ w, (sizeOf e).run P w = .ok sz w) (hi : ∀ w, (typeInfo e).run P w = .ok i0 w) (hby : i0.bytes = by') (hzv : ∀ w, (zeroValue e).run P w = .ok z w) (hzs : z.cells.size = sz)
  (he : ∀ u, (enc u).length = sz) (h1 : ∀ u, (enc u).all oneB = true) (hok : SlOk d l.length sz) (hb0 : by' ≠ 0) (hb : (2 * (l.length + l2.length) + 600) * by' ≤ 281474976710656) (hA : Arr w0 H q sz enc l2) :
  Eff P w0 (.call { callee := .builtin .append, args := #[x, y], argTypes := #[t, t2] }) ty L H (fun u H' => ∃ d', u = slV d' (l ++ l2).length ∧ SlOk d' (l ++ l2).length sz ∧ H' = F (slH d' ((l ++ l2).flatMap enc) e)) := by
 subst hk
 rw [List.length_append]
 exact eff_appN_at l2 hl hx hy ht ht2 hz hi hby hzv hzs he h1 hok hb0 hb hA
theorem Ch {α : Type} {enc : α → List Value} (v : α) {R : List (Nat × Obj)} {F : List (Nat × Obj) → List (Nat × Obj)} {d : Sl} {l : List α} {n sz by' : Nat} {z : Value} {i0 : TypeInfo} {e2 : TypeId} (hl : LocL H (slH d (l.flatMap enc) e) R F) (hx : Ev L x (slV d l.length)) (hy : Ev L y (.slice (some ⟨n, 0, none⟩) 1 1))
  (ht : ∀ w, (underlying t).run P w = .ok (.slice e) w) (ht2 : ∀ w, (underlying t2).run P w = .ok (.slice e2) w) (hz : ∀ w, (sizeOf e).run P w = .ok sz w) (hi : ∀ w, (typeInfo e).run P w = .ok i0 w) (hby : i0.bytes = by') (hzv : ∀ w, (zeroValue e).run P w = .ok z w) (hzs : z.cells.size = sz)
  (he : ∀ u, (enc u).length = sz) (h1 : (enc v).all oneB = true) (hok : SlOk d l.length sz) (hb0 : by' ≠ 0) (hb : (2 * (l.length + 1) + 600) * by' ≤ 281474976710656) (hn : Cells w0 H n 0 (enc v) := by exact Bh) :
  Eff P w0 (.call { callee := .builtin .append, args := #[x, y], argTypes := #[t, t2] }) ty L H (fun u H' => ∃ d', u = slV d' (l ++ [v]).length ∧ SlOk d' (l ++ [v]).length sz ∧ H' = F (slH d' ((l ++ [v]).flatMap enc) e)) := by
 rw [List.length_append]
 exact By v hl hx hy ht ht2 hz hi hby hzv hzs he h1 hok hb0 hb hn
end
theorem Ea {d : Sl} {k sz : Nat} (h : SlOk d k sz) : k ≤ slC d := by
 cases d with
 | nil => have : k = 0 := h; rw [this]; exact Nat.zero_le _
 | blk n cap junk => exact h.1
def putF (n : Nat) : List Nat → List Nat
 | [] => [n]
 | x :: l => if x < n then x :: putF n l else if x = n then x :: l else n :: x :: l
theorem putF_in {n : Nat} : ∀ {l : List Nat} {k : Nat}, k < l.length → (∀ j, j < k → gd l j < n) → gd l k = n → putF n l = l
 | [], k, h, _, _ => by simp at h
 | x :: l, 0, _, _, h => by have h : x = n := h; subst h; simp [putF]
 | x :: l, k + 1, h, hj, hk => by
  have h0 : x < n := hj 0 (by omega)
  unfold putF
  rw [if_pos h0, putF_in (k := k) (by simpa using h) (fun j hj2 => hj (j + 1) (by omega)) hk]
theorem putF_at {n : Nat} : ∀ {l : List Nat} {k : Nat}, k ≤ l.length → (∀ j, j < k → gd l j < n) → (k < l.length → n < gd l k) → putF n l = l.take k ++ [n] ++ l.drop k
 | [], 0, _, _, _ => rfl
 | x :: l, 0, _, _, h => by
  have h : n < x := h (by simp)
  unfold putF
  rw [if_neg (by omega), if_neg (by omega)]; rfl
 | x :: l, k + 1, h, hj, hk => by
  have h0 : x < n := hj 0 (by omega)
  unfold putF
  rw [if_pos h0, putF_at (k := k) (by simpa using h) (fun j hj2 => hj (j + 1) (by omega)) fun h2 => hk (by simpa using h2)]
  simp
theorem putF_len (n : Nat) : ∀ l : List Nat, (putF n l).length ≤ l.length + 1
 | [] => by simp [putF]
 | x :: l => by
  have := putF_len n l
  unfold putF; split
  ·simp only [List.length_cons]; omega
  ·split <;> simp
def mergeF (a b : List Nat) : List Nat := b.foldl (fun l n => putF n l) a
theorem mergeF_take {a b : List Nat} {k : Nat} (h : k < b.length) : mergeF a (b.take (k + 1)) = putF (gd b k) (mergeF a (b.take k)) := by
 unfold mergeF; rw [Du h]; simp
theorem mergeF_len (a : List Nat) : ∀ b : List Nat, (mergeF a b).length ≤ a.length + b.length := fun b => by
 unfold mergeF
 induction b generalizing a with
 | nil => simp
 | cons x b ih =>
  simp only [List.foldl_cons, List.length_cons]
  have := ih (putF x a)
  have := putF_len x a
  omega
theorem has_r {w0 : World} {H : List (Nat × Obj)} (l : List Nat) (q : Option Addr) (c : Nat) (hA : Arr w0 H q 1 encU l) (hl : l.length ≤ 100000) (n : Nat) :
  FSpec Tryz.prog w0 59 #[.slice q l.length c, .int .i64 (n : Int)] H (Still (.bool (decide (n ∈ l))) H) := by
 refine A8 Tryz.func59 U ntmps59 U (Ag (Ab (y_ (Ad Ak) (Af (Ae (Ag (Ag (Ab (y_ (Ad Ak) (Af (Ae (Au ?_))) U)))))) U)))
 refine Ce (X := Nat) (V := fun k => [(5, .int .i64 (k : Nat))]) (C := [(0, _), (1, _)]) (φ := fun k => k ≤ l.length ∧ ∀ j, j < k → ¬ gd l j = n) (μ := fun k => l.length - k) (x0 := 0) ?_ ⟨Aa U, Aa U, trivial⟩ ⟨atd, trivial⟩ ?_
 ·exact ⟨Nat.zero_le _, fun j hj => by omega⟩
 rintro k ⟨hk, hno⟩
 refine Ag (Ag (Ab (y_ (Ac (T U)) (y_ (Ac (T U)) (y_ (Bm (T U) runUnderlying42) (y_ (Bz (T U) (T U)) (Af (Ae ?_)) U) U) U) U)))
 first | refine Ao (Aa U) (fun c9 => ?_) (fun c9 => ?_) | refine A3 (Aa U) (fun c9 => ?_) (fun c9 => ?_)
 ·refine A2 (Ae (Ag (Au (Ag (Ab (y_ (Ac (T U)) (y_ (Ac (T U)) (y_ (Bb (T U) (T U) runUnderlying42 sizeOf3 (by omega) (by first | exact rfl | exact hA.b (i := k) (by omega))) ?_ U) U) U))))))
  refine y_ (Aj (T U) isAgg3 (by first | exact c_o | exact cell1 ((hA.mono sbt).cs (i := k) (by omega)))) ?_ U
  refine y_ (Ac (T U)) (y_ (Bs (T U) (T U)) (Af (Ae ?_)) U) U
  first | refine Ao (Aa U) (fun c17 => ?_) (fun c17 => ?_) | refine A3 (Aa U) (fun c17 => ?_) (fun c17 => ?_)
  ·refine Ag (Ab (y_ (Ad Ak) (Af (Ae (A5 (Aq (An (B4 (Aq (An (A6 U (.tmp (Aa U) .nil) ?_))))))))) U))
   exact ⟨_, ⟨vbool (by symm; exact decide_eq_true (mem_gd.2 ⟨k, by omega, by omega⟩)), rfl⟩, sbt⟩
  ·refine A2 (Bl (Ae (Ab (y_ (Ac (T U)) (y_ (Bu (T U) Ak (by omega)) ?_ U) U))))
   refine y_ (Ad (T U)) (Af ?_) U
   refine Bo (k + 1) ?_ ?_ ⟨atd, trivial⟩ ⟨Aa U, Aa U, trivial⟩ ?_
   ·refine ⟨by omega, fun j hj => ?_⟩
    by_cases e : j = k
    ·subst e; omega
    ·exact hno j (by omega)
   ·first | omega | (simp only []; omega)
   ·exact sbt
 ·refine B1 (Ay (A0 (A1 (Ae (Ag (Ab (y_ (Ad Ak) (Af (Ae (A5 (A6 U (.tmp (Aa U) .nil) ?_)))) U)))))))
  exact ⟨_, ⟨vbool (by symm; exact decide_eq_false fun hm => by obtain ⟨j, h1, h2⟩ := mem_gd.1 hm; exact hno j (by omega) h2), rfl⟩, sbt⟩
theorem put_x {w0 : World} {H : List (Nat × Obj)} (l : List Nat) (q : Option Addr) (c : Nat) (hA : Arr w0 H q 1 encU l) (hc : l.length ≤ c) (hl : l.length ≤ 100000) (n : Nat) :
  FSpec Tryz.prog w0 108 #[.slice q l.length c, .int .i64 (n : Int)] H (fun v H' => ∃ (q' : Option Addr) (c' : Nat) (M : List (Nat × Obj)), (v = .slice q' (putF n l).length c' ∧ (putF n l).length ≤ c' ∧ ∀ X, Arr w0 X q 1 encU l → Arr w0 (M ++ X) q' 1 encU (putF n l)) ∧ H' = M ++ H) := by
 refine A8 Tryz.func108 U ntmps108 U (Ag (Ab (y_ (Ad Ak) (Af (Ae (Ag (Ab (y_ (Ad Ak) (Af (Ae (Ag (Au ?_)))) U))))) U)))
 refine Ce (X := Nat) (V := fun k => [(5, .int .i64 (k : Nat))]) (C := [(0, _), (1, _)]) (φ := fun k => k ≤ l.length ∧ ∀ j, j < k → gd l j < n) (μ := fun k => l.length - k) (x0 := 0) ?_ ⟨Aa U, Aa U, trivial⟩ ⟨atd, trivial⟩ ?_
 ·exact ⟨Nat.zero_le _, fun j hj => by omega⟩
 rintro k ⟨hk, hlt⟩
 refine Ag (Ag (Ab (y_ (Ac (T U)) (y_ (Ac (T U)) (y_ (Bm (T U) runUnderlying42) (y_ (Bz (T U) (T U)) (y_ (Ac (T U)) ?_ U) U) U) U) U)))
 first | refine Cb (s := 11) (Aa U) (fun c11 => ?_) (fun c11 => ?_) | refine Cw (s := 11) (Aa U) (fun c11 => ?_) (fun c11 => ?_)
 ·refine Bj (Ac (T U)) U (As U U (Aa U)) (Bj (Ac (T U)) U (As U U (Aa U)) (Bj (Bb (T U) (T U) runUnderlying42 sizeOf3 (by omega) (by first | exact rfl | exact hA.b (i := k) (by omega))) U (As U U (Aa U)) ?_))
  refine Bj (Aj (T U) isAgg3 (by first | exact c_o | exact cell1 ((hA.mono sbt).cs (i := k) (by omega)))) U (As U U (Aa U)) ?_
  refine Bj (Ac (T U)) U (As U U (Aa U)) (Bj (Bz (T U) (T U)) U (As U U (Aa U)) (y_ (A4 (T U) (T U)) (Af (Ae ?_)) U))
  first | refine Ao (Aa U) (fun c18 => ?_) (fun c18 => ?_) | refine A3 (Aa U) (fun c18 => ?_) (fun c18 => ?_)
  ·refine A2 (Ae (Au (Ab (y_ (Ac (T U)) (y_ (Bu (T U) Ak (by omega)) ?_ U) U))))
   refine y_ (Ad (T U)) (Af (Bl ?_)) U
   refine Bo (k + 1) ?_ ?_ ⟨atd, trivial⟩ ⟨Aa U, Aa U, trivial⟩ ?_
   ·refine ⟨by omega, fun j hj => ?_⟩
    by_cases e : j = k
    ·subst e; omega
    ·exact hlt j (by omega)
   ·first | omega | (simp only []; omega)
   ·exact sbt
  ·refine B1 (Ay (A0 (A1 (Ae (Ag (Ag (Ab (y_ (Ac (T U)) (y_ (Ac (T U)) (y_ (Bm (T U) runUnderlying42) (y_ (Bz (T U) (T U)) (y_ (Ac (T U)) ?_ U) U) U) U) U))))))))
   first | refine Cb (s := 25) (Aa U) (fun c25 => ?_) (fun c25 => ?_) | refine Cw (s := 25) (Aa U) (fun c25 => ?_) (fun c25 => ?_)
   ·refine Bj (Ac (T U)) U (As U U (Aa U)) (Bj (Ac (T U)) U (As U U (Aa U)) (Bj (Bb (T U) (T U) runUnderlying42 sizeOf3 (by omega) (by first | exact rfl | exact hA.b (i := k) (by omega))) U (As U U (Aa U)) ?_))
    refine Bj (Aj (T U) isAgg3 (by first | exact c_o | exact cell1 ((hA.mono sbt).cs (i := k) (by omega)))) U (As U U (Aa U)) ?_
    refine Bj (Ac (T U)) U (As U U (Aa U)) (Bj (Bs (T U) (T U)) U (As U U (Aa U)) (y_ (A4 (T U) (T U)) (Af (Ae (Bq [(0, _), (1, _), (5, _), (32, _)] ⟨Aa U, Aa U, Aa U, Aa U, trivial⟩ ?_))) U))
    first | refine Ao (Aa U) (fun c32 => ?_) (fun c32 => ?_) | refine A3 (Aa U) (fun c32 => ?_) (fun c32 => ?_)
    ·refine Ag (Ab (y_ (Ac (T U)) (y_ (Ad (T U)) (Af (Ae (A5 (An (A6 U (.tmp (Aa U) .nil) ?_))))) U) U))
     first | (have hp : putF n l = l := putF_in (k := k) (by omega) hlt (by omega); exact ⟨_, ⟨q, c, [], ⟨by rw [hp]; rfl, by rw [hp]; exact hc, fun X hX => by rw [hp]; exact hX⟩, rfl⟩, sbt⟩) | (have hp : putF n l = l.take k ++ [n] ++ l.drop k := putF_at (by omega) hlt (fun h => by omega); exact ⟨_, ⟨slQ d3, slC d3, slH d3 ((l.take k ++ [n] ++ l.drop k).flatMap encU) 3, ⟨by rw [hp]; rfl, by rw [hp]; exact Ea hd3, fun X _ => by rw [hp]; exact Ba (fun _ => rfl) hd3⟩, rfl⟩, sbt⟩)
    ·refine A2 (Ae (Ag (Ab (y_ (Ad Ak) (Af (Ae (Ag (Ab (y_ (Ac (T U)) (y_ (Ac (T U)) (y_ (Ac (T U)) (y_ (yl_sliceH  (T U) (T U) runUnderlying42 sizeOf3 (by omega)) ?_ U) U) U) U))))) U))))
     refine e_ (eff_appNil (l.take k) (by' := 8) (by first | exact (by simp; omega) | omega) (T U) (T U) runUnderlying42 runUnderlying42 sizeOf3 typeInfo3 U zeroValue3 U (fun _ => rfl) (fun _ => rfl) (by decide) (by simp; omega) ((hA.mono sbt).take k)) ?_ U
     rintro _ _ ⟨d1, rfl, hd1, rfl⟩
     refine y_ (Ad (T U)) (Af (Ae (Ag (Ab (y_ (Ac (T U)) (y_ (Ac (T U)) (e_ (Al (.cons (T U) .nil) (Cg _)) ?_ U) U) U))))) U
     rintro _ _ ⟨n41, rfl, rfl⟩
     refine e_ (Ch (n) (by' := 8) (by repeat (first | exact LocL.h | apply LocL.t | apply LocL.a)) (T U) (T U) runUnderlying42 runUnderlying42 sizeOf3 typeInfo3 U zeroValue3 U (fun _ => rfl) U hd1 (by decide) (by simp; omega)) ?_ U
     rintro _ _ ⟨d2, rfl, hd2, rfl⟩
     refine y_ (Ad (T U)) (Af (Ae (Ag (Ab (y_ (Ac (T U)) (y_ (Ac (T U)) (y_ (Ac (T U)) (y_ (yl_sliceL  (T U) (T U) runUnderlying42 sizeOf3 (by omega)) ?_ U) U) U) U))))) U
     refine e_ (eff_appTo (l.drop k) (by' := 8) (by first | exact (by simp) | omega) (by repeat (first | exact LocL.h | apply LocL.t | apply LocL.a)) (T U) (T U) runUnderlying42 runUnderlying42 sizeOf3 typeInfo3 U zeroValue3 U (fun _ => rfl) (fun _ => rfl) hd2 (by decide) (by simp; omega) ((hA.mono sbt).drop hc k)) ?_ U
     rintro _ _ ⟨d3, rfl, hd3, rfl⟩
     refine y_ (Ad (T U)) (Af (Ae (A5 (A6 U (.tmp (Aa U) .nil) ?_)))) U
     first | (have hp : putF n l = l := putF_in (k := k) (by omega) hlt (by omega); exact ⟨_, ⟨q, c, [], ⟨by rw [hp]; rfl, by rw [hp]; exact hc, fun X hX => by rw [hp]; exact hX⟩, rfl⟩, sbt⟩) | (have hp : putF n l = l.take k ++ [n] ++ l.drop k := putF_at (by omega) hlt (fun h => by omega); exact ⟨_, ⟨slQ d3, slC d3, slH d3 ((l.take k ++ [n] ++ l.drop k).flatMap encU) 3, ⟨by rw [hp]; rfl, by rw [hp]; exact Ea hd3, fun X _ => by rw [hp]; exact Ba (fun _ => rfl) hd3⟩, rfl⟩, sbt⟩)
   ·refine B9 (B9 (B9 (B9 (B9 (B9 (y_ (A9 (T U) Ak) (Af (Ae (Bq [(0, _), (1, _), (5, _), (32, _)] ⟨Aa U, Aa U, Aa U, Aa U, trivial⟩ ?_))) U) U U U U) U U U U) U U U U) U U U U) U U U U) U U U U
    first | refine Bc (Aa U) ?_ | refine Bc (Ai (Aa U) (vbool (decide_eq_false c32))) ?_
    refine A2 (Ae (Ag (Ab (y_ (Ad Ak) (Af (Ae (Ag (Ab (y_ (Ac (T U)) (y_ (Ac (T U)) (y_ (Ac (T U)) (y_ (yl_sliceH  (T U) (T U) runUnderlying42 sizeOf3 (by omega)) ?_ U) U) U) U))))) U))))
    refine e_ (eff_appNil (l.take k) (by' := 8) (by first | exact (by simp; omega) | omega) (T U) (T U) runUnderlying42 runUnderlying42 sizeOf3 typeInfo3 U zeroValue3 U (fun _ => rfl) (fun _ => rfl) (by decide) (by simp; omega) ((hA.mono sbt).take k)) ?_ U
    rintro _ _ ⟨d1, rfl, hd1, rfl⟩
    refine y_ (Ad (T U)) (Af (Ae (Ag (Ab (y_ (Ac (T U)) (y_ (Ac (T U)) (e_ (Al (.cons (T U) .nil) (Cg _)) ?_ U) U) U))))) U
    rintro _ _ ⟨n41, rfl, rfl⟩
    refine e_ (Ch (n) (by' := 8) (by repeat (first | exact LocL.h | apply LocL.t | apply LocL.a)) (T U) (T U) runUnderlying42 runUnderlying42 sizeOf3 typeInfo3 U zeroValue3 U (fun _ => rfl) U hd1 (by decide) (by simp; omega)) ?_ U
    rintro _ _ ⟨d2, rfl, hd2, rfl⟩
    refine y_ (Ad (T U)) (Af (Ae (Ag (Ab (y_ (Ac (T U)) (y_ (Ac (T U)) (y_ (Ac (T U)) (y_ (yl_sliceL  (T U) (T U) runUnderlying42 sizeOf3 (by omega)) ?_ U) U) U) U))))) U
    refine e_ (eff_appTo (l.drop k) (by' := 8) (by first | exact (by simp) | omega) (by repeat (first | exact LocL.h | apply LocL.t | apply LocL.a)) (T U) (T U) runUnderlying42 runUnderlying42 sizeOf3 typeInfo3 U zeroValue3 U (fun _ => rfl) (fun _ => rfl) hd2 (by decide) (by simp; omega) ((hA.mono sbt).drop hc k)) ?_ U
    rintro _ _ ⟨d3, rfl, hd3, rfl⟩
    refine y_ (Ad (T U)) (Af (Ae (A5 (A6 U (.tmp (Aa U) .nil) ?_)))) U
    first | (have hp : putF n l = l := putF_in (k := k) (by omega) hlt (by omega); exact ⟨_, ⟨q, c, [], ⟨by rw [hp]; rfl, by rw [hp]; exact hc, fun X hX => by rw [hp]; exact hX⟩, rfl⟩, sbt⟩) | (have hp : putF n l = l.take k ++ [n] ++ l.drop k := putF_at (by omega) hlt (fun h => by omega); exact ⟨_, ⟨slQ d3, slC d3, slH d3 ((l.take k ++ [n] ++ l.drop k).flatMap encU) 3, ⟨by rw [hp]; rfl, by rw [hp]; exact Ea hd3, fun X _ => by rw [hp]; exact Ba (fun _ => rfl) hd3⟩, rfl⟩, sbt⟩)
 ·refine B9 (B9 (B9 (B9 (B9 (B9 (y_ (A9 (T U) Ak) (Af (Ae ?_)) U) U U U U) U U U U) U U U U) U U U U) U U U U) U U U U
  first | refine Bc (Aa U) ?_ | refine Bc (Ai (Aa U) (vbool (decide_eq_false c18))) ?_
  refine B1 (Ay (A0 (A1 (Ae (Ag (Ag (Ab (y_ (Ac (T U)) (y_ (Ac (T U)) (y_ (Bm (T U) runUnderlying42) (y_ (Bz (T U) (T U)) (y_ (Ac (T U)) ?_ U) U) U) U) U))))))))
  first | refine Cb (s := 25) (Aa U) (fun c25 => ?_) (fun c25 => ?_) | refine Cw (s := 25) (Aa U) (fun c25 => ?_) (fun c25 => ?_)
  ·refine Bj (Ac (T U)) U (As U U (Aa U)) (Bj (Ac (T U)) U (As U U (Aa U)) (Bj (Bb (T U) (T U) runUnderlying42 sizeOf3 (by omega) (by first | exact rfl | exact hA.b (i := k) (by omega))) U (As U U (Aa U)) ?_))
   refine Bj (Aj (T U) isAgg3 (by first | exact c_o | exact cell1 ((hA.mono sbt).cs (i := k) (by omega)))) U (As U U (Aa U)) ?_
   refine Bj (Ac (T U)) U (As U U (Aa U)) (Bj (Bs (T U) (T U)) U (As U U (Aa U)) (y_ (A4 (T U) (T U)) (Af (Ae (Bq [(0, _), (1, _), (5, _), (32, _)] ⟨Aa U, Aa U, Aa U, Aa U, trivial⟩ ?_))) U))
   first | refine Ao (Aa U) (fun c32 => ?_) (fun c32 => ?_) | refine A3 (Aa U) (fun c32 => ?_) (fun c32 => ?_)
   ·refine Ag (Ab (y_ (Ac (T U)) (y_ (Ad (T U)) (Af (Ae (A5 (An (A6 U (.tmp (Aa U) .nil) ?_))))) U) U))
    first | (have hp : putF n l = l := putF_in (k := k) (by omega) hlt (by omega); exact ⟨_, ⟨q, c, [], ⟨by rw [hp]; rfl, by rw [hp]; exact hc, fun X hX => by rw [hp]; exact hX⟩, rfl⟩, sbt⟩) | (have hp : putF n l = l.take k ++ [n] ++ l.drop k := putF_at (by omega) hlt (fun h => by omega); exact ⟨_, ⟨slQ d3, slC d3, slH d3 ((l.take k ++ [n] ++ l.drop k).flatMap encU) 3, ⟨by rw [hp]; rfl, by rw [hp]; exact Ea hd3, fun X _ => by rw [hp]; exact Ba (fun _ => rfl) hd3⟩, rfl⟩, sbt⟩)
   ·refine A2 (Ae (Ag (Ab (y_ (Ad Ak) (Af (Ae (Ag (Ab (y_ (Ac (T U)) (y_ (Ac (T U)) (y_ (Ac (T U)) (y_ (yl_sliceH  (T U) (T U) runUnderlying42 sizeOf3 (by omega)) ?_ U) U) U) U))))) U))))
    refine e_ (eff_appNil (l.take k) (by' := 8) (by first | exact (by simp; omega) | omega) (T U) (T U) runUnderlying42 runUnderlying42 sizeOf3 typeInfo3 U zeroValue3 U (fun _ => rfl) (fun _ => rfl) (by decide) (by simp; omega) ((hA.mono sbt).take k)) ?_ U
    rintro _ _ ⟨d1, rfl, hd1, rfl⟩
    refine y_ (Ad (T U)) (Af (Ae (Ag (Ab (y_ (Ac (T U)) (y_ (Ac (T U)) (e_ (Al (.cons (T U) .nil) (Cg _)) ?_ U) U) U))))) U
    rintro _ _ ⟨n41, rfl, rfl⟩
    refine e_ (Ch (n) (by' := 8) (by repeat (first | exact LocL.h | apply LocL.t | apply LocL.a)) (T U) (T U) runUnderlying42 runUnderlying42 sizeOf3 typeInfo3 U zeroValue3 U (fun _ => rfl) U hd1 (by decide) (by simp; omega)) ?_ U
    rintro _ _ ⟨d2, rfl, hd2, rfl⟩
    refine y_ (Ad (T U)) (Af (Ae (Ag (Ab (y_ (Ac (T U)) (y_ (Ac (T U)) (y_ (Ac (T U)) (y_ (yl_sliceL  (T U) (T U) runUnderlying42 sizeOf3 (by omega)) ?_ U) U) U) U))))) U
    refine e_ (eff_appTo (l.drop k) (by' := 8) (by first | exact (by simp) | omega) (by repeat (first | exact LocL.h | apply LocL.t | apply LocL.a)) (T U) (T U) runUnderlying42 runUnderlying42 sizeOf3 typeInfo3 U zeroValue3 U (fun _ => rfl) (fun _ => rfl) hd2 (by decide) (by simp; omega) ((hA.mono sbt).drop hc k)) ?_ U
    rintro _ _ ⟨d3, rfl, hd3, rfl⟩
    refine y_ (Ad (T U)) (Af (Ae (A5 (A6 U (.tmp (Aa U) .nil) ?_)))) U
    first | (have hp : putF n l = l := putF_in (k := k) (by omega) hlt (by omega); exact ⟨_, ⟨q, c, [], ⟨by rw [hp]; rfl, by rw [hp]; exact hc, fun X hX => by rw [hp]; exact hX⟩, rfl⟩, sbt⟩) | (have hp : putF n l = l.take k ++ [n] ++ l.drop k := putF_at (by omega) hlt (fun h => by omega); exact ⟨_, ⟨slQ d3, slC d3, slH d3 ((l.take k ++ [n] ++ l.drop k).flatMap encU) 3, ⟨by rw [hp]; rfl, by rw [hp]; exact Ea hd3, fun X _ => by rw [hp]; exact Ba (fun _ => rfl) hd3⟩, rfl⟩, sbt⟩)
  ·refine B9 (B9 (B9 (B9 (B9 (B9 (y_ (A9 (T U) Ak) (Af (Ae (Bq [(0, _), (1, _), (5, _), (32, _)] ⟨Aa U, Aa U, Aa U, Aa U, trivial⟩ ?_))) U) U U U U) U U U U) U U U U) U U U U) U U U U) U U U U
   first | refine Bc (Aa U) ?_ | refine Bc (Ai (Aa U) (vbool (decide_eq_false c32))) ?_
   refine A2 (Ae (Ag (Ab (y_ (Ad Ak) (Af (Ae (Ag (Ab (y_ (Ac (T U)) (y_ (Ac (T U)) (y_ (Ac (T U)) (y_ (yl_sliceH  (T U) (T U) runUnderlying42 sizeOf3 (by omega)) ?_ U) U) U) U))))) U))))
   refine e_ (eff_appNil (l.take k) (by' := 8) (by first | exact (by simp; omega) | omega) (T U) (T U) runUnderlying42 runUnderlying42 sizeOf3 typeInfo3 U zeroValue3 U (fun _ => rfl) (fun _ => rfl) (by decide) (by simp; omega) ((hA.mono sbt).take k)) ?_ U
   rintro _ _ ⟨d1, rfl, hd1, rfl⟩
   refine y_ (Ad (T U)) (Af (Ae (Ag (Ab (y_ (Ac (T U)) (y_ (Ac (T U)) (e_ (Al (.cons (T U) .nil) (Cg _)) ?_ U) U) U))))) U
   rintro _ _ ⟨n41, rfl, rfl⟩
   refine e_ (Ch (n) (by' := 8) (by repeat (first | exact LocL.h | apply LocL.t | apply LocL.a)) (T U) (T U) runUnderlying42 runUnderlying42 sizeOf3 typeInfo3 U zeroValue3 U (fun _ => rfl) U hd1 (by decide) (by simp; omega)) ?_ U
   rintro _ _ ⟨d2, rfl, hd2, rfl⟩
   refine y_ (Ad (T U)) (Af (Ae (Ag (Ab (y_ (Ac (T U)) (y_ (Ac (T U)) (y_ (Ac (T U)) (y_ (yl_sliceL  (T U) (T U) runUnderlying42 sizeOf3 (by omega)) ?_ U) U) U) U))))) U
   refine e_ (eff_appTo (l.drop k) (by' := 8) (by first | exact (by simp) | omega) (by repeat (first | exact LocL.h | apply LocL.t | apply LocL.a)) (T U) (T U) runUnderlying42 runUnderlying42 sizeOf3 typeInfo3 U zeroValue3 U (fun _ => rfl) (fun _ => rfl) hd2 (by decide) (by simp; omega) ((hA.mono sbt).drop hc k)) ?_ U
   rintro _ _ ⟨d3, rfl, hd3, rfl⟩
   refine y_ (Ad (T U)) (Af (Ae (A5 (A6 U (.tmp (Aa U) .nil) ?_)))) U
   first | (have hp : putF n l = l := putF_in (k := k) (by omega) hlt (by omega); exact ⟨_, ⟨q, c, [], ⟨by rw [hp]; rfl, by rw [hp]; exact hc, fun X hX => by rw [hp]; exact hX⟩, rfl⟩, sbt⟩) | (have hp : putF n l = l.take k ++ [n] ++ l.drop k := putF_at (by omega) hlt (fun h => by omega); exact ⟨_, ⟨slQ d3, slC d3, slH d3 ((l.take k ++ [n] ++ l.drop k).flatMap encU) 3, ⟨by rw [hp]; rfl, by rw [hp]; exact Ea hd3, fun X _ => by rw [hp]; exact Ba (fun _ => rfl) hd3⟩, rfl⟩, sbt⟩)
theorem merge_x {w0 : World} {H : List (Nat × Obj)} (a : List Nat) (q : Option Addr) (c : Nat) (hA : Arr w0 H q 1 encU a) (hc : a.length ≤ c) (b : List Nat) (q2 : Option Addr) (c2 : Nat) (hB : Arr w0 H q2 1 encU b) (hl : a.length + b.length ≤ 100000) :
  FSpec Tryz.prog w0 111 #[.slice q a.length c, .slice q2 b.length c2] H (fun v H' => ∃ (q' : Option Addr) (c' : Nat) (M : List (Nat × Obj)), (v = .slice q' (mergeF a b).length c' ∧ (mergeF a b).length ≤ c' ∧ ∀ X, Arr w0 X q 1 encU a → Arr w0 (M ++ X) q' 1 encU (mergeF a b)) ∧ H' = M ++ H) := by
 refine A8 Tryz.func111 U ntmps111 U (Ag (Ab (y_ (Ad Ak) (Af (Ae (Ag (Ag (Ab (y_ (Ad Ak) (Af (Ae (Au ?_))) U)))))) U)))
 refine Cc (X := Nat × Option Addr × Nat × List (Nat × Obj)) (V := fun ⟨k, q1, c1, M⟩ => [(5, .int .i64 (k : Nat)), (0, .slice q1 (mergeF a (b.take k)).length c1)]) (C := [(1, _)]) (G := fun ⟨k, q1, c1, M⟩ => M ++ H) (φ := fun ⟨k, q1, c1, M⟩ => k ≤ b.length ∧ (mergeF a (b.take k)).length ≤ c1 ∧ ∀ X, Arr w0 X q 1 encU a → Arr w0 (M ++ X) q1 1 encU (mergeF a (b.take k))) (μ := fun ⟨k, q1, c1, M⟩ => b.length - k) (x0 := (0, q, c, [])) ?_ ⟨Aa rfl, trivial⟩ ⟨(by first | exact Aa rfl | (refine Ai (Aa rfl) (vint ?_); omega) | (refine Ai (Aa rfl) ?_; simp; done) | (refine Ai (Aa rfl) ?_; exact by rw [hmt])), (by first | exact Aa rfl | (refine Ai (Aa rfl) (vint ?_); omega) | (refine Ai (Aa rfl) ?_; simp; done) | (refine Ai (Aa rfl) ?_; exact by rw [hmt])), trivial⟩ sb0 ?_
 ·exact ⟨Nat.zero_le _, hc, fun X hX => hX⟩
 rintro ⟨k, q1, c1, M⟩ ⟨hk, hc1, hA1⟩
 have hml := mergeF_len a (b.take k)
 rw [List.length_take] at hml
 refine Ag (Ag (Ab (y_ (Ac (T U)) (y_ (Ac (T U)) (y_ (Bm (T U) runUnderlying42) (y_ (Bz (T U) (T U)) (Af (Ae ?_)) U) U) U) U)))
 first | refine Ao (Aa U) (fun c9 => ?_) (fun c9 => ?_) | refine A3 (Aa U) (fun c9 => ?_) (fun c9 => ?_)
 ·refine A2 (Ae (Ag (Au (Ab (y_ (Ac (T U)) (y_ (Ac (T U)) (y_ (Ac (T U)) (y_ (Bb (T U) (T U) runUnderlying42 sizeOf3 (by omega) (by first | exact rfl | exact hB.b (i := k) (by omega))) ?_ U) U) U) U)))))
  refine y_ (Aj (T U) isAgg3 (by first | exact c_o | exact cell1 ((hB.mono sbt).cs (i := k) (by omega)))) ?_ U
  refine e_ (Aw (.cons (T U) (.cons (T U) .nil)) call108 (put_x _ q1 c1 (hA1 _ hA) hc1 (by omega) (gd b k))) ?_ U
  rintro _ _ ⟨q3, c3, M3, ⟨rfl, hc3, hA3⟩, rfl⟩
  refine y_ (Ad (T U)) (Af (Bl (Ae (Ab (y_ (Ac (T U)) (y_ (Bu (T U) Ak (by omega)) ?_ U) U))))) U
  refine y_ (Ad (T U)) (Af ?_) U
  have hmt := mergeF_take (a := a) (b := b) (k := k) (by omega)
  refine Bo ((k + 1, q3, c3, M3 ++ M)) ?_ ?_ ⟨(by first | exact Aa U | (refine Ai (Aa U) (vint ?_); omega) | (refine Ai (Aa U) ?_; simp; done) | (refine Ai (Aa U) ?_; exact by rw [hmt])), (by first | exact Aa U | (refine Ai (Aa U) (vint ?_); omega) | (refine Ai (Aa U) ?_; simp; done) | (refine Ai (Aa U) ?_; exact by rw [hmt])), trivial⟩ ⟨Aa U, trivial⟩ ?_
  ·exact ⟨by omega, by rw [hmt]; exact hc3, fun X hX => by rw [hmt, List.append_assoc]; exact hA3 _ (hA1 X hX)⟩
  ·first | omega | (simp only []; omega)
  ·show (M3 ++ M ++ H).Sublist _; rw [List.append_assoc]; exact sbt
 ·refine B1 (Ay (A0 (A1 (Ae (Ag (Ab (y_ (Ac (T U)) (y_ (Ad (T U)) (Af (Ae (A5 (A6 U (.tmp (Aa U) .nil) ?_)))) U) U)))))))
  have hb : b.take k = b := List.take_of_length_le (by omega)
  rw [hb] at hc1 hA1 ⊢
  exact ⟨_, ⟨q1, c1, M, ⟨rfl, hc1, hA1⟩, rfl⟩, sbt⟩
theorem merge_r {w0 : World} {H : List (Nat × Obj)} (a : List Nat) (q : Option Addr) (c : Nat) (hA : Arr w0 H q 1 encU a) (hc : a.length ≤ c) (b : List Nat) (q2 : Option Addr) (c2 : Nat) (hB : Arr w0 H q2 1 encU b) (hl : a.length + b.length ≤ 100000) :
  FSpec Tryz.prog w0 111 #[.slice q a.length c, .slice q2 b.length c2] H (fun v H' => ∃ (q' : Option Addr) (c' : Nat) (M : List (Nat × Obj)), (v = .slice q' (mergeF a b).length c' ∧ (mergeF a b).length ≤ c' ∧ Arr w0 (M ++ H) q' 1 encU (mergeF a b)) ∧ H' = M ++ H) :=
 (merge_x a q c hA hc b q2 c2 hB hl).mono fun v H' ⟨q', c', M, ⟨h1, h2, h3⟩, h4⟩ => ⟨q', c', M, ⟨h1, h2, h3 H hA⟩, h4⟩
end Go.Proofs.YtkdolgnpkjihpaaGreatDoor
namespace Go.Proofs.YtkdolgnpkjihpaaGreatDoor
open _root_.Go.Proofs.Tryz
open Go.RowKit
set_option linter.unusedVariables false
set_option linter.unusedSimpArgs false
inductive Lang : Re → List ByteArray → Prop
 | emp : Lang .emp []
 | nod (s) : Lang (.nod s) [s]
 | any (s) : Lang .any [s]
 | seq {a b u v} : Lang a u → Lang b v → Lang (.seq a b) (u ++ v)
 | altl {a b u} : Lang a u → Lang (.alt a b) u
 | altr {a b u} : Lang b u → Lang (.alt a b) u
 | stn {a} : Lang (.star a) []
 | stc {a u v} : Lang a u → Lang (.star a) v → Lang (.star a) (u ++ v)
def nulE : Re → Bool
 | .emp => true
 | .nod _ => false
 | .any => false
 | .seq a b => nulE a && nulE b
 | .alt a b => nulE a || nulE b
 | .star _ => true
def fiE : Re → Nat → Nat → Prop
 | .emp, _, _ => False
 | .nod _, n, p => p = n
 | .any, n, p => p = n
 | .seq a b, n, p => fiE a n p ∨ (nulE a = true ∧ fiE b (n + a.lv) p)
 | .alt a b, n, p => fiE a n p ∨ fiE b (n + a.lv) p
 | .star a, n, p => fiE a n p
def laE : Re → Nat → Nat → Prop
 | .emp, _, _ => False
 | .nod _, n, p => p = n
 | .any, n, p => p = n
 | .seq a b, n, p => laE b (n + a.lv) p ∨ (nulE b = true ∧ laE a n p)
 | .alt a b, n, p => laE a n p ∨ laE b (n + a.lv) p
 | .star a, n, p => laE a n p
def foE : Re → Nat → Nat → Nat → Prop
 | .emp, _, _, _ => False
 | .nod _, _, _, _ => False
 | .any, _, _, _ => False
 | .seq a b, n, p, q => foE a n p q ∨ foE b (n + a.lv) p q ∨ (laE a n p ∧ fiE b (n + a.lv) q)
 | .alt a b, n, p, q => foE a n p q ∨ foE b (n + a.lv) p q
 | .star a, n, p, q => foE a n p q ∨ (laE a n p ∧ fiE a n q)
theorem D7 : ∀ {e : Re} {n p : Nat}, fiE e n p → n ≤ p ∧ p < n + e.lv
 | .emp, _, _, h => by cases h
 | .nod _, _, _, h => by simp only [fiE, Re.lv] at *; omega
 | .any, _, _, h => by simp only [fiE, Re.lv] at *; omega
 | .seq a b, _, _, h => by
  simp only [Re.lv]
  rcases h with h | ⟨_, h⟩
  ·have := D7 h; omega
  ·have := D7 h; omega
 | .alt a b, _, _, h => by
  simp only [Re.lv]
  rcases h with h | h
  ·have := D7 h; omega
  ·have := D7 h; omega
 | .star a, _, _, h => D7 (e := a) h
theorem D4 : ∀ {e : Re} {n p : Nat}, laE e n p → n ≤ p ∧ p < n + e.lv
 | .emp, _, _, h => by cases h
 | .nod _, _, _, h => by simp only [laE, Re.lv] at *; omega
 | .any, _, _, h => by simp only [laE, Re.lv] at *; omega
 | .seq a b, _, _, h => by
  simp only [Re.lv]
  rcases h with h | ⟨_, h⟩
  ·have := D4 h; omega
  ·have := D4 h; omega
 | .alt a b, _, _, h => by
  simp only [Re.lv]
  rcases h with h | h
  ·have := D4 h; omega
  ·have := D4 h; omega
 | .star a, _, _, h => D4 (e := a) h
theorem Dt : ∀ {e : Re} {n p q : Nat}, foE e n p q → (n ≤ p ∧ p < n + e.lv) ∧ (n ≤ q ∧ q < n + e.lv)
 | .emp, _, _, _, h => by cases h
 | .nod _, _, _, _, h => by cases h
 | .any, _, _, _, h => by cases h
 | .seq a b, _, _, _, h => by
  simp only [Re.lv]
  rcases h with h | h | ⟨h1, h2⟩
  ·have := Dt h; omega
  ·have := Dt h; omega
  ·have := D4 h1; have := D7 h2; omega
 | .alt a b, _, _, _, h => by
  simp only [Re.lv]
  rcases h with h | h
  ·have := Dt h; omega
  ·have := Dt h; omega
 | .star a, n, _, _, h => by
  rcases h with h | ⟨h1, h2⟩
  ·exact Dt (e := a) h
  ·have := D4 h1; have := D7 h2; simp only [Re.lv]; omega
inductive Rw (F : Nat → Nat → Prop) (La : Nat → Prop) (mt : Nat → ByteArray → Prop) : Nat → List ByteArray → Prop
 | nil {p} : La p → Rw F La mt p []
 | cons {p q s w} : F p q → mt q s → Rw F La mt q w → Rw F La mt p (s :: w)
theorem Rw.app {F F' : Nat → Nat → Prop} {La La' : Nat → Prop} {mt : Nat → ByteArray → Prop} {p : Nat} {u v : List ByteArray} (h : Rw F La mt p u) (hF : ∀ p q, F p q → F' p q) (hL : ∀ p, La p → Rw F' La' mt p v) : Rw F' La' mt p (u ++ v) := by
 induction h with
 | nil h => exact hL _ h
 | cons h1 h2 _ ih => exact .cons (hF _ _ h1) h2 ih
theorem Rw.mono {F F' : Nat → Nat → Prop} {La La' : Nat → Prop} {mt : Nat → ByteArray → Prop} {p : Nat} {u : List ByteArray} (h : Rw F La mt p u) (hF : ∀ p q, F p q → F' p q) (hL : ∀ p, La p → La' p) : Rw F' La' mt p u := by
 have := h.app (v := []) hF fun p hp => .nil (hL p hp)
 rwa [List.append_nil] at this
def Thr (mt : Nat → ByteArray → Prop) (e : Re) (n : Nat) (w : List ByteArray) : Prop := (w = [] ∧ nulE e = true) ∨ ∃ p s v, w = s :: v ∧ fiE e n p ∧ mt p s ∧ Rw (foE e n) (laE e n) mt p v
def Mts (mt : Nat → ByteArray → Prop) : Re → Nat → Prop
 | .emp, _ => True
 | .nod x, n => ∀ s, mt n s ↔ s = x
 | .any, n => ∀ s, mt n s
 | .seq a b, n => Mts mt a n ∧ Mts mt b (n + a.lv)
 | .alt a b, n => Mts mt a n ∧ Mts mt b (n + a.lv)
 | .star a, n => Mts mt a n
variable {mt : Nat → ByteArray → Prop}
theorem Thr.seq {a b : Re} {n : Nat} {u v : List ByteArray} (h1 : Thr mt a n u) (h2 : Thr mt b (n + a.lv) v) : Thr mt (.seq a b) n (u ++ v) := by
 rcases h2 with ⟨rfl, hb⟩ | ⟨q, t, v', rfl, hq, hm, hr⟩
 ·rw [List.append_nil]
  rcases h1 with ⟨rfl, ha⟩ | ⟨p, s, u', rfl, hp, hm, hr⟩
  ·exact .inl ⟨rfl, by simp [nulE, ha, hb]⟩
  ·exact .inr ⟨p, s, u', rfl, .inl hp, hm, hr.mono (fun _ _ h => .inl h) fun _ h => .inr ⟨hb, h⟩⟩
 ·have hr' : Rw (foE (.seq a b) n) (laE (.seq a b) n) mt q v' := hr.mono (fun _ _ h => .inr (.inl h)) fun _ h => .inl h
  rcases h1 with ⟨rfl, ha⟩ | ⟨p, s, u', rfl, hp, hm1, hr1⟩
  ·exact .inr ⟨q, t, v', rfl, .inr ⟨ha, hq⟩, hm, hr'⟩
  ·exact .inr ⟨p, s, u' ++ t :: v', rfl, .inl hp, hm1, hr1.app (fun _ _ h => .inl h) fun p' h => .cons (.inr (.inr ⟨h, hq⟩)) hm hr'⟩
theorem Thr.star {a : Re} {n : Nat} {u v : List ByteArray} (h1 : Thr mt a n u) (h2 : Thr mt (.star a) n v) : Thr mt (.star a) n (u ++ v) := by
 rcases h1 with ⟨rfl, ha⟩ | ⟨p, s, u', rfl, hp, hm1, hr1⟩
 ·exact h2
 ·rcases h2 with ⟨rfl, hb⟩ | ⟨q, t, v', rfl, hq, hm, hr⟩
  ·rw [List.append_nil]
   exact .inr ⟨p, s, u', rfl, hp, hm1, hr1.mono (fun _ _ h => .inl h) fun _ h => h⟩
  ·exact .inr ⟨p, s, u' ++ t :: v', rfl, hp, hm1, hr1.app (fun _ _ h => .inl h) fun p' h => .cons (.inr ⟨h, hq⟩) hm hr⟩
theorem thr_of {e : Re} {w : List ByteArray} (h : Lang e w) : ∀ {n : Nat}, Mts mt e n → Thr mt e n w := by
 induction h with
 | emp => exact fun _ => .inl ⟨rfl, rfl⟩
 | nod s => exact fun hm => .inr ⟨_, s, [], rfl, rfl, (hm s).2 rfl, .nil rfl⟩
 | any s => exact fun hm => .inr ⟨_, s, [], rfl, rfl, hm s, .nil rfl⟩
 | seq _ _ ih1 ih2 => exact fun hm => .seq (ih1 hm.1) (ih2 hm.2)
 | altl _ ih =>
  intro n hm
  rcases ih hm.1 with ⟨rfl, ha⟩ | ⟨p, s, v, rfl, hp, hm1, hr⟩
  ·exact .inl ⟨rfl, by simp [nulE, ha]⟩
  ·exact .inr ⟨p, s, v, rfl, .inl hp, hm1, hr.mono (fun _ _ h => .inl h) fun _ h => .inl h⟩
 | altr _ ih =>
  intro n hm
  rcases ih hm.2 with ⟨rfl, ha⟩ | ⟨p, s, v, rfl, hp, hm1, hr⟩
  ·exact .inl ⟨rfl, by simp [nulE, ha]⟩
  ·exact .inr ⟨p, s, v, rfl, .inr hp, hm1, hr.mono (fun _ _ h => .inr h) fun _ h => .inr h⟩
 | stn => exact fun _ => .inl ⟨rfl, rfl⟩
 | stc _ _ ih1 ih2 => exact fun hm => .star (ih1 hm) (ih2 hm)
theorem rw_r {a b : Re} {n p : Nat} {w : List ByteArray} (h : Rw (foE (.seq a b) n) (laE (.seq a b) n) mt p w) : n + a.lv ≤ p → Rw (foE b (n + a.lv)) (laE b (n + a.lv)) mt p w := by
 induction h with
 | nil h =>
  intro hp
  rcases h with h | ⟨_, h⟩
  ·exact .nil h
  ·have := D4 h; omega
 | cons h1 h2 _ ih =>
  intro hp
  rcases h1 with h1 | h1 | ⟨h1, _⟩
  ·have := Dt h1; omega
  ·exact .cons h1 h2 (ih (Dt h1).2.1)
  ·have := D4 h1; omega
theorem rw_alt1 {a b : Re} {n p : Nat} {w : List ByteArray} (h : Rw (foE (.alt a b) n) (laE (.alt a b) n) mt p w) : p < n + a.lv → Rw (foE a n) (laE a n) mt p w := by
 induction h with
 | nil h =>
  intro hp
  rcases h with h | h
  ·exact .nil h
  ·have := D4 h; omega
 | cons h1 h2 _ ih =>
  intro hp
  rcases h1 with h1 | h1
  ·exact .cons h1 h2 (ih (Dt h1).2.2)
  ·have := Dt h1; omega
theorem rw_alt2 {a b : Re} {n p : Nat} {w : List ByteArray} (h : Rw (foE (.alt a b) n) (laE (.alt a b) n) mt p w) : n + a.lv ≤ p → Rw (foE b (n + a.lv)) (laE b (n + a.lv)) mt p w := by
 induction h with
 | nil h =>
  intro hp
  rcases h with h | h
  ·have := D4 h; omega
  ·exact .nil h
 | cons h1 h2 _ ih =>
  intro hp
  rcases h1 with h1 | h1
  ·have := Dt h1; omega
  ·exact .cons h1 h2 (ih (Dt h1).2.1)
theorem lang_of : ∀ {e : Re} {n : Nat} {w : List ByteArray}, Mts mt e n → Thr mt e n w → Lang e w
 | .emp, n, w, _, h => by
  rcases h with ⟨rfl, _⟩ | ⟨p, s, v, rfl, hp, _⟩
  ·exact .emp
  ·cases hp
 | .nod x, n, w, hm, h => by
  rcases h with ⟨rfl, h⟩ | ⟨p, s, v, rfl, hp, hs, hr⟩
  ·cases h
  ·simp only [fiE] at hp; subst hp
   have := (hm s).1 hs; subst this
   cases hr with
   | nil _ => exact .nod _
   | cons h _ _ => cases h
 | .any, n, w, hm, h => by
  rcases h with ⟨rfl, h⟩ | ⟨p, s, v, rfl, hp, hs, hr⟩
  ·cases h
  ·cases hr with
   | nil _ => exact .any _
   | cons h _ _ => cases h
 | .seq a b, n, w, hm, h => by
  have iha := fun {w} => lang_of (e := a) (w := w) hm.1
  have ihb := fun {w} => lang_of (e := b) (w := w) hm.2
  have key : ∀ {p : Nat} {w : List ByteArray}, Rw (foE (.seq a b) n) (laE (.seq a b) n) mt p w → p < n + a.lv → ∃ u v, w = u ++ v ∧ Rw (foE a n) (laE a n) mt p u ∧ Lang b v := by
   intro p w h
   induction h with
   | nil h =>
    intro hp
    rcases h with h | ⟨hb, h⟩
    ·have := D4 h; omega
    ·exact ⟨[], [], rfl, .nil h, ihb (.inl ⟨rfl, hb⟩)⟩
   | @cons p q s w h1 h2 h3 ih =>
    intro hp
    rcases h1 with h1 | h1 | ⟨h1, h4⟩
    ·obtain ⟨u, v, rfl, e1, e2⟩ := ih (Dt h1).2.2
     exact ⟨s :: u, v, rfl, .cons h1 h2 e1, e2⟩
    ·have := Dt h1; omega
    ·exact ⟨[], s :: w, rfl, .nil h1, ihb (.inr ⟨q, s, w, rfl, h4, h2, rw_r h3 (D7 h4).1⟩)⟩
  rcases h with ⟨rfl, h⟩ | ⟨p, s, v, rfl, hp, hs, hr⟩
  ·simp only [nulE, Bool.and_eq_true] at h
   exact .seq (u := []) (iha (.inl ⟨rfl, h.1⟩)) (ihb (.inl ⟨rfl, h.2⟩))
  ·rcases hp with hp | ⟨ha, hp⟩
   ·obtain ⟨u, v, rfl, e1, e2⟩ := key hr (D7 hp).2
    exact .seq (u := s :: u) (iha (.inr ⟨p, s, u, rfl, hp, hs, e1⟩)) e2
   ·exact .seq (u := []) (iha (.inl ⟨rfl, ha⟩)) (ihb (.inr ⟨p, s, v, rfl, hp, hs, rw_r hr (D7 hp).1⟩))
 | .alt a b, n, w, hm, h => by
  rcases h with ⟨rfl, h⟩ | ⟨p, s, v, rfl, hp, hs, hr⟩
  ·simp only [nulE, Bool.or_eq_true] at h
   rcases h with h | h
   ·exact .altl (lang_of hm.1 (.inl ⟨rfl, h⟩))
   ·exact .altr (lang_of hm.2 (.inl ⟨rfl, h⟩))
  ·rcases hp with hp | hp
   ·exact .altl (lang_of hm.1 (.inr ⟨p, s, v, rfl, hp, hs, rw_alt1 hr (D7 hp).2⟩))
   ·exact .altr (lang_of hm.2 (.inr ⟨p, s, v, rfl, hp, hs, rw_alt2 hr (D7 hp).1⟩))
 | .star a, n, w, hm, h => by
  have iha := fun {w} => lang_of (e := a) (n := n) (w := w) hm
  have key : ∀ {p : Nat} {w : List ByteArray}, Rw (foE (.star a) n) (laE (.star a) n) mt p w → ∃ u v, w = u ++ v ∧ Rw (foE a n) (laE a n) mt p u ∧ Lang (.star a) v := by
   intro p w h
   induction h with
   | nil h => exact ⟨[], [], rfl, .nil h, .stn⟩
   | @cons p q s w h1 h2 h3 ih =>
    obtain ⟨u, v, rfl, e1, e2⟩ := ih
    rcases h1 with h1 | ⟨h1, h4⟩
    ·exact ⟨s :: u, v, rfl, .cons h1 h2 e1, e2⟩
    ·exact ⟨[], s :: (u ++ v), rfl, .nil h1, .stc (u := s :: u) (iha (.inr ⟨q, s, u, rfl, h4, h2, e1⟩)) e2⟩
  rcases h with ⟨rfl, h⟩ | ⟨p, s, v, rfl, hp, hs, hr⟩
  ·exact .stn
  ·obtain ⟨u, v, rfl, e1, e2⟩ := key hr
   exact .stc (u := s :: u) (iha (.inr ⟨p, s, u, rfl, hp, hs, e1⟩)) e2
structure Adds (e : Re) (t : Tr) (r : Tr × En) : Prop where
 emp : r.2.emp = nulE e
 fst : ∀ p, r.2.first.testBit p = true ↔ fiE e t.names.length p
 lst : ∀ p, r.2.last.testBit p = true ↔ laE e t.names.length p
 fol : ∀ p, p < r.1.names.length → ∀ q, (gd r.1.fol p).testBit q = true ↔ (p < t.names.length ∧ (gd t.fol p).testBit q = true) ∨ foE e t.names.length p q
theorem conn_bit {t : Tr} (h : TrOk t) (a b : Nat) {p : Nat} (hp : p < t.names.length) (q : Nat) : (gd (conn t a b).fol p).testBit q = true ↔ (gd t.fol p).testBit q = true ∨ (a.testBit p = true ∧ b.testBit q = true) := by
 have hl : p < t.fol.length := by rw [h.len]; exact hp
 have hf := h.few
 rw [Bg (show p < (conn t a b).fol.length by rw [show (conn t a b).fol.length = t.fol.length from C8 ..]; exact hl), Bg hl]
 simp only [conn, connK, List.getElem_mapIdx]
 by_cases h1 : a.testBit p = true
 ·rw [if_pos ⟨by omega, h1⟩, Nat.testBit_or, Bool.or_eq_true]; simp [h1]
 ·rw [if_neg (fun h => h1 h.2)]; simp [h1]
theorem adds : ∀ (e : Re) {t : Tr}, TrOk t → t.names.length + e.lv ≤ 64 → Adds e t (addF e t)
 | .emp, t, h, hl => ⟨rfl, fun p => by simp [addF, fiE], fun p => by simp [addF, laE], fun p hp q => by simp only [addF] at *; simp [foE, hp]⟩
 | .nod s, t, h, hl => by
  refine ⟨rfl, fun p => by simp [addF, fiE, Nat.testBit_two_pow, eq_comm], fun p => by simp [addF, laE, Nat.testBit_two_pow, eq_comm], fun p hp q => ?_⟩
  simp only [addF, List.length_append, List.length_cons, List.length_nil] at *
  simp only [foE, or_false]
  by_cases e : p = t.names.length
  ·subst e
   rw [show gd (t.fol ++ [0]) t.names.length = 0 by rw [← h.len]; exact C6]
   simp
  ·rw [Cn (by rw [h.len]; omega)]
   simp; intro _; omega
 | .any, t, h, hl => by
  refine ⟨rfl, fun p => by simp [addF, fiE, Nat.testBit_two_pow, eq_comm], fun p => by simp [addF, laE, Nat.testBit_two_pow, eq_comm], fun p hp q => ?_⟩
  simp only [addF, List.length_append, List.length_cons, List.length_nil] at *
  simp only [foE, or_false]
  by_cases e : p = t.names.length
  ·subst e
   rw [show gd (t.fol ++ [0]) t.names.length = 0 by rw [← h.len]; exact C6]
   simp
  ·rw [Cn (by rw [h.len]; omega)]
   simp; intro _; omega
 | .alt a b, t, h, hl => by
  simp only [Re.lv] at hl
  obtain ⟨h1, h2, h3, h4⟩ := C7 a h (by omega)
  obtain ⟨k1, k2, k3, k4⟩ := C7 b h1 (by omega)
  have ia := adds a h (by omega)
  have ib := adds b h1 (by omega)
  simp only [addF]
  refine ⟨by simp [nulE, ia.emp, ib.emp], fun p => ?_, fun p => ?_, fun p hp q => ?_⟩
  ·simp only [Nat.testBit_or, Bool.or_eq_true, fiE, ia.fst, ib.fst, h2]
  ·simp only [Nat.testBit_or, Bool.or_eq_true, laE, ia.lst, ib.lst, h2]
  ·simp only [] at hp ⊢
   rw [ib.fol p hp q, h2]
   simp only [foE]
   constructor
   ·rintro (⟨e1, e2⟩ | e)
    ·exact ((ia.fol p (by omega) q).1 e2).imp id .inl
    ·exact .inr (.inr e)
   ·rintro (e | e | e)
    ·exact .inl ⟨by omega, (ia.fol p (by omega) q).2 (.inl e)⟩
    ·have := Dt e
     exact .inl ⟨by omega, (ia.fol p (by omega) q).2 (.inr e)⟩
    ·exact .inr e
 | .seq a b, t, h, hl => by
  simp only [Re.lv] at hl
  obtain ⟨h1, h2, h3, h4⟩ := C7 a h (by omega)
  obtain ⟨k1, k2, k3, k4⟩ := C7 b h1 (by omega)
  have ia := adds a h (by omega)
  have ib := adds b h1 (by omega)
  simp only [addF]
  refine ⟨by simp [nulE, ia.emp, ib.emp], fun p => ?_, fun p => ?_, fun p hp q => ?_⟩
  ·simp only [ia.emp]
   cases hn : nulE a <;> simp [Nat.testBit_or, fiE, ia.fst, ib.fst, h2, hn]
  ·simp only [ib.emp]
   cases hn : nulE b <;> simp [Nat.testBit_or, laE, ia.lst, ib.lst, h2, hn]
  ·simp only [] at hp ⊢
   rw [show (conn (addF b (addF a t).1).1 (addF a t).2.last (addF b (addF a t).1).2.first).names = (addF b (addF a t).1).1.names from rfl] at hp
   rw [conn_bit k1 _ _ hp, ib.fol p hp q, ia.lst, ib.fst, h2]
   simp only [foE]
   constructor
   ·rintro ((⟨e1, e2⟩ | e) | e)
    ·exact ((ia.fol p (by omega) q).1 e2).imp id .inl
    ·exact .inr (.inr (.inl e))
    ·exact .inr (.inr (.inr e))
   ·rintro (e | e | e | e)
    ·exact .inl (.inl ⟨by omega, (ia.fol p (by omega) q).2 (.inl e)⟩)
    ·have := Dt e
     exact .inl (.inl ⟨by omega, (ia.fol p (by omega) q).2 (.inr e)⟩)
    ·exact .inl (.inr e)
    ·exact .inr e
 | .star a, t, h, hl => by
  simp only [Re.lv] at hl
  obtain ⟨h1, h2, h3, h4⟩ := C7 a h (by omega)
  have ia := adds a h (by omega)
  simp only [addF]
  refine ⟨rfl, ia.fst, ia.lst, fun p hp q => ?_⟩
  simp only [] at hp ⊢
  rw [show (conn (addF a t).1 (addF a t).2.last (addF a t).2.first).names = (addF a t).1.names from rfl] at hp
  rw [conn_bit h1 _ _ hp, ia.fol p hp q, ia.lst, ia.fst]
  simp only [foE]
  rw [or_assoc]
def Re.good : Re → Prop
 | .emp => True
 | .nod s => s ≠ ⟨#[]⟩
 | .any => True
 | .seq a b => a.good ∧ b.good
 | .alt a b => a.good ∧ b.good
 | .star a => a.good
theorem Is.good {m : Rxm} {e : Re} (h : Is m e) : e.good := by
 induction h with
 | emp => trivial
 | nod h => exact fun e => h (by rw [e]; rfl)
 | any => trivial
 | seq _ _ h1 h2 => exact ⟨h1, h2⟩
 | alt _ _ h1 h2 => exact ⟨h1, h2⟩
 | star _ h => exact h
theorem lvs_len : ∀ e : Re, e.lvs.length = e.lv
 | .emp => rfl
 | .nod _ => rfl
 | .any => rfl
 | .seq a b => by simp [Re.lvs, Re.lv, lvs_len a, lvs_len b]
 | .alt a b => by simp [Re.lvs, Re.lv, lvs_len a, lvs_len b]
 | .star a => lvs_len a
theorem mts_of {t : Tr} : ∀ {e : Re} {n : Nat} {u v : List ByteArray}, e.good → t.names = u ++ e.lvs ++ v → u.length = n → Mts (fun p s => mtch t s p = true) e n
 | .emp, _, _, _, _, _, _ => trivial
 | .nod x, n, u, v, hg, ht, hn => fun s => by
  have : gd t.names n = x := by rw [ht, ← hn]; simp [gd, Re.lvs]
  simp only []
  rw [mtch_eq, this]
  have hx : ¬ x = ⟨#[]⟩ := hg
  simp [hx, eq_comm]
 | .any, n, u, v, hg, ht, hn => fun s => by
  have : gd t.names n = ⟨#[]⟩ := by rw [ht, ← hn]; simp [gd, Re.lvs]
  simp only []
  rw [mtch_eq, this]; simp
 | .seq a b, n, u, v, hg, ht, hn => ⟨mts_of (v := b.lvs ++ v) hg.1 (by rw [ht]; simp [Re.lvs]) hn, mts_of (u := u ++ a.lvs) (v := v) hg.2 (by rw [ht]; simp [Re.lvs]) (by simp [hn, lvs_len])⟩
 | .alt a b, n, u, v, hg, ht, hn => ⟨mts_of (v := b.lvs ++ v) hg.1 (by rw [ht]; simp [Re.lvs]) hn, mts_of (u := u ++ a.lvs) (v := v) hg.2 (by rw [ht]; simp [Re.lvs]) (by simp [hn, lvs_len])⟩
 | .star a, n, u, v, hg, ht, hn => mts_of (e := a) hg ht hn
theorem orK_bit (fol : List Nat) (x q : Nat) : ∀ i, (orK fol x i).testBit q = true ↔ ∃ p, p < i ∧ x.testBit p = true ∧ (gd fol p).testBit q = true
 | 0 => by simp [orK]
 | i + 1 => by
  rw [orK_succ]
  split
  ·rename_i h
   rw [Nat.testBit_or, Bool.or_eq_true, orK_bit fol x q i]
   constructor
   ·rintro (⟨p, h1, h2, h3⟩ | h3)
    ·exact ⟨p, by omega, h2, h3⟩
    ·exact ⟨i, by omega, h, h3⟩
   ·rintro ⟨p, h1, h2, h3⟩
    by_cases e : p = i
    ·subst e; exact .inr h3
    ·exact .inl ⟨p, by omega, h2, h3⟩
  ·rename_i h
   rw [orK_bit fol x q i]
   constructor
   ·rintro ⟨p, h1, h2, h3⟩; exact ⟨p, by omega, h2, h3⟩
   ·rintro ⟨p, h1, h2, h3⟩
    by_cases e : p = i
    ·subst e; exact absurd h2 h
    ·exact ⟨p, by omega, h2, h3⟩
theorem and_bit (a b : Nat) : ¬ a &&& b = 0 ↔ ∃ p, a.testBit p = true ∧ b.testBit p = true := by
 constructor
 ·intro h
  refine Classical.byContradiction fun hn => h (Nat.eq_of_testBit_eq fun p => ?_)
  rw [Nat.testBit_and, Nat.zero_testBit]
  cases h1 : a.testBit p with
  | false => rfl
  | true =>
   cases h2 : b.testBit p with
   | false => rfl
   | true => exact absurd ⟨p, h1, h2⟩ hn
 ·rintro ⟨p, h1, h2⟩ h
  have := congrArg (fun x => x.testBit p) h
  simp [Nat.testBit_and, h1, h2] at this
theorem runF_cons (t : Tr) (st : Nat × Nat) (s : ByteArray) (l : List ByteArray) : runF t st (s :: l) = runF t (stepK t s st.2 256) l := by unfold runF; rw [List.foldl_cons]
theorem run_rw {t : Tr} (ht : TrOk t) (hw : Low t) {La : Nat} : ∀ (w : List ByteArray) (s : ByteArray) (x C : Nat), C < 2 ^ t.names.length → ((¬ (runF t (x, C) (s :: w)).1 &&& La = 0) ↔ ∃ p, C.testBit p = true ∧ mtch t s p = true ∧ Rw (fun p q => p < t.names.length ∧ (gd t.fol p).testBit q = true) (fun p => p < t.names.length ∧ La.testBit p = true) (fun p s => mtch t s p = true) p w)
 | [], s, x, C, hC => by
  rw [runF_cons, show runF t (stepK t s (x, C).2 256) [] = stepK t s C 256 from rfl, and_bit]
  constructor
  ·rintro ⟨p, h1, h2⟩
   rw [stepK_fst] at h1
   simp only [Bool.and_eq_true, decide_eq_true_eq] at h1
   exact ⟨p, h1.2.1, h1.2.2, .nil ⟨bit_lt hC h1.2.1, h2⟩⟩
  ·rintro ⟨p, h1, h2, h3⟩
   cases h3 with
   | nil h3 =>
    refine ⟨p, ?_, h3.2⟩
    rw [stepK_fst]
    have := ht.few
    simp [h1, h2]; omega
 | y :: w, s, x, C, hC => by
  have hlt := stepK_lt ht hw (s := s) hC 256
  rw [runF_cons]
  simp only []
  generalize hq : stepK t s C 256 = q at *
  obtain ⟨q1, q2⟩ := q
  rw [run_rw ht hw w y _ _ hlt.2]
  have hq2 : q2 = (stepK t s C 256).2 := by rw [hq]
  have hf := ht.few
  constructor
  ·rintro ⟨q, h1, h2, h3⟩
   rw [hq2, stepK_snd', orK_bit] at h1
   obtain ⟨p, hp, h4, h5⟩ := h1
   rw [stepK_fst] at h4
   simp only [Bool.and_eq_true, decide_eq_true_eq] at h4
   exact ⟨p, h4.2.1, h4.2.2, .cons ⟨bit_lt hC h4.2.1, h5⟩ h2 h3⟩
  ·rintro ⟨p, h1, h2, h3⟩
   cases h3 with
   | @cons _ q _ _ h4 h5 h6 =>
    refine ⟨q, ?_, h5, h6⟩
    rw [hq2, stepK_snd', orK_bit]
    refine ⟨p, by omega, ?_, h4.2⟩
    rw [stepK_fst]
    simp [h1, h2]; omega
theorem match_lang {e : Re} (hl : e.lv ≤ 64) (hg : e.good) (w : List ByteArray) : matchF e w = true ↔ Lang e w := by
 have h64 : t00.names.length + e.lv ≤ 64 := by simpa [t00] using hl
 obtain ⟨hok, hlen, hf1, hf2⟩ := C7 e D3 h64
 have hlow := add_low e D3 h64 t00_low
 have ha := adds e D3 h64
 have hm : Mts (fun p s => mtch (addF e t00).1 s p = true) e 0 := mts_of (u := []) (v := []) hg (by rw [add_names]; simp [t00]) rfl
 have hthr : matchF e w = true ↔ Thr (fun p s => mtch (addF e t00).1 s p = true) e 0 w := by
  unfold matchF Thr
  cases w with
  | nil => simp [ha.emp]
  | cons s w =>
   rw [if_neg (by simp), decide_eq_true_iff, run_rw hok hlow w s 0 _ (by rw [hlen]; exact hf1)]
   have hF : ∀ p q, (p < (addF e t00).1.names.length ∧ (gd (addF e t00).1.fol p).testBit q = true) ↔ foE e 0 p q := fun p q => by
    constructor
    ·rintro ⟨h1, h2⟩
     rcases (ha.fol p h1 q).1 h2 with h | h
     ·exact absurd h.1 (Nat.not_lt_zero _)
     ·exact h
    ·intro h
     have h1 : p < (addF e t00).1.names.length := by rw [hlen]; exact (Dt h).1.2
     exact ⟨h1, (ha.fol p h1 q).2 (.inr h)⟩
   have hL : ∀ p, (p < (addF e t00).1.names.length ∧ (addF e t00).2.last.testBit p = true) ↔ laE e 0 p := fun p => by
    rw [ha.lst]
    exact ⟨fun h => h.2, fun h => ⟨by rw [hlen]; exact (D4 h).2, h⟩⟩
   constructor
   ·rintro ⟨p, h1, h2, h3⟩
    exact .inr ⟨p, s, w, rfl, (ha.fst p).1 h1, h2, h3.mono (fun p q h => (hF p q).1 h) fun p h => (hL p).1 h⟩
   ·rintro (⟨h, _⟩ | ⟨p, s', w', h0, h1, h2, h3⟩)
    ·cases h
    ·cases h0
     exact ⟨p, (ha.fst p).2 h1, h2, h3.mono (fun p q h => (hF p q).2 h) fun p h => (hL p).2 h⟩
 rw [hthr]
 exact ⟨lang_of hm, fun h => thr_of h hm⟩
end Go.Proofs.YtkdolgnpkjihpaaGreatDoor
namespace Go.Proofs.YtkdolgnpkjihpaaGreatDoor
open _root_.Go.Proofs.Tryz
open Go.RowKit
set_option linter.unusedVariables false
set_option linter.unusedSimpArgs false
structure Inc (lo hi : Nat) (l : List Nat) : Prop where
 pw : l.Pairwise (· < ·)
 rg : ∀ x ∈ l, lo ≤ x ∧ x ≤ hi
theorem Inc.nd {lo hi : Nat} {l : List Nat} (h : Inc lo hi l) : l.Nodup := h.pw.imp fun {a b} hab e => by omega
theorem Inc.len {lo hi : Nat} {l : List Nat} (h : Inc lo hi l) : l.length ≤ hi + 1 := by
 have := nodup_le h.nd (l' := List.range (hi + 1)) fun x hx => List.mem_range.2 (by have := (h.rg x hx).2; omega)
 simpa using this
theorem Inc.mono {lo lo' hi : Nat} {l : List Nat} (h : Inc lo hi l) (hl : lo' ≤ lo) : Inc lo' hi l := ⟨h.pw, fun x hx => by have := h.rg x hx; omega⟩
theorem inc_nil (lo hi : Nat) : Inc lo hi [] := ⟨.nil, fun x hx => by cases hx⟩
theorem inc_one {lo hi x : Nat} (h : lo ≤ x ∧ x ≤ hi) : Inc lo hi [x] := ⟨List.pairwise_singleton .., fun y hy => by simp at hy; subst hy; exact h⟩
theorem putF_mem {n y : Nat} : ∀ {l : List Nat}, y ∈ putF n l ↔ y = n ∨ y ∈ l
 | [] => by simp [putF]
 | x :: l => by
  unfold putF
  split
  ·simp only [List.mem_cons, putF_mem (l := l)]
   constructor
   ·rintro (h | h | h) <;> simp [h]
   ·rintro (h | h | h) <;> simp [h]
  ·split
   ·rename_i h; subst h; simp
   ·simp
theorem putF_pw {n : Nat} : ∀ {l : List Nat}, l.Pairwise (· < ·) → (putF n l).Pairwise (· < ·)
 | [], _ => List.pairwise_singleton ..
 | x :: l, h => by
  have h' := List.pairwise_cons.1 h
  unfold putF
  split
  ·rename_i hlt
   refine List.pairwise_cons.2 ⟨fun y hy => ?_, putF_pw h'.2⟩
   rcases putF_mem.1 hy with rfl | hy
   ·exact hlt
   ·exact h'.1 y hy
  ·split
   ·exact h
   ·refine List.pairwise_cons.2 ⟨fun y hy => ?_, h⟩
    rcases List.mem_cons.1 hy with rfl | hy
    ·omega
    ·have := h'.1 y hy; omega
theorem mergeF_mem {y : Nat} : ∀ {b a : List Nat}, y ∈ mergeF a b ↔ y ∈ a ∨ y ∈ b
 | [], a => by simp [mergeF]
 | x :: b, a => by
  rw [show mergeF a (x :: b) = mergeF (putF x a) b from rfl, mergeF_mem (b := b), putF_mem, List.mem_cons]
  constructor
  ·rintro ((h | h) | h) <;> simp [h]
  ·rintro (h | h | h) <;> simp [h]
theorem mergeF_inc {lo hi : Nat} {a b : List Nat} (ha : Inc lo hi a) (hb : ∀ x ∈ b, lo ≤ x ∧ x ≤ hi) : Inc lo hi (mergeF a b) := by
 refine ⟨?_, fun x hx => ?_⟩
 ·unfold mergeF
  induction b generalizing a with
  | nil => exact ha.pw
  | cons x b ih =>
   refine ih (a := putF x a) ⟨putF_pw ha.pw, fun y hy => ?_⟩ fun y hy => hb y (by simp [hy])
   rcases putF_mem.1 hy with rfl | hy
   ·exact hb _ (by simp)
   ·exact ha.rg y hy
 ·rcases mergeF_mem.1 hx with h | h
  ·exact ha.rg x h
  ·exact hb x h
def starK (f : Nat → List Nat) (at' : Nat) : Nat → List Nat
 | 0 => [at']
 | k + 1 => if k < (starK f at' k).length then mergeF (starK f at' k) (f (gd (starK f at' k) k)) else starK f at' k
theorem starK_succ (f : Nat → List Nat) (at' k : Nat) : starK f at' (k + 1) = if k < (starK f at' k).length then mergeF (starK f at' k) (f (gd (starK f at' k) k)) else starK f at' k := rfl
def seqK (f : Nat → List Nat) (l : List Nat) : Nat → List Nat
 | 0 => []
 | k + 1 => mergeF (seqK f l k) (f (gd l k))
def endsF : Re → List ByteArray → Nat → List Nat
 | .emp, _, p => [p]
 | .nod s, l, p => if p < l.length ∧ gd l p = s then [p + 1] else []
 | .any, l, p => if p < l.length then [p + 1] else []
 | .alt a b, l, p => mergeF (endsF a l p) (endsF b l p)
 | .seq a b, l, p => seqK (endsF b l) (endsF a l p) (endsF a l p).length
 | .star a, l, p => starK (endsF a l) p (l.length + 1)
theorem seqK_inc {lo hi : Nat} {f : Nat → List Nat} {l : List Nat} (hf : ∀ p, lo ≤ p → p ≤ hi → Inc p hi (f p)) (hl : Inc lo hi l) : ∀ k, k ≤ l.length → Inc lo hi (seqK f l k)
 | 0, _ => inc_nil _ _
 | k + 1, hk => by
  have h1 := hl.rg _ (Az (show k < l.length by omega))
  exact mergeF_inc (seqK_inc hf hl k (by omega)) ((hf _ h1.1 h1.2).mono h1.1).rg
theorem seqK_mem {f : Nat → List Nat} {l : List Nat} {y : Nat} : ∀ k, k ≤ l.length → (y ∈ seqK f l k ↔ ∃ j, j < k ∧ y ∈ f (gd l j))
 | 0, _ => by simp [seqK]
 | k + 1, hk => by
  rw [show seqK f l (k + 1) = mergeF (seqK f l k) (f (gd l k)) from rfl, mergeF_mem, seqK_mem k (by omega)]
  constructor
  ·rintro (⟨j, h1, h2⟩ | h)
   ·exact ⟨j, by omega, h2⟩
   ·exact ⟨k, by omega, h⟩
  ·rintro ⟨j, h1, h2⟩
   by_cases e : j = k
   ·subst e; exact .inr h2
   ·exact .inl ⟨j, by omega, h2⟩
theorem starK_inc {lo hi : Nat} {f : Nat → List Nat} (hf : ∀ p, lo ≤ p → p ≤ hi → Inc p hi (f p)) (h0 : lo ≤ hi) : ∀ k, Inc lo hi (starK f lo k)
 | 0 => inc_one ⟨Nat.le_refl _, h0⟩
 | k + 1 => by
  have ih := starK_inc hf h0 k
  rw [starK_succ]; split
  ·rename_i hk
   have h1 := ih.rg _ (Az hk)
   exact mergeF_inc ih ((hf _ h1.1 h1.2).mono h1.1).rg
  ·exact ih
theorem putF_pre {n : Nat} : ∀ {l : List Nat} {k : Nat}, l.Pairwise (· < ·) → k < l.length → gd l k ≤ n → ∀ j, j ≤ k → gd (putF n l) j = gd l j ∧ l.length ≤ (putF n l).length
  | [], k, _, h, _, _, _ => by simp at h
  | x :: l, k, hp, hk, hn, j, hj => by
    have p1 := List.pairwise_cons.1 hp
    unfold putF
    split
    · rename_i hlt
      cases k with
      | zero =>
        have : j = 0 := by omega
        subst this
        refine ⟨rfl, ?_⟩
        simp only [List.length_cons]
        have : l.length ≤ (putF n l).length := by
          cases l with
          | nil => exact Nat.zero_le _
          | cons y l => unfold putF; split
                        · simp only [List.length_cons]; exact Nat.succ_le_succ (by clear hp p1 hk hn hj; induction l with | nil => exact Nat.zero_le _ | cons z l ih => unfold putF; split; (· simp only [List.length_cons]; omega); (· split <;> simp))
                        · split <;> simp
        omega
      | succ k =>
        have hk' : k < l.length := by simpa using hk
        have ih := fun j hj => putF_pre (n := n) p1.2 hk' hn j hj
        cases j with
        | zero => exact ⟨rfl, by simpa using (ih 0 (by omega)).2⟩
        | succ j =>
          have := ih j (by omega)
          exact ⟨this.1, by simpa using this.2⟩
    · split
      · exact ⟨rfl, Nat.le_refl _⟩
      · rename_i h1 h2
        exfalso
        have h3 : x ≤ gd (x :: l) k := by
          cases k with
          | zero => exact Nat.le_refl _
          | succ k =>
            have := p1.1 (gd l k) (Az (by simpa using hk))
            show x ≤ gd l k
            omega
        omega
theorem mergeF_pre : ∀ {b l : List Nat} {k : Nat}, l.Pairwise (· < ·) → k < l.length → (∀ y ∈ b, gd l k ≤ y) → ∀ j, j ≤ k → gd (mergeF l b) j = gd l j ∧ l.length ≤ (mergeF l b).length
 | [], l, k, _, _, _, j, _ => ⟨rfl, Nat.le_refl _⟩
 | y :: b, l, k, hp, hk, hb, j, hj => by
  have h1 := fun j hj => putF_pre hp hk (hb y (by simp)) j hj
  have h2 := (h1 k (Nat.le_refl _))
  have h3 := mergeF_pre (b := b) (l := putF y l) (k := k) (putF_pw hp) (by omega) (fun z hz => by rw [h2.1]; exact hb z (by simp [hz])) j hj
  rw [show mergeF l (y :: b) = mergeF (putF y l) b from rfl]
  exact ⟨h3.1.trans (h1 j hj).1, by omega⟩
structure StarOk (f : Nat → List Nat) (lo hi k : Nat) (l : List Nat) : Prop where
 inc : Inc lo hi l
 fst : lo ∈ l
 done : ∀ j, j < k → j < l.length → ∀ y ∈ f (gd l j), y ∈ l
 from' : ∀ y ∈ l, y = lo ∨ ∃ x ∈ l, x < y ∧ y ∈ f x
theorem starK_ok {lo hi : Nat} {f : Nat → List Nat} (hf : ∀ p, lo ≤ p → p ≤ hi → Inc p hi (f p)) (h0 : lo ≤ hi) : ∀ k, StarOk f lo hi k (starK f lo k)
 | 0 => ⟨starK_inc hf h0 0, by simp [starK], fun j hj => by omega, fun y hy => by simp [starK] at hy; exact .inl hy⟩
 | k + 1 => by
  have ih := starK_ok hf h0 k
  have hi := starK_inc hf h0 (k + 1)
  rw [starK_succ] at hi ⊢
  split at hi
  ·rename_i hk
   rw [if_pos hk]
   have h1 := ih.inc.rg _ (Az hk)
   have hff := hf _ h1.1 h1.2
   have hpre := mergeF_pre (b := f (gd (starK f lo k) k)) ih.inc.pw hk fun y hy => (hff.rg y hy).1
   refine ⟨hi, mergeF_mem.2 (.inl ih.fst), fun j hj hj2 y hy => ?_, fun y hy => ?_⟩
   ·rw [(hpre j (by omega)).1] at hy
    by_cases e : j = k
    ·subst e; exact mergeF_mem.2 (.inr hy)
    ·exact mergeF_mem.2 (.inl (ih.done j (by omega) (by omega) y hy))
   ·rcases mergeF_mem.1 hy with h | h
    ·rcases ih.from' y h with h | ⟨x, h2, h3⟩
     ·exact .inl h
     ·exact .inr ⟨x, mergeF_mem.2 (.inl h2), h3⟩
    ·rcases Nat.lt_or_ge (gd (starK f lo k) k) y with h5 | h5
     ·exact .inr ⟨_, mergeF_mem.2 (.inl (Az hk)), h5, h⟩
     ·have h6 := (hff.rg y h).1
      have h7 : y = gd (starK f lo k) k := by omega
      rw [h7]
      rcases ih.from' _ (Az hk) with h | ⟨x, h2, h3⟩
      ·exact .inl h
      ·exact .inr ⟨x, mergeF_mem.2 (.inl h2), h3⟩
  ·rename_i hk
   rw [if_neg hk]
   exact ⟨ih.inc, ih.fst, fun j hj hj2 => ih.done j (by omega) hj2, ih.from'⟩
theorem Df : ∀ (e : Re) (l : List ByteArray) (p : Nat), p ≤ l.length → Inc p l.length (endsF e l p)
 | .emp, l, p, h => inc_one ⟨Nat.le_refl _, h⟩
 | .nod s, l, p, h => by
  unfold endsF; split
  ·exact inc_one (by omega)
  ·exact inc_nil _ _
 | .any, l, p, h => by
  unfold endsF; split
  ·exact inc_one (by omega)
  ·exact inc_nil _ _
 | .alt a b, l, p, h => mergeF_inc (Df a l p h) (Df b l p h).rg
 | .seq a b, l, p, h => seqK_inc (fun q _ h2 => Df b l q h2) (Df a l p h) _ (Nat.le_refl _)
 | .star a, l, p, h => starK_inc (fun q _ h2 => Df a l q h2) h _
def sub (l : List ByteArray) (p q : Nat) : List ByteArray := (l.drop p).take (q - p)
theorem sub_self (l : List ByteArray) (p : Nat) : sub l p p = [] := by simp [sub]
theorem sub_cat {l : List ByteArray} {p q r : Nat} (h1 : p ≤ q) (h2 : q ≤ r) : sub l p q ++ sub l q r = sub l p r := by
 unfold sub
 rw [show r - p = (q - p) + (r - q) by omega, List.take_add, List.drop_drop, show p + (q - p) = q by omega]
theorem sub_one {l : List ByteArray} {p : Nat} (h : p < l.length) : sub l p (p + 1) = [gd l p] := by
 unfold sub
 rw [show p + 1 - p = 1 by omega, drop_gd h]; rfl
theorem sub_len {l : List ByteArray} {p q : Nat} (h1 : p ≤ q) (h2 : q ≤ l.length) : (sub l p q).length = q - p := by
 unfold sub; rw [List.length_take, List.length_drop]; omega
theorem sub_split {l : List ByteArray} {p r : Nat} (h1 : p ≤ r) (h2 : r ≤ l.length) {u v : List ByteArray} (h : sub l p r = u ++ v) : sub l p (p + u.length) = u ∧ sub l (p + u.length) r = v ∧ p + u.length ≤ r := by
 have hl := congrArg List.length h
 rw [sub_len h1 h2, List.length_append] at hl
 have hc := sub_cat (l := l) (p := p) (q := p + u.length) (r := r) (by omega) (by omega)
 rw [h] at hc
 have h3 := List.append_inj hc (by rw [sub_len (by omega) (by omega)]; omega)
 exact ⟨h3.1, h3.2, by omega⟩
theorem ends_lang : ∀ (e : Re) (l : List ByteArray) (p : Nat), p ≤ l.length → ∀ q, q ∈ endsF e l p ↔ (p ≤ q ∧ q ≤ l.length) ∧ Lang e (sub l p q)
 | .emp, l, p, h, q => by
  simp only [endsF, List.mem_cons, List.not_mem_nil, or_false]
  constructor
  ·rintro rfl; exact ⟨⟨Nat.le_refl _, h⟩, by rw [sub_self]; exact .emp⟩
  ·rintro ⟨h1, h2⟩
   generalize hs : sub l p q = u at h2
   cases h2
   have := sub_len h1.1 h1.2
   rw [hs] at this; simp at this; omega
 | .nod s, l, p, h, q => by
  unfold endsF
  constructor
  ·intro hq
   split at hq
   ·rename_i hc
    simp at hq; subst hq
    exact ⟨by omega, by rw [sub_one hc.1, hc.2]; exact .nod s⟩
   ·cases hq
  ·rintro ⟨h1, h2⟩
   generalize hs : sub l p q = u at h2
   cases h2
   have hl := sub_len h1.1 h1.2
   rw [hs] at hl; simp at hl
   have hq : q = p + 1 := by omega
   subst hq
   rw [sub_one (by omega)] at hs
   rw [if_pos ⟨by omega, by simpa using hs⟩]; simp
 | .any, l, p, h, q => by
  unfold endsF
  constructor
  ·intro hq
   split at hq
   ·rename_i hc
    simp at hq; subst hq
    exact ⟨by omega, by rw [sub_one hc]; exact .any _⟩
   ·cases hq
  ·rintro ⟨h1, h2⟩
   generalize hs : sub l p q = u at h2
   cases h2
   have hl := sub_len h1.1 h1.2
   rw [hs] at hl; simp at hl
   rw [if_pos (by omega)]; simp; omega
 | .alt a b, l, p, h, q => by
  rw [show endsF (.alt a b) l p = mergeF (endsF a l p) (endsF b l p) from rfl, mergeF_mem, ends_lang a l p h, ends_lang b l p h]
  constructor
  ·rintro (⟨h1, h2⟩ | ⟨h1, h2⟩)
   ·exact ⟨h1, .altl h2⟩
   ·exact ⟨h1, .altr h2⟩
  ·rintro ⟨h1, h2⟩
   generalize hs : sub l p q = u at h2 ⊢
   cases h2 with
   | altl h2 => exact .inl ⟨h1, h2⟩
   | altr h2 => exact .inr ⟨h1, h2⟩
 | .seq a b, l, p, h, q => by
  rw [show endsF (.seq a b) l p = seqK (endsF b l) (endsF a l p) (endsF a l p).length from rfl, seqK_mem _ (Nat.le_refl _)]
  constructor
  ·rintro ⟨j, hj, hq⟩
   obtain ⟨h1, h2⟩ := (ends_lang a l p h _).1 (Az hj)
   obtain ⟨h3, h4⟩ := (ends_lang b l _ h1.2 q).1 hq
   exact ⟨by omega, by rw [← sub_cat h1.1 h3.1]; exact .seq h2 h4⟩
  ·rintro ⟨h1, h2⟩
   generalize hs : sub l p q = u at h2
   cases h2 with
   | @seq _ _ u v h2 h3 =>
    obtain ⟨h4, h5, h6⟩ := sub_split h1.1 h1.2 hs
    obtain ⟨j, hj, hg⟩ := mem_gd.1 ((ends_lang a l p h (p + u.length)).2 ⟨by omega, by rw [h4]; exact h2⟩)
    refine ⟨j, hj, ?_⟩
    rw [hg]
    exact (ends_lang b l _ (by omega) q).2 ⟨by omega, by rw [h5]; exact h3⟩
 | .star a, l, p, h, q => by
  have hf : ∀ r, p ≤ r → r ≤ l.length → Inc r l.length (endsF a l r) := fun r _ h2 => Df a l r h2
  have hok := starK_ok hf h (l.length + 1)
  rw [show endsF (.star a) l p = starK (endsF a l) p (l.length + 1) from rfl]
  generalize starK (endsF a l) p (l.length + 1) = out at hok
  have hlen := hok.inc.len
  have hcl : ∀ x ∈ out, ∀ y ∈ endsF a l x, y ∈ out := fun x hx y hy => by
   obtain ⟨j, hj, rfl⟩ := mem_gd.1 hx
   exact hok.done j (by omega) hj y hy
  have hsnoc : ∀ {u v}, Lang (.star a) u → Lang a v → Lang (.star a) (u ++ v) := fun {u v} hu hv => by
   generalize he : Re.star a = e at hu
   induction hu with
   | emp => cases he
   | nod _ => cases he
   | any _ => cases he
   | seq _ _ _ _ => cases he
   | altl _ _ => cases he
   | altr _ _ => cases he
   | stn => cases he; have := Lang.stc hv .stn; simpa using this
   | stc h1 _ _ ih => cases he; rw [List.append_assoc]; exact .stc h1 (ih rfl)
  constructor
  ·intro hq
   have hr := hok.inc.rg q hq
   refine ⟨hr, ?_⟩
   have key : ∀ n q, q ≤ n → q ∈ out → Lang (.star a) (sub l p q) := fun n => by
    induction n with
    | zero =>
     intro q hn hq
     have hr := hok.inc.rg q hq
     rw [show q = p by omega, sub_self]; exact .stn
    | succ n ih =>
     intro q hn hq
     have hr := hok.inc.rg q hq
     rcases hok.from' q hq with rfl | ⟨x, hx, hlt, hy⟩
     ·rw [sub_self]; exact .stn
     ·have hrx := hok.inc.rg x hx
      obtain ⟨h1, h2⟩ := (ends_lang a l x hrx.2 q).1 hy
      rw [← sub_cat hrx.1 h1.1]
      exact hsnoc (ih x (by omega) hx) h2
   exact key q q (Nat.le_refl _) hq
  ·rintro ⟨h1, h2⟩
   have key : ∀ {e u}, Lang e u → e = .star a → ∀ x, x ∈ out → x ≤ q → sub l x q = u → q ∈ out := by
    intro e u hu
    induction hu with
    | emp => intro he; cases he
    | nod _ => intro he; cases he
    | any _ => intro he; cases he
    | seq _ _ _ _ => intro he; cases he
    | altl _ _ => intro he; cases he
    | altr _ _ => intro he; cases he
    | stn =>
     intro he x hx hxq hs
     have := sub_len hxq h1.2
     rw [hs] at this; simp at this
     rw [show q = x by omega]; exact hx
    | @stc a' u v hu hv _ ih =>
     intro he x hx hxq hs
     cases he
     obtain ⟨h4, h5, h6⟩ := sub_split hxq h1.2 hs
     have hrx := hok.inc.rg x hx
     exact ih U _ (hcl x hx _ ((ends_lang a l x hrx.2 _).2 ⟨by omega, by rw [h4]; exact hu⟩)) h6 h5
   exact key h2 U p hok.fst h1.1 U
theorem ends_match {e : Re} (hl : e.lv ≤ 64) (hg : e.good) (l : List ByteArray) : decide (l.length ∈ endsF e l 0) = matchF e l := by
 refine Bool.eq_iff_iff.2 ?_
 rw [decide_eq_true_iff, ends_lang e l 0 (Nat.zero_le _), match_lang hl hg]
 have : sub l 0 l.length = l := by simp [sub]
 rw [this]
 exact ⟨fun h => h.2, fun h => ⟨by omega, h⟩⟩
end Go.Proofs.YtkdolgnpkjihpaaGreatDoor
namespace Go.Proofs.YtkdolgnpkjihpaaGreatDoor
open _root_.Go.Proofs.Tryz
open Go.RowKit
set_option linter.unusedVariables false
set_option linter.unusedSimpArgs false
theorem starK_grow {lo hi : Nat} {f : Nat → List Nat} (hf : ∀ p, lo ≤ p → p ≤ hi → Inc p hi (f p)) (h0 : lo ≤ hi) {k : Nat} (hk : k < (starK f lo k).length) : (starK f lo k).length ≤ (starK f lo (k + 1)).length ∧ starK f lo (k + 1) = mergeF (starK f lo k) (f (gd (starK f lo k) k)) := by
 have ih := starK_inc hf h0 k
 have h1 := ih.rg _ (Az hk)
 have e : starK f lo (k + 1) = mergeF (starK f lo k) (f (gd (starK f lo k) k)) := by rw [starK_succ, if_pos hk]
 rw [e]
 exact ⟨(mergeF_pre ih.pw hk (fun y hy => ((hf _ h1.1 h1.2).rg y hy).1) 0 (Nat.zero_le _)).2, rfl⟩
theorem starK_end {f : Nat → List Nat} {lo k : Nat} (hk : ¬ k < (starK f lo k).length) : ∀ j, starK f lo (k + j) = starK f lo k
 | 0 => rfl
 | j + 1 => by
  have ih := starK_end hk j
  rw [show k + (j + 1) = (k + j) + 1 by omega, starK_succ, ih, if_neg (by omega)]
def GL (w0 : World) (H : List (Nat × Obj)) (l : List Nat) (v : Value) (H' : List (Nat × Obj)) : Prop := ∃ (q' : Option Addr) (c' : Nat) (M : List (Nat × Obj)), (v = .slice q' l.length c' ∧ l.length ≤ c' ∧ Arr w0 (M ++ H) q' 1 encU l) ∧ H' = M ++ H
def EndS (w0 : World) (m : Rxm) (e : Re) : Prop := ∀ (H : List (Nat × Obj)) (l : List ByteArray) (q : Option Addr) (c p : Nat), RxM w0 H m → Arr w0 H q 1 encS l → l.length ≤ 60 → p ≤ l.length → FSpec Tryz.prog w0 58 #[.agg (encRx m).toArray, .slice q l.length c, .int .i64 (p : Int)] H (GL w0 H (endsF e l p))
theorem gl_one {w0 : World} {H Hc : List (Nat × Obj)} {l : List Nat} {n x : Nat} (hl : l = [x]) (hs : ((n, Cl (encU x) 3) :: H).Sublist Hc) : ∃ H', GL w0 H l (resOf [.slice (some ⟨n, 0, none⟩) 1 1]) H' ∧ H'.Sublist Hc := by
 subst hl
 exact ⟨_, ⟨some ⟨n, 0, none⟩, 1, [(n, Cl (encU x) 3)], ⟨rfl, Nat.le_refl _, Cx (fun _ => rfl) U Bt⟩, rfl⟩, hs⟩
theorem gl_nil {w0 : World} {H Hc : List (Nat × Obj)} {l : List Nat} (hl : l = []) (hs : H.Sublist Hc) : ∃ H', GL w0 H l (resOf [.slice none 0 0]) H' ∧ H'.Sublist Hc := by
 subst hl
 exact ⟨_, ⟨none, 0, [], ⟨rfl, Nat.le_refl _, fun i x hi => by cases hi⟩, rfl⟩, hs⟩
theorem gl_of {w0 : World} {H Hc : List (Nat × Obj)} {l : List Nat} {q : Option Addr} {c : Nat} (M : List (Nat × Obj)) (hc : l.length ≤ c) (hA : Arr w0 Hc q 1 encU l) (hs : Hc = M ++ H) : ∃ H', GL w0 H l (resOf [.slice q l.length c]) H' ∧ H'.Sublist Hc := by
 subst hs
 exact ⟨_, ⟨q, c, M, ⟨rfl, hc, hA⟩, rfl⟩, List.Sublist.refl _⟩
theorem end_emp {w0 : World} {q : Option Addr} {c : Nat} : EndS w0 (.mk 1 ⟨#[]⟩ q c []) (.emp) := by
 intro H l q2 c2 p hM hN hl hp
 show FSpec Tryz.prog w0 58 #[.agg #[.int .i64 1, .string ⟨#[]⟩, .slice q 0 c], .slice q2 l.length c2, .int .i64 (p : Int)] H _
 refine A8 Tryz.func58 U ntmps58 U (Ag (Ab (e_ (Bi (T U) cs_) ?_ U)))
 rintro _ _ ⟨n3, rfl, rfl⟩
 refine y_ (Ad Ak) (Af (Ae (Ag (Ag (Ab (y_ (Bn (T U) C4) (y_ (Aj (T U) isAgg3 (by first | exact c_o)) ?_ U) U)))))) U
 refine Af (Ae (Au (Ag (Ab (y_ (Bs (T U) Ak) (y_ (Ad (T U)) (Af (Ae ?_)) U) U)))))
 first | refine Bp (Aa U) ?_ | refine Bp (Ai (Aa U) (vbool (decide_eq_true c14))) ?_
 refine Ag (Ab (y_ (Ac (T U)) (e_ (Al (.cons (T U) .nil) (Cg _)) ?_ U) U))
 rintro _ _ ⟨n17, rfl, rfl⟩
 refine y_ (Ad (T U)) (Af (Ae (A5 (Aq (An (A6 U (.tmp (Aa U) .nil) ?_)))))) U
 exact gl_one U sbt
theorem end_any {w0 : World} {q : Option Addr} {c : Nat} : EndS w0 (.mk 3 ⟨#[]⟩ q c []) (.any) := by
 intro H l q2 c2 p hM hN hl hp
 show FSpec Tryz.prog w0 58 #[.agg #[.int .i64 3, .string ⟨#[]⟩, .slice q 0 c], .slice q2 l.length c2, .int .i64 (p : Int)] H _
 refine A8 Tryz.func58 U ntmps58 U (Ag (Ab (e_ (Bi (T U) cs_) ?_ U)))
 rintro _ _ ⟨n3, rfl, rfl⟩
 refine y_ (Ad Ak) (Af (Ae (Ag (Ag (Ab (y_ (Bn (T U) C4) (y_ (Aj (T U) isAgg3 (by first | exact c_o)) ?_ U) U)))))) U
 refine Af (Ae (Au (Ag (Ab (y_ (Bs (T U) Ak) (y_ (Ad (T U)) (Af (Ae ?_)) U) U)))))
 first | refine Bc (Aa U) ?_ | refine Bc (Ai (Aa U) (vbool (decide_eq_false c14))) ?_
 refine Ag (Ab (y_ (Bs (T U) Ak) (y_ (Ad (T U)) (Af (Ae ?_)) U) U))
 first | refine Bc (Aa U) ?_ | refine Bc (Ai (Aa U) (vbool (decide_eq_false c18))) ?_
 refine Ag (Ab (y_ (Bs (T U) Ak) (y_ (Ad (T U)) (Af (Ae ?_)) U) U))
 first | refine Bp (Aa U) ?_ | refine Bp (Ai (Aa U) (vbool (decide_eq_true c36))) ?_
 refine Ag (Ag (Ab (y_ (Ac (T U)) (y_ (Ac (T U)) (y_ (Bm (T U) runUnderlying25) (y_ (Bz (T U) (T U)) (Af (Ae ?_)) U) U) U) U)))
 first | refine Ao (Aa U) (fun c41 => ?_) (fun c41 => ?_) | refine A3 (Aa U) (fun c41 => ?_) (fun c41 => ?_)
 ·refine Ag (Ab (y_ (Ac (T U)) (y_ (Bu (T U) Ak (by omega)) ?_ U) U))
  refine e_ (Al (.cons (T U) .nil) (Cg _)) ?_ U
  rintro _ _ ⟨n44, rfl, rfl⟩
  refine y_ (Ad (T U)) (Af (Ae (A5 (An (Aq (An (A6 U (.tmp (Aa U) .nil) ?_))))))) U
  first | exact gl_one (x := p + 1) (if_pos (by omega)) sbt | exact gl_nil (if_neg (by omega)) sbt
 ·refine A2 (Ae (Ag (Ab (y_ (Ad Ak) (Af (Ae (A5 (Aq (An (A6 U (.tmp (Aa U) .nil) ?_)))))) U))))
  first | exact gl_one (x := p + 1) (if_pos (by omega)) sbt | exact gl_nil (if_neg (by omega)) sbt
theorem end_nod {w0 : World} {q : Option Addr} {c : Nat} {s : ByteArray} : EndS w0 (.mk 2 s q c []) (.nod s) := by
 intro H l q2 c2 p hM hN hl hp
 show FSpec Tryz.prog w0 58 #[.agg #[.int .i64 2, .string s, .slice q 0 c], .slice q2 l.length c2, .int .i64 (p : Int)] H _
 refine A8 Tryz.func58 U ntmps58 U (Ag (Ab (e_ (Bi (T U) cs_) ?_ U)))
 rintro _ _ ⟨n3, rfl, rfl⟩
 refine y_ (Ad Ak) (Af (Ae (Ag (Ag (Ab (y_ (Bn (T U) C4) (y_ (Aj (T U) isAgg3 (by first | exact c_o)) ?_ U) U)))))) U
 refine Af (Ae (Au (Ag (Ab (y_ (Bs (T U) Ak) (y_ (Ad (T U)) (Af (Ae ?_)) U) U)))))
 first | refine Bc (Aa U) ?_ | refine Bc (Ai (Aa U) (vbool (decide_eq_false c14))) ?_
 refine Ag (Ab (y_ (Bs (T U) Ak) (y_ (Ad (T U)) (Af (Ae ?_)) U) U))
 first | refine Bp (Aa U) ?_ | refine Bp (Ai (Aa U) (vbool (decide_eq_true c18))) ?_
 refine Ag (Ag (Cj 13 [(0, true), (1, true), (2, true), (3, true), (4, true), (5, true), (6, true), (7, true), (8, true), (9, true), (10, true), (11, true), (12, true)] _ mixd (by kernel_rfl) sb0 ?_))
 refine o_y U (Ac (T U)) (o_y U (Ac (T U)) (o_y U (Bm (T U) runUnderlying25) (o_y U (Bz (T U) (T U)) (o_y U (Ac (T U)) ?_ U Ah) U Ah) U Ah) U Ah) U Ah
 first | refine C3 (s := 24) (Aa U) (fun c24 => ?_) (fun c24 => ?_) | refine D0 (s := 24) (Aa U) (fun c24 => ?_) (fun c24 => ?_)
 ·refine o_y U (Ac (T U)) (o_y U (Ac (T U)) (o_y U (Bb (T U) (T U) runUnderlying25 sizeOf9 (by omega) (by first | exact rfl | exact hN.b (i := p) (by omega))) ?_ U (As U U (Aa U))) U (As U U (Aa U))) U (As U U (Aa U))
  refine o_y U (Aj (T U) isAgg9 (by first | exact c_o | exact cell1 ((hN.mono sbt).cs (i := p) (by omega)))) ?_ U (As U U (Aa U))
  refine o_y U (Be (T U) fa24_1) (o_y U (Aj (T U) isAgg9 (by first | exact c_o)) ?_ U (As U U (Aa U))) U (As U U (Aa U))
  refine o_y U (yl_eqSD (T U) (T U)) (o_y U (A4 (T U) (T U)) (B2 U (Af (Ae ?_))) U Ah) U (As U U (Aa U))
  first | refine Ao (Aa U) (fun c32 => ?_) (fun c32 => ?_) | refine A3 (Aa U) (fun c32 => ?_) (fun c32 => ?_)
  ·refine Ag (Ab (y_ (Ac (T U)) (y_ (Bu (T U) Ak (by omega)) ?_ U) U))
   refine e_ (Al (.cons (T U) .nil) (Cg _)) ?_ U
   rintro _ _ ⟨n35, rfl, rfl⟩
   refine y_ (Ad (T U)) (Af (Ae (Bq [(6, _)] ⟨Aa U, trivial⟩ (A5 (An (Aq (An (A6 U (.tmp (Aa U) .nil) ?_)))))))) U
   first | exact gl_one (x := p + 1) (if_pos ⟨by omega, bytes_ext (fun h => h c32)⟩) sbt | exact gl_nil (if_neg fun h => by first | omega | exact c32 (by rw [h.2])) sbt
  ·refine A2 (Ae (Ag (Ab (y_ (Ad Ak) (Af (Ae (A5 (Aq (An (A6 U (.tmp (Aa U) .nil) ?_)))))) U))))
   first | exact gl_one (x := p + 1) (if_pos ⟨by omega, bytes_ext (fun h => h c32)⟩) sbt | exact gl_nil (if_neg fun h => by first | omega | exact c32 (by rw [h.2])) sbt
 ·refine o_n U (o_n U (o_n U (o_n U (o_n U (o_n U (o_n U (o_y U (A9 (T U) Ak) (B2 U (Af (Ae ?_))) U Ah) U (Cd U U (Aa U))) U (Cd U U (Aa U))) U (Cd U U (Aa U))) U (Cd U U (Aa U))) U (Cd U U (Aa U))) U (Cd U U (Aa U))) U (Cd U U (Aa U))
  first | refine Bc (Aa U) ?_ | refine Bc (Ai (Aa U) (vbool (decide_eq_false c32))) ?_
  refine A2 (Ae (Ag (Ab (y_ (Ad Ak) (Af (Ae (A5 (Aq (An (A6 U (.tmp (Aa U) .nil) ?_)))))) U))))
  first | exact gl_one (x := p + 1) (if_pos ⟨by omega, bytes_ext (fun h => h c32)⟩) sbt | exact gl_nil (if_neg fun h => by first | omega | exact c32 (by rw [h.2])) sbt
theorem end_alt {w0 : World} {q : Option Addr} {c : Nat} {ma mb : Rxm} {a b : Re} (iha : EndS w0 ma a) (ihb : EndS w0 mb b) : EndS w0 (.mk 5 ⟨#[]⟩ q c [ma, mb]) (.alt a b) := by
 intro H l q2 c2 p hM hN hl hp
 show FSpec Tryz.prog w0 58 #[.agg #[.int .i64 5, .string ⟨#[]⟩, .slice q 2 c], .slice q2 l.length c2, .int .i64 (p : Int)] H _
 obtain ⟨hA, hMM, _, _⟩ := hM
 have hMa := hMM ma (by simp)
 have hMb := hMM mb (by simp)
 have hia := Df a l p hp
 have hla := hia.len
 have hlb := (Df b l p hp).len
 refine A8 Tryz.func58 U ntmps58 U (Ag (Ab (e_ (Bi (T U) cs_) ?_ U)))
 rintro _ _ ⟨n3, rfl, rfl⟩
 refine y_ (Ad Ak) (Af (Ae (Ag (Ag (Ab (y_ (Bn (T U) C4) (y_ (Aj (T U) isAgg3 (by first | exact c_o)) ?_ U) U)))))) U
 refine Af (Ae (Au (Ag (Ab (y_ (Bs (T U) Ak) (y_ (Ad (T U)) (Af (Ae ?_)) U) U)))))
 first | refine Bc (Aa U) ?_ | refine Bc (Ai (Aa U) (vbool (decide_eq_false c14))) ?_
 refine Ag (Ab (y_ (Bs (T U) Ak) (y_ (Ad (T U)) (Af (Ae ?_)) U) U))
 first | refine Bc (Aa U) ?_ | refine Bc (Ai (Aa U) (vbool (decide_eq_false c18))) ?_
 refine Ag (Ab (y_ (Bs (T U) Ak) (y_ (Ad (T U)) (Af (Ae ?_)) U) U))
 first | refine Bc (Aa U) ?_ | refine Bc (Ai (Aa U) (vbool (decide_eq_false c36))) ?_
 refine Ag (Ab (y_ (Bs (T U) Ak) (y_ (Ad (T U)) (Af (Ae ?_)) U) U))
 first | refine Bp (Aa U) ?_ | refine Bp (Ai (Aa U) (vbool (decide_eq_true c45))) ?_
 refine Ag (Cj 13 [(0, true), (1, true), (2, true), (3, true), (4, true), (5, true), (7, true), (8, true), (9, true), (10, true), (11, true), (12, true), (6, false)] _ mixd (by kernel_rfl) sb0 ?_)
 refine o_y U (Be (T U) C1) (o_y U (Aj (T U) isAgg22 (by first | exact c_o)) ?_ U Ah) U Ah
 refine o_y U (Cp (T U) Ak runUnderlying22 sizeOf24 (by omega) (by first | exact rfl | exact hA.b0)) ?_ U Ah
 refine o_y U (Am (T U) isAgg24 sizeOf24 U (by first | exact hA.cs0 | exact Bh)) ?_ U Ah
 refine o_y U (Ac (T U)) (o_y U (Ac (T U)) (o_y U (Be (T U) C1) (o_y U (Aj (T U) isAgg22 (by first | exact c_o)) ?_ U Ah) U Ah) U Ah) U Ah
 refine o_y U (Cp (T U) Ak runUnderlying22 sizeOf24 (by omega) (by first | exact rfl | exact hA.b0)) ?_ U Ah
 refine o_y U (Am (T U) isAgg24 sizeOf24 U (by first | exact hA.cs1 | exact Bh)) ?_ U Ah
 refine o_y U (Ac (T U)) (o_y U (Ac (T U)) (o_e U (Aw (.cons (T U) (.cons (T U) (.cons (T U) .nil))) call58 (iha _ l q2 c2 p (hMa.mono sbt) (hN.mono sbt) hl hp)) ?_ U Ah) U Ah) U Ah
 rintro _ _ ⟨q3, c3, M3, ⟨rfl, hc3, hA3⟩, rfl⟩
 refine ⟨sbt, (B2 U (e_ (Aw (.cons (T U) (.cons (T U) (.cons (T U) .nil))) call58 (ihb _ l q2 c2 p (hMb.mono sbt) (hN.mono sbt) hl hp)) ?_ U))⟩
 rintro _ _ ⟨q4, c4, M4, ⟨rfl, hc4, hA4⟩, rfl⟩
 refine e_ (Aw (.cons (T U) (.cons (T U) .nil)) call111 (merge_r _ q3 c3 (hA3.mono sbt) hc3 _ q4 c4 hA4 (by omega))) ?_ U
 rintro _ _ ⟨q5, c5, M5, ⟨rfl, hc5, hA5⟩, rfl⟩
 refine y_ (Ad (T U)) (Af (Ae (Bq [(6, _)] ⟨Aa U, trivial⟩ (A5 (Aq (An (A6 U (.tmp (Aa U) .nil) ?_))))))) U
 exact gl_of (M5 ++ (M4 ++ (M3 ++ [(n3, Cl [.int .i64 5, .string ⟨#[]⟩, .slice q 2 c] 24)]))) hc5 hA5 (by simp only [List.append_assoc, List.cons_append, List.nil_append, List.singleton_append])
theorem end_seq {w0 : World} {q : Option Addr} {c : Nat} {ma mb : Rxm} {a b : Re} (iha : EndS w0 ma a) (ihb : EndS w0 mb b) : EndS w0 (.mk 4 ⟨#[]⟩ q c [ma, mb]) (.seq a b) := by
 intro H l q2 c2 p hM hN hl hp
 show FSpec Tryz.prog w0 58 #[.agg #[.int .i64 4, .string ⟨#[]⟩, .slice q 2 c], .slice q2 l.length c2, .int .i64 (p : Int)] H _
 obtain ⟨hA, hMM, _, _⟩ := hM
 have hMa := hMM ma (by simp)
 have hMb := hMM mb (by simp)
 have hia := Df a l p hp
 have hla := hia.len
 refine A8 Tryz.func58 U ntmps58 U (Ag (Ab (e_ (Bi (T U) cs_) ?_ U)))
 rintro _ _ ⟨n3, rfl, rfl⟩
 refine y_ (Ad Ak) (Af (Ae (Ag (Ag (Ab (y_ (Bn (T U) C4) (y_ (Aj (T U) isAgg3 (by first | exact c_o)) ?_ U) U)))))) U
 refine Af (Ae (Au (Ag (Ab (y_ (Bs (T U) Ak) (y_ (Ad (T U)) (Af (Ae ?_)) U) U)))))
 first | refine Bc (Aa U) ?_ | refine Bc (Ai (Aa U) (vbool (decide_eq_false c14))) ?_
 refine Ag (Ab (y_ (Bs (T U) Ak) (y_ (Ad (T U)) (Af (Ae ?_)) U) U))
 first | refine Bc (Aa U) ?_ | refine Bc (Ai (Aa U) (vbool (decide_eq_false c18))) ?_
 refine Ag (Ab (y_ (Bs (T U) Ak) (y_ (Ad (T U)) (Af (Ae ?_)) U) U))
 first | refine Bc (Aa U) ?_ | refine Bc (Ai (Aa U) (vbool (decide_eq_false c36))) ?_
 refine Ag (Ab (y_ (Bs (T U) Ak) (y_ (Ad (T U)) (Af (Ae ?_)) U) U))
 first | refine Bc (Aa U) ?_ | refine Bc (Ai (Aa U) (vbool (decide_eq_false c45))) ?_
 refine Ag (Ab (y_ (Bs (T U) Ak) (y_ (Ad (T U)) (Af (Ae ?_)) U) U))
 first | refine Bp (Aa U) ?_ | refine Bp (Ai (Aa U) (vbool (decide_eq_true c62))) ?_
 refine Ag (Ab (y_ (Ad Ak) (Af (Ae (Ag (Ab (y_ (Be (T U) C1) (y_ (Aj (T U) isAgg22 (by first | exact c_o)) ?_ U) U))))) U))
 refine y_ (Cp (T U) Ak runUnderlying22 sizeOf24 (by omega) (by first | exact rfl | exact hA.b0 | exact hA3.b (i := k) (by omega))) ?_ U
 refine y_ (Am (T U) isAgg24 sizeOf24 U (by first | exact hA.cs0 | exact Bh)) ?_ U
 refine y_ (Ac (T U)) (y_ (Ac (T U)) (e_ (Aw (.cons (T U) (.cons (T U) (.cons (T U) .nil))) call58 (iha _ l q2 c2 p (hMa.mono sbt) (hN.mono sbt) hl hp)) ?_ U) U) U
 rintro _ _ ⟨q3, c3, M3, ⟨rfl, hc3, hA3⟩, rfl⟩
 refine y_ (Ad (T U)) (Af (Ae (Ag (Ag (Ab (y_ (Ad Ak) (Af (Ae (Bq [(1, _), (3, _), (7, _), (8, _), (9, _)] ⟨Aa U, Aa U, Aa U, Aa U, Aa U, trivial⟩ (Au ?_)))) U)))))) U
 refine Cc (X := Nat × Option Addr × Nat × List (Nat × Obj)) (V := fun ⟨k, q1, c1, M⟩ => [(9, .int .i64 (k : Nat)), (7, .slice q1 (seqK (endsF b l) (endsF a l p) k).length c1)]) (C := [(1, _), (3, _), (8, _)]) (G := fun ⟨k, q1, c1, M⟩ => M ++ (M3 ++ ((n3, Cl [.int .i64 4, .string ⟨#[]⟩, .slice q 2 c] 24) :: H))) (φ := fun ⟨k, q1, c1, M⟩ => k ≤ (endsF a l p).length ∧ (seqK (endsF b l) (endsF a l p) k).length ≤ c1 ∧ Arr w0 (M ++ (M3 ++ ((n3, Cl [.int .i64 4, .string ⟨#[]⟩, .slice q 2 c] 24) :: H))) q1 1 encU (seqK (endsF b l) (endsF a l p) k)) (μ := fun ⟨k, q1, c1, M⟩ => (endsF a l p).length - k) (x0 := (0, none, 0, [])) ?_ ⟨Aa rfl, Aa rfl, Aa rfl, trivial⟩ ⟨atd, atd, trivial⟩ sb0 ?_
 ·exact ⟨Nat.zero_le _, Nat.le_refl _, fun i x hi => by cases hi⟩
 rintro ⟨k, q1, c1, M⟩ ⟨hk, hc1, hA1⟩
 have hsl := (seqK_inc (fun r _ h2 => Df b l r h2) hia k hk).len
 refine Ag (Ag (Ab (y_ (Ac (T U)) (y_ (Ac (T U)) (y_ (Bm (T U) runUnderlying42) (y_ (Bz (T U) (T U)) (Af (Ae ?_)) U) U) U) U)))
 first | refine Ao (Aa U) (fun c74 => ?_) (fun c74 => ?_) | refine A3 (Aa U) (fun c74 => ?_) (fun c74 => ?_)
 ·have hgk := hia.rg _ (Az (i := k) (by omega))
  have hlb := (Df b l _ hgk.2).len
  refine A2 (Ae (Ag (Au (Cj 11 [(0, true), (1, true), (2, true), (3, true), (4, true), (5, true), (6, true), (7, true), (8, true), (9, true), (10, false)] _ mixd (by kernel_rfl) sb0 ?_))))
  refine o_y U (Ac (T U)) (o_y U (Be (T U) C1) (o_y U (Aj (T U) isAgg22 (by first | exact c_o)) ?_ U Ah) U Ah) U Ah
  refine o_y U (Cp (T U) Ak runUnderlying22 sizeOf24 (by omega) (by first | exact rfl | exact hA.b0 | exact hA3.b (i := k) (by omega))) ?_ U Ah
  refine o_y U (Am (T U) isAgg24 sizeOf24 U (by first | exact hA.cs1 | exact Bh)) ?_ U Ah
  refine o_y U (Ac (T U)) (o_y U (Ac (T U)) (o_y U (Ac (T U)) (o_y U (Bb (T U) (T U) runUnderlying42 sizeOf3 (by omega) (by first | exact rfl | exact hA.b0 | exact hA3.b (i := k) (by omega))) ?_ U Ah) U Ah) U Ah) U Ah
  refine o_y U (Aj (T U) isAgg3 (by first | exact c_o | exact cell1 ((hA3.mono sbt).cs (i := k) (by omega)))) ?_ U Ah
  refine o_e U (Aw (.cons (T U) (.cons (T U) (.cons (T U) .nil))) call58 (ihb _ l q2 c2 (gd (endsF a l p) k) (hMb.mono sbt) (hN.mono sbt) hl hgk.2)) ?_ U Ah
  rintro _ _ ⟨q4, c4, M4, ⟨rfl, hc4, hA4⟩, rfl⟩
  refine ⟨sbt, (B2 U (e_ (Aw (.cons (T U) (.cons (T U) .nil)) call111 (merge_r _ q1 c1 (hA1.mono sbt) hc1 _ q4 c4 hA4 (by omega))) ?_ U))⟩
  rintro _ _ ⟨q5, c5, M5, ⟨rfl, hc5, hA5⟩, rfl⟩
  refine y_ (Ad (T U)) (Af (Bl (Ae (Ab (y_ (Ac (T U)) (y_ (Bu (T U) Ak (by omega)) ?_ U) U))))) U
  refine y_ (Ad (T U)) (Af ?_) U
  refine Bo ((k + 1, q5, c5, M5 ++ (M4 ++ M))) ?_ ?_ ⟨atd, atd, trivial⟩ ⟨Aa U, Aa U, Aa U, trivial⟩ ?_
  ·exact ⟨by omega, hc5, by simpa only [List.append_assoc, seqK] using hA5⟩
  ·first | omega | (simp only []; omega)
  ·show (M5 ++ (M4 ++ M) ++ _).Sublist _
   simp only [List.append_assoc]
   exact sbt
 ·refine B1 (Ay (A0 (A1 (Ae (Ag (Ab (y_ (Ac (T U)) (y_ (Ad (T U)) (Af (Ae (A5 (Aq (An (A6 U (.tmp (Aa U) .nil) ?_)))))) U) U)))))))
  have hk2 : k = (endsF a l p).length := by omega
  subst hk2
  exact gl_of (M ++ (M3 ++ [(n3, Cl [.int .i64 4, .string ⟨#[]⟩, .slice q 2 c] 24)])) hc1 hA1 (by simp only [List.append_assoc, List.cons_append, List.nil_append, List.singleton_append])
theorem end_star {w0 : World} {q : Option Addr} {c : Nat} {ma : Rxm} {a : Re} (iha : EndS w0 ma a) : EndS w0 (.mk 6 ⟨#[]⟩ q c [ma]) (.star a) := by
 intro H l q2 c2 p hM hN hl hp
 show FSpec Tryz.prog w0 58 #[.agg #[.int .i64 6, .string ⟨#[]⟩, .slice q 1 c], .slice q2 l.length c2, .int .i64 (p : Int)] H _
 obtain ⟨hA, hMM, _, _⟩ := hM
 have hMa := hMM ma (by simp)
 have hf : ∀ r, p ≤ r → r ≤ l.length → Inc r l.length (endsF a l r) := fun r _ h2 => Df a l r h2
 refine A8 Tryz.func58 U ntmps58 U (Ag (Ab (e_ (Bi (T U) cs_) ?_ U)))
 rintro _ _ ⟨n3, rfl, rfl⟩
 refine y_ (Ad Ak) (Af (Ae (Ag (Ag (Ab (y_ (Bn (T U) C4) (y_ (Aj (T U) isAgg3 (by first | exact c_o)) ?_ U) U)))))) U
 refine Af (Ae (Au (Ag (Ab (y_ (Bs (T U) Ak) (y_ (Ad (T U)) (Af (Ae ?_)) U) U)))))
 first | refine Bc (Aa U) ?_ | refine Bc (Ai (Aa U) (vbool (decide_eq_false c14))) ?_
 refine Ag (Ab (y_ (Bs (T U) Ak) (y_ (Ad (T U)) (Af (Ae ?_)) U) U))
 first | refine Bc (Aa U) ?_ | refine Bc (Ai (Aa U) (vbool (decide_eq_false c18))) ?_
 refine Ag (Ab (y_ (Bs (T U) Ak) (y_ (Ad (T U)) (Af (Ae ?_)) U) U))
 first | refine Bc (Aa U) ?_ | refine Bc (Ai (Aa U) (vbool (decide_eq_false c36))) ?_
 refine Ag (Ab (y_ (Bs (T U) Ak) (y_ (Ad (T U)) (Af (Ae ?_)) U) U))
 first | refine Bc (Aa U) ?_ | refine Bc (Ai (Aa U) (vbool (decide_eq_false c45))) ?_
 refine Ag (Ab (y_ (Bs (T U) Ak) (y_ (Ad (T U)) (Af (Ae ?_)) U) U))
 first | refine Bc (Aa U) ?_ | refine Bc (Ai (Aa U) (vbool (decide_eq_false c62))) ?_
 refine A2 (Bl (Ae (Ag (Ab (y_ (Ac (T U)) (e_ (Al (.cons (T U) .nil) (Cg _)) ?_ U) U)))))
 rintro _ _ ⟨n91, rfl, rfl⟩
 refine y_ (Ad (T U)) (Af (Ae (Ag (Ag (Ab (y_ (Ad Ak) (Af (Ae (Au ?_))) U)))))) U
 refine Cc (X := Nat × Option Addr × Nat × List (Nat × Obj)) (V := fun ⟨k, q1, c1, M⟩ => [(11, .int .i64 (k : Nat)), (10, .slice q1 (starK (endsF a l) p k).length c1)]) (C := [(1, _), (3, _)]) (G := fun ⟨k, q1, c1, M⟩ => M ++ ((n3, Cl [.int .i64 6, .string ⟨#[]⟩, .slice q 1 c] 24) :: H)) (φ := fun ⟨k, q1, c1, M⟩ => k ≤ (starK (endsF a l) p k).length ∧ (starK (endsF a l) p k).length ≤ c1 ∧ Arr w0 (M ++ ((n3, Cl [.int .i64 6, .string ⟨#[]⟩, .slice q 1 c] 24) :: H)) q1 1 encU (starK (endsF a l) p k)) (μ := fun ⟨k, q1, c1, M⟩ => l.length + 1 - k) (x0 := (0, some ⟨n91, 0, none⟩, 1, [(n91, Cl (encU p) 3)])) ?_ ⟨Aa rfl, Aa rfl, trivial⟩ ⟨(by first | exact Aa rfl | (refine Ai (Aa rfl) (vint ?_); omega) | (refine Ai (Aa rfl) ?_; simp; done) | (refine Ai (Aa rfl) ?_; exact by rw [heq])), (by first | exact Aa rfl | (refine Ai (Aa rfl) (vint ?_); omega) | (refine Ai (Aa rfl) ?_; simp; done) | (refine Ai (Aa rfl) ?_; exact by rw [heq])), trivial⟩ sb0 ?_
 ·exact ⟨Nat.zero_le _, Nat.le_refl _, Cx (fun _ => rfl) U Bt⟩
 rintro ⟨k, q1, c1, M⟩ ⟨hk, hc1, hA1⟩
 have hinc := starK_inc hf hp k
 have hsl := hinc.len
 refine Ag (Ag (Ab (y_ (Ac (T U)) (y_ (Ac (T U)) (y_ (Bm (T U) runUnderlying42) (y_ (Bz (T U) (T U)) (Af (Ae ?_)) U) U) U) U)))
 first | refine Ao (Aa U) (fun c95 => ?_) (fun c95 => ?_) | refine A3 (Aa U) (fun c95 => ?_) (fun c95 => ?_)
 ·have hgk := hinc.rg _ (Az (i := k) (by omega))
  have hlb := (Df a l _ hgk.2).len
  obtain ⟨hgr, heq⟩ := starK_grow hf hp (k := k) (by omega)
  refine A2 (Ae (Ag (Au (Ag (Ag (Ab (y_ (Ac (T U)) (y_ (Ac (T U)) (y_ (Bm (T U) runUnderlying25) (y_ (Dw (T U) (T U)) (Af (Ae ?_)) U) U) U) U)))))))
  first | refine Ao (Aa U) (fun c101 => ?_) (fun c101 => ?_) | refine A3 (Aa U) (fun c101 => ?_) (fun c101 => ?_)
  ·exfalso; omega
  ·refine A2 (Ae (Cj 11 [(0, true), (1, true), (2, true), (3, true), (4, true), (5, true), (6, true), (7, true), (8, true), (9, true), (10, false)] _ mixd (by kernel_rfl) sb0 ?_))
   refine o_y U (Ac (T U)) (o_y U (Be (T U) C1) (o_y U (Aj (T U) isAgg22 (by first | exact c_o)) ?_ U Ah) U Ah) U Ah
   refine o_y U (Cp (T U) Ak runUnderlying22 sizeOf24 (by omega) (by first | exact rfl | exact hA.b0 | exact hA1.b (i := k) (by omega))) ?_ U Ah
   refine o_y U (Am (T U) isAgg24 sizeOf24 U (by first | exact hA.cs0 | exact Bh)) ?_ U Ah
   refine o_y U (Ac (T U)) (o_y U (Ac (T U)) (o_y U (Ac (T U)) (o_y U (Bb (T U) (T U) runUnderlying42 sizeOf3 (by omega) (by first | exact rfl | exact hA.b0 | exact hA1.b (i := k) (by omega))) ?_ U Ah) U Ah) U Ah) U Ah
   refine o_y U (Aj (T U) isAgg3 (by first | exact c_o | exact cell1 ((hA1.mono sbt).cs (i := k) (by omega)))) ?_ U Ah
   refine o_e U (Aw (.cons (T U) (.cons (T U) (.cons (T U) .nil))) call58 (iha _ l q2 c2 (gd (starK (endsF a l) p k) k) (hMa.mono sbt) (hN.mono sbt) hl hgk.2)) ?_ U Ah
   rintro _ _ ⟨q4, c4, M4, ⟨rfl, hc4, hA4⟩, rfl⟩
   refine ⟨sbt, (B2 U (e_ (Aw (.cons (T U) (.cons (T U) .nil)) call111 (merge_r _ q1 c1 (hA1.mono sbt) hc1 _ q4 c4 hA4 (by omega))) ?_ U))⟩
   rintro _ _ ⟨q5, c5, M5, ⟨rfl, hc5, hA5⟩, rfl⟩
   refine y_ (Ad (T U)) (Af (Bl (Ae (Bq [(1, _), (3, _), (10, _), (11, _)] ⟨Aa U, Aa U, Aa U, Aa U, trivial⟩ (Ab (y_ (Ac (T U)) (y_ (Bu (T U) Ak (by omega)) ?_ U) U)))))) U
   refine y_ (Ad (T U)) (Af ?_) U
   rw [← heq] at hc5 hA5
   refine Bo ((k + 1, q5, c5, M5 ++ (M4 ++ M))) ?_ ?_ ⟨(by first | exact Aa U | (refine Ai (Aa U) (vint ?_); omega) | (refine Ai (Aa U) ?_; simp; done) | (refine Ai (Aa U) ?_; exact by rw [heq])), (by first | exact Aa U | (refine Ai (Aa U) (vint ?_); omega) | (refine Ai (Aa U) ?_; simp; done) | (refine Ai (Aa U) ?_; exact by rw [heq])), trivial⟩ ⟨Aa U, Aa U, trivial⟩ ?_
   ·exact ⟨by omega, hc5, by simpa only [List.append_assoc] using hA5⟩
   ·first | omega | (simp only []; omega)
   ·show (M5 ++ (M4 ++ M) ++ _).Sublist _
    simp only [List.append_assoc]
    exact sbt
 ·refine B1 (Ay (A0 (A1 (Ae (Ag (Ab (y_ (Ac (T U)) (y_ (Ad (T U)) (Af (Ae (A5 (A6 U (.tmp (Aa U) .nil) ?_)))) U) U)))))))
  have he : starK (endsF a l) p (l.length + 1) = starK (endsF a l) p k := by
   have := starK_end (f := endsF a l) (lo := p) (k := k) (by omega) (l.length + 1 - k)
   rwa [show k + (l.length + 1 - k) = l.length + 1 by omega] at this
  rw [show endsF (.star a) l p = starK (endsF a l) p (l.length + 1) from rfl, he]
  exact gl_of (M ++ [(n3, Cl [.int .i64 6, .string ⟨#[]⟩, .slice q 1 c] 24)]) hc1 hA1 (by simp only [List.append_assoc, List.cons_append, List.nil_append, List.singleton_append])
theorem ends_s {w0 : World} {m : Rxm} {e : Re} (h : Is m e) : EndS w0 m e := by
 induction h with
 | emp => exact end_emp
 | nod _ => exact end_nod
 | any => exact end_any
 | seq _ _ ih1 ih2 => exact end_seq ih1 ih2
 | alt _ _ ih1 ih2 => exact end_alt ih1 ih2
 | star _ ih => exact end_star ih
theorem rMatch_s {w0 : World} {H : List (Nat × Obj)} (m : Rxm) (e : Re) (hI : Is m e) (hM : RxM w0 H m) (hlv : e.lv ≤ 64) (l : List ByteArray) (q : Option Addr) (c : Nat) (hN : Arr w0 H q 1 encS l) (hl : l.length ≤ 60) :
  FSpec Tryz.prog w0 17 #[.agg (encRx m).toArray, .slice q l.length c] H (fun v H' => (v = .bool (matchF e l)) ∧ ∃ M, H' = M ++ H) := by
 refine A8 Tryz.func17 U ntmps17 U (Ag (Ab (e_ (Bi (T U) cs_) ?_ U)))
 rintro _ _ ⟨n2, rfl, rfl⟩
 refine y_ (Ad Ak) (Af (Ae (Ag (Ab (y_ (Am (T U) isAgg24 sizeOf24 U (by first | exact Bh)) ?_ U))))) U
 refine y_ (Ac (T U)) (e_ (Aw (.cons (T U) (.cons (T U) (.cons Ak .nil))) call58 (ends_s hI _ l q c 0 (hM.mono sbt) (hN.mono sbt) hl (Nat.zero_le _))) ?_ U) U
 rintro _ _ ⟨q1, c1, M1, ⟨rfl, hc1, hA1⟩, rfl⟩
 refine y_ (Ad (T U)) (Af (Ae (Ag (Ab (y_ (Ac (T U)) (y_ (Ac (T U)) (y_ (Bm (T U) runUnderlying25) (y_ (Ax (.cons (T U) (.cons (T U) .nil)) call59 (fun H' hs => has_r _ q1 c1 (hA1.mono hs) (by have := (Df e l 0 (Nat.zero_le _)).len; omega) l.length)) ?_ U) U) U) U))))) U
 refine y_ (Ad (T U)) (Af (Ae (A5 (A6 U (.tmp (Aa U) .nil) ?_)))) U
 exact ⟨H, ⟨vbool (ends_match hlv hI.good l), [], rfl⟩, sbt⟩
end Go.Proofs.YtkdolgnpkjihpaaGreatDoor
namespace Go.Proofs.YtkdolgnpkjihpaaGreatDoor
open _root_.Go.Proofs.Tryz
open Go.RowKit
set_option linter.unusedVariables false
set_option linter.unusedSimpArgs false
theorem lett_at {names : List ByteArray} (h : Srt names) {k : Nat} (hk : k < names.length) : lett names (gd names k) = k := by
 have hl : lbF names (gd names k) = k := lbF_eq (by omega) (fun j hj => h.lt hj hk) fun j hj hj2 => by
  rcases Nat.lt_or_ge k j with h1 | h1
  ·exact ltU_ne (h.lt h1 hj2)
  ·rw [show j = k by omega]; exact List.lt_irrefl _
 unfold lett
 rw [hl, if_pos ⟨hk, rfl⟩]
theorem lett_none {names : List ByteArray} {s : ByteArray} (h : ∀ j, j < names.length → ¬ gd names j = s) : lett names s = names.length :=
 lett_no fun hm => by
  obtain ⟨j, hj, e⟩ := mem_gdS.1 hm
  exact h j hj e
theorem letter_s {w0 : World} {H : List (Nat × Obj)} (m : Mc) (hm : McOk w0 H m) (hsr : Srt m.names) (hl : m.names.length ≤ 4611686018427387903) (s : ByteArray) :
  FSpec Tryz.prog w0 118 #[.agg (encMc m).toArray, .string s] H (Still (.int .i64 (lett m.names s : Nat)) H) := by
 refine A8 Tryz.func118 U ntmps118 U (Ag (Ab (e_ (Bi (T U) cs_) ?_ U)))
 rintro _ _ ⟨n2, rfl, rfl⟩
 refine y_ (Ad Ak) (Af (Ae (Ag (Ag (Ab (y_ (Ad Ak) (Af (Ae (Au ?_))) U)))))) U
 refine Ce (X := Nat) (V := fun k => [(5, .int .i64 (k : Nat))]) (C := [(1, _), (2, _)]) (φ := fun k => k ≤ m.names.length ∧ ∀ j, j < k → ¬ gd m.names j = s) (μ := fun k => m.names.length - k) (x0 := 0) ?_ ⟨Aa U, Aa U, trivial⟩ ⟨atd, trivial⟩ ?_
 ·exact ⟨Nat.zero_le _, fun j hj => by omega⟩
 rintro k ⟨hk, hno⟩
 refine Ag (Ag (Ab (y_ (Ac (T U)) (y_ (Bn (T U) Da) (y_ (Aj (T U) isAgg25 (by first | exact c_o)) ?_ U) U) U)))
 refine y_ (Bm (T U) runUnderlying25) (y_ (Bz (T U) (T U)) (Af (Ae ?_)) U) U
 first | refine Ao (Aa U) (fun c10 => ?_) (fun c10 => ?_) | refine A3 (Aa U) (fun c10 => ?_) (fun c10 => ?_)
 ·refine A2 (Ae (Ag (Au (Ag (Ab (y_ (Bn (T U) Da) (y_ (Aj (T U) isAgg25 (by first | exact c_o)) ?_ U) U))))))
  refine y_ (Ac (T U)) (y_ (Bb (T U) (T U) runUnderlying25 sizeOf9 (by omega) (by first | exact rfl | exact hm.a1.b (i := k) (by omega))) ?_ U) U
  refine y_ (Aj (T U) isAgg9 (by first | exact c_o | exact cell1 ((hm.a1.mono sbt).cs (i := k) (by omega)))) ?_ U
  refine y_ (Ac (T U)) (y_ (yl_eqSD (T U) (T U)) (Af (Ae ?_)) U) U
  first | refine Ao (Aa U) (fun c19 => ?_) (fun c19 => ?_) | refine A3 (Aa U) (fun c19 => ?_) (fun c19 => ?_)
  ·refine Ag (Ab (y_ (Ac (T U)) (y_ (Ad (T U)) (Af (Ae (A5 (Aq (An (B4 (Aq (An (A6 U (.tmp (Aa U) .nil) ?_))))))))) U) U))
   have e := bytes_ext (fun h => h c19)
   have e2 := lett_at hsr (k := k) (by omega)
   rw [e] at e2
   exact ⟨_, ⟨by rw [e2]; rfl, rfl⟩, sbt⟩
  ·refine A2 (Bl (Ae (Ab (y_ (Ac (T U)) (y_ (Bu (T U) Ak (by omega)) ?_ U) U))))
   refine y_ (Ad (T U)) (Af ?_) U
   refine Bo (k + 1) ?_ ?_ ⟨atd, trivial⟩ ⟨Aa U, Aa U, trivial⟩ ?_
   ·refine ⟨by omega, fun j hj => ?_⟩
    by_cases e : j = k
    ·subst e; exact fun h => c19 (by rw [h])
    ·exact hno j (by omega)
   ·first | omega | (simp only []; omega)
   ·exact sbt
 ·refine B1 (Ay (A0 (A1 (Ae (Ag (Ab (y_ (Bn (T U) Da) (y_ (Aj (T U) isAgg25 (by first | exact c_o)) ?_ U) U)))))))
  refine y_ (Bm (T U) runUnderlying25) (y_ (Ad (T U)) (Af (Ae (A5 (A6 U (.tmp (Aa U) .nil) ?_)))) U) U
  have e2 := lett_none (fun j hj => hno j (by omega))
  exact ⟨_, ⟨by rw [e2]; rfl, rfl⟩, sbt⟩
theorem rstep_s {w0 : World} {H : List (Nat × Obj)} (m : Mc) (hm : McOk w0 H m) (hsr : Srt m.names) (hl : m.names.length ≤ 4611686018427387903) (hp : PMok m.pl) (st : Nat) (hst : st < m.rows.length) (s : ByteArray) :
  FSpec Tryz.prog w0 70 #[.agg (encMc m).toArray, .int .i64 (st : Int), .string s] H (Still (.int .i64 (afterF m.pl st s : Nat)) H) := by
 refine A8 Tryz.func70 U ntmps70 U ?_
 have hrow := (pm_row hp hst).1
 have hlt := (pm_row hp hst).2 _ (Nat.lt_succ_of_le (lett_le m.names s))
 have hle := lett_le m.names s
 refine Ag (Ab (e_ (Bi (T U) cs_) ?_ U))
 rintro _ _ ⟨n3, rfl, rfl⟩
 refine y_ (Ad Ak) (Af (Ae (Ag (Cj 11 [(0, true), (1, true), (2, true), (3, true), (4, true), (5, true), (6, true), (7, true), (8, true), (9, true), (10, true)] _ mixd (by kernel_rfl) sb0 ?_)))) U
 refine o_y U (Be (T U) Ck) (o_y U (Aj (T U) isAgg26 (by first | exact c_o)) ?_ U Ah) U Ah
 refine o_y U (Ac (T U)) (o_y U (Bb (T U) (T U) runUnderlying26 sizeOf42 (by omega) (by first | exact rfl | exact hm.a2.b (i := st) hst | exact (hm.r _ (Az hst)).b (i := lett m.names s) (by omega))) ?_ U Ah) U Ah
 refine o_y U (Aj (T U) isAgg42 (by first | exact c_o | exact cell1 ((hm.a2.mono sbt).cs (i := st) hst))) ?_ U Ah
 refine o_y U (Am (T U) isAgg29 sizeOf29 U (by first | exact Bh)) ?_ U Ah
 refine o_y U (Ac (T U)) (o_y U (Ax (.cons (T U) (.cons (T U) .nil)) call118 (fun H' hs => letter_s m (hm.mono (List.Sublist.trans sbt hs)) hsr hl s)) (o_y U (Bb (T U) (T U) runUnderlying42 sizeOf3 (by omega) (by first | exact rfl | exact hm.a2.b (i := st) hst | exact (hm.r _ (Az hst)).b (i := lett m.names s) (by omega))) ?_ U Ah) U Ah) U Ah
 refine o_y U (Aj (T U) isAgg3 (by first | exact c_o | exact cell1 (((hm.r _ (Az hst)).mono sbt).cs (i := lett m.names s) (by omega)))) ?_ U Ah
 refine o_y U (Ad (T U)) (B2 U (Af (Ae (A5 (A6 U (.tmp (Aa U) .nil) ?_))))) U Ah
 exact ⟨_, ⟨by unfold afterF; rw [nx_pl]; rfl, rfl⟩, sbt⟩
end Go.Proofs.YtkdolgnpkjihpaaGreatDoor
namespace Go.Proofs.YtkdolgnpkjihpaaGreatDoor
open _root_.Go.Proofs.Tryz
open Go.RowKit
set_option linter.unusedVariables false
set_option linter.unusedSimpArgs false
theorem list_eq {α : Type} [Inhabited α] {a b : List α} (hl : a.length = b.length) (h : ∀ j, j < a.length → gd a j = gd b j) : a = b :=
 List.ext_getElem hl fun j h1 h2 => by rw [← Bg h1, ← Bg h2]; exact h j h1
end Go.Proofs.YtkdolgnpkjihpaaGreatDoor
