/-
  A part of what LawE rests on: the logic, walks and plain laws. No condition.
-/
import Derived.Test.YtkojjapnfdlddaaGreatJe4
import Derived.Test.YtkojjapnfdlddaaGreatRows
import Derived.WalkKit
import Derived.ProofKit
import Derived.OpenShut
import Derived.Lib.SmallJoins
import Derived.Deep.SlicePairs
import Derived.Deep.DeepHandedRow
namespace Go.Proofs.YtkojjapnfdlddaaGreat
open _root_.Go.Proofs.Tryz
open Go.RowKit
set_option linter.unusedVariables false
set_option linter.unusedSimpArgs false
set_option linter.unusedSectionVars false
set_option maxRecDepth 100000
theorem zbd25_0_4 (a0:Int)(a1:Option Addr)(a1n a1c:Nat)(w:World):(Instr.build 25 #[(0, .int .i64 a0),(4, .slice a1 a1n a1c)]).run Tryz.prog w= .ok (.agg #[.int .i64 a0, .string ⟨#[]⟩, .int .i64 0, .int .i64 0, .slice a1 a1n a1c]) w:=by kernel_rfl
theorem E8 {w0:World}{H:List (Nat × Obj)}  :
  FSpec Tryz.prog w0 11 #[] H (Still (.bool true) H):=by
 refine Aq Tryz.func11 U ntmps11 U ?_;obtain⟨n1,n2,n3,n4,n5,n6,n7,s7,f1,f2,f3,f4,f5,f6,f7,hs7,hrd⟩:=ex_all;have hex:=ex_fin f1 f2 f3 f4 f5 f6 f7;refine rD tb 7 U (e_ (An .nil call37 (lex_s)) ?_ U);rintro _ _ ⟨n27,rfl,rfl⟩;refine e_ (An (.cons (T U) (.cons Aj .nil)) call13 (new_ex)) ?_ U;rintro _ _ ⟨D,v0,R,⟨rfl,hst0,hD,hHR⟩,rfl⟩;refine rO tb 7 U (y_ (yl_ptrN (T U)) (rO tb 8 U (y_ (Al (.cons Aj (.cons Aj .nil)) call29 (fun H' hs=>Hu nD 1)) (y_ (Al (.cons Aj (.cons Aj .nil)) call29 (fun H' hs=>Hu nD 2)) (e_ (Bd (.cons (T U) (.cons (T U) .nil)) (Dt _ _ _ _ _ _ _ _ _ _ _ _ _ _ _ _ _ _ _ _ _ _ _ _ _ _)) ?_ U) U) U)) U);rintro _ _ ⟨n35,rfl,rfl⟩;refine y_ (Al (.cons Aj (.cons (T U) .nil)) call24 (fun H' hs=>I7 4 (some ⟨n35,0,none⟩) [mSet nD 1,mSet nD 2] 2)) ?_ U;refine e_ (An (.cons (T U) (.cons (T U) (.cons Aj .nil))) call14 (B6 (M:=SM D v0 (nsE 70)) (Jt (R:=((n35,Cl (encPo (mSet nD 1)++encPo (mSet nD 2)) 28)::R)) hst0 (hD.mono (by exact sbt)) f1 (mOp2 4 n35 (mSet nD 1) (mSet nD 2)) (.seq U U (Hv (n:=1) fndD) (Hv (n:=2) fndD)) (Ix (by repeat (first|exact Au|refine Ay ?_)) (Fv Hh) (Fv Hh)) ⟨⟨inD,(pin 1 qde).1⟩,⟨inD,(pin 2 qde).1⟩⟩) (by repeat (first|exact Bs|exact LocL.h|apply LocL.t|apply LocL.a)))) ?_ U;rintro _ _ ⟨v1,⟨rfl,hst1⟩,rfl⟩;refine rO tb 10 U (e_ (An (.cons (T U) (.cons Aj (.cons Aj .nil))) call38 (B6 (M:=SM D v1 n1) (set_ex (R:=((n35,Cl (encPo (mSet nD 1)++encPo (mSet nD 2)) 28)::R)) hst1 (hD.mono (by exact sbt)) f2) (by repeat (first|exact Bs|exact LocL.h|apply LocL.t|apply LocL.a)))) ?_ U);rintro _ _ ⟨v2,⟨rfl,hst2⟩,rfl⟩;refine rO tb 10 U (y_ (Al (.cons Aj (.cons Aj .nil)) call30 (fun H' hs=>J7 nD 1)) (y_ (Al (qe1 U) call28 (fun H' hs=>lfil_s (mEq nD 1))) (y_ (Al (.cons Aj (.cons Aj .nil)) call30 (fun H' hs=>J7 nD 1)) (e_ (Bd (.cons (T U) .nil) (zbs23_1_0 _ _ _ _ _ _ _)) ?_ U) U) U) U);rintro _ _ ⟨n50,rfl,rfl⟩;refine y_ (A9 (.cons Aj (.cons (T U) .nil)) (zbd25_0_4 _ _ _ _)) (y_ (Al (qe1 U) call28 (fun H' hs=>lfil_s (mNo n50 (mEq nD 1)))) (e_ (Bd (.cons (T U) (.cons (T U) .nil)) (Dt _ _ _ _ _ _ _ _ _ _ _ _ _ _ _ _ _ _ _ _ _ _ _ _ _ _)) ?_ U) U) U;rintro _ _ ⟨n53,rfl,rfl⟩;refine y_ (Al (.cons Aj (.cons (T U) .nil)) call24 (fun H' hs=>I7 3 (some ⟨n53,0,none⟩) [mFil (mEq nD 1),mFil (mNo n50 (mEq nD 1))] 2)) ?_ U;refine e_ (An (.cons (T U) (.cons (T U) (.cons Aj .nil))) call14 (B6 (M:=SM D v2 n2) (Jt (R:=((n53,Cl (encPo (mFil (mEq nD 1))++encPo (mFil (mNo n50 (mEq nD 1)))) 28)::(n50,Cl (encPd (mEq nD 1)) 25)::(n35,Cl (encPo (mSet nD 1)++encPo (mSet nD 2)) 28)::R)) hst2 (hD.mono (by exact sbt)) f3 (mOp2 3 n53 (mFil (mEq nD 1)) (mFil (mNo n50 (mEq nD 1)))) (.uni U U (.fil U (J8 (n:=1) fndD)) (.fil U (.no U U (J8 (n:=1) fndD)))) (Ix (by repeat (first|exact Au|refine Ay ?_)) (Fv Jy) (Fv (pd_no (by repeat (first|exact Au|refine Ay ?_)) Jy))) ⟨⟨inD,(pin 1 qde).1⟩,⟨inD,(pin 1 qde).1⟩⟩) (by repeat (first|exact Bs|exact LocL.h|apply LocL.t|apply LocL.a)))) ?_ U;rintro _ _ ⟨v3,⟨rfl,hst3⟩,rfl⟩;refine kO tb 7 [1,2,3,4,5,6,7] rfl U (rG tb 3 U (y_ (A9 (.cons Aj .nil) (zbd25_0 _)) (e_ (An (.cons (T U) (.cons (T U) (.cons Aj .nil))) call39 (B6 (M:=SM D v3 n3) (fil_ex (R:=((n53,Cl (encPo (mFil (mEq nD 1))++encPo (mFil (mNo n50 (mEq nD 1)))) 28)::(n50,Cl (encPd (mEq nD 1)) 25)::(n35,Cl (encPo (mSet nD 1)++encPo (mSet nD 2)) 28)::R)) hst3 (hD.mono (by exact sbt)) f4 mTru (.tru U) Jy trivial) (by repeat (first|exact Bs|exact LocL.h|apply LocL.t|apply LocL.a)))) ?_ U) U));rintro _ _ ⟨v4,⟨rfl,hst4⟩,rfl⟩;refine rO tb 10 U (y_ (Al (.cons Aj (.cons Aj .nil)) call29 (fun H' hs=>Hu nK 1)) (y_ (Al (.cons Aj (.cons Aj .nil)) call29 (fun H' hs=>Hu nK 2)) (e_ (Bd (.cons (T U) (.cons (T U) .nil)) (Dt _ _ _ _ _ _ _ _ _ _ _ _ _ _ _ _ _ _ _ _ _ _ _ _ _ _)) ?_ U) U) U);rintro _ _ ⟨n68,rfl,rfl⟩;refine y_ (Al (.cons Aj (.cons (T U) .nil)) call24 (fun H' hs=>I7 3 (some ⟨n68,0,none⟩) [mSet nK 1,mSet nK 2] 2)) (e_ (Bd (.cons (T U) .nil) (zbs26_1_0 _ _ _ _ _ _ _ _ _ _ _ _ _)) ?_ U) U;rintro _ _ ⟨n70,rfl,rfl⟩;refine y_ (Al (.cons Aj (.cons (T U) .nil)) call24 (fun H' hs=>I7 5 (some ⟨n70,0,none⟩) [(mOp2 3 n68 (mSet nK 1) (mSet nK 2))] 1)) ?_ U;refine e_ (An (.cons (T U) (.cons (T U) (.cons Aj .nil))) call14 (B6 (M:=SM D v4 n4) (Jt (R:=((n70,Cl (encPo (mOp2 3 n68 (mSet nK 1) (mSet nK 2))) 28)::(n68,Cl (encPo (mSet nK 1)++encPo (mSet nK 2)) 28)::(n53,Cl (encPo (mFil (mEq nD 1))++encPo (mFil (mNo n50 (mEq nD 1)))) 28)::(n50,Cl (encPd (mEq nD 1)) 25)::(n35,Cl (encPo (mSet nD 1)++encPo (mSet nD 2)) 28)::R)) hst4 (hD.mono (by exact sbt)) f5 (mOp1 5 n70 (mOp2 3 n68 (mSet nK 1) (mSet nK 2))) (.star U U (.uni U U (Hv (n:=1) fndK) (Hv (n:=2) fndK))) (po_op1 (by repeat (first|exact Au|refine Ay ?_)) (Ix (by repeat (first|exact Au|refine Ay ?_)) (Fv Hh) (Fv Hh))) ⟨⟨inK,(pin 1 qde).2⟩,⟨inK,(pin 2 qde).2⟩⟩) (by repeat (first|exact Bs|exact LocL.h|apply LocL.t|apply LocL.a)))) ?_ U;rintro _ _ ⟨v5,⟨rfl,hst5⟩,rfl⟩;refine rO tb 10 U (y_ (Al (.cons Aj (.cons Aj .nil)) call30 (fun H' hs=>J7 nD 3)) (e_ (An (.cons (T U) (.cons (T U) (.cons Aj .nil))) call39 (B6 (M:=SM D v5 n5) (fil_ex (R:=((n70,Cl (encPo (mOp2 3 n68 (mSet nK 1) (mSet nK 2))) 28)::(n68,Cl (encPo (mSet nK 1)++encPo (mSet nK 2)) 28)::(n53,Cl (encPo (mFil (mEq nD 1))++encPo (mFil (mNo n50 (mEq nD 1)))) 28)::(n50,Cl (encPd (mEq nD 1)) 25)::(n35,Cl (encPo (mSet nD 1)++encPo (mSet nD 2)) 28)::R)) hst5 (hD.mono (by exact sbt)) f6 (mEq nD 3) (J8 (n:=3) fndD) Jy ⟨inD,(pin 3 qde).1⟩) (by repeat (first|exact Bs|exact LocL.h|apply LocL.t|apply LocL.a)))) ?_ U) U);rintro _ _ ⟨v6,⟨rfl,hst6⟩,rfl⟩;refine kO tb 7 [1,2,3,4,5,6,7,8,9,10,11,12,13] rfl U ?_;refine I9 (X:=List (Nat × Obj)) (V:=fun M=>[(14, .int .i64 906),(15, .int .i64 0)]) (C:=[(1,_),(2,_),(3,_),(4,_),(5,_),(6,_),(7,_),(8,_),(9,_),(10,_),(11,_),(12,_),(13,_)]) (G:=fun M=>M) (φ:=fun M=>∃ v7,ExM w0 M D v7 n7∧H.Sublist M) ⟨Aa U,Aa U,Aa U,Aa U,Aa U,Aa U,Aa U,Aa U,Aa U,Aa U,Aa U,Aa U,Aa U,trivial⟩ ?_ ?_
 ·refine rD tb 2 U (y_ (Al (.cons Aj (.cons Aj .nil)) call30 (fun H' hs=>J7 nD 3)) (y_ (Al (qe1 U) call28 (fun H' hs=>lfil_s (mEq nD 3))) (y_ (Al (.cons Aj (.cons Aj .nil)) call29 (fun H' hs=>Hu nK 1)) (y_ (Al (.cons Aj (.cons Aj .nil)) call29 (fun H' hs=>Hu nK 2)) (e_ (Bd (.cons (T U) (.cons (T U) .nil)) (Dt _ _ _ _ _ _ _ _ _ _ _ _ _ _ _ _ _ _ _ _ _ _ _ _ _ _)) ?_ U) U) U) U) U);rintro _ _ ⟨n87,rfl,rfl⟩;refine y_ (Al (.cons Aj (.cons (T U) .nil)) call24 (fun H' hs=>I7 3 (some ⟨n87,0,none⟩) [mSet nK 1,mSet nK 2] 2)) (e_ (Bd (.cons (T U) (.cons (T U) .nil)) (Dt _ _ _ _ _ _ _ _ _ _ _ _ _ _ _ _ _ _ _ _ _ _ _ _ _ _)) ?_ U) U;rintro _ _ ⟨n89,rfl,rfl⟩;refine y_ (Al (.cons Aj (.cons (T U) .nil)) call24 (fun H' hs=>I7 4 (some ⟨n89,0,none⟩) [mFil (mEq nD 3),(mOp2 3 n87 (mSet nK 1) (mSet nK 2))] 2)) ?_ U;refine e_ (An (.cons (T U) (.cons (T U) (.cons Aj .nil))) call14 (B6 (M:=SM D v6 n6) (Jt (R:=((n89,Cl (encPo (mFil (mEq nD 3))++encPo (mOp2 3 n87 (mSet nK 1) (mSet nK 2))) 28)::(n87,Cl (encPo (mSet nK 1)++encPo (mSet nK 2)) 28)::(n70,Cl (encPo (mOp2 3 n68 (mSet nK 1) (mSet nK 2))) 28)::(n68,Cl (encPo (mSet nK 1)++encPo (mSet nK 2)) 28)::(n53,Cl (encPo (mFil (mEq nD 1))++encPo (mFil (mNo n50 (mEq nD 1)))) 28)::(n50,Cl (encPd (mEq nD 1)) 25)::(n35,Cl (encPo (mSet nD 1)++encPo (mSet nD 2)) 28)::R)) hst6 (hD.mono (by exact sbt)) f7 (mOp2 4 n89 (mFil (mEq nD 3)) (mOp2 3 n87 (mSet nK 1) (mSet nK 2))) (.seq U U (.fil U (J8 (n:=3) fndD)) (.uni U U (Hv (n:=1) fndK) (Hv (n:=2) fndK))) (Ix (by repeat (first|exact Au|refine Ay ?_)) (Fv Jy) (Ix (by repeat (first|exact Au|refine Ay ?_)) (Fv Hh) (Fv Hh))) ⟨⟨inD,(pin 3 qde).1⟩,⟨⟨inK,(pin 1 qde).2⟩,⟨inK,(pin 2 qde).2⟩⟩⟩) (by repeat (first|exact Bs|exact LocL.h|apply LocL.t|apply LocL.a)))) ?_ U;rintro _ _ ⟨v7,⟨rfl,hst7⟩,rfl⟩;refine rO tb 6 U ?_;refine Bb (_) ?_ ⟨atd,atd,trivial⟩ ⟨Aa U,Aa U,Aa U,Aa U,Aa U,Aa U,Aa U,Aa U,Aa U,Aa U,Aa U,Aa U,Aa U,trivial⟩ sbt;exact⟨v7,⟨hst7,hD.bs,by repeat (first|exact List.sublist_append_left _ _|refine List.Sublist.cons _ ?_),hD.en.bits.mono (by exact sbt),hex⟩,hHR.trans (by exact sbt)⟩
 rintro M ⟨v7,hX,hHM⟩;refine rC tb 4 U (y_ (Ej (T U) Aj U) (rO tb 2 U (Ax (Ej (T U) Aj U) U (A1 U U (Aa U)) (rO tb 3 U (Ax (Ej (T U) Aj U) U (A1 U U (Aa U)) (rO tb 3 U (Ax (Ej (T U) Aj U) U (A1 U U (Aa U)) (rO tb 3 U (Ax (Ej (T U) Aj U) U (A1 U U (Aa U)) (rO tb 3 U (Ax (Ej (T U) Aj U) U (A1 U U (Aa U)) (rO tb 3 U (Ax (Ej (T U) Aj U) U (A1 U U (Aa U)) (rO tb 4 U (Ax (Ej (T U) (T U) U) U (A1 U U (Aa U)) (rO tb 4 U (Ax (Ej (T U) (T U) U) U (A1 U U (Aa U)) (rO tb 4 U (Ax (yl_eqF (T U) (T U) qde) U (A1 U U (Aa U)) ?_)))))))))))))))))) U);refine kO tb 3 [1,2,4,8,10,12,14,134] rfl U (rG tb 7 U (y_ (A9 .nil (Er)) (e_ (An (qe3 U U U) call21 (ev5_ex hX)) ?_ U) U));rintro _ _ ⟨d5,⟨hd5,rfl⟩,rfl⟩;have hA5:Arr w0 (slH d5 ([hd0,hk1,hk2].flatMap encHd) 30) (slQ d5) 10 encHd [hd0,hk1,hk2]:=by have:=Cz (w0:=w0) (e:=30) (X:=[]) (enc:=encHd) Ck hd5;rwa [List.append_nil] at this
 refine rO tb 11 U (y_ (A9 .nil (Er)) (e_ (An (qe3 U U U) call21 (ev6_ex (hX.mono (by exact sbt)))) ?_ U) U);rintro _ _ ⟨d6,rfl,rfl⟩;refine rO tb 12 U (y_ (Al (qe3 U U U) call15 (fun H' hs=>df1_ex ((hX.mono (by exact sbt)).mono hs))) ?_ U);refine rO tb 3 U (e_ (Ak zeroValue30 cs_) ?_ U);rintro _ _ ⟨n20,rfl,rfl⟩
 first|refine A5 (Km U U sizeOf30) U Ad ?_
 rintro _ _ ⟨rfl,rfl⟩;refine kO tb 3 [1,2,4,8,12,14,16,17,18,19,20,21] rfl U (rG tb 5 U (y_ (Al (qe3 U U U) call15 (fun H' hs=>df2_ex ((hX.mono (by exact sbt)).mono hs))) ?_ U));refine rO tb 3 U (e_ (Ak zeroValue30 cs_) ?_ U);rintro _ _ ⟨n22,rfl,rfl⟩
 first|refine A5 (Km U U sizeOf30) U Ad ?_
 rintro _ _ ⟨rfl,rfl⟩;refine rO tb 7 U (e_ (An (qe2 U U) call20 (rl_ex (hX.mono (by exact sbt)) hs7 hrd)) ?_ U);rintro _ _ ⟨d9,ch9,X9,⟨hms,hd9,rfl⟩,rfl⟩;have hA9:Arr w0 (slH d9 ([ch9].flatMap encCh) 81) (slQ d9) 21 encCh [ch9]:=by have:=Cz (w0:=w0) (e:=81) (X:=[]) (enc:=encCh) encCh_len hd9;rwa [List.append_nil] at this
 refine kO tb 7 [1,8,12,16,17,18,19,20,21,23,24,25] rfl U (rG tb 7 U ?_);refine Be (X:=Nat) (V:=fun i=>[(26, .int .i64 (i:Nat))]) (C:=[(1,_),(8,_),(12,_),(16,_),(17,_),(18,_),(19,_),(20,_),(21,_),(23,_),(24,_),(25,_)]) (G:=fun i=>slH d9 ([ch9].flatMap encCh) 81++(X9++((n22,Cl (hdC hd0) 30)::(n20,Cl (hdC hd0) 30)::(slH d6 [] 30++(slH d5 ([hd0,hk1,hk2].flatMap encHd) 30++M))))) (φ:=fun i=>i≤1) (μ:=fun i=>1 - i) (x0:=0) ?_ ⟨Aa U,Aa U,Aa U,Aa U,Aa U,Aa U,Aa U,Aa U,Aa U,Aa U,Aa U,Aa U,trivial⟩ ⟨atd,trivial⟩ sb0 ?_
 ·exact Nat.zero_le _
 rintro i hi;refine rD tb 9 U ?_
 first|refine Ac (Aa U) (fun c172=> ?_) (fun c172=> ?_)|refine Ag (Aa U) (fun c172=> ?_) (fun c172=> ?_)
 ·obtain rfl:i=0:=by have h9:((i:Nat):Int)<1:=c172;omega
  refine rC tb 8 U (y_ (Kl U U runUnderlying48 sizeOf81 qom (by first|exact rfl|exact hA9.b (i:=0) Nat.zero_lt_one|exact hA5.b (i:=1) (show 1<3 from qde))) ?_ U);refine rO tb 1 U (y_ (Kj U isAgg79 (by first|exact c_o|exact(hA9.mono (List.sublist_append_left _ _)).cs (i:=0) Nat.zero_lt_one 20 _ U)) ?_ U);refine rO tb 1 U (y_ (Ej (T U) Aj (by show ((ch9.ms.length:Nat):Int)=2;rw[hms];rfl)) ?_ U);refine rO tb 8 U (y_ (Bc (T U) Aj qom) ?_ U);refine rO tb 2 U ?_;refine A3 (0+1) ?_ ?_ ⟨atd,trivial⟩ ⟨Aa U,Aa U,Aa U,Aa U,Aa U,Aa U,Aa U,Aa U,Aa U,Aa U,Aa U,Aa U,trivial⟩ ?_
  ·exact Nat.le_refl _
  ·exact Nat.lt_succ_self _
  ·exact sbt
 ·skip
  refine rC tb 2 U (Ar (rX tb 5 U (y_ (Dh (T U) Aj U) (rO tb 3 U (Ax (Dh (T U) Aj U) U (A1 U U (Aa U)) (rO tb 3 U (Ax (Ca (T U) Aj runUnderlying42 sizeOf30 qde (by first|exact rfl|exact hA9.b (i:=0) Nat.zero_lt_one|exact hA5.b (i:=1) (show 1<3 from qde))) U (A1 U U (Aa U)) ?_)))) U)));refine Ax (Bk (T U) Aj runUnderlying30 sizeOf3 qom) U (A1 U U (Aa U)) ?_;refine Ax (Kj U isAgg3 (by first|exact c_o|exact(hA5.mono (by repeat (first|exact List.sublist_append_left _ _|refine List.Sublist.cons _ ?_|refine List.Sublist.trans ?_ (List.sublist_append_right _ _)))).cs (i:=1) (show 1<3 from qde) 2 _ U)) U (A1 U U (Aa U)) ?_;refine Ax (Dh (T U) Aj U) U (A1 U U (Aa U)) (rO tb 3 U (Ax (Dh (T U) Aj U) U (A1 U U (Aa U)) (rO tb 4 U (Ax (Dh (T U) Aj U) U (A1 U U (Aa U)) (rO tb 5 U (Ax (Kk U isAgg30 sizeOf30 U (by first|exact As)) U (A1 U U (Aa U)) ?_))))));refine Ax (A9 .nil (Er)) U (A1 U U (Aa U)) (Ax (Ig (T U) (T U) qkr eqH0) U (A1 U U (Aa U)) ?_);refine rO tb 3 U ?_
  first|refine Ax (Bq (T U)) U (A1 U U (Aa U)) ?_|refine Ax (B4 (T U)) U (A1 U U (Aa U)) ?_
  refine rO tb 3 U (Ax (Dh (T U) Aj U) U (A1 U U (Aa U)) (rO tb 4 U (Ax (yl_geT (T U) Aj (show (1:Int)≤((1:Nat):Int) from qde)) U (A1 U U (Aa U)) ?_)));refine rO tb 4 U (Ax (A9 .nil (Er)) U (A1 U U (Aa U)) (Ax (Al (qe3 U U U) call34 (fun H' hs=>gv_ex (a:=238) ((hX.mono (by exact sbt)).mono hs) qde hX.ex.g4)) U (A1 U U (Aa U)) ?_));refine rO tb 4 U (Ax (A9 .nil (Er)) U (A1 U U (Aa U)) (Ax (Al (qe3 U U U) call34 (fun H' hs=>gv_ex (a:=843) ((hX.mono (by exact sbt)).mono hs) qde hX.ex.g6)) U (A1 U U (Aa U)) ?_))
  first|refine Ax (Bq (T U)) U (A1 U U (Aa U)) ?_|refine Ax (B4 (T U)) U (A1 U U (Aa U)) ?_
  refine kO tb 4 [0] rfl U (rG tb 1 U (Ai U (Ki U) ?_));exact⟨_,⟨rfl,rfl⟩,hHM.trans (by exact sbt)⟩
theorem lright_n {w0:World}{H:List (Nat × Obj)}(fi:List Fi)(q:Option Addr)(n c:Nat)(hn:n=fi.length)(hA:Arr w0 H q 3 encFi fi)(hnm:∀ f∈fi,f.nm.size≤9223372036854775807)(h:List Int)(hl:h.length=10)(tick:Int):
  FSpec Tryz.prog w0 10 #[.slice q n c, .agg (hwC h).toArray, .int .i64 tick] H (SayB (FisOk fi∧(∀ k,k<10→0≤gd h k∧gd h k≤65535)∧0≤tick∧tick≤1073741824) H):=by
 subst hn;exact lright_s fi q c hA hnm h hl tick
theorem fis_fl {w0:World}{H:List (Nat × Obj)}{q:Option Addr}{fi:List Fi}(h:FisOk fi)(hA:Arr w0 H q 3 encFi fi):∃ fl:List Fd,FlOk fl∧fi.length=fl.length∧Arr w0 H q 3 encF fl:=⟨fi.map Fi.fd,h.fl,by rw[List.length_map],fun i u hi=>by
 have he:=h.enc;rw[List.getElem?_map] at hi;cases hf:fi[i]? with
 |none=>rw[hf] at hi;cases hi
 |some f=>
  rw[hf] at hi;obtain rfl:f.fd=u:=Option.some.inj hi;have h2:encFi f=encF f.fd:=by
   have h3:(fi.map encFi)[i]? =((fi.map Fi.fd).map encF)[i]? :=by rw[he]
   rw[List.getElem?_map,List.getElem?_map,List.getElem?_map,hf] at h3;exact Option.some.inj h3
  have:=hA i f hf;rw[h2] at this;exact this⟩
theorem try_ok {α:Type}{F:Option α}{z:α}{e:Int}{A B:Prop}(h:(F=some z∧e=0)∨(F=none∧A∧e=12∧B))(he:e=0):F=some z:=by
 rcases h with h|h
 ·exact h.1
 ·have:=h.2.2.1;omega
theorem eqHd {a b:Hd}(ha:HdOk a)(hb:HdOk b)(w:World):(Op.equal 30 (.agg (hdC a).toArray) (.agg (hdC b).toArray)).run Tryz.prog w= .ok (decide (a=b)) w:=by
 obtain⟨a0,a1,a2,a3,a4,a5,a6,a7,a8,a9,rfl⟩:=hd10 ha;obtain⟨b0,b1,b2,b3,b4,b5,b6,b7,b8,b9,rfl⟩:=hd10 hb;unfold Op.equal Op.maxDepth;rw[run_equalIn_array (i:=Tryz.prog.types.getD 3 default) w 9999 _ _ (show Tryz.prog.underlying 30=some (.array 10 3) from by kernel_rfl) qkr];have h:=eqItems_ints 9998 3 .i64 .i64 qkr part3 [(a0:Int),(a1:Int),(a2:Int),(a3:Int),(a4:Int),(a5:Int),(a6:Int),(a7:Int),(a8:Int),(a9:Int)] [(b0:Int),(b1:Int),(b2:Int),(b3:Int),(b4:Int),(b5:Int),(b6:Int),(b7:Int),(b8:Int),(b9:Int)] w [0,1,2,3,4,5,6,7,8,9] (by simp);rw[show Tryz.prog.cellsOf 3=1 from by kernel_rfl,show List.range 10=[0,1,2,3,4,5,6,7,8,9] from rfl];show (Op.eqItems (9998+1) 3 1 ([(a0:Int),(a1:Int),(a2:Int),(a3:Int),(a4:Int),(a5:Int),(a6:Int),(a7:Int),(a8:Int),(a9:Int)].map (Value.int .i64)).toArray ([(b0:Int),(b1:Int),(b2:Int),(b3:Int),(b4:Int),(b5:Int),(b6:Int),(b7:Int),(b8:Int),(b9:Int)].map (Value.int .i64)).toArray [0,1,2,3,4,5,6,7,8,9]).run Tryz.prog w=_;rw[h];refine congrArg (fun r=>Result.ok r w) ?_;rw[Bool.eq_iff_iff];simp[gd];omega
theorem fget_le {f:Fd}(hf:FdOk f){h:Hd}(hh:HdOk h):fget f h*2 ^ (16 - f.pos % 16 - f.w)≤gd h (f.pos / 16):=by
 rw[G7 hf hh]
 generalize 2 ^ (16 - f.pos % 16 - f.w)=s;have h3:=Nat.div_mul_le_self (gd h (f.pos / 16)) s;have h4:gd h (f.pos / 16) / s % 2 ^ f.w≤gd h (f.pos / 16) / s:=Nat.mod_le _ _;exact Nat.le_trans (Nat.mul_le_mul_right _ h4) h3
theorem yl_addW {P:Program}{w0:World}{L:Fm}{H:List (Nat × Obj)}{ty xt yt:TypeId}{x y:Operand}{a n v p:Nat}(hx:Ev L x (.int .i64 (a:Nat)))(hy:Ev L y (.int .i64 ((((n:Nat):Int) - ((v:Nat):Int))*((p:Nat):Int))))(h:v*p≤a∧a≤65535∧n*p≤65536):Yl P w0 (.binOp .add xt x y yt) ty L H (.int .i64 ((a - v*p+n*p:Nat):Int)):=by
 have e:(a:Int)+(((n:Nat):Int) - ((v:Nat):Int))*((p:Nat):Int)=((a - v*p+n*p:Nat):Int):=by
  rw[Int.sub_mul,← Int.natCast_mul,← Int.natCast_mul];omega
 have h:=Bc (P:=P) (w0:=w0) (H:=H) (ty:=ty) (xt:=xt) (yt:=yt) hx hy (by rw[e];omega)
 rwa [e] at h
theorem yl_mulW {P:Program}{w0:World}{L:Fm}{H:List (Nat × Obj)}{ty xt yt:TypeId}{x y:Operand}{n v p:Nat}(hx:Ev L x (.int .i64 (((n:Nat):Int) - ((v:Nat):Int))))(hy:Ev L y (.int .i64 (p:Nat)))(h:v*p≤65536∧n*p≤65536):Yl P w0 (.binOp .mul xt x y yt) ty L H (.int .i64 ((((n:Nat):Int) - ((v:Nat):Int))*((p:Nat):Int))):=by
 have e:(((n:Nat):Int) - ((v:Nat):Int))*((p:Nat):Int)=((n*p:Nat):Int) - ((v*p:Nat):Int):=by
  rw[Int.sub_mul,← Int.natCast_mul,← Int.natCast_mul]
 exact Ie (P:=P) (w0:=w0) (H:=H) (ty:=ty) (xt:=xt) (yt:=yt) hx hy (by rw[e];omega)
theorem rlast_s {w0:World}{H:List (Nat × Obj)}(f:Fd)(hf:FdOk f):
  FSpec Tryz.prog w0 141 #[.agg (encF f).toArray] H (Still (.int .i64 ((2 ^ (16 - f.pos % 16 - f.w):Nat):Int)) H):=by
 refine Aq Tryz.func141 U ntmps141 U ?_;have h1:=hf.fit;have h2:=hf.lt;have h3:=hf.w16;have h4:=hf.w1;refine rD tb 2 U (e_ (Ko U cs_) ?_ U);rintro _ _ ⟨n1,rfl,rfl⟩;refine rO tb 6 U (y_ (Kj U isAgg3 (by first|exact c_o)) ?_ U);refine y_ (D1 (c:=16) (T U) Aj qom) ?_ U;refine y_ (Cq (a:=16) Aj (T U) qom) ?_ U;refine rO tb 1 U (y_ (Kj U isAgg3 (by first|exact c_o)) ?_ U);refine y_ (Cq (T U) (T U) qom) ?_ U;refine y_ (Al (qe1 U) call121 (fun H' hs=>rpower_s (16 - f.pos % 16 - f.w) qom)) ?_ U;refine rO tb 4 U (Ai U (Ki U) ?_);exact⟨_,⟨rfl,rfl⟩,sbt⟩
theorem rget_s {w0:World}{H:List (Nat × Obj)}(f:Fd)(hf:FdOk f)(h:Hd)(hh:HdOk h):
  FSpec Tryz.prog w0 139 #[.agg (encF f).toArray, .agg (hdC h).toArray] H (Still (.int .i64 (fget f h:Nat)) H):=by
 refine Aq Tryz.func139 U ntmps139 U ?_;have h1:=hf.fit;have h2:=hf.lt;have h3:=hf.w16;have h4:=hf.w1;have hlen:=hh.len;have hgl:=Di hh (f.pos / 16);have hp:f.pos / 16<h.length:=by omega
 refine rD tb 2 U (e_ (Ko U cs_) ?_ U);rintro _ _ ⟨n2,rfl,rfl⟩;refine e_ (Ko U cs_) ?_ U;rintro _ _ ⟨n3,rfl,rfl⟩;refine rO tb 4 U (Bf 13 [(0,true),(1,true),(2,true),(3,true),(4,true),(5,true),(6,true),(7,true),(8,true),(9,true),(10,true),(11,true),(12,true)] _ mixd qkr sb0 ?_ Bj);refine rP tb 1 U (o_y U (Kj U isAgg3 (by first|exact c_o)) ?_ U Ad);refine o_y U (C3 (c:=16) (T U) Aj qom) ?_ U Ad;refine o_y U (Bk (T U) (T U) runUnderlying30 sizeOf3 qom) ?_ U Ad;refine o_y U (Kj U isAgg3 (by first|exact c_o|exact C4 (Ah fdd) hp)) ?_ U Ad;refine o_y U (Kk U isAgg67 sizeOf67 U (by first|exact As)) ?_ U Ad;refine o_y U (Al (qe1 U) call141 (fun H' hs=>rlast_s f hf)) (o_y U (C3 (T U) (T U) (by have:=Nat.two_pow_pos (16 - f.pos % 16 - f.w);omega)) ?_ U Ad) U Ad;refine rP tb 1 U (o_y U (Kj U isAgg3 (by first|exact c_o)) ?_ U Ad);refine o_y U (Al (qe1 U) call121 (fun H' hs=>rpower_s f.w h3)) (o_y U (D1 (T U) (T U) (by have:=Nat.two_pow_pos f.w;omega)) ?_ U Ad) U Ad;refine rP tb 1 U (A2 U (rO tb 3 U (Ai U (Ki U) ?_)));exact⟨_,⟨vint (by rw[G7 hf hh]),rfl⟩,by exact sbt⟩
theorem rset_s {w0:World}{H:List (Nat × Obj)}(f:Fd)(hf:FdOk f)(h:Hd)(hh:HdOk h)(n:Nat)(hn:n<2 ^ f.w):
  FSpec Tryz.prog w0 100 #[.agg (encF f).toArray, .agg (hdC h).toArray, .int .i64 (n:Nat)] H (Still (.agg (hdC (fset f h n)).toArray) H):=by
 refine Aq Tryz.func100 U ntmps100 U ?_;have h1:=hf.fit;have h2:=hf.lt;have h3:=hf.w16;have h4:=hf.w1;have hlen:=hh.len;have hgl:=Di hh (f.pos / 16);have hp:f.pos / 16<h.length:=by omega
 have hfl:=fget_le hf hh;have hgt:=fget_lt f h;have hpw:2 ^ f.w≤2 ^ 16:=Nat.pow_le_pow_right qom h3;have hpw:2 ^ f.w≤65536:=hpw;have hsl:2 ^ f.w*2 ^ (16 - f.pos % 16 - f.w)≤65536:=by rw[← Nat.pow_add];exact Cj qom
 have hnl:n*2 ^ (16 - f.pos % 16 - f.w)≤2 ^ f.w*2 ^ (16 - f.pos % 16 - f.w):=Nat.mul_le_mul_right _ qom;have hfw:=fset_word hf hh hn;have hso:=Cg f h n;refine rD tb 2 U (e_ (Ko U cs_) ?_ U);rintro _ _ ⟨n3,rfl,rfl⟩;refine e_ (Ko U cs_) ?_ U;rintro _ _ ⟨n4,rfl,rfl⟩;refine e_ (Ak zeroValue30 cs_) ?_ U;rintro _ _ ⟨n6,rfl,rfl⟩;refine rO tb 4 U (y_ (Kk U isAgg67 sizeOf67 U (by first|exact As)) ?_ U);refine y_ (Kk U isAgg30 sizeOf30 (Aw hh) (by first|exact Ah fdd|exact As)) ?_ U;refine y_ (Al (qe2 U U) call139 (fun H' hs=>rget_s f hf h hh)) (rO tb 4 U (Bf 16 [(0,true),(1,true),(2,true),(3,true),(4,true),(5,true),(6,true),(7,true),(8,true),(9,true),(10,true),(11,true),(12,true),(13,true),(14,true),(15,true)] _ mixd qkr sb0 ?_ Bj)) U;refine rP tb 1 U (o_y U (Kj U isAgg3 (by first|exact c_o)) ?_ U Ad);refine o_y U (C3 (c:=16) (T U) Aj qom) ?_ U Ad;refine rP tb 1 U (o_y U (Kj U isAgg3 (by first|exact c_o)) ?_ U Ad);refine o_y U (C3 (c:=16) (T U) Aj qom) ?_ U Ad;refine o_y U (Bk (T U) (T U) runUnderlying30 sizeOf3 qom) ?_ U Ad;refine o_y U (Kj U isAgg3 (by first|exact c_o|exact C4 (Ah fdd) hp)) ?_ U Ad;refine rP tb 2 U (o_y U (Hm (T U) (T U) qom) ?_ U Ad);refine o_y U (Kk U isAgg67 sizeOf67 U (by first|exact As)) ?_ U Ad;refine o_y U (Al (qe1 U) call141 (fun H' hs=>rlast_s f hf)) (o_y U (yl_mulW (T U) (T U) qom) ?_ U Ad) U Ad;refine o_y U (yl_addW (T U) (T U) qom) ?_ U Ad;refine o_y U (Bk (T U) (T U) runUnderlying30 sizeOf3 qom) ?_ U Ad;refine A2 U (e_ (Bg (T U) (T U) U sizeOf3 (hs:=Fu hp)) ?_ U);rintro _ _ ⟨rfl,rfl⟩;rw[← hfw];refine rO tb 4 U ?_;refine y_ (Kk U isAgg30 sizeOf30 (Aw hso) (by first|exact Ah fdd|exact As)) ?_ U;refine e_ (Km U U sizeOf30 .agg (Ep _) (Aw hso) (by repeat (first|exact Upd.h|apply Upd.t|apply Ce)) (by rw[Aw hso];rfl)) ?_ U;rintro _ _ ⟨rfl,rfl⟩;refine rO tb 3 U (Ai U (.cellA (Aa U) isAgg30 sizeOf30 (Aw hso) (by first|exact As) .nil) ?_);exact⟨_,⟨rfl,rfl⟩,by exact sbt⟩
theorem cmp_at {a b:List Nat}{k:Nat}(h1:k<a.length)(h2:k<b.length)(h:cmpL a b=cmpL (a.drop k) (b.drop k)):(gd a k<gd b k→cmpL a b= -1)∧(gd b k<gd a k→cmpL a b=1)∧(gd a k=gd b k→cmpL a b=cmpL (a.drop (k+1)) (b.drop (k+1))):=by
 rw[h,cmpL_drop h1 h2];unfold cmpI;refine⟨fun e=> ?_,fun e=> ?_,fun e=> ?_⟩
 ·rw[if_pos (show ((gd a k:Nat):Int)<(gd b k:Nat) by omega)];rfl
 ·rw[if_neg (show ¬ ((gd a k:Nat):Int)<(gd b k:Nat) by omega),if_pos (show ((gd b k:Nat):Int)<(gd a k:Nat) by omega)];rfl
 ·rw[if_neg (show ¬ ((gd a k:Nat):Int)<(gd b k:Nat) by omega),if_neg (show ¬ ((gd b k:Nat):Int)<(gd a k:Nat) by omega)];rfl
theorem loc_nil {α:Type}{e:TypeId}{X:List (Nat × Obj)}{enc:α→List Value}:LocL X (slH .nil (([]:List α).flatMap enc) e) X (fun M'=>M'++X):=show LocL ([]++X) [] X (fun M'=>M'++X) from .h
abbrev HsA (w0:World) (H:List (Nat × Obj)) (l:List Hd) (q:Option Addr) (c:Nat):Prop:=Arr w0 H q 10 encHd l∧(∀ x∈l,HdOk x)∧l.length≤c
theorem HsA.mono {w0:World}{H H':List (Nat × Obj)}{l:List Hd}{q:Option Addr}{c:Nat}(h:HsA w0 H l q c)(hs:H.Sublist H'):HsA w0 H' l q c:=⟨h.1.mono hs,h.2⟩
theorem HsA.hd {w0:World}{H:List (Nat × Obj)}{l:List Hd}{q:Option Addr}{c:Nat}(h:HsA w0 H l q c):Arr w0 H q 10 hdC l:=arr_hd h.1 h.2.1
theorem HsA.ok {w0:World}{H:List (Nat × Obj)}{l:List Hd}{q:Option Addr}{c k:Nat}(h:HsA w0 H l q c)(hk:k<l.length):HdOk (gd l k):=h.2.1 _ (A8 hk)
theorem cmp18_s {w0:World}{H:List (Nat × Obj)}(a b:Hd)(ha:HdOk a)(hb:HdOk b):
  FSpec Tryz.prog w0 18 #[.agg (hdC a).toArray, .agg (hdC b).toArray] H (Still (.int .i64 (cmpL a b)) H):=by
 refine Aq Tryz.func18 U ntmps18 U ?_;have hla:=ha.len;have hlb:=hb.len;refine rD tb 2 U (e_ (Ko U cs_) ?_ U);rintro _ _ ⟨n2,rfl,rfl⟩;refine e_ (Ko U cs_) ?_ U;rintro _ _ ⟨n3,rfl,rfl⟩;refine rO tb 10 U ?_;refine Be (X:=Nat) (V:=fun k=>[(5, .int .i64 (k:Nat))]) (C:=[(2,_),(3,_)]) (G:=fun k=>(n3,Cl (hdC b) 30)::(n2,Cl (hdC a) 30)::H) (φ:=fun k=>k≤10∧cmpL a b=cmpL (a.drop k) (b.drop k)) (μ:=fun k=>10 - k) (x0:=0) ?_ ⟨Aa U,Aa U,trivial⟩ ⟨atd,trivial⟩ sb0 ?_
 ·exact⟨Nat.zero_le _,rfl⟩
 rintro k ⟨hk,hd⟩;refine rD tb 7 U ?_
 first|refine Ac (Aa U) (fun c7=> ?_) (fun c7=> ?_)|refine Ag (Aa U) (fun c7=> ?_) (fun c7=> ?_)
 ·have hk2:k<10:=by have h9:((k:Nat):Int)<10:=c7;omega
  obtain⟨hl,hg,he⟩:=cmp_at qom qom hd;refine rC tb 6 U (Bf 7 [(0,true),(1,true),(2,true),(3,true),(4,true),(5,true),(6,true)] _ mixd qkr sb0 ?_ Bj);refine rP tb 1 U (o_y U (Bk (T U) (T U) runUnderlying30 sizeOf3 qom) ?_ U Ad);refine o_y U (Kj U isAgg3 (by first|exact c_o|exact C4 (Ah fdd) (show k<a.length by omega))) ?_ U Ad;refine rP tb 1 U (o_y U (Bk (T U) (T U) runUnderlying30 sizeOf3 qom) ?_ U Ad);refine o_y U (Kj U isAgg3 (by first|exact c_o|exact C4 (Ah fdd) (show k<b.length by omega))) ?_ U Ad;refine rP tb 1 U (A2 U (rO tb 2 U ?_))
  first|refine Ac (Aa U) (fun c16=> ?_) (fun c16=> ?_)|refine Ag (Aa U) (fun c16=> ?_) (fun c16=> ?_)
  ·refine rC tb 9 U (A6 (rX tb 2 U (Ai U (Ki U) ?_)));exact⟨_,⟨vint (hl qom).symm,rfl⟩,by exact sbt⟩
  ·refine rC tb 3 U (Bf 7 [(0,true),(1,true),(2,true),(3,true),(4,true),(5,true),(6,true)] _ mixd qkr sb0 ?_ Bj);refine rP tb 1 U (o_y U (Bk (T U) (T U) runUnderlying30 sizeOf3 qom) ?_ U Ad);refine o_y U (Kj U isAgg3 (by first|exact c_o|exact C4 (Ah fdd) (show k<a.length by omega))) ?_ U Ad;refine rP tb 1 U (o_y U (Bk (T U) (T U) runUnderlying30 sizeOf3 qom) ?_ U Ad);refine o_y U (Kj U isAgg3 (by first|exact c_o|exact C4 (Ah fdd) (show k<b.length by omega))) ?_ U Ad;refine rP tb 1 U (A2 U (rO tb 2 U ?_))
   first|refine Ac (Aa U) (fun c23=> ?_) (fun c23=> ?_)|refine Ag (Aa U) (fun c23=> ?_) (fun c23=> ?_)
   ·refine rC tb 8 U (A6 (rX tb 2 U (Ai U (Ki U) ?_)));exact⟨_,⟨vint (hg qom).symm,rfl⟩,by exact sbt⟩
   ·refine rC tb 5 U (y_ (Bc (T U) Aj qom) ?_ U);refine rO tb 2 U ?_;refine A3 (k+1) ?_ ?_ ⟨atd,trivial⟩ ⟨Aa U,Aa U,trivial⟩ ?_
    ·exact⟨hk2,he qom⟩
    ·first|omega|(simp only[];omega)
    ·exact sbt
 ·obtain rfl:k=10:=by have h9: ¬ ((k:Nat):Int)<10:=c7;omega
  refine rC tb 2 U (Ar (rX tb 8 U (Ai U (Ki U) ?_)));exact⟨_,⟨vint (by rw[hd,List.drop_of_length_le qom,List.drop_of_length_le qom];rfl),rfl⟩,by exact sbt⟩
theorem rin_s {w0:World}{H:List (Nat × Obj)}(l:List Hd)(q:Option Addr)(c:Nat)(hA:HsA w0 H l q c)(h:Hd)(hh:HdOk h)(hlen:l.length≤1000000):
  FSpec Tryz.prog w0 143 #[.slice q l.length c, .agg (hdC h).toArray] H (Still (.bool (decide (h∈l))) H):=by
 refine Aq Tryz.func143 U ntmps143 U (rD tb 2 U (e_ (Ko U cs_) ?_ U));rintro _ _ ⟨n3,rfl,rfl⟩;refine rO tb 10 U ?_;refine Be (X:=Nat) (V:=fun k=>[(5, .int .i64 (k:Nat))]) (C:=[(0,_),(3,_)]) (G:=fun k=>(n3,Cl (hdC h) 30)::H) (φ:=fun k=>k≤l.length∧∀ j,j<k→gd l j≠h) (μ:=fun k=>l.length - k) (x0:=0) ?_ ⟨Aa U,Aa U,trivial⟩ ⟨atd,trivial⟩ sb0 ?_
 ·exact⟨Nat.zero_le _,fun j hj=>absurd hj (Nat.not_lt_zero _)⟩
 rintro k ⟨hk,hn⟩;refine rD tb 9 U ?_
 first|refine Ac (Aa U) (fun c9=> ?_) (fun c9=> ?_)|refine Ag (Aa U) (fun c9=> ?_) (fun c9=> ?_)
 ·have hk2:k<l.length:=by have h9:((k:Nat):Int)<(l.length:Nat):=c9;omega
  refine rC tb 5 U (Bf 6 [(0,true),(1,true),(2,true),(3,true),(4,true),(5,true)] _ mixd qkr sb0 ?_ Bj);refine rP tb 2 U (o_y U (Kl U U runUnderlying42 sizeOf30 qom (by first|exact rfl|exact hA.1.b (i:=k) qom)) ?_ U Ad);refine o_y U (Kk U isAgg30 sizeOf30 (Aw (hA.ok (k:=k) qom)) (by first|exact((hA.mono (by exact sbt)).hd).cs (i:=k) qom|exact As)) ?_ U Ad;refine o_y U (Kk U isAgg30 sizeOf30 (Aw hh) (by first|exact As)) ?_ U Ad;refine o_y U (Ig (T U) (T U) qkr (eqHd (hA.ok (k:=k) qom) hh)) ?_ U Ad;refine A2 U (rO tb 2 U ?_)
  first|refine Ac (Aa U) (fun c17=> ?_) (fun c17=> ?_)|refine Ag (Aa U) (fun c17=> ?_) (fun c17=> ?_)
  ·refine rC tb 8 U (A6 (rX tb 2 U (Ai U (Ki U) ?_)));exact⟨_,⟨congrArg Value.bool (decide_eq_true (by have e:gd l k=h:=c17;rw[← e];exact A8 hk2)).symm,rfl⟩,by exact sbt⟩
  ·refine rC tb 5 U (y_ (Bc (T U) Aj qom) ?_ U);refine rO tb 2 U ?_;refine A3 (k+1) ?_ ?_ ⟨atd,trivial⟩ ⟨Aa U,Aa U,trivial⟩ ?_
   ·refine⟨hk2,fun j hj=> ?_⟩
    by_cases e:j=k
    ·rw[e];exact c17
    ·exact hn j qom
   ·first|omega|(simp only[];omega)
   ·exact sbt
 ·obtain rfl:k=l.length:=by have h9: ¬ ((k:Nat):Int)<(l.length:Nat):=c9;omega
  refine rC tb 2 U (Ar (rX tb 8 U (Ai U (Ki U) ?_)));exact⟨_,⟨congrArg Value.bool (decide_eq_false (fun hm=>(C1 (p:=fun x=>x≠h) hn) h hm U)).symm,rfl⟩,by exact sbt⟩
theorem eq_of_gd {α:Type}[Inhabited α] {l m:List α}(hl:l.length=m.length)(h:∀ j,j<l.length→gd l j=gd m j):l=m:=List.ext_getElem hl fun i h1 h2=>by
 have:=h i h1
 rwa [Az h1,Az h2] at this
theorem same_s {w0:World}{H:List (Nat × Obj)}(l m:List Hd)(q1 q2:Option Addr)(c1 c2:Nat)(hA1:HsA w0 H l q1 c1)(hA2:HsA w0 H m q2 c2)(hlen:l.length≤1000000):
  FSpec Tryz.prog w0 19 #[.slice q1 l.length c1, .slice q2 m.length c2] H (Still (.bool (decide (l=m))) H):=by
 refine Aq Tryz.func19 U ntmps19 U (rD tb 15 U ?_)
 first|refine Ac (Aa U) (fun c10=> ?_) (fun c10=> ?_)|refine Ag (Aa U) (fun c10=> ?_) (fun c10=> ?_)
 ·skip
  refine rC tb 7 U (Ai U (Ki U) ?_);exact⟨_,⟨congrArg Value.bool (decide_eq_false (fun e=>c10 (by rw[e]))).symm,rfl⟩,by exact sbt⟩
 ·have hle:l.length=m.length:=by have h9: ¬ ¬ ((l.length:Nat):Int)=(m.length:Nat):=c10;omega
  refine rC tb 9 U ?_;refine Be (X:=Nat) (V:=fun k=>[(5, .int .i64 (k:Nat))]) (C:=[(0,_),(1,_)]) (G:=fun k=>H) (φ:=fun k=>k≤l.length∧∀ j,j<k→gd l j=gd m j) (μ:=fun k=>l.length - k) (x0:=0) ?_ ⟨Aa U,Aa U,trivial⟩ ⟨atd,trivial⟩ sb0 ?_
  ·exact⟨Nat.zero_le _,fun j hj=>absurd hj (Nat.not_lt_zero _)⟩
  rintro k ⟨hk,hn⟩;refine rD tb 9 U ?_
  first|refine Ac (Aa U) (fun c14=> ?_) (fun c14=> ?_)|refine Ag (Aa U) (fun c14=> ?_) (fun c14=> ?_)
  ·have hk2:k<l.length:=by have h9:((k:Nat):Int)<(l.length:Nat):=c14;omega
   refine rC tb 5 U (Bf 9 [(0,true),(1,true),(2,true),(3,true),(4,true),(5,true),(6,true),(7,true),(8,true)] _ mixd qkr sb0 ?_ Bj);refine rP tb 2 U (o_y U (Kl U U runUnderlying42 sizeOf30 qom (by first|exact rfl|exact hA1.1.b (i:=k) qom|exact hA2.1.b (i:=k) qom)) ?_ U Ad);refine o_y U (Kk U isAgg30 sizeOf30 (Aw (hA1.ok (k:=k) qom)) (by first|exact((hA1.mono (by exact sbt)).hd).cs (i:=k) qom|exact As)) ?_ U Ad;refine rP tb 2 U (o_y U (Kl U U runUnderlying42 sizeOf30 qom (by first|exact rfl|exact hA1.1.b (i:=k) qom|exact hA2.1.b (i:=k) qom)) ?_ U Ad);refine o_y U (Kk U isAgg30 sizeOf30 (Aw (hA2.ok (k:=k) qom)) (by first|exact((hA2.mono (by exact sbt)).hd).cs (i:=k) qom|exact As)) ?_ U Ad;refine o_y U (yl_neqA (T U) (T U) qkr (eqHd (hA1.ok (k:=k) qom) (hA2.ok (k:=k) qom))) ?_ U Ad;refine A2 U (rO tb 2 U ?_)
   first|refine Ac (Aa U) (fun c25=> ?_) (fun c25=> ?_)|refine Ag (Aa U) (fun c25=> ?_) (fun c25=> ?_)
   ·refine rC tb 8 U (A6 (rX tb 2 U (Ai U (Ki U) ?_)));exact⟨_,⟨congrArg Value.bool (decide_eq_false (fun e=>c25 (by rw[e]))).symm,rfl⟩,by exact sbt⟩
   ·refine rC tb 5 U (y_ (Bc (T U) Aj qom) ?_ U);refine rO tb 2 U ?_;refine A3 (k+1) ?_ ?_ ⟨atd,trivial⟩ ⟨Aa U,Aa U,trivial⟩ ?_
    ·refine⟨hk2,fun j hj=> ?_⟩
     by_cases e:j=k
     ·rw[e];exact Classical.not_not.1 c25
     ·exact hn j qom
    ·first|omega|(simp only[];omega)
    ·exact sbt
  ·obtain rfl:k=l.length:=by have h9: ¬ ((k:Nat):Int)<(l.length:Nat):=c14;omega
   refine rC tb 2 U (Ar (rX tb 8 U (Ai U (Ki U) ?_)));exact⟨_,⟨congrArg Value.bool (decide_eq_true (eq_of_gd hle hn)).symm,rfl⟩,by exact sbt⟩
theorem put_found {l:List Hd}{h:Hd}{k:Nat}(hk:k<l.length)(e:gd l k=h)(x:Hd):x∈l↔x∈l∨x=h:=⟨.inl,fun hx=>by
 rcases hx with hx|rfl
 ·exact hx
 ·rw[← e];exact A8 hk⟩
theorem Ib {l:List Hd}{h:Hd}{k:Nat}(x:Hd):x∈l.take k++[h]++l.drop k↔x∈l∨x=h:=by
 have:x∈l↔x∈l.take k∨x∈l.drop k:=by
  rw[← List.mem_append,List.take_append_drop]
 simp only[List.mem_append,List.mem_singleton,this]
 constructor
 ·rintro((a|a)|a)
  ·exact .inl (.inl a)
  ·exact .inr a
  ·exact .inl (.inr a)
 ·rintro((a|a)|a)
  ·exact .inl (.inl a)
  ·exact .inr a
  ·exact .inl (.inr a)
theorem put_up {l:List Hd}{h:Hd}{k:Nat}(hu:l.Pairwise hLt)(hlt:∀ j,j<k→j<l.length→hLt (gd l j) h)(hge:k<l.length→hLt h (gd l k)):(l.take k++[h]++l.drop k).Pairwise hLt:=by
 have hd:∀ x∈l.drop k,hLt h x:=fun x hx=>by
  by_cases hk:k<l.length
  ·have h0:=hge hk;rw[List.drop_eq_getElem_cons hk] at hx;have hu2:(l.drop k).Pairwise hLt:=hu.sublist (List.drop_sublist _ _);rw[List.drop_eq_getElem_cons hk] at hu2;rw[Az hk] at h0;rcases List.mem_cons.1 hx with rfl|hx
   ·exact h0
   ·exact h0.trans ((List.pairwise_cons.1 hu2).1 x hx)
  ·rw[List.drop_of_length_le qom] at hx;cases hx
 have ht:∀ x∈l.take k,hLt x h:=fun x hx=>by
  obtain⟨j,hj,e⟩:=List.getElem_of_mem hx;rw[List.length_take] at hj;have:=hlt j qom qom;rw[Az qom] at this;rw[List.getElem_take] at e
  rwa [e] at this
 refine List.pairwise_append.2 ⟨List.pairwise_append.2 ⟨hu.sublist (List.take_sublist _ _),List.pairwise_singleton ..,fun x hx y hy=> ?_⟩,hu.sublist (List.drop_sublist _ _),fun x hx y hy=> ?_⟩
 ·rw[List.mem_singleton.1 hy];exact ht x hx
 ·rcases List.mem_append.1 hx with hx|hx
  ·exact(ht x hx).trans (hd y hy)
  ·rw[List.mem_singleton.1 hx];exact hd y hy
abbrev PutK (w0:World) (l:List Hd) (h:Hd) (H:List (Nat × Obj)):Value→List (Nat × Obj)→Prop:=fun u H'=>∃ (l':List Hd) (q:Option Addr) (c:Nat) (X:List (Nat × Obj)),(u= .slice q l'.length c∧HsA w0 (X++H) l' q c∧l'.Pairwise hLt∧(∀ x,x∈l'↔x∈l∨x=h)∧l'.length≤l.length+1)∧H'=X++H
theorem sl_cap {d:Sl}{n sz:Nat}(h:SlOk d n sz):n≤slC d:=by
 cases d with
 |nil=>have:n=0:=h;omega
 |blk b cap junk=>exact h.1
theorem Hl {w0:World}{X:List (Nat × Obj)}{d:Sl}{l:List Hd}(hok:SlOk d l.length 10)(hl:∀ x∈l,HdOk x):HsA w0 (slH d (l.flatMap encHd) 30++X) l (slQ d) (slC d):=⟨Cz (w0:=w0) (e:=30) (X:=X) (enc:=encHd) Ck hok,hl,sl_cap hok⟩
theorem rput_s {w0:World}{H:List (Nat × Obj)}(l:List Hd)(q:Option Addr)(c:Nat)(hA:HsA w0 H l q c)(hu:l.Pairwise hLt)(h:Hd)(hh:HdOk h)(hlen:l.length≤100000):
  FSpec Tryz.prog w0 142 #[.slice q l.length c, .agg (hdC h).toArray] H (PutK w0 l h H):=by
 refine Aq Tryz.func142 U ntmps142 U (rD tb 2 U (e_ (Ko U cs_) ?_ U));rintro _ _ ⟨n3,rfl,rfl⟩;refine rO tb 10 U ?_;refine Be (X:=Nat) (V:=fun k=>[(5, .int .i64 (k:Nat))]) (C:=[(0,_),(3,_)]) (G:=fun k=>(n3,Cl (hdC h) 30)::H) (φ:=fun k=>k≤l.length∧∀ j,j<k→hLt (gd l j) h) (μ:=fun k=>l.length - k) (x0:=0) ?_ ⟨Aa U,Aa U,trivial⟩ ⟨atd,trivial⟩ sb0 ?_
 ·exact⟨Nat.zero_le _,fun j hj=>absurd hj (Nat.not_lt_zero _)⟩
 rintro k ⟨hk,hn⟩;refine rD tb 2 U (Bf 13 [(0,true),(1,true),(2,true),(3,true),(4,true),(5,true),(6,true),(7,true),(8,true),(9,true),(10,true),(11,true),(12,true)] _ mixd qkr sb0 ?_ Bj);refine rP tb 5 U ?_
 first|refine Ja (s:=11) (Aa U) (fun c11=> ?_) (fun c11=> ?_)|refine Kb (s:=11) (Aa U) (fun c11=> ?_) (fun c11=> ?_)
 ·have hk2:k<l.length:=by have h9:((k:Nat):Int)<(l.length:Nat):=c11;omega
  refine rP tb 2 U (o_y U (Kl U U runUnderlying42 sizeOf30 qom (by first|exact rfl|exact hA.1.b (i:=k) qom)) ?_ U (A1 U U (Aa U)));refine o_y U (Kk U isAgg30 sizeOf30 (Aw (hA.ok (k:=k) qom)) (by first|exact((hA.mono (by exact sbt)).hd).cs (i:=k) qom|exact As)) ?_ U (A1 U U (Aa U));refine o_y U (Kk U isAgg30 sizeOf30 (Aw hh) (by first|exact As)) ?_ U (A1 U U (Aa U));refine o_y U (Al (qe2 U U) call18 (fun H' hs=>cmp18_s (gd l k) h (hA.ok (k:=k) qom) hh)) ?_ U (A1 U U (Aa U));refine rP tb 2 U (A2 U (rO tb 2 U ?_))
  first|refine Ac (Aa U) (fun c19=> ?_) (fun c19=> ?_)|refine Ag (Aa U) (fun c19=> ?_) (fun c19=> ?_)
  ·have hlk:=(Ia (hA.ok (k:=k) hk2) hh).1 c19;refine rC tb 5 U (y_ (Bc (T U) Aj qom) ?_ U);refine rO tb 3 U ?_;refine A3 (k+1) ?_ ?_ ⟨atd,trivial⟩ ⟨Aa U,Aa U,trivial⟩ ?_
   ·refine⟨hk2,fun j hj=> ?_⟩
    by_cases e:j=k
    ·rw[e];exact hlk
    ·exact hn j qom
   ·first|omega|(simp only[];omega)
   ·exact sbt
  ·skip
   refine rC tb 2 U (Ar (rX tb 4 U (Bf 12 [(0,true),(1,true),(2,true),(3,true),(4,true),(5,true),(6,true),(7,true),(8,true),(9,true),(10,true),(11,true)] _ mixd qkr sb0 ?_ Bj)));refine rP tb 5 U ?_
   first|refine Ja (s:=26) (Aa U) (fun c26=> ?_) (fun c26=> ?_)|refine Kb (s:=26) (Aa U) (fun c26=> ?_) (fun c26=> ?_)
   ·skip
    refine rP tb 2 U (o_y U (Kl U U runUnderlying42 sizeOf30 qom (by first|exact rfl|exact hA.1.b (i:=k) qom)) ?_ U (A1 U U (Aa U)));refine o_y U (Kk U isAgg30 sizeOf30 (Aw (hA.ok (k:=k) qom)) (by first|exact((hA.mono (by exact sbt)).hd).cs (i:=k) qom|exact As)) ?_ U (A1 U U (Aa U));refine o_y U (Kk U isAgg30 sizeOf30 (Aw hh) (by first|exact As)) ?_ U (A1 U U (Aa U));refine o_y U (Ig (T U) (T U) qkr (eqHd (hA.ok (k:=k) qom) hh)) ?_ U (A1 U U (Aa U));refine rP tb 1 U (A2 U (rO tb 2 U ?_))
    first|refine Ac (Aa U) (fun c33=> ?_) (fun c33=> ?_)|refine Ag (Aa U) (fun c33=> ?_) (fun c33=> ?_)
    ·have hfk:gd l k=h:=c33;refine kC tb 6 [4] rfl U (rG tb 2 U (Ai U (Ki U) ?_));exact⟨_,⟨l,q,c,[(n3,Cl (hdC h) 30)],⟨rfl,hA.mono (by exact sbt),hu,put_found hk2 hfk,by omega⟩,rfl⟩,by exact sbt⟩
    ·have hnk: ¬ gd l k=h:=c33;have htk:(l.take k).length=k:=by rw[List.length_take];omega
     have hgk:hLt h (gd l k):=((Je (hA.ok (k:=k) hk2) hh).resolve_left (fun e=>c19 ((Ia (hA.ok (k:=k) hk2) hh).2 e))).resolve_left hnk;refine rC tb 12 U (y_ (yl_sliceH  (T U) (T U) runUnderlying42 sizeOf30 qom) ?_ U);refine e_ (Ch (enc:=encHd) (d:= .nil) (l:=[]) (l.take k) (by':=80) loc_nil (T U) (by rw[htk];exact T U) runUnderlying42 runUnderlying42 sizeOf30 typeInfo30 U zeroValue30 U Ck Cm U qde (by simp only[List.length_nil];omega) ((hA.1.mono (by exact sbt)).take k)) ?_ U;rintro _ _ ⟨d1,rfl,hd1,rfl⟩;rw[show ([]:List Hd).length+(l.take k).length=(l.take k).length from Nat.zero_add _] at hd1 ⊢;rw[List.nil_append];refine kO tb 3 [0,3,5,6] rfl U (rG tb 3 U (y_ (Kk U isAgg30 sizeOf30 (Aw hh) (by first|exact As)) ?_ U));refine e_ (Bd (.cons (T U) .nil) (bs42 hh)) ?_ U;rintro _ _ ⟨n42,rfl,rfl⟩;rw[← Dr hh];refine e_ (Cd (enc:=encHd) (d:=d1) (l:=l.take k) h (by':=80) qlc (T U) (T U) runUnderlying42 runUnderlying42 sizeOf30 typeInfo30 U zeroValue30 U Ck (Cm _) hd1 qde qom) ?_ U;rintro _ _ ⟨d2,rfl,hd2,rfl⟩;rw[show (l.take k).length+1=(l.take k++[h]).length from (by simp)] at hd2 ⊢;refine rO tb 8 U (y_ (yl_sliceL  (T U) (T U) runUnderlying42 sizeOf30 qom) ?_ U);refine e_ (Ch (enc:=encHd) (d:=d2) (l:=(l.take k++[h])) (l.drop k) (by':=80) qlc (T U) (by rw[List.length_drop];exact T U) runUnderlying42 runUnderlying42 sizeOf30 typeInfo30 U zeroValue30 U Ck Cm hd2 qde (by simp only[List.length_append,List.length_singleton,List.length_drop];omega) ((hA.1.mono (by exact sbt)).drop hA.2.2 k)) ?_ U;rintro _ _ ⟨d3,rfl,hd3,rfl⟩;rw[show (l.take k++[h]).length+(l.drop k).length=(l.take k++[h]++l.drop k).length from (List.length_append).symm] at hd3 ⊢;refine rO tb 4 U (Ai U (Ki U) ?_);exact⟨_,⟨l.take k++[h]++l.drop k,slQ d3,slC d3,slH d3 ((l.take k++[h]++l.drop k).flatMap encHd) 30,⟨rfl,Hl hd3 (fun x hx=>((Ib x).1 hx).elim (hA.2.1 x) (fun e=>e ▸ hh)),put_up hu (fun j hj _=>hn j hj) (fun h9=>by first|exact hgk|omega),Ib,by simp only[List.length_append,List.length_take,List.length_drop,List.length_singleton];omega⟩,rfl⟩,by exact sbt⟩
   ·exfalso;have h9: ¬ ((k:Nat):Int)<(l.length:Nat):=c26;omega
 ·have hkl:k=l.length:=by have h9: ¬ ((k:Nat):Int)<(l.length:Nat):=c11;omega
  refine rP tb 8 U (A2 U (rO tb 5 U (Ar (rX tb 4 U (Bf 12 [(0,true),(1,true),(2,true),(3,true),(4,true),(5,true),(6,true),(7,true),(8,true),(9,true),(10,true),(11,true)] _ mixd qkr sb0 ?_ Bj)))));refine rP tb 5 U ?_
  first|refine Ja (s:=26) (Aa U) (fun c26=> ?_) (fun c26=> ?_)|refine Kb (s:=26) (Aa U) (fun c26=> ?_) (fun c26=> ?_)
  ·exfalso;have h9:((k:Nat):Int)<(l.length:Nat):=c26;omega
  ·have htk:(l.take k).length=k:=by rw[List.length_take];omega
   refine rP tb 7 U (A2 U (rO tb 15 U (y_ (yl_sliceH  (T U) (T U) runUnderlying42 sizeOf30 qom) ?_ U)));refine e_ (Ch (enc:=encHd) (d:= .nil) (l:=[]) (l.take k) (by':=80) loc_nil (T U) (by rw[htk];exact T U) runUnderlying42 runUnderlying42 sizeOf30 typeInfo30 U zeroValue30 U Ck Cm U qde (by simp only[List.length_nil];omega) ((hA.1.mono (by exact sbt)).take k)) ?_ U;rintro _ _ ⟨d1,rfl,hd1,rfl⟩;rw[show ([]:List Hd).length+(l.take k).length=(l.take k).length from Nat.zero_add _] at hd1 ⊢;rw[List.nil_append];refine kO tb 3 [0,3,5,6] rfl U (rG tb 3 U (y_ (Kk U isAgg30 sizeOf30 (Aw hh) (by first|exact As)) ?_ U));refine e_ (Bd (.cons (T U) .nil) (bs42 hh)) ?_ U;rintro _ _ ⟨n42,rfl,rfl⟩;rw[← Dr hh];refine e_ (Cd (enc:=encHd) (d:=d1) (l:=l.take k) h (by':=80) qlc (T U) (T U) runUnderlying42 runUnderlying42 sizeOf30 typeInfo30 U zeroValue30 U Ck (Cm _) hd1 qde qom) ?_ U;rintro _ _ ⟨d2,rfl,hd2,rfl⟩;rw[show (l.take k).length+1=(l.take k++[h]).length from (by simp)] at hd2 ⊢;refine rO tb 8 U (y_ (yl_sliceL  (T U) (T U) runUnderlying42 sizeOf30 qom) ?_ U);refine e_ (Ch (enc:=encHd) (d:=d2) (l:=(l.take k++[h])) (l.drop k) (by':=80) qlc (T U) (by rw[List.length_drop];exact T U) runUnderlying42 runUnderlying42 sizeOf30 typeInfo30 U zeroValue30 U Ck Cm hd2 qde (by simp only[List.length_append,List.length_singleton,List.length_drop];omega) ((hA.1.mono (by exact sbt)).drop hA.2.2 k)) ?_ U;rintro _ _ ⟨d3,rfl,hd3,rfl⟩;rw[show (l.take k++[h]).length+(l.drop k).length=(l.take k++[h]++l.drop k).length from (List.length_append).symm] at hd3 ⊢;refine rO tb 4 U (Ai U (Ki U) ?_);exact⟨_,⟨l.take k++[h]++l.drop k,slQ d3,slC d3,slH d3 ((l.take k++[h]++l.drop k).flatMap encHd) 30,⟨rfl,Hl hd3 (fun x hx=>((Ib x).1 hx).elim (hA.2.1 x) (fun e=>e ▸ hh)),put_up hu (fun j hj _=>hn j hj) (fun h9=>by first|exact hgk|omega),Ib,by simp only[List.length_append,List.length_take,List.length_drop,List.length_singleton];omega⟩,rfl⟩,by exact sbt⟩
theorem zbs42_0_z  (w:World):(Instr.buildSlice 42 0 #[]).run Tryz.prog w= .ok (.slice (some ⟨w.heap.size,0,none⟩) 0 0) (w.alloc (Cl [] 30)):=by kernel_rfl
abbrev SetK (w0:World) (p:List Hd→Prop) (H:List (Nat × Obj)):Value→List (Nat × Obj)→Prop:=fun u H'=>∃ (l':List Hd) (q:Option Addr) (c:Nat),u= .slice q l'.length c∧HsA w0 H' l' q c∧l'.Pairwise hLt∧p l'∧H.Sublist H'
theorem rmerge_s {w0:World}{H:List (Nat × Obj)}(a b:List Hd)(q1 q2:Option Addr)(c1 c2:Nat)(hA:HsA w0 H a q1 c1)(hu:a.Pairwise hLt)(hB:HsA w0 H b q2 c2)(hla:a.length≤10000)(hlb:b.length≤10000):
  FSpec Tryz.prog w0 102 #[.slice q1 a.length c1, .slice q2 b.length c2] H (SetK w0 (fun l=>(∀ x,x∈l↔x∈a∨x∈b)∧l.length≤a.length+b.length) H):=by
 refine Aq Tryz.func102 U ntmps102 U (rD tb 7 U (e_ (Bd .nil (zbs42_0_z)) ?_ U));rintro _ _ ⟨n7,rfl,rfl⟩;refine rO tb 1 U (e_ (Ch (enc:=encHd) (d:= .blk n7 0 []) (l:=[]) a (by':=80) loc_e (T U) (T U) runUnderlying42 runUnderlying42 sizeOf30 typeInfo30 U zeroValue30 U Ck Cm ⟨Nat.le_refl _,rfl⟩ qde (by simp only[List.length_nil];omega) (hA.1.mono (by exact sbt))) ?_ U);rintro _ _ ⟨d1,rfl,hd1,rfl⟩;rw[show ([]:List Hd).length+a.length=a.length from Nat.zero_add _] at hd1 ⊢;rw[List.nil_append];refine rO tb 10 U ?_;refine Be (X:=Nat × List Hd × Option Addr × Nat × List (Nat × Obj)) (V:=fun ⟨i,l,q,c,M⟩=>[(5, .slice q l.length c),(6, .int .i64 (i:Nat))]) (C:=[(1,_)]) (G:=fun ⟨i,l,q,c,M⟩=>M) (φ:=fun ⟨i,l,q,c,M⟩=>i≤b.length∧HsA w0 M l q c∧l.Pairwise hLt∧(∀ x,x∈l↔x∈a∨x∈b.take i)∧l.length≤a.length+i∧H.Sublist M) (μ:=fun ⟨i,l,q,c,M⟩=>b.length - i) (x0:=(0,a,slQ d1,slC d1,slH d1 (a.flatMap encHd) 30++H)) ?_ ⟨Aa rfl,trivial⟩ ⟨atd,atd,trivial⟩ sb0 ?_
 ·exact⟨Nat.zero_le _,Hl hd1 hA.2.1,hu,fun x=>by simp,by omega,List.sublist_append_right _ _⟩
 rintro⟨i,l,q,c,M⟩ ⟨hi,hL,hul,hm,hn,hHM⟩;refine rD tb 9 U ?_
 first|refine Ac (Aa U) (fun c13=> ?_) (fun c13=> ?_)|refine Ag (Aa U) (fun c13=> ?_) (fun c13=> ?_)
 ·have hi2:i<b.length:=by have h9:((i:Nat):Int)<(b.length:Nat):=c13;omega
  refine rC tb 8 U (y_ (Kl U U runUnderlying42 sizeOf30 qom (by first|exact rfl|exact hB.1.b (i:=i) qom)) ?_ U);refine y_ (Kk U isAgg30 sizeOf30 (Aw (hB.ok (k:=i) qom)) (by first|exact((hB.mono hHM).hd).cs (i:=i) qom|exact As)) ?_ U;refine e_ (An (qe2 U U) call142 (rput_s l q c hL hul (gd b i) (hB.ok (k:=i) hi2) qom)) ?_ U;rintro _ _ ⟨l2,q3,c3,X2,⟨rfl,hL2,hul2,hm2,hn2⟩,rfl⟩;refine rO tb 6 U (y_ (Bc (T U) Aj qom) ?_ U);refine rO tb 2 U ?_;refine A3 ((i+1,l2,q3,c3,X2++M)) ?_ ?_ ⟨atd,atd,trivial⟩ ⟨Aa U,trivial⟩ ?_
  ·refine⟨hi2,hL2,hul2,fun x=> ?_,by omega,hHM.trans (List.sublist_append_right _ _)⟩;rw[hm2,hm,List.take_succ_eq_append_getElem hi2,List.mem_append,List.mem_singleton,← Az hi2,or_assoc]
  ·first|omega|(simp only[];omega)
  ·exact sb0
 ·obtain rfl:i=b.length:=by have h9: ¬ ((i:Nat):Int)<(b.length:Nat):=c13;omega
  refine rC tb 2 U (Ar (rX tb 9 U (Ai U (Ki U) ?_)));exact⟨_,⟨l,q,c,rfl,hL,hul,⟨by rw[List.take_length] at hm;exact hm,hn⟩,hHM⟩,sb0⟩
section
variable {fl:List Fd} {m:Pdm} {p:Pd}
theorem inv1 (hI:IsP fl m p)(hk:m.kind=1):p= .tru:=by cases hI<;>first|rfl|omega
theorem inv2 (hI:IsP fl m p)(hk:m.kind=2):p= .fls:=by cases hI<;>first|rfl|omega
theorem inv9 (hI:IsP fl m p)(hk:m.kind=9):p= .time m.val m.to:=by
 cases hI with
 |tim _ h1 h2=>rw[h1,h2]
 |_=>omega
theorem inv6 (hI:IsP fl m p)(hk:m.kind=6):∃ x,0<m.subs.length∧p= .no x∧IsP fl (gd m.subs 0) x:=by
 cases hI with
 |no _ h1 h2=>rw[h1];exact⟨_,Nat.zero_lt_one,rfl,h2⟩
 |_=>omega
theorem inv7 (hI:IsP fl m p)(hk:m.kind=7):∃ x y,1<m.subs.length∧p= .and x y∧IsP fl (gd m.subs 0) x∧IsP fl (gd m.subs 1) y:=by
 cases hI with
 |and _ h1 h2 h3=>rw[h1];exact⟨_,_,Nat.lt_succ_self _,rfl,h2,h3⟩
 |_=>omega
theorem inv8 (hI:IsP fl m p)(hk:m.kind=8):∃ x y,1<m.subs.length∧p= .or x y∧IsP fl (gd m.subs 0) x∧IsP fl (gd m.subs 1) y:=by
 cases hI with
 |or _ h1 h2 h3=>rw[h1];exact⟨_,_,Nat.lt_succ_self _,rfl,h2,h3⟩
 |_=>omega
theorem inv3 (hI:IsP fl m p)(hk:m.kind=3):∃ n:Nat,m.val=n∧p= .eq (fndFd fl m.nm).1 n:=by
 cases hI with
 |eq _ h1=>exact⟨_,h1,rfl⟩
 |_=>omega
theorem inv4 (hI:IsP fl m p)(hk:m.kind=4):∃ n k:Nat,m.val=n∧m.to=k∧p= .pre (fndFd fl m.nm).1 n k:=by
 cases hI with
 |pre _ h1 h2=>exact⟨_,_,h1,h2,rfl⟩
 |_=>omega
theorem inv5 (hI:IsP fl m p)(h1: ¬ m.kind=1)(h2: ¬ m.kind=2)(h3: ¬ m.kind=3)(h4: ¬ m.kind=4)(h6: ¬ m.kind=6)(h7: ¬ m.kind=7)(h8: ¬ m.kind=8)(h9: ¬ m.kind=9):∃ n k:Nat,m.val=n∧m.to=k∧p= .rng (fndFd fl m.nm).1 n k:=by
 cases hI with
 |rng _ h1 h2=>exact⟨_,_,h1,h2,rfl⟩
 |_=>omega
theorem invF {bs:List Nat}(hI:IsP fl m p)(hF:p.Fit bs)(h1: ¬ m.kind=1)(h2: ¬ m.kind=2)(h6: ¬ m.kind=6)(h7: ¬ m.kind=7)(h8: ¬ m.kind=8)(h9: ¬ m.kind=9):FdOk (fndFd fl m.nm).1:=by
 cases hI with
 |eq _ _=>exact hF.1.ok
 |pre _ _ _=>exact hF.1.ok
 |rng _ _ _=>exact hF.1.ok
 |_=>omega
end
theorem yl_subV {P:Program}{w0:World}{L:Fm}{H:List (Nat × Obj)}{ty xt yt:TypeId}{x y:Operand}{a c:Nat}{v:Int}(hx:Ev L x (.int .i64 (a:Nat)))(hy:Ev L y (.int .i64 v))(hv:v=(c:Nat))(h:c≤a∧a≤1000000000):Yl P w0 (.binOp .sub xt x y yt) ty L H (.int .i64 ((a - c:Nat):Int)):=by subst hv;exact Cq hx hy h
theorem yl_quoV {P:Program}{w0:World}{L:Fm}{H:List (Nat × Obj)}{ty xt yt:TypeId}{x y:Operand}{a c:Nat}{v:Int}(hx:Ev L x (.int .i64 v))(hy:Ev L y (.int .i64 (c:Nat)))(hv:v=(a:Nat))(h:a≤1000000000∧1≤c):Yl P w0 (.binOp .quo xt x y yt) ty L H (.int .i64 ((a / c:Nat):Int)):=by subst hv;exact C3 hx hy h
def HoS (w0:World) (fl:List Fd) (q:Option Addr) (c:Nat) (tick:Int) (N:Nat):Prop:=∀ {H:List (Nat × Obj)} {m:Pdm} {p:Pd} {h:Hd},FlA w0 H q fl→PdM w0 H m→m.sz≤N→IsP fl m p→p.Fit (bsF fl)→HdOk h→FSpec Tryz.prog w0 99 #[.slice q fl.length c, .agg (encPd m).toArray, .agg (hdC h).toArray, .int .i64 tick] H (Still (.bool (holdsP tick p h)) H)
theorem yl_dbl2 {P:Program}{w0:World}{L:Fm}{H:List (Nat × Obj)}{ty xt yt:TypeId}{x y:Operand}{k:Nat}(hx:Ev L x (.int .i64 2))(hy:Ev L y (.int .i64 ((2 ^ k:Nat):Int)))(hk:k<16):Yl P w0 (.binOp .mul xt x y yt) ty L H (.int .i64 ((2 ^ (k+1):Nat):Int)):=by
 have h1:2 ^ k≤2 ^ 16:=Nat.pow_le_pow_right qom qom;have h1:2 ^ k≤65536:=h1;rw[show 2 ^ (k+1)=2*2 ^ k by rw[Nat.pow_succ,Nat.mul_comm]]
 revert hy h1
 generalize 2 ^ k=z;intro hy h1;have h:=Ie (P:=P) (w0:=w0) (H:=H) (ty:=ty) (xt:=xt) (yt:=yt) hx hy qom
 rwa [show (2:Int)*(z:Int)=((2*z:Nat):Int) by omega] at h
theorem rpow13_s {w0:World}{H:List (Nat × Obj)}(n:Nat)(hn:n≤16):
  FSpec Tryz.prog w0 140 #[.int .i64 (n:Nat)] H (Still (.int .i64 ((2 ^ n:Nat):Int)) H):=by
 refine Aq Tryz.func140 U ntmps140 U (rD tb 17 U ?_);refine F8 (X:=Nat) (V:=fun k=>[(3, .int .i64 ((2 ^ k:Nat):Int)),(4, .int .i64 (k:Nat))]) (C:=[(0,_)]) (φ:=fun k=>k≤n) (μ:=fun k=>n - k) (x0:=0) ?_ ⟨Aa U,trivial⟩ ⟨atd,atd,trivial⟩ ?_
 ·exact Nat.zero_le _
 rintro k hk;refine rD tb 8 U ?_
 first|refine Ac (Aa U) (fun c7=> ?_) (fun c7=> ?_)|refine Ag (Aa U) (fun c7=> ?_) (fun c7=> ?_)
 ·have hk2:k<n:=by have h9:((k:Nat):Int)<(n:Nat):=c7;omega
  refine rC tb 6 U (y_ (yl_dbl2 Aj (T U) (by have h9:((k:Nat):Int)<(n:Nat):=c7;omega)) ?_ U);refine rO tb 6 U (y_ (Bc (T U) Aj qom) ?_ U);refine rO tb 2 U ?_;refine A3 (k+1) ?_ ?_ ⟨atd,atd,trivial⟩ ⟨Aa U,trivial⟩ ?_
  ·omega
  ·first|omega|(simp only[];omega)
  ·exact sbt
 ·obtain rfl:k=n:=by have h9: ¬ ((k:Nat):Int)<(n:Nat):=c7;omega
  refine rC tb 2 U (Ar (rX tb 9 U (Ai U (Ki U) ?_)));exact⟨_,⟨rfl,rfl⟩,sbt⟩
theorem holds_step {w0:World}{H:List (Nat × Obj)}{fl:List Fd}(hfl:FlOk fl){q:Option Addr}{c:Nat}{tick:Int}{N:Nat}(hN:N≤1000000000)(ih:HoS w0 fl q c tick N){m:Pdm}{p:Pd}{h:Hd}(hA:FlA w0 H q fl)(hM:PdM w0 H m)(hm:m.sz≤N+1)(hI:IsP fl m p)(hF:p.Fit (bsF fl))(hh:HdOk h):
  FSpec Tryz.prog w0 99 #[.slice q fl.length c, .agg (encPd m).toArray, .agg (hdC h).toArray, .int .i64 tick] H (Still (.bool (holdsP tick p h)) H):=by
 refine Aq Tryz.func99 U ntmps99 U ?_;have hsz:=Gp m;have hfew:=hfl.few;refine rD tb 2 U (e_ (Ko U cs_) ?_ U);rintro _ _ ⟨n5,rfl,rfl⟩;refine e_ (Ko U cs_) ?_ U;rintro _ _ ⟨n6,rfl,rfl⟩;refine rO tb 7 U (y_ (Kj U isAgg3 (by first|exact c_o)) ?_ U);refine rO tb 9 U ?_
 first|refine Ac (Aa U) (fun c19=> ?_) (fun c19=> ?_)|refine Ag (Aa U) (fun c19=> ?_) (fun c19=> ?_)
 ·obtain rfl:=inv1 hI c19;refine rC tb 8 U (Ai U (Ki U) ?_)
  first|exact⟨_,⟨rfl,rfl⟩,by exact sbt⟩|(refine⟨_,⟨congrArg Value.bool ?_,rfl⟩,by exact sbt⟩;simp only[holdsP];rw[Bool.eq_iff_iff];simp only[Bool.and_eq_true,Bool.or_eq_true,decide_eq_true_eq,beq_iff_eq,Bool.false_eq_true,true_and,false_and];all_goals omega)
 ·skip
  refine rC tb 6 U ?_
  first|refine Ac (Aa U) (fun c21=> ?_) (fun c21=> ?_)|refine Ag (Aa U) (fun c21=> ?_) (fun c21=> ?_)
  ·obtain rfl:=inv2 hI c21;refine rC tb 8 U (Ai U (Ki U) ?_)
   first|exact⟨_,⟨rfl,rfl⟩,by exact sbt⟩|(refine⟨_,⟨congrArg Value.bool ?_,rfl⟩,by exact sbt⟩;simp only[holdsP];rw[Bool.eq_iff_iff];simp only[Bool.and_eq_true,Bool.or_eq_true,decide_eq_true_eq,beq_iff_eq,Bool.false_eq_true,true_and,false_and];all_goals omega)
  ·skip
   refine rC tb 6 U ?_
   first|refine Ac (Aa U) (fun c23=> ?_) (fun c23=> ?_)|refine Ag (Aa U) (fun c23=> ?_) (fun c23=> ?_)
   ·obtain rfl:=inv9 hI c23;refine rC tb 3 U (y_ (Kj U isAgg3 (by first|exact c_o)) ?_ U);refine rO tb 3 U ?_
    first|refine Am (s:=29) (Aa U) (fun c29=> ?_) (fun c29=> ?_)|refine A0 (s:=29) (Aa U) (fun c29=> ?_) (fun c29=> ?_)
    ·refine rO tb 2 U (Ax (Kj U isAgg3 (by first|exact c_o)) U (A1 U U (Aa U)) ?_);refine rO tb 8 U (Ai U (Ki U) ?_)
     first|exact⟨_,⟨rfl,rfl⟩,by exact sbt⟩|(refine⟨_,⟨congrArg Value.bool ?_,rfl⟩,by exact sbt⟩;simp only[holdsP];rw[Bool.eq_iff_iff];simp only[Bool.and_eq_true,Bool.or_eq_true,decide_eq_true_eq,beq_iff_eq,Bool.false_eq_true,true_and,false_and];all_goals omega)
    ·refine rO tb 11 U (Ai U (Ki U) ?_);exact⟨_,⟨congrArg Value.bool (by rw[holdsP,decide_eq_false c29,Bool.false_and]),rfl⟩,by exact sbt⟩
   ·skip
    refine rC tb 6 U ?_
    first|refine Ac (Aa U) (fun c35=> ?_) (fun c35=> ?_)|refine Ag (Aa U) (fun c35=> ?_) (fun c35=> ?_)
    ·obtain⟨x6,hl0,rfl,hx⟩:=inv6 hI c35;have hF:x6.Fit (bsF fl):=hF;refine rC tb 1 U (Bf 10 [(0,true),(1,true),(2,true),(3,true),(4,true),(5,true),(6,true),(7,true),(8,true),(9,true)] _ mixd qkr sb0 ?_ Bj);refine rP tb 2 U (o_y U (Kj U isAgg23 (by first|exact c_o)) ?_ U Ad);refine o_y U (Ca (T U) Aj runUnderlying23 sizeOf25 qom (by first|exact rfl|exact hM.arr.b (i:=0) qom|exact hM.arr.b (i:=1) qom)) ?_ U Ad;refine o_y U (Kk U isAgg25 sizeOf25 U (by first|exact(hM.arr.mono (by exact sbt)).cs (i:=0) qom|exact As)) ?_ U Ad;refine o_y U (Kk U isAgg30 sizeOf30 (Aw hh) (by first|exact As)) ?_ U Ad;refine rP tb 1 U (o_y U (Al (qe4 U U U U) call99 (fun H' hs=>ih (hA.mono (List.Sublist.trans (by exact sbt) hs)) ((hM.sub (A8 qom)).mono (List.Sublist.trans (by exact sbt) hs)) (by have:=Ei (A8 (l:=m.subs) (i:=0) qom);omega) hx hF hh)) ?_ U Ad)
     first|refine o_y U (Bq (T U)) ?_ U Ad|refine o_y U (B4 (T U)) ?_ U Ad
     refine rP tb 1 U (A2 U (rO tb 5 U (Ai U (Ki U) ?_)))
     first|exact⟨_,⟨rfl,rfl⟩,by exact sbt⟩|(refine⟨_,⟨congrArg Value.bool ?_,rfl⟩,by exact sbt⟩;simp only[holdsP];rw[Bool.eq_iff_iff];simp only[Bool.and_eq_true,Bool.or_eq_true,decide_eq_true_eq,beq_iff_eq,Bool.false_eq_true,true_and,false_and];all_goals omega)
    ·skip
     refine rC tb 6 U ?_
     first|refine Ac (Aa U) (fun c46=> ?_) (fun c46=> ?_)|refine Ag (Aa U) (fun c46=> ?_) (fun c46=> ?_)
     ·obtain⟨x7,y7,hl0,rfl,hx,hy⟩:=inv7 hI c46;have hF:x7.Fit (bsF fl)∧y7.Fit (bsF fl):=hF;refine rC tb 1 U (Bf 9 [(0,true),(1,true),(2,true),(3,true),(4,true),(5,true),(6,true),(7,true),(8,true)] _ mixd qkr sb0 ?_ Bj);refine rP tb 2 U (o_y U (Kj U isAgg23 (by first|exact c_o)) ?_ U Ad);refine o_y U (Ca (T U) Aj runUnderlying23 sizeOf25 qom (by first|exact rfl|exact hM.arr.b (i:=0) qom|exact hM.arr.b (i:=1) qom)) ?_ U Ad;refine o_y U (Kk U isAgg25 sizeOf25 U (by first|exact(hM.arr.mono (by exact sbt)).cs (i:=0) qom|exact As)) ?_ U Ad;refine o_y U (Kk U isAgg30 sizeOf30 (Aw hh) (by first|exact As)) ?_ U Ad;refine rP tb 1 U (o_y U (Al (qe4 U U U U) call99 (fun H' hs=>ih (hA.mono (List.Sublist.trans (by exact sbt) hs)) ((hM.sub (A8 qom)).mono (List.Sublist.trans (by exact sbt) hs)) (by have:=Ei (A8 (l:=m.subs) (i:=0) qom);omega) hx hF.1 hh)) ?_ U Ad);refine rP tb 1 U (A2 U (rO tb 3 U (Bf 9 [(0,true),(1,true),(2,true),(3,true),(4,true),(5,true),(6,true),(7,true),(8,true)] _ mixd qkr sb0 ?_ Bj)));refine rP tb 2 U (o_y U (Kj U isAgg23 (by first|exact c_o)) ?_ U Ad);refine o_y U (Ca (T U) Aj runUnderlying23 sizeOf25 qom (by first|exact rfl|exact hM.arr.b (i:=0) qom|exact hM.arr.b (i:=1) qom)) ?_ U Ad;refine o_y U (Kk U isAgg25 sizeOf25 U (by first|exact(hM.arr.mono (by exact sbt)).cs (i:=1) qom|exact As)) ?_ U Ad;refine o_y U (Kk U isAgg30 sizeOf30 (Aw hh) (by first|exact As)) ?_ U Ad;refine rP tb 1 U (o_y U (Al (qe4 U U U U) call99 (fun H' hs=>ih (hA.mono (List.Sublist.trans (by exact sbt) hs)) ((hM.sub (A8 qom)).mono (List.Sublist.trans (by exact sbt) hs)) (by have:=Ei (A8 (l:=m.subs) (i:=1) qom);omega) hy hF.2 hh)) ?_ U Ad);refine rP tb 1 U (A2 U (kO tb 2 [9,10] rfl U (rG tb 4 U ?_)))
      first|refine Am (s:=65) (Aa U) (fun c65=> ?_) (fun c65=> ?_)|refine A0 (s:=65) (Aa U) (fun c65=> ?_) (fun c65=> ?_)
      ·refine rO tb 8 U (Ai U (Ki U) ?_);exact⟨_,⟨congrArg Value.bool (by simp only[holdsP,c65,Bool.true_and]),rfl⟩,by exact sbt⟩
      ·refine rO tb 8 U (Ai U (Ki U) ?_);exact⟨_,⟨congrArg Value.bool (by simp only[holdsP,c65,Bool.false_and]),rfl⟩,by exact sbt⟩
     ·skip
      refine rC tb 6 U ?_
      first|refine Ac (Aa U) (fun c68=> ?_) (fun c68=> ?_)|refine Ag (Aa U) (fun c68=> ?_) (fun c68=> ?_)
      ·obtain⟨x8,y8,hl0,rfl,hx,hy⟩:=inv8 hI c68;have hF:x8.Fit (bsF fl)∧y8.Fit (bsF fl):=hF;refine rC tb 1 U (Bf 9 [(0,true),(1,true),(2,true),(3,true),(4,true),(5,true),(6,true),(7,true),(8,true)] _ mixd qkr sb0 ?_ Bj);refine rP tb 2 U (o_y U (Kj U isAgg23 (by first|exact c_o)) ?_ U Ad);refine o_y U (Ca (T U) Aj runUnderlying23 sizeOf25 qom (by first|exact rfl|exact hM.arr.b (i:=0) qom|exact hM.arr.b (i:=1) qom)) ?_ U Ad;refine o_y U (Kk U isAgg25 sizeOf25 U (by first|exact(hM.arr.mono (by exact sbt)).cs (i:=0) qom|exact As)) ?_ U Ad;refine o_y U (Kk U isAgg30 sizeOf30 (Aw hh) (by first|exact As)) ?_ U Ad;refine rP tb 1 U (o_y U (Al (qe4 U U U U) call99 (fun H' hs=>ih (hA.mono (List.Sublist.trans (by exact sbt) hs)) ((hM.sub (A8 qom)).mono (List.Sublist.trans (by exact sbt) hs)) (by have:=Ei (A8 (l:=m.subs) (i:=0) qom);omega) hx hF.1 hh)) ?_ U Ad);refine rP tb 1 U (A2 U (rO tb 3 U (Bf 9 [(0,true),(1,true),(2,true),(3,true),(4,true),(5,true),(6,true),(7,true),(8,true)] _ mixd qkr sb0 ?_ Bj)));refine rP tb 2 U (o_y U (Kj U isAgg23 (by first|exact c_o)) ?_ U Ad);refine o_y U (Ca (T U) Aj runUnderlying23 sizeOf25 qom (by first|exact rfl|exact hM.arr.b (i:=0) qom|exact hM.arr.b (i:=1) qom)) ?_ U Ad;refine o_y U (Kk U isAgg25 sizeOf25 U (by first|exact(hM.arr.mono (by exact sbt)).cs (i:=1) qom|exact As)) ?_ U Ad;refine o_y U (Kk U isAgg30 sizeOf30 (Aw hh) (by first|exact As)) ?_ U Ad;refine rP tb 1 U (o_y U (Al (qe4 U U U U) call99 (fun H' hs=>ih (hA.mono (List.Sublist.trans (by exact sbt) hs)) ((hM.sub (A8 qom)).mono (List.Sublist.trans (by exact sbt) hs)) (by have:=Ei (A8 (l:=m.subs) (i:=1) qom);omega) hy hF.2 hh)) ?_ U Ad);refine rP tb 1 U (A2 U (kO tb 2 [11,12] rfl U (rG tb 4 U ?_)))
       first|refine Am (s:=87) (Aa U) (fun c87=> ?_) (fun c87=> ?_)|refine A0 (s:=87) (Aa U) (fun c87=> ?_) (fun c87=> ?_)
       ·refine rO tb 8 U (Ai U (Ki U) ?_);exact⟨_,⟨congrArg Value.bool (by simp only[holdsP,c87,Bool.true_or]),rfl⟩,by exact sbt⟩
       ·refine rO tb 8 U (Ai U (Ki U) ?_);exact⟨_,⟨congrArg Value.bool (by simp only[holdsP,c87,Bool.false_or]),rfl⟩,by exact sbt⟩
      ·have hfd:=invF hI hF c19 c21 c35 c46 c68 c23;have hpw:2 ^ (fndFd fl m.nm).1.w≤2 ^ 16:=Nat.pow_le_pow_right qom hfd.w16;have hpw:2 ^ (fndFd fl m.nm).1.w≤65536:=hpw;refine rC tb 7 U (y_ (Kj U isAgg9 (by first|exact c_o)) ?_ U);refine y_ (Al (qe2 U U) call87 (fun H' hs=>Fj fl q c (hA.mono (List.Sublist.trans (by exact sbt) hs)) qom m.nm)) ?_ U;refine rO tb 3 U (e_ (Ak zeroValue67 cs_) ?_ U);rintro _ _ ⟨n13,rfl,rfl⟩
       first|refine A5 (Km U U sizeOf67) U Ad ?_
       rintro _ _ ⟨rfl,rfl⟩;refine rO tb 5 U (y_ (Kk U isAgg67 sizeOf67 U (by first|exact As)) ?_ U);refine y_ (Kk U isAgg30 sizeOf30 (Aw hh) (by first|exact As)) ?_ U;refine y_ (Al (qe2 U U) call139 (fun H' hs=>rget_s (fndFd fl m.nm).1 hfd h hh)) (kO tb 3 [5,13,15] rfl U (rG tb 4 U (y_ (Kj U isAgg3 (by first|exact c_o)) ?_ U))) U;refine rO tb 9 U ?_
       first|refine Ac (Aa U) (fun c102=> ?_) (fun c102=> ?_)|refine Ag (Aa U) (fun c102=> ?_) (fun c102=> ?_)
       ·obtain⟨n3,hva,rfl⟩:=inv3 hI c102;refine rC tb 4 U (y_ (Kj U isAgg3 (by first|exact c_o)) ?_ U);refine rO tb 7 U (Ai U (Ki U) ?_)
        first|exact⟨_,⟨rfl,rfl⟩,by exact sbt⟩|(refine⟨_,⟨congrArg Value.bool ?_,rfl⟩,by exact sbt⟩;simp only[holdsP];rw[Bool.eq_iff_iff];simp only[Bool.and_eq_true,Bool.or_eq_true,decide_eq_true_eq,beq_iff_eq,Bool.false_eq_true,true_and,false_and];all_goals omega)
       ·skip
        refine rC tb 6 U ?_
        first|refine Ac (Aa U) (fun c108=> ?_) (fun c108=> ?_)|refine Ag (Aa U) (fun c108=> ?_) (fun c108=> ?_)
        ·obtain⟨n4,k4,hva,hto,rfl⟩:=inv4 hI c108;have hF:FIn (bsF fl) (fndFd fl m.nm).1∧n4<2 ^ (fndFd fl m.nm).1.w∧k4≤(fndFd fl m.nm).1.w:=hF;have hkw:k4≤(fndFd fl m.nm).1.w∧(fndFd fl m.nm).1.w≤1000000000:=⟨hF.2.2,by have:=hfd.w16;omega⟩;refine rC tb 3 U (y_ (Kj U isAgg3 (by first|exact c_o)) ?_ U);refine rO tb 1 U (y_ (Kj U isAgg3 (by first|exact c_o)) ?_ U);refine y_ (yl_subV (c:=k4) (T U) (T U) hto hkw) (y_ (Al (qe1 U) call140 (fun H' hs=>rpow13_s ((fndFd fl m.nm).1.w - k4) (by have:=hfd.w16;omega))) ?_ U) U;refine rO tb 4 U (Bf 9 [(0,true),(1,true),(2,true),(3,true),(4,true),(5,true),(6,true),(7,true),(8,true)] _ mixd qkr sb0 ?_ Bj);refine rP tb 2 U (o_y U (C3 (T U) (T U) (by have:=Nat.two_pow_pos ((fndFd fl m.nm).1.w - k4);have:=fget_lt (fndFd fl m.nm).1 h;omega)) ?_ U Ad);refine rP tb 1 U (o_y U (Kj U isAgg3 (by first|exact c_o)) ?_ U Ad);refine rP tb 1 U (o_y U (yl_quoV (T U) (T U) hva (by have:=Nat.two_pow_pos ((fndFd fl m.nm).1.w - k4);omega)) ?_ U Ad);refine rP tb 2 U (A2 U (rO tb 5 U (Ai U (Ki U) ?_)))
         first|exact⟨_,⟨rfl,rfl⟩,by exact sbt⟩|(refine⟨_,⟨congrArg Value.bool ?_,rfl⟩,by exact sbt⟩;simp only[holdsP];rw[Bool.eq_iff_iff];simp only[Bool.and_eq_true,Bool.or_eq_true,decide_eq_true_eq,beq_iff_eq,Bool.false_eq_true,true_and,false_and];all_goals omega)
        ·obtain⟨n5,k5,hva,hto,rfl⟩:=inv5 hI c19 c21 c102 c108 c35 c46 c68 c23;refine rC tb 6 U (y_ (Kj U isAgg3 (by first|exact c_o)) ?_ U);refine rO tb 3 U ?_
         first|refine Am (s:=128) (Aa U) (fun c128=> ?_) (fun c128=> ?_)|refine A0 (s:=128) (Aa U) (fun c128=> ?_) (fun c128=> ?_)
         ·refine rO tb 2 U (Ax (Kj U isAgg3 (by first|exact c_o)) U (A1 U U (Aa U)) ?_);refine rO tb 6 U (Ai U (Ki U) ?_)
          first|exact⟨_,⟨rfl,rfl⟩,by exact sbt⟩|(refine⟨_,⟨congrArg Value.bool ?_,rfl⟩,by exact sbt⟩;simp only[holdsP];rw[Bool.eq_iff_iff];simp only[Bool.and_eq_true,Bool.or_eq_true,decide_eq_true_eq,beq_iff_eq,Bool.false_eq_true,true_and,false_and];all_goals omega)
         ·refine rO tb 9 U (Ai U (Ki U) ?_);exact⟨_,⟨congrArg Value.bool (by rw[holdsP,decide_eq_false (show ¬ n5≤fget (fndFd fl m.nm).1 h by omega),Bool.false_and]),rfl⟩,by exact sbt⟩
theorem holds_s {w0:World}{fl:List Fd}(hfl:FlOk fl){q:Option Addr}{c:Nat}{tick:Int}(N:Nat)(hN:N≤1000000000):HoS w0 fl q c tick N:=by
 induction N with
 |zero=>intro H m p h _ _ h3;have:=Gp m;omega
 |succ N ih=>
  have ih:HoS w0 fl q c tick N:=ih qom;intro H m p h hA hM hm hI hF hh;exact holds_step hfl qom ih hA hM hm hI hF hh
def SetIs (w0:World) (P:Hd→Prop) (H:List (Nat × Obj)) (l:List Hd) (q:Option Addr) (c:Nat):Prop:=HsA w0 H l q c∧l.Pairwise hLt∧(∀ g,g∈l↔P g)∧l.length≤256
abbrev EvK13 (w0:World) (P:Hd→Prop) (H:List (Nat × Obj)):Value→List (Nat × Obj)→Prop:=fun u H'=>∃ (l:List Hd) (q:Option Addr) (c:Nat) (e:Int),u= .tuple #[.slice q l.length c, .int .i64 e]∧(e=0→SetIs w0 P H' l q c)∧H.Sublist H'
def EvS13 (w0:World) (fl:List Fd) (q:Option Addr) (c:Nat) (tick:Int) (N:Nat):Prop:=∀ {H:List (Nat × Obj)} {m:Pom} {p:Po} {h:Hd},FlA w0 H q fl→PoM w0 H m→m.sz≤N→IsO fl m p→p.Fit (bsF fl)→HdOk h→FSpec Tryz.prog w0 54 #[.slice q fl.length c, .agg (encPo m).toArray, .agg (hdC h).toArray, .int .i64 tick] H (EvK13 w0 (den tick p h) H)
theorem hs_nil {w0:World}{H:List (Nat × Obj)}:HsA w0 H [] none 0:=⟨fun i u hi=>by simp at hi,fun x hx=>by simp at hx,Nat.le_refl _⟩
theorem image_s {w0:World}{H:List (Nat × Obj)}{fl:List Fd}(hfl:FlOk fl){q:Option Addr}{c:Nat}{tick:Int}{N:Nat}(ih:EvS13 w0 fl q c tick N){m:Pom}{p:Po}(hA:FlA w0 H q fl)(hM:PoM w0 H m)(hm:m.sz≤N)(hI:IsO fl m p)(hF:p.Fit (bsF fl))(hl:List Hd)(qh:Option Addr)(ch:Nat)(hB:HsA w0 H hl qh ch)(hlen:hl.length≤1000):
  FSpec Tryz.prog w0 103 #[.slice q fl.length c, .agg (encPo m).toArray, .slice qh hl.length ch, .int .i64 tick] H (EvK13 w0 (fun g=>∃ x,x∈hl∧den tick p x g) H):=by
 refine Aq Tryz.func103 U ntmps103 U (rD tb 2 U (e_ (Ko U cs_) ?_ U));rintro _ _ ⟨n5,rfl,rfl⟩;refine rO tb 16 U ?_;refine Be (X:=Nat × List Hd × Option Addr × Nat × List (Nat × Obj)) (V:=fun ⟨k,l,ql,cl,M⟩=>[(10, .slice ql l.length cl),(11, .int .i64 (k:Nat))]) (C:=[(0,_),(2,_),(3,_),(5,_)]) (G:=fun ⟨k,l,ql,cl,M⟩=>M) (φ:=fun ⟨k,l,ql,cl,M⟩=>k≤hl.length∧HsA w0 M l ql cl∧l.Pairwise hLt∧(∀ g,g∈l↔∃ x,x∈hl.take k∧den tick p x g)∧l.length≤256∧((n5,Cl (encPo m) 28)::H).Sublist M) (μ:=fun ⟨k,l,ql,cl,M⟩=>hl.length - k) (x0:=(0,[],none,0,(n5,Cl (encPo m) 28)::H)) ?_ ⟨Aa rfl,Aa rfl,Aa rfl,Aa rfl,trivial⟩ ⟨atd,atd,trivial⟩ sb0 ?_
 ·exact⟨Nat.zero_le _,hs_nil, .nil,fun g=>by simp,by simp,sb0⟩
 rintro⟨k,l,ql,cl,M⟩ ⟨hk,hL,hul,hmm,hn,hHM⟩;refine rD tb 9 U ?_
 first|refine Ac (Aa U) (fun c17=> ?_) (fun c17=> ?_)|refine Ag (Aa U) (fun c17=> ?_) (fun c17=> ?_)
 ·have hk2:k<hl.length:=by have h9:((k:Nat):Int)<(hl.length:Nat):=c17;omega
  refine rC tb 5 U (Bf 13 [(0,true),(1,true),(2,true),(3,true),(4,true),(5,true),(6,true),(7,false),(8,true),(9,true),(10,true),(11,true),(12,true)] _ mixd qkr sb0 ?_ Bj);refine rP tb 1 U (o_y U (Kk U isAgg28 sizeOf28 U (by first|exact Ah (Fnd.mono Au hHM)|exact As)) ?_ U Ad);refine rP tb 2 U (o_y U (Kl U U runUnderlying42 sizeOf30 qom (by first|exact rfl|exact hB.1.b (i:=k) qom)) ?_ U Ad);refine o_y U (Kk U isAgg30 sizeOf30 (Aw (hB.ok (k:=k) qom)) (by first|exact((hB.mono ((List.sublist_cons_self _ _).trans hHM)).hd).cs (i:=k) qom|exact As)) ?_ U Ad;refine rP tb 1 U (o_e U (An (qe4 U U U U) call54 (ih (hA.mono ((List.sublist_cons_self _ _).trans hHM)) (hM.mono ((List.sublist_cons_self _ _).trans hHM)) hm hI hF (hB.ok (k:=k) hk2))) ?_ U Ad);rintro _ M2 ⟨l2,q2,c2,e2,rfl,he2,hM2⟩;refine⟨(by assumption),?_⟩;refine rP tb 5 U (A2 U (rO tb 9 U ?_))
  first|refine Ac (Aa U) (fun c32=> ?_) (fun c32=> ?_)|refine Ag (Aa U) (fun c32=> ?_) (fun c32=> ?_)
  ·skip
   refine rC tb 11 U (A6 (rX tb 2 U (Ai U (.tmp (Aa U) (Ki U)) ?_)));exact⟨_,⟨[],none,0,e2,rfl,fun h9=>absurd h9 c32,((List.sublist_cons_self _ _).trans hHM).trans hM2⟩,sb0⟩
  ·have hZ2:=he2 (Classical.not_not.1 c32);refine rC tb 6 U (e_ (An (qe2 U U) call102 (rmerge_s l l2 ql q2 cl c2 (hL.mono hM2) hul hZ2.1 qom (by have:=hZ2.2.2.2;omega))) ?_ U);rintro _ M3 ⟨l3,q3,c3,rfl,hL3,hul3,⟨hm3,hn3⟩,hM3⟩;refine kO tb 10 [0,2,3,5,10,11,39] rfl U ?_
   first|refine Ac (Aa U) (fun c39=> ?_) (fun c39=> ?_)|refine Ag (Aa U) (fun c39=> ?_) (fun c39=> ?_)
   ·skip
    refine rC tb 9 U (A6 (rX tb 2 U (Ai U (.tmp (Aa U) (Ki U)) ?_)));exact⟨_,⟨[],none,0,2,rfl,fun h9=>absurd h9 qde,((List.sublist_cons_self _ _).trans hHM).trans (hM2.trans hM3)⟩,sb0⟩
   ·have hz3:l3.length≤256:=by have h9: ¬ ((l3.length:Nat):Int)>256:=c39;omega
    refine rC tb 5 U (y_ (Bc (T U) Aj qom) ?_ U);refine rO tb 2 U ?_;refine A3 ((k+1,l3,q3,c3,M3)) ?_ ?_ ⟨atd,atd,trivial⟩ ⟨Aa U,Aa U,Aa U,Aa U,trivial⟩ ?_
    ·refine⟨hk2,hL3,hul3,fun g=> ?_,hz3,hHM.trans (hM2.trans hM3)⟩;rw[hm3,hmm,hZ2.2.2.1,List.take_succ_eq_append_getElem hk2,← Az hk2]
     constructor
     ·rintro(⟨x,h1,h2⟩|h2)
      ·exact⟨x,List.mem_append.2 (.inl h1),h2⟩
      ·exact⟨_,List.mem_append.2 (.inr (List.mem_singleton.2 U)),h2⟩
     ·rintro⟨x,h1,h2⟩;rcases List.mem_append.1 h1 with h1|h1
      ·exact .inl ⟨x,h1,h2⟩
      ·rw[List.mem_singleton.1 h1] at h2;exact .inr h2
    ·first|omega|(simp only[];omega)
    ·exact sbt
 ·obtain rfl:k=hl.length:=by have h9: ¬ ((k:Nat):Int)<(hl.length:Nat):=c17;omega
  refine rC tb 2 U (Ar (rX tb 10 U (Ai U (.tmp (Aa U) (Ki U)) ?_)));exact⟨_,⟨l,ql,cl,0,rfl,fun _=>⟨hL,hul,by rw[List.take_length] at hmm;exact hmm,hn⟩,((List.sublist_cons_self _ _).trans hHM)⟩,sb0⟩
theorem nodup_sub {α:Type}:∀ {l m:List α},l.Nodup→(∀ x∈l,x∈m)→l.length≤m.length
 |[],m,_,_=>Nat.zero_le _
 |x::l,m,hn,hs=>by
  obtain⟨m1,m2,rfl⟩:=List.append_of_mem (hs x (by simp));obtain⟨hx,hn⟩:=List.nodup_cons.1 hn;have:=nodup_sub (m:=m1++m2) hn fun y hy=>by
   have h1:=hs y (List.mem_cons_of_mem _ hy);simp only[List.mem_append,List.mem_cons] at h1 ⊢;rcases h1 with h1|rfl|h1
   ·exact .inl h1
   ·exact(hx hy).elim
   ·exact .inr h1
  simp only[List.length_append,List.length_cons] at this ⊢;omega
theorem up_nodup {l:List Hd}(h:l.Pairwise hLt):l.Nodup:=h.imp fun h e=>by subst e;exact h.irr
def frN (o l:List Hd) (j:Nat):List Hd:=(l.take j).filter fun x=> !decide (x∈o)
theorem frN_yes {o l:List Hd}{j:Nat}(hj:j<l.length)(h:gd l j∉o):frN o l (j+1)=frN o l j++[gd l j]:=by
 unfold frN;rw[List.take_succ_eq_append_getElem hj,List.filter_append,← Az hj];simp[h]
theorem Cu {o l:List Hd}{j:Nat}(hj:j<l.length)(h:gd l j∈o):frN o l (j+1)=frN o l j:=by
 unfold frN;rw[List.take_succ_eq_append_getElem hj,List.filter_append,← Az hj];simp[h]
theorem frN_mem {o l:List Hd}{x:Hd}:x∈frN o l l.length↔x∈l∧x∉o:=by unfold frN;simp
theorem Ic (o l:List Hd)(j:Nat):(frN o l j).length≤l.length:=by unfold frN;exact Nat.le_trans (List.length_filter_le _ _) (by simp;omega)
structure ClI (D:Hd→Hd→Prop) (h:Hd) (o f:List Hd):Prop where
 up:o.Pairwise hLt
 hin:h∈o
 cl:∀ g,g∈o→Cl' D h g
 sub:∀ x∈f,x∈o
 done:∀ x,x∈o→x∈f∨∀ g,D x g→g∈o
theorem cli_end {D:Hd→Hd→Prop}{h:Hd}{o:List Hd}(h9:ClI D h o [])(g:Hd):g∈o↔Cl' D h g:=by
 have key:∀ {x y:Hd},Cl' D x y→x∈o→y∈o:=by
  intro x y a
  induction a with
  |base=>exact id
  |step b _ ih=>exact fun hx=>ih (((h9.done _ hx).resolve_left (by simp)) _ b)
 exact⟨h9.cl g,fun a=>key a h9.hin⟩
theorem cli_next {D:Hd→Hd→Prop}{h:Hd}{o f l o':List Hd}(h9:ClI D h o f)(hl:∀ g,g∈l↔∃ x,x∈f∧D x g)(hu:o'.Pairwise hLt)(ho:∀ x,x∈o'↔x∈o∨x∈frN o l l.length):ClI D h o' (frN o l l.length):=by
 refine⟨hu,(ho h).2 (.inl h9.hin),fun g hg=> ?_,fun x hx=>(ho x).2 (.inr hx),fun x hx=> ?_⟩
 ·rcases(ho g).1 hg with hg|hg
  ·exact h9.cl g hg
  ·obtain⟨x,hx,d⟩:=(hl g).1 (frN_mem.1 hg).1;exact(h9.cl x (h9.sub x hx)).trans (.one d)
 ·rcases(ho x).1 hx with hx|hx
  ·refine .inr fun g d=> ?_
   rcases h9.done x hx with hf|hf
   ·by_cases hg:g∈o
    ·exact(ho g).2 (.inl hg)
    ·exact(ho g).2 (.inr (frN_mem.2 ⟨(hl g).2 ⟨x,hf,d⟩,hg⟩))
   ·exact(ho g).2 (.inl (hf g d))
  ·exact .inl hx
theorem cli_grow {o l o':List Hd}(hu:o.Pairwise hLt)(ho:∀ x,x∈o'↔x∈o∨x∈frN o l l.length):o.length≤o'.length∧(¬ (frN o l l.length).length=0→o.length+1≤o'.length):=by
 refine⟨nodup_sub (up_nodup hu) fun x hx=>(ho x).2 (.inl hx),fun h0=> ?_⟩
 match hf:frN o l l.length,h0 with
 |y::r,_=>
  have hy:y∈frN o l l.length:=by rw[hf];simp
  have:=nodup_sub (l:=y::o) (m:=o') (List.nodup_cons.2 ⟨(frN_mem.1 hy).2,up_nodup hu⟩) fun x hx=>by
   rcases List.mem_cons.1 hx with rfl|hx
   ·exact(ho _).2 (.inr hy)
   ·exact(ho x).2 (.inl hx)
  simpa using this
 |[],h0=>exact absurd rfl h0
theorem Ju {w0:World}{H:List (Nat × Obj)}{n:Nat}{h:Hd}(hf:Fnd H n (Cl (hdC h) 30))(hh:HdOk h):HsA w0 H [h] (some ⟨n,0,none⟩) 1:=⟨fun j x hj=>by
 refine⟨rfl,fun k v hk=> ?_⟩
 match j,hj with
 |0,hj=>
  have:h=x:=by simpa using hj
  subst this;rw[Dr hh] at hk;exact C6 hf (by rw[show oq (some (⟨n,0,none⟩:Addr))+0*10+k=k by show 0+0*10+k=k;omega];exact hk),fun x hx=>by rw[List.mem_singleton.1 hx];exact hh,Nat.le_refl _⟩
theorem fr_ok {o l:List Hd}{j:Nat}(h:∀ x∈l,HdOk x):∀ x∈frN o l j,HdOk x:=fun x hx=>h x (List.mem_of_mem_take (List.mem_filter.1 hx).1)
abbrev ClK (w0:World) (P:Hd→Prop) (H:List (Nat × Obj)):Value→List (Nat × Obj)→Prop:=fun u H'=>∃ (l:List Hd) (q:Option Addr) (c:Nat) (r e:Int),u= .tuple #[.slice q l.length c, .int .i64 r, .int .i64 e]∧(e=0→SetIs w0 P H' l q c)∧H.Sublist H'
theorem closure_s {w0:World}{H:List (Nat × Obj)}{fl:List Fd}(hfl:FlOk fl){q:Option Addr}{c:Nat}{tick:Int}{N:Nat}(ih:EvS13 w0 fl q c tick N){m:Pom}{p:Po}(hA:FlA w0 H q fl)(hM:PoM w0 H m)(hm:m.sz≤N)(hI:IsO fl m p)(hF:p.Fit (bsF fl)){h:Hd}(hh:HdOk h):
  FSpec Tryz.prog w0 104 #[.slice q fl.length c, .agg (encPo m).toArray, .agg (hdC h).toArray, .int .i64 tick] H (ClK w0 (Cl' (den tick p) h) H):=by
 refine Aq Tryz.func104 U ntmps104 U (rD tb 2 U (e_ (Ko U cs_) ?_ U));rintro _ _ ⟨n5,rfl,rfl⟩;refine e_ (Ko U cs_) ?_ U;rintro _ _ ⟨n6,rfl,rfl⟩;refine rO tb 7 U (y_ (Kk U isAgg30 sizeOf30 (Aw hh) (by first|exact As)) ?_ U);refine e_ (Bd (.cons (T U) .nil) (bs42 hh)) ?_ U;rintro _ _ ⟨n19,rfl,rfl⟩;refine rO tb 5 U (y_ (Kk U isAgg30 sizeOf30 (Aw hh) (by first|exact As)) ?_ U);refine e_ (Bd (.cons (T U) .nil) (bs42 hh)) ?_ U;rintro _ _ ⟨n21,rfl,rfl⟩;refine rO tb 10 U ?_;refine Be (X:=List Hd × Option Addr × Nat × List Hd × Option Addr × Nat × Int × List (Nat × Obj)) (V:=fun ⟨o,qo,co,f,qf,cf,r,M⟩=>[(11, .slice qo o.length co),(12, .slice qf f.length cf),(13, .int .i64 r)]) (C:=[(0,_),(3,_),(5,_)]) (G:=fun ⟨o,qo,co,f,qf,cf,r,M⟩=>M) (φ:=fun ⟨o,qo,co,f,qf,cf,r,M⟩=>ClI (den tick p) h o f∧HsA w0 M o qo co∧HsA w0 M f qf cf∧o.length≤256∧f.length≤256∧0≤r∧r+1≤o.length∧((n5,Cl (encPo m) 28)::H).Sublist M) (μ:=fun ⟨o,qo,co,f,qf,cf,r,M⟩=>2*(257 - o.length)+(if f.length=0 then 0 else 1)) (x0:=([h],some ⟨n19,0,none⟩,1,[h],some ⟨n21,0,none⟩,1,0,((n21,Cl (hdC h) 30)::(n19,Cl (hdC h) 30)::(n6,Cl (hdC h) 30)::(n5,Cl (encPo m) 28)::H))) ?_ ⟨Aa rfl,Aa rfl,Aa rfl,trivial⟩ ⟨(by first|exact Aa rfl|(refine Af (Aa rfl) (vint ?_);omega)|(refine Af (Aa rfl) ?_;simp;done)|(refine Af (Aa rfl) ?_;exact(by rw[Cu hj2 hold]))),(by first|exact Aa rfl|(refine Af (Aa rfl) (vint ?_);omega)|(refine Af (Aa rfl) ?_;simp;done)|(refine Af (Aa rfl) ?_;exact(by rw[Cu hj2 hold]))),(by first|exact Aa rfl|(refine Af (Aa rfl) (vint ?_);omega)|(refine Af (Aa rfl) ?_;simp;done)|(refine Af (Aa rfl) ?_;exact(by rw[Cu hj2 hold]))),trivial⟩ (by exact sbt) ?_
 ·exact⟨⟨List.pairwise_singleton ..,by simp,fun g hg=>by rw[List.mem_singleton.1 hg];exact .base _,fun x hx=>hx,fun x hx=> .inl hx⟩,Ju (by repeat (first|exact Au|refine Ay ?_)) hh,Ju (by repeat (first|exact Au|refine Ay ?_)) hh,by simp,by simp,Int.le_refl _,by simp,by exact sbt⟩
 rintro⟨o,qo,co,f,qf,cf,r,M⟩ ⟨hcl,ho,hf,hon,hfn0,hr0,hr1,hHM⟩;refine rD tb 8 U ?_
 first|refine Ac (Aa U) (fun c24=> ?_) (fun c24=> ?_)|refine Ag (Aa U) (fun c24=> ?_) (fun c24=> ?_)
 ·have hf0: ¬ f.length=0:=by have h9:((f.length:Nat):Int)>0:=c24;omega
  refine rC tb 6 U (y_ (Kk U isAgg28 sizeOf28 U (by first|exact Ah (Fnd.mono Au hHM)|exact As)) ?_ U);refine rO tb 2 U (e_ (An (qe4 U U U U) call103 (image_s hfl ih (hA.mono ((List.sublist_cons_self _ _).trans hHM)) (hM.mono ((List.sublist_cons_self _ _).trans hHM)) hm hI hF f qf cf hf qom)) ?_ U);rintro _ M2 ⟨l2,q2,c2,e2,rfl,he2,hM2⟩;refine rO tb 14 U ?_
  first|refine Ac (Aa U) (fun c34=> ?_) (fun c34=> ?_)|refine Ag (Aa U) (fun c34=> ?_) (fun c34=> ?_)
  ·skip
   refine rC tb 11 U (A6 (rX tb 2 U (Ai U (.tmp (Aa U) (.tmp (Aa U) (Ki U))) ?_)));exact⟨_,⟨[],none,0,0,e2,rfl,fun h9=>absurd h9 c34,((List.sublist_cons_self _ _).trans hHM).trans hM2⟩,sb0⟩
  ·have hZ2:=he2 (Classical.not_not.1 c34);have hL2:=hZ2.1;have hl2n:=hZ2.2.2.2;refine rC tb 14 U ?_;refine Be (X:=Nat × Sl) (V:=fun ⟨j,d⟩=>[(12,slV d (frN o l2 j).length),(16, .int .i64 (j:Nat))]) (C:=[(0,_),(3,_),(5,_),(11,_),(13,_),(14,_)]) (G:=fun ⟨j,d⟩=>slH d ((frN o l2 j).flatMap encHd) 30++M2) (φ:=fun ⟨j,d⟩=>j≤l2.length∧SlOk d (frN o l2 j).length 10) (μ:=fun ⟨j,d⟩=>l2.length - j) (x0:=(0, .nil)) ?_ ⟨Aa rfl,Aa rfl,Aa rfl,Aa rfl,Aa rfl,Aa rfl,trivial⟩ ⟨(by first|exact Aa rfl|(refine Af (Aa rfl) (vint ?_);omega)|(refine Af (Aa rfl) ?_;simp;done)|(refine Af (Aa rfl) ?_;exact(by rw[Cu hj2 hold]))),(by first|exact Aa rfl|(refine Af (Aa rfl) (vint ?_);omega)|(refine Af (Aa rfl) ?_;simp;done)|(refine Af (Aa rfl) ?_;exact(by rw[Cu hj2 hold]))),trivial⟩ (by exact sb0) ?_
   ·exact⟨Nat.zero_le _,rfl⟩
   rintro⟨j,d⟩ ⟨hj,hd⟩;refine rD tb 9 U ?_
   first|refine Ac (Aa U) (fun c39=> ?_) (fun c39=> ?_)|refine Ag (Aa U) (fun c39=> ?_) (fun c39=> ?_)
   ·have hj2:j<l2.length:=by have h9:((j:Nat):Int)<(l2.length:Nat):=c39;omega
    refine rC tb 9 U (y_ (Kl U U runUnderlying42 sizeOf30 qom (by first|exact rfl|exact hL2.1.b (i:=j) qom)) ?_ U);refine y_ (Kk U isAgg30 sizeOf30 (Aw (hL2.ok (k:=j) qom)) (by first|exact((hL2.mono (List.sublist_append_right _ _)).hd).cs (i:=j) qom|exact As)) ?_ U;refine y_ (Al (qe2 U U) call143 (fun H' hs=>rin_s o qo co ((ho.mono (hM2.trans (List.sublist_append_right _ _))).mono hs) (gd l2 j) (hL2.ok (k:=j) hj2) qom)) ?_ U;refine rO tb 6 U ?_
    first|refine Ax (Bq (T U)) U Ad ?_|refine Ax (B4 (T U)) U Ad ?_
    refine rO tb 2 U ?_
    first|refine Ac (Aa U) (fun c49=> ?_) (fun c49=> ?_)|refine Ag (Aa U) (fun c49=> ?_) (fun c49=> ?_)
    ·have hnew:gd l2 j∉o:=by simpa using c49
     refine rC tb 4 U (y_ (Kl U U runUnderlying42 sizeOf30 qom (by first|exact rfl|exact hL2.1.b (i:=j) qom)) ?_ U);refine y_ (Kk U isAgg30 sizeOf30 (Aw (hL2.ok (k:=j) qom)) (by first|exact((hL2.mono (List.sublist_append_right _ _)).hd).cs (i:=j) qom|exact As)) ?_ U;refine e_ (Bd (.cons (T U) .nil) (bs42 (hL2.ok (k:=j) hj2))) ?_ U;rintro _ _ ⟨n55,rfl,rfl⟩;rw[← Dr (hL2.ok (k:=j) hj2)];refine e_ (Cd (enc:=encHd) (d:=d) (l:=frN o l2 j) (gd l2 j) (by':=80) qlc (T U) (T U) runUnderlying42 runUnderlying42 sizeOf30 typeInfo30 U zeroValue30 U Ck (Cm _) hd qde (by have:=Ic o l2 j;omega)) ?_ U;rintro _ _ ⟨d2,rfl,hd2,rfl⟩;rw[show (frN o l2 j).length+1=(frN o l2 j++[gd l2 j]).length from (by simp)] at hd2 ⊢;rw[← frN_yes hj2 hnew] at hd2 ⊢;refine rO tb 6 U (y_ (Bc (T U) Aj qom) ?_ U);refine rO tb 2 U ?_;refine A3 ((j+1,d2)) ?_ ?_ ⟨(by first|exact Aa U|(refine Af (Aa U) (vint ?_);omega)|(refine Af (Aa U) ?_;simp;done)|(refine Af (Aa U) ?_;exact(by rw[Cu hj2 hold]))),(by first|exact Aa U|(refine Af (Aa U) (vint ?_);omega)|(refine Af (Aa U) ?_;simp;done)|(refine Af (Aa U) ?_;exact(by rw[Cu hj2 hold]))),trivial⟩ ⟨Aa U,Aa U,Aa U,Aa U,Aa U,Aa U,trivial⟩ ?_
     ·exact⟨hj2,hd2⟩
     ·first|omega|(simp only[];omega)
     ·first|(dsimp only;rw[Cu hj2 hold];exact sb0)|exact sbt
    ·have hold:gd l2 j∈o:=by simpa using c49
     refine rC tb 5 U (y_ (Bc (T U) Aj qom) ?_ U);refine rO tb 2 U ?_;refine A3 ((j+1,d)) ?_ ?_ ⟨(by first|exact Aa U|(refine Af (Aa U) (vint ?_);omega)|(refine Af (Aa U) ?_;simp;done)|(refine Af (Aa U) ?_;exact(by rw[Cu hj2 hold]))),(by first|exact Aa U|(refine Af (Aa U) (vint ?_);omega)|(refine Af (Aa U) ?_;simp;done)|(refine Af (Aa U) ?_;exact(by rw[Cu hj2 hold]))),trivial⟩ ⟨Aa U,Aa U,Aa U,Aa U,Aa U,Aa U,trivial⟩ ?_
     ·exact⟨hj2,by rw[Cu hj2 hold];exact hd⟩
     ·first|omega|(simp only[];omega)
     ·first|(dsimp only;rw[Cu hj2 hold];exact sb0)|exact sbt
   ·obtain rfl:j=l2.length:=by have h9: ¬ ((j:Nat):Int)<(l2.length:Nat):=c39;omega
    refine rC tb 2 U (Ar (rX tb 6 U (e_ (An (qe2 U U) call102 (rmerge_s o (frN o l2 l2.length) qo (slQ d) co (slC d) (ho.mono (hM2.trans (List.sublist_append_right _ _))) hcl.up (Hl hd (fr_ok hL2.2.1)) qom (by have:=Ic o l2 l2.length;omega))) ?_ U)));rintro _ M3 ⟨l3,q3,c3,rfl,hL3,hul3,⟨hm3,hn3⟩,hM3⟩;obtain⟨hg1,hg2⟩:=cli_grow hcl.up hm3;refine rO tb 11 U ?_
    first|refine Ac (Aa U) (fun c62=> ?_) (fun c62=> ?_)|refine Ag (Aa U) (fun c62=> ?_) (fun c62=> ?_)
    ·skip
     refine rC tb 10 U (A6 (rX tb 2 U (Ai U (.tmp (Aa U) (.tmp (Aa U) (Ki U))) ?_)));exact⟨_,⟨[],none,0,0,2,rfl,fun h9=>absurd h9 qde,((List.sublist_cons_self _ _).trans hHM).trans (hM2.trans ((List.sublist_append_right _ _).trans hM3))⟩,sb0⟩
    ·have hz3:l3.length≤256:=by have h9: ¬ ((l3.length:Nat):Int)>256:=c62;omega
     refine rC tb 9 U ?_
     first|refine Ac (Aa U) (fun c65=> ?_) (fun c65=> ?_)|refine Ag (Aa U) (fun c65=> ?_) (fun c65=> ?_)
     ·have hfn: ¬ (frN o l2 l2.length).length=0:=by have h9:(((frN o l2 l2.length).length:Nat):Int)>0:=c65;omega
      have hg3:=hg2 hfn;refine rC tb 2 U (y_ (Bc (T U) Aj qom) ?_ U);refine rO tb 3 U ?_;refine A3 ((l3,q3,c3,frN o l2 l2.length,slQ d,slC d,r+1,M3)) ?_ ?_ ⟨(by first|exact Aa U|(refine Af (Aa U) (vint ?_);omega)|(refine Af (Aa U) ?_;simp;done)|(refine Af (Aa U) ?_;exact(by rw[Cu hj2 hold]))),(by first|exact Aa U|(refine Af (Aa U) (vint ?_);omega)|(refine Af (Aa U) ?_;simp;done)|(refine Af (Aa U) ?_;exact(by rw[Cu hj2 hold]))),(by first|exact Aa U|(refine Af (Aa U) (vint ?_);omega)|(refine Af (Aa U) ?_;simp;done)|(refine Af (Aa U) ?_;exact(by rw[Cu hj2 hold]))),trivial⟩ ⟨Aa U,Aa U,Aa U,trivial⟩ ?_
      ·refine⟨cli_next hcl hZ2.2.2.1 hul3 hm3,hL3,(Hl (X:=M2) hd (fr_ok hL2.2.1)).mono hM3,hz3,by have:=Ic o l2 l2.length;omega,by omega,by omega,hHM.trans (hM2.trans ((List.sublist_append_right _ _).trans hM3))⟩
      ·dsimp only;first|(rw[if_neg hf0,if_neg hfn];omega)|(rw[if_neg hf0,if_pos hfn];omega)
      ·exact sb0
     ·have hfn:(frN o l2 l2.length).length=0:=by have h9: ¬ (((frN o l2 l2.length).length:Nat):Int)>0:=c65;omega
      refine rC tb 2 U ?_;refine A3 ((l3,q3,c3,frN o l2 l2.length,slQ d,slC d,r,M3)) ?_ ?_ ⟨(by first|exact Aa U|(refine Af (Aa U) (vint ?_);omega)|(refine Af (Aa U) ?_;simp;done)|(refine Af (Aa U) ?_;exact(by rw[Cu hj2 hold]))),(by first|exact Aa U|(refine Af (Aa U) (vint ?_);omega)|(refine Af (Aa U) ?_;simp;done)|(refine Af (Aa U) ?_;exact(by rw[Cu hj2 hold]))),(by first|exact Aa U|(refine Af (Aa U) (vint ?_);omega)|(refine Af (Aa U) ?_;simp;done)|(refine Af (Aa U) ?_;exact(by rw[Cu hj2 hold]))),trivial⟩ ⟨Aa U,Aa U,Aa U,trivial⟩ ?_
      ·refine⟨cli_next hcl hZ2.2.2.1 hul3 hm3,hL3,(Hl (X:=M2) hd (fr_ok hL2.2.1)).mono hM3,hz3,by have:=Ic o l2 l2.length;omega,by omega,by omega,hHM.trans (hM2.trans ((List.sublist_append_right _ _).trans hM3))⟩
      ·dsimp only;first|(rw[if_neg hf0,if_neg hfn];omega)|(rw[if_neg hf0,if_pos hfn];omega)
      ·exact sb0
 ·obtain rfl:f=[]:=List.eq_nil_of_length_eq_zero (by have h9: ¬ ((f.length:Nat):Int)>0:=c24;omega);refine rC tb 2 U (Ar (rX tb 12 U (Ai U (.tmp (Aa U) (.tmp (Aa U) (Ki U))) ?_)));exact⟨_,⟨o,qo,co,r,0,rfl,fun _=>⟨ho,hcl.up,cli_end hcl,hon⟩,((List.sublist_cons_self _ _).trans hHM)⟩,sb0⟩
section
variable {fl:List Fd} {m:Pom} {p:Po}
theorem oinv1 (hI:IsO fl m p)(hk:m.kind=1):∃ x,p= .fil x∧IsP fl m.pr x:=by
 cases hI with
 |fil _ h=>exact⟨_,rfl,h⟩
 |_=>omega
theorem oinv2 (hI:IsO fl m p)(hk:m.kind=2):∃ n:Nat,m.n=n∧p= .set (fndFd fl m.nm).1 n:=by
 cases hI with
 |set _ h=>exact⟨_,h,rfl⟩
 |_=>omega
theorem oinv3 (hI:IsO fl m p)(hk:m.kind=3):∃ x y,1<m.subs.length∧p= .uni x y∧IsO fl (gd m.subs 0) x∧IsO fl (gd m.subs 1) y:=by
 cases hI with
 |uni _ h1 h2 h3=>rw[h1];exact⟨_,_,Nat.lt_succ_self _,rfl,h2,h3⟩
 |_=>omega
theorem oinv4 (hI:IsO fl m p)(hk:m.kind=4):∃ x y,1<m.subs.length∧p= .seq x y∧IsO fl (gd m.subs 0) x∧IsO fl (gd m.subs 1) y:=by
 cases hI with
 |seq _ h1 h2 h3=>rw[h1];exact⟨_,_,Nat.lt_succ_self _,rfl,h2,h3⟩
 |_=>omega
theorem oinv5 (hI:IsO fl m p)(h1: ¬ m.kind=1)(h2: ¬ m.kind=2)(h3: ¬ m.kind=3)(h4: ¬ m.kind=4):∃ x,0<m.subs.length∧p= .star x∧IsO fl (gd m.subs 0) x:=by
 cases hI with
 |star _ h1 h2=>rw[h1];exact⟨_,Nat.zero_lt_one,rfl,h2⟩
 |_=>omega
end
theorem rset_v {w0:World}{H:List (Nat × Obj)}(f:Fd)(hf:FdOk f)(h:Hd)(hh:HdOk h){v:Int}(n:Nat)(hv:v=(n:Nat))(hn:n<2 ^ f.w):
  FSpec Tryz.prog w0 100 #[.agg (encF f).toArray, .agg (hdC h).toArray, .int .i64 v] H (Still (.agg (hdC (fset f h n)).toArray) H):=by subst hv;exact rset_s f hf h hh n hn
abbrev BdK (l:List Hd) (q:Option Addr) (c:Nat) (H:List (Nat × Obj)):Value→List (Nat × Obj)→Prop:=fun u H'=>∃ (l':List Hd) (q':Option Addr) (c':Nat) (e:Int),(u= .tuple #[.slice q' l'.length c', .int .i64 e]∧(e=0→l'=l∧q'=q∧c'=c∧l.length≤256))∧H'=H
theorem bounded_s {w0:World}{H:List (Nat × Obj)}(l:List Hd)(q:Option Addr)(c:Nat):
  FSpec Tryz.prog w0 101 #[.slice q l.length c] H (BdK l q c H):=by
 refine Aq Tryz.func101 U ntmps101 U (rD tb 14 U ?_)
 first|refine Ac (Aa U) (fun c6=> ?_) (fun c6=> ?_)|refine Ag (Aa U) (fun c6=> ?_) (fun c6=> ?_)
 ·refine rC tb 8 U (Ai U (.tmp (Aa U) (Ki U)) ?_);exact⟨_,⟨[],none,0,2,⟨rfl,fun h=>absurd h qde⟩,rfl⟩,sbt⟩
 ·refine rC tb 10 U (Ai U (.tmp (Aa U) (Ki U)) ?_);exact⟨_,⟨l,q,c,0,⟨rfl,fun _=>⟨rfl,rfl,rfl,by have h9: ¬ ((l.length:Nat):Int)>256:=c6;omega⟩⟩,rfl⟩,sbt⟩
theorem set_uni {w0:World}{A B:Hd→Prop}{H H' H2:List (Nat × Obj)}{l1 l2 l l':List Hd}{q1 q2 q q':Option Addr}{c1 c2 c c':Nat}{e:Int}(h1:SetIs w0 A H l1 q1 c1)(h2:SetIs w0 B H2 l2 q2 c2)(hL:HsA w0 H' l q c)(hu:l.Pairwise hLt)(hm:∀ x,x∈l↔x∈l1∨x∈l2)(he:e=0→l'=l∧q'=q∧c'=c∧l.length≤256):e=0→SetIs w0 (fun g=>A g∨B g) H' l' q' c':=fun h9=>by
 obtain⟨rfl,rfl,rfl,hn⟩:=he h9;exact⟨hL,hu,fun g=>by rw[hm,h1.2.2.1,h2.2.2.1],hn⟩
theorem rev_step {w0:World}{H:List (Nat × Obj)}{fl:List Fd}(hfl:FlOk fl){q:Option Addr}{c:Nat}{tick:Int}{N:Nat}(hN:N≤100000000)(ih:EvS13 w0 fl q c tick N){m:Pom}{p:Po}{h:Hd}(hA:FlA w0 H q fl)(hM:PoM w0 H m)(hm:m.sz≤N+1)(hI:IsO fl m p)(hF:p.Fit (bsF fl))(hh:HdOk h):
  FSpec Tryz.prog w0 54 #[.slice q fl.length c, .agg (encPo m).toArray, .agg (hdC h).toArray, .int .i64 tick] H (EvK13 w0 (den tick p h) H):=by
 refine Aq Tryz.func54 U ntmps54 U ?_;have hsz:=Dw m;have hfew:=hfl.few;refine rD tb 2 U (e_ (Ko U cs_) ?_ U);rintro _ _ ⟨n5,rfl,rfl⟩;refine e_ (Ko U cs_) ?_ U;rintro _ _ ⟨n6,rfl,rfl⟩;refine rO tb 8 U (y_ (Kj U isAgg3 (by first|exact c_o)) ?_ U);refine rO tb 9 U ?_
 first|refine Ac (Aa U) (fun c24=> ?_) (fun c24=> ?_)|refine Ag (Aa U) (fun c24=> ?_) (fun c24=> ?_)
 ·obtain⟨x1,rfl,hx⟩:=oinv1 hI c24;have hF:x1.Fit (bsF fl):=hF;refine rC tb 4 U ?_;refine y_ (Kk U isAgg25 sizeOf25 U (by first|exact Iv (by repeat (first|exact Au|refine Ay ?_))|exact As)) ?_ U;refine y_ (Kk U isAgg30 sizeOf30 (Aw hh) (by first|exact As)) ?_ U;refine rO tb 1 U (y_ (Al (qe4 U U U U) call99 (fun H' hs=>holds_s hfl 1000000000 (Nat.le_refl _) (hA.mono (List.Sublist.trans (by exact sbt) hs)) (hM.pred.mono (List.Sublist.trans (by exact sbt) hs)) qom hx hF hh)) ?_ U);refine rO tb 9 U ?_
  first|refine Ac (Aa U) (fun c32=> ?_) (fun c32=> ?_)|refine Ag (Aa U) (fun c32=> ?_) (fun c32=> ?_)
  ·refine rC tb 2 U (y_ (Kk U isAgg30 sizeOf30 (Aw hh) (by first|exact As)) ?_ U);refine e_ (Bd (.cons (T U) .nil) (bs42 hh)) ?_ U;rintro _ _ ⟨n34,rfl,rfl⟩;refine rO tb 8 U (Ai U (.tmp (Aa U) (Ki U)) ?_);exact⟨_,⟨[h],some ⟨n34,0,none⟩,1,0,rfl,fun _=>⟨Ju (by repeat (first|exact Au|refine Ay ?_)) hh,List.pairwise_singleton ..,fun g=>by simp[den,c32],by simp⟩,by exact sbt⟩,sb0⟩
  ·refine rC tb 11 U (Ai U (.tmp (Aa U) (Ki U)) ?_);exact⟨_,⟨[],none,0,0,rfl,fun _=>⟨hs_nil, .nil,fun g=>by simp[den,c32],by simp⟩,by exact sbt⟩,sb0⟩
 ·skip
  refine rC tb 6 U ?_
  first|refine Ac (Aa U) (fun c35=> ?_) (fun c35=> ?_)|refine Ag (Aa U) (fun c35=> ?_) (fun c35=> ?_)
  ·obtain⟨nn,hnn,rfl⟩:=oinv2 hI c35;have hF:FIn (bsF fl) (fndFd fl m.nm).1∧nn<2 ^ (fndFd fl m.nm).1.w:=hF;refine rC tb 4 U (y_ (Kj U isAgg9 (by first|exact c_o)) ?_ U);refine y_ (Al (qe2 U U) call87 (fun H' hs=>Fj fl q c (hA.mono (List.Sublist.trans (by exact sbt) hs)) qom m.nm)) ?_ U;refine rO tb 3 U (e_ (Ak zeroValue67 cs_) ?_ U);rintro _ _ ⟨n11,rfl,rfl⟩
   first|refine A5 (Km U U sizeOf67) U Ad ?_
   rintro _ _ ⟨rfl,rfl⟩;refine rO tb 5 U (y_ (Kk U isAgg67 sizeOf67 U (by first|exact As)) ?_ U);refine y_ (Kk U isAgg30 sizeOf30 (Aw hh) (by first|exact As)) ?_ U;refine rO tb 1 U (y_ (Kj U isAgg3 (by first|exact c_o)) ?_ U);refine y_ (Al (qe3 U U U) call100 (fun H' hs=>rset_v (fndFd fl m.nm).1 hF.1.ok h hh nn hnn hF.2)) (e_ (Bd (.cons (T U) .nil) (bs42 (Cg _ _ _))) ?_ U) U;rintro _ _ ⟨n49,rfl,rfl⟩;refine rO tb 7 U (Ai U (.tmp (Aa U) (Ki U)) ?_);exact⟨_,⟨[fset (fndFd fl m.nm).1 h nn],some ⟨n49,0,none⟩,1,0,rfl,fun _=>⟨Ju (by repeat (first|exact Au|refine Ay ?_)) (Cg _ _ _),List.pairwise_singleton ..,fun g=>by simp[den],by simp⟩,by exact sbt⟩,sb0⟩
  ·skip
   refine rC tb 6 U ?_
   first|refine Ac (Aa U) (fun c50=> ?_) (fun c50=> ?_)|refine Ag (Aa U) (fun c50=> ?_) (fun c50=> ?_)
   ·obtain⟨x3,y3,hl0,rfl,hx,hy⟩:=oinv3 hI c50;have hF:x3.Fit (bsF fl)∧y3.Fit (bsF fl):=hF;refine rC tb 1 U (Bf 13 [(0,true),(1,true),(2,true),(3,true),(4,true),(5,true),(6,true),(7,false),(8,true),(9,true),(10,true),(11,true),(12,true)] _ mixd qkr sb0 ?_ Bj);refine rP tb 2 U (o_y U (Kj U isAgg26 (by first|exact c_o)) ?_ U Ad);refine o_y U (Ca (T U) Aj runUnderlying26 sizeOf28 qom (by first|exact rfl|exact hM.arr.b (i:=0) qom|exact hM.arr.b (i:=1) qom)) ?_ U Ad;refine o_y U (Kk U isAgg28 sizeOf28 U (by first|exact(hM.arr.mono ((show H.Sublist ((n6,Cl (hdC h) 30)::(n5,Cl (encPo m) 28)::H) by exact sbt))).cs (i:=0) qom|exact As)) ?_ U Ad;refine o_y U (Kk U isAgg30 sizeOf30 (Aw hh) (by first|exact As)) ?_ U Ad;refine rP tb 1 U (o_e U (An (qe4 U U U U) call54 (ih (hA.mono ((show H.Sublist ((n6,Cl (hdC h) 30)::(n5,Cl (encPo m) 28)::H) by exact sbt))) ((hM.sub (A8 qom)).mono ((show H.Sublist ((n6,Cl (hdC h) 30)::(n5,Cl (encPo m) 28)::H) by exact sbt))) (by have:=Ds (A8 (l:=m.subs) (i:=0) qom);omega) hx hF.1 hh)) ?_ U Ad);rintro _ M2 ⟨l1,q1,c1,e1,rfl,he1,hM2⟩;refine⟨(by assumption),?_⟩;refine rP tb 5 U (A2 U (rO tb 3 U (Bf 13 [(0,true),(1,true),(2,true),(3,true),(4,true),(5,true),(6,true),(7,false),(8,true),(9,true),(10,true),(11,true),(12,true)] _ mixd qkr sb0 ?_ Bj)));refine rP tb 2 U ?_;refine o_y U (Kj U isAgg26 (by first|exact c_o|exact(Ah (Fnd.mono (by repeat (first|exact Au|refine Ay ?_)) hM2)) 8 _ U)) ?_ U Ad;refine o_y U (Ca (T U) Aj runUnderlying26 sizeOf28 qom (by first|exact rfl|exact hM.arr.b (i:=0) qom|exact hM.arr.b (i:=1) qom)) ?_ U Ad;refine o_y U (Kk U isAgg28 sizeOf28 U (by first|exact(hM.arr.mono ((show H.Sublist ((n6,Cl (hdC h) 30)::(n5,Cl (encPo m) 28)::H) by exact sbt).trans hM2)).cs (i:=1) qom|exact As)) ?_ U Ad;refine o_y U (Kk U isAgg30 sizeOf30 (Aw hh) (by first|exact Ah (Fnd.mono (by repeat (first|exact Au|refine Ay ?_)) hM2)|exact As)) ?_ U Ad;refine rP tb 1 U (o_e U (An (qe4 U U U U) call54 (ih (hA.mono ((show H.Sublist ((n6,Cl (hdC h) 30)::(n5,Cl (encPo m) 28)::H) by exact sbt).trans hM2)) ((hM.sub (A8 qom)).mono ((show H.Sublist ((n6,Cl (hdC h) 30)::(n5,Cl (encPo m) 28)::H) by exact sbt).trans hM2)) (by have:=Ds (A8 (l:=m.subs) (i:=1) qom);omega) hy hF.2 hh)) ?_ U Ad);rintro _ M3 ⟨l2,q2,c2,e2,rfl,he2,hM3⟩;refine⟨(by assumption),?_⟩;refine rP tb 5 U (A2 U (kO tb 2 [13,14,15,16] rfl U (rG tb 6 U ?_)))
    first|refine Am (s:=76) (Aa U) (fun c76=> ?_) (fun c76=> ?_)|refine A0 (s:=76) (Aa U) (fun c76=> ?_) (fun c76=> ?_)
    ·skip
     refine rO tb 16 U (Ai U (.tmp (Aa U) (Ki U)) ?_);exact⟨_,⟨[],none,0,2,rfl,fun h9=>absurd h9 qde,(show H.Sublist ((n6,Cl (hdC h) 30)::(n5,Cl (encPo m) 28)::H) by exact sbt).trans (hM2.trans hM3)⟩,sb0⟩
    ·have hZ1:=he1 (Classical.not_not.1 c76);refine rO tb 5 U ?_
     first|refine Ac (Aa U) (fun c79=> ?_) (fun c79=> ?_)|refine Ag (Aa U) (fun c79=> ?_) (fun c79=> ?_)
     ·skip
      refine rC tb 10 U (Ai U (.tmp (Aa U) (Ki U)) ?_);exact⟨_,⟨[],none,0,2,rfl,fun h9=>absurd h9 qde,(show H.Sublist ((n6,Cl (hdC h) 30)::(n5,Cl (encPo m) 28)::H) by exact sbt).trans (hM2.trans hM3)⟩,sb0⟩
     ·have hZ2:=he2 (Classical.not_not.1 c79);refine rC tb 6 U (e_ (An (qe2 U U) call102 (rmerge_s l1 l2 q1 q2 c1 c2 (hZ1.1.mono hM3) hZ1.2.1 hZ2.1 (by have:=hZ1.2.2.2;omega) (by have:=hZ2.2.2.2;omega))) ?_ U);rintro _ M4 ⟨l4,q4,c4,rfl,hL4,hul4,⟨hm4,hn4⟩,hM4⟩;refine e_ (An (qe1 U) call101 (bounded_s l4 q4 c4)) ?_ U;rintro _ _ ⟨l5,q5,c5,e5,⟨rfl,he5⟩,rfl⟩;refine rO tb 9 U (Ai U (.tmp (Aa U) (Ki U)) ?_);exact⟨_,⟨l5,q5,c5,e5,rfl,set_uni hZ1 hZ2 hL4 hul4 hm4 he5,(show H.Sublist ((n6,Cl (hdC h) 30)::(n5,Cl (encPo m) 28)::H) by exact sbt).trans (hM2.trans (hM3.trans hM4))⟩,sb0⟩
   ·skip
    refine rC tb 6 U ?_
    first|refine Ac (Aa U) (fun c86=> ?_) (fun c86=> ?_)|refine Ag (Aa U) (fun c86=> ?_) (fun c86=> ?_)
    ·obtain⟨x4,y4,hl0,rfl,hx,hy⟩:=oinv4 hI c86;have hF:x4.Fit (bsF fl)∧y4.Fit (bsF fl):=hF;refine rC tb 1 U (Bf 13 [(0,true),(1,true),(2,true),(3,true),(4,true),(5,true),(6,true),(7,false),(8,true),(9,true),(10,true),(11,true),(12,true)] _ mixd qkr sb0 ?_ Bj);refine rP tb 2 U (o_y U (Kj U isAgg26 (by first|exact c_o)) ?_ U Ad);refine o_y U (Ca (T U) Aj runUnderlying26 sizeOf28 qom (by first|exact rfl|exact hM.arr.b (i:=0) qom|exact hM.arr.b (i:=1) qom)) ?_ U Ad;refine o_y U (Kk U isAgg28 sizeOf28 U (by first|exact(hM.arr.mono ((show H.Sublist ((n6,Cl (hdC h) 30)::(n5,Cl (encPo m) 28)::H) by exact sbt))).cs (i:=0) qom|exact As)) ?_ U Ad;refine o_y U (Kk U isAgg30 sizeOf30 (Aw hh) (by first|exact As)) ?_ U Ad;refine rP tb 1 U (o_e U (An (qe4 U U U U) call54 (ih (hA.mono ((show H.Sublist ((n6,Cl (hdC h) 30)::(n5,Cl (encPo m) 28)::H) by exact sbt))) ((hM.sub (A8 qom)).mono ((show H.Sublist ((n6,Cl (hdC h) 30)::(n5,Cl (encPo m) 28)::H) by exact sbt))) (by have:=Ds (A8 (l:=m.subs) (i:=0) qom);omega) hx hF.1 hh)) ?_ U Ad);rintro _ M2 ⟨l1,q1,c1,e1,rfl,he1,hM2⟩;refine⟨(by assumption),?_⟩;refine rP tb 5 U (A2 U (rO tb 9 U ?_))
     first|refine Ac (Aa U) (fun c100=> ?_) (fun c100=> ?_)|refine Ag (Aa U) (fun c100=> ?_) (fun c100=> ?_)
     ·skip
      refine kC tb 7 [8,9] rfl U (rG tb 4 U (Ai U (.tmp (Aa U) (Ki U)) ?_));exact⟨_,⟨[],none,0,e1,rfl,fun h9=>absurd h9 c100,(show H.Sublist ((n6,Cl (hdC h) 30)::(n5,Cl (encPo m) 28)::H) by exact sbt).trans hM2⟩,sb0⟩
     ·have hZ1:=he1 (Classical.not_not.1 c100);refine rC tb 6 U ?_;refine y_ (Kj U isAgg26 (by first|exact c_o|exact(Ah (Fnd.mono (by repeat (first|exact Au|refine Ay ?_)) hM2)) 8 _ U)) ?_ U;refine y_ (Ca (T U) Aj runUnderlying26 sizeOf28 qom (by first|exact rfl|exact hM.arr.b (i:=0) qom|exact hM.arr.b (i:=1) qom)) ?_ U;refine y_ (Kk U isAgg28 sizeOf28 U (by first|exact(hM.arr.mono ((show H.Sublist ((n6,Cl (hdC h) 30)::(n5,Cl (encPo m) 28)::H) by exact sbt).trans hM2)).cs (i:=1) qom|exact As)) ?_ U;refine rO tb 2 U (e_ (An (qe4 U U U U) call103 (image_s hfl ih (hA.mono ((show H.Sublist ((n6,Cl (hdC h) 30)::(n5,Cl (encPo m) 28)::H) by exact sbt).trans hM2)) ((hM.sub (A8 qom)).mono ((show H.Sublist ((n6,Cl (hdC h) 30)::(n5,Cl (encPo m) 28)::H) by exact sbt).trans hM2)) (by have:=Ds (A8 (l:=m.subs) (i:=1) qom);omega) hy hF.2 l1 q1 c1 hZ1.1 (by have:=hZ1.2.2.2;omega))) ?_ U);rintro _ M3 ⟨l3,q3,c3,e3,rfl,he3,hM3⟩;refine kO tb 6 [8,9] rfl U (rG tb 3 U (Ai U (.tmp (Aa U) (Ki U)) ?_));exact⟨_,⟨l3,q3,c3,e3,rfl,fun h9=>by obtain⟨z1,z2,z3,z4⟩:=he3 h9;exact⟨z1,z2,fun g=>by rw[z3];simp only[den,hZ1.2.2.1],z4⟩,(show H.Sublist ((n6,Cl (hdC h) 30)::(n5,Cl (encPo m) 28)::H) by exact sbt).trans (hM2.trans hM3)⟩,sb0⟩
    ·obtain⟨x5,hl0,rfl,hx⟩:=oinv5 hI c24 c35 c50 c86;have hF:x5.Fit (bsF fl):=hF;refine rC tb 4 U (Bf 15 [(0,true),(1,true),(2,true),(3,true),(4,true),(5,true),(6,true),(7,false),(8,true),(9,true),(10,true),(11,true),(12,true),(13,true),(14,true)] _ mixd qkr sb0 ?_ Bj);refine rP tb 2 U (o_y U (Kj U isAgg26 (by first|exact c_o)) ?_ U Ad);refine o_y U (Ca (T U) Aj runUnderlying26 sizeOf28 qom (by first|exact rfl|exact hM.arr.b (i:=0) qom|exact hM.arr.b (i:=1) qom)) ?_ U Ad;refine o_y U (Kk U isAgg28 sizeOf28 U (by first|exact(hM.arr.mono ((show H.Sublist ((n6,Cl (hdC h) 30)::(n5,Cl (encPo m) 28)::H) by exact sbt))).cs (i:=0) qom|exact As)) ?_ U Ad;refine o_y U (Kk U isAgg30 sizeOf30 (Aw hh) (by first|exact As)) ?_ U Ad;refine rP tb 1 U (o_e U (An (qe4 U U U U) call104 (closure_s hfl ih (hA.mono (show H.Sublist ((n6,Cl (hdC h) 30)::(n5,Cl (encPo m) 28)::H) by exact sbt)) ((hM.sub (A8 qom)).mono ((show H.Sublist ((n6,Cl (hdC h) 30)::(n5,Cl (encPo m) 28)::H) by exact sbt))) (by have:=Ds (A8 (l:=m.subs) (i:=0) qom);omega) hx hF hh)) ?_ U Ad);rintro _ M2 ⟨l6,q6,c6,r6,e6,rfl,he6,hM2⟩;refine⟨(by assumption),?_⟩;refine rP tb 7 U (A2 U (kO tb 10 [8,9] rfl U (rG tb 1 U (Ai U (.tmp (Aa U) (Ki U)) ?_))));exact⟨_,⟨l6,q6,c6,e6,rfl,he6,(show H.Sublist ((n6,Cl (hdC h) 30)::(n5,Cl (encPo m) 28)::H) by exact sbt).trans hM2⟩,sb0⟩
theorem rev_s {w0:World}{fl:List Fd}(hfl:FlOk fl){q:Option Addr}{c:Nat}{tick:Int}(N:Nat)(hN:N≤100000000):EvS13 w0 fl q c tick N:=by
 induction N with
 |zero=>intro H m p h _ _ h3;have:=Dw m;omega
 |succ N ih=>
  have ih:EvS13 w0 fl q c tick N:=ih qom;intro H m p h hA hM hm hI hF hh;exact rev_step hfl qom ih hA hM hm hI hF hh
abbrev Ev17 (w0:World) (P:Hd→Prop) (H:List (Nat × Obj)):Value→List (Nat × Obj)→Prop:=fun u H'=>∃ (l:List Hd) (q:Option Addr) (c:Nat) (b:Bool),u= .tuple #[.slice q l.length c, .bool b]∧(b=true→SetIs w0 P H' l q c)∧H.Sublist H'
theorem rev17_s {w0:World}{H:List (Nat × Obj)}{fl:List Fd}(hfl:FlOk fl){q:Option Addr}{c:Nat}{tick:Int}{m:Pom}{p:Po}{h:Hd}(hA:FlA w0 H q fl)(hM:PoM w0 H m)(hm:m.sz≤100000000)(hI:IsO fl m p)(hF:p.Fit (bsF fl))(hh:HdOk h):
  FSpec Tryz.prog w0 17 #[.slice q fl.length c, .agg (encPo m).toArray, .agg (hdC h).toArray, .int .i64 tick] H (Ev17 w0 (den tick p h) H):=by
 refine Aq Tryz.func17 U ntmps17 U (rD tb 2 U (e_ (Ko U cs_) ?_ U));rintro _ _ ⟨n5,rfl,rfl⟩;refine e_ (Ko U cs_) ?_ U;rintro _ _ ⟨n6,rfl,rfl⟩;refine rO tb 7 U (y_ (Kk U isAgg28 sizeOf28 U (by first|exact As)) ?_ U);refine y_ (Kk U isAgg30 sizeOf30 (Aw hh) (by first|exact As)) ?_ U;refine rO tb 1 U (e_ (An (qe4 U U U U) call54 (rev_s hfl 100000000 (Nat.le_refl _) (hA.mono (by exact sbt)) (hM.mono (by exact sbt)) hm hI hF hh)) ?_ U);rintro _ M2 ⟨l2,q2,c2,e2,rfl,he2,hM2⟩;refine rO tb 17 U (Ai U (.tmp (Aa U) (Ki U)) ?_);exact⟨_,⟨l2,q2,c2,_,rfl,fun h9=>he2 (of_decide_eq_true h9),List.Sublist.trans (by exact sbt) hM2⟩,sb0⟩
theorem eqB4 (a:Bool)(w:World):(Op.equal 4 (.bool a) (.bool a)).run Tryz.prog w= .ok true w:=by cases a<;>kernel_rfl
theorem yl_neqBF {w0:World}{L:Fm}{H:List (Nat × Obj)}{ty yt:TypeId}{x y:Operand}{a c:Bool}(hx:Ev L x (.bool a))(hy:Ev L y (.bool c))(h:a=c):Yl Tryz.prog w0 (.binOp .neq 4 x y yt) ty L H (.bool false):=Ba U fun b w=>by
 subst h;simp[exO,execOp,hx b,hy b,binOp,eqGuard,eqB4,Sem.run_bind,Result.andThen]
theorem lright_v {w0:World}{H:List (Nat × Obj)}(fi:List Fi)(q:Option Addr)(n c:Nat)(hn:n=fi.length)(hA:Arr w0 H q 3 encFi fi)(hnm:∀ f∈fi,f.nm.size≤9223372036854775807){vs:List Value}(hi:List Int)(hvs:vs=hwC hi)(hl:hi.length=10)(tick:Int):
  FSpec Tryz.prog w0 10 #[.slice q n c, .agg vs.toArray, .int .i64 tick] H (SayB (FisOk fi∧(∀ k,k<10→0≤gd hi k∧gd hi k≤65535)∧0≤tick∧tick≤1073741824) H):=by
 subst hvs;exact lright_n fi q n c hn hA hnm hi hl tick
theorem spec_sub {P:Program}{w0:World}{f:FuncId}{args:Array Value}{K0 H:List (Nat × Obj)}{K:Value→List (Nat × Obj)→Prop}(h:FSpec P w0 f args K0 K)(hs:K0.Sublist H):FSpec P w0 f args H K:=fun w hO=>h w (hO.sub hs)
theorem try_no {α:Type}{F:Option α}{z:α}{a:Nat}{e:Int}{B:Prop}(h:(F=some z∧e=0)∨(F=none∧a=0∧e=12∧B))(he: ¬ e=0):a=0∧e=12∧B:=by
 rcases h with h|h
 ·exact absurd h.2 he
 ·exact h.2
section
variable {w0:World} {H:List (Nat × Obj)} {D:Sd} {v:Sv} {ns:Ns} {h:Hd} {bs:List Nat}
theorem evd_s (hh:HdOk h)(hst:StOk D v ns)(hbs:BsOk bs)(hbe:D.bs=bs)(hS:(SM D v ns).Sublist H)(hB:Arr w0 H D.qb 1 encB1 bs)(a:Nat)(ha:a<ns.length){l:List Hd}(he:evA' ns bs h a=l)(hn:l.length≤1000):
  FSpec Tryz.prog w0 21 #[.pointer (some ⟨D.p,0,none⟩), .int .i64 (a:Nat), .agg (hdC h).toArray] H (fun u H'=>∃ d:Sl,(u= .tuple #[slV d l.length, .int .i64 0]∧SlOk d l.length 10)∧H'=slH d (l.flatMap encHd) 30++H):=by
 subst hbe;have e:=eval_s hh hst hbs hS hB a ha;rw[he] at e;intro w hO;refine(e w hO).mono ?_;rintro _ w' ⟨u,H',he,hO',⟨d,⟨_,h2,rfl⟩,rfl⟩|⟨h1,_⟩⟩
 ·exact⟨_,_,he,hO',d,⟨rfl,h2⟩,rfl⟩
 ·omega
theorem gvd_s (hh:HdOk h)(hst:StOk D v ns)(hbs:BsOk bs)(hbe:D.bs=bs)(hS:(SM D v ns).Sublist H)(hB:Arr w0 H D.qb 1 encB1 bs)(a:Nat)(ha:a<ns.length){b:Bool}(hg:gvF ns (xh bs h) a=b):
  FSpec Tryz.prog w0 34 #[.pointer (some ⟨D.p,0,none⟩), .int .i64 (a:Nat), .agg (hdC h).toArray] H (Still (.bool b) H):=by
 subst hbe;subst hg;exact givesm_s hh hst hbs hS hB a ha
theorem same_t (l:List Hd)(q1 q2:Option Addr)(c1 c2:Nat)(hA1:HsA w0 H l q1 c1)(hA2:HsA w0 H l q2 c2)(hlen:l.length≤1000000):FSpec Tryz.prog w0 19 #[.slice q1 l.length c1, .slice q2 l.length c2] H (Still (.bool true) H):=by
 have e:=same_s l l q1 q2 c1 c2 hA1 hA2 hlen
 rwa [decide_eq_true (rfl:l=l)] at e
end
theorem yl_eqAT {P:Program}{w0:World}{L:Fm}{H:List (Nat × Obj)}{ty yt t:TypeId}{x y:Operand}{xs ys:Array Value}{q:Prop}[Decidable q] (hx:Ev L x (.agg xs))(hy:Ev L y (.agg ys))(hg:P.eqGuardType P.depth t=false)(he:∀ w,(Op.equal t (.agg xs) (.agg ys)).run P w= .ok (decide q) w)(hq:q):Yl P w0 (.binOp .eql t x y yt) ty L H (.bool true):=by
 have:=Ig (P:=P) (w0:=w0) (L:=L) (H:=H) (ty:=ty) (yt:=yt) hx hy hg he
 rwa [decide_eq_true hq] at this
section
variable {w0:World} {bs:List Nat} {ns n2:Ns} {a d:Nat} {t:Int} {x:Po} {h:Hd} {H:List (Nat × Obj)} {l:List Hd} {q:Option Addr} {c most:Nat}
theorem evl_want (hb:BsOk bs)(hw:Wf (2*bs.length) ns)(la:a<ns.length)(hx:x.Fit bs)(ra:Rep bs ns a (den t x))(hh:HdOk h)(hZ:SetIs w0 (den t x h) H l q c):evA' ns bs h a=l∧gvF ns (xh bs h) a=decide (((l.length:Nat):Int)>0):=by
 refine⟨Gc (evA_up hb hw hh la) hZ.2.1 fun f=> ?_,?_⟩
 ·rw[Ha hb hw hh la ra (fun h1 h2=>C2 hx h1 h2),hZ.2.2.1]
 ·rw[Bool.eq_iff_iff,Jg hb hw hh la ra (fun h1 h2=>C2 hx h1 h2),decide_eq_true_eq]
  constructor
  ·rintro⟨g,hg⟩;have:=List.length_pos_of_mem ((hZ.2.2.1 g).2 hg);omega
  ·intro h0;exact⟨gd l 0,(hZ.2.2.1 _).1 (A8 qom)⟩
theorem evl_dom (hb:BsOk bs)(hw:Wf (2*bs.length) ns)(la:a<ns.length)(hx:x.Fit bs)(ra:Rep bs ns a (den t x))(hh:HdOk h)(hZ:SetIs w0 (den t x h) H l q c)(hd:domF most bs ns a=some (d,n2)):Wf (2*bs.length) n2∧d<n2.length∧(0<l.length→evA' n2 bs h d=[h])∧(l.length=0→evA' n2 bs h d=[]):=by
 obtain⟨g2,l2,r2⟩:=domF_ok hb hw la ra (fun h1 h2=>C2 hx h1 h2) hd;have ho:∀ {h g:Hd},HdOk h→(g=h∧∃ f,den t x h f)→HdOk g∧Out bs h g:=fun h1 h2=>by rw[h2.1];exact⟨h1, .refl _⟩
 refine⟨g2.w,l2,fun h0=>Gc (evA_up hb g2.w hh l2) (List.pairwise_singleton ..) fun f=> ?_,fun h0=>List.eq_nil_iff_forall_not_mem.2 fun f hf=> ?_⟩
 ·rw[Ha hb g2.w hh l2 r2 ho,List.mem_singleton];exact⟨fun e=>e.1,fun e=>⟨e,gd l 0,(hZ.2.2.1 _).1 (A8 h0)⟩⟩
 ·obtain⟨_,g,hg⟩:=(Ha hb g2.w hh l2 r2 ho f).1 hf;have:=List.length_pos_of_mem ((hZ.2.2.1 g).2 hg);omega
end
theorem evals_s {w0:World}{H:List (Nat × Obj)}(fi:List Fi)(q:Option Addr)(n c:Nat)(hn:n=fi.length)(hA:Arr w0 H q 3 encFi fi)(hnm:∀ f∈fi,f.nm.size≤9223372036854775807)(m1:Pom)(hM1:PoM w0 H m1)(hm1:m1.sz≤1048576)(hz1:NmO m1)(vs:List Value)(hi:List Int)(hvs:vs=hwC hi)(hil:hi.length=10)(tick:Int):
  FSpec Tryz.prog w0 9 #[.slice q n c, .agg (encPo m1).toArray, .agg vs.toArray, .int .i64 tick] H (Still (.bool true) H):=by
 refine Aq Tryz.func9 U ntmps9 U ?_;have hvl:vs.length=10:=by rw[hvs,List.length_map];exact hil
 refine rD tb 2 U (e_ (Ko U cs_) ?_ U);rintro _ _ ⟨n5,rfl,rfl⟩;refine e_ (Ko U cs_) ?_ U;rintro _ _ ⟨n6,rfl,rfl⟩;refine rO tb 6 U (y_ (Kk U isAgg30 sizeOf30 hvl (by first|exact As)) ?_ U);refine rO tb 1 U (e_ (An (qe3 U U U) call10 (lright_v fi q n c hn (hA.mono (by exact sbt)) hnm hi hvs hil tick)) ?_ U);rintro _ _ ⟨b0,⟨rfl,hr0⟩,rfl⟩;refine rO tb 7 U ?_
 first|refine Ax (Bq (T U)) U Ad ?_|refine Ax (B4 (T U)) U Ad ?_
 refine rO tb 2 U ?_
 first|refine Ac (Aa U) (fun c27=> ?_) (fun c27=> ?_)|refine Ag (Aa U) (fun c27=> ?_) (fun c27=> ?_)
 ·skip
  refine rC tb 2 U (y_ (Al .nil call11 (fun H' hs=>E8)) (rO tb 5 U (Ai U (Ki U) ?_)) U)
  first|exact⟨_,⟨rfl,rfl⟩,(show H.Sublist (SM (NewD fl 200000 dx db p mp) v1 ns1++(slH db ((bsF fl).flatMap encB1) 3++(slH dx (fl.flatMap encF) 67++((n6,Cl (hdC h) 30)::(n5,Cl (encPo m1) 28)::H)))) by exact sbt).trans hM_4⟩|exact⟨_,⟨rfl,rfl⟩,by exact sbt⟩
 ·obtain⟨hfi,hhi,ht0,ht1⟩:=hr0 (by simpa using c27);obtain⟨fl,hfl,hlf,hAf⟩:=fis_fl hfi hA;obtain rfl:n=fl.length:=hn.trans hlf;obtain⟨h,hh,heh⟩:=hi_hd hil hhi;obtain rfl:vs=hdC h:=hvs.trans heh;refine rC tb 5 U (y_ (Kk U isAgg28 sizeOf28 U (by first|exact As)) ?_ U);refine e_ (An (.cons (T U) (.cons (T U) (.cons Aj .nil))) call12 (right_s fl hfl q c (hAf.mono (by exact sbt)) (hM1.mono (by exact sbt)) qom hz1 20)) ?_ U;rintro _ _ ⟨b1,⟨rfl,hr1⟩,rfl⟩;refine rO tb 7 U ?_
  first|refine Ax (Bq (T U)) U Ad ?_|refine Ax (B4 (T U)) U Ad ?_
  refine rO tb 2 U ?_
  first|refine Ac (Aa U) (fun c33=> ?_) (fun c33=> ?_)|refine Ag (Aa U) (fun c33=> ?_) (fun c33=> ?_)
  ·skip
   refine rC tb 2 U (y_ (Al .nil call11 (fun H' hs=>E8)) (rO tb 5 U (Ai U (Ki U) ?_)) U)
   first|exact⟨_,⟨rfl,rfl⟩,(show H.Sublist (SM (NewD fl 200000 dx db p mp) v1 ns1++(slH db ((bsF fl).flatMap encB1) 3++(slH dx (fl.flatMap encF) 67++((n6,Cl (hdC h) 30)::(n5,Cl (encPo m1) 28)::H)))) by exact sbt).trans hM_4⟩|exact⟨_,⟨rfl,rfl⟩,by exact sbt⟩
  ·have hb1:b1=true:=by simpa using c33
   obtain⟨p1,hI1,hF1⟩:=fm_isO hfl (hr1 hb1).2.1 (hr1 hb1).2.2;refine rC tb 5 U (e_ (An (.cons (T U) (.cons Aj .nil)) call13 (new_s fl hfl q c (hAf.mono (by exact sbt)) 200000 qom)) ?_ U);rintro _ _ ⟨⟨dx,db,p,mp,v⟩,⟨rfl,hdx,hdb,hst⟩,rfl⟩
   dsimp only at hdx hdb hst
   refine rO tb 6 U (y_ (Kk U isAgg28 sizeOf28 U (by first|exact As)) ?_ U);refine rO tb 1 U (e_ (An (qe3 U U U) call14 (Hg (R:=(slH db ((bsF fl).flatMap encB1) 3++(slH dx (fl.flatMap encF) 67++((n6,Cl (hdC h) 30)::(n5,Cl (encPo m1) 28)::H)))) hst ((Js (w0:=w0) (H:=((n6,Cl (hdC h) 30)::(n5,Cl (encPo m1) 28)::H)) hfl hdx hdb 200000 p mp).mono (List.Sublist.refl _)) m1 p1 hI1 hF1 (hM1.mono (by exact sbt)) tick)) ?_ U);rintro _ _ ⟨⟨id1,e1,v1,ns1⟩,⟨rfl,hc1,hst1⟩,rfl⟩
   dsimp only at hc1 hst1
   refine kO tb 14 [0,3,5,6,11,12,13,45] rfl U ?_
   first|refine Ac (Aa U) (fun c45=> ?_) (fun c45=> ?_)|refine Ag (Aa U) (fun c45=> ?_) (fun c45=> ?_)
   ·obtain⟨hid0,he12,hns⟩:=try_no hc1 c45;refine rC tb 2 U (y_ (Al .nil call11 (fun H' hs=>E8)) (rO tb 2 U (Ax (Dh (T U) Aj he12) U (A1 U U (Aa U)) (rO tb 3 U (Ax (Dh (T U) Aj qom) U (A1 U U (Aa U)) ?_)))) U);refine rO tb 3 U (Ax (Al (qe1 U) call32 (fun H' hs=>len_s (D:=(NewD fl 200000 dx db p mp)) (List.Sublist.trans (List.sublist_append_left _ _) hs) hst1)) U (A1 U U (Aa U)) (Ax (Dh (T U) Aj (by rw[hns];rfl)) U (A1 U U (Aa U)) ?_));refine rO tb 6 U (Ai U (Ki U) ?_)
    first|exact⟨_,⟨rfl,rfl⟩,(show H.Sublist (SM (NewD fl 200000 dx db p mp) v1 ns1++(slH db ((bsF fl).flatMap encB1) 3++(slH dx (fl.flatMap encF) 67++((n6,Cl (hdC h) 30)::(n5,Cl (encPo m1) 28)::H)))) by exact sbt).trans hM_4⟩|exact⟨_,⟨rfl,rfl⟩,by exact sbt⟩
   ·have f1:=try_ok hc1 (Classical.not_not.1 c45);have hbok:=Jl hfl;obtain⟨g1,l1,r1⟩:=Ct hbok tick _ p1 hF1 (Kh _) f1;have hbits:=((Js (w0:=w0) (H:=((n6,Cl (hdC h) 30)::(n5,Cl (encPo m1) 28)::H)) hfl hdx hdb 200000 p mp).mono (List.Sublist.refl _)).bits;refine rC tb 5 U ?_;refine y_ (Kk U isAgg28 sizeOf28 U (by first|exact Ah fdd|exact As)) ?_ U;refine y_ (Kk U isAgg30 sizeOf30 (Aw hh) (by first|exact Ah fdd|exact As)) ?_ U;refine rO tb 1 U (e_ (An (qe4 U U U U) call17 (rev17_s hfl (hAf.mono (show H.Sublist (SM (NewD fl 200000 dx db p mp) v1 ns1++(slH db ((bsF fl).flatMap encB1) 3++(slH dx (fl.flatMap encF) 67++((n6,Cl (hdC h) 30)::(n5,Cl (encPo m1) 28)::H)))) by exact sbt)) (hM1.mono (show H.Sublist (SM (NewD fl 200000 dx db p mp) v1 ns1++(slH db ((bsF fl).flatMap encB1) 3++(slH dx (fl.flatMap encF) 67++((n6,Cl (hdC h) 30)::(n5,Cl (encPo m1) 28)::H)))) by exact sbt)) qom hI1 hF1 hh)) ?_ U);rintro _ M4 ⟨l3,q3,c3,w3,rfl,hw3,hM_4⟩;refine rO tb 11 U ?_
    first|refine Ax (Bq (T U)) U Ad ?_|refine Ax (B4 (T U)) U Ad ?_
    refine rO tb 2 U ?_
    first|refine Ac (Aa U) (fun c69=> ?_) (fun c69=> ?_)|refine Ag (Aa U) (fun c69=> ?_) (fun c69=> ?_)
    ·skip
     refine rC tb 2 U (y_ (Al .nil call11 (fun H' hs=>E8)) (rO tb 5 U (Ai U (Ki U) ?_)) U)
     first|exact⟨_,⟨rfl,rfl⟩,(show H.Sublist (SM (NewD fl 200000 dx db p mp) v1 ns1++(slH db ((bsF fl).flatMap encB1) 3++(slH dx (fl.flatMap encF) 67++((n6,Cl (hdC h) 30)::(n5,Cl (encPo m1) 28)::H)))) by exact sbt).trans hM_4⟩|exact⟨_,⟨rfl,rfl⟩,by exact sbt⟩
    ·have hZ3:=hw3 (by simpa using c69);obtain⟨hev,hgv⟩:=evl_want hbok g1.w l1 hF1 r1 hh hZ3;have hn3:=hZ3.2.2.2;refine rC tb 6 U (y_ (Kk U isAgg30 sizeOf30 (Aw hh) (by first|exact Ah (Fnd.mono (Bo (Bo (Bo Au)):Fnd (SM (NewD fl 200000 dx db p mp) v1 ns1++(slH db ((bsF fl).flatMap encB1) 3++(slH dx (fl.flatMap encF) 67++((n6,Cl (hdC h) 30)::(n5,Cl (encPo m1) 28)::H)))) n6 (Cl (hdC h) 30)) hM_4)|exact As)) ?_ U);refine e_ (An (qe3 U U U) call21 (evd_s (D:=(NewD fl 200000 dx db p mp)) hh hst1 hbok U ((List.sublist_append_left _ _:(SM (NewD fl 200000 dx db p mp) v1 ns1).Sublist (SM (NewD fl 200000 dx db p mp) v1 ns1++(slH db ((bsF fl).flatMap encB1) 3++(slH dx (fl.flatMap encF) 67++((n6,Cl (hdC h) 30)::(n5,Cl (encPo m1) 28)::H))))).trans hM_4) (hbits.mono ((List.sublist_append_right _ _:(slH db ((bsF fl).flatMap encB1) 3++(slH dx (fl.flatMap encF) 67++((n6,Cl (hdC h) 30)::(n5,Cl (encPo m1) 28)::H))).Sublist (SM (NewD fl 200000 dx db p mp) v1 ns1++(slH db ((bsF fl).flatMap encB1) 3++(slH dx (fl.flatMap encF) 67++((n6,Cl (hdC h) 30)::(n5,Cl (encPo m1) 28)::H))))).trans hM_4)) id1 l1 hev qom)) ?_ U;rintro _ _ ⟨d5,⟨rfl,hd5⟩,rfl⟩;refine rO tb 11 U (y_ (Ej (T U) Aj U) (rO tb 3 U (Ax (Al (qe2 U U) call19 (fun H' hs=>same_t l3 (slQ d5) q3 (slC d5) c3 ((Hl hd5 hZ3.1.2.1).mono hs) ((hZ3.1.mono (List.sublist_append_right _ _)).mono hs) qom)) U (A1 U U (Aa U)) ?_)) U)
     first|refine Ax (Bq (T U)) U (A1 U U (Aa U)) ?_|refine Ax (B4 (T U)) U (A1 U U (Aa U)) ?_
     refine rO tb 4 U (Ax (Kk U isAgg30 sizeOf30 (Aw hh) (by first|exact Ah (Fnd.mono (Bo (Bo (Bo Au)):Fnd (SM (NewD fl 200000 dx db p mp) v1 ns1++(slH db ((bsF fl).flatMap encB1) 3++(slH dx (fl.flatMap encF) 67++((n6,Cl (hdC h) 30)::(n5,Cl (encPo m1) 28)::H)))) n6 (Cl (hdC h) 30)) (hM_4.trans (List.sublist_append_right _ _)))|exact As)) U (A1 U U (Aa U)) ?_);refine Ax (Al (qe3 U U U) call34 (fun H' hs=>gvd_s (D:=(NewD fl 200000 dx db p mp)) hh hst1 hbok U (((List.sublist_append_left _ _:(SM (NewD fl 200000 dx db p mp) v1 ns1).Sublist (SM (NewD fl 200000 dx db p mp) v1 ns1++(slH db ((bsF fl).flatMap encB1) 3++(slH dx (fl.flatMap encF) 67++((n6,Cl (hdC h) 30)::(n5,Cl (encPo m1) 28)::H))))).trans (hM_4.trans (List.sublist_append_right _ _))).trans hs) (hbits.mono (((List.sublist_append_right _ _:(slH db ((bsF fl).flatMap encB1) 3++(slH dx (fl.flatMap encF) 67++((n6,Cl (hdC h) 30)::(n5,Cl (encPo m1) 28)::H))).Sublist (SM (NewD fl 200000 dx db p mp) v1 ns1++(slH db ((bsF fl).flatMap encB1) 3++(slH dx (fl.flatMap encF) 67++((n6,Cl (hdC h) 30)::(n5,Cl (encPo m1) 28)::H))))).trans (hM_4.trans (List.sublist_append_right _ _))).trans hs)) id1 l1 hgv)) U (A1 U U (Aa U)) (rO tb 3 U (Ax (yl_neqBF (T U) (T U) U) U (A1 U U (Aa U)) (kO tb 3 [6,11,12,14,95] rfl U (rG tb 7 U (e_ (An (qe2 U U) call35 (spec_sub (K0:=(SM (NewD fl 200000 dx db p mp) v1 ns1++(slH db ((bsF fl).flatMap encB1) 3++(slH dx (fl.flatMap encF) 67++((n6,Cl (hdC h) 30)::(n5,Cl (encPo m1) 28)::H))))) (domain_s (R:=(slH db ((bsF fl).flatMap encB1) 3++(slH dx (fl.flatMap encF) 67++((n6,Cl (hdC h) 30)::(n5,Cl (encPo m1) 28)::H)))) hst1 ((Js (w0:=w0) (H:=((n6,Cl (hdC h) 30)::(n5,Cl (encPo m1) 28)::H)) hfl hdx hdb 200000 p mp).mono (List.Sublist.refl _)) id1 l1) (hM_4.trans (List.sublist_append_right _ _)))) ?_ U)))));rintro _ _ ⟨⟨id2,e2,v2,ns2⟩,⟨rfl,hc2,hst2⟩,rfl⟩
     dsimp only at hc2 hst2
     refine rO tb 14 U ?_
     first|refine Ac (Aa U) (fun c103=> ?_) (fun c103=> ?_)|refine Ag (Aa U) (fun c103=> ?_) (fun c103=> ?_)
     ·obtain⟨-,he12, -⟩:=try_no hc2 c103;refine rC tb 2 U (y_ (Al .nil call11 (fun H' hs=>E8)) (rO tb 2 U (Ax (Dh (T U) Aj he12) U (A1 U U (Aa U)) (rO tb 6 U (Ai U (Ki U) ?_)))) U)
      first|exact⟨_,⟨rfl,rfl⟩,(show H.Sublist (SM (NewD fl 200000 dx db p mp) v1 ns1++(slH db ((bsF fl).flatMap encB1) 3++(slH dx (fl.flatMap encF) 67++((n6,Cl (hdC h) 30)::(n5,Cl (encPo m1) 28)::H)))) by exact sbt).trans hM_4⟩|exact⟨_,⟨rfl,rfl⟩,by exact sbt⟩
     ·have f2:=try_ok hc2 (Classical.not_not.1 c103);obtain⟨hw2,ld2,h7a,h7b⟩:=evl_dom hbok g1.w l1 hF1 r1 hh hZ3 f2;obtain⟨l7,hl7⟩:∃ l7,evA' ns2 (bsF fl) h id2=l7:=⟨_,rfl⟩;rw[hl7] at h7a h7b;have hn7:l7.length≤1000:=by
       rcases Nat.eq_zero_or_pos l3.length with h0|h0
       ·rw[h7b h0];simp
       ·rw[h7a h0];simp
      have ho7:∀ x∈l7,HdOk x:=by
       rcases Nat.eq_zero_or_pos l3.length with h0|h0
       ·rw[h7b h0];simp
       ·rw[h7a h0];intro x hx;rw[List.mem_singleton.1 hx];exact hh
      refine rC tb 6 U ?_;refine y_ (Kk U isAgg30 sizeOf30 (Aw hh) (by first|exact Ah fdd|exact As)) ?_ U;refine e_ (An (qe3 U U U) call21 (evd_s (D:=(NewD fl 200000 dx db p mp)) hh hst2 hbok U (List.sublist_append_left _ _) (hbits.mono (List.sublist_append_right _ _)) id2 ld2 hl7 hn7)) ?_ U;rintro _ _ ⟨d7,⟨rfl,hd7⟩,rfl⟩;refine rO tb 8 U (Bf 33 [(0,true),(1,true),(2,true),(3,true),(4,true),(5,true),(6,true),(7,true),(8,true),(9,true),(10,true),(11,true),(12,true),(13,true),(14,true),(15,true),(16,true),(17,true),(18,true),(19,true),(20,true),(21,true),(22,true),(23,true),(24,true),(25,true),(26,true),(27,true),(28,true),(29,true),(30,true),(31,true),(32,true)] _ mixd qkr sb0 ?_ Bj);refine o_y U (Al .nil call11 (fun H' hs=>E8)) (rP tb 2 U (o_y U (Dh (T U) Aj U) (rP tb 6 U ?_) U (A1 U U (Aa U)))) U Ad
      first|refine Ja (s:=125) (Aa U) (fun c125=> ?_) (fun c125=> ?_)|refine Kb (s:=125) (Aa U) (fun c125=> ?_) (fun c125=> ?_)
      ·have h125:0<l3.length:=by have h9:((l3.length:Nat):Int)>0:=c125;omega
       refine rP tb 2 U (o_y U (Dh (T U) Aj (by rw[h7a qom];rfl)) ?_ U (A1 U U (Aa U)));refine rP tb 3 U (o_y U (Ca (T U) Aj runUnderlying42 sizeOf30 (by rw[h7a qom];exact⟨Int.le_refl _,Int.zero_lt_one⟩) (by first|exact rfl|exact(Hl (w0:=w0) (X:=[]) hd7 ho7).1.b (i:=0) (by rw[h7a qom];exact Nat.zero_lt_one))) ?_ U (A1 U U (Aa U)));refine o_y U (Kk U isAgg30 sizeOf30 (Aw (h:=gd l7 0) (by rw[h7a qom];exact hh)) (by first|exact((Hl hd7 ho7).hd).cs (i:=0) (by rw[h7a qom];exact Nat.zero_lt_one)|exact As)) ?_ U (A1 U U (Aa U));refine o_y U (Kk U isAgg30 sizeOf30 (Aw hh) (by first|exact Ah fdd|exact As)) ?_ U (A1 U U (Aa U));refine o_y U (yl_eqAT (T U) (T U) qkr (eqHd (a:=gd l7 0) (by rw[h7a qom];exact hh) hh) (by rw[h7a qom];rfl)) ?_ U (A1 U U (Aa U));refine rP tb 13 U (A2 U (kO tb 2 [8] rfl U (rG tb 1 U (Ai U (Ki U) ?_))))
       first|exact⟨_,⟨rfl,rfl⟩,(show H.Sublist (SM (NewD fl 200000 dx db p mp) v1 ns1++(slH db ((bsF fl).flatMap encB1) 3++(slH dx (fl.flatMap encF) 67++((n6,Cl (hdC h) 30)::(n5,Cl (encPo m1) 28)::H)))) by exact sbt).trans hM_4⟩|exact⟨_,⟨rfl,rfl⟩,by exact sbt⟩
      ·have h125:l3.length=0:=by have h9: ¬ ((l3.length:Nat):Int)>0:=c125;omega
       refine rP tb 14 U (o_y U (Dh (T U) Aj qom) ?_ U (A1 U U (Aa U)));refine rP tb 3 U (o_y U (Dh (T U) Aj (by rw[h7b qom];rfl)) ?_ U (A1 U U (Aa U)));refine rP tb 4 U (A2 U (kO tb 2 [8] rfl U (rG tb 1 U (Ai U (Ki U) ?_))))
       first|exact⟨_,⟨rfl,rfl⟩,(show H.Sublist (SM (NewD fl 200000 dx db p mp) v1 ns1++(slH db ((bsF fl).flatMap encB1) 3++(slH dx (fl.flatMap encF) 67++((n6,Cl (hdC h) 30)::(n5,Cl (encPo m1) 28)::H)))) by exact sbt).trans hM_4⟩|exact⟨_,⟨rfl,rfl⟩,by exact sbt⟩
end Go.Proofs.YtkojjapnfdlddaaGreat
namespace Go.Proofs.YtkojjapnfdlddaaGreat
open _root_.Go.Proofs.Tryz
open Go.ChangeShapes Go.WideShapes Go.ChangeAt Go.RowKit Go.Joins Go.Deep
set_option linter.unusedVariables false
set_option linter.unusedSimpArgs false
set_option linter.unusedSectionVars false
set_option maxRecDepth 100000
theorem below_cell {W w:World}{p:Addr}{v:Value}(hb:Below W.heap.size W w)(h:W.cell? p=some v):w.cell? p=some v:=by
 have hlt:=World.block_lt_of_cell? _ _ h;have:=hb.block p.block hlt;unfold World.cell? at h ⊢;rw[this];exact h
theorem cell_arg {W:World}{p:Addr}{v:Value}(h:W.cell? p=some v):Cell W [] p v:=fun w hO=>below_cell hO.below h
theorem D4 {H:Type}(d:DataW H):1≤Rows.uptoBulk d:=by
 cases d with
 |lit l=>cases l<;>simp[Rows.uptoBulk]
 |nil=>simp[Rows.uptoBulk]
 |ptr d=>simp[Rows.uptoBulk]
 |slice elems spare=>simp[Rows.uptoBulk]
 |agg parts=>simp[Rows.uptoBulk]
 |iface t d=>simp[Rows.uptoBulk]
 |map entries=>simp[Rows.uptoBulk]
 |held h=>simp[Rows.uptoBulk]
theorem blk_sum {H:Type}{f:Nat→Nat}{D:Nat→DataW H}:∀ (l:List Nat),(∀ i∈l,f i≤Rows.uptoBulk (D i))→(l.map f).sum≤Rows.uptoBulkAll (l.map D)
 |[],_=>Nat.le_refl _
 |x::l,h=>by
  have h1:=h x (by simp);have h2:=blk_sum l fun i hi=>h i (by simp[hi])
  simp only[List.map_cons,List.sum_cons,Rows.uptoBulkAll];omega
theorem blk_mem {H:Type}{D:Nat→DataW H}:∀ {l:List Nat} {i:Nat},i∈l→Rows.uptoBulk (D i)≤Rows.uptoBulkAll (l.map D)
 |x::l,i,h=>by
  simp only[List.map_cons,Rows.uptoBulkAll];rcases List.mem_cons.1 h with rfl|h
  ·exact Nat.le_add_right _ _
  ·have:=blk_mem (D:=D) h;omega
section
variable {H:Type} {enc:TypeId × Value→H} {P:Program} {W:World} {b0:Nat} {sp1:Nat→Bool} {held:Bool}
theorem open_arr {α:Type}{t e sz fuel:Nat}{cs:List Value}{x:DataW H × List MemPlace}{el:α→List Value}{φ:α→Prop}{szf:α→Nat}(ht:P.underlying t=some (.slice e))(hc:P.cellsOf e=sz)(hsz:0<sz)
  (hel:∀ n cs y,Rows.uptoBulk y.1<Rows.uptoBulk x.1→DataW.trod enc P W b0 sp1 held n e cs=some y→∃ u:α,cs=el u∧φ u∧szf u≤Rows.uptoBulk y.1) (h:DataW.trod enc P W b0 sp1 held fuel t cs=some x):
  ∃ (q:Option Addr) (l:List α) (cap:Nat),cs=[.slice q l.length cap]∧Arr W [] q sz el l∧l.length≤cap∧l.length≤9223372036854775807∧(∀ u∈l,φ u)∧(l.map szf).sum+1≤Rows.uptoBulk x.1:=by
 rcases open_slice ht h with ⟨rfl,rfl⟩|⟨a,len,cap,m,n,D,Pl,rfl,hb,hl,hm,hmm,rfl,hx⟩
 ·exact⟨none,[],0,rfl,fun i u hi=>by simp at hi,by simp,by simp,by simp,by simp[Rows.uptoBulk]⟩
 have hlm:len≤m:=by rw[hmm];split<;>omega
 have hlen:len≤9223372036854775807:=by unfold maxLen at hm;omega
 cases len with
 |zero=>exact⟨some a,[],cap,rfl,fun i u hi=>by simp at hi,by simp,by simp,by simp,by simp[Rows.uptoBulk]⟩
 |succ k=>
  have hbk:Rows.uptoBulkAll ((List.range (k+1)).map D)+1≤Rows.uptoBulk (DataW.slice ((List.range (k+1)).map D) ((List.range (m - (k+1))).map fun j=>D (k+1+j))):=by
   simp only[Rows.uptoBulk];omega
  have each:∀ i,i<k+1→∃ u:α,W.cells? b0 (a.add (i*sz)) sz=some (el u)∧φ u∧szf u≤Rows.uptoBulk (D i):=fun i hi=>by
   obtain⟨cs',h1,h2⟩:=hx i qom;rw[hc] at h1;have h3:=blk_mem (D:=D) (List.mem_range.2 hi);obtain⟨u,rfl,hu⟩:=hel _ _ _ (by simp only[];omega) h2;exact⟨u,h1,hu⟩
  obtain⟨u0,h00,hu0⟩:=each 0 qom
  letI:Inhabited α:=⟨u0⟩
  obtain⟨f,hf⟩:=choose_lt each;refine⟨some a,(List.range (k+1)).map f,cap,by simp,fun i u hi=> ?_,by simpa using hl,by simpa using hlen,fun u hu=> ?_,?_⟩
  ·have hik:i<k+1:=by have:=(List.getElem?_eq_some_iff.1 hi).1;simpa using this
   have hfu:f i=u:=by simpa[hik] using hi
   obtain⟨sb,so,spot⟩:=a;obtain⟨_,hl0,hc0⟩:=World.cells?_some h00;have hspot:spot=none:=by
    have h6:=(hc0 0 hsz).trans (List.getElem?_eq_getElem qom)
    simpa[Addr.add] using World.cell?_spot h6
   subst hspot;refine⟨rfl,fun j v hj=>cell_arg ?_⟩;obtain⟨_,hl1,hc1⟩:=World.cells?_some (hf i hik).1;rw[hfu] at hl1 hc1;have hjl:=(List.getElem?_eq_some_iff.1 hj).1;have h5:=hc1 j qom;rw[add_add,add_plain] at h5;have h6:=h5.trans hj;rw[← Nat.add_assoc] at h6;exact h6
  ·obtain⟨i,hi,rfl⟩:=List.mem_map.1 hu;exact(hf i (List.mem_range.1 hi)).2.1
  ·have:=blk_sum (f:=fun i=>szf (f i)) (D:=D) (List.range (k+1)) fun i hi=>(hf i (List.mem_range.1 hi)).2.2
   rw[List.map_map];have e:(szf ∘ f)=fun i=>szf (f i):=rfl
   rw[e];simp only[] at hbk ⊢;omega
end
theorem cells3:Tryz.prog.cellsOf 3=1:=by kernel_rfl
theorem cells9:Tryz.prog.cellsOf 9=1:=by kernel_rfl
theorem cells67:Tryz.prog.cellsOf 67=3:=by kernel_rfl
theorem cells25:Tryz.prog.cellsOf 25=5:=by kernel_rfl
theorem cells23:Tryz.prog.cellsOf 23=1:=by kernel_rfl
theorem cells28:Tryz.prog.cellsOf 28=9:=by kernel_rfl
theorem cells26:Tryz.prog.cellsOf 26=1:=by kernel_rfl
theorem own_knob:ownKnob Tryz.prog.godebug=none:=by kernel_rfl
theorem i64_bd {n:Int}(h:(Lit.int .i64 n).wf=true): -9223372036854775808≤n∧n≤9223372036854775807:=by
 have:=bounds_i64 h;exact this
theorem szPL_sum:∀ l:List Pdm,szPL l=(l.map Pdm.sz).sum
 |[]=>by simp[szPL]
 |x::l=>by simp only[szPL,List.map_cons,List.sum_cons,szPL_sum l]
theorem szOL_sum:∀ l:List Pom,szOL l=(l.map Pom.sz).sum
 |[]=>by simp[szOL]
 |x::l=>by simp only[szOL,List.map_cons,List.sum_cons,szOL_sum l]
theorem prtPL_in {l:List Pdm}{a:Pdm}(h:a∈prtPL l):∃ x∈l,a∈prtP x:=by
 induction l with
 |nil=>simp[prtPL] at h
 |cons x l ih=>
  rw[prtPL] at h;rcases List.mem_append.1 h with h|h
  ·exact⟨x,by simp,h⟩
  ·obtain⟨y,h1,h2⟩:=ih h;exact⟨y,by simp[h1],h2⟩
theorem prtOL_in {l:List Pom}{a:Pom}(h:a∈prtOL l):∃ x∈l,a∈prtO x:=by
 induction l with
 |nil=>simp[prtOL] at h
 |cons x l ih=>
  rw[prtOL] at h;rcases List.mem_append.1 h with h|h
  ·exact⟨x,by simp,h⟩
  ·obtain⟨y,h1,h2⟩:=ih h;exact⟨y,by simp[h1],h2⟩
section
variable {H:Type} {enc:TypeId × Value→H} {W:World} {b0 n:Nat} {sp1:Nat→Bool} {held:Bool} {y:DataW H × List MemPlace} {cs:List Value}
abbrev encSv (s:ByteArray):List Value:=[.string s]
theorem Fz {c:Value}(h:DataW.trod enc Tryz.prog W b0 sp1 held n 3 [c]=some y):∃ a:Int,c= .int .i64 a∧(-9223372036854775808≤a∧a≤9223372036854775807):=by
 obtain⟨a,e0,_,wa⟩:=DataW.trod_int underlying3 h;simp at e0;exact⟨a,e0,i64_bd wa⟩
theorem rd_str (h:DataW.trod enc Tryz.prog W b0 sp1 held n 9 cs=some y):∃ u:ByteArray,cs=encSv u∧u.size≤9223372036854775807:=by
 obtain⟨s,e0,_,ws⟩:=DataW.trod_string underlying9 h;exact⟨s,e0,by unfold maxLen at ws;omega⟩
theorem rd_fi (h:DataW.trod enc Tryz.prog W b0 sp1 held n 67 cs=some y):∃ u:Fi,cs=encFi u∧u.nm.size≤9223372036854775807:=by
 obtain⟨xs,m,rfl,rfl,hlen,hxl,hall⟩:=DataW.trod_struct underlying67 h;rw[cells67] at hlen
 match xs,hxl,cs,hlen with
 |[x0,x1,x2],_,[c0,c1,c2],_=>
  have f0:DataW.trod enc Tryz.prog W b0 sp1 held m 9 [c0]=some x0:=by have:=hall 0 _ rfl;simpa[cells9] using this
  have f1:DataW.trod enc Tryz.prog W b0 sp1 held m 3 [c1]=some x1:=by have:=hall 1 _ rfl;simpa[cells9,cells3] using this
  have f2:DataW.trod enc Tryz.prog W b0 sp1 held m 3 [c2]=some x2:=by have:=hall 2 _ rfl;simpa[cells9,cells3] using this
  obtain⟨s,e1,hs⟩:=rd_str f0;obtain⟨a,rfl,_⟩:=Fz f1;obtain⟨b,rfl,_⟩:=Fz f2;simp at e1;exact⟨⟨s,a,b⟩,by rw[e1],hs⟩
theorem rd_pd:∀ (N:Nat) {n:Nat} {y:DataW H × List MemPlace} {cs:List Value},Rows.uptoBulk y.1≤N→DataW.trod enc Tryz.prog W b0 sp1 held n 25 cs=some y→∃ u:Pdm,cs=encPd u∧(PdM W [] u∧NmP u)∧u.sz≤Rows.uptoBulk y.1
 |0,n,y,cs,hN,_=>by have:=D4 y.1;omega
 |N+1,n,y,cs,hN,h=>by
  obtain⟨xs,m,rfl,rfl,hlen,hxl,hall⟩:=DataW.trod_struct underlying25 h;rw[cells25] at hlen
  match xs,hxl,cs,hlen with
  |[x0,x1,x2,x3,x4],_,[c0,c1,c2,c3,c4],_=>
   have f0:DataW.trod enc Tryz.prog W b0 sp1 held m 3 [c0]=some x0:=by have:=hall 0 _ rfl;simpa[cells3] using this
   have f1:DataW.trod enc Tryz.prog W b0 sp1 held m 9 [c1]=some x1:=by have:=hall 1 _ rfl;simpa[cells3,cells9] using this
   have f2:DataW.trod enc Tryz.prog W b0 sp1 held m 3 [c2]=some x2:=by have:=hall 2 _ rfl;simpa[cells3,cells9] using this
   have f3:DataW.trod enc Tryz.prog W b0 sp1 held m 3 [c3]=some x3:=by have:=hall 3 _ rfl;simpa[cells3,cells9] using this
   have f4:DataW.trod enc Tryz.prog W b0 sp1 held m 23 [c4]=some x4:=by have:=hall 4 _ rfl;simpa[cells3,cells9,cells23] using this
   have hb:Rows.uptoBulk x4.1+4≤Rows.uptoBulk (DataW.agg (H:=H) ([x0,x1,x2,x3,x4].map (·.1))):=by
    have:=D4 x0.1;have:=D4 x1.1;have:=D4 x2.1;have:=D4 x3.1;simp only[Rows.uptoBulk,Rows.uptoBulkAll,List.map_cons,List.map_nil] at *;omega
   have hN':Rows.uptoBulk (DataW.agg (H:=H) ([x0,x1,x2,x3,x4].map (·.1)))≤N+1:=hN;obtain⟨k,rfl,_⟩:=Fz f0;obtain⟨s,e1,hs⟩:=rd_str f1;obtain⟨a,rfl,_⟩:=Fz f2;obtain⟨b,rfl,_⟩:=Fz f3;obtain⟨q,l,cap,e2,ha,hc,hl,hf,hsum⟩:=open_arr (el:=encPd) (φ:=fun u=>PdM W [] u∧NmP u) (szf:=Pdm.sz) underlying23 cells25 qom (fun n cs y hy h=>rd_pd N qom h) f4;simp at e1 e2;refine⟨.mk k s a b q cap l,by rw[e1,e2];rfl,⟨.mk ha fun a h=>(hf a h).1,fun a ha=> ?_⟩,?_⟩
   ·rw[Gh] at ha;rcases List.mem_cons.1 ha with rfl|ha
    ·exact hs
    ·obtain⟨x,hx,hax⟩:=prtPL_in ha;exact(hf x hx).2 a hax
   rw[Gp,show (Pdm.mk k s a b q cap l).subs=l from rfl,szPL_sum];exact Nat.le_trans (by omega:(l.map Pdm.sz).sum+1≤Rows.uptoBulk x4.1+4) hb
theorem rd_po:∀ (N:Nat) {n:Nat} {y:DataW H × List MemPlace} {cs:List Value},Rows.uptoBulk y.1≤N→DataW.trod enc Tryz.prog W b0 sp1 held n 28 cs=some y→∃ u:Pom,cs=encPo u∧(PoM W [] u∧NmO u)∧u.sz≤Rows.uptoBulk y.1
 |0,n,y,cs,hN,_=>by have:=D4 y.1;omega
 |N+1,n,y,cs,hN,h=>by
  obtain⟨xs,m,rfl,rfl,hlen,hxl,hall⟩:=DataW.trod_struct underlying28 h;rw[cells28] at hlen
  match xs,hxl,cs,hlen with
  |[x0,x1,x2,x3,x4],_,[c0,c1,c2,c3,c4,c5,c6,c7,c8],_=>
   have f0:DataW.trod enc Tryz.prog W b0 sp1 held m 3 [c0]=some x0:=by have:=hall 0 _ rfl;simpa[cells3] using this
   have f1:DataW.trod enc Tryz.prog W b0 sp1 held m 25 [c1,c2,c3,c4,c5]=some x1:=by have:=hall 1 _ rfl;simpa[cells3,cells25] using this
   have f2:DataW.trod enc Tryz.prog W b0 sp1 held m 9 [c6]=some x2:=by have:=hall 2 _ rfl;simpa[cells3,cells25,cells9] using this
   have f3:DataW.trod enc Tryz.prog W b0 sp1 held m 3 [c7]=some x3:=by have:=hall 3 _ rfl;simpa[cells3,cells25,cells9] using this
   have f4:DataW.trod enc Tryz.prog W b0 sp1 held m 26 [c8]=some x4:=by have:=hall 4 _ rfl;simpa[cells3,cells25,cells9,cells26] using this
   have hb:Rows.uptoBulk x4.1+Rows.uptoBulk x1.1+3≤Rows.uptoBulk (DataW.agg (H:=H) ([x0,x1,x2,x3,x4].map (·.1))):=by
    have:=D4 x0.1;have:=D4 x2.1;have:=D4 x3.1;simp only[Rows.uptoBulk,Rows.uptoBulkAll,List.map_cons,List.map_nil] at *;omega
   have hN':Rows.uptoBulk (DataW.agg (H:=H) ([x0,x1,x2,x3,x4].map (·.1)))≤N+1:=hN;obtain⟨k,rfl,_⟩:=Fz f0;obtain⟨pm,ep,⟨hp1,hp2⟩,hpz⟩:=rd_pd _ (Nat.le_refl _) f1;obtain⟨s,e1,hs⟩:=rd_str f2;obtain⟨a,rfl,_⟩:=Fz f3;obtain⟨q,l,cap,e2,ha,hc,hl,hf,hsum⟩:=open_arr (el:=encPo) (φ:=fun u=>PoM W [] u∧NmO u) (szf:=Pom.sz) underlying26 cells28 qom (fun n cs y hy h=>rd_po N qom h) f4;simp only[List.cons.injEq,and_true] at e1 e2;refine⟨.mk k pm s a q cap l,?_,⟨.mk hp1 ha fun a h=>(hf a h).1,fun a ha=> ?_⟩,?_⟩
   ·rw[e1,e2];show Value.int .i64 k::([c1,c2,c3,c4,c5]++[.string s, .int .i64 a, .slice q l.length cap])=_;rw[ep];rfl
   ·rw[Gi] at ha;rcases List.mem_cons.1 ha with rfl|ha
    ·exact⟨hs,hp2⟩
    ·obtain⟨x,hx,hax⟩:=prtOL_in ha;exact(hf x hx).2 a hax
   rw[Dw,show (Pom.mk k pm s a q cap l).subs=l from rfl,show (Pom.mk k pm s a q cap l).pr=pm from rfl,szOL_sum];exact Nat.le_trans (by omega:(l.map Pom.sz).sum+pm.sz+1≤Rows.uptoBulk x4.1+Rows.uptoBulk x1.1+3) hb
theorem open_po {base:Nat}{r:_root_.Go.Reach}{v:Value}{d:DataW H}{p:List MemPlace}(hv:Value.okWide Tryz.prog W r base 28 v)(h:DataW.Trod enc Tryz.prog W b0 sp1 held 28 v d p):∃ u:Pom,v= .agg (encPo u).toArray∧PoM W [] u∧NmO u∧u.sz≤Rows.uptoBulk d:=by
 obtain⟨cs,rfl,hsz⟩:=okWide_struct underlying28 hv;obtain⟨fuel,hf⟩:=h;obtain⟨l⟩:=cs;obtain⟨u,e,⟨h1,h2⟩,hu⟩:=rd_po _ (Nat.le_refl _) hf;simp only[Value.cells] at e;exact⟨u,by rw[← e],h1,h2,hu⟩
theorem open_fis {base:Nat}{r:_root_.Go.Reach}{v:Value}{d:DataW H}{p:List MemPlace}(hv:Value.okWide Tryz.prog W r base 22 v)(h:DataW.Trod enc Tryz.prog W b0 sp1 held 22 v d p):∃ (q:Option Addr) (l:List Fi) (cap:Nat),v= .slice q l.length cap∧Arr W [] q 3 encFi l∧∀ f∈l,f.nm.size≤9223372036854775807:=by
 obtain⟨a0,len0,cap0,rfl⟩:=okWide_slice underlying22 hv;obtain⟨fuel,hf⟩:=h;obtain⟨q,l,cap,e,a,c,b,f,_⟩:=open_arr (el:=encFi) (φ:=fun u=>u.nm.size≤9223372036854775807) (szf:=fun _=>0) underlying22 cells67 qom (fun n cs y _ h=>by obtain⟨u,h1,h2⟩:=rd_fi h;exact⟨u,h1,h2,Nat.zero_le _⟩) hf;simp only[Value.cells,List.cons.injEq,and_true] at e;exact⟨q,l,cap,e,a,f⟩
end
end Go.Proofs.YtkojjapnfdlddaaGreat
namespace Go.Proofs.YtkojjapnfdlddaaGreat
open _root_.Go.Proofs.Tryz
open Go.ChangeShapes Go.WideShapes Go.ChangeAt Go.RowKit Go.Joins
set_option linter.unusedVariables false
set_option linter.unusedSimpArgs false
set_option linter.unusedSectionVars false
set_option maxRecDepth 100000
section
variable {H:Type} {enc:TypeId × Value→H} {W:World}
theorem laid_out:laidOutB Tryz.prog=true:=by kernel_rfl
theorem trodAll_stays:∀ {ts:List TypeId} {vs:List Value} {ds:List (DataW H)} {ps:List MemPlace} {W':World},(∀ t∈ts,Tryz.prog.readableRec t=true∧t<Tryz.prog.types.size)→DataW.TrodAll enc Tryz.prog W 0 (fun _=>true) true ts vs ds ps→Below W.heap.size W W'→(∀ x∈ps,x.block<W.heap.size)→
  DataW.TrodAll enc Tryz.prog W' 0 (fun b=>decide (b<W.heap.size)) true ts vs ds ps
 |[],_,_,_,_,_,h,_,_=>by obtain⟨rfl,rfl,rfl⟩:=trodAll_nil h;exact trodAll_mk0
 |t::ts,_,_,_,_,hr,h,hb,hlt=>by
  obtain⟨v,vs,d,ds,p,q,rfl,rfl,rfl,h0,r0⟩:=trodAll_cons h;exact trodAll_cons_mk (Below.trod laid_out (hr t (by simp)).1 (hr t (by simp)).2 h0 hb (fun x hx=>hlt x (by simp[hx]))) (trodAll_stays (fun t ht=>hr t (by simp[ht])) r0 hb (fun x hx=>hlt x (by simp[hx])))
end
theorem calls_true {f:FuncId}{args:Array Value}{W:World}(h:FSpec Tryz.prog W f args [] (Still (.bool true) [])):Calls Tryz.prog f args W fun e W'=>e= .returned (.bool true)∧Below W.heap.size W W':=
 (h W (Own.start W)).mono fun e W' ⟨v,H',he,hO,hv,_⟩=>⟨by rw[he,hv],hO.below⟩
noncomputable def laidWorld (os:Os):World:=World.holding Tryz.prog os ⟨#[],#[],[]⟩
end Go.Proofs.YtkojjapnfdlddaaGreat
namespace Go.Proofs.YtkojjapnfdlddaaGreat
open _root_.Go.Proofs.Tryz
open Go.ChangeShapes Go.WideShapes Go.ChangeAt Go.RowKit Go.Joins Go.Deep
set_option linter.unusedVariables false
set_option linter.unusedSimpArgs false
set_option linter.unusedSectionVars false
set_option maxRecDepth 100000
theorem cells30:Tryz.prog.cellsOf 30=10:=by kernel_rfl
theorem und30:Tryz.prog.underlying 30=some (.array 10 3):=by kernel_rfl
section
variable {H:Type} {enc:TypeId × Value→H} {W:World} {b0 n:Nat} {sp1:Nat→Bool} {held:Bool} {y:DataW H × List MemPlace} {cs:List Value}
theorem open_hd {base:Nat}{r:_root_.Go.Reach}{v:Value}{d:DataW H}{p:List MemPlace}(hv:Value.okWide Tryz.prog W r base 30 v)(h:DataW.Trod enc Tryz.prog W b0 sp1 held 30 v d p):∃ (vs:List Value) (hi:List Int),v= .agg vs.toArray∧vs=hwC hi∧hi.length=10:=by
 simp only[Value.okWide,und30] at hv;obtain⟨cs,rfl,h2,_⟩:=hv;obtain⟨l⟩:=cs;obtain⟨fuel,hf⟩:=h;obtain⟨xs,m,rfl,hx,hlen,hxl,hall⟩:=DataW.trod_array und30 hf;simp only[Value.cells] at hlen hall;rw[cells30] at hlen;have each:∀ i,i<10→∃ a:Int,l[i]? =some (.int .i64 a):=fun i hi=>by
  have h3:=hall i hi;rw[cells3,Nat.mul_one,List.getElem?_eq_getElem (by omega:i<xs.length),List.drop_eq_getElem_cons (by omega:i<l.length)] at h3;obtain⟨a,e,_⟩:=Fz h3;exact⟨a,by rw[List.getElem?_eq_getElem (by omega:i<l.length),e]⟩
 obtain⟨f,hf2⟩:=choose_lt each;refine⟨l,(List.range 10).map f,rfl,?_,by simp⟩;refine List.ext_getElem? fun i=> ?_
 by_cases hi:i<10
 ·rw[hf2 i hi];simp[hi]
 ·rw[List.getElem?_eq_none qom,List.getElem?_eq_none (by simp;omega)]
end
end Go.Proofs.YtkojjapnfdlddaaGreat
