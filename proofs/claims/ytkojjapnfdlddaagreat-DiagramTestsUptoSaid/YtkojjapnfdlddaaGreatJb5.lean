/-
  A part of what LawB rests on: the logic, walks and plain laws. No condition.
-/
import Derived.Test.YtkojjapnfdlddaaGreatJb4
import Derived.Test.YtkojjapnfdlddaaGreatRows
import Derived.WalkKit
import Derived.ProofKit
import Derived.OpenShut
import Derived.Lib.SmallJoins
import Derived.Deep.SlicePairs
import Derived.Deep.DeepHandedRow
namespace Go.Proofs.YtkojjapnfdlddaaGreat
open _root_.Go.Proofs.Tryz
open Go.RowKit
set_option linter.unusedVariables false
set_option linter.unusedSimpArgs false
set_option linter.unusedSectionVars false
set_option maxRecDepth 100000
theorem zbd25_0_4 (a0:Int)(a1:Option Addr)(a1n a1c:Nat)(w:World):(Instr.build 25 #[(0, .int .i64 a0),(4, .slice a1 a1n a1c)]).run Tryz.prog w= .ok (.agg #[.int .i64 a0, .string ⟨#[]⟩, .int .i64 0, .int .i64 0, .slice a1 a1n a1c]) w:=by kernel_rfl
theorem E5 {w0:World}{H:List (Nat × Obj)}  :
  FSpec Tryz.prog w0 11 #[] H (Still (.bool true) H):=by
 refine Ao Tryz.func11 U ntmps11 U ?_;obtain⟨n1,n2,n3,n4,n5,n6,n7,s7,f1,f2,f3,f4,f5,f6,f7,hs7,hrd⟩:=ex_all;have hex:=ex_fin f1 f2 f3 f4 f5 f6 f7;refine rD tb 7 U (e_ (An .nil call37 (lex_s)) ?_ U);rintro _ _ ⟨n27,rfl,rfl⟩;refine e_ (An (.cons (T U) (.cons Aj .nil)) call13 (new_ex)) ?_ U;rintro _ _ ⟨D,v0,R,⟨rfl,hst0,hD,hHR⟩,rfl⟩;refine rO tb 7 U (y_ (yl_ptrN (T U)) (rO tb 8 U (y_ (Ak (.cons Aj (.cons Aj .nil)) call29 (fun H' hs=>Dh nD 1)) (y_ (Ak (.cons Aj (.cons Aj .nil)) call29 (fun H' hs=>Dh nD 2)) (e_ (A8 (.cons (T U) (.cons (T U) .nil)) (Cg _ _ _ _ _ _ _ _ _ _ _ _ _ _ _ _ _ _ _ _ _ _ _ _ _ _)) ?_ U) U) U)) U);rintro _ _ ⟨n35,rfl,rfl⟩;refine y_ (Ak (.cons Aj (.cons (T U) .nil)) call24 (fun H' hs=>Gl 4 (some ⟨n35,0,none⟩) [mSet nD 1,mSet nD 2] 2)) ?_ U;refine e_ (An (.cons (T U) (.cons (T U) (.cons Aj .nil))) call14 (B5 (M:=SM D v0 (nsE 70)) (Jr (R:=((n35,Cl (encPo (mSet nD 1)++encPo (mSet nD 2)) 28)::R)) hst0 (hD.mono (by exact sbt)) f1 (mOp2 4 n35 (mSet nD 1) (mSet nD 2)) (.seq U U (Hu (n:=1) fndD) (Hu (n:=2) fndD)) (Fz (by repeat (first|exact Au|refine Ay ?_)) (Ce Dk) (Ce Dk)) ⟨⟨inD,(pin 1 qde).1⟩,⟨inD,(pin 2 qde).1⟩⟩) (by repeat (first|exact Bt|exact LocL.h|apply LocL.t|apply LocL.a)))) ?_ U;rintro _ _ ⟨v1,⟨rfl,hst1⟩,rfl⟩;refine rO tb 10 U (e_ (An (.cons (T U) (.cons Aj (.cons Aj .nil))) call38 (B5 (M:=SM D v1 n1) (set_ex (R:=((n35,Cl (encPo (mSet nD 1)++encPo (mSet nD 2)) 28)::R)) hst1 (hD.mono (by exact sbt)) f2) (by repeat (first|exact Bt|exact LocL.h|apply LocL.t|apply LocL.a)))) ?_ U);rintro _ _ ⟨v2,⟨rfl,hst2⟩,rfl⟩;refine rO tb 10 U (y_ (Ak (.cons Aj (.cons Aj .nil)) call30 (fun H' hs=>It nD 1)) (y_ (Ak (qe1 U) call28 (fun H' hs=>Dg (mEq nD 1))) (y_ (Ak (.cons Aj (.cons Aj .nil)) call30 (fun H' hs=>It nD 1)) (e_ (A8 (.cons (T U) .nil) (zbs23_1_0 _ _ _ _ _ _ _)) ?_ U) U) U) U);rintro _ _ ⟨n50,rfl,rfl⟩;refine y_ (A2 (.cons Aj (.cons (T U) .nil)) (zbd25_0_4 _ _ _ _)) (y_ (Ak (qe1 U) call28 (fun H' hs=>Dg (mNo n50 (mEq nD 1)))) (e_ (A8 (.cons (T U) (.cons (T U) .nil)) (Cg _ _ _ _ _ _ _ _ _ _ _ _ _ _ _ _ _ _ _ _ _ _ _ _ _ _)) ?_ U) U) U;rintro _ _ ⟨n53,rfl,rfl⟩;refine y_ (Ak (.cons Aj (.cons (T U) .nil)) call24 (fun H' hs=>Gl 3 (some ⟨n53,0,none⟩) [mFil (mEq nD 1),mFil (mNo n50 (mEq nD 1))] 2)) ?_ U;refine e_ (An (.cons (T U) (.cons (T U) (.cons Aj .nil))) call14 (B5 (M:=SM D v2 n2) (Jr (R:=((n53,Cl (encPo (mFil (mEq nD 1))++encPo (mFil (mNo n50 (mEq nD 1)))) 28)::(n50,Cl (encPd (mEq nD 1)) 25)::(n35,Cl (encPo (mSet nD 1)++encPo (mSet nD 2)) 28)::R)) hst2 (hD.mono (by exact sbt)) f3 (mOp2 3 n53 (mFil (mEq nD 1)) (mFil (mNo n50 (mEq nD 1)))) (.uni U U (.fil U (J3 (n:=1) fndD)) (.fil U (.no U U (J3 (n:=1) fndD)))) (Fz (by repeat (first|exact Au|refine Ay ?_)) (Ce H3) (Ce (pd_no (by repeat (first|exact Au|refine Ay ?_)) H3))) ⟨⟨inD,(pin 1 qde).1⟩,⟨inD,(pin 1 qde).1⟩⟩) (by repeat (first|exact Bt|exact LocL.h|apply LocL.t|apply LocL.a)))) ?_ U;rintro _ _ ⟨v3,⟨rfl,hst3⟩,rfl⟩;refine kO tb 7 [1,2,3,4,5,6,7] rfl U (rG tb 3 U (y_ (A2 (.cons Aj .nil) (zbd25_0 _)) (e_ (An (.cons (T U) (.cons (T U) (.cons Aj .nil))) call39 (B5 (M:=SM D v3 n3) (fil_ex (R:=((n53,Cl (encPo (mFil (mEq nD 1))++encPo (mFil (mNo n50 (mEq nD 1)))) 28)::(n50,Cl (encPd (mEq nD 1)) 25)::(n35,Cl (encPo (mSet nD 1)++encPo (mSet nD 2)) 28)::R)) hst3 (hD.mono (by exact sbt)) f4 mTru (.tru U) H3 trivial) (by repeat (first|exact Bt|exact LocL.h|apply LocL.t|apply LocL.a)))) ?_ U) U));rintro _ _ ⟨v4,⟨rfl,hst4⟩,rfl⟩;refine rO tb 10 U (y_ (Ak (.cons Aj (.cons Aj .nil)) call29 (fun H' hs=>Dh nK 1)) (y_ (Ak (.cons Aj (.cons Aj .nil)) call29 (fun H' hs=>Dh nK 2)) (e_ (A8 (.cons (T U) (.cons (T U) .nil)) (Cg _ _ _ _ _ _ _ _ _ _ _ _ _ _ _ _ _ _ _ _ _ _ _ _ _ _)) ?_ U) U) U);rintro _ _ ⟨n68,rfl,rfl⟩;refine y_ (Ak (.cons Aj (.cons (T U) .nil)) call24 (fun H' hs=>Gl 3 (some ⟨n68,0,none⟩) [mSet nK 1,mSet nK 2] 2)) (e_ (A8 (.cons (T U) .nil) (zbs26_1_0 _ _ _ _ _ _ _ _ _ _ _ _ _)) ?_ U) U;rintro _ _ ⟨n70,rfl,rfl⟩;refine y_ (Ak (.cons Aj (.cons (T U) .nil)) call24 (fun H' hs=>Gl 5 (some ⟨n70,0,none⟩) [(mOp2 3 n68 (mSet nK 1) (mSet nK 2))] 1)) ?_ U;refine e_ (An (.cons (T U) (.cons (T U) (.cons Aj .nil))) call14 (B5 (M:=SM D v4 n4) (Jr (R:=((n70,Cl (encPo (mOp2 3 n68 (mSet nK 1) (mSet nK 2))) 28)::(n68,Cl (encPo (mSet nK 1)++encPo (mSet nK 2)) 28)::(n53,Cl (encPo (mFil (mEq nD 1))++encPo (mFil (mNo n50 (mEq nD 1)))) 28)::(n50,Cl (encPd (mEq nD 1)) 25)::(n35,Cl (encPo (mSet nD 1)++encPo (mSet nD 2)) 28)::R)) hst4 (hD.mono (by exact sbt)) f5 (mOp1 5 n70 (mOp2 3 n68 (mSet nK 1) (mSet nK 2))) (.star U U (.uni U U (Hu (n:=1) fndK) (Hu (n:=2) fndK))) (po_op1 (by repeat (first|exact Au|refine Ay ?_)) (Fz (by repeat (first|exact Au|refine Ay ?_)) (Ce Dk) (Ce Dk))) ⟨⟨inK,(pin 1 qde).2⟩,⟨inK,(pin 2 qde).2⟩⟩) (by repeat (first|exact Bt|exact LocL.h|apply LocL.t|apply LocL.a)))) ?_ U;rintro _ _ ⟨v5,⟨rfl,hst5⟩,rfl⟩;refine rO tb 10 U (y_ (Ak (.cons Aj (.cons Aj .nil)) call30 (fun H' hs=>It nD 3)) (e_ (An (.cons (T U) (.cons (T U) (.cons Aj .nil))) call39 (B5 (M:=SM D v5 n5) (fil_ex (R:=((n70,Cl (encPo (mOp2 3 n68 (mSet nK 1) (mSet nK 2))) 28)::(n68,Cl (encPo (mSet nK 1)++encPo (mSet nK 2)) 28)::(n53,Cl (encPo (mFil (mEq nD 1))++encPo (mFil (mNo n50 (mEq nD 1)))) 28)::(n50,Cl (encPd (mEq nD 1)) 25)::(n35,Cl (encPo (mSet nD 1)++encPo (mSet nD 2)) 28)::R)) hst5 (hD.mono (by exact sbt)) f6 (mEq nD 3) (J3 (n:=3) fndD) H3 ⟨inD,(pin 3 qde).1⟩) (by repeat (first|exact Bt|exact LocL.h|apply LocL.t|apply LocL.a)))) ?_ U) U);rintro _ _ ⟨v6,⟨rfl,hst6⟩,rfl⟩;refine kO tb 7 [1,2,3,4,5,6,7,8,9,10,11,12,13] rfl U ?_;refine I7 (X:=List (Nat × Obj)) (V:=fun M=>[(14, .int .i64 906),(15, .int .i64 0)]) (C:=[(1,_),(2,_),(3,_),(4,_),(5,_),(6,_),(7,_),(8,_),(9,_),(10,_),(11,_),(12,_),(13,_)]) (G:=fun M=>M) (φ:=fun M=>∃ v7,ExM w0 M D v7 n7∧H.Sublist M) ⟨Aa U,Aa U,Aa U,Aa U,Aa U,Aa U,Aa U,Aa U,Aa U,Aa U,Aa U,Aa U,Aa U,trivial⟩ ?_ ?_
 ·refine rD tb 2 U (y_ (Ak (.cons Aj (.cons Aj .nil)) call30 (fun H' hs=>It nD 3)) (y_ (Ak (qe1 U) call28 (fun H' hs=>Dg (mEq nD 3))) (y_ (Ak (.cons Aj (.cons Aj .nil)) call29 (fun H' hs=>Dh nK 1)) (y_ (Ak (.cons Aj (.cons Aj .nil)) call29 (fun H' hs=>Dh nK 2)) (e_ (A8 (.cons (T U) (.cons (T U) .nil)) (Cg _ _ _ _ _ _ _ _ _ _ _ _ _ _ _ _ _ _ _ _ _ _ _ _ _ _)) ?_ U) U) U) U) U);rintro _ _ ⟨n87,rfl,rfl⟩;refine y_ (Ak (.cons Aj (.cons (T U) .nil)) call24 (fun H' hs=>Gl 3 (some ⟨n87,0,none⟩) [mSet nK 1,mSet nK 2] 2)) (e_ (A8 (.cons (T U) (.cons (T U) .nil)) (Cg _ _ _ _ _ _ _ _ _ _ _ _ _ _ _ _ _ _ _ _ _ _ _ _ _ _)) ?_ U) U;rintro _ _ ⟨n89,rfl,rfl⟩;refine y_ (Ak (.cons Aj (.cons (T U) .nil)) call24 (fun H' hs=>Gl 4 (some ⟨n89,0,none⟩) [mFil (mEq nD 3),(mOp2 3 n87 (mSet nK 1) (mSet nK 2))] 2)) ?_ U;refine e_ (An (.cons (T U) (.cons (T U) (.cons Aj .nil))) call14 (B5 (M:=SM D v6 n6) (Jr (R:=((n89,Cl (encPo (mFil (mEq nD 3))++encPo (mOp2 3 n87 (mSet nK 1) (mSet nK 2))) 28)::(n87,Cl (encPo (mSet nK 1)++encPo (mSet nK 2)) 28)::(n70,Cl (encPo (mOp2 3 n68 (mSet nK 1) (mSet nK 2))) 28)::(n68,Cl (encPo (mSet nK 1)++encPo (mSet nK 2)) 28)::(n53,Cl (encPo (mFil (mEq nD 1))++encPo (mFil (mNo n50 (mEq nD 1)))) 28)::(n50,Cl (encPd (mEq nD 1)) 25)::(n35,Cl (encPo (mSet nD 1)++encPo (mSet nD 2)) 28)::R)) hst6 (hD.mono (by exact sbt)) f7 (mOp2 4 n89 (mFil (mEq nD 3)) (mOp2 3 n87 (mSet nK 1) (mSet nK 2))) (.seq U U (.fil U (J3 (n:=3) fndD)) (.uni U U (Hu (n:=1) fndK) (Hu (n:=2) fndK))) (Fz (by repeat (first|exact Au|refine Ay ?_)) (Ce H3) (Fz (by repeat (first|exact Au|refine Ay ?_)) (Ce Dk) (Ce Dk))) ⟨⟨inD,(pin 3 qde).1⟩,⟨⟨inK,(pin 1 qde).2⟩,⟨inK,(pin 2 qde).2⟩⟩⟩) (by repeat (first|exact Bt|exact LocL.h|apply LocL.t|apply LocL.a)))) ?_ U;rintro _ _ ⟨v7,⟨rfl,hst7⟩,rfl⟩;refine rO tb 6 U ?_;refine A6 (_) ?_ ⟨atd,atd,trivial⟩ ⟨Aa U,Aa U,Aa U,Aa U,Aa U,Aa U,Aa U,Aa U,Aa U,Aa U,Aa U,Aa U,Aa U,trivial⟩ sbt;exact⟨v7,⟨hst7,hD.bs,by repeat (first|exact List.sublist_append_left _ _|refine List.Sublist.cons _ ?_),hD.en.bits.mono (by exact sbt),hex⟩,hHR.trans (by exact sbt)⟩
 rintro M ⟨v7,hX,hHM⟩;refine rC tb 4 U (y_ (Ew (T U) Aj U) (rO tb 2 U (Av (Ew (T U) Aj U) U (Az U U (Aa U)) (rO tb 3 U (Av (Ew (T U) Aj U) U (Az U U (Aa U)) (rO tb 3 U (Av (Ew (T U) Aj U) U (Az U U (Aa U)) (rO tb 3 U (Av (Ew (T U) Aj U) U (Az U U (Aa U)) (rO tb 3 U (Av (Ew (T U) Aj U) U (Az U U (Aa U)) (rO tb 3 U (Av (Ew (T U) Aj U) U (Az U U (Aa U)) (rO tb 4 U (Av (Ew (T U) (T U) U) U (Az U U (Aa U)) (rO tb 4 U (Av (Ew (T U) (T U) U) U (Az U U (Aa U)) (rO tb 4 U (Av (yl_eqF (T U) (T U) qde) U (Az U U (Aa U)) ?_)))))))))))))))))) U);refine kO tb 3 [1,2,4,8,10,12,14,134] rfl U (rG tb 7 U (y_ (A2 .nil (D1)) (e_ (An (qe3 U U U) call21 (ev5_ex hX)) ?_ U) U));rintro _ _ ⟨d5,⟨hd5,rfl⟩,rfl⟩;have hA5:Arr w0 (slH d5 ([hd0,hk1,hk2].flatMap encHd) 30) (slQ d5) 10 encHd [hd0,hk1,hk2]:=by have:=C0 (w0:=w0) (e:=30) (X:=[]) (enc:=encHd) encHd_len hd5;rwa [List.append_nil] at this
 refine rO tb 11 U (y_ (A2 .nil (D1)) (e_ (An (qe3 U U U) call21 (ev6_ex (hX.mono (by exact sbt)))) ?_ U) U);rintro _ _ ⟨d6,rfl,rfl⟩;refine rO tb 12 U (y_ (Ak (qe3 U U U) call15 (fun H' hs=>df1_ex ((hX.mono (by exact sbt)).mono hs))) ?_ U);refine rO tb 3 U (e_ (Al zeroValue30 cs_) ?_ U);rintro _ _ ⟨n20,rfl,rfl⟩
 first|refine A1 (Kf U U sizeOf30) U Ad ?_
 rintro _ _ ⟨rfl,rfl⟩;refine kO tb 3 [1,2,4,8,12,14,16,17,18,19,20,21] rfl U (rG tb 5 U (y_ (Ak (qe3 U U U) call15 (fun H' hs=>df2_ex ((hX.mono (by exact sbt)).mono hs))) ?_ U));refine rO tb 3 U (e_ (Al zeroValue30 cs_) ?_ U);rintro _ _ ⟨n22,rfl,rfl⟩
 first|refine A1 (Kf U U sizeOf30) U Ad ?_
 rintro _ _ ⟨rfl,rfl⟩;refine rO tb 7 U (e_ (An (qe2 U U) call20 (rl_ex (hX.mono (by exact sbt)) hs7 hrd)) ?_ U);rintro _ _ ⟨d9,ch9,X9,⟨hms,hd9,rfl⟩,rfl⟩;have hA9:Arr w0 (slH d9 ([ch9].flatMap encCh) 81) (slQ d9) 21 encCh [ch9]:=by have:=C0 (w0:=w0) (e:=81) (X:=[]) (enc:=encCh) encCh_len hd9;rwa [List.append_nil] at this
 refine kO tb 7 [1,8,12,16,17,18,19,20,21,23,24,25] rfl U (rG tb 7 U ?_);refine Bg (X:=Nat) (V:=fun i=>[(26, .int .i64 (i:Nat))]) (C:=[(1,_),(8,_),(12,_),(16,_),(17,_),(18,_),(19,_),(20,_),(21,_),(23,_),(24,_),(25,_)]) (G:=fun i=>slH d9 ([ch9].flatMap encCh) 81++(X9++((n22,Cl (hdC hd0) 30)::(n20,Cl (hdC hd0) 30)::(slH d6 [] 30++(slH d5 ([hd0,hk1,hk2].flatMap encHd) 30++M))))) (φ:=fun i=>i≤1) (μ:=fun i=>1 - i) (x0:=0) ?_ ⟨Aa U,Aa U,Aa U,Aa U,Aa U,Aa U,Aa U,Aa U,Aa U,Aa U,Aa U,Aa U,trivial⟩ ⟨atd,trivial⟩ sb0 ?_
 ·exact Nat.zero_le _
 rintro i hi;refine rD tb 9 U ?_
 first|refine Ac (Aa U) (fun c172=> ?_) (fun c172=> ?_)|refine Af (Aa U) (fun c172=> ?_) (fun c172=> ?_)
 ·obtain rfl:i=0:=by have h9:((i:Nat):Int)<1:=c172;omega
  refine rC tb 8 U (y_ (Ke U U runUnderlying48 sizeOf81 qom (by first|exact rfl|exact hA9.b (i:=0) Nat.zero_lt_one|exact hA5.b (i:=1) (show 1<3 from qde))) ?_ U);refine rO tb 1 U (y_ (Ka U isAgg79 (by first|exact c_o|exact(hA9.mono (List.sublist_append_left _ _)).cs (i:=0) Nat.zero_lt_one 20 _ U)) ?_ U);refine rO tb 1 U (y_ (Ew (T U) Aj (by show ((ch9.ms.length:Nat):Int)=2;rw[hms];rfl)) ?_ U);refine rO tb 8 U (y_ (Bf (T U) Aj qom) ?_ U);refine rO tb 2 U ?_;refine A4 (0+1) ?_ ?_ ⟨atd,trivial⟩ ⟨Aa U,Aa U,Aa U,Aa U,Aa U,Aa U,Aa U,Aa U,Aa U,Aa U,Aa U,Aa U,trivial⟩ ?_
  ·exact Nat.le_refl _
  ·exact Nat.lt_succ_self _
  ·exact sbt
 ·skip
  refine rC tb 2 U (As (rX tb 5 U (y_ (Hv (T U) Aj U) (rO tb 3 U (Av (Hv (T U) Aj U) U (Az U U (Aa U)) (rO tb 3 U (Av (C6 (T U) Aj runUnderlying42 sizeOf30 qde (by first|exact rfl|exact hA9.b (i:=0) Nat.zero_lt_one|exact hA5.b (i:=1) (show 1<3 from qde))) U (Az U U (Aa U)) ?_)))) U)));refine Av (Bk (T U) Aj runUnderlying30 sizeOf3 qom) U (Az U U (Aa U)) ?_;refine Av (Ka U isAgg3 (by first|exact c_o|exact(hA5.mono (by repeat (first|exact List.sublist_append_left _ _|refine List.Sublist.cons _ ?_|refine List.Sublist.trans ?_ (List.sublist_append_right _ _)))).cs (i:=1) (show 1<3 from qde) 2 _ U)) U (Az U U (Aa U)) ?_;refine Av (Hv (T U) Aj U) U (Az U U (Aa U)) (rO tb 3 U (Av (Hv (T U) Aj U) U (Az U U (Aa U)) (rO tb 4 U (Av (Hv (T U) Aj U) U (Az U U (Aa U)) (rO tb 5 U (Av (Kb U isAgg30 sizeOf30 U (by first|exact Ax)) U (Az U U (Aa U)) ?_))))));refine Av (A2 .nil (D1)) U (Az U U (Aa U)) (Av (yl_eqA (T U) (T U) qkr eqH0) U (Az U U (Aa U)) ?_);refine rO tb 3 U ?_
  first|refine Av (Bo (T U)) U (Az U U (Aa U)) ?_|refine Av (B4 (T U)) U (Az U U (Aa U)) ?_
  refine rO tb 3 U (Av (Hv (T U) Aj U) U (Az U U (Aa U)) (rO tb 4 U (Av (yl_geT (T U) Aj (show (1:Int)≤((1:Nat):Int) from qde)) U (Az U U (Aa U)) ?_)));refine rO tb 4 U (Av (A2 .nil (D1)) U (Az U U (Aa U)) (Av (Ak (qe3 U U U) call34 (fun H' hs=>gv_ex (a:=238) ((hX.mono (by exact sbt)).mono hs) qde hX.ex.g4)) U (Az U U (Aa U)) ?_));refine rO tb 4 U (Av (A2 .nil (D1)) U (Az U U (Aa U)) (Av (Ak (qe3 U U U) call34 (fun H' hs=>gv_ex (a:=843) ((hX.mono (by exact sbt)).mono hs) qde hX.ex.g6)) U (Az U U (Aa U)) ?_))
  first|refine Av (Bo (T U)) U (Az U U (Aa U)) ?_|refine Av (B4 (T U)) U (Az U U (Aa U)) ?_
  refine kO tb 4 [0] rfl U (rG tb 1 U (Ah U (J9 U) ?_));exact⟨_,⟨rfl,rfl⟩,hHM.trans (by exact sbt)⟩
theorem lright_n {w0:World}{H:List (Nat × Obj)}(fi:List Fi)(q:Option Addr)(n c:Nat)(hn:n=fi.length)(hA:Arr w0 H q 3 encFi fi)(hnm:∀ f∈fi,f.nm.size≤9223372036854775807)(h:List Int)(hl:h.length=10)(tick:Int):
  FSpec Tryz.prog w0 10 #[.slice q n c, .agg (hwC h).toArray, .int .i64 tick] H (SayB (FisOk fi∧(∀ k,k<10→0≤gd h k∧gd h k≤65535)∧0≤tick∧tick≤1073741824) H):=by
 subst hn;exact lright_s fi q c hA hnm h hl tick
theorem fis_fl {w0:World}{H:List (Nat × Obj)}{q:Option Addr}{fi:List Fi}(h:FisOk fi)(hA:Arr w0 H q 3 encFi fi):∃ fl:List Fd,FlOk fl∧fi.length=fl.length∧Arr w0 H q 3 encF fl:=⟨fi.map Fi.fd,h.fl,by rw[List.length_map],fun i u hi=>by
 have he:=h.enc;rw[List.getElem?_map] at hi;cases hf:fi[i]? with
 |none=>rw[hf] at hi;cases hi
 |some f=>
  rw[hf] at hi;obtain rfl:f.fd=u:=Option.some.inj hi;have h2:encFi f=encF f.fd:=by
   have h3:(fi.map encFi)[i]? =((fi.map Fi.fd).map encF)[i]? :=by rw[he]
   rw[List.getElem?_map,List.getElem?_map,List.getElem?_map,hf] at h3;exact Option.some.inj h3
  have:=hA i f hf;rw[h2] at this;exact this⟩
theorem zbs23_2_0_1 (a0:Int)(a1:ByteArray)(a2:Int)(a3:Int)(a4:Option Addr)(a4n a4c:Nat)(a5:Int)(a6:ByteArray)(a7:Int)(a8:Int)(a9:Option Addr)(a9n a9c:Nat)(w:World):(Instr.buildSlice 23 2 #[(0, .agg #[.int .i64 a0, .string a1, .int .i64 a2, .int .i64 a3, .slice a4 a4n a4c]),(1, .agg #[.int .i64 a5, .string a6, .int .i64 a7, .int .i64 a8, .slice a9 a9n a9c])]).run Tryz.prog w= .ok (.slice (some ⟨w.heap.size,0,none⟩) 2 2) (w.alloc (Cl [.int .i64 a0, .string a1, .int .i64 a2, .int .i64 a3, .slice a4 a4n a4c, .int .i64 a5, .string a6, .int .i64 a7, .int .i64 a8, .slice a9 a9n a9c] 25)):=by kernel_rfl
section
variable {w0:World} {fl:List Fd} {ops:Array Oper} {H0 R:List (Nat × Obj)} {L:Fm} {tbl:List Sp} {i:Nat} {d:Option Tmp} {ty:TypeId} {p:String} {af:Array Edge} {g:Option (Nat × Bool)}
theorem st_bp {s j:Nat}{k:Int}{b c:Nat}{l:List Pdm}(hi:ops[i]? =some ⟨d, .build 25 #[(0, .const (.int .i64 k)),(4, .tmp s)],ty,p,af,g⟩)(hg:dget? (depsOf ops ⟨d, .build 25 #[(0, .const (.int .i64 k)),(4, .tmp s)],ty,p,af,g⟩) s=some j)(tj:tbl[j]? =some (.val (.slice (some ⟨b,0,none⟩) l.length c)))(ti:tbl[i]? =some (.val (.agg (encPd (.mk k ⟨#[]⟩ 0 0 (some ⟨b,0,none⟩) c l)).toArray))):StepI Tryz.prog w0 ops H0 L (denT w0 fl tbl) i:=Co hi fun H F hs hF=>by
 obtain⟨v1,f1,d1⟩:=Ct (L:=L) hF hg;rw[Bu tj] at d1;obtain rfl:v1= .slice (some ⟨b,0,none⟩) l.length c:=d1;refine(A2 (.cons Aj (.cons (T f1) .nil)) (zbd25_0_4 _ _ _ _)).eff.imp ?_;rintro _ _ ⟨rfl,rfl⟩;exact⟨List.Sublist.refl _,(Bu ti).2 U⟩
theorem st_fil {s j:Nat}{m:Pdm}{x:Pd}{ts:Array TypeId}(hi:ops[i]? =some ⟨d, .call {callee:= .value (.func 28),args:= #[.tmp s],argTypes:=ts},ty,p,af,g⟩)(hg:dget? (depsOf ops ⟨d, .call {callee:= .value (.func 28),args:= #[.tmp s],argTypes:=ts},ty,p,af,g⟩) s=some j)(tj:tbl[j]? =some (.val (.agg (encPd m).toArray)))(ti:tbl[i]? =some (.po (.fil x)))(hI:IsP fl m x)(hM:PdM w0 H0 m):StepI Tryz.prog w0 ops H0 L (denT w0 fl tbl) i:=Co hi fun H F hs hF=>by
 obtain⟨v1,f1,d1⟩:=Ct (L:=L) hF hg;rw[Bu tj] at d1;obtain rfl:v1= .agg (encPd m).toArray:=d1;refine(An (.cons (T f1) .nil) call28 (Dg m)).imp ?_;rintro _ _ ⟨rfl,rfl⟩;exact⟨List.Sublist.refl _,(Bu ti).2 ⟨_,rfl, .fil U hI,Ce (hM.mono hs)⟩⟩
abbrev mP2 (k:Int) (b:Nat) (x y:Pdm):Pdm:= .mk k ⟨#[]⟩ 0 0 (some ⟨b,0,none⟩) 2 [x,y]
theorem arrPd2 {n:Nat}{a b:Pdm}{t:TypeId}(hf:Fnd R n (Cl (encPd a++encPd b) t)):Arr w0 R (some ⟨n,0,none⟩) 5 encPd [a,b]:=fun j x hj=>by
 refine⟨rfl,fun k v hk=> ?_⟩
 match j,hj with
 |0,hj=>
  have:a=x:=by simpa using hj
  subst this;exact Cv hf (by show (encPd a++encPd b)[0+0*5+k]? =some v;rw[show (0:Nat)+0*5+k=k by omega,List.getElem?_append_left (by exact(List.getElem?_eq_some_iff.1 hk).1)];exact hk)
 |1,hj=>
  have:b=x:=by simpa using hj
  subst this;exact Cv hf (by show (encPd a++encPd b)[0+1*5+k]? =some v;rw[show (0:Nat)+1*5+k=(encPd a).length+k by show 0+1*5+k=5+k;omega,List.getElem?_append_right qom,Nat.add_sub_cancel_left];exact hk)
theorem pd_two {k:Int}{b:Nat}{x y:Pdm}(hf:Fnd R b (Cl (encPd x++encPd y) 25))(hx:PdM w0 R x)(hy:PdM w0 R y):PdM w0 R (mP2 k b x y):= .mk (arrPd2 hf) fun a ha=>by
 simp only[List.mem_cons,List.not_mem_nil,or_false] at ha;rcases ha with rfl|rfl
 ·exact hx
 ·exact hy
theorem sz_fil (m:Pdm):(mFil m).sz=m.sz+1:=by rw[Ef];show szOL []+m.sz+1=_;simp[szOL]
theorem sz_set (nm:ByteArray)(n:Int):(mSet nm n).sz≤10:=by
 rw[Ef];show szOL []+pd0.sz+1≤10;rw[Hh pd0];show szOL []+(szPL []+1)+1≤10;simp[szOL,szPL]
theorem nm_fil {m:Pdm}(h:NmP m):NmO (mFil m):=fun a ha=>by
 rw[Fk] at ha;have ha:a=mFil m:=by
  rcases List.mem_cons.1 ha with h|h
  ·exact h
  ·rw[show (mFil m).subs=[] from rfl,prtOL] at h;cases h
 subst ha;exact⟨Nat.zero_le _,h⟩
theorem nm_set {nm:ByteArray}{n:Int}(h:nm.size≤9223372036854775807):NmO (mSet nm n):=fun a ha=>by
 rw[Fk] at ha;have ha:a=mSet nm n:=by
  rcases List.mem_cons.1 ha with h|h
  ·exact h
  ·rw[show (mSet nm n).subs=[] from rfl,prtOL] at h;cases h
 subst ha;refine⟨h,fun b hb=> ?_⟩;rw[show (mSet nm n).pr=pd0 from rfl,Fj] at hb;rcases List.mem_cons.1 hb with h|h
 ·subst h;exact Nat.zero_le _
 ·rw[show pd0.subs=[] from rfl,prtPL] at h;cases h
theorem fil_inv {m:Pdm}{x:Po}(h:IsO fl (mFil m) x):∃ p,x= .fil p∧IsP fl m p:=by
 generalize hM:mFil m=M at h;cases h with
 |fil _ h=>subst hM;exact⟨_,rfl,h⟩
 |set h _=>subst hM;cases h
 |uni h _ _ _=>subst hM;cases h
 |seq h _ _ _=>subst hM;cases h
 |star h _ _=>subst hM;cases h
theorem set_inv {nm:ByteArray}{n:Int}{x:Po}(h:IsO fl (mSet nm n) x):∃ k:Nat,n=(k:Nat)∧x= .set (fndFd fl nm).1 k:=by
 generalize hM:mSet nm n=M at h;cases h with
 |fil h _=>subst hM;cases h
 |set _ h=>subst hM;exact⟨_,h,rfl⟩
 |uni h _ _ _=>subst hM;cases h
 |seq h _ _ _=>subst hM;cases h
 |star h _ _=>subst hM;cases h
end
theorem tests_s {w0:World}{H:List (Nat × Obj)}(fi:List Fi)(q:Option Addr)(n c:Nat)(hn:n=fi.length)(hA:Arr w0 H q 3 encFi fi)(hnm:∀ f∈fi,f.nm.size≤9223372036854775807)(mx my:Pdm)(hMx:PdM w0 H mx)(hmx:mx.sz≤1048576)(hzx:NmP mx)(hMy:PdM w0 H my)(hmy:my.sz≤1048576)(hzy:NmP my)(nm:ByteArray)(hnz:nm.size≤9223372036854775807)(va vb tick:Int):
  FSpec Tryz.prog w0 6 #[.slice q n c, .agg (encPd mx).toArray, .agg (encPd my).toArray, .string nm, .int .i64 va, .int .i64 vb, .int .i64 tick] H (Still (.bool true) H):=by
 refine Ao Tryz.func6 U ntmps6 U (rD tb 2 U (e_ (Kg U cs_) ?_ U));rintro _ _ ⟨n8,rfl,rfl⟩;refine e_ (Kg U cs_) ?_ U;rintro _ _ ⟨n9,rfl,rfl⟩;refine rO tb 6 U (y_ (A2 .nil (D1)) (rO tb 1 U (e_ (An (qe3 U U U) call10 (lright_n fi q n c hn (hA.mono (by exact sbt)) hnm [0,0,0,0,0,0,0,0,0,0] rfl tick)) ?_ U)) U);rintro _ _ ⟨b0,⟨rfl,hr0⟩,rfl⟩;refine rO tb 7 U ?_
 first|refine Av (Bo (T U)) U Ad ?_|refine Av (B4 (T U)) U Ad ?_
 refine rO tb 2 U ?_
 first|refine Ac (Aa U) (fun c34=> ?_) (fun c34=> ?_)|refine Af (Aa U) (fun c34=> ?_) (fun c34=> ?_)
 ·skip
  refine rC tb 2 U (y_ (Ak .nil call11 (fun H' hs=>E5)) (rO tb 5 U (Ah U (J9 U) ?_)) U);exact⟨_,⟨rfl,rfl⟩,by first|exact hHs.trans (by exact sbt)|exact sbt⟩
 ·obtain⟨hfi, -,ht0,ht1⟩:=hr0 (by simpa using c34);obtain⟨fl,hfl,hlf,hAf⟩:=fis_fl hfi hA;obtain rfl:n=fl.length:=hn.trans hlf;refine rC tb 5 U (y_ (Kb U isAgg25 sizeOf25 U (by first|exact Ax)) ?_ U);refine y_ (Ak (qe1 U) call28 (fun H' hs=>Dg mx)) (e_ (An (.cons (T U) (.cons (T U) (.cons Aj .nil))) call12 (Ib fl hfl q c (hAf.mono (by exact sbt)) (m:=mFil mx) (Ce (hMx.mono (by exact sbt))) (by rw[sz_fil];omega) (nm_fil hzx) 12)) ?_ U) U;rintro _ _ ⟨b1,⟨rfl,hr1⟩,rfl⟩;refine rO tb 6 U (y_ (Kb U isAgg25 sizeOf25 U (by first|exact Ax)) ?_ U);refine y_ (Ak (qe1 U) call28 (fun H' hs=>Dg my)) (e_ (An (.cons (T U) (.cons (T U) (.cons Aj .nil))) call12 (Ib fl hfl q c (hAf.mono (by exact sbt)) (m:=mFil my) (Ce (hMy.mono (by exact sbt))) (by rw[sz_fil];omega) (nm_fil hzy) 12)) ?_ U) U;rintro _ _ ⟨b2,⟨rfl,hr2⟩,rfl⟩;refine rO tb 8 U (y_ (Ak (qe2 U U) call29 (fun H' hs=>Dh nm va)) (e_ (An (.cons (T U) (.cons (T U) (.cons Aj .nil))) call12 (Ib fl hfl q c (hAf.mono (by exact sbt)) (m:=mSet nm va) (Ce Dk) (Nat.le_trans (sz_set _ _) qde) (nm_set hnz) 12)) ?_ U) U);rintro _ _ ⟨b3,⟨rfl,hr3⟩,rfl⟩;refine rO tb 8 U (y_ (Ak (qe2 U U) call29 (fun H' hs=>Dh nm vb)) (e_ (An (.cons (T U) (.cons (T U) (.cons Aj .nil))) call12 (Ib fl hfl q c (hAf.mono (by exact sbt)) (m:=mSet nm vb) (Ce Dk) (Nat.le_trans (sz_set _ _) qde) (nm_set hnz) 12)) ?_ U) U);rintro _ _ ⟨b4,⟨rfl,hr4⟩,rfl⟩;refine kO tb 3 [0,3,4,5,6,8,9,16,17,18,19] rfl U (rG tb 4 U ?_)
  first|refine Av (Bo (T U)) U Ad ?_|refine Av (B4 (T U)) U Ad ?_
  refine rO tb 1 U ?_
  first|refine Am (s:=56) (Aa U) (fun c56=> ?_) (fun c56=> ?_)|refine Aw (s:=56) (Aa U) (fun c56=> ?_) (fun c56=> ?_)
  ·skip
   refine rO tb 16 U (y_ (Ak .nil call11 (fun H' hs=>E5)) (rO tb 5 U (Ah U (J9 U) ?_)) U);exact⟨_,⟨rfl,rfl⟩,by first|exact hHs.trans (by exact sbt)|exact sbt⟩
  ·have hb1:b1=true:=by simpa using c56
   refine rO tb 1 U ?_
   first|refine Av (Bo (T U)) U (Az U U (Aa U)) ?_|refine Av (B4 (T U)) U (Az U U (Aa U)) ?_
   refine rO tb 2 U ?_
   first|refine Am (s:=60) (Aa U) (fun c60=> ?_) (fun c60=> ?_)|refine Aw (s:=60) (Aa U) (fun c60=> ?_) (fun c60=> ?_)
   ·skip
    refine rO tb 12 U (y_ (Ak .nil call11 (fun H' hs=>E5)) (rO tb 5 U (Ah U (J9 U) ?_)) U);exact⟨_,⟨rfl,rfl⟩,by first|exact hHs.trans (by exact sbt)|exact sbt⟩
   ·have hb2:b2=true:=by simpa using c60
    refine rO tb 1 U ?_
    first|refine Av (Bo (T U)) U (Az U U (Aa U)) ?_|refine Av (B4 (T U)) U (Az U U (Aa U)) ?_
    refine rO tb 2 U ?_
    first|refine Am (s:=64) (Aa U) (fun c64=> ?_) (fun c64=> ?_)|refine Aw (s:=64) (Aa U) (fun c64=> ?_) (fun c64=> ?_)
    ·skip
     refine rO tb 8 U (y_ (Ak .nil call11 (fun H' hs=>E5)) (rO tb 5 U (Ah U (J9 U) ?_)) U);exact⟨_,⟨rfl,rfl⟩,by first|exact hHs.trans (by exact sbt)|exact sbt⟩
    ·have hb3:b3=true:=by simpa using c64
     refine rO tb 1 U ?_
     first|refine Av (Bo (T U)) U (Az U U (Aa U)) ?_|refine Av (B4 (T U)) U (Az U U (Aa U)) ?_
     refine rO tb 3 U ?_
     first|refine Ac (Aa U) (fun c67=> ?_) (fun c67=> ?_)|refine Af (Aa U) (fun c67=> ?_) (fun c67=> ?_)
     ·skip
      refine rC tb 2 U (y_ (Ak .nil call11 (fun H' hs=>E5)) (rO tb 5 U (Ah U (J9 U) ?_)) U);exact⟨_,⟨rfl,rfl⟩,by first|exact hHs.trans (by exact sbt)|exact sbt⟩
     ·have hb4:b4=true:=by simpa using c67
      obtain⟨p1,hI1,hF1⟩:=Jp hfl (hr1 hb1).2.1 (hr1 hb1).2.2;obtain⟨px,rfl,hPx⟩:=fil_inv hI1;obtain⟨p2,hI2,hF2⟩:=Jp hfl (hr2 hb2).2.1 (hr2 hb2).2.2;obtain⟨py,rfl,hPy⟩:=fil_inv hI2;obtain⟨p3,hI3,hF3⟩:=Jp hfl (hr3 hb3).2.1 (hr3 hb3).2.2;obtain⟨na,rfl,rfl⟩:=set_inv hI3;obtain⟨p4,hI4,hF4⟩:=Jp hfl (hr4 hb4).2.1 (hr4 hb4).2.2;obtain⟨nb,rfl,rfl⟩:=set_inv hI4;have hF3':FIn (bsF fl) (fndFd fl nm).1∧na<2 ^ (fndFd fl nm).1.w:=hF3;have hF4':FIn (bsF fl) (fndFd fl nm).1∧nb<2 ^ (fndFd fl nm).1.w:=hF4;refine rC tb 4 U (y_ (Kb U isAgg25 sizeOf25 U (by first|exact Ax)) ?_ U);refine y_ (Ak (qe1 U) call28 (fun H' hs=>Dg mx)) (e_ (Al zeroValue28 cs_) ?_ U) U;rintro _ _ ⟨n20,rfl,rfl⟩
      first|refine A1 (Kf U U sizeOf28) U Ad ?_
      rintro _ _ ⟨rfl,rfl⟩;refine rO tb 4 U (y_ (Kb U isAgg25 sizeOf25 U (by first|exact Ax)) ?_ U);refine y_ (Ak (qe1 U) call28 (fun H' hs=>Dg my)) (e_ (Al zeroValue28 cs_) ?_ U) U;rintro _ _ ⟨n21,rfl,rfl⟩
      first|refine A1 (Kf U U sizeOf28) U Ad ?_
      rintro _ _ ⟨rfl,rfl⟩;refine kO tb 2 [0,3,4,5,6,8,9,20,21] rfl U (rG tb 12 U (y_ (Kb U isAgg25 sizeOf25 U (by first|exact Ax)) ?_ U));refine y_ (Kb U isAgg25 sizeOf25 U (by first|exact Ax)) ?_ U;refine e_ (A8 (.cons (T U) (.cons (T U) .nil)) (zbs23_2_0_1 _ _ _ _ _ _ _ _ _ _ _ _ _ _)) ?_ U;rintro _ _ ⟨n75,rfl,rfl⟩;refine rO tb 5 U (y_ (Kb U isAgg25 sizeOf25 U (by first|exact Ax)) ?_ U);refine e_ (A8 (.cons (T U) .nil) (zbs23_1_0 _ _ _ _ _ _ _)) ?_ U;rintro _ _ ⟨n77,rfl,rfl⟩;refine y_ (A2 (.cons Aj (.cons (T U) .nil)) (zbd25_0_4 _ _ _ _)) (y_ (Ak (qe1 U) call28 (fun H' hs=>Dg (mNo n77 mx))) (e_ (Al zeroValue28 cs_) ?_ U) U) U;rintro _ _ ⟨n25,rfl,rfl⟩
      first|refine A1 (Kf U U sizeOf28) U Ad ?_
      rintro _ _ ⟨rfl,rfl⟩;refine rO tb 3 U ?_;have hHs:H.Sublist ((n25,Cl (encPo (mFil (mNo n77 mx))) 28)::(n77,Cl (encPd mx) 25)::(n75,Cl (encPd mx++encPd my) 25)::(n21,Cl (encPo (mFil my)) 28)::(n20,Cl (encPo (mFil mx)) 28)::(n9,Cl (encPd my) 25)::(n8,Cl (encPd mx) 25)::H):=(by exact sbt);have fb20:Fnd ((n25,Cl (encPo (mFil (mNo n77 mx))) 28)::(n77,Cl (encPd mx) 25)::(n75,Cl (encPd mx++encPd my) 25)::(n21,Cl (encPo (mFil my)) 28)::(n20,Cl (encPo (mFil mx)) 28)::(n9,Cl (encPd my) 25)::(n8,Cl (encPd mx) 25)::H) n20 (Cl (encPo (mFil mx)) 28):=fdd;have fb21:Fnd ((n25,Cl (encPo (mFil (mNo n77 mx))) 28)::(n77,Cl (encPd mx) 25)::(n75,Cl (encPd mx++encPd my) 25)::(n21,Cl (encPo (mFil my)) 28)::(n20,Cl (encPo (mFil mx)) 28)::(n9,Cl (encPd my) 25)::(n8,Cl (encPd mx) 25)::H) n21 (Cl (encPo (mFil my)) 28):=fdd;have fb25:Fnd ((n25,Cl (encPo (mFil (mNo n77 mx))) 28)::(n77,Cl (encPd mx) 25)::(n75,Cl (encPd mx++encPd my) 25)::(n21,Cl (encPo (mFil my)) 28)::(n20,Cl (encPo (mFil mx)) 28)::(n9,Cl (encPd my) 25)::(n8,Cl (encPd mx) 25)::H) n25 (Cl (encPo (mFil (mNo n77 mx))) 28):=fdd;have hK0:=hAf.mono hHs;have hxm:=hMx.mono hHs;have hym:=hMy.mono hHs;have hKMx:PoM w0 _ (mFil mx):=Ce hxm;have hKMy:PoM w0 _ (mFil my):=Ce hym;have hKMn:PoM w0 ((n25,Cl (encPo (mFil (mNo n77 mx))) 28)::(n77,Cl (encPd mx) 25)::(n75,Cl (encPd mx++encPd my) 25)::(n21,Cl (encPo (mFil my)) 28)::(n20,Cl (encPo (mFil mx)) 28)::(n9,Cl (encPd my) 25)::(n8,Cl (encPd mx) 25)::H) (mFil (mNo n77 mx)):=Ce (pd_no (show Fnd ((n25,Cl (encPo (mFil (mNo n77 mx))) 28)::(n77,Cl (encPd mx) 25)::(n75,Cl (encPd mx++encPd my) 25)::(n21,Cl (encPo (mFil my)) 28)::(n20,Cl (encPo (mFil mx)) 28)::(n9,Cl (encPd my) 25)::(n8,Cl (encPd mx) 25)::H) n77 (Cl (encPd mx) 25) from fdd) hxm);have hKP7:PdM w0 ((n25,Cl (encPo (mFil (mNo n77 mx))) 28)::(n77,Cl (encPd mx) 25)::(n75,Cl (encPd mx++encPd my) 25)::(n21,Cl (encPo (mFil my)) 28)::(n20,Cl (encPo (mFil mx)) 28)::(n9,Cl (encPd my) 25)::(n8,Cl (encPd mx) 25)::H) (mP2 7 n75 mx my):=pd_two (show Fnd ((n25,Cl (encPo (mFil (mNo n77 mx))) 28)::(n77,Cl (encPd mx) 25)::(n75,Cl (encPd mx++encPd my) 25)::(n21,Cl (encPo (mFil my)) 28)::(n20,Cl (encPo (mFil mx)) 28)::(n9,Cl (encPd my) 25)::(n8,Cl (encPd mx) 25)::H) n75 (Cl (encPd mx++encPd my) 25) from fdd) hxm hym;have hKP8:PdM w0 ((n25,Cl (encPo (mFil (mNo n77 mx))) 28)::(n77,Cl (encPd mx) 25)::(n75,Cl (encPd mx++encPd my) 25)::(n21,Cl (encPo (mFil my)) 28)::(n20,Cl (encPo (mFil mx)) 28)::(n9,Cl (encPd my) 25)::(n8,Cl (encPd mx) 25)::H) (mP2 8 n75 mx my):=pd_two (show Fnd ((n25,Cl (encPo (mFil (mNo n77 mx))) 28)::(n77,Cl (encPd mx) 25)::(n75,Cl (encPd mx++encPd my) 25)::(n21,Cl (encPo (mFil my)) 28)::(n20,Cl (encPo (mFil mx)) 28)::(n9,Cl (encPd my) 25)::(n8,Cl (encPd mx) 25)::H) n75 (Cl (encPd mx++encPd my) 25) from fdd) hxm hym;refine j_invG 40 (denT w0 fl [.val (.slice q fl.length c), .val (.int .i64 4), .po (.fil px), .po (.fil py), .sl [(.fil px),(.fil py)], .po (.seq (.fil px) (.fil py)), .val (.int .i64 4), .po (.fil py), .po (.fil px), .sl [(.fil py),(.fil px)], .po (.seq (.fil py) (.fil px)), .val (.int .i64 tick), .val (.bool true), .val (.bool true), .val (.slice q fl.length c), .val (.int .i64 4), .po (.fil px), .po (.fil py), .sl [(.fil px),(.fil py)], .po (.seq (.fil px) (.fil py)), .val (.slice (some ⟨n75,0,none⟩) 2 2), .val (.agg (encPd (mP2 7 n75 mx my)).toArray), .po (.fil (.and px py)), .val (.int .i64 tick), .val (.bool true), .val (.bool true), .val (.bool true), .val (.slice q fl.length c), .val (.int .i64 3), .po (.fil px), .po (.fil py), .sl [(.fil px),(.fil py)], .po (.uni (.fil px) (.fil py)), .val (.slice (some ⟨n75,0,none⟩) 2 2), .val (.agg (encPd (mP2 8 n75 mx my)).toArray), .po (.fil (.or px py)), .val (.int .i64 tick), .val (.bool true), .val (.bool true), .val (.bool true)]) [(39,26)] [13,26] mixd qkr (denT_tt (by intro j hj;simp only[List.mem_cons,List.not_mem_nil,or_false] at hj;rcases hj with rfl|rfl<;>rfl)) denT_mono (Bd (Bd (Bd (Bd (Bd (Bd (Bd (Bd (Bd (Bd (Bd (Bd (Bd (Bd (Bd (Bd (Bd (Bd (Bd (Bd (Bd (Bd (Bd (Bd (Bd (Bd (Bd (Bd (Bd (Bd (Bd (Bd (Bd (Bd (Bd (Bd (Bd (Bd (Bd (Bd all_z (Ci rfl qkr rfl rfl)) (Ci rfl qkr rfl rfl)) (Cm rfl qkr rfl rfl fb20 (.fil rfl hPx) hKMx)) (Cm rfl qkr rfl rfl fb21 (.fil rfl hPy) hKMy)) (Iv (j1:=2) (j2:=3) rfl qkr qkr rfl rfl rfl)) (Gt (j:=4) (jk:=1) rfl qkr qkr rfl rfl rfl mk4)) (Ci rfl qkr rfl rfl)) (Cm rfl qkr rfl rfl fb21 (.fil rfl hPy) hKMy)) (Cm rfl qkr rfl rfl fb20 (.fil rfl hPx) hKMx)) (Iv (j1:=7) (j2:=8) rfl qkr qkr rfl rfl rfl)) (Gt (j:=9) (jk:=6) rfl qkr qkr rfl rfl rfl mk4)) (Ci rfl qkr rfl rfl)) (I5 (x:=(.seq (.fil px) (.fil py))) (y:=(.seq (.fil py) (.fil px))) (j0:=0) (j1:=5) (j2:=10) (j3:=11) rfl qkr qkr qkr qkr rfl rfl rfl rfl rfl hfl hK0 ⟨hF1,hF2⟩ ⟨hF2,hF1⟩ e_pcomm)) (J2 (j:=12) rfl qkr rfl rfl)) (Ci rfl qkr rfl rfl)) (Ci rfl qkr rfl rfl)) (Cm rfl qkr rfl rfl fb20 (.fil rfl hPx) hKMx)) (Cm rfl qkr rfl rfl fb21 (.fil rfl hPy) hKMy)) (Iv (j1:=16) (j2:=17) rfl qkr qkr rfl rfl rfl)) (Gt (j:=18) (jk:=15) rfl qkr qkr rfl rfl rfl mk4)) (Ci rfl qkr rfl rfl)) (st_bp (j:=20) (l:=[mx,my]) rfl qkr rfl rfl)) (st_fil (j:=21) rfl qkr rfl rfl (.and rfl rfl hPx hPy) hKP7)) (Ci rfl qkr rfl rfl)) (I5 (x:=(.seq (.fil px) (.fil py))) (y:=(.fil (.and px py))) (j0:=14) (j1:=19) (j2:=22) (j3:=23) rfl qkr qkr qkr qkr rfl rfl rfl rfl rfl hfl hK0 ⟨hF1,hF2⟩ ⟨hF1,hF2⟩ e_pand)) (Ic (j1:=13) (j2:=24) rfl qkr qkr rfl rfl rfl)) (J2 (j:=25) rfl qkr rfl rfl)) (Ci rfl qkr rfl rfl)) (Ci rfl qkr rfl rfl)) (Cm rfl qkr rfl rfl fb20 (.fil rfl hPx) hKMx)) (Cm rfl qkr rfl rfl fb21 (.fil rfl hPy) hKMy)) (Iv (j1:=29) (j2:=30) rfl qkr qkr rfl rfl rfl)) (Gt (j:=31) (jk:=28) rfl qkr qkr rfl rfl rfl mk3)) (Ci rfl qkr rfl rfl)) (st_bp (j:=33) (l:=[mx,my]) rfl qkr rfl rfl)) (st_fil (j:=34) rfl qkr rfl rfl (.or rfl rfl hPx hPy) hKP8)) (Ci rfl qkr rfl rfl)) (I5 (x:=(.uni (.fil px) (.fil py))) (y:=(.fil (.or px py))) (j0:=27) (j1:=32) (j2:=35) (j3:=36) rfl qkr qkr qkr qkr rfl rfl rfl rfl rfl hfl hK0 ⟨hF1,hF2⟩ ⟨hF1,hF2⟩ e_por)) (Ic (j1:=26) (j2:=37) rfl qkr qkr rfl rfl rfl)) (st_asg (j:=38) rfl qkr rfl rfl)) ?_ Bz;rintro H16 F hs16 hF;obtain⟨v26,F,rfl,d26,hF⟩:=hF.un;obtain rfl:=hF.no;obtain rfl:v26= .bool true:=(Bu (sp:= .val (.bool true)) rfl).1 d26
      replace fb20:=Fnd.mono fb20 hs16
      replace fb21:=Fnd.mono fb21 hs16
      replace fb25:=Fnd.mono fb25 hs16
      replace hK0:=hK0.mono hs16
      replace hKMx:=hKMx.mono hs16
      replace hKMy:=hKMy.mono hs16
      replace hKMn:=hKMn.mono hs16
      replace hKP7:=hKP7.mono hs16
      replace hKP8:=hKP8.mono hs16
      replace hHs:=hHs.trans hs16
      refine rO tb 3 rfl (j_invG 32 (denT w0 fl [.val (.slice q fl.length c), .val (.int .i64 3), .po (.fil px), .po (.fil (.no px)), .sl [(.fil px),(.fil (.no px))], .po (.uni (.fil px) (.fil (.no px))), .po (.fil .tru), .val (.int .i64 tick), .val (.bool true), .val (.bool true), .val (.slice q fl.length c), .val (.int .i64 4), .po (.fil px), .po (.fil (.no px)), .sl [(.fil px),(.fil (.no px))], .po (.seq (.fil px) (.fil (.no px))), .po (.fil .fls), .val (.int .i64 tick), .val (.bool true), .val (.bool true), .val (.bool true), .val (.slice q fl.length c), .val (.int .i64 4), .po (.fil px), .po (.fil px), .sl [(.fil px),(.fil px)], .po (.seq (.fil px) (.fil px)), .po (.fil px), .val (.int .i64 tick), .val (.bool true), .val (.bool true), .val (.bool true)]) [(31,27)] [9,20] mixd qkr (denT_tt (by intro j hj;simp only[List.mem_cons,List.not_mem_nil,or_false] at hj;rcases hj with rfl|rfl<;>rfl)) denT_mono (Bd (Bd (Bd (Bd (Bd (Bd (Bd (Bd (Bd (Bd (Bd (Bd (Bd (Bd (Bd (Bd (Bd (Bd (Bd (Bd (Bd (Bd (Bd (Bd (Bd (Bd (Bd (Bd (Bd (Bd (Bd (Bd all_z (Ci rfl qkr rfl rfl)) (Ci rfl qkr rfl rfl)) (Cm rfl qkr rfl rfl fb20 (.fil rfl hPx) hKMx)) (Cm rfl qkr rfl rfl fb25 (.fil rfl (.no rfl rfl hPx)) hKMn)) (Iv (j1:=2) (j2:=3) rfl qkr qkr rfl rfl rfl)) (Gt (j:=4) (jk:=1) rfl qkr qkr rfl rfl rfl mk3)) (st_id rfl rfl)) (Ci rfl qkr rfl rfl)) (I5 (x:=(.uni (.fil px) (.fil (.no px)))) (y:=(.fil .tru)) (j0:=0) (j1:=5) (j2:=6) (j3:=7) rfl qkr qkr qkr qkr rfl rfl rfl rfl rfl hfl hK0 ⟨hF1,hF1⟩ trivial e_pnot)) (J2 (j:=8) rfl qkr rfl rfl)) (Ci rfl qkr rfl rfl)) (Ci rfl qkr rfl rfl)) (Cm rfl qkr rfl rfl fb20 (.fil rfl hPx) hKMx)) (Cm rfl qkr rfl rfl fb25 (.fil rfl (.no rfl rfl hPx)) hKMn)) (Iv (j1:=12) (j2:=13) rfl qkr qkr rfl rfl rfl)) (Gt (j:=14) (jk:=11) rfl qkr qkr rfl rfl rfl mk4)) (st_drop rfl rfl)) (Ci rfl qkr rfl rfl)) (I5 (x:=(.seq (.fil px) (.fil (.no px)))) (y:=(.fil .fls)) (j0:=10) (j1:=15) (j2:=16) (j3:=17) rfl qkr qkr qkr qkr rfl rfl rfl rfl rfl hfl hK0 ⟨hF1,hF1⟩ trivial e_pno)) (Ic (j1:=9) (j2:=18) rfl qkr qkr rfl rfl rfl)) (J2 (j:=19) rfl qkr rfl rfl)) (Ci rfl qkr rfl rfl)) (Ci rfl qkr rfl rfl)) (Cm rfl qkr rfl rfl fb20 (.fil rfl hPx) hKMx)) (Cm rfl qkr rfl rfl fb20 (.fil rfl hPx) hKMx)) (Iv (j1:=23) (j2:=24) rfl qkr qkr rfl rfl rfl)) (Gt (j:=25) (jk:=22) rfl qkr qkr rfl rfl rfl mk4)) (Cm rfl qkr rfl rfl fb20 (.fil rfl hPx) hKMx)) (Ci rfl qkr rfl rfl)) (I5 (x:=(.seq (.fil px) (.fil px))) (y:=(.fil px)) (j0:=21) (j1:=26) (j2:=27) (j3:=28) rfl qkr qkr qkr qkr rfl rfl rfl rfl rfl hfl hK0 ⟨hF1,hF1⟩ hF1 e_pp)) (Ic (j1:=20) (j2:=29) rfl qkr qkr rfl rfl rfl)) (st_asg (j:=30) rfl qkr rfl rfl)) ?_ Bz);rintro H17 F hs17 hF;obtain⟨v27,F,rfl,d27,hF⟩:=hF.un;obtain rfl:=hF.no;obtain rfl:v27= .bool true:=(Bu (sp:= .val (.bool true)) rfl).1 d27
      replace fb20:=Fnd.mono fb20 hs17
      replace fb21:=Fnd.mono fb21 hs17
      replace fb25:=Fnd.mono fb25 hs17
      replace hK0:=hK0.mono hs17
      replace hKMx:=hKMx.mono hs17
      replace hKMy:=hKMy.mono hs17
      replace hKMn:=hKMn.mono hs17
      replace hKP7:=hKP7.mono hs17
      replace hKP8:=hKP8.mono hs17
      replace hHs:=hHs.trans hs17
      refine rO tb 8 U (y_ (Ak (qe2 U U) call29 (fun H' hs=>Dh nm na)) (rO tb 2 U (y_ (Ak (qe2 U U) call29 (fun H' hs=>Dh nm nb)) (e_ (A8 (.cons (T U) (.cons (T U) .nil)) (Cg _ _ _ _ _ _ _ _ _ _ _ _ _ _ _ _ _ _ _ _ _ _ _ _ _ _)) ?_ U) U)) U);rintro _ _ ⟨n158,rfl,rfl⟩;refine y_ (Ak (qe2 U U) call24 (fun H' hs=>Gl 4 (some ⟨n158,0,none⟩) [(mSet nm na),(mSet nm nb)] 2)) (rO tb 2 U (y_ (Ak (qe2 U U) call29 (fun H' hs=>Dh nm nb)) (rO tb 1 U ?_) U)) U;refine e_ (An (qe4 U U U U) call25 (Hj fl hfl q c (hK0.mono (by exact sbt)) (m1:=(mOp2 4 n158 (mSet nm na) (mSet nm nb))) (m2:=(mSet nm nb)) (.seq U U (.set U U) (.set U U)) ⟨hF3,hF4⟩ (Fz (by repeat (first|exact Au|refine Ay ?_)) (Ce Dk) (Ce Dk)) (.set U U) hF4 (Ce Dk) tick)) ?_ U;rintro _ _ ⟨be1,⟨rfl,hbe1⟩,rfl⟩;obtain rfl:be1=true:=hbe1 e_ss;refine rO tb 5 U (Av (Ak (qe2 U U) call29 (fun H' hs=>Dh nm na)) U (Az U U (Aa U)) (rO tb 2 U (Av (Ak (qe2 U U) call30 (fun H' hs=>It nm na)) U (Az U U (Aa U)) (Av (Ak (qe1 U) call28 (fun H' hs=>Dg (mEq nm na))) U (Az U U (Aa U)) (A1 (A8 (.cons (T U) (.cons (T U) .nil)) (Cg _ _ _ _ _ _ _ _ _ _ _ _ _ _ _ _ _ _ _ _ _ _ _ _ _ _)) U (Az U U (Aa U)) ?_)))));rintro _ _ ⟨n175,rfl,rfl⟩;refine Av (Ak (qe2 U U) call24 (fun H' hs=>Gl 4 (some ⟨n175,0,none⟩) [(mSet nm na),(mFil (mEq nm na))] 2)) U (Az U U (Aa U)) (rO tb 2 U (Av (Ak (qe2 U U) call29 (fun H' hs=>Dh nm na)) U (Az U U (Aa U)) (rO tb 1 U ?_)));refine A1 (An (qe4 U U U U) call25 (Hj fl hfl q c (hK0.mono (by exact sbt)) (m1:=(mOp2 4 n175 (mSet nm na) (mFil (mEq nm na)))) (m2:=(mSet nm na)) (.seq U U (.set U U) (.fil U (.eq U U))) ⟨hF3,hF3⟩ (Fz (by repeat (first|exact Au|refine Ay ?_)) (Ce Dk) (Ce H3)) (.set U U) hF3 (Ce Dk) tick)) U (Az U U (Aa U)) ?_;rintro _ _ ⟨be2,⟨rfl,hbe2⟩,rfl⟩;obtain rfl:be2=true:=hbe2 (e_sf hF3'.1.ok hF3'.2);refine rO tb 6 U (Av (Ak (qe2 U U) call30 (fun H' hs=>It nm na)) U (Az U U (Aa U)) (Av (Ak (qe1 U) call28 (fun H' hs=>Dg (mEq nm na))) U (Az U U (Aa U)) (rO tb 2 U (Av (Ak (qe2 U U) call29 (fun H' hs=>Dh nm na)) U (Az U U (Aa U)) (A1 (A8 (.cons (T U) (.cons (T U) .nil)) (Cg _ _ _ _ _ _ _ _ _ _ _ _ _ _ _ _ _ _ _ _ _ _ _ _ _ _)) U (Az U U (Aa U)) ?_)))));rintro _ _ ⟨n193,rfl,rfl⟩;refine Av (Ak (qe2 U U) call24 (fun H' hs=>Gl 4 (some ⟨n193,0,none⟩) [(mFil (mEq nm na)),(mSet nm na)] 2)) U (Az U U (Aa U)) (rO tb 2 U (Av (Ak (qe2 U U) call30 (fun H' hs=>It nm na)) U (Az U U (Aa U)) (Av (Ak (qe1 U) call28 (fun H' hs=>Dg (mEq nm na))) U (Az U U (Aa U)) (rO tb 1 U ?_))));refine A1 (An (qe4 U U U U) call25 (Hj fl hfl q c (hK0.mono (by exact sbt)) (m1:=(mOp2 4 n193 (mFil (mEq nm na)) (mSet nm na))) (m2:=(mFil (mEq nm na))) (.seq U U (.fil U (.eq U U)) (.set U U)) ⟨hF3,hF3⟩ (Fz (by repeat (first|exact Au|refine Ay ?_)) (Ce H3) (Ce Dk)) (.fil U (.eq U U)) hF3 (Ce H3) tick)) U (Az U U (Aa U)) ?_;rintro _ _ ⟨be3,⟨rfl,hbe3⟩,rfl⟩;obtain rfl:be3=true:=hbe3 (e_fs hF3'.1.ok);refine kO tb 4 [26,27,28] rfl U (rG tb 2 U (y_ (Ak .nil call11 (fun H' hs=>E5)) (rO tb 13 U (Ah U (J9 U) ?_)) U));exact⟨_,⟨rfl,rfl⟩,by first|exact hHs.trans (by exact sbt)|exact sbt⟩
end Go.Proofs.YtkojjapnfdlddaaGreat
namespace Go.Proofs.YtkojjapnfdlddaaGreat
open _root_.Go.Proofs.Tryz
open Go.ChangeShapes Go.WideShapes Go.ChangeAt Go.RowKit Go.Joins Go.Deep
set_option linter.unusedVariables false
set_option linter.unusedSimpArgs false
set_option linter.unusedSectionVars false
set_option maxRecDepth 100000
theorem below_cell {W w:World}{p:Addr}{v:Value}(hb:Below W.heap.size W w)(h:W.cell? p=some v):w.cell? p=some v:=by
 have hlt:=World.block_lt_of_cell? _ _ h;have:=hb.block p.block hlt;unfold World.cell? at h ⊢;rw[this];exact h
theorem cell_arg {W:World}{p:Addr}{v:Value}(h:W.cell? p=some v):Cell W [] p v:=fun w hO=>below_cell hO.below h
theorem Hk {H:Type}(d:DataW H):1≤Rows.uptoBulk d:=by
 cases d with
 |lit l=>cases l<;>simp[Rows.uptoBulk]
 |nil=>simp[Rows.uptoBulk]
 |ptr d=>simp[Rows.uptoBulk]
 |slice elems spare=>simp[Rows.uptoBulk]
 |agg parts=>simp[Rows.uptoBulk]
 |iface t d=>simp[Rows.uptoBulk]
 |map entries=>simp[Rows.uptoBulk]
 |held h=>simp[Rows.uptoBulk]
theorem blk_sum {H:Type}{f:Nat→Nat}{D:Nat→DataW H}:∀ (l:List Nat),(∀ i∈l,f i≤Rows.uptoBulk (D i))→(l.map f).sum≤Rows.uptoBulkAll (l.map D)
 |[],_=>Nat.le_refl _
 |x::l,h=>by
  have h1:=h x (by simp);have h2:=blk_sum l fun i hi=>h i (by simp[hi])
  simp only[List.map_cons,List.sum_cons,Rows.uptoBulkAll];omega
theorem blk_mem {H:Type}{D:Nat→DataW H}:∀ {l:List Nat} {i:Nat},i∈l→Rows.uptoBulk (D i)≤Rows.uptoBulkAll (l.map D)
 |x::l,i,h=>by
  simp only[List.map_cons,Rows.uptoBulkAll];rcases List.mem_cons.1 h with rfl|h
  ·exact Nat.le_add_right _ _
  ·have:=blk_mem (D:=D) h;omega
section
variable {H:Type} {enc:TypeId × Value→H} {P:Program} {W:World} {b0:Nat} {sp1:Nat→Bool} {held:Bool}
theorem open_arr {α:Type}{t e sz fuel:Nat}{cs:List Value}{x:DataW H × List MemPlace}{el:α→List Value}{φ:α→Prop}{szf:α→Nat}(ht:P.underlying t=some (.slice e))(hc:P.cellsOf e=sz)(hsz:0<sz)
  (hel:∀ n cs y,Rows.uptoBulk y.1<Rows.uptoBulk x.1→DataW.trod enc P W b0 sp1 held n e cs=some y→∃ u:α,cs=el u∧φ u∧szf u≤Rows.uptoBulk y.1) (h:DataW.trod enc P W b0 sp1 held fuel t cs=some x):
  ∃ (q:Option Addr) (l:List α) (cap:Nat),cs=[.slice q l.length cap]∧Arr W [] q sz el l∧l.length≤cap∧l.length≤9223372036854775807∧(∀ u∈l,φ u)∧(l.map szf).sum+1≤Rows.uptoBulk x.1:=by
 rcases open_slice ht h with ⟨rfl,rfl⟩|⟨a,len,cap,m,n,D,Pl,rfl,hb,hl,hm,hmm,rfl,hx⟩
 ·exact⟨none,[],0,rfl,fun i u hi=>by simp at hi,by simp,by simp,by simp,by simp[Rows.uptoBulk]⟩
 have hlm:len≤m:=by rw[hmm];split<;>omega
 have hlen:len≤9223372036854775807:=by unfold maxLen at hm;omega
 cases len with
 |zero=>exact⟨some a,[],cap,rfl,fun i u hi=>by simp at hi,by simp,by simp,by simp,by simp[Rows.uptoBulk]⟩
 |succ k=>
  have hbk:Rows.uptoBulkAll ((List.range (k+1)).map D)+1≤Rows.uptoBulk (DataW.slice ((List.range (k+1)).map D) ((List.range (m - (k+1))).map fun j=>D (k+1+j))):=by
   simp only[Rows.uptoBulk];omega
  have each:∀ i,i<k+1→∃ u:α,W.cells? b0 (a.add (i*sz)) sz=some (el u)∧φ u∧szf u≤Rows.uptoBulk (D i):=fun i hi=>by
   obtain⟨cs',h1,h2⟩:=hx i qom;rw[hc] at h1;have h3:=blk_mem (D:=D) (List.mem_range.2 hi);obtain⟨u,rfl,hu⟩:=hel _ _ _ (by simp only[];omega) h2;exact⟨u,h1,hu⟩
  obtain⟨u0,h00,hu0⟩:=each 0 qom
  letI:Inhabited α:=⟨u0⟩
  obtain⟨f,hf⟩:=choose_lt each;refine⟨some a,(List.range (k+1)).map f,cap,by simp,fun i u hi=> ?_,by simpa using hl,by simpa using hlen,fun u hu=> ?_,?_⟩
  ·have hik:i<k+1:=by have:=(List.getElem?_eq_some_iff.1 hi).1;simpa using this
   have hfu:f i=u:=by simpa[hik] using hi
   obtain⟨sb,so,spot⟩:=a;obtain⟨_,hl0,hc0⟩:=World.cells?_some h00;have hspot:spot=none:=by
    have h6:=(hc0 0 hsz).trans (List.getElem?_eq_getElem qom)
    simpa[Addr.add] using World.cell?_spot h6
   subst hspot;refine⟨rfl,fun j v hj=>cell_arg ?_⟩;obtain⟨_,hl1,hc1⟩:=World.cells?_some (hf i hik).1;rw[hfu] at hl1 hc1;have hjl:=(List.getElem?_eq_some_iff.1 hj).1;have h5:=hc1 j qom;rw[add_add,add_plain] at h5;have h6:=h5.trans hj;rw[← Nat.add_assoc] at h6;exact h6
  ·obtain⟨i,hi,rfl⟩:=List.mem_map.1 hu;exact(hf i (List.mem_range.1 hi)).2.1
  ·have:=blk_sum (f:=fun i=>szf (f i)) (D:=D) (List.range (k+1)) fun i hi=>(hf i (List.mem_range.1 hi)).2.2
   rw[List.map_map];have e:(szf ∘ f)=fun i=>szf (f i):=rfl
   rw[e];simp only[] at hbk ⊢;omega
end
theorem cells3:Tryz.prog.cellsOf 3=1:=by kernel_rfl
theorem cells9:Tryz.prog.cellsOf 9=1:=by kernel_rfl
theorem cells67:Tryz.prog.cellsOf 67=3:=by kernel_rfl
theorem cells25:Tryz.prog.cellsOf 25=5:=by kernel_rfl
theorem cells23:Tryz.prog.cellsOf 23=1:=by kernel_rfl
theorem own_knob:ownKnob Tryz.prog.godebug=none:=by kernel_rfl
theorem i64_bd {n:Int}(h:(Lit.int .i64 n).wf=true): -9223372036854775808≤n∧n≤9223372036854775807:=by
 have:=bounds_i64 h;exact this
theorem szPL_sum:∀ l:List Pdm,szPL l=(l.map Pdm.sz).sum
 |[]=>by simp[szPL]
 |x::l=>by simp only[szPL,List.map_cons,List.sum_cons,szPL_sum l]
theorem prtPL_in {l:List Pdm}{a:Pdm}(h:a∈prtPL l):∃ x∈l,a∈prtP x:=by
 induction l with
 |nil=>simp[prtPL] at h
 |cons x l ih=>
  rw[prtPL] at h;rcases List.mem_append.1 h with h|h
  ·exact⟨x,by simp,h⟩
  ·obtain⟨y,h1,h2⟩:=ih h;exact⟨y,by simp[h1],h2⟩
section
variable {H:Type} {enc:TypeId × Value→H} {W:World} {b0 n:Nat} {sp1:Nat→Bool} {held:Bool} {y:DataW H × List MemPlace} {cs:List Value}
abbrev encSv (s:ByteArray):List Value:=[.string s]
theorem Iw {c:Value}(h:DataW.trod enc Tryz.prog W b0 sp1 held n 3 [c]=some y):∃ a:Int,c= .int .i64 a∧(-9223372036854775808≤a∧a≤9223372036854775807):=by
 obtain⟨a,e0,_,wa⟩:=DataW.trod_int underlying3 h;simp at e0;exact⟨a,e0,i64_bd wa⟩
theorem rd_str (h:DataW.trod enc Tryz.prog W b0 sp1 held n 9 cs=some y):∃ u:ByteArray,cs=encSv u∧u.size≤9223372036854775807:=by
 obtain⟨s,e0,_,ws⟩:=DataW.trod_string underlying9 h;exact⟨s,e0,by unfold maxLen at ws;omega⟩
theorem rd_fi (h:DataW.trod enc Tryz.prog W b0 sp1 held n 67 cs=some y):∃ u:Fi,cs=encFi u∧u.nm.size≤9223372036854775807:=by
 obtain⟨xs,m,rfl,rfl,hlen,hxl,hall⟩:=DataW.trod_struct underlying67 h;rw[cells67] at hlen
 match xs,hxl,cs,hlen with
 |[x0,x1,x2],_,[c0,c1,c2],_=>
  have f0:DataW.trod enc Tryz.prog W b0 sp1 held m 9 [c0]=some x0:=by have:=hall 0 _ rfl;simpa[cells9] using this
  have f1:DataW.trod enc Tryz.prog W b0 sp1 held m 3 [c1]=some x1:=by have:=hall 1 _ rfl;simpa[cells9,cells3] using this
  have f2:DataW.trod enc Tryz.prog W b0 sp1 held m 3 [c2]=some x2:=by have:=hall 2 _ rfl;simpa[cells9,cells3] using this
  obtain⟨s,e1,hs⟩:=rd_str f0;obtain⟨a,rfl,_⟩:=Iw f1;obtain⟨b,rfl,_⟩:=Iw f2;simp at e1;exact⟨⟨s,a,b⟩,by rw[e1],hs⟩
theorem rd_pd:∀ (N:Nat) {n:Nat} {y:DataW H × List MemPlace} {cs:List Value},Rows.uptoBulk y.1≤N→DataW.trod enc Tryz.prog W b0 sp1 held n 25 cs=some y→∃ u:Pdm,cs=encPd u∧(PdM W [] u∧NmP u)∧u.sz≤Rows.uptoBulk y.1
 |0,n,y,cs,hN,_=>by have:=Hk y.1;omega
 |N+1,n,y,cs,hN,h=>by
  obtain⟨xs,m,rfl,rfl,hlen,hxl,hall⟩:=DataW.trod_struct underlying25 h;rw[cells25] at hlen
  match xs,hxl,cs,hlen with
  |[x0,x1,x2,x3,x4],_,[c0,c1,c2,c3,c4],_=>
   have f0:DataW.trod enc Tryz.prog W b0 sp1 held m 3 [c0]=some x0:=by have:=hall 0 _ rfl;simpa[cells3] using this
   have f1:DataW.trod enc Tryz.prog W b0 sp1 held m 9 [c1]=some x1:=by have:=hall 1 _ rfl;simpa[cells3,cells9] using this
   have f2:DataW.trod enc Tryz.prog W b0 sp1 held m 3 [c2]=some x2:=by have:=hall 2 _ rfl;simpa[cells3,cells9] using this
   have f3:DataW.trod enc Tryz.prog W b0 sp1 held m 3 [c3]=some x3:=by have:=hall 3 _ rfl;simpa[cells3,cells9] using this
   have f4:DataW.trod enc Tryz.prog W b0 sp1 held m 23 [c4]=some x4:=by have:=hall 4 _ rfl;simpa[cells3,cells9,cells23] using this
   have hb:Rows.uptoBulk x4.1+4≤Rows.uptoBulk (DataW.agg (H:=H) ([x0,x1,x2,x3,x4].map (·.1))):=by
    have:=Hk x0.1;have:=Hk x1.1;have:=Hk x2.1;have:=Hk x3.1;simp only[Rows.uptoBulk,Rows.uptoBulkAll,List.map_cons,List.map_nil] at *;omega
   have hN':Rows.uptoBulk (DataW.agg (H:=H) ([x0,x1,x2,x3,x4].map (·.1)))≤N+1:=hN;obtain⟨k,rfl,_⟩:=Iw f0;obtain⟨s,e1,hs⟩:=rd_str f1;obtain⟨a,rfl,_⟩:=Iw f2;obtain⟨b,rfl,_⟩:=Iw f3;obtain⟨q,l,cap,e2,ha,hc,hl,hf,hsum⟩:=open_arr (el:=encPd) (φ:=fun u=>PdM W [] u∧NmP u) (szf:=Pdm.sz) underlying23 cells25 qom (fun n cs y hy h=>rd_pd N qom h) f4;simp at e1 e2;refine⟨.mk k s a b q cap l,by rw[e1,e2];rfl,⟨.mk ha fun a h=>(hf a h).1,fun a ha=> ?_⟩,?_⟩
   ·rw[Fj] at ha;rcases List.mem_cons.1 ha with rfl|ha
    ·exact hs
    ·obtain⟨x,hx,hax⟩:=prtPL_in ha;exact(hf x hx).2 a hax
   rw[Hh,show (Pdm.mk k s a b q cap l).subs=l from rfl,szPL_sum];exact Nat.le_trans (by omega:(l.map Pdm.sz).sum+1≤Rows.uptoBulk x4.1+4) hb
theorem Id {base:Nat}{r:_root_.Go.Reach}{v:Value}{d:DataW H}{p:List MemPlace}(hv:Value.okWide Tryz.prog W r base 25 v)(h:DataW.Trod enc Tryz.prog W b0 sp1 held 25 v d p):∃ u:Pdm,v= .agg (encPd u).toArray∧PdM W [] u∧NmP u∧u.sz≤Rows.uptoBulk d:=by
 obtain⟨cs,rfl,hsz⟩:=okWide_struct underlying25 hv;obtain⟨fuel,hf⟩:=h;obtain⟨l⟩:=cs;obtain⟨u,e,⟨h1,h2⟩,hu⟩:=rd_pd _ (Nat.le_refl _) hf;simp only[Value.cells] at e;exact⟨u,by rw[← e],h1,h2,hu⟩
theorem open_fis {base:Nat}{r:_root_.Go.Reach}{v:Value}{d:DataW H}{p:List MemPlace}(hv:Value.okWide Tryz.prog W r base 22 v)(h:DataW.Trod enc Tryz.prog W b0 sp1 held 22 v d p):∃ (q:Option Addr) (l:List Fi) (cap:Nat),v= .slice q l.length cap∧Arr W [] q 3 encFi l∧∀ f∈l,f.nm.size≤9223372036854775807:=by
 obtain⟨a0,len0,cap0,rfl⟩:=okWide_slice underlying22 hv;obtain⟨fuel,hf⟩:=h;obtain⟨q,l,cap,e,a,c,b,f,_⟩:=open_arr (el:=encFi) (φ:=fun u=>u.nm.size≤9223372036854775807) (szf:=fun _=>0) underlying22 cells67 qom (fun n cs y _ h=>by obtain⟨u,h1,h2⟩:=rd_fi h;exact⟨u,h1,h2,Nat.zero_le _⟩) hf;simp only[Value.cells,List.cons.injEq,and_true] at e;exact⟨q,l,cap,e,a,f⟩
theorem open_st {base:Nat}{r:_root_.Go.Reach}{v:Value}{d:DataW H}{p:List MemPlace}(hv:Value.okWide Tryz.prog W r base 9 v)(h:DataW.Trod enc Tryz.prog W b0 sp1 held 9 v d p):∃ s:ByteArray,v= .string s∧s.size≤9223372036854775807:=by
 obtain⟨fuel,hf⟩:=h;obtain⟨s,e,hs⟩:=rd_str hf;obtain⟨s0,rfl⟩:=okWide_string underlying9 hv;simp only[Value.cells,encSv,List.cons.injEq,and_true] at e;exact⟨s,e,hs⟩
end
end Go.Proofs.YtkojjapnfdlddaaGreat
namespace Go.Proofs.YtkojjapnfdlddaaGreat
open _root_.Go.Proofs.Tryz
open Go.ChangeShapes Go.WideShapes Go.ChangeAt Go.RowKit Go.Joins
set_option linter.unusedVariables false
set_option linter.unusedSimpArgs false
set_option linter.unusedSectionVars false
set_option maxRecDepth 100000
section
variable {H:Type} {enc:TypeId × Value→H} {W:World}
theorem laid_out:laidOutB Tryz.prog=true:=by kernel_rfl
theorem trodAll_stays:∀ {ts:List TypeId} {vs:List Value} {ds:List (DataW H)} {ps:List MemPlace} {W':World},(∀ t∈ts,Tryz.prog.readableRec t=true∧t<Tryz.prog.types.size)→DataW.TrodAll enc Tryz.prog W 0 (fun _=>true) true ts vs ds ps→Below W.heap.size W W'→(∀ x∈ps,x.block<W.heap.size)→
  DataW.TrodAll enc Tryz.prog W' 0 (fun b=>decide (b<W.heap.size)) true ts vs ds ps
 |[],_,_,_,_,_,h,_,_=>by obtain⟨rfl,rfl,rfl⟩:=trodAll_nil h;exact trodAll_mk0
 |t::ts,_,_,_,_,hr,h,hb,hlt=>by
  obtain⟨v,vs,d,ds,p,q,rfl,rfl,rfl,h0,r0⟩:=trodAll_cons h;exact trodAll_cons_mk (Below.trod laid_out (hr t (by simp)).1 (hr t (by simp)).2 h0 hb (fun x hx=>hlt x (by simp[hx]))) (trodAll_stays (fun t ht=>hr t (by simp[ht])) r0 hb (fun x hx=>hlt x (by simp[hx])))
end
theorem calls_true {f:FuncId}{args:Array Value}{W:World}(h:FSpec Tryz.prog W f args [] (Still (.bool true) [])):Calls Tryz.prog f args W fun e W'=>e= .returned (.bool true)∧Below W.heap.size W W':=
 (h W (Own.start W)).mono fun e W' ⟨v,H',he,hO,hv,_⟩=>⟨by rw[he,hv],hO.below⟩
noncomputable def laidWorld (os:Os):World:=World.holding Tryz.prog os ⟨#[],#[],[]⟩
end Go.Proofs.YtkojjapnfdlddaaGreat
