/-
  A part of what LawG rests on: the logic, walks and plain laws. No condition.
-/
import Derived.Test.YtkgfmjanajdibaaGreatJg6
import Derived.Deep.DeepHandedRow
namespace Go.Proofs.YtkgfmjanajdibaaGreat
open _root_.Go.Proofs.Tryz
open Go.RowKit
set_option linter.unusedVariables false
set_option linter.unusedSimpArgs false
set_option linter.unusedSectionVars false
set_option maxRecDepth 100000
variable {w0:World}{H:Mm}
theorem Kb2 (a0:Bool)(a1:Bool)(w:World):(Instr.build 38 #[(0, .bool a0),(2, .bool a1)]).run prog w= .ok (.agg #[.bool a0,Vi 0,Vi 0,Vi 0,Vi 0,Vi 0,Vi 0,Vi 0,Vi 0,Vi 0,Vi 0, .bool a1]) w:=by kernel_rfl
theorem Ff  (w:World):(Instr.build 38 #[]).run prog w= .ok (.agg #[.bool false,Vi 0,Vi 0,Vi 0,Vi 0,Vi 0,Vi 0,Vi 0,Vi 0,Vi 0,Vi 0, .bool false]) w:=by kernel_rfl
def FmS (fl:List Fd) (m:Pom):Prop:=FmO m/\∀ a∈prtO m,FitO fl a
theorem pols_of {fl:List Fd}(hfl:FlOk fl){m1 m2:Pom}(h1:PoM w0 H m1)(h2:PoM w0 H m2)(f1:FmS fl m1)(f2:FmS fl m2)(z1:m1.sz<=100000000)(z2:m2.sz<=100000000):PolsC w0 H [m1,m2]:=by
 refine⟨fun m hm=> ?_,fun m hm=> ?_,fun m hm=> ?_,Nat.le_refl _⟩
 all_goals
  rcases List.mem_cons.1 hm with rfl|hm
  rotate_left
  rw[List.mem_singleton.1 hm]
 ·exact h2
 ·exact h1
 ·exact ct_fmO hfl f2.1 f2.2
 ·exact ct_fmO hfl f1.1 f1.2
 ·exact z2
 ·exact z1
theorem ask_corners {fl:List Fd}(hfl:FlOk fl){m1 m2:Pom}{p q:Po}(i1:IsO fl m1 p)(i2:IsO fl m2 q)(f1:p.Fit (bsF fl))(f2:q.Fit (bsF fl))(s1:FmS fl m1)(s2:FmS fl m2){t:Int}{k:Nat}{h:Hd}{is:Bool}(a:LeastOf (AskP t k p q) (cornF (cutsL [m1,m2]) (portFd::fl) [hd0]) h is):Ans (AskP t k p q) h is:=by
 have hF:=Ma hfl;have hC:=cutsL_ok (portFd::fl) [m1,m2];have hp:=Ln (fl:=fl) [m1,m2] (by simp) i1 f1 s1.2;have hq:=Ln (fl:=fl) [m1,m2] (by simp) i2 f2 s2.2;refine least_ans (corn_ok _ _ fun x hx=>by rw[List.mem_singleton.1 hx];exact Ay) (fun g hg=> ?_) a;obtain⟨x,hx,ox,s,o,_⟩:=corn_box (K:=fun f c=>(c:Int)∈rawL [m1,m2] f) hF.ok hF.pw hC.z (fun f hf c hc hl=>(hC.c f hf c hl).2 (.inr hc)) hg;exact⟨x,hx,fun a=>ask_box hF.fs hp hq k s.symm ox hg a,o⟩
theorem take_h {l:List Hd}{k:Nat}(hk:k<l.length):l.take (k+1)=l.take k++[gd l k]:=by rw[List.take_succ_eq_append_getElem hk,<- Ar hk]
theorem take_ok {l:List Hd}{k:Nat}(h:∀ x∈l,HdOk x):∀ x∈l.take k,HdOk x:=fun x hx=>h x (List.mem_of_mem_take hx)
abbrev AnsR (Φ:Hd->Bool->Prop) (H:Mm):Value->Mm->Prop:=fun u H'=>∃ (kn:Bool) (h:Hd) (is:Bool),(u= .agg (ansC kn h is).toArray/\HdOk h/\(kn=true->Φ h is))/\H.Sublist H'
theorem Jr {fl:List Fd}(hfl:FlOk fl)(q:Option Addr)(c:Nat)(hA:Arr w0 H q 3 encF fl)(k:Nat){m1:Pom}{p1:Po}(hI1:IsO fl m1 p1)(hF1:p1.Fit (bsF fl))(hS1:FmS fl m1)(hM1:PoM w0 H m1)(hz1:m1.sz<=100000000){m2:Pom}{p2:Po}(hI2:IsO fl m2 p2)(hF2:p2.Fit (bsF fl))(hS2:FmS fl m2)(hM2:PoM w0 H m2)(hz2:m2.sz<=100000000)(tick:Int):
  FSpec prog w0 16 #[.slice q fl.length c,Vi (k:Nat), .agg (encPo m1).toArray, .agg (encPo m2).toArray,Vi tick] H (AnsR (Ans (AskP tick k p1 p2)) H):=by
 refine Am func16 U ntmps16 U (rDt 2 U (e_ (Ot U cs_) ?_ U));rintro _ _ ⟨n7,rfl,rfl⟩;refine e_ (Ot U cs_) ?_ U;rintro _ _ ⟨n8,rfl,rfl⟩;refine e_ (Ag zeroValue38 cs_) ?_ U;rintro _ _ ⟨n10,rfl,rfl⟩;refine rOt 5 U ?_;refine y_ (On U isAgg28 sizeOf28 U (by exact Ae fndq)) ?_ U;refine y_ (On U isAgg28 sizeOf28 U (by exact Ae fndq)) ?_ U;refine e_ (Bb (.cons (T U) (.cons (T U) .nil)) (Gg _ _ _ _ _ _ _ _ _ _ _ _ _ _ _ _ _ _ _ _ _ _ _ _ _ _)) ?_ U;rintro _ _ ⟨n22,rfl,rfl⟩;refine e_ (Ah (evq2 U U) call50 (corners_s hfl q c (hA.mono sbt) (portFd::fl) U [m1,m2] (some ⟨n22,0,none⟩) 2 (Ei (l:=[m1,m2]) pos9 fnd_h) (pols_of hfl (hM1.mono sbt) (hM2.mono sbt) hS1 hS2 hz1 hz2))) ?_ U;rintro _ M1 ⟨lc,qc,cc,rfl,hC1,hc1,hc5,hs1⟩;refine rOt 6 U ?_;refine y_ (On U isAgg28 sizeOf28 U (by exact Ae (Fnd.mono (fndq:Fnd ((n22,Cl (encPo m1++encPo m2) 28)::(n10,Cl (ansC false hd0 false) 38)::(n8,Cl (encPo m2) 28)::(n7,Cl (encPo m1) 28)::H) n7 (Cl (encPo m1) 28)) hs1))) ?_ U;refine rOt 2 U (e_ (Ah (evq4 U U U U) call51 (Kq hfl q c (hA.mono ((show H.Sublist ((n22,Cl (encPo m1++encPo m2) 28)::(n10,Cl (ansC false hd0 false) 38)::(n8,Cl (encPo m2) 28)::(n7,Cl (encPo m1) 28)::H) by exact sbt).trans hs1)) tick hI1 hF1 (hM1.mono ((show H.Sublist ((n22,Cl (encPo m1++encPo m2) 28)::(n10,Cl (ansC false hd0 false) 38)::(n8,Cl (encPo m2) 28)::(n7,Cl (encPo m1) 28)::H) by exact sbt).trans hs1)) hz1 lc qc cc hC1 hc5)) ?_ U);rintro _ M2 ⟨L1,q1,c1,b1,⟨rfl,hG1⟩,hs2⟩;refine rOt 10 U ?_;refine y_ (On U isAgg28 sizeOf28 U (by exact Ae (Fnd.mono (fndq:Fnd ((n22,Cl (encPo m1++encPo m2) 28)::(n10,Cl (ansC false hd0 false) 38)::(n8,Cl (encPo m2) 28)::(n7,Cl (encPo m1) 28)::H) n8 (Cl (encPo m2) 28)) (hs1.trans hs2)))) ?_ U;refine rOt 2 U (e_ (Ah (evq4 U U U U) call51 (Kq hfl q c (hA.mono ((show H.Sublist ((n22,Cl (encPo m1++encPo m2) 28)::(n10,Cl (ansC false hd0 false) 38)::(n8,Cl (encPo m2) 28)::(n7,Cl (encPo m1) 28)::H) by exact sbt).trans (hs1.trans hs2))) tick hI2 hF2 (hM2.mono ((show H.Sublist ((n22,Cl (encPo m1++encPo m2) 28)::(n10,Cl (ansC false hd0 false) 38)::(n8,Cl (encPo m2) 28)::(n7,Cl (encPo m1) 28)::H) by exact sbt).trans (hs1.trans hs2))) hz2 lc qc cc (hC1.mono hs2) hc5)) ?_ U);rintro _ M3 ⟨L2,q2,c2,b2,⟨rfl,hG2⟩,hs3⟩;have hG1:=fun e=>(hG1 e).mono hs3
 have hC3:=hC1.mono (hs2.trans hs3);obtain⟨A9,B9,rfl,hAB⟩:=mid_sub (A:=[(n22,Cl (encPo m1++encPo m2) 28)]) (show ([(n22,Cl (encPo m1++encPo m2) 28)]++((n10,Cl (ansC false hd0 false) 38)::(n8,Cl (encPo m2) 28)::(n7,Cl (encPo m1) 28)::H)).Sublist M3 from hs1.trans (hs2.trans hs3));have hHAB:H.Sublist (A9++B9):=(show H.Sublist ([(n22,Cl (encPo m1++encPo m2) 28)]++((n8,Cl (encPo m2) 28)::(n7,Cl (encPo m1) 28)::H)) by exact sbt).trans hAB;refine rOt 14 U ?_;refine Aq (s:=43) (Aa U) (fun c43=> ?_) (fun c43=> ?_)
 ·skip
  refine kO tb 9 [1,10,11,12,14,50] rfl U (rGt 3 U (y_ (A1 .nil (Ff)) (e_ (Oq U U sizeOf38 .agg (B4 false hd0 false) (A3 Ay) updq qrf) ?_ U) U));rintro _ _ ⟨rfl,rfl⟩;refine rOt 4 U (Ai U (.cellA (Aa U) isAgg38 sizeOf38 (A3 Ay) qcs .nil) ?_);exact⟨_,⟨false,hd0,false,⟨rfl,Ay,fun h=>(Bool.false_ne_true h).elim⟩,hHAB.trans ((List.Sublist.refl A9).append (List.sublist_cons_self _ _))⟩,sbt⟩
 ·have hl0: ¬ lc.length=0:=by have h9: ¬ ((lc.length:Nat):Int)=0:=c43;omega
  refine rOt 1 U ?_
  first|refine A6 (Bt (T U)) U (A7 U U (Aa U)) ?_|refine A6 (Bq (T U)) U (A7 U U (Aa U)) ?_
  refine rOt 2 U ?_
  first|refine Aq (s:=47) (Aa U) (fun c47=> ?_) (fun c47=> ?_)|refine C0 (s:=47) (Aa U) (fun c47=> ?_) (fun c47=> ?_)
  ·skip
   refine kO tb 5 [1,10,11,12,14,50] rfl U (rGt 3 U (y_ (A1 .nil (Ff)) (e_ (Oq U U sizeOf38 .agg (B4 false hd0 false) (A3 Ay) updq qrf) ?_ U) U));rintro _ _ ⟨rfl,rfl⟩;refine rOt 4 U (Ai U (.cellA (Aa U) isAgg38 sizeOf38 (A3 Ay) qcs .nil) ?_);exact⟨_,⟨false,hd0,false,⟨rfl,Ay,fun h=>(Bool.false_ne_true h).elim⟩,hHAB.trans ((List.Sublist.refl A9).append (List.sublist_cons_self _ _))⟩,sbt⟩
  ·have hg1:=hG1 (by simpa using c47);refine rOt 1 U ?_
   first|refine A6 (Bt (T U)) U (A7 U U (Aa U)) ?_|refine A6 (Bq (T U)) U (A7 U U (Aa U)) ?_
   refine kO tb 3 [1,10,11,12,14,50] rfl U ?_
   first|refine jcd U (fun c50=> ?_) (fun c50=> ?_)|refine jcn U (fun c50=> ?_) (fun c50=> ?_)
   ·skip
    refine rCt 2 U (y_ (A1 .nil (Ff)) (e_ (Oq U U sizeOf38 .agg (B4 false hd0 false) (A3 Ay) updq qrf) ?_ U) U);rintro _ _ ⟨rfl,rfl⟩;refine rOt 4 U (Ai U (.cellA (Aa U) isAgg38 sizeOf38 (A3 Ay) qcs .nil) ?_);exact⟨_,⟨false,hd0,false,⟨rfl,Ay,fun h=>(Bool.false_ne_true h).elim⟩,hHAB.trans ((List.Sublist.refl A9).append (List.sublist_cons_self _ _))⟩,sbt⟩
   ·have hg2:=hG2 (by simpa using c50);have hcn:=hc1.resolve_left (fun e=>hl0 (by rw[e];rfl));refine rCt 4 U (y_ (A1 (.cons Al (.cons Al .nil)) (Kb2 _ _)) (e_ (Ag zeroValue38 cs_) ?_ U) U);rintro _ _ ⟨n16,rfl,rfl⟩;refine e_ (Oq U U sizeOf38 .agg (B4 true hd0 true) (A3 Ay) updq qrf) ?_ U;rintro _ _ ⟨rfl,rfl⟩;refine rOt 9 U ?_;refine A8 (X:=Nat × Hd × Bool) (V:=fun ⟨i,h,is⟩=>[(17,Vi (i:Nat))]) (C:=[(1,_),(10,_),(11,_),(12,_),(14,_),(16,_)]) (G:=fun ⟨i,h,is⟩=>(n16,Cl (ansC true h is) 38)::(A9++((n10,Cl (ansC false hd0 false) 38)::B9))) (φ:=fun ⟨i,h,is⟩=>i<=lc.length/\HdOk h/\LeastOf (AskP tick k p1 p2) (lc.take i) h is) (μ:=fun ⟨i,h,is⟩=>lc.length - i) (x0:=(0,hd0,true)) ?_ (kg U) qkg (by exact List.Sublist.refl _) ?_
    ·exact⟨Nat.zero_le _,Ay,lsf_nil⟩
    rintro⟨i,h,is⟩ ⟨hi,hh,hLs⟩;refine rDt 9 U ?_;refine jcd U (fun c56=> ?_) (fun c56=> ?_)
    ·have hi2:i<lc.length:=Int.ofNat_lt.1 c56;have hi3:i<L1.length:=by rw[hg1.len];exact hi2
     have hi4:i<L2.length:=by rw[hg2.len];exact hi2
     refine rCt 5 U (Bf 9 (plq9 []) _ mixd qkr sb0 ?_ Bh);refine rPt 3 U (o_y U (Oo U U runUnderlying79 sizeOf58 qom (by first|exact rfl|exact hg1.arr.b (i:=i) hi3)) ?_ U Ad);refine o_y U (Om U isAgg58 (by first|exact c_o|exact(hg1.arr.mono (List.sublist_cons_self _ _)).f0 (i:=i) hi3 U)) ?_ U Ad;refine rPt 2 U (o_y U (Oo U U runUnderlying79 sizeOf58 qom (by first|exact rfl|exact hg1.arr.b (i:=i) hi3|exact hg2.arr.b (i:=i) hi4)) ?_ U Ad);refine o_y U (Om U isAgg58 (by first|exact c_o|exact(hg2.arr.mono (List.sublist_cons_self _ _)).f0 (i:=i) hi4 U)) ?_ U Ad;refine Av U (e_ (Ah (evq3 U U U) call52 (rholds0_s k (gd L1 i).l (gd L2 i).l (gd L1 i).q (gd L2 i).q (gd L1 i).c (gd L2 i).c ((hg1.set i hi2).1.mono (List.sublist_cons_self _ _)) ((hg2.set i hi2).1.mono (List.sublist_cons_self _ _)) (hg1.set i hi2).2.1 (hg2.set i hi2).2.1 (hg1.set i hi2).2.2.2 (hg2.set i hi2).2.2.2)) ?_ U);rintro _ _ ⟨b,⟨rfl,hb⟩,rfl⟩;have hb9:=hb.trans (hold_ask (hg1.set i hi2).2.1 (hg2.set i hi2).2.1 (hg1.set i hi2).2.2.1 (hg2.set i hi2).2.2.1);refine rOt 6 U ?_
     first|refine A6 (Bt (T U)) U Ad ?_|refine A6 (Bq (T U)) U Ad ?_
     refine rOt 2 U ?_
     first|refine jcd U (fun c70=> ?_) (fun c70=> ?_)|refine jcn U (fun c70=> ?_) (fun c70=> ?_)
     ·have hbn: ¬ AskP tick k p1 p2 (gd lc i):=fun e=>by have h9:=hb9.2 e;rw[h9] at c70;simp at c70
      have hlo:=K1 (is:=is) hh (hC3.ok hi2);refine Bf 6 (plq6 []) _ mixd qkr sb0 ?_ Bh;refine o_y U (On U isAgg38 sizeOf38 (A3 hh) (by exact Ae fndq)) ?_ U Ad;refine rPt 2 U (o_y U (Oo U U runUnderlying58 sizeOf32 qom (by first|exact rfl|exact hg1.arr.b (i:=i) hi3|exact hg2.arr.b (i:=i) hi4|exact hC3.1.b (i:=i) hi2)) ?_ U Ad);refine o_y U (On U isAgg32 sizeOf32 (Af (hC3.ok hi2)) (by exact((hC3.mono (List.sublist_cons_self _ _)).hd).cs (i:=i) hi2)) ?_ U Ad;refine o_y U (Ao (evq2 U U) call53 (fun H' hs=>rles_s true h hh is (gd lc i) (hC3.ok hi2))) (Av U (e_ (Oq U U sizeOf38 .agg (B4 _ _ _) (A3 hlo) updq (by rw[A3 hlo];rw[A3 hh])) ?_ U)) U Ad;rintro _ _ ⟨rfl,rfl⟩;refine kO tb 3 [1,10,11,12,14,16,17] rfl U (rGt 2 U (y_ (Aw (T U) Al qom) ?_ U));refine rOt 2 U ?_;refine Au ((i+1,lesH h is (gd lc i),lesI h is (gd lc i))) ?_ ?_ qkg (kg U) ?_
      ·exact⟨hi2,hlo,by rw[take_h hi2];exact lsf_no (take_ok hC3.2.1) (hC3.ok hi2) hLs hbn⟩
      ·first|omega|(simp only[];omega)
      ·exact sb0
     ·have hby:AskP tick k p1 p2 (gd lc i):=hb9.1 (by simpa using c70);refine rCt 5 U (y_ (Aw (T U) Al qom) ?_ U);refine rOt 2 U ?_;refine Au ((i+1,h,is)) ?_ ?_ qkg (kg U) ?_
      ·exact⟨hi2,hh,by rw[take_h hi2];exact lsf_yes hLs hby⟩
      ·first|omega|(simp only[];omega)
      ·exact sb0
    ·obtain rfl:i=lc.length:=by have h9: ¬ ((i:Nat):Int)<(lc.length:Nat):=c56;omega
     rw[List.take_length] at hLs;refine rCt 2 U (An (rXt 4 U ?_));refine y_ (On U isAgg38 sizeOf38 (A3 hh) (by exact Ae fndq)) ?_ U;refine e_ (Oq U U sizeOf38 .agg (B4 _ _ _) (A3 hh) updq (by rw[A3 hh];rw[A3 Ay])) ?_ U;rintro _ _ ⟨rfl,rfl⟩;refine rOt 3 U (Ai U (.cellA (Aa U) isAgg38 sizeOf38 (A3 hh) qcs .nil) ?_)
     first|exact⟨_,⟨false,hd0,false,⟨rfl,Ay,fun h=>(Bool.false_ne_true h).elim⟩,hHAB.trans ((List.Sublist.refl A9).append (List.sublist_cons_self _ _))⟩,sbt⟩|exact⟨_,⟨true,h,is,⟨rfl,hh,fun _=>ask_corners hfl hI1 hI2 hF1 hF2 hS1 hS2 (hcn ▸ hLs)⟩,hHAB.trans ((List.Sublist.refl A9).append (List.sublist_cons_self _ _))⟩,sbt⟩
abbrev AnsE (Φ:Hd->Bool->Prop) (H:Mm):Value->Mm->Prop:=fun u H'=>∃ (kn:Bool) (h:Hd) (is:Bool),(u= .agg (ansC kn h is).toArray/\HdOk h/\(kn=true->Φ h is))/\H'=H
theorem Mb {f:FuncId}{args:Array Value}{Φ:Hd->Bool->Prop}(h:FSpec prog w0 f args H (AnsR Φ H)):FSpec prog w0 f args H (AnsE Φ H):=fun w hO=>
 (h w hO).mono fun e w' ⟨v,H',he,hO',kn,x,b,k,hs⟩=>⟨v,H,he,hO'.sub hs,kn,x,b,k,rfl⟩
theorem I8 {fl:List Fd}{k:Int}{b:Nat}{m1 m2:Pom}(hk:k=3\/k=4)(h1:FmS fl m1)(h2:FmS fl m2):FmS fl (mOp2 k b m1 m2):=by
 have hs:(mOp2 k b m1 m2).subs=[m1,m2]:=rfl;have hkk:(mOp2 k b m1 m2).kind=k:=rfl;refine⟨.mk ?_ fun a ha=> ?_,fun a ha=> ?_⟩
 ·rw[hs];exact .inr (.inl ⟨rfl,hk⟩)
 ·rw[hs] at ha;rcases List.mem_cons.1 ha with rfl|ha
  ·exact h1.1
  ·rw[List.mem_singleton.1 ha];exact h2.1
 ·rw[De,hs] at ha;rcases List.mem_cons.1 ha with rfl|ha
  ·refine⟨fun e=> ?_,fun e=> ?_⟩
   ·rw[hkk] at e;omega
   ·rw[hkk] at e;omega
  ·have e:prtOL [m1,m2]=prtO m1++prtO m2:=by simp[prtOL]
   rw[e] at ha;rcases List.mem_append.1 ha with ha|ha
   ·exact h1.2 a ha
   ·exact h2.2 a ha
theorem ans_both {P Q:Hd->Prop}{h g:Hd}{i:Bool}(a:Ans P h i)(b:Ans Q g false):Ans (fun x=>P x/\Q x) (lesH h i g) (lesI h i g):=by
 obtain⟨b1,b2,b3⟩:=b.false;cases i with
 |true=>
  have e:lesB h true g=true:=by simp[lesB]
  rw[show lesH h true g=g from if_pos e,show lesI h true g=false from if_pos e];exact .inr ⟨rfl,b1,fun k=>b2 k.2,fun x hx hl=>⟨a.true x hx,b3 x hx hl⟩⟩
 |false=>
  obtain⟨a1,a2,a3⟩:=a.false
  by_cases c:cmpL g h<0
  ·have hl:=(Ex b1 a1).1 c;have e:lesB h false g=true:=by simp[lesB,c]
   rw[show lesH h false g=g from if_pos e,show lesI h false g=false from if_pos e];exact .inr ⟨rfl,b1,fun k=>b2 k.2,fun x hx k=>⟨a3 x hx (k.trans hl),b3 x hx k⟩⟩
  ·have e: ¬ lesB h false g=true:=by simp[lesB,c]
   rw[show lesH h false g=h from if_neg e,show lesI h false g=false from if_neg e];refine .inr ⟨rfl,a1,fun k=>a2 k.1,fun x hx k=>⟨a3 x hx k,b3 x hx ?_⟩⟩;rcases H8 a1 b1 with l|l|l
   ·exact k.trans l
   ·rw[<- l];exact k
   ·exact absurd ((Ex b1 a1).2 l) c
theorem slc_of {t:Int}{p q r s:Po}{h g:Hd}{i:Bool}(a:Ans (AskP t 3 (.seq p q) r) h i)(b:Ans (AskP t 3 (.seq q p) s) g false):Ans (SlcP t p q) (lesH h i g) (lesI h i g):=(ans_both a b).iff fun x _=>Iff.rfl
theorem slc_a {t:Int}{p q r s:Po}{h g:Hd}{i:Bool}(a:Ans (AskP t 3 (.seq p q) r) h i)(b:Ans (AskP t 3 (.seq q p) s) g true):Ans (SlcP t p q) h i:=a.iff fun x hx=>⟨fun k=>⟨k,b.true x hx⟩,fun k=>k.1⟩
theorem rslc_s {fl:List Fd}(hfl:FlOk fl)(q:Option Addr)(c:Nat)(hA:Arr w0 H q 3 encF fl){m1:Pom}{p1:Po}(hI1:IsO fl m1 p1)(hF1:p1.Fit (bsF fl))(hS1:FmS fl m1)(hM1:PoM w0 H m1)(hz1:m1.sz<=10000000){m2:Pom}{p2:Po}(hI2:IsO fl m2 p2)(hF2:p2.Fit (bsF fl))(hS2:FmS fl m2)(hM2:PoM w0 H m2)(hz2:m2.sz<=10000000)(tick:Int):
  FSpec prog w0 24 #[.slice q fl.length c, .agg (encPo m1).toArray, .agg (encPo m2).toArray,Vi tick] H (AnsE (Ans (SlcP tick p1 p2)) H):=by
 refine Am func24 U ntmps24 U (rDt 2 U (e_ (Ot U cs_) ?_ U));rintro _ _ ⟨n5,rfl,rfl⟩;refine e_ (Ot U cs_) ?_ U;rintro _ _ ⟨n6,rfl,rfl⟩;refine e_ (Ag zeroValue38 cs_) ?_ U;rintro _ _ ⟨n8,rfl,rfl⟩;refine rOt 2 U ?_;refine Em (X:=Bool × Hd × Bool × Nat) (V:=fun ⟨kn1,x1,b1,n9⟩=>[(9,Pt n9 0)]) (C:=[(0,_),(3,_),(5,_),(6,_),(8,_)]) (G:=fun ⟨kn1,x1,b1,n9⟩=>(n9,Cl (ansC kn1 x1 b1) 38)::((n8,Cl (ansC false hd0 false) 38)::(n6,Cl (encPo m2) 28)::(n5,Cl (encPo m1) 28)::H)) (φ:=fun ⟨kn1,x1,b1,n9⟩=>HdOk x1/\(kn1=true->Ans (AskP tick 3 (.seq p1 p2) p1) x1 b1)) (kg U) ?_ ?_
 ·refine rDt 0 U (Ib 8 _ mixd qkr sb0 ?_ Bh);refine x_y (i:=0) U qkr (B6 (T U)) ?_ U Ad;refine x_y (i:=1) U qkr (On U isAgg28 sizeOf28 U (by exact Ae fndq)) ?_ U Ad;refine x_y (i:=2) U qkr (On U isAgg28 sizeOf28 U (by exact Ae fndq)) ?_ U Ad;refine x_y (i:=4) U qkr (On U isAgg28 sizeOf28 U (by exact Ae fndq)) ?_ U Ad;refine x_y (i:=5) U qkr (B6 (T U)) ?_ U Ad;refine Fu (i:=3) (j:=7) qkr qkr ?_ ?_
  ·refine B5 U (Ah (evq2 U U) call33 (Hy m1 m2)) ?_ U Ad;rintro _ _ ⟨n14,rfl,rfl⟩;refine⟨sbt,?_⟩;refine Fu (i:=6) (j:=7) qkr qkr ?_ ?_
   ·refine B5 U (Ah (.cons (T U) (.cons Al (.cons (T U) (.cons (T U) (.cons (T U) .nil))))) call16 (Mb (Jr hfl q c (hA.mono sbt) 3 (m1:=mOp2 4 n14 m1 m2) (.seq U U hI1 hI2) ⟨hF1,hF2⟩ (I8 (.inr U) hS1 hS2) (C4 fndq (hM1.mono sbt) (hM2.mono sbt)) (by rw[K3];omega) hI1 hF1 hS1 (hM1.mono sbt) qom tick))) ?_ U Ad;rintro _ _ ⟨kn1,x1,b1,⟨rfl,ox1,kk1⟩,rfl⟩;refine⟨sbt,(Ca (i:=7) qkr qkr ?_)⟩;refine B5 U (Ag zeroValue38 cs_) ?_ U Ad;rintro _ _ ⟨n9,rfl,rfl⟩;refine⟨sbt,(Dr qkr U ?_)⟩;refine e_ (Oq U U sizeOf38 .agg (B4 _ _ _) (A3 ox1) updq (by rw[A3 ox1];rfl)) ?_ U;rintro _ _ ⟨rfl,rfl⟩;refine rOt 1 U ?_;refine Be ((kn1,x1,b1,n9)) ?_ qkg (kg U) sbt;exact⟨ox1,kk1⟩
   ·refine B5 U (Ag zeroValue38 cs_) ?_ U Ad;rintro _ _ ⟨n9,rfl,rfl⟩;refine⟨sbt,(Ca (i:=6) qkr qkr ?_)⟩;refine B5 U (Ah (.cons (T U) (.cons Al (.cons (T U) (.cons (T U) (.cons (T U) .nil))))) call16 (Mb (Jr hfl q c (hA.mono sbt) 3 (m1:=mOp2 4 n14 m1 m2) (.seq U U hI1 hI2) ⟨hF1,hF2⟩ (I8 (.inr U) hS1 hS2) (C4 fndq (hM1.mono sbt) (hM2.mono sbt)) (by rw[K3];omega) hI1 hF1 hS1 (hM1.mono sbt) qom tick))) ?_ U Ad;rintro _ _ ⟨kn1,x1,b1,⟨rfl,ox1,kk1⟩,rfl⟩;refine⟨sbt,(Dr qkr U ?_)⟩;refine e_ (Oq U U sizeOf38 .agg (B4 _ _ _) (A3 ox1) updq (by rw[A3 ox1];rfl)) ?_ U;rintro _ _ ⟨rfl,rfl⟩;refine rOt 1 U ?_;refine Be ((kn1,x1,b1,n9)) ?_ qkg (kg U) sbt;exact⟨ox1,kk1⟩
  ·refine B5 U (Ag zeroValue38 cs_) ?_ U Ad;rintro _ _ ⟨n9,rfl,rfl⟩;refine⟨sbt,(Ca (i:=3) qkr qkr ?_)⟩;refine B5 U (Ah (evq2 U U) call33 (Hy m1 m2)) ?_ U Ad;rintro _ _ ⟨n14,rfl,rfl⟩;refine⟨sbt,(Ca (i:=6) qkr qkr ?_)⟩;refine B5 U (Ah (.cons (T U) (.cons Al (.cons (T U) (.cons (T U) (.cons (T U) .nil))))) call16 (Mb (Jr hfl q c (hA.mono sbt) 3 (m1:=mOp2 4 n14 m1 m2) (.seq U U hI1 hI2) ⟨hF1,hF2⟩ (I8 (.inr U) hS1 hS2) (C4 fndq (hM1.mono sbt) (hM2.mono sbt)) (by rw[K3];omega) hI1 hF1 hS1 (hM1.mono sbt) qom tick))) ?_ U Ad;rintro _ _ ⟨kn1,x1,b1,⟨rfl,ox1,kk1⟩,rfl⟩;refine⟨sbt,(Dr qkr U ?_)⟩;refine e_ (Oq U U sizeOf38 .agg (B4 _ _ _) (A3 ox1) updq (by rw[A3 ox1];rfl)) ?_ U;rintro _ _ ⟨rfl,rfl⟩;refine rOt 1 U ?_;refine Be ((kn1,x1,b1,n9)) ?_ qkg (kg U) sbt;exact⟨ox1,kk1⟩
 rintro⟨kn1,x1,b1,n9⟩ ⟨ox1,kk1⟩;refine Em (X:=Bool × Hd × Bool × Nat) (V:=fun ⟨kn2,x2,b2,n10⟩=>[(10,Pt n10 0)]) (C:=[(8,_),(9,_)]) (G:=fun ⟨kn2,x2,b2,n10⟩=>(n10,Cl (ansC kn2 x2 b2) 38)::(n9,Cl (ansC kn1 x1 b1) 38)::((n8,Cl (ansC false hd0 false) 38)::(n6,Cl (encPo m2) 28)::(n5,Cl (encPo m1) 28)::H)) (φ:=fun ⟨kn2,x2,b2,n10⟩=>HdOk x2/\(kn2=true->Ans (AskP tick 3 (.seq p2 p1) p1) x2 b2)) (kg U) ?_ ?_
 ·refine rDt 0 U (Ib 8 _ mixd qkr sb0 ?_ Bh);refine x_y (i:=0) U qkr (B6 (T U)) ?_ U Ad;refine x_y (i:=1) U qkr (On U isAgg28 sizeOf28 U (by exact Ae fndq)) ?_ U Ad;refine x_y (i:=2) U qkr (On U isAgg28 sizeOf28 U (by exact Ae fndq)) ?_ U Ad;refine x_y (i:=4) U qkr (On U isAgg28 sizeOf28 U (by exact Ae fndq)) ?_ U Ad;refine x_y (i:=5) U qkr (B6 (T U)) ?_ U Ad;refine Fu (i:=3) (j:=7) qkr qkr ?_ ?_
  ·refine B5 U (Ah (evq2 U U) call33 (Hy m2 m1)) ?_ U Ad;rintro _ _ ⟨n21,rfl,rfl⟩;refine⟨sbt,?_⟩;refine Fu (i:=6) (j:=7) qkr qkr ?_ ?_
   ·refine B5 U (Ah (.cons (T U) (.cons Al (.cons (T U) (.cons (T U) (.cons (T U) .nil))))) call16 (Mb (Jr hfl q c (hA.mono sbt) 3 (m1:=mOp2 4 n21 m2 m1) (.seq U U hI2 hI1) ⟨hF2,hF1⟩ (I8 (.inr U) hS2 hS1) (C4 fndq (hM2.mono sbt) (hM1.mono sbt)) (by rw[K3];omega) hI1 hF1 hS1 (hM1.mono sbt) qom tick))) ?_ U Ad;rintro _ _ ⟨kn2,x2,b2,⟨rfl,ox2,kk2⟩,rfl⟩;refine⟨sbt,(Ca (i:=7) qkr qkr ?_)⟩;refine B5 U (Ag zeroValue38 cs_) ?_ U Ad;rintro _ _ ⟨n10,rfl,rfl⟩;refine⟨sbt,(Dr qkr U ?_)⟩;refine e_ (Oq U U sizeOf38 .agg (B4 _ _ _) (A3 ox2) updq (by rw[A3 ox2];rfl)) ?_ U;rintro _ _ ⟨rfl,rfl⟩;refine rOt 1 U ?_;refine Be ((kn2,x2,b2,n10)) ?_ qkg (kg U) sbt;exact⟨ox2,kk2⟩
   ·refine B5 U (Ag zeroValue38 cs_) ?_ U Ad;rintro _ _ ⟨n10,rfl,rfl⟩;refine⟨sbt,(Ca (i:=6) qkr qkr ?_)⟩;refine B5 U (Ah (.cons (T U) (.cons Al (.cons (T U) (.cons (T U) (.cons (T U) .nil))))) call16 (Mb (Jr hfl q c (hA.mono sbt) 3 (m1:=mOp2 4 n21 m2 m1) (.seq U U hI2 hI1) ⟨hF2,hF1⟩ (I8 (.inr U) hS2 hS1) (C4 fndq (hM2.mono sbt) (hM1.mono sbt)) (by rw[K3];omega) hI1 hF1 hS1 (hM1.mono sbt) qom tick))) ?_ U Ad;rintro _ _ ⟨kn2,x2,b2,⟨rfl,ox2,kk2⟩,rfl⟩;refine⟨sbt,(Dr qkr U ?_)⟩;refine e_ (Oq U U sizeOf38 .agg (B4 _ _ _) (A3 ox2) updq (by rw[A3 ox2];rfl)) ?_ U;rintro _ _ ⟨rfl,rfl⟩;refine rOt 1 U ?_;refine Be ((kn2,x2,b2,n10)) ?_ qkg (kg U) sbt;exact⟨ox2,kk2⟩
  ·refine B5 U (Ag zeroValue38 cs_) ?_ U Ad;rintro _ _ ⟨n10,rfl,rfl⟩;refine⟨sbt,(Ca (i:=3) qkr qkr ?_)⟩;refine B5 U (Ah (evq2 U U) call33 (Hy m2 m1)) ?_ U Ad;rintro _ _ ⟨n21,rfl,rfl⟩;refine⟨sbt,(Ca (i:=6) qkr qkr ?_)⟩;refine B5 U (Ah (.cons (T U) (.cons Al (.cons (T U) (.cons (T U) (.cons (T U) .nil))))) call16 (Mb (Jr hfl q c (hA.mono sbt) 3 (m1:=mOp2 4 n21 m2 m1) (.seq U U hI2 hI1) ⟨hF2,hF1⟩ (I8 (.inr U) hS2 hS1) (C4 fndq (hM2.mono sbt) (hM1.mono sbt)) (by rw[K3];omega) hI1 hF1 hS1 (hM1.mono sbt) qom tick))) ?_ U Ad;rintro _ _ ⟨kn2,x2,b2,⟨rfl,ox2,kk2⟩,rfl⟩;refine⟨sbt,(Dr qkr U ?_)⟩;refine e_ (Oq U U sizeOf38 .agg (B4 _ _ _) (A3 ox2) updq (by rw[A3 ox2];rfl)) ?_ U;rintro _ _ ⟨rfl,rfl⟩;refine rOt 1 U ?_;refine Be ((kn2,x2,b2,n10)) ?_ qkg (kg U) sbt;exact⟨ox2,kk2⟩
 rintro⟨kn2,x2,b2,n10⟩ ⟨ox2,kk2⟩;refine rCt 4 U ?_;refine y_ (Om U isAgg4 qco) ?_ U
 first|refine A6 (Bt (T U)) U Ad ?_|refine A6 (Bq (T U)) U Ad ?_
 refine rOt 1 U ?_
 first|refine Aq (s:=28) (Aa U) (fun c28=> ?_) (fun c28=> ?_)|refine C0 (s:=28) (Aa U) (fun c28=> ?_) (fun c28=> ?_)
 ·skip
  refine rOt 9 U (y_ (A1 .nil (Ff)) (e_ (Oq U U sizeOf38 .agg (B4 false hd0 false) (A3 Ay) updq qrf) ?_ U) U);rintro _ _ ⟨rfl,rfl⟩;refine rOt 4 U (Ai U (.cellA (Aa U) isAgg38 sizeOf38 (A3 Ay) qcs .nil) ?_);exact⟨_,⟨false,hd0,false,⟨rfl,Ay,fun h=>(Bool.false_ne_true h).elim⟩,rfl⟩,sbt⟩
 ·have kA:=kk1 (by simpa using c28);refine rOt 1 U ?_;refine A6 (Om U isAgg4 qco) U (A7 U U (Aa U)) ?_
  first|refine A6 (Bt (T U)) U (A7 U U (Aa U)) ?_|refine A6 (Bq (T U)) U (A7 U U (Aa U)) ?_
  refine rOt 3 U ?_
  first|refine jcd U (fun c32=> ?_) (fun c32=> ?_)|refine jcn U (fun c32=> ?_) (fun c32=> ?_)
  ·skip
   refine rCt 2 U (y_ (A1 .nil (Ff)) (e_ (Oq U U sizeOf38 .agg (B4 false hd0 false) (A3 Ay) updq qrf) ?_ U) U);rintro _ _ ⟨rfl,rfl⟩;refine rOt 4 U (Ai U (.cellA (Aa U) isAgg38 sizeOf38 (A3 Ay) qcs .nil) ?_);exact⟨_,⟨false,hd0,false,⟨rfl,Ay,fun h=>(Bool.false_ne_true h).elim⟩,rfl⟩,sbt⟩
  ·have kB:=kk2 (by simpa using c32);refine rCt 6 U ?_;refine y_ (Om U isAgg4 (by first|exact c_o|exact ans_is ox2 fndq)) ?_ U;refine rOt 2 U ?_
   first|refine jcd U (fun c35=> ?_) (fun c35=> ?_)|refine jcn U (fun c35=> ?_) (fun c35=> ?_)
   ·have hb2:b2=true:=c35;rw[hb2] at kB;refine rCt 2 U ?_;refine y_ (On U isAgg38 sizeOf38 (A3 ox1) (by exact Ae fndq)) ?_ U;refine e_ (Oq U U sizeOf38 .agg (B4 _ _ _) (A3 ox1) updq (by rw[A3 ox1];rfl)) ?_ U;rintro _ _ ⟨rfl,rfl⟩;refine rOt 4 U (Ai U (.cellA (Aa U) isAgg38 sizeOf38 (A3 ox1) qcs .nil) ?_)
    first|exact⟨_,⟨false,hd0,false,⟨rfl,Ay,fun h=>(Bool.false_ne_true h).elim⟩,rfl⟩,sbt⟩|exact⟨_,⟨kn1,x1,b1,⟨rfl,ox1,fun _=>slc_a kA kB⟩,rfl⟩,sbt⟩
   ·have hb2:b2=false:=by simpa using c35
    rw[hb2] at kB;have hlo:=K1 (is:=b1) ox1 ox2;refine rCt 4 U ?_;refine y_ (On U isAgg38 sizeOf38 (A3 ox1) (by exact Ae fndq)) ?_ U;refine rOt 1 U ?_;refine y_ (On U isAgg32 sizeOf32 (Af ox2) (by exact ans_hd (kn:=kn2) (is:=b2) fndq)) ?_ U;refine y_ (Ao (evq2 U U) call53 (fun H' hs=>rles_s kn1 x1 ox1 b1 x2 ox2)) (e_ (Oq U U sizeOf38 .agg (B4 _ _ _) (A3 hlo) updq (by rw[A3 hlo];rfl)) ?_ U) U;rintro _ _ ⟨rfl,rfl⟩;refine rOt 3 U (Ai U (.cellA (Aa U) isAgg38 sizeOf38 (A3 hlo) qcs .nil) ?_)
    first|exact⟨_,⟨false,hd0,false,⟨rfl,Ay,fun h=>(Bool.false_ne_true h).elim⟩,rfl⟩,sbt⟩|exact⟨_,⟨kn1,x1,b1,⟨rfl,ox1,fun _=>slc_a kA kB⟩,rfl⟩,sbt⟩|exact⟨_,⟨kn1,_,_,⟨rfl,hlo,fun _=>slc_of kA kB⟩,rfl⟩,sbt⟩
abbrev tpF (lo:Nat) (c:Nat) (n:Nat):Nat:=if c>lo then c - 1 else n
theorem tp_yes {C:List Nat}{lo j N:Nat}(hj:j<C.length)(h:gd C j>lo):(C.drop j).foldr (tpF lo) N=gd C j - 1:=by
 rw[List.drop_eq_getElem_cons hj,List.foldr_cons,<- Ar hj];exact if_pos h
theorem tp_no {C:List Nat}{lo j N:Nat}(hj:j<C.length)(h: ¬ gd C j>lo):(C.drop j).foldr (tpF lo) N=(C.drop (j+1)).foldr (tpF lo) N:=by
 rw[List.drop_eq_getElem_cons hj,List.foldr_cons,<- Ar hj];exact if_neg h
theorem I9 {v:Fd->Nat}{F:List Fd}{i:Nat}(hi:i<F.length)(h:Hd):setsF v (F.take (i+1)) h=fset (gd F i) (setsF v (F.take i) h) (v (gd F i)):=by
 rw[List.take_succ_eq_append_getElem hi,sets_snoc,<- Ar hi]
theorem rtop_s {fl:List Fd}(hfl:FlOk fl)(q:Option Addr)(c:Nat)(hA:Arr w0 H q 3 encF fl)(F:List Fd)(hF:F=portFd::fl)(ms:List Pom)(qp:Option Addr)(cp:Nat)(hP:Arr w0 H qp 9 encPo ms)(hM:PolsC w0 H ms)(lo:Hd)(hlo:HdOk lo):
  FSpec prog w0 70 #[.slice q fl.length c, .slice qp ms.length cp, .agg (hdC lo).toArray] H (Still (.agg (hdC (topF (cutsL ms) F lo)).toArray) H):=by
 refine Am func70 U ntmps70 U ?_;have hfew:=hfl.few;have hFl:F.length=fl.length+1:=by rw[hF];rfl
 have hFS:FsL F:=by rw[hF];exact Ma hfl
 have hall:=hFS.ok;have hCO:=cutsL_ok F ms;refine rDt 2 U (e_ (Ot U cs_) ?_ U);rintro _ _ ⟨n5,rfl,rfl⟩;refine e_ (Ag zeroValue32 cs_) ?_ U;rintro _ _ ⟨n6,rfl,rfl⟩;refine rOt 5 U (e_ (Ah (evq1 U) call95 (Ko hfl q c (hA.mono sbt) F hF)) ?_ U);rintro _ _ ⟨dF,⟨rfl,hdF⟩,rfl⟩;have hFA:Arr w0 (slH dF (F.flatMap encF) 127++((n6,Cl (hdC hd0) 32)::(n5,Cl (hdC lo) 32)::H)) (slQ dF) 3 encF F:=B3 (fun _=>rfl) hdF;refine rOt 5 U ?_;refine y_ (On U isAgg32 sizeOf32 (Af hlo) (by exact Ae fndq)) ?_ U;refine e_ (Ag zeroValue32 cs_) ?_ U;rintro _ _ ⟨n8,rfl,rfl⟩;refine e_ (Oq U U sizeOf32 .agg (Bc _) (Af hlo) updq (by rw[Af hlo];rfl)) ?_ U;rintro _ _ ⟨rfl,rfl⟩;refine rOt 9 U ?_;refine A8 (X:=Nat × Hd) (V:=fun ⟨i,hi⟩=>[(9,Vi (i:Nat))]) (C:=[(1,_),(5,_),(6,_),(7,_),(8,_)]) (G:=fun ⟨i,hi⟩=>(n8,Cl (hdC hi) 32)::(slH dF (F.flatMap encF) 127++((n6,Cl (hdC hd0) 32)::(n5,Cl (hdC lo) 32)::H))) (φ:=fun ⟨i,hi⟩=>i<=F.length/\HdOk hi/\hi=setsF (topV (cutsL ms) lo) (F.take i) lo) (μ:=fun ⟨i,hi⟩=>F.length - i) (x0:=(0,lo)) ?_ (kg U) qkg (by exact List.Sublist.refl _) ?_
 ·exact⟨Nat.zero_le _,hlo,rfl⟩
 rintro⟨i,hi⟩ ⟨hi1,hhi,hhe⟩;refine rDt 9 U ?_;refine jcd U (fun c19=> ?_) (fun c19=> ?_)
 ·have hi2:i<F.length:=Int.ofNat_lt.1 c19;have hpw:1<=2 ^ (gd F i).w:=Nat.two_pow_pos _;refine rCt 9 U (y_ (Oo U U runUnderlying22 sizeOf127 qom (by first|exact rfl|exact hFA.b (i:=i) hi2)) ?_ U);refine y_ (On U isAgg127 sizeOf127 U (by exact(hFA.mono sbt).cs (i:=i) hi2)) ?_ U;refine e_ (Ah (evq2 U U) call96 (cutsX_s ms qp cp (hP.mono sbt) (hM.mono sbt) (gd F i) (hall _ (Ax hi2)))) ?_ U;rintro _ _ ⟨dc,⟨rfl,hdc⟩,rfl⟩;have hC:Arr w0 (slH dc ((cutsI ms (gd F i)).flatMap encI) 3++[]) (slQ dc) 1 encI (cutsI ms (gd F i)):=B3 (fun _=>rfl) hdc;have hcl:=I7 ms (gd F i);have hcm:=cutsL_len ms (hall _ (Ax hi2)).w16;refine rOt 7 U (y_ (Oo U U runUnderlying22 sizeOf127 qom (by first|exact rfl|exact hFA.b (i:=i) hi2)) ?_ U);refine y_ (On U isAgg127 sizeOf127 U (by exact(hFA.mono sbt).cs (i:=i) hi2)) ?_ U;refine y_ (Ao (evq1 U) call112 (fun H' hs=>Gk (gd F i) (hall _ (Ax hi2)).w16)) (rOt 8 U (y_ (E2 (T U) Al qom) ?_ U)) U;refine rOt 4 U ?_;refine A8 (X:=Nat × Nat) (V:=fun ⟨j,v⟩=>[(11,Vi (v:Nat)),(12,Vi ((j:Int) - 1))]) (C:=[(1,_),(5,_),(6,_),(7,_),(8,_),(9,_),(10,_)]) (G:=fun ⟨j,v⟩=>slH dc ((cutsI ms (gd F i)).flatMap encI) 3++((n8,Cl (hdC hi) 32)::(slH dF (F.flatMap encF) 127++((n6,Cl (hdC hd0) 32)::(n5,Cl (hdC lo) 32)::H)))) (φ:=fun ⟨j,v⟩=>j<=(cutsI ms (gd F i)).length/\v=((cutsL ms (gd F i)).drop j).foldr (tpF (fget (gd F i) lo)) (2 ^ (gd F i).w - 1)) (μ:=fun ⟨j,v⟩=>j) (x0:=((cutsI ms (gd F i)).length,2 ^ (gd F i).w - 1)) ?_ (kg U) ⟨(by first|exact Aa rfl|(refine Cb (Aa rfl) (vint ?_);omega)),qat,trivial⟩ (by exact List.Sublist.refl _) ?_
  ·exact⟨Nat.le_refl _,by rw[hcl,List.drop_length];rfl⟩
  rintro⟨j,v⟩ ⟨hj,hv⟩;refine rDt 7 U ?_;refine jcd U (fun c37=> ?_) (fun c37=> ?_)
  ·obtain⟨j2,rfl⟩:∃ j2,j=j2+1:=⟨j - 1,by have h9:(0:Int)<=((j:Nat):Int) - 1:=c37;omega⟩;have hj9:(((j2+1:Nat):Int) - 1).toNat=j2:=by omega
   have hj3:j2<(cutsI ms (gd F i)).length:=by omega
   have hj4:j2<(cutsL ms (gd F i)).length:=by omega
   refine rCt 5 U (Bf 11 (plq11 []) _ mixd qkr sb0 ?_ Bh);refine rPt 2 U (o_y U (Cd (T U) (T U) runUnderlying109 sizeOf3 qom (by first|exact rfl|exact hFA.b (i:=i) hi2|exact hC.b (i:=j2) hj3)) ?_ U Ad);refine o_y U (Om U isAgg3 (by first|exact c_o|exact(by rw[hj9];exact(hC.mono (by rw[List.append_nil];exact List.sublist_append_left _ _)).f0 (i:=j2) hj3 U))) ?_ U Ad;refine rPt 2 U (o_y U (Cd (T U) (T U) runUnderlying22 sizeOf127 qom (by first|exact rfl|exact hFA.b (i:=i) hi2)) ?_ U Ad);refine o_y U (On U isAgg127 sizeOf127 U (by exact(hFA.mono sbt).cs (i:=i) hi2)) ?_ U Ad;refine o_y U (On U isAgg32 sizeOf32 (Af hlo) (by exact Ae fndq)) ?_ U Ad;refine o_y U (Ao (evq2 U U) call113 (fun H' hs=>Gl (gd F i) (hall _ (Ax hi2)) lo hlo)) (rPt 1 U (Av U (rOt 2 U ?_))) U Ad;refine jcd U (fun c50=> ?_) (fun c50=> ?_)
   ·have hgc:=Kp (ms:=ms) (f:=gd F i) hj4;have hgl:=cutsL_lt (ms:=ms) hj4;have hgw:=pow_small (k:=0) (hall _ (Ax hi2)).w16;rw[Nat.sub_zero] at hgw;have hgt:gd (cutsL ms (gd F i)) j2>fget (gd F i) lo:=by have h9:gd (cutsI ms (gd F i)) j2>((fget (gd F i) lo:Nat):Int):=c50;rw[Kp hj4] at h9;omega
    refine rCt 3 U (y_ (Cd (T U) (T U) runUnderlying109 sizeOf3 qom (by first|exact rfl|exact hFA.b (i:=i) hi2|exact hC.b (i:=j2) hj3)) ?_ U);refine y_ (Om U isAgg3 (by first|exact c_o|exact(by rw[hj9];exact(hC.mono (by rw[List.append_nil];exact List.sublist_append_left _ _)).f0 (i:=j2) hj3 U))) ?_ U;refine y_ (E2 (T U) Al qom) ?_ U;refine rOt 6 U (y_ (E2 (T U) Al qom) ?_ U);refine rOt 2 U ?_;refine Au ((j2,gd (cutsL ms (gd F i)) j2 - 1)) ?_ ?_ ⟨(by first|exact Aa U|(refine Cb (Aa U) (vint ?_);omega)),(by first|exact Aa U|(refine Cb (Aa U) (vint ?_);omega)),trivial⟩ (kg U) ?_
    ·exact⟨by omega,(tp_yes hj4 hgt).symm⟩
    ·first|omega|(simp only[];omega)
    ·exact sb0
   ·have hgt: ¬ gd (cutsL ms (gd F i)) j2>fget (gd F i) lo:=by have h9: ¬ gd (cutsI ms (gd F i)) j2>((fget (gd F i) lo:Nat):Int):=c50;rw[Kp hj4] at h9;omega
    refine rCt 5 U (y_ (E2 (T U) Al qom) ?_ U);refine rOt 2 U ?_;refine Au ((j2,v)) ?_ ?_ ⟨qat,(by first|exact Aa U|(refine Cb (Aa U) (vint ?_);omega)),trivial⟩ (kg U) ?_
    ·exact⟨by omega,by rw[tp_no hj4 hgt];exact hv⟩
    ·first|omega|(simp only[];omega)
    ·exact sb0
  ·obtain rfl:j=0:=by have h9: ¬ (0:Int)<=((j:Nat):Int) - 1:=c37;omega
   rw[List.drop_zero] at hv;obtain rfl:v=topV (cutsL ms) lo (gd F i):=hv;refine rCt 2 U (An (rXt 2 U (Bf 7 (plq7 []) _ mixd qkr sb0 ?_ Bh)));refine rPt 2 U (o_y U (Cd (T U) (T U) runUnderlying22 sizeOf127 qom (by first|exact rfl|exact hFA.b (i:=i) hi2)) ?_ U Ad);refine o_y U (On U isAgg127 sizeOf127 U (by exact(hFA.mono sbt).cs (i:=i) hi2)) ?_ U Ad;refine o_y U (On U isAgg32 sizeOf32 (Af hhi) (by exact Ae fndq)) ?_ U Ad;refine rPt 1 U (o_y U (Ao (evq3 U U U) call83 (fun H' hs=>rset_s (gd F i) (hall _ (Ax hi2)) hi hhi (topV (cutsL ms) lo (gd F i)) (Ht (lo:=lo) hFS hCO (gd F i) (Ax hi2)).2.1)) (Av U (e_ (Oq U U sizeOf32 .agg (Bc _) (Af (Bz _ _ _)) updq (by rw[Af hhi,Af (Bz _ _ _)])) ?_ U)) U Ad);rintro _ _ ⟨rfl,rfl⟩;refine rOt 5 U (y_ (Aw (T U) Al qom) ?_ U);refine rOt 2 U ?_;refine Au ((i+1,fset (gd F i) hi (topV (cutsL ms) lo (gd F i)))) ?_ ?_ qkg (kg U) ?_
   ·exact⟨hi2,Bz _ _ _,by rw[I9 hi2,<- hhe]⟩
   ·first|omega|(simp only[];omega)
   ·exact(by exact List.sublist_append_right _ _)
 ·obtain rfl:i=F.length:=by have h9: ¬ ((i:Nat):Int)<(F.length:Nat):=c19;omega
  rw[List.take_length] at hhe;refine rCt 2 U (An (rXt 4 U ?_));refine y_ (On U isAgg32 sizeOf32 (Af hhi) (by exact Ae fndq)) ?_ U;refine e_ (Oq U U sizeOf32 .agg (Bc _) (Af hhi) updq (by rw[Af hhi,Af Ay])) ?_ U;rintro _ _ ⟨rfl,rfl⟩;refine rOt 3 U (Ai U (.cellA (Aa U) isAgg32 sizeOf32 (Af hhi) qcs .nil) ?_);exact⟨_,⟨by rw[hhe];rfl,rfl⟩,sbt⟩
theorem Ka0 {a0 a1 a2 a3 a4 a5 a6 a7 a8 a9 a10 a11 a12 a13 a14 a15 a16 a17 a18 a19:Int}(w:World):(Instr.build 108 #[(0, .agg #[Vi a0,Vi a1,Vi a2,Vi a3,Vi a4,Vi a5,Vi a6,Vi a7,Vi a8,Vi a9]),(1, .agg #[Vi a10,Vi a11,Vi a12,Vi a13,Vi a14,Vi a15,Vi a16,Vi a17,Vi a18,Vi a19])]).run prog w= .ok (.agg #[Vi a0,Vi a1,Vi a2,Vi a3,Vi a4,Vi a5,Vi a6,Vi a7,Vi a8,Vi a9,Vi a10,Vi a11,Vi a12,Vi a13,Vi a14,Vi a15,Vi a16,Vi a17,Vi a18,Vi a19]) w:=by kernel_rfl
theorem Kb4 {a0 a1 a2 a3 a4 a5 a6 a7 a8 a9 a10 a11 a12 a13 a14 a15 a16 a17 a18 a19:Int}(w:World):(Instr.buildSlice 103 1 #[(0, .agg #[Vi a0,Vi a1,Vi a2,Vi a3,Vi a4,Vi a5,Vi a6,Vi a7,Vi a8,Vi a9,Vi a10,Vi a11,Vi a12,Vi a13,Vi a14,Vi a15,Vi a16,Vi a17,Vi a18,Vi a19])]).run prog w= .ok (.slice (some ⟨w.heap.size,0,none⟩) 1 1) (w.alloc (Cl [Vi a0,Vi a1,Vi a2,Vi a3,Vi a4,Vi a5,Vi a6,Vi a7,Vi a8,Vi a9,Vi a10,Vi a11,Vi a12,Vi a13,Vi a14,Vi a15,Vi a16,Vi a17,Vi a18,Vi a19] 108)):=by kernel_rfl
theorem mk108 {a b:Hd}(ha:HdOk a)(hb:HdOk b)(w:World):(Instr.build 108 #[(0, .agg (hdC a).toArray),(1, .agg (hdC b).toArray)]).run prog w= .ok (.agg (mdC (a,b)).toArray) w:=by
 obtain⟨a0,a1,a2,a3,a4,a5,a6,a7,a8,a9,rfl⟩:=hd10 ha;obtain⟨b0,b1,b2,b3,b4,b5,b6,b7,b8,b9,rfl⟩:=hd10 hb;exact Ka0 w
theorem bs103 {m:Md}(h:HdOk m.1/\HdOk m.2)(w:World):(Instr.buildSlice 103 1 #[(0, .agg (mdC m).toArray)]).run prog w= .ok (.slice (some ⟨w.heap.size,0,none⟩) 1 1) (w.alloc (Cl (mdC m) 108)):=by
 obtain⟨a,b⟩:=m;obtain⟨a0,a1,a2,a3,a4,a5,a6,a7,a8,a9,rfl⟩:=hd10 h.1;obtain⟨b0,b1,b2,b3,b4,b5,b6,b7,b8,b9,rfl⟩:=hd10 h.2;exact Kb4 w
abbrev imV (lo hi g:Hd) (f:Fd):Nat:=if fget f g=fget f lo then fget f hi else fget f g
theorem img_yes {F:List Fd}{lo hi g u:Hd}{k:Nat}(hk:k<F.length)(hu:u=setsF (imV lo hi g) (F.take k) g)(e:fget (gd F k) g=fget (gd F k) lo):fset (gd F k) u (fget (gd F k) hi)=setsF (imV lo hi g) (F.take (k+1)) g:=by
 rw[I9 hk,<- hu];unfold imV;rw[if_pos e]
theorem img_no {F:List Fd}(hF:FsL F){lo hi g u:Hd}(hg:HdOk g){k:Nat}(hk:k<F.length)(hu:u=setsF (imV lo hi g) (F.take k) g)(e: ¬ fget (gd F k) g=fget (gd F k) lo):u=setsF (imV lo hi g) (F.take (k+1)) g:=by
 have hok:HdOk u:=by rw[hu];exact Gf _ _ hg
 rw[I9 hk,<- hu];show u=fset (gd F k) u (imV lo hi g (gd F k));unfold imV;rw[if_neg e];have hf:=hF.ok _ (Ax hk);have e2:fget (gd F k) u=fget (gd F k) g:=by
  rw[hu];refine sets_keep hf fun f hf'=> ?_
  obtain⟨j,hj,rfl⟩:=List.getElem_of_mem hf';rw[List.length_take] at hj;have:=List.pairwise_iff_getElem.1 hF.pw j k qom hk qom;rw[List.getElem_take,Ar hk];exact this.symm
 rw[<- e2,fset_self hf hok]
theorem rimg_s {fl:List Fd}(hfl:FlOk fl)(q:Option Addr)(c:Nat)(hA:Arr w0 H q 3 encF fl)(F:List Fd)(hF:F=portFd::fl)(lo:Hd)(hlo:HdOk lo)(hi:Hd)(hhi:HdOk hi)(g:List Hd)(qg:Option Addr)(cg:Nat)(hG:HsA w0 H g qg cg)(hg5:g.length<=1000):
  FSpec prog w0 71 #[.slice q fl.length c, .agg (hdC lo).toArray, .agg (hdC hi).toArray, .slice qg g.length cg] H (fun u H'=>∃ d:Sl,(u=slV d (g.map (imgF F lo hi)).length/\SlOk d (g.map (imgF F lo hi)).length 20)/\H'=slH d ((g.map (imgF F lo hi)).flatMap encMdF) 108++H):=by
 refine Am func71 U ntmps71 U ?_;have hfew:=hfl.few;have hFl:F.length=fl.length+1:=by rw[hF];rfl
 have hFS:FsL F:=by rw[hF];exact Ma hfl
 have hall:=hFS.ok;refine rDt 2 U (e_ (Ot U cs_) ?_ U);rintro _ _ ⟨n5,rfl,rfl⟩;refine e_ (Ot U cs_) ?_ U;rintro _ _ ⟨n6,rfl,rfl⟩;refine rOt 11 U (e_ (Ah (evq1 U) call95 (Ko hfl q c (hA.mono sbt) F hF)) ?_ U);rintro _ _ ⟨dF,⟨rfl,hdF⟩,rfl⟩;have hFA:Arr w0 (slH dF (F.flatMap encF) 127++((n6,Cl (hdC hi) 32)::(n5,Cl (hdC lo) 32)::H)) (slQ dF) 3 encF F:=B3 (fun _=>rfl) hdF;refine rOt 10 U ?_;refine A8 (X:=Nat × Sl) (V:=fun ⟨i,d⟩=>[(9,slV d ((g.take i).map (imgF F lo hi)).length),(11,Vi (i:Nat))]) (C:=[(3,_),(5,_),(6,_),(10,_)]) (G:=fun ⟨i,d⟩=>slH d (((g.take i).map (imgF F lo hi)).flatMap encMdF) 108++(slH dF (F.flatMap encF) 127++((n6,Cl (hdC hi) 32)::(n5,Cl (hdC lo) 32)::H))) (φ:=fun ⟨i,d⟩=>i<=g.length/\SlOk d ((g.take i).map (imgF F lo hi)).length 20) (μ:=fun ⟨i,d⟩=>g.length - i) (x0:=(0, .nil)) ?_ (kg U) qkg (by exact List.Sublist.refl _) ?_
 ·exact⟨Nat.zero_le _,rfl⟩
 rintro⟨i,d⟩ ⟨hi1,hd⟩;refine rDt 9 U ?_;refine jcd U (fun c19=> ?_) (fun c19=> ?_)
 ·have hi2:i<g.length:=Int.ofNat_lt.1 c19;have hgi:=hG.ok hi2;have hgt:(g.take (i+1)).map (imgF F lo hi)=((g.take i).map (imgF F lo hi))++[imgF F lo hi (gd g i)]:=by rw[take_h hi2,List.map_append];rfl
  have hml:((g.take i).map (imgF F lo hi)).length<=1000:=by rw[List.length_map,List.length_take];omega
  refine rCt 5 U (Bf 10 (plq9 [(9,false)]) _ mixd qkr sb0 ?_ Bh);refine rPt 2 U (o_y U (Oo U U runUnderlying58 sizeOf32 qom (by first|exact rfl|exact hG.1.b (i:=i) hi2)) ?_ U Ad);refine o_y U (On U isAgg32 sizeOf32 (Af hgi) (by exact((hG.mono sbt).hd).cs (i:=i) hi2)) ?_ U Ad;refine rPt 2 U (o_y U (Oo U U runUnderlying58 sizeOf32 qom (by first|exact rfl|exact hG.1.b (i:=i) hi2)) ?_ U Ad);refine o_y U (On U isAgg32 sizeOf32 (Af hgi) (by exact((hG.mono sbt).hd).cs (i:=i) hi2)) ?_ U Ad;refine o_y U (A1 (.cons (T U) (.cons (T U) .nil)) (fun w=>mk108 hgi hgi w)) (o_e U (Ag zeroValue108 cs_) ?_ U Ad) U Ad;rintro _ _ ⟨n12,rfl,rfl⟩;refine⟨sbt,(Av U (e_ (Oq U U sizeOf108 .agg (Cn _ _) (Bd hgi hgi) updq (by rw[Bd hgi hgi];rfl)) ?_ U))⟩;rintro _ _ ⟨rfl,rfl⟩;refine rOt 9 U ?_;refine A8 (X:=Nat × Hd) (V:=fun ⟨k,u⟩=>[(13,Vi (k:Nat))]) (C:=[(3,_),(5,_),(6,_),(9,_),(10,_),(11,_),(12,_)]) (G:=fun ⟨k,u⟩=>(n12,Cl (mdC (gd g i,u)) 108)::(slH d (((g.take i).map (imgF F lo hi)).flatMap encMdF) 108++(slH dF (F.flatMap encF) 127++((n6,Cl (hdC hi) 32)::(n5,Cl (hdC lo) 32)::H)))) (φ:=fun ⟨k,u⟩=>k<=F.length/\HdOk u/\u=setsF (imV lo hi (gd g i)) (F.take k) (gd g i)) (μ:=fun ⟨k,u⟩=>F.length - k) (x0:=(0,gd g i)) ?_ (kg U) qkg (by exact List.Sublist.refl _) ?_
  ·exact⟨Nat.zero_le _,hgi,rfl⟩
  rintro⟨k,u⟩ ⟨hk,hu,hue⟩;refine rDt 9 U ?_;refine jcd U (fun c34=> ?_) (fun c34=> ?_)
  ·have hk2:k<F.length:=Int.ofNat_lt.1 c34;have hfk:=hall _ (Ax hk2);refine rCt 5 U (Bf 16 (plq16 []) _ mixd qkr sb0 ?_ Bh);refine rPt 2 U (o_y U (Oo U U runUnderlying22 sizeOf127 qom (by first|exact rfl|exact hG.1.b (i:=i) hi2|exact hFA.b (i:=k) hk2)) ?_ U Ad);refine o_y U (On U isAgg127 sizeOf127 U (by exact(hFA.mono sbt).cs (i:=k) hk2)) ?_ U Ad;refine rPt 2 U (o_y U (Cd (T U) (T U) runUnderlying58 sizeOf32 qom (by first|exact rfl|exact hG.1.b (i:=i) hi2)) ?_ U Ad);refine o_y U (On U isAgg32 sizeOf32 (Af hgi) (by exact((hG.mono sbt).hd).cs (i:=i) hi2)) ?_ U Ad;refine o_y U (Ao (evq2 U U) call113 (fun H' hs=>Gl (gd F k) hfk (gd g i) hgi)) (rPt 2 U (o_y U (Oo U U runUnderlying22 sizeOf127 qom (by first|exact rfl|exact hG.1.b (i:=i) hi2|exact hFA.b (i:=k) hk2)) ?_ U Ad)) U Ad;refine o_y U (On U isAgg127 sizeOf127 U (by exact(hFA.mono sbt).cs (i:=k) hk2)) ?_ U Ad;refine o_y U (On U isAgg32 sizeOf32 (Af hlo) (by exact Ae fndq)) ?_ U Ad;refine o_y U (Ao (evq2 U U) call113 (fun H' hs=>Gl (gd F k) hfk lo hlo)) (rPt 1 U (Av U (rOt 2 U ?_))) U Ad;refine jcd U (fun c52=> ?_) (fun c52=> ?_)
   ·have heq:fget (gd F k) (gd g i)=fget (gd F k) lo:=by have h9:((fget (gd F k) (gd g i):Nat):Int)=(fget (gd F k) lo:Nat):=c52;omega
    refine Bf 14 (plq14 []) _ mixd qkr sb0 ?_ Bh;refine rPt 2 U (o_y U (Oo U U runUnderlying22 sizeOf127 qom (by first|exact rfl|exact hG.1.b (i:=i) hi2|exact hFA.b (i:=k) hk2)) ?_ U Ad);refine o_y U (On U isAgg127 sizeOf127 U (by exact(hFA.mono sbt).cs (i:=k) hk2)) ?_ U Ad;refine rPt 1 U ?_;refine o_y U (On U isAgg32 sizeOf32 (Af hu) (by exact El (m:=(gd g i,u)) hgi fndq)) ?_ U Ad;refine rPt 2 U (o_y U (Oo U U runUnderlying22 sizeOf127 qom (by first|exact rfl|exact hG.1.b (i:=i) hi2|exact hFA.b (i:=k) hk2)) ?_ U Ad);refine o_y U (On U isAgg127 sizeOf127 U (by exact(hFA.mono sbt).cs (i:=k) hk2)) ?_ U Ad;refine o_y U (On U isAgg32 sizeOf32 (Af hhi) (by exact Ae fndq)) ?_ U Ad;refine o_y U (Ao (evq2 U U) call113 (fun H' hs=>Gl (gd F k) hfk hi hhi)) (o_y U (Ao (evq3 U U U) call83 (fun H' hs=>rset_s (gd F k) hfk u hu (fget (gd F k) hi) (Dk _ _))) (rPt 1 U (Av U (e_ (eff_storeT (pre:=hdC (gd g i)) (l:=hdC u) (by rw[Af hgi]) (T U) (T U) sizeOf32 .agg (Bc _) (Af (Bz _ _ _)) updq (by rw[Af hu,Af (Bz _ _ _)])) ?_ U))) U Ad) U Ad;rintro _ _ ⟨rfl,rfl⟩;refine kO tb 3 [3,5,6,9,10,11,12,13] rfl U (rGt 2 U (y_ (Aw (T U) Al qom) ?_ U));refine rOt 2 U ?_;refine Au ((k+1,fset (gd F k) u (fget (gd F k) hi))) ?_ ?_ qkg (kg U) ?_
    ·exact⟨hk2,Bz _ _ _,img_yes hk2 hue heq⟩
    ·first|omega|(simp only[];omega)
    ·exact sb0
   ·have heq: ¬ fget (gd F k) (gd g i)=fget (gd F k) lo:=by have h9: ¬ ((fget (gd F k) (gd g i):Nat):Int)=(fget (gd F k) lo:Nat):=c52;omega
    refine rCt 5 U (y_ (Aw (T U) Al qom) ?_ U);refine rOt 2 U ?_;refine Au ((k+1,u)) ?_ ?_ qkg (kg U) ?_
    ·exact⟨hk2,hu,img_no hFS hgi hk2 hue heq⟩
    ·first|omega|(simp only[];omega)
    ·exact sb0
  ·obtain rfl:k=F.length:=by have h9: ¬ ((k:Nat):Int)<(F.length:Nat):=c34;omega
   rw[List.take_length] at hue;refine rCt 2 U (An (rXt 4 U ?_));refine y_ (On U isAgg108 sizeOf108 (Bd hgi hu) (by exact Ae fndq)) ?_ U;refine e_ (Bb (.cons (T U) .nil) (fun w=>bs103 (m:=(gd g i,u)) ⟨hgi,hu⟩ w)) ?_ U;rintro _ _ ⟨n69,rfl,rfl⟩;refine e_ (Cg (enc:=encMdF) (d:=d) (l:=((g.take i).map (imgF F lo hi))) (gd g i,u) (by':=160) locq (T U) (T U) runUnderlying103 runUnderlying103 sizeOf108 typeInfo108 U zeroValue108 U Ce (D3 _) hd qde qom (by rw[D7 (m:=(gd g i,u)) ⟨hgi,hu⟩];exact A0)) ?_ U;rintro _ _ ⟨d2,rfl,hd2,rfl⟩;rw[show (gd g i,u)=imgF F lo hi (gd g i) from (by rw[hue];rfl)];rw[show ((g.take i).map (imgF F lo hi)).length+1=((g.take (i+1)).map (imgF F lo hi)).length from (by rw[hgt];simp)] at hd2 ⊢;rw[<- hgt];refine rOt 6 U (y_ (Aw (T U) Al qom) ?_ U);refine rOt 2 U ?_;refine Au ((i+1,d2)) ?_ ?_ qkg (kg U) ?_
   ·exact⟨hi2,hd2⟩
   ·first|omega|(simp only[];omega)
   ·exact sbt
 ·obtain rfl:i=g.length:=by have h9: ¬ ((i:Nat):Int)<(g.length:Nat):=c19;omega
  rw[List.take_length] at hd;refine rCt 2 U (An (rXt 9 U (Ai U (Ol U) ?_)))
  dsimp only;rw[List.take_length];exact⟨_,⟨d,⟨rfl,hd⟩,rfl⟩,sbt⟩
theorem erigh2_s (fi:List Fi)(q:Option Addr)(n c:Nat)(hn:n=fi.length)(hA:Arr w0 H q 3 encFi fi)(hnm:∀ f∈fi,f.nm.size<=9223372036854775807){m:Pom}(hM:PoM w0 H m)(hm:m.sz<=1000000000)(hz:NmO m)(most:Nat):
  FSpec prog w0 31 #[.slice q n c, .agg (encPo m).toArray,Vi (most:Nat)] H (SayB (FisOk fi/\FitM (fi.map Fi.fd) m most/\FmS (fi.map Fi.fd) m) H):=by
 refine Am func31 U ntmps31 U (rDt 2 U (e_ (Ot U cs_) ?_ U));rintro _ _ ⟨n4,rfl,rfl⟩;refine rOt 5 U (y_ (On U isAgg28 sizeOf28 U qcs) ?_ U);refine e_ (Ah (evq1 U) call75 (fewO_s (hM.mono sbt) hm)) ?_ U;rintro _ _ ⟨b1,rfl,rfl⟩;refine rOt 7 U ?_
 first|refine A6 (Bt (T U)) U Ad ?_|refine A6 (Bq (T U)) U Ad ?_
 refine rOt 1 U ?_
 first|refine Aq (s:=12) (Aa U) (fun c12=> ?_) (fun c12=> ?_)|refine C0 (s:=12) (Aa U) (fun c12=> ?_) (fun c12=> ?_)
 ·refine kO tb 29 [6] rfl U (rGt 2 U (Ai U (Ol U) ?_));exact⟨_,⟨false,⟨rfl,fun h=>by cases h⟩,rfl⟩,sbt⟩
 ·refine rOt 1 U (Bo (Ah (evq1 U) call76 (chk_n fi q n c hn (hA.mono sbt) hnm)) U (A7 U U (Aa U)) ?_);rintro _ _ ⟨e0,⟨rfl,he0⟩,rfl⟩;refine rOt 3 U ?_;refine Aq (s:=17) (Aa U) (fun c17=> ?_) (fun c17=> ?_)
  ·skip
   refine kO tb 24 [6] rfl U (rGt 2 U (Ai U (Ol U) ?_));exact⟨_,⟨false,⟨rfl,fun h=>by cases h⟩,rfl⟩,sbt⟩
  ·have hfi:FisOk fi:=he0 (by simpa using c17);refine A6 (On U isAgg28 sizeOf28 U qcs) U (A7 U U (Aa U)) ?_;refine Bo (Ah (evq1 U) call77 (szO_s _ hm (hM.mono sbt) (Nat.le_refl _))) U (A7 U U (Aa U)) ?_;rintro _ _ ⟨z1,⟨rfl,y1,x1⟩,rfl⟩;refine A6 (yl_field (T U) (field84 _ _)) U (A7 U U (Aa U)) (rOt 4 U ?_);refine Aq (s:=24) (Aa U) (fun c24=> ?_) (fun c24=> ?_)
   ·refine kO tb 17 [6] rfl U (rGt 2 U (Ai U (Ol U) ?_));exact⟨_,⟨false,⟨rfl,fun h=>by cases h⟩,rfl⟩,sbt⟩
   ·refine A6 (On U isAgg28 sizeOf28 U qcs) U (A7 U U (Aa U)) ?_;refine Bo (Ah (evq1 U) call78 (stO_s _ hm (hM.mono sbt) (Nat.le_refl _))) U (A7 U U (Aa U)) ?_;rintro _ _ ⟨z2,⟨rfl,y2,x2⟩,rfl⟩;refine rOt 3 U ?_;refine Aq (s:=29) (Aa U) (fun c29=> ?_) (fun c29=> ?_)
    ·refine kO tb 12 [6] rfl U (rGt 2 U (Ai U (Ol U) ?_));exact⟨_,⟨false,⟨rfl,fun h=>by cases h⟩,rfl⟩,sbt⟩
    ·refine A6 (On U isAgg28 sizeOf28 U qcs) U (A7 U U (Aa U)) ?_;refine Bo (Ah (evq1 U) call79 (light_s (hM.mono sbt) hm)) U (A7 U U (Aa U)) ?_;rintro _ _ ⟨b4,rfl,rfl⟩
     first|refine A6 (Bt (T U)) U (A7 U U (Aa U)) ?_|refine A6 (Bq (T U)) U (A7 U U (Aa U)) ?_
     refine rOt 3 U ?_
     first|refine jcd U (fun c33=> ?_) (fun c33=> ?_)|refine jcn U (fun c33=> ?_) (fun c33=> ?_)
     ·refine kC tb 5 [6] rfl U (rGt 2 U (Ai U (Ol U) ?_));exact⟨_,⟨false,⟨rfl,fun h=>by cases h⟩,rfl⟩,sbt⟩
     ·refine rCt 5 U (y_ (On U isAgg28 sizeOf28 U qcs) ?_ U);refine e_ (Ah (evq2 U U) call80 (rpol_n (fi.map Fi.fd) hfi.fl q n c (hn.trans (List.length_map _).symm) ((fis_arr hfi hA).mono sbt) (hM.mono sbt) hm hz)) ?_ U;rintro _ _ ⟨e1,⟨rfl,he1⟩,rfl⟩;refine kO tb 4 [6] rfl U (rGt 1 U (Ai U (Ol U) ?_))
      first|exact⟨_,⟨false,⟨rfl,fun h=>by cases h⟩,rfl⟩,sbt⟩|exact⟨_,⟨_,⟨rfl,fun h=>⟨hfi,⟨by omega,fm_isO hfi.fl (he1 (of_decide_eq_true h)).2.1 (he1 (of_decide_eq_true h)).2.2⟩,(he1 (of_decide_eq_true h)).2⟩⟩,rfl⟩,sbt⟩
theorem both2_s (fi:List Fi)(q:Option Addr)(n c:Nat)(hn:n=fi.length)(hA:Arr w0 H q 3 encFi fi)(hnm:∀ f∈fi,f.nm.size<=9223372036854775807){m1:Pom}(hM1:PoM w0 H m1)(hm1:m1.sz<=1000000000)(hz1:NmO m1){m2:Pom}(hM2:PoM w0 H m2)(hm2:m2.sz<=1000000000)(hz2:NmO m2)(most:Nat)(tick:Int):
  FSpec prog w0 12 #[.slice q n c, .agg (encPo m1).toArray, .agg (encPo m2).toArray,Vi (most:Nat),Vi tick] H (SayB ((0<=tick/\tick<=1073741824)/\FisOk fi/\(FitM (fi.map Fi.fd) m1 most/\FmS (fi.map Fi.fd) m1)/\FitM (fi.map Fi.fd) m2 most/\FmS (fi.map Fi.fd) m2) H):=by
 refine Am func12 U ntmps12 U (rDt 2 U (e_ (Ot U cs_) ?_ U));rintro _ _ ⟨n6,rfl,rfl⟩;refine e_ (Ot U cs_) ?_ U;rintro _ _ ⟨n7,rfl,rfl⟩;refine rOt 8 U ?_;refine Aq (s:=13) (Aa U) (fun c13=> ?_) (fun c13=> ?_)
 ·refine rOt 4 U ?_;refine Aq (s:=17) (Aa U) (fun c17=> ?_) (fun c17=> ?_)
  ·refine rOt 1 U (A6 (On U isAgg28 sizeOf28 U qcs) U (A7 U U (Aa U)) ?_);refine rOt 1 U (Bo (Ah (evq3 U U U) call31 (erigh2_s fi q n c hn (hA.mono sbt) hnm (hM1.mono sbt) hm1 hz1 most)) U (A7 U U (Aa U)) ?_);rintro _ _ ⟨b1,⟨rfl,hb1⟩,rfl⟩;refine rOt 2 U ?_
   first|refine Aq (s:=23) (Aa U) (fun c23=> ?_) (fun c23=> ?_)|refine C0 (s:=23) (Aa U) (fun c23=> ?_) (fun c23=> ?_)
   ·have h1:=hb1 (by simpa using c23);refine rOt 1 U (A6 (On U isAgg28 sizeOf28 U qcs) U (A7 U U (Aa U)) ?_);refine rOt 1 U (Bo (Ah (evq3 U U U) call31 (erigh2_s fi q n c hn (hA.mono sbt) hnm (hM2.mono sbt) hm2 hz2 most)) U (A7 U U (Aa U)) ?_);rintro _ _ ⟨b2,⟨rfl,hb2⟩,rfl⟩;refine rOt 5 U (Ai U (Ol U) ?_)
    first|exact⟨_,⟨false,⟨rfl,fun h=>by cases h⟩,rfl⟩,sbt⟩|exact⟨_,⟨_,⟨rfl,fun h=>⟨by omega,h1.1,h1.2,(hb2 h).2⟩⟩,rfl⟩,sbt⟩
   ·skip
    refine rOt 9 U (Ai U (Ol U) ?_);exact⟨_,⟨false,⟨rfl,fun h=>by cases h⟩,rfl⟩,sbt⟩
  ·refine rOt 15 U (Ai U (Ol U) ?_);exact⟨_,⟨false,⟨rfl,fun h=>by cases h⟩,rfl⟩,sbt⟩
 ·refine rOt 19 U (Ai U (Ol U) ?_);exact⟨_,⟨false,⟨rfl,fun h=>by cases h⟩,rfl⟩,sbt⟩
theorem bd32h (w:World):(Instr.build 32 #[]).run prog w= .ok (.agg (hdC hd0).toArray) w:=by kernel_rfl
theorem yl_eqBT {w0:World}{L:Fm}{H:Mm}{ty yt:TypeId}{x y:Operand}{a c:Bool}(hx:Ev L x (.bool a))(hy:Ev L y (.bool c))(h:a=c):Yl prog w0 (.binOp .eql 4 x y yt) ty L H (.bool true):=by
 have:=yl_eqB (w0:=w0) (H:=H) (ty:=ty) (yt:=yt) hx hy;subst h
 rwa [beq_self_eq_true] at this
theorem rsame_s (h:Hd)(o:HdOk h)(is:Bool)(e:Int)(z:e=0\/(e=12\/e=2)/\h=hd0/\is=false)(kn:Bool)(x:Hd)(ox:HdOk x)(b:Bool)(hEq:e=0->kn=true->x=h/\b=is):
  FSpec prog w0 15 #[.agg (hdC h).toArray, .bool is,Vi e, .agg (ansC kn x b).toArray] H (Still (.bool true) H):=by
 refine Am func15 U ntmps15 U (rDt 2 U (e_ (Ot U cs_) ?_ U));rintro _ _ ⟨n4,rfl,rfl⟩;refine e_ (Ot U cs_) ?_ U;rintro _ _ ⟨n7,rfl,rfl⟩;refine rOt 10 U ?_;refine jcd U (fun c10=> ?_) (fun c10=> ?_)
 ·obtain⟨z1,rfl,rfl⟩:=z.resolve_left c10;refine rCt 5 U ?_;refine Aq (s:=13) (Aa U) (fun c13=> ?_) (fun c13=> ?_)
  ·skip
   refine rOt 4 U ?_;refine A6 (On U isAgg32 sizeOf32 (Af o) (by exact Ae fndq)) U (A7 U U (Aa U)) ?_;refine A6 (A1 .nil (fun w=>bd32h w)) U (A7 U U (Aa U)) (A6 (yl_eqAT (T U) (T U) qkr (eqHd o Ay) U) U (A7 U U (Aa U)) ?_);refine rOt 3 U ?_;refine A6 (Bq (T U)) U (A7 U U (Aa U)) ?_;refine rOt 6 U (Ai U (Ol U) ?_);exact⟨_,⟨by rfl,rfl⟩,sbt⟩
  ·have he2:e=2:=z1.resolve_left c13;refine rOt 4 U ?_;refine Aq (s:=17) (Aa U) (fun c17=> ?_) (fun c17=> ?_)
   ·skip
    refine A6 (On U isAgg32 sizeOf32 (Af o) (by exact Ae fndq)) U (A7 U U (Aa U)) ?_;refine A6 (A1 .nil (fun w=>bd32h w)) U (A7 U U (Aa U)) (A6 (yl_eqAT (T U) (T U) qkr (eqHd o Ay) U) U (A7 U U (Aa U)) ?_);refine rOt 3 U ?_;refine A6 (Bq (T U)) U (A7 U U (Aa U)) ?_;refine rOt 6 U (Ai U (Ol U) ?_);exact⟨_,⟨by rfl,rfl⟩,sbt⟩
   ·exact absurd he2 (by assumption)
 ·have he0:e=0:=Classical.not_not.1 c10;refine rCt 5 U ?_;refine y_ (Om U isAgg4 qco) ?_ U
  first|refine A6 (Bt (T U)) U Ad ?_|refine A6 (Bq (T U)) U Ad ?_
  refine rOt 1 U ?_
  first|refine Aq (s:=29) (Aa U) (fun c29=> ?_) (fun c29=> ?_)|refine C0 (s:=29) (Aa U) (fun c29=> ?_) (fun c29=> ?_)
  ·skip
   refine rOt 15 U (Ai U (Ol U) ?_);exact⟨_,⟨by rfl,rfl⟩,sbt⟩
  ·have hx9:=hEq he0 (by simpa using c29);refine rOt 1 U ?_;refine A6 (On U isAgg32 sizeOf32 (Af ox) (by exact ans_hd (kn:=kn) (is:=b) fndq)) U (A7 U U (Aa U)) ?_;refine A6 (On U isAgg32 sizeOf32 (Af o) (by exact Ae fndq)) U (A7 U U (Aa U)) ?_;refine A6 (yl_eqAT (T U) (T U) qkr (eqHd ox o) hx9.1) U (A7 U U (Aa U)) ?_;refine rOt 2 U ?_;refine A6 (Om U isAgg4 (by first|exact c_o|exact ans_is ox fndq)) U (A7 U U (Aa U)) ?_;refine rOt 1 U (A6 (yl_eqBT (T U) (T U) hx9.2) U (A7 U U (Aa U)) (rOt 6 U (Ai U (Ol U) ?_)));exact⟨_,⟨by rfl,rfl⟩,sbt⟩
def cmH (F:List Fd) (a b:Hd × Hd):Hd:=(cmF F a b).getD hd0
def cmI (F:List Fd) (a b:Hd × Hd):Bool:=decide (¬ cmF F a b=none)
theorem cm_no {F:List Fd}{a b:Hd × Hd}{k:Nat}(hk:k<F.length)(h: ¬ cmB a b (gd F k)=true):cmH F a b=hd0/\cmI F a b=false:=by
 have e: ¬ F.all (cmB a b)=true:=fun k=>h (List.all_eq_true.1 k _ (Ax hk))
 have e2:cmF F a b=none:=by unfold cmF;rw[if_neg e]
 unfold cmH cmI;rw[e2];exact⟨rfl,decide_eq_false fun h=>h U⟩
theorem cm_yes {F:List Fd}{a b:Hd × Hd}{h:Hd}(hh:h=setsF (cmV a b) F hd0)(hall:∀ f∈F,cmB a b f=true):cmH F a b=h/\cmI F a b=true:=by
 have e:F.all (cmB a b)=true:=List.all_eq_true.2 hall;have e2:cmF F a b=some h:=by unfold cmF;rw[if_pos e,hh]
 unfold cmH cmI;rw[e2];exact⟨rfl,decide_eq_true fun h=>by cases h⟩
theorem cmV_lt (a b:Hd × Hd)(f:Fd):cmV a b f<2 ^ f.w:=by
 have:=Dk f a.1;have:=Dk f b.1;unfold cmV;omega
theorem rcom_s {fl:List Fd}(hfl:FlOk fl)(q:Option Addr)(c:Nat)(hA:Arr w0 H q 3 encF fl)(F:List Fd)(hF:F=portFd::fl)(a b:Md)(ha:HdOk a.1/\HdOk a.2)(hb:HdOk b.1/\HdOk b.2):
  FSpec prog w0 72 #[.slice q fl.length c, .agg (mdC a).toArray, .agg (mdC b).toArray] H (Still (.tuple #[.agg (hdC (cmH F a b)).toArray, .bool (cmI F a b)]) H):=by
 refine Am func72 U ntmps72 U ?_;have hfew:=hfl.few;have hFl:F.length=fl.length+1:=by rw[hF];rfl
 have hFS:FsL F:=by rw[hF];exact Ma hfl
 have hall:=hFS.ok;refine rDt 2 U (e_ (Ot U cs_) ?_ U);rintro _ _ ⟨n4,rfl,rfl⟩;refine e_ (Ot U cs_) ?_ U;rintro _ _ ⟨n5,rfl,rfl⟩;refine e_ (Ag zeroValue32 cs_) ?_ U;rintro _ _ ⟨n6,rfl,rfl⟩;refine rOt 6 U (e_ (Ah (evq1 U) call95 (Ko hfl q c (hA.mono sbt) F hF)) ?_ U);rintro _ _ ⟨dF,⟨rfl,hdF⟩,rfl⟩;have hFA:Arr w0 (slH dF (F.flatMap encF) 127++((n6,Cl (hdC hd0) 32)::(n5,Cl (mdC b) 108)::(n4,Cl (mdC a) 108)::H)) (slQ dF) 3 encF F:=B3 (fun _=>rfl) hdF;refine rOt 5 U (e_ (Ag zeroValue32 cs_) ?_ U);rintro _ _ ⟨n9,rfl,rfl⟩;refine rOt 9 U ?_;refine A8 (X:=Nat × Hd) (V:=fun ⟨k,h⟩=>[(10,Vi (k:Nat))]) (C:=[(4,_),(5,_),(6,_),(8,_),(9,_)]) (G:=fun ⟨k,h⟩=>(n9,Cl (hdC h) 32)::(slH dF (F.flatMap encF) 127++((n6,Cl (hdC hd0) 32)::(n5,Cl (mdC b) 108)::(n4,Cl (mdC a) 108)::H))) (φ:=fun ⟨k,h⟩=>k<=F.length/\HdOk h/\h=setsF (cmV a b) (F.take k) hd0/\∀ f∈F.take k,cmB a b f=true) (μ:=fun ⟨k,h⟩=>F.length - k) (x0:=(0,hd0)) ?_ (kg U) qkg (by exact List.Sublist.refl _) ?_
 ·exact⟨Nat.zero_le _,Ay,rfl,fun f hf=>by simp at hf⟩
 rintro⟨k,h⟩ ⟨hk,hh,hhe,hal⟩;refine rDt 9 U ?_;refine jcd U (fun c18=> ?_) (fun c18=> ?_)
 ·have hk2:k<F.length:=Int.ofNat_lt.1 c18;have hfk:=hall _ (Ax hk2);refine rCt 5 U (Bf 16 (plq16 []) _ mixd qkr sb0 ?_ Bh);refine rPt 2 U (o_y U (Oo U U runUnderlying22 sizeOf127 qom (by first|exact rfl|exact hFA.b (i:=k) hk2)) ?_ U Ad);refine o_y U (On U isAgg127 sizeOf127 U (by exact(hFA.mono sbt).cs (i:=k) hk2)) ?_ U Ad;refine rPt 1 U ?_;refine o_y U (On U isAgg32 sizeOf32 (Af ha.1) (by exact E7 (m:=a) fndq)) ?_ U Ad;refine o_y U (Ao (evq2 U U) call113 (fun H' hs=>Gl (gd F k) hfk a.1 ha.1)) (rPt 2 U (o_y U (Oo U U runUnderlying22 sizeOf127 qom (by first|exact rfl|exact hFA.b (i:=k) hk2)) ?_ U Ad)) U Ad;refine o_y U (On U isAgg127 sizeOf127 U (by exact(hFA.mono sbt).cs (i:=k) hk2)) ?_ U Ad;refine rPt 1 U ?_;refine o_y U (On U isAgg32 sizeOf32 (Af hb.1) (by exact E7 (m:=b) fndq)) ?_ U Ad;refine o_y U (Ao (evq2 U U) call113 (fun H' hs=>Gl (gd F k) hfk b.1 hb.1)) (o_y U (yl_max (T U) (T U)) (rPt 1 U (Av U (rOt 3 U (Bf 16 (plq16 []) _ mixd qkr sb0 ?_ Bh)))) U Ad) U Ad;refine rPt 2 U (o_y U (Oo U U runUnderlying22 sizeOf127 qom (by first|exact rfl|exact hFA.b (i:=k) hk2)) ?_ U Ad);refine o_y U (On U isAgg127 sizeOf127 U (by exact(hFA.mono sbt).cs (i:=k) hk2)) ?_ U Ad;refine rPt 1 U ?_;refine o_y U (On U isAgg32 sizeOf32 (Af ha.2) (by exact El (m:=a) ha.1 fndq)) ?_ U Ad;refine o_y U (Ao (evq2 U U) call113 (fun H' hs=>Gl (gd F k) hfk a.2 ha.2)) (rPt 2 U (o_y U (Oo U U runUnderlying22 sizeOf127 qom (by first|exact rfl|exact hFA.b (i:=k) hk2)) ?_ U Ad)) U Ad;refine o_y U (On U isAgg127 sizeOf127 U (by exact(hFA.mono sbt).cs (i:=k) hk2)) ?_ U Ad;refine rPt 1 U ?_;refine o_y U (On U isAgg32 sizeOf32 (Af hb.2) (by exact El (m:=b) hb.1 fndq)) ?_ U Ad;refine o_y U (Ao (evq2 U U) call113 (fun H' hs=>Gl (gd F k) hfk b.2 hb.2)) (o_y U (yl_min (T U) (T U)) (rPt 1 U (Av U (kO tb 2 [4,5,6,8,9,10,11,12] rfl U (rGt 8 U ?_)))) U Ad) U Ad;refine jcd U (fun c53=> ?_) (fun c53=> ?_)
  ·obtain⟨hc1,hc2⟩:=cm_no hk2 (show ¬ cmB a b (gd F k)=true from fun e=>by have e2:=of_decide_eq_true e;have h9:max ((fget (gd F k) a.1:Nat):Int) (fget (gd F k) b.1:Nat)>min ((fget (gd F k) a.2:Nat):Int) (fget (gd F k) b.2:Nat):=c53;unfold cmV at e2;omega);refine rCt 2 U (y_ (A1 .nil (fun w=>bd32h w)) (e_ (Oq U U sizeOf32 .agg (Bc _) (Af Ay) updq qrf) ?_ U) U);rintro _ _ ⟨rfl,rfl⟩;refine rOt 7 U (Bg (rXt 2 U (Ai U (.cellA (Aa U) isAgg32 sizeOf32 (Af Ay) qcs (Ol U)) ?_)));exact⟨_,⟨by rw[hc1,hc2];rfl,rfl⟩,sbt⟩
  ·have hcb:cmB a b (gd F k)=true:=decide_eq_true (by have h9: ¬ max ((fget (gd F k) a.1:Nat):Int) (fget (gd F k) b.1:Nat)>min ((fget (gd F k) a.2:Nat):Int) (fget (gd F k) b.2:Nat):=c53;unfold cmV;omega);refine rCt 2 U (Bf 7 (plq7 []) _ mixd qkr sb0 ?_ Bh);refine rPt 2 U (o_y U (Oo U U runUnderlying22 sizeOf127 qom (by first|exact rfl|exact hFA.b (i:=k) hk2)) ?_ U Ad);refine o_y U (On U isAgg127 sizeOf127 U (by exact(hFA.mono sbt).cs (i:=k) hk2)) ?_ U Ad;refine o_y U (On U isAgg32 sizeOf32 (Af hh) (by exact Ae fndq)) ?_ U Ad;refine rPt 1 U (o_y U (Ao (evq3 U U U) call83 (fun H' hs=>rset_v (gd F k) hfk h hh (cmV a b (gd F k)) (by unfold cmV;omega) (cmV_lt _ _ _))) ?_ U Ad);refine Av U (e_ (Oq U U sizeOf32 .agg (Bc _) (Af (Bz _ _ _)) updq (by rw[Af hh,Af (Bz _ _ _)])) ?_ U);rintro _ _ ⟨rfl,rfl⟩;refine rOt 5 U (y_ (Aw (T U) Al qom) ?_ U);refine rOt 2 U ?_;refine Au ((k+1,fset (gd F k) h (cmV a b (gd F k)))) ?_ ?_ qkg (kg U) ?_
   ·refine⟨hk2,Bz _ _ _,by rw[I9 hk2,<- hhe],fun f hf=> ?_⟩;rw[List.take_succ_eq_append_getElem hk2,<- Ar hk2] at hf;rcases List.mem_append.1 hf with hf|hf
    ·exact hal f hf
    ·rw[List.mem_singleton.1 hf];exact hcb
   ·first|omega|(simp only[];omega)
   ·exact sb0
 ·obtain rfl:k=F.length:=by have h9: ¬ ((k:Nat):Int)<(F.length:Nat):=c18;omega
  rw[List.take_length] at hhe hal;obtain⟨hc1,hc2⟩:=cm_yes hhe hal;refine rCt 2 U (An (rXt 4 U ?_));refine y_ (On U isAgg32 sizeOf32 (Af hh) (by exact Ae fndq)) ?_ U;refine e_ (Oq U U sizeOf32 .agg (Bc _) (Af hh) updq (by rw[Af hh,Af Ay])) ?_ U;rintro _ _ ⟨rfl,rfl⟩;refine rOt 4 U (Ai U (.cellA (Aa U) isAgg32 sizeOf32 (Af hh) qcs (Ol U)) ?_);exact⟨_,⟨by rw[hc1,hc2];rfl,rfl⟩,sbt⟩
def imX (F:List Fd) (cuts:Fd->List Nat) (lc:List Hd) (L:List Gvh) (i:Nat):List Md:=(List.range i).flatMap fun k=>(gd L k).l.map (imgF F (gd lc k) (topF cuts F (gd lc k)))
section
variable {F:List Fd} {cuts:Fd->List Nat} {lc:List Hd} {L:List Gvh} {i k:Nat} {w0:World} {H:Mm} {t:Int} {p:Po} {q:Option Addr} {xs ys:List Md} {a b x:Md} {h:Hd} {is:Bool}
theorem imX_next:imX F cuts lc L (i+1)=imX F cuts lc L i++(gd L i).l.map (imgF F (gd lc i) (topF cuts F (gd lc i))):=by
 unfold imX;rw[List.range_succ,List.flatMap_append];simp
theorem Kr (h:GivA w0 H (den t p) lc L q):∀ {i:Nat},i<=lc.length->(imX F cuts lc L i).length<=256*i
 |0,_=>by simp[imX]
 |i+1,hi=>by
  have h1:=Kr h (i:=i) qom;have h2:=(h.set i qom).2.2.2;rw[imX_next,List.length_append,List.length_map];omega
theorem imX_ok (h:GivA w0 H (den t p) lc L q)(hi:i<=lc.length):∀ a∈imX F cuts lc L i,HdOk a.1/\HdOk a.2:=fun a ha=>by
 obtain⟨k,hk,h1⟩:=List.mem_flatMap.1 ha;obtain⟨g,hg,rfl⟩:=List.mem_map.1 h1;have hg2:=(h.set k (by have:=List.mem_range.1 hk;omega)).1.2.1 g hg;exact⟨hg2,Gf _ _ hg2⟩
theorem imX_imgs (h:GivA w0 H (den t p) lc L q)(hc:lc=cornF cuts F [hd0]):Imgs F cuts t p (imX F cuts lc L lc.length):=by
 refine⟨fun a ha=> ?_,fun lo hlo g d=> ?_⟩
 ·obtain⟨k,hk,h1⟩:=List.mem_flatMap.1 ha;obtain⟨g,hg,rfl⟩:=List.mem_map.1 h1;have hk:=List.mem_range.1 hk;exact⟨gd lc k,hc ▸ Ax hk,g,((h.set k hk).2.2.1 g).1 hg,rfl⟩
 ·rw[<- hc] at hlo;obtain⟨k,hk,rfl⟩:=List.getElem_of_mem hlo;rw[<- Ar hk] at d ⊢;exact List.mem_flatMap.2 ⟨k,List.mem_range.2 hk,List.mem_map.2 ⟨g,((h.set k hk).2.2.1 g).2 d,rfl⟩⟩
theorem K4:HdOk (cmH F a b):=by
 unfold cmH cmF
 split
 ·exact Gf _ _ Ay
 ·exact Ay
theorem take_m (hk:k<xs.length):xs.take (k+1)=xs.take k++[gd xs k]:=by rw[List.take_succ_eq_append_getElem hk,<- Ar hk]
theorem prs_row (hi:i<xs.length):pairsF F (xs.take i) ys++(ys.take ys.length).filterMap (fun b=>cmF F (gd xs i) b)=pairsF F (xs.take (i+1)) ys:=by
 unfold pairsF;rw[List.take_length,take_m hi,List.flatMap_append];simp
theorem prs_yes (hk:k<ys.length)(h1:cmI F x (gd ys k)=true):(ys.take (k+1)).filterMap (fun b=>cmF F x b)=(ys.take k).filterMap (fun b=>cmF F x b)++[cmH F x (gd ys k)]:=by
 rw[take_m hk,List.filterMap_append]
 congr 1
 have h2:=of_decide_eq_true h1;unfold cmH;cases e:cmF F x (gd ys k) with
 |none=>exact absurd e h2
 |some y=>simp[e]
theorem prs_no (hk:k<ys.length)(h1: ¬ cmI F x (gd ys k)=true):(ys.take (k+1)).filterMap (fun b=>cmF F x b)=(ys.take k).filterMap (fun b=>cmF F x b):=by
 rw[take_m hk,List.filterMap_append];cases e:cmF F x (gd ys k) with
 |none=>simp[e]
 |some y=>exact absurd (decide_eq_true (by rw[e];intro h;cases h)) h1
end
theorem md_cs2 {b o:Nat}{m:Md}(hr:HdOk m.1/\HdOk m.2)(h:Cells w0 H b o (encMdF m)):Cells w0 H b o (mdC m):=by rw[<- D7 hr];exact h
theorem dst_corners {fl:List Fd}(hfl:FlOk fl){m1 m2:Pom}{p q:Po}(i1:IsO fl m1 p)(i2:IsO fl m2 q)(f1:p.Fit (bsF fl))(f2:q.Fit (bsF fl))(s1:FmS fl m1)(s2:FmS fl m2){t:Int}{X Y:List Md}(hX:Imgs (portFd::fl) (cutsL [m1,m2]) t p X)(hY:Imgs (portFd::fl) (cutsL [m1,m2]) t q Y){h:Hd}{is:Bool}(a:LstOf (pairsF (portFd::fl) X Y) h is):Ans (DstP t p q) h is:=
 dst_ans (Ma hfl) (cutsL_ok (portFd::fl) [m1,m2]) (Ln (fl:=fl) [m1,m2] (by simp) i1 f1 s1.2) (Ln (fl:=fl) [m1,m2] (by simp) i2 f2 s2.2) hX hY a
theorem rdst_s {fl:List Fd}(hfl:FlOk fl)(q:Option Addr)(c:Nat)(hA:Arr w0 H q 3 encF fl){m1:Pom}{p1:Po}(hI1:IsO fl m1 p1)(hF1:p1.Fit (bsF fl))(hS1:FmS fl m1)(hM1:PoM w0 H m1)(hz1:m1.sz<=100000000){m2:Pom}{p2:Po}(hI2:IsO fl m2 p2)(hF2:p2.Fit (bsF fl))(hS2:FmS fl m2)(hM2:PoM w0 H m2)(hz2:m2.sz<=100000000)(tick:Int):
  FSpec prog w0 23 #[.slice q fl.length c, .agg (encPo m1).toArray, .agg (encPo m2).toArray,Vi tick] H (AnsE (Ans (DstP tick p1 p2)) H):=by
 refine Am func23 U ntmps23 U (rDt 2 U (e_ (Ot U cs_) ?_ U));rintro _ _ ⟨n5,rfl,rfl⟩;refine e_ (Ot U cs_) ?_ U;rintro _ _ ⟨n6,rfl,rfl⟩;refine e_ (Ag zeroValue38 cs_) ?_ U;rintro _ _ ⟨n8,rfl,rfl⟩;refine rOt 4 U ?_;refine y_ (On U isAgg28 sizeOf28 U (by exact Ae fndq)) ?_ U;refine y_ (On U isAgg28 sizeOf28 U (by exact Ae fndq)) ?_ U;refine e_ (Bb (.cons (T U) (.cons (T U) .nil)) (Gg _ _ _ _ _ _ _ _ _ _ _ _ _ _ _ _ _ _ _ _ _ _ _ _ _ _)) ?_ U;rintro _ _ ⟨n26,rfl,rfl⟩;refine rOt 7 U (e_ (Ah (evq2 U U) call50 (corners_s hfl q c (hA.mono sbt) (portFd::fl) U [m1,m2] (some ⟨n26,0,none⟩) 2 (Ei (l:=[m1,m2]) pos9 fnd_h) (pols_of hfl (hM1.mono sbt) (hM2.mono sbt) hS1 hS2 hz1 hz2))) ?_ U);rintro _ M1 ⟨lc,qc,cc,rfl,hC1,hc1,hc5,hs1⟩;refine rOt 6 U ?_;refine y_ (On U isAgg28 sizeOf28 U (by exact Ae (Fnd.mono (fndq:Fnd ((n26,Cl (encPo m1++encPo m2) 28)::(n8,Cl (ansC false hd0 false) 38)::(n6,Cl (encPo m2) 28)::(n5,Cl (encPo m1) 28)::H) n5 (Cl (encPo m1) 28)) hs1))) ?_ U;refine rOt 2 U (e_ (Ah (evq4 U U U U) call51 (Kq hfl q c (hA.mono ((show H.Sublist ((n26,Cl (encPo m1++encPo m2) 28)::(n8,Cl (ansC false hd0 false) 38)::(n6,Cl (encPo m2) 28)::(n5,Cl (encPo m1) 28)::H) by exact sbt).trans hs1)) tick hI1 hF1 (hM1.mono ((show H.Sublist ((n26,Cl (encPo m1++encPo m2) 28)::(n8,Cl (ansC false hd0 false) 38)::(n6,Cl (encPo m2) 28)::(n5,Cl (encPo m1) 28)::H) by exact sbt).trans hs1)) hz1 lc qc cc hC1 hc5)) ?_ U);rintro _ M2 ⟨L1,q1,c1,b1,⟨rfl,hG1⟩,hs2⟩;refine rOt 10 U ?_;refine y_ (On U isAgg28 sizeOf28 U (by exact Ae (Fnd.mono (fndq:Fnd ((n26,Cl (encPo m1++encPo m2) 28)::(n8,Cl (ansC false hd0 false) 38)::(n6,Cl (encPo m2) 28)::(n5,Cl (encPo m1) 28)::H) n6 (Cl (encPo m2) 28)) (hs1.trans hs2)))) ?_ U;refine rOt 2 U (e_ (Ah (evq4 U U U U) call51 (Kq hfl q c (hA.mono ((show H.Sublist ((n26,Cl (encPo m1++encPo m2) 28)::(n8,Cl (ansC false hd0 false) 38)::(n6,Cl (encPo m2) 28)::(n5,Cl (encPo m1) 28)::H) by exact sbt).trans (hs1.trans hs2))) tick hI2 hF2 (hM2.mono ((show H.Sublist ((n26,Cl (encPo m1++encPo m2) 28)::(n8,Cl (ansC false hd0 false) 38)::(n6,Cl (encPo m2) 28)::(n5,Cl (encPo m1) 28)::H) by exact sbt).trans (hs1.trans hs2))) hz2 lc qc cc (hC1.mono hs2) hc5)) ?_ U);rintro _ M3 ⟨L2,q2,c2,b2,⟨rfl,hG2⟩,hs3⟩;have hG1:=fun e=>(hG1 e).mono hs3
 have hC3:=hC1.mono (hs2.trans hs3);have hP3:Arr w0 M3 (some ⟨n26,0,none⟩) 9 encPo [m1,m2]:=(Ei (l:=[m1,m2]) pos9 (fnd_h:Fnd ((n26,Cl (encPo m1++encPo m2) 28)::(n8,Cl (ansC false hd0 false) 38)::(n6,Cl (encPo m2) 28)::(n5,Cl (encPo m1) 28)::H) n26 (Cl ([m1,m2].flatMap encPo) 28))).mono (hs1.trans (hs2.trans hs3));have hPC:=(pols_of hfl hM1 hM2 hS1 hS2 hz1 hz2).mono ((show H.Sublist ((n26,Cl (encPo m1++encPo m2) 28)::(n8,Cl (ansC false hd0 false) 38)::(n6,Cl (encPo m2) 28)::(n5,Cl (encPo m1) 28)::H) by exact sbt).trans (hs1.trans (hs2.trans hs3)));have hHM:=(show H.Sublist ((n26,Cl (encPo m1++encPo m2) 28)::(n8,Cl (ansC false hd0 false) 38)::(n6,Cl (encPo m2) 28)::(n5,Cl (encPo m1) 28)::H) by exact sbt).trans (hs1.trans (hs2.trans hs3));obtain⟨A9,B9,rfl,hAB⟩:=mid_sub (A:=[(n26,Cl (encPo m1++encPo m2) 28)]) (show ([(n26,Cl (encPo m1++encPo m2) 28)]++((n8,Cl (ansC false hd0 false) 38)::(n6,Cl (encPo m2) 28)::(n5,Cl (encPo m1) 28)::H)).Sublist M3 from hs1.trans (hs2.trans hs3));have hHAB:H.Sublist (A9++B9):=(show H.Sublist ([(n26,Cl (encPo m1++encPo m2) 28)]++((n6,Cl (encPo m2) 28)::(n5,Cl (encPo m1) 28)::H)) by exact sbt).trans hAB;refine kO tb 7 [0,8,9,10,11,12,13,14] rfl U (rGt 7 U ?_);refine Aq (s:=49) (Aa U) (fun c49=> ?_) (fun c49=> ?_)
 ·skip
  refine rOt 17 U (y_ (A1 .nil (Ff)) (e_ (Oq U U sizeOf38 .agg (B4 false hd0 false) (A3 Ay) updq qrf) ?_ U) U);rintro _ _ ⟨rfl,rfl⟩;refine rOt 4 U (Ai U (.cellA (Aa U) isAgg38 sizeOf38 (A3 Ay) qcs .nil) ?_);exact⟨_,⟨false,hd0,false,⟨rfl,Ay,fun h=>(Bool.false_ne_true h).elim⟩,rfl⟩,hHAB.trans ((List.Sublist.refl A9).append (List.sublist_cons_self _ _))⟩
 ·have hl0: ¬ lc.length=0:=by have h9: ¬ ((lc.length:Nat):Int)=0:=c49;omega
  refine rOt 5 U ?_;refine Aq (s:=54) (Aa U) (fun c54=> ?_) (fun c54=> ?_)
  ·skip
   refine rOt 12 U (y_ (A1 .nil (Ff)) (e_ (Oq U U sizeOf38 .agg (B4 false hd0 false) (A3 Ay) updq qrf) ?_ U) U);rintro _ _ ⟨rfl,rfl⟩;refine rOt 4 U (Ai U (.cellA (Aa U) isAgg38 sizeOf38 (A3 Ay) qcs .nil) ?_);exact⟨_,⟨false,hd0,false,⟨rfl,Ay,fun h=>(Bool.false_ne_true h).elim⟩,rfl⟩,hHAB.trans ((List.Sublist.refl A9).append (List.sublist_cons_self _ _))⟩
  ·have hl6:lc.length<=60:=by have h9: ¬ ((lc.length:Nat):Int)>60:=c54;omega
   refine rOt 1 U ?_
   first|refine A6 (Bt (T U)) U (A7 U U (Aa U)) ?_|refine A6 (Bq (T U)) U (A7 U U (Aa U)) ?_
   refine rOt 2 U ?_
   first|refine Aq (s:=58) (Aa U) (fun c58=> ?_) (fun c58=> ?_)|refine C0 (s:=58) (Aa U) (fun c58=> ?_) (fun c58=> ?_)
   ·skip
    refine rOt 8 U (y_ (A1 .nil (Ff)) (e_ (Oq U U sizeOf38 .agg (B4 false hd0 false) (A3 Ay) updq qrf) ?_ U) U);rintro _ _ ⟨rfl,rfl⟩;refine rOt 4 U (Ai U (.cellA (Aa U) isAgg38 sizeOf38 (A3 Ay) qcs .nil) ?_);exact⟨_,⟨false,hd0,false,⟨rfl,Ay,fun h=>(Bool.false_ne_true h).elim⟩,rfl⟩,hHAB.trans ((List.Sublist.refl A9).append (List.sublist_cons_self _ _))⟩
   ·have hg1:=hG1 (by simpa using c58);refine rOt 1 U ?_
    first|refine A6 (Bt (T U)) U (A7 U U (Aa U)) ?_|refine A6 (Bq (T U)) U (A7 U U (Aa U)) ?_
    refine rOt 3 U ?_
    first|refine jcd U (fun c61=> ?_) (fun c61=> ?_)|refine jcn U (fun c61=> ?_) (fun c61=> ?_)
    ·skip
     refine rCt 2 U (y_ (A1 .nil (Ff)) (e_ (Oq U U sizeOf38 .agg (B4 false hd0 false) (A3 Ay) updq qrf) ?_ U) U);rintro _ _ ⟨rfl,rfl⟩;refine rOt 4 U (Ai U (.cellA (Aa U) isAgg38 sizeOf38 (A3 Ay) qcs .nil) ?_);exact⟨_,⟨false,hd0,false,⟨rfl,Ay,fun h=>(Bool.false_ne_true h).elim⟩,rfl⟩,hHAB.trans ((List.Sublist.refl A9).append (List.sublist_cons_self _ _))⟩
    ·have hg2:=hG2 (by simpa using c61);have hcn:=hc1.resolve_left (fun e=>hl0 (by rw[e];rfl));refine rCt 19 U ?_;refine A8 (X:=Nat × Sl × Sl × List Md × List Md) (V:=fun ⟨i,dx,dy,xs,ys⟩=>[(15,slV dx xs.length),(16,slV dy ys.length),(17,Vi (i:Nat))]) (C:=[(0,_),(8,_),(9,_),(10,_),(11,_),(13,_)]) (G:=fun ⟨i,dx,dy,xs,ys⟩=>slH dx (xs.flatMap encMdF) 108++(slH dy (ys.flatMap encMdF) 108++(A9++((n8,Cl (ansC false hd0 false) 38)::B9)))) (φ:=fun ⟨i,dx,dy,xs,ys⟩=>i<=lc.length/\SlOk dx xs.length 20/\SlOk dy ys.length 20/\xs=imX (portFd::fl) (cutsL [m1,m2]) lc L1 i/\ys=imX (portFd::fl) (cutsL [m1,m2]) lc L2 i) (μ:=fun ⟨i,dx,dy,xs,ys⟩=>lc.length - i) (x0:=(0, .nil, .nil,[],[])) ?_ (kg U) qkg (by exact List.Sublist.refl _) ?_
     ·exact⟨Nat.zero_le _,rfl,rfl,rfl,rfl⟩
     rintro⟨i,dx,dy,xs,ys⟩ ⟨hi,hdx,hdy,hxs,hys⟩;refine rDt 9 U ?_;refine jcd U (fun c66=> ?_) (fun c66=> ?_)
     ·have hi2:i<lc.length:=Int.ofNat_lt.1 c66;have htp:HdOk (topF (cutsL [m1,m2]) (portFd::fl) (gd lc i)):=Gf _ _ (hC3.ok hi2);have hi3:i<L1.length:=by rw[hg1.len];exact hi2
      have hi4:i<L2.length:=by rw[hg2.len];exact hi2
      have hx9:=Kr (F:=(portFd::fl)) (cuts:=(cutsL [m1,m2])) hg1 (i:=i) hi;have hy9:=Kr (F:=(portFd::fl)) (cuts:=(cutsL [m1,m2])) hg2 (i:=i) hi;rw[<- hxs] at hx9;rw[<- hys] at hy9;have hx8:=(hg1.set i hi2).2.2.2;have hy8:=(hg2.set i hi2).2.2.2;have hx7:((gd L1 i).l.map (imgF (portFd::fl) (gd lc i) (topF (cutsL [m1,m2]) (portFd::fl) (gd lc i)))).length<=256:=by rw[List.length_map];exact hx8
      have hy7:((gd L2 i).l.map (imgF (portFd::fl) (gd lc i) (topF (cutsL [m1,m2]) (portFd::fl) (gd lc i)))).length<=256:=by rw[List.length_map];exact hy8
      refine rCt 10 U (y_ (Oo U U runUnderlying58 sizeOf32 qom (by first|exact rfl|exact hC3.1.b (i:=i) hi2)) ?_ U);refine y_ (On U isAgg32 sizeOf32 (Af (hC3.ok hi2)) (by exact((hC3.mono sbt).hd).cs (i:=i) hi2)) ?_ U;refine y_ (Ao (evq3 U U U) call70 (fun H' hs=>rtop_s hfl q c (hA.mono (hHM.trans (stn hs))) (portFd::fl) U [m1,m2] (some ⟨n26,0,none⟩) 2 (hP3.mono (stn hs)) (hPC.mono (stn hs)) (gd lc i) (hC3.ok hi2))) (e_ (Ag zeroValue32 cs_) ?_ U) U;rintro _ _ ⟨n18,rfl,rfl⟩;refine e_ (Oq U U sizeOf32 .agg (Bc _) (Af htp) updq (by rw[Af htp];rfl)) ?_ U;rintro _ _ ⟨rfl,rfl⟩;refine rOt 3 U (Bf 12 (plq11 [(11,false)]) _ mixd qkr sb0 ?_ Bh);refine rPt 4 U (o_y U (Oo U U runUnderlying58 sizeOf32 qom (by first|exact rfl|exact hC3.1.b (i:=i) hi2)) ?_ U Ad);refine o_y U (On U isAgg32 sizeOf32 (Af (hC3.ok hi2)) (by exact((hC3.mono sbt).hd).cs (i:=i) hi2)) ?_ U Ad;refine o_y U (On U isAgg32 sizeOf32 (Af htp) (by exact Ae fndq)) ?_ U Ad;refine rPt 2 U (o_y U (Oo U U runUnderlying79 sizeOf58 qom (by first|exact rfl|exact hC3.1.b (i:=i) hi2|exact hg1.arr.b (i:=i) hi3)) ?_ U Ad);refine o_y U (Om U isAgg58 (by first|exact c_o|exact(hg1.arr.mono sbt).f0 (i:=i) hi3 U)) ?_ U Ad;refine o_e U (Ah (evq4 U U U U) call71 (rimg_s hfl q c (hA.mono (hHM.trans sbt)) (portFd::fl) U (gd lc i) (hC3.ok hi2) (topF (cutsL [m1,m2]) (portFd::fl) (gd lc i)) htp (gd L1 i).l (gd L1 i).q (gd L1 i).c ((hg1.set i hi2).1.mono sbt) (by have:=(hg1.set i hi2).2.2.2;omega))) ?_ U Ad;rintro _ _ ⟨d4,⟨rfl,hd4⟩,rfl⟩;refine⟨sbt,(Av U (e_ (Bu (enc:=encMdF) (d:=dx) (l:=xs) ((gd L1 i).l.map (imgF (portFd::fl) (gd lc i) (topF (cutsL [m1,m2]) (portFd::fl) (gd lc i)))) (by':=160) locq (T U) (T U) runUnderlying103 runUnderlying103 sizeOf108 typeInfo108 U zeroValue108 U Ce D3 hdx qde qom ((B3 (w0:=w0) (e:=108) (X:=[]) (enc:=encMdF) Ce hd4).mono (by rw[List.append_nil];exact List.sublist_append_left _ _))) ?_ U))⟩;rintro _ _ ⟨dx2,rfl,hdx2,rfl⟩;refine kO tb 3 [0,8,9,10,11,13,15,16,17,18] rfl U (Bf 12 (plq11 [(11,false)]) _ mixd qkr sb0 ?_ Bh);refine rPt 4 U (o_y U (Oo U U runUnderlying58 sizeOf32 qom (by first|exact rfl|exact hC3.1.b (i:=i) hi2)) ?_ U Ad);refine o_y U (On U isAgg32 sizeOf32 (Af (hC3.ok hi2)) (by exact((hC3.mono sbt).hd).cs (i:=i) hi2)) ?_ U Ad;refine o_y U (On U isAgg32 sizeOf32 (Af htp) (by exact Ae fndq)) ?_ U Ad;refine rPt 2 U (o_y U (Oo U U runUnderlying79 sizeOf58 qom (by first|exact rfl|exact hC3.1.b (i:=i) hi2|exact hg1.arr.b (i:=i) hi3|exact hg2.arr.b (i:=i) hi4)) ?_ U Ad);refine o_y U (Om U isAgg58 (by first|exact c_o|exact(hg2.arr.mono sbt).f0 (i:=i) hi4 U)) ?_ U Ad;refine o_e U (Ah (evq4 U U U U) call71 (rimg_s hfl q c (hA.mono (hHM.trans sbt)) (portFd::fl) U (gd lc i) (hC3.ok hi2) (topF (cutsL [m1,m2]) (portFd::fl) (gd lc i)) htp (gd L2 i).l (gd L2 i).q (gd L2 i).c ((hg2.set i hi2).1.mono sbt) (by have:=(hg2.set i hi2).2.2.2;omega))) ?_ U Ad;rintro _ _ ⟨d5,⟨rfl,hd5⟩,rfl⟩;refine⟨sbt,(Av U (e_ (Bu (enc:=encMdF) (d:=dy) (l:=ys) ((gd L2 i).l.map (imgF (portFd::fl) (gd lc i) (topF (cutsL [m1,m2]) (portFd::fl) (gd lc i)))) (by':=160) locq (T U) (T U) runUnderlying103 runUnderlying103 sizeOf108 typeInfo108 U zeroValue108 U Ce D3 hdy qde qom ((B3 (w0:=w0) (e:=108) (X:=[]) (enc:=encMdF) Ce hd5).mono (by rw[List.append_nil];exact List.sublist_append_left _ _))) ?_ U))⟩;rintro _ _ ⟨dy2,rfl,hdy2,rfl⟩;refine rOt 6 U (y_ (Aw (T U) Al qom) ?_ U);refine rOt 2 U ?_;refine Au ((i+1,dx2,dy2,xs++((gd L1 i).l.map (imgF (portFd::fl) (gd lc i) (topF (cutsL [m1,m2]) (portFd::fl) (gd lc i)))),ys++((gd L2 i).l.map (imgF (portFd::fl) (gd lc i) (topF (cutsL [m1,m2]) (portFd::fl) (gd lc i)))))) ?_ ?_ ⟨atd,atd,qat,trivial⟩ (kg U) ?_
      ·exact⟨hi2,by rw[List.length_append];exact hdx2,by rw[List.length_append];exact hdy2,by rw[imX_next,<- hxs],by rw[imX_next,<- hys]⟩
      ·first|omega|(simp only[];omega)
      ·exact sbt
     ·obtain rfl:i=lc.length:=by have h9: ¬ ((i:Nat):Int)<(lc.length:Nat):=c66;omega
      have hX0:=imX_ok (F:=(portFd::fl)) (cuts:=(cutsL [m1,m2])) hg1 (Nat.le_refl _);have hY0:=imX_ok (F:=(portFd::fl)) (cuts:=(cutsL [m1,m2])) hg2 (Nat.le_refl _);rw[<- hxs] at hX0;rw[<- hys] at hY0;have hx9:=Kr (F:=(portFd::fl)) (cuts:=(cutsL [m1,m2])) hg1 (Nat.le_refl _);have hy9:=Kr (F:=(portFd::fl)) (cuts:=(cutsL [m1,m2])) hg2 (Nat.le_refl _);rw[<- hxs] at hx9;rw[<- hys] at hy9;have hXI:=imX_imgs hg1 hcn;have hYI:=imX_imgs hg2 hcn;rw[<- hxs] at hXI;rw[<- hys] at hYI;have hXA:Arr w0 (slH dx (xs.flatMap encMdF) 108++(slH dy (ys.flatMap encMdF) 108++(A9++((n8,Cl (ansC false hd0 false) 38)::B9)))) (slQ dx) 20 encMdF xs:=B3 Ce hdx;have hYA:Arr w0 (slH dy (ys.flatMap encMdF) 108++(A9++((n8,Cl (ansC false hd0 false) 38)::B9))) (slQ dy) 20 encMdF ys:=B3 Ce hdy;refine rCt 2 U (An (rXt 4 U (y_ (A1 (.cons Al (.cons Al .nil)) (Kb2 _ _)) (e_ (Ag zeroValue38 cs_) ?_ U) U)));rintro _ _ ⟨n19,rfl,rfl⟩;refine e_ (Oq U U sizeOf38 .agg (B4 true hd0 true) (A3 Ay) updq qrf) ?_ U;rintro _ _ ⟨rfl,rfl⟩;refine rOt 9 U ?_;refine A8 (X:=Nat × Hd × Bool) (V:=fun ⟨i,h,is⟩=>[(20,Vi (i:Nat))]) (C:=[(0,_),(8,_),(15,_),(16,_),(19,_)]) (G:=fun ⟨i,h,is⟩=>(n19,Cl (ansC true h is) 38)::(slH dx (xs.flatMap encMdF) 108++(slH dy (ys.flatMap encMdF) 108++(A9++((n8,Cl (ansC false hd0 false) 38)::B9))))) (φ:=fun ⟨i,h,is⟩=>i<=xs.length/\HdOk h/\LstOf (pairsF (portFd::fl) (xs.take i) ys) h is) (μ:=fun ⟨i,h,is⟩=>xs.length - i) (x0:=(0,hd0,true)) ?_ (kg U) qkg (by exact List.Sublist.refl _) ?_
      ·exact⟨Nat.zero_le _,Ay,lst_nil⟩
      rintro⟨i,h,is⟩ ⟨hi,hh,hLs⟩;refine rDt 9 U ?_;refine jcd U (fun c106=> ?_) (fun c106=> ?_)
      ·have hi5:i<xs.length:=Int.ofNat_lt.1 c106;have hxi:=hX0 _ (Ax hi5);refine rCt 10 U ?_;refine A8 (X:=Nat × Hd × Bool) (V:=fun ⟨k,h,is⟩=>[(21,Vi (k:Nat))]) (C:=[(0,_),(8,_),(15,_),(16,_),(19,_),(20,_)]) (G:=fun ⟨k,h,is⟩=>(n19,Cl (ansC true h is) 38)::(slH dx (xs.flatMap encMdF) 108++(slH dy (ys.flatMap encMdF) 108++(A9++((n8,Cl (ansC false hd0 false) 38)::B9))))) (φ:=fun ⟨k,h,is⟩=>k<=ys.length/\HdOk h/\LstOf (pairsF (portFd::fl) (xs.take i) ys++(ys.take k).filterMap (fun b=>cmF (portFd::fl) (gd xs i) b)) h is) (μ:=fun ⟨k,h,is⟩=>ys.length - k) (x0:=(0,h,is)) ?_ (kg U) qkg (by exact List.Sublist.refl _) ?_
       ·exact⟨Nat.zero_le _,hh,by rw[List.take_zero,List.filterMap_nil,List.append_nil];exact hLs⟩
       rintro⟨k,h,is⟩ ⟨hk,hh,hL2⟩;refine rDt 9 U ?_;refine jcd U (fun c112=> ?_) (fun c112=> ?_)
       ·have hk2:k<ys.length:=Int.ofNat_lt.1 c112;have hyk:=hY0 _ (Ax hk2);refine rCt 5 U (Bf 16 (plq13 [(13,false),(14,false),(15,true)]) _ mixd qkr sb0 ?_ Bh);refine rPt 3 U (o_y U (Oo U U runUnderlying103 sizeOf108 qom (by first|exact rfl|exact hC3.1.b (i:=i) hi2|exact hg1.arr.b (i:=i) hi3|exact hg2.arr.b (i:=i) hi4|exact hXA.b (i:=i) hi5)) ?_ U Ad);refine o_y U (On U isAgg108 sizeOf108 (Bd hxi.1 hxi.2) (by exact md_cs2 hxi ((hXA.mono sbt).cs (i:=i) hi5))) ?_ U Ad;refine rPt 2 U (o_y U (Oo U U runUnderlying103 sizeOf108 qom (by first|exact rfl|exact hC3.1.b (i:=i) hi2|exact hg1.arr.b (i:=i) hi3|exact hg2.arr.b (i:=i) hi4|exact hXA.b (i:=i) hi5|exact hYA.b (i:=k) hk2)) ?_ U Ad);refine o_y U (On U isAgg108 sizeOf108 (Bd hyk.1 hyk.2) (by exact md_cs2 hyk ((hYA.mono sbt).cs (i:=k) hk2))) ?_ U Ad;refine o_y U (Ao (evq3 U U U) call72 (fun H' hs=>rcom_s hfl q c (hA.mono (hHM.trans (stn hs))) (portFd::fl) U (gd xs i) (gd ys k) hxi hyk)) (rPt 3 U (o_e U (Ag zeroValue32 cs_) ?_ U Ad)) U Ad;rintro _ _ ⟨n22,rfl,rfl⟩;refine⟨sbt,(o_e U (Oq U U sizeOf32 .agg (Bc _) (Af K4) updq (by rw[Af K4];rfl)) ?_ U Ad)⟩;rintro _ _ ⟨rfl,rfl⟩;refine⟨sbt,(rPt 1 U (Av U (rOt 7 U ?_)))⟩;refine jcd U (fun c128=> ?_) (fun c128=> ?_)
        ·have hci:cmI (portFd::fl) (gd xs i) (gd ys k)=true:=decide_eq_true c128;have hlo:=K1 (is:=is) hh (K4 (F:=(portFd::fl)) (a:=gd xs i) (b:=gd ys k));refine rCt 1 U ?_;refine y_ (On U isAgg38 sizeOf38 (A3 hh) (by exact Ae fndq)) ?_ U;refine y_ (On U isAgg32 sizeOf32 (Af K4) (by exact Ae fndq)) ?_ U;refine y_ (Ao (evq2 U U) call53 (fun H' hs=>rles_s true h hh is (cmH (portFd::fl) (gd xs i) (gd ys k)) K4)) (e_ (Oq U U sizeOf38 .agg (B4 _ _ _) (A3 hlo) updq (by rw[A3 hlo];rw[A3 hh])) ?_ U) U;rintro _ _ ⟨rfl,rfl⟩;refine kO tb 3 [0,8,15,16,19,20,21] rfl U (rGt 2 U (y_ (Aw (T U) Al qom) ?_ U));refine rOt 2 U ?_;refine Au ((k+1,lesH h is (cmH (portFd::fl) (gd xs i) (gd ys k)),lesI h is (cmH (portFd::fl) (gd xs i) (gd ys k)))) ?_ ?_ qkg (kg U) ?_
         ·exact⟨hk2,hlo,by rw[prs_yes hk2 hci,<- List.append_assoc];exact lst_step hh K4 hL2⟩
         ·first|omega|(simp only[];omega)
         ·exact sbt
        ·have hci: ¬ cmI (portFd::fl) (gd xs i) (gd ys k)=true:=fun e=>c128 (of_decide_eq_true e)
         refine rCt 5 U (y_ (Aw (T U) Al qom) ?_ U);refine rOt 2 U ?_;refine Au ((k+1,h,is)) ?_ ?_ qkg (kg U) ?_
         ·exact⟨hk2,hh,by rw[prs_no hk2 hci];exact hL2⟩
         ·first|omega|(simp only[];omega)
         ·exact sbt
       ·obtain rfl:k=ys.length:=by have h9: ¬ ((k:Nat):Int)<(ys.length:Nat):=c112;omega
        refine rCt 2 U (An (rXt 5 U (y_ (Aw (T U) Al qom) ?_ U)));refine rOt 2 U ?_;refine Au ((i+1,h,is)) ?_ ?_ qkg (kg U) ?_
        ·exact⟨hi5,hh,by rw[<- prs_row hi5];exact hL2⟩
        ·first|omega|(simp only[];omega)
        ·exact sb0
      ·obtain rfl:i=xs.length:=by have h9: ¬ ((i:Nat):Int)<(xs.length:Nat):=c106;omega
       rw[List.take_length] at hLs;refine rCt 2 U (An (rXt 4 U ?_));refine y_ (On U isAgg38 sizeOf38 (A3 hh) (by exact Ae fndq)) ?_ U;refine e_ (Oq U U sizeOf38 .agg (B4 _ _ _) (A3 hh) updq (by rw[A3 hh];rw[A3 Ay])) ?_ U;rintro _ _ ⟨rfl,rfl⟩;refine rOt 3 U (Ai U (.cellA (Aa U) isAgg38 sizeOf38 (A3 hh) qcs .nil) ?_)
       first|exact⟨_,⟨false,hd0,false,⟨rfl,Ay,fun h=>(Bool.false_ne_true h).elim⟩,rfl⟩,hHAB.trans ((List.Sublist.refl A9).append (List.sublist_cons_self _ _))⟩|exact⟨_,⟨true,h,is,⟨rfl,hh,fun _=>dst_corners hfl hI1 hI2 hF1 hF2 hS1 hS2 hXI hYI hLs⟩,rfl⟩,(hHAB.trans ((List.Sublist.refl A9).append (List.sublist_cons_self _ _))).trans sbt⟩
theorem eqtwo_s (fi:List Fi)(q:Option Addr)(n c:Nat)(hn:n=fi.length)(hA:Arr w0 H q 3 encFi fi)(hnm:∀ f∈fi,f.nm.size<=9223372036854775807){m1:Pom}(hM1:PoM w0 H m1)(hm1:m1.sz<=1048576)(hz1:NmO m1){m2:Pom}(hM2:PoM w0 H m2)(hm2:m2.sz<=1048576)(hz2:NmO m2)(tick:Int):
  FSpec prog w0 5 #[.slice q n c, .agg (encPo m1).toArray, .agg (encPo m2).toArray,Vi tick] H (Still (.bool true) H):=by
 refine Am func5 U ntmps5 U (rDt 2 U (e_ (Ot U cs_) ?_ U));rintro _ _ ⟨n5,rfl,rfl⟩;refine e_ (Ot U cs_) ?_ U;rintro _ _ ⟨n6,rfl,rfl⟩;refine rOt 5 U (y_ (Ao .nil call11 (fun H' hs=>sanity_s)) (rOt 7 U (y_ (On U isAgg28 sizeOf28 U qcs) ?_ U)) U);refine y_ (On U isAgg28 sizeOf28 U qcs) ?_ U;refine rOt 1 U (e_ (Ah (.cons (T U) (.cons (T U) (.cons (T U) (.cons Al (.cons (T U) .nil))))) call12 (both2_s fi q n c hn (hA.mono sbt) hnm (hM1.mono sbt) qom hz1 (hM2.mono sbt) qom hz2 30 tick)) ?_ U);rintro _ _ ⟨b,⟨rfl,hb⟩,rfl⟩
 first|refine A6 (Bt (T U)) U Ad ?_|refine A6 (Bq (T U)) U Ad ?_
 refine rOt 2 U ?_
 first|refine jcd U (fun c25=> ?_) (fun c25=> ?_)|refine jcn U (fun c25=> ?_) (fun c25=> ?_)
 ·skip
  refine rCt 8 U (Ai U (Ol U) ?_);exact⟨_,⟨rfl,rfl⟩,sbt⟩
 ·have hbt:b=true:=by simpa using c25
  obtain⟨⟨ht0,ht1⟩,hfi,⟨⟨hd1,p1,hI1,hF1⟩,hS1⟩,⟨hd2,p2,hI2,hF2⟩,hS2⟩:=hb hbt;have hfl:=hfi.fl;have hAf:=fis_arr hfi hA;have hln:n=(fi.map Fi.fd).length:=hn.trans (List.length_map _).symm;obtain⟨fl,hfe⟩:∃ fl,fi.map Fi.fd=fl:=⟨_,rfl⟩;rw[hfe] at hI1 hF1 hI2 hF2 hS1 hS2 hfl hAf hln;subst hln;obtain⟨e10,hE10,z10⟩:=errD_nz fl tick p1 p2;refine rCt 5 U (y_ (On U isAgg28 sizeOf28 U qcs) ?_ U);refine y_ (On U isAgg28 sizeOf28 U qcs) ?_ U;refine rOt 1 U (e_ (Ah (evq4 U U U U) call20 (ansK (eapart_s hfl q c (hAf.mono sbt) tick hI1 hF1 (hM1.mono sbt) hI2 hF2 (hM2.mono sbt)) (.inl U))) ?_ U);rintro _ _ ⟨h1,is1,e1,⟨rfl,o1,z1,k1⟩,rfl⟩;refine rOt 4 U (e_ (Ag zeroValue32 cs_) ?_ U);rintro _ _ ⟨n10,rfl,rfl⟩;refine e_ (Oq U U sizeOf32 .agg (Bc _) (Af o1) updq (by rw[Af o1];rfl)) ?_ U;rintro _ _ ⟨rfl,rfl⟩;refine rOt 7 U (y_ (On U isAgg28 sizeOf28 U qcs) ?_ U);refine y_ (On U isAgg28 sizeOf28 U qcs) ?_ U;refine rOt 1 U (e_ (Ah (evq4 U U U U) call21 (ansK (edistinct_s hfl q c (hAf.mono sbt) tick hI1 hF1 (hM1.mono sbt) hI2 hF2 (hM2.mono sbt) hd1 hd2 e10 hE10) z10)) ?_ U);rintro _ _ ⟨h2,is2,e2,⟨rfl,o2,z2,k2⟩,rfl⟩;refine rOt 4 U (e_ (Ag zeroValue32 cs_) ?_ U);rintro _ _ ⟨n13,rfl,rfl⟩;refine e_ (Oq U U sizeOf32 .agg (Bc _) (Af o2) updq (by rw[Af o2];rfl)) ?_ U;rintro _ _ ⟨rfl,rfl⟩;refine kO tb 4 [0,3,5,6,9,10,11,12,13,14,15] rfl U (rGt 3 U (y_ (On U isAgg28 sizeOf28 U qcs) ?_ U));refine y_ (On U isAgg28 sizeOf28 U qcs) ?_ U;refine rOt 1 U (e_ (Ah (evq4 U U U U) call22 (ansK (eslices_s hfl q c (hAf.mono sbt) tick hI1 hF1 (hM1.mono sbt) hI2 hF2 (hM2.mono sbt)) (.inl U))) ?_ U);rintro _ _ ⟨h3,is3,e3,⟨rfl,o3,z3,k3⟩,rfl⟩;refine rOt 4 U (e_ (Ag zeroValue32 cs_) ?_ U);rintro _ _ ⟨n16,rfl,rfl⟩;refine e_ (Oq U U sizeOf32 .agg (Bc _) (Af o3) updq (by rw[Af o3];rfl)) ?_ U;rintro _ _ ⟨rfl,rfl⟩;refine rOt 5 U (Bf 35 (plq9 [(9,false),(10,true),(11,true),(12,true),(13,true),(14,true),(15,true),(16,true),(17,true),(18,true),(19,true),(20,false),(21,true),(22,true),(23,true),(24,true),(25,true),(26,true),(27,true),(28,true),(29,true),(30,true),(31,false),(32,true),(33,true),(34,true)]) _ mixd qkr sb0 ?_ Bh);refine rPt 2 U ?_;refine o_y U (On U isAgg32 sizeOf32 (Af o1) (by exact Ae fndq)) ?_ U (A7 U U (Aa U));refine rPt 3 U (o_y U (On U isAgg28 sizeOf28 U qcs) ?_ U (A7 U U (Aa U)));refine o_y U (On U isAgg28 sizeOf28 U qcs) ?_ U (A7 U U (Aa U));refine rPt 1 U (o_e U (Ah (.cons (T U) (.cons Al (.cons (T U) (.cons (T U) (.cons (T U) .nil))))) call16 (Mb (Jr hfl q c (hAf.mono (show H.Sublist ((n16,Cl (hdC h3) 32)::(n13,Cl (hdC h2) 32)::(n10,Cl (hdC h1) 32)::(n6,Cl (encPo m2) 28)::(n5,Cl (encPo m1) 28)::H) by exact sbt)) 6 hI1 hF1 hS1 (hM1.mono (show H.Sublist ((n16,Cl (hdC h3) 32)::(n13,Cl (hdC h2) 32)::(n10,Cl (hdC h1) 32)::(n6,Cl (encPo m2) 28)::(n5,Cl (encPo m1) 28)::H) by exact sbt)) qom hI2 hF2 hS2 (hM2.mono (show H.Sublist ((n16,Cl (hdC h3) 32)::(n13,Cl (hdC h2) 32)::(n10,Cl (hdC h1) 32)::(n6,Cl (encPo m2) 28)::(n5,Cl (encPo m1) 28)::H) by exact sbt)) qom tick))) ?_ U (A7 U U (Aa U)));rintro _ _ ⟨kn4,x4,b4,⟨rfl,ox4,kk4⟩,rfl⟩;refine⟨sbt,(o_y U (Ao (evq4 U U U U) call15 (fun H' hs=>rsame_s h1 o1 is1 e1 z1 kn4 x4 ox4 b4 (fun e0 hk=>Ih (kk4 hk) (k1 e0)))) (rPt 2 U ?_) U (A7 U U (Aa U)))⟩;refine o_y U (On U isAgg32 sizeOf32 (Af o2) (by exact Ae fndq)) ?_ U (A7 U U (Aa U));refine rPt 3 U (o_y U (On U isAgg28 sizeOf28 U qcs) ?_ U (A7 U U (Aa U)));refine o_y U (On U isAgg28 sizeOf28 U qcs) ?_ U (A7 U U (Aa U));refine rPt 1 U (o_e U (Ah (evq4 U U U U) call23 (rdst_s hfl q c (hAf.mono (show H.Sublist ((n16,Cl (hdC h3) 32)::(n13,Cl (hdC h2) 32)::(n10,Cl (hdC h1) 32)::(n6,Cl (encPo m2) 28)::(n5,Cl (encPo m1) 28)::H) by exact sbt)) hI1 hF1 hS1 (hM1.mono (show H.Sublist ((n16,Cl (hdC h3) 32)::(n13,Cl (hdC h2) 32)::(n10,Cl (hdC h1) 32)::(n6,Cl (encPo m2) 28)::(n5,Cl (encPo m1) 28)::H) by exact sbt)) qom hI2 hF2 hS2 (hM2.mono (show H.Sublist ((n16,Cl (hdC h3) 32)::(n13,Cl (hdC h2) 32)::(n10,Cl (hdC h1) 32)::(n6,Cl (encPo m2) 28)::(n5,Cl (encPo m1) 28)::H) by exact sbt)) qom tick)) ?_ U (A7 U U (Aa U)));rintro _ _ ⟨kn5,x5,b5,⟨rfl,ox5,kk5⟩,rfl⟩;refine⟨sbt,(o_y U (Ao (evq4 U U U U) call15 (fun H' hs=>rsame_s h2 o2 is2 e2 z2 kn5 x5 ox5 b5 (fun e0 hk=>Ih (kk5 hk) (k2 e0)))) (rPt 2 U ?_) U (A7 U U (Aa U)))⟩;refine o_y U (On U isAgg32 sizeOf32 (Af o3) (by exact Ae fndq)) ?_ U (A7 U U (Aa U));refine rPt 3 U (o_y U (On U isAgg28 sizeOf28 U qcs) ?_ U (A7 U U (Aa U)));refine o_y U (On U isAgg28 sizeOf28 U qcs) ?_ U (A7 U U (Aa U));refine rPt 1 U (o_e U (Ah (evq4 U U U U) call24 (rslc_s hfl q c (hAf.mono (show H.Sublist ((n16,Cl (hdC h3) 32)::(n13,Cl (hdC h2) 32)::(n10,Cl (hdC h1) 32)::(n6,Cl (encPo m2) 28)::(n5,Cl (encPo m1) 28)::H) by exact sbt)) hI1 hF1 hS1 (hM1.mono (show H.Sublist ((n16,Cl (hdC h3) 32)::(n13,Cl (hdC h2) 32)::(n10,Cl (hdC h1) 32)::(n6,Cl (encPo m2) 28)::(n5,Cl (encPo m1) 28)::H) by exact sbt)) qom hI2 hF2 hS2 (hM2.mono (show H.Sublist ((n16,Cl (hdC h3) 32)::(n13,Cl (hdC h2) 32)::(n10,Cl (hdC h1) 32)::(n6,Cl (encPo m2) 28)::(n5,Cl (encPo m1) 28)::H) by exact sbt)) qom tick)) ?_ U (A7 U U (Aa U)));rintro _ _ ⟨kn6,x6,b6,⟨rfl,ox6,kk6⟩,rfl⟩;refine⟨sbt,(o_y U (Ao (evq4 U U U U) call15 (fun H' hs=>rsame_s h3 o3 is3 e3 z3 kn6 x6 ox6 b6 (fun e0 hk=>Ih (kk6 hk) (k3 e0)))) (rPt 2 U (Av U (kO tb 2 [8] rfl U (rGt 1 U (Ai U (Ol U) ?_))))) U (A7 U U (Aa U)))⟩;exact⟨_,⟨rfl,rfl⟩,sbt⟩
end Go.Proofs.YtkgfmjanajdibaaGreat
namespace Go.Proofs.YtkgfmjanajdibaaGreat
open _root_.Go.Proofs.Tryz
open Go.ChangeShapes Go.WideShapes Go.ChangeAt Go.RowKit Go.Joins
set_option linter.unusedVariables false
set_option linter.unusedSimpArgs false
set_option linter.unusedSectionVars false
set_option maxRecDepth 100000
section
variable {H:Type} {enc:TypeId × Value->H} {W:World}
theorem laid_out:laidOutB prog=true:=by kernel_rfl
theorem trodAll_stays:∀ {ts:List TypeId} {vs:List Value} {ds:List (DataW H)} {ps:List MemPlace} {W':World},(∀ t∈ts,prog.readableRec t=true/\t<prog.types.size)->DataW.TrodAll enc prog W 0 (fun _=>true) true ts vs ds ps->Below W.heap.size W W'->(∀ x∈ps,x.block<W.heap.size)->
  DataW.TrodAll enc prog W' 0 (fun b=>decide (b<W.heap.size)) true ts vs ds ps
 |[],_,_,_,_,_,h,_,_=>by obtain⟨rfl,rfl,rfl⟩:=trodAll_nil h;exact trodAll_mk0
 |t::ts,_,_,_,_,hr,h,hb,hlt=>by
  obtain⟨v,vs,d,ds,p,q,rfl,rfl,rfl,h0,r0⟩:=trodAll_cons h;exact trodAll_cons_mk (Below.trod laid_out (hr t (by simp)).1 (hr t (by simp)).2 h0 hb (fun x hx=>hlt x (by simp[hx]))) (trodAll_stays (fun t ht=>hr t (by simp[ht])) r0 hb (fun x hx=>hlt x (by simp[hx])))
end
theorem calls_true {f:FuncId}{args:Array Value}{W:World}(h:FSpec prog W f args [] (Still (.bool true) [])):Calls prog f args W fun e W'=>e= .returned (.bool true)/\Below W.heap.size W W':=
 (h W (Own.start W)).mono fun e W' ⟨v,H',he,hO,hv,_⟩=>⟨by rw[he,hv],hO.below⟩
noncomputable def laidWorld (os:Os):World:=World.holding prog os ⟨#[],#[],[]⟩
end Go.Proofs.YtkgfmjanajdibaaGreat
