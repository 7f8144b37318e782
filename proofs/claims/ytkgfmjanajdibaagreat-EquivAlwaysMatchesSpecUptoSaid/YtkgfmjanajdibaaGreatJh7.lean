/-
  A part of what LawH rests on: the logic, walks and plain laws. No condition.
-/
import Derived.Test.YtkgfmjanajdibaaGreatJh6
import Derived.Deep.DeepHandedRow
namespace Go.Proofs.YtkgfmjanajdibaaGreat
open _root_.Go.Proofs.Tryz
open Go.RowKit
set_option linter.unusedVariables false
set_option linter.unusedSimpArgs false
set_option linter.unusedSectionVars false
set_option maxRecDepth 100000
abbrev AnsE (Φ:Hd→Bool→Prop) (H:Mm):Value→Mm→Prop:=fun u H'=>∃ (kn:Bool) (h:Hd) (is:Bool),(u= .agg (ansC kn h is).toArray∧HdOk h∧(kn=true→Φ h is))∧H'=H
theorem ans_e {w0:World}{H:Mm}{f:FuncId}{args:Array Value}{Φ:Hd→Bool→Prop}(h:FSpec Tryz.prog w0 f args H (AnsR Φ H)):FSpec Tryz.prog w0 f args H (AnsE Φ H):=fun w hO=>
 (h w hO).mono fun e w' ⟨v,H',he,hO',kn,x,b,k,hs⟩=>⟨v,H,he,hO'.sub hs,kn,x,b,k,rfl⟩
theorem erigh2_s {w0:World}{H:Mm}(fi:List Fi)(q:Option Addr)(n c:Nat)(hn:n=fi.length)(hA:Arr w0 H q 3 encFi fi)(hnm:∀ f∈fi,f.nm.size≤9223372036854775807){m:Pom}(hM:PoM w0 H m)(hm:m.sz≤1000000000)(hz:NmO m)(most:Nat):
  FSpec Tryz.prog w0 31 #[.slice q n c, .agg (encPo m).toArray,Vi (most:Nat)] H (SayB (FisOk fi∧FitM (fi.map Fi.fd) m most∧FmS (fi.map Fi.fd) m) H):=by
 refine An Tryz.func31 U ntmps31 U (rDt 2 U (e_ (Ok U cs_) ?_ U));rintro _ _ ⟨n4,rfl,rfl⟩;refine rOt 5 U (y_ (Oh U isAgg28 sizeOf28 U qcs) ?_ U);refine e_ (Aj (evq1 U) call75 (fewO_s (hM.mono sbt) hm)) ?_ U;rintro _ _ ⟨b1,rfl,rfl⟩;refine rOt 7 U ?_
 first|refine A3 (Bv (T U)) U Ad ?_|refine A3 (Br (T U)) U Ad ?_
 refine rOt 1 U ?_
 first|refine Aq (s:=12) (Aa U) (fun c12=> ?_) (fun c12=> ?_)|refine C2 (s:=12) (Aa U) (fun c12=> ?_) (fun c12=> ?_)
 ·refine kO tb 29 [6] rfl U (rGt 2 U (Ai U (Of U) ?_));exact⟨_,⟨false,⟨rfl,fun h=>by cases h⟩,rfl⟩,sbt⟩
 ·refine rOt 1 U (Bp (Aj (evq1 U) call76 (chk_n fi q n c hn (hA.mono sbt) hnm)) U (A8 U U (Aa U)) ?_);rintro _ _ ⟨e0,⟨rfl,he0⟩,rfl⟩;refine rOt 3 U ?_;refine Aq (s:=17) (Aa U) (fun c17=> ?_) (fun c17=> ?_)
  ·skip
   refine kO tb 24 [6] rfl U (rGt 2 U (Ai U (Of U) ?_));exact⟨_,⟨false,⟨rfl,fun h=>by cases h⟩,rfl⟩,sbt⟩
  ·have hfi:FisOk fi:=he0 (by simpa using c17);refine A3 (Oh U isAgg28 sizeOf28 U qcs) U (A8 U U (Aa U)) ?_;refine Bp (Aj (evq1 U) call77 (szO_s _ hm (hM.mono sbt) (Nat.le_refl _))) U (A8 U U (Aa U)) ?_;rintro _ _ ⟨z1,⟨rfl,y1,x1⟩,rfl⟩;refine A3 (yl_field (T U) (field84 _ _)) U (A8 U U (Aa U)) (rOt 4 U ?_);refine Aq (s:=24) (Aa U) (fun c24=> ?_) (fun c24=> ?_)
   ·refine kO tb 17 [6] rfl U (rGt 2 U (Ai U (Of U) ?_));exact⟨_,⟨false,⟨rfl,fun h=>by cases h⟩,rfl⟩,sbt⟩
   ·refine A3 (Oh U isAgg28 sizeOf28 U qcs) U (A8 U U (Aa U)) ?_;refine Bp (Aj (evq1 U) call78 (stO_s _ hm (hM.mono sbt) (Nat.le_refl _))) U (A8 U U (Aa U)) ?_;rintro _ _ ⟨z2,⟨rfl,y2,x2⟩,rfl⟩;refine rOt 3 U ?_;refine Aq (s:=29) (Aa U) (fun c29=> ?_) (fun c29=> ?_)
    ·refine kO tb 12 [6] rfl U (rGt 2 U (Ai U (Of U) ?_));exact⟨_,⟨false,⟨rfl,fun h=>by cases h⟩,rfl⟩,sbt⟩
    ·refine A3 (Oh U isAgg28 sizeOf28 U qcs) U (A8 U U (Aa U)) ?_;refine Bp (Aj (evq1 U) call79 (light_s (hM.mono sbt) hm)) U (A8 U U (Aa U)) ?_;rintro _ _ ⟨b4,rfl,rfl⟩
     first|refine A3 (Bv (T U)) U (A8 U U (Aa U)) ?_|refine A3 (Br (T U)) U (A8 U U (Aa U)) ?_
     refine rOt 3 U ?_
     first|refine Ae (Aa U) (fun c33=> ?_) (fun c33=> ?_)|refine B6 (Aa U) (fun c33=> ?_) (fun c33=> ?_)
     ·refine kC tb 5 [6] rfl U (rGt 2 U (Ai U (Of U) ?_));exact⟨_,⟨false,⟨rfl,fun h=>by cases h⟩,rfl⟩,sbt⟩
     ·refine rCt 5 U (y_ (Oh U isAgg28 sizeOf28 U qcs) ?_ U);refine e_ (Aj (evq2 U U) call80 (rpol_n (fi.map Fi.fd) hfi.fl q n c (hn.trans (List.length_map _).symm) ((fis_arr hfi hA).mono sbt) (hM.mono sbt) hm hz)) ?_ U;rintro _ _ ⟨e1,⟨rfl,he1⟩,rfl⟩;refine kO tb 4 [6] rfl U (rGt 1 U (Ai U (Of U) ?_))
      first|exact⟨_,⟨false,⟨rfl,fun h=>by cases h⟩,rfl⟩,sbt⟩|exact⟨_,⟨_,⟨rfl,fun h=>⟨hfi,⟨by omega,fm_isO hfi.fl (he1 (of_decide_eq_true h)).2.1 (he1 (of_decide_eq_true h)).2.2⟩,(he1 (of_decide_eq_true h)).2⟩⟩,rfl⟩,sbt⟩
theorem both2_s {w0:World}{H:Mm}(fi:List Fi)(q:Option Addr)(n c:Nat)(hn:n=fi.length)(hA:Arr w0 H q 3 encFi fi)(hnm:∀ f∈fi,f.nm.size≤9223372036854775807){m1:Pom}(hM1:PoM w0 H m1)(hm1:m1.sz≤1000000000)(hz1:NmO m1){m2:Pom}(hM2:PoM w0 H m2)(hm2:m2.sz≤1000000000)(hz2:NmO m2)(most:Nat)(tick:Int):
  FSpec Tryz.prog w0 12 #[.slice q n c, .agg (encPo m1).toArray, .agg (encPo m2).toArray,Vi (most:Nat),Vi tick] H (SayB ((0≤tick∧tick≤1073741824)∧FisOk fi∧(FitM (fi.map Fi.fd) m1 most∧FmS (fi.map Fi.fd) m1)∧FitM (fi.map Fi.fd) m2 most∧FmS (fi.map Fi.fd) m2) H):=by
 refine An Tryz.func12 U ntmps12 U (rDt 2 U (e_ (Ok U cs_) ?_ U));rintro _ _ ⟨n6,rfl,rfl⟩;refine e_ (Ok U cs_) ?_ U;rintro _ _ ⟨n7,rfl,rfl⟩;refine rOt 8 U ?_;refine Aq (s:=13) (Aa U) (fun c13=> ?_) (fun c13=> ?_)
 ·refine rOt 4 U ?_;refine Aq (s:=17) (Aa U) (fun c17=> ?_) (fun c17=> ?_)
  ·refine rOt 1 U (A3 (Oh U isAgg28 sizeOf28 U qcs) U (A8 U U (Aa U)) ?_);refine rOt 1 U (Bp (Aj (evq3 U U U) call31 (erigh2_s fi q n c hn (hA.mono sbt) hnm (hM1.mono sbt) hm1 hz1 most)) U (A8 U U (Aa U)) ?_);rintro _ _ ⟨b1,⟨rfl,hb1⟩,rfl⟩;refine rOt 2 U ?_
   first|refine Aq (s:=23) (Aa U) (fun c23=> ?_) (fun c23=> ?_)|refine C2 (s:=23) (Aa U) (fun c23=> ?_) (fun c23=> ?_)
   ·have h1:=hb1 (by simpa using c23);refine rOt 1 U (A3 (Oh U isAgg28 sizeOf28 U qcs) U (A8 U U (Aa U)) ?_);refine rOt 1 U (Bp (Aj (evq3 U U U) call31 (erigh2_s fi q n c hn (hA.mono sbt) hnm (hM2.mono sbt) hm2 hz2 most)) U (A8 U U (Aa U)) ?_);rintro _ _ ⟨b2,⟨rfl,hb2⟩,rfl⟩;refine rOt 5 U (Ai U (Of U) ?_)
    first|exact⟨_,⟨false,⟨rfl,fun h=>by cases h⟩,rfl⟩,sbt⟩|exact⟨_,⟨_,⟨rfl,fun h=>⟨by omega,h1.1,h1.2,(hb2 h).2⟩⟩,rfl⟩,sbt⟩
   ·skip
    refine rOt 9 U (Ai U (Of U) ?_);exact⟨_,⟨false,⟨rfl,fun h=>by cases h⟩,rfl⟩,sbt⟩
  ·refine rOt 15 U (Ai U (Of U) ?_);exact⟨_,⟨false,⟨rfl,fun h=>by cases h⟩,rfl⟩,sbt⟩
 ·refine rOt 19 U (Ai U (Of U) ?_);exact⟨_,⟨false,⟨rfl,fun h=>by cases h⟩,rfl⟩,sbt⟩
theorem bd32h (w:World):(Instr.build 32 #[]).run Tryz.prog w= .ok (.agg (hdC hd0).toArray) w:=by kernel_rfl
theorem yl_eqBT {w0:World}{L:Fm}{H:Mm}{ty yt:TypeId}{x y:Operand}{a c:Bool}(hx:Ev L x (.bool a))(hy:Ev L y (.bool c))(h:a=c):Yl Tryz.prog w0 (.binOp .eql 4 x y yt) ty L H (.bool true):=by
 have:=yl_eqB (w0:=w0) (H:=H) (ty:=ty) (yt:=yt) hx hy;subst h
 rwa [beq_self_eq_true] at this
theorem rsame_s {w0:World}{H:Mm}(h:Hd)(o:HdOk h)(is:Bool)(e:Int)(z:e=0∨(e=12∨e=2)∧h=hd0∧is=false)(kn:Bool)(x:Hd)(ox:HdOk x)(b:Bool)(hEq:e=0→kn=true→x=h∧b=is):
  FSpec Tryz.prog w0 15 #[.agg (hdC h).toArray, .bool is,Vi e, .agg (ansC kn x b).toArray] H (Still (.bool true) H):=by
 refine An Tryz.func15 U ntmps15 U (rDt 2 U (e_ (Ok U cs_) ?_ U));rintro _ _ ⟨n4,rfl,rfl⟩;refine e_ (Ok U cs_) ?_ U;rintro _ _ ⟨n7,rfl,rfl⟩;refine rOt 10 U ?_;refine Ae (Aa U) (fun c10=> ?_) (fun c10=> ?_)
 ·obtain⟨z1,rfl,rfl⟩:=z.resolve_left c10;refine rCt 5 U ?_;refine Aq (s:=13) (Aa U) (fun c13=> ?_) (fun c13=> ?_)
  ·skip
   refine rOt 4 U ?_;refine A3 (Oh U isAgg32 sizeOf32 (Ag o) (by exact Af fndq)) U (A8 U U (Aa U)) ?_;refine A3 (A5 .nil (fun w=>bd32h w)) U (A8 U U (Aa U)) (A3 (yl_eqAT (T U) (T U) qkr (eqHd o Bf) U) U (A8 U U (Aa U)) ?_);refine rOt 3 U ?_;refine A3 (Br (T U)) U (A8 U U (Aa U)) ?_;refine rOt 6 U (Ai U (Of U) ?_);exact⟨_,⟨by rfl,rfl⟩,sbt⟩
  ·have he2:e=2:=z1.resolve_left c13;refine rOt 4 U ?_;refine Aq (s:=17) (Aa U) (fun c17=> ?_) (fun c17=> ?_)
   ·skip
    refine A3 (Oh U isAgg32 sizeOf32 (Ag o) (by exact Af fndq)) U (A8 U U (Aa U)) ?_;refine A3 (A5 .nil (fun w=>bd32h w)) U (A8 U U (Aa U)) (A3 (yl_eqAT (T U) (T U) qkr (eqHd o Bf) U) U (A8 U U (Aa U)) ?_);refine rOt 3 U ?_;refine A3 (Br (T U)) U (A8 U U (Aa U)) ?_;refine rOt 6 U (Ai U (Of U) ?_);exact⟨_,⟨by rfl,rfl⟩,sbt⟩
   ·exact absurd he2 (by assumption)
 ·have he0:e=0:=Classical.not_not.1 c10;refine rCt 5 U ?_;refine y_ (Og U isAgg4 qco) ?_ U
  first|refine A3 (Bv (T U)) U Ad ?_|refine A3 (Br (T U)) U Ad ?_
  refine rOt 1 U ?_
  first|refine Aq (s:=29) (Aa U) (fun c29=> ?_) (fun c29=> ?_)|refine C2 (s:=29) (Aa U) (fun c29=> ?_) (fun c29=> ?_)
  ·skip
   refine rOt 15 U (Ai U (Of U) ?_);exact⟨_,⟨by rfl,rfl⟩,sbt⟩
  ·have hx9:=hEq he0 (by simpa using c29);refine rOt 1 U ?_;refine A3 (Oh U isAgg32 sizeOf32 (Ag ox) (by exact ans_hd (kn:=kn) (is:=b) fndq)) U (A8 U U (Aa U)) ?_;refine A3 (Oh U isAgg32 sizeOf32 (Ag o) (by exact Af fndq)) U (A8 U U (Aa U)) ?_;refine A3 (yl_eqAT (T U) (T U) qkr (eqHd ox o) hx9.1) U (A8 U U (Aa U)) ?_;refine rOt 2 U ?_;refine A3 (Og U isAgg4 (by first|exact c_o|exact ans_is ox fndq)) U (A8 U U (Aa U)) ?_;refine rOt 1 U (A3 (yl_eqBT (T U) (T U) hx9.2) U (A8 U U (Aa U)) (rOt 6 U (Ai U (Of U) ?_)));exact⟨_,⟨by rfl,rfl⟩,sbt⟩
theorem st_poc {w0:World}{H:Mm}{b o:Nat}{m:Pom}(h:Cells w0 H b o (encSt m)):Cells w0 H b o (encPo m):=fun i v hi=>h i v (by rw[List.getElem?_append_left (by exact(List.getElem?_eq_some_iff.1 hi).1)];exact hi)
theorem off_le (m:Pom)(i:Nat):(((prtO m).take i).flatMap gPr).length≤(prdF m).length:=by
 have e:prdF m=((prtO m).take i).flatMap gPr++((prtO m).drop i).flatMap gPr:=by
  unfold prdF
  conv=>lhs;rw[← List.take_append_drop i (prtO m),List.flatMap_append]
 rw[e,List.length_append];omega
theorem pr_next {m:Pom}{i:Nat}(hi:i<(prtO m).length):((prtO m).take (i+1)).flatMap gPr=((prtO m).take i).flatMap gPr++gPr (gd (prtO m) i):=by
 rw[List.take_succ_eq_append_getElem hi,List.flatMap_append,← As hi];simp
def TkI (ts:List Pdm) (l:List Int):Prop:=l.Pairwise (· < ·)∧(∀ x,x∈l↔∃ t∈ts,t.kind=9∧(x=t.val∨x=t.to))∧l.length≤2*ts.length
theorem tki_0:TkI [] []:=⟨.nil,fun x=>by simp,Nat.le_refl _⟩
theorem tki_yes {ts:List Pdm}{l l1 l2:List Int}{t:Pdm}(h:TkI ts l)(hk:t.kind=9)(a1:l1.Pairwise (· < ·))(a2:∀ x,x∈l1↔x=t.val∨x∈l)(a3:l1.length≤l.length+1)(b1:l2.Pairwise (· < ·))(b2:∀ x,x∈l2↔x=t.to∨x∈l1)(b3:l2.length≤l1.length+1):TkI (ts++[t]) l2:=by
 obtain⟨h1,h2,h3⟩:=h;refine⟨b1,fun x=> ?_,by rw[List.length_append];simp;omega⟩;rw[b2,a2,h2]
 constructor
 ·rintro(e|e|⟨u,hu,e⟩)
  ·exact⟨t,by simp,hk, .inr e⟩
  ·exact⟨t,by simp,hk, .inl e⟩
  ·exact⟨u,by simp[hu],e⟩
 ·rintro⟨u,hu,e1,e2⟩;rcases List.mem_append.1 hu with hu|hu
  ·exact .inr (.inr ⟨u,hu,e1,e2⟩)
  ·rw[List.mem_singleton.1 hu] at e2;rcases e2 with e2|e2
   ·exact .inr (.inl e2)
   ·exact .inl e2
theorem tki_no {ts:List Pdm}{l:List Int}{t:Pdm}(h:TkI ts l)(hk: ¬ t.kind=9):TkI (ts++[t]) l:=by
 obtain⟨h1,h2,h3⟩:=h;refine⟨h1,fun x=> ?_,by rw[List.length_append];simp;omega⟩;rw[h2]
 constructor
 ·rintro⟨u,hu,e⟩;exact⟨u,by simp[hu],e⟩
 ·rintro⟨u,hu,e1,e2⟩;rcases List.mem_append.1 hu with hu|hu
  ·exact⟨u,hu,e1,e2⟩
  ·rw[List.mem_singleton.1 hu] at e1;exact absurd e1 hk
theorem take_pd {l:List Pdm}{k:Nat}(hk:k<l.length):l.take (k+1)=l.take k++[gd l k]:=by rw[List.take_succ_eq_append_getElem hk,← As hk]
theorem pds_next {ms:List Pom}{i:Nat}(hi:i<ms.length):(ms.take (i+1)).flatMap prdF=(ms.take i).flatMap prdF++prdF (gd ms i):=by
 rw[List.take_succ_eq_append_getElem hi,List.flatMap_append,← As hi];simp
theorem rpreds_s {w0:World}{H:Mm}{m:Pom}(hM:PoM w0 H m)(hm:m.sz≤1000000000)(hnd:m.nd≤1000):
  FSpec Tryz.prog w0 158 #[.agg (encPo m).toArray] H (fun u H'=>∃ d:Sl,(u=slV d (prdF m).length∧SlOk d (prdF m).length 5)∧H'=slH d ((prdF m).flatMap encPd) 25++H):=by
 refine An Tryz.func158 U ntmps158 U ?_;have hpl:=J1 m;have hpd:=Li m;refine rDt 2 U (e_ (Ok U cs_) ?_ U);rintro _ _ ⟨n1,rfl,rfl⟩;refine rOt 10 U ?_;refine y_ (Oh U isAgg28 sizeOf28 U (by exact Af fndq)) ?_ U;refine e_ (Aj (evq1 U) call126 (prtO_s 1000000000 (Nat.le_refl _) (hM.mono sbt) hm)) ?_ U;rintro _ _ ⟨d1,⟨rfl,hd1⟩,rfl⟩;have hO:Arr w0 (slH d1 ((prtO m).flatMap encPo) 28++((n1,Cl (encPo m) 28)::H)) (slQ d1) 9 encPo (prtO m):=B4 (fun _=>rfl) hd1;refine rOt 10 U ?_;refine A7 (X:=Nat × Sl × List Pdm) (V:=fun ⟨i,d,l⟩=>[(3,slV d l.length),(5,Vi (i:Nat))]) (C:=[(4,_)]) (G:=fun ⟨i,d,l⟩=>slH d (l.flatMap encPd) 25++(slH d1 ((prtO m).flatMap encPo) 28++((n1,Cl (encPo m) 28)::H))) (φ:=fun ⟨i,d,l⟩=>i≤(prtO m).length∧SlOk d l.length 5∧l=((prtO m).take i).flatMap gPr) (μ:=fun ⟨i,d,l⟩=>(prtO m).length - i) (x0:=(0, .nil,[])) ?_ ⟨Aa rfl,trivial⟩ ⟨qat,qat,trivial⟩ (by exact List.Sublist.refl _) ?_
 ·exact⟨Nat.zero_le _,rfl,rfl⟩
 rintro⟨i,d,l⟩ ⟨hi,hd,hl⟩;refine rDt 9 U ?_;refine Ae (Aa U) (fun c11=> ?_) (fun c11=> ?_)
 ·have hi2:i<(prtO m).length:=Int.ofNat_lt.1 c11;have hMi:=Mp hM _ (A0 hi2);have hsi:=Ld _ (A0 hi2);have hsp:=Dx (gd (prtO m) i);have hms:(gd (prtO m) i).pr.sz≤1000000000:=by omega
  have hof:=off_le m (i+1);have hlq:=congrArg List.length hl;have hpn:=pr_next hi2;have hpn2:=congrArg List.length hpn;rw[List.length_append] at hpn2;refine rCt 8 U (y_ (Oi U U runUnderlying26 sizeOf28 qom (by first|exact rfl|exact hO.b (i:=i) hi2)) ?_ U);refine rOt 1 U (y_ (Og U isAgg3 (by first|exact c_o|exact(hO.mono sbt).f0 (i:=i) hi2 U)) ?_ U);refine rOt 3 U ?_;refine Ae (Aa U) (fun c19=> ?_) (fun c19=> ?_)
  ·have hk1:(gd (prtO m) i).kind=1:=c19;have hge:gPr (gd (prtO m) i)=prtP (gd (prtO m) i).pr:=if_pos hk1;rw[hge] at hpn2 hpn;refine rCt 4 U (y_ (Oi U U runUnderlying26 sizeOf28 qom (by first|exact rfl|exact hO.b (i:=i) hi2)) ?_ U);refine rOt 1 U (y_ (Oh U isAgg25 sizeOf25 U (by exact po_prc ((hO.mono sbt).cs (i:=i) hi2))) ?_ U);refine e_ (Aj (evq1 U) call161 (prtP_s 1000000000 (Nat.le_refl _) (hMi.pred.mono sbt) hms)) ?_ U;rintro _ _ ⟨d2,⟨rfl,hd2⟩,rfl⟩;refine e_ (Bw (enc:=encPd) (l:=l) (prtP (gd (prtO m) i).pr) (by':=64) locq (T U) (T U) runUnderlying23 runUnderlying23 sizeOf25 typeInfo25 U zeroValue25 U (fun _=>rfl) (fun _=>rfl) hd qde qom ((B4 (w0:=w0) (e:=25) (X:=[]) (enc:=encPd) (fun _=>rfl) hd2).mono (by rw[List.append_nil];exact List.sublist_append_left _ _))) ?_ U;rintro _ _ ⟨d3,rfl,hd3,rfl⟩;refine rOt 6 U (y_ (Aw (T U) Al qom) ?_ U);refine rOt 2 U ?_;refine Av ((i+1,d3,l++prtP (gd (prtO m) i).pr)) ?_ ?_ ⟨atd,qat,trivial⟩ ⟨Aa U,trivial⟩ ?_
   ·exact⟨hi2,by rw[List.length_append];exact hd3,by rw[hpn,← hl]⟩
   ·first|omega|(simp only[];omega)
   ·exact sbt
  ·have hge:gPr (gd (prtO m) i)=[]:=if_neg c19;rw[hge,List.append_nil] at hpn;refine rCt 5 U (y_ (Aw (T U) Al qom) ?_ U);refine rOt 2 U ?_;refine Av ((i+1,d,l)) ?_ ?_ ⟨qat,qat,trivial⟩ ⟨Aa U,trivial⟩ ?_
   ·exact⟨hi2,hd,by rw[hpn];exact hl⟩
   ·first|omega|(simp only[];omega)
   ·exact sbt
 ·obtain rfl:i=(prtO m).length:=by have h9: ¬ ((i:Nat):Int)<((prtO m).length:Nat):=c11;omega
  rw[List.take_length] at hl;obtain rfl:l=prdF m:=hl;refine rCt 2 U (Ao (rXt 9 U (Ai U (Of U) ?_)));exact⟨_,⟨d,⟨rfl,hd⟩,rfl⟩,sbt⟩
theorem rbnd_s {w0:World}{H:Mm}(ms:List Pom)(q:Option Addr)(c:Nat)(hA:Arr w0 H q 15 encSt ms)(hM:∀ m∈ms,PoM w0 H m∧m.sz≤1000000000∧m.nd≤1000)(hlen:ms.length≤16):
  FSpec Tryz.prog w0 117 #[.slice q ms.length c] H (fun u H'=>∃ (d:Sl) (l:List Int),(u=slV d l.length∧SlOk d l.length 1∧TkI (ms.flatMap prdF) l)∧H'=slH d (l.flatMap encI) 3++H):=by
 refine An Tryz.func117 U ntmps117 U (rDt 17 U ?_);refine A7 (X:=Nat × Sl × List Int) (V:=fun ⟨i,d0,l0⟩=>[(3,slV d0 l0.length),(4,Vi (i:Nat))]) (C:=[(0,_)]) (G:=fun ⟨i,d0,l0⟩=>slH d0 (l0.flatMap encI) 3++H) (φ:=fun ⟨i,d0,l0⟩=>i≤ms.length∧SlOk d0 l0.length 1∧TkI ((ms.take i).flatMap prdF) l0) (μ:=fun ⟨i,d0,l0⟩=>ms.length - i) (x0:=(0, .nil,[])) ?_ ⟨Aa rfl,trivial⟩ ⟨qat,qat,trivial⟩ (by exact List.Sublist.refl _) ?_
 ·exact⟨Nat.zero_le _,rfl,tki_0⟩
 rintro⟨i,d0,l0⟩ ⟨hi,hd0,hp0⟩;refine rDt 9 U ?_;refine Ae (Aa U) (fun c10=> ?_) (fun c10=> ?_)
 ·have hi2:i<ms.length:=Int.ofNat_lt.1 c10;have hmi:=hM _ (A0 hi2);have hpn:=pds_next hi2;have hpd:=Li (gd ms i);have hpm:=J9 (ms:=ms.take i) (fun m hm=>(hM m (List.mem_of_mem_take hm)).2.2);rw[List.length_take] at hpm;refine rCt 8 U (y_ (Oi U U runUnderlying117 sizeOf115 qom (by first|exact rfl|exact hA.b (i:=i) hi2)) ?_ U);refine rOt 1 U (y_ (Oh U isAgg28 sizeOf28 U (by exact st_poc ((hA.mono sbt).cs (i:=i) hi2))) ?_ U);refine e_ (Aj (evq1 U) call158 (rpreds_s (hmi.1.mono sbt) hmi.2.1 hmi.2.2)) ?_ U;rintro _ _ ⟨d1,⟨rfl,hd1⟩,rfl⟩;have hL:Arr w0 (slH d1 ((prdF (gd ms i)).flatMap encPd) 25++[]) (slQ d1) 5 encPd (prdF (gd ms i)):=B4 (fun _=>rfl) hd1;rw[List.append_nil] at hL;refine rOt 9 U ?_;refine A7 (X:=Nat × Sl × List Int) (V:=fun ⟨k,d,l⟩=>[(3,slV d l.length),(6,Vi (k:Nat))]) (C:=[(0,_),(4,_),(5,_)]) (G:=fun ⟨k,d,l⟩=>slH d1 ((prdF (gd ms i)).flatMap encPd) 25++(slH d (l.flatMap encI) 3++H)) (φ:=fun ⟨k,d,l⟩=>k≤(prdF (gd ms i)).length∧SlOk d l.length 1∧TkI ((ms.take i).flatMap prdF++(prdF (gd ms i)).take k) l) (μ:=fun ⟨k,d,l⟩=>(prdF (gd ms i)).length - k) (x0:=(0,d0,l0)) ?_ ⟨Aa rfl,Aa rfl,Aa rfl,trivial⟩ ⟨qat,qat,trivial⟩ (by exact List.Sublist.refl _) ?_
  ·exact⟨Nat.zero_le _,hd0,by rw[List.take_zero,List.append_nil];exact hp0⟩
  rintro⟨k,d,l⟩ ⟨hk,hd,hp⟩;have hLs:(slH d1 ((prdF (gd ms i)).flatMap encPd) 25).Sublist (slH d1 ((prdF (gd ms i)).flatMap encPd) 25++(slH d (l.flatMap encI) 3++H)):=List.sublist_append_left _ _;refine rDt 9 U ?_;refine Ae (Aa U) (fun c22=> ?_) (fun c22=> ?_)
  ·have hk2:k<(prdF (gd ms i)).length:=Int.ofNat_lt.1 c22;have hkt:=take_pd hk2;have hp3:=hp.2.2;rw[List.length_append,List.length_take] at hp3;refine rCt 8 U (y_ (Oi U U runUnderlying23 sizeOf25 qom (by first|exact rfl|exact hA.b (i:=i) hi2|exact hL.b (i:=k) hk2)) ?_ U);refine rOt 1 U (y_ (Og U isAgg3 (by first|exact c_o|exact(hL.mono (by exact hLs)).f0 (i:=k) hk2 U)) ?_ U);refine rOt 3 U ?_;refine Ae (Aa U) (fun c30=> ?_) (fun c30=> ?_)
   ·have hk9:(gd (prdF (gd ms i)) k).kind=9:=c30;refine rCt 5 U (y_ (Oi U U runUnderlying23 sizeOf25 qom (by first|exact rfl|exact hA.b (i:=i) hi2|exact hL.b (i:=k) hk2)) ?_ U);refine rOt 1 U (y_ (Og U isAgg3 (by first|exact c_o|exact(hL.mono (by exact hLs)).f (i:=k) (j:=2) hk2 U)) ?_ U);refine e_ (Aj (evq2 U U) call118 (Ki l (slQ d) (slC d) ((B4 (w0:=w0) (e:=3) (X:=H) (enc:=encI) (fun _=>rfl) hd).mono (List.sublist_append_right _ _)) hp.1 (gd (prdF (gd ms i)) k).val qom)) ?_ U;rintro _ _ ⟨l1,d2,⟨rfl,hd2,hs2,hm2,hl2⟩,rfl⟩;refine rOt 7 U (y_ (Oi U U runUnderlying23 sizeOf25 qom (by first|exact rfl|exact hA.b (i:=i) hi2|exact hL.b (i:=k) hk2)) ?_ U);refine rOt 1 U (y_ (Og U isAgg3 (by first|exact c_o|exact(hL.mono (by first|exact hLs|exact hLs.trans (List.sublist_append_right _ _))).f (i:=k) (j:=3) hk2 U)) ?_ U);refine e_ (Aj (evq2 U U) call118 (Ki l1 (slQ d2) (slC d2) (B4 (w0:=w0) (e:=3) (enc:=encI) (fun _=>rfl) hd2) hs2 (gd (prdF (gd ms i)) k).to qom)) ?_ U;rintro _ _ ⟨l2,d3,⟨rfl,hd3,hs3,hm3,hl3⟩,rfl⟩;refine kO tb 4 [0,3,4,5,6] rfl U (rGt 2 U (y_ (Aw (T U) Al qom) ?_ U));refine rOt 2 U (K6 ((List.perm_append_comm_assoc _ _ _).append_left _ |>.trans (List.perm_append_comm_assoc _ _ _)) ?_);refine Av ((k+1,d3,l2)) ?_ ?_ ⟨qat,qat,trivial⟩ ⟨Aa U,Aa U,Aa U,trivial⟩ ?_
    ·exact⟨hk2,hd3,by rw[hkt,← List.append_assoc];exact tki_yes hp hk9 hs2 hm2 hl2 hs3 hm3 hl3⟩
    ·first|omega|(simp only[];omega)
    ·exact(List.Sublist.refl _).append ((List.Sublist.refl _).append ((List.sublist_append_right _ _).trans (List.sublist_append_right _ _)))
   ·have hk9: ¬ (gd (prdF (gd ms i)) k).kind=9:=c30;refine rCt 5 U (y_ (Aw (T U) Al qom) ?_ U);refine rOt 2 U ?_
    skip
    refine Av ((k+1,d,l)) ?_ ?_ ⟨qat,qat,trivial⟩ ⟨Aa U,Aa U,Aa U,trivial⟩ ?_
    ·exact⟨hk2,hd,by rw[hkt,← List.append_assoc];exact tki_no hp hk9⟩
    ·first|omega|(simp only[];omega)
    ·first|exact(List.Sublist.refl _).append ((List.Sublist.refl _).append ((List.sublist_append_right _ _).trans (List.sublist_append_right _ _)))|exact List.Sublist.refl _
  ·obtain rfl:k=(prdF (gd ms i)).length:=by have h9: ¬ ((k:Nat):Int)<((prdF (gd ms i)).length:Nat):=c22;omega
   rw[List.take_length,← hpn] at hp;refine rCt 2 U (Ao (rXt 5 U (y_ (Aw (T U) Al qom) ?_ U)));refine rOt 2 U ?_;refine Av ((i+1,d,l)) ?_ ?_ ⟨qat,qat,trivial⟩ ⟨Aa U,trivial⟩ ?_
   ·exact⟨hi2,hd,hp⟩
   ·first|omega|(simp only[];omega)
   ·exact List.sublist_append_right _ _
 ·obtain rfl:i=ms.length:=by have h9: ¬ ((i:Nat):Int)<(ms.length:Nat):=c10;omega
  rw[List.take_length] at hp0;refine rCt 2 U (Ao (rXt 9 U (Ai U (Of U) ?_)));exact⟨_,⟨d0,l0,⟨rfl,hd0,hp0⟩,rfl⟩,sbt⟩
theorem prd_fm {m:Pom}(h:FmO m):∀ t∈prdF m,FmP t:=fun t ht=>by
 obtain⟨a,ha,h1⟩:=List.mem_flatMap.1 ht;unfold gPr at h1
 split at h1
 ·rename_i e;obtain⟨hl,_⟩:=fmO_parts h a ha;have hp:FmP a.pr:=by rcases hl with ⟨_,⟨_,h⟩|h⟩|⟨_,h⟩|⟨_,h⟩<;>first|exact h|(exfalso;omega)
  exact fm_parts hp t h1
 ·cases h1
theorem tki_nn {m1 m2:Pom}{bl:List Int}(h1:FmO m1)(h2:FmO m2)(h:TkI ([m1,m2].flatMap prdF) bl):∀ x∈bl,0≤x:=fun x hx=>by
 obtain⟨t,ht,hk,hv⟩:=(h.2.1 x).1 hx;have hf:FmP t:=by
  obtain⟨m,hm,h3⟩:=List.mem_flatMap.1 ht;rcases List.mem_cons.1 hm with rfl|hm
  ·exact prd_fm h1 t h3
  ·rw[List.mem_singleton.1 hm] at h3;exact prd_fm h2 t h3
 obtain⟨hl,_⟩:=hf;rcases hl with ⟨_,h|h|h|h|h|h⟩|⟨_,h⟩|⟨_,h⟩<;>omega
structure TkS (ms:List Pom) (S bl:List Int):Prop where
 up:S.Pairwise (· < ·)
 mem:∀ x,x∈S↔x=0∨x∈bl
 bl:TkI (ms.flatMap prdF) bl
def RAl (p q:Po) (S:List Int) (t:Int) (kn:Bool) (h:Hd) (is:Bool):Prop:=kn=true→(is=true∧t=0∧h=hd0∧∀ t'∈S,∀ g,HdOk g→AskP t' 1 p q g)∨(is=false∧Ans (AskP t 1 p q) h false∧∃ i,i<S.length∧t=gd S i∧∀ j,j<i→∀ g,HdOk g→AskP (gd S j) 1 p q g)
theorem alw_same {fl:List Fd}{m1 m2:Pom}{p q:Po}{S bl bl2:List Int}{t u:Int}{h x:Hd}{is b kn:Bool}(f1:FmO m1)(f2:FmO m2)(hT:Tks [m1,m2] bl)(hS:TkS [m1,m2] S bl2)(a:AlwR fl p q (0::bl) t h is 0)(r:RAl p q S u kn x b)(hk:kn=true):(x=h∧b=is)∧t=u:=by
 have hb:bl2=bl:=up_eq hS.bl.1 hT.up fun y=>by rw[hS.bl.2.1,hT.mem]
 subst hb;have hnn:=tki_nn f1 f2 hS.bl;have hmem:∀ y,y∈S↔y∈(0::bl2):=fun y=>by rw[hS.mem,List.mem_cons]
 have hup:(0::bl2).Pairwise (·≤·):=List.pairwise_cons.2 ⟨hnn,hS.bl.1.imp fun h=>Int.le_of_lt h⟩;rcases a with ⟨e,_⟩|⟨_,rfl,rfl,rfl,hall⟩|⟨_,rfl,ha,A,B,hL,hA⟩
 ·cases e
 ·rcases r hk with ⟨rfl,rfl,rfl,_⟩|⟨_,hn,i,hi,rfl,_⟩
  ·exact⟨⟨rfl,rfl⟩,rfl⟩
  ·obtain⟨ox,hno,_⟩:=hn.false;exact absurd (hall _ ((hmem _).1 (A0 hi)) _ ox) hno
 ·obtain⟨ox,hno,_⟩:=ha.false;have ht:t∈S:=(hmem t).2 (by rw[hL];simp);rcases r hk with ⟨_,_,_,hall⟩|⟨rfl,hn,i,hi,rfl,hlow⟩
  ·exact absurd (hall _ ht _ ox) hno
  ·obtain⟨oy,hny,_⟩:=hn.false;have h1:gd S i≤t:=by
    obtain⟨j,hj,rfl⟩:=List.getElem_of_mem ht;rw[← As hj] at hno ⊢;rcases Nat.lt_trichotomy i j with e|e|e
    ·exact Int.le_of_lt (N4 hS.up e hj)
    ·rw[e];exact Int.le_refl _
    ·exact absurd (hlow j e _ ox) hno
   have h2:t≤gd S i:=by
    have hu:gd S i∈A++t::B:=by rw[← hL];exact(hmem _).1 (A0 hi)
    rw[hL] at hup;rcases List.mem_append.1 hu with hu|hu
    ·exact absurd (hA _ hu _ oy) hny
    ·rcases List.mem_cons.1 hu with hu|hu
     ·rw[hu];exact Int.le_refl _
     ·exact(List.pairwise_cons.1 (List.pairwise_append.1 hup).2.1).1 _ hu
   have e:t=gd S i:=Int.le_antisymm h2 h1;refine⟨?_,e⟩;rw[← e] at hn;exact ans_uniq hn ha
theorem alw_z {fl:List Fd}{p q:Po}{L:List Int}{t:Int}{h:Hd}{is:Bool}{e:Int}(a:AlwR fl p q L t h is e):e=0∨(e=12∨e=2)∧h=hd0∧is=false:=by
 rcases a with ⟨e,_,h1,h2,_⟩|⟨e,_⟩|⟨e,_⟩
 ·exact .inr ⟨.inl e,h1,h2⟩
 ·exact .inl e
 ·exact .inl e
theorem alw_t {fl:List Fd}{p q:Po}{L:List Int}{t:Int}{h:Hd}{is:Bool}{e:Int}(a:AlwR fl p q L t h is e)(he: ¬ e=0):t=0:=by
 rcases a with ⟨_,e,_⟩|⟨e,_⟩|⟨e,_⟩
 ·exact e
 ·exact absurd e he
 ·exact absurd e he
theorem rtck_s {w0:World}{H:Mm}{m1:Pom}(hM1:PoM w0 H m1)(hs1:m1.sz≤1000000000∧m1.nd≤1000){m2:Pom}(hM2:PoM w0 H m2)(hs2:m2.sz≤1000000000∧m2.nd≤1000)  :
  FSpec Tryz.prog w0 74 #[.agg (encPo m1).toArray, .agg (encPo m2).toArray] H (fun u H'=>∃ (d:Sl) (S bl:List Int),(u=slV d S.length∧SlOk d S.length 1∧S.length≤1000000∧TkS [m1,m2] S bl)∧H'=slH d (S.flatMap encI) 3++H):=by
 refine An Tryz.func74 U ntmps74 U (rDt 2 U (e_ (Ok U cs_) ?_ U));rintro _ _ ⟨n2,rfl,rfl⟩;refine e_ (Ok U cs_) ?_ U;rintro _ _ ⟨n3,rfl,rfl⟩;refine rOt 5 U ?_;refine y_ (Oh U isAgg28 sizeOf28 U (by exact Af fndq)) ?_ U;refine y_ (A5 (.cons (T U) .nil) (Ka _ _ _ _ _ _ _ _ _ _ _ _ _)) ?_ U;refine y_ (Oh U isAgg28 sizeOf28 U (by exact Af fndq)) ?_ U;refine y_ (A5 (.cons (T U) .nil) (Ka _ _ _ _ _ _ _ _ _ _ _ _ _)) (e_ (A6 (.cons (T U) (.cons (T U) .nil)) (ybs117_2_0_1 _ _ _ _ _ _ _ _ _ _ _ _ _ _ _ _ _ _ _ _ _ _ _ _ _ _ _ _ _ _ _ _ _ _ _ _ _ _ _ _ _ _)) ?_ U) U;rintro _ _ ⟨n12,rfl,rfl⟩;refine e_ (Aj (evq1 rfl) call117 (rbnd_s [m1,m2] (some ⟨n12,0,none⟩) 2 (arrSt2 By) (fun m hm=>by rcases List.mem_cons.1 hm with rfl|hm;exact⟨hM1.mono sbt,hs1⟩;rw[List.mem_singleton.1 hm];exact⟨hM2.mono sbt,hs2⟩) (by show 2≤16;omega))) ?_ rfl;rintro _ _ ⟨d5,bl,⟨rfl,hd5,hT⟩,rfl⟩;have hbl:bl.length≤4000:=by have h8:=J9 (ms:=[m1,m2]) (fun m hm=>by rcases List.mem_cons.1 hm with rfl|hm;exact hs1.2;rw[List.mem_singleton.1 hm];exact hs2.2);have h9:=hT.2.2;simp only[List.length_cons,List.length_nil] at h8;omega
 have hB:Arr w0 (slH d5 (bl.flatMap encI) 3++((n3,Cl (encPo m2) 28)::(n2,Cl (encPo m1) 28)::H)) (slQ d5) 1 encI bl:=B4 (fun _=>rfl) hd5;refine rOt 5 U (e_ (A6 (.cons Al .nil) (D4 _)) ?_ U);rintro _ _ ⟨n14,rfl,rfl⟩;refine rOt 10 U ?_;refine A7 (X:=Nat × Sl × List Int) (V:=fun ⟨i,d,S⟩=>[(6,slV d S.length),(7,Vi (i:Nat))]) (C:=[(5,_)]) (G:=fun ⟨i,d,S⟩=>slH d (S.flatMap encI) 3++(slH d5 (bl.flatMap encI) 3++((n3,Cl (encPo m2) 28)::(n2,Cl (encPo m1) 28)::H))) (φ:=fun ⟨i,d,S⟩=>i≤bl.length∧SlOk d S.length 1∧S.Pairwise (· < ·)∧(∀ x,x∈S↔x=0∨x∈bl.take i)∧S.length≤i+1) (μ:=fun ⟨i,d,S⟩=>bl.length - i) (x0:=(0, .blk n14 1 [],[0])) ?_ ⟨Aa rfl,trivial⟩ ⟨qat,qat,trivial⟩ (by exact List.Sublist.cons_cons _ (show ((slH d5 (bl.flatMap encI) 3++((n3,Cl (encPo m2) 28)::(n2,Cl (encPo m1) 28)::H))).Sublist _ from List.Sublist.append (List.Sublist.refl (slH d5 (bl.flatMap encI) 3)) (List.sublist_cons_self _ _))) ?_
 ·exact⟨Nat.zero_le _,⟨Nat.le_refl _,rfl⟩,List.pairwise_singleton _ _,fun x=>by simp,Nat.le_refl _⟩
 rintro⟨i,d,S⟩ ⟨hi,hd,hu,hm,hn⟩;refine rDt 9 U ?_;refine Ae (Aa U) (fun c18=> ?_) (fun c18=> ?_)
 ·have hi2:i<bl.length:=Int.ofNat_lt.1 c18;have hkt:=take_i hi2;refine rCt 8 U (y_ (Oi U U runUnderlying109 sizeOf3 qom (by first|exact rfl|exact hB.b (i:=i) hi2)) ?_ U);refine y_ (Og U isAgg3 (by first|exact c_o|exact(hB.mono (List.sublist_append_right _ _)).f0 (i:=i) hi2 U)) ?_ U;refine e_ (Aj (evq2 U U) call118 (Ki S (slQ d) (slC d) (B4 (w0:=w0) (e:=3) (enc:=encI) (fun _=>rfl) hd) hu (gd bl i) qom)) ?_ U;rintro _ _ ⟨l2,d2,⟨rfl,hd2,hs2,hm2,hl2⟩,rfl⟩;refine rOt 6 U (y_ (Aw (T U) Al qom) ?_ U);refine rOt 2 U ?_;refine Av ((i+1,d2,l2)) ?_ ?_ ⟨qat,qat,trivial⟩ ⟨Aa U,trivial⟩ ?_
  ·refine⟨hi2,hd2,hs2,fun x=> ?_,by omega⟩;rw[hm2,hm,hkt,List.mem_append,List.mem_singleton]
   constructor
   ·rintro(e|e|e)
    ·exact .inr (.inr e)
    ·exact .inl e
    ·exact .inr (.inl e)
   ·rintro(e|e|e)
    ·exact .inr (.inl e)
    ·exact .inr (.inr e)
    ·exact .inl e
  ·first|omega|(simp only[];omega)
  ·exact(List.Sublist.refl _).append (List.sublist_append_right _ _)
 ·obtain rfl:i=bl.length:=by have h9: ¬ ((i:Nat):Int)<(bl.length:Nat):=c18;omega
  rw[List.take_length] at hm;refine rCt 2 U (Ao (rXt 9 U (Ai U (Of U) ?_)));exact⟨_,⟨d,S,bl,⟨rfl,hd,by omega,hu,hm,hT⟩,rfl⟩,sbt⟩
theorem ralw_s {w0:World}{H:Mm}{fl:List Fd}(hfl:FlOk fl)(q:Option Addr)(c:Nat)(hA:Arr w0 H q 3 encF fl){m1:Pom}{p1:Po}(hI1:IsO fl m1 p1)(hF1:p1.Fit (bsF fl))(hS1:FmS fl m1)(hM1:PoM w0 H m1)(hz1:m1.sz≤10000000){m2:Pom}{p2:Po}(hI2:IsO fl m2 p2)(hF2:p2.Fit (bsF fl))(hS2:FmS fl m2)(hM2:PoM w0 H m2)(hz2:m2.sz≤10000000)(hn1:m1.nd≤1000)(hn2:m2.nd≤1000):
  FSpec Tryz.prog w0 26 #[.slice q fl.length c, .agg (encPo m1).toArray, .agg (encPo m2).toArray] H (fun u H'=>(∃ (S bl:List Int) (t:Int) (kn:Bool) (h:Hd) (is:Bool),u= .tuple #[Vi t, .agg (ansC kn h is).toArray]∧HdOk h∧TkS [m1,m2] S bl∧RAl p1 p2 S t kn h is)∧H'=H):=by
 refine An Tryz.func26 U ntmps26 U (rDt 2 U (e_ (Ok U cs_) ?_ U));rintro _ _ ⟨n4,rfl,rfl⟩;refine e_ (Ok U cs_) ?_ U;rintro _ _ ⟨n5,rfl,rfl⟩;refine rOt 1 U (e_ (Ah zeroValue38 cs_) ?_ U);rintro _ _ ⟨n7,rfl,rfl⟩;refine rOt 4 U ?_;refine y_ (Oh U isAgg28 sizeOf28 U (by exact Af fndq)) ?_ U;refine y_ (Oh U isAgg28 sizeOf28 U (by exact Af fndq)) ?_ U;refine e_ (Aj (evq2 U U) call74 (rtck_s (hM1.mono sbt) ⟨by omega,hn1⟩ (hM2.mono sbt) ⟨by omega,hn2⟩)) ?_ U;rintro _ _ ⟨dS,S,bl,⟨rfl,hdS,hSl,hT⟩,rfl⟩;have hSA:Arr w0 (slH dS (S.flatMap encI) 3++((n7,Cl (ansC false hd0 false) 38)::(n5,Cl (encPo m2) 28)::(n4,Cl (encPo m1) 28)::H)) (slQ dS) 1 encI S:=B4 (fun _=>rfl) hdS;refine rOt 10 U ?_;refine A7 (X:=Nat) (V:=fun i=>[(9,Vi (i:Nat))]) (C:=[(0,_),(4,_),(5,_),(7,_),(8,_)]) (G:=fun i=>slH dS (S.flatMap encI) 3++((n7,Cl (ansC false hd0 false) 38)::(n5,Cl (encPo m2) 28)::(n4,Cl (encPo m1) 28)::H)) (φ:=fun i=>i≤S.length∧∀ j,j<i→∀ g,HdOk g→AskP (gd S j) 1 p1 p2 g) (μ:=fun i=>S.length - i) (x0:=0) ?_ ⟨Aa U,Aa U,Aa U,Aa U,Aa U,trivial⟩ ⟨qat,trivial⟩ (by exact List.Sublist.refl _) ?_
 ·exact⟨Nat.zero_le _,fun j hj=>absurd hj (Nat.not_lt_zero _)⟩
 rintro i ⟨hi,hn⟩;refine rDt 9 U ?_;refine Ae (Aa U) (fun c17=> ?_) (fun c17=> ?_)
 ·have hi2:i<S.length:=Int.ofNat_lt.1 c17;refine rCt 4 U ?_;refine E0 (X:=Bool × Hd × Bool × Nat) (V:=fun ⟨kn1,x1,b1,n10⟩=>[(10,Pt n10 0)]) (C:=[(0,_),(4,_),(5,_),(7,_),(8,_),(9,_)]) (G:=fun ⟨kn1,x1,b1,n10⟩=>(n10,Cl (ansC kn1 x1 b1) 38)::(slH dS (S.flatMap encI) 3++((n7,Cl (ansC false hd0 false) 38)::(n5,Cl (encPo m2) 28)::(n4,Cl (encPo m1) 28)::H))) (φ:=fun ⟨kn1,x1,b1,n10⟩=>HdOk x1∧(kn1=true→Ans (AskP (gd S i) 1 p1 p2) x1 b1)) ⟨Aa rfl,Aa rfl,Aa rfl,Aa rfl,Aa rfl,Aa rfl,trivial⟩ ?_ ?_
  ·refine rDt 0 U (Je 9 _ mixd qkr sb0 ?_ Bi);refine x_y (i:=0) U qkr (B8 (T U)) ?_ U Ad;refine x_y (i:=1) U qkr (Oh U isAgg28 sizeOf28 U (by exact Af fndq)) ?_ U Ad;refine x_y (i:=2) U qkr (Oh U isAgg28 sizeOf28 U (by exact Af fndq)) ?_ U Ad;refine x_y (i:=3) U qkr (B8 (T U)) ?_ U Ad;refine x_y (i:=4) U qkr (B8 (T U)) ?_ U Ad;refine x_y (i:=5) U qkr (Oi U U runUnderlying109 sizeOf3 qom (by first|exact rfl|exact hSA.b (i:=i) hi2)) ?_ U Ad;refine x_y (i:=6) U qkr (Og U isAgg3 (by first|exact c_o|exact hSA.f0 (i:=i) hi2 U)) ?_ U Ad;refine Ht (i:=7) (j:=8) qkr qkr ?_ ?_
   ·refine Cc U (Aj (.cons (T U) (.cons Al (.cons (T U) (.cons (T U) (.cons (T U) .nil))))) call16 (ans_e (rask_s hfl q c (hA.mono sbt) 1 hI1 hF1 hS1 (hM1.mono sbt) qom hI2 hF2 hS2 (hM2.mono sbt) qom (gd S i)))) ?_ U Ad;rintro _ _ ⟨kn1,x1,b1,⟨rfl,ox1,kk1⟩,rfl⟩;refine⟨sbt,(Ce (i:=8) qkr qkr ?_)⟩;refine Cc U (Ah zeroValue38 cs_) ?_ U Ad;rintro _ _ ⟨n10,rfl,rfl⟩;refine⟨sbt,(Ek qkr U ?_)⟩;refine e_ (Oj U U sizeOf38 .agg (C1 _ _ _) (Bk ox1) updq (by rw[Bk ox1];rfl)) ?_ U;rintro _ _ ⟨rfl,rfl⟩;refine rOt 1 U ?_;refine Bb ((kn1,x1,b1,n10)) ?_ ⟨qat,trivial⟩ ⟨Aa U,Aa U,Aa U,Aa U,Aa U,Aa U,trivial⟩ sbt;exact⟨ox1,kk1⟩
   ·refine Cc U (Ah zeroValue38 cs_) ?_ U Ad;rintro _ _ ⟨n10,rfl,rfl⟩;refine⟨sbt,(Ce (i:=7) qkr qkr ?_)⟩;refine Cc U (Aj (.cons (T U) (.cons Al (.cons (T U) (.cons (T U) (.cons (T U) .nil))))) call16 (ans_e (rask_s hfl q c (hA.mono sbt) 1 hI1 hF1 hS1 (hM1.mono sbt) qom hI2 hF2 hS2 (hM2.mono sbt) qom (gd S i)))) ?_ U Ad;rintro _ _ ⟨kn1,x1,b1,⟨rfl,ox1,kk1⟩,rfl⟩;refine⟨sbt,(Ek qkr U ?_)⟩;refine e_ (Oj U U sizeOf38 .agg (C1 _ _ _) (Bk ox1) updq (by rw[Bk ox1];rfl)) ?_ U;rintro _ _ ⟨rfl,rfl⟩;refine rOt 1 U ?_;refine Bb ((kn1,x1,b1,n10)) ?_ ⟨qat,trivial⟩ ⟨Aa U,Aa U,Aa U,Aa U,Aa U,Aa U,trivial⟩ sbt;exact⟨ox1,kk1⟩
  rintro⟨kn1,x1,b1,n10⟩ ⟨ox1,kk1⟩;refine rCt 3 U ?_;refine y_ (Og U isAgg4 qco) ?_ U
  first|refine A3 (Bv (T U)) U Ad ?_|refine A3 (Br (T U)) U Ad ?_
  refine rOt 1 U ?_
  first|refine Aq (s:=31) (Aa U) (fun c31=> ?_) (fun c31=> ?_)|refine C2 (s:=31) (Aa U) (fun c31=> ?_) (fun c31=> ?_)
  ·have hkf:kn1=false:=by simpa using c31
   refine rOt 8 U (Bg 6 (plq6 []) _ mixd qkr sb0 ?_ Bi);refine rPt 2 U (o_y U (Oi U U runUnderlying109 sizeOf3 qom (by first|exact rfl|exact hSA.b (i:=i) hi2)) ?_ U Ad);refine o_y U (Og U isAgg3 (by first|exact c_o|exact(hSA.mono sbt).f0 (i:=i) hi2 U)) ?_ U Ad;refine o_y U (Oh U isAgg38 sizeOf38 (Bk ox1) (by exact Af fndq)) ?_ U Ad;refine rPt 1 U (Ay U (e_ (Oj U U sizeOf38 .agg (C1 _ _ _) (Bk ox1) updq (by(rw[Bk ox1];rfl))) ?_ U));rintro _ _ ⟨rfl,rfl⟩;refine rOt 5 U (Ba (rXt 2 U (Ai U (.tmp (Aa U) (.cellA (Aa U) isAgg38 sizeOf38 (Bk ox1) qcs .nil)) ?_)));exact⟨_,⟨⟨S,bl,gd S i,kn1,x1,b1,rfl,ox1,hT,fun e=>absurd (hkf.symm.trans e) qde⟩,rfl⟩,sbt⟩
  ·have hkt:kn1=true:=by simpa using c31
   refine rOt 1 U ?_;refine A3 (Og U isAgg4 (by first|exact c_o|exact ans_is ox1 fndq)) U (A8 U U (Aa U)) ?_
   first|refine A3 (Bv (T U)) U (A8 U U (Aa U)) ?_|refine A3 (Br (T U)) U (A8 U U (Aa U)) ?_
   refine rOt 3 U ?_
   first|refine Ae (Aa U) (fun c35=> ?_) (fun c35=> ?_)|refine B6 (Aa U) (fun c35=> ?_) (fun c35=> ?_)
   ·have hb1:b1=false:=by simpa using c35
    refine rCt 1 U (Bg 6 (plq6 []) _ mixd qkr sb0 ?_ Bi);refine rPt 2 U (o_y U (Oi U U runUnderlying109 sizeOf3 qom (by first|exact rfl|exact hSA.b (i:=i) hi2)) ?_ U Ad);refine o_y U (Og U isAgg3 (by first|exact c_o|exact(hSA.mono sbt).f0 (i:=i) hi2 U)) ?_ U Ad;refine o_y U (Oh U isAgg38 sizeOf38 (Bk ox1) (by exact Af fndq)) ?_ U Ad;refine rPt 1 U (Ay U (e_ (Oj U U sizeOf38 .agg (C1 _ _ _) (Bk ox1) updq (by(rw[Bk ox1];rfl))) ?_ U));rintro _ _ ⟨rfl,rfl⟩;refine rOt 5 U (Ba (rXt 2 U (Ai U (.tmp (Aa U) (.cellA (Aa U) isAgg38 sizeOf38 (Bk ox1) qcs .nil)) ?_)))
    first|exact⟨_,⟨⟨S,bl,gd S i,kn1,x1,b1,rfl,ox1,hT,fun e=>absurd (hkf.symm.trans e) qde⟩,rfl⟩,sbt⟩|exact⟨_,⟨⟨S,bl,gd S i,kn1,x1,b1,rfl,ox1,hT,fun _=> .inr ⟨hb1,by have h9:=kk1 hkt;rw[hb1] at h9;exact h9,i,hi2,rfl,hn⟩⟩,rfl⟩,sbt⟩
   ·have hb1:b1=true:=by simpa using c35
    have hk2:=kk1 hkt;rw[hb1] at hk2;have hk3:=hk2.true;refine rCt 5 U (y_ (Aw (T U) Al qom) ?_ U);refine rOt 2 U ?_;refine Av (i+1) ?_ ?_ ⟨qat,trivial⟩ ⟨Aa U,Aa U,Aa U,Aa U,Aa U,trivial⟩ ?_
    ·refine⟨hi2,fun j hj=> ?_⟩;rcases Nat.lt_or_ge j i with h9|h9
     ·exact hn j h9
     ·obtain rfl:j=i:=by omega
      exact hk3
    ·omega
    ·exact sbt
 ·obtain rfl:i=S.length:=by have h9: ¬ ((i:Nat):Int)<(S.length:Nat):=c17;omega
  refine rCt 2 U (Ao (rXt 4 U (y_ (A5 (.cons Al (.cons Al .nil)) (ybd38_0_2 _ _)) (rOt 1 U (e_ (Oj U U sizeOf38 .agg (C1 true hd0 true) (Bk Bf) updq qrf) ?_ U)) U)));rintro _ _ ⟨rfl,rfl⟩;refine rOt 3 U (Ai U (.tmp (Aa U) (.cellA (Aa U) isAgg38 sizeOf38 (Bk Bf) qcs .nil)) ?_)
  first|exact⟨_,⟨⟨S,bl,gd S i,kn1,x1,b1,rfl,ox1,hT,fun e=>absurd (hkf.symm.trans e) qde⟩,rfl⟩,sbt⟩|exact⟨_,⟨⟨S,bl,gd S i,kn1,x1,b1,rfl,ox1,hT,fun _=> .inr ⟨hb1,by have h9:=kk1 hkt;rw[hb1] at h9;exact h9,i,hi2,rfl,hn⟩⟩,rfl⟩,sbt⟩|exact⟨_,⟨⟨S,bl,0,true,hd0,true,rfl,Bf,hT,fun _=> .inl ⟨rfl,rfl,rfl,fun t ht=>by obtain⟨j,hj,rfl⟩:=List.getElem_of_mem ht;rw[← As hj];exact hn j hj⟩⟩,rfl⟩,sbt⟩
theorem eqalw_s {w0:World}{H:Mm}(fi:List Fi)(q:Option Addr)(n c:Nat)(hn:n=fi.length)(hA:Arr w0 H q 3 encFi fi)(hnm:∀ f∈fi,f.nm.size≤9223372036854775807){m1:Pom}(hM1:PoM w0 H m1)(hm1:m1.sz≤1048576)(hz1:NmO m1){m2:Pom}(hM2:PoM w0 H m2)(hm2:m2.sz≤1048576)(hz2:NmO m2)  :
  FSpec Tryz.prog w0 6 #[.slice q n c, .agg (encPo m1).toArray, .agg (encPo m2).toArray] H (Still (.bool true) H):=by
 refine An Tryz.func6 U ntmps6 U (rDt 2 U (e_ (Ok U cs_) ?_ U));rintro _ _ ⟨n4,rfl,rfl⟩;refine e_ (Ok U cs_) ?_ U;rintro _ _ ⟨n5,rfl,rfl⟩;refine rOt 5 U (y_ (Ar .nil call11 (fun H' hs=>sanity_s)) (rOt 7 U (y_ (Oh U isAgg28 sizeOf28 U qcs) ?_ U)) U);refine y_ (Oh U isAgg28 sizeOf28 U qcs) ?_ U;refine e_ (Aj (.cons (T U) (.cons (T U) (.cons (T U) (.cons Al (.cons Al .nil))))) call12 (both2_s fi q n c hn (hA.mono sbt) hnm (hM1.mono sbt) qom hz1 (hM2.mono sbt) qom hz2 30 0)) ?_ U;rintro _ _ ⟨b,⟨rfl,hb⟩,rfl⟩
 first|refine A3 (Bv (T U)) U Ad ?_|refine A3 (Br (T U)) U Ad ?_
 refine rOt 2 U ?_
 first|refine Ae (Aa U) (fun c19=> ?_) (fun c19=> ?_)|refine B6 (Aa U) (fun c19=> ?_) (fun c19=> ?_)
 ·skip
  refine rCt 8 U (Ai U (Of U) ?_);exact⟨_,⟨rfl,rfl⟩,sbt⟩
 ·have hbt:b=true:=by simpa using c19
  obtain⟨-,hfi,⟨⟨hd1,p1,hI1,hF1⟩,hS1⟩,⟨hd2,p2,hI2,hF2⟩,hS2⟩:=hb hbt;have hfl:=hfi.fl;have hAf:=fis_arr hfi hA;have hln:n=(fi.map Fi.fd).length:=hn.trans (List.length_map _).symm;obtain⟨fl,hfe⟩:∃ fl,fi.map Fi.fd=fl:=⟨_,rfl⟩;rw[hfe] at hI1 hF1 hI2 hF2 hS1 hS2 hfl hAf hln;subst hln;refine rCt 5 U (y_ (Oh U isAgg28 sizeOf28 U qcs) ?_ U);refine y_ (Oh U isAgg28 sizeOf28 U qcs) ?_ U;refine e_ (Aj (evq3 U U U) call25 (Iw hfl q c (hAf.mono sbt) hI1 hF1 (hM1.mono sbt) hI2 hF2 (hM2.mono sbt) ⟨by omega,by omega⟩ ⟨by omega,by omega⟩)) ?_ U;rintro _ _ ⟨⟨bl,t1,h1,is1,e1,rfl,o1,hT1,hR1⟩,rfl⟩;refine rOt 5 U (e_ (Ah zeroValue32 cs_) ?_ U);rintro _ _ ⟨n9,rfl,rfl⟩;refine rOt 1 U (e_ (Oj U U sizeOf32 .agg (Bh _) (Ag o1) updq (by rw[Ag o1];rfl)) ?_ U);rintro _ _ ⟨rfl,rfl⟩;refine rOt 7 U (y_ (Oh U isAgg28 sizeOf28 U qcs) ?_ U);refine y_ (Oh U isAgg28 sizeOf28 U qcs) ?_ U;refine e_ (Aj (evq3 U U U) call26 (ralw_s hfl q c (hAf.mono sbt) hI1 hF1 hS1 (hM1.mono sbt) qom hI2 hF2 hS2 (hM2.mono sbt) qom qom qom)) ?_ U;rintro _ _ ⟨⟨S,bl2,t2,kn2,x2,b2,rfl,ox2,hT2,hR2⟩,rfl⟩;have hsm:e1=0→kn2=true→(x2=h1∧b2=is1)∧t1=t2:=fun e0 hk=>alw_same hS1.1 hS2.1 hT1 hT2 (e0 ▸ hR1) hR2 hk
  refine rOt 3 U (e_ (Ah zeroValue38 cs_) ?_ U);rintro _ _ ⟨n13,rfl,rfl⟩;refine rOt 1 U (e_ (Oj U U sizeOf38 .agg (C1 _ _ _) (Bk ox2) updq (by rw[Bk ox2];rfl)) ?_ U);rintro _ _ ⟨rfl,rfl⟩;refine kO tb 2 [7,8,9,10,11,12,13] rfl U (rGt 4 U ?_);refine A3 (Oh U isAgg32 sizeOf32 (Ag o1) (by exact Af fndq)) U (A8 U U (Aa U)) ?_;refine rOt 2 U ?_;refine A3 (Oh U isAgg38 sizeOf38 (Bk ox2) (by exact Af fndq)) U (A8 U U (Aa U)) ?_;refine A3 (Ar (evq4 U U U U) call15 (fun H' hs=>rsame_s h1 o1 is1 e1 (alw_z hR1) kn2 x2 ox2 b2 (fun e0 hk=>(hsm e0 hk).1))) U (A8 U U (Aa U)) (rOt 5 U ?_);refine Aq (s:=48) (Aa U) (fun c48=> ?_) (fun c48=> ?_)
  ·have ht0:=alw_t hR1 c48;refine rOt 4 U ?_;refine Aq (s:=52) (Aa U) (fun c52=> ?_) (fun c52=> ?_)
   ·skip
    refine kO tb 17 [6] rfl U (rGt 1 U (Ai U (Of U) ?_));exact⟨_,⟨rfl,rfl⟩,sbt⟩
   ·exact absurd ht0 c52
  ·have he0:e1=0:=Classical.not_not.1 c48;refine rOt 7 U ?_;refine Aq (s:=55) (Aa U) (fun c55=> ?_) (fun c55=> ?_)
   ·skip
    refine rOt 1 U ?_;refine A3 (Og U isAgg4 qco) U (A8 U U (Aa U)) ?_
    first|refine A3 (Bv (T U)) U (A8 U U (Aa U)) ?_|refine A3 (Br (T U)) U (A8 U U (Aa U)) ?_
    refine rOt 1 U ?_
    first|refine Aq (s:=59) (Aa U) (fun c59=> ?_) (fun c59=> ?_)|refine C2 (s:=59) (Aa U) (fun c59=> ?_) (fun c59=> ?_)
    ·skip
     refine kO tb 10 [6] rfl U (rGt 1 U (Ai U (Of U) ?_));exact⟨_,⟨rfl,rfl⟩,sbt⟩
    ·have htu:=(hsm he0 (by simpa using c59)).2;refine kO tb 10 [6] rfl U (rGt 1 U (Ai U (Of U) ?_))
     first|exact⟨_,⟨rfl,rfl⟩,sbt⟩|exact⟨_,⟨congrArg Value.bool (decide_eq_true htu),rfl⟩,sbt⟩
   ·exact absurd he0 c55
end Go.Proofs.YtkgfmjanajdibaaGreat
namespace Go.Proofs.YtkgfmjanajdibaaGreat
open _root_.Go.Proofs.Tryz
open Go.ChangeShapes Go.WideShapes Go.ChangeAt Go.RowKit Go.Joins
set_option linter.unusedVariables false
set_option linter.unusedSimpArgs false
set_option linter.unusedSectionVars false
set_option maxRecDepth 100000
section
variable {H:Type} {enc:TypeId × Value→H} {W:World}
theorem laid_out:laidOutB Tryz.prog=true:=by kernel_rfl
theorem trodAll_stays:∀ {ts:List TypeId} {vs:List Value} {ds:List (DataW H)} {ps:List MemPlace} {W':World},(∀ t∈ts,Tryz.prog.readableRec t=true∧t<Tryz.prog.types.size)→DataW.TrodAll enc Tryz.prog W 0 (fun _=>true) true ts vs ds ps→Below W.heap.size W W'→(∀ x∈ps,x.block<W.heap.size)→
  DataW.TrodAll enc Tryz.prog W' 0 (fun b=>decide (b<W.heap.size)) true ts vs ds ps
 |[],_,_,_,_,_,h,_,_=>by obtain⟨rfl,rfl,rfl⟩:=trodAll_nil h;exact trodAll_mk0
 |t::ts,_,_,_,_,hr,h,hb,hlt=>by
  obtain⟨v,vs,d,ds,p,q,rfl,rfl,rfl,h0,r0⟩:=trodAll_cons h;exact trodAll_cons_mk (Below.trod laid_out (hr t (by simp)).1 (hr t (by simp)).2 h0 hb (fun x hx=>hlt x (by simp[hx]))) (trodAll_stays (fun t ht=>hr t (by simp[ht])) r0 hb (fun x hx=>hlt x (by simp[hx])))
end
theorem calls_true {f:FuncId}{args:Array Value}{W:World}(h:FSpec Tryz.prog W f args [] (Still (.bool true) [])):Calls Tryz.prog f args W fun e W'=>e= .returned (.bool true)∧Below W.heap.size W W':=
 (h W (Own.start W)).mono fun e W' ⟨v,H',he,hO,hv,_⟩=>⟨by rw[he,hv],hO.below⟩
noncomputable def laidWorld (os:Os):World:=World.holding Tryz.prog os ⟨#[],#[],[]⟩
end Go.Proofs.YtkgfmjanajdibaaGreat
