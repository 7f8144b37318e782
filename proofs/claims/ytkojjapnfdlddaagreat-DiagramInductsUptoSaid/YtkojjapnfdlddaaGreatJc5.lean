/-
  A part of what LawC rests on: the logic, walks and plain laws. No condition.
-/
import Derived.Test.YtkojjapnfdlddaaGreatJc4
import Derived.Test.YtkojjapnfdlddaaGreatRows
import Derived.WalkKit
import Derived.ProofKit
import Derived.OpenShut
import Derived.Lib.SmallJoins
import Derived.Deep.SlicePairs
import Derived.Deep.DeepHandedRow
namespace Go.Proofs.YtkojjapnfdlddaaGreat
open _root_.Go.Proofs.Tryz
open Go.RowKit
set_option linter.unusedVariables false
set_option linter.unusedSimpArgs false
set_option linter.unusedSectionVars false
set_option maxRecDepth 100000
theorem Ie {α:Type}{F:Option α}{z:α}{e:Int}{A B:Prop}(h:(F=some z∧e=0)∨(F=none∧A∧e=12∧B))(he:e=0):F=some z:=by
 rcases h with h|h
 ·exact h.1
 ·have:=h.2.2.1;omega
structure IndOk (bs:List Nat) (t:Int) (x y:Po) (ns3 ns:Ns) (c:Nat):Prop where
 g:Gr (2*bs.length) ns3 ns
 lt:c<ns.length
 rep:∃ C:Hd→Hd→Prop,Rep bs ns c C∧(∀ h g,den t y h g→C h g)∧∀ h g,C h g→∃ m,Cl' (den t x) h m∧den t y m g
section
variable {bs:List Nat} {t:Int} {x y:Po} {ns3 ns n4 n5:Ns} {a c s d most:Nat}
theorem ind_seq (hb:BsOk bs)(hx:x.Fit bs)(hw:Wf (2*bs.length) ns3)(h:IndOk bs t x y ns3 ns c)(la:a<ns3.length)(ra:Rep bs ns3 a (den t x))(fs:seA most ns a c=some (s,n4)):Gr (2*bs.length) ns n4∧s<n4.length∧c<n4.length:=by
 obtain⟨C,rC,_⟩:=h.rep;obtain⟨g4,l4,_⟩:=sq_rep hb h.g.w (Nat.lt_of_lt_of_le la h.g.le) h.lt (fun hh d=>Cg hx hh d) (ra.gr hw la h.g) rC fs;exact⟨g4,l4,Nat.lt_of_lt_of_le h.lt g4.le⟩
theorem ind_uni (hb:BsOk bs)(hx:x.Fit bs)(hy:y.Fit bs)(hw:Wf (2*bs.length) ns3)(h:IndOk bs t x y ns3 ns c)(la:a<ns3.length)(ra:Rep bs ns3 a (den t x))(fs:seA most ns a c=some (s,n4))(fu:orF most n4 c s=some (d,n5)):IndOk bs t x y ns3 n5 d∧(d=c→∀ w,w<ns3.length→Rep bs ns3 w (den t (.seq (.star x) y))→c=w):=by
 obtain⟨C,rC,hC1,hC2⟩:=h.rep;obtain⟨g4,l4,r4⟩:=sq_rep hb h.g.w (Nat.lt_of_lt_of_le la h.g.le) h.lt (fun hh d=>Cg hx hh d) (ra.gr hw la h.g) rC fs;have lc:=Nat.lt_of_lt_of_le h.lt g4.le;obtain⟨g5,l5,r5⟩:=uni_ok g4.w lc l4 (rC.gr h.g.w h.lt g4) r4 fu;have G:=(h.g.trans g4).trans g5;refine⟨⟨G,l5,_,r5,fun h g e=> .inl (hC1 h g e),fun h g e=> ?_⟩,fun e w lw rw'=> ?_⟩
 ·rcases e with e|⟨k,e1,e2⟩
  ·exact hC2 h g e
  ·obtain⟨m,a1,a2⟩:=hC2 k g e2;exact⟨m, .step e1 a1,a2⟩
 ·have rC5:=(rC.gr h.g.w h.lt g4).gr g4.w lc g5;have lc5:=Nat.lt_of_lt_of_le lc g5.le;have heq:=(rep_eq hb g5.w l5 lc5 r5 rC5).1 e;refine(rep_eq hb g5.w lc5 (Nat.lt_of_lt_of_le lw G.le) rC5 (rw'.gr hw lw G)).2 fun h g hh hg o=>⟨fun e=>hC2 h g e,?_⟩
  rintro⟨m,a1,a2⟩;have key:∀ {h m:Hd},Cl' (den t x) h m→HdOk h→den t y m g→C h g:=by
   intro h m a1
   induction a1 with
   |base=>intro _ a2;exact hC1 _ _ a2
   | @step h k m b _ ih=>
    intro hh a2;have ho:=Cg hx hh b;have hk:=ih ho.1 a2;obtain⟨m',b1,b2⟩:=hC2 _ _ hk;have o2:=cl_out (fun hh d=>Cg hx hh d) b1 ho.1;have o3:=Cg hy o2.1 b2;exact(heq h g hh o3.1 (ho.2.trans (o2.2.trans o3.2))).1 (.inr ⟨k,b,hk⟩)
  exact key a1 hh a2
end
theorem ind_s {w0:World}{H:List (Nat × Obj)}(fi:List Fi)(q:Option Addr)(n c:Nat)(hn:n=fi.length)(hA:Arr w0 H q 3 encFi fi)(hnm:∀ f∈fi,f.nm.size≤9223372036854775807)(m1:Pom)(hM1:PoM w0 H m1)(hm1:m1.sz≤1048576)(hz1:NmO m1)(m2:Pom)(hM2:PoM w0 H m2)(hm2:m2.sz≤1048576)(hz2:NmO m2)(tick:Int):
  FSpec Tryz.prog w0 8 #[.slice q n c, .agg (encPo m1).toArray, .agg (encPo m2).toArray, .int .i64 tick] H (Still (.bool true) H):=by
 refine Aq Tryz.func8 U ntmps8 U (rD tb 2 U (e_ (Jy U cs_) ?_ U));rintro _ _ ⟨n5,rfl,rfl⟩;refine e_ (Jy U cs_) ?_ U;rintro _ _ ⟨n6,rfl,rfl⟩;refine rO tb 6 U (y_ (A4 .nil (Dr)) (rO tb 1 U (e_ (An (qe3 U U U) call10 (lright_n fi q n c hn (hA.mono (by exact sbt)) hnm [0,0,0,0,0,0,0,0,0,0] rfl tick)) ?_ U)) U);rintro _ _ ⟨b0,⟨rfl,hr0⟩,rfl⟩;refine rO tb 7 U ?_
 first|refine Aw (Br (T U)) U Ad ?_|refine Aw (B6 (T U)) U Ad ?_
 refine rO tb 2 U ?_
 first|refine Ac (Aa U) (fun c30=> ?_) (fun c30=> ?_)|refine Af (Aa U) (fun c30=> ?_) (fun c30=> ?_)
 ·skip
  refine rC tb 2 U (y_ (Am .nil call11 (fun H' hs=>Cu)) (rO tb 5 U (Ah U (Jt U) ?_)) U);exact⟨_,⟨rfl,rfl⟩,by exact sbt⟩
 ·obtain⟨hfi, -,ht0,ht1⟩:=hr0 (by simpa using c30);obtain⟨fl,hfl,hlf,hAf⟩:=fis_fl hfi hA;obtain rfl:n=fl.length:=hn.trans hlf;refine rC tb 5 U (y_ (Jv U isAgg28 sizeOf28 U (by first|exact Ax)) ?_ U);refine e_ (An (.cons (T U) (.cons (T U) (.cons Aj .nil))) call12 (right_s fl hfl q c (hAf.mono (by exact sbt)) (hM1.mono (by exact sbt)) qom hz1 8)) ?_ U;rintro _ _ ⟨b1,⟨rfl,hr1⟩,rfl⟩;refine rO tb 6 U (y_ (Jv U isAgg28 sizeOf28 U (by first|exact Ax)) ?_ U);refine e_ (An (.cons (T U) (.cons (T U) (.cons Aj .nil))) call12 (right_s fl hfl q c (hAf.mono (by exact sbt)) (hM2.mono (by exact sbt)) qom hz2 8)) ?_ U;rintro _ _ ⟨b2,⟨rfl,hr2⟩,rfl⟩;refine rO tb 7 U ?_
  first|refine Aw (Br (T U)) U Ad ?_|refine Aw (B6 (T U)) U Ad ?_
  refine rO tb 1 U ?_
  first|refine Ak (s:=40) (Aa U) (fun c40=> ?_) (fun c40=> ?_)|refine Av (s:=40) (Aa U) (fun c40=> ?_) (fun c40=> ?_)
  ·skip
   refine rO tb 8 U (y_ (Am .nil call11 (fun H' hs=>Cu)) (rO tb 5 U (Ah U (Jt U) ?_)) U);exact⟨_,⟨rfl,rfl⟩,by exact sbt⟩
  ·have hb1:b1=true:=by simpa using c40
   refine rO tb 1 U ?_
   first|refine Aw (Br (T U)) U (A1 U U (Aa U)) ?_|refine Aw (B6 (T U)) U (A1 U U (Aa U)) ?_
   refine rO tb 3 U ?_
   first|refine Ac (Aa U) (fun c43=> ?_) (fun c43=> ?_)|refine Af (Aa U) (fun c43=> ?_) (fun c43=> ?_)
   ·skip
    refine rC tb 2 U (y_ (Am .nil call11 (fun H' hs=>Cu)) (rO tb 5 U (Ah U (Jt U) ?_)) U);exact⟨_,⟨rfl,rfl⟩,by exact sbt⟩
   ·have hb2:b2=true:=by simpa using c43
    obtain⟨p1,hI1,hF1⟩:=fm_isO hfl (hr1 hb1).2.1 (hr1 hb1).2.2;obtain⟨p2,hI2,hF2⟩:=fm_isO hfl (hr2 hb2).2.1 (hr2 hb2).2.2;refine rC tb 5 U (e_ (An (.cons (T U) (.cons Aj .nil)) call13 (new_s fl hfl q c (hAf.mono (by exact sbt)) 200000 qom)) ?_ U);rintro _ _ ⟨⟨dx,db,p,mp,v⟩,⟨rfl,hdx,hdb,hst⟩,rfl⟩
    dsimp only at hdx hdb hst
    refine rO tb 6 U (y_ (Jv U isAgg28 sizeOf28 U (by first|exact Ax)) ?_ U);refine rO tb 1 U (e_ (An (qe3 U U U) call14 (Et (R:=(slH db ((bsF fl).flatMap encB1) 3++(slH dx (fl.flatMap encF) 67++((n6,Cl (encPo m2) 28)::(n5,Cl (encPo m1) 28)::H)))) hst ((I8 hfl hdx hdb 200000 p mp).mono (by exact sbt)) m1 p1 hI1 hF1 (hM1.mono (by exact sbt)) tick)) ?_ U);rintro _ _ ⟨⟨id1,e1,v1,ns1⟩,⟨rfl,hc1,hst1⟩,rfl⟩
    dsimp only at hc1 hst1
    refine kO tb 7 [3,5,6,12,13,14] rfl U (rG tb 3 U (y_ (Jv U isAgg28 sizeOf28 U (by first|exact Ax)) ?_ U));refine rO tb 1 U (e_ (An (qe3 U U U) call14 (Et (R:=(slH db ((bsF fl).flatMap encB1) 3++(slH dx (fl.flatMap encF) 67++((n6,Cl (encPo m2) 28)::(n5,Cl (encPo m1) 28)::H)))) hst1 ((I8 hfl hdx hdb 200000 p mp).mono (by exact sbt)) m2 p2 hI2 hF2 (hM2.mono (by exact sbt)) tick)) ?_ U);rintro _ _ ⟨⟨id2,e2,v2,ns2⟩,⟨rfl,hc2,hst2⟩,rfl⟩
    dsimp only at hc2 hst2
    refine rO tb 8 U (Bk 14 [(0,true),(1,true),(4,true),(7,true),(2,false),(3,true),(5,false),(6,true),(8,false),(9,true),(10,true),(11,true),(12,true),(13,true)] (slH db ((bsF fl).flatMap encB1) 3++(slH dx (fl.flatMap encF) 67++((n6,Cl (encPo m2) 28)::(n5,Cl (encPo m1) 28)::H))) mixd qkr (List.sublist_append_right _ _) ?_ B1);refine rP tb 1 U (o_y U (Jv U isAgg28 sizeOf28 U (by first|exact Ax)) ?_ U Ad);refine o_y U (Jv U isAgg28 sizeOf28 U (by first|exact Ax)) ?_ U Ad;refine rP tb 1 U (o_e U (Bf (.cons (T U) .nil) (zbs26_1_0 _ _ _ _ _ _ _ _ _ _ _ _ _)) ?_ U Ad);rintro _ _ ⟨n64,rfl,rfl⟩;refine⟨sbt,(o_y U (Am (.cons Aj (.cons (T U) .nil)) call24 (fun H' hs=>Hm 5 (some ⟨n64,0,none⟩) [m1] 1)) (o_e U (Bf (.cons (T U) (.cons (T U) .nil)) (C7 _ _ _ _ _ _ _ _ _ _ _ _ _ _ _ _ _ _ _ _ _ _ _ _ _ _)) ?_ U Ad) U Ad)⟩;rintro _ _ ⟨n67,rfl,rfl⟩;refine⟨sbt,(o_y U (Am (.cons Aj (.cons (T U) .nil)) call24 (fun H' hs=>Hm 4 (some ⟨n67,0,none⟩) [mOp1 5 n64 m1,m2] 2)) ?_ U Ad)⟩;refine o_e U (An (qe3 U U U) call14 (Bt (M:=SM (NewD fl 200000 dx db p mp) v2 ns2) (Et (R:=((n67,Cl (encPo (mOp1 5 n64 m1)++encPo m2) 28)::(n64,Cl (encPo m1) 28)::(slH db ((bsF fl).flatMap encB1) 3++(slH dx (fl.flatMap encF) 67++((n6,Cl (encPo m2) 28)::(n5,Cl (encPo m1) 28)::H))))) hst2 ((I8 hfl hdx hdb 200000 p mp).mono (by exact sbt)) (mOp2 4 n67 (mOp1 5 n64 m1) m2) (.seq (.star p1) p2) (.seq U U (.star U U hI1) hI2) ⟨hF1,hF2⟩ (Hg (by repeat (first|exact Au|refine Ay ?_)) (po_op1 (by repeat (first|exact Au|refine Ay ?_)) (hM1.mono (by exact sbt))) (hM2.mono (by exact sbt))) tick) (by repeat (first|exact Bp|exact LocL.h|apply LocL.t|apply LocL.a)))) ?_ U Ad;rintro _ _ ⟨⟨id3,e3,v3,ns3⟩,⟨rfl,hc3,hst3⟩,rfl⟩
    dsimp only at hc3 hst3
    refine⟨sbt,(rP tb 5 U (A9 U (rO tb 8 U ?_)))⟩
    first|refine Ak (s:=75) (Aa U) (fun c75=> ?_) (fun c75=> ?_)|refine Av (s:=75) (Aa U) (fun c75=> ?_) (fun c75=> ?_)
    ·skip
     refine kO tb 9 [12,13,15,17,82] rfl U (rG tb 3 U (y_ (Am .nil call11 (fun H' hs=>Cu)) (rO tb 5 U (Ah U (Jt U) ?_)) U));exact⟨_,⟨rfl,rfl⟩,by exact sbt⟩
    ·have h1z:=Classical.not_not.1 c75;refine rO tb 4 U ?_
     first|refine Ak (s:=79) (Aa U) (fun c79=> ?_) (fun c79=> ?_)|refine Av (s:=79) (Aa U) (fun c79=> ?_) (fun c79=> ?_)
     ·skip
      refine kO tb 5 [12,13,15,17,82] rfl U (rG tb 3 U (y_ (Am .nil call11 (fun H' hs=>Cu)) (rO tb 5 U (Ah U (Jt U) ?_)) U));exact⟨_,⟨rfl,rfl⟩,by exact sbt⟩
     ·have h2z:=Classical.not_not.1 c79;refine kO tb 5 [12,13,15,17,82] rfl U ?_
      first|refine Ac (Aa U) (fun c82=> ?_) (fun c82=> ?_)|refine Af (Aa U) (fun c82=> ?_) (fun c82=> ?_)
      ·skip
       refine rC tb 2 U (y_ (Am .nil call11 (fun H' hs=>Cu)) (rO tb 5 U (Ah U (Jt U) ?_)) U);exact⟨_,⟨rfl,rfl⟩,by exact sbt⟩
      ·have f1:=Ie hc1 h1z;have f2:=Ie hc2 h2z;have f3:=Ie hc3 (Classical.not_not.1 c82);have hF3:(Po.seq (.star p1) p2).Fit (bsF fl):=⟨hF1,hF2⟩;obtain⟨g1,l1,r1⟩:=Cd (Fj hfl) tick _ p1 hF1 (Js _) f1;obtain⟨g2,l2,r2⟩:=Cd (Fj hfl) tick _ p2 hF2 g1.w f2;obtain⟨g3,l3,r3⟩:=Cd (Fj hfl) tick _ (.seq (.star p1) p2) hF3 g2.w f3;have la:=Nat.lt_of_lt_of_le l1 (g2.trans g3).le;have ra:=r1.gr g1.w l1 (g2.trans g3);have hind0:IndOk (bsF fl) tick p1 p2 ns3 ns3 id2:=⟨.refl g3.w,Nat.lt_of_lt_of_le l2 g3.le,_,r2.gr g2.w l2 g3,fun _ _ h=>h,fun h _ e=>⟨h, .base _,e⟩⟩;refine rC tb 15 U ?_;refine Be (X:=Nat × Nat × Sv × Ns) (V:=fun ⟨i,ci,vi,nsi⟩=>[(19, .int .i64 (ci:Nat)),(20, .int .i64 (i:Nat))]) (C:=[(12,_),(13,_),(17,_)]) (G:=fun ⟨i,ci,vi,nsi⟩=>(n67,Cl (encPo (mOp1 5 n64 m1)++encPo m2) 28)::(n64,Cl (encPo m1) 28)::(SM (NewD fl 200000 dx db p mp) vi nsi++(slH db ((bsF fl).flatMap encB1) 3++(slH dx (fl.flatMap encF) 67++((n6,Cl (encPo m2) 28)::(n5,Cl (encPo m1) 28)::H))))) (φ:=fun ⟨i,ci,vi,nsi⟩=>i≤300∧StOk (NewD fl 200000 dx db p mp) vi nsi∧IndOk (bsF fl) tick p1 p2 ns3 nsi ci) (μ:=fun ⟨i,ci,vi,nsi⟩=>300 - i) (x0:=(0,id2,v3,ns3)) ?_ ⟨Aa rfl,Aa rfl,Aa rfl,trivial⟩ ⟨atd,atd,trivial⟩ (by exact sbt) ?_
       ·exact⟨Nat.zero_le _,hst3,hind0⟩
       rintro⟨i,ci,vi,nsi⟩ ⟨hi,hsti,hind⟩;refine rD tb 7 U ?_
       first|refine Ac (Aa U) (fun c86=> ?_) (fun c86=> ?_)|refine Af (Aa U) (fun c86=> ?_) (fun c86=> ?_)
       ·skip
        refine rC tb 9 U (e_ (An (qe3 U U U) call33 (Bt (M:=SM (NewD fl 200000 dx db p mp) vi nsi) (sequ_s (R:=((n67,Cl (encPo (mOp1 5 n64 m1)++encPo m2) 28)::(n64,Cl (encPo m1) 28)::(slH db ((bsF fl).flatMap encB1) 3++(slH dx (fl.flatMap encF) 67++((n6,Cl (encPo m2) 28)::(n5,Cl (encPo m1) 28)::H))))) hsti id1 ci (Nat.lt_of_lt_of_le la hind.g.le) hind.lt) (by repeat (first|exact Bp|exact LocL.h|apply LocL.t|apply LocL.a)))) ?_ U);rintro _ _ ⟨⟨id4,e4,v4,ns4⟩,⟨rfl,hc4,hst4⟩,rfl⟩
        dsimp only at hc4 hst4
        refine rO tb 14 U ?_
        first|refine Ac (Aa U) (fun c97=> ?_) (fun c97=> ?_)|refine Af (Aa U) (fun c97=> ?_) (fun c97=> ?_)
        ·skip
         refine rC tb 2 U (y_ (Am .nil call11 (fun H' hs=>Cu)) (rO tb 7 U (A6 (rX tb 2 U (Ah U (Jt U) ?_)))) U);exact⟨_,⟨rfl,rfl⟩,by exact sbt⟩
        ·have f4:=Ie hc4 (Classical.not_not.1 c97);obtain⟨g4,l4,lc4⟩:=ind_seq (Fj hfl) hF1 g3.w hind la ra f4;refine rC tb 7 U (e_ (An (qe3 U U U) call31 (Bt (M:=SM (NewD fl 200000 dx db p mp) v4 ns4) (union_s (R:=((n67,Cl (encPo (mOp1 5 n64 m1)++encPo m2) 28)::(n64,Cl (encPo m1) 28)::(slH db ((bsF fl).flatMap encB1) 3++(slH dx (fl.flatMap encF) 67++((n6,Cl (encPo m2) 28)::(n5,Cl (encPo m1) 28)::H))))) hst4 ci id4 lc4 l4) (by repeat (first|exact Bp|exact LocL.h|apply LocL.t|apply LocL.a)))) ?_ U);rintro _ _ ⟨⟨id5,e5,v5,ns5⟩,⟨rfl,hc5,hst5⟩,rfl⟩
         dsimp only at hc5 hst5
         refine rO tb 14 U ?_
         first|refine Ac (Aa U) (fun c107=> ?_) (fun c107=> ?_)|refine Af (Aa U) (fun c107=> ?_) (fun c107=> ?_)
         ·skip
          refine rC tb 2 U (y_ (Am .nil call11 (fun H' hs=>Cu)) (kO tb 3 [8] rfl U (rG tb 4 U (A6 (rX tb 2 U (Ah U (Jt U) ?_))))) U);exact⟨_,⟨rfl,rfl⟩,by exact sbt⟩
         ·have f5:=Ie hc5 (Classical.not_not.1 c107);obtain⟨hind5,hend5⟩:=ind_uni (Fj hfl) hF1 hF2 g3.w hind la ra f4 f5;refine kC tb 10 [12,13,17,19,20,23,111] rfl U ?_
          first|refine Ac (Aa U) (fun c111=> ?_) (fun c111=> ?_)|refine Af (Aa U) (fun c111=> ?_) (fun c111=> ?_)
          ·have hcw:=hend5 qom id3 l3 r3;refine rC tb 2 U (y_ (Am .nil call11 (fun H' hs=>Cu)) (rO tb 3 U (Aw (Gh (T U) (T U) (by rw[hcw])) U (A1 U U (Aa U)) ?_)) U);refine rO tb 8 U (A6 (rX tb 2 U (Ah U (Jt U) ?_)));exact⟨_,⟨rfl,rfl⟩,by exact sbt⟩
          ·skip
           refine rC tb 10 U (y_ (Bc (T U) Aj (by have h9:((i:Nat):Int)<300:=c86;omega)) ?_ U);refine rO tb 2 U ?_;refine A3 ((i+1,id5,v5,ns5)) ?_ ?_ ⟨atd,atd,trivial⟩ ⟨Aa U,Aa U,Aa U,trivial⟩ ?_
           ·exact⟨by have h9:((i:Nat):Int)<300:=c86;omega,hst5,hind5⟩
           ·have h9:((i:Nat):Int)<300:=c86;dsimp only;omega
           ·exact sbt
       ·skip
        refine rC tb 2 U (As (rX tb 4 U (y_ (Am .nil call11 (fun H' hs=>Cu)) (rO tb 4 U (Ah U (Jt U) ?_)) U)));exact⟨_,⟨rfl,rfl⟩,by exact sbt⟩
end Go.Proofs.YtkojjapnfdlddaaGreat
namespace Go.Proofs.YtkojjapnfdlddaaGreat
open _root_.Go.Proofs.Tryz
open Go.ChangeShapes Go.WideShapes Go.ChangeAt Go.RowKit Go.Joins Go.Deep
set_option linter.unusedVariables false
set_option linter.unusedSimpArgs false
set_option linter.unusedSectionVars false
set_option maxRecDepth 100000
theorem below_cell {W w:World}{p:Addr}{v:Value}(hb:Below W.heap.size W w)(h:W.cell? p=some v):w.cell? p=some v:=by
 have hlt:=World.block_lt_of_cell? _ _ h;have:=hb.block p.block hlt;unfold World.cell? at h ⊢;rw[this];exact h
theorem cell_arg {W:World}{p:Addr}{v:Value}(h:W.cell? p=some v):Cell W [] p v:=fun w hO=>below_cell hO.below h
theorem Dt {H:Type}(d:DataW H):1≤Rows.uptoBulk d:=by
 cases d with
 |lit l=>cases l<;>simp[Rows.uptoBulk]
 |nil=>simp[Rows.uptoBulk]
 |ptr d=>simp[Rows.uptoBulk]
 |slice elems spare=>simp[Rows.uptoBulk]
 |agg parts=>simp[Rows.uptoBulk]
 |iface t d=>simp[Rows.uptoBulk]
 |map entries=>simp[Rows.uptoBulk]
 |held h=>simp[Rows.uptoBulk]
theorem blk_sum {H:Type}{f:Nat→Nat}{D:Nat→DataW H}:∀ (l:List Nat),(∀ i∈l,f i≤Rows.uptoBulk (D i))→(l.map f).sum≤Rows.uptoBulkAll (l.map D)
 |[],_=>Nat.le_refl _
 |x::l,h=>by
  have h1:=h x (by simp);have h2:=blk_sum l fun i hi=>h i (by simp[hi])
  simp only[List.map_cons,List.sum_cons,Rows.uptoBulkAll];omega
theorem blk_mem {H:Type}{D:Nat→DataW H}:∀ {l:List Nat} {i:Nat},i∈l→Rows.uptoBulk (D i)≤Rows.uptoBulkAll (l.map D)
 |x::l,i,h=>by
  simp only[List.map_cons,Rows.uptoBulkAll];rcases List.mem_cons.1 h with rfl|h
  ·exact Nat.le_add_right _ _
  ·have:=blk_mem (D:=D) h;omega
section
variable {H:Type} {enc:TypeId × Value→H} {P:Program} {W:World} {b0:Nat} {sp1:Nat→Bool} {held:Bool}
theorem open_arr {α:Type}{t e sz fuel:Nat}{cs:List Value}{x:DataW H × List MemPlace}{el:α→List Value}{φ:α→Prop}{szf:α→Nat}(ht:P.underlying t=some (.slice e))(hc:P.cellsOf e=sz)(hsz:0<sz)
  (hel:∀ n cs y,Rows.uptoBulk y.1<Rows.uptoBulk x.1→DataW.trod enc P W b0 sp1 held n e cs=some y→∃ u:α,cs=el u∧φ u∧szf u≤Rows.uptoBulk y.1) (h:DataW.trod enc P W b0 sp1 held fuel t cs=some x):
  ∃ (q:Option Addr) (l:List α) (cap:Nat),cs=[.slice q l.length cap]∧Arr W [] q sz el l∧l.length≤cap∧l.length≤9223372036854775807∧(∀ u∈l,φ u)∧(l.map szf).sum+1≤Rows.uptoBulk x.1:=by
 rcases open_slice ht h with ⟨rfl,rfl⟩|⟨a,len,cap,m,n,D,Pl,rfl,hb,hl,hm,hmm,rfl,hx⟩
 ·exact⟨none,[],0,rfl,fun i u hi=>by simp at hi,by simp,by simp,by simp,by simp[Rows.uptoBulk]⟩
 have hlm:len≤m:=by rw[hmm];split<;>omega
 have hlen:len≤9223372036854775807:=by unfold maxLen at hm;omega
 cases len with
 |zero=>exact⟨some a,[],cap,rfl,fun i u hi=>by simp at hi,by simp,by simp,by simp,by simp[Rows.uptoBulk]⟩
 |succ k=>
  have hbk:Rows.uptoBulkAll ((List.range (k+1)).map D)+1≤Rows.uptoBulk (DataW.slice ((List.range (k+1)).map D) ((List.range (m - (k+1))).map fun j=>D (k+1+j))):=by
   simp only[Rows.uptoBulk];omega
  have each:∀ i,i<k+1→∃ u:α,W.cells? b0 (a.add (i*sz)) sz=some (el u)∧φ u∧szf u≤Rows.uptoBulk (D i):=fun i hi=>by
   obtain⟨cs',h1,h2⟩:=hx i qom;rw[hc] at h1;have h3:=blk_mem (D:=D) (List.mem_range.2 hi);obtain⟨u,rfl,hu⟩:=hel _ _ _ (by simp only[];omega) h2;exact⟨u,h1,hu⟩
  obtain⟨u0,h00,hu0⟩:=each 0 qom
  letI:Inhabited α:=⟨u0⟩
  obtain⟨f,hf⟩:=choose_lt each;refine⟨some a,(List.range (k+1)).map f,cap,by simp,fun i u hi=> ?_,by simpa using hl,by simpa using hlen,fun u hu=> ?_,?_⟩
  ·have hik:i<k+1:=by have:=(List.getElem?_eq_some_iff.1 hi).1;simpa using this
   have hfu:f i=u:=by simpa[hik] using hi
   obtain⟨sb,so,spot⟩:=a;obtain⟨_,hl0,hc0⟩:=World.cells?_some h00;have hspot:spot=none:=by
    have h6:=(hc0 0 hsz).trans (List.getElem?_eq_getElem qom)
    simpa[Addr.add] using World.cell?_spot h6
   subst hspot;refine⟨rfl,fun j v hj=>cell_arg ?_⟩;obtain⟨_,hl1,hc1⟩:=World.cells?_some (hf i hik).1;rw[hfu] at hl1 hc1;have hjl:=(List.getElem?_eq_some_iff.1 hj).1;have h5:=hc1 j qom;rw[add_add,add_plain] at h5;have h6:=h5.trans hj;rw[← Nat.add_assoc] at h6;exact h6
  ·obtain⟨i,hi,rfl⟩:=List.mem_map.1 hu;exact(hf i (List.mem_range.1 hi)).2.1
  ·have:=blk_sum (f:=fun i=>szf (f i)) (D:=D) (List.range (k+1)) fun i hi=>(hf i (List.mem_range.1 hi)).2.2
   rw[List.map_map];have e:(szf ∘ f)=fun i=>szf (f i):=rfl
   rw[e];simp only[] at hbk ⊢;omega
end
theorem cells3:Tryz.prog.cellsOf 3=1:=by kernel_rfl
theorem cells9:Tryz.prog.cellsOf 9=1:=by kernel_rfl
theorem cells67:Tryz.prog.cellsOf 67=3:=by kernel_rfl
theorem cells25:Tryz.prog.cellsOf 25=5:=by kernel_rfl
theorem cells23:Tryz.prog.cellsOf 23=1:=by kernel_rfl
theorem cells28:Tryz.prog.cellsOf 28=9:=by kernel_rfl
theorem cells26:Tryz.prog.cellsOf 26=1:=by kernel_rfl
theorem own_knob:ownKnob Tryz.prog.godebug=none:=by kernel_rfl
theorem i64_bd {n:Int}(h:(Lit.int .i64 n).wf=true): -9223372036854775808≤n∧n≤9223372036854775807:=by
 have:=bounds_i64 h;exact this
theorem szPL_sum:∀ l:List Pdm,szPL l=(l.map Pdm.sz).sum
 |[]=>by simp[szPL]
 |x::l=>by simp only[szPL,List.map_cons,List.sum_cons,szPL_sum l]
theorem szOL_sum:∀ l:List Pom,szOL l=(l.map Pom.sz).sum
 |[]=>by simp[szOL]
 |x::l=>by simp only[szOL,List.map_cons,List.sum_cons,szOL_sum l]
theorem prtPL_in {l:List Pdm}{a:Pdm}(h:a∈prtPL l):∃ x∈l,a∈prtP x:=by
 induction l with
 |nil=>simp[prtPL] at h
 |cons x l ih=>
  rw[prtPL] at h;rcases List.mem_append.1 h with h|h
  ·exact⟨x,by simp,h⟩
  ·obtain⟨y,h1,h2⟩:=ih h;exact⟨y,by simp[h1],h2⟩
theorem prtOL_in {l:List Pom}{a:Pom}(h:a∈prtOL l):∃ x∈l,a∈prtO x:=by
 induction l with
 |nil=>simp[prtOL] at h
 |cons x l ih=>
  rw[prtOL] at h;rcases List.mem_append.1 h with h|h
  ·exact⟨x,by simp,h⟩
  ·obtain⟨y,h1,h2⟩:=ih h;exact⟨y,by simp[h1],h2⟩
section
variable {H:Type} {enc:TypeId × Value→H} {W:World} {b0 n:Nat} {sp1:Nat→Bool} {held:Bool} {y:DataW H × List MemPlace} {cs:List Value}
abbrev encSv (s:ByteArray):List Value:=[.string s]
theorem Gi {c:Value}(h:DataW.trod enc Tryz.prog W b0 sp1 held n 3 [c]=some y):∃ a:Int,c= .int .i64 a∧(-9223372036854775808≤a∧a≤9223372036854775807):=by
 obtain⟨a,e0,_,wa⟩:=DataW.trod_int underlying3 h;simp at e0;exact⟨a,e0,i64_bd wa⟩
theorem rd_str (h:DataW.trod enc Tryz.prog W b0 sp1 held n 9 cs=some y):∃ u:ByteArray,cs=encSv u∧u.size≤9223372036854775807:=by
 obtain⟨s,e0,_,ws⟩:=DataW.trod_string underlying9 h;exact⟨s,e0,by unfold maxLen at ws;omega⟩
theorem rd_fi (h:DataW.trod enc Tryz.prog W b0 sp1 held n 67 cs=some y):∃ u:Fi,cs=encFi u∧u.nm.size≤9223372036854775807:=by
 obtain⟨xs,m,rfl,rfl,hlen,hxl,hall⟩:=DataW.trod_struct underlying67 h;rw[cells67] at hlen
 match xs,hxl,cs,hlen with
 |[x0,x1,x2],_,[c0,c1,c2],_=>
  have f0:DataW.trod enc Tryz.prog W b0 sp1 held m 9 [c0]=some x0:=by have:=hall 0 _ rfl;simpa[cells9] using this
  have f1:DataW.trod enc Tryz.prog W b0 sp1 held m 3 [c1]=some x1:=by have:=hall 1 _ rfl;simpa[cells9,cells3] using this
  have f2:DataW.trod enc Tryz.prog W b0 sp1 held m 3 [c2]=some x2:=by have:=hall 2 _ rfl;simpa[cells9,cells3] using this
  obtain⟨s,e1,hs⟩:=rd_str f0;obtain⟨a,rfl,_⟩:=Gi f1;obtain⟨b,rfl,_⟩:=Gi f2;simp at e1;exact⟨⟨s,a,b⟩,by rw[e1],hs⟩
theorem rd_pd:∀ (N:Nat) {n:Nat} {y:DataW H × List MemPlace} {cs:List Value},Rows.uptoBulk y.1≤N→DataW.trod enc Tryz.prog W b0 sp1 held n 25 cs=some y→∃ u:Pdm,cs=encPd u∧(PdM W [] u∧NmP u)∧u.sz≤Rows.uptoBulk y.1
 |0,n,y,cs,hN,_=>by have:=Dt y.1;omega
 |N+1,n,y,cs,hN,h=>by
  obtain⟨xs,m,rfl,rfl,hlen,hxl,hall⟩:=DataW.trod_struct underlying25 h;rw[cells25] at hlen
  match xs,hxl,cs,hlen with
  |[x0,x1,x2,x3,x4],_,[c0,c1,c2,c3,c4],_=>
   have f0:DataW.trod enc Tryz.prog W b0 sp1 held m 3 [c0]=some x0:=by have:=hall 0 _ rfl;simpa[cells3] using this
   have f1:DataW.trod enc Tryz.prog W b0 sp1 held m 9 [c1]=some x1:=by have:=hall 1 _ rfl;simpa[cells3,cells9] using this
   have f2:DataW.trod enc Tryz.prog W b0 sp1 held m 3 [c2]=some x2:=by have:=hall 2 _ rfl;simpa[cells3,cells9] using this
   have f3:DataW.trod enc Tryz.prog W b0 sp1 held m 3 [c3]=some x3:=by have:=hall 3 _ rfl;simpa[cells3,cells9] using this
   have f4:DataW.trod enc Tryz.prog W b0 sp1 held m 23 [c4]=some x4:=by have:=hall 4 _ rfl;simpa[cells3,cells9,cells23] using this
   have hb:Rows.uptoBulk x4.1+4≤Rows.uptoBulk (DataW.agg (H:=H) ([x0,x1,x2,x3,x4].map (·.1))):=by
    have:=Dt x0.1;have:=Dt x1.1;have:=Dt x2.1;have:=Dt x3.1;simp only[Rows.uptoBulk,Rows.uptoBulkAll,List.map_cons,List.map_nil] at *;omega
   have hN':Rows.uptoBulk (DataW.agg (H:=H) ([x0,x1,x2,x3,x4].map (·.1)))≤N+1:=hN;obtain⟨k,rfl,_⟩:=Gi f0;obtain⟨s,e1,hs⟩:=rd_str f1;obtain⟨a,rfl,_⟩:=Gi f2;obtain⟨b,rfl,_⟩:=Gi f3;obtain⟨q,l,cap,e2,ha,hc,hl,hf,hsum⟩:=open_arr (el:=encPd) (φ:=fun u=>PdM W [] u∧NmP u) (szf:=Pdm.sz) underlying23 cells25 qom (fun n cs y hy h=>rd_pd N qom h) f4;simp at e1 e2;refine⟨.mk k s a b q cap l,by rw[e1,e2];rfl,⟨.mk ha fun a h=>(hf a h).1,fun a ha=> ?_⟩,?_⟩
   ·rw[Fx] at ha;rcases List.mem_cons.1 ha with rfl|ha
    ·exact hs
    ·obtain⟨x,hx,hax⟩:=prtPL_in ha;exact(hf x hx).2 a hax
   rw[Hl,show (Pdm.mk k s a b q cap l).subs=l from rfl,szPL_sum];exact Nat.le_trans (by omega:(l.map Pdm.sz).sum+1≤Rows.uptoBulk x4.1+4) hb
theorem rd_po:∀ (N:Nat) {n:Nat} {y:DataW H × List MemPlace} {cs:List Value},Rows.uptoBulk y.1≤N→DataW.trod enc Tryz.prog W b0 sp1 held n 28 cs=some y→∃ u:Pom,cs=encPo u∧(PoM W [] u∧NmO u)∧u.sz≤Rows.uptoBulk y.1
 |0,n,y,cs,hN,_=>by have:=Dt y.1;omega
 |N+1,n,y,cs,hN,h=>by
  obtain⟨xs,m,rfl,rfl,hlen,hxl,hall⟩:=DataW.trod_struct underlying28 h;rw[cells28] at hlen
  match xs,hxl,cs,hlen with
  |[x0,x1,x2,x3,x4],_,[c0,c1,c2,c3,c4,c5,c6,c7,c8],_=>
   have f0:DataW.trod enc Tryz.prog W b0 sp1 held m 3 [c0]=some x0:=by have:=hall 0 _ rfl;simpa[cells3] using this
   have f1:DataW.trod enc Tryz.prog W b0 sp1 held m 25 [c1,c2,c3,c4,c5]=some x1:=by have:=hall 1 _ rfl;simpa[cells3,cells25] using this
   have f2:DataW.trod enc Tryz.prog W b0 sp1 held m 9 [c6]=some x2:=by have:=hall 2 _ rfl;simpa[cells3,cells25,cells9] using this
   have f3:DataW.trod enc Tryz.prog W b0 sp1 held m 3 [c7]=some x3:=by have:=hall 3 _ rfl;simpa[cells3,cells25,cells9] using this
   have f4:DataW.trod enc Tryz.prog W b0 sp1 held m 26 [c8]=some x4:=by have:=hall 4 _ rfl;simpa[cells3,cells25,cells9,cells26] using this
   have hb:Rows.uptoBulk x4.1+Rows.uptoBulk x1.1+3≤Rows.uptoBulk (DataW.agg (H:=H) ([x0,x1,x2,x3,x4].map (·.1))):=by
    have:=Dt x0.1;have:=Dt x2.1;have:=Dt x3.1;simp only[Rows.uptoBulk,Rows.uptoBulkAll,List.map_cons,List.map_nil] at *;omega
   have hN':Rows.uptoBulk (DataW.agg (H:=H) ([x0,x1,x2,x3,x4].map (·.1)))≤N+1:=hN;obtain⟨k,rfl,_⟩:=Gi f0;obtain⟨pm,ep,⟨hp1,hp2⟩,hpz⟩:=rd_pd _ (Nat.le_refl _) f1;obtain⟨s,e1,hs⟩:=rd_str f2;obtain⟨a,rfl,_⟩:=Gi f3;obtain⟨q,l,cap,e2,ha,hc,hl,hf,hsum⟩:=open_arr (el:=encPo) (φ:=fun u=>PoM W [] u∧NmO u) (szf:=Pom.sz) underlying26 cells28 qom (fun n cs y hy h=>rd_po N qom h) f4;simp only[List.cons.injEq,and_true] at e1 e2;refine⟨.mk k pm s a q cap l,?_,⟨.mk hp1 ha fun a h=>(hf a h).1,fun a ha=> ?_⟩,?_⟩
   ·rw[e1,e2];show Value.int .i64 k::([c1,c2,c3,c4,c5]++[.string s, .int .i64 a, .slice q l.length cap])=_;rw[ep];rfl
   ·rw[Fy] at ha;rcases List.mem_cons.1 ha with rfl|ha
    ·exact⟨hs,hp2⟩
    ·obtain⟨x,hx,hax⟩:=prtOL_in ha;exact(hf x hx).2 a hax
   rw[Eb,show (Pom.mk k pm s a q cap l).subs=l from rfl,show (Pom.mk k pm s a q cap l).pr=pm from rfl,szOL_sum];exact Nat.le_trans (by omega:(l.map Pom.sz).sum+pm.sz+1≤Rows.uptoBulk x4.1+Rows.uptoBulk x1.1+3) hb
theorem Ht {base:Nat}{r:_root_.Go.Reach}{v:Value}{d:DataW H}{p:List MemPlace}(hv:Value.okWide Tryz.prog W r base 28 v)(h:DataW.Trod enc Tryz.prog W b0 sp1 held 28 v d p):∃ u:Pom,v= .agg (encPo u).toArray∧PoM W [] u∧NmO u∧u.sz≤Rows.uptoBulk d:=by
 obtain⟨cs,rfl,hsz⟩:=okWide_struct underlying28 hv;obtain⟨fuel,hf⟩:=h;obtain⟨l⟩:=cs;obtain⟨u,e,⟨h1,h2⟩,hu⟩:=rd_po _ (Nat.le_refl _) hf;simp only[Value.cells] at e;exact⟨u,by rw[← e],h1,h2,hu⟩
theorem open_fis {base:Nat}{r:_root_.Go.Reach}{v:Value}{d:DataW H}{p:List MemPlace}(hv:Value.okWide Tryz.prog W r base 22 v)(h:DataW.Trod enc Tryz.prog W b0 sp1 held 22 v d p):∃ (q:Option Addr) (l:List Fi) (cap:Nat),v= .slice q l.length cap∧Arr W [] q 3 encFi l∧∀ f∈l,f.nm.size≤9223372036854775807:=by
 obtain⟨a0,len0,cap0,rfl⟩:=okWide_slice underlying22 hv;obtain⟨fuel,hf⟩:=h;obtain⟨q,l,cap,e,a,c,b,f,_⟩:=open_arr (el:=encFi) (φ:=fun u=>u.nm.size≤9223372036854775807) (szf:=fun _=>0) underlying22 cells67 qom (fun n cs y _ h=>by obtain⟨u,h1,h2⟩:=rd_fi h;exact⟨u,h1,h2,Nat.zero_le _⟩) hf;simp only[Value.cells,List.cons.injEq,and_true] at e;exact⟨q,l,cap,e,a,f⟩
end
end Go.Proofs.YtkojjapnfdlddaaGreat
namespace Go.Proofs.YtkojjapnfdlddaaGreat
open _root_.Go.Proofs.Tryz
open Go.ChangeShapes Go.WideShapes Go.ChangeAt Go.RowKit Go.Joins
set_option linter.unusedVariables false
set_option linter.unusedSimpArgs false
set_option linter.unusedSectionVars false
set_option maxRecDepth 100000
section
variable {H:Type} {enc:TypeId × Value→H} {W:World}
theorem laid_out:laidOutB Tryz.prog=true:=by kernel_rfl
theorem trodAll_stays:∀ {ts:List TypeId} {vs:List Value} {ds:List (DataW H)} {ps:List MemPlace} {W':World},(∀ t∈ts,Tryz.prog.readableRec t=true∧t<Tryz.prog.types.size)→DataW.TrodAll enc Tryz.prog W 0 (fun _=>true) true ts vs ds ps→Below W.heap.size W W'→(∀ x∈ps,x.block<W.heap.size)→
  DataW.TrodAll enc Tryz.prog W' 0 (fun b=>decide (b<W.heap.size)) true ts vs ds ps
 |[],_,_,_,_,_,h,_,_=>by obtain⟨rfl,rfl,rfl⟩:=trodAll_nil h;exact trodAll_mk0
 |t::ts,_,_,_,_,hr,h,hb,hlt=>by
  obtain⟨v,vs,d,ds,p,q,rfl,rfl,rfl,h0,r0⟩:=trodAll_cons h;exact trodAll_cons_mk (Below.trod laid_out (hr t (by simp)).1 (hr t (by simp)).2 h0 hb (fun x hx=>hlt x (by simp[hx]))) (trodAll_stays (fun t ht=>hr t (by simp[ht])) r0 hb (fun x hx=>hlt x (by simp[hx])))
end
theorem calls_true {f:FuncId}{args:Array Value}{W:World}(h:FSpec Tryz.prog W f args [] (Still (.bool true) [])):Calls Tryz.prog f args W fun e W'=>e= .returned (.bool true)∧Below W.heap.size W W':=
 (h W (Own.start W)).mono fun e W' ⟨v,H',he,hO,hv,_⟩=>⟨by rw[he,hv],hO.below⟩
noncomputable def laidWorld (os:Os):World:=World.holding Tryz.prog os ⟨#[],#[],[]⟩
end Go.Proofs.YtkojjapnfdlddaaGreat
