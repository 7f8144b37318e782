/-
  A part of what LawD rests on: the logic, walks and plain laws. No condition.
-/
import Derived.Test.YtkgfmjanajdibaaGreatJd5
import Derived.RangeFuncNested
namespace Go.Proofs.YtkgfmjanajdibaaGreat
open _root_.Go.Proofs.Tryz
open Go.RowKit
set_option linter.unusedVariables false
set_option linter.unusedSimpArgs false
set_option linter.unusedSectionVars false
set_option maxRecDepth 100000
theorem ybs99_1_0 (a0:Int)(a1:Int)(a2:Int)(a3:Int)(a4:Int)(a5:Int)(a6:Int)(a7:Int)(a8:Int)(a9:Int)(a10:Int)(a11:Int)(a12:Int)(a13:Int)(a14:Int)(a15:Int)(a16:Int)(a17:Int)(a18:Int)(a19:Int)(w:World):(Instr.buildSlice 99 1 #[(0, .agg #[.int .i64 a0, .int .i64 a1, .int .i64 a2, .int .i64 a3, .int .i64 a4, .int .i64 a5, .int .i64 a6, .int .i64 a7, .int .i64 a8, .int .i64 a9, .int .i64 a10, .int .i64 a11, .int .i64 a12, .int .i64 a13, .int .i64 a14, .int .i64 a15, .int .i64 a16, .int .i64 a17, .int .i64 a18, .int .i64 a19])]).run Tryz.prog w= .ok (.slice (some ⟨w.heap.size,0,none⟩) 1 1) (w.alloc (Cl [.int .i64 a0, .int .i64 a1, .int .i64 a2, .int .i64 a3, .int .i64 a4, .int .i64 a5, .int .i64 a6, .int .i64 a7, .int .i64 a8, .int .i64 a9, .int .i64 a10, .int .i64 a11, .int .i64 a12, .int .i64 a13, .int .i64 a14, .int .i64 a15, .int .i64 a16, .int .i64 a17, .int .i64 a18, .int .i64 a19] 91)):=by kernel_rfl
theorem bs99 {m:Md}(h:HdOk m.1∧HdOk m.2)(w:World):(Instr.buildSlice 99 1 #[(0, .agg (mdC m).toArray)]).run Tryz.prog w= .ok (.slice (some ⟨w.heap.size,0,none⟩) 1 1) (w.alloc (Cl (mdC m) 91)):=by
 obtain⟨a,b⟩:=m;obtain⟨a0,a1,a2,a3,a4,a5,a6,a7,a8,a9,rfl⟩:=hd10 h.1;obtain⟨b0,b1,b2,b3,b4,b5,b6,b7,b8,b9,rfl⟩:=hd10 h.2;exact ybs99_1_0 _ _ _ _ _ _ _ _ _ _ _ _ _ _ _ _ _ _ _ _ w
theorem mods_30 {fl:List Fd}(hfl:FlOk fl){m:Pom}{p:Po}(hI:IsO fl m p)(hF:p.Fit (bsF fl))(hn:m.nd≤30){t:Int}{L:List (Md × List Md)}(hL:RlOk L (den t p)):∀ c∈L,c.2.length≤32768:=fun c hc=>by
 have hq:Eqd (setsO p):=fun e he e' he' b c d=>pw_eq hfl.pw (Jt hI hF e he) (Jt hI hF e' he') c d
 have hr:=(hL.r c hc).1;have hm:matM c.1 c.1.2:=fun _ _ _=>rfl
 have h1:=out_few (L:=setsO p) (h:=c.1.2) (hL.nd c.1.2 c hc hm) fun x hx=>by
  obtain⟨d,hd,rfl⟩:=List.mem_map.1 hx;obtain⟨χ,_,e⟩:=Hj hq (fun e he=>he) (fun e he=>⟨_,Ft hF e he⟩) hr.o2 ((hL.say c.1.2 hr.o2 _).1 ⟨c,hc,hm,d,hd,rfl⟩);exact⟨χ,e⟩
 rw[List.length_map] at h1;have h2:=sets_nd hI;have h3:2 ^ (setsO p).length≤2 ^ 15:=Nat.pow_le_pow_right qom qom;have h3:2 ^ (setsO p).length≤32768:=h3;omega
theorem imgL_len {B:Nat}:∀ {L:List (Md × List Md)},(∀ c∈L,c.2.length≤B)→(imgL L).length≤L.length*B
 |[],_=>Nat.zero_le _
 |c::L,h=>by
  have h1:=h c (by simp);have h2:=imgL_len (L:=L) fun d hd=>h d (by simp[hd])
  show (c.2.map (thnM c.1)++imgL L).length≤(L.length+1)*B;rw[List.length_append,List.length_map,Nat.succ_mul];omega
theorem imgL_app (A B:List (Md × List Md)):imgL (A++B)=imgL A++imgL B:=by unfold imgL;rw[List.flatMap_append]
theorem img_snoc {cs:List Chm}{i:Nat}(hi:i<cs.length):imgL ((cs.take (i+1)).map Chm.pl)=imgL ((cs.take i).map Chm.pl)++(gd cs i).ms.map (thnM (gd cs i).p):=by
 rw[pl_snoc hi,imgL_app];show _++((gd cs i).ms.map (thnM (gd cs i).p)++[])=_;rw[List.append_nil]
theorem chm_sub9 {c:Chm}:∀ {cs:List Chm},c∈cs→(slH c.d (c.ms.flatMap encMdF) 144).Sublist (chM cs)
 |[],h=>by cases h
 |d::cs,h=>by
  show (slH c.d (c.ms.flatMap encMdF) 144).Sublist ((d::cs).flatMap _);rw[List.flatMap_cons];rcases List.mem_cons.1 h with rfl|h
  ·exact List.sublist_append_left _ _
  ·exact(chm_sub9 h).trans (List.sublist_append_right _ _)
theorem ms_arr {w0:World}{d:Sl}{cs:List Chm}{c:Chm}{X:List (Nat × Obj)}(hc:c∈cs)(ho:SlOk c.d c.ms.length 20):Arr w0 ((slH d (cs.flatMap encCh) 94++chM cs)++X) (slQ c.d) 20 encMdF c.ms:=by
 have:=Cw (w0:=w0) (e:=144) (X:=[]) (enc:=encMdF) (l:=c.ms) Dd ho;rw[List.append_nil] at this;exact this.mono (((chm_sub9 hc).trans (List.sublist_append_right _ _)).trans (List.sublist_append_left _ _))
structure ErrN (fl:List Fd) (tick:Int) (p:Po) (ns:Ns) (e:Int):Prop where
 f:PF fl tick p ns=none→e=12
 l:∀ a n,PF fl tick p ns=some (a,n)→4000<(rulesP n (bsF fl) a).length→e=2
structure ImgK (fl:List Fd) (tick:Int) (p:Po) (ns:Ns) (D:Sd) (d:Sl) (l:List Md) (id:Nat) (v':Sv) (ns':Ns):Prop where
 sl:SlOk d l.length 20
 pf:PF fl tick p ns=some (id,ns')
 few:(rulesP ns' (bsF fl) id).length≤4000
 im:l=imgL (rulesP ns' (bsF fl) id)
 st:StOk D v' ns'
 len:l.length≤200000000
theorem qimg_s {w0:World}{fl:List Fd}(hfl:FlOk fl)(tick:Int){dx db:Sl}{p mp:Nat}{v:Sv}{ns:Ns}{R:List (Nat × Obj)}(hst:StOk (NewD fl 200000 dx db p mp) v ns)(hE:En w0 R (NewD fl 200000 dx db p mp) fl){m1:Pom}{p1:Po}(hI1:IsO fl m1 p1)(hF1:p1.Fit (bsF fl))(hM1:PoM w0 R m1)(hn1:m1.nd≤30)(e:Int)(hEr:ErrN fl tick p1 ns e):
  FSpecP Tryz.prog w0 67 #[.agg #[.pointer (some ⟨p,0,none⟩), .int .i64 tick], .agg (encPo m1).toArray] (SM (NewD fl 200000 dx db p mp) v ns++R) (fun u H'=>∃ x:Sl × List Md × Nat × Sv × Ns,(u=slV x.1 x.2.1.length∧ImgK fl tick p1 ns (NewD fl 200000 dx db p mp) x.1 x.2.1 x.2.2.1 x.2.2.2.1 x.2.2.2.2)∧H'=(slH x.1 (x.2.1.flatMap encMdF) 91++SM (NewD fl 200000 dx db p mp) x.2.2.2.1 x.2.2.2.2)++R) (errV e) (fun H'=>∃ y:Sv × Ns,(∀ a n,PF fl tick p1 ns=some (a,n)→¬ (rulesP n (bsF fl) a).length≤4000)∧H'=SM (NewD fl 200000 dx db p mp) y.1 y.2++R):=by
 have hb:=Ef hfl;refine Bm Tryz.func67 U ntmps67 U (rD tb 2 U (e_ (Nr U cs_) ?_ U));rintro _ _ ⟨n2,rfl,rfl⟩;refine e_ (Nr U cs_) ?_ U;rintro _ _ ⟨n3,rfl,rfl⟩;refine rO tb 10 U (Bk 11 [(0,true),(1,true),(2,true),(3,true),(10,true),(4,false),(5,false),(6,true),(7,true),(8,false),(9,true)] ((n3,Cl (encPo m1) 28)::(n2,Cl [.pointer (some ⟨p,0,none⟩), .int .i64 tick] 70)::R) mixd qkr (by exact sbt) ?_ B7);refine rP tb 1 U ?_;refine o_y U (Nl U isAgg68 (by first|exact c_o|exact Af fdd 0 _ U)) ?_ U Ac;refine o_y U (Nn U isAgg70 sizeOf70 U (by first|exact Af fdd|exact As)) ?_ U Ac;refine o_y U (Nn U isAgg28 sizeOf28 U (by first|exact Af fdd|exact As)) ?_ U Ac;refine rP tb 1 U ?_;refine o_p rfl (Ay (.cons (T rfl) (.cons (T rfl) .nil)) call46 (A3 (M:=SM (NewD fl 200000 dx db p mp) v ns) (FSpecP.re (fw:=errV e) (E0 (R:=((n3,Cl (encPo m1) 28)::(n2,Cl [.pointer (some ⟨p,0,none⟩), .int .i64 tick] 70)::R)) hst (hE.mono (by exact sbt)) m1 p1 hI1 hF1 (hM1.mono (by exact sbt)) tick) (by rintro _ ⟨_,⟨h9,_⟩,_⟩;rw[hEr.f h9])) (by repeat (first|exact Bt|exact LocL.h|apply LocL.t|apply LocL.a)))) ?_ (by rintro _ ⟨⟨v9,n9⟩,⟨e1,g9,hst9⟩,rfl⟩;(repeat refine B3 ?_);exact Bb ⟨(v9,n9),(by intro a n f;cases e1.symm.trans f),rfl⟩ (by exact sbt)) rfl Ac;rintro _ _ ⟨⟨id1,v1,ns1⟩,⟨rfl,e1,hst1⟩,rfl⟩
 dsimp only at e1 hst1
 obtain⟨g1,h1⟩:=Dt hb hF1 hst.w e1;refine⟨sbt,?_⟩;refine o_e U (Al (qe2 U U) call61 (rules_v (D:=(NewD fl 200000 dx db p mp)) hst1 hb U (by repeat (first|exact List.sublist_append_left _ _|refine List.Sublist.cons _ ?_)) (hE.bits.mono (by exact sbt)) (pol_bdd hfl hI1 hF1 qom hst1.w h1.rep) id1 h1.lt (fun h0=>ps_0 h1.lt h0))) ?_ U Ac;rintro _ _ ⟨d5,cs5,e5,rfl,hR5,rfl⟩;refine⟨sbt,(rP tb 2 U ?_)⟩;refine o_p rfl (Ay (.cons (T rfl) (.cons (T rfl) .nil)) call60 (mustC_s (slQ d5) cs5.length (slC d5) e5 (errV e) (fun h9=>by obtain⟨h7,h8, -⟩:=hR5.resolve_left (fun k=>h9 k.1);rw[h7,hEr.l _ _ e1 h8]))) ?_ (by rintro _ ⟨he,rfl⟩;(repeat refine B3 ?_);exact Bb ⟨(v1,ns1),(by intro a n f;cases e1.symm.trans f;have:=(hR5.resolve_left fun k=>he k.1).2.1;omega),rfl⟩ (by exact sbt)) rfl Ac;rintro _ _ ⟨⟨⟩,⟨rfl,he0⟩,rfl⟩;obtain⟨-,h4,he5,hd5,hc5⟩:=hR5.resolve_right fun k=>absurd (k.1.symm.trans he0) qde
 have hRl:=rules_ok hb hst1.w h1.lt h1.rep (fun a b=>h1.out a b);have hcl:cs5.length≤4000:=by rw[← List.length_map (f:=Chm.pl),he5];exact h4
 have hmb:=mods_30 hfl hI1 hF1 hn1 hRl;have hmc:∀ c∈cs5,c.ms.length≤32768:=fun c hc=>hmb _ (L3 he5 hc)
 have hil:∀ i,i≤cs5.length→(imgL ((cs5.take i).map Chm.pl)).length≤i*32768:=fun i hi=>by
  have h9:=imgL_len (B:=32768) (L:=(cs5.take i).map Chm.pl) fun c hc=>by obtain⟨d,hd,rfl⟩:=List.mem_map.1 hc;exact hmc d (List.mem_of_mem_take hd)
  rwa [List.length_map,List.length_take,Nat.min_eq_left hi] at h9
 refine⟨sbt,(rP tb 1 U (A4 U (rO tb 3 U ?_)))⟩;refine Bj (X:=Nat × Sl × List Md) (V:=fun ⟨i,dI,l⟩=>[(5,slV dI l.length),(20, .int .i64 (i:Nat))]) (C:=[(18,_),(19,_)]) (G:=fun ⟨i,dI,l⟩=>slH dI (l.flatMap encMdF) 91++((slH d5 (cs5.flatMap encCh) 94++chM cs5)++((n3,Cl (encPo m1) 28)::(n2,Cl [.pointer (some ⟨p,0,none⟩), .int .i64 tick] 70)::(SM (NewD fl 200000 dx db p mp) v1 ns1++R)))) (φ:=fun ⟨i,dI,l⟩=>i≤cs5.length∧l=imgL ((cs5.take i).map Chm.pl)∧SlOk dI l.length 20) (μ:=fun ⟨i,dI,l⟩=>cs5.length - i) (x0:=(0, .nil,[])) ?_ ⟨Aa rfl,Aa rfl,trivial⟩ ⟨(by first|exact Aa rfl|(refine Ag (Aa rfl) (vint ?_);omega)|(refine Ag (Aa rfl) ?_;simp;done)|(refine Ag (Aa rfl) ?_;exact(by rw[List.length_append];rfl))),(by first|exact Aa rfl|(refine Ag (Aa rfl) (vint ?_);omega)|(refine Ag (Aa rfl) ?_;simp;done)|(refine Ag (Aa rfl) ?_;exact(by rw[List.length_append];rfl))),trivial⟩ (by exact List.Sublist.refl _) ?_
 ·exact⟨Nat.zero_le _,rfl,rfl⟩
 rintro⟨i,dI,l⟩ ⟨hi,hl,hdI⟩;have hll:=hil i hi;rw[← hl] at hll;refine rD tb 6 U ?_
 first|refine Ae (Aa U) (fun c21=> ?_) (fun c21=> ?_)|refine Ah (Aa U) (fun c21=> ?_) (fun c21=> ?_)
 ·have hi2:i<cs5.length:=by have h9:((i:Nat):Int)<(cs5.length:Nat):=c21;omega
  have hci:=hc5 _ (Ba hi2);have hpi:=(hRl.r _ (L3 he5 (Ba hi2))).1;have hmi:=(hRl.r _ (L3 he5 (Ba hi2))).2;have hmn:=hmc _ (Ba hi2);obtain⟨l0,hl0⟩:∃ l0,l0=l:=⟨_,rfl⟩;subst hl0;refine rC tb 6 U (y_ (Np U U runUnderlying86 sizeOf94 (by have h9:((i:Nat):Int)<(cs5.length:Nat):=c21;omega) (by first|exact rfl|exact(Ld (w0:=w0) (X:=[]) hd5).b (i:=i) hi2|exact(ms_arr (w0:=w0) (d:=d5) (X:=[]) (Ba hi2) hci.sl).b (i:=j) hj2)) ?_ U);refine y_ (Nn U isAgg94 sizeOf94 (D6 _) (by first|exact((Ld hd5).mono (List.sublist_append_right _ _)).cs (i:=i) hi2|exact As)) ?_ U;refine e_ (Ai zeroValue94 cs_) ?_ U;rintro _ _ ⟨n7,rfl,rfl⟩;refine e_ (Nq U U sizeOf94 .agg (encCh_one _) (D6 _) (by repeat (first|exact Upd.h|apply Upd.t|apply Bl)) (by rw[D6];rfl)) ?_ U;rintro _ _ ⟨rfl,rfl⟩;rw[encCh_eq hci.o];refine rO tb 5 U ?_;refine y_ (Nl U isAgg92 (by first|exact c_o|exact Hw hci.o fdd)) ?_ U;refine rO tb 5 U ?_;refine Bj (X:=Nat × Sl × List Md) (V:=fun ⟨j,dI,l⟩=>[(5,slV dI l.length),(27, .int .i64 (j:Nat))]) (C:=[(7,_),(18,_),(19,_),(20,_),(25,_),(26,_)]) (G:=fun ⟨j,dI,l⟩=>(n7,Cl (chV (gd cs5 i).p (slV (gd cs5 i).d (gd cs5 i).ms.length)) 94)::(slH dI (l.flatMap encMdF) 91++((slH d5 (cs5.flatMap encCh) 94++chM cs5)++((n3,Cl (encPo m1) 28)::(n2,Cl [.pointer (some ⟨p,0,none⟩), .int .i64 tick] 70)::(SM (NewD fl 200000 dx db p mp) v1 ns1++R))))) (φ:=fun ⟨j,dI,l⟩=>j≤(gd cs5 i).ms.length∧l=l0++((gd cs5 i).ms.take j).map (thnM (gd cs5 i).p)∧SlOk dI l.length 20) (μ:=fun ⟨j,dI,l⟩=>(gd cs5 i).ms.length - j) (x0:=(0,dI,l0)) ?_ ⟨Aa rfl,Aa rfl,Aa rfl,Aa rfl,Aa rfl,Aa rfl,trivial⟩ ⟨(by first|exact Aa rfl|(refine Ag (Aa rfl) (vint ?_);omega)|(refine Ag (Aa rfl) ?_;simp;done)|(refine Ag (Aa rfl) ?_;exact(by rw[List.length_append];rfl))),(by first|exact Aa rfl|(refine Ag (Aa rfl) (vint ?_);omega)|(refine Ag (Aa rfl) ?_;simp;done)|(refine Ag (Aa rfl) ?_;exact(by rw[List.length_append];rfl))),trivial⟩ (by exact sbt) ?_
  ·exact⟨Nat.zero_le _,by simp,hdI⟩
  rintro⟨j,dI,l⟩ ⟨hj,hl2,hdI⟩;have hl3:l.length≤l0.length+32768:=by rw[hl2,List.length_append,List.length_map,List.length_take];omega
  refine rD tb 6 U ?_
  first|refine Ae (Aa U) (fun c28=> ?_) (fun c28=> ?_)|refine Ah (Aa U) (fun c28=> ?_) (fun c28=> ?_)
  ·have hj2:j<(gd cs5 i).ms.length:=by have h9:((j:Nat):Int)<((gd cs5 i).ms.length:Nat):=c28;omega
   have hmj:=hmi _ (Ba hj2);refine rC tb 6 U (y_ (Np U U runUnderlying92 sizeOf144 (by have h9:((j:Nat):Int)<((gd cs5 i).ms.length:Nat):=c28;omega) (by first|exact rfl|exact(Ld (w0:=w0) (X:=[]) hd5).b (i:=i) hi2|exact(ms_arr (w0:=w0) (d:=d5) (X:=[]) (Ba hi2) hci.sl).b (i:=j) hj2)) ?_ U);refine y_ (Nn U isAgg144 sizeOf144 (Be hmj.o1 hmj.o2) (by first|exact md_cs hmj (((ms_arr (X:=((n3,Cl (encPo m1) 28)::(n2,Cl [.pointer (some ⟨p,0,none⟩), .int .i64 tick] 70)::(SM (NewD fl 200000 dx db p mp) v1 ns1++R))) (Ba hi2) hci.sl).mono (by exact sbt)).cs (i:=j) hj2)|exact As)) ?_ U;refine e_ (Ai zeroValue144 cs_) ?_ U;rintro _ _ ⟨n9,rfl,rfl⟩;refine e_ (Nq U U sizeOf144 .agg (Ct _ _) (Be hmj.o1 hmj.o2) (by repeat (first|exact Upd.h|apply Upd.t|apply Bl)) (by rw[Be hmj.o1 hmj.o2];rfl)) ?_ U;rintro _ _ ⟨rfl,rfl⟩;refine rO tb 5 U ?_;refine y_ (Nn U isAgg91 sizeOf91 (Be hci.o.1 hci.o.2) (by first|exact chV_lo fdd|exact As)) ?_ U;refine y_ (Nn U isAgg144 sizeOf144 (Be hmj.o1 hmj.o2) (by first|exact Af fdd|exact As)) ?_ U;refine y_ (Aw (qe2 U U) call110 (fun H' hs=>eimage_s (gd cs5 i).p (gd (gd cs5 i).ms j) hpi hmj)) (e_ (Br (.cons (T U) .nil) (bs99 (Gh _ _))) ?_ U) U;rintro _ _ ⟨n36,rfl,rfl⟩;refine e_ (Cu (enc:=encMdF) (thnM (gd cs5 i).p (gd (gd cs5 i).ms j)) (by':=160) qlc (T U) (T U) runUnderlying99 runUnderlying99 sizeOf91 typeInfo91 U zeroValue91 U Dd (G9 _) hdI qde qom (by rw[Fa (Gh _ _)];exact As)) ?_ U;rintro _ _ ⟨d',rfl,hd',rfl⟩;refine rO tb 5 U (y_ (A8 (T U) An qom) ?_ U);refine rO tb 2 U ?_;refine A6 ((j+1,d',l++[thnM (gd cs5 i).p (gd (gd cs5 i).ms j)])) ?_ ?_ ⟨(by first|exact Aa U|(refine Ag (Aa U) (vint ?_);omega)|(refine Ag (Aa U) ?_;simp;done)|(refine Ag (Aa U) ?_;exact(by rw[List.length_append];rfl))),(by first|exact Aa U|(refine Ag (Aa U) (vint ?_);omega)|(refine Ag (Aa U) ?_;simp;done)|(refine Ag (Aa U) ?_;exact(by rw[List.length_append];rfl))),trivial⟩ ⟨Aa U,Aa U,Aa U,Aa U,Aa U,Aa U,trivial⟩ ?_
   ·exact⟨hj2,by rw[hl2,List.take_succ_eq_append_getElem hj2,List.map_append,Az hj2,List.append_assoc];rfl,by rw[List.length_append];exact hd'⟩
   ·first|omega|(simp only[];omega)
   ·exact sbt
  ·obtain rfl:j=(gd cs5 i).ms.length:=by have h9: ¬ ((j:Nat):Int)<((gd cs5 i).ms.length:Nat):=c28;omega
   rw[List.take_length] at hl2;refine rC tb 2 U (Ax (rX tb 4 U (y_ (A8 (T U) An qom) ?_ U)));refine rO tb 2 U ?_;refine A6 ((i+1,dI,l)) ?_ ?_ ⟨(by first|exact Aa U|(refine Ag (Aa U) (vint ?_);omega)|(refine Ag (Aa U) ?_;simp;done)|(refine Ag (Aa U) ?_;exact(by rw[List.length_append];rfl))),(by first|exact Aa U|(refine Ag (Aa U) (vint ?_);omega)|(refine Ag (Aa U) ?_;simp;done)|(refine Ag (Aa U) ?_;exact(by rw[List.length_append];rfl))),trivial⟩ ⟨Aa U,Aa U,trivial⟩ ?_
   ·exact⟨hi2,by rw[hl2,hl,img_snoc hi2],hdI⟩
   ·first|omega|(simp only[];omega)
   ·exact sbt
 ·obtain rfl:i=cs5.length:=by have h9: ¬ ((i:Nat):Int)<(cs5.length:Nat):=c21;omega
  rw[List.take_length,he5] at hl;refine rC tb 2 U (Ax (rX tb 9 U (Bx U (Nk U) ?_)));exact⟨_,⟨(dI,l,id1,v1,ns1),⟨rfl,⟨hdI,e1,h4,hl,hst1,by show l.length≤_;omega⟩⟩,rfl⟩,by rw[List.append_assoc];exact sbt⟩
def andZ (p q:Md):Md:=if ovlB p q then andM p q else (hd0,hd0)
theorem andZ_t {p q:Md}(h:ovlB p q=true):andZ p q=andM p q:=if_pos h
theorem Io (p q:Md):HdOk (andZ p q).1∧HdOk (andZ p q).2:=by
 unfold andZ
 split
 ·exact K9 p q
 ·exact⟨Bu,Bu⟩
theorem eand_v {w0:World}{H:List (Nat × Obj)}(p q:Md)(hp:MdR p)(hq:MdR q):FSpec Tryz.prog w0 68 #[.agg (mdC p).toArray, .agg (mdC q).toArray] H (Still (.tuple #[.agg (mdC (andZ p q)).toArray, .bool (ovlB p q)]) H):=by
 have e:=eand_s (w0:=w0) (H:=H) p q hp hq;unfold andZ
 by_cases h:ovlB p q=true
 ·rw[if_pos h] at e ⊢;rw[h];exact e
 ·rw[if_neg h] at e ⊢;rw[show ovlB p q=false by simpa using h];exact e
abbrev metR (x:Md) (Y:List Md):List Hd:=(Y.filter (ovlB x)).map fun y=>(andM x y).2
theorem met_snoc {X Y:List Md}{i:Nat}(hi:i<X.length):metL (X.take (i+1)) Y=metL (X.take i) Y++metR (gd X i) Y:=by
 unfold metL;rw[List.take_succ_eq_append_getElem hi,List.flatMap_append,Az hi];simp
theorem metR_snoc {x:Md}{Y:List Md}{j:Nat}(hj:j<Y.length):metR x (Y.take (j+1))=metR x (Y.take j)++(if ovlB x (gd Y j) then [(andM x (gd Y j)).2] else []):=by
 unfold metR;rw[List.take_succ_eq_append_getElem hj,List.filter_append,List.map_append,← Az hj]
 congr 1
 by_cases h:ovlB x (gd Y j)=true
 ·rw[if_pos h,List.filter_cons_of_pos h];rfl
 ·rw[if_neg h,List.filter_cons_of_neg h];rfl
theorem met_no {A:List Hd}{x:Md}{Y:List Md}{j:Nat}{h:Hd}{is:Bool}(hj:j<Y.length)(ho:ovlB x (gd Y j)=false)(a:LstOf (A++metR x (Y.take j)) h is):LstOf (A++metR x (Y.take (j+1))) h is:=by
 rw[metR_snoc hj,if_neg (by rw[ho];decide),List.append_nil];exact a
theorem met_yes {A:List Hd}{x:Md}{Y:List Md}{j:Nat}{h:Hd}{is:Bool}(hj:j<Y.length)(ho:ovlB x (gd Y j)=true)(hh:HdOk h)(a:LstOf (A++metR x (Y.take j)) h is):LstOf (A++metR x (Y.take (j+1))) (lesH h is (andM x (gd Y j)).2) (lesI h is (andM x (gd Y j)).2):=by
 rw[metR_snoc hj,if_pos ho,← List.append_assoc];exact lst_step hh (K9 _ _).2 a
abbrev L9 (fl:List Fd) (tick:Int) (p1 p2:Po):Prop:=∀ a n,PF fl tick p2 (N0 fl)=some (a,n)→(rulesP n (bsF fl) a).length≤4000→∀ b m,PF fl tick p1 n=some (b,m)→¬ (rulesP m (bsF fl) b).length≤4000
structure ErrD (fl:List Fd) (tick:Int) (p1 p2:Po) (e:Int):Prop where
 two:ErrN fl tick p2 (N0 fl) e
 one:∀ a n,PF fl tick p2 (N0 fl)=some (a,n)→(rulesP n (bsF fl) a).length≤4000→ErrN fl tick p1 n e
theorem imgs_rl {fl:List Fd}(hfl:FlOk fl){tick:Int}{p1:Po}{ns ns':Ns}{D:Sd}{d:Sl}{l:List Md}{id:Nat}{v':Sv}(hw:Wf (2*(bsF fl).length) ns)(hF:p1.Fit (bsF fl))(h:ImgK fl tick p1 ns D d l id v' ns'):RlOk (rulesP ns' (bsF fl) id) (den tick p1):=by
 have hb:=Ef hfl;obtain⟨g,k⟩:=Dt hb hF hw h.pf;exact rules_ok hb g.w k.lt k.rep (fun a b=>k.out a b)
theorem imgs_r {fl:List Fd}(hfl:FlOk fl){tick:Int}{p1:Po}{ns ns':Ns}{D:Sd}{d:Sl}{l:List Md}{id:Nat}{v':Sv}(hw:Wf (2*(bsF fl).length) ns)(hF:p1.Fit (bsF fl))(h:ImgK fl tick p1 ns D d l id v' ns'):∀ z∈l,MdR z:=by
 rw[h.im];exact La (imgs_rl hfl hw hF h)
theorem imgs_dst {fl:List Fd}(hfl:FlOk fl){tick:Int}{p1 p2:Po}{ns n1 n2:Ns}{D:Sd}{d6 d7:Sl}{l6 l7:List Md}{i1 i2:Nat}{v1 v2:Sv}{h:Hd}{is:Bool}(hw:Wf (2*(bsF fl).length) ns)(hw1:Wf (2*(bsF fl).length) n1)(hF1:p1.Fit (bsF fl))(hF2:p2.Fit (bsF fl))(h6:ImgK fl tick p2 ns D d6 l6 i1 v1 n1)(h7:ImgK fl tick p1 n1 D d7 l7 i2 v2 n2)(a:LstOf (metL l7 l6) h is):Ans (DstP tick p1 p2) h is:=by
 rw[h6.im,h7.im] at a;exact met_ans (imgs_rl hfl hw1 hF1 h7) (imgs_rl hfl hw hF2 h6) a
theorem qdst_s {w0:World}{H:List (Nat × Obj)}{fl:List Fd}(hfl:FlOk fl)(tick:Int){m1:Pom}{p1:Po}(hI1:IsO fl m1 p1)(hF1:p1.Fit (bsF fl))(hM1:PoM w0 H m1){b1:Nat}(f1:Fnd H b1 (Cl (encPo m1) 28)){m2:Pom}{p2:Po}(hI2:IsO fl m2 p2)(hF2:p2.Fit (bsF fl))(hM2:PoM w0 H m2){b2:Nat}(f2:Fnd H b2 (Cl (encPo m2) 28))(hn1:m1.nd≤30)(hn2:m2.nd≤30)(e:Int)(hEr:ErrD fl tick p1 p2 e):QuS w0 fl tick 66 [.pointer (some ⟨b2,0,none⟩), .pointer (some ⟨b1,0,none⟩)] e (Ans (DstP tick p1 p2)) (L9 fl tick p1 p2) H:=by
 intro dx db p mp v R hR hst hE;have hb:=Ef hfl;show FSpecP Tryz.prog w0 66 #[Value.agg #[.pointer (some ⟨p,0,none⟩), .int .i64 tick], .pointer (some ⟨b2,0,none⟩), .pointer (some ⟨b1,0,none⟩)] _ _ _ _;refine Bm Tryz.func66 U ntmps66 U (rD tb 2 U (e_ (Nr U cs_) ?_ U));rintro _ _ ⟨n3,rfl,rfl⟩;refine e_ (Ai zeroValue32 cs_) ?_ U;rintro _ _ ⟨n4,rfl,rfl⟩;refine e_ (Ai zeroValue4 cs_) ?_ U;rintro _ _ ⟨n5,rfl,rfl⟩;refine rO tb 4 U ?_
 first|refine A5 (Aq (T U) An sizeOf4) U Ac ?_|refine A5 (B4 (T U) An U sizeOf4) U Ac ?_|refine A5 (Bi (T U) An U sizeOf4) U Ac ?_
 rintro _ _ ⟨rfl,rfl⟩;refine rO tb 4 U ?_;refine y_ (Nn U isAgg70 sizeOf70 U (by first|exact Af fdd|exact As)) ?_ U;refine y_ (Nn U isAgg28 sizeOf28 U (by first|exact Af (Fnd.mono f2 (List.Sublist.trans hR (by exact sbt)))|exact As)) ?_ U;refine p_ (Ay (.cons (T rfl) (.cons (T rfl) .nil)) call67 (A3 (M:=SM (NewD fl 200000 dx db p mp) v (nsE (2*(bsF fl).length))) (qimg_s (R:=((n5,Cl [.bool true] 4)::(n4,Cl [.int .i64 0, .int .i64 0, .int .i64 0, .int .i64 0, .int .i64 0, .int .i64 0, .int .i64 0, .int .i64 0, .int .i64 0, .int .i64 0] 32)::(n3,Cl [.pointer (some ⟨p,0,none⟩), .int .i64 tick] 70)::R)) hfl tick hst (hE.mono (by exact sbt)) hI2 hF2 (hM2.mono (List.Sublist.trans hR (by exact sbt))) hn2 e hEr.two) (by repeat (first|exact Bt|exact LocL.h|apply LocL.t|apply LocL.a)))) ?_ (by rintro _ ⟨⟨v9,n9⟩,hN,rfl⟩;(repeat refine B3 ?_);exact Bb ⟨(fun a n f g b m f2=>absurd g (hN a n f)),by exact sbt⟩ (List.Sublist.refl _)) rfl;rintro _ _ ⟨⟨d6,l6,id1,v1,ns1⟩,⟨rfl,hK6⟩,rfl⟩
 dsimp only at hK6
 rw[List.append_assoc];refine rO tb 6 U ?_;refine y_ (Nn U isAgg70 sizeOf70 U (by first|exact Af fdd|exact As)) ?_ U;refine y_ (Nn U isAgg28 sizeOf28 U (by first|exact Af (Fnd.mono f1 (List.Sublist.trans hR (by exact sbt)))|exact As)) ?_ U;refine p_ (Ay (.cons (T rfl) (.cons (T rfl) .nil)) call67 (A3 (M:=SM (NewD fl 200000 dx db p mp) v1 ns1) (qimg_s (R:=((n5,Cl [.bool true] 4)::(n4,Cl [.int .i64 0, .int .i64 0, .int .i64 0, .int .i64 0, .int .i64 0, .int .i64 0, .int .i64 0, .int .i64 0, .int .i64 0, .int .i64 0] 32)::(n3,Cl [.pointer (some ⟨p,0,none⟩), .int .i64 tick] 70)::(slH d6 (l6.flatMap encMdF) 91++R))) hfl tick hK6.st (hE.mono (by exact sbt)) hI1 hF1 (hM1.mono (List.Sublist.trans hR (by exact sbt))) hn1 e (hEr.one _ _ hK6.pf hK6.few)) (by repeat (first|exact Bt|exact LocL.h|apply LocL.t|apply LocL.a)))) ?_ (by rintro _ ⟨⟨v9,n9⟩,hN,rfl⟩;(repeat refine B3 ?_);exact Bb ⟨(fun a n f g b m f2=>by cases hK6.pf.symm.trans f;exact hN b m f2),by exact sbt⟩ (List.Sublist.refl _)) rfl;rintro _ _ ⟨⟨d7,l7,id2,v2,ns2⟩,⟨rfl,hK7⟩,rfl⟩
 dsimp only at hK7
 rw[List.append_assoc];have hR6:=imgs_r hfl hst.w hF2 hK6;have hR7:=imgs_r hfl hK6.st.w hF1 hK7;have hn6:=hK6.len;have hn7:=hK7.len;refine rO tb 5 U ?_;refine Bj (X:=Nat × Hd × Bool) (V:=fun ⟨i,h,is⟩=>[(20, .int .i64 (i:Nat))]) (C:=[(4,_),(5,_),(6,_),(18,_),(19,_)]) (G:=fun ⟨i,h,is⟩=>(n5,Cl [.bool is] 4)::(n4,Cl (hdC h) 32)::(n3,Cl [.pointer (some ⟨p,0,none⟩), .int .i64 tick] 70)::(slH d6 (l6.flatMap encMdF) 91++(slH d7 (l7.flatMap encMdF) 91++(SM (NewD fl 200000 dx db p mp) v2 ns2++R)))) (φ:=fun ⟨i,h,is⟩=>i≤l7.length∧HdOk h∧LstOf (metL (l7.take i) l6) h is) (μ:=fun ⟨i,h,is⟩=>l7.length - i) (x0:=(0,hd0,true)) ?_ ⟨Aa rfl,Aa rfl,Aa rfl,Aa rfl,Aa rfl,trivial⟩ ⟨atd,trivial⟩ (by exact List.Sublist.refl _) ?_
 ·exact⟨Nat.zero_le _,Bu,lst_nil⟩
 rintro⟨i,h,is⟩ ⟨hi,hh,hL⟩;refine rD tb 6 U ?_
 first|refine Ae (Aa U) (fun c21=> ?_) (fun c21=> ?_)|refine Ah (Aa U) (fun c21=> ?_) (fun c21=> ?_)
 ·have hi2:i<l7.length:=by have h9:((i:Nat):Int)<(l7.length:Nat):=c21;omega
  have hx:=hR7 _ (Ba hi2);have hA7:=(Cw (w0:=w0) (e:=91) (X:=(SM (NewD fl 200000 dx db p mp) v2 ns2++R)) (enc:=encMdF) Dd hK7.sl).mono (show (slH d7 (l7.flatMap encMdF) 91++(SM (NewD fl 200000 dx db p mp) v2 ns2++R)).Sublist ((n5,Cl [.bool is] 4)::(n4,Cl (hdC h) 32)::(n3,Cl [.pointer (some ⟨p,0,none⟩), .int .i64 tick] 70)::(slH d6 (l6.flatMap encMdF) 91++(slH d7 (l7.flatMap encMdF) 91++(SM (NewD fl 200000 dx db p mp) v2 ns2++R)))) by exact sbt);refine rC tb 6 U (y_ (Np U U runUnderlying99 sizeOf91 (by have h9:((i:Nat):Int)<(l7.length:Nat):=c21;omega) (by first|exact rfl|exact(Cw (w0:=w0) (e:=91) (X:=[]) (enc:=encMdF) Dd hK7.sl).b (i:=i) hi2|exact(Cw (w0:=w0) (e:=91) (X:=[]) (enc:=encMdF) Dd hK6.sl).b (i:=j) hj2)) ?_ U);refine y_ (Nn U isAgg91 sizeOf91 (Be hx.o1 hx.o2) (by first|exact md_cs hx (hA7.cs (i:=i) hi2)|exact As)) ?_ U;refine e_ (Ai zeroValue91 cs_) ?_ U;rintro _ _ ⟨n8,rfl,rfl⟩;refine e_ (Nq U U sizeOf91 .agg (Ct _ _) (Be hx.o1 hx.o2) (by repeat (first|exact Upd.h|apply Upd.t|apply Bl)) (by rw[Be hx.o1 hx.o2];rfl)) ?_ U;rintro _ _ ⟨rfl,rfl⟩;refine rO tb 10 U ?_;refine Bj (X:=Nat × Hd × Bool) (V:=fun ⟨j,h,is⟩=>[(26, .int .i64 (j:Nat))]) (C:=[(4,_),(5,_),(6,_),(8,_),(18,_),(19,_),(20,_),(24,_),(25,_)]) (G:=fun ⟨j,h,is⟩=>(n8,Cl (mdC (gd l7 i)) 91)::(n5,Cl [.bool is] 4)::(n4,Cl (hdC h) 32)::(n3,Cl [.pointer (some ⟨p,0,none⟩), .int .i64 tick] 70)::(slH d6 (l6.flatMap encMdF) 91++(slH d7 (l7.flatMap encMdF) 91++(SM (NewD fl 200000 dx db p mp) v2 ns2++R)))) (φ:=fun ⟨j,h,is⟩=>j≤l6.length∧HdOk h∧LstOf (metL (l7.take i) l6++metR (gd l7 i) (l6.take j)) h is) (μ:=fun ⟨j,h,is⟩=>l6.length - j) (x0:=(0,h,is)) ?_ ⟨Aa rfl,Aa rfl,Aa rfl,Aa rfl,Aa rfl,Aa rfl,Aa rfl,Aa rfl,Aa rfl,trivial⟩ ⟨atd,trivial⟩ (by exact List.Sublist.refl _) ?_
  ·exact⟨Nat.zero_le _,hh,by rw[show metR (gd l7 i) (l6.take 0)=[] from rfl,List.append_nil];exact hL⟩
  rintro⟨j,h,is⟩ ⟨hj,hh,hL2⟩;refine rD tb 6 U ?_
  first|refine Ae (Aa U) (fun c27=> ?_) (fun c27=> ?_)|refine Ah (Aa U) (fun c27=> ?_) (fun c27=> ?_)
  ·have hj2:j<l6.length:=by have h9:((j:Nat):Int)<(l6.length:Nat):=c27;omega
   have hy:=hR6 _ (Ba hj2);have hA6:=(Cw (w0:=w0) (e:=91) (X:=(slH d7 (l7.flatMap encMdF) 91++(SM (NewD fl 200000 dx db p mp) v2 ns2++R))) (enc:=encMdF) Dd hK6.sl).mono (show (slH d6 (l6.flatMap encMdF) 91++(slH d7 (l7.flatMap encMdF) 91++(SM (NewD fl 200000 dx db p mp) v2 ns2++R))).Sublist ((n8,Cl (mdC (gd l7 i)) 91)::(n5,Cl [.bool is] 4)::(n4,Cl (hdC h) 32)::(n3,Cl [.pointer (some ⟨p,0,none⟩), .int .i64 tick] 70)::(slH d6 (l6.flatMap encMdF) 91++(slH d7 (l7.flatMap encMdF) 91++(SM (NewD fl 200000 dx db p mp) v2 ns2++R)))) by exact sbt);refine rC tb 6 U (y_ (Np U U runUnderlying99 sizeOf91 (by have h9:((j:Nat):Int)<(l6.length:Nat):=c27;omega) (by first|exact rfl|exact(Cw (w0:=w0) (e:=91) (X:=[]) (enc:=encMdF) Dd hK7.sl).b (i:=i) hi2|exact(Cw (w0:=w0) (e:=91) (X:=[]) (enc:=encMdF) Dd hK6.sl).b (i:=j) hj2)) ?_ U);refine y_ (Nn U isAgg91 sizeOf91 (Be hy.o1 hy.o2) (by first|exact md_cs hy (hA6.cs (i:=j) hj2)|exact As)) ?_ U;refine e_ (Ai zeroValue91 cs_) ?_ U;rintro _ _ ⟨n10,rfl,rfl⟩;refine e_ (Nq U U sizeOf91 .agg (Ct _ _) (Be hy.o1 hy.o2) (by repeat (first|exact Upd.h|apply Upd.t|apply Bl)) (by rw[Be hy.o1 hy.o2];rfl)) ?_ U;rintro _ _ ⟨rfl,rfl⟩;refine rO tb 4 U ?_;refine y_ (Nn U isAgg91 sizeOf91 (Be hx.o1 hx.o2) (by first|exact Af fdd|exact As)) ?_ U;refine y_ (Nn U isAgg91 sizeOf91 (Be hy.o1 hy.o2) (by first|exact Af fdd|exact As)) ?_ U;refine y_ (Aw (qe2 U U) call68 (fun H' hs=>eand_v (gd l7 i) (gd l6 j) hx hy)) (rO tb 3 U (e_ (Ai zeroValue91 cs_) ?_ U)) U;rintro _ _ ⟨n11,rfl,rfl⟩;refine e_ (Nq U U sizeOf91 .agg (Ct _ _) (Be (Io _ _).1 (Io _ _).2) (by repeat (first|exact Upd.h|apply Upd.t|apply Bl)) (by rw[Be (Io _ _).1 (Io _ _).2];rfl)) ?_ U;rintro _ _ ⟨rfl,rfl⟩;refine rO tb 8 U ?_
   first|refine Ae (Aa U) (fun c36=> ?_) (fun c36=> ?_)|refine Ah (Aa U) (fun c36=> ?_) (fun c36=> ?_)
   ·have ho9:ovlB (gd l7 i) (gd l6 j)=true:=c36;have hz:MdR (andZ (gd l7 i) (gd l6 j)):=by rw[andZ_t ho9];exact and_r hx hy
    refine rC tb 1 U ?_;refine y_ (Nn U isAgg91 sizeOf91 (Be (Io _ _).1 (Io _ _).2) (by first|exact Af fdd|exact As)) ?_ U;refine y_ (Aw (qe1 U) call63 (fun H' hs=>eleast_s (andZ (gd l7 i) (gd l6 j)) hz)) (e_ (Al (qe3 U U U) call62 (B9 (M:=[(n5,Cl [.bool is] 4),(n4,Cl (hdC h) 32)]) (eles_s (R:=(n11,Cl (mdC (andZ (gd l7 i) (gd l6 j))) 91)::(n10,Cl (mdC (gd l6 j)) 91)::(n8,Cl (mdC (gd l7 i)) 91)::((n3,Cl [.pointer (some ⟨p,0,none⟩), .int .i64 tick] 70)::(slH d6 (l6.flatMap encMdF) 91++(slH d7 (l7.flatMap encMdF) 91++(SM (NewD fl 200000 dx db p mp) v2 ns2++R))))) n4 n5 h hh is (andZ (gd l7 i) (gd l6 j)).2 hz.o2) (by repeat (first|exact loc_2|apply LocL.t|apply LocL.a)))) ?_ U) U;rintro _ _ ⟨⟨⟩,rfl,rfl⟩;rw[andZ_t ho9];refine rO tb 4 U (y_ (A8 (T U) An qom) ?_ U);refine rO tb 2 U ?_;refine A6 ((j+1,lesH h is (andM (gd l7 i) (gd l6 j)).2,lesI h is (andM (gd l7 i) (gd l6 j)).2)) ?_ ?_ ⟨atd,trivial⟩ ⟨Aa U,Aa U,Aa U,Aa U,Aa U,Aa U,Aa U,Aa U,Aa U,trivial⟩ ?_
    ·exact⟨hj2,les_ok hh (K9 _ _).2,met_yes hj2 ho9 hh hL2⟩
    ·first|omega|(simp only[];omega)
    ·exact sbt
   ·have ho9:ovlB (gd l7 i) (gd l6 j)=false:=c36;refine rC tb 4 U (y_ (A8 (T U) An qom) ?_ U);refine rO tb 2 U ?_;refine A6 ((j+1,h,is)) ?_ ?_ ⟨atd,trivial⟩ ⟨Aa U,Aa U,Aa U,Aa U,Aa U,Aa U,Aa U,Aa U,Aa U,trivial⟩ ?_
    ·exact⟨hj2,hh,met_no hj2 ho9 hL2⟩
    ·first|omega|(simp only[];omega)
    ·exact sbt
  ·obtain rfl:j=l6.length:=by have h9: ¬ ((j:Nat):Int)<(l6.length:Nat):=c27;omega
   rw[List.take_length] at hL2;refine rC tb 2 U (Ax (rX tb 4 U (y_ (A8 (T U) An qom) ?_ U)));refine rO tb 2 U ?_;refine A6 ((i+1,h,is)) ?_ ?_ ⟨atd,trivial⟩ ⟨Aa U,Aa U,Aa U,Aa U,Aa U,trivial⟩ ?_
   ·exact⟨hi2,hh,by rw[met_snoc hi2];exact hL2⟩
   ·first|omega|(simp only[];omega)
   ·exact sbt
 ·obtain rfl:i=l7.length:=by have h9: ¬ ((i:Nat):Int)<(l7.length:Nat):=c21;omega
  rw[List.take_length] at hL;refine rC tb 2 U (Ax (rX tb 4 U ?_));refine y_ (Nn U isAgg32 sizeOf32 (Aj hh) (by first|exact Af fdd|exact As)) ?_ U;refine y_ (Nl U isAgg4 (by first|exact c_o|exact Af fdd 0 _ U)) ?_ U;refine e_ (Nq U U sizeOf32 .agg (Bh _) (Aj hh) (by repeat (first|exact Upd.h|apply Upd.t|apply Bl)) qrf) ?_ U;rintro _ _ ⟨rfl,rfl⟩
  first|refine A5 (Nq U U sizeOf4) U Ac ?_|refine A5 (B4 (T U) (T U) U sizeOf4) U Ac ?_|refine A5 (Bi (T U) (T U) U sizeOf4) U Ac ?_
  rintro _ _ ⟨rfl,rfl⟩;refine rO tb 3 U (Bx U (.cellA (Aa U) isAgg32 sizeOf32 (Aj hh) (by first|exact As) (.cell (Aa U) isAgg4 (by first|exact c_o) .nil)) ?_);exact⟨_,⟨⟨h,is,rfl,hh,imgs_dst hfl hst.w hK6.st.w hF1 hF2 hK6 hK7 hL⟩,by exact sbt⟩,sb0⟩
theorem edistinct_s {w0:World}{H:List (Nat × Obj)}{fl:List Fd}(hfl:FlOk fl)(q:Option Addr)(c:Nat)(hA:Arr w0 H q 3 encF fl)(tick:Int){m1:Pom}{p1:Po}(hI1:IsO fl m1 p1)(hF1:p1.Fit (bsF fl))(hM1:PoM w0 H m1){m2:Pom}{p2:Po}(hI2:IsO fl m2 p2)(hF2:p2.Fit (bsF fl))(hM2:PoM w0 H m2)(hn1:m1.nd≤30)(hn2:m2.nd≤30)(e:Int)(hEr:ErrD fl tick p1 p2 e):
  FSpec Tryz.prog w0 21 #[.slice q fl.length c, .agg (encPo m1).toArray, .agg (encPo m2).toArray, .int .i64 tick] H (AskK (Ans (DstP tick p1 p2)) e (L9 fl tick p1 p2) H):=by
 refine Au Tryz.func21 U ntmps21 U (rD tb 2 U (e_ (Nr U cs_) ?_ U));rintro _ _ ⟨n5,rfl,rfl⟩;refine e_ (Nr U cs_) ?_ U;rintro _ _ ⟨n6,rfl,rfl⟩;refine e_ (Ai zeroValue32 cs_) ?_ U;rintro _ _ ⟨n8,rfl,rfl⟩;refine rO tb 8 U (y_ (Bs (.cons (T U) (.cons (T U) .nil))) ?_ U);refine e_ (Al (qe3 U U U) call43 (Kf fl hfl q c (hA.mono (by exact sbt)) tick e call66 (qdst_s hfl tick hI1 hF1 (hM1.mono (by exact sbt)) (by repeat (first|exact Am|refine Ar ?_)) hI2 hF2 (hM2.mono (by exact sbt)) (by repeat (first|exact Am|refine Ar ?_)) hn1 hn2 e hEr))) ?_ U;rintro _ _ ⟨⟨h,is,e9,rfl,hh,hR⟩,rfl⟩;refine rO tb 3 U (e_ (Nq U U sizeOf32 .agg (Bh _) (Aj hh) (by repeat (first|exact Upd.h|apply Upd.t|apply Bl)) (by rw[Aj hh];rfl)) ?_ U);rintro _ _ ⟨rfl,rfl⟩;refine rO tb 5 U (Ak U (.cellA (Aa U) isAgg32 sizeOf32 (Aj hh) (by first|exact As) (.tmp (Aa U) (Nk U))) ?_);exact⟨_,⟨⟨h,is,e9,rfl,hh,hR⟩,rfl⟩,by exact sbt⟩
noncomputable def isS {α:Type} (o:Option α):Bool:=oC o (fun _=>true) false
theorem C6 {α:Type}{o:Option α}(h:isS o=true):∃ x,o=some x:=by cases o with|none=>cases h|some x=>exact⟨x,rfl⟩
theorem rules_few {ns:Ns}{s:Fs}{a:Nat}{L:List Nat}(h:Rs 70 ns s)(e:rdC s 35 0 [a]=some L)(hl:L.length≤4000):(rulesP ns bsE a).length≤4000:=by
 unfold rulesP
 split
 ·simp
 ·have h1:=congrArg List.length (Lx h bsE 35 0 (hd0,hd0) [pt0 a] L e);unfold rsP;rw[List.length_map] at h1 ⊢;show (rsF ns bsE 35 0 (hd0,hd0) [pt0 a]).length≤4000;omega
abbrev q1_1:Po:= .seq (.set exK 1) (.set exK 2)
abbrev q1_2:Po:= .set exK 2
def q1_t:List Nat:=[2,3,4,5,6,7,8,9,10,11,12,13,14,15,16,17,18,19,20,21,22,23,24,25,26,27,28,29,30,31,32,33,34,35,36,37,38,39,40,41,42,43,44,45,46,47,48,49,50,51,52,53,54,55,56,57,58,59,60,61,62,63,64,65,66,67,68,69,70,71,72,73,74,75,76,77,78,79,80,81,82,83,84,85,86,87,88,89,90,91,92,93,94,95,96,97,98,99,100,101,102,103,2,3,104,105,106,107,108,109,110,111,112,113,114,115,116,117,118,119,120,121,122,123,124,125,126,127,128,129,130,131,132,133,134,135,136,137,138,139,140,141,142,143,144,145,146,147,148,149,150,151,152,153,154,155,156,157,158,159,160,161,162,163,164,165,166,167,168,169,170,171,172,173,174,175,176,177,178,179,180,181,182,183,184,185,186,187,188,189,190,191,192,193,194,195,196,197,198,199,200,201,202,203,2,2,105,105,106,106,108,109,110,111,112,113,114,115,116,117,118,119,120,121,122,123,124,125,126,127,128,129,130,131,132,133,134,135,136,137,138,139,140,141,142,143,144,145,146,147,148,149,150,151,152,153,154,155,156,157,158,159,160,161,162,163,164,165,166,167,168,169,170,171,172,173,174,175,176,177,178,179,180,181,182,183,184,185,186,187,188,189,190,191,192,193,194,195,196,197,198,199,200,201,202,203,2,3,104,105,106,107,108,109,110,111,112,113,114,115,116,117,118,119,120,121,122,123,124,125,126,127,128,129,130,131,132,133,134,135,136,137,138,139,140,141,142,143,144,145,146,147,148,149,150,151,152,153,154,155,156,157,158,159,160,161,162,163,164,165,166,167,168,169,170,171,172,173,174,175,176,177,178,179,180,181,182,183,184,185,186,187,188,189,190,191,192,193,194,195,196,197,198,199,200,201,202,203]
theorem q1_r:isS (bO (polT 70 bsE 0 (rdN bsE) (q1_1) (sQ q1_t)) fun a=>bO (polT 70 bsE 0 (rdN bsE) (q1_2) a.2) fun b=>some 0)=true:=by kernel_rfl
theorem q1_no: ¬ Gx exF 0 q1_1 q1_2:=by
 unfold Gx PF N0;rw[Bw];intro hno;obtain⟨z,h⟩:=C6 q1_r;obtain⟨⟨a,s1⟩,h1,h⟩:=A2 h;obtain⟨n1,f1,r1⟩:=By (most:=200000) qom qom _ _ _ (rsQ _) h1;obtain⟨⟨b,s2⟩,h2,h⟩:=A2 h;obtain⟨n2,f2,r2⟩:=By (most:=200000) qom qom _ _ _ r1 h2;exact hno _ _ f1 _ _ f2
abbrev q2_1:Po:= .fil (.eq exK 1)
abbrev q2_2:Po:= .fil .tru
def q2_t:List Nat:=[2,3,4,5,6,7,8,9,10,11,12,13,14,15,16,17,18,19,20,21,22,23,24,25,26,27,28,29,30,31,32,33,34,35,36,37,38,39,40,41,42,43,44,45,46,47,48,49,50,51,52,53,54,55,56,57,58,59,60,61,62,63,64,65,66,67,68,69,70,71,72,73,74,75,76,77,78,79,80,81,82,83,84,85,86,87,88,89,90,91,92,93,94,95,96,97,98,99,100,101,102,103,104,105,106,107,108,109,110,111,112,113,114,115,116,117,118,119,120,121,122,123,124,125,126,127,128,129,130,131,132,133,134,135,136,137,138,139,140,141,142,143,144,145,146,147,148,149,150,151,152,153,154,155,156,157,158,159,160,161,162,163,164,165,166,167,168,169,170,171,172,173,174,175,176,177,178,179,180,181,182,183,184,185,186,187,188,189,190,191,192,193,194,195,196,197,198,199,200,201,202,203,204,205,206,207,208,209,210,5,6,7,8,9,10,11,12,13,14,15,16,17,18,19,20,21,22,23,24,25,26,27,28,29,30,31,32,33,34,35,36,37,38,39,40,41,42,43,44,45,46,47,48,49,50,51,52,53,54,55,56,57,58,59,60,61,62,63,64,65,66,67,68,69,70,71,72,73,74,75,76,77,78,79,80,81,82,83,84,85,86,87,88,89,90,91,92,93,94,95,96,97,98,99,100,101,102,103,104,105,106,107,108,109]
theorem q2_r:isS (bO (polT 70 bsE 0 (rdN bsE) (q2_1) (sQ q2_t)) fun a=>bO (polT 70 bsE 0 (rdN bsE) (q2_2) a.2) fun b=>some 0)=true:=by kernel_rfl
theorem q2_no: ¬ Gx exF 0 q2_1 q2_2:=by
 unfold Gx PF N0;rw[Bw];intro hno;obtain⟨z,h⟩:=C6 q2_r;obtain⟨⟨a,s1⟩,h1,h⟩:=A2 h;obtain⟨n1,f1,r1⟩:=By (most:=200000) qom qom _ _ _ (rsQ _) h1;obtain⟨⟨b,s2⟩,h2,h⟩:=A2 h;obtain⟨n2,f2,r2⟩:=By (most:=200000) qom qom _ _ _ r1 h2;exact hno _ _ f1 _ _ f2
abbrev Me:Po:= .fil (.no (.time 3 7))
abbrev Mf:Po:= .fil .tru
def q3a_t:List Nat:=[2,3,4,5,6,7,8,9,10,11,12,13,14,15,16,17,18,19,20,21,22,23,24,25,26,27,28,29,30,31,32,33,34,35,36,37,38,39,40,41,42,43,44,45,46,47,48,49,50,51,52,53,54,55,56,57,58,59,60,61,62,63,64,65,66,67,68,69,70,71,72,73,74,75,76,77,78,79,80,81,82,83,84,85,86,87,88,89,90,91,92,93,94,95,96,97,98,99,100,101,102,103,104,105,106,2,3,4,5,6,7,8,9,10,11,12,13,14,15,16,17,18,19,20,21,22,23,24,25,26,27,28,29,30,31,32,33,34,35,36,37,38,39,40,41,42,43,44,45,46,47,48,49,50,51,52,53,54,55,56,57,58,59,60,61,62,63,64,65,66,67,68,69,70,71,72,73,74,75,76,77,78,79,80,81,82,83,84,85,86,87,88,89,90,91,92,93,94,95,96,97,98,99,100,101,102,103,104,105,106]
theorem q3a_r:isS (bO (polT 70 bsE 0 (rdN bsE) (Me) (sQ q3a_t)) fun a=>bO (polT 70 bsE 0 (rdN bsE) (Mf) a.2) fun b=>some 0)=true:=by kernel_rfl
theorem q3a_no: ¬ Gx exF 0 Me Mf:=by
 unfold Gx PF N0;rw[Bw];intro hno;obtain⟨z,h⟩:=C6 q3a_r;obtain⟨⟨a,s1⟩,h1,h⟩:=A2 h;obtain⟨n1,f1,r1⟩:=By (most:=200000) qom qom _ _ _ (rsQ _) h1;obtain⟨⟨b,s2⟩,h2,h⟩:=A2 h;obtain⟨n2,f2,r2⟩:=By (most:=200000) qom qom _ _ _ r1 h2;exact hno _ _ f1 _ _ f2
abbrev q3b_1:Po:= .fil (.no (.time 3 7))
abbrev q3b_2:Po:= .fil .tru
def q3b_t:List Nat:=[2,3,4,5,6,7,8,9,10,11,12,13,14,15,16,17,18,19,20,21,22,23,24,25,26,27,28,29,30,31,32,33,34,35,36,37,38,39,40,41,42,43,44,45,46,47,48,49,50,51,52,53,54,55,56,57,58,59,60,61,62,63,64,65,66,67,68,69,70,71,72,73,74,75,76,77,78,79,80,81,82,83,84,85,86,87,88,89,90,91,92,93,94,95,96,97,98,99,100,101,102,103,104,105,106,2,3,4,5,6,7,8,9,10,11,12,13,14,15,16,17,18,19,20,21,22,23,24,25,26,27,28,29,30,31,32,33,34,35,36,37,38,39,40,41,42,43,44,45,46,47,48,49,50,51,52,53,54,55,56,57,58,59,60,61,62,63,64,65,66,67,68,69,70,71,72,73,74,75,76,77,78,79,80,81,82,83,84,85,86,87,88,89,90,91,92,93,94,95,96,97,98,99,100,101,102,103,104,105,106]
theorem q3b_r:isS (bO (polT 70 bsE 3 (rdN bsE) (q3b_1) (sQ q3b_t)) fun a=>bO (polT 70 bsE 3 (rdN bsE) (q3b_2) a.2) fun b=>some 0)=true:=by kernel_rfl
theorem q3b_no: ¬ Gx exF 3 q3b_1 q3b_2:=by
 unfold Gx PF N0;rw[Bw];intro hno;obtain⟨z,h⟩:=C6 q3b_r;obtain⟨⟨a,s1⟩,h1,h⟩:=A2 h;obtain⟨n1,f1,r1⟩:=By (most:=200000) qom qom _ _ _ (rsQ _) h1;obtain⟨⟨b,s2⟩,h2,h⟩:=A2 h;obtain⟨n2,f2,r2⟩:=By (most:=200000) qom qom _ _ _ r1 h2;exact hno _ _ f1 _ _ f2
abbrev q3c_1:Po:= .fil (.no (.time 3 7))
abbrev q3c_2:Po:= .fil .tru
def q3c_t:List Nat:=[2,3,4,5,6,7,8,9,10,11,12,13,14,15,16,17,18,19,20,21,22,23,24,25,26,27,28,29,30,31,32,33,34,35,36,37,38,39,40,41,42,43,44,45,46,47,48,49,50,51,52,53,54,55,56,57,58,59,60,61,62,63,64,65,66,67,68,69,70,71,72,73,74,75,76,77,78,79,80,81,82,83,84,85,86,87,88,89,90,91,92,93,94,95,96,97,98,99,100,101,102,103,104,105,106,2,3,4,5,6,7,8,9,10,11,12,13,14,15,16,17,18,19,20,21,22,23,24,25,26,27,28,29,30,31,32,33,34,35,36,37,38,39,40,41,42,43,44,45,46,47,48,49,50,51,52,53,54,55,56,57,58,59,60,61,62,63,64,65,66,67,68,69,70,71,72,73,74,75,76,77,78,79,80,81,82,83,84,85,86,87,88,89,90,91,92,93,94,95,96,97,98,99,100,101,102,103,104,105,106]
theorem q3c_r:isS (bO (polT 70 bsE 7 (rdN bsE) (q3c_1) (sQ q3c_t)) fun a=>bO (polT 70 bsE 7 (rdN bsE) (q3c_2) a.2) fun b=>some 0)=true:=by kernel_rfl
theorem q3c_no: ¬ Gx exF 7 q3c_1 q3c_2:=by
 unfold Gx PF N0;rw[Bw];intro hno;obtain⟨z,h⟩:=C6 q3c_r;obtain⟨⟨a,s1⟩,h1,h⟩:=A2 h;obtain⟨n1,f1,r1⟩:=By (most:=200000) qom qom _ _ _ (rsQ _) h1;obtain⟨⟨b,s2⟩,h2,h⟩:=A2 h;obtain⟨n2,f2,r2⟩:=By (most:=200000) qom qom _ _ _ r1 h2;exact hno _ _ f1 _ _ f2
abbrev q4_1:Po:= .uni (.fil .tru) (.set exK 1)
abbrev Ng:Po:= .set exK 1
def q4_t:List Nat:=[2,3,4,5,6,7,8,9,10,11,12,13,14,15,16,17,18,19,20,21,22,23,24,25,26,27,28,29,30,31,32,33,34,35,36,37,38,39,40,41,42,43,44,45,46,47,48,49,50,51,52,53,54,55,56,57,58,59,60,61,62,63,64,65,66,67,68,69,70,71,72,73,74,75,76,77,78,79,80,81,82,83,84,85,86,87,88,89,90,91,92,93,94,95,96,97,98,99,100,101,102,103,104,105,106,2,3,107,108,109,110,111,112,113,114,115,116,117,118,119,120,121,122,123,124,125,126,127,128,129,130,131,132,133,134,135,136,137,138,139,140,141,142,143,144,145,146,147,148,149,150,151,152,153,154,155,156,157,158,159,160,161,162,163,164,165,166,167,168,169,170,171,172,173,174,175,176,177,178,179,180,181,182,183,184,185,186,187,188,189,190,191,192,193,194,195,196,197,198,199,200,201,202,203,204,205,206,207,208,209,210,211,212,213,214,215,216,217,218,219,220,221,222,223,224,225,226,227,228,229,230,231,232,233,234,235,236,237,238,239,240,241,242,243,244,245,246,247,248,249,250,251,252,253,254,255,256,257,258,259,260,261,262,263,264,265,266,267,268,269,270,271,272,273,274,275,276,277,278,279,280,281,282,283,284,285,286,287,288,289,290,291,292,293,294,295,296,297,298,299,300,301,302,303,304,305,306,307,308,309,2,3,107,108,109,110,111,112,113,114,115,116,117,118,119,120,121,122,123,124,125,126,127,128,129,130,131,132,133,134,135,136,137,138,139,140,141,142,143,144,145,146,147,148,149,150,151,152,153,154,155,156,157,158,159,160,161,162,163,164,165,166,167,168,169,170,171,172,173,174,175,176,177,178,179,180,181,182,183,184,185,186,187,188,189,190,191,192,193,194,195,196,197,198,199,200,201,202,203,204,205,206,207,208,209,210,211,212,213,214,215,216,217,218,219,220,221,222,223,224,225,226,227,228,229,230,231,232,233,234,235,236,237,238,239,240,241,242,243,244,245,246,247,248,249,250,251,252,253,254,255,256,257,258,259,260,261,262,263,264,265,266,267,268,269,270,271,272,273,274,275,276,277,278,279,280,281,282,283,284,285,286,287,288,289,290,291,292,293,294,295,296,297,298,299,300,301,302,303,304,305,306,307,308,309]
theorem q4_r:isS (bO (polT 70 bsE 0 (rdN bsE) (q4_1) (sQ q4_t)) fun a=>bO (polT 70 bsE 0 (rdN bsE) (Ng) a.2) fun b=>bO (apCA eOrC 70 b.2 a.1 b.1) fun c=>some 0)=true:=by kernel_rfl
theorem q4_no: ¬ J7 exF 0 q4_1 Ng:=by
 unfold J7 PF N0;rw[Bw];intro hno;obtain⟨z,h⟩:=C6 q4_r;obtain⟨⟨a,s1⟩,h1,h⟩:=A2 h;obtain⟨n1,f1,r1⟩:=By (most:=200000) qom qom _ _ _ (rsQ _) h1;obtain⟨⟨b,s2⟩,h2,h⟩:=A2 h;obtain⟨n2,f2,r2⟩:=By (most:=200000) qom qom _ _ _ r1 h2;obtain⟨⟨c,s3⟩,h3,h⟩:=A2 h;obtain⟨n3,f3,r3⟩:=D1 (most:=200000) qom qom Jl r2 h3;exact hno _ _ f1 _ _ f2 _ _ f3
abbrev q5_1:Po:= .set exK 1
abbrev q5_2:Po:= .uni (.fil .tru) (.set exK 1)
def q5_t:List Nat:=[2,3,4,5,6,7,8,9,10,11,12,13,14,15,16,17,18,19,20,21,22,23,24,25,26,27,28,29,30,31,32,33,34,35,36,37,38,39,40,41,42,43,44,45,46,47,48,49,50,51,52,53,54,55,56,57,58,59,60,61,62,63,64,65,66,67,68,69,70,71,72,73,74,75,76,77,78,79,80,81,82,83,84,85,86,87,88,89,90,91,92,93,94,95,96,97,98,99,100,101,102,103,2,3,104,105,106,107,108,109,110,111,112,113,114,115,116,117,118,119,120,121,122,123,124,125,126,127,128,129,130,131,132,133,134,135,136,137,138,139,140,141,142,143,144,145,146,147,148,149,150,151,152,153,154,155,156,157,158,159,160,161,162,163,164,165,166,167,168,169,170,171,172,173,174,175,176,177,178,179,180,181,182,183,184,185,186,187,188,189,190,191,192,193,194,195,196,197,198,199,200,201,202,203,204,205,206,2,3,4,5,6,7,8,9,10,11,12,13,14,15,16,17,18,19,20,21,22,23,24,25,26,27,28,29,30,31,32,33,34,35,36,37,38,39,40,41,42,43,44,45,46,47,48,49,50,51,52,53,54,55,56,57,58,59,60,61,62,63,64,65,66,67,68,69,70,71,72,73,74,75,76,77,78,79,80,81,82,83,84,85,86,87,88,89,90,91,92,93,94,95,96,97,98,99,100,101,102,103,207,208,209,210,211,212,213,214,215,216,217,218,219,220,221,222,223,224,225,226,227,228,229,230,231,232,233,234,235,236,237,238,239,240,241,242,243,244,245,246,247,248,249,250,251,252,253,254,255,256,257,258,259,260,261,262,263,264,265,266,267,268,269,270,271,272,273,274,275,276,277,278,279,280,281,282,283,284,285,286,287,288,289,290,291,292,293,294,295,296,297,298,299,300,301,302,303,304,305,306,307,308,309,207,208,209,210,211,212,213,214,215,216,217,218,219,220,221,222,223,224,225,226,227,228,229,230,231,232,233,234,235,236,237,238,239,240,241,242,243,244,245,246,247,248,249,250,251,252,253,254,255,256,257,258,259,260,261,262,263,264,265,266,267,268,269,270,271,272,273,274,275,276,277,278,279,280,281,282,283,284,285,286,287,288,289,290,291,292,293,294,295,296,297,298,299,300,301,302,303,304,305,306,307,308,309]
theorem q5_r:isS (bO (polT 70 bsE 0 (rdN bsE) (q5_1) (sQ q5_t)) fun a=>bO (polT 70 bsE 0 (rdN bsE) (q5_2) a.2) fun b=>bO (apCA eOrC 70 b.2 a.1 b.1) fun c=>some 0)=true:=by kernel_rfl
theorem q5_no: ¬ J7 exF 0 q5_1 q5_2:=by
 unfold J7 PF N0;rw[Bw];intro hno;obtain⟨z,h⟩:=C6 q5_r;obtain⟨⟨a,s1⟩,h1,h⟩:=A2 h;obtain⟨n1,f1,r1⟩:=By (most:=200000) qom qom _ _ _ (rsQ _) h1;obtain⟨⟨b,s2⟩,h2,h⟩:=A2 h;obtain⟨n2,f2,r2⟩:=By (most:=200000) qom qom _ _ _ r1 h2;obtain⟨⟨c,s3⟩,h3,h⟩:=A2 h;obtain⟨n3,f3,r3⟩:=D1 (most:=200000) qom qom Jl r2 h3;exact hno _ _ f1 _ _ f2 _ _ f3
abbrev Nh:Po:= .seq (.fil (.eq exK 1)) (.fil (.eq exK 2))
def q6_t:List Nat:=[2,3,4,5,6,7,8,9,10,11,12,13,14,15,16,17,18,19,20,21,22,23,24,25,26,27,28,29,30,31,32,33,34,35,36,37,38,39,40,41,42,43,44,45,46,47,48,49,50,51,52,53,54,55,56,57,58,59,60,61,62,63,64,65,66,67,68,69,70,71,72,73,74,75,76,77,78,79,80,81,82,83,84,85,86,87,88,89,90,91,92,93,94,95,96,97,98,99,100,101,102,103,104,105,106,107,108,109,110,111,112,113,114,115,116,117,118,119,120,121,122,123,124,125,126,127,128,129,130,131,132,133,134,135,136,137,138,139,140,141,142,143,144,145,146,147,148,149,150,151,152,153,154,155,156,157,158,159,160,161,162,163,164,165,166,167,168,169,170,171,172,173,174,175,176,177,178,179,180,181,182,183,184,185,186,187,188,189,190,191,192,193,194,195,196,197,198,199,200,201,202,203,204,205,206,207,208,209,210,211,212,213,5,6,7,8,9,10,11,12,13,14,15,16,17,18,19,20,21,22,23,24,25,26,27,28,29,30,31,32,33,34,35,36,37,38,39,40,41,42,43,44,45,46,47,48,49,50,51,52,53,54,55,56,57,58,59,60,61,62,63,64,65,66,67,68,69,70,71,72,73,74,75,76,77,78,79,80,81,82,83,84,85,86,87,88,89,90,91,92,93,94,95,96,97,98,99,100,101,102,103,104,105,106,107,108,109,214,215,216,217,218,219,220,221,222,223,224,225,226,227,228,229,230,231,232,233,234,235,236,237,238,239,240,241,242,243,244,245,246,247,248,249,250,251,252,253,254,255,256,257,258,259,260,261,262,263,264,265,266,267,268,269,270,271,272,273,274,275,276,277,278,279,280,281,282,283,284,285,286,287,288,289,290,291,292,293,294,295,296,297,298,299,300,301,302,303,304,305,306,307,308,309,310,311,312,313,314,5,6,7,8,9,10,11,12,13,14,15,16,17,18,19,20,21,22,23,24,25,26,27,28,29,30,31,32,33,34,35,36,37,38,39,40,41,42,43,44,45,46,47,48,49,50,51,52,53,54,55,56,57,58,59,60,61,62,63,64,65,66,67,68,69,70,71,72,73,74,75,76,77,78,79,80,81,82,83,84,85,86,87,88,89,90,91,92,93,94,95,96,97,98,99,100,101,102,103,104,105,106,107,108,109]
theorem q6_r:isS (bO (polT 70 bsE 0 (rdN bsE) (Nh) (sQ q6_t)) fun a=>bO (polT 70 bsE 0 (rdN bsE) (.fil .fls) a.2) fun b=>some 0)=true:=by kernel_rfl
theorem q6_no: ¬ Jv exF 0 Nh:=by
 unfold Jv PF N0;rw[Bw];intro hno;obtain⟨z,h⟩:=C6 q6_r;obtain⟨⟨a,s1⟩,h1,h⟩:=A2 h;obtain⟨n1,f1,r1⟩:=By (most:=200000) qom qom _ _ _ (rsQ _) h1;obtain⟨⟨b,s2⟩,h2,h⟩:=A2 h;obtain⟨n2,f2,r2⟩:=By (most:=200000) qom qom _ _ _ r1 h2;exact hno _ _ f1 _ _ f2
abbrev Ni:Po:= .fil (.rng exK 0 6)
def q7_t:List Nat:=[2,3,4,5,6,7,8,9,10,11,12,13,14,15,16,17,18,19,20,21,22,23,24,25,26,27,28,29,30,31,32,33,34,35,36,37,38,39,40,41,42,43,44,45,46,47,48,49,50,51,52,53,54,55,56,57,58,59,60,61,62,63,64,65,66,67,68,69,70,71,72,73,74,75,76,77,78,79,80,81,82,83,84,85,86,87,88,89,90,91,92,93,94,95,96,97,98,99,100,101,102,103,104,105,106,107,108,109,110,111,112,113,114,115,116,117,118,119,120,121,122,123,124,125,126,127,128,129,130,131,132,133,134,135,136,137,138,139,140,141,142,143,144,145,146,147,148,149,150,151,152,153,154,155,156,157,158,159,160,161,162,163,164,165,166,167,168,169,170,171,172,173,174,175,176,177,178,179,180,181,182,183,184,185,186,187,188,189,190,191,192,193,194,195,196,197,198,199,200,201,202,203,204,205,206,207,208,209,210,211,212,213,214,215,216,6,9,10,11,12,13,14,15,16,17,18,19,20,21,22,23,24,25,26,27,28,29,30,31,32,33,34,35,36,37,38,39,40,41,42,43,44,45,46,47,48,49,50,51,52,53,54,55,56,57,58,59,60,61,62,63,64,65,66,67,68,69,70,71,72,73,74,75,76,77,78,79,80,81,82,83,84,85,86,87,88,89,90,91,92,93,94,95,96,97,98,99,100,101,102,103,104,105,106,107,108,109,110,111,112,113,114,115,116,117,118,119,120,121,122,123,124,125,126,127,128,129,130,131,132,133,134,135,136,137,138,139,140,141,142,143,144,145,146,147,148,149,150,151,152,153,154,155,156,157,158,159,160,161,162,163,164,165,166,167,168,169,170,171,172,173,174,175,176,177,178,179,180,181,182,183,184,185,186,187,188,189,190,191,192,193,194,195,196,197,198,199,200,201,202,203,204,205,206,207,208,209,210,211,212,213,214,215,216,11,12,13,14,15,16,17,18,19,20,21,22,23,24,25,26,27,28,29,30,31,32,33,34,35,36,37,38,39,40,41,42,43,44,45,46,47,48,49,50,51,52,53,54,55,56,57,58,59,60,61,62,63,64,65,66,67,68,69,70,71,72,73,74,75,76,77,78,79,80,81,82,83,84,85,86,87,88,89,90,91,92,93,94,95,96,97,98,99,100,101,102,103,104,105,106,107,108,109,110,111,112,113,114,115]
theorem q7_r:isS (bO (polT 70 bsE 0 (rdN bsE) (Ni) (sQ q7_t)) fun a=>bO (domC 70 bsE a.2 a.1) fun b=>bO (polT 70 bsE 0 (rdN bsE) (.fil .tru) b.2) fun c=>some 0)=true:=by kernel_rfl
theorem q7_no: ¬ Jw exF 0 Ni:=by
 unfold Jw PF N0;rw[Bw];intro hno;obtain⟨z,h⟩:=C6 q7_r;obtain⟨⟨a,s1⟩,h1,h⟩:=A2 h;obtain⟨n1,f1,r1⟩:=By (most:=200000) qom qom _ _ _ (rsQ _) h1;obtain⟨⟨b,s2⟩,h2,h⟩:=A2 h;obtain⟨n2,f2,r2⟩:=dom_sim (most:=200000) qom qom r1 h2;obtain⟨⟨c,s3⟩,h3,h⟩:=A2 h;obtain⟨n3,f3,r3⟩:=By (most:=200000) qom qom _ _ _ r2 h3;exact hno _ _ f1 _ _ f2 _ _ f3
abbrev Nb:Po:= .uni (.fil .tru) (.set exK 3)
def q8_t:List Nat:=[2,3,4,5,6,7,8,9,10,11,12,13,14,15,16,17,18,19,20,21,22,23,24,25,26,27,28,29,30,31,32,33,34,35,36,37,38,39,40,41,42,43,44,45,46,47,48,49,50,51,52,53,54,55,56,57,58,59,60,61,62,63,64,65,66,67,68,69,70,71,72,73,74,75,76,77,78,79,80,81,82,83,84,85,86,87,88,89,90,91,92,93,94,95,96,97,98,99,100,101,102,103,104,105,106,2,3,107,108,109,110,111,112,113,114,115,116,117,118,119,120,121,122,123,124,125,126,127,128,129,130,131,132,133,134,135,136,137,138,139,140,141,142,143,144,145,146,147,148,149,150,151,152,153,154,155,156,157,158,159,160,161,162,163,164,165,166,167,168,169,170,171,172,173,174,175,176,177,178,179,180,181,182,183,184,185,186,187,188,189,190,191,192,193,194,195,196,197,198,199,200,201,202,203,204,205,206,207,208,209,210,211,212,213,214,215,216,217,218,219,220,221,222,223,224,225,226,227,228,229,230,231,232,233,234,235,236,237,238,239,240,241,242,243,244,245,246,247,248,249,250,251,252,253,254,255,256,257,258,259,260,261,262,263,264,265,266,267,268,269,270,271,272,273,274,275,276,277,278,279,280,281,282,283,284,285,286,287,288,289,290,291,292,293,294,295,296,297,298,299,300,301,302,303,304,305,306,307,308,309]
theorem q8_r:isS (bO (polT 70 bsE 0 (rdN bsE) (Nb) (sQ q8_t)) fun a=>bO (rdC a.2 35 0 [a.1]) fun R1=>iB (Nat.ble (lenC R1) 4000) (some 0) none)=true:=by kernel_rfl
theorem q8_no: ¬ L8 exF 0 Nb:=by
 unfold L8 PF N0;rw[Bw];intro hno;obtain⟨z,h⟩:=C6 q8_r;obtain⟨⟨a,s1⟩,h1,h⟩:=A2 h;obtain⟨n1,f1,r1⟩:=By (most:=200000) qom qom _ _ _ (rsQ _) h1;obtain⟨R1,g1,h⟩:=A2 h;rw[C7] at h;have l1:lenC R1≤4000:=by
  by_cases c:Nat.ble (lenC R1) 4000=true
  ·exact Nat.le_of_ble_eq_true c
  ·rw[if_neg c] at h;cases h
 rw[if_pos (Nat.ble_eq_true_of_le l1)] at h;rw[Jp] at l1;exact hno _ _ f1 (rules_few r1 g1 l1)
abbrev q9_1:Po:= .fil (.eq exD 1)
abbrev q9_2:Po:= .fil (.eq exD 2)
def q9_t:List Nat:=[2,3,4,5,6,7,8,9,10,11,12,13,14,15,16,17,18,19,20,21,22,23,24,25,26,27,28,29,30,31,32,33,34,35,36,37,38,39,40,41,42,43,44,45,46,47,48,49,50,51,52,53,54,55,56,57,58,59,60,61,62,63,64,65,66,67,68,69,70,71,72,73,74,75,76,77,78,79,80,81,82,83,84,85,86,87,88,89,90,91,92,93,94,95,96,97,98,99,100,101,102,103,104,105,106,107,108,109,110,111,112,113,114,115,116,117,118,119,120,121,122,123,124,125,126,127,128,129,130,131,132,133,134,135,136,137,138,139,140,141,142,143,144,145,146,147,148,149,150,151,152,153,154,155,156,157,158,159,160,161,162,163,164,165,166,167,168,169,170,171,172,173,174,175,176,177,2,3,4,5,6,7,8,9,10,11,12,13,14,15,16,17,18,19,20,21,22,23,24,25,26,27,28,29,30,31,32,33,34,35,36,37,38,39,40,41,42,43,44,45,46,47,48,49,50,51,52,53,54,55,56,57,58,59,60,61,62,63,64,65,66,67,68,69,70,71,72,73,74,75,76,77,78,79,80,81,82,83,84,85,86,87,88,89,90,91,92,93,94,95,96,97,98,99,100,101,102,103,104,105,106,107,108,109,110,111,112,113,114,115,116,117,118,119,120,121,122,123,124,125,126,127,128,129,130,131,132,133,134,135,136,137,138,139,140,141,142,143,144,145,146,147,148,149,150,151,152,153,154,155,156,157,158,159,160,161,162,163,164,165,166,167,168,169,170,171,172,173,174,175,176,177,178,179,180,181,182,183,184,185,10,11,12,13,14,15,16,17,18,19,20,21,22,23,24,25,26,27,28,29,30,31,32,33,34,35,36,37,38,39,40,41,42,43,44,45,46,47,48,49,50,51,52,53,54,55,56,57,58,59,60,61,62,63,64,65,66,67,68,69,70,71,72,73,74,75,76,77,78,79,80,81,82,83,84,85,86,87,88,89,90,91,92,93,94,95,96,97,98,99,100,101,102,103,104,105,106,107,108,109,110,111,112,113,114,186,187,188,189,190,191,192,193,194,195,196,197,198,199,200,201,202,203,204,205,206,207,208,209,210,211,212,213,214,215,216,217,218,219,220,221,222,223,224,225,226,227,228,229,230,231,232,233,234,235,236,237,238,239,240,241,242,243,244,245,246,247,248,178,179,180,181,182,183,184,185,10,11,12,13,14,15,16,17,18,19,20,21,22,23,24,25,26,27,28,29,30,31,32,33,34,35,36,37,38,39,40,41,42,43,44,45,46,47,48,49,50,51,52,53,54,55,56,57,58,59,60,61,62,63,64,65,66,67,68,69,70,71,72,73,74,75,76,77,78,79,80,81,82,83,84,85,86,87,88,89,90,91,92,93,94,95,96,97,98,99,100,101,102,103,104,105,106,107,108,109,110,111,112,113,114,186,187,188,189,190,191,192,193,194,195,196,197,198,199,200,201,202,203,204,205,206,207,208,209,210,211,212,213,214,215,216,217,218,219,220,221,222,223,224,225,226,227,228,229,230,231,232,233,234,235,236,237,238,239,240,241,242,243,244,245,246,247,248,10,11,12,13,14,15,16,17,18,19,20,21,22,23,24,25,26,27,28,29,30,31,32,33,34,35,36,37,38,39,40,41,42,43,44,45,46,47,48,49,50,51,52,53,54,55,56,57,58,59,60,61,62,63,64,65,66,67,68,69,70,71,72,73,74,75,76,77,78,79,80,81,82,83,84,85,86,87,88,89,90,91,92,93,94,95,96,97,98,99,100,101,102,103,104,105,106,107,108,109,110,111,112,113,114]
theorem q9_r:isS (bO (polT 70 bsE 0 (rdN bsE) (q9_1) (sQ q9_t)) fun a=>bO (domC 70 bsE a.2 a.1) fun b=>bO (polT 70 bsE 0 (rdN bsE) (q9_2) b.2) fun c=>bO (domC 70 bsE c.2 c.1) fun d=>bO (seCA 70 d.2 b.1 d.1) fun e=>bO (polT 70 bsE 0 (rdN bsE) (.fil .fls) e.2) fun f=>some 0)=true:=by kernel_rfl
theorem q9_no: ¬ Jx exF 0 q9_1 q9_2:=by
 unfold Jx PF N0;rw[Bw];intro hno;obtain⟨z,h⟩:=C6 q9_r;obtain⟨⟨a,s1⟩,h1,h⟩:=A2 h;obtain⟨n1,f1,r1⟩:=By (most:=200000) qom qom _ _ _ (rsQ _) h1;obtain⟨⟨b,s2⟩,h2,h⟩:=A2 h;obtain⟨n2,f2,r2⟩:=dom_sim (most:=200000) qom qom r1 h2;obtain⟨⟨c,s3⟩,h3,h⟩:=A2 h;obtain⟨n3,f3,r3⟩:=By (most:=200000) qom qom _ _ _ r2 h3;obtain⟨⟨d,s4⟩,h4,h⟩:=A2 h;obtain⟨n4,f4,r4⟩:=dom_sim (most:=200000) qom qom r3 h4;obtain⟨⟨e,s5⟩,h5,h⟩:=A2 h;obtain⟨n5,f5,r5⟩:=G4 (most:=200000) qom qom r4 h5;obtain⟨⟨f,s6⟩,h6,h⟩:=A2 h;obtain⟨n6,f6,r6⟩:=By (most:=200000) qom qom _ _ _ r5 h6;exact hno _ _ f1 _ _ f2 _ _ f3 _ _ f4 _ _ f5 _ _ f6
abbrev Mt:Po:= .set exD 3
abbrev Mu:Po:= .set exS 4
def q10_t:List Nat:=[2,3,4,5,6,7,8,9,10,11,12,13,14,15,16,17,18,19,20,21,22,23,24,25,26,27,28,29,30,31,32,33,34,35,36,37,38,39,40,41,42,43,44,45,46,47,48,49,50,51,52,53,54,55,56,57,58,59,60,61,62,63,64,65,66,67,68,69,70,71,72,73,74,75,76,77,78,79,80,81,82,83,84,85,86,87,88,89,90,91,92,93,94,95,96,97,98,2,3,4,5,6,7,8,9,10,11,12,99,100,101,102,103,104,105,106,107,108,109,110,111,112,113,114,115,116,117,118,119,120,121,122,123,124,125,126,127,128,129,130,131,132,133,134,135,136,137,138,139,140,141,142,143,144,145,146,147,148,149,150,151,152,153,154,155,156,157,158,159,160,161,162,163,164,165,166,167,168,169,170,171,172,173,174,175,176,177,178,179,180,181,182,183,184]
theorem q10_r:isS (bO (polT 70 bsE 0 (rdN bsE) (Mu) (sQ q10_t)) fun a=>bO (rdC a.2 35 0 [a.1]) fun R1=>iB (Nat.ble (lenC R1) 4000) (bO (polT 70 bsE 0 (rdN bsE) (Mt) a.2) fun b=>bO (rdC b.2 35 0 [b.1]) fun R2=>iB (Nat.ble (lenC R2) 4000) (some 0) none) none)=true:=by kernel_rfl
theorem q10_no: ¬ L9 exF 0 Mt Mu:=by
 unfold L9 PF N0;rw[Bw];intro hno;obtain⟨z,h⟩:=C6 q10_r;obtain⟨⟨a,s1⟩,h1,h⟩:=A2 h;obtain⟨n1,f1,r1⟩:=By (most:=200000) qom qom _ _ _ (rsQ _) h1;obtain⟨R1,g1,h⟩:=A2 h;rw[C7] at h;have l1:lenC R1≤4000:=by
  by_cases c:Nat.ble (lenC R1) 4000=true
  ·exact Nat.le_of_ble_eq_true c
  ·rw[if_neg c] at h;cases h
 rw[if_pos (Nat.ble_eq_true_of_le l1)] at h;rw[Jp] at l1;obtain⟨⟨b,s2⟩,h2,h⟩:=A2 h;obtain⟨n2,f2,r2⟩:=By (most:=200000) qom qom _ _ _ r1 h2;obtain⟨R2,g2,h⟩:=A2 h;rw[C7] at h;have l2:lenC R2≤4000:=by
  by_cases c:Nat.ble (lenC R2) 4000=true
  ·exact Nat.le_of_ble_eq_true c
  ·rw[if_neg c] at h;cases h
 rw[if_pos (Nat.ble_eq_true_of_le l2)] at h;rw[Jp] at l2;exact hno _ _ f1 (rules_few r1 g1 l1) _ _ f2 (rules_few r2 g2 l2)
abbrev q11_1:Po:= .seq (.fil (.eq exD 1)) (.set exD 2)
abbrev q11_2:Po:= .seq (.fil (.eq exD 2)) (.set exD 3)
def q11_t:List Nat:=[2,3,4,5,6,7,8,9,10,11,12,13,14,15,16,17,18,19,20,21,22,23,24,25,26,27,28,29,30,31,32,33,34,35,36,37,38,39,40,41,42,43,44,45,46,47,48,49,50,51,52,53,54,55,56,57,58,59,60,61,62,63,64,65,66,67,68,69,70,71,72,73,74,75,76,77,78,79,80,81,82,83,84,85,86,87,88,89,90,91,92,93,94,95,96,97,98,99,100,101,102,103,104,105,106,107,108,109,110,111,112,113,114,115,116,117,118,119,120,121,122,123,124,125,126,127,128,129,130,131,132,133,134,135,136,137,138,139,140,141,142,143,144,145,146,147,148,149,150,151,152,153,154,155,156,157,158,159,160,161,162,163,164,165,166,167,168,169,170,171,172,173,174,175,176,177,10,11,12,13,14,15,16,17,18,19,20,21,22,23,24,25,26,27,28,29,30,31,32,33,34,35,36,37,38,39,40,41,42,43,44,178,179,180,181,182,183,184,185,186,187,188,189,190,191,192,193,194,195,196,197,198,199,200,201,202,203,204,205,206,207,208,209,210,211,212,213,214,215,216,217,218,219,220,221,222,223,224,225,226,227,228,229,230,231,232,233,234,235,236,237,238,239,10,11,12,13,14,15,16,17,18,19,20,21,22,23,24,25,26,27,28,29,30,31,32,33,34,35,36,37,38,39,40,41,42,43,240,241,242,243,244,245,246,247,248,249,250,251,252,253,254,255,256,257,258,259,260,261,262,263,264,265,266,267,268,269,270,271,272,273,274,275,276,277,278,279,280,281,282,283,284,285,286,287,288,289,290,291,292,293,294,295,296,297,298,299,300,301,302,303,304,305,306,307,308,309,310,10,11,12,13,14,15,16,17,18,19,20,21,22,23,24,25,26,27,28,29,30,31,32,33,34,35,36,37,38,39,40,41,42,43,44,45,46,47,48,49,50,51,52,53,54,55,56,57,58,59,60,61,62,63,64,65,66,67,68,69,70,71,72,73,74,75,76,77,78,79,80,81,82,83,84,85,86,87,88,89,90,91,92,93,94,95,96,97,98,99,100,101,102,103,104,105,106,107,108,109,110,111,112,113,114,311,312,313,314,315,316,317,318,319,320,321,322,323,324,325,326,327,328,329,330,331,332,333,334,335,336,337,338,339,340,341,342,343,344,345,346,347,348,349,350,351,352,353,354,355,356,357,358,359,360,361,362,363,364,365,366,367,368,369,370,371,372,373,10,11,12,13,14,15,16,17,18,19,20,21,22,23,24,25,26,27,28,29,30,31,32,33,34,35,36,37,38,39,40,41,42,43,44,374,375,376,377,378,379,380,381,382,383,384,385,386,387,388,389,390,391,392,393,394,395,396,397,398,399,400,401,402,403,404,405,406,407,408,409,410,411,412,413,414,415,416,417,418,419,420,421,422,423,424,425,426,427,428,429,430,431,432,433,434,435,10,11,12,13,14,15,16,17,18,19,20,21,22,23,24,25,26,27,28,29,30,31,32,33,34,35,36,37,38,39,40,41,42,44,436,437,438,439,440,441,442,443,444,445,446,447,448,449,450,451,452,453,454,455,456,457,458,459,460,461,462,463,464,465,466,467,468,469,470,471,472,473,474,475,476,477,478,479,480,481,482,483,484,485,486,487,488,489,490,491,492,493,494,495,496,497,498,10,11,12,13,14,15,16,17,18,19,20,21,22,23,24,25,26,27,28,29,30,31,32,33,34,35,36,37,38,39,40,41,42,44,115,499,500,501,502,503,504,505,506,507,508,509,510,511,512,513,514,515,516,517,518,519,520,521,522,523,524,525,526,527,528,529,530,531,532,533,534,535,536,537,538,539,540,541,542,543,544,545,546,547,548,549,550,551,552,553,554,555,556,557,558,559,560,10,11,12,13,14,15,16,17,18,19,20,21,22,23,24,25,26,27,28,29,30,31,32,33,34,35,36,37,38,39,40,41,42,43,44,45,46,47,48,49,50,51,52,53,54,55,56,57,58,59,60,61,62,63,64,65,66,67,68,69,70,71,72,73,74,75,76,77,78,79,80,81,82,83,84,85,86,87,88,89,90,91,92,93,94,95,96,97,98,99,100,101,102,103,104,105,106,107,108,109,110,111,112,113,114]
theorem q11_r:isS (bO (polT 70 bsE 0 (rdN bsE) (q11_1) (sQ q11_t)) fun a=>bO (polT 70 bsE 0 (rdN bsE) (q11_2) a.2) fun b=>bO (seCA 70 b.2 a.1 b.1) fun c=>bO (seCA 70 c.2 b.1 a.1) fun d=>bO (apCA eOrC 70 d.2 c.1 d.1) fun e=>bO (polT 70 bsE 0 (rdN bsE) (.fil .fls) e.2) fun f=>some 0)=true:=by kernel_rfl
theorem q11_no: ¬ J8 exF 0 q11_1 q11_2:=by
 unfold J8 PF N0;rw[Bw];intro hno;obtain⟨z,h⟩:=C6 q11_r;obtain⟨⟨a,s1⟩,h1,h⟩:=A2 h;obtain⟨n1,f1,r1⟩:=By (most:=200000) qom qom _ _ _ (rsQ _) h1;obtain⟨⟨b,s2⟩,h2,h⟩:=A2 h;obtain⟨n2,f2,r2⟩:=By (most:=200000) qom qom _ _ _ r1 h2;obtain⟨⟨c,s3⟩,h3,h⟩:=A2 h;obtain⟨n3,f3,r3⟩:=G4 (most:=200000) qom qom r2 h3;obtain⟨⟨d,s4⟩,h4,h⟩:=A2 h;obtain⟨n4,f4,r4⟩:=G4 (most:=200000) qom qom r3 h4;obtain⟨⟨e,s5⟩,h5,h⟩:=A2 h;obtain⟨n5,f5,r5⟩:=D1 (most:=200000) qom qom Jl r4 h5;obtain⟨⟨f,s6⟩,h6,h⟩:=A2 h;obtain⟨n6,f6,r6⟩:=By (most:=200000) qom qom _ _ _ r5 h6;exact hno _ _ f1 _ _ f2 _ _ f3 _ _ f4 _ _ f5 _ _ f6
abbrev q12_1:Po:= .fil (.eq exD 1)
abbrev q12_2:Po:= .fil (.eq exD 2)
def q12_t:List Nat:=[2,3,4,5,6,7,8,9,10,11,12,13,14,15,16,17,18,19,20,21,22,23,24,25,26,27,28,29,30,31,32,33,34,35,36,37,38,39,40,41,42,43,44,45,46,47,48,49,50,51,52,53,54,55,56,57,58,59,60,61,62,63,64,65,66,67,68,69,70,71,72,73,74,75,76,77,78,79,80,81,82,83,84,85,86,87,88,89,90,91,92,93,94,95,96,97,98,99,100,101,102,103,104,105,106,107,108,109,110,111,112,113,114,115,116,117,118,119,120,121,122,123,124,125,126,127,128,129,130,131,132,133,134,135,136,137,138,139,140,141,142,143,144,145,146,147,148,149,150,151,152,153,154,155,156,157,158,159,160,161,162,163,164,165,166,167,168,169,170,171,172,173,174,175,176,177,178,179,180,181,182,183,184,185,10,11,12,13,14,15,16,17,18,19,20,21,22,23,24,25,26,27,28,29,30,31,32,33,34,35,36,37,38,39,40,41,42,43,44,45,46,47,48,49,50,51,52,53,54,55,56,57,58,59,60,61,62,63,64,65,66,67,68,69,70,71,72,73,74,75,76,77,78,79,80,81,82,83,84,85,86,87,88,89,90,91,92,93,94,95,96,97,98,99,100,101,102,103,104,105,106,107,108,109,110,111,112,113,114,186,187,188,189,190,191,192,193,194,195,196,197,198,199,200,201,202,203,204,205,206,207,208,209,210,211,212,213,214,215,216,217,218,219,220,221,222,223,224,225,226,227,228,229,230,231,232,233,234,235,236,237,238,239,240,241,242,243,244,245,246,247,248,10,11,12,13,14,15,16,17,18,19,20,21,22,23,24,25,26,27,28,29,30,31,32,33,34,35,36,37,38,39,40,41,42,43,44,45,46,47,48,49,50,51,52,53,54,55,56,57,58,59,60,61,62,63,64,65,66,67,68,69,70,71,72,73,74,75,76,77,78,79,80,81,82,83,84,85,86,87,88,89,90,91,92,93,94,95,96,97,98,99,100,101,102,103,104,105,106,107,108,109,110,111,112,113,114]
theorem q12_r:isS (bO (polT 70 bsE 0 (rdN bsE) (q12_1) (sQ q12_t)) fun a=>bO (polT 70 bsE 0 (rdN bsE) (q12_2) a.2) fun b=>bO (seCA 70 b.2 a.1 b.1) fun c=>bO (seCA 70 c.2 b.1 a.1) fun d=>bO (apCA eOrC 70 d.2 c.1 d.1) fun e=>bO (polT 70 bsE 0 (rdN bsE) (.fil .fls) e.2) fun f=>some 0)=true:=by kernel_rfl
theorem q12_no: ¬ J8 exF 0 q12_1 q12_2:=by
 unfold J8 PF N0;rw[Bw];intro hno;obtain⟨z,h⟩:=C6 q12_r;obtain⟨⟨a,s1⟩,h1,h⟩:=A2 h;obtain⟨n1,f1,r1⟩:=By (most:=200000) qom qom _ _ _ (rsQ _) h1;obtain⟨⟨b,s2⟩,h2,h⟩:=A2 h;obtain⟨n2,f2,r2⟩:=By (most:=200000) qom qom _ _ _ r1 h2;obtain⟨⟨c,s3⟩,h3,h⟩:=A2 h;obtain⟨n3,f3,r3⟩:=G4 (most:=200000) qom qom r2 h3;obtain⟨⟨d,s4⟩,h4,h⟩:=A2 h;obtain⟨n4,f4,r4⟩:=G4 (most:=200000) qom qom r3 h4;obtain⟨⟨e,s5⟩,h5,h⟩:=A2 h;obtain⟨n5,f5,r5⟩:=D1 (most:=200000) qom qom Jl r4 h5;obtain⟨⟨f,s6⟩,h6,h⟩:=A2 h;obtain⟨n6,f6,r6⟩:=By (most:=200000) qom qom _ _ _ r5 h6;exact hno _ _ f1 _ _ f2 _ _ f3 _ _ f4 _ _ f5 _ _ f6
theorem prtP_at {m:Pdm}{xs:List Pdm}{k:Nat}(h:∀ i,i<(prtP m).length→xs[k+i]? =(prtP m)[i]?){i:Nat}(hi:i<m.subs.length):∀ j,j<(prtP (gd m.subs i)).length→xs[k+1+(prtPL (m.subs.take i)).length+j]? =(prtP (gd m.subs i))[j]? :=fun j hj=>by
 have e:prtP m=[m]++prtPL (m.subs.take i)++(prtP (gd m.subs i)++prtPL (m.subs.drop (i+1))):=by
  rw[Er]
  conv=>lhs;rw[← List.take_append_drop (i+1) m.subs,prtPL_app,prtPL_take hi]
  simp
 have h1:=h (1+(prtPL (m.subs.take i)).length+j) (by rw[e];simp only[List.length_append,List.length_singleton];omega);rw[show k+1+(prtPL (m.subs.take i)).length+j=k+(1+(prtPL (m.subs.take i)).length+j) by omega,h1,e,List.getElem?_append_right (by simp only[List.length_append,List.length_singleton];omega),List.getElem?_append_left (by simp only[List.length_append,List.length_singleton];omega)]
 congr 1
 simp only[List.length_append,List.length_singleton];omega
theorem prtO_at {m:Pom}{xs:List Pom}{k:Nat}(h:∀ i,i<(prtO m).length→xs[k+i]? =(prtO m)[i]?){i:Nat}(hi:i<m.subs.length):∀ j,j<(prtO (gd m.subs i)).length→xs[k+1+(prtOL (m.subs.take i)).length+j]? =(prtO (gd m.subs i))[j]? :=fun j hj=>by
 have e:prtO m=[m]++prtOL (m.subs.take i)++(prtO (gd m.subs i)++prtOL (m.subs.drop (i+1))):=by
  rw[Eh]
  conv=>lhs;rw[← List.take_append_drop (i+1) m.subs,prtOL_app,prtOL_take hi]
  simp
 have h1:=h (1+(prtOL (m.subs.take i)).length+j) (by rw[e];simp only[List.length_append,List.length_singleton];omega);rw[show k+1+(prtOL (m.subs.take i)).length+j=k+(1+(prtOL (m.subs.take i)).length+j) by omega,h1,e,List.getElem?_append_right (by simp only[List.length_append,List.length_singleton];omega),List.getElem?_append_left (by simp only[List.length_append,List.length_singleton];omega)]
 congr 1
 simp only[List.length_append,List.length_singleton];omega
def tstS (w0:World) (l:Nat) (S:Nat→List (Nat × Obj)→Prop) (Sx:List (Nat × Obj)→Prop) (Hc:List (Nat × Obj)) (xs:List Pdm) (N:Nat):Prop:=∀ {m:Pdm} {k b2 b3:Nat} {X H:List (Nat × Obj)},m.sz≤N→PdM w0 Hc m→(∀ i,i<(prtP m).length→xs[k+i]? =(prtP m)[i]?)→Fnd X b2 (Cl [.func (.yield l) #[] #[]] 207)→Fnd X b3 (Cl [.func (.func 190) #[] #[.pointer (some ⟨b2,0,none⟩), .pointer (some ⟨b3,0,none⟩)]] 207)→S k H→
 FSpec Tryz.prog w0 190 #[.agg (encPd m).toArray, .pointer (some ⟨b2,0,none⟩), .pointer (some ⟨b3,0,none⟩)] (X++H) (fun v H'=>∃ H1,H'=X++H1∧((v= .bool true∧S (k+(prtP m).length) H1)∨(v= .bool false∧Sx H1)))
def tstY (w0:World) (l:Nat) (S:Nat→List (Nat × Obj)→Prop) (Sx:List (Nat × Obj)→Prop) (xs:List Pdm):Prop:=∀ k x H X,xs[k]? =some x→S k H→YSpec Tryz.prog w0 l [.agg (encPd x).toArray] (X++H) fun v H'=>∃ H1,H'=X++H1∧((v= .bool true∧S (k+1) H1)∨(v= .bool false∧Sx H1))
theorem tst_step {w0:World}{l:Nat}{S:Nat→List (Nat × Obj)→Prop}{Sx:List (Nat × Obj)→Prop}{Hc:List (Nat × Obj)}{xs:List Pdm}(hS:∀ k H,S k H→Hc.Sublist H)(hY:tstY w0 l S Sx xs){N:Nat}(hN:N≤1000000000)(ih:tstS w0 l S Sx Hc xs N):tstS w0 l S Sx Hc xs (N+1):=by
 intro m k b2 b3 X H hm hM hxs f2 f3 hSk;have hsz:=Hl m;have hln:=Jq m.subs;have hx0:xs[k]? =some m:=by have:=hxs 0 (by rw[Er];simp);rw[Er] at this;exact this
 refine Au Tryz.func190 U ntmps190 U (rD tb 2 U (e_ (Nr U cs_) ?_ U));rintro _ _ ⟨n3,rfl,rfl⟩;refine rO tb 6 U ?_;refine y_ (Nl U isAgg207 (by first|exact c_o|exact Af (Fnd.mono f2 (by repeat (first|exact List.sublist_append_left _ _|refine List.Sublist.cons _ ?_))) 0 _ U)) ?_ U;refine y_ (Nn U isAgg25 sizeOf25 U (by first|exact As)) ?_ U;refine e_ (H7 (T U) (.cons (T U) .nil) (hY k m H ((n3,Cl (encPd m) 25)::X) hx0 hSk)) ?_ U;rintro _ _ ⟨H1,rfl,⟨rfl,hS1⟩|⟨rfl,hS1⟩⟩<;>rw[List.cons_append]
 ·refine y_ (B1 (T U)) (rO tb 2 U ?_) U
  first|refine Co (Aa U) ?_|refine Co (Ag (Aa U) (vbool (decide_eq_false c10))) ?_
  refine rC tb 6 U (y_ (Nl U isAgg23 (by first|exact c_o)) ?_ U);refine rO tb 5 U ?_;refine Bj (X:=Nat × List (Nat × Obj)) (V:=fun ⟨i,Hi⟩=>[(14, .int .i64 (i:Nat))]) (C:=[(2,_),(12,_),(13,_)]) (G:=fun ⟨i,Hi⟩=>(n3,Cl (encPd m) 25)::(X++Hi)) (φ:=fun ⟨i,Hi⟩=>i≤m.subs.length∧S (k+1+(prtPL (m.subs.take i)).length) Hi) (μ:=fun ⟨i,Hi⟩=>m.subs.length - i) (x0:=(0,H1)) ?_ ⟨Aa rfl,Aa rfl,Aa rfl,trivial⟩ ⟨atd,trivial⟩ (List.Sublist.refl _) ?_
  ·exact⟨Nat.zero_le _,hS1⟩
  rintro⟨i,Hi⟩ ⟨hi,hSi⟩;refine rD tb 6 U ?_
  first|refine Ae (Aa U) (fun c15=> ?_) (fun c15=> ?_)|refine Ah (Aa U) (fun c15=> ?_) (fun c15=> ?_)
  ·have hi2:i<m.subs.length:=by have h9:((i:Nat):Int)<(m.subs.length:Nat):=c15;omega
   have hai:=Ey (Ba hi2);refine rC tb 6 U (y_ (Np U U runUnderlying23 sizeOf25 (by have h9:((i:Nat):Int)<(m.subs.length:Nat):=c15;omega) (by first|exact rfl|exact hM.arr.b (i:=i) hi2)) ?_ U);refine y_ (Nn U isAgg25 sizeOf25 U (by first|exact(hM.arr.mono (List.Sublist.trans (hS _ _ hSi) (by repeat (first|exact List.sublist_append_right _ _|refine List.Sublist.cons _ ?_)))).cs (i:=i) hi2|exact As)) ?_ U;refine e_ (Ai zeroValue25 cs_) ?_ U;rintro _ _ ⟨n6,rfl,rfl⟩
   first|refine A5 (Nq U U sizeOf25) U Ac ?_
   rintro _ _ ⟨rfl,rfl⟩;refine rO tb 4 U ?_;refine y_ (Nl U isAgg207 (by first|exact c_o|exact Af (Fnd.mono f3 (by repeat (first|exact List.sublist_append_left _ _|refine List.Sublist.cons _ ?_))) 0 _ U)) ?_ U;refine y_ (Nn U isAgg25 sizeOf25 U (by first|exact As)) ?_ U;refine e_ (Ca (T U) (qe1 U) call190 (ih (X:=(n6,Cl (encPd (gd m.subs i)) 25)::(n3,Cl (encPd m) 25)::X) (H:=Hi) qom (hM.sub (Ba hi2)) (prtP_at hxs hi2) (Fnd.mono f2 (by exact sbt)) (Fnd.mono f3 (by exact sbt)) hSi)) ?_ U;rintro _ _ ⟨H2,rfl,⟨rfl,hS2⟩|⟨rfl,hS2⟩⟩<;>rw[List.cons_append,List.cons_append]
   ·refine y_ (B1 (T U)) (rO tb 2 U ?_) U
    first|refine Co (Aa U) ?_|refine Co (Ag (Aa U) (vbool (decide_eq_false c21))) ?_
    refine rC tb 4 U (y_ (A8 (T U) An qom) ?_ U);refine rO tb 2 U ?_;refine A6 ((i+1,H2)) ?_ ?_ ⟨atd,trivial⟩ ⟨Aa U,Aa U,Aa U,trivial⟩ ?_
    ·refine⟨hi2,?_⟩;rw[prtPL_take hi2,List.length_append,← Nat.add_assoc];exact hS2
    ·first|omega|(simp only[];omega)
    ·exact(List.Sublist.cons _ (List.Sublist.refl _))
   ·refine y_ (B1 (T U)) (rO tb 2 U ?_) U
    first|refine B8 (Aa U) ?_|refine B8 (Ag (Aa U) (vbool (decide_eq_true c21))) ?_
    refine rC tb 8 U (Bc (rX tb 2 U (Ak U (Nk U) ?_)));exact⟨_,⟨H2,rfl, .inr ⟨rfl,hS2⟩⟩,by exact sbt⟩
  ·obtain rfl:i=m.subs.length:=by have h9: ¬ ((i:Nat):Int)<(m.subs.length:Nat):=c15;omega
   rw[List.take_length] at hSi;refine rC tb 2 U (Ax (rX tb 8 U (Ak U (Nk U) ?_)));exact⟨_,⟨Hi,rfl, .inl ⟨rfl,by rw[Er,List.length_cons,show k+((prtPL m.subs).length+1)=k+1+(prtPL m.subs).length by omega];exact hSi⟩⟩,by exact sbt⟩
 ·refine y_ (B1 (T U)) (rO tb 2 U ?_) U
  first|refine B8 (Aa U) ?_|refine B8 (Ag (Aa U) (vbool (decide_eq_true c10))) ?_
  refine rC tb 7 U (Ak U (Nk U) ?_);exact⟨_,⟨H1,rfl, .inr ⟨rfl,hS1⟩⟩,by exact sbt⟩
theorem tst_s {w0:World}{l:Nat}{S:Nat→List (Nat × Obj)→Prop}{Sx:List (Nat × Obj)→Prop}{Hc:List (Nat × Obj)}{xs:List Pdm}(hS:∀ k H,S k H→Hc.Sublist H)(hY:tstY w0 l S Sx xs)(N:Nat)(hN:N≤1000000000):tstS w0 l S Sx Hc xs N:=by
 induction N with
 |zero=>intro m k b2 b3 X H hm;have:=Hl m;omega
 |succ N ih=>exact tst_step hS hY qom (ih qom)
theorem tst_it {w0:World}{Hc:List (Nat × Obj)}{b1:Nat}(m:Pdm)(hm:m.sz≤1000000000)(hM:PdM w0 Hc m)(f1:Fnd Hc b1 (Cl (encPd m) 25)):IterSpec Tryz.prog w0 189 [.pointer (some ⟨b1,0,none⟩)] Hc (fun x=>[.agg (encPd x).toArray]) (prtP m):=by
 intro l S Sx hS hY H hS0;show FSpec Tryz.prog w0 189 #[.func (.yield l) #[] #[], .pointer (some ⟨b1,0,none⟩)] H _;refine Au Tryz.func189 U ntmps189 U (rD tb 2 U (e_ (Nr U cs_) ?_ U));rintro _ _ ⟨n2,rfl,rfl⟩;refine rO tb 4 U (e_ (Ai zeroValue207 cs_) ?_ U);rintro _ _ ⟨n3,rfl,rfl⟩;refine rO tb 4 U (y_ (Bs (.cons (T U) (.cons (T U) .nil))) ?_ U)
 first|refine A5 (Nq U U sizeOf207) U Ac ?_|refine A5 (B4 (T U) (T U) U sizeOf207) U Ac ?_|refine A5 (Bi (T U) (T U) U sizeOf207) U Ac ?_
 rintro _ _ ⟨rfl,rfl⟩;refine rO tb 3 U (y_ (Nl U isAgg207 (by first|exact c_o)) ?_ U);refine y_ (Nn U isAgg25 sizeOf25 U (by first|exact Af (Fnd.mono f1 (List.Sublist.trans (hS _ _ hS0) (by exact sbt)))|exact As)) ?_ U;refine e_ (Ca (T U) (qe1 U) call190 (tst_s (X:=(n3,Cl [.func (.func 190) #[] #[.pointer (some ⟨n2,0,none⟩), .pointer (some ⟨n3,0,none⟩)]] 207)::(n2,Cl [.func (.yield l) #[] #[]] 207)::[]) hS hY 1000000000 (Nat.le_refl _) hm hM (fun i hi=>by rw[Nat.zero_add]) (Ar Am) Am hS0)) ?_ U;rintro _ _ ⟨H1,rfl,hcs⟩;refine rO tb 1 U (Kb U .nil ?_);exact⟨H1,hcs.imp (fun h=>by have:=h.2;rwa [Nat.zero_add] at this) (fun h=>h.2),by exact sbt⟩
theorem tst_mk {w0:World}{H:List (Nat × Obj)}(m:Pdm):
  FSpec Tryz.prog w0 155 #[.agg (encPd m).toArray] H (fun u H'=>∃ b:Nat,u= .func (.func 189) #[] #[.pointer (some ⟨b,0,none⟩)]∧H'=(b,Cl (encPd m) 25)::H):=by
 refine Au Tryz.func155 U ntmps155 U (rD tb 2 U (e_ (Nr U cs_) ?_ U));rintro _ _ ⟨n1,rfl,rfl⟩;refine rO tb 5 U (y_ (Bs (.cons (T U) .nil)) (rO tb 4 U (Ak U (Nk U) ?_)) U);exact⟨_,⟨n1,rfl,rfl⟩,by exact sbt⟩
def prsS (w0:World) (l:Nat) (S:Nat→List (Nat × Obj)→Prop) (Sx:List (Nat × Obj)→Prop) (Hc:List (Nat × Obj)) (xs:List Pom) (N:Nat):Prop:=∀ {m:Pom} {k b2 b3:Nat} {X H:List (Nat × Obj)},m.sz≤N→PoM w0 Hc m→(∀ i,i<(prtO m).length→xs[k+i]? =(prtO m)[i]?)→Fnd X b2 (Cl [.func (.yield l) #[] #[]] 119)→Fnd X b3 (Cl [.func (.func 188) #[] #[.pointer (some ⟨b2,0,none⟩), .pointer (some ⟨b3,0,none⟩)]] 119)→S k H→
 FSpec Tryz.prog w0 188 #[.agg (encPo m).toArray, .pointer (some ⟨b2,0,none⟩), .pointer (some ⟨b3,0,none⟩)] (X++H) (fun v H'=>∃ H1,H'=X++H1∧((v= .bool true∧S (k+(prtO m).length) H1)∨(v= .bool false∧Sx H1)))
def prsY (w0:World) (l:Nat) (S:Nat→List (Nat × Obj)→Prop) (Sx:List (Nat × Obj)→Prop) (xs:List Pom):Prop:=∀ k x H X,xs[k]? =some x→S k H→YSpec Tryz.prog w0 l [.agg (encPo x).toArray] (X++H) fun v H'=>∃ H1,H'=X++H1∧((v= .bool true∧S (k+1) H1)∨(v= .bool false∧Sx H1))
theorem prs_step {w0:World}{l:Nat}{S:Nat→List (Nat × Obj)→Prop}{Sx:List (Nat × Obj)→Prop}{Hc:List (Nat × Obj)}{xs:List Pom}(hS:∀ k H,S k H→Hc.Sublist H)(hY:prsY w0 l S Sx xs){N:Nat}(hN:N≤1000000000)(ih:prsS w0 l S Sx Hc xs N):prsS w0 l S Sx Hc xs (N+1):=by
 intro m k b2 b3 X H hm hM hxs f2 f3 hSk;have hsz:=Dz m;have hln:=Gs m.subs;have hx0:xs[k]? =some m:=by have:=hxs 0 (by rw[Eh];simp);rw[Eh] at this;exact this
 refine Au Tryz.func188 U ntmps188 U (rD tb 2 U (e_ (Nr U cs_) ?_ U));rintro _ _ ⟨n3,rfl,rfl⟩;refine rO tb 6 U ?_;refine y_ (Nl U isAgg119 (by first|exact c_o|exact Af (Fnd.mono f2 (by repeat (first|exact List.sublist_append_left _ _|refine List.Sublist.cons _ ?_))) 0 _ U)) ?_ U;refine y_ (Nn U isAgg28 sizeOf28 U (by first|exact As)) ?_ U;refine e_ (H7 (T U) (.cons (T U) .nil) (hY k m H ((n3,Cl (encPo m) 28)::X) hx0 hSk)) ?_ U;rintro _ _ ⟨H1,rfl,⟨rfl,hS1⟩|⟨rfl,hS1⟩⟩<;>rw[List.cons_append]
 ·refine y_ (B1 (T U)) (rO tb 2 U ?_) U
  first|refine Co (Aa U) ?_|refine Co (Ag (Aa U) (vbool (decide_eq_false c10))) ?_
  refine rC tb 6 U (y_ (Nl U isAgg26 (by first|exact c_o)) ?_ U);refine rO tb 5 U ?_;refine Bj (X:=Nat × List (Nat × Obj)) (V:=fun ⟨i,Hi⟩=>[(14, .int .i64 (i:Nat))]) (C:=[(2,_),(12,_),(13,_)]) (G:=fun ⟨i,Hi⟩=>(n3,Cl (encPo m) 28)::(X++Hi)) (φ:=fun ⟨i,Hi⟩=>i≤m.subs.length∧S (k+1+(prtOL (m.subs.take i)).length) Hi) (μ:=fun ⟨i,Hi⟩=>m.subs.length - i) (x0:=(0,H1)) ?_ ⟨Aa rfl,Aa rfl,Aa rfl,trivial⟩ ⟨atd,trivial⟩ (List.Sublist.refl _) ?_
  ·exact⟨Nat.zero_le _,hS1⟩
  rintro⟨i,Hi⟩ ⟨hi,hSi⟩;refine rD tb 6 U ?_
  first|refine Ae (Aa U) (fun c15=> ?_) (fun c15=> ?_)|refine Ah (Aa U) (fun c15=> ?_) (fun c15=> ?_)
  ·have hi2:i<m.subs.length:=by have h9:((i:Nat):Int)<(m.subs.length:Nat):=c15;omega
   have hai:=Eg (Ba hi2);refine rC tb 6 U (y_ (Np U U runUnderlying26 sizeOf28 (by have h9:((i:Nat):Int)<(m.subs.length:Nat):=c15;omega) (by first|exact rfl|exact hM.arr.b (i:=i) hi2)) ?_ U);refine y_ (Nn U isAgg28 sizeOf28 U (by first|exact(hM.arr.mono (List.Sublist.trans (hS _ _ hSi) (by repeat (first|exact List.sublist_append_right _ _|refine List.Sublist.cons _ ?_)))).cs (i:=i) hi2|exact As)) ?_ U;refine e_ (Ai zeroValue28 cs_) ?_ U;rintro _ _ ⟨n6,rfl,rfl⟩
   first|refine A5 (Nq U U sizeOf28) U Ac ?_
   rintro _ _ ⟨rfl,rfl⟩;refine rO tb 4 U ?_;refine y_ (Nl U isAgg119 (by first|exact c_o|exact Af (Fnd.mono f3 (by repeat (first|exact List.sublist_append_left _ _|refine List.Sublist.cons _ ?_))) 0 _ U)) ?_ U;refine y_ (Nn U isAgg28 sizeOf28 U (by first|exact As)) ?_ U;refine e_ (Ca (T U) (qe1 U) call188 (ih (X:=(n6,Cl (encPo (gd m.subs i)) 28)::(n3,Cl (encPo m) 28)::X) (H:=Hi) qom (hM.sub (Ba hi2)) (prtO_at hxs hi2) (Fnd.mono f2 (by exact sbt)) (Fnd.mono f3 (by exact sbt)) hSi)) ?_ U;rintro _ _ ⟨H2,rfl,⟨rfl,hS2⟩|⟨rfl,hS2⟩⟩<;>rw[List.cons_append,List.cons_append]
   ·refine y_ (B1 (T U)) (rO tb 2 U ?_) U
    first|refine Co (Aa U) ?_|refine Co (Ag (Aa U) (vbool (decide_eq_false c21))) ?_
    refine rC tb 4 U (y_ (A8 (T U) An qom) ?_ U);refine rO tb 2 U ?_;refine A6 ((i+1,H2)) ?_ ?_ ⟨atd,trivial⟩ ⟨Aa U,Aa U,Aa U,trivial⟩ ?_
    ·refine⟨hi2,?_⟩;rw[prtOL_take hi2,List.length_append,← Nat.add_assoc];exact hS2
    ·first|omega|(simp only[];omega)
    ·exact(List.Sublist.cons _ (List.Sublist.refl _))
   ·refine y_ (B1 (T U)) (rO tb 2 U ?_) U
    first|refine B8 (Aa U) ?_|refine B8 (Ag (Aa U) (vbool (decide_eq_true c21))) ?_
    refine rC tb 8 U (Bc (rX tb 2 U (Ak U (Nk U) ?_)));exact⟨_,⟨H2,rfl, .inr ⟨rfl,hS2⟩⟩,by exact sbt⟩
  ·obtain rfl:i=m.subs.length:=by have h9: ¬ ((i:Nat):Int)<(m.subs.length:Nat):=c15;omega
   rw[List.take_length] at hSi;refine rC tb 2 U (Ax (rX tb 8 U (Ak U (Nk U) ?_)));exact⟨_,⟨Hi,rfl, .inl ⟨rfl,by rw[Eh,List.length_cons,show k+((prtOL m.subs).length+1)=k+1+(prtOL m.subs).length by omega];exact hSi⟩⟩,by exact sbt⟩
 ·refine y_ (B1 (T U)) (rO tb 2 U ?_) U
  first|refine B8 (Aa U) ?_|refine B8 (Ag (Aa U) (vbool (decide_eq_true c10))) ?_
  refine rC tb 7 U (Ak U (Nk U) ?_);exact⟨_,⟨H1,rfl, .inr ⟨rfl,hS1⟩⟩,by exact sbt⟩
theorem prs_s {w0:World}{l:Nat}{S:Nat→List (Nat × Obj)→Prop}{Sx:List (Nat × Obj)→Prop}{Hc:List (Nat × Obj)}{xs:List Pom}(hS:∀ k H,S k H→Hc.Sublist H)(hY:prsY w0 l S Sx xs)(N:Nat)(hN:N≤1000000000):prsS w0 l S Sx Hc xs N:=by
 induction N with
 |zero=>intro m k b2 b3 X H hm;have:=Dz m;omega
 |succ N ih=>exact prs_step hS hY qom (ih qom)
theorem prs_it {w0:World}{Hc:List (Nat × Obj)}{b1:Nat}(m:Pom)(hm:m.sz≤1000000000)(hM:PoM w0 Hc m)(f1:Fnd Hc b1 (Cl (encPo m) 28)):IterSpec Tryz.prog w0 187 [.pointer (some ⟨b1,0,none⟩)] Hc (fun x=>[.agg (encPo x).toArray]) (prtO m):=by
 intro l S Sx hS hY H hS0;show FSpec Tryz.prog w0 187 #[.func (.yield l) #[] #[], .pointer (some ⟨b1,0,none⟩)] H _;refine Au Tryz.func187 U ntmps187 U (rD tb 2 U (e_ (Nr U cs_) ?_ U));rintro _ _ ⟨n2,rfl,rfl⟩;refine rO tb 4 U (e_ (Ai zeroValue119 cs_) ?_ U);rintro _ _ ⟨n3,rfl,rfl⟩;refine rO tb 4 U (y_ (Bs (.cons (T U) (.cons (T U) .nil))) ?_ U)
 first|refine A5 (Nq U U sizeOf119) U Ac ?_|refine A5 (B4 (T U) (T U) U sizeOf119) U Ac ?_|refine A5 (Bi (T U) (T U) U sizeOf119) U Ac ?_
 rintro _ _ ⟨rfl,rfl⟩;refine rO tb 3 U (y_ (Nl U isAgg119 (by first|exact c_o)) ?_ U);refine y_ (Nn U isAgg28 sizeOf28 U (by first|exact Af (Fnd.mono f1 (List.Sublist.trans (hS _ _ hS0) (by exact sbt)))|exact As)) ?_ U;refine e_ (Ca (T U) (qe1 U) call188 (prs_s (X:=(n3,Cl [.func (.func 188) #[] #[.pointer (some ⟨n2,0,none⟩), .pointer (some ⟨n3,0,none⟩)]] 119)::(n2,Cl [.func (.yield l) #[] #[]] 119)::[]) hS hY 1000000000 (Nat.le_refl _) hm hM (fun i hi=>by rw[Nat.zero_add]) (Ar Am) Am hS0)) ?_ U;rintro _ _ ⟨H1,rfl,hcs⟩;refine rO tb 1 U (Kb U .nil ?_);exact⟨H1,hcs.imp (fun h=>by have:=h.2;rwa [Nat.zero_add] at this) (fun h=>h.2),by exact sbt⟩
theorem prs_mk {w0:World}{H:List (Nat × Obj)}(m:Pom):
  FSpec Tryz.prog w0 154 #[.agg (encPo m).toArray] H (fun u H'=>∃ b:Nat,u= .func (.func 187) #[] #[.pointer (some ⟨b,0,none⟩)]∧H'=(b,Cl (encPo m) 28)::H):=by
 refine Au Tryz.func154 U ntmps154 U (rD tb 2 U (e_ (Nr U cs_) ?_ U));rintro _ _ ⟨n1,rfl,rfl⟩;refine rO tb 5 U (y_ (Bs (.cons (T U) .nil)) (rO tb 4 U (Ak U (Nk U) ?_)) U);exact⟨_,⟨n1,rfl,rfl⟩,by exact sbt⟩
section
variable {P:Program} {N:Nat} {w0:World} {Q:Post} {L:Fm} {ds:List Deferred} {H:List (Nat × Obj)}
theorem j_rangeN {α Z:Type}{g:Operand}{ps:List Nat}{assign body:Code}{gf:FuncId}{cap:List Value}{Hc:List (Nat × Obj)}{enc:α→List Value}{xs:List α}
  {l0:Nat} {r0:Loop} (hr0:(l0,Obj.loop r0)∈H) (hg:Ev L g (.func (.func gf) #[] cap.toArray)) (hc:∀ args w,(callFunc gf args).run P w= .ok (.enter gf args) w) (it:IterSpec P w0 gf cap Hc enc xs) (hps:∀ x,(enc x).length=ps.length) (hpN:(ps.all fun p=>Nat.blt p N)=true)
  (G:Z→List (Nat × Obj)) (φ:Nat→Z→Prop) (φr:Z→Prop) (φe:Nat→Z→Prop) (z0:Z) (h0:φ 0 z0) (hG:(G z0).Sublist H) (hHc:∀ k z,φ k z→Hc.Sublist (G z))
  (round:∀ (l:Nat) (lr:LoopState→Option Code→Loop) (Y X:List (Nat × Obj)) (k:Nat) (x:α) (z:Z),LrOk lr→xs[k]? =some x→φ k z→
   J P (some l) N w0 assign (assignQ P l N body (roundQ w0 (fun z=>X++((l, .loop (lr .busy none))::(Y++G z))) (φ (k+1)) φr φe)) (psL ps (enc x) L) [] (X++((l, .loop (lr .ready none))::(Y++G z))))
  (done:∀ z,φ xs.length z→JQ w0 Q .normal L ds (G z))
  (stopR:∀ z,φr z→JQ w0 Q .ret L ds (G z))
  (stopE:∀ id z,φe id z→JQ w0 Q (.exit id) L ds (G z)):
  J P (some l0) N w0 (.rangeFunc g ps.toArray assign body) Q L ds H:=fun b w hO a hsz hf hd=>by
 refine wpIn_rangeFunc ?_;intro fn _;have hO':=hO.sub hG;obtain⟨lr,hlr⟩:∃ lr:LoopState→Option Code→Loop,lr=fun st pe=>{state:=st,pending:=pe,fn,tmps:=a.tmps,params:=ps.toArray,assign,body,defers:=r0.defers}:=⟨_,rfl⟩
 have hl:LrOk lr:=by subst hlr;exact⟨fun _ _=>rfl,fun _ _ _=>rfl,fun _ _ _ _=>rfl,fun _ _=>rfl⟩
 have hO1:=hO'.alloc (.loop (lr .ready none));obtain⟨l,hlw⟩:∃ l,l=w.heap.size:=⟨_,rfl⟩;rw[← hlw] at hO1;have hcond:=it l (fun k H=>∃ z,φ k z∧H=(l, .loop (lr .ready none))::([]++G z))
  (fun H=>∃ z,(φr z∧H=(l, .loop (lr .done (some .ret)))::([]++G z))∨∃ id,φe id z∧H=(l, .loop (lr .done (some (.exit id))))::([]++G z))
  (fun k H ⟨z,hz,hH⟩=>by rw[hH];exact(hHc k z hz).cons _)
  (fun k x H X hx ⟨z,hz,hH⟩ w hOw=>by
   rw[hH] at hOw;have hh:w.heap[l]? =some (.loop (lr .ready none)):=hOw.has (l,_) (by simp);have hy:=run_yield (P:=P) (args:=(enc x).toArray) hh (by rw[hlr];simpa using hps x);have htm:a.tmps.size=N:=hsz;have hp:=J0 ps (enc x) a.tmps L b (fun p hp=>by have:=List.all_eq_true.1 hpN p hp;rw[htm];simpa[Nat.blt_eq] using this) hf;refine⟨_,_,_,_,hy,?_⟩;have h1:=G1 (P:=P) (f:=(lr .ready none).fn) (tmps:=(ps.zip (enc x)).foldl (fun t (p,v)=>t.setIfInBounds p v) a.tmps) (X:=X) (Y:=[]) (G:=G) (φ:=φ (k+1)) (φr:=φr) (φe:=φe) hl hp.2 (by rw[hp.1];exact htm) (round l lr [] X k x z hl hx hz) hOw;have e1:(lr .ready none).assign=assign:=by rw[hlr]
   have e2:(lr .ready none).body=body:=by rw[hlr]
   have e3:((lr .ready none).params.zip (enc x).toArray).foldl (fun tmps (p:Tmp × Value)=>tmps.setIfInBounds p.1 p.2) (lr .ready none).tmps=(ps.zip (enc x)).foldl (fun t (p,v)=>t.setIfInBounds p v) a.tmps:=by rw[hlr];simp
   rw[e1,e2];refine RoundIn.mono (by rw[← e3] at h1;exact h1) ?_;rintro e w' ⟨v,H',he,hO2,hcs⟩;refine⟨v,H',he,hO2,?_⟩;rcases hcs with ⟨hv,z',hz',hH'⟩|⟨hv,z',hcs⟩
   ·exact⟨_,hH', .inl ⟨hv,z',hz',rfl⟩⟩
   ·rcases hcs with ⟨hz',hH'⟩|⟨id,hz',hH'⟩
    ·exact⟨_,hH', .inr ⟨hv,z', .inl ⟨hz',rfl⟩⟩⟩
    ·exact⟨_,hH', .inr ⟨hv,z', .inr ⟨id,hz',rfl⟩⟩⟩)
  ((l, .loop (lr .ready none))::([]++G z0)) ⟨z0,h0,rfl⟩
 refine⟨l,[],w.alloc (.loop (lr .ready none)),{target:= .fn (.func gf) cap.toArray,args:= #[.func (.yield l) #[] #[]]},w.alloc (.loop (lr .ready none)),gf,(.func (.yield l) #[] #[]::cap).toArray,w.alloc (.loop (lr .ready none)),?enter,?res,fun f' _=>trivial,?inv,Ip (some l0),D2 (r:=some l0) ?call⟩
 case call=>
  refine(hcond _ hO1).mono ?_;rintro e w3 ⟨v,H',he,hO3,hcs⟩;subst he;have fin:∀ (s:LoopState) (p:Option Code) (z:Z),s≠.busy→Own w0 ((l, .loop (lr s p))::([]++G z)) w3→(Instr.endLoop l).run P w3= .ok p (w3.putObj l (.loop {lr s p with state:= .exhausted}))∧Own w0 (G z) (w3.putObj l (.loop {lr s p with state:= .exhausted})):=fun s p z hne hO3=>by
   have hh:w3.heap[l]? =some (.loop (lr s p)):=hO3.has (l,_) (by simp);have h1:=run_endLoop (P:=P) hh (by rw[hl.state];exact hne);exact⟨h1.trans (congrArg (fun q=>Result.ok q _) (hl.pend s p)),(hO3.put .h).tail⟩
  have key:∀ e z,(∀ w,Own w0 (G z) w→Q e (lk L b) ds w)→∀ w,Own w0 (G z) w→LQ N Q e {a with defers:=[]++a.defers} w:=fun e z h w hOw=>⟨hsz,by
   have:=h w hOw;have hf':fr {a with defers:=[]++a.defers}=lk L b:=hf;rw[hf'];simp only[List.nil_append,hd];exact this⟩
  rcases hcs with ⟨z,hz,hH'⟩|⟨z,hcs⟩
  ·rw[hH'] at hO3;obtain⟨h1,h2⟩:=fin _ _ z (by simp) hO3;exact⟨none,_,h1,key .normal z (fun w hw=>done z hz b w hw) _ h2⟩
  ·rcases hcs with ⟨hz,hH'⟩|⟨id,hz,hH'⟩
   ·rw[hH'] at hO3;obtain⟨h1,h2⟩:=fin _ _ z (by simp) hO3;exact⟨some .ret,_,h1,wpIn_ret (key .ret z (fun w hw=>stopR z hz b w hw) _ h2)⟩
   ·rw[hH'] at hO3;obtain⟨h1,h2⟩:=fin _ _ z (by simp) hO3;exact⟨some (.exit id),_,h1,wpIn_exit (key (.exit id) z (fun w hw=>stopE id z hz b w hw) _ h2)⟩
 case enter=>
  have:=run_enterLoop_inner (P:=P) (w:=w) (hO.has _ hr0) fn a.tmps ps.toArray assign body;rw[hlr,hlw];exact this
 case res=>
  have hgb:=hg b;rw[← hf,← D8] at hgb;have e:resolve a.eval (rangeCall g l) 0=Deferred.ofValue (a.eval g) #[.func (.yield l) #[] #[]]:=by
   unfold resolve;simp only[List.map_toArray,List.map_cons,List.map_nil]
   rfl
  rw[e];rw[hgb];simp[Deferred.ofValue]
 case inv=>simp[invoke,hc]
theorem j_rangeM {α Z:Type}{g:Operand}{ps:List Nat}{assign body:Code}{gf:FuncId}{cap:List Value}{Hc:List (Nat × Obj)}{enc:α→List Value}{xs:List α}
  (hg:Ev L g (.func (.func gf) #[] cap.toArray)) (hc:∀ args w,(callFunc gf args).run P w= .ok (.enter gf args) w) (it:IterSpec P w0 gf cap Hc enc xs) (hps:∀ x,(enc x).length=ps.length) (hpN:(ps.all fun p=>Nat.blt p N)=true)
  (G:Z→List (Nat × Obj)) (φ:Nat→Z→Prop) (φr:Z→Prop) (φe:Nat→Z→Prop) (z0:Z) (h0:φ 0 z0) (hG:(G z0).Sublist H) (hHc:∀ k z,φ k z→Hc.Sublist (G z))
  (round:∀ (l:Nat) (lr:LoopState→Option Code→Loop) (Y X:List (Nat × Obj)) (k:Nat) (x:α) (z:Z),LrOk lr→xs[k]? =some x→φ k z→
   J P (some l) N w0 assign (assignQ P l N body (roundQ w0 (fun z=>X++((l, .loop (lr .busy none))::(Y++G z))) (φ (k+1)) φr φe)) (psL ps (enc x) L) [] (X++((l, .loop (lr .ready none))::(Y++G z))))
  (done:∀ D z,φ xs.length z→JQ w0 Q .normal L ({target:= .collected D,args:= #[]}::ds) ((D, .deferred (some []))::G z))
  (stopR:∀ D z,φr z→JQ w0 Q .ret L ({target:= .collected D,args:= #[]}::ds) ((D, .deferred (some []))::G z))
  (stopE:∀ id D z,φe id z→JQ w0 Q (.exit id) L ({target:= .collected D,args:= #[]}::ds) ((D, .deferred (some []))::G z)):
  J P none N w0 (.rangeFunc g ps.toArray assign body) Q L ds H:=fun b w hO a hsz hf hd=>by
 refine wpIn_rangeFunc ?_;intro fn _;have hO':=hO.sub hG;obtain⟨lr,hlr⟩:∃ lr:LoopState→Option Code→Loop,lr=fun st pe=>{state:=st,pending:=pe,fn,tmps:=a.tmps,params:=ps.toArray,assign,body,defers:=w.heap.size}:=⟨_,rfl⟩
 have hl:LrOk lr:=by subst hlr;exact⟨fun _ _=>rfl,fun _ _ _=>rfl,fun _ _ _ _=>rfl,fun _ _=>rfl⟩
 have hO1:=(hO'.alloc (.deferred (some []))).alloc (.loop (lr .ready none));rw[World.size_alloc] at hO1;obtain⟨D,hDw⟩:∃ D,D=w.heap.size:=⟨_,rfl⟩;obtain⟨l,hlw⟩:∃ l,l=w.heap.size+1:=⟨_,rfl⟩;rw[← hlw,← hDw] at hO1;have hcond:=it l (fun k H=>∃ z,φ k z∧H=(l, .loop (lr .ready none))::([(D, .deferred (some []))]++G z))
  (fun H=>∃ z,(φr z∧H=(l, .loop (lr .done (some .ret)))::([(D, .deferred (some []))]++G z))∨∃ id,φe id z∧H=(l, .loop (lr .done (some (.exit id))))::([(D, .deferred (some []))]++G z))
  (fun k H ⟨z,hz,hH⟩=>by rw[hH];exact((hHc k z hz).cons _).cons _)
  (fun k x H X hx ⟨z,hz,hH⟩ w hOw=>by
   rw[hH] at hOw;have hh:w.heap[l]? =some (.loop (lr .ready none)):=hOw.has (l,_) (by simp);have hy:=run_yield (P:=P) (args:=(enc x).toArray) hh (by rw[hlr];simpa using hps x);have htm:a.tmps.size=N:=hsz;have hp:=J0 ps (enc x) a.tmps L b (fun p hp=>by have:=List.all_eq_true.1 hpN p hp;rw[htm];simpa[Nat.blt_eq] using this) hf;refine⟨_,_,_,_,hy,?_⟩;have h1:=G1 (P:=P) (f:=(lr .ready none).fn) (tmps:=(ps.zip (enc x)).foldl (fun t (p,v)=>t.setIfInBounds p v) a.tmps) (X:=X) (Y:=[(D, .deferred (some []))]) (G:=G) (φ:=φ (k+1)) (φr:=φr) (φe:=φe) hl hp.2 (by rw[hp.1];exact htm) (round l lr [(D, .deferred (some []))] X k x z hl hx hz) hOw;have e1:(lr .ready none).assign=assign:=by rw[hlr]
   have e2:(lr .ready none).body=body:=by rw[hlr]
   have e3:((lr .ready none).params.zip (enc x).toArray).foldl (fun tmps (p:Tmp × Value)=>tmps.setIfInBounds p.1 p.2) (lr .ready none).tmps=(ps.zip (enc x)).foldl (fun t (p,v)=>t.setIfInBounds p v) a.tmps:=by rw[hlr];simp
   rw[e1,e2];refine RoundIn.mono (by rw[← e3] at h1;exact h1) ?_;rintro e w' ⟨v,H',he,hO2,hcs⟩;refine⟨v,H',he,hO2,?_⟩;rcases hcs with ⟨hv,z',hz',hH'⟩|⟨hv,z',hcs⟩
   ·exact⟨_,hH', .inl ⟨hv,z',hz',rfl⟩⟩
   ·rcases hcs with ⟨hz',hH'⟩|⟨id,hz',hH'⟩
    ·exact⟨_,hH', .inr ⟨hv,z', .inl ⟨hz',rfl⟩⟩⟩
    ·exact⟨_,hH', .inr ⟨hv,z', .inr ⟨id,hz',rfl⟩⟩⟩)
  ((l, .loop (lr .ready none))::([(D, .deferred (some []))]++G z0)) ⟨z0,h0,rfl⟩
 refine⟨l,[{target:= .collected D,args:= #[]}],(w.alloc (.deferred (some []))).alloc (.loop (lr .ready none)),{target:= .fn (.func gf) cap.toArray,args:= #[.func (.yield l) #[] #[]]},(w.alloc (.deferred (some []))).alloc (.loop (lr .ready none)),gf,(.func (.yield l) #[] #[]::cap).toArray,(w.alloc (.deferred (some []))).alloc (.loop (lr .ready none)),?enter,?res,fun f' _=>trivial,?inv,Ip none,D2 (r:=none) ?call⟩
 case call=>
  refine(hcond _ hO1).mono ?_;rintro e w3 ⟨v,H',he,hO3,hcs⟩;subst he;have fin:∀ (s:LoopState) (p:Option Code) (z:Z),s≠.busy→Own w0 ((l, .loop (lr s p))::([(D, .deferred (some []))]++G z)) w3→(Instr.endLoop l).run P w3= .ok p (w3.putObj l (.loop {lr s p with state:= .exhausted}))∧Own w0 ((D, .deferred (some []))::G z) (w3.putObj l (.loop {lr s p with state:= .exhausted})):=fun s p z hne hO3=>by
   have hh:w3.heap[l]? =some (.loop (lr s p)):=hO3.has (l,_) (by simp);have h1:=run_endLoop (P:=P) hh (by rw[hl.state];exact hne);exact⟨h1.trans (congrArg (fun q=>Result.ok q _) (hl.pend s p)),(hO3.put .h).tail⟩
  have key:∀ e z,(∀ w,Own w0 ((D, .deferred (some []))::G z) w→Q e (lk L b) ({target:= .collected D,args:= #[]}::ds) w)→∀ w,Own w0 ((D, .deferred (some []))::G z) w→LQ N Q e {a with defers:=[{target:= .collected D,args:= #[]}]++a.defers} w:=fun e z h w hOw=>⟨hsz,by
   have:=h w hOw;have hf':fr {a with defers:=[{target:= .collected D,args:= #[]}]++a.defers}=lk L b:=hf;rw[hf'];simp only[List.cons_append,List.nil_append,hd];exact this⟩
  rcases hcs with ⟨z,hz,hH'⟩|⟨z,hcs⟩
  ·rw[hH'] at hO3;obtain⟨h1,h2⟩:=fin _ _ z (by simp) hO3;exact⟨none,_,h1,key .normal z (fun w hw=>done D z hz b w hw) _ h2⟩
  ·rcases hcs with ⟨hz,hH'⟩|⟨id,hz,hH'⟩
   ·rw[hH'] at hO3;obtain⟨h1,h2⟩:=fin _ _ z (by simp) hO3;exact⟨some .ret,_,h1,wpIn_ret (key .ret z (fun w hw=>stopR D z hz b w hw) _ h2)⟩
   ·rw[hH'] at hO3;obtain⟨h1,h2⟩:=fin _ _ z (by simp) hO3;exact⟨some (.exit id),_,h1,wpIn_exit (key (.exit id) z (fun w hw=>stopE id D z hz b w hw) _ h2)⟩
 case enter=>
  have:=run_enterLoop_outer (P:=P) (w:=w) fn a.tmps ps.toArray assign body;rw[hlr,hlw,hDw];exact this
 case res=>
  have hgb:=hg b;rw[← hf,← D8] at hgb;have e:resolve a.eval (rangeCall g l) 0=Deferred.ofValue (a.eval g) #[.func (.yield l) #[] #[]]:=by
   unfold resolve;simp only[List.map_toArray,List.map_cons,List.map_nil]
   rfl
  rw[e];rw[hgb];simp[Deferred.ofValue]
 case inv=>simp[invoke,hc]
end
theorem y_at {P:Program}{w0:World}{l:Nat}{args:List Value}{M XX Hz:List (Nat × Obj)}{F:List (Nat × Obj)→List (Nat × Obj)}{C:Value→List (Nat × Obj)→Prop}(e:M=XX++Hz)(eb:∀ H1,XX++H1=F H1)(hy:YSpec P w0 l args (XX++Hz) fun v H'=>∃ H1,H'=XX++H1∧C v H1):YSpec P w0 l args M fun v H'=>∃ H1,H'=F H1∧C v H1:=by
 rw[e];exact hy.mono fun v H' ⟨H1,h1,h2⟩=>⟨H1,h1.trans (eb H1),h2⟩
def gPr (p:Pom):List Pdm:=if p.kind=1 then prtP p.pr else []
def prdF (m:Pom):List Pdm:=(prtO m).flatMap gPr
def offP (m:Pom) (k:Nat):Nat:=(((prtO m).take k).flatMap gPr).length
theorem offP_next {m x:Pom}{k:Nat}(hx:(prtO m)[k]? =some x):offP m (k+1)=offP m k+(gPr x).length:=by
 obtain⟨hk,e⟩:=List.getElem?_eq_some_iff.1 hx;unfold offP;rw[List.take_succ_eq_append_getElem hk,List.flatMap_append,List.length_append,e];simp
theorem offP_all (m:Pom):offP m (prtO m).length=(prdF m).length:=by unfold offP prdF;rw[List.take_length]
theorem offP_at {m x:Pom}{k j:Nat}(hx:(prtO m)[k]? =some x){y:Pdm}(hy:(gPr x)[j]? =some y):(prdF m)[offP m k+j]? =some y:=by
 obtain⟨hk,e⟩:=List.getElem?_eq_some_iff.1 hx;have hj:=(List.getElem?_eq_some_iff.1 hy).1;have e2:prdF m=((prtO m).take k).flatMap gPr++(gPr x++((prtO m).drop (k+1)).flatMap gPr):=by
  unfold prdF
  conv=>lhs;rw[← List.take_append_drop (k+1) (prtO m),List.flatMap_append,List.take_succ_eq_append_getElem hk,List.flatMap_append,e]
  simp
 unfold offP;rw[e2,List.getElem?_append_right qom,show ((prtO m).take k |>.flatMap gPr).length+j - ((prtO m).take k |>.flatMap gPr).length=j by omega,List.getElem?_append_left hj];exact hy
theorem prd_it {w0:World}{Hc:List (Nat × Obj)}{b1:Nat}(m:Pom)(hm:m.sz≤1000000000)(hM:PoM w0 Hc m)(f1:Fnd Hc b1 (Cl (encPo m) 28)):IterSpec Tryz.prog w0 153 [.pointer (some ⟨b1,0,none⟩)] Hc (fun x=>[.agg (encPd x).toArray]) (prdF m):=by
 intro ly S Sx hS hY H hS0;show FSpec Tryz.prog w0 153 #[.func (.yield ly) #[] #[], .pointer (some ⟨b1,0,none⟩)] H _;refine Au Tryz.func153 U ntmps153 U (rD tb 2 U (e_ (Nr U cs_) ?_ U));rintro _ _ ⟨n2,rfl,rfl⟩;refine rO tb 4 U (y_ (Nn U isAgg28 sizeOf28 U (by first|exact Af (Fnd.mono f1 (List.Sublist.trans (hS _ _ hS0) (by exact sbt)))|exact As)) ?_ U);refine e_ (Al (qe1 U) call154 (prs_mk m)) ?_ U;rintro _ _ ⟨b9,rfl,rfl⟩;refine rO tb 3 U ?_;refine j_rangeM (Z:=List (Nat × Obj)) (T U) call187 (prs_it (Hc:=(b9,Cl (encPo m) 28)::Hc) m hm (hM.mono (List.Sublist.cons _ (List.Sublist.refl _))) Am) (fun _=>rfl) U (fun z=>(b9,Cl (encPo m) 28)::(n2,Cl [.func (.yield ly) #[] #[]] 207)::z) (fun k z=>S (offP m k) z) (fun z=>Sx z) (fun _ z=>False) (H) ?_ sbt ?_ ?_ ?_ ?_ ?_
 ·exact hS0
 ·exact fun k z hz=>List.Sublist.cons_cons _ (List.Sublist.cons _ (hS _ _ hz))
 ·rintro l lr Y X k x z hl hx hz;have hxm:=List.mem_of_getElem? hx;have hxM:=(prtO_M hM x hxm).pred;have hxs:x.pr.sz≤1000000000:=by have h8:=prtO_sz x hxm;have h9:=Dz x;omega
  refine Iw [(2,_),(7,_)] ⟨Aa U,Aa U,trivial⟩ (rD tb 1 U (e_ (Ai zeroValue28 cs_) ?_ U));rintro _ _ ⟨n3,rfl,rfl⟩
  first|refine A5 (Nq U U sizeOf28) U Ac ?_
  rintro _ _ ⟨rfl,rfl⟩;refine rO tb 1 U (H8 hl ?_);refine rD tb 5 U (y_ (Nl U isAgg3 (by first|exact c_o)) ?_ U);refine rO tb 3 U ?_
  first|refine Ae (Aa U) (fun c10=> ?_) (fun c10=> ?_)|refine Ah (Aa U) (fun c10=> ?_) (fun c10=> ?_)
  ·have hgx:gPr x=[]:=if_neg (fun e=>c10 e);refine rC tb 3 U (Ia (z) ?_ sbt);show S (offP m (k+1)) z;rw[offP_next hx,hgx];exact hz
  ·have hgx:gPr x=prtP x.pr:=if_pos (Classical.not_not.1 c10);refine rC tb 5 U ?_;refine y_ (Nn U isAgg25 sizeOf25 U (by first|exact po_pr (.int .i64 x.kind) x.pr [.string x.nm, .int .i64 x.n, .slice x.q x.subs.length x.cap] fdd|exact As)) ?_ U;refine e_ (Al (qe1 U) call155 (tst_mk x.pr)) ?_ U;rintro _ _ ⟨b8,rfl,rfl⟩;refine rO tb 3 U ?_;refine j_rangeN (Z:=List (Nat × Obj)) (r0:=lr .busy none) (by simp) (T U) call189 (tst_it (Hc:=(b8,Cl (encPd x.pr) 25)::Hc) x.pr hxs (hxM.mono (List.Sublist.cons _ (List.Sublist.refl _))) Am) (fun _=>rfl) U (fun z2=>(b8,Cl (encPd x.pr) 25)::(n3,Cl (encPo x) 28)::(X++((l, .loop (lr .busy none))::(Y++((b9,Cl (encPo m) 28)::(n2,Cl [.func (.yield ly) #[] #[]] 207)::z2))))) (fun j z2=>S (offP m k+j) z2) (fun z2=>Sx z2) (fun _ z2=>False) (z) ?_ sbt ?_ ?_ ?_ ?_ ?_
   ·exact hz
   ·exact fun k9 z2 hz2=>List.Sublist.cons_cons _ ((hS _ _ hz2).trans (by exact sbt))
   ·rintro l2 lr2 Y2 X2 j y z2 hl2 hy hz2;refine Iw [(2,_),(14,_)] ⟨Aa U,Aa U,trivial⟩ (rD tb 1 U (e_ (Ai zeroValue25 cs_) ?_ U));rintro _ _ ⟨n4,rfl,rfl⟩
    first|refine A5 (Nq U U sizeOf25) U Ac ?_
    rintro _ _ ⟨rfl,rfl⟩;refine rO tb 1 U (H8 hl2 ?_);refine rD tb 3 U ?_;refine y_ (Nl U isAgg207 (by first|exact c_o|exact Af fdd 0 _ U)) ?_ U;refine y_ (Nn U isAgg25 sizeOf25 U (by first|exact Af fdd|exact As)) ?_ U;refine e_ (H7 (T U) (.cons (T U) .nil) (y_at (F:=fun H1=>(n4,Cl (encPd y) 25)::(X2++((l2, .loop (lr2 .busy none))::(Y2++((b8,Cl (encPd x.pr) 25)::(n3,Cl (encPo x) 28)::(X++((l, .loop (lr .busy none))::(Y++((b9,Cl (encPo m) 28)::(n2,Cl [.func (.yield ly) #[] #[]] 207)::H1))))))))) (XX:=((n4,Cl (encPd y) 25)::(X2++((l2, .loop (lr2 .busy none))::(Y2++((b8,Cl (encPd x.pr) 25)::(n3,Cl (encPo x) 28)::(X++((l, .loop (lr .busy none))::(Y++[(b9,Cl (encPo m) 28),(n2,Cl [.func (.yield ly) #[] #[]] 207)]))))))))) (Hz:=z2) (by simp) (fun H1=>by simp) (hY _ y z2 _ (offP_at hx (by rw[hgx];exact hy)) hz2))) ?_ U;rintro _ _ ⟨H1,rfl,⟨rfl,hS1⟩|⟨rfl,hS1⟩⟩
    ·refine y_ (B1 (T U)) (rO tb 2 U ?_) U
     first|refine Co (Aa U) ?_|refine Co (Ag (Aa U) (vbool (decide_eq_false c18))) ?_
     refine rC tb 2 U (Ia (H1) ?_ sbt);exact hS1
    ·refine y_ (B1 (T U)) (rO tb 2 U ?_) U
     first|refine B8 (Aa U) ?_|refine B8 (Ag (Aa U) (vbool (decide_eq_true c18))) ?_
     refine rC tb 2 U (q_round_ret (H1) ?_ sbt);exact hS1
   ·rintro  z2 hz2;refine rX tb 2 U (Ia (z2) ?_ sbt);show S (offP m (k+1)) z2;rw[offP_next hx,hgx];exact hz2
   ·rintro  z2 hz2;refine rX tb 2 U (q_round_ret (z2) ?_ sbt);exact hz2
   ·exact fun _ _ h=>h.elim
 ·rintro D0 z hz;refine rX tb 1 U (q_mark_end ?_);refine Kb U .nil ?_;exact⟨z, .inl (by rw[← offP_all];exact hz),by exact sbt⟩
 ·rintro D0 z hz;refine rX tb 1 U (q_mark_ret ?_);refine Ak U .nil ?_;exact⟨z, .inr hz,by exact sbt⟩
 ·exact fun _ _ _ h=>h.elim
theorem prd_mk {w0:World}{H:List (Nat × Obj)}(m:Pom):
  FSpec Tryz.prog w0 114 #[.agg (encPo m).toArray] H (fun u H'=>∃ b:Nat,u= .func (.func 153) #[] #[.pointer (some ⟨b,0,none⟩)]∧H'=(b,Cl (encPo m) 28)::H):=by
 refine Au Tryz.func114 U ntmps114 U (rD tb 2 U (e_ (Nr U cs_) ?_ U));rintro _ _ ⟨n1,rfl,rfl⟩;refine rO tb 5 U (y_ (Bs (.cons (T U) .nil)) (rO tb 4 U (Ak U (Nk U) ?_)) U);exact⟨_,⟨n1,rfl,rfl⟩,by exact sbt⟩
theorem ybs109_1_0 (a0:Int)(w:World):(Instr.buildSlice 109 1 #[(0, .int .i64 a0)]).run Tryz.prog w= .ok (.slice (some ⟨w.heap.size,0,none⟩) 1 1) (w.alloc (Cl [.int .i64 a0] 3)):=by kernel_rfl
abbrev encZI (k:Int):Value:= .int .i64 k
abbrev encTB (b:Bool):Value:= .bool b
theorem keyZ {V:Type}:KeyOk (V:=V) Tryz.prog 3 encZI:=keyOk_now runUnderlying3 (fun b k w=>by cases b<;>kernel_rfl) (fun k k'=>by
 by_cases h:k'=k
 ·subst h;simp[Instr.sameNow]
 ·have: ¬ k=k':=fun e=>h e.symm
  simp[Instr.sameNow,h,this]) (fun k=>by simp[Instr.sameBits])
abbrev TkL:=List (Int × Bool)
def tkAt (pl:TkL) (seen:List Nat):List Int:=seen.map fun i=>(gd pl i).1
def TkSt (pl:TkL) (k:List Int) (_:Int):Prop:=k.length<pl.length
def TkEn (pl:TkL) (k:List Int):Prop:=∃ seen:List Nat,seen.Nodup∧(∀ i,i∈seen↔i<pl.length)∧k=tkAt pl seen
theorem Ku:∀ {n:Nat} {seen:List Nat},seen.Nodup→(∀ i∈seen,i<n)→seen.length≤n
 |0,seen,_,hs=>by
  cases seen with
  |nil=>simp
  |cons a l=>have:=hs a (by simp);omega
 |n+1,seen,hn,hs=>by
  by_cases hm:n∈seen
  ·have h1:=Ku (n:=n) (seen:=seen.erase n) (hn.erase n) (fun i hi=>by
    have h2:=hs i (List.mem_of_mem_erase hi);have h3:i≠n:=by rintro rfl;exact(List.Nodup.not_mem_erase hn) hi
    omega)
   rw[List.length_erase_of_mem hm] at h1;omega
  ·have:=Ku (n:=n) hn (fun i hi=>by
    have h2:=hs i hi;have h3:i≠n:=by rintro rfl;exact hm hi
    omega)
   omega
theorem seen_lt {n i:Nat}{seen:List Nat}(hn:seen.Nodup)(hs:∀ i∈seen,i<n)(hi:i∉seen)(hl:i<n):seen.length<n:=by
 have:=Ku (n:=n) (seen:=i::seen) (List.nodup_cons.2 ⟨hi,hn⟩) (fun j hj=>by rcases List.mem_cons.1 hj with rfl|h;exact hl;exact hs j h);simp at this;omega
theorem tkeys_s {w0:World}{H:List (Nat × Obj)}(r:Nat):
  FSpec Tryz.prog w0 116 #[.map (some r)] H (fun v H'=>∃ n1:Nat,v= .func (.func 157) #[] #[.pointer (some ⟨n1,0,none⟩)]∧H'=(n1,Cl [.map (some r)] 167)::H):=by
 refine Au Tryz.func116 U ntmps116 U (rD tb 2 U (e_ (Nr U cs_) ?_ U));rintro _ _ ⟨n1,rfl,rfl⟩;refine rO tb 5 U (y_ (Bs (.cons (T U) .nil)) (rO tb 4 U (Ak U (Nk U) ?_)) U);exact⟨_,⟨n1,rfl,rfl⟩,by exact sbt⟩
theorem tkeys_it {w0:World}{Hc:List (Nat × Obj)}(n1 r:Nat)(pl:TkL)(h1:Fnd Hc n1 (Cl [.map (some r)] 167))(h2:Fnd Hc r (mapO encZI encTB pl)):
  IterSpecD Tryz.prog w0 157 [.pointer (some ⟨n1,0,none⟩)] Hc encI (TkSt pl) (TkEn pl):=by
 intro l S Sx hHc hY H0 hS0;have hY0:=fun k x H a b hx hS=>YSpec.mono (hY k x H [a,b] hx hS) (K':=fun v H'=>∃ H1,H'=a::b::H1∧((v= .bool true∧S (k++[x]) H1)∨(v= .bool false∧Sx H1))) (by rintro v _ ⟨H1,rfl,h⟩;exact⟨H1,rfl,h⟩)
 have hY1:=fun k x H a hx hS=>YSpec.mono (hY k x H [a] hx hS) (K':=fun v H'=>∃ H1,H'=a::H1∧((v= .bool true∧S (k++[x]) H1)∨(v= .bool false∧Sx H1))) (by rintro v _ ⟨H1,rfl,h⟩;exact⟨H1,rfl,h⟩)
 show FSpec Tryz.prog w0 157 #[.func (.yield l) #[] #[], .pointer (some ⟨n1,0,none⟩)] H0 _;refine Au Tryz.func157 U ntmps157 U (rD tb 2 U (y_ (Nl U isAgg167 (by first|exact c_o|exact(Cell.mono (w0:=w0) (c_o (i:=0) (hf:=h1)) (List.Sublist.trans (hHc _ _ hS0) sbt)))) ?_ U));refine e_ (eff_rangeMap (m:=r) (l:=pl) (encK:=encZI) (encV:=encTB) (T U) ((hHc _ _ hS0).subset h2) runUnderlying167) ?_ U;rintro _ _ ⟨n5,rfl,rfl⟩;refine rO tb 3 U ?_;refine Bj (X:=List Nat × List (Nat × Obj)) (V:=fun ⟨seen,Hx⟩=>[]) (C:=[(0,_),(5,_)]) (G:=fun ⟨seen,Hx⟩=>(n5,itO r pl.length seen pl.length)::Hx) (φ:=fun ⟨seen,Hx⟩=>S (tkAt pl seen) Hx∧seen.Nodup∧∀ i∈seen,i<pl.length) (μ:=fun ⟨seen,Hx⟩=>pl.length - seen.length) (x0:=([],H0)) ?_ ⟨Aa rfl,Aa rfl,trivial⟩ trivial (List.Sublist.refl _) ?_
 ·exact⟨hS0,by simp,by simp⟩
 rintro⟨seen,Hx⟩ ⟨hS,hnd,hlt⟩;have hr:Fnd Hx r (mapO encZI encTB pl):=(hHc _ _ hS).subset h2;refine rD tb 2 U ?_;refine e_ (eff_next (m:=r) (l:=pl) (encK:=encZI) (encV:=encTB) (T U) (by repeat (first|exact hr|exact Am|refine Ar ?_)) (by repeat (first|exact Loc.h|apply Loc.t))) ?_ U;rintro _ _ (⟨i,p,hip,hni,rfl,rfl⟩|⟨hall,rfl,rfl⟩)
 ·refine rO tb 4 U ?_
  first|refine B8 (Aa U) ?_|refine B8 (Ag (Aa U) (vbool (decide_eq_true c7))) ?_
  refine rC tb 5 U ?_;refine y_ (yl_entry (m:=r) (l:=pl) (encK:=encZI) (encV:=encTB) (T U) (by repeat (first|exact hr|exact Am|refine Ar ?_)) (by repeat (first|exact Am|refine Ar ?_)) hip) ?_ U;refine rO tb 8 U ?_;refine e_ (H7 (T U) (.cons (T U) .nil) (hY1 (tkAt pl seen) p.1 Hx _ (by have:=seen_lt hnd hlt hni (List.getElem?_eq_some_iff.1 hip).1;simpa[TkSt,tkAt] using this) hS)) ?_ U;rintro _ _ ⟨H1,rfl,(⟨rfl,hS1⟩|⟨rfl,hSx⟩)⟩
  ·refine y_ (B1 (T U)) (rO tb 2 U ?_) U
   first|refine Co (Aa U) ?_|refine Co (Ag (Aa U) (vbool (decide_eq_false c13))) ?_
   refine rC tb 2 U ?_;have hil:=(List.getElem?_eq_some_iff.1 hip).1;have hgp:(gd pl i).1=p.1:=by rw[Ce hil] at hip;simp at hip;rw[hip]
   have hsl:=seen_lt hnd hlt hni hil;refine A6 ((seen++[i],H1)) ?_ ?_ trivial ⟨Aa U,Aa U,trivial⟩ ?_
   ·refine⟨by unfold tkAt at *;rw[List.map_append];simpa[hgp] using hS1,?_,fun j hj=> ?_⟩
    ·rw[List.nodup_append];exact⟨hnd,by simp,by intro a ha b hb;simp at hb;subst hb;rintro rfl;exact hni ha⟩
    ·rcases List.mem_append.1 hj with h|h
     ·exact hlt j h
     ·simp at h;subst h;exact hil
   ·show pl.length - (seen++[i]).length<_;simp;omega
   ·exact sbt
  ·refine y_ (B1 (T U)) (rO tb 2 U ?_) U
   first|refine B8 (Aa U) ?_|refine B8 (Ag (Aa U) (vbool (decide_eq_true c13))) ?_
   refine rC tb 2 U (Bc (rX tb 1 U (Ak U .nil ?_)));exact⟨H1, .inr hSx,by exact sbt⟩
 ·refine rO tb 4 U ?_
  first|refine Co (Aa U) ?_|refine Co (Ag (Aa U) (vbool (decide_eq_false c7))) ?_
  refine rC tb 2 U (Ax (rX tb 1 U (Kb U .nil ?_)));exact⟨Hx, .inl ⟨_,⟨seen,hnd,fun i=>⟨fun h=>hlt i h,hall i⟩,rfl⟩,hS⟩,by exact sbt⟩
theorem tapp_s {w0:World}{H:List (Nat × Obj)}(n1 r:Nat)(pl:TkL)(h1:Fnd H n1 (Cl [.map (some r)] 167))(h2:Fnd H r (mapO encZI encTB pl))(hpl:pl.length≤100000):
  FSpec Tryz.prog w0 191 #[.slice none 0 0, .func (.func 157) #[] #[.pointer (some ⟨n1,0,none⟩)]] H (fun v H'=>∃ (d:Sl) (ks:List Int),v=slV d ks.length∧SlOk d ks.length 1∧TkEn pl ks∧H'=slH d (ks.flatMap encI) 3++H):=by
 refine Au Tryz.func191 U ntmps191 U (rD tb 2 U (e_ (Nr U cs_) ?_ U));rintro _ _ ⟨n2,rfl,rfl⟩;refine rO tb 10 U ?_;refine j_rangeD (Z:=Sl × Nat × List Int) (T rfl) call157 (tkeys_it n1 r pl h1 h2) (fun _=>rfl) rfl (fun ⟨d,c,l⟩=>slH d (l.flatMap encI) 3++((n2,Cl [slV d c] 109)::H)) (fun k ⟨d,c,l⟩=>c=l.length∧l=k∧SlOk d l.length 1) (fun ⟨d,c,l⟩=>False) (fun _ ⟨d,c,l⟩=>False) ((.nil,0,[])) ?_ sbt ?_ ?_ ?_ ?_ ?_
 ·exact⟨rfl,rfl,rfl⟩
 ·rintro⟨d,c,l⟩;exact sbt
 ·rintro l lr Y X k x1 ⟨d,c,l⟩ hl hx ⟨rfl,hll,hok⟩;have hlb:l.length<pl.length:=by rw[hll];exact hx
  refine Iw [(2,_),(7,_)] ⟨Aa U,Aa U,trivial⟩ (rD tb 3 U (H8 hl ?_));refine rD tb 2 U (y_ (Nl U isAgg109 (by first|exact c_o)) ?_ U);refine rO tb 1 U (e_ (Br (.cons (T U) .nil) (ybs109_1_0 _)) ?_ U);rintro _ _ ⟨n10,rfl,rfl⟩;refine e_ (Cu (x1) (by':=8) qlc (T U) (T U) runUnderlying109 runUnderlying109 sizeOf3 typeInfo3 U zeroValue3 U (fun _=>rfl) U hok qde qom) ?_ U;rintro _ _ ⟨d',rfl,hok',rfl⟩
  first|refine A5 (Nq U U sizeOf109) U Ac ?_|refine A5 (B4 (T U) (T U) U sizeOf109) U Ac ?_|refine A5 (Bi (T U) (T U) U sizeOf109) U Ac ?_
  rintro _ _ ⟨rfl,rfl⟩;refine rO tb 2 U (Ia ((d',l.length+1,l++[x1])) ?_ sbt);exact⟨by simp,by rw[hll],by simpa using hok'⟩
 ·rintro D0 ⟨d,c,l⟩ kk hEn ⟨rfl,hll,hok⟩;refine rX tb 4 U (y_ (Nl U isAgg109 (by first|exact c_o)) ?_ U);refine rO tb 4 U (q_mark_ret ?_);refine Ak U (Nk U) ?_;exact⟨_,⟨d,l,rfl,hok,hll ▸ hEn,rfl⟩,by exact sbt⟩
 ·exact fun _ _ h=>h.elim
 ·exact fun _ _ _ h=>h.elim
theorem tcoll_s {w0:World}{H:List (Nat × Obj)}(n1 r:Nat)(pl:TkL)(h1:Fnd H n1 (Cl [.map (some r)] 167))(h2:Fnd H r (mapO encZI encTB pl))(hpl:pl.length≤100000):
  FSpec Tryz.prog w0 156 #[.func (.func 157) #[] #[.pointer (some ⟨n1,0,none⟩)]] H (fun v H'=>∃ (d:Sl) (ks:List Int),v=slV d ks.length∧SlOk d ks.length 1∧TkEn pl ks∧H'=slH d (ks.flatMap encI) 3++H):=by
 refine Au Tryz.func156 U ntmps156 U (rD tb 8 U (e_ (Al (.cons An (.cons (T U) .nil)) call191 (tapp_s _ r pl h1 h2 hpl)) ?_ U));rintro _ _ ⟨d,ks,rfl,hok,hen,rfl⟩;refine rO tb 4 U (Ak U (Nk U) ?_);exact⟨_,⟨d,ks,rfl,hok,hen,rfl⟩,by exact sbt⟩
theorem tk_len {pl:TkL}{ks:List Int}(h:TkEn pl ks):ks.length≤pl.length:=by
 obtain⟨seen,h1,h2,rfl⟩:=h;unfold tkAt;rw[List.length_map];exact Ku h1 fun i hi=>(h2 i).1 hi
theorem tk_mem {pl:TkL}{ks:List Int}(h:TkEn pl ks)(x:Int):x∈ks↔∃ b,(x,b)∈pl:=by
 obtain⟨seen,h1,h2,rfl⟩:=h;unfold tkAt;rw[List.mem_map]
 constructor
 ·rintro⟨i,hi,rfl⟩;exact⟨(gd pl i).2,Ba ((h2 i).1 hi)⟩
 ·rintro⟨b,hb⟩;obtain⟨i,hi,e⟩:=List.getElem_of_mem hb;exact⟨i,(h2 i).2 hi,by rw[Az hi,e]⟩
theorem tsorted_s {w0:World}{H:List (Nat × Obj)}(n1 r:Nat)(pl:TkL)(h1:Fnd H n1 (Cl [.map (some r)] 167))(h2:Fnd H r (mapO encZI encTB pl))(hpl:pl.length≤100000):
  FSpec Tryz.prog w0 115 #[.func (.func 157) #[] #[.pointer (some ⟨n1,0,none⟩)]] H (fun v H'=>∃ (d:Sl) (ks:List Int),v=slV d (srtI ks).length∧SlOk d (srtI ks).length 1∧TkEn pl ks∧H'=slH d ((srtI ks).flatMap encI) 3++H):=by
 refine Au Tryz.func115 U ntmps115 U (rD tb 8 U (e_ (Al (qe1 U) call156 (tcoll_s _ r pl h1 h2 hpl)) ?_ U));rintro _ _ ⟨d,ks,rfl,hok,hen,rfl⟩;have hkl:=tk_len hen;have hsl:(srtI ks).length=ks.length:=by simp[srtI]
 refine rO tb 6 U (e_ (Al (qe1 U) call134 (sort_s d ks hok qom)) ?_ U);rintro _ _ ⟨rfl,rfl⟩;refine rO tb 9 U (Ak U (Nk U) ?_);exact⟨_,⟨d,ks,by rw[hsl];rfl,by rw[hsl];exact hok,hen,rfl⟩,by exact sbt⟩
def loopDQ (w0:World) {X:Type} (V:X→Fm) (G:X→List (Nat × Obj)) (D:X→List Deferred) (φ:X→Prop) (μ:X→Nat) (m:Nat) (Q:Post):Post
 | .normal,σ,ds',w=>∃ x b,ds'=D x∧φ x∧μ x<m∧σ=lk (V x) b∧Own w0 (G x) w
 |e,σ,ds',w=>Q e σ ds' w
section
variable {P:Program} {r:Option Nat} {N:Nat} {w0:World} {Q:Post} {L:Fm} {ds:List Deferred} {H:List (Nat × Obj)}
theorem j_loopD {c:Code}{X:Type}(V:X→Fm)(G:X→List (Nat × Obj))(D:X→List Deferred)(φ:X→Prop)(μ:X→Nat)(x0:X)(h0:φ x0)(hV:Agree (V x0) L)(hG:(G x0).Sublist H)(hD:D x0=ds)
  (round:∀ x,φ x→J P r N w0 c (loopDQ w0 V G D φ μ (μ x) Q) (V x) (D x) (G x)):J P r N w0 (.loop c) Q L ds H:=fun b w hO a hs hf hd=>by
 classical
 let I:Nat→Act→World→Prop:=fun m a w=>a.tmps.size=N∧∃ x b,a.defers=D x∧φ x∧μ x=m∧fr a=lk (V x) b∧Own w0 (G x) w
 have hle:∀ {a w},(∃ m,I m a w)→∃ m,I m a w∧∀ m',I m' a w→m≤m':=fun ⟨_,h⟩=>least_ex (I:=fun m=>I m _ _) h
 let μ':Act→World→Nat:=fun a w=>if h:∃ m,I m a w then (hle h).choose else 0
 refine wpIn_loop (fun a w=>∃ m,I m a w) μ' ⟨μ x0,hs,x0,lk L b,by rw[hd,hD],h0,rfl,by rw[hf,Dk hV],hO.sub hG⟩ ?_;intro a w hI;have hm:I (μ' a w) a w:=by
  have:μ' a w=(hle hI).choose:=dif_pos hI;rw[this];exact(hle hI).choose_spec.1
 obtain⟨hs',x,b',hd',hx,hmx,hfx,hOx⟩:=hm;refine wpIn_mono (round x hx b' w hOx a hs' hfx hd') ?_;intro e a' w' hq;cases e with
 |normal=>
  obtain⟨hs2,x2,b2,hd2,h2,hlt,hf2,hO2⟩:=hq;have hI2:∃ m,I m a' w':=⟨μ x2,hs2,x2,b2,hd2,h2,rfl,hf2,hO2⟩;refine⟨hI2,?_⟩;have e2:μ' a' w'=(hle hI2).choose:=dif_pos hI2;have:=(hle hI2).choose_spec.2 (μ x2) ⟨hs2,x2,b2,hd2,h2,rfl,hf2,hO2⟩;rw[e2];omega
 |_=>exact hq
theorem j_loopDC {c:Code}{X:Type}(V:X→Fm)(C:Fm)(G:X→List (Nat × Obj))(D:X→List Deferred)(φ:X→Prop)(μ:X→Nat)(x0:X)(h0:φ x0)(hC:Agree C L)(hV:Agree (V x0) L)(hG:(G x0).Sublist H)
  (round:∀ x,φ x→J P r N w0 c (loopDQ w0 (fun x=>V x++C) G D φ μ (μ x) Q) (V x++C) (D x) (G x)) (hD:D x0=ds:=by rfl):J P r N w0 (.loop c) Q L ds H:=
 j_loopD (fun x=>V x++C) G D φ μ x0 h0 (E8 hV hC) hG hD round
theorem q_loopDC {X:Type}{V:X→Fm}{C:Fm}{G:X→List (Nat × Obj)}{D:X→List Deferred}{φ:X→Prop}{μ:X→Nat}{m:Nat}(x:X)(hφ:φ x)(hμ:μ x<m)(hV:Agree (V x) L)(hC:Agree C L)(hG:(G x).Sublist H)(hD:ds=D x:=by rfl):JQ w0 (loopDQ w0 (fun x=>V x++C) G D φ μ m Q) .normal L ds H:=
 fun b w hO=>⟨x,lk L b,hD,hφ,hμ,(Dk (E8 hV hC)).symm,hO.sub hG⟩
theorem q_loopD_exit {X:Type}{V:X→Fm}{G:X→List (Nat × Obj)}{D:X→List Deferred}{φ:X→Prop}{μ:X→Nat}{m:Nat}{id:Nat}(h:JQ w0 Q (.exit id) L ds H):JQ w0 (loopDQ w0 V G D φ μ m Q) (.exit id) L ds H:=h
abbrev mkD (Ds:List Nat):List Deferred:=Ds.map fun D=>{target:= .collected D,args:= #[]}
abbrev mkM (Ds:List Nat):List (Nat × Obj):=Ds.map fun D=>(D,Obj.deferred (some []))
theorem q_retM {fn:Func}{K:Value→List (Nat × Obj)→Prop}{rs:List ResultVar}{vs:List Value}(hr:fn.results=rs.toArray)(h:ResV P w0 L H rs vs)(hK:∃ H',K (resOf vs) H'∧H'.Sublist H):∀ (Ds:List Nat),JQ w0 (retQ P fn w0 K) .ret L (mkD Ds) (mkM Ds++H)
 |[]=>Ak hr h hK
 |D::Ds=>q_mark_ret (H':=(D,Obj.deferred none)::(mkM Ds++H)) (fun b w hO=>q_retM hr h hK Ds b w (hO.sub (List.Sublist.cons _ (List.Sublist.refl _)))) .h
theorem perm_mk {A B C:List (Nat × Obj)}{x:Nat × Obj}:(A++(x::(B++C))).Perm (B++(A++(x::C))):=by
 have h1:(x::(B++C)).Perm (B++(x::C)):=(List.perm_middle (l₁:=B) (a:=x) (l₂:=C)).symm;have h2:(A++(B++(x::C))).Perm (B++(A++(x::C))):=by
  rw[← List.append_assoc,← List.append_assoc];exact List.Perm.append_right _ List.perm_append_comm
 exact(List.Perm.append_left A h1).trans h2
theorem q_retMP {fn:Func}{K:Value→List (Nat × Obj)→Prop}{rs:List ResultVar}{vs:List Value}{A C:List (Nat × Obj)}{x:Nat × Obj}(Ds:List Nat)(hr:fn.results=rs.toArray)(h:ResV P w0 L (A++(x::C)) rs vs)(hK:∃ H',K (resOf vs) H'∧H'.Sublist (A++(x::C))):JQ w0 (retQ P fn w0 K) .ret L (mkD Ds) (A++(x::(mkM Ds++C))):=
 jq_perm perm_mk (q_retM hr h hK Ds)
end
abbrev encSt (m:Pom):List Value:=encPo m++[.int .i64 0, .string ⟨#[]⟩, .slice none 0 0, .string ⟨#[]⟩, .int .i64 0, .int .i64 0]
def stepB (l:TkL) (x:Pdm):TkL:=if x.kind=9 then upsert (upsert l x.val true) x.to true else l
def tickB (ms:List Pom):TkL:=(ms.flatMap prdF).foldl stepB []
theorem ups_len {l:TkL}{k:Int}{v:Bool}:(upsert l k v).length≤l.length+1:=by
 induction l with
 |nil=>simp[upsert,findI]
 |cons e l ih=>rw[Eu];split<;>simp<;>omega
theorem ups_mem {l:TkL}{k:Int}{v:Bool}(x:Int):(∃ b,(x,b)∈upsert l k v)↔x=k∨∃ b,(x,b)∈l:=by
 induction l with
 |nil=>simp[upsert,findI]
 |cons e l ih=>
  rw[Eu];obtain⟨e1,e2⟩:=e
  by_cases h:e1=k
  ·subst h;simp only[if_true,List.mem_cons,Prod.mk.injEq]
   constructor
   ·rintro⟨b,⟨rfl,_⟩|hb⟩
    ·exact .inl U
    ·exact .inr ⟨b, .inr hb⟩
   ·rintro(rfl|⟨b,⟨rfl,_⟩|hb⟩)
    ·exact⟨v, .inl ⟨rfl,rfl⟩⟩
    ·exact⟨v, .inl ⟨rfl,rfl⟩⟩
    ·exact⟨b, .inr hb⟩
  ·simp only[if_neg h,List.mem_cons,Prod.mk.injEq]
   constructor
   ·rintro⟨b,⟨rfl,rfl⟩|hb⟩
    ·exact .inr ⟨_, .inl ⟨rfl,rfl⟩⟩
    ·rcases ih.1 ⟨b,hb⟩ with rfl|⟨b2,hb2⟩
     ·exact .inl U
     ·exact .inr ⟨b2, .inr hb2⟩
   ·rintro(rfl|⟨b,⟨rfl,rfl⟩|hb⟩)
    ·obtain⟨b,hb⟩:=ih.2 (.inl rfl);exact⟨b, .inr hb⟩
    ·exact⟨_, .inl ⟨rfl,rfl⟩⟩
    ·obtain⟨b2,hb2⟩:=ih.2 (.inr ⟨b,hb⟩);exact⟨b2, .inr hb2⟩
theorem ups_nd {l:TkL}{k:Int}{v:Bool}(h:(l.map (·.1)).Nodup):((upsert l k v).map (·.1)).Nodup:=by
 induction l with
 |nil=>simp[upsert,findI]
 |cons e l ih=>
  rw[Eu];obtain⟨e1,e2⟩:=e;rw[List.map_cons,List.nodup_cons] at h
  by_cases hk:e1=k
  ·subst hk;rw[if_pos rfl,List.map_cons,List.nodup_cons];exact h
  ·rw[if_neg hk,List.map_cons,List.nodup_cons];refine⟨fun hm=> ?_,ih h.2⟩;obtain⟨⟨a,b⟩,hb,e⟩:=List.mem_map.1 hm;have e:a=e1:=e;subst e;rcases(ups_mem a).1 ⟨b,hb⟩ with rfl|⟨b2,hb2⟩
   ·exact hk U
   ·exact h.1 (List.mem_map.2 ⟨_,hb2,rfl⟩)
theorem fold_len:∀ (xs:List Pdm) (l:TkL),(xs.foldl stepB l).length≤l.length+2*xs.length
 |[],l=>by simp
 |x::xs,l=>by
  rw[List.foldl_cons];have h1:=fold_len xs (stepB l x);have h2:(stepB l x).length≤l.length+2:=by
   unfold stepB
   split
   ·have a:=ups_len (l:=l) (k:=x.val) (v:=true);have b:=ups_len (l:=upsert l x.val true) (k:=x.to) (v:=true);omega
   ·omega
  rw[List.length_cons];omega
theorem fold_nd:∀ (xs:List Pdm) {l:TkL},(l.map (·.1)).Nodup→((xs.foldl stepB l).map (·.1)).Nodup
 |[],l,h=>h
 |x::xs,l,h=>by
  rw[List.foldl_cons];refine fold_nd xs ?_;unfold stepB
  split
  ·exact ups_nd (ups_nd h)
  ·exact h
theorem fold_mem:∀ (xs:List Pdm) (l:TkL) (x:Int),(∃ b,(x,b)∈xs.foldl stepB l)↔(∃ t∈xs,t.kind=9∧(x=t.val∨x=t.to))∨∃ b,(x,b)∈l
 |[],l,x=>by simp
 |t::xs,l,x=>by
  rw[List.foldl_cons,fold_mem xs];have e:(∃ b,(x,b)∈stepB l t)↔(t.kind=9∧(x=t.val∨x=t.to))∨∃ b,(x,b)∈l:=by
   unfold stepB
   split
   ·rename_i h;rw[ups_mem,ups_mem]
    constructor
    ·rintro(rfl|rfl|h2)
     ·exact .inl ⟨h, .inr U⟩
     ·exact .inl ⟨h, .inl U⟩
     ·exact .inr h2
    ·rintro(⟨_,rfl|rfl⟩|h2)
     ·exact .inr (.inl U)
     ·exact .inl U
     ·exact .inr (.inr h2)
   ·rename_i h;exact⟨.inr,fun k=>k.elim (fun k=>absurd k.1 h) id⟩
  rw[e]
  constructor
  ·rintro(⟨s,hs,k⟩|k|k)
   ·exact .inl ⟨s,by simp[hs],k⟩
   ·exact .inl ⟨t,by simp,k⟩
   ·exact .inr k
  ·rintro(⟨s,hs,k⟩|k)
   ·rcases List.mem_cons.1 hs with rfl|hs
    ·exact .inr (.inl k)
    ·exact .inl ⟨s,hs,k⟩
   ·exact .inr (.inr k)
mutual
theorem prd_len:∀ m:Pom,(prdF m).length≤m.nd
 | .mk k p s n q c xs=>by
  have h:=prdL_len xs;rw[Lk];unfold prdF;rw[Eh,List.flatMap_cons,List.length_append];show (gPr _).length+((prtOL xs).flatMap gPr).length≤1+(if k=1 then p.sz else 0)+ndOL xs;have h2:(gPr (.mk k p s n q c xs)).length=if k=1 then p.sz else 0:=by
   unfold gPr;show (if k=1 then prtP p else []).length=_
   split
   ·exact Jr p
   ·rfl
  rw[h2];omega
theorem prdL_len:∀ l:List Pom,((prtOL l).flatMap gPr).length≤ndOL l
 |[]=>by simp[prtOL]
 |x::l=>by
  have h1:=prd_len x;have h2:=prdL_len l;rw[prtOL,List.flatMap_append,List.length_append,ndOL];unfold prdF at h1;omega
end
theorem prds_len {ms:List Pom}(h:∀ m∈ms,m.nd≤1000):(ms.flatMap prdF).length≤1000*ms.length:=by
 induction ms with
 |nil=>simp
 |cons m ms ih=>
  have h1:=h m (by simp);have h2:=prd_len m;have h3:=ih fun x hx=>h x (by simp[hx])
  rw[List.flatMap_cons,List.length_append,List.length_cons];omega
structure Tks (ms:List Pom) (l:List Int):Prop where
 up:l.Pairwise (· < ·)
 mem:∀ x,x∈l↔∃ t∈ms.flatMap prdF,t.kind=9∧(x=t.val∨x=t.to)
 len:l.length≤32000
theorem tks_of {ms:List Pom}{ks:List Int}(h:TkEn (tickB ms) ks)(hl:(tickB ms).length≤32000):Tks ms (srtI ks):=by
 have hnd:ks.Nodup:=by
  obtain⟨seen,h1,h2,rfl⟩:=h;have h3:((tickB ms).map (·.1)).Nodup:=fold_nd _ (by simp);refine List.pairwise_map.2 (List.Pairwise.imp_of_mem ?_ h1);intro i j hi hj hne e;have hi:=(h2 i).1 hi;have hj:=(h2 j).1 hj;have h4:=List.pairwise_iff_getElem.1 h3;rw[Az hi,Az hj] at e;rcases Nat.lt_trichotomy i j with k|k|k
  ·exact h4 i j (by simpa using hi) (by simpa using hj) k (by simpa using e)
  ·exact hne k
  ·exact h4 j i (by simpa using hj) (by simpa using hi) k (by simpa using e.symm)
 refine⟨?_,fun x=> ?_,?_⟩
 ·have h1:=List.pairwise_mergeSort (le:=fun (x y:Int)=>decide (x≤y)) (fun a b c h1 h2=>by simp at *;omega) (fun a b=>by simp;omega) ks;have h2:(srtI ks).Nodup:=(List.mergeSort_perm ks _).nodup_iff.2 hnd;exact(h1.and h2).imp fun ⟨a,b⟩=>by simp at a;omega
 ·rw[List.mem_mergeSort,tk_mem h,tickB,fold_mem];simp
 ·have:=tk_len h;show (ks.mergeSort _).length≤_;rw[List.length_mergeSort];omega
theorem st_po {w0:World}{H:List (Nat × Obj)}{n:Nat}{t:TypeId}{m:Pom}(h:Fnd H n (Cl (encSt m) t)):Cells w0 H n 0 (encPo m):=fun i v hi=>Af h i v (by rw[List.getElem?_append_left (by exact(List.getElem?_eq_some_iff.1 hi).1)];exact hi)
theorem take_next {α:Type}{l:List α}{k:Nat}{x:α}(hx:l[k]? =some x):l.take (k+1)=l.take k++[x]:=by
 obtain⟨hk,e⟩:=List.getElem?_eq_some_iff.1 hx;rw[List.take_succ_eq_append_getElem hk,e]
theorem bnds_s {w0:World}{H:List (Nat × Obj)}(ms:List Pom)(q:Option Addr)(c:Nat)(hA:Arr w0 H q 15 encSt ms)(hM:∀ m∈ms,PoM w0 H m∧m.sz≤1000000000∧m.nd≤1000)(hlen:ms.length≤16):
  FSpec Tryz.prog w0 73 #[.slice q ms.length c] H (fun u H'=>∃ (d:Sl) (l:List Int),u=slV d l.length∧SlOk d l.length 1∧Tks ms l∧H'=slH d (l.flatMap encI) 3++H):=by
 refine Au Tryz.func73 U ntmps73 U (rD tb 7 U (e_ Dl ?_ U));rintro _ _ ⟨n7,rfl,rfl⟩;refine e_ (Ai zeroValue167 cs_) ?_ U;rintro _ _ ⟨n3,rfl,rfl⟩
 first|refine A5 (Nq U U sizeOf167) U Ac ?_|refine A5 (B4 (T U) (T U) U sizeOf167) U Ac ?_|refine A5 (Bi (T U) (T U) U sizeOf167) U Ac ?_
 rintro _ _ ⟨rfl,rfl⟩;refine rO tb 11 U ?_;refine j_loopDC (D:=fun ⟨i,l,Ds⟩=>mkD Ds) (X:=Nat × TkL × List Nat) (V:=fun ⟨i,l,Ds⟩=>[(10, .int .i64 (i:Nat))]) (C:=[(2,_),(3,_),(8,_),(9,_)]) (G:=fun ⟨i,l,Ds⟩=>mkM Ds++((n3,Cl [.map (some n7)] 167)::(n7,mapO encZI encTB l)::H)) (φ:=fun ⟨i,l,Ds⟩=>i≤ms.length∧l=((ms.take i).flatMap prdF).foldl stepB []) (μ:=fun ⟨i,l,Ds⟩=>ms.length - i) (x0:=(0,[],[])) ?_ ⟨Aa rfl,Aa rfl,Aa rfl,Aa rfl,trivial⟩ ⟨atd,trivial⟩ (List.Sublist.refl _) ?_
 ·exact⟨Nat.zero_le _,rfl⟩
 rintro⟨i,l,Ds⟩ ⟨hi,hl⟩;refine rD tb 6 U ?_
 first|refine Ae (Aa U) (fun c11=> ?_) (fun c11=> ?_)|refine Ah (Aa U) (fun c11=> ?_) (fun c11=> ?_)
 ·have hi2:i<ms.length:=by have h9:((i:Nat):Int)<(ms.length:Nat):=c11;omega
  have hmi:=hM _ (Ba hi2);refine rC tb 6 U (y_ (Np U U runUnderlying117 sizeOf115 (by have h9:((i:Nat):Int)<(ms.length:Nat):=c11;omega) (by first|exact rfl|exact hA.b (i:=i) hi2)) ?_ U);refine y_ (Nn U isAgg115 sizeOf115 U (by first|exact(hA.mono (by exact sbt)).cs (i:=i) hi2|exact As)) ?_ U;refine e_ (Ai zeroValue115 cs_) ?_ U;rintro _ _ ⟨n5,rfl,rfl⟩
  first|refine A5 (Nq U U sizeOf115) U Ac ?_
  rintro _ _ ⟨rfl,rfl⟩;refine rO tb 5 U ?_;refine y_ (Nn U isAgg28 sizeOf28 U (by first|exact st_po fdd|exact As)) ?_ U;refine e_ (Al (qe1 U) call114 (prd_mk (gd ms i))) ?_ U;rintro _ _ ⟨b,rfl,rfl⟩;refine rO tb 3 U ?_;refine j_range (Z:=TkL) (T U) call153 (prd_it (Hc:=(b,Cl (encPo (gd ms i)) 28)::H) (gd ms i) hmi.2.1 (hmi.1.mono (List.Sublist.cons _ (List.Sublist.refl _))) Am) (fun _=>rfl) U (fun z=>(b,Cl (encPo (gd ms i)) 28)::(n5,Cl (encSt (gd ms i)) 115)::(mkM Ds++((n3,Cl [.map (some n7)] 167)::(n7,mapO encZI encTB z)::H))) (fun k z=>z=((prdF (gd ms i)).take k).foldl stepB l) (fun z=>False) (fun _ z=>False) (l) ?_ sbt ?_ ?_ ?_ ?_ ?_
  ·rfl
  ·exact fun z=>List.Sublist.cons_cons _ (by exact sbt)
  ·rintro l lr Y X k y z hl hx hz;refine Iw [(3,_),(17,_)] ⟨Aa U,Aa U,trivial⟩ (rD tb 1 U (e_ (Ai zeroValue25 cs_) ?_ U));rintro _ _ ⟨n6,rfl,rfl⟩
   first|refine A5 (Nq U U sizeOf25) U Ac ?_
   rintro _ _ ⟨rfl,rfl⟩;refine rO tb 1 U (H8 hl ?_);refine rD tb 4 U ?_;refine y_ (Nl U isAgg3 (by first|exact c_o|exact Af fdd 0 _ U)) ?_ U;refine rO tb 3 U ?_
   first|refine Ae (Aa U) (fun c20=> ?_) (fun c20=> ?_)|refine Ah (Aa U) (fun c20=> ?_) (fun c20=> ?_)
   ·refine Bk 7 [(0,true),(1,true),(2,true),(3,true),(4,true),(5,true),(6,false)] ((n6,Cl (encPd y) 25)::(n3,Cl [.map (some n7)] 167)::H) mixd qkr (by exact sbt) ?_ Bp;refine o_y U (Nl U isAgg167 (by first|exact c_o|exact Af fdd 0 _ U)) ?_ U Ac;refine rP tb 1 U ?_;refine o_y U (Nl U isAgg3 (by first|exact c_o|exact Af fdd 2 _ U)) ?_ U Ac;refine o_y U (Nl U isAgg167 (by first|exact c_o|exact Af fdd 0 _ U)) ?_ U Ac;refine rP tb 1 U ?_;refine o_y U (Nl U isAgg3 (by first|exact c_o|exact Af fdd 3 _ U)) ?_ U Ac;refine o_e U (Cr (l:=z) (encK:=encZI) (encV:=encTB) y.val true keyZ (T U) (T U) U An U runUnderlying167) ?_ U Ac;rintro _ _ ⟨rfl,rfl⟩;refine⟨sbt,(A4 U (e_ (Cr (l:=upsert z y.val true) (encK:=encZI) (encV:=encTB) y.to true keyZ (T U) (T U) U An U runUnderlying167) ?_ U))⟩;rintro _ _ ⟨rfl,rfl⟩;refine rO tb 2 U (Ia (upsert (upsert z y.val true) y.to true) ?_ sbt);rw[take_next hx,List.foldl_append,← hz];show _=stepB z y;unfold stepB;rw[if_pos c20]
   ·refine rC tb 2 U (Ia (z) ?_ sbt);rw[take_next hx,List.foldl_append,← hz];show _=stepB z y;unfold stepB;rw[if_neg c20]
  ·rintro D0 z hz;refine rX tb 4 U (y_ (A8 (T U) An qom) ?_ U);refine rO tb 2 U ?_;refine q_loopDC ((i+1,z,D0::Ds)) ?_ ?_ ⟨atd,trivial⟩ ⟨Aa U,Aa U,Aa U,Aa U,trivial⟩ ?_
   ·refine⟨hi2,?_⟩;rw[List.take_succ_eq_append_getElem hi2,← Az hi2,List.flatMap_append,List.foldl_append,← hl];show z=(([gd ms i]:List Pom).flatMap prdF).foldl stepB l;rw[hz,List.take_length];simp
   ·first|omega|(simp only[];omega)
   ·exact(show ((D0,Obj.deferred (some []))::(mkM Ds++((n3,Cl [.map (some n7)] 167)::(n7,mapO encZI encTB z)::H))).Sublist _ from by exact sbt)
  ·exact fun _ _ h=>h.elim
  ·exact fun _ _ _ h=>h.elim
 ·obtain rfl:i=ms.length:=by have h9: ¬ ((i:Nat):Int)<(ms.length:Nat):=c11;omega
  rw[List.take_length] at hl;obtain rfl:l=tickB ms:=hl;have hpl:(tickB ms).length≤100000:=by have h8:=fold_len (ms.flatMap prdF) [];have h9:=prds_len (fun m hm=>(hM m hm).2.2);simp only[List.length_nil,Nat.zero_add] at h8;unfold tickB;omega
  refine rC tb 2 U (q_loopD_exit (rX tb 4 U ?_));refine y_ (Nl U isAgg167 (by first|exact c_o|exact Af fdd 0 _ U)) ?_ U;refine e_ (Al (qe1 U) call116 (tkeys_s n7)) ?_ U;rintro _ _ ⟨n29,rfl,rfl⟩;refine e_ (Al (qe1 U) call115 (tsorted_s n29 n7 (tickB ms) fdd fdd hpl)) ?_ U;rintro _ _ ⟨d,ks,rfl,hok,hen,rfl⟩;refine rO tb 4 U (q_retMP Ds U (Nk U) ?_);exact⟨_,⟨d,srtI ks,rfl,hok,tks_of hen (by have h8:=fold_len (ms.flatMap prdF) [];have h9:=prds_len (fun m hm=>(hM m hm).2.2);simp only[List.length_nil,Nat.zero_add] at h8;unfold tickB;omega),rfl⟩,by exact sbt⟩
theorem ybd115_0 (a0:Int)(a1:Int)(a2:ByteArray)(a3:Int)(a4:Int)(a5:Option Addr)(a5n a5c:Nat)(a6:ByteArray)(a7:Int)(a8:Option Addr)(a8n a8c:Nat)(w:World):(Instr.build 115 #[(0, .agg #[.int .i64 a0, .int .i64 a1, .string a2, .int .i64 a3, .int .i64 a4, .slice a5 a5n a5c, .string a6, .int .i64 a7, .slice a8 a8n a8c])]).run Tryz.prog w= .ok (.agg #[.int .i64 a0, .int .i64 a1, .string a2, .int .i64 a3, .int .i64 a4, .slice a5 a5n a5c, .string a6, .int .i64 a7, .slice a8 a8n a8c, .int .i64 0, .string ⟨#[]⟩, .slice none 0 0, .string ⟨#[]⟩, .int .i64 0, .int .i64 0]) w:=by kernel_rfl
theorem ybs117_2_0_1 (a0:Int)(a1:Int)(a2:ByteArray)(a3:Int)(a4:Int)(a5:Option Addr)(a5n a5c:Nat)(a6:ByteArray)(a7:Int)(a8:Option Addr)(a8n a8c:Nat)(a9:Int)(a10:ByteArray)(a11:Option Addr)(a11n a11c:Nat)(a12:ByteArray)(a13:Int)(a14:Int)(a15:Int)(a16:Int)(a17:ByteArray)(a18:Int)(a19:Int)(a20:Option Addr)(a20n a20c:Nat)(a21:ByteArray)(a22:Int)(a23:Option Addr)(a23n a23c:Nat)(a24:Int)(a25:ByteArray)(a26:Option Addr)(a26n a26c:Nat)(a27:ByteArray)(a28:Int)(a29:Int)(w:World):(Instr.buildSlice 117 2 #[(0, .agg #[.int .i64 a0, .int .i64 a1, .string a2, .int .i64 a3, .int .i64 a4, .slice a5 a5n a5c, .string a6, .int .i64 a7, .slice a8 a8n a8c, .int .i64 a9, .string a10, .slice a11 a11n a11c, .string a12, .int .i64 a13, .int .i64 a14]),(1, .agg #[.int .i64 a15, .int .i64 a16, .string a17, .int .i64 a18, .int .i64 a19, .slice a20 a20n a20c, .string a21, .int .i64 a22, .slice a23 a23n a23c, .int .i64 a24, .string a25, .slice a26 a26n a26c, .string a27, .int .i64 a28, .int .i64 a29])]).run Tryz.prog w= .ok (.slice (some ⟨w.heap.size,0,none⟩) 2 2) (w.alloc (Cl [.int .i64 a0, .int .i64 a1, .string a2, .int .i64 a3, .int .i64 a4, .slice a5 a5n a5c, .string a6, .int .i64 a7, .slice a8 a8n a8c, .int .i64 a9, .string a10, .slice a11 a11n a11c, .string a12, .int .i64 a13, .int .i64 a14, .int .i64 a15, .int .i64 a16, .string a17, .int .i64 a18, .int .i64 a19, .slice a20 a20n a20c, .string a21, .int .i64 a22, .slice a23 a23n a23c, .int .i64 a24, .string a25, .slice a26 a26n a26c, .string a27, .int .i64 a28, .int .i64 a29] 115)):=by kernel_rfl
theorem arrSt2 {w0:World}{R:List (Nat × Obj)}{n:Nat}{a b:Pom}{t:TypeId}(hf:Fnd R n (Cl (encSt a++encSt b) t)):Arr w0 R (some ⟨n,0,none⟩) 15 encSt [a,b]:=fun j x hj=>by
 match j with
 |0=>
  obtain rfl:a=x:=by simpa using hj
  exact⟨rfl,fun k v hk=>Af hf k v (by rw[List.getElem?_append_left (List.getElem?_eq_some_iff.1 hk).1];exact hk)⟩
 |1=>
  obtain rfl:b=x:=by simpa using hj
  refine⟨rfl,fun k v hk=> ?_⟩;have:=Af (w0:=w0) hf (15+k) v (by rw[List.getElem?_append_right (by simp)];simpa using hk);rw[show (0:Nat)+(15+k)=0+1*15+k by omega] at this;exact this
 |j+2=>simp at hj
def AlwR (fl:List Fd) (p1 p2:Po) (L:List Int) (t:Int) (h:Hd) (is:Bool) (e:Int):Prop:=
 (e=12∧t=0∧h=hd0∧is=false∧∃ t'∈L,Gx fl t' p1 p2)∨
 (e=0∧t=0∧h=hd0∧is=true∧∀ t'∈L,∀ g,HdOk g→AskP t' 1 p1 p2 g)∨
 (e=0∧is=false∧Ans (AskP t 1 p1 p2) h false∧∃ A B,L=A++t::B∧∀ t'∈A,∀ g,HdOk g→AskP t' 1 p1 p2 g)
theorem alw_hit {fl:List Fd}{p1 p2:Po}{L:List Int}{i:Nat}(hi:i<L.length)(hn:∀ j,j<i→∀ g,HdOk g→AskP (gd L j) 1 p1 p2 g){h:Hd}(ha:Ans (AskP (gd L i) 1 p1 p2) h false):AlwR fl p1 p2 L (gd L i) h false 0:=by
 refine .inr (.inr ⟨rfl,rfl,ha,L.take i,L.drop (i+1),?_,fun t ht=> ?_⟩)
 ·conv=>lhs;rw[← List.take_append_drop i L,List.drop_eq_getElem_cons hi,← Az hi]
 ·obtain⟨j,hj,rfl⟩:=List.getElem_of_mem ht;rw[List.length_take] at hj;rw[List.getElem_take,← Az qom];exact hn j qom
theorem ealways_s {w0:World}{H:List (Nat × Obj)}{fl:List Fd}(hfl:FlOk fl)(q:Option Addr)(c:Nat)(hA:Arr w0 H q 3 encF fl){m1:Pom}{p1:Po}(hI1:IsO fl m1 p1)(hF1:p1.Fit (bsF fl))(hM1:PoM w0 H m1){m2:Pom}{p2:Po}(hI2:IsO fl m2 p2)(hF2:p2.Fit (bsF fl))(hM2:PoM w0 H m2)(hs1:m1.sz≤1000000000∧m1.nd≤1000)(hs2:m2.sz≤1000000000∧m2.nd≤1000):
  FSpec Tryz.prog w0 25 #[.slice q fl.length c, .agg (encPo m1).toArray, .agg (encPo m2).toArray] H (fun u H'=>(∃ (bl:List Int) (t:Int) (h:Hd) (is:Bool) (e:Int),u= .tuple #[.int .i64 t, .agg (hdC h).toArray, .bool is, .int .i64 e]∧HdOk h∧Tks [m1,m2] bl∧AlwR fl p1 p2 (0::bl) t h is e)∧H'=H):=by
 refine Au Tryz.func25 U ntmps25 U (rD tb 2 U (e_ (Nr U cs_) ?_ U));rintro _ _ ⟨n4,rfl,rfl⟩;refine e_ (Nr U cs_) ?_ U;rintro _ _ ⟨n5,rfl,rfl⟩;refine rO tb 1 U (e_ (Ai zeroValue32 cs_) ?_ U);rintro _ _ ⟨n7,rfl,rfl⟩;refine rO tb 6 U (e_ (Br (.cons An .nil) (ybs109_1_0 _)) ?_ U);rintro _ _ ⟨n16,rfl,rfl⟩;refine y_ (Nn U isAgg28 sizeOf28 U (by first|exact Af fdd|exact As)) ?_ U;refine y_ (Bd (.cons (T U) .nil) (ybd115_0 _ _ _ _ _ _ _ _ _ _ _ _ _)) ?_ U;refine y_ (Nn U isAgg28 sizeOf28 U (by first|exact Af fdd|exact As)) ?_ U;refine y_ (Bd (.cons (T U) .nil) (ybd115_0 _ _ _ _ _ _ _ _ _ _ _ _ _)) (e_ (Br (.cons (T U) (.cons (T U) .nil)) (ybs117_2_0_1 _ _ _ _ _ _ _ _ _ _ _ _ _ _ _ _ _ _ _ _ _ _ _ _ _ _ _ _ _ _ _ _ _ _ _ _ _ _ _ _ _ _)) ?_ U) U;rintro _ _ ⟨n21,rfl,rfl⟩;refine e_ (Al (qe1 rfl) call73 (bnds_s [m1,m2] (some ⟨n21,0,none⟩) 2 (arrSt2 Am) (fun m hm=>by rcases List.mem_cons.1 hm with rfl|hm;exact⟨hM1.mono (by exact sbt),hs1⟩;rw[List.mem_singleton.1 hm];exact⟨hM2.mono (by exact sbt),hs2⟩) (by show 2≤16;omega))) ?_ rfl;rintro _ _ ⟨d8,bl,rfl,hd8,hT,rfl⟩;have hbl:=hT.len;refine e_ (C2 (enc:=encI) (d:= .blk n16 1 []) (l:=[0]) bl (by':=8) (by repeat (first|exact loc_1|apply LocL.t|apply LocL.a)) (T U) (T U) runUnderlying109 runUnderlying109 sizeOf3 typeInfo3 U zeroValue3 U (fun _=>rfl) (fun _=>rfl) ⟨Nat.le_refl _,rfl⟩ qde (by simp only[List.length_cons,List.length_nil];omega) ((Cw (w0:=w0) (e:=3) (X:=((n21,Cl (encSt m1++encSt m2) 115)::(n16,Cl [.int .i64 0] 3)::(n7,Cl [.int .i64 0, .int .i64 0, .int .i64 0, .int .i64 0, .int .i64 0, .int .i64 0, .int .i64 0, .int .i64 0, .int .i64 0, .int .i64 0] 32)::(n5,Cl (encPo m2) 28)::(n4,Cl (encPo m1) 28)::H)) (enc:=encI) (fun _=>rfl) hd8).mono (by exact sbt))) ?_ U;rintro _ _ ⟨d9,rfl,hd9,rfl⟩;have hd9:SlOk d9 ((0:Int)::bl).length 1:=by have:=hd9;rw[List.length_singleton] at this;rw[List.length_cons,Nat.add_comm];exact this
 have hI9:=Cw (w0:=w0) (e:=3) (X:=[]) (enc:=encI) (l:=((0:Int)::bl)) (fun _=>rfl) hd9;rw[List.append_nil] at hI9;refine rO tb 12 U ?_;refine Bj (X:=Nat) (V:=fun i=>[(26, .int .i64 (i:Nat))]) (C:=[(0,_),(4,_),(5,_),(7,_),(24,_),(25,_)]) (G:=fun i=>((n21,Cl (encSt m1++encSt m2) 115)::(slH d9 ((0::bl).flatMap encI) 3++((n7,Cl [.int .i64 0, .int .i64 0, .int .i64 0, .int .i64 0, .int .i64 0, .int .i64 0, .int .i64 0, .int .i64 0, .int .i64 0, .int .i64 0] 32)::(n5,Cl (encPo m2) 28)::(n4,Cl (encPo m1) 28)::H)))) (φ:=fun i=>i≤(0::bl).length∧∀ j,j<i→∀ g,HdOk g→AskP (gd ((0:Int)::bl) j) 1 p1 p2 g) (μ:=fun i=>(0::bl).length - i) (x0:=0) ?_ ⟨Aa U,Aa U,Aa U,Aa U,Aa U,Aa U,trivial⟩ ⟨atd,trivial⟩ (by exact sbt) ?_
 ·exact⟨Nat.zero_le _,fun j hj=>absurd hj (Nat.not_lt_zero _)⟩
 rintro i ⟨hi,hn⟩;have hI9m:Arr w0 ((n21,Cl (encSt m1++encSt m2) 115)::(slH d9 ((0::bl).flatMap encI) 3++((n7,Cl [.int .i64 0, .int .i64 0, .int .i64 0, .int .i64 0, .int .i64 0, .int .i64 0, .int .i64 0, .int .i64 0, .int .i64 0, .int .i64 0] 32)::(n5,Cl (encPo m2) 28)::(n4,Cl (encPo m1) 28)::H))) (slQ d9) 1 encI (0::bl):=hI9.mono (.cons _ (List.sublist_append_left _ _));refine rD tb 6 U ?_
 first|refine Ae (Aa U) (fun c27=> ?_) (fun c27=> ?_)|refine Ah (Aa U) (fun c27=> ?_) (fun c27=> ?_)
 ·have hi2:i<(0::bl).length:=by have h9:=c27;simp only[List.length_cons,List.length_nil] at h9 ⊢;omega
  have hi3:i≤32000:=by have h9:=hi2;rw[List.length_cons] at h9;omega
  refine rC tb 6 U (y_ (Np U U runUnderlying109 sizeOf3 (by have h9:=c27;simp only[List.length_cons,List.length_nil] at h9 ⊢;omega) (by first|exact rfl|exact hI9.b (i:=i) hi2)) ?_ U);refine y_ (Nl U isAgg3 (by first|exact c_o|exact(Arr.f0 hI9m (i:=i) hi2 U))) ?_ U;refine rO tb 6 U ?_;refine y_ (Nn U isAgg28 sizeOf28 U (by first|exact Af fdd|exact As)) ?_ U;refine y_ (Nn U isAgg28 sizeOf28 U (by first|exact Af fdd|exact As)) ?_ U;refine rO tb 1 U (e_ (Al (qe4 U U U U) call13 (Gy hfl q c (hA.mono (by exact sbt)) (gd ((0:Int)::bl) i) hI1 hF1 (hM1.mono (by exact sbt)) hI2 hF2 (hM2.mono (by exact sbt)))) ?_ U);rintro _ _ ⟨⟨h,is,e9,rfl,hh,hR⟩,rfl⟩;refine rO tb 4 U (e_ (Ai zeroValue32 cs_) ?_ U);rintro _ _ ⟨n13,rfl,rfl⟩;refine e_ (Nq U U sizeOf32 .agg (Bh _) (Aj hh) (by repeat (first|exact Upd.h|apply Upd.t|apply Bl)) (by rw[Aj hh];rfl)) ?_ U;rintro _ _ ⟨rfl,rfl⟩;refine rO tb 11 U ?_
  first|refine Ae (Aa U) (fun c40=> ?_) (fun c40=> ?_)|refine Ah (Aa U) (fun c40=> ?_) (fun c40=> ?_)
  ·obtain⟨h12,rfl,rfl,hno⟩:=hR.resolve_left fun k=>c40 k.1
   refine rC tb 1 U (Bk 6 [(0,true),(1,true),(2,true),(3,false),(4,true),(5,true)] _ mixd qkr sb0 ?_ Bp);refine o_y U (Nn U isAgg32 sizeOf32 (Aj hh) (by first|exact Af fdd|exact As)) ?_ U Ac;refine rP tb 2 U (o_e U (Nq U U sizeOf32 .agg (Bh _) (Aj hh) (by repeat (first|exact Upd.h|apply Upd.t|apply Bl)) (by rw[Aj hh];rfl)) ?_ U Ac);rintro _ _ ⟨rfl,rfl⟩;refine⟨sbt,(rP tb 2 U (A4 U (kO tb 2 [6,7,8,9] rfl U (rG tb 4 U (Bc (rX tb 2 U (Ak U (.tmp (Aa U) (.cellA (Aa U) isAgg32 sizeOf32 (Aj hh) (by first|exact As) (.tmp (Aa U) (Nk U)))) ?_)))))))⟩;exact⟨_,⟨⟨bl,0,hd0,false,e9,rfl,Bu,hT, .inl ⟨h12,rfl,rfl,rfl,_,Ba hi2,hno⟩⟩,rfl⟩,by exact sbt⟩
  ·have h0:e9=0:=Classical.not_not.1 c40;have hans:=(hR.resolve_right fun k=>absurd (k.1.symm.trans h0) qde).2;refine rC tb 5 U ?_
   first|refine A9 (B5 (T U)) U Ac ?_|refine A9 (B1 (T U)) U Ac ?_
   refine rO tb 2 U ?_
   first|refine Ae (Aa U) (fun c44=> ?_) (fun c44=> ?_)|refine Ah (Aa U) (fun c44=> ?_) (fun c44=> ?_)
   ·obtain rfl:is=false:=by simpa using c44
    refine rC tb 1 U (Bk 3 [(0,true),(1,true),(2,true)] _ mixd qkr sb0 ?_ Bp);refine rP tb 1 U ?_;refine o_y U (Nn U isAgg32 sizeOf32 (Aj hh) (by first|exact Af fdd|exact As)) ?_ U Ac;refine rP tb 1 U (A4 U (e_ (Nq U U sizeOf32 .agg (Bh _) (Aj hh) (by repeat (first|exact Upd.h|apply Upd.t|apply Bl)) (by rw[Aj hh];rfl)) ?_ U));rintro _ _ ⟨rfl,rfl⟩;refine kO tb 4 [6,7,8,9] rfl U (rG tb 3 U (Bc (rX tb 2 U (Ak U (.tmp (Aa U) (.cellA (Aa U) isAgg32 sizeOf32 (Aj hh) (by first|exact As) (.tmp (Aa U) (Nk U)))) ?_))));exact⟨_,⟨⟨bl,gd ((0:Int)::bl) i,h,false,0,rfl,hh,hT,alw_hit hi2 hn hans⟩,rfl⟩,by exact sbt⟩
   ·obtain rfl:is=true:=by simpa using c44
    have hk2:=hans.true;refine rC tb 4 U (y_ (A8 (T U) An qom) ?_ U);refine rO tb 2 U ?_;refine A6 (i+1) ?_ ?_ ⟨atd,trivial⟩ ⟨Aa U,Aa U,Aa U,Aa U,Aa U,Aa U,trivial⟩ ?_
    ·refine⟨hi2,fun j hj=> ?_⟩;rcases Nat.lt_or_ge j i with h9|h9
     ·exact hn j h9
     ·obtain rfl:j=i:=by omega
      exact hk2
    ·first|omega|(simp only[];omega)
    ·exact sbt
 ·obtain rfl:i=(0::bl).length:=by have h9:=c27;simp only[List.length_cons,List.length_nil] at h9 hi ⊢;omega
  refine rC tb 2 U (Ax (rX tb 4 U (y_ (Bd .nil (Kr)) (rO tb 1 U (e_ (Nq U U sizeOf32) ?_ U)) U)));rintro _ _ ⟨rfl,rfl⟩;refine rO tb 5 U (Ak U (.tmp (Aa U) (.cellA (Aa U) isAgg32 sizeOf32 U (by first|exact As) (.tmp (Aa U) (Nk U)))) ?_);exact⟨_,⟨⟨bl,0,hd0,true,0,rfl,Bu,hT, .inr (.inl ⟨rfl,rfl,rfl,rfl,fun t ht=>by obtain⟨j,hj,rfl⟩:=List.getElem_of_mem ht;rw[← Az hj];exact hn j hj⟩)⟩,rfl⟩,by exact sbt⟩
abbrev xK7:Hd:=[0,0,28672,0,0,0,0,0,0,0]
abbrev xDS:Hd:=[0,772,0,0,0,0,0,0,0,0]
abbrev xD1:Hd:=[0,256,0,0,0,0,0,0,0,0]
section
variable {P:Hd→Prop} {h:Hd} {is:Bool}
theorem Mg (a:Ans P h is)(e:∀ g,HdOk g→P g):is=true∧h=hd0:=let b:=ans_uniq a (.inl ⟨rfl,rfl,e⟩);⟨b.2,b.1⟩
theorem ans_f (a:Ans P h is){x:Hd}(hx:HdOk x)(n: ¬ P x):is=false:=by
 cases is
 ·rfl
 ·exact absurd (a.true x hx) n
theorem Mh (a:Ans P h is){x:Hd}(hx:HdOk x)(n: ¬ P x)(l:∀ g,HdOk g→¬ P g→x=g∨hLt x g):is=false∧h=x:=by
 have b:=ans_uniq a (h':=x) (is':=false) (.inr ⟨rfl,hx,n,fun g hg hl=>Classical.byContradiction fun c=>by
  rcases l g hg c with rfl|k
  ·exact hl.irr
  ·exact(hl.trans k).irr⟩)
 exact⟨b.2,b.1⟩
end
theorem Nj {x h:Hd}(hx:HdOk x)(c:((List.range 160).all fun b=>decide (16≤b∧b<24)||decide (24≤b∧b<32)||decide (33≤b∧b<36)|| !hbit x b)=true)(hh:HdOk h)(d:fget exD x≤fget exD h)(s:fget exS x≤fget exS h)(k:fget exK x≤fget exK h):x=h∨hLt x h:=
 hd_le (F:=exF) hx hh (fun f hf=>by
  simp only[exF,List.mem_cons,List.not_mem_nil,or_false] at hf;rcases hf with rfl|rfl|rfl
  ·exact d
  ·exact s
  ·exact k) (fun b hb o=>by
  have t:=List.all_eq_true.1 c b (List.mem_range.2 hb);have o1: ¬ (16≤b∧b<24):=o exD (by simp[exF]);have o2: ¬ (24≤b∧b<32):=o exS (by simp[exF]);have o3: ¬ (33≤b∧b<36):=o exK (by simp[exF]);rw[decide_eq_false o1,decide_eq_false o2,decide_eq_false o3] at t
  simpa using t)
theorem My (f:Fd):fget f hd0=0:=Nat.eq_of_testBit_eq fun i=>by rw[Ed,Jj];simp
theorem le_0 {h:Hd}(hh:HdOk h):hd0=h∨hLt hd0 h:=Nj Bu qkr hh (by rw[My];exact Nat.zero_le _) (by rw[My];exact Nat.zero_le _) (by rw[My];exact Nat.zero_le _)
theorem okD:FdOk exD:=inD.ok
theorem okS:FdOk exS:=inS.ok
theorem okK:FdOk exK:=inK.ok
theorem Mv:HdOk xK7:=by refine⟨rfl,fun w hw=> ?_⟩;simp at hw;omega
theorem Kg:HdOk xDS:=by refine⟨rfl,fun w hw=> ?_⟩;simp at hw;omega
theorem Mw:HdOk xD1:=by refine⟨rfl,fun w hw=> ?_⟩;simp at hw;omega
theorem k7_k:fget exK xK7=7:=by kernel_rfl
theorem k7_d:fget exD xK7=0:=by kernel_rfl
theorem k7_s:fget exS xK7=0:=by kernel_rfl
theorem ds_k:fget exK xDS=0:=by kernel_rfl
theorem ds_d:fget exD xDS=3:=by kernel_rfl
theorem ds_s:fget exS xDS=4:=by kernel_rfl
theorem d1_k:fget exK xD1=0:=by kernel_rfl
theorem d1_d:fget exD xD1=1:=by kernel_rfl
theorem d1_s:fget exS xD1=0:=by kernel_rfl
section
variable {h:Hd} {is:Bool}
theorem q1_a (a:Ans (AskP 0 1 q1_1 q1_2) h is):is=true∧h=hd0:=Mg a fun g _=>by
 show ∀ x,(∃ m,m=fset exK g 1∧x=fset exK m 2)↔x=fset exK g 2;intro x
 constructor
 ·rintro⟨m,rfl,rfl⟩;exact fset_fset
 ·rintro rfl;exact⟨_,rfl,fset_fset.symm⟩
theorem q2_a (a:Ans (AskP 0 1 q2_1 q2_2) h is):is=false∧h=hd0:=Mh a Bu (fun k=>by
 have k:∀ x,(x=hd0∧(fget exK hd0==1)=true)↔(x=hd0∧true=true):=k;have:=((k hd0).2 ⟨rfl,rfl⟩).2;rw[My] at this;cases this) fun g hg _=>le_0 hg
theorem q3_0 (g:Hd):AskP 0 1 Me Mf g:=by
 show ∀ x,(x=g∧_)↔(x=g∧true=true);exact fun x=>⟨fun k=>⟨k.1,rfl⟩,fun k=>⟨k.1,(by show (!(decide ((3:Int)≤0)&&decide ((0:Int)<7)))=true;decide)⟩⟩
theorem q3_3: ¬ AskP 3 1 Me Mf hd0:=fun k=>by
 have k:∀ x,(x=hd0∧holdsP 3 (.no (.time 3 7)) hd0=true)↔(x=hd0∧true=true):=k;have:=((k hd0).2 ⟨rfl,rfl⟩).2;exact absurd this qde
theorem q3_a {bl:List Int}{t e:Int}(hT:bl.Pairwise (· < ·))(hm:∀ x,x∈bl↔x=3∨x=7)(a:AlwR exF Me Mf (0::bl) t h is e):e=0∧t=3∧is=false∧h=hd0:=by
 have hall:∀ t'∈(0:Int)::bl,t'=0∨t'=3∨t'=7:=fun t' h'=>by
  rcases List.mem_cons.1 h' with h'|h'
  ·exact .inl h'
  ·exact .inr ((hm t').1 h')
 have h3:(3:Int)∈bl:=(hm 3).2 (.inl U);rcases a with ⟨_,_,_,_,t',ht,hn⟩|⟨_,_,_,_,k⟩|⟨he,hi,k,A,B,hL,hA⟩
 ·exfalso;rcases hall t' ht with rfl|rfl|rfl
  ·exact q3a_no hn
  ·exact q3b_no hn
  ·exact q3c_no hn
 ·exact absurd (k 3 (List.mem_cons_of_mem _ h3) hd0 Bu) q3_3
 ·subst hi;have ht:t∈(0:Int)::bl:=by rw[hL];simp
  rcases hall t ht with rfl|rfl|rfl
  ·exact absurd (q3_0 h) k.false.2.1
  ·obtain⟨_,rfl⟩:=Mh k Bu q3_3 fun g hg _=>le_0 hg
   exact⟨he,rfl,rfl,rfl⟩
  ·exfalso
   match A,hL with
   |[],hL=>simp at hL
   |b::A',hL=>
    obtain⟨rfl,rfl⟩:=List.cons.inj hL;rcases List.mem_append.1 h3 with h4|h4
    ·exact q3_3 (hA 3 (List.mem_cons_of_mem _ h4) hd0 Bu)
    ·rcases List.mem_cons.1 h4 with h4|h4
     ·exact absurd h4 qde
     ·have:=(List.pairwise_cons.1 (List.pairwise_append.1 hT).2.1).1 3 h4;exact absurd this qde
theorem q4_a (a:Ans (AskP 0 2 q4_1 Ng) h is):is=true∧h=hd0:=Mg a fun g _=>by
 show ∀ x,den 0 Ng g x→den 0 (.fil .tru) g x∨den 0 (.set exK 1) g x;exact fun x d=> .inr d
theorem q5_a (a:Ans (AskP 0 2 q5_1 q5_2) h is):is=false:=ans_f a Bu fun k=>by
 have k:∀ x,(x=hd0∧true=true)∨x=fset exK hd0 1→x=fset exK hd0 1:=k;have:=congrArg (fget exK) (k hd0 (.inl ⟨rfl,rfl⟩));rw[Gl okK qde,My] at this;cases this
theorem q6_a (a:Ans (AskP 0 3 Nh Nh) h is):is=true∧h=hd0:=Mg a fun g _=>by
 show ∀ x,¬ ∃ m,(m=g∧(fget exK g==1)=true)∧x=m∧(fget exK m==2)=true;rintro x ⟨m,⟨rfl,e1⟩,_,e2⟩;rw[beq_iff_eq.1 e1] at e2;cases e2
theorem q7_a (a:Ans (AskP 0 4 Ni Ni) h is):is=false∧h=xK7:=Mh a Mv (fun k=>by
 obtain⟨g,k⟩:∃ g,g=xK7∧(decide (0≤fget exK xK7)&&decide (fget exK xK7≤6))=true:=k;rw[k7_k] at k;exact absurd k.2 qde) fun g hg n=>by
 have n: ¬ ∃ x,x=g∧(decide (0≤fget exK g)&&decide (fget exK g≤6))=true:=n;have h6: ¬ fget exK g≤6:=fun c=>n ⟨g,rfl,by rw[decide_eq_true c,decide_eq_true (Nat.zero_le _)];rfl⟩
 exact Nj Mv qkr hg (by rw[k7_d];exact Nat.zero_le _) (by rw[k7_s];exact Nat.zero_le _) (by rw[k7_k];omega)
theorem q8_a (a:Ans (AskP 0 5 Nb Nb) h is):is=false:=ans_f a Bu fun k=>by
 have k:∀ g g',((g=hd0∧true=true)∨g=fset exK hd0 3)→((g'=hd0∧true=true)∨g'=fset exK hd0 3)→g=g':=k;have:=congrArg (fget exK) (k hd0 _ (.inl ⟨rfl,rfl⟩) (.inr U));rw[Gl okK qde,My] at this;cases this
theorem q9_a (a:Ans (AskP 0 6 q9_1 q9_2) h is):is=true∧h=hd0:=Mg a fun g _=>by
 show (∀ x,¬ (x=g∧(fget exD g==1)=true))∨∀ x,¬ (x=g∧(fget exD g==2)=true)
 by_cases e:fget exD g=1
 ·right;rintro x ⟨_,k⟩;rw[e] at k;cases k
 ·left;rintro x ⟨_,k⟩;exact e (beq_iff_eq.1 k)
theorem q10_a (a:Ans (DstP 0 Mt Mu) h is):is=false∧h=xDS:=Mh a Kg (fun k=>by
 have k: ¬ ((∃ h,HdOk h∧xDS=fset exD h 3)∧∃ h,HdOk h∧xDS=fset exS h 4):=k;have e1:=fset_self okD Kg;have e2:=fset_self okS Kg;rw[ds_d] at e1;rw[ds_s] at e2;exact k ⟨⟨xDS,Kg,e1.symm⟩,xDS,Kg,e2.symm⟩) fun g hg n=>by
 have n: ¬ ¬ ((∃ h,HdOk h∧g=fset exD h 3)∧∃ h,HdOk h∧g=fset exS h 4):=n;obtain⟨⟨x,_,e1⟩,y,_,e2⟩:=Classical.not_not.1 n;have f1:fget exD g=3:=by rw[e1];exact Gl okD qde
 have f2:fget exS g=4:=by rw[e2];exact Gl okS qde
 exact Nj Kg qkr hg (by rw[ds_d,f1];exact Nat.le_refl _) (by rw[ds_s,f2];exact Nat.le_refl _) (by rw[ds_k];exact Nat.zero_le _)
theorem q11_a (a:Ans (SlcP 0 q11_1 q11_2) h is):is=false∧h=xD1:=Mh a Mw (fun k=>by
 refine k.1 (fset exD (fset exD xD1 2) 3) ?_;refine⟨fset exD xD1 2,⟨xD1,⟨rfl,?_⟩,rfl⟩,fset exD xD1 2,⟨rfl,?_⟩,rfl⟩
 ·show (fget exD xD1==1)=true;rw[d1_d];rfl
 ·show (fget exD (fset exD xD1 2)==2)=true;rw[Gl okD qde];rfl) fun g hg n=>by
 by_cases f1:fget exD g=1
 ·exact Nj Mw qkr hg (by rw[d1_d,f1];exact Nat.le_refl _) (by rw[d1_s];exact Nat.zero_le _) (by rw[d1_k];exact Nat.zero_le _)
 ·refine absurd ⟨fun x k=> ?_,fun x k=> ?_⟩ n
  ·obtain⟨m,⟨m2,⟨_,e⟩,_⟩,_⟩:=k;have e:(fget exD g==1)=true:=e;exact f1 (beq_iff_eq.1 e)
  ·obtain⟨m,⟨m2,⟨_,_⟩,e2⟩,m3,⟨_,e⟩,_⟩:=k;have e:(fget exD m==1)=true:=e;have e2:m=fset exD m2 3:=e2;rw[e2,Gl okD qde] at e;cases e
theorem q12_a (a:Ans (SlcP 0 q12_1 q12_2) h is):is=true∧h=hd0:=Mg a fun g _=>by
 refine⟨fun x k=> ?_,fun x k=> ?_⟩
 ·obtain⟨m,⟨e1,e2⟩,e3,e4⟩:=k;have e2:(fget exD g==1)=true:=e2;have e4:(fget exD m==2)=true:=e4;have e1:m=g:=e1;rw[e1,beq_iff_eq.1 e2] at e4;cases e4
 ·obtain⟨m,⟨e1,e2⟩,e3,e4⟩:=k;have e2:(fget exD g==2)=true:=e2;have e4:(fget exD m==1)=true:=e4;have e1:m=g:=e1;rw[e1,beq_iff_eq.1 e2] at e4;cases e4
end
theorem ybd127_0_1_2 (a0:ByteArray)(a1:Int)(a2:Int)(w:World):(Instr.build 127 #[(0, .string a0),(1, .int .i64 a1),(2, .int .i64 a2)]).run Tryz.prog w= .ok (.agg #[.string a0, .int .i64 a1, .int .i64 a2]) w:=by kernel_rfl
theorem ybd25_0_1_2 (a0:Int)(a1:ByteArray)(a2:Int)(w:World):(Instr.build 25 #[(0, .int .i64 a0),(1, .string a1),(2, .int .i64 a2)]).run Tryz.prog w= .ok (.agg #[.int .i64 a0, .string a1, .int .i64 a2, .int .i64 0, .slice none 0 0]) w:=by kernel_rfl
theorem ybd28_0_1 (a0:Int)(a1:Int)(a2:ByteArray)(a3:Int)(a4:Int)(a5:Option Addr)(a5n a5c:Nat)(w:World):(Instr.build 28 #[(0, .int .i64 a0),(1, .agg #[.int .i64 a1, .string a2, .int .i64 a3, .int .i64 a4, .slice a5 a5n a5c])]).run Tryz.prog w= .ok (.agg #[.int .i64 a0, .int .i64 a1, .string a2, .int .i64 a3, .int .i64 a4, .slice a5 a5n a5c, .string ⟨#[]⟩, .int .i64 0, .slice none 0 0]) w:=by kernel_rfl
theorem ybd28_0_2_3 (a0:Int)(a1:ByteArray)(a2:Int)(w:World):(Instr.build 28 #[(0, .int .i64 a0),(2, .string a1),(3, .int .i64 a2)]).run Tryz.prog w= .ok (.agg #[.int .i64 a0, .int .i64 0, .string ⟨#[]⟩, .int .i64 0, .int .i64 0, .slice none 0 0, .string a1, .int .i64 a2, .slice none 0 0]) w:=by kernel_rfl
theorem ybd28_0_4 (a0:Int)(a1:Option Addr)(a1n a1c:Nat)(w:World):(Instr.build 28 #[(0, .int .i64 a0),(4, .slice a1 a1n a1c)]).run Tryz.prog w= .ok (.agg #[.int .i64 a0, .int .i64 0, .string ⟨#[]⟩, .int .i64 0, .int .i64 0, .slice none 0 0, .string ⟨#[]⟩, .int .i64 0, .slice a1 a1n a1c]) w:=by kernel_rfl
theorem ybd32_0_1_2 (a0:Int)(a1:Int)(a2:Int)(w:World):(Instr.build 32 #[(0, .int .i64 a0),(1, .int .i64 a1),(2, .int .i64 a2)]).run Tryz.prog w= .ok (.agg #[.int .i64 a0, .int .i64 a1, .int .i64 a2, .int .i64 0, .int .i64 0, .int .i64 0, .int .i64 0, .int .i64 0, .int .i64 0, .int .i64 0]) w:=by kernel_rfl
theorem ybs22_3_0_1_2 (a0:ByteArray)(a1:Int)(a2:Int)(a3:ByteArray)(a4:Int)(a5:Int)(a6:ByteArray)(a7:Int)(a8:Int)(w:World):(Instr.buildSlice 22 3 #[(0, .agg #[.string a0, .int .i64 a1, .int .i64 a2]),(1, .agg #[.string a3, .int .i64 a4, .int .i64 a5]),(2, .agg #[.string a6, .int .i64 a7, .int .i64 a8])]).run Tryz.prog w= .ok (.slice (some ⟨w.heap.size,0,none⟩) 3 3) (w.alloc (Cl [.string a0, .int .i64 a1, .int .i64 a2, .string a3, .int .i64 a4, .int .i64 a5, .string a6, .int .i64 a7, .int .i64 a8] 127)):=by kernel_rfl
theorem ybs26_1_0 (a0:Int)(a1:Int)(a2:ByteArray)(a3:Int)(a4:Int)(a5:Option Addr)(a5n a5c:Nat)(a6:ByteArray)(a7:Int)(a8:Option Addr)(a8n a8c:Nat)(w:World):(Instr.buildSlice 26 1 #[(0, .agg #[.int .i64 a0, .int .i64 a1, .string a2, .int .i64 a3, .int .i64 a4, .slice a5 a5n a5c, .string a6, .int .i64 a7, .slice a8 a8n a8c])]).run Tryz.prog w= .ok (.slice (some ⟨w.heap.size,0,none⟩) 1 1) (w.alloc (Cl [.int .i64 a0, .int .i64 a1, .string a2, .int .i64 a3, .int .i64 a4, .slice a5 a5n a5c, .string a6, .int .i64 a7, .slice a8 a8n a8c] 28)):=by kernel_rfl
theorem ybs26_2_0_1 (a0:Int)(a1:Int)(a2:ByteArray)(a3:Int)(a4:Int)(a5:Option Addr)(a5n a5c:Nat)(a6:ByteArray)(a7:Int)(a8:Option Addr)(a8n a8c:Nat)(a9:Int)(a10:Int)(a11:ByteArray)(a12:Int)(a13:Int)(a14:Option Addr)(a14n a14c:Nat)(a15:ByteArray)(a16:Int)(a17:Option Addr)(a17n a17c:Nat)(w:World):(Instr.buildSlice 26 2 #[(0, .agg #[.int .i64 a0, .int .i64 a1, .string a2, .int .i64 a3, .int .i64 a4, .slice a5 a5n a5c, .string a6, .int .i64 a7, .slice a8 a8n a8c]),(1, .agg #[.int .i64 a9, .int .i64 a10, .string a11, .int .i64 a12, .int .i64 a13, .slice a14 a14n a14c, .string a15, .int .i64 a16, .slice a17 a17n a17c])]).run Tryz.prog w= .ok (.slice (some ⟨w.heap.size,0,none⟩) 2 2) (w.alloc (Cl [.int .i64 a0, .int .i64 a1, .string a2, .int .i64 a3, .int .i64 a4, .slice a5 a5n a5c, .string a6, .int .i64 a7, .slice a8 a8n a8c, .int .i64 a9, .int .i64 a10, .string a11, .int .i64 a12, .int .i64 a13, .slice a14 a14n a14c, .string a15, .int .i64 a16, .slice a17 a17n a17c] 28)):=by kernel_rfl
theorem khead1_s {w0:World}{H:List (Nat × Obj)}  :
  FSpec Tryz.prog w0 42 #[.int .i64 0, .int .i64 0, .int .i64 7] H (Still (.agg (hdC xK7).toArray) H):=by
 refine Au Tryz.func42 U ntmps42 U (rD tb 2 U (e_ (Ai zeroValue32 cs_) ?_ U));rintro _ _ ⟨n6,rfl,rfl⟩;refine rO tb 5 U (y_ (Fe An (T U) qom) ?_ U);refine rO tb 1 U (y_ (A8 (T U) (T U) qom) ?_ U);refine rO tb 1 U (y_ (Fe An (T U) qom) ?_ U);refine y_ (Bd (.cons An (.cons (T U) (.cons (T U) .nil))) (ybd32_0_1_2 _ _ _)) ?_ U
 first|refine A5 (Nq U U sizeOf32) U Ac ?_
 rintro _ _ ⟨rfl,rfl⟩;refine rO tb 3 U (Ak U (.cellA (Aa U) isAgg32 sizeOf32 U (by first|exact As) .nil) ?_);exact⟨_,⟨rfl,rfl⟩,by exact sbt⟩
theorem khead2_s {w0:World}{H:List (Nat × Obj)}  :
  FSpec Tryz.prog w0 42 #[.int .i64 3, .int .i64 4, .int .i64 0] H (Still (.agg (hdC xDS).toArray) H):=by
 refine Au Tryz.func42 U ntmps42 U (rD tb 2 U (e_ (Ai zeroValue32 cs_) ?_ U));rintro _ _ ⟨n6,rfl,rfl⟩;refine rO tb 5 U (y_ (Fe An (T U) qom) ?_ U);refine rO tb 1 U (y_ (A8 (T U) (T U) qom) ?_ U);refine rO tb 1 U (y_ (Fe An (T U) qom) ?_ U);refine y_ (Bd (.cons An (.cons (T U) (.cons (T U) .nil))) (ybd32_0_1_2 _ _ _)) ?_ U
 first|refine A5 (Nq U U sizeOf32) U Ac ?_
 rintro _ _ ⟨rfl,rfl⟩;refine rO tb 3 U (Ak U (.cellA (Aa U) isAgg32 sizeOf32 U (by first|exact As) .nil) ?_);exact⟨_,⟨rfl,rfl⟩,by exact sbt⟩
theorem khead3_s {w0:World}{H:List (Nat × Obj)}  :
  FSpec Tryz.prog w0 42 #[.int .i64 1, .int .i64 0, .int .i64 0] H (Still (.agg (hdC xD1).toArray) H):=by
 refine Au Tryz.func42 U ntmps42 U (rD tb 2 U (e_ (Ai zeroValue32 cs_) ?_ U));rintro _ _ ⟨n6,rfl,rfl⟩;refine rO tb 5 U (y_ (Fe An (T U) qom) ?_ U);refine rO tb 1 U (y_ (A8 (T U) (T U) qom) ?_ U);refine rO tb 1 U (y_ (Fe An (T U) qom) ?_ U);refine y_ (Bd (.cons An (.cons (T U) (.cons (T U) .nil))) (ybd32_0_1_2 _ _ _)) ?_ U
 first|refine A5 (Nq U U sizeOf32) U Ac ?_
 rintro _ _ ⟨rfl,rfl⟩;refine rO tb 3 U (Ak U (.cellA (Aa U) isAgg32 sizeOf32 U (by first|exact As) .nil) ?_);exact⟨_,⟨rfl,rfl⟩,by exact sbt⟩
theorem Le {w0:World}{H:List (Nat × Obj)}(m:Pdm):
  FSpec Tryz.prog w0 39 #[.agg (encPd m).toArray] H (Still (.agg (encPo (mFil m)).toArray) H):=by
 refine Au Tryz.func39 U ntmps39 U (rD tb 2 U (e_ (Nr U cs_) ?_ U));rintro _ _ ⟨n1,rfl,rfl⟩;refine e_ (Ai zeroValue28 cs_) ?_ U;rintro _ _ ⟨n2,rfl,rfl⟩;refine rO tb 4 U (y_ (Nn U isAgg25 sizeOf25 U (by first|exact As)) ?_ U);refine y_ (Bd (.cons An (.cons (T U) .nil)) (ybd28_0_1 _ _ _ _ _ _ _ _)) ?_ U
 first|refine A5 (Nq U U sizeOf28) U Ac ?_
 rintro _ _ ⟨rfl,rfl⟩;refine rO tb 3 U (Ak U (.cellA (Aa U) isAgg28 sizeOf28 U (by first|exact As) .nil) ?_);exact⟨_,⟨rfl,rfl⟩,by exact sbt⟩
theorem Hk {w0:World}{H:List (Nat × Obj)}(nm:ByteArray)(n:Int):
  FSpec Tryz.prog w0 40 #[.string nm, .int .i64 n] H (Still (.agg (encPo (mSet nm n)).toArray) H):=by
 refine Au Tryz.func40 U ntmps40 U (rD tb 2 U (e_ (Ai zeroValue28 cs_) ?_ U));rintro _ _ ⟨n4,rfl,rfl⟩;refine rO tb 6 U (y_ (Bd (.cons An (.cons (T U) (.cons (T U) .nil))) (ybd28_0_2_3 _ _ _)) ?_ U)
 first|refine A5 (Nq U U sizeOf28) U Ac ?_
 rintro _ _ ⟨rfl,rfl⟩;refine rO tb 3 U (Ak U (.cellA (Aa U) isAgg28 sizeOf28 U (by first|exact As) .nil) ?_);exact⟨_,⟨rfl,rfl⟩,by exact sbt⟩
theorem Jy {w0:World}{H:List (Nat × Obj)}(nm:ByteArray)(n:Int):
  FSpec Tryz.prog w0 41 #[.string nm, .int .i64 n] H (Still (.agg (encPo (mFil (mEq nm n))).toArray) H):=by
 refine Au Tryz.func41 U ntmps41 U (rD tb 2 U (e_ (Ai zeroValue28 cs_) ?_ U));rintro _ _ ⟨n4,rfl,rfl⟩;refine rO tb 6 U (y_ (Bd (.cons An (.cons (T U) (.cons (T U) .nil))) (ybd25_0_1_2 _ _ _)) (y_ (Aw (qe1 U) call39 (fun H' hs=>Le (mEq nm n))) ?_ U) U)
 first|refine A5 (Nq U U sizeOf28) U Ac ?_
 rintro _ _ ⟨rfl,rfl⟩;refine rO tb 3 U (Ak U (.cellA (Aa U) isAgg28 sizeOf28 U (by first|exact As) .nil) ?_);exact⟨_,⟨rfl,rfl⟩,by exact sbt⟩
theorem kex_s {w0:World}{H:List (Nat × Obj)}  :
  FSpec Tryz.prog w0 38 #[] H (fun u H'=>∃ n:Nat,u= .slice (some ⟨n,0,none⟩) 3 3∧H'=(n,Cl (exF.flatMap encF) 127)::H):=by
 refine Au Tryz.func38 U ntmps38 U (rD tb 7 U (y_ (Bd (.cons An (.cons An (.cons An .nil))) (ybd127_0_1_2 _ _ _)) (y_ (Bd (.cons An (.cons An (.cons An .nil))) (ybd127_0_1_2 _ _ _)) (y_ (Bd (.cons An (.cons An (.cons An .nil))) (ybd127_0_1_2 _ _ _)) (e_ (Br (.cons (T U) (.cons (T U) (.cons (T U) .nil))) (ybs22_3_0_1_2 _ _ _ _ _ _ _ _ _)) ?_ U) U) U) U));rintro _ _ ⟨n4,rfl,rfl⟩;refine rO tb 4 U (Ak U (Nk U) ?_);exact⟨_,⟨_,rfl,rfl⟩,by exact sbt⟩
theorem I9 {w0:World}{H:List (Nat × Obj)}(x y:Pom):
  FSpec Tryz.prog w0 32 #[.agg (encPo x).toArray, .agg (encPo y).toArray] H (fun u H'=>∃ b:Nat,u= .agg (encPo (mOp2 3 b x y)).toArray∧H'=(b,Cl (encPo x++encPo y) 28)::H):=by
 refine Au Tryz.func32 U ntmps32 U (rD tb 2 U (e_ (Nr U cs_) ?_ U));rintro _ _ ⟨n2,rfl,rfl⟩;refine e_ (Nr U cs_) ?_ U;rintro _ _ ⟨n3,rfl,rfl⟩;refine e_ (Ai zeroValue28 cs_) ?_ U;rintro _ _ ⟨n4,rfl,rfl⟩;refine rO tb 4 U (y_ (Nn U isAgg28 sizeOf28 U (by first|exact As)) ?_ U);refine y_ (Nn U isAgg28 sizeOf28 U (by first|exact As)) ?_ U;refine e_ (Br (.cons (T U) (.cons (T U) .nil)) (ybs26_2_0_1 _ _ _ _ _ _ _ _ _ _ _ _ _ _ _ _ _ _ _ _ _ _ _ _ _ _)) ?_ U;rintro _ _ ⟨n7,rfl,rfl⟩;refine y_ (Bd (.cons An (.cons (T U) .nil)) (ybd28_0_4 _ _ _ _)) ?_ U
 first|refine A5 (Nq U U sizeOf28) U Ac ?_
 rintro _ _ ⟨rfl,rfl⟩;refine rO tb 3 U (Ak U (.cellA (Aa U) isAgg28 sizeOf28 U (by first|exact As) .nil) ?_);exact⟨_,⟨_,rfl,rfl⟩,by exact sbt⟩
theorem Lf {w0:World}{H:List (Nat × Obj)}(x y:Pom):
  FSpec Tryz.prog w0 33 #[.agg (encPo x).toArray, .agg (encPo y).toArray] H (fun u H'=>∃ b:Nat,u= .agg (encPo (mOp2 4 b x y)).toArray∧H'=(b,Cl (encPo x++encPo y) 28)::H):=by
 refine Au Tryz.func33 U ntmps33 U (rD tb 2 U (e_ (Nr U cs_) ?_ U));rintro _ _ ⟨n2,rfl,rfl⟩;refine e_ (Nr U cs_) ?_ U;rintro _ _ ⟨n3,rfl,rfl⟩;refine e_ (Ai zeroValue28 cs_) ?_ U;rintro _ _ ⟨n4,rfl,rfl⟩;refine rO tb 4 U (y_ (Nn U isAgg28 sizeOf28 U (by first|exact As)) ?_ U);refine y_ (Nn U isAgg28 sizeOf28 U (by first|exact As)) ?_ U;refine e_ (Br (.cons (T U) (.cons (T U) .nil)) (ybs26_2_0_1 _ _ _ _ _ _ _ _ _ _ _ _ _ _ _ _ _ _ _ _ _ _ _ _ _ _)) ?_ U;rintro _ _ ⟨n7,rfl,rfl⟩;refine y_ (Bd (.cons An (.cons (T U) .nil)) (ybd28_0_4 _ _ _ _)) ?_ U
 first|refine A5 (Nq U U sizeOf28) U Ac ?_
 rintro _ _ ⟨rfl,rfl⟩;refine rO tb 3 U (Ak U (.cellA (Aa U) isAgg28 sizeOf28 U (by first|exact As) .nil) ?_);exact⟨_,⟨_,rfl,rfl⟩,by exact sbt⟩
theorem kstar_s {w0:World}{H:List (Nat × Obj)}(x:Pom):
  FSpec Tryz.prog w0 34 #[.agg (encPo x).toArray] H (fun u H'=>∃ b:Nat,u= .agg (encPo (mOp1 5 b x)).toArray∧H'=(b,Cl (encPo x) 28)::H):=by
 refine Au Tryz.func34 U ntmps34 U (rD tb 2 U (e_ (Nr U cs_) ?_ U));rintro _ _ ⟨n1,rfl,rfl⟩;refine e_ (Ai zeroValue28 cs_) ?_ U;rintro _ _ ⟨n2,rfl,rfl⟩;refine rO tb 4 U (y_ (Nn U isAgg28 sizeOf28 U (by first|exact As)) ?_ U);refine e_ (Br (.cons (T U) .nil) (ybs26_1_0 _ _ _ _ _ _ _ _ _ _ _ _ _)) ?_ U;rintro _ _ ⟨n4,rfl,rfl⟩;refine y_ (Bd (.cons An (.cons (T U) .nil)) (ybd28_0_4 _ _ _ _)) ?_ U
 first|refine A5 (Nq U U sizeOf28) U Ac ?_
 rintro _ _ ⟨rfl,rfl⟩;refine rO tb 3 U (Ak U (.cellA (Aa U) isAgg28 sizeOf28 U (by first|exact As) .nil) ?_);exact⟨_,⟨_,rfl,rfl⟩,by exact sbt⟩
theorem ybd25_0_1_3 (a0:Int)(a1:ByteArray)(a2:Int)(w:World):(Instr.build 25 #[(0, .int .i64 a0),(1, .string a1),(3, .int .i64 a2)]).run Tryz.prog w= .ok (.agg #[.int .i64 a0, .string a1, .int .i64 0, .int .i64 a2, .slice none 0 0]) w:=by kernel_rfl
theorem ybd25_0_2_3 (a0:Int)(a1:Int)(a2:Int)(w:World):(Instr.build 25 #[(0, .int .i64 a0),(2, .int .i64 a1),(3, .int .i64 a2)]).run Tryz.prog w= .ok (.agg #[.int .i64 a0, .string ⟨#[]⟩, .int .i64 a1, .int .i64 a2, .slice none 0 0]) w:=by kernel_rfl
theorem ybd25_0_4 (a0:Int)(a1:Option Addr)(a1n a1c:Nat)(w:World):(Instr.build 25 #[(0, .int .i64 a0),(4, .slice a1 a1n a1c)]).run Tryz.prog w= .ok (.agg #[.int .i64 a0, .string ⟨#[]⟩, .int .i64 0, .int .i64 0, .slice a1 a1n a1c]) w:=by kernel_rfl
theorem ybs23_1_0 (a0:Int)(a1:ByteArray)(a2:Int)(a3:Int)(a4:Option Addr)(a4n a4c:Nat)(w:World):(Instr.buildSlice 23 1 #[(0, .agg #[.int .i64 a0, .string a1, .int .i64 a2, .int .i64 a3, .slice a4 a4n a4c])]).run Tryz.prog w= .ok (.slice (some ⟨w.heap.size,0,none⟩) 1 1) (w.alloc (Cl [.int .i64 a0, .string a1, .int .i64 a2, .int .i64 a3, .slice a4 a4n a4c] 25)):=by kernel_rfl
abbrev mTim:Pdm:= .mk 9 ⟨#[]⟩ 3 7 none 0 []
abbrev mRng:Pdm:= .mk 5 nK 0 6 none 0 []
theorem fndS:(fndFd exF ⟨#[115,114,99]⟩).1=exS:=by kernel_rfl
theorem Gz {w0:World}{H:List (Nat × Obj)}{f:FuncId}{args:Array Value}{Φ:Hd→Bool→Prop}{e:Int}{Ψ:Prop}(h:FSpec Tryz.prog w0 f args H (AskK Φ e Ψ H))(no: ¬ Ψ):FSpec Tryz.prog w0 f args H (fun u H'=>(∃ (h:Hd) (is:Bool),u= .tuple #[.agg (hdC h).toArray, .bool is, .int .i64 0]∧HdOk h∧Φ h is)∧H'=H):=by
 intro w hO;refine(h w hO).mono ?_;rintro e w' ⟨u,H',he,hO',⟨⟨h1,is,e1,rfl,hh,hR⟩,rfl⟩⟩;rcases hR with ⟨rfl,k⟩|⟨_,_,_,k⟩
 ·exact⟨_,_,he,hO',⟨h1,is,rfl,hh,k⟩,rfl⟩
 ·exact absurd k no
theorem errIs_ex (fl:List Fd)(t:Int)(p:Po):∃ e,ErrIs fl t p e:=by
 cases h:PF fl t p (N0 fl) with
 |none=>exact⟨12,(fun _=>rfl),(fun a n e=>by rw[h] at e;cases e)⟩
 |some x=>exact⟨2,(fun e=>by rw[h] at e;cases e),(fun _ _ _ _=>rfl)⟩
theorem errN_ex (fl:List Fd)(t:Int)(p:Po)(ns:Ns):∃ e,ErrN fl t p ns e:=by
 cases h:PF fl t p ns with
 |none=>exact⟨12,(fun _=>rfl),(fun a n e=>by rw[h] at e;cases e)⟩
 |some x=>exact⟨2,(fun e=>by rw[h] at e;cases e),(fun _ _ _ _=>rfl)⟩
theorem errD_ex (fl:List Fd)(t:Int)(p q:Po):∃ e,ErrD fl t p q e:=by
 obtain⟨e,h⟩:=errN_ex fl t q (N0 fl);cases h1:PF fl t q (N0 fl) with
 |none=>exact⟨e,h,(fun a n e1=>by rw[h1] at e1;cases e1)⟩
 |some x=>
  by_cases c:(rulesP x.2 (bsF fl) x.1).length≤4000
  ·obtain⟨e2,h2⟩:=errN_ex fl t p x.2;refine⟨e2,⟨(fun e3=>by rw[h1] at e3;cases e3),(fun a n e3 e4=> ?_)⟩,(fun a n e3 _=> ?_)⟩
   ·rw[h1] at e3;cases e3;exact absurd c (by show ¬ (rulesP n (bsF fl) a).length≤4000;omega)
   ·rw[h1] at e3;cases e3;exact h2
  ·refine⟨e,h,fun a n e3 e4=> ?_⟩;rw[h1] at e3;cases e3;exact absurd e4 c
theorem Iv {nm:ByteArray}{n:Nat}{f:Fd}(h:(fndFd exF nm).1=f):IsO exF (mFil (mEq nm n)) (.fil (.eq f n)):= .fil U (is_eq h)
theorem prd_ex (b:Nat):[mFil (mNo b mTim),mFil mTru].flatMap prdF=[mNo b mTim,mTim,mTru]:=by rfl
theorem sz_ex (b:Nat):(mFil (mNo b mTim)).sz≤1000000000∧(mFil (mNo b mTim)).nd≤1000:=⟨by show (3:Nat)≤_;decide,by show (3:Nat)≤_;decide⟩
theorem sz_ex2:(mFil mTru).sz≤1000000000∧(mFil mTru).nd≤1000:=⟨by show (2:Nat)≤_;decide,by show (2:Nat)≤_;decide⟩
theorem tk_ex {b:Nat}{bl:List Int}(h:Tks [mFil (mNo b mTim),mFil mTru] bl)(x:Int):x∈bl↔x=3∨x=7:=by
 rw[h.mem,prd_ex]
 constructor
 ·rintro⟨t,ht,hk,hx⟩;simp only[List.mem_cons,List.not_mem_nil,or_false] at ht;rcases ht with rfl|rfl|rfl
  ·exact absurd hk (by show ¬ (6:Int)=9;decide)
  ·exact hx
  ·exact absurd hk (by show ¬ (1:Int)=9;decide)
 ·intro hx;exact⟨mTim,by simp,rfl,hx⟩
theorem eqX1 (w:World):(Op.equal 32 (.agg (hdC xK7).toArray) (.agg (hdC xK7).toArray)).run Tryz.prog w= .ok (decide True) w:=by kernel_rfl
theorem eqX2 (w:World):(Op.equal 32 (.agg (hdC xDS).toArray) (.agg (hdC xDS).toArray)).run Tryz.prog w= .ok (decide True) w:=by kernel_rfl
theorem eqX3 (w:World):(Op.equal 32 (.agg (hdC xD1).toArray) (.agg (hdC xD1).toArray)).run Tryz.prog w= .ok (decide True) w:=by kernel_rfl
theorem sanity_s {w0:World}{H:List (Nat × Obj)}  :
  FSpec Tryz.prog w0 11 #[] H (Still (.bool true) H):=by
 refine Au Tryz.func11 U ntmps11 U ?_;obtain⟨e8,hE8⟩:=errIs_ex exF 0 Nb;obtain⟨e10,hE10⟩:=errD_ex exF 0 Mt Mu;refine rD tb 7 U (e_ (Al .nil call38 (kex_s)) ?_ U);rintro _ _ ⟨n44,rfl,rfl⟩;have hA0:Arr w0 ((n44,Cl (exF.flatMap encF) 127)::H) (some ⟨n44,0,none⟩) 3 encF exF:=Cw (w0:=w0) (e:=127) (X:=H) (enc:=encF) (d:= .blk n44 3 []) (fun _=>rfl) ⟨Nat.le_refl _,rfl⟩;refine rO tb 5 U (y_ (Bd (.cons An .nil) (ybd25_0 _)) (y_ (Aw (qe1 U) call39 (fun H' hs=>Le mTru)) (e_ (Ai zeroValue28 cs_) ?_ U) U) U);rintro _ _ ⟨n2,rfl,rfl⟩
 first|refine A5 (Nq U U sizeOf28) U Ac ?_
 rintro _ _ ⟨rfl,rfl⟩;refine rO tb 4 U (y_ (Aw (.cons An (.cons An .nil)) call40 (fun H' hs=>Hk nK 1)) (e_ (Ai zeroValue28 cs_) ?_ U) U);rintro _ _ ⟨n3,rfl,rfl⟩
 first|refine A5 (Nq U U sizeOf28) U Ac ?_
 rintro _ _ ⟨rfl,rfl⟩;refine rO tb 4 U (y_ (Bd (.cons An (.cons An (.cons An .nil))) (ybd25_0_2_3 _ _ _)) (e_ (Ai zeroValue25 cs_) ?_ U) U);rintro _ _ ⟨n4,rfl,rfl⟩
 first|refine A5 (Nq U U sizeOf25) U Ac ?_
 rintro _ _ ⟨rfl,rfl⟩;refine rO tb 2 U ?_;refine Gc (X:=Unit) (V:=fun z=>[(6, .bool true),(7, .int .i64 0)]) (C:=[(1,_),(2,_),(3,_),(4,_)]) (G:=fun z=>(n4,Cl (encPd mTim) 25)::(n3,Cl (encPo (mSet nK 1)) 28)::(n2,Cl (encPo (mFil mTru)) 28)::(n44,Cl (exF.flatMap encF) 127)::H) (φ:=fun z=>True) ⟨Aa U,Aa U,Aa U,Aa U,trivial⟩ ?_ ?_
 ·refine rD tb 0 U (J4 14 _ mixd qkr sb0 ?_ Bp);refine x_y (i:=0) U qkr (Cd (T U)) ?_ U Ac;refine x_y (i:=1) U qkr (Nn U isAgg28 sizeOf28 U (by first|exact As)) ?_ U Ac;refine x_y (i:=2) U qkr (Aw (.cons An (.cons An .nil)) call40 (fun H' hs=>Hk nK 2)) ?_ U Ac;refine Ht (i:=3) (j:=10) qkr qkr ?_ ?_
  ·refine Cf U (Al (qe2 U U) call33 (Lf (mSet nK 1) (mSet nK 2))) ?_ U Ac;rintro _ _ ⟨n53,rfl,rfl⟩;refine⟨sbt,(x_y (i:=4) U qkr (Aw (.cons An (.cons An .nil)) call40 (fun H' hs=>Hk nK 2)) ?_ U Ac)⟩;refine Ht (i:=5) (j:=10) qkr qkr ?_ ?_
   ·refine Cf U (Al (.cons (T U) (.cons (T U) (.cons (T U) (.cons An .nil)))) call13 (Gz (Gy C9 (some ⟨n44,0,none⟩) 3 (hA0.mono (by exact sbt)) 0 (.seq U U (Ck (n:=1) fndK) (Ck (n:=2) fndK)) (by rw[Bw];exact⟨⟨inK,(pin 1 qde).2⟩,⟨inK,(pin 2 qde).2⟩⟩) (Dr (by repeat (first|exact Am|refine Ar ?_)) (B6 C4) (B6 C4)) (Ck (n:=2) fndK) (by rw[Bw];exact⟨inK,(pin 2 qde).2⟩) (B6 C4)) q1_no)) ?_ U Ac;rintro _ _ ⟨⟨h1,is1,rfl,o1,a1⟩,rfl⟩;obtain⟨rfl,rfl⟩:=q1_a a1;refine⟨sbt,(x_y (i:=6) U qkr (Cd (T U)) ?_ U Ac)⟩;refine x_y (i:=7) U qkr (A1 (T U) U) ?_ U Ac;refine x_y (i:=8) U qkr (A1 (T U) U) ?_ U Ac;refine x_y (i:=9) U qkr (A1 (T U) U) ?_ U Ac;refine Ci (i:=10) qkr qkr ?_;refine Cf U (Ai zeroValue32 cs_) ?_ U Ac;rintro _ _ ⟨n5,rfl,rfl⟩;refine⟨sbt,(Ci (i:=11) qkr qkr ?_)⟩;refine Cf U (Nq U U sizeOf32 .agg (Bh _) (Aj Bu) (by repeat (first|exact Upd.h|apply Upd.t|apply Bl)) (by rw[Aj Bu];rfl)) ?_ U Ac;rintro _ _ ⟨rfl,rfl⟩;refine⟨sbt,(x_y (i:=12) U qkr (Bn (T U)) ?_ U Ac)⟩;refine x_y (i:=13) U qkr (Bn (T U)) ?_ U Ac;refine Ew qkr U ?_;refine rO tb 1 U ?_;refine Bf (()) ?_ ⟨atd,atd,trivial⟩ ⟨Aa U,Aa U,Aa U,Aa U,trivial⟩ sbt
    trivial
   ·refine Cf U (Ai zeroValue32 cs_) ?_ U Ac;rintro _ _ ⟨n5,rfl,rfl⟩;refine⟨sbt,(Ci (i:=5) qkr qkr ?_)⟩;refine Cf U (Al (.cons (T U) (.cons (T U) (.cons (T U) (.cons An .nil)))) call13 (Gz (Gy C9 (some ⟨n44,0,none⟩) 3 (hA0.mono (by exact sbt)) 0 (.seq U U (Ck (n:=1) fndK) (Ck (n:=2) fndK)) (by rw[Bw];exact⟨⟨inK,(pin 1 qde).2⟩,⟨inK,(pin 2 qde).2⟩⟩) (Dr (by repeat (first|exact Am|refine Ar ?_)) (B6 C4) (B6 C4)) (Ck (n:=2) fndK) (by rw[Bw];exact⟨inK,(pin 2 qde).2⟩) (B6 C4)) q1_no)) ?_ U Ac;rintro _ _ ⟨⟨h1,is1,rfl,o1,a1⟩,rfl⟩;obtain⟨rfl,rfl⟩:=q1_a a1;refine⟨sbt,(x_y (i:=6) U qkr (Cd (T U)) ?_ U Ac)⟩;refine x_y (i:=7) U qkr (A1 (T U) U) ?_ U Ac;refine x_y (i:=8) U qkr (A1 (T U) U) ?_ U Ac;refine x_y (i:=9) U qkr (A1 (T U) U) ?_ U Ac;refine Ci (i:=11) qkr qkr ?_;refine Cf U (Nq U U sizeOf32 .agg (Bh _) (Aj Bu) (by repeat (first|exact Upd.h|apply Upd.t|apply Bl)) (by rw[Aj Bu];rfl)) ?_ U Ac;rintro _ _ ⟨rfl,rfl⟩;refine⟨sbt,(x_y (i:=12) U qkr (Bn (T U)) ?_ U Ac)⟩;refine x_y (i:=13) U qkr (Bn (T U)) ?_ U Ac;refine Ew qkr U ?_;refine rO tb 1 U ?_;refine Bf (()) ?_ ⟨atd,atd,trivial⟩ ⟨Aa U,Aa U,Aa U,Aa U,trivial⟩ sbt
    trivial
  ·refine Cf U (Ai zeroValue32 cs_) ?_ U Ac;rintro _ _ ⟨n5,rfl,rfl⟩;refine⟨sbt,(Ci (i:=3) qkr qkr ?_)⟩;refine Cf U (Al (qe2 U U) call33 (Lf (mSet nK 1) (mSet nK 2))) ?_ U Ac;rintro _ _ ⟨n53,rfl,rfl⟩;refine⟨sbt,(x_y (i:=4) U qkr (Aw (.cons An (.cons An .nil)) call40 (fun H' hs=>Hk nK 2)) ?_ U Ac)⟩;refine Ci (i:=5) qkr qkr ?_;refine Cf U (Al (.cons (T U) (.cons (T U) (.cons (T U) (.cons An .nil)))) call13 (Gz (Gy C9 (some ⟨n44,0,none⟩) 3 (hA0.mono (by exact sbt)) 0 (.seq U U (Ck (n:=1) fndK) (Ck (n:=2) fndK)) (by rw[Bw];exact⟨⟨inK,(pin 1 qde).2⟩,⟨inK,(pin 2 qde).2⟩⟩) (Dr (by repeat (first|exact Am|refine Ar ?_)) (B6 C4) (B6 C4)) (Ck (n:=2) fndK) (by rw[Bw];exact⟨inK,(pin 2 qde).2⟩) (B6 C4)) q1_no)) ?_ U Ac;rintro _ _ ⟨⟨h1,is1,rfl,o1,a1⟩,rfl⟩;obtain⟨rfl,rfl⟩:=q1_a a1;refine⟨sbt,(x_y (i:=6) U qkr (Cd (T U)) ?_ U Ac)⟩;refine x_y (i:=7) U qkr (A1 (T U) U) ?_ U Ac;refine x_y (i:=8) U qkr (A1 (T U) U) ?_ U Ac;refine x_y (i:=9) U qkr (A1 (T U) U) ?_ U Ac;refine Ci (i:=11) qkr qkr ?_;refine Cf U (Nq U U sizeOf32 .agg (Bh _) (Aj Bu) (by repeat (first|exact Upd.h|apply Upd.t|apply Bl)) (by rw[Aj Bu];rfl)) ?_ U Ac;rintro _ _ ⟨rfl,rfl⟩;refine⟨sbt,(x_y (i:=12) U qkr (Bn (T U)) ?_ U Ac)⟩;refine x_y (i:=13) U qkr (Bn (T U)) ?_ U Ac;refine Ew qkr U ?_;refine rO tb 1 U ?_;refine Bf (()) ?_ ⟨atd,atd,trivial⟩ ⟨Aa U,Aa U,Aa U,Aa U,trivial⟩ sbt
   trivial
 rintro z -;refine Gc (X:=Nat) (V:=fun n8=>[(8, .pointer (some ⟨n8,0,none⟩)),(9, .bool false),(10, .int .i64 0)]) (C:=[(1,_),(2,_),(3,_),(4,_),(6,_),(7,_)]) (G:=fun n8=>(n8,Cl (hdC hd0) 32)::(n4,Cl (encPd mTim) 25)::(n3,Cl (encPo (mSet nK 1)) 28)::(n2,Cl (encPo (mFil mTru)) 28)::(n44,Cl (exF.flatMap encF) 127)::H) (φ:=fun n8=>True) ⟨Aa U,Aa U,Aa U,Aa U,Aa U,Aa U,trivial⟩ ?_ ?_
 ·refine rD tb 0 U (J4 12 _ mixd qkr sb0 ?_ Bp);refine x_y (i:=0) U qkr (Cd (T U)) ?_ U Ac;refine x_y (i:=1) U qkr (Aw (.cons An (.cons An .nil)) call41 (fun H' hs=>Jy nK 1)) ?_ U Ac;refine x_y (i:=2) U qkr (Nn U isAgg28 sizeOf28 U (by first|exact As)) ?_ U Ac;refine Ht (i:=3) (j:=8) qkr qkr ?_ ?_
  ·refine Cf U (Al (.cons (T U) (.cons (T U) (.cons (T U) (.cons An .nil)))) call13 (Gz (Gy C9 (some ⟨n44,0,none⟩) 3 (hA0.mono (by exact sbt)) 0 (Iv (n:=1) fndK) (by rw[Bw];exact⟨inK,(pin 1 qde).2⟩) (B6 C5) (.fil U (.tru U)) (by rw[Bw];exact trivial) (B6 C5)) q2_no)) ?_ U Ac;rintro _ _ ⟨⟨h2,is2,rfl,o2,a2⟩,rfl⟩;obtain⟨rfl,rfl⟩:=q2_a a2;refine⟨sbt,(x_y (i:=4) U qkr (Cd (T U)) ?_ U Ac)⟩;refine x_y (i:=5) U qkr (A1 (T U) U) ?_ U Ac;refine x_y (i:=6) U qkr (A1 (T U) U) ?_ U Ac;refine x_y (i:=7) U qkr (A1 (T U) U) ?_ U Ac;refine Ci (i:=8) qkr qkr ?_;refine Cf U (Ai zeroValue32 cs_) ?_ U Ac;rintro _ _ ⟨n8,rfl,rfl⟩;refine⟨sbt,(Ci (i:=9) qkr qkr ?_)⟩;refine Cf U (Nq U U sizeOf32 .agg (Bh _) (Aj Bu) (by repeat (first|exact Upd.h|apply Upd.t|apply Bl)) (by rw[Aj Bu];rfl)) ?_ U Ac;rintro _ _ ⟨rfl,rfl⟩;refine⟨sbt,(x_y (i:=10) U qkr (Bn (T U)) ?_ U Ac)⟩;refine x_y (i:=11) U qkr (Bn (T U)) ?_ U Ac;refine Ew qkr U ?_;refine rO tb 1 U ?_;refine Bf (_) ?_ ⟨atd,atd,atd,trivial⟩ ⟨Aa U,Aa U,Aa U,Aa U,Aa U,Aa U,trivial⟩ sbt
   trivial
  ·refine Cf U (Ai zeroValue32 cs_) ?_ U Ac;rintro _ _ ⟨n8,rfl,rfl⟩;refine⟨sbt,(Ci (i:=3) qkr qkr ?_)⟩;refine Cf U (Al (.cons (T U) (.cons (T U) (.cons (T U) (.cons An .nil)))) call13 (Gz (Gy C9 (some ⟨n44,0,none⟩) 3 (hA0.mono (by exact sbt)) 0 (Iv (n:=1) fndK) (by rw[Bw];exact⟨inK,(pin 1 qde).2⟩) (B6 C5) (.fil U (.tru U)) (by rw[Bw];exact trivial) (B6 C5)) q2_no)) ?_ U Ac;rintro _ _ ⟨⟨h2,is2,rfl,o2,a2⟩,rfl⟩;obtain⟨rfl,rfl⟩:=q2_a a2;refine⟨sbt,(x_y (i:=4) U qkr (Cd (T U)) ?_ U Ac)⟩;refine x_y (i:=5) U qkr (A1 (T U) U) ?_ U Ac;refine x_y (i:=6) U qkr (A1 (T U) U) ?_ U Ac;refine x_y (i:=7) U qkr (A1 (T U) U) ?_ U Ac;refine Ci (i:=9) qkr qkr ?_;refine Cf U (Nq U U sizeOf32 .agg (Bh _) (Aj Bu) (by repeat (first|exact Upd.h|apply Upd.t|apply Bl)) (by rw[Aj Bu];rfl)) ?_ U Ac;rintro _ _ ⟨rfl,rfl⟩;refine⟨sbt,(x_y (i:=10) U qkr (Bn (T U)) ?_ U Ac)⟩;refine x_y (i:=11) U qkr (Bn (T U)) ?_ U Ac;refine Ew qkr U ?_;refine rO tb 1 U ?_;refine Bf (_) ?_ ⟨atd,atd,atd,trivial⟩ ⟨Aa U,Aa U,Aa U,Aa U,Aa U,Aa U,trivial⟩ sbt
   trivial
 rintro n8 -;refine Gc (X:=Nat) (V:=fun n12=>[(12, .pointer (some ⟨n12,0,none⟩)),(11, .int .i64 3),(13, .bool false),(14, .int .i64 0)]) (C:=[(1,_),(2,_),(3,_),(6,_),(7,_),(8,_),(9,_),(10,_)]) (G:=fun n12=>(n12,Cl (hdC hd0) 32)::(n8,Cl (hdC hd0) 32)::(n4,Cl (encPd mTim) 25)::(n3,Cl (encPo (mSet nK 1)) 28)::(n2,Cl (encPo (mFil mTru)) 28)::(n44,Cl (exF.flatMap encF) 127)::H) (φ:=fun n12=>True) ⟨Aa U,Aa U,Aa U,Aa U,Aa U,Aa U,Aa U,Aa U,trivial⟩ ?_ ?_
 ·refine rD tb 0 U (J4 17 _ mixd qkr sb0 ?_ Bp);refine x_y (i:=0) U qkr (Cd (T U)) ?_ U Ac;refine x_y (i:=1) U qkr (Nn U isAgg25 sizeOf25 U (by first|exact As)) ?_ U Ac;refine x_y (i:=5) U qkr (Nn U isAgg28 sizeOf28 U (by first|exact As)) ?_ U Ac;refine Ht (i:=2) (j:=12) qkr qkr ?_ ?_
  ·refine Cf U (Br (.cons (T U) .nil) (ybs23_1_0 _ _ _ _ _ _ _)) ?_ U Ac;rintro _ _ ⟨n70,rfl,rfl⟩;refine⟨sbt,(x_y (i:=3) U qkr (Bd (.cons An (.cons (T U) .nil)) (ybd25_0_4 _ _ _ _)) ?_ U Ac)⟩;refine x_y (i:=4) U qkr (Aw (qe1 U) call39 (fun H' hs=>Le (mNo n70 mTim))) ?_ U Ac;refine Ht (i:=6) (j:=12) qkr qkr ?_ ?_
   ·refine Cf U (Al (qe3 U U U) call25 (ealways_s C9 (some ⟨n44,0,none⟩) 3 (hA0.mono (by exact sbt)) (.fil U (.no U U (.tim U U U))) (by rw[Bw];exact trivial) (B6 (pd_no (by repeat (first|exact Am|refine Ar ?_)) C5)) (.fil U (.tru U)) (by rw[Bw];exact trivial) (B6 C5) (sz_ex _) sz_ex2)) ?_ U Ac;rintro _ _ ⟨⟨bl3,t3,h3,is3,e3,rfl,o3,T3,a3⟩,rfl⟩;obtain⟨rfl,rfl,rfl,rfl⟩:=q3_a T3.up (tk_ex T3) a3;refine⟨sbt,(x_y (i:=7) U qkr (Cd (T U)) ?_ U Ac)⟩;refine x_y (i:=8) U qkr (A1 (T U) U) ?_ U Ac;refine x_y (i:=9) U qkr (A1 (T U) U) ?_ U Ac;refine x_y (i:=10) U qkr (A1 (T U) U) ?_ U Ac;refine x_y (i:=11) U qkr (A1 (T U) U) ?_ U Ac;refine Ci (i:=12) qkr qkr ?_;refine Cf U (Ai zeroValue32 cs_) ?_ U Ac;rintro _ _ ⟨n12,rfl,rfl⟩;refine⟨sbt,(x_y (i:=13) U qkr (Bn (T U)) ?_ U Ac)⟩;refine Ci (i:=14) qkr qkr ?_;refine Cf U (Nq U U sizeOf32 .agg (Bh _) (Aj Bu) (by repeat (first|exact Upd.h|apply Upd.t|apply Bl)) (by rw[Aj Bu];rfl)) ?_ U Ac;rintro _ _ ⟨rfl,rfl⟩;refine⟨sbt,(x_y (i:=15) U qkr (Bn (T U)) ?_ U Ac)⟩;refine x_y (i:=16) U qkr (Bn (T U)) ?_ U Ac;refine Ew qkr U ?_;refine rO tb 1 U ?_;refine Bf (_) ?_ ⟨atd,atd,atd,atd,trivial⟩ ⟨Aa U,Aa U,Aa U,Aa U,Aa U,Aa U,Aa U,Aa U,trivial⟩ sbt
    trivial
   ·refine Cf U (Ai zeroValue32 cs_) ?_ U Ac;rintro _ _ ⟨n12,rfl,rfl⟩;refine⟨sbt,(Ci (i:=6) qkr qkr ?_)⟩;refine Cf U (Al (qe3 U U U) call25 (ealways_s C9 (some ⟨n44,0,none⟩) 3 (hA0.mono (by exact sbt)) (.fil U (.no U U (.tim U U U))) (by rw[Bw];exact trivial) (B6 (pd_no (by repeat (first|exact Am|refine Ar ?_)) C5)) (.fil U (.tru U)) (by rw[Bw];exact trivial) (B6 C5) (sz_ex _) sz_ex2)) ?_ U Ac;rintro _ _ ⟨⟨bl3,t3,h3,is3,e3,rfl,o3,T3,a3⟩,rfl⟩;obtain⟨rfl,rfl,rfl,rfl⟩:=q3_a T3.up (tk_ex T3) a3;refine⟨sbt,(x_y (i:=7) U qkr (Cd (T U)) ?_ U Ac)⟩;refine x_y (i:=8) U qkr (A1 (T U) U) ?_ U Ac;refine x_y (i:=9) U qkr (A1 (T U) U) ?_ U Ac;refine x_y (i:=10) U qkr (A1 (T U) U) ?_ U Ac;refine x_y (i:=11) U qkr (A1 (T U) U) ?_ U Ac;refine x_y (i:=13) U qkr (Bn (T U)) ?_ U Ac;refine Ci (i:=14) qkr qkr ?_;refine Cf U (Nq U U sizeOf32 .agg (Bh _) (Aj Bu) (by repeat (first|exact Upd.h|apply Upd.t|apply Bl)) (by rw[Aj Bu];rfl)) ?_ U Ac;rintro _ _ ⟨rfl,rfl⟩;refine⟨sbt,(x_y (i:=15) U qkr (Bn (T U)) ?_ U Ac)⟩;refine x_y (i:=16) U qkr (Bn (T U)) ?_ U Ac;refine Ew qkr U ?_;refine rO tb 1 U ?_;refine Bf (_) ?_ ⟨atd,atd,atd,atd,trivial⟩ ⟨Aa U,Aa U,Aa U,Aa U,Aa U,Aa U,Aa U,Aa U,trivial⟩ sbt
    trivial
  ·refine Cf U (Ai zeroValue32 cs_) ?_ U Ac;rintro _ _ ⟨n12,rfl,rfl⟩;refine⟨sbt,(Ci (i:=2) qkr qkr ?_)⟩;refine Cf U (Br (.cons (T U) .nil) (ybs23_1_0 _ _ _ _ _ _ _)) ?_ U Ac;rintro _ _ ⟨n70,rfl,rfl⟩;refine⟨sbt,(x_y (i:=3) U qkr (Bd (.cons An (.cons (T U) .nil)) (ybd25_0_4 _ _ _ _)) ?_ U Ac)⟩;refine x_y (i:=4) U qkr (Aw (qe1 U) call39 (fun H' hs=>Le (mNo n70 mTim))) ?_ U Ac;refine Ci (i:=6) qkr qkr ?_;refine Cf U (Al (qe3 U U U) call25 (ealways_s C9 (some ⟨n44,0,none⟩) 3 (hA0.mono (by exact sbt)) (.fil U (.no U U (.tim U U U))) (by rw[Bw];exact trivial) (B6 (pd_no (by repeat (first|exact Am|refine Ar ?_)) C5)) (.fil U (.tru U)) (by rw[Bw];exact trivial) (B6 C5) (sz_ex _) sz_ex2)) ?_ U Ac;rintro _ _ ⟨⟨bl3,t3,h3,is3,e3,rfl,o3,T3,a3⟩,rfl⟩;obtain⟨rfl,rfl,rfl,rfl⟩:=q3_a T3.up (tk_ex T3) a3;refine⟨sbt,(x_y (i:=7) U qkr (Cd (T U)) ?_ U Ac)⟩;refine x_y (i:=8) U qkr (A1 (T U) U) ?_ U Ac;refine x_y (i:=9) U qkr (A1 (T U) U) ?_ U Ac;refine x_y (i:=10) U qkr (A1 (T U) U) ?_ U Ac;refine x_y (i:=11) U qkr (A1 (T U) U) ?_ U Ac;refine x_y (i:=13) U qkr (Bn (T U)) ?_ U Ac;refine Ci (i:=14) qkr qkr ?_;refine Cf U (Nq U U sizeOf32 .agg (Bh _) (Aj Bu) (by repeat (first|exact Upd.h|apply Upd.t|apply Bl)) (by rw[Aj Bu];rfl)) ?_ U Ac;rintro _ _ ⟨rfl,rfl⟩;refine⟨sbt,(x_y (i:=15) U qkr (Bn (T U)) ?_ U Ac)⟩;refine x_y (i:=16) U qkr (Bn (T U)) ?_ U Ac;refine Ew qkr U ?_;refine rO tb 1 U ?_;refine Bf (_) ?_ ⟨atd,atd,atd,atd,trivial⟩ ⟨Aa U,Aa U,Aa U,Aa U,Aa U,Aa U,Aa U,Aa U,trivial⟩ sbt
   trivial
 rintro n12 -;refine Gc (X:=Unit) (V:=fun z=>[(16, .bool true),(17, .int .i64 0)]) (C:=[(1,_),(2,_),(3,_),(6,_),(7,_),(8,_),(9,_),(10,_),(11,_),(12,_),(13,_),(14,_)]) (G:=fun z=>(n12,Cl (hdC hd0) 32)::(n8,Cl (hdC hd0) 32)::(n4,Cl (encPd mTim) 25)::(n3,Cl (encPo (mSet nK 1)) 28)::(n2,Cl (encPo (mFil mTru)) 28)::(n44,Cl (exF.flatMap encF) 127)::H) (φ:=fun z=>True) ⟨Aa U,Aa U,Aa U,Aa U,Aa U,Aa U,Aa U,Aa U,Aa U,Aa U,Aa U,Aa U,trivial⟩ ?_ ?_
 ·refine rD tb 0 U (J4 14 _ mixd qkr sb0 ?_ Bp);refine x_y (i:=0) U qkr (Cd (T U)) ?_ U Ac;refine x_y (i:=1) U qkr (Nn U isAgg28 sizeOf28 U (by first|exact As)) ?_ U Ac;refine x_y (i:=2) U qkr (Nn U isAgg28 sizeOf28 U (by first|exact As)) ?_ U Ac;refine x_y (i:=4) U qkr (Nn U isAgg28 sizeOf28 U (by first|exact As)) ?_ U Ac;refine Ht (i:=3) (j:=10) qkr qkr ?_ ?_
  ·refine Cf U (Al (qe2 U U) call32 (I9 (mFil mTru) (mSet nK 1))) ?_ U Ac;rintro _ _ ⟨n83,rfl,rfl⟩;refine⟨sbt,?_⟩;refine Ht (i:=5) (j:=10) qkr qkr ?_ ?_
   ·refine Cf U (Al (.cons (T U) (.cons (T U) (.cons (T U) (.cons An .nil)))) call14 (Gz (Im C9 (some ⟨n44,0,none⟩) 3 (hA0.mono (by exact sbt)) 0 (.uni U U (.fil U (.tru U)) (Ck (n:=1) fndK)) (by rw[Bw];exact⟨trivial,⟨inK,(pin 1 qde).2⟩⟩) (Dr (by repeat (first|exact Am|refine Ar ?_)) (B6 C5) (B6 C4)) (Ck (n:=1) fndK) (by rw[Bw];exact⟨inK,(pin 1 qde).2⟩) (B6 C4)) q4_no)) ?_ U Ac;rintro _ _ ⟨⟨h4,is4,rfl,o4,a4⟩,rfl⟩;obtain⟨rfl,rfl⟩:=q4_a a4;refine⟨sbt,(x_y (i:=6) U qkr (Cd (T U)) ?_ U Ac)⟩;refine x_y (i:=7) U qkr (A1 (T U) U) ?_ U Ac;refine x_y (i:=8) U qkr (A1 (T U) U) ?_ U Ac;refine x_y (i:=9) U qkr (A1 (T U) U) ?_ U Ac;refine Ci (i:=10) qkr qkr ?_;refine Cf U (Ai zeroValue32 cs_) ?_ U Ac;rintro _ _ ⟨n15,rfl,rfl⟩;refine⟨sbt,(Ci (i:=11) qkr qkr ?_)⟩;refine Cf U (Nq U U sizeOf32 .agg (Bh _) (Aj Bu) (by repeat (first|exact Upd.h|apply Upd.t|apply Bl)) (by rw[Aj Bu];rfl)) ?_ U Ac;rintro _ _ ⟨rfl,rfl⟩;refine⟨sbt,(x_y (i:=12) U qkr (Bn (T U)) ?_ U Ac)⟩;refine x_y (i:=13) U qkr (Bn (T U)) ?_ U Ac;refine Ew qkr U ?_;refine rO tb 1 U ?_;refine Bf (()) ?_ ⟨atd,atd,trivial⟩ ⟨Aa U,Aa U,Aa U,Aa U,Aa U,Aa U,Aa U,Aa U,Aa U,Aa U,Aa U,Aa U,trivial⟩ sbt
    trivial
   ·refine Cf U (Ai zeroValue32 cs_) ?_ U Ac;rintro _ _ ⟨n15,rfl,rfl⟩;refine⟨sbt,(Ci (i:=5) qkr qkr ?_)⟩;refine Cf U (Al (.cons (T U) (.cons (T U) (.cons (T U) (.cons An .nil)))) call14 (Gz (Im C9 (some ⟨n44,0,none⟩) 3 (hA0.mono (by exact sbt)) 0 (.uni U U (.fil U (.tru U)) (Ck (n:=1) fndK)) (by rw[Bw];exact⟨trivial,⟨inK,(pin 1 qde).2⟩⟩) (Dr (by repeat (first|exact Am|refine Ar ?_)) (B6 C5) (B6 C4)) (Ck (n:=1) fndK) (by rw[Bw];exact⟨inK,(pin 1 qde).2⟩) (B6 C4)) q4_no)) ?_ U Ac;rintro _ _ ⟨⟨h4,is4,rfl,o4,a4⟩,rfl⟩;obtain⟨rfl,rfl⟩:=q4_a a4;refine⟨sbt,(x_y (i:=6) U qkr (Cd (T U)) ?_ U Ac)⟩;refine x_y (i:=7) U qkr (A1 (T U) U) ?_ U Ac;refine x_y (i:=8) U qkr (A1 (T U) U) ?_ U Ac;refine x_y (i:=9) U qkr (A1 (T U) U) ?_ U Ac;refine Ci (i:=11) qkr qkr ?_;refine Cf U (Nq U U sizeOf32 .agg (Bh _) (Aj Bu) (by repeat (first|exact Upd.h|apply Upd.t|apply Bl)) (by rw[Aj Bu];rfl)) ?_ U Ac;rintro _ _ ⟨rfl,rfl⟩;refine⟨sbt,(x_y (i:=12) U qkr (Bn (T U)) ?_ U Ac)⟩;refine x_y (i:=13) U qkr (Bn (T U)) ?_ U Ac;refine Ew qkr U ?_;refine rO tb 1 U ?_;refine Bf (()) ?_ ⟨atd,atd,trivial⟩ ⟨Aa U,Aa U,Aa U,Aa U,Aa U,Aa U,Aa U,Aa U,Aa U,Aa U,Aa U,Aa U,trivial⟩ sbt
    trivial
  ·refine Cf U (Ai zeroValue32 cs_) ?_ U Ac;rintro _ _ ⟨n15,rfl,rfl⟩;refine⟨sbt,(Ci (i:=3) qkr qkr ?_)⟩;refine Cf U (Al (qe2 U U) call32 (I9 (mFil mTru) (mSet nK 1))) ?_ U Ac;rintro _ _ ⟨n83,rfl,rfl⟩;refine⟨sbt,(Ci (i:=5) qkr qkr ?_)⟩;refine Cf U (Al (.cons (T U) (.cons (T U) (.cons (T U) (.cons An .nil)))) call14 (Gz (Im C9 (some ⟨n44,0,none⟩) 3 (hA0.mono (by exact sbt)) 0 (.uni U U (.fil U (.tru U)) (Ck (n:=1) fndK)) (by rw[Bw];exact⟨trivial,⟨inK,(pin 1 qde).2⟩⟩) (Dr (by repeat (first|exact Am|refine Ar ?_)) (B6 C5) (B6 C4)) (Ck (n:=1) fndK) (by rw[Bw];exact⟨inK,(pin 1 qde).2⟩) (B6 C4)) q4_no)) ?_ U Ac;rintro _ _ ⟨⟨h4,is4,rfl,o4,a4⟩,rfl⟩;obtain⟨rfl,rfl⟩:=q4_a a4;refine⟨sbt,(x_y (i:=6) U qkr (Cd (T U)) ?_ U Ac)⟩;refine x_y (i:=7) U qkr (A1 (T U) U) ?_ U Ac;refine x_y (i:=8) U qkr (A1 (T U) U) ?_ U Ac;refine x_y (i:=9) U qkr (A1 (T U) U) ?_ U Ac;refine Ci (i:=11) qkr qkr ?_;refine Cf U (Nq U U sizeOf32 .agg (Bh _) (Aj Bu) (by repeat (first|exact Upd.h|apply Upd.t|apply Bl)) (by rw[Aj Bu];rfl)) ?_ U Ac;rintro _ _ ⟨rfl,rfl⟩;refine⟨sbt,(x_y (i:=12) U qkr (Bn (T U)) ?_ U Ac)⟩;refine x_y (i:=13) U qkr (Bn (T U)) ?_ U Ac;refine Ew qkr U ?_;refine rO tb 1 U ?_;refine Bf (()) ?_ ⟨atd,atd,trivial⟩ ⟨Aa U,Aa U,Aa U,Aa U,Aa U,Aa U,Aa U,Aa U,Aa U,Aa U,Aa U,Aa U,trivial⟩ sbt
   trivial
 rintro z -;refine Gc (X:=Unit) (V:=fun z=>[(19, .bool false),(20, .int .i64 0)]) (C:=[(1,_),(2,_),(6,_),(7,_),(8,_),(9,_),(10,_),(11,_),(12,_),(13,_),(14,_),(16,_),(17,_)]) (G:=fun z=>(n12,Cl (hdC hd0) 32)::(n8,Cl (hdC hd0) 32)::(n4,Cl (encPd mTim) 25)::(n3,Cl (encPo (mSet nK 1)) 28)::(n2,Cl (encPo (mFil mTru)) 28)::(n44,Cl (exF.flatMap encF) 127)::H) (φ:=fun z=>True) ⟨Aa U,Aa U,Aa U,Aa U,Aa U,Aa U,Aa U,Aa U,Aa U,Aa U,Aa U,Aa U,Aa U,trivial⟩ ?_ ?_
 ·refine rD tb 0 U (J4 14 _ mixd qkr sb0 ?_ Bp);refine x_y (i:=0) U qkr (Cd (T U)) ?_ U Ac;refine x_y (i:=1) U qkr (Nn U isAgg28 sizeOf28 U (by first|exact As)) ?_ U Ac;refine x_y (i:=2) U qkr (Nn U isAgg28 sizeOf28 U (by first|exact As)) ?_ U Ac;refine x_y (i:=3) U qkr (Nn U isAgg28 sizeOf28 U (by first|exact As)) ?_ U Ac;refine Ht (i:=4) (j:=10) qkr qkr ?_ ?_
  ·refine Cf U (Al (qe2 U U) call32 (I9 (mFil mTru) (mSet nK 1))) ?_ U Ac;rintro _ _ ⟨n94,rfl,rfl⟩;refine⟨sbt,?_⟩;refine Ht (i:=5) (j:=10) qkr qkr ?_ ?_
   ·refine Cf U (Al (.cons (T U) (.cons (T U) (.cons (T U) (.cons An .nil)))) call14 (Gz (Im C9 (some ⟨n44,0,none⟩) 3 (hA0.mono (by exact sbt)) 0 (Ck (n:=1) fndK) (by rw[Bw];exact⟨inK,(pin 1 qde).2⟩) (B6 C4) (.uni U U (.fil U (.tru U)) (Ck (n:=1) fndK)) (by rw[Bw];exact⟨trivial,⟨inK,(pin 1 qde).2⟩⟩) (Dr (by repeat (first|exact Am|refine Ar ?_)) (B6 C5) (B6 C4))) q5_no)) ?_ U Ac;rintro _ _ ⟨⟨h5,is5,rfl,o5,a5⟩,rfl⟩;obtain rfl:=q5_a a5;refine⟨sbt,(x_y (i:=6) U qkr (Cd (T U)) ?_ U Ac)⟩;refine x_y (i:=7) U qkr (A1 (T U) U) ?_ U Ac;refine x_y (i:=8) U qkr (A1 (T U) U) ?_ U Ac;refine x_y (i:=9) U qkr (A1 (T U) U) ?_ U Ac;refine Ci (i:=10) qkr qkr ?_;refine Cf U (Ai zeroValue32 cs_) ?_ U Ac;rintro _ _ ⟨n18,rfl,rfl⟩;refine⟨sbt,(Ci (i:=11) qkr qkr ?_)⟩;refine Cf U (Nq U U sizeOf32 .agg (Bh _) (Aj o5) (by repeat (first|exact Upd.h|apply Upd.t|apply Bl)) (by rw[Aj o5];rfl)) ?_ U Ac;rintro _ _ ⟨rfl,rfl⟩;refine⟨sbt,(x_y (i:=12) U qkr (Bn (T U)) ?_ U Ac)⟩;refine x_y (i:=13) U qkr (Bn (T U)) ?_ U Ac;refine Ew qkr U ?_;refine rO tb 1 U ?_;refine Bf (()) ?_ ⟨atd,atd,trivial⟩ ⟨Aa U,Aa U,Aa U,Aa U,Aa U,Aa U,Aa U,Aa U,Aa U,Aa U,Aa U,Aa U,Aa U,trivial⟩ sbt
    trivial
   ·refine Cf U (Ai zeroValue32 cs_) ?_ U Ac;rintro _ _ ⟨n18,rfl,rfl⟩;refine⟨sbt,(Ci (i:=5) qkr qkr ?_)⟩;refine Cf U (Al (.cons (T U) (.cons (T U) (.cons (T U) (.cons An .nil)))) call14 (Gz (Im C9 (some ⟨n44,0,none⟩) 3 (hA0.mono (by exact sbt)) 0 (Ck (n:=1) fndK) (by rw[Bw];exact⟨inK,(pin 1 qde).2⟩) (B6 C4) (.uni U U (.fil U (.tru U)) (Ck (n:=1) fndK)) (by rw[Bw];exact⟨trivial,⟨inK,(pin 1 qde).2⟩⟩) (Dr (by repeat (first|exact Am|refine Ar ?_)) (B6 C5) (B6 C4))) q5_no)) ?_ U Ac;rintro _ _ ⟨⟨h5,is5,rfl,o5,a5⟩,rfl⟩;obtain rfl:=q5_a a5;refine⟨sbt,(x_y (i:=6) U qkr (Cd (T U)) ?_ U Ac)⟩;refine x_y (i:=7) U qkr (A1 (T U) U) ?_ U Ac;refine x_y (i:=8) U qkr (A1 (T U) U) ?_ U Ac;refine x_y (i:=9) U qkr (A1 (T U) U) ?_ U Ac;refine Ci (i:=11) qkr qkr ?_;refine Cf U (Nq U U sizeOf32 .agg (Bh _) (Aj o5) (by repeat (first|exact Upd.h|apply Upd.t|apply Bl)) (by rw[Aj o5];rfl)) ?_ U Ac;rintro _ _ ⟨rfl,rfl⟩;refine⟨sbt,(x_y (i:=12) U qkr (Bn (T U)) ?_ U Ac)⟩;refine x_y (i:=13) U qkr (Bn (T U)) ?_ U Ac;refine Ew qkr U ?_;refine rO tb 1 U ?_;refine Bf (()) ?_ ⟨atd,atd,trivial⟩ ⟨Aa U,Aa U,Aa U,Aa U,Aa U,Aa U,Aa U,Aa U,Aa U,Aa U,Aa U,Aa U,Aa U,trivial⟩ sbt
    trivial
  ·refine Cf U (Ai zeroValue32 cs_) ?_ U Ac;rintro _ _ ⟨n18,rfl,rfl⟩;refine⟨sbt,(Ci (i:=4) qkr qkr ?_)⟩;refine Cf U (Al (qe2 U U) call32 (I9 (mFil mTru) (mSet nK 1))) ?_ U Ac;rintro _ _ ⟨n94,rfl,rfl⟩;refine⟨sbt,(Ci (i:=5) qkr qkr ?_)⟩;refine Cf U (Al (.cons (T U) (.cons (T U) (.cons (T U) (.cons An .nil)))) call14 (Gz (Im C9 (some ⟨n44,0,none⟩) 3 (hA0.mono (by exact sbt)) 0 (Ck (n:=1) fndK) (by rw[Bw];exact⟨inK,(pin 1 qde).2⟩) (B6 C4) (.uni U U (.fil U (.tru U)) (Ck (n:=1) fndK)) (by rw[Bw];exact⟨trivial,⟨inK,(pin 1 qde).2⟩⟩) (Dr (by repeat (first|exact Am|refine Ar ?_)) (B6 C5) (B6 C4))) q5_no)) ?_ U Ac;rintro _ _ ⟨⟨h5,is5,rfl,o5,a5⟩,rfl⟩;obtain rfl:=q5_a a5;refine⟨sbt,(x_y (i:=6) U qkr (Cd (T U)) ?_ U Ac)⟩;refine x_y (i:=7) U qkr (A1 (T U) U) ?_ U Ac;refine x_y (i:=8) U qkr (A1 (T U) U) ?_ U Ac;refine x_y (i:=9) U qkr (A1 (T U) U) ?_ U Ac;refine Ci (i:=11) qkr qkr ?_;refine Cf U (Nq U U sizeOf32 .agg (Bh _) (Aj o5) (by repeat (first|exact Upd.h|apply Upd.t|apply Bl)) (by rw[Aj o5];rfl)) ?_ U Ac;rintro _ _ ⟨rfl,rfl⟩;refine⟨sbt,(x_y (i:=12) U qkr (Bn (T U)) ?_ U Ac)⟩;refine x_y (i:=13) U qkr (Bn (T U)) ?_ U Ac;refine Ew qkr U ?_;refine rO tb 1 U ?_;refine Bf (()) ?_ ⟨atd,atd,trivial⟩ ⟨Aa U,Aa U,Aa U,Aa U,Aa U,Aa U,Aa U,Aa U,Aa U,Aa U,Aa U,Aa U,Aa U,trivial⟩ sbt
   trivial
 rintro z -;refine rC tb 3 U (y_ (Aw (.cons An (.cons An .nil)) call41 (fun H' hs=>Jy nK 1)) (y_ (Aw (.cons An (.cons An .nil)) call41 (fun H' hs=>Jy nK 2)) (e_ (Al (qe2 U U) call33 (Lf (mFil (mEq nK 1)) (mFil (mEq nK 2)))) ?_ U) U) U);rintro _ _ ⟨n103,rfl,rfl⟩;refine e_ (Al (.cons (T U) (.cons (T U) (.cons An .nil))) call17 (Gz (eempty_s C9 (some ⟨n44,0,none⟩) 3 (hA0.mono (by exact sbt)) 0 (.seq U U (Iv (n:=1) fndK) (Iv (n:=2) fndK)) (by rw[Bw];exact⟨⟨inK,(pin 1 qde).2⟩,⟨inK,(pin 2 qde).2⟩⟩) (Dr (by repeat (first|exact Am|refine Ar ?_)) (B6 C5) (B6 C5))) q6_no)) ?_ U;rintro _ _ ⟨⟨h6,is6,rfl,o6,a6⟩,rfl⟩;obtain⟨rfl,rfl⟩:=q6_a a6;refine rO tb 4 U (e_ (Ai zeroValue32 cs_) ?_ U);rintro _ _ ⟨n21,rfl,rfl⟩;refine e_ (Nq U U sizeOf32 .agg (Bh _) (Aj Bu) (by repeat (first|exact Upd.h|apply Upd.t|apply Bl)) (by rw[Aj Bu];rfl)) ?_ U;rintro _ _ ⟨rfl,rfl⟩;refine rO tb 7 U (y_ (Bd (.cons An (.cons An (.cons An .nil))) (ybd25_0_1_3 _ _ _)) (y_ (Aw (qe1 U) call39 (fun H' hs=>Le mRng)) (e_ (Al (.cons (T U) (.cons (T U) (.cons An .nil))) call18 (Gz (etotal_s C9 (some ⟨n44,0,none⟩) 3 (hA0.mono (by exact sbt)) 0 (.fil U (fndK ▸ .rng (n:=0) (k:=6) U U U)) (by rw[Bw];exact⟨inK,by decide,by decide⟩) (B6 C5)) q7_no)) ?_ U) U) U);rintro _ _ ⟨⟨h7,is7,rfl,o7,a7⟩,rfl⟩;obtain⟨rfl,rfl⟩:=q7_a a7;refine rO tb 4 U (e_ (Ai zeroValue32 cs_) ?_ U);rintro _ _ ⟨n24,rfl,rfl⟩;refine e_ (Nq U U sizeOf32 .agg (Bh _) (Aj Mv) (by repeat (first|exact Upd.h|apply Upd.t|apply Bl)) (by rw[Aj Mv];rfl)) ?_ U;rintro _ _ ⟨rfl,rfl⟩;refine kO tb 4 [1,2,6,7,8,9,10,11,12,13,14,16,17,19,20,22,23,24,25,26] rfl U ?_;refine Gc (X:=Unit) (V:=fun z=>[(28, .bool false),(29, .int .i64 0)]) (C:=[(1,_),(6,_),(7,_),(8,_),(9,_),(10,_),(11,_),(12,_),(13,_),(14,_),(16,_),(17,_),(19,_),(20,_),(22,_),(23,_),(24,_),(25,_),(26,_)]) (G:=fun z=>(n24,Cl (hdC xK7) 32)::(n12,Cl (hdC hd0) 32)::(n8,Cl (hdC hd0) 32)::(n4,Cl (encPd mTim) 25)::(n3,Cl (encPo (mSet nK 1)) 28)::(n2,Cl (encPo (mFil mTru)) 28)::(n44,Cl (exF.flatMap encF) 127)::H) (φ:=fun z=>True) ⟨Aa U,Aa U,Aa U,Aa U,Aa U,Aa U,Aa U,Aa U,Aa U,Aa U,Aa U,Aa U,Aa U,Aa U,Aa U,Aa U,Aa U,Aa U,Aa U,trivial⟩ ?_ ?_
 ·refine rD tb 0 U (J4 13 _ mixd qkr sb0 ?_ Bp);refine x_y (i:=0) U qkr (Cd (T U)) ?_ U Ac;refine x_y (i:=1) U qkr (Nn U isAgg28 sizeOf28 U (by first|exact As)) ?_ U Ac;refine x_y (i:=2) U qkr (Aw (.cons An (.cons An .nil)) call40 (fun H' hs=>Hk nK 3)) ?_ U Ac;refine Ht (i:=3) (j:=9) qkr qkr ?_ ?_
  ·refine Cf U (Al (qe2 U U) call32 (I9 (mFil mTru) (mSet nK 3))) ?_ U Ac;rintro _ _ ⟨n120,rfl,rfl⟩;refine⟨sbt,?_⟩;refine Ht (i:=4) (j:=9) qkr qkr ?_ ?_
   ·refine Cf U (Al (.cons (T U) (.cons (T U) (.cons An .nil))) call19 (Gz (esingle_s C9 (some ⟨n44,0,none⟩) 3 (hA0.mono (by exact sbt)) 0 (.uni U U (.fil U (.tru U)) (Ck (n:=3) fndK)) (by rw[Bw];exact⟨trivial,⟨inK,(pin 3 qde).2⟩⟩) (Dr (by repeat (first|exact Am|refine Ar ?_)) (B6 C5) (B6 C4)) (by show (4:Nat)≤62;decide) e8 hE8) q8_no)) ?_ U Ac;rintro _ _ ⟨⟨h8,is8,rfl,o8,a8⟩,rfl⟩;obtain rfl:=q8_a a8;refine⟨sbt,(x_y (i:=5) U qkr (Cd (T U)) ?_ U Ac)⟩;refine x_y (i:=6) U qkr (A1 (T U) U) ?_ U Ac;refine x_y (i:=7) U qkr (A1 (T U) U) ?_ U Ac;refine x_y (i:=8) U qkr (A1 (T U) U) ?_ U Ac;refine Ci (i:=9) qkr qkr ?_;refine Cf U (Ai zeroValue32 cs_) ?_ U Ac;rintro _ _ ⟨n27,rfl,rfl⟩;refine⟨sbt,(Ci (i:=10) qkr qkr ?_)⟩;refine Cf U (Nq U U sizeOf32 .agg (Bh _) (Aj o8) (by repeat (first|exact Upd.h|apply Upd.t|apply Bl)) (by rw[Aj o8];rfl)) ?_ U Ac;rintro _ _ ⟨rfl,rfl⟩;refine⟨sbt,(x_y (i:=11) U qkr (Bn (T U)) ?_ U Ac)⟩;refine x_y (i:=12) U qkr (Bn (T U)) ?_ U Ac;refine Ew qkr U ?_;refine rO tb 1 U ?_;refine Bf (()) ?_ ⟨atd,atd,trivial⟩ ⟨Aa U,Aa U,Aa U,Aa U,Aa U,Aa U,Aa U,Aa U,Aa U,Aa U,Aa U,Aa U,Aa U,Aa U,Aa U,Aa U,Aa U,Aa U,Aa U,trivial⟩ sbt
    trivial
   ·refine Cf U (Ai zeroValue32 cs_) ?_ U Ac;rintro _ _ ⟨n27,rfl,rfl⟩;refine⟨sbt,(Ci (i:=4) qkr qkr ?_)⟩;refine Cf U (Al (.cons (T U) (.cons (T U) (.cons An .nil))) call19 (Gz (esingle_s C9 (some ⟨n44,0,none⟩) 3 (hA0.mono (by exact sbt)) 0 (.uni U U (.fil U (.tru U)) (Ck (n:=3) fndK)) (by rw[Bw];exact⟨trivial,⟨inK,(pin 3 qde).2⟩⟩) (Dr (by repeat (first|exact Am|refine Ar ?_)) (B6 C5) (B6 C4)) (by show (4:Nat)≤62;decide) e8 hE8) q8_no)) ?_ U Ac;rintro _ _ ⟨⟨h8,is8,rfl,o8,a8⟩,rfl⟩;obtain rfl:=q8_a a8;refine⟨sbt,(x_y (i:=5) U qkr (Cd (T U)) ?_ U Ac)⟩;refine x_y (i:=6) U qkr (A1 (T U) U) ?_ U Ac;refine x_y (i:=7) U qkr (A1 (T U) U) ?_ U Ac;refine x_y (i:=8) U qkr (A1 (T U) U) ?_ U Ac;refine Ci (i:=10) qkr qkr ?_;refine Cf U (Nq U U sizeOf32 .agg (Bh _) (Aj o8) (by repeat (first|exact Upd.h|apply Upd.t|apply Bl)) (by rw[Aj o8];rfl)) ?_ U Ac;rintro _ _ ⟨rfl,rfl⟩;refine⟨sbt,(x_y (i:=11) U qkr (Bn (T U)) ?_ U Ac)⟩;refine x_y (i:=12) U qkr (Bn (T U)) ?_ U Ac;refine Ew qkr U ?_;refine rO tb 1 U ?_;refine Bf (()) ?_ ⟨atd,atd,trivial⟩ ⟨Aa U,Aa U,Aa U,Aa U,Aa U,Aa U,Aa U,Aa U,Aa U,Aa U,Aa U,Aa U,Aa U,Aa U,Aa U,Aa U,Aa U,Aa U,Aa U,trivial⟩ sbt
    trivial
  ·refine Cf U (Ai zeroValue32 cs_) ?_ U Ac;rintro _ _ ⟨n27,rfl,rfl⟩;refine⟨sbt,(Ci (i:=3) qkr qkr ?_)⟩;refine Cf U (Al (qe2 U U) call32 (I9 (mFil mTru) (mSet nK 3))) ?_ U Ac;rintro _ _ ⟨n120,rfl,rfl⟩;refine⟨sbt,(Ci (i:=4) qkr qkr ?_)⟩;refine Cf U (Al (.cons (T U) (.cons (T U) (.cons An .nil))) call19 (Gz (esingle_s C9 (some ⟨n44,0,none⟩) 3 (hA0.mono (by exact sbt)) 0 (.uni U U (.fil U (.tru U)) (Ck (n:=3) fndK)) (by rw[Bw];exact⟨trivial,⟨inK,(pin 3 qde).2⟩⟩) (Dr (by repeat (first|exact Am|refine Ar ?_)) (B6 C5) (B6 C4)) (by show (4:Nat)≤62;decide) e8 hE8) q8_no)) ?_ U Ac;rintro _ _ ⟨⟨h8,is8,rfl,o8,a8⟩,rfl⟩;obtain rfl:=q8_a a8;refine⟨sbt,(x_y (i:=5) U qkr (Cd (T U)) ?_ U Ac)⟩;refine x_y (i:=6) U qkr (A1 (T U) U) ?_ U Ac;refine x_y (i:=7) U qkr (A1 (T U) U) ?_ U Ac;refine x_y (i:=8) U qkr (A1 (T U) U) ?_ U Ac;refine Ci (i:=10) qkr qkr ?_;refine Cf U (Nq U U sizeOf32 .agg (Bh _) (Aj o8) (by repeat (first|exact Upd.h|apply Upd.t|apply Bl)) (by rw[Aj o8];rfl)) ?_ U Ac;rintro _ _ ⟨rfl,rfl⟩;refine⟨sbt,(x_y (i:=11) U qkr (Bn (T U)) ?_ U Ac)⟩;refine x_y (i:=12) U qkr (Bn (T U)) ?_ U Ac;refine Ew qkr U ?_;refine rO tb 1 U ?_;refine Bf (()) ?_ ⟨atd,atd,trivial⟩ ⟨Aa U,Aa U,Aa U,Aa U,Aa U,Aa U,Aa U,Aa U,Aa U,Aa U,Aa U,Aa U,Aa U,Aa U,Aa U,Aa U,Aa U,Aa U,Aa U,trivial⟩ sbt
   trivial
 rintro z -;refine rC tb 3 U (y_ (Aw (.cons An (.cons An .nil)) call41 (fun H' hs=>Jy nD 1)) (y_ (Aw (.cons An (.cons An .nil)) call41 (fun H' hs=>Jy nD 2)) (e_ (Al (.cons (T U) (.cons (T U) (.cons (T U) (.cons An .nil)))) call20 (Gz (eapart_s C9 (some ⟨n44,0,none⟩) 3 (hA0.mono (by exact sbt)) 0 (Iv (n:=1) fndD) (by rw[Bw];exact⟨inD,(pin 1 qde).1⟩) (B6 C5) (Iv (n:=2) fndD) (by rw[Bw];exact⟨inD,(pin 2 qde).1⟩) (B6 C5)) q9_no)) ?_ U) U) U);rintro _ _ ⟨⟨h9,is9,rfl,o9,a9⟩,rfl⟩;obtain⟨rfl,rfl⟩:=q9_a a9;refine rO tb 4 U (e_ (Ai zeroValue32 cs_) ?_ U);rintro _ _ ⟨n30,rfl,rfl⟩;refine e_ (Nq U U sizeOf32 .agg (Bh _) (Aj Bu) (by repeat (first|exact Upd.h|apply Upd.t|apply Bl)) (by rw[Aj Bu];rfl)) ?_ U;rintro _ _ ⟨rfl,rfl⟩;refine kO tb 4 [1,6,7,8,9,10,11,12,13,14,16,17,19,20,22,23,24,25,26,28,29,31,32] rfl U (rG tb 3 U (y_ (Aw (.cons An (.cons An .nil)) call40 (fun H' hs=>Hk nD 3)) (y_ (Aw (.cons An (.cons An .nil)) call40 (fun H' hs=>Hk ⟨#[115,114,99]⟩ 4)) (e_ (Al (.cons (T U) (.cons (T U) (.cons (T U) (.cons An .nil)))) call21 (Gz (edistinct_s C9 (some ⟨n44,0,none⟩) 3 (hA0.mono (by exact sbt)) 0 (Ck (n:=3) fndD) (by rw[Bw];exact⟨inD,(pin 3 qde).1⟩) (B6 C4) (Ck (n:=4) fndS) (by rw[Bw];exact⟨inS,(by decide:(4:Nat)<2 ^ 8)⟩) (B6 C4) (by show (1:Nat)≤30;decide) (by show (1:Nat)≤30;decide) e10 hE10) q10_no)) ?_ U) U) U));rintro _ _ ⟨⟨h10,is10,rfl,o10,a10⟩,rfl⟩;obtain⟨rfl,rfl⟩:=q10_a a10;refine rO tb 4 U (e_ (Ai zeroValue32 cs_) ?_ U);rintro _ _ ⟨n33,rfl,rfl⟩;refine e_ (Nq U U sizeOf32 .agg (Bh _) (Aj Kg) (by repeat (first|exact Upd.h|apply Upd.t|apply Bl)) (by rw[Aj Kg];rfl)) ?_ U;rintro _ _ ⟨rfl,rfl⟩;refine kO tb 4 [1,6,7,8,9,10,11,12,13,14,16,17,19,20,22,23,24,25,26,28,29,31,32,33,34,35] rfl U (rG tb 3 U (y_ (Aw (.cons An (.cons An .nil)) call41 (fun H' hs=>Jy nD 1)) (y_ (Aw (.cons An (.cons An .nil)) call40 (fun H' hs=>Hk nD 2)) (e_ (Al (qe2 U U) call33 (Lf (mFil (mEq nD 1)) (mSet nD 2))) ?_ U) U) U));rintro _ _ ⟨n145,rfl,rfl⟩;refine y_ (Aw (.cons An (.cons An .nil)) call41 (fun H' hs=>Jy nD 2)) (y_ (Aw (.cons An (.cons An .nil)) call40 (fun H' hs=>Hk nD 3)) (e_ (Al (qe2 U U) call33 (Lf (mFil (mEq nD 2)) (mSet nD 3))) ?_ U) U) U;rintro _ _ ⟨n148,rfl,rfl⟩;refine e_ (Al (.cons (T U) (.cons (T U) (.cons (T U) (.cons An .nil)))) call22 (Gz (eslices_s C9 (some ⟨n44,0,none⟩) 3 (hA0.mono (by exact sbt)) 0 (.seq U U (Iv (n:=1) fndD) (Ck (n:=2) fndD)) (by rw[Bw];exact⟨⟨inD,(pin 1 qde).1⟩,⟨inD,(pin 2 qde).1⟩⟩) (Dr (by repeat (first|exact Am|refine Ar ?_)) (B6 C5) (B6 C4)) (.seq U U (Iv (n:=2) fndD) (Ck (n:=3) fndD)) (by rw[Bw];exact⟨⟨inD,(pin 2 qde).1⟩,⟨inD,(pin 3 qde).1⟩⟩) (Dr (by repeat (first|exact Am|refine Ar ?_)) (B6 C5) (B6 C4))) q11_no)) ?_ U;rintro _ _ ⟨⟨h11,is11,rfl,o11,a11⟩,rfl⟩;obtain⟨rfl,rfl⟩:=q11_a a11;refine rO tb 4 U (e_ (Ai zeroValue32 cs_) ?_ U);rintro _ _ ⟨n36,rfl,rfl⟩;refine e_ (Nq U U sizeOf32 .agg (Bh _) (Aj Mw) (by repeat (first|exact Upd.h|apply Upd.t|apply Bl)) (by rw[Aj Mw];rfl)) ?_ U;rintro _ _ ⟨rfl,rfl⟩;refine kO tb 4 [1,6,7,8,9,10,11,12,13,14,16,17,19,20,22,23,24,25,26,28,29,31,32,33,34,35,36,37,38] rfl U (rG tb 3 U (y_ (Aw (.cons An (.cons An .nil)) call41 (fun H' hs=>Jy nD 1)) (y_ (Aw (.cons An (.cons An .nil)) call41 (fun H' hs=>Jy nD 2)) (e_ (Al (.cons (T U) (.cons (T U) (.cons (T U) (.cons An .nil)))) call22 (Gz (eslices_s C9 (some ⟨n44,0,none⟩) 3 (hA0.mono (by exact sbt)) 0 (Iv (n:=1) fndD) (by rw[Bw];exact⟨inD,(pin 1 qde).1⟩) (B6 C5) (Iv (n:=2) fndD) (by rw[Bw];exact⟨inD,(pin 2 qde).1⟩) (B6 C5)) q12_no)) ?_ U) U) U));rintro _ _ ⟨⟨h12,is12,rfl,o12,a12⟩,rfl⟩;obtain⟨rfl,rfl⟩:=q12_a a12;refine rO tb 4 U (e_ (Ai zeroValue32 cs_) ?_ U);rintro _ _ ⟨n39,rfl,rfl⟩;refine e_ (Nq U U sizeOf32 .agg (Bh _) (Aj Bu) (by repeat (first|exact Upd.h|apply Upd.t|apply Bl)) (by rw[Aj Bu];rfl)) ?_ U;rintro _ _ ⟨rfl,rfl⟩;refine kO tb 4 [6,7,8,9,10,11,12,13,14,16,17,19,20,22,23,24,25,26,28,29,31,32,33,34,35,36,37,38,40,41] rfl U (rG tb 5 U (y_ (A8 (T U) (T U) qom) ?_ U));refine rO tb 1 U (y_ (A8 (T U) (T U) qom) ?_ U);refine rO tb 1 U (y_ (A8 (T U) (T U) qom) ?_ U);refine rO tb 1 U (y_ (A8 (T U) (T U) qom) ?_ U);refine rO tb 1 U (y_ (A8 (T U) (T U) qom) ?_ U);refine rO tb 1 U (y_ (A8 (T U) (T U) qom) ?_ U);refine rO tb 1 U (y_ (A8 (T U) (T U) qom) ?_ U);refine rO tb 1 U (y_ (A8 (T U) (T U) qom) ?_ U);refine rO tb 1 U (y_ (A8 (T U) (T U) qom) ?_ U);refine rO tb 1 U (y_ (A8 (T U) (T U) qom) ?_ U);refine rO tb 1 U (y_ (A8 (T U) (T U) qom) ?_ U);refine y_ (yl_neF (T U) An qde) ?_ U;refine kO tb 2 [6,8,9,11,12,13,16,19,22,24,25,28,31,33,34,36,37,40,184] rfl U (rG tb 8 U ?_)
 first|refine A9 (B1 (T U)) U (Bg U U (Aa U)) ?_
 refine rO tb 2 U (A9 (Nn U isAgg32 sizeOf32 U (by first|exact As)) U (Bg U U (Aa U)) ?_);refine A9 (Bd .nil (Kr)) U (Bg U U (Aa U)) (A9 (Hn (T U) (T U) qkr eqH0) U (Bg U U (Aa U)) ?_);refine rO tb 3 U (A9 (yl_eqT (T U) An U) U (Bg U U (Aa U)) (rO tb 2 U (A9 (Nn U isAgg32 sizeOf32 U (by first|exact As)) U (Bg U U (Aa U)) ?_)));refine A9 (Bd .nil (Kr)) U (Bg U U (Aa U)) (A9 (Hn (T U) (T U) qkr eqH0) U (Bg U U (Aa U)) ?_);refine rO tb 3 U ?_
 first|refine A9 (B1 (T U)) U (Bg U U (Aa U)) ?_
 refine rO tb 6 U ?_
 first|refine A9 (B1 (T U)) U (Bg U U (Aa U)) ?_
 refine kO tb 7 [24,25,28,31,33,34,36,37,40,42] rfl U (rG tb 1 U (Bk 36 [(0,true),(1,true),(2,true),(3,true),(4,true),(5,true),(6,true),(7,true),(8,true),(9,true),(10,true),(11,true),(12,true),(13,true),(14,true),(15,true),(16,true),(17,true),(18,true),(19,true),(20,true),(21,true),(22,true),(23,true),(24,true),(25,true),(26,true),(27,true),(28,true),(29,true),(30,true),(31,true),(32,true),(33,true),(34,true),(35,true)] _ mixd qkr sb0 ?_ Bp));refine rP tb 1 U ?_
 first|refine o_y U (B1 (T U)) ?_ U Ac
 refine rP tb 1 U (o_y U (Nn U isAgg32 sizeOf32 U (by first|exact As)) ?_ U (Bg U U (Aa U)));refine o_y U (Aw (.cons An (.cons An (.cons An .nil))) call42 (fun H' hs=>khead1_s)) (o_y U (Hn (T U) (T U) qkr eqX1) ?_ U (Bg U U (Aa U))) U (Bg U U (Aa U));refine rP tb 3 U ?_
 first|refine o_y U (B1 (T U)) ?_ U (Bg U U (Aa U))
 refine rP tb 6 U ?_
 first|refine o_y U (B1 (T U)) ?_ U (Bg U U (Aa U))
 refine rP tb 2 U (o_y U (Nn U isAgg32 sizeOf32 U (by first|exact As)) ?_ U (Bg U U (Aa U)));refine o_y U (Aw (.cons An (.cons An (.cons An .nil))) call42 (fun H' hs=>khead2_s)) (o_y U (Hn (T U) (T U) qkr eqX2) ?_ U (Bg U U (Aa U))) U (Bg U U (Aa U));refine rP tb 3 U ?_
 first|refine o_y U (B1 (T U)) ?_ U (Bg U U (Aa U))
 refine rP tb 2 U (o_y U (Nn U isAgg32 sizeOf32 U (by first|exact As)) ?_ U (Bg U U (Aa U)));refine o_y U (Aw (.cons An (.cons An (.cons An .nil))) call42 (fun H' hs=>khead3_s)) (o_y U (Hn (T U) (T U) qkr eqX3) ?_ U (Bg U U (Aa U))) U (Bg U U (Aa U));refine rP tb 5 U (A4 U (kO tb 2 [42,43] rfl U (rG tb 10 U (Ak U (Nk U) ?_))));exact⟨_,⟨rfl,rfl⟩,by exact sbt⟩
theorem fis_arr {w0:World}{H:List (Nat × Obj)}{q:Option Addr}{fi:List Fi}(h:FisOk fi)(hA:Arr w0 H q 3 encFi fi):Arr w0 H q 3 encF (fi.map Fi.fd):=fun i u hi=>by
 have he:=h.enc;rw[List.getElem?_map] at hi;cases hf:fi[i]? with
 |none=>rw[hf] at hi;cases hi
 |some f=>
  rw[hf] at hi;obtain rfl:f.fd=u:=Option.some.inj hi;have h2:encFi f=encF f.fd:=by
   have h3:(fi.map encFi)[i]? =((fi.map Fi.fd).map encF)[i]? :=by rw[he]
   rw[List.getElem?_map,List.getElem?_map,List.getElem?_map,hf] at h3;exact Option.some.inj h3
  have:=hA i f hf;rw[h2] at this;exact this
theorem rpol_n {w0:World}{H:List (Nat × Obj)}(fl:List Fd)(hfl:FlOk fl)(q:Option Addr)(n c:Nat)(hn:n=fl.length)(hA:FlA w0 H q fl){m:Pom}(hM:PoM w0 H m)(hm:m.sz≤1000000000)(hz:NmO m):
  FSpec Tryz.prog w0 80 #[.slice q n c, .agg (encPo m).toArray] H (SayE (m.nd≤200∧FmO m∧∀ a∈prtO m,FitO fl a) H):=by
 subst hn;exact rpolicy_s fl hfl q c hA hM hm hz
def FitM (fl:List Fd) (m:Pom) (most:Nat):Prop:=m.nd≤most∧∃ p,IsO fl m p∧p.Fit (bsF fl)
theorem chk_n {w0:World}{H:List (Nat × Obj)}(fi:List Fi)(q:Option Addr)(n c:Nat)(hn:n=fi.length)(hA:Arr w0 H q 3 encFi fi)(hnm:∀ f∈fi,f.nm.size≤9223372036854775807):FSpec Tryz.prog w0 76 #[.slice q n c] H (SayE (FisOk fi) H):=by
 subst hn;exact check_s fi q c hA hnm
theorem eright_s {w0:World}{H:List (Nat × Obj)}(fi:List Fi)(q:Option Addr)(n c:Nat)(hn:n=fi.length)(hA:Arr w0 H q 3 encFi fi)(hnm:∀ f∈fi,f.nm.size≤9223372036854775807){m:Pom}(hM:PoM w0 H m)(hm:m.sz≤1000000000)(hz:NmO m)(most:Nat):
  FSpec Tryz.prog w0 31 #[.slice q n c, .agg (encPo m).toArray, .int .i64 (most:Nat)] H (SayB (FisOk fi∧FitM (fi.map Fi.fd) m most) H):=by
 refine Au Tryz.func31 U ntmps31 U (rD tb 2 U (e_ (Nr U cs_) ?_ U));rintro _ _ ⟨n4,rfl,rfl⟩;refine rO tb 5 U (y_ (Nn U isAgg28 sizeOf28 U (by first|exact As)) ?_ U);refine e_ (Al (qe1 U) call75 (fewO_s (hM.mono (by exact sbt)) hm)) ?_ U;rintro _ _ ⟨b1,rfl,rfl⟩;refine rO tb 7 U ?_
 first|refine A9 (B5 (T U)) U Ac ?_|refine A9 (B1 (T U)) U Ac ?_
 refine rO tb 1 U ?_
 first|refine Av (s:=12) (Aa U) (fun c12=> ?_) (fun c12=> ?_)|refine A7 (s:=12) (Aa U) (fun c12=> ?_) (fun c12=> ?_)
 ·refine kO tb 29 [6] rfl U (rG tb 2 U (Ak U (Nk U) ?_))
  first|exact⟨_,⟨false,⟨rfl,fun h=>by cases h⟩,rfl⟩,by exact sbt⟩|exact⟨_,⟨_,⟨rfl,fun h=>⟨hfi,by omega,J6 hfi.fl (he1 (of_decide_eq_true h)).2.1 (he1 (of_decide_eq_true h)).2.2⟩⟩,rfl⟩,by exact sbt⟩
 ·refine rO tb 1 U (A5 (Al (qe1 U) call76 (chk_n fi q n c hn (hA.mono (by exact sbt)) hnm)) U (Bg U U (Aa U)) ?_);rintro _ _ ⟨e0,⟨rfl,he0⟩,rfl⟩;refine rO tb 3 U ?_
  first|refine Av (s:=17) (Aa U) (fun c17=> ?_) (fun c17=> ?_)|refine A7 (s:=17) (Aa U) (fun c17=> ?_) (fun c17=> ?_)
  ·skip
   refine kO tb 24 [6] rfl U (rG tb 2 U (Ak U (Nk U) ?_))
   first|exact⟨_,⟨false,⟨rfl,fun h=>by cases h⟩,rfl⟩,by exact sbt⟩|exact⟨_,⟨_,⟨rfl,fun h=>⟨hfi,by omega,J6 hfi.fl (he1 (of_decide_eq_true h)).2.1 (he1 (of_decide_eq_true h)).2.2⟩⟩,rfl⟩,by exact sbt⟩
  ·have hfi:FisOk fi:=he0 (by simpa using c17);refine A9 (Nn U isAgg28 sizeOf28 U (by first|exact As)) U (Bg U U (Aa U)) ?_;refine A5 (Al (qe1 U) call77 (szO_s _ hm (hM.mono (by exact sbt)) (Nat.le_refl _))) U (Bg U U (Aa U)) ?_;rintro _ _ ⟨z1,⟨rfl,y1,x1⟩,rfl⟩;refine A9 (yl_field (T U) (field84 _ _)) U (Bg U U (Aa U)) (rO tb 4 U ?_)
   first|refine Av (s:=24) (Aa U) (fun c24=> ?_) (fun c24=> ?_)|refine A7 (s:=24) (Aa U) (fun c24=> ?_) (fun c24=> ?_)
   ·refine kO tb 17 [6] rfl U (rG tb 2 U (Ak U (Nk U) ?_))
    first|exact⟨_,⟨false,⟨rfl,fun h=>by cases h⟩,rfl⟩,by exact sbt⟩|exact⟨_,⟨_,⟨rfl,fun h=>⟨hfi,by omega,J6 hfi.fl (he1 (of_decide_eq_true h)).2.1 (he1 (of_decide_eq_true h)).2.2⟩⟩,rfl⟩,by exact sbt⟩
   ·refine A9 (Nn U isAgg28 sizeOf28 U (by first|exact As)) U (Bg U U (Aa U)) ?_;refine A5 (Al (qe1 U) call78 (stO_s _ hm (hM.mono (by exact sbt)) (Nat.le_refl _))) U (Bg U U (Aa U)) ?_;rintro _ _ ⟨z2,⟨rfl,y2,x2⟩,rfl⟩;refine rO tb 3 U ?_
    first|refine Av (s:=29) (Aa U) (fun c29=> ?_) (fun c29=> ?_)|refine A7 (s:=29) (Aa U) (fun c29=> ?_) (fun c29=> ?_)
    ·refine kO tb 12 [6] rfl U (rG tb 2 U (Ak U (Nk U) ?_))
     first|exact⟨_,⟨false,⟨rfl,fun h=>by cases h⟩,rfl⟩,by exact sbt⟩|exact⟨_,⟨_,⟨rfl,fun h=>⟨hfi,by omega,J6 hfi.fl (he1 (of_decide_eq_true h)).2.1 (he1 (of_decide_eq_true h)).2.2⟩⟩,rfl⟩,by exact sbt⟩
    ·refine A9 (Nn U isAgg28 sizeOf28 U (by first|exact As)) U (Bg U U (Aa U)) ?_;refine A5 (Al (qe1 U) call79 (light_s (hM.mono (by exact sbt)) hm)) U (Bg U U (Aa U)) ?_;rintro _ _ ⟨b4,rfl,rfl⟩
     first|refine A9 (B5 (T U)) U (Bg U U (Aa U)) ?_|refine A9 (B1 (T U)) U (Bg U U (Aa U)) ?_
     refine rO tb 3 U ?_
     first|refine Ae (Aa U) (fun c33=> ?_) (fun c33=> ?_)|refine Ah (Aa U) (fun c33=> ?_) (fun c33=> ?_)
     ·refine kC tb 5 [6] rfl U (rG tb 2 U (Ak U (Nk U) ?_))
      first|exact⟨_,⟨false,⟨rfl,fun h=>by cases h⟩,rfl⟩,by exact sbt⟩|exact⟨_,⟨_,⟨rfl,fun h=>⟨hfi,by omega,J6 hfi.fl (he1 (of_decide_eq_true h)).2.1 (he1 (of_decide_eq_true h)).2.2⟩⟩,rfl⟩,by exact sbt⟩
     ·refine rC tb 5 U (y_ (Nn U isAgg28 sizeOf28 U (by first|exact As)) ?_ U);refine e_ (Al (qe2 U U) call80 (rpol_n (fi.map Fi.fd) hfi.fl q n c (hn.trans (List.length_map _).symm) ((fis_arr hfi hA).mono (by exact sbt)) (hM.mono (by exact sbt)) hm hz)) ?_ U;rintro _ _ ⟨e1,⟨rfl,he1⟩,rfl⟩;refine kO tb 4 [6] rfl U (rG tb 1 U (Ak U (Nk U) ?_))
      first|exact⟨_,⟨false,⟨rfl,fun h=>by cases h⟩,rfl⟩,by exact sbt⟩|exact⟨_,⟨_,⟨rfl,fun h=>⟨hfi,by omega,J6 hfi.fl (he1 (of_decide_eq_true h)).2.1 (he1 (of_decide_eq_true h)).2.2⟩⟩,rfl⟩,by exact sbt⟩
theorem both_s {w0:World}{H:List (Nat × Obj)}(fi:List Fi)(q:Option Addr)(n c:Nat)(hn:n=fi.length)(hA:Arr w0 H q 3 encFi fi)(hnm:∀ f∈fi,f.nm.size≤9223372036854775807){m1:Pom}(hM1:PoM w0 H m1)(hm1:m1.sz≤1000000000)(hz1:NmO m1){m2:Pom}(hM2:PoM w0 H m2)(hm2:m2.sz≤1000000000)(hz2:NmO m2)(most:Nat)(tick:Int):
  FSpec Tryz.prog w0 12 #[.slice q n c, .agg (encPo m1).toArray, .agg (encPo m2).toArray, .int .i64 (most:Nat), .int .i64 tick] H (SayB ((0≤tick∧tick≤1073741824)∧FisOk fi∧FitM (fi.map Fi.fd) m1 most∧FitM (fi.map Fi.fd) m2 most) H):=by
 refine Au Tryz.func12 U ntmps12 U (rD tb 2 U (e_ (Nr U cs_) ?_ U));rintro _ _ ⟨n6,rfl,rfl⟩;refine e_ (Nr U cs_) ?_ U;rintro _ _ ⟨n7,rfl,rfl⟩;refine rO tb 8 U ?_
 first|refine Av (s:=13) (Aa U) (fun c13=> ?_) (fun c13=> ?_)|refine A7 (s:=13) (Aa U) (fun c13=> ?_) (fun c13=> ?_)
 ·refine rO tb 4 U ?_
  first|refine Av (s:=17) (Aa U) (fun c17=> ?_) (fun c17=> ?_)|refine A7 (s:=17) (Aa U) (fun c17=> ?_) (fun c17=> ?_)
  ·refine rO tb 1 U (A9 (Nn U isAgg28 sizeOf28 U (by first|exact As)) U (Bg U U (Aa U)) ?_);refine rO tb 1 U (A5 (Al (qe3 U U U) call31 (eright_s fi q n c hn (hA.mono (by exact sbt)) hnm (hM1.mono (by exact sbt)) hm1 hz1 most)) U (Bg U U (Aa U)) ?_);rintro _ _ ⟨b1,⟨rfl,hb1⟩,rfl⟩;refine rO tb 2 U ?_
   first|refine Av (s:=23) (Aa U) (fun c23=> ?_) (fun c23=> ?_)|refine A7 (s:=23) (Aa U) (fun c23=> ?_) (fun c23=> ?_)
   ·have h1:=hb1 (by simpa using c23);refine rO tb 1 U (A9 (Nn U isAgg28 sizeOf28 U (by first|exact As)) U (Bg U U (Aa U)) ?_);refine rO tb 1 U (A5 (Al (qe3 U U U) call31 (eright_s fi q n c hn (hA.mono (by exact sbt)) hnm (hM2.mono (by exact sbt)) hm2 hz2 most)) U (Bg U U (Aa U)) ?_);rintro _ _ ⟨b2,⟨rfl,hb2⟩,rfl⟩;refine rO tb 5 U (Ak U (Nk U) ?_)
    first|exact⟨_,⟨false,⟨rfl,fun h=>by cases h⟩,rfl⟩,by exact sbt⟩|exact⟨_,⟨_,⟨rfl,fun h=>⟨by omega,h1.1,h1.2,(hb2 h).2⟩⟩,rfl⟩,by exact sbt⟩|exact⟨_,⟨_,⟨rfl,fun h=>by first|cases h|(exfalso;simp_all;done)⟩,rfl⟩,by exact sbt⟩
   ·skip
    refine rO tb 9 U (Ak U (Nk U) ?_)
    first|exact⟨_,⟨false,⟨rfl,fun h=>by cases h⟩,rfl⟩,by exact sbt⟩|exact⟨_,⟨_,⟨rfl,fun h=>⟨by omega,h1.1,h1.2,(hb2 h).2⟩⟩,rfl⟩,by exact sbt⟩|exact⟨_,⟨_,⟨rfl,fun h=>by first|cases h|(exfalso;simp_all;done)⟩,rfl⟩,by exact sbt⟩
  ·refine rO tb 15 U (Ak U (Nk U) ?_)
   first|exact⟨_,⟨false,⟨rfl,fun h=>by cases h⟩,rfl⟩,by exact sbt⟩|exact⟨_,⟨_,⟨rfl,fun h=>⟨by omega,h1.1,h1.2,(hb2 h).2⟩⟩,rfl⟩,by exact sbt⟩|exact⟨_,⟨_,⟨rfl,fun h=>by first|cases h|(exfalso;simp_all;done)⟩,rfl⟩,by exact sbt⟩
 ·refine rO tb 19 U (Ak U (Nk U) ?_)
  first|exact⟨_,⟨false,⟨rfl,fun h=>by cases h⟩,rfl⟩,by exact sbt⟩|exact⟨_,⟨_,⟨rfl,fun h=>⟨by omega,h1.1,h1.2,(hb2 h).2⟩⟩,rfl⟩,by exact sbt⟩|exact⟨_,⟨_,⟨rfl,fun h=>by first|cases h|(exfalso;simp_all;done)⟩,rfl⟩,by exact sbt⟩
end Go.Proofs.YtkgfmjanajdibaaGreat
