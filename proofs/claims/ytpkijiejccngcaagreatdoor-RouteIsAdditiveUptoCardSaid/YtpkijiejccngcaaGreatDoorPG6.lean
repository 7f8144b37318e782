/-
  A part of what LawG rests on: the logic, walks and plain laws. No condition.
-/
import Derived.Test.YtpkijiejccngcaaGreatDoorPG5
import Derived.LaidMore
import Derived.Lay
import Derived.SevenTiedAt
import Derived.Stop.Joined
import Derived.Test.YtpkijiejccngcaaGreatDoorCards
import Derived.Test.YtpkijiejccngcaaGreatDoorTie
import Derived.Deep.DeepHandedRow
namespace Go.Proofs.YtpkijiejccngcaaGreatDoor
open _root_.Go.Proofs.Tryz
open Go.RowKit
set_option linter.unusedVariables false
set_option linter.unusedSimpArgs false
set_option linter.unusedSectionVars false
set_option maxRecDepth 100000
theorem fnd_l {A B:List (Nat × Obj)}{n:Nat}{o:Obj}(h:Fnd A n o):Fnd (A++B) n o:=List.mem_append_left B h
theorem yl_lkE1 {w0:World}{H:List (Nat × Obj)}{L:Fm}{x y:Operand}{ty:TypeId}{r:Nat}{l:List (ByteArray × Nat)}{k:ByteArray}{b:Nat}(hl:look l k=some b)(hx:Ev L x (.map (some r)))(hy:Ev L y (.string k))(hf:Fnd H r (mapO encSk encPt l)):Yl Tryz.prog w0 (.lookup 101 x y false) ty L H (.pointer (some ⟨b,0,none⟩)):=by
 have h:=Es (P:=Tryz.prog) (w0:=w0) (ty:=ty) (keyStr (V:=Nat)) hx hy U runUnderlying101 zeroValue105 hf;rw[hl] at h;exact h
theorem yl_lkE2 {w0:World}{H:List (Nat × Obj)}{L:Fm}{x y:Operand}{ty:TypeId}{r:Nat}{l:List (ByteArray × Nat)}{k:ByteArray}(hl:look l k=none)(hx:Ev L x (.map (some r)))(hy:Ev L y (.string k))(hf:Fnd H r (mapO encSk encPt l)):Yl Tryz.prog w0 (.lookup 101 x y false) ty L H (.pointer none):=by
 have h:=Es (P:=Tryz.prog) (w0:=w0) (ty:=ty) (keyStr (V:=Nat)) hx hy U runUnderlying101 zeroValue105 hf;rw[hl] at h;exact h
theorem entM_set {es:List Ent}{i:Nat}(hi:i<es.length)(q:Option Addr)(c:Nat)(p:Int):entM (es.set i ⟨(gd es i).b,⟨q,c,(gd es i).s.l,p⟩⟩)=entM es:=by
 apply List.ext_getElem?;intro j;rw[List.getElem?_map,List.getElem?_map,List.getElem?_set]
 split
 ·rename_i e;subst e
  first|(rw[if_pos hi,B2 hi];rfl)|(rw[B2 hi];rfl)
 ·rfl
theorem takeF_ldr {n:Nn}(hcap:∀ x∈n.links,0≤x.cap∧x.cap≤1048576){a:Int}(ha:0≤a):∀ {ls:List Nat} {ld ld2:List Int},LdR n ld→(∀ x∈ls,x<n.links.length)→takeF n a ls ld=some ld2→LdR n ld2
 |[],ld,ld2,h,_,e=>by obtain rfl:=Option.some.inj e;exact h
 |x::ls,ld,ld2,h,hl,e=>by
  rw[takeF_cons] at e
  split at e
  ·rename_i hc;exact takeF_ldr hcap ha (cap_le hcap h (hl x (by simp)) ha hc) (fun y hy=>hl y (by simp[hy])) e
  ·cases e
theorem ks_own {n:Nn}{w0:World}{M:List (Nat × Obj)}{k:Nat}{es:List Ent}{own srt:List Sha}(h:EsR n w0 M k es own)(hs:SrtS srt)(hp:own.Perm srt){ks:List Lm}(hk:ks.Perm (es.map Ent.s))(hw:ks.Pairwise fun a b=> ¬ cmpL b.l a.l<0):ks.map Lm.lan=srt.map Sha.lan:=by
 let g:Lm→Sha:=fun s=>⟨s.l.map Int.toNat,s.p.toNat⟩
 have hg:∀ i,i<es.length→g (gd es i).s=gd own i∧(gd es i).s.l=toInts (g (gd es i).s).l∧(gd es i).s.lan=(g (gd es i).s).lan:=fun i hi=>by
  have h1:=h.l i hi;have h2:=h.p i hi;have e:g (gd es i).s=gd own i:=by
   show (⟨(gd es i).s.l.map Int.toNat,(gd es i).s.p.toNat⟩:Sha)=gd own i;rw[h1,h2];have:(toInts (gd own i).l).map Int.toNat=(gd own i).l:=by
    unfold toInts;rw[List.map_map];exact(List.map_congr_left fun x _=>Int.toNat_natCast x).trans (List.map_id _)
   rw[this,Int.toNat_natCast]
  refine⟨e,by rw[e,h1],?_⟩;rw[e];show (⟨(gd es i).s.l,(gd es i).s.p⟩:Lan)=⟨toInts (gd own i).l,((gd own i).p:Int)⟩;rw[h1,h2]
 have hmem:∀ a∈ks,a.l=toInts (g a).l∧a.lan=(g a).lan:=fun a ha=>by
  obtain⟨e,he,rfl⟩:=List.mem_map.1 (hk.subset ha);obtain⟨i,hi,rfl⟩:=List.getElem_of_mem he;have:=hg i hi;rw[An hi] at this;exact this.2
 have hown:(es.map Ent.s).map g=own:=by
  apply List.ext_getElem?;intro i
  by_cases hi:i<es.length
  ·rw[List.getElem?_map,List.getElem?_map,B2 hi,B2 (l:=own) (by rw[h.len];exact hi)];show some (g (gd es i).s)=_;rw[(hg i hi).1]
  ·rw[List.getElem?_eq_none (by simp;omega),List.getElem?_eq_none (by rw[h.len];omega)]
 have hperm:(ks.map g).Perm own:=by
  have:=hk.map g;rw[hown] at this;exact this
 have hnd:((ks.map g).map Sha.l).Nodup:=(hperm.map _).nodup_iff.2 h.nd;have hsrt:SrtS (ks.map g):=by
  unfold List.Nodup at hnd;rw[List.pairwise_map,List.pairwise_map] at hnd;show (ks.map g).Pairwise _;rw[List.pairwise_map];refine(hw.and hnd).imp_of_mem fun {a b} ha hb hab=> ?_
  have e1:=(hmem a ha).1;have e2:=(hmem b hb).1;rw[lxB_cmp,← e1,← e2];rcases cmpL_tri a.l b.l with h1|h1|h1
  ·exact h1
  ·refine absurd ?_ hab.2;show (g a).l=(g b).l;show a.l.map Int.toNat=b.l.map Int.toNat
   rw[h1]
  ·exact absurd h1 hab.1
 have:=srt_eq hsrt hs (hperm.trans hp);rw[← this,List.map_map];exact List.map_congr_left fun a ha=>(hmem a ha).2
theorem seen_perm {es:List Ent}{seen:List Nat}(hn:seen.Nodup)(hlt:∀ i∈seen,i<es.length)(hall:∀ i,i<es.length→i∈seen):(seen.map fun i=>(gd es i).s).Perm (es.map Ent.s):=by
 have h1:seen.Perm (List.range es.length):=(List.perm_ext_iff_of_nodup hn List.nodup_range).2 fun i=>⟨fun h=>List.mem_range.2 (hlt i h),fun h=>hall i (List.mem_range.1 h)⟩
 have h2:=h1.map fun i=>(gd es i).s
 have e:(List.range es.length).map (fun i=>(gd es i).s)=es.map Ent.s:=by
  apply List.ext_getElem?;intro i
  by_cases hi:i<es.length
  ·rw[List.getElem?_map,List.getElem?_map,List.getElem?_range hi,B2 hi];rfl
  ·rw[List.getElem?_eq_none (by simp;omega),List.getElem?_eq_none (by simp;omega)]
 rw[e] at h2;exact h2
theorem rounds_yes {n:Nn}{f:Flr}{o:Odr}{j:Nat}{ld ld2:List Int}{own:List Sha}{l:List Nat}(h:partF n f o ld=some (l,ld2)):roundsF n f o (j+1) ld own=roundsF n f o j ld2 (putS l own):=by
 rw[roundsF,h]
theorem rounds_no {n:Nn}{f:Flr}{o:Odr}{j:Nat}{ld:List Int}{own:List Sha}(h:partF n f o ld=none):roundsF n f o (j+1) ld own=(false,ld,own):=by
 rw[roundsF,h]
theorem goR_yes {n:Nn}{f:Flr}{o:Odr}{os:List Odr}{ld ld2:List Int}{out:List (List Sha)}{own:List Sha}(h:roundsF n f o 16 ld []=(true,ld2,own)):goR n f (o::os) ld out=goR n f os ld2 (out++[own]):=by
 rw[goR,h]
theorem goR_no {n:Nn}{f:Flr}{o:Odr}{os:List Odr}{ld ld2:List Int}{out:List (List Sha)}{own:List Sha}(h:roundsF n f o 16 ld []=(false,ld2,own)):goR n f (o::os) ld out=(out,some (ld2,o)):=by
 rw[goR,h]
def RteV (w0:World) (K:List (Nat × Obj)) (n:Nn) (f:Flr) (os:List Odr) (v:Value):Prop:=
 (∃ (sh:List (List Sha)) (q:Option Addr) (c:Nat) (a:List Lr),(routeF n f os=(sh,none)∧v= .tuple #[.slice q a.length c, .slice none 0 0, .int .i64 0])∧ShM w0 K q a∧shOf a=sh.map (List.map Sha.lan))∨
 (∃ (sh:List (List Sha)) (ld:List Int) (o:Odr) (q:Option Addr) (c:Nat),(routeF n f os=(sh,some (ld,o))∧v= .tuple #[.slice none 0 0, .slice q (stuckF n f os o ld).1.length c, .int .i64 (stuckF n f os o ld).2])∧Arr w0 K q 1 encI (stuckF n f os o ld).1∧(stuckF n f os o ld).1.length≤1000)
theorem stuck_len {n:Nn}(hok:NnOk n){f:Flr}{os:List Odr}{o:Odr}{ld:List Int}:(stuckF n f os o ld).1.length≤1000:=by
 have:=hok.fewL;have h:=Ed n ld o.amt n.links.length;unfold stuckF
 split
 ·split<;>(simp only[];omega)
 ·simp
theorem ldr_zero (n:Nn):LdR n (List.replicate n.links.length 0):=⟨by simp,fun k hk=>by rw[Gn hk];decide⟩
def rtN (br:Nat) (n:Nn) (f:Flr) (b:Nat) (ld:List Int):List (Nat × Obj):=(br,Cl (encRt n f (.slice (some ⟨b,0,none⟩) n.links.length n.links.length)) 100)::slH (Sl.blk b n.links.length []) (ld.flatMap encI) 3
theorem rtN_eq {br:Nat}{n:Nn}{f:Flr}{b:Nat}{ld:List Int}(h:LdR n ld):rtN br n f b ld=rtH br n f (Sl.blk b ld.length []) ld:=by
 unfold rtN rtH;rw[h.len];rfl
theorem perm_rt (A E Mb R Z:List (Nat × Obj))(e1 e2 e3 e4:Nat × Obj):(A++(e1::(E++(e2::e3::(Mb++(e4::(R++Z))))))).Perm (e1::(E++(e2::e3::(Mb++(e4::(R++(A++Z))))))):=by
 have h:=perm_mid A (e1::(E++(e2::e3::(Mb++(e4::R))))) Z
 simpa only[List.append_assoc,List.cons_append,List.nil_append] using h
theorem part2_s {w0:World}{H:List (Nat × Obj)}(br:Nat)(n:Nn)(hn:NetR w0 H n)(hok:NnOk n)(hcap:∀ x∈n.links,0≤x.cap∧x.cap≤1048576)(f:Flr)(hf:Arr w0 H f.q 1 encI f.links)(hfl:f.links.length≤1000000)(o:Odr)(ho:OdrOk n o)(om:Om)(hod:OdR om o)(ld:List Int)(hld:LdR n ld)(m:Mc)(hm:McOk w0 H m)(hmpl:m.pl=mOf o.e)(b:Nat):
  FSpec Tryz.prog w0 58 #[.pointer (some ⟨br,0,none⟩), .agg (encOm om).toArray, .agg (encMc m).toArray] (rtN br n f b ld++H) (fun v H'=>∃ M2:List (Nat × Obj),((∃ (l:List Nat) (ld2:List Int) (y:Sl),(partF n f o ld=some (l,ld2)∧v= .tuple #[slV y l.length, .bool true])∧(SlOk y l.length 1∧l.length≤2400∧(∀ x∈l,x<n.links.length)∧LdR n ld2)∧M2=rtN br n f b ld2++slH y (l.flatMap encU) 3)∨(∃ (l:List Nat) (y y2:Sl),(partF n f o ld=none∧v= .tuple #[slV y l.length, .bool false])∧SlOk y2 ld.length 1∧M2=rtH br n f y2 ld++slH y (l.flatMap encU) 3))∧H'=M2++H):=by
 obtain⟨l,c,hlc⟩:∃ l c,findF n (fullF n f ld o.amt) (mOf o.e) o.x o.y=(l,c):=⟨_,_,rfl⟩;have hfew:l.length≤2400:=by
  have:=find_few hok ho.mce.ok (f:=fullF n f ld o.amt) (to:=o.y) ho.x;rw[hlc] at this;exact this
 rw[rtN_eq hld];refine(part_s br n hn hok hcap f hf hfl o ho om hod ld hld m hm hmpl b l c hlc qom).mono ?_;rintro v H' ⟨⟨y,y2⟩,⟨rfl,hy,hy2,hb⟩,rfl⟩;refine⟨_,?_,rfl⟩;cases hp:partF n f o ld with
 |none=>
  rw[hp] at hb;exact .inr ⟨l,y,y2,⟨rfl,rfl⟩,hy2,rfl⟩
 |some r=>
  obtain⟨l2,ld2⟩:=r;have hc:c=0:=Classical.byContradiction fun hc=>by rw[part_no hlc hc] at hp;cases hp
  subst hc;rw[hp] at hb;have hb:=hb U;simp only at hb;subst hb;rw[part_yes hlc] at hp;obtain⟨ld3,h1,h2⟩:=Option.map_eq_some_iff.1 hp;obtain⟨rfl,rfl⟩:=Prod.mk.inj h2;have hlt:=(find_lt hok ho hlc).2;have hl2:=takeF_ldr hcap ho.a0 hld hlt h1;refine .inl ⟨l,ld3,y,⟨rfl,rfl⟩,⟨hy,hfew,hlt,hl2⟩,?_⟩;rw[rtN_eq hl2,hl2.len,← hld.len];rfl
theorem zbd100_0_1_2 (a0:Option Addr)(a0n a0c:Nat)(a1:Option Addr)(a1n a1c:Nat)(a2:Option Addr)(a2n a2c:Nat)(a3:Option Addr)(a3n a3c:Nat)(a4:Int)(a5:Option Addr)(a5n a5c:Nat)(w:World):(Instr.build 100 #[(0, .agg #[.slice a0 a0n a0c, .slice a1 a1n a1c, .slice a2 a2n a2c]),(1, .agg #[.slice a3 a3n a3c, .int .i64 a4]),(2, .slice a5 a5n a5c)]).run Tryz.prog w= .ok (.agg #[.slice a0 a0n a0c, .slice a1 a1n a1c, .slice a2 a2n a2c, .slice a3 a3n a3c, .int .i64 a4, .slice a5 a5n a5c]) w:=by kernel_rfl
theorem zbd77_0 (a0:Option Addr)(a0n a0c:Nat)(w:World):(Instr.build 77 #[(0, .slice a0 a0n a0c)]).run Tryz.prog w= .ok (.agg #[.slice a0 a0n a0c, .int .i64 0]) w:=by kernel_rfl
theorem zbs31_1_0 (a0:Option Addr)(a0n a0c:Nat)(w:World):(Instr.buildSlice 31 1 #[(0, .slice a0 a0n a0c)]).run Tryz.prog w= .ok (.slice (some ⟨w.heap.size,0,none⟩) 1 1) (w.alloc (Cl [.slice a0 a0n a0c] 79)):=by kernel_rfl
theorem Hv (a0:Option Addr)(a0n a0c:Nat)(a1:Int)(w:World):(Instr.buildSlice 79 1 #[(0, .agg #[.slice a0 a0n a0c, .int .i64 a1])]).run Tryz.prog w= .ok (.slice (some ⟨w.heap.size,0,none⟩) 1 1) (w.alloc (Cl [.slice a0 a0n a0c, .int .i64 a1] 77)):=by kernel_rfl
theorem sbx {α:Type}{l l2:List α}(h:l.Sublist l2:=by(repeat (first|exact List.Sublist.refl _|exact List.sublist_append_left _ _|refine List.Sublist.cons_cons _ ?_|refine List.Sublist.cons _ ?_|refine List.Sublist.append (List.Sublist.refl _) ?_|refine List.Sublist.trans ?_ (List.sublist_append_right _ _)));done):l.Sublist l2:=h
theorem entH_new {es:List Ent}{b:Nat}{q:Option Addr}{c:Nat}{l:List Nat}:entH (es++[⟨b,⟨q,c,toInts l,1⟩⟩])=(b,Cl [.slice q l.length c, .int .i64 1] 77)::entH es:=by
 rw[entH_app];simp[toInts]
theorem F6 {w0:World}{H:List (Nat × Obj)}(n:Nn)(hn:NetR w0 H n)(hok:NnOk n)(hcap:∀ x∈n.links,0≤x.cap∧x.cap≤1048576)(f:Flr)(hf:Arr w0 H f.q 1 encI f.links)(hfl:f.links.length≤1000000)(os:List Om)(os2:List Odr)(qo:Option Addr)(co:Nat)(hO:OsM w0 H qo os)(hoo:OsOk n os os2):
  FSpec Tryz.prog w0 27 #[.agg (encNn n).toArray, .agg (encFl f).toArray, .slice qo os.length co] H (fun v H'=>∃ M:List (Nat × Obj),RteV w0 (M++H) n f os2 v∧H'=M++H):=by
 refine Ao Tryz.func27 U ntmps27 U ?_;have hfewL:=hok.fewL;have hno:=hoo.few;have hol:=hoo.r.len;refine rD tb 2 U (e_ (Lf U cs_) ?_ U);rintro _ _ ⟨n3,rfl,rfl⟩;refine e_ (Lf U cs_) ?_ U;rintro _ _ ⟨n4,rfl,rfl⟩;refine rO tb 6 U (Bh 9 [(0,true),(1,true),(2,true),(3,true),(4,true),(5,false),(6,true),(7,false),(8,true)] _ mixd qkr sb0 ?_ A8);refine o_y U (Lc U isAgg26 sizeOf26 U qcs) ?_ U Ac;refine o_y U (Lc U isAgg29 sizeOf29 U qcs) ?_ U Ac;refine rP tb 1 U (o_y U (Lb U isAgg23 qco) ?_ U Ac);refine rP tb 1 U (o_e U (B7 (by':=8) (k:=n.links.length) (T U) runUnderlying27 sizeOf3 typeInfo3 U zeroValue3 U qom qom) ?_ U Ac);rintro _ _ ⟨n27,rfl,rfl⟩;rw[rep_enc n.links.length];refine⟨sbt,(o_y U (A0 (.cons (T U) (.cons (T U) (.cons (T U) .nil))) (zbd100_0_1_2 _ _ _ _ _ _ _ _ _ _ _ _ _ _ _ _)) (o_e U (Lf U cs_) ?_ U Ac) U Ac)⟩;rintro _ _ ⟨n29,rfl,rfl⟩;refine⟨sbt,(rP tb 1 U (A7 U (rO tb 16 U ?_)))⟩;refine Ba (X:=Nat × List Int × List Lr × List (List Sha) × Sl × List (Nat × Obj)) (V:=fun ⟨i,ld0,rows,outS,dO,Mx0⟩=>[(32, .int .i64 (i:Nat)),(10,slV dO rows.length)]) (C:=[(2,_),(9,_),(30,_),(31,_)]) (G:=fun ⟨i,ld0,rows,outS,dO,Mx0⟩=>rtN n29 n f n27 ld0++(Mx0++(slH dO (rows.flatMap encLr) 79++((n4,Cl (encFl f) 29)::(n3,Cl (encNn n) 26)::H)))) (φ:=fun ⟨i,ld0,rows,outS,dO,Mx0⟩=>i≤os.length∧LdR n ld0∧(SlOk dO rows.length 1∧rows.length=i)∧rows.map rowOf=outS.map (List.map Sha.lan)∧(∀ r∈rows,LrM w0 Mx0 r)∧goR n f (os2.drop i) ld0 outS=routeF n f os2) (μ:=fun ⟨i,ld0,rows,outS,dO,Mx0⟩=>os.length - i) (x0:=(0,List.replicate n.links.length 0,[],[], .nil,[])) ?_ ⟨Aa rfl,Aa rfl,Aa rfl,Aa rfl,trivial⟩ ⟨qat,qat,trivial⟩ sb0 ?_
 ·exact⟨Nat.zero_le _,ldr_zero n,⟨rfl,rfl⟩,rfl,fun r hr=>(by cases hr),rfl⟩
 rintro⟨i,ld0,rows,outS,dO,Mx0⟩ ⟨hi,hldr0,⟨hdO,hrl⟩,hrw,hrm,hgo⟩;refine rD tb 6 U ?_;refine Ad (Aa U) (fun c33=> ?_) (fun c33=> ?_)
 ·have hod:=hoo.r.at' i qom;have ho1:=hoo.ok _ (Af (l:=os2) (i:=i) qom);have hmM:RxM w0 H (gd os i).m:=hO.m _ (Af qom);have hdr:os2.drop i=gd os2 i::os2.drop (i+1):=by rw[List.drop_eq_getElem_cons qom,An qom]
  rw[hdr] at hgo;refine rC tb 6 U (y_ (Ld U U runUnderlying30 sizeOf58 qom (by first|exact rfl|exact hO.a.b (i:=i) qom)) ?_ U);refine y_ (Lc U isAgg58 sizeOf58 U (by exact(hO.a.mono sbt).cs (i:=i) qom)) ?_ U;refine e_ (Ai zeroValue58 cs_) ?_ U;rintro _ _ ⟨n12,rfl,rfl⟩;refine Aw (Le U U sizeOf58) U Ac ?_;rintro _ _ ⟨rfl,rfl⟩;refine rO tb 5 U ?_;refine y_ (Lc U isAgg56 sizeOf56 U (by exact Bk (l:=encOm (gd os i)) (o:=3) (k:=3) fdd)) ?_ U;refine e_ (Ak (qe1 U) call35 (buildMX_s (gd os i).m (gd os2 i).e hod.e (hmM.mono sbt) ho1.lv (pm:=(buildF leastF (gd os2 i).e).1) (cc:=(buildF leastF (gd os2 i).e).2) U)) ?_ U;rintro _ _ ⟨mc,Mb,⟨rfl,hmpl,hmcX⟩,rfl⟩;refine rO tb 3 U (e_ (Ai zeroValue68 cs_) ?_ U);rintro _ _ ⟨n13,rfl,rfl⟩;refine Aw (Le U U sizeOf68) U Ac ?_;rintro _ _ ⟨rfl,rfl⟩;refine rO tb 5 U (e_ D6 ?_ U);rintro _ _ ⟨n42,rfl,rfl⟩;refine rO tb 10 U ?_;refine Ba (X:=Nat × List Ent × List Sha × List Sha × List Int × List (Nat × Obj)) (V:=fun ⟨k,es,own,srt,ld,Mx⟩=>[(43, .int .i64 (k:Nat))]) (C:=[(2,_),(9,_),(10,_),(12,_),(13,_),(15,_),(30,_),(31,_),(32,_)]) (G:=fun ⟨k,es,own,srt,ld,Mx⟩=>entH es++((n42,mapO encSk encPt (entM es))::(n13,Cl (encMc mc) 68)::(Mb++((n12,Cl (encOm (gd os i)) 58)::(rtN n29 n f n27 ld++(Mx++(slH dO (rows.flatMap encLr) 79++((n4,Cl (encFl f) 29)::(n3,Cl (encNn n) 26)::H)))))))) (φ:=fun ⟨k,es,own,srt,ld,Mx⟩=>k≤16∧LdR n ld∧SrtS srt∧own.Perm srt∧EsR n w0 Mx k es own∧roundsF n f (gd os2 i) (16 - k) ld srt=roundsF n f (gd os2 i) 16 ld0 []∧∀ r∈rows,LrM w0 Mx r) (μ:=fun ⟨k,es,own,srt,ld,Mx⟩=>16 - k) (x0:=(0,[],[],[],ld0,Mx0)) ?_ ⟨Aa rfl,Aa rfl,Aa rfl,Aa rfl,Aa rfl,Aa rfl,Aa rfl,Aa rfl,Aa rfl,trivial⟩ ⟨qat,trivial⟩ sb0 ?_
  ·exact⟨Nat.zero_le _,hldr0,List.Pairwise.nil,List.Perm.refl _,⟨rfl,fun i hi=>absurd hi (Nat.not_lt_zero _),fun i hi=>absurd hi (Nat.not_lt_zero _),fun i hi=>absurd hi (Nat.not_lt_zero _),List.nodup_nil,fun i hi=>absurd hi (Nat.not_lt_zero _),fun i hi=>absurd hi (Nat.not_lt_zero _),Nat.le_refl _⟩,rfl,hrm⟩
  rintro⟨k,es,own,srt,ld,Mx⟩ ⟨hk16,hldr,hsS,hpS,hesr,hro,hrm2⟩;refine rD tb 6 U ?_;refine Ad (Aa U) (fun c44=> ?_) (fun c44=> ?_)
  ·obtain⟨j16,hj16⟩:∃ j,16 - k=j+1:=⟨15 - k,by omega⟩;have hec:=hesr.ek;have hel:=hesr.len;have hlN:n.links.length≤128:=by omega
   have hmc2:McOk w0 Mb mc:=by have:=hmcX [];rwa [List.append_nil] at this
   refine rC tb 7 U (y_ (Lc U isAgg58 sizeOf58 U qcs) ?_ U);refine y_ (Lc U isAgg68 sizeOf68 U qcs) ?_ U;refine e_ (Ak (qe3 U U U) call58 (A6 (rtN n29 n f n27 ld) qlc (part2_s n29 n (hn.mono sbt) hok hcap f (hf.mono sbt) hfl (gd os2 i) ho1 (gd os i) hod ld hldr mc (hmc2.mono sbx) hmpl n27))) ?_ U;rintro _ _ ⟨M2,(⟨l,ld2,y,⟨hpt,rfl⟩,⟨hy,hl24,hll,hldr2⟩,rfl⟩|⟨l,y,y2,⟨hpt,rfl⟩,hy2,rfl⟩),rfl⟩<;>simp only[List.append_assoc]
   ·refine rO tb 11 U (y_ (B0 (T U)) (rO tb 2 U ?_) U);refine H7 (Aa U) ?_;refine rC tb 6 U (e_ (Ak (qe1 U) call60 (key_s l (slQ y) (slC y) ((A1 (w0:=w0) (d:=y) (enc:=encU) (sz:=1) (e:=3) (X:=[]) (fun _=>rfl) hy).mono (by rw[List.append_nil];exact sbx)) qom (fun x hx=>by have:=hll x hx;omega))) ?_ U);rintro _ _ ⟨rfl,rfl⟩;rcases es_find hlN hesr hll with ⟨j,hj,hjl,hlk⟩|⟨hnone,hlk⟩
    ·refine y_ (yl_lkE1 hlk (T U) (T U) fdd) ?_ U;refine rO tb 7 U (y_ (yl_eqPN (T U) Ap) (rO tb 9 U ?_) U);refine y_ (Lb U isAgg3 (by first|exact c_o|exact(Bo (i:=1) (by repeat (first|exact fnd_l (entH_fnd hj)|refine Aq ?_|refine Ax ?_)) U))) ?_ U;refine y_ (Av (T U) Ap (by first|omega|(have h1:=hesr.p j hj;have h2:=hesr.pk j hj;omega))) ?_ U;refine rO tb 2 U (e_ (Dv (T U) (T U) U sizeOf3 (E9 U) (entH_upd hj ⟨(gd es j).s.q,(gd es j).s.c,(gd es j).s.l,(gd es j).s.p+1⟩ _)) ?_ U);rintro _ _ ⟨rfl,rfl⟩;refine kO tb 3 [2,9,10,12,13,15,30,31,32,43] rfl U (rG tb 1 U (y_ (Av (T U) Ap qom) ?_ U));refine rO tb 2 U ?_;refine Ar ((k+1,es.set j ⟨(gd es j).b,⟨(gd es j).s.q,(gd es j).s.c,(gd es j).s.l,(gd es j).s.p+1⟩⟩,putU l own,putS l srt,ld2,slH y (l.flatMap encU) 3++Mx)) ?_ ?_ ⟨qat,trivial⟩ ⟨Aa U,Aa U,Aa U,Aa U,Aa U,Aa U,Aa U,Aa U,Aa U,trivial⟩ ?_
     ·refine⟨by omega,hldr2,I4 l hsS,(putU_congr l hesr.nd hpS).trans (putU_perm l hsS),(hesr.more hj hjl).mono (List.sublist_append_right _ _),?_,fun r hr=>(hrm2 r hr).mono (List.sublist_append_right _ _)⟩;show roundsF n f (gd os2 i) (16 - (k+1)) ld2 (putS l srt)=_;rw[← hro,hj16,rounds_yes hpt,show 16 - (k+1)=j16 by omega]
     ·omega
     ·(show (entH (es.set j ⟨(gd es j).b,⟨(gd es j).s.q,(gd es j).s.c,(gd es j).s.l,(gd es j).s.p+1⟩⟩)++((n42,mapO encSk encPt (entM (es.set j ⟨(gd es j).b,⟨(gd es j).s.q,(gd es j).s.c,(gd es j).s.l,(gd es j).s.p+1⟩⟩)))::(n13,Cl (encMc mc) 68)::(Mb++((n12,Cl (encOm (gd os i)) 58)::(rtN n29 n f n27 ld2++((slH y (l.flatMap encU) 3++Mx)++(slH dO (rows.flatMap encLr) 79++((n4,Cl (encFl f) 29)::(n3,Cl (encNn n) 26)::H)))))))).Sublist _;rw[entM_set hj,List.append_assoc (slH y (l.flatMap encU) 3) Mx];exact sbt)
    ·refine y_ (yl_lkE2 hlk (T U) (T U) fdd) ?_ U;refine rO tb 7 U (y_ (yl_eqPN2 (T U) Ap) (rO tb 6 U (y_ (A0 (.cons (T U) .nil) (zbd77_0 _ _ _)) (e_ (Lf U cs_) ?_ U) U)) U);rintro _ _ ⟨n70,rfl,rfl⟩;refine kO tb 3 [2,9,10,12,13,15,16,18,30,31,32,43] rfl U (rG tb 3 U (y_ (Ay (qe1 U) call60 (fun H' hs=>key_s l (slQ y) (slC y) ((A1 (w0:=w0) (d:=y) (enc:=encU) (sz:=1) (e:=3) (X:=[]) (fun _=>rfl) hy).mono (by rw[List.append_nil];exact List.Sublist.trans sbx hs)) qom (fun x hx=>by have:=hll x hx;omega))) ?_ U));refine rO tb 1 U (e_ (Cg (l:=entM es) (encV:=encPt) (keyR (toInts l)) n70 (keyStr (V:=Nat)) (T U) (T U) U (T U) U runUnderlying101) ?_ U);rintro _ _ ⟨rfl,rfl⟩;rw[upsert_noneG n70 hlk];refine rO tb 6 U ?_;refine y_ (Lb U isAgg3 qco) ?_ U;refine y_ (Av (T U) Ap qom) ?_ U;refine rO tb 2 U (e_ (Bj (T U) (T U) U sizeOf3) ?_ U);rintro _ _ ⟨rfl,rfl⟩;refine rO tb 4 U (y_ (Av (T U) Ap qom) ?_ U);refine rO tb 2 U ?_;refine Ar ((k+1,es++[⟨n70,⟨slQ y,slC y,toInts l,1⟩⟩],putU l own,putS l srt,ld2,slH y (l.flatMap encU) 3++Mx)) ?_ ?_ ⟨qat,trivial⟩ ⟨Aa U,Aa U,Aa U,Aa U,Aa U,Aa U,Aa U,Aa U,Aa U,trivial⟩ ?_
     ·refine⟨by omega,hldr2,I4 l hsS,(putU_congr l hesr.nd hpS).trans (putU_perm l hsS),(hesr.mono (List.sublist_append_right _ _)).new hll hnone ⟨arrUI (A1 (fun _=>rfl) hy),by show (toInts l).length≤_;rw[List.length_map];omega⟩,?_,fun r hr=>(hrm2 r hr).mono (List.sublist_append_right _ _)⟩;show roundsF n f (gd os2 i) (16 - (k+1)) ld2 (putS l srt)=_;rw[← hro,hj16,rounds_yes hpt,show 16 - (k+1)=j16 by omega]
     ·omega
     ·first|(show (entH (es.set j ⟨(gd es j).b,⟨(gd es j).s.q,(gd es j).s.c,(gd es j).s.l,(gd es j).s.p+1⟩⟩)++((n42,mapO encSk encPt (entM (es.set j ⟨(gd es j).b,⟨(gd es j).s.q,(gd es j).s.c,(gd es j).s.l,(gd es j).s.p+1⟩⟩)))::(n13,Cl (encMc mc) 68)::(Mb++((n12,Cl (encOm (gd os i)) 58)::(rtN n29 n f n27 ld2++((slH y (l.flatMap encU) 3++Mx)++(slH dO (rows.flatMap encLr) 79++((n4,Cl (encFl f) 29)::(n3,Cl (encNn n) 26)::H)))))))).Sublist _;rw[entM_set hj,List.append_assoc (slH y (l.flatMap encU) 3) Mx];exact sbt)|(show (entH (es++[⟨n70,⟨slQ y,slC y,toInts l,1⟩⟩])++((n42,mapO encSk encPt (entM (es++[⟨n70,⟨slQ y,slC y,toInts l,1⟩⟩])))::(n13,Cl (encMc mc) 68)::(Mb++((n12,Cl (encOm (gd os i)) 58)::(rtN n29 n f n27 ld2++((slH y (l.flatMap encU) 3++Mx)++(slH dO (rows.flatMap encLr) 79++((n4,Cl (encFl f) 29)::(n3,Cl (encNn n) 26)::H)))))))).Sublist _;rw[entH_new,show entM (es++[⟨n70,⟨slQ y,slC y,toInts l,1⟩⟩])=entM es++[(keyR (toInts l),n70)] from List.map_append ..,List.append_assoc (slH y (l.flatMap encU) 3) Mx,List.cons_append];exact sbt)
   ·refine rO tb 11 U (y_ (B0 (T U)) (rO tb 2 U ?_) U);refine Cj (Aa U) ?_;refine rC tb 4 U (y_ (Lc U isAgg58 sizeOf58 U qcs) ?_ U);refine y_ (Lc U isAgg68 sizeOf68 U qcs) ?_ U;refine e_ (Ak (qe4 U U U U) call59 (A6 (rtH n29 n f y2 ld) qlc (stuck_s n29 n (hn.mono sbt) hok hcap f (hf.mono sbt) hfl os os2 qo co (hO.mono sbt) hoo (gd os2 i) ho1 (gd os i) hod ld hldr mc (hmc2.mono sbx) hmpl y2 hy2 (by have:=find_few hok ho1.mce.ok (f:=f) (to:=(gd os2 i).y) ho1.x;omega)))) ?_ U;rintro _ _ ⟨dS,⟨rfl,hdS⟩,rfl⟩;refine kO tb 8 [6,7,8] rfl U (rG tb 4 U (As (rX tb 4 U (As (rX tb 2 U (Ah U (.tmp (Aa U) (.tmp (Aa U) (K9 U))) ?_))))));have hfin:routeF n f os2=(outS,some (ld,(gd os2 i))):=by rw[← hgo,goR_no (by rw[← hro,hj16,rounds_no hpt])]
    exact⟨_,⟨slH dS ((stuckF n f os2 (gd os2 i) ld).1.flatMap encI) 3, .inr ⟨outS,ld,(gd os2 i),slQ dS,slC dS,⟨hfin,rfl⟩,A1 (fun _=>rfl) hdS,stuck_len hok⟩,rfl⟩,sbt⟩
  ·obtain rfl:k=16:=by omega
   rw[Nat.sub_self] at hro;have hrd:roundsF n f (gd os2 i) 16 ld0 []=(true,ld,srt):=by rw[← hro];rfl
   rw[goR_yes hrd] at hgo;have hec:=hesr.ek;have hel:=hesr.len;have hlN:n.links.length≤128:=by omega
   refine rC tb 2 U (Ag (rX tb 11 U ?_));refine e_ (eff_rangeMap (m:=n42) (l:=entM es) (encK:=encSk) (encV:=encPt) (T U) fdd runUnderlying101) ?_ U;rintro _ _ ⟨n84,rfl,rfl⟩;refine rO tb 3 U ?_;refine Ba (X:=List Nat × List Lm × Sl) (V:=fun ⟨seen,acc,dw⟩=>[(19,slV dw acc.length)]) (C:=[(2,_),(9,_),(10,_),(30,_),(31,_),(32,_),(84,_)]) (G:=fun ⟨seen,acc,dw⟩=>slH dw (acc.flatMap encLm) 77++((n84,itO n42 (entM es).length seen (entM es).length)::(entH es++((n42,mapO encSk encPt (entM es))::(n13,Cl (encMc mc) 68)::(Mb++((n12,Cl (encOm (gd os i)) 58)::(rtN n29 n f n27 ld++(Mx++(slH dO (rows.flatMap encLr) 79++((n4,Cl (encFl f) 29)::(n3,Cl (encNn n) 26)::H)))))))))) (φ:=fun ⟨seen,acc,dw⟩=>acc=seen.map (fun z=>(gd es z).s)∧SlOk dw acc.length 2∧seen.Nodup∧∀ z∈seen,z<es.length) (μ:=fun ⟨seen,acc,dw⟩=>es.length - seen.length) (x0:=([],[], .nil)) ?_ ⟨Aa rfl,Aa rfl,Aa rfl,Aa rfl,Aa rfl,Aa rfl,Aa rfl,trivial⟩ ⟨qat,trivial⟩ sb0 ?_
   ·exact⟨rfl,rfl,List.nodup_nil,fun z hz=>by cases hz⟩
   rintro⟨seen,acc,dw⟩ ⟨hacc,hdw,hsn,hlt⟩;have hsle:=seen_le' hsn hlt;refine rD tb 2 U ?_;refine e_ (eff_next (m:=n42) (l:=entM es) (encK:=encSk) (encV:=encPt) (T U) fdd (by repeat (first|exact Loc.h|apply Loc.t|apply Loc.a))) ?_ U;rintro _ _ (⟨z,⟨kb,pb⟩,hip,hni,rfl,rfl⟩|⟨hall,rfl,rfl⟩)
   ·refine rO tb 4 U ?_;refine Cj (Aa U) ?_;refine rC tb 5 U ?_;refine y_ (yl_entry (m:=n42) (l:=entM es) (encK:=encSk) (encV:=encPt) (T U) fdd fdd hip) ?_ U;refine y_ (Ew (T U) U) ?_ U;have hil:z<es.length:=by have:=(List.getElem?_eq_some_iff.1 hip).1;simpa using this
    obtain⟨rfl,rfl⟩:kb=keyR (gd es z).s.l∧pb=(gd es z).b:=by
     rw[List.getElem?_map,B2 hil] at hip;have:=Option.some.inj hip;exact⟨(congrArg Prod.fst this).symm,(congrArg Prod.snd this).symm⟩
    have hsl:=seen_lt' hsn hlt hni hil;refine rO tb 7 U ?_;refine y_ (Lc U isAgg77 sizeOf77 U (by exact(C2 (by repeat (first|exact fnd_l (entH_fnd hil)|refine Aq ?_|refine Ax ?_))))) ?_ U;refine e_ (Aj (.cons (T U) .nil) (Hv _ _ _ _)) ?_ U;rintro _ _ ⟨n93,rfl,rfl⟩;refine e_ (Bg ((gd es z).s) (by':=32) (enc:=encLm) (l:=acc) (d:=dw) qlc (T U) (T U) runUnderlying79 runUnderlying79 sizeOf77 typeInfo77 U zeroValue77 U (fun _=>rfl) U hdw qde (by rw[hacc,List.length_map];omega)) ?_ U;rintro _ _ ⟨dw2,rfl,hdw2,rfl⟩;refine rO tb 3 U ?_;refine Ar ((seen++[z],acc++[(gd es z).s],dw2)) ?_ ?_ ⟨qat,trivial⟩ ⟨Aa U,Aa U,Aa U,Aa U,Aa U,Aa U,Aa U,trivial⟩ ?_
    ·refine⟨by rw[hacc,List.map_append];rfl,hdw2,?_,fun j hj=> ?_⟩
     ·rw[List.nodup_append];exact⟨hsn,by simp,by intro a ha b hb;simp at hb;subst hb;rintro rfl;exact hni ha⟩
     ·rcases List.mem_append.1 hj with h|h
      ·exact hlt j h
      ·simp at h;subst h;exact hil
    ·show es.length - (seen++[z]).length<es.length - seen.length;rw[List.length_append,List.length_singleton];omega
    ·exact sbt
   ·refine rO tb 4 U ?_;refine H7 (Aa U) ?_;refine rC tb 2 U (Ag (rX tb 5 U ?_));refine e_ (Ak (.cons (T U) (.cons J1 .nil)) call61 (A6 (slH dw (acc.flatMap encLm) 77) .h (sortL_s dw acc hdw (by rw[hacc,List.length_map];omega) (fun s hs=>by
      rw[hacc] at hs;obtain⟨z,hz,rfl⟩:=List.mem_map.1 hs;exact(hesr.m z (hlt z hz)).mono sbx)))) ?_ U
    rintro _ _ ⟨ks,⟨rfl,hkp,hkw⟩,rfl⟩;refine Fb (perm_rt (slH dw (ks.flatMap encLm) 77) (entH es) Mb (rtN n29 n f n27 ld) (Mx++(slH dO (rows.flatMap encLr) 79++((n4,Cl (encFl f) 29)::(n3,Cl (encNn n) 26)::H))) _ _ _ _) (rO tb 5 U (e_ (Aj (.cons (T U) .nil) (zbs31_1_0 _ _ _)) ?_ U));rintro _ _ ⟨n99,rfl,rfl⟩;refine e_ (Bg (⟨slQ dw,slC dw,ks⟩:Lr) (by':=24) (enc:=encLr) (l:=rows) (d:=dO) qlc (T U) (T U) runUnderlying31 runUnderlying31 sizeOf79 typeInfo79 U zeroValue79 U (fun _=>rfl) U hdO qde qom (hn:=by
      have e:encLr (⟨slQ dw,slC dw,ks⟩:Lr)=[.slice (slQ dw) acc.length (slC dw)]:=by show [Value.slice _ ks.length _]=_;rw[hkp.length_eq]
      rw[e];exact A3)) ?_ U
    rintro _ _ ⟨dO2,rfl,hdO2,rfl⟩;refine rO tb 5 U (y_ (Av (T U) Ap qom) ?_ U);refine rO tb 2 U ?_;refine Ar ((i+1,ld,rows++[⟨slQ dw,slC dw,ks⟩],outS++[srt],dO2,slH dw (ks.flatMap encLm) 77++Mx)) ?_ ?_ ⟨qat,qat,trivial⟩ ⟨Aa U,Aa U,Aa U,Aa U,trivial⟩ ?_
    ·have hks:=ks_own hesr hsS hpS ((hkp.trans (by rw[hacc];exact seen_perm hsn hlt (fun z hz=>hall z (by simpa using hz))))) hkw;refine⟨by omega,hldr,⟨by simpa using hdO2,by simp[hrl]⟩,?_,fun r hr=> ?_,hgo⟩
     ·rw[List.map_append,List.map_append,hrw];show _++[ks.map Lm.lan]=_++[srt.map Sha.lan];rw[hks]
     ·rcases List.mem_append.1 hr with h|h
      ·exact(hrm2 r h).mono (List.sublist_append_right _ _)
      ·simp at h;subst h;exact⟨A1 (fun _=>rfl) (by rw[hkp.length_eq];exact hdw),by show ks.length≤_;rw[hkp.length_eq,hacc,List.length_map];omega,fun s hs=>by
        have hs2:=hkp.subset hs;rw[hacc] at hs2;obtain⟨z,hz,rfl⟩:=List.mem_map.1 hs2;exact(hesr.m z (hlt z hz)).mono (List.sublist_append_right _ _)⟩
    ·first|omega|(simp only[];omega)
    ·show (rtN n29 n f n27 ld++((slH dw (ks.flatMap encLm) 77++Mx)++_)).Sublist _;rw[List.append_assoc];exact sbt
 ·refine rC tb 2 U (Ag (rX tb 11 U (Ah U (.tmp (Aa U) (.tmp (Aa U) (K9 U))) ?_)));have hfin:routeF n f os2=(outS,none):=by rw[← hgo,List.drop_of_length_le qom];rfl
  exact⟨_,⟨Mx0++slH dO (rows.flatMap encLr) 79, .inl ⟨outS,slQ dO,slC dO,rows,⟨hfin,rfl⟩,⟨(A1 (w0:=w0) (d:=dO) (enc:=encLr) (sz:=1) (l:=rows) (e:=79) (X:=[]) (fun _=>rfl) hdO).mono (by rw[List.append_nil];exact(List.sublist_append_right _ _).trans (List.sublist_append_left _ _)),by omega,fun r hr=>(hrm r hr).mono ((List.sublist_append_left _ _).trans (List.sublist_append_left _ _))⟩,hrw⟩,rfl⟩,by rw[List.append_assoc];exact sbt⟩
theorem Hw (a0:Option Addr)(a0n a0c:Nat)(a1:Int)(w:World):(Instr.build 77 #[(0, .slice a0 a0n a0c),(1, .int .i64 a1)]).run Tryz.prog w= .ok (.agg #[.slice a0 a0n a0c, .int .i64 a1]) w:=by kernel_rfl
theorem Er {α:Type}{w0:World}{H:List (Nat × Obj)}{q:Option Addr}{sz:Nat}{enc:α→List Value}:Arr w0 H q sz enc []:=fun _ _ h=>by cases h
section
variable {P:Program} {w0:World} {L:Fm} {ty t:TypeId} {H:List (Nat × Obj)} {x y z:Operand}
theorem yl_sliceA {e:TypeId}{n b sz:Nat}(hx:Ev L x (.pointer (some ⟨b,0,none⟩)))(ht:∀ w,(underlying t).run P w= .ok (.array n e) w)(hs:∀ w,(sizeOf e).run P w= .ok sz w):
  Yl P w0 (.slice t x none none none) ty L H (.slice (some ⟨b,0,none⟩) n n):=Bf U fun b w=>by
 simp[exO,execOp,Instr.sliceAt,Instr.sureAddr,Instr.sliceBounds,Instr.sliceBound,asIntOf,hx b,ht,hs,Sem.run_bind,Result.andThen,Addr.add]
theorem yl_ssL {s:ByteArray}{k:Nat}(hx:Ev L x (.string s))(hz:Ev L z (.int .i64 (k:Int)))(ht:∀ w,(underlying t).run P w= .ok .string w)(h:k≤s.size):
  Yl P w0 (.slice t x (some z) none none) ty L H (.string (s.extract k s.size)):=Bf U fun b w=>by
 simp[exO,execOp,Instr.sliceAt,Instr.slice,Instr.sliceBounds,Instr.sliceBound,asIntOf,hx b,hz b,ht,Sem.run_bind,Result.andThen,show (k:Int)≤s.size by omega];rw[if_pos h]
theorem yl_ssH {s:ByteArray}{k:Nat}(hx:Ev L x (.string s))(hz:Ev L z (.int .i64 (k:Int)))(ht:∀ w,(underlying t).run P w= .ok .string w)(h:k≤s.size):
  Yl P w0 (.slice t x none (some z) none) ty L H (.string (s.extract 0 k)):=Bf U fun b w=>by
 simp[exO,execOp,Instr.sliceAt,Instr.slice,Instr.sliceBounds,Instr.sliceBound,asIntOf,hx b,hz b,ht,Sem.run_bind,Result.andThen,show (k:Int)≤s.size by omega];rw[if_pos h]
theorem yl_sliceB {e:TypeId}{q:Option Addr}{n c sz k m:Nat}(hx:Ev L x (.slice q n c))(hy:Ev L y (.int .i64 (k:Int)))(hz:Ev L z (.int .i64 (m:Int)))(ht:∀ w,(underlying t).run P w= .ok (.slice e) w)(hs:∀ w,(sizeOf e).run P w= .ok sz w)(h:k≤m∧m≤c):
  Yl P w0 (.slice t x (some y) (some z) none) ty L H (.slice (slD q c k sz) (m - k) (c - k)):=Bf U fun b w=>by
 simp[exO,execOp,Instr.sliceAt,Instr.slice,Instr.sliceBounds,Instr.sliceBound,asIntOf,hx b,hy b,hz b,ht,hs,Sem.run_bind,Result.andThen,show (k:Int)≤m by omega,show (m:Int)≤c by omega,slD];rw[if_pos h.2];simp[Sem.run_bind,Result.andThen,h.1,h.2,hs]
end
theorem ext_byte {s:ByteArray}{k:Nat}(h:k<s.size):0<(s.extract k s.size).size∧∀ h0,(s.extract k s.size)[0]'h0=s[k]:=by
 have e:(s.extract k s.size).size=s.size - k:=by rw[ByteArray.size_extract];omega
 refine⟨by omega,fun h0=> ?_⟩;rw[ByteArray.getElem_extract];simp
theorem ext_all (s:ByteArray):s.extract 0 s.size=s:=by
 apply ByteArray.ext;simp
theorem zbd168_0_1 (a0:Int)(a1:Int)(w:World):(Instr.build 168 #[(0, .int .i64 a0),(1, .int .i64 a1)]).run Tryz.prog w= .ok (.agg #[.int .i64 a0, .int .i64 a1]) w:=by kernel_rfl
theorem words_srt:Srt wordsL:=by
 unfold Srt;exact of_decide_eq_true qkr
abbrev F106:Value:= .func (.func 106) #[] #[]
abbrev F202:Value:= .func (.func 202) #[] #[]
theorem pwi_s {w0:World}{H:List (Nat × Obj)}(a b c:Int):
  FSpec Tryz.prog w0 211 #[.int .u8 a, .int .u8 b, .int .u8 c] H (Still (.bool (decide (b≤a∧a≤c))) H):=by
 refine Ao Tryz.func211 U ntmps211 U (rD tb 11 U ?_);refine A4 (s:=10) (Aa U) (fun c10=> ?_) (fun c10=> ?_)
 ·refine rO tb 8 U (Ah U (K9 U) ?_);exact⟨_,⟨vbool (by exact decide_eq_decide.2 (by constructor<;>intro h<;>omega)),rfl⟩,sbt⟩
 ·refine rO tb 8 U (Ah U (K9 U) ?_);exact⟨_,⟨vbool (by first|exact decide_eq_decide.2 (by constructor<;>intro h<;>omega)|exact(decide_eq_false qom).symm),rfl⟩,sbt⟩
theorem plet_s {w0:World}{H:List (Nat × Obj)}(c:Int):
  FSpec Tryz.prog w0 200 #[.int .u8 c] H (Still (.bool (chB c)) H):=by
 refine Ao Tryz.func200 U ntmps200 U (rD tb 8 U (y_ (Ay (.cons (T U) (.cons Ap (.cons Ap .nil))) call211 (fun H' hs=>pwi_s _ _ _)) (rO tb 4 U (Ah U (K9 U) ?_)) U));exact⟨_,⟨rfl,rfl⟩,sbt⟩
theorem pdig_s {w0:World}{H:List (Nat × Obj)}(c:Int):
  FSpec Tryz.prog w0 212 #[.int .u8 c] H (Still (.bool (dgB c)) H):=by
 refine Ao Tryz.func212 U ntmps212 U (rD tb 8 U (y_ (Ay (.cons (T U) (.cons Ap (.cons Ap .nil))) call211 (fun H' hs=>pwi_s _ _ _)) (rO tb 4 U (Ah U (K9 U) ?_)) U));exact⟨_,⟨rfl,rfl⟩,sbt⟩
theorem pwb_s {w0:World}{H:List (Nat × Obj)}(c:Int):
  FSpec Tryz.prog w0 203 #[.int .u8 c] H (Still (.bool (wbB c)) H):=by
 refine Ao Tryz.func203 U ntmps203 U (rD tb 8 U (y_ (Ay (qe1 U) call200 (fun H' hs=>plet_s _)) (rO tb 1 U ?_) U));refine A4 (s:=5) (Aa U) (fun c5=> ?_) (fun c5=> ?_)
 ·refine rO tb 11 U (Ah U (K9 U) ?_);exact⟨_,⟨vbool (by unfold wbB chB dgB;simp[*]),rfl⟩,sbt⟩
 ·refine rO tb 1 U (A5 (Ay (qe1 U) call212 (fun H' hs=>pdig_s _)) U (Az U U (Aa U)) (rO tb 2 U ?_));refine A4 (s:=9) (Aa U) (fun c9=> ?_) (fun c9=> ?_)
  ·refine rO tb 7 U (Ah U (K9 U) ?_);exact⟨_,⟨vbool (by unfold wbB chB dgB;simp[*]),rfl⟩,sbt⟩
  ·refine rO tb 7 U (Ah U (K9 U) ?_);exact⟨_,⟨vbool (by unfold wbB chB dgB;simp[*]),rfl⟩,sbt⟩
theorem pnm1_s {w0:World}{H:List (Nat × Obj)}(s:ByteArray)(hz:0<s.size)(c:Int)(hc:(s[0].toNat:Int)=c):
  FSpec Tryz.prog w0 202 #[.string s] H (Still (.bool (wbB c)) H):=by
 refine Ao Tryz.func202 U ntmps202 U (rD tb 8 U (y_ (D4 (T U) Ap runUnderlying9 (by exact hz)) ?_ U));refine y_ (Ay (qe1 U) call203 (fun H' hs=>pwb_s _)) (rO tb 4 U (Ah U (K9 U) ?_)) U;exact⟨_,⟨by rw[← hc];rfl,rfl⟩,sbt⟩
theorem ppre_s {w0:World}{H:List (Nat × Obj)}(s:ByteArray)(hs:s.size≤9223372036854775807)(hw:∀ j,j<s.size→wbB (bz s j)=true):
  FSpec Tryz.prog w0 201 #[.string s,F202] H (Still (.string s) H):=by
 refine Ao Tryz.func201 U ntmps201 U (rD tb 12 U ?_);refine Bd (X:=Nat) (V:=fun i=>[(5, .int .i64 (i:Nat))]) (C:=[(0,_),(1,_)]) (φ:=fun i=>i≤s.size) (μ:=fun i=>s.size - i) (x0:=0) ?_ ⟨Aa U,Aa U,trivial⟩ ⟨qat,trivial⟩ ?_
 ·exact Nat.zero_le _
 rintro i hi;refine rD tb 5 U (y_ (Dn (T U) runUnderlying9) (rO tb 2 U ?_) U);refine A4 (s:=10) (Aa U) (fun c10=> ?_) (fun c10=> ?_)
 ·refine rO tb 3 U (A5 (yl_ssL (T U) (T U) runUnderlying9 qom) U (Az U U (Aa U)) ?_);refine A5 (Cn (T U) (qe1 U) call202 (fun H' hs=>(by have h:=pnm1_s (w0:=w0) (H:=H') (s.extract i s.size) (ext_byte qom).1 (bz s i) (by rw[(ext_byte qom).2,Kf qom]);rw[hw i qom] at h;exact h))) U (Az U U (Aa U)) ?_;refine rO tb 3 U ?_
  first|refine Ad (Aa U) (fun c16=> ?_) (fun c16=> ?_)|refine Bq (Aa U) (fun c16=> ?_) (fun c16=> ?_)
  ·refine rC tb 5 U (y_ (Av (T U) Ap qom) ?_ U);refine rO tb 3 U ?_;refine Ar (i+1) ?_ ?_ ⟨qat,trivial⟩ ⟨Aa U,Aa U,trivial⟩ ?_
   ·show i+1≤_;omega
   ·omega
   ·exact sbt
  ·refine rC tb 2 U (Ag (rX tb 6 U (y_ (yl_ssH (T U) (T U) runUnderlying9 qom) ?_ U)));refine rO tb 4 U (Ah U (K9 U) ?_);cases c16
 ·refine rO tb 11 U (Ag (rX tb 6 U (y_ (yl_ssH (T U) (T U) runUnderlying9 qom) ?_ U)));refine rO tb 4 U (Ah U (K9 U) ?_);obtain rfl:i=s.size:=by omega
  rw[ext_all];exact⟨_,⟨rfl,rfl⟩,sbt⟩
theorem pnam_s {w0:World}{H:List (Nat × Obj)}(s:ByteArray)(hk:NmOk s)(hW:Arr w0 [] (some ⟨0,0,none⟩) 1 encS wordsL):
  FSpec Tryz.prog w0 180 #[.string s] H (Still (.bool true) H):=by
 refine Ao Tryz.func180 U ntmps180 U ?_;have hz:=hk.z;have hn:=hk.n;have hz0:0<s.size:=by omega
 have hch:chB (s[0].toNat:Int)=true:=by rw[← Kf hz0];exact hk.c
 refine rD tb 9 U (y_ (Ci (T U) Ap) (rO tb 1 U ?_) U);refine A4 (s:=7) (Aa U) (fun c7=> ?_) (fun c7=> ?_)
 ·refine rO tb 20 U (Ah U (K9 U) ?_);exact absurd (E3 (s:=s) (b:=true) (by rw[decide_eq_true c7]) U) (fun e=>hz (by rw[e];rfl))
 ·refine rO tb 1 U (A5 (Dn (T U) runUnderlying9) U (Az U U (Aa U)) (rO tb 3 U ?_));refine A4 (s:=12) (Aa U) (fun c12=> ?_) (fun c12=> ?_)
  ·refine rO tb 15 U (Ah U (K9 U) ?_);exfalso;omega
  ·refine rO tb 1 U (A5 (D4 (T U) Ap runUnderlying9 (by exact hz0)) U (Az U U (Aa U)) ?_);refine A5 (Ay (qe1 U) call200 (fun H' hs=>plet_s _)) U (Az U U (Aa U)) ?_;refine A5 (A9 (T U)) U (Az U U (Aa U)) ?_;refine rO tb 3 U ?_;refine Ad (Aa U) (fun c17=> ?_) (fun c17=> ?_)
   ·refine rC tb 7 U (Ah U (K9 U) ?_);exact absurd (of_decide_eq_true hch) c17
   ·refine rC tb 4 U (y_ (yl_sliceA ev_g runUnderlying252 sizeOf9) (rO tb 1 U (y_ (Ay (qe2 U U) call74 (fun H' hs=>bs_s wordsL (some ⟨0,0,none⟩) 49 s (hW.mono (List.nil_sublist _)) words_srt qde)) ?_ U)) U);refine rO tb 10 U ?_;refine A5 (A9 (T U)) U Ac ?_;refine rO tb 1 U ?_;refine A4 (s:=26) (Aa U) (fun c26=> ?_) (fun c26=> ?_)
    ·refine rO tb 1 U (A5 (Ay (.cons (T U) (.cons J1 .nil)) call201 (fun H' hs=>ppre_s s qom hk.w)) U (Az U U (Aa U)) ?_);refine rO tb 1 U (A5 (Ci (T U) (T U)) U (Az U U (Aa U)) (kO tb 4 [2] rfl U (rG tb 1 U (Ah U (K9 U) ?_))));exact⟨_,⟨vbool (decide_eq_true U),rfl⟩,sbt⟩
    ·refine kO tb 8 [2] rfl U (rG tb 1 U (Ah U (K9 U) ?_));obtain⟨h1,h2⟩:=Classical.not_not.1 c26;exact absurd (Dc h2 ▸ Af h1) hk.k
theorem ppl_s {w0:World}{H:List (Nat × Obj)}(s:ByteArray)(hk:NmOk s)(hW:Arr w0 [] (some ⟨0,0,none⟩) 1 encS wordsL):
  FSpec Tryz.prog w0 151 #[.string s] H (Still (.bool true) H):=by
 refine Ao Tryz.func151 U ntmps151 U (rD tb 8 U (y_ (Ay (qe1 U) call180 (fun H' hs=>pnam_s s hk hW)) (rO tb 4 U (Ah U (K9 U) ?_)) U));exact⟨_,⟨rfl,rfl⟩,sbt⟩
theorem pwith_s {w0:World}{H:List (Nat × Obj)}(a b c d:Nat)(h:a+b+c+d≤1000000000):
  FSpec Tryz.prog w0 179 #[.agg #[.int .i64 (a:Nat), .int .i64 (b:Nat)], .agg #[.int .i64 (c:Nat), .int .i64 (d:Nat)]] H (Still (.agg #[.int .i64 ((a+c:Nat):Int), .int .i64 ((max b (d+1):Nat):Int)]) H):=by
 refine Ao Tryz.func179 U ntmps179 U (rD tb 2 U (e_ (Lf U cs_) ?_ U));rintro _ _ ⟨n2,rfl,rfl⟩;refine e_ (Lf U cs_) ?_ U;rintro _ _ ⟨n3,rfl,rfl⟩;refine e_ (Ai zeroValue168 cs_) ?_ U;rintro _ _ ⟨n4,rfl,rfl⟩;refine rO tb 5 U (y_ (Lb U isAgg3 qco) ?_ U);refine rO tb 1 U (y_ (Lb U isAgg3 qco) ?_ U);refine y_ (Av (T U) (T U) qom) ?_ U;refine rO tb 1 U (y_ (Lb U isAgg3 qco) ?_ U);refine rO tb 1 U (y_ (Lb U isAgg3 qco) ?_ U);refine y_ (Av (T U) Ap qom) ?_ U;refine y_ (J4 (T U) (T U)) (y_ (A0 (.cons (T U) (.cons (T U) .nil)) (zbd168_0_1 _ _)) ?_ U) U;refine Aw (Le U U sizeOf168) U Ac ?_;rintro _ _ ⟨rfl,rfl⟩;refine rO tb 3 U (Ah U (.cellA (Aa U) isAgg168 sizeOf168 U qcs .nil) ?_);exact⟨_,⟨by rw[show ((a+c:Nat):Int)=a+c by omega,show ((max b (d+1):Nat):Int)=max (b:Int) ((d:Int)+1) by omega];rfl,rfl⟩,sbt⟩
def psizS (w0:World) (m:Rxm):Prop:=∀ H:List (Nat × Obj),RxM w0 H m→m.sz≤8388608→FSpec Tryz.prog w0 106 #[.agg (encRx m).toArray] H (Still (.agg #[.int .i64 (m.sz:Nat), .int .i64 (m.dp:Nat)]) H)
theorem pall_s {w0:World}{H:List (Nat × Obj)}(l:List Rxm)(q:Option Addr)(c:Nat)(hA:Arr w0 H q 3 encRx l)(hlz:szL l≤8388608)(hlM:∀ a∈l,RxM w0 H a)(ih:∀ a∈l,psizS w0 a):
  FSpec Tryz.prog w0 149 #[.slice q l.length c,F106] H (Still (.agg #[.int .i64 ((1+szL l:Nat):Int), .int .i64 ((dpL l:Nat):Int)]) H):=by
 refine Ao Tryz.func149 U ntmps149 U ?_;have hln:=Fg l;refine rD tb 2 U (e_ (Ai zeroValue168 cs_) ?_ U);rintro _ _ ⟨n4,rfl,rfl⟩;refine rO tb 4 U (y_ (A0 (.cons Ap (.cons Ap .nil)) (zbd168_0_1 _ _)) (e_ (Ai zeroValue168 cs_) ?_ U) U);rintro _ _ ⟨n5,rfl,rfl⟩;refine Aw (Le U U sizeOf168) U Ac ?_;rintro _ _ ⟨rfl,rfl⟩;refine rO tb 11 U ?_;refine Ba (X:=Nat) (V:=fun i=>[(11, .int .i64 (i:Nat))]) (C:=[(1,_),(4,_),(5,_),(9,_),(10,_)]) (G:=fun i=>(n5,Cl [.int .i64 ((1+szL (l.take i):Nat):Int), .int .i64 ((dpL (l.take i):Nat):Int)] 168)::(n4,Cl [.int .i64 0, .int .i64 0] 168)::H) (φ:=fun i=>i≤l.length) (μ:=fun i=>l.length - i) (x0:=0) ?_ ⟨Aa U,Aa U,Aa U,Aa U,Aa U,trivial⟩ ⟨qat,trivial⟩ sb0 ?_
 ·exact Nat.zero_le _
 rintro i hi;have htl:=D0 l (i+1);have htl0:=D0 l i;have hdl:=Ku (l.take i) fun x _=>K5 x
 have hdg:=K5 (gd l i);refine rD tb 6 U ?_;refine Ad (Aa U) (fun c12=> ?_) (fun c12=> ?_)
 ·have htk:=Dt (l:=l) (i:=i) qom;refine rC tb 6 U (y_ (Ld U U runUnderlying54 sizeOf56 qom (by first|exact rfl|exact hA.b (i:=i) qom)) ?_ U);refine y_ (Lc U isAgg56 sizeOf56 U (by exact(hA.mono sbt).cs (i:=i) qom)) ?_ U;refine e_ (Ai zeroValue56 cs_) ?_ U;rintro _ _ ⟨n7,rfl,rfl⟩;refine Aw (Le U U sizeOf56) U Ac ?_;rintro _ _ ⟨rfl,rfl⟩;refine rO tb 2 U (Bh 5 [(0,true),(1,true),(2,true),(3,true),(4,true)] _ mixd qkr sb0 ?_ A8);refine o_y U (Lc U isAgg168 sizeOf168 U qcs) ?_ U Ac;refine rP tb 1 U (o_y U (Lc U isAgg56 sizeOf56 U qcs) ?_ U Ac);refine o_y U (Cn (T U) (qe1 U) call106 (fun H' hs=>ih _ (Af (i:=i) qom) _ ((hlM _ (Af (i:=i) qom)).mono (stn hs)) qom)) ?_ U Ac;refine o_y U (Ay (qe2 U U) call179 (fun H' hs=>pwith_s (1+szL (l.take i)) (dpL (l.take i)) (gd l i).sz (gd l i).dp qom)) ?_ U Ac;refine A7 U ?_;refine Aw (Le U U sizeOf168) U Ac ?_;rintro _ _ ⟨rfl,rfl⟩;refine rO tb 4 U (y_ (Av (T U) Ap qom) ?_ U);refine rO tb 2 U ?_;have htk:=Dt (l:=l) (i:=i) qom;rw[show 1+szL (l.take i)+(gd l i).sz=1+szL (l.take (i+1)) by omega,← dpL_take qom];refine Ar (i+1) ?_ ?_ ⟨qat,trivial⟩ ⟨Aa U,Aa U,Aa U,Aa U,Aa U,trivial⟩ ?_
  ·show i+1≤_;omega
  ·omega
  ·exact sbt
 ·refine rC tb 2 U (Ag (rX tb 4 U (y_ (Lc U isAgg168 sizeOf168 U qcs) ?_ U)));refine Aw (Le U U sizeOf168) U Ac ?_;rintro _ _ ⟨rfl,rfl⟩;refine rO tb 3 U (Ah U (.cellA (Aa U) isAgg168 sizeOf168 U qcs .nil) ?_);rw[List.take_of_length_le qom];exact⟨_,⟨rfl,rfl⟩,sbt⟩
theorem psiz_step {w0:World}{H:List (Nat × Obj)}(m:Rxm)(hM:RxM w0 H m)(hz:m.sz≤8388608)(ih:∀ a∈m.args,psizS w0 a):
  FSpec Tryz.prog w0 106 #[.agg (encRx m).toArray] H (Still (.agg #[.int .i64 (m.sz:Nat), .int .i64 (m.dp:Nat)]) H):=by
 refine Ao Tryz.func106 U ntmps106 U ?_;have hse:=Ff m;have hln:=Fg m.args;have hA:=hM.arr;refine rD tb 2 U (e_ (Lf U cs_) ?_ U);rintro _ _ ⟨n1,rfl,rfl⟩;refine e_ (Ai zeroValue168 cs_) ?_ U;rintro _ _ ⟨n2,rfl,rfl⟩;refine rO tb 5 U (y_ (Lb U isAgg54 qco) ?_ U);refine y_ (Ay (.cons (T U) (.cons J1 .nil)) call149 (fun H' hs=>pall_s m.args m.q _ (hA.mono (stn hs)) qom (fun a ha=>(hM.arg ha).mono (stn hs)) ih)) ?_ U;refine Aw (Le U U sizeOf168) U Ac ?_;rintro _ _ ⟨rfl,rfl⟩;refine rO tb 3 U (Ah U (.cellA (Aa U) isAgg168 sizeOf168 U qcs .nil) ?_);exact⟨_,⟨by rw[Ff,dp_eq];rfl,rfl⟩,sbt⟩
theorem psiz_s {w0:World}{H:List (Nat × Obj)}(m:Rxm)(hM:RxM w0 H m)(hz:m.sz≤8388608):FSpec Tryz.prog w0 106 #[.agg (encRx m).toArray] H (Still (.agg #[.int .i64 (m.sz:Nat), .int .i64 (m.dp:Nat)]) H):=
 Gh (Q:=psizS w0) (fun m ih H hM hz=>psiz_step m hM hz ih) m H hM hz
theorem plrg_s {w0:World}{H:List (Nat × Obj)}(a b:Nat)(ha:a≤200)(hb:b≤20):
  FSpec Tryz.prog w0 150 #[.agg #[.int .i64 (a:Nat), .int .i64 (b:Nat)]] H (Still (.int .i64 0) H):=by
 refine Ao Tryz.func150 U ntmps150 U (rD tb 2 U (e_ (Lf U cs_) ?_ U));rintro _ _ ⟨n1,rfl,rfl⟩;refine rO tb 7 U (y_ (Lb U isAgg3 qco) ?_ U);refine rO tb 2 U ?_;refine A4 (s:=6) (Aa U) (fun c6=> ?_) (fun c6=> ?_)
 ·refine rO tb 14 U (Ah U (K9 U) ?_);exfalso;omega
 ·refine rO tb 1 U (A5 (Lb U isAgg3 qco) U (Az U U (Aa U)) ?_);refine rO tb 4 U ?_;refine Ad (Aa U) (fun c10=> ?_) (fun c10=> ?_)
  ·refine rC tb 7 U (Ah U (K9 U) ?_);exfalso;omega
  ·refine rC tb 8 U (Ah U (K9 U) ?_);exact⟨_,⟨rfl,rfl⟩,sbt⟩
def fmS (w0:World) (m:Rxm):Prop:=∀ H:List (Nat × Obj),RxM w0 H m→FmOk m→FSpec Tryz.prog w0 109 #[.agg (encRx m).toArray] H (Still (.bool true) H)
theorem pevc_s {w0:World}{H:List (Nat × Obj)}(m:Rxm)(hM:RxM w0 H m)(hf:FmOk m)(ih:fmS w0 m)(b:Nat)(hb:Fnd H b (Cl [.func (.func 109) #[] #[]] 80)):
  FSpec Tryz.prog w0 182 #[.agg (encRx m).toArray, .pointer (some ⟨b,0,none⟩)] H (Still (.bool false) H):=by
 refine Ao Tryz.func182 U ntmps182 U (rD tb 2 U (e_ (Lf U cs_) ?_ U));rintro _ _ ⟨n2,rfl,rfl⟩;refine rO tb 5 U ?_;refine y_ (Lb U isAgg80 (by first|exact c_o|exact(Bo (i:=0) (by repeat (first|exact hb|refine Aq ?_|refine Ax ?_)) U))) ?_ U;refine y_ (Lc U isAgg56 sizeOf56 U qcs) ?_ U;refine y_ (Cn (T U) (qe1 U) call109 (fun H' hs=>ih _ (hM.mono (stn hs)) hf)) ?_ U
 first|refine A5 (A9 (T U)) U Ac ?_|refine A5 (B0 (T U)) U Ac ?_
 refine rO tb 4 U (Ah U (K9 U) ?_);exact⟨_,⟨rfl,rfl⟩,sbt⟩
theorem pixf_s {w0:World}{H:List (Nat × Obj)}(l:List Rxm)(q:Option Addr)(c:Nat)(hA:Arr w0 H q 3 encRx l)(hln:l.length≤8388608)(hlM:∀ a∈l,RxM w0 H a)(hlf:∀ a∈l,FmOk a)(ih:∀ a∈l,fmS w0 a)(b:Nat)(hb:Fnd H b (Cl [.func (.func 109) #[] #[]] 80)):
  FSpec Tryz.prog w0 204 #[.slice q l.length c,(.func (.func 182) #[] #[.pointer (some ⟨b,0,none⟩)])] H (Still (.int .i64 (-1)) H):=by
 refine Ao Tryz.func204 U ntmps204 U (rD tb 14 U ?_);refine Bd (X:=Nat) (V:=fun i=>[(8, .int .i64 (i:Nat))]) (C:=[(0,_),(1,_),(7,_)]) (φ:=fun i=>i≤l.length) (μ:=fun i=>l.length - i) (x0:=0) ?_ ⟨Aa U,Aa U,Aa U,trivial⟩ ⟨qat,trivial⟩ ?_
 ·exact Nat.zero_le _
 rintro i hi;refine rD tb 6 U ?_;refine Ad (Aa U) (fun c9=> ?_) (fun c9=> ?_)
 ·refine rC tb 15 U (y_ (Ld U U runUnderlying54 sizeOf56 qom (by first|exact rfl|exact hA.b (i:=i) qom)) ?_ U);refine y_ (Lc U isAgg56 sizeOf56 U (by exact(hA.mono sbt).cs (i:=i) qom)) ?_ U;refine y_ (Cn (T U) (qe1 U) call182 (fun H' hs=>pevc_s (gd l i) ((hlM _ (Af (i:=i) qom)).mono (stn hs)) (hlf _ (Af (i:=i) qom)) (ih _ (Af (i:=i) qom)) b ((stn hs).subset hb))) ?_ U;refine rO tb 2 U ?_
  first|refine Ad (Aa U) (fun c16=> ?_) (fun c16=> ?_)|refine Bq (Aa U) (fun c16=> ?_) (fun c16=> ?_)
  ·refine rC tb 9 U (As (rX tb 2 U (Ah U (K9 U) ?_)));cases c16
  ·refine rC tb 4 U (y_ (Av (T U) Ap qom) ?_ U);refine rO tb 2 U ?_;refine Ar (i+1) ?_ ?_ ⟨qat,trivial⟩ ⟨Aa U,Aa U,Aa U,trivial⟩ ?_
   ·show i+1≤_;omega
   ·omega
   ·exact sbt
 ·refine rC tb 2 U (Ag (rX tb 8 U (Ah U (K9 U) ?_)));exact⟨_,⟨rfl,rfl⟩,sbt⟩
theorem pctf_s {w0:World}{H:List (Nat × Obj)}(l:List Rxm)(q:Option Addr)(c:Nat)(hA:Arr w0 H q 3 encRx l)(hln:l.length≤8388608)(hlM:∀ a∈l,RxM w0 H a)(hlf:∀ a∈l,FmOk a)(ih:∀ a∈l,fmS w0 a)(b:Nat)(hb:Fnd H b (Cl [.func (.func 109) #[] #[]] 80)):
  FSpec Tryz.prog w0 181 #[.slice q l.length c,(.func (.func 182) #[] #[.pointer (some ⟨b,0,none⟩)])] H (Still (.bool false) H):=by
 refine Ao Tryz.func181 U ntmps181 U (rD tb 9 U (y_ (Ay (qe2 U U) call204 (fun H' hs=>pixf_s l q c (hA.mono (stn hs)) hln (fun a ha=>(hlM a ha).mono (stn hs)) hlf ih b ((stn hs).subset hb))) (rO tb 5 U (Ah U (K9 U) ?_)) U));exact⟨_,⟨rfl,rfl⟩,sbt⟩
theorem pevr_s {w0:World}{H:List (Nat × Obj)}(l:List Rxm)(q:Option Addr)(c:Nat)(hA:Arr w0 H q 3 encRx l)(hln:l.length≤8388608)(hlM:∀ a∈l,RxM w0 H a)(hlf:∀ a∈l,FmOk a)(ih:∀ a∈l,fmS w0 a)(k:Nat)(hk:l.length=k):
  FSpec Tryz.prog w0 152 #[.slice q l.length c, .int .i64 (k:Nat), .func (.func 109) #[] #[]] H (Still (.bool true) H):=by
 refine Ao Tryz.func152 U ntmps152 U (rD tb 2 U (e_ (Lf U cs_) ?_ U));rintro _ _ ⟨n5,rfl,rfl⟩;refine rO tb 10 U ?_;refine A4 (s:=11) (Aa U) (fun c11=> ?_) (fun c11=> ?_)
 ·refine rO tb 1 U (A5 (Bl (.cons (T U) .nil)) U (Az U U (Aa U)) (A5 (Ay (qe2 U U) call181 (fun H' hs=>pctf_s l q c (hA.mono (stn hs)) hln (fun a ha=>(hlM a ha).mono (stn hs)) hlf ih n5 (hs.subset A2))) U (Az U U (Aa U)) ?_))
  first|refine A5 (A9 (T U)) U (Az U U (Aa U)) ?_|refine A5 (B0 (T U)) U (Az U U (Aa U)) ?_
  refine rO tb 5 U (Ah U (K9 U) ?_);exact⟨_,⟨rfl,rfl⟩,sbt⟩
 ·refine rO tb 9 U (Ah U (K9 U) ?_);exfalso;omega
theorem pfm_step {w0:World}{H:List (Nat × Obj)}(m:Rxm)(hM:RxM w0 H m)(hf:FmOk m)(ih:∀ a∈m.args,fmS w0 a)(hW:Arr w0 [] (some ⟨0,0,none⟩) 1 encS wordsL):
  FSpec Tryz.prog w0 109 #[.agg (encRx m).toArray] H (Still (.bool true) H):=by
 refine Ao Tryz.func109 U ntmps109 U ?_;have hA:=hM.arr;have hfc:=Iu hf;have hal:m.args.length≤2:=by rcases hfc with h|h|h|h<;>first|omega|(rw[h.2.2];decide)
 have hne:m.kind≠2→m.node=⟨#[]⟩:=fun e=>by rcases hfc with h|h|h|h<;>first|exact absurd h.1 e|exact h.2.1
 have hn0:m.kind=2∨m.kind=1∨m.kind=3→m.args.length=0:=fun e=>by rcases hfc with h|h|h|h<;>first|(rw[h.2.2];rfl)|(exfalso;omega)
 have hn1:m.kind=6→m.args.length=1:=fun e=>by rcases hfc with h|h|h|h<;>first|(exfalso;omega)|exact h.2.2.1
 have hn2:m.kind=4∨m.kind=5→m.args.length=2:=fun e=>by rcases hfc with h|h|h|h<;>first|(exfalso;omega)|exact h.2.2.1
 have hkk:m.kind=2∨m.kind=1∨m.kind=3∨m.kind=6∨m.kind=4∨m.kind=5:=by rcases hfc with h|h|h|h<;>omega
 refine rD tb 2 U (e_ (Lf U cs_) ?_ U);rintro _ _ ⟨n1,rfl,rfl⟩;refine rO tb 7 U (y_ (Lb U isAgg3 qco) ?_ U);refine rO tb 9 U ?_;refine Ad (Aa U) (fun c5=> ?_) (fun c5=> ?_)
 ·refine rC tb 3 U (y_ (Lb U isAgg9 qco) ?_ U);refine y_ (Ay (qe1 rfl) call151 (fun H' hs=>ppl_s m.node (by rcases hfc with h|h|h|h<;>first|exact h.2.1|(exfalso;omega)) hW)) ?_ rfl;refine rO tb 1 U ?_
  first|refine A4 (s:=10) (Aa U) (fun c10=> ?_) (fun c10=> ?_)|refine Ej (s:=10) (Aa U) (fun c10=> ?_) (fun c10=> ?_)
  ·refine rO tb 1 U (A5 (Lb U isAgg54 qco) U (Az U U (Aa U)) ?_);refine rO tb 9 U (Ah U (K9 U) ?_)
   first|exact⟨_,⟨rfl,rfl⟩,sbt⟩|exact⟨_,⟨vbool (decide_eq_true qom),rfl⟩,sbt⟩
  ·refine rO tb 11 U (Ah U (K9 U) ?_)
   first|exact⟨_,⟨rfl,rfl⟩,sbt⟩|exact⟨_,⟨vbool (decide_eq_true qom),rfl⟩,sbt⟩|(exfalso;omega)|exact absurd (by assumption:true=false) qde
 ·refine rC tb 7 U ?_;refine Ad (Aa U) (fun c16=> ?_) (fun c16=> ?_)
  ·refine rC tb 2 U ?_
   first|refine Cj (Aa U) ?_|refine Cj (Be (Aa U) (vbool (decide_eq_true c16))) ?_
   refine rC tb 3 U (y_ (Lb U isAgg9 qco) ?_ U);refine y_ (Ci (T U) Ap) (rO tb 1 U ?_) U;refine A4 (s:=22) (Aa U) (fun c22=> ?_) (fun c22=> ?_)
   ·refine rO tb 1 U (A5 (Lb U isAgg54 qco) U (Az U U (Aa U)) ?_);refine rO tb 9 U (Ah U (K9 U) ?_)
    first|exact⟨_,⟨rfl,rfl⟩,sbt⟩|exact⟨_,⟨vbool (decide_eq_true qom),rfl⟩,sbt⟩
   ·refine rO tb 11 U (Ah U (K9 U) ?_)
    first|exact⟨_,⟨rfl,rfl⟩,sbt⟩|exact⟨_,⟨vbool (decide_eq_true qom),rfl⟩,sbt⟩|(exfalso;omega)|exact absurd (by assumption:true=false) qde|exact absurd (congrArg (fun s:ByteArray=>s.data.toList) (hne qom)) (by assumption)
  ·refine rC tb 5 U ?_;refine Ad (Aa U) (fun c16=> ?_) (fun c16=> ?_)
   ·refine rC tb 3 U (y_ (Lb U isAgg9 qco) ?_ U);refine y_ (Ci (T U) Ap) (rO tb 1 U ?_) U;refine A4 (s:=22) (Aa U) (fun c22=> ?_) (fun c22=> ?_)
    ·refine rO tb 1 U (A5 (Lb U isAgg54 qco) U (Az U U (Aa U)) ?_);refine rO tb 9 U (Ah U (K9 U) ?_)
     first|exact⟨_,⟨rfl,rfl⟩,sbt⟩|exact⟨_,⟨vbool (decide_eq_true qom),rfl⟩,sbt⟩
    ·refine rO tb 11 U (Ah U (K9 U) ?_)
     first|exact⟨_,⟨rfl,rfl⟩,sbt⟩|exact⟨_,⟨vbool (decide_eq_true qom),rfl⟩,sbt⟩|(exfalso;omega)|exact absurd (by assumption:true=false) qde|exact absurd (congrArg (fun s:ByteArray=>s.data.toList) (hne qom)) (by assumption)
   ·refine rC tb 6 U ?_;refine Ad (Aa U) (fun c28=> ?_) (fun c28=> ?_)
    ·refine rC tb 3 U (y_ (Lb U isAgg9 qco) ?_ U);refine y_ (Ci (T U) Ap) (rO tb 1 U ?_) U;refine A4 (s:=33) (Aa U) (fun c33=> ?_) (fun c33=> ?_)
     ·refine rO tb 1 U (A5 (Lb U isAgg54 qco) U (Az U U (Aa U)) ?_);refine A5 (Ay (.cons (T rfl) (.cons Ap (.cons J1 .nil))) call152 (fun H' hs=>pevr_s m.args m.q _ (hA.mono (stn hs)) qom (fun a ha=>(hM.arg ha).mono (stn hs)) (by rcases hfc with h|h|h|h<;>first|exact h.2.2.2|(exfalso;omega)) ih 1 qom)) rfl (Az rfl rfl (Aa rfl)) ?_;refine rO tb 7 U (Ah U (K9 U) ?_);exact⟨_,⟨rfl,rfl⟩,sbt⟩
     ·refine rO tb 10 U (Ah U (K9 U) ?_)
      first|exact⟨_,⟨rfl,rfl⟩,sbt⟩|exact⟨_,⟨vbool (decide_eq_true qom),rfl⟩,sbt⟩|(exfalso;omega)|exact absurd (by assumption:true=false) qde|exact absurd (congrArg (fun s:ByteArray=>s.data.toList) (hne qom)) (by assumption)
    ·refine rC tb 7 U ?_;refine Ad (Aa U) (fun c38=> ?_) (fun c38=> ?_)
     ·refine rC tb 2 U ?_
      first|refine Cj (Aa U) ?_|refine Cj (Be (Aa U) (vbool (decide_eq_true c38))) ?_
      refine rC tb 3 U (y_ (Lb U isAgg9 qco) ?_ U);refine y_ (Ci (T U) Ap) (rO tb 1 U ?_) U;refine A4 (s:=44) (Aa U) (fun c44=> ?_) (fun c44=> ?_)
      ·refine rO tb 1 U (A5 (Lb U isAgg54 qco) U (Az U U (Aa U)) ?_);refine A5 (Ay (.cons (T rfl) (.cons Ap (.cons J1 .nil))) call152 (fun H' hs=>pevr_s m.args m.q _ (hA.mono (stn hs)) qom (fun a ha=>(hM.arg ha).mono (stn hs)) (by rcases hfc with h|h|h|h<;>first|exact h.2.2.2|(exfalso;omega)) ih 2 qom)) rfl (Az rfl rfl (Aa rfl)) ?_;refine rO tb 7 U (Ah U (K9 U) ?_);exact⟨_,⟨rfl,rfl⟩,sbt⟩
      ·refine rO tb 10 U (Ah U (K9 U) ?_)
       first|exact⟨_,⟨rfl,rfl⟩,sbt⟩|exact⟨_,⟨vbool (decide_eq_true qom),rfl⟩,sbt⟩|(exfalso;omega)|exact absurd (by assumption:true=false) qde|exact absurd (congrArg (fun s:ByteArray=>s.data.toList) (hne qom)) (by assumption)
     ·refine rC tb 5 U ?_;refine Ad (Aa U) (fun c38=> ?_) (fun c38=> ?_)
      ·refine rC tb 3 U (y_ (Lb U isAgg9 qco) ?_ U);refine y_ (Ci (T U) Ap) (rO tb 1 U ?_) U;refine A4 (s:=44) (Aa U) (fun c44=> ?_) (fun c44=> ?_)
       ·refine rO tb 1 U (A5 (Lb U isAgg54 qco) U (Az U U (Aa U)) ?_);refine A5 (Ay (.cons (T rfl) (.cons Ap (.cons J1 .nil))) call152 (fun H' hs=>pevr_s m.args m.q _ (hA.mono (stn hs)) qom (fun a ha=>(hM.arg ha).mono (stn hs)) (by rcases hfc with h|h|h|h<;>first|exact h.2.2.2|(exfalso;omega)) ih 2 qom)) rfl (Az rfl rfl (Aa rfl)) ?_;refine rO tb 7 U (Ah U (K9 U) ?_);exact⟨_,⟨rfl,rfl⟩,sbt⟩
       ·refine rO tb 10 U (Ah U (K9 U) ?_)
        first|exact⟨_,⟨rfl,rfl⟩,sbt⟩|exact⟨_,⟨vbool (decide_eq_true qom),rfl⟩,sbt⟩|(exfalso;omega)|exact absurd (by assumption:true=false) qde|exact absurd (congrArg (fun s:ByteArray=>s.data.toList) (hne qom)) (by assumption)
      ·refine rC tb 9 U (Ah U (K9 U) ?_)
       first|exact⟨_,⟨rfl,rfl⟩,sbt⟩|exact⟨_,⟨vbool (decide_eq_true qom),rfl⟩,sbt⟩|(exfalso;omega)
theorem pfm_s {w0:World}(hW:Arr w0 [] (some ⟨0,0,none⟩) 1 encS wordsL)(m:Rxm):m.sz≤8388608→fmS w0 m:=
 Gh (Q:=fun m=>m.sz≤8388608→fmS w0 m) (fun m ih hz H hM hf=>pfm_step m hM hf (fun a ha=>ih a ha (by have:=sz_mem ha;omega)) hW) m
theorem pchk1_s {w0:World}{H:List (Nat × Obj)}(m:Rxm)(hM:RxM w0 H m)(hz:m.sz≤200)(hf:FmOk m)(hW:Arr w0 [] (some ⟨0,0,none⟩) 1 encS wordsL)(b:Nat)(hb:Fnd H b (Cl (encRx m) 56)):
  FSpec Tryz.prog w0 108 #[.pointer (some ⟨b,0,none⟩)] H (Still (.bool true) H):=by
 refine Ao Tryz.func108 U ntmps108 U (rD tb 7 U ?_);refine y_ (Lc U isAgg56 sizeOf56 U (by exact C2 (by repeat (first|exact hb|refine Aq ?_|refine Ax ?_)))) ?_ U;refine y_ (Ay (qe1 U) call109 (fun H' hs=>pfm_s hW m qom _ (hM.mono (stn hs)) hf)) ?_ U;refine rO tb 4 U (Ah U (K9 U) ?_);exact⟨_,⟨rfl,rfl⟩,sbt⟩
theorem pchk2_s {w0:World}{H:List (Nat × Obj)}(m:Rxm)(hM:RxM w0 H m)(hz:m.sz≤200)(hd:m.dp≤20)(hf:FmOk m)(hW:Arr w0 [] (some ⟨0,0,none⟩) 1 encS wordsL)(b:Nat)(hb:Fnd H b (Cl (encRx m) 56)):
  FSpec Tryz.prog w0 107 #[.agg #[.int .i64 (m.sz:Nat), .int .i64 (m.dp:Nat)], .func (.func 108) #[] #[.pointer (some ⟨b,0,none⟩)]] H (Still (.int .i64 0) H):=by
 refine Ao Tryz.func107 U ntmps107 U (rD tb 2 U (e_ (Lf U cs_) ?_ U));rintro _ _ ⟨n2,rfl,rfl⟩;refine rO tb 6 U (y_ (Lc U isAgg168 sizeOf168 U qcs) ?_ U);refine y_ (Ay (qe1 U) call150 (fun H' hs=>plrg_s m.sz m.dp hz hd)) (rO tb 9 U ?_) U;refine Ad (Aa U) (fun c9=> ?_) (fun c9=> ?_)
 ·refine rC tb 8 U (Ah U (K9 U) ?_);exact⟨_,⟨rfl,rfl⟩,sbt⟩
 ·refine rC tb 6 U (y_ (Cn (T U) .nil call108 (fun H' hs=>pchk1_s m (hM.mono (stn hs)) hz hf hW b ((stn hs).subset hb))) ?_ U)
  first|refine A5 (A9 (T U)) U Ac ?_|refine A5 (B0 (T U)) U Ac ?_
  refine rO tb 2 U ?_
  first|refine Ad (Aa U) (fun c13=> ?_) (fun c13=> ?_)|refine Bq (Aa U) (fun c13=> ?_) (fun c13=> ?_)
  ·refine rC tb 7 U (Ah U (K9 U) ?_)
   first|exact⟨_,⟨rfl,rfl⟩,sbt⟩|(exfalso;omega)|exact absurd c13 qde
  ·refine rC tb 8 U (Ah U (K9 U) ?_);exact⟨_,⟨rfl,rfl⟩,sbt⟩
theorem pchk_s {w0:World}{H:List (Nat × Obj)}(m:Rxm)(hM:RxM w0 H m)(hz:m.sz≤200)(hd:m.dp≤20)(hf:FmOk m)(hW:Arr w0 [] (some ⟨0,0,none⟩) 1 encS wordsL):
  FSpec Tryz.prog w0 47 #[.agg (encRx m).toArray] H (Still (.int .i64 0) H):=by
 refine Ao Tryz.func47 U ntmps47 U (rD tb 2 U (e_ (Lf U cs_) ?_ U));rintro _ _ ⟨n1,rfl,rfl⟩;refine rO tb 5 U (y_ (Lc U isAgg56 sizeOf56 U qcs) ?_ U);refine y_ (Ay (qe1 U) call106 (fun H' hs=>psiz_s m (hM.mono (stn hs)) qom)) ?_ U;refine y_ (Bl (.cons (T U) .nil)) (y_ (Ay (qe2 U U) call107 (fun H' hs=>pchk2_s m (hM.mono (stn hs)) hz hd hf hW n1 (hs.subset A2))) (rO tb 4 U (Ah U (K9 U) ?_)) U) U;exact⟨_,⟨rfl,rfl⟩,sbt⟩
def endB (N:Nat) (o:Om):Prop:=(0≤o.x∧o.x<N)∧(0≤o.y∧o.y<N)∧0≤o.amt∧o.amt≤1048576
def bdC (e:Re):Int:=(buildF leastF e).2
def ChkIs (N:Nat) (os:List Om) (es:Nat→Re) (c:Int):Prop:=(c=0∧(∀ i,i<os.length→endB N (gd os i))∧∀ i,i<os.length→bdC (es i)=0)∨(c=1∧¬ ∀ i,i<os.length→endB N (gd os i))∨(c=2∧(∀ i,i<os.length→endB N (gd os i))∧¬ ∀ i,i<os.length→bdC (es i)=0)
theorem ChkIs.uniq {N:Nat}{os:List Om}{es:Nat→Re}{c d:Int}(h:ChkIs N os es c)(h':ChkIs N os es d):c=d:=by
 rcases h with ⟨rfl,a,b⟩|⟨rfl,a⟩|⟨rfl,a,b⟩<;>rcases h' with ⟨rfl,a',b'⟩|⟨rfl,a'⟩|⟨rfl,a',b'⟩<;>first|rfl|exact absurd b b'|exact absurd b' b|exact absurd a a'|exact absurd a' a
def FewR (os:List Om) (es:Nat→Re):Prop:=∀ i,i<os.length→Is (gd os i).m (es i)∧(gd os i).m.sz≤40∧(es i).Nm∧(gd os i).m.dp≤20
theorem FewR.f {os:List Om}{es:Nat→Re}(h:FewR os es){i:Nat}(hi:i<os.length):FmOk (gd os i).m:=⟨_,(h i hi).1,(h i hi).2.2.1⟩
theorem FewR.lv {os:List Om}{es:Nat→Re}(h:FewR os es){i:Nat}(hi:i<os.length):(es i).lv≤64:=by
 have h1:=(h i hi).1.lvz;have h2:=(h i hi).2.1;omega
theorem chkr0_s {w0:World}{H:List (Nat × Obj)}(m:Rxm)(hM:RxM w0 H m)(hf:FmOk m)(hz:m.sz≤200)(hd:m.dp≤20):
  FSpec Tryz.prog w0 44 #[.agg (encRx m).toArray] H (Still (.int .i64 0) H):=
 (chkr_s m hM qom).mono fun v H' ⟨⟨e,hv,he⟩,hH⟩=>⟨by rw[hv,he.2 ⟨hf,hz,hd⟩],hH⟩
theorem rcheckO_s {w0:World}{H:List (Nat × Obj)}(n:Nn)(hn:NetR w0 H n)(hnn:n.nodes.length≤1000000)(os:List Om)(qo:Option Addr)(co:Nat)(hO:OsM w0 H qo os)(es:Nat→Re)(hes:FewR os es)(hoz:os.length≤200):
  FSpec Tryz.prog w0 15 #[.agg (encNn n).toArray, .slice qo os.length co] H (fun v H'=>(∃ c:Int,v= .int .i64 c∧ChkIs n.nodes.length os es c)∧H'=H):=by
 refine Ao Tryz.func15 U ntmps15 U ?_;have hno:=hO.n;refine rD tb 2 U (e_ (Lf U cs_) ?_ U);rintro _ _ ⟨n2,rfl,rfl⟩;refine rO tb 11 U ?_;refine Ad (Aa U) (fun c13=> ?_) (fun c13=> ?_)
 ·refine rC tb 7 U (Ah U (K9 U) ?_)
  (exfalso;omega)
 ·refine rC tb 9 U ?_;refine Bd (X:=Nat) (V:=fun i=>[(5, .int .i64 (i:Nat))]) (C:=[(1,_),(2,_)]) (φ:=fun i=>i≤os.length∧∀ j,j<i→endB n.nodes.length (gd os j)) (μ:=fun i=>os.length - i) (x0:=0) ?_ ⟨Aa U,Aa U,trivial⟩ ⟨qat,trivial⟩ ?_
  ·exact⟨Nat.zero_le _,fun j hj=>absurd hj (Nat.not_lt_zero _)⟩
  rintro i ⟨hi,he⟩;refine rD tb 9 U ?_;refine Ad (Aa U) (fun c17=> ?_) (fun c17=> ?_)
  ·have hmM:RxM w0 H (gd os i).m:=hO.m _ (Af qom);have hsz:=(hes i qom).2.1;have hdp:=(hes i qom).2.2.2;refine rC tb 8 U (y_ (Ld U U runUnderlying30 sizeOf58 qom (by first|exact rfl|exact hO.a.b (i:=i) qom)) ?_ U);refine y_ (Lc U isAgg58 sizeOf58 U (by exact(hO.a.mono sbt).cs (i:=i) qom)) ?_ U;refine e_ (Ai zeroValue58 cs_) ?_ U;rintro _ _ ⟨n6,rfl,rfl⟩;refine Aw (Le U U sizeOf58) U Ac ?_;rintro _ _ ⟨rfl,rfl⟩;refine rO tb 6 U (y_ (Lb U isAgg3 qco) ?_ U);refine rO tb 2 U ?_;refine A4 (s:=27) (Aa U) (fun c27=> ?_) (fun c27=> ?_)
   ·refine kO tb 32 [1,2,5,6,57] rfl U (rG tb 10 U (As (rX tb 2 U (Ah U (K9 U) ?_))))
    first|(exfalso;omega)|exact⟨_,⟨⟨1,rfl, .inr (.inl ⟨rfl,fun h=>absurd (h i qom) (by unfold endB;omega)⟩)⟩,rfl⟩,sbt⟩
   ·refine rO tb 1 U (A5 (Lb U isAgg3 qco) U (Az U U (Aa U)) ?_);refine rO tb 1 U (A5 (Lb U isAgg22 qco) U (Az U U (Aa U)) ?_);refine rO tb 4 U ?_;refine A4 (s:=35) (Aa U) (fun c35=> ?_) (fun c35=> ?_)
    ·refine kO tb 24 [1,2,5,6,57] rfl U (rG tb 10 U (As (rX tb 2 U (Ah U (K9 U) ?_))))
     first|(exfalso;omega)|exact⟨_,⟨⟨1,rfl, .inr (.inl ⟨rfl,fun h=>absurd (h i qom) (by unfold endB;omega)⟩)⟩,rfl⟩,sbt⟩
    ·refine rO tb 1 U (A5 (Lb U isAgg3 qco) U (Az U U (Aa U)) ?_);refine rO tb 3 U ?_;refine A4 (s:=40) (Aa U) (fun c40=> ?_) (fun c40=> ?_)
     ·refine kO tb 19 [1,2,5,6,57] rfl U (rG tb 10 U (As (rX tb 2 U (Ah U (K9 U) ?_))))
      first|(exfalso;omega)|exact⟨_,⟨⟨1,rfl, .inr (.inl ⟨rfl,fun h=>absurd (h i qom) (by unfold endB;omega)⟩)⟩,rfl⟩,sbt⟩
     ·refine rO tb 1 U (A5 (Lb U isAgg3 qco) U (Az U U (Aa U)) ?_);refine rO tb 1 U (A5 (Lb U isAgg22 qco) U (Az U U (Aa U)) ?_);refine rO tb 4 U ?_;refine A4 (s:=48) (Aa U) (fun c48=> ?_) (fun c48=> ?_)
      ·refine kO tb 11 [1,2,5,6,57] rfl U (rG tb 10 U (As (rX tb 2 U (Ah U (K9 U) ?_))))
       first|(exfalso;omega)|exact⟨_,⟨⟨1,rfl, .inr (.inl ⟨rfl,fun h=>absurd (h i qom) (by unfold endB;omega)⟩)⟩,rfl⟩,sbt⟩
      ·refine rO tb 1 U (A5 (Lb U isAgg3 qco) U (Az U U (Aa U)) ?_);refine rO tb 3 U ?_;refine A4 (s:=53) (Aa U) (fun c53=> ?_) (fun c53=> ?_)
       ·refine kO tb 6 [1,2,5,6,57] rfl U (rG tb 10 U (As (rX tb 2 U (Ah U (K9 U) ?_))))
        first|(exfalso;omega)|exact⟨_,⟨⟨1,rfl, .inr (.inl ⟨rfl,fun h=>absurd (h i qom) (by unfold endB;omega)⟩)⟩,rfl⟩,sbt⟩
       ·refine rO tb 1 U (A5 (Lb U isAgg3 qco) U (Az U U (Aa U)) ?_);refine kO tb 4 [1,2,5,6,57] rfl U ?_;refine Ad (Aa U) (fun c57=> ?_) (fun c57=> ?_)
        ·refine rC tb 9 U (As (rX tb 2 U (Ah U (K9 U) ?_)))
         first|(exfalso;omega)|exact⟨_,⟨⟨1,rfl, .inr (.inl ⟨rfl,fun h=>absurd (h i qom) (by unfold endB;omega)⟩)⟩,rfl⟩,sbt⟩
        ·refine rC tb 5 U ?_;refine y_ (Lc U isAgg56 sizeOf56 U (by exact Bk (l:=encOm (gd os i)) (o:=3) (k:=3) fdd)) ?_ U;refine y_ (Ay (qe1 U) call44 (fun H' hs=>chkr0_s (gd os i).m (hmM.mono (stn hs)) (hes.f qom) qom qom)) ?_ U;refine rO tb 9 U ?_;refine Ad (Aa U) (fun c62=> ?_) (fun c62=> ?_)
         ·refine rC tb 9 U (As (rX tb 2 U (Ah U (K9 U) ?_)))
          (exfalso;omega)
         ·refine rC tb 5 U (y_ (Av (T U) Ap qom) ?_ U);refine rO tb 2 U ?_;refine Ar (i+1) ?_ ?_ ⟨qat,trivial⟩ ⟨Aa U,Aa U,trivial⟩ ?_
          ·refine⟨by omega,fun j hj=> ?_⟩
           by_cases e:j=i
           ·subst e;unfold endB;omega
           ·exact he j qom
          ·omega
          ·exact sbt
  ·refine rC tb 2 U (Ag (rX tb 9 U ?_));refine Bd (X:=Nat) (V:=fun i=>[(8, .int .i64 (i:Nat))]) (C:=[(1,_)]) (φ:=fun i=>i≤os.length∧(∀ j,j<os.length→endB n.nodes.length (gd os j))∧∀ j,j<i→bdC (es j)=0) (μ:=fun i=>os.length - i) (x0:=0) ?_ ⟨Aa U,trivial⟩ ⟨qat,trivial⟩ ?_
   ·exact⟨Nat.zero_le _,fun j hj=>he j qom,fun j hj=>absurd hj (Nat.not_lt_zero _)⟩
   rintro i ⟨hi,he,hb⟩;refine rD tb 9 U ?_;refine Ad (Aa U) (fun c67=> ?_) (fun c67=> ?_)
   ·have hmM:RxM w0 H (gd os i).m:=hO.m _ (Af qom);have hsz:=(hes i qom).2.1;have hdp:=(hes i qom).2.2.2;refine rC tb 8 U (y_ (Ld U U runUnderlying30 sizeOf58 qom (by first|exact rfl|exact hO.a.b (i:=i) qom)) ?_ U);refine rO tb 1 U (y_ (Lc U isAgg56 sizeOf56 U (by exact cells_app3 (l1:=[.int .i64 (gd os i).x, .int .i64 (gd os i).y, .int .i64 (gd os i).amt]) U ((hO.a.mono sbt).cs (i:=i) qom))) ?_ U);refine e_ (Ak (qe1 U) call45 (rbuildX_s (gd os i).m (es i) (hes i qom).1 (hmM.mono sbt) (hes.lv qom) qom)) ?_ U;rintro _ _ ⟨mc,Mb,⟨rfl,_,_⟩,rfl⟩;refine rO tb 3 U (e_ (Ai zeroValue68 cs_) ?_ U);rintro _ _ ⟨n9,rfl,rfl⟩;refine Aw (Le U U sizeOf68) U Ac ?_;rintro _ _ ⟨rfl,rfl⟩;refine rO tb 9 U ?_;refine Ad (Aa U) (fun c80=> ?_) (fun c80=> ?_)
    ·refine rC tb 8 U (As (rX tb 2 U (Ah U (K9 U) ?_)))
     first|(exfalso;omega)|exact⟨_,⟨⟨1,rfl, .inr (.inl ⟨rfl,fun h=>absurd (h i qom) (by unfold endB;omega)⟩)⟩,rfl⟩,sbt⟩|exact⟨_,⟨⟨2,rfl, .inr (.inr ⟨rfl,he,fun h=>absurd (h i qom) (by assumption)⟩)⟩,rfl⟩,sbt⟩
    ·refine rC tb 5 U (y_ (Av (T U) Ap qom) ?_ U);refine rO tb 2 U ?_;refine Ar (i+1) ?_ ?_ ⟨qat,trivial⟩ ⟨Aa U,trivial⟩ ?_
     ·refine⟨by omega,he,fun j hj=> ?_⟩
      by_cases e:j=i
      ·subst e;exact Classical.not_not.1 (by assumption)
      ·exact hb j qom
     ·omega
     ·exact sbt
   ·refine rC tb 2 U (Ag (rX tb 8 U (Ah U (K9 U) ?_)))
    first|(exfalso;omega)|exact⟨_,⟨⟨1,rfl, .inr (.inl ⟨rfl,fun h=>absurd (h i qom) (by unfold endB;omega)⟩)⟩,rfl⟩,sbt⟩|exact⟨_,⟨⟨2,rfl, .inr (.inr ⟨rfl,he,fun h=>absurd (h i qom) (by assumption)⟩)⟩,rfl⟩,sbt⟩|exact⟨_,⟨⟨0,rfl, .inl ⟨rfl,he,fun j hj=>hb j qom⟩⟩,rfl⟩,sbt⟩
theorem pcheckO_s {w0:World}{H:List (Nat × Obj)}(n:Nn)(hn:NetR w0 H n)(hnn:n.nodes.length≤1000000)(os:List Om)(qo:Option Addr)(co:Nat)(hO:OsM w0 H qo os)(es:Nat→Re)(hes:FewR os es)(hoz:os.length≤200)(hW:Arr w0 [] (some ⟨0,0,none⟩) 1 encS wordsL):
  FSpec Tryz.prog w0 16 #[.agg (encNn n).toArray, .slice qo os.length co] H (fun v H'=>(∃ c:Int,v= .int .i64 c∧ChkIs n.nodes.length os es c)∧H'=H):=by
 refine Ao Tryz.func16 U ntmps16 U ?_;have hno:=hO.n;refine rD tb 2 U (e_ (Lf U cs_) ?_ U);rintro _ _ ⟨n2,rfl,rfl⟩;refine rO tb 11 U ?_;refine Ad (Aa U) (fun c15=> ?_) (fun c15=> ?_)
 ·refine rC tb 7 U (Ah U (K9 U) ?_)
  (exfalso;omega)
 ·refine rC tb 5 U (y_ (Lb U isAgg22 qco) ?_ U);refine rO tb 1 U (y_ (Hz (T U) Ap qom) ?_ U);refine rO tb 12 U ?_;refine Bd (X:=Nat) (V:=fun i=>[(22, .int .i64 (i:Nat))]) (C:=[(1,_),(5,_),(20,_),(21,_)]) (φ:=fun i=>i≤os.length∧∀ j,j<i→endB n.nodes.length (gd os j)) (μ:=fun i=>os.length - i) (x0:=0) ?_ ⟨Aa U,Aa U,Aa U,Aa U,trivial⟩ ⟨qat,trivial⟩ ?_
  ·exact⟨Nat.zero_le _,fun j hj=>absurd hj (Nat.not_lt_zero _)⟩
  rintro i ⟨hi,he⟩;refine rD tb 6 U ?_;refine Ad (Aa U) (fun c23=> ?_) (fun c23=> ?_)
  ·have hmM:RxM w0 H (gd os i).m:=hO.m _ (Af qom);have hsz:=(hes i qom).2.1;have hdp:=(hes i qom).2.2.2;refine rC tb 6 U (y_ (Ld U U runUnderlying30 sizeOf58 qom (by first|exact rfl|exact hO.a.b (i:=i) qom)) ?_ U);refine y_ (Lc U isAgg58 sizeOf58 U (by exact(hO.a.mono sbt).cs (i:=i) qom)) ?_ U;refine e_ (Ai zeroValue58 cs_) ?_ U;rintro _ _ ⟨n7,rfl,rfl⟩;refine Aw (Le U U sizeOf58) U Ac ?_;rintro _ _ ⟨rfl,rfl⟩;refine rO tb 6 U (y_ (Lb U isAgg3 qco) ?_ U);refine rO tb 1 U (y_ (Ay (.cons (T U) (.cons Ap (.cons (T U) .nil))) call46 (fun H' hs=>F4 _ _ _)) ?_ U);refine A5 (A9 (T U)) U Ac ?_;refine rO tb 1 U ?_;refine A4 (s:=31) (Aa U) (fun c31=> ?_) (fun c31=> ?_)
   ·refine rO tb 24 U (As (rX tb 2 U (Ah U (K9 U) ?_)))
    first|(exfalso;omega)|exact⟨_,⟨⟨1,rfl, .inr (.inl ⟨rfl,fun h=>absurd (h i qom) (by unfold endB;omega)⟩)⟩,rfl⟩,sbt⟩
   ·refine rO tb 1 U (A5 (Lb U isAgg3 qco) U (Az U U (Aa U)) ?_);refine rO tb 1 U (A5 (Ay (.cons (T U) (.cons Ap (.cons (T U) .nil))) call46 (fun H' hs=>F4 _ _ _)) U (Az U U (Aa U)) ?_);refine A5 (A9 (T U)) U (Az U U (Aa U)) ?_;refine rO tb 2 U ?_;refine A4 (s:=38) (Aa U) (fun c38=> ?_) (fun c38=> ?_)
    ·refine rO tb 17 U (As (rX tb 2 U (Ah U (K9 U) ?_)))
     first|(exfalso;omega)|exact⟨_,⟨⟨1,rfl, .inr (.inl ⟨rfl,fun h=>absurd (h i qom) (by unfold endB;omega)⟩)⟩,rfl⟩,sbt⟩
    ·refine rO tb 1 U (A5 (Lb U isAgg3 qco) U (Az U U (Aa U)) ?_);refine A5 (Ay (.cons (T U) (.cons Ap (.cons Ap .nil))) call46 (fun H' hs=>F4 _ _ _)) U (Az U U (Aa U)) ?_;refine A5 (A9 (T U)) U (Az U U (Aa U)) ?_;refine rO tb 3 U ?_;refine Ad (Aa U) (fun c43=> ?_) (fun c43=> ?_)
     ·refine rC tb 9 U (As (rX tb 2 U (Ah U (K9 U) ?_)))
      first|(exfalso;omega)|exact⟨_,⟨⟨1,rfl, .inr (.inl ⟨rfl,fun h=>absurd (h i qom) (by unfold endB;omega)⟩)⟩,rfl⟩,sbt⟩
     ·refine rC tb 5 U ?_;refine y_ (Lc U isAgg56 sizeOf56 U (by exact Bk (l:=encOm (gd os i)) (o:=3) (k:=3) fdd)) ?_ U;refine y_ (Ay (qe1 U) call47 (fun H' hs=>pchk_s (gd os i).m (hmM.mono (stn hs)) qom qom (hes.f qom) hW)) ?_ U;refine kO tb 3 [1,5,8,20,21,22] rfl U (rG tb 6 U ?_);refine Ad (Aa U) (fun c48=> ?_) (fun c48=> ?_)
      ·refine rC tb 9 U (As (rX tb 2 U (Ah U (K9 U) ?_)))
       (exfalso;omega)
      ·refine rC tb 4 U (y_ (Av (T U) Ap qom) ?_ U);refine rO tb 2 U ?_;refine Ar (i+1) ?_ ?_ ⟨qat,trivial⟩ ⟨Aa U,Aa U,Aa U,Aa U,trivial⟩ ?_
       ·refine⟨by omega,fun j hj=> ?_⟩
        by_cases e:j=i
        ·subst e;unfold endB;omega
        ·exact he j qom
       ·omega
       ·exact sbt
  ·refine rC tb 2 U (Ag (rX tb 11 U ?_));refine Bd (X:=Nat) (V:=fun i=>[(53, .int .i64 (i:Nat))]) (C:=[(51,_),(52,_)]) (φ:=fun i=>i≤os.length∧(∀ j,j<os.length→endB n.nodes.length (gd os j))∧∀ j,j<i→bdC (es j)=0) (μ:=fun i=>os.length - i) (x0:=0) ?_ ⟨Aa U,Aa U,trivial⟩ ⟨qat,trivial⟩ ?_
   ·exact⟨Nat.zero_le _,fun j hj=>he j qom,fun j hj=>absurd hj (Nat.not_lt_zero _)⟩
   rintro i ⟨hi,he,hb⟩;refine rD tb 6 U ?_;refine Ad (Aa U) (fun c54=> ?_) (fun c54=> ?_)
   ·have hmM:RxM w0 H (gd os i).m:=hO.m _ (Af qom);have hsz:=(hes i qom).2.1;have hdp:=(hes i qom).2.2.2;refine rC tb 6 U (y_ (Ld U U runUnderlying30 sizeOf58 qom (by first|exact rfl|exact hO.a.b (i:=i) qom)) ?_ U);refine y_ (Lc U isAgg58 sizeOf58 U (by exact(hO.a.mono sbt).cs (i:=i) qom)) ?_ U;refine e_ (Ai zeroValue58 cs_) ?_ U;rintro _ _ ⟨n10,rfl,rfl⟩;refine Aw (Le U U sizeOf58) U Ac ?_;rintro _ _ ⟨rfl,rfl⟩;refine rO tb 5 U ?_;refine y_ (Lc U isAgg56 sizeOf56 U (by exact Bk (l:=encOm (gd os i)) (o:=3) (k:=3) fdd)) ?_ U;refine e_ (Ak (qe1 U) call35 (buildMX_s (gd os i).m (es i) (hes i qom).1 (hmM.mono sbt) (hes.lv qom) (pm:=(buildF leastF (es i)).1) (cc:=(buildF leastF (es i)).2) U)) ?_ U;rintro _ _ ⟨mc,Mb,⟨rfl,_,_⟩,rfl⟩;refine rO tb 3 U (e_ (Ai zeroValue68 cs_) ?_ U);rintro _ _ ⟨n11,rfl,rfl⟩;refine Aw (Le U U sizeOf68) U Ac ?_;rintro _ _ ⟨rfl,rfl⟩;refine rO tb 9 U ?_;refine Ad (Aa U) (fun c64=> ?_) (fun c64=> ?_)
    ·refine rC tb 8 U (As (rX tb 2 U (Ah U (K9 U) ?_)))
     first|(exfalso;omega)|exact⟨_,⟨⟨1,rfl, .inr (.inl ⟨rfl,fun h=>absurd (h i qom) (by unfold endB;omega)⟩)⟩,rfl⟩,sbt⟩|exact⟨_,⟨⟨2,rfl, .inr (.inr ⟨rfl,he,fun h=>absurd (h i qom) (by assumption)⟩)⟩,rfl⟩,sbt⟩
    ·refine rC tb 4 U (y_ (Av (T U) Ap qom) ?_ U);refine rO tb 2 U ?_;refine Ar (i+1) ?_ ?_ ⟨qat,trivial⟩ ⟨Aa U,Aa U,trivial⟩ ?_
     ·refine⟨by omega,he,fun j hj=> ?_⟩
      by_cases e:j=i
      ·subst e;exact Classical.not_not.1 (by assumption)
      ·exact hb j qom
     ·omega
     ·exact sbt
   ·refine rC tb 2 U (Ag (rX tb 8 U (Ah U (K9 U) ?_)))
    first|(exfalso;omega)|exact⟨_,⟨⟨1,rfl, .inr (.inl ⟨rfl,fun h=>absurd (h i qom) (by unfold endB;omega)⟩)⟩,rfl⟩,sbt⟩|exact⟨_,⟨⟨2,rfl, .inr (.inr ⟨rfl,he,fun h=>absurd (h i qom) (by assumption)⟩)⟩,rfl⟩,sbt⟩|exact⟨_,⟨⟨0,rfl, .inl ⟨rfl,he,fun j hj=>hb j qom⟩⟩,rfl⟩,sbt⟩
structure RgtR (n:Nm) (f:Flr) (os:List Om) (most:Int) (a:List Lr):Prop where
 net:NetOk n
 nn:n.nodes.length≤8
 nl:n.links.length≤16
 fl:f.links.length≤16
 few:FewS most os a
 os:∃ os2,OsOk (nnOf n) os os2
theorem few_es {most:Int}{os:List Om}{a:List Lr}(h:FewS most os a):∃ es:Nat→Re,FewR os es:=by
 classical
 exact⟨fun i=>if hi:i<os.length then Classical.choose (h.e i hi) else .emp,fun i hi=>by
  simp only[dif_pos hi];have:=Classical.choose_spec (h.e i hi);exact this⟩
theorem os_of {N:Nn}{os:List Om}{es:Nat→Re}(hes:FewR os es)(hl:os.length≤200)(h:ChkIs N.nodes.length os es 0):∃ os2,OsOk N os os2:=by
 obtain⟨h1,h2⟩:(∀ i,i<os.length→endB N.nodes.length (gd os i))∧∀ i,i<os.length→bdC (es i)=0:=by
  rcases h with ⟨_,a,b⟩|⟨e,_⟩|⟨e,_⟩
  ·exact⟨a,b⟩
  ·cases e
  ·cases e
 let g:Nat→Odr:=fun i=>⟨(gd os i).x.toNat,(gd os i).y.toNat,(gd os i).amt,es i⟩
 have hg:∀ i,i<os.length→gd ((List.range os.length).map g) i=g i:=fun i hi=>by
  rw[An (by simpa using hi)];simp
 refine⟨(List.range os.length).map g,⟨by simp,fun i hi=> ?_⟩,fun o ho=> ?_,fun m hm=> ?_,hl⟩
 ·rw[hg i hi];obtain⟨⟨a,_⟩,⟨b,_⟩,_⟩:=h1 i hi;exact⟨(Int.toNat_of_nonneg a).symm,(Int.toNat_of_nonneg b).symm,rfl,(hes i hi).1⟩
 ·obtain⟨i,hi,rfl⟩:=List.mem_map.1 ho;have hi':i<os.length:=by simpa using hi
  obtain⟨⟨a,b⟩,⟨c,d⟩,e,f⟩:=h1 i hi';exact⟨by show (gd os i).x.toNat<_;omega,by show (gd os i).y.toNat<_;omega,e,f,hes.lv hi',h2 i hi'⟩
 ·obtain⟨i,hi,rfl⟩:=List.getElem_of_mem hm;have:=(hes i hi).2.1;rw[An hi] at this;omega
theorem rcheckN_s {w0:World}{H:List (Nat × Obj)}(n:Nm)(hn:NetM w0 H n)(hok:NetOk n)(hnn:n.nodes.length≤1000000)(os:List Om)(qo:Option Addr)(co:Nat)(hO:OsM w0 H qo os)(es:Nat→Re)(hes:FewR os es)(hoz:os.length≤200):
  FSpec Tryz.prog w0 15 #[.agg (encNm n).toArray, .slice qo os.length co] H (fun v H'=>(∃ c:Int,v= .int .i64 c∧ChkIs n.nodes.length os es c)∧H'=H):=by
 rw[← nn_enc n];exact rcheckO_s (nnOf n) (H6 hn hok) hnn os qo co hO es hes hoz
theorem rright_s {w0:World}{H:List (Nat × Obj)}(n:Nm)(hn:NetM w0 H n)(f:Flr)(hf:Arr w0 H f.q 1 encI f.links)(hfl:f.links.length≤9223372036854775807)(os:List Om)(qo:Option Addr)(co:Nat)(hO:OsM w0 H qo os)(hoz:∀ o∈os,o.m.sz≤1048576)(most:Int)(hm:most≤6)(a:List Lr)(q1:Option Addr)(c1:Nat)(hA:ShM w0 H q1 a):
  FSpec Tryz.prog w0 26 #[.agg (encNm n).toArray, .agg (encFl f).toArray, .slice qo os.length co, .int .i64 most, .slice q1 a.length c1] H (fun v H'=>(∃ t:Bool,v= .bool t∧(t=true→RgtR n f os most a))∧H'=H):=by
 refine Ao Tryz.func26 U ntmps26 U (rD tb 2 U (e_ (Lf U cs_) ?_ U));rintro _ _ ⟨n5,rfl,rfl⟩;refine e_ (Lf U cs_) ?_ U;rintro _ _ ⟨n6,rfl,rfl⟩;refine rO tb 5 U (y_ (Lc U isAgg26 sizeOf26 U qcs) ?_ U);refine y_ (Ay (.cons (T U) (.cons Ap (.cons Ap (.cons Ap .nil)))) call11 (fun H' hs=>netFew_s n 8 16 20)) (rO tb 8 U (e_ (Ak (qe3 U U U) call12 (fews_s os qo co (hO.mono sbt) hoz most a q1 c1 (hA.mono sbt))) ?_ U)) U;rintro _ _ ⟨⟨t12,rfl,ht12⟩,rfl⟩;refine rO tb 7 U ?_;refine A5 (A9 (T U)) U Ac ?_;refine rO tb 1 U ?_;refine A4 (s:=21) (Aa U) (fun c21=> ?_) (fun c21=> ?_)
 ·refine kO tb 22 [2,5,41] rfl U (rG tb 8 U (Ah U (K9 U) ?_));exact⟨_,⟨⟨false,rfl,fun h=>(by cases h)⟩,rfl⟩,sbt⟩
 ·refine rO tb 1 U ?_
  first|refine A5 (A9 (T U)) U (Az U U (Aa U)) ?_|refine A5 (B0 (T U)) U (Az U U (Aa U)) ?_
  refine rO tb 2 U ?_
  first|refine A4 (s:=25) (Aa U) (fun c25=> ?_) (fun c25=> ?_)|refine Ej (s:=25) (Aa U) (fun c25=> ?_) (fun c25=> ?_)
  ·refine kO tb 18 [2,5,41] rfl U (rG tb 8 U (Ah U (K9 U) ?_));exact⟨_,⟨⟨false,rfl,fun h=>(by cases h)⟩,rfl⟩,sbt⟩
  ·refine A5 (Lc U isAgg26 sizeOf26 U qcs) U (Az U U (Aa U)) ?_;refine Aw (Ak (qe1 U) call13 (netCheck_s n (hn.mono sbt))) U (Az U U (Aa U)) ?_;rintro _ _ ⟨⟨e13,rfl,he13⟩,rfl⟩;refine rO tb 3 U ?_;refine A4 (s:=30) (Aa U) (fun c30=> ?_) (fun c30=> ?_)
   ·refine kO tb 13 [2,5,41] rfl U (rG tb 8 U (Ah U (K9 U) ?_));exact⟨_,⟨⟨false,rfl,fun h=>(by cases h)⟩,rfl⟩,sbt⟩
   ·refine rO tb 1 U (A5 (Lb U isAgg27 qco) U (Az U U (Aa U)) ?_);refine rO tb 4 U ?_;refine A4 (s:=36) (Aa U) (fun c36=> ?_) (fun c36=> ?_)
    ·refine kO tb 7 [2,5,41] rfl U (rG tb 8 U (Ah U (K9 U) ?_));exact⟨_,⟨⟨false,rfl,fun h=>(by cases h)⟩,rfl⟩,sbt⟩
    ·refine A5 (Lc U isAgg26 sizeOf26 U qcs) U (Az U U (Aa U)) ?_;refine A5 (Lc U isAgg29 sizeOf29 U qcs) U (Az U U (Aa U)) ?_;refine Aw (Ak (qe2 U U) call14 (chkF_s n (hn.mono sbt) f (hf.mono sbt) hfl)) U (Az U U (Aa U)) ?_;rintro _ _ ⟨⟨e14,rfl⟩,rfl⟩;refine kO tb 4 [2,5,41] rfl U ?_;refine Ad (Aa U) (fun c41=> ?_) (fun c41=> ?_)
     ·refine rC tb 7 U (Ah U (K9 U) ?_);exact⟨_,⟨⟨false,rfl,fun h=>(by cases h)⟩,rfl⟩,sbt⟩
     ·have hfew:FewS most os a:=ht12 (by simpa using c25);have hnet:NetOk n:=he13 qom;obtain⟨es,hes⟩:=few_es hfew;have h19:(n.nodes.length:Int)≤8∧(n.links.length:Int)≤16∧(n.edges.length:Int)≤20:=by simpa using c21
      have hfl16:f.links.length≤16:=by omega
      refine rC tb 4 U (y_ (Lc U isAgg26 sizeOf26 U qcs) ?_ U);refine rO tb 1 U (e_ (Ak (qe2 U U) call15 (rcheckN_s n (hn.mono sbt) hnet qom os qo co (hO.mono sbt) es hes (by have:=hfew.o;omega))) ?_ U);rintro _ _ ⟨⟨cc,rfl,hcc⟩,rfl⟩;refine rO tb 5 U (Ah U (K9 U) ?_);exact⟨_,⟨⟨_,rfl,fun h=>⟨hnet,by omega,by omega,hfl16,hfew,os_of hes (by have:=hfew.o;omega) ((of_decide_eq_true h) ▸ hcc)⟩⟩,rfl⟩,sbt⟩
theorem zbd56_0 (a0:Int)(w:World):(Instr.build 56 #[(0, .int .i64 a0)]).run Tryz.prog w= .ok (.agg #[.int .i64 a0, .string ⟨#[]⟩, .slice none 0 0]) w:=by kernel_rfl
theorem Hx (a0:Int)(a1:ByteArray)(w:World):(Instr.build 56 #[(0, .int .i64 a0),(1, .string a1)]).run Tryz.prog w= .ok (.agg #[.int .i64 a0, .string a1, .slice none 0 0]) w:=by kernel_rfl
theorem D3 (a0:Int)(a1:Option Addr)(a1n a1c:Nat)(w:World):(Instr.build 56 #[(0, .int .i64 a0),(2, .slice a1 a1n a1c)]).run Tryz.prog w= .ok (.agg #[.int .i64 a0, .string ⟨#[]⟩, .slice a1 a1n a1c]) w:=by kernel_rfl
theorem zbd58_1_2_3 (a0:Int)(a1:Int)(a2:Int)(a3:ByteArray)(a4:Option Addr)(a4n a4c:Nat)(w:World):(Instr.build 58 #[(1, .int .i64 a0),(2, .int .i64 a1),(3, .agg #[.int .i64 a2, .string a3, .slice a4 a4n a4c])]).run Tryz.prog w= .ok (.agg #[.int .i64 0, .int .i64 a0, .int .i64 a1, .int .i64 a2, .string a3, .slice a4 a4n a4c]) w:=by kernel_rfl
theorem zbs54_1_0 (a0:Int)(a1:ByteArray)(a2:Option Addr)(a2n a2c:Nat)(w:World):(Instr.buildSlice 54 1 #[(0, .agg #[.int .i64 a0, .string a1, .slice a2 a2n a2c])]).run Tryz.prog w= .ok (.slice (some ⟨w.heap.size,0,none⟩) 1 1) (w.alloc (Cl [.int .i64 a0, .string a1, .slice a2 a2n a2c] 56)):=by kernel_rfl
theorem Ee (a0:Int)(a1:ByteArray)(a2:Option Addr)(a2n a2c:Nat)(a3:Int)(a4:ByteArray)(a5:Option Addr)(a5n a5c:Nat)(w:World):(Instr.buildSlice 54 2 #[(0, .agg #[.int .i64 a0, .string a1, .slice a2 a2n a2c]),(1, .agg #[.int .i64 a3, .string a4, .slice a5 a5n a5c])]).run Tryz.prog w= .ok (.slice (some ⟨w.heap.size,0,none⟩) 2 2) (w.alloc (Cl [.int .i64 a0, .string a1, .slice a2 a2n a2c, .int .i64 a3, .string a4, .slice a5 a5n a5c] 56)):=by kernel_rfl
def anE:Re:= .star .any
def thE (s:ByteArray):Re:= .seq (.seq anE (.nod s)) anE
abbrev any0:Rxm:= .mk 3 ⟨#[]⟩ none 0 []
abbrev anM (n:Nat):Rxm:= .mk 6 ⟨#[]⟩ (some ⟨n,0,none⟩) 1 [any0]
abbrev ndM (s:ByteArray):Rxm:= .mk 2 s none 0 []
abbrev sqM (s:ByteArray) (n m:Nat):Rxm:= .mk 4 ⟨#[]⟩ (some ⟨m,0,none⟩) 2 [anM n,ndM s]
abbrev thM (s:ByteArray) (n m k:Nat):Rxm:= .mk 4 ⟨#[]⟩ (some ⟨k,0,none⟩) 2 [sqM s n m,anM n]
structure RxG (w0:World) (e:Re) (m:Rxm) (M:List (Nat × Obj)):Prop where
 i:Is m e
 mm:∀ X,RxM w0 (M++X) m
 z:m.sz≤40
 d:m.dp≤20
theorem thr0_s {w0:World}{H:List (Nat × Obj)}  :
  FSpec Tryz.prog w0 97 #[.string ⟨#[]⟩] H (fun v H'=>∃ (m:Rxm) (M:List (Nat × Obj)),(v= .agg (encRx m).toArray∧RxG w0 anE m M)∧H'=M++H):=by
 refine Ao Tryz.func97 U ntmps97 U (rD tb 2 U (e_ (Ai zeroValue56 cs_) ?_ U));rintro _ _ ⟨n2,rfl,rfl⟩;refine rO tb 4 U (y_ (A0 (.cons Ap .nil) (zbd56_0 _)) (e_ (Aj (.cons (T U) .nil) (zbs54_1_0 _ _ _ _ _)) ?_ U) U);rintro _ _ ⟨n6,rfl,rfl⟩;refine y_ (A0 (.cons Ap (.cons (T U) .nil)) (D3 _ _ _ _)) (e_ (Ai zeroValue56 cs_) ?_ U) U;rintro _ _ ⟨n3,rfl,rfl⟩;refine Aw (Le U U sizeOf56) U Ac ?_;rintro _ _ ⟨rfl,rfl⟩;refine rO tb 6 U (y_ (Ci (T U) Ap) (rO tb 2 U ?_) U);refine Ad (Aa U) (fun c9=> ?_) (fun c9=> ?_)
 ·refine rC tb 2 U (y_ (Lc U isAgg56 sizeOf56 U qcs) ?_ U);refine Aw (Le U U sizeOf56) U Ac ?_;rintro _ _ ⟨rfl,rfl⟩;refine rO tb 4 U (Ah U (.cellA (Aa U) isAgg56 sizeOf56 U qcs .nil) ?_);exact⟨_,⟨anM n6,[(n6,Cl (encRx any0) 56)],⟨rfl, .star .any,fun X=>rx1 rx0 A2,by simp[Rxm.sz,szL],by simp[Rxm.dp,dpL]⟩,rfl⟩,sbt⟩
 ·refine rC tb 4 U (y_ (Lc U isAgg56 sizeOf56 U qcs) ?_ U);refine rO tb 1 U (y_ (A0 (.cons Ap (.cons (T U) .nil)) (Hx _ _)) (e_ (Aj (.cons (T U) (.cons (T U) .nil)) (Ee _ _ _ _ _ _ _ _ _ _)) ?_ U) U);rintro _ _ ⟨n14,rfl,rfl⟩;refine y_ (A0 (.cons Ap (.cons (T U) .nil)) (D3 _ _ _ _)) (e_ (Ai zeroValue56 cs_) ?_ U) U;rintro _ _ ⟨n4,rfl,rfl⟩;refine Aw (Le U U sizeOf56) U Ac ?_;rintro _ _ ⟨rfl,rfl⟩;refine rO tb 4 U (y_ (Lc U isAgg56 sizeOf56 U qcs) ?_ U);refine y_ (Lc U isAgg56 sizeOf56 U qcs) ?_ U;refine e_ (Aj (.cons (T U) (.cons (T U) .nil)) (Ee _ _ _ _ _ _ _ _ _ _)) ?_ U;rintro _ _ ⟨n18,rfl,rfl⟩;refine y_ (A0 (.cons Ap (.cons (T U) .nil)) (D3 _ _ _ _)) ?_ U;refine Aw (Le U U sizeOf56) U Ac ?_;rintro _ _ ⟨rfl,rfl⟩;refine rO tb 3 U (Ah U (.cellA (Aa U) isAgg56 sizeOf56 U qcs .nil) ?_);exact absurd U c9
theorem thr1_s {w0:World}{H:List (Nat × Obj)}(s:ByteArray)(hz:s.size≠0)(hz2:s.size≤24):
  FSpec Tryz.prog w0 97 #[.string s] H (fun v H'=>∃ (m:Rxm) (M:List (Nat × Obj)),(v= .agg (encRx m).toArray∧RxG w0 (thE s) m M)∧H'=M++H):=by
 refine Ao Tryz.func97 U ntmps97 U (rD tb 2 U (e_ (Ai zeroValue56 cs_) ?_ U));rintro _ _ ⟨n2,rfl,rfl⟩;refine rO tb 4 U (y_ (A0 (.cons Ap .nil) (zbd56_0 _)) (e_ (Aj (.cons (T U) .nil) (zbs54_1_0 _ _ _ _ _)) ?_ U) U);rintro _ _ ⟨n6,rfl,rfl⟩;refine y_ (A0 (.cons Ap (.cons (T U) .nil)) (D3 _ _ _ _)) (e_ (Ai zeroValue56 cs_) ?_ U) U;rintro _ _ ⟨n3,rfl,rfl⟩;refine Aw (Le U U sizeOf56) U Ac ?_;rintro _ _ ⟨rfl,rfl⟩;refine rO tb 6 U (y_ (Ci (T U) Ap) (rO tb 2 U ?_) U);refine Ad (Aa U) (fun c9=> ?_) (fun c9=> ?_)
 ·refine rC tb 2 U (y_ (Lc U isAgg56 sizeOf56 U qcs) ?_ U);refine Aw (Le U U sizeOf56) U Ac ?_;rintro _ _ ⟨rfl,rfl⟩;refine rO tb 4 U (Ah U (.cellA (Aa U) isAgg56 sizeOf56 U qcs .nil) ?_);exact absurd (by rw[ByteArray.ext (Array.ext' c9)];rfl) hz
 ·refine rC tb 4 U (y_ (Lc U isAgg56 sizeOf56 U qcs) ?_ U);refine rO tb 1 U (y_ (A0 (.cons Ap (.cons (T U) .nil)) (Hx _ _)) (e_ (Aj (.cons (T U) (.cons (T U) .nil)) (Ee _ _ _ _ _ _ _ _ _ _)) ?_ U) U);rintro _ _ ⟨n14,rfl,rfl⟩;refine y_ (A0 (.cons Ap (.cons (T U) .nil)) (D3 _ _ _ _)) (e_ (Ai zeroValue56 cs_) ?_ U) U;rintro _ _ ⟨n4,rfl,rfl⟩;refine Aw (Le U U sizeOf56) U Ac ?_;rintro _ _ ⟨rfl,rfl⟩;refine rO tb 4 U (y_ (Lc U isAgg56 sizeOf56 U qcs) ?_ U);refine y_ (Lc U isAgg56 sizeOf56 U qcs) ?_ U;refine e_ (Aj (.cons (T U) (.cons (T U) .nil)) (Ee _ _ _ _ _ _ _ _ _ _)) ?_ U;rintro _ _ ⟨n18,rfl,rfl⟩;refine y_ (A0 (.cons Ap (.cons (T U) .nil)) (D3 _ _ _ _)) ?_ U;refine Aw (Le U U sizeOf56) U Ac ?_;rintro _ _ ⟨rfl,rfl⟩;refine rO tb 3 U (Ah U (.cellA (Aa U) isAgg56 sizeOf56 U qcs .nil) ?_);exact⟨_,⟨thM s n6 n14 n18,[(n18,Cl (encRx (sqM s n6 n14)++encRx (anM n6)) 56),(n14,Cl (encRx (anM n6)++encRx (ndM s)) 56),(n6,Cl (encRx any0) 56)],⟨rfl, .seq (.seq (.star .any) (.nod hz)) (.star .any),fun X=>rx2 (rx2 (rx1 rx0 fdd) (rx0 qom) fdd) (rx1 rx0 fdd) fdd,by simp[Rxm.sz,szL],by simp[Rxm.dp,dpL]⟩,rfl⟩,sbt⟩
theorem thrX_s {w0:World}{H:List (Nat × Obj)}(s:ByteArray)(e:Re)(h:(s=⟨#[]⟩∧e=anE)∨(s.size≠0∧s.size≤24)∧e=thE s):
  FSpec Tryz.prog w0 97 #[.string s] H (fun v H'=>∃ (m:Rxm) (M:List (Nat × Obj)),(v= .agg (encRx m).toArray∧RxG w0 e m M)∧H'=M++H):=by
 rcases h with ⟨rfl,rfl⟩|⟨⟨h1,h2⟩,rfl⟩
 ·exact thr0_s
 ·exact thr1_s s h1 h2
theorem I7 {w0:World}{H:List (Nat × Obj)}(a:Int)(s:ByteArray)(e:Re)(h:(s=⟨#[]⟩∧e=anE)∨(s.size≠0∧s.size≤24)∧e=thE s):
  FSpec Tryz.prog w0 39 #[.int .i64 a, .string s] H (fun v H'=>∃ (m:Rxm) (M:List (Nat × Obj)),(v= .agg (encOm ⟨0,3,a,m⟩).toArray∧RxG w0 e m M)∧H'=M++H):=by
 refine Ao Tryz.func39 U ntmps39 U (rD tb 2 U (e_ (Ai zeroValue58 cs_) ?_ U));rintro _ _ ⟨n4,rfl,rfl⟩;refine rO tb 6 U (e_ (Ak (qe1 U) call97 ((thrX_s s e h))) ?_ U);rintro _ _ ⟨m,M,⟨rfl,hg⟩,rfl⟩;refine y_ (A0 (.cons Ap (.cons (T U) (.cons (T U) .nil))) (zbd58_1_2_3 _ _ _ _ _ _ _)) ?_ U;refine Aw (Le U U sizeOf58) U Ac ?_;rintro _ _ ⟨rfl,rfl⟩;refine rO tb 3 U (Ah U (.cellA (Aa U) isAgg58 sizeOf58 U qcs .nil) ?_);exact⟨_,⟨m,M,⟨rfl,hg⟩,rfl⟩,sbt⟩
theorem none_s {w0:World}{H:List (Nat × Obj)}  :
  FSpec Tryz.prog w0 38 #[] H (Still (.agg #[.slice none 0 0, .int .i64 (-1)]) H):=by
 refine Ao Tryz.func38 U ntmps38 U (rD tb 2 U (e_ (Ai zeroValue29 cs_) ?_ U));rintro _ _ ⟨n0,rfl,rfl⟩;refine rO tb 4 U (y_ (A0 (.cons Ap .nil) (zbd29_1 _)) ?_ U);refine Aw (Le U U sizeOf29) U Ac ?_;rintro _ _ ⟨rfl,rfl⟩;refine rO tb 3 U (Ah U (.cellA (Aa U) isAgg29 sizeOf29 U qcs .nil) ?_);exact⟨_,⟨rfl,rfl⟩,sbt⟩
theorem sI_mem {α:Type}{f:α→Int}:∀ {l:List α},(∀ x∈l,0≤f x)→∀ x∈l,f x≤sI l f
 |y::l,h,x,hx=>by
  have h0:=h y (by simp);have h1:=Fz (f:=f) (l:=l) fun z hz=>h z (by simp[hz])
  rcases List.mem_cons.1 hx with rfl|hx
  ·show f x≤f x+sI l f;omega
  ·have:=sI_mem (f:=f) (l:=l) (fun z hz=>h z (by simp[hz])) x hx;show f x≤f y+sI l f;omega
theorem sI_len {α:Type}{f:α→Int}:∀ {l:List α},(∀ x∈l,1≤f x)→(l.length:Int)≤sI l f
 |[],_=>by simp[sI]
 |y::l,h=>by
  have h0:=h y (by simp);have h1:=sI_len (f:=f) (l:=l) fun z hz=>h z (by simp[hz])
  simp only[List.length_cons,sI];omega
theorem rounds_inv {n:Nn}{f:Flr}{o:Odr}{P:List Sha→Prop}(hP:∀ {own:List Sha} {l:List Nat} {ld ld2:List Int},P own→partF n f o ld=some (l,ld2)→P (putS l own)):∀ {k:Nat} {ld ld2:List Int} {own own2:List Sha} {b:Bool},roundsF n f o k ld own=(b,ld2,own2)→P own→P own2
 |0,ld,ld2,own,own2,b,e,h=>by
  rw[roundsF] at e;obtain⟨_,e2⟩:=Prod.mk.inj e;obtain⟨_,rfl⟩:=Prod.mk.inj e2;exact h
 |k+1,ld,ld2,own,own2,b,e,h=>by
  cases hp:partF n f o ld with
  |none=>
   rw[rounds_no hp] at e;obtain⟨_,e2⟩:=Prod.mk.inj e;obtain⟨_,rfl⟩:=Prod.mk.inj e2;exact h
  |some x=>
   obtain⟨l,ld3⟩:=x;rw[rounds_yes hp] at e;exact rounds_inv hP e (hP h hp)
theorem goR_inv {n:Nn}{f:Flr}{P:List Sha→Prop}(h0:P []):∀ {os:List Odr} {ld:List Int} {out sh:List (List Sha)} {r:Option (List Int × Odr)},(∀ o∈os,∀ {own:List Sha} {l:List Nat} {ld ld2:List Int},P own→partF n f o ld=some (l,ld2)→P (putS l own))→goR n f os ld out=(sh,r)→(∀ x∈out,P x)→∀ x∈sh,P x
 |[],ld,out,sh,r,_,e,h=>by
  obtain⟨rfl,_⟩:=Prod.mk.inj (show (out,none)=(sh,r) from e);exact h
 |o::os,ld,out,sh,r,hP,e,h=>by
  cases hr:roundsF n f o 16 ld [] with
  |mk b x=>
   obtain⟨ld2,own⟩:=x;cases b with
   |false=>
    rw[goR_no hr] at e;obtain⟨rfl,_⟩:=Prod.mk.inj e;exact h
   |true=>
    rw[goR_yes hr] at e;refine goR_inv h0 (fun o ho=>hP o (by simp[ho])) e fun x hx=> ?_
    rcases List.mem_append.1 hx with hx|hx
    ·exact h x hx
    ·simp at hx;subst hx;exact rounds_inv (hP o (by simp)) hr h0
def Rg (r:List Sha):Prop:=SrtS r∧∀ s∈r,s.l.length≤2400
theorem part_len {n:Nn}(hok:NnOk n){f:Flr}{o:Odr}(ho:OdrOk n o){l:List Nat}{ld ld2:List Int}(h:partF n f o ld=some (l,ld2)):l.length≤2400:=by
 unfold partF at h
 split at h
 ·obtain⟨x,_,h2⟩:=Option.map_eq_some_iff.1 h;obtain⟨rfl,_⟩:=Prod.mk.inj h2;exact find_few hok ho.mce.ok ho.x
 ·cases h
theorem route_rg {n:Nn}(hok:NnOk n){f:Flr}{os:List Odr}(ho:∀ o∈os,OdrOk n o){sh:List (List Sha)}{r:Option (List Int × Odr)}(e:routeF n f os=(sh,r)):∀ x∈sh,Rg x:=
 goR_inv ⟨List.Pairwise.nil,fun s hs=>by cases hs⟩ (fun o h own l ld ld2 hg hp=>⟨I4 l hg.1,fun s hs=>by
  rcases putS_mem hs with h1|h1
  ·rw[h1];exact part_len hok (ho o h) hp
  ·exact hg.2 s h1⟩) e (fun x hx=>by cases hx)
theorem fits_row {n:Nn}{f:Flr}{os:List Odr}{a:List Lr}(h:FitsP n f os (shOf a)){i:Nat}(hi:i<a.length):(gd os i,rowOf (gd a i))∈os.zip (shOf a):=by
 have hl:=h.len;rw[List.length_map] at hl;exact List.mem_of_getElem? (i:=i) (by rw[← Jy hi];exact gd_zip qom (by rw[List.length_map];exact hi))
theorem route_fitC {n:Nn}(hok:NnOk n)(hc:∀ x∈n.links,0≤x.cap){f:Flr}{os:List Odr}{sh:List (List Sha)}(ho:∀ o∈os,OdrOk n o)(e:routeF n f os=(sh,none)){a:List Lr}(ha:shOf a=sh.map (List.map Sha.lan)):FitC n f os a 0:=by
 have hf:=route_fits hok hc (fun o h=>⟨ho o h,(ho o h).mce⟩) e;rw[← ha] at hf;have hrg:=route_rg hok ho e;have hl:a.length=os.length:=by have:=hf.len;rwa [List.length_map] at this
 have hls:sh.length=a.length:=by have:=congrArg List.length ha;simpa using this.symm
 have hrow:∀ i,i<a.length→rowOf (gd a i)=(gd sh i).map Sha.lan:=fun i hi=>by
  rw[← Jy hi,ha,Bu qom]
 have hpos:∀ i,i<a.length→∀ s∈(gd a i).l,1≤s.p:=fun i hi s hs=>hf.pos _ (fits_row hf hi) s.lan (List.mem_map.2 ⟨s,hs,rfl⟩)
 have hsum:∀ i,i<a.length→sI (gd a i).l Lm.p=16:=fun i hi=>by rw[row_sum];exact hf.sum _ (fits_row hf hi)
 refine .of ⟨hl,fun i hi=>⟨fun k hk=>⟨hpos i hi _ (Af hk),?_,fun h0=> ?_⟩,hsum i hi⟩⟩ (fun i hi k hk=>hf.holds _ (fits_row hf hi) (gd (gd a i).l k).lan (List.mem_map.2 ⟨_,Af hk,rfl⟩)) hf.cap
 ·have:=sI_mem (f:=Lm.p) (l:=(gd a i).l) (fun s hs=>by have:=hpos i hi s hs;omega) _ (Af hk);have:=hsum i hi;omega
 ·have hrl:(gd sh i).length=(gd a i).l.length:=by have:=congrArg List.length (hrow i hi);simpa using this.symm
  have hk2:∀ j,j<(gd a i).l.length→(gd (gd a i).l j).l=toInts (gd (gd sh i) j).l:=fun j hj=>by
   have h9:gd (rowOf (gd a i)) j=gd ((gd sh i).map Sha.lan) j:=by rw[hrow i hi]
   rw[Bu hj,Bu qom] at h9;exact congrArg Lan.l h9
  rw[hk2 _ qom,hk2 _ hk];have hs:=(hrg _ (Af (l:=sh) (i:=i) qom)).1;have:=List.pairwise_iff_getElem.1 hs (k - 1) k qom qom qom;rw[← An (l:=gd sh i) (i:=k - 1) qom,← An (l:=gd sh i) (i:=k) qom] at this;exact lxB_cmp.1 this
theorem route_shf {n:Nn}(hok:NnOk n)(hc:∀ x∈n.links,0≤x.cap){f:Flr}{os:List Odr}{sh:List (List Sha)}(ho:∀ o∈os,OdrOk n o)(hl:os.length≤100)(e:routeF n f os=(sh,none)){a:List Lr}(ha:shOf a=sh.map (List.map Sha.lan)):ShF a:=by
 have hfc:=(route_fitC hok hc ho e ha).ok.1;have hrg:=route_rg hok ho e;have hla:=hfc.1;have hls:sh.length=a.length:=by have:=congrArg List.length ha;simpa using this.symm
 refine⟨by omega,fun r hr=> ?_⟩;obtain⟨i,hi,rfl⟩:=List.getElem_of_mem hr;have h1:=hfc.2 i hi;rw[An hi] at h1;refine⟨?_,fun s hs=> ?_⟩
 ·have:=sI_len (f:=Lm.p) (l:=a[i].l) fun s hs=>by
   obtain⟨k,hk,rfl⟩:=List.getElem_of_mem hs;have:=(h1.1 k hk).1
   rwa [An hk] at this
  have:=h1.2;omega
 ·have h9:rowOf a[i]=(gd sh i).map Sha.lan:=by rw[← An hi,← Jy hi,ha,Bu qom]
  have h8:s.lan∈(gd sh i).map Sha.lan:=by rw[← h9];exact List.mem_map.2 ⟨s,hs,rfl⟩
  obtain⟨u,hu,e2⟩:=List.mem_map.1 h8;have h7:s.l=toInts u.l:=(congrArg Lan.l e2).symm;rw[h7,List.length_map];have:=(hrg _ (Af (l:=sh) (i:=i) qom)).2 u hu;omega
theorem rte_ok {w0:World}{K:List (Nat × Obj)}{n:Nn}{f:Flr}{os:List Odr}{v:Value}(h:RteV w0 K n f os v){sh:List (List Sha)}(e:routeF n f os=(sh,none)):∃ (q:Option Addr) (c:Nat) (a:List Lr),v= .tuple #[.slice q a.length c, .slice none 0 0, .int .i64 0]∧ShM w0 K q a∧shOf a=sh.map (List.map Sha.lan):=by
 rcases h with ⟨sh2,q,c,a,⟨e2,hv⟩,hs,ha⟩|⟨sh2,ld,o,q,c,⟨e2,hv⟩,_⟩
 ·rw[e] at e2;obtain⟨rfl,_⟩:=Prod.mk.inj e2;exact⟨q,c,a,hv,hs,ha⟩
 ·rw[e] at e2;cases (Prod.mk.inj e2).2
theorem rte_no {w0:World}{K:List (Nat × Obj)}{n:Nn}{f:Flr}{os:List Odr}{v:Value}(h:RteV w0 K n f os v){sh:List (List Sha)}{ld:List Int}{o:Odr}(e:routeF n f os=(sh,some (ld,o))):∃ (q:Option Addr) (c:Nat),v= .tuple #[.slice none 0 0, .slice q (stuckF n f os o ld).1.length c, .int .i64 (stuckF n f os o ld).2]∧Arr w0 K q 1 encI (stuckF n f os o ld).1∧(stuckF n f os o ld).1.length≤1000:=by
 rcases h with ⟨sh2,q,c,a,⟨e2,hv⟩,hs,ha⟩|⟨sh2,ld2,o2,q,c,⟨e2,hv⟩,hA,hl⟩
 ·rw[e] at e2;cases (Prod.mk.inj e2).2
 ·rw[e] at e2;obtain⟨_,e3⟩:=Prod.mk.inj e2;obtain⟨rfl,rfl⟩:=Prod.mk.inj (Option.some.inj e3);exact⟨q,c,hv,hA,hl⟩
def stkOf (n:Nn) (f:Flr) (os:List Odr):Option (List Int × Int):=(routeF n f os).2.map fun x=>stuckF n f os x.2 x.1
theorem rte_stk {w0:World}{K:List (Nat × Obj)}{n:Nn}{f:Flr}{os:List Odr}{v:Value}(h:RteV w0 K n f os v){pr:List Int}{c:Int}(e:stkOf n f os=some (pr,c)):∃ (q:Option Addr) (cp:Nat),v= .tuple #[.slice none 0 0, .slice q pr.length cp, .int .i64 c]∧Arr w0 K q 1 encI pr:=by
 unfold stkOf at e;obtain⟨⟨ld,o⟩,h1,h2⟩:=Option.map_eq_some_iff.1 e;obtain⟨q,cp,hv,hA,_⟩:=rte_no h (show routeF n f os=((routeF n f os).1,some (ld,o)) by rw[← h1]);have h2':stuckF n f os o ld=(pr,c):=h2;rw[h2'] at hv hA;exact⟨q,cp,hv,hA⟩
abbrev noF:Flr:=⟨none,0,[], -1⟩
abbrev oSn (a:Int) (e:Re):Odr:=⟨0,3,a,e⟩
def baE:Re:= .seq (.nod ⟨#[98]⟩) (.nod ⟨#[97]⟩)
section
variable (n1 n2 n3:Nat)
theorem sr1:routeF (exN n1 n2 n3) noF [oSn 10 anE]=([[⟨[0,1],16⟩]],none):=by kernel_rfl
theorem sr2:routeF (exN n1 n2 n3) noF [oSn 20 anE]=([[⟨[0,1],8⟩,⟨[2,3],8⟩]],none):=by kernel_rfl
theorem sr3:stkOf (exN n1 n2 n3) noF [oSn 21 anE]=some ([1,1,1,1,0,0],19):=by kernel_rfl
theorem sr4:routeF (exN n1 n2 n3) noF [oSn 10 (thE ⟨#[99]⟩),oSn 10 anE]=([[⟨[2,3],16⟩],[⟨[0,1],16⟩]],none):=by kernel_rfl
theorem sr5:stkOf (exN n1 n2 n3) noF [oSn 10 anE,oSn 10 (thE ⟨#[98]⟩)]=some ([1,1,0,0,0,0],27):=by kernel_rfl
theorem sr6:stkOf (exN n1 n2 n3) noF [⟨1,0,5,baE⟩]=some ([],18):=by
 have hm:mOf baE=(buildC baE).1:=congrArg Prod.fst (buildF_eq baE);have h1:findF (exN n1 n2 n3) (fullF (exN n1 n2 n3) noF (List.replicate 6 0) 5) (mOf baE) 1 0=([],18):=by rw[hm];kernel_rfl
 have h2:findF (exN n1 n2 n3) noF (mOf baE) 1 0=([],18):=by rw[hm];kernel_rfl
 have hp:partF (exN n1 n2 n3) noF ⟨1,0,5,baE⟩ (List.replicate 6 0)=none:=part_no (o:=⟨1,0,5,baE⟩) h1 qde;have hr:routeF (exN n1 n2 n3) noF [⟨1,0,5,baE⟩]=([],some (List.replicate 6 0,⟨1,0,5,baE⟩)):=goR_no (rounds_no (j:=15) hp);unfold stkOf;rw[hr];show some (stuckF _ _ _ _ _)=_;unfold stuckF;rw[h2]
 rfl
theorem sp1:priceF (exN n1 n2 n3) noF (oSn 1 (thE ⟨#[99]⟩)) [1,1,5,1,1,1]=some 3:=by kernel_rfl
theorem sf1:refF (exN n1 n2 n3) noF [oSn 21 anE] [1,1,1,1,0,0]=true:=by kernel_rfl
theorem Fn:∀ x∈(exN n1 n2 n3).links,0≤x.cap∧x.cap≤1048576:=fun x hx=>by
 have h:∀ x∈exLinks,0≤x.cap∧x.cap≤1048576:=by decide
 exact h x hx
theorem Ef {a:Int}(ha:0≤a∧a≤1048576){e:Re}(hl:e.lv≤64)(hb:(buildF leastF e).2=0):OdrOk (exN n1 n2 n3) (oSn a e):=⟨by show 0<4;decide,by show 3<4;decide,ha.1,ha.2,hl,hb⟩
end
theorem bd0:(buildF leastF anE).2=0:=by kernel_rfl
theorem bd1:(buildF leastF (thE ⟨#[98]⟩)).2=0:=by kernel_rfl
theorem bd2:(buildF leastF (thE ⟨#[99]⟩)).2=0:=by kernel_rfl
theorem bd3:(buildF leastF baE).2=0:=by rw[buildF_eq];kernel_rfl
theorem Kb {N:Nn}{x y:Nat}{a:Int}{e:Re}{m:Rxm}(h:OdrOk N ⟨x,y,a,e⟩)(hi:Is m e)(hz:m.sz≤40):OsOk N [⟨x,y,a,m⟩] [⟨x,y,a,e⟩]:=
 ⟨⟨rfl,fun i hi'=>by
  obtain rfl:i=0:=by simpa using hi'
  exact⟨rfl,rfl,rfl,hi⟩⟩,fun o ho=>by obtain rfl:=List.mem_singleton.1 ho;exact h,fun o ho=>by obtain rfl:=List.mem_singleton.1 ho;show m.sz≤90000;omega,by show 1≤200;decide⟩
theorem Jh {N:Nn}{x y x' y':Nat}{a a':Int}{e e':Re}{m m':Rxm}(h:OdrOk N ⟨x,y,a,e⟩)(h':OdrOk N ⟨x',y',a',e'⟩)(hi:Is m e)(hi':Is m' e')(hz:m.sz≤40)(hz':m'.sz≤40):OsOk N [⟨x,y,a,m⟩,⟨x',y',a',m'⟩] [⟨x,y,a,e⟩,⟨x',y',a',e'⟩]:=
 ⟨⟨rfl,fun i hi9=>by
  have hi8:i<2:=hi9
  match i,hi8 with
  |0,_=>exact⟨rfl,rfl,rfl,hi⟩
  |1,_=>exact⟨rfl,rfl,rfl,hi'⟩⟩,fun o ho=>by
   rcases List.mem_cons.1 ho with rfl|ho
   ·exact h
   ·obtain rfl:=List.mem_singleton.1 ho;exact h',fun o ho=>by
   rcases List.mem_cons.1 ho with rfl|ho
   ·show m.sz≤90000;omega
   ·obtain rfl:=List.mem_singleton.1 ho;show m'.sz≤90000;omega,by show 2≤200;decide⟩
theorem sh_two {a:List Lr}{x y:List Lan}(h:shOf a=[x,y]):∃ r s,a=[r,s]∧rowOf r=x∧rowOf s=y:=by
 match a,h with
 |[r,s],h=>
  obtain⟨h1,h2⟩:=List.cons.inj h;exact⟨r,s,rfl,h1,(List.cons.inj h2).1⟩
theorem row_one {r:Lr}{l:List Int}{p:Int}(h:rowOf r=[⟨l,p⟩]):∃ q c q2 c2,r=⟨q,c,[⟨q2,c2,l,p⟩]⟩:=by
 obtain⟨q,c,s⟩:=r
 match s,h with
 |[⟨q2,c2,l2,p2⟩],h=>
  have h1:=(List.cons.inj h).1;obtain⟨rfl,rfl⟩:l2=l∧p2=p:=⟨congrArg Lan.l h1,congrArg Lan.p h1⟩;exact⟨q,c,q2,c2,rfl⟩
theorem Eff.mono {P:Program}{w0:World}{op:Op}{ty:TypeId}{L:Fm}{H:List (Nat × Obj)}{K K':Value→List (Nat × Obj)→Prop}(he:Eff P w0 op ty L H K)(hk:∀ v H',K v H'→K' v H'):Eff P w0 op ty L H K':=⟨he.1,fun b w hO=>by
 have h:=he.2 b w hO
 revert h
 generalize ((exO (ev (lk L b)) op ty).run P w)=r;intro h;cases r with
 |ok n w'=>
  cases n with
  |value v=>obtain⟨H',h1,h2⟩:=h;exact⟨H',h1,hk _ _ h2⟩
  |skip=>obtain⟨H',h1,h2⟩:=h;exact⟨H',h1,hk _ _ h2⟩
  |enter f args=>exact Calls.mono h fun e w'' ⟨v,H',h1,h2,h3⟩=>⟨v,H',h1,h2,hk _ _ h3⟩
  |round l f tmps assign body=>exact RoundIn.mono h fun e w'' ⟨v,H',h1,h2,h3⟩=>⟨v,H',h1,h2,hk _ _ h3⟩
  |_=>exact h
 |_=>exact h⟩
theorem wpO_perm {P:Program}{r:Option Nat}{ops:Array Oper}{Q:Exit→Act→World→Prop}{w0:World}{H0 H1 H2:List (Nat × Obj)}{t f:Nat}{listed:Array Bool}{a:Act}(hp:H2.Perm H1)(h:wpO P r ops Q w0 H0 t f listed a H1):wpO P r ops Q w0 H0 t f listed a H2:=by
 cases f with
 |zero=>exact⟨h.1,fun w hO=>h.2 w (Bx hO hp)⟩
 |succ f=>exact⟨h.1,fun i hi hit w hO=>h.2 i hi hit w (Bx hO hp)⟩
theorem lk_swap {L:Fm}{k1 k2:Nat}{v1 v2:Value}(hne:Nat.beq k1 k2=false)(b:Nat→Value):lk (pt (some k1) v1 (pt (some k2) v2 L)) b=lk (pt (some k2) v2 (pt (some k1) v1 L)) b:=by
 funext k
 simp only[pt,lk];cases h1:Nat.beq k1 k<;>cases h2:Nat.beq k2 k<;>simp_all
theorem jx_conv {P:Program}{r:Option Nat}{N:Nat}{w0:World}{H0 H1 H2:List (Nat × Obj)}{ops:Array Oper}{t f:Nat}{listed:Array Bool}{Q:Post}{L1 L2:Fm}{ds:List Deferred}(hL:∀ b,lk L2 b=lk L1 b)(hp:H2.Perm H1)(hs:H0.Sublist H1)(h:JX P r N w0 H1 ops t f listed Q L1 ds H1):JX P r N w0 H0 ops t f listed Q L2 ds H2:=
 fun hT hD hS hP _ inv b a hsz hf hd=>Kw hs _ _ _ _ (wpO_perm hp (h hT hD hS hP (List.Sublist.refl _) inv b a hsz (hf.trans (hL b)) hd))
theorem K8 {P:Program}{r:Option Nat}{N:Nat}{w0:World}{H0 H:List (Nat × Obj)}{ops:Array Oper}{t f:Nat}{listed:Array Bool}{Q:Post}{L:Fm}{ds:List Deferred}(h:JX P r N w0 H ops t f listed Q L ds H):JX P r N w0 H0 ops t f listed Q L ds H:=fun hT hD hS hP hs inv b a hsz hf hd=>
 Kw hs _ _ _ _ (h hT hD hS hP (List.Sublist.refl _) inv b a hsz hf hd)
section
variable {P:Program} {r:Option Nat} {N:Nat} {w0:World} {H0 H:List (Nat × Obj)} {ops:Array Oper} {t f:Nat} {listed:Array Bool} {Q:Post} {L:Fm} {ds:List Deferred} {i j k1 k2:Nat} {op1 op2:Op} {ty1 ty2:TypeId} {p1 p2:String} {af1 af2:Array Edge} {g1 g2:Option (Nat × Bool)} {A B:Type} {v1:A→Value} {v2:B→Value} {M1:A→List (Nat × Obj)} {M2:B→List (Nat × Obj)} {φ1:A→Prop} {φ2:B→Prop}
theorem x_twoA (hr:Region.ready md ops listed=[i,j])(hit:Nat.blt i t=true)(hjt:Nat.blt j t=true)(hrj:Region.ready md ops (listed.setIfInBounds i true)=[j])(hri:Region.ready md ops (listed.setIfInBounds j true)=[i])(hij:Nat.beq i j=false)
  (hoi:ops[i]? =some ⟨some k1,op1,ty1,p1,af1,g1⟩) (hoj:ops[j]? =some ⟨some k2,op2,ty2,p2,af2,g2⟩) (hk:Nat.beq k1 k2=false)
  (h1:∀ L' H',H.Sublist H'→(L'=L∨∃ b,L'=pt (some k2) (v2 b) L)→Eff P w0 op1 ty1 L' H' (fun v H''=>∃ a,(v=v1 a∧φ1 a)∧H''=M1 a++H'))
  (h2:∀ L' H',H.Sublist H'→(L'=L∨∃ a,L'=pt (some k1) (v1 a) L)→Eff P w0 op2 ty2 L' H' (fun v H''=>∃ b,(v=v2 b∧φ2 b)∧H''=M2 b++H'))
  (hN1:dOk (some k1) N=true) (hN2:dOk (some k2) N=true) (hg1:Gd ops L g1 N true) (hg2:Gd ops L g2 N true) (hg1':∀ b,Gd ops (pt (some k2) (v2 b) L) g1 N true) (hg2':∀ a,Gd ops (pt (some k1) (v1 a) L) g2 N true)
  (hs0:H0.Sublist H) (h:∀ a b,φ1 a→φ2 b→JX P r N w0 (M2 b++(M1 a++H)) ops t f ((listed.setIfInBounds i true).setIfInBounds j true) Q (pt (some k2) (v2 b) (pt (some k1) (v1 a) L)) ds (M2 b++(M1 a++H))):
  JX P r N w0 H0 ops t (f+2) listed Q L ds H:=by
 have hlc:(listed.setIfInBounds j true).setIfInBounds i true=(listed.setIfInBounds i true).setIfInBounds j true:=Array.setIfInBounds_comm _ _ (fun e=>by rw[e,Nat.beq_refl] at hij;cases hij);refine Kl hr ⟨i,by simp,by simpa[Nat.blt_eq] using hit⟩ fun m hm _=> ?_
 simp only[List.mem_cons,List.not_mem_nil,or_false] at hm;rcases hm with rfl|rfl
 ·refine Bp hoi (h1 L H (List.Sublist.refl _) (.inl U)) ?_ hN1 hg1;rintro _ _ ⟨a,⟨rfl,ha⟩,rfl⟩;refine⟨hs0.trans (List.sublist_append_right _ _),B1 hrj hjt (Bp hoj (h2 _ _ (List.sublist_append_right _ _) (.inr ⟨a,rfl⟩)) ?_ hN2 (hg2' a))⟩;rintro _ _ ⟨b,⟨rfl,hb⟩,rfl⟩;exact⟨(hs0.trans (List.sublist_append_right _ _)).trans (List.sublist_append_right _ _),jx_conv (fun _=>rfl) (List.Perm.refl _) ((hs0.trans (List.sublist_append_right _ _)).trans (List.sublist_append_right _ _)) (h a b ha hb)⟩
 ·refine Bp hoj (h2 L H (List.Sublist.refl _) (.inl U)) ?_ hN2 hg2;rintro _ _ ⟨b,⟨rfl,hb⟩,rfl⟩;refine⟨hs0.trans (List.sublist_append_right _ _),B1 hri hit (Bp hoi (h1 _ _ (List.sublist_append_right _ _) (.inr ⟨b,rfl⟩)) ?_ hN1 (hg1' b))⟩;rintro _ _ ⟨a,⟨rfl,ha⟩,rfl⟩;rw[hlc];refine⟨(hs0.trans (List.sublist_append_right _ _)).trans (List.sublist_append_right _ _),jx_conv (lk_swap hk) ?_ ((hs0.trans (List.sublist_append_right _ _)).trans (List.sublist_append_right _ _)) (h a b ha hb)⟩;rw[← List.append_assoc,← List.append_assoc];exact List.perm_append_comm.append_right H
end
theorem zbd58_0_1_2_3 (a0:Int)(a1:Int)(a2:Int)(a3:Int)(a4:ByteArray)(a5:Option Addr)(a5n a5c:Nat)(w:World):(Instr.build 58 #[(0, .int .i64 a0),(1, .int .i64 a1),(2, .int .i64 a2),(3, .agg #[.int .i64 a3, .string a4, .slice a5 a5n a5c])]).run Tryz.prog w= .ok (.agg #[.int .i64 a0, .int .i64 a1, .int .i64 a2, .int .i64 a3, .string a4, .slice a5 a5n a5c]) w:=by kernel_rfl
theorem Fk (a0:Int)(a1:Int)(w:World):(Instr.buildSlice 27 2 #[(0, .int .i64 a0),(1, .int .i64 a1)]).run Tryz.prog w= .ok (.slice (some ⟨w.heap.size,0,none⟩) 2 2) (w.alloc (Cl [.int .i64 a0, .int .i64 a1] 3)):=by kernel_rfl
theorem zbs27_6_0_1_2_3_4_5 (a0:Int)(a1:Int)(a2:Int)(a3:Int)(a4:Int)(a5:Int)(w:World):(Instr.buildSlice 27 6 #[(0, .int .i64 a0),(1, .int .i64 a1),(2, .int .i64 a2),(3, .int .i64 a3),(4, .int .i64 a4),(5, .int .i64 a5)]).run Tryz.prog w= .ok (.slice (some ⟨w.heap.size,0,none⟩) 6 6) (w.alloc (Cl [.int .i64 a0, .int .i64 a1, .int .i64 a2, .int .i64 a3, .int .i64 a4, .int .i64 a5] 3)):=by kernel_rfl
theorem F7 (a0:Int)(a1:Int)(a2:Int)(a3:Int)(a4:ByteArray)(a5:Option Addr)(a5n a5c:Nat)(w:World):(Instr.buildSlice 30 1 #[(0, .agg #[.int .i64 a0, .int .i64 a1, .int .i64 a2, .int .i64 a3, .string a4, .slice a5 a5n a5c])]).run Tryz.prog w= .ok (.slice (some ⟨w.heap.size,0,none⟩) 1 1) (w.alloc (Cl [.int .i64 a0, .int .i64 a1, .int .i64 a2, .int .i64 a3, .string a4, .slice a5 a5n a5c] 58)):=by kernel_rfl
theorem zbs30_2_0_1 (a0:Int)(a1:Int)(a2:Int)(a3:Int)(a4:ByteArray)(a5:Option Addr)(a5n a5c:Nat)(a6:Int)(a7:Int)(a8:Int)(a9:Int)(a10:ByteArray)(a11:Option Addr)(a11n a11c:Nat)(w:World):(Instr.buildSlice 30 2 #[(0, .agg #[.int .i64 a0, .int .i64 a1, .int .i64 a2, .int .i64 a3, .string a4, .slice a5 a5n a5c]),(1, .agg #[.int .i64 a6, .int .i64 a7, .int .i64 a8, .int .i64 a9, .string a10, .slice a11 a11n a11c])]).run Tryz.prog w= .ok (.slice (some ⟨w.heap.size,0,none⟩) 2 2) (w.alloc (Cl [.int .i64 a0, .int .i64 a1, .int .i64 a2, .int .i64 a3, .string a4, .slice a5 a5n a5c, .int .i64 a6, .int .i64 a7, .int .i64 a8, .int .i64 a9, .string a10, .slice a11 a11n a11c] 58)):=by kernel_rfl
theorem zbs31_2_0_1 (a0:Option Addr)(a0n a0c:Nat)(a1:Option Addr)(a1n a1c:Nat)(w:World):(Instr.buildSlice 31 2 #[(0, .slice a0 a0n a0c),(1, .slice a1 a1n a1c)]).run Tryz.prog w= .ok (.slice (some ⟨w.heap.size,0,none⟩) 2 2) (w.alloc (Cl [.slice a0 a0n a0c, .slice a1 a1n a1c] 79)):=by kernel_rfl
theorem zbs79_2_0_1 (a0:Option Addr)(a0n a0c:Nat)(a1:Int)(a2:Option Addr)(a2n a2c:Nat)(a3:Int)(w:World):(Instr.buildSlice 79 2 #[(0, .agg #[.slice a0 a0n a0c, .int .i64 a1]),(1, .agg #[.slice a2 a2n a2c, .int .i64 a3])]).run Tryz.prog w= .ok (.slice (some ⟨w.heap.size,0,none⟩) 2 2) (w.alloc (Cl [.slice a0 a0n a0c, .int .i64 a1, .slice a2 a2n a2c, .int .i64 a3] 77)):=by kernel_rfl
theorem RxG.own {w0:World}{e:Re}{m:Rxm}{M:List (Nat × Obj)}(g:RxG w0 e m M):RxM w0 M m:=by have:=g.mm [];rwa [List.append_nil] at this
theorem osm1 {w0:World}{H:List (Nat × Obj)}{n:Nat}{o:Om}(hf:Fnd H n (Cl (encOm o) 58))(h:RxM w0 H o.m):OsM w0 H (some ⟨n,0,none⟩) [o]:=
 ⟨Bw (fun _=>rfl) (by simp) hf,by show 1≤9223372036854775807;decide,fun x hx=>by obtain rfl:=List.mem_singleton.1 hx;exact h⟩
theorem osm2 {w0:World}{H:List (Nat × Obj)}{n:Nat}{o o':Om}(hf:Fnd H n (Cl (encOm o++encOm o') 58))(h:RxM w0 H o.m)(h':RxM w0 H o'.m):OsM w0 H (some ⟨n,0,none⟩) [o,o']:=
 ⟨Bw (fun _=>rfl) (by simp) hf,by show 2≤9223372036854775807;decide,fun x hx=>by
  rcases List.mem_cons.1 hx with rfl|hx
  ·exact h
  ·obtain rfl:=List.mem_singleton.1 hx;exact h'⟩
theorem lmm {w0:World}{H:List (Nat × Obj)}{n c:Nat}{l:List Int}{p:Int}(hl:l.length≤1000)(hf:Fnd H n (Cl (l.flatMap encI) 3)):LmM w0 H ⟨some ⟨n,0,none⟩,c,l,p⟩:=⟨Bw (fun _=>rfl) U hf,by show l.length≤_;omega⟩
theorem lrm1 {w0:World}{H:List (Nat × Obj)}{n c:Nat}{s:Lm}(hf:Fnd H n (Cl (encLm s) 77))(h:LmM w0 H s):LrM w0 H ⟨some ⟨n,0,none⟩,c,[s]⟩:=
 ⟨Bw (fun _=>rfl) (by simp) hf,by show 1≤9223372036854775807;decide,fun x hx=>by obtain rfl:=List.mem_singleton.1 hx;exact h⟩
theorem lrm2 {w0:World}{H:List (Nat × Obj)}{n c:Nat}{s t:Lm}(hf:Fnd H n (Cl (encLm s++encLm t) 77))(h:LmM w0 H s)(h':LmM w0 H t):LrM w0 H ⟨some ⟨n,0,none⟩,c,[s,t]⟩:=
 ⟨Bw (fun _=>rfl) (by simp) hf,by show 2≤9223372036854775807;decide,fun x hx=>by
  rcases List.mem_cons.1 hx with rfl|hx
  ·exact h
  ·obtain rfl:=List.mem_singleton.1 hx;exact h'⟩
theorem shm1 {w0:World}{H:List (Nat × Obj)}{n:Nat}{r:Lr}(hf:Fnd H n (Cl (encLr r) 79))(h:LrM w0 H r):ShM w0 H (some ⟨n,0,none⟩) [r]:=
 ⟨Bw (fun _=>rfl) (by simp) hf,by show 1≤9223372036854775807;decide,fun x hx=>by obtain rfl:=List.mem_singleton.1 hx;exact h⟩
theorem shm2 {w0:World}{H:List (Nat × Obj)}{n:Nat}{r s:Lr}(hf:Fnd H n (Cl (encLr r++encLr s) 79))(h:LrM w0 H r)(h':LrM w0 H s):ShM w0 H (some ⟨n,0,none⟩) [r,s]:=
 ⟨Bw (fun _=>rfl) (by simp) hf,by show 2≤9223372036854775807;decide,fun x hx=>by
  rcases List.mem_cons.1 hx with rfl|hx
  ·exact h
  ·obtain rfl:=List.mem_singleton.1 hx;exact h'⟩
theorem both_few {m m':Rxm}{M M':List (Nat × Obj)}{w0:World}(g:RxG w0 (thE ⟨#[99]⟩) m M)(g':RxG w0 anE m' M'):FewR [⟨0,3,10,m⟩,⟨0,3,10,m'⟩] (fun i=>if i=0 then thE ⟨#[99]⟩ else anE):=fun i hi=>by
 have hi':i<2:=hi
 match i,hi' with
 |0,_=>exact⟨g.i,g.z,⟨⟨trivial,⟨by decide,by decide,by decide,by decide,fun h=>of_decide_eq_false (p:=toL ⟨#[99]⟩∈wordsL.map toL) qkr (List.mem_map.2 ⟨_,h,rfl⟩)⟩⟩,trivial⟩,g.d⟩
 |1,_=>exact⟨g'.i,g'.z,trivial,g'.d⟩
theorem both_chk {N:Nat}(hN:N=4){m m':Rxm}:ChkIs N [⟨0,3,10,m⟩,⟨0,3,10,m'⟩] (fun i=>if i=0 then thE ⟨#[99]⟩ else anE) 0:=by
 subst hN;refine .inl ⟨rfl,fun i hi=> ?_,fun i hi=> ?_⟩
 ·have hi':i<2:=hi
  match i,hi' with
  |0,_=>exact⟨⟨by show (0:Int)≤0;decide,by show (0:Int)<4;decide⟩,⟨by show (0:Int)≤3;decide,by show (3:Int)<4;decide⟩,by show (0:Int)≤10;decide,by show (10:Int)≤1048576;decide⟩
  |1,_=>exact⟨⟨by show (0:Int)≤0;decide,by show (0:Int)<4;decide⟩,⟨by show (0:Int)≤3;decide,by show (3:Int)<4;decide⟩,by show (0:Int)≤10;decide,by show (10:Int)≤1048576;decide⟩
 ·have hi':i<2:=hi
  match i,hi' with
  |0,_=>exact bd2
  |1,_=>exact bd0
set_option maxHeartbeats 4000000 in
theorem sanity_s {w0:World}{H:List (Nat × Obj)}(hW:Arr w0 [] (some ⟨0,0,none⟩) 1 encS wordsL):
  FSpec Tryz.prog w0 10 #[] H (Still (.bool true) H):=by
 refine Ao Tryz.func10 U ntmps10 U (rD tb 7 U (e_ (Ak .nil call37 (example_s)) ?_ U));rintro _ _ ⟨⟨y1,y2,y3⟩,rfl,rfl⟩;refine e_ (Ai zeroValue26 cs_) ?_ U;rintro _ _ ⟨n1,rfl,rfl⟩;refine Aw (Le U U sizeOf26) U Ac ?_;rintro _ _ ⟨rfl,rfl⟩;refine rO tb 4 U (y_ (Ay .nil call38 (fun H' hs=>none_s)) (e_ (Ai zeroValue29 cs_) ?_ U) U);rintro _ _ ⟨n2,rfl,rfl⟩;refine Aw (Le U U sizeOf29) U Ac ?_;rintro _ _ ⟨rfl,rfl⟩;refine rO tb 4 U (e_ (Aj (.cons Ap (.cons Ap .nil)) (Fk _ _)) ?_ U);rintro _ _ ⟨n31,rfl,rfl⟩;refine y_ (A0 (.cons (T U) (.cons Ap .nil)) (Hw _ _ _ _)) (e_ (Ai zeroValue77 cs_) ?_ U) U;rintro _ _ ⟨n3,rfl,rfl⟩;refine Aw (Le U U sizeOf77) U Ac ?_;rintro _ _ ⟨rfl,rfl⟩;refine rO tb 4 U (e_ (Aj (.cons Ap (.cons Ap .nil)) (Fk _ _)) ?_ U);rintro _ _ ⟨n33,rfl,rfl⟩;refine y_ (A0 (.cons (T U) (.cons Ap .nil)) (Hw _ _ _ _)) (e_ (Ai zeroValue77 cs_) ?_ U) U;rintro _ _ ⟨n4,rfl,rfl⟩;refine Aw (Le U U sizeOf77) U Ac ?_;rintro _ _ ⟨rfl,rfl⟩;refine rO tb 3 U (Bh 12 [(0,true),(1,true),(2,false),(3,false),(4,false),(5,true),(6,true),(7,true),(8,true),(9,true),(10,true),(11,true)] _ mixd qkr sb0 ?_ A8);refine o_y U (Lc U isAgg26 sizeOf26 U qcs) ?_ U Ac;refine o_y U (Lc U isAgg29 sizeOf29 U qcs) ?_ U Ac;refine o_e U (Ak (.cons Ap (.cons Ap .nil)) call39 (I7 10 ⟨#[]⟩ anE (.inl ⟨rfl,rfl⟩))) ?_ U Ac;rintro _ _ ⟨m38,M38,⟨rfl,g38⟩,rfl⟩;refine⟨sbt,(Jf (o_e U (Aj (.cons (T U) .nil) (F7 _ _ _ _ _ _ _ _)) ?_ U Ac))⟩;rintro _ _ ⟨n39,rfl,rfl⟩;refine⟨sbt,(Jf ?_)⟩;refine o_e U (Ak (qe3 U U U) call27 (F6 (exN y1 y2 y3) (E0 fdd fdd) (G6 y1 y2 y3) (Fn y1 y2 y3) noF Er (Nat.zero_le _) [⟨0,3,10,m38⟩] [oSn 10 anE] (some ⟨n39,0,none⟩) 1 (osm1 fdd (g38.own.mono sbx)) (Kb (Ef y1 y2 y3 (a:=10) (e:=anE) qde qde bd0) g38.i g38.z))) ?_ U Ac;rintro _ _ ⟨M40,h40,rfl⟩;obtain⟨q40,k40,a40,rfl,hS40,ha40⟩:=rte_ok h40 (sr1 y1 y2 y3);refine⟨sbt,(Jf (rP tb 7 U (A7 U (rO tb 3 U (Bh 12 [(0,true),(1,true),(2,false),(3,false),(4,false),(5,true),(6,true),(7,true),(8,true),(9,true),(10,true),(11,true)] _ mixd qkr sb0 ?_ A8)))))⟩;refine o_y U (Lc U isAgg26 sizeOf26 U qcs) ?_ U Ac;refine o_y U (Lc U isAgg29 sizeOf29 U qcs) ?_ U Ac;refine o_e U (Ak (.cons Ap (.cons Ap .nil)) call39 (I7 20 ⟨#[]⟩ anE (.inl ⟨rfl,rfl⟩))) ?_ U Ac;rintro _ _ ⟨m47,M47,⟨rfl,g47⟩,rfl⟩;refine⟨sbt,(Jf (o_e U (Aj (.cons (T U) .nil) (F7 _ _ _ _ _ _ _ _)) ?_ U Ac))⟩;rintro _ _ ⟨n48,rfl,rfl⟩;refine⟨sbt,(Jf ?_)⟩;refine o_e U (Ak (qe3 U U U) call27 (F6 (exN y1 y2 y3) (E0 fdd fdd) (G6 y1 y2 y3) (Fn y1 y2 y3) noF Er (Nat.zero_le _) [⟨0,3,20,m47⟩] [oSn 20 anE] (some ⟨n48,0,none⟩) 1 (osm1 fdd (g47.own.mono sbx)) (Kb (Ef y1 y2 y3 (a:=20) (e:=anE) qde qde bd0) g47.i g47.z))) ?_ U Ac;rintro _ _ ⟨M49,h49,rfl⟩;obtain⟨q49,k49,a49,rfl,hS49,ha49⟩:=rte_ok h49 (sr2 y1 y2 y3);refine⟨sbt,(Jf (rP tb 7 U (A7 U (kO tb 2 [1,2,3,4,5,7,8,10] rfl U (rG tb 1 U (Bh 12 [(0,true),(1,true),(2,false),(3,false),(4,false),(5,true),(6,true),(7,true),(8,true),(9,true),(10,true),(11,true)] _ mixd qkr sb0 ?_ A8))))))⟩;refine o_y U (Lc U isAgg26 sizeOf26 U qcs) ?_ U Ac;refine o_y U (Lc U isAgg29 sizeOf29 U qcs) ?_ U Ac;refine o_e U (Ak (.cons Ap (.cons Ap .nil)) call39 (I7 21 ⟨#[]⟩ anE (.inl ⟨rfl,rfl⟩))) ?_ U Ac;rintro _ _ ⟨m56,M56,⟨rfl,g56⟩,rfl⟩;refine⟨sbt,(Jf (o_e U (Aj (.cons (T U) .nil) (F7 _ _ _ _ _ _ _ _)) ?_ U Ac))⟩;rintro _ _ ⟨n57,rfl,rfl⟩;refine⟨sbt,(Jf ?_)⟩;refine o_e U (Ak (qe3 U U U) call27 (F6 (exN y1 y2 y3) (E0 fdd fdd) (G6 y1 y2 y3) (Fn y1 y2 y3) noF Er (Nat.zero_le _) [⟨0,3,21,m56⟩] [oSn 21 anE] (some ⟨n57,0,none⟩) 1 (osm1 fdd (g56.own.mono sbx)) (Kb (Ef y1 y2 y3 (a:=21) (e:=anE) qde qde bd0) g56.i g56.z))) ?_ U Ac;rintro _ _ ⟨M58,h58,rfl⟩;obtain⟨q58,k58,rfl,hA58⟩:=rte_stk h58 (sr3 y1 y2 y3);refine⟨sbt,(Jf (rP tb 7 U (A7 U (rO tb 4 U (e_ (Ak (.cons Ap (.cons Ap .nil)) call39 (I7 10 ⟨#[99]⟩ (thE ⟨#[99]⟩) (.inr ⟨⟨by decide,by decide⟩,rfl⟩))) ?_ U)))))⟩;rintro _ _ ⟨m62,M62,⟨rfl,g62⟩,rfl⟩;refine e_ (Ak (.cons Ap (.cons Ap .nil)) call39 (I7 10 ⟨#[]⟩ anE (.inl ⟨rfl,rfl⟩))) ?_ U;rintro _ _ ⟨m63,M63,⟨rfl,g63⟩,rfl⟩;refine e_ (Aj (.cons (T U) (.cons (T U) .nil)) (zbs30_2_0_1 _ _ _ _ _ _ _ _ _ _ _ _ _ _ _ _)) ?_ U;rintro _ _ ⟨n64,rfl,rfl⟩;refine rO tb 5 U (y_ (Lc U isAgg26 sizeOf26 U qcs) ?_ U);refine y_ (Lc U isAgg29 sizeOf29 U qcs) ?_ U;refine rO tb 1 U ?_;refine e_ (Ak (qe3 U U U) call27 (F6 (exN y1 y2 y3) (E0 fdd fdd) (G6 y1 y2 y3) (Fn y1 y2 y3) noF Er (Nat.zero_le _) [⟨0,3,10,m62⟩,⟨0,3,10,m63⟩] [oSn 10 (thE ⟨#[99]⟩),oSn 10 anE] (some ⟨n64,0,none⟩) 2 (osm2 fdd (g62.own.mono sbx) (g63.own.mono sbx)) (Jh (Ef y1 y2 y3 (a:=10) (e:=(thE ⟨#[99]⟩)) qde qde bd2) (Ef y1 y2 y3 (a:=10) (e:=anE) qde qde bd0) g62.i g63.i g62.z g63.z))) ?_ U;rintro _ _ ⟨M69,h69,rfl⟩;obtain⟨q69,k69,a69,rfl,hS69,ha69⟩:=rte_ok h69 (sr4 y1 y2 y3);have hfit:=route_fitC (G6 y1 y2 y3) (fun x hx=>(Fn y1 y2 y3 x hx).1) ((Jh (Ef y1 y2 y3 (a:=10) (e:=(thE ⟨#[99]⟩)) qde qde bd2) (Ef y1 y2 y3 (a:=10) (e:=anE) qde qde bd0) g62.i g63.i g62.z g63.z)).ok (sr4 y1 y2 y3) ha69;have hshf:=route_shf (G6 y1 y2 y3) (fun x hx=>(Fn y1 y2 y3 x hx).1) ((Jh (Ef y1 y2 y3 (a:=10) (e:=(thE ⟨#[99]⟩)) qde qde bd2) (Ef y1 y2 y3 (a:=10) (e:=anE) qde qde bd0) g62.i g63.i g62.z g63.z)).ok (by show 2≤100;decide) (sr4 y1 y2 y3) ha69;obtain⟨r69,s69,rfl,hr69,hs69⟩:=sh_two ha69;obtain⟨qa,ka,qb,kb,rfl⟩:=row_one hr69;obtain⟨qc,kc,qd,kd,rfl⟩:=row_one hs69;refine kO tb 9 [1,2,3,4,5,7,8,10,12,13,14,15,17] rfl U (rG tb 1 U (Bh 13 [(0,true),(1,true),(2,false),(3,false),(4,false),(5,false),(6,true),(7,true),(8,true),(9,true),(10,true),(11,true),(12,true)] _ mixd qkr sb0 ?_ A8));refine o_y U (Lc U isAgg26 sizeOf26 U qcs) ?_ U Ac;refine o_y U (Lc U isAgg29 sizeOf29 U qcs) ?_ U Ac;refine o_e U (Ak (.cons Ap (.cons Ap .nil)) call39 (I7 10 ⟨#[]⟩ anE (.inl ⟨rfl,rfl⟩))) ?_ U Ac;rintro _ _ ⟨m76,M76,⟨rfl,g76⟩,rfl⟩;refine⟨sbt,(Jf (o_e U (Ak (.cons Ap (.cons Ap .nil)) call39 (I7 10 ⟨#[98]⟩ (thE ⟨#[98]⟩) (.inr ⟨⟨by decide,by decide⟩,rfl⟩))) ?_ U Ac))⟩;rintro _ _ ⟨m77,M77,⟨rfl,g77⟩,rfl⟩;refine⟨sbt,(Jf (o_e U (Aj (.cons (T U) (.cons (T U) .nil)) (zbs30_2_0_1 _ _ _ _ _ _ _ _ _ _ _ _ _ _ _ _)) ?_ U Ac))⟩;rintro _ _ ⟨n78,rfl,rfl⟩;refine⟨sbt,(Jf ?_)⟩;refine o_e U (Ak (qe3 U U U) call27 (F6 (exN y1 y2 y3) (E0 fdd fdd) (G6 y1 y2 y3) (Fn y1 y2 y3) noF Er (Nat.zero_le _) [⟨0,3,10,m76⟩,⟨0,3,10,m77⟩] [oSn 10 anE,oSn 10 (thE ⟨#[98]⟩)] (some ⟨n78,0,none⟩) 2 (osm2 fdd (g76.own.mono sbx) (g77.own.mono sbx)) (Jh (Ef y1 y2 y3 (a:=10) (e:=anE) qde qde bd0) (Ef y1 y2 y3 (a:=10) (e:=(thE ⟨#[98]⟩)) qde qde bd1) g76.i g77.i g76.z g77.z))) ?_ U Ac;rintro _ _ ⟨M79,h79,rfl⟩;obtain⟨q79,k79,rfl,hA79⟩:=rte_stk h79 (sr5 y1 y2 y3);refine⟨sbt,(Jf (rP tb 7 U (A7 U (rO tb 4 U (y_ (A0 (.cons Ap (.cons Ap .nil)) (Hx _ _)) (y_ (A0 (.cons Ap (.cons Ap .nil)) (Hx _ _)) (e_ (Aj (.cons (T U) (.cons (T U) .nil)) (Ee _ _ _ _ _ _ _ _ _ _)) ?_ U) U) U)))))⟩;rintro _ _ ⟨n85,rfl,rfl⟩;refine y_ (A0 (.cons Ap (.cons (T U) .nil)) (D3 _ _ _ _)) (e_ (Ai zeroValue56 cs_) ?_ U) U;rintro _ _ ⟨n21,rfl,rfl⟩;refine Aw (Le U U sizeOf56) U Ac ?_;rintro _ _ ⟨rfl,rfl⟩;refine kO tb 2 [1,2,3,4,5,7,8,10,12,13,14,15,17,20,21] rfl U (rG tb 2 U (y_ (Lc U isAgg26 sizeOf26 U qcs) ?_ U));refine y_ (Lc U isAgg29 sizeOf29 U qcs) ?_ U;refine y_ (Lc U isAgg56 sizeOf56 U qcs) ?_ U;refine y_ (A0 (.cons Ap (.cons Ap (.cons Ap (.cons (T U) .nil)))) (zbd58_0_1_2_3 _ _ _ _ _ _ _ _)) (e_ (Aj (.cons (T U) .nil) (F7 _ _ _ _ _ _ _ _)) ?_ U) U;rintro _ _ ⟨n92,rfl,rfl⟩;refine e_ (Ak (qe3 rfl rfl rfl) call27 (F6 (exN y1 y2 y3) (E0 fdd fdd) (G6 y1 y2 y3) (Fn y1 y2 y3) noF Er (Nat.zero_le _) [⟨1,0,5,(.mk 4 ⟨#[]⟩ (some ⟨n85,0,none⟩) 2 [.mk 2 ⟨#[98]⟩ none 0 [], .mk 2 ⟨#[97]⟩ none 0 []])⟩] [⟨1,0,5,baE⟩] (some ⟨n92,0,none⟩) 1 (osm1 fdd (rx2 rx0 rx0 fdd)) (Kb (e:=baE) ⟨by show 1<4;decide,by show 0<4;decide,by decide,by decide,by decide,bd3⟩ (.seq (.nod qde) (.nod qde)) (by simp[Rxm.sz,szL])))) ?_ rfl;rintro _ _ ⟨M93,h93,rfl⟩;obtain⟨q93,k93,rfl,hA93⟩:=rte_stk h93 (sr6 y1 y2 y3);refine rO tb 35 U (A5 (Lc U isAgg26 sizeOf26 U qcs) U (Az U U (Aa U)) ?_);refine rO tb 1 U ?_;refine Aw (Ak (qe2 U U) call16 (pcheckO_s (exN y1 y2 y3) (E0 fdd fdd) (by show 4≤1000000;decide) [⟨0,3,10,m62⟩,⟨0,3,10,m63⟩] (some ⟨n64,0,none⟩) 2 (osm2 fdd (g62.own.mono sbx) (g63.own.mono sbx)) (fun i=>if i=0 then (thE ⟨#[99]⟩) else anE) (both_few g62 g63) (by show 2≤200;decide) hW)) U (Az U U (Aa U)) ?_;rintro _ _ ⟨⟨c122,rfl,hc122⟩,rfl⟩;obtain rfl:c122=0:=hc122.uniq (both_chk rfl);refine kO tb 4 [1,2,3,4,5,8,12,14,15,124] rfl U (rG tb 5 U (e_ (Aj (.cons Ap (.cons Ap .nil)) (Fk _ _)) ?_ U));rintro _ _ ⟨n125,rfl,rfl⟩;refine y_ (A0 (.cons (T U) (.cons Ap .nil)) (Hw _ _ _ _)) (e_ (Aj (.cons Ap (.cons Ap .nil)) (Fk _ _)) ?_ U) U;rintro _ _ ⟨n127,rfl,rfl⟩;refine y_ (A0 (.cons (T U) (.cons Ap .nil)) (Hw _ _ _ _)) (e_ (Aj (.cons (T U) (.cons (T U) .nil)) (zbs79_2_0_1 _ _ _ _ _ _ _ _)) ?_ U) U;rintro _ _ ⟨n129,rfl,rfl⟩;refine rO tb 6 U (y_ (Lc U isAgg77 sizeOf77 U qcs) ?_ U);refine e_ (Aj (.cons (T U) .nil) (Hv _ _ _ _)) ?_ U;rintro _ _ ⟨n132,rfl,rfl⟩;refine e_ (Aj (.cons (T U) .nil) (zbs31_1_0 _ _ _)) ?_ U;rintro _ _ ⟨n133,rfl,rfl⟩;refine y_ (Ay (qe2 U U) call18 (fun H' hs=>Fe (decide_eq_true (show plS a40=plS [(⟨some ⟨n132,0,none⟩,1,[(⟨some ⟨n31,0,none⟩,2,[0,1],16⟩:Lm)]⟩:Lr)] from ha40)) (rsame_s a40 [(⟨some ⟨n132,0,none⟩,1,[(⟨some ⟨n31,0,none⟩,2,[0,1],16⟩:Lm)]⟩:Lr)] _ _ _ _ (hS40.mono (List.Sublist.trans sbx hs)) (ShM.mono (shm1 (n:=n133) fdd (lrm1 fdd (lmm qde fdd))) hs)))) ?_ U;refine rO tb 3 U (Aw (Aj (.cons (T U) .nil) (zbs31_1_0 _ _ _)) U (Az U U (Aa U)) ?_);rintro _ _ ⟨n138,rfl,rfl⟩;refine A5 (Ay (qe2 U U) call18 (fun H' hs=>Fe (decide_eq_true (show plS a49=plS [(⟨some ⟨n129,0,none⟩,2,[(⟨some ⟨n125,0,none⟩,2,[0,1],8⟩:Lm),(⟨some ⟨n127,0,none⟩,2,[2,3],8⟩:Lm)]⟩:Lr)] from ha49)) (rsame_s a49 [(⟨some ⟨n129,0,none⟩,2,[(⟨some ⟨n125,0,none⟩,2,[0,1],8⟩:Lm),(⟨some ⟨n127,0,none⟩,2,[2,3],8⟩:Lm)]⟩:Lr)] _ _ _ _ (hS49.mono (List.Sublist.trans sbx hs)) (ShM.mono (shm1 (n:=n138) fdd (lrm2 fdd (lmm qde fdd) (lmm qde fdd))) hs)))) U (Az U U (Aa U)) ?_;refine rO tb 3 U (A5 (Lc U isAgg77 sizeOf77 U qcs) U (Az U U (Aa U)) ?_);refine Aw (Aj (.cons (T U) .nil) (Hv _ _ _ _)) U (Az U U (Aa U)) ?_;rintro _ _ ⟨n144,rfl,rfl⟩;refine A5 (Lc U isAgg77 sizeOf77 U qcs) U (Az U U (Aa U)) ?_;refine Aw (Aj (.cons (T U) .nil) (Hv _ _ _ _)) U (Az U U (Aa U)) ?_;rintro _ _ ⟨n146,rfl,rfl⟩;refine Aw (Aj (.cons (T U) (.cons (T U) .nil)) (zbs31_2_0_1 _ _ _ _ _ _)) U (Az U U (Aa U)) ?_;rintro _ _ ⟨n147,rfl,rfl⟩;refine A5 (Ay (qe2 U U) call18 (fun H' hs=>Fe (decide_eq_true (show plS [(⟨qa,ka,[⟨qb,kb,[2,3],16⟩]⟩:Lr),⟨qc,kc,[⟨qd,kd,[0,1],16⟩]⟩]=plS [(⟨some ⟨n144,0,none⟩,1,[(⟨some ⟨n33,0,none⟩,2,[2,3],16⟩:Lm)]⟩:Lr),⟨some ⟨n146,0,none⟩,1,[(⟨some ⟨n31,0,none⟩,2,[0,1],16⟩:Lm)]⟩] from rfl)) (rsame_s [(⟨qa,ka,[⟨qb,kb,[2,3],16⟩]⟩:Lr),⟨qc,kc,[⟨qd,kd,[0,1],16⟩]⟩] [(⟨some ⟨n144,0,none⟩,1,[(⟨some ⟨n33,0,none⟩,2,[2,3],16⟩:Lm)]⟩:Lr),⟨some ⟨n146,0,none⟩,1,[(⟨some ⟨n31,0,none⟩,2,[0,1],16⟩:Lm)]⟩] _ _ _ _ (hS69.mono (List.Sublist.trans sbx hs)) (ShM.mono (shm2 (n:=n147) fdd (lrm1 fdd (lmm qde fdd)) (lrm1 fdd (lmm qde fdd))) hs)))) U (Az U U (Aa U)) ?_;refine kO tb 4 [1,2,5,12,14,15,26] rfl U (rG tb 1 U (I8 10 _ mixd qkr sb0 ?_ A8));refine x_y (i:=0) U qkr (Lc U isAgg26 sizeOf26 U qcs) ?_ U Ac;refine x_y (i:=1) U qkr (Lc U isAgg29 sizeOf29 U qcs) ?_ U Ac;refine x_twoA (i:=2) (j:=3) (v1:=fun p:Rxm × List (Nat × Obj)=> .agg (encOm ⟨0,3,1,p.1⟩).toArray) (φ1:=fun p=>RxG w0 (thE ⟨#[99]⟩) p.1 p.2) (M1:=fun p=>p.2) (v2:=fun n:Nat=> .slice (some ⟨n,0,none⟩) 6 6) (φ2:=fun _=>True) (M2:=fun n=>[(n,Cl [.int .i64 1, .int .i64 1, .int .i64 5, .int .i64 1, .int .i64 1, .int .i64 1] 3)]) qkr rfl rfl qkr qkr rfl rfl rfl rfl (fun L9 H9 hs hL9=>by rcases hL9 with rfl|⟨b9,rfl⟩<;>exact(Ak (.cons Ap (.cons Ap .nil)) call39 ((I7 1 ⟨#[99]⟩ (thE ⟨#[99]⟩) (.inr ⟨⟨by decide,by decide⟩,rfl⟩)).mono fun v H8 ⟨m,M,h⟩=>⟨(m,M),h⟩))) (fun L9 H9 hs hL9=>by rcases hL9 with rfl|⟨b9,rfl⟩<;>exact(Eff.mono (Aj (.cons Ap (.cons Ap (.cons Ap (.cons Ap (.cons Ap (.cons Ap .nil)))))) (zbs27_6_0_1_2_3_4_5 _ _ _ _ _ _)) fun v H8 ⟨n,h1,h2⟩=>⟨n,⟨h1,trivial⟩,h2⟩)) rfl rfl Ac Ac (fun _=>Ac) (fun _=>Ac) sbt ?_;rintro⟨m153,M153⟩ n154 g153 -
 dsimp only[List.cons_append,List.nil_append] at g153 ⊢
 refine x_y (i:=4) U qkr (Ay (qe4 U U U U) call32 (fun H' hs=>still_v (show _=Value.tuple #[.int .i64 3, .bool true] by rw[sp1];rfl) (ppriceF_s (exN y1 y2 y3) (E0 (Fnd.mono fdd hs) (Fnd.mono fdd hs)) (G6 y1 y2 y3) noF Er (Nat.zero_le _) ⟨0,3,1,m153⟩ (oSn 1 (thE ⟨#[99]⟩)) ⟨rfl,rfl,rfl,g153.i⟩ (Ef y1 y2 y3 (a:=1) (e:=(thE ⟨#[99]⟩)) qde qde bd2) (g153.own.mono (List.Sublist.trans sbx hs)) (by have:=g153.z;show m153.sz≤_;omega) [1,1,5,1,1,1] (some ⟨n154,0,none⟩) 6 ((Bw (enc:=encI) (sz:=1) (l:=[(1:Int),1,5,1,1,1]) (cells:=[(1:Int),1,5,1,1,1].flatMap encI) (e:=3) (fun _=>rfl) U fdd).mono hs) U qde))) ?_ U Ac;refine x_y (i:=5) U qkr (Br (T U)) ?_ U Ac;refine x_y (i:=6) U qkr (Ew (T U) U) ?_ U Ac;refine x_y (i:=7) U qkr (Ew (T U) U) ?_ U Ac;refine x_y (i:=8) U qkr (Ha (T U)) ?_ U Ac;refine x_y (i:=9) U qkr (Ha (T U)) ?_ U Ac;refine Ca qkr U ?_;refine rO tb 3 U (I8 43 _ mixd qkr sb0 ?_ A8);refine x_y (i:=0) U qkr (Br (T U)) ?_ U Ac;refine x_y (i:=1) U qkr (Br (T U)) ?_ U Ac;refine x_y (i:=2) U qkr (Br (T U)) ?_ U (Az U U (Aa U));refine B1 (i:=3) qkr qkr ?_;refine Bp U (Aj (.cons Ap (.cons Ap (.cons Ap (.cons Ap (.cons Ap (.cons Ap .nil)))))) (zbs27_6_0_1_2_3_4_5 _ _ _ _ _ _)) ?_ U (Az U U (Aa U));rintro _ _ ⟨n161,rfl,rfl⟩;refine⟨sbt,(K8 ?_)⟩;refine x_y (i:=4) U qkr (Ay (qe2 U U) call23 (fun H' hs=>Fe (decide_eq_true U) (sameInts_s q58 (some ⟨n161,0,none⟩) k58 6 [1,1,1,1,0,0] [1,1,1,1,0,0] (hA58.mono (List.Sublist.trans sbx hs)) ((Bw (enc:=encI) (sz:=1) (l:=([1,1,1,1,0,0]:List Int)) (cells:=([1,1,1,1,0,0]:List Int).flatMap encI) (e:=3) (fun _=>rfl) U (show Fnd _ n161 _ from fdd)).mono hs) qde))) ?_ U (Az U U (Aa U));refine x_y (i:=5) U qkr (Dg (T U) (T U)) ?_ U Ac;refine x_y (i:=6) U qkr (Br (T U)) ?_ U Ac;refine x_y (i:=7) U qkr (Lc U isAgg26 sizeOf26 U qcs) ?_ U (Az U U (Aa U));refine x_y (i:=8) U qkr (Lc U isAgg29 sizeOf29 U qcs) ?_ U (Az U U (Aa U));refine x_y (i:=11) U qkr (Br (T U)) ?_ U (Az U U (Aa U));refine B1 (i:=9) qkr qkr ?_;refine Bp U (Ak (.cons Ap (.cons Ap .nil)) call39 (I7 21 ⟨#[]⟩ anE (.inl ⟨rfl,rfl⟩))) ?_ U (Az U U (Aa U));rintro _ _ ⟨m167,M167,⟨rfl,g167⟩,rfl⟩;refine⟨sbt,(K8 (B1 (i:=10) qkr qkr ?_))⟩;refine Bp U (Aj (.cons (T U) .nil) (F7 _ _ _ _ _ _ _ _)) ?_ U (Az U U (Aa U));rintro _ _ ⟨n168,rfl,rfl⟩;refine⟨sbt,(K8 ?_)⟩;refine x_y (i:=12) U qkr (Ay (qe4 U U U U) call29 (fun H' hs=>Fe (sf1 y1 y2 y3) (prefuted_s (exN y1 y2 y3) (E0 (Fnd.mono fdd hs) (Fnd.mono fdd hs)) (G6 y1 y2 y3) (Fn y1 y2 y3) noF Er (Nat.zero_le _) [⟨0,3,21,m167⟩] [oSn 21 anE] (some ⟨n168,0,none⟩) 1 ((osm1 fdd (g167.own.mono sbx)).mono hs) (Kb (Ef y1 y2 y3 (a:=21) (e:=anE) qde qde bd0) g167.i g167.z) [1,1,1,1,0,0] q58 k58 (hA58.mono (List.Sublist.trans sbx hs)) qde))) ?_ U (Az U U (Aa U));refine x_y (i:=13) U qkr (Dg (T U) (T U)) ?_ U Ac;refine x_y (i:=14) U qkr (Br (T U)) ?_ U Ac;refine x_y (i:=15) U qkr (Lc U isAgg26 sizeOf26 U qcs) ?_ U (Az U U (Aa U));refine x_y (i:=16) U qkr (Lc U isAgg29 sizeOf29 U qcs) ?_ U (Az U U (Aa U));refine x_y (i:=17) U qkr (Br (T U)) ?_ U (Az U U (Aa U));refine x_y (i:=18) U qkr (Br (T U)) ?_ U (Az U U (Aa U));refine B1 (i:=19) qkr qkr ?_;refine Bp U (Ak (qe4 U U U U) call19 (pfits_s (exN y1 y2 y3) (E0 fdd fdd) (G6 y1 y2 y3) (Fn y1 y2 y3) noF Er (Nat.zero_le _) [⟨0,3,10,m62⟩,⟨0,3,10,m63⟩] [oSn 10 (thE ⟨#[99]⟩),oSn 10 anE] (some ⟨n64,0,none⟩) 2 (osm2 fdd (g62.own.mono sbx) (g63.own.mono sbx)) (Jh (Ef y1 y2 y3 (a:=10) (e:=(thE ⟨#[99]⟩)) qde qde bd2) (Ef y1 y2 y3 (a:=10) (e:=anE) qde qde bd0) g62.i g63.i g62.z g63.z) [(⟨qa,ka,[⟨qb,kb,[2,3],16⟩]⟩:Lr),⟨qc,kc,[⟨qd,kd,[0,1],16⟩]⟩] _ _ (hS69.mono sbx) hshf)) ?_ U (Az U U (Aa U));rintro _ _ ⟨⟨c177,rfl,hc177⟩,rfl⟩;obtain rfl:c177=0:=hc177.uniq hfit;refine⟨sbt,(K8 (x_y (i:=20) U qkr (Ki (T U) Ap) ?_ U (Az U U (Aa U))))⟩;refine x_y (i:=21) U qkr (Dg (T U) (T U)) ?_ U Ac;refine x_y (i:=22) U qkr (Br (T U)) ?_ U Ac;refine x_y (i:=23) U qkr (Br (T U)) ?_ U (Az U U (Aa U));refine x_y (i:=24) U qkr (Dg (T U) (T U)) ?_ U Ac;refine x_y (i:=25) U qkr (Br (T U)) ?_ U Ac;refine x_y (i:=26) U qkr (Br (T U)) ?_ U (Az U U (Aa U));refine x_y (i:=27) U qkr (Ki (T U) Ap) ?_ U (Az U U (Aa U));refine x_y (i:=28) U qkr (Dg (T U) (T U)) ?_ U Ac;refine x_y (i:=29) U qkr (Br (T U)) ?_ U Ac;refine x_y (i:=30) U qkr (Lc U isAgg26 sizeOf26 U qcs) ?_ U (Az U U (Aa U));refine x_y (i:=31) U qkr (Br (T U)) ?_ U (Az U U (Aa U));refine x_y (i:=32) U qkr (Br (T U)) ?_ U (Az U U (Aa U));refine x_twoA (i:=33) (j:=34) (v1:=fun d:Sl=>slV d 6) (φ1:=fun d=>SlOk d 6 1) (M1:=fun d=>slH d ([160,160,160,160,0,0].flatMap encI) 3) (v2:=fun n:Nat=> .slice (some ⟨n,0,none⟩) 6 6) (φ2:=fun _=>True) (M2:=fun n=>[(n,Cl [.int .i64 160, .int .i64 160, .int .i64 160, .int .i64 160, .int .i64 0, .int .i64 0] 3)]) qkr rfl rfl qkr qkr rfl rfl rfl rfl (fun L9 H9 hs hL9=>by rcases hL9 with rfl|⟨b9,rfl⟩<;>exact(Ak (qe3 rfl rfl rfl) call24 (Jx (exN y1 y2 y3) (E0 (Fnd.mono fdd hs) (Fnd.mono fdd hs)) (by show 6≤1000000;decide) [⟨0,3,10,m62⟩,⟨0,3,10,m63⟩] (some ⟨n64,0,none⟩) 2 ((osm2 fdd (g62.own.mono sbx) (g63.own.mono sbx)).mono hs) [(⟨qa,ka,[⟨qb,kb,[2,3],16⟩]⟩:Lr),⟨qc,kc,[⟨qd,kd,[0,1],16⟩]⟩] _ _ (hS69.mono (List.Sublist.trans sbx hs)) (J0 (Jh (Ef y1 y2 y3 (a:=10) (e:=(thE ⟨#[99]⟩)) qde qde bd2) (Ef y1 y2 y3 (a:=10) (e:=anE) qde qde bd0) g62.i g63.i g62.z g63.z) hshf hfit.ok.1 hfit.ok.2.1)))) (fun L9 H9 hs hL9=>by rcases hL9 with rfl|⟨b9,rfl⟩<;>exact(Eff.mono (Aj (.cons Ap (.cons Ap (.cons Ap (.cons Ap (.cons Ap (.cons Ap .nil)))))) (zbs27_6_0_1_2_3_4_5 _ _ _ _ _ _)) fun v H8 ⟨n,h1,h2⟩=>⟨n,⟨h1,trivial⟩,h2⟩)) rfl rfl (Az rfl rfl (Aa rfl)) (Az rfl rfl (Aa rfl)) (fun _=>Az rfl rfl (Aa rfl)) (fun _=>Az rfl rfl (Aa rfl)) sbt ?_;rintro dL n192 hdL -
 dsimp only[List.cons_append,List.nil_append]
 refine x_y (i:=35) U qkr (Ay (qe2 U U) call23 (fun H' hs=>Fe (decide_eq_true U) (sameInts_s (slQ dL) (some ⟨n192,0,none⟩) (slC dL) 6 [160,160,160,160,0,0] [160,160,160,160,0,0] ((A1 (w0:=w0) (d:=dL) (enc:=encI) (sz:=1) (e:=3) (l:=[160,160,160,160,0,0]) (X:=[]) (fun _=>rfl) hdL).mono (by rw[List.append_nil];exact List.Sublist.trans sbx hs)) ((Bw (enc:=encI) (sz:=1) (l:=([160,160,160,160,0,0]:List Int)) (cells:=([160,160,160,160,0,0]:List Int).flatMap encI) (e:=3) (fun _=>rfl) U (show Fnd _ n192 _ from fdd)).mono hs) qde))) ?_ U (Az U U (Aa U));refine x_y (i:=36) U qkr (Dg (T U) (T U)) ?_ U Ac;refine x_y (i:=37) U qkr (Br (T U)) ?_ U Ac;refine x_y (i:=38) U qkr (Br (T U)) ?_ U (Az U U (Aa U));refine x_y (i:=39) U qkr (Br (T U)) ?_ U (Az U U (Aa U));refine x_y (i:=40) U qkr (Ay (qe2 U U) call17 (fun H' hs=>Fe (decide_eq_true U) (psame_s a40 a40 _ _ _ _ (hS40.mono (List.Sublist.trans sbx hs)) (hS40.mono (List.Sublist.trans sbx hs))))) ?_ U (Az U U (Aa U));refine x_y (i:=41) U qkr (Dg (T U) (T U)) ?_ U Ac;refine x_y (i:=42) U qkr (Ha (T U)) ?_ U Ac;refine Ca qkr U ?_;refine kO tb 2 [0] rfl U (rG tb 1 U (Ah U (K9 U) ?_));exact⟨_,⟨rfl,rfl⟩,sbt⟩
theorem yl_eqls {w0:World}{L:Fm}{H:List (Nat × Obj)}{ty yt xt:TypeId}{x y:Operand}{a:Int}{k:IntKind}(hx:Ev L x (.int k a))(hy:Ev L y (.int k a)):Yl Tryz.prog w0 (.binOp .eql xt x y yt) ty L H (.bool true):=by
 have h:=Ki (P:=Tryz.prog) (w0:=w0) (H:=H) (ty:=ty) (yt:=yt) (xt:=xt) hx hy
 rwa [show decide (a=a)=true by simp] at h
theorem nnOk_of {n:Nm}(h:NetOk n)(h1:n.nodes.length≤8)(h2:n.links.length≤16):NnOk (nnOf n):=by
 refine⟨by show n.nodes.length≤12;omega,by simpa[nnOf] using (show n.links.length≤30 by omega),fun l hl=> ?_⟩;obtain⟨a,ha,rfl⟩:=List.mem_map.1 hl;obtain⟨i,hi,rfl⟩:=List.getElem_of_mem ha;have h1:=h.links i hi;rw[An hi] at h1;have h2:=h1.s0;have h3:=h1.s1;have h4:=h1.d0;have h5:=h1.d1;show (n.links[i]).src.toNat<n.nodes.length∧(n.links[i]).dst.toNat<n.nodes.length;omega
theorem nn_cap {n:Nm}(h:NetOk n):∀ x∈(nnOf n).links,0≤x.cap∧x.cap≤1048576:=fun x hx=>by
 obtain⟨a,ha,rfl⟩:=List.mem_map.1 hx;obtain⟨i,hi,rfl⟩:=List.getElem_of_mem ha;have h1:=h.links i hi;rw[An hi] at h1;exact⟨h1.c0,h1.c1⟩
structure RgtE (N:Nn) (f:Flr) (os:List Om) (most:Int) (a:List Lr) (os2:List Odr):Prop where
 ok:NnOk N
 cap:∀ x∈N.links,0≤x.cap∧x.cap≤1048576
 nl:N.links.length≤16
 fl:f.links.length≤1000000
 fl16:f.links.length≤16
 few:FewS most os a
 os:OsOk N os os2
theorem RgtR.e {n:Nm}{f:Flr}{os:List Om}{most:Int}{a:List Lr}(h:RgtR n f os most a):∃ os2,RgtE (nnOf n) f os most a os2:=by
 obtain⟨os2,ho⟩:=h.os;exact⟨os2,nnOk_of h.net h.nn h.nl,nn_cap h.net,by simpa[nnOf] using h.nl,by have:=h.fl;omega,h.fl,h.few,ho⟩
theorem rrightE_s {w0:World}{H:List (Nat × Obj)}(n:Nm)(hn:NetM w0 H n)(f:Flr)(hf:Arr w0 H f.q 1 encI f.links)(hfl:f.links.length≤9223372036854775807)(os:List Om)(qo:Option Addr)(co:Nat)(hO:OsM w0 H qo os)(hoz:∀ o∈os,o.m.sz≤1048576)(most:Int)(hm:most≤6)(a:List Lr)(q1:Option Addr)(c1:Nat)(hA:ShM w0 H q1 a):
  FSpec Tryz.prog w0 26 #[.agg (encNn (nnOf n)).toArray, .agg (encFl f).toArray, .slice qo os.length co, .int .i64 most, .slice q1 a.length c1] H (fun v H'=>(∃ t:Bool,v= .bool t∧(t=true→NetOk n∧∃ os2,RgtE (nnOf n) f os most a os2))∧H'=H):=by
 rw[nn_enc n];exact(rright_s n hn f hf hfl os qo co hO hoz most hm a q1 c1 hA).mono fun v H' ⟨⟨t,h1,h2⟩,h3⟩=>⟨⟨t,h1,fun h=>⟨(h2 h).net,(h2 h).e⟩⟩,h3⟩
theorem few_shf {most:Int}{os:List Om}{a:List Lr}(h:FewS most os a)(hm:most≤6):ShF a:=by
 have h1:=h.s;refine⟨by omega,fun r hr=> ?_⟩;obtain⟨i,hi,rfl⟩:=List.getElem_of_mem hr;have h2:=h.r i hi;rw[An hi] at h2;refine⟨by omega,fun s hs=> ?_⟩;obtain⟨k,hk,rfl⟩:=List.getElem_of_mem hs;have h3:=h2.2 k hk;rw[An hk] at h3;omega
theorem zbs23_0_z  (w:World):(Instr.buildSlice 23 0 #[]).run Tryz.prog w= .ok (.slice (some ⟨w.heap.size,0,none⟩) 0 0) (w.alloc (Cl [] 61)):=by kernel_rfl
def wideL (m:Int) (x:Ln):Ln:=⟨x.src,x.dst,min 1048576 (x.cap+m)⟩
abbrev wideK (l:List Ln) (m:Int) (k:Nat):List Ln:=(l.take k).map (wideL m)++l.drop k
def wideN (n:Nn) (m:Int) (q:Option Addr) (c:Nat):Nn:=⟨n.nodes,n.links.map (wideL m),n.edges,n.qn,n.cn,q,c,n.qe,n.ce⟩
theorem G8 (n:Nn)(m:Int)(q:Option Addr)(c k:Nat):(gd (wideN n m q c).links k).src=(gd n.links k).src∧(gd (wideN n m q c).links k).dst=(gd n.links k).dst:=by
 by_cases h:k<n.links.length
 ·show (gd (n.links.map (wideL m)) k).src=_∧(gd (n.links.map (wideL m)) k).dst=_;rw[Bu h];exact⟨rfl,rfl⟩
 ·have e1:gd (wideN n m q c).links k=default:=by
   show (n.links.map (wideL m)).getD k default=default;rw[List.getD,List.getElem?_eq_none (by simpa using h)];rfl
  have e2:gd n.links k=default:=by rw[gd,List.getD,List.getElem?_eq_none qom];rfl
  rw[e1,e2];exact⟨rfl,rfl⟩
theorem wide_len (n:Nn)(m:Int)(q:Option Addr)(c:Nat):(wideN n m q c).links.length=n.links.length:=List.length_map ..
theorem wide_wk (n:Nn)(m:Int)(q:Option Addr)(c:Nat):∀ (ls:List Int) (x:Int),wkF (wideN n m q c) x ls=wkF n x ls
 |[],_=>rfl
 |l::ls,x=>by
  rw[wkF,wkF,(G8 n m q c _).1,(G8 n m q c _).2,wide_len,wide_wk n m q c ls]
theorem wide_up (n:Nn)(m:Int)(q:Option Addr)(c:Nat)(f:Flr)(k:Nat):upF (wideN n m q c) f k=upF n f k:=by
 unfold upF;rw[(G8 n m q c _).1,(G8 n m q c _).2]
theorem wide_holds (n:Nn)(m:Int)(q:Option Addr)(c:Nat)(f:Flr)(e:Re)(x y:Nat)(ls:List Int):holdsF (wideN n m q c) f e x y ls=holdsF n f e x y ls:=by
 unfold holdsF;rw[wide_wk]
 congr 2
 congr 1
 ·unfold upAll;congr 1;funext l;exact wide_up n m q c f _
 ·unfold namesF
  congr 2
  refine List.map_congr_left fun l _=> ?_
  rw[(G8 n m q c _).2];rfl
theorem wide_fit {n:Nn}{f:Flr}{os:List Odr}{a:List Lr}{m:Int}(hm:0≤m)(hc:∀ x∈n.links,0≤x.cap∧x.cap≤1048576)(q:Option Addr)(c:Nat)(h:FitC n f os a 0):FitC (wideN n m q c) f os a 0:=by
 obtain⟨h1,h2,h3⟩:=h.ok;refine FitC.of h1 (fun i hi k hk=>by rw[wide_holds];exact h2 i hi k hk) fun k hk=> ?_
 rw[wide_len] at hk;have h4:=h3 k hk;have h5:=hc _ (Af hk);have h6:(gd (wideN n m q c).links k).cap=min 1048576 ((gd n.links k).cap+m):=by
  show (gd (n.links.map (wideL m)) k).cap=_;rw[Bu hk];rfl
 rw[h6];omega
theorem wide_ok {n:Nn}(h:NnOk n)(m:Int)(q:Option Addr)(c:Nat):NnOk (wideN n m q c):=⟨h.fewN,by rw[wide_len];exact h.fewL,fun x hx=>by
 obtain⟨y,hy,rfl⟩:=List.mem_map.1 hx;exact h.ends y hy⟩
theorem wide_cap {n:Nn}{m:Int}(hm:0≤m)(hc:∀ x∈n.links,0≤x.cap∧x.cap≤1048576)(q:Option Addr)(c:Nat):∀ x∈(wideN n m q c).links,0≤x.cap∧x.cap≤1048576:=fun x hx=>by
 obtain⟨y,hy,rfl⟩:=List.mem_map.1 hx;have:=hc y hy;simp only[wideL];omega
theorem wide_os {n:Nn}{os:List Om}{os2:List Odr}(h:OsOk n os os2)(m:Int)(q:Option Addr)(c:Nat):OsOk (wideN n m q c) os os2:=⟨h.r,fun o ho=>have:=h.ok o ho;⟨this.x,this.y,this.a0,this.a1,this.lv,this.bd⟩,h.z,h.few⟩
theorem wideK_set {l:List Ln}{m:Int}{k:Nat}(h:k<l.length):(wideK l m k).set k (wideL m (gd l k))=wideK l m (k+1):=by
 have e:k=((l.take k).map (wideL m)).length:=by simp;omega
 unfold wideK;rw[drop_gd h,Ch h];rw[List.set_append,if_neg qom,← e,Nat.sub_self,List.set_cons_zero];simp
theorem wideK_gd {l:List Ln}{m:Int}{k:Nat}(h:k<l.length):gd (wideK l m k) k=gd l k:=by
 have e:((l.take k).map (wideL m)).length=k:=by simp;omega
 unfold gd wideK List.getD;rw[List.getElem?_append_right qom,e,Nat.sub_self,List.getElem?_drop];rfl
theorem Eu (l:List Ln)(m:Int)(k:Nat):(wideK l m k).length=l.length:=by simp[wideK];omega
theorem wideK_end (l:List Ln)(m:Int):wideK l m l.length=l.map (wideL m):=by simp[wideK]
theorem wideK_zero (l:List Ln)(m:Int):wideK l m 0=l:=by simp[wideK]
theorem osM_take {w0:World}{H:List (Nat × Obj)}{q:Option Addr}{os:List Om}(h:OsM w0 H q os)(k:Nat):OsM w0 H q (os.take k):=⟨h.a.take k,by have:=h.n;rw[List.length_take];omega,fun o ho=>h.m o (List.mem_of_mem_take ho)⟩
theorem shM_take {w0:World}{H:List (Nat × Obj)}{q:Option Addr}{a:List Lr}(h:ShM w0 H q a)(k:Nat):ShM w0 H q (a.take k):=⟨h.a.take k,by have:=h.n;rw[List.length_take];omega,fun o ho=>h.m o (List.mem_of_mem_take ho)⟩
theorem osM_drop {w0:World}{H:List (Nat × Obj)}{q:Option Addr}{os:List Om}{c:Nat}(h:OsM w0 H q os)(hc:os.length≤c)(k:Nat):OsM w0 H (slD q c k 6) (os.drop k):=⟨h.a.drop hc k,by have:=h.n;rw[List.length_drop];omega,fun o ho=>h.m o (List.mem_of_mem_drop ho)⟩
theorem shM_drop {w0:World}{H:List (Nat × Obj)}{q:Option Addr}{a:List Lr}{c:Nat}(h:ShM w0 H q a)(hc:a.length≤c)(k:Nat):ShM w0 H (slD q c k 1) (a.drop k):=⟨h.a.drop hc k,by have:=h.n;rw[List.length_drop];omega,fun o ho=>h.m o (List.mem_of_mem_drop ho)⟩
theorem dt_one {α:Type}[Inhabited α] {l:List α}{k:Nat}(h:k<l.length):(l.drop k).take 1=[gd l k]:=by rw[drop_gd h];rfl
theorem ldOk_one {N:Nat}{os:List Om}{a:List Lr}(h:LdOk N os a){i:Nat}(hi:i<a.length):LdOk N [gd os i] [gd a i]:=by
 have hl:=h.len;refine⟨rfl,by simp,fun o ho=> ?_,fun r hr=> ?_⟩
 ·rw[List.mem_singleton.1 ho];exact h.amt _ (Af qom)
 ·rw[List.mem_singleton.1 hr];exact h.lan _ (Af hi)
theorem shT_one {N:Nat}{os:List Om}{a:List Lr}(h:LdOk N os a){i:Nat}(hi:i<a.length){k:Nat}(hk:k<N):gd (shT (List.replicate N 0) os a (i+1)) k=gd (shT (List.replicate N 0) os a i) k+gd (shT (List.replicate N 0) [gd os i] [gd a i] 1) k:=by
 have hr:=(h.lan _ (Af hi)).2;rw[shT,I3 (fun s hs x hx=>by rw[B5,List.length_replicate];exact(hr s hs).2.2.2 x hx)];show _=_+gd (rowL (List.replicate N 0) (gd os i).amt (gd a i).l) k;rw[I3 (fun s hs x hx=>by rw[List.length_replicate];exact(hr s hs).2.2.2 x hx),Gn hk];omega
theorem ordLd_rng {amt:Int}(h:0≤amt∧amt≤1048576){N:Nat}{k:Nat}:∀ {l:List Lm},(∀ s∈l,1≤s.p∧s.p≤16∧s.l.length≤3000∧∀ x∈s.l,0≤x∧x<N)→0≤ordLd amt (l.map Lm.lan) k∧ordLd amt (l.map Lm.lan) k≤16777216*(3000*l.length)
 |[],_=>by simp[ordLd,sI]
 |s::l,hs=>by
  have h1:=hs s (by simp);have h2:=ordLd_rng (k:=k) h (l:=l) fun x hx=>hs x (by simp[hx])
  have h3:=amt_mul h.1 h.2 h1.1 h1.2.1;have h4:=cntI_nonneg s.l k;have h5:cntI s.l k≤s.l.length:=by
   clear h1 h2 h3 h4 hs
   generalize s.l=l
   induction l with
   |nil=>exact Int.le_refl _
   |cons x l ih=>
    have h8:one k x≤1:=by unfold one;split<;>omega
    unfold cntI sI;unfold cntI at ih;simp only[List.length_cons];omega
  have h6:=mul_rng (a:=cntI s.l k) (b:=amt*s.p) (A:=3000) (B:=16777216) ⟨h4,by omega⟩ h3;have e:ordLd amt ((s::l).map Lm.lan) k=cntI s.l k*(amt*s.p)+ordLd amt (l.map Lm.lan) k:=rfl;rw[e];simp only[List.length_cons];omega
theorem shT_rng {N:Nat}{os:List Om}{a:List Lr}(h:LdOk N os a){k:Nat}(hk:k<N):∀ i,i≤a.length→0≤gd (shT (List.replicate N 0) os a i) k∧gd (shT (List.replicate N 0) os a i) k≤16777216*(3000*100)*i
 |0,_=>by rw[shT,Gn hk];omega
 |i+1,hi=>by
  have h1:=shT_rng h hk i qom;have hl:=h.len;have h2:=h.lan _ (Af (l:=a) (i:=i) qom);have h3:=ordLd_rng (k:=k) (h.amt _ (Af (l:=os) (i:=i) qom)) h2.2;rw[shT,I3 (fun s hs x hx=>by rw[B5,List.length_replicate];exact(h2.2 s hs).2.2.2 x hx)];omega
theorem fit_take {n:Nn}{f:Flr}{os:List Odr}{a:List Lr}{k:Nat}(ho:∀ o∈os,0≤o.amt)(h:FitC n f os a 0):FitC n f (os.take k) (a.take k) 0:=by
 obtain⟨h1,h2,h3⟩:=h.ok;have hl:=h1.1;have hg:∀ {i},i<(a.take k).length→i<a.length∧gd (a.take k) i=gd a i∧gd (os.take k) i=gd os i:=fun {i} hi=>by
  rw[List.length_take] at hi;refine⟨by omega,?_,?_⟩
  ·rw[An (by rw[List.length_take];omega),An qom,List.getElem_take]
  ·rw[An (by rw[List.length_take];omega),An qom,List.getElem_take]
 refine FitC.of ⟨by rw[List.length_take,List.length_take,hl],fun i hi=> ?_⟩ (fun i hi j hj=> ?_) fun j hj=> ?_
 ·rw[(hg hi).2.1];exact h1.2 i (hg hi).1
 ·rw[(hg hi).2.1] at hj ⊢;rw[(hg hi).2.2];exact h2 i (hg hi).1 j hj
 ·have h4:=h3 j hj;refine Int.le_trans ?_ h4;unfold ldAt;have e:os.zip (shOf a)=(os.take k).zip (shOf (a.take k))++(os.drop k).zip (shOf (a.drop k)):=by
   rw[← List.zip_append (by simp[hl])];rw[← List.map_append,List.take_append_drop,List.take_append_drop]
  rw[e,Fl];have:0≤sI ((os.drop k).zip (shOf (a.drop k))) fun x=>ordLd x.1.amt x.2 j:=by
   refine Fz fun x hx=> ?_
   obtain⟨i,hi,rfl⟩:=List.getElem_of_mem hx;rw[List.getElem_zip];have hi':i<a.length - k:=by
    have h2:i<((os.drop k).zip (shOf (a.drop k))).length:=hi;rw[List.length_zip,List.length_map,List.length_drop] at h2;omega
   have e2:(shOf (a.drop k))[i]'(by simpa using hi')=rowOf (gd a (k+i)):=by
    rw[List.getElem_map,List.getElem_drop,An qom]
   refine Fz fun s hs=> ?_
   rw[e2] at hs;obtain⟨u,hu,rfl⟩:=List.mem_map.1 hs;obtain⟨m,hm,rfl⟩:=List.getElem_of_mem hu;have h5:=((h1.2 (k+i) qom).1 m hm).1;rw[An hm] at h5;have h6:=ho _ (List.mem_of_mem_drop (List.getElem_mem (l:=os.drop k) (n:=i) (by rw[List.length_drop];omega)));exact Int.mul_nonneg (cntI_nonneg _ _) (Int.mul_nonneg h6 (by show 0≤((gd a (k+i)).l[m]).p;omega))
  omega
theorem os_take {n:Nn}{os:List Om}{os2:List Odr}(h:OsOk n os os2){k:Nat}(hk:k≤os.length):OsOk n (os.take k) (os2.take k):=by
 have hl:=h.r.len;refine⟨⟨by rw[List.length_take,List.length_take,hl],fun i hi=> ?_⟩,fun o ho=>h.ok o (List.mem_of_mem_take ho),fun o ho=>h.z o (List.mem_of_mem_take ho),by have:=h.few;rw[List.length_take];omega⟩;rw[List.length_take] at hi;have:=h.r.at' i qom;rw[An (by rw[List.length_take];omega),An (by rw[List.length_take];omega),List.getElem_take,List.getElem_take,← An qom,← An qom];exact this
theorem shf_take {a:List Lr}(h:ShF a)(k:Nat):ShF (a.take k):=⟨by have:=h.1;rw[List.length_take];omega,fun r hr=>h.2 r (List.mem_of_mem_take hr)⟩
section
variable {P:Program} {w0:World} {L:Fm} {H H':List (Nat × Obj)} {ty t e:TypeId} {x y:Operand}
theorem setL_one (l:List Value)(o:Nat)(v:Value):setL l o [v]=l.set o v:=rfl
theorem flat_setF {α:Type}{enc:α→List Value}{sz:Nat}(he:∀ x,(enc x).length=sz){l:List α}{i j:Nat}(hi:i<l.length)(hj:j<sz){v:α}{u:Value}(hv:(enc l[i]).set j u=enc v)(z:List Value):(l.flatMap enc++z).set (i*sz+j) u=(l.set i v).flatMap enc++z:=by
 have e1:l=l.take i++l[i]::l.drop (i+1):=by simp
 have e2:l.set i v=l.take i++v::l.drop (i+1):=by rw[List.set_eq_take_append_cons_drop];simp[hi]
 rw[e2]
 conv=>lhs;rw[e1]
 simp only[List.flatMap_append,List.flatMap_cons,List.append_assoc];have hl:((l.take i).flatMap enc).length=i*sz:=by rw[Ce he,List.length_take,Nat.min_eq_left qom]
 rw[List.set_append,if_neg qom,hl,show i*sz+j - i*sz=j by omega,List.set_append,if_pos (by rw[he];omega),hv]
theorem eff_sElemF {α:Type}{enc:α→List Value}{sz i j:Nat}{d:Sl}{l:List α}{u:Value}{R:List (Nat × Obj)}{F:List (Nat × Obj)→List (Nat × Obj)}(v:α)(he:∀ x,(enc x).length=sz)(hl:LocL H (slH d (l.flatMap enc) e) R F)(hx:Ev L x (.pointer (some ⟨bq (slQ d),oq (slQ d)+i*sz+j,none⟩)))(hy:Ev L y u)(hu:oneB u=true)(hz:∀ w,(sizeOf t).run P w= .ok 1 w)
  (hi:i<l.length) (hj:j<sz) (hv:(enc l[i]).set j u=enc v) (hok:SlOk d l.length sz):Eff P w0 (.store t x y) ty L H (Still undef (F (slH d ((l.set i v).flatMap enc) e))):=by
 cases d with
 |nil=>have:l.length=0:=hok;omega
 |blk n cap junk=>
  have hx':Ev L x (.pointer (some ⟨n,i*sz+j,none⟩)):=by have:=hx;simpa[slQ,bq,oq] using this
  have hle:i*sz+sz≤l.length*sz:=by rw[← Nat.succ_mul];exact Nat.mul_le_mul_right _ hi
  have h1:Eff P w0 (.store t x y) ty L (slH (.blk n cap junk) (l.flatMap enc) e++R) (Still undef (slH (.blk n cap junk) ((l.set i v).flatMap enc) e++R)):=by
   refine Fo (vs:=[u]) (l:=l.flatMap enc++junk) (t':=e) hx' hy (.one hu) (by simpa using hu) hz ?_ (by rw[List.length_append,Ce he];simp;omega);rw[setL_one,flat_setF he hi hj hv];exact .h
  refine h1.perm hl.perm.1 ?_;rintro w _ ⟨rfl,rfl⟩;exact⟨_,(hl.perm.2 _).symm,rfl,rfl⟩
end
theorem yl_subX {P:Program}{w0:World}{L:Fm}{H:List (Nat × Obj)}{ty xt yt:TypeId}{x y:Operand}{a b c:Int}(e:c=a - b)(h: -9223372036854775808≤c∧c≤9223372036854775807)(hx:Ev L x (.int .i64 a))(hy:Ev L y (.int .i64 b)):Yl P w0 (.binOp .sub xt x y yt) ty L H (.int .i64 c):=by
 subst e;exact Hz hx hy h
theorem yl_convX {P:Program}{w0:World}{L:Fm}{H:List (Nat × Obj)}{ty t1 t2:TypeId}{x:Operand}{td:TypeDesc}{a:Int}{k:IntKind}(h:0≤a∧a≤255)(hx:Ev L x (.int k a))(hs:∀ w,(underlying t1).run P w= .ok td w)(ht:∀ w,(underlying t2).run P w= .ok (.int .i64) w):Yl P w0 (.convert t1 t2 x) ty L H (.int .i64 a):=by
 have h1:=G1 (P:=P) (w0:=w0) (ty:=ty) (H:=H) hx hs ht;have e:IntKind.i64.wrap a=a:=by
  unfold IntKind.wrap IntKind.bits IntKind.signed;simp;omega
 rwa [e] at h1
theorem encNn_wide (n:Nn)(m:Int)(q:Option Addr)(c:Nat):encNn (wideN n m q c)=[.slice n.qn n.nodes.length n.cn, .slice q n.links.length c, .slice n.qe n.edges.length n.ce]:=by simp[wideN]
theorem net_wide {w0:World}{H:List (Nat × Obj)}{n:Nn}(h:NetR w0 H n){m:Int}{d:Sl}(hl:Arr w0 H (slQ d) 3 encLn (n.links.map (wideL m))):NetR w0 H (wideN n m (slQ d) (slC d)):=⟨h.nodes,hl⟩
theorem pload1_s {w0:World}{H:List (Nat × Obj)}(n:Nn)(hn:NetR w0 H n)(hnl:n.links.length≤1000000)(os:List Om)(qo:Option Addr)(co:Nat)(hO:OsM w0 H qo os)(hco:os.length≤co)(a:List Lr)(q1:Option Addr)(c1:Nat)(hA:ShM w0 H q1 a)(hc1:a.length≤c1)(hok:LdOk n.links.length os a)(i:Nat)(hi:i<a.length):
  FSpec Tryz.prog w0 24 #[.agg (encNn n).toArray, .slice (slD qo co i 6) (i+1 - i) (co - i), .slice (slD q1 c1 i 1) (i+1 - i) (c1 - i)] H (fun v H'=>∃ d:Sl,(v=slV d n.links.length∧SlOk d n.links.length 1)∧H'=slH d ((shT (List.replicate n.links.length (0:Int)) [gd os i] [gd a i] 1).flatMap encI) 3++H):=by
 have hl:=hok.len;rw[Nat.add_sub_cancel_left];have h1:=osM_take (osM_drop hO hco i) 1;have h2:=shM_take (shM_drop hA hc1 i) 1;rw[dt_one qom] at h1 h2;have h:=Jx n hn hnl [gd os i] (slD qo co i 6) (co - i) h1 [gd a i] (slD q1 c1 i 1) (c1 - i) h2 (ldOk_one hok hi);exact h
theorem pfitsW_s {w0:World}{H:List (Nat × Obj)}(n:Nn)(hn:NetR w0 H n)(hok:NnOk n)(hcap:∀ x∈n.links,0≤x.cap∧x.cap≤1048576)(f:Flr)(hf:Arr w0 H f.q 1 encI f.links)(hfl:f.links.length≤1000000)(os:List Om)(os2:List Odr)(qo:Option Addr)(co:Nat)(hO:OsM w0 H qo os)(hoo:OsOk n os os2)(a:List Lr)(q1:Option Addr)(c1:Nat)(hA:ShM w0 H q1 a)(hsf:ShF a){m:Int}(hm:0≤m)(d:Sl)(hl:Arr w0 H (slQ d) 3 encLn (wideK n.links m n.links.length))(hfit:FitC n f os2 a 0):
  FSpec Tryz.prog w0 19 #[.agg #[.slice n.qn n.nodes.length n.cn, .slice (slQ d) n.links.length (slC d), .slice n.qe n.edges.length n.ce], .agg (encFl f).toArray, .slice qo os.length co, .slice q1 a.length c1] H (Still (.int .i64 0) H):=by
 rw[wideK_end] at hl;have h:=pfits_s (wideN n m (slQ d) (slC d)) (net_wide hn hl) (wide_ok hok m _ _) (wide_cap hm hcap _ _) f hf hfl os os2 qo co hO (wide_os hoo m _ _) a q1 c1 hA hsf;rw[encNn_wide] at h;refine h.mono ?_;rintro v H' ⟨⟨c,rfl,hc⟩,rfl⟩;exact⟨by rw[hc.uniq (wide_fit hm hcap _ _ hfit)],rfl⟩
theorem pfitsT_s {w0:World}{H:List (Nat × Obj)}(n:Nn)(hn:NetR w0 H n)(hok:NnOk n)(hcap:∀ x∈n.links,0≤x.cap∧x.cap≤1048576)(f:Flr)(hf:Arr w0 H f.q 1 encI f.links)(hfl:f.links.length≤1000000)(os:List Om)(os2:List Odr)(qo:Option Addr)(co:Nat)(hO:OsM w0 H qo os)(hoo:OsOk n os os2)(a:List Lr)(q1:Option Addr)(c1:Nat)(hA:ShM w0 H q1 a)(hsf:ShF a)(k:Nat)(hk:k≤os.length)(hl:a.length=os.length)(hfit:FitC n f os2 a 0):
  FSpec Tryz.prog w0 19 #[.agg (encNn n).toArray, .agg (encFl f).toArray, .slice qo k co, .slice q1 k c1] H (Still (.int .i64 0) H):=by
 have h:=pfits_s n hn hok hcap f hf hfl (os.take k) (os2.take k) qo co (osM_take hO k) (os_take hoo hk) (a.take k) q1 c1 (shM_take hA k) (shf_take hsf k);rw[List.length_take,List.length_take,show min k os.length=k by omega,show min k a.length=k by omega] at h;refine h.mono ?_;rintro v H' ⟨⟨c,rfl,hc⟩,rfl⟩;exact⟨by rw[hc.uniq (fit_take (fun o ho=>(hoo.ok o ho).a0) hfit)],rfl⟩
theorem addit_s {w0:World}(n:Nm)(hn:NetM w0 [] n)(f:Flr)(hf:Arr w0 [] f.q 1 encI f.links)(hfl:f.links.length≤9223372036854775807)(os:List Om)(qo:Option Addr)(co:Nat)(hO:OsM w0 [] qo os)(hoz:∀ o∈os,o.m.sz≤1048576)(hco:os.length≤co)(a:List Lr)(q1:Option Addr)(c1:Nat)(hA:ShM w0 [] q1 a)(hc1:a.length≤c1)(m:Int)(hm:0≤m∧m≤255)(hW:Arr w0 [] (some ⟨0,0,none⟩) 1 encS wordsL):
  FSpec Tryz.prog w0 8 #[.agg (encNm n).toArray, .agg (encFl f).toArray, .slice qo os.length co, .slice q1 a.length c1, .int .u8 m] [] (Still (.bool true) []):=by
 refine Ao Tryz.func8 U ntmps8 U ?_;rw[← nn_enc n];refine rD tb 2 U (e_ (Lf U cs_) ?_ U);rintro _ _ ⟨n5,rfl,rfl⟩;refine e_ (Lf U cs_) ?_ U;rintro _ _ ⟨n6,rfl,rfl⟩;refine rO tb 5 U (y_ (Ay .nil call10 (fun H' hs=>sanity_s hW)) (rO tb 6 U (y_ (Lc U isAgg26 sizeOf26 U qcs) ?_ U)) U);refine y_ (Lc U isAgg29 sizeOf29 U qcs) ?_ U;refine rO tb 2 U (e_ (Ak (.cons (T U) (.cons (T U) (.cons (T U) (.cons Ap (.cons (T U) .nil))))) call26 (rrightE_s n (hn.mono sbx) f (hf.mono sbx) hfl os qo co (hO.mono sbx) hoz 6 qde a q1 c1 (hA.mono sbx))) ?_ U);rintro _ _ ⟨⟨tR,rfl,htR⟩,rfl⟩
 first|refine A5 (A9 (T U)) U Ac ?_|refine A5 (B0 (T U)) U Ac ?_
 refine rO tb 1 U ?_
 first|refine A4 (s:=27) (Aa U) (fun c27=> ?_) (fun c27=> ?_)|refine Ej (s:=27) (Aa U) (fun c27=> ?_) (fun c27=> ?_)
 ·refine rO tb 18 U (Ah U (K9 U) ?_);exact⟨_,⟨rfl,rfl⟩,sbt⟩
 ·obtain⟨hnet,os2,R⟩:=htR (by simpa using c27);have hok:=R.ok;have hcap:=R.cap;have hfl2:=R.fl;have hoo:=R.os;have hnl:=R.nl;have hos:(os.length:Int)≤6:=R.few.o;have hol:=hoo.r.len;refine A5 (Lc U isAgg26 sizeOf26 U qcs) U (Az U U (Aa U)) ?_;refine A5 (Lc U isAgg29 sizeOf29 U qcs) U (Az U U (Aa U)) ?_;refine rO tb 2 U (Aw (Ak (qe4 U U U U) call20 (rfits_s (nnOf n) (H6 (hn.mono sbx) hnet) hok hcap f (hf.mono sbx) hfl2 os os2 qo co (hO.mono sbx) hoo a _ _ (hA.mono sbx) (few_shf R.few qde))) U (Az U U (Aa U)) ?_);rintro _ _ ⟨⟨cf,rfl,hcf⟩,rfl⟩;refine rO tb 4 U ?_;refine Ad (Aa U) (fun c34=> ?_) (fun c34=> ?_)
  ·refine rC tb 8 U (Ah U (K9 U) ?_);exact⟨_,⟨rfl,rfl⟩,sbt⟩
  ·obtain rfl:cf=0:=Classical.not_not.1 c34;have hsf:=few_shf R.few qde;have hld:=J0 hoo hsf hcf.ok.1 hcf.ok.2.1;have hla:=hld.len;obtain⟨x,hx⟩:∃ x:Int,x=(os.length:Int) - 1:=⟨_,rfl⟩;refine rC tb 4 U (y_ (Lc U isAgg26 sizeOf26 U qcs) ?_ U);refine rO tb 2 U (e_ (Ak (qe3 U U U) call24 (Jx (nnOf n) (H6 (hn.mono sbx) hnet) qom os qo co (hO.mono sbx) a q1 c1 (hA.mono sbx) hld)) ?_ U);rintro _ _ ⟨dA,⟨rfl,hdA⟩,rfl⟩;refine rO tb 9 U (y_ (Lb U isAgg23 qco) ?_ U);refine rO tb 1 U (y_ (Jv (T U) (T U)) (kO tb 2 [2,3,4,5,6,11,12,45] rfl U (rG tb 10 U ?_)) U);refine Ba (X:=Nat) (V:=fun l=>[(13, .int .i64 (l:Nat))]) (C:=[(2,_),(3,_),(4,_),(5,_),(6,_),(11,_),(12,_)]) (G:=fun l=>slH dA ((shT (List.replicate (nnOf n).links.length (0:Int)) os a a.length).flatMap encI) 3++((n6,Cl (encFl f) 29)::((n5,Cl (encNn (nnOf n)) 26)::[]))) (φ:=fun l=>l≤(nnOf n).links.length) (μ:=fun l=>(nnOf n).links.length - l) (x0:=0) ?_ ⟨Aa U,Aa U,Aa U,Aa U,Aa U,Aa U,Aa U,trivial⟩ ⟨qat,trivial⟩ sb0 ?_
   ·exact Nat.zero_le _
   rintro l hl;refine rD tb 9 U ?_;refine Ad (Aa U) (fun c49=> ?_) (fun c49=> ?_)
   ·have hlN:l<(nnOf n).links.length:=by omega
    refine rC tb 16 U ?_;refine Ba (X:=Nat) (V:=fun i=>[(15, .int .i64 (i:Nat)),(14, .int .i64 (gd (shT (List.replicate (nnOf n).links.length (0:Int)) os a i) l))]) (C:=[(2,_),(3,_),(4,_),(5,_),(6,_),(11,_),(12,_),(13,_)]) (G:=fun i=>slH dA ((shT (List.replicate (nnOf n).links.length (0:Int)) os a a.length).flatMap encI) 3++((n6,Cl (encFl f) 29)::((n5,Cl (encNn (nnOf n)) 26)::[]))) (φ:=fun i=>i≤os.length) (μ:=fun i=>os.length - i) (x0:=0) ?_ ⟨Aa U,Aa U,Aa U,Aa U,Aa U,Aa U,Aa U,Aa U,trivial⟩ ⟨qat,(by first|exact Aa U|(refine Be (Aa U) (vint ?_);omega)|(refine Be (Aa U) ?_;simp;done)|(refine Be (Aa U) ?_;exact vint (by rw[hst]))|(refine Be (Aa U) ?_;exact vint (by rw[shT,Gn hlN]))),trivial⟩ sb0 ?_
    ·exact Nat.zero_le _
    rintro i hi;refine rD tb 9 U ?_;refine Ad (Aa U) (fun c55=> ?_) (fun c55=> ?_)
    ·have hio:i<os.length:=by omega
     have hil:i<a.length:=by omega
     have hr1:=shT_rng hld hlN i qom;have hr2:=shT_rng hld hlN (i+1) qom;have hst:=shT_one hld (i:=i) qom hlN;refine rC tb 5 U (Bh 11 [(0,true),(1,true),(2,true),(3,true),(4,true),(5,true),(6,true),(7,true),(8,true),(9,true),(10,true)] _ mixd qkr sb0 ?_ A8);refine o_y U (Lc U isAgg26 sizeOf26 U qcs) ?_ U Ac;refine rP tb 3 U (o_y U (Av (T U) Ap qom) ?_ U Ac);refine o_y U (yl_sliceB  (T U) (T U) (T U) runUnderlying30 sizeOf58 (by exact⟨Nat.le_succ i,Nat.le_trans (Nat.succ_le_of_lt hio) hco⟩)) ?_ U Ac;refine rP tb 3 U (o_y U (Av (T U) Ap qom) ?_ U Ac);refine o_y U (yl_sliceB  (T U) (T U) (T U) runUnderlying31 sizeOf79 (by exact⟨Nat.le_succ i,Nat.le_trans (Nat.succ_le_of_lt hil) hc1⟩)) ?_ U Ac;refine A7 U (e_ (Ak (qe3 U U U) call24 (pload1_s (nnOf n) (H6 (hn.mono sbx) hnet) qom os qo co (hO.mono sbx) hco a q1 c1 (hA.mono sbx) hc1 hld i qom)) ?_ U);rintro _ _ ⟨dB,⟨rfl,hdB⟩,rfl⟩;refine rO tb 10 U (y_ (Jv (T U) (T U)) (kO tb 2 [2,3,4,5,6,11,12,13,14,15,16,74] rfl U (rG tb 7 U (y_ (Ld U U runUnderlying27 sizeOf3 qom (by first|exact rfl|exact hdB.bas qom)) ?_ U))) U);refine y_ (Lb U isAgg3 (by first|exact c_o|exact cell1 (((Ju (w0:=w0) (enc:=encI) (sz:=1) (e:=3) (l:=(shT (List.replicate (nnOf n).links.length (0:Int)) [gd os i] [gd a i] 1)) (fun _=>rfl) (by rw[B5,List.length_replicate];exact hdB)).mono sbx).cs (i:=l) (by rw[B5,List.length_replicate];omega)))) ?_ U;refine y_ (Av (T U) (T U) qom) ?_ U;refine rO tb 6 U (y_ (Av (T U) Ap qom) ?_ U);refine rO tb 2 U ?_;refine Ar (i+1) ?_ ?_ ⟨qat,(by first|exact Aa U|(refine Be (Aa U) (vint ?_);omega)),trivial⟩ ⟨Aa U,Aa U,Aa U,Aa U,Aa U,Aa U,Aa U,Aa U,trivial⟩ ?_
     ·show i+1≤_;omega
     ·omega
     ·exact sbt
    ·obtain rfl:i=a.length:=by omega
     refine rC tb 2 U (Ag (rX tb 7 U (y_ (Ld U U runUnderlying27 sizeOf3 qom (by first|exact rfl|exact hdB.bas qom|exact hdA.bas qom)) ?_ U)));refine y_ (Lb U isAgg3 (by first|exact c_o|exact cell1 (((Ju (w0:=w0) (enc:=encI) (sz:=1) (e:=3) (l:=(shT (List.replicate (nnOf n).links.length (0:Int)) os a a.length)) (fun _=>rfl) (by rw[B5,List.length_replicate];exact hdA)).mono sbx).cs (i:=l) (by rw[B5,List.length_replicate];omega)))) ?_ U;refine y_ (Jv (T U) (T U)) (rO tb 8 U (y_ (Av (T U) Ap qom) ?_ U)) U;refine rO tb 2 U ?_;refine Ar (l+1) ?_ ?_ ⟨qat,trivial⟩ ⟨Aa U,Aa U,Aa U,Aa U,Aa U,Aa U,Aa U,trivial⟩ ?_
     ·show l+1≤_;omega
     ·omega
     ·exact sbt
   ·refine rC tb 2 U (Ag (rX tb 4 U (y_ (Lc U isAgg26 sizeOf26 U qcs) ?_ U)));refine e_ (Ai zeroValue26 cs_) ?_ U;rintro _ _ ⟨n17,rfl,rfl⟩;refine Aw (Le U U sizeOf26) U Ac ?_;rintro _ _ ⟨rfl,rfl⟩;refine rO tb 4 U (e_ (Aj .nil (zbs23_0_z)) ?_ U);rintro _ _ ⟨n88,rfl,rfl⟩;refine rO tb 1 U (y_ (Lb U isAgg23 qco) ?_ U);refine e_ (eff_appEmp ((nnOf n).links) (by':=24) (by exact rfl) (by repeat (first|exact locH1|exact LocL.h|apply LocL.t|apply LocL.a)) (T U) (T U) runUnderlying23 runUnderlying23 sizeOf61 typeInfo61 U zeroValue61 U (fun _=>rfl) (fun _=>rfl) qde qom ((H6 (hn.mono sbx) hnet).links)) ?_ U;rintro _ _ ⟨d1,rfl,hd1,rfl⟩;refine rO tb 1 U ?_
    first|refine Aw (Le U U sizeOf23) U Ac ?_|refine Aw (Bs (T U) (T U) U sizeOf23) U Ac ?_|refine Aw (Bj (T U) (T U) U sizeOf23) U Ac ?_
    rintro _ _ ⟨rfl,rfl⟩;refine rO tb 9 U ?_;refine Ba (X:=Nat) (V:=fun k=>[(18, .int .i64 (k:Nat))]) (C:=[(2,_),(3,_),(4,_),(5,_),(6,_),(11,_),(17,_)]) (G:=fun k=>slH d1 ((wideK (nnOf n).links m k).flatMap encLn) 61++((n17,Cl [.slice (nnOf n).qn (nnOf n).nodes.length (nnOf n).cn, .slice (slQ d1) (nnOf n).links.length (slC d1), .slice (nnOf n).qe (nnOf n).edges.length (nnOf n).ce] 26)::(slH dA ((shT (List.replicate (nnOf n).links.length (0:Int)) os a a.length).flatMap encI) 3++((n6,Cl (encFl f) 29)::((n5,Cl (encNn (nnOf n)) 26)::[]))))) (φ:=fun k=>k≤(nnOf n).links.length) (μ:=fun k=>(nnOf n).links.length - k) (x0:=0) ?_ ⟨Aa U,Aa U,Aa U,Aa U,Aa U,Aa U,Aa U,trivial⟩ ⟨qat,trivial⟩ (by show (slH d1 ((wideK _ m 0).flatMap encLn) 61++_).Sublist _;rw[wideK_zero];exact sbt) ?_
    ·exact Nat.zero_le _
    rintro k hk;refine rD tb 5 U (y_ (Lb U isAgg23 qco) ?_ U);refine rO tb 4 U ?_;refine Ad (Aa U) (fun c97=> ?_) (fun c97=> ?_)
    ·have hkl:k<(nnOf n).links.length:=by omega
     have hck:=hcap _ (Af hkl);have hgc:(gd (wideK (nnOf n).links m k) k).cap=(gd (nnOf n).links k).cap:=by rw[wideK_gd hkl]
     refine rC tb 4 U (Bh 15 [(0,true),(1,true),(2,true),(3,true),(4,true),(5,true),(6,true),(7,true),(8,true),(9,true),(10,true),(11,true),(12,true),(13,true),(14,true)] _ mixd qkr sb0 ?_ A8);refine rP tb 1 U (o_y U (Lb U isAgg23 qco) ?_ U Ac);refine rP tb 2 U (o_y U (Lb U isAgg23 qco) ?_ U Ac);refine rP tb 1 U (o_y U (Ld U U runUnderlying23 sizeOf61 qom (by first|exact rfl|exact hdB.bas qom|exact hdA.bas qom|exact hd1.bas qom)) ?_ U Ac);refine rP tb 1 U (o_y U (Lb U isAgg3 (by first|exact c_o|exact(((Ju (w0:=w0) (enc:=encLn) (sz:=3) (e:=61) (l:=(wideK (nnOf n).links m k)) (fun _=>rfl) (by rw[Eu];exact hd1))).mono sbx).f (i:=k) (j:=2) (by rw[Eu];omega) U)) ?_ U Ac);refine rP tb 1 U (o_y U (yl_convX hm (T U) runUnderlying5 runUnderlying3) (o_y U (Av (T U) (T U) qom) ?_ U Ac) U Ac);refine o_y U (yl_min Ap (T U)) (o_y U (Ld U U runUnderlying23 sizeOf61 qom (by first|exact rfl|exact hdB.bas qom|exact hdA.bas qom|exact hd1.bas qom)) ?_ U Ac) U Ac;refine rP tb 1 U (A7 U (e_ (eff_sElemF (l:=(wideK (nnOf n).links m k)) (e:=61) (enc:=encLn) (sz:=3) (i:=k) (j:=2) (wideL m (gd (nnOf n).links k)) (fun _=>rfl) qlc (T U) (T U) U sizeOf3 (by rw[Eu];omega) qde (by rw[← An (by rw[Eu];omega),wideK_gd qom];rfl) (by rw[Eu];exact hd1)) ?_ U));rintro _ _ ⟨rfl,rfl⟩;rw[wideK_set qom];refine rO tb 5 U (y_ (Av (T U) Ap qom) ?_ U);refine rO tb 2 U ?_;refine Ar (k+1) ?_ ?_ ⟨qat,trivial⟩ ⟨Aa U,Aa U,Aa U,Aa U,Aa U,Aa U,Aa U,trivial⟩ ?_
     ·show k+1≤_;omega
     ·omega
     ·exact sbt
    ·obtain rfl:k=(nnOf n).links.length:=by omega
     refine rC tb 2 U (Ag (rX tb 5 U (y_ (Lc U isAgg26 sizeOf26 U qcs) ?_ U)));refine y_ (Lc U isAgg29 sizeOf29 U qcs) ?_ U;refine rO tb 2 U (e_ (Ak (qe4 U U U U) call19 (pfitsW_s (nnOf n) (H6 (hn.mono sbx) hnet) hok hcap f (hf.mono sbx) hfl2 os os2 qo co (hO.mono sbx) hoo a q1 c1 (hA.mono sbx) hsf hm.1 d1 ((Ju (w0:=w0) (d:=d1) (enc:=encLn) (sz:=3) (e:=61) (fun _=>rfl) (by rw[Eu];exact hd1)).mono sbx) hcf)) ?_ U);rintro _ _ ⟨rfl,rfl⟩;refine y_ (Jv (T U) Ap) (rO tb 9 U (y_ (yl_subX hx qom (T U) Ap) ?_ U)) U;refine rO tb 4 U (Bh 13 [(0,true),(1,true),(2,true),(3,true),(4,true),(5,true),(6,true),(7,true),(8,true),(9,true),(10,true),(11,true),(12,true)] _ mixd qkr sb0 ?_ A8);refine rP tb 5 U ?_;refine Cd (s:=128) (Aa U) (fun c128=> ?_) (fun c128=> ?_)
     ·refine rP tb 8 U (A7 U (kO tb 7 [10] rfl U (rG tb 1 U (Ah U (K9 U) ?_))));exact⟨_,⟨rfl,rfl⟩,sbt⟩
     ·obtain⟨k,rfl⟩:∃ k:Nat,x=k:=⟨x.toNat,by omega⟩;refine o_y U (Lc U isAgg26 sizeOf26 U qcs) ?_ U (Az U U (Aa U));refine o_y U (Lc U isAgg29 sizeOf29 U qcs) ?_ U (Az U U (Aa U));refine rP tb 2 U (o_y U (Cr  (T U) (T U) runUnderlying30 sizeOf58 qom) ?_ U (Az U U (Aa U)));refine rP tb 2 U (o_y U (Cr  (T U) (T U) runUnderlying31 sizeOf79 qom) ?_ U (Az U U (Aa U)));refine A7 U (Aw (Ak (qe4 U U U U) call19 (pfitsT_s (nnOf n) (H6 (hn.mono sbx) hnet) hok hcap f (hf.mono sbx) hfl2 os os2 qo co (hO.mono sbx) hoo a q1 c1 (hA.mono sbx) hsf k qom hla hcf)) U (Az U U (Aa U)) ?_);rintro _ _ ⟨rfl,rfl⟩;refine A5 (yl_eqls (T U) Ap) U (Az U U (Aa U)) (kO tb 5 [10] rfl U (rG tb 1 U (Ah U (K9 U) ?_)));exact⟨_,⟨rfl,rfl⟩,sbt⟩
end Go.Proofs.YtpkijiejccngcaaGreatDoor
namespace Go.Proofs.YtpkijiejccngcaaGreatDoor
open _root_.Go.Proofs.Tryz
open Go.ChangeShapes Go.WideShapes Go.ChangeAt Go.RowKit Go.Joins Go.Deep
set_option linter.unusedVariables false
set_option linter.unusedSimpArgs false
set_option linter.unusedSectionVars false
set_option maxRecDepth 100000
theorem cells58o:Tryz.prog.cellsOf 58=6:=by kernel_rfl
theorem cells77:Tryz.prog.cellsOf 77=2:=by kernel_rfl
theorem cells79:Tryz.prog.cellsOf 79=1:=by kernel_rfl
section
variable {H:Type} {enc:TypeId × Value→H} {W:World} {b0 n:Nat} {sp1:Nat→Bool} {held:Bool} {y:DataW H × List MemPlace} {cs:List Value}
theorem rd_order (h:DataW.trod enc Tryz.prog W b0 sp1 held n 58 cs=some y):∃ u:Om,cs=encOm u∧RxM W [] u.m∧u.m.sz≤Rows.uptoBulk y.1:=by
 obtain⟨xs,m,rfl,hx,hlen,hxl,hall⟩:=DataW.trod_struct underlying58 h;rw[cells58o] at hlen
 match xs,hxl,cs,hlen with
 |[x0,x1,x2,x3],_,[c0,c1,c2,c3,c4,c5],_=>
  have f0:DataW.trod enc Tryz.prog W b0 sp1 held m 3 [c0]=some x0:=by have:=hall 0 _ rfl;simpa[cells3] using this
  have f1:DataW.trod enc Tryz.prog W b0 sp1 held m 3 [c1]=some x1:=by have:=hall 1 _ rfl;simpa[cells3] using this
  have f2:DataW.trod enc Tryz.prog W b0 sp1 held m 3 [c2]=some x2:=by have:=hall 2 _ rfl;simpa[cells3] using this
  have f3:DataW.trod enc Tryz.prog W b0 sp1 held m 56 [c3,c4,c5]=some x3:=by have:=hall 3 _ rfl;simpa[cells24] using this
  have hb:Rows.uptoBulk x3.1≤Rows.uptoBulk y.1:=by
   rw[hx];simp only[Rows.uptoBulk,Rows.uptoBulkAll,List.map_cons,List.map_nil];omega
  obtain⟨a0,rfl,_⟩:=Ei f0;obtain⟨a1,rfl,_⟩:=Ei f1;obtain⟨a2,rfl,_⟩:=Ei f2;obtain⟨u,e,hu,hz⟩:=rd_rx _ (Nat.le_refl _) f3;exact⟨⟨a0,a1,a2,u⟩,by rw[e];rfl,hu,by show u.sz≤_;omega⟩
theorem rd_lane (h:DataW.trod enc Tryz.prog W b0 sp1 held n 77 cs=some y):∃ u:Lm,cs=encLm u∧LmM W [] u:=by
 obtain⟨xs,m,rfl,hx,hlen,hxl,hall⟩:=DataW.trod_struct underlying77 h;rw[cells77] at hlen
 match xs,hxl,cs,hlen with
 |[x0,x1],_,[c0,c1],_=>
  have f0:DataW.trod enc Tryz.prog W b0 sp1 held m 27 [c0]=some x0:=by have:=hall 0 _ rfl;simpa[cells42] using this
  have f1:DataW.trod enc Tryz.prog W b0 sp1 held m 3 [c1]=some x1:=by have:=hall 1 _ rfl;simpa[cells3] using this
  obtain⟨q,l,cap,e,a,_,b,_,_⟩:=rd_ints f0;obtain⟨k,rfl,_⟩:=Ei f1;simp at e;exact⟨⟨q,cap,l,k⟩,by rw[e],a,b⟩
theorem rd_row (h:DataW.trod enc Tryz.prog W b0 sp1 held n 79 cs=some y):∃ u:Lr,cs=encLr u∧LrM W [] u∧u.l.length≤Rows.uptoBulk y.1:=by
 obtain⟨q,l,cap,e,a,c,b,f,s⟩:=Ec (el:=encLm) (φ:=LmM W []) (szf:=fun _=>1) underlying79 cells77 qom (fun n cs y _ h=>by obtain⟨u,h1,h2⟩:=rd_lane h;exact⟨u,h1,h2,I6 _⟩) h;rw[sum_len] at s;exact⟨⟨q,cap,l⟩,e,⟨a,b,f⟩,by show l.length≤_;omega⟩
theorem open_orders {base:Nat}{r:_root_.Go.Reach}{v:Value}{d:DataW H}{p:List MemPlace}(hv:Value.okWide Tryz.prog W r base 30 v)(h:DataW.Trod enc Tryz.prog W b0 sp1 held 30 v d p)(hb:Rows.uptoBulk d≤1048576):∃ (q:Option Addr) (l:List Om) (cap:Nat),v= .slice q l.length cap∧OsM W [] q l∧l.length≤cap∧∀ o∈l,o.m.sz≤1048576:=by
 obtain⟨a0,len0,cap0,rfl⟩:=okWide_slice underlying30 hv;obtain⟨fuel,hf⟩:=h;obtain⟨q,l,cap,e,a,c,b,f,s⟩:=Ec (el:=encOm) (φ:=fun u=>RxM W [] u.m) (szf:=fun u=>u.m.sz) underlying30 cells58o qom (fun n cs y _ h=>by obtain⟨u,h1,h2,h3⟩:=rd_order h;exact⟨u,h1,h2,h3⟩) hf;simp only[Value.cells,List.cons.injEq,and_true] at e;exact⟨q,l,cap,e,⟨a,b,f⟩,c,fun o ho=>by have:=sum_mem (f:=fun u:Om=>u.m.sz) ho;simp only[] at this s;omega⟩
theorem open_shares {base:Nat}{r:_root_.Go.Reach}{v:Value}{d:DataW H}{p:List MemPlace}(hv:Value.okWide Tryz.prog W r base 31 v)(h:DataW.Trod enc Tryz.prog W b0 sp1 held 31 v d p)(hb:Rows.uptoBulk d≤1048576):∃ (q:Option Addr) (l:List Lr) (cap:Nat),v= .slice q l.length cap∧ShM W [] q l∧l.length≤cap∧∀ x∈l,x.l.length≤1048576:=by
 obtain⟨a0,len0,cap0,rfl⟩:=okWide_slice underlying31 hv;obtain⟨fuel,hf⟩:=h;obtain⟨q,l,cap,e,a,c,b,f,s⟩:=Ec (el:=encLr) (φ:=LrM W []) (szf:=fun u=>u.l.length) underlying31 cells79 qom (fun n cs y _ h=>by obtain⟨u,h1,h2,h3⟩:=rd_row h;exact⟨u,h1,h2,h3⟩) hf;simp only[Value.cells,List.cons.injEq,and_true] at e;exact⟨q,l,cap,e,⟨a,b,f⟩,c,fun o ho=>by have:=sum_mem (f:=fun u:Lr=>u.l.length) ho;simp only[] at this s;omega⟩
theorem open_u8 {base:Nat}{r:_root_.Go.Reach}{v:Value}{d:DataW H}{p:List MemPlace}(hv:Value.okWide Tryz.prog W r base 5 v)(h:DataW.Trod enc Tryz.prog W b0 sp1 held 5 v d p):∃ a:Int,v= .int .u8 a∧0≤a∧a≤255:=by
 obtain⟨a,rfl,_,_,w⟩:=open_int underlying5 hv h;have:=bounds_u8 w;exact⟨a,rfl,this⟩
theorem words_laid:(Rows.laid_interlace_token_words:DataW Unit)= .agg (wordsL.map fun s=> .lit (.string s.data.toList)):=by kernel_rfl
theorem words_arr (hl:laidMetH Tryz.prog [("interlace/token.words",Rows.laid_interlace_token_words)] W):Arr W [] (some ⟨0,0,none⟩) 1 encS wordsL:=by
 rw[MakeChecks.laidMetH_plain _ _ _ qkr] at hl;obtain⟨ps,⟨g,t,cs,fuel,p,q,hg,ht,hv,hd,_,_⟩,_,_⟩:=hl;obtain rfl:=Option.some.inj ((show Tryz.prog.globalNamed "interlace/token.words" =some 0 by kernel_rfl).symm.trans hg);obtain rfl:=Option.some.inj ((show (Tryz.prog.globals[0]?).map (·.type)=some 252 by kernel_rfl).symm.trans ht);obtain⟨xs,m,_,ex,_,hln,hel⟩:=DataW.trod_array underlying252 hd;rw[words_laid] at ex;have e3:(xs.map (·.1))=wordsL.map fun s=>(DataW.lit (.string s.data.toList):DataW Unit):=(DataW.agg.inj (Prod.mk.inj ex).1).symm
 intro r x hx;have hr:r<49:=(List.getElem?_eq_some_iff.1 hx).1;have hE:=hel r hr;rw[cells9,Nat.mul_one,List.getElem?_eq_getElem qom] at hE;obtain⟨z,e1,e2,_⟩:=DataW.trod_string underlying9 hE;have e4:(xs.map (·.1))[r]? =(wordsL.map fun s=>(DataW.lit (.string s.data.toList):DataW Unit))[r]? :=by rw[e3]
 rw[List.getElem?_map,List.getElem?_map,List.getElem?_eq_getElem (by omega:r<xs.length),hx,e2] at e4;simp only[Option.map_some,Option.some.injEq,DataW.lit.injEq,Lit.string.injEq] at e4;have hz:z=x:=ByteArray.ext (Array.ext' e4);subst hz;refine⟨rfl,fun j v hj=> ?_⟩
 match j,hj with
 |0,hj=>
  obtain rfl:Value.string z=v:=Option.some.inj hj;refine cell_arg ?_;show W.cell? ⟨0,0+r*1+0,none⟩=_;rw[show 0+r*1+0=r by omega,World.var?_cell hg hv r];have:cs.toList[r]? =some (.string z):=by
   have h0:((cs.toList.drop r).take 1)[0]? =some (.string z):=by rw[e1];rfl
   simpa using h0
  simpa using this
end
end Go.Proofs.YtpkijiejccngcaaGreatDoor
namespace Go.Proofs.YtpkijiejccngcaaGreatDoor
open _root_.Go.Proofs.Tryz
open Go.ChangeShapes Go.WideShapes Go.ChangeAt Go.RowKit Go.Joins
set_option linter.unusedVariables false
set_option linter.unusedSimpArgs false
set_option linter.unusedSectionVars false
set_option maxRecDepth 100000
section
variable {H:Type} {enc:TypeId × Value→H} {W:World}
theorem laid_out:laidOutB Tryz.prog=true:=by kernel_rfl
theorem trodAll_stays:∀ {ts:List TypeId} {vs:List Value} {ds:List (DataW H)} {ps:List MemPlace} {W':World},(∀ t∈ts,Tryz.prog.readableRec t=true∧t<Tryz.prog.types.size)→DataW.TrodAll enc Tryz.prog W 0 (fun _=>true) true ts vs ds ps→Below W.heap.size W W'→(∀ x∈ps,x.block<W.heap.size)→
  DataW.TrodAll enc Tryz.prog W' 0 (fun b=>decide (b<W.heap.size)) true ts vs ds ps
 |[],_,_,_,_,_,h,_,_=>by obtain⟨rfl,rfl,rfl⟩:=trodAll_nil h;exact trodAll_mk0
 |t::ts,_,_,_,_,hr,h,hb,hlt=>by
  obtain⟨v,vs,d,ds,p,q,rfl,rfl,rfl,h0,r0⟩:=trodAll_cons h;exact trodAll_cons_mk (Below.trod laid_out (hr t (by simp)).1 (hr t (by simp)).2 h0 hb (fun x hx=>hlt x (by simp[hx]))) (trodAll_stays (fun t ht=>hr t (by simp[ht])) r0 hb (fun x hx=>hlt x (by simp[hx])))
end
theorem calls_true {f:FuncId}{args:Array Value}{W:World}(h:FSpec Tryz.prog W f args [] (Still (.bool true) [])):Calls Tryz.prog f args W fun e W'=>e= .returned (.bool true)∧Below W.heap.size W W':=
 (h W (Own.start W)).mono fun e W' ⟨v,H',he,hO,hv,_⟩=>⟨by rw[he,hv],hO.below⟩
def tabW:Array Value:=(wordsL.map fun s=>Value.string s).toArray
def layObj (a:Array Value):Obj→Obj
 | .cells _ t frozen=> .cells a t frozen
 |o=>o
noncomputable def laidWorld (os:Os):World:=
 {World.holding Tryz.prog os ⟨#[],#[],[]⟩ with heap:=(World.holding Tryz.prog os ⟨#[],#[],[]⟩).heap.modify 0 (layObj tabW)}
end Go.Proofs.YtpkijiejccngcaaGreatDoor
