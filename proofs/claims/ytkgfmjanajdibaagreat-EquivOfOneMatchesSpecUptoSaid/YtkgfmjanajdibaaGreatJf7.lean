/-
  A part of what LawF rests on: the logic, walks and plain laws. No condition.
-/
import Derived.Test.YtkgfmjanajdibaaGreatJf6
import Derived.Deep.DeepHandedRow
namespace Go.Proofs.YtkgfmjanajdibaaGreat
open _root_.Go.Proofs.Tryz
open Go.RowKit
set_option linter.unusedVariables false
set_option linter.unusedSimpArgs false
set_option linter.unusedSectionVars false
set_option maxRecDepth 100000
theorem ybs79_1_0 (a0:Option Addr)(a0n a0c:Nat)(w:World):(Instr.buildSlice 79 1 #[(0, .slice a0 a0n a0c)]).run Tryz.prog w= .ok (.slice (some ⟨w.heap.size,0,none⟩) 1 1) (w.alloc (Cl [.slice a0 a0n a0c] 58)):=by kernel_rfl
structure Gvh where
 l:List Hd
 q:Option Addr
 c:Nat
instance:Inhabited Gvh:=⟨⟨[],none,0⟩⟩
abbrev encGvh (g:Gvh):List Value:=[.slice g.q g.l.length g.c]
theorem gv_noi (L:List Gvh):∀ v∈L.flatMap encGvh,NoI v:=fun v hv=>by
 obtain⟨g,_,h⟩:=List.mem_flatMap.1 hv;rw[List.mem_singleton.1 h];intro k i e;cases e
theorem z58_noi:∀ v∈(Value.slice none 0 0).cells,NoI v:=fun v hv=>by
 have:v= .slice none 0 0:=by simpa[Value.cells] using hv
 subst this;intro k i e;cases e
theorem SetIs.mono {w0:World}{P:Hd→Prop}{H H':Mm}{l:List Hd}{q:Option Addr}{c:Nat}(h:SetIs w0 P H l q c)(hs:H.Sublist H'):SetIs w0 P H' l q c:=⟨h.1.mono hs,h.2⟩
structure GivA (w0:World) (H:Mm) (D:Hd→Hd→Prop) (hs:List Hd) (L:List Gvh) (q:Option Addr):Prop where
 len:L.length=hs.length
 arr:Arr w0 H q 1 encGvh L
 set:∀ k,k<hs.length→SetIs w0 (D (gd hs k)) H (gd L k).l (gd L k).q (gd L k).c
theorem GivA.mono {w0:World}{H H':Mm}{D:Hd→Hd→Prop}{hs:List Hd}{L:List Gvh}{q:Option Addr}(h:GivA w0 H D hs L q)(s:H.Sublist H'):GivA w0 H' D hs L q:=⟨h.len,h.arr.mono s,fun k hk=>(h.set k hk).mono s⟩
abbrev GivK (w0:World) (D:Hd→Hd→Prop) (hs:List Hd) (H:Mm):Value→Mm→Prop:=fun u H'=>∃ (L:List Gvh) (q:Option Addr) (c:Nat) (b:Bool),(u= .tuple #[.slice q L.length c, .bool b]∧(b=true→GivA w0 H' D hs L q))∧H.Sublist H'
theorem gv_next {w0:World}{H H':Mm}{D:Hd→Hd→Prop}{hs:List Hd}{L:List Gvh}{i:Nat}{g:Gvh}(hl:L.length=i)(hi:∀ k,k<i→SetIs w0 (D (gd hs k)) H (gd L k).l (gd L k).q (gd L k).c)(hs':H.Sublist H')(h:SetIs w0 (D (gd hs i)) H' g.l g.q g.c):∀ k,k<i+1→SetIs w0 (D (gd hs k)) H' (gd (L++[g]) k).l (gd (L++[g]) k).q (gd (L++[g]) k).c:=fun k hk=>by
 by_cases e:k=i
 ·subst e;subst hl;have:gd (L++[g]) L.length=g:=by rw[As (by simp)];simp
  rw[this];exact h
 ·have:gd (L++[g]) k=gd L k:=by
   rw[As (by simp;omega),As (show k<L.length by omega),List.getElem_append_left qom]
  rw[this];exact(hi k qom).mono hs'
theorem rgiven_s {w0:World}{H:Mm}{fl:List Fd}(hfl:FlOk fl)(q:Option Addr)(c:Nat)(hA:Arr w0 H q 3 encF fl)(tick:Int){m:Pom}{p:Po}(hI:IsO fl m p)(hFt:p.Fit (bsF fl))(hM:PoM w0 H m)(hm:m.sz≤100000000)(hs:List Hd)(qh:Option Addr)(ch:Nat)(hB:HsA w0 H hs qh ch)(hl5:hs.length≤500):
  FSpec Tryz.prog w0 51 #[.slice q fl.length c, .agg (encPo m).toArray, .slice qh hs.length ch,Vi tick] H (GivK w0 (den tick p) hs H):=by
 refine An Tryz.func51 U ntmps51 U (rD tb 2 U (e_ (N8 U cs_) ?_ U));rintro _ _ ⟨n5,rfl,rfl⟩;refine rO tb 16 U ?_;refine A8 (X:=Nat × Sl × List Gvh × Mm) (V:=fun ⟨i,d,L,A⟩=>[(10,slV d L.length),(11,Vi (i:Nat))]) (C:=[(0,_),(2,_),(3,_),(5,_)]) (G:=fun ⟨i,d,L,A⟩=>A++(slH d (L.flatMap encGvh) 58++((n5,Cl (encPo m) 28)::H))) (φ:=fun ⟨i,d,L,A⟩=>i≤hs.length∧SlOk d L.length 1∧SlP NoI d∧L.length=i∧∀ k,k<i→SetIs w0 (den tick p (gd hs k)) (A++((n5,Cl (encPo m) 28)::H)) (gd L k).l (gd L k).q (gd L k).c) (μ:=fun ⟨i,d,L,A⟩=>hs.length - i) (x0:=(0, .nil,[],[])) ?_ ⟨Aa rfl,Aa rfl,Aa rfl,Aa rfl,trivial⟩ ⟨qat,qat,trivial⟩ (by exact List.Sublist.refl _) ?_
 ·exact⟨Nat.zero_le _,rfl,trivial,rfl,fun k hk=>absurd hk (Nat.not_lt_zero _)⟩
 rintro⟨i,d,L,A⟩ ⟨hi,hd,hp,hL,hS⟩;refine rD tb 9 U ?_;refine Ae (Aa U) (fun c17=> ?_) (fun c17=> ?_)
 ·have hi2:i<hs.length:=by have h9:((i:Nat):Int)<(hs.length:Nat):=c17;omega
  refine rC tb 5 U (Bf 13 [(0,true),(1,true),(2,true),(3,true),(4,true),(5,true),(6,true),(7,false),(8,true),(9,true),(10,true),(11,true),(12,true)] _ mixd qkr sb0 ?_ Bi);refine rP tb 1 U (o_y U (N5 U isAgg28 sizeOf28 U (by exact Af (by exact Lw (Lw Bv):Fnd _ n5 (Cl (encPo m) 28)))) ?_ U Ad);refine rP tb 2 U (o_y U (N6 U U runUnderlying58 sizeOf32 qom (by first|exact rfl|exact hB.1.b (i:=i) hi2)) ?_ U Ad);refine o_y U (N5 U isAgg32 sizeOf32 (Ag (hB.ok hi2)) (by exact((hB.mono (show H.Sublist (A++(slH d (L.flatMap encGvh) 58++((n5,Cl (encPo m) 28)::H))) by exact sbt)).hd).cs (i:=i) hi2)) ?_ U Ad;refine rP tb 1 U (o_e U (Aj (qe4 U U U U) call35 (set_frame (gv_noi L) hp (fun w1 hO=>rev_s hfl _ hm ((hA.mono (show H.Sublist (A++(slH d (L.flatMap encGvh) 58++((n5,Cl (encPo m) 28)::H))) by exact sbt)).base hO) ((hM.mono (show H.Sublist (A++(slH d (L.flatMap encGvh) 58++((n5,Cl (encPo m) 28)::H))) by exact sbt)).base hO) (Nat.le_refl _) hI hFt (hB.ok hi2)))) ?_ U Ad);rintro _ _ ⟨l3,q3,c3,e3,X,⟨rfl,hz3,g3, -⟩,rfl⟩;refine⟨sbt,(rP tb 5 U (Ax U (rO tb 9 U ?_)))⟩;refine Ae (Aa U) (fun c32=> ?_) (fun c32=> ?_)
  ·skip
   refine rC tb 10 U (Bb (rX tb 2 U (Ai U (.tmp (Aa U) (N3 U)) ?_)));exact⟨_,⟨[],none,0,false,⟨rfl,fun h=>(Bool.false_ne_true h).elim⟩,(show H.Sublist (A++(slH d (L.flatMap encGvh) 58++((n5,Cl (encPo m) 28)::H))) by exact sbt).trans (List.sublist_append_right _ _)⟩,sb0⟩
  ·have hz4:=hz3 (by simpa using c32);refine rC tb 5 U (e_ (A7 (.cons (T U) .nil) (ybs79_1_0 _ _ _)) ?_ U);rintro _ _ ⟨n35,rfl,rfl⟩;refine e_ (eff_app1P_at (p:=NoI) (enc:=encGvh) (d:=d) (l:=L) ⟨l3,q3,c3⟩ (by':=24) locq (T U) (T U) runUnderlying79 runUnderlying79 sizeOf58 typeInfo58 U zeroValue58 U (fun _=>rfl) U hd hp z58_noi qde qom) ?_ U;rintro _ _ ⟨d2,rfl,hd2,hp2,rfl⟩;rw[show L.length+1=(L++[(⟨l3,q3,c3⟩:Gvh)]).length from (by simp)] at hd2 ⊢;refine kO tb 4 [0,2,3,5,10,11] rfl U (rG tb 2 U (y_ (Ay (T U) Al qom) ?_ U));refine rO tb 2 U ?_;refine Av ((i+1,d2,L++[⟨l3,q3,c3⟩],X++A)) ?_ ?_ ⟨qat,qat,trivial⟩ ⟨Aa U,Aa U,Aa U,Aa U,trivial⟩ ?_
   ·exact⟨hi2,hd2,hp2,by rw[List.length_append,hL];rfl,gv_next hL hS (by rw[List.append_assoc];exact List.sublist_append_right _ _) (by rw[List.append_assoc];exact hz4)⟩
   ·first|omega|(simp only[];omega)
   ·dsimp only;rw[List.append_assoc];exact List.sublist_cons_self _ _
 ·obtain rfl:i=hs.length:=by have h9: ¬ ((i:Nat):Int)<(hs.length:Nat):=c17;omega
  refine rC tb 2 U (Ao (rX tb 10 U (Ai U (.tmp (Aa U) (N3 U)) ?_)));exact⟨_,⟨L,slQ d,slC d,true,⟨rfl,fun _=>⟨hL,(B7 (enc:=encGvh) (X:=((n5,Cl (encPo m) 28)::H)) (fun _=>rfl) hd).mono (List.sublist_append_right _ _),fun k hk=>(hS k hk).mono ((List.Sublist.refl A).append (List.sublist_append_right _ _))⟩⟩,(show H.Sublist (A++(slH d (L.flatMap encGvh) 58++((n5,Cl (encPo m) 28)::H))) by exact sbt)⟩,sb0⟩
theorem setL_mid:∀ (pre l post vs:List Value),l.length=vs.length→setL (pre++(l++post)) pre.length vs=pre++(vs++post):=by
 intro pre l post vs
 induction vs generalizing pre l with
 |nil=>intro h;have:l=[]:=List.eq_nil_of_length_eq_zero h;simp[setL,this]
 |cons v vs ih=>
  intro h;cases l with
  |nil=>simp at h
  |cons y l=>
   rw[setL];have e3:(pre++(y::l++post)).set pre.length v=(pre++[v])++(l++post):=by simp
   rw[e3];have:=ih (pre++[v]) l (by simpa using h);simp only[List.length_append,List.length_cons,List.length_nil,Nat.zero_add] at this;rw[this];simp
theorem Hr {P:Program}{w0:World}{L:Fm}{H:Mm}{ty t:TypeId}{x y:Operand}{n o m:Nat}{v:Value}{vs pre l post:List Value}{t':TypeId}{H':Mm}(ho:o=pre.length)(hx:Ev L x (Pt n o))(hy:Ev L y v)(hz:∀ w,(sizeOf t).run P w= .ok m w)(hc:Cs v vs)(hv:vs.all oneB=true)(hm:vs.length=m)
  (hu:Upd H n (Cl (pre++(l++post)) t') (Cl (pre++(vs++post)) t') H') (hl:l.length=vs.length):Eff P w0 (.store t x y) ty L H (Still undef H'):=
 Ic hx hy hc hv (by rw[hm];exact hz) (by rw[ho,setL_mid pre l post vs hl];exact hu) (by rw[ho,List.length_append,List.length_append];omega)
def ansC (kn:Bool) (h:Hd) (is:Bool):List Value:=[.bool kn]++(hdC h++[.bool is])
theorem B1 {kn is:Bool}{h:Hd}(hh:HdOk h):(ansC kn h is).length=12:=by unfold ansC;simp[Ag hh]
theorem Ek (kn:Bool)(h:Hd)(is:Bool):(ansC kn h is).all oneB=true:=by
 unfold ansC;rw[List.all_append,List.all_append,Be];rfl
section
variable {w0:World} {H:Mm} {n:Nat} {t:TypeId} {kn is:Bool} {h:Hd}
theorem ans_hd (hf:Fnd H n (Cl (ansC kn h is) t)):Cells w0 H n (0+1) (hdC h):=fun i v hi=>by
 have:=Af (w0:=w0) hf (1+i) v (by unfold ansC;rw[show 1+i=i+1 by omega];show (hdC h++[Value.bool is])[i]? =some v;rw[List.getElem?_append_left (List.getElem?_eq_some_iff.1 hi).1];exact hi)
 rwa [← Nat.add_assoc] at this
theorem ans_is (hh:HdOk h)(hf:Fnd H n (Cl (ansC kn h is) t)):Cell w0 H ⟨n,0+11,none⟩ (.bool is):=Af (w0:=w0) hf 11 (.bool is) (by
 unfold ansC;show (hdC h++[Value.bool is])[10]? =some (.bool is);rw[List.getElem?_append_right (by rw[Ag hh];omega),Ag hh];rfl)
end
theorem rles_s {w0:World}{H:Mm}(kn:Bool)(h:Hd)(hh:HdOk h)(is:Bool)(x:Hd)(hx:HdOk x):
  FSpec Tryz.prog w0 53 #[.agg (ansC kn h is).toArray, .agg (hdC x).toArray] H (Still (.agg (ansC kn (lesH h is x) (lesI h is x)).toArray) H):=by
 refine An Tryz.func53 U ntmps53 U ?_;have hlo:=Mn (is:=is) hh hx;refine rD tb 2 U (e_ (N8 U cs_) ?_ U);rintro _ _ ⟨n2,rfl,rfl⟩;refine e_ (N8 U cs_) ?_ U;rintro _ _ ⟨n3,rfl,rfl⟩;refine e_ (Ah zeroValue38 cs_) ?_ U;rintro _ _ ⟨n4,rfl,rfl⟩;refine rO tb 6 U ?_;refine y_ (N4 U isAgg4 (by first|exact c_o|exact ans_is hh fndq)) ?_ U;refine rO tb 1 U ?_
 first|refine Ar (s:=7) (Aa U) (fun c7=> ?_) (fun c7=> ?_)|refine C4 (s:=7) (Aa U) (fun c7=> ?_) (fun c7=> ?_)
 ·have ho9:=hx;have hb9:lesB h is x=true:=by simp[lesB,c7]
  refine rO tb 11 U ?_;refine y_ (N5 U isAgg32 sizeOf32 (Ag hx) (by exact Af fndq)) ?_ U;refine rO tb 1 U (e_ (Hr (pre:=[.bool kn]) (l:=hdC h) (post:=[.bool is]) U (T U) (T U) sizeOf32 .agg (Be _) (Ag hx) updq (by rw[Ag hh,Ag hx])) ?_ U);rintro _ _ ⟨rfl,rfl⟩;refine rO tb 4 U (e_ (Hr (pre:=[.bool kn]++hdC x) (l:=[.bool is]) (post:=[]) (by rw[List.length_append,Ag hx];rfl) (T U) Al sizeOf4 (.one U) U U updq U) ?_ U);rintro _ _ ⟨rfl,rfl⟩;rw[show ([Value.bool kn]++hdC x)++([Value.bool false]++[])=ansC kn x false from (by unfold ansC;rw[List.append_nil,List.append_assoc])];refine rO tb 4 U ?_;refine y_ (N5 U isAgg38 sizeOf38 (B1 ho9) (by exact Af fndq)) ?_ U;refine e_ (N7 U U sizeOf38 .agg (Ek _ _ _) (B1 ho9) updq (by rw[B1 ho9];rfl)) ?_ U;rintro _ _ ⟨rfl,rfl⟩;refine rO tb 3 U (Ai U (.cellA (Aa U) isAgg38 sizeOf38 (B1 ho9) qcs .nil) ?_);refine⟨_,⟨?_,rfl⟩,by exact sbt⟩;unfold lesH lesI
  (rw[if_pos hb9,if_pos hb9];rfl)
 ·skip
  refine A4 (N5 U isAgg32 sizeOf32 (Ag hx) (by exact Af fndq)) U (A5 U U (Aa U)) ?_;refine rO tb 1 U ?_;refine A4 (N5 U isAgg32 sizeOf32 (Ag hh) (by exact ans_hd (kn:=kn) (is:=is) fndq)) U (A5 U U (Aa U)) ?_;refine A4 (Aq (qe2 U U) call30 (fun H' hs=>cmp18_s x h hx hh)) U (A5 U U (Aa U)) (rO tb 4 U ?_);refine Ae (Aa U) (fun c13=> ?_) (fun c13=> ?_)
  ·have ho9:=hx;have hb9:lesB h is x=true:=by have h9:cmpL x h<0:=c13;simp[lesB,h9]
   refine rC tb 2 U ?_;refine y_ (N5 U isAgg32 sizeOf32 (Ag hx) (by exact Af fndq)) ?_ U;refine rO tb 1 U (e_ (Hr (pre:=[.bool kn]) (l:=hdC h) (post:=[.bool is]) U (T U) (T U) sizeOf32 .agg (Be _) (Ag hx) updq (by rw[Ag hh,Ag hx])) ?_ U);rintro _ _ ⟨rfl,rfl⟩;refine rO tb 4 U (e_ (Hr (pre:=[.bool kn]++hdC x) (l:=[.bool is]) (post:=[]) (by rw[List.length_append,Ag hx];rfl) (T U) Al sizeOf4 (.one U) U U updq U) ?_ U);rintro _ _ ⟨rfl,rfl⟩;rw[show ([Value.bool kn]++hdC x)++([Value.bool false]++[])=ansC kn x false from (by unfold ansC;rw[List.append_nil,List.append_assoc])];refine rO tb 4 U ?_;refine y_ (N5 U isAgg38 sizeOf38 (B1 ho9) (by exact Af fndq)) ?_ U;refine e_ (N7 U U sizeOf38 .agg (Ek _ _ _) (B1 ho9) updq (by rw[B1 ho9];rfl)) ?_ U;rintro _ _ ⟨rfl,rfl⟩;refine rO tb 3 U (Ai U (.cellA (Aa U) isAgg38 sizeOf38 (B1 ho9) qcs .nil) ?_);refine⟨_,⟨?_,rfl⟩,by exact sbt⟩;unfold lesH lesI
   (rw[if_pos hb9,if_pos hb9];rfl)
  ·have ho9:=hh;have hb9: ¬ lesB h is x=true:=by have h9: ¬ cmpL x h<0:=c13;unfold lesB;rw[c7,Bool.false_or,decide_eq_true_iff];exact h9
   refine rC tb 4 U ?_;refine y_ (N5 U isAgg38 sizeOf38 (B1 ho9) (by exact Af fndq)) ?_ U;refine e_ (N7 U U sizeOf38 .agg (Ek _ _ _) (B1 ho9) updq (by rw[B1 ho9];rfl)) ?_ U;rintro _ _ ⟨rfl,rfl⟩;refine rO tb 3 U (Ai U (.cellA (Aa U) isAgg38 sizeOf38 (B1 ho9) qcs .nil) ?_);refine⟨_,⟨?_,rfl⟩,by exact sbt⟩;unfold lesH lesI
   first|(rw[if_pos hb9,if_pos hb9];rfl)|(rw[if_neg hb9,if_neg hb9];rfl)
theorem ybd38_0_2 (a0:Bool)(a1:Bool)(w:World):(Instr.build 38 #[(0, .bool a0),(2, .bool a1)]).run Tryz.prog w= .ok (.agg #[.bool a0,Vi 0,Vi 0,Vi 0,Vi 0,Vi 0,Vi 0,Vi 0,Vi 0,Vi 0,Vi 0, .bool a1]) w:=by kernel_rfl
theorem ybd38_z  (w:World):(Instr.build 38 #[]).run Tryz.prog w= .ok (.agg #[.bool false,Vi 0,Vi 0,Vi 0,Vi 0,Vi 0,Vi 0,Vi 0,Vi 0,Vi 0,Vi 0, .bool false]) w:=by kernel_rfl
def FmS (fl:List Fd) (m:Pom):Prop:=FmO m∧∀ a∈prtO m,FitO fl a
theorem pols_of {w0:World}{H:Mm}{fl:List Fd}(hfl:FlOk fl){m1 m2:Pom}(h1:PoM w0 H m1)(h2:PoM w0 H m2)(f1:FmS fl m1)(f2:FmS fl m2)(z1:m1.sz≤100000000)(z2:m2.sz≤100000000):PolsC w0 H [m1,m2]:=by
 refine⟨fun m hm=> ?_,fun m hm=> ?_,fun m hm=> ?_,Nat.le_refl _⟩
 all_goals
  rcases List.mem_cons.1 hm with rfl|hm
  rotate_left
  rw[List.mem_singleton.1 hm]
 ·exact h2
 ·exact h1
 ·exact ct_fmO hfl f2.1 f2.2
 ·exact ct_fmO hfl f1.1 f1.2
 ·exact z2
 ·exact z1
theorem ask_corners {fl:List Fd}(hfl:FlOk fl){m1 m2:Pom}{p q:Po}(i1:IsO fl m1 p)(i2:IsO fl m2 q)(f1:p.Fit (bsF fl))(f2:q.Fit (bsF fl))(s1:FmS fl m1)(s2:FmS fl m2){t:Int}{k:Nat}{h:Hd}{is:Bool}(a:LeastOf (AskP t k p q) (cornF (cutsL [m1,m2]) (portFd::fl) [hd0]) h is):Ans (AskP t k p q) h is:=by
 have hF:=fl_fsl hfl;have hC:=cutsL_ok (portFd::fl) [m1,m2];have hp:=cuts_in (fl:=fl) [m1,m2] (by simp) i1 f1 s1.2;have hq:=cuts_in (fl:=fl) [m1,m2] (by simp) i2 f2 s2.2;refine least_ans (corn_ok _ _ fun x hx=>by rw[List.mem_singleton.1 hx];exact Bg) (fun g hg=> ?_) a;obtain⟨x,hx,ox,s,o,_⟩:=corn_box (K:=fun f c=>(c:Int)∈rawL [m1,m2] f) hF.ok hF.pw hC.z (fun f hf c hc hl=>(hC.c f hf c hl).2 (.inr hc)) hg;exact⟨x,hx,fun a=>ask_box hF.fs hp hq k s.symm ox hg a,o⟩
theorem take_h {l:List Hd}{k:Nat}(hk:k<l.length):l.take (k+1)=l.take k++[gd l k]:=by rw[List.take_succ_eq_append_getElem hk,← As hk]
theorem take_ok {l:List Hd}{k:Nat}(h:∀ x∈l,HdOk x):∀ x∈l.take k,HdOk x:=fun x hx=>h x (List.mem_of_mem_take hx)
abbrev AnsR (Φ:Hd→Bool→Prop) (H:Mm):Value→Mm→Prop:=fun u H'=>∃ (kn:Bool) (h:Hd) (is:Bool),(u= .agg (ansC kn h is).toArray∧HdOk h∧(kn=true→Φ h is))∧H.Sublist H'
theorem rask_s {w0:World}{H:Mm}{fl:List Fd}(hfl:FlOk fl)(q:Option Addr)(c:Nat)(hA:Arr w0 H q 3 encF fl)(k:Nat){m1:Pom}{p1:Po}(hI1:IsO fl m1 p1)(hF1:p1.Fit (bsF fl))(hS1:FmS fl m1)(hM1:PoM w0 H m1)(hz1:m1.sz≤100000000){m2:Pom}{p2:Po}(hI2:IsO fl m2 p2)(hF2:p2.Fit (bsF fl))(hS2:FmS fl m2)(hM2:PoM w0 H m2)(hz2:m2.sz≤100000000)(tick:Int):
  FSpec Tryz.prog w0 16 #[.slice q fl.length c,Vi (k:Nat), .agg (encPo m1).toArray, .agg (encPo m2).toArray,Vi tick] H (AnsR (Ans (AskP tick k p1 p2)) H):=by
 refine An Tryz.func16 U ntmps16 U (rD tb 2 U (e_ (N8 U cs_) ?_ U));rintro _ _ ⟨n7,rfl,rfl⟩;refine e_ (N8 U cs_) ?_ U;rintro _ _ ⟨n8,rfl,rfl⟩;refine e_ (Ah zeroValue38 cs_) ?_ U;rintro _ _ ⟨n10,rfl,rfl⟩;refine rO tb 5 U ?_;refine y_ (N5 U isAgg28 sizeOf28 U (by exact Af fndq)) ?_ U;refine y_ (N5 U isAgg28 sizeOf28 U (by exact Af fndq)) ?_ U;refine e_ (A7 (.cons (T U) (.cons (T U) .nil)) (ybs26_2_0_1 _ _ _ _ _ _ _ _ _ _ _ _ _ _ _ _ _ _ _ _ _ _ _ _ _ _)) ?_ U;rintro _ _ ⟨n22,rfl,rfl⟩;refine e_ (Aj (qe2 U U) call50 (corners_s hfl q c (hA.mono sbt) (portFd::fl) U [m1,m2] (some ⟨n22,0,none⟩) 2 (E9 (l:=[m1,m2]) pos9 Bv) (pols_of hfl (hM1.mono sbt) (hM2.mono sbt) hS1 hS2 hz1 hz2))) ?_ U;rintro _ M1 ⟨lc,qc,cc,rfl,hC1,hc1,hc5,hs1⟩;refine rO tb 6 U ?_;refine y_ (N5 U isAgg28 sizeOf28 U (by exact Af (Fnd.mono (fndq:Fnd ((n22,Cl (encPo m1++encPo m2) 28)::(n10,Cl (ansC false hd0 false) 38)::(n8,Cl (encPo m2) 28)::(n7,Cl (encPo m1) 28)::H) n7 (Cl (encPo m1) 28)) hs1))) ?_ U;refine rO tb 2 U (e_ (Aj (qe4 U U U U) call51 (rgiven_s hfl q c (hA.mono ((show H.Sublist ((n22,Cl (encPo m1++encPo m2) 28)::(n10,Cl (ansC false hd0 false) 38)::(n8,Cl (encPo m2) 28)::(n7,Cl (encPo m1) 28)::H) by exact sbt).trans hs1)) tick hI1 hF1 (hM1.mono ((show H.Sublist ((n22,Cl (encPo m1++encPo m2) 28)::(n10,Cl (ansC false hd0 false) 38)::(n8,Cl (encPo m2) 28)::(n7,Cl (encPo m1) 28)::H) by exact sbt).trans hs1)) hz1 lc qc cc hC1 hc5)) ?_ U);rintro _ M2 ⟨L1,q1,c1,b1,⟨rfl,hG1⟩,hs2⟩;refine rO tb 10 U ?_;refine y_ (N5 U isAgg28 sizeOf28 U (by exact Af (Fnd.mono (fndq:Fnd ((n22,Cl (encPo m1++encPo m2) 28)::(n10,Cl (ansC false hd0 false) 38)::(n8,Cl (encPo m2) 28)::(n7,Cl (encPo m1) 28)::H) n8 (Cl (encPo m2) 28)) (hs1.trans hs2)))) ?_ U;refine rO tb 2 U (e_ (Aj (qe4 U U U U) call51 (rgiven_s hfl q c (hA.mono ((show H.Sublist ((n22,Cl (encPo m1++encPo m2) 28)::(n10,Cl (ansC false hd0 false) 38)::(n8,Cl (encPo m2) 28)::(n7,Cl (encPo m1) 28)::H) by exact sbt).trans (hs1.trans hs2))) tick hI2 hF2 (hM2.mono ((show H.Sublist ((n22,Cl (encPo m1++encPo m2) 28)::(n10,Cl (ansC false hd0 false) 38)::(n8,Cl (encPo m2) 28)::(n7,Cl (encPo m1) 28)::H) by exact sbt).trans (hs1.trans hs2))) hz2 lc qc cc (hC1.mono hs2) hc5)) ?_ U);rintro _ M3 ⟨L2,q2,c2,b2,⟨rfl,hG2⟩,hs3⟩;have hG1:=fun e=>(hG1 e).mono hs3
 have hC3:=hC1.mono (hs2.trans hs3);obtain⟨A9,B9,rfl,hAB⟩:=mid_sub (A:=[(n22,Cl (encPo m1++encPo m2) 28)]) (show ([(n22,Cl (encPo m1++encPo m2) 28)]++((n10,Cl (ansC false hd0 false) 38)::(n8,Cl (encPo m2) 28)::(n7,Cl (encPo m1) 28)::H)).Sublist M3 from hs1.trans (hs2.trans hs3));have hHAB:H.Sublist (A9++B9):=(show H.Sublist ([(n22,Cl (encPo m1++encPo m2) 28)]++((n8,Cl (encPo m2) 28)::(n7,Cl (encPo m1) 28)::H)) by exact sbt).trans hAB;refine rO tb 14 U ?_;refine Ar (s:=43) (Aa U) (fun c43=> ?_) (fun c43=> ?_)
 ·skip
  refine kO tb 9 [1,10,11,12,14,50] rfl U (rG tb 3 U (y_ (A6 .nil (ybd38_z)) (e_ (N7 U U sizeOf38 .agg (Ek false hd0 false) (B1 Bg) updq qrf) ?_ U) U));rintro _ _ ⟨rfl,rfl⟩;refine rO tb 4 U (Ai U (.cellA (Aa U) isAgg38 sizeOf38 (B1 Bg) qcs .nil) ?_);exact⟨_,⟨false,hd0,false,⟨rfl,Bg,fun h=>(Bool.false_ne_true h).elim⟩,hHAB.trans ((List.Sublist.refl A9).append (List.sublist_cons_self _ _))⟩,by exact sbt⟩
 ·have hl0: ¬ lc.length=0:=by have h9: ¬ ((lc.length:Nat):Int)=0:=c43;omega
  refine rO tb 1 U ?_
  first|refine A4 (Bz (T U)) U (A5 U U (Aa U)) ?_|refine A4 (Bt (T U)) U (A5 U U (Aa U)) ?_
  refine rO tb 2 U ?_
  first|refine Ar (s:=47) (Aa U) (fun c47=> ?_) (fun c47=> ?_)|refine C4 (s:=47) (Aa U) (fun c47=> ?_) (fun c47=> ?_)
  ·skip
   refine kO tb 5 [1,10,11,12,14,50] rfl U (rG tb 3 U (y_ (A6 .nil (ybd38_z)) (e_ (N7 U U sizeOf38 .agg (Ek false hd0 false) (B1 Bg) updq qrf) ?_ U) U));rintro _ _ ⟨rfl,rfl⟩;refine rO tb 4 U (Ai U (.cellA (Aa U) isAgg38 sizeOf38 (B1 Bg) qcs .nil) ?_);exact⟨_,⟨false,hd0,false,⟨rfl,Bg,fun h=>(Bool.false_ne_true h).elim⟩,hHAB.trans ((List.Sublist.refl A9).append (List.sublist_cons_self _ _))⟩,by exact sbt⟩
  ·have hg1:=hG1 (by simpa using c47);refine rO tb 1 U ?_
   first|refine A4 (Bz (T U)) U (A5 U U (Aa U)) ?_|refine A4 (Bt (T U)) U (A5 U U (Aa U)) ?_
   refine kO tb 3 [1,10,11,12,14,50] rfl U ?_
   first|refine Ae (Aa U) (fun c50=> ?_) (fun c50=> ?_)|refine B6 (Aa U) (fun c50=> ?_) (fun c50=> ?_)
   ·skip
    refine rC tb 2 U (y_ (A6 .nil (ybd38_z)) (e_ (N7 U U sizeOf38 .agg (Ek false hd0 false) (B1 Bg) updq qrf) ?_ U) U);rintro _ _ ⟨rfl,rfl⟩;refine rO tb 4 U (Ai U (.cellA (Aa U) isAgg38 sizeOf38 (B1 Bg) qcs .nil) ?_);exact⟨_,⟨false,hd0,false,⟨rfl,Bg,fun h=>(Bool.false_ne_true h).elim⟩,hHAB.trans ((List.Sublist.refl A9).append (List.sublist_cons_self _ _))⟩,by exact sbt⟩
   ·have hg2:=hG2 (by simpa using c50);have hcn:=hc1.resolve_left (fun e=>hl0 (by rw[e];rfl));refine rC tb 4 U (y_ (A6 (.cons Al (.cons Al .nil)) (ybd38_0_2 _ _)) (e_ (Ah zeroValue38 cs_) ?_ U) U);rintro _ _ ⟨n16,rfl,rfl⟩;refine e_ (N7 U U sizeOf38 .agg (Ek true hd0 true) (B1 Bg) updq qrf) ?_ U;rintro _ _ ⟨rfl,rfl⟩;refine rO tb 9 U ?_;refine A8 (X:=Nat × Hd × Bool) (V:=fun ⟨i,h,is⟩=>[(17,Vi (i:Nat))]) (C:=[(1,_),(10,_),(11,_),(12,_),(14,_),(16,_)]) (G:=fun ⟨i,h,is⟩=>(n16,Cl (ansC true h is) 38)::(A9++((n10,Cl (ansC false hd0 false) 38)::B9))) (φ:=fun ⟨i,h,is⟩=>i≤lc.length∧HdOk h∧LeastOf (AskP tick k p1 p2) (lc.take i) h is) (μ:=fun ⟨i,h,is⟩=>lc.length - i) (x0:=(0,hd0,true)) ?_ ⟨Aa rfl,Aa rfl,Aa rfl,Aa rfl,Aa rfl,Aa rfl,trivial⟩ ⟨qat,trivial⟩ (by exact List.Sublist.refl _) ?_
    ·exact⟨Nat.zero_le _,Bg,lsf_nil⟩
    rintro⟨i,h,is⟩ ⟨hi,hh,hLs⟩;refine rD tb 9 U ?_;refine Ae (Aa U) (fun c56=> ?_) (fun c56=> ?_)
    ·have hi2:i<lc.length:=by have h9:((i:Nat):Int)<(lc.length:Nat):=c56;omega
     have hi3:i<L1.length:=by rw[hg1.len];exact hi2
     have hi4:i<L2.length:=by rw[hg2.len];exact hi2
     refine rC tb 5 U (Bf 9 [(0,true),(1,true),(2,true),(3,true),(4,true),(5,true),(6,true),(7,true),(8,true)] _ mixd qkr sb0 ?_ Bi);refine rP tb 3 U (o_y U (N6 U U runUnderlying79 sizeOf58 qom (by first|exact rfl|exact hg1.arr.b (i:=i) hi3)) ?_ U Ad);refine o_y U (N4 U isAgg58 (by first|exact c_o|exact(hg1.arr.mono (List.sublist_cons_self _ _)).f0 (i:=i) hi3 U)) ?_ U Ad;refine rP tb 2 U (o_y U (N6 U U runUnderlying79 sizeOf58 qom (by first|exact rfl|exact hg1.arr.b (i:=i) hi3|exact hg2.arr.b (i:=i) hi4)) ?_ U Ad);refine o_y U (N4 U isAgg58 (by first|exact c_o|exact(hg2.arr.mono (List.sublist_cons_self _ _)).f0 (i:=i) hi4 U)) ?_ U Ad;refine Ax U (e_ (Aj (qe3 U U U) call52 (rholds0_s k (gd L1 i).l (gd L2 i).l (gd L1 i).q (gd L2 i).q (gd L1 i).c (gd L2 i).c ((hg1.set i hi2).1.mono (List.sublist_cons_self _ _)) ((hg2.set i hi2).1.mono (List.sublist_cons_self _ _)) (hg1.set i hi2).2.1 (hg2.set i hi2).2.1 (hg1.set i hi2).2.2.2 (hg2.set i hi2).2.2.2)) ?_ U);rintro _ _ ⟨b,⟨rfl,hb⟩,rfl⟩;have hb9:=hb.trans (hold_ask (hg1.set i hi2).2.1 (hg2.set i hi2).2.1 (hg1.set i hi2).2.2.1 (hg2.set i hi2).2.2.1);refine rO tb 6 U ?_
     first|refine A4 (Bz (T U)) U Ad ?_|refine A4 (Bt (T U)) U Ad ?_
     refine rO tb 2 U ?_
     first|refine Ae (Aa U) (fun c70=> ?_) (fun c70=> ?_)|refine B6 (Aa U) (fun c70=> ?_) (fun c70=> ?_)
     ·have hbn: ¬ AskP tick k p1 p2 (gd lc i):=fun e=>by have h9:=hb9.2 e;rw[h9] at c70;simp at c70
      have hlo:=Mn (is:=is) hh (hC3.ok hi2);refine Bf 6 [(0,true),(1,true),(2,true),(3,true),(4,true),(5,true)] _ mixd qkr sb0 ?_ Bi;refine o_y U (N5 U isAgg38 sizeOf38 (B1 hh) (by exact Af fndq)) ?_ U Ad;refine rP tb 2 U (o_y U (N6 U U runUnderlying58 sizeOf32 qom (by first|exact rfl|exact hg1.arr.b (i:=i) hi3|exact hg2.arr.b (i:=i) hi4|exact hC3.1.b (i:=i) hi2)) ?_ U Ad);refine o_y U (N5 U isAgg32 sizeOf32 (Ag (hC3.ok hi2)) (by exact((hC3.mono (List.sublist_cons_self _ _)).hd).cs (i:=i) hi2)) ?_ U Ad;refine o_y U (Aq (qe2 U U) call53 (fun H' hs=>rles_s true h hh is (gd lc i) (hC3.ok hi2))) (Ax U (e_ (N7 U U sizeOf38 .agg (Ek _ _ _) (B1 hlo) updq (by rw[B1 hlo];rw[B1 hh])) ?_ U)) U Ad;rintro _ _ ⟨rfl,rfl⟩;refine kO tb 3 [1,10,11,12,14,16,17] rfl U (rG tb 2 U (y_ (Ay (T U) Al qom) ?_ U));refine rO tb 2 U ?_;refine Av ((i+1,lesH h is (gd lc i),lesI h is (gd lc i))) ?_ ?_ ⟨qat,trivial⟩ ⟨Aa U,Aa U,Aa U,Aa U,Aa U,Aa U,trivial⟩ ?_
      ·exact⟨hi2,hlo,by rw[take_h hi2];exact lsf_no (take_ok hC3.2.1) (hC3.ok hi2) hLs hbn⟩
      ·first|omega|(simp only[];omega)
      ·exact sb0
     ·have hby:AskP tick k p1 p2 (gd lc i):=hb9.1 (by simpa using c70);refine rC tb 5 U (y_ (Ay (T U) Al qom) ?_ U);refine rO tb 2 U ?_;refine Av ((i+1,h,is)) ?_ ?_ ⟨qat,trivial⟩ ⟨Aa U,Aa U,Aa U,Aa U,Aa U,Aa U,trivial⟩ ?_
      ·exact⟨hi2,hh,by rw[take_h hi2];exact lsf_yes hLs hby⟩
      ·first|omega|(simp only[];omega)
      ·exact sb0
    ·obtain rfl:i=lc.length:=by have h9: ¬ ((i:Nat):Int)<(lc.length:Nat):=c56;omega
     rw[List.take_length] at hLs;refine rC tb 2 U (Ao (rX tb 4 U ?_));refine y_ (N5 U isAgg38 sizeOf38 (B1 hh) (by exact Af fndq)) ?_ U;refine e_ (N7 U U sizeOf38 .agg (Ek _ _ _) (B1 hh) updq (by rw[B1 hh];rw[B1 Bg])) ?_ U;rintro _ _ ⟨rfl,rfl⟩;refine rO tb 3 U (Ai U (.cellA (Aa U) isAgg38 sizeOf38 (B1 hh) qcs .nil) ?_)
     first|exact⟨_,⟨false,hd0,false,⟨rfl,Bg,fun h=>(Bool.false_ne_true h).elim⟩,hHAB.trans ((List.Sublist.refl A9).append (List.sublist_cons_self _ _))⟩,by exact sbt⟩|exact⟨_,⟨true,h,is,⟨rfl,hh,fun _=>ask_corners hfl hI1 hI2 hF1 hF2 hS1 hS2 (hcn ▸ hLs)⟩,hHAB.trans ((List.Sublist.refl A9).append (List.sublist_cons_self _ _))⟩,by exact sbt⟩
theorem erigh2_s {w0:World}{H:Mm}(fi:List Fi)(q:Option Addr)(n c:Nat)(hn:n=fi.length)(hA:Arr w0 H q 3 encFi fi)(hnm:∀ f∈fi,f.nm.size≤9223372036854775807){m:Pom}(hM:PoM w0 H m)(hm:m.sz≤1000000000)(hz:NmO m)(most:Nat):
  FSpec Tryz.prog w0 31 #[.slice q n c, .agg (encPo m).toArray,Vi (most:Nat)] H (SayB (FisOk fi∧FitM (fi.map Fi.fd) m most∧FmS (fi.map Fi.fd) m) H):=by
 refine An Tryz.func31 U ntmps31 U (rD tb 2 U (e_ (N8 U cs_) ?_ U));rintro _ _ ⟨n4,rfl,rfl⟩;refine rO tb 5 U (y_ (N5 U isAgg28 sizeOf28 U qcs) ?_ U);refine e_ (Aj (qe1 U) call75 (fewO_s (hM.mono sbt) hm)) ?_ U;rintro _ _ ⟨b1,rfl,rfl⟩;refine rO tb 7 U ?_
 first|refine A4 (Bz (T U)) U Ad ?_|refine A4 (Bt (T U)) U Ad ?_
 refine rO tb 1 U ?_
 first|refine Ar (s:=12) (Aa U) (fun c12=> ?_) (fun c12=> ?_)|refine C4 (s:=12) (Aa U) (fun c12=> ?_) (fun c12=> ?_)
 ·refine kO tb 29 [6] rfl U (rG tb 2 U (Ai U (N3 U) ?_));exact⟨_,⟨false,⟨rfl,fun h=>by cases h⟩,rfl⟩,by exact sbt⟩
 ·refine rO tb 1 U (Bo (Aj (qe1 U) call76 (chk_n fi q n c hn (hA.mono sbt) hnm)) U (A5 U U (Aa U)) ?_);rintro _ _ ⟨e0,⟨rfl,he0⟩,rfl⟩;refine rO tb 3 U ?_;refine Ar (s:=17) (Aa U) (fun c17=> ?_) (fun c17=> ?_)
  ·skip
   refine kO tb 24 [6] rfl U (rG tb 2 U (Ai U (N3 U) ?_));exact⟨_,⟨false,⟨rfl,fun h=>by cases h⟩,rfl⟩,by exact sbt⟩
  ·have hfi:FisOk fi:=he0 (by simpa using c17);refine A4 (N5 U isAgg28 sizeOf28 U qcs) U (A5 U U (Aa U)) ?_;refine Bo (Aj (qe1 U) call77 (szO_s _ hm (hM.mono sbt) (Nat.le_refl _))) U (A5 U U (Aa U)) ?_;rintro _ _ ⟨z1,⟨rfl,y1,x1⟩,rfl⟩;refine A4 (yl_field (T U) (field84 _ _)) U (A5 U U (Aa U)) (rO tb 4 U ?_);refine Ar (s:=24) (Aa U) (fun c24=> ?_) (fun c24=> ?_)
   ·refine kO tb 17 [6] rfl U (rG tb 2 U (Ai U (N3 U) ?_));exact⟨_,⟨false,⟨rfl,fun h=>by cases h⟩,rfl⟩,by exact sbt⟩
   ·refine A4 (N5 U isAgg28 sizeOf28 U qcs) U (A5 U U (Aa U)) ?_;refine Bo (Aj (qe1 U) call78 (stO_s _ hm (hM.mono sbt) (Nat.le_refl _))) U (A5 U U (Aa U)) ?_;rintro _ _ ⟨z2,⟨rfl,y2,x2⟩,rfl⟩;refine rO tb 3 U ?_;refine Ar (s:=29) (Aa U) (fun c29=> ?_) (fun c29=> ?_)
    ·refine kO tb 12 [6] rfl U (rG tb 2 U (Ai U (N3 U) ?_));exact⟨_,⟨false,⟨rfl,fun h=>by cases h⟩,rfl⟩,by exact sbt⟩
    ·refine A4 (N5 U isAgg28 sizeOf28 U qcs) U (A5 U U (Aa U)) ?_;refine Bo (Aj (qe1 U) call79 (light_s (hM.mono sbt) hm)) U (A5 U U (Aa U)) ?_;rintro _ _ ⟨b4,rfl,rfl⟩
     first|refine A4 (Bz (T U)) U (A5 U U (Aa U)) ?_|refine A4 (Bt (T U)) U (A5 U U (Aa U)) ?_
     refine rO tb 3 U ?_
     first|refine Ae (Aa U) (fun c33=> ?_) (fun c33=> ?_)|refine B6 (Aa U) (fun c33=> ?_) (fun c33=> ?_)
     ·refine kC tb 5 [6] rfl U (rG tb 2 U (Ai U (N3 U) ?_));exact⟨_,⟨false,⟨rfl,fun h=>by cases h⟩,rfl⟩,by exact sbt⟩
     ·refine rC tb 5 U (y_ (N5 U isAgg28 sizeOf28 U qcs) ?_ U);refine e_ (Aj (qe2 U U) call80 (rpol_n (fi.map Fi.fd) hfi.fl q n c (hn.trans (List.length_map _).symm) ((fis_arr hfi hA).mono sbt) (hM.mono sbt) hm hz)) ?_ U;rintro _ _ ⟨e1,⟨rfl,he1⟩,rfl⟩;refine kO tb 4 [6] rfl U (rG tb 1 U (Ai U (N3 U) ?_))
      first|exact⟨_,⟨false,⟨rfl,fun h=>by cases h⟩,rfl⟩,by exact sbt⟩|exact⟨_,⟨_,⟨rfl,fun h=>⟨hfi,⟨by omega,fm_isO hfi.fl (he1 (of_decide_eq_true h)).2.1 (he1 (of_decide_eq_true h)).2.2⟩,(he1 (of_decide_eq_true h)).2⟩⟩,rfl⟩,by exact sbt⟩
theorem both2_s {w0:World}{H:Mm}(fi:List Fi)(q:Option Addr)(n c:Nat)(hn:n=fi.length)(hA:Arr w0 H q 3 encFi fi)(hnm:∀ f∈fi,f.nm.size≤9223372036854775807){m1:Pom}(hM1:PoM w0 H m1)(hm1:m1.sz≤1000000000)(hz1:NmO m1){m2:Pom}(hM2:PoM w0 H m2)(hm2:m2.sz≤1000000000)(hz2:NmO m2)(most:Nat)(tick:Int):
  FSpec Tryz.prog w0 12 #[.slice q n c, .agg (encPo m1).toArray, .agg (encPo m2).toArray,Vi (most:Nat),Vi tick] H (SayB ((0≤tick∧tick≤1073741824)∧FisOk fi∧(FitM (fi.map Fi.fd) m1 most∧FmS (fi.map Fi.fd) m1)∧FitM (fi.map Fi.fd) m2 most∧FmS (fi.map Fi.fd) m2) H):=by
 refine An Tryz.func12 U ntmps12 U (rD tb 2 U (e_ (N8 U cs_) ?_ U));rintro _ _ ⟨n6,rfl,rfl⟩;refine e_ (N8 U cs_) ?_ U;rintro _ _ ⟨n7,rfl,rfl⟩;refine rO tb 8 U ?_;refine Ar (s:=13) (Aa U) (fun c13=> ?_) (fun c13=> ?_)
 ·refine rO tb 4 U ?_;refine Ar (s:=17) (Aa U) (fun c17=> ?_) (fun c17=> ?_)
  ·refine rO tb 1 U (A4 (N5 U isAgg28 sizeOf28 U qcs) U (A5 U U (Aa U)) ?_);refine rO tb 1 U (Bo (Aj (qe3 U U U) call31 (erigh2_s fi q n c hn (hA.mono sbt) hnm (hM1.mono sbt) hm1 hz1 most)) U (A5 U U (Aa U)) ?_);rintro _ _ ⟨b1,⟨rfl,hb1⟩,rfl⟩;refine rO tb 2 U ?_
   first|refine Ar (s:=23) (Aa U) (fun c23=> ?_) (fun c23=> ?_)|refine C4 (s:=23) (Aa U) (fun c23=> ?_) (fun c23=> ?_)
   ·have h1:=hb1 (by simpa using c23);refine rO tb 1 U (A4 (N5 U isAgg28 sizeOf28 U qcs) U (A5 U U (Aa U)) ?_);refine rO tb 1 U (Bo (Aj (qe3 U U U) call31 (erigh2_s fi q n c hn (hA.mono sbt) hnm (hM2.mono sbt) hm2 hz2 most)) U (A5 U U (Aa U)) ?_);rintro _ _ ⟨b2,⟨rfl,hb2⟩,rfl⟩;refine rO tb 5 U (Ai U (N3 U) ?_)
    first|exact⟨_,⟨false,⟨rfl,fun h=>by cases h⟩,rfl⟩,by exact sbt⟩|exact⟨_,⟨_,⟨rfl,fun h=>⟨by omega,h1.1,h1.2,(hb2 h).2⟩⟩,rfl⟩,by exact sbt⟩
   ·skip
    refine rO tb 9 U (Ai U (N3 U) ?_);exact⟨_,⟨false,⟨rfl,fun h=>by cases h⟩,rfl⟩,by exact sbt⟩
  ·refine rO tb 15 U (Ai U (N3 U) ?_);exact⟨_,⟨false,⟨rfl,fun h=>by cases h⟩,rfl⟩,by exact sbt⟩
 ·refine rO tb 19 U (Ai U (N3 U) ?_);exact⟨_,⟨false,⟨rfl,fun h=>by cases h⟩,rfl⟩,by exact sbt⟩
theorem bd32h (w:World):(Instr.build 32 #[]).run Tryz.prog w= .ok (.agg (hdC hd0).toArray) w:=by kernel_rfl
theorem yl_eqBT {w0:World}{L:Fm}{H:Mm}{ty yt:TypeId}{x y:Operand}{a c:Bool}(hx:Ev L x (.bool a))(hy:Ev L y (.bool c))(h:a=c):Yl Tryz.prog w0 (.binOp .eql 4 x y yt) ty L H (.bool true):=by
 have:=yl_eqB (w0:=w0) (H:=H) (ty:=ty) (yt:=yt) hx hy;subst h
 rwa [beq_self_eq_true] at this
theorem rsame_s {w0:World}{H:Mm}(h:Hd)(o:HdOk h)(is:Bool)(e:Int)(z:e=0∨(e=12∨e=2)∧h=hd0∧is=false)(kn:Bool)(x:Hd)(ox:HdOk x)(b:Bool)(hEq:e=0→kn=true→x=h∧b=is):
  FSpec Tryz.prog w0 15 #[.agg (hdC h).toArray, .bool is,Vi e, .agg (ansC kn x b).toArray] H (Still (.bool true) H):=by
 refine An Tryz.func15 U ntmps15 U (rD tb 2 U (e_ (N8 U cs_) ?_ U));rintro _ _ ⟨n4,rfl,rfl⟩;refine e_ (N8 U cs_) ?_ U;rintro _ _ ⟨n7,rfl,rfl⟩;refine rO tb 10 U ?_;refine Ae (Aa U) (fun c10=> ?_) (fun c10=> ?_)
 ·obtain⟨z1,rfl,rfl⟩:=z.resolve_left c10;refine rC tb 5 U ?_;refine Ar (s:=13) (Aa U) (fun c13=> ?_) (fun c13=> ?_)
  ·skip
   refine rO tb 4 U ?_;refine A4 (N5 U isAgg32 sizeOf32 (Ag o) (by exact Af fndq)) U (A5 U U (Aa U)) ?_;refine A4 (A6 .nil (fun w=>bd32h w)) U (A5 U U (Aa U)) (A4 (yl_eqAT (T U) (T U) qkr (eqHd o Bg) U) U (A5 U U (Aa U)) ?_);refine rO tb 3 U ?_;refine A4 (Bt (T U)) U (A5 U U (Aa U)) ?_;refine rO tb 6 U (Ai U (N3 U) ?_);exact⟨_,⟨by rfl,rfl⟩,by exact sbt⟩
  ·have he2:e=2:=z1.resolve_left c13;refine rO tb 4 U ?_;refine Ar (s:=17) (Aa U) (fun c17=> ?_) (fun c17=> ?_)
   ·skip
    refine A4 (N5 U isAgg32 sizeOf32 (Ag o) (by exact Af fndq)) U (A5 U U (Aa U)) ?_;refine A4 (A6 .nil (fun w=>bd32h w)) U (A5 U U (Aa U)) (A4 (yl_eqAT (T U) (T U) qkr (eqHd o Bg) U) U (A5 U U (Aa U)) ?_);refine rO tb 3 U ?_;refine A4 (Bt (T U)) U (A5 U U (Aa U)) ?_;refine rO tb 6 U (Ai U (N3 U) ?_);exact⟨_,⟨by rfl,rfl⟩,by exact sbt⟩
   ·exact absurd he2 (by assumption)
 ·have he0:e=0:=Classical.not_not.1 c10;refine rC tb 5 U ?_;refine y_ (N4 U isAgg4 qco) ?_ U
  first|refine A4 (Bz (T U)) U Ad ?_|refine A4 (Bt (T U)) U Ad ?_
  refine rO tb 1 U ?_
  first|refine Ar (s:=29) (Aa U) (fun c29=> ?_) (fun c29=> ?_)|refine C4 (s:=29) (Aa U) (fun c29=> ?_) (fun c29=> ?_)
  ·skip
   refine rO tb 15 U (Ai U (N3 U) ?_);exact⟨_,⟨by rfl,rfl⟩,by exact sbt⟩
  ·have hx9:=hEq he0 (by simpa using c29);refine rO tb 1 U ?_;refine A4 (N5 U isAgg32 sizeOf32 (Ag ox) (by exact ans_hd (kn:=kn) (is:=b) fndq)) U (A5 U U (Aa U)) ?_;refine A4 (N5 U isAgg32 sizeOf32 (Ag o) (by exact Af fndq)) U (A5 U U (Aa U)) ?_;refine A4 (yl_eqAT (T U) (T U) qkr (eqHd ox o) hx9.1) U (A5 U U (Aa U)) ?_;refine rO tb 2 U ?_;refine A4 (N4 U isAgg4 (by first|exact c_o|exact ans_is ox fndq)) U (A5 U U (Aa U)) ?_;refine rO tb 1 U (A4 (yl_eqBT (T U) (T U) hx9.2) U (A5 U U (Aa U)) (rO tb 6 U (Ai U (N3 U) ?_)));exact⟨_,⟨by rfl,rfl⟩,by exact sbt⟩
theorem eqone_s {w0:World}{H:Mm}(fi:List Fi)(q:Option Addr)(n c:Nat)(hn:n=fi.length)(hA:Arr w0 H q 3 encFi fi)(hnm:∀ f∈fi,f.nm.size≤9223372036854775807){m1:Pom}(hM1:PoM w0 H m1)(hm1:m1.sz≤1048576)(hz1:NmO m1)(tick:Int):
  FSpec Tryz.prog w0 4 #[.slice q n c, .agg (encPo m1).toArray,Vi tick] H (Still (.bool true) H):=by
 refine An Tryz.func4 U ntmps4 U (rD tb 2 U (e_ (N8 U cs_) ?_ U));rintro _ _ ⟨n4,rfl,rfl⟩;refine rO tb 5 U (y_ (Aq .nil call11 (fun H' hs=>sanity_s)) (rO tb 7 U (y_ (N5 U isAgg28 sizeOf28 U qcs) ?_ U)) U);refine y_ (N5 U isAgg28 sizeOf28 U qcs) ?_ U;refine rO tb 1 U (e_ (Aj (.cons (T U) (.cons (T U) (.cons (T U) (.cons Al (.cons (T U) .nil))))) call12 (both2_s fi q n c hn (hA.mono sbt) hnm (hM1.mono sbt) qom hz1 (hM1.mono sbt) qom hz1 30 tick)) ?_ U);rintro _ _ ⟨b,⟨rfl,hb⟩,rfl⟩
 first|refine A4 (Bz (T U)) U Ad ?_|refine A4 (Bt (T U)) U Ad ?_
 refine rO tb 2 U ?_
 first|refine Ae (Aa U) (fun c23=> ?_) (fun c23=> ?_)|refine B6 (Aa U) (fun c23=> ?_) (fun c23=> ?_)
 ·skip
  refine rC tb 8 U (Ai U (N3 U) ?_)
  first|exact⟨_,⟨rfl,rfl⟩,(show H.Sublist ((n14,Cl (hdC h3) 32)::(n11,Cl (hdC h2) 32)::(n8,Cl (hdC h1) 32)::(n4,Cl (encPo m1) 28)::H) by exact sbt).trans hs6⟩|exact⟨_,⟨rfl,rfl⟩,by exact sbt⟩
 ·have hbt:b=true:=by simpa using c23
  obtain⟨⟨ht0,ht1⟩,hfi,⟨⟨hd1,p1,hI1,hF1⟩,hS1⟩,⟨hd2,p2,hI2,hF2⟩,hS2⟩:=hb hbt;have hfl:=hfi.fl;have hAf:=fis_arr hfi hA;have hln:n=(fi.map Fi.fd).length:=hn.trans (List.length_map _).symm;obtain⟨fl,hfe⟩:∃ fl,fi.map Fi.fd=fl:=⟨_,rfl⟩;rw[hfe] at hI1 hF1 hI2 hF2 hS1 hS2 hfl hAf hln;subst hln;obtain⟨e9,hE9,z9⟩:=errIs_nz fl tick p1;refine rC tb 5 U (y_ (N5 U isAgg28 sizeOf28 U qcs) ?_ U);refine rO tb 1 U (e_ (Aj (qe3 U U U) call17 (ansK (eempty_s hfl q c (hAf.mono sbt) tick hI1 hF1 (hM1.mono sbt)) (.inl U))) ?_ U);rintro _ _ ⟨h1,is1,e1,⟨rfl,o1,z1,k1⟩,rfl⟩;refine rO tb 4 U (e_ (Ah zeroValue32 cs_) ?_ U);rintro _ _ ⟨n8,rfl,rfl⟩;refine e_ (N7 U U sizeOf32 .agg (Be _) (Ag o1) updq (by rw[Ag o1];rfl)) ?_ U;rintro _ _ ⟨rfl,rfl⟩;refine rO tb 7 U (y_ (N5 U isAgg28 sizeOf28 U qcs) ?_ U);refine rO tb 1 U (e_ (Aj (qe3 U U U) call18 (ansK (etotal_s hfl q c (hAf.mono sbt) tick hI1 hF1 (hM1.mono sbt)) (.inl U))) ?_ U);rintro _ _ ⟨h2,is2,e2,⟨rfl,o2,z2,k2⟩,rfl⟩;refine rO tb 4 U (e_ (Ah zeroValue32 cs_) ?_ U);rintro _ _ ⟨n11,rfl,rfl⟩;refine e_ (N7 U U sizeOf32 .agg (Be _) (Ag o2) updq (by rw[Ag o2];rfl)) ?_ U;rintro _ _ ⟨rfl,rfl⟩;refine kO tb 4 [0,2,4,7,8,9,10,11,12,13] rfl U (rG tb 3 U (y_ (N5 U isAgg28 sizeOf28 U qcs) ?_ U));refine rO tb 1 U (e_ (Aj (qe3 U U U) call19 (ansK (Iw hfl q c (hAf.mono sbt) tick hI1 hF1 (hM1.mono sbt) qom e9 hE9) z9)) ?_ U);rintro _ _ ⟨h3,is3,e3,⟨rfl,o3,z3,k3⟩,rfl⟩;refine rO tb 4 U (e_ (Ah zeroValue32 cs_) ?_ U);rintro _ _ ⟨n14,rfl,rfl⟩;refine e_ (N7 U U sizeOf32 .agg (Be _) (Ag o3) updq (by rw[Ag o3];rfl)) ?_ U;rintro _ _ ⟨rfl,rfl⟩;refine rO tb 5 U (Bf 35 [(0,true),(1,true),(2,true),(3,true),(4,true),(5,true),(6,true),(7,true),(8,true),(9,false),(10,true),(11,true),(12,true),(13,true),(14,true),(15,true),(16,true),(17,true),(18,true),(19,true),(20,false),(21,true),(22,true),(23,true),(24,true),(25,true),(26,true),(27,true),(28,true),(29,true),(30,true),(31,false),(32,true),(33,true),(34,true)] _ mixd qkr sb0 ?_ Bi);refine rP tb 2 U ?_;refine o_y U (N5 U isAgg32 sizeOf32 (Ag o1) (by exact Af fndq)) ?_ U (A5 U U (Aa U));refine rP tb 3 U (o_y U (N5 U isAgg28 sizeOf28 U qcs) ?_ U (A5 U U (Aa U)));refine o_y U (N5 U isAgg28 sizeOf28 U qcs) ?_ U (A5 U U (Aa U));refine rP tb 1 U (o_e U (Aj (.cons (T U) (.cons Al (.cons (T U) (.cons (T U) (.cons (T U) .nil))))) call16 (rask_s hfl q c (hAf.mono (show H.Sublist ((n14,Cl (hdC h3) 32)::(n11,Cl (hdC h2) 32)::(n8,Cl (hdC h1) 32)::(n4,Cl (encPo m1) 28)::H) by exact sbt)) 3 hI1 hF1 hS1 (hM1.mono (show H.Sublist ((n14,Cl (hdC h3) 32)::(n11,Cl (hdC h2) 32)::(n8,Cl (hdC h1) 32)::(n4,Cl (encPo m1) 28)::H) by exact sbt)) qom hI1 hF1 hS1 (hM1.mono (show H.Sublist ((n14,Cl (hdC h3) 32)::(n11,Cl (hdC h2) 32)::(n8,Cl (hdC h1) 32)::(n4,Cl (encPo m1) 28)::H) by exact sbt)) qom tick)) ?_ U (A5 U U (Aa U)));rintro _ M4 ⟨kn4,x4,b4,⟨rfl,ox4,kk4⟩,hs4⟩;refine⟨(by first|exact hs6|exact hs5|exact hs4),?_⟩;refine o_y U (Aq (qe4 U U U U) call15 (fun H' hs=>rsame_s h1 o1 is1 e1 z1 kn4 x4 ox4 b4 (fun e0 hk=>Ia (kk4 hk) (k1 e0)))) (rP tb 2 U ?_) U (A5 U U (Aa U));refine o_y U (N5 U isAgg32 sizeOf32 (Ag o2) (by exact Af fndq)) ?_ U (A5 U U (Aa U));refine rP tb 3 U (o_y U (N5 U isAgg28 sizeOf28 U qcs) ?_ U (A5 U U (Aa U)));refine o_y U (N5 U isAgg28 sizeOf28 U qcs) ?_ U (A5 U U (Aa U));refine rP tb 1 U (o_e U (Aj (.cons (T U) (.cons Al (.cons (T U) (.cons (T U) (.cons (T U) .nil))))) call16 (spec_sub (rask_s hfl q c (hAf.mono (show H.Sublist ((n14,Cl (hdC h3) 32)::(n11,Cl (hdC h2) 32)::(n8,Cl (hdC h1) 32)::(n4,Cl (encPo m1) 28)::H) by exact sbt)) 4 hI1 hF1 hS1 (hM1.mono (show H.Sublist ((n14,Cl (hdC h3) 32)::(n11,Cl (hdC h2) 32)::(n8,Cl (hdC h1) 32)::(n4,Cl (encPo m1) 28)::H) by exact sbt)) qom hI1 hF1 hS1 (hM1.mono (show H.Sublist ((n14,Cl (hdC h3) 32)::(n11,Cl (hdC h2) 32)::(n8,Cl (hdC h1) 32)::(n4,Cl (encPo m1) 28)::H) by exact sbt)) qom tick) hs4)) ?_ U (A5 U U (Aa U)));rintro _ M5 ⟨kn5,x5,b5,⟨rfl,ox5,kk5⟩,hs5⟩;refine⟨(by first|exact hs6|exact hs5),?_⟩;refine o_y U (Aq (qe4 U U U U) call15 (fun H' hs=>rsame_s h2 o2 is2 e2 z2 kn5 x5 ox5 b5 (fun e0 hk=>Ia (kk5 hk) (k2 e0)))) (rP tb 2 U ?_) U (A5 U U (Aa U));refine o_y U (N5 U isAgg32 sizeOf32 (Ag o3) (by exact Af fndq)) ?_ U (A5 U U (Aa U));refine rP tb 3 U (o_y U (N5 U isAgg28 sizeOf28 U qcs) ?_ U (A5 U U (Aa U)));refine o_y U (N5 U isAgg28 sizeOf28 U qcs) ?_ U (A5 U U (Aa U));refine rP tb 1 U (o_e U (Aj (.cons (T U) (.cons Al (.cons (T U) (.cons (T U) (.cons (T U) .nil))))) call16 (spec_sub (rask_s hfl q c (hAf.mono (show H.Sublist ((n14,Cl (hdC h3) 32)::(n11,Cl (hdC h2) 32)::(n8,Cl (hdC h1) 32)::(n4,Cl (encPo m1) 28)::H) by exact sbt)) 5 hI1 hF1 hS1 (hM1.mono (show H.Sublist ((n14,Cl (hdC h3) 32)::(n11,Cl (hdC h2) 32)::(n8,Cl (hdC h1) 32)::(n4,Cl (encPo m1) 28)::H) by exact sbt)) qom hI1 hF1 hS1 (hM1.mono (show H.Sublist ((n14,Cl (hdC h3) 32)::(n11,Cl (hdC h2) 32)::(n8,Cl (hdC h1) 32)::(n4,Cl (encPo m1) 28)::H) by exact sbt)) qom tick) hs5)) ?_ U (A5 U U (Aa U)));rintro _ M6 ⟨kn6,x6,b6,⟨rfl,ox6,kk6⟩,hs6⟩;refine⟨(by exact hs6),?_⟩;refine o_y U (Aq (qe4 U U U U) call15 (fun H' hs=>rsame_s h3 o3 is3 e3 z3 kn6 x6 ox6 b6 (fun e0 hk=>Ia (kk6 hk) (k3 e0)))) (rP tb 2 U (Ax U (kO tb 2 [6] rfl U (rG tb 1 U (Ai U (N3 U) ?_))))) U (A5 U U (Aa U));exact⟨_,⟨rfl,rfl⟩,(show H.Sublist ((n14,Cl (hdC h3) 32)::(n11,Cl (hdC h2) 32)::(n8,Cl (hdC h1) 32)::(n4,Cl (encPo m1) 28)::H) by exact sbt).trans hs6⟩
end Go.Proofs.YtkgfmjanajdibaaGreat
namespace Go.Proofs.YtkgfmjanajdibaaGreat
open _root_.Go.Proofs.Tryz
open Go.ChangeShapes Go.WideShapes Go.ChangeAt Go.RowKit Go.Joins
set_option linter.unusedVariables false
set_option linter.unusedSimpArgs false
set_option linter.unusedSectionVars false
set_option maxRecDepth 100000
section
variable {H:Type} {enc:TypeId × Value→H} {W:World}
theorem laid_out:laidOutB Tryz.prog=true:=by kernel_rfl
theorem trodAll_stays:∀ {ts:List TypeId} {vs:List Value} {ds:List (DataW H)} {ps:List MemPlace} {W':World},(∀ t∈ts,Tryz.prog.readableRec t=true∧t<Tryz.prog.types.size)→DataW.TrodAll enc Tryz.prog W 0 (fun _=>true) true ts vs ds ps→Below W.heap.size W W'→(∀ x∈ps,x.block<W.heap.size)→
  DataW.TrodAll enc Tryz.prog W' 0 (fun b=>decide (b<W.heap.size)) true ts vs ds ps
 |[],_,_,_,_,_,h,_,_=>by obtain⟨rfl,rfl,rfl⟩:=trodAll_nil h;exact trodAll_mk0
 |t::ts,_,_,_,_,hr,h,hb,hlt=>by
  obtain⟨v,vs,d,ds,p,q,rfl,rfl,rfl,h0,r0⟩:=trodAll_cons h;exact trodAll_cons_mk (Below.trod laid_out (hr t (by simp)).1 (hr t (by simp)).2 h0 hb (fun x hx=>hlt x (by simp[hx]))) (trodAll_stays (fun t ht=>hr t (by simp[ht])) r0 hb (fun x hx=>hlt x (by simp[hx])))
end
theorem calls_true {f:FuncId}{args:Array Value}{W:World}(h:FSpec Tryz.prog W f args [] (Still (.bool true) [])):Calls Tryz.prog f args W fun e W'=>e= .returned (.bool true)∧Below W.heap.size W W':=
 (h W (Own.start W)).mono fun e W' ⟨v,H',he,hO,hv,_⟩=>⟨by rw[he,hv],hO.below⟩
noncomputable def laidWorld (os:Os):World:=World.holding Tryz.prog os ⟨#[],#[],[]⟩
end Go.Proofs.YtkgfmjanajdibaaGreat
