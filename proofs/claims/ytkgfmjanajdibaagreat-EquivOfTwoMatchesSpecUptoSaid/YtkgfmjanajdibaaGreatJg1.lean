/-
  A part of what LawG rests on: the logic, walks and plain laws. No condition.
-/
import Derived.Test.YtkgfmjanajdibaaGreatJg0
import Derived.Sort.Row
import Derived.Sort.Grow
import Derived.Lib.SlicesCompact
import Derived.Sort.Walk0
import Derived.Laws.Strings
import Derived.Scope
import Derived.Test.YtkgfmjanajdibaaGreatProg
import Derived.KernelRfl
namespace Go.Proofs.YtkgfmjanajdibaaGreat
open _root_.Go.Proofs.Tryz
open Go.RowKit
set_option linter.unusedVariables false
set_option linter.unusedSimpArgs false
set_option linter.unusedSectionVars false
set_option maxRecDepth 100000
def gvK (ns:Ns) (x:Nat->Bool):Nat->Nat->Bool
 |0,i=>i==1
 |k+1,i=>if i<2 then i==1 else if lvl ns i % 2=0 then gvK ns x k (if x (lvl ns i / 2) then hig ns i else low ns i) else gvK ns x k (low ns i)||gvK ns x k (hig ns i)
def gvF (ns:Ns) (x:Nat->Bool) (i:Nat):Bool:=gvK ns x i i
section
variable {N:Nat} {ns ms:Ns} {x:Nat->Bool}
theorem gvK_end {i:Nat}(h:i<2):∀ k,gvK ns x k i=(i==1)
 |0=>rfl
 |k+1=>by rw[gvK,if_pos h]
theorem J0 (h:Wf N ns){i:Nat}(h2:2<=i)(hi:i<ns.length)(ho: ¬ lvl ns i % 2=0)(v:Bool)(z:Nat->Bool):sem ns i (mixA x (fun k=>if k=lvl ns i / 2 then v else z k))=sem ns (if v then hig ns i else low ns i) (mixA x z):=by
 have hu:=h.up i h2 hi;obtain⟨h3,h4,h5⟩:=h.lt i h2 hi;have e:mixA x (fun k=>if k=lvl ns i / 2 then v else z k) (lvl ns i)=v:=by unfold mixA;rw[if_neg ho];simp
 rw[Ef h h2 hi,e];have d:∀ k,lvl ns i<k->mixA x (fun k=>if k=lvl ns i / 2 then v else z k) k=mixA x z k:=fun k hk=>by
  unfold mixA
  split
  ·rfl
  ·exact if_neg qom
 cases v
 ·simp only[Bool.false_eq_true,if_false];exact Du h _ qom _ _ fun k hk _=>d k qom
 ·simp only[if_true];exact Du h _ qom _ _ fun k hk _=>d k qom
theorem gvK_iff (h:Wf N ns):∀ (k i:Nat),i<ns.length->i<=k->(gvK ns x k i=true↔∃ z,sem ns i (mixA x z)=true):=by
 intro k
 induction k with
 |zero=>
  intro i hi hk;have:i=0:=by omega
  subst this
  constructor
  ·intro e;cases e
  ·rintro⟨z,e⟩;cases e
 |succ k ih=>
  intro i hi hk
  by_cases h2:i<2
  ·rw[gvK_end h2]
   constructor
   ·intro e;exact⟨fun _=>false,by rw[Ee _ h2];exact e⟩
   ·rintro⟨z,e⟩;rw[Ee _ h2] at e;exact e
  ·obtain⟨h3,h4,h5⟩:=h.lt i qom hi;rw[gvK,if_neg h2]
   split
   ·rename_i he;have e:∀ z,sem ns i (mixA x z)=sem ns (if x (lvl ns i / 2) then hig ns i else low ns i) (mixA x z):=fun z=>by
     rw[Ef h qom hi,Ku _ _ he];split<;>rfl
    rw[ih _ (by split<;>omega) (by split<;>omega)];exact⟨fun ⟨z,a⟩=>⟨z,(e z).trans a⟩,fun ⟨z,a⟩=>⟨z,(e z).symm.trans a⟩⟩
   ·rename_i ho;rw[Bool.or_eq_true,ih _ qom qom,ih _ qom qom]
    constructor
    ·rintro(⟨z,a⟩|⟨z,a⟩)
     ·exact⟨_,(J0 h qom hi ho false z).trans (by simpa using a)⟩
     ·exact⟨_,(J0 h qom hi ho true z).trans (by simpa using a)⟩
    ·rintro⟨z,a⟩;rw[Ef h qom hi] at a
     split at a
     ·exact .inr ⟨z,a⟩
     ·exact .inl ⟨z,a⟩
theorem gv_iff (h:Wf N ns){i:Nat}(hi:i<ns.length):gvF ns x i=true↔∃ z,sem ns i (mixA x z)=true:=gvK_iff h i i hi (Nat.le_refl _)
end
def hLt (g h:Hd):Prop:=∃ b,b<160/\(∀ j,j<b->hbit g j=hbit h j)/\hbit g b=false/\hbit h b=true
theorem hLt.trans {a b c:Hd}(h1:hLt a b)(h2:hLt b c):hLt a c:=by
 obtain⟨i,hi,e1,f1,t1⟩:=h1;obtain⟨j,hj,e2,f2,t2⟩:=h2;rcases Nat.lt_trichotomy i j with h|h|h
 ·exact⟨i,hi,fun k hk=>(e1 k hk).trans (e2 k qom),f1,by rw[<- e2 i h];exact t1⟩
 ·subst h;rw[f2] at t1;cases t1
 ·exact⟨j,hj,fun k hk=>(e1 k qom).trans (e2 k hk),by rw[e1 j h];exact f2,t2⟩
theorem hLt.irr {a:Hd}(h:hLt a a):False:=by
 obtain⟨i,_,_,f,t⟩:=h;rw[f] at t;cases t
theorem H8 {a b:Hd}(ha:HdOk a)(hb:HdOk b):hLt a b\/a=b\/hLt b a:=by
 by_cases h:∃ i,i<160/\hbit a i≠hbit b i
 ·have key:∀ n,(∃ i,i<n/\i<160/\hbit a i≠hbit b i)->∃ i,i<160/\hbit a i≠hbit b i/\∀ j,j<i->hbit a j=hbit b j:=by
   intro n
   induction n with
   |zero=>rintro⟨i,h,_⟩;omega
   |succ n ih=>
    rintro⟨i,h1,h2,h3⟩
    by_cases hx:∃ i,i<n/\i<160/\hbit a i≠hbit b i
    ·exact ih hx
    ·refine⟨i,h2,h3,fun j hj=>Classical.byContradiction fun hne=>hx ⟨j,by omega,by omega,hne⟩⟩
  obtain⟨i,h1,h2⟩:=h;obtain⟨i,h1,h2,h3⟩:=key 160 ⟨i,h1,h1,h2⟩;cases ea:hbit a i<;>cases eb:hbit b i
  ·rw[ea,eb] at h2;exact(h2 U).elim
  ·exact .inl ⟨i,h1,h3,ea,eb⟩
  ·exact .inr (.inr ⟨i,h1,fun j hj=>(h3 j hj).symm,eb,ea⟩)
  ·rw[ea,eb] at h2;exact(h2 U).elim
 ·exact .inr (.inl (C5 ha hb fun i hi=>Classical.byContradiction fun hne=>h ⟨i,hi,hne⟩))
section
variable {ns:Ns} {bs:List Nat} {h:Hd}
theorem J1 (hw:Wf (2*bs.length) ns){id k:Nat}(hi:id<ns.length)(hk:k<bs.length){x z:Nat->Bool}:sem ns id (mixA x z)=sem ns (ch ns (ch ns id (2*k) (x k)) (2*k+1) (z k)) (mixA x z):=by
 have:=sem_at hw hi (lv:=2*k) qom (mixA x z);rw[Ku _ _ qom,Mo _ _ qom,show 2*k / 2=k by omega] at this;exact this
theorem gv_rep (hb:BsOk bs)(hw:Wf (2*bs.length) ns)(hh:HdOk h){id:Nat}(hi:id<ns.length){D:Hd->Hd->Prop}(hr:Rep bs ns id D)(hD:∀ {h g},HdOk h->D h g->HdOk g/\Out bs h g):gvF ns (xh bs h) id=true↔∃ g,D h g:=by
 rw[gv_iff hw hi]
 constructor
 ·rintro⟨z,e⟩;obtain⟨g,g1,g2,g3⟩:=Ir hb h z;refine⟨g,(hr h g hh g1 g2).1 ?_⟩;rw[Ep hw hi (fun _ _=>rfl) g3];exact e
 ·rintro⟨g,d⟩;obtain⟨g1,g2⟩:=hD hh d;exact⟨_,(hr h g hh g1 g2).2 d⟩
end
theorem sorted_eq:∀ {a b:List Hd},a.Pairwise hLt->b.Pairwise hLt->(∀ x,x∈a↔x∈b)->a=b
 |[],[],_,_,_=>rfl
 |[],y::b,_,_,h=>by have:=(h y).2 (by simp);cases this
 |x::a,[],_,_,h=>by have:=(h x).1 (by simp);cases this
 |x::a,y::b,ha,hb,h=>by
  rw[List.pairwise_cons] at ha hb;have e:x=y:=by
   have h1:=(h x).1 (by simp);have h2:=(h y).2 (by simp);rcases List.mem_cons.1 h1 with h1|h1
   ·exact h1
   ·rcases List.mem_cons.1 h2 with h2|h2
    ·exact h2.symm
    ·exact((hb.1 x h1).trans (ha.1 y h2)).irr.elim
  subst e;rw[sorted_eq ha.2 hb.2 fun z=> ?_]
  constructor
  ·intro hz;rcases List.mem_cons.1 ((h z).1 (by simp[hz])) with e|e
   ·subst e;exact(ha.1 z hz).irr.elim
   ·exact e
  ·intro hz;rcases List.mem_cons.1 ((h z).2 (by simp[hz])) with e|e
   ·subst e;exact(hb.1 z hz).irr.elim
   ·exact e
noncomputable def domR (A:(Nat->Bool)->Bool) (α:Nat->Bool):Bool:= @decide (∃ z,A (mixA (evA α) z)=true) (Classical.propDecidable _)
theorem domR_iff {A:(Nat->Bool)->Bool}{α:Nat->Bool}:domR A α=true↔∃ z,A (mixA (evA α) z)=true:=by unfold domR;exact @decide_eq_true_iff _ (Classical.propDecidable _)
abbrev Kd:=List (Nat × Nat)
def dmF (most:Nat):Nat->Kd->Ns->Nat->Option (Nat × Kd × Ns)
 |0,_,_,_=>none
 |k+1,kn,ns,a=>
  match look kn a with
  |some id=>some (id,kn,ns)
  |none=>
   match dmF most k kn ns (low ns a) with
   |none=>none
   |some (l,kn1,ns1)=>
    match dmF most k kn1 ns1 (hig ns a) with
    |none=>none
    |some (r,kn2,ns2)=>
     if lvl ns a % 2=0 then (mkF most ns2 (lvl ns a) l r).map fun x=>(x.1,upsert kn2 a x.1,x.2)
     else (orF most ns2 l r).map fun x=>(x.1,upsert kn2 a x.1,x.2)
section
variable {N most:Nat} {ns ms:Ns}
structure KdOk (N:Nat) (ns:Ns) (kn:Kd):Prop where
 k0:look kn 0=some 0
 k1:look kn 1=some 1
 ok:∀ a id,look kn a=some id->a<ns.length/\Is N ns id (lvl ns a) (domR (sem ns a))
theorem dom_gr (hw:Wf N ns)(g:Gr N ns ms){a:Nat}(ha:a<ns.length):domR (sem ms a)=domR (sem ns a):=by rw[show sem ms a=sem ns a from funext fun α=>g.sem hw ha α]
theorem KdOk.gr {kn:Kd}(h:KdOk N ns kn)(hw:Wf N ns)(g:Gr N ns ms):KdOk N ms kn:=⟨h.k0,h.k1,fun a id e=>by
 obtain⟨h1,h2⟩:=h.ok a id e;refine⟨Nat.lt_of_lt_of_le h1 g.le,?_⟩;rw[g.lvl h1,dom_gr hw g h1];exact h2.gr hw g⟩
theorem dom_ev (hw:Wf N ns){a:Nat}(h2:2<=a)(ha:a<ns.length)(he:lvl ns a % 2=0)(α:Nat->Bool):domR (sem ns a) α=if α (lvl ns a) then domR (sem ns (hig ns a)) α else domR (sem ns (low ns a)) α:=by
 have e:∀ z,sem ns a (mixA (evA α) z)=if α (lvl ns a) then sem ns (hig ns a) (mixA (evA α) z) else sem ns (low ns a) (mixA (evA α) z):=fun z=>by
  rw[Ef hw h2 ha,Ku _ _ he];unfold evA;rw[show 2*(lvl ns a / 2)=lvl ns a by omega]
 refine Bool.eq_iff_iff.2 ?_;rw[domR_iff];cases hα:α (lvl ns a)
 ·simp only[hα,Bool.false_eq_true,if_false] at e ⊢;rw[domR_iff];exact⟨fun ⟨z,a⟩=>⟨z,(e z).symm.trans a⟩,fun ⟨z,a⟩=>⟨z,(e z).trans a⟩⟩
 ·simp only[hα,if_true] at e ⊢;rw[domR_iff];exact⟨fun ⟨z,a⟩=>⟨z,(e z).symm.trans a⟩,fun ⟨z,a⟩=>⟨z,(e z).trans a⟩⟩
theorem dom_od (hw:Wf N ns){a:Nat}(h2:2<=a)(ha:a<ns.length)(ho: ¬ lvl ns a % 2=0)(α:Nat->Bool):domR (sem ns a) α=(domR (sem ns (low ns a)) α||domR (sem ns (hig ns a)) α):=by
 refine Bool.eq_iff_iff.2 ?_;rw[domR_iff,Bool.or_eq_true,domR_iff,domR_iff]
 constructor
 ·rintro⟨z,e⟩;rw[Ef hw h2 ha] at e
  split at e
  ·exact .inr ⟨z,e⟩
  ·exact .inl ⟨z,e⟩
 ·rintro(⟨z,e⟩|⟨z,e⟩)
  ·exact⟨_,(J0 hw h2 ha ho false z).trans (by simpa using e)⟩
  ·exact⟨_,(J0 hw h2 ha ho true z).trans (by simpa using e)⟩
theorem Mf:∀ (k:Nat) {kn kn':Kd} {ns ms:Ns} {a id:Nat},Wf N ns->KdOk N ns kn->a<ns.length->dmF most k kn ns a=some (id,kn',ms)->Gr N ns ms/\KdOk N ms kn'/\Is N ms id (lvl ns a) (domR (sem ns a))
 |0,kn,kn',ns,ms,a,id,_,_,_,h=>by cases h
 |k+1,kn,kn',ns,ms,a,id,hw,hk,ha,h=>by
  rw[dmF] at h
  split at h
  ·rename_i id' h1;obtain⟨rfl,h2⟩:=Prod.mk.inj (Option.some.inj h);obtain⟨rfl,rfl⟩:=Prod.mk.inj h2;exact⟨.refl hw,hk,(hk.ok a _ h1).2⟩
  ·rename_i h0;have h2:2<=a:=Nat.le_of_not_lt fun h2=>by
    have:a=0\/a=1:=by omega
    rcases this with rfl|rfl
    ·rw[hk.k0] at h0;cases h0
    ·rw[hk.k1] at h0;cases h0
   obtain⟨c1,c2,c3⟩:=hw.lt a h2 ha;have hu:=hw.up a h2 ha
   split at h
   ·cases h
   ·rename_i l kn1 ns1 h1
    split at h
    ·cases h
    ·rename_i r kn2 ns2 h3;obtain⟨g1,k1,i1⟩:=Mf k hw hk (a:=low ns a) qom h1;obtain⟨g2,k2,i2⟩:=Mf k g1.w k1 (a:=hig ns a) (Nat.lt_of_lt_of_le qom g1.le) h3;rw[g1.lvl qom,dom_gr hw g1 qom] at i2;have j1:=i1.gr g1.w g2;have l1:=j1.lv;have l2:=i2.lv;have fin:∀ {id':Nat} {ns3:Ns},Gr N ns2 ns3->Is N ns3 id' (lvl ns a) (domR (sem ns a))->id=id'->kn'=upsert kn2 a id'->ms=ns3->Gr N ns ms/\KdOk N ms kn'/\Is N ms id (lvl ns a) (domR (sem ns a)):=by
      rintro id' ns3 g3 hI rfl rfl rfl;have g:=(g1.trans g2).trans g3;have k3:=k2.gr g2.w g3;refine⟨g,⟨?_,?_,fun b j e=> ?_⟩,hI⟩
      ·rw[Dp,if_neg qom];exact k3.k0
      ·rw[Dp,if_neg qom];exact k3.k1
      ·rw[Dp] at e
       split at e
       ·rename_i e2;subst e2;obtain rfl:=Option.some.inj e;exact⟨Nat.lt_of_lt_of_le ha g.le,by rw[g.lvl ha,dom_gr hw g ha];exact hI⟩
       ·exact k3.ok b j e
     split at h
     ·rename_i he;cases h4:mkF most ns2 (lvl ns a) l r with
      |none=>rw[h4] at h;cases h
      |some y=>
       obtain⟨id',ns3⟩:=y;rw[h4] at h;obtain⟨rfl,h5⟩:=Prod.mk.inj (Option.some.inj h);obtain⟨rfl,rfl⟩:=Prod.mk.inj h5;obtain⟨g3,i3⟩:=Fp g2.w j1.lt i2.lt c1 qom qom h4;exact fin g3 ⟨i3.lt,i3.lv,fun α=>by rw[i3.sem,j1.sem,i2.sem,dom_ev hw h2 ha he]⟩ rfl U U
     ·rename_i ho;cases h4:orF most ns2 l r with
      |none=>rw[h4] at h;cases h
      |some y=>
       obtain⟨id',ns3⟩:=y;rw[h4] at h;obtain⟨rfl,h5⟩:=Prod.mk.inj (Option.some.inj h);obtain⟨rfl,rfl⟩:=Prod.mk.inj h5;obtain⟨g3,i3⟩:=Fq E8 g2.w j1.lt i2.lt h4;have l3:=i3.lv;refine fin g3 ⟨i3.lt,?_,fun α=>by rw[i3.sem,j1.sem,i2.sem,dom_od hw h2 ha ho]⟩ rfl U U;show lvl ns a<=lvl ns3 id';omega
end
def domF (most:Nat) (bs:List Nat) (ns:Ns) (a:Nat):Option (Nat × Ns):=
 match dmF most (lvl ns 0+1) [(0,0),(1,1)] ns a with
 |none=>none
 |some (s,_,ns1)=>filF most bs ns1 s
section
variable {most:Nat} {ns ms:Ns} {bs:List Nat}
theorem kd_0 {N:Nat}(hw:Wf N ns):KdOk N ns [(0,0),(1,1)]:=⟨rfl,rfl,fun a id e=>by
 rw[Dh] at e;have ht:=hw.two
 split at e
 ·rename_i h0;obtain rfl:=Option.some.inj e;have h0:0=a:=h0;subst h0;refine⟨by omega,Of hw (hw.lvN qom) fun α=>Bool.eq_false_iff.2 fun e=> ?_⟩;obtain⟨z,h⟩:=domR_iff.1 e;cases h
 ·rw[Dh] at e
  split at e
  ·rename_i h1;obtain rfl:=Option.some.inj e;have h1:1=a:=h1;subst h1;exact⟨by omega,Ob hw (hw.lvN qom) fun α=>domR_iff.2 ⟨fun _=>false,rfl⟩⟩
  ·cases e⟩
theorem domF_ok (hb:BsOk bs){a id:Nat}(hw:Wf (2*bs.length) ns)(ha:a<ns.length){D:Hd->Hd->Prop}(hD:Rep bs ns a D)(hDo:∀ {h g},HdOk h->D h g->HdOk g/\Out bs h g)(h:domF most bs ns a=some (id,ms)):Gr (2*bs.length) ns ms/\id<ms.length/\Rep bs ms id fun h g=>g=h/\∃ f,D h f:=by
 unfold domF at h
 split at h
 ·cases h
 ·rename_i s kn' ns1 h1;obtain⟨g1,_,i1⟩:=Mf _ hw (kd_0 hw) ha h1;have hr:RepS bs ns1 s fun h=>gvF ns (xh bs h) a:=fun x z hx=>by
   rw[i1.sem];refine Bool.eq_iff_iff.2 ?_;rw[domR_iff,Gi,gv_iff hw ha]
  obtain⟨g2,l2,r2⟩:=fil_ok hb g1.w i1.lt hr h;refine⟨g1.trans g2,l2,fun x y hx hy o=> ?_⟩;rw[r2 x y hx hy o];show (y=x/\gvF ns (xh bs x) a=true)↔(y=x/\∃ f,D x f);rw[gv_rep hb hw hx ha hD hDo]
def foF (ns:Ns) (l:List (Nat × Nat)) (lv:Nat) (v:Bool):List (Nat × Nat):=(l.map fun p=>(ch ns p.1 lv v,ch ns p.2 lv v)).filter fun q=>q.1 !=q.2
theorem fo_mem {l:List (Nat × Nat)}{lv:Nat}{v:Bool}{q:Nat × Nat}:q∈foF ns l lv v↔(∃ p∈l,q=(ch ns p.1 lv v,ch ns p.2 lv v))/\q.1≠q.2:=by
 unfold foF;rw[List.mem_filter,List.mem_map,bne_iff_ne]
 constructor
 ·rintro⟨⟨p,h1,rfl⟩,h2⟩;exact⟨⟨p,h1,rfl⟩,h2⟩
 ·rintro⟨⟨p,h1,rfl⟩,h2⟩;exact⟨⟨p,h1,rfl⟩,h2⟩
def dfF (ns:Ns):Nat->Nat->List (Nat × Nat)->List Bool
 |0,_,_=>[]
 |r+1,k,l=>
  if (foF ns l (2*k) false).isEmpty then
   true::dfF ns r (k+1) (foF ns (foF ns l (2*k) true) (2*k+1) false++foF ns (foF ns l (2*k) true) (2*k+1) true)
  else false::dfF ns r (k+1) (foF ns (foF ns l (2*k) false) (2*k+1) false++foF ns (foF ns l (2*k) false) (2*k+1) true)
def PsOk (ns:Ns) (k:Nat) (l:List (Nat × Nat)):Prop:=∀ p∈l,p.1<ns.length/\p.2<ns.length/\k<=lvl ns p.1/\k<=lvl ns p.2/\p.1≠p.2
def Dif (ns:Ns) (l:List (Nat × Nat)) (x:Nat->Bool):Prop:=∃ p∈l,∃ z,sem ns p.1 (mixA x z)≠sem ns p.2 (mixA x z)
theorem fo_ps {N:Nat}(hw:Wf N ns){l:List (Nat × Nat)}{k:Nat}(hk:k<N)(h:PsOk ns k l)(v:Bool):PsOk ns (k+1) (foF ns l k v):=fun q hq=>by
 obtain⟨⟨p,hp,rfl⟩,hne⟩:=fo_mem.1 hq;obtain⟨h1,h2,h3,h4,_⟩:=h p hp;exact⟨Cc hw h1 v,Cc hw h2 v,Ej hw h1 h3 hk v,Ej hw h2 h4 hk v,hne⟩
theorem ne_ch {N:Nat}(hw:Wf N ns){a b k:Nat}(ha:a<ns.length)(hb:b<ns.length)(hk:k<N)(hne:a≠b):ch ns a k false≠ch ns b k false\/ch ns a k true≠ch ns b k true:=Classical.byContradiction fun h=>hne (sem_inj hw ha hb fun α=>by
 have h1:ch ns a k false=ch ns b k false:=Classical.byContradiction fun e=>h (.inl e)
 have h2:ch ns a k true=ch ns b k true:=Classical.byContradiction fun e=>h (.inr e)
 rw[Ks hw ha hk α,Ks hw hb hk α];cases α k
 ·rw[h1]
 ·rw[h2])
theorem Ia (hw:Wf (2*bs.length) ns){l:List (Nat × Nat)}{k:Nat}(hk:k<bs.length)(h:PsOk ns (2*k) l){x:Nat->Bool}:Dif ns l x↔Dif ns (foF ns (foF ns l (2*k) (x k)) (2*k+1) false++foF ns (foF ns l (2*k) (x k)) (2*k+1) true) x:=by
 have key:∀ p∈l,∀ z,sem ns p.1 (mixA x z)=sem ns (ch ns (ch ns p.1 (2*k) (x k)) (2*k+1) (z k)) (mixA x z)/\sem ns p.2 (mixA x z)=sem ns (ch ns (ch ns p.2 (2*k) (x k)) (2*k+1) (z k)) (mixA x z):=fun p hp z=>⟨J1 hw (h p hp).1 hk,J1 hw (h p hp).2.1 hk⟩
 constructor
 ·rintro⟨p,hp,z,hz⟩;obtain⟨k1,k2⟩:=key p hp z;rw[k1,k2] at hz;have hne:ch ns (ch ns p.1 (2*k) (x k)) (2*k+1) (z k)≠ch ns (ch ns p.2 (2*k) (x k)) (2*k+1) (z k):=fun e=>hz (by rw[e])
  have hne1:ch ns p.1 (2*k) (x k)≠ch ns p.2 (2*k) (x k):=fun e=>hne (by rw[e])
  refine⟨(ch ns (ch ns p.1 (2*k) (x k)) (2*k+1) (z k),ch ns (ch ns p.2 (2*k) (x k)) (2*k+1) (z k)),List.mem_append.2 ?_,z,hz⟩;have hm:(ch ns p.1 (2*k) (x k),ch ns p.2 (2*k) (x k))∈foF ns l (2*k) (x k):=fo_mem.2 ⟨⟨p,hp,rfl⟩,hne1⟩;cases hz2:z k
  ·rw[hz2] at hne;exact .inl (fo_mem.2 ⟨⟨_,hm,rfl⟩,hne⟩)
  ·rw[hz2] at hne;exact .inr (fo_mem.2 ⟨⟨_,hm,rfl⟩,hne⟩)
 ·rintro⟨q,hq,z,hz⟩;have:∃ v,q∈foF ns (foF ns l (2*k) (x k)) (2*k+1) v:=by
   rcases List.mem_append.1 hq with hq|hq
   ·exact⟨_,hq⟩
   ·exact⟨_,hq⟩
  obtain⟨v,hq⟩:=this;obtain⟨⟨q1,hq1,rfl⟩,_⟩:=fo_mem.1 hq;obtain⟨⟨p,hp,rfl⟩,_⟩:=fo_mem.1 hq1;obtain⟨h1,h2,h3,h4,_⟩:=h p hp;refine⟨p,hp,fun i=>if i=k then v else z i,?_⟩;obtain⟨k1,k2⟩:=key p hp fun i=>if i=k then v else z i
  rw[k1,k2];simp only[if_true];have d:∀ {i:Nat},i<ns.length->2*k+2<=lvl ns i->sem ns i (mixA x fun i=>if i=k then v else z i)=sem ns i (mixA x z):=fun hi hl=>Du hw _ hi _ _ fun j hj _=>by
   unfold mixA
   split
   ·rfl
   ·exact if_neg qom
  have u1:=Ej hw h1 (lv:=2*k) h3 qom (x k);have u2:=Ej hw h2 (lv:=2*k) h4 qom (x k);rw[d (Cc hw (Cc hw h1 _) _) (Ej hw (Cc hw h1 _) (lv:=2*k+1) u1 qom v),d (Cc hw (Cc hw h2 _) _) (Ej hw (Cc hw h2 _) (lv:=2*k+1) u2 qom v)];exact hz
theorem fo_ne (hw:Wf (2*bs.length) ns){l:List (Nat × Nat)}{k:Nat}(hk:k<2*bs.length)(h:PsOk ns k l)(hl:l≠[])(h0:foF ns l k false=[]):foF ns l k true≠[]:=fun h1=>by
 cases l with
 |nil=>exact hl rfl
 |cons p l=>
  obtain⟨a,b,_,_,hne⟩:=h p (by simp);rcases ne_ch hw a b hk hne with e|e
  ·have:(ch ns p.1 k false,ch ns p.2 k false)∈foF ns (p::l) k false:=fo_mem.2 ⟨⟨p,by simp,rfl⟩,e⟩;rw[h0] at this;cases this
  ·have:(ch ns p.1 k true,ch ns p.2 k true)∈foF ns (p::l) k true:=fo_mem.2 ⟨⟨p,by simp,rfl⟩,e⟩;rw[h1] at this;cases this
theorem df_ok (hw:Wf (2*bs.length) ns):∀ (r k:Nat) (l:List (Nat × Nat)),r+k=bs.length->PsOk ns (2*k) l->l≠[]->
  (∀ x:Nat->Bool,(∀ j,j<r->x (k+j)=gd (dfF ns r k l) j)->Dif ns l x)/\
  (∀ x:Nat->Bool,∀ i,i<r->(∀ j,j<i->x (k+j)=gd (dfF ns r k l) j)->x (k+i)=false->gd (dfF ns r k l) i=true->¬ Dif ns l x)
 |0,k,l,hr,hp,hl=>by
  refine⟨fun x _=> ?_,fun x i hi=>by omega⟩;cases l with
  |nil=>exact(hl rfl).elim
  |cons p l=>
   obtain⟨a,b,c,d,hne⟩:=hp p (by simp);have h1:=(hw.end a).1 (by have:=hw.lvN a;omega);have h2:=(hw.end b).1 (by have:=hw.lvN b;omega);refine⟨p,by simp,fun _=>false,?_⟩;rw[Ee _ h1,Ee _ h2];have:(p.1=0\/p.1=1):=by omega
   have:(p.2=0\/p.2=1):=by omega
   rcases ‹p.1=0\/p.1=1› with e|e<;>rcases ‹p.2=0\/p.2=1› with f|f<;>rw[e,f]<;>first|decide|(exfalso;omega)
 |r+1,k,l,hr,hp,hl=>by
  have hk:k<bs.length:=by omega
  have step:∀ v:Bool,foF ns l (2*k) v≠[]->PsOk ns (2*(k+1)) (foF ns (foF ns l (2*k) v) (2*k+1) false++foF ns (foF ns l (2*k) v) (2*k+1) true)/\foF ns (foF ns l (2*k) v) (2*k+1) false++foF ns (foF ns l (2*k) v) (2*k+1) true≠[]:=fun v hv=>by
   have p1:=fo_ps hw qom hp v;refine⟨fun q hq=> ?_,fun e=> ?_⟩
   ·rcases List.mem_append.1 hq with hq|hq
    ·exact fo_ps hw qom p1 _ q hq
    ·exact fo_ps hw qom p1 _ q hq
   ·obtain⟨e1,e2⟩:=List.append_eq_nil_iff.1 e;exact fo_ne hw qom p1 hv e1 e2
  rw[dfF]
  by_cases he:(foF ns l (2*k) false).isEmpty=true
  ·rw[if_pos he];have h0:foF ns l (2*k) false=[]:=by simpa using he
   obtain⟨s1,s2⟩:=step true (fo_ne hw qom hp hl h0);obtain⟨i1,i2⟩:=df_ok hw r (k+1) _ qom s1 s2
   generalize dfF ns r (k+1) _=t at *;refine⟨fun x hx=> ?_,fun x i hi hx h1 h2=> ?_⟩
   ·have hxk:x k=true:=by simpa[gd] using hx 0 qom
    rw[Ia hw hk hp,hxk];exact i1 x fun j hj=>by have:=hx (j+1) qom;rw[show k+1+j=k+(j+1) by omega,this];rfl
   ·cases i with
    |zero=>
     have h1:x k=false:=h1;rw[Ia hw hk hp,h1,h0];rintro⟨q,hq,_⟩;simp[foF] at hq
    |succ i=>
     have hxk:x k=true:=by simpa[gd] using hx 0 qom
     rw[Ia hw hk hp,hxk];exact i2 x i qom (fun j hj=>by have:=hx (j+1) qom;rw[show k+1+j=k+(j+1) by omega,this];rfl) (by rw[show k+1+i=k+(i+1) by omega];exact h1) h2
  ·rw[if_neg he];have h0:foF ns l (2*k) false≠[]:=by simpa using he
   obtain⟨s1,s2⟩:=step false h0;obtain⟨i1,i2⟩:=df_ok hw r (k+1) _ qom s1 s2
   generalize dfF ns r (k+1) _=t at *;refine⟨fun x hx=> ?_,fun x i hi hx h1 h2=> ?_⟩
   ·have hxk:x k=false:=by simpa[gd] using hx 0 qom
    rw[Ia hw hk hp,hxk];exact i1 x fun j hj=>by have:=hx (j+1) qom;rw[show k+1+j=k+(j+1) by omega,this];rfl
   ·cases i with
    |zero=>simp[gd] at h2
    |succ i=>
     have hxk:x k=false:=by simpa[gd] using hx 0 qom
     rw[Ia hw hk hp,hxk];exact i2 x i qom (fun j hj=>by have:=hx (j+1) qom;rw[show k+1+j=k+(j+1) by omega,this];rfl) (by rw[show k+1+i=k+(i+1) by omega];exact h1) h2
end
section
variable {bs:List Nat} {ns:Ns}
def bhF (bs:List Nat) (l:List Bool):Hd:=hdOf fun b=>decide (b∈bs)&&gd l (bs.idxOf b)
theorem Jc (l:List Bool):HdOk (bhF bs l):=Ck _
theorem bh_xh (hb:BsOk bs)(l:List Bool){k:Nat}(hk:k<bs.length):xh bs (bhF bs l) k=gd l k:=by
 unfold xh bhF;rw[Br _ (Ek hb hk),decide_eq_true (Ax hk),Bool.true_and];have hi:bs.idxOf (gd bs k)<bs.length:=List.idxOf_lt_length_iff.2 (Ax hk)
 congr 1
 refine Jk hb hi hk ?_;rw[Ar hi,List.getElem_idxOf]
theorem bh_out (l:List Bool){b:Nat}(h1:b<160)(h2:b∉bs):hbit (bhF bs l) b=false:=by
 unfold bhF;rw[Br _ h1,decide_eq_false h2,Bool.false_and]
def dhF (ns:Ns) (bs:List Nat) (a b:Nat):Hd:=bhF bs (dfF ns bs.length 0 [(a,b)])
theorem dif_one {a b:Nat}{x:Nat->Bool}:Dif ns [(a,b)] x↔∃ z,sem ns a (mixA x z)≠sem ns b (mixA x z):=by
 constructor
 ·rintro⟨p,hp,h⟩;obtain rfl:=List.mem_singleton.1 hp;exact h
 ·intro h;exact⟨(a,b),by simp,h⟩
theorem differ_ok (hb:BsOk bs)(hw:Wf (2*bs.length) ns){a b:Nat}(ha:a<ns.length)(hb':b<ns.length)(hne:a≠b){D E:Hd->Hd->Prop}(hD:Rep bs ns a D)(hE:Rep bs ns b E)(hDo:∀ {h g},HdOk h->D h g->HdOk g/\Out bs h g)(hEo:∀ {h g},HdOk h->E h g->HdOk g/\Out bs h g):
  (∃ g,¬ (D (dhF ns bs a b) g↔E (dhF ns bs a b) g))/\∀ h,HdOk h->hLt h (dhF ns bs a b)->∀ g,D h g↔E h g:=by
 obtain⟨h1,h2⟩:=df_ok hw bs.length 0 [(a,b)] qom (fun p hp=>by
  obtain rfl:=List.mem_singleton.1 hp;exact⟨ha,hb',by omega,by omega,hne⟩) (by simp)
 have hok:HdOk (dhF ns bs a b):=Jc _
 constructor
 ·obtain⟨z,hz⟩:=dif_one.1 (h1 (xh bs (dhF ns bs a b)) fun j hj=>by rw[Nat.zero_add];exact bh_xh hb _ hj);obtain⟨g,g1,g2,g3⟩:=Ir hb (dhF ns bs a b) z;refine⟨g,fun e=>hz ?_⟩;rw[<- hD _ g hok g1 g2,<- hE _ g hok g1 g2,Ep hw ha (fun _ _=>rfl) g3,Ep hw hb' (fun _ _=>rfl) g3] at e;exact Bool.eq_iff_iff.2 e
 ·intro h hh hlt g;obtain⟨c,hc,e1,e2,e3⟩:=hlt;have hcb:c∈bs:=Classical.byContradiction fun hn=>by
   unfold dhF at e3;rw[bh_out _ hc hn] at e3;cases e3
  obtain⟨i,hi,rfl⟩:=bs_idx hb hcb;have hno:=h2 (xh bs h) i hi (fun j hj=>by
   have hj2:j<bs.length:=by omega
   have:gd bs j<gd bs i:=by
    have:=List.pairwise_iff_getElem.1 hb.up j i hj2 hi hj;rw[Ar hj2,Ar hi];exact this
   rw[Nat.zero_add,<- bh_xh hb _ hj2];exact e1 _ this) (by rw[Nat.zero_add];exact e2) (by rw[<- bh_xh hb _ hi];exact e3)
  have heq:∀ z,sem ns a (mixA (xh bs h) z)=sem ns b (mixA (xh bs h) z):=fun z=>Classical.byContradiction fun hz=>hno (dif_one.2 ⟨z,hz⟩)
  constructor
  ·intro d;obtain⟨g1,g2⟩:=hDo hh d;rw[<- hE h g hh g1 g2,<- heq,hD h g hh g1 g2];exact d
  ·intro d;obtain⟨g1,g2⟩:=hEo hh d;rw[<- hD h g hh g1 g2,heq,hE h g hh g1 g2];exact d
end
abbrev Md:=Hd × Hd
def appM (m:Md) (h:Hd):Hd:=hdOf fun b=>if hbit m.1 b then hbit m.2 b else hbit h b
def matM (p:Md) (h:Hd):Prop:=∀ b,b<160->hbit p.1 b=true->hbit h b=hbit p.2 b
def chg (m:Md) (b:Nat) (v:Bool):Md:=(hput m.1 b true,hput m.2 b v)
abbrev Prt:=Md × Nat
def onP (m:Md) (c:Nat):List Prt:=if c=0 then [] else [(m,c)]
def cF (ns:Ns) (k id:Nat) (v w:Bool):Nat:=ch ns (ch ns id (2*k) v) (2*k+1) w
def spF (ns:Ns) (k b:Nat) (v:Bool) (x:Prt):List Prt:=onP (if v=false then x.1 else chg x.1 b false) (cF ns k x.2 v false)++onP (if v=true then x.1 else chg x.1 b true) (cF ns k x.2 v true)
def jnB (ns:Ns) (k:Nat) (x:Prt):Bool:=(cF ns k x.2 false true==0&&(cF ns k x.2 true false==0&&cF ns k x.2 false false==cF ns k x.2 true true))||(cF ns k x.2 false false==cF ns k x.2 true false&&cF ns k x.2 false true==cF ns k x.2 true true)
def jnF (ns:Ns) (k b:Nat) (x:Prt):List Prt:=
 if cF ns k x.2 false true=0/\cF ns k x.2 true false=0/\cF ns k x.2 false false=cF ns k x.2 true true then onP x.1 (cF ns k x.2 false false)
 else onP (chg x.1 b false) (cF ns k x.2 false false)++onP (chg x.1 b true) (cF ns k x.2 false true)
def rsF (ns:Ns) (bs:List Nat):Nat->Nat->Md->List Prt->List (Md × List Md)
 |r,k,p,l=>
  if l=[] then [] else
   match r with
   |0=>[(p,l.map fun x=>x.1)]
   |r+1=>
    if l.all (jnB ns k) then rsF ns bs r (k+1) p (l.flatMap (jnF ns k (gd bs k)))
    else rsF ns bs r (k+1) (chg p (gd bs k) false) (l.flatMap (spF ns k (gd bs k) false))++rsF ns bs r (k+1) (chg p (gd bs k) true) (l.flatMap (spF ns k (gd bs k) true))
structure MdOk (bs:List Nat) (k:Nat) (m:Md):Prop where
 o1:HdOk m.1
 o2:HdOk m.2
 sub:∀ b,b<160->hbit m.2 b=true->hbit m.1 b=true
 on:∀ b,b<160->hbit m.1 b=true->∃ j,j<k/\j<bs.length/\b=gd bs j
section
variable {bs:List Nat} {ns:Ns}
theorem He (b:Nat):hbit [0,0,0,0,0,0,0,0,0,0] b=false:=by
 have h:∀ i,gd ([0,0,0,0,0,0,0,0,0,0]:List Nat) i=0:=fun i=>by
  by_cases hi:i<([0,0,0,0,0,0,0,0,0,0]:List Nat).length
  ·have:=Ax hi
   simpa using this
  ·unfold gd List.getD;rw[List.getElem?_eq_none qom];rfl
 unfold hbit;rw[h];simp
abbrev hd0:Hd:=[0,0,0,0,0,0,0,0,0,0]
theorem Ay:HdOk hd0:=⟨rfl,fun w hw=>by simp at hw;omega⟩
theorem Mr (k:Nat):MdOk bs k (hd0,hd0):=⟨Ay,Ay,fun b _ h=>(by rw[He] at h;cases h),fun b _ h=>(by rw[He] at h;cases h)⟩
theorem MdOk.up {k k':Nat}{m:Md}(h:MdOk bs k m)(hk:k<=k'):MdOk bs k' m:=⟨h.o1,h.o2,h.sub,fun b h1 h2=>by
 obtain⟨j,a,c,d⟩:=h.on b h1 h2;exact⟨j,by omega,c,d⟩⟩
theorem Kv (hb:BsOk bs){k:Nat}(hk:k<bs.length){m:Md}(h:MdOk bs k m)(v:Bool):MdOk bs (k+1) (chg m (gd bs k) v):=by
 refine⟨Cm _ _ _,Cm _ _ _,fun b h1 h2=> ?_,fun b h1 h2=> ?_⟩
 ·unfold chg at h2 ⊢;rw[Dq _ _ _ h1] at h2 ⊢
  split
  ·rfl
  ·rename_i e;rw[if_neg e] at h2;exact h.sub b h1 h2
 ·unfold chg at h2;rw[Dq _ _ _ h1] at h2
  by_cases e:b=gd bs k
  ·exact⟨k,by omega,hk,e⟩
  ·rw[if_neg e] at h2;obtain⟨j,a,c,d⟩:=h.on b h1 h2;exact⟨j,by omega,c,d⟩
theorem Ft (m:Md)(h:Hd):HdOk (appM m h):=Ck _
theorem E9 (m:Md)(h:Hd){b:Nat}(hb:b<160):hbit (appM m h) b=if hbit m.1 b then hbit m.2 b else hbit h b:=Br _ hb
theorem app_out {k:Nat}{m:Md}(hm:MdOk bs k m)(h:Hd):Out bs h (appM m h):=fun b h1 h2=>by
 rw[E9 _ _ h1]
 split
 ·rename_i e;obtain⟨j,_,c,d⟩:=hm.on b h1 e;exact(h2 (by rw[d];exact Ax c)).elim
 ·rfl
theorem app_at (hb:BsOk bs){k j:Nat}(hj:j<bs.length)(hk:k<=j){m:Md}(hm:MdOk bs k m)(h:Hd):xh bs (appM m h) j=xh bs h j:=by
 unfold xh;rw[E9 _ _ (Ek hb hj)]
 split
 ·rename_i e;obtain⟨i,a,c,d⟩:=hm.on _ (Ek hb hj) e;have:=Jk hb hj c d;omega
 ·rfl
theorem F7 (hb:BsOk bs){k j:Nat}(hk:k<bs.length)(hj:j<bs.length)(m:Md)(v:Bool)(h:Hd):xh bs (appM (chg m (gd bs k) v) h) j=if j=k then v else xh bs (appM m h) j:=by
 unfold xh;rw[E9 _ _ (Ek hb hj),E9 _ _ (Ek hb hj)];unfold chg;rw[Dq _ _ _ (Ek hb hj),Dq _ _ _ (Ek hb hj)]
 by_cases e:j=k
 ·subst e;simp
 ·rw[if_neg (fun e2=>e (Jk hb hj hk e2)),if_neg (fun e2=>e (Jk hb hj hk e2)),if_neg e]
theorem Et (hb:BsOk bs){k:Nat}(hk:k<bs.length){p:Md}(hp:MdOk bs k p){v:Bool}{h:Hd}:matM (chg p (gd bs k) v) h↔matM p h/\xh bs h k=v:=by
 have hn:hbit p.1 (gd bs k)=false:=Bool.eq_false_iff.2 fun e=>by
  obtain⟨i,a,c,d⟩:=hp.on _ (Ek hb hk) e;have:=Jk hb hk c d;omega
 constructor
 ·intro hm;refine⟨fun b h1 h2=> ?_,?_⟩
  ·have:=hm b h1;unfold chg at this;rw[Dq _ _ _ h1,Dq _ _ _ h1] at this
   by_cases e:b=gd bs k
   ·subst e;rw[hn] at h2;cases h2
   ·rw[if_neg e,if_neg e] at this;exact this h2
  ·have:=hm _ (Ek hb hk);unfold chg at this;rw[Dq _ _ _ (Ek hb hk),Dq _ _ _ (Ek hb hk),if_pos U,if_pos rfl] at this;exact this U
 ·rintro⟨hm,hx⟩ b h1 h2;unfold chg at h2 ⊢;rw[Dq _ _ _ h1] at h2 ⊢
  by_cases e:b=gd bs k
  ·rw[if_pos e];subst e;exact hx
  ·rw[if_neg e] at h2 ⊢;exact hm b h1 h2
structure PtOk (bs:List Nat) (ns:Ns) (k:Nat) (x:Prt):Prop where
 m:MdOk bs k x.1
 lt:x.2<ns.length
 lv:2*k<=lvl ns x.2
 ne:x.2≠0
def Dst (bs:List Nat) (k:Nat) (h:Hd) (x y:Prt):Prop:=∃ j,j<k/\xh bs (appM x.1 h) j≠xh bs (appM y.1 h) j
def Say (bs:List Nat) (ns:Ns) (k:Nat) (h f:Hd) (x:Prt):Prop:=(∀ j,j<k->xh bs f j=xh bs (appM x.1 h) j)/\sem ns x.2 (mixA (xh bs h) (xh bs f))=true
theorem on_mem {m:Md}{c:Nat}{y:Prt}:y∈onP m c↔c≠0/\y=(m,c):=by
 unfold onP;split
 ·rename_i e;simp[e]
 ·rename_i e;simp[e]
structure Rpl (bs:List Nat) (ns:Ns) (k:Nat) (h:Hd) (x:Prt) (F:List Prt):Prop where
 ok:∀ y∈F,PtOk bs ns (k+1) y
 eq:∀ y∈F,∀ j,j<k->xh bs (appM y.1 h) j=xh bs (appM x.1 h) j
 ds:F.Pairwise fun y z=>xh bs (appM y.1 h) k≠xh bs (appM z.1 h) k
 say:∀ f:Hd,sem ns x.2 (mixA (xh bs h) (xh bs f))=true↔∃ y∈F,xh bs f k=xh bs (appM y.1 h) k/\sem ns y.2 (mixA (xh bs h) (xh bs f))=true
theorem c_lt (hw:Wf (2*bs.length) ns){k id:Nat}(hi:id<ns.length)(v w:Bool):cF ns k id v w<ns.length:=Cc hw (Cc hw hi v) w
theorem c_up (hw:Wf (2*bs.length) ns){k id:Nat}(hk:k<bs.length)(hi:id<ns.length)(hl:2*k<=lvl ns id)(v w:Bool):2*(k+1)<=lvl ns (cF ns k id v w):=by
 have h1:=Ej hw hi (lv:=2*k) hl qom v;have h2:=Ej hw (Cc hw hi v) (lv:=2*k+1) h1 qom w;unfold cF;omega
theorem rpl_two (hb:BsOk bs)(hw:Wf (2*bs.length) ns){k:Nat}(hk:k<bs.length){x:Prt}(hx:PtOk bs ns k x){h:Hd}{m0 m1:Md}(h0:MdOk bs (k+1) m0)(h1:MdOk bs (k+1) m1)(e0:∀ j,j<k->xh bs (appM m0 h) j=xh bs (appM x.1 h) j)(e1:∀ j,j<k->xh bs (appM m1 h) j=xh bs (appM x.1 h) j)(k0:xh bs (appM m0 h) k=false)(k1:xh bs (appM m1 h) k=true){c0 c1:Nat}(hc0:c0=cF ns k x.2 (xh bs h k) false)(hc1:c1=cF ns k x.2 (xh bs h k) true):Rpl bs ns k h x (onP m0 c0++onP m1 c1):=by
 subst hc0;subst hc1;refine⟨fun y hy=> ?_,fun y hy=> ?_,?_,fun f=> ?_⟩
 ·rcases List.mem_append.1 hy with hy|hy
  ·obtain⟨a,rfl⟩:=on_mem.1 hy;exact⟨h0,c_lt hw hx.lt _ _,c_up hw hk hx.lt hx.lv _ _,a⟩
  ·obtain⟨a,rfl⟩:=on_mem.1 hy;exact⟨h1,c_lt hw hx.lt _ _,c_up hw hk hx.lt hx.lv _ _,a⟩
 ·rcases List.mem_append.1 hy with hy|hy
  ·obtain⟨a,rfl⟩:=on_mem.1 hy;exact e0
  ·obtain⟨a,rfl⟩:=on_mem.1 hy;exact e1
 ·refine List.pairwise_append.2 ⟨?_,?_,fun y hy z hz=> ?_⟩
  ·unfold onP;split<;>simp
  ·unfold onP;split<;>simp
  ·obtain⟨a,rfl⟩:=on_mem.1 hy;obtain⟨b,rfl⟩:=on_mem.1 hz;rw[k0,k1];simp
 ·rw[J1 hw hx.lt hk];show sem ns (cF ns k x.2 (xh bs h k) (xh bs f k)) _=true↔_
  constructor
  ·intro e;rcases Bool.eq_false_or_eq_true (xh bs f k) with hf|hf
   ·rw[hf] at e;refine⟨(m1,cF ns k x.2 (xh bs h k) true),List.mem_append.2 (.inr (on_mem.2 ⟨fun e0=> ?_,rfl⟩)),by rw[hf,k1],e⟩;rw[e0,E6] at e;cases e
   ·rw[hf] at e;refine⟨(m0,cF ns k x.2 (xh bs h k) false),List.mem_append.2 (.inl (on_mem.2 ⟨fun e0=> ?_,rfl⟩)),by rw[hf,k0],e⟩;rw[e0,E6] at e;cases e
  ·rintro⟨y,hy,hf,e⟩;rcases List.mem_append.1 hy with hy|hy
   ·obtain⟨a,rfl⟩:=on_mem.1 hy;rw[hf,k0];exact e
   ·obtain⟨a,rfl⟩:=on_mem.1 hy;rw[hf,k1];exact e
theorem rpl_sp (hb:BsOk bs)(hw:Wf (2*bs.length) ns){k:Nat}(hk:k<bs.length){x:Prt}(hx:PtOk bs ns k x){h:Hd}{v:Bool}(hv:xh bs h k=v):Rpl bs ns k h x (spF ns k (gd bs k) v x):=by
 subst hv;have hs:xh bs (appM x.1 h) k=xh bs h k:=app_at hb hk (Nat.le_refl _) hx.m h;unfold spF;refine rpl_two hb hw hk hx ?_ ?_ (fun j hj=> ?_) (fun j hj=> ?_) ?_ ?_ U U
 ·split
  ·exact hx.m.up qom
  ·exact Kv hb hk hx.m _
 ·split
  ·exact hx.m.up qom
  ·exact Kv hb hk hx.m _
 ·split
  ·rfl
  ·rw[F7 hb hk qom,if_neg qom]
 ·split
  ·rfl
  ·rw[F7 hb hk qom,if_neg qom]
 ·split
  ·rename_i e;rw[hs,e]
  ·rw[F7 hb hk hk,if_pos rfl]
 ·split
  ·rename_i e;rw[hs,e]
  ·rw[F7 hb hk hk,if_pos rfl]
theorem rpl_jn (hb:BsOk bs)(hw:Wf (2*bs.length) ns){k:Nat}(hk:k<bs.length){x:Prt}(hx:PtOk bs ns k x){h:Hd}(hj:jnB ns k x=true):Rpl bs ns k h x (jnF ns k (gd bs k) x):=by
 have hs:xh bs (appM x.1 h) k=xh bs h k:=app_at hb hk (Nat.le_refl _) hx.m h;unfold jnF
 split
 ·rename_i c;obtain⟨c1,c2,c3⟩:=c;refine⟨fun y hy=> ?_,fun y hy j _=> ?_,?_,fun f=> ?_⟩
  ·obtain⟨a,rfl⟩:=on_mem.1 hy;exact⟨hx.m.up qom,c_lt hw hx.lt _ _,c_up hw hk hx.lt hx.lv _ _,a⟩
  ·obtain⟨a,rfl⟩:=on_mem.1 hy;rfl
  ·unfold onP;split<;>simp
  ·rw[J1 hw hx.lt hk];show sem ns (cF ns k x.2 (xh bs h k) (xh bs f k)) _=true↔_
   constructor
   ·intro e;have hq:xh bs f k=xh bs h k/\cF ns k x.2 (xh bs h k) (xh bs f k)=cF ns k x.2 false false:=by
     rcases Bool.eq_false_or_eq_true (xh bs f k) with hf|hf<;>rcases Bool.eq_false_or_eq_true (xh bs h k) with hh|hh<;>rw[hf,hh] at e ⊢
     ·exact⟨rfl,c3.symm⟩
     ·rw[c1,E6] at e;cases e
     ·rw[c2,E6] at e;cases e
     ·exact⟨rfl,rfl⟩
    rw[hq.2] at e;refine⟨_,on_mem.2 ⟨fun e0=> ?_,rfl⟩,by rw[hs];exact hq.1,e⟩;rw[e0,E6] at e;cases e
   ·rintro⟨y,hy,hf,e⟩;obtain⟨a,rfl⟩:=on_mem.1 hy;rw[hf,hs];rcases Bool.eq_false_or_eq_true (xh bs h k) with hh|hh<;>rw[hh]
    ·rw[<- c3];exact e
    ·exact e
 ·rename_i c;have hc:cF ns k x.2 false false=cF ns k x.2 true false/\cF ns k x.2 false true=cF ns k x.2 true true:=by
   unfold jnB at hj;simp only[Bool.or_eq_true,Bool.and_eq_true,beq_iff_eq] at hj;exact hj.resolve_left fun e=>c ⟨e.1,e.2.1,e.2.2⟩
  have hv:∀ v w,cF ns k x.2 false w=cF ns k x.2 v w:=fun v w=>by
   cases v
   ·rfl
   ·cases w
    ·exact hc.1
    ·exact hc.2
  exact rpl_two hb hw hk hx (Kv hb hk hx.m _) (Kv hb hk hx.m _) (fun j hj=>by rw[F7 hb hk qom,if_neg qom]) (fun j hj=>by rw[F7 hb hk qom,if_neg qom]) (by rw[F7 hb hk hk,if_pos rfl]) (by rw[F7 hb hk hk,if_pos rfl]) (hv _ _) (hv _ _)
theorem La {k:Nat}{h:Hd}{l:List Prt}{G:Prt->List Prt}(hr:∀ x∈l,Rpl bs ns k h x (G x))(hd:l.Pairwise (Dst bs k h)):(∀ y∈l.flatMap G,PtOk bs ns (k+1) y)/\(l.flatMap G).Pairwise (Dst bs (k+1) h)/\∀ f:Hd,(∃ x∈l,Say bs ns k h f x)↔∃ y∈l.flatMap G,Say bs ns (k+1) h f y:=by
 refine⟨fun y hy=> ?_,?_,fun f=> ?_⟩
 ·obtain⟨x,hx,hy⟩:=List.mem_flatMap.1 hy;exact(hr x hx).ok y hy
 ·rw[List.pairwise_flatMap];refine⟨fun x hx=>(hr x hx).ds.imp fun e=>⟨k,by omega,e⟩,?_⟩;have:∀ {l:List Prt},(∀ x∈l,Rpl bs ns k h x (G x))->l.Pairwise (Dst bs k h)->l.Pairwise fun a b=>∀ x∈G a,∀ y∈G b,Dst bs (k+1) h x y:=by
   intro l hr hd
   induction hd with
   |nil=>exact .nil
   |cons h1 _ ih=>
    refine .cons (fun b hb2 x hx y hy=> ?_) (ih fun x hx=>hr x (List.mem_cons_of_mem _ hx));obtain⟨j,hj,e⟩:=h1 b hb2;refine⟨j,by omega,?_⟩;rw[(hr _ (List.mem_cons_self ..)).eq x hx j hj,(hr b (List.mem_cons_of_mem _ hb2)).eq y hy j hj];exact e
  exact this hr hd
 ·constructor
  ·rintro⟨x,hx,h1,h2⟩;obtain⟨y,hy,h3,h4⟩:=((hr x hx).say f).1 h2;refine⟨y,List.mem_flatMap.2 ⟨x,hx,hy⟩,fun j hj=> ?_,h4⟩
   by_cases e:j=k
   ·subst e;exact h3
   ·rw[(hr x hx).eq y hy j qom];exact h1 j qom
  ·rintro⟨y,hy,h1,h2⟩;obtain⟨x,hx,hy⟩:=List.mem_flatMap.1 hy;exact⟨x,hx,fun j hj=>by rw[<- (hr x hx).eq y hy j hj];exact h1 j qom,((hr x hx).say f).2 ⟨y,hy,h1 k qom,h2⟩⟩
structure RsOk (bs:List Nat) (ns:Ns) (k:Nat) (p:Md) (l:List Prt) (R:List (Md × List Md)):Prop where
 ok:∀ c∈R,MdOk bs bs.length c.1/\(∀ m∈c.2,MdOk bs bs.length m)/\c.2≠[]
 sub:∀ c∈R,∀ h,matM c.1 h->matM p h
 one:R.Pairwise fun c d=>∀ h,¬ (matM c.1 h/\matM d.1 h)
 say:∀ c∈R,∀ h f,HdOk h->HdOk f->matM c.1 h->(f∈c.2.map (fun m=>appM m h)↔Out bs h f/\∃ x∈l,Say bs ns k h f x)
 nd:∀ c∈R,∀ h,matM c.1 h->(c.2.map fun m=>appM m h).Pairwise (·≠·)
 all:∀ h f,HdOk h->matM p h->(∃ x∈l,Say bs ns k h f x)->∃ c∈R,matM c.1 h
 some:∀ c∈R,∃ h,HdOk h/\matM c.1 h
theorem J2 {k:Nat}{p:Md}(hp:MdOk bs k p):matM p p.2:=fun b _ _=>rfl
theorem rs_ok (hb:BsOk bs)(hw:Wf (2*bs.length) ns):∀ (r k:Nat) (p:Md) (l:List Prt),r+k=bs.length->MdOk bs k p->(∀ x∈l,PtOk bs ns k x)->(∀ h,matM p h->l.Pairwise (Dst bs k h))->RsOk bs ns k p l (rsF ns bs r k p l)
 |r,k,p,l,hr,hp,hl,hd=>by
  unfold rsF
  by_cases h0:l=[]
  ·rw[if_pos h0];subst h0;exact⟨fun c hc=>(by cases hc),fun c hc=>(by cases hc), .nil,fun c hc=>(by cases hc),fun c hc=>(by cases hc),fun h f _ _ ⟨x,hx,_⟩=>(by cases hx),fun c hc=>(by cases hc)⟩
  ·rw[if_neg h0];cases r with
   |zero=>
    have hk:k=bs.length:=by omega
    subst hk;have hsem:∀ x∈l,∀ α,sem ns x.2 α=true:=fun x hx α=>by
     have:=(hw.end (hl x hx).lt).1 (by have:=hw.lvN (hl x hx).lt;have:=(hl x hx).lv;omega);have hne:=(hl x hx).ne;rw[Ee _ this,show x.2=1 by omega];rfl
    refine⟨fun c hc=> ?_,fun c hc h hm=> ?_,List.pairwise_singleton ..,fun c hc h f hh hf hm=> ?_,fun c hc h hm=> ?_,fun h f hh hm _=>⟨(p,l.map fun x=>x.1),by simp,hm⟩,fun c hc=> ?_⟩
    ·obtain rfl:=List.mem_singleton.1 hc;exact⟨hp,fun m hm=>by obtain⟨x,hx,rfl⟩:=List.mem_map.1 hm;exact(hl x hx).m,by simpa using h0⟩
    ·obtain rfl:=List.mem_singleton.1 hc;exact hm
    ·obtain rfl:=List.mem_singleton.1 hc;rw[List.mem_map]
     constructor
     ·rintro⟨m,hm,rfl⟩;obtain⟨x,hx,rfl⟩:=List.mem_map.1 hm;exact⟨app_out (hl x hx).m h,x,hx,fun _ _=>rfl,hsem x hx _⟩
     ·rintro⟨o,x,hx,h1,_⟩;exact⟨x.1,List.mem_map.2 ⟨x,hx,rfl⟩,Mp hb (Ft _ _) hf ((app_out (hl x hx).m h).symm.trans o) fun j hj=>(h1 j hj).symm⟩
    ·obtain rfl:=List.mem_singleton.1 hc;rw[List.pairwise_map,List.pairwise_map];exact(hd h hm).imp fun ⟨j,_,e⟩ e2=>e (by rw[e2])
    ·obtain rfl:=List.mem_singleton.1 hc;exact⟨p.2,hp.o2,J2 hp⟩
   |succ r=>
    have hk:k<bs.length:=by omega
    have step:∀ (p':Md) (G:Prt->List Prt),MdOk bs (k+1) p'->(∀ h,matM p' h->matM p h)->(∀ h,matM p' h->∀ x∈l,Rpl bs ns k h x (G x))->RsOk bs ns (k+1) p' (l.flatMap G) (rsF ns bs r (k+1) p' (l.flatMap G))/\∀ h,matM p' h->∀ f,(∃ x∈l,Say bs ns k h f x)↔∃ y∈l.flatMap G,Say bs ns (k+1) h f y:=fun p' G hp' hsub hG=>by
     refine⟨rs_ok hb hw r (k+1) p' (l.flatMap G) qom hp' ?_ fun h hm=>(La (hG h hm) (hd h (hsub h hm))).2.1,fun h hm=>(La (hG h hm) (hd h (hsub h hm))).2.2⟩;exact(La (hG p'.2 (J2 hp')) (hd p'.2 (hsub _ (J2 hp')))).1
    by_cases hj:l.all (jnB ns k)=true
    ·simp only[hj,if_true];obtain⟨R,e⟩:=step p (jnF ns k (gd bs k)) (hp.up qom) (fun _ h=>h) fun h _ x hx=>rpl_jn hb hw hk (hl x hx) (List.all_eq_true.1 hj x hx)
     exact⟨R.ok,R.sub,R.one,fun c hc h f hh hf hm=>by rw[e h (R.sub c hc h hm) f];exact R.say c hc h f hh hf hm,R.nd,fun h f hh hm hx=>R.all h f hh hm ((e h hm f).1 hx),R.some⟩
    ·simp only[hj];have stp:=fun v=>step (chg p (gd bs k) v) (spF ns k (gd bs k) v) (Kv hb hk hp v) (fun h hm=>((Et hb hk hp).1 hm).1) fun h hm x hx=>rpl_sp hb hw hk (hl x hx) ((Et hb hk hp).1 hm).2
     obtain⟨R0,e0⟩:=stp false;obtain⟨R1,e1⟩:=stp true;refine⟨fun c hc=> ?_,fun c hc h hm=> ?_,?_,fun c hc h f hh hf hm=> ?_,fun c hc h hm=> ?_,fun h f hh hm hx=> ?_,fun c hc=> ?_⟩
     ·rcases List.mem_append.1 hc with hc|hc
      ·exact R0.ok c hc
      ·exact R1.ok c hc
     ·rcases List.mem_append.1 hc with hc|hc
      ·exact((Et hb hk hp).1 (R0.sub c hc h hm)).1
      ·exact((Et hb hk hp).1 (R1.sub c hc h hm)).1
     ·refine List.pairwise_append.2 ⟨R0.one,R1.one,fun c hc d hd h hm=> ?_⟩;have a0:=((Et hb hk hp).1 (R0.sub c hc h hm.1)).2;have a1:=((Et hb hk hp).1 (R1.sub d hd h hm.2)).2;rw[a0] at a1;cases a1
     ·rcases List.mem_append.1 hc with hc|hc
      ·rw[e0 h (R0.sub c hc h hm) f];exact R0.say c hc h f hh hf hm
      ·rw[e1 h (R1.sub c hc h hm) f];exact R1.say c hc h f hh hf hm
     ·rcases List.mem_append.1 hc with hc|hc
      ·exact R0.nd c hc h hm
      ·exact R1.nd c hc h hm
     ·rcases Bool.eq_false_or_eq_true (xh bs h k) with hv|hv
      ·have hm1:=(Et hb hk hp (v:=true)).2 ⟨hm,hv⟩;obtain⟨c,hc,h1⟩:=R1.all h f hh hm1 ((e1 h hm1 f).1 hx);exact⟨c,List.mem_append.2 (.inr hc),h1⟩
      ·have hm1:=(Et hb hk hp (v:=false)).2 ⟨hm,hv⟩;obtain⟨c,hc,h1⟩:=R0.all h f hh hm1 ((e0 h hm1 f).1 hx);exact⟨c,List.mem_append.2 (.inl hc),h1⟩
     ·rcases List.mem_append.1 hc with hc|hc
      ·exact R0.some c hc
      ·exact R1.some c hc
end
noncomputable def fz {α:Type} (x:Nat) (f:Nat->α):α:=Nat.rec (motive:=fun _=>α) (f 0) (fun n _=>f (n+1)) x
theorem K7 {α:Type}(x:Nat)(f:Nat->α):fz x f=f x:=by cases x<;>rfl
noncomputable def iB {α:Type} (b:Bool) (x y:α):α:=Bool.rec (motive:=fun _=>α) y x b
theorem nbeq {a b:Nat}:Nat.beq a b=true↔a=b:=⟨Nat.eq_of_beq_eq_true,fun h=>by subst h;exact Nat.beq_refl a⟩
theorem C6 {α:Type}(b:Bool)(x y:α):iB b x y=if b then x else y:=by cases b<;>rfl
noncomputable def bO {α β:Type} (o:Option α) (f:α->Option β):Option β:=Option.rec (motive:=fun _=>Option β) none f o
theorem A4 {α β:Type}{o:Option α}{f:α->Option β}{y:β}(h:bO o f=some y):∃ x,o=some x/\f x=some y:=by
 cases o with
 |none=>cases h
 |some x=>exact⟨x,rfl,h⟩
structure Fs where
 S:Nat
 n:Nat
 B:Nat
 c:List Nat
def gN (S i:Nat):Nat:=Nat.mod (Nat.shiftRight S (Nat.mul 36 i)) 68719476736
def enN (x:Nd):Nat:=x.1+128*(x.2.1+16384*x.2.2)
def lvC (s:Fs) (i:Nat):Nat:=Nat.mod (gN s.S i) 128
def loC (s:Fs) (i:Nat):Nat:=Nat.mod (Nat.div (gN s.S i) 128) 16384
def hiC (s:Fs) (i:Nat):Nat:=Nat.div (gN s.S i) 2097152
def hsC (lv l h:Nat):Nat:=Nat.mod (Nat.add (Nat.add (Nat.mul lv 17486) (Nat.mul l 54295)) (Nat.mul h 7156)) 65536
noncomputable def chC (s:Fs) (i lv:Nat) (v:Bool):Nat:=iB (Nat.beq (lvC s i) lv) (iB v (hiC s i) (loC s i)) i
noncomputable def mkC (s:Fs) (lv l h:Nat):Option (Nat × Fs):=
 iB (Nat.beq l h) (some (l,s)) (List.rec (motive:=fun _=>Option (Nat × Fs)) none (fun c r _=>
  iB (Nat.blt c s.n)
   (iB (Nat.ble 2 c&&(Nat.beq (lvC s c) lv&&(Nat.beq (loC s c) l&&Nat.beq (hiC s c) h))) (some (c,⟨s.S,s.n,s.B,r⟩)) none)
   (iB (Nat.beq c s.n&&(Nat.blt l s.n&&(Nat.blt h s.n&&(Nat.blt s.n 16384&&(Nat.blt lv (lvC s l)&&(Nat.blt lv (lvC s h)&& !Nat.testBit s.B (hsC lv l h)))))))
    (fz (Nat.lor s.S (Nat.shiftLeft (Nat.add lv (Nat.mul 128 (Nat.add l (Nat.mul 16384 h)))) (Nat.mul 36 s.n))) fun S=>fz (Nat.lor s.B (Nat.shiftLeft 1 (hsC lv l h))) fun B=>fz (Nat.succ s.n) fun n=>some (c,⟨S,n,B,r⟩))
    none)) s.c)
structure Rs (N:Nat) (ns:Ns) (s:Fs):Prop where
 w:Wf N ns
 n:s.n=ns.length
 S:s.S<2 ^ (36*s.n)
 g:∀ i,gN s.S i=enN (nd ns i)
 sm:∀ i,lvl ns i<128/\low ns i<16384/\hig ns i<16384
 B:∀ x∈ns.drop 2,s.B.testBit (hsC x.1 x.2.1 x.2.2)=true
section
variable {N most:Nat} {ns:Ns} {s:Fs}
theorem Rs.lv (h:Rs N ns s)(i:Nat):lvC s i=lvl ns i:=by
 have:=(h.sm i).1;unfold lvC;show gN s.S i % 128=_;rw[h.g];unfold enN;show (lvl ns i+128*(low ns i+16384*hig ns i)) % 128=_;omega
theorem Rs.lo (h:Rs N ns s)(i:Nat):loC s i=low ns i:=by
 have:=h.sm i;unfold loC;show gN s.S i / 128 % 16384=_;rw[h.g];unfold enN;show (lvl ns i+128*(low ns i+16384*hig ns i)) / 128 % 16384=_;omega
theorem Rs.hi (h:Rs N ns s)(i:Nat):hiC s i=hig ns i:=by
 have:=h.sm i;unfold hiC;show gN s.S i / 2097152=_;rw[h.g];unfold enN;show (lvl ns i+128*(low ns i+16384*hig ns i)) / 2097152=_;omega
theorem Rs.ch (h:Rs N ns s)(i lv:Nat)(v:Bool):chC s i lv v=ch ns i lv v:=by
 unfold chC YtkgfmjanajdibaaGreat.ch;rw[h.lv,h.lo,h.hi,C6,C6]
 by_cases e:lvl ns i=lv
 ·rw[if_pos e,if_pos (nbeq.2 e)]
 ·rw[if_neg e,if_neg (fun e2=>e (Nat.eq_of_beq_eq_true e2))]
theorem gN_eq (S i:Nat):gN S i=S / 2 ^ (36*i) % 2 ^ 36:=by
 show Nat.mod (Nat.shiftRight S (Nat.mul 36 i)) 68719476736=_;rw[show Nat.shiftRight S (Nat.mul 36 i)=S>>>(36*i) from rfl,Nat.shiftRight_eq_div_pow];rfl
theorem gN_new {S n v:Nat}(hS:S<2 ^ (36*n))(hv:v<2 ^ 36)(i:Nat):gN (S|||v<<<(36*n)) i=if i=n then v else if i<n then gN S i else 0:=by
 have hp:S|||v<<<(36*n)=v*2 ^ (36*n)+S:=by
  rw[Nat.shiftLeft_eq,Nat.or_comm,Nat.mul_comm];exact(Nat.two_pow_add_eq_or_of_lt hS v).symm
 rw[gN_eq,gN_eq,hp];rcases Nat.lt_trichotomy i n with h|h|h
 ·rw[if_neg qom,if_pos h];obtain⟨d,rfl⟩:∃ d,n=i+1+d:=⟨n - (i+1),by omega⟩;have e:v*2 ^ (36*(i+1+d))=2 ^ (36*i)*(2 ^ 36*(v*2 ^ (36*d))):=by
   rw[show 36*(i+1+d)=36*i+(36+36*d) by omega,Nat.pow_add,Nat.pow_add]
   generalize 2 ^ (36*i)=a
   generalize 2 ^ (36*d)=b
   generalize (2:Nat) ^ 36=c;rw[Nat.mul_left_comm,Nat.mul_left_comm v c b]
  rw[e,Nat.mul_add_div (Nat.two_pow_pos _),Nat.mul_add_mod]
 ·subst h;rw[if_pos U,Nat.mul_comm,Nat.mul_add_div (Nat.two_pow_pos _),Nat.div_eq_of_lt hS,Nat.add_zero,Nat.mod_eq_of_lt hv]
 ·rw[if_neg qom,if_neg qom,Nat.div_eq_of_lt,Nat.zero_mod];have h1:2 ^ (36*(n+1))<=2 ^ (36*i):=Nat.pow_le_pow_right qde qom;have h2:2 ^ (36*(n+1))=2 ^ 36*2 ^ (36*n):=by rw[<- Nat.pow_add];congr 1;omega
  have h3:(v+1)*2 ^ (36*n)<=2 ^ 36*2 ^ (36*n):=Nat.mul_le_mul_right _ hv;rw[Nat.succ_mul] at h3;omega
theorem tB_or {B h k:Nat}:(Nat.lor B (Nat.shiftLeft 1 h)).testBit k=(B.testBit k||decide (k=h)):=by
 show (B|||1<<<h).testBit k=_;rw[Nat.testBit_or,Nat.testBit_shiftLeft]
 by_cases e:k=h
 ·subst e;simp
 ·rw[decide_eq_false e,Bool.or_false]
  by_cases hk:h<=k
  ·rw[decide_eq_true hk,Bool.true_and,show Nat.testBit 1 (k - h)=false from by rw[show (1:Nat)=2 ^ 0 from rfl];exact Nat.testBit_two_pow_of_ne qom,Bool.or_false]
  ·rw[decide_eq_false hk,Bool.false_and,Bool.or_false]
theorem blt_iff {a b:Nat}:Nat.blt a b=true↔a<b:=by rw[Nat.blt_eq]
theorem Hf (hm:16384<=most)(hN:N<128)(h:Rs N ns s){lv l r id:Nat}{s':Fs}(e:mkC s lv l r=some (id,s')):∃ ms,mkF most ns lv l r=some (id,ms)/\Rs N ms s':=by
 unfold mkC at e;rw[C6] at e;unfold mkF
 by_cases hlr:l=r
 ·rw[if_pos (nbeq.2 hlr)] at e;obtain⟨rfl,rfl⟩:=Prod.mk.inj (Option.some.inj e);exact⟨ns,by rw[if_pos hlr],h⟩
 ·rw[if_neg (fun e2=>hlr (Nat.eq_of_beq_eq_true e2))] at e;rw[if_neg hlr];cases hc:s.c with
  |nil=>rw[hc] at e;cases e
  |cons c r'=>
   rw[hc] at e;simp only[C6] at e
   by_cases h1:c<s.n
   ·rw[if_pos (blt_iff.2 h1)] at e
    split at e
    ·rename_i h2;obtain⟨rfl,rfl⟩:=Prod.mk.inj (Option.some.inj e);simp only[Bool.and_eq_true] at h2;obtain⟨a1,a2,a3,a4⟩:=h2;have a1:=Nat.le_of_ble_eq_true a1;have a2:=Nat.eq_of_beq_eq_true a2;have a3:=Nat.eq_of_beq_eq_true a3;have a4:=Nat.eq_of_beq_eq_true a4;rw[h.lv] at a2;rw[h.lo] at a3;rw[h.hi] at a4;have hn:nd ns c=(lv,l,r):=Prod.ext a2 (Prod.ext a3 a4);have hcl:c<ns.length:=by rw[<- h.n];exact h1
     have hx:∃ k,fdF (lv,l,r) (ns.drop 2) 2=some k:=by
      cases hf:fdF (lv,l,r) (ns.drop 2) 2 with
      |some k=>exact⟨k,rfl⟩
      |none=>
       refine absurd ?_ (fdF_none hf);refine List.mem_iff_getElem.2 ⟨c - 2,by rw[List.length_drop];omega,?_⟩;rw[List.getElem_drop];have:nd ns c=ns[c]:=by unfold nd List.getD;rw[List.getElem?_eq_getElem hcl];rfl
       rw[<- hn,this];congr 1;omega
     obtain⟨k,hk⟩:=hx;obtain⟨b1,b2,b3⟩:=Jx hk;rw[List.length_drop] at b2;have ht:=h.w.two;have hnk:nd ns k=(lv,l,r):=by
      rw[List.getElem?_drop,show 2+(k - 2)=k by omega] at b3;unfold nd List.getD;rw[b3];rfl
     have:k=c:=h.w.un k c b1 qom a1 hcl (hnk.trans hn.symm);subst this;exact⟨ns,by rw[hk],⟨h.w,h.n,h.S,h.g,h.sm,h.B⟩⟩
    ·cases e
   ·rw[if_neg (fun e2=>h1 (blt_iff.1 e2))] at e
    split at e
    ·rename_i h2;simp only[Bool.and_eq_true,Bool.not_eq_true',blt_iff] at h2;obtain⟨a1,a2,a3,a4,a5,a6,a7⟩:=h2;have a1:=Nat.eq_of_beq_eq_true a1;rw[K7,K7,K7] at e;obtain⟨rfl,rfl⟩:=Prod.mk.inj (Option.some.inj e);rw[h.lv] at a5 a6;rw[h.n] at a1 a2 a3 a4;have hnot:(lv,l,r)∉ns.drop 2:=fun hin=>by have:=h.B _ hin;rw[a7] at this;cases this
     have hf:fdF (lv,l,r) (ns.drop 2) 2=none:=by
      cases hf:fdF (lv,l,r) (ns.drop 2) 2 with
      |none=>rfl
      |some k=>
       obtain⟨b1,b2,b3⟩:=Jx hf;exact absurd (List.mem_of_getElem? b3) hnot
     refine⟨ns++[(lv,l,r)],by rw[hf];simp only[];rw[if_pos qom,a1],?_⟩;have hlv:=h.w.lvN a2;have hw:=wf_new h.w a2 a3 hlr qom a5 a6 hnot;have hlv2:lv<128:=by omega
     have hv:lv+128*(l+16384*r)<2 ^ 36:=by
      have:(2:Nat) ^ 36=68719476736:=by decide
      omega
     have hgn:∀ i,gN (Nat.lor s.S (Nat.shiftLeft (Nat.add lv (Nat.mul 128 (Nat.add l (Nat.mul 16384 r)))) (Nat.mul 36 s.n))) i=if i=s.n then lv+128*(l+16384*r) else if i<s.n then gN s.S i else 0:=fun i=>gN_new h.S hv i
     have hnd:∀ i,nd (ns++[(lv,l,r)]) i=if i=ns.length then (lv,l,r) else if i<ns.length then nd ns i else (0,0,0):=fun i=>by
      by_cases e1:i=ns.length
      ·subst e1;rw[if_pos rfl,nd_new]
      ·rw[if_neg e1]
       by_cases e2:i<ns.length
       ·rw[if_pos e2,Gh (List.prefix_append _ _) e2]
       ·rw[if_neg e2];unfold nd List.getD;rw[List.getElem?_eq_none (by simp;omega)];rfl
     refine⟨hw,?_,?_,fun i=> ?_,fun i=> ?_,fun x hx=> ?_⟩
     ·show Nat.succ s.n=_;rw[h.n];simp
     ·show s.S|||(lv+128*(l+16384*r))<<<(36*s.n)<2 ^ (36*Nat.succ s.n)
      have h5:(2:Nat) ^ (36*Nat.succ s.n)=2 ^ 36*2 ^ (36*s.n):=by rw[<- Nat.pow_add];congr 1;omega
      refine Nat.or_lt_two_pow (Nat.lt_of_lt_of_le h.S (Nat.pow_le_pow_right qde qom)) ?_;rw[Nat.shiftLeft_eq,h5];exact Nat.mul_lt_mul_of_pos_right hv (Nat.two_pow_pos _)
     ·rw[hgn,hnd,h.n]
      by_cases e1:i=ns.length
      ·rw[if_pos e1,if_pos e1];rfl
      ·rw[if_neg e1,if_neg e1]
       by_cases e2:i<ns.length
       ·rw[if_pos e2,if_pos e2];exact h.g i
       ·rw[if_neg e2,if_neg e2];rfl
     ·unfold lvl low hig;rw[hnd]
      by_cases e1:i=ns.length
      ·rw[if_pos e1];exact⟨hlv2,by show l<_;omega,by show r<_;omega⟩
      ·rw[if_neg e1]
       by_cases e2:i<ns.length
       ·rw[if_pos e2];exact h.sm i
       ·rw[if_neg e2];decide
     ·show (Nat.lor s.B (Nat.shiftLeft 1 (hsC lv l r))).testBit _=true;rw[tB_or];have ht:=h.w.two;rw[List.drop_append_of_le_length qom] at hx;rcases List.mem_append.1 hx with hx|hx
      ·rw[h.B x hx];rfl
      ·obtain rfl:=List.mem_singleton.1 hx;simp
    ·cases e
end
noncomputable def oC {α β:Type} (o:Option α) (f:α->β) (y:β):β:=Option.rec (motive:=fun _=>β) y f o
theorem Lb {α β:Type}(f:α->β)(y:β):oC none f y=y:=rfl
abbrev Kc:=List (Nat × Nat)
noncomputable def lkC (l:Kc) (k:Nat):Option Nat:=List.rec (motive:=fun _=>Option Nat) none (fun e _ ih=>iB (Nat.beq e.1 k) (some e.2) ih) l
def Rk (kn:Kn) (kc:Kc):Prop:=∀ a b,b<16384->lkC kc (a*16384+b)=look kn (a,b)
theorem rk_nil:Rk [] []:=fun _ _ _=>rfl
theorem rk_put {kn:Kn}{kc:Kc}(h:Rk kn kc){a b:Nat}(hb:b<16384)(id:Nat):Rk (upsert kn (a,b) id) ((a*16384+b,id)::kc):=fun a' b' hb'=>by
 rw[Dp];show iB (Nat.beq (a*16384+b) (a'*16384+b')) (some id) (lkC kc (a'*16384+b'))=_;rw[C6]
 by_cases e:(a,b)=(a',b')
 ·obtain⟨rfl,rfl⟩:=Prod.mk.inj e;rw[if_pos (nbeq.2 U),if_pos rfl]
 ·rw[if_neg (fun e2=>e ?_),if_neg e]
  ·exact h a' b' hb'
  ·have:=nbeq.1 e2;rw[show a=a' by omega,show b=b' by omega]
noncomputable def miC (a b:Nat):Nat:=iB (Nat.ble a b) a b
theorem miC_eq (a b:Nat):miC a b=min a b:=by
 unfold miC;rw[C6]
 by_cases h:a<=b
 ·rw[if_pos (Nat.ble_eq_true_of_le h),Nat.min_eq_left h]
 ·rw[if_neg (fun e=>h (Nat.le_of_ble_eq_true e)),Nat.min_eq_right qom]
abbrev ApT:=Kc->Fs->Nat->Nat->Option (Nat × Kc × Fs)
noncomputable def apB (e:Nat->Nat->Option Nat) (ih:ApT):ApT:=fun kc s a b=>
  fz a fun a=>fz b fun b=>oC (e a b) (fun id=>some (id,kc,s)) (iB (Nat.blt b 16384) (fz (Nat.add (Nat.mul a 16384) b) fun key=>oC (lkC kc key) (fun id=>some (id,kc,s))
   (fz (miC (lvC s a) (lvC s b)) fun lv=>bO (ih kc s (chC s a lv false) (chC s b lv false)) fun x=>bO (ih x.2.1 x.2.2 (chC x.2.2 a lv true) (chC x.2.2 b lv true)) fun y=>bO (mkC y.2.2 lv x.1 y.1) fun z=>some (z.1,(key,z.1)::y.2.1,z.2))) none)
noncomputable def apC (e:Nat->Nat->Option Nat) (k:Nat):ApT:=Nat.rec (motive:=fun _=>ApT) (fun _ _ _ _=>none) (fun _ ih=>apB e ih) k
theorem apC_succ (e:Nat->Nat->Option Nat)(k:Nat)(kc:Kc)(s:Fs)(a b:Nat):apC e (k+1) kc s a b=apB e (apC e k) kc s a b:=rfl
noncomputable def eOrC (a b:Nat):Option Nat:=iB (Nat.beq a 1||Nat.beq b 1) (some 1) (iB (Nat.beq a 0||Nat.beq a b) (some b) (iB (Nat.beq b 0) (some a) none))
noncomputable def eAndC (a b:Nat):Option Nat:=iB (Nat.beq a 0||Nat.beq b 0) (some 0) (iB (Nat.beq a 1||Nat.beq a b) (some b) (iB (Nat.beq b 1) (some a) none))
noncomputable def eNotC (a _b:Nat):Option Nat:=iB (Nat.beq a 0) (some 1) (iB (Nat.beq a 1) (some 0) none)
theorem J3 (a b:Nat):eOrC a b=eOr a b:=by unfold eOrC eOr;simp only[C6,Bool.or_eq_true,nbeq]
theorem eAnd_C (a b:Nat):eAndC a b=eAnd a b:=by unfold eAndC eAnd;simp only[C6,Bool.or_eq_true,nbeq]
theorem eNot_C (a b:Nat):eNotC a b=eNot a b:=by unfold eNotC eNot;simp only[C6,nbeq]
section
variable {N most:Nat} {ns:Ns} {s:Fs}
theorem ap_sim (hm:16384<=most)(hN:N<128){e eC:Nat->Nat->Option Nat}(he:∀ a b,eC a b=e a b):∀ (k:Nat) {kn:Kn} {kc kc':Kc} {ns:Ns} {s s':Fs} {a b id:Nat},Rs N ns s->Rk kn kc->apC eC k kc s a b=some (id,kc',s')->∃ kn' ms,apF most e k kn ns a b=some (id,kn',ms)/\Rs N ms s'/\Rk kn' kc'
 |0,kn,kc,kc',ns,s,s',a,b,id,_,_,h=>by cases h
 |k+1,kn,kc,kc',ns,s,s',a,b,id,hs,hk,h=>by
  rw[apC_succ] at h;unfold apB at h;simp only[K7] at h;rw[he] at h;rw[apF];cases h1:e a b with
  |some i=>
   rw[h1] at h;obtain⟨rfl,h2⟩:=Prod.mk.inj (Option.some.inj h);obtain⟨rfl,rfl⟩:=Prod.mk.inj h2;exact⟨kn,ns,rfl,hs,hk⟩
  |none=>
   rw[h1,Lb] at h;simp only[]
   by_cases hb:b<16384
   ·rw[C6,if_pos (blt_iff.2 hb),show Nat.add (Nat.mul a 16384) b=a*16384+b from rfl,hk a b hb] at h;cases h2:look kn (a,b) with
    |some i=>
     rw[h2] at h;obtain⟨rfl,h3⟩:=Prod.mk.inj (Option.some.inj h);obtain⟨rfl,rfl⟩:=Prod.mk.inj h3;exact⟨kn,ns,rfl,hs,hk⟩
    |none=>
     rw[h2,Lb,miC_eq,hs.lv,hs.lv,hs.ch,hs.ch] at h;obtain⟨⟨l,kc1,s1⟩,h3,h⟩:=A4 h;obtain⟨kn1,ns1,f1,hs1,hk1⟩:=ap_sim hm hN he k hs hk h3;simp only[] at h;rw[hs1.ch,hs1.ch] at h;obtain⟨⟨r,kc2,s2⟩,h4,h⟩:=A4 h;obtain⟨kn2,ns2,f2,hs2,hk2⟩:=ap_sim hm hN he k hs1 hk1 h4;simp only[] at h;obtain⟨⟨i,s3⟩,h5,h⟩:=A4 h;obtain⟨ns3,f3,hs3⟩:=Hf hm hN hs2 h5;obtain⟨rfl,h6⟩:=Prod.mk.inj (Option.some.inj h);obtain⟨rfl,rfl⟩:=Prod.mk.inj h6;refine⟨_,ns3,?_,hs3,rk_put hk2 hb _⟩;simp only[f1,f2,f3]
   ·rw[C6,if_neg (fun e2=>hb (blt_iff.1 e2))] at h;cases h
noncomputable def apCA (e:Nat->Nat->Option Nat) (N:Nat) (s:Fs) (a b:Nat):Option (Nat × Fs):=bO (apC e (N+1) [] s a b) fun x=>some (x.1,x.2.2)
theorem D2 (hm:16384<=most)(hN:N<128){e eC:Nat->Nat->Option Nat}(he:∀ a b,eC a b=e a b){s':Fs}{a b id:Nat}(hs:Rs N ns s)(h:apCA eC N s a b=some (id,s')):∃ ms,apA most e ns a b=some (id,ms)/\Rs N ms s':=by
 obtain⟨⟨i,kc,s1⟩,h1,h⟩:=A4 h;obtain⟨kn,ms,f,hs1,_⟩:=ap_sim hm hN he _ hs rk_nil h1;obtain⟨rfl,rfl⟩:=Prod.mk.inj (Option.some.inj h);refine⟨ms,?_,hs1⟩;unfold apA;rw[hs.w.lv0,f];rfl
noncomputable def sqC (N:Nat) (f:ApT) (kc:Kc) (s:Fs) (a b lv:Nat) (x z:Bool):Option (Nat × Kc × Fs):=
 bO (f kc s (chC s (chC s a lv x) (lv+1) false) (chC s (chC s b lv false) (lv+1) z)) fun p=>bO (f p.2.1 p.2.2 (chC p.2.2 (chC p.2.2 a lv x) (lv+1) true) (chC p.2.2 (chC p.2.2 b lv true) (lv+1) z)) fun q=>bO (apCA eOrC N q.2.2 p.1 q.1) fun r=>some (r.1,q.2.1,r.2)
noncomputable def rwC (N:Nat) (f:ApT) (kc:Kc) (s:Fs) (a b lv:Nat) (x:Bool):Option (Nat × Kc × Fs):=
 bO (sqC N f kc s a b lv x false) fun p=>bO (sqC N f p.2.1 p.2.2 a b lv x true) fun q=>bO (mkC q.2.2 (lv+1) p.1 q.1) fun r=>some (r.1,q.2.1,r.2)
noncomputable def seB (N:Nat) (ih:ApT):ApT:=fun kc s a b=>
 fz a fun a=>fz b fun b=>iB (Nat.beq a 0||Nat.beq b 0) (some (0,kc,s)) (iB (Nat.beq a 1&&Nat.beq b 1) (some (1,kc,s)) (iB (Nat.blt b 16384) (fz (Nat.add (Nat.mul a 16384) b) fun key=>oC (lkC kc key) (fun id=>some (id,kc,s))
  (fz (Nat.mul (Nat.div (miC (lvC s a) (lvC s b)) 2) 2) fun lv=>bO (rwC N ih kc s a b lv false) fun x=>bO (rwC N ih x.2.1 x.2.2 a b lv true) fun y=>bO (mkC y.2.2 lv x.1 y.1) fun z=>some (z.1,(key,z.1)::y.2.1,z.2))) none))
noncomputable def seC (N k:Nat):ApT:=Nat.rec (motive:=fun _=>ApT) (fun _ _ _ _=>none) (fun _ ih=>seB N ih) k
theorem seC_succ (N k:Nat)(kc:Kc)(s:Fs)(a b:Nat):seC N (k+1) kc s a b=seB N (seC N k) kc s a b:=rfl
def Sim (N:Nat) (fC:ApT) (f:Kn->Ns->Nat->Nat->Option (Nat × Kn × Ns)):Prop:=∀ (kn:Kn) (kc kc':Kc) (ns:Ns) (s s':Fs) (a b id:Nat),Rs N ns s->Rk kn kc->fC kc s a b=some (id,kc',s')->∃ kn' ms,f kn ns a b=some (id,kn',ms)/\Rs N ms s'/\Rk kn' kc'
theorem sq_sim (hm:16384<=most)(hN:N<128){fC:ApT}{f:Kn->Ns->Nat->Nat->Option (Nat × Kn × Ns)}(hf:Sim N fC f){kn:Kn}{kc kc':Kc}{s':Fs}{a b lv id:Nat}{x z:Bool}(hs:Rs N ns s)(hk:Rk kn kc)(h:sqC N fC kc s a b lv x z=some (id,kc',s')):∃ kn' ms,sqF most f kn ns a b lv x z=some (id,kn',ms)/\Rs N ms s'/\Rk kn' kc':=by
 unfold sqC at h;rw[hs.ch,hs.ch,hs.ch,hs.ch] at h;obtain⟨⟨p,kc1,s1⟩,h1,h⟩:=A4 h;obtain⟨kn1,ns1,f1,hs1,hk1⟩:=hf _ _ _ _ _ _ _ _ _ hs hk h1;simp only[] at h;rw[hs1.ch,hs1.ch,hs1.ch,hs1.ch] at h;obtain⟨⟨q,kc2,s2⟩,h2,h⟩:=A4 h;obtain⟨kn2,ns2,f2,hs2,hk2⟩:=hf _ _ _ _ _ _ _ _ _ hs1 hk1 h2;simp only[] at h;obtain⟨⟨r,s3⟩,h3,h⟩:=A4 h;obtain⟨ns3,f3,hs3⟩:=D2 hm hN J3 hs2 h3;obtain⟨rfl,h6⟩:=Prod.mk.inj (Option.some.inj h);obtain⟨rfl,rfl⟩:=Prod.mk.inj h6;refine⟨kn2,ns3,?_,hs3,hk2⟩;unfold sqF atD orF;simp only[f1,f2,f3];rfl
theorem rw_sim (hm:16384<=most)(hN:N<128){fC:ApT}{f:Kn->Ns->Nat->Nat->Option (Nat × Kn × Ns)}(hf:Sim N fC f){kn:Kn}{kc kc':Kc}{s':Fs}{a b lv id:Nat}{x:Bool}(hs:Rs N ns s)(hk:Rk kn kc)(h:rwC N fC kc s a b lv x=some (id,kc',s')):∃ kn' ms,rwF most f kn ns a b lv x=some (id,kn',ms)/\Rs N ms s'/\Rk kn' kc':=by
 unfold rwC at h;obtain⟨⟨p,kc1,s1⟩,h1,h⟩:=A4 h;obtain⟨kn1,ns1,f1,hs1,hk1⟩:=sq_sim hm hN hf hs hk h1;simp only[] at h;obtain⟨⟨q,kc2,s2⟩,h2,h⟩:=A4 h;obtain⟨kn2,ns2,f2,hs2,hk2⟩:=sq_sim hm hN hf hs1 hk1 h2;simp only[] at h;obtain⟨⟨r,s3⟩,h3,h⟩:=A4 h;obtain⟨ns3,f3,hs3⟩:=Hf hm hN hs2 h3;obtain⟨rfl,h6⟩:=Prod.mk.inj (Option.some.inj h);obtain⟨rfl,rfl⟩:=Prod.mk.inj h6;refine⟨kn2,ns3,?_,hs3,hk2⟩;unfold rwF;simp only[f1,f2,f3];rfl
theorem se_sim (hm:16384<=most)(hN:N<128):∀ k,Sim N (seC N k) (seF most k)
 |0=>fun _ _ _ _ _ _ _ _ _ _ _ h=>by cases h
 |k+1=>fun kn kc kc' ns s s' a b id hs hk h=>by
  rw[seC_succ] at h;unfold seB at h;simp only[K7,C6,Bool.or_eq_true,Bool.and_eq_true,nbeq] at h;rw[seF]
  by_cases c0:a=0\/b=0
  ·rw[if_pos c0] at h ⊢;obtain⟨rfl,h2⟩:=Prod.mk.inj (Option.some.inj h);obtain⟨rfl,rfl⟩:=Prod.mk.inj h2;exact⟨kn,ns,rfl,hs,hk⟩
  ·rw[if_neg c0] at h ⊢
   by_cases c1:a=1/\b=1
   ·rw[if_pos c1] at h ⊢;obtain⟨rfl,h2⟩:=Prod.mk.inj (Option.some.inj h);obtain⟨rfl,rfl⟩:=Prod.mk.inj h2;exact⟨kn,ns,rfl,hs,hk⟩
   ·rw[if_neg c1] at h ⊢
    by_cases hb:b<16384
    ·rw[if_pos (blt_iff.2 hb),show Nat.add (Nat.mul a 16384) b=a*16384+b from rfl,hk a b hb] at h;cases h2:look kn (a,b) with
     |some i=>
      rw[h2] at h;obtain⟨rfl,h3⟩:=Prod.mk.inj (Option.some.inj h);obtain⟨rfl,rfl⟩:=Prod.mk.inj h3;exact⟨kn,ns,rfl,hs,hk⟩
     |none=>
      rw[h2,Lb,miC_eq,hs.lv,hs.lv] at h;have hlv:Nat.mul (Nat.div (min (lvl ns a) (lvl ns b)) 2) 2=min (lvl ns a) (lvl ns b) / 2*2:=rfl;rw[hlv] at h;obtain⟨⟨p,kc1,s1⟩,h3,h⟩:=A4 h;obtain⟨kn1,ns1,f1,hs1,hk1⟩:=rw_sim hm hN (se_sim hm hN k) hs hk h3;simp only[] at h;obtain⟨⟨q,kc2,s2⟩,h4,h⟩:=A4 h;obtain⟨kn2,ns2,f2,hs2,hk2⟩:=rw_sim hm hN (se_sim hm hN k) hs1 hk1 h4;simp only[] at h;obtain⟨⟨i,s3⟩,h5,h⟩:=A4 h;obtain⟨ns3,f3,hs3⟩:=Hf hm hN hs2 h5;obtain⟨rfl,h6⟩:=Prod.mk.inj (Option.some.inj h);obtain⟨rfl,rfl⟩:=Prod.mk.inj h6;refine⟨_,ns3,?_,hs3,rk_put hk2 hb _⟩;simp only[f1,f2,f3];rfl
    ·rw[if_neg (fun e2=>hb (blt_iff.1 e2))] at h;cases h
noncomputable def seCA (N:Nat) (s:Fs) (a b:Nat):Option (Nat × Fs):=bO (seC N (N+1) [] s a b) fun x=>some (x.1,x.2.2)
theorem Hg (hm:16384<=most)(hN:N<128){s':Fs}{a b id:Nat}(hs:Rs N ns s)(h:seCA N s a b=some (id,s')):∃ ms,seA most ns a b=some (id,ms)/\Rs N ms s':=by
 obtain⟨⟨i,kc,s1⟩,h1,h⟩:=A4 h;obtain⟨kn,ms,f,hs1,_⟩:=se_sim hm hN _ _ _ _ _ _ _ _ _ _ hs rk_nil h1;obtain⟨rfl,rfl⟩:=Prod.mk.inj (Option.some.inj h);refine⟨ms,?_,hs1⟩;unfold seA;rw[hs.w.lv0,f];rfl
abbrev FsT:=Fs->Nat->Option (Nat × Fs)
noncomputable def rlC (mk vl:Nat->Bool) (k:Nat):FsT:=Nat.rec (motive:=fun _=>FsT) (fun s id=>some (id,s)) (fun k ih s id=>
 bO (mkC s (2*k+1) id 0) fun z=>bO (mkC z.2 (2*k+1) 0 id) fun o=>iB (mk k) (iB (vl k) (ih o.2 o.1) (ih o.2 z.1)) (bO (mkC o.2 (2*k) z.1 o.1) fun r=>ih r.2 r.1)) k
noncomputable def stC (mk vl:Nat->Bool) (k:Nat):FsT:=Nat.rec (motive:=fun _=>FsT) (fun s id=>some (id,s)) (fun k ih s id=>
 iB (mk k) (iB (vl k) (bO (mkC s (2*k) 0 id) fun r=>ih r.2 r.1) (bO (mkC s (2*k) id 0) fun r=>ih r.2 r.1)) (ih s id)) k
theorem Jl (hm:16384<=most)(hN:N<128)(mk vl:Nat->Bool):∀ (k:Nat) {ns:Ns} {s s':Fs} {i id:Nat},Rs N ns s->rlC mk vl k s i=some (id,s')->∃ ms,rlF most mk vl k ns i=some (id,ms)/\Rs N ms s'
 |0,ns,s,s',i,id,hs,h=>by
  obtain⟨rfl,rfl⟩:=Prod.mk.inj (Option.some.inj h);exact⟨ns,rfl,hs⟩
 |k+1,ns,s,s',i,id,hs,h=>by
  have h:(bO (mkC s (2*k+1) i 0) fun z=>bO (mkC z.2 (2*k+1) 0 i) fun o=>iB (mk k) (iB (vl k) (rlC mk vl k o.2 o.1) (rlC mk vl k o.2 z.1)) (bO (mkC o.2 (2*k) z.1 o.1) fun r=>rlC mk vl k r.2 r.1))=some (id,s'):=h;obtain⟨⟨z,s1⟩,h1,h⟩:=A4 h;obtain⟨ns1,f1,hs1⟩:=Hf hm hN hs h1;obtain⟨⟨o,s2⟩,h2,h⟩:=A4 h;obtain⟨ns2,f2,hs2⟩:=Hf hm hN hs1 h2;rw[rlF];simp only[f1,f2];simp only[C6] at h;cases hmk:mk k
  ·rw[hmk,if_neg (by simp)] at h;obtain⟨⟨r,s3⟩,h3,h⟩:=A4 h;obtain⟨ns3,f3,hs3⟩:=Hf hm hN hs2 h3;obtain⟨ms,f4,hs4⟩:=Jl hm hN mk vl k hs3 h;exact⟨ms,by simp only[if_true,f3];exact f4,hs4⟩
  ·rw[hmk,if_pos rfl] at h;cases hvl:vl k
   ·rw[hvl,if_neg (by simp)] at h;obtain⟨ms,f4,hs4⟩:=Jl hm hN mk vl k hs2 h;exact⟨ms,by simpa using f4,hs4⟩
   ·rw[hvl,if_pos rfl] at h;obtain⟨ms,f4,hs4⟩:=Jl hm hN mk vl k hs2 h;exact⟨ms,by simpa using f4,hs4⟩
theorem Lw (hm:16384<=most)(hN:N<128)(mk vl:Nat->Bool):∀ (k:Nat) {ns:Ns} {s s':Fs} {i id:Nat},Rs N ns s->stC mk vl k s i=some (id,s')->∃ ms,stF most mk vl k ns i=some (id,ms)/\Rs N ms s'
 |0,ns,s,s',i,id,hs,h=>by
  obtain⟨rfl,rfl⟩:=Prod.mk.inj (Option.some.inj h);exact⟨ns,rfl,hs⟩
 |k+1,ns,s,s',i,id,hs,h=>by
  have h:iB (mk k) (iB (vl k) (bO (mkC s (2*k) 0 i) fun r=>stC mk vl k r.2 r.1) (bO (mkC s (2*k) i 0) fun r=>stC mk vl k r.2 r.1)) (stC mk vl k s i)=some (id,s'):=h;rw[stF];simp only[C6] at h;cases hmk:mk k
  ·rw[hmk,if_neg (by simp)] at h;obtain⟨ms,f4,hs4⟩:=Lw hm hN mk vl k hs h;exact⟨ms,by simpa using f4,hs4⟩
  ·rw[hmk,if_pos rfl] at h;cases hvl:vl k
   ·rw[hvl,if_neg (by simp)] at h;obtain⟨⟨r,s3⟩,h3,h⟩:=A4 h;obtain⟨ns3,f3,hs3⟩:=Hf hm hN hs h3;obtain⟨ms,f4,hs4⟩:=Lw hm hN mk vl k hs3 h;exact⟨ms,by simp only[f3];simpa using f4,hs4⟩
   ·rw[hvl,if_pos rfl] at h;obtain⟨⟨r,s3⟩,h3,h⟩:=A4 h;obtain⟨ns3,f3,hs3⟩:=Hf hm hN hs h3;obtain⟨ms,f4,hs4⟩:=Lw hm hN mk vl k hs3 h;exact⟨ms,by simp only[f3];simpa using f4,hs4⟩
noncomputable def srC (N r:Nat):FsT:=Nat.rec (motive:=fun _=>FsT) (fun _ _=>none) (fun _ ih s id=>bO (seCA N s id id) fun x=>iB (Nat.beq x.1 id) (some (id,x.2)) (ih x.2 x.1)) r
theorem sr_sim (hm:16384<=most)(hN:N<128):∀ (r:Nat) {ns:Ns} {s s':Fs} {i id:Nat},Rs N ns s->srC N r s i=some (id,s')->∃ ms,srF most r ns i=some (id,ms)/\Rs N ms s'
 |0,ns,s,s',i,id,hs,h=>by cases h
 |r+1,ns,s,s',i,id,hs,h=>by
  have h:(bO (seCA N s i i) fun x=>iB (Nat.beq x.1 i) (some (i,x.2)) (srC N r x.2 x.1))=some (id,s'):=h;obtain⟨⟨x,s1⟩,h1,h⟩:=A4 h;obtain⟨ns1,f1,hs1⟩:=Hg hm hN hs h1;rw[srF];simp only[f1];simp only[C6,nbeq] at h
  by_cases e:x=i
  ·rw[if_pos e] at h ⊢;obtain⟨rfl,rfl⟩:=Prod.mk.inj (Option.some.inj h);exact⟨ns1,rfl,hs1⟩
  ·rw[if_neg e] at h ⊢;exact sr_sim hm hN r hs1 h
end
section
variable {K V:Type} [DecidableEq K]
def Ents (encK:K->Value) (encV:V->Value) (es:List MapEntry) (l:List (K × V)):Prop:=es.map (fun e=>(e.key,e.val))=l.map fun p=>(encK p.1,encV p.2)
theorem ents_nil (encK:K->Value)(encV:V->Value):Ents encK encV [] []:=rfl
theorem Ents.snoc {encK:K->Value}{encV:V->Value}{es:List MapEntry}{l:List (K × V)}(h:Ents encK encV es l)(k:K)(v:V)(c:Nat):Ents encK encV (es++[{key:=encK k,val:=encV v,born:=c}]) (l++[(k,v)]):=by
 unfold Ents at *;rw[List.map_append,List.map_append,h];rfl
theorem Ents.len {encK:K->Value}{encV:V->Value}{es:List MapEntry}{l:List (K × V)}(h:Ents encK encV es l):es.length=l.length:=by
 have:=congrArg List.length h
 simpa using this
theorem Ents.erase {encK:K->Value}{encV:V->Value}:∀ {es:List MapEntry} {l:List (K × V)} (i:Nat),Ents encK encV es l->Ents encK encV (es.eraseIdx i) (l.eraseIdx i)
 |[],[],i,_=>by simp[Ents]
 |[],_::_,_,h=>by cases h
 |_::_,[],_,h=>by cases h
 |e::es,p::l,0,h=>by
  unfold Ents at h ⊢;simp only[List.map_cons] at h;exact(List.cons.inj h).2
 |e::es,p::l,i+1,h=>by
  have h1:Ents encK encV es l:=by
   unfold Ents at h ⊢;simp only[List.map_cons] at h;exact(List.cons.inj h).2
  have ih:=Ents.erase i h1;unfold Ents at h ih ⊢;simp only[List.map_cons] at h;simp only[List.eraseIdx_cons_succ,List.map_cons,ih];rw[(List.cons.inj h).1]
variable {P:Program} {kt:TypeId} {encK:K->Value} {encV:V->Value}
structure KeyG (P:Program) (kt:TypeId) (encK:K->Value):Prop where
 chk:∀ b k w,(Instr.checkKey b 10000 kt (encK k)).run P w= .ok () w
 find:∀ (encV:V->Value) (es:List MapEntry) (l:List (K × V)) k w,Ents encK encV es l->(Instr.findKey kt (encK k) es).run P w= .ok ((findI k l 0).map fun p=>(p.1,encV p.2)) w
theorem findAskG (h:∀ k k' w,(Op.equal kt (encK k) (encK k')).run P w= .ok (decide (k'=k)) w)(k:K)(w:World):∀ (es:List MapEntry) (l:List (K × V)) (i:Nat),Ents encK encV es l->(Instr.findAsking kt (encK k) es i).run P w= .ok ((findI k l i).map fun p=>(p.1,encV p.2)) w
 |[],[],i,_=>rfl
 |[],_::_,_,h=>by cases h
 |_::_,[],_,h=>by cases h
 |e::es,p::l,i,he=>by
  have h1:Ents encK encV es l:=by
   unfold Ents at he ⊢;simp only[List.map_cons] at he;exact(List.cons.inj he).2
  have h2:e.key=encK p.1/\e.val=encV p.2:=by
   unfold Ents at he;simp only[List.map_cons] at he;have:=(List.cons.inj he).1;exact Prod.mk.inj this
  simp only[Instr.findAsking,h2.1,Sem.run_bind,h,Result.andThen];rw[findI]
  by_cases hk:p.1=k
  ·simp[hk,h2.2]
  ·simp only[hk,decide_false,if_false,Bool.false_eq_true];exact findAskG h k w es l (i+1) h1
theorem keyG_ask {td:TypeDesc}(ht:∀ w,(underlying kt).run P w= .ok td w)(hc:∀ b k w,(Instr.checkKey b 10000 kt (encK k)).run P w= .ok () w)(hn:∀ k k',Instr.sameNow td (encK k) (encK k')=none)(h:∀ k k' w,(Op.equal kt (encK k) (encK k')).run P w= .ok (decide (k'=k)) w):KeyG (V:=V) P kt encK:=
 ⟨hc,fun encV es l k w he=>by
  unfold Instr.findKey;simp only[Sem.run_bind,ht,Result.andThen];cases es with
  |nil=>
   have:l=[]:=by
    have:=he.len;exact List.eq_nil_of_length_eq_zero (by simpa using this.symm)
   subst this;rfl
  |cons e es=>
   cases l with
   |nil=>cases he
   |cons p l=>
    have h2:e.key=encK p.1:=by
     have he':=he;unfold Ents at he';simp only[List.map_cons] at he';exact(Prod.mk.inj (List.cons.inj he').1).1
    have h1:Instr.findNow td (encK k) (e::es) 0=none:=by simp[Instr.findNow,h2,hn]
    rw[h1];exact findAskG h k w (e::es) (p::l) 0 he⟩
variable {w0:World} {L:Fm} {H:Mm} {ty t et:TypeId} {x y z:Operand}
theorem run_lookupG {w:World}{r c:Nat}{es:List MapEntry}{l:List (K × V)}{k:K}{zv:Value}{ok:Bool}(hk:KeyG (V:=V) P kt encK)(he:Ents encK encV es l)(ht:∀ w,(underlying t).run P w= .ok (.map kt et) w)(hz:∀ w,(zeroValue et).run P w= .ok zv w)(h:w.heap[r]? =some (.map es.toArray c)):
  (Instr.lookup t (.map (some r)) (encK k) ok).run P w= .ok (if ok then .tuple #[((look l k).map encV).getD zv, .bool (look l k).isSome] else ((look l k).map encV).getD zv) w:=by
 have hg:=Dc (P:=P) h;unfold Instr.lookup;simp only[Sem.run_bind,ht,Result.andThen,hg,Sem.run_pure,hk.chk];have hf:=hk.find encV es l k w he;rw[hf];unfold look;cases findI k l 0 with
 |none=>simp[hz,Sem.run_bind,Result.andThen]
 |some p=>simp
theorem yl_lookupG {r c:Nat}{es:List MapEntry}{l:List (K × V)}{k:K}{zv v:Value}(hk:KeyG (V:=V) P kt encK)(he:Ents encK encV es l)(hx:Ev L x (.map (some r)))(hy:Ev L y v)(hv:v=encK k)(ht:∀ w,(underlying t).run P w= .ok (.map kt et) w)(hz:∀ w,(zeroValue et).run P w= .ok zv w)
  (hf:Fnd H r (.map es.toArray c)):Yl P w0 (.lookup t x y true) ty L H (.tuple #[((look l k).map encV).getD zv, .bool (look l k).isSome]):=Lp U fun H' hs b w hO=>by
 have h:=run_lookupG (P:=P) (k:=k) (ok:=true) hk he ht hz ((hO.sub hs).has _ hf);subst hv;simp[exO,execOp,hx b,hy b,h,Sem.run_bind,Result.andThen]
theorem eff_mapNewG {r c:Nat}{es:List MapEntry}{l:List (K × V)}(k:K)(u:V){v v':Value}{H':Mm}(hk:KeyG (V:=V) P kt encK)(he:Ents encK encV es l)(hn:look l k=none)(hx:Ev L x (.map (some r)))(hy:Ev L y v)(hv:v=encK k)(hz:Ev L z v')(hv':v'=encV u)(ht:∀ w,(underlying t).run P w= .ok (.map kt et) w)
  (hu:Upd H r (.map es.toArray c) (.map (es++[({key:=encK k,val:=encV u,born:=c}:MapEntry)]).toArray (c+1)) H'):Eff P w0 (.mapUpdate t x y z) ty L H (Still undef H'):=
 ⟨rfl,fun b w hO=>by
  subst hv hv';have hh:=hO.has _ hu.mem;have hg:=Dc (P:=P) hh;have hf:=hk.find encV es l k w he;have hi:findI k l 0=none:=by
   unfold look at hn;cases h:findI k l 0 with
   |none=>rfl
   |some p=>rw[h] at hn;cases hn
  have h1:(exO (ev (lk L b)) (.mapUpdate t x y z) ty).run P w= .ok .skip (w.putObj r (.map (es++[({key:=encK k,val:=encV u,born:=c}:MapEntry)]).toArray (c+1))):=by
   simp only[exO,execOp,hx b,hy b,hz b];unfold Instr.mapUpdate;simp only[Sem.run_bind,ht,Result.andThen,hg,hk.chk,hf,hi];have hs:=Ha (P:=P) (.map (es.toArray.push {key:=encK k,val:=encV u,born:=c}) (c+1)) hh;simp only[Option.map_none,hs,Sem.run_pure];simp
  rw[h1];exact⟨_,hO.put hu,rfl,rfl⟩⟩
end
end Go.Proofs.YtkgfmjanajdibaaGreat
namespace Go.Proofs.YtkgfmjanajdibaaGreat
open _root_.Go.Proofs.Tryz
open Go.RowKit Go.Sort
set_option linter.unusedVariables false
set_option linter.unusedSimpArgs false
set_option linter.unusedSectionVars false
set_option maxRecDepth 100000
theorem Own.ahead {w0 w:World}{H:Mm}(h:Own w0 H w)(n:Nat):Own w0 H (Sort.ahead w n):=
 ⟨⟨h.below.os,h.below.tape,h.below.output,h.below.size,h.below.block⟩,h.has,h.base,h.nodup,Nat.le_trans h.drw (Nat.le_add_right _ _)⟩
theorem Own.grow {w0 w:World}{H:Mm}(h:Own w0 H w)(os:Array Obj):Own w0 H (Sort.grow w os):=by
 have key:∀ k o,w.heap[k]? =some o->(w.heap++os)[k]? =some o:=fun k o hk=>by
  have:=(Array.getElem?_eq_some_iff.1 hk).1;rw[Array.getElem?_append_left this];exact hk
 refine⟨⟨h.below.os,h.below.tape,h.below.output,?_,fun k hk=> ?_⟩,fun e he=>key _ _ (h.has e he),h.base,h.nodup,h.drw⟩
 ·show w0.heap.size<=(w.heap++os).size;have:=h.below.size;simp;omega
 ·show (w.heap++os)[k]? =_;rw[<- h.below.block k hk];have:=h.below.size;rw[Array.getElem?_append_left qom]
theorem map_put {w:World}{n:Nat}{c:Array Value}{e:TypeId}{f:Nat × Nat}(g:Array Value->Array Value)(h:w.heap[n]? =some (.cells c e f)):mapBlock w n g=w.putObj n (.cells (g c) e f):=by
 unfold mapBlock World.putObj
 congr 1
 apply Array.ext_getElem?;intro k;simp only[Array.getElem?_modify,Array.getElem?_setIfInBounds]
 by_cases hk:n=k
 ·subst hk;obtain⟨h1,h2⟩:=Array.getElem?_eq_some_iff.1 h;simp[h1,h2,onCells]
 ·simp[hk]
section
variable {α:Type} [Inhabited α] {w0 w:World} {n:Nat} {junk:List Value} {e:TypeId} {X:Mm} {enc:α->Value}
theorem put_list {old:List Value}{l:List α}(hl:old.length=l.length):putCells enc 0 l.toArray (old++junk).toArray=(l.map enc++junk).toArray:=by
 unfold putCells;apply Array.ext_getElem?;intro k;simp only[Array.getElem?_mapIdx,List.getElem?_toArray,List.size_toArray,Nat.zero_le,true_and,Nat.zero_add,Nat.sub_zero]
 by_cases hk:k<l.length
 ·rw[List.getElem?_append_left qom,List.getElem?_append_left (by simpa using hk)];rw[List.getElem?_eq_getElem (by omega:k<old.length),List.getElem?_eq_getElem (by simpa using hk)];simp[hk]
 ·rw[List.getElem?_append_right qom,List.getElem?_append_right (by simp;omega)];simp only[hk,if_false,List.length_map,hl];cases junk[k - l.length]? <;>rfl
theorem own_row {l l':List α}(hO:Own w0 ((n,Cl (l.map enc++junk) e)::X) w)(hl:l.length=l'.length)(q:Nat)(os:Array Obj):Own w0 ((n,Cl (l'.map enc++junk) e)::X) (Sort.grow (putRow enc (Sort.ahead w q) n 0 l'.toArray) os):=by
 refine Own.grow ?_ os;have h1:=hO.ahead q;have h2:=h1.has _ (List.mem_cons_self ..);unfold putRow;rw[map_put _ h2,put_list (by simpa using hl)];exact h1.put .h
theorem own_holds {l:List α}(hO:Own w0 ((n,Cl (l.map enc++junk) e)::X) w):Holds enc w n 0 l.toArray:=fun j hj=>by
 have hj':j<l.length:=by simpa using hj
 refine⟨hO.cell fnd_h ?_,hO.free fnd_h⟩;rw[Nat.zero_add,List.getElem?_append_left (by simpa using hj')];simp[hj']
theorem own_lt {o:Obj}(hO:Own w0 ((n,o)::X) w):n<w.heap.size:=(Array.getElem?_eq_some_iff.1 (hO.has _ (List.mem_cons_self ..))).1
end
theorem flat_one {α:Type}{f:α->Value}:∀ (l:List α),l.flatMap (fun x=>[f x])=l.map f
 |[]=>rfl
 |x::l=>by rw[List.flatMap_cons,flat_one l];rfl
end Go.Proofs.YtkgfmjanajdibaaGreat
namespace Go.Proofs.YtkgfmjanajdibaaGreat
open _root_.Go.Proofs.Tryz
open Go.RowKit
set_option linter.unusedVariables false
set_option linter.unusedSimpArgs false
set_option linter.unusedSectionVars false
set_option maxRecDepth 100000
variable {w0:World}{H:Mm}
inductive LocL:Mm->Mm->Mm->(Mm->Mm)->Prop
 |h {M X}:LocL (M++X) M X (fun M'=>M'++X)
 |t {H M R F e}:LocL H M R F->LocL (e::H) M (e::R) (fun M'=>e::F M')
 |a {X H M R F}:LocL H M R F->LocL (X++H) M (X++R) (fun M'=>X++F M')
theorem locq {H M R:Mm}{F:Mm->Mm}(h:LocL H M R F:=by repeat (first|exact LocL.h|apply LocL.t|apply LocL.a)):LocL H M R F:=h
theorem LocL.perm {H M R:Mm}{F:Mm->Mm}(h:LocL H M R F):H.Perm (M++R)/\∀ M',(F M').Perm (M'++R):=by
 induction h with
 |h=>exact⟨List.Perm.refl _,fun _=>List.Perm.refl _⟩
 |t _ ih=>exact⟨(ih.1.cons _).trans List.perm_middle.symm,fun M'=>((ih.2 M').cons _).trans List.perm_middle.symm⟩
 | @a X H M R F _ ih=>
  have key:∀ M':Mm,(X++(M'++R)).Perm (M'++(X++R)):=fun M'=>by
   rw[<- List.append_assoc,<- List.append_assoc];exact List.perm_append_comm.append_right R
  exact⟨(ih.1.append_left X).trans (key _),fun M'=>((ih.2 M').append_left X).trans (key _)⟩
section
variable {P:Program} {w0:World} {L:Fm} {op:Op} {ty:TypeId} {H:Mm}
theorem Eff.perm {H0:Mm}{K K0:Value->Mm->Prop}(h:Eff P w0 op ty L H0 K0)(hp:H.Perm H0)(hk:∀ v H',K0 v H'->∃ H'',H'.Perm H''/\K v H''):Eff P w0 op ty L H K:=by
 refine⟨h.1,fun b w hO=> ?_⟩;have h1:=h.2 b w (Cf hO hp)
 revert h1
 unfold effO
 split
 ·rintro⟨H',hO',hK⟩;obtain⟨H'',hpp,hK'⟩:=hk _ _ hK;exact⟨H'',Cf hO' hpp,hK'⟩
 ·rintro⟨H',hO',hK⟩;obtain⟨H'',hpp,hK'⟩:=hk _ _ hK;exact⟨H'',Cf hO' hpp,hK'⟩
 ·intro h2;exact h2.mono fun e w' ⟨v,H',he,hO',hK⟩=>by obtain⟨H'',hpp,hK'⟩:=hk _ _ hK;exact⟨v,H'',he,Cf hO' hpp,hK'⟩
 ·intro h2;exact h2.mono fun e w' ⟨v,H',he,hO',hK⟩=>by obtain⟨H'',hpp,hK'⟩:=hk _ _ hK;exact⟨v,H'',he,Cf hO' hpp,hK'⟩
 ·exact id
variable {x y:Operand} {t t2 e:TypeId}
theorem Cg {α:Type}{enc:α->List Value}(v:α){R:Mm}{F:Mm->Mm}{d:Sl}{l:List α}{n sz by':Nat}{z:Value}{i0:TypeInfo}{e2:TypeId}(hl:LocL H (slH d (l.flatMap enc) e) R F)(hx:Ev L x (slV d l.length))(hy:Ev L y (.slice (some ⟨n,0,none⟩) 1 1))
  (ht:∀ w,(underlying t).run P w= .ok (.slice e) w) (ht2:∀ w,(underlying t2).run P w= .ok (.slice e2) w) (hz:∀ w,(sizeOf e).run P w= .ok sz w) (hi:∀ w,(typeInfo e).run P w= .ok i0 w) (hby:i0.bytes=by') (hzv:∀ w,(zeroValue e).run P w= .ok z w) (hzs:z.cells.size=sz)
  (he:∀ u,(enc u).length=sz) (h1:(enc v).all oneB=true) (hok:SlOk d l.length sz) (hb0:by'≠0) (hb:(2*(l.length+1)+600)*by'<=281474976710656) (hn:Cells w0 H n 0 (enc v):=by exact A0):
  Eff P w0 (.call {callee:= .builtin .append,args:= #[x,y],argTypes:= #[t,t2]}) ty L H (fun u H'=>∃ d',u=slV d' (l.length+1)/\SlOk d' (l.length+1) sz/\H'=F (slH d' ((l++[v]).flatMap enc) e)):=by
 have hn':Cells w0 ([]++(slH d (l.flatMap enc) e++R)) n 0 (enc v):=fun i u hi w hO=>hn i u hi w (Cf hO hl.perm.1.symm)
 refine(eff_app1 (A:=[]) (X:=R) v hx hy ht ht2 hz hi hby hzv hzs he h1 hok hb0 hb hn').perm hl.perm.1 ?_;rintro u H' ⟨d',h1,h2,rfl⟩;exact⟨_,(hl.perm.2 _).symm,d',h1,h2,rfl⟩
end
theorem B7 {β:Type}{P:Program}{w0:World}{f:FuncId}{args:Array Value}{H R M:Mm}{F:Mm->Mm}{φ:Value->β->Prop}{M':β->Mm}(h:FSpec P w0 f args (M++R) (fun v H'=>∃ x,φ v x/\H'=M' x++R))
  (hl:LocL H M R F):FSpec P w0 f args H (fun v H'=>∃ x,φ v x/\H'=F (M' x)):=fun w hO=>
 (h w (Cf hO hl.perm.1)).mono fun e w' ⟨v,H',he,hO',x,hx,hH⟩=>⟨v,_,he,Cf (hH ▸ hO') (hl.perm.2 _).symm,x,hx,rfl⟩
def slD (q:Option Addr) (c lo sz:Nat):Option Addr:=if c=lo then q else q.map (·.add (lo*sz))
section
variable {P:Program} {w0:World} {L:Fm} {ty t:TypeId} {H:Mm} {x y z:Operand}
theorem yl_sliceH {e:TypeId}{q:Option Addr}{n c sz k:Nat}(hx:Ev L x (.slice q n c))(hz:Ev L z (.int .i64 (k:Int)))(ht:∀ w,(underlying t).run P w= .ok (.slice e) w)(hs:∀ w,(sizeOf e).run P w= .ok sz w)(h:k<=c):
  Yl P w0 (.slice t x none (some z) none) ty L H (.slice q k c):=Bk U fun b w=>by
 have e0:(q.map fun a=>a.add (0*sz))=q:=by cases q<;>simp[Addr.add]
 simp[exO,execOp,Instr.sliceAt,Instr.slice,Instr.sliceBounds,Instr.sliceBound,asIntOf,hx b,hz b,ht,hs,Sem.run_bind,Result.andThen,show (k:Int)<=c by omega];rw[if_pos h];rw[Nat.zero_mul] at e0;simp[e0]
theorem yl_sliceL {e:TypeId}{q:Option Addr}{n c sz k:Nat}(hx:Ev L x (.slice q n c))(hz:Ev L z (.int .i64 (k:Int)))(ht:∀ w,(underlying t).run P w= .ok (.slice e) w)(hs:∀ w,(sizeOf e).run P w= .ok sz w)(h:k<=n):
  Yl P w0 (.slice t x (some z) none none) ty L H (.slice (slD q c k sz) (n - k) (c - k)):=Bk U fun b w=>by
 simp[exO,execOp,Instr.sliceAt,Instr.slice,Instr.sliceBounds,Instr.sliceBound,asIntOf,hx b,hz b,ht,hs,Sem.run_bind,Result.andThen,show (k:Int)<=n by omega,slD];rw[if_pos h]
end
theorem Arr.drop {α:Type}{w0:World}{H:Mm}{q:Option Addr}{sz c:Nat}{enc:α->List Value}{l:List α}(h:Arr w0 H q sz enc l)(hc:l.length<=c)(lo:Nat):Arr w0 H (slD q c lo sz) sz enc (l.drop lo):=fun i x hi=>by
 rw[List.getElem?_drop] at hi;have hlt:=(List.getElem?_eq_some_iff.1 hi).1;obtain⟨hb,hcs⟩:=h _ x hi;unfold slD;have ea:(some (⟨bq q,oq q,none⟩:Addr)).map (·.add (lo*sz))=some ⟨bq q,oq q+lo*sz,none⟩:=by
  simp only[Option.map_some,Addr.add];split<;>simp_all
 rw[if_neg qom,hb,ea];refine⟨rfl,?_⟩;show Cells w0 H (bq q) (oq q+lo*sz+i*sz) (enc x);have e:oq q+(lo+i)*sz=oq q+lo*sz+i*sz:=by rw[Nat.add_mul];omega
 rw[e] at hcs;exact hcs
theorem Arr.take {α:Type}{w0:World}{H:Mm}{q:Option Addr}{sz:Nat}{enc:α->List Value}{l:List α}(h:Arr w0 H q sz enc l)(k:Nat):Arr w0 H q sz enc (l.take k):=fun i x hi=>by
 rw[List.getElem?_take] at hi
 split at hi
 ·exact h i x hi
 ·cases hi
def IterSpecD (P:Program) (w0:World) (gf:FuncId) (cap:List Value) (Hc:Mm) {α:Type} (enc:α->List Value) (St:List α->α->Prop) (En:List α->Prop):Prop:=
 ∀ (l:Nat) (S:List α->Mm->Prop) (Sx:Mm->Prop),(∀ k H,S k H->Hc.Sublist H)->
  (∀ k x H X,St k x->S k H->YSpec P w0 l (enc x) (X++H) fun v H'=>∃ H1,H'=X++H1/\((v= .bool true/\S (k++[x]) H1)\/(v= .bool false/\Sx H1)))->
  ∀ H,S [] H->FSpec P w0 gf (.func (.yield l) #[] #[]::cap).toArray H fun v H'=>(∃ k,En k/\S k H')\/Sx H'
section
variable {P:Program} {N:Nat} {w0:World} {Q:Post} {L:Fm} {ds:List Deferred} {H:Mm}
theorem j_rangeD {α Z:Type}{g:Operand}{ps:List Nat}{assign body:Code}{gf:FuncId}{cap:List Value}{Hc:Mm}{enc:α->List Value}{St:List α->α->Prop}{En:List α->Prop}
  (hg:Ev L g (.func (.func gf) #[] cap.toArray)) (hc:∀ args w,(callFunc gf args).run P w= .ok (.enter gf args) w) (it:IterSpecD P w0 gf cap Hc enc St En) (hps:∀ x,(enc x).length=ps.length) (hpN:(ps.all fun p=>Nat.blt p N)=true)
  (G:Z->Mm) (φ:List α->Z->Prop) (φr:Z->Prop) (φe:Nat->Z->Prop) (z0:Z) (h0:φ [] z0) (hG:(G z0).Sublist H) (hHc:∀ z,Hc.Sublist (G z))
  (round:∀ (l:Nat) (lr:LoopState->Option Code->Loop) (Y X:Mm) (k:List α) (x:α) (z:Z),LrOk lr->St k x->φ k z->
   J P (some l) N w0 assign (assignQ P l N body (roundQ w0 (fun z=>X++((l, .loop (lr .busy none))::(Y++G z))) (φ (k++[x])) φr φe)) (psL ps (enc x) L) [] (X++((l, .loop (lr .ready none))::(Y++G z))))
  (done:∀ D z k,En k->φ k z->JQ w0 Q .normal L ({target:= .collected D,args:= #[]}::ds) ((D, .deferred (some []))::G z))
  (stopR:∀ D z,φr z->JQ w0 Q .ret L ({target:= .collected D,args:= #[]}::ds) ((D, .deferred (some []))::G z))
  (stopE:∀ id D z,φe id z->JQ w0 Q (.exit id) L ({target:= .collected D,args:= #[]}::ds) ((D, .deferred (some []))::G z)):
  J P none N w0 (.rangeFunc g ps.toArray assign body) Q L ds H:=fun b w hO a hsz hf hd=>by
 refine wpIn_rangeFunc ?_;intro fn _;have hO':=hO.sub hG;obtain⟨lr,hlr⟩:∃ lr:LoopState->Option Code->Loop,lr=fun st pe=>{state:=st,pending:=pe,fn,tmps:=a.tmps,params:=ps.toArray,assign,body,defers:=w.heap.size}:=⟨_,rfl⟩
 have hl:LrOk lr:=by subst hlr;exact⟨fun _ _=>rfl,fun _ _ _=>rfl,fun _ _ _ _=>rfl,fun _ _=>rfl⟩
 have hO1:=(hO'.alloc (.deferred (some []))).alloc (.loop (lr .ready none));rw[World.size_alloc] at hO1;obtain⟨D,hDw⟩:∃ D,D=w.heap.size:=⟨_,rfl⟩;obtain⟨l,hlw⟩:∃ l,l=w.heap.size+1:=⟨_,rfl⟩;rw[<- hlw,<- hDw] at hO1;have hcond:=it l (fun k H=>∃ z,φ k z/\H=(l, .loop (lr .ready none))::([(D, .deferred (some []))]++G z))
  (fun H=>∃ z,(φr z/\H=(l, .loop (lr .done (some .ret)))::([(D, .deferred (some []))]++G z))\/∃ id,φe id z/\H=(l, .loop (lr .done (some (.exit id))))::([(D, .deferred (some []))]++G z))
  (fun k H ⟨z,_,hH⟩=>by rw[hH];exact((hHc z).cons _).cons _)
  (fun k x H X hx ⟨z,hz,hH⟩ w hOw=>by
   rw[hH] at hOw;have hh:w.heap[l]? =some (.loop (lr .ready none)):=hOw.has (l,_) (by simp);have hy:=run_yield (P:=P) (args:=(enc x).toArray) hh (by rw[hlr];simpa using hps x);have htm:a.tmps.size=N:=hsz;have hp:=Lr ps (enc x) a.tmps L b (fun p hp=>by have:=List.all_eq_true.1 hpN p hp;rw[htm];simpa[Nat.blt_eq] using this) hf;refine⟨_,_,_,_,hy,?_⟩;have h1:=round_spec (P:=P) (f:=(lr .ready none).fn) (tmps:=(ps.zip (enc x)).foldl (fun t (p,v)=>t.setIfInBounds p v) a.tmps) (X:=X) (Y:=[(D, .deferred (some []))]) (G:=G) (φ:=φ (k++[x])) (φr:=φr) (φe:=φe) hl hp.2 (by rw[hp.1];exact htm) (round l lr [(D, .deferred (some []))] X k x z hl hx hz) hOw;have e1:(lr .ready none).assign=assign:=by rw[hlr]
   have e2:(lr .ready none).body=body:=by rw[hlr]
   have e3:((lr .ready none).params.zip (enc x).toArray).foldl (fun tmps (p:Tmp × Value)=>tmps.setIfInBounds p.1 p.2) (lr .ready none).tmps=(ps.zip (enc x)).foldl (fun t (p,v)=>t.setIfInBounds p v) a.tmps:=by rw[hlr];simp
   rw[e1,e2];refine RoundIn.mono (by rw[<- e3] at h1;exact h1) ?_;rintro e w' ⟨v,H',he,hO2,hcs⟩;refine⟨v,H',he,hO2,?_⟩;rcases hcs with ⟨hv,z',hz',hH'⟩|⟨hv,z',hcs⟩
   ·exact⟨_,hH', .inl ⟨hv,z',hz',rfl⟩⟩
   ·rcases hcs with ⟨hz',hH'⟩|⟨id,hz',hH'⟩
    ·exact⟨_,hH', .inr ⟨hv,z', .inl ⟨hz',rfl⟩⟩⟩
    ·exact⟨_,hH', .inr ⟨hv,z', .inr ⟨id,hz',rfl⟩⟩⟩)
  ((l, .loop (lr .ready none))::([(D, .deferred (some []))]++G z0)) ⟨z0,h0,rfl⟩
 refine⟨l,[{target:= .collected D,args:= #[]}],(w.alloc (.deferred (some []))).alloc (.loop (lr .ready none)),{target:= .fn (.func gf) cap.toArray,args:= #[.func (.yield l) #[] #[]]},(w.alloc (.deferred (some []))).alloc (.loop (lr .ready none)),gf,(.func (.yield l) #[] #[]::cap).toArray,(w.alloc (.deferred (some []))).alloc (.loop (lr .ready none)),?enter,?res,fun f' _=>trivial,?inv,Jt none,Eo (r:=none) ?call⟩
 case call=>
  refine(hcond _ hO1).mono ?_;rintro e w3 ⟨v,H',he,hO3,hcs⟩;subst he;have fin:∀ (s:LoopState) (p:Option Code) (z:Z),s≠.busy->Own w0 ((l, .loop (lr s p))::([(D, .deferred (some []))]++G z)) w3->(Instr.endLoop l).run P w3= .ok p (w3.putObj l (.loop {lr s p with state:= .exhausted}))/\Own w0 ((D, .deferred (some []))::G z) (w3.putObj l (.loop {lr s p with state:= .exhausted})):=fun s p z hne hO3=>by
   have hh:w3.heap[l]? =some (.loop (lr s p)):=hO3.has (l,_) (by simp);have h1:=run_endLoop (P:=P) hh (by rw[hl.state];exact hne);exact⟨h1.trans (congrArg (fun q=>Result.ok q _) (hl.pend s p)),(hO3.put .h).tail⟩
  have key:∀ e z,(∀ w,Own w0 ((D, .deferred (some []))::G z) w->Q e (lk L b) ({target:= .collected D,args:= #[]}::ds) w)->∀ w,Own w0 ((D, .deferred (some []))::G z) w->LQ N Q e {a with defers:=[{target:= .collected D,args:= #[]}]++a.defers} w:=fun e z h w hOw=>⟨hsz,by
   have:=h w hOw;have hf':fr {a with defers:=[{target:= .collected D,args:= #[]}]++a.defers}=lk L b:=hf;rw[hf'];simp only[List.cons_append,List.nil_append,hd];exact this⟩
  rcases hcs with ⟨kk,hEn,z,hz,hH'⟩|⟨z,hcs⟩
  ·rw[hH'] at hO3;obtain⟨h1,h2⟩:=fin _ _ z (by simp) hO3;exact⟨none,_,h1,key .normal z (fun w hw=>done D z kk hEn hz b w hw) _ h2⟩
  ·rcases hcs with ⟨hz,hH'⟩|⟨id,hz,hH'⟩
   ·rw[hH'] at hO3;obtain⟨h1,h2⟩:=fin _ _ z (by simp) hO3;exact⟨some .ret,_,h1,wpIn_ret (key .ret z (fun w hw=>stopR D z hz b w hw) _ h2)⟩
   ·rw[hH'] at hO3;obtain⟨h1,h2⟩:=fin _ _ z (by simp) hO3;exact⟨some (.exit id),_,h1,wpIn_exit (key (.exit id) z (fun w hw=>stopE id D z hz b w hw) _ h2)⟩
 case enter=>
  have:=run_enterLoop_outer (P:=P) (w:=w) fn a.tmps ps.toArray assign body;rw[hlr,hlw,hDw];exact this
 case res=>
  have hgb:=hg b;rw[<- hf,<- Er] at hgb;have e:resolve a.eval (rangeCall g l) 0=Deferred.ofValue (a.eval g) #[.func (.yield l) #[] #[]]:=by
   unfold resolve;simp only[List.map_toArray,List.map_cons,List.map_nil]
   rfl
  rw[e];rw[hgb];simp[Deferred.ofValue]
 case inv=>simp[invoke,hc]
end
section
variable {K V:Type} {encK:K->Value} {encV:V->Value} {P:Program} {w0:World} {L:Fm} {H:Mm} {ty t:TypeId} {x:Operand}
abbrev itO (m:Nat) (c:Nat) (seen:List Nat) (last:Nat):Obj:= .mapIter (some m) c seen.toArray last
theorem eff_rangeMap {kt et:TypeId}{m:Nat}{l:List (K × V)}(hx:Ev L x (.map (some m)))(hf:Fnd H m (mapO encK encV l))(ht:∀ w,(underlying t).run P w= .ok (.map kt et) w):
  Eff P w0 (.range t x) ty L H (fun v H'=>∃ n,v= .pointer (some ⟨n,0,none⟩)/\H'=(n,itO m l.length [] l.length)::H):=
 ⟨rfl,fun b w hO=>by
  have hh:=Dc (P:=P) (hO.has _ hf);have:(exO (ev (lk L b)) (.range t x) ty).run P w= .ok (.value (.pointer (some ⟨w.heap.size,0,none⟩))) (w.alloc (itO m l.length [] l.length)):=by
   simp[exO,execOp,Instr.range,hx b,ht,hh,newObj,Sem.run,Sem.run_bind,Result.andThen]
  rw[this];exact⟨_,hO.alloc _,_,rfl,rfl⟩⟩
theorem run_next {w:World}{r m c:Nat}{es:Array MapEntry}{seen:Array Nat}(h1:w.heap[r]? =some (.mapIter (some m) c seen c))(h2:w.heap[m]? =some (.map es c))(hb:∀ e∈es,e.born<c):
    ∃ w1,(w1=w\/w1=w.drew)/\
      ((es.filter (fun e=> !seen.contains e.born)= #[]/\(Instr.next (.pointer (some ⟨r,0,none⟩)) false ty).run P w= .ok (.tuple #[.bool false]) w1)\/
       ∃ e,e∈es/\seen.contains e.born=false/\(Instr.next (.pointer (some ⟨r,0,none⟩)) false ty).run P w= .ok (.tuple #[.bool true,e.key,e.val]) (w1.putObj r (.mapIter (some m) c (seen.push e.born) c))):=by
  have hg1:(getObj r).run P w= .ok (.mapIter (some m) c seen c) w:=by simp[getObj,Sem.run,h1]
  have hg2:=Dc (P:=P) h2;have hall:(!seen.isEmpty&& !es.isEmpty&&es.all (fun e=>decide (e.born>=c)))=false:=by
    rw[Bool.eq_false_iff];intro h;simp only[Bool.and_eq_true,Bool.not_eq_true',Array.all_eq_true,decide_eq_true_eq] at h;obtain⟨⟨_,hne⟩,ha⟩:=h;have hp:0<es.size:=by
      rcases Nat.eq_zero_or_pos es.size with h0|h0
      · have:es= #[]:=Array.eq_empty_of_size_eq_zero h0;rw[this] at hne;cases hne
      · exact h0
    have h3:=ha 0 hp;have h4:=hb es[0] (Array.getElem_mem _);omega
  obtain⟨left,hleft⟩:∃ left,left=es.filter fun e=> !seen.contains e.born:=⟨_,rfl⟩
  have hlm:∀ e∈left,e∈es/\seen.contains e.born=false:=fun e he=>by
    rw[hleft,Array.mem_filter] at he;exact⟨he.1,by simpa using he.2⟩
  have hold:left.filter (fun e=>decide (e.born<c))=left:=by
    rw[Array.filter_eq_self];intro e he;exact decide_eq_true (hb e (hlm e he).1)
  have hnew:left.filter (fun e=>decide (e.born>=c))= #[]:=by
    rw[Array.filter_eq_empty_iff];intro e he;have:=hb e (hlm e he).1;simp;omega
  obtain⟨cand,hcand⟩:∃ cand:Array (Option MapEntry),cand=(if left.isEmpty then #[none] else #[])++(left++ #[]).map some:=⟨_,rfl⟩;have hcp:0<cand.size:=by
    rw[hcand];rcases Nat.eq_zero_or_pos left.size with h0|h0
    · have:left= #[]:=Array.eq_empty_of_size_eq_zero h0;subst this;simp
    · simp;omega
  obtain⟨idx,w1,hw1,hidx,hch⟩:∃ idx w1,(w1=w\/w1=w.drew)/\idx<cand.size/\(choose (.mapNext cand.size)).run P w= .ok idx w1:=by
    rw[run_choose_drew]
    split
    · exact⟨0,w, .inl U,hcp,rfl⟩
    · exact⟨_,_, .inr U,Nat.mod_lt _ hcp,rfl⟩
  refine⟨w1,hw1,?_⟩;have hrun:(Instr.next (.pointer (some ⟨r,0,none⟩)) false ty).run P w=(match cand[idx]? with
      |some (some e)=>(do setObj r (.mapIter (some m) c (seen.push e.born) c);pure (.tuple #[.bool true,e.key,e.val]):Sem Value)
      |some none=>pure (.tuple #[.bool false])
      |none=>stuck "Next: no such candidate").run P w1:=by
    unfold Instr.next;simp only[Sem.run_bind,hg1,hg2,Result.andThen,hall,<- hleft,hold,hnew,<- hcand,hch,Bool.false_eq_true,if_false,Sem.run_pure]
    rfl
  rcases Nat.eq_zero_or_pos left.size with h0|h0
  · have he:left= #[]:=Array.eq_empty_of_size_eq_zero h0;refine .inl ⟨by rw[<- hleft,he],?_⟩;rw[hrun];have hc1:cand= #[none]:=by rw[hcand,he];simp
    rw[hc1] at hidx ⊢;have:idx=0:=by simpa using hidx
    subst this;simp
  · have hc1:cand=left.map some:=by
      rw[hcand];have:left.isEmpty=false:=by rw[Array.isEmpty_eq_false_iff];intro he;rw[he] at h0;simp at h0
      rw[this];simp
    rw[hc1] at hidx hrun;have hil:idx<left.size:=by simpa using hidx
    have hm:=hlm left[idx] (Array.getElem_mem _);refine .inr ⟨left[idx],hm.1,hm.2,?_⟩;rw[hrun];have hh1:w1.heap[r]? =some (.mapIter (some m) c seen c):=by rcases hw1 with rfl|rfl<;>exact h1
    have hget:(left.map some)[idx]? =some (some left[idx]):=by simp[hil]
    rw[hget];simp[setObj,Sem.run,hh1,World.putObj,Sem.run_bind,Result.andThen]
theorem ents_mem [DecidableEq K] {l:List (K × V)}{e:MapEntry}(h:e∈(ents encK encV l).toArray):∃ i p,l[i]? =some p/\e={key:=encK p.1,val:=encV p.2,born:=i}:=by
 simp only[List.mem_toArray] at h;obtain⟨i,hi,he⟩:=List.getElem_of_mem h;have h1:=Gs encK encV l i;rw[List.getElem?_eq_getElem hi,he] at h1;cases hl:l[i]? with
 |none=>rw[hl] at h1;simp at h1
 |some p=>rw[hl] at h1;simp at h1;exact⟨i,p,hl,h1⟩
theorem own_drew {w w1:World}(hO:Own w0 H w)(h:w1=w\/w1=w.drew):Own w0 H w1:=by
 rcases h with rfl|rfl
 ·exact hO
 ·exact hO.drawn
theorem eff_next [DecidableEq K] {m r:Nat}{l:List (K × V)}{seen:List Nat}{R:Mm}{F:Obj->Mm}(hx:Ev L x (.pointer (some ⟨r,0,none⟩)))(hm:Fnd H m (mapO encK encV l))(hl:Loc H r (itO m l.length seen l.length) R F):
  Eff P w0 (.next x false) ty L H (fun v H'=>(∃ i p,l[i]? =some p/\i∉seen/\v= .tuple #[.bool true,encK p.1,encV p.2]/\H'=F (itO m l.length (seen++[i]) l.length))\/((∀ i,i<l.length->i∈seen)/\v= .tuple #[.bool false]/\H'=H)):=
 ⟨rfl,fun b w hO=>by
  have hO1:=Cf hO hl.perm.1;have h1:=hO1.has _ (List.mem_cons_self ..);have h2:=hO.has _ hm;obtain⟨w1,hw1,hcs⟩:=run_next (P:=P) (ty:=ty) (c:=l.length) h1 h2 (fun e he=>by
   obtain⟨i,p,hi,rfl⟩:=ents_mem he;exact(List.getElem?_eq_some_iff.1 hi).1)
  have e0:(exO (ev (lk L b)) (.next x false) ty).run P w=((Instr.next (.pointer (some ⟨r,0,none⟩)) false ty).run P w).andThen fun v w=> .ok (.value v) w:=by
   simp[exO,execOp,hx b,Sem.run_bind]
  rcases hcs with ⟨he,hr⟩|⟨e,he,hns,hr⟩
  ·rw[e0,hr];refine⟨H,own_drew hO hw1, .inr ⟨fun i hi=> ?_,rfl,rfl⟩⟩;have h3:({key:=encK l[i].1,val:=encV l[i].2,born:=i}:MapEntry)∈(ents encK encV l).toArray:=by
    rw[List.mem_toArray,List.mem_iff_getElem?];exact⟨i,by rw[Gs,List.getElem?_eq_getElem hi];rfl⟩
   rw[Array.filter_eq_empty_iff] at he;have:=he _ h3
   simpa using this
  ·rw[e0,hr];obtain⟨i,p,hi,rfl⟩:=ents_mem he;refine⟨F (itO m l.length (seen++[i]) l.length),?_, .inl ⟨i,p,hi,by simpa using hns,rfl,rfl⟩⟩;have hO2:=(own_drew hO1 hw1).put (o':=itO m l.length (seen++[i]) l.length) .h;have e3:(seen.toArray.push i)=(seen++[i]).toArray:=by simp
   simp only[e3];exact Cf hO2 (hl.perm.2 _).symm⟩
theorem yl_entry [DecidableEq K] {m r i:Nat}{l:List (K × V)}{p:K × V}{seen:List Nat}(hx:Ev L x (.pointer (some ⟨r,0,none⟩)))(hm:Fnd H m (mapO encK encV l))(hr:Fnd H r (itO m l.length (seen++[i]) l.length))(hi:l[i]? =some p):
  Yl P w0 (.entry x) ty L H (.tuple #[encK p.1,encV p.2]):=Lp U fun H' hs b w hO=>by
 have h1:=hO.has _ (hs.subset hr);have h2:=hO.has _ (hs.subset hm);have hg1:(getObj r).run P w= .ok (itO m l.length (seen++[i]) l.length) w:=by simp[getObj,Sem.run,h1]
 have hg2:=Dc (P:=P) h2;have hf:(ents encK encV l).toArray.find? (fun e=>e.born==i)=some {key:=encK p.1,val:=encV p.2,born:=i}:=by
  have hlt:=(List.getElem?_eq_some_iff.1 hi).1;simp only[List.find?_toArray];rw[List.find?_eq_some_iff_getElem];have hg:∀ j,(hj:j<(ents encK encV l).length)->∃ q,l[j]? =some q/\(ents encK encV l)[j]={key:=encK q.1,val:=encV q.2,born:=j}:=fun j hj=>by
   have h3:=Gs encK encV l j;rw[List.getElem?_eq_getElem hj] at h3;cases hq:l[j]? with
   |none=>rw[hq] at h3;simp at h3
   |some q=>rw[hq] at h3;simp at h3;exact⟨q,rfl,h3⟩
  have hel:(ents encK encV l).length=l.length:=by simp[ents]
  refine⟨by simp,i,by omega,?_,fun j hj=> ?_⟩
  ·obtain⟨q,hq,he⟩:=hg i qom;rw[hi] at hq;cases hq;exact he
  ·obtain⟨q,_,he⟩:=hg j qom;rw[he];simp;omega
 simp[exO,execOp,hx b,Instr.entry,hg1,hg2,hf,Sem.run_bind,Result.andThen]
end
section
variable {P:Program} {r:Option Nat} {N:Nat} {w0:World} {Q:Post} {L:Fm} {ds:List Deferred} {H H':Mm} {ty t:TypeId} {x y:Operand}
theorem jq_perm {e:Exit}(hp:H.Perm H')(h:JQ w0 Q e L ds H'):JQ w0 Q e L ds H:=fun b w hO=>h b w (Cf hO hp)
theorem jl_perm {ops:Array Oper}{l:List Oper}(hp:H.Perm H')(h:JL P r N w0 ops l Q L ds H'):JL P r N w0 ops l Q L ds H:=fun b w hO=>h b w (Cf hO hp)
theorem Bm {b o n e sz:Nat}{i:Int}(hx:Ev L x (.pointer (some ⟨b,o,none⟩)))(hy:Ev L y (.int .i64 i))(ht:∀ w,(underlying t).run P w= .ok (.array n e) w)(hz:∀ w,(sizeOf e).run P w= .ok sz w)(h:0<=i/\i<n):
  Yl P w0 (.indexAddr t x y) ty L H (.pointer (some ⟨b,o+i.toNat*sz,none⟩)):=Bk U fun b' w=>by
 have e1:(⟨b,o,none⟩:Addr).add (i.toNat*sz)=⟨b,o+i.toNat*sz,none⟩:=by
  simp only[Addr.add];split<;>simp_all
 simp[exO,execOp,Instr.indexAt,Instr.sureAddr,asIntOf,hx b',hy b',ht,hz,h,e1,Sem.run_bind,Result.andThen]
theorem Ct {n o:Nat}{v:Value}{l l':List Value}{t':TypeId}{H':Mm}(hx:Ev L x (.pointer (some ⟨n,o,none⟩)))(hy:Ev L y v)(hv:oneB v=true)(hz:∀ w,(sizeOf t).run P w= .ok 1 w)
  (hu:Upd H n (Cl l t') (Cl l' t') H':=by(repeat (first|exact Upd.h|apply Upd.t|apply Gn));done) (hs:setN? l o v=some l':=by rfl):Eff P w0 (.store t x y) ty L H (Still undef H'):=eff_store1 hx hy hv hz (setN_of hs) hu
end
theorem two64:(2:Nat) ^ 64=18446744073709551616:=by decide
theorem D4 (n:Nat):BitVec.ofInt 64 (n:Int)=BitVec.ofNat 64 n:=BitVec.ofInt_natCast 64 n
section
variable {P:Program} {r:Option Nat} {N:Nat} {w0:World} {ops:Array Oper} {t f:Nat} {Q:Post} {L:Fm} {ds:List Deferred} {H0 H:Mm} {listed:Array Bool}
def JX (P:Program) (r:Option Nat) (N:Nat) (w0:World) (H0:Mm) (ops:Array Oper) (t f:Nat) (listed:Array Bool) (Q:Post) (L:Fm) (ds:List Deferred) (H:Mm):Prop:=
 TailS ops t->noDefer ops=true->Region.noSelect ops=true->(∀ c σ σ' ds w,Q (.panic c) σ ds w->Q (.panic c) σ' ds w)->H0.Sublist H->HeadInv md ops t listed->∀ b (a:Act),a.tmps.size=N->fr a=lk L b->a.defers=ds->
  wpO P r ops (LQ N Q) w0 H0 t f listed a H
theorem Dr {l:List Oper}(hp:tailOk ops (ops.size - t) t listed=true)(hl:ops.toList.drop t=l)(h:JL P r N w0 ops l Q L ds H):JX P r N w0 H0 ops t 0 listed Q L ds H:=fun hT hD hS hP hs inv b a hsz hf hd=>by
 refine⟨hp,fun w hO=> ?_⟩;rw[hl];exact h b w hO a hsz hf hd
def takeB (ops:Array Oper) (t:Nat) (listed:Array Bool) (i:Nat):Bool:=Nat.blt i t&&(Region.ready md ops listed).contains i&&Region.free md ops listed i
variable {d:Option Tmp} {op:Op} {ty:TypeId} {p:String} {af:Array Edge} {g:Option (Nat × Bool)} {v:Value} {i j k l:Nat}
theorem x_take (hi:ops[i]? =some ⟨d,op,ty,p,af,g⟩)(hN:dOk d N=true)(hb:takeB ops t listed i=true)(hy:∀ b (a:Act),a.tmps.size=N->fr a=lk L b->YieldsO P ops w0 H0 ⟨d,op,ty,p,af,g⟩ v a)(h:JX P r N w0 H0 ops t f (listed.setIfInBounds i true) Q (pt d v L) ds H):JX P r N w0 H0 ops t (f+1) listed Q L ds H:=
 fun hT hD hS hP hs inv b a hsz hf hd=>by
  simp only[takeB,Bool.and_eq_true,Nat.blt_eq] at hb;obtain⟨⟨h1,h2⟩,h3⟩:=hb;have hr:i∈Region.ready md ops listed:=by simpa using h2
  exact wpO_first hT hD hi h1 (Region.noSelect_spec hS) (pan_put hP) f listed a H hs (Region.free_spec hi h3) inv hr (hy b a hsz hf)
   (h hT hD hS hP hs (inv.set hr h1) b _ (by rw[Df];exact hsz) (H4 hN hsz hf) (by rw[Cu];exact hd))
theorem x_y (hi:ops[i]? =some ⟨d,op,ty,p,af,g⟩)(hb:takeB ops t listed i=true)(hy:Yl P w0 op ty L H0 v)(h:JX P r N w0 H0 ops t f (listed.setIfInBounds i true) Q (pt d v L) ds H)(hN:dOk d N=true)(hg:Gd ops L g N true):JX P r N w0 H0 ops t (f+1) listed Q L ds H:=
 x_take hi hN hb (fun b a hs hf=> .inl ⟨Mi hg hs hf,fun H hsub w hO=>by rw[exO_eq,Js,hf];exact hy.2 H hsub b w hO⟩) h
def XS (P:Program) (r:Option Nat) (N:Nat) (w0:World) (H0:Mm) (ops:Array Oper) (t f:Nat) (listed:Array Bool) (Q:Post) (L:Fm) (ds:List Deferred) (H:Mm) (i:Nat):Prop:=
 i∈Region.ready md ops listed->i<t->TailS ops t->noDefer ops=true->Region.noSelect ops=true->(∀ c σ σ' ds w,Q (.panic c) σ ds w->Q (.panic c) σ' ds w)->H0.Sublist H->HeadInv md ops t listed->∀ b (a:Act),a.tmps.size=N->fr a=lk L b->a.defers=ds->∀ w,Own w0 H w->
  wpOpIn (rd r) 0 P ops (LQ N Q) i (fun a' w'=>∃ H',H0.Sublist H'/\Own w0 H' w'/\wpO P r ops (LQ N Q) w0 H0 t f (listed.setIfInBounds i true) a' H') a w
theorem B5 {K:Value->Mm->Prop}(hi:ops[i]? =some ⟨d,op,ty,p,af,g⟩)(he:Eff P w0 op ty L H K)(h:∀ v H',K v H'->H0.Sublist H'/\JX P r N w0 H0 ops t f (listed.setIfInBounds i true) Q (pt d v L) ds H')(hN:dOk d N=true)(hg:Gd ops L g N true):XS P r N w0 H0 ops t f listed Q L ds H i:=
 fun hr h1 hT hD hS hP hs inv b a hsz hf hd w hO=>by
  unfold wpOpIn;simp only[hi];rw[if_pos (Mi hg hsz hf)];refine eff_wpIn hf he hO fun v H' w' hk hO'=> ?_
  obtain⟨k1,k2⟩:=h v H' hk;exact⟨H',k1,hO',k2 hT hD hS hP k1 (inv.set hr h1) b _ (by rw[Df];exact hsz) (H4 hN hsz hf) (by rw[Cu];exact hd)⟩
theorem xs_all {rs:List Nat}(hr:Region.ready md ops listed=rs)(h0:∃ i0∈rs,i0<t)(h:∀ i∈rs,i<t->XS P r N w0 H0 ops t f listed Q L ds H i):JX P r N w0 H0 ops t (f+1) listed Q L ds H:=
 fun hT hD hS hP hs inv b a hsz hf hd=>by
  subst hr;exact⟨h0,fun i hi hit w hO=>h i hi hit hi hit hT hD hS hP hs inv b a hsz hf hd w hO⟩
theorem Ca (hr:Region.ready md ops listed=[i])(ht:Nat.blt i t=true)(h1:XS P r N w0 H0 ops t f listed Q L ds H i):JX P r N w0 H0 ops t (f+1) listed Q L ds H:=
 xs_all hr ⟨i,by simp,by simpa[Nat.blt_eq] using ht⟩ fun m hm _=>by
  obtain rfl:m=i:=by simpa using hm
  exact h1
theorem Fu (hr:Region.ready md ops listed=[i,j])(ht:Nat.blt i t=true)(h1:XS P r N w0 H0 ops t f listed Q L ds H i)(h2:XS P r N w0 H0 ops t f listed Q L ds H j):JX P r N w0 H0 ops t (f+1) listed Q L ds H:=
 xs_all hr ⟨i,by simp,by simpa[Nat.blt_eq] using ht⟩ fun m hm _=>by
  simp only[List.mem_cons,List.not_mem_nil,or_false] at hm;rcases hm with rfl|rfl
  ·exact h1
  ·exact h2
def anyX (ops:Array Oper) (t:Nat):Bool:=tailB ops t&&noDefer ops&&Region.noSelect ops
theorem Ib {id:Nat}(t:Nat)(H0:Mm)(hm:P.follows .mixedOrders=true)(hb:anyX ops t=true)(hs:H0.Sublist H)(h:JX P r N w0 H0 ops t t (Array.replicate ops.size false) Q L ds H)(hP:NoPanic Q:=by repeat (first|exact Jh|exact Gq|exact Fh|apply F3|apply Ey|apply G9|apply Ji)):J P r N w0 (.region id ops true) Q L ds H:=fun b w hO a hsz hf hd=>by
 simp only[anyX,Bool.and_eq_true] at hb;obtain⟨⟨h1,h2⟩,h3⟩:=hb;obtain⟨hT,htl⟩:=tailB_spec h1;have inv:HeadInv md ops t (Array.replicate ops.size false):=by
  refine⟨by simp,fun j oj _ hl=>(by rw[getD_replicate_false] at hl;cases hl),fun k _ hk=> ?_⟩;simp[hk]
 have h6:=wpAny_of_wpO hT htl t _ a H {w with drawn:=w.drawn+1} inv hO.drawn (h hT h2 h3 hP.no hs inv b a hsz hf hd);rw[show t+(ops.size - t)=ops.size by omega] at h6;exact wpIn_region_any hm h6
theorem yl_nilCheck {a:Addr}{ty:TypeId}{x:Operand}(hx:Ev L x (.pointer (some a))):Yl P w0 (.nilCheck x) ty L H (.pointer (some a)):=Bk U fun b w=>by
 simp[exO,execOp,hx b,Sem.run_bind,Result.andThen]
end
section
variable {P:Program} {r:Option Nat} {ops:Array Oper} {Q:Exit->Act->World->Prop} {w0:World} {s t:Nat} {Hs Hb:Mm}
def hx (s:Nat) (Hs Hb:Mm) (listed:Array Bool):Mm:=if listed.getD s false=true then Hs else Hb
end
theorem cells_flat {α:Type}{enc:α->List Value}{sz:Nat}(he:∀ u,(enc u).length=sz){w0:World}{H:Mm}{b:Nat}:∀ (l:List α) (o:Nat),(∀ i x,l[i]? =some x->Cells w0 H b (o+i*sz) (enc x))->Cells w0 H b o (l.flatMap enc)
 |[],o,_=>fun i v hi=>by simp at hi
 |x::l,o,h=>fun i v hi=>by
  rw[List.flatMap_cons] at hi;rcases Nat.lt_or_ge i (enc x).length with hlt|hge
  ·rw[List.getElem?_append_left hlt] at hi;have:=h 0 x U i v hi
   simpa using this
  ·rw[List.getElem?_append_right hge] at hi;have h2:=cells_flat he l (o+sz) (fun j y hj=>by
    have:=h (j+1) y (by simpa using hj);rw[show o+sz+j*sz=o+(j+1)*sz by rw[Nat.succ_mul];omega];exact this) (i - (enc x).length) v hi
   rw[he] at h2 hge;rw[show o+sz+(i - sz)=o+i by omega] at h2;exact h2
theorem Arr.all {α:Type}{enc:α->List Value}{sz:Nat}(he:∀ u,(enc u).length=sz){w0:World}{H:Mm}{q:Option Addr}{l:List α}(h:Arr w0 H q sz enc l):Cells w0 H (bq q) (oq q) (l.flatMap enc):=
 cells_flat he l (oq q) fun i x hi=>(h i x hi).2
theorem all_flat {α:Type}{enc:α->List Value}(h:∀ u,(enc u).all oneB=true):∀ (l:List α),(l.flatMap enc).all oneB=true
 |[]=>rfl
 |x::l=>by rw[List.flatMap_cons,List.all_append,h x,all_flat h l];rfl
section
variable {P:Program} {w0:World} {L:Fm} {op:Op} {ty xt yt:TypeId} {H:Mm} {x y:Operand} {t t2 e:TypeId}
theorem Bu {α:Type}{enc:α->List Value}(l2:List α){R:Mm}{F:Mm->Mm}{d:Sl}{l:List α}{q:Option Addr}{c sz by':Nat}{z:Value}{i0:TypeInfo}{e2:TypeId}(hl:LocL H (slH d (l.flatMap enc) e) R F)(hx:Ev L x (slV d l.length))(hy:Ev L y (.slice q l2.length c))
  (ht:∀ w,(underlying t).run P w= .ok (.slice e) w) (ht2:∀ w,(underlying t2).run P w= .ok (.slice e2) w) (hz:∀ w,(sizeOf e).run P w= .ok sz w) (hi:∀ w,(typeInfo e).run P w= .ok i0 w) (hby:i0.bytes=by') (hzv:∀ w,(zeroValue e).run P w= .ok z w) (hzs:z.cells.size=sz)
  (he:∀ u,(enc u).length=sz) (h1:∀ u,(enc u).all oneB=true) (hok:SlOk d l.length sz) (hb0:by'≠0) (hb:(2*(l.length+l2.length)+600)*by'<=281474976710656) (hA:Arr w0 H q sz enc l2):
  Eff P w0 (.call {callee:= .builtin .append,args:= #[x,y],argTypes:= #[t,t2]}) ty L H (fun u H'=>∃ d',u=slV d' (l.length+l2.length)/\SlOk d' (l.length+l2.length) sz/\H'=F (slH d' ((l++l2).flatMap enc) e)):=by
 have hn:=hA.all he;have hn':Cells w0 ([]++(slH d (l.flatMap enc) e++R)) (bq q) (oq q) (l2.flatMap enc):=fun i u hi w hO=>hn i u hi w (Cf hO hl.perm.1.symm)
 have hq:l2.length=0\/Bas q:=by
  cases l2 with
  |nil=>exact .inl rfl
  |cons x l2=>exact .inr (hA 0 x rfl).1
 refine(eff_append (A:=[]) (X:=R) (cells:=l.flatMap enc) (new:=l2.flatMap enc) hx hy ht ht2 hz hi hby hzv hzs hq (Ed he l2) hn' (all_flat h1 l2) (Ed he l) hok hb0 hb).perm hl.perm.1 ?_;rintro u H' ⟨d',h1,h2,rfl⟩;exact⟨_,(hl.perm.2 _).symm,d',h1,h2,by rw[List.flatMap_append]⟩
theorem Eu {a b:ByteArray}(hx:Ev L x (.string a))(hy:Ev L y (.string b)):Yl P w0 (.binOp .eql xt x y yt) ty L H (.bool (decide (a.data.toList=b.data.toList))):=Bk U fun b' w=>by
 have e1:(a.toList==b.toList)=decide (a.data.toList=b.data.toList):=by
  rw[ByteArray.toList_eq,ByteArray.toList_eq];exact Bool.eq_iff_iff.2 (by simp)
 simp[exO,execOp,hx b',hy b',binOp,eqGuard,Op.stringOp,Sem.run_bind,Result.andThen,e1]
theorem yl_neSD {a b:ByteArray}(hx:Ev L x (.string a))(hy:Ev L y (.string b)):Yl P w0 (.binOp .neq xt x y yt) ty L H (.bool (decide (¬ a.data.toList=b.data.toList))):=Bk U fun b' w=>by
 have e1:(!(a.toList==b.toList))=decide (¬ a.data.toList=b.data.toList):=by
  rw[ByteArray.toList_eq,ByteArray.toList_eq];exact Bool.eq_iff_iff.2 (by simp)
 have e2:(a.toList !=b.toList)=decide (¬ a.data.toList=b.data.toList):=e1;simp[exO,execOp,hx b',hy b',binOp,eqGuard,Op.stringOp,Sem.run_bind,Result.andThen,e1,e2]
end
section
variable {P:Program} {w0:World} {L:Fm} {ty t et kt:TypeId} {H:Mm} {x y z:Operand} {K V:Type} [DecidableEq K] {encK:K->Value} {encV:V->Value}
theorem eff_insert {r:Nat}{l:List (K × V)}(k:K)(u:V){v v':Value}{H':Mm}(hk:KeyOk (V:=V) P kt encK)(hx:Ev L x (.map (some r)))(hy:Ev L y v)(hv:v=encK k)(hz:Ev L z v')(hv':v'=encV u)(ht:∀ w,(underlying t).run P w= .ok (.map kt et) w)
  (hu:Upd H r (mapO encK encV l) (mapO encK encV (upsert l k u)) H':=by(repeat (first|exact Upd.h|apply Upd.t|apply Gn));done):Eff P w0 (.insert t x y z) ty L H (Still undef H'):=
 ⟨rfl,fun b w hO=>(Cq (ty:=ty) k u hk hx hy hv hz hv' ht hu).2 b w hO⟩
end
theorem D5 {P:Program}{b:Frame}{a:Act}{k:List Item}{cs:List Frame}{w:World}{c:Code}:
  step P (lone (b.atR a (.code (.scope c)::k)) cs w)= .next (lone (b.atR a (.code c:: .inScope c::k)) cs w):=
 step_lone_go (by simp[stepG,stepG.exec,Frame.atR])
theorem stepR_inScope {P:Program}{b:Frame}{a:Act}{k:List Item}{cs:List Frame}{w:World}{c:Code}:
  step P (lone (b.atR a (.inScope c::k)) cs w)= .next (lone (b.atR a k) cs w):=
 step_lone_go (by simp[stepG,stepG.exec,Frame.atR])
theorem wpIn_scope {F:Fence}{n:Nat}{P:Program}{Q:Exit->Act->World->Prop}{a:Act}{w:World}{c:Code}(h:c.wpIn F n P (Exit.noGoto Q) a w):(Code.scope c).wpIn F n P Q a w:=by
 intro b k cs hro hb hr;have h0:(lone (b.atR a (.code (.scope c)::k)) cs w).fenced P F:=fenced_calm hb hr U;obtain⟨e,a₁,w₁,hq,harr⟩:=h b (.inScope c::k) cs hro hb hr;cases e with
 |normal=>exact⟨.normal,a₁,w₁,hq, .head h0 D5 (StepsIn.trans harr (.one (fenced_calm hb hr rfl) stepR_inScope))⟩
 |exit id'=>
  have hx:exitTo id' (.inScope c::k)=exitTo id' k:=by simp[exitTo]
  exact⟨.exit id',a₁,w₁,hq,fun k' hk=> .head h0 D5 (harr.1 k' (by rw[hx];exact hk)),
   fun hr' hk=>let ⟨k₁,h1,h2⟩:=harr.2 hr' (by rw[hx];exact hk);⟨k₁,h1, .head h0 D5 h2⟩⟩
 |goto l=>exact hq.elim
 |ret=>exact⟨_,a₁,w₁,hq, .of_steps (.one h0 D5) harr⟩
 |panic ch=>exact⟨_,a₁,w₁,hq, .of_steps (.one h0 D5) harr⟩
 |outgrown=>exact⟨_,a₁,w₁,hq, .of_steps (.one h0 D5) harr⟩
section
variable {P:Program} {r:Option Nat} {N:Nat} {w0:World} {Q:Post} {L:Fm} {ds:List Deferred} {H:Mm}
def noG (Q:Post):Post
 | .goto _,_,_,_=>False
 |e,σ,ds,w=>Q e σ ds w
theorem j_scope {c:Code}(h:J P r N w0 c (noG Q) L ds H):J P r N w0 (.scope c) Q L ds H:=fun b w hO a hs hf hd=>
 wpIn_scope (wpIn_mono (h b w hO a hs hf hd) (by
  intro e a' w' hq;cases e with
  |goto l=>exact hq.2
  |normal=>exact hq
  |exit id=>exact hq
  |ret=>exact hq
  |panic ch=>exact hq
  |outgrown=>exact hq))
theorem j_label {l:Nat}(h:JQ w0 Q .normal L ds H):J P r N w0 (.label l) Q L ds H:=fun b w hO a hs hf hd=>wpIn_label ⟨hs,by rw[hf,hd];exact h b w hO⟩
theorem q_scope (h:JQ w0 Q .normal L ds H):JQ w0 (noG Q) .normal L ds H:=h
theorem q_scope_ret (h:JQ w0 Q .ret L ds H):JQ w0 (noG Q) .ret L ds H:=h
theorem q_scope_exit {id:Nat}(h:JQ w0 Q (.exit id) L ds H):JQ w0 (noG Q) (.exit id) L ds H:=h
theorem Gt (h:NoPanic Q):NoPanic (noG Q):=⟨fun c σ σ' ds w hq=>h.no c σ σ' ds w hq⟩
end
def AllL {α:Type} (p:α->Prop):List α->Prop
 |[]=>True
 |x::l=>p x/\AllL p l
theorem AllL.mem {α:Type}{p:α->Prop}:∀ {l:List α},AllL p l->∀ x∈l,p x
 |[],_,x,h=>by cases h
 |y::l,h,x,hx=>by
  rcases List.mem_cons.1 hx with rfl|hx
  ·exact h.1
  ·exact h.2.mem x hx
def FaOk (P:Program) (e:(Nat × Nat) × Option Nat):Prop:=
 match e.2 with
 |none=>∀ b o w,(Instr.fieldAt e.1.1 (.pointer (some ⟨b,o,none⟩)) e.1.2).run P w= .ok (.pointer (some ⟨b,o,none⟩)) w
 |some k=>∀ b o w,(Instr.fieldAt e.1.1 (.pointer (some ⟨b,o,none⟩)) e.1.2).run P w= .ok (.pointer (some ⟨b,o+k,none⟩)) w
structure Tab (P:Program) where
 fo:List ((Nat × Nat) × Option Nat)
 sl:List Nat
 okf:AllL (FaOk P) fo
 okl:AllL (fun t=>∃ e,∀ w,(underlying t).run P w= .ok (.slice e) w) sl
def lkF:List ((Nat × Nat) × Option Nat)->Nat->Nat->Option (Option Nat)
 |[],_,_=>none
 |((t,i),k)::r,t',i'=>match Nat.beq t t' with
  |true=>(match Nat.beq i i' with
   |true=>some k
   |false=>lkF r t' i')
  |false=>lkF r t' i'
theorem Lc:∀ {l:List ((Nat × Nat) × Option Nat)} {t i:Nat} {k:Option Nat},lkF l t i=some k->((t,i),k)∈l
 |[],_,_,_,h=>by cases h
 |((t,i),k)::r,t',i',k',h=>by
  rw[lkF] at h;cases h1:Nat.beq t t'
  ·simp only[h1] at h;exact List.mem_cons_of_mem _ (Lc h)
  ·cases h2:Nat.beq i i'
   ·simp only[h1,h2] at h;exact List.mem_cons_of_mem _ (Lc h)
   ·simp only[h1,h2] at h;have e1:=Nat.eq_of_beq_eq_true h1;have e2:=Nat.eq_of_beq_eq_true h2;have e3:=Option.some.inj h;subst e1;subst e2;subst e3;simp
def memN:List Nat->Nat->Bool
 |[],_=>false
 |x::r,t=>match Nat.beq x t with
  |true=>true
  |false=>memN r t
theorem memN_mem:∀ {l:List Nat} {t:Nat},memN l t=true->t∈l
 |[],_,h=>by cases h
 |x::r,t,h=>by
  rw[memN] at h;cases h1:Nat.beq x t
  ·simp only[h1] at h;exact List.mem_cons_of_mem _ (memN_mem h)
  ·have e:=Nat.eq_of_beq_eq_true h1;subst e;simp
def evl (L:Fm):Operand->Option Value
 | .tmp k=>fnd? L k
 | .const v=>some v
 | .func f=>some (.func (.func f) #[] #[])
 | .global g=>some (.pointer (some ⟨g,0,none⟩))
theorem Cv {L:Fm}{x:Operand}{v:Value}(h:evl L x=some v):Ev L x v:=by
 cases x with
 |tmp k=>exact Aa h
 |const u=>obtain rfl:=Option.some.inj h;exact Al
 |func f=>obtain rfl:=Option.some.inj h;exact Nk
 |global g=>obtain rfl:=Option.some.inj h;exact ev_g
def cmpV (b:BinOp) (a c:Int):Option Value:=
 match b with
 | .lss=>some (.bool (decide (a<c)))
 | .leq=>some (.bool (decide (a<=c)))
 | .gtr=>some (.bool (decide (c<a)))
 | .geq=>some (.bool (decide (c<=a)))
 | .eql=>some (.bool (decide (a=c)))
 | .neq=>some (.bool (decide (¬ a=c)))
 |_=>none
def isI:IntKind->IntKind->Bool
 | .i64, .i64=>true
 | .u64, .u64=>true
 | .u8, .u8=>true
 | .u16, .u16=>true
 | .u32, .u32=>true
 | .i32, .i32=>true
 |_,_=>false
theorem isI_eq {k k':IntKind}(h:isI k k'=true):k=k':=by cases k<;>cases k'<;>first|rfl|cases h
def yld {P:Program} (tb:Tab P) (L:Fm):Op->Option Value
 | .move x=>evl L x
 | .assign x=>evl L x
 | .pick c x y=>match evl L c with
  |some (.bool b)=>(match b with
   |true=>evl L x
   |false=>evl L y)
  |_=>none
 | .extract x i=>match evl L x with
  |some (.tuple ⟨l⟩)=>nth? l i
  |_=>none
 | .nilCheck x=>match evl L x with
  |some (.pointer (some a))=>some (.pointer (some a))
  |_=>none
 | .fieldAddr t x i=>match evl L x with
  |some (.pointer (some ⟨b,o,none⟩))=>(match lkF tb.fo t i with
   |some none=>some (.pointer (some ⟨b,o,none⟩))
   |some (some k)=>some (.pointer (some ⟨b,o+k,none⟩))
   |none=>none)
  |_=>none
 | .binOp b _ x y _=>match evl L x,evl L y with
  |some (.int k a),some (.int k' c)=>(match isI k k' with
   |true=>cmpV b a c
   |false=>none)
  |_,_=>none
 | .call ⟨.builtin .len,⟨[x]⟩,⟨[t]⟩⟩=>match evl L x,memN tb.sl t with
  |some (.slice _ n _),true=>some (.int .i64 (n:Int))
  |_,_=>none
 |_=>none
theorem yld_yl {P:Program}{tb:Tab P}{w0:World}{L:Fm}{H:Mm}{op:Op}{ty:TypeId}{v:Value}(h:yld tb L op=some v):Yl P w0 op ty L H v:=by
 unfold yld at h
 split at h
 ·exact B6 (Cv h)
 ·exact Bl (Cv h)
 ·split at h
  ·rename_i b hc;cases b
   ·exact yl_pick_f (Cv hc) (Cv h)
   ·exact yl_pick_t (Cv hc) (Cv h)
  ·cases h
 ·split at h
  ·rename_i l hx;exact Az (Cv hx) h
  ·cases h
 ·split at h
  ·rename_i a hx;obtain rfl:=Option.some.inj h;exact yl_nilCheck (Cv hx)
  ·cases h
 ·split at h
  ·rename_i b o hx
   split at h
   ·rename_i hk;obtain rfl:=Option.some.inj h;exact yl_fa0 (Cv hx) (tb.okf.mem _ (Lc hk))
   ·rename_i k hk;obtain rfl:=Option.some.inj h;exact yl_fa (Cv hx) (tb.okf.mem _ (Lc hk))
   ·cases h
  ·cases h
 ·split at h
  ·rename_i k a k' c hx hy
   split at h
   ·rename_i hk;have e:=isI_eq hk;subst e;unfold cmpV at h
    split at h
    ·obtain rfl:=Option.some.inj h;exact yl_lss (Cv hx) (Cv hy)
    ·obtain rfl:=Option.some.inj h;exact yl_leq (Cv hx) (Cv hy)
    ·obtain rfl:=Option.some.inj h;exact yl_gtr (Cv hx) (Cv hy)
    ·obtain rfl:=Option.some.inj h;exact yl_geq (Cv hx) (Cv hy)
    ·obtain rfl:=Option.some.inj h;exact yl_eql (Cv hx) (Cv hy)
    ·obtain rfl:=Option.some.inj h;exact yl_neq (Cv hx) (Cv hy)
    ·cases h
   ·cases h
  ·cases h
 ·split at h
  ·rename_i n c hx hm;obtain rfl:=Option.some.inj h;obtain⟨e,he⟩:=tb.okl.mem _ (memN_mem hm);exact yl_len (Cv hx) he
  ·cases h
 ·cases h
def wtd (ops:Array Oper) (N:Nat) (L:Fm):Option (Nat × Bool)->Option Bool
 |none=>some true
 |some (j,want)=>match (ops[j]?).bind (·.dst) with
  |some s=>(match Nat.blt s N,fnd? L s with
   |true,some (.bool b)=>(match want,b with
    |true,true=>some true
    |false,false=>some true
    |true,false=>some false
    |false,true=>some false)
   |true,some (.tuple ⟨[]⟩)=>some false
   |_,_=>none)
  |none=>none
theorem wtd_t {ops:Array Oper}{N:Nat}{L:Fm}{g:Option (Nat × Bool)}(h:wtd ops N L g=some true):Gd ops L g N true:=by
 cases g with
 |none=>exact Ad
 |some g=>
  obtain⟨j,want⟩:=g;simp only[wtd] at h
  split at h
  ·rename_i s hs
   split at h
   ·rename_i b hb hf;cases want<;>cases b<;>simp only at h<;>first|exact⟨s,_,hs,by simpa[Nat.blt_eq] using hb,Aa hf,rfl⟩|cases h
   ·cases h
   ·cases h
  ·cases h
theorem wtd_f {ops:Array Oper}{N:Nat}{L:Fm}{g:Option (Nat × Bool)}(h:wtd ops N L g=some false):Nw ops L g N:=by
 cases g with
 |none=>cases h
 |some g=>
  obtain⟨j,want⟩:=g;simp only[wtd] at h
  split at h
  ·rename_i s hs
   split at h
   ·rename_i b hb hf;cases want<;>cases b<;>simp only at h<;>first|exact .inl ⟨s,_,hs,by simpa[Nat.blt_eq] using hb,Aa hf,rfl⟩|cases h
   ·rename_i hb hf;exact .inr ⟨j,want,s,rfl,hs,by simpa[Nat.blt_eq] using hb,Aa hf⟩
   ·cases h
  ·cases h
inductive Kt
 |code (c:Code)
 |block (id:Nat)
 |scope
inductive Cur
 |ops (a:Array Oper) (l:List Oper)
 |code (c:Code)
 |ex (e:Exit)
def postK (P:Program) (r:Option Nat) (N:Nat):List Kt->Post->Post
 |[],Q=>Q
 | .code c::ks,Q=>thenQ (swp P r N c (postK P r N ks Q)) (postK P r N ks Q)
 | .block id::ks,Q=>blockQ id (postK P r N ks Q)
 | .scope::ks,Q=>noG (postK P r N ks Q)
def G (P:Program) (r:Option Nat) (N:Nat) (w0:World) (c:Cur) (ks:List Kt) (Q:Post) (L:Fm) (ds:List Deferred) (H:Mm):Prop:=
 match c with
 | .ops a l=>JL P r N w0 a l (postK P r N ks Q) L ds H
 | .code c=>J P r N w0 c (postK P r N ks Q) L ds H
 | .ex e=>JQ w0 (postK P r N ks Q) e L ds H
structure Sta where
 c:Cur
 k:List Kt
 L:Fm
def goN {P:Program} (tb:Tab P) (N:Nat):Nat->Cur->List Kt->Fm->Sta
 |0,c,k,L=>⟨c,k,L⟩
 |n+1,c,k,L=>match c with
  | .code (.seq x y)=>goN tb N n (.code x) (.code y::k) L
  | .code (.region _ ⟨l⟩ false)=>goN tb N n (.ops ⟨l⟩ l) k L
  | .code .skip=>goN tb N n (.ex .normal) k L
  | .code .ret=>goN tb N n (.ex .ret) k L
  | .code (.exit id)=>goN tb N n (.ex (.exit id)) k L
  | .code (.block id c)=>goN tb N n (.code c) (.block id::k) L
  | .code (.scope c)=>goN tb N n (.code c) (.scope::k) L
  | .code (.label _)=>goN tb N n (.ex .normal) k L
  | .code (.cond x a b)=>(match evl L x with
   |some (.bool t)=>(match t with
    |true=>goN tb N n (.code a) k L
    |false=>goN tb N n (.code b) k L)
   |_=>⟨.code (.cond x a b),k,L⟩)
  | .ops a []=>goN tb N n (.ex .normal) k L
  | .ops a (⟨d,op,ty,p,af,g⟩::l)=>(match dOk d N with
   |true=>(match wtd a N L g with
    |some true=>(match yld tb L op with
     |some v=>(match d with
      |some d=>goN tb N n (.ops a l) k ((d,v)::L)
      |none=>goN tb N n (.ops a l) k L)
     |none=>⟨.ops a (⟨d,op,ty,p,af,g⟩::l),k,L⟩)
    |some false=>(match d with
     |some d=>goN tb N n (.ops a l) k ((d,undef)::L)
     |none=>goN tb N n (.ops a l) k L)
    |none=>⟨.ops a (⟨d,op,ty,p,af,g⟩::l),k,L⟩)
   |false=>⟨.ops a (⟨d,op,ty,p,af,g⟩::l),k,L⟩)
  | .ex .normal=>(match k with
   | .code c::k=>goN tb N n (.code c) k L
   | .block _::k=>goN tb N n (.ex .normal) k L
   | .scope::k=>goN tb N n (.ex .normal) k L
   |[]=>⟨.ex .normal,[],L⟩)
  | .ex .ret=>(match k with
   |_::k=>goN tb N n (.ex .ret) k L
   |[]=>⟨.ex .ret,[],L⟩)
  | .ex (.exit id)=>(match k with
   | .code _::k=>goN tb N n (.ex (.exit id)) k L
   | .scope::k=>goN tb N n (.ex (.exit id)) k L
   | .block id'::k=>(match Nat.beq id id' with
    |true=>goN tb N n (.ex .normal) k L
    |false=>goN tb N n (.ex (.exit id)) k L)
   |[]=>⟨.ex (.exit id),[],L⟩)
  |c=>⟨c,k,L⟩
section
variable {P:Program} {r:Option Nat} {N:Nat} {w0:World} {Q:Post} {ds:List Deferred} {H:Mm} {tb:Tab P}
theorem Kw:∀ (n:Nat) (c:Cur) (k:List Kt) (L:Fm),G P r N w0 (goN tb N n c k L).c (goN tb N n c k L).k Q (goN tb N n c k L).L ds H->G P r N w0 c k Q L ds H
 |0,_,_,_,h=>h
 |n+1,c,k,L,h=>by
  have ih:=Kw n;cases c with
  |code c=>
   cases c with
   |seq x y=>exact j_seq (ih (.code x) (.code y::k) L h)
   |region id ops b=>
    obtain⟨l⟩:=ops;cases b
    ·exact j_region (ih (.ops ⟨l⟩ l) k L h)
    ·exact h
   |skip=>exact j_skip (ih (.ex .normal) k L h)
   |ret=>exact j_ret (ih (.ex .ret) k L h)
   |exit id=>exact j_exit (ih (.ex (.exit id)) k L h)
   |block id c=>exact j_block (ih (.code c) (.block id::k) L h)
   |scope c=>exact j_scope (ih (.code c) (.scope::k) L h)
   |label l=>exact j_label (ih (.ex .normal) k L h)
   |cond x a b=>
    simp only[goN] at h
    split at h
    ·rename_i t ht;have hev:=Cv ht;intro b' w hO a' hs hf hd;cases t
     ·exact wpIn_cond_split (t:=false) (by rw[Er,hf];exact hev b') (fun h=>by cases h) (fun _=>ih (.code b) k L h b' w hO a' hs hf hd)
     ·exact wpIn_cond_split (t:=true) (by rw[Er,hf];exact hev b') (fun _=>ih (.code a) k L h b' w hO a' hs hf hd) (fun h=>by cases h)
    ·exact h
   |_=>exact h
  |ops a l=>
   cases l with
   |nil=>exact jl_nil (ih (.ex .normal) k L h)
   |cons o l=>
    obtain⟨d,op,ty,p,af,g⟩:=o;simp only[goN] at h
    split at h
    ·rename_i hN
     split at h
     ·rename_i hw
      split at h
      ·rename_i v hv;refine A6 (yld_yl hv) hN (wtd_t hw) ?_;cases d with
       |some d=>exact ih (.ops a l) k _ h
       |none=>exact ih (.ops a l) k _ h
      ·exact h
     ·rename_i hw;refine jl_n hN (wtd_f hw) ?_;cases d with
      |some d=>exact ih (.ops a l) k _ h
      |none=>exact ih (.ops a l) k _ h
     ·exact h
    ·exact h
  |ex e=>
   cases e with
   |normal=>
    cases k with
    |nil=>exact h
    |cons x k=>cases x with
     |code c=>exact q_then (ih (.code c) k L h)
     |block id=>exact q_block (ih (.ex .normal) k L h)
     |scope=>exact q_scope (ih (.ex .normal) k L h)
   |ret=>
    cases k with
    |nil=>exact h
    |cons x k=>cases x with
     |code c=>exact q_then_ret (ih (.ex .ret) k L h)
     |block id=>exact q_block_ret (ih (.ex .ret) k L h)
     |scope=>exact q_scope_ret (ih (.ex .ret) k L h)
   |exit id=>
    cases k with
    |nil=>exact h
    |cons x k=>cases x with
     |code c=>exact q_then_exit (ih (.ex (.exit id)) k L h)
     |scope=>exact q_scope_exit (ih (.ex (.exit id)) k L h)
     |block id'=>
      simp only[goN] at h
      split at h
      ·rename_i hb;have e:=Nat.eq_of_beq_eq_true hb;subst e;exact q_block_hit (ih (.ex .normal) k L h)
      ·rename_i hb;exact q_block_miss hb (ih (.ex (.exit id)) k L h)
   |_=>exact h
def keepF (L:Fm):List Nat->Option Fm
 |[]=>some []
 |k::r=>match fnd? L k,keepF L r with
  |some v,some F=>some ((k,v)::F)
  |_,_=>none
theorem keepF_ok:∀ {L:Fm} {ks:List Nat} {F:Fm},keepF L ks=some F->Agree F L
 |_,[],_,h=>by obtain rfl:=Option.some.inj h;exact trivial
 |L,k::r,F,h=>by
  rw[keepF] at h
  split at h
  ·rename_i v F' h1 h2;obtain rfl:=Option.some.inj h;exact⟨Aa h1,keepF_ok h2⟩
  ·cases h
theorem kg {L C:Fm}(h:keepF L (C.map Prod.fst)=some C):Agree C L:=keepF_ok h
theorem qkg {L C:Fm}(h:Agree C L:=by exact kg rfl):Agree C L:=h
variable {a:Array Oper} {l:List Oper} {c:Code} {e:Exit} {ks ks':List Kt} {L L':Fm} {c':Cur}
theorem g_keep {F:Fm}(hk:Agree F L)(h:G P r N w0 c' ks Q F ds H):G P r N w0 c' ks Q L ds H:=by
 cases c' with
 |ops a l=>exact jl_keep F hk h
 |code c=>exact Jf F hk h
 |ex e=>exact jq_keep F hk h
theorem rO (tb:Tab P)(n:Nat)(hr:goN tb N n (.ops a l) ks L=⟨c',ks',L'⟩)(h:G P r N w0 c' ks' Q L' ds H):JL P r N w0 a l (postK P r N ks Q) L ds H:=
 Kw (tb:=tb) n (.ops a l) ks L (by rw[hr];exact h)
theorem rC (tb:Tab P)(n:Nat)(hr:goN tb N n (.code c) ks L=⟨c',ks',L'⟩)(h:G P r N w0 c' ks' Q L' ds H):J P r N w0 c (postK P r N ks Q) L ds H:=
 Kw (tb:=tb) n (.code c) ks L (by rw[hr];exact h)
theorem rX (tb:Tab P)(n:Nat)(hr:goN tb N n (.ex e) ks L=⟨c',ks',L'⟩)(h:G P r N w0 c' ks' Q L' ds H):JQ w0 (postK P r N ks Q) e L ds H:=
 Kw (tb:=tb) n (.ex e) ks L (by rw[hr];exact h)
theorem rD (tb:Tab P)(n:Nat)(hr:goN tb N n (.code c) [] L=⟨c',ks',L'⟩)(h:G P r N w0 c' ks' Q L' ds H):J P r N w0 c Q L ds H:=
 Kw (tb:=tb) n (.code c) [] L (by rw[hr];exact h)
theorem rG {c:Cur}(tb:Tab P)(n:Nat)(hr:goN tb N n c ks L=⟨c',ks',L'⟩)(h:G P r N w0 c' ks' Q L' ds H):G P r N w0 c ks Q L ds H:=
 Kw (tb:=tb) n c ks L (by rw[hr];exact h)
theorem kO (tb:Tab P)(n:Nat)(sl:List Nat){F:Fm}(hr:goN tb N n (.ops a l) ks L=⟨c',ks',L'⟩)(hk:keepF L' sl=some F)(h:G P r N w0 c' ks' Q F ds H):JL P r N w0 a l (postK P r N ks Q) L ds H:=
 rO tb n hr (g_keep (keepF_ok hk) h)
theorem kC (tb:Tab P)(n:Nat)(sl:List Nat){F:Fm}(hr:goN tb N n (.code c) ks L=⟨c',ks',L'⟩)(hk:keepF L' sl=some F)(h:G P r N w0 c' ks' Q F ds H):J P r N w0 c (postK P r N ks Q) L ds H:=
 rC tb n hr (g_keep (keepF_ok hk) h)
variable {H0:Mm} {ops:Array Oper} {t:Nat}
def odN {P:Program} (tb:Tab P) (N:Nat) (ops:Array Oper):Nat->List (Nat × Bool)->Fm->List (Nat × Bool) × Fm
 |0,pl,L=>(pl,L)
 |n+1,(i,true)::plan,L=>(match ops[i]? with
  |some ⟨d,op,ty,p,af,g⟩=>(match dOk d N with
   |true=>(match wtd ops N L g with
    |some true=>(match yld tb L op with
     |some v=>(match d with
      |some d=>odN tb N ops n plan ((d,v)::L)
      |none=>odN tb N ops n plan L)
     |none=>((i,true)::plan,L))
    |some false=>(match d with
     |some d=>odN tb N ops n plan ((d,undef)::L)
     |none=>odN tb N ops n plan L)
    |none=>((i,true)::plan,L))
   |false=>((i,true)::plan,L))
  |none=>((i,true)::plan,L))
 |_+1,pl,L=>(pl,L)
theorem odN_ok:∀ (n:Nat) (pl:List (Nat × Bool)) (L:Fm),JO P r N w0 H0 ops t (odN tb N ops n pl L).1 Q (odN tb N ops n pl L).2 ds H->JO P r N w0 H0 ops t pl Q L ds H
 |0,_,_,h=>h
 |n+1,[],L,h=>h
 |n+1,(i,false)::pl,L,h=>h
 |n+1,(i,true)::plan,L,h=>by
  have ih:=odN_ok n;simp only[odN] at h
  split at h
  ·rename_i d op ty p af g hi
   split at h
   ·rename_i hN
    split at h
    ·rename_i hw
     split at h
     ·rename_i v hv;refine o_y hi (yld_yl hv) ?_ hN (wtd_t hw);cases d with
      |some d=>exact ih plan _ h
      |none=>exact ih plan _ h
     ·exact h
    ·rename_i hw;refine o_n hi ?_ hN (wtd_f hw);cases d with
     |some d=>exact ih plan _ h
     |none=>exact ih plan _ h
    ·exact h
   ·exact h
  ·exact h
theorem rP (tb:Tab P)(n:Nat){pl pl':List (Nat × Bool)}(hr:odN tb N ops n pl L=(pl',L'))(h:JO P r N w0 H0 ops t pl' Q L' ds H):JO P r N w0 H0 ops t pl Q L ds H:=
 odN_ok (tb:=tb) n pl L (by rw[hr];exact h)
theorem F8 {Q:Post}(h:NoPanic Q):∀ {ks:List Kt},NoPanic (postK P r N ks Q)
 |[]=>h
 | .code c::ks=>F3 (F8 h)
 | .block id::ks=>Ey (F8 h)
 | .scope::ks=>Gt (F8 h)
theorem Bh {Q:Post}(h:NoPanic Q:=by repeat (first|exact Jh|exact Gq|exact Fh|apply F8|apply G9|apply Ji|apply Gt|apply F3|apply Ey)):NoPanic Q:=h
end
def EndP (w0:World) (K:Value->Mm->Prop) (fv:Value) (B:Mm->Prop) (e:Ending) (w:World):Prop:=
 (∃ v H,e= .returned v/\Own w0 H w/\K v H)\/(e= .panicked [{v:=fv,recovered:=false}]/\∃ H,Own w0 H w/\B H)
def FSpecP (P:Program) (w0:World) (f:FuncId) (args:Array Value) (H:Mm) (K:Value->Mm->Prop) (fv:Value) (B:Mm->Prop):Prop:=
 ∀ w,Own w0 H w->Calls P f args w (EndP w0 K fv B)
theorem EndP.mono {w0:World}{K K':Value->Mm->Prop}{fv:Value}{B B':Mm->Prop}{e:Ending}{w:World}(h:EndP w0 K fv B e w)(hk:∀ v H,K v H->K' v H)(hb:∀ H,B H->B' H):EndP w0 K' fv B' e w:=by
 rcases h with ⟨v,H,a,b,c⟩|⟨a,H,b,c⟩
 ·exact .inl ⟨v,H,a,b,hk v H c⟩
 ·exact .inr ⟨a,H,b,hb H c⟩
section
variable {P:Program} {w0:World} {f:FuncId} {args:Array Value} {H:Mm} {K K':Value->Mm->Prop} {fv:Value} {B B':Mm->Prop}
theorem A5 {β γ:Type}{R M:Mm}{F:Mm->Mm}{φ:Value->β->Prop}{M':β->Mm}{ψ:γ->Prop}{M2:γ->Mm}(h:FSpecP P w0 f args (M++R) (fun v H'=>∃ x,φ v x/\H'=M' x++R) fv (fun H'=>∃ y,ψ y/\H'=M2 y++R))
  (hl:LocL H M R F):FSpecP P w0 f args H (fun v H'=>∃ x,φ v x/\H'=F (M' x)) fv (fun H'=>∃ y,ψ y/\H'=F (M2 y)):=fun w hO=>
 (h w (Cf hO hl.perm.1)).mono fun e w' h=>by
  rcases h with ⟨v,H',he,hO',x,hx,hH⟩|⟨he,H',hO',y,hy,hH⟩
  ·exact .inl ⟨v,_,he,Cf (hH ▸ hO') (hl.perm.2 _).symm,x,hx,rfl⟩
  ·exact .inr ⟨he,_,Cf (hH ▸ hO') (hl.perm.2 _).symm,y,hy,rfl⟩
def effP (P:Program) (w0:World) (K:Value->Mm->Prop) (fv:Value) (B:Mm->Prop):Result Next->Prop
 | .ok (.enter f args) w'=>Calls P f args w' (EndP w0 K fv B)
 | .ok (.round l f tmps assign body) w'=>RoundIn Fence.wide 0 P l f tmps assign body w' (EndP w0 K fv B)
 | .halt (.panic v) w'=>v=fv/\∃ H,Own w0 H w'/\B H
 |_=>False
def EffP (P:Program) (w0:World) (op:Op) (ty:TypeId) (L:Fm) (H:Mm) (K:Value->Mm->Prop) (fv:Value) (B:Mm->Prop):Prop:=
 Op.isDefer op=false/\∀ b w,Own w0 H w->effP P w0 K fv B ((exO (ev (lk L b)) op ty).run P w)
variable {r:Option Nat} {N:Nat} {Q:Post} {L:Fm} {ds:List Deferred} {ops:Array Oper} {l:List Oper} {d:Option Tmp} {op:Op} {ty:TypeId} {p:String} {af:Array Edge} {g:Option (Nat × Bool)}
theorem effP_wpIn {Q':Exit->Act->World->Prop}{next:Act->World->Prop}{a:Act}{b:Nat->Value}{w:World}(hf:fr a=lk L b)(he:EffP P w0 op ty L H K fv B)(hO:Own w0 H w)
  (k:∀ v H' w',K v H'->Own w0 H' w'->next (a.put d v) w') (kb:∀ H' w',B H'->Own w0 H' w'->Q' (.panic [{v:=fv,recovered:=false}]) a w'):Oper.wpIn (rd r) 0 P ⟨d,op,ty,p,af,g⟩ a w next Q':=by
 refine⟨fun f _=>K5 r f,?_⟩;rw[semAt_rd r _ he.1,Js,hf];have h:=he.2 b w hO
 generalize (exO (ev (lk L b)) op ty).run P w=res at h;cases res with
 |ok n w'=>
  cases n<;>simp only[effP] at h<;>simp only[Oper.uponIn]
  case enter f args=>
   refine⟨Jt r,Eo (h.mono fun e w'' h=> ?_)⟩;rcases h with ⟨v,H',he',h1,h2⟩|⟨he',H',h1,h2⟩
   ·subst he';exact k v H' w'' h2 h1
   ·subst he';exact kb H' w'' h2 h1
  case round l f tmps assign body=>
   refine⟨Jt r,roundIn_rd (h.mono fun e w'' h=> ?_)⟩;rcases h with ⟨v,H',he',h1,h2⟩|⟨he',H',h1,h2⟩
   ·subst he';exact k v H' w'' h2 h1
   ·subst he';exact kb H' w'' h2 h1
 |halt x w'=>
  cases x<;>simp only[effP] at h
  case panic v=>
   obtain⟨rfl,H',h1,h2⟩:=h;exact kb H' w' h2 h1
theorem jl_p (he:EffP P w0 op ty L H K fv B)(hN:dOk d N=true)(hg:Gd ops L g N true)(k:∀ v H',K v H'->JL P r N w0 ops l Q (pt d v L) ds H')(kb:∀ H',B H'->JQ w0 Q (.panic [{v:=fv,recovered:=false}]) L ds H'):JL P r N w0 ops (⟨d,op,ty,p,af,g⟩::l) Q L ds H:=fun b w hO a hs hf hd=>by
 unfold wpListIn;rw[if_pos (Mi hg hs hf)];exact effP_wpIn hf he hO (fun v H' w' hk hO'=>k v H' hk b w' hO' _ (by rw[Df];exact hs) (H4 hN hs hf) (by rw[Cu];exact hd)) (fun H' w' hb hO'=>⟨hs,by rw[hf,hd];exact kb H' hb b w' hO'⟩)
variable {H0:Mm} {t i:Nat} {plan:List (Nat × Bool)} {f':Nat} {listed:Array Bool}
theorem o_p (hi:ops[i]? =some ⟨d,op,ty,p,af,g⟩)(he:EffP P w0 op ty L H K fv B)(k:∀ v H',K v H'->H0.Sublist H'/\JO P r N w0 H0 ops t plan Q (pt d v L) ds H')(kb:∀ H',B H'->JQ w0 Q (.panic [{v:=fv,recovered:=false}]) L ds H')(hN:dOk d N=true)(hg:Gd ops L g N true):JO P r N w0 H0 ops t ((i,false)::plan) Q L ds H:=
 fun hT hD hS hP hs listed inv hp b a hsz hf hd=>by
  simp only[planB,Bool.and_eq_true,Nat.blt_eq,beq_iff_eq] at hp;obtain⟨⟨h1,h2⟩,h4⟩:=hp;have hr:i∈Region.ready md ops listed:=by rw[h2];simp
  refine⟨⟨i,hr,h1⟩,fun j hj _ w hO=> ?_⟩;rw[h2] at hj;obtain rfl:j=i:=by simpa using hj
  unfold wpOpIn;simp only[hi];rw[if_pos (Mi hg hsz hf)];refine effP_wpIn hf he hO (fun v H' w' hk hO'=> ?_) (fun H' w' hb hO'=>⟨hsz,by rw[hf,hd];exact kb H' hb b w' hO'⟩);obtain⟨k1,k2⟩:=k v H' hk;exact⟨H',k1,hO',k2 hT hD hS hP k1 _ (inv.set hr h1) h4 b _ (by rw[Df];exact hsz) (H4 hN hsz hf) (by rw[Cu];exact hd)⟩
theorem p_ (he:EffP P w0 op ty L H K fv B)(k:∀ v H',K v H'->JL P r N w0 ops l Q (pt d v L) ds H')(kb:∀ H',B H'->JQ w0 Q (.panic [{v:=fv,recovered:=false}]) L ds H')(hN:dOk d N=true):JL P r N w0 ops (⟨d,op,ty,p,af,none⟩::l) Q L ds H:=jl_p he hN Ad k kb
theorem As {xs:List Operand}{vs:List Value}{ts:Array TypeId}(ha:Evs L xs vs)(hf:∀ args w,(callFunc f args).run P w= .ok (.enter f args) w)(h:FSpecP P w0 f vs.toArray H K fv B):
  EffP P w0 (.call {callee:= .value (.func f),args:=xs.toArray,argTypes:=ts}) ty L H K fv B:=⟨rfl,fun b w hO=>by
 have hr:=Gp (P:=P) (L:=L) (x:= .func f) (cap:=[]) (ty:=ty) (ts:=ts) (b:=b) (w:=w) (fun _=>rfl) ha hf;rw[hr,List.append_nil];exact h w hO⟩
theorem Cz {x:Operand}{xs:List Operand}{vs cap:List Value}{ts:Array TypeId}(hx:Ev L x (.func (.func f) #[] cap.toArray))(ha:Evs L xs vs)(hf:∀ args w,(callFunc f args).run P w= .ok (.enter f args) w)(h:FSpecP P w0 f (vs++cap).toArray H K fv B):
  EffP P w0 (.call {callee:= .value x,args:=xs.toArray,argTypes:=ts}) ty L H K fv B:=⟨rfl,fun b w hO=>by
 have hr:=Gp (P:=P) (L:=L) (cap:=cap) (ty:=ty) (ts:=ts) (b:=b) (w:=w) hx ha hf;rw[hr];exact h w hO⟩
def retQP (P:Program) (fn:Func) (w0:World) (K:Value->Mm->Prop) (fv:Value) (B:Mm->Prop):Post
 | .normal,σ,ds,w=>RetW P fn w0 K σ ds w
 | .ret,σ,ds,w=>RetW P fn w0 K σ ds w
 | .panic c,σ,ds,w=>ds=[]/\c=[{v:=fv,recovered:=false}]/\∃ H,Own w0 H w/\B H
 |_,_,_,_=>False
theorem Bj {fn:Func}{c:Code}{vs:List Value}(hf:P.funcs[f]? =some fn)(hb:fn.body=some c)(hN:fn.ntmps=N)(hv:Nat.ble vs.length N=true)
  (h:J P none N w0 c (retQP P fn w0 K fv B) (ini 0 vs) [] H):FSpecP P w0 f vs.toArray H K fv B:=fun w hO=>by
 have hv':vs.length<=N:=by simpa using hv
 refine callsIn_wide.1 (callsIn_of_wp_marks (n:=0) (F:=Fence.wide) hf hb trivial ?_ U);have h1:=h (fun _=>undef) w hO {tmps:=vs.toArray++Array.replicate (fn.ntmps - vs.toArray.size) undef,defers:=[]} (by simp[hN];omega) (by
  funext k
  rw[Jg];unfold fr;simp only[Nat.zero_le,if_true,Nat.sub_zero,Array.getD_eq_getD_getElem?]
  by_cases hk:k<vs.length
  ·simp[Array.getElem?_append,hk]
  ·simp only[List.size_toArray,Array.getElem?_append,hk,if_false];rw[List.getElem?_eq_none qom];simp only[Array.getElem?_replicate]
   split<;>rfl) U
 refine wpIn_mono h1 fun e a w' hq=> ?_
 obtain⟨hs,hq⟩:=hq;have hl:∀ {ds:List Deferred} {w:World} {tmps:Array Value},RetW P fn w0 K (fun k=>tmps.getD k undef) ds w->LeavesInM Fence.wide 0 P fn tmps (EndP w0 K fv B) ds .returning w:=by
  intro ds
  induction ds with
  |nil=>
   intro w tmps ⟨v,H,hr,hO,hK⟩;unfold LeavesInM LeavesIn;exact⟨v,hr _ U, .inl ⟨v,H,rfl,hO,hK⟩⟩
  |cons d ds ih=>
   intro w tmps ⟨D,w',h1,h2,h3⟩;unfold LeavesInM;exact⟨by simp, .inl ⟨D,w',h1,h2,ih h3⟩⟩
 cases e with
 |normal=>exact hl hq
 |ret=>exact hl hq
 |panic c=>
  obtain⟨hd,rfl,H',hO',hB⟩:=hq;show LeavesInM Fence.wide 0 P fn a.tmps (EndP w0 K fv B) a.defers (.panicking _) w';rw[hd];unfold LeavesInM LeavesIn;exact .inr ⟨rfl,H',hO',hB⟩
 |exit id=>exact hq.elim
 |goto l=>exact hq.elim
 |outgrown=>exact hq.elim
theorem np_retP {fn:Func}:NoPanic (retQP P fn w0 K fv B):=⟨fun _ _ _ _ _ h=>h⟩
theorem B1 {Q:Post}(h:NoPanic Q:=by repeat (first|exact Jh|exact np_retP|exact Gq|exact Fh|apply F8|apply G9|apply Ji|apply Gt|apply F3|apply Ey)):NoPanic Q:=h
theorem Bi {fn:Func}{H' H2:Mm}(hB:B H2)(hs:H2.Sublist H'):JQ w0 (retQP P fn w0 K fv B) (.panic [{v:=fv,recovered:=false}]) L [] H':=fun b w hO=>⟨rfl,rfl,H2,hO.sub hs,hB⟩
theorem By {c:List PanicEntry}{r:Option Nat}{N:Nat}{Q:Post}{H':Mm}:∀ {ks:List Kt},JQ w0 Q (.panic c) L ds H'->JQ w0 (postK P r N ks Q) (.panic c) L ds H'
 |[],h=>h
 | .code c::ks,h=>By (ks:=ks) h
 | .block id::ks,h=>By (ks:=ks) h
 | .scope::ks,h=>By (ks:=ks) h
theorem Bw {c:List PanicEntry}{Q:Post}{H':Mm}{X:Type}{V:X->Fm}{G:X->Mm}{φ:X->Prop}{μ:X->Nat}{m:Nat}{ds':List Deferred}(h:JQ w0 Q (.panic c) L ds H'):JQ w0 (loopQ w0 V G φ μ m ds' Q) (.panic c) L ds H':=h
theorem Bs {fn:Func}{rs:List ResultVar}{vs:List Value}(hr:fn.results=rs.toArray)(h:ResV P w0 L H rs vs)(hK:∃ H',K (resOf vs) H'/\H'.Sublist H):JQ w0 (retQP P fn w0 K fv B) .ret L [] H:=fun b w hO=>by
 obtain⟨H',h1,h2⟩:=hK;exact⟨_,H',H5 hr h hO,hO.sub h2,h1⟩
theorem qp_end {fn:Func}{rs:List ResultVar}{vs:List Value}(hr:fn.results=rs.toArray)(h:ResV P w0 L H rs vs)(hK:∃ H',K (resOf vs) H'/\H'.Sublist H):JQ w0 (retQP P fn w0 K fv B) .normal L [] H:=fun b w hO=>by
 obtain⟨H',h1,h2⟩:=hK;exact⟨_,H',H5 hr h hO,hO.sub h2,h1⟩
end
theorem fa25_0 (b o:Nat)(w:World):(Instr.fieldAt 25 (Pt b o) 0).run prog w= .ok (Pt b o) w:=by kernel_rfl
theorem fa25_1 (b o:Nat)(w:World):(Instr.fieldAt 25 (Pt b o) 1).run prog w= .ok (Pt b (o+1)) w:=by kernel_rfl
theorem fa25_2 (b o:Nat)(w:World):(Instr.fieldAt 25 (Pt b o) 2).run prog w= .ok (Pt b (o+2)) w:=by kernel_rfl
theorem fa25_3 (b o:Nat)(w:World):(Instr.fieldAt 25 (Pt b o) 3).run prog w= .ok (Pt b (o+3)) w:=by kernel_rfl
theorem fa25_4 (b o:Nat)(w:World):(Instr.fieldAt 25 (Pt b o) 4).run prog w= .ok (Pt b (o+4)) w:=by kernel_rfl
theorem fa28_0 (b o:Nat)(w:World):(Instr.fieldAt 28 (Pt b o) 0).run prog w= .ok (Pt b o) w:=by kernel_rfl
theorem fa28_1 (b o:Nat)(w:World):(Instr.fieldAt 28 (Pt b o) 1).run prog w= .ok (Pt b (o+1)) w:=by kernel_rfl
theorem fa28_2 (b o:Nat)(w:World):(Instr.fieldAt 28 (Pt b o) 2).run prog w= .ok (Pt b (o+6)) w:=by kernel_rfl
theorem fa28_3 (b o:Nat)(w:World):(Instr.fieldAt 28 (Pt b o) 3).run prog w= .ok (Pt b (o+7)) w:=by kernel_rfl
theorem fa28_4 (b o:Nat)(w:World):(Instr.fieldAt 28 (Pt b o) 4).run prog w= .ok (Pt b (o+8)) w:=by kernel_rfl
theorem fa38_0 (b o:Nat)(w:World):(Instr.fieldAt 38 (Pt b o) 0).run prog w= .ok (Pt b o) w:=by kernel_rfl
theorem fa38_1 (b o:Nat)(w:World):(Instr.fieldAt 38 (Pt b o) 1).run prog w= .ok (Pt b (o+1)) w:=by kernel_rfl
theorem fa38_2 (b o:Nat)(w:World):(Instr.fieldAt 38 (Pt b o) 2).run prog w= .ok (Pt b (o+11)) w:=by kernel_rfl
theorem fa70_0 (b o:Nat)(w:World):(Instr.fieldAt 70 (Pt b o) 0).run prog w= .ok (Pt b o) w:=by kernel_rfl
theorem fa70_1 (b o:Nat)(w:World):(Instr.fieldAt 70 (Pt b o) 1).run prog w= .ok (Pt b (o+1)) w:=by kernel_rfl
theorem fa91_0 (b o:Nat)(w:World):(Instr.fieldAt 91 (Pt b o) 0).run prog w= .ok (Pt b o) w:=by kernel_rfl
theorem fa91_1 (b o:Nat)(w:World):(Instr.fieldAt 91 (Pt b o) 1).run prog w= .ok (Pt b (o+10)) w:=by kernel_rfl
theorem fa94_0 (b o:Nat)(w:World):(Instr.fieldAt 94 (Pt b o) 0).run prog w= .ok (Pt b o) w:=by kernel_rfl
theorem fa94_1 (b o:Nat)(w:World):(Instr.fieldAt 94 (Pt b o) 1).run prog w= .ok (Pt b (o+20)) w:=by kernel_rfl
theorem fa108_0 (b o:Nat)(w:World):(Instr.fieldAt 108 (Pt b o) 0).run prog w= .ok (Pt b o) w:=by kernel_rfl
theorem fa108_1 (b o:Nat)(w:World):(Instr.fieldAt 108 (Pt b o) 1).run prog w= .ok (Pt b (o+10)) w:=by kernel_rfl
theorem fa115_0 (b o:Nat)(w:World):(Instr.fieldAt 115 (Pt b o) 0).run prog w= .ok (Pt b o) w:=by kernel_rfl
theorem fa122_0 (b o:Nat)(w:World):(Instr.fieldAt 122 (Pt b o) 0).run prog w= .ok (Pt b o) w:=by kernel_rfl
theorem fa122_1 (b o:Nat)(w:World):(Instr.fieldAt 122 (Pt b o) 1).run prog w= .ok (Pt b (o+1)) w:=by kernel_rfl
theorem fa127_0 (b o:Nat)(w:World):(Instr.fieldAt 127 (Pt b o) 0).run prog w= .ok (Pt b o) w:=by kernel_rfl
theorem fa127_1 (b o:Nat)(w:World):(Instr.fieldAt 127 (Pt b o) 1).run prog w= .ok (Pt b (o+1)) w:=by kernel_rfl
theorem fa127_2 (b o:Nat)(w:World):(Instr.fieldAt 127 (Pt b o) 2).run prog w= .ok (Pt b (o+2)) w:=by kernel_rfl
theorem fa144_0 (b o:Nat)(w:World):(Instr.fieldAt 144 (Pt b o) 0).run prog w= .ok (Pt b o) w:=by kernel_rfl
theorem fa144_1 (b o:Nat)(w:World):(Instr.fieldAt 144 (Pt b o) 1).run prog w= .ok (Pt b (o+10)) w:=by kernel_rfl
theorem fa152_0 (b o:Nat)(w:World):(Instr.fieldAt 152 (Pt b o) 0).run prog w= .ok (Pt b o) w:=by kernel_rfl
theorem fa152_1 (b o:Nat)(w:World):(Instr.fieldAt 152 (Pt b o) 1).run prog w= .ok (Pt b (o+1)) w:=by kernel_rfl
theorem fa152_2 (b o:Nat)(w:World):(Instr.fieldAt 152 (Pt b o) 2).run prog w= .ok (Pt b (o+2)) w:=by kernel_rfl
theorem fa152_3 (b o:Nat)(w:World):(Instr.fieldAt 152 (Pt b o) 3).run prog w= .ok (Pt b (o+3)) w:=by kernel_rfl
theorem fa152_4 (b o:Nat)(w:World):(Instr.fieldAt 152 (Pt b o) 4).run prog w= .ok (Pt b (o+4)) w:=by kernel_rfl
theorem fa154_0 (b o:Nat)(w:World):(Instr.fieldAt 154 (Pt b o) 0).run prog w= .ok (Pt b o) w:=by kernel_rfl
theorem fa154_1 (b o:Nat)(w:World):(Instr.fieldAt 154 (Pt b o) 1).run prog w= .ok (Pt b (o+20)) w:=by kernel_rfl
theorem fa188_0 (b o:Nat)(w:World):(Instr.fieldAt 188 (Pt b o) 0).run prog w= .ok (Pt b o) w:=by kernel_rfl
theorem fa188_1 (b o:Nat)(w:World):(Instr.fieldAt 188 (Pt b o) 1).run prog w= .ok (Pt b (o+1)) w:=by kernel_rfl
theorem fa188_2 (b o:Nat)(w:World):(Instr.fieldAt 188 (Pt b o) 2).run prog w= .ok (Pt b (o+2)) w:=by kernel_rfl
theorem fa190_0 (b o:Nat)(w:World):(Instr.fieldAt 190 (Pt b o) 0).run prog w= .ok (Pt b o) w:=by kernel_rfl
theorem fa190_1 (b o:Nat)(w:World):(Instr.fieldAt 190 (Pt b o) 1).run prog w= .ok (Pt b (o+1)) w:=by kernel_rfl
def tb:Tab prog:=⟨[((25,0),none),((25,1),some 1),((25,2),some 2),((25,3),some 3),((25,4),some 4),((28,0),none),((28,1),some 1),((28,2),some 6),((28,3),some 7),((28,4),some 8),((38,0),none),((38,1),some 1),((38,2),some 11),((70,0),none),((70,1),some 1),((91,0),none),((91,1),some 10),((94,0),none),((94,1),some 20),((108,0),none),((108,1),some 10),((115,0),none),((122,0),none),((122,1),some 1),((127,0),none),((127,1),some 1),((127,2),some 2),((144,0),none),((144,1),some 10),((152,0),none),((152,1),some 1),((152,2),some 2),((152,3),some 3),((152,4),some 4),((154,0),none),((154,1),some 20),((188,0),none),((188,1),some 1),((188,2),some 2),((190,0),none),((190,1),some 1)],[22,23,26,58,86,92,99,103,109,111,117,148,149],⟨fun _ _ _=>fa25_0 _ _ _,fun _ _ _=>fa25_1 _ _ _,fun _ _ _=>fa25_2 _ _ _,fun _ _ _=>fa25_3 _ _ _,fun _ _ _=>fa25_4 _ _ _,fun _ _ _=>fa28_0 _ _ _,fun _ _ _=>fa28_1 _ _ _,fun _ _ _=>fa28_2 _ _ _,fun _ _ _=>fa28_3 _ _ _,fun _ _ _=>fa28_4 _ _ _,fun _ _ _=>fa38_0 _ _ _,fun _ _ _=>fa38_1 _ _ _,fun _ _ _=>fa38_2 _ _ _,fun _ _ _=>fa70_0 _ _ _,fun _ _ _=>fa70_1 _ _ _,fun _ _ _=>fa91_0 _ _ _,fun _ _ _=>fa91_1 _ _ _,fun _ _ _=>fa94_0 _ _ _,fun _ _ _=>fa94_1 _ _ _,fun _ _ _=>fa108_0 _ _ _,fun _ _ _=>fa108_1 _ _ _,fun _ _ _=>fa115_0 _ _ _,fun _ _ _=>fa122_0 _ _ _,fun _ _ _=>fa122_1 _ _ _,fun _ _ _=>fa127_0 _ _ _,fun _ _ _=>fa127_1 _ _ _,fun _ _ _=>fa127_2 _ _ _,fun _ _ _=>fa144_0 _ _ _,fun _ _ _=>fa144_1 _ _ _,fun _ _ _=>fa152_0 _ _ _,fun _ _ _=>fa152_1 _ _ _,fun _ _ _=>fa152_2 _ _ _,fun _ _ _=>fa152_3 _ _ _,fun _ _ _=>fa152_4 _ _ _,fun _ _ _=>fa154_0 _ _ _,fun _ _ _=>fa154_1 _ _ _,fun _ _ _=>fa188_0 _ _ _,fun _ _ _=>fa188_1 _ _ _,fun _ _ _=>fa188_2 _ _ _,fun _ _ _=>fa190_0 _ _ _,fun _ _ _=>fa190_1 _ _ _,trivial⟩,⟨⟨_,runUnderlying22⟩,⟨_,runUnderlying23⟩,⟨_,runUnderlying26⟩,⟨_,runUnderlying58⟩,⟨_,runUnderlying86⟩,⟨_,runUnderlying92⟩,⟨_,runUnderlying99⟩,⟨_,runUnderlying103⟩,⟨_,runUnderlying109⟩,⟨_,runUnderlying111⟩,⟨_,runUnderlying117⟩,⟨_,runUnderlying148⟩,⟨_,runUnderlying149⟩,trivial⟩⟩
section
variable {r:Option Nat} {N:Nat} {w0:World} {Q:Post} {ds:List Deferred} {H H0:Mm} {a:Array Oper} {l:List Oper} {c:Code} {e:Exit} {ks ks':List Kt} {L L':Fm} {c':Cur} {ops:Array Oper} {t:Nat}
theorem rOt (n:Nat)(hr:goN tb N n (.ops a l) ks L=⟨c',ks',L'⟩)(h:G prog r N w0 c' ks' Q L' ds H):JL prog r N w0 a l (postK prog r N ks Q) L ds H:=rO tb n hr h
theorem rCt (n:Nat)(hr:goN tb N n (.code c) ks L=⟨c',ks',L'⟩)(h:G prog r N w0 c' ks' Q L' ds H):J prog r N w0 c (postK prog r N ks Q) L ds H:=rC tb n hr h
theorem rXt (n:Nat)(hr:goN tb N n (.ex e) ks L=⟨c',ks',L'⟩)(h:G prog r N w0 c' ks' Q L' ds H):JQ w0 (postK prog r N ks Q) e L ds H:=rX tb n hr h
theorem rDt (n:Nat)(hr:goN tb N n (.code c) [] L=⟨c',ks',L'⟩)(h:G prog r N w0 c' ks' Q L' ds H):J prog r N w0 c Q L ds H:=rD tb n hr h
theorem rGt {c:Cur}(n:Nat)(hr:goN tb N n c ks L=⟨c',ks',L'⟩)(h:G prog r N w0 c' ks' Q L' ds H):G prog r N w0 c ks Q L ds H:=rG tb n hr h
theorem rPt (n:Nat){pl pl':List (Nat × Bool)}(hr:odN tb N ops n pl L=(pl',L'))(h:JO prog r N w0 H0 ops t pl' Q L' ds H):JO prog r N w0 H0 ops t pl Q L ds H:=rP tb n hr h
end
structure Sd where
 p:Nat
 qf:Option Addr
 nf:Nat
 cf:Nat
 qb:Option Addr
 cb:Nat
 bs:List Nat
 m:Nat
 most:Int
structure Sv where
 d:Sl
 es:List MapEntry
 c:Nat
abbrev encNd (x:Nd):List Value:=[Vi (x.1:Nat),Vi (x.2.1:Nat),Vi (x.2.2:Nat)]
abbrev encNdK (x:Nd):Value:= .agg #[Vi (x.1:Nat),Vi (x.2.1:Nat),Vi (x.2.2:Nat)]
abbrev encNI (x:Nat):Value:=Vi (x:Nat)
def idL (ns:Ns):List (Nd × Nat):=((ns.drop 2).zipIdx 2)
abbrev sdC (D:Sd) (v:Sv) (ns:Ns):List Value:=[.slice D.qf D.nf D.cf, .slice D.qb D.bs.length D.cb,slV v.d ns.length, .map (some D.m),Vi D.most]
def SM (D:Sd) (v:Sv) (ns:Ns):Mm:=(D.p,Cl (sdC D v ns) 152)::(slH v.d (ns.flatMap encNd) 188++[(D.m, .map v.es.toArray v.c)])
structure StOk (D:Sd) (v:Sv) (ns:Ns):Prop where
 sl:SlOk v.d ns.length 3
 es:Ents encNdK encNI v.es (idL ns)
 len:(ns.length:Int)<=D.most+2
 mo:0<=D.most/\D.most<=1000000
 w:Wf (2*D.bs.length) ns
 bl:D.bs.length<=160
theorem sm_cells {w0:World}{D:Sd}{v:Sv}{ns:Ns}:Cells w0 (SM D v ns) D.p 0 (sdC D v ns):=Ae (show Fnd (SM D v ns) D.p (Cl (sdC D v ns) 152) from fnd_h)
theorem Hh {w0:World}{D:Sd}{v:Sv}{ns:Ns}{H:Mm}{j:Nat}{u:Value}(hs:(SM D v ns).Sublist H)(hv:nth? (sdC D v ns) j=some u):Cell w0 H ⟨D.p,0+j,none⟩ u:=(sm_cells.mono hs) j u (Lo hv)
theorem E4 {w0:World}{D:Sd}{v:Sv}{ns:Ns}(h:StOk D v ns):Arr w0 (SM D v ns) (slQ v.d) 3 encNd ns:=by
 have:=B3 (w0:=w0) (e:=188) (X:=[(D.m, .map v.es.toArray v.c)]) (enc:=encNd) (l:=ns) (fun _=>rfl) h.sl;exact Arr.mono (H':=SM D v ns) this (List.sublist_cons_self _ _)
def b2i (b:Bool):Int:=if b then 1 else 0
theorem b2i_0 {b:Bool}:b2i b=0↔b=false:=by cases b<;>simp[b2i]
theorem ch_y {ns:Ns}{i lv:Nat}{b:Bool}(h:lvl ns i=lv):ch ns i lv b=if b then hig ns i else low ns i:=by unfold ch;rw[if_pos h]
theorem ch_n {ns:Ns}{i lv:Nat}{b:Bool}(h: ¬ lvl ns i=lv):ch ns i lv b=i:=by unfold ch;rw[if_neg h]
theorem Hj {D:Sd}{v:Sv}{ns:Ns}(hm:(SM D v ns).Sublist H)(hst:StOk D v ns)(i lv:Nat)(b:Bool)(hi:i<ns.length):
  FSpec prog w0 107 #[Pt (D.p) 0,Vi (i:Nat),Vi (lv:Nat),Vi (b2i b)] H (Still (Vi (ch ns i lv b:Nat)) H):=by
 refine Am func107 U ntmps107 U (rDt 10 U (y_ (Om U isAgg149 (by first|exact c_o|exact Hh (List.Sublist.trans hm sbt) U)) ?_ U));refine rOt 1 U (y_ (Oo U U runUnderlying149 sizeOf188 qom (by first|exact rfl|exact(E4 (w0:=w0) hst).b (i:=i) hi)) ?_ U);refine y_ (On U isAgg188 sizeOf188 U (by exact((E4 hst).mono (List.Sublist.trans hm sbt)).cs (i:=i) qom)) ?_ U;refine e_ (Ag zeroValue188 cs_) ?_ U;rintro _ _ ⟨n9,rfl,rfl⟩;refine Bo (Oq U U sizeOf188) U Ad ?_;rintro _ _ ⟨rfl,rfl⟩;refine rOt 7 U (y_ (Om U isAgg3 qco) ?_ U);refine rOt 5 U ?_;refine jcd U (fun c17=> ?_) (fun c17=> ?_)
 ·refine rCt 9 U (Ai U (Ol U) ?_);exact⟨_,⟨vint (by have h:=ch_n (ns:=ns) (i:=i) (lv:=lv) (b:=b) (fun e=>c17 (by show ((lvl ns i:Nat):Int)=_;rw[e]));rw[h]),rfl⟩,sbt⟩
 ·refine rCt 7 U ?_;refine jcd U (fun c23=> ?_) (fun c23=> ?_)
  ·refine rCt 3 U (y_ (Om U isAgg3 qco) ?_ U);refine rOt 6 U (Ai U (Ol U) ?_);exact⟨_,⟨vint (by have h:=ch_y (ns:=ns) (i:=i) (lv:=lv) (b:=b) (by have:((lvl ns i:Nat):Int)=lv:=Classical.not_not.1 c17;omega);rw[h,b2i_0.1 c23];rfl),rfl⟩,sbt⟩
  ·refine rCt 6 U (y_ (Om U isAgg3 qco) ?_ U);refine rOt 4 U (Ai U (Ol U) ?_);have h:=ch_y (ns:=ns) (i:=i) (lv:=lv) (b:=b) (by have:((lvl ns i:Nat):Int)=lv:=Classical.not_not.1 c17;omega);have hb:b=true:=by simpa using fun e=>c23 (b2i_0.2 e)
   exact⟨_,⟨vint (by rw[h,hb];rfl),rfl⟩,sbt⟩
theorem len_s {D:Sd}{v:Sv}{ns:Ns}(hm:(SM D v ns).Sublist H)(hst:StOk D v ns)  :
  FSpec prog w0 173 #[Pt (D.p) 0] H (Still (Vi ((ns.length:Int) - 2)) H):=by
 refine Am func173 U ntmps173 U ?_;have hl:=hst.len;have ht:=hst.w.two;have hmo:=hst.mo;refine rDt 10 U (y_ (Om U isAgg149 (by first|exact c_o|exact Hh (List.Sublist.trans hm sbt) U)) ?_ U);refine rOt 1 U (y_ (E2 (T U) Al qom) ?_ U);refine rOt 4 U (Ai U (Ol U) ?_);exact⟨_,⟨rfl,rfl⟩,sbt⟩
theorem zbd148_z  (w:World):(Instr.build 195 #[]).run prog w= .ok (.agg #[]) w:=by kernel_rfl
theorem Kd3 {a0 a1 a2:Int}(w:World):(Instr.build 188 #[(0,Vi a0),(1,Vi a1),(2,Vi a2)]).run prog w= .ok (.agg #[Vi a0,Vi a1,Vi a2]) w:=by kernel_rfl
theorem Ke5 {a0 a1 a2:Int}(w:World):(Instr.buildSlice 149 1 #[(0, .agg #[Vi a0,Vi a1,Vi a2])]).run prog w= .ok (.slice (some ⟨w.heap.size,0,none⟩) 1 1) (w.alloc (Cl [Vi a0,Vi a1,Vi a2] 188)):=by kernel_rfl
theorem mixd:prog.follows .mixedOrders=true:=by kernel_rfl
theorem eqNd (a b:Nd)(w:World):(Op.equal 188 (encNdK a) (encNdK b)).run prog w= .ok (decide (b=a)) w:=by
 unfold Op.equal Op.maxDepth;rw[run_equalIn_struct w 9999 188 _ _ qkr qkr];simp[go_sem,Program.fieldsOf,underlying188,Op.eqFields];obtain⟨a1,a2,a3⟩:=a;obtain⟨b1,b2,b3⟩:=b
 by_cases h:b1=a1<;>by_cases h2:b2=a2<;>by_cases h3:b3=a3<;>simp[h,h2,h3]<;>(intros;omega)
theorem keyNd {V:Type}:KeyG (V:=V) prog 188 encNdK:=keyG_ask runUnderlying188 (fun b k w=>by cases b<;>kernel_rfl) (fun k k'=>by simp[Instr.sameNow]) eqNd
theorem look_zip {n:Nd}:∀ (r:Ns) (k:Nat),look (r.zipIdx k) n=fdF n r k
 |[],_=>rfl
 |x::r,k=>by rw[List.zipIdx_cons,Dh,fdF,look_zip r (k+1)]
theorem look_id (ns:Ns)(n:Nd):look (idL ns) n=fdF n (ns.drop 2) 2:=look_zip _ _
theorem id_new {ns:Ns}(h:2<=ns.length)(n:Nd):idL (ns++[n])=idL ns++[(n,ns.length)]:=by
 unfold idL;rw[List.drop_append_of_le_length h,List.zipIdx_append];simp;omega
theorem Jm (D:Sd)(v:Sv)(ns:Ns)(R:Mm):SM D v ns++R=(D.p,Cl (sdC D v ns) 152)::(slH v.d (ns.flatMap encNd) 188++((D.m, .map v.es.toArray v.c)::R)):=by unfold SM;simp
theorem sm_in {D:Sd}{v:Sv}{ns:Ns}{R:Mm}:(SM D v ns).Sublist ((D.p,Cl (sdC D v ns) 152)::(slH v.d (ns.flatMap encNd) 188++((D.m, .map v.es.toArray v.c)::R))):=by
 rw[<- Jm];exact List.sublist_append_left _ _
theorem yl_mkIface {P:Program}{w0:World}{L:Fm}{H:Mm}{ty t:TypeId}{x:Operand}{v:Value}(hx:Ev L x v)(h:∀ w,(Instr.makeInterface t v).run P w= .ok (.iface t v) w):Yl P w0 (.makeInterface t x) ty L H (.iface t v):=Bk U fun b w=>by
 simp[exO,execOp,hx b,h,Sem.run_bind,Result.andThen]
theorem effP_panic {P:Program}{w0:World}{L:Fm}{H:Mm}{ty t:TypeId}{x:Operand}{v:Value}{K:Value->Mm->Prop}{B:Mm->Prop}(hx:Ev L x (.iface t v))(hB:B H):EffP P w0 (.panic x) ty L H K (.iface t v) B:=⟨rfl,fun b w hO=>by
 have:(exO (ev (lk L b)) (.panic x) ty).run P w= .halt (.panic (.iface t v)) w:=by
  have h1:(Instr.panic (.iface t v)).run P w= .halt (.panic (.iface t v)) w:=rfl;simp[exO,execOp,hx b,h1,Sem.run_bind,Result.andThen]
 rw[this];exact⟨rfl,H,hO,hB⟩⟩
theorem mkF_full {most:Nat}{ns:Ns}{lv l h:Nat}(hlh: ¬ l=h)(hn:look (idL ns) (lv,l,h)=none)(hm: ¬ ns.length - 2<most):mkF most ns lv l h=none:=by
 unfold mkF;rw[if_neg hlh,<- look_id,hn];simp only[];rw[if_neg hm]
theorem mkF_new {most:Nat}{ns:Ns}{lv l h:Nat}(hlh: ¬ l=h)(hn:look (idL ns) (lv,l,h)=none)(hm:ns.length - 2<most):mkF most ns lv l h=some (ns.length,ns++[(lv,l,h)]):=by
 unfold mkF;rw[if_neg hlh,<- look_id,hn];simp only[];rw[if_pos hm]
theorem mkF_old {most:Nat}{ns:Ns}{lv l h k:Nat}(hlh: ¬ l=h)(hk:look (idL ns) (lv,l,h)=some k):mkF most ns lv l h=some (k,ns):=by
 unfold mkF;rw[if_neg hlh,<- look_id,hk]
theorem st_new {D:Sd}{v:Sv}{ns:Ns}(hst:StOk D v ns){lv l h:Nat}(hlh: ¬ l=h)(hn:look (idL ns) (lv,l,h)=none)(hm:ns.length - 2<D.most.toNat)(hl:l<ns.length)(hh:h<ns.length)(hN:lv<2*D.bs.length)(h1:lv<lvl ns l)(h2:lv<lvl ns h){d':Sl}(hd:SlOk d' (ns.length+1) 3):StOk D ⟨d',v.es++[({key:=encNdK (lv,l,h),val:=encNI ns.length,born:=v.c}:MapEntry)],v.c+1⟩ (ns++[(lv,l,h)]):=by
 have hmo:=hst.mo;have ht:=hst.w.two;have hlen:(ns++[(lv,l,h)]).length=ns.length+1:=by simp
 refine⟨by rw[hlen];exact hd,by rw[id_new ht];exact hst.es.snoc _ _ _,by rw[hlen];omega,hmo,(Fp hst.w hl hh hN h1 h2 (mkF_new hlh hn hm)).1.w,hst.bl⟩
abbrev OpK (D:Sd) (F:Option (Nat × Ns)) (R:Mm):Value->Mm->Prop:=fun u H'=>∃ x:Nat × Sv × Ns,(u=Vi (x.1:Nat)/\F=some (x.1,x.2.2)/\StOk D x.2.1 x.2.2)/\H'=SM D x.2.1 x.2.2++R
abbrev OpB (D:Sd) (F:Option (Nat × Ns)) (ns:Ns) (R:Mm):Mm->Prop:=fun H'=>∃ y:Sv × Ns,(F=none/\Gr (2*D.bs.length) ns y.2/\StOk D y.1 y.2)/\H'=SM D y.1 y.2++R
theorem Hk {w0:World}{D:Sd}{v:Sv}{ns:Ns}(hst:StOk D v ns)(R:Mm)(lv l h:Nat)(hl:l<ns.length)(hh:h<ns.length)(hN:lv<2*D.bs.length)(h1:lv<lvl ns l)(h2:lv<lvl ns h):
  FSpecP prog w0 143 #[Pt (D.p) 0,Vi (lv:Nat),Vi (l:Nat),Vi (h:Nat)] (SM D v ns++R) (OpK D (mkF D.most.toNat ns lv l h) R) (.iface 195 (.agg #[])) (OpB D (mkF D.most.toNat ns lv l h) ns R):=by
 refine Bj func143 U ntmps143 U ?_;rw[Jm];have hle:=hst.len;have hmo:=hst.mo;have ht:=hst.w.two;refine rDt 13 U ?_;refine jcd U (fun c14=> ?_) (fun c14=> ?_)
 ·refine rCt 8 U (Bs U (Ol U) ?_);exact⟨_,⟨(l,v,ns),⟨rfl,by unfold mkF;rw[if_pos qom],hst⟩,(Jm ..).symm⟩,sbt⟩
 ·have hlh: ¬ l=h:=fun e=>c14 (by rw[e])
  refine rCt 7 U (y_ (A1 (.cons (T U) (.cons (T U) (.cons (T U) .nil))) (Kd3)) (e_ (Ag zeroValue188 cs_) ?_ U) U);rintro _ _ ⟨n9,rfl,rfl⟩;refine Bo (Oq U U sizeOf188) U Ad ?_;rintro _ _ ⟨rfl,rfl⟩;refine rOt 3 U (Bf 11 (plq11 []) _ mixd qkr sb0 ?_ B1);refine rPt 3 U (o_y U (Om U isAgg150 qco) ?_ U Ad);refine o_y U (On U isAgg188 sizeOf188 U qcs) ?_ U Ad;refine o_y U (yl_lookupG (l:=idL ns) (k:=(lv,l,h)) keyNd hst.es (T U) (T U) U runUnderlying150 zeroValue3 (by exact Fnd.mono (fnd_h (H:=_)) sbt)) ?_ U Ad;refine rPt 5 U (Av U (rOt 6 U ?_))
  first|refine A6 (Bt (T U)) U Ad ?_|refine A6 (Bq (T U)) U Ad ?_
  refine rOt 2 U ?_
  first|refine jcd U (fun c30=> ?_) (fun c30=> ?_)|refine jcn U (fun c30=> ?_) (fun c30=> ?_)
  ·have hn:look (idL ns) (lv,l,h)=none:=by simpa using c30
   refine rCt 2 U (Bf 7 (plq7 []) _ mixd qkr sb0 ?_ B1);refine rPt 1 U (o_y U (Ao (evq1 U) call173 (fun H' hs=>len_s (D:=D) (v:=v) (ns:=ns) (List.Sublist.trans (List.Sublist.trans sm_in sbt) hs) hst)) (rPt 3 U (o_y U (Om U isAgg3 qco) ?_ U Ad)) U Ad);refine rPt 1 U (Av U (kO tb 2 [0,9,37] rfl U ?_));refine jcd U (fun c37=> ?_) (fun c37=> ?_)
   ·refine rCt 1 U (y_ (A1 .nil (zbd148_z)) (y_ (yl_mkIface (T U) (fun _=>rfl)) (p_ (effP_panic (K:=fun _ _=>False) (B:=fun H9=>H9=_) (T U) U) (fun _ _ h=>h.elim) ?_ U) U) U);rintro _ rfl
    repeat refine By ?_
    exact Bi ⟨(v,ns),⟨mkF_full hlh hn qom, .refl hst.w,hst⟩,(Jm ..).symm⟩ sbt
   ·refine rCt 7 U (y_ (Om U isAgg149 qco) ?_ U);refine rOt 5 U (Bf 10 (plq6 [(6,false),(7,false),(8,true),(9,true)]) ((n9,Cl (encNd (lv,l,h)) 188)::(D.p,Cl (sdC D v ns) 152)::R) mixd qkr sbt ?_ B1);refine rPt 4 U (o_y U (Om U isAgg149 qco) ?_ U Ad);refine o_y U (On U isAgg188 sizeOf188 U qcs) ?_ U Ad;refine o_e U (Bb (.cons (T U) .nil) (Ke5)) ?_ U Ad;rintro _ _ ⟨n51,rfl,rfl⟩;refine⟨sbt,(o_e U (Cg ((lv,l,h)) (by':=24) locq (T U) (T U) runUnderlying149 runUnderlying149 sizeOf188 typeInfo188 U zeroValue188 U (fun _=>rfl) U hst.sl qde qom) ?_ U Ad)⟩;rintro _ _ ⟨d',rfl,hok',rfl⟩;refine⟨sbt,(rPt 2 U (Av U ?_))⟩
    first|refine Bo (Oq U U sizeOf149) U Ad ?_|refine Bo (Ml (T U) (T U) U sizeOf149) U Ad ?_|refine Bo (Ct (T U) (T U) U sizeOf149) U Ad ?_
    rintro _ _ ⟨rfl,rfl⟩;refine rOt 2 U (Bf 6 (plq6 []) _ mixd qkr sb0 ?_ B1);refine rPt 3 U (o_y U (Om U isAgg150 qco) ?_ U Ad);refine o_y U (On U isAgg188 sizeOf188 U qcs) ?_ U Ad;refine rPt 1 U (Av U (e_ (eff_mapNewG (lv,l,h) ns.length keyNd hst.es hn (T U) (T U) U (T U) U runUnderlying150 (by(repeat (first|exact Upd.h|apply Upd.t|apply Gn));done)) ?_ U));rintro _ _ ⟨rfl,rfl⟩;refine rOt 9 U (Bs U (Ol U) ?_);exact⟨_,⟨(ns.length,⟨d',_,_⟩,ns++[(lv,l,h)]),⟨rfl,mkF_new hlh hn qom,st_new hst hlh hn qom hl hh hN h1 h2 hok'⟩,rfl⟩,by rw[Jm];show ((D.p,Cl [_,_,slV d' (ns++[(lv,l,h)]).length,_,_] 152)::_).Sublist _;rw[List.length_append];exact sbt⟩
  ·obtain⟨k,hk⟩:∃ k,look (idL ns) (lv,l,h)=some k:=Option.isSome_iff_exists.1 (by simpa using c30);refine rCt 9 U (Bs U (Ol U) ?_);exact⟨_,⟨(k,v,ns),⟨by show resOf [((look (idL ns) (lv,l,h)).map encNI).getD _]=_;rw[hk];rfl,mkF_old hlh hk,hst⟩,(Jm ..).symm⟩,sbt⟩
def e2i:Option Nat->Int
 |none=> -1
 |some x=>(x:Int)
theorem e2i_some {o:Option Nat}(h:0<=e2i o):∃ x,o=some x:=by cases o with
 |none=>simp[e2i] at h
 |some x=>exact⟨x,rfl⟩
theorem e2i_none {o:Option Nat}(h: ¬ 0<=e2i o):o=none:=by cases o with
 |none=>rfl
 |some x=>exact(h (by simp[e2i])).elim
theorem yl_minN {P:Program}{w0:World}{L:Fm}{H:Mm}{ty:TypeId}{x y:Operand}{a c:Nat}(hx:Ev L x (Vi (a:Nat)))(hy:Ev L y (Vi (c:Nat))){ts:Array TypeId}:Yl P w0 (.call {callee:= .builtin .min,args:= #[x,y],argTypes:=ts}) ty L H (Vi ((min a c:Nat):Int)):=by
 have h:=yl_min (P:=P) (w0:=w0) (H:=H) (ty:=ty) (ts:=ts) hx hy
 rwa [show min (a:Int) (c:Int)=((min a c:Nat):Int) by omega] at h
abbrev encPr (x:Nat × Nat):Value:= .agg #[Vi (x.1:Nat),Vi (x.2:Nat)]
theorem eqPr (a b:Nat × Nat)(w:World):(Op.equal 190 (encPr a) (encPr b)).run prog w= .ok (decide (b=a)) w:=by
 unfold Op.equal Op.maxDepth;rw[run_equalIn_struct w 9999 190 _ _ qkr qkr];simp[go_sem,Program.fieldsOf,underlying190,Op.eqFields];obtain⟨a1,a2⟩:=a;obtain⟨b1,b2⟩:=b
 by_cases h:b1=a1<;>by_cases h2:b2=a2<;>simp[h,h2]<;>(intros;omega)
theorem keyPr {V:Type}:KeyOk (V:=V) prog 190 encPr:=keyOk_ask runUnderlying190 (fun b k w=>by cases b<;>kernel_rfl) (fun k k'=>by simp[Instr.sameNow]) eqPr (fun k=>by simp[Instr.sameBits])
theorem orE_s (a b:Nat):
  FSpec prog w0 140 #[Vi (a:Nat),Vi (b:Nat)] H (Still (Vi (e2i (eOr a b))) H):=by
 refine Am func140 U ntmps140 U (rDt 12 U ?_);refine Aq (s:=8) (Aa U) (fun c8=> ?_) (fun c8=> ?_)
 ·refine rOt 15 U (Ai U (Ol U) (⟨_,⟨vint ?_,rfl⟩,sbt⟩));unfold eOr
  repeat (first|rw[if_pos qom]|rw[if_neg qom])
  simp only[e2i]
  try omega
 ·refine rOt 6 U ?_;refine jcd U (fun c5=> ?_) (fun c5=> ?_)
  ·refine rCt 8 U (Ai U (Ol U) (⟨_,⟨vint ?_,rfl⟩,sbt⟩));unfold eOr
   repeat (first|rw[if_pos qom]|rw[if_neg qom])
   simp only[e2i]
   try omega
  ·refine rCt 5 U ?_;refine Aq (s:=15) (Aa U) (fun c15=> ?_) (fun c15=> ?_)
   ·refine rOt 17 U (Ai U (Ol U) (⟨_,⟨vint ?_,rfl⟩,sbt⟩));unfold eOr
    repeat (first|rw[if_pos qom]|rw[if_neg qom])
    simp only[e2i]
    try omega
   ·refine rOt 7 U ?_;refine jcd U (fun c12=> ?_) (fun c12=> ?_)
    ·refine rCt 9 U (Ai U (Ol U) (⟨_,⟨vint ?_,rfl⟩,sbt⟩));unfold eOr
     repeat (first|rw[if_pos qom]|rw[if_neg qom])
     simp only[e2i]
     try omega
    ·refine rCt 7 U ?_;refine jcd U (fun c21=> ?_) (fun c21=> ?_)
     ·refine rCt 9 U (Ai U (Ol U) (⟨_,⟨vint ?_,rfl⟩,sbt⟩));unfold eOr
      repeat (first|rw[if_pos qom]|rw[if_neg qom])
      simp only[e2i]
      try omega
     ·refine rCt 9 U (Ai U (Ol U) (⟨_,⟨vint ?_,rfl⟩,sbt⟩));unfold eOr
      repeat (first|rw[if_pos qom]|rw[if_neg qom])
      simp only[e2i]
      try omega
theorem andE_s (a b:Nat):
  FSpec prog w0 212 #[Vi (a:Nat),Vi (b:Nat)] H (Still (Vi (e2i (eAnd a b))) H):=by
 refine Am func212 U ntmps212 U (rDt 12 U ?_);refine Aq (s:=8) (Aa U) (fun c8=> ?_) (fun c8=> ?_)
 ·refine rOt 15 U (Ai U (Ol U) (⟨_,⟨vint ?_,rfl⟩,sbt⟩));unfold eAnd
  repeat (first|rw[if_pos qom]|rw[if_neg qom])
  simp only[e2i]
  try omega
 ·refine rOt 6 U ?_;refine jcd U (fun c5=> ?_) (fun c5=> ?_)
  ·refine rCt 8 U (Ai U (Ol U) (⟨_,⟨vint ?_,rfl⟩,sbt⟩));unfold eAnd
   repeat (first|rw[if_pos qom]|rw[if_neg qom])
   simp only[e2i]
   try omega
  ·refine rCt 5 U ?_;refine Aq (s:=15) (Aa U) (fun c15=> ?_) (fun c15=> ?_)
   ·refine rOt 17 U (Ai U (Ol U) (⟨_,⟨vint ?_,rfl⟩,sbt⟩));unfold eAnd
    repeat (first|rw[if_pos qom]|rw[if_neg qom])
    simp only[e2i]
    try omega
   ·refine rOt 7 U ?_;refine jcd U (fun c12=> ?_) (fun c12=> ?_)
    ·refine rCt 9 U (Ai U (Ol U) (⟨_,⟨vint ?_,rfl⟩,sbt⟩));unfold eAnd
     repeat (first|rw[if_pos qom]|rw[if_neg qom])
     simp only[e2i]
     try omega
    ·refine rCt 7 U ?_;refine jcd U (fun c21=> ?_) (fun c21=> ?_)
     ·refine rCt 9 U (Ai U (Ol U) (⟨_,⟨vint ?_,rfl⟩,sbt⟩));unfold eAnd
      repeat (first|rw[if_pos qom]|rw[if_neg qom])
      simp only[e2i]
      try omega
     ·refine rCt 9 U (Ai U (Ol U) (⟨_,⟨vint ?_,rfl⟩,sbt⟩));unfold eAnd
      repeat (first|rw[if_pos qom]|rw[if_neg qom])
      simp only[e2i]
      try omega
theorem notE_s (a b:Nat):
  FSpec prog w0 226 #[Vi (a:Nat),Vi (b:Nat)] H (Still (Vi (e2i (eNot a b))) H):=by
 refine Am func226 U ntmps226 U (rDt 18 U ?_);refine jcd U (fun c6=> ?_) (fun c6=> ?_)
 ·refine rCt 8 U (Ai U (Ol U) (⟨_,⟨vint ?_,rfl⟩,sbt⟩));unfold eNot
  repeat (first|rw[if_pos qom]|rw[if_neg qom])
  simp only[e2i]
  try omega
 ·refine rCt 6 U ?_;refine jcd U (fun c8=> ?_) (fun c8=> ?_)
  ·refine rCt 8 U (Ai U (Ol U) (⟨_,⟨vint ?_,rfl⟩,sbt⟩));unfold eNot
   repeat (first|rw[if_pos qom]|rw[if_neg qom])
   simp only[e2i]
   try omega
  ·refine rCt 9 U (Ai U (Ol U) (⟨_,⟨vint ?_,rfl⟩,sbt⟩));unfold eNot
   repeat (first|rw[if_pos qom]|rw[if_neg qom])
   simp only[e2i]
   try omega
theorem Hl {a0 a1:Int}(w:World):(Instr.build 190 #[(0,Vi a0),(1,Vi a1)]).run prog w= .ok (.agg #[Vi a0,Vi a1]) w:=by kernel_rfl
theorem loc_c {e:Nat × Obj}{M X:Mm}:LocL (e::(M++X)) (e::M) X (fun M'=>M'++X):=LocL.h (M:=e::M)
theorem locqc {H M R:Mm}{F:Mm->Mm}(h:LocL H M R F:=by repeat (first|exact loc_c|exact LocL.h|apply LocL.t|apply LocL.a)):LocL H M R F:=h
theorem apF_e {most:Nat}{e:Nat->Nat->Option Nat}{k:Nat}{kn:Kn}{ns:Ns}{a b id:Nat}(h:e a b=some id):apF most e (k+1) kn ns a b=some (id,kn,ns):=by rw[apF,h]
theorem apF_k {most:Nat}{e:Nat->Nat->Option Nat}{k:Nat}{kn:Kn}{ns:Ns}{a b id:Nat}(h:e a b=none)(hk:look kn (a,b)=some id):apF most e (k+1) kn ns a b=some (id,kn,ns):=by rw[apF,h];simp only[hk]
section
variable {most:Nat} {e:Nat->Nat->Option Nat} {k:Nat} {kn:Kn} {ns:Ns} {a b lv:Nat}
theorem apF_n1 (h:e a b=none)(hk:look kn (a,b)=none)(hlv:min (lvl ns a) (lvl ns b)=lv)(h1:apF most e k kn ns (ch ns a lv false) (ch ns b lv false)=none):apF most e (k+1) kn ns a b=none:=by rw[apF,h];simp only[hk,hlv,h1]
theorem apF_n2 (h:e a b=none)(hk:look kn (a,b)=none)(hlv:min (lvl ns a) (lvl ns b)=lv){l:Nat}{kn1:Kn}{ns1:Ns}(h1:apF most e k kn ns (ch ns a lv false) (ch ns b lv false)=some (l,kn1,ns1))(h2:apF most e k kn1 ns1 (ch ns1 a lv true) (ch ns1 b lv true)=none):apF most e (k+1) kn ns a b=none:=by rw[apF,h];simp only[hk,hlv,h1,h2]
theorem apF_n3 (h:e a b=none)(hk:look kn (a,b)=none)(hlv:min (lvl ns a) (lvl ns b)=lv){l r:Nat}{kn1 kn2:Kn}{ns1 ns2:Ns}(h1:apF most e k kn ns (ch ns a lv false) (ch ns b lv false)=some (l,kn1,ns1))(h2:apF most e k kn1 ns1 (ch ns1 a lv true) (ch ns1 b lv true)=some (r,kn2,ns2))(h3:mkF most ns2 lv l r=none):apF most e (k+1) kn ns a b=none:=by rw[apF,h];simp only[hk,hlv,h1,h2,h3]
theorem apF_y (h:e a b=none)(hk:look kn (a,b)=none)(hlv:min (lvl ns a) (lvl ns b)=lv){l r id:Nat}{kn1 kn2:Kn}{ns1 ns2 ns3:Ns}(h1:apF most e k kn ns (ch ns a lv false) (ch ns b lv false)=some (l,kn1,ns1))(h2:apF most e k kn1 ns1 (ch ns1 a lv true) (ch ns1 b lv true)=some (r,kn2,ns2))(h3:mkF most ns2 lv l r=some (id,ns3)):apF most e (k+1) kn ns a b=some (id,upsert kn2 (a,b) id,ns3):=by rw[apF,h];simp only[hk,hlv,h1,h2,h3]
end
structure Ap where
 R:Mm
 b7:Nat
 b9:Nat
 b4:Nat
 b10:Nat
 mp:Nat
 fe:Nat
abbrev Ap.cap (A:Ap):List Value:=[Pt (A.b7) 0,Pt (A.b9) 0,Pt (A.b4) 0,Pt (A.b10) 0]
structure ApOk (D:Sd) (e:Nat->Nat->Option Nat) (A:Ap):Prop where
 f7:Fnd A.R A.b7 (Cl [.func (.func A.fe) #[] #[]] 139)
 f9:Fnd A.R A.b9 (Cl [.map (some A.mp)] 205)
 f4:Fnd A.R A.b4 (Cl [Pt (D.p) 0] 68)
 f10:Fnd A.R A.b10 (Cl [.func (.func 171) #[] A.cap.toArray] 139)
 call:∀ args w,(callFunc A.fe args).run prog w= .ok (.enter A.fe args) w
 spec:∀ (w0:World) (H:Mm) (a b:Nat),FSpec prog w0 A.fe #[Vi (a:Nat),Vi (b:Nat)] H (Still (Vi (e2i (e a b))) H)
abbrev ApK (D:Sd) (mp:Nat) (F:Option (Nat × Kn × Ns)) (R:Mm):Value->Mm->Prop:=fun u H'=>∃ x:Nat × Kn × Sv × Ns,(u=Vi (x.1:Nat)/\F=some (x.1,x.2.1,x.2.2.2)/\StOk D x.2.2.1 x.2.2.2)/\H'=((mp,mapO encPr encNI x.2.1)::SM D x.2.2.1 x.2.2.2)++R
abbrev ApB (D:Sd) (mp:Nat) (F:Option (Nat × Kn × Ns)) (ns:Ns) (R:Mm):Mm->Prop:=fun H'=>∃ y:Kn × Sv × Ns,(F=none/\Gr (2*D.bs.length) ns y.2.2/\StOk D y.2.1 y.2.2)/\H'=((mp,mapO encPr encNI y.1)::SM D y.2.1 y.2.2)++R
def ApS (D:Sd) (e:Nat->Nat->Option Nat) (op:Bool->Bool->Bool) (A:Ap) (k:Nat) (w0:World):Prop:=∀ {R:Mm} {v:Sv} {ns:Ns} {kn:Kn} {a b:Nat},A.R.Sublist R->StOk D v ns->KnOk (2*D.bs.length) op ns kn->a<ns.length->b<ns.length->2*D.bs.length<k+min (lvl ns a) (lvl ns b)->
 FSpecP prog w0 171 (Vi (a:Nat)::Vi (b:Nat)::A.cap).toArray (((A.mp,mapO encPr encNI kn)::SM D v ns)++R) (ApK D A.mp (apF D.most.toNat e k kn ns a b) R) (.iface 195 (.agg #[])) (ApB D A.mp (apF D.most.toNat e k kn ns a b) ns R)
theorem Fv {D:Sd}{v:Sv}{ns:Ns}{R:Mm}:(SM D v ns).Sublist (SM D v ns++R):=List.sublist_append_left _ _
theorem ap_0 {D:Sd}{e:Nat->Nat->Option Nat}{op:Bool->Bool->Bool}{A:Ap}{w0:World}:ApS D e op A 0 w0:=fun {R v ns kn a b} hR hst hk ha hb hf=>by
 have:=H6 hst.w ha hb;omega
theorem ap_step {w0:World}{D:Sd}{e:Nat->Nat->Option Nat}{op:Bool->Bool->Bool}{A:Ap}(he:Ends (2*D.bs.length) e op)(hO:ApOk D e A){k:Nat}(ih:ApS D e op A k w0){R:Mm}{v:Sv}{ns:Ns}{kn:Kn}{a b:Nat}(hR:A.R.Sublist R)(hst:StOk D v ns)(hk:KnOk (2*D.bs.length) op ns kn)(ha:a<ns.length)(hb:b<ns.length)(hf:2*D.bs.length<k+1+min (lvl ns a) (lvl ns b)):
  FSpecP prog w0 171 #[Vi (a:Nat),Vi (b:Nat),Pt (A.b7) 0,Pt (A.b9) 0,Pt (A.b4) 0,Pt (A.b10) 0] (((A.mp,mapO encPr encNI kn)::SM D v ns)++R) (ApK D A.mp (apF D.most.toNat e (k+1) kn ns a b) R) (.iface 195 (.agg #[])) (ApB D A.mp (apF D.most.toNat e (k+1) kn ns a b) ns R):=by
 refine Bj func171 U ntmps171 U ?_;have hw:=hst.w;have ht:=hst.w.two;obtain⟨lv,hlv⟩:∃ lv,min (lvl ns a) (lvl ns b)=lv:=⟨_,rfl⟩;show J _ _ _ _ _ _ _ _ ((A.mp,mapO encPr encNI kn)::(SM D v ns++R));refine rDt 8 U (y_ (Om U isAgg139 (by first|exact c_o|exact Ae (Fnd.mono hO.f7 (List.Sublist.trans hR sbt)) 0 _ U)) ?_ U);refine rOt 2 U (y_ (Ju (cap:=[]) (T U) (.cons (T U) (.cons (T U) .nil)) hO.call (fun H9 hs=>hO.spec _ H9 a b)) (rOt 9 U ?_) U);refine jcd U (fun c21=> ?_) (fun c21=> ?_)
 ·obtain⟨x,hx⟩:=e2i_some c21;refine rCt 8 U (Bs U (Ol U) ?_);exact⟨_,⟨(x,kn,v,ns),⟨by show resOf [Vi (e2i (e a b))]=_;rw[hx];rfl,apF_e hx,hst⟩,rfl⟩,sbt⟩
 ·have h0:=e2i_none c21;refine rCt 6 U (y_ (A1 (.cons (T U) (.cons (T U) .nil)) (Hl)) (e_ (Ag zeroValue190 cs_) ?_ U) U);rintro _ _ ⟨n10,rfl,rfl⟩;refine Bo (Oq U U sizeOf190) U Ad ?_;rintro _ _ ⟨rfl,rfl⟩;refine rOt 5 U (y_ (Om U isAgg205 (by first|exact c_o|exact Ae (Fnd.mono hO.f9 (List.Sublist.trans hR sbt)) 0 _ U)) ?_ U);refine y_ (On U isAgg190 sizeOf190 U qcs) ?_ U;refine y_ (yl_lookup2 (l:=kn) (k:=(a,b)) keyPr (T U) (T U) U runUnderlying205 zeroValue3) (rOt 12 U ?_) U
  first|refine jcd U (fun c32=> ?_) (fun c32=> ?_)|refine jcn U (fun c32=> ?_) (fun c32=> ?_)
  ·obtain⟨x,hx⟩:=Option.isSome_iff_exists.1 c32;refine rCt 8 U (Bs U (Ol U) ?_);exact⟨_,⟨(x,kn,v,ns),⟨by show resOf [((look kn (a,b)).map encNI).getD _]=_;rw[hx];rfl,apF_k h0 hx,hst⟩,rfl⟩,sbt⟩
  ·have hl:look kn (a,b)=none:=by simpa using c32
   have hm:lv<2*D.bs.length:=by
    have h5:=hw.lvN ha;have h6:=hw.lvN hb;refine Nat.lt_of_le_of_ne qom fun e9=>he.none ((hw.end ha).1 qom) ((hw.end hb).1 qom) h0
   have u1:=Ej hw ha (lv:=lv) qom hm false;have u2:=Ej hw hb (lv:=lv) qom hm false;refine rCt 3 U (Bf 18 (plq18 []) _ mixd qkr sb0 ?_ B1);refine o_y U (Om U isAgg68 (by first|exact c_o|exact Ae (Fnd.mono hO.f4 (List.Sublist.trans hR sbt)) 0 _ U)) ?_ U Ad;refine rPt 2 U ?_;refine o_y U (Om U isAgg149 qco) ?_ U Ad;refine rPt 1 U (o_y U (Oo U U runUnderlying149 sizeOf188 qom (by first|exact rfl|exact(E4 (w0:=w0) hst).b (i:=a) ha)) ?_ U Ad);refine rPt 1 U ?_;refine o_y U (Om U isAgg3 (by first|exact c_o|exact((E4 hst).mono (by repeat (first|exact Fv|exact sb0|refine List.Sublist.cons _ ?_))).cs (i:=a) qom 0 _ U)) ?_ U Ad;refine o_y U (Om U isAgg68 (by first|exact c_o|exact Ae (Fnd.mono hO.f4 (List.Sublist.trans hR sbt)) 0 _ U)) ?_ U Ad;refine rPt 2 U ?_;refine o_y U (Om U isAgg149 qco) ?_ U Ad;refine rPt 1 U (o_y U (Oo U U runUnderlying149 sizeOf188 qom (by first|exact rfl|exact(E4 (w0:=w0) hst).b (i:=a) ha)) ?_ U Ad);refine rPt 1 U ?_;refine o_y U (Om U isAgg3 (by first|exact c_o|exact((E4 hst).mono (by repeat (first|exact Fv|exact sb0|refine List.Sublist.cons _ ?_))).cs (i:=b) qom 0 _ U)) ?_ U Ad;refine o_y U (show _ from hlv ▸ yl_minN (T U) (T U)) (rPt 1 U (Av U (kO tb 2 [0,1,3,4,5,10,13] rfl U (rGt 1 U (Bf 9 (plq9 []) _ mixd qkr sb0 ?_ B1))))) U Ad;refine o_y U (Om U isAgg139 (by first|exact c_o|exact Ae (Fnd.mono hO.f10 (List.Sublist.trans hR sbt)) 0 _ U)) ?_ U Ad;refine o_y U (Om U isAgg68 (by first|exact c_o|exact Ae (Fnd.mono hO.f4 (List.Sublist.trans hR sbt)) 0 _ U)) ?_ U Ad;refine rPt 2 U ?_;refine o_y U (Ao (.cons (T U) (.cons (T U) (.cons (T U) (.cons Al .nil)))) call107 (fun H' hs=>Hj (D:=D) (v:=v) (ns:=ns) (List.Sublist.trans (by repeat (first|exact Fv|exact sb0|refine List.Sublist.cons _ ?_)) hs) hst a lv false ha)) ?_ U Ad;refine o_y U (Om U isAgg68 (by first|exact c_o|exact Ae (Fnd.mono hO.f4 (List.Sublist.trans hR sbt)) 0 _ U)) ?_ U Ad;refine rPt 2 U ?_;refine o_y U (Ao (.cons (T U) (.cons (T U) (.cons (T U) (.cons Al .nil)))) call107 (fun H' hs=>Hj (D:=D) (v:=v) (ns:=ns) (List.Sublist.trans (by repeat (first|exact Fv|exact sb0|refine List.Sublist.cons _ ?_)) hs) hst b lv false hb)) ?_ U Ad;refine Av U ?_;refine p_ (Cz (T rfl) (.cons (T rfl) (.cons (T rfl) .nil)) call171 (A5 (M:=(A.mp,mapO encPr encNI kn)::SM D v ns) (ih (R:=(n10,Cl [Vi (a:Nat),Vi (b:Nat)] 190)::R) (List.Sublist.trans hR sbt) hst hk (Cc hw ha false) (Cc hw hb false) qom) locqc)) ?_ (by rintro _ ⟨⟨kn1,v1,ns1⟩,⟨e1,g1,hst1⟩,rfl⟩;(repeat refine By ?_);exact Bi ⟨(kn1,v1,ns1),⟨apF_n1 h0 hl hlv e1,g1,hst1⟩,rfl⟩ sbt) rfl;rintro _ _ ⟨⟨l,kn1,v1,ns1⟩,⟨rfl,e1,hst1⟩,rfl⟩
   dsimp only at e1 hst1
   obtain⟨g1,k1,i1⟩:=Nl he k hw hk (Cc hw ha false) (Cc hw hb false) e1;have ha1:=Nat.lt_of_lt_of_le ha g1.le;have hb1:=Nat.lt_of_lt_of_le hb g1.le;have u3:=Ej g1.w ha1 (lv:=lv) (by rw[g1.lvl ha];omega) hm true;have u4:=Ej g1.w hb1 (lv:=lv) (by rw[g1.lvl hb];omega) hm true;refine rOt 4 U (Bf 13 (plq7 [(8,true),(9,true),(10,true),(7,false),(11,false),(12,false)]) R mixd qkr sbt ?_ B1);refine o_y U (Om U isAgg68 (by first|exact c_o|exact Ae (Fnd.mono hO.f4 (List.Sublist.trans hR sbt)) 0 _ U)) ?_ U Ad;refine rPt 2 U (o_y U (Om U isAgg139 (by first|exact c_o|exact Ae (Fnd.mono hO.f10 (List.Sublist.trans hR sbt)) 0 _ U)) ?_ U Ad);refine o_y U (Om U isAgg68 (by first|exact c_o|exact Ae (Fnd.mono hO.f4 (List.Sublist.trans hR sbt)) 0 _ U)) ?_ U Ad;refine rPt 2 U (o_y U (Om U isAgg68 (by first|exact c_o|exact Ae (Fnd.mono hO.f4 (List.Sublist.trans hR sbt)) 0 _ U)) ?_ U Ad);refine rPt 2 U ?_;refine o_e U (Ah (.cons (T U) (.cons (T U) (.cons (T U) (.cons Al .nil)))) call107 (Hj (D:=D) (by repeat (first|exact Fv|exact sb0|refine List.Sublist.cons _ ?_)) hst1 a lv true ha1)) ?_ U Ad;rintro _ _ ⟨rfl,rfl⟩;refine⟨sbt,?_⟩;refine o_e U (Ah (.cons (T U) (.cons (T U) (.cons (T U) (.cons Al .nil)))) call107 (Hj (D:=D) (by repeat (first|exact Fv|exact sb0|refine List.Sublist.cons _ ?_)) hst1 b lv true hb1)) ?_ U Ad;rintro _ _ ⟨rfl,rfl⟩;refine⟨sbt,?_⟩;refine o_p rfl (Cz (T rfl) (.cons (T rfl) (.cons (T rfl) .nil)) call171 (A5 (M:=(A.mp,mapO encPr encNI kn1)::SM D v1 ns1) (ih (R:=(n10,Cl [Vi (a:Nat),Vi (b:Nat)] 190)::R) (List.Sublist.trans hR sbt) hst1 k1 (Cc g1.w ha1 true) (Cc g1.w hb1 true) qom) locqc)) ?_ (by rintro _ ⟨⟨kn2,v2,ns2⟩,⟨e2,g2,hst2⟩,rfl⟩;(repeat refine By ?_);exact Bi ⟨(kn2,v2,ns2),⟨apF_n2 h0 hl hlv e1 e2,g1.trans g2,hst2⟩,rfl⟩ sbt) rfl Ad;rintro _ _ ⟨⟨r,kn2,v2,ns2⟩,⟨rfl,e2,hst2⟩,rfl⟩
   dsimp only at e2 hst2
   obtain⟨g2,k2,i2⟩:=Nl he k g1.w k1 (Cc g1.w ha1 true) (Cc g1.w hb1 true) e2;have j1:=i1.gr g1.w g2;refine⟨sbt,(Av U ?_)⟩;refine p_ (As (evq4 rfl rfl rfl rfl) call143 (A5 (M:=SM D v2 ns2) (Hk hst2 _ lv l r j1.lt i2.lt hm (by have:=j1.lv;omega) (by have:=i2.lv;omega)) locqc)) ?_ (by rintro _ ⟨⟨v3,ns3⟩,⟨e3,g3,hst3⟩,rfl⟩;(repeat refine By ?_);exact Bi ⟨(kn2,v3,ns3),⟨apF_n3 h0 hl hlv e1 e2 e3,(g1.trans g2).trans g3,hst3⟩,rfl⟩ sbt) rfl;rintro _ _ ⟨⟨id,v3,ns3⟩,⟨rfl,e3,hst3⟩,rfl⟩
   dsimp only at e3 hst3
   refine kO tb 3 [3,10,15] rfl U (rGt 2 U (y_ (Om U isAgg205 (by first|exact c_o|exact Ae (Fnd.mono hO.f9 (List.Sublist.trans hR sbt)) 0 _ U)) ?_ U));refine y_ (On U isAgg190 sizeOf190 U qcs) ?_ U;refine rOt 1 U (e_ (Cq (l:=kn2) (a,b) id keyPr (T U) (T U) U (T U) U runUnderlying205) ?_ U);rintro _ _ ⟨rfl,rfl⟩;refine rOt 9 U (Bs U (Ol U) ?_);exact⟨_,⟨(id,upsert kn2 (a,b) id,v3,ns3),⟨rfl,apF_y h0 hl hlv e1 e2 e3,hst3⟩,rfl⟩,sbt⟩
theorem ap_s {D:Sd}{e:Nat->Nat->Option Nat}{op:Bool->Bool->Bool}{A:Ap}{w0:World}(he:Ends (2*D.bs.length) e op)(hO:ApOk D e A)(k:Nat):ApS D e op A k w0:=by
 induction k with
 |zero=>exact ap_0
 |succ k ih=>
  intro R v ns kn a b hR hst hk ha hb hf;exact ap_step he hO ih hR hst hk ha hb hf
theorem spec_permP {P:Program}{w0:World}{f:FuncId}{args:Array Value}{H M:Mm}{K:Value->Mm->Prop}{fv:Value}{B:Mm->Prop}(h:FSpecP P w0 f args M K fv B)(hp:H.Perm M):FSpecP P w0 f args H K fv B:=fun w hO=>h w (Cf hO hp)
theorem perm_ap {α:Type}{a b c d e:α}{S R:List α}:(a::b::c::d::e::(S++R)).Perm ((c::S)++(a::b::d::e::R)):=by
 have h1:(a::b::c::d::e::(S++R)).Perm (c::(a::b::d::e::(S++R))):=List.perm_middle (l₁:=[a,b]) (a:=c);have h2:([a,b,d,e]++(S++R)).Perm (S++([a,b,d,e]++R)):=List.perm_append_comm_assoc _ _ _;exact h1.trans (h2.cons c)
theorem apA_some {most:Nat}{e:Nat->Nat->Option Nat}{ns ms:Ns}{a b id:Nat}{kn:Kn}{k:Nat}(hk:lvl ns 0+1=k)(h:apF most e k [] ns a b=some (id,kn,ms)):apA most e ns a b=some (id,ms):=by subst hk;unfold apA;rw[h];rfl
theorem apA_none {most:Nat}{e:Nat->Nat->Option Nat}{ns:Ns}{a b:Nat}{k:Nat}(hk:lvl ns 0+1=k)(h:apF most e k [] ns a b=none):apA most e ns a b=none:=by subst hk;unfold apA;rw[h];rfl
theorem apply_s {w0:World}{D:Sd}{v:Sv}{ns:Ns}{e:Nat->Nat->Option Nat}{op:Bool->Bool->Bool}{fe:Nat}(he:Ends (2*D.bs.length) e op)(hc:∀ args w,(callFunc fe args).run prog w= .ok (.enter fe args) w)(hs:∀ (w0:World) (H:Mm) (a b:Nat),FSpec prog w0 fe #[Vi (a:Nat),Vi (b:Nat)] H (Still (Vi (e2i (e a b))) H))(hst:StOk D v ns)(R:Mm)(a b:Nat)(ha:a<ns.length)(hb:b<ns.length):
  FSpecP prog w0 139 #[Pt (D.p) 0,Vi (a:Nat),Vi (b:Nat), .func (.func fe) #[] #[]] (SM D v ns++R) (OpK D (apA D.most.toNat e ns a b) R) (.iface 195 (.agg #[])) (OpB D (apA D.most.toNat e ns a b) ns R):=by
 refine Bj func139 U ntmps139 U (rDt 2 U (e_ (Ot U cs_) ?_ U));rintro _ _ ⟨n4,rfl,rfl⟩;refine e_ (Ot U cs_) ?_ U;rintro _ _ ⟨n7,rfl,rfl⟩;refine rOt 5 U (e_ Dn ?_ U);rintro _ _ ⟨n11,rfl,rfl⟩;refine e_ (Ag zeroValue205 cs_) ?_ U;rintro _ _ ⟨n9,rfl,rfl⟩;refine Bo (Oq U U sizeOf205) U Ad ?_;rintro _ _ ⟨rfl,rfl⟩;refine rOt 4 U (e_ (Ag zeroValue139 cs_) ?_ U);rintro _ _ ⟨n10,rfl,rfl⟩;refine rOt 4 U (y_ (Bn (.cons (T U) (.cons (T U) (.cons (T U) (.cons (T U) .nil))))) ?_ U);refine Bo (Oq U U sizeOf139) U Ad ?_;rintro _ _ ⟨rfl,rfl⟩;refine rOt 4 U (y_ (Om U isAgg139 qco) ?_ U);have hO:ApOk D e ⟨(n10,Cl [.func (.func 171) #[] #[Pt n7 0,Pt n9 0,Pt n4 0,Pt n10 0]] 139)::(n9,Cl [.map (some n11)] 205)::(n7,Cl [.func (.func fe) #[] #[]] 139)::(n4,Cl [Pt (D.p) 0] 68)::R,n7,n9,n4,n10,n11,fe⟩:=⟨Cr (Cr fnd_h),Cr fnd_h,Cr (Cr (Cr fnd_h)),fnd_h,hc,hs⟩;refine rOt 2 U ?_;refine p_ (Cz (T rfl) (.cons (T rfl) (.cons (T rfl) .nil)) call171 (spec_permP (ap_s (A:=⟨(n10,Cl [.func (.func 171) #[] #[Pt n7 0,Pt n9 0,Pt n4 0,Pt n10 0]] 139)::(n9,Cl [.map (some n11)] 205)::(n7,Cl [.func (.func fe) #[] #[]] 139)::(n4,Cl [Pt (D.p) 0] 68)::R,n7,n9,n4,n10,n11,fe⟩) he hO (2*D.bs.length+1) (R:=(n10,Cl [.func (.func 171) #[] #[Pt n7 0,Pt n9 0,Pt n4 0,Pt n10 0]] 139)::(n9,Cl [.map (some n11)] 205)::(n7,Cl [.func (.func fe) #[] #[]] 139)::(n4,Cl [Pt (D.p) 0] 68)::R) (kn:=[]) sb0 hst kn_nil ha hb qom) perm_ap)) ?_ (by rintro _ ⟨⟨kn1,v1,ns1⟩,⟨e1,g1,hst1⟩,rfl⟩;(repeat refine By ?_);exact Bi ⟨(v1,ns1),⟨apA_none (by rw[hst.w.lv0]) e1,g1,hst1⟩,rfl⟩ sbt) rfl;rintro _ _ ⟨⟨id,kn,v1,ns1⟩,⟨rfl,e1,hst1⟩,rfl⟩
 dsimp only at e1 hst1
 refine rOt 4 U (Bs U (Ol U) ?_);exact⟨_,⟨(id,v1,ns1),⟨rfl,apA_some (by rw[hst.w.lv0]) e1,hst1⟩,rfl⟩,sbt⟩
theorem Nv {w0:World}{D:Sd}{v:Sv}{ns:Ns}(hst:StOk D v ns)(R:Mm)(a b:Nat)(ha:a<ns.length)(hb:b<ns.length):
  FSpecP prog w0 94 #[Pt (D.p) 0,Vi (a:Nat),Vi (b:Nat)] (SM D v ns++R) (OpK D (orF D.most.toNat ns a b) R) (.iface 195 (.agg #[])) (OpB D (orF D.most.toNat ns a b) ns R):=by
 refine Bj func94 U ntmps94 U (rDt 10 U ?_);refine p_ (As (.cons (T rfl) (.cons (T rfl) (.cons (T rfl) (.cons Nk .nil)))) call139 (apply_s E8 call140 (fun _ _ a b=>orE_s a b) hst R a b ha hb)) ?_ (by rintro _ ⟨⟨v1,ns1⟩,⟨e1,g1,hst1⟩,rfl⟩;(repeat refine By ?_);exact Bi ⟨(v1,ns1),⟨e1,g1,hst1⟩,rfl⟩ sbt) rfl;rintro _ _ ⟨⟨id,v1,ns1⟩,⟨rfl,e1,hst1⟩,rfl⟩
 dsimp only at e1 hst1
 refine rOt 4 U (Bs U (Ol U) ?_);exact⟨_,⟨(id,v1,ns1),⟨rfl,e1,hst1⟩,rfl⟩,sbt⟩
theorem and_s {w0:World}{D:Sd}{v:Sv}{ns:Ns}(hst:StOk D v ns)(R:Mm)(a b:Nat)(ha:a<ns.length)(hb:b<ns.length):
  FSpecP prog w0 174 #[Pt (D.p) 0,Vi (a:Nat),Vi (b:Nat)] (SM D v ns++R) (OpK D (andF D.most.toNat ns a b) R) (.iface 195 (.agg #[])) (OpB D (andF D.most.toNat ns a b) ns R):=by
 refine Bj func174 U ntmps174 U (rDt 10 U ?_);refine p_ (As (.cons (T rfl) (.cons (T rfl) (.cons (T rfl) (.cons Nk .nil)))) call139 (apply_s ends_and call212 (fun _ _ a b=>andE_s a b) hst R a b ha hb)) ?_ (by rintro _ ⟨⟨v1,ns1⟩,⟨e1,g1,hst1⟩,rfl⟩;(repeat refine By ?_);exact Bi ⟨(v1,ns1),⟨e1,g1,hst1⟩,rfl⟩ sbt) rfl;rintro _ _ ⟨⟨id,v1,ns1⟩,⟨rfl,e1,hst1⟩,rfl⟩
 dsimp only at e1 hst1
 refine rOt 4 U (Bs U (Ol U) ?_);exact⟨_,⟨(id,v1,ns1),⟨rfl,e1,hst1⟩,rfl⟩,sbt⟩
theorem not_s {w0:World}{D:Sd}{v:Sv}{ns:Ns}(hst:StOk D v ns)(R:Mm)(a:Nat)(ha:a<ns.length):
  FSpecP prog w0 209 #[Pt (D.p) 0,Vi (a:Nat)] (SM D v ns++R) (OpK D (notF D.most.toNat ns a) R) (.iface 195 (.agg #[])) (OpB D (notF D.most.toNat ns a) ns R):=by
 refine Bj func209 U ntmps209 U (rDt 10 U ?_);refine p_ (As (.cons (T rfl) (.cons (T rfl) (.cons (T rfl) (.cons Nk .nil)))) call139 (apply_s ends_not call226 (fun _ _ a b=>notE_s a b) hst R a a ha ha)) ?_ (by rintro _ ⟨⟨v1,ns1⟩,⟨e1,g1,hst1⟩,rfl⟩;(repeat refine By ?_);exact Bi ⟨(v1,ns1),⟨e1,g1,hst1⟩,rfl⟩ sbt) rfl;rintro _ _ ⟨⟨id,v1,ns1⟩,⟨rfl,e1,hst1⟩,rfl⟩
 dsimp only at e1 hst1
 refine rOt 4 U (Bs U (Ol U) ?_);exact⟨_,⟨(id,v1,ns1),⟨rfl,e1,hst1⟩,rfl⟩,sbt⟩
def is1 (i:Nat):Bool:=decide (i=1)
theorem F9 {i:Nat}(h:i<2):(i:Int)=b2i (is1 i):=by
 have:i=0\/i=1:=by omega
 rcases this with rfl|rfl<;>rfl
theorem Og {w0:World}{D:Sd}{v:Sv}{ns:Ns}{H:Mm}(hm:(SM D v ns).Sublist H)(hst:StOk D v ns){b3 n11 lv:Nat}(h3:Fnd H b3 (Cl [Pt (D.p) 0] 68))(h11:Fnd H n11 (Cl [Vi (lv:Nat)] 3))(hlv:lv<=400)(i:Nat)(hi:i<ns.length)(x z:Bool){xi zi:Int}(hx:xi=b2i x)(hz:zi=b2i z):
  FSpec prog w0 150 #[Vi (i:Nat),Vi xi,Vi zi,Pt b3 0,Pt n11 0] H (Still (Vi (atD ns i lv x z:Nat)) H):=by
 refine Am func150 U ntmps150 U ?_;subst hx hz;refine rDt 6 U (Bf 11 (plq11 []) _ mixd qkr sb0 ?_ Bh);refine o_y U (Om U isAgg68 (by first|exact c_o|exact Ae h3 0 _ U)) ?_ U Ad;refine o_y U (Om U isAgg68 (by first|exact c_o|exact Ae h3 0 _ U)) ?_ U Ad;refine rPt 1 U (o_y U (Om U isAgg3 (by first|exact c_o|exact Ae h11 0 _ U)) ?_ U Ad);refine rPt 1 U (o_y U (Ao (evq4 U U U U) call107 (fun H' hs=>Hj (D:=D) (v:=v) (ns:=ns) (List.Sublist.trans hm hs) hst i lv x hi)) (o_y U (Om U isAgg3 (by first|exact c_o|exact Ae h11 0 _ U)) ?_ U Ad) U Ad);refine o_y U (Aw (T U) Al qom) ?_ U Ad;refine rPt 1 U (o_y U (Ao (evq4 U U U U) call107 (fun H' hs=>Hj (D:=D) (v:=v) (ns:=ns) (List.Sublist.trans hm hs) hst (ch ns i lv x) (lv+1) z (Cc hst.w hi x))) (rPt 1 U (Av U (rOt 3 U (Ai U (Ol U) ?_)))) U Ad);exact⟨_,⟨rfl,rfl⟩,sbt⟩
structure Sq where
 R:Mm
 b2:Nat
 b3:Nat
 b4:Nat
 mp:Nat
abbrev Sq.cap (A:Sq):List Value:=[Pt (A.b2) 0,Pt (A.b3) 0,Pt (A.b4) 0]
structure SqOk (D:Sd) (A:Sq):Prop where
 f2:Fnd A.R A.b2 (Cl [.map (some A.mp)] 205)
 f3:Fnd A.R A.b3 (Cl [Pt (D.p) 0] 68)
 f4:Fnd A.R A.b4 (Cl [.func (.func 149) #[] A.cap.toArray] 139)
def SeS (D:Sd) (A:Sq) (k:Nat) (w0:World):Prop:=∀ {R:Mm} {v:Sv} {ns:Ns} {kn:Kn} {a b:Nat},A.R.Sublist R->StOk D v ns->KsOk (2*D.bs.length) ns kn->a<ns.length->b<ns.length->2*D.bs.length<2*k+min (lvl ns a) (lvl ns b) / 2*2->
 FSpecP prog w0 149 (Vi (a:Nat)::Vi (b:Nat)::A.cap).toArray (((A.mp,mapO encPr encNI kn)::SM D v ns)++R) (ApK D A.mp (seF D.most.toNat k kn ns a b) R) (.iface 195 (.agg #[])) (ApB D A.mp (seF D.most.toNat k kn ns a b) ns R)
theorem se_0 {D:Sd}{A:Sq}{w0:World}:SeS D A 0 w0:=fun {R v ns kn a b} hR hst hk ha hb hf=>by
 have:=H6 hst.w ha hb;omega
section
variable {most:Nat} {f:Kn->Ns->Nat->Nat->Option (Nat × Kn × Ns)} {kn0 kn kn1 kn2 kn3:Kn} {ns0 ns ns1 ns2 ns3:Ns} {a b lv i j k p q r:Nat} {x z:Bool} {g:Nat->Nat}
theorem sq_n1 (h1:f kn ns (atD ns a lv x false) (atD ns b lv false z)=none):sqF most f kn ns a b lv x z=none:=by unfold sqF;simp only[h1]
theorem sq_n2 (h1:f kn ns (atD ns a lv x false) (atD ns b lv false z)=some (p,kn1,ns1))(h2:f kn1 ns1 (atD ns1 a lv x true) (atD ns1 b lv true z)=none):sqF most f kn ns a b lv x z=none:=by unfold sqF;simp only[h1,h2]
theorem sq_n3 (h1:f kn ns (atD ns a lv x false) (atD ns b lv false z)=some (p,kn1,ns1))(h2:f kn1 ns1 (atD ns1 a lv x true) (atD ns1 b lv true z)=some (q,kn2,ns2))(h3:orF most ns2 p q=none):sqF most f kn ns a b lv x z=none:=by unfold sqF;simp only[h1,h2,h3];rfl
theorem sq_y (h1:f kn ns (atD ns a lv x false) (atD ns b lv false z)=some (p,kn1,ns1))(h2:f kn1 ns1 (atD ns1 a lv x true) (atD ns1 b lv true z)=some (q,kn2,ns2))(h3:orF most ns2 p q=some (r,ns3)):sqF most f kn ns a b lv x z=some (r,kn2,ns3):=by unfold sqF;simp only[h1,h2,h3];rfl
def InS (most:Nat) (f:Kn->Ns->Nat->Nat->Option (Nat × Kn × Ns)) (kn0:Kn) (ns0:Ns) (a b lv:Nat) (x:Bool) (j:Nat) (g:Nat->Nat) (kn:Kn) (ns:Ns):Prop:=
 (j=0->kn=kn0/\ns=ns0)/\(j=1->sqF most f kn0 ns0 a b lv x false=some (g 0,kn,ns))/\(j=2->∃ kn1 ns1,sqF most f kn0 ns0 a b lv x false=some (g 0,kn1,ns1)/\sqF most f kn1 ns1 a b lv x true=some (g 1,kn,ns))
def upG (g:Nat->Nat) (j r:Nat):Nat->Nat:=fun m=>if m=j then r else g m
theorem in_0 {g:Nat->Nat}:InS most f kn0 ns0 a b lv x 0 g kn0 ns0:=⟨fun _=>⟨rfl,rfl⟩,fun h=>by omega,fun h=>by omega⟩
theorem in_y (hj:j<2)(h:InS most f kn0 ns0 a b lv x j g kn ns)(h1:sqF most f kn ns a b lv x (is1 j)=some (r,kn1,ns1)):InS most f kn0 ns0 a b lv x (j+1) (upG g j r) kn1 ns1:=by
 have:j=0\/j=1:=by omega
 rcases this with rfl|rfl
 ·obtain⟨rfl,rfl⟩:=h.1 rfl;exact⟨fun h=>by omega,fun _=>h1,fun h=>by omega⟩
 ·exact⟨fun h=>by omega,fun h=>by omega,fun _=>⟨_,_,h.2.1 U,h1⟩⟩
theorem in_n (hj:j<2)(h:InS most f kn0 ns0 a b lv x j g kn ns)(h1:sqF most f kn ns a b lv x (is1 j)=none):rwF most f kn0 ns0 a b lv x=none:=by
 have:j=0\/j=1:=by omega
 rcases this with rfl|rfl
 ·obtain⟨rfl,rfl⟩:=h.1 rfl;unfold rwF;rw[show sqF most f kn ns a b lv x false=none from h1]
 ·unfold rwF;rw[h.2.1 rfl];simp only[];rw[show sqF most f kn ns a b lv x true=none from h1]
theorem in_end (h:InS most f kn0 ns0 a b lv x 2 g kn ns):rwF most f kn0 ns0 a b lv x=(mkF most ns (lv+1) (g 0) (g 1)).map fun r=>(r.1,kn,r.2):=by
 obtain⟨kn1,ns1,h1,h2⟩:=h.2.2 rfl;unfold rwF;rw[h1];simp only[];rw[h2]
def OutS (most:Nat) (f:Kn->Ns->Nat->Nat->Option (Nat × Kn × Ns)) (kn0:Kn) (ns0:Ns) (a b lv:Nat) (i:Nat) (g:Nat->Nat) (kn:Kn) (ns:Ns):Prop:=
 (i=0->kn=kn0/\ns=ns0)/\(i=1->rwF most f kn0 ns0 a b lv false=some (g 0,kn,ns))/\(i=2->∃ kn1 ns1,rwF most f kn0 ns0 a b lv false=some (g 0,kn1,ns1)/\rwF most f kn1 ns1 a b lv true=some (g 1,kn,ns))
theorem out_0 {g:Nat->Nat}:OutS most f kn0 ns0 a b lv 0 g kn0 ns0:=⟨fun _=>⟨rfl,rfl⟩,fun h=>by omega,fun h=>by omega⟩
theorem out_y (hi:i<2)(h:OutS most f kn0 ns0 a b lv i g kn ns)(h1:rwF most f kn ns a b lv (is1 i)=some (r,kn1,ns1)):OutS most f kn0 ns0 a b lv (i+1) (upG g i r) kn1 ns1:=by
 have:i=0\/i=1:=by omega
 rcases this with rfl|rfl
 ·obtain⟨rfl,rfl⟩:=h.1 rfl;exact⟨fun h=>by omega,fun _=>h1,fun h=>by omega⟩
 ·exact⟨fun h=>by omega,fun h=>by omega,fun _=>⟨_,_,h.2.1 U,h1⟩⟩
section
theorem N1 (h0: ¬ (a=0\/b=0))(h01: ¬ (a=1/\b=1))(hl:look kn0 (a,b)=none)(hlv:min (lvl ns0 a) (lvl ns0 b) / 2*2=lv)(hi:i<2)(h:OutS most (seF most k) kn0 ns0 a b lv i g kn ns)(h1:rwF most (seF most k) kn ns a b lv (is1 i)=none):seF most (k+1) kn0 ns0 a b=none:=by
 rw[seF,if_neg h0,if_neg h01,hl];simp only[hlv];have:i=0\/i=1:=by omega
 rcases this with rfl|rfl
 ·obtain⟨rfl,rfl⟩:=h.1 rfl;rw[show rwF most (seF most k) kn ns a b lv false=none from h1]
 ·rw[h.2.1 rfl];simp only[];rw[show rwF most (seF most k) kn ns a b lv true=none from h1]
theorem out_end (h0: ¬ (a=0\/b=0))(h01: ¬ (a=1/\b=1))(hl:look kn0 (a,b)=none)(hlv:min (lvl ns0 a) (lvl ns0 b) / 2*2=lv)(h:OutS most (seF most k) kn0 ns0 a b lv 2 g kn ns):seF most (k+1) kn0 ns0 a b=(mkF most ns lv (g 0) (g 1)).map fun r=>(r.1,upsert kn (a,b) r.1,r.2):=by
 obtain⟨kn1,ns1,h1,h2⟩:=h.2.2 rfl;rw[seF,if_neg h0,if_neg h01,hl];simp only[hlv];rw[h1];simp only[];rw[h2]
end
end
section
variable {N most:Nat} {f:Kn->Ns->Nat->Nat->Option (Nat × Kn × Ns)} {kn0 kn:Kn} {ns0 ns:Ns} {a b lv i j:Nat} {x:Bool} {g:Nat->Nat}
theorem in_gr (hf:SeOk N most f)(hw:Wf N ns0)(hk:KsOk N ns0 kn0)(ha:a<ns0.length)(hb:b<ns0.length)(hla:lv<=lvl ns0 a)(hlb:lv<=lvl ns0 b)(hev:lv % 2=0)(hN:lv+1<N)(hj:j<=2)(h:InS most f kn0 ns0 a b lv x j g kn ns):Gr N ns0 ns/\KsOk N ns kn:=by
 have:j=0\/j=1\/j=2:=by omega
 rcases this with rfl|rfl|rfl
 ·obtain⟨rfl,rfl⟩:=h.1 rfl;exact⟨.refl hw,hk⟩
 ·obtain⟨g1,k1,_⟩:=Ls hf hw hk ha hb hla hlb hev hN (h.2.1 rfl);exact⟨g1,k1⟩
 ·obtain⟨kn1,ns1,h1,h2⟩:=h.2.2 rfl;obtain⟨g1,k1,_⟩:=Ls hf hw hk ha hb hla hlb hev hN h1;obtain⟨g2,k2,_⟩:=Ls hf g1.w k1 (Nat.lt_of_lt_of_le ha g1.le) (Nat.lt_of_lt_of_le hb g1.le) (by rw[g1.lvl ha];exact hla) (by rw[g1.lvl hb];exact hlb) hev hN h2;exact⟨g1.trans g2,k2⟩
theorem in_lv (hf:SeOk N most f)(hw:Wf N ns0)(hk:KsOk N ns0 kn0)(ha:a<ns0.length)(hb:b<ns0.length)(hla:lv<=lvl ns0 a)(hlb:lv<=lvl ns0 b)(hev:lv % 2=0)(hN:lv+1<N)(h:InS most f kn0 ns0 a b lv x 2 g kn ns):g 0<ns.length/\g 1<ns.length/\lv+1<lvl ns (g 0)/\lv+1<lvl ns (g 1):=by
 obtain⟨kn1,ns1,h1,h2⟩:=h.2.2 rfl;obtain⟨g1,k1,i1⟩:=Ls hf hw hk ha hb hla hlb hev hN h1;obtain⟨g2,k2,i2⟩:=Ls hf g1.w k1 (Nat.lt_of_lt_of_le ha g1.le) (Nat.lt_of_lt_of_le hb g1.le) (by rw[g1.lvl ha];exact hla) (by rw[g1.lvl hb];exact hlb) hev hN h2;have j1:=i1.gr g1.w g2;have l1:=j1.lv;have l2:=i2.lv;exact⟨j1.lt,i2.lt,l1,l2⟩
theorem out_gr (hf:SeOk N most f)(hw:Wf N ns0)(hk:KsOk N ns0 kn0)(ha:a<ns0.length)(hb:b<ns0.length)(hla:lv<=lvl ns0 a)(hlb:lv<=lvl ns0 b)(hev:lv % 2=0)(hN:lv+1<N)(hj:i<=2)(h:OutS most f kn0 ns0 a b lv i g kn ns):Gr N ns0 ns/\KsOk N ns kn:=by
 have:i=0\/i=1\/i=2:=by omega
 rcases this with rfl|rfl|rfl
 ·obtain⟨rfl,rfl⟩:=h.1 rfl;exact⟨.refl hw,hk⟩
 ·obtain⟨g1,k1,_⟩:=Lt hf hw hk ha hb hla hlb hev hN (h.2.1 rfl);exact⟨g1,k1⟩
 ·obtain⟨kn1,ns1,h1,h2⟩:=h.2.2 rfl;obtain⟨g1,k1,_⟩:=Lt hf hw hk ha hb hla hlb hev hN h1;obtain⟨g2,k2,_⟩:=Lt hf g1.w k1 (Nat.lt_of_lt_of_le ha g1.le) (Nat.lt_of_lt_of_le hb g1.le) (by rw[g1.lvl ha];exact hla) (by rw[g1.lvl hb];exact hlb) hev hN h2;exact⟨g1.trans g2,k2⟩
theorem out_lv (hf:SeOk N most f)(hw:Wf N ns0)(hk:KsOk N ns0 kn0)(ha:a<ns0.length)(hb:b<ns0.length)(hla:lv<=lvl ns0 a)(hlb:lv<=lvl ns0 b)(hev:lv % 2=0)(hN:lv+1<N)(h:OutS most f kn0 ns0 a b lv 2 g kn ns):g 0<ns.length/\g 1<ns.length/\lv<lvl ns (g 0)/\lv<lvl ns (g 1):=by
 obtain⟨kn1,ns1,h1,h2⟩:=h.2.2 rfl;obtain⟨g1,k1,i1⟩:=Lt hf hw hk ha hb hla hlb hev hN h1;obtain⟨g2,k2,i2⟩:=Lt hf g1.w k1 (Nat.lt_of_lt_of_le ha g1.le) (Nat.lt_of_lt_of_le hb g1.le) (by rw[g1.lvl ha];exact hla) (by rw[g1.lvl hb];exact hlb) hev hN h2;have j1:=i1.gr g1.w g2;have l1:=j1.lv;have l2:=i2.lv;exact⟨j1.lt,i2.lt,l1,l2⟩
end
theorem set_g {g:Nat->Nat}{j r:Nat}(hj:j<2):setN? ([Vi (g 0:Nat),Vi (g 1:Nat)]:List Value) (0+(j:Int).toNat*1) (Vi (r:Nat))=some [Vi (upG g j r 0:Nat),Vi (upG g j r 1:Nat)]:=by
 have:j=0\/j=1:=by omega
 rcases this with rfl|rfl<;>rfl
section
variable {P:Program} {w0:World} {L:Fm} {H:Mm} {ty xt yt:TypeId} {x y:Operand} {a c:Nat}
theorem yl_quo2 (hx:Ev L x (Vi (a:Nat)))(hy:Ev L y (Vi 2))(h:a<=1000000000):Yl P w0 (.binOp .quo xt x y yt) ty L H (Vi ((a / 2:Nat):Int)):=by
 have h:=yl_quo (P:=P) (w0:=w0) (H:=H) (ty:=ty) (xt:=xt) (yt:=yt) hx hy qom
 rwa [show (a:Int) / 2=((a / 2:Nat):Int) by omega] at h
theorem yl_mul2 (hx:Ev L x (Vi (a:Nat)))(hy:Ev L y (Vi 2))(h:a<=1000000000):Yl P w0 (.binOp .mul xt x y yt) ty L H (Vi ((a*2:Nat):Int)):=by
 have h:=Fn (P:=P) (w0:=w0) (H:=H) (ty:=ty) (xt:=xt) (yt:=yt) hx hy qom
 rwa [show (a:Int)*2=((a*2:Nat):Int) by omega] at h
theorem Cw (hx:Ev L x (Vi (a:Nat)))(hy:Ev L y (Vi (c:Nat)))(h:a+c<=1000000000):Yl P w0 (.binOp .add xt x y yt) ty L H (Vi ((a+c:Nat):Int)):=by
 have h:=Aw (P:=P) (w0:=w0) (H:=H) (ty:=ty) (xt:=xt) (yt:=yt) hx hy qom
 rwa [show (a:Int)+c=((a+c:Nat):Int) by omega] at h
end
theorem se_step {w0:World}{D:Sd}{A:Sq}(hO:SqOk D A){k:Nat}(ih:SeS D A k w0){R:Mm}{v:Sv}{ns:Ns}{kn:Kn}{a b:Nat}(hR:A.R.Sublist R)(hst:StOk D v ns)(hk:KsOk (2*D.bs.length) ns kn)(ha:a<ns.length)(hb:b<ns.length)(hf:2*D.bs.length<2*(k+1)+min (lvl ns a) (lvl ns b) / 2*2):
  FSpecP prog w0 149 #[Vi (a:Nat),Vi (b:Nat),Pt (A.b2) 0,Pt (A.b3) 0,Pt (A.b4) 0] (((A.mp,mapO encPr encNI kn)::SM D v ns)++R) (ApK D A.mp (seF D.most.toNat (k+1) kn ns a b) R) (.iface 195 (.agg #[])) (ApB D A.mp (seF D.most.toNat (k+1) kn ns a b) ns R):=by
 refine Bj func149 U ntmps149 U ?_;have hw:=hst.w;have ht:=hst.w.two;have hbl:=hst.bl;obtain⟨lv,hlv⟩:∃ lv,min (lvl ns a) (lvl ns b) / 2*2=lv:=⟨_,rfl⟩;have hNe:2*D.bs.length % 2=0:=by omega
 have hlN:=H6 hw ha hb;show J _ _ _ _ _ _ _ _ ((A.mp,mapO encPr encNI kn)::(SM D v ns++R));refine rDt 6 U ?_;refine Fl (X:=Bool) (V:=fun x23=>[(23, .bool x23)]) (C:=[(0,_),(1,_),(2,_),(3,_),(4,_)]) (φ:=fun x23=>x23=decide (a=0\/b=0)) (kg U) ?_ ?_
 ·refine rDt 4 U ?_;refine Aq (s:=20) (Aa U) (fun c20=> ?_) (fun c20=> ?_)
  ·refine rOt 4 U ?_;refine Be (true) ?_ qkg (kg U) sbt;refine Bool.eq_iff_iff.2 ?_;simp only[decide_eq_true_eq,true_iff];omega
  ·refine rOt 4 U ?_;refine Be (decide ((b:Int)=0)) ?_ qkg (kg U) sbt;refine Bool.eq_iff_iff.2 ?_;simp only[decide_eq_true_eq,true_iff];omega
 rintro x23 hx23
 first|refine jcd U (fun c23=> ?_) (fun c23=> ?_)|refine jcn U (fun c23=> ?_) (fun c23=> ?_)
 ·have h0:a=0\/b=0:=by simpa[hx23] using c23
  refine rCt 7 U (Bs U (Ol U) ?_);exact⟨_,⟨(0,kn,v,ns),⟨rfl,by rw[seF,if_pos h0],hst⟩,rfl⟩,sbt⟩
 ·have h0: ¬ (a=0\/b=0):=by simpa[hx23] using c23
  refine rCt 3 U ?_;refine Fl (X:=Bool) (V:=fun x29=>[(29, .bool x29)]) (C:=[(0,_),(1,_),(2,_),(3,_),(4,_)]) (φ:=fun x29=>x29=decide (a=1/\b=1)) (kg U) ?_ ?_
  ·refine rDt 4 U ?_;refine Aq (s:=26) (Aa U) (fun c26=> ?_) (fun c26=> ?_)
   ·refine rOt 4 U ?_;refine Be (decide ((b:Int)=1)) ?_ qkg (kg U) sbt;refine Bool.eq_iff_iff.2 ?_;simp only[decide_eq_true_eq,Bool.false_eq_true,false_iff];omega
   ·refine rOt 4 U ?_;refine Be (false) ?_ qkg (kg U) sbt;refine Bool.eq_iff_iff.2 ?_;simp only[decide_eq_true_eq,Bool.false_eq_true,false_iff];omega
  rintro x29 hx29
  first|refine jcd U (fun c29=> ?_) (fun c29=> ?_)|refine jcn U (fun c29=> ?_) (fun c29=> ?_)
  ·have h01:a=1/\b=1:=by simpa[hx29] using c29
   refine rCt 7 U (Bs U (Ol U) ?_);exact⟨_,⟨(1,kn,v,ns),⟨rfl,by rw[seF,if_neg h0,if_pos h01],hst⟩,rfl⟩,sbt⟩
  ·have h01: ¬ (a=1/\b=1):=by simpa[hx29] using c29
   refine rCt 6 U (y_ (A1 (.cons (T U) (.cons (T U) .nil)) (Hl)) (e_ (Ag zeroValue190 cs_) ?_ U) U);rintro _ _ ⟨n8,rfl,rfl⟩;refine Bo (Oq U U sizeOf190) U Ad ?_;rintro _ _ ⟨rfl,rfl⟩;refine rOt 5 U (y_ (Om U isAgg205 (by first|exact c_o|exact Ae (Fnd.mono hO.f2 (List.Sublist.trans hR sbt)) 0 _ U)) ?_ U);refine y_ (On U isAgg190 sizeOf190 U qcs) ?_ U;refine y_ (yl_lookup2 (l:=kn) (k:=(a,b)) keyPr (T U) (T U) U runUnderlying205 zeroValue3) (rOt 12 U ?_) U
   first|refine jcd U (fun c39=> ?_) (fun c39=> ?_)|refine jcn U (fun c39=> ?_) (fun c39=> ?_)
   ·obtain⟨x,hx⟩:=Option.isSome_iff_exists.1 c39;refine rCt 8 U (Bs U (Ol U) ?_);exact⟨_,⟨(x,kn,v,ns),⟨by show resOf [((look kn (a,b)).map encNI).getD _]=_;rw[hx];rfl,by rw[seF,if_neg h0,if_neg h01,hx],hst⟩,rfl⟩,sbt⟩
   ·have hl:look kn (a,b)=none:=by simpa using c39
    have hm:min (lvl ns a) (lvl ns b)<2*D.bs.length:=by
     refine Nat.lt_of_le_of_ne hlN fun e9=> ?_
     have a1:=(hw.end ha).1 (by have:=hw.lvN ha;omega);have a2:=(hw.end hb).1 (by have:=hw.lvN hb;omega);omega
    have hla:lv<=lvl ns a:=by omega
    have hlb:lv<=lvl ns b:=by omega
    have hev:lv % 2=0:=by omega
    have hN:lv+1<2*D.bs.length:=by omega
    refine rCt 3 U (Bf 20 (plq19 [(19,false)]) _ mixd qkr sb0 ?_ B1);refine o_y U (Om U isAgg68 (by first|exact c_o|exact Ae (Fnd.mono hO.f3 (List.Sublist.trans hR sbt)) 0 _ U)) ?_ U Ad;refine rPt 2 U ?_;refine o_y U (Om U isAgg149 qco) ?_ U Ad;refine rPt 1 U (o_y U (Oo U U runUnderlying149 sizeOf188 qom (by first|exact rfl|exact(E4 (w0:=w0) hst).b (i:=a) ha)) ?_ U Ad);refine rPt 1 U ?_;refine o_y U (Om U isAgg3 (by first|exact c_o|exact((E4 hst).mono (by repeat (first|exact Fv|exact sb0|refine List.Sublist.cons _ ?_))).cs (i:=a) qom 0 _ U)) ?_ U Ad;refine o_y U (Om U isAgg68 (by first|exact c_o|exact Ae (Fnd.mono hO.f3 (List.Sublist.trans hR sbt)) 0 _ U)) ?_ U Ad;refine rPt 2 U ?_;refine o_y U (Om U isAgg149 qco) ?_ U Ad;refine rPt 1 U (o_y U (Oo U U runUnderlying149 sizeOf188 qom (by first|exact rfl|exact(E4 (w0:=w0) hst).b (i:=a) ha)) ?_ U Ad);refine rPt 1 U ?_;refine o_y U (Om U isAgg3 (by first|exact c_o|exact((E4 hst).mono (by repeat (first|exact Fv|exact sb0|refine List.Sublist.cons _ ?_))).cs (i:=b) qom 0 _ U)) ?_ U Ad;refine o_y U (yl_minN (T U) (T U)) (o_y U (yl_quo2 (T U) Al (Nat.le_trans (Nat.min_le_left _ _) (Nat.le_trans (hw.lvN ha) qom))) ?_ U Ad) U Ad;refine o_y U (show _ from hlv ▸ yl_mul2 (T U) Al (Nat.le_trans (Nat.div_le_self _ _) (Nat.le_trans (Nat.min_le_left _ _) (Nat.le_trans (hw.lvN ha) qom)))) ?_ U Ad;refine o_e U (Ag zeroValue3 cs_) ?_ U Ad;rintro _ _ ⟨n11,rfl,rfl⟩;refine⟨sbt,(Av U ?_)⟩;refine Bo (Oq U U sizeOf3) U Ad ?_;rintro _ _ ⟨rfl,rfl⟩;refine kO tb 2 [0,1,2,3,4,8,11] rfl U (rGt 2 U (y_ (Bn (.cons (T U) (.cons (T U) .nil))) (rOt 5 U (e_ (Ag zeroValue160 cs_) ?_ U)) U));rintro _ _ ⟨n13,rfl,rfl⟩;refine rOt 9 U ?_;refine A8 (X:=Nat × Kn × Sv × Ns × (Nat->Nat)) (V:=fun ⟨i,kni,vi,nsi,g⟩=>[(61,Vi (i:Nat))]) (C:=[(0,_),(1,_),(2,_),(3,_),(4,_),(8,_),(11,_),(12,_),(13,_)]) (G:=fun ⟨i,kni,vi,nsi,g⟩=>(n13,Cl [Vi (g 0:Nat),Vi (g 1:Nat)] 160)::(n11,Cl [Vi (lv:Nat)] 3)::(n8,Cl [Vi (a:Nat),Vi (b:Nat)] 190)::(A.mp,mapO encPr encNI kni)::(SM D vi nsi++R)) (φ:=fun ⟨i,kni,vi,nsi,g⟩=>i<=2/\StOk D vi nsi/\OutS D.most.toNat (seF D.most.toNat k) kn ns a b lv i g kni nsi) (μ:=fun ⟨i,kni,vi,nsi,g⟩=>2 - i) (x0:=(0,kn,v,ns,fun _=>0)) ?_ (kg U) qkg sb0 ?_
    ·exact⟨by omega,hst,out_0⟩
    rintro⟨i,kni,vi,nsi,g⟩ ⟨hi2,hsti,hos⟩;obtain⟨gi,ki⟩:=out_gr (Jy hNe k) hw hk ha hb hla hlb hev hN hi2 hos;have hai:=Nat.lt_of_lt_of_le ha gi.le;have hbi:=Nat.lt_of_lt_of_le hb gi.le;have hlai:lv<=lvl nsi a:=by rw[gi.lvl ha];exact hla
    have hlbi:lv<=lvl nsi b:=by rw[gi.lvl hb];exact hlb
    refine rDt 6 U ?_;refine jcd U (fun c62=> ?_) (fun c62=> ?_)
    ·refine rCt 12 U (e_ (Ag zeroValue160 cs_) ?_ U);rintro _ _ ⟨n15,rfl,rfl⟩;refine rOt 9 U ?_;refine A8 (X:=Nat × Kn × Sv × Ns × (Nat->Nat)) (V:=fun ⟨j,knj,vj,nsj,gj⟩=>[(64,Vi (j:Nat))]) (C:=[(0,_),(1,_),(2,_),(3,_),(4,_),(8,_),(11,_),(12,_),(13,_),(14,_),(15,_),(61,_)]) (G:=fun ⟨j,knj,vj,nsj,gj⟩=>(n15,Cl [Vi (gj 0:Nat),Vi (gj 1:Nat)] 160)::(n13,Cl [Vi (g 0:Nat),Vi (g 1:Nat)] 160)::(n11,Cl [Vi (lv:Nat)] 3)::(n8,Cl [Vi (a:Nat),Vi (b:Nat)] 190)::(A.mp,mapO encPr encNI knj)::(SM D vj nsj++R)) (φ:=fun ⟨j,knj,vj,nsj,gj⟩=>j<=2/\StOk D vj nsj/\InS D.most.toNat (seF D.most.toNat k) kni nsi a b lv (is1 i) j gj knj nsj) (μ:=fun ⟨j,knj,vj,nsj,gj⟩=>2 - j) (x0:=(0,kni,vi,nsi,fun _=>0)) ?_ (kg U) qkg sb0 ?_
     ·exact⟨by omega,hsti,in_0⟩
     rintro⟨j,knj,vj,nsj,gj⟩ ⟨hj2,hstj,his⟩;obtain⟨gjj,kj⟩:=in_gr (Jy hNe k) gi.w ki hai hbi hlai hlbi hev hN hj2 his;have haj:=Nat.lt_of_lt_of_le hai gjj.le;have hbj:=Nat.lt_of_lt_of_le hbi gjj.le;have hlaj:lv<=lvl nsj a:=by rw[gjj.lvl hai];exact hlai
     have hlbj:lv<=lvl nsj b:=by rw[gjj.lvl hbi];exact hlbi
     have wj:=gjj.w;have u1:=Ja wj haj hlaj hN (is1 i) false;have u2:=Ja wj hbj hlbj hN false (is1 j);refine rDt 6 U ?_;refine jcd U (fun c65=> ?_) (fun c65=> ?_)
     ·refine rCt 10 U (Bf 24 (plq6 [(7,true),(8,true),(9,true),(12,true),(13,true),(14,true),(15,true),(17,true),(18,true),(19,true),(6,false),(10,false),(11,false),(16,false),(20,false),(21,false),(22,false),(23,true)]) R mixd qkr sbt ?_ B1);refine rPt 1 U (o_y U (Om U isAgg68 (by first|exact c_o|exact Ae (Fnd.mono hO.f3 (List.Sublist.trans hR sbt)) 0 _ U)) ?_ U Ad);refine o_y U (Om U isAgg139 (by first|exact c_o|exact Ae (Fnd.mono hO.f4 (List.Sublist.trans hR sbt)) 0 _ U)) ?_ U Ad;refine rPt 6 U (o_y U (Om U isAgg139 (by first|exact c_o|exact Ae (Fnd.mono hO.f4 (List.Sublist.trans hR sbt)) 0 _ U)) ?_ U Ad);refine rPt 6 U ?_;refine o_e U (B8 (T U) (.cons (T U) (.cons (T U) (.cons Al .nil))) call150 (Og (D:=D) (by repeat (first|exact Fv|exact sb0|refine List.Sublist.cons _ ?_)) hstj (Fnd.mono hO.f3 (List.Sublist.trans hR sbt)) fndq qom a haj (is1 i) false (F9 qom) U)) ?_ U Ad;rintro _ _ ⟨rfl,rfl⟩;refine⟨sbt,?_⟩;refine o_e U (B8 (T U) (.cons (T U) (.cons Al (.cons (T U) .nil))) call150 (Og (D:=D) (by repeat (first|exact Fv|exact sb0|refine List.Sublist.cons _ ?_)) hstj (Fnd.mono hO.f3 (List.Sublist.trans hR sbt)) fndq qom b hbj false (is1 j) U (F9 qom))) ?_ U Ad;rintro _ _ ⟨rfl,rfl⟩;refine⟨sbt,?_⟩;refine o_p rfl (Cz (T rfl) (.cons (T rfl) (.cons (T rfl) .nil)) call149 (A5 (M:=(A.mp,mapO encPr encNI knj)::SM D vj nsj) (ih (R:=(n15,Cl [Vi (gj 0:Nat),Vi (gj 1:Nat)] 160)::(n13,Cl [Vi (g 0:Nat),Vi (g 1:Nat)] 160)::(n11,Cl [Vi (lv:Nat)] 3)::(n8,Cl [Vi (a:Nat),Vi (b:Nat)] 190)::R) (List.Sublist.trans hR sbt) hstj kj (Di wj haj _ _) (Di wj hbj _ _) qom) locqc)) ?_ (by rintro _ ⟨⟨kn1,v1,ns1⟩,⟨e1,g1,hst1⟩,rfl⟩;(repeat (first|refine By ?_|refine Bw ?_));exact Bi ⟨(kn1,v1,ns1),⟨N1 h0 h01 hl hlv qom hos (in_n qom his (sq_n1 e1)),(gi.trans gjj).trans g1,hst1⟩,rfl⟩ sbt) rfl Ad;rintro _ _ ⟨⟨p1,kn1,v1,ns1⟩,⟨rfl,e1,hst1⟩,rfl⟩
      dsimp only at e1 hst1
      obtain⟨g1,k1,i1⟩:=Jy hNe k _ _ _ _ _ _ _ wj kj (Di wj haj _ _) (Di wj hbj _ _) e1;have ha1:=Nat.lt_of_lt_of_le haj g1.le;have hb1:=Nat.lt_of_lt_of_le hbj g1.le;have u3:=Ja g1.w ha1 (by rw[g1.lvl haj];exact hlaj) hN (is1 i) true;have u4:=Ja g1.w hb1 (by rw[g1.lvl hbj];exact hlbj) hN true (is1 j);refine⟨sbt,?_⟩;refine o_e U (B8 (T U) (.cons (T U) (.cons (T U) (.cons Al .nil))) call150 (Og (D:=D) (by repeat (first|exact Fv|exact sb0|refine List.Sublist.cons _ ?_)) hst1 (Fnd.mono hO.f3 (List.Sublist.trans hR sbt)) fndq qom a ha1 (is1 i) true (F9 qom) U)) ?_ U Ad;rintro _ _ ⟨rfl,rfl⟩;refine⟨sbt,?_⟩;refine o_e U (B8 (T U) (.cons (T U) (.cons Al (.cons (T U) .nil))) call150 (Og (D:=D) (by repeat (first|exact Fv|exact sb0|refine List.Sublist.cons _ ?_)) hst1 (Fnd.mono hO.f3 (List.Sublist.trans hR sbt)) fndq qom b hb1 true (is1 j) U (F9 qom))) ?_ U Ad;rintro _ _ ⟨rfl,rfl⟩;refine⟨sbt,?_⟩;refine o_p rfl (Cz (T rfl) (.cons (T rfl) (.cons (T rfl) .nil)) call149 (A5 (M:=(A.mp,mapO encPr encNI kn1)::SM D v1 ns1) (ih (R:=(n15,Cl [Vi (gj 0:Nat),Vi (gj 1:Nat)] 160)::(n13,Cl [Vi (g 0:Nat),Vi (g 1:Nat)] 160)::(n11,Cl [Vi (lv:Nat)] 3)::(n8,Cl [Vi (a:Nat),Vi (b:Nat)] 190)::R) (List.Sublist.trans hR sbt) hst1 k1 (Di g1.w ha1 _ _) (Di g1.w hb1 _ _) qom) locqc)) ?_ (by rintro _ ⟨⟨kn2,v2,ns2⟩,⟨e2,g2,hst2⟩,rfl⟩;(repeat (first|refine By ?_|refine Bw ?_));exact Bi ⟨(kn2,v2,ns2),⟨N1 h0 h01 hl hlv qom hos (in_n qom his (sq_n2 e1 e2)),((gi.trans gjj).trans g1).trans g2,hst2⟩,rfl⟩ sbt) rfl Ad;rintro _ _ ⟨⟨p2,kn2,v2,ns2⟩,⟨rfl,e2,hst2⟩,rfl⟩
      dsimp only at e2 hst2
      obtain⟨g2,k2,i2⟩:=Jy hNe k _ _ _ _ _ _ _ g1.w k1 (Di g1.w ha1 _ _) (Di g1.w hb1 _ _) e2;have j1:=i1.gr g1.w g2;refine⟨sbt,?_⟩;refine o_p rfl (As (evq3 rfl rfl rfl) call94 (A5 (M:=SM D v2 ns2) (Nv hst2 _ p1 p2 j1.lt i2.lt) locqc)) ?_ (by rintro _ ⟨⟨v3,ns3⟩,⟨e3,g3,hst3⟩,rfl⟩;(repeat (first|refine By ?_|refine Bw ?_));exact Bi ⟨(kn2,v3,ns3),⟨N1 h0 h01 hl hlv qom hos (in_n qom his (sq_n3 e1 e2 e3)),(((gi.trans gjj).trans g1).trans g2).trans g3,hst3⟩,rfl⟩ sbt) rfl Ad;rintro _ _ ⟨⟨r3,v3,ns3⟩,⟨rfl,e3,hst3⟩,rfl⟩
      dsimp only at e3 hst3
      refine⟨sbt,(o_y U (Bm (T U) (T U) runUnderlying160 sizeOf3 qom) ?_ U Ad)⟩;refine Av U (e_ (Ct (T U) (T U) U sizeOf3 (hs:=set_g qom)) ?_ U);rintro _ _ ⟨rfl,rfl⟩;refine kO tb 3 [0,1,2,3,4,8,11,12,13,14,15,61,64] rfl U (rGt 1 U (y_ (Cw (c:=1) (T U) Al qom) ?_ U));refine rOt 2 U ?_;refine Au ((j+1,kn2,v3,ns3,upG gj j r3)) ?_ ?_ qkg (kg U) ?_
      ·exact⟨by omega,hst3,in_y qom his (sq_y e1 e2 e3)⟩
      ·first|omega|(simp only[];omega)
      ·exact sbt
     ·obtain rfl:j=2:=by omega
      obtain⟨l1,l2,l3,l4⟩:=in_lv (Jy hNe k) gi.w ki hai hbi hlai hlbi hev hN his;refine rCt 2 U (An (rXt 4 U (y_ (Om U isAgg68 (by first|exact c_o|exact Ae (Fnd.mono hO.f3 (List.Sublist.trans hR sbt)) 0 _ U)) ?_ U)));refine y_ (Om U isAgg3 qco) ?_ U;refine y_ (Cw (c:=1) (T U) Al qom) ?_ U;refine y_ (Bm (T U) Al runUnderlying160 sizeOf3 qom) ?_ U;refine y_ (Om U isAgg3 qco) ?_ U;refine y_ (Bm (T U) Al runUnderlying160 sizeOf3 qom) ?_ U;refine y_ (Om U isAgg3 qco) ?_ U;refine p_ (As (evq4 rfl rfl rfl rfl) call143 (A5 (M:=SM D vj nsj) (Hk hstj _ (lv+1) (gj 0) (gj 1) l1 l2 hN l3 l4) locqc)) ?_ (by rintro _ ⟨⟨v4,ns4⟩,⟨e4,g4,hst4⟩,rfl⟩;(repeat (first|refine By ?_|refine Bw ?_));exact Bi ⟨(knj,v4,ns4),⟨N1 h0 h01 hl hlv qom hos (by rw[in_end his,e4];rfl),(gi.trans gjj).trans g4,hst4⟩,rfl⟩ sbt) rfl;rintro _ _ ⟨⟨r4,v4,ns4⟩,⟨rfl,e4,hst4⟩,rfl⟩
      dsimp only at e4 hst4
      refine y_ (Bm (T U) (T U) runUnderlying160 sizeOf3 qom) ?_ U;refine e_ (Ct (T U) (T U) U sizeOf3 (hs:=set_g qom)) ?_ U;rintro _ _ ⟨rfl,rfl⟩;refine rOt 4 U (y_ (Cw (c:=1) (T U) Al qom) ?_ U);refine rOt 2 U ?_;refine Au ((i+1,knj,v4,ns4,upG g i r4)) ?_ ?_ qkg (kg U) ?_
      ·exact⟨by omega,hst4,out_y qom hos (by rw[in_end his,e4];rfl)⟩
      ·first|omega|(simp only[];omega)
      ·exact sbt
    ·obtain rfl:i=2:=by omega
     obtain⟨o1,o2,o3,o4⟩:=out_lv (Jy hNe k) hw hk ha hb hla hlb hev hN hos;refine rCt 2 U (An (rXt 4 U (y_ (Om U isAgg68 (by first|exact c_o|exact Ae (Fnd.mono hO.f3 (List.Sublist.trans hR sbt)) 0 _ U)) ?_ U)));refine y_ (Om U isAgg3 qco) ?_ U;refine y_ (Bm (T U) Al runUnderlying160 sizeOf3 qom) ?_ U;refine y_ (Om U isAgg3 qco) ?_ U;refine y_ (Bm (T U) Al runUnderlying160 sizeOf3 qom) ?_ U;refine y_ (Om U isAgg3 qco) ?_ U;refine p_ (As (evq4 rfl rfl rfl rfl) call143 (A5 (M:=SM D vi nsi) (Hk hsti _ lv (g 0) (g 1) o1 o2 qom o3 o4) locqc)) ?_ (by rintro _ ⟨⟨v5,ns5⟩,⟨e5,g5,hst5⟩,rfl⟩;(repeat (first|refine By ?_|refine Bw ?_));exact Bi ⟨(kni,v5,ns5),⟨by rw[out_end h0 h01 hl hlv hos,e5];rfl,gi.trans g5,hst5⟩,rfl⟩ sbt) rfl;rintro _ _ ⟨⟨r5,v5,ns5⟩,⟨rfl,e5,hst5⟩,rfl⟩
     dsimp only at e5 hst5
     refine rOt 5 U (y_ (Om U isAgg205 (by first|exact c_o|exact Ae (Fnd.mono hO.f2 (List.Sublist.trans hR sbt)) 0 _ U)) ?_ U);refine y_ (On U isAgg190 sizeOf190 U qcs) ?_ U;refine rOt 1 U (e_ (Cq (l:=kni) (a,b) r5 keyPr (T U) (T U) U (T U) U runUnderlying205) ?_ U);rintro _ _ ⟨rfl,rfl⟩;refine rOt 9 U (Bs U (Ol U) ?_);exact⟨_,⟨(r5,upsert kni (a,b) r5,v5,ns5),⟨rfl,by rw[out_end h0 h01 hl hlv hos,e5];rfl,hst5⟩,rfl⟩,sbt⟩
theorem se_s {D:Sd}{A:Sq}{w0:World}(hO:SqOk D A)(k:Nat):SeS D A k w0:=by
 induction k with
 |zero=>exact se_0
 |succ k ih=>
  intro R v ns kn a b hR hst hk ha hb hf;exact se_step hO ih hR hst hk ha hb hf
end Go.Proofs.YtkgfmjanajdibaaGreat
