/-
  A part of what LawG rests on: the logic, walks and plain laws. No condition.
-/
import Derived.Test.YtkgfmjanajdibaaGreatJg4
import Derived.RangeFuncNested
namespace Go.Proofs.YtkgfmjanajdibaaGreat
open _root_.Go.Proofs.Tryz
open Go.RowKit
set_option linter.unusedVariables false
set_option linter.unusedSimpArgs false
set_option linter.unusedSectionVars false
set_option maxRecDepth 100000
variable {w0:World}{H:Mm}
def setsF (v:Fd->Nat) (F:List Fd) (h:Hd):Hd:=F.foldl (fun h f=>fset f h (v f)) h
theorem Gf (v:Fd->Nat):∀ (F:List Fd) {h:Hd},HdOk h->HdOk (setsF v F h)
 |[],_,h=>h
 |f::F,h,_=>Gf v F (Bz f h _)
theorem sets_keep {v:Fd->Nat}:∀ {F:List Fd} {h:Hd} {f:Fd},FdOk f->(∀ g∈F,f.pos+f.w<=g.pos\/g.pos+g.w<=f.pos)->fget f (setsF v F h)=fget f h
 |[],_,_,_,_=>rfl
 |g::F,h,f,hf,d=>by
  show fget f (setsF v F (fset g h (v g)))=_;rw[sets_keep hf fun k hk=>d k (by simp[hk]),Ge hf (d g (by simp))]
theorem Ii {v:Fd->Nat}:∀ {F:List Fd} {h:Hd},(∀ f∈F,FdOk f)->F.Pairwise (fun f g=>f.pos+f.w<=g.pos\/g.pos+g.w<=f.pos)->(∀ f∈F,v f<2 ^ f.w)->∀ f∈F,fget f (setsF v F h)=v f
 |[],_,_,_,_=>fun f hf=>by cases hf
 |g::F,h,h1,h2,h3=>fun f hf=>by
  obtain⟨p1,p2⟩:=List.pairwise_cons.1 h2;show fget f (setsF v F (fset g h (v g)))=_;rcases List.mem_cons.1 hf with rfl|hf
  ·rw[sets_keep (h1 f (by simp)) fun k hk=>p1 k hk,Dz (h1 f (by simp)) (h3 f (by simp))]
  ·exact Ii (fun k hk=>h1 k (by simp[hk])) p2 (fun k hk=>h3 k (by simp[hk])) f hf
theorem sets_out {v:Fd->Nat}{b:Nat}(hb:b<160):∀ {F:List Fd} {h:Hd},(∀ f∈F,¬ (f.pos<=b/\b<f.pos+f.w))->hbit (setsF v F h) b=hbit h b
 |[],_,_=>rfl
 |g::F,h,d=>by
  show hbit (setsF v F (fset g h (v g))) b=_;rw[sets_out hb fun k hk=>d k (by simp[hk])];exact(Ka hb _ _ (d g (by simp))).symm
theorem sets_snoc (v:Fd->Nat)(F:List Fd)(f:Fd)(h:Hd):setsF v (F++[f]) h=fset f (setsF v F h) (v f):=by unfold setsF;rw[List.foldl_append];rfl
structure FsL (F:List Fd):Prop where
 ok:∀ f∈F,FdOk f
 pw:F.Pairwise fun f g=>f.pos+f.w<=g.pos\/g.pos+g.w<=f.pos
theorem FsL.fs {F:List Fd}(h:FsL F):FsOk F:=⟨h.ok,pw_or h.pw⟩
def InB (F:List Fd) (a:Hd × Hd) (x:Hd):Prop:=∀ f∈F,fget f a.1<=fget f x/\fget f x<=fget f a.2
def topV (cuts:Fd->List Nat) (lo:Hd) (f:Fd):Nat:=(cuts f).foldr (fun c n=>if c>fget f lo then c - 1 else n) (2 ^ f.w - 1)
def topF (cuts:Fd->List Nat) (F:List Fd) (lo:Hd):Hd:=setsF (topV cuts lo) F lo
def imgF (F:List Fd) (lo hi g:Hd):Hd × Hd:=(g,setsF (fun f=>if fget f g=fget f lo then fget f hi else fget f g) F g)
def cmV (a b:Hd × Hd) (f:Fd):Nat:=max (fget f a.1) (fget f b.1)
def cmB (a b:Hd × Hd) (f:Fd):Bool:=decide (cmV a b f<=min (fget f a.2) (fget f b.2))
def cmF (F:List Fd) (a b:Hd × Hd):Option Hd:=if F.all (cmB a b) then some (setsF (cmV a b) F hd0) else none
section
variable {F:List Fd} {K:Fd->Nat->Prop} {cuts:Fd->List Nat} {h g lo x y:Hd} {t:Int} {bs:List Nat} {p q:Po} {a b:Hd × Hd}
theorem cm_some (hF:FsL F)(e:cmF F a b=some x):HdOk x/\InB F a x/\InB F b x/\∀ y,HdOk y->InB F a y->InB F b y->x=y\/hLt x y:=by
 unfold cmF at e
 split at e
 ·rename_i hall;obtain rfl:=Option.some.inj e;have hg:=Ii (v:=cmV a b) (h:=hd0) hF.ok hF.pw fun f hf=>by
   show max _ _<_;have:=Dk f a.1;have:=Dk f b.1;omega
  have hc:∀ f∈F,cmV a b f<=min (fget f a.2) (fget f b.2):=fun f hf=>of_decide_eq_true (List.all_eq_true.1 hall f hf)
  refine⟨Gf _ _ Ay,fun f hf=> ?_,fun f hf=> ?_,fun y hy h1 h2=> ?_⟩
  ·rw[hg f hf];have:=hc f hf;unfold cmV at this ⊢;omega
  ·rw[hg f hf];have:=hc f hf;unfold cmV at this ⊢;omega
  ·refine hd_le (F:=F) (Gf _ _ Ay) hy (fun f hf=> ?_) fun b hb hn=>by rw[sets_out hb hn];exact He b
   rw[hg f hf];have:=h1 f hf;have:=h2 f hf;unfold cmV;omega
 ·cases e
theorem cm_none (e:cmF F a b=none)(h1:InB F a x)(h2:InB F b x):False:=by
 unfold cmF at e
 split at e
 ·cases e
 ·rename_i hall;refine hall (List.all_eq_true.2 fun f hf=>decide_eq_true ?_);have:=h1 f hf;have:=h2 f hf;unfold cmV;omega
theorem top_val {v N:Nat}:∀ {c:List Nat},c.Pairwise (· < ·)->v<=N->(∀ d∈c,d<=N)->v<=c.foldr (fun c n=>if c>v then c - 1 else n) N/\c.foldr (fun c n=>if c>v then c - 1 else n) N<=N/\(∀ d∈c,v<d->c.foldr (fun c n=>if c>v then c - 1 else n) N<d)/\(c.foldr (fun c n=>if c>v then c - 1 else n) N=N\/c.foldr (fun c n=>if c>v then c - 1 else n) N+1∈c)
 |[],_,h,_=>⟨h,Nat.le_refl _,fun d hd=>(by cases hd), .inl rfl⟩
 |e::c,hs,h,hN=>by
  obtain⟨p1,p2⟩:=List.pairwise_cons.1 hs;obtain⟨i1,i2,i3,i4⟩:=top_val (v:=v) (N:=N) p2 h fun d hd=>hN d (by simp[hd])
  rw[List.foldr_cons]
  by_cases he:e>v
  ·rw[if_pos he];have:=hN e (by simp);refine⟨by omega,by omega,fun d hd hv=> ?_, .inr ?_⟩
   ·rcases List.mem_cons.1 hd with rfl|hd
    ·omega
    ·have:=p1 d hd;omega
   ·rw[show e - 1+1=e by omega];simp
  ·rw[if_neg he];refine⟨i1,i2,fun d hd hv=> ?_,?_⟩
   ·rcases List.mem_cons.1 hd with rfl|hd
    ·exact absurd hv he
    ·exact i3 d hd hv
   ·rcases i4 with i4|i4
    ·exact .inl i4
    ·exact .inr (List.mem_cons.2 (.inr i4))
structure CutsOk (F:List Fd) (K:Fd->Nat->Prop) (cuts:Fd->List Nat):Prop where
 z:∀ f∈F,0∈cuts f
 c:∀ f∈F,∀ c,c<2 ^ f.w->(c∈cuts f↔c=0\/K f c)
 up:∀ f∈F,(cuts f).Pairwise (· < ·)
 lt:∀ f∈F,∀ c∈cuts f,c<2 ^ f.w
theorem Ht (hF:FsL F)(hC:CutsOk F K cuts)(f:Fd)(hf:f∈F):fget f lo<=topV cuts lo f/\topV cuts lo f<2 ^ f.w/\(∀ c,c∈cuts f->fget f lo<c->topV cuts lo f<c)/\(topV cuts lo f+1=2 ^ f.w\/topV cuts lo f+1∈cuts f):=by
 have h1:=Dk f lo;obtain⟨a,b,c,d⟩:=top_val (v:=fget f lo) (N:=2 ^ f.w - 1) (hC.up f hf) qom fun d hd=>by have:=hC.lt f hf d hd;omega
 unfold topV;exact⟨a,by omega,c,d.imp (fun e=>by omega) id⟩
theorem top_get (hF:FsL F)(hC:CutsOk F K cuts)(f:Fd)(hf:f∈F):fget f (topF cuts F lo)=topV cuts lo f:=Ii hF.ok hF.pw (fun f hf=>(Ht hF hC f hf).2.1) f hf
theorem top_in (hF:FsL F)(hC:CutsOk F K cuts){f:Fd}(hf:f∈F){n:Nat}(h1:fget f lo<=n)(h2:n<=topV cuts lo f):∀ c,K f c->(c<=fget f lo↔c<=n):=fun c hc=>by
 refine⟨fun h=>Nat.le_trans h h1,fun h=> ?_⟩;obtain⟨-,t2,t3, -⟩:=Ht (lo:=lo) hF hC f hf;have hl:c<2 ^ f.w:=Nat.lt_of_le_of_lt (Nat.le_trans h h2) t2;exact Nat.le_of_not_lt fun e=>by have:=t3 c ((hC.c f hf c hl).2 (.inr hc)) e;omega
theorem top_le (hF:FsL F)(hC:CutsOk F K cuts){f:Fd}(hf:f∈F)(hK:∀ c∈cuts f,c<=fget f lo↔c<=fget f h):fget f h<=topV cuts lo f:=by
 obtain⟨t1,t2, -,t4⟩:=Ht (lo:=lo) hF hC f hf;have:=Dk f h;rcases t4 with t4|t4
 ·omega
 ·refine Nat.le_of_not_lt fun e=> ?_
  have:=(hK _ t4).2 e;omega
theorem img_in (hF:FsL F)(hi:Hd):InB F (imgF F lo hi g) x↔∀ f∈F,fget f g<=fget f x/\fget f x<=(if fget f g=fget f lo then fget f hi else fget f g):=by
 have e:=Ii (v:=fun f=>if fget f g=fget f lo then fget f hi else fget f g) (h:=g) hF.ok hF.pw fun f hf=>by
  show (if _ then _ else _)<_
  split
  ·exact Dk _ _
  ·exact Dk _ _
 unfold InB imgF;exact⟨fun h f hf=>by have:=h f hf;rwa [e f hf] at this,fun h f hf=>by rw[e f hf];exact h f hf⟩
theorem img_to (hF:FsL F)(hC:CutsOk F K cuts)(hp:CutIn F K bs p)(hlo:HdOk lo)(hx:HdOk x)(d:den t p lo g)(hi:InB F (imgF F lo (topF cuts F lo) g) x):∃ h,HdOk h/\den t p h x:=by
 rw[img_in hF] at hi;have hv:∀ f∈F,fget f lo<=(if fget f g=fget f lo then fget f x else fget f lo)/\(if fget f g=fget f lo then fget f x else fget f lo)<=topV cuts lo f:=fun f hf=>by
  have h1:=hi f hf;have h2:=(Ht (lo:=lo) hF hC f hf).1;rw[top_get hF hC f hf] at h1
  split
  ·rename_i e;rw[if_pos e] at h1;omega
  ·exact⟨Nat.le_refl _,h2⟩
 obtain⟨w,hw⟩:∃ w:Fd->Nat,∀ f,w f=if fget f g=fget f lo then fget f x else fget f lo:=⟨_,fun _=>rfl⟩
 have hv:∀ f∈F,fget f lo<=w f/\w f<=topV cuts lo f:=fun f hf=>by rw[hw];exact hv f hf
 have hg:=Ii (v:=w) (h:=x) hF.ok hF.pw fun f hf=>Nat.lt_of_le_of_lt (hv f hf).2 (Ht hF hC f hf).2.1
 have hok:=Gf w F hx;have hkb:∀ b,b<160->(∀ f∈F,¬ (f.pos<=b/\b<f.pos+f.w))->hbit (setsF w F x) b=hbit x b:=fun b hb hn=>sets_out hb hn
 generalize setsF w F x=y at *;have s:Sm F K lo y:=fun f hf c hc=>by
  rw[hg f hf];exact top_in hF hC hf (hv f hf).1 (hv f hf).2 c hc
 obtain⟨g',d2,u⟩:=Hr hF.fs hp s d;have ok2:=(Dv hp.f hok d2).1;have e:g'=x:=hd_fields (F:=F) ok2 hx (fun f hf=>by
  have h1:=hi f hf;rw[top_get hF hC f hf] at h1;rcases u.eq f hf with ⟨e1,e2⟩|⟨e1,k1,k2⟩
  ·rw[e2,hg f hf,hw,if_pos e1]
  ·rw[<- e1]
   by_cases e:fget f g=fget f lo
   ·rw[if_pos e] at h1;have a2:=top_in (lo:=lo) hF hC hf qom h1.2 _ k2;omega
   ·rw[if_neg e] at h1;omega) fun b hb hn=>by rw[<- (u.out b hb hn).2,hkb b hb hn]
 exact⟨y,hok,by rw[<- e];exact d2⟩
theorem img_of (hF:FsL F)(hC:CutsOk F K cuts)(hp:CutIn F K bs p)(hh:HdOk h)(d:den t p h x):∃ lo∈cornF cuts F [hd0],HdOk lo/\∃ g,den t p lo g/\InB F (imgF F lo (topF cuts F lo) g) x:=by
 obtain⟨lo,hlo,ok,s,_,hle⟩:=corn_box (K:=fun f c=>c=0\/K f c) hF.ok hF.pw hC.z (fun f hf c hc hl=>(hC.c f hf c hl).2 hc) hh;obtain⟨g,d2,u⟩:=Hr hF.fs hp (K:=K) (fun f hf c hc=>s f hf c (.inr hc)) d;refine⟨lo,hlo,ok,g,d2,(img_in hF _).2 fun f hf=> ?_⟩;have hl:fget f h<=topV cuts lo f:=top_le hF hC hf fun c hc=>(s f hf c ((hC.c f hf c (hC.lt f hf c hc)).1 hc)).symm
 have hl2:=hle f hf;rw[top_get hF hC f hf];rcases u.eq f hf with ⟨e1,e2⟩|⟨e1,_⟩
 ·rw[if_pos e2,e1,e2];omega
 ·rw[e1];refine⟨Nat.le_refl _,?_⟩
  split
  ·rename_i e;rw[e];exact(Ht hF hC f hf).1
  ·exact Nat.le_refl _
end
section
variable {bs:List Nat} {ns:Ns} {a b:Nat} {t:Int} {p q:Po} {D E:Hd->Hd->Prop} {h:Hd} {is:Bool}
def OutR (bs:List Nat) (D:Hd->Hd->Prop):Prop:=∀ {h g},HdOk h->D h g->HdOk g/\Out bs h g
theorem same_ans (hb:BsOk bs)(hw:Wf (2*bs.length) ns)(la:a<ns.length)(lb:b<ns.length)(ra:Rep bs ns a D)(rb:Rep bs ns b E)(hD:OutR bs D)(hE:OutR bs E):Ans (fun h=>∀ g,D h g↔E h g) (dfH ns bs a b) (!decide (a≠b)):=by
 by_cases e:a=b
 ·subst e;rw[show (!decide (a≠a))=true by simp];refine .inl ⟨rfl,if_pos U,fun h hh g=> ?_⟩
  constructor
  ·intro d;obtain⟨h1,h2⟩:=hD hh d;exact(rb h g hh h1 h2).1 ((ra h g hh h1 h2).2 d)
  ·intro d;obtain⟨h1,h2⟩:=hE hh d;exact(ra h g hh h1 h2).1 ((rb h g hh h1 h2).2 d)
 ·rw[show (!decide (a≠b))=false by simp[e]];have hd:=differ_ok hb hw la lb e ra rb (fun h1 h2=>hD h1 h2) (fun h1 h2=>hE h1 h2);rw[show dfH ns bs a b=dhF ns bs a b from if_neg e];exact .inr ⟨rfl,dhF_ok _ _ _ _,fun k=>by obtain⟨g,hg⟩:=hd.1;exact hg (k g),hd.2⟩
theorem den_outR (hp:p.Fit bs):OutR bs (den t p):=fun h1 h2=>Dv hp h1 h2
theorem ask_eq (A:Ans (fun h=>∀ g,den t p h g↔den t q h g) h is):Ans (AskP t 1 p q) h is:=A.iff fun g hg=>by simp[AskP]
theorem ask_inc (A:Ans (fun h=>∀ g,(den t p h g\/den t q h g)↔den t p h g) h is):Ans (AskP t 2 p q) h is:=A.iff fun g hg=>by
 simp only[AskP,if_neg (by decide: ¬ 2=1),if_true];exact⟨fun k x d=>(k x).1 (.inr d),fun k x=>⟨fun d=>d.elim id (k x), .inl⟩⟩
theorem ask_none (A:Ans (fun h=>∀ g,den t p h g↔den t (.fil .fls) h g) h is):Ans (AskP t 3 p q) h is:=A.iff fun g hg=>by
 simp only[AskP,if_neg (by decide: ¬ 3=1),if_neg (by decide: ¬ 3=2),if_true];exact⟨fun k x d=>(by have:=((k x).1 d).2;cases this),fun k x=>⟨fun d=>absurd d (k x),fun d=>(by have:=d.2;cases this)⟩⟩
theorem ask_tot (A:Ans (fun h=>∀ g,(g=h/\∃ f,den t p h f)↔den t (.fil .tru) h g) h is):Ans (AskP t 4 p q) h is:=A.iff fun g hg=>by
 simp only[AskP,if_neg (by decide: ¬ 4=1),if_neg (by decide: ¬ 4=2),if_neg (by decide: ¬ 4=3),if_true];exact⟨fun k=>((k g).2 ⟨rfl,rfl⟩).2,fun k x=>⟨fun d=>⟨d.1,rfl⟩,fun d=>⟨d.1,k⟩⟩⟩
theorem ask_apart (A:Ans (fun h=>∀ g,(∃ m,(m=h/\∃ f,den t p h f)/\(g=m/\∃ f,den t q m f))↔den t (.fil .fls) h g) h is):Ans (AskP t 6 p q) h is:=A.iff fun g hg=>by
 simp only[AskP,if_neg (by decide: ¬ 6=1),if_neg (by decide: ¬ 6=2),if_neg (by decide: ¬ 6=3),if_neg (by decide: ¬ 6=4),if_neg (by decide: ¬ 6=5)]
 constructor
 ·intro k
  by_cases e:∃ f,den t p g f
  ·refine .inr fun x d=> ?_
   have:=((k g).1 ⟨g,⟨rfl,e⟩,rfl,x,d⟩).2;cases this
  ·exact .inl fun x d=>e ⟨x,d⟩
 ·intro k x
  constructor
  ·rintro⟨m,⟨rfl,f,d⟩,rfl,f',d'⟩;rcases k with k|k
   ·exact absurd d (k f)
   ·exact absurd d' (k f')
  ·intro d;have:=d.2;cases this
def SlcP (t:Int) (p q:Po) (h:Hd):Prop:=(∀ g,¬ den t (.seq p q) h g)/\∀ g,¬ den t (.seq q p) h g
theorem ask_slc (A:Ans (fun h=>∀ g,(den t (.seq p q) h g\/den t (.seq q p) h g)↔den t (.fil .fls) h g) h is):Ans (SlcP t p q) h is:=A.iff fun g hg=>by
 constructor
 ·intro k;exact⟨fun x d=>(by have:=((k x).1 (.inl d)).2;cases this),fun x d=>(by have:=((k x).1 (.inr d)).2;cases this)⟩
 ·intro k x;exact⟨fun d=>d.elim (fun d=>absurd d (k.1 x)) fun d=>absurd d (k.2 x),fun d=>by have:=d.2;cases this⟩
def DstP (t:Int) (p q:Po) (x:Hd):Prop:= ¬ ((∃ h,HdOk h/\den t p h x)/\∃ h,HdOk h/\den t q h x)
end
def pairsF (F:List Fd) (X Y:List (Hd × Hd)):List Hd:=X.flatMap fun a=>Y.filterMap fun b=>cmF F a b
section
variable {F:List Fd} {K:Fd->Nat->Prop} {cuts:Fd->List Nat} {t:Int} {bs:List Nat} {p q:Po} {X Y:List (Hd × Hd)} {h x:Hd} {is:Bool}
structure Imgs (F:List Fd) (cuts:Fd->List Nat) (t:Int) (p:Po) (X:List (Hd × Hd)):Prop where
 so:∀ a∈X,∃ lo∈cornF cuts F [hd0],∃ g,den t p lo g/\a=imgF F lo (topF cuts F lo) g
 al:∀ lo∈cornF cuts F [hd0],∀ g,den t p lo g->imgF F lo (topF cuts F lo) g∈X
theorem imgs_to (hF:FsL F)(hC:CutsOk F K cuts)(hp:CutIn F K bs p)(hX:Imgs F cuts t p X)(hx:HdOk x){a:Hd × Hd}(ha:a∈X)(hi:InB F a x):∃ h,HdOk h/\den t p h x:=by
 obtain⟨lo,hlo,g,d,rfl⟩:=hX.so a ha;have ok:=corn_ok cuts F (out:=[hd0]) (fun y hy=>by rw[List.mem_singleton.1 hy];exact Ay) lo hlo;exact img_to hF hC hp ok hx d hi
theorem imgs_of (hF:FsL F)(hC:CutsOk F K cuts)(hp:CutIn F K bs p)(hX:Imgs F cuts t p X)(hh:HdOk h)(d:den t p h x):∃ a∈X,InB F a x:=by
 obtain⟨lo,hlo,_,g,d2,hi⟩:=img_of hF hC hp hh d;exact⟨_,hX.al lo hlo g d2,hi⟩
def LstOf (l:List Hd) (h:Hd) (is:Bool):Prop:=(is=true/\h=hd0/\l=[])\/(is=false/\h∈l/\∀ x∈l,h=x\/hLt h x)
theorem lst_ans {P:Hd->Prop}{l:List Hd}(hin:∀ x∈l,HdOk x/\¬ P x)(hout:∀ y,HdOk y->¬ P y->∃ x∈l,x=y\/hLt x y)(a:LstOf l h is):Ans P h is:=by
 rcases a with ⟨a,b,c⟩|⟨a,b,c⟩
 ·refine .inl ⟨a,b,fun g hg=>Classical.byContradiction fun k=> ?_⟩;obtain⟨x,hx,_⟩:=hout g hg k;rw[c] at hx;cases hx
 ·refine .inr ⟨a,(hin h b).1,(hin h b).2,fun g hg hl=>Classical.byContradiction fun k=> ?_⟩;obtain⟨x,hx,o⟩:=hout g hg k;have h1:=c x hx;rcases o with rfl|o
  ·rcases h1 with rfl|h1
   ·exact hl.irr
   ·exact(hl.trans h1).irr
  ·rcases h1 with rfl|h1
   ·exact(hl.trans o).irr
   ·exact((hl.trans h1).trans o).irr
theorem dst_ans (hF:FsL F)(hC:CutsOk F K cuts)(hp:CutIn F K bs p)(hq:CutIn F K bs q)(hX:Imgs F cuts t p X)(hY:Imgs F cuts t q Y)(a:LstOf (pairsF F X Y) h is):Ans (DstP t p q) h is:=by
 have hin:∀ x∈pairsF F X Y,HdOk x/\¬ DstP t p q x:=fun x hx=>by
  obtain⟨a,ha,h1⟩:=List.mem_flatMap.1 hx;obtain⟨b,hb,e⟩:=List.mem_filterMap.1 h1;obtain⟨ok,i1,i2,_⟩:=cm_some hF e;exact⟨ok,fun k=>k ⟨imgs_to hF hC hp hX ok ha i1,imgs_to hF hC hq hY ok hb i2⟩⟩
 have hout:∀ y,HdOk y->¬ DstP t p q y->∃ x∈pairsF F X Y,x=y\/hLt x y:=fun y hy k=>by
  obtain⟨⟨h1,o1,d1⟩,h2,o2,d2⟩:=Classical.not_not.1 k;obtain⟨a,ha,i1⟩:=imgs_of hF hC hp hX o1 d1;obtain⟨b,hb,i2⟩:=imgs_of hF hC hq hY o2 d2;cases e:cmF F a b with
  |none=>exact(cm_none e i1 i2).elim
  |some x=>exact⟨x,List.mem_flatMap.2 ⟨a,ha,List.mem_filterMap.2 ⟨b,hb,e⟩⟩,(cm_some hF e).2.2.2 y hy i1 i2⟩
 exact lst_ans hin hout a
end
structure MdR (p:Md):Prop where
 o1:HdOk p.1
 o2:HdOk p.2
 sub:∀ b,b<160->hbit p.2 b=true->hbit p.1 b=true
theorem MdOk.r {bs:List Nat}{k:Nat}{m:Md}(h:MdOk bs k m):MdR m:=⟨h.o1,h.o2,h.sub⟩
theorem md_cs {b o:Nat}{m:Md}(hr:MdR m)(h:Cells w0 H b o (encMdF m)):Cells w0 H b o (mdC m):=by rw[<- D7 ⟨hr.o1,hr.o2⟩];exact h
theorem srt_strict {l:List Md}(ok:MdsOk l)(nd:l.Nodup):(srtM l).Pairwise mLt:=by
 obtain⟨hp,hs⟩:=srtM_ok ok;have nd2:(srtM l).Nodup:=hp.nodup_iff.2 nd;refine List.Pairwise.imp_of_mem ?_ (hs.and nd2);intro a b ha hb h;have a1:=ok a (hp.subset ha);have b1:=ok b (hp.subset hb);exact((Lx a1.1 a1.2 b1.1 b1.2).resolve_right fun e=>e.elim h.2 h.1)
section
variable {bs:List Nat} {ns:Ns} {a:Nat} {D:Hd->Hd->Prop}
structure RlOk (L:List (Md × List Md)) (D:Hd->Hd->Prop):Prop where
 r:∀ c∈L,MdR c.1/\∀ m∈c.2,MdR m
 ne:∀ c∈L,¬ c.2.length=0
 srt:∀ c∈L,c.2.Pairwise mLt
 one:∀ h,L.Pairwise fun c d=> ¬ (matM c.1 h/\matM d.1 h)
 nd:∀ h,∀ c∈L,matM c.1 h->(c.2.map fun m=>appM m h).Nodup
 say:∀ h,HdOk h->∀ x,(∃ c∈L,matM c.1 h/\∃ m∈c.2,x=appM m h)↔D h x
theorem nodup_of_map {α β:Type}{f:α->β}{l:List α}(h:(l.map f).Nodup):l.Nodup:=by
 have h2:=List.pairwise_map.1 h;exact h2.imp fun e1 e2=>e1 (by rw[e2])
theorem rules_ok (hb:BsOk bs)(hw:Wf (2*bs.length) ns)(la:a<ns.length)(ra:Rep bs ns a D)(hD:∀ {h g},HdOk h->D h g->HdOk g/\Out bs h g):RlOk (rulesP ns bs a) D:=by
 unfold rulesP
 by_cases h0:a=0
 ·rw[if_pos h0];subst h0;refine⟨fun c hc=>(by cases hc),fun c hc=>(by cases hc),fun c hc=>(by cases hc),fun _=> .nil,fun _ c hc=>(by cases hc),fun h hh x=>⟨fun ⟨c,hc,_⟩=>(by cases hc),fun d=> ?_⟩⟩;obtain⟨h1,h2⟩:=hD hh d;have:=(ra h x hh h1 h2).2 d;rw[E6] at this;cases this
 ·rw[if_neg h0];have R:=rs_ok hb hw bs.length 0 (hd0,hd0) [pt0 a] qom (Mr 0) (fun x hx=>by
   rw[List.mem_singleton.1 hx];exact⟨Mr 0,la,Nat.zero_le _,h0⟩) (fun h _=>List.pairwise_singleton ..)
  have hmds:∀ c∈rsF ns bs bs.length 0 (hd0,hd0) [pt0 a],MdsOk c.2:=fun c hc m hm=>⟨((R.ok c hc).2.1 m hm).o1,((R.ok c hc).2.1 m hm).o2⟩
  have hnd:∀ c∈rsF ns bs bs.length 0 (hd0,hd0) [pt0 a],∀ h,matM c.1 h->(c.2.map fun m=>appM m h).Nodup:=fun c hc h hm=>R.nd c hc h hm
  have hperm:∀ c∈rsF ns bs bs.length 0 (hd0,hd0) [pt0 a],(srtM c.2).Perm c.2:=fun c hc=>(srtM_ok (hmds c hc)).1
  have hsay:∀ h f,HdOk h->HdOk f->Out bs h f->((∃ x∈[pt0 a],Say bs ns 0 h f x)↔D h f):=fun h f hh hf o=>by
   constructor
   ·rintro⟨x,hx,_,h2⟩;rw[List.mem_singleton.1 hx] at h2;exact(ra h f hh hf o).1 h2
   ·intro d;exact⟨pt0 a,by simp,fun j hj=>absurd hj (Nat.not_lt_zero _),(ra h f hh hf o).2 d⟩
  unfold rsP;refine⟨fun c hc=> ?_,fun c hc=> ?_,fun c hc=> ?_,fun h=> ?_,fun h c hc hm=> ?_,fun h hh x=> ?_⟩
  ·obtain⟨d,hd,rfl⟩:=List.mem_map.1 hc;exact⟨(R.ok d hd).1.r,fun m hm=>((R.ok d hd).2.1 m ((hperm d hd).subset hm)).r⟩
  ·obtain⟨d,hd,rfl⟩:=List.mem_map.1 hc;intro e;rw[(hperm d hd).length_eq] at e;exact(R.ok d hd).2.2 (List.eq_nil_of_length_eq_zero e)
  ·obtain⟨d,hd,rfl⟩:=List.mem_map.1 hc;obtain⟨h,_,hm⟩:=R.some d hd;exact srt_strict (hmds d hd) (nodup_of_map (hnd d hd h hm))
  ·rw[List.pairwise_map];exact R.one.imp fun e=>e h
  ·obtain⟨d,hd,rfl⟩:=List.mem_map.1 hc;exact((hperm d hd).map _).nodup_iff.2 (hnd d hd h hm)
  ·constructor
   ·rintro⟨c,hc,hm,m,hx,rfl⟩;obtain⟨d,hd,rfl⟩:=List.mem_map.1 hc;have hx2:=(hperm d hd).subset hx;obtain⟨o,hs⟩:=(R.say d hd h (appM m h) hh (Ft _ _) hm).1 (List.mem_map.2 ⟨m,hx2,rfl⟩);exact(hsay h _ hh (Ft _ _) o).1 hs
   ·intro d;obtain⟨h1,h2⟩:=hD hh d;have hs:=(hsay h x hh h1 h2).2 d;obtain⟨c,hc,hm⟩:=R.all h x hh (fun b _ e=>by rw[He] at e;cases e) hs;obtain⟨m,hx,e⟩:=List.mem_map.1 ((R.say c hc h x hh h1 hm).2 ⟨h2,hs⟩);exact⟨_,List.mem_map.2 ⟨c,hc,rfl⟩,hm,m,(hperm c hc).symm.subset hx,e.symm⟩
end
def setsO:Po->List (Fd × Nat)
 | .fil _=>[]
 | .set f n=>[(f,n)]
 | .uni a b=>setsO a++setsO b
 | .seq a b=>setsO a++setsO b
 | .star a=>setsO a
abbrev Cov (f:Fd) (b:Nat):Prop:=f.pos<=b/\b<f.pos+f.w
def effB (L:List (Fd × Nat)) (χ:Fd × Nat->Bool) (h:Hd):Hd:=hdOf fun b=>match L.find? (fun e=>χ e&&decide (Cov e.1 b)) with
 |some e=>e.2.testBit (e.1.pos+e.1.w - 1 - b)
 |none=>hbit h b
def Fnc (L:List (Fd × Nat)) (χ:Fd × Nat->Bool):Prop:=∀ e∈L,∀ e'∈L,χ e=true->χ e'=true->∀ b,Cov e.1 b->Cov e'.1 b->e=e'
def Eqd (L:List (Fd × Nat)):Prop:=∀ e∈L,∀ e'∈L,∀ b,Cov e.1 b->Cov e'.1 b->e.1=e'.1
section
variable {L:List (Fd × Nat)} {χ χ':Fd × Nat->Bool} {h:Hd}
theorem Hu (L:List (Fd × Nat))(χ:Fd × Nat->Bool)(h:Hd):HdOk (effB L χ h):=Ck _
theorem Iz {b:Nat}(hb:b<160):hbit (effB L χ h) b=match L.find? (fun e=>χ e&&decide (Cov e.1 b)) with
  |some e=>e.2.testBit (e.1.pos+e.1.w - 1 - b)
  |none=>hbit h b:=Br _ hb
theorem L3 {b:Nat}(hb:b<160)(hf:Fnc L χ){e:Fd × Nat}(he:e∈L)(hc:χ e=true)(hv:Cov e.1 b):hbit (effB L χ h) b=e.2.testBit (e.1.pos+e.1.w - 1 - b):=by
 rw[Iz hb];cases hq:L.find? (fun e=>χ e&&decide (Cov e.1 b)) with
 |none=>
  have:=List.find?_eq_none.1 hq e he;simp[hc,hv.1,hv.2] at this
 |some e'=>
  have h1:=List.find?_some hq;have h2:=List.mem_of_find?_eq_some hq;simp only[Bool.and_eq_true,decide_eq_true_eq] at h1;rw[hf e he e' h2 hc h1.1 b hv h1.2]
theorem I0 {b:Nat}(hb:b<160)(hn:∀ e∈L,χ e=true->¬ Cov e.1 b):hbit (effB L χ h) b=hbit h b:=by
 rw[Iz hb];have:L.find? (fun e=>χ e&&decide (Cov e.1 b))=none:=List.find?_eq_none.2 fun e he hx=>by
  simp only[Bool.and_eq_true,decide_eq_true_eq] at hx;exact hn e he hx.1 hx.2
 rw[this]
noncomputable def aft (L:List (Fd × Nat)) (χ χ':Fd × Nat->Bool):Fd × Nat->Bool:=fun e=>χ' e||(χ e&& !(@decide (∃ e'∈L,χ' e'=true/\e'.1=e.1) (Classical.propDecidable _)))
theorem aft_iff {e:Fd × Nat}:aft L χ χ' e=true↔χ' e=true\/(χ e=true/\¬ ∃ e'∈L,χ' e'=true/\e'.1=e.1):=by
 unfold aft;simp only[Bool.or_eq_true,Bool.and_eq_true,Bool.not_eq_true',decide_eq_false_iff_not]
theorem aft_fnc (hq:Eqd L)(h1:Fnc L χ)(h2:Fnc L χ'):Fnc L (aft L χ χ'):=fun e he e' he' a a' b c c'=>by
 rcases aft_iff.1 a with a|⟨a,na⟩<;>rcases aft_iff.1 a' with a'|⟨a',na'⟩
 ·exact h2 e he e' he' a a' b c c'
 ·exact(na' ⟨e,he,a,hq e he e' he' b c c'⟩).elim
 ·exact(na ⟨e',he',a',hq e' he' e he b c' c⟩).elim
 ·exact h1 e he e' he' a a' b c c'
theorem eff_aft (hq:Eqd L)(h1:Fnc L χ)(h2:Fnc L χ'):effB L χ' (effB L χ h)=effB L (aft L χ χ') h:=C5 (Hu _ _ _) (Hu _ _ _) fun b hb=>by
 have h3:=aft_fnc hq h1 h2
 by_cases e1:∃ e∈L,χ' e=true/\Cov e.1 b
 ·obtain⟨e,he,a,c⟩:=e1;rw[L3 hb h2 he a c,L3 hb h3 he (aft_iff.2 (.inl a)) c]
 ·rw[I0 hb fun e he a c=>e1 ⟨e,he,a,c⟩]
  by_cases e2:∃ e∈L,χ e=true/\Cov e.1 b
  ·obtain⟨e,he,a,c⟩:=e2;rw[L3 hb h1 he a c,L3 hb h3 he (aft_iff.2 (.inr ⟨a,fun ⟨e',he',a',q⟩=>e1 ⟨e',he',a',q ▸ c⟩⟩)) c]
  ·rw[I0 hb fun e he a c=>e2 ⟨e,he,a,c⟩,I0 hb fun e he a c=>by
    rcases aft_iff.1 a with a|⟨a,_⟩
    ·exact e1 ⟨e,he,a,c⟩
    ·exact e2 ⟨e,he,a,c⟩]
theorem Hv (hq:Eqd L){t:Int}:∀ {p:Po} {h g:Hd},(∀ e∈setsO p,e∈L)->(∀ e∈L,∃ bs,FIn bs e.1)->HdOk h->den t p h g->∃ χ,Fnc L χ/\g=effB L χ h
 | .fil _,h,g,_,_,hh,d=>⟨fun _=>false,(fun _ _ _ _ a=>(by cases a)),by
  rw[d.1];exact(C5 (Hu _ _ _) hh fun b hb=>I0 hb fun _ _ a=>(by cases a)).symm⟩
 | .set f n,h,g,hs,hl,hh,d=>by
  haveI:DecidableEq (Fd × Nat):=fun _ _=>Classical.propDecidable _
  have d:g=fset f h n:=d;subst d;have hm:=hs (f,n) (by simp[setsO]);have hfn:Fnc L fun e=>decide (e=(f,n)):=fun e _ e' _ a a' _ _ _=>by rw[of_decide_eq_true a,of_decide_eq_true a']
  refine⟨fun e=>decide (e=(f,n)),hfn,C5 (Bz _ _ _) (Hu _ _ _) fun b hb=> ?_⟩;rw[G0 hb]
  by_cases c:Cov f b
  ·rw[if_pos c,L3 hb hfn hm (decide_eq_true U) c]
  ·rw[if_neg c,I0 hb fun e _ a=>by rw[of_decide_eq_true a];exact c]
 | .uni a b,h,g,hs,hl,hh,d=>by
  rcases d with d|d
  ·exact Hv hq (fun e he=>hs e (List.mem_append.2 (.inl he))) hl hh d
  ·exact Hv hq (fun e he=>hs e (List.mem_append.2 (.inr he))) hl hh d
 | .seq a b,h,g,hs,hl,hh,d=>by
  obtain⟨m,d1,d2⟩:=d;obtain⟨χ1,f1,rfl⟩:=Hv hq (fun e he=>hs e (List.mem_append.2 (.inl he))) hl hh d1;obtain⟨χ2,f2,rfl⟩:=Hv hq (fun e he=>hs e (List.mem_append.2 (.inr he))) hl (Hu _ _ _) d2;exact⟨aft L χ1 χ2,aft_fnc hq f1 f2,eff_aft hq f1 f2⟩
 | .star a,h,g,hs,hl,hh,d=>by
  have key:∀ {h g:Hd},Cl' (den t a) h g->HdOk h->∃ χ,Fnc L χ/\g=effB L χ h:=by
   intro h g c
   induction c with
   |base h=>exact fun hh=>⟨fun _=>false,(fun _ _ _ _ a=>(by cases a)),(C5 (Hu _ _ _) hh fun b hb=>I0 hb fun _ _ a=>(by cases a)).symm⟩
   |step d1 _ ih=>
    intro hh;obtain⟨χ1,f1,rfl⟩:=Hv hq (p:=a) hs hl hh d1;obtain⟨χ2,f2,rfl⟩:=ih (Hu _ _ _);exact⟨aft L χ1 χ2,aft_fnc hq f1 f2,eff_aft hq f1 f2⟩
  exact key d hh
end
structure PrtsOk (bs:List Nat) (ns:Ns) (a:Nat) (k:Nat) (p:Md) (l:List Prt):Prop where
 le:k<=bs.length
 pm:MdOk bs k p
 ok:∀ x∈l,PtOk bs ns k x
 ds:∀ h,matM p h->l.Pairwise (Dst bs k h)
 say:∀ h f:Hd,matM p h->((∃ x∈l,Say bs ns k h f x)↔sem ns a (mixA (xh bs h) (xh bs f))=true)
section
variable {bs:List Nat} {ns:Ns} {a k:Nat} {p:Md} {l:List Prt}
theorem ps_step (h9:PrtsOk bs ns a k p l)(hk:k<bs.length){p':Md}{G:Prt->List Prt}(hp':MdOk bs (k+1) p')(hsub:∀ h,matM p' h->matM p h)(hG:∀ h,matM p' h->∀ x∈l,Rpl bs ns k h x (G x)):PrtsOk bs ns a (k+1) p' (l.flatMap G):=by
 have key:=fun h hm=>La (hG h hm) (h9.ds h (hsub h hm))
 exact⟨hk,hp',(key p'.2 (J2 hp')).1,fun h hm=>(key h hm).2.1,fun h f hm=>by rw[<- (key h hm).2.2 f];exact h9.say h f (hsub h hm)⟩
theorem ps_jn (hb:BsOk bs)(hw:Wf (2*bs.length) ns)(h9:PrtsOk bs ns a k p l)(hk:k<bs.length)(hj:l.all (jnB ns k)=true):PrtsOk bs ns a (k+1) p (l.flatMap (jnF ns k (gd bs k))):=
 ps_step h9 hk (h9.pm.up qom) (fun _ h=>h) fun h _ x hx=>rpl_jn hb hw hk (h9.ok x hx) (List.all_eq_true.1 hj x hx)
theorem ps_sp (hb:BsOk bs)(hw:Wf (2*bs.length) ns)(h9:PrtsOk bs ns a k p l)(hk:k<bs.length)(v:Bool):PrtsOk bs ns a (k+1) (chg p (gd bs k) v) (l.flatMap (spF ns k (gd bs k) v)):=
 ps_step h9 hk (Kv hb hk h9.pm v) (fun h hm=>((Et hb hk h9.pm).1 hm).1) fun h hm x hx=>rpl_sp hb hw hk (h9.ok x hx) ((Et hb hk h9.pm).1 hm).2
theorem ps_0 (la:a<ns.length)(h0:a≠0):PrtsOk bs ns a 0 (hd0,hd0) [pt0 a]:=⟨Nat.zero_le _,Mr 0,fun x hx=>by
 rw[List.mem_singleton.1 hx];exact⟨Mr 0,la,Nat.zero_le _,h0⟩,fun _ _=>List.pairwise_singleton ..,fun h f _=>by
 constructor
 ·rintro⟨x,hx,_,h2⟩;rw[List.mem_singleton.1 hx] at h2;exact h2
 ·intro e;exact⟨pt0 a,by simp,fun j hj=>absurd hj (Nat.not_lt_zero _),e⟩⟩
theorem ps_bdd (hb:BsOk bs)(hw:Wf (2*bs.length) ns)(hlen:∀ k p l,PrtsOk bs ns a k p l->l.length<=8589934592):Bdd ns bs (PrtsOk bs ns a):=
 ⟨hlen,fun k p l h hk hj=>ps_jn hb hw h hk hj,fun k p l h hk _ v=>ps_sp hb hw h hk v⟩
end
theorem eff_local {L:List (Fd × Nat)}{χ:Fd × Nat->Bool}{h h':Hd}{b:Nat}(hb:b<160)(e:hbit h b=hbit h' b):hbit (effB L χ h) b=hbit (effB L χ h') b:=by
 rw[Iz hb,Iz hb]
 split
 ·rfl
 ·exact e
theorem app_local {m:Md}{h h':Hd}{b:Nat}(hb:b<160)(e:hbit h b=hbit h' b):hbit (appM m h) b=hbit (appM m h') b:=by
 rw[E9 _ _ hb,E9 _ _ hb,e]
section
variable {bs:List Nat} {ns:Ns} {a k:Nat} {p:Md} {l:List Prt} {D:Hd->Hd->Prop} {L:List (Fd × Nat)}
theorem ps_wit (hb:BsOk bs)(hw:Wf (2*bs.length) ns)(ra:Rep bs ns a D)(heff:∀ h g,HdOk h->D h g->∃ χ,Fnc L χ/\g=effB L χ h)(h9:PrtsOk bs ns a k p l){x:Prt}(hx:x∈l):∃ χ,Fnc L χ/\∀ j,j<k->xh bs (appM x.1 p.2) j=xh bs (effB L χ p.2) j:=by
 have hk:=h9.le;have hp:=h9.ok x hx;have hsat:∃ α,sem ns x.2 α=true:=Classical.byContradiction fun hn=>hp.ne (sem_inj hw hp.lt (by have:=hp.lt;omega) fun α=>by
  rw[E6];exact Bool.eq_false_iff.2 fun e=>hn ⟨α,e⟩)
 obtain⟨α,hα⟩:=hsat
 obtain⟨h,hh,_,hx1⟩:=Ir hb p.2 fun j=>if j<k then xh bs p.2 j else α (2*j)
 obtain⟨f,hf,of,hx2⟩:=Ir hb h fun j=>if j<k then xh bs (appM x.1 p.2) j else α (2*j+1)
 have hbit1:∀ j,j<k->hbit h (gd bs j)=hbit p.2 (gd bs j):=fun j hj=>by
  have:=hx1 j qom;rw[if_pos hj] at this;exact this
 have hm:matM p h:=fun b hb1 hb2=>by
  obtain⟨j,h1,h2,rfl⟩:=h9.pm.on b hb1 hb2;exact hbit1 j h1
 have hsem:sem ns x.2 (mixA (xh bs h) (xh bs f))=true:=by
  rw[<- hα];refine Du hw x.2 hp.lt _ _ fun i h1 h2=> ?_
  have hlv:=hp.lv;unfold mixA
  split
  ·rw[hx1 _ qom,if_neg qom];congr 1;omega
  ·rw[hx2 _ qom,if_neg qom];congr 1;omega
 have hsay:sem ns a (mixA (xh bs h) (xh bs f))=true:=(h9.say h f hm).1 ⟨x,hx,fun j hj=>by
  rw[hx2 j qom,if_pos hj];exact(app_local (Ek hb qom) (hbit1 j hj)).symm,hsem⟩
 obtain⟨χ,hχ,rfl⟩:=heff h f hh ((ra h f hh hf of).1 hsay);refine⟨χ,hχ,fun j hj=> ?_⟩;have:=hx2 j qom;rw[if_pos hj] at this;rw[<- this];exact eff_local (Ek hb qom) (hbit1 j hj)
end
def bnL:List Bool->Nat
 |[]=>0
 |b::l=>2*bnL l+b.toNat
theorem bnL_lt:∀ l:List Bool,bnL l<2 ^ l.length
 |[]=>by decide
 |b::l=>by
  have:=bnL_lt l;rw[bnL,List.length_cons,Nat.pow_succ];cases b<;>simp<;>omega
theorem bnL_inj:∀ {l m:List Bool},l.length=m.length->bnL l=bnL m->l=m
 |[],[],_,_=>rfl
 |[],_::_,h,_=>by simp at h
 |_::_,[],h,_=>by simp at h
 |b::l,c::m,h,e=>by
  rw[bnL,bnL] at e;have h1:bnL l=bnL m:=by cases b<;>cases c<;>simp at e<;>omega
  have h2:b=c:=by cases b<;>cases c<;>simp at e ⊢<;>omega
  rw[h2,bnL_inj (by simpa using h) h1]
theorem eff_congr {L:List (Fd × Nat)}{χ χ':Fd × Nat->Bool}{h:Hd}(e:L.map χ=L.map χ'):effB L χ h=effB L χ' h:=by
 have he:∀ x∈L,χ x=χ' x:=List.map_inj_left.1 e;refine C5 (Hu _ _ _) (Hu _ _ _) fun b hb=> ?_
 rw[Iz hb,Iz hb];have:L.find? (fun e=>χ e&&decide (Cov e.1 b))=L.find? (fun e=>χ' e&&decide (Cov e.1 b)):=by
  clear e
  induction L with
  |nil=>rfl
  |cons x L ih=>
   rw[List.find?_cons,List.find?_cons,he x (by simp),ih fun y hy=>he y (by simp[hy])]
 rw[this]
section
variable {bs:List Nat} {ns:Ns} {a k:Nat} {p:Md} {l:List Prt} {D:Hd->Hd->Prop} {L:List (Fd × Nat)}
theorem ps_len (hb:BsOk bs)(hw:Wf (2*bs.length) ns)(ra:Rep bs ns a D)(heff:∀ h g,HdOk h->D h g->∃ χ,Fnc L χ/\g=effB L χ h)(h9:PrtsOk bs ns a k p l):l.length<=2 ^ L.length:=by
 obtain⟨F,hF⟩:∃ F:Prt->Fd × Nat->Bool,∀ x,x∈l->∀ j,j<k->xh bs (appM x.1 p.2) j=xh bs (effB L (F x) p.2) j:=by
  refine Classical.axiomOfChoice (r:=fun x χ=>x∈l->∀ j,j<k->xh bs (appM x.1 p.2) j=xh bs (effB L χ p.2) j) fun x=> ?_
  by_cases hx:x∈l
  ·obtain⟨χ,_,h⟩:=ps_wit hb hw ra heff h9 hx;exact⟨χ,fun _=>h⟩
  ·exact⟨fun _=>false,fun h=>absurd h hx⟩
 have hnd:(l.map fun x=>bnL (L.map (F x))).Nodup:=by
  refine List.pairwise_map.2 (List.Pairwise.imp_of_mem ?_ (h9.ds p.2 (J2 h9.pm)));rintro x y hx hy ⟨j,hj,hne⟩ e;have e2:=bnL_inj (by simp) e;rw[hF x hx j hj,hF y hy j hj,eff_congr e2] at hne;exact hne U
 have:=G1 (m:=List.range (2 ^ L.length)) hnd fun v hv=>by
  obtain⟨x,_,rfl⟩:=List.mem_map.1 hv;have:=bnL_lt (L.map (F x));rw[List.length_map] at this;exact List.mem_range.2 this
 rwa [List.length_map,List.length_range] at this
end
theorem sets_nd {fl:List Fd}:∀ {m:Pom} {p:Po},IsO fl m p->2*(setsO p).length<=m.nd+1:=by
 intro m p hI
 induction hI with
 |fil _ _=>simp[setsO]
 | @set m n _ _=>have:=Mg m;simp only[setsO,List.length_cons,List.length_nil];omega
 | @uni m a b p q _ hs _ _ i1 i2=>
  have:=Mg m;rw[hs] at this;simp only[setsO,List.length_append,ndOL] at this ⊢;omega
 | @seq m a b p q _ hs _ _ i1 i2=>
  have:=Mg m;rw[hs] at this;simp only[setsO,List.length_append,ndOL] at this ⊢;omega
 | @star m a p _ hs _ i1=>
  have:=Mg m;rw[hs] at this;simp only[setsO,ndOL] at this ⊢;omega
theorem F1 {bs:List Nat}:∀ {p:Po},p.Fit bs->∀ e∈setsO p,FIn bs e.1
 | .fil _,_,e,he=>by simp[setsO] at he
 | .set f n,hF,e,he=>by
  rw[setsO,List.mem_singleton] at he;subst he;exact hF.1
 | .uni a b,hF,e,he=>by
  rcases List.mem_append.1 he with he|he
  ·exact F1 hF.1 e he
  ·exact F1 hF.2 e he
 | .seq a b,hF,e,he=>by
  rcases List.mem_append.1 he with he|he
  ·exact F1 hF.1 e he
  ·exact F1 hF.2 e he
 | .star a,hF,e,he=>F1 (p:=a) hF e he
theorem Kb {fl:List Fd}{bs:List Nat}{m:Pom}{p:Po}(hI:IsO fl m p):p.Fit bs->∀ e∈setsO p,e.1∈portFd::fl:=by
 induction hI with
 |fil _ _=>intro _ e he;simp[setsO] at he
 | @set m n _ _=>
  intro hF e he;rw[setsO,List.mem_singleton] at he;subst he;have h1:=hF.1.ok.w1
  by_cases hf:(fndFd fl m.nm).2=true
  ·exact Da hf
  ·exfalso;unfold fndFd at h1 hf
   split at hf
   ·exact hf U
   ·rename_i h2;rw[if_neg h2] at h1
    split at hf
    ·exact hf U
    ·rename_i h3;rw[h3] at h1;have h1:1<=0:=h1;omega
 | @uni m a b p q _ _ _ _ i1 i2=>
  intro hF e he;rcases List.mem_append.1 he with he|he
  ·exact i1 hF.1 e he
  ·exact i2 hF.2 e he
 | @seq m a b p q _ _ _ _ i1 i2=>
  intro hF e he;rcases List.mem_append.1 he with he|he
  ·exact i1 hF.1 e he
  ·exact i2 hF.2 e he
 | @star m a p _ _ _ i1=>exact fun hF e he=>i1 hF e he
theorem pw_eq {l:List Fd}(h:l.Pairwise fun f g=>f.pos+f.w<=g.pos\/g.pos+g.w<=f.pos){f g:Fd}(hf:f∈l)(hg:g∈l){b:Nat}(c:Cov f b)(d:Cov g b):f=g:=by
 obtain⟨i,hi,e1⟩:=List.getElem_of_mem hf;obtain⟨j,hj,e2⟩:=List.getElem_of_mem hg;rcases Nat.lt_trichotomy i j with h1|h1|h1
 ·have:=List.pairwise_iff_getElem.1 h i j hi hj h1;rw[e1,e2] at this;have c1:=c.1;have c2:=c.2;have d1:=d.1;have d2:=d.2;omega
 ·subst h1;rw[<- e1,<- e2]
 ·have:=List.pairwise_iff_getElem.1 h j i hj hi h1;rw[e1,e2] at this;have c1:=c.1;have c2:=c.2;have d1:=d.1;have d2:=d.2;omega
theorem pol_bdd {fl:List Fd}(hfl:FlOk fl){m:Pom}{p:Po}(hI:IsO fl m p)(hF:p.Fit (bsF fl))(hn:m.nd<=62){t:Int}{ns:Ns}{a:Nat}(hw:Wf (2*(bsF fl).length) ns)(ra:Rep (bsF fl) ns a (den t p)):Bdd ns (bsF fl) (PrtsOk (bsF fl) ns a):=by
 have hq:Eqd (setsO p):=fun e he e' he' b c d=>pw_eq hfl.pw (Kb hI hF e he) (Kb hI hF e' he') c d
 refine ps_bdd (Eg hfl) hw fun k p' l h9=> ?_
 have h1:=ps_len (L:=setsO p) (Eg hfl) hw ra (fun h g hh d=>Hv hq (fun e he=>he) (fun e he=>⟨_,F1 hF e he⟩) hh d) h9;have h2:=sets_nd hI;have h3:2 ^ (setsO p).length<=2 ^ 31:=Nat.pow_le_pow_right qom qom;have h3:2 ^ (setsO p).length<=2147483648:=h3;omega
theorem out_few {L:List (Fd × Nat)}{h:Hd}{l:List Hd}(hn:l.Nodup)(he:∀ x∈l,∃ χ,x=effB L χ h):l.length<=2 ^ L.length:=by
 obtain⟨F,hF⟩:∃ F:Hd->Fd × Nat->Bool,∀ x,x∈l->x=effB L (F x) h:=by
  refine Classical.axiomOfChoice (r:=fun x χ=>x∈l->x=effB L χ h) fun x=> ?_
  by_cases hx:x∈l
  ·obtain⟨χ,e⟩:=he x hx;exact⟨χ,fun _=>e⟩
  ·exact⟨fun _=>false,fun h=>absurd h hx⟩
 have hnd:(l.map fun x=>bnL (L.map (F x))).Nodup:=by
  refine List.pairwise_map.2 (List.Pairwise.imp_of_mem ?_ hn);intro x y hx hy hne e;have e2:=bnL_inj (by simp) e;exact hne (by rw[hF x hx,hF y hy,eff_congr e2])
 have:=G1 (m:=List.range (2 ^ L.length)) hnd fun v hv=>by
  obtain⟨x,_,rfl⟩:=List.mem_map.1 hv;have:=bnL_lt (L.map (F x));rw[List.length_map] at this;exact List.mem_range.2 this
 rwa [List.length_map,List.length_range] at this
section
variable {w0:World} {H:Mm} {L:List (Md × List Md)} {D:Hd->Hd->Prop} {d:Sl} {cs:List Chm} {h:Hd}
theorem Nc (he:cs.map Chm.pl=L){c:Chm}(hc:c∈cs):(c.p,c.ms)∈L:=by rw[<- he];exact List.mem_map.2 ⟨c,hc,rfl⟩
end
section
variable {p m m' n z:Md} {h x:Hd} {is:Bool}
theorem pat_self (p:Md):matM p p.2:=fun _ _ _=>rfl
theorem pat_least (hr:MdR p)(hh:HdOk h)(hm:matM p h):p.2=h\/hLt p.2 h:=by
 rcases H8 hr.o2 hh with a|a|⟨b,hb,hj,h1,h2⟩
 ·exact .inr a
 ·exact .inl a
 ·exfalso;have:=hm b hb (hr.sub b hb h2);rw[h1,h2] at this;cases this
def thnM (p m:Md):Md:=(hdOf fun b=>hbit p.1 b||hbit m.1 b,hdOf fun b=>if hbit m.1 b then hbit m.2 b else hbit p.2 b)
theorem thn_1 (p m:Md){b:Nat}(hb:b<160):hbit (thnM p m).1 b=(hbit p.1 b||hbit m.1 b):=Br (fun b=>hbit p.1 b||hbit m.1 b) hb
theorem thn_2 (p m:Md){b:Nat}(hb:b<160):hbit (thnM p m).2 b=if hbit m.1 b then hbit m.2 b else hbit p.2 b:=Br (fun b=>if hbit m.1 b then hbit m.2 b else hbit p.2 b) hb
theorem Gm (p m:Md):HdOk (thnM p m).1/\HdOk (thnM p m).2:=⟨Ck fun b=>hbit p.1 b||hbit m.1 b,Ck fun b=>if hbit m.1 b then hbit m.2 b else hbit p.2 b⟩
theorem thn_r (hp:MdR p)(hm:MdR m):MdR (thnM p m):=⟨(Gm p m).1,(Gm p m).2,fun b hb e=>by
 rw[thn_2 p m hb] at e;rw[thn_1 p m hb]
 split at e
 ·rename_i h1;rw[h1];simp
 ·rw[hp.sub b hb e];rfl⟩
theorem thn_mat (hp:MdR p)(hm:MdR m)(hx:HdOk x):matM (thnM p m) x↔∃ h,HdOk h/\matM p h/\x=appM m h:=by
 constructor
 ·intro k;refine⟨hdOf fun b=>if hbit p.1 b then hbit p.2 b else hbit x b,Ck _,fun b hb e=>by rw[Br _ hb,if_pos e],C5 hx (Ft _ _) fun b hb=> ?_⟩;rw[E9 _ _ hb];have h1:=k b hb;rw[thn_1 p m hb,thn_2 p m hb] at h1
  by_cases e:hbit m.1 b=true
  ·rw[if_pos e];rw[if_pos e] at h1;exact h1 (by rw[e];simp)
  ·rw[if_neg e,Br _ hb];rw[if_neg e] at h1
   by_cases e2:hbit p.1 b=true
   ·rw[if_pos e2];exact h1 (by rw[e2];rfl)
   ·rw[if_neg e2]
 ·rintro⟨h,hh,k,rfl⟩ b hb e;rw[thn_1 p m hb] at e;rw[E9 _ _ hb,thn_2 p m hb]
  by_cases e1:hbit m.1 b=true
  ·rw[if_pos e1,if_pos e1]
  ·rw[if_neg e1,if_neg e1];simp[e1] at e;exact k b hb e
def ovlB (p q:Md):Bool:=(List.range 160).all fun b=> !(hbit p.1 b&&hbit q.1 b&&(hbit p.2 b !=hbit q.2 b))
def andM (p q:Md):Md:=(hdOf fun b=>hbit p.1 b||hbit q.1 b,hdOf fun b=>hbit p.2 b||hbit q.2 b)
theorem and_1 (p q:Md){b:Nat}(hb:b<160):hbit (andM p q).1 b=(hbit p.1 b||hbit q.1 b):=Br (fun b=>hbit p.1 b||hbit q.1 b) hb
theorem and_2 (p q:Md){b:Nat}(hb:b<160):hbit (andM p q).2 b=(hbit p.2 b||hbit q.2 b):=Br (fun b=>hbit p.2 b||hbit q.2 b) hb
theorem L4 (p q:Md):HdOk (andM p q).1/\HdOk (andM p q).2:=⟨Ck fun b=>hbit p.1 b||hbit q.1 b,Ck fun b=>hbit p.2 b||hbit q.2 b⟩
theorem ovl_iff {q:Md}:ovlB p q=true↔∀ b,b<160->hbit p.1 b=true->hbit q.1 b=true->hbit p.2 b=hbit q.2 b:=by
 unfold ovlB;rw[List.all_eq_true]
 constructor
 ·intro k b hb h1 h2;have:=k b (List.mem_range.2 hb);rw[h1,h2] at this
  simpa using this
 ·intro k b hb;have:=k b (List.mem_range.1 hb);cases h1:hbit p.1 b
  ·simp
  ·cases h2:hbit q.1 b
   ·simp
   ·simp[this h1 h2]
theorem and_r {q:Md}(hp:MdR p)(hq:MdR q):MdR (andM p q):=⟨(L4 p q).1,(L4 p q).2,fun b hb e=>by
 rw[and_2 p q hb] at e;rw[and_1 p q hb];rcases Bool.or_eq_true _ _ ▸ e with e|e
 ·rw[hp.sub b hb e];rfl
 ·rw[hq.sub b hb e];simp⟩
theorem and_mat {q:Md}(hp:MdR p)(hq:MdR q)(ho:ovlB p q=true):matM (andM p q) h↔matM p h/\matM q h:=by
 rw[ovl_iff] at ho;have key:∀ b,b<160->hbit (andM p q).1 b=(hbit p.1 b||hbit q.1 b)/\hbit (andM p q).2 b=(hbit p.2 b||hbit q.2 b):=fun b hb=>⟨and_1 p q hb,and_2 p q hb⟩
 constructor
 ·intro k;refine⟨fun b hb e=> ?_,fun b hb e=> ?_⟩
  ·have:=k b hb;rw[(key b hb).1,(key b hb).2,e] at this;rw[this rfl];cases e2:hbit q.2 b
   ·simp
   ·rw[ho b hb e (hq.sub b hb e2),e2];simp
  ·have:=k b hb;rw[(key b hb).1,(key b hb).2,e] at this;rw[this (by simp)];cases e2:hbit p.2 b
   ·simp
   ·rw[<- ho b hb (hp.sub b hb e2) e,e2];simp
 ·rintro⟨k1,k2⟩ b hb e;rw[(key b hb).1] at e;rw[(key b hb).2];cases e1:hbit p.1 b with
  |true=>
   rw[k1 b hb e1];cases e2:hbit q.2 b
   ·simp
   ·rw[ho b hb e1 (hq.sub b hb e2),e2];simp
  |false=>
   rw[e1] at e;have h2:hbit p.2 b=false:=by
    cases e3:hbit p.2 b
    ·rfl
    ·rw[hp.sub b hb e3] at e1;cases e1
   rw[k2 b hb e,h2];simp
theorem ovl_no {q:Md}(ho: ¬ ovlB p q=true)(h1:matM p h)(h2:matM q h):False:=ho (ovl_iff.2 fun b hb e1 e2=>by rw[<- h1 b hb e1,<- h2 b hb e2])
end
section
variable {L:List (Md × List Md)} {t:Int} {p q:Po} {h:Hd} {is:Bool}
def sngL (L:List (Md × List Md)):List Hd:=(L.filter fun c=>decide (c.2.length>1)).map fun c=>c.1.2
theorem sng_ans (hL:RlOk L (den t p))(a:LstOf (sngL L) h is):Ans (AskP t 5 p q) h is:=by
 have one:∀ {c:Md × List Md} {h:Hd},c∈L->HdOk h->matM c.1 h->c.2.length<=1->∀ g g',den t p h g->den t p h g'->g=g':=fun {c h} hc hh hm hn g g' d d'=>by
  obtain⟨c1,hc1,hm1,m1,h1,rfl⟩:=(hL.say h hh g).2 d;obtain⟨c2,hc2,hm2,m2,h2,rfl⟩:=(hL.say h hh g').2 d';have same:∀ {a b:Md × List Md},a∈L->b∈L->matM a.1 h->matM b.1 h->a=b:=fun {a b} ha hb ma mb=>by
   obtain⟨i,hi,rfl⟩:=List.getElem_of_mem ha;obtain⟨j,hj,rfl⟩:=List.getElem_of_mem hb;rcases Nat.lt_trichotomy i j with e|e|e
   ·exact absurd ⟨ma,mb⟩ (List.pairwise_iff_getElem.1 (hL.one h) i j hi hj e)
   ·subst e;rfl
   ·exact absurd ⟨mb,ma⟩ (List.pairwise_iff_getElem.1 (hL.one h) j i hj hi e)
  obtain rfl:=same hc1 hc hm1 hm;obtain rfl:=same hc2 hc hm2 hm;obtain⟨i,hi,rfl⟩:=List.getElem_of_mem h1;obtain⟨j,hj,rfl⟩:=List.getElem_of_mem h2;have:i=j:=by omega
  subst this;rfl
 have two:∀ {c:Md × List Md} {h:Hd},c∈L->HdOk h->matM c.1 h->c.2.length>1->¬ ∀ g g',den t p h g->den t p h g'->g=g':=fun {c h} hc hh hm hn k=>by
  have hnd:=hL.nd h c hc hm;obtain⟨m0,m1,r,e⟩:∃ m0 m1 r,c.2=m0::m1::r:=by
   match h9:c.2,hn with
   |m0::m1::r,_=>exact⟨m0,m1,r,rfl⟩
   |[x],hn=>simp at hn
   |[],hn=>simp at hn
  have:=k (appM m0 h) (appM m1 h) ((hL.say h hh _).1 ⟨c,hc,hm,m0,by rw[e];simp,rfl⟩) ((hL.say h hh _).1 ⟨c,hc,hm,m1,by rw[e];simp,rfl⟩);rw[e] at hnd;simp[this] at hnd
 have ask:∀ h,AskP t 5 p q h↔∀ g g',den t p h g->den t p h g'->g=g':=fun h=>by simp[AskP]
 have some:∀ {g:Hd},HdOk g->¬ AskP t 5 p q g->∃ c∈L,matM c.1 g/\c.2.length>1:=fun {g} hg k=>by
  rw[ask] at k;have:∃ f,den t p g f:=Classical.byContradiction fun e=>k fun x y d=>absurd ⟨x,d⟩ e
  obtain⟨f,d⟩:=this;obtain⟨c,hc,hm,_⟩:=(hL.say g hg f).2 d;refine⟨c,hc,hm,Nat.lt_of_not_le fun e=>k (one hc hg hm e)⟩
 rcases a with ⟨a,b,c⟩|⟨a,b,c⟩
 ·refine .inl ⟨a,b,fun g hg=>Classical.byContradiction fun k=> ?_⟩;obtain⟨d,hd,hm,hn⟩:=some hg k;have:d.1.2∈sngL L:=List.mem_map.2 ⟨d,List.mem_filter.2 ⟨hd,decide_eq_true hn⟩,rfl⟩;rw[c] at this;cases this
 ·obtain⟨d,hd,rfl⟩:=List.mem_map.1 b;obtain⟨hd,hn⟩:=List.mem_filter.1 hd;have ok:=(hL.r d hd).1.o2;refine .inr ⟨a,ok,fun k=>two hd ok (pat_self _) (of_decide_eq_true hn) ((ask _).1 k),fun g hg hl=>Classical.byContradiction fun k=> ?_⟩;obtain⟨e,he,hm,hn2⟩:=some hg k;have h1:=c _ (List.mem_map.2 ⟨e,List.mem_filter.2 ⟨he,decide_eq_true hn2⟩,rfl⟩);rcases pat_least (hL.r e he).1 hg hm with h2|h2
  ·rw[h2] at h1;rcases h1 with h1|h1
   ·rw[h1] at hl;exact hl.irr
   ·exact(hl.trans h1).irr
  ·rcases h1 with h1|h1
   ·rw[h1] at hl;exact(hl.trans h2).irr
   ·exact((hl.trans h1).trans h2).irr
def imgL (L:List (Md × List Md)):List Md:=L.flatMap fun c=>c.2.map fun m=>thnM c.1 m
theorem Ke (hL:RlOk L (den t p)){x:Hd}(hx:HdOk x):(∃ z∈imgL L,matM z x)↔∃ h,HdOk h/\den t p h x:=by
 constructor
 ·rintro⟨z,hz,k⟩;obtain⟨c,hc,h1⟩:=List.mem_flatMap.1 hz;obtain⟨m,hm,rfl⟩:=List.mem_map.1 h1;obtain⟨h,hh,h2,e⟩:=(thn_mat (hL.r c hc).1 ((hL.r c hc).2 m hm) hx).1 k;exact⟨h,hh,(hL.say h hh x).1 ⟨c,hc,h2,m,hm,e⟩⟩
 ·rintro⟨h,hh,d⟩;obtain⟨c,hc,h2,m,hm,e⟩:=(hL.say h hh x).2 d;exact⟨_,List.mem_flatMap.2 ⟨c,hc,List.mem_map.2 ⟨m,hm,rfl⟩⟩,(thn_mat (hL.r c hc).1 ((hL.r c hc).2 m hm) hx).2 ⟨h,hh,h2,e⟩⟩
theorem L5 (hL:RlOk L (den t p)):∀ z∈imgL L,MdR z:=fun z hz=>by
 obtain⟨c,hc,h1⟩:=List.mem_flatMap.1 hz;obtain⟨m,hm,rfl⟩:=List.mem_map.1 h1;exact thn_r (hL.r c hc).1 ((hL.r c hc).2 m hm)
def metL (X Y:List Md):List Hd:=X.flatMap fun x=>(Y.filter (ovlB x)).map fun y=>(andM x y).2
theorem met_ans {M:List (Md × List Md)}(hL:RlOk L (den t p))(hM:RlOk M (den t q))(a:LstOf (metL (imgL L) (imgL M)) h is):Ans (DstP t p q) h is:=by
 have hin:∀ x∈metL (imgL L) (imgL M),HdOk x/\¬ DstP t p q x:=fun x hx=>by
  obtain⟨a,ha,h1⟩:=List.mem_flatMap.1 hx;obtain⟨b,hb,rfl⟩:=List.mem_map.1 h1;obtain⟨hb,ho⟩:=List.mem_filter.1 hb;have ra:=L5 hL a ha;have rb:=L5 hM b hb;have ok:=(and_r ra rb).o2;obtain⟨k1,k2⟩:=(and_mat ra rb ho).1 (pat_self _);exact⟨ok,fun k=>k ⟨(Ke hL ok).1 ⟨a,ha,k1⟩,(Ke hM ok).1 ⟨b,hb,k2⟩⟩⟩
 have hout:∀ y,HdOk y->¬ DstP t p q y->∃ x∈metL (imgL L) (imgL M),x=y\/hLt x y:=fun y hy k=>by
  obtain⟨h1,h2⟩:=Classical.not_not.1 k;obtain⟨a,ha,k1⟩:=(Ke hL hy).2 h1;obtain⟨b,hb,k2⟩:=(Ke hM hy).2 h2;have ra:=L5 hL a ha;have rb:=L5 hM b hb;have ho:ovlB a b=true:=Classical.byContradiction fun e=>ovl_no e k1 k2
  exact⟨_,List.mem_flatMap.2 ⟨a,ha,List.mem_map.2 ⟨b,List.mem_filter.2 ⟨hb,ho⟩,rfl⟩⟩,pat_least (and_r ra rb) hy ((and_mat ra rb ho).2 ⟨k1,k2⟩)⟩
 exact lst_ans hin hout a
end
section
variable {bs:List Nat} {ns ms:Ns} {a b id most r:Nat} {t:Int} {p q:Po} {D E:Hd->Hd->Prop}
structure Hs (bs:List Nat) (ns:Ns) (a:Nat) (D:Hd->Hd->Prop):Prop where
 lt:a<ns.length
 rep:Rep bs ns a D
 out:OutR bs D
theorem Hs.gr {N:Nat}(h:Hs bs ns a D)(hw:Wf N ns)(g:Gr N ns ms):Hs bs ms a D:=⟨Nat.lt_of_lt_of_le h.lt g.le,h.rep.gr hw h.lt g,h.out⟩
theorem Dt (hb:BsOk bs)(hF:p.Fit bs)(hw:Wf (2*bs.length) ns)(e:polF most bs t r p ns=some (id,ms)):Gr (2*bs.length) ns ms/\Hs bs ms id (den t p):=by
 obtain⟨g,l,k⟩:=Fr hb t r p hF hw e;exact⟨g,l,k,den_outR hF⟩
theorem hs_or (hw:Wf (2*bs.length) ns)(h1:Hs bs ns a D)(h2:Hs bs ns b E)(e:orF most ns a b=some (id,ms)):Gr (2*bs.length) ns ms/\Hs bs ms id fun h g=>D h g\/E h g:=by
 obtain⟨g,l,k⟩:=uni_ok hw h1.lt h2.lt h1.rep h2.rep e;exact⟨g,l,k,fun hh d=>d.elim (h1.out hh) (h2.out hh)⟩
theorem hs_seq (hb:BsOk bs)(hw:Wf (2*bs.length) ns)(h1:Hs bs ns a D)(h2:Hs bs ns b E)(e:seA most ns a b=some (id,ms)):Gr (2*bs.length) ns ms/\Hs bs ms id fun h g=>∃ m,D h m/\E m g:=by
 obtain⟨g,l,k⟩:=sq_rep hb hw h1.lt h2.lt (fun h d=>h1.out h d) h1.rep h2.rep e;refine⟨g,l,k,fun hh ⟨m,d1,d2⟩=> ?_⟩;obtain⟨o1,o2⟩:=h1.out hh d1;obtain⟨o3,o4⟩:=h2.out o1 d2;exact⟨o3,o2.trans o4⟩
theorem hs_dom (hb:BsOk bs)(hw:Wf (2*bs.length) ns)(h1:Hs bs ns a D)(e:domF most bs ns a=some (id,ms)):Gr (2*bs.length) ns ms/\Hs bs ms id fun h g=>g=h/\∃ f,D h f:=by
 obtain⟨g,l,k⟩:=domF_ok hb hw h1.lt h1.rep (fun h d=>h1.out h d) e;exact⟨g,l,k,fun hh d=>by rw[d.1];exact⟨hh, .refl _⟩⟩
theorem I3 (hb:BsOk bs)(hw:Wf (2*bs.length) ns)(h1:Hs bs ns a D)(h2:Hs bs ns b E):Ans (fun h=>∀ g,D h g↔E h g) (dfH ns bs a b) (!decide (a≠b)):=same_ans hb hw h1.lt h2.lt h1.rep h2.rep h1.out h2.out
end
abbrev PF (fl:List Fd) (t:Int) (p:Po) (ns:Ns):Option (Nat × Ns):=polF 200000 (bsF fl) t (rdN (bsF fl)) p ns
abbrev N0 (fl:List Fd):Ns:=nsE (2*(bsF fl).length)
abbrev G2 (fl:List Fd) (tick:Int) (p1 p2:Po):Prop:=∀ a1 n1,PF fl tick p1 (N0 fl)=some (a1,n1)->∀ a2 n2,PF fl tick p2 n1=some (a2,n2)->False
theorem qeq_s {fl:List Fd}(hfl:FlOk fl)(tick:Int){m1:Pom}{p1:Po}(hI1:IsO fl m1 p1)(hF1:p1.Fit (bsF fl))(hM1:PoM w0 H m1){b1:Nat}(f1:Fnd H b1 (Cl (encPo m1) 28)){m2:Pom}{p2:Po}(hI2:IsO fl m2 p2)(hF2:p2.Fit (bsF fl))(hM2:PoM w0 H m2){b2:Nat}(f2:Fnd H b2 (Cl (encPo m2) 28)):QuS w0 fl tick 44 [Pt b1 0,Pt b2 0] 12 (Ans (AskP tick 1 p1 p2)) (G2 fl tick p1 p2) H:=by
 intro dx db p mp v R hR hst hE;have hb:=Eg hfl;show FSpecP prog w0 44 #[Value.agg #[Pt p 0,Vi tick],Pt b1 0,Pt b2 0] _ _ _ _;refine Bj func44 U ntmps44 U (rDt 2 U (e_ (Ot U cs_) ?_ U));rintro _ _ ⟨n3,rfl,rfl⟩;refine e_ (Ag zeroValue32 cs_) ?_ U;rintro _ _ ⟨n4,rfl,rfl⟩;refine rOt 4 U (Bf 10 [(0,true),(1,true),(2,true),(4,true),(5,true),(3,false),(6,false),(7,false),(8,true),(9,true)] ((n4,Cl [Vi 0,Vi 0,Vi 0,Vi 0,Vi 0,Vi 0,Vi 0,Vi 0,Vi 0,Vi 0] 32)::(n3,Cl [Pt p 0,Vi tick] 70)::R) mixd qkr sbt ?_ B1);refine o_y U (On U isAgg70 sizeOf70 U (by exact Ae fndq)) ?_ U Ad;refine o_y U (On U isAgg70 sizeOf70 U (by exact Ae fndq)) ?_ U Ad;refine o_y U (On U isAgg28 sizeOf28 U (by exact Ae (Fnd.mono f1 (List.Sublist.trans hR sbt)))) ?_ U Ad;refine o_y U (On U isAgg70 sizeOf70 U (by exact Ae fndq)) ?_ U Ad;refine o_y U (On U isAgg28 sizeOf28 U (by exact Ae (Fnd.mono f2 (List.Sublist.trans hR sbt)))) ?_ U Ad;refine o_p rfl (As (evq2 rfl rfl) call46 (A5 (M:=SM (NewD fl 200000 dx db p mp) v (nsE (2*(bsF fl).length))) (E5 (R:=((n4,Cl [Vi 0,Vi 0,Vi 0,Vi 0,Vi 0,Vi 0,Vi 0,Vi 0,Vi 0,Vi 0] 32)::(n3,Cl [Pt p 0,Vi tick] 70)::R)) hst (hE.mono sbt) m1 p1 hI1 hF1 (hM1.mono (List.Sublist.trans hR sbt)) tick) locqc)) ?_ (by rintro _ ⟨⟨v9,n9⟩,⟨e1,g9,hst9⟩,rfl⟩;(repeat refine By ?_);exact Bi ⟨(by intro a1 n1 f1;cases e1.symm.trans f1),sbt⟩ (List.Sublist.refl _)) rfl Ad;rintro _ _ ⟨⟨id1,v1,ns1⟩,⟨rfl,e1,hst1⟩,rfl⟩
 dsimp only at e1 hst1
 obtain⟨g1,h1⟩:=Dt hb hF1 hst.w e1;refine⟨sbt,?_⟩;refine o_p rfl (As (evq2 rfl rfl) call46 (A5 (M:=SM (NewD fl 200000 dx db p mp) v1 ns1) (E5 (R:=((n4,Cl [Vi 0,Vi 0,Vi 0,Vi 0,Vi 0,Vi 0,Vi 0,Vi 0,Vi 0,Vi 0] 32)::(n3,Cl [Pt p 0,Vi tick] 70)::R)) hst1 (hE.mono sbt) m2 p2 hI2 hF2 (hM2.mono (List.Sublist.trans hR sbt)) tick) locqc)) ?_ (by rintro _ ⟨⟨v9,n9⟩,⟨e2,g9,hst9⟩,rfl⟩;(repeat refine By ?_);exact Bi ⟨(by intro a1 n1 f1;cases e1.symm.trans f1;intro a2 n2 f2;cases e2.symm.trans f2),sbt⟩ (List.Sublist.refl _)) rfl Ad;rintro _ _ ⟨⟨id2,v2,ns2⟩,⟨rfl,e2,hst2⟩,rfl⟩
 dsimp only at e2 hst2
 obtain⟨g2,h2⟩:=Dt hb hF2 hst1.w e2;have h1:=h1.gr hst1.w g2;refine⟨sbt,?_⟩;refine o_e U (Ah (evq3 U U U) call45 (Ix (D:=(NewD fl 200000 dx db p mp)) hst2 hb U (by repeat (first|exact List.sublist_append_left _ _|refine List.Sublist.cons _ ?_)) (hE.bits.mono sbt) tick id1 id2 h1.lt h2.lt)) ?_ U Ad;rintro _ _ ⟨rfl,rfl⟩;refine⟨sbt,(rPt 2 U (Av U (e_ (Oq U U sizeOf32 .agg (Bc _) (Af (Ch _ _ _ _)) updq (by rw[Af (Ch _ _ _ _)];rfl)) ?_ U)))⟩;rintro _ _ ⟨rfl,rfl⟩;refine rOt 4 U (Bs U (.cellA (Aa U) isAgg32 sizeOf32 (Af (Ch _ _ _ _)) qcs (Ol U)) ?_);exact⟨_,⟨⟨dfH ns2 (bsF fl) id1 id2,!decide (id1≠id2),rfl,Ch _ _ _ _,ask_eq (I3 hb hst2.w h1 h2)⟩,sbt⟩,sb0⟩
abbrev Kx (fl:List Fd) (tick:Int) (p1 p2:Po):Prop:=∀ a1 n1,PF fl tick p1 (N0 fl)=some (a1,n1)->∀ a2 n2,PF fl tick p2 n1=some (a2,n2)->∀ a3 n3,orF 200000 n2 a1 a2=some (a3,n3)->False
theorem qinc_s {fl:List Fd}(hfl:FlOk fl)(tick:Int){m1:Pom}{p1:Po}(hI1:IsO fl m1 p1)(hF1:p1.Fit (bsF fl))(hM1:PoM w0 H m1){b1:Nat}(f1:Fnd H b1 (Cl (encPo m1) 28)){m2:Pom}{p2:Po}(hI2:IsO fl m2 p2)(hF2:p2.Fit (bsF fl))(hM2:PoM w0 H m2){b2:Nat}(f2:Fnd H b2 (Cl (encPo m2) 28)):QuS w0 fl tick 47 [Pt b1 0,Pt b2 0] 12 (Ans (AskP tick 2 p1 p2)) (Kx fl tick p1 p2) H:=by
 intro dx db p mp v R hR hst hE;have hb:=Eg hfl;show FSpecP prog w0 47 #[Value.agg #[Pt p 0,Vi tick],Pt b1 0,Pt b2 0] _ _ _ _;refine Bj func47 U ntmps47 U (rDt 2 U (e_ (Ot U cs_) ?_ U));rintro _ _ ⟨n3,rfl,rfl⟩;refine e_ (Ag zeroValue32 cs_) ?_ U;rintro _ _ ⟨n4,rfl,rfl⟩;refine rOt 5 U ?_;refine y_ (On U isAgg70 sizeOf70 U (by exact Ae fndq)) ?_ U;refine y_ (On U isAgg28 sizeOf28 U (by exact Ae (Fnd.mono f1 (List.Sublist.trans hR sbt)))) ?_ U;refine p_ (As (evq2 rfl rfl) call46 (A5 (M:=SM (NewD fl 200000 dx db p mp) v (nsE (2*(bsF fl).length))) (E5 (R:=((n4,Cl [Vi 0,Vi 0,Vi 0,Vi 0,Vi 0,Vi 0,Vi 0,Vi 0,Vi 0,Vi 0] 32)::(n3,Cl [Pt p 0,Vi tick] 70)::R)) hst (hE.mono sbt) m1 p1 hI1 hF1 (hM1.mono (List.Sublist.trans hR sbt)) tick) locqc)) ?_ (by rintro _ ⟨⟨v9,n9⟩,⟨e1,g9,hst9⟩,rfl⟩;(repeat refine By ?_);exact Bi ⟨(by intro a1 n1 f1;cases e1.symm.trans f1),sbt⟩ (List.Sublist.refl _)) rfl;rintro _ _ ⟨⟨id1,v1,ns1⟩,⟨rfl,e1,hst1⟩,rfl⟩
 dsimp only at e1 hst1
 obtain⟨g1,h1⟩:=Dt hb hF1 hst.w e1;refine rOt 4 U (Bf 15 (plq6 [(11,true),(6,false),(7,false),(8,true),(9,true),(10,false),(12,false),(13,true),(14,true)]) ((n4,Cl [Vi 0,Vi 0,Vi 0,Vi 0,Vi 0,Vi 0,Vi 0,Vi 0,Vi 0,Vi 0] 32)::(n3,Cl [Pt p 0,Vi tick] 70)::R) mixd qkr sbt ?_ B1);refine o_y U (On U isAgg70 sizeOf70 U (by exact Ae fndq)) ?_ U Ad;refine rPt 1 U ?_;refine o_y U (Om U isAgg68 qco) ?_ U Ad;refine rPt 1 U ?_;refine o_y U (On U isAgg70 sizeOf70 U (by exact Ae fndq)) ?_ U Ad;refine o_y U (On U isAgg28 sizeOf28 U (by exact Ae (Fnd.mono f2 (List.Sublist.trans hR sbt)))) ?_ U Ad;refine rPt 1 U ?_;refine o_p rfl (As (evq2 rfl rfl) call46 (A5 (M:=SM (NewD fl 200000 dx db p mp) v1 ns1) (E5 (R:=((n4,Cl [Vi 0,Vi 0,Vi 0,Vi 0,Vi 0,Vi 0,Vi 0,Vi 0,Vi 0,Vi 0] 32)::(n3,Cl [Pt p 0,Vi tick] 70)::R)) hst1 (hE.mono sbt) m2 p2 hI2 hF2 (hM2.mono (List.Sublist.trans hR sbt)) tick) locqc)) ?_ (by rintro _ ⟨⟨v9,n9⟩,⟨e2,g9,hst9⟩,rfl⟩;(repeat refine By ?_);exact Bi ⟨(by intro a1 n1 f1;cases e1.symm.trans f1;intro a2 n2 f2;cases e2.symm.trans f2),sbt⟩ (List.Sublist.refl _)) rfl Ad;rintro _ _ ⟨⟨id2,v2,ns2⟩,⟨rfl,e2,hst2⟩,rfl⟩
 dsimp only at e2 hst2
 obtain⟨g2,h2⟩:=Dt hb hF2 hst1.w e2;have h1:=h1.gr hst1.w g2;refine⟨sbt,(o_e U (Ah (evq3 U U U) call49 (B7 (M:=SM (NewD fl 200000 dx db p mp) v2 ns2) (union_s (R:=((n4,Cl [Vi 0,Vi 0,Vi 0,Vi 0,Vi 0,Vi 0,Vi 0,Vi 0,Vi 0,Vi 0] 32)::(n3,Cl [Pt p 0,Vi tick] 70)::R)) hst2 id1 id2 h1.lt h2.lt) locqc)) ?_ U Ad)⟩;rintro _ _ ⟨⟨id3,ee3,v3,ns3⟩,⟨rfl,hc3,hst3⟩,rfl⟩
 dsimp only at hc3 hst3
 refine⟨sbt,(rPt 2 U ?_)⟩;refine o_p rfl (As (evq2 rfl rfl) call48 (Hp id3 ee3 (errV 12) (fun he=>by rw[(Co hc3 he).2.2.1]))) ?_ (by rintro _ ⟨he,rfl⟩;obtain⟨e3, -, -,rfl⟩:=Co hc3 he;(repeat refine By ?_);exact Bi ⟨(by intro a1 n1 f1;cases e1.symm.trans f1;intro a2 n2 f2;cases e2.symm.trans f2;intro a3 n3 f3;cases e3.symm.trans f3),sbt⟩ (List.Sublist.refl _)) rfl Ad;rintro _ _ ⟨⟨⟩,⟨rfl,he3⟩,rfl⟩;have e3:=Ho hc3 he3;obtain⟨g3,h3⟩:=hs_or hst2.w h1 h2 e3;have h1:=h1.gr hst2.w g3;have h2:=h2.gr hst2.w g3;refine⟨sbt,?_⟩;refine o_e U (Ah (evq3 U U U) call45 (Ix (D:=(NewD fl 200000 dx db p mp)) hst3 hb U (by repeat (first|exact List.sublist_append_left _ _|refine List.Sublist.cons _ ?_)) (hE.bits.mono sbt) tick id3 id1 h3.lt h1.lt)) ?_ U Ad;rintro _ _ ⟨rfl,rfl⟩;refine⟨sbt,(rPt 2 U (Av U (e_ (Oq U U sizeOf32 .agg (Bc _) (Af (Ch _ _ _ _)) updq (by rw[Af (Ch _ _ _ _)];rfl)) ?_ U)))⟩;rintro _ _ ⟨rfl,rfl⟩;refine rOt 4 U (Bs U (.cellA (Aa U) isAgg32 sizeOf32 (Af (Ch _ _ _ _)) qcs (Ol U)) ?_);exact⟨_,⟨⟨dfH ns3 (bsF fl) id3 id1,!decide (id3≠id1),rfl,Ch _ _ _ _,ask_inc (I3 hb hst3.w h3 h1)⟩,sbt⟩,sb0⟩
abbrev Kf (fl:List Fd) (tick:Int) (p1:Po):Prop:=∀ a1 n1,PF fl tick p1 (N0 fl)=some (a1,n1)->∀ a2 n2,PF fl tick (.fil .fls) n1=some (a2,n2)->False
theorem qempty_s {fl:List Fd}(hfl:FlOk fl)(tick:Int){m1:Pom}{p1:Po}(hI1:IsO fl m1 p1)(hF1:p1.Fit (bsF fl))(hM1:PoM w0 H m1){b1:Nat}(f1:Fnd H b1 (Cl (encPo m1) 28)):QuS w0 fl tick 54 [Pt b1 0] 12 (Ans (AskP tick 3 p1 p1)) (Kf fl tick p1) H:=by
 intro dx db p mp v R hR hst hE;have hb:=Eg hfl;show FSpecP prog w0 54 #[Value.agg #[Pt p 0,Vi tick],Pt b1 0] _ _ _ _;refine Bj func54 U ntmps54 U (rDt 2 U (e_ (Ot U cs_) ?_ U));rintro _ _ ⟨n2,rfl,rfl⟩;refine e_ (Ag zeroValue32 cs_) ?_ U;rintro _ _ ⟨n3,rfl,rfl⟩;refine rOt 4 U (Bf 9 [(0,true),(1,true),(2,true),(4,true),(3,false),(5,false),(6,false),(7,true),(8,true)] ((n3,Cl [Vi 0,Vi 0,Vi 0,Vi 0,Vi 0,Vi 0,Vi 0,Vi 0,Vi 0,Vi 0] 32)::(n2,Cl [Pt p 0,Vi tick] 70)::R) mixd qkr sbt ?_ B1);refine o_y U (On U isAgg70 sizeOf70 U (by exact Ae fndq)) ?_ U Ad;refine o_y U (On U isAgg70 sizeOf70 U (by exact Ae fndq)) ?_ U Ad;refine o_y U (On U isAgg28 sizeOf28 U (by exact Ae (Fnd.mono f1 (List.Sublist.trans hR sbt)))) ?_ U Ad;refine o_y U (On U isAgg70 sizeOf70 U (by exact Ae fndq)) ?_ U Ad;refine o_p rfl (As (evq2 rfl rfl) call46 (A5 (M:=SM (NewD fl 200000 dx db p mp) v (nsE (2*(bsF fl).length))) (E5 (R:=((n3,Cl [Vi 0,Vi 0,Vi 0,Vi 0,Vi 0,Vi 0,Vi 0,Vi 0,Vi 0,Vi 0] 32)::(n2,Cl [Pt p 0,Vi tick] 70)::R)) hst (hE.mono sbt) m1 p1 hI1 hF1 (hM1.mono (List.Sublist.trans hR sbt)) tick) locqc)) ?_ (by rintro _ ⟨⟨v9,n9⟩,⟨e1,g9,hst9⟩,rfl⟩;(repeat refine By ?_);exact Bi ⟨(by intro a1 n1 f1;cases e1.symm.trans f1),sbt⟩ (List.Sublist.refl _)) rfl Ad;rintro _ _ ⟨⟨id1,v1,ns1⟩,⟨rfl,e1,hst1⟩,rfl⟩
 dsimp only at e1 hst1
 obtain⟨g1,h1⟩:=Dt hb hF1 hst.w e1;refine⟨sbt,?_⟩;refine o_p rfl (As (evq1 rfl) call55 (A5 (M:=SM (NewD fl 200000 dx db p mp) v1 ns1) (qnone_s (R:=((n3,Cl [Vi 0,Vi 0,Vi 0,Vi 0,Vi 0,Vi 0,Vi 0,Vi 0,Vi 0,Vi 0] 32)::(n2,Cl [Pt p 0,Vi tick] 70)::R)) hst1 (hE.mono sbt) tick) locqc)) ?_ (by rintro _ ⟨⟨v9,n9⟩,⟨e2,g9,hst9⟩,rfl⟩;(repeat refine By ?_);exact Bi ⟨(by intro a1 n1 f1;cases e1.symm.trans f1;intro a2 n2 f2;cases e2.symm.trans f2),sbt⟩ (List.Sublist.refl _)) rfl Ad;rintro _ _ ⟨⟨id2,v2,ns2⟩,⟨rfl,e2,hst2⟩,rfl⟩
 dsimp only at e2 hst2
 obtain⟨g2,h2⟩:=Dt hb (p:= .fil .fls) trivial hst1.w e2;have h1:=h1.gr hst1.w g2;refine⟨sbt,?_⟩;refine o_e U (Ah (evq3 U U U) call45 (Ix (D:=(NewD fl 200000 dx db p mp)) hst2 hb U (by repeat (first|exact List.sublist_append_left _ _|refine List.Sublist.cons _ ?_)) (hE.bits.mono sbt) tick id1 id2 h1.lt h2.lt)) ?_ U Ad;rintro _ _ ⟨rfl,rfl⟩;refine⟨sbt,(rPt 2 U (Av U (e_ (Oq U U sizeOf32 .agg (Bc _) (Af (Ch _ _ _ _)) updq (by rw[Af (Ch _ _ _ _)];rfl)) ?_ U)))⟩;rintro _ _ ⟨rfl,rfl⟩;refine rOt 4 U (Bs U (.cellA (Aa U) isAgg32 sizeOf32 (Af (Ch _ _ _ _)) qcs (Ol U)) ?_);exact⟨_,⟨⟨dfH ns2 (bsF fl) id1 id2,!decide (id1≠id2),rfl,Ch _ _ _ _,ask_none (I3 hb hst2.w h1 h2)⟩,sbt⟩,sb0⟩
abbrev Kg (fl:List Fd) (tick:Int) (p1:Po):Prop:=∀ a1 n1,PF fl tick p1 (N0 fl)=some (a1,n1)->∀ a2 n2,domF 200000 (bsF fl) n1 a1=some (a2,n2)->∀ a3 n3,PF fl tick (.fil .tru) n2=some (a3,n3)->False
theorem qtotal_s {fl:List Fd}(hfl:FlOk fl)(tick:Int){m1:Pom}{p1:Po}(hI1:IsO fl m1 p1)(hF1:p1.Fit (bsF fl))(hM1:PoM w0 H m1){b1:Nat}(f1:Fnd H b1 (Cl (encPo m1) 28)):QuS w0 fl tick 56 [Pt b1 0] 12 (Ans (AskP tick 4 p1 p1)) (Kg fl tick p1) H:=by
 intro dx db p mp v R hR hst hE;have hb:=Eg hfl;show FSpecP prog w0 56 #[Value.agg #[Pt p 0,Vi tick],Pt b1 0] _ _ _ _;refine Bj func56 U ntmps56 U (rDt 2 U (e_ (Ot U cs_) ?_ U));rintro _ _ ⟨n2,rfl,rfl⟩;refine e_ (Ag zeroValue32 cs_) ?_ U;rintro _ _ ⟨n3,rfl,rfl⟩;refine rOt 4 U (Bf 11 (plq4 [(6,true),(4,false),(5,false),(7,false),(8,false),(9,true),(10,true)]) ((n3,Cl [Vi 0,Vi 0,Vi 0,Vi 0,Vi 0,Vi 0,Vi 0,Vi 0,Vi 0,Vi 0] 32)::(n2,Cl [Pt p 0,Vi tick] 70)::R) mixd qkr sbt ?_ B1);refine o_y U (On U isAgg70 sizeOf70 U (by exact Ae fndq)) ?_ U Ad;refine o_y U (On U isAgg70 sizeOf70 U (by exact Ae fndq)) ?_ U Ad;refine o_y U (On U isAgg70 sizeOf70 U (by exact Ae fndq)) ?_ U Ad;refine o_y U (On U isAgg28 sizeOf28 U (by exact Ae (Fnd.mono f1 (List.Sublist.trans hR sbt)))) ?_ U Ad;refine o_y U (On U isAgg70 sizeOf70 U (by exact Ae fndq)) ?_ U Ad;refine o_p rfl (As (evq2 rfl rfl) call46 (A5 (M:=SM (NewD fl 200000 dx db p mp) v (nsE (2*(bsF fl).length))) (E5 (R:=((n3,Cl [Vi 0,Vi 0,Vi 0,Vi 0,Vi 0,Vi 0,Vi 0,Vi 0,Vi 0,Vi 0] 32)::(n2,Cl [Pt p 0,Vi tick] 70)::R)) hst (hE.mono sbt) m1 p1 hI1 hF1 (hM1.mono (List.Sublist.trans hR sbt)) tick) locqc)) ?_ (by rintro _ ⟨⟨v9,n9⟩,⟨e1,g9,hst9⟩,rfl⟩;(repeat refine By ?_);exact Bi ⟨(by intro a1 n1 f1;cases e1.symm.trans f1),sbt⟩ (List.Sublist.refl _)) rfl Ad;rintro _ _ ⟨⟨id1,v1,ns1⟩,⟨rfl,e1,hst1⟩,rfl⟩
 dsimp only at e1 hst1
 obtain⟨g1,h1⟩:=Dt hb hF1 hst.w e1;refine⟨sbt,?_⟩;refine o_p rfl (As (evq2 rfl rfl) call57 (A5 (M:=SM (NewD fl 200000 dx db p mp) v1 ns1) (qdom_s (R:=((n3,Cl [Vi 0,Vi 0,Vi 0,Vi 0,Vi 0,Vi 0,Vi 0,Vi 0,Vi 0,Vi 0] 32)::(n2,Cl [Pt p 0,Vi tick] 70)::R)) hst1 (hE.mono sbt) tick id1 h1.lt) locqc)) ?_ (by rintro _ ⟨⟨v9,n9⟩,⟨e2,g9,hst9⟩,rfl⟩;(repeat refine By ?_);exact Bi ⟨(by intro a1 n1 f1;cases e1.symm.trans f1;intro a2 n2 f2;cases e2.symm.trans f2),sbt⟩ (List.Sublist.refl _)) rfl Ad;rintro _ _ ⟨⟨id2,v2,ns2⟩,⟨rfl,e2,hst2⟩,rfl⟩
 dsimp only at e2 hst2
 obtain⟨g2,h2⟩:=hs_dom hb hst1.w h1 e2;have h1:=h1.gr hst1.w g2;refine⟨sbt,?_⟩;refine o_p rfl (As (evq1 rfl) call58 (A5 (M:=SM (NewD fl 200000 dx db p mp) v2 ns2) (qall_s (R:=((n3,Cl [Vi 0,Vi 0,Vi 0,Vi 0,Vi 0,Vi 0,Vi 0,Vi 0,Vi 0,Vi 0] 32)::(n2,Cl [Pt p 0,Vi tick] 70)::R)) hst2 (hE.mono sbt) tick) locqc)) ?_ (by rintro _ ⟨⟨v9,n9⟩,⟨e3,g9,hst9⟩,rfl⟩;(repeat refine By ?_);exact Bi ⟨(by intro a1 n1 f1;cases e1.symm.trans f1;intro a2 n2 f2;cases e2.symm.trans f2;intro a3 n3 f3;cases e3.symm.trans f3),sbt⟩ (List.Sublist.refl _)) rfl Ad;rintro _ _ ⟨⟨id3,v3,ns3⟩,⟨rfl,e3,hst3⟩,rfl⟩
 dsimp only at e3 hst3
 obtain⟨g3,h3⟩:=Dt hb (p:= .fil .tru) trivial hst2.w e3;have h1:=h1.gr hst2.w g3;have h2:=h2.gr hst2.w g3;refine⟨sbt,?_⟩;refine o_e U (Ah (evq3 U U U) call45 (Ix (D:=(NewD fl 200000 dx db p mp)) hst3 hb U (by repeat (first|exact List.sublist_append_left _ _|refine List.Sublist.cons _ ?_)) (hE.bits.mono sbt) tick id2 id3 h2.lt h3.lt)) ?_ U Ad;rintro _ _ ⟨rfl,rfl⟩;refine⟨sbt,(rPt 2 U (Av U (e_ (Oq U U sizeOf32 .agg (Bc _) (Af (Ch _ _ _ _)) updq (by rw[Af (Ch _ _ _ _)];rfl)) ?_ U)))⟩;rintro _ _ ⟨rfl,rfl⟩;refine rOt 4 U (Bs U (.cellA (Aa U) isAgg32 sizeOf32 (Af (Ch _ _ _ _)) qcs (Ol U)) ?_);exact⟨_,⟨⟨dfH ns3 (bsF fl) id2 id3,!decide (id2≠id3),rfl,Ch _ _ _ _,ask_tot (I3 hb hst3.w h2 h3)⟩,sbt⟩,sb0⟩
abbrev Kh (fl:List Fd) (tick:Int) (p1 p2:Po):Prop:=∀ a1 n1,PF fl tick p1 (N0 fl)=some (a1,n1)->∀ a2 n2,domF 200000 (bsF fl) n1 a1=some (a2,n2)->∀ a3 n3,PF fl tick p2 n2=some (a3,n3)->∀ a4 n4,domF 200000 (bsF fl) n3 a3=some (a4,n4)->∀ a5 n5,seA 200000 n4 a2 a4=some (a5,n5)->∀ a6 n6,PF fl tick (.fil .fls) n5=some (a6,n6)->False
theorem qapart_s {fl:List Fd}(hfl:FlOk fl)(tick:Int){m1:Pom}{p1:Po}(hI1:IsO fl m1 p1)(hF1:p1.Fit (bsF fl))(hM1:PoM w0 H m1){b1:Nat}(f1:Fnd H b1 (Cl (encPo m1) 28)){m2:Pom}{p2:Po}(hI2:IsO fl m2 p2)(hF2:p2.Fit (bsF fl))(hM2:PoM w0 H m2){b2:Nat}(f2:Fnd H b2 (Cl (encPo m2) 28)):QuS w0 fl tick 64 [Pt b1 0,Pt b2 0] 12 (Ans (AskP tick 6 p1 p2)) (Kh fl tick p1 p2) H:=by
 intro dx db p mp v R hR hst hE;have hb:=Eg hfl;show FSpecP prog w0 64 #[Value.agg #[Pt p 0,Vi tick],Pt b1 0,Pt b2 0] _ _ _ _;refine Bj func64 U ntmps64 U (rDt 2 U (e_ (Ot U cs_) ?_ U));rintro _ _ ⟨n3,rfl,rfl⟩;refine e_ (Ag zeroValue32 cs_) ?_ U;rintro _ _ ⟨n4,rfl,rfl⟩;refine rOt 4 U (Bf 22 (plq6 [(8,true),(9,true),(10,true),(17,true),(6,false),(7,false),(11,false),(12,false),(13,false),(14,true),(15,true),(16,false),(18,false),(19,false),(20,true),(21,true)]) ((n4,Cl [Vi 0,Vi 0,Vi 0,Vi 0,Vi 0,Vi 0,Vi 0,Vi 0,Vi 0,Vi 0] 32)::(n3,Cl [Pt p 0,Vi tick] 70)::R) mixd qkr sbt ?_ B1);refine o_y U (On U isAgg70 sizeOf70 U (by exact Ae fndq)) ?_ U Ad;refine rPt 1 U ?_;refine o_y U (Om U isAgg68 qco) ?_ U Ad;refine o_y U (On U isAgg70 sizeOf70 U (by exact Ae fndq)) ?_ U Ad;refine o_y U (On U isAgg70 sizeOf70 U (by exact Ae fndq)) ?_ U Ad;refine o_y U (On U isAgg28 sizeOf28 U (by exact Ae (Fnd.mono f1 (List.Sublist.trans hR sbt)))) ?_ U Ad;refine o_y U (On U isAgg70 sizeOf70 U (by exact Ae fndq)) ?_ U Ad;refine o_y U (On U isAgg70 sizeOf70 U (by exact Ae fndq)) ?_ U Ad;refine o_y U (On U isAgg28 sizeOf28 U (by exact Ae (Fnd.mono f2 (List.Sublist.trans hR sbt)))) ?_ U Ad;refine o_y U (On U isAgg70 sizeOf70 U (by exact Ae fndq)) ?_ U Ad;refine o_p rfl (As (evq2 rfl rfl) call46 (A5 (M:=SM (NewD fl 200000 dx db p mp) v (nsE (2*(bsF fl).length))) (E5 (R:=((n4,Cl [Vi 0,Vi 0,Vi 0,Vi 0,Vi 0,Vi 0,Vi 0,Vi 0,Vi 0,Vi 0] 32)::(n3,Cl [Pt p 0,Vi tick] 70)::R)) hst (hE.mono sbt) m1 p1 hI1 hF1 (hM1.mono (List.Sublist.trans hR sbt)) tick) locqc)) ?_ (by rintro _ ⟨⟨v9,n9⟩,⟨e1,g9,hst9⟩,rfl⟩;(repeat refine By ?_);exact Bi ⟨(by intro a1 n1 f1;cases e1.symm.trans f1),sbt⟩ (List.Sublist.refl _)) rfl Ad;rintro _ _ ⟨⟨id1,v1,ns1⟩,⟨rfl,e1,hst1⟩,rfl⟩
 dsimp only at e1 hst1
 obtain⟨g1,h1⟩:=Dt hb hF1 hst.w e1;refine⟨sbt,?_⟩;refine o_p rfl (As (evq2 rfl rfl) call57 (A5 (M:=SM (NewD fl 200000 dx db p mp) v1 ns1) (qdom_s (R:=((n4,Cl [Vi 0,Vi 0,Vi 0,Vi 0,Vi 0,Vi 0,Vi 0,Vi 0,Vi 0,Vi 0] 32)::(n3,Cl [Pt p 0,Vi tick] 70)::R)) hst1 (hE.mono sbt) tick id1 h1.lt) locqc)) ?_ (by rintro _ ⟨⟨v9,n9⟩,⟨e2,g9,hst9⟩,rfl⟩;(repeat refine By ?_);exact Bi ⟨(by intro a1 n1 f1;cases e1.symm.trans f1;intro a2 n2 f2;cases e2.symm.trans f2),sbt⟩ (List.Sublist.refl _)) rfl Ad;rintro _ _ ⟨⟨id2,v2,ns2⟩,⟨rfl,e2,hst2⟩,rfl⟩
 dsimp only at e2 hst2
 obtain⟨g2,h2⟩:=hs_dom hb hst1.w h1 e2;have h1:=h1.gr hst1.w g2;refine⟨sbt,?_⟩;refine o_p rfl (As (evq2 rfl rfl) call46 (A5 (M:=SM (NewD fl 200000 dx db p mp) v2 ns2) (E5 (R:=((n4,Cl [Vi 0,Vi 0,Vi 0,Vi 0,Vi 0,Vi 0,Vi 0,Vi 0,Vi 0,Vi 0] 32)::(n3,Cl [Pt p 0,Vi tick] 70)::R)) hst2 (hE.mono sbt) m2 p2 hI2 hF2 (hM2.mono (List.Sublist.trans hR sbt)) tick) locqc)) ?_ (by rintro _ ⟨⟨v9,n9⟩,⟨e3,g9,hst9⟩,rfl⟩;(repeat refine By ?_);exact Bi ⟨(by intro a1 n1 f1;cases e1.symm.trans f1;intro a2 n2 f2;cases e2.symm.trans f2;intro a3 n3 f3;cases e3.symm.trans f3),sbt⟩ (List.Sublist.refl _)) rfl Ad;rintro _ _ ⟨⟨id3,v3,ns3⟩,⟨rfl,e3,hst3⟩,rfl⟩
 dsimp only at e3 hst3
 obtain⟨g3,h3⟩:=Dt hb hF2 hst2.w e3;have h1:=h1.gr hst2.w g3;have h2:=h2.gr hst2.w g3;refine⟨sbt,?_⟩;refine o_p rfl (As (evq2 rfl rfl) call57 (A5 (M:=SM (NewD fl 200000 dx db p mp) v3 ns3) (qdom_s (R:=((n4,Cl [Vi 0,Vi 0,Vi 0,Vi 0,Vi 0,Vi 0,Vi 0,Vi 0,Vi 0,Vi 0] 32)::(n3,Cl [Pt p 0,Vi tick] 70)::R)) hst3 (hE.mono sbt) tick id3 h3.lt) locqc)) ?_ (by rintro _ ⟨⟨v9,n9⟩,⟨e4,g9,hst9⟩,rfl⟩;(repeat refine By ?_);exact Bi ⟨(by intro a1 n1 f1;cases e1.symm.trans f1;intro a2 n2 f2;cases e2.symm.trans f2;intro a3 n3 f3;cases e3.symm.trans f3;intro a4 n4 f4;cases e4.symm.trans f4),sbt⟩ (List.Sublist.refl _)) rfl Ad;rintro _ _ ⟨⟨id4,v4,ns4⟩,⟨rfl,e4,hst4⟩,rfl⟩
 dsimp only at e4 hst4
 obtain⟨g4,h4⟩:=hs_dom hb hst3.w h3 e4;have h1:=h1.gr hst3.w g4;have h2:=h2.gr hst3.w g4;have h3:=h3.gr hst3.w g4;refine⟨sbt,(o_e U (Ah (evq3 U U U) call65 (B7 (M:=SM (NewD fl 200000 dx db p mp) v4 ns4) (sequ_s (R:=((n4,Cl [Vi 0,Vi 0,Vi 0,Vi 0,Vi 0,Vi 0,Vi 0,Vi 0,Vi 0,Vi 0] 32)::(n3,Cl [Pt p 0,Vi tick] 70)::R)) hst4 id2 id4 h2.lt h4.lt) locqc)) ?_ U Ad)⟩;rintro _ _ ⟨⟨id5,ee5,v5,ns5⟩,⟨rfl,hc5,hst5⟩,rfl⟩
 dsimp only at hc5 hst5
 refine⟨sbt,(rPt 2 U ?_)⟩;refine o_p rfl (As (evq2 rfl rfl) call48 (Hp id5 ee5 (errV 12) (fun he=>by rw[(Co hc5 he).2.2.1]))) ?_ (by rintro _ ⟨he,rfl⟩;obtain⟨e5, -, -,rfl⟩:=Co hc5 he;(repeat refine By ?_);exact Bi ⟨(by intro a1 n1 f1;cases e1.symm.trans f1;intro a2 n2 f2;cases e2.symm.trans f2;intro a3 n3 f3;cases e3.symm.trans f3;intro a4 n4 f4;cases e4.symm.trans f4;intro a5 n5 f5;cases e5.symm.trans f5),sbt⟩ (List.Sublist.refl _)) rfl Ad;rintro _ _ ⟨⟨⟩,⟨rfl,he5⟩,rfl⟩;have e5:=Ho hc5 he5;obtain⟨g5,h5⟩:=hs_seq hb hst4.w h2 h4 e5;have h1:=h1.gr hst4.w g5;have h2:=h2.gr hst4.w g5;have h3:=h3.gr hst4.w g5;have h4:=h4.gr hst4.w g5;refine⟨sbt,?_⟩;refine o_p rfl (As (evq1 rfl) call55 (A5 (M:=SM (NewD fl 200000 dx db p mp) v5 ns5) (qnone_s (R:=((n4,Cl [Vi 0,Vi 0,Vi 0,Vi 0,Vi 0,Vi 0,Vi 0,Vi 0,Vi 0,Vi 0] 32)::(n3,Cl [Pt p 0,Vi tick] 70)::R)) hst5 (hE.mono sbt) tick) locqc)) ?_ (by rintro _ ⟨⟨v9,n9⟩,⟨e6,g9,hst9⟩,rfl⟩;(repeat refine By ?_);exact Bi ⟨(by intro a1 n1 f1;cases e1.symm.trans f1;intro a2 n2 f2;cases e2.symm.trans f2;intro a3 n3 f3;cases e3.symm.trans f3;intro a4 n4 f4;cases e4.symm.trans f4;intro a5 n5 f5;cases e5.symm.trans f5;intro a6 n6 f6;cases e6.symm.trans f6),sbt⟩ (List.Sublist.refl _)) rfl Ad;rintro _ _ ⟨⟨id6,v6,ns6⟩,⟨rfl,e6,hst6⟩,rfl⟩
 dsimp only at e6 hst6
 obtain⟨g6,h6⟩:=Dt hb (p:= .fil .fls) trivial hst5.w e6;have h1:=h1.gr hst5.w g6;have h2:=h2.gr hst5.w g6;have h3:=h3.gr hst5.w g6;have h4:=h4.gr hst5.w g6;have h5:=h5.gr hst5.w g6;refine⟨sbt,?_⟩;refine o_e U (Ah (evq3 U U U) call45 (Ix (D:=(NewD fl 200000 dx db p mp)) hst6 hb U (by repeat (first|exact List.sublist_append_left _ _|refine List.Sublist.cons _ ?_)) (hE.bits.mono sbt) tick id5 id6 h5.lt h6.lt)) ?_ U Ad;rintro _ _ ⟨rfl,rfl⟩;refine⟨sbt,(rPt 2 U (Av U (e_ (Oq U U sizeOf32 .agg (Bc _) (Af (Ch _ _ _ _)) updq (by rw[Af (Ch _ _ _ _)];rfl)) ?_ U)))⟩;rintro _ _ ⟨rfl,rfl⟩;refine rOt 4 U (Bs U (.cellA (Aa U) isAgg32 sizeOf32 (Af (Ch _ _ _ _)) qcs (Ol U)) ?_);exact⟨_,⟨⟨dfH ns6 (bsF fl) id5 id6,!decide (id5≠id6),rfl,Ch _ _ _ _,ask_apart (I3 hb hst6.w h5 h6)⟩,sbt⟩,sb0⟩
abbrev Ky (fl:List Fd) (tick:Int) (p1 p2:Po):Prop:=∀ a1 n1,PF fl tick p1 (N0 fl)=some (a1,n1)->∀ a2 n2,PF fl tick p2 n1=some (a2,n2)->∀ a3 n3,seA 200000 n2 a1 a2=some (a3,n3)->∀ a4 n4,seA 200000 n3 a2 a1=some (a4,n4)->∀ a5 n5,orF 200000 n4 a3 a4=some (a5,n5)->∀ a6 n6,PF fl tick (.fil .fls) n5=some (a6,n6)->False
theorem qslc_s {fl:List Fd}(hfl:FlOk fl)(tick:Int){m1:Pom}{p1:Po}(hI1:IsO fl m1 p1)(hF1:p1.Fit (bsF fl))(hM1:PoM w0 H m1){b1:Nat}(f1:Fnd H b1 (Cl (encPo m1) 28)){m2:Pom}{p2:Po}(hI2:IsO fl m2 p2)(hF2:p2.Fit (bsF fl))(hM2:PoM w0 H m2){b2:Nat}(f2:Fnd H b2 (Cl (encPo m2) 28)):QuS w0 fl tick 69 [Pt b1 0,Pt b2 0] 12 (Ans (SlcP tick p1 p2)) (Ky fl tick p1 p2) H:=by
 intro dx db p mp v R hR hst hE;have hb:=Eg hfl;show FSpecP prog w0 69 #[Value.agg #[Pt p 0,Vi tick],Pt b1 0,Pt b2 0] _ _ _ _;refine Bj func69 U ntmps69 U (rDt 2 U (e_ (Ot U cs_) ?_ U));rintro _ _ ⟨n3,rfl,rfl⟩;refine e_ (Ag zeroValue32 cs_) ?_ U;rintro _ _ ⟨n4,rfl,rfl⟩;refine rOt 4 U (Bf 5 [(0,true),(1,true),(3,true),(4,true),(2,false)] ((n4,Cl [Vi 0,Vi 0,Vi 0,Vi 0,Vi 0,Vi 0,Vi 0,Vi 0,Vi 0,Vi 0] 32)::(n3,Cl [Pt p 0,Vi tick] 70)::R) mixd qkr sbt ?_ B1);refine o_y U (On U isAgg70 sizeOf70 U (by exact Ae fndq)) ?_ U Ad;refine o_y U (On U isAgg28 sizeOf28 U (by exact Ae (Fnd.mono f1 (List.Sublist.trans hR sbt)))) ?_ U Ad;refine o_y U (On U isAgg70 sizeOf70 U (by exact Ae fndq)) ?_ U Ad;refine o_y U (On U isAgg28 sizeOf28 U (by exact Ae (Fnd.mono f2 (List.Sublist.trans hR sbt)))) ?_ U Ad;refine o_p rfl (As (evq2 rfl rfl) call46 (A5 (M:=SM (NewD fl 200000 dx db p mp) v (nsE (2*(bsF fl).length))) (E5 (R:=((n4,Cl [Vi 0,Vi 0,Vi 0,Vi 0,Vi 0,Vi 0,Vi 0,Vi 0,Vi 0,Vi 0] 32)::(n3,Cl [Pt p 0,Vi tick] 70)::R)) hst (hE.mono sbt) m1 p1 hI1 hF1 (hM1.mono (List.Sublist.trans hR sbt)) tick) locqc)) ?_ (by rintro _ ⟨⟨v9,n9⟩,⟨e1,g9,hst9⟩,rfl⟩;(repeat refine By ?_);exact Bi ⟨(by intro a1 n1 f1;cases e1.symm.trans f1),sbt⟩ (List.Sublist.refl _)) rfl Ad;rintro _ _ ⟨⟨id1,v1,ns1⟩,⟨rfl,e1,hst1⟩,rfl⟩
 dsimp only at e1 hst1
 obtain⟨g1,h1⟩:=Dt hb hF1 hst.w e1;refine⟨sbt,(Av U ?_)⟩;refine p_ (As (evq2 rfl rfl) call46 (A5 (M:=SM (NewD fl 200000 dx db p mp) v1 ns1) (E5 (R:=((n4,Cl [Vi 0,Vi 0,Vi 0,Vi 0,Vi 0,Vi 0,Vi 0,Vi 0,Vi 0,Vi 0] 32)::(n3,Cl [Pt p 0,Vi tick] 70)::R)) hst1 (hE.mono sbt) m2 p2 hI2 hF2 (hM2.mono (List.Sublist.trans hR sbt)) tick) locqc)) ?_ (by rintro _ ⟨⟨v9,n9⟩,⟨e2,g9,hst9⟩,rfl⟩;(repeat refine By ?_);exact Bi ⟨(by intro a1 n1 f1;cases e1.symm.trans f1;intro a2 n2 f2;cases e2.symm.trans f2),sbt⟩ (List.Sublist.refl _)) rfl;rintro _ _ ⟨⟨id2,v2,ns2⟩,⟨rfl,e2,hst2⟩,rfl⟩
 dsimp only at e2 hst2
 obtain⟨g2,h2⟩:=Dt hb hF2 hst1.w e2;have h1:=h1.gr hst1.w g2;refine rOt 5 U (Bf 28 (plq7 [(11,true),(12,true),(13,true),(14,true),(23,true),(7,false),(8,true),(9,true),(10,false),(15,false),(16,true),(17,true),(18,false),(19,false),(20,true),(21,true),(22,false),(24,false),(25,false),(26,true),(27,true)]) ((n4,Cl [Vi 0,Vi 0,Vi 0,Vi 0,Vi 0,Vi 0,Vi 0,Vi 0,Vi 0,Vi 0] 32)::(n3,Cl [Pt p 0,Vi tick] 70)::R) mixd qkr sbt ?_ B1);refine o_y U (On U isAgg70 sizeOf70 U (by exact Ae fndq)) ?_ U Ad;refine rPt 1 U ?_;refine o_y U (Om U isAgg68 qco) ?_ U Ad;refine rPt 1 U ?_;refine o_y U (Om U isAgg68 qco) ?_ U Ad;refine rPt 3 U ?_;refine o_y U (Om U isAgg68 qco) ?_ U Ad;refine rPt 2 U ?_;refine o_y U (On U isAgg70 sizeOf70 U (by exact Ae fndq)) ?_ U Ad;refine o_e U (Ah (evq3 U U U) call65 (B7 (M:=SM (NewD fl 200000 dx db p mp) v2 ns2) (sequ_s (R:=((n4,Cl [Vi 0,Vi 0,Vi 0,Vi 0,Vi 0,Vi 0,Vi 0,Vi 0,Vi 0,Vi 0] 32)::(n3,Cl [Pt p 0,Vi tick] 70)::R)) hst2 id1 id2 h1.lt h2.lt) locqc)) ?_ U Ad;rintro _ _ ⟨⟨id3,ee3,v3,ns3⟩,⟨rfl,hc3,hst3⟩,rfl⟩
 dsimp only at hc3 hst3
 refine⟨sbt,(rPt 2 U ?_)⟩;refine o_p rfl (As (evq2 rfl rfl) call48 (Hp id3 ee3 (errV 12) (fun he=>by rw[(Co hc3 he).2.2.1]))) ?_ (by rintro _ ⟨he,rfl⟩;obtain⟨e3, -, -,rfl⟩:=Co hc3 he;(repeat refine By ?_);exact Bi ⟨(by intro a1 n1 f1;cases e1.symm.trans f1;intro a2 n2 f2;cases e2.symm.trans f2;intro a3 n3 f3;cases e3.symm.trans f3),sbt⟩ (List.Sublist.refl _)) rfl Ad;rintro _ _ ⟨⟨⟩,⟨rfl,he3⟩,rfl⟩;have e3:=Ho hc3 he3;obtain⟨g3,h3⟩:=hs_seq hb hst2.w h1 h2 e3;have h1:=h1.gr hst2.w g3;have h2:=h2.gr hst2.w g3;refine⟨sbt,(o_e U (Ah (evq3 U U U) call65 (B7 (M:=SM (NewD fl 200000 dx db p mp) v3 ns3) (sequ_s (R:=((n4,Cl [Vi 0,Vi 0,Vi 0,Vi 0,Vi 0,Vi 0,Vi 0,Vi 0,Vi 0,Vi 0] 32)::(n3,Cl [Pt p 0,Vi tick] 70)::R)) hst3 id2 id1 h2.lt h1.lt) locqc)) ?_ U Ad)⟩;rintro _ _ ⟨⟨id4,ee4,v4,ns4⟩,⟨rfl,hc4,hst4⟩,rfl⟩
 dsimp only at hc4 hst4
 refine⟨sbt,(rPt 2 U ?_)⟩;refine o_p rfl (As (evq2 rfl rfl) call48 (Hp id4 ee4 (errV 12) (fun he=>by rw[(Co hc4 he).2.2.1]))) ?_ (by rintro _ ⟨he,rfl⟩;obtain⟨e4, -, -,rfl⟩:=Co hc4 he;(repeat refine By ?_);exact Bi ⟨(by intro a1 n1 f1;cases e1.symm.trans f1;intro a2 n2 f2;cases e2.symm.trans f2;intro a3 n3 f3;cases e3.symm.trans f3;intro a4 n4 f4;cases e4.symm.trans f4),sbt⟩ (List.Sublist.refl _)) rfl Ad;rintro _ _ ⟨⟨⟩,⟨rfl,he4⟩,rfl⟩;have e4:=Ho hc4 he4;obtain⟨g4,h4⟩:=hs_seq hb hst3.w h2 h1 e4;have h1:=h1.gr hst3.w g4;have h2:=h2.gr hst3.w g4;have h3:=h3.gr hst3.w g4;refine⟨sbt,(o_e U (Ah (evq3 U U U) call49 (B7 (M:=SM (NewD fl 200000 dx db p mp) v4 ns4) (union_s (R:=((n4,Cl [Vi 0,Vi 0,Vi 0,Vi 0,Vi 0,Vi 0,Vi 0,Vi 0,Vi 0,Vi 0] 32)::(n3,Cl [Pt p 0,Vi tick] 70)::R)) hst4 id3 id4 h3.lt h4.lt) locqc)) ?_ U Ad)⟩;rintro _ _ ⟨⟨id5,ee5,v5,ns5⟩,⟨rfl,hc5,hst5⟩,rfl⟩
 dsimp only at hc5 hst5
 refine⟨sbt,(rPt 2 U ?_)⟩;refine o_p rfl (As (evq2 rfl rfl) call48 (Hp id5 ee5 (errV 12) (fun he=>by rw[(Co hc5 he).2.2.1]))) ?_ (by rintro _ ⟨he,rfl⟩;obtain⟨e5, -, -,rfl⟩:=Co hc5 he;(repeat refine By ?_);exact Bi ⟨(by intro a1 n1 f1;cases e1.symm.trans f1;intro a2 n2 f2;cases e2.symm.trans f2;intro a3 n3 f3;cases e3.symm.trans f3;intro a4 n4 f4;cases e4.symm.trans f4;intro a5 n5 f5;cases e5.symm.trans f5),sbt⟩ (List.Sublist.refl _)) rfl Ad;rintro _ _ ⟨⟨⟩,⟨rfl,he5⟩,rfl⟩;have e5:=Ho hc5 he5;obtain⟨g5,h5⟩:=hs_or hst4.w h3 h4 e5;have h1:=h1.gr hst4.w g5;have h2:=h2.gr hst4.w g5;have h3:=h3.gr hst4.w g5;have h4:=h4.gr hst4.w g5;refine⟨sbt,?_⟩;refine o_p rfl (As (evq1 rfl) call55 (A5 (M:=SM (NewD fl 200000 dx db p mp) v5 ns5) (qnone_s (R:=((n4,Cl [Vi 0,Vi 0,Vi 0,Vi 0,Vi 0,Vi 0,Vi 0,Vi 0,Vi 0,Vi 0] 32)::(n3,Cl [Pt p 0,Vi tick] 70)::R)) hst5 (hE.mono sbt) tick) locqc)) ?_ (by rintro _ ⟨⟨v9,n9⟩,⟨e6,g9,hst9⟩,rfl⟩;(repeat refine By ?_);exact Bi ⟨(by intro a1 n1 f1;cases e1.symm.trans f1;intro a2 n2 f2;cases e2.symm.trans f2;intro a3 n3 f3;cases e3.symm.trans f3;intro a4 n4 f4;cases e4.symm.trans f4;intro a5 n5 f5;cases e5.symm.trans f5;intro a6 n6 f6;cases e6.symm.trans f6),sbt⟩ (List.Sublist.refl _)) rfl Ad;rintro _ _ ⟨⟨id6,v6,ns6⟩,⟨rfl,e6,hst6⟩,rfl⟩
 dsimp only at e6 hst6
 obtain⟨g6,h6⟩:=Dt hb (p:= .fil .fls) trivial hst5.w e6;have h1:=h1.gr hst5.w g6;have h2:=h2.gr hst5.w g6;have h3:=h3.gr hst5.w g6;have h4:=h4.gr hst5.w g6;have h5:=h5.gr hst5.w g6;refine⟨sbt,?_⟩;refine o_e U (Ah (evq3 U U U) call45 (Ix (D:=(NewD fl 200000 dx db p mp)) hst6 hb U (by repeat (first|exact List.sublist_append_left _ _|refine List.Sublist.cons _ ?_)) (hE.bits.mono sbt) tick id5 id6 h5.lt h6.lt)) ?_ U Ad;rintro _ _ ⟨rfl,rfl⟩;refine⟨sbt,(rPt 2 U (Av U (e_ (Oq U U sizeOf32 .agg (Bc _) (Af (Ch _ _ _ _)) updq (by rw[Af (Ch _ _ _ _)];rfl)) ?_ U)))⟩;rintro _ _ ⟨rfl,rfl⟩;refine kO tb 3 [4,5] rfl U (rGt 1 U (Bs U (.cellA (Aa U) isAgg32 sizeOf32 (Af (Ch _ _ _ _)) qcs (Ol U)) ?_));exact⟨_,⟨⟨dfH ns6 (bsF fl) id5 id6,!decide (id5≠id6),rfl,Ch _ _ _ _,ask_slc (I3 hb hst6.w h5 h6)⟩,sbt⟩,sb0⟩
theorem G3 {fl:List Fd}(hfl:FlOk fl)(q:Option Addr)(c:Nat)(hA:Arr w0 H q 3 encF fl)(tick:Int){m1:Pom}{p1:Po}(hI1:IsO fl m1 p1)(hF1:p1.Fit (bsF fl))(hM1:PoM w0 H m1){m2:Pom}{p2:Po}(hI2:IsO fl m2 p2)(hF2:p2.Fit (bsF fl))(hM2:PoM w0 H m2)  :
  FSpec prog w0 13 #[.slice q fl.length c, .agg (encPo m1).toArray, .agg (encPo m2).toArray,Vi tick] H (AskK (Ans (AskP tick 1 p1 p2)) 12 (G2 fl tick p1 p2) H):=by
 refine Am func13 U ntmps13 U (rDt 2 U (e_ (Ot U cs_) ?_ U));rintro _ _ ⟨n5,rfl,rfl⟩;refine e_ (Ot U cs_) ?_ U;rintro _ _ ⟨n6,rfl,rfl⟩;refine e_ (Ag zeroValue32 cs_) ?_ U;rintro _ _ ⟨n8,rfl,rfl⟩;refine rOt 8 U (y_ (Bn (.cons (T U) (.cons (T U) .nil))) ?_ U);refine e_ (Ah (evq3 U U U) call43 (K8 fl hfl q c (hA.mono sbt) tick 12 call44 (qeq_s hfl tick hI1 hF1 (hM1.mono sbt) fndq hI2 hF2 (hM2.mono sbt) fndq))) ?_ U;rintro _ _ ⟨⟨h,is,e9,rfl,hh,hR⟩,rfl⟩;refine rOt 3 U (e_ (Oq U U sizeOf32 .agg (Bc _) (Af hh) updq (by rw[Af hh];rfl)) ?_ U);rintro _ _ ⟨rfl,rfl⟩;refine rOt 5 U (Ai U (.cellA (Aa U) isAgg32 sizeOf32 (Af hh) qcs (.tmp (Aa U) (Ol U))) ?_);exact⟨_,⟨⟨h,is,e9,rfl,hh,hR⟩,rfl⟩,sbt⟩
theorem I4 {fl:List Fd}(hfl:FlOk fl)(q:Option Addr)(c:Nat)(hA:Arr w0 H q 3 encF fl)(tick:Int){m1:Pom}{p1:Po}(hI1:IsO fl m1 p1)(hF1:p1.Fit (bsF fl))(hM1:PoM w0 H m1){m2:Pom}{p2:Po}(hI2:IsO fl m2 p2)(hF2:p2.Fit (bsF fl))(hM2:PoM w0 H m2)  :
  FSpec prog w0 14 #[.slice q fl.length c, .agg (encPo m1).toArray, .agg (encPo m2).toArray,Vi tick] H (AskK (Ans (AskP tick 2 p1 p2)) 12 (Kx fl tick p1 p2) H):=by
 refine Am func14 U ntmps14 U (rDt 2 U (e_ (Ot U cs_) ?_ U));rintro _ _ ⟨n5,rfl,rfl⟩;refine e_ (Ot U cs_) ?_ U;rintro _ _ ⟨n6,rfl,rfl⟩;refine e_ (Ag zeroValue32 cs_) ?_ U;rintro _ _ ⟨n8,rfl,rfl⟩;refine rOt 8 U (y_ (Bn (.cons (T U) (.cons (T U) .nil))) ?_ U);refine e_ (Ah (evq3 U U U) call43 (K8 fl hfl q c (hA.mono sbt) tick 12 call47 (qinc_s hfl tick hI1 hF1 (hM1.mono sbt) fndq hI2 hF2 (hM2.mono sbt) fndq))) ?_ U;rintro _ _ ⟨⟨h,is,e9,rfl,hh,hR⟩,rfl⟩;refine rOt 3 U (e_ (Oq U U sizeOf32 .agg (Bc _) (Af hh) updq (by rw[Af hh];rfl)) ?_ U);rintro _ _ ⟨rfl,rfl⟩;refine rOt 5 U (Ai U (.cellA (Aa U) isAgg32 sizeOf32 (Af hh) qcs (.tmp (Aa U) (Ol U))) ?_);exact⟨_,⟨⟨h,is,e9,rfl,hh,hR⟩,rfl⟩,sbt⟩
theorem eempty_s {fl:List Fd}(hfl:FlOk fl)(q:Option Addr)(c:Nat)(hA:Arr w0 H q 3 encF fl)(tick:Int){m1:Pom}{p1:Po}(hI1:IsO fl m1 p1)(hF1:p1.Fit (bsF fl))(hM1:PoM w0 H m1)  :
  FSpec prog w0 17 #[.slice q fl.length c, .agg (encPo m1).toArray,Vi tick] H (AskK (Ans (AskP tick 3 p1 p1)) 12 (Kf fl tick p1) H):=by
 refine Am func17 U ntmps17 U (rDt 2 U (e_ (Ot U cs_) ?_ U));rintro _ _ ⟨n4,rfl,rfl⟩;refine e_ (Ag zeroValue32 cs_) ?_ U;rintro _ _ ⟨n6,rfl,rfl⟩;refine rOt 8 U (y_ (Bn (.cons (T U) .nil)) ?_ U);refine e_ (Ah (evq3 U U U) call43 (K8 fl hfl q c (hA.mono sbt) tick 12 call54 (qempty_s hfl tick hI1 hF1 (hM1.mono sbt) fndq))) ?_ U;rintro _ _ ⟨⟨h,is,e9,rfl,hh,hR⟩,rfl⟩;refine rOt 3 U (e_ (Oq U U sizeOf32 .agg (Bc _) (Af hh) updq (by rw[Af hh];rfl)) ?_ U);rintro _ _ ⟨rfl,rfl⟩;refine rOt 5 U (Ai U (.cellA (Aa U) isAgg32 sizeOf32 (Af hh) qcs (.tmp (Aa U) (Ol U))) ?_);exact⟨_,⟨⟨h,is,e9,rfl,hh,hR⟩,rfl⟩,sbt⟩
theorem etotal_s {fl:List Fd}(hfl:FlOk fl)(q:Option Addr)(c:Nat)(hA:Arr w0 H q 3 encF fl)(tick:Int){m1:Pom}{p1:Po}(hI1:IsO fl m1 p1)(hF1:p1.Fit (bsF fl))(hM1:PoM w0 H m1)  :
  FSpec prog w0 18 #[.slice q fl.length c, .agg (encPo m1).toArray,Vi tick] H (AskK (Ans (AskP tick 4 p1 p1)) 12 (Kg fl tick p1) H):=by
 refine Am func18 U ntmps18 U (rDt 2 U (e_ (Ot U cs_) ?_ U));rintro _ _ ⟨n4,rfl,rfl⟩;refine e_ (Ag zeroValue32 cs_) ?_ U;rintro _ _ ⟨n6,rfl,rfl⟩;refine rOt 8 U (y_ (Bn (.cons (T U) .nil)) ?_ U);refine e_ (Ah (evq3 U U U) call43 (K8 fl hfl q c (hA.mono sbt) tick 12 call56 (qtotal_s hfl tick hI1 hF1 (hM1.mono sbt) fndq))) ?_ U;rintro _ _ ⟨⟨h,is,e9,rfl,hh,hR⟩,rfl⟩;refine rOt 3 U (e_ (Oq U U sizeOf32 .agg (Bc _) (Af hh) updq (by rw[Af hh];rfl)) ?_ U);rintro _ _ ⟨rfl,rfl⟩;refine rOt 5 U (Ai U (.cellA (Aa U) isAgg32 sizeOf32 (Af hh) qcs (.tmp (Aa U) (Ol U))) ?_);exact⟨_,⟨⟨h,is,e9,rfl,hh,hR⟩,rfl⟩,sbt⟩
theorem eapart_s {fl:List Fd}(hfl:FlOk fl)(q:Option Addr)(c:Nat)(hA:Arr w0 H q 3 encF fl)(tick:Int){m1:Pom}{p1:Po}(hI1:IsO fl m1 p1)(hF1:p1.Fit (bsF fl))(hM1:PoM w0 H m1){m2:Pom}{p2:Po}(hI2:IsO fl m2 p2)(hF2:p2.Fit (bsF fl))(hM2:PoM w0 H m2)  :
  FSpec prog w0 20 #[.slice q fl.length c, .agg (encPo m1).toArray, .agg (encPo m2).toArray,Vi tick] H (AskK (Ans (AskP tick 6 p1 p2)) 12 (Kh fl tick p1 p2) H):=by
 refine Am func20 U ntmps20 U (rDt 2 U (e_ (Ot U cs_) ?_ U));rintro _ _ ⟨n5,rfl,rfl⟩;refine e_ (Ot U cs_) ?_ U;rintro _ _ ⟨n6,rfl,rfl⟩;refine e_ (Ag zeroValue32 cs_) ?_ U;rintro _ _ ⟨n8,rfl,rfl⟩;refine rOt 8 U (y_ (Bn (.cons (T U) (.cons (T U) .nil))) ?_ U);refine e_ (Ah (evq3 U U U) call43 (K8 fl hfl q c (hA.mono sbt) tick 12 call64 (qapart_s hfl tick hI1 hF1 (hM1.mono sbt) fndq hI2 hF2 (hM2.mono sbt) fndq))) ?_ U;rintro _ _ ⟨⟨h,is,e9,rfl,hh,hR⟩,rfl⟩;refine rOt 3 U (e_ (Oq U U sizeOf32 .agg (Bc _) (Af hh) updq (by rw[Af hh];rfl)) ?_ U);rintro _ _ ⟨rfl,rfl⟩;refine rOt 5 U (Ai U (.cellA (Aa U) isAgg32 sizeOf32 (Af hh) qcs (.tmp (Aa U) (Ol U))) ?_);exact⟨_,⟨⟨h,is,e9,rfl,hh,hR⟩,rfl⟩,sbt⟩
theorem eslices_s {fl:List Fd}(hfl:FlOk fl)(q:Option Addr)(c:Nat)(hA:Arr w0 H q 3 encF fl)(tick:Int){m1:Pom}{p1:Po}(hI1:IsO fl m1 p1)(hF1:p1.Fit (bsF fl))(hM1:PoM w0 H m1){m2:Pom}{p2:Po}(hI2:IsO fl m2 p2)(hF2:p2.Fit (bsF fl))(hM2:PoM w0 H m2)  :
  FSpec prog w0 22 #[.slice q fl.length c, .agg (encPo m1).toArray, .agg (encPo m2).toArray,Vi tick] H (AskK (Ans (SlcP tick p1 p2)) 12 (Ky fl tick p1 p2) H):=by
 refine Am func22 U ntmps22 U (rDt 2 U (e_ (Ot U cs_) ?_ U));rintro _ _ ⟨n5,rfl,rfl⟩;refine e_ (Ot U cs_) ?_ U;rintro _ _ ⟨n6,rfl,rfl⟩;refine e_ (Ag zeroValue32 cs_) ?_ U;rintro _ _ ⟨n8,rfl,rfl⟩;refine rOt 8 U (y_ (Bn (.cons (T U) (.cons (T U) .nil))) ?_ U);refine e_ (Ah (evq3 U U U) call43 (K8 fl hfl q c (hA.mono sbt) tick 12 call69 (qslc_s hfl tick hI1 hF1 (hM1.mono sbt) fndq hI2 hF2 (hM2.mono sbt) fndq))) ?_ U;rintro _ _ ⟨⟨h,is,e9,rfl,hh,hR⟩,rfl⟩;refine rOt 3 U (e_ (Oq U U sizeOf32 .agg (Bc _) (Af hh) updq (by rw[Af hh];rfl)) ?_ U);rintro _ _ ⟨rfl,rfl⟩;refine rOt 5 U (Ai U (.cellA (Aa U) isAgg32 sizeOf32 (Af hh) qcs (.tmp (Aa U) (Ol U))) ?_);exact⟨_,⟨⟨h,is,e9,rfl,hh,hR⟩,rfl⟩,sbt⟩
section
variable {P:Program} {w0:World} {L:Fm} {H:Mm} {ty xt yt:TypeId} {x y:Operand}
theorem yl_xorI {m n:Nat}(hm:m<9223372036854775808)(hn:n<9223372036854775808)(hx:Ev L x (Vi (m:Int)))(hy:Ev L y (Vi (n:Int))):Yl P w0 (.binOp .xor xt x y yt) ty L H (Vi ((m ^^^ n:Nat):Int)):=Bk U fun b w=>by
 have t64:=two64;have e:(BitVec.ofInt 64 (m:Int) ^^^ BitVec.ofInt 64 (n:Int)).toNat=m ^^^ n:=by
  rw[D4,D4,BitVec.toNat_xor,BitVec.toNat_ofNat,BitVec.toNat_ofNat,Nat.mod_eq_of_lt qom,Nat.mod_eq_of_lt qom]
 have hl:m ^^^ n<2 ^ 63:=Nat.xor_lt_two_pow (by rw[two63];exact hm) (by rw[two63];exact hn);rw[two63] at hl;have e2:IntKind.i64.wrap ((m ^^^ n:Nat):Int)=((m ^^^ n:Nat):Int):=IntWalk.i64_in _ qom;have e3:(Op.intBits .xor .i64 (m:Int) (n:Int)).run P w= .ok (Vi ((m ^^^ n:Nat):Int)) w:=by
  show Result.ok (Value.int .i64 (IntKind.i64.wrap ((BitVec.ofInt 64 (m:Int) ^^^ BitVec.ofInt 64 (n:Int)).toNat:Int))) w=_;rw[e,e2]
 simp[exO,execOp,hx b,hy b,binOp,eqGuard,Sem.run_bind,Result.andThen,e3]
end
def wI (g:Nat->Nat) (h:Hd) (i:Nat):Hd:=(List.range i).map g++h.drop i
section
variable {g:Nat->Nat} {h:Hd} {i k:Nat} {m n p q:Md}
theorem Kz (hi:i<=h.length):(wI g h i).length=h.length:=by
 unfold wI;rw[List.length_append,List.length_map,List.length_range,List.length_drop];omega
theorem wI_gd (hi:i<=k)(hk:k<h.length):gd (wI g h i) k=gd h k:=by
 unfold wI gd List.getD;rw[List.getElem?_append_right (by simpa using hi),List.length_map,List.length_range,List.getElem?_drop,show i+(k - i)=k by omega]
theorem Nf (hi:i<h.length):(wI g h i).set i (g i)=wI g h (i+1):=by
 unfold wI;rw[List.set_append_right _ _ (by simp),List.length_map,List.length_range,Nat.sub_self,List.drop_eq_getElem_cons hi,List.set_cons_zero,List.range_succ,List.map_append,List.append_assoc]
 rfl
theorem L6 (hh:HdOk h)(hg:∀ k,k<10->g k<65536)(hi:i<=10):HdOk (wI g h i):=⟨by rw[Kz (by rw[hh.len];exact hi),hh.len],fun w hw=>by
 unfold wI at hw;rcases List.mem_append.1 hw with hw|hw
 ·obtain⟨k,hk,rfl⟩:=List.mem_map.1 hw;exact hg k (by have:=List.mem_range.1 hk;omega)
 ·exact hh.lt w (List.mem_of_mem_drop hw)⟩
theorem wI_bit (hh:HdOk h){b:Nat}(hb:b<160):hbit (wI g h 10) b=(g (b / 16)).testBit (15 - b % 16):=by
 unfold hbit wI gd List.getD;rw[List.getElem?_append_left (by simp;omega),List.getElem?_map,List.getElem?_range qom]
 rfl
abbrev apW (m:Md) (h:Hd) (k:Nat):Nat:=andN (gd h k) (gd m.1 k)|||gd m.2 k
abbrev orW (a b:Hd) (k:Nat):Nat:=gd a k|||gd b k
theorem apW_lt (hm:MdR m)(hh:HdOk h)(k:Nat):apW m h k<65536:=Nat.or_lt_two_pow (n:=16) (Fa (k:=16) (Cp hh k)) (Cp hm.o2 k)
theorem L7 {a b:Hd}(ha:HdOk a)(hb:HdOk b)(k:Nat):orW a b k<65536:=Nat.or_lt_two_pow (n:=16) (Cp ha k) (Cp hb k)
theorem ap_words (hm:MdR m)(hh:HdOk h):wI (apW m h) h 10=appM m h:=C5 (L6 hh (fun k _=>apW_lt hm hh k) (Nat.le_refl _)) (Ft _ _) fun b hb=>by
 rw[wI_bit hh hb,E9 _ _ hb,Nat.testBit_or,E0];show (hbit h b&& !hbit m.1 b||hbit m.2 b)=_;cases e:hbit m.1 b with
 |true=>simp
 |false=>
  have:hbit m.2 b=false:=by
   cases e2:hbit m.2 b
   ·rfl
   ·rw[hm.sub b hb e2] at e;cases e
  simp[this]
theorem or_words {a b:Hd}(ha:HdOk a)(hb:HdOk b):wI (orW a b) a 10=hdOf fun k=>hbit a k||hbit b k:=C5 (L6 ha (fun k _=>L7 ha hb k) (Nat.le_refl _)) (Ck _) fun k hk=>by
 rw[wI_bit ha hk,Br _ hk,Nat.testBit_or];rfl
theorem thn_words (hp:MdR p)(hm:MdR m):(wI (orW p.1 m.1) p.1 10,appM m p.2)=thnM p m:=by
 rw[or_words hp.o1 hm.o1];rfl
theorem and_words (hp:MdR p)(hq:MdR q):(wI (orW p.1 q.1) p.1 10,wI (orW p.2 q.2) p.2 10)=andM p q:=by
 rw[or_words hp.o1 hq.o1,or_words hp.o2 hq.o2];rfl
abbrev ovW (p q:Md) (k:Nat):Nat:=((gd p.2 k ^^^ gd q.2 k) &&& gd p.1 k) &&& gd q.1 k
theorem ov_no {k:Nat}(hk:k<10)(hp:MdR p)(e: ¬ ovW p q k=0):ovlB p q=false:=by
 cases h:ovlB p q with
 |false=>rfl
 |true=>
  exfalso;apply e;rw[ovl_iff] at h;refine Nat.eq_of_testBit_eq fun i=> ?_
  rw[Nat.testBit_and,Nat.testBit_and,Nat.testBit_xor,Nat.zero_testBit]
  by_cases hi:i<16
  ·have h1:=h (16*k+(15 - i)) qom;unfold hbit at h1;rw[show (16*k+(15 - i)) / 16=k by omega,show 15 - (16*k+(15 - i)) % 16=i by omega] at h1;cases e1:(gd p.1 k).testBit i
   ·simp
   ·cases e2:(gd q.1 k).testBit i
    ·simp
    ·rw[h1 e1 e2];simp
  ·have h1:=Cp hp.o1 k;have h2:(gd p.1 k).testBit i=false:=Nat.testBit_lt_two_pow (Nat.lt_of_lt_of_le h1 (by
    have:2 ^ 16<=2 ^ i:=Nat.pow_le_pow_right qde qom;exact this))
   rw[h2];simp
theorem ov_yes (e:∀ k,k<10->ovW p q k=0):ovlB p q=true:=ovl_iff.2 fun b hb h1 h2=>by
 have h3:=congrArg (fun x=>x.testBit (15 - b % 16)) (e (b / 16) qom);simp only[Nat.testBit_and,Nat.testBit_xor,Nat.zero_testBit] at h3;unfold hbit at h1 h2 ⊢;rw[h1,h2] at h3
 simpa using h3
def lesB (h:Hd) (is:Bool) (x:Hd):Bool:=is||decide (cmpL x h<0)
def lesH (h:Hd) (is:Bool) (x:Hd):Hd:=if lesB h is x then x else h
def lesI (h:Hd) (is:Bool) (x:Hd):Bool:=if lesB h is x then false else is
theorem K1 {h x:Hd}{is:Bool}(hh:HdOk h)(hx:HdOk x):HdOk (lesH h is x):=by unfold lesH;split<;>assumption
end
theorem lst_nil:LstOf [] hd0 true:= .inl ⟨rfl,rfl,rfl⟩
theorem lst_step {l:List Hd}{h x:Hd}{is:Bool}(hh:HdOk h)(hx:HdOk x)(a:LstOf l h is):LstOf (l++[x]) (lesH h is x) (lesI h is x):=by
 rcases a with ⟨rfl,rfl,rfl⟩|⟨rfl,a,b⟩
 ·exact .inr ⟨rfl,by simp[lesH,lesB],fun y hy=>by simp at hy;subst hy;exact .inl rfl⟩
 ·by_cases c:cmpL x h<0
  ·have hl:=(Ex hx hh).1 c;have e1:lesB h false x=true:=by simp[lesB,c]
   rw[show lesH h false x=x from if_pos e1,show lesI h false x=false from if_pos e1];refine .inr ⟨rfl,by simp,fun y hy=> ?_⟩;rcases List.mem_append.1 hy with hy|hy
   ·rcases b y hy with rfl|e
    ·exact .inr hl
    ·exact .inr (hl.trans e)
   ·exact .inl (List.mem_singleton.1 hy).symm
  ·have e1: ¬ lesB h false x=true:=by simp[lesB,c]
   rw[show lesH h false x=h from if_neg e1,show lesI h false x=false from if_neg e1];refine .inr ⟨rfl,List.mem_append.2 (.inl a),fun y hy=> ?_⟩;rcases List.mem_append.1 hy with hy|hy
   ·exact b y hy
   ·rw[List.mem_singleton.1 hy];rcases H8 hh hx with e|e|e
    ·exact .inr e
    ·exact .inl e
    ·exact absurd ((Ex hx hh).2 e) c
theorem Lk {n o i:Nat}{g:Nat->Nat}{h:Hd}(hc:Cells w0 H n o (hdC (wI g h i)))(hi:i<h.length):Cell w0 H ⟨n,o+((i:Nat):Int).toNat*1,none⟩ (Vi (gd h i:Nat)):=by
 have:=Ci hc (k:=i) (by rw[Kz qom];exact hi)
 rwa [wI_gd (Nat.le_refl _) hi] at this
theorem eapply_s (m:Md)(hm:MdR m)(h:Hd)(hh:HdOk h):
  FSpec prog w0 186 #[.agg (mdC m).toArray, .agg (hdC h).toArray] H (Still (.agg (hdC (appM m h)).toArray) H):=by
 refine Am func186 U ntmps186 U ?_;have hlen:=hh.len;have hl1:=hm.o1.len;have hl2:=hm.o2.len;refine rDt 2 U (e_ (Ot U cs_) ?_ U);rintro _ _ ⟨n2,rfl,rfl⟩;refine e_ (Ot U cs_) ?_ U;rintro _ _ ⟨n3,rfl,rfl⟩;refine e_ (Ag zeroValue32 cs_) ?_ U;rintro _ _ ⟨n4,rfl,rfl⟩;refine rOt 9 U ?_;refine A8 (X:=Nat) (V:=fun i=>[(6,Vi (i:Nat))]) (C:=[(2,_),(3,_),(4,_)]) (G:=fun i=>(n4,Cl ([Vi 0,Vi 0,Vi 0,Vi 0,Vi 0,Vi 0,Vi 0,Vi 0,Vi 0,Vi 0]) 32)::(n3,Cl (hdC (wI (apW m h) h i)) 32)::(n2,Cl (mdC m) 144)::H) (φ:=fun i=>i<=10) (μ:=fun i=>10 - i) (x0:=0) ?_ (kg U) qkg sb0 ?_
 ·exact Nat.zero_le _
 rintro i hi;have hi9:=hi;refine rDt 6 U ?_;refine jcd U (fun c7=> ?_) (fun c7=> ?_)
 ·have hi2:i<10:=by have h9:((i:Nat):Int)<10:=c7;omega
  have w1:=Cp hh i;have w2:=Cp hm.o1 i;have w3:=Cp hm.o2 i;have w4:andN (gd h i) (gd m.1 i)<65536:=Fa (k:=16) w1;have hwl:(wI (apW m h) h i).length=10:=by rw[Kz qom];omega
  refine rCt 10 U (Bf 15 (plq15 []) _ mixd qkr sb0 ?_ Bh);refine rPt 2 U (o_y U (Bm (T U) (T U) runUnderlying32 sizeOf3 (by have h9:((i:Nat):Int)<10:=c7;omega)) ?_ U Ad);refine o_y U (Om U isAgg3 (by first|exact c_o|exact Lk (Ae fndq) qom)) ?_ U Ad;refine rPt 2 U (o_y U (Bm (T U) (T U) runUnderlying32 sizeOf3 (by have h9:((i:Nat):Int)<10:=c7;omega)) ?_ U Ad);refine o_y U (Om U isAgg3 (by first|exact c_o|exact Ci (E7 fndq) qom)) ?_ U Ad;refine o_y U (Fw qom qom (T U) (T U)) ?_ U Ad;refine rPt 2 U (o_y U (Bm (T U) (T U) runUnderlying32 sizeOf3 (by have h9:((i:Nat):Int)<10:=c7;omega)) ?_ U Ad);refine o_y U (Om U isAgg3 (by first|exact c_o|exact Ci (El hm.o1 fndq) qom)) ?_ U Ad;refine o_y U (Id (m:=andN (gd h i) (gd m.1 i)) qom qom (T U) (T U)) ?_ U Ad;refine o_y U (Bm (T U) (T U) runUnderlying32 sizeOf3 (by have h9:((i:Nat):Int)<10:=c7;omega)) ?_ U Ad;refine Av U (e_ (Ct (T U) (T U) U sizeOf3 (hs:=Gx qom)) ?_ U);rintro _ _ ⟨rfl,rfl⟩;refine rOt 4 U (y_ (Aw (T U) Al qom) ?_ U);refine rOt 2 U ?_;rw[show (wI (apW m h) h i).set i (andN (gd h i) (gd m.1 i)|||gd m.2 i)=wI (apW m h) h (i+1) from Nf qom];refine Au (i+1) ?_ ?_ qkg (kg U) ?_
  ·omega
  ·omega
  ·exact sbt
 ·obtain rfl:i=10:=by have h9: ¬ ((i:Nat):Int)<10:=c7;omega
  have hok:=L6 (i:=10) hh (fun k _=>apW_lt hm hh k) (Nat.le_refl _);refine rCt 2 U (An (rXt 4 U ?_));refine y_ (On U isAgg32 sizeOf32 (Af hok) (by exact Ae fndq)) ?_ U;refine e_ (Oq U U sizeOf32 .agg (Bc _) (Af hok) updq (by rw[Af hok];rfl)) ?_ U;rintro _ _ ⟨rfl,rfl⟩;refine rOt 3 U (Ai U (.cellA (Aa U) isAgg32 sizeOf32 (Af hok) qcs .nil) ?_);exact⟨_,⟨by show Value.agg (hdC _).toArray=_;rw[ap_words hm hh],rfl⟩,sbt⟩
theorem eff_storeT {P:Program}{w0:World}{L:Fm}{H:Mm}{ty t:TypeId}{x y:Operand}{n o m:Nat}{v:Value}{vs pre l:List Value}{t':TypeId}{H':Mm}(ho:o=pre.length)(hx:Ev L x (Pt n o))(hy:Ev L y v)(hz:∀ w,(sizeOf t).run P w= .ok m w)(hc:Cs v vs)(hv:vs.all oneB=true)(hm:vs.length=m)
  (hu:Upd H n (Cl (pre++l) t') (Cl (pre++vs) t') H') (hl:l.length=vs.length):Eff P w0 (.store t x y) ty L H (Still undef H'):=
 Ik hx hy hc hv (by rw[hm];exact hz) (by rw[ho,setL_all vs pre l hl];exact hu) (by rw[ho,List.length_append];omega)
theorem ethen_s (p m:Md)(hp:MdR p)(hm:MdR m):
  FSpec prog w0 151 #[.agg (mdC p).toArray, .agg (mdC m).toArray] H (Still (.agg (mdC (thnM p m)).toArray) H):=by
 refine Am func151 U ntmps151 U ?_;have hl1:=hp.o1.len;have hl2:=hm.o1.len;refine rDt 2 U (e_ (Ot U cs_) ?_ U);rintro _ _ ⟨n2,rfl,rfl⟩;refine e_ (Ot U cs_) ?_ U;rintro _ _ ⟨n3,rfl,rfl⟩;refine e_ (Ag zeroValue144 cs_) ?_ U;rintro _ _ ⟨n4,rfl,rfl⟩;refine rOt 4 U ?_;refine y_ (On U isAgg144 sizeOf144 (Bd hm.o1 hm.o2) (by exact Ae fndq)) ?_ U;refine rOt 1 U ?_;refine y_ (On U isAgg32 sizeOf32 (Af hp.o2) (by exact El hp.o1 fndq)) ?_ U;refine y_ (Ao (evq2 U U) call186 (fun H' hs=>eapply_s m hm p.2 hp.o2)) (rOt 1 U (e_ (eff_storeT (pre:=hdC p.1) (l:=hdC p.2) (Af hp.o1).symm (T U) (T U) sizeOf32 .agg (Bc _) (Af (Ft _ _)) updq ((Af hp.o2).trans (Af (Ft _ _)).symm)) ?_ U)) U;rintro _ _ ⟨rfl,rfl⟩;refine rOt 9 U ?_;refine A8 (X:=Nat) (V:=fun i=>[(11,Vi (i:Nat))]) (C:=[(2,_),(3,_),(4,_)]) (G:=fun i=>(n4,Cl ([Vi 0,Vi 0,Vi 0,Vi 0,Vi 0,Vi 0,Vi 0,Vi 0,Vi 0,Vi 0,Vi 0,Vi 0,Vi 0,Vi 0,Vi 0,Vi 0,Vi 0,Vi 0,Vi 0,Vi 0]) 144)::(n3,Cl (mdC m) 144)::(n2,Cl (mdC ((wI (orW p.1 m.1) p.1 i),appM m p.2)) 144)::H) (φ:=fun i=>i<=10) (μ:=fun i=>10 - i) (x0:=0) ?_ (kg U) qkg sb0 ?_
 ·exact Nat.zero_le _
 rintro i hi;have hi9:=hi;refine rDt 6 U ?_;refine jcd U (fun c12=> ?_) (fun c12=> ?_)
 ·have hi2:i<10:=by have h9:((i:Nat):Int)<10:=c12;omega
  have w1:=Cp hp.o1 i;have w2:=Cp hm.o1 i;have hwl:(wI (orW p.1 m.1) p.1 i).length=10:=by rw[Kz qom];omega
  refine rCt 10 U (Bf 11 (plq11 []) _ mixd qkr sb0 ?_ Bh);refine rPt 2 U (o_y U (Bm (T U) (T U) runUnderlying32 sizeOf3 (by have h9:((i:Nat):Int)<10:=c12;omega)) ?_ U Ad);refine o_y U (Om U isAgg3 (by first|exact c_o|exact Lk (g:=orW p.1 m.1) (h:=p.1) (E7 (m:=((wI (orW p.1 m.1) p.1 i),appM m p.2)) fndq) qom)) ?_ U Ad;refine rPt 2 U (o_y U (Bm (T U) (T U) runUnderlying32 sizeOf3 (by have h9:((i:Nat):Int)<10:=c12;omega)) ?_ U Ad);refine o_y U (Om U isAgg3 (by first|exact c_o|exact Ci (E7 (m:=m) fndq) qom)) ?_ U Ad;refine o_y U (Id qom qom (T U) (T U)) ?_ U Ad;refine rPt 1 U (o_y U (Bm (T U) (T U) runUnderlying32 sizeOf3 (by have h9:((i:Nat):Int)<10:=c12;omega)) ?_ U Ad);refine Av U (e_ (Ct (T U) (T U) U sizeOf3 (hs:=Lf (h:=(wI (orW p.1 m.1) p.1 i)) qom (hdC (appM m p.2)))) ?_ U);rintro _ _ ⟨rfl,rfl⟩;refine rOt 4 U (y_ (Aw (T U) Al qom) ?_ U);refine rOt 2 U ?_;rw[show (wI (orW p.1 m.1) p.1 i).set i (gd p.1 i|||gd m.1 i)=(wI (orW p.1 m.1) p.1 (i+1)) from Nf qom];refine Au (i+1) ?_ ?_ qkg (kg U) ?_
  ·omega
  ·omega
  ·exact sbt
 ·obtain rfl:i=10:=by have h9: ¬ ((i:Nat):Int)<10:=c12;omega
  have hok:=L6 (i:=10) hp.o1 (fun k _=>L7 hp.o1 hm.o1 k) (Nat.le_refl _);refine rCt 2 U (An (rXt 4 U ?_));refine y_ (On U isAgg144 sizeOf144 (Bd hok (Ft _ _)) (by exact Ae fndq)) ?_ U;refine e_ (Oq U U sizeOf144 .agg (Cn _ _) (Bd hok (Ft _ _)) updq (by rw[Bd hok (Ft _ _)];rfl)) ?_ U;rintro _ _ ⟨rfl,rfl⟩;refine rOt 3 U (Ai U (.cellA (Aa U) isAgg144 sizeOf144 (Bd hok (Ft _ _)) qcs .nil) ?_);exact⟨_,⟨by show Value.agg (mdC (wI (orW p.1 m.1) p.1 10,appM m p.2)).toArray=_;rw[thn_words hp hm],rfl⟩,sbt⟩
theorem eimage_s (p m:Md)(hp:MdR p)(hm:MdR m):
  FSpec prog w0 110 #[.agg (mdC p).toArray, .agg (mdC m).toArray] H (Still (.agg (mdC (thnM p m)).toArray) H):=by
 refine Am func110 U ntmps110 U (rDt 2 U (e_ (Ot U cs_) ?_ U));rintro _ _ ⟨n2,rfl,rfl⟩;refine e_ (Ot U cs_) ?_ U;rintro _ _ ⟨n3,rfl,rfl⟩;refine e_ (Ag zeroValue91 cs_) ?_ U;rintro _ _ ⟨n4,rfl,rfl⟩;refine rOt 4 U ?_;refine y_ (On U isAgg91 sizeOf91 (Bd hp.o1 hp.o2) (by exact Ae fndq)) ?_ U;refine y_ (On U isAgg144 sizeOf144 (Bd hm.o1 hm.o2) (by exact Ae fndq)) ?_ U;refine y_ (Ao (evq2 U U) call151 (fun H' hs=>ethen_s p m hp hm)) (e_ (Oq U U sizeOf91 .agg (Cn _ _) (Bd (Gm p m).1 (Gm p m).2) updq (by rw[Bd (Gm p m).1 (Gm p m).2];rfl)) ?_ U) U;rintro _ _ ⟨rfl,rfl⟩;refine rOt 3 U (Ai U (.cellA (Aa U) isAgg91 sizeOf91 (Bd (Gm p m).1 (Gm p m).2) qcs .nil) ?_);exact⟨_,⟨rfl,rfl⟩,sbt⟩
theorem eovl_s (p q:Md)(hp:MdR p)(hq:MdR q):
  FSpec prog w0 111 #[.agg (mdC p).toArray, .agg (mdC q).toArray] H (Still (.bool (ovlB p q)) H):=by
 refine Am func111 U ntmps111 U ?_;have hl1:=hp.o1.len;have hl2:=hp.o2.len;have hl3:=hq.o1.len;have hl4:=hq.o2.len;refine rDt 2 U (e_ (Ot U cs_) ?_ U);rintro _ _ ⟨n2,rfl,rfl⟩;refine e_ (Ot U cs_) ?_ U;rintro _ _ ⟨n3,rfl,rfl⟩;refine rOt 10 U ?_;refine A8 (X:=Nat) (V:=fun i=>[(6,Vi (i:Nat))]) (C:=[(2,_),(3,_)]) (G:=fun i=>(n3,Cl (mdC q) 91)::(n2,Cl (mdC p) 91)::H) (φ:=fun i=>i<=10/\∀ k,k<i->ovW p q k=0) (μ:=fun i=>10 - i) (x0:=0) ?_ (kg U) qkg sb0 ?_
 ·exact⟨Nat.zero_le _,fun k hk=>absurd hk (Nat.not_lt_zero _)⟩
 rintro i ⟨hi,hz⟩;have hi9:=hi;refine rDt 6 U ?_;refine jcd U (fun c7=> ?_) (fun c7=> ?_)
 ·have hi2:i<10:=by have h9:((i:Nat):Int)<10:=c7;omega
  have w1:=Cp hp.o1 i;have w2:=Cp hp.o2 i;have w3:=Cp hq.o1 i;have w4:=Cp hq.o2 i;have w5:gd p.2 i ^^^ gd q.2 i<65536:=Nat.xor_lt_two_pow (n:=16) w2 w4;have w6:(gd p.2 i ^^^ gd q.2 i) &&& gd p.1 i<=gd p.2 i ^^^ gd q.2 i:=Nat.and_le_left;refine rCt 11 U (Bf 20 (plq20 []) _ mixd qkr sb0 ?_ Bh);refine rPt 2 U (o_y U (Bm (T U) (T U) runUnderlying32 sizeOf3 (by have h9:((i:Nat):Int)<10:=c7;omega)) ?_ U Ad);refine o_y U (Om U isAgg3 (by first|exact c_o|exact Ci (El hp.o1 fndq) qom)) ?_ U Ad;refine rPt 2 U (o_y U (Bm (T U) (T U) runUnderlying32 sizeOf3 (by have h9:((i:Nat):Int)<10:=c7;omega)) ?_ U Ad);refine o_y U (Om U isAgg3 (by first|exact c_o|exact Ci (El hq.o1 fndq) qom)) ?_ U Ad;refine o_y U (yl_xorI (m:=gd p.2 i) (n:=gd q.2 i) qom qom (T U) (T U)) ?_ U Ad;refine rPt 2 U (o_y U (Bm (T U) (T U) runUnderlying32 sizeOf3 (by have h9:((i:Nat):Int)<10:=c7;omega)) ?_ U Ad);refine o_y U (Om U isAgg3 (by first|exact c_o|exact Ci (E7 fndq) qom)) ?_ U Ad;refine o_y U (It (m:=gd p.2 i ^^^ gd q.2 i) (n:=gd p.1 i) qom qom (T U) (T U)) ?_ U Ad;refine rPt 2 U (o_y U (Bm (T U) (T U) runUnderlying32 sizeOf3 (by have h9:((i:Nat):Int)<10:=c7;omega)) ?_ U Ad);refine o_y U (Om U isAgg3 (by first|exact c_o|exact Ci (E7 fndq) qom)) ?_ U Ad;refine o_y U (It (m:=(gd p.2 i ^^^ gd q.2 i) &&& gd p.1 i) (n:=gd q.1 i) qom qom (T U) (T U)) ?_ U Ad;refine rPt 1 U (Av U (rOt 2 U ?_));refine jcd U (fun c28=> ?_) (fun c28=> ?_)
  ·have hno:=ov_no hi2 hp (fun e=>c28 (by show ((ovW p q i:Nat):Int)=0;rw[e];rfl));refine rCt 8 U (Bg (rXt 2 U (Ai U (Ol U) ?_)));exact⟨_,⟨by rw[hno];rfl,rfl⟩,sbt⟩
  ·have hz2:ovW p q i=0:=by have h9:((ovW p q i:Nat):Int)=0:=Classical.not_not.1 c28;omega
   refine rCt 4 U (y_ (Aw (T U) Al qom) ?_ U);refine rOt 2 U ?_;refine Au (i+1) ?_ ?_ qkg (kg U) ?_
   ·refine⟨by omega,fun k hk=> ?_⟩;rcases Nat.lt_or_ge k i with h9|h9
    ·exact hz k h9
    ·obtain rfl:k=i:=by omega
     exact hz2
   ·omega
   ·exact sbt
 ·obtain rfl:i=10:=by have h9: ¬ ((i:Nat):Int)<10:=c7;omega
  refine rCt 2 U (An (rXt 8 U (Ai U (Ol U) ?_)));exact⟨_,⟨by rw[ov_yes hz];rfl,rfl⟩,sbt⟩
theorem eleast_s (p:Md)(hp:MdR p):
  FSpec prog w0 63 #[.agg (mdC p).toArray] H (Still (.agg (hdC p.2).toArray) H):=by
 refine Am func63 U ntmps63 U (rDt 2 U (e_ (Ot U cs_) ?_ U));rintro _ _ ⟨n1,rfl,rfl⟩;refine e_ (Ag zeroValue32 cs_) ?_ U;rintro _ _ ⟨n2,rfl,rfl⟩;refine rOt 5 U ?_;refine y_ (On U isAgg32 sizeOf32 (Af hp.o2) (by exact El hp.o1 fndq)) ?_ U;refine e_ (Oq U U sizeOf32 .agg (Bc _) (Af hp.o2) updq (by rw[Af hp.o2];rfl)) ?_ U;rintro _ _ ⟨rfl,rfl⟩;refine rOt 3 U (Ai U (.cellA (Aa U) isAgg32 sizeOf32 (Af hp.o2) qcs .nil) ?_);exact⟨_,⟨rfl,rfl⟩,sbt⟩
theorem ybd91_z  (w:World):(Instr.build 91 #[]).run prog w= .ok (.agg #[Vi 0,Vi 0,Vi 0,Vi 0,Vi 0,Vi 0,Vi 0,Vi 0,Vi 0,Vi 0,Vi 0,Vi 0,Vi 0,Vi 0,Vi 0,Vi 0,Vi 0,Vi 0,Vi 0,Vi 0]) w:=by kernel_rfl
theorem eand_s (p q:Md)(hp:MdR p)(hq:MdR q):
  FSpec prog w0 68 #[.agg (mdC p).toArray, .agg (mdC q).toArray] H (Still (if ovlB p q then .tuple #[.agg (mdC (andM p q)).toArray, .bool true] else .tuple #[.agg (mdC (hd0,hd0)).toArray, .bool false]) H):=by
 refine Am func68 U ntmps68 U ?_;have hl1:=hp.o1.len;have hl2:=hp.o2.len;have hl3:=hq.o1.len;have hl4:=hq.o2.len;refine rDt 2 U (e_ (Ot U cs_) ?_ U);rintro _ _ ⟨n2,rfl,rfl⟩;refine e_ (Ot U cs_) ?_ U;rintro _ _ ⟨n3,rfl,rfl⟩;refine e_ (Ag zeroValue91 cs_) ?_ U;rintro _ _ ⟨n4,rfl,rfl⟩;refine rOt 6 U ?_;refine y_ (On U isAgg91 sizeOf91 (Bd hp.o1 hp.o2) (by exact Ae fndq)) ?_ U;refine y_ (On U isAgg91 sizeOf91 (Bd hq.o1 hq.o2) (by exact Ae fndq)) ?_ U;refine y_ (Ao (evq2 U U) call111 (fun H' hs=>eovl_s p q hp hq)) ?_ U
 first|refine A6 (Bt (T U)) U Ad ?_|refine A6 (Bq (T U)) U Ad ?_
 refine rOt 2 U ?_
 first|refine jcd U (fun c10=> ?_) (fun c10=> ?_)|refine jcn U (fun c10=> ?_) (fun c10=> ?_)
 ·have ho:ovlB p q=false:=by simpa using c10
  refine rCt 2 U (y_ (A1 .nil (ybd91_z)) (e_ (Oq U U sizeOf91) ?_ U) U);rintro _ _ ⟨rfl,rfl⟩;refine rOt 5 U (Ai U (.cellA (Aa U) isAgg91 sizeOf91 U qcs (Ol U)) ?_);exact⟨_,⟨by rw[ho];rfl,rfl⟩,sbt⟩
 ·have ho:ovlB p q=true:=by simpa using c10
  refine rCt 9 U ?_;refine A8 (X:=Nat) (V:=fun i=>[(12,Vi (i:Nat))]) (C:=[(2,_),(3,_),(4,_)]) (G:=fun i=>(n4,Cl ([Vi 0,Vi 0,Vi 0,Vi 0,Vi 0,Vi 0,Vi 0,Vi 0,Vi 0,Vi 0,Vi 0,Vi 0,Vi 0,Vi 0,Vi 0,Vi 0,Vi 0,Vi 0,Vi 0,Vi 0]) 91)::(n3,Cl (mdC q) 91)::(n2,Cl (mdC ((wI (orW p.1 q.1) p.1 i),(wI (orW p.2 q.2) p.2 i))) 91)::H) (φ:=fun i=>i<=10) (μ:=fun i=>10 - i) (x0:=0) ?_ (kg U) qkg sb0 ?_
  ·exact Nat.zero_le _
  rintro i hi;have hi9:=hi;refine rDt 6 U ?_;refine jcd U (fun c13=> ?_) (fun c13=> ?_)
  ·have hi2:i<10:=by have h9:((i:Nat):Int)<10:=c13;omega
   have w1:=Cp hp.o1 i;have w2:=Cp hp.o2 i;have w3:=Cp hq.o1 i;have w4:=Cp hq.o2 i;have hwl:(wI (orW p.1 q.1) p.1 i).length=10:=by rw[Kz qom];omega
   have hwm:(wI (orW p.2 q.2) p.2 i).length=10:=by rw[Kz qom];omega
   have hokA:=L6 (i:=i+1) hp.o1 (fun k _=>L7 hp.o1 hq.o1 k) qom;refine rCt 11 U (Bf 11 (plq11 []) _ mixd qkr sb0 ?_ Bh);refine rPt 2 U (o_y U (Bm (T U) (T U) runUnderlying32 sizeOf3 (by have h9:((i:Nat):Int)<10:=c13;omega)) ?_ U Ad);refine o_y U (Om U isAgg3 (by first|exact c_o|exact Lk (g:=orW p.1 q.1) (h:=p.1) (E7 (m:=((wI (orW p.1 q.1) p.1 i),(wI (orW p.2 q.2) p.2 i))) fndq) qom)) ?_ U Ad;refine rPt 2 U (o_y U (Bm (T U) (T U) runUnderlying32 sizeOf3 (by have h9:((i:Nat):Int)<10:=c13;omega)) ?_ U Ad);refine o_y U (Om U isAgg3 (by first|exact c_o|exact Ci (E7 (m:=q) fndq) qom)) ?_ U Ad;refine o_y U (Id qom qom (T U) (T U)) ?_ U Ad;refine rPt 1 U (o_y U (Bm (T U) (T U) runUnderlying32 sizeOf3 (by have h9:((i:Nat):Int)<10:=c13;omega)) ?_ U Ad);refine Av U (e_ (Ct (T U) (T U) U sizeOf3 (hs:=Lf (h:=(wI (orW p.1 q.1) p.1 i)) qom (hdC (wI (orW p.2 q.2) p.2 i)))) ?_ U);rintro _ _ ⟨rfl,rfl⟩;rw[show (wI (orW p.1 q.1) p.1 i).set i (gd p.1 i|||gd q.1 i)=(wI (orW p.1 q.1) p.1 (i+1)) from Nf qom];refine rOt 2 U (Bf 11 (plq11 []) _ mixd qkr sb0 ?_ Bh);refine rPt 2 U (o_y U (Bm (T U) (T U) runUnderlying32 sizeOf3 (by have h9:((i:Nat):Int)<10:=c13;omega)) ?_ U Ad);refine o_y U (Om U isAgg3 (by first|exact c_o|exact Lk (g:=orW p.2 q.2) (h:=p.2) (El (m:=((wI (orW p.1 q.1) p.1 (i+1)),(wI (orW p.2 q.2) p.2 i))) hokA fndq) qom)) ?_ U Ad;refine rPt 2 U (o_y U (Bm (T U) (T U) runUnderlying32 sizeOf3 (by have h9:((i:Nat):Int)<10:=c13;omega)) ?_ U Ad);refine o_y U (Om U isAgg3 (by first|exact c_o|exact Ci (El (m:=q) hq.o1 fndq) qom)) ?_ U Ad;refine o_y U (Id qom qom (T U) (T U)) ?_ U Ad;refine rPt 1 U (o_y U (Bm (T U) (T U) runUnderlying32 sizeOf3 (by have h9:((i:Nat):Int)<10:=c13;omega)) ?_ U Ad);refine Av U (e_ (Ct (T U) (T U) U sizeOf3 (hs:=setN_hi (a:=(wI (orW p.1 q.1) p.1 (i+1))) (b:=(wI (orW p.2 q.2) p.2 i)) hokA qom)) ?_ U);rintro _ _ ⟨rfl,rfl⟩;rw[show (wI (orW p.2 q.2) p.2 i).set i (gd p.2 i|||gd q.2 i)=(wI (orW p.2 q.2) p.2 (i+1)) from Nf qom];refine kO tb 3 [2,3,4,12] rfl U (rGt 1 U (y_ (Aw (T U) Al qom) ?_ U));refine rOt 2 U ?_;refine Au (i+1) ?_ ?_ qkg (kg U) ?_
   ·omega
   ·omega
   ·exact sbt
  ·obtain rfl:i=10:=by have h9: ¬ ((i:Nat):Int)<10:=c13;omega
   have hok:=L6 (i:=10) hp.o1 (fun k _=>L7 hp.o1 hq.o1 k) (Nat.le_refl _);have hok2:=L6 (i:=10) hp.o2 (fun k _=>L7 hp.o2 hq.o2 k) (Nat.le_refl _);refine rCt 2 U (An (rXt 4 U ?_));refine y_ (On U isAgg91 sizeOf91 (Bd hok hok2) (by exact Ae fndq)) ?_ U;refine e_ (Oq U U sizeOf91 .agg (Cn _ _) (Bd hok hok2) updq (by rw[Bd hok hok2];rfl)) ?_ U;rintro _ _ ⟨rfl,rfl⟩;refine rOt 4 U (Ai U (.cellA (Aa U) isAgg91 sizeOf91 (Bd hok hok2) qcs (Ol U)) ?_);exact⟨_,⟨by rw[ho,<- and_words hp hq];rfl,rfl⟩,sbt⟩
theorem eles_s {w0:World}{R:Mm}(b3 b4:Nat)(h:Hd)(hh:HdOk h)(is:Bool)(x:Hd)(hx:HdOk x):
  FSpec prog w0 62 #[Pt b3 0,Pt b4 0, .agg (hdC x).toArray] ([(b4,Cl [.bool is] 4),(b3,Cl (hdC h) 32)]++R) (fun u H9=>∃ y:Unit,u= .tuple #[]/\H9=([(b4,Cl [.bool (lesI h is x)] 4),(b3,Cl (hdC (lesH h is x)) 32)]++R)):=by
 refine Am func62 U ntmps62 U (rDt 2 U (e_ (Ot U cs_) ?_ U));rintro _ _ ⟨n5,rfl,rfl⟩;refine rOt 3 U (Bf 11 (plq11 []) _ mixd qkr sb0 ?_ Bh);refine rPt 2 U ?_;refine o_y U (Om U isAgg4 qco) ?_ U Ad;refine rPt 1 U ?_
 first|refine Mn (s:=9) (Aa U) (fun c9=> ?_) (fun c9=> ?_)|refine o_if (s:=9) (Aa U) (fun c9=> ?_) (fun c9=> ?_)
 ·have hb9:lesB h is x=true:=by simp[lesB,c9]
  refine rPt 7 U (Av U (rOt 6 U ?_));refine y_ (On U isAgg32 sizeOf32 (Af hx) (by exact Ae fndq)) ?_ U;refine rOt 1 U (e_ (Oq U U sizeOf32 .agg (Bc _) (Af hx) updq (by rw[Af hx,Af hh])) ?_ U);rintro _ _ ⟨rfl,rfl⟩;refine rOt 1 U ?_;refine Bo (Aj (T U) Al sizeOf4) U Ad ?_;rintro _ _ ⟨rfl,rfl⟩;refine rOt 1 U (K6 U .nil (⟨_,⟨(),rfl,rfl⟩,?_⟩));unfold lesH lesI
  (rw[if_pos hb9,if_pos hb9];exact sbt)
 ·skip
  refine o_y U (On U isAgg32 sizeOf32 (Af hx) (by exact Ae fndq)) ?_ U (A7 U U (Aa U));refine rPt 2 U ?_;refine o_y U (On U isAgg32 sizeOf32 (Af hh) (by exact Ae fndq)) ?_ U (A7 U U (Aa U));refine o_y U (Ao (evq2 U U) call105 (fun H' hs=>cmpHd_s x h hx hh)) (rPt 2 U (Av U (rOt 2 U ?_))) U (A7 U U (Aa U));refine jcd U (fun c16=> ?_) (fun c16=> ?_)
  ·have hb9:lesB h is x=true:=by have h9:cmpL x h<0:=c16;simp[lesB,h9]
   refine rCt 3 U ?_;refine y_ (On U isAgg32 sizeOf32 (Af hx) (by exact Ae fndq)) ?_ U;refine rOt 1 U (e_ (Oq U U sizeOf32 .agg (Bc _) (Af hx) updq (by rw[Af hx,Af hh])) ?_ U);rintro _ _ ⟨rfl,rfl⟩;refine rOt 1 U ?_;refine Bo (Aj (T U) Al sizeOf4) U Ad ?_;rintro _ _ ⟨rfl,rfl⟩;refine rOt 1 U (K6 U .nil (⟨_,⟨(),rfl,rfl⟩,?_⟩));unfold lesH lesI
   (rw[if_pos hb9,if_pos hb9];exact sbt)
  ·have hb9: ¬ lesB h is x=true:=by have h9: ¬ cmpL x h<0:=c16;simp[lesB,c9,h9]
   refine rCt 1 U (K6 U .nil (⟨_,⟨(),rfl,rfl⟩,?_⟩));unfold lesH lesI
   first|(rw[if_pos hb9,if_pos hb9];exact sbt)|(rw[if_neg hb9,if_neg hb9];exact sbt)
theorem FSpecP.re {P:Program}{w0:World}{f:FuncId}{args:Array Value}{H:Mm}{K:Value->Mm->Prop}{fv fw:Value}{B:Mm->Prop}(h:FSpecP P w0 f args H K fv B)(hf:∀ H',B H'->fv=fw):FSpecP P w0 f args H K fw B:=fun w hO=>(h w hO).mono fun e w' he=>by
 rcases he with h|⟨a,H',b,c⟩
 ·exact .inl h
 ·exact .inr ⟨by rw[a,hf H' c],H',b,c⟩
abbrev RlV (L:List (Md × List Md)) (H:Mm):Value->Mm->Prop:=fun u H'=>∃ (d:Sl) (cs:List Chm) (e:Int),u= .tuple #[slV d cs.length,Vi e]/\((e=0/\L.length<=4000/\cs.map Chm.pl=L/\SlOk d cs.length 21/\∀ c∈cs,ChH c)\/(e=2/\4000<L.length/\cs.length=0))/\H'=(slH d (cs.flatMap encCh) 94++chM cs)++H
theorem rules_v {D:Sd}{sv:Sv}{ns:Ns}{bs:List Nat}(hst:StOk D sv ns)(hbs:BsOk bs)(hbe:D.bs=bs)(hS:(SM D sv ns).Sublist H)(hB:Arr w0 H D.qb 1 encB1 bs){Qp:Nat->Md->List Prt->Prop}(Q:Bdd ns bs Qp)(a:Nat)(ha:a<ns.length)(hq: ¬ a=0->Qp 0 (hd0,hd0) [pt0 a]):
  FSpec prog w0 61 #[Pt (D.p) 0,Vi (a:Nat)] H (RlV (rulesP ns bs a) H):=by
 subst hbe;have e:=rules_s hst hbs hS hB Q a ha hq;intro w hO;refine(e w hO).mono ?_;rintro _ w' ⟨u,H',he,hO',⟨⟨d,cs⟩,⟨h4,h1,h2,h3,rfl⟩,rfl⟩|⟨h4,rfl,rfl⟩⟩
 ·exact⟨_,_,he,hO',d,cs,0,rfl, .inl ⟨rfl,h4,h1,h2,h3⟩,rfl⟩
 ·exact⟨_,_,he,hO', .nil,[],2,rfl, .inr ⟨rfl,h4,rfl⟩,rfl⟩
theorem chV_lo {n:Nat}{p:Md}{v:Value}{t:TypeId}(hf:Fnd H n (Cl (chV p v) t)):Cells w0 H n 0 (mdC p):=fun i u hi=>Ae hf i u (by rw[List.getElem?_append_left (by exact(List.getElem?_eq_some_iff.1 hi).1)];exact hi)
theorem L8 {w0:World}{d:Sl}{cs:List Chm}{X:Mm}(hd:SlOk d cs.length 21):Arr w0 ((slH d (cs.flatMap encCh) 94++chM cs)++X) (slQ d) 21 encCh cs:=by
 rw[List.append_assoc];exact B3 D8 hd
theorem sng_snoc (A:List (Md × List Md))(c:Md × List Md):sngL (A++[c])=sngL A++(if c.2.length>1 then [c.1.2] else []):=by
 unfold sngL;rw[List.filter_append,List.map_append]
 congr 1
 by_cases h:c.2.length>1
 ·rw[if_pos h,List.filter_cons_of_pos (by simpa using h)];rfl
 ·rw[if_neg h,List.filter_cons_of_neg (by simpa using h)];rfl
theorem pl_snoc {cs:List Chm}{i:Nat}(hi:i<cs.length):(cs.take (i+1)).map Chm.pl=(cs.take i).map Chm.pl++[(gd cs i).pl]:=by
 rw[List.take_succ_eq_append_getElem hi,List.map_append,Ar hi];rfl
theorem sng_no {cs:List Chm}{i:Nat}{h:Hd}{is:Bool}(hi:i<cs.length)(hn: ¬ (gd cs i).ms.length>1)(a:LstOf (sngL ((cs.take i).map Chm.pl)) h is):LstOf (sngL ((cs.take (i+1)).map Chm.pl)) h is:=by
 rw[pl_snoc hi,sng_snoc,if_neg (show ¬ (gd cs i).pl.2.length>1 from hn),List.append_nil];exact a
theorem sng_yes {cs:List Chm}{i:Nat}{h:Hd}{is:Bool}(hi:i<cs.length)(hn:(gd cs i).ms.length>1)(hh:HdOk h)(hx:HdOk (gd cs i).p.2)(a:LstOf (sngL ((cs.take i).map Chm.pl)) h is):LstOf (sngL ((cs.take (i+1)).map Chm.pl)) (lesH h is (gd cs i).p.2) (lesI h is (gd cs i).p.2):=by
 rw[pl_snoc hi,sng_snoc,if_pos (show (gd cs i).pl.2.length>1 from hn)];exact lst_step hh hx a
theorem loc_2 {a b:Nat × Obj}{X:Mm}:LocL (a::b::X) [a,b] X (fun M'=>M'++X):=(LocL.h:LocL ([a,b]++X) [a,b] X _)
abbrev Ng (fl:List Fd) (tick:Int) (p1:Po):Prop:=∀ a n,PF fl tick p1 (N0 fl)=some (a,n)->¬ (rulesP n (bsF fl) a).length<=4000
structure ErrIs (fl:List Fd) (tick:Int) (p:Po) (e:Int):Prop where
 f:PF fl tick p (N0 fl)=none->e=12
 l:∀ a n,PF fl tick p (N0 fl)=some (a,n)->4000<(rulesP n (bsF fl) a).length->e=2
theorem qsng_s {fl:List Fd}(hfl:FlOk fl)(tick:Int){m1:Pom}{p1:Po}(hI1:IsO fl m1 p1)(hF1:p1.Fit (bsF fl))(hM1:PoM w0 H m1){b1:Nat}(f1:Fnd H b1 (Cl (encPo m1) 28))(hn1:m1.nd<=62)(e:Int)(hEr:ErrIs fl tick p1 e):QuS w0 fl tick 59 [Pt b1 0] e (Ans (AskP tick 5 p1 p1)) (Ng fl tick p1) H:=by
 intro dx db p mp v R hR hst hE;have hb:=Eg hfl;show FSpecP prog w0 59 #[Value.agg #[Pt p 0,Vi tick],Pt b1 0] _ _ _ _;refine Bj func59 U ntmps59 U (rDt 2 U (e_ (Ot U cs_) ?_ U));rintro _ _ ⟨n2,rfl,rfl⟩;refine e_ (Ag zeroValue32 cs_) ?_ U;rintro _ _ ⟨n3,rfl,rfl⟩;refine e_ (Ag zeroValue4 cs_) ?_ U;rintro _ _ ⟨n4,rfl,rfl⟩;refine rOt 4 U ?_;refine Bo (Aj (T U) Al sizeOf4) U Ad ?_;rintro _ _ ⟨rfl,rfl⟩;refine rOt 4 U (Bf 11 (plq4 [(10,true),(4,false),(5,false),(6,true),(7,true),(8,false),(9,true)]) ((n4,Cl [.bool true] 4)::(n3,Cl [Vi 0,Vi 0,Vi 0,Vi 0,Vi 0,Vi 0,Vi 0,Vi 0,Vi 0,Vi 0] 32)::(n2,Cl [Pt p 0,Vi tick] 70)::R) mixd qkr sbt ?_ B1);refine rPt 1 U ?_;refine o_y U (Om U isAgg68 qco) ?_ U Ad;refine o_y U (On U isAgg70 sizeOf70 U (by exact Ae fndq)) ?_ U Ad;refine o_y U (On U isAgg28 sizeOf28 U (by exact Ae (Fnd.mono f1 (List.Sublist.trans hR sbt)))) ?_ U Ad;refine rPt 1 U ?_;refine o_p rfl (As (evq2 rfl rfl) call46 (A5 (M:=SM (NewD fl 200000 dx db p mp) v (nsE (2*(bsF fl).length))) (FSpecP.re (fw:=errV e) (E5 (R:=((n4,Cl [.bool true] 4)::(n3,Cl [Vi 0,Vi 0,Vi 0,Vi 0,Vi 0,Vi 0,Vi 0,Vi 0,Vi 0,Vi 0] 32)::(n2,Cl [Pt p 0,Vi tick] 70)::R)) hst (hE.mono sbt) m1 p1 hI1 hF1 (hM1.mono (List.Sublist.trans hR sbt)) tick) (by rintro _ ⟨_,⟨h9,_⟩,_⟩;rw[hEr.f h9])) locqc)) ?_ (by rintro _ ⟨⟨v9,n9⟩,⟨e1,g9,hst9⟩,rfl⟩;(repeat refine By ?_);exact Bi ⟨(by intro a n f;cases e1.symm.trans f),sbt⟩ (List.Sublist.refl _)) rfl Ad;rintro _ _ ⟨⟨id1,v1,ns1⟩,⟨rfl,e1,hst1⟩,rfl⟩
 dsimp only at e1 hst1
 obtain⟨g1,h1⟩:=Dt hb hF1 hst.w e1;refine⟨sbt,?_⟩;refine o_e U (Ah (evq2 U U) call61 (rules_v (D:=(NewD fl 200000 dx db p mp)) hst1 hb U (by repeat (first|exact List.sublist_append_left _ _|refine List.Sublist.cons _ ?_)) (hE.bits.mono sbt) (pol_bdd hfl hI1 hF1 hn1 hst1.w h1.rep) id1 h1.lt (fun h0=>ps_0 h1.lt h0))) ?_ U Ad;rintro _ _ ⟨d5,cs5,e5,rfl,hR5,rfl⟩;refine⟨sbt,(rPt 2 U ?_)⟩;refine o_p rfl (As (evq2 rfl rfl) call60 (mustC_s (slQ d5) cs5.length (slC d5) e5 (errV e) (fun h9=>by obtain⟨h7,h8, -⟩:=hR5.resolve_left (fun k=>h9 k.1);rw[h7,hEr.l _ _ e1 h8]))) ?_ (by rintro _ ⟨he,rfl⟩;(repeat refine By ?_);exact Bi ⟨(by intro a n f;cases e1.symm.trans f;have:=(hR5.resolve_left fun k=>he k.1).2.1;omega),sbt⟩ (List.Sublist.refl _)) rfl Ad;rintro _ _ ⟨⟨⟩,⟨rfl,he0⟩,rfl⟩;obtain⟨-,h4,he5,hd5,hc5⟩:=hR5.resolve_right fun k=>absurd (k.1.symm.trans he0) qde
 have hRl:=rules_ok hb hst1.w h1.lt h1.rep (fun a b=>h1.out a b);have hcl:cs5.length<=4000:=by rw[<- List.length_map (f:=Chm.pl),he5];exact h4
 refine⟨sbt,(rPt 1 U (Av U (rOt 3 U ?_)))⟩;refine A8 (X:=Nat × Hd × Bool) (V:=fun ⟨i,h,is⟩=>[(17,Vi (i:Nat))]) (C:=[(3,_),(4,_),(15,_),(16,_)]) (G:=fun ⟨i,h,is⟩=>(slH d5 (cs5.flatMap encCh) 94++chM cs5)++((n4,Cl [.bool is] 4)::(n3,Cl (hdC h) 32)::(n2,Cl [Pt p 0,Vi tick] 70)::(SM (NewD fl 200000 dx db p mp) v1 ns1++R))) (φ:=fun ⟨i,h,is⟩=>i<=cs5.length/\HdOk h/\LstOf (sngL ((cs5.take i).map Chm.pl)) h is) (μ:=fun ⟨i,h,is⟩=>cs5.length - i) (x0:=(0,hd0,true)) ?_ (kg U) qkg (by exact List.Sublist.refl _) ?_
 ·exact⟨Nat.zero_le _,Ay,lst_nil⟩
 rintro⟨i,h,is⟩ ⟨hi,hh,hL⟩;refine rDt 6 U ?_;refine jcd U (fun c18=> ?_) (fun c18=> ?_)
 ·have hi2:i<cs5.length:=Int.ofNat_lt.1 c18;have hci:=hc5 _ (Ax hi2);have hpi:=(hRl.r _ (Nc he5 (Ax hi2))).1;refine rCt 6 U (y_ (Oo U U runUnderlying86 sizeOf94 (Int.ofNat_lt.1 c18) (by first|exact rfl|exact(L8 (w0:=w0) (X:=[]) hd5).b (i:=i) hi2)) ?_ U);refine y_ (On U isAgg94 sizeOf94 (D8 _) (by exact(L8 hd5).cs (i:=i) hi2)) ?_ U;refine e_ (Ag zeroValue94 cs_) ?_ U;rintro _ _ ⟨n6,rfl,rfl⟩;refine e_ (Oq U U sizeOf94 .agg (encCh_one _) (D8 _) updq (by rw[D8];rfl)) ?_ U;rintro _ _ ⟨rfl,rfl⟩;rw[encCh_eq hci.o];refine rOt 5 U ?_;refine y_ (Om U isAgg92 (by first|exact c_o|exact Ie hci.o fndq)) ?_ U;refine rOt 4 U ?_;refine jcd U (fun c24=> ?_) (fun c24=> ?_)
  ·have hn24:(gd cs5 i).ms.length>1:=by have h9:(((gd cs5 i).ms.length:Nat):Int)>1:=c24;omega
   refine rCt 2 U ?_;refine y_ (On U isAgg91 sizeOf91 (Bd hci.o.1 hci.o.2) (by exact chV_lo fndq)) ?_ U;refine y_ (Ao (evq1 U) call63 (fun H' hs=>eleast_s (gd cs5 i).p hpi)) (e_ (Ah (evq3 U U U) call62 (B7 (M:=[(n4,Cl [.bool is] 4),(n3,Cl (hdC h) 32)]) (eles_s (R:=(n6,Cl (chV (gd cs5 i).p (slV (gd cs5 i).d (gd cs5 i).ms.length)) 94)::((slH d5 (cs5.flatMap encCh) 94++chM cs5)++((n2,Cl [Pt p 0,Vi tick] 70)::(SM (NewD fl 200000 dx db p mp) v1 ns1++R)))) n3 n4 h hh is (gd cs5 i).p.2 hpi.o2) (by repeat (first|exact loc_2|apply LocL.t|apply LocL.a)))) ?_ U) U;rintro _ _ ⟨⟨⟩,rfl,rfl⟩;refine rOt 4 U (y_ (Aw (T U) Al qom) ?_ U);refine rOt 2 U ?_;refine Au ((i+1,lesH h is (gd cs5 i).p.2,lesI h is (gd cs5 i).p.2)) ?_ ?_ qkg (kg U) ?_
   ·exact⟨hi2,K1 hh hpi.o2,sng_yes hi2 hn24 hh hpi.o2 hL⟩
   ·first|omega|(simp only[];omega)
   ·exact sbt
  ·have hn24: ¬ (gd cs5 i).ms.length>1:=by have h9: ¬ (((gd cs5 i).ms.length:Nat):Int)>1:=c24;omega
   refine rCt 4 U (y_ (Aw (T U) Al qom) ?_ U);refine rOt 2 U ?_;refine Au ((i+1,h,is)) ?_ ?_ qkg (kg U) ?_
   ·exact⟨hi2,hh,sng_no hi2 hn24 hL⟩
   ·first|omega|(simp only[];omega)
   ·exact sbt
 ·obtain rfl:i=cs5.length:=by have h9: ¬ ((i:Nat):Int)<(cs5.length:Nat):=c18;omega
  rw[List.take_length,he5] at hL;refine rCt 2 U (An (rXt 4 U ?_));refine y_ (On U isAgg32 sizeOf32 (Af hh) (by exact Ae fndq)) ?_ U;refine y_ (Om U isAgg4 qco) ?_ U;refine e_ (Oq U U sizeOf32 .agg (Bc _) (Af hh) updq qrf) ?_ U;rintro _ _ ⟨rfl,rfl⟩;refine Bo (Oq U U sizeOf4) U Ad ?_;rintro _ _ ⟨rfl,rfl⟩;refine rOt 3 U (Bs U (.cellA (Aa U) isAgg32 sizeOf32 (Af hh) qcs (.cell (Aa U) isAgg4 qco .nil)) ?_);exact⟨_,⟨⟨h,is,rfl,hh,sng_ans hRl hL⟩,sbt⟩,sb0⟩
theorem esingle_s {fl:List Fd}(hfl:FlOk fl)(q:Option Addr)(c:Nat)(hA:Arr w0 H q 3 encF fl)(tick:Int){m1:Pom}{p1:Po}(hI1:IsO fl m1 p1)(hF1:p1.Fit (bsF fl))(hM1:PoM w0 H m1)(hn1:m1.nd<=62)(e:Int)(hEr:ErrIs fl tick p1 e):
  FSpec prog w0 19 #[.slice q fl.length c, .agg (encPo m1).toArray,Vi tick] H (AskK (Ans (AskP tick 5 p1 p1)) e (Ng fl tick p1) H):=by
 refine Am func19 U ntmps19 U (rDt 2 U (e_ (Ot U cs_) ?_ U));rintro _ _ ⟨n4,rfl,rfl⟩;refine e_ (Ag zeroValue32 cs_) ?_ U;rintro _ _ ⟨n6,rfl,rfl⟩;refine rOt 8 U (y_ (Bn (.cons (T U) .nil)) ?_ U);refine e_ (Ah (evq3 U U U) call43 (K8 fl hfl q c (hA.mono sbt) tick e call59 (qsng_s hfl tick hI1 hF1 (hM1.mono sbt) fndq hn1 e hEr))) ?_ U;rintro _ _ ⟨⟨h,is,e9,rfl,hh,hR⟩,rfl⟩;refine rOt 3 U (e_ (Oq U U sizeOf32 .agg (Bc _) (Af hh) updq (by rw[Af hh];rfl)) ?_ U);rintro _ _ ⟨rfl,rfl⟩;refine rOt 5 U (Ai U (.cellA (Aa U) isAgg32 sizeOf32 (Af hh) qcs (.tmp (Aa U) (Ol U))) ?_);exact⟨_,⟨⟨h,is,e9,rfl,hh,hR⟩,rfl⟩,sbt⟩
theorem Kc1 {a0 a1 a2 a3 a4 a5 a6 a7 a8 a9 a10 a11 a12 a13 a14 a15 a16 a17 a18 a19:Int}(w:World):(Instr.buildSlice 99 1 #[(0, .agg #[Vi a0,Vi a1,Vi a2,Vi a3,Vi a4,Vi a5,Vi a6,Vi a7,Vi a8,Vi a9,Vi a10,Vi a11,Vi a12,Vi a13,Vi a14,Vi a15,Vi a16,Vi a17,Vi a18,Vi a19])]).run prog w= .ok (.slice (some ⟨w.heap.size,0,none⟩) 1 1) (w.alloc (Cl [Vi a0,Vi a1,Vi a2,Vi a3,Vi a4,Vi a5,Vi a6,Vi a7,Vi a8,Vi a9,Vi a10,Vi a11,Vi a12,Vi a13,Vi a14,Vi a15,Vi a16,Vi a17,Vi a18,Vi a19] 91)):=by kernel_rfl
theorem bs99 {m:Md}(h:HdOk m.1/\HdOk m.2)(w:World):(Instr.buildSlice 99 1 #[(0, .agg (mdC m).toArray)]).run prog w= .ok (.slice (some ⟨w.heap.size,0,none⟩) 1 1) (w.alloc (Cl (mdC m) 91)):=by
 obtain⟨a,b⟩:=m;obtain⟨a0,a1,a2,a3,a4,a5,a6,a7,a8,a9,rfl⟩:=hd10 h.1;obtain⟨b0,b1,b2,b3,b4,b5,b6,b7,b8,b9,rfl⟩:=hd10 h.2;exact Kc1 w
theorem mods_30 {fl:List Fd}(hfl:FlOk fl){m:Pom}{p:Po}(hI:IsO fl m p)(hF:p.Fit (bsF fl))(hn:m.nd<=30){t:Int}{L:List (Md × List Md)}(hL:RlOk L (den t p)):∀ c∈L,c.2.length<=32768:=fun c hc=>by
 have hq:Eqd (setsO p):=fun e he e' he' b c d=>pw_eq hfl.pw (Kb hI hF e he) (Kb hI hF e' he') c d
 have hr:=(hL.r c hc).1;have hm:matM c.1 c.1.2:=fun _ _ _=>rfl
 have h1:=out_few (L:=setsO p) (h:=c.1.2) (hL.nd c.1.2 c hc hm) fun x hx=>by
  obtain⟨d,hd,rfl⟩:=List.mem_map.1 hx;obtain⟨χ,_,e⟩:=Hv hq (fun e he=>he) (fun e he=>⟨_,F1 hF e he⟩) hr.o2 ((hL.say c.1.2 hr.o2 _).1 ⟨c,hc,hm,d,hd,rfl⟩);exact⟨χ,e⟩
 rw[List.length_map] at h1;have h2:=sets_nd hI;have h3:2 ^ (setsO p).length<=2 ^ 15:=Nat.pow_le_pow_right qom qom;have h3:2 ^ (setsO p).length<=32768:=h3;omega
theorem imgL_len {B:Nat}:∀ {L:List (Md × List Md)},(∀ c∈L,c.2.length<=B)->(imgL L).length<=L.length*B
 |[],_=>Nat.zero_le _
 |c::L,h=>by
  have h1:=h c (by simp);have h2:=imgL_len (L:=L) fun d hd=>h d (by simp[hd])
  show (c.2.map (thnM c.1)++imgL L).length<=(L.length+1)*B;rw[List.length_append,List.length_map,Nat.succ_mul];omega
theorem imgL_app (A B:List (Md × List Md)):imgL (A++B)=imgL A++imgL B:=by unfold imgL;rw[List.flatMap_append]
theorem img_snoc {cs:List Chm}{i:Nat}(hi:i<cs.length):imgL ((cs.take (i+1)).map Chm.pl)=imgL ((cs.take i).map Chm.pl)++(gd cs i).ms.map (thnM (gd cs i).p):=by
 rw[pl_snoc hi,imgL_app];show _++((gd cs i).ms.map (thnM (gd cs i).p)++[])=_;rw[List.append_nil]
theorem chm_sub9 {c:Chm}:∀ {cs:List Chm},c∈cs->(slH c.d (c.ms.flatMap encMdF) 144).Sublist (chM cs)
 |[],h=>by cases h
 |d::cs,h=>by
  show (slH c.d (c.ms.flatMap encMdF) 144).Sublist ((d::cs).flatMap _);rw[List.flatMap_cons];rcases List.mem_cons.1 h with rfl|h
  ·exact List.sublist_append_left _ _
  ·exact(chm_sub9 h).trans (List.sublist_append_right _ _)
theorem ms_arr {w0:World}{d:Sl}{cs:List Chm}{c:Chm}{X:Mm}(hc:c∈cs)(ho:SlOk c.d c.ms.length 20):Arr w0 ((slH d (cs.flatMap encCh) 94++chM cs)++X) (slQ c.d) 20 encMdF c.ms:=by
 have:=B3 (w0:=w0) (e:=144) (X:=[]) (enc:=encMdF) (l:=c.ms) Ce ho;rw[List.append_nil] at this;exact this.mono (((chm_sub9 hc).trans (List.sublist_append_right _ _)).trans (List.sublist_append_left _ _))
structure ErrN (fl:List Fd) (tick:Int) (p:Po) (ns:Ns) (e:Int):Prop where
 f:PF fl tick p ns=none->e=12
 l:∀ a n,PF fl tick p ns=some (a,n)->4000<(rulesP n (bsF fl) a).length->e=2
structure ImgK (fl:List Fd) (tick:Int) (p:Po) (ns:Ns) (D:Sd) (d:Sl) (l:List Md) (id:Nat) (v':Sv) (ns':Ns):Prop where
 sl:SlOk d l.length 20
 pf:PF fl tick p ns=some (id,ns')
 few:(rulesP ns' (bsF fl) id).length<=4000
 im:l=imgL (rulesP ns' (bsF fl) id)
 st:StOk D v' ns'
 len:l.length<=200000000
theorem qimg_s {w0:World}{fl:List Fd}(hfl:FlOk fl)(tick:Int){dx db:Sl}{p mp:Nat}{v:Sv}{ns:Ns}{R:Mm}(hst:StOk (NewD fl 200000 dx db p mp) v ns)(hE:En w0 R (NewD fl 200000 dx db p mp) fl){m1:Pom}{p1:Po}(hI1:IsO fl m1 p1)(hF1:p1.Fit (bsF fl))(hM1:PoM w0 R m1)(hn1:m1.nd<=30)(e:Int)(hEr:ErrN fl tick p1 ns e):
  FSpecP prog w0 67 #[.agg #[Pt p 0,Vi tick], .agg (encPo m1).toArray] (SM (NewD fl 200000 dx db p mp) v ns++R) (fun u H'=>∃ x:Sl × List Md × Nat × Sv × Ns,(u=slV x.1 x.2.1.length/\ImgK fl tick p1 ns (NewD fl 200000 dx db p mp) x.1 x.2.1 x.2.2.1 x.2.2.2.1 x.2.2.2.2)/\H'=(slH x.1 (x.2.1.flatMap encMdF) 91++SM (NewD fl 200000 dx db p mp) x.2.2.2.1 x.2.2.2.2)++R) (errV e) (fun H'=>∃ y:Sv × Ns,(∀ a n,PF fl tick p1 ns=some (a,n)->¬ (rulesP n (bsF fl) a).length<=4000)/\H'=SM (NewD fl 200000 dx db p mp) y.1 y.2++R):=by
 have hb:=Eg hfl;refine Bj func67 U ntmps67 U (rDt 2 U (e_ (Ot U cs_) ?_ U));rintro _ _ ⟨n2,rfl,rfl⟩;refine e_ (Ot U cs_) ?_ U;rintro _ _ ⟨n3,rfl,rfl⟩;refine rOt 10 U (Bf 11 (plq4 [(10,true),(4,false),(5,false),(6,true),(7,true),(8,false),(9,true)]) ((n3,Cl (encPo m1) 28)::(n2,Cl [Pt p 0,Vi tick] 70)::R) mixd qkr sbt ?_ B1);refine rPt 1 U ?_;refine o_y U (Om U isAgg68 qco) ?_ U Ad;refine o_y U (On U isAgg70 sizeOf70 U (by exact Ae fndq)) ?_ U Ad;refine o_y U (On U isAgg28 sizeOf28 U (by exact Ae fndq)) ?_ U Ad;refine rPt 1 U ?_;refine o_p rfl (As (evq2 rfl rfl) call46 (A5 (M:=SM (NewD fl 200000 dx db p mp) v ns) (FSpecP.re (fw:=errV e) (E5 (R:=((n3,Cl (encPo m1) 28)::(n2,Cl [Pt p 0,Vi tick] 70)::R)) hst (hE.mono sbt) m1 p1 hI1 hF1 (hM1.mono sbt) tick) (by rintro _ ⟨_,⟨h9,_⟩,_⟩;rw[hEr.f h9])) locqc)) ?_ (by rintro _ ⟨⟨v9,n9⟩,⟨e1,g9,hst9⟩,rfl⟩;(repeat refine By ?_);exact Bi ⟨(v9,n9),(by intro a n f;cases e1.symm.trans f),rfl⟩ sbt) rfl Ad;rintro _ _ ⟨⟨id1,v1,ns1⟩,⟨rfl,e1,hst1⟩,rfl⟩
 dsimp only at e1 hst1
 obtain⟨g1,h1⟩:=Dt hb hF1 hst.w e1;refine⟨sbt,?_⟩;refine o_e U (Ah (evq2 U U) call61 (rules_v (D:=(NewD fl 200000 dx db p mp)) hst1 hb U (by repeat (first|exact List.sublist_append_left _ _|refine List.Sublist.cons _ ?_)) (hE.bits.mono sbt) (pol_bdd hfl hI1 hF1 qom hst1.w h1.rep) id1 h1.lt (fun h0=>ps_0 h1.lt h0))) ?_ U Ad;rintro _ _ ⟨d5,cs5,e5,rfl,hR5,rfl⟩;refine⟨sbt,(rPt 2 U ?_)⟩;refine o_p rfl (As (evq2 rfl rfl) call60 (mustC_s (slQ d5) cs5.length (slC d5) e5 (errV e) (fun h9=>by obtain⟨h7,h8, -⟩:=hR5.resolve_left (fun k=>h9 k.1);rw[h7,hEr.l _ _ e1 h8]))) ?_ (by rintro _ ⟨he,rfl⟩;(repeat refine By ?_);exact Bi ⟨(v1,ns1),(by intro a n f;cases e1.symm.trans f;have:=(hR5.resolve_left fun k=>he k.1).2.1;omega),rfl⟩ sbt) rfl Ad;rintro _ _ ⟨⟨⟩,⟨rfl,he0⟩,rfl⟩;obtain⟨-,h4,he5,hd5,hc5⟩:=hR5.resolve_right fun k=>absurd (k.1.symm.trans he0) qde
 have hRl:=rules_ok hb hst1.w h1.lt h1.rep (fun a b=>h1.out a b);have hcl:cs5.length<=4000:=by rw[<- List.length_map (f:=Chm.pl),he5];exact h4
 have hmb:=mods_30 hfl hI1 hF1 hn1 hRl;have hmc:∀ c∈cs5,c.ms.length<=32768:=fun c hc=>hmb _ (Nc he5 hc)
 have hil:∀ i,i<=cs5.length->(imgL ((cs5.take i).map Chm.pl)).length<=i*32768:=fun i hi=>by
  have h9:=imgL_len (B:=32768) (L:=(cs5.take i).map Chm.pl) fun c hc=>by obtain⟨d,hd,rfl⟩:=List.mem_map.1 hc;exact hmc d (List.mem_of_mem_take hd)
  rwa [List.length_map,List.length_take,Nat.min_eq_left hi] at h9
 refine⟨sbt,(rPt 1 U (Av U (rOt 3 U ?_)))⟩;refine A8 (X:=Nat × Sl × List Md) (V:=fun ⟨i,dI,l⟩=>[(5,slV dI l.length),(20,Vi (i:Nat))]) (C:=[(18,_),(19,_)]) (G:=fun ⟨i,dI,l⟩=>slH dI (l.flatMap encMdF) 91++((slH d5 (cs5.flatMap encCh) 94++chM cs5)++((n3,Cl (encPo m1) 28)::(n2,Cl [Pt p 0,Vi tick] 70)::(SM (NewD fl 200000 dx db p mp) v1 ns1++R)))) (φ:=fun ⟨i,dI,l⟩=>i<=cs5.length/\l=imgL ((cs5.take i).map Chm.pl)/\SlOk dI l.length 20) (μ:=fun ⟨i,dI,l⟩=>cs5.length - i) (x0:=(0, .nil,[])) ?_ (kg U) qkg (by exact List.Sublist.refl _) ?_
 ·exact⟨Nat.zero_le _,rfl,rfl⟩
 rintro⟨i,dI,l⟩ ⟨hi,hl,hdI⟩;have hll:=hil i hi;rw[<- hl] at hll;refine rDt 6 U ?_;refine jcd U (fun c21=> ?_) (fun c21=> ?_)
 ·have hi2:i<cs5.length:=Int.ofNat_lt.1 c21;have hci:=hc5 _ (Ax hi2);have hpi:=(hRl.r _ (Nc he5 (Ax hi2))).1;have hmi:=(hRl.r _ (Nc he5 (Ax hi2))).2;have hmn:=hmc _ (Ax hi2);obtain⟨l0,hl0⟩:∃ l0,l0=l:=⟨_,rfl⟩;subst hl0;refine rCt 6 U (y_ (Oo U U runUnderlying86 sizeOf94 (Int.ofNat_lt.1 c21) (by first|exact rfl|exact(L8 (w0:=w0) (X:=[]) hd5).b (i:=i) hi2)) ?_ U);refine y_ (On U isAgg94 sizeOf94 (D8 _) (by exact((L8 hd5).mono (List.sublist_append_right _ _)).cs (i:=i) hi2)) ?_ U;refine e_ (Ag zeroValue94 cs_) ?_ U;rintro _ _ ⟨n7,rfl,rfl⟩;refine e_ (Oq U U sizeOf94 .agg (encCh_one _) (D8 _) updq (by rw[D8];rfl)) ?_ U;rintro _ _ ⟨rfl,rfl⟩;rw[encCh_eq hci.o];refine rOt 5 U ?_;refine y_ (Om U isAgg92 (by first|exact c_o|exact Ie hci.o fndq)) ?_ U;refine rOt 5 U ?_;refine A8 (X:=Nat × Sl × List Md) (V:=fun ⟨j,dI,l⟩=>[(5,slV dI l.length),(27,Vi (j:Nat))]) (C:=[(7,_),(18,_),(19,_),(20,_),(25,_),(26,_)]) (G:=fun ⟨j,dI,l⟩=>(n7,Cl (chV (gd cs5 i).p (slV (gd cs5 i).d (gd cs5 i).ms.length)) 94)::(slH dI (l.flatMap encMdF) 91++((slH d5 (cs5.flatMap encCh) 94++chM cs5)++((n3,Cl (encPo m1) 28)::(n2,Cl [Pt p 0,Vi tick] 70)::(SM (NewD fl 200000 dx db p mp) v1 ns1++R))))) (φ:=fun ⟨j,dI,l⟩=>j<=(gd cs5 i).ms.length/\l=l0++((gd cs5 i).ms.take j).map (thnM (gd cs5 i).p)/\SlOk dI l.length 20) (μ:=fun ⟨j,dI,l⟩=>(gd cs5 i).ms.length - j) (x0:=(0,dI,l0)) ?_ (kg U) qkg sbt ?_
  ·exact⟨Nat.zero_le _,by simp,hdI⟩
  rintro⟨j,dI,l⟩ ⟨hj,hl2,hdI⟩;have hl3:l.length<=l0.length+32768:=by rw[hl2,List.length_append,List.length_map,List.length_take];omega
  refine rDt 6 U ?_;refine jcd U (fun c28=> ?_) (fun c28=> ?_)
  ·have hj2:j<(gd cs5 i).ms.length:=Int.ofNat_lt.1 c28;have hmj:=hmi _ (Ax hj2);refine rCt 6 U (y_ (Oo U U runUnderlying92 sizeOf144 (Int.ofNat_lt.1 c28) (by first|exact rfl|exact(L8 (w0:=w0) (X:=[]) hd5).b (i:=i) hi2|exact(ms_arr (w0:=w0) (d:=d5) (X:=[]) (Ax hi2) hci.sl).b (i:=j) hj2)) ?_ U);refine y_ (On U isAgg144 sizeOf144 (Bd hmj.o1 hmj.o2) (by exact md_cs hmj (((ms_arr (X:=((n3,Cl (encPo m1) 28)::(n2,Cl [Pt p 0,Vi tick] 70)::(SM (NewD fl 200000 dx db p mp) v1 ns1++R))) (Ax hi2) hci.sl).mono sbt).cs (i:=j) hj2))) ?_ U;refine e_ (Ag zeroValue144 cs_) ?_ U;rintro _ _ ⟨n9,rfl,rfl⟩;refine e_ (Oq U U sizeOf144 .agg (Cn _ _) (Bd hmj.o1 hmj.o2) updq (by rw[Bd hmj.o1 hmj.o2];rfl)) ?_ U;rintro _ _ ⟨rfl,rfl⟩;refine rOt 5 U ?_;refine y_ (On U isAgg91 sizeOf91 (Bd hci.o.1 hci.o.2) (by exact chV_lo fndq)) ?_ U;refine y_ (On U isAgg144 sizeOf144 (Bd hmj.o1 hmj.o2) (by exact Ae fndq)) ?_ U;refine y_ (Ao (evq2 U U) call110 (fun H' hs=>eimage_s (gd cs5 i).p (gd (gd cs5 i).ms j) hpi hmj)) (e_ (Bb (.cons (T U) .nil) (bs99 (Gm _ _))) ?_ U) U;rintro _ _ ⟨n36,rfl,rfl⟩;refine e_ (Cg (enc:=encMdF) (thnM (gd cs5 i).p (gd (gd cs5 i).ms j)) (by':=160) locq (T U) (T U) runUnderlying99 runUnderlying99 sizeOf91 typeInfo91 U zeroValue91 U Ce (D3 _) hdI qde qom (by rw[D7 (Gm _ _)];exact A0)) ?_ U;rintro _ _ ⟨d',rfl,hd',rfl⟩;refine rOt 5 U (y_ (Aw (T U) Al qom) ?_ U);refine rOt 2 U ?_;refine Au ((j+1,d',l++[thnM (gd cs5 i).p (gd (gd cs5 i).ms j)])) ?_ ?_ ⟨atd,qat,trivial⟩ (kg U) ?_
   ·exact⟨hj2,by rw[hl2,List.take_succ_eq_append_getElem hj2,List.map_append,Ar hj2,List.append_assoc];rfl,by rw[List.length_append];exact hd'⟩
   ·first|omega|(simp only[];omega)
   ·exact sbt
  ·obtain rfl:j=(gd cs5 i).ms.length:=by have h9: ¬ ((j:Nat):Int)<((gd cs5 i).ms.length:Nat):=c28;omega
   rw[List.take_length] at hl2;refine rCt 2 U (An (rXt 4 U (y_ (Aw (T U) Al qom) ?_ U)));refine rOt 2 U ?_;refine Au ((i+1,dI,l)) ?_ ?_ qkg (kg U) ?_
   ·exact⟨hi2,by rw[hl2,hl,img_snoc hi2],hdI⟩
   ·first|omega|(simp only[];omega)
   ·exact sbt
 ·obtain rfl:i=cs5.length:=by have h9: ¬ ((i:Nat):Int)<(cs5.length:Nat):=c21;omega
  rw[List.take_length,he5] at hl;refine rCt 2 U (An (rXt 9 U (Bs U (Ol U) ?_)));exact⟨_,⟨(dI,l,id1,v1,ns1),⟨rfl,⟨hdI,e1,h4,hl,hst1,by show l.length<=_;omega⟩⟩,rfl⟩,by rw[List.append_assoc];exact sbt⟩
def andZ (p q:Md):Md:=if ovlB p q then andM p q else (hd0,hd0)
theorem andZ_t {p q:Md}(h:ovlB p q=true):andZ p q=andM p q:=if_pos h
theorem I5 (p q:Md):HdOk (andZ p q).1/\HdOk (andZ p q).2:=by
 unfold andZ
 split
 ·exact L4 p q
 ·exact⟨Ay,Ay⟩
theorem eand_v (p q:Md)(hp:MdR p)(hq:MdR q):FSpec prog w0 68 #[.agg (mdC p).toArray, .agg (mdC q).toArray] H (Still (.tuple #[.agg (mdC (andZ p q)).toArray, .bool (ovlB p q)]) H):=by
 have e:=eand_s (w0:=w0) (H:=H) p q hp hq;unfold andZ
 by_cases h:ovlB p q=true
 ·rw[if_pos h] at e ⊢;rw[h];exact e
 ·rw[if_neg h] at e ⊢;rw[show ovlB p q=false by simpa using h];exact e
abbrev metR (x:Md) (Y:List Md):List Hd:=(Y.filter (ovlB x)).map fun y=>(andM x y).2
theorem met_snoc {X Y:List Md}{i:Nat}(hi:i<X.length):metL (X.take (i+1)) Y=metL (X.take i) Y++metR (gd X i) Y:=by
 unfold metL;rw[List.take_succ_eq_append_getElem hi,List.flatMap_append,Ar hi];simp
theorem metR_snoc {x:Md}{Y:List Md}{j:Nat}(hj:j<Y.length):metR x (Y.take (j+1))=metR x (Y.take j)++(if ovlB x (gd Y j) then [(andM x (gd Y j)).2] else []):=by
 unfold metR;rw[List.take_succ_eq_append_getElem hj,List.filter_append,List.map_append,<- Ar hj]
 congr 1
 by_cases h:ovlB x (gd Y j)=true
 ·rw[if_pos h,List.filter_cons_of_pos h];rfl
 ·rw[if_neg h,List.filter_cons_of_neg h];rfl
theorem met_no {A:List Hd}{x:Md}{Y:List Md}{j:Nat}{h:Hd}{is:Bool}(hj:j<Y.length)(ho:ovlB x (gd Y j)=false)(a:LstOf (A++metR x (Y.take j)) h is):LstOf (A++metR x (Y.take (j+1))) h is:=by
 rw[metR_snoc hj,if_neg (by rw[ho];decide),List.append_nil];exact a
theorem met_yes {A:List Hd}{x:Md}{Y:List Md}{j:Nat}{h:Hd}{is:Bool}(hj:j<Y.length)(ho:ovlB x (gd Y j)=true)(hh:HdOk h)(a:LstOf (A++metR x (Y.take j)) h is):LstOf (A++metR x (Y.take (j+1))) (lesH h is (andM x (gd Y j)).2) (lesI h is (andM x (gd Y j)).2):=by
 rw[metR_snoc hj,if_pos ho,<- List.append_assoc];exact lst_step hh (L4 _ _).2 a
abbrev Nh (fl:List Fd) (tick:Int) (p1 p2:Po):Prop:=∀ a n,PF fl tick p2 (N0 fl)=some (a,n)->(rulesP n (bsF fl) a).length<=4000->∀ b m,PF fl tick p1 n=some (b,m)->¬ (rulesP m (bsF fl) b).length<=4000
structure ErrD (fl:List Fd) (tick:Int) (p1 p2:Po) (e:Int):Prop where
 two:ErrN fl tick p2 (N0 fl) e
 one:∀ a n,PF fl tick p2 (N0 fl)=some (a,n)->(rulesP n (bsF fl) a).length<=4000->ErrN fl tick p1 n e
theorem imgs_rl {fl:List Fd}(hfl:FlOk fl){tick:Int}{p1:Po}{ns ns':Ns}{D:Sd}{d:Sl}{l:List Md}{id:Nat}{v':Sv}(hw:Wf (2*(bsF fl).length) ns)(hF:p1.Fit (bsF fl))(h:ImgK fl tick p1 ns D d l id v' ns'):RlOk (rulesP ns' (bsF fl) id) (den tick p1):=by
 have hb:=Eg hfl;obtain⟨g,k⟩:=Dt hb hF hw h.pf;exact rules_ok hb g.w k.lt k.rep (fun a b=>k.out a b)
theorem imgs_r {fl:List Fd}(hfl:FlOk fl){tick:Int}{p1:Po}{ns ns':Ns}{D:Sd}{d:Sl}{l:List Md}{id:Nat}{v':Sv}(hw:Wf (2*(bsF fl).length) ns)(hF:p1.Fit (bsF fl))(h:ImgK fl tick p1 ns D d l id v' ns'):∀ z∈l,MdR z:=by
 rw[h.im];exact L5 (imgs_rl hfl hw hF h)
theorem imgs_dst {fl:List Fd}(hfl:FlOk fl){tick:Int}{p1 p2:Po}{ns n1 n2:Ns}{D:Sd}{d6 d7:Sl}{l6 l7:List Md}{i1 i2:Nat}{v1 v2:Sv}{h:Hd}{is:Bool}(hw:Wf (2*(bsF fl).length) ns)(hw1:Wf (2*(bsF fl).length) n1)(hF1:p1.Fit (bsF fl))(hF2:p2.Fit (bsF fl))(h6:ImgK fl tick p2 ns D d6 l6 i1 v1 n1)(h7:ImgK fl tick p1 n1 D d7 l7 i2 v2 n2)(a:LstOf (metL l7 l6) h is):Ans (DstP tick p1 p2) h is:=by
 rw[h6.im,h7.im] at a;exact met_ans (imgs_rl hfl hw1 hF1 h7) (imgs_rl hfl hw hF2 h6) a
theorem qdst_s {fl:List Fd}(hfl:FlOk fl)(tick:Int){m1:Pom}{p1:Po}(hI1:IsO fl m1 p1)(hF1:p1.Fit (bsF fl))(hM1:PoM w0 H m1){b1:Nat}(f1:Fnd H b1 (Cl (encPo m1) 28)){m2:Pom}{p2:Po}(hI2:IsO fl m2 p2)(hF2:p2.Fit (bsF fl))(hM2:PoM w0 H m2){b2:Nat}(f2:Fnd H b2 (Cl (encPo m2) 28))(hn1:m1.nd<=30)(hn2:m2.nd<=30)(e:Int)(hEr:ErrD fl tick p1 p2 e):QuS w0 fl tick 66 [Pt b2 0,Pt b1 0] e (Ans (DstP tick p1 p2)) (Nh fl tick p1 p2) H:=by
 intro dx db p mp v R hR hst hE;have hb:=Eg hfl;show FSpecP prog w0 66 #[Value.agg #[Pt p 0,Vi tick],Pt b2 0,Pt b1 0] _ _ _ _;refine Bj func66 U ntmps66 U (rDt 2 U (e_ (Ot U cs_) ?_ U));rintro _ _ ⟨n3,rfl,rfl⟩;refine e_ (Ag zeroValue32 cs_) ?_ U;rintro _ _ ⟨n4,rfl,rfl⟩;refine e_ (Ag zeroValue4 cs_) ?_ U;rintro _ _ ⟨n5,rfl,rfl⟩;refine rOt 4 U ?_;refine Bo (Aj (T U) Al sizeOf4) U Ad ?_;rintro _ _ ⟨rfl,rfl⟩;refine rOt 4 U ?_;refine y_ (On U isAgg70 sizeOf70 U (by exact Ae fndq)) ?_ U;refine y_ (On U isAgg28 sizeOf28 U (by exact Ae (Fnd.mono f2 (List.Sublist.trans hR sbt)))) ?_ U;refine p_ (As (evq2 rfl rfl) call67 (A5 (M:=SM (NewD fl 200000 dx db p mp) v (nsE (2*(bsF fl).length))) (qimg_s (R:=((n5,Cl [.bool true] 4)::(n4,Cl [Vi 0,Vi 0,Vi 0,Vi 0,Vi 0,Vi 0,Vi 0,Vi 0,Vi 0,Vi 0] 32)::(n3,Cl [Pt p 0,Vi tick] 70)::R)) hfl tick hst (hE.mono sbt) hI2 hF2 (hM2.mono (List.Sublist.trans hR sbt)) hn2 e hEr.two) locqc)) ?_ (by rintro _ ⟨⟨v9,n9⟩,hN,rfl⟩;(repeat refine By ?_);exact Bi ⟨(fun a n f g b m f2=>absurd g (hN a n f)),sbt⟩ (List.Sublist.refl _)) rfl;rintro _ _ ⟨⟨d6,l6,id1,v1,ns1⟩,⟨rfl,hK6⟩,rfl⟩
 dsimp only at hK6
 rw[List.append_assoc];refine rOt 6 U ?_;refine y_ (On U isAgg70 sizeOf70 U (by exact Ae fndq)) ?_ U;refine y_ (On U isAgg28 sizeOf28 U (by exact Ae (Fnd.mono f1 (List.Sublist.trans hR sbt)))) ?_ U;refine p_ (As (evq2 rfl rfl) call67 (A5 (M:=SM (NewD fl 200000 dx db p mp) v1 ns1) (qimg_s (R:=((n5,Cl [.bool true] 4)::(n4,Cl [Vi 0,Vi 0,Vi 0,Vi 0,Vi 0,Vi 0,Vi 0,Vi 0,Vi 0,Vi 0] 32)::(n3,Cl [Pt p 0,Vi tick] 70)::(slH d6 (l6.flatMap encMdF) 91++R))) hfl tick hK6.st (hE.mono sbt) hI1 hF1 (hM1.mono (List.Sublist.trans hR sbt)) hn1 e (hEr.one _ _ hK6.pf hK6.few)) locqc)) ?_ (by rintro _ ⟨⟨v9,n9⟩,hN,rfl⟩;(repeat refine By ?_);exact Bi ⟨(fun a n f g b m f2=>by cases hK6.pf.symm.trans f;exact hN b m f2),sbt⟩ (List.Sublist.refl _)) rfl;rintro _ _ ⟨⟨d7,l7,id2,v2,ns2⟩,⟨rfl,hK7⟩,rfl⟩
 dsimp only at hK7
 rw[List.append_assoc];have hR6:=imgs_r hfl hst.w hF2 hK6;have hR7:=imgs_r hfl hK6.st.w hF1 hK7;have hn6:=hK6.len;have hn7:=hK7.len;refine rOt 5 U ?_;refine A8 (X:=Nat × Hd × Bool) (V:=fun ⟨i,h,is⟩=>[(20,Vi (i:Nat))]) (C:=[(4,_),(5,_),(6,_),(18,_),(19,_)]) (G:=fun ⟨i,h,is⟩=>(n5,Cl [.bool is] 4)::(n4,Cl (hdC h) 32)::(n3,Cl [Pt p 0,Vi tick] 70)::(slH d6 (l6.flatMap encMdF) 91++(slH d7 (l7.flatMap encMdF) 91++(SM (NewD fl 200000 dx db p mp) v2 ns2++R)))) (φ:=fun ⟨i,h,is⟩=>i<=l7.length/\HdOk h/\LstOf (metL (l7.take i) l6) h is) (μ:=fun ⟨i,h,is⟩=>l7.length - i) (x0:=(0,hd0,true)) ?_ (kg U) qkg (by exact List.Sublist.refl _) ?_
 ·exact⟨Nat.zero_le _,Ay,lst_nil⟩
 rintro⟨i,h,is⟩ ⟨hi,hh,hL⟩;refine rDt 6 U ?_;refine jcd U (fun c21=> ?_) (fun c21=> ?_)
 ·have hi2:i<l7.length:=Int.ofNat_lt.1 c21;have hx:=hR7 _ (Ax hi2);have hA7:=(B3 (w0:=w0) (e:=91) (X:=(SM (NewD fl 200000 dx db p mp) v2 ns2++R)) (enc:=encMdF) Ce hK7.sl).mono (show (slH d7 (l7.flatMap encMdF) 91++(SM (NewD fl 200000 dx db p mp) v2 ns2++R)).Sublist ((n5,Cl [.bool is] 4)::(n4,Cl (hdC h) 32)::(n3,Cl [Pt p 0,Vi tick] 70)::(slH d6 (l6.flatMap encMdF) 91++(slH d7 (l7.flatMap encMdF) 91++(SM (NewD fl 200000 dx db p mp) v2 ns2++R)))) by exact sbt);refine rCt 6 U (y_ (Oo U U runUnderlying99 sizeOf91 (Int.ofNat_lt.1 c21) (by first|exact rfl|exact(B3 (w0:=w0) (e:=91) (X:=[]) (enc:=encMdF) Ce hK7.sl).b (i:=i) hi2)) ?_ U);refine y_ (On U isAgg91 sizeOf91 (Bd hx.o1 hx.o2) (by exact md_cs hx (hA7.cs (i:=i) hi2))) ?_ U;refine e_ (Ag zeroValue91 cs_) ?_ U;rintro _ _ ⟨n8,rfl,rfl⟩;refine e_ (Oq U U sizeOf91 .agg (Cn _ _) (Bd hx.o1 hx.o2) updq (by rw[Bd hx.o1 hx.o2];rfl)) ?_ U;rintro _ _ ⟨rfl,rfl⟩;refine rOt 10 U ?_;refine A8 (X:=Nat × Hd × Bool) (V:=fun ⟨j,h,is⟩=>[(26,Vi (j:Nat))]) (C:=[(4,_),(5,_),(6,_),(8,_),(18,_),(19,_),(20,_),(24,_),(25,_)]) (G:=fun ⟨j,h,is⟩=>(n8,Cl (mdC (gd l7 i)) 91)::(n5,Cl [.bool is] 4)::(n4,Cl (hdC h) 32)::(n3,Cl [Pt p 0,Vi tick] 70)::(slH d6 (l6.flatMap encMdF) 91++(slH d7 (l7.flatMap encMdF) 91++(SM (NewD fl 200000 dx db p mp) v2 ns2++R)))) (φ:=fun ⟨j,h,is⟩=>j<=l6.length/\HdOk h/\LstOf (metL (l7.take i) l6++metR (gd l7 i) (l6.take j)) h is) (μ:=fun ⟨j,h,is⟩=>l6.length - j) (x0:=(0,h,is)) ?_ (kg U) qkg (by exact List.Sublist.refl _) ?_
  ·exact⟨Nat.zero_le _,hh,by rw[show metR (gd l7 i) (l6.take 0)=[] from rfl,List.append_nil];exact hL⟩
  rintro⟨j,h,is⟩ ⟨hj,hh,hL2⟩;refine rDt 6 U ?_;refine jcd U (fun c27=> ?_) (fun c27=> ?_)
  ·have hj2:j<l6.length:=Int.ofNat_lt.1 c27;have hy:=hR6 _ (Ax hj2);have hA6:=(B3 (w0:=w0) (e:=91) (X:=(slH d7 (l7.flatMap encMdF) 91++(SM (NewD fl 200000 dx db p mp) v2 ns2++R))) (enc:=encMdF) Ce hK6.sl).mono (show (slH d6 (l6.flatMap encMdF) 91++(slH d7 (l7.flatMap encMdF) 91++(SM (NewD fl 200000 dx db p mp) v2 ns2++R))).Sublist ((n8,Cl (mdC (gd l7 i)) 91)::(n5,Cl [.bool is] 4)::(n4,Cl (hdC h) 32)::(n3,Cl [Pt p 0,Vi tick] 70)::(slH d6 (l6.flatMap encMdF) 91++(slH d7 (l7.flatMap encMdF) 91++(SM (NewD fl 200000 dx db p mp) v2 ns2++R)))) by exact sbt);refine rCt 6 U (y_ (Oo U U runUnderlying99 sizeOf91 (Int.ofNat_lt.1 c27) (by first|exact rfl|exact(B3 (w0:=w0) (e:=91) (X:=[]) (enc:=encMdF) Ce hK7.sl).b (i:=i) hi2|exact(B3 (w0:=w0) (e:=91) (X:=[]) (enc:=encMdF) Ce hK6.sl).b (i:=j) hj2)) ?_ U);refine y_ (On U isAgg91 sizeOf91 (Bd hy.o1 hy.o2) (by exact md_cs hy (hA6.cs (i:=j) hj2))) ?_ U;refine e_ (Ag zeroValue91 cs_) ?_ U;rintro _ _ ⟨n10,rfl,rfl⟩;refine e_ (Oq U U sizeOf91 .agg (Cn _ _) (Bd hy.o1 hy.o2) updq (by rw[Bd hy.o1 hy.o2];rfl)) ?_ U;rintro _ _ ⟨rfl,rfl⟩;refine rOt 4 U ?_;refine y_ (On U isAgg91 sizeOf91 (Bd hx.o1 hx.o2) (by exact Ae fndq)) ?_ U;refine y_ (On U isAgg91 sizeOf91 (Bd hy.o1 hy.o2) (by exact Ae fndq)) ?_ U;refine y_ (Ao (evq2 U U) call68 (fun H' hs=>eand_v (gd l7 i) (gd l6 j) hx hy)) (rOt 3 U (e_ (Ag zeroValue91 cs_) ?_ U)) U;rintro _ _ ⟨n11,rfl,rfl⟩;refine e_ (Oq U U sizeOf91 .agg (Cn _ _) (Bd (I5 _ _).1 (I5 _ _).2) updq (by rw[Bd (I5 _ _).1 (I5 _ _).2];rfl)) ?_ U;rintro _ _ ⟨rfl,rfl⟩;refine rOt 8 U ?_
   first|refine jcd U (fun c36=> ?_) (fun c36=> ?_)|refine jcn U (fun c36=> ?_) (fun c36=> ?_)
   ·have ho9:ovlB (gd l7 i) (gd l6 j)=true:=c36;have hz:MdR (andZ (gd l7 i) (gd l6 j)):=by rw[andZ_t ho9];exact and_r hx hy
    refine rCt 1 U ?_;refine y_ (On U isAgg91 sizeOf91 (Bd (I5 _ _).1 (I5 _ _).2) (by exact Ae fndq)) ?_ U;refine y_ (Ao (evq1 U) call63 (fun H' hs=>eleast_s (andZ (gd l7 i) (gd l6 j)) hz)) (e_ (Ah (evq3 U U U) call62 (B7 (M:=[(n5,Cl [.bool is] 4),(n4,Cl (hdC h) 32)]) (eles_s (R:=(n11,Cl (mdC (andZ (gd l7 i) (gd l6 j))) 91)::(n10,Cl (mdC (gd l6 j)) 91)::(n8,Cl (mdC (gd l7 i)) 91)::((n3,Cl [Pt p 0,Vi tick] 70)::(slH d6 (l6.flatMap encMdF) 91++(slH d7 (l7.flatMap encMdF) 91++(SM (NewD fl 200000 dx db p mp) v2 ns2++R))))) n4 n5 h hh is (andZ (gd l7 i) (gd l6 j)).2 hz.o2) (by repeat (first|exact loc_2|apply LocL.t|apply LocL.a)))) ?_ U) U;rintro _ _ ⟨⟨⟩,rfl,rfl⟩;rw[andZ_t ho9];refine rOt 4 U (y_ (Aw (T U) Al qom) ?_ U);refine rOt 2 U ?_;refine Au ((j+1,lesH h is (andM (gd l7 i) (gd l6 j)).2,lesI h is (andM (gd l7 i) (gd l6 j)).2)) ?_ ?_ qkg (kg U) ?_
    ·exact⟨hj2,K1 hh (L4 _ _).2,met_yes hj2 ho9 hh hL2⟩
    ·first|omega|(simp only[];omega)
    ·exact sbt
   ·have ho9:ovlB (gd l7 i) (gd l6 j)=false:=c36;refine rCt 4 U (y_ (Aw (T U) Al qom) ?_ U);refine rOt 2 U ?_;refine Au ((j+1,h,is)) ?_ ?_ qkg (kg U) ?_
    ·exact⟨hj2,hh,met_no hj2 ho9 hL2⟩
    ·first|omega|(simp only[];omega)
    ·exact sbt
  ·obtain rfl:j=l6.length:=by have h9: ¬ ((j:Nat):Int)<(l6.length:Nat):=c27;omega
   rw[List.take_length] at hL2;refine rCt 2 U (An (rXt 4 U (y_ (Aw (T U) Al qom) ?_ U)));refine rOt 2 U ?_;refine Au ((i+1,h,is)) ?_ ?_ qkg (kg U) ?_
   ·exact⟨hi2,hh,by rw[met_snoc hi2];exact hL2⟩
   ·first|omega|(simp only[];omega)
   ·exact sbt
 ·obtain rfl:i=l7.length:=by have h9: ¬ ((i:Nat):Int)<(l7.length:Nat):=c21;omega
  rw[List.take_length] at hL;refine rCt 2 U (An (rXt 4 U ?_));refine y_ (On U isAgg32 sizeOf32 (Af hh) (by exact Ae fndq)) ?_ U;refine y_ (Om U isAgg4 qco) ?_ U;refine e_ (Oq U U sizeOf32 .agg (Bc _) (Af hh) updq qrf) ?_ U;rintro _ _ ⟨rfl,rfl⟩;refine Bo (Oq U U sizeOf4) U Ad ?_;rintro _ _ ⟨rfl,rfl⟩;refine rOt 3 U (Bs U (.cellA (Aa U) isAgg32 sizeOf32 (Af hh) qcs (.cell (Aa U) isAgg4 qco .nil)) ?_);exact⟨_,⟨⟨h,is,rfl,hh,imgs_dst hfl hst.w hK6.st.w hF1 hF2 hK6 hK7 hL⟩,sbt⟩,sb0⟩
theorem edistinct_s {fl:List Fd}(hfl:FlOk fl)(q:Option Addr)(c:Nat)(hA:Arr w0 H q 3 encF fl)(tick:Int){m1:Pom}{p1:Po}(hI1:IsO fl m1 p1)(hF1:p1.Fit (bsF fl))(hM1:PoM w0 H m1){m2:Pom}{p2:Po}(hI2:IsO fl m2 p2)(hF2:p2.Fit (bsF fl))(hM2:PoM w0 H m2)(hn1:m1.nd<=30)(hn2:m2.nd<=30)(e:Int)(hEr:ErrD fl tick p1 p2 e):
  FSpec prog w0 21 #[.slice q fl.length c, .agg (encPo m1).toArray, .agg (encPo m2).toArray,Vi tick] H (AskK (Ans (DstP tick p1 p2)) e (Nh fl tick p1 p2) H):=by
 refine Am func21 U ntmps21 U (rDt 2 U (e_ (Ot U cs_) ?_ U));rintro _ _ ⟨n5,rfl,rfl⟩;refine e_ (Ot U cs_) ?_ U;rintro _ _ ⟨n6,rfl,rfl⟩;refine e_ (Ag zeroValue32 cs_) ?_ U;rintro _ _ ⟨n8,rfl,rfl⟩;refine rOt 8 U (y_ (Bn (.cons (T U) (.cons (T U) .nil))) ?_ U);refine e_ (Ah (evq3 U U U) call43 (K8 fl hfl q c (hA.mono sbt) tick e call66 (qdst_s hfl tick hI1 hF1 (hM1.mono sbt) fndq hI2 hF2 (hM2.mono sbt) fndq hn1 hn2 e hEr))) ?_ U;rintro _ _ ⟨⟨h,is,e9,rfl,hh,hR⟩,rfl⟩;refine rOt 3 U (e_ (Oq U U sizeOf32 .agg (Bc _) (Af hh) updq (by rw[Af hh];rfl)) ?_ U);rintro _ _ ⟨rfl,rfl⟩;refine rOt 5 U (Ai U (.cellA (Aa U) isAgg32 sizeOf32 (Af hh) qcs (.tmp (Aa U) (Ol U))) ?_);exact⟨_,⟨⟨h,is,e9,rfl,hh,hR⟩,rfl⟩,sbt⟩
noncomputable def isS {α:Type} (o:Option α):Bool:=oC o (fun _=>true) false
theorem C3 {α:Type}{o:Option α}(h:isS o=true):∃ x,o=some x:=by cases o with|none=>cases h|some x=>exact⟨x,rfl⟩
theorem rules_few {ns:Ns}{s:Fs}{a:Nat}{L:List Nat}(h:Rs 70 ns s)(e:rdC s 35 0 [a]=some L)(hl:L.length<=4000):(rulesP ns bsE a).length<=4000:=by
 unfold rulesP
 split
 ·simp
 ·have h1:=congrArg List.length (Mx h bsE 35 0 (hd0,hd0) [pt0 a] L e);unfold rsP;rw[List.length_map] at h1 ⊢;show (rsF ns bsE 35 0 (hd0,hd0) [pt0 a]).length<=4000;omega
abbrev q1_1:Po:= .seq (.set exK 1) (.set exK 2)
abbrev q1_2:Po:= .set exK 2
def q1_t:List Nat:=[2,3,4,5,6,7,8,9,10,11,12,13,14,15,16,17,18,19,20,21,22,23,24,25,26,27,28,29,30,31,32,33,34,35,36,37,38,39,40,41,42,43,44,45,46,47,48,49,50,51,52,53,54,55,56,57,58,59,60,61,62,63,64,65,66,67,68,69,70,71,72,73,74,75,76,77,78,79,80,81,82,83,84,85,86,87,88,89,90,91,92,93,94,95,96,97,98,99,100,101,102,103,2,3,104,105,106,107,108,109,110,111,112,113,114,115,116,117,118,119,120,121,122,123,124,125,126,127,128,129,130,131,132,133,134,135,136,137,138,139,140,141,142,143,144,145,146,147,148,149,150,151,152,153,154,155,156,157,158,159,160,161,162,163,164,165,166,167,168,169,170,171,172,173,174,175,176,177,178,179,180,181,182,183,184,185,186,187,188,189,190,191,192,193,194,195,196,197,198,199,200,201,202,203,2,2,105,105,106,106,108,109,110,111,112,113,114,115,116,117,118,119,120,121,122,123,124,125,126,127,128,129,130,131,132,133,134,135,136,137,138,139,140,141,142,143,144,145,146,147,148,149,150,151,152,153,154,155,156,157,158,159,160,161,162,163,164,165,166,167,168,169,170,171,172,173,174,175,176,177,178,179,180,181,182,183,184,185,186,187,188,189,190,191,192,193,194,195,196,197,198,199,200,201,202,203,2,3,104,105,106,107,108,109,110,111,112,113,114,115,116,117,118,119,120,121,122,123,124,125,126,127,128,129,130,131,132,133,134,135,136,137,138,139,140,141,142,143,144,145,146,147,148,149,150,151,152,153,154,155,156,157,158,159,160,161,162,163,164,165,166,167,168,169,170,171,172,173,174,175,176,177,178,179,180,181,182,183,184,185,186,187,188,189,190,191,192,193,194,195,196,197,198,199,200,201,202,203]
theorem q1_r:isS (bO (polT 70 bsE 0 (rdN bsE) (q1_1) (sQ q1_t)) fun a=>bO (polT 70 bsE 0 (rdN bsE) (q1_2) a.2) fun b=>some 0)=true:=by kernel_rfl
theorem q1_no: ¬ G2 exF 0 q1_1 q1_2:=by
 unfold G2 PF N0;rw[Bp];intro hno;obtain⟨z,h⟩:=C3 q1_r;obtain⟨⟨a,s1⟩,h1,h⟩:=A4 h;obtain⟨n1,f1,r1⟩:=Bv (most:=200000) qom qom _ _ _ (rsQ _) h1;obtain⟨⟨b,s2⟩,h2,h⟩:=A4 h;obtain⟨n2,f2,r2⟩:=Bv (most:=200000) qom qom _ _ _ r1 h2;exact hno _ _ f1 _ _ f2
abbrev q2_1:Po:= .fil (.eq exK 1)
abbrev q2_2:Po:= .fil .tru
def q2_t:List Nat:=[2,3,4,5,6,7,8,9,10,11,12,13,14,15,16,17,18,19,20,21,22,23,24,25,26,27,28,29,30,31,32,33,34,35,36,37,38,39,40,41,42,43,44,45,46,47,48,49,50,51,52,53,54,55,56,57,58,59,60,61,62,63,64,65,66,67,68,69,70,71,72,73,74,75,76,77,78,79,80,81,82,83,84,85,86,87,88,89,90,91,92,93,94,95,96,97,98,99,100,101,102,103,104,105,106,107,108,109,110,111,112,113,114,115,116,117,118,119,120,121,122,123,124,125,126,127,128,129,130,131,132,133,134,135,136,137,138,139,140,141,142,143,144,145,146,147,148,149,150,151,152,153,154,155,156,157,158,159,160,161,162,163,164,165,166,167,168,169,170,171,172,173,174,175,176,177,178,179,180,181,182,183,184,185,186,187,188,189,190,191,192,193,194,195,196,197,198,199,200,201,202,203,204,205,206,207,208,209,210,5,6,7,8,9,10,11,12,13,14,15,16,17,18,19,20,21,22,23,24,25,26,27,28,29,30,31,32,33,34,35,36,37,38,39,40,41,42,43,44,45,46,47,48,49,50,51,52,53,54,55,56,57,58,59,60,61,62,63,64,65,66,67,68,69,70,71,72,73,74,75,76,77,78,79,80,81,82,83,84,85,86,87,88,89,90,91,92,93,94,95,96,97,98,99,100,101,102,103,104,105,106,107,108,109]
theorem q2_r:isS (bO (polT 70 bsE 0 (rdN bsE) (q2_1) (sQ q2_t)) fun a=>bO (polT 70 bsE 0 (rdN bsE) (q2_2) a.2) fun b=>some 0)=true:=by kernel_rfl
theorem q2_no: ¬ G2 exF 0 q2_1 q2_2:=by
 unfold G2 PF N0;rw[Bp];intro hno;obtain⟨z,h⟩:=C3 q2_r;obtain⟨⟨a,s1⟩,h1,h⟩:=A4 h;obtain⟨n1,f1,r1⟩:=Bv (most:=200000) qom qom _ _ _ (rsQ _) h1;obtain⟨⟨b,s2⟩,h2,h⟩:=A4 h;obtain⟨n2,f2,r2⟩:=Bv (most:=200000) qom qom _ _ _ r1 h2;exact hno _ _ f1 _ _ f2
abbrev Nq:Po:= .fil (.no (.time 3 7))
abbrev Nr:Po:= .fil .tru
def q3a_t:List Nat:=[2,3,4,5,6,7,8,9,10,11,12,13,14,15,16,17,18,19,20,21,22,23,24,25,26,27,28,29,30,31,32,33,34,35,36,37,38,39,40,41,42,43,44,45,46,47,48,49,50,51,52,53,54,55,56,57,58,59,60,61,62,63,64,65,66,67,68,69,70,71,72,73,74,75,76,77,78,79,80,81,82,83,84,85,86,87,88,89,90,91,92,93,94,95,96,97,98,99,100,101,102,103,104,105,106,2,3,4,5,6,7,8,9,10,11,12,13,14,15,16,17,18,19,20,21,22,23,24,25,26,27,28,29,30,31,32,33,34,35,36,37,38,39,40,41,42,43,44,45,46,47,48,49,50,51,52,53,54,55,56,57,58,59,60,61,62,63,64,65,66,67,68,69,70,71,72,73,74,75,76,77,78,79,80,81,82,83,84,85,86,87,88,89,90,91,92,93,94,95,96,97,98,99,100,101,102,103,104,105,106]
theorem q3a_r:isS (bO (polT 70 bsE 0 (rdN bsE) (Nq) (sQ q3a_t)) fun a=>bO (polT 70 bsE 0 (rdN bsE) (Nr) a.2) fun b=>some 0)=true:=by kernel_rfl
theorem q3a_no: ¬ G2 exF 0 Nq Nr:=by
 unfold G2 PF N0;rw[Bp];intro hno;obtain⟨z,h⟩:=C3 q3a_r;obtain⟨⟨a,s1⟩,h1,h⟩:=A4 h;obtain⟨n1,f1,r1⟩:=Bv (most:=200000) qom qom _ _ _ (rsQ _) h1;obtain⟨⟨b,s2⟩,h2,h⟩:=A4 h;obtain⟨n2,f2,r2⟩:=Bv (most:=200000) qom qom _ _ _ r1 h2;exact hno _ _ f1 _ _ f2
abbrev q3b_1:Po:= .fil (.no (.time 3 7))
abbrev q3b_2:Po:= .fil .tru
def q3b_t:List Nat:=[2,3,4,5,6,7,8,9,10,11,12,13,14,15,16,17,18,19,20,21,22,23,24,25,26,27,28,29,30,31,32,33,34,35,36,37,38,39,40,41,42,43,44,45,46,47,48,49,50,51,52,53,54,55,56,57,58,59,60,61,62,63,64,65,66,67,68,69,70,71,72,73,74,75,76,77,78,79,80,81,82,83,84,85,86,87,88,89,90,91,92,93,94,95,96,97,98,99,100,101,102,103,104,105,106,2,3,4,5,6,7,8,9,10,11,12,13,14,15,16,17,18,19,20,21,22,23,24,25,26,27,28,29,30,31,32,33,34,35,36,37,38,39,40,41,42,43,44,45,46,47,48,49,50,51,52,53,54,55,56,57,58,59,60,61,62,63,64,65,66,67,68,69,70,71,72,73,74,75,76,77,78,79,80,81,82,83,84,85,86,87,88,89,90,91,92,93,94,95,96,97,98,99,100,101,102,103,104,105,106]
theorem q3b_r:isS (bO (polT 70 bsE 3 (rdN bsE) (q3b_1) (sQ q3b_t)) fun a=>bO (polT 70 bsE 3 (rdN bsE) (q3b_2) a.2) fun b=>some 0)=true:=by kernel_rfl
theorem q3b_no: ¬ G2 exF 3 q3b_1 q3b_2:=by
 unfold G2 PF N0;rw[Bp];intro hno;obtain⟨z,h⟩:=C3 q3b_r;obtain⟨⟨a,s1⟩,h1,h⟩:=A4 h;obtain⟨n1,f1,r1⟩:=Bv (most:=200000) qom qom _ _ _ (rsQ _) h1;obtain⟨⟨b,s2⟩,h2,h⟩:=A4 h;obtain⟨n2,f2,r2⟩:=Bv (most:=200000) qom qom _ _ _ r1 h2;exact hno _ _ f1 _ _ f2
abbrev q3c_1:Po:= .fil (.no (.time 3 7))
abbrev q3c_2:Po:= .fil .tru
def q3c_t:List Nat:=[2,3,4,5,6,7,8,9,10,11,12,13,14,15,16,17,18,19,20,21,22,23,24,25,26,27,28,29,30,31,32,33,34,35,36,37,38,39,40,41,42,43,44,45,46,47,48,49,50,51,52,53,54,55,56,57,58,59,60,61,62,63,64,65,66,67,68,69,70,71,72,73,74,75,76,77,78,79,80,81,82,83,84,85,86,87,88,89,90,91,92,93,94,95,96,97,98,99,100,101,102,103,104,105,106,2,3,4,5,6,7,8,9,10,11,12,13,14,15,16,17,18,19,20,21,22,23,24,25,26,27,28,29,30,31,32,33,34,35,36,37,38,39,40,41,42,43,44,45,46,47,48,49,50,51,52,53,54,55,56,57,58,59,60,61,62,63,64,65,66,67,68,69,70,71,72,73,74,75,76,77,78,79,80,81,82,83,84,85,86,87,88,89,90,91,92,93,94,95,96,97,98,99,100,101,102,103,104,105,106]
theorem q3c_r:isS (bO (polT 70 bsE 7 (rdN bsE) (q3c_1) (sQ q3c_t)) fun a=>bO (polT 70 bsE 7 (rdN bsE) (q3c_2) a.2) fun b=>some 0)=true:=by kernel_rfl
theorem q3c_no: ¬ G2 exF 7 q3c_1 q3c_2:=by
 unfold G2 PF N0;rw[Bp];intro hno;obtain⟨z,h⟩:=C3 q3c_r;obtain⟨⟨a,s1⟩,h1,h⟩:=A4 h;obtain⟨n1,f1,r1⟩:=Bv (most:=200000) qom qom _ _ _ (rsQ _) h1;obtain⟨⟨b,s2⟩,h2,h⟩:=A4 h;obtain⟨n2,f2,r2⟩:=Bv (most:=200000) qom qom _ _ _ r1 h2;exact hno _ _ f1 _ _ f2
abbrev q4_1:Po:= .uni (.fil .tru) (.set exK 1)
abbrev Oh:Po:= .set exK 1
def q4_t:List Nat:=[2,3,4,5,6,7,8,9,10,11,12,13,14,15,16,17,18,19,20,21,22,23,24,25,26,27,28,29,30,31,32,33,34,35,36,37,38,39,40,41,42,43,44,45,46,47,48,49,50,51,52,53,54,55,56,57,58,59,60,61,62,63,64,65,66,67,68,69,70,71,72,73,74,75,76,77,78,79,80,81,82,83,84,85,86,87,88,89,90,91,92,93,94,95,96,97,98,99,100,101,102,103,104,105,106,2,3,107,108,109,110,111,112,113,114,115,116,117,118,119,120,121,122,123,124,125,126,127,128,129,130,131,132,133,134,135,136,137,138,139,140,141,142,143,144,145,146,147,148,149,150,151,152,153,154,155,156,157,158,159,160,161,162,163,164,165,166,167,168,169,170,171,172,173,174,175,176,177,178,179,180,181,182,183,184,185,186,187,188,189,190,191,192,193,194,195,196,197,198,199,200,201,202,203,204,205,206,207,208,209,210,211,212,213,214,215,216,217,218,219,220,221,222,223,224,225,226,227,228,229,230,231,232,233,234,235,236,237,238,239,240,241,242,243,244,245,246,247,248,249,250,251,252,253,254,255,256,257,258,259,260,261,262,263,264,265,266,267,268,269,270,271,272,273,274,275,276,277,278,279,280,281,282,283,284,285,286,287,288,289,290,291,292,293,294,295,296,297,298,299,300,301,302,303,304,305,306,307,308,309,2,3,107,108,109,110,111,112,113,114,115,116,117,118,119,120,121,122,123,124,125,126,127,128,129,130,131,132,133,134,135,136,137,138,139,140,141,142,143,144,145,146,147,148,149,150,151,152,153,154,155,156,157,158,159,160,161,162,163,164,165,166,167,168,169,170,171,172,173,174,175,176,177,178,179,180,181,182,183,184,185,186,187,188,189,190,191,192,193,194,195,196,197,198,199,200,201,202,203,204,205,206,207,208,209,210,211,212,213,214,215,216,217,218,219,220,221,222,223,224,225,226,227,228,229,230,231,232,233,234,235,236,237,238,239,240,241,242,243,244,245,246,247,248,249,250,251,252,253,254,255,256,257,258,259,260,261,262,263,264,265,266,267,268,269,270,271,272,273,274,275,276,277,278,279,280,281,282,283,284,285,286,287,288,289,290,291,292,293,294,295,296,297,298,299,300,301,302,303,304,305,306,307,308,309]
theorem q4_r:isS (bO (polT 70 bsE 0 (rdN bsE) (q4_1) (sQ q4_t)) fun a=>bO (polT 70 bsE 0 (rdN bsE) (Oh) a.2) fun b=>bO (apCA eOrC 70 b.2 a.1 b.1) fun c=>some 0)=true:=by kernel_rfl
theorem q4_no: ¬ Kx exF 0 q4_1 Oh:=by
 unfold Kx PF N0;rw[Bp];intro hno;obtain⟨z,h⟩:=C3 q4_r;obtain⟨⟨a,s1⟩,h1,h⟩:=A4 h;obtain⟨n1,f1,r1⟩:=Bv (most:=200000) qom qom _ _ _ (rsQ _) h1;obtain⟨⟨b,s2⟩,h2,h⟩:=A4 h;obtain⟨n2,f2,r2⟩:=Bv (most:=200000) qom qom _ _ _ r1 h2;obtain⟨⟨c,s3⟩,h3,h⟩:=A4 h;obtain⟨n3,f3,r3⟩:=D2 (most:=200000) qom qom J3 r2 h3;exact hno _ _ f1 _ _ f2 _ _ f3
abbrev q5_1:Po:= .set exK 1
abbrev q5_2:Po:= .uni (.fil .tru) (.set exK 1)
def q5_t:List Nat:=[2,3,4,5,6,7,8,9,10,11,12,13,14,15,16,17,18,19,20,21,22,23,24,25,26,27,28,29,30,31,32,33,34,35,36,37,38,39,40,41,42,43,44,45,46,47,48,49,50,51,52,53,54,55,56,57,58,59,60,61,62,63,64,65,66,67,68,69,70,71,72,73,74,75,76,77,78,79,80,81,82,83,84,85,86,87,88,89,90,91,92,93,94,95,96,97,98,99,100,101,102,103,2,3,104,105,106,107,108,109,110,111,112,113,114,115,116,117,118,119,120,121,122,123,124,125,126,127,128,129,130,131,132,133,134,135,136,137,138,139,140,141,142,143,144,145,146,147,148,149,150,151,152,153,154,155,156,157,158,159,160,161,162,163,164,165,166,167,168,169,170,171,172,173,174,175,176,177,178,179,180,181,182,183,184,185,186,187,188,189,190,191,192,193,194,195,196,197,198,199,200,201,202,203,204,205,206,2,3,4,5,6,7,8,9,10,11,12,13,14,15,16,17,18,19,20,21,22,23,24,25,26,27,28,29,30,31,32,33,34,35,36,37,38,39,40,41,42,43,44,45,46,47,48,49,50,51,52,53,54,55,56,57,58,59,60,61,62,63,64,65,66,67,68,69,70,71,72,73,74,75,76,77,78,79,80,81,82,83,84,85,86,87,88,89,90,91,92,93,94,95,96,97,98,99,100,101,102,103,207,208,209,210,211,212,213,214,215,216,217,218,219,220,221,222,223,224,225,226,227,228,229,230,231,232,233,234,235,236,237,238,239,240,241,242,243,244,245,246,247,248,249,250,251,252,253,254,255,256,257,258,259,260,261,262,263,264,265,266,267,268,269,270,271,272,273,274,275,276,277,278,279,280,281,282,283,284,285,286,287,288,289,290,291,292,293,294,295,296,297,298,299,300,301,302,303,304,305,306,307,308,309,207,208,209,210,211,212,213,214,215,216,217,218,219,220,221,222,223,224,225,226,227,228,229,230,231,232,233,234,235,236,237,238,239,240,241,242,243,244,245,246,247,248,249,250,251,252,253,254,255,256,257,258,259,260,261,262,263,264,265,266,267,268,269,270,271,272,273,274,275,276,277,278,279,280,281,282,283,284,285,286,287,288,289,290,291,292,293,294,295,296,297,298,299,300,301,302,303,304,305,306,307,308,309]
theorem q5_r:isS (bO (polT 70 bsE 0 (rdN bsE) (q5_1) (sQ q5_t)) fun a=>bO (polT 70 bsE 0 (rdN bsE) (q5_2) a.2) fun b=>bO (apCA eOrC 70 b.2 a.1 b.1) fun c=>some 0)=true:=by kernel_rfl
theorem q5_no: ¬ Kx exF 0 q5_1 q5_2:=by
 unfold Kx PF N0;rw[Bp];intro hno;obtain⟨z,h⟩:=C3 q5_r;obtain⟨⟨a,s1⟩,h1,h⟩:=A4 h;obtain⟨n1,f1,r1⟩:=Bv (most:=200000) qom qom _ _ _ (rsQ _) h1;obtain⟨⟨b,s2⟩,h2,h⟩:=A4 h;obtain⟨n2,f2,r2⟩:=Bv (most:=200000) qom qom _ _ _ r1 h2;obtain⟨⟨c,s3⟩,h3,h⟩:=A4 h;obtain⟨n3,f3,r3⟩:=D2 (most:=200000) qom qom J3 r2 h3;exact hno _ _ f1 _ _ f2 _ _ f3
abbrev Oi:Po:= .seq (.fil (.eq exK 1)) (.fil (.eq exK 2))
def q6_t:List Nat:=[2,3,4,5,6,7,8,9,10,11,12,13,14,15,16,17,18,19,20,21,22,23,24,25,26,27,28,29,30,31,32,33,34,35,36,37,38,39,40,41,42,43,44,45,46,47,48,49,50,51,52,53,54,55,56,57,58,59,60,61,62,63,64,65,66,67,68,69,70,71,72,73,74,75,76,77,78,79,80,81,82,83,84,85,86,87,88,89,90,91,92,93,94,95,96,97,98,99,100,101,102,103,104,105,106,107,108,109,110,111,112,113,114,115,116,117,118,119,120,121,122,123,124,125,126,127,128,129,130,131,132,133,134,135,136,137,138,139,140,141,142,143,144,145,146,147,148,149,150,151,152,153,154,155,156,157,158,159,160,161,162,163,164,165,166,167,168,169,170,171,172,173,174,175,176,177,178,179,180,181,182,183,184,185,186,187,188,189,190,191,192,193,194,195,196,197,198,199,200,201,202,203,204,205,206,207,208,209,210,211,212,213,5,6,7,8,9,10,11,12,13,14,15,16,17,18,19,20,21,22,23,24,25,26,27,28,29,30,31,32,33,34,35,36,37,38,39,40,41,42,43,44,45,46,47,48,49,50,51,52,53,54,55,56,57,58,59,60,61,62,63,64,65,66,67,68,69,70,71,72,73,74,75,76,77,78,79,80,81,82,83,84,85,86,87,88,89,90,91,92,93,94,95,96,97,98,99,100,101,102,103,104,105,106,107,108,109,214,215,216,217,218,219,220,221,222,223,224,225,226,227,228,229,230,231,232,233,234,235,236,237,238,239,240,241,242,243,244,245,246,247,248,249,250,251,252,253,254,255,256,257,258,259,260,261,262,263,264,265,266,267,268,269,270,271,272,273,274,275,276,277,278,279,280,281,282,283,284,285,286,287,288,289,290,291,292,293,294,295,296,297,298,299,300,301,302,303,304,305,306,307,308,309,310,311,312,313,314,5,6,7,8,9,10,11,12,13,14,15,16,17,18,19,20,21,22,23,24,25,26,27,28,29,30,31,32,33,34,35,36,37,38,39,40,41,42,43,44,45,46,47,48,49,50,51,52,53,54,55,56,57,58,59,60,61,62,63,64,65,66,67,68,69,70,71,72,73,74,75,76,77,78,79,80,81,82,83,84,85,86,87,88,89,90,91,92,93,94,95,96,97,98,99,100,101,102,103,104,105,106,107,108,109]
theorem q6_r:isS (bO (polT 70 bsE 0 (rdN bsE) (Oi) (sQ q6_t)) fun a=>bO (polT 70 bsE 0 (rdN bsE) (.fil .fls) a.2) fun b=>some 0)=true:=by kernel_rfl
theorem q6_no: ¬ Kf exF 0 Oi:=by
 unfold Kf PF N0;rw[Bp];intro hno;obtain⟨z,h⟩:=C3 q6_r;obtain⟨⟨a,s1⟩,h1,h⟩:=A4 h;obtain⟨n1,f1,r1⟩:=Bv (most:=200000) qom qom _ _ _ (rsQ _) h1;obtain⟨⟨b,s2⟩,h2,h⟩:=A4 h;obtain⟨n2,f2,r2⟩:=Bv (most:=200000) qom qom _ _ _ r1 h2;exact hno _ _ f1 _ _ f2
abbrev Oj:Po:= .fil (.rng exK 0 6)
def q7_t:List Nat:=[2,3,4,5,6,7,8,9,10,11,12,13,14,15,16,17,18,19,20,21,22,23,24,25,26,27,28,29,30,31,32,33,34,35,36,37,38,39,40,41,42,43,44,45,46,47,48,49,50,51,52,53,54,55,56,57,58,59,60,61,62,63,64,65,66,67,68,69,70,71,72,73,74,75,76,77,78,79,80,81,82,83,84,85,86,87,88,89,90,91,92,93,94,95,96,97,98,99,100,101,102,103,104,105,106,107,108,109,110,111,112,113,114,115,116,117,118,119,120,121,122,123,124,125,126,127,128,129,130,131,132,133,134,135,136,137,138,139,140,141,142,143,144,145,146,147,148,149,150,151,152,153,154,155,156,157,158,159,160,161,162,163,164,165,166,167,168,169,170,171,172,173,174,175,176,177,178,179,180,181,182,183,184,185,186,187,188,189,190,191,192,193,194,195,196,197,198,199,200,201,202,203,204,205,206,207,208,209,210,211,212,213,214,215,216,6,9,10,11,12,13,14,15,16,17,18,19,20,21,22,23,24,25,26,27,28,29,30,31,32,33,34,35,36,37,38,39,40,41,42,43,44,45,46,47,48,49,50,51,52,53,54,55,56,57,58,59,60,61,62,63,64,65,66,67,68,69,70,71,72,73,74,75,76,77,78,79,80,81,82,83,84,85,86,87,88,89,90,91,92,93,94,95,96,97,98,99,100,101,102,103,104,105,106,107,108,109,110,111,112,113,114,115,116,117,118,119,120,121,122,123,124,125,126,127,128,129,130,131,132,133,134,135,136,137,138,139,140,141,142,143,144,145,146,147,148,149,150,151,152,153,154,155,156,157,158,159,160,161,162,163,164,165,166,167,168,169,170,171,172,173,174,175,176,177,178,179,180,181,182,183,184,185,186,187,188,189,190,191,192,193,194,195,196,197,198,199,200,201,202,203,204,205,206,207,208,209,210,211,212,213,214,215,216,11,12,13,14,15,16,17,18,19,20,21,22,23,24,25,26,27,28,29,30,31,32,33,34,35,36,37,38,39,40,41,42,43,44,45,46,47,48,49,50,51,52,53,54,55,56,57,58,59,60,61,62,63,64,65,66,67,68,69,70,71,72,73,74,75,76,77,78,79,80,81,82,83,84,85,86,87,88,89,90,91,92,93,94,95,96,97,98,99,100,101,102,103,104,105,106,107,108,109,110,111,112,113,114,115]
theorem q7_r:isS (bO (polT 70 bsE 0 (rdN bsE) (Oj) (sQ q7_t)) fun a=>bO (domC 70 bsE a.2 a.1) fun b=>bO (polT 70 bsE 0 (rdN bsE) (.fil .tru) b.2) fun c=>some 0)=true:=by kernel_rfl
theorem q7_no: ¬ Kg exF 0 Oj:=by
 unfold Kg PF N0;rw[Bp];intro hno;obtain⟨z,h⟩:=C3 q7_r;obtain⟨⟨a,s1⟩,h1,h⟩:=A4 h;obtain⟨n1,f1,r1⟩:=Bv (most:=200000) qom qom _ _ _ (rsQ _) h1;obtain⟨⟨b,s2⟩,h2,h⟩:=A4 h;obtain⟨n2,f2,r2⟩:=dom_sim (most:=200000) qom qom r1 h2;obtain⟨⟨c,s3⟩,h3,h⟩:=A4 h;obtain⟨n3,f3,r3⟩:=Bv (most:=200000) qom qom _ _ _ r2 h3;exact hno _ _ f1 _ _ f2 _ _ f3
abbrev Oe:Po:= .uni (.fil .tru) (.set exK 3)
def q8_t:List Nat:=[2,3,4,5,6,7,8,9,10,11,12,13,14,15,16,17,18,19,20,21,22,23,24,25,26,27,28,29,30,31,32,33,34,35,36,37,38,39,40,41,42,43,44,45,46,47,48,49,50,51,52,53,54,55,56,57,58,59,60,61,62,63,64,65,66,67,68,69,70,71,72,73,74,75,76,77,78,79,80,81,82,83,84,85,86,87,88,89,90,91,92,93,94,95,96,97,98,99,100,101,102,103,104,105,106,2,3,107,108,109,110,111,112,113,114,115,116,117,118,119,120,121,122,123,124,125,126,127,128,129,130,131,132,133,134,135,136,137,138,139,140,141,142,143,144,145,146,147,148,149,150,151,152,153,154,155,156,157,158,159,160,161,162,163,164,165,166,167,168,169,170,171,172,173,174,175,176,177,178,179,180,181,182,183,184,185,186,187,188,189,190,191,192,193,194,195,196,197,198,199,200,201,202,203,204,205,206,207,208,209,210,211,212,213,214,215,216,217,218,219,220,221,222,223,224,225,226,227,228,229,230,231,232,233,234,235,236,237,238,239,240,241,242,243,244,245,246,247,248,249,250,251,252,253,254,255,256,257,258,259,260,261,262,263,264,265,266,267,268,269,270,271,272,273,274,275,276,277,278,279,280,281,282,283,284,285,286,287,288,289,290,291,292,293,294,295,296,297,298,299,300,301,302,303,304,305,306,307,308,309]
theorem q8_r:isS (bO (polT 70 bsE 0 (rdN bsE) (Oe) (sQ q8_t)) fun a=>bO (rdC a.2 35 0 [a.1]) fun R1=>iB (Nat.ble (lenC R1) 4000) (some 0) none)=true:=by kernel_rfl
theorem q8_no: ¬ Ng exF 0 Oe:=by
 unfold Ng PF N0;rw[Bp];intro hno;obtain⟨z,h⟩:=C3 q8_r;obtain⟨⟨a,s1⟩,h1,h⟩:=A4 h;obtain⟨n1,f1,r1⟩:=Bv (most:=200000) qom qom _ _ _ (rsQ _) h1;obtain⟨R1,g1,h⟩:=A4 h;rw[C6] at h;have l1:lenC R1<=4000:=by
  by_cases c:Nat.ble (lenC R1) 4000=true
  ·exact Nat.le_of_ble_eq_true c
  ·rw[if_neg c] at h;cases h
 rw[if_pos (Nat.ble_eq_true_of_le l1)] at h;rw[J6] at l1;exact hno _ _ f1 (rules_few r1 g1 l1)
abbrev q9_1:Po:= .fil (.eq exD 1)
abbrev q9_2:Po:= .fil (.eq exD 2)
def q9_t:List Nat:=[2,3,4,5,6,7,8,9,10,11,12,13,14,15,16,17,18,19,20,21,22,23,24,25,26,27,28,29,30,31,32,33,34,35,36,37,38,39,40,41,42,43,44,45,46,47,48,49,50,51,52,53,54,55,56,57,58,59,60,61,62,63,64,65,66,67,68,69,70,71,72,73,74,75,76,77,78,79,80,81,82,83,84,85,86,87,88,89,90,91,92,93,94,95,96,97,98,99,100,101,102,103,104,105,106,107,108,109,110,111,112,113,114,115,116,117,118,119,120,121,122,123,124,125,126,127,128,129,130,131,132,133,134,135,136,137,138,139,140,141,142,143,144,145,146,147,148,149,150,151,152,153,154,155,156,157,158,159,160,161,162,163,164,165,166,167,168,169,170,171,172,173,174,175,176,177,2,3,4,5,6,7,8,9,10,11,12,13,14,15,16,17,18,19,20,21,22,23,24,25,26,27,28,29,30,31,32,33,34,35,36,37,38,39,40,41,42,43,44,45,46,47,48,49,50,51,52,53,54,55,56,57,58,59,60,61,62,63,64,65,66,67,68,69,70,71,72,73,74,75,76,77,78,79,80,81,82,83,84,85,86,87,88,89,90,91,92,93,94,95,96,97,98,99,100,101,102,103,104,105,106,107,108,109,110,111,112,113,114,115,116,117,118,119,120,121,122,123,124,125,126,127,128,129,130,131,132,133,134,135,136,137,138,139,140,141,142,143,144,145,146,147,148,149,150,151,152,153,154,155,156,157,158,159,160,161,162,163,164,165,166,167,168,169,170,171,172,173,174,175,176,177,178,179,180,181,182,183,184,185,10,11,12,13,14,15,16,17,18,19,20,21,22,23,24,25,26,27,28,29,30,31,32,33,34,35,36,37,38,39,40,41,42,43,44,45,46,47,48,49,50,51,52,53,54,55,56,57,58,59,60,61,62,63,64,65,66,67,68,69,70,71,72,73,74,75,76,77,78,79,80,81,82,83,84,85,86,87,88,89,90,91,92,93,94,95,96,97,98,99,100,101,102,103,104,105,106,107,108,109,110,111,112,113,114,186,187,188,189,190,191,192,193,194,195,196,197,198,199,200,201,202,203,204,205,206,207,208,209,210,211,212,213,214,215,216,217,218,219,220,221,222,223,224,225,226,227,228,229,230,231,232,233,234,235,236,237,238,239,240,241,242,243,244,245,246,247,248,178,179,180,181,182,183,184,185,10,11,12,13,14,15,16,17,18,19,20,21,22,23,24,25,26,27,28,29,30,31,32,33,34,35,36,37,38,39,40,41,42,43,44,45,46,47,48,49,50,51,52,53,54,55,56,57,58,59,60,61,62,63,64,65,66,67,68,69,70,71,72,73,74,75,76,77,78,79,80,81,82,83,84,85,86,87,88,89,90,91,92,93,94,95,96,97,98,99,100,101,102,103,104,105,106,107,108,109,110,111,112,113,114,186,187,188,189,190,191,192,193,194,195,196,197,198,199,200,201,202,203,204,205,206,207,208,209,210,211,212,213,214,215,216,217,218,219,220,221,222,223,224,225,226,227,228,229,230,231,232,233,234,235,236,237,238,239,240,241,242,243,244,245,246,247,248,10,11,12,13,14,15,16,17,18,19,20,21,22,23,24,25,26,27,28,29,30,31,32,33,34,35,36,37,38,39,40,41,42,43,44,45,46,47,48,49,50,51,52,53,54,55,56,57,58,59,60,61,62,63,64,65,66,67,68,69,70,71,72,73,74,75,76,77,78,79,80,81,82,83,84,85,86,87,88,89,90,91,92,93,94,95,96,97,98,99,100,101,102,103,104,105,106,107,108,109,110,111,112,113,114]
theorem q9_r:isS (bO (polT 70 bsE 0 (rdN bsE) (q9_1) (sQ q9_t)) fun a=>bO (domC 70 bsE a.2 a.1) fun b=>bO (polT 70 bsE 0 (rdN bsE) (q9_2) b.2) fun c=>bO (domC 70 bsE c.2 c.1) fun d=>bO (seCA 70 d.2 b.1 d.1) fun e=>bO (polT 70 bsE 0 (rdN bsE) (.fil .fls) e.2) fun f=>some 0)=true:=by kernel_rfl
theorem q9_no: ¬ Kh exF 0 q9_1 q9_2:=by
 unfold Kh PF N0;rw[Bp];intro hno;obtain⟨z,h⟩:=C3 q9_r;obtain⟨⟨a,s1⟩,h1,h⟩:=A4 h;obtain⟨n1,f1,r1⟩:=Bv (most:=200000) qom qom _ _ _ (rsQ _) h1;obtain⟨⟨b,s2⟩,h2,h⟩:=A4 h;obtain⟨n2,f2,r2⟩:=dom_sim (most:=200000) qom qom r1 h2;obtain⟨⟨c,s3⟩,h3,h⟩:=A4 h;obtain⟨n3,f3,r3⟩:=Bv (most:=200000) qom qom _ _ _ r2 h3;obtain⟨⟨d,s4⟩,h4,h⟩:=A4 h;obtain⟨n4,f4,r4⟩:=dom_sim (most:=200000) qom qom r3 h4;obtain⟨⟨e,s5⟩,h5,h⟩:=A4 h;obtain⟨n5,f5,r5⟩:=Hg (most:=200000) qom qom r4 h5;obtain⟨⟨f,s6⟩,h6,h⟩:=A4 h;obtain⟨n6,f6,r6⟩:=Bv (most:=200000) qom qom _ _ _ r5 h6;exact hno _ _ f1 _ _ f2 _ _ f3 _ _ f4 _ _ f5 _ _ f6
abbrev N7:Po:= .set exD 3
abbrev N8:Po:= .set exS 4
def q10_t:List Nat:=[2,3,4,5,6,7,8,9,10,11,12,13,14,15,16,17,18,19,20,21,22,23,24,25,26,27,28,29,30,31,32,33,34,35,36,37,38,39,40,41,42,43,44,45,46,47,48,49,50,51,52,53,54,55,56,57,58,59,60,61,62,63,64,65,66,67,68,69,70,71,72,73,74,75,76,77,78,79,80,81,82,83,84,85,86,87,88,89,90,91,92,93,94,95,96,97,98,2,3,4,5,6,7,8,9,10,11,12,99,100,101,102,103,104,105,106,107,108,109,110,111,112,113,114,115,116,117,118,119,120,121,122,123,124,125,126,127,128,129,130,131,132,133,134,135,136,137,138,139,140,141,142,143,144,145,146,147,148,149,150,151,152,153,154,155,156,157,158,159,160,161,162,163,164,165,166,167,168,169,170,171,172,173,174,175,176,177,178,179,180,181,182,183,184]
theorem q10_r:isS (bO (polT 70 bsE 0 (rdN bsE) (N8) (sQ q10_t)) fun a=>bO (rdC a.2 35 0 [a.1]) fun R1=>iB (Nat.ble (lenC R1) 4000) (bO (polT 70 bsE 0 (rdN bsE) (N7) a.2) fun b=>bO (rdC b.2 35 0 [b.1]) fun R2=>iB (Nat.ble (lenC R2) 4000) (some 0) none) none)=true:=by kernel_rfl
theorem q10_no: ¬ Nh exF 0 N7 N8:=by
 unfold Nh PF N0;rw[Bp];intro hno;obtain⟨z,h⟩:=C3 q10_r;obtain⟨⟨a,s1⟩,h1,h⟩:=A4 h;obtain⟨n1,f1,r1⟩:=Bv (most:=200000) qom qom _ _ _ (rsQ _) h1;obtain⟨R1,g1,h⟩:=A4 h;rw[C6] at h;have l1:lenC R1<=4000:=by
  by_cases c:Nat.ble (lenC R1) 4000=true
  ·exact Nat.le_of_ble_eq_true c
  ·rw[if_neg c] at h;cases h
 rw[if_pos (Nat.ble_eq_true_of_le l1)] at h;rw[J6] at l1;obtain⟨⟨b,s2⟩,h2,h⟩:=A4 h;obtain⟨n2,f2,r2⟩:=Bv (most:=200000) qom qom _ _ _ r1 h2;obtain⟨R2,g2,h⟩:=A4 h;rw[C6] at h;have l2:lenC R2<=4000:=by
  by_cases c:Nat.ble (lenC R2) 4000=true
  ·exact Nat.le_of_ble_eq_true c
  ·rw[if_neg c] at h;cases h
 rw[if_pos (Nat.ble_eq_true_of_le l2)] at h;rw[J6] at l2;exact hno _ _ f1 (rules_few r1 g1 l1) _ _ f2 (rules_few r2 g2 l2)
abbrev q11_1:Po:= .seq (.fil (.eq exD 1)) (.set exD 2)
abbrev q11_2:Po:= .seq (.fil (.eq exD 2)) (.set exD 3)
def q11_t:List Nat:=[2,3,4,5,6,7,8,9,10,11,12,13,14,15,16,17,18,19,20,21,22,23,24,25,26,27,28,29,30,31,32,33,34,35,36,37,38,39,40,41,42,43,44,45,46,47,48,49,50,51,52,53,54,55,56,57,58,59,60,61,62,63,64,65,66,67,68,69,70,71,72,73,74,75,76,77,78,79,80,81,82,83,84,85,86,87,88,89,90,91,92,93,94,95,96,97,98,99,100,101,102,103,104,105,106,107,108,109,110,111,112,113,114,115,116,117,118,119,120,121,122,123,124,125,126,127,128,129,130,131,132,133,134,135,136,137,138,139,140,141,142,143,144,145,146,147,148,149,150,151,152,153,154,155,156,157,158,159,160,161,162,163,164,165,166,167,168,169,170,171,172,173,174,175,176,177,10,11,12,13,14,15,16,17,18,19,20,21,22,23,24,25,26,27,28,29,30,31,32,33,34,35,36,37,38,39,40,41,42,43,44,178,179,180,181,182,183,184,185,186,187,188,189,190,191,192,193,194,195,196,197,198,199,200,201,202,203,204,205,206,207,208,209,210,211,212,213,214,215,216,217,218,219,220,221,222,223,224,225,226,227,228,229,230,231,232,233,234,235,236,237,238,239,10,11,12,13,14,15,16,17,18,19,20,21,22,23,24,25,26,27,28,29,30,31,32,33,34,35,36,37,38,39,40,41,42,43,240,241,242,243,244,245,246,247,248,249,250,251,252,253,254,255,256,257,258,259,260,261,262,263,264,265,266,267,268,269,270,271,272,273,274,275,276,277,278,279,280,281,282,283,284,285,286,287,288,289,290,291,292,293,294,295,296,297,298,299,300,301,302,303,304,305,306,307,308,309,310,10,11,12,13,14,15,16,17,18,19,20,21,22,23,24,25,26,27,28,29,30,31,32,33,34,35,36,37,38,39,40,41,42,43,44,45,46,47,48,49,50,51,52,53,54,55,56,57,58,59,60,61,62,63,64,65,66,67,68,69,70,71,72,73,74,75,76,77,78,79,80,81,82,83,84,85,86,87,88,89,90,91,92,93,94,95,96,97,98,99,100,101,102,103,104,105,106,107,108,109,110,111,112,113,114,311,312,313,314,315,316,317,318,319,320,321,322,323,324,325,326,327,328,329,330,331,332,333,334,335,336,337,338,339,340,341,342,343,344,345,346,347,348,349,350,351,352,353,354,355,356,357,358,359,360,361,362,363,364,365,366,367,368,369,370,371,372,373,10,11,12,13,14,15,16,17,18,19,20,21,22,23,24,25,26,27,28,29,30,31,32,33,34,35,36,37,38,39,40,41,42,43,44,374,375,376,377,378,379,380,381,382,383,384,385,386,387,388,389,390,391,392,393,394,395,396,397,398,399,400,401,402,403,404,405,406,407,408,409,410,411,412,413,414,415,416,417,418,419,420,421,422,423,424,425,426,427,428,429,430,431,432,433,434,435,10,11,12,13,14,15,16,17,18,19,20,21,22,23,24,25,26,27,28,29,30,31,32,33,34,35,36,37,38,39,40,41,42,44,436,437,438,439,440,441,442,443,444,445,446,447,448,449,450,451,452,453,454,455,456,457,458,459,460,461,462,463,464,465,466,467,468,469,470,471,472,473,474,475,476,477,478,479,480,481,482,483,484,485,486,487,488,489,490,491,492,493,494,495,496,497,498,10,11,12,13,14,15,16,17,18,19,20,21,22,23,24,25,26,27,28,29,30,31,32,33,34,35,36,37,38,39,40,41,42,44,115,499,500,501,502,503,504,505,506,507,508,509,510,511,512,513,514,515,516,517,518,519,520,521,522,523,524,525,526,527,528,529,530,531,532,533,534,535,536,537,538,539,540,541,542,543,544,545,546,547,548,549,550,551,552,553,554,555,556,557,558,559,560,10,11,12,13,14,15,16,17,18,19,20,21,22,23,24,25,26,27,28,29,30,31,32,33,34,35,36,37,38,39,40,41,42,43,44,45,46,47,48,49,50,51,52,53,54,55,56,57,58,59,60,61,62,63,64,65,66,67,68,69,70,71,72,73,74,75,76,77,78,79,80,81,82,83,84,85,86,87,88,89,90,91,92,93,94,95,96,97,98,99,100,101,102,103,104,105,106,107,108,109,110,111,112,113,114]
theorem q11_r:isS (bO (polT 70 bsE 0 (rdN bsE) (q11_1) (sQ q11_t)) fun a=>bO (polT 70 bsE 0 (rdN bsE) (q11_2) a.2) fun b=>bO (seCA 70 b.2 a.1 b.1) fun c=>bO (seCA 70 c.2 b.1 a.1) fun d=>bO (apCA eOrC 70 d.2 c.1 d.1) fun e=>bO (polT 70 bsE 0 (rdN bsE) (.fil .fls) e.2) fun f=>some 0)=true:=by kernel_rfl
theorem q11_no: ¬ Ky exF 0 q11_1 q11_2:=by
 unfold Ky PF N0;rw[Bp];intro hno;obtain⟨z,h⟩:=C3 q11_r;obtain⟨⟨a,s1⟩,h1,h⟩:=A4 h;obtain⟨n1,f1,r1⟩:=Bv (most:=200000) qom qom _ _ _ (rsQ _) h1;obtain⟨⟨b,s2⟩,h2,h⟩:=A4 h;obtain⟨n2,f2,r2⟩:=Bv (most:=200000) qom qom _ _ _ r1 h2;obtain⟨⟨c,s3⟩,h3,h⟩:=A4 h;obtain⟨n3,f3,r3⟩:=Hg (most:=200000) qom qom r2 h3;obtain⟨⟨d,s4⟩,h4,h⟩:=A4 h;obtain⟨n4,f4,r4⟩:=Hg (most:=200000) qom qom r3 h4;obtain⟨⟨e,s5⟩,h5,h⟩:=A4 h;obtain⟨n5,f5,r5⟩:=D2 (most:=200000) qom qom J3 r4 h5;obtain⟨⟨f,s6⟩,h6,h⟩:=A4 h;obtain⟨n6,f6,r6⟩:=Bv (most:=200000) qom qom _ _ _ r5 h6;exact hno _ _ f1 _ _ f2 _ _ f3 _ _ f4 _ _ f5 _ _ f6
abbrev q12_1:Po:= .fil (.eq exD 1)
abbrev q12_2:Po:= .fil (.eq exD 2)
def q12_t:List Nat:=[2,3,4,5,6,7,8,9,10,11,12,13,14,15,16,17,18,19,20,21,22,23,24,25,26,27,28,29,30,31,32,33,34,35,36,37,38,39,40,41,42,43,44,45,46,47,48,49,50,51,52,53,54,55,56,57,58,59,60,61,62,63,64,65,66,67,68,69,70,71,72,73,74,75,76,77,78,79,80,81,82,83,84,85,86,87,88,89,90,91,92,93,94,95,96,97,98,99,100,101,102,103,104,105,106,107,108,109,110,111,112,113,114,115,116,117,118,119,120,121,122,123,124,125,126,127,128,129,130,131,132,133,134,135,136,137,138,139,140,141,142,143,144,145,146,147,148,149,150,151,152,153,154,155,156,157,158,159,160,161,162,163,164,165,166,167,168,169,170,171,172,173,174,175,176,177,178,179,180,181,182,183,184,185,10,11,12,13,14,15,16,17,18,19,20,21,22,23,24,25,26,27,28,29,30,31,32,33,34,35,36,37,38,39,40,41,42,43,44,45,46,47,48,49,50,51,52,53,54,55,56,57,58,59,60,61,62,63,64,65,66,67,68,69,70,71,72,73,74,75,76,77,78,79,80,81,82,83,84,85,86,87,88,89,90,91,92,93,94,95,96,97,98,99,100,101,102,103,104,105,106,107,108,109,110,111,112,113,114,186,187,188,189,190,191,192,193,194,195,196,197,198,199,200,201,202,203,204,205,206,207,208,209,210,211,212,213,214,215,216,217,218,219,220,221,222,223,224,225,226,227,228,229,230,231,232,233,234,235,236,237,238,239,240,241,242,243,244,245,246,247,248,10,11,12,13,14,15,16,17,18,19,20,21,22,23,24,25,26,27,28,29,30,31,32,33,34,35,36,37,38,39,40,41,42,43,44,45,46,47,48,49,50,51,52,53,54,55,56,57,58,59,60,61,62,63,64,65,66,67,68,69,70,71,72,73,74,75,76,77,78,79,80,81,82,83,84,85,86,87,88,89,90,91,92,93,94,95,96,97,98,99,100,101,102,103,104,105,106,107,108,109,110,111,112,113,114]
theorem q12_r:isS (bO (polT 70 bsE 0 (rdN bsE) (q12_1) (sQ q12_t)) fun a=>bO (polT 70 bsE 0 (rdN bsE) (q12_2) a.2) fun b=>bO (seCA 70 b.2 a.1 b.1) fun c=>bO (seCA 70 c.2 b.1 a.1) fun d=>bO (apCA eOrC 70 d.2 c.1 d.1) fun e=>bO (polT 70 bsE 0 (rdN bsE) (.fil .fls) e.2) fun f=>some 0)=true:=by kernel_rfl
theorem q12_no: ¬ Ky exF 0 q12_1 q12_2:=by
 unfold Ky PF N0;rw[Bp];intro hno;obtain⟨z,h⟩:=C3 q12_r;obtain⟨⟨a,s1⟩,h1,h⟩:=A4 h;obtain⟨n1,f1,r1⟩:=Bv (most:=200000) qom qom _ _ _ (rsQ _) h1;obtain⟨⟨b,s2⟩,h2,h⟩:=A4 h;obtain⟨n2,f2,r2⟩:=Bv (most:=200000) qom qom _ _ _ r1 h2;obtain⟨⟨c,s3⟩,h3,h⟩:=A4 h;obtain⟨n3,f3,r3⟩:=Hg (most:=200000) qom qom r2 h3;obtain⟨⟨d,s4⟩,h4,h⟩:=A4 h;obtain⟨n4,f4,r4⟩:=Hg (most:=200000) qom qom r3 h4;obtain⟨⟨e,s5⟩,h5,h⟩:=A4 h;obtain⟨n5,f5,r5⟩:=D2 (most:=200000) qom qom J3 r4 h5;obtain⟨⟨f,s6⟩,h6,h⟩:=A4 h;obtain⟨n6,f6,r6⟩:=Bv (most:=200000) qom qom _ _ _ r5 h6;exact hno _ _ f1 _ _ f2 _ _ f3 _ _ f4 _ _ f5 _ _ f6
theorem prtP_at {m:Pdm}{xs:List Pdm}{k:Nat}(h:∀ i,i<(prtP m).length->xs[k+i]? =(prtP m)[i]?){i:Nat}(hi:i<m.subs.length):∀ j,j<(prtP (gd m.subs i)).length->xs[k+1+(prtPL (m.subs.take i)).length+j]? =(prtP (gd m.subs i))[j]? :=fun j hj=>by
 have e:prtP m=[m]++prtPL (m.subs.take i)++(prtP (gd m.subs i)++prtPL (m.subs.drop (i+1))):=by
  rw[Dx]
  conv=>lhs;rw[<- List.take_append_drop (i+1) m.subs,prtPL_app,prtPL_take hi]
  simp
 have h1:=h (1+(prtPL (m.subs.take i)).length+j) (by rw[e];simp only[List.length_append,List.length_singleton];omega);rw[show k+1+(prtPL (m.subs.take i)).length+j=k+(1+(prtPL (m.subs.take i)).length+j) by omega,h1,e,List.getElem?_append_right (by simp only[List.length_append,List.length_singleton];omega),List.getElem?_append_left (by simp only[List.length_append,List.length_singleton];omega)]
 congr 1
 simp only[List.length_append,List.length_singleton];omega
theorem prtO_at {m:Pom}{xs:List Pom}{k:Nat}(h:∀ i,i<(prtO m).length->xs[k+i]? =(prtO m)[i]?){i:Nat}(hi:i<m.subs.length):∀ j,j<(prtO (gd m.subs i)).length->xs[k+1+(prtOL (m.subs.take i)).length+j]? =(prtO (gd m.subs i))[j]? :=fun j hj=>by
 have e:prtO m=[m]++prtOL (m.subs.take i)++(prtO (gd m.subs i)++prtOL (m.subs.drop (i+1))):=by
  rw[De]
  conv=>lhs;rw[<- List.take_append_drop (i+1) m.subs,prtOL_app,prtOL_take hi]
  simp
 have h1:=h (1+(prtOL (m.subs.take i)).length+j) (by rw[e];simp only[List.length_append,List.length_singleton];omega);rw[show k+1+(prtOL (m.subs.take i)).length+j=k+(1+(prtOL (m.subs.take i)).length+j) by omega,h1,e,List.getElem?_append_right (by simp only[List.length_append,List.length_singleton];omega),List.getElem?_append_left (by simp only[List.length_append,List.length_singleton];omega)]
 congr 1
 simp only[List.length_append,List.length_singleton];omega
def tstS (w0:World) (l:Nat) (S:Nat->Mm->Prop) (Sx:Mm->Prop) (Hc:Mm) (xs:List Pdm) (N:Nat):Prop:=∀ {m:Pdm} {k b2 b3:Nat} {X H:Mm},m.sz<=N->PdM w0 Hc m->(∀ i,i<(prtP m).length->xs[k+i]? =(prtP m)[i]?)->Fnd X b2 (Cl [.func (.yield l) #[] #[]] 207)->Fnd X b3 (Cl [.func (.func 190) #[] #[Pt b2 0,Pt b3 0]] 207)->S k H->
 FSpec prog w0 190 #[.agg (encPd m).toArray,Pt b2 0,Pt b3 0] (X++H) (fun v H'=>∃ H1,H'=X++H1/\((v= .bool true/\S (k+(prtP m).length) H1)\/(v= .bool false/\Sx H1)))
def tstY (w0:World) (l:Nat) (S:Nat->Mm->Prop) (Sx:Mm->Prop) (xs:List Pdm):Prop:=∀ k x H X,xs[k]? =some x->S k H->YSpec prog w0 l [.agg (encPd x).toArray] (X++H) fun v H'=>∃ H1,H'=X++H1/\((v= .bool true/\S (k+1) H1)\/(v= .bool false/\Sx H1))
theorem tst_step {w0:World}{l:Nat}{S:Nat->Mm->Prop}{Sx:Mm->Prop}{Hc:Mm}{xs:List Pdm}(hS:∀ k H,S k H->Hc.Sublist H)(hY:tstY w0 l S Sx xs){N:Nat}(hN:N<=1000000000)(ih:tstS w0 l S Sx Hc xs N):tstS w0 l S Sx Hc xs (N+1):=by
 intro m k b2 b3 X H hm hM hxs f2 f3 hSk;have hsz:=Gb m;have hln:=Ig m.subs;have hx0:xs[k]? =some m:=by have:=hxs 0 (by rw[Dx];simp);rw[Dx] at this;exact this
 refine Am func190 U ntmps190 U (rDt 2 U (e_ (Ot U cs_) ?_ U));rintro _ _ ⟨n3,rfl,rfl⟩;refine rOt 6 U ?_;refine y_ (Om U isAgg207 (by first|exact c_o|exact Ae (Fnd.mono f2 (by repeat (first|exact List.sublist_append_left _ _|refine List.Sublist.cons _ ?_))) 0 _ U)) ?_ U;refine y_ (On U isAgg25 sizeOf25 U qcs) ?_ U;refine e_ (Im (T U) (.cons (T U) .nil) (hY k m H ((n3,Cl (encPd m) 25)::X) hx0 hSk)) ?_ U;rintro _ _ ⟨H1,rfl,⟨rfl,hS1⟩|⟨rfl,hS1⟩⟩<;>rw[List.cons_append]
 ·refine y_ (Bq (T U)) (rOt 2 U ?_) U;refine Ea (Aa U) ?_;refine rCt 6 U (y_ (Om U isAgg23 qco) ?_ U);refine rOt 5 U ?_;refine A8 (X:=Nat × Mm) (V:=fun ⟨i,Hi⟩=>[(14,Vi (i:Nat))]) (C:=[(2,_),(12,_),(13,_)]) (G:=fun ⟨i,Hi⟩=>(n3,Cl (encPd m) 25)::(X++Hi)) (φ:=fun ⟨i,Hi⟩=>i<=m.subs.length/\S (k+1+(prtPL (m.subs.take i)).length) Hi) (μ:=fun ⟨i,Hi⟩=>m.subs.length - i) (x0:=(0,H1)) ?_ (kg U) qkg (List.Sublist.refl _) ?_
  ·exact⟨Nat.zero_le _,hS1⟩
  rintro⟨i,Hi⟩ ⟨hi,hSi⟩;refine rDt 6 U ?_;refine jcd U (fun c15=> ?_) (fun c15=> ?_)
  ·have hi2:i<m.subs.length:=Int.ofNat_lt.1 c15;have hai:=Eh (Ax hi2);refine rCt 6 U (y_ (Oo U U runUnderlying23 sizeOf25 (Int.ofNat_lt.1 c15) (by first|exact rfl|exact hM.arr.b (i:=i) hi2)) ?_ U);refine y_ (On U isAgg25 sizeOf25 U (by exact(hM.arr.mono (List.Sublist.trans (hS _ _ hSi) (by repeat (first|exact List.sublist_append_right _ _|refine List.Sublist.cons _ ?_)))).cs (i:=i) hi2)) ?_ U;refine e_ (Ag zeroValue25 cs_) ?_ U;rintro _ _ ⟨n6,rfl,rfl⟩;refine Bo (Oq U U sizeOf25) U Ad ?_;rintro _ _ ⟨rfl,rfl⟩;refine rOt 4 U ?_;refine y_ (Om U isAgg207 (by first|exact c_o|exact Ae (Fnd.mono f3 (by repeat (first|exact List.sublist_append_left _ _|refine List.Sublist.cons _ ?_))) 0 _ U)) ?_ U;refine y_ (On U isAgg25 sizeOf25 U qcs) ?_ U;refine e_ (B8 (T U) (qe1 U) call190 (ih (X:=(n6,Cl (encPd (gd m.subs i)) 25)::(n3,Cl (encPd m) 25)::X) (H:=Hi) qom (hM.sub (Ax hi2)) (prtP_at hxs hi2) (Fnd.mono f2 sbt) (Fnd.mono f3 sbt) hSi)) ?_ U;rintro _ _ ⟨H2,rfl,⟨rfl,hS2⟩|⟨rfl,hS2⟩⟩<;>rw[List.cons_append,List.cons_append]
   ·refine y_ (Bq (T U)) (rOt 2 U ?_) U;refine Ea (Aa U) ?_;refine rCt 4 U (y_ (Aw (T U) Al qom) ?_ U);refine rOt 2 U ?_;refine Au ((i+1,H2)) ?_ ?_ qkg (kg U) ?_
    ·refine⟨hi2,?_⟩;rw[prtPL_take hi2,List.length_append,<- Nat.add_assoc];exact hS2
    ·first|omega|(simp only[];omega)
    ·exact(List.Sublist.cons _ (List.Sublist.refl _))
   ·refine y_ (Bq (T U)) (rOt 2 U ?_) U;refine Cx (Aa U) ?_;refine rCt 8 U (Bg (rXt 2 U (Ai U (Ol U) ?_)));exact⟨_,⟨H2,rfl, .inr ⟨rfl,hS2⟩⟩,sbt⟩
  ·obtain rfl:i=m.subs.length:=by have h9: ¬ ((i:Nat):Int)<(m.subs.length:Nat):=c15;omega
   rw[List.take_length] at hSi;refine rCt 2 U (An (rXt 8 U (Ai U (Ol U) ?_)));exact⟨_,⟨Hi,rfl, .inl ⟨rfl,by rw[Dx,List.length_cons,show k+((prtPL m.subs).length+1)=k+1+(prtPL m.subs).length by omega];exact hSi⟩⟩,sbt⟩
 ·refine y_ (Bq (T U)) (rOt 2 U ?_) U;refine Cx (Aa U) ?_;refine rCt 7 U (Ai U (Ol U) ?_);exact⟨_,⟨H1,rfl, .inr ⟨rfl,hS1⟩⟩,sbt⟩
theorem tst_s {w0:World}{l:Nat}{S:Nat->Mm->Prop}{Sx:Mm->Prop}{Hc:Mm}{xs:List Pdm}(hS:∀ k H,S k H->Hc.Sublist H)(hY:tstY w0 l S Sx xs)(N:Nat)(hN:N<=1000000000):tstS w0 l S Sx Hc xs N:=by
 induction N with
 |zero=>intro m k b2 b3 X H hm;have:=Gb m;omega
 |succ N ih=>exact tst_step hS hY qom (ih qom)
theorem tst_it {w0:World}{Hc:Mm}{b1:Nat}(m:Pdm)(hm:m.sz<=1000000000)(hM:PdM w0 Hc m)(f1:Fnd Hc b1 (Cl (encPd m) 25)):IterSpec prog w0 189 [Pt b1 0] Hc (fun x=>[.agg (encPd x).toArray]) (prtP m):=by
 intro l S Sx hS hY H hS0;show FSpec prog w0 189 #[.func (.yield l) #[] #[],Pt b1 0] H _;refine Am func189 U ntmps189 U (rDt 2 U (e_ (Ot U cs_) ?_ U));rintro _ _ ⟨n2,rfl,rfl⟩;refine rOt 4 U (e_ (Ag zeroValue207 cs_) ?_ U);rintro _ _ ⟨n3,rfl,rfl⟩;refine rOt 4 U (y_ (Bn (.cons (T U) (.cons (T U) .nil))) ?_ U);refine Bo (Oq U U sizeOf207) U Ad ?_;rintro _ _ ⟨rfl,rfl⟩;refine rOt 3 U (y_ (Om U isAgg207 qco) ?_ U);refine y_ (On U isAgg25 sizeOf25 U (by exact Ae (Fnd.mono f1 (List.Sublist.trans (hS _ _ hS0) sbt)))) ?_ U;refine e_ (B8 (T U) (qe1 U) call190 (tst_s (X:=(n3,Cl [.func (.func 190) #[] #[Pt n2 0,Pt n3 0]] 207)::(n2,Cl [.func (.yield l) #[] #[]] 207)::[]) hS hY 1000000000 (Nat.le_refl _) hm hM (fun i hi=>by rw[Nat.zero_add]) (Cr fnd_h) fnd_h hS0)) ?_ U;rintro _ _ ⟨H1,rfl,hcs⟩;refine rOt 1 U (K6 U .nil ?_);exact⟨H1,hcs.imp (fun h=>by have:=h.2;rwa [Nat.zero_add] at this) (fun h=>h.2),sbt⟩
theorem tst_mk (m:Pdm):
  FSpec prog w0 155 #[.agg (encPd m).toArray] H (fun u H'=>∃ b:Nat,u= .func (.func 189) #[] #[Pt b 0]/\H'=(b,Cl (encPd m) 25)::H):=by
 refine Am func155 U ntmps155 U (rDt 2 U (e_ (Ot U cs_) ?_ U));rintro _ _ ⟨n1,rfl,rfl⟩;refine rOt 5 U (y_ (Bn (.cons (T U) .nil)) (rOt 4 U (Ai U (Ol U) ?_)) U);exact⟨_,⟨n1,rfl,rfl⟩,sbt⟩
def prsS (w0:World) (l:Nat) (S:Nat->Mm->Prop) (Sx:Mm->Prop) (Hc:Mm) (xs:List Pom) (N:Nat):Prop:=∀ {m:Pom} {k b2 b3:Nat} {X H:Mm},m.sz<=N->PoM w0 Hc m->(∀ i,i<(prtO m).length->xs[k+i]? =(prtO m)[i]?)->Fnd X b2 (Cl [.func (.yield l) #[] #[]] 119)->Fnd X b3 (Cl [.func (.func 188) #[] #[Pt b2 0,Pt b3 0]] 119)->S k H->
 FSpec prog w0 188 #[.agg (encPo m).toArray,Pt b2 0,Pt b3 0] (X++H) (fun v H'=>∃ H1,H'=X++H1/\((v= .bool true/\S (k+(prtO m).length) H1)\/(v= .bool false/\Sx H1)))
def prsY (w0:World) (l:Nat) (S:Nat->Mm->Prop) (Sx:Mm->Prop) (xs:List Pom):Prop:=∀ k x H X,xs[k]? =some x->S k H->YSpec prog w0 l [.agg (encPo x).toArray] (X++H) fun v H'=>∃ H1,H'=X++H1/\((v= .bool true/\S (k+1) H1)\/(v= .bool false/\Sx H1))
theorem prs_step {w0:World}{l:Nat}{S:Nat->Mm->Prop}{Sx:Mm->Prop}{Hc:Mm}{xs:List Pom}(hS:∀ k H,S k H->Hc.Sublist H)(hY:prsY w0 l S Sx xs){N:Nat}(hN:N<=1000000000)(ih:prsS w0 l S Sx Hc xs N):prsS w0 l S Sx Hc xs (N+1):=by
 intro m k b2 b3 X H hm hM hxs f2 f3 hSk;have hsz:=Dy m;have hln:=F0 m.subs;have hx0:xs[k]? =some m:=by have:=hxs 0 (by rw[De];simp);rw[De] at this;exact this
 refine Am func188 U ntmps188 U (rDt 2 U (e_ (Ot U cs_) ?_ U));rintro _ _ ⟨n3,rfl,rfl⟩;refine rOt 6 U ?_;refine y_ (Om U isAgg119 (by first|exact c_o|exact Ae (Fnd.mono f2 (by repeat (first|exact List.sublist_append_left _ _|refine List.Sublist.cons _ ?_))) 0 _ U)) ?_ U;refine y_ (On U isAgg28 sizeOf28 U qcs) ?_ U;refine e_ (Im (T U) (.cons (T U) .nil) (hY k m H ((n3,Cl (encPo m) 28)::X) hx0 hSk)) ?_ U;rintro _ _ ⟨H1,rfl,⟨rfl,hS1⟩|⟨rfl,hS1⟩⟩<;>rw[List.cons_append]
 ·refine y_ (Bq (T U)) (rOt 2 U ?_) U;refine Ea (Aa U) ?_;refine rCt 6 U (y_ (Om U isAgg26 qco) ?_ U);refine rOt 5 U ?_;refine A8 (X:=Nat × Mm) (V:=fun ⟨i,Hi⟩=>[(14,Vi (i:Nat))]) (C:=[(2,_),(12,_),(13,_)]) (G:=fun ⟨i,Hi⟩=>(n3,Cl (encPo m) 28)::(X++Hi)) (φ:=fun ⟨i,Hi⟩=>i<=m.subs.length/\S (k+1+(prtOL (m.subs.take i)).length) Hi) (μ:=fun ⟨i,Hi⟩=>m.subs.length - i) (x0:=(0,H1)) ?_ (kg U) qkg (List.Sublist.refl _) ?_
  ·exact⟨Nat.zero_le _,hS1⟩
  rintro⟨i,Hi⟩ ⟨hi,hSi⟩;refine rDt 6 U ?_;refine jcd U (fun c15=> ?_) (fun c15=> ?_)
  ·have hi2:i<m.subs.length:=Int.ofNat_lt.1 c15;have hai:=D1 (Ax hi2);refine rCt 6 U (y_ (Oo U U runUnderlying26 sizeOf28 (Int.ofNat_lt.1 c15) (by first|exact rfl|exact hM.arr.b (i:=i) hi2)) ?_ U);refine y_ (On U isAgg28 sizeOf28 U (by exact(hM.arr.mono (List.Sublist.trans (hS _ _ hSi) (by repeat (first|exact List.sublist_append_right _ _|refine List.Sublist.cons _ ?_)))).cs (i:=i) hi2)) ?_ U;refine e_ (Ag zeroValue28 cs_) ?_ U;rintro _ _ ⟨n6,rfl,rfl⟩;refine Bo (Oq U U sizeOf28) U Ad ?_;rintro _ _ ⟨rfl,rfl⟩;refine rOt 4 U ?_;refine y_ (Om U isAgg119 (by first|exact c_o|exact Ae (Fnd.mono f3 (by repeat (first|exact List.sublist_append_left _ _|refine List.Sublist.cons _ ?_))) 0 _ U)) ?_ U;refine y_ (On U isAgg28 sizeOf28 U qcs) ?_ U;refine e_ (B8 (T U) (qe1 U) call188 (ih (X:=(n6,Cl (encPo (gd m.subs i)) 28)::(n3,Cl (encPo m) 28)::X) (H:=Hi) qom (hM.sub (Ax hi2)) (prtO_at hxs hi2) (Fnd.mono f2 sbt) (Fnd.mono f3 sbt) hSi)) ?_ U;rintro _ _ ⟨H2,rfl,⟨rfl,hS2⟩|⟨rfl,hS2⟩⟩<;>rw[List.cons_append,List.cons_append]
   ·refine y_ (Bq (T U)) (rOt 2 U ?_) U;refine Ea (Aa U) ?_;refine rCt 4 U (y_ (Aw (T U) Al qom) ?_ U);refine rOt 2 U ?_;refine Au ((i+1,H2)) ?_ ?_ qkg (kg U) ?_
    ·refine⟨hi2,?_⟩;rw[prtOL_take hi2,List.length_append,<- Nat.add_assoc];exact hS2
    ·first|omega|(simp only[];omega)
    ·exact(List.Sublist.cons _ (List.Sublist.refl _))
   ·refine y_ (Bq (T U)) (rOt 2 U ?_) U;refine Cx (Aa U) ?_;refine rCt 8 U (Bg (rXt 2 U (Ai U (Ol U) ?_)));exact⟨_,⟨H2,rfl, .inr ⟨rfl,hS2⟩⟩,sbt⟩
  ·obtain rfl:i=m.subs.length:=by have h9: ¬ ((i:Nat):Int)<(m.subs.length:Nat):=c15;omega
   rw[List.take_length] at hSi;refine rCt 2 U (An (rXt 8 U (Ai U (Ol U) ?_)));exact⟨_,⟨Hi,rfl, .inl ⟨rfl,by rw[De,List.length_cons,show k+((prtOL m.subs).length+1)=k+1+(prtOL m.subs).length by omega];exact hSi⟩⟩,sbt⟩
 ·refine y_ (Bq (T U)) (rOt 2 U ?_) U;refine Cx (Aa U) ?_;refine rCt 7 U (Ai U (Ol U) ?_);exact⟨_,⟨H1,rfl, .inr ⟨rfl,hS1⟩⟩,sbt⟩
theorem prs_s {w0:World}{l:Nat}{S:Nat->Mm->Prop}{Sx:Mm->Prop}{Hc:Mm}{xs:List Pom}(hS:∀ k H,S k H->Hc.Sublist H)(hY:prsY w0 l S Sx xs)(N:Nat)(hN:N<=1000000000):prsS w0 l S Sx Hc xs N:=by
 induction N with
 |zero=>intro m k b2 b3 X H hm;have:=Dy m;omega
 |succ N ih=>exact prs_step hS hY qom (ih qom)
theorem prs_it {w0:World}{Hc:Mm}{b1:Nat}(m:Pom)(hm:m.sz<=1000000000)(hM:PoM w0 Hc m)(f1:Fnd Hc b1 (Cl (encPo m) 28)):IterSpec prog w0 187 [Pt b1 0] Hc (fun x=>[.agg (encPo x).toArray]) (prtO m):=by
 intro l S Sx hS hY H hS0;show FSpec prog w0 187 #[.func (.yield l) #[] #[],Pt b1 0] H _;refine Am func187 U ntmps187 U (rDt 2 U (e_ (Ot U cs_) ?_ U));rintro _ _ ⟨n2,rfl,rfl⟩;refine rOt 4 U (e_ (Ag zeroValue119 cs_) ?_ U);rintro _ _ ⟨n3,rfl,rfl⟩;refine rOt 4 U (y_ (Bn (.cons (T U) (.cons (T U) .nil))) ?_ U);refine Bo (Oq U U sizeOf119) U Ad ?_;rintro _ _ ⟨rfl,rfl⟩;refine rOt 3 U (y_ (Om U isAgg119 qco) ?_ U);refine y_ (On U isAgg28 sizeOf28 U (by exact Ae (Fnd.mono f1 (List.Sublist.trans (hS _ _ hS0) sbt)))) ?_ U;refine e_ (B8 (T U) (qe1 U) call188 (prs_s (X:=(n3,Cl [.func (.func 188) #[] #[Pt n2 0,Pt n3 0]] 119)::(n2,Cl [.func (.yield l) #[] #[]] 119)::[]) hS hY 1000000000 (Nat.le_refl _) hm hM (fun i hi=>by rw[Nat.zero_add]) (Cr fnd_h) fnd_h hS0)) ?_ U;rintro _ _ ⟨H1,rfl,hcs⟩;refine rOt 1 U (K6 U .nil ?_);exact⟨H1,hcs.imp (fun h=>by have:=h.2;rwa [Nat.zero_add] at this) (fun h=>h.2),sbt⟩
theorem prs_mk (m:Pom):
  FSpec prog w0 154 #[.agg (encPo m).toArray] H (fun u H'=>∃ b:Nat,u= .func (.func 187) #[] #[Pt b 0]/\H'=(b,Cl (encPo m) 28)::H):=by
 refine Am func154 U ntmps154 U (rDt 2 U (e_ (Ot U cs_) ?_ U));rintro _ _ ⟨n1,rfl,rfl⟩;refine rOt 5 U (y_ (Bn (.cons (T U) .nil)) (rOt 4 U (Ai U (Ol U) ?_)) U);exact⟨_,⟨n1,rfl,rfl⟩,sbt⟩
section
variable {P:Program} {N:Nat} {w0:World} {Q:Post} {L:Fm} {ds:List Deferred} {H:Mm}
theorem j_rangeN {α Z:Type}{g:Operand}{ps:List Nat}{assign body:Code}{gf:FuncId}{cap:List Value}{Hc:Mm}{enc:α->List Value}{xs:List α}
  {l0:Nat} {r0:Loop} (hr0:(l0,Obj.loop r0)∈H) (hg:Ev L g (.func (.func gf) #[] cap.toArray)) (hc:∀ args w,(callFunc gf args).run P w= .ok (.enter gf args) w) (it:IterSpec P w0 gf cap Hc enc xs) (hps:∀ x,(enc x).length=ps.length) (hpN:(ps.all fun p=>Nat.blt p N)=true)
  (G:Z->Mm) (φ:Nat->Z->Prop) (φr:Z->Prop) (φe:Nat->Z->Prop) (z0:Z) (h0:φ 0 z0) (hG:(G z0).Sublist H) (hHc:∀ k z,φ k z->Hc.Sublist (G z))
  (round:∀ (l:Nat) (lr:LoopState->Option Code->Loop) (Y X:Mm) (k:Nat) (x:α) (z:Z),LrOk lr->xs[k]? =some x->φ k z->
   J P (some l) N w0 assign (assignQ P l N body (roundQ w0 (fun z=>X++((l, .loop (lr .busy none))::(Y++G z))) (φ (k+1)) φr φe)) (psL ps (enc x) L) [] (X++((l, .loop (lr .ready none))::(Y++G z))))
  (done:∀ z,φ xs.length z->JQ w0 Q .normal L ds (G z))
  (stopR:∀ z,φr z->JQ w0 Q .ret L ds (G z))
  (stopE:∀ id z,φe id z->JQ w0 Q (.exit id) L ds (G z)):
  J P (some l0) N w0 (.rangeFunc g ps.toArray assign body) Q L ds H:=fun b w hO a hsz hf hd=>by
 refine wpIn_rangeFunc ?_;intro fn _;have hO':=hO.sub hG;obtain⟨lr,hlr⟩:∃ lr:LoopState->Option Code->Loop,lr=fun st pe=>{state:=st,pending:=pe,fn,tmps:=a.tmps,params:=ps.toArray,assign,body,defers:=r0.defers}:=⟨_,rfl⟩
 have hl:LrOk lr:=by subst hlr;exact⟨fun _ _=>rfl,fun _ _ _=>rfl,fun _ _ _ _=>rfl,fun _ _=>rfl⟩
 have hO1:=hO'.alloc (.loop (lr .ready none));obtain⟨l,hlw⟩:∃ l,l=w.heap.size:=⟨_,rfl⟩;rw[<- hlw] at hO1;have hcond:=it l (fun k H=>∃ z,φ k z/\H=(l, .loop (lr .ready none))::([]++G z))
  (fun H=>∃ z,(φr z/\H=(l, .loop (lr .done (some .ret)))::([]++G z))\/∃ id,φe id z/\H=(l, .loop (lr .done (some (.exit id))))::([]++G z))
  (fun k H ⟨z,hz,hH⟩=>by rw[hH];exact(hHc k z hz).cons _)
  (fun k x H X hx ⟨z,hz,hH⟩ w hOw=>by
   rw[hH] at hOw;have hh:w.heap[l]? =some (.loop (lr .ready none)):=hOw.has (l,_) (by simp);have hy:=run_yield (P:=P) (args:=(enc x).toArray) hh (by rw[hlr];simpa using hps x);have htm:a.tmps.size=N:=hsz;have hp:=Lr ps (enc x) a.tmps L b (fun p hp=>by have:=List.all_eq_true.1 hpN p hp;rw[htm];simpa[Nat.blt_eq] using this) hf;refine⟨_,_,_,_,hy,?_⟩;have h1:=round_spec (P:=P) (f:=(lr .ready none).fn) (tmps:=(ps.zip (enc x)).foldl (fun t (p,v)=>t.setIfInBounds p v) a.tmps) (X:=X) (Y:=[]) (G:=G) (φ:=φ (k+1)) (φr:=φr) (φe:=φe) hl hp.2 (by rw[hp.1];exact htm) (round l lr [] X k x z hl hx hz) hOw;have e1:(lr .ready none).assign=assign:=by rw[hlr]
   have e2:(lr .ready none).body=body:=by rw[hlr]
   have e3:((lr .ready none).params.zip (enc x).toArray).foldl (fun tmps (p:Tmp × Value)=>tmps.setIfInBounds p.1 p.2) (lr .ready none).tmps=(ps.zip (enc x)).foldl (fun t (p,v)=>t.setIfInBounds p v) a.tmps:=by rw[hlr];simp
   rw[e1,e2];refine RoundIn.mono (by rw[<- e3] at h1;exact h1) ?_;rintro e w' ⟨v,H',he,hO2,hcs⟩;refine⟨v,H',he,hO2,?_⟩;rcases hcs with ⟨hv,z',hz',hH'⟩|⟨hv,z',hcs⟩
   ·exact⟨_,hH', .inl ⟨hv,z',hz',rfl⟩⟩
   ·rcases hcs with ⟨hz',hH'⟩|⟨id,hz',hH'⟩
    ·exact⟨_,hH', .inr ⟨hv,z', .inl ⟨hz',rfl⟩⟩⟩
    ·exact⟨_,hH', .inr ⟨hv,z', .inr ⟨id,hz',rfl⟩⟩⟩)
  ((l, .loop (lr .ready none))::([]++G z0)) ⟨z0,h0,rfl⟩
 refine⟨l,[],w.alloc (.loop (lr .ready none)),{target:= .fn (.func gf) cap.toArray,args:= #[.func (.yield l) #[] #[]]},w.alloc (.loop (lr .ready none)),gf,(.func (.yield l) #[] #[]::cap).toArray,w.alloc (.loop (lr .ready none)),?enter,?res,fun f' _=>trivial,?inv,Jt (some l0),Eo (r:=some l0) ?call⟩
 case call=>
  refine(hcond _ hO1).mono ?_;rintro e w3 ⟨v,H',he,hO3,hcs⟩;subst he;have fin:∀ (s:LoopState) (p:Option Code) (z:Z),s≠.busy->Own w0 ((l, .loop (lr s p))::([]++G z)) w3->(Instr.endLoop l).run P w3= .ok p (w3.putObj l (.loop {lr s p with state:= .exhausted}))/\Own w0 (G z) (w3.putObj l (.loop {lr s p with state:= .exhausted})):=fun s p z hne hO3=>by
   have hh:w3.heap[l]? =some (.loop (lr s p)):=hO3.has (l,_) (by simp);have h1:=run_endLoop (P:=P) hh (by rw[hl.state];exact hne);exact⟨h1.trans (congrArg (fun q=>Result.ok q _) (hl.pend s p)),(hO3.put .h).tail⟩
  have key:∀ e z,(∀ w,Own w0 (G z) w->Q e (lk L b) ds w)->∀ w,Own w0 (G z) w->LQ N Q e {a with defers:=[]++a.defers} w:=fun e z h w hOw=>⟨hsz,by
   have:=h w hOw;have hf':fr {a with defers:=[]++a.defers}=lk L b:=hf;rw[hf'];simp only[List.nil_append,hd];exact this⟩
  rcases hcs with ⟨z,hz,hH'⟩|⟨z,hcs⟩
  ·rw[hH'] at hO3;obtain⟨h1,h2⟩:=fin _ _ z (by simp) hO3;exact⟨none,_,h1,key .normal z (fun w hw=>done z hz b w hw) _ h2⟩
  ·rcases hcs with ⟨hz,hH'⟩|⟨id,hz,hH'⟩
   ·rw[hH'] at hO3;obtain⟨h1,h2⟩:=fin _ _ z (by simp) hO3;exact⟨some .ret,_,h1,wpIn_ret (key .ret z (fun w hw=>stopR z hz b w hw) _ h2)⟩
   ·rw[hH'] at hO3;obtain⟨h1,h2⟩:=fin _ _ z (by simp) hO3;exact⟨some (.exit id),_,h1,wpIn_exit (key (.exit id) z (fun w hw=>stopE id z hz b w hw) _ h2)⟩
 case enter=>
  have:=run_enterLoop_inner (P:=P) (w:=w) (hO.has _ hr0) fn a.tmps ps.toArray assign body;rw[hlr,hlw];exact this
 case res=>
  have hgb:=hg b;rw[<- hf,<- Er] at hgb;have e:resolve a.eval (rangeCall g l) 0=Deferred.ofValue (a.eval g) #[.func (.yield l) #[] #[]]:=by
   unfold resolve;simp only[List.map_toArray,List.map_cons,List.map_nil]
   rfl
  rw[e];rw[hgb];simp[Deferred.ofValue]
 case inv=>simp[invoke,hc]
end
theorem y_at {P:Program}{w0:World}{l:Nat}{args:List Value}{M XX Hz:Mm}{F:Mm->Mm}{C:Value->Mm->Prop}(e:M=XX++Hz)(eb:∀ H1,XX++H1=F H1)(hy:YSpec P w0 l args (XX++Hz) fun v H'=>∃ H1,H'=XX++H1/\C v H1):YSpec P w0 l args M fun v H'=>∃ H1,H'=F H1/\C v H1:=by
 rw[e];exact hy.mono fun v H' ⟨H1,h1,h2⟩=>⟨H1,h1.trans (eb H1),h2⟩
def gPr (p:Pom):List Pdm:=if p.kind=1 then prtP p.pr else []
def prdF (m:Pom):List Pdm:=(prtO m).flatMap gPr
def offP (m:Pom) (k:Nat):Nat:=(((prtO m).take k).flatMap gPr).length
theorem offP_next {m x:Pom}{k:Nat}(hx:(prtO m)[k]? =some x):offP m (k+1)=offP m k+(gPr x).length:=by
 obtain⟨hk,e⟩:=List.getElem?_eq_some_iff.1 hx;unfold offP;rw[List.take_succ_eq_append_getElem hk,List.flatMap_append,List.length_append,e];simp
theorem offP_all (m:Pom):offP m (prtO m).length=(prdF m).length:=by unfold offP prdF;rw[List.take_length]
theorem offP_at {m x:Pom}{k j:Nat}(hx:(prtO m)[k]? =some x){y:Pdm}(hy:(gPr x)[j]? =some y):(prdF m)[offP m k+j]? =some y:=by
 obtain⟨hk,e⟩:=List.getElem?_eq_some_iff.1 hx;have hj:=(List.getElem?_eq_some_iff.1 hy).1;have e2:prdF m=((prtO m).take k).flatMap gPr++(gPr x++((prtO m).drop (k+1)).flatMap gPr):=by
  unfold prdF
  conv=>lhs;rw[<- List.take_append_drop (k+1) (prtO m),List.flatMap_append,List.take_succ_eq_append_getElem hk,List.flatMap_append,e]
  simp
 unfold offP;rw[e2,List.getElem?_append_right qom,show ((prtO m).take k |>.flatMap gPr).length+j - ((prtO m).take k |>.flatMap gPr).length=j by omega,List.getElem?_append_left hj];exact hy
theorem prd_it {w0:World}{Hc:Mm}{b1:Nat}(m:Pom)(hm:m.sz<=1000000000)(hM:PoM w0 Hc m)(f1:Fnd Hc b1 (Cl (encPo m) 28)):IterSpec prog w0 153 [Pt b1 0] Hc (fun x=>[.agg (encPd x).toArray]) (prdF m):=by
 intro ly S Sx hS hY H hS0;show FSpec prog w0 153 #[.func (.yield ly) #[] #[],Pt b1 0] H _;refine Am func153 U ntmps153 U (rDt 2 U (e_ (Ot U cs_) ?_ U));rintro _ _ ⟨n2,rfl,rfl⟩;refine rOt 4 U (y_ (On U isAgg28 sizeOf28 U (by exact Ae (Fnd.mono f1 (List.Sublist.trans (hS _ _ hS0) sbt)))) ?_ U);refine e_ (Ah (evq1 U) call154 (prs_mk m)) ?_ U;rintro _ _ ⟨b9,rfl,rfl⟩;refine rOt 3 U ?_;refine j_rangeM (Z:=Mm) (T U) call187 (prs_it (Hc:=(b9,Cl (encPo m) 28)::Hc) m hm (hM.mono (List.Sublist.cons _ (List.Sublist.refl _))) fnd_h) (fun _=>rfl) U (fun z=>(b9,Cl (encPo m) 28)::(n2,Cl [.func (.yield ly) #[] #[]] 207)::z) (fun k z=>S (offP m k) z) (fun z=>Sx z) (fun _ z=>False) (H) ?_ sbt ?_ ?_ ?_ ?_ ?_
 ·exact hS0
 ·exact fun k z hz=>List.Sublist.cons_cons _ (List.Sublist.cons _ (hS _ _ hz))
 ·rintro l lr Y X k x z hl hx hz;have hxm:=List.mem_of_getElem? hx;have hxM:=(prtO_M hM x hxm).pred;have hxs:x.pr.sz<=1000000000:=by have h8:=prtO_sz x hxm;have h9:=Dy x;omega
  refine Jf [(2,_),(7,_)] (kg U) (rDt 1 U (e_ (Ag zeroValue28 cs_) ?_ U));rintro _ _ ⟨n3,rfl,rfl⟩;refine Bo (Oq U U sizeOf28) U Ad ?_;rintro _ _ ⟨rfl,rfl⟩;refine rOt 1 U (Io hl ?_);refine rDt 5 U (y_ (Om U isAgg3 qco) ?_ U);refine rOt 3 U ?_;refine jcd U (fun c10=> ?_) (fun c10=> ?_)
  ·have hgx:gPr x=[]:=if_neg (fun e=>c10 e);refine rCt 3 U (Ip (z) ?_ sbt);show S (offP m (k+1)) z;rw[offP_next hx,hgx];exact hz
  ·have hgx:gPr x=prtP x.pr:=if_pos (Classical.not_not.1 c10);refine rCt 5 U ?_;refine y_ (On U isAgg25 sizeOf25 U (by exact N4 (Vi x.kind) x.pr [.string x.nm,Vi x.n, .slice x.q x.subs.length x.cap] fndq)) ?_ U;refine e_ (Ah (evq1 U) call155 (tst_mk x.pr)) ?_ U;rintro _ _ ⟨b8,rfl,rfl⟩;refine rOt 3 U ?_;refine j_rangeN (Z:=Mm) (r0:=lr .busy none) (by simp) (T U) call189 (tst_it (Hc:=(b8,Cl (encPd x.pr) 25)::Hc) x.pr hxs (hxM.mono (List.Sublist.cons _ (List.Sublist.refl _))) fnd_h) (fun _=>rfl) U (fun z2=>(b8,Cl (encPd x.pr) 25)::(n3,Cl (encPo x) 28)::(X++((l, .loop (lr .busy none))::(Y++((b9,Cl (encPo m) 28)::(n2,Cl [.func (.yield ly) #[] #[]] 207)::z2))))) (fun j z2=>S (offP m k+j) z2) (fun z2=>Sx z2) (fun _ z2=>False) (z) ?_ sbt ?_ ?_ ?_ ?_ ?_
   ·exact hz
   ·exact fun k9 z2 hz2=>List.Sublist.cons_cons _ ((hS _ _ hz2).trans sbt)
   ·rintro l2 lr2 Y2 X2 j y z2 hl2 hy hz2;refine Jf [(2,_),(14,_)] (kg U) (rDt 1 U (e_ (Ag zeroValue25 cs_) ?_ U));rintro _ _ ⟨n4,rfl,rfl⟩;refine Bo (Oq U U sizeOf25) U Ad ?_;rintro _ _ ⟨rfl,rfl⟩;refine rOt 1 U (Io hl2 ?_);refine rDt 3 U ?_;refine y_ (Om U isAgg207 qco) ?_ U;refine y_ (On U isAgg25 sizeOf25 U (by exact Ae fndq)) ?_ U;refine e_ (Im (T U) (.cons (T U) .nil) (y_at (F:=fun H1=>(n4,Cl (encPd y) 25)::(X2++((l2, .loop (lr2 .busy none))::(Y2++((b8,Cl (encPd x.pr) 25)::(n3,Cl (encPo x) 28)::(X++((l, .loop (lr .busy none))::(Y++((b9,Cl (encPo m) 28)::(n2,Cl [.func (.yield ly) #[] #[]] 207)::H1))))))))) (XX:=((n4,Cl (encPd y) 25)::(X2++((l2, .loop (lr2 .busy none))::(Y2++((b8,Cl (encPd x.pr) 25)::(n3,Cl (encPo x) 28)::(X++((l, .loop (lr .busy none))::(Y++[(b9,Cl (encPo m) 28),(n2,Cl [.func (.yield ly) #[] #[]] 207)]))))))))) (Hz:=z2) (by simp) (fun H1=>by simp) (hY _ y z2 _ (offP_at hx (by rw[hgx];exact hy)) hz2))) ?_ U;rintro _ _ ⟨H1,rfl,⟨rfl,hS1⟩|⟨rfl,hS1⟩⟩
    ·refine y_ (Bq (T U)) (rOt 2 U ?_) U;refine Ea (Aa U) ?_;refine rCt 2 U (Ip (H1) ?_ sbt);exact hS1
    ·refine y_ (Bq (T U)) (rOt 2 U ?_) U;refine Cx (Aa U) ?_;refine rCt 2 U (q_round_ret (H1) ?_ sbt);exact hS1
   ·rintro  z2 hz2;refine rXt 2 U (Ip (z2) ?_ sbt);show S (offP m (k+1)) z2;rw[offP_next hx,hgx];exact hz2
   ·rintro  z2 hz2;refine rXt 2 U (q_round_ret (z2) ?_ sbt);exact hz2
   ·exact fun _ _ h=>h.elim
 ·rintro D0 z hz;refine rXt 1 U (q_mark_end ?_);refine K6 U .nil ?_;exact⟨z, .inl (by rw[<- offP_all];exact hz),sbt⟩
 ·rintro D0 z hz;refine rXt 1 U (q_mark_ret ?_);refine Ai U .nil ?_;exact⟨z, .inr hz,sbt⟩
 ·exact fun _ _ _ h=>h.elim
theorem prd_mk (m:Pom):
  FSpec prog w0 114 #[.agg (encPo m).toArray] H (fun u H'=>∃ b:Nat,u= .func (.func 153) #[] #[Pt b 0]/\H'=(b,Cl (encPo m) 28)::H):=by
 refine Am func114 U ntmps114 U (rDt 2 U (e_ (Ot U cs_) ?_ U));rintro _ _ ⟨n1,rfl,rfl⟩;refine rOt 5 U (y_ (Bn (.cons (T U) .nil)) (rOt 4 U (Ai U (Ol U) ?_)) U);exact⟨_,⟨n1,rfl,rfl⟩,sbt⟩
end Go.Proofs.YtkgfmjanajdibaaGreat
