/-
  A part of what LawG rests on: the logic, walks and plain laws. No condition.
-/
import Derived.Test.YtkgfmjanajdibaaGreatJg2
import Derived.Shelf.Sort.Plain
import Derived.Shelf.Slices.In.SortNone
import Derived.Laws.Cover3
import Derived.Shelf.SlSortCmp.WholeK
import Derived.Shelf.SlSortCmp.NoneTotal
import Derived.ChangeKeysEq
namespace Go.Proofs.YtkgfmjanajdibaaGreat
open _root_.Go.Proofs.Tryz
open Go.RowKit
set_option linter.unusedVariables false
set_option linter.unusedSimpArgs false
set_option linter.unusedSectionVars false
set_option maxRecDepth 100000
variable {w0:World}{H:Mm}
theorem seen_le':∀ {n:Nat} {seen:List Nat},seen.Nodup->(∀ i∈seen,i<n)->seen.length<=n
 |n,seen,h1,h2=>by
  have:=List.Nodup.length_le_of_subset h1 (l₂:=List.range n) (fun i hi=>List.mem_range.2 (h2 i hi))
  simpa using this
theorem seen_lt' {n i:Nat}{seen:List Nat}(hn:seen.Nodup)(hs:∀ i∈seen,i<n)(hi:i∉seen)(hl:i<n):seen.length<n:=by
 have:=seen_le' (n:=n) (seen:=i::seen) (List.nodup_cons.2 ⟨hi,hn⟩) (fun j hj=>by rcases List.mem_cons.1 hj with rfl|h;exact hl;exact hs j h);simp at this;omega
structure Seen (n:Nat) (seen:List Nat):Prop where
 nd:seen.Nodup
 lt:∀ i∈seen,i<n
theorem seen_0 {n:Nat}:Seen n []:=⟨List.nodup_nil,fun i hi=>by cases hi⟩
theorem Seen.next {n i:Nat}{seen:List Nat}(h:Seen n seen)(hi:i∉seen)(hl:i<n):Seen n (seen++[i])/\seen.length<n:=
 ⟨⟨by rw[List.nodup_append];exact⟨h.nd,by simp,by intro a ha b hb;simp at hb;subst hb;rintro rfl;exact hi ha⟩,fun j hj=>by
  rcases List.mem_append.1 hj with h1|h1
  ·exact h.lt j h1
  ·simp at h1;subst h1;exact hl⟩,seen_lt' h.nd h.lt hi hl⟩
def pset (ps:List (Nat × Nat)):List ((Nat × Nat) × Bool):=ps.map fun p=>(p,true)
theorem J4 (ps:List (Nat × Nat)):(pset ps).length=ps.length:=by simp[pset]
theorem pset_get {ps:List (Nat × Nat)}{i:Nat}{p:Nat × Nat}{c:Bool}(h:(pset ps)[i]? =some (p,c)):ps[i]? =some p:=by
 unfold pset at h;rw[List.getElem?_map] at h;cases h1:ps[i]? with
 |none=>rw[h1] at h;cases h
 |some x=>rw[h1] at h;cases h;rfl
def padd (qs:List (Nat × Nat)) (q:Nat × Nat):List (Nat × Nat):=if q∈qs then qs else qs++[q]
theorem padd_mem {qs:List (Nat × Nat)}{q x:Nat × Nat}:x∈padd qs q↔x∈qs\/x=q:=by
 unfold padd
 split
 ·rename_i h
  constructor
  ·exact .inl
  ·rintro(h1|rfl)
   ·exact h1
   ·exact h
 ·simp
def FoI (ns:Ns) (ps:List (Nat × Nat)) (lv:Nat) (b:Bool) (seen:List Nat) (qs:List (Nat × Nat)):Prop:=∀ q,q∈qs↔(∃ i∈seen,∃ p,ps[i]? =some p/\q=(ch ns p.1 lv b,ch ns p.2 lv b))/\q.1≠q.2
theorem foI_0 {ns:Ns}{ps:List (Nat × Nat)}{lv:Nat}{b:Bool}:FoI ns ps lv b [] []:=fun q=>by simp
theorem FoI.yes {ns:Ns}{ps:List (Nat × Nat)}{lv:Nat}{b:Bool}{seen:List Nat}{qs:List (Nat × Nat)}(h:FoI ns ps lv b seen qs){i:Nat}{p:Nat × Nat}(hi:ps[i]? =some p)(hne:ch ns p.1 lv b≠ch ns p.2 lv b):FoI ns ps lv b (seen++[i]) (padd qs (ch ns p.1 lv b,ch ns p.2 lv b)):=fun q=>by
 rw[padd_mem,h q]
 constructor
 ·rintro(⟨⟨j,h1,p',h2,h3⟩,h4⟩|rfl)
  ·exact⟨⟨j,List.mem_append.2 (.inl h1),p',h2,h3⟩,h4⟩
  ·exact⟨⟨i,by simp,p,hi,rfl⟩,hne⟩
 ·rintro⟨⟨j,h1,p',h2,h3⟩,h4⟩;rcases List.mem_append.1 h1 with h1|h1
  ·exact .inl ⟨⟨j,h1,p',h2,h3⟩,h4⟩
  ·simp at h1;subst h1;rw[hi] at h2;cases h2;exact .inr h3
theorem FoI.no {ns:Ns}{ps:List (Nat × Nat)}{lv:Nat}{b:Bool}{seen:List Nat}{qs:List (Nat × Nat)}(h:FoI ns ps lv b seen qs){i:Nat}{p:Nat × Nat}(hi:ps[i]? =some p)(hne:ch ns p.1 lv b=ch ns p.2 lv b):FoI ns ps lv b (seen++[i]) qs:=fun q=>by
 rw[h q]
 constructor
 ·rintro⟨⟨j,h1,p',h2,h3⟩,h4⟩;exact⟨⟨j,List.mem_append.2 (.inl h1),p',h2,h3⟩,h4⟩
 ·rintro⟨⟨j,h1,p',h2,h3⟩,h4⟩;rcases List.mem_append.1 h1 with h1|h1
  ·exact⟨⟨j,h1,p',h2,h3⟩,h4⟩
  ·simp at h1;subst h1;rw[hi] at h2;cases h2;subst h3;exact absurd hne h4
theorem FoI.done {ns:Ns}{ps:List (Nat × Nat)}{lv:Nat}{b:Bool}{seen:List Nat}{qs:List (Nat × Nat)}(h:FoI ns ps lv b seen qs)(ha:∀ i,i<(pset ps).length->i∈seen)(q:Nat × Nat):q∈qs↔q∈foF ns ps lv b:=by
 rw[h q,fo_mem]
 constructor
 ·rintro⟨⟨j,h1,p,h2,h3⟩,h4⟩;exact⟨⟨p,List.mem_of_getElem? h2,h3⟩,h4⟩
 ·rintro⟨⟨p,h1,h2⟩,h4⟩;obtain⟨i,hi,e⟩:=List.getElem_of_mem h1;exact⟨⟨i,ha i (by rw[J4];exact hi),p,by rw[List.getElem?_eq_getElem hi,e],h2⟩,h4⟩
theorem yl_lenM {K V:Type}{encK:K->Value}{encV:V->Value}{P:Program}{w0:World}{L:Fm}{H:Mm}{ty t kt et:TypeId}{x:Operand}{r:Nat}{l:List (K × V)}(hx:Ev L x (.map (some r)))(ht:∀ w,(underlying t).run P w= .ok (.map kt et) w)(hf:Fnd H r (mapO encK encV l)):Yl P w0 (.call {callee:= .builtin .len,args:= #[x],argTypes:= #[t]}) ty L H (Vi (l.length:Nat)):=Lp U fun H' hs b w hO=>by
 have hh:=Dc (P:=P) ((hO.sub hs).has _ hf);have hsz:(ents encK encV l).toArray.size=l.length:=by simp[ents]
 simp[exO,execOp,resolve,invoke,builtin,Builtin.len_,hx b,ht,goInt,hh,hsz,Sem.run_bind,Result.andThen]
theorem upsert_pset (qs:List (Nat × Nat))(q:Nat × Nat):upsert (pset qs) q true=pset (padd qs q):=by
 induction qs with
 |nil=>rfl
 |cons p ps ih=>
  show upsert ((p,true)::pset ps) q true=_;rw[Ez]
  by_cases h:p=q
  ·subst h;simp[padd,pset]
  ·have h2: ¬ q=p:=fun e=>h e.symm
   rw[if_neg h,ih];unfold padd
   by_cases h3:q∈ps
   ·simp[h3,pset]
   ·simp[h3,h2,pset]
abbrev FoK (ns:Ns) (ps:List (Nat × Nat)) (lv:Nat) (b:Bool) (H:Mm):Value->Mm->Prop:=fun u H'=>∃ x:Nat × List (Nat × Nat),(u= .map (some x.1)/\∀ q,q∈x.2↔q∈foF ns ps lv b)/\H'=(x.1,mapO encPr encBl (pset x.2))::H
theorem J5 {D:Sd}{v:Sv}{ns:Ns}(hst:StOk D v ns)(hS:(SM D v ns).Sublist H){ps:List (Nat × Nat)}(hps:∀ p∈ps,p.1<ns.length/\p.2<ns.length)(b2 b3 mp:Nat)(f2:Fnd H b2 (Cl [.map (some mp)] 191))(f3:Fnd H b3 (Cl [Pt (D.p) 0] 68))(fm:Fnd H mp (mapO encPr encBl (pset ps)))(lv:Nat)(b:Bool)(y:Int)(hy:y=b2i b):
  FSpec prog w0 135 #[Vi (lv:Nat),Vi y,Pt b2 0,Pt b3 0] H (FoK ns ps lv b H):=by
 refine Am func135 U ntmps135 U (rDt 7 U (e_ Dn ?_ U));rintro _ _ ⟨n10,rfl,rfl⟩;refine rOt 6 U (y_ (Om U isAgg191 (by first|exact c_o|exact Ae (Fnd.mono f2 sbt) 0 _ U)) ?_ U);refine e_ (eff_rangeMap (m:=mp) (l:=pset ps) (encK:=encPr) (encV:=encBl) (T U) (Fnd.mono fm sbt) runUnderlying191) ?_ U;rintro _ _ ⟨n12,rfl,rfl⟩;refine rOt 3 U ?_;refine A8 (X:=List Nat × List (Nat × Nat)) (V:=fun ⟨seen,qs⟩=>[]) (C:=[(0,_),(1,_),(3,_),(7,_),(12,_)]) (G:=fun ⟨seen,qs⟩=>(n12,itO mp (pset ps).length seen (pset ps).length)::(n10,mapO encPr encBl (pset qs))::H) (φ:=fun ⟨seen,qs⟩=>FoI ns ps lv b seen qs/\Seen (pset ps).length seen) (μ:=fun ⟨seen,qs⟩=>(pset ps).length - seen.length) (x0:=([],[])) ?_ (kg U) trivial sb0 ?_
 ·exact⟨foI_0,seen_0⟩
 rintro⟨seen,qs⟩ ⟨hfo,hsn⟩;refine rDt 2 U (e_ (eff_next (m:=mp) (l:=pset ps) (encK:=encPr) (encV:=encBl) (T U) (Fnd.mono fm sbt) (by repeat (first|exact Loc.h|apply Loc.t|apply Loc.a))) ?_ U);rintro _ _ (⟨i,⟨p,c⟩,hip,hni,rfl,rfl⟩|⟨hall,rfl,rfl⟩)
 ·refine rOt 4 U ?_;refine Cx (Aa U) ?_;refine rCt 5 U ?_;refine y_ (yl_entry (m:=mp) (l:=pset ps) (encK:=encPr) (encV:=encBl) (T U) (Fnd.mono fm sbt) fndq hip) ?_ U;have hil:=(List.getElem?_eq_some_iff.1 hip).1;have hpg:=pset_get hip;obtain⟨hp1,hp2⟩:=hps p (List.mem_of_getElem? hpg);obtain⟨hs2,hsl⟩:=hsn.next hni hil;refine rOt 1 U (e_ (Ag zeroValue190 cs_) ?_ U);rintro _ _ ⟨n8,rfl,rfl⟩;refine Bo (Oq U U sizeOf190) U Ad ?_;rintro _ _ ⟨rfl,rfl⟩;refine rOt 3 U (Bf 14 (plq13 [(13,false)]) ((n8,Cl [Vi (p.1:Nat),Vi (p.2:Nat)] 190)::H) mixd qkr sbt ?_ Bh);refine o_y U (Om U isAgg68 (by first|exact c_o|exact Ae (Fnd.mono f3 sbt) 0 _ U)) ?_ U Ad;refine rPt 1 U (o_y U (Om U isAgg3 qco) ?_ U Ad);refine rPt 2 U (o_y U (Ao (evq4 U U U U) call107 (fun H' hs=>Lh (D:=D) (v:=v) (ns:=ns) (List.Sublist.trans (List.Sublist.trans hS sbt) hs) hst p.1 lv b hp1 hy)) ?_ U Ad);refine o_y U (Om U isAgg68 (by first|exact c_o|exact Ae (Fnd.mono f3 sbt) 0 _ U)) ?_ U Ad;refine rPt 1 U (o_y U (Om U isAgg3 qco) ?_ U Ad);refine rPt 2 U (o_y U (Ao (evq4 U U U U) call107 (fun H' hs=>Lh (D:=D) (v:=v) (ns:=ns) (List.Sublist.trans (List.Sublist.trans hS sbt) hs) hst p.2 lv b hp2 hy)) ?_ U Ad);refine o_y U (A1 (.cons (T U) (.cons (T U) .nil)) (Hl)) (o_e U (Ag zeroValue190 cs_) ?_ U Ad) U Ad;rintro _ _ ⟨n9,rfl,rfl⟩;refine⟨sbt,(Av U ?_)⟩;refine Bo (Oq U U sizeOf190) U Ad ?_;rintro _ _ ⟨rfl,rfl⟩;refine rOt 5 U (y_ (Om U isAgg3 qco) ?_ U);refine rOt 1 U (y_ (Om U isAgg3 qco) ?_ U);refine kO tb 3 [0,1,3,7,9,12,34] rfl U ?_;refine jcd U (fun c34=> ?_) (fun c34=> ?_)
  ·have hne:ch ns p.1 lv b≠ch ns p.2 lv b:=fun e=>c34 (by show ((ch ns p.1 lv b:Nat):Int)=(ch ns p.2 lv b:Nat);rw[e])
   refine rCt 2 U (y_ (On U isAgg190 sizeOf190 U qcs) ?_ U);refine e_ (Cq (l:=pset qs) (encK:=encPr) (encV:=encBl) (ch ns p.1 lv b,ch ns p.2 lv b) true keyPr (T U) (T U) U Al U runUnderlying191) ?_ U;rintro _ _ ⟨rfl,rfl⟩;refine rOt 2 U ?_;refine Au ((seen++[i],padd qs (ch ns p.1 lv b,ch ns p.2 lv b))) ?_ ?_ trivial (kg U) ?_
   ·exact⟨hfo.yes hpg hne,hs2⟩
   ·show (pset ps).length - (seen++[i]).length<(pset ps).length - seen.length;rw[List.length_append,List.length_singleton];omega
   ·dsimp only;(rw[<- upsert_pset];exact sbt)
  ·have hne:ch ns p.1 lv b=ch ns p.2 lv b:=by have h9:((ch ns p.1 lv b:Nat):Int)=(ch ns p.2 lv b:Nat):=Classical.not_not.1 c34;omega
   refine rCt 2 U ?_;refine Au ((seen++[i],qs)) ?_ ?_ trivial (kg U) ?_
   ·exact⟨hfo.no hpg hne,hs2⟩
   ·show (pset ps).length - (seen++[i]).length<(pset ps).length - seen.length;rw[List.length_append,List.length_singleton];omega
   ·dsimp only;first|(rw[<- upsert_pset];exact sbt)|exact sbt
 ·refine rOt 4 U ?_;refine Ea (Aa U) ?_;refine rCt 2 U (An (rXt 9 U (Ai U (Ol U) ?_)));exact⟨_,⟨(n10,qs),⟨rfl,hfo.done hall⟩,rfl⟩,sbt⟩
theorem emp_ext {α:Type}{l l':List α}(h:∀ q,q∈l↔q∈l'):l.isEmpty=l'.isEmpty:=by
 cases l with
 |nil=>cases l' with
  |nil=>rfl
  |cons x l'=>exact absurd ((h x).2 (by simp)) (by simp)
 |cons x l=>cases l' with
  |nil=>exact absurd ((h x).1 (by simp)) (by simp)
  |cons y l'=>rfl
theorem Fy {ns:Ns}{l l':List (Nat × Nat)}(h:∀ q,q∈l↔q∈l')(lv:Nat)(v:Bool)(q:Nat × Nat):q∈foF ns l lv v↔q∈foF ns l' lv v:=by
 rw[fo_mem,fo_mem]
 constructor
 ·rintro⟨⟨p,h1,h2⟩,h3⟩;exact⟨⟨p,(h p).1 h1,h2⟩,h3⟩
 ·rintro⟨⟨p,h1,h2⟩,h3⟩;exact⟨⟨p,(h p).2 h1,h2⟩,h3⟩
theorem app_ext {α:Type}{a b a' b':List α}(h1:∀ q,q∈a↔q∈a')(h2:∀ q,q∈b↔q∈b')(q:α):q∈a++b↔q∈a'++b':=by rw[List.mem_append,List.mem_append,h1,h2]
theorem Mu {ns:Ns}:∀ (r k:Nat) {l l':List (Nat × Nat)},(∀ q,q∈l↔q∈l')->dfF ns r k l=dfF ns r k l'
 |0,_,_,_,_=>rfl
 |r+1,k,l,l',h=>by
  rw[dfF,dfF,emp_ext (Fy h (2*k) false)]
  split
  ·exact congrArg _ (Mu r (k+1) (app_ext (Fy (Fy h _ _) _ _) (Fy (Fy h _ _) _ _)))
  ·exact congrArg _ (Mu r (k+1) (app_ext (Fy (Fy h _ _) _ _) (Fy (Fy h _ _) _ _)))
theorem df_step {ns:Ns}{r k:Nat}{ps q q3 q4 ql:List (Nat × Nat)}{bt:Bool}(hb:bt=(foF ns ps (2*k) false).isEmpty)(h1:∀ y,y∈q↔y∈foF ns ps (2*k) bt)(h3:∀ y,y∈q3↔y∈foF ns q (2*k+1) false)(h4:∀ y,y∈q4↔y∈foF ns q (2*k+1) true)(hl:∀ y,y∈ql↔y∈q3\/y∈q4):dfF ns (r+1) k ps=bt::dfF ns r (k+1) ql:=by
 have e:∀ y,y∈foF ns (foF ns ps (2*k) bt) (2*k+1) false++foF ns (foF ns ps (2*k) bt) (2*k+1) true↔y∈ql:=fun y=>by
  rw[hl,h3,h4,List.mem_append,Fy h1,Fy h1]
 rw[dfF,<- hb];cases bt
 ·rw[if_neg (by simp)];exact congrArg (false:: ·) (Mu r (k+1) e)
 ·rw[if_pos rfl];exact congrArg (true:: ·) (Mu r (k+1) e)
theorem fo_lt {N:Nat}{ns:Ns}(hw:Wf N ns){ps q:List (Nat × Nat)}{lv:Nat}{b:Bool}(h:∀ p∈ps,p.1<ns.length/\p.2<ns.length)(hq:∀ y,y∈q↔y∈foF ns ps lv b):∀ p∈q,p.1<ns.length/\p.2<ns.length:=fun p hp=>by
 obtain⟨⟨p',h1,rfl⟩,_⟩:=fo_mem.1 ((hq p).1 hp);obtain⟨h2,h3⟩:=h p' h1;exact⟨Cc hw h2 _,Cc hw h3 _⟩
theorem gd_snoc {l:List Bool}{x:Bool}(j:Nat):gd (l++[x]) j=if j=l.length then x else gd l j:=by
 unfold gd List.getD
 by_cases h:j<l.length
 ·rw[if_neg qom,List.getElem?_append_left h]
 ·by_cases h2:j=l.length
  ·subst h2;simp
  ·rw[if_neg h2,List.getElem?_append_right qom,List.getElem?_eq_none (by simp;omega),List.getElem?_eq_none qom]
theorem gd_out {l:List Bool}{j:Nat}(h:l.length<=j):gd l j=false:=by unfold gd List.getD;rw[List.getElem?_eq_none h];rfl
theorem bh_0 (bs:List Nat):bhF bs []=hd0:=by
 refine C5 (Jc _) Ay fun b hb=> ?_
 unfold bhF;rw[Br _ hb,He,gd_out (Nat.zero_le _)];simp
theorem bh_f (bs:List Nat)(l:List Bool):bhF bs (l++[false])=bhF bs l:=by
 unfold bhF
 congr 1;funext b
 rw[gd_snoc]
 split
 ·rename_i h;rw[gd_out qom]
 ·rfl
theorem gd_idxOf {bs:List Nat}{b:Nat}(h:b∈bs):gd bs (bs.idxOf b)=b:=by
 rw[Ar (List.idxOf_lt_length_iff.2 h),List.getElem_idxOf]
theorem bs_idxOf {bs:List Nat}(hb:BsOk bs){k:Nat}(hk:k<bs.length):bs.idxOf (gd bs k)=k:=
 Jk hb (List.idxOf_lt_length_iff.2 (Ax hk)) hk (gd_idxOf (Ax hk))
theorem bh_t {bs:List Nat}(hb:BsOk bs){l:List Bool}(hl:l.length<bs.length):bhF bs (l++[true])=hput (bhF bs l) (gd bs l.length) true:=by
 refine C5 (Jc _) (Cm _ _ _) fun b h1=> ?_
 rw[Dq _ _ _ h1];unfold bhF;rw[Br _ h1,Br _ h1,gd_snoc]
 by_cases e:b=gd bs l.length
 ·subst e;rw[if_pos U,bs_idxOf hb hl,if_pos rfl];have:gd bs l.length∈bs:=Ax hl;simp[this]
 ·rw[if_neg e]
  by_cases h2:b∈bs
  ·rw[if_neg];intro h3;apply e;rw[<- h3];exact(gd_idxOf h2).symm
  ·simp[h2]
theorem up_in {q3 q4 ql:List (Nat × Nat)}{seen:List Nat}(h:∀ y,y∈ql↔y∈q3\/∃ i∈seen,q4[i]? =some y){i:Nat}{p:Nat × Nat}(hi:q4[i]? =some p)(y:Nat × Nat):y∈padd ql p↔y∈q3\/∃ j∈seen++[i],q4[j]? =some y:=by
 rw[padd_mem,h]
 constructor
 ·rintro((h1|⟨j,h1,h2⟩)|rfl)
  ·exact .inl h1
  ·exact .inr ⟨j,List.mem_append.2 (.inl h1),h2⟩
  ·exact .inr ⟨i,by simp,hi⟩
 ·rintro(h1|⟨j,h1,h2⟩)
  ·exact .inl (.inl h1)
  ·rcases List.mem_append.1 h1 with h1|h1
   ·exact .inl (.inr ⟨j,h1,h2⟩)
   ·simp at h1;subst h1;rw[hi] at h2;cases h2;exact .inr rfl
theorem up_done {q3 q4 ql:List (Nat × Nat)}{seen:List Nat}(h:∀ y,y∈ql↔y∈q3\/∃ i∈seen,q4[i]? =some y)(ha:∀ i,i<(pset q4).length->i∈seen)(y:Nat × Nat):y∈ql↔y∈q3\/y∈q4:=by
 rw[h]
 constructor
 ·rintro(h1|⟨i,_,h2⟩)
  ·exact .inl h1
  ·exact .inr (List.mem_of_getElem? h2)
 ·rintro(h1|h1)
  ·exact .inl h1
  ·obtain⟨i,hi,e⟩:=List.getElem_of_mem h1;exact .inr ⟨i,ha i (by rw[J4];exact hi),by rw[List.getElem?_eq_getElem hi,e]⟩
def dfH (ns:Ns) (bs:List Nat) (a b:Nat):Hd:=if a=b then hd0 else dhF ns bs a b
theorem differ_s {D:Sd}{v:Sv}{ns:Ns}(hst:StOk D v ns)(hbs:BsOk D.bs)(hS:(SM D v ns).Sublist H)(hB:Arr w0 H D.qb 1 encB1 D.bs)(a b:Nat)(ha:a<ns.length)(hb:b<ns.length):
  FSpec prog w0 90 #[Pt (D.p) 0,Vi (a:Nat),Vi (b:Nat)] H (Still (.tuple #[.agg (hdC (dfH ns D.bs a b)).toArray, .bool (decide (a≠b))]) H):=by
 refine Am func90 U ntmps90 U ?_;have hw:=hst.w;have hbl:=hst.bl;refine rDt 2 U (e_ (Ot U cs_) ?_ U);rintro _ _ ⟨n3,rfl,rfl⟩;refine e_ (Ag zeroValue32 cs_) ?_ U;rintro _ _ ⟨n6,rfl,rfl⟩;refine rOt 11 U ?_;refine jcd U (fun c19=> ?_) (fun c19=> ?_)
 ·obtain rfl:a=b:=by have h9:((a:Nat):Int)=(b:Nat):=c19;omega
  have hdd:dfH ns D.bs a a=hd0:=if_pos U;refine rCt 2 U (y_ (A1 .nil (zbd30_z)) (e_ (Oq U U sizeOf32) ?_ U) U);rintro _ _ ⟨rfl,rfl⟩;refine rOt 5 U (Ai U (.cellA (Aa U) isAgg32 sizeOf32 (Af Ay) qcs (Ol U)) ?_);exact⟨_,⟨by rw[hdd];show Value.tuple #[_, .bool false]=_;rw[decide_eq_false (fun h9=>h9 U)],rfl⟩,sbt⟩
 ·have hne: ¬ a=b:=fun e=>c19 (by rw[e])
  have hdd:dfH ns D.bs a b=dhF ns D.bs a b:=if_neg hne;refine rCt 4 U (e_ (Ag zeroValue32 cs_) ?_ U);rintro _ _ ⟨n8,rfl,rfl⟩;refine rOt 4 U (e_ Dn ?_ U);rintro _ _ ⟨n21,rfl,rfl⟩;refine rOt 2 U (y_ (A1 (.cons (T U) (.cons (T U) .nil)) (Hl)) (e_ (eff_insert (encK:=encPr) (encV:=encBl) (l:=([]:List ((Nat × Nat) × Bool))) (a,b) true keyPr (T U) (T U) U Al U runUnderlying191) ?_ U) U);rintro _ _ ⟨rfl,rfl⟩;refine rOt 1 U (e_ (Ag zeroValue191 cs_) ?_ U);rintro _ _ ⟨n9,rfl,rfl⟩;refine Bo (Oq U U sizeOf191) U Ad ?_;rintro _ _ ⟨rfl,rfl⟩;refine rOt 4 U (y_ (Bn (.cons (T U) (.cons (T U) .nil))) (rOt 6 U (y_ (Om U isAgg68 qco) ?_ U)) U);refine rOt 2 U (y_ (Om U isAgg109 (by first|exact c_o|exact Hh (List.Sublist.trans hS sbt) U)) ?_ U);refine rOt 5 U ?_;refine A8 (X:=Nat × List Bool × Nat × List (Nat × Nat)) (V:=fun ⟨k,bl,mp,ps⟩=>[(32,Vi (k:Nat))]) (C:=[(6,_),(8,_),(9,_),(10,_),(30,_),(31,_)]) (G:=fun ⟨k,bl,mp,ps⟩=>(n9,Cl [.map (some mp)] 191)::(mp,mapO encPr encBl (pset ps))::(n8,Cl (hdC (bhF D.bs bl)) 32)::(n6,Cl (hdC hd0) 32)::(n3,Cl [Pt (D.p) 0] 68)::H) (φ:=fun ⟨k,bl,mp,ps⟩=>k<=D.bs.length/\bl.length=k/\bl++dfF ns (D.bs.length - k) k ps=dfF ns D.bs.length 0 [(a,b)]/\(∀ p∈ps,p.1<ns.length/\p.2<ns.length)) (μ:=fun ⟨k,bl,mp,ps⟩=>D.bs.length - k) (x0:=(0,[],n21,[(a,b)])) ?_ (kg U) qkg (by dsimp only;rw[bh_0];exact sbt) ?_
  ·exact⟨Nat.zero_le _,rfl,rfl,fun p hp=>by simp at hp;subst hp;exact⟨ha,hb⟩⟩
  rintro⟨k,bl,mp,ps⟩ ⟨hk,hbk,hdf,hps⟩;refine rDt 6 U ?_;refine jcd U (fun c33=> ?_) (fun c33=> ?_)
  ·have hk2:k<D.bs.length:=Int.ofNat_lt.1 c33;refine rCt 7 U (y_ (Oo U U runUnderlying109 sizeOf3 qom (by first|exact rfl|exact(hB k _ (Cy hk2)).1)) ?_ U);refine y_ (Om U isAgg3 (by first|exact c_o|exact(hB.mono sbt).cs (i:=k) hk2 0 _ U)) ?_ U;refine rOt 8 U (y_ (Hm Al (T U) (show k<=_ by omega)) ?_ U);refine e_ (B8 (T U) (.cons (T U) (.cons Al .nil)) call135 (J5 hst (List.Sublist.trans hS sbt) hps n9 n3 mp fndq fndq fndq (2*k) false 0 U)) ?_ U;rintro _ _ ⟨⟨m1,q1⟩,⟨rfl,hq1⟩,rfl⟩
   dsimp only at hq1
   refine rOt 3 U ?_;refine Em (X:=Nat × List (Nat × Nat) × Bool) (V:=fun ⟨m,q,bt⟩=>[(13, .map (some m))]) (C:=[(6,_),(8,_),(9,_),(10,_),(11,_),(30,_),(31,_),(32,_)]) (G:=fun ⟨m,q,bt⟩=>(m,mapO encPr encBl (pset q))::(n9,Cl [.map (some mp)] 191)::(n8,Cl (hdC (bhF D.bs (bl++[bt]))) 32)::(n6,Cl (hdC hd0) 32)::(n3,Cl [Pt (D.p) 0] 68)::H) (φ:=fun ⟨m,q,bt⟩=>(∀ y,y∈q↔y∈foF ns ps (2*k) bt)/\bt=(foF ns ps (2*k) false).isEmpty) (kg U) ?_ ?_
   ·refine rDt 3 U ?_;refine y_ (yl_lenM (l:=pset q1) (encK:=encPr) (encV:=encBl) (T U) runUnderlying191 fndq) ?_ U;refine rOt 3 U ?_;refine jcd U (fun c43=> ?_) (fun c43=> ?_)
    ·have hem:(foF ns ps (2*k) false).isEmpty=true:=by
      rw[<- emp_ext hq1];have h9:((pset q1).length:Int)=0:=c43;rw[J4] at h9;simp only[List.isEmpty_iff];exact List.length_eq_zero_iff.1 qom
     refine Bf 8 [(0,true),(1,true),(2,true),(4,true),(5,true),(3,false),(6,true),(7,true)] ((n8,Cl (hdC (bhF D.bs bl)) 32)::H) mixd qkr sbt ?_ Bh;refine rPt 2 U (o_y U (Hm Al (T U) (show k<=_ by omega)) (o_y U (On U isAgg32 sizeOf32 (Af (Jc _)) qcs) ?_ U Ad) U Ad);refine rPt 1 U ?_;refine o_e U (B8 (T U) (.cons (T U) (.cons Al .nil)) call135 (J5 hst (List.Sublist.trans hS sbt) hps n9 n3 mp fndq fndq fndq (2*k) true 1 U)) ?_ U Ad;rintro _ _ ⟨⟨m2,q2⟩,⟨rfl,hq2⟩,rfl⟩
     dsimp only at hq2
     refine⟨sbt,(o_y U (Ao (.cons (T U) (.cons (T U) (.cons Al .nil))) call100 (fun H' hs=>Nn (bhF D.bs bl) (Jc bl) (gd D.bs k) (Ek hbs hk2) true (x:=1) U)) (rPt 1 U (Av U (e_ (Oq U U sizeOf32 .agg (Bc _) (Af (Cm _ _ _)) updq ((Af (Jc _)).trans (Af (Cm _ _ _)).symm)) ?_ U))) U Ad)⟩;rintro _ _ ⟨rfl,rfl⟩;refine rOt 1 U ?_;refine Be ((m2,q2,true)) ?_ qkg (kg U) (by dsimp only;first|(rw[bh_f];exact sbt)|(rw[bh_t hbs qom,hbk];exact sbt));exact⟨by assumption,hem.symm⟩
    ·have hem:(foF ns ps (2*k) false).isEmpty=false:=by
      rw[<- emp_ext hq1];have h9: ¬ ((pset q1).length:Int)=0:=c43;rw[J4] at h9;cases q1 with
      |nil=>exact absurd rfl h9
      |cons x l=>rfl
     refine rCt 1 U ?_;refine Be ((m1,q1,false)) ?_ qkg (kg U) (by dsimp only;(rw[bh_f];exact sbt));exact⟨by assumption,hem.symm⟩
   rintro⟨m,q,bt⟩ ⟨hq,hbt⟩;have hqs:=fo_lt hw hps hq;refine rCt 3 U ?_;refine Bo (Oq U U sizeOf191) U Ad ?_;rintro _ _ ⟨rfl,rfl⟩;refine rOt 6 U (y_ (Hm Al (T U) (show k<=_ by omega)) (y_ (Cw (c:=1) (T U) Al qom) ?_ U) U);refine e_ (B8 (T U) (.cons (T U) (.cons Al .nil)) call135 (J5 hst (List.Sublist.trans hS sbt) hqs n9 n3 m fndq fndq fndq (2*k+1) false 0 U)) ?_ U;rintro _ _ ⟨⟨m3,q3⟩,⟨rfl,hq3⟩,rfl⟩
   dsimp only at hq3
   refine rOt 2 U (y_ (Hm Al (T U) (show k<=_ by omega)) (y_ (Cw (c:=1) (T U) Al qom) ?_ U) U);refine e_ (B8 (T U) (.cons (T U) (.cons Al .nil)) call135 (J5 hst (List.Sublist.trans hS sbt) hqs n9 n3 m fndq fndq fndq (2*k+1) true 1 U)) ?_ U;rintro _ _ ⟨⟨m4,q4⟩,⟨rfl,hq4⟩,rfl⟩
   dsimp only at hq4
   refine rOt 8 U ?_;refine e_ (eff_rangeMap (m:=m4) (l:=pset q4) (encK:=encPr) (encV:=encBl) (T U) fndq runUnderlying191) ?_ U;rintro _ _ ⟨n63,rfl,rfl⟩;refine rOt 3 U ?_;refine A8 (X:=List Nat × List (Nat × Nat)) (V:=fun ⟨seen,ql⟩=>[]) (C:=[(6,_),(8,_),(9,_),(10,_),(14,_),(30,_),(31,_),(32,_),(63,_)]) (G:=fun ⟨seen,ql⟩=>(n63,itO m4 (pset q4).length seen (pset q4).length)::(m4,mapO encPr encBl (pset q4))::(m3,mapO encPr encBl (pset ql))::(n9,Cl [.map (some m)] 191)::(n8,Cl (hdC (bhF D.bs (bl++[bt]))) 32)::(n6,Cl (hdC hd0) 32)::(n3,Cl [Pt (D.p) 0] 68)::H) (φ:=fun ⟨seen,ql⟩=>(∀ y,y∈ql↔y∈q3\/∃ i∈seen,q4[i]? =some y)/\Seen (pset q4).length seen) (μ:=fun ⟨seen,ql⟩=>(pset q4).length - seen.length) (x0:=([],q3)) ?_ (kg U) trivial sbt ?_
   ·exact⟨fun y=>by simp,seen_0⟩
   rintro⟨seen,ql⟩ ⟨hql,hsn⟩;refine rDt 2 U ?_;refine e_ (eff_next (m:=m4) (l:=pset q4) (encK:=encPr) (encV:=encBl) (T U) fndq (by repeat (first|exact Loc.h|apply Loc.t|apply Loc.a))) ?_ U;rintro _ _ (⟨i,⟨p,c⟩,hip,hni,rfl,rfl⟩|⟨hall,rfl,rfl⟩)
   ·refine rOt 4 U ?_;refine Cx (Aa U) ?_;refine rCt 5 U ?_;refine y_ (yl_entry (m:=m4) (l:=pset q4) (encK:=encPr) (encV:=encBl) (T U) fndq fndq hip) ?_ U;have hil:=(List.getElem?_eq_some_iff.1 hip).1;have hpg:=pset_get hip;obtain⟨hs2,hsl⟩:=hsn.next hni hil;refine rOt 1 U (e_ (Ag zeroValue190 cs_) ?_ U);rintro _ _ ⟨n16,rfl,rfl⟩;refine Bo (Oq U U sizeOf190) U Ad ?_;rintro _ _ ⟨rfl,rfl⟩;refine rOt 4 U (y_ (On U isAgg190 sizeOf190 U qcs) ?_ U);refine e_ (Cq (l:=pset ql) (encK:=encPr) (encV:=encBl) p true keyPr (T U) (T U) U Al U runUnderlying191) ?_ U;rintro _ _ ⟨rfl,rfl⟩;refine rOt 2 U ?_;refine Au ((seen++[i],padd ql p)) ?_ ?_ trivial (kg U) ?_
    ·exact⟨up_in hql hpg,hs2⟩
    ·show (pset q4).length - (seen++[i]).length<(pset q4).length - seen.length;rw[List.length_append,List.length_singleton];omega
    ·dsimp only;rw[<- upsert_pset];exact sbt
   ·refine rOt 4 U ?_;refine Ea (Aa U) ?_;refine rCt 2 U (An (rXt 4 U ?_));refine Bo (Oq U U sizeOf191) U Ad ?_;rintro _ _ ⟨rfl,rfl⟩;refine rOt 4 U (y_ (Aw (T U) Al qom) ?_ U);refine rOt 2 U (jq_perm (((List.Perm.swap _ _ _).cons _).cons _) ?_);refine Au ((k+1,bl++[bt],m3,ql)) ?_ ?_ qkg (kg U) ?_
    ·have hqd:=up_done hql hall;have hds:=df_step (r:=D.bs.length - (k+1)) hbt hq hq3 hq4 hqd;rw[show D.bs.length - (k+1)+1=D.bs.length - k by omega] at hds;rw[hds] at hdf;exact⟨hk2,by rw[List.length_append,hbk];rfl,by rw[<- hdf];simp,fun p hp=>by
      rcases(hqd p).1 hp with h9|h9
      ·exact fo_lt hw hqs hq3 p h9
      ·exact fo_lt hw hqs hq4 p h9⟩
    ·first|omega|(simp only[];omega)
    ·exact sbt
  ·obtain rfl:k=D.bs.length:=by have h9: ¬ ((k:Nat):Int)<(D.bs.length:Nat):=c33;omega
   have hfin:bl=dfF ns D.bs.length 0 [(a,b)]:=by rw[<- hdf,Nat.sub_self];simp[dfF]
   refine rCt 2 U (An (rXt 4 U (y_ (On U isAgg32 sizeOf32 (Af (Jc _)) qcs) ?_ U)));refine e_ (Oq U U sizeOf32 .agg (Bc _) (Af (Jc _)) updq ((Af Ay).trans (Af (Jc _)).symm)) ?_ U;rintro _ _ ⟨rfl,rfl⟩;refine rOt 4 U (Ai U (.cellA (Aa U) isAgg32 sizeOf32 (Af (Jc _)) qcs (Ol U)) ?_);exact⟨_,⟨by rw[hdd,decide_eq_true hne];unfold dhF;rw[<- hfin];rfl,rfl⟩,sbt⟩
def cmpI (a b:Int):Int:=if a<b then -1 else if b<a then 1 else 0
def orI (l:List Int):Int:=(l.find? fun x=>decide (¬ x=0)).getD 0
theorem orI_none:∀ {l:List Int},(∀ j,j<l.length->gd l j=0)->orI l=0
 |[],_=>rfl
 |x::l,h=>by
  have h0:x=0:=h 0 (by simp);have:=orI_none (l:=l) (fun j hj=>h (j+1) (by simpa using hj));unfold orI at *;rw[List.find?_cons];simp[h0];simpa using this
theorem orI_some:∀ {l:List Int} {i:Nat},i<l.length->(∀ j,j<i->gd l j=0)->¬ gd l i=0->orI l=gd l i
 |x::l,0,_,_,h=>by
  have: ¬ x=0:=h;show orI (x::l)=x;unfold orI;rw[List.find?_cons];simp[this]
 |x::l,i+1,hi,h,h2=>by
  have h0:x=0:=h 0 qom;have:=orI_some (l:=l) (i:=i) (by simpa using hi) (fun j hj=>h (j+1) qom) h2;rw[show gd (x::l) (i+1)=gd l i from rfl];unfold orI at *;rw[List.find?_cons];simp[h0];simpa using this
theorem orI_two (x y:Int):orI [x,y]=if ¬ x=0 then x else y:=by
 unfold orI;rw[List.find?_cons,List.find?_cons]
 by_cases h:x=0
 ·by_cases h2:y=0<;>simp[h,h2]
 ·simp[h]
theorem cell1 {b o:Nat}{v:Value}(h:Cells w0 H b o [v]):Cell w0 H ⟨b,o,none⟩ v:=h 0 v U
theorem nanI_s (a:Int):
  FSpec prog w0 218 #[.int .i64 a] H (Still (.bool false) H):=by
 refine Am func218 U ntmps218 U (rD tb 14 U (Ai U (Ol U) ?_));exact⟨_,⟨vbool (by simp),rfl⟩,sbt⟩
theorem cmpI_s (a b:Int):
  FSpec prog w0 185 #[.int .i64 a, .int .i64 b] H (Still (.int .i64 (cmpI a b)) H):=by
 refine Am func185 U ntmps185 U (rD tb 8 U (y_ (Ao (qe1 U) call218 (fun H' hs=>nanI_s _)) (rO tb 6 U (y_ (Ao (qe1 U) call218 (fun H' hs=>nanI_s _)) (rO tb 29 U ?_) U)) U));refine jcd U (fun c16=> ?_) (fun c16=> ?_)
 ·refine rC tb 7 U (Ai U (Ol U) (⟨_,⟨vint ?_,rfl⟩,sbt⟩));unfold cmpI
  (rw[if_pos c16])
 ·refine rC tb 10 U ?_;refine jcd U (fun c19=> ?_) (fun c19=> ?_)
  ·refine rC tb 7 U (Ai U (Ol U) (⟨_,⟨vint ?_,rfl⟩,sbt⟩));unfold cmpI
   first|(rw[if_pos c16])|(rw[if_neg c16,if_pos qom])
  ·refine rC tb 8 U (Ai U (Ol U) (⟨_,⟨vint ?_,rfl⟩,sbt⟩));unfold cmpI
   first|(rw[if_pos c16])|(rw[if_neg c16,if_pos qom])|(rw[if_neg c16,if_neg qom])
theorem orI_s (l:List Int)(q:Option Addr)(c:Nat)(hA:Arr w0 H q 1 encI l)(hlen:l.length<=1000000):
  FSpec prog w0 104 #[.slice q l.length c] H (Still (.int .i64 (orI l)) H):=by
 refine Am func104 U ntmps104 U (rD tb 19 U ?_);refine Ij (X:=Nat) (V:=fun i=>[(8, .int .i64 (i:Nat))]) (C:=[(3,_),(6,_),(7,_)]) (φ:=fun i=>i<=l.length/\∀ j,j<i->gd l j=0) (μ:=fun i=>l.length - i) (x0:=0) ?_ (kg U) qkg ?_
 ·exact⟨Nat.zero_le _,fun j hj=>absurd hj (Nat.not_lt_zero _)⟩
 rintro i ⟨hi,hz⟩;refine rD tb 6 U ?_;refine jcd U (fun c9=> ?_) (fun c9=> ?_)
 ·refine rC tb 6 U (y_ (Oo U U runUnderlying109 sizeOf3 qom (by first|exact rfl|exact hA.b (i:=i) qom)) ?_ U);refine y_ (Om U isAgg3 (by first|exact c_o|exact cell1 ((hA.mono sbt).cs (i:=i) qom))) ?_ U;refine rO tb 10 U ?_;refine jcd U (fun c14=> ?_) (fun c14=> ?_)
  ·refine rC tb 9 U (Bg (rX tb 2 U (Ai U (Ol U) ?_)));exact⟨_,⟨vint (by rw[orI_some qom hz qom]),rfl⟩,sbt⟩
  ·refine rC tb 4 U (y_ (Aw (T U) Al qom) ?_ U);refine rO tb 2 U ?_;refine Au (i+1) ?_ ?_ qkg (kg U) ?_
   ·refine⟨by omega,fun j hj=> ?_⟩
    by_cases e:j=i
    ·subst e;omega
    ·exact hz j qom
   ·omega
   ·exact sbt
 ·refine rC tb 2 U (An (rX tb 9 U (Ai U (Ol U) ?_)));exact⟨_,⟨vint (by rw[orI_none (fun j hj=>hz j qom)]),rfl⟩,sbt⟩
theorem arr2 {n:Nat}{a b:Int}{t:TypeId}(hf:Fnd H n (Cl [.int .i64 a, .int .i64 b] t)):Arr w0 H (some ⟨n,0,none⟩) 1 encI [a,b]:=fun i x hi=>by
 refine⟨rfl,fun j v hj=> ?_⟩
 match i,hi with
 |0,hi=>
  have:a=x:=by simpa using hi
  subst this
  match j,hj with
  |0,hj=>
   have:Value.int .i64 a=v:=by simpa using hj
   subst this;exact Eb hf U
 |1,hi=>
  have:b=x:=by simpa using hi
  subst this
  match j,hj with
  |0,hj=>
   have:Value.int .i64 b=v:=by simpa using hj
   subst this;exact Eb hf U
def cmpL:List Nat->List Nat->Int
 |[],[]=>0
 |[],_::_=> -1
 |_::_,[]=>1
 |a::l,b::m=>if cmpI (a:Int) (b:Int)=0 then cmpL l m else cmpI (a:Int) (b:Int)
theorem cmpL_drop {a b:List Nat}{k:Nat}(h1:k<a.length)(h2:k<b.length):cmpL (a.drop k) (b.drop k)=if cmpI (gd a k:Nat) (gd b k:Nat)=0 then cmpL (a.drop (k+1)) (b.drop (k+1)) else cmpI (gd a k:Nat) (gd b k:Nat):=by
 rw[List.drop_eq_getElem_cons h1,List.drop_eq_getElem_cons h2,cmpL,Ar h1,Ar h2]
theorem cmpI_iff (a b:Int):(cmpI a b<0↔a<b)/\(cmpI a b=0↔a=b)/\(0<cmpI a b↔b<a):=by
 unfold cmpI
 split
 ·omega
 ·split<;>omega
theorem cmpL_eq:∀ {a b:List Nat},a.length=b.length->(cmpL a b=0↔a=b)
 |[],[],_=>by simp[cmpL]
 |a::l,b::m,h=>by
  have ih:=cmpL_eq (a:=l) (b:=m) (by simpa using h);have:=cmpI_iff (a:Int) (b:Int);rw[cmpL]
  split
  ·rw[ih];simp;omega
  ·constructor
   ·intro e;omega
   ·intro e;simp at e;omega
theorem cmpL_flip:∀ {a b:List Nat},a.length=b.length->cmpL b a= -cmpL a b
 |[],[],_=>rfl
 |a::l,b::m,h=>by
  have ih:=cmpL_flip (a:=l) (b:=m) (by simpa using h);have e:cmpI (b:Int) (a:Int)= -cmpI (a:Int) (b:Int):=by
   unfold cmpI
   split<;>split<;>omega
  rw[cmpL,cmpL,e,ih]
  split<;>split<;>omega
theorem cmpL_lt:∀ {a b:List Nat},a.length=b.length->(cmpL a b<0↔∃ k,k<a.length/\(∀ j,j<k->gd a j=gd b j)/\gd a k<gd b k)
 |[],[],_=>by simp[cmpL]
 |a::l,b::m,h=>by
  have ih:=cmpL_lt (a:=l) (b:=m) (by simpa using h);have hc:=cmpI_iff (a:Int) (b:Int);rw[cmpL]
  split
  ·rename_i h0;have hab:a=b:=by omega
   subst hab;rw[ih]
   constructor
   ·rintro⟨k,h1,h2,h3⟩;refine⟨k+1,by simpa using h1,fun j hj=> ?_,h3⟩;cases j with
    |zero=>rfl
    |succ j=>exact h2 j qom
   ·rintro⟨k,h1,h2,h3⟩;cases k with
    |zero=>exact absurd h3 (Nat.lt_irrefl _)
    |succ k=>exact⟨k,by simpa using h1,fun j hj=>h2 (j+1) qom,h3⟩
  ·rename_i h0
   constructor
   ·intro h1;exact⟨0,by simp,fun j hj=>by omega,show a<b by omega⟩
   ·rintro⟨k,h1,h2,h3⟩;cases k with
    |zero=>have:a<b:=h3;omega
    |succ k=>have:a=b:=h2 0 qom;omega
theorem word_lt:∀ {a b:Nat},a<65536->b<65536->a<b->∃ i,i<16/\(a.testBit i=false/\b.testBit i=true)/\∀ j,i<j->j<16->a.testBit j=b.testBit j:=fun {a b} ha hb h=>by
 have key:∀ k,k<=16->(∀ j,k<=j->j<16->a.testBit j=b.testBit j)->∃ i,i<16/\(a.testBit i=false/\b.testBit i=true)/\∀ j,i<j->j<16->a.testBit j=b.testBit j:=by
  intro k
  induction k with
  |zero=>
   intro _ hj;exact absurd (word_ext ha hb fun i hi=>hj i (Nat.zero_le _) hi) qom
  |succ k ih=>
   intro hk hj;cases e1:a.testBit k<;>cases e2:b.testBit k
   ·exact ih qom fun j h1 h2=>by
     by_cases e:j=k
     ·subst e;rw[e1,e2]
     ·exact hj j qom h2
   ·exact⟨k,by omega,⟨e1,e2⟩,fun j h1 h2=>hj j qom h2⟩
   ·exfalso;have hd:a / 2 ^ (k+1)=b / 2 ^ (k+1):=div_bits.2 fun i hi=>by
     by_cases h2:i<16
     ·exact hj i hi h2
     ·rw[Nat.testBit_lt_two_pow (Nat.lt_of_lt_of_le ha (show 65536<=2 ^ i from by have:=Nat.pow_le_pow_right (n:=2) qom (show 16<=i by omega);omega)),Nat.testBit_lt_two_pow (Nat.lt_of_lt_of_le hb (show 65536<=2 ^ i from by have:=Nat.pow_le_pow_right (n:=2) qom (show 16<=i by omega);omega))]
    have h3:a / 2 ^ k % 2=1:=by rw[Nat.testBit_eq_decide_div_mod_eq] at e1;simpa using e1
    have h4: ¬ b / 2 ^ k % 2=1:=by rw[Nat.testBit_eq_decide_div_mod_eq] at e2;simpa using e2
    have h5:a / 2 ^ k<=b / 2 ^ k:=Nat.div_le_div_right qom;have h6:a / 2 ^ k / 2=b / 2 ^ k / 2:=by rw[Nat.div_div_eq_div_mul,Nat.div_div_eq_div_mul,<- Nat.pow_succ];exact hd
    omega
   ·exact ih qom fun j h1 h2=>by
     by_cases e:j=k
     ·subst e;rw[e1,e2]
     ·exact hj j qom h2
 exact key 16 (Nat.le_refl _) fun j h1 h2=>by omega
theorem Ex {a b:Hd}(ha:HdOk a)(hb:HdOk b):cmpL a b<0↔hLt a b:=by
 rw[cmpL_lt (by rw[ha.len,hb.len])]
 constructor
 ·rintro⟨k,h1,h2,h3⟩;rw[ha.len] at h1;obtain⟨i,h4,h5,h6⟩:=word_lt (Cp ha k) (Cp hb k) h3;refine⟨16*k+(15 - i),by omega,fun j hj=> ?_,?_,?_⟩
  ·unfold hbit
   by_cases e:j / 16=k
   ·rw[e];exact h6 _ qom qom
   ·rw[h2 (j / 16) qom]
  ·unfold hbit;rw[show (16*k+(15 - i)) / 16=k by omega,show 15 - (16*k+(15 - i)) % 16=i by omega];exact h5.1
  ·unfold hbit;rw[show (16*k+(15 - i)) / 16=k by omega,show 15 - (16*k+(15 - i)) % 16=i by omega];exact h5.2
 ·rintro⟨c,h1,h2,h3,h4⟩;have hw:∀ j,j<c / 16->gd a j=gd b j:=fun j hj=>word_ext (Cp ha j) (Cp hb j) fun i hi=>by
   have:=h2 (16*j+(15 - i)) qom;unfold hbit at this
   rwa [show (16*j+(15 - i)) / 16=j by omega,show 15 - (16*j+(15 - i)) % 16=i by omega] at this
  refine⟨c / 16,by rw[ha.len];omega,hw,?_⟩;rcases Nat.lt_trichotomy (gd a (c / 16)) (gd b (c / 16)) with h|h|h
  ·exact h
  ·unfold hbit at h3 h4;rw[h,h4] at h3;cases h3
  ·exfalso;obtain⟨i,h5,h6,h7⟩:=word_lt (Cp hb _) (Cp ha _) h;unfold hbit at h3 h4
   by_cases e:i<15 - c % 16
   ·rw[h7 _ qom qom,h3] at h4;cases h4
   ·by_cases e2:i=15 - c % 16
    ·subst e2;rw[h6.2] at h3;cases h3
    ·have:=h2 (16*(c / 16)+(15 - i)) qom;unfold hbit at this;rw[show (16*(c / 16)+(15 - i)) / 16=c / 16 by omega,show 15 - (16*(c / 16)+(15 - i)) % 16=i by omega,h6.1,h6.2] at this;cases this
section
variable {P:Program} {w0:World} {L:Fm} {ty t:TypeId} {H:Mm} {x y z:Operand}
theorem yl_sliceA {e:TypeId}{n b sz:Nat}(hx:Ev L x (.pointer (some ⟨b,0,none⟩)))(ht:∀ w,(underlying t).run P w= .ok (.array n e) w)(hs:∀ w,(sizeOf e).run P w= .ok sz w):
  Yl P w0 (.slice t x none none none) ty L H (.slice (some ⟨b,0,none⟩) n n):=Bk U fun b w=>by
 simp[exO,execOp,Instr.sliceAt,Instr.sureAddr,Instr.sliceBounds,Instr.sliceBound,asIntOf,hx b,ht,hs,Sem.run_bind,Result.andThen,Addr.add]
end
theorem Ke3 {a0 a1:Int}(w:World):(Instr.buildSlice 109 2 #[(0,Vi a0),(1,Vi a1)]).run prog w= .ok (.slice (some ⟨w.heap.size,0,none⟩) 2 2) (w.alloc (Cl [Vi a0,Vi a1] 3)):=by kernel_rfl
theorem hd_arr {n:Nat}{a:Hd}(hc:Cells w0 H n 0 (hdC a)):Arr w0 H (some ⟨n,0,none⟩) 1 encB1 a:=fun i u hi=>by
 refine⟨rfl,fun j v hj=> ?_⟩;have hil:=(List.getElem?_eq_some_iff.1 hi).1;have h:=hc i _ (hdC_nth hil);have e:j=0:=by
  have:=(List.getElem?_eq_some_iff.1 hj).1
  simpa using this
 subst e;obtain rfl:Value.int .i64 (u:Nat)=v:=by simpa using hj
 rw[show gd a i=u by rw[Ar hil];exact(List.getElem?_eq_some_iff.1 hi).2] at h;show Cell w0 H ⟨n,0+i*1+0,none⟩ _;rw[show 0+i*1+0=0+i by omega];exact h
def cmpM (m n:Md):Int:=if ¬ cmpL m.1 n.1=0 then cmpL m.1 n.1 else cmpL m.2 n.2
theorem cmpL_s (a b:List Nat)(n:Nat)(ha:a.length=n)(hb:b.length=n)(hn:n<=1000000)(qa qb:Option Addr)(ca cb:Nat)(hA:Arr w0 H qa 1 encB1 a)(hB:Arr w0 H qb 1 encB1 b):
  FSpec prog w0 148 #[.slice qa n ca, .slice qb n cb] H (Still (Vi (cmpL a b)) H):=by
 refine Am func148 U ntmps148 U (rDt 14 U ?_);refine Ij (X:=Nat) (V:=fun i=>[(11,Vi (i:Nat))]) (C:=[(0,_),(1,_),(9,_),(10,_)]) (φ:=fun i=>i<=n/\cmpL a b=cmpL (a.drop i) (b.drop i)) (μ:=fun i=>n - i) (x0:=0) ?_ (kg U) qkg ?_
 ·exact⟨Nat.zero_le _,rfl⟩
 rintro i ⟨hi,hz⟩;refine rDt 6 U ?_;refine jcd U (fun c12=> ?_) (fun c12=> ?_)
 ·refine rCt 7 U (y_ (Oo U U runUnderlying109 sizeOf3 qom (by first|exact rfl|exact hA.b (i:=i) qom)) ?_ U);refine y_ (Om U isAgg3 (by first|exact c_o|exact cell1 ((hA.mono sbt).cs (i:=i) qom))) ?_ U;refine rOt 13 U ?_;refine jcd U (fun c19=> ?_) (fun c19=> ?_)
  ·exfalso;have h9:((i:Nat):Int)>=(n:Nat):=c19;omega
  ·refine rCt 6 U (y_ (Oo U U runUnderlying109 sizeOf3 qom (by first|exact rfl|exact hA.b (i:=i) qom|exact hB.b (i:=i) qom)) ?_ U);refine y_ (Om U isAgg3 (by first|exact c_o|exact cell1 ((hB.mono sbt).cs (i:=i) qom))) ?_ U;refine rOt 7 U (y_ (Ao (evq2 U U) call185 (fun H' hs=>cmpI_s _ _)) (rOt 9 U ?_) U);refine jcd U (fun c28=> ?_) (fun c28=> ?_)
   ·have he: ¬ cmpI (gd a i:Nat) (gd b i:Nat)=0:=c28;refine rCt 9 U (Bg (rXt 2 U (Ai U (Ol U) ?_)));exact⟨_,⟨vint (by rw[hz,cmpL_drop qom qom,if_neg he]),rfl⟩,sbt⟩
   ·have he:cmpI (gd a i:Nat) (gd b i:Nat)=0:=by have h9: ¬ ¬ cmpI (gd a i:Nat) (gd b i:Nat)=0:=c28;omega
    refine rCt 4 U (y_ (Aw (T U) Al qom) ?_ U);refine rOt 2 U ?_;refine Au (i+1) ?_ ?_ qkg (kg U) ?_
    ·refine⟨by omega,?_⟩;rw[hz,cmpL_drop qom qom,if_pos he]
    ·omega
    ·exact sbt
 ·refine rCt 2 U (An (rXt 12 U ?_));refine jcd U (fun c35=> ?_) (fun c35=> ?_)
  ·exfalso;have h9:((n:Nat):Int)<(n:Nat):=c35;omega
  ·refine rCt 8 U (Ai U (Ol U) ?_);exact⟨_,⟨vint (by rw[hz,List.drop_of_length_le qom,List.drop_of_length_le qom];rfl),rfl⟩,sbt⟩
theorem cmpHd_s (a b:Hd)(ha:HdOk a)(hb:HdOk b):
  FSpec prog w0 105 #[.agg (hdC a).toArray, .agg (hdC b).toArray] H (Still (Vi (cmpL a b)) H):=by
 refine Am func105 U ntmps105 U (rDt 2 U (e_ (Ot U cs_) ?_ U));rintro _ _ ⟨n2,rfl,rfl⟩;refine e_ (Ot U cs_) ?_ U;rintro _ _ ⟨n3,rfl,rfl⟩;refine rOt 4 U (Bf 4 (plq4 []) ((n3,Cl (hdC b) 32)::(n2,Cl (hdC a) 32)::H) mixd qkr sb0 ?_ Bh);refine o_y U (yl_sliceA (T U) runUnderlying32 sizeOf3) (o_y U (yl_sliceA (T U) runUnderlying32 sizeOf3) (o_y U (Ao (evq2 U U) call148 (fun H' hs=>cmpL_s a b 10 ha.len hb.len qom _ _ 10 10 (hd_arr (Ae (Fnd.mono (show Fnd ((n3,Cl (hdC b) 32)::(n2,Cl (hdC a) 32)::H) n2 (Cl (hdC a) 32) from Cr fnd_h) hs))) (hd_arr (Ae (Fnd.mono (show Fnd ((n3,Cl (hdC b) 32)::(n2,Cl (hdC a) 32)::H) n3 (Cl (hdC b) 32) from fnd_h) hs))))) ?_ U Ad) U Ad) U Ad;refine rPt 1 U (Av U (rOt 3 U (Ai U (Ol U) ?_)));exact⟨_,⟨rfl,rfl⟩,sbt⟩
theorem cmpM_s (m n:Md)(m1:HdOk m.1)(m2:HdOk m.2)(k1:HdOk n.1)(k2:HdOk n.2):
  FSpec prog w0 103 #[.agg (mdC m).toArray, .agg (mdC n).toArray] H (Still (Vi (cmpM m n)) H):=by
 refine Am func103 U ntmps103 U (rDt 2 U (e_ (Ot U cs_) ?_ U));rintro _ _ ⟨n2,rfl,rfl⟩;refine e_ (Ot U cs_) ?_ U;rintro _ _ ⟨n3,rfl,rfl⟩;refine rOt 4 U (Bf 11 (plq10 [(10,false)]) ((n3,Cl (mdC n) 144)::(n2,Cl (mdC m) 144)::H) mixd qkr sb0 ?_ Bh);refine rPt 1 U (o_y U (On U isAgg32 sizeOf32 (Af m1) (by exact E7 (by exact Cr fnd_h))) ?_ U Ad);refine rPt 1 U (o_y U (On U isAgg32 sizeOf32 (Af k1) (by exact E7 (by exact fnd_h))) ?_ U Ad);refine o_y U (Ao (evq2 U U) call105 (fun H' hs=>cmpHd_s m.1 n.1 m1 k1)) (rPt 1 U (o_y U (On U isAgg32 sizeOf32 (Af m2) (by exact El m1 (by exact Cr fnd_h))) ?_ U Ad)) U Ad;refine rPt 1 U (o_y U (On U isAgg32 sizeOf32 (Af k2) (by exact El k1 (by exact fnd_h))) ?_ U Ad);refine o_y U (Ao (evq2 U U) call105 (fun H' hs=>cmpHd_s m.2 n.2 m2 k2)) (o_e U (Bb (.cons (T U) (.cons (T U) .nil)) (Ke3)) ?_ U Ad) U Ad;rintro _ _ ⟨n15,rfl,rfl⟩;refine⟨sbt,(Av U (e_ (Ah (evq1 U) call104 (orI_s [cmpL m.1 n.1,cmpL m.2 n.2] _ _ (arr2 (by exact fnd_h)) (by simp))) ?_ U))⟩;rintro _ _ ⟨rfl,rfl⟩;refine rOt 4 U (Ai U (Ol U) ?_);exact⟨_,⟨vint (by rw[orI_two];rfl),rfl⟩,sbt⟩
end Go.Proofs.YtkgfmjanajdibaaGreat
namespace Go.Proofs.YtkgfmjanajdibaaGreat
open _root_.Go.Proofs.Tryz
open Go.RowKit Go.Shelf Go.Sort Go.Proofs
set_option linter.unusedVariables false
set_option linter.unusedSimpArgs false
set_option linter.unusedSectionVars false
set_option maxRecDepth 100000
def laysSort_ren:Go.Shelf.Ren:=⟨fun|189=>134|125=>147|257=>166|128=>183|129=>184|294=>196|295=>197|296=>198|297=>199|298=>200|299=>201|216=>202|300=>203|301=>204|328=>220|329=>214|330=>215|331=>221|332=>222|215=>218|343=>230|n=>n,fun|28=>109|3=>3|46=>203|0=>0|51=>230|53=>232|4=>4|183=>224|182=>223|131=>200|5=>5|9=>9|218=>251|222=>255|228=>261|229=>262|n=>n,fun|n=>n⟩
theorem laysSort:Go.Proofs.Lays.n189 prog laysSort_ren:={
 mixed:=by kernel_rfl,
 f125:=func147.trans (congrArg some qkr),
 f128:=func183.trans (congrArg some qkr),
 f129:=func184.trans (congrArg some qkr),
 f189:=func134.trans (congrArg some qkr),
 f215:=func218.trans (congrArg some qkr),
 f216:=func202.trans (congrArg some qkr),
 f257:=func166.trans (congrArg some qkr),
 f294:=func196.trans (congrArg some qkr),
 f295:=func197.trans (congrArg some qkr),
 f296:=func198.trans (congrArg some qkr),
 f297:=func199.trans (congrArg some qkr),
 f298:=func200.trans (congrArg some qkr),
 f299:=func201.trans (congrArg some qkr),
 f300:=func203.trans (congrArg some qkr),
 f301:=func204.trans (congrArg some qkr),
 f328:=func220.trans (congrArg some qkr),
 f329:=func214.trans (congrArg some qkr),
 f330:=func215.trans (congrArg some qkr),
 f331:=func221.trans (congrArg some qkr),
 f332:=func222.trans (congrArg some qkr),
 f343:=func230.trans (congrArg some qkr),
 t0:=underlying0,
 a0:=isAgg0,
 z0:=sizeOf0,
 v0:=zeroValue0,
 t3:=underlying3,
 a3:=isAgg3,
 z3:=sizeOf3,
 v3:=zeroValue3,
 t4:=underlying4,
 a4:=isAgg4,
 z4:=sizeOf4,
 v4:=zeroValue4,
 t5:=underlying5,
 a5:=isAgg5,
 z5:=sizeOf5,
 v5:=zeroValue5,
 t9:=underlying9,
 a9:=isAgg9,
 z9:=sizeOf9,
 v9:=zeroValue9,
 t28:=underlying109,
 a28:=isAgg109,
 z28:=sizeOf109,
 v28:=zeroValue109,
 t46:=underlying203,
 a46:=isAgg203,
 z46:=sizeOf203,
 v46:=zeroValue203,
 t51:=underlying230,
 a51:=isAgg230,
 z51:=sizeOf230,
 v51:=zeroValue230,
 t53:=underlying232,
 a53:=isAgg232,
 z53:=sizeOf232,
 v53:=zeroValue232,
 t131:=underlying200,
 a131:=isAgg200,
 z131:=sizeOf200,
 v131:=zeroValue200,
 t182:=underlying223,
 a182:=isAgg223,
 z182:=sizeOf223,
 v182:=zeroValue223,
 t183:=underlying224,
 a183:=isAgg224,
 z183:=sizeOf224,
 v183:=zeroValue224,
 t218:=underlying251,
 a218:=isAgg251,
 z218:=sizeOf251,
 v218:=zeroValue251,
 t222:=underlying255,
 a222:=isAgg255,
 z222:=sizeOf255,
 v222:=zeroValue255,
 t228:=underlying261,
 a228:=isAgg261,
 z228:=sizeOf261,
 v228:=zeroValue261,
 t229:=underlying262,
 a229:=isAgg262,
 z229:=sizeOf262,
 v229:=zeroValue262}
theorem sort_run (blk off cap:Nat)(zs:List Int)(w:World)(hH:Holds (Value.int .i64) w blk off zs.toArray)(hblk:blk<w.heap.size)(hsz:zs.length<4611686018427387904):
  Calls prog 134 #[.slice (some ⟨blk,off,none⟩) zs.length cap] w fun e w'=>
   e= .returned (.tuple #[])/\∃ n os,w'=grow (putRow (Value.int .i64) (Sort.ahead w n) blk off (zs.mergeSort fun x y=>decide (x<=y)).toArray) os:=Any.slices_Sort_int laysSort blk off cap zs w hH hblk hsz
theorem sort_none (p:Option Addr)(cap:Nat)(w:World):
  Calls prog 134 #[.slice p 0 cap] w fun e w'=>e= .returned (.tuple #[])/\w'=w:=Any.slices_Sort_int_none laysSort p cap w
abbrev srtI (zs:List Int):List Int:=zs.mergeSort fun x y=>decide (x<=y)
theorem sort_s {w0:World}{H:Mm}(d:Sl)(zs:List Int)(hok:SlOk d zs.length 1)(hsz:zs.length<=100000):
  FSpec prog w0 134 #[slV d zs.length] (slH d (zs.flatMap encI) 3++H) (fun v H'=>v= .tuple #[]/\H'=slH d ((srtI zs).flatMap encI) 3++H):=fun w hO=>by
 have hlen:zs.length=(srtI zs).length:=by simp[srtI]
 cases d with
 |nil=>
  have:zs=[]:=List.eq_nil_of_length_eq_zero hok;subst this;exact(sort_none none 0 w).mono fun e w' ⟨he,hw⟩=>⟨_,_,he,hw ▸ hO,rfl,by simp[slH]⟩
 |blk n cap junk=>
  simp only[slH,flat_one,encI,List.singleton_append] at hO ⊢;exact(sort_run n 0 cap zs w (own_holds hO) (own_lt hO) qom).mono fun e w' ⟨he,q,os,hw⟩=>⟨_,_,he,hw ▸ own_row (l:=zs) (l':=srtI zs) hO hlen q os,rfl,rfl⟩
def rawF (l:List Fd):List Nat:=l.flatMap fun f=>(List.range f.w).map (f.pos+ ·)
def bsF (fl:List Fd):List Nat:=(rawF (portFd::fl)).mergeSort fun x y=>decide (x<=y)
structure FlOk (fl:List Fd):Prop where
 ok:∀ f∈fl,FdOk f/\16<=f.pos/\f.pos<=143
 dj:fl.Pairwise fun f g=>f.pos+f.w<=g.pos\/g.pos+g.w<=f.pos
 few:fl.length<=16
theorem port_ok:FdOk portFd:=⟨by decide,by decide,by decide,by decide⟩
theorem raw_mem {l:List Fd}{b:Nat}:b∈rawF l↔∃ f∈l,∃ j,j<f.w/\f.pos+j=b:=by
 unfold rawF;simp only[List.mem_flatMap,List.mem_map,List.mem_range]
theorem bs_mem {fl:List Fd}{b:Nat}:b∈bsF fl↔∃ f∈portFd::fl,∃ j,j<f.w/\f.pos+j=b:=by
 unfold bsF;rw[List.mem_mergeSort,raw_mem]
theorem raw_len (l:List Fd)(h:∀ f∈l,FdOk f):(rawF l).length<=16*l.length:=by
 induction l with
 |nil=>exact Nat.le_refl _
 |cons f l ih=>
  have h1:=(h f (by simp)).w16;have h2:=ih fun g hg=>h g (by simp[hg])
  show ((List.range f.w).map (f.pos+ ·)++rawF l).length<=16*(l.length+1);rw[List.length_append,List.length_map,List.length_range];omega
theorem FlOk.all {fl:List Fd}(h:FlOk fl):∀ f∈portFd::fl,FdOk f:=fun f hf=>by
 rcases List.mem_cons.1 hf with rfl|hf
 ·exact port_ok
 ·exact(h.ok f hf).1
theorem FlOk.pw {fl:List Fd}(h:FlOk fl):(portFd::fl).Pairwise fun f g=>f.pos+f.w<=g.pos\/g.pos+g.w<=f.pos:=
 List.pairwise_cons.2 ⟨fun g hg=> .inl (by have:=(h.ok g hg).2.1;show 0+16<=g.pos;omega),h.dj⟩
theorem raw_nodup:∀ {l:List Fd},l.Pairwise (fun f g=>f.pos+f.w<=g.pos\/g.pos+g.w<=f.pos)->(rawF l).Nodup
 |[],_=>List.nodup_nil
 |f::l,h=>by
  obtain⟨h1,h2⟩:=List.pairwise_cons.1 h;show ((List.range f.w).map (f.pos+ ·)++rawF l).Nodup;rw[List.nodup_append];refine⟨?_,raw_nodup h2,fun a ha b hb e=> ?_⟩
  ·exact List.pairwise_map.2 (List.nodup_range.imp fun h=>by omega)
  ·subst e;obtain⟨j,hj,rfl⟩:=List.mem_map.1 ha;obtain⟨g,hg,i,hi,e⟩:=raw_mem.1 hb;have:=h1 g hg;rw[List.mem_range] at hj;omega
theorem Eg {fl:List Fd}(h:FlOk fl):BsOk (bsF fl):=by
 have hnd:(bsF fl).Nodup:=(List.mergeSort_perm _ _).nodup_iff.2 (raw_nodup h.pw);have hs:(bsF fl).Pairwise (·<=·):=by
  have:=List.pairwise_mergeSort (le:=fun x y:Nat=>decide (x<=y)) (by intro a b c;simp;omega) (by intro a b;simp;omega) (rawF (portFd::fl));exact this.imp fun h=>by simpa using h
 refine⟨fun b hb=> ?_,?_⟩
 ·obtain⟨f,hf,j,hj,rfl⟩:=bs_mem.1 hb;have:=(h.all f hf).inw hj;exact this.1
 ·exact(hs.and hnd).imp fun ⟨h1,h2⟩=>Nat.lt_of_le_of_ne h1 h2
theorem bsF_160 {fl:List Fd}(h:FlOk fl):(bsF fl).length<=160:=by
 have hb:=Eg h;have hnd:(bsF fl).Nodup:=hb.up.imp fun h=>Nat.ne_of_lt h
 have:=List.Nodup.length_le_of_subset hnd (l₂:=List.range 160) (fun i hi=>List.mem_range.2 (hb.lt i hi))
 simpa using this
theorem Jn {fl:List Fd}(h:FlOk fl){f:Fd}(hf:f∈portFd::fl):FIn (bsF fl) f:=⟨h.all f hf,fun j hj=>bs_mem.2 ⟨f,hf,j,hj,rfl⟩⟩
theorem srt_nat (l:List Nat):srtI (l.map fun (x:Nat)=>(x:Int))=(l.mergeSort fun x y=>decide (x<=y)).map fun (x:Nat)=>(x:Int):=by
 unfold srtI;rw[List.map_mergeSort];intro a _ b _;exact decide_eq_decide.2 qom
theorem flat_nat (l:List Nat):(l.map fun (x:Nat)=>(x:Int)).flatMap encI=l.flatMap encB1:=by rw[List.flatMap_map]
theorem sortN_s {w0:World}{H:Mm}(d:Sl)(l:List Nat)(hok:SlOk d l.length 1)(hsz:l.length<=100000):
  FSpec prog w0 134 #[slV d l.length] (slH d (l.flatMap encB1) 3++H) (fun v H'=>∃ _x:Unit,v= .tuple #[]/\H'=slH d ((l.mergeSort fun x y=>decide (x<=y)).flatMap encB1) 3++H):=by
 have h:=sort_s (w0:=w0) (H:=H) d (l.map fun (x:Nat)=>(x:Int)) (by simpa using hok) (by simpa using hsz);rw[List.length_map,srt_nat,flat_nat,flat_nat] at h;exact h.mono fun v H' ⟨h1,h2⟩=>⟨(),h1,h2⟩
abbrev nsE (N:Nat):Ns:=[(N,0,0),(N,0,0)]
theorem wf_E (N:Nat):Wf N (nsE N):=⟨Nat.le_refl _,rfl,rfl,fun i h1 h2=>by have:i<2:=h2;omega,fun i h1 h2=>by have:i<2:=h2;omega,fun i h1 h2=>by have:i<2:=h2;omega,fun i j h1 h2=>by have:i<2:=h2;omega⟩
theorem perm_new {α:Type}{a b c d e:α}{X Y Z:List α}:(a::b::(X++(Y++(c::d::e::Z)))).Perm (d::a::e::(X++(Z++(b::c::Y)))):=by
 have h1:(X++(Y++(c::d::e::Z))).Perm (d::e::(X++(Z++(c::Y)))):=by
  have h2:(Y++(c::d::e::Z)).Perm (c::d::e::Z++Y):=List.perm_append_comm;have h3:(c::d::e::Z++Y).Perm (d::e::(Z++(c::Y))):=by
   show (c::d::e::(Z++Y)).Perm _;refine(List.Perm.swap d c _).trans (List.Perm.cons d ((List.Perm.swap e c _).trans (List.Perm.cons e ?_)));exact(List.perm_middle (l₁:=Z) (a:=c) (l₂:=Y)).symm
  have h4:(X++(d::e::(Z++(c::Y)))).Perm (d::e::(X++(Z++(c::Y)))):=by
   refine(List.perm_middle (l₁:=X) (a:=d) (l₂:=e::(Z++(c::Y)))).trans (List.Perm.cons d ?_);exact List.perm_middle (l₁:=X) (a:=e) (l₂:=Z++(c::Y))
  exact((h2.trans h3).append_left X).trans h4
 have h5:(a::b::(X++(Y++(c::d::e::Z)))).Perm (a::b::d::e::(X++(Z++(c::Y)))):=(h1.cons b).cons a;refine h5.trans ?_;have h6:(a::b::d::e::(X++(Z++(c::Y)))).Perm (a::d::b::e::(X++(Z++(c::Y)))):=(List.Perm.swap d b _).cons a;refine h6.trans ((List.Perm.swap d a _).trans (List.Perm.cons d (List.Perm.cons a ?_)));refine(List.Perm.swap e b _).trans (List.Perm.cons e ?_);have h7:(X++(Z++(b::c::Y))).Perm (X++(b::(Z++(c::Y)))):=List.Perm.append_left X (List.perm_middle (l₁:=Z) (a:=b) (l₂:=c::Y));exact((h7.trans (List.perm_middle (l₁:=X) (a:=b) (l₂:=Z++(c::Y)))).symm)
end Go.Proofs.YtkgfmjanajdibaaGreat
namespace Go.Proofs.YtkgfmjanajdibaaGreat
open _root_.Go.Proofs.Tryz
open Go.RowKit
set_option linter.unusedVariables false
set_option linter.unusedSimpArgs false
set_option linter.unusedSectionVars false
set_option maxRecDepth 100000
theorem Kd1 (a0:Option Addr)(a0n a0c:Nat)(a1:Option Nat)(a2:Int)(w:World):(Instr.build 152 #[(0, .slice a0 a0n a0c),(3, .map a1),(4,Vi a2)]).run prog w= .ok (.agg #[.slice a0 a0n a0c, .slice none 0 0, .slice none 0 0, .map a1,Vi a2]) w:=by kernel_rfl
theorem Kd2 {a0:Int}(w:World):(Instr.build 188 #[(0,Vi a0)]).run prog w= .ok (.agg #[Vi a0,Vi 0,Vi 0]) w:=by kernel_rfl
theorem zbs22_0_z  (w:World):(Instr.buildSlice 22 0 #[]).run prog w= .ok (.slice (some ⟨w.heap.size,0,none⟩) 0 0) (w.alloc (Cl [] 127)):=by kernel_rfl
theorem Kd6 (a0:ByteArray)(a1 a2:Int)(w:World):(Instr.buildSlice 22 1 #[(0, .agg #[.string a0,Vi a1,Vi a2])]).run prog w= .ok (.slice (some ⟨w.heap.size,0,none⟩) 1 1) (w.alloc (Cl [.string a0,Vi a1,Vi a2] 127)):=by kernel_rfl
theorem Ke2 {a0:Int}(w:World):(Instr.buildSlice 109 1 #[(0,Vi a0)]).run prog w= .ok (.slice (some ⟨w.heap.size,0,none⟩) 1 1) (w.alloc (Cl [Vi a0] 3)):=by kernel_rfl
theorem Ke6 {a0 a1 a2 a3 a4 a5:Int}(w:World):(Instr.buildSlice 149 2 #[(0, .agg #[Vi a0,Vi a1,Vi a2]),(1, .agg #[Vi a3,Vi a4,Vi a5])]).run prog w= .ok (.slice (some ⟨w.heap.size,0,none⟩) 2 2) (w.alloc (Cl [Vi a0,Vi a1,Vi a2,Vi a3,Vi a4,Vi a5] 188)):=by kernel_rfl
theorem yl_eqNil {w0:World}{L:Fm}{H:Mm}{ty yt:TypeId}{x y:Operand}{q:Option Addr}{n c:Nat}(hx:Ev L x (.slice q n c))(hy:Ev L y (.slice none 0 0)):Yl prog w0 (.binOp .eql 22 x y yt) ty L H (.bool q.isNone):=Bk U fun b' w=>by
 have e:(Op.equal 22 (.slice q n c) (.slice none 0 0)).run prog w= .ok q.isNone w:=run_equalIn_slice_nil w 9999 22 127 q n c qkr;simp[exO,execOp,hx b',hy b',binOp,eqGuard,Sem.run_bind,Result.andThen,e]
theorem loc_e {α:Type}{n:Nat}{e:TypeId}{X:Mm}{enc:α->List Value}:LocL ((n,Cl [] e)::X) (slH (.blk n 0 []) (([]:List α).flatMap enc) e) X (fun M'=>M'++X):=show LocL ([(n,Cl [] e)]++X) [(n,Cl [] e)] X _ from .h
theorem loc_1 {α:Type}{n:Nat}{e:TypeId}{X:Mm}{enc:α->List Value}{a:α}:LocL ((n,Cl (enc a) e)::X) (slH (.blk n 1 []) ([a].flatMap enc) e) X (fun M'=>M'++X):=by
 have h:slH (.blk n 1 []) ([a].flatMap enc) e=[(n,Cl (enc a) e)]:=by simp[slH]
 rw[h];exact show LocL ([(n,Cl (enc a) e)]++X) [(n,Cl (enc a) e)] X _ from .h
theorem clone_s {w0:World}{H:Mm}(fl:List Fd)(q:Option Addr)(c:Nat)(hA:Arr w0 H q 3 encF fl)(hlen:fl.length<=1048576):
  FSpec prog w0 132 #[.slice q fl.length c] H (fun v H'=>∃ d,(v=slV d fl.length/\SlOk d fl.length 3)/\H'=slH d (fl.flatMap encF) 127++H):=by
 refine Am func132 U ntmps132 U (rDt 9 U (y_ (yl_eqNil (T U) Al) (rOt 2 U ?_) U))
 first|refine jcd U (fun c4=> ?_) (fun c4=> ?_)|refine jcn U (fun c4=> ?_) (fun c4=> ?_)
 ·have hnil:fl=[]:=by
   cases fl with
   |nil=>rfl
   |cons x l=>have:=(hA 0 x rfl).1;rw[this] at c4;cases c4
  refine rCt 7 U (Ai U (Ol U) ?_);rw[hnil];exact⟨_,⟨.nil,⟨rfl,rfl⟩,rfl⟩,sbt⟩
 ·refine rCt 4 U (e_ (Bb .nil (zbs22_0_z)) ?_ U);rintro _ _ ⟨n5,rfl,rfl⟩;refine rOt 1 U (e_ (Bu (enc:=encF) (d:= .blk n5 0 []) (l:=[]) fl (by':=32) loc_e (T U) (T U) runUnderlying22 runUnderlying22 sizeOf127 typeInfo127 U zeroValue127 U (fun _=>rfl) (fun _=>rfl) ⟨Nat.le_refl _,rfl⟩ qde (by simp only[List.length_nil];omega) (hA.mono sbt)) ?_ U);rintro _ _ ⟨d',rfl,hokd,rfl⟩;refine rOt 4 U (Ai U (Ol U) ?_);rw[List.length_nil,Nat.zero_add] at hokd;exact⟨_,⟨d',⟨by rw[List.length_nil,Nat.zero_add];rfl,hokd⟩,rfl⟩,sbt⟩
abbrev NewD (fl:List Fd) (most:Int) (df db:Sl) (p m:Nat):Sd:=⟨p,slQ df,fl.length,slC df,slQ db,slC db,bsF fl,m,most⟩
theorem sm_new (fl:List Fd)(most:Int)(df db:Sl)(p m n N:Nat)(X:Mm):SM (NewD fl most df db p m) ⟨.blk n 2 [],[],0⟩ (nsE N)++X=(p,Cl [slV df fl.length,slV db (bsF fl).length, .slice (some ⟨n,0,none⟩) 2 2, .map (some m),Vi most] 152)::(n,Cl [Vi (N:Nat),Vi 0,Vi 0,Vi (N:Nat),Vi 0,Vi 0] 188)::(m, .map #[] 0)::X:=rfl
abbrev NewK (fl:List Fd) (most:Int) (H:Mm):Value->Mm->Prop:=fun u H'=>∃ x:Sl × Sl × Nat × Nat × Sv,(u=Pt (x.2.2.1) 0/\SlOk x.1 fl.length 3/\SlOk x.2.1 (bsF fl).length 1/\StOk (NewD fl most x.1 x.2.1 x.2.2.1 x.2.2.2.1) x.2.2.2.2 (nsE (2*(bsF fl).length)))/\H'=SM (NewD fl most x.1 x.2.1 x.2.2.1 x.2.2.2.1) x.2.2.2.2 (nsE (2*(bsF fl).length))++(slH x.2.1 ((bsF fl).flatMap encB1) 3++(slH x.1 (fl.flatMap encF) 127++H))
abbrev pl' (fl:List Fd):List Fd:=portFd::fl
abbrev rawK (l:List Fd) (k j:Nat):List Nat:=rawF (l.take k)++(List.range j).map ((gd l k).pos+ ·)
theorem rawK_next {l:List Fd}{k:Nat}(hk:k<l.length):rawF (l.take (k+1))=rawK l k (gd l k).w:=by
 unfold rawF;rw[List.take_succ_eq_append_getElem hk,List.flatMap_append,<- Ar hk];simp[rawF]
theorem rawK_succ (l:List Fd)(k j:Nat):rawK l k (j+1)=rawK l k j++[(gd l k).pos+j]:=by
 unfold rawK;rw[List.range_succ,List.map_append,List.append_assoc]
 rfl
theorem rawK_len {l:List Fd}(h:∀ f∈l,FdOk f)(k j:Nat)(hj:j<=16):(rawK l k j).length<=16*l.length+16:=by
 have h1:=raw_len (l.take k) fun f hf=>h f (List.mem_of_mem_take hf)
 have h2:(l.take k).length<=l.length:=by rw[List.length_take];omega
 unfold rawK;rw[List.length_append,List.length_map,List.length_range];omega
theorem new_s {w0:World}{H:Mm}(fl:List Fd)(hfl:FlOk fl)(q:Option Addr)(c:Nat)(hA:Arr w0 H q 3 encF fl)(most:Int)(hm:2<=most/\most<=1000000):
  FSpec prog w0 89 #[.slice q fl.length c,Vi most] H (NewK fl most H):=by
 refine Am func89 U ntmps89 U ?_;have hfew:=hfl.few;have hall:=hfl.all;have hpl:(portFd::fl).length=fl.length+1:=rfl;refine rDt 8 U (e_ (Ah (evq1 U) call132 (clone_s fl q c hA qom)) ?_ U);rintro _ _ ⟨df,⟨rfl,hdf⟩,rfl⟩;refine e_ Dn ?_ U;rintro _ _ ⟨n14,rfl,rfl⟩;refine rOt 1 U (y_ (A1 (.cons (T U) (.cons (T U) (.cons (T U) .nil))) (Kd1 _ _ _ _ _)) (e_ (Ot U cs_) ?_ U) U);rintro _ _ ⟨n17,rfl,rfl⟩;refine rOt 5 U (y_ (Ao (.cons Al (.cons Al .nil)) call133 (fun H' hs=>Fx [] none 0 (fun i u hi=>by simp at hi) (by simp) portN)) ?_ U);refine rOt 3 U (e_ (Ag zeroValue127 cs_) ?_ U);rintro _ _ ⟨n6,rfl,rfl⟩;refine Bo (Oq U U sizeOf127) U Ad ?_;rintro _ _ ⟨rfl,rfl⟩;refine rOt 6 U (y_ (On U isAgg127 sizeOf127 U qcs) ?_ U);refine e_ (Bb (.cons (T U) .nil) (Kd6 _ _ _)) ?_ U;rintro _ _ ⟨n23,rfl,rfl⟩;refine rOt 1 U (e_ (Bu (enc:=encF) (d:= .blk n23 1 []) (l:=[portFd]) fl (by':=32) loc_1 (T U) (T U) runUnderlying22 runUnderlying22 sizeOf127 typeInfo127 U zeroValue127 U (fun _=>rfl) (fun _=>rfl) ⟨Nat.le_refl _,rfl⟩ qde (by simp only[List.length_cons,List.length_nil];omega) (hA.mono sbt)) ?_ U);rintro _ _ ⟨dx,rfl,hdx,rfl⟩;rw[show [portFd].length+fl.length=(portFd::fl).length from Nat.add_comm _ _] at hdx;refine rOt 5 U ?_;refine A8 (X:=Nat × Sl) (V:=fun ⟨k,dbk⟩=>[(27,Vi (k:Nat))]) (C:=[(5,_),(25,_),(26,_)]) (G:=fun ⟨k,dbk⟩=>slH dbk ((rawF ((portFd::fl).take k)).flatMap encB1) 3++(slH dx ((portFd::fl).flatMap encF) 127++((n6,Cl (encF portFd) 127)::(n17,Cl [slV df fl.length,slV dbk (rawF ((portFd::fl).take k)).length, .slice none 0 0, .map (some n14),Vi most] 152)::(n14, .map #[] 0)::(slH df (fl.flatMap encF) 127++H)))) (φ:=fun ⟨k,dbk⟩=>k<=(portFd::fl).length/\SlOk dbk (rawF ((portFd::fl).take k)).length 1) (μ:=fun ⟨k,dbk⟩=>(portFd::fl).length - k) (x0:=(0, .nil)) ?_ (kg U) qkg (by exact List.Sublist.refl _) ?_
 ·exact⟨Nat.zero_le _,rfl⟩
 rintro⟨k,dbk⟩ ⟨hk,hdbk⟩;refine rDt 6 U ?_;refine jcd U (fun c28=> ?_) (fun c28=> ?_)
 ·have hk2:k<(portFd::fl).length:=by have h9:((k:Nat):Int)<([portFd].length+fl.length:Nat):=c28;simp only[List.length_cons,List.length_nil] at *;omega
  have hfk:=hall _ (Ax hk2);have hw1:=hfk.w16;have hp1:=hfk.lt;refine rCt 6 U (y_ (Oo U U runUnderlying22 sizeOf127 qom (by first|exact rfl|exact((B3 (w0:=w0) (e:=127) (X:=H) (enc:=encF) (l:=portFd::fl) (fun _=>rfl) hdx).b (i:=k) hk2))) ?_ U);refine y_ (On U isAgg127 sizeOf127 U (by exact((B3 (w0:=w0) (e:=127) (X:=H) (enc:=encF) (l:=portFd::fl) (fun _=>rfl) hdx).mono sbt).cs (i:=k) hk2)) ?_ U;refine e_ (Ag zeroValue127 cs_) ?_ U;rintro _ _ ⟨n9,rfl,rfl⟩;refine Bo (Oq U U sizeOf127) U Ad ?_;rintro _ _ ⟨rfl,rfl⟩;refine rOt 5 U (y_ (Om U isAgg3 qco) ?_ U);refine rOt 4 U ?_;refine A8 (X:=Nat × Sl) (V:=fun ⟨j,db⟩=>[(33,Vi (j:Nat))]) (C:=[(5,_),(9,_),(25,_),(26,_),(27,_),(32,_)]) (G:=fun ⟨j,db⟩=>(n9,Cl (encF (gd (portFd::fl) k)) 127)::(slH db ((rawK (portFd::fl) k j).flatMap encB1) 3++(slH dx ((portFd::fl).flatMap encF) 127++((n6,Cl (encF portFd) 127)::(n17,Cl [slV df fl.length,slV db (rawK (portFd::fl) k j).length, .slice none 0 0, .map (some n14),Vi most] 152)::(n14, .map #[] 0)::(slH df (fl.flatMap encF) 127++H))))) (φ:=fun ⟨j,db⟩=>j<=(gd (portFd::fl) k).w/\SlOk db (rawK (portFd::fl) k j).length 1) (μ:=fun ⟨j,db⟩=>(gd (portFd::fl) k).w - j) (x0:=(0,dbk)) ?_ (kg U) qkg (by dsimp only;unfold rawK;rw[List.range_zero,List.map_nil,List.append_nil];exact sbt) ?_
  ·exact⟨Nat.zero_le _,by unfold rawK;rw[List.range_zero,List.map_nil,List.append_nil];exact hdbk⟩
  rintro⟨j,db⟩ ⟨hj,hdb⟩;refine rDt 6 U ?_;refine jcd U (fun c34=> ?_) (fun c34=> ?_)
  ·have hj2:j<(gd (portFd::fl) k).w:=by have h9:((j:Nat):Int)<((gd (portFd::fl) k).w:Nat):=c34;omega
   refine rCt 10 U (Bf 13 (plq9 [(9,false),(10,false),(11,true),(12,true)]) ((n9,Cl (encF (gd (portFd::fl) k)) 127)::(n17,Cl [slV df fl.length,slV db (rawK (portFd::fl) k j).length, .slice none 0 0, .map (some n14),Vi most] 152)::(n14, .map #[] 0)::(slH df (fl.flatMap encF) 127++H)) mixd qkr sbt ?_ Bh);refine rPt 4 U (o_y U (Om U isAgg109 qco) ?_ U Ad);refine rPt 1 U (o_y U (Om U isAgg3 qco) ?_ U Ad);refine rPt 1 U (o_y U (Cw (a:=(gd (portFd::fl) k).pos) (c:=j) (T U) (T U) qom) ?_ U Ad);refine o_e U (Bb (.cons (T U) .nil) (Ke2)) ?_ U Ad;rintro _ _ ⟨n45,rfl,rfl⟩;refine⟨sbt,(o_e U (Cg (enc:=encB1) ((gd (portFd::fl) k).pos+j) (by':=8) locq (T U) (T U) runUnderlying109 runUnderlying109 sizeOf3 typeInfo3 U zeroValue3 U (fun _=>rfl) U hdb qde (by have:=rawK_len hall k j qom;omega)) ?_ U Ad)⟩;rintro _ _ ⟨db',rfl,hdb',rfl⟩;refine⟨sbt,(rPt 2 U (Av U ?_))⟩
   first|refine Bo (Oq U U sizeOf109) U Ad ?_|refine Bo (Ml (T U) (T U) U sizeOf109) U Ad ?_|refine Bo (Ct (T U) (T U) U sizeOf109) U Ad ?_
   rintro _ _ ⟨rfl,rfl⟩;refine rOt 4 U (y_ (Aw (T U) Al qom) ?_ U);refine rOt 2 U ?_;refine Au ((j+1,db')) ?_ ?_ qkg (kg U) ?_
   ·exact⟨hj2,by rw[rawK_succ,List.length_append];exact hdb'⟩
   ·first|omega|(simp only[];omega)
   ·dsimp only;rw[rawK_succ,List.length_append];exact sbt
  ·obtain rfl:j=(gd (portFd::fl) k).w:=by have h9: ¬ ((j:Nat):Int)<((gd (portFd::fl) k).w:Nat):=c34;omega
   refine rCt 2 U (An (rXt 4 U (y_ (Aw (T U) Al qom) ?_ U)));refine rOt 2 U ?_;refine Au ((k+1,db)) ?_ ?_ qkg (kg U) ?_
   ·exact⟨hk2,by rw[rawK_next hk2];exact hdb⟩
   ·first|omega|(simp only[];omega)
   ·dsimp only;rw[rawK_next hk2];exact sbt
 ·have hke:(portFd::fl).take k=portFd::fl:=List.take_of_length_le (by have h9: ¬ ((k:Nat):Int)<([portFd].length+fl.length:Nat):=c28;simp only[List.length_cons,List.length_nil] at *;omega);have hb:(rawF ((portFd::fl).take k)).mergeSort (fun x y=>decide (x<=y))=bsF fl:=by rw[hke];rfl
  have hl:(rawF ((portFd::fl).take k)).length=(bsF fl).length:=by rw[<- hb,List.length_mergeSort]
  refine rCt 2 U (An (rXt 7 U (y_ (Om U isAgg109 qco) ?_ U)));refine e_ (Ah (evq1 U) call134 (B7 (sortN_s dbk _ hdbk (by have:=bsF_160 hfl;omega)) locq)) ?_ U;rintro _ _ ⟨_,rfl,rfl⟩;refine rOt 7 U (y_ (Om U isAgg109 qco) ?_ U);refine rOt 1 U (y_ (Hm Al (T U) (by have:=bsF_160 hfl;omega)) ?_ U);refine y_ (A1 (.cons (T U) .nil) (Kd2)) (e_ (Ag zeroValue188 cs_) ?_ U) U;rintro _ _ ⟨n11,rfl,rfl⟩;refine Bo (Oq U U sizeOf188) U Ad ?_;rintro _ _ ⟨rfl,rfl⟩;refine rOt 5 U (y_ (On U isAgg188 sizeOf188 U qcs) ?_ U);refine y_ (On U isAgg188 sizeOf188 U qcs) ?_ U;refine e_ (Bb (.cons (T U) (.cons (T U) .nil)) (Ke6)) ?_ U;rintro _ _ ⟨n66,rfl,rfl⟩;refine rOt 2 U ?_
  first|refine Bo (Oq U U sizeOf149) U Ad ?_|refine Bo (Ml (T U) (T U) U sizeOf149) U Ad ?_|refine Bo (Ct (T U) (T U) U sizeOf149) U Ad ?_
  rintro _ _ ⟨rfl,rfl⟩;refine rOt 4 U (y_ (B6 (T U)) (jl_perm perm_new (rOt 4 U (Ai U (Ol U) ?_))) U);exact⟨_,⟨(df,dbk,n17,n14,⟨.blk n66 2 [],[],0⟩),⟨rfl,hdf,hl ▸ hdbk,⟨⟨Nat.le_refl _,rfl⟩,ents_nil _ _,by show (2:Int)<=most+2;omega,by show 0<=most/\most<=1000000;omega,wf_E _,bsF_160 hfl⟩⟩,rfl⟩,by dsimp only;rw[hb,hl,sm_new];exact(((List.Sublist.append (List.Sublist.refl _) (List.sublist_append_left _ _)).cons_cons _).cons_cons _).cons_cons _⟩
end Go.Proofs.YtkgfmjanajdibaaGreat
namespace Go.Proofs.YtkgfmjanajdibaaGreat
open _root_.Go.Proofs.Tryz
open Go.RowKit Go.Sort Go.Shelf Go.Proofs
set_option linter.unusedVariables false
set_option linter.unusedSimpArgs false
set_option linter.unusedSectionVars false
set_option maxRecDepth 100000
section
variable {α:Type} [Inhabited α] {enc:α->List Value} {k:Nat}
theorem flat_get2 (he:∀ x,(enc x).length=k)(l:List α)(t:Nat)(ht:t<l.length*k):(l.flatMap enc)[t]? =some ((enc l[t / k]!)[t % k]!):=by
 have hk:0<k:=by
  rcases Nat.eq_zero_or_pos k with h|h
  ·subst h;simp at ht
  ·exact h
 have h1:t / k<l.length:=by rw[Nat.div_lt_iff_lt_mul hk];exact ht
 have h2:t % k<k:=Nat.mod_lt _ hk;have h3:l[t / k]? =some l[t / k]! :=by simp[h1]
 have h4:(enc l[t / k]!)[t % k]? =some ((enc l[t / k]!)[t % k]!):=by
  have:t % k<(enc l[t / k]!).length:=by rw[he];exact h2
  rw[List.getElem?_eq_getElem this,getElem!_pos (enc l[t / k]!) (t % k) this]
 have:=flat_get he l (t / k) (l[t / k]!) (t % k) ((enc l[t / k]!)[t % k]!) h3 h4;rw[show t / k*k+t % k=t from by rw[Nat.mul_comm];exact Nat.div_add_mod t k] at this;exact this
theorem flatK_list (he:∀ x,(enc x).length=k)(l:List α):flatK enc k l.toArray=(l.flatMap enc).toArray:=by
 apply Array.ext_getElem?;intro t
 by_cases ht:t<l.length*k
 ·have h1:=flat_get2 he l t ht;have h2:(l.flatMap enc).toArray[t]? =some ((enc l[t / k]!)[t % k]!):=by rw[List.getElem?_toArray];exact h1
  rw[h2];simp[flatK,ht]
 ·rw[Array.getElem?_eq_none (by simp;omega),Array.getElem?_eq_none (by simp only[List.size_toArray];rw[Ed he];omega)]
variable {w0 w:World} {n:Nat} {junk:List Value} {e:TypeId} {X:Mm}
theorem own_holdsK (he:∀ x,(enc x).length=k){l:List α}(hO:Own w0 ((n,Cl (l.flatMap enc++junk) e)::X) w):HoldsK enc k w n 0 l.toArray:=by
 unfold HoldsK;rw[flatK_list he];have:l.flatMap enc=(l.flatMap enc).map id:=by simp
 rw[this] at hO;exact own_holds hO
theorem own_rowK (he:∀ x,(enc x).length=k){l l':List α}(hO:Own w0 ((n,Cl (l.flatMap enc++junk) e)::X) w)(hl:l.length=l'.length)(q:Nat)(os:Array Obj):Own w0 ((n,Cl (l'.flatMap enc++junk) e)::X) (sortWorldK enc k w n 0 q l'.toArray os):=by
 unfold sortWorldK putRowK;rw[flatK_list he];have e1:l.flatMap enc=(l.flatMap enc).map id:=by simp
 have e2:l'.flatMap enc=(l'.flatMap enc).map id:=by simp
 rw[e1] at hO;rw[e2];have:=own_row (enc:=id) hO (l':=(l'.flatMap enc)) (by rw[Ed he,Ed he,hl]) q os
 simpa using this
end
theorem sorted_list {α:Type}[Inhabited α] {lt:α->α->Bool}{l:List α}{d:Array α}(hp:PermIn 0 l.length l.toArray d)(hs:SortedIn lt 0 l.length d):d.toList.Perm l/\d.toList.Pairwise (fun a b=>lt b a=false):=by
 obtain⟨h1,_,h3⟩:=hp;have hsz:d.size=l.length:=by simpa using h1
 have e1:d.extract 0 l.length=d:=by rw[<- hsz];simp
 have e2:l.toArray.extract 0 l.length=l.toArray:=by simp
 rw[e1,e2] at h3;refine⟨h3,?_⟩;rw[List.pairwise_iff_getElem];intro i j hi hj hij;have hi':i<d.size:=by simpa using hi
 have hj':j<d.size:=by simpa using hj
 have:=hs i j (Nat.zero_le _) hij qom;rw[getElem!_pos d i hi',getElem!_pos d j hj'] at this
 simpa using this
end Go.Proofs.YtkgfmjanajdibaaGreat
namespace Go.Proofs.YtkgfmjanajdibaaGreat
open _root_.Go.Proofs.Tryz
open Go.RowKit
set_option linter.unusedVariables false
set_option linter.unusedSimpArgs false
set_option linter.unusedSectionVars false
set_option maxRecDepth 100000
variable {w0:World}{H:Mm}
theorem own_grown {w w':World}(h:Own w [] w'):∃ q os,w'=Sort.grow (w.drewN q) os:=by
 refine⟨w'.drawn - w.drawn,w'.heap.extract w.heap.size w'.heap.size,?_⟩;obtain⟨hb,_,_,_,hd⟩:=h;have e1:w.drawn+(w'.drawn - w.drawn)=w'.drawn:=by omega
 have e2:w.heap++w'.heap.extract w.heap.size w'.heap.size=w'.heap:=by
  apply Array.ext_getElem?;intro i;have hs:=hb.size
  by_cases hi:i<w.heap.size
  ·rw[Array.getElem?_append_left hi,hb.block i hi]
  ·rw[Array.getElem?_append_right qom,Array.getElem?_extract]
   by_cases h2:i<w'.heap.size
   ·simp only[show i - w.heap.size<min w'.heap.size w'.heap.size - w.heap.size by omega,if_true]
    congr 1;omega
   ·rw[if_neg qom];simp;omega
 show w'={heap:=w.heap++w'.heap.extract w.heap.size w'.heap.size,tape:=w.tape,drawn:=w.drawn+(w'.drawn - w.drawn),os:=w.os,output:=w.output};rw[e1,e2,<- hb.os,<- hb.tape,<- hb.output]
def laysSF_ren:Go.Shelf.Ren:=⟨fun|6=>102|15=>147|14=>146|28=>183|29=>184|20=>175|21=>176|22=>177|23=>178|24=>179|25=>180|26=>181|27=>182|46=>213|47=>214|48=>215|49=>216|50=>217|57=>228|n=>n,fun|22=>92|24=>144|25=>157|3=>3|39=>203|0=>0|53=>230|55=>232|4=>4|46=>224|45=>223|50=>200|5=>5|9=>9|66=>251|70=>255|76=>261|77=>262|n=>n,fun|n=>n⟩
theorem laysSF:Go.Proofs.SlLaysF0.n6 prog laysSF_ren:={
 mixed:=by kernel_rfl,
 f6:=⟨Tryz.f102.name,by decide,func102.trans (congrArg some qkr)⟩,
 f14:=⟨Tryz.f146.name,by decide,func146.trans (congrArg some qkr)⟩,
 f15:=func147.trans (congrArg some qkr),
 f20:=⟨Tryz.f175.name,by decide,func175.trans (congrArg some qkr)⟩,
 f21:=⟨Tryz.f176.name,by decide,func176.trans (congrArg some qkr)⟩,
 f22:=⟨Tryz.f177.name,by decide,func177.trans (congrArg some qkr)⟩,
 f23:=⟨Tryz.f178.name,by decide,func178.trans (congrArg some qkr)⟩,
 f24:=⟨Tryz.f179.name,by decide,func179.trans (congrArg some qkr)⟩,
 f25:=⟨Tryz.f180.name,by decide,func180.trans (congrArg some qkr)⟩,
 f26:=⟨Tryz.f181.name,by decide,func181.trans (congrArg some qkr)⟩,
 f27:=⟨Tryz.f182.name,by decide,func182.trans (congrArg some qkr)⟩,
 f28:=func183.trans (congrArg some qkr),
 f29:=func184.trans (congrArg some qkr),
 f46:=⟨Tryz.f213.name,by decide,func213.trans (congrArg some qkr)⟩,
 f47:=func214.trans (congrArg some qkr),
 f48:=func215.trans (congrArg some qkr),
 f49:=⟨Tryz.f216.name,by decide,func216.trans (congrArg some qkr)⟩,
 f50:=⟨Tryz.f217.name,by decide,func217.trans (congrArg some qkr)⟩,
 f57:=⟨Tryz.f228.name,by decide,func228.trans (congrArg some qkr)⟩,
 t0:=underlying0,
 a0:=isAgg0,
 z0:=sizeOf0,
 v0:=zeroValue0,
 t3:=underlying3,
 a3:=isAgg3,
 z3:=sizeOf3,
 v3:=zeroValue3,
 t4:=underlying4,
 a4:=isAgg4,
 z4:=sizeOf4,
 v4:=zeroValue4,
 t5:=underlying5,
 a5:=isAgg5,
 z5:=sizeOf5,
 v5:=zeroValue5,
 t9:=underlying9,
 a9:=isAgg9,
 z9:=sizeOf9,
 v9:=zeroValue9,
 t22:=underlying92,
 a22:=isAgg92,
 z22:=sizeOf92,
 v22:=zeroValue92,
 t25:=underlying157,
 a25:=isAgg157,
 z25:=sizeOf157,
 v25:=zeroValue157,
 t39:=underlying203,
 a39:=isAgg203,
 z39:=sizeOf203,
 v39:=zeroValue203,
 t45:=underlying223,
 a45:=isAgg223,
 z45:=sizeOf223,
 v45:=zeroValue223,
 t46:=underlying224,
 a46:=isAgg224,
 z46:=sizeOf224,
 v46:=zeroValue224,
 t50:=underlying200,
 a50:=isAgg200,
 z50:=sizeOf200,
 v50:=zeroValue200,
 t53:=underlying230,
 a53:=isAgg230,
 z53:=sizeOf230,
 v53:=zeroValue230,
 t55:=underlying232,
 a55:=isAgg232,
 z55:=sizeOf232,
 v55:=zeroValue232,
 t66:=underlying251,
 a66:=isAgg251,
 z66:=sizeOf251,
 v66:=zeroValue251,
 t70:=underlying255,
 a70:=isAgg255,
 z70:=sizeOf255,
 v70:=zeroValue255,
 t76:=underlying261,
 a76:=isAgg261,
 z76:=sizeOf261,
 v76:=zeroValue261,
 t77:=underlying262,
 a77:=isAgg262,
 z77:=sizeOf262,
 v77:=zeroValue262}
abbrev Mq:Type:={m:Md // HdOk m.1/\HdOk m.2}
instance:Inhabited Mq:=⟨⟨(hd0,hd0),Ay,Ay⟩⟩
abbrev encMq (m:Mq):List Value:=mdC m.1
theorem encMq_len (m:Mq):(encMq m).length=20:=Bd m.2.1 m.2.2
def mLt (m n:Md):Prop:=hLt m.1 n.1\/(m.1=n.1/\hLt m.2 n.2)
theorem cmpM_lt {m n:Md}(m1:HdOk m.1)(m2:HdOk m.2)(n1:HdOk n.1)(n2:HdOk n.2):cmpM m n<0↔mLt m n:=by
 unfold cmpM mLt;have e:=cmpL_eq (a:=m.1) (b:=n.1) (by rw[m1.len,n1.len])
 by_cases h:cmpL m.1 n.1=0
 ·rw[if_neg (by simpa using h),Ex m2 n2];have h2:=e.1 h
  constructor
  ·exact fun h3=> .inr ⟨h2,h3⟩
  ·rintro(h3|h3)
   ·rw[h2] at h3;exact h3.irr.elim
   ·exact h3.2
 ·rw[if_pos h,Ex m1 n1]
  constructor
  ·exact .inl
  ·rintro(h3|h3)
   ·exact h3
   ·exact absurd (e.2 h3.1) h
theorem mLt.trans {a b c:Md}(h1:mLt a b)(h2:mLt b c):mLt a c:=by
 rcases h1 with h1|⟨e1,h1⟩<;>rcases h2 with h2|⟨e2,h2⟩
 ·exact .inl (h1.trans h2)
 ·exact .inl (e2 ▸ h1)
 ·exact .inl (e1 ▸ h2)
 ·exact .inr ⟨e1.trans e2,h1.trans h2⟩
theorem mLt.irr {a:Md}(h:mLt a a):False:=by
 rcases h with h|h
 ·exact h.irr
 ·exact h.2.irr
theorem Lx {a b:Md}(a1:HdOk a.1)(a2:HdOk a.2)(b1:HdOk b.1)(b2:HdOk b.2):mLt a b\/a=b\/mLt b a:=by
 rcases H8 a1 b1 with h|h|h
 ·exact .inl (.inl h)
 ·rcases H8 a2 b2 with g|g|g
  ·exact .inl (.inr ⟨h,g⟩)
  ·exact .inr (.inl (Prod.ext h g))
  ·exact .inr (.inr (.inr ⟨h.symm,g⟩))
 ·exact .inr (.inr (.inl h))
def cmpQ (x y:Mq):Int:=cmpM x.1 y.1
theorem ltQ (x y:Mq):Go.Proofs.ltOf cmpQ x y=true↔mLt x.1 y.1:=by
 unfold Go.Proofs.ltOf cmpQ;rw[decide_eq_true_iff];exact cmpM_lt x.2.1 x.2.2 y.2.1 y.2.2
theorem ltQ_f (x y:Mq):Go.Proofs.ltOf cmpQ x y=false↔¬ mLt x.1 y.1:=by rw[<- ltQ];simp
theorem swoQ:Go.Sort.SWO (Go.Proofs.ltOf cmpQ) where
 irrefl x:=by rw[ltQ_f];exact fun h=>h.irr
 trans x y z h1 h2:=by rw[ltQ] at *;exact h1.trans h2
 ntrans x y z h1 h2:=by
  rw[ltQ_f] at *;intro h3;rcases Lx x.2.1 x.2.2 y.2.1 y.2.2 with h|h|h
  ·exact h1 h
  ·rw[h] at h3;exact h2 h3
  ·exact h2 (h.trans h3)
theorem cmpLaysQ (blk off size:Nat)(w:World):Go.Proofs.CmpLays prog 103 #[] encMq 20 cmpQ blk off size w:=fun m os dk _ x y=>by
 have h:=cmpM_s (w0:=Go.Proofs.sortWorldK encMq 20 w blk off m dk os) (H:=[]) x.1 y.1 x.2.1 x.2.2 y.2.1 y.2.2 _ (Own.start _);refine h.mono fun e w' hh=> ?_
 obtain⟨v,H',he,hO,hv,hH⟩:=hh;subst hv;subst hH;exact⟨he,own_grown hO⟩
open Go.Sort Go.Proofs in
theorem sortM_none (p:Option Addr)(cap:Nat)(w:World):
  Calls prog 102 #[.slice p 0 cap, .func (.func 103) #[] #[]] w fun e w'=>e= .returned (.tuple #[])/\w'=w:=AnyF.slices_SortFunc_none laysSF p cap _ w
theorem mdC_int {m:Md}{v:Value}(hv:v∈mdC m):∃ k:Nat,v=Vi (k:Nat):=by
 rcases List.mem_append.1 hv with h|h
 ·obtain⟨k,_,rfl⟩:=List.mem_map.1 h;exact⟨k,rfl⟩
 ·obtain⟨k,_,rfl⟩:=List.mem_map.1 h;exact⟨k,rfl⟩
open Go.Sort Go.Proofs in
theorem sortQ_s (d:Sl)(zs:List Mq)(hok:SlOk d zs.length 20)(hsz:zs.length<=8589934592):
  FSpec prog w0 102 #[slV d zs.length, .func (.func 103) #[] #[]] (slH d (zs.flatMap encMq) 144++H) (fun v H'=>∃ ks:List Mq,(v= .tuple #[]/\ks.Perm zs/\ks.Pairwise (fun a b=> ¬ mLt b.1 a.1))/\H'=slH d (ks.flatMap encMq) 144++H):=fun w hO=>by
 cases d with
 |nil=>
  have:zs=[]:=List.eq_nil_of_length_eq_zero hok;subst this;exact(sortM_none none 0 w).mono fun e w' ⟨he,hw⟩=>⟨_,_,he,hw ▸ hO,[],⟨rfl,List.Perm.refl _,List.Pairwise.nil⟩,by simp[slH]⟩
 |blk n cap junk=>
  simp only[slH,List.singleton_append,List.cons_append,List.nil_append,slQ,slC] at hO hsz ⊢;have hcon:=AnyQ.slices_SortFunc laysSF 20 isAgg144 sizeOf144 encMq encMq_len (fun x v hv=>by obtain⟨k,rfl⟩:=mdC_int hv;rfl) cmpQ swoQ 103 #[] n 0 cap zs.toArray w call103 (cmpLaysQ n 0 zs.toArray.size w) (own_holdsK (enc:=encMq) (k:=20) encMq_len hO) (own_lt hO) (by simp;omega);rw[List.size_toArray] at hcon
  change Calls prog 102 _ _ _ at hcon
  refine hcon.mono fun e w' ⟨he,d',q,os,hp,hs,hw⟩=> ?_
  obtain⟨h1,h2⟩:=sorted_list hp hs;have hO':=own_rowK (enc:=encMq) (k:=20) (l':=d'.toList) encMq_len hO h1.length_eq.symm q os;rw[show d'.toList.toArray=d' by simp] at hO';exact⟨_,_,he,hw ▸ hO',d'.toList,⟨rfl,h1,h2.imp fun {a b} h=>(ltQ_f _ _).1 h⟩,rfl⟩
def leM (a b:Md):Bool:=decide (cmpM a b<=0)
def srtM (l:List Md):List Md:=l.mergeSort leM
def MdsOk (l:List Md):Prop:=∀ m∈l,HdOk m.1/\HdOk m.2
theorem Iw {m n:Md}(m1:HdOk m.1)(m2:HdOk m.2)(n1:HdOk n.1)(n2:HdOk n.2):leM m n=true↔¬ mLt n m:=by
 unfold leM;rw[decide_eq_true_iff];have h1:=cmpM_lt n1 n2 m1 m2;have h2:cmpM n m= -cmpM m n:=by
  unfold cmpM;rw[cmpL_flip (a:=m.1) (b:=n.1) (by rw[m1.len,n1.len]),cmpL_flip (a:=m.2) (b:=n.2) (by rw[m2.len,n2.len])]
  split<;>split<;>omega
 rw[<- h1,h2];omega
theorem mds_sub:∀ {l:List Md},MdsOk l->∃ zs:List Mq,zs.map (·.1)=l
 |[],_=>⟨[],rfl⟩
 |m::l,h=>by
  obtain⟨zs,e⟩:=mds_sub (l:=l) fun x hx=>h x (by simp[hx])
  exact⟨⟨m,h m (by simp)⟩::zs,by rw[List.map_cons,e]⟩
theorem srt_uniq:∀ {a b:List Md},MdsOk a->a.Perm b->a.Pairwise (fun x y=> ¬ mLt y x)->b.Pairwise (fun x y=> ¬ mLt y x)->a=b
 |[],b,_,hp,_,_=>by have:=hp.length_eq;simp at this;exact(List.eq_nil_of_length_eq_zero this.symm).symm
 |x::a,b,ho,hp,ha,hb=>by
  cases b with
  |nil=>have:=hp.length_eq;simp at this
  |cons y b=>
   obtain⟨h1,h2⟩:=List.pairwise_cons.1 ha;obtain⟨h3,h4⟩:=List.pairwise_cons.1 hb;have hx:x∈y::b:=hp.subset (by simp);have hy:y∈x::a:=hp.symm.subset (by simp);have e:x=y:=by
    rcases List.mem_cons.1 hx with h|h
    ·exact h
    ·rcases List.mem_cons.1 hy with g|g
     ·exact g.symm
     ·have o1:=ho x (by simp);have o2:=ho y hy;rcases Lx o1.1 o1.2 o2.1 o2.2 with k|k|k
      ·exact absurd k (h3 x h)
      ·exact k
      ·exact absurd k (h1 y g)
   subst e;rw[srt_uniq (fun m hm=>ho m (by simp[hm])) (List.perm_cons _ |>.1 hp) h2 h4]
theorem srtM_ok {l:List Md}(h:MdsOk l):(srtM l).Perm l/\(srtM l).Pairwise (fun x y=> ¬ mLt y x):=by
 have hp:(srtM l).Perm l:=List.mergeSort_perm _ _;refine⟨hp,?_⟩;obtain⟨zs,e⟩:=mds_sub h;have e2:srtM l=(zs.mergeSort fun a b=>leM a.1 b.1).map (·.1):=by
  rw[<- e];unfold srtM;rw[List.map_mergeSort];intro a _ b _;rfl
 rw[e2,List.pairwise_map];have:=List.pairwise_mergeSort (le:=fun a b:Mq=>leM a.1 b.1) (by
  intro a b c h1 h2;rw[Iw a.2.1 a.2.2 b.2.1 b.2.2] at h1;rw[Iw b.2.1 b.2.2 c.2.1 c.2.2] at h2;rw[Iw a.2.1 a.2.2 c.2.1 c.2.2];intro h3;rcases Lx a.2.1 a.2.2 b.2.1 b.2.2 with k|k|k
  ·exact h2 (h3.trans k)
  ·rw[k] at h3;exact h2 h3
  ·exact h1 k) (by
  intro a b;have h1:=Iw a.2.1 a.2.2 b.2.1 b.2.2;have h2:=Iw b.2.1 b.2.2 a.2.1 a.2.2;rw[Bool.or_eq_true,h1,h2];rcases Lx a.2.1 a.2.2 b.2.1 b.2.2 with k|k|k
  ·exact .inl fun h=>(h.trans k).irr
  ·exact .inl fun h=>by rw[k] at h;exact h.irr
  ·exact .inr fun h=>(h.trans k).irr) zs
 exact this.imp fun {a b} h=>(Iw a.2.1 a.2.2 b.2.1 b.2.2).1 h
abbrev encMdF (m:Md):List Value:=encHd m.1++encHd m.2
theorem D7 {m:Md}(h:HdOk m.1/\HdOk m.2):encMdF m=mdC m:=by show encHd m.1++encHd m.2=hdC m.1++hdC m.2;rw[E1 h.1,E1 h.2]
theorem Ce (m:Md):(encMdF m).length=20:=by simp
theorem D3 (m:Md):(encMdF m).all oneB=true:=by rw[List.all_append,C9,C9];rfl
theorem flat_mq (zs:List Mq):zs.flatMap encMq=(zs.map (·.1)).flatMap encMdF:=by
 rw[List.flatMap_map]
 congr 1;funext m
 exact(D7 m.2).symm
theorem sortM_s (d:Sl)(l:List Md)(hm:MdsOk l)(hok:SlOk d l.length 20)(hsz:l.length<=8589934592):
  FSpec prog w0 102 #[slV d l.length, .func (.func 103) #[] #[]] (slH d (l.flatMap encMdF) 144++H) (fun v H'=>∃ _x:Unit,v= .tuple #[]/\H'=slH d ((srtM l).flatMap encMdF) 144++H):=by
 obtain⟨zs,rfl⟩:=mds_sub hm;have h:=sortQ_s (w0:=w0) (H:=H) d zs (by simpa using hok) (by simpa using hsz);rw[List.length_map,<- flat_mq];refine h.mono fun v H' ⟨ks,⟨h1,h2,h3⟩,h4⟩=>⟨(),h1,?_⟩
 obtain⟨s1,s2⟩:=srtM_ok hm;have:ks.map (·.1)=srtM (zs.map (·.1)):=by
  refine srt_uniq (fun m hm=> ?_) ((h2.map _).trans s1.symm) (by rw[List.pairwise_map];exact h3) s2;obtain⟨x,_,rfl⟩:=List.mem_map.1 hm;exact x.2
 rw[h4,flat_mq,this]
theorem Kc2 {a0 a1 a2 a3 a4 a5 a6 a7 a8 a9 a10 a11 a12 a13 a14 a15 a16 a17 a18 a19:Int}(w:World):(Instr.build 144 #[(0, .agg #[Vi a0,Vi a1,Vi a2,Vi a3,Vi a4,Vi a5,Vi a6,Vi a7,Vi a8,Vi a9]),(1, .agg #[Vi a10,Vi a11,Vi a12,Vi a13,Vi a14,Vi a15,Vi a16,Vi a17,Vi a18,Vi a19])]).run prog w= .ok (.agg #[Vi a0,Vi a1,Vi a2,Vi a3,Vi a4,Vi a5,Vi a6,Vi a7,Vi a8,Vi a9,Vi a10,Vi a11,Vi a12,Vi a13,Vi a14,Vi a15,Vi a16,Vi a17,Vi a18,Vi a19]) w:=by kernel_rfl
theorem Kc3 {a0 a1 a2 a3 a4 a5 a6 a7 a8 a9 a10 a11 a12 a13 a14 a15 a16 a17 a18 a19 a20:Int}(w:World):(Instr.build 154 #[(0, .agg #[Vi a0,Vi a1,Vi a2,Vi a3,Vi a4,Vi a5,Vi a6,Vi a7,Vi a8,Vi a9,Vi a10,Vi a11,Vi a12,Vi a13,Vi a14,Vi a15,Vi a16,Vi a17,Vi a18,Vi a19]),(1,Vi a20)]).run prog w= .ok (.agg #[Vi a0,Vi a1,Vi a2,Vi a3,Vi a4,Vi a5,Vi a6,Vi a7,Vi a8,Vi a9,Vi a10,Vi a11,Vi a12,Vi a13,Vi a14,Vi a15,Vi a16,Vi a17,Vi a18,Vi a19,Vi a20]) w:=by kernel_rfl
theorem Kd4 {a0 a1 a2 a3 a4 a5 a6 a7 a8 a9 a10 a11 a12 a13 a14 a15 a16 a17 a18 a19 a20:Int}(w:World):(Instr.buildSlice 148 1 #[(0, .agg #[Vi a0,Vi a1,Vi a2,Vi a3,Vi a4,Vi a5,Vi a6,Vi a7,Vi a8,Vi a9,Vi a10,Vi a11,Vi a12,Vi a13,Vi a14,Vi a15,Vi a16,Vi a17,Vi a18,Vi a19,Vi a20])]).run prog w= .ok (.slice (some ⟨w.heap.size,0,none⟩) 1 1) (w.alloc (Cl [Vi a0,Vi a1,Vi a2,Vi a3,Vi a4,Vi a5,Vi a6,Vi a7,Vi a8,Vi a9,Vi a10,Vi a11,Vi a12,Vi a13,Vi a14,Vi a15,Vi a16,Vi a17,Vi a18,Vi a19,Vi a20] 154)):=by kernel_rfl
theorem Ke4 {a0 a1 a2 a3 a4 a5 a6 a7 a8 a9 a10 a11 a12 a13 a14 a15 a16 a17 a18 a19:Int}(w:World):(Instr.buildSlice 92 1 #[(0, .agg #[Vi a0,Vi a1,Vi a2,Vi a3,Vi a4,Vi a5,Vi a6,Vi a7,Vi a8,Vi a9,Vi a10,Vi a11,Vi a12,Vi a13,Vi a14,Vi a15,Vi a16,Vi a17,Vi a18,Vi a19])]).run prog w= .ok (.slice (some ⟨w.heap.size,0,none⟩) 1 1) (w.alloc (Cl [Vi a0,Vi a1,Vi a2,Vi a3,Vi a4,Vi a5,Vi a6,Vi a7,Vi a8,Vi a9,Vi a10,Vi a11,Vi a12,Vi a13,Vi a14,Vi a15,Vi a16,Vi a17,Vi a18,Vi a19] 144)):=by kernel_rfl
theorem mk107 {a b:Hd}(ha:HdOk a)(hb:HdOk b)(w:World):(Instr.build 144 #[(0, .agg (hdC a).toArray),(1, .agg (hdC b).toArray)]).run prog w= .ok (.agg (hdC a++hdC b).toArray) w:=by
 obtain⟨a0,a1,a2,a3,a4,a5,a6,a7,a8,a9,rfl⟩:=hd10 ha;obtain⟨b0,b1,b2,b3,b4,b5,b6,b7,b8,b9,rfl⟩:=hd10 hb;exact Kc2 w
abbrev encPm (m:Md) (c:Nat):List Value:=mdC m++[Value.int .i64 (c:Nat)]
theorem mk112 {m:Md}(h:HdOk m.1/\HdOk m.2)(c:Nat)(w:World):(Instr.build 154 #[(0, .agg (mdC m).toArray),(1,Vi (c:Nat))]).run prog w= .ok (.agg (encPm m c).toArray) w:=by
 obtain⟨a,b⟩:=m;obtain⟨a0,a1,a2,a3,a4,a5,a6,a7,a8,a9,rfl⟩:=hd10 h.1;obtain⟨b0,b1,b2,b3,b4,b5,b6,b7,b8,b9,rfl⟩:=hd10 h.2;exact Kc3 w
theorem bs112 {m:Md}(h:HdOk m.1/\HdOk m.2)(c:Nat)(w:World):(Instr.buildSlice 148 1 #[(0, .agg (encPm m c).toArray)]).run prog w= .ok (.slice (some ⟨w.heap.size,0,none⟩) 1 1) (w.alloc (Cl (encPm m c) 154)):=by
 obtain⟨a,b⟩:=m;obtain⟨a0,a1,a2,a3,a4,a5,a6,a7,a8,a9,rfl⟩:=hd10 h.1;obtain⟨b0,b1,b2,b3,b4,b5,b6,b7,b8,b9,rfl⟩:=hd10 h.2;exact Kd4 w
theorem bs107 {m:Md}(h:HdOk m.1/\HdOk m.2)(w:World):(Instr.buildSlice 92 1 #[(0, .agg (mdC m).toArray)]).run prog w= .ok (.slice (some ⟨w.heap.size,0,none⟩) 1 1) (w.alloc (Cl (mdC m) 144)):=by
 obtain⟨a,b⟩:=m;obtain⟨a0,a1,a2,a3,a4,a5,a6,a7,a8,a9,rfl⟩:=hd10 h.1;obtain⟨b0,b1,b2,b3,b4,b5,b6,b7,b8,b9,rfl⟩:=hd10 h.2;exact Ke4 w
abbrev encPt (x:Prt):List Value:=encMdF x.1++[Value.int .i64 (x.2:Nat)]
theorem encPt_eq {x:Prt}(h:HdOk x.1.1/\HdOk x.1.2):encPt x=encPm x.1 x.2:=by show encMdF x.1++_=_;rw[D7 h]
theorem encPt_len (x:Prt):(encPt x).length=21:=by simp
theorem encPt_one (x:Prt):(encPt x).all oneB=true:=by rw[List.all_append,D3];rfl
theorem Fz (m:Md)(b:Nat)(v:Bool):HdOk (chg m b v).1/\HdOk (chg m b v).2:=⟨Cm _ _ _,Cm _ _ _⟩
theorem change_s (m:Md)(hm:HdOk m.1/\HdOk m.2)(b:Nat)(hb:b<160)(v:Bool){y:Int}(hy:y=b2i v):
  FSpec prog w0 99 #[.agg (mdC m).toArray,Vi (b:Nat),Vi y] H (Still (.agg (mdC (chg m b v)).toArray) H):=by
 refine Am func99 U ntmps99 U (rDt 2 U (e_ (Ot U cs_) ?_ U));rintro _ _ ⟨n3,rfl,rfl⟩;refine e_ (Ag zeroValue144 cs_) ?_ U;rintro _ _ ⟨n6,rfl,rfl⟩;refine rOt 3 U (Bf 10 (plq10 []) ((n3,Cl (mdC m) 144)::H) mixd qkr sbt ?_ Bh);refine rPt 1 U (o_y U (On U isAgg32 sizeOf32 (Af hm.1) (by exact E7 (by exact fnd_h))) ?_ U Ad);refine rPt 1 U (o_y U (Ao (.cons (T U) (.cons (T U) (.cons Al .nil))) call100 (fun H' hs=>Nn m.1 hm.1 b hb true (x:=1) U)) (rPt 1 U (o_y U (On U isAgg32 sizeOf32 (Af hm.2) (by exact El hm.1 (by exact fnd_h))) ?_ U Ad)) U Ad);refine rPt 2 U (o_y U (Ao (evq3 U U U) call100 (fun H' hs=>Nn m.2 hm.2 b hb v hy)) (o_y U (A1 (.cons (T U) (.cons (T U) .nil)) (mk107 (Cm _ _ _) (Cm _ _ _))) (Av U (e_ (Oq U U sizeOf144 .agg (Cn _ _) (Bd (Cm _ _ _) (Cm _ _ _)) updq (by show 20=_;exact(Bd (Cm _ _ _) (Cm _ _ _)).symm)) ?_ U)) U Ad) U Ad);rintro _ _ ⟨rfl,rfl⟩;refine rOt 3 U (Ai U (.cellA (Aa U) isAgg144 sizeOf144 (Bd (Cm _ _ _) (Cm _ _ _)) qcs .nil) ?_);exact⟨_,⟨rfl,rfl⟩,sbt⟩
theorem N5 (d:Sl)(l:List Prt)(hd:SlOk d l.length 21)(hl:l.length<=68719476736)(m:Md)(hm:HdOk m.1/\HdOk m.2)(c:Nat):
  FSpec prog w0 106 #[slV d l.length, .agg (mdC m).toArray,Vi (c:Nat)] (slH d (l.flatMap encPt) 154++H) (fun u H'=>∃ d':Sl,(u=slV d' (l++onP m c).length/\SlOk d' (l++onP m c).length 21)/\H'=slH d' ((l++onP m c).flatMap encPt) 154++H):=by
 refine Am func106 U ntmps106 U (rDt 2 U (e_ (Ot U cs_) ?_ U));rintro _ _ ⟨n4,rfl,rfl⟩;refine rOt 10 U ?_;refine jcd U (fun c8=> ?_) (fun c8=> ?_)
 ·have he:l++onP m c=l:=by unfold onP;rw[if_pos qom,List.append_nil]
  refine rCt 8 U (Ai U (Ol U) ?_);rw[he];exact⟨_,⟨d,⟨rfl,hd⟩,rfl⟩,sbt⟩
 ·have he:l++onP m c=l++[(m,c)]:=by unfold onP;rw[if_neg qom]
  refine rCt 5 U (y_ (On U isAgg144 sizeOf144 (Bd hm.1 hm.2) qcs) ?_ U);refine rOt 1 U (y_ (A1 (.cons (T U) (.cons (T U) .nil)) (mk112 hm c)) (e_ (Bb (.cons (T U) .nil) (bs112 hm c)) ?_ U) U);rintro _ _ ⟨n14,rfl,rfl⟩;refine e_ (Cg (enc:=encPt) (m,c) (by':=168) locq (T U) (T U) runUnderlying148 runUnderlying148 sizeOf154 typeInfo154 U zeroValue154 U encPt_len (encPt_one _) hd qde qom (by rw[encPt_eq hm];exact A0)) ?_ U;rintro _ _ ⟨d',rfl,hd',rfl⟩;refine rOt 4 U (Ai U (Ol U) ?_);rw[he,List.length_append];exact⟨_,⟨d',⟨rfl,hd'⟩,rfl⟩,sbt⟩
theorem Kc9 {a0 a1 a2 a3 a4 a5 a6 a7 a8 a9 a10 a11 a12 a13 a14 a15 a16 a17 a18 a19:Int}(w:World):(Instr.build 94 #[(0, .agg #[Vi a0,Vi a1,Vi a2,Vi a3,Vi a4,Vi a5,Vi a6,Vi a7,Vi a8,Vi a9,Vi a10,Vi a11,Vi a12,Vi a13,Vi a14,Vi a15,Vi a16,Vi a17,Vi a18,Vi a19])]).run prog w= .ok (.agg #[Vi a0,Vi a1,Vi a2,Vi a3,Vi a4,Vi a5,Vi a6,Vi a7,Vi a8,Vi a9,Vi a10,Vi a11,Vi a12,Vi a13,Vi a14,Vi a15,Vi a16,Vi a17,Vi a18,Vi a19, .slice none 0 0]) w:=by kernel_rfl
theorem Ke0 (a0 a1 a2 a3 a4 a5 a6 a7 a8 a9 a10 a11 a12 a13 a14 a15 a16 a17 a18 a19:Int)(a20:Option Addr)(a20n a20c:Nat)(w:World):(Instr.buildSlice 86 1 #[(0, .agg #[Vi a0,Vi a1,Vi a2,Vi a3,Vi a4,Vi a5,Vi a6,Vi a7,Vi a8,Vi a9,Vi a10,Vi a11,Vi a12,Vi a13,Vi a14,Vi a15,Vi a16,Vi a17,Vi a18,Vi a19, .slice a20 a20n a20c])]).run prog w= .ok (.slice (some ⟨w.heap.size,0,none⟩) 1 1) (w.alloc (Cl [Vi a0,Vi a1,Vi a2,Vi a3,Vi a4,Vi a5,Vi a6,Vi a7,Vi a8,Vi a9,Vi a10,Vi a11,Vi a12,Vi a13,Vi a14,Vi a15,Vi a16,Vi a17,Vi a18,Vi a19, .slice a20 a20n a20c] 94)):=by kernel_rfl
structure Chm where
 p:Md
 d:Sl
 ms:List Md
abbrev encCh (c:Chm):List Value:=encMdF c.p++[slV c.d c.ms.length]
abbrev chV (p:Md) (v:Value):List Value:=mdC p++[v]
theorem encCh_eq {c:Chm}(h:HdOk c.p.1/\HdOk c.p.2):encCh c=chV c.p (slV c.d c.ms.length):=by show encMdF c.p++_=_;rw[D7 h]
theorem D8 (c:Chm):(encCh c).length=21:=by simp
theorem encCh_one (c:Chm):(encCh c).all oneB=true:=by rw[List.all_append,D3];rfl
def chM (out:List Chm):Mm:=out.flatMap fun c=>slH c.d (c.ms.flatMap encMdF) 144
theorem chM_snoc (out:List Chm)(c:Chm):chM (out++[c])=chM out++slH c.d (c.ms.flatMap encMdF) 144:=by unfold chM;rw[List.flatMap_append];simp
abbrev OutM (b:Nat) (d:Sl) (out:List Chm):Mm:=(b,Cl [slV d out.length] 86)::(slH d (out.flatMap encCh) 94++chM out)
theorem loc_out {e:Nat × Obj}{A B X:Mm}:LocL (e::(A++(B++X))) (e::(A++B)) X (fun M'=>M'++X):=by
 have h:e::(A++(B++X))=(e::(A++B))++X:=by simp
 rw[h];exact .h
theorem perm_leaf {α:Type}{n e:α}{A B C R:List α}:(A++(n::e::(B++(C++R)))).Perm (n::e::(B++((C++A)++R))):=by
 refine(List.perm_middle (l₁:=A) (a:=n) (l₂:=e::(B++(C++R)))).trans (List.Perm.cons n ?_);refine(List.perm_middle (l₁:=A) (a:=e) (l₂:=B++(C++R))).trans (List.Perm.cons e ?_);refine(List.perm_append_comm_assoc A B (C++R)).trans (List.Perm.append_left B ?_);have:=List.perm_append_comm_assoc A C R;rw[List.append_assoc];exact this
theorem len20 {p:Md}(h:HdOk p.1/\HdOk p.2):(mdC p).length=20:=Bd h.1 h.2
theorem Ie {n:Nat}{p:Md}{v:Value}{t:TypeId}(h:HdOk p.1/\HdOk p.2)(hf:Fnd H n (Cl (chV p v) t)):Cell w0 H ⟨n,0+20,none⟩ v:=Ae hf 20 v (by show (mdC p++[v])[20]? =_;rw[List.getElem?_append_right (Nat.le_of_eq (len20 h)),len20 h];rfl)
theorem pm_cell {n:Nat}{p:Md}{c:Nat}{t:TypeId}(h:HdOk p.1/\HdOk p.2)(hf:Fnd H n (Cl (encPm p c) t)):Cell w0 H ⟨n,0+20,none⟩ (Vi (c:Nat)):=Ie h hf
theorem Np {n:Nat}{p:Md}{c:Nat}{t:TypeId}(h:HdOk p.1/\HdOk p.2)(hf:Fnd H n (Cl (encPm p c) t)):Cells w0 H n 0 (mdC p):=fun i v hi=>Ae hf i v (by rw[List.getElem?_append_left (by exact(List.getElem?_eq_some_iff.1 hi).1)];exact hi)
theorem setN_ge {l:List Value}{v:Value}{o:Nat}{u:Value}(ho:o=l.length):setN? (l++[u]) o v=some (l++[v]):=by
 subst ho
 induction l with
 |nil=>rfl
 |cons x l ih=>
  show setN? (x::(l++[u])) (l.length+1) v=some (x::(l++[v]));rw[setN?,ih]
theorem set_ch {p:Md}(h:HdOk p.1/\HdOk p.2)(u v:Value):setN? (chV p u) (0+20) v=some (chV p v):=setN_ge (by rw[len20 h])
theorem mk81 {m:Md}(h:HdOk m.1/\HdOk m.2)(w:World):(Instr.build 94 #[(0, .agg (mdC m).toArray)]).run prog w= .ok (.agg (chV m (.slice none 0 0)).toArray) w:=by
 obtain⟨a,b⟩:=m;obtain⟨a0,a1,a2,a3,a4,a5,a6,a7,a8,a9,rfl⟩:=hd10 h.1;obtain⟨b0,b1,b2,b3,b4,b5,b6,b7,b8,b9,rfl⟩:=hd10 h.2;exact Kc9 w
theorem bs81 {m:Md}(h:HdOk m.1/\HdOk m.2)(q:Option Addr)(n c:Nat)(w:World):(Instr.buildSlice 86 1 #[(0, .agg (chV m (.slice q n c)).toArray)]).run prog w= .ok (.slice (some ⟨w.heap.size,0,none⟩) 1 1) (w.alloc (Cl (chV m (.slice q n c)) 94)):=by
 obtain⟨a,b⟩:=m;obtain⟨a0,a1,a2,a3,a4,a5,a6,a7,a8,a9,rfl⟩:=hd10 h.1;obtain⟨b0,b1,b2,b3,b4,b5,b6,b7,b8,b9,rfl⟩:=hd10 h.2;exact Ke0 _ _ _ _ _ _ _ _ _ _ _ _ _ _ _ _ _ _ _ _ _ _ _ w
structure PtH (ns:Ns) (x:Prt):Prop where
 o:HdOk x.1.1/\HdOk x.1.2
 lt:x.2<ns.length
theorem Od {ns:Ns}{m:Md}{c:Nat}(hm:HdOk m.1/\HdOk m.2)(hc:c<ns.length):∀ y∈onP m c,PtH ns y:=fun y hy=>by
 obtain⟨_,rfl⟩:=on_mem.1 hy;exact⟨hm,hc⟩
def mvw (x:Prt) (b:Nat) (v w:Bool):Md:=if v=w then x.1 else chg x.1 b w
def sp1 (ns:Ns) (k b:Nat) (x:Prt) (v w:Bool):List Prt:=onP (mvw x b v w) (cF ns k x.2 v w)
theorem Mv {ns:Ns}{x:Prt}(h:PtH ns x)(b:Nat)(v w:Bool):HdOk (mvw x b v w).1/\HdOk (mvw x b v w).2:=by
 unfold mvw;split
 ·exact h.o
 ·exact Fz _ _ _
theorem spF_eq (ns:Ns)(k b:Nat)(v:Bool)(x:Prt):spF ns k b v x=sp1 ns k b x v false++sp1 ns k b x v true:=by
 unfold spF sp1 mvw;cases v<;>rfl
theorem sp_h {N:Nat}{ns:Ns}(hw:Wf N ns){k b:Nat}{x:Prt}(h:PtH ns x)(v:Bool):∀ y∈spF ns k b v x,PtH ns y:=fun y hy=>by
 rw[spF_eq] at hy;rcases List.mem_append.1 hy with hy|hy
 ·exact Od (Mv h _ _ _) (Cc hw (Cc hw h.lt _) _) y hy
 ·exact Od (Mv h _ _ _) (Cc hw (Cc hw h.lt _) _) y hy
theorem jn_h {N:Nat}{ns:Ns}(hw:Wf N ns){k b:Nat}{x:Prt}(h:PtH ns x):∀ y∈jnF ns k b x,PtH ns y:=fun y hy=>by
 unfold jnF at hy
 split at hy
 ·exact Od h.o (Cc hw (Cc hw h.lt _) _) y hy
 ·rcases List.mem_append.1 hy with hy|hy
  ·exact Od (Fz _ _ _) (Cc hw (Cc hw h.lt _) _) y hy
  ·exact Od (Fz _ _ _) (Cc hw (Cc hw h.lt _) _) y hy
def freF (ns:Ns) (k b:Nat) (x:Prt):List Prt:=if jnB ns k x then jnF ns k b x else []
theorem fre_h {N:Nat}{ns:Ns}(hw:Wf N ns){k b:Nat}{x:Prt}(h:PtH ns x):∀ y∈freF ns k b x,PtH ns y:=fun y hy=>by
 unfold freF at hy
 split at hy
 ·exact jn_h hw h y hy
 ·cases hy
theorem Jo (m:Md)(c:Nat):(onP m c).length<=1:=by unfold onP;split<;>simp
theorem jn_len (ns:Ns)(k b:Nat)(x:Prt):(jnF ns k b x).length<=2:=by
 unfold jnF
 split
 ·have:=Jo x.1 (cF ns k x.2 false false);omega
 ·rw[List.length_append];have:=Jo (chg x.1 b false) (cF ns k x.2 false false);have:=Jo (chg x.1 b true) (cF ns k x.2 false true);omega
theorem fre_len (ns:Ns)(k b:Nat)(x:Prt):(freF ns k b x).length<=2:=by unfold freF;split;exact jn_len _ _ _ _;simp
theorem sp_len (ns:Ns)(k b:Nat)(v:Bool)(x:Prt):(spF ns k b v x).length<=2:=by
 rw[spF_eq,List.length_append];unfold sp1;have:=Jo (mvw x b v false) (cF ns k x.2 v false);have:=Jo (mvw x b v true) (cF ns k x.2 v true);omega
theorem flat2 {α β:Type}{f:α->List β}(h:∀ x,(f x).length<=2):∀ l:List α,(l.flatMap f).length<=2*l.length
 |[]=>Nat.le_refl _
 |x::l=>by
  have h1:=h x;have h2:=flat2 h l;rw[List.flatMap_cons,List.length_append,List.length_cons];omega
theorem flat_take {α β:Type}[Inhabited α] {f:α->List β}{l:List α}{i:Nat}(hi:i<l.length):(l.take (i+1)).flatMap f=(l.take i).flatMap f++f (gd l i):=by
 rw[List.take_succ_eq_append_getElem hi,List.flatMap_append,<- Ar hi];simp
theorem all_take {α:Type}[Inhabited α] {f:α->Bool}{l:List α}{i:Nat}(hi:i<l.length):(l.take (i+1)).all f=((l.take i).all f&&f (gd l i)):=by
 rw[List.take_succ_eq_append_getElem hi,List.all_append,<- Ar hi];simp
theorem flat_mem {α:Type}{f:Prt->List α}{P:α->Prop}{l:List Prt}(h:∀ x∈l,∀ y∈f x,P y):∀ y∈l.flatMap f,P y:=fun y hy=>by
 obtain⟨x,h1,h2⟩:=List.mem_flatMap.1 hy;exact h x h1 y h2
theorem fre_all {ns:Ns}{k b:Nat}{l:List Prt}(h:l.all (jnB ns k)=true):l.flatMap (freF ns k b)=l.flatMap (jnF ns k b):=by
 induction l with
 |nil=>rfl
 |cons x l ih=>
  rw[List.all_cons,Bool.and_eq_true] at h;rw[List.flatMap_cons,List.flatMap_cons,ih h.2];unfold freF;rw[if_pos h.1]
def rsP (ns:Ns) (bs:List Nat) (r k:Nat) (p:Md) (l:List Prt):List (Md × List Md):=(rsF ns bs r k p l).map fun c=>(c.1,srtM c.2)
def Chm.pl (c:Chm):Md × List Md:=(c.p,c.ms)
theorem rsP_nil {ns:Ns}{bs:List Nat}{r k:Nat}{p:Md}:rsP ns bs r k p []=[]:=by unfold rsP rsF;simp
theorem rsP_end {ns:Ns}{bs:List Nat}{k:Nat}{p:Md}{l:List Prt}(h:l≠[]):rsP ns bs 0 k p l=[(p,srtM (l.map (·.1)))]:=by unfold rsP rsF;rw[if_neg h];rfl
theorem rsP_jn {ns:Ns}{bs:List Nat}{r k:Nat}{p:Md}{l:List Prt}(h:l≠[])(hj:l.all (jnB ns k)=true):rsP ns bs (r+1) k p l=rsP ns bs r (k+1) p (l.flatMap (jnF ns k (gd bs k))):=by
 unfold rsP;rw[rsF,if_neg h];simp only[hj,if_true]
theorem rsP_sp {ns:Ns}{bs:List Nat}{r k:Nat}{p:Md}{l:List Prt}(h:l≠[])(hj:l.all (jnB ns k)=false):rsP ns bs (r+1) k p l=(List.range 2).flatMap fun i=>rsP ns bs r (k+1) (chg p (gd bs k) (is1 i)) (l.flatMap (spF ns k (gd bs k) (is1 i))):=by
 have h2:∀ f:Nat->List (Md × List Md),(List.range 2).flatMap f=f 0++f 1:=fun f=>by simp[List.range_succ]
 rw[h2];unfold rsP;rw[rsF,if_neg h];simp only[hj,Bool.false_eq_true,if_false,List.map_append]
 rfl
structure Bdd (ns:Ns) (bs:List Nat) (Q:Nat->Md->List Prt->Prop):Prop where
 len:∀ k p l,Q k p l->l.length<=8589934592
 jn:∀ k p l,Q k p l->k<bs.length->l.all (jnB ns k)=true->Q (k+1) p (l.flatMap (jnF ns k (gd bs k)))
 sp:∀ k p l,Q k p l->k<bs.length->l.all (jnB ns k)=false->∀ v,Q (k+1) (chg p (gd bs k) v) (l.flatMap (spF ns k (gd bs k) v))
def twoM (dd:Nat->Sl) (ss:Nat->List Prt):Mm:=slH (dd 0) ((ss 0).flatMap encPt) 154++slH (dd 1) ((ss 1).flatMap encPt) 154
def upD {α:Type} (f:Nat->α) (v:Nat) (x:α):Nat->α:=fun i=>if i=v then x else f i
theorem two_loc {dd:Nat->Sl}{ss:Nat->List Prt}{v:Nat}(hv:v<2)(X:Mm):∃ R F,LocL (twoM dd ss++X) (slH (dd v) ((ss v).flatMap encPt) 154) R F/\∀ d' s',F (slH d' (s'.flatMap encPt) 154)=twoM (upD dd v d') (upD ss v s')++X:=by
 have:v=0\/v=1:=by omega
 unfold twoM;rcases this with rfl|rfl
 ·rw[List.append_assoc];exact⟨_,_, .h,fun d' s'=>by simp[upD]⟩
 ·rw[List.append_assoc];exact⟨_,_, .a .h,fun d' s'=>by simp[upD]⟩
theorem two_arr {w0:World}{dd:Nat->Sl}{ss:Nat->List Prt}(ho:∀ v,v<2->SlOk (dd v) (ss v).length 21){v:Nat}(hv:v<2):Arr w0 (twoM dd ss) (slQ (dd v)) 21 encPt (ss v):=by
 have h:=fun v hv=>B3 (w0:=w0) (e:=154) (X:=[]) (enc:=encPt) (l:=ss v) encPt_len (ho v hv)
 have:v=0\/v=1:=by omega
 rcases this with rfl|rfl
 ·have:=h 0 qom;rw[List.append_nil] at this;exact this.mono (List.sublist_append_left _ _)
 ·have:=h 1 qom;rw[List.append_nil] at this;exact this.mono (List.sublist_append_right _ _)
abbrev twoC (dd:Nat->Sl) (ss:Nat->List Prt):List Value:=[slV (dd 0) (ss 0).length,slV (dd 1) (ss 1).length]
theorem two_cell {n:Nat}{dd:Nat->Sl}{ss:Nat->List Prt}{t:TypeId}(hf:Fnd H n (Cl (twoC dd ss) t)){v:Nat}(hv:v<2):Cell w0 H ⟨n,0+(v:Int).toNat*1,none⟩ (slV (dd v) (ss v).length):=by
 have:v=0\/v=1:=by omega
 rcases this with rfl|rfl
 ·exact Ae hf 0 _ U
 ·exact Ae hf 1 _ U
theorem two_set {dd:Nat->Sl}{ss:Nat->List Prt}{v:Nat}(hv:v<2)(d':Sl)(s':List Prt):setN? (twoC dd ss) (0+(v:Int).toNat*1) (slV d' s'.length)=some (twoC (upD dd v d') (upD ss v s')):=by
 have:v=0\/v=1:=by omega
 rcases this with rfl|rfl<;>rfl
abbrev fouC (g:Nat->Nat):List Value:=[Vi (g 0:Nat),Vi (g 1:Nat),Vi (g 2:Nat),Vi (g 3:Nat)]
theorem fou_cell {n:Nat}{g:Nat->Nat}{t:TypeId}(hf:Fnd H n (Cl (fouC g) t)){v w:Nat}(hv:v<2)(hw:w<2):Cell w0 H ⟨n,0+(v:Int).toNat*2+(w:Int).toNat*1,none⟩ (Vi (g (2*v+w):Nat)):=by
 have h1:v=0\/v=1:=by omega
 have h2:w=0\/w=1:=by omega
 rcases h1 with rfl|rfl<;>rcases h2 with rfl|rfl
 ·exact Ae hf 0 _ U
 ·exact Ae hf 1 _ U
 ·exact Ae hf 2 _ U
 ·exact Ae hf 3 _ U
theorem fou_set {g:Nat->Nat}{v w:Nat}(hv:v<2)(hw:w<2)(r:Nat):setN? (fouC g) (0+(v:Int).toNat*2+(w:Int).toNat*1) (Vi (r:Nat))=some (fouC (upD g (2*v+w) r)):=by
 have h1:v=0\/v=1:=by omega
 have h2:w=0\/w=1:=by omega
 rcases h1 with rfl|rfl<;>rcases h2 with rfl|rfl<;>rfl
theorem part3 (xs:Array Value)(i:Nat)(v:Value)(h:xs[i]? =some v)(w:World):(part 3 xs i).run prog w= .ok v w:=by
 simp[part,isAgg3,Sem.run_bind,Result.andThen,h]
theorem eqItems_ints (d t:Nat)(k k':IntKind)(hu:prog.underlying t=some (.int k'))(hp:∀ (xs:Array Value) (i:Nat) (v:Value),xs[i]? =some v->∀ w,(part t xs i).run prog w= .ok v w)(xs ys:List Int)(w:World):∀ (is:List Nat),(∀ i∈is,i<xs.length/\i<ys.length)->
  (Op.eqItems (d+1) t 1 (xs.map (Value.int k)).toArray (ys.map (Value.int k)).toArray is).run prog w= .ok (is.all fun i=>gd xs i==gd ys i) w
 |[],_=>by simp[Op.eqItems]
 |i::is,h=>by
  obtain⟨h1,h2⟩:=h i (by simp);have e1:=hp (xs.map (Value.int k)).toArray (i*1) (.int k (gd xs i)) (by simp[Cy h1]) w;have e2:=hp (ys.map (Value.int k)).toArray (i*1) (.int k (gd ys i)) (by simp[Cy h2]) w;simp only[Op.eqItems,Sem.run_bind,e1,e2,Result.andThen_ok,run_equalIn_int w d t k k' _ _ hu];have ih:=eqItems_ints d t k k' hu hp xs ys w is (fun j hj=>h j (by simp[hj]));cases hb:(gd xs i==gd ys i)
  ·simp[hb]
  ·simp[hb,ih]
theorem eqA2 (a b c d:Nat)(w:World):(Op.equal 160 (.agg #[Vi (a:Nat),Vi (b:Nat)]) (.agg #[Vi (c:Nat),Vi (d:Nat)])).run prog w= .ok (decide (a=c/\b=d)) w:=by
 unfold Op.equal Op.maxDepth;rw[run_equalIn_array (i:=prog.types.getD 3 default) w 9999 _ _ (show prog.underlying 160=some (.array 2 3) from by kernel_rfl) qkr];have h:=eqItems_ints 9998 3 .i64 .i64 qkr part3 [(a:Int),(b:Int)] [(c:Int),(d:Int)] w [0,1] (by simp);rw[show prog.cellsOf 3=1 from by kernel_rfl,show List.range 2=[0,1] from rfl];show (Op.eqItems (9998+1) 3 1 ([(a:Int),(b:Int)].map (Value.int .i64)).toArray ([(c:Int),(d:Int)].map (Value.int .i64)).toArray [0,1]).run prog w=_;rw[h];refine congrArg (fun r=>Result.ok r w) ?_;simp[gd]
 by_cases h:a=c<;>by_cases h2:b=d<;>simp[h,h2]<;>(intros;omega)
noncomputable def onC (c:Nat) (t:List Nat):List Nat:=fz c fun c=>iB (Nat.beq c 0) t (c::t)
noncomputable def cC (s:Fs) (k id:Nat) (v w:Bool):Nat:=chC s (chC s id (Nat.mul 2 k) v) (Nat.succ (Nat.mul 2 k)) w
noncomputable def jnbC (s:Fs) (k x:Nat):Bool:=(Nat.beq (cC s k x false true) 0&&(Nat.beq (cC s k x true false) 0&&Nat.beq (cC s k x false false) (cC s k x true true)))||(Nat.beq (cC s k x false false) (cC s k x true false)&&Nat.beq (cC s k x false true) (cC s k x true true))
noncomputable def jnC (s:Fs) (k x:Nat) (t:List Nat):List Nat:=iB (Nat.beq (cC s k x false true) 0&&(Nat.beq (cC s k x true false) 0&&Nat.beq (cC s k x false false) (cC s k x true true))) (onC (cC s k x false false) t) (onC (cC s k x false false) (onC (cC s k x false true) t))
noncomputable def spC (s:Fs) (k:Nat) (v:Bool) (x:Nat) (t:List Nat):List Nat:=onC (cC s k x v false) (onC (cC s k x v true) t)
noncomputable def flC (g:Nat->List Nat->List Nat) (l:List Nat):List Nat:=List.rec (motive:=fun _=>List Nat) [] (fun x _ t=>g x t) l
noncomputable def allC (p:Nat->Bool) (l:List Nat):Bool:=List.rec (motive:=fun _=>Bool) true (fun x _ t=>iB (p x) t false) l
noncomputable def lenC (l:List Nat):Nat:=List.rec (motive:=fun _=>Nat) 0 (fun x _ t=>fz t fun t=>Nat.succ t) l
noncomputable def nilC {α:Type} (l:List Nat) (x y:α):α:=List.rec (motive:=fun _=>α) x (fun _ _ _=>y) l
noncomputable def rdC (s:Fs) (r:Nat):Nat->List Nat->Option (List Nat):=
 Nat.rec (motive:=fun _=>Nat->List Nat->Option (List Nat)) (fun k l=>nilC l (some []) (iB (Nat.ble (lenC l) 1000) (some [lenC l]) none))
  (fun r ih k l=>nilC l (some []) (iB (Nat.ble (lenC l) 1000) (iB (allC (jnbC s k) l) (ih (Nat.succ k) (flC (jnC s k) l)) (bO (ih (Nat.succ k) (flC (spC s k false) l)) fun a=>bO (ih (Nat.succ k) (flC (spC s k true) l)) fun b=>some (a++b))) none)) r
theorem J6:∀ l:List Nat,lenC l=l.length
 |[]=>rfl
 |x::l=>by show fz (lenC l) _=_;rw[K7,J6 l];rfl
theorem allC_eq (p:Nat->Bool):∀ l:List Nat,allC p l=l.all p
 |[]=>rfl
 |x::l=>by show iB (p x) (allC p l) false=_;rw[C6,allC_eq p l,List.all_cons];cases p x<;>rfl
theorem nilC_eq {α:Type}(l:List Nat)(x y:α):nilC l x y=if l=[] then x else y:=by cases l<;>rfl
section
variable {N:Nat} {ns:Ns} {s:Fs} {bs:List Nat}
theorem Rs.cC (h:Rs N ns s)(k id:Nat)(v w:Bool):YtkgfmjanajdibaaGreat.cC s k id v w=cF ns k id v w:=by
 show chC s (chC s id (2*k) v) (2*k+1) w=_;rw[h.ch,h.ch];rfl
theorem nb_eq (a b:Nat):Nat.beq a b=(a==b):=by
 rw[Bool.eq_iff_iff,beq_iff_eq];exact nbeq
theorem Ly (c:Nat)(m:Md)(t:List Nat):onC c t=(onP m c).map Prod.snd++t:=by
 unfold onC onP;rw[K7,C6,nb_eq]
 by_cases e:c=0
 ·subst e;rfl
 ·rw[if_neg (by simpa using e),if_neg e];rfl
theorem jnbC_eq (h:Rs N ns s)(k:Nat)(x:Prt):jnbC s k x.2=jnB ns k x:=by
 unfold jnbC jnB;simp only[h.cC,nb_eq]
theorem jnC_eq (h:Rs N ns s)(k b:Nat)(x:Prt)(t:List Nat):jnC s k x.2 t=(jnF ns k b x).map Prod.snd++t:=by
 unfold jnC jnF;rw[C6];simp only[h.cC,nb_eq,Bool.and_eq_true,beq_iff_eq]
 split
 ·exact Ly _ _ _
 ·rw[List.map_append,List.append_assoc,<- Ly,<- Ly]
theorem spC_eq (h:Rs N ns s)(k b:Nat)(v:Bool)(x:Prt)(t:List Nat):spC s k v x.2 t=(spF ns k b v x).map Prod.snd++t:=by
 unfold spC spF;simp only[h.cC];rw[List.map_append,List.append_assoc,<- Ly,<- Ly]
theorem Mw {g:Nat->List Nat->List Nat}{G:Prt->List Prt}(hg:∀ x t,g x.2 t=(G x).map Prod.snd++t):∀ l:List Prt,flC g (l.map Prod.snd)=(l.flatMap G).map Prod.snd
 |[]=>rfl
 |x::l=>by
  show g x.2 (flC g (l.map Prod.snd))=_;rw[hg,Mw hg l,List.flatMap_cons,List.map_append]
theorem all_jn (h:Rs N ns s)(k:Nat)(l:List Prt):allC (jnbC s k) (l.map Prod.snd)=l.all (jnB ns k):=by
 rw[allC_eq,List.all_map]
 congr 1
 funext x
 exact jnbC_eq h k x
theorem Mx (h:Rs N ns s)(bs:List Nat):∀ (r k:Nat) (p:Md) (l:List Prt) (L:List Nat),rdC s r k (l.map Prod.snd)=some L->(rsF ns bs r k p l).map (fun c=>c.2.length)=L
 |0,k,p,l,L,e=>by
  have e:nilC (l.map Prod.snd) (some []) (iB (Nat.ble (lenC (l.map Prod.snd)) 1000) (some [lenC (l.map Prod.snd)]) none)=some L:=e;rw[nilC_eq] at e;rw[rsF]
  by_cases h0:l=[]
  ·subst h0;simp at e ⊢;exact e
  ·rw[if_neg (by simpa using h0)] at e;rw[if_neg h0];rw[C6] at e
   split at e
   ·rw[J6] at e;obtain rfl:=Option.some.inj e;simp
   ·cases e
 |r+1,k,p,l,L,e=>by
  have e:nilC (l.map Prod.snd) (some []) (iB (Nat.ble (lenC (l.map Prod.snd)) 1000) (iB (allC (jnbC s k) (l.map Prod.snd)) (rdC s r (k+1) (flC (jnC s k) (l.map Prod.snd))) (bO (rdC s r (k+1) (flC (spC s k false) (l.map Prod.snd))) fun a=>bO (rdC s r (k+1) (flC (spC s k true) (l.map Prod.snd))) fun b=>some (a++b))) none)=some L:=e;rw[nilC_eq] at e;rw[rsF]
  by_cases h0:l=[]
  ·subst h0;simp at e ⊢;exact e
  ·rw[if_neg (by simpa using h0),C6] at e;rw[if_neg h0]
   split at e
   ·rw[C6,all_jn h,Mw (jnC_eq h k (gd bs k)),Mw (spC_eq h k (gd bs k) false),Mw (spC_eq h k (gd bs k) true)] at e
    split
    ·rename_i hj;rw[if_pos hj] at e;exact Mx h bs r (k+1) p _ L e
    ·rename_i hj;rw[if_neg hj] at e;obtain⟨a,e1,e⟩:=A4 e;obtain⟨b,e2,e⟩:=A4 e;obtain rfl:=Option.some.inj e;rw[List.map_append,Mx h bs r (k+1) _ _ a e1,Mx h bs r (k+1) _ _ b e2]
   ·cases e
end
def ssF (ns:Ns) (k b:Nat) (l:List Prt) (i:Nat) (x:Prt) (v w:Nat) (u:Nat):List Prt:=if u<2 then (l.take i).flatMap (spF ns k b (is1 u))++(if u<v then spF ns k b (is1 u) x else if u=v then (List.range w).flatMap (fun j=>sp1 ns k b x (is1 u) (is1 j)) else []) else []
def ssI (ns:Ns) (k b:Nat) (l:List Prt) (i:Nat) (u:Nat):List Prt:=if u<2 then (l.take i).flatMap (spF ns k b (is1 u)) else []
section
variable {ns:Ns} {k b:Nat} {l:List Prt} {i:Nat} {x:Prt} {v w:Nat}
theorem ss_00:ssF ns k b l i x 0 0=ssI ns k b l i:=by
 funext u;unfold ssF ssI
 split
 ·rw[if_neg qom];simp
 ·rfl
theorem ss_w (hv:v<2):upD (ssF ns k b l i x v w) v (ssF ns k b l i x v w v++sp1 ns k b x (is1 v) (is1 w))=ssF ns k b l i x v (w+1):=by
 funext u;unfold upD
 split
 ·rename_i h;subst h;unfold ssF;rw[if_pos hv,if_pos hv,if_neg (Nat.lt_irrefl _),if_pos U,if_neg (Nat.lt_irrefl _),if_pos U,List.range_succ,List.flatMap_append,List.append_assoc];simp
 ·rename_i h;unfold ssF;simp only[if_neg h]
theorem ss_2 (hv:v<2):ssF ns k b l i x v 2=ssF ns k b l i x (v+1) 0:=by
 funext u;unfold ssF
 split
 ·by_cases h1:u<v
  ·rw[if_pos h1,if_pos qom]
  ·by_cases h2:u=v
   ·subst h2;rw[if_neg (Nat.lt_irrefl _),if_pos U,if_pos (Nat.lt_succ_self u),spF_eq];simp[List.range_succ,is1]
   ·rw[if_neg h1,if_neg h2,if_neg qom]
    split<;>simp
 ·rfl
theorem My (hi:i<l.length)(hx:x=gd l i):ssF ns k b l i x 2 0=ssI ns k b l (i+1):=by
 funext u;unfold ssF ssI
 split
 ·rw[flat_take hi,hx]
 ·rfl
theorem ss_len (u:Nat)(hw:w<=2):(ssF ns k b l i x v w u).length<=2*l.length+4:=by
 unfold ssF
 split
 ·rw[List.length_append];have h1:=flat2 (f:=spF ns k b (is1 u)) (sp_len ns k b (is1 u)) (l.take i);have h2:(l.take i).length<=l.length:=by rw[List.length_take];omega
  have h3:(if u<v then spF ns k b (is1 u) x else if u=v then (List.range w).flatMap (fun j=>sp1 ns k b x (is1 u) (is1 j)) else []).length<=4:=by
   split
   ·have:=sp_len ns k b (is1 u) x;omega
   ·split
    ·have:=flat2 (f:=fun j=>sp1 ns k b x (is1 u) (is1 j)) (fun j=>by have:=Jo (mvw x b (is1 u) (is1 j)) (cF ns k x.2 (is1 u) (is1 j));unfold sp1;omega) (List.range w);rw[List.length_range] at this;omega
    ·simp
  omega
 ·simp
theorem ssI_at (hu:v<2):ssI ns k b l l.length v=l.flatMap (spF ns k b (is1 v)):=by unfold ssI;rw[if_pos hu,List.take_length]
end
def gI (ns:Ns) (k:Nat) (x:Prt) (n:Nat) (g:Nat->Nat):Prop:=∀ t,t<n->g t=cF ns k x.2 (is1 (t / 2)) (is1 (t % 2))
theorem gI_0 {ns:Ns}{k:Nat}{x:Prt}{g:Nat->Nat}:gI ns k x 0 g:=fun t h=>by omega
theorem gI_up {ns:Ns}{k:Nat}{x:Prt}{v w:Nat}{g:Nat->Nat}(h:gI ns k x (2*v+w) g)(hw:w<2):gI ns k x (2*v+(w+1)) (upD g (2*v+w) (cF ns k x.2 (is1 v) (is1 w))):=fun t ht=>by
 unfold upD
 split
 ·rename_i e;subst e;rw[show (2*v+w) / 2=v by omega,show (2*v+w) % 2=w by omega]
 ·exact h t qom
theorem jnB_1 {ns:Ns}{k b:Nat}{x:Prt}{g:Nat->Nat}(h:gI ns k x 4 g)(hc:g 1=0/\g 2=0/\g 0=g 3):jnB ns k x=true/\freF ns k b x=onP x.1 (g 0):=by
 have h0:=h 0 qom;have h1:=h 1 qom;have h2:=h 2 qom;have h3:=h 3 qom;simp only[is1] at h0 h1 h2 h3;obtain⟨c1,c2,c3⟩:=hc;rw[h1] at c1;rw[h2] at c2;rw[h0,h3] at c3;have hj:jnB ns k x=true:=by unfold jnB;simp at c1 c2 c3;simp[c1,c2,c3]
 refine⟨hj,?_⟩;unfold freF jnF;rw[if_pos hj,if_pos (by simp at c1 c2 c3;exact⟨c1,c2,c3⟩),h0]
 rfl
theorem jnB_2 {ns:Ns}{k b:Nat}{x:Prt}{g:Nat->Nat}(h:gI ns k x 4 g)(hn: ¬ (g 1=0/\g 2=0/\g 0=g 3))(hc:g 0=g 2/\g 1=g 3):jnB ns k x=true/\freF ns k b x=onP (chg x.1 b false) (g 0)++onP (chg x.1 b true) (g 1):=by
 have h0:=h 0 qom;have h1:=h 1 qom;have h2:=h 2 qom;have h3:=h 3 qom;simp only[is1] at h0 h1 h2 h3;obtain⟨c1,c2⟩:=hc;rw[h0,h2] at c1;rw[h1,h3] at c2;rw[h1,h2,h0,h3] at hn;have hj:jnB ns k x=true:=by unfold jnB;simp at c1 c2;simp[c1,c2]
 refine⟨hj,?_⟩;unfold freF jnF;rw[if_pos hj,if_neg (by simp at hn ⊢;exact hn),h0,h1]
 rfl
theorem jnB_3 {ns:Ns}{k b:Nat}{x:Prt}{g:Nat->Nat}(h:gI ns k x 4 g)(hn: ¬ (g 1=0/\g 2=0/\g 0=g 3))(hc: ¬ (g 0=g 2/\g 1=g 3)):jnB ns k x=false/\freF ns k b x=[]:=by
 have h0:=h 0 qom;have h1:=h 1 qom;have h2:=h 2 qom;have h3:=h 3 qom;simp only[is1] at h0 h1 h2 h3;rw[h1,h2,h0,h3] at hn;rw[h0,h2,h1,h3] at hc;have hj:jnB ns k x=false:=by
  unfold jnB;simp at hn hc ⊢;exact⟨fun a b c=>hn a b c,fun a b=>hc a b⟩
 exact⟨hj,by unfold freF;rw[hj];rfl⟩
theorem fou_half {n:Nat}{g:Nat->Nat}{t:TypeId}(hf:Fnd H n (Cl (fouC g) t)):Cells w0 H n (0+(0:Int).toNat*2) [Vi (g 0:Nat),Vi (g 1:Nat)]/\Cells w0 H n (0+(1:Int).toNat*2) [Vi (g 2:Nat),Vi (g 3:Nat)]:=by
 refine⟨fun i v hi=> ?_,fun i v hi=> ?_⟩
 ·match i,hi with
  |0,hi=>exact Ae hf 0 v (by simpa using hi)
  |1,hi=>exact Ae hf 1 v (by simpa using hi)
 ·match i,hi with
  |0,hi=>exact Ae hf 2 v (by simpa using hi)
  |1,hi=>exact Ae hf 3 v (by simpa using hi)
theorem arr_pt {q:Option Addr}{ns:Ns}{l:List Prt}(h:Arr w0 H q 21 encPt l)(hp:∀ x∈l,PtH ns x):Arr w0 H q 21 (fun x:Prt=>encPm x.1 x.2) l:=fun i u hi=>by
 have h1:=h i u hi;rw[encPt_eq (hp u (List.mem_of_getElem? hi)).o] at h1;exact h1
theorem encPm_one (m:Md)(c:Nat):(encPm m c).all oneB=true:=by rw[List.all_append,Cn];rfl
theorem Fj {m:Md}(h:HdOk m.1/\HdOk m.2)(c:Nat):(encPm m c).length=21:=by show (mdC m++[Value.int .i64 (c:Nat)]).length=21;rw[List.length_append,len20 h];rfl
theorem chV_len {m:Md}(h:HdOk m.1/\HdOk m.2)(v:Value):(chV m v).length=21:=by show (mdC m++[v]).length=21;rw[List.length_append,len20 h];rfl
theorem chV_one {m:Md}{q:Option Addr}{n c:Nat}:(chV m (.slice q n c)).all oneB=true:=by rw[List.all_append,Cn];rfl
theorem is1_ne {v w:Nat}(hv:v<2)(hw:w<2)(h: ¬ v=w): ¬ is1 v=is1 w:=by
 have h1:v=0\/v=1:=by omega
 have h2:w=0\/w=1:=by omega
 rcases h1 with rfl|rfl<;>rcases h2 with rfl|rfl<;>simp[is1] at *
theorem upD_self {α:Type}(f:Nat->α)(v:Nat)(x:α):upD f v x v=x:=if_pos U
theorem add_two {w0:World}{X:Mm}{dd:Nat->Sl}{ss:Nat->List Prt}{v:Nat}(hv:v<2)(hd:SlOk (dd v) (ss v).length 21)(hl:(ss v).length<=68719476736)(m:Md)(hm:HdOk m.1/\HdOk m.2)(c:Nat):
  FSpec prog w0 106 #[slV (dd v) (ss v).length, .agg (mdC m).toArray,Vi (c:Nat)] (twoM dd ss++X) (fun u H'=>∃ d':Sl,(u=slV d' (ss v++onP m c).length/\SlOk d' (ss v++onP m c).length 21)/\H'=twoM (upD dd v d') (upD ss v (ss v++onP m c))++X):=by
 obtain⟨R,F,h1,h2⟩:=two_loc (dd:=dd) (ss:=ss) hv X;refine(B7 (N5 (w0:=w0) (H:=R) (dd v) (ss v) hd hl m hm c) h1).mono ?_;rintro u H' ⟨d',hu,rfl⟩;exact⟨d',hu,h2 _ _⟩
theorem take_two {α:Type}(A B:List α)(n:Nat):A.take n++B.take (n - (A.take n).length)=(A++B).take n:=by
 rw[List.take_append]
 congr 2
 rw[List.length_take];omega
structure Ru where
 R:Mm
 b3:Nat
 b4:Nat
 b5:Nat
 b6:Nat
abbrev Ru.cap (E:Ru):List Value:=[Pt (E.b3) 0,Pt (E.b4) 0,Pt (E.b5) 0,Pt (E.b6) 0]
structure RuOk (D:Sd) (E:Ru):Prop where
 f4:Fnd E.R E.b4 (Cl [Pt (D.p) 0] 68)
 f5:Fnd E.R E.b5 (Cl [.func (.func 99) #[] #[]] 146)
 f6:Fnd E.R E.b6 (Cl [.func (.func 101) #[] E.cap.toArray] 147)
structure ChH (c:Chm):Prop where
 o:HdOk c.p.1/\HdOk c.p.2
 sl:SlOk c.d c.ms.length 20
 ms:MdsOk c.ms
abbrev RuK (D:Sd) (E:Ru) (ns:Ns) (r k:Nat) (p:Md) (l:List Prt) (out:List Chm) (R:Mm):Value->Mm->Prop:=fun u H'=>∃ x:Sl × List Chm,(x.2.map Chm.pl=(rsP ns D.bs r k p l).take (4001 - out.length)/\SlOk x.1 (out++x.2).length 21/\∀ c∈x.2,ChH c)/\H'=OutM E.b3 x.1 (out++x.2)++R
def RuS (D:Sd) (E:Ru) (v:Sv) (ns:Ns) (Q:Nat->Md->List Prt->Prop) (r:Nat) (w0:World):Prop:=∀ {R:Mm} {dO:Sl} {out:List Chm} {k:Nat} {p:Md} {l:List Prt} {ql:Option Addr} {cl:Nat},E.R.Sublist R->(SM D v ns).Sublist R->Arr w0 R D.qb 1 encB1 D.bs->Arr w0 R ql 21 encPt l->(∀ x∈l,PtH ns x)->HdOk p.1/\HdOk p.2->Q k p l->SlOk dO out.length 21->out.length<=4001->r+k=D.bs.length->
 FSpec prog w0 101 (Vi (k:Nat):: .agg (mdC p).toArray:: .slice ql l.length cl::E.cap).toArray (OutM E.b3 dO out++R) (RuK D E ns r k p l out R)
theorem ru_step {w0:World}{D:Sd}{E:Ru}(hO:RuOk D E){sv:Sv}{ns:Ns}(hst:StOk D sv ns)(hbs:BsOk D.bs){Qp:Nat->Md->List Prt->Prop}(Q:Bdd ns D.bs Qp){r:Nat}(ih:∀ r0,r=r0+1->RuS D E sv ns Qp r0 w0){R:Mm}{dO:Sl}{out:List Chm}{k:Nat}{p:Md}{l:List Prt}{ql:Option Addr}{cl:Nat}(hR:E.R.Sublist R)(hS:(SM D sv ns).Sublist R)(hB:Arr w0 R D.qb 1 encB1 D.bs)(hA:Arr w0 R ql 21 encPt l)(hpt:∀ x∈l,PtH ns x)(hp:HdOk p.1/\HdOk p.2)(hq:Qp k p l)(hdo:SlOk dO out.length 21)(ho:out.length<=4001)(hr:r+k=D.bs.length):
  FSpec prog w0 101 #[Vi (k:Nat), .agg (mdC p).toArray, .slice ql l.length cl,Pt (E.b3) 0,Pt (E.b4) 0,Pt (E.b5) 0,Pt (E.b6) 0] (OutM E.b3 dO out++R) (RuK D E ns r k p l out R):=by
 refine Am func101 U ntmps101 U ?_;have hw0:=hst.w;have hbl:=hst.bl;have hlen:=Q.len _ _ _ hq;have hAp:=arr_pt hA hpt;have eR:OutM E.b3 dO out++R=(E.b3,Cl [slV dO out.length] 86)::(slH dO (out.flatMap encCh) 94++(chM out++R)):=by simp
 rw[eR];refine rDt 2 U (e_ (Ot U cs_) ?_ U);rintro _ _ ⟨n8,rfl,rfl⟩;refine rOt 10 U ?_;refine Aq (s:=30) (Aa U) (fun c30=> ?_) (fun c30=> ?_)
 ·obtain rfl:l=[]:=List.eq_nil_of_length_eq_zero (by have h9:(l.length:Int)=0:=c30;omega);refine rOt 11 U (Ai U .nil ?_);exact⟨_,⟨(dO,[]),⟨by rw[rsP_nil];simp,by rw[List.append_nil];exact hdo,fun c hc=>by cases hc⟩,rfl⟩,by dsimp only;rw[List.append_nil,eR];exact sbt⟩
 ·have hl0:l≠[]:=fun e=>c30 (by rw[e];rfl)
  refine A6 (Om U isAgg86 qco) U (A7 U U (Aa U)) ?_;refine rOt 6 U ?_;refine jcd U (fun c26=> ?_) (fun c26=> ?_)
  ·have hof:out.length=4001:=by have h9:(out.length:Int)>4000:=c26;omega
   refine rCt 3 U (Ai U .nil ?_);exact⟨_,⟨(dO,[]),⟨by rw[hof];simp,by rw[List.append_nil];exact hdo,fun c hc=>by cases hc⟩,rfl⟩,by dsimp only;rw[List.append_nil,eR];exact sbt⟩
  ·have hof:out.length<=4000:=by have h9: ¬ (out.length:Int)>4000:=c26;omega
   refine rCt 3 U (y_ (Om U isAgg68 (by first|exact c_o|exact Ae (Fnd.mono hO.f4 (List.Sublist.trans hR sbt)) 0 _ U)) ?_ U);refine rOt 2 U (y_ (Om U isAgg109 (by first|exact c_o|exact Hh (List.Sublist.trans hS sbt) U)) ?_ U);refine rOt 5 U ?_;refine jcd U (fun c35=> ?_) (fun c35=> ?_)
   ·obtain rfl:r=0:=by have h9:((k:Nat):Int)=(D.bs.length:Nat):=c35;omega
    refine rCt 2 U (y_ (On U isAgg91 sizeOf91 (len20 hp) qcs) ?_ U);refine y_ (A1 (.cons (T U) .nil) (mk81 hp)) (e_ (Ag zeroValue94 cs_) ?_ U) U;rintro _ _ ⟨n10,rfl,rfl⟩;refine e_ (Oq U U sizeOf94 .agg chV_one (chV_len hp _) updq (by show 21=_;exact(chV_len hp _).symm)) ?_ U;rintro _ _ ⟨rfl,rfl⟩;refine rOt 11 U ?_;refine A8 (X:=Nat × Sl) (V:=fun ⟨i,dm⟩=>[(47,Vi (i:Nat))]) (C:=[(3,_),(10,_),(45,_),(46,_)]) (G:=fun ⟨i,dm⟩=>(n10,Cl (chV p (slV dm ((l.take i).map (·.1)).length)) 94)::(slH dm (((l.take i).map (·.1)).flatMap encMdF) 144++((n8,Cl (mdC p) 91)::(E.b3,Cl [slV dO out.length] 86)::(slH dO (out.flatMap encCh) 94++(chM out++R))))) (φ:=fun ⟨i,dm⟩=>i<=l.length/\SlOk dm ((l.take i).map (·.1)).length 20) (μ:=fun ⟨i,dm⟩=>l.length - i) (x0:=(0, .nil)) ?_ (kg U) qkg (by exact List.Sublist.refl _) ?_
    ·exact⟨Nat.zero_le _,rfl⟩
    rintro⟨i,dm⟩ ⟨hi,hdm⟩;have hml:((l.take i).map (·.1)).length=i:=by rw[List.length_map,List.length_take];omega
    refine rDt 6 U ?_;refine jcd U (fun c48=> ?_) (fun c48=> ?_)
    ·have hi2:i<l.length:=Int.ofNat_lt.1 c48;refine rCt 6 U (y_ (Oo U U runUnderlying148 sizeOf154 qom (by first|exact rfl|exact(hB k _ (Cy hkl)).1|exact hAp.b (i:=i) hi2)) ?_ U);refine y_ (On U isAgg154 sizeOf154 (Fj (hpt _ (Ax hi2)).o _) (by exact(hAp.mono sbt).cs (i:=i) hi2)) ?_ U;refine e_ (Ag zeroValue154 cs_) ?_ U;rintro _ _ ⟨n12,rfl,rfl⟩;refine e_ (Oq U U sizeOf154 .agg (encPm_one _ _) (Fj (hpt _ (Ax hi2)).o _) updq (by show 21=_;exact(Fj (hpt _ (Ax hi2)).o _).symm)) ?_ U;rintro _ _ ⟨rfl,rfl⟩;refine rOt 4 U ?_;refine y_ (Om U isAgg92 (by first|exact c_o|exact Ie hp fndq)) ?_ U;refine rOt 1 U ?_;refine y_ (On U isAgg144 sizeOf144 (len20 (hpt _ (Ax hi2)).o) (by exact Np (hpt _ (Ax hi2)).o fndq)) ?_ U;refine e_ (Bb (.cons (T U) .nil) (bs107 (hpt _ (Ax hi2)).o)) ?_ U;rintro _ _ ⟨n55,rfl,rfl⟩;refine e_ (Cg (enc:=encMdF) (gd l i).1 (by':=160) locq (T U) (T U) runUnderlying92 runUnderlying92 sizeOf144 typeInfo144 U zeroValue144 U Ce (D3 _) hdm qde (by rw[hml];omega) (by rw[D7 (hpt _ (Ax hi2)).o];exact A0)) ?_ U;rintro _ _ ⟨dm',rfl,hdm',rfl⟩;refine rOt 1 U (e_ (Ct (T U) (T U) U sizeOf92 (hs:=set_ch hp _ _)) ?_ U);rintro _ _ ⟨rfl,rfl⟩;refine rOt 4 U (y_ (Aw (T U) Al qom) ?_ U);refine rOt 2 U ?_;refine Au ((i+1,dm')) ?_ ?_ qkg (kg U) ?_
     ·have e9:(l.take (i+1)).map (·.1)=(l.take i).map (·.1)++[(gd l i).1]:=by rw[List.take_succ_eq_append_getElem hi2,List.map_append,<- Ar hi2];rfl
      exact⟨hi2,by rw[e9,List.length_append];exact hdm'⟩
     ·first|omega|(simp only[];omega)
     ·have e9:(l.take (i+1)).map (·.1)=(l.take i).map (·.1)++[(gd l i).1]:=(by rw[List.take_succ_eq_append_getElem hi2,List.map_append,<- Ar hi2];rfl);dsimp only;rw[e9,List.length_append];exact sbt
    ·obtain rfl:i=l.length:=by have h9: ¬ ((i:Nat):Int)<(l.length:Nat):=c48;omega
     have htl:l.take l.length=l:=List.take_length;refine rCt 2 U (An (rXt 5 U ?_));refine y_ (Om U isAgg92 (by first|exact c_o|exact Ie hp fndq)) ?_ U;refine e_ (Ah (.cons (T rfl) (.cons Nk .nil)) call102 (B7 (sortM_s dm _ (fun m hm=>by obtain⟨y,hy,rfl⟩:=List.mem_map.1 hm;exact(hpt y (List.mem_of_mem_take hy)).o) hdm (by rw[hml];omega)) locq)) ?_ rfl;rintro _ _ ⟨_,rfl,rfl⟩;refine rOt 4 U (y_ (Om U isAgg86 qco) ?_ U);refine y_ (On U isAgg94 sizeOf94 (chV_len hp _) qcs) ?_ U;refine e_ (Bb (.cons (T U) .nil) (bs81 hp _ _ _)) ?_ U;rintro _ _ ⟨n64,rfl,rfl⟩;refine e_ (Cg (enc:=encCh) (⟨p,dm,srtM ((l.take l.length).map (·.1))⟩:Chm) (by':=184) locq (T U) (T U) runUnderlying86 runUnderlying86 sizeOf94 typeInfo94 U zeroValue94 U D8 (encCh_one _) hdo qde qom (by rw[encCh_eq (c:=⟨p,dm,srtM ((l.take l.length).map (·.1))⟩) hp];show Cells _ _ _ _ (chV p (slV dm (srtM _).length));rw[show (srtM ((l.take l.length).map (·.1))).length=((l.take l.length).map (·.1)).length from List.length_mergeSort _];exact A0)) ?_ U;rintro _ _ ⟨dO',rfl,hdo',rfl⟩;refine jl_perm ((perm_leaf.cons _).cons _) ?_;refine Bo (Oq U U sizeOf86) U Ad ?_;rintro _ _ ⟨rfl,rfl⟩;refine rOt 5 U (Ai U .nil ?_);exact⟨_,⟨(dO',[⟨p,dm,srtM ((l.take l.length).map (·.1))⟩]),⟨by rw[rsP_end hl0,htl,List.take_of_length_le (by simp;omega)];rfl,by rw[List.length_append];exact hdo',fun c hc=>by
      obtain rfl:=List.mem_singleton.1 hc;refine⟨hp,by show SlOk dm (srtM _).length 20;rw[show (srtM ((l.take l.length).map (·.1))).length=((l.take l.length).map (·.1)).length from List.length_mergeSort _];exact hdm,fun m hm=> ?_⟩;obtain⟨y,hy,rfl⟩:=List.mem_map.1 (List.mem_mergeSort.1 hm);exact(hpt y (List.mem_of_mem_take hy)).o⟩,rfl⟩,by dsimp only;rw[OutM,chM_snoc,List.length_append];simp only[List.cons_append,List.append_assoc];exact sbt⟩
   ·obtain⟨r0,rfl⟩:∃ r0,r=r0+1:=⟨r - 1,by have h9: ¬ ((k:Nat):Int)=(D.bs.length:Nat):=c35;omega⟩;have hkl:k<D.bs.length:=by omega
    have hbk:=Ek hbs hkl;refine rCt 5 U (y_ (Om U isAgg68 (by first|exact c_o|exact Ae (Fnd.mono hO.f4 (List.Sublist.trans hR sbt)) 0 _ U)) ?_ U);refine rOt 2 U (y_ (Om U isAgg109 (by first|exact c_o|exact Hh (List.Sublist.trans hS sbt) U)) ?_ U);refine rOt 1 U (y_ (Oo U U runUnderlying109 sizeOf3 qom (by first|exact rfl|exact(hB k _ (Cy hkl)).1)) ?_ U);refine y_ (Om U isAgg3 (by first|exact c_o|exact(hB.mono sbt).cs (i:=k) hkl 0 _ U)) ?_ U;refine rOt 15 U (e_ (Ag zeroValue159 cs_) ?_ U);rintro _ _ ⟨n16,rfl,rfl⟩;refine kO tb 7 [0,2,4,5,6,8,13,14,15,16,17] rfl U (rGt 9 U ?_);refine A8 (X:=Nat × Sl × (Nat->Sl)) (V:=fun ⟨i,df,dd⟩=>[(15,slV df ((l.take i).flatMap (freF ns k (gd D.bs k))).length),(17, .bool ((l.take i).all (jnB ns k))),(75,Vi (i:Nat))]) (C:=[(0,_),(4,_),(5,_),(6,_),(8,_),(13,_),(14,_),(16,_),(73,_),(74,_)]) (G:=fun ⟨i,df,dd⟩=>(n16,Cl (twoC dd (ssI ns k (gd D.bs k) l i)) 159)::(twoM dd (ssI ns k (gd D.bs k) l i)++(slH df (((l.take i).flatMap (freF ns k (gd D.bs k))).flatMap encPt) 154++((n8,Cl (mdC p) 91)::(E.b3,Cl [slV dO out.length] 86)::(slH dO (out.flatMap encCh) 94++(chM out++R)))))) (φ:=fun ⟨i,df,dd⟩=>i<=l.length/\SlOk df ((l.take i).flatMap (freF ns k (gd D.bs k))).length 21/\(∀ u,u<2->SlOk (dd u) ((ssI ns k (gd D.bs k) l i) u).length 21)) (μ:=fun ⟨i,df,dd⟩=>l.length - i) (x0:=(0, .nil,fun _=> .nil)) ?_ (kg U) qkg (by exact List.Sublist.refl _) ?_
    ·exact⟨Nat.zero_le _,rfl,fun u hu=>by unfold ssI;rw[if_pos hu];rfl⟩
    rintro⟨i,df,dd⟩ ⟨hi,hdf,hdd⟩;refine rDt 6 U ?_;refine jcd U (fun c76=> ?_) (fun c76=> ?_)
    ·have hi2:i<l.length:=Int.ofNat_lt.1 c76;have hpx:=(hpt _ (Ax hi2));have hfe:=flat_take (f:=freF ns k (gd D.bs k)) hi2;have hal:=all_take (f:=jnB ns k) hi2;have hfl:=flat2 (f:=freF ns k (gd D.bs k)) (fre_len ns k (gd D.bs k)) (l.take i);have htk:(l.take i).length<=l.length:=by rw[List.length_take];omega
     refine rCt 6 U (y_ (Oo U U runUnderlying148 sizeOf154 qom (by first|exact rfl|exact(hB k _ (Cy hkl)).1|exact hAp.b (i:=i) hi2)) ?_ U);refine y_ (On U isAgg154 sizeOf154 (Fj hpx.o _) (by exact(hAp.mono sbt).cs (i:=i) hi2)) ?_ U;refine e_ (Ag zeroValue154 cs_) ?_ U;rintro _ _ ⟨n19,rfl,rfl⟩;refine e_ (Oq U U sizeOf154 .agg (encPm_one _ _) (Fj hpx.o _) updq (by show 21=_;exact(Fj hpx.o _).symm)) ?_ U;rintro _ _ ⟨rfl,rfl⟩;refine rOt 4 U (e_ (Ag zeroValue161 cs_) ?_ U);rintro _ _ ⟨n20,rfl,rfl⟩;refine rOt 9 U ?_;refine A8 (X:=Nat × (Nat->Nat) × (Nat->Sl)) (V:=fun ⟨v,g,dd⟩=>[(79,Vi (v:Nat))]) (C:=[(0,_),(4,_),(5,_),(6,_),(8,_),(13,_),(14,_),(15,_),(16,_),(17,_),(19,_),(20,_),(73,_),(74,_),(75,_)]) (G:=fun ⟨v,g,dd⟩=>(n20,Cl (fouC g) 161)::(n19,Cl (encPm (gd l i).1 (gd l i).2) 154)::(n16,Cl (twoC dd (ssF ns k (gd D.bs k) l i (gd l i) v 0)) 159)::(twoM dd (ssF ns k (gd D.bs k) l i (gd l i) v 0)++(slH df (((l.take i).flatMap (freF ns k (gd D.bs k))).flatMap encPt) 154++((n8,Cl (mdC p) 91)::(E.b3,Cl [slV dO out.length] 86)::(slH dO (out.flatMap encCh) 94++(chM out++R)))))) (φ:=fun ⟨v,g,dd⟩=>v<=2/\gI ns k (gd l i) (2*v) g/\(∀ u,u<2->SlOk (dd u) ((ssF ns k (gd D.bs k) l i (gd l i) v 0) u).length 21)) (μ:=fun ⟨v,g,dd⟩=>2 - v) (x0:=(0,(fun _=>0),dd)) ?_ (kg U) qkg (by dsimp only;rw[ss_00];exact sbt) ?_
     ·exact⟨Nat.zero_le _,gI_0,by rw[ss_00];exact hdd⟩
     rintro⟨v,g,dd⟩ ⟨hv,hgi,hdd⟩;refine rDt 6 U ?_;refine jcd U (fun c80=> ?_) (fun c80=> ?_)
     ·have hv2:v<2:=by have h9:((v:Nat):Int)<2:=c80;omega
      refine rCt 16 U ?_;refine A8 (X:=Nat × (Nat->Nat) × (Nat->Sl)) (V:=fun ⟨w,g,dd⟩=>[(82,Vi (w:Nat))]) (C:=[(0,_),(4,_),(5,_),(6,_),(8,_),(13,_),(14,_),(15,_),(16,_),(17,_),(19,_),(20,_),(21,_),(73,_),(74,_),(75,_),(79,_)]) (G:=fun ⟨w,g,dd⟩=>(n20,Cl (fouC g) 161)::(n19,Cl (encPm (gd l i).1 (gd l i).2) 154)::(n16,Cl (twoC dd (ssF ns k (gd D.bs k) l i (gd l i) v w)) 159)::(twoM dd (ssF ns k (gd D.bs k) l i (gd l i) v w)++(slH df (((l.take i).flatMap (freF ns k (gd D.bs k))).flatMap encPt) 154++((n8,Cl (mdC p) 91)::(E.b3,Cl [slV dO out.length] 86)::(slH dO (out.flatMap encCh) 94++(chM out++R)))))) (φ:=fun ⟨w,g,dd⟩=>w<=2/\gI ns k (gd l i) (2*v+w) g/\(∀ u,u<2->SlOk (dd u) ((ssF ns k (gd D.bs k) l i (gd l i) v w) u).length 21)) (μ:=fun ⟨w,g,dd⟩=>2 - w) (x0:=(0,g,dd)) ?_ (kg U) qkg sbt ?_
      ·exact⟨Nat.zero_le _,hgi,hdd⟩
      rintro⟨w,g,dd⟩ ⟨hw,hgi,hdd⟩;refine rDt 6 U ?_;refine jcd U (fun c83=> ?_) (fun c83=> ?_)
      ·have hw2:w<2:=by have h9:((w:Nat):Int)<2:=c83;omega
       refine rCt 11 U (Bf 17 (plq17 []) ((n19,Cl (encPm (gd l i).1 (gd l i).2) 154)::R) mixd qkr sbt ?_ Bh);refine rPt 2 U (o_y U (Om U isAgg68 (by first|exact c_o|exact Ae (Fnd.mono hO.f4 (List.Sublist.trans hR sbt)) 0 _ U)) ?_ U Ad);refine o_y U (Om U isAgg68 (by first|exact c_o|exact Ae (Fnd.mono hO.f4 (List.Sublist.trans hR sbt)) 0 _ U)) ?_ U Ad;refine rPt 1 U ?_;refine o_y U (Om U isAgg3 (by first|exact c_o|exact pm_cell hpx.o fndq)) ?_ U Ad;refine rPt 1 U (o_y U (Hm Al (T U) (show k<=_ by omega)) (rPt 1 U (o_y U (Ao (evq4 U U U U) call107 (fun H' hs=>Lh (D:=D) (v:=sv) (ns:=ns) (List.Sublist.trans (List.Sublist.trans hS sbt) hs) hst (gd l i).2 (2*k) (is1 v) hpx.lt (F9 qom))) ?_ U Ad)) U Ad);refine rPt 1 U (o_y U (Hm Al (T U) (show k<=_ by omega)) (o_y U (Cw (c:=1) (T U) Al qom) ?_ U Ad) U Ad);refine rPt 1 U (o_y U (Ao (evq4 U U U U) call107 (fun H' hs=>Lh (D:=D) (v:=sv) (ns:=ns) (List.Sublist.trans (List.Sublist.trans hS sbt) hs) hst (ch ns (gd l i).2 (2*k) (is1 v)) (2*k+1) (is1 w) (Cc hw0 hpx.lt _) (F9 qom))) ?_ U Ad);refine o_y U (Bm (T U) (T U) runUnderlying161 sizeOf160 qom) ?_ U Ad;refine o_y U (Bm (T U) (T U) runUnderlying160 sizeOf3 qom) ?_ U Ad;refine Av U (e_ (Ct (T U) (T U) U sizeOf3 (hs:=fou_set qom qom _)) ?_ U);rintro _ _ ⟨rfl,rfl⟩;refine kO tb 2 [0,4,5,6,8,13,14,15,16,17,19,20,21,22,73,74,75,79,82] rfl U (rGt 3 U ?_);refine y_ (On U isAgg144 sizeOf144 (len20 hpx.o) (by exact Np hpx.o fndq)) ?_ U;refine e_ (Ag zeroValue144 cs_) ?_ U;rintro _ _ ⟨n23,rfl,rfl⟩;refine e_ (Oq U U sizeOf144 .agg (Cn _ _) (len20 hpx.o) updq (by show 20=_;exact(len20 hpx.o).symm)) ?_ U;rintro _ _ ⟨rfl,rfl⟩;refine rOt 2 U ?_;refine Em (X:=Unit) (V:=fun x=>[]) (C:=[(0,_),(4,_),(5,_),(6,_),(8,_),(13,_),(14,_),(15,_),(16,_),(17,_),(19,_),(20,_),(21,_),(22,_),(23,_),(73,_),(74,_),(75,_),(79,_),(82,_)]) (G:=fun x=>(n23,Cl (mdC (mvw (gd l i) (gd D.bs k) (is1 v) (is1 w))) 144)::(n20,Cl (fouC (upD g (2*v+w) (cF ns k (gd l i).2 (is1 v) (is1 w)))) 161)::(n19,Cl (encPm (gd l i).1 (gd l i).2) 154)::(n16,Cl (twoC dd (ssF ns k (gd D.bs k) l i (gd l i) v w)) 159)::(twoM dd (ssF ns k (gd D.bs k) l i (gd l i) v w)++(slH df (((l.take i).flatMap (freF ns k (gd D.bs k))).flatMap encPt) 154++((n8,Cl (mdC p) 91)::(E.b3,Cl [slV dO out.length] 86)::(slH dO (out.flatMap encCh) 94++(chM out++R)))))) (φ:=fun x=>True) (kg U) ?_ ?_
       ·refine rDt 7 U ?_;refine jcd U (fun c106=> ?_) (fun c106=> ?_)
        ·have hvw: ¬ v=w:=fun e=>c106 (by rw[e])
         refine rCt 1 U (y_ (Om U isAgg146 (by first|exact c_o|exact Ae (Fnd.mono hO.f5 (List.Sublist.trans hR sbt)) 0 _ U)) ?_ U);refine y_ (On U isAgg144 sizeOf144 (len20 hpx.o) qcs) ?_ U;refine rOt 2 U (e_ (B8 (T U) (qe3 U U U) call99 (change_s (gd l i).1 hpx.o (gd D.bs k) hbk (is1 w) (F9 qom))) ?_ U);rintro _ _ ⟨rfl,rfl⟩;refine e_ (Oq U U sizeOf144 .agg (Cn _ _) (len20 (Fz _ _ _)) updq ((len20 hpx.o).trans (len20 (Fz _ _ _)).symm)) ?_ U;rintro _ _ ⟨rfl,rfl⟩;refine rOt 1 U (Be (()) ?_ trivial (kg U) (by(rw[show mvw (gd l i) (gd D.bs k) (is1 v) (is1 w)=chg (gd l i).1 (gd D.bs k) (is1 w) from if_neg (is1_ne hv2 hw2 hvw)];exact sbt)))
         trivial
        ·obtain rfl:v=w:=by have h9:((v:Nat):Int)=(w:Nat):=Classical.not_not.1 c106;omega
         refine rCt 1 U (Be (()) ?_ trivial (kg U) (by first|(rw[show mvw (gd l i) (gd D.bs k) (is1 v) (is1 w)=chg (gd l i).1 (gd D.bs k) (is1 w) from if_neg (is1_ne hv2 hw2 hvw)];exact sbt)|(rw[show mvw (gd l i) (gd D.bs k) (is1 v) (is1 v)=(gd l i).1 from if_pos rfl];exact sbt)))
         trivial
       rintro x _;refine Bf 13 (plq11 [(11,false),(12,true)]) ((n23,Cl (mdC (mvw (gd l i) (gd D.bs k) (is1 v) (is1 w))) 144)::(n20,Cl (fouC (upD g (2*v+w) (cF ns k (gd l i).2 (is1 v) (is1 w)))) 161)::(n16,Cl (twoC dd (ssF ns k (gd D.bs k) l i (gd l i) v w)) 159)::R) mixd qkr sbt ?_ Bh;refine rPt 3 U (o_y U (Bm (T U) (T U) runUnderlying159 sizeOf148 qom) ?_ U Ad);refine o_y U (Om U isAgg148 (by first|exact c_o|exact two_cell fndq hv2)) ?_ U Ad;refine o_y U (On U isAgg144 sizeOf144 (len20 (Mv hpx _ _ _)) qcs) ?_ U Ad;refine rPt 2 U (o_y U (Bm (T U) (T U) runUnderlying161 sizeOf160 qom) ?_ U Ad);refine o_y U (Bm (T U) (T U) runUnderlying160 sizeOf3 qom) ?_ U Ad;refine o_y U (Om U isAgg3 (by first|exact c_o|exact fou_cell fndq hv2 hw2)) ?_ U Ad;refine o_e U (B8 (T U) (qe3 U U U) call106 (B7 (add_two (dd:=dd) (ss:=(ssF ns k (gd D.bs k) l i (gd l i) v w)) hv2 (hdd v hv2) (by have:=ss_len (ns:=ns) (k:=k) (b:=(gd D.bs k)) (l:=l) (i:=i) (x:=(gd l i)) (v:=v) v (show w<=2 by omega);omega) (mvw (gd l i) (gd D.bs k) (is1 v) (is1 w)) (Mv hpx _ _ _) _) locq)) ?_ U Ad;rintro _ _ ⟨d3,⟨rfl,hd3⟩,rfl⟩;rw[upD_self] at hd3 ⊢;refine⟨sbt,(o_y U (Bm (T U) (T U) runUnderlying159 sizeOf148 qom) ?_ U Ad)⟩;refine Av U (e_ (Ct (T U) (T U) U sizeOf148 (hs:=two_set hv2 _ _)) ?_ U);rintro _ _ ⟨rfl,rfl⟩;refine kO tb 3 [0,4,5,6,8,13,14,15,16,17,19,20,21,73,74,75,79,82] rfl U (rGt 1 U (y_ (Aw (T U) Al qom) ?_ U));refine rOt 2 U ?_;refine Au ((w+1,upD g (2*v+w) (cF ns k (gd l i).2 (is1 v) (is1 w)),upD dd v d3)) ?_ ?_ qkg (kg U) ?_
       ·refine⟨hw2,gI_up hgi hw2,fun u hu=> ?_⟩;rw[<- ss_w hv2];unfold upD
        split
        ·rename_i e;subst e;exact hd3
        ·exact hdd u hu
       ·first|omega|(simp only[];omega)
       ·dsimp only;rw[<- ss_w hv2];exact sbt
      ·obtain rfl:w=2:=by have h9: ¬ ((w:Nat):Int)<2:=c83;omega
       refine rCt 2 U (An (rXt 4 U (y_ (Aw (T U) Al qom) ?_ U)));refine rOt 2 U ?_;refine Au ((v+1,g,dd)) ?_ ?_ qkg (kg U) ?_
       ·rw[ss_2 hv2] at hdd;exact⟨hv2,by rw[show 2*(v+1)=2*v+2 by omega];exact hgi,hdd⟩
       ·first|omega|(simp only[];omega)
       ·dsimp only;rw[<- ss_2 hv2];exact sbt
     ·obtain rfl:v=2:=by have h9: ¬ ((v:Nat):Int)<2:=c80;omega
      rw[My hi2 rfl] at hdd;refine rCt 2 U (An (rXt 3 U ?_));refine Fl (X:=Bool) (V:=fun x127=>[(127, .bool x127)]) (C:=[(0,_),(4,_),(5,_),(6,_),(8,_),(13,_),(14,_),(15,_),(16,_),(17,_),(19,_),(20,_),(73,_),(74,_),(75,_)]) (φ:=fun x127=>x127=decide (g 1=0/\g 2=0/\g 0=g 3)) (kg U) ?_ ?_
      ·refine rDt 1 U (y_ (Bm (T U) Al runUnderlying161 sizeOf160 qom) ?_ U);refine y_ (Bm (T U) Al runUnderlying160 sizeOf3 qom) ?_ U;refine y_ (Om U isAgg3 qco) ?_ U;refine rOt 2 U ?_;refine Aq (s:=132) (Aa U) (fun c132=> ?_) (fun c132=> ?_)
       ·refine A6 (Bm (T U) Al runUnderlying161 sizeOf160 qom) U (A7 U U (Aa U)) ?_;refine A6 (Bm (T U) Al runUnderlying160 sizeOf3 qom) U (A7 U U (Aa U)) ?_;refine A6 (Om U isAgg3 qco) U (A7 U U (Aa U)) ?_;refine rOt 3 U ?_;refine Aq (s:=138) (Aa U) (fun c138=> ?_) (fun c138=> ?_)
        ·refine A6 (Bm (T U) Al runUnderlying161 sizeOf160 qom) U (A7 U U (Aa U)) ?_;refine A6 (Bm (T U) Al runUnderlying160 sizeOf3 qom) U (A7 U U (Aa U)) ?_;refine A6 (Om U isAgg3 qco) U (A7 U U (Aa U)) ?_;refine A6 (Bm (T U) Al runUnderlying161 sizeOf160 qom) U (A7 U U (Aa U)) ?_;refine A6 (Bm (T U) Al runUnderlying160 sizeOf3 qom) U (A7 U U (Aa U)) ?_;refine A6 (Om U isAgg3 qco) U (A7 U U (Aa U)) ?_;refine rOt 4 U ?_;refine Be (decide ((g 0:Int)=(g 3:Int))) ?_ qkg (kg U) sbt;refine Bool.eq_iff_iff.2 ?_;simp only[decide_eq_true_eq,Bool.false_eq_true,false_iff];omega
        ·refine rOt 10 U ?_;refine Be (false) ?_ qkg (kg U) sbt;refine Bool.eq_iff_iff.2 ?_;simp only[decide_eq_true_eq,Bool.false_eq_true,false_iff];omega
       ·refine rOt 16 U ?_;refine Be (false) ?_ qkg (kg U) sbt;refine Bool.eq_iff_iff.2 ?_;simp only[decide_eq_true_eq,Bool.false_eq_true,false_iff];omega
      rintro x127 hx127
      first|refine jcd U (fun c127=> ?_) (fun c127=> ?_)|refine jcn U (fun c127=> ?_) (fun c127=> ?_)
      ·have hA3:g 1=0/\g 2=0/\g 0=g 3:=by simpa[hx127] using c127
       obtain⟨hj1,hf1⟩:=jnB_1 (b:=(gd D.bs k)) hgi hA3;have hfr:((l.take (i+1)).flatMap (freF ns k (gd D.bs k)))=((l.take i).flatMap (freF ns k (gd D.bs k)))++onP (gd l i).1 (g 0):=by rw[hfe,hf1]
       have hall:(l.take (i+1)).all (jnB ns k)=(l.take i).all (jnB ns k):=by rw[hal,hj1,Bool.and_true]
       refine rCt 4 U ?_;refine y_ (On U isAgg144 sizeOf144 (len20 hpx.o) (by exact Np hpx.o fndq)) ?_ U;refine y_ (Bm (T U) Al runUnderlying161 sizeOf160 qom) ?_ U;refine y_ (Bm (T U) Al runUnderlying160 sizeOf3 qom) ?_ U;refine y_ (Om U isAgg3 qco) ?_ U;refine e_ (B8 (T U) (qe3 U U U) call106 (B7 (N5 df ((l.take i).flatMap (freF ns k (gd D.bs k))) hdf qom (gd l i).1 hpx.o (g 0)) locq)) ?_ U;rintro _ _ ⟨df',⟨rfl,hdf'⟩,rfl⟩;refine rOt 6 U (y_ (Aw (T U) Al qom) ?_ U);refine rOt 2 U ?_;refine Au ((i+1,df',dd)) ?_ ?_ ⟨(by first|exact Aa U|(refine Cb (Aa U) (vint ?_);omega)|(refine Cb (Aa U) ?_;simp;done)|(refine Cb (Aa U) ?_;exact(by rw[hfr]))),(by first|exact Aa U|(refine Cb (Aa U) (vint ?_);omega)|(refine Cb (Aa U) ?_;simp;done)|(refine Cb (Aa U) ?_;exact(by rw[hfr]))|(refine Cb (Aa U) ?_;exact(by rw[hall]))),qat,trivial⟩ (kg U) ?_
       ·exact⟨hi2,by rw[hfr];exact hdf',hdd⟩
       ·first|omega|(simp only[];omega)
       ·dsimp only;rw[hfr,<- My hi2 rfl];exact sbt
      ·have hA3: ¬ (g 1=0/\g 2=0/\g 0=g 3):=by simpa[hx127] using c127
       refine rCt 2 U (y_ (Bm (T U) Al runUnderlying161 sizeOf160 qom) ?_ U);refine y_ (On U isAgg160 sizeOf160 U (by exact(fou_half fndq).1)) ?_ U;refine y_ (Bm (T U) Al runUnderlying161 sizeOf160 qom) ?_ U;refine y_ (On U isAgg160 sizeOf160 U (by exact(fou_half fndq).2)) ?_ U;refine y_ (G8 (T U) (T U) qkr (eqA2 _ _ _ _)) ?_ U;refine rOt 3 U ?_;refine jcd U (fun c155=> ?_) (fun c155=> ?_)
       ·obtain⟨hj1,hf1⟩:=jnB_2 (b:=(gd D.bs k)) hgi hA3 (by exact c155);have hfr:((l.take (i+1)).flatMap (freF ns k (gd D.bs k)))=(((l.take i).flatMap (freF ns k (gd D.bs k)))++onP (chg (gd l i).1 (gd D.bs k) false) (g 0))++onP (chg (gd l i).1 (gd D.bs k) true) (g 1):=by rw[hfe,hf1,List.append_assoc]
        have hall:(l.take (i+1)).all (jnB ns k)=(l.take i).all (jnB ns k):=by rw[hal,hj1,Bool.and_true]
        refine Bf 20 (plq11 [(12,true),(13,true),(14,true),(15,true),(17,true),(18,true),(19,true),(11,false),(16,true)]) ((n20,Cl (fouC g) 161)::(n19,Cl (encPm (gd l i).1 (gd l i).2) 154)::R) mixd qkr sbt ?_ Bh;refine rPt 3 U (o_y U (Om U isAgg146 (by first|exact c_o|exact Ae (Fnd.mono hO.f5 (List.Sublist.trans hR sbt)) 0 _ U)) ?_ U Ad);refine rPt 1 U ?_;refine o_y U (On U isAgg144 sizeOf144 (len20 hpx.o) (by exact Np hpx.o fndq)) ?_ U Ad;refine rPt 1 U (o_y U (Ju (T U) (.cons (T U) (.cons (T U) (.cons Al .nil))) call99 (fun H' hs=>change_s (gd l i).1 hpx.o (gd D.bs k) hbk false (y:=0) U)) (o_y U (Bm (T U) Al runUnderlying161 sizeOf160 qom) ?_ U Ad) U Ad);refine o_y U (Bm (T U) Al runUnderlying160 sizeOf3 qom) ?_ U Ad;refine o_y U (Om U isAgg3 qco) ?_ U Ad;refine o_y U (Om U isAgg146 (by first|exact c_o|exact Ae (Fnd.mono hO.f5 (List.Sublist.trans hR sbt)) 0 _ U)) ?_ U Ad;refine rPt 1 U ?_;refine o_y U (On U isAgg144 sizeOf144 (len20 hpx.o) (by exact Np hpx.o fndq)) ?_ U Ad;refine rPt 1 U (o_y U (Bm (T U) Al runUnderlying161 sizeOf160 qom) ?_ U Ad);refine o_y U (Bm (T U) Al runUnderlying160 sizeOf3 qom) ?_ U Ad;refine o_y U (Om U isAgg3 qco) ?_ U Ad;refine o_e U (B8 (T U) (qe3 U U U) call106 (B7 (N5 df ((l.take i).flatMap (freF ns k (gd D.bs k))) hdf qom (chg (gd l i).1 (gd D.bs k) false) (Fz _ _ _) (g 0)) locq)) ?_ U Ad;rintro _ _ ⟨df1,⟨rfl,hdf1⟩,rfl⟩;refine⟨sbt,(o_y U (Ju (T U) (.cons (T U) (.cons (T U) (.cons Al .nil))) call99 (fun H' hs=>change_s (gd l i).1 hpx.o (gd D.bs k) hbk true (y:=1) U)) (Av U (e_ (B8 (T U) (qe3 U U U) call106 (B7 (N5 df1 (((l.take i).flatMap (freF ns k (gd D.bs k)))++onP (chg (gd l i).1 (gd D.bs k) false) (g 0)) hdf1 (by have:=Jo (chg (gd l i).1 (gd D.bs k) false) (g 0);rw[List.length_append];omega) (chg (gd l i).1 (gd D.bs k) true) (Fz _ _ _) (g 1)) locq)) ?_ U)) U Ad)⟩;rintro _ _ ⟨df',⟨rfl,hdf'⟩,rfl⟩;refine kO tb 5 [0,4,5,6,8,13,14,15,16,17,73,74,75] rfl U (rGt 1 U (y_ (Aw (T U) Al qom) ?_ U));refine rOt 2 U ?_;refine Au ((i+1,df',dd)) ?_ ?_ ⟨(by first|exact Aa U|(refine Cb (Aa U) (vint ?_);omega)|(refine Cb (Aa U) ?_;simp;done)|(refine Cb (Aa U) ?_;exact(by rw[hfr]))),(by first|exact Aa U|(refine Cb (Aa U) (vint ?_);omega)|(refine Cb (Aa U) ?_;simp;done)|(refine Cb (Aa U) ?_;exact(by rw[hfr]))|(refine Cb (Aa U) ?_;exact(by rw[hall]))),qat,trivial⟩ (kg U) ?_
        ·exact⟨hi2,by rw[hfr];exact hdf',hdd⟩
        ·first|omega|(simp only[];omega)
        ·dsimp only;rw[hfr,<- My hi2 rfl];exact sbt
       ·obtain⟨hj1,hf1⟩:=jnB_3 (b:=(gd D.bs k)) hgi hA3 (by exact c155);have hfr:((l.take (i+1)).flatMap (freF ns k (gd D.bs k)))=((l.take i).flatMap (freF ns k (gd D.bs k))):=by rw[hfe,hf1,List.append_nil]
        have hall:(l.take (i+1)).all (jnB ns k)=false:=by rw[hal,hj1,Bool.and_false]
        refine rCt 7 U (y_ (Aw (T U) Al qom) ?_ U);refine rOt 2 U ?_;refine Au ((i+1,df,dd)) ?_ ?_ ⟨(by first|exact Aa U|(refine Cb (Aa U) (vint ?_);omega)|(refine Cb (Aa U) ?_;simp;done)|(refine Cb (Aa U) ?_;exact(by rw[hfr]))),(by first|exact Aa U|(refine Cb (Aa U) (vint ?_);omega)|(refine Cb (Aa U) ?_;simp;done)|(refine Cb (Aa U) ?_;exact(by rw[hfr]))|(refine Cb (Aa U) ?_;exact(by rw[hall]))),qat,trivial⟩ (kg U) ?_
        ·exact⟨hi2,by rw[hfr];exact hdf,hdd⟩
        ·first|omega|(simp only[];omega)
        ·dsimp only;rw[hfr,<- My hi2 rfl];exact sbt
    ·obtain rfl:i=l.length:=by have h9: ¬ ((i:Nat):Int)<(l.length:Nat):=c76;omega
     have htl:l.take l.length=l:=List.take_length;refine rCt 2 U (An (rXt 8 U ?_))
     first|refine jcd U (fun c183=> ?_) (fun c183=> ?_)|refine jcn U (fun c183=> ?_) (fun c183=> ?_)
     ·have hja:l.all (jnB ns k)=true:=by rw[htl] at c183;exact c183
      refine rCt 2 U (y_ (Om U isAgg147 (by first|exact c_o|exact Ae (Fnd.mono hO.f6 (List.Sublist.trans hR sbt)) 0 _ U)) ?_ U);refine rOt 1 U (y_ (Cw (a:=k) (c:=1) (T U) Al qom) ?_ U);refine y_ (On U isAgg91 sizeOf91 (len20 hp) qcs) ?_ U;refine rOt 1 U (e_ (B8 (T U) (qe3 U U U) call101 (B7 (ih r0 U (k:=k+1) (p:=p) (l:=((l.take l.length).flatMap (freF ns k (gd D.bs k)))) (R:=(n16,Cl (twoC dd (ssI ns k (gd D.bs k) l l.length)) 159)::(twoM dd (ssI ns k (gd D.bs k) l l.length)++(slH df (((l.take l.length).flatMap (freF ns k (gd D.bs k))).flatMap encPt) 154++((n8,Cl (mdC p) 91)::R)))) (List.Sublist.trans hR sbt) (List.Sublist.trans hS sbt) (hB.mono sbt) ((B3 (w0:=w0) (e:=154) (X:=[]) (enc:=encPt) encPt_len hdf).mono (by rw[List.append_nil];exact((List.sublist_append_left _ _).trans (List.sublist_append_right _ _)).cons _)) (flat_mem fun y hy=>fre_h hw0 (hpt y (by rw[htl] at hy;exact hy))) hp (by rw[htl,fre_all hja];exact Q.jn _ _ _ hq hkl hja) hdo ho qom) (by repeat (first|exact loc_out|apply LocL.t|apply LocL.a)))) ?_ U);rintro _ _ ⟨⟨d9,nw⟩,⟨hn9,hd9,hc9⟩,rfl⟩
      dsimp only at hn9 hd9 hc9
      rw[htl,fre_all hja,<- rsP_jn hl0 hja] at hn9;refine rOt 4 U (Ai U .nil ?_);exact⟨_,⟨(d9,nw),⟨hn9,hd9,hc9⟩,rfl⟩,sbt⟩
     ·have hja:l.all (jnB ns k)=false:=by rw[htl] at c183;exact c183
      have hpl:=rsP_sp (bs:=D.bs) (r:=r0) (p:=p) hl0 hja;refine rCt 8 U ?_;refine A8 (X:=Nat × Sl × List Chm) (V:=fun ⟨v,dv,nw⟩=>[(190,Vi (v:Nat))]) (C:=[(0,_),(6,_),(8,_),(13,_),(16,_)]) (G:=fun ⟨v,dv,nw⟩=>(n16,Cl (twoC dd (ssI ns k (gd D.bs k) l l.length)) 159)::(twoM dd (ssI ns k (gd D.bs k) l l.length)++(slH df (((l.take l.length).flatMap (freF ns k (gd D.bs k))).flatMap encPt) 154++((n8,Cl (mdC p) 91)::(E.b3,Cl [slV dv (out++nw).length] 86)::(slH dv ((out++nw).flatMap encCh) 94++(chM (out++nw)++R)))))) (φ:=fun ⟨v,dv,nw⟩=>v<=2/\nw.map Chm.pl=((List.range v).flatMap fun i=>rsP ns D.bs r0 (k+1) (chg p (gd D.bs k) (is1 i)) (l.flatMap (spF ns k (gd D.bs k) (is1 i)))).take (4001 - out.length)/\SlOk dv (out++nw).length 21/\∀ c∈nw,ChH c) (μ:=fun ⟨v,dv,nw⟩=>2 - v) (x0:=(0,dO,[])) ?_ (kg U) qkg (by dsimp only;rw[List.append_nil];exact sbt) ?_
      ·exact⟨Nat.zero_le _,by simp,by rw[List.append_nil];exact hdo,fun c hc=>by cases hc⟩
      rintro⟨v,dv,nw⟩ ⟨hv,hnw,hdv,hcw⟩;have hnl:nw.length<=4001 - out.length:=by
       have h9:=congrArg List.length hnw;rw[List.length_map,List.length_take] at h9;omega
      refine rDt 6 U ?_;refine jcd U (fun c191=> ?_) (fun c191=> ?_)
      ·have hv2:v<2:=by have h9:((v:Nat):Int)<2:=c191;omega
       refine rCt 11 U (Bf 11 (plq10 [(10,false)]) ((n8,Cl (mdC p) 91)::R) mixd qkr sbt ?_ Bh);refine rPt 1 U ?_;refine o_y U (On U isAgg32 sizeOf32 (Af hp.1) (by exact E7 fndq)) ?_ U Ad;refine rPt 1 U (o_y U (Ao (.cons (T U) (.cons (T U) (.cons Al .nil))) call100 (fun H' hs=>Nn p.1 hp.1 (gd D.bs k) hbk true (x:=1) U)) (rPt 1 U ?_) U Ad);refine o_y U (On U isAgg32 sizeOf32 (Af hp.2) (by exact El hp.1 fndq)) ?_ U Ad;refine rPt 2 U (o_y U (Ao (evq3 U U U) call100 (fun H' hs=>Nn p.2 hp.2 (gd D.bs k) hbk (is1 v) (F9 qom))) ?_ U Ad);refine o_y U (A1 (.cons (T U) (.cons (T U) .nil)) (mk78 (Cm _ _ _) (Cm _ _ _))) (o_e U (Ag zeroValue91 cs_) ?_ U Ad) U Ad;rintro _ _ ⟨n25,rfl,rfl⟩;refine⟨sbt,(Av U (e_ (Oq U U sizeOf91 .agg (Cn _ _) (len20 (Fz p (gd D.bs k) (is1 v))) updq (by show 20=_;exact(len20 (Fz p (gd D.bs k) (is1 v))).symm)) ?_ U))⟩;rintro _ _ ⟨rfl,rfl⟩;refine rOt 2 U (Bf 7 (plq7 []) ((n25,Cl (mdC (chg p (gd D.bs k) (is1 v))) 91)::(n16,Cl (twoC dd (ssI ns k (gd D.bs k) l l.length)) 159)::R) mixd qkr sbt ?_ Bh);refine o_y U (Om U isAgg147 (by first|exact c_o|exact Ae (Fnd.mono hO.f6 (List.Sublist.trans hR sbt)) 0 _ U)) ?_ U Ad;refine rPt 1 U (o_y U (Cw (a:=k) (c:=1) (T U) Al qom) ?_ U Ad);refine o_y U (On U isAgg91 sizeOf91 (len20 (Fz _ _ _)) qcs) ?_ U Ad;refine rPt 1 U (o_y U (Bm (T U) (T U) runUnderlying159 sizeOf148 qom) ?_ U Ad);refine o_y U (Om U isAgg148 (by first|exact c_o|exact two_cell fndq hv2)) ?_ U Ad;refine Av U (e_ (B8 (T U) (qe3 U U U) call101 (B7 (ih r0 U (k:=k+1) (p:=chg p (gd D.bs k) (is1 v)) (l:=(ssI ns k (gd D.bs k) l l.length) v) (R:=(n25,Cl (mdC (chg p (gd D.bs k) (is1 v))) 91)::(n16,Cl (twoC dd (ssI ns k (gd D.bs k) l l.length)) 159)::(twoM dd (ssI ns k (gd D.bs k) l l.length)++(slH df (((l.take l.length).flatMap (freF ns k (gd D.bs k))).flatMap encPt) 154++((n8,Cl (mdC p) 91)::R)))) (List.Sublist.trans hR sbt) (List.Sublist.trans hS sbt) (hB.mono sbt) ((two_arr (w0:=w0) hdd hv2).mono (((List.sublist_append_left _ _).cons _).cons _)) (by rw[ssI_at hv2];exact flat_mem fun y hy=>sp_h hw0 (hpt y hy) _) (Fz _ _ _) (by rw[ssI_at hv2];exact Q.sp _ _ _ hq hkl hja _) hdv (by rw[List.length_append];omega) qom) (by repeat (first|exact loc_out|apply LocL.t|apply LocL.a)))) ?_ U);rintro _ _ ⟨⟨d9,nw2⟩,⟨hn9,hd9,hc9⟩,rfl⟩
       dsimp only at hn9 hd9 hc9
       rw[ssI_at hv2] at hn9;refine rOt 4 U (y_ (Aw (T U) Al qom) ?_ U);refine rOt 2 U ?_;refine Au ((v+1,d9,nw++nw2)) ?_ ?_ qkg (kg U) ?_
       ·refine⟨hv2,?_,by rw[<- List.append_assoc];exact hd9,fun c hc=> ?_⟩
        ·rw[List.map_append,hn9,hnw,List.range_succ,List.flatMap_append,<- take_two,List.length_append,Nat.sub_add_eq,<- hnw,List.length_map];simp
        ·rcases List.mem_append.1 hc with h9|h9
         ·exact hcw c h9
         ·exact hc9 c h9
       ·first|omega|(simp only[];omega)
       ·dsimp only;simp only[List.append_assoc,List.cons_append] at *;exact sbt
      ·obtain rfl:v=2:=by have h9: ¬ ((v:Nat):Int)<2:=c191;omega
       refine rCt 2 U (An (rXt 1 U (K6 U .nil ?_)));exact⟨_,⟨(dv,nw),⟨by rw[hpl];exact hnw,hdv,hcw⟩,rfl⟩,by dsimp only;simp only[List.cons_append,List.append_assoc];exact sbt⟩
theorem Kc4 {a0:Int}(w:World):(Instr.build 154 #[(1,Vi a0)]).run prog w= .ok (.agg #[Vi 0,Vi 0,Vi 0,Vi 0,Vi 0,Vi 0,Vi 0,Vi 0,Vi 0,Vi 0,Vi 0,Vi 0,Vi 0,Vi 0,Vi 0,Vi 0,Vi 0,Vi 0,Vi 0,Vi 0,Vi a0]) w:=by kernel_rfl
theorem zbd78_z  (w:World):(Instr.build 91 #[]).run prog w= .ok (.agg #[Vi 0,Vi 0,Vi 0,Vi 0,Vi 0,Vi 0,Vi 0,Vi 0,Vi 0,Vi 0,Vi 0,Vi 0,Vi 0,Vi 0,Vi 0,Vi 0,Vi 0,Vi 0,Vi 0,Vi 0]) w:=by kernel_rfl
theorem ru_s {D:Sd}{E:Ru}(hO:RuOk D E){sv:Sv}{ns:Ns}(hst:StOk D sv ns)(hbs:BsOk D.bs){Qp:Nat->Md->List Prt->Prop}(Q:Bdd ns D.bs Qp){w0:World}(r:Nat):RuS D E sv ns Qp r w0:=by
 induction r with
 |zero=>intro R dO out k p l ql cl h1 h2 h3 h4 h5 h6 h7 h8 h9 h10;exact ru_step hO hst hbs Q (fun r0 h=>by omega) h1 h2 h3 h4 h5 h6 h7 h8 h9 h10
 |succ r ih=>intro R dO out k p l ql cl h1 h2 h3 h4 h5 h6 h7 h8 h9 h10;exact ru_step hO hst hbs Q (fun r0 h=>by cases h;exact ih) h1 h2 h3 h4 h5 h6 h7 h8 h9 h10
abbrev pt0 (a:Nat):Prt:=((hd0,hd0),a)
def rulesP (ns:Ns) (bs:List Nat) (a:Nat):List (Md × List Md):=if a=0 then [] else rsP ns bs bs.length 0 (hd0,hd0) [pt0 a]
abbrev RlK (L:List (Md × List Md)) (H:Mm):Value->Mm->Prop:=fun u H'=>(∃ x:Sl × List Chm,(L.length<=4000/\x.2.map Chm.pl=L/\SlOk x.1 x.2.length 21/\(∀ c∈x.2,ChH c)/\u= .tuple #[slV x.1 x.2.length,Vi 0])/\H'=(slH x.1 (x.2.flatMap encCh) 94++chM x.2)++H)\/(4000<L.length/\u= .tuple #[.slice none 0 0,Vi 2]/\H'=H)
theorem perm_ru {α:Type}{a b c e:α}{R:List α}:(a::b::c::e::R).Perm (e::a::b::c::R):=List.perm_middle (l₁:=[a,b,c]) (a:=e)
theorem arr_one {n:Nat}{a:Nat}{t:TypeId}(hf:Fnd H n (Cl (encPt (pt0 a)) t)):Arr w0 H (some ⟨n,0,none⟩) 21 encPt [pt0 a]:=fun i u hi=>by
 have h0:i=0:=by have:=(List.getElem?_eq_some_iff.1 hi).1;simpa using this
 subst h0;obtain rfl:pt0 a=u:=by simpa using hi
 exact⟨rfl,fun j v hj=>by rw[Nat.zero_mul];exact Ae hf j v hj⟩
theorem rules_s {D:Sd}{sv:Sv}{ns:Ns}(hst:StOk D sv ns)(hbs:BsOk D.bs)(hS:(SM D sv ns).Sublist H)(hB:Arr w0 H D.qb 1 encB1 D.bs){Qp:Nat->Md->List Prt->Prop}(Q:Bdd ns D.bs Qp)(a:Nat)(ha:a<ns.length)(hq: ¬ a=0->Qp 0 (hd0,hd0) [pt0 a]):
  FSpec prog w0 61 #[Pt (D.p) 0,Vi (a:Nat)] H (RlK (rulesP ns D.bs a) H):=by
 refine Am func61 U ntmps61 U ?_;obtain⟨ll,hll⟩:∃ ll,rulesP ns D.bs a=ll:=⟨_,rfl⟩;rw[hll];refine rDt 2 U (e_ (Ot U cs_) ?_ U);rintro _ _ ⟨n2,rfl,rfl⟩;refine rOt 6 U (e_ (Ag zeroValue86 cs_) ?_ U);rintro _ _ ⟨n6,rfl,rfl⟩;refine rOt 4 U (e_ (Ag zeroValue146 cs_) ?_ U);rintro _ _ ⟨n7,rfl,rfl⟩;refine Bo (Aj (T U) Nk sizeOf146) U Ad ?_;rintro _ _ ⟨rfl,rfl⟩;refine rOt 4 U (e_ (Ag zeroValue147 cs_) ?_ U);rintro _ _ ⟨n8,rfl,rfl⟩;refine rOt 4 U (y_ (Bn (.cons (T U) (.cons (T U) (.cons (T U) (.cons (T U) .nil))))) ?_ U);refine Bo (Oq U U sizeOf147) U Ad ?_;rintro _ _ ⟨rfl,rfl⟩;refine rOt 9 U ?_;refine jcd U (fun c11=> ?_) (fun c11=> ?_)
 ·have hne: ¬ a=0:=fun e=>c11 (by rw[e];rfl)
  refine rCt 1 U (y_ (Om U isAgg147 qco) ?_ U);refine y_ (A1 .nil (zbd78_z)) (rOt 1 U (y_ (A1 (.cons (T U) .nil) (Kc4)) (e_ (Bb (.cons (T U) .nil) (Kd4)) ?_ U) U)) U;rintro _ _ ⟨n16,rfl,rfl⟩;refine e_ (B8 (T rfl) (.cons Al (.cons (T rfl) (.cons (T rfl) .nil))) call101 (spec_perm (ru_s (E:=⟨((n16,Cl (encPt (pt0 a)) 154)::(n8,Cl [.func (.func 101) #[] #[Pt n6 0,Pt n2 0,Pt n7 0,Pt n8 0]] 147)::(n7,Cl [.func (.func 99) #[] #[]] 146)::(n2,Cl [Pt (D.p) 0] 68)::H),n6,n2,n7,n8⟩) ⟨fndq,fndq,fndq⟩ hst hbs Q D.bs.length (R:=((n16,Cl (encPt (pt0 a)) 154)::(n8,Cl [.func (.func 101) #[] #[Pt n6 0,Pt n2 0,Pt n7 0,Pt n8 0]] 147)::(n7,Cl [.func (.func 99) #[] #[]] 146)::(n2,Cl [Pt (D.p) 0] 68)::H)) (dO:= .nil) (out:=[]) (k:=0) (p:=(hd0,hd0)) (l:=[pt0 a]) (ql:=some ⟨n16,0,none⟩) (cl:=1) (List.Sublist.refl _) (List.Sublist.trans hS sbt) (hB.mono sbt) (arr_one fnd_h) (fun x hx=>by obtain rfl:=List.mem_singleton.1 hx;exact⟨⟨Ay,Ay⟩,ha⟩) ⟨Ay,Ay⟩ (hq hne) rfl (Nat.zero_le _) rfl) perm_ru)) ?_ rfl;rintro _ _ ⟨⟨d9,nw⟩,⟨hn9,hd9,hc9⟩,rfl⟩
  dsimp only at hn9 hd9 hc9
  rw[List.nil_append] at hd9 ⊢;rw[show rsP ns D.bs D.bs.length 0 (hd0,hd0) [pt0 a]=ll from by rw[<- hll];unfold rulesP;rw[if_neg hne]] at hn9;have hnl:=congrArg List.length hn9;rw[List.length_map,List.length_take] at hnl;simp only[List.length_nil,Nat.sub_zero] at hnl hn9;refine rOt 5 U (y_ (Om U isAgg86 qco) ?_ U);refine rOt 4 U ?_;refine jcd U (fun c20=> ?_) (fun c20=> ?_)
  ·have hl:4000<ll.length:=by have h9:(nw.length:Int)>4000:=c20;omega
   refine rCt 8 U (Ai U (.tmp (Aa U) (Ol U)) ?_);exact⟨_, .inr ⟨hl,rfl,rfl⟩,sbt⟩
  ·have hl:ll.length<=4000:=by have h9: ¬ (nw.length:Int)>4000:=c20;omega
   rw[List.take_of_length_le qom] at hn9;refine rCt 4 U (y_ (Om U isAgg86 qco) ?_ U);refine rOt 5 U (Ai U (.tmp (Aa U) (Ol U)) ?_);exact⟨_, .inl ⟨(d9,nw),⟨hl,hn9,hd9,hc9,rfl⟩,rfl⟩,sbt⟩
 ·have hl0:ll=[]:=by rw[<- hll];unfold rulesP;rw[if_pos (by have h9:((a:Nat):Int)=0:=Classical.not_not.1 c11;omega)]
  refine rCt 5 U (y_ (Om U isAgg86 qco) ?_ U);refine rOt 4 U ?_;refine jcd U (fun c20=> ?_) (fun c20=> ?_)
  ·exfalso;exact absurd c20 qde
  ·refine rCt 4 U (y_ (Om U isAgg86 qco) ?_ U);refine rOt 5 U (Ai U (.tmp (Aa U) (Ol U)) ?_);exact⟨_, .inl ⟨(.nil,[]),⟨(by rw[hl0];exact Nat.zero_le _),hl0.symm,rfl,(fun c hc=>nomatch hc),rfl⟩,rfl⟩,sbt⟩
mutual
def Pdm.sz:Pdm->Nat
 | .mk _ _ _ _ _ _ xs=>szPL xs+1
def szPL:List Pdm->Nat
 |[]=>0
 |x::l=>x.sz+szPL l
end
mutual
def Pom.sz:Pom->Nat
 | .mk _ p _ _ _ _ xs=>szOL xs+p.sz+1
def szOL:List Pom->Nat
 |[]=>0
 |x::l=>x.sz+szOL l
end
mutual
def Pom.nd:Pom->Nat
 | .mk k p _ _ _ _ xs=>1+(if k=1 then p.sz else 0)+ndOL xs
def ndOL:List Pom->Nat
 |[]=>0
 |x::l=>x.nd+ndOL l
end
theorem Gb (m:Pdm):m.sz=szPL m.subs+1:=by cases m;rfl
theorem Dy (m:Pom):m.sz=szOL m.subs+m.pr.sz+1:=by cases m;rfl
theorem Mg (m:Pom):m.nd=1+(if m.kind=1 then m.pr.sz else 0)+ndOL m.subs:=by cases m;rfl
theorem Eh {l:List Pdm}{a:Pdm}(h:a∈l):a.sz<=szPL l:=by
 induction l with
 |nil=>cases h
 |cons x l ih=>
  rw[szPL];rcases List.mem_cons.1 h with rfl|h
  ·omega
  ·have:=ih h;omega
theorem D1 {l:List Pom}{a:Pom}(h:a∈l):a.sz<=szOL l:=by
 induction l with
 |nil=>cases h
 |cons x l ih=>
  rw[szOL];rcases List.mem_cons.1 h with rfl|h
  ·omega
  ·have:=ih h;omega
theorem szPL_app (a b:List Pdm):szPL (a++b)=szPL a+szPL b:=by
 induction a with
 |nil=>simp[szPL]
 |cons x a ih=>rw[List.cons_append,szPL,szPL,ih];omega
theorem szOL_app (a b:List Pom):szOL (a++b)=szOL a+szOL b:=by
 induction a with
 |nil=>simp[szOL]
 |cons x a ih=>rw[List.cons_append,szOL,szOL,ih];omega
theorem ndOL_app (a b:List Pom):ndOL (a++b)=ndOL a+ndOL b:=by
 induction a with
 |nil=>simp[ndOL]
 |cons x a ih=>rw[List.cons_append,ndOL,ndOL,ih];omega
theorem szPL_take {l:List Pdm}{i:Nat}(hi:i<l.length):szPL (l.take (i+1))=szPL (l.take i)+(gd l i).sz:=by
 rw[List.take_succ_eq_append_getElem hi,szPL_app,<- Ar hi];simp[szPL]
theorem szOL_take {l:List Pom}{i:Nat}(hi:i<l.length):szOL (l.take (i+1))=szOL (l.take i)+(gd l i).sz:=by
 rw[List.take_succ_eq_append_getElem hi,szOL_app,<- Ar hi];simp[szOL]
theorem ndOL_take {l:List Pom}{i:Nat}(hi:i<l.length):ndOL (l.take (i+1))=ndOL (l.take i)+(gd l i).nd:=by
 rw[List.take_succ_eq_append_getElem hi,ndOL_app,<- Ar hi];simp[ndOL]
theorem szPL_all {l:List Pdm}(i:Nat):szPL (l.take i)<=szPL l:=by
 have:=szPL_app (l.take i) (l.drop i);rw[List.take_append_drop] at this;omega
theorem Gz {l:List Pom}(i:Nat):szOL (l.take i)<=szOL l:=by
 have:=szOL_app (l.take i) (l.drop i);rw[List.take_append_drop] at this;omega
theorem Ig (l:List Pdm):l.length<=szPL l:=by
 induction l with
 |nil=>exact Nat.le_refl _
 |cons x l ih=>rw[szPL,List.length_cons];have:=Gb x;omega
theorem F0 (l:List Pom):l.length<=szOL l:=by
 induction l with
 |nil=>exact Nat.le_refl _
 |cons x l ih=>rw[szOL,List.length_cons];have:=Dy x;omega
mutual
theorem N6:∀ m:Pom,m.nd<=m.sz
 | .mk k p s n q c xs=>by
  have:=ndOL_sz xs;rw[Pom.nd,Pom.sz]
  split<;>omega
theorem ndOL_sz:∀ l:List Pom,ndOL l<=szOL l
 |[]=>Nat.le_refl _
 |x::l=>by rw[ndOL,szOL];have:=N6 x;have:=ndOL_sz l;omega
end
mutual
def prtP:Pdm->List Pdm
 | .mk a b c d e f xs=> .mk a b c d e f xs::prtPL xs
def prtPL:List Pdm->List Pdm
 |[]=>[]
 |x::l=>prtP x++prtPL l
end
mutual
def prtO:Pom->List Pom
 | .mk a b c d e f xs=> .mk a b c d e f xs::prtOL xs
def prtOL:List Pom->List Pom
 |[]=>[]
 |x::l=>prtO x++prtOL l
end
theorem Dx (m:Pdm):prtP m=m::prtPL m.subs:=by cases m;rfl
theorem De (m:Pom):prtO m=m::prtOL m.subs:=by cases m;rfl
theorem prtPL_app (a b:List Pdm):prtPL (a++b)=prtPL a++prtPL b:=by
 induction a with
 |nil=>rfl
 |cons x a ih=>rw[List.cons_append,prtPL,prtPL,ih,List.append_assoc]
theorem prtOL_app (a b:List Pom):prtOL (a++b)=prtOL a++prtOL b:=by
 induction a with
 |nil=>rfl
 |cons x a ih=>rw[List.cons_append,prtOL,prtOL,ih,List.append_assoc]
theorem prtPL_take {l:List Pdm}{i:Nat}(hi:i<l.length):prtPL (l.take (i+1))=prtPL (l.take i)++prtP (gd l i):=by
 rw[List.take_succ_eq_append_getElem hi,prtPL_app,<- Ar hi];simp[prtPL]
theorem prtOL_take {l:List Pom}{i:Nat}(hi:i<l.length):prtOL (l.take (i+1))=prtOL (l.take i)++prtO (gd l i):=by
 rw[List.take_succ_eq_append_getElem hi,prtOL_app,<- Ar hi];simp[prtOL]
mutual
theorem J7:∀ m:Pdm,(prtP m).length=m.sz
 | .mk a b c d e f xs=>by rw[prtP,Pdm.sz,List.length_cons,prtPL_len xs]
theorem prtPL_len:∀ l:List Pdm,(prtPL l).length=szPL l
 |[]=>rfl
 |x::l=>by rw[prtPL,szPL,List.length_append,J7 x,prtPL_len l]
end
mutual
theorem prtO_len:∀ m:Pom,(prtO m).length<=m.sz
 | .mk a b c d e f xs=>by rw[prtO,Pom.sz,List.length_cons];have:=prtOL_len xs;omega
theorem prtOL_len:∀ l:List Pom,(prtOL l).length<=szOL l
 |[]=>Nat.le_refl _
 |x::l=>by rw[prtOL,szOL,List.length_append];have:=prtO_len x;have:=prtOL_len l;omega
end
mutual
theorem prtO_M :∀ {m:Pom},PoM w0 H m->∀ a∈prtO m,PoM w0 H a
 | .mk _ _ _ _ _ _ xs,h,a,ha=>by
  rw[prtO] at ha;rcases List.mem_cons.1 ha with rfl|ha
  ·exact h
  ·exact prtOL_M (fun x hx=>h.sub hx) a ha
theorem prtOL_M :∀ {l:List Pom},(∀ x∈l,PoM w0 H x)->∀ a∈prtOL l,PoM w0 H a
 |[],_,a,ha=>by cases ha
 |x::l,h,a,ha=>by
  rw[prtOL] at ha;rcases List.mem_append.1 ha with ha|ha
  ·exact prtO_M (h x (by simp)) a ha
  ·exact prtOL_M (fun y hy=>h y (by simp[hy])) a ha
end
mutual
theorem prtO_sz:∀ {m:Pom},∀ a∈prtO m,a.sz<=m.sz
 | .mk _ _ _ _ _ _ xs,a,ha=>by
  rw[prtO] at ha;rcases List.mem_cons.1 ha with rfl|ha
  ·exact Nat.le_refl _
  ·have:=prtOL_sz (l:=xs) a ha;rw[Pom.sz];omega
theorem prtOL_sz:∀ {l:List Pom},∀ a∈prtOL l,a.sz<=szOL l
 |[],a,ha=>by cases ha
 |x::l,a,ha=>by
  rw[prtOL] at ha;rw[szOL];rcases List.mem_append.1 ha with ha|ha
  ·have:=prtO_sz (m:=x) a ha;omega
  ·have:=prtOL_sz (l:=l) a ha;omega
end
theorem len_two {α:Type}{l:List α}(h:l.length=2):∃ a b,l=[a,b]:=by
 match l,h with
 |[a,b],_=>exact⟨a,b,rfl⟩
def LcP (m:Pdm) (n:Nat):Prop:=(n=0/\(m.kind=1\/m.kind=2\/(m.kind=3/\0<=m.val)\/(m.kind=4/\0<=m.val/\0<=m.to)\/(m.kind=5/\0<=m.val/\m.val<=m.to)\/(m.kind=9/\0<=m.val/\m.val<m.to)))\/(n=1/\m.kind=6)\/(n=2/\(m.kind=7\/m.kind=8))
inductive FmP:Pdm->Prop
 |mk {m:Pdm}:LcP m m.subs.length->(∀ a∈m.subs,FmP a)->FmP m
def LcO (m:Pom) (n:Nat):Prop:=(n=0/\((m.kind=1/\FmP m.pr)\/(m.kind=2/\0<=m.n)))\/(n=2/\(m.kind=3\/m.kind=4))\/(n=1/\m.kind=5)
inductive FmO:Pom->Prop
 |mk {m:Pom}:LcO m m.subs.length->(∀ a∈m.subs,FmO a)->FmO m
def FitP (fl:List Fd) (m:Pdm):Prop:=((m.kind=3\/m.kind=4)->(fndFd fl m.nm).2=true/\m.val<=2 ^ (fndFd fl m.nm).1.w - 1/\(m.kind=4->m.to<=(fndFd fl m.nm).1.w))/\(m.kind=5->(fndFd fl m.nm).2=true/\m.to<=2 ^ (fndFd fl m.nm).1.w - 1)
def FitO (fl:List Fd) (m:Pom):Prop:=(m.kind=1->∀ a∈prtP m.pr,FitP fl a)/\(m.kind=2->(fndFd fl m.nm).2=true/\m.n<=2 ^ (fndFd fl m.nm).1.w - 1)
theorem idxF_at {nm:ByteArray}:∀ {l:List Fd} {k i:Nat},idxF nm l k=some i->gd l (i - k)∈l:=fun {l k i} h=>by
 obtain⟨h1,h2⟩:=Lg h;exact Ax qom
theorem Da {fl:List Fd}{nm:ByteArray}(h:(fndFd fl nm).2=true):(fndFd fl nm).1∈portFd::fl:=by
 unfold fndFd at *
 split
 ·simp
 ·rename_i h1;rw[if_neg h1] at h;cases h2:idxF nm fl 0 with
  |none=>rw[h2] at h;cases h
  |some i=>simp only[];have:=idxF_at h2;exact List.mem_cons_of_mem _ (by simpa using this)
theorem Mz {v:Int}{w:Nat}(h0:0<=v)(h:v<=2 ^ w - 1):∃ n:Nat,v=(n:Int)/\n<2 ^ w:=by
 refine⟨v.toNat,by omega,?_⟩;have h2:((2 ^ w:Nat):Int)=(2:Int) ^ w:=by simp
 omega
theorem fm_is {fl:List Fd}(hfl:FlOk fl):∀ {m:Pdm},FmP m->(∀ a∈prtP m,FitP fl a)->∃ p,IsP fl m p/\p.Fit (bsF fl):=fun {m} h=>by
 induction h with
 | @mk m hl hs ih=>
  intro hf;have hm:=hf m (by rw[Dx];simp);have hsub:∀ a∈m.subs,∀ b∈prtP a,FitP fl b:=fun a ha b hb=>hf b (by
   rw[Dx];refine List.mem_cons_of_mem _ ?_
   generalize m.subs=l at ha
   induction l with
   |nil=>cases ha
   |cons x l ih2=>
    rw[prtPL];rcases List.mem_cons.1 ha with rfl|ha
    ·exact List.mem_append.2 (.inl hb)
    ·exact List.mem_append.2 (.inr (ih2 ha)))
  rcases hl with ⟨h0,h1|h1|⟨h1,h2⟩|⟨h1,h2,h3⟩|⟨h1,h2,h3⟩|⟨h1,h2,h3⟩⟩|⟨h0,h1⟩|⟨h0,h1⟩
  ·exact⟨.tru, .tru h1,trivial⟩
  ·exact⟨.fls, .fls h1,trivial⟩
  ·obtain⟨e1,e2,_⟩:=hm.1 (.inl h1);obtain⟨n,e3,e4⟩:=Mz h2 e2;exact⟨_, .eq h1 e3,Jn hfl (Da e1),e4⟩
  ·obtain⟨e1,e2,e5⟩:=hm.1 (.inr h1);obtain⟨n,e3,e4⟩:=Mz h2 e2;have e6:=e5 h1;exact⟨_, .pre (k:=m.to.toNat) h1 e3 qom,Jn hfl (Da e1),e4,by omega⟩
  ·obtain⟨e1,e2⟩:=hm.2 h1;obtain⟨n,e3,e4⟩:=Mz (show 0<=m.to by omega) e2;exact⟨_, .rng (n:=m.val.toNat) h1 qom e3,Jn hfl (Da e1),by omega,e4⟩
  ·exact⟨_, .tim (n:=m.val) (k:=m.to) h1 U U,trivial⟩
  ·obtain⟨a,ha⟩:=List.length_eq_one_iff.1 h0;obtain⟨p,e1,e2⟩:=ih a (by rw[ha];simp) (hsub a (by rw[ha];simp));exact⟨_, .no h1 ha e1,e2⟩
  ·obtain⟨a,b,hab⟩:=len_two h0;obtain⟨p,e1,e2⟩:=ih a (by rw[hab];simp) (hsub a (by rw[hab];simp));obtain⟨q,e3,e4⟩:=ih b (by rw[hab];simp) (hsub b (by rw[hab];simp));rcases h1 with h1|h1
   ·exact⟨_, .and h1 hab e1 e3,e2,e4⟩
   ·exact⟨_, .or h1 hab e1 e3,e2,e4⟩
theorem fm_isO {fl:List Fd}(hfl:FlOk fl):∀ {m:Pom},FmO m->(∀ a∈prtO m,FitO fl a)->∃ p,IsO fl m p/\p.Fit (bsF fl):=fun {m} h=>by
 induction h with
 | @mk m hl hs ih=>
  intro hf;have hm:=hf m (by rw[De];simp);have hsub:∀ a∈m.subs,∀ b∈prtO a,FitO fl b:=fun a ha b hb=>hf b (by
   rw[De];refine List.mem_cons_of_mem _ ?_
   generalize m.subs=l at ha
   induction l with
   |nil=>cases ha
   |cons x l ih2=>
    rw[prtOL];rcases List.mem_cons.1 ha with rfl|ha
    ·exact List.mem_append.2 (.inl hb)
    ·exact List.mem_append.2 (.inr (ih2 ha)))
  rcases hl with ⟨h0,⟨h1,h2⟩|⟨h1,h2⟩⟩|⟨h0,h1⟩|⟨h0,h1⟩
  ·obtain⟨p,e1,e2⟩:=fm_is hfl h2 (hm.1 h1);exact⟨_, .fil h1 e1,e2⟩
  ·obtain⟨e1,e2⟩:=hm.2 h1;obtain⟨n,e3,e4⟩:=Mz h2 e2;exact⟨_, .set h1 e3,Jn hfl (Da e1),e4⟩
  ·obtain⟨a,b,hab⟩:=len_two h0;obtain⟨p,e1,e2⟩:=ih a (by rw[hab];simp) (hsub a (by rw[hab];simp));obtain⟨q,e3,e4⟩:=ih b (by rw[hab];simp) (hsub b (by rw[hab];simp));rcases h1 with h1|h1
   ·exact⟨_, .uni h1 hab e1 e3,e2,e4⟩
   ·exact⟨_, .seq h1 hab e1 e3,e2,e4⟩
  ·obtain⟨a,ha⟩:=List.length_eq_one_iff.1 h0;obtain⟨p,e1,e2⟩:=ih a (by rw[ha];simp) (hsub a (by rw[ha];simp));exact⟨_, .star h1 ha e1,e2⟩
theorem Ke1 (a0 a1 a2 a3 a4 a5 a6 a7 a8 a9 a10 a11 a12 a13 a14 a15 a16 a17 a18 a19 a20 a21 a22 a23 a24 a25 a26 a27 a28 a29 a30 a31 a32 a33 a34 a35 a36 a37 a38 a39 a40 a41 a42 a43 a44 a45 a46 a47 a48:ByteArray)(w:World):(Instr.buildSlice 111 49 #[(0, .string a0),(1, .string a1),(2, .string a2),(3, .string a3),(4, .string a4),(5, .string a5),(6, .string a6),(7, .string a7),(8, .string a8),(9, .string a9),(10, .string a10),(11, .string a11),(12, .string a12),(13, .string a13),(14, .string a14),(15, .string a15),(16, .string a16),(17, .string a17),(18, .string a18),(19, .string a19),(20, .string a20),(21, .string a21),(22, .string a22),(23, .string a23),(24, .string a24),(25, .string a25),(26, .string a26),(27, .string a27),(28, .string a28),(29, .string a29),(30, .string a30),(31, .string a31),(32, .string a32),(33, .string a33),(34, .string a34),(35, .string a35),(36, .string a36),(37, .string a37),(38, .string a38),(39, .string a39),(40, .string a40),(41, .string a41),(42, .string a42),(43, .string a43),(44, .string a44),(45, .string a45),(46, .string a46),(47, .string a47),(48, .string a48)]).run prog w= .ok (.slice (some ⟨w.heap.size,0,none⟩) 49 49) (w.alloc (Cl [.string a0, .string a1, .string a2, .string a3, .string a4, .string a5, .string a6, .string a7, .string a8, .string a9, .string a10, .string a11, .string a12, .string a13, .string a14, .string a15, .string a16, .string a17, .string a18, .string a19, .string a20, .string a21, .string a22, .string a23, .string a24, .string a25, .string a26, .string a27, .string a28, .string a29, .string a30, .string a31, .string a32, .string a33, .string a34, .string a35, .string a36, .string a37, .string a38, .string a39, .string a40, .string a41, .string a42, .string a43, .string a44, .string a45, .string a46, .string a47, .string a48] 9)):=by kernel_rfl
abbrev SomB (H:Mm):Value->Mm->Prop:=fun u H'=>∃ b:Bool,u= .bool b/\H'=H
theorem letter_s (c:Int):
  FSpec prog w0 233 #[.int .u8 c] H (SomB H):=by
 refine Am func233 U ntmps233 U (rDt 10 U ?_);refine Aq (s:=5) (Aa U) (fun c5=> ?_) (fun c5=> ?_)
 ·refine rOt 7 U (Ai U (Ol U) ?_);exact⟨_,⟨_,rfl,rfl⟩,sbt⟩
 ·refine rOt 7 U (Ai U (Ol U) ?_);exact⟨_,⟨_,rfl,rfl⟩,sbt⟩
theorem digit_s (c:Int):
  FSpec prog w0 239 #[.int .u8 c] H (SomB H):=by
 refine Am func239 U ntmps239 U (rDt 10 U ?_);refine Aq (s:=5) (Aa U) (fun c5=> ?_) (fun c5=> ?_)
 ·refine rOt 7 U (Ai U (Ol U) ?_);exact⟨_,⟨_,rfl,rfl⟩,sbt⟩
 ·refine rOt 7 U (Ai U (Ol U) ?_);exact⟨_,⟨_,rfl,rfl⟩,sbt⟩
theorem wordByte_s (c:Int):
  FSpec prog w0 238 #[.int .u8 c] H (SomB H):=by
 refine Am func238 U ntmps238 U (rDt 8 U (e_ (Ah (evq1 U) call233 (letter_s c)) ?_ U));rintro _ _ ⟨b1,rfl,rfl⟩;refine rOt 6 U (e_ (Ah (evq1 U) call239 (digit_s c)) ?_ U);rintro _ _ ⟨b2,rfl,rfl⟩;refine rOt 7 U ?_
 first|refine Aq (s:=10) (Aa U) (fun c10=> ?_) (fun c10=> ?_)|refine C0 (s:=10) (Aa U) (fun c10=> ?_) (fun c10=> ?_)
 ·refine rOt 10 U (Ai U (Ol U) ?_);exact⟨_,⟨_,rfl,rfl⟩,sbt⟩
 ·refine rOt 3 U ?_
  first|refine Aq (s:=13) (Aa U) (fun c13=> ?_) (fun c13=> ?_)|refine C0 (s:=13) (Aa U) (fun c13=> ?_) (fun c13=> ?_)
  ·refine rOt 7 U (Ai U (Ol U) ?_);exact⟨_,⟨_,rfl,rfl⟩,sbt⟩
  ·refine rOt 7 U (Ai U (Ol U) ?_);exact⟨_,⟨_,rfl,rfl⟩,sbt⟩
theorem run_s (s:ByteArray)(hs9:s.size<=9223372036854775807):
  FSpec prog w0 235 #[.string s] H (fun u H'=>∃ n:Int,u=Vi n/\H'=H):=by
 refine Am func235 U ntmps235 U (rDt 12 U ?_);refine A8 (X:=Nat) (V:=fun i=>[(3,Vi (i:Nat))]) (C:=[(0,_)]) (G:=fun i=>H) (φ:=fun i=>i<=s.size) (μ:=fun i=>s.size - i) (x0:=0) ?_ (kg U) qkg sb0 ?_
 ·exact Nat.zero_le _
 rintro i hi;refine rDt 5 U (y_ (Fo (T U) runUnderlying9) (rOt 3 U ?_) U);refine jcd U (fun c8=> ?_) (fun c8=> ?_)
 ·refine rCt 7 U (y_ (F2 (T U) (T U) runUnderlying9 (by have h9:((i:Nat):Int)<(s.size:Nat):=c8;omega)) ?_ U);refine e_ (Ah (evq1 U) call238 (wordByte_s _)) ?_ U;rintro _ _ ⟨b1,rfl,rfl⟩;refine rOt 7 U ?_
  first|refine A6 (Bt (T U)) U Ad ?_|refine A6 (Bq (T U)) U Ad ?_
  refine rOt 2 U ?_
  first|refine jcd U (fun c14=> ?_) (fun c14=> ?_)|refine jcn U (fun c14=> ?_) (fun c14=> ?_)
  ·refine rCt 3 U (An (rXt 9 U (Ai U (Ol U) ?_)));exact⟨_,⟨_,rfl,rfl⟩,sbt⟩
  ·refine rCt 4 U (y_ (Aw (T U) Al (by have h9:((i:Nat):Int)<(s.size:Nat):=c8;omega)) ?_ U);refine rOt 3 U ?_;refine Au (i+1) ?_ ?_ qkg (kg U) ?_
   ·have h9:((i:Nat):Int)<(s.size:Nat):=c8;omega
   ·have h9:((i:Nat):Int)<(s.size:Nat):=c8;omega
   ·exact sbt
 ·refine rCt 2 U (An (rXt 9 U (Ai U (Ol U) ?_)));exact⟨_,⟨_,rfl,rfl⟩,sbt⟩
def wordsL:List ByteArray:=[⟨#[97,110,100]⟩,⟨#[97,110,121]⟩,⟨#[97,116]⟩,⟨#[98,97,99,107]⟩,⟨#[98,111,120]⟩,⟨#[98,117,114,115,116]⟩,⟨#[98,121]⟩,⟨#[99,97,112,97,99,105,116,121]⟩,⟨#[99,101,105,108,105,110,103]⟩,⟨#[99,104,101,99,107]⟩,⟨#[99,111,110,116,114,97,99,116]⟩,⟨#[99,111,117,110,116]⟩,⟨#[100,101,109,97,110,100]⟩,⟨#[100,114,111,112]⟩,⟨#[101,97,99,104]⟩,⟨#[101,100,103,101]⟩,⟨#[101,110,116,114,105,101,115]⟩,⟨#[102,97,108,115,101]⟩,⟨#[102,105,101,108,100]⟩,⟨#[102,108,111,111,114]⟩,⟨#[102,114,111,109]⟩,⟨#[105,100]⟩,⟨#[105,110]⟩,⟨#[105,110,110,101,114]⟩,⟨#[105,110,116,111]⟩,⟨#[108,105,110,107]⟩,⟨#[110,101,116,119,111,114,107]⟩,⟨#[110,111,100,101]⟩,⟨#[110,111,116]⟩,⟨#[111,112,101,110]⟩,⟨#[111,114]⟩,⟨#[112,97,116,104]⟩,⟨#[112,111,114,116]⟩,⟨#[112,114,105,99,101]⟩,⟨#[114,111,117,116,101]⟩,⟨#[114,117,108,101,115]⟩,⟨#[115,116,97,103,101]⟩,⟨#[116,97,107,101]⟩,⟨#[116,101,110,97,110,116]⟩,⟨#[116,104,101,110]⟩,⟨#[116,105,109,101]⟩,⟨#[116,111]⟩,⟨#[116,111,107,101,110]⟩,⟨#[116,114,97,110,115,108,97,116,101]⟩,⟨#[116,114,117,101]⟩,⟨#[118,105,97]⟩,⟨#[119,105,100,116,104]⟩,⟨#[119,105,114,101]⟩,⟨#[119,105,116,104,105,110]⟩]
abbrev wordsV:List Value:=wordsL.map Value.string
theorem words_s :
  FSpec prog w0 237 #[] H (fun u H'=>∃ n:Nat,u= .slice (some ⟨n,0,none⟩) 49 49/\H'=(n,Cl wordsV 9)::H):=by
 refine Am func237 U ntmps237 U (rDt 7 U (e_ (Bb (.cons Al (.cons Al (.cons Al (.cons Al (.cons Al (.cons Al (.cons Al (.cons Al (.cons Al (.cons Al (.cons Al (.cons Al (.cons Al (.cons Al (.cons Al (.cons Al (.cons Al (.cons Al (.cons Al (.cons Al (.cons Al (.cons Al (.cons Al (.cons Al (.cons Al (.cons Al (.cons Al (.cons Al (.cons Al (.cons Al (.cons Al (.cons Al (.cons Al (.cons Al (.cons Al (.cons Al (.cons Al (.cons Al (.cons Al (.cons Al (.cons Al (.cons Al (.cons Al (.cons Al (.cons Al (.cons Al (.cons Al (.cons Al (.cons Al .nil))))))))))))))))))))))))))))))))))))))))))))))))) (Ke1 _ _ _ _ _ _ _ _ _ _ _ _ _ _ _ _ _ _ _ _ _ _ _ _ _ _ _ _ _ _ _ _ _ _ _ _ _ _ _ _ _ _ _ _ _ _ _ _ _)) ?_ U));rintro _ _ ⟨n1,rfl,rfl⟩;refine rOt 4 U (Ai U (Ol U) ?_);exact⟨_,⟨_,rfl,rfl⟩,sbt⟩
theorem words_cell {n i:Nat}(hf:Fnd H n (Cl wordsV 9))(hi:i<49):Cell w0 H ⟨n,0+((i:Nat):Int).toNat*1,none⟩ (.string (gd wordsL i)):=by
 have hl:i<wordsL.length:=hi;have:=Ae (w0:=w0) hf i (.string (gd wordsL i)) (by rw[List.getElem?_map,List.getElem?_eq_getElem hl,Ar hl];rfl)
 rwa [show 0+((i:Nat):Int).toNat*1=0+i by omega]
theorem isWord_s (s:ByteArray):
  FSpec prog w0 234 #[.string s] H (SomB H):=by
 refine Am func234 U ntmps234 U (rDt 7 U (e_ (Ah .nil call237 (words_s)) ?_ U));rintro _ _ ⟨nw,rfl,rfl⟩;refine rOt 10 U ?_;refine A8 (X:=Nat) (V:=fun i=>[(4,Vi (i:Nat))]) (C:=[(0,_),(3,_)]) (G:=fun i=>(nw,Cl wordsV 9)::H) (φ:=fun i=>i<=49) (μ:=fun i=>49 - i) (x0:=0) ?_ (kg U) qkg sb0 ?_
 ·exact Nat.zero_le _
 rintro i hi;refine rDt 9 U ?_;refine jcd U (fun c9=> ?_) (fun c9=> ?_)
 ·refine rCt 8 U (y_ (Oo U U runUnderlying111 sizeOf9 (by have h9:((i:Nat):Int)<49:=c9;omega) (by exact rfl)) ?_ U);refine y_ (Om U isAgg9 (by first|exact c_o|exact words_cell fndq (by have h9:((i:Nat):Int)<49:=c9;omega))) ?_ U;refine rOt 1 U (y_ (yl_eqS (T U) (T U)) (rOt 2 U ?_) U)
  first|refine jcd U (fun c17=> ?_) (fun c17=> ?_)|refine jcn U (fun c17=> ?_) (fun c17=> ?_)
  ·refine rCt 8 U (Bg (rXt 2 U (Ai U (Ol U) ?_)));exact⟨_,⟨_,rfl,rfl⟩,sbt⟩
  ·refine rCt 5 U (y_ (Aw (T U) Al (by have h9:((i:Nat):Int)<49:=c9;omega)) ?_ U);refine rOt 2 U ?_;refine Au (i+1) ?_ ?_ qkg (kg U) ?_
   ·have h9:((i:Nat):Int)<49:=c9;omega
   ·have h9:((i:Nat):Int)<49:=c9;omega
   ·exact sbt
 ·refine rCt 2 U (An (rXt 8 U (Ai U (Ol U) ?_)));exact⟨_,⟨_,rfl,rfl⟩,sbt⟩
theorem name_s (s:ByteArray)(hs9:s.size<=9223372036854775807):
  FSpec prog w0 229 #[.string s] H (SomB H):=by
 refine Am func229 U ntmps229 U (rDt 9 U (y_ (Fo (T U) runUnderlying9) (rOt 2 U ?_) U));refine Aq (s:=8) (Aa U) (fun c8=> ?_) (fun c8=> ?_)
 ·refine rOt 14 U (Ai U (Ol U) ?_);exact⟨_,⟨_,rfl,rfl⟩,sbt⟩
 ·have h0:0<s.size:=by have h9: ¬ (s.size:Int)=0:=c8;omega
  refine rOt 1 U (A6 (Fo (T U) runUnderlying9) U (A7 U U (Aa U)) (rOt 4 U ?_));refine jcd U (fun c12=> ?_) (fun c12=> ?_)
  ·refine rCt 7 U (Ai U (Ol U) ?_);exact⟨_,⟨_,rfl,rfl⟩,sbt⟩
  ·refine rCt 5 U (y_ (F2 (T U) Al runUnderlying9 qom) ?_ U);refine e_ (Ah (evq1 U) call233 (letter_s _)) ?_ U;rintro _ _ ⟨b1,rfl,rfl⟩;refine rOt 6 U (e_ (Ah (evq1 U) call234 (isWord_s s)) ?_ U);rintro _ _ ⟨b2,rfl,rfl⟩;refine rOt 7 U ?_
   first|refine Aq (s:=19) (Aa U) (fun c19=> ?_) (fun c19=> ?_)|refine C0 (s:=19) (Aa U) (fun c19=> ?_) (fun c19=> ?_)
   ·refine rOt 1 U (Bo (Ah (evq1 U) call235 (run_s s hs9)) U (A7 U U (Aa U)) ?_);rintro _ _ ⟨nr,rfl,rfl⟩;refine rOt 1 U (A6 (Fo (T U) runUnderlying9) U (A7 U U (Aa U)) (rOt 3 U ?_));refine Aq (s:=26) (Aa U) (fun c26=> ?_) (fun c26=> ?_)
    ·refine rOt 1 U ?_
     first|refine A6 (Bt (T U)) U (A7 U U (Aa U)) ?_|refine A6 (Bq (T U)) U (A7 U U (Aa U)) ?_
     refine rOt 5 U (Ai U (Ol U) ?_);exact⟨_,⟨_,rfl,rfl⟩,sbt⟩
    ·refine rOt 7 U (Ai U (Ol U) ?_);exact⟨_,⟨_,rfl,rfl⟩,sbt⟩
   ·refine rOt 14 U (Ai U (Ol U) ?_);exact⟨_,⟨_,rfl,rfl⟩,sbt⟩
theorem plain_s (s:ByteArray)(hs9:s.size<=9223372036854775807):
  FSpec prog w0 219 #[.string s] H (SomB H):=by
 refine Am func219 U ntmps219 U (rDt 8 U (e_ (Ah (evq1 U) call229 (name_s s hs9)) ?_ U));rintro _ _ ⟨b1,rfl,rfl⟩;refine rOt 4 U (Ai U (Ol U) ?_);exact⟨_,⟨_,rfl,rfl⟩,sbt⟩
theorem named_s (s:ByteArray)(hs9:s.size<=9223372036854775807):
  FSpec prog w0 193 #[.string s] H (SomB H):=by
 refine Am func193 U ntmps193 U (rDt 8 U (e_ (Ah (evq1 U) call219 (plain_s s hs9)) ?_ U));rintro _ _ ⟨b1,rfl,rfl⟩;refine rOt 7 U ?_
 first|refine Aq (s:=7) (Aa U) (fun c7=> ?_) (fun c7=> ?_)|refine C0 (s:=7) (Aa U) (fun c7=> ?_) (fun c7=> ?_)
 ·refine rOt 7 U (Ai U (Ol U) ?_);exact⟨_,⟨_,rfl,rfl⟩,sbt⟩
 ·refine rOt 1 U (A6 (yl_eqS (T U) Al) U (A7 U U (Aa U)) (rOt 5 U (Ai U (Ol U) ?_)));exact⟨_,⟨_,rfl,rfl⟩,sbt⟩
theorem Kd0 {a0 a1:Int}(w:World):(Instr.build 122 #[(0,Vi a0),(1,Vi a1)]).run prog w= .ok (.agg #[Vi a0,Vi a1]) w:=by kernel_rfl
theorem Lz {n:Nat}{t:TypeId}{m:Pom}(h:Fnd H n (Cl (encPo m) t)):Cells w0 H n (0+1) (encPd m.pr):=N4 (Vi m.kind) m.pr [.string m.nm,Vi m.n, .slice m.q m.subs.length m.cap] h
abbrev szV (a:Nat) (d:Int):Value:= .agg #[Vi (a:Nat),Vi d]
abbrev SzK (n b:Nat) (H:Mm):Value->Mm->Prop:=fun u H'=>∃ d:Int,(u=szV n d/\0<=d/\d<=b)/\H'=H
abbrev IntK (b:Nat) (H:Mm):Value->Mm->Prop:=fun u H'=>∃ n:Int,(u=Vi n/\0<=n/\n<=b)/\H'=H
def SzPS (w0:World) (N:Nat):Prop:=∀ {H:Mm} {m:Pdm},PdM w0 H m->m.sz<=N->FSpec prog w0 119 #[.agg (encPd m).toArray] H (SzK m.sz m.sz H)
def SzOS (w0:World) (N:Nat):Prop:=∀ {H:Mm} {m:Pom},PoM w0 H m->m.sz<=N->FSpec prog w0 77 #[.agg (encPo m).toArray] H (SzK m.nd m.sz H)
def StS (w0:World) (N:Nat):Prop:=∀ {H:Mm} {m:Pom},PoM w0 H m->m.sz<=N->FSpec prog w0 78 #[.agg (encPo m).toArray] H (IntK m.sz H)
def PuS (w0:World) (N:Nat):Prop:=∀ {H:Mm} {m:Pom},PoM w0 H m->m.sz<=N->FSpec prog w0 124 #[.agg (encPo m).toArray] H (IntK m.sz H)
theorem yl_addL {P:Program}{w0:World}{L:Fm}{H:Mm}{ty xt yt:TypeId}{x y:Operand}{a c:Nat}(hx:Ev L x (Vi (a:Nat)))(hy:Ev L y (Vi (c:Nat)))(h:a+c<=4000000000):Yl P w0 (.binOp .add xt x y yt) ty L H (Vi ((a+c:Nat):Int)):=by
 have h:=Aw (P:=P) (w0:=w0) (H:=H) (ty:=ty) (xt:=xt) (yt:=yt) hx hy qom
 rwa [show (a:Int)+c=((a+c:Nat):Int) by omega] at h
theorem more_s (a c:Nat)(b d:Int)(h:a+c<=4000000000/\0<=b/\b<=4000000000/\0<=d/\d<=4000000000):
  FSpec prog w0 123 #[szV a b,szV c d] H (Still (szV (a+c) (max b (d+1))) H):=by
 refine Am func123 U ntmps123 U (rDt 2 U (e_ (Ot U cs_) ?_ U));rintro _ _ ⟨n2,rfl,rfl⟩;refine e_ (Ot U cs_) ?_ U;rintro _ _ ⟨n3,rfl,rfl⟩;refine e_ (Ag zeroValue122 cs_) ?_ U;rintro _ _ ⟨n4,rfl,rfl⟩;refine rOt 5 U (y_ (Om U isAgg3 qco) ?_ U);refine rOt 1 U (y_ (Om U isAgg3 qco) ?_ U);refine y_ (yl_addL (T U) (T U) qom) ?_ U;refine rOt 1 U (y_ (Om U isAgg3 qco) ?_ U);refine rOt 1 U (y_ (Om U isAgg3 qco) ?_ U);refine y_ (Aw (T U) Al qom) ?_ U;refine y_ (yl_max (T U) (T U)) (y_ (A1 (.cons (T U) (.cons (T U) .nil)) (Kd0)) ?_ U) U;refine Bo (Oq U U sizeOf122) U Ad ?_;rintro _ _ ⟨rfl,rfl⟩;refine rOt 3 U (Ai U (.cellA (Aa U) isAgg122 sizeOf122 U qcs .nil) ?_);exact⟨_,⟨rfl,rfl⟩,sbt⟩
theorem szP_step {N:Nat}(hN:N<=1000000000)(ih:SzPS w0 N){m:Pdm}(hM:PdM w0 H m)(hm:m.sz<=N+1):
  FSpec prog w0 119 #[.agg (encPd m).toArray] H (SzK m.sz m.sz H):=by
 refine Am func119 U ntmps119 U ?_;have hsz:=Gb m;have hln:=Ig m.subs;refine rDt 2 U (e_ (Ot U cs_) ?_ U);rintro _ _ ⟨n1,rfl,rfl⟩;refine e_ (Ag zeroValue122 cs_) ?_ U;rintro _ _ ⟨n2,rfl,rfl⟩;refine rOt 4 U (y_ (A1 (.cons Al (.cons Al .nil)) (Kd0)) (e_ (Ag zeroValue122 cs_) ?_ U) U);rintro _ _ ⟨n3,rfl,rfl⟩;refine Bo (Oq U U sizeOf122) U Ad ?_;rintro _ _ ⟨rfl,rfl⟩;refine rOt 9 U ?_;refine A8 (X:=Nat × Int) (V:=fun ⟨i,dd⟩=>[(4,Vi (i:Nat))]) (C:=[(1,_),(2,_),(3,_)]) (G:=fun ⟨i,dd⟩=>(n3,Cl [Vi ((1+szPL (m.subs.take i):Nat):Int),Vi dd] 122)::(n2,Cl [Vi 0,Vi 0] 122)::(n1,Cl (encPd m) 25)::H) (φ:=fun ⟨i,dd⟩=>i<=m.subs.length/\0<=dd/\dd<=szPL m.subs+1) (μ:=fun ⟨i,dd⟩=>m.subs.length - i) (x0:=(0,1)) ?_ (kg U) qkg sbt ?_
 ·exact⟨Nat.zero_le _,by omega,by omega⟩
 rintro⟨i,dd⟩ ⟨hi,hd1,hd2⟩;refine rDt 5 U (y_ (Om U isAgg23 qco) ?_ U);refine rOt 4 U ?_;refine jcd U (fun c10=> ?_) (fun c10=> ?_)
 ·have hi2:i<m.subs.length:=Int.ofNat_lt.1 c10;have htk:=szPL_take hi2;have hal:=szPL_all (l:=m.subs) (i+1);refine rCt 4 U (Bf 8 (plq6 [(6,false),(7,true)]) ((n3,Cl [Vi ((1+szPL (m.subs.take i):Nat):Int),Vi dd] 122)::(n1,Cl (encPd m) 25)::H) mixd qkr sbt ?_ Bh);refine o_y U (On U isAgg122 sizeOf122 U qcs) ?_ U Ad;refine rPt 1 U (o_y U (Om U isAgg23 qco) ?_ U Ad);refine rPt 1 U (o_y U (Oo U U runUnderlying23 sizeOf25 qom (by first|exact rfl|exact hM.arr.b (i:=i) hi2)) ?_ U Ad);refine o_y U (On U isAgg25 sizeOf25 U (by exact(hM.arr.mono sbt).cs (i:=i) hi2)) ?_ U Ad;refine o_e U (Ah (evq1 U) call119 (ih ((hM.sub (Ax hi2)).mono sbt) qom)) ?_ U Ad;rintro _ _ ⟨d1,⟨rfl,d2,d3⟩,rfl⟩;refine⟨sbt,(o_y U (Ao (evq2 U U) call123 (fun H' hs=>more_s _ _ _ _ qom)) ?_ U Ad)⟩;refine Av U ?_;refine Bo (Oq U U sizeOf122) U Ad ?_;rintro _ _ ⟨rfl,rfl⟩;refine rOt 5 U (y_ (Aw (T U) Al qom) ?_ U);refine rOt 2 U ?_;refine Au ((i+1,max dd (d1+1))) ?_ ?_ qkg (kg U) ?_
  ·exact⟨hi2,by omega,by omega⟩
  ·first|omega|(simp only[];omega)
  ·dsimp only;rw[htk,<- Nat.add_assoc];exact sbt
 ·obtain rfl:i=m.subs.length:=by have h9: ¬ ((i:Nat):Int)<(m.subs.length:Nat):=c10;omega
  have htl:m.subs.take m.subs.length=m.subs:=List.take_length;refine rCt 2 U (An (rXt 4 U (y_ (On U isAgg122 sizeOf122 U qcs) ?_ U)));refine Bo (Oq U U sizeOf122) U Ad ?_;rintro _ _ ⟨rfl,rfl⟩;refine rOt 3 U (Ai U (.cellA (Aa U) isAgg122 sizeOf122 U qcs .nil) ?_);exact⟨_,⟨dd,⟨by rw[hsz,htl,Nat.add_comm];rfl,hd1,by omega⟩,rfl⟩,sbt⟩
theorem szO_step {N:Nat}(hN:N<=1000000000)(ih:SzOS w0 N)(ihP:SzPS w0 N){m:Pom}(hM:PoM w0 H m)(hm:m.sz<=N+1):
  FSpec prog w0 77 #[.agg (encPo m).toArray] H (SzK m.nd m.sz H):=by
 refine Am func77 U ntmps77 U ?_;have hsz:=Dy m;have hln:=F0 m.subs;have hnd:=Mg m;have hns:=N6 m;refine rDt 2 U (e_ (Ot U cs_) ?_ U);rintro _ _ ⟨n1,rfl,rfl⟩;refine e_ (Ag zeroValue122 cs_) ?_ U;rintro _ _ ⟨n2,rfl,rfl⟩;refine rOt 4 U (y_ (A1 (.cons Al (.cons Al .nil)) (Kd0)) (e_ (Ag zeroValue122 cs_) ?_ U) U);rintro _ _ ⟨n3,rfl,rfl⟩;refine Bo (Oq U U sizeOf122) U Ad ?_;rintro _ _ ⟨rfl,rfl⟩;refine rOt 2 U ?_;refine Em (X:=Int) (V:=fun e0=>[]) (C:=[(1,_),(2,_),(3,_)]) (G:=fun e0=>(n3,Cl [Vi ((1+(if m.kind=1 then m.pr.sz else 0):Nat):Int),Vi e0] 122)::(n2,Cl [Vi 0,Vi 0] 122)::(n1,Cl (encPo m) 28)::H) (φ:=fun e0=>0<=e0/\e0<=m.pr.sz+1) (kg U) ?_ ?_
 ·refine rDt 3 U (y_ (Om U isAgg3 qco) ?_ U);refine rOt 3 U ?_;refine jcd U (fun c8=> ?_) (fun c8=> ?_)
  ·refine Bf 5 [(0,true),(1,true),(2,true),(3,false),(4,true)] ((n3,Cl [Vi 1,Vi 1] 122)::(n2,Cl [Vi 0,Vi 0] 122)::(n1,Cl (encPo m) 28)::H) mixd qkr sbt ?_ Bh;refine o_y U (On U isAgg122 sizeOf122 U qcs) ?_ U Ad;refine rPt 1 U ?_;refine o_y U (On U isAgg25 sizeOf25 U (by exact Lz fndq)) ?_ U Ad;refine o_e U (Ah (evq1 U) call119 (ihP (hM.pred.mono sbt) qom)) ?_ U Ad;rintro _ _ ⟨d0,⟨rfl,d5,d6⟩,rfl⟩;refine⟨sbt,(o_y U (Ao (evq2 U U) call123 (fun H' hs=>more_s 1 _ 1 _ qom)) ?_ U Ad)⟩;refine Av U ?_;refine Bo (Oq U U sizeOf122) U Ad ?_;rintro _ _ ⟨rfl,rfl⟩;refine rOt 1 U (Be (max 1 (d0+1)) ?_ trivial (kg U) (by(rw[if_pos (show m.kind=1 from c8)];exact sbt)));exact⟨by omega,by omega⟩
  ·refine rCt 1 U (Be (1) ?_ trivial (kg U) (by first|(rw[if_pos (show m.kind=1 from c8)];exact sbt)|(rw[if_neg (show ¬ m.kind=1 from c8)];exact sbt)));exact⟨by omega,by omega⟩
 rintro e0 ⟨he1,he2⟩;refine rCt 7 U ?_;refine A8 (X:=Nat × Int) (V:=fun ⟨i,dd⟩=>[(4,Vi (i:Nat))]) (C:=[(1,_),(2,_),(3,_)]) (G:=fun ⟨i,dd⟩=>(n3,Cl [Vi ((1+(if m.kind=1 then m.pr.sz else 0)+ndOL (m.subs.take i):Nat):Int),Vi dd] 122)::(n2,Cl [Vi 0,Vi 0] 122)::(n1,Cl (encPo m) 28)::H) (φ:=fun ⟨i,dd⟩=>i<=m.subs.length/\0<=dd/\dd<=szOL m.subs+m.pr.sz+1) (μ:=fun ⟨i,dd⟩=>m.subs.length - i) (x0:=(0,e0)) ?_ (kg U) qkg sbt ?_
 ·exact⟨Nat.zero_le _,by omega,by omega⟩
 rintro⟨i,dd⟩ ⟨hi,hd1,hd2⟩;refine rDt 5 U (y_ (Om U isAgg26 qco) ?_ U);refine rOt 4 U ?_;refine jcd U (fun c18=> ?_) (fun c18=> ?_)
 ·have hi2:i<m.subs.length:=Int.ofNat_lt.1 c18;have htk:=ndOL_take hi2;have hss:=D1 (Ax hi2);have hn1:=N6 (gd m.subs i);have hn2:ndOL (m.subs.take i)<=szOL m.subs:=Nat.le_trans (ndOL_sz _) (Gz i);have hn3:(if m.kind=1 then m.pr.sz else 0)<=m.pr.sz:=by split<;>omega
  refine rCt 4 U (Bf 8 (plq6 [(6,false),(7,true)]) ((n3,Cl [Vi ((1+(if m.kind=1 then m.pr.sz else 0)+ndOL (m.subs.take i):Nat):Int),Vi dd] 122)::(n1,Cl (encPo m) 28)::H) mixd qkr sbt ?_ Bh);refine o_y U (On U isAgg122 sizeOf122 U qcs) ?_ U Ad;refine rPt 1 U (o_y U (Om U isAgg26 qco) ?_ U Ad);refine rPt 1 U (o_y U (Oo U U runUnderlying26 sizeOf28 qom (by first|exact rfl|exact hM.arr.b (i:=i) hi2)) ?_ U Ad);refine o_y U (On U isAgg28 sizeOf28 U (by exact(hM.arr.mono sbt).cs (i:=i) hi2)) ?_ U Ad;refine o_e U (Ah (evq1 U) call77 (ih ((hM.sub (Ax hi2)).mono sbt) qom)) ?_ U Ad;rintro _ _ ⟨d1,⟨rfl,d2,d3⟩,rfl⟩;refine⟨sbt,(o_y U (Ao (evq2 U U) call123 (fun H' hs=>more_s _ _ _ _ qom)) ?_ U Ad)⟩;refine Av U ?_;refine Bo (Oq U U sizeOf122) U Ad ?_;rintro _ _ ⟨rfl,rfl⟩;refine rOt 5 U (y_ (Aw (T U) Al qom) ?_ U);refine rOt 2 U ?_;refine Au ((i+1,max dd (d1+1))) ?_ ?_ qkg (kg U) ?_
  ·exact⟨hi2,by omega,by omega⟩
  ·first|omega|(simp only[];omega)
  ·dsimp only;rw[htk,<- Nat.add_assoc];exact sbt
 ·obtain rfl:i=m.subs.length:=by have h9: ¬ ((i:Nat):Int)<(m.subs.length:Nat):=c18;omega
  have htl:m.subs.take m.subs.length=m.subs:=List.take_length;refine rCt 2 U (An (rXt 4 U (y_ (On U isAgg122 sizeOf122 U qcs) ?_ U)));refine Bo (Oq U U sizeOf122) U Ad ?_;rintro _ _ ⟨rfl,rfl⟩;refine rOt 3 U (Ai U (.cellA (Aa U) isAgg122 sizeOf122 U qcs .nil) ?_);exact⟨_,⟨dd,⟨by rw[hnd,htl];rfl,hd1,by omega⟩,rfl⟩,sbt⟩
theorem st_step {N:Nat}(hN:N<=1000000000)(ih:StS w0 N){m:Pom}(hM:PoM w0 H m)(hm:m.sz<=N+1):
  FSpec prog w0 78 #[.agg (encPo m).toArray] H (IntK m.sz H):=by
 refine Am func78 U ntmps78 U ?_;have hsz:=Dy m;have hln:=F0 m.subs;refine rDt 2 U (e_ (Ot U cs_) ?_ U);rintro _ _ ⟨n1,rfl,rfl⟩;refine rOt 15 U ?_;refine A8 (X:=Nat × Int) (V:=fun ⟨i,s⟩=>[(3,Vi s),(4,Vi (i:Nat))]) (C:=[(1,_)]) (G:=fun ⟨i,s⟩=>(n1,Cl (encPo m) 28)::H) (φ:=fun ⟨i,s⟩=>i<=m.subs.length/\0<=s/\s<=szOL m.subs) (μ:=fun ⟨i,s⟩=>m.subs.length - i) (x0:=(0,0)) ?_ (kg U) qkg sb0 ?_
 ·exact⟨Nat.zero_le _,by omega,by omega⟩
 rintro⟨i,s⟩ ⟨hi,hs1,hs2⟩;refine rDt 5 U (y_ (Om U isAgg26 qco) ?_ U);refine rOt 4 U ?_;refine jcd U (fun c9=> ?_) (fun c9=> ?_)
 ·have hi2:i<m.subs.length:=Int.ofNat_lt.1 c9;have htk:=szOL_take hi2;have hal:=Gz (l:=m.subs) (i+1);refine rCt 7 U (y_ (Om U isAgg26 qco) ?_ U);refine rOt 1 U (y_ (Oo U U runUnderlying26 sizeOf28 qom (by first|exact rfl|exact hM.arr.b (i:=i) hi2)) ?_ U);refine y_ (On U isAgg28 sizeOf28 U (by exact(hM.arr.mono sbt).cs (i:=i) hi2)) ?_ U;refine e_ (Ah (evq1 U) call78 (ih ((hM.sub (Ax hi2)).mono sbt) qom)) ?_ U;rintro _ _ ⟨d1,⟨rfl,d2,d3⟩,rfl⟩;refine y_ (yl_max (T U) (T U)) (rOt 6 U (y_ (Aw (T U) Al qom) ?_ U)) U;refine rOt 2 U ?_;refine Au ((i+1,max s d1)) ?_ ?_ qkg (kg U) ?_
  ·exact⟨hi2,by omega,by omega⟩
  ·first|omega|(simp only[];omega)
  ·exact sbt
 ·obtain rfl:i=m.subs.length:=by have h9: ¬ ((i:Nat):Int)<(m.subs.length:Nat):=c9;omega
  have htl:m.subs.take m.subs.length=m.subs:=List.take_length;refine rCt 2 U (An (rXt 6 U (y_ (Om U isAgg3 qco) ?_ U)));refine rOt 3 U ?_;refine jcd U (fun c22=> ?_) (fun c22=> ?_)
  ·refine rCt 2 U (y_ (Aw (T U) Al qom) ?_ U);refine rOt 10 U (Ai U (Ol U) ?_);exact⟨_,⟨_,⟨rfl,by omega,by omega⟩,rfl⟩,sbt⟩
  ·refine rCt 9 U (Ai U (Ol U) ?_);exact⟨_,⟨_,⟨rfl,by omega,by omega⟩,rfl⟩,sbt⟩
theorem pu_step {N:Nat}(hN:N<=1000000000)(ih:PuS w0 N){m:Pom}(hM:PoM w0 H m)(hm:m.sz<=N+1):
  FSpec prog w0 124 #[.agg (encPo m).toArray] H (IntK m.sz H):=by
 refine Am func124 U ntmps124 U ?_;have hsz:=Dy m;have hln:=F0 m.subs;refine rDt 2 U (e_ (Ot U cs_) ?_ U);rintro _ _ ⟨n1,rfl,rfl⟩;refine rOt 15 U ?_;refine A8 (X:=Nat × Int) (V:=fun ⟨i,s⟩=>[(3,Vi s),(4,Vi (i:Nat))]) (C:=[(1,_)]) (G:=fun ⟨i,s⟩=>(n1,Cl (encPo m) 28)::H) (φ:=fun ⟨i,s⟩=>i<=m.subs.length/\0<=s/\s<=szOL (m.subs.take i)) (μ:=fun ⟨i,s⟩=>m.subs.length - i) (x0:=(0,0)) ?_ (kg U) qkg sb0 ?_
 ·exact⟨Nat.zero_le _,by omega,by simp[szOL]⟩
 rintro⟨i,s⟩ ⟨hi,hs1,hs2⟩;have hal0:=Gz (l:=m.subs) i;refine rDt 5 U (y_ (Om U isAgg26 qco) ?_ U);refine rOt 4 U ?_;refine jcd U (fun c9=> ?_) (fun c9=> ?_)
 ·have hi2:i<m.subs.length:=Int.ofNat_lt.1 c9;have htk:=szOL_take hi2;have hal:=Gz (l:=m.subs) (i+1);refine rCt 7 U (y_ (Om U isAgg26 qco) ?_ U);refine rOt 1 U (y_ (Oo U U runUnderlying26 sizeOf28 qom (by first|exact rfl|exact hM.arr.b (i:=i) hi2)) ?_ U);refine y_ (On U isAgg28 sizeOf28 U (by exact(hM.arr.mono sbt).cs (i:=i) hi2)) ?_ U;refine e_ (Ah (evq1 U) call124 (ih ((hM.sub (Ax hi2)).mono sbt) qom)) ?_ U;rintro _ _ ⟨d1,⟨rfl,d2,d3⟩,rfl⟩;refine y_ (Aw (T U) (T U) qom) ?_ U;refine rOt 6 U (y_ (Aw (T U) Al qom) ?_ U);refine rOt 2 U ?_;refine Au ((i+1,s+d1)) ?_ ?_ qkg (kg U) ?_
  ·exact⟨hi2,by omega,by omega⟩
  ·first|omega|(simp only[];omega)
  ·exact sbt
 ·obtain rfl:i=m.subs.length:=by have h9: ¬ ((i:Nat):Int)<(m.subs.length:Nat):=c9;omega
  have htl:m.subs.take m.subs.length=m.subs:=List.take_length;refine rCt 2 U (An (rXt 6 U (y_ (Om U isAgg3 qco) ?_ U)));refine rOt 3 U ?_;refine jcd U (fun c22=> ?_) (fun c22=> ?_)
  ·refine rCt 2 U (y_ (Aw (T U) Al qom) ?_ U);refine rOt 10 U (Ai U (Ol U) ?_);rw[htl] at hs2;exact⟨_,⟨_,⟨rfl,by omega,by omega⟩,rfl⟩,sbt⟩
  ·refine rCt 9 U (Ai U (Ol U) ?_);rw[htl] at hs2;exact⟨_,⟨_,⟨rfl,by omega,by omega⟩,rfl⟩,sbt⟩
theorem szP_s {w0:World}(N:Nat)(hN:N<=1000000000):SzPS w0 N:=by
 induction N with
 |zero=>intro H m _ h;have:=Gb m;omega
 |succ N ih=>
  have hN:N<=1000000000:=by omega
  have ih:SzPS w0 N:=ih hN;intro H m hM hm;exact szP_step hN ih hM hm
theorem szO_s {w0:World}(N:Nat)(hN:N<=1000000000):SzOS w0 N:=by
 induction N with
 |zero=>intro H m _ h;have:=Dy m;omega
 |succ N ih=>
  have hN:N<=1000000000:=by omega
  have ih:SzOS w0 N:=ih hN;intro H m hM hm;exact szO_step hN ih (szP_s N hN) hM hm
theorem stO_s {w0:World}(N:Nat)(hN:N<=1000000000):StS w0 N:=by
 induction N with
 |zero=>intro H m _ h;have:=Dy m;omega
 |succ N ih=>
  have hN:N<=1000000000:=by omega
  have ih:StS w0 N:=ih hN;intro H m hM hm;exact st_step hN ih hM hm
theorem pu_s {w0:World}(N:Nat)(hN:N<=1000000000):PuS w0 N:=by
 induction N with
 |zero=>intro H m _ h;have:=Dy m;omega
 |succ N ih=>
  have hN:N<=1000000000:=by omega
  have ih:PuS w0 N:=ih hN;intro H m hM hm;exact pu_step hN ih hM hm
theorem fewO_s {m:Pom}(hM:PoM w0 H m)(hm:m.sz<=1000000000)  :
  FSpec prog w0 75 #[.agg (encPo m).toArray] H (SomB H):=by
 refine Am func75 U ntmps75 U ?_;have hns:=N6 m;have hsz:=Dy m;refine rDt 2 U (e_ (Ot U cs_) ?_ U);rintro _ _ ⟨n1,rfl,rfl⟩;refine rOt 5 U (y_ (On U isAgg28 sizeOf28 U qcs) ?_ U);refine e_ (Ah (evq1 U) call77 (szO_s _ (Nat.le_refl _) (hM.mono sbt) hm)) ?_ U;rintro _ _ ⟨z1,⟨rfl,y1,x1⟩,rfl⟩;refine e_ (Ag zeroValue122 cs_) ?_ U;rintro _ _ ⟨n3,rfl,rfl⟩;refine Bo (Oq U U sizeOf122) U Ad ?_;rintro _ _ ⟨rfl,rfl⟩;refine rOt 5 U ?_;refine y_ (On U isAgg25 sizeOf25 U (by exact Lz fndq)) ?_ U;refine e_ (Ah (evq1 U) call119 (szP_s _ (Nat.le_refl _) (hM.pred.mono sbt) qom)) ?_ U;rintro _ _ ⟨z2,⟨rfl,y2,x2⟩,rfl⟩;refine e_ (Ag zeroValue122 cs_) ?_ U;rintro _ _ ⟨n4,rfl,rfl⟩;refine Bo (Oq U U sizeOf122) U Ad ?_;rintro _ _ ⟨rfl,rfl⟩;refine rOt 5 U (y_ (Om U isAgg3 qco) ?_ U);refine rOt 2 U ?_;refine Aq (s:=13) (Aa U) (fun c13=> ?_) (fun c13=> ?_)
 ·refine rOt 1 U (A6 (Om U isAgg3 qco) U (A7 U U (Aa U)) ?_);refine rOt 3 U ?_;refine Aq (s:=18) (Aa U) (fun c18=> ?_) (fun c18=> ?_)
  ·refine rOt 1 U (A6 (Om U isAgg3 qco) U (A7 U U (Aa U)) ?_);refine rOt 6 U (Ai U (Ol U) ?_);exact⟨_,⟨_,rfl,rfl⟩,sbt⟩
  ·refine rOt 8 U (Ai U (Ol U) ?_);exact⟨_,⟨_,rfl,rfl⟩,sbt⟩
 ·refine rOt 13 U (Ai U (Ol U) ?_);exact⟨_,⟨_,rfl,rfl⟩,sbt⟩
theorem light_s {m:Pom}(hM:PoM w0 H m)(hm:m.sz<=1000000000)  :
  FSpec prog w0 79 #[.agg (encPo m).toArray] H (SomB H):=by
 refine Am func79 U ntmps79 U (rDt 2 U (e_ (Ot U cs_) ?_ U));rintro _ _ ⟨n1,rfl,rfl⟩;refine rOt 5 U (y_ (On U isAgg28 sizeOf28 U qcs) ?_ U);refine e_ (Ah (evq1 U) call78 (stO_s _ (Nat.le_refl _) (hM.mono sbt) hm)) ?_ U;rintro _ _ ⟨z1,⟨rfl,y1,x1⟩,rfl⟩;refine rOt 5 U (y_ (On U isAgg28 sizeOf28 U qcs) ?_ U);refine e_ (Ah (evq1 U) call124 (pu_s _ (Nat.le_refl _) (hM.mono sbt) hm)) ?_ U;rintro _ _ ⟨z2,⟨rfl,y2,x2⟩,rfl⟩;refine rOt 8 U ?_;refine Aq (s:=11) (Aa U) (fun c11=> ?_) (fun c11=> ?_)
 ·refine kO tb 34 [2] rfl U (rGt 1 U (Ai U (Ol U) ?_));exact⟨_,⟨_,rfl,rfl⟩,sbt⟩
 ·refine rOt 3 U ?_;refine Aq (s:=14) (Aa U) (fun c14=> ?_) (fun c14=> ?_)
  ·refine rOt 5 U ?_;refine Aq (s:=19) (Aa U) (fun c19=> ?_) (fun c19=> ?_)
   ·refine kO tb 26 [2] rfl U (rGt 1 U (Ai U (Ol U) ?_));exact⟨_,⟨_,rfl,rfl⟩,sbt⟩
   ·refine rOt 3 U ?_;refine Aq (s:=22) (Aa U) (fun c22=> ?_) (fun c22=> ?_)
    ·refine rOt 5 U ?_;refine Aq (s:=27) (Aa U) (fun c27=> ?_) (fun c27=> ?_)
     ·refine kO tb 18 [2] rfl U (rGt 1 U (Ai U (Ol U) ?_));exact⟨_,⟨_,rfl,rfl⟩,sbt⟩
     ·refine rOt 3 U ?_;refine Aq (s:=30) (Aa U) (fun c30=> ?_) (fun c30=> ?_)
      ·refine rOt 5 U ?_;refine Aq (s:=35) (Aa U) (fun c35=> ?_) (fun c35=> ?_)
       ·refine kO tb 10 [2] rfl U (rGt 1 U (Ai U (Ol U) ?_));exact⟨_,⟨_,rfl,rfl⟩,sbt⟩
       ·refine rOt 3 U ?_;refine Aq (s:=38) (Aa U) (fun c38=> ?_) (fun c38=> ?_)
        ·refine kO tb 7 [2] rfl U (rGt 1 U (Ai U (Ol U) ?_));exact⟨_,⟨_,rfl,rfl⟩,sbt⟩
        ·refine kO tb 7 [2] rfl U (rGt 1 U (Ai U (Ol U) ?_));exact⟨_,⟨_,rfl,rfl⟩,sbt⟩
      ·refine rOt 8 U ?_;refine Aq (s:=38) (Aa U) (fun c38=> ?_) (fun c38=> ?_)
       ·refine kO tb 7 [2] rfl U (rGt 1 U (Ai U (Ol U) ?_));exact⟨_,⟨_,rfl,rfl⟩,sbt⟩
       ·refine kO tb 7 [2] rfl U (rGt 1 U (Ai U (Ol U) ?_));exact⟨_,⟨_,rfl,rfl⟩,sbt⟩
    ·refine rOt 8 U ?_;refine Aq (s:=30) (Aa U) (fun c30=> ?_) (fun c30=> ?_)
     ·refine rOt 5 U ?_;refine Aq (s:=35) (Aa U) (fun c35=> ?_) (fun c35=> ?_)
      ·refine kO tb 10 [2] rfl U (rGt 1 U (Ai U (Ol U) ?_));exact⟨_,⟨_,rfl,rfl⟩,sbt⟩
      ·refine rOt 3 U ?_;refine Aq (s:=38) (Aa U) (fun c38=> ?_) (fun c38=> ?_)
       ·refine kO tb 7 [2] rfl U (rGt 1 U (Ai U (Ol U) ?_));exact⟨_,⟨_,rfl,rfl⟩,sbt⟩
       ·refine kO tb 7 [2] rfl U (rGt 1 U (Ai U (Ol U) ?_));exact⟨_,⟨_,rfl,rfl⟩,sbt⟩
     ·refine rOt 8 U ?_;refine Aq (s:=38) (Aa U) (fun c38=> ?_) (fun c38=> ?_)
      ·refine kO tb 7 [2] rfl U (rGt 1 U (Ai U (Ol U) ?_));exact⟨_,⟨_,rfl,rfl⟩,sbt⟩
      ·refine kO tb 7 [2] rfl U (rGt 1 U (Ai U (Ol U) ?_));exact⟨_,⟨_,rfl,rfl⟩,sbt⟩
  ·refine rOt 8 U ?_;refine Aq (s:=22) (Aa U) (fun c22=> ?_) (fun c22=> ?_)
   ·refine rOt 5 U ?_;refine Aq (s:=27) (Aa U) (fun c27=> ?_) (fun c27=> ?_)
    ·refine kO tb 18 [2] rfl U (rGt 1 U (Ai U (Ol U) ?_));exact⟨_,⟨_,rfl,rfl⟩,sbt⟩
    ·refine rOt 3 U ?_;refine Aq (s:=30) (Aa U) (fun c30=> ?_) (fun c30=> ?_)
     ·refine rOt 5 U ?_;refine Aq (s:=35) (Aa U) (fun c35=> ?_) (fun c35=> ?_)
      ·refine kO tb 10 [2] rfl U (rGt 1 U (Ai U (Ol U) ?_));exact⟨_,⟨_,rfl,rfl⟩,sbt⟩
      ·refine rOt 3 U ?_;refine Aq (s:=38) (Aa U) (fun c38=> ?_) (fun c38=> ?_)
       ·refine kO tb 7 [2] rfl U (rGt 1 U (Ai U (Ol U) ?_));exact⟨_,⟨_,rfl,rfl⟩,sbt⟩
       ·refine kO tb 7 [2] rfl U (rGt 1 U (Ai U (Ol U) ?_));exact⟨_,⟨_,rfl,rfl⟩,sbt⟩
     ·refine rOt 8 U ?_;refine Aq (s:=38) (Aa U) (fun c38=> ?_) (fun c38=> ?_)
      ·refine kO tb 7 [2] rfl U (rGt 1 U (Ai U (Ol U) ?_));exact⟨_,⟨_,rfl,rfl⟩,sbt⟩
      ·refine kO tb 7 [2] rfl U (rGt 1 U (Ai U (Ol U) ?_));exact⟨_,⟨_,rfl,rfl⟩,sbt⟩
   ·refine rOt 8 U ?_;refine Aq (s:=30) (Aa U) (fun c30=> ?_) (fun c30=> ?_)
    ·refine rOt 5 U ?_;refine Aq (s:=35) (Aa U) (fun c35=> ?_) (fun c35=> ?_)
     ·refine kO tb 10 [2] rfl U (rGt 1 U (Ai U (Ol U) ?_));exact⟨_,⟨_,rfl,rfl⟩,sbt⟩
     ·refine rOt 3 U ?_;refine Aq (s:=38) (Aa U) (fun c38=> ?_) (fun c38=> ?_)
      ·refine kO tb 7 [2] rfl U (rGt 1 U (Ai U (Ol U) ?_));exact⟨_,⟨_,rfl,rfl⟩,sbt⟩
      ·refine kO tb 7 [2] rfl U (rGt 1 U (Ai U (Ol U) ?_));exact⟨_,⟨_,rfl,rfl⟩,sbt⟩
    ·refine rOt 8 U ?_;refine Aq (s:=38) (Aa U) (fun c38=> ?_) (fun c38=> ?_)
     ·refine kO tb 7 [2] rfl U (rGt 1 U (Ai U (Ol U) ?_));exact⟨_,⟨_,rfl,rfl⟩,sbt⟩
     ·refine kO tb 7 [2] rfl U (rGt 1 U (Ai U (Ol U) ?_));exact⟨_,⟨_,rfl,rfl⟩,sbt⟩
end Go.Proofs.YtkgfmjanajdibaaGreat
