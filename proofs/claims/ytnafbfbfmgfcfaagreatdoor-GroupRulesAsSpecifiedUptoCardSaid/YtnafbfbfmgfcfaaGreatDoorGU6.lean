/-
  A part of what LawU rests on: the logic, walks and plain laws. No condition.
-/
import Derived.Test.YtnafbfbfmgfcfaaGreatDoorGU5
import Derived.DeepKeys
namespace Go.Proofs.YtnafbfbfmgfcfaaGreatDoor
open _root_.Go.Proofs.Tryz
open Go.RowKit
set_option linter.unusedVariables false
set_option linter.unusedSimpArgs false
set_option linter.unusedSectionVars false
set_option maxRecDepth 100000
section
variable {P:Program} {w0:World} {L:Fm} {H H':List (Nat × Obj)} {ty t e:TypeId} {x y:Operand}
theorem setL_one (l:List Value)(o:Nat)(v:Value):setL l o [v]=l.set o v:=rfl
theorem flat_setF {α:Type}{enc:α->List Value}{sz:Nat}(he:∀ x,(enc x).length=sz){l:List α}{i j:Nat}(hi:i<l.length)(hj:j<sz){v:α}{u:Value}(hv:(enc l[i]).set j u=enc v)(z:List Value):(l.flatMap enc++z).set (i*sz+j) u=(l.set i v).flatMap enc++z:=by
 have e1:l=l.take i++l[i]::l.drop (i+1):=by simp
 have e2:l.set i v=l.take i++v::l.drop (i+1):=by rw[List.set_eq_take_append_cons_drop];simp[hi]
 rw[e2]
 conv=>lhs;rw[e1]
 simp only[List.flatMap_append,List.flatMap_cons,List.append_assoc];have hl:((l.take i).flatMap enc).length=i*sz:=by rw[Da he,List.length_take,Nat.min_eq_left qom]
 rw[List.set_append,if_neg qom,hl,show i*sz+j - i*sz=j by omega,List.set_append,if_pos (by rw[he];omega),hv]
theorem eff_sElemF {α:Type}{enc:α->List Value}{sz i j:Nat}{d:Sl}{l:List α}{u:Value}{R:List (Nat × Obj)}{F:List (Nat × Obj)->List (Nat × Obj)}(v:α)(he:∀ x,(enc x).length=sz)(hl:LocL H (slH d (l.flatMap enc) e) R F)(hx:Ev L x (.pointer (some ⟨bq (slQ d),oq (slQ d)+i*sz+j,none⟩)))(hy:Ev L y u)(hu:oneB u=true)(hz:∀ w,(sizeOf t).run P w= .ok 1 w)
  (hi:i<l.length) (hj:j<sz) (hv:(enc l[i]).set j u=enc v) (hok:SlOk d l.length sz):Eff P w0 (.store t x y) ty L H (Still undef (F (slH d ((l.set i v).flatMap enc) e))):=by
 cases d with
 |nil=>have:l.length=0:=hok;omega
 |blk n cap junk=>
  have hx':Ev L x (.pointer (some ⟨n,i*sz+j,none⟩)):=by have:=hx;simpa[slQ,bq,oq] using this
  have hle:i*sz+sz<=l.length*sz:=by rw[<- Nat.succ_mul];exact Nat.mul_le_mul_right _ hi
  have h1:Eff P w0 (.store t x y) ty L (slH (.blk n cap junk) (l.flatMap enc) e++R) (Still undef (slH (.blk n cap junk) ((l.set i v).flatMap enc) e++R)):=by
   refine E4 (vs:=[u]) (l:=l.flatMap enc++junk) (t':=e) hx' hy (.one hu) (by simpa using hu) hz ?_ (by rw[List.length_append,Da he];simp;omega);rw[setL_one,flat_setF he hi hj hv];exact .h
  refine h1.perm hl.perm.1 ?_;rintro w _ ⟨rfl,rfl⟩;exact⟨_,(hl.perm.2 _).symm,rfl,rfl⟩
end
theorem arr_noneG {α:Type}{w0:World}{H:List (Nat × Obj)}{sz:Nat}{enc:α->List Value}{l:List α}(h:Arr w0 H none sz enc l):l=[]:=by
 cases l with
 |nil=>rfl
 |cons a l=>exact absurd (h 0 a rfl).1 (by simp[Bas])
structure Rs where
 r:Rul
 o:Nat
 a:Nat
 s:Option (Int × Int)
instance:Inhabited Rs:=⟨⟨default,0,0,none⟩⟩
def alOf (h:Hop):Al:=if h.link<0 then ⟨h.link,65535,h.port,h.tag⟩ else ⟨h.link,0,h.port,0⟩
theorem enc_alOf (h:Hop):encAlt h=encAl (alOf h):=by
 unfold encAlt alOf;split<;>rfl
abbrev alSec (v:Int × Int):Al:=⟨v.1,65535,v.1,v.2⟩
def alsOf (h:Hop) (s:Option (Int × Int)):List Al:=alOf h::(s.map alSec).toList
abbrev encRs (m:Rs):List Value:=encRule m.r.prio m.r.tag m.r.hop.step (outV m.o)
def ruOf (m:Rs):Ru:=⟨m.r.prio,m.r.tag,m.r.hop.step,alsOf m.r.hop m.s,some ⟨m.o,0,none⟩,1,some ⟨m.a,0,none⟩,(alsOf m.r.hop m.s).length⟩
structure Ts where
 d:Sl
 rs:List Rs
instance:Inhabited Ts:=⟨⟨.nil,[]⟩⟩
abbrev tsV (t:Ts):Value:=slV t.d t.rs.length
abbrev encTs (t:Ts):List Value:=[tsV t]
def slsH (ts:List Ts):List (Nat × Obj):=ts.flatMap fun t=>slH t.d (t.rs.flatMap encRs) 124
def rsOf (m:Rm):Rs:=⟨m.r,m.o,m.a,none⟩
def tsOf (t:Tb):Ts:=⟨t.d,t.rs.map rsOf⟩
theorem enc_rsOf (l:List Rm):(l.map rsOf).flatMap encRs=l.flatMap encRm:=by
 rw[List.flatMap_map];rfl
theorem enc_tsOf (l:List Tb):(l.map tsOf).flatMap encTs=l.flatMap encTb:=by
 rw[List.flatMap_map]
 congr 1
 funext t
 show [slV t.d (t.rs.map rsOf).length]=_;rw[List.length_map]
def blkM (ts:List Tb):List (Nat × Obj):=ts.flatMap fun t=>t.rs.flatMap rmH
theorem sls_split:∀ (ts:List Tb),(tsH ts).Perm (slsH (ts.map tsOf)++blkM ts)
 |[]=> .nil
 |t::ts=>by
  have ih:=sls_split ts;unfold tsH slsH blkM at *;simp only[List.map_cons,List.flatMap_cons];have e:slH (tsOf t).d ((tsOf t).rs.flatMap encRs) 124=slH t.d (t.rs.flatMap encRm) 124:=by
   show slH t.d ((t.rs.map rsOf).flatMap encRs) 124=_;rw[enc_rsOf]
  rw[e];unfold tbH;refine(List.Perm.append_left _ ih).trans ?_;simp only[List.append_assoc];refine List.Perm.append_left _ ?_;exact List.perm_append_comm_assoc _ _ _
theorem sls_at {ts:List Ts}{i:Nat}(h:i<ts.length):slsH ts=slsH (ts.take i)++(slH (gd ts i).d ((gd ts i).rs.flatMap encRs) 124++slsH (ts.drop (i+1))):=by
 have e:ts=ts.take i++gd ts i::ts.drop (i+1):=by
  rw[Ay h,<- List.drop_eq_getElem_cons h,List.take_append_drop]
 conv=>lhs;rw[e]
 unfold slsH;rw[List.flatMap_append,List.flatMap_cons]
theorem sls_set {ts:List Ts}{i:Nat}(h:i<ts.length)(t:Ts):slsH (ts.set i t)=slsH (ts.take i)++(slH t.d (t.rs.flatMap encRs) 124++slsH (ts.drop (i+1))):=by
 rw[List.set_eq_take_append_cons_drop,if_pos h];unfold slsH;rw[List.flatMap_append,List.flatMap_cons]
theorem locTs {ts:List Ts}{i:Nat}(h:i<ts.length)(X:List (Nat × Obj)):LocL (slsH ts++X) (slH (gd ts i).d ((gd ts i).rs.flatMap encRs) 124) (slsH (ts.take i)++(slsH (ts.drop (i+1))++X)) (fun M'=>slsH (ts.take i)++(M'++(slsH (ts.drop (i+1))++X))):=by
 rw[sls_at h,List.append_assoc,List.append_assoc];exact .a .h
theorem Kb {ts:List Ts}{i:Nat}(h:i<ts.length):(slH (gd ts i).d ((gd ts i).rs.flatMap encRs) 124).Sublist (slsH ts):=by
 rw[sls_at h];exact(List.sublist_append_left _ _).trans (List.sublist_append_right _ _)
theorem rule_m {w0:World}{ts:List Tb}{t:Tb}{m:Rm}(ht:t∈ts)(hm:m∈t.rs)(X:List (Nat × Obj)):RuM w0 (blkM ts++X) (ruOf (rsOf m)):=by
 have h1:(rmH m).Sublist (blkM ts):=by
  have h2:(rmH m).Sublist (t.rs.flatMap rmH):=by
   clear ht
   generalize t.rs=l at hm
   induction l with
   |nil=>cases hm
   |cons a l ih=>
    rw[List.flatMap_cons];rcases List.mem_cons.1 hm with rfl|h
    ·exact List.sublist_append_left _ _
    ·exact(ih h).trans (List.sublist_append_right _ _)
  refine h2.trans ?_;unfold blkM;clear h2 hm
  induction ts with
  |nil=>cases ht
  |cons a l ih=>
   rw[List.flatMap_cons];rcases List.mem_cons.1 ht with rfl|h
   ·exact List.sublist_append_left _ _
   ·exact(ih h).trans (List.sublist_append_right _ _)
 have h2:RuM w0 (rmH m) (ruOf (rsOf m)):=by
  refine⟨Cq (fun _=>rfl) (e:=128) ?_ Ba,Cq (fun _=>rfl) (e:=127) ?_ (Av Ba)⟩
  ·rfl
  ·show encAlt m.r.hop=[alOf m.r.hop].flatMap encAl;rw[enc_alOf];simp
 exact h2.mono (h1.trans (List.sublist_append_left _ _))
abbrev Cor:=Rul × Option (Int × Int)
def corT (ts:List Ts):List (List Cor):=ts.map fun t=>t.rs.map fun m=>(m.r,m.s)
def updC (l:List Cor) (t:Int) (v:Int × Int) (i:Nat):List Cor:=l.mapIdx fun a c=>if a<i/\c.1.tag=t then (c.1,some v) else c
theorem updC_len (l:List Cor)(t:Int)(v:Int × Int)(i:Nat):(updC l t v i).length=l.length:=by unfold updC;simp
theorem updC_zero (l:List Cor)(t:Int)(v:Int × Int):updC l t v 0=l:=by
 unfold updC;refine List.ext_getElem (by simp) fun k h1 h2=> ?_
 simp
theorem Hu {l:List Cor}{t:Int}{v:Int × Int}{i a:Nat}(h:a<l.length):gd (updC l t v i) a=if a<i/\(gd l a).1.tag=t then ((gd l a).1,some v) else gd l a:=by
 unfold updC;rw[Ay (by simpa using h),List.getElem_mapIdx,<- Ay h]
theorem updC_yes {l:List Cor}{t:Int}{v:Int × Int}{i:Nat}(hi:i<l.length)(h:(gd l i).1.tag=t):(updC l t v i).set i ((gd l i).1,some v)=updC l t v (i+1):=by
 refine List.ext_getElem (by simp[updC]) fun k h1 h2=> ?_
 have hk:k<l.length:=by simpa[updC] using h2
 rw[List.getElem_set,<- Ay h2,<- Ay (by rw[updC_len];exact hk),Hu hk,Hu hk]
 by_cases e:i=k
 ·subst e;rw[if_pos rfl,if_pos ⟨by omega,h⟩]
 ·rw[if_neg e]
  by_cases h3:(gd l k).1.tag=t
  ·by_cases h4:k<i
   ·rw[if_pos ⟨h4,h3⟩,if_pos ⟨by omega,h3⟩]
   ·rw[if_neg (fun h=>h4 h.1),if_neg (fun h=>by omega)]
  ·rw[if_neg (fun h=>h3 h.2),if_neg (fun h=>h3 h.2)]
theorem updC_no {l:List Cor}{t:Int}{v:Int × Int}{i:Nat}(hi:i<l.length)(h: ¬ (gd l i).1.tag=t):updC l t v i=updC l t v (i+1):=by
 refine List.ext_getElem (by simp[updC]) fun k h1 h2=> ?_
 have hk:k<l.length:=by simpa[updC] using h2
 rw[<- Ay h1,<- Ay h2,Hu hk,Hu hk]
 by_cases h3:(gd l k).1.tag=t
 ·by_cases h4:k<i
  ·rw[if_pos ⟨h4,h3⟩,if_pos ⟨by omega,h3⟩]
  ·have: ¬ k=i:=fun e=>h (e ▸ h3)
   rw[if_neg (fun h=>h4 h.1),if_neg (fun h=>by omega)]
 ·rw[if_neg (fun h=>h3 h.2),if_neg (fun h=>h3 h.2)]
def stepG (ls:List Lnk) (ws:List Wm) (l:List Dtm) (tags dt:List Int) (cs:List (List Cor)) (k:Nat):List (List Cor):=
 cs.set (dnode ls ws (gd l k)).toNat (updC (gd cs (dnode ls ws (gd l k)).toNat) (gd tags (gd l k).way.toNat) (gd (gd l k).m.way.links 0,gd dt k) (gd cs (dnode ls ws (gd l k)).toNat).length)
theorem updC_end (l:List Cor)(t:Int)(v:Int × Int)(a:Nat)(h:a<l.length):gd (updC l t v l.length) a=if (gd l a).1.tag=t then ((gd l a).1,some v) else gd l a:=by
 rw[Hu h]
 by_cases h2:(gd l a).1.tag=t
 ·rw[if_pos ⟨h,h2⟩,if_pos h2]
 ·rw[if_neg (fun k=>h2 k.2),if_neg h2]
theorem foldG {ls:List Lnk}{ws:List Wm}{l:List Dtm}{tags dt:List Int}{cs0:List (List Cor)}(hn:∀ k,k<l.length->0<=dnode ls ws (gd l k)/\dnode ls ws (gd l k)<cs0.length)
  (h0:∀ x,x<cs0.length->∀ a,a<(gd cs0 x).length->(gd (gd cs0 x) a).2=none):∀ (ks:List Nat),(∀ k∈ks,k<l.length)->
  (ks.foldl (stepG ls ws l tags dt) cs0).length=cs0.length/\∀ x,x<cs0.length->(gd (ks.foldl (stepG ls ws l tags dt) cs0) x).length=(gd cs0 x).length/\∀ a,a<(gd cs0 x).length->
   (gd (gd (ks.foldl (stepG ls ws l tags dt) cs0) x) a).1=(gd (gd cs0 x) a).1/\
   (((gd (gd (ks.foldl (stepG ls ws l tags dt) cs0) x) a).2=none/\∀ k∈ks,¬ (dnode ls ws (gd l k)=x/\gd tags (gd l k).way.toNat=(gd (gd cs0 x) a).1.tag))\/
    ∃ k∈ks,(dnode ls ws (gd l k)=x/\gd tags (gd l k).way.toNat=(gd (gd cs0 x) a).1.tag)/\(gd (gd (ks.foldl (stepG ls ws l tags dt) cs0) x) a).2=some (gd (gd l k).m.way.links 0,gd dt k)):=by
 intro ks;refine snoc_ind (Q:=fun ks=>(∀ k∈ks,k<l.length)->(ks.foldl (stepG ls ws l tags dt) cs0).length=cs0.length/\∀ x,x<cs0.length->(gd (ks.foldl (stepG ls ws l tags dt) cs0) x).length=(gd cs0 x).length/\∀ a,a<(gd cs0 x).length->
   (gd (gd (ks.foldl (stepG ls ws l tags dt) cs0) x) a).1=(gd (gd cs0 x) a).1/\
   (((gd (gd (ks.foldl (stepG ls ws l tags dt) cs0) x) a).2=none/\∀ k∈ks,¬ (dnode ls ws (gd l k)=x/\gd tags (gd l k).way.toNat=(gd (gd cs0 x) a).1.tag))\/
    ∃ k∈ks,(dnode ls ws (gd l k)=x/\gd tags (gd l k).way.toNat=(gd (gd cs0 x) a).1.tag)/\(gd (gd (ks.foldl (stepG ls ws l tags dt) cs0) x) a).2=some (gd (gd l k).m.way.links 0,gd dt k))) ?_ ?_ ks
 ·intro _;exact⟨rfl,fun x hx=>⟨rfl,fun a ha=>⟨rfl, .inl ⟨h0 x hx a ha,fun k hk=>by cases hk⟩⟩⟩⟩
 ·intro ks k ih hk;obtain⟨i1,i2⟩:=ih fun j hj=>hk j (List.mem_append_left _ hj)
  have hkl:=hk k (List.mem_append_right _ (List.mem_singleton.2 U));have hx0:=hn k hkl;rw[List.foldl_append,List.foldl_cons,List.foldl_nil]
  generalize ks.foldl (stepG ls ws l tags dt) cs0=cs at i1 i2 ⊢;have hset:∀ x,gd (stepG ls ws l tags dt cs k) x=if (dnode ls ws (gd l k)).toNat=x then updC (gd cs x) (gd tags (gd l k).way.toNat) (gd (gd l k).m.way.links 0,gd dt k) (gd cs x).length else gd cs x:=fun x=>by
   unfold stepG
   split
   ·rename_i e;subst e;rw[Ay (by rw[List.length_set];omega),List.getElem_set_self]
   ·rename_i e;rw[El _ (show ¬ x=(dnode ls ws (gd l k)).toNat from fun h=>e h.symm)]
  refine⟨by unfold stepG;rw[List.length_set];exact i1,fun x hx=> ?_⟩;obtain⟨j1,j2⟩:=i2 x hx;rw[hset x]
  split
  ·rename_i e;refine⟨by rw[updC_len];exact j1,fun a ha=> ?_⟩;obtain⟨m1,m2⟩:=j2 a ha;rw[updC_end _ _ _ _ qom]
   split
   ·rename_i ht;exact⟨m1, .inr ⟨k,List.mem_append_right _ (List.mem_singleton.2 U),⟨by omega,by rw[<- m1];exact ht.symm⟩,rfl⟩⟩
   ·rename_i ht;refine⟨m1,?_⟩;rcases m2 with ⟨h1,h2⟩|⟨j,hj,h2,h3⟩
    ·refine .inl ⟨h1,fun j hj=> ?_⟩;rcases List.mem_append.1 hj with hj|hj
     ·exact h2 j hj
     ·rw[List.mem_singleton.1 hj];rintro⟨_,e2⟩;exact ht (by rw[m1];exact e2.symm)
    ·exact .inr ⟨j,List.mem_append_left _ hj,h2,h3⟩
  ·rename_i e;refine⟨j1,fun a ha=> ?_⟩;obtain⟨m1,m2⟩:=j2 a ha;refine⟨m1,?_⟩;rcases m2 with ⟨h1,h2⟩|⟨j,hj,h2,h3⟩
   ·refine .inl ⟨h1,fun j hj=> ?_⟩;rcases List.mem_append.1 hj with hj|hj
    ·exact h2 j hj
    ·rw[List.mem_singleton.1 hj];rintro⟨e2,_⟩;exact e qom
   ·exact .inr ⟨j,List.mem_append_left _ hj,h2,h3⟩
def secT (ls:List Lnk) (ws:List Wm) (l:List Dtm) (tags dt:List Int) (ts:List (List Rul)):List (List Cor):=ts.mapIdx fun x rs=>rs.map fun r=>(r,scF ls ws l tags dt l.length x r.tag)
theorem sc_of {n:Nm}{steps:Int}{ws:List Wm}{l:List Dtm}{tags dt:List Int}(ho:GpOk n ws l)(hr:DtRt n steps ws l)(h:GrOk n ws l tags dt){k:Nat}(hk:k<l.length){x t:Int}(hx:dnode n.links ws (gd l k)=x)(ht:gd tags (gd l k).way.toNat=t):
  scF n.links ws l tags dt l.length x t=some (gd (gd l k).m.way.links 0,gd dt k):=by
 unfold scF;cases hf:(List.range l.length).find? fun j=>decide (dnode n.links ws (gd l j)=x/\gd tags (gd l j).way.toNat=t) with
 |none=>
  have:=List.find?_eq_none.1 hf k (List.mem_range.2 hk);simp[hx,ht] at this
 |some j=>
  have h1:=List.find?_some hf;have h2:=List.mem_range.1 (List.mem_of_find?_eq_some hf);rw[decide_eq_true_eq] at h1;obtain⟨e1,e2⟩:=sc_same ho hr h h2 hk (h1.1.trans hx.symm) (h1.2.trans ht.symm);rw[Option.map_some,e1,e2]
theorem sc_noneG {ls:List Lnk}{ws:List Wm}{l:List Dtm}{tags dt:List Int}{x t:Int}(h:∀ k,k<l.length->¬ (dnode ls ws (gd l k)=x/\gd tags (gd l k).way.toNat=t)):scF ls ws l tags dt l.length x t=none:=by
 unfold scF;rw[find_rngN (fun j hj=>decide_eq_false (h j hj))]
 rfl
theorem fold_secT {n:Nm}{steps:Int}{ws:List Wm}{l:List Dtm}{tags dt:List Int}(ho:GpOk n ws l)(hr:DtRt n steps ws l)(h:GrOk n ws l tags dt){ts:List (List Rul)}(hn:∀ k,k<l.length->0<=dnode n.links ws (gd l k)/\dnode n.links ws (gd l k)<ts.length)
  {ks:List Nat} (hk:∀ k∈ks,k<l.length) (hall:∀ k,k<l.length->k∈ks):ks.foldl (stepG n.links ws l tags dt) (ts.map fun rs=>rs.map fun r=>(r,none))=secT n.links ws l tags dt ts:=by
 have hl0:(ts.map fun rs=>rs.map fun r=>((r,none):Cor)).length=ts.length:=List.length_map ..;have hg0:∀ x,x<ts.length->gd (ts.map fun rs=>rs.map fun r=>((r,none):Cor)) x=(gd ts x).map fun r=>(r,none):=fun x hx=>Cr hx
 obtain⟨h1,h2⟩:=foldG (ls:=n.links) (ws:=ws) (l:=l) (tags:=tags) (dt:=dt) (cs0:=ts.map fun rs=>rs.map fun r=>(r,none)) (by rw[hl0];exact hn) (fun x hx a ha=>by
  rw[hl0] at hx;rw[hg0 x hx] at ha ⊢;rw[List.length_map] at ha;rw[Cr ha]) ks hk
 generalize ks.foldl (stepG n.links ws l tags dt) (ts.map fun rs=>rs.map fun r=>((r,none):Cor))=cs at h1 h2 ⊢;rw[hl0] at h1 h2;refine List.ext_getElem (by rw[h1];simp[secT]) fun x g1 g2=> ?_
 have hx:x<ts.length:=by rw[<- h1];exact g1
 obtain⟨h3,h4⟩:=h2 x hx;rw[hg0 x hx,List.length_map] at h3 h4;have e9:(secT n.links ws l tags dt ts)[x]=(gd ts x).map fun r=>(r,scF n.links ws l tags dt l.length (x:Int) r.tag):=by simp[secT,Ay hx]
 rw[<- Ay g1,e9];refine List.ext_getElem (by rw[h3,List.length_map]) fun a g3 g4=> ?_
 have ha:a<(gd ts x).length:=by rw[<- h3];exact g3
 obtain⟨h5,h6⟩:=h4 a ha;rw[Cr ha] at h5 h6;simp only[] at h5 h6;rw[<- Ay g3,List.getElem_map,<- Ay ha];refine Prod.ext h5 ?_;rcases h6 with ⟨e1,e2⟩|⟨k,hk2,e1,e2⟩
 ·rw[e1,sc_noneG fun k hk3=>e2 k (hall k hk3)]
 ·rw[e2,sc_of ho hr h (hk k hk2) e1.1 e1.2]
theorem ybs27_0_z  (w:World):(Instr.buildSlice 27 0 #[]).run prog w= .ok (.slice (some ⟨w.heap.size,0,none⟩) 0 0) (w.alloc (Cl [] 59)):=by kernel_rfl
theorem ybs41_0_z  (w:World):(Instr.buildSlice 41 0 #[]).run prog w= .ok (.slice (some ⟨w.heap.size,0,none⟩) 0 0) (w.alloc (Cl [] 3)):=by kernel_rfl
theorem yl_eqN27 {w0:World}{L:Fm}{H:List (Nat × Obj)}{ty yt:TypeId}{x y:Operand}{q:Option Addr}{n c:Nat}(hx:Ev L x (.slice q n c))(hy:Ev L y (.slice none 0 0)):Yl prog w0 (.binOp .eql 27 x y yt) ty L H (.bool q.isNone):=B3 U fun b' w=>by
 have e:(Op.equal 27 (.slice q n c) (.slice none 0 0)).run prog w= .ok q.isNone w:=run_equalIn_slice_nil w 9999 27 59 q n c qkr;simp[exO,execOp,hx b',hy b',binOp,eqGuard,Sem.run_bind,Result.andThen,e]
theorem yl_eqN41 {w0:World}{L:Fm}{H:List (Nat × Obj)}{ty yt:TypeId}{x y:Operand}{q:Option Addr}{n c:Nat}(hx:Ev L x (.slice q n c))(hy:Ev L y (.slice none 0 0)):Yl prog w0 (.binOp .eql 41 x y yt) ty L H (.bool q.isNone):=B3 U fun b' w=>by
 have e:(Op.equal 41 (.slice q n c) (.slice none 0 0)).run prog w= .ok q.isNone w:=run_equalIn_slice_nil w 9999 41 3 q n c qkr;simp[exO,execOp,hx b',hy b',binOp,eqGuard,Sem.run_bind,Result.andThen,e]
theorem cloneW_g {w0:World}{H:List (Nat × Obj)}(l:List Wm)(q:Option Addr)(c:Nat)(hA:Arr w0 H q 5 encW l)(hl:l.length<=1000000):
  FSpec prog w0 65 #[.slice q l.length c] H (fun v H'=>∃ d:Sl,(v=slV d l.length/\SlOk d l.length 5)/\H'=slH d (l.flatMap encW) 59++H):=by
 refine Az func65 U ntmps65 U (rD tb 9 U (y_ (yl_eqN27 (T U) An) (rO tb 2 U ?_) U))
 first|refine Ak (Aa U) (fun c4=> ?_) (fun c4=> ?_)|refine Au (Aa U) (fun c4=> ?_) (fun c4=> ?_)
 ·obtain rfl:=Option.isNone_iff_eq_none.1 c4;obtain rfl:=arr_noneG hA;refine rC tb 7 U (As U (Ll U) ?_);exact⟨_,⟨.nil,⟨rfl,rfl⟩,rfl⟩,sbt⟩
 ·skip
  refine rC tb 4 U (e_ (A7 .nil (ybs27_0_z)) ?_ U);rintro _ _ ⟨n5,rfl,rfl⟩;refine rO tb 1 U (e_ (Gk (l) (by':=56) (enc:=encW) (by first|exact rfl|omega) (by repeat (first|exact locH1|exact LocL.h|apply LocL.t|apply LocL.a)) (T U) (T U) runUnderlying27 runUnderlying27 sizeOf59 typeInfo59 U zeroValue59 U (fun _=>rfl) (fun _=>rfl) qde qom ((hA.mono (by exact sbt)))) ?_ U);rintro _ _ ⟨d2,rfl,hd2,rfl⟩;refine rO tb 4 U (As U (Ll U) ?_);exact⟨_,⟨d2,⟨rfl,hd2⟩,rfl⟩,sbt⟩
theorem cloneI_g {w0:World}{H:List (Nat × Obj)}(l:List Int)(q:Option Addr)(c:Nat)(hA:Arr w0 H q 1 encI l)(hl:l.length<=1000000):
  FSpec prog w0 66 #[.slice q l.length c] H (fun v H'=>∃ d:Sl,(v=slV d l.length/\SlOk d l.length 1)/\H'=slH d (l.flatMap encI) 3++H):=by
 refine Az func66 U ntmps66 U (rD tb 9 U (y_ (yl_eqN41 (T U) An) (rO tb 2 U ?_) U))
 first|refine Ak (Aa U) (fun c4=> ?_) (fun c4=> ?_)|refine Au (Aa U) (fun c4=> ?_) (fun c4=> ?_)
 ·obtain rfl:=Option.isNone_iff_eq_none.1 c4;obtain rfl:=arr_noneG hA;refine rC tb 7 U (As U (Ll U) ?_);exact⟨_,⟨.nil,⟨rfl,rfl⟩,rfl⟩,sbt⟩
 ·skip
  refine rC tb 4 U (e_ (A7 .nil (ybs41_0_z)) ?_ U);rintro _ _ ⟨n5,rfl,rfl⟩;refine rO tb 1 U (e_ (Gk (l) (by':=8) (enc:=encI) (by first|exact rfl|omega) (by repeat (first|exact locH1|exact LocL.h|apply LocL.t|apply LocL.a)) (T U) (T U) runUnderlying41 runUnderlying41 sizeOf3 typeInfo3 U zeroValue3 U (fun _=>rfl) (fun _=>rfl) qde qom ((hA.mono (by exact sbt)))) ?_ U);rintro _ _ ⟨d2,rfl,hd2,rfl⟩;refine rO tb 4 U (As U (Ll U) ?_);exact⟨_,⟨d2,⟨rfl,hd2⟩,rfl⟩,sbt⟩
theorem ts_permG {ts:List Tb}(D R:List (Nat × Obj)):(tsH ts++(D++R)).Perm (blkM ts++(D++(slsH (ts.map tsOf)++R))):=by
 refine((sls_split ts).append_right _).trans ?_;rw[List.append_assoc];refine(List.perm_append_comm_assoc _ _ _).trans (List.Perm.append_left _ ?_);exact List.perm_append_comm_assoc _ _ _
abbrev corC (c:Cor):Int × Int × Int × List Al:=(c.1.prio,c.1.tag,c.1.hop.step,alsOf c.1.hop c.2)
abbrev ruC (r:Ru):Int × Int × Int × List Al:=(r.prio,r.tag,r.step,r.alts)
def tlOf (t:Ts):Tl:=⟨slQ t.d,slC t.d,t.rs.map ruOf⟩
def grulF (n:Nm) (ws:List Wm) (l:List Dtm) (tags dt:List Int) (top:Int):List (List (Int × Int × Int × List Al)) × Int:=
 ((secT n.links ws l tags dt (rulesRes n.nodes.length top (usedF (tags++dt)) (planR n.links (pairs (ws++l.map Dtm.m) (tags++dt)))).1).map (fun rs=>rs.map corC),(rulesRes n.nodes.length top (usedF (tags++dt)) (planR n.links (pairs (ws++l.map Dtm.m) (tags++dt)))).2)
theorem cor_tl (ts:List Ts):(ts.map tlOf).map (fun t=>t.rs.map ruC)=(corT ts).map fun rs=>rs.map corC:=by
 unfold corT;rw[List.map_map,List.map_map];refine List.map_congr_left fun t _=> ?_
 show ((t.rs.map ruOf).map ruC)=(t.rs.map fun m=>(m.r,m.s)).map corC;rw[List.map_map,List.map_map]
 rfl
theorem cor_of (ts:List Tb):corT (ts.map tsOf)=(ts.map fun t=>t.rs.map (·.r)).map fun rs=>rs.map fun r=>(r,none):=by
 unfold corT;rw[List.map_map,List.map_map];refine List.map_congr_left fun t _=> ?_
 show (t.rs.map rsOf).map (fun m=>(m.r,m.s))=(t.rs.map (·.r)).map fun r=>(r,none)
 rw[List.map_map,List.map_map]
 rfl
theorem enc_tl (ts:List Ts):(ts.map tlOf).flatMap encTl=ts.flatMap encTs:=by
 rw[List.flatMap_map]
 congr 1
 funext t
 show [Value.slice (slQ t.d) (t.rs.map ruOf).length (slC t.d)]=_;rw[List.length_map]
structure TsOk (w0:World) (M:List (Nat × Obj)) (ts:List Ts):Prop where
 d:∀ t∈ts,SlOk t.d t.rs.length 23
 r:∀ t∈ts,∀ m∈t.rs,∀ X,RuM w0 (M++X) (ruOf m)
 n:∀ t∈ts,t.rs.length<=100000
theorem TsOk.m {w0:World}{M:List (Nat × Obj)}{ts:List Ts}(h:TsOk w0 M ts){d:Sl}(hd:SlOk d ts.length 1)(X:List (Nat × Obj)):TlsM w0 (M++(slH d (ts.flatMap encTs) 54++(slsH ts++X))) (slQ d) (ts.map tlOf):=by
 refine⟨?_,fun t ht=> ?_⟩
 ·have h1:Arr w0 (slH d (ts.flatMap encTs) 54++X) (slQ d) 1 encTl (ts.map tlOf):=by
   rw[<- enc_tl];exact A5 (fun _=>rfl) (by rw[List.length_map];exact hd)
  exact h1.mono (by exact sbt)
 ·obtain⟨u,hu,rfl⟩:=List.mem_map.1 ht;refine⟨?_,fun r hr=> ?_,by show (u.rs.map ruOf).length<=_;rw[List.length_map];exact h.n u hu⟩
  ·obtain⟨i,hi,rfl⟩:=List.getElem_of_mem hu;rw[<- Ay hi] at *;have h1:Arr w0 (slH (gd ts i).d ((gd ts i).rs.flatMap encRs) 124++X) (slQ (gd ts i).d) 23 encRu ((gd ts i).rs.map ruOf):=by
    have e:(gd ts i).rs.flatMap encRs=((gd ts i).rs.map ruOf).flatMap encRu:=by rw[List.flatMap_map];rfl
    rw[e];exact A5 (fun _=>rfl) (by rw[List.length_map];exact h.d _ (Ao hi))
   refine h1.mono ?_;refine(List.Sublist.append_right (Kb hi) X).trans ?_;exact(List.sublist_append_right _ _).trans (List.sublist_append_right _ _)
  ·obtain⟨m,hm,rfl⟩:=List.mem_map.1 hr;exact h.r u hu m hm _
theorem TsOk.set {w0:World}{M:List (Nat × Obj)}{ts:List Ts}(h:TsOk w0 M ts){x a:Nat}(hx:x<ts.length)(ha:a<(gd ts x).rs.length){p q:Nat × Obj}{m:Rs}(hm:∀ X,RuM w0 (p::q::X) (ruOf m)):TsOk w0 (p::q::M) (ts.set x ⟨(gd ts x).d,(gd ts x).rs.set a m⟩):=by
 refine⟨fun t ht=> ?_,fun t ht m' hm' X=> ?_,fun t ht=> ?_⟩
 ·rcases List.mem_or_eq_of_mem_set ht with h1|rfl
  ·exact h.d t h1
  ·show SlOk _ ((gd ts x).rs.set a m).length 23;rw[List.length_set];exact h.d _ (Ao hx)
 ·have old:∀ t∈ts,∀ m∈t.rs,RuM w0 (p::q::(M++X)) (ruOf m):=fun t ht m hm=>(h.r t ht m hm X).mono (List.Sublist.cons _ (List.Sublist.cons _ (List.Sublist.refl _)))
  rcases List.mem_or_eq_of_mem_set ht with h1|rfl
  ·exact old t h1 m' hm'
  ·rcases List.mem_or_eq_of_mem_set hm' with h2|rfl
   ·exact old _ (Ao hx) m' h2
   ·exact hm _
 ·rcases List.mem_or_eq_of_mem_set ht with h1|rfl
  ·exact h.n t h1
  ·show ((gd ts x).rs.set a m).length<=_;rw[List.length_set];exact h.n _ (Ao hx)
theorem enc_set {ts:List Ts}{x a:Nat}(hx:x<ts.length)(m:Rs):(ts.set x ⟨(gd ts x).d,(gd ts x).rs.set a m⟩).flatMap encTs=ts.flatMap encTs:=by
 rw[show ts.flatMap encTs=ts.map tsV from Ik ts,show (ts.set x ⟨(gd ts x).d,(gd ts x).rs.set a m⟩).flatMap encTs=(ts.set x ⟨(gd ts x).d,(gd ts x).rs.set a m⟩).map tsV from Ik _,List.map_set];refine List.ext_getElem (by simp) fun k h1 h2=> ?_
 rw[List.getElem_set]
 split
 ·rename_i e;subst e;rw[List.getElem_map,<- Ay hx];show slV _ ((gd ts x).rs.set a m).length=_;rw[List.length_set]
 ·rfl
theorem cor_set {ts:List Ts}{x a:Nat}(hx:x<ts.length)(m:Rs):corT (ts.set x ⟨(gd ts x).d,(gd ts x).rs.set a m⟩)=(corT ts).set x ((gd (corT ts) x).set a (m.r,m.s)):=by
 unfold corT;rw[List.map_set,Cr hx];simp only[List.map_set]
theorem cor_gd {ts:List Ts}{x a:Nat}(hx:x<ts.length)(ha:a<(gd ts x).rs.length):gd (gd (corT ts) x) a=((gd (gd ts x).rs a).r,(gd (gd ts x).rs a).s):=by
 unfold corT;rw[Cr hx,Cr ha]
theorem Hv {ts:List Ts}{x:Nat}(hx:x<ts.length):(gd (corT ts) x).length=(gd ts x).rs.length:=by
 unfold corT;rw[Cr hx,List.length_map]
theorem Jl (ts:List Ts):(corT ts).length=ts.length:=List.length_map ..
theorem Ka3 (a0:Int)(a1:Int)(a2:Int)(a3:Int)(a4:Int)(a5:Int)(a6:Int)(a7:Int)(a8:Int)(a9:Int)(a10:Int)(a11:Int)(a12:Int)(a13:Int)(a14:Int)(a15:Int)(a16:Int)(a17:Int)(a18:Int)(a19:Int)(w:World):(Instr.build 125 #[(0, .agg #[.int .i64 a0, .int .i64 a1, .int .i64 a2, .int .i64 a3, .int .i64 a4, .int .i64 a5, .int .i64 a6, .int .i64 a7, .int .i64 a8, .int .i64 a9]),(1, .agg #[.int .i64 a10, .int .i64 a11, .int .i64 a12, .int .i64 a13, .int .i64 a14, .int .i64 a15, .int .i64 a16, .int .i64 a17, .int .i64 a18, .int .i64 a19])]).run prog w= .ok (.agg #[.int .i64 a0, .int .i64 a1, .int .i64 a2, .int .i64 a3, .int .i64 a4, .int .i64 a5, .int .i64 a6, .int .i64 a7, .int .i64 a8, .int .i64 a9, .int .i64 a10, .int .i64 a11, .int .i64 a12, .int .i64 a13, .int .i64 a14, .int .i64 a15, .int .i64 a16, .int .i64 a17, .int .i64 a18, .int .i64 a19]) w:=by kernel_rfl
theorem Ka5 (a0:Int)(a1:Int)(a2:Int)(a3:Int)(a4:Int)(a5:Int)(a6:Int)(a7:Int)(a8:Int)(a9:Int)(a10:Int)(a11:Int)(a12:Int)(a13:Int)(a14:Int)(a15:Int)(a16:Int)(a17:Int)(a18:Int)(a19:Int)(a20:Int)(w:World):(Instr.build 127 #[(0, .int .i64 a0),(1, .agg #[.int .i64 a1, .int .i64 a2, .int .i64 a3, .int .i64 a4, .int .i64 a5, .int .i64 a6, .int .i64 a7, .int .i64 a8, .int .i64 a9, .int .i64 a10, .int .i64 a11, .int .i64 a12, .int .i64 a13, .int .i64 a14, .int .i64 a15, .int .i64 a16, .int .i64 a17, .int .i64 a18, .int .i64 a19, .int .i64 a20])]).run prog w= .ok (.agg #[.int .i64 a0, .int .i64 a1, .int .i64 a2, .int .i64 a3, .int .i64 a4, .int .i64 a5, .int .i64 a6, .int .i64 a7, .int .i64 a8, .int .i64 a9, .int .i64 a10, .int .i64 a11, .int .i64 a12, .int .i64 a13, .int .i64 a14, .int .i64 a15, .int .i64 a16, .int .i64 a17, .int .i64 a18, .int .i64 a19, .int .i64 a20]) w:=by kernel_rfl
theorem Kb2 (a0:Int)(a1:Int)(w:World):(Instr.build 74 #[(0, .int .i64 a0),(9, .int .i64 a1)]).run prog w= .ok (.agg #[.int .i64 a0, .int .i64 0, .int .i64 0, .int .i64 0, .int .i64 0, .int .i64 0, .int .i64 0, .int .i64 0, .int .i64 0, .int .i64 a1]) w:=by kernel_rfl
theorem Kb6 (a0:Option Addr)(a0n a0c:Nat)(w:World):(Instr.buildSlice 122 1 #[(0, .slice a0 a0n a0c)]).run prog w= .ok (.slice (some ⟨w.heap.size,0,none⟩) 1 1) (w.alloc (Cl [.slice a0 a0n a0c] 128)):=by kernel_rfl
theorem Kb7 (a0:Int)(a1:Int)(a2:Int)(a3:Int)(a4:Int)(a5:Int)(a6:Int)(a7:Int)(a8:Int)(a9:Int)(a10:Int)(a11:Int)(a12:Int)(a13:Int)(a14:Int)(a15:Int)(a16:Int)(a17:Int)(a18:Int)(a19:Int)(a20:Int)(a21:Int)(a22:Int)(a23:Int)(a24:Int)(a25:Int)(a26:Int)(a27:Int)(a28:Int)(a29:Int)(a30:Int)(a31:Int)(a32:Int)(a33:Int)(a34:Int)(a35:Int)(a36:Int)(a37:Int)(a38:Int)(a39:Int)(a40:Int)(a41:Int)(w:World):(Instr.buildSlice 128 2 #[(0, .agg #[.int .i64 a0, .int .i64 a1, .int .i64 a2, .int .i64 a3, .int .i64 a4, .int .i64 a5, .int .i64 a6, .int .i64 a7, .int .i64 a8, .int .i64 a9, .int .i64 a10, .int .i64 a11, .int .i64 a12, .int .i64 a13, .int .i64 a14, .int .i64 a15, .int .i64 a16, .int .i64 a17, .int .i64 a18, .int .i64 a19, .int .i64 a20]),(1, .agg #[.int .i64 a21, .int .i64 a22, .int .i64 a23, .int .i64 a24, .int .i64 a25, .int .i64 a26, .int .i64 a27, .int .i64 a28, .int .i64 a29, .int .i64 a30, .int .i64 a31, .int .i64 a32, .int .i64 a33, .int .i64 a34, .int .i64 a35, .int .i64 a36, .int .i64 a37, .int .i64 a38, .int .i64 a39, .int .i64 a40, .int .i64 a41])]).run prog w= .ok (.slice (some ⟨w.heap.size,0,none⟩) 2 2) (w.alloc (Cl [.int .i64 a0, .int .i64 a1, .int .i64 a2, .int .i64 a3, .int .i64 a4, .int .i64 a5, .int .i64 a6, .int .i64 a7, .int .i64 a8, .int .i64 a9, .int .i64 a10, .int .i64 a11, .int .i64 a12, .int .i64 a13, .int .i64 a14, .int .i64 a15, .int .i64 a16, .int .i64 a17, .int .i64 a18, .int .i64 a19, .int .i64 a20, .int .i64 a21, .int .i64 a22, .int .i64 a23, .int .i64 a24, .int .i64 a25, .int .i64 a26, .int .i64 a27, .int .i64 a28, .int .i64 a29, .int .i64 a30, .int .i64 a31, .int .i64 a32, .int .i64 a33, .int .i64 a34, .int .i64 a35, .int .i64 a36, .int .i64 a37, .int .i64 a38, .int .i64 a39, .int .i64 a40, .int .i64 a41] 127)):=by kernel_rfl
theorem Hw {N:Nat}{top:Int}{us:List Int}{f:Int->Int->Option Hop}(h: ¬ (rulesRes N top us f).2=0):(rulesRes N top us f).1=[]:=by
 unfold rulesRes at *
 split
 ·rename_i h1;rw[if_pos h1] at h
  split
  ·rename_i h2;rw[if_pos h2] at h;exact absurd U h
  ·rfl
 ·rfl
theorem Hy {N:Nat}{top:Int}{us:List Int}{f:Int->Int->Option Hop}(h:(rulesRes N top us f).2=0):(rulesRes N top us f).1.length=N/\∀ k,k<N->(gd (rulesRes N top us f).1 k).length<=4000:=by
 unfold rulesRes at *
 split
 ·rename_i h1;rw[if_pos h1] at h
  split
  ·rename_i h2;refine⟨by simp,fun k hk=> ?_⟩;rw[List.all_eq_true] at h2;have h3:=of_decide_eq_true (h2 k (List.mem_range.2 hk));show (gd ((List.range N).map fun (k:Nat)=>tblK top (fun t=>f t k) us) k).length<=4000;rw[Cr (by simpa using hk)];have e:gd (List.range N) k=k:=by rw[Ay (by simpa using hk),List.getElem_range]
   rw[e];exact h3.2
  ·rename_i h2;rw[if_neg h2] at h;cases h
 ·rename_i h1;rw[if_neg h1] at h;cases h
theorem gp_dn {n:Nm}{ws:List Wm}{l:List Dtm}(h:GpOk n ws l){k:Nat}(hk:k<l.length):0<=dnode n.links ws (gd l k)/\dnode n.links ws (gd l k)<n.nodes.length:=by
 have h1:=h.d.w _ (Ao hk);have h2:=h.d.p _ (Ao hk);have h3:dnode n.links ws (gd l k)∈nodesF n.links (gd ws (gd l k).way.toNat).way:=Ao (by rw[Co];omega);obtain⟨p,hp,e⟩:=List.mem_map.1 h3;rw[<- e];exact h.gw.at' _ (Ao qom) p hp
theorem set_gd {α:Type}[Inhabited α] {l:List α}{i:Nat}(h:i<l.length):l.set i (gd l i)=l:=by rw[Ay h];exact List.set_getElem_self h
theorem Hz {α:Type}[Inhabited α] {l:List α}{i:Nat}(x:α)(h:i<l.length):gd (l.set i x) i=x:=by rw[Ay (by rw[List.length_set];exact h),List.getElem_set_self]
theorem look_memV {K V:Type}[DecidableEq K] {l:List (K × V)}{k:K}{v:V}(h:look l k=some v):(k,v)∈l:=by
 induction l with
 |nil=>cases h
 |cons e l ih=>
  rw[Db] at h
  split at h
  ·rename_i he;obtain⟨a,b⟩:=e;simp at he h;subst he h;simp
  ·exact List.mem_cons_of_mem _ (ih h)
theorem look_of_memG {K V:Type}[DecidableEq K] {l:List (K × V)}(h:(l.map (·.1)).Nodup){p:K}{c:V}(hm:(p,c)∈l):look l p=some c:=by
 induction l with
 |nil=>cases hm
 |cons e l ih=>
  rw[List.map_cons,List.nodup_cons] at h;rw[Db];rcases List.mem_cons.1 hm with h1|h1
  ·subst h1;simp
  ·rw[if_neg,ih h.2 h1];intro e';exact h.1 (e' ▸ List.mem_map.2 ⟨_,h1,rfl⟩)
theorem nd_lt {n i:Nat}{seen:List Nat}(hn:seen.Nodup)(hs:∀ i∈seen,i<n)(hi:i∉seen)(hl:i<n):seen.length<n:=by
 have h2:=List.Nodup.length_le_of_subset (l₁:=i::seen) (List.nodup_cons.2 ⟨hi,hn⟩) (l₂:=List.range n) (fun j hj=>by
  rcases List.mem_cons.1 hj with rfl|h
  ·exact List.mem_range.2 hl
  ·exact List.mem_range.2 (hs j h))
 simp at h2;omega
theorem rules_g {w0:World}{H:List (Nat × Obj)}(n:Nm)(ws:List Wm)(qw:Option Addr)(cw:Nat)(l:List Dtm)(ql:Option Addr)(cl:Nat)(hM:GpM w0 H n ws qw l ql)(ho:GpOk n ws l)(steps:Int)(hrt:DtRt n steps ws l)(tags:List Int)(q1:Option Addr)(c1:Nat)(hG:Arr w0 H q1 1 encI tags)(dt:List Int)(q2:Option Addr)(c2:Nat)(hD:Arr w0 H q2 1 encI dt)(hgr:GrOk n ws l tags dt)(hN:n.nodes.length<=100000)(hsw:∀ m∈ws,m.way.links.length+1<=100)(hsd:∀ x∈l,x.m.way.links.length+1<=100)(top:Int):
  FSpec prog w0 21 #[.agg (encNm n).toArray, .slice qw ws.length cw, .slice ql l.length cl, .slice q1 tags.length c1, .slice q2 dt.length c2, .int .i64 top] H (fun v H'=>∃ (q:Option Addr) (c:Nat) (tl:List Tl) (e:Int) (M:List (Nat × Obj)),(v= .tuple #[.slice q tl.length c, .int .i64 e]/\(∀ X,TlsM w0 (M++X) q tl)/\(tl.map (fun t=>t.rs.map ruC),e)=grulF n ws l tags dt top)/\H'=M++H):=by
 refine Az func21 U ntmps21 U ?_;have hlw:=ho.lw;have hll:=ho.ll;have htl:=hgr.tl;have hdl:=hgr.dl;have hml:(l.map Dtm.m).length=dt.length:=by rw[List.length_map,hdl]
 have hwl:(ws++l.map Dtm.m).length=(tags++dt).length:=by rw[List.length_append,List.length_append,htl,hml]
 have hwl2:(tags++dt).length<=200:=by rw[List.length_append];omega
 refine rD tb 2 U (e_ (Lt U cs_) ?_ U);rintro _ _ ⟨n6,rfl,rfl⟩;refine rO tb 5 U (B9 17 [(0,true),(1,true),(3,true),(6,true),(8,true),(10,true),(2,false),(4,false),(5,false),(7,false),(9,false),(11,false),(12,true),(13,true),(14,true),(15,true),(16,true)] _ mixd qkr sb0 ?_ By);refine o_y U (Lp U isAgg26 sizeOf26 U (by first|exact A2)) ?_ U Ac;refine rP tb 5 U (o_e U (A1 (qe1 U) call65 (cloneW_g ws qw cw (hM.w.arr.mono (by exact sbt)) qom)) ?_ U Ac);rintro _ _ ⟨dC,⟨rfl,hdC⟩,rfl⟩;refine⟨sbt,(o_e U (A1 (qe1 U) call49 (all_g ql cl l (hM.a.mono (by exact sbt)) qom)) ?_ U Ac)⟩;rintro _ _ ⟨dA,⟨rfl,hdA⟩,rfl⟩;refine⟨sbt,(o_e U (F0 (l.map Dtm.m) (l:=ws) (d:=dC) (enc:=encW) (by':=56) U qlc (T U) (T U) runUnderlying27 runUnderlying27 sizeOf59 typeInfo59 U zeroValue59 U (fun _=>rfl) (fun _=>rfl) hdC qde (by rw[List.length_map];omega) ((show Arr w0 (slH dA ((l.map Dtm.m).flatMap encW) 59++H) (slQ dA) 5 encW (l.map Dtm.m) from A5 (fun _=>rfl) hdA).mono (by exact sbt))) ?_ U Ac)⟩;rintro _ _ ⟨d30,rfl,hd30,rfl⟩;refine⟨sbt,(o_e U (A1 (qe1 U) call66 (cloneI_g tags q1 c1 (hG.mono (by exact sbt)) qom)) ?_ U Ac)⟩;rintro _ _ ⟨dG,⟨rfl,hdG⟩,rfl⟩;refine⟨sbt,(o_e U (F0 dt (l:=tags) (d:=dG) (enc:=encI) (by':=8) U qlc (T U) (T U) runUnderlying41 runUnderlying41 sizeOf3 typeInfo3 U zeroValue3 U (fun _=>rfl) (fun _=>rfl) hdG qde qom (hD.mono (by exact sbt))) ?_ U Ac)⟩;rintro _ _ ⟨d34,rfl,hd34,rfl⟩;refine⟨sbt,?_⟩;refine o_e U (A1 (qe4 U U U U) call64 (rules_s n (hM.n.mono (by exact sbt)) (slQ d30) (slC d30) (ws++l.map Dtm.m) ⟨(show Arr w0 (slH d30 ((ws++l.map Dtm.m).flatMap encW) 59++H) (slQ d30) 5 encW (ws++l.map Dtm.m) from A5 (fun _=>rfl) hd30).mono (by exact sbt),fun m hm=>(by
   rcases List.mem_append.1 hm with h|h
   ·exact(hM.w.each m h).mono (by exact sbt)
   ·obtain⟨x,hx,rfl⟩:=List.mem_map.1 h;exact(hM.d x hx).mono (by exact sbt)),by omega⟩ (ho.gw.app ho.gd) qom (slQ d34) (slC d34) (tags++dt) ((show Arr w0 (slH d34 ((tags++dt).flatMap encI) 3++H) (slQ d34) 1 encI (tags++dt) from A5 (fun _=>rfl) hd34).mono (by exact sbt)) qom hwl.symm (hgr.all ho.gw ho.gd) qom qom (fun m hm=>(by
   rcases List.mem_append.1 hm with h|h
   ·exact hsw m h
   ·obtain⟨x,hx,rfl⟩:=List.mem_map.1 h;exact hsd x hx)) top)) ?_ U Ac
 rintro _ _ ⟨dT,ts,e,rfl,hdT,htd,rfl,hres⟩;refine⟨sbt,(rP tb 5 U (Bj U (rO tb 9 U ?_)))⟩
 first|refine Ak (Aa U) (fun c40=> ?_) (fun c40=> ?_)|refine Au (Aa U) (fun c40=> ?_) (fun c40=> ?_)
 ·have he0: ¬ e=0:=c40;have he1:=congrArg Prod.snd hres;have he2:ts=[]:=by
   have h1:=Hw (by rw[he1];exact he0);rw[congrArg Prod.fst hres] at h1;exact List.map_eq_nil_iff.1 h1
  subst he2;refine rC tb 9 U (As U (.tmp (Aa U) (Ll U)) ?_);exact⟨_,⟨none,0,[],e,[],⟨rfl,fun X=>⟨fun i x hi=>by simp at hi,fun t ht=>by cases ht⟩,by unfold grulF;rw[hres];rfl⟩,rfl⟩,sbt⟩
 ·obtain rfl:e=0:=Decidable.byContradiction c40;have hrl:=Hy (congrArg Prod.snd hres);rw[congrArg Prod.fst hres] at hrl;have htn:ts.length=n.nodes.length:=by have:=hrl.1;rwa [List.length_map] at this
  refine rC tb 4 U (y_ (Lp U isAgg26 sizeOf26 U (by first|exact A2)) ?_ U);refine rO tb 3 U (e_ (A1 (qe4 U U U U) call51 (newBook_g ⟨n,ws,qw,cw,l,ql,cl,dt,q2,c2⟩ ((hM.mono (by exact sbt)).bk (hD.mono (by exact sbt))) ho.bk)) ?_ U);rintro _ _ ⟨⟨nb,nm⟩,rfl,rfl⟩;refine J1 (List.Perm.cons _ (List.Perm.cons _ (ts_permG _ _))) ?_;rw[<- enc_tsOf];refine rO tb 9 U (y_ (Lo U isAgg115 (by first|exact c_o)) ?_ U);refine e_ (eff_rangeMap (m:=nm) (l:=(bookF n.links ws l l.length)) (encK:=encK2) (encV:=encK1) (T U) (show Fnd _ nm (mapO encK2 encK1 (bookF n.links ws l l.length)) from fdd) runUnderlying115) ?_ U;rintro _ _ ⟨n51,rfl,rfl⟩;refine kO tb 2 [2,3,4,14,51] rfl U (rG tb 1 U ?_);refine Bz (X:=List Nat × List Ts × List (Nat × Obj)) (V:=fun ⟨seen,ts2,M⟩=>[]) (C:=[(2,_),(3,_),(4,_),(14,_),(51,_)]) (G:=fun ⟨seen,ts2,M⟩=>(n51,itO nm (bookF n.links ws l l.length).length seen (bookF n.links ws l l.length).length)::(nb,Cl (bkC ⟨n,ws,qw,cw,l,ql,cl,dt,q2,c2⟩ nm) 117)::(nm,mapO encK2 encK1 (bookF n.links ws l l.length))::(M++(slH dT ((ts.map tsOf).flatMap encTs) 54++(slsH ts2++H)))) (φ:=fun ⟨seen,ts2,M⟩=>(seen.Nodup/\∀ i∈seen,i<(bookF n.links ws l l.length).length)/\ts2.flatMap encTs=((ts.map tsOf).flatMap encTs)/\ts2.length=ts.length/\corT ts2=(seen.map fun i=>(gd (bookF n.links ws l l.length) i).2.toNat).foldl (stepG n.links ws l tags dt) (corT (ts.map tsOf))/\TsOk w0 M ts2) (μ:=fun ⟨seen,ts2,M⟩=>(bookF n.links ws l l.length).length - seen.length) (x0:=([],ts.map tsOf,blkM ts)) ?_ (kg U) trivial (by exact sbt) ?_
  ·refine⟨⟨List.nodup_nil,fun i hi=>by cases hi⟩,rfl,List.length_map ..,rfl,⟨fun t ht=> ?_,fun t ht m hm X=> ?_,fun t ht=> ?_⟩⟩
   ·obtain⟨u,hu,rfl⟩:=List.mem_map.1 ht;show SlOk u.d (u.rs.map rsOf).length 23;rw[List.length_map];exact htd u hu
   ·obtain⟨u,hu,rfl⟩:=List.mem_map.1 ht;obtain⟨y,hy,rfl⟩:=List.mem_map.1 (show m∈u.rs.map rsOf from hm);exact rule_m hu hy X
   ·obtain⟨u,hu,rfl⟩:=List.mem_map.1 ht;show (u.rs.map rsOf).length<=_;rw[List.length_map];obtain⟨k,hk,rfl⟩:=List.getElem_of_mem hu;have h8:=hrl.2 k qom;rw[Cr hk,List.length_map,Ay hk] at h8;omega
  rintro⟨seen,ts2,M⟩ ⟨⟨hsn,hlt⟩,hV2,hL2,hC2,hok2⟩;refine rD tb 2 U ?_;refine e_ (eff_next (m:=nm) (l:=(bookF n.links ws l l.length)) (encK:=encK2) (encV:=encK1) (T U) (show Fnd _ nm (mapO encK2 encK1 (bookF n.links ws l l.length)) from fdd) (by repeat (first|exact Loc.h|apply Loc.t))) ?_ U;rintro _ _ (⟨i,⟨⟨wy,nd⟩,kv⟩,hip,hni,rfl,rfl⟩|⟨hall,rfl,rfl⟩)
  ·refine rO tb 4 U ?_
   first|refine Cf (Aa U) ?_|refine Cf (Ae (Aa U) (vbool (decide_eq_true c53))) ?_
   refine rC tb 5 U ?_;refine y_ (yl_entry (m:=nm) (l:=(bookF n.links ws l l.length)) (encK:=encK2) (encV:=encK1) (T U) (show Fnd _ nm (mapO encK2 encK1 (bookF n.links ws l l.length)) from fdd) (by repeat (first|exact Ba|refine Av ?_)) hip) ?_ U;obtain⟨j,rfl,hj,rfl,rfl⟩:∃ j:Nat,kv=j/\j<l.length/\(gd l j).way=wy/\dnode n.links ws (gd l j)=nd:=(E8 ho.d ho.gw.nd (Nat.le_refl _)).1 (look_of_memG (book_nd _ _ _ _) (List.mem_of_getElem? hip));have hil:=(List.getElem?_eq_some_iff.1 hip).1;have hgk:(gd (bookF n.links ws l l.length) i).2.toNat=j:=by rw[Ay hil,(List.getElem?_eq_some_iff.1 hip).2];exact Int.toNat_natCast j
   have hdx:=gp_dn ho hj;have hwj:=ho.d.w _ (Ao hj);have hx2:(dnode n.links ws (gd l j)).toNat<ts2.length:=by omega
   refine rO tb 2 U (e_ (Ap zeroValue118 cs_) ?_ U);rintro _ _ ⟨n17,rfl,rfl⟩
   first|refine A9 (Ls U U sizeOf118) U Ac ?_
   rintro _ _ ⟨rfl,rfl⟩;refine rO tb 4 U (B9 6 [(0,true),(1,true),(2,true),(3,true),(4,true),(5,true)] _ mixd qkr sb0 ?_ By);refine o_y U (Cm (T U) An runUnderlying118 sizeOf3 (by exact⟨by decide,by decide⟩)) ?_ U Ac;refine o_y U (Lo U isAgg3 (by first|exact c_o)) ?_ U Ac;refine o_y U (Cm (T U) An runUnderlying118 sizeOf3 (by exact⟨by decide,by decide⟩)) ?_ U Ac;refine o_y U (Lo U isAgg3 (by first|exact c_o)) ?_ U Ac;refine rP tb 2 U (Bj U (rO tb 4 U (y_ (Af (T U)) ?_ U)))
   dsimp only
   refine rO tb 1 U (y_ (Bl (T U) (T U) runUnderlying49 sizeOf54 qom (by first|exact rfl|exact(show Arr w0 (slH dT ((ts.map tsOf).flatMap encTs) 54++H) (slQ dT) 1 encTs ts2 from by rw[<- hV2];exact A5 (fun _=>rfl) (by rw[hL2];exact hdT)).b (i:=(dnode n.links ws (gd l j)).toNat) qom|exact(show Arr w0 (slH dT ((ts.map tsOf).flatMap encTs) 54++H) (slQ dT) 1 encTs ts3 from by rw[<- hV3];exact A5 (fun _=>rfl) (by rw[hL3];exact hdT)).b (i:=(dnode n.links ws (gd l j)).toNat) qom|exact(show Arr w0 (slH (gd ts3 (dnode n.links ws (gd l j)).toNat).d ((gd ts3 (dnode n.links ws (gd l j)).toNat).rs.flatMap encRs) 124++H) (slQ (gd ts3 (dnode n.links ws (gd l j)).toNat).d) 23 encRs (gd ts3 (dnode n.links ws (gd l j)).toNat).rs from A5 (fun _=>rfl) (hok3.d _ hm3)).b (i:=a) ha3|exact hG.b (i:=(gd l j).way.toNat) qom|exact hM.a.b (i:=j) hj|exact(hM.d _ (Ao hj)).links.b (i:=0) (hrt.ne _ (Ao hj))|exact hD.b (i:=j) qom)) ?_ U);refine y_ (Lo U isAgg54 (by first|exact c_o|exact((show Arr w0 (slH dT ((ts.map tsOf).flatMap encTs) 54++H) (slQ dT) 1 encTs ts2 from by rw[<- hV2];exact A5 (fun _=>rfl) (by rw[hL2];exact hdT)).mono (by exact sbt)).f0 (i:=(dnode n.links ws (gd l j)).toNat) qom U)) ?_ U;refine rO tb 5 U ?_;refine Bz (X:=Nat × List Ts × List (Nat × Obj)) (V:=fun ⟨a,ts3,M3⟩=>[(66, .int .i64 (a:Nat))]) (C:=[(2,_),(3,_),(4,_),(14,_),(18,_),(19,_),(20,_),(51,_),(65,_)]) (G:=fun ⟨a,ts3,M3⟩=>(n17,Cl [.int .i64 (gd l j).way, .int .i64 (dnode n.links ws (gd l j))] 118)::(n51,itO nm (bookF n.links ws l l.length).length (seen++[i]) (bookF n.links ws l l.length).length)::(nb,Cl (bkC ⟨n,ws,qw,cw,l,ql,cl,dt,q2,c2⟩ nm) 117)::(nm,mapO encK2 encK1 (bookF n.links ws l l.length))::(M3++(slH dT ((ts.map tsOf).flatMap encTs) 54++(slsH ts3++H)))) (φ:=fun ⟨a,ts3,M3⟩=>a<=(gd ts2 (dnode n.links ws (gd l j)).toNat).rs.length/\ts3.flatMap encTs=((ts.map tsOf).flatMap encTs)/\ts3.length=ts.length/\corT ts3=(corT ts2).set (dnode n.links ws (gd l j)).toNat (updC (gd (corT ts2) (dnode n.links ws (gd l j)).toNat) (gd tags (gd l j).way.toNat) (gd (gd l j).m.way.links 0,gd dt j) a)/\(gd ts3 (dnode n.links ws (gd l j)).toNat).rs.length=(gd ts2 (dnode n.links ws (gd l j)).toNat).rs.length/\TsOk w0 M3 ts3) (μ:=fun ⟨a,ts3,M3⟩=>(gd ts2 (dnode n.links ws (gd l j)).toNat).rs.length - a) (x0:=(0,ts2,M)) ?_ (kg U) ⟨atd,trivial⟩ (by exact List.Sublist.refl _) ?_
   ·refine⟨Nat.zero_le _,hV2,hL2,?_,rfl,hok2⟩;rw[updC_zero];exact(set_gd (by rw[Jl];exact hx2)).symm
   rintro⟨a,ts3,M3⟩ ⟨ha,hV3,hL3,hC3,hl3,hok3⟩;have hx3:(dnode n.links ws (gd l j)).toNat<ts3.length:=by omega
   have hm3:(gd ts3 (dnode n.links ws (gd l j)).toNat)∈ts3:=Ao hx3;have hn3:=hok3.n _ hm3;refine rD tb 6 U ?_
   first|refine Ak (Aa U) (fun c67=> ?_) (fun c67=> ?_)|refine Au (Aa U) (fun c67=> ?_) (fun c67=> ?_)
   ·have ha2:a<(gd ts2 (dnode n.links ws (gd l j)).toNat).rs.length:=by have h9:((a:Nat):Int)<((gd ts2 (dnode n.links ws (gd l j)).toNat).rs.length:Nat):=c67;omega
    have ha3:a<(gd ts3 (dnode n.links ws (gd l j)).toNat).rs.length:=by rw[hl3];exact ha2
    have hcc:=cor_gd hx3 ha3;rw[hC3,Hz _ (show (dnode n.links ws (gd l j)).toNat<(corT ts2).length by rw[Jl];exact hx2),Hu (by rw[Hv hx2];exact ha2),if_neg qom] at hcc;have hcg:(gd (gd ts3 (dnode n.links ws (gd l j)).toNat).rs a).r.tag=(gd (gd (corT ts2) (dnode n.links ws (gd l j)).toNat) a).1.tag:=by rw[hcc]
    have hrg:(gd (gd ts3 (dnode n.links ws (gd l j)).toNat).rs a).r=(gd (gd (corT ts2) (dnode n.links ws (gd l j)).toNat) a).1:=by rw[hcc]
    refine rC tb 14 U (y_ (Bl (T U) (T U) runUnderlying49 sizeOf54 qom (by first|exact rfl|exact(show Arr w0 (slH dT ((ts.map tsOf).flatMap encTs) 54++H) (slQ dT) 1 encTs ts2 from by rw[<- hV2];exact A5 (fun _=>rfl) (by rw[hL2];exact hdT)).b (i:=(dnode n.links ws (gd l j)).toNat) qom|exact(show Arr w0 (slH dT ((ts.map tsOf).flatMap encTs) 54++H) (slQ dT) 1 encTs ts3 from by rw[<- hV3];exact A5 (fun _=>rfl) (by rw[hL3];exact hdT)).b (i:=(dnode n.links ws (gd l j)).toNat) qom|exact(show Arr w0 (slH (gd ts3 (dnode n.links ws (gd l j)).toNat).d ((gd ts3 (dnode n.links ws (gd l j)).toNat).rs.flatMap encRs) 124++H) (slQ (gd ts3 (dnode n.links ws (gd l j)).toNat).d) 23 encRs (gd ts3 (dnode n.links ws (gd l j)).toNat).rs from A5 (fun _=>rfl) (hok3.d _ hm3)).b (i:=a) ha3|exact hG.b (i:=(gd l j).way.toNat) qom|exact hM.a.b (i:=j) hj|exact(hM.d _ (Ao hj)).links.b (i:=0) (hrt.ne _ (Ao hj))|exact hD.b (i:=j) qom)) ?_ U);refine y_ (Lo U isAgg54 (by first|exact c_o|exact((show Arr w0 (slH dT ((ts.map tsOf).flatMap encTs) 54++H) (slQ dT) 1 encTs ts3 from by rw[<- hV3];exact A5 (fun _=>rfl) (by rw[hL3];exact hdT)).mono (by exact sbt)).f0 (i:=(dnode n.links ws (gd l j)).toNat) qom U)) ?_ U;refine rO tb 1 U (y_ (Lq U U runUnderlying54 sizeOf124 qom (by first|exact rfl|exact(show Arr w0 (slH dT ((ts.map tsOf).flatMap encTs) 54++H) (slQ dT) 1 encTs ts2 from by rw[<- hV2];exact A5 (fun _=>rfl) (by rw[hL2];exact hdT)).b (i:=(dnode n.links ws (gd l j)).toNat) qom|exact(show Arr w0 (slH dT ((ts.map tsOf).flatMap encTs) 54++H) (slQ dT) 1 encTs ts3 from by rw[<- hV3];exact A5 (fun _=>rfl) (by rw[hL3];exact hdT)).b (i:=(dnode n.links ws (gd l j)).toNat) qom|exact(show Arr w0 (slH (gd ts3 (dnode n.links ws (gd l j)).toNat).d ((gd ts3 (dnode n.links ws (gd l j)).toNat).rs.flatMap encRs) 124++H) (slQ (gd ts3 (dnode n.links ws (gd l j)).toNat).d) 23 encRs (gd ts3 (dnode n.links ws (gd l j)).toNat).rs from A5 (fun _=>rfl) (hok3.d _ hm3)).b (i:=a) ha3|exact hG.b (i:=(gd l j).way.toNat) qom|exact hM.a.b (i:=j) hj|exact(hM.d _ (Ao hj)).links.b (i:=0) (hrt.ne _ (Ao hj))|exact hD.b (i:=j) qom)) ?_ U);refine rO tb 5 U (B9 11 [(0,true),(1,true),(2,true),(3,true),(4,true),(5,true),(6,true),(7,true),(8,true),(9,true),(10,true)] _ mixd qkr sb0 ?_ By);refine rP tb 4 U (o_y U (Cm (T U) An runUnderlying74 sizeOf3 (by exact⟨by decide,by decide⟩)) ?_ U Ac);refine o_y U (Lo U isAgg3 (by first|exact c_o|exact(show Cell w0 _ _ (.int .i64 (gd (gd ts3 (dnode n.links ws (gd l j)).toNat).rs a).r.tag) from ((show Arr w0 (slH (gd ts3 (dnode n.links ws (gd l j)).toNat).d ((gd ts3 (dnode n.links ws (gd l j)).toNat).rs.flatMap encRs) 124++H) (slQ (gd ts3 (dnode n.links ws (gd l j)).toNat).d) 23 encRs (gd ts3 (dnode n.links ws (gd l j)).toNat).rs from A5 (fun _=>rfl) (hok3.d _ hm3)).mono (by exact(List.Sublist.append_right (Kb hx3) H).trans (by exact sbt))).f (i:=a) (j:=20) ha3 U))) ?_ U Ac;refine rP tb 2 U (o_y U (Bl (T U) (T U) runUnderlying41 sizeOf3 qom (by first|exact rfl|exact(show Arr w0 (slH dT ((ts.map tsOf).flatMap encTs) 54++H) (slQ dT) 1 encTs ts2 from by rw[<- hV2];exact A5 (fun _=>rfl) (by rw[hL2];exact hdT)).b (i:=(dnode n.links ws (gd l j)).toNat) qom|exact(show Arr w0 (slH dT ((ts.map tsOf).flatMap encTs) 54++H) (slQ dT) 1 encTs ts3 from by rw[<- hV3];exact A5 (fun _=>rfl) (by rw[hL3];exact hdT)).b (i:=(dnode n.links ws (gd l j)).toNat) qom|exact(show Arr w0 (slH (gd ts3 (dnode n.links ws (gd l j)).toNat).d ((gd ts3 (dnode n.links ws (gd l j)).toNat).rs.flatMap encRs) 124++H) (slQ (gd ts3 (dnode n.links ws (gd l j)).toNat).d) 23 encRs (gd ts3 (dnode n.links ws (gd l j)).toNat).rs from A5 (fun _=>rfl) (hok3.d _ hm3)).b (i:=a) ha3|exact hG.b (i:=(gd l j).way.toNat) qom|exact hM.a.b (i:=j) hj|exact(hM.d _ (Ao hj)).links.b (i:=0) (hrt.ne _ (Ao hj))|exact hD.b (i:=j) qom)) ?_ U Ac);refine o_y U (Lo U isAgg3 (by first|exact c_o|exact(hG.mono (by exact sbt)).f0 (i:=(gd l j).way.toNat) qom U)) ?_ U Ac;refine rP tb 1 U (Bj U (kO tb 2 [2,3,4,14,18,19,20,22,51,65,66,85] rfl U ?_))
    first|refine Ak (Aa U) (fun c85=> ?_) (fun c85=> ?_)|refine Au (Aa U) (fun c85=> ?_) (fun c85=> ?_)
    ·have hce: ¬ (gd (gd ts3 (dnode n.links ws (gd l j)).toNat).rs a).r.tag=(gd tags (gd l j).way.toNat):=c85;refine rC tb 5 U (y_ (Bd (T U) An qom) ?_ U);refine rO tb 2 U ?_;refine A8 ((a+1,ts3,M3)) ?_ ?_ ⟨atd,trivial⟩ (kg U) ?_
     ·refine⟨ha2,hV3,hL3,?_,hl3,hok3⟩;rw[hC3,updC_no (by rw[Hv hx2];exact ha2) (by have h9:=hcg;intro e9;exact hce (h9.trans e9))]
     ·first|omega|(simp only[];omega)
     ·first|(dsimp only;rw[sls_set hx3,List.append_assoc,List.append_assoc];exact sbt)|exact sbt
    ·have hce:(gd (gd ts3 (dnode n.links ws (gd l j)).toNat).rs a).r.tag=(gd tags (gd l j).way.toNat):=Decidable.byContradiction c85;refine rC tb 6 U (y_ (Bl (T U) (T U) runUnderlying34 sizeOf93 qom (by first|exact rfl|exact(show Arr w0 (slH dT ((ts.map tsOf).flatMap encTs) 54++H) (slQ dT) 1 encTs ts2 from by rw[<- hV2];exact A5 (fun _=>rfl) (by rw[hL2];exact hdT)).b (i:=(dnode n.links ws (gd l j)).toNat) qom|exact(show Arr w0 (slH dT ((ts.map tsOf).flatMap encTs) 54++H) (slQ dT) 1 encTs ts3 from by rw[<- hV3];exact A5 (fun _=>rfl) (by rw[hL3];exact hdT)).b (i:=(dnode n.links ws (gd l j)).toNat) qom|exact(show Arr w0 (slH (gd ts3 (dnode n.links ws (gd l j)).toNat).d ((gd ts3 (dnode n.links ws (gd l j)).toNat).rs.flatMap encRs) 124++H) (slQ (gd ts3 (dnode n.links ws (gd l j)).toNat).d) 23 encRs (gd ts3 (dnode n.links ws (gd l j)).toNat).rs from A5 (fun _=>rfl) (hok3.d _ hm3)).b (i:=a) ha3|exact hG.b (i:=(gd l j).way.toNat) qom|exact hM.a.b (i:=j) hj|exact(hM.d _ (Ao hj)).links.b (i:=0) (hrt.ne _ (Ao hj))|exact hD.b (i:=j) qom)) ?_ U);refine rO tb 2 U (y_ (Lo U isAgg41 (by first|exact c_o|exact(show Cell w0 _ _ (.slice (gd l j).m.q (gd l j).m.way.links.length (gd l j).m.cap) from (hM.a.mono (by exact sbt)).f (i:=j) (j:=3) hj U))) ?_ U);refine y_ (Bl (T U) An runUnderlying41 sizeOf3 (by exact⟨by decide,by have:=hrt.ne _ (Ao hj);omega⟩) (by first|exact rfl|exact(show Arr w0 (slH dT ((ts.map tsOf).flatMap encTs) 54++H) (slQ dT) 1 encTs ts2 from by rw[<- hV2];exact A5 (fun _=>rfl) (by rw[hL2];exact hdT)).b (i:=(dnode n.links ws (gd l j)).toNat) qom|exact(show Arr w0 (slH dT ((ts.map tsOf).flatMap encTs) 54++H) (slQ dT) 1 encTs ts3 from by rw[<- hV3];exact A5 (fun _=>rfl) (by rw[hL3];exact hdT)).b (i:=(dnode n.links ws (gd l j)).toNat) qom|exact(show Arr w0 (slH (gd ts3 (dnode n.links ws (gd l j)).toNat).d ((gd ts3 (dnode n.links ws (gd l j)).toNat).rs.flatMap encRs) 124++H) (slQ (gd ts3 (dnode n.links ws (gd l j)).toNat).d) 23 encRs (gd ts3 (dnode n.links ws (gd l j)).toNat).rs from A5 (fun _=>rfl) (hok3.d _ hm3)).b (i:=a) ha3|exact hG.b (i:=(gd l j).way.toNat) qom|exact hM.a.b (i:=j) hj|exact(hM.d _ (Ao hj)).links.b (i:=0) (hrt.ne _ (Ao hj))|exact hD.b (i:=j) qom)) ?_ U;refine y_ (Lo U isAgg3 (by first|exact c_o|exact(show Cell w0 _ _ (.int .i64 (gd (gd l j).m.way.links 0)) from ((hM.d _ (Ao hj)).links.mono (by exact sbt)).f0 (i:=0) (hrt.ne _ (Ao hj)) U))) ?_ U;refine rO tb 3 U (Jm 23 23 ((n17,Cl [.int .i64 (gd l j).way, .int .i64 (dnode n.links ws (gd l j))] 118)::(n51,itO nm (bookF n.links ws l l.length).length (seen++[i]) (bookF n.links ws l l.length).length)::(nb,Cl (bkC ⟨n,ws,qw,cw,l,ql,cl,dt,q2,c2⟩ nm) 117)::(nm,mapO encK2 encK1 (bookF n.links ws l l.length))::(M3++(slH dT ((ts.map tsOf).flatMap encTs) 54++H))) ((n17,Cl [.int .i64 (gd l j).way, .int .i64 (dnode n.links ws (gd l j))] 118)::(n51,itO nm (bookF n.links ws l l.length).length (seen++[i]) (bookF n.links ws l l.length).length)::(nb,Cl (bkC ⟨n,ws,qw,cw,l,ql,cl,dt,q2,c2⟩ nm) 117)::(nm,mapO encK2 encK1 (bookF n.links ws l l.length))::(M3++(slH dT ((ts.map tsOf).flatMap encTs) 54++(slsH ts3++H)))) mixd qkr (by exact sbt) (by exact sbt) ?_ By);refine Ch [0] qkr U (i:=0) U qkr (Af (T U)) ?_ U Ac;refine Ch [1] qkr U (i:=1) U qkr (Af (T U)) ?_ U Ac;refine Ch [2] qkr U (i:=2) U qkr (Ck (T U)) ?_ U Ac;refine Ch [3] qkr U (i:=3) U qkr (Bt (T U) Gb) ?_ U Ac;refine Ch [4] qkr U (i:=4) U qkr (Lo U isAgg122 (by first|exact c_o|exact(show Cell w0 _ _ (outV (gd (gd ts3 (dnode n.links ws (gd l j)).toNat).rs a).o) from ((show Arr w0 (slH (gd ts3 (dnode n.links ws (gd l j)).toNat).d ((gd ts3 (dnode n.links ws (gd l j)).toNat).rs.flatMap encRs) 124++H) (slQ (gd ts3 (dnode n.links ws (gd l j)).toNat).d) 23 encRs (gd ts3 (dnode n.links ws (gd l j)).toNat).rs from A5 (fun _=>rfl) (hok3.d _ hm3)).mono (by exact(List.Sublist.append_right (Kb hx3) H).trans (by exact sbt))).f (i:=a) (j:=22) ha3 U))) ?_ U Ac;refine Ch [5] qkr U (i:=5) U qkr (Bl (T U) An runUnderlying122 sizeOf128 (by simp) (by first|exact rfl|exact(show Arr w0 (slH dT ((ts.map tsOf).flatMap encTs) 54++H) (slQ dT) 1 encTs ts2 from by rw[<- hV2];exact A5 (fun _=>rfl) (by rw[hL2];exact hdT)).b (i:=(dnode n.links ws (gd l j)).toNat) qom|exact(show Arr w0 (slH dT ((ts.map tsOf).flatMap encTs) 54++H) (slQ dT) 1 encTs ts3 from by rw[<- hV3];exact A5 (fun _=>rfl) (by rw[hL3];exact hdT)).b (i:=(dnode n.links ws (gd l j)).toNat) qom|exact(show Arr w0 (slH (gd ts3 (dnode n.links ws (gd l j)).toNat).d ((gd ts3 (dnode n.links ws (gd l j)).toNat).rs.flatMap encRs) 124++H) (slQ (gd ts3 (dnode n.links ws (gd l j)).toNat).d) 23 encRs (gd ts3 (dnode n.links ws (gd l j)).toNat).rs from A5 (fun _=>rfl) (hok3.d _ hm3)).b (i:=a) ha3|exact hG.b (i:=(gd l j).way.toNat) qom|exact hM.a.b (i:=j) hj|exact(hM.d _ (Ao hj)).links.b (i:=0) (hrt.ne _ (Ao hj))|exact hD.b (i:=j) qom)) ?_ U Ac;refine Ch [6] qkr U (i:=6) U qkr (Lo U isAgg128 (by first|exact c_o|exact(show Cell w0 _ _ (.slice (some ⟨(gd (gd ts3 (dnode n.links ws (gd l j)).toNat).rs a).a,0,none⟩) (alsOf (gd (gd ts3 (dnode n.links ws (gd l j)).toNat).rs a).r.hop (gd (gd ts3 (dnode n.links ws (gd l j)).toNat).rs a).s).length (alsOf (gd (gd ts3 (dnode n.links ws (gd l j)).toNat).rs a).r.hop (gd (gd ts3 (dnode n.links ws (gd l j)).toNat).rs a).s).length) from (((hok3.r _ hm3 _ (Ao ha3) (slH dT ((ts.map tsOf).flatMap encTs) 54++H)).mono (by exact sbt)).o).f0 (i:=0) Nat.zero_lt_one U))) ?_ U Ac;refine Ch [7] qkr U (i:=7) U qkr (Bl (T U) An runUnderlying128 sizeOf127 (by show _/\_<((alsOf _ _).length:Int);unfold alsOf;simp) (by first|exact rfl|exact(show Arr w0 (slH dT ((ts.map tsOf).flatMap encTs) 54++H) (slQ dT) 1 encTs ts2 from by rw[<- hV2];exact A5 (fun _=>rfl) (by rw[hL2];exact hdT)).b (i:=(dnode n.links ws (gd l j)).toNat) qom|exact(show Arr w0 (slH dT ((ts.map tsOf).flatMap encTs) 54++H) (slQ dT) 1 encTs ts3 from by rw[<- hV3];exact A5 (fun _=>rfl) (by rw[hL3];exact hdT)).b (i:=(dnode n.links ws (gd l j)).toNat) qom|exact(show Arr w0 (slH (gd ts3 (dnode n.links ws (gd l j)).toNat).d ((gd ts3 (dnode n.links ws (gd l j)).toNat).rs.flatMap encRs) 124++H) (slQ (gd ts3 (dnode n.links ws (gd l j)).toNat).d) 23 encRs (gd ts3 (dnode n.links ws (gd l j)).toNat).rs from A5 (fun _=>rfl) (hok3.d _ hm3)).b (i:=a) ha3|exact hG.b (i:=(gd l j).way.toNat) qom|exact hM.a.b (i:=j) hj|exact(hM.d _ (Ao hj)).links.b (i:=0) (hrt.ne _ (Ao hj))|exact hD.b (i:=j) qom)) ?_ U Ac;refine Ch [8] qkr U (i:=8) U qkr (Lp U isAgg127 sizeOf127 U (by first|exact(show Cells w0 _ _ _ (encAl (alOf (gd (gd ts3 (dnode n.links ws (gd l j)).toNat).rs a).r.hop)) from (((hok3.r _ hm3 _ (Ao ha3) (slH dT ((ts.map tsOf).flatMap encTs) 54++H)).mono (by exact sbt)).a).cs (i:=0) (by show 0<(alsOf _ _).length;unfold alsOf;simp))|exact A2)) ?_ U Ac;refine Ch [9] qkr U (i:=9) U qkr (Af (T U)) ?_ U Ac;refine Ch [10] qkr U (i:=10) U qkr (Bg (.cons An (.cons An .nil)) (Kb2 _ _)) ?_ U Ac;refine Ch [11] qkr U (i:=11) U qkr (Af (T U)) ?_ U Ac;refine Ch [12] qkr U (i:=12) U qkr (Af (T U)) ?_ U Ac;refine Ch [13] qkr U (i:=13) U qkr (Af (T U)) ?_ U Ac;refine Ch [14] qkr U (i:=14) U qkr (Bl (T U) (T U) runUnderlying41 sizeOf3 qom (by first|exact rfl|exact(show Arr w0 (slH dT ((ts.map tsOf).flatMap encTs) 54++H) (slQ dT) 1 encTs ts2 from by rw[<- hV2];exact A5 (fun _=>rfl) (by rw[hL2];exact hdT)).b (i:=(dnode n.links ws (gd l j)).toNat) qom|exact(show Arr w0 (slH dT ((ts.map tsOf).flatMap encTs) 54++H) (slQ dT) 1 encTs ts3 from by rw[<- hV3];exact A5 (fun _=>rfl) (by rw[hL3];exact hdT)).b (i:=(dnode n.links ws (gd l j)).toNat) qom|exact(show Arr w0 (slH (gd ts3 (dnode n.links ws (gd l j)).toNat).d ((gd ts3 (dnode n.links ws (gd l j)).toNat).rs.flatMap encRs) 124++H) (slQ (gd ts3 (dnode n.links ws (gd l j)).toNat).d) 23 encRs (gd ts3 (dnode n.links ws (gd l j)).toNat).rs from A5 (fun _=>rfl) (hok3.d _ hm3)).b (i:=a) ha3|exact hG.b (i:=(gd l j).way.toNat) qom|exact hM.a.b (i:=j) hj|exact(hM.d _ (Ao hj)).links.b (i:=0) (hrt.ne _ (Ao hj))|exact hD.b (i:=j) qom)) ?_ U Ac;refine Ch [15] qkr U (i:=15) U qkr (Lo U isAgg3 (by first|exact c_o|exact(hD.mono (by exact sbt)).f0 (i:=j) qom U)) ?_ U Ac;refine Ch [16] qkr U (i:=16) U qkr (Bg (.cons (T U) (.cons (T U) .nil)) (Kb2 _ _)) ?_ U Ac;refine Ch [17] qkr U (i:=17) U qkr (Bg (.cons (T U) (.cons (T U) .nil)) (Ka3 _ _ _ _ _ _ _ _ _ _ _ _ _ _ _ _ _ _ _ _)) ?_ U Ac;refine Ch [18] qkr U (i:=18) U qkr (Bg (.cons (T U) (.cons (T U) .nil)) (Ka5 _ _ _ _ _ _ _ _ _ _ _ _ _ _ _ _ _ _ _ _ _)) ?_ U Ac;refine De (i:=19) qkr qkr ?_;refine Eo U (A7 (.cons (T U) (.cons (T U) .nil)) (Kb7 _ _ _ _ _ _ _ _ _ _ _ _ _ _ _ _ _ _ _ _ _ _ _ _ _ _ _ _ _ _ _ _ _ _ _ _ _ _ _ _ _ _)) ?_ U Ac qkr;rintro _ _ ⟨n113,rfl,rfl⟩;refine⟨sbt,(De (i:=20) qkr qkr ?_)⟩;refine Eo U (A7 (.cons (T U) .nil) (Kb6 _ _ _)) ?_ U Ac qkr;rintro _ _ ⟨n114,rfl,rfl⟩;refine⟨sbt,(Ch [22,21] qkr U (i:=21) U qkr (Ck (T U)) ?_ U Ac)⟩;refine Ch [22] qkr U (i:=22) U qkr (Bt (T U) Gb) ?_ U Ac;refine H8 qkr U ?_;refine e_ (eff_sElemF (d:=(gd ts3 (dnode n.links ws (gd l j)).toNat).d) (l:=(gd ts3 (dnode n.links ws (gd l j)).toNat).rs) (e:=124) (enc:=encRs) (sz:=23) (i:=a) (j:=22) (⟨(gd (gd ts3 (dnode n.links ws (gd l j)).toNat).rs a).r,n114,n113,some (gd (gd l j).m.way.links 0,gd dt j)⟩:Rs) (fun _=>rfl) (by repeat (first|exact locTs (i:=(dnode n.links ws (gd l j)).toNat) hx3 _|apply LocL.a|apply LocL.t)) (T U) (T U) U sizeOf122 ha3 qom (by rw[<- Ay ha3];rfl) (hok3.d _ hm3)) ?_ U;rintro _ _ ⟨rfl,rfl⟩;refine kO tb 3 [2,3,4,14,18,19,20,51,65,66] rfl U (rG tb 1 U (y_ (Bd (T U) An qom) ?_ U));refine rO tb 2 U (Bn (List.perm_append_comm_assoc [_,_] [_,_,_,_] _) ?_);refine A8 ((a+1,ts3.set (dnode n.links ws (gd l j)).toNat (⟨(gd ts3 (dnode n.links ws (gd l j)).toNat).d,(gd ts3 (dnode n.links ws (gd l j)).toNat).rs.set a (⟨(gd (gd ts3 (dnode n.links ws (gd l j)).toNat).rs a).r,n114,n113,some (gd (gd l j).m.way.links 0,gd dt j)⟩:Rs)⟩:Ts),(n114,Cl [.slice (some ⟨n113,0,none⟩) 2 2] 128)::(n113,Cl (encAl (alOf (gd (gd ts3 (dnode n.links ws (gd l j)).toNat).rs a).r.hop)++encAl (alSec (gd (gd l j).m.way.links 0,gd dt j))) 127)::M3)) ?_ ?_ ⟨atd,trivial⟩ (kg U) ?_
     ·refine⟨ha2,by rw[enc_set hx3];exact hV3,by rw[List.length_set];exact hL3,?_,?_,hok3.set hx3 ha3 fun X=> ?_⟩
      ·rw[cor_set hx3,hC3,List.set_set,Hz _ (show (dnode n.links ws (gd l j)).toNat<(corT ts2).length by rw[Jl];exact hx2),hrg,updC_yes (by rw[Hv hx2];exact ha2) (by rw[<- hcg];exact hce)]
      ·rw[Hz _ hx3];show ((gd ts3 (dnode n.links ws (gd l j)).toNat).rs.set a _).length=_;rw[List.length_set];exact hl3
      ·exact⟨Cq (fun _=>rfl) (e:=128) U Ba,Cq (fun _=>rfl) (e:=127) (by show _=(alsOf (gd (gd ts3 (dnode n.links ws (gd l j)).toNat).rs a).r.hop (some (gd (gd l j).m.way.links 0,gd dt j))).flatMap encAl;unfold alsOf;simp) (Av Ba)⟩
     ·first|omega|(simp only[];omega)
     ·first|(dsimp only;rw[sls_set hx3,List.append_assoc,List.append_assoc];exact sbt)|exact sbt
   ·obtain rfl:a=(gd ts2 (dnode n.links ws (gd l j)).toNat).rs.length:=by have h9: ¬ ((a:Nat):Int)<((gd ts2 (dnode n.links ws (gd l j)).toNat).rs.length:Nat):=c67;omega
    refine rC tb 2 U (Aq (rX tb 2 U ?_));refine A8 ((seen++[i],ts3,M3)) ?_ ?_ trivial (kg U) ?_
    ·refine⟨⟨?_,fun b hb=> ?_⟩,hV3,hL3,?_,hok3⟩
     ·rw[List.nodup_append];exact⟨hsn,by simp,by intro b hb b2 hb2;simp at hb2;subst hb2;rintro rfl;exact hni hb⟩
     ·rcases List.mem_append.1 hb with h|h
      ·exact hlt b h
      ·rw[List.mem_singleton.1 h];exact hil
     ·rw[hC3,List.map_append,List.map_singleton,List.foldl_append,List.foldl_cons,List.foldl_nil,<- hC2,hgk];unfold stepG;rw[Hv hx2]
    ·have h9:=nd_lt hsn hlt hni hil;show (bookF n.links ws l l.length).length - (seen++[i]).length<(bookF n.links ws l l.length).length - seen.length;rw[List.length_append,List.length_singleton];omega
    ·exact sbt
  ·refine rO tb 4 U ?_
   first|refine Cz (Aa U) ?_|refine Cz (Ae (Aa U) (vbool (decide_eq_false c53))) ?_
   refine rC tb 2 U (Aq (rX tb 10 U (As U (.tmp (Aa U) (Ll U)) ?_)));have hfin:corT ts2=secT n.links ws l tags dt (ts.map fun t=>t.rs.map (·.r)):=by
    rw[hC2,cor_of];refine fold_secT ho hrt hgr (fun k hk=>by rw[List.length_map,htn];exact gp_dn ho hk) (fun k hk=> ?_) fun k hk=> ?_
    ·obtain⟨i,hi,rfl⟩:=List.mem_map.1 hk;have hil:=hlt i hi;obtain⟨j,h1,h2,_,_⟩:=(E8 ho.d ho.gw.nd (Nat.le_refl _)).1 (look_of_memG (book_nd n.links ws l l.length) (p:=(gd (bookF n.links ws l l.length) i).1) (c:=(gd (bookF n.links ws l l.length) i).2) (Ao hil));rw[h1];omega
    ·have h1:=(E8 ho.d ho.gw.nd (Nat.le_refl _)).2 ⟨k,rfl,hk,rfl,rfl⟩;obtain⟨i,hi,h2⟩:=List.getElem_of_mem (look_memV h1);refine List.mem_map.2 ⟨i,hall i hi,?_⟩;rw[Ay hi,h2];exact Int.toNat_natCast k
   have hgf:((ts2.map tlOf).map (fun t=>t.rs.map ruC),(0:Int))=grulF n ws l tags dt top:=by
    unfold grulF;rw[hres,cor_tl,hfin]
   refine⟨_,⟨slQ dT,slC dT,ts2.map tlOf,0,M++(slH dT (ts2.flatMap encTs) 54++slsH ts2),⟨by rw[List.length_map,hL2];rfl,fun X=> ?_,hgf⟩,rfl⟩,?_⟩
   ·simp only[List.append_assoc];exact hok2.m (by rw[hL2];exact hdT) X
   ·rw[hV2];simp only[List.append_assoc];exact sbt
def exLinksT:List Lnk:=[⟨0,1,10⟩,⟨1,3,10⟩,⟨0,2,10⟩,⟨2,3,10⟩,⟨1,2,10⟩,⟨3,0,10⟩]
def exNT (n1 n2 n3:Nat) (a b c d:ByteArray):Nm where
 nodes:=[⟨a,false,100,100⟩,⟨b,false,100,100⟩,⟨c,false,100,100⟩,⟨d,false,100,100⟩]
 links:=exLinksT
 edges:=exEdges
 qn:=some ⟨n1,0,none⟩
 cn:=4
 ql:=some ⟨n2,0,none⟩
 cl:=6
 qe:=some ⟨n3,0,none⟩
 ce:=2
theorem ex_netT {w0:World}{H:List (Nat × Obj)}{n1 n2 n3:Nat}{a b c d:ByteArray}(h:a.size<=1/\b.size<=1/\c.size<=1/\d.size<=1)(h1:Fnd H n1 (Cl (exC a b c d) 140))(h2:Fnd H n2 (Cl (exLinksT.flatMap encL) 95))(h3:Fnd H n3 (Cl (exEdges.flatMap encE) 171)):NetM w0 H (exNT n1 n2 n3 a b c d) where
 nodes:=Cq (fun _=>rfl) U h1
 links:=Cq (fun _=>rfl) U h2
 edges:=Cq (fun _=>rfl) U h3
 ln:=by simp[exNT]
 ll:=by simp[exNT,exLinksT]
 le:=by simp[exNT,exEdges]
 sn:=fun x hx=>by simp[exNT] at hx;rcases hx with rfl|rfl|rfl|rfl<;>simp only[]<;>omega
 se:=fun x hx=>by simp[exNT,exEdges] at hx;rcases hx with rfl|rfl<;>decide
abbrev wA:Way:=⟨0,[0,1],10001,0, -1⟩
structure ExW (w:Way):Prop where
 nd:(nodesF exLinksT w).Nodup
 inr:InR exLinksT w.links
 at':∀ p∈hops exLinksT w,0<=p.1/\p.1<4
 len:w.links.length+1<=100
theorem inr_all {ls:List Lnk}{path:List Int}(h:path.all (fun l=>decide (0<=l)&&decide (l<ls.length))=true):InR ls path:=fun i hi=>by
 rw[List.all_eq_true] at h;have:=h _ (Ao hi)
 simpa using this
theorem exA:ExW wA:=⟨by decide+kernel,inr_all (by decide+kernel),by decide+kernel,by decide+kernel⟩
section
variable {n1 n2 n3:Nat} {a b c d:ByteArray}
theorem ex_gw {l:List Wm}(h:∀ m∈l,ExW m.way):Gw (exNT n1 n2 n3 a b c d) l:=⟨fun m hm=>(h m hm).nd,fun m hm=>(h m hm).inr,fun m hm=>(h m hm).at',fun m hm=>by have:=(h m hm).len;omega⟩
theorem ex_two {m1 m2:Wm}(h1:ExW m1.way)(h2:ExW m2.way):∀ m∈[m1,m2],ExW m.way:=fun m hm=>by simp at hm;rcases hm with rfl|rfl;exact h1;exact h2
theorem ex_okT:NetOk (exNT n1 n2 n3 a b c d) where
 links:=fun i hi=>by
  have hi':i<6:=hi
  match i,hi' with
  |0,_=>exact⟨of_decide_eq_true rfl,of_decide_eq_true rfl,of_decide_eq_true rfl,of_decide_eq_true rfl,of_decide_eq_true rfl,of_decide_eq_true rfl,of_decide_eq_true rfl⟩
  |1,_=>exact⟨of_decide_eq_true rfl,of_decide_eq_true rfl,of_decide_eq_true rfl,of_decide_eq_true rfl,of_decide_eq_true rfl,of_decide_eq_true rfl,of_decide_eq_true rfl⟩
  |2,_=>exact⟨of_decide_eq_true rfl,of_decide_eq_true rfl,of_decide_eq_true rfl,of_decide_eq_true rfl,of_decide_eq_true rfl,of_decide_eq_true rfl,of_decide_eq_true rfl⟩
  |3,_=>exact⟨of_decide_eq_true rfl,of_decide_eq_true rfl,of_decide_eq_true rfl,of_decide_eq_true rfl,of_decide_eq_true rfl,of_decide_eq_true rfl,of_decide_eq_true rfl⟩
  |4,_=>exact⟨of_decide_eq_true rfl,of_decide_eq_true rfl,of_decide_eq_true rfl,of_decide_eq_true rfl,of_decide_eq_true rfl,of_decide_eq_true rfl,of_decide_eq_true rfl⟩
  |5,_=>exact⟨of_decide_eq_true rfl,of_decide_eq_true rfl,of_decide_eq_true rfl,of_decide_eq_true rfl,of_decide_eq_true rfl,of_decide_eq_true rfl,of_decide_eq_true rfl⟩
 edges:=fun i hi=>by
  have hi':i<2:=hi
  match i,hi' with
  |0,_=>exact⟨of_decide_eq_true rfl,of_decide_eq_true rfl⟩
  |1,_=>exact⟨of_decide_eq_true rfl,of_decide_eq_true rfl⟩
variable {w0:World} {H:List (Nat × Obj)}
end
abbrev exM (n1 n2 n3:Nat):Nm:=exNT n1 n2 n3 ⟨#[97]⟩ ⟨#[98]⟩ ⟨#[99]⟩ ⟨#[100]⟩
theorem exM_links:exLinks.flatMap encLn=exLinksT.flatMap encL:=rfl
theorem exM_nodes:exK 4=exC ⟨#[97]⟩ ⟨#[98]⟩ ⟨#[99]⟩ ⟨#[100]⟩:=by kernel_rfl
theorem Dr {w0:World}{H:List (Nat × Obj)}{n1 n2 n3:Nat}(h1:Fnd H n1 (Cl (exK 4) 140))(h2:Fnd H n2 (Cl (exLinks.flatMap encLn) 95))(h3:Fnd H n3 (Cl (exEdges.flatMap encE) 171)):NetM w0 H (exM n1 n2 n3):=
 ex_netT ⟨by decide,by decide,by decide,by decide⟩ (exM_nodes ▸ h1) (exM_links ▸ h2) h3
abbrev reS:Re:= .star .any
abbrev reAB:Re:= .seq (.seq (.nod ⟨#[97]⟩) (.nod ⟨#[98]⟩)) (.star .any)
theorem evB:(buildF leastF reS)=(⟨[],[[0]],[true]⟩,0):=by kernel_rfl
theorem cpt1 (s:ByteArray):cptB [s]=[s]:=by
 unfold cptB;rw[show ([s].map toL)=[toL s] from rfl,show Lib.compact [toL s]=[toL s] from by unfold Lib.compact;rfl]
 rfl
theorem letS (s:ByteArray):letF (.nod s)=[s]:=by
 show cptB (srtB [s])=[s];rw[show srtB [s]=[s] from by
  unfold srtB;rw[show srtU ([s].map toL)=[toL s] from List.mergeSort_singleton ..]
  rfl]
 exact cpt1 s
theorem letAB:letF reAB=[⟨#[97]⟩,⟨#[98]⟩]:=by
 have e0:letF (.star .any)=[]:=by kernel_rfl
 have s2:srtB [⟨#[97]⟩,⟨#[98]⟩]=[⟨#[97]⟩,⟨#[98]⟩]:=by
  unfold srtB;rw[show srtU ([(⟨#[97]⟩:ByteArray),⟨#[98]⟩].map toL)=[[97],[98]] from List.mergeSort_of_pairwise (by simp;decide)]
  rfl
 have c2:cptB [(⟨#[97]⟩:ByteArray),⟨#[98]⟩]=[⟨#[97]⟩,⟨#[98]⟩]:=by kernel_rfl
 have e1:letF (.seq (.nod ⟨#[97]⟩) (.nod ⟨#[98]⟩))=[⟨#[97]⟩,⟨#[98]⟩]:=by
  show cptB (srtB (letF (.nod ⟨#[97]⟩)++letF (.nod ⟨#[98]⟩)))=_;rw[letS,letS,show [(⟨#[97]⟩:ByteArray)]++[⟨#[98]⟩]=[⟨#[97]⟩,⟨#[98]⟩] from rfl,s2,c2]
 show cptB (srtB (letF (.seq (.nod ⟨#[97]⟩) (.nod ⟨#[98]⟩))++letF (.star .any)))=_;rw[e1,e0,List.append_nil,s2,c2]
abbrev nmAB:List ByteArray:=[⟨#[97]⟩,⟨#[98]⟩]
theorem rawAB:rawGo (addF reAB t00).1 (addF reAB t00).2 nmAB 201 0 [s00] [] []=some ((rawGo (addF reAB t00).1 (addF reAB t00).2 nmAB 201 0 [s00] [] []).getD ([],[])):=by kernel_rfl
theorem leastAB:leastF ⟨nmAB,((rawGo (addF reAB t00).1 (addF reAB t00).2 nmAB 201 0 [s00] [] []).getD ([],[])).1,((rawGo (addF reAB t00).1 (addF reAB t00).2 nmAB 201 0 [s00] [] []).getD ([],[])).2⟩=⟨nmAB,[[1,2,2],[2,3,2],[2,2,2],[3,3,3]],[false,false,false,true]⟩:=by kernel_rfl
theorem evBA:(buildF leastF reAB)=(⟨nmAB,[[1,2,2],[2,3,2],[2,2,2],[3,3,3]],[false,false,false,true]⟩,0):=by
 have h:rawF reAB=rawGo (addF reAB t00).1 (addF reAB t00).2 nmAB 201 0 [s00] [] []:=by unfold rawF;rw[letAB]
 rw[rawAB] at h;unfold buildF;rw[h];simp only[];rw[letAB,leastAB]
section
variable {n1 n2 n3:Nat}
theorem evF0:dFnd (exM n1 n2 n3) wA ⟨[],[[0]],[true]⟩ 0=([2,3],0):=by kernel_rfl
theorem evF1:dFnd (exM n1 n2 n3) wA ⟨[],[[0]],[true]⟩ 1=([4,3],0):=by kernel_rfl
theorem evFA0:dFnd (exM n1 n2 n3) wA ⟨[⟨#[97]⟩,⟨#[98]⟩],[[1,2,2],[2,3,2],[2,2,2],[3,3,3]],[false,false,false,true]⟩ 0=([],18):=by kernel_rfl
theorem evFA1:dFnd (exM n1 n2 n3) wA ⟨[⟨#[97]⟩,⟨#[98]⟩],[[1,2,2],[2,3,2],[2,2,2],[3,3,3]],[false,false,false,true]⟩ 1=([4,3],0):=by kernel_rfl
abbrev wD0:Way:=⟨0,[2,3],10001,0, -1⟩
abbrev wD1:Way:=⟨1,[4,3],10001,0, -1⟩
theorem evD0:dtrW (exM n1 n2 n3) wA reS 0=(wD0,0):=by
 have h:=Ks (n:=exM n1 n2 n3) (w:=wA) (e:=reS) (p:=0) qde (by rw[evB]) (by rw[evB,evF0]) (by rw[evB,evF0];exact of_decide_eq_true qkr);rw[evB,evF0] at h;exact h
theorem evD1:dtrW (exM n1 n2 n3) wA reS 1=(wD1,0):=by
 have h:=Ks (n:=exM n1 n2 n3) (w:=wA) (e:=reS) (p:=1) qde (by rw[evB]) (by rw[evB,evF1]) (by rw[evB,evF1];exact of_decide_eq_true qkr);rw[evB,evF1] at h;exact h
theorem evDA0:dtrW (exM n1 n2 n3) wA reAB 0=(wZ,18):=dtr_nof (p:=0) qde (by rw[evBA]) (by rw[evBA,evFA0];decide)
theorem evDA1:dtrW (exM n1 n2 n3) wA reAB 1=(wD1,0):=by
 have h:=Ks (n:=exM n1 n2 n3) (w:=wA) (e:=reAB) (p:=1) qde (by rw[evBA]) (by rw[evBA,evFA1]) (by rw[evBA,evFA1];exact of_decide_eq_true qkr);rw[evBA,evFA1] at h;exact h
end
theorem gd_out {α:Type}[Inhabited α] {l:List α}{i:Nat}(h:l.length<=i):gd l i=default:=by simp[gd,List.getD,h]
abbrev RuX:=Int × Int × Int × List Al
def ruX (c:RuX):Ru:=⟨c.1,c.2.1,c.2.2.1,c.2.2.2,none,0,none,0⟩
def tlX (T:List (List RuX)):List Tl:=T.map fun rs=>⟨none,0,rs.map ruX⟩
abbrev tlC (ts:List Tl):List (List RuX):=ts.map fun t=>t.rs.map ruC
theorem Kc (T:List (List RuX)):tlC (tlX T)=T:=by
 unfold tlC tlX;rw[List.map_map];refine(List.map_congr_left (g:=id) fun rs _=> ?_).trans (List.map_id T);show (rs.map ruX).map ruC=rs;rw[List.map_map];exact(List.map_congr_left (g:=id) fun c _=>rfl).trans (List.map_id rs)
theorem ru_at {rs rs':List Ru}(h:rs.map ruC=rs'.map ruC){k:Nat}(hk:k<rs.length):ruC (gd rs k)=ruC (gd rs' k):=by
 have hl:rs.length=rs'.length:=by simpa using congrArg List.length h
 have h2:gd (rs.map ruC) k=gd (rs'.map ruC) k:=by rw[h]
 rwa [Cr hk,Cr qom] at h2
theorem lup_congr {rs rs':List Ru}(h:rs.map ruC=rs'.map ruC)(g:Nat->Int):lupF rs g=lupF rs' g:=by
 have hl:rs.length=rs'.length:=by simpa using congrArg List.length h
 unfold lupF;rw[hl];have:∀ k∈List.range rs'.length,decide ((gd rs k).tag=g 9)=decide ((gd rs' k).tag=g 9):=fun k hk=>by
  have e:=ru_at h (k:=k) (by rw[hl];exact List.mem_range.1 hk);rw[show (gd rs k).tag=(gd rs' k).tag from congrArg (fun c=>c.2.1) e]
 generalize List.range rs'.length=l at this
 induction l with
 |nil=>rfl
 |cons a l ih=>
  rw[List.find?_cons,List.find?_cons,this a List.mem_cons_self,ih fun k hk=>this k (List.mem_cons_of_mem _ hk)]
theorem nxt_congr {rs rs':List Ru}(h:rs.map ruC=rs'.map ruC)(up:Int->Bool)(g:Nat->Int):nxtF up rs g=nxtF up rs' g:=by
 unfold nxtF;rw[lup_congr h];cases hk:lupF rs' g with
 |none=>rfl
 |some k=>
  have hl:rs.length=rs'.length:=by simpa using congrArg List.length h
  have e:=ru_at h (k:=k) (by rw[hl];exact lup_lt hk);have e1:(gd rs k).alts=(gd rs' k).alts:=congrArg (fun c=>c.2.2.2) e;have e2:(gd rs k).step=(gd rs' k).step:=congrArg (fun c=>c.2.2.1) e;simp only[];unfold sndF;rw[e1,e2]
theorem H3 {ls:List Lnk}{ts ts':List Tl}(h:tlC ts=tlC ts')(up:Int->Bool):∀ (f:Nat) (seen:List Vis) (links:List Int) (x:Int) (g:Nat->Int),folF ls ts up f seen links x g=folF ls ts' up f seen links x g
 |0,_,_,_,_=>rfl
 |f+1,seen,links,x,g=>by
  have hl:ts.length=ts'.length:=by simpa using congrArg List.length h
  have e:(gd ts x.toNat).rs.map ruC=(gd ts' x.toNat).rs.map ruC:=by
   by_cases hx:x.toNat<ts.length
   ·have h2:gd (tlC ts) x.toNat=gd (tlC ts') x.toNat:=by rw[h]
    unfold tlC at h2
    rwa [Cr hx,Cr qom] at h2
   ·rw[gd_out qom,gd_out qom]
  rw[folF,folF,nxt_congr e]
  split
  ·rfl
  ·split
   ·rfl
   ·split
    ·rfl
    ·exact H3 h up f _ _ _ _
def alB (L:Nat) (a:Al):Bool:=(decide (a.link= -1)||(decide (0<=a.link)&&decide (a.link<L)))&&((decide (a.k=0)||decide (a.k=65535))&&(decide (0<=a.p/\a.p<=65535)&&(decide (0<=a.t/\a.t<=65535)&&(!decide (a.k=0)||decide (a.t=0)))))
def ruB (L:Nat) (c:RuX):Bool:=c.2.2.2.all (alB L)&&(decide (c.2.2.2.length<=100000)&&decide (0<=c.2.1/\c.2.1<=65535))
theorem alB_ok {L:Nat}{a:Al}(h:alB L a=true):AlOk L a:=by
 unfold alB at h;simp only[Bool.and_eq_true,Bool.or_eq_true,decide_eq_true_eq,Bool.not_eq_true',decide_eq_false_iff_not] at h;obtain⟨h1,h2,h3,h4,h5⟩:=h;refine⟨h1,h2,h3,h4,fun e=> ?_⟩;rcases h5 with h5|h5
 ·exact absurd e h5
 ·exact h5
theorem ruB_ok {L:Nat}{r:Ru}(h:ruB L (ruC r)=true):RuOk L r:=by
 unfold ruB at h;simp only[Bool.and_eq_true,decide_eq_true_eq,List.all_eq_true] at h;exact⟨fun a ha=>alB_ok (h.1 a ha),h.2.1,h.2.2⟩
theorem tlB_ok {L:Nat}{ts:List Tl}(h:(tlC ts).all (fun rs=>rs.all (ruB L))=true):∀ t∈ts,∀ r∈t.rs,RuOk L r:=fun t ht r hr=>by
 rw[List.all_eq_true] at h;have h1:=h _ (List.mem_map.2 ⟨t,ht,rfl⟩);rw[List.all_eq_true] at h1;exact ruB_ok (h1 _ (List.mem_map.2 ⟨r,hr,rfl⟩))
section
variable {n1 n2 n3:Nat} {qa qb qc:Option Addr} {ca cb cc:Nat}
abbrev wsE (qa:Option Addr) (ca:Nat):List Wm:=[⟨wA,qa,ca⟩]
abbrev dlE (qb qc:Option Addr) (cb cc:Nat):List Dtm:=[⟨0,0,⟨wD0,qb,cb⟩⟩,⟨0,1,⟨wD1,qc,cc⟩⟩]
theorem evP:prtF (exM n1 n2 n3) (wsE qa ca) [reS]=([(0,0,wD0),(0,1,wD1)],0):=by
 rw[prt_all (fun i hi _=>by
  have:i=0:=by simpa using hi
  subst this;show (buildF leastF reS).2=0;rw[evB])]
 have h1:prtA (exM n1 n2 n3) (wsE qa ca) [reS] 1=prtW (exM n1 n2 n3) wA reS 0 2:=by rw[prtA_succ];rfl
 have h2:prtW (exM n1 n2 n3) wA reS 0 2=[(0,0,wD0),(0,1,wD1)]:=by
  rw[prtW_yes (k:=1) (by rw[show ((1:Nat):Int)=1 from rfl,evD1]),prtW_yes (k:=0) (by rw[show ((0:Nat):Int)=0 from rfl,evD0]),prtW_zero];rw[show ((1:Nat):Int)=1 from rfl,show ((0:Nat):Int)=0 from rfl,evD0,evD1]
  rfl
 rw[show (wsE qa ca).length=1 from rfl,h1,h2]
 rfl
theorem evA1:asgRes exLinksT 1 [wD0,wD1]=([1,1],0):=by kernel_rfl
theorem evA2:gasg (fun D=>agrP exLinksT (wsE qa ca) (dlE qb qc cb cc) D) 1 1 ([1,1],0)=([2],[1,1],0):=by kernel_rfl
theorem evR:grgt (agrP exLinksT (wsE qa ca) (dlE qb qc cb cc) [1,1]) 1 (rgtF exLinksT [] [wD0,wD1] [1,1]) [2] [1,1]=true:=by kernel_rfl
theorem evR3:grgt (agrP exLinksT (wsE qa ca) [⟨0,0,⟨wD0,qb,cb⟩⟩] [1]) 1 (rgtF exLinksT [] [wD0] [1]) [2] [1]=true:=by kernel_rfl
theorem evU1:usedF [2,1,1]=[1,2]:=by
 refine Hg (usedTo_incr _ _) qde fun x=> ?_
 unfold usedF;rw[usedTo_mem];simp only[List.mem_cons,List.not_mem_nil,or_false];omega
theorem evU2:usedF [2,1]=[1,2]:=by
 refine Hg (usedTo_incr _ _) qde fun x=> ?_
 unfold usedF;rw[usedTo_mem];simp only[List.mem_cons,List.not_mem_nil,or_false];omega
abbrev tabE:List (List RuX):=[[(100,1, -1,[⟨2,0,2,0⟩]),(99,2, -1,[⟨0,0,0,0⟩,⟨2,65535,2,1⟩])],[(100,1, -1,[⟨4,0,4,0⟩]),(99,2, -1,[⟨1,0,1,0⟩,⟨4,65535,4,1⟩])],[(100,1, -1,[⟨3,0,3,0⟩])],[(100,1, -1,[⟨-1,65535,10001,0⟩]),(99,2, -1,[⟨-1,65535,10001,0⟩])]]
abbrev tabE2:List (List RuX):=[[(100,1, -1,[⟨2,0,2,0⟩]),(99,2, -1,[⟨0,0,0,0⟩,⟨2,65535,2,1⟩])],[(100,2, -1,[⟨1,0,1,0⟩])],[(100,1, -1,[⟨3,0,3,0⟩])],[(100,1, -1,[⟨-1,65535,10001,0⟩]),(99,2, -1,[⟨-1,65535,10001,0⟩])]]
theorem evG:grulF (exM n1 n2 n3) (wsE qa ca) (dlE qb qc cb cc) [2] [1,1] 100=(tabE,0):=by
 unfold grulF;rw[show [(2:Int)]++[1,1]=[2,1,1] from rfl,evU1]
 kernel_rfl
theorem evG2:grulF (exM n1 n2 n3) (wsE qa ca) [⟨0,0,⟨wD0,qb,cb⟩⟩] [2] [1] 100=(tabE2,0):=by
 unfold grulF;rw[show [(2:Int)]++[1]=[2,1] from rfl,evU2]
 kernel_rfl
theorem evFo {ts:List Tl}(h:tlC ts=tabE):∃ j,folF exLinksT ts (upI [1]) 100 [] [] 0 (hdM 0 2)=some j/\j.links=[0,4,3]/\j.node=3/\j.arr=true/\encHd j.head=encHd (hdM 10001 0):=by
 rw[H3 (h.trans (Kc tabE).symm)];have h1:(folF exLinksT (tlX tabE) (upI [1]) 100 [] [] 0 (hdM 0 2)).isSome=true:=by kernel_rfl
 obtain⟨j,hj⟩:=Option.isSome_iff_exists.1 h1;have h2:∀ {α:Type} (f:Jr->α),f j=f ((folF exLinksT (tlX tabE) (upI [1]) 100 [] [] 0 (hdM 0 2)).getD default):=fun f=>by rw[hj];rfl
 refine⟨j,hj,?_,?_,?_,?_⟩
 ·rw[h2 Jr.links];kernel_rfl
 ·rw[h2 Jr.node];kernel_rfl
 ·rw[h2 Jr.arr];kernel_rfl
 ·rw[h2 fun j=>encHd j.head];kernel_rfl
theorem evLo {T:List (List RuX)}(hT:T=tabE\/T=tabE2){ts:List Tl}(h:tlC ts=T):∀ k:Nat,k<6->∃ j,folF exLinksT ts (upI [(k:Int)]) 100 [] [] 0 (hdM 0 2)=some j:=fun k hk=>by
 rw[H3 (h.trans (Kc T).symm)];have a1:∀ k:Nat,k<6->(folF exLinksT (tlX tabE) (upI [(k:Int)]) 100 [] [] 0 (hdM 0 2)).isSome=true:=by decide+kernel
 have a2:∀ k:Nat,k<6->(folF exLinksT (tlX tabE2) (upI [(k:Int)]) 100 [] [] 0 (hdM 0 2)).isSome=true:=by decide+kernel
 rcases hT with rfl|rfl
 ·exact Option.isSome_iff_exists.1 (a1 k hk)
 ·exact Option.isSome_iff_exists.1 (a2 k hk)
theorem lst_congr {n:Nm}{ts ts':List Tl}(h:tlC ts=tlC ts')(F:Nat)(w:Way)(t:Int)(k:Nat):lstF n ts F w t k=lstF n ts' F w t k:=by
 unfold lstF lstJ;simp only[H3 h]
theorem evL1 {ts:List Tl}(h:tlC ts=tabE):lstF (exM n1 n2 n3) ts 100 wA 2 6=[]:=by
 rw[lst_congr (h.trans (Kc tabE).symm)]
 kernel_rfl
theorem evL2 {ts:List Tl}(h:tlC ts=tabE2):lstF (exM n1 n2 n3) ts 100 wA 2 6=[1]:=by
 rw[lst_congr (h.trans (Kc tabE2).symm)]
 kernel_rfl
end
theorem exD0:ExW wD0:=⟨by decide+kernel,inr_all (by decide+kernel),by decide+kernel,by decide+kernel⟩
theorem exD1:ExW wD1:=⟨by decide+kernel,inr_all (by decide+kernel),by decide+kernel,by decide+kernel⟩
section
variable {n1 n2 n3:Nat} {qa qb qc:Option Addr} {ca cb cc:Nat}
theorem ex_dw {w:Way}(h:ExW w)(hw:(walkF exLinksT w.src w.links).2=true):DwOk (exM n1 n2 n3) w:=⟨ex_okT,of_decide_eq_true U,of_decide_eq_true U,h.inr,h.at',by have:=h.len;omega,hw⟩
theorem Jv:DwOk (exM n1 n2 n3) wA:=ex_dw exA (by decide+kernel)
theorem ex_gwA:Gw (exM n1 n2 n3) (wsE qa ca):=ex_gw fun m hm=>by rw[List.mem_singleton.1 hm];exact exA
theorem ex_in2:DtIn exLinksT (wsE qa ca) (dlE qb qc cb cc) where
 w:=fun d hd=>by
  rcases List.mem_cons.1 hd with rfl|hd
  ·exact⟨of_decide_eq_true U,of_decide_eq_true U⟩
  ·rw[List.mem_singleton.1 hd];exact⟨of_decide_eq_true U,of_decide_eq_true U⟩
 p:=fun d hd=>by
  rcases List.mem_cons.1 hd with rfl|hd
  ·exact⟨of_decide_eq_true U,of_decide_eq_true U⟩
  ·rw[List.mem_singleton.1 hd];exact⟨of_decide_eq_true U,of_decide_eq_true U⟩
 inc:=fun i j h1 h2=>by
  have h2:j<2:=h2;have e1:i=0:=by omega
  have e2:j=1:=by omega
  subst e1 e2;exact .inr ⟨rfl,of_decide_eq_true U⟩
theorem ex_in1:DtIn exLinksT (wsE qa ca) [⟨0,0,⟨wD0,qb,cb⟩⟩] where
 w:=fun d hd=>by rw[List.mem_singleton.1 hd];exact⟨of_decide_eq_true U,of_decide_eq_true U⟩
 p:=fun d hd=>by rw[List.mem_singleton.1 hd];exact⟨of_decide_eq_true U,of_decide_eq_true U⟩
 inc:=fun i j h1 h2=>by
  have h2:j<1:=h2;omega
theorem K6:GpOk (exM n1 n2 n3) (wsE qa ca) (dlE qb qc cb cc):=
 ⟨ex_in2,ex_gwA,ex_gw (ex_two (m1:=⟨wD0,qb,cb⟩) (m2:=⟨wD1,qc,cc⟩) exD0 exD1),of_decide_eq_true U,of_decide_eq_true U,fun m hm=>by rw[List.mem_singleton.1 hm];exact of_decide_eq_true U⟩
theorem ex_gp1:GpOk (exM n1 n2 n3) (wsE qa ca) [⟨0,0,⟨wD0,qb,cb⟩⟩]:=
 ⟨ex_in1,ex_gwA,ex_gw (l:=[⟨wD0,qb,cb⟩]) (fun m hm=>by rw[List.mem_singleton.1 hm];exact exD0),of_decide_eq_true U,of_decide_eq_true U,fun m hm=>by rw[List.mem_singleton.1 hm];exact of_decide_eq_true U⟩
theorem one0:oneF (exM n1 n2 n3) 0 wD0=0:=by kernel_rfl
theorem one1:oneF (exM n1 n2 n3) 0 wD1=0:=by kernel_rfl
theorem dn0:dnode exLinksT (wsE qa ca) ⟨0,0,⟨wD0,qb,cb⟩⟩=0:=by kernel_rfl
theorem dn1:dnode exLinksT (wsE qa ca) ⟨0,1,⟨wD1,qc,cc⟩⟩=1:=by kernel_rfl
theorem ex_rt2:DtRt (exM n1 n2 n3) 0 (wsE qa ca) (dlE qb qc cb cc):=by
 have key:∀ {Q:Dtm->Prop},Q ⟨0,0,⟨wD0,qb,cb⟩⟩->Q ⟨0,1,⟨wD1,qc,cc⟩⟩->∀ d∈dlE qb qc cb cc,Q d:=fun h1 h2 d hd=>by
  rcases List.mem_cons.1 hd with rfl|hd
  ·exact h1
  ·rw[List.mem_singleton.1 hd];exact h2
 exact⟨key one0 one1,key (of_decide_eq_true U) (of_decide_eq_true U),key dn0.symm dn1.symm,key (Q:=fun d=>(walkF exLinksT d.m.way.src d.m.way.links).1=(walkF exLinksT (gd (wsE qa ca) d.way.toNat).way.src (gd (wsE qa ca) d.way.toNat).way.links).1) (of_decide_eq_true qkr) (of_decide_eq_true qkr),key U U,key U U,key U U,key (of_decide_eq_true U) (of_decide_eq_true U)⟩
theorem ex_rt1:DtRt (exM n1 n2 n3) 0 (wsE qa ca) [⟨0,0,⟨wD0,qb,cb⟩⟩]:=by
 have key:∀ {Q:Dtm->Prop},Q ⟨0,0,⟨wD0,qb,cb⟩⟩->∀ d∈[(⟨0,0,⟨wD0,qb,cb⟩⟩:Dtm)],Q d:=fun h1 d hd=>by
  rw[List.mem_singleton.1 hd];exact h1
 exact⟨key one0,key (of_decide_eq_true U),key dn0.symm,key (Q:=fun d=>(walkF exLinksT d.m.way.src d.m.way.links).1=(walkF exLinksT (gd (wsE qa ca) d.way.toNat).way.src (gd (wsE qa ca) d.way.toNat).way.links).1) (of_decide_eq_true qkr),key U,key U,key U,key (of_decide_eq_true U)⟩
theorem ex_gr2:GrOk (exM n1 n2 n3) (wsE qa ca) (dlE qb qc cb cc) [2] [1,1]:=grgt_ok (K6 (qa:=qa) (ca:=ca)).gd evR
theorem ex_gr1:GrOk (exM n1 n2 n3) (wsE qa ca) [⟨0,0,⟨wD0,qb,cb⟩⟩] [2] [1]:=grgt_ok (ex_gp1 (qa:=qa) (ca:=ca)).gd evR3
variable {w0:World} {H:List (Nat × Obj)}
theorem Lc (n:Nm)(hn:NetM w0 H n)(m:Wm)(hm:WayM w0 H m)(hw:DwOk n m.way)(mx:Rxm)(e:Re)(hx:RxA w0 H mx e)(place:Int){r:Way}{c:Int}(h:dtrW n m.way e place=(r,c)):
  FSpec prog w0 25 #[.agg (encNm n).toArray, .agg (encW m).toArray, .agg (encRx mx).toArray, .int .i64 place] H (fun v H'=>∃ (q:Option Addr) (k:Nat) (M:List (Nat × Obj)),(v= .tuple #[.agg (encW ⟨r,q,k⟩).toArray, .int .i64 c]/\∀ X,IntArr w0 (M++X) q r.links)/\H'=M++H):=by
 have hd:=detour_g n hn m hm hw mx e hx place;rw[h] at hd;refine hd.mono ?_;rintro v H' ⟨⟨y,q,k⟩,M,⟨h1,h2,h3⟩,h4⟩;simp only[] at h2 h3;subst h2;exact⟨q,k,M,⟨h1,h3⟩,h4⟩
theorem Jw {x:List Int}{q q2:Option Addr}{c c2:Nat}(hx:Arr w0 H q 1 encI x)(hy:Arr w0 H q2 1 encI x)(hl:x.length<=1000):
  FSpec prog w0 17 #[.slice q x.length c, .slice q2 x.length c2] H (Still (.bool true) H):=
 still_b (by simp) (sameInts_s q q2 c c2 x x hx hy qom)
theorem prot_e (hn:NetM w0 H (exM n1 n2 n3))(qw:Option Addr)(cw:Nat)(hw:WaysM w0 H qw (wsE qa ca))(mx:Rxm)(qr:Option Addr)(cr:Nat)(hA:Arr w0 H qr 3 encRx [mx])(hx:RxA w0 H mx reS)(hf:FmOk mx/\mx.sz<=200/\mx.dp<=20)(hW:Arr w0 [] (some ⟨0,0,none⟩) 1 encS wordsL):
  FSpec prog w0 11 #[.agg (encNm (exM n1 n2 n3)).toArray, .slice qw 1 cw, .slice qr 1 cr] H (fun v H'=>∃ (d:Sl) (qb qc:Option Addr) (cb cc:Nat) (M:List (Nat × Obj)),(v= .tuple #[slV d 2, .int .i64 0]/\SlOk d 2 7/\(∀ X,IntArr w0 (M++X) qb [2,3])/\∀ X,IntArr w0 (M++X) qc [4,3])/\H'=slH d ((dlE qb qc cb cc).flatMap encDt) 93++(M++H)):=by
 have h:=protect_g (exM n1 n2 n3) hn (wsE qa ca) qw cw hw (fun m hm=>by rw[List.mem_singleton.1 hm];exact Jv) (of_decide_eq_true U) [mx] qr cr hA [reS] ⟨rfl,fun i hi=>by
  have:i=0:=by simpa using hi
  subst this;exact hx,fun i hi=>by
  have:i=0:=by simpa using hi
  subst this;exact hf⟩ rfl hW
 rw[evP] at h;refine h.mono ?_;rintro v H' ⟨d,l,e,M,⟨h1,h2,h3,h4⟩,h5⟩;obtain⟨k1,k2⟩:=Prod.mk.inj h2;subst k2
 match l,k1 with
 |[⟨a1,a2,⟨a3,qb,cb⟩⟩,⟨b1,b2,⟨b3,qc,cc⟩⟩],k1=>
  simp only[List.map_cons,List.map_nil,dkey,List.cons.injEq,Prod.mk.injEq,and_true] at k1;obtain⟨⟨rfl,rfl,rfl⟩,rfl,rfl,rfl⟩:=k1;exact⟨d,qb,qc,cb,cc,M,⟨h1,h3,fun X=>h4 ⟨0,0,⟨wD0,qb,cb⟩⟩ List.mem_cons_self X,fun X=>h4 ⟨0,1,⟨wD1,qc,cc⟩⟩ (List.mem_cons_of_mem _ List.mem_cons_self) X⟩,h5⟩
theorem ex_gpm (hn:NetM w0 H (exM n1 n2 n3)){qw ql:Option Addr}(hw:WaysM w0 H qw (wsE qa ca))(hl:Arr w0 H ql 7 encDt (dlE qb qc cb cc))(h1:IntArr w0 H qb [2,3])(h2:IntArr w0 H qc [4,3]):GpM w0 H (exM n1 n2 n3) (wsE qa ca) qw (dlE qb qc cb cc) ql:=
 ⟨hn,hw,fun x hx=>by
  rcases List.mem_cons.1 hx with rfl|hx
  ·exact⟨h1,of_decide_eq_true U,of_decide_eq_true U⟩
  ·rw[List.mem_singleton.1 hx];exact⟨h2,of_decide_eq_true U,of_decide_eq_true U⟩,hl⟩
theorem asg_e {qw ql:Option Addr}(cw cl:Nat)(hM:GpM w0 H (exM n1 n2 n3) (wsE qa ca) qw (dlE qb qc cb cc) ql):
  FSpec prog w0 15 #[.agg (encNm (exM n1 n2 n3)).toArray, .slice qw 1 cw, .slice ql 2 cl, .int .i64 1] H (fun v H'=>∃ d1 d2:Sl,(v= .tuple #[slV d1 1,slV d2 2, .int .i64 0]/\SlOk d1 1 1/\SlOk d2 2 1)/\H'=slH d1 ([(2:Int)].flatMap encI) 3++(slH d2 ([(1:Int),1].flatMap encI) 3++H)):=by
 have h:=assign_g (exM n1 n2 n3) (wsE qa ca) qw cw (dlE qb qc cb cc) ql cl hM K6 1;refine h.mono ?_;rintro v H' ⟨⟨d1,d2,t,dt,e⟩,⟨h1,h2,h3,h4⟩,h5⟩;have h6:gasg (fun D=>agrP exLinksT (wsE qa ca) (dlE qb qc cb cc) D) 1 1 ([1,1],0)=(t,dt,e):=by rw[<- evA1];exact h4
 rw[evA2] at h6;obtain⟨rfl,k2⟩:=Prod.mk.inj h6;obtain⟨rfl,rfl⟩:=Prod.mk.inj k2;exact⟨d1,d2,⟨h1,h2,h3⟩,h5⟩
theorem right_e {qw ql:Option Addr}(cw cl:Nat)(hM:GpM w0 H (exM n1 n2 n3) (wsE qa ca) qw (dlE qb qc cb cc) ql){q1 q2:Option Addr}(c1 c2:Nat)(hc:1<=c1)(h1:Arr w0 H q1 1 encI [2])(h2:Arr w0 H q2 1 encI [1,1]):
  FSpec prog w0 18 #[.agg (encNm (exM n1 n2 n3)).toArray, .slice qw 1 cw, .slice ql 2 cl, .slice q1 1 c1, .slice q2 2 c2] H (Still (.bool true) H):=
 still_b evR (right_g (exM n1 n2 n3) (wsE qa ca) qw cw (dlE qb qc cb cc) ql cl hM K6 [2] q1 c1 h1 (of_decide_eq_true U) hc [1,1] q2 c2 h2 (of_decide_eq_true U))
theorem rules_e {l:List Dtm}{dt:List Int}{T:List (List RuX)}(ho:GpOk (exM n1 n2 n3) (wsE qa ca) l)(hr:DtRt (exM n1 n2 n3) 0 (wsE qa ca) l)(hg:GrOk (exM n1 n2 n3) (wsE qa ca) l [2] dt)(he:grulF (exM n1 n2 n3) (wsE qa ca) l [2] dt 100=(T,0))(hs:∀ x∈l,x.m.way.links.length+1<=100){qw ql:Option Addr}(cw cl:Nat)(hM:GpM w0 H (exM n1 n2 n3) (wsE qa ca) qw l ql){q1 q2:Option Addr}(c1 c2:Nat)(h1:Arr w0 H q1 1 encI [2])(h2:Arr w0 H q2 1 encI dt):
  FSpec prog w0 21 #[.agg (encNm (exM n1 n2 n3)).toArray, .slice qw 1 cw, .slice ql l.length cl, .slice q1 1 c1, .slice q2 dt.length c2, .int .i64 100] H (fun v H'=>∃ (q:Option Addr) (c:Nat) (tl:List Tl) (M:List (Nat × Obj)),(v= .tuple #[.slice q tl.length c, .int .i64 0]/\(∀ X,TlsM w0 (M++X) q tl)/\tlC tl=T)/\H'=M++H):=by
 have h:=rules_g (exM n1 n2 n3) (wsE qa ca) qw cw l ql cl hM ho 0 hr [2] q1 c1 h1 dt q2 c2 h2 hg (of_decide_eq_true U) (fun m hm=>by rw[List.mem_singleton.1 hm];exact of_decide_eq_true U) hs 100;rw[he] at h;refine h.mono ?_;rintro v H' ⟨q,c,tl,e,M,⟨h1,h2,h3⟩,h4⟩;obtain⟨k1,k2⟩:=Prod.mk.inj h3;subst k2;exact⟨q,c,tl,M,⟨h1,h2,k1⟩,h4⟩
theorem tl_len {tl:List Tl}{T:List (List RuX)}(h:tlC tl=T)(hT:T.length=4):tl.length=4:=by
 have:=congrArg List.length h;rw[List.length_map] at this;omega
theorem fol_e (hn:NetM w0 H (exM n1 n2 n3)){q:Option Addr}(c:Nat){tl:List Tl}(hT:TlsM w0 H q tl)(ht:tlC tl=tabE){qf:Option Addr}(cf:Nat)(hf:Arr w0 H qf 1 encI [1]):
  FSpec prog w0 35 #[.agg (encNm (exM n1 n2 n3)).toArray, .agg #[.slice qf 1 cf, .int .i64 (-1)], .slice q tl.length c, .int .i64 0, .agg (encHd (hdM 0 2)).toArray] H (fun v H'=>∃ (d:Sl) (st:Int) (lp:Bool),(v= .agg (([slV d 3, .int .i64 3, .int .i64 st]:List Value)++encHd (hdM 10001 0)++([.bool true, .bool lp]:List Value)).toArray/\SlOk d 3 1)/\H'=slH d ([(0:Int),4,3].flatMap encI) 3++H):=by
 obtain⟨j,h1,h2,h3,h4,h5⟩:=evFo ht;have h:=Jj (exM n1 n2 n3) hn ex_okT [1] qf cf hf (of_decide_eq_true U) tl q c hT (tl_len ht U) (tlB_ok (by rw[ht];kernel_rfl)) 0 ⟨of_decide_eq_true U,of_decide_eq_true U⟩ (hdM 0 2) (Lk (of_decide_eq_true U) (of_decide_eq_true U)) 100 (of_decide_eq_true U) j h1;refine h.mono ?_;rintro v H' ⟨d,⟨k1,k2⟩,k3⟩;refine⟨d,j.step,j.loop,⟨?_,by rw[h2] at k2;exact k2⟩,by rw[h2] at k3;exact k3⟩;rw[k1];unfold encJ;rw[h2,h3,h4,h5]
 rfl
theorem lost_e (hn:NetM w0 H (exM n1 n2 n3)){qw:Option Addr}(cw:Nat)(hw:WaysM w0 H qw (wsE qa ca)){qg:Option Addr}(cg:Nat)(hG:Arr w0 H qg 1 encI [2]){q:Option Addr}(c:Nat){tl:List Tl}(hT:TlsM w0 H q tl){T:List (List RuX)}(hTT:T=tabE\/T=tabE2)(ht:tlC tl=T){L:List Nat}(hL:lstF (exM n1 n2 n3) tl 100 wA 2 6=L):
  FSpec prog w0 36 #[.agg (encNm (exM n1 n2 n3)).toArray, .slice qw 1 cw, .slice qg 1 cg, .slice q tl.length c] H (fun v H'=>∃ d e:Sl,(v=slV d 1/\SlOk d 1 1/\SlOk e L.length 1)/\H'=slH d [slV e L.length] 41++(slH e (L.flatMap encU) 3++H)):=by
 have h:=lost_g (exM n1 n2 n3) hn ex_okT (of_decide_eq_true rfl) (wsE qa ca) qw cw hw (of_decide_eq_true rfl) (fun m hm=>by rw[List.mem_singleton.1 hm];exact⟨of_decide_eq_true rfl,of_decide_eq_true rfl,of_decide_eq_true rfl⟩) [2] qg cg hG rfl (fun t ht=>by rw[List.mem_singleton.1 ht];exact of_decide_eq_true rfl) tl q c hT (tl_len ht (by rcases hTT with rfl|rfl<;>rfl)) (tlB_ok (by rw[ht];rcases hTT with rfl|rfl<;>kernel_rfl)) 100 (of_decide_eq_true rfl) (fun i hi k hk=>by
  have:i=0:=by simpa using hi
  subst this;exact evLo hTT ht k hk)
 refine h.mono ?_;rintro v H' ⟨d,rows,⟨k1,k2,k3,k4,k5⟩,k6⟩
 match rows,k4 with
 |[r],_=>
  have k7:r.l=L:=(k5 0 (of_decide_eq_true U)).trans hL;refine⟨d,r.d,⟨k1,k2,by rw[<- k7];exact k3 r (by simp)⟩,?_⟩;rw[k6,<- k7];simp[rowsM]
end
theorem Ka7 {a0:Int}(w:World):(Instr.build 32 #[(0, .int .i64 a0)]).run prog w= .ok (.agg #[.int .i64 a0, .string ⟨#[]⟩, .slice none 0 0]) w:=by kernel_rfl
theorem Ka8 (a0:Int)(a1:ByteArray)(w:World):(Instr.build 32 #[(0, .int .i64 a0),(1, .string a1)]).run prog w= .ok (.agg #[.int .i64 a0, .string a1, .slice none 0 0]) w:=by kernel_rfl
theorem Ka9 (a0:Int)(a1:Option Addr)(a1n a1c:Nat)(w:World):(Instr.build 32 #[(0, .int .i64 a0),(2, .slice a1 a1n a1c)]).run prog w= .ok (.agg #[.int .i64 a0, .string ⟨#[]⟩, .slice a1 a1n a1c]) w:=by kernel_rfl
theorem Kb0 (a0:Int)(a1:Option Addr)(a1n a1c:Nat)(a2:Int)(a3:Int)(w:World):(Instr.build 59 #[(0, .int .i64 a0),(1, .slice a1 a1n a1c),(2, .int .i64 a2),(4, .int .i64 a3)]).run prog w= .ok (.agg #[.int .i64 a0, .slice a1 a1n a1c, .int .i64 a2, .int .i64 0, .int .i64 a3]) w:=by kernel_rfl
theorem Kb1 {a0:Int}(w:World):(Instr.build 74 #[(0, .int .i64 a0)]).run prog w= .ok (.agg #[.int .i64 a0, .int .i64 0, .int .i64 0, .int .i64 0, .int .i64 0, .int .i64 0, .int .i64 0, .int .i64 0, .int .i64 0, .int .i64 0]) w:=by kernel_rfl
theorem Kb9 (a0:Int)(a1:ByteArray)(a2:Option Addr)(a2n a2c:Nat)(w:World):(Instr.buildSlice 28 1 #[(0, .agg #[.int .i64 a0, .string a1, .slice a2 a2n a2c])]).run prog w= .ok (.slice (some ⟨w.heap.size,0,none⟩) 1 1) (w.alloc (Cl [.int .i64 a0, .string a1, .slice a2 a2n a2c] 32)):=by kernel_rfl
theorem Kc0 (a0:Int)(a1:ByteArray)(a2:Option Addr)(a2n a2c:Nat)(a3:Int)(a4:ByteArray)(a5:Option Addr)(a5n a5c:Nat)(w:World):(Instr.buildSlice 28 2 #[(0, .agg #[.int .i64 a0, .string a1, .slice a2 a2n a2c]),(1, .agg #[.int .i64 a3, .string a4, .slice a5 a5n a5c])]).run prog w= .ok (.slice (some ⟨w.heap.size,0,none⟩) 2 2) (w.alloc (Cl [.int .i64 a0, .string a1, .slice a2 a2n a2c, .int .i64 a3, .string a4, .slice a5 a5n a5c] 32)):=by kernel_rfl
theorem Fo (a0:Int)(a1:Int)(w:World):(Instr.buildSlice 41 2 #[(0, .int .i64 a0),(1, .int .i64 a1)]).run prog w= .ok (.slice (some ⟨w.heap.size,0,none⟩) 2 2) (w.alloc (Cl [.int .i64 a0, .int .i64 a1] 3)):=by kernel_rfl
theorem Kc2 (a0:Int)(a1:Int)(a2:Int)(w:World):(Instr.buildSlice 41 3 #[(0, .int .i64 a0),(1, .int .i64 a1),(2, .int .i64 a2)]).run prog w= .ok (.slice (some ⟨w.heap.size,0,none⟩) 3 3) (w.alloc (Cl [.int .i64 a0, .int .i64 a1, .int .i64 a2] 3)):=by kernel_rfl
abbrev mkS (b:Nat):Rxm:= .mk 6 ⟨#[]⟩ (some ⟨b,0,none⟩) 1 [.mk 3 ⟨#[]⟩ none 0 []]
abbrev mkN (s:ByteArray):Rxm:= .mk 2 s none 0 []
abbrev mkAB (n34 n31 b:Nat):Rxm:= .mk 4 ⟨#[]⟩ (some ⟨n34,0,none⟩) 2 [.mk 4 ⟨#[]⟩ (some ⟨n31,0,none⟩) 2 [mkN ⟨#[97]⟩,mkN ⟨#[98]⟩],mkS b]
theorem arr_nilG {α:Type}{w0:World}{H:List (Nat × Obj)}{q:Option Addr}{sz:Nat}{enc:α->List Value}:Arr w0 H q sz enc []:=fun _ _ h=>by cases h
theorem rxS {w0:World}{H:List (Nat × Obj)}{b:Nat}(h:Fnd H b (Cl [.int .i64 3, .string ⟨#[]⟩, .slice none 0 0] 32)):RxA w0 H (mkS b) reS:=
 ⟨.star .any, .mk (Cq (fun _=>rfl) U h) (fun a ha=>by rw[List.mem_singleton.1 ha];exact .mk arr_nilG (fun a ha=>by cases ha) qde qde) qde qde,by decide⟩
theorem rxN {w0:World}{H:List (Nat × Obj)}{s:ByteArray}(hs:s.size<=1):RxM w0 H (mkN s):= .mk arr_nilG (fun a ha=>by cases ha) qom qde
theorem rxAB {w0:World}{H:List (Nat × Obj)}{n34 n31 b:Nat}(h:Fnd H b (Cl [.int .i64 3, .string ⟨#[]⟩, .slice none 0 0] 32))(h2:Fnd H n31 (Cl ([mkN ⟨#[97]⟩,mkN ⟨#[98]⟩].flatMap encRx) 32))(h3:Fnd H n34 (Cl (encRx (.mk 4 ⟨#[]⟩ (some ⟨n31,0,none⟩) 2 [mkN ⟨#[97]⟩,mkN ⟨#[98]⟩])++encRx (mkS b)) 32)):RxA w0 H (mkAB n34 n31 b) reAB:=by
 refine⟨.seq (.seq (.nod qde) (.nod qde)) (.star .any), .mk (Cq (fun _=>rfl) (by simp) h3) (fun a ha=> ?_) qde (of_decide_eq_true U),by decide⟩;rcases List.mem_cons.1 ha with rfl|ha
 ·refine .mk (Cq (fun _=>rfl) U h2) (fun a ha=> ?_) qde qde;rcases List.mem_cons.1 ha with rfl|ha
  ·exact rxN qde
  ·rw[List.mem_singleton.1 ha];exact rxN qde
 ·rw[List.mem_singleton.1 ha];exact(rxS h).m
theorem fmSom (b:Nat):FmOk (mkS b)/\(mkS b).sz<=200/\(mkS b).dp<=20:=⟨⟨reS, .star .any,trivial⟩,by simp[Rxm.sz,szL],by simp[Rxm.dp,dpL]⟩
theorem Gl {w0:World}{H:List (Nat × Obj)}{n25 n92:Nat}(h1:Fnd H n25 (Cl [.int .i64 0, .int .i64 1] 3))(h2:Fnd H n92 (Cl (encW ⟨wA,some ⟨n25,0,none⟩,2⟩) 59)):WaysM w0 H (some ⟨n92,0,none⟩) (wsE (some ⟨n25,0,none⟩) 2):=
 ⟨Cq (fun _=>rfl) (by simp) h2,fun m hm=>by rw[List.mem_singleton.1 hm];exact⟨Cq (fun _=>rfl) U h1,by simp,by simp⟩,by simp⟩
theorem ex_sh2 {qb qc:Option Addr}{cb cc:Nat}:∀ x∈dlE qb qc cb cc,x.m.way.links.length+1<=100:=fun x hx=>by
 rcases List.mem_cons.1 hx with rfl|hx
 ·exact of_decide_eq_true U
 ·rw[List.mem_singleton.1 hx];exact of_decide_eq_true U
theorem ex_sh1 {qb:Option Addr}{cb:Nat}:∀ x∈[(⟨0,0,⟨wD0,qb,cb⟩⟩:Dtm)],x.m.way.links.length+1<=100:=fun x hx=>by
 rw[List.mem_singleton.1 hx];exact of_decide_eq_true U
theorem ex_gpm1 {w0:World}{H:List (Nat × Obj)}{n1 n2 n3:Nat}{qa qb:Option Addr}{ca cb:Nat}(hn:NetM w0 H (exM n1 n2 n3)){qw ql:Option Addr}(hw:WaysM w0 H qw (wsE qa ca))(hl:Arr w0 H ql 7 encDt [⟨0,0,⟨wD0,qb,cb⟩⟩])(h1:IntArr w0 H qb [2,3]):GpM w0 H (exM n1 n2 n3) (wsE qa ca) qw [⟨0,0,⟨wD0,qb,cb⟩⟩] ql:=
 ⟨hn,hw,fun x hx=>by rw[List.mem_singleton.1 hx];exact⟨h1,of_decide_eq_true U,of_decide_eq_true U⟩,hl⟩
theorem yl_eqHdT {w0:World}{L:Fm}{H:List (Nat × Obj)}{ty yt:TypeId}{x y:Operand}{h:Nat->Int}(hx:Ev L x (.agg (encHd h).toArray))(hy:Ev L y (.agg (encHd h).toArray)):Yl prog w0 (.binOp .eql 74 x y yt) ty L H (.bool true):=B3 U fun b' w=>by
 have e:(Op.equal 74 (.agg (encHd h).toArray) (.agg (encHd h).toArray)).run prog w= .ok true w:=by
  have h1:=eqHd 9998 [h 0,h 1,h 2,h 3,h 4,h 5,h 6,h 7,h 8,h 9] [h 0,h 1,h 2,h 3,h 4,h 5,h 6,h 7,h 8,h 9] rfl U w;rw[decide_eq_true rfl] at h1;exact h1
 have e2:=eqGuardType74;simp[exO,execOp,hx b',hy b',binOp,eqGuard,Sem.run_bind,Result.andThen,e,e2]
theorem node_g {w0:World}{H:List (Nat × Obj)}(s:ByteArray):
  FSpec prog w0 42 #[.string s] H (Still (.agg #[.int .i64 2, .string s, .slice none 0 0]) H):=by
 refine Az func42 U ntmps42 U (rD tb 2 U (e_ (Ap zeroValue32 cs_) ?_ U));rintro _ _ ⟨n2,rfl,rfl⟩;refine rO tb 5 U (y_ (Bg (.cons An (.cons (T U) .nil)) (Ka8 _ _)) ?_ U)
 first|refine A9 (Ls U U sizeOf32) U Ac ?_
 rintro _ _ ⟨rfl,rfl⟩;refine rO tb 3 U (As U (.cellA (Aa U) isAgg32 sizeOf32 U (by first|exact A2) .nil) ?_);exact⟨_,⟨rfl,rfl⟩,sbt⟩
theorem K7 {w0:World}{H:List (Nat × Obj)}  :
  FSpec prog w0 43 #[] H (fun v H'=>∃ b:Nat,v= .agg #[.int .i64 6, .string ⟨#[]⟩, .slice (some ⟨b,0,none⟩) 1 1]/\H'=(b,Cl [.int .i64 3, .string ⟨#[]⟩, .slice none 0 0] 32)::H):=by
 refine Az func43 U ntmps43 U (rD tb 2 U (e_ (Ap zeroValue32 cs_) ?_ U));rintro _ _ ⟨n0,rfl,rfl⟩;refine rO tb 4 U (y_ (Bg (.cons An .nil) (Ka7)) (e_ (A7 (.cons (T U) .nil) (Kb9 _ _ _ _ _)) ?_ U) U);rintro _ _ ⟨n2,rfl,rfl⟩;refine y_ (Bg (.cons An (.cons (T U) .nil)) (Ka9 _ _ _ _)) ?_ U
 first|refine A9 (Ls U U sizeOf32) U Ac ?_
 rintro _ _ ⟨rfl,rfl⟩;refine rO tb 3 U (As U (.cellA (Aa U) isAgg32 sizeOf32 U (by first|exact A2) .nil) ?_);exact⟨_,⟨n2,rfl,rfl⟩,sbt⟩
theorem G3 {w0:World}{H:List (Nat × Obj)}(hW:Arr w0 [] (some ⟨0,0,none⟩) 1 encS wordsL):
  FSpec prog w0 9 #[] H (Still (.bool true) H):=by
 refine Az func9 U ntmps9 U (rD tb 7 U (e_ (A1 .nil call41 (example_s)) ?_ U));rintro _ _ ⟨⟨x1,x2,x3⟩,rfl,rfl⟩;refine e_ (Ap zeroValue26 cs_) ?_ U;rintro _ _ ⟨n1,rfl,rfl⟩
 first|refine A9 (Ls U U sizeOf26) U Ac ?_
 rintro _ _ ⟨rfl,rfl⟩;refine rO tb 4 U (e_ (A7 (.cons An (.cons An .nil)) (Fo _ _)) ?_ U);rintro _ _ ⟨n25,rfl,rfl⟩;refine y_ (Bg (.cons An (.cons (T U) (.cons An (.cons An .nil)))) (Kb0 _ _ _ _ _ _)) (e_ (Ap zeroValue59 cs_) ?_ U) U;rintro _ _ ⟨n2,rfl,rfl⟩
 first|refine A9 (Ls U U sizeOf59) U Ac ?_
 rintro _ _ ⟨rfl,rfl⟩;refine rO tb 10 U (y_ (C1 (T U) (.cons An .nil) call42 (fun H' hs=>node_g _)) (rO tb 1 U (y_ (C1 (T U) (.cons An .nil) call42 (fun H' hs=>node_g _)) (e_ (A7 (.cons (T U) (.cons (T U) .nil)) (Kc0 _ _ _ _ _ _ _ _ _ _)) ?_ U) U)) U);rintro _ _ ⟨n31,rfl,rfl⟩;refine y_ (Bg (.cons An (.cons (T U) .nil)) (Ka9 _ _ _ _)) (e_ (A1 .nil call43 (K7)) ?_ U) U;rintro _ _ ⟨b33,rfl,rfl⟩;refine e_ (A7 (.cons (T U) (.cons (T U) .nil)) (Kc0 _ _ _ _ _ _ _ _ _ _)) ?_ U;rintro _ _ ⟨n34,rfl,rfl⟩;refine y_ (Bg (.cons An (.cons (T U) .nil)) (Ka9 _ _ _ _)) (e_ (Ap zeroValue32 cs_) ?_ U) U;rintro _ _ ⟨n4,rfl,rfl⟩
 first|refine A9 (Ls U U sizeOf32) U Ac ?_
 rintro _ _ ⟨rfl,rfl⟩;refine rO tb 2 U ?_;refine Fp (X:=Nat × Nat × Option Addr × Nat × List (Nat × Obj)) (V:=fun ⟨b5,b39,qA,kA,MA⟩=>[(5,Pt b5 0),(6, .int .i64 0)]) (C:=[(1,_),(2,_),(4,_)]) (G:=fun ⟨b5,b39,qA,kA,MA⟩=>(b5,Cl (encW ⟨wD0,qA,kA⟩) 59)::(MA++((b39,Cl [.int .i64 3, .string ⟨#[]⟩, .slice none 0 0] 32)::((n4,Cl (encRx (mkAB n34 n31 b33)) 32)::(n34,Cl (encRx (.mk 4 ⟨#[]⟩ (some ⟨n31,0,none⟩) 2 [mkN ⟨#[97]⟩,mkN ⟨#[98]⟩])++encRx (mkS b33)) 32)::(b33,Cl [.int .i64 3, .string ⟨#[]⟩, .slice none 0 0] 32)::(n31,Cl ([mkN ⟨#[97]⟩,mkN ⟨#[98]⟩].flatMap encRx) 32)::(n2,Cl (encW (⟨wA,some ⟨n25,0,none⟩,2⟩:Wm)) 59)::(n25,Cl [.int .i64 0, .int .i64 1] 3)::((n1,Cl (encNm (exM x1 x2 x3)) 26)::(x3,Cl (exEdges.flatMap encE) 171)::(x2,Cl (exLinks.flatMap encLn) 95)::(x1,Cl (exK 4) 140)::H))))) (φ:=fun ⟨b5,b39,qA,kA,MA⟩=>∀ X,IntArr w0 (MA++X) qA [2,3]) (kg U) ?_ ?_
 ·refine rD tb 0 U (Gs 10 _ mixd qkr sb0 ?_ By);refine x_y (i:=0) U qkr (Lp U isAgg26 sizeOf26 U (by first|exact A2)) ?_ U Ac;refine x_y (i:=1) U qkr (Lp U isAgg59 sizeOf59 U (by first|exact A2)) ?_ U Ac;refine Dh (i:=2) (j:=7) qkr qkr ?_ ?_
  ·refine Ca U (A1 .nil call43 (K7)) ?_ U Ac;rintro _ _ ⟨b39,rfl,rfl⟩;refine⟨sbt,?_⟩;refine Dh (i:=3) (j:=7) qkr qkr ?_ ?_
   ·refine Ca U (A1 (.cons (T U) (.cons (T U) (.cons (T U) (.cons An .nil)))) call25 (Lc (exM x1 x2 x3) (show NetM w0 _ (exM x1 x2 x3) from Dr fdd fdd fdd) (⟨wA,some ⟨n25,0,none⟩,2⟩:Wm) (show WayM w0 _ (⟨wA,some ⟨n25,0,none⟩,2⟩:Wm) from ⟨Cq (fun _=>rfl) U (show Fnd _ n25 (Cl [.int .i64 0, .int .i64 1] 3) from fdd),by simp,by simp⟩) Jv (mkS b39) reS (rxS fdd) 0 evD0)) ?_ U Ac;rintro _ _ ⟨qA,kA,MA,⟨rfl,hA⟩,rfl⟩;refine⟨sbt,(x_y (i:=4) U qkr (Af (T U)) ?_ U Ac)⟩;refine x_y (i:=5) U qkr (Bx (T U) U) ?_ U Ac;refine x_y (i:=6) U qkr (Bx (T U) U) ?_ U Ac;refine Cn (i:=7) qkr qkr ?_;refine Ca U (Ap zeroValue59 cs_) ?_ U Ac;rintro _ _ ⟨n5,rfl,rfl⟩;refine⟨sbt,(Cn (i:=8) qkr qkr ?_)⟩
    first|refine Ca U (Ls U U sizeOf59) ?_ U Ac
    rintro _ _ ⟨rfl,rfl⟩;refine⟨sbt,(x_y (i:=9) U qkr (Ag (T U)) ?_ U Ac)⟩;refine Cv qkr U ?_;refine rO tb 1 U ?_
    first|(refine Be ((n5,b39,qA,kA,MA)) ?_ ⟨atd,atd,trivial⟩ (kg U) (List.Sublist.refl _))|(refine Bn List.perm_middle ?_;refine Be ((n5,b39,qA,kA,MA)) ?_ ⟨atd,atd,trivial⟩ (kg U) (List.Sublist.refl _))|(refine Bn ((List.Perm.append_left _ (List.Perm.swap _ _ _)).trans List.perm_middle) ?_;refine Be ((n5,b39,qA,kA,MA)) ?_ ⟨atd,atd,trivial⟩ (kg U) (List.Sublist.refl _))
    exact hA
   ·refine Ca U (Ap zeroValue59 cs_) ?_ U Ac;rintro _ _ ⟨n5,rfl,rfl⟩;refine⟨sbt,(Cn (i:=3) qkr qkr ?_)⟩;refine Ca U (A1 (.cons (T U) (.cons (T U) (.cons (T U) (.cons An .nil)))) call25 (Lc (exM x1 x2 x3) (show NetM w0 _ (exM x1 x2 x3) from Dr fdd fdd fdd) (⟨wA,some ⟨n25,0,none⟩,2⟩:Wm) (show WayM w0 _ (⟨wA,some ⟨n25,0,none⟩,2⟩:Wm) from ⟨Cq (fun _=>rfl) U (show Fnd _ n25 (Cl [.int .i64 0, .int .i64 1] 3) from fdd),by simp,by simp⟩) Jv (mkS b39) reS (rxS fdd) 0 evD0)) ?_ U Ac;rintro _ _ ⟨qA,kA,MA,⟨rfl,hA⟩,rfl⟩;refine⟨sbt,(x_y (i:=4) U qkr (Af (T U)) ?_ U Ac)⟩;refine x_y (i:=5) U qkr (Bx (T U) U) ?_ U Ac;refine x_y (i:=6) U qkr (Bx (T U) U) ?_ U Ac;refine Cn (i:=8) qkr qkr ?_
    first|refine Ca U (Ls U U sizeOf59) ?_ U Ac
    rintro _ _ ⟨rfl,rfl⟩;refine⟨sbt,(x_y (i:=9) U qkr (Ag (T U)) ?_ U Ac)⟩;refine Cv qkr U ?_;refine rO tb 1 U ?_
    first|(refine Be ((n5,b39,qA,kA,MA)) ?_ ⟨atd,atd,trivial⟩ (kg U) (List.Sublist.refl _))|(refine Bn List.perm_middle ?_;refine Be ((n5,b39,qA,kA,MA)) ?_ ⟨atd,atd,trivial⟩ (kg U) (List.Sublist.refl _))|(refine Bn ((List.Perm.append_left _ (List.Perm.swap _ _ _)).trans List.perm_middle) ?_;refine Be ((n5,b39,qA,kA,MA)) ?_ ⟨atd,atd,trivial⟩ (kg U) (List.Sublist.refl _))
    exact hA
  ·refine Ca U (Ap zeroValue59 cs_) ?_ U Ac;rintro _ _ ⟨n5,rfl,rfl⟩;refine⟨sbt,(Cn (i:=2) qkr qkr ?_)⟩;refine Ca U (A1 .nil call43 (K7)) ?_ U Ac;rintro _ _ ⟨b39,rfl,rfl⟩;refine⟨sbt,(Cn (i:=3) qkr qkr ?_)⟩;refine Ca U (A1 (.cons (T U) (.cons (T U) (.cons (T U) (.cons An .nil)))) call25 (Lc (exM x1 x2 x3) (show NetM w0 _ (exM x1 x2 x3) from Dr fdd fdd fdd) (⟨wA,some ⟨n25,0,none⟩,2⟩:Wm) (show WayM w0 _ (⟨wA,some ⟨n25,0,none⟩,2⟩:Wm) from ⟨Cq (fun _=>rfl) U (show Fnd _ n25 (Cl [.int .i64 0, .int .i64 1] 3) from fdd),by simp,by simp⟩) Jv (mkS b39) reS (rxS fdd) 0 evD0)) ?_ U Ac;rintro _ _ ⟨qA,kA,MA,⟨rfl,hA⟩,rfl⟩;refine⟨sbt,(x_y (i:=4) U qkr (Af (T U)) ?_ U Ac)⟩;refine x_y (i:=5) U qkr (Bx (T U) U) ?_ U Ac;refine x_y (i:=6) U qkr (Bx (T U) U) ?_ U Ac;refine Cn (i:=8) qkr qkr ?_
   first|refine Ca U (Ls U U sizeOf59) ?_ U Ac
   rintro _ _ ⟨rfl,rfl⟩;refine⟨sbt,(x_y (i:=9) U qkr (Ag (T U)) ?_ U Ac)⟩;refine Cv qkr U ?_;refine rO tb 1 U ?_
   first|(refine Be ((n5,b39,qA,kA,MA)) ?_ ⟨atd,atd,trivial⟩ (kg U) (List.Sublist.refl _))|(refine Bn List.perm_middle ?_;refine Be ((n5,b39,qA,kA,MA)) ?_ ⟨atd,atd,trivial⟩ (kg U) (List.Sublist.refl _))|(refine Bn ((List.Perm.append_left _ (List.Perm.swap _ _ _)).trans List.perm_middle) ?_;refine Be ((n5,b39,qA,kA,MA)) ?_ ⟨atd,atd,trivial⟩ (kg U) (List.Sublist.refl _))
   exact hA
 rintro⟨b5,b39,qA,kA,MA⟩ hA;refine rC tb 2 U (y_ (Lp U isAgg26 sizeOf26 U (by first|exact A2)) ?_ U);refine y_ (Lp U isAgg59 sizeOf59 U (by first|exact A2)) ?_ U;refine y_ (Lp U isAgg32 sizeOf32 U (by first|exact A2)) ?_ U;refine e_ (A1 (.cons (T U) (.cons (T U) (.cons (T U) (.cons An .nil)))) call25 (Lc (exM x1 x2 x3) (show NetM w0 _ (exM x1 x2 x3) from Dr fdd fdd fdd) (⟨wA,some ⟨n25,0,none⟩,2⟩:Wm) (show WayM w0 _ (⟨wA,some ⟨n25,0,none⟩,2⟩:Wm) from ⟨Cq (fun _=>rfl) U (show Fnd _ n25 (Cl [.int .i64 0, .int .i64 1] 3) from fdd),by simp,by simp⟩) Jv (mkAB n34 n31 b33) reAB (rxAB (show Fnd _ b33 (Cl [.int .i64 3, .string ⟨#[]⟩, .slice none 0 0] 32) from fdd) (show Fnd _ n31 (Cl ([mkN ⟨#[97]⟩,mkN ⟨#[98]⟩].flatMap encRx) 32) from fdd) (show Fnd _ n34 (Cl (encRx (.mk 4 ⟨#[]⟩ (some ⟨n31,0,none⟩) 2 [mkN ⟨#[97]⟩,mkN ⟨#[98]⟩])++encRx (mkS b33)) 32) from fdd)) 0 evDA0)) ?_ U;rintro _ _ ⟨qB,kB,MB,⟨rfl,hB⟩,rfl⟩;refine rO tb 3 U (e_ (Ap zeroValue59 cs_) ?_ U);rintro _ _ ⟨n7,rfl,rfl⟩
 first|refine A9 (Ls U U sizeOf59) U Ac ?_
 rintro _ _ ⟨rfl,rfl⟩;refine rO tb 5 U (y_ (Lp U isAgg26 sizeOf26 U (by first|exact A2)) ?_ U);refine y_ (Lp U isAgg59 sizeOf59 U (by first|exact A2)) ?_ U;refine y_ (Lp U isAgg32 sizeOf32 U (by first|exact A2)) ?_ U;refine e_ (A1 (.cons (T U) (.cons (T U) (.cons (T U) (.cons An .nil)))) call25 (Lc (exM x1 x2 x3) (show NetM w0 _ (exM x1 x2 x3) from Dr fdd fdd fdd) (⟨wA,some ⟨n25,0,none⟩,2⟩:Wm) (show WayM w0 _ (⟨wA,some ⟨n25,0,none⟩,2⟩:Wm) from ⟨Cq (fun _=>rfl) U (show Fnd _ n25 (Cl [.int .i64 0, .int .i64 1] 3) from fdd),by simp,by simp⟩) Jv (mkAB n34 n31 b33) reAB (rxAB (show Fnd _ b33 (Cl [.int .i64 3, .string ⟨#[]⟩, .slice none 0 0] 32) from fdd) (show Fnd _ n31 (Cl ([mkN ⟨#[97]⟩,mkN ⟨#[98]⟩].flatMap encRx) 32) from fdd) (show Fnd _ n34 (Cl (encRx (.mk 4 ⟨#[]⟩ (some ⟨n31,0,none⟩) 2 [mkN ⟨#[97]⟩,mkN ⟨#[98]⟩])++encRx (mkS b33)) 32) from fdd)) 1 evDA1)) ?_ U;rintro _ _ ⟨qC,kC,MC,⟨rfl,hC⟩,rfl⟩;refine rO tb 3 U (e_ (Ap zeroValue59 cs_) ?_ U);rintro _ _ ⟨n9,rfl,rfl⟩
 first|refine A9 (Ls U U sizeOf59) U Ac ?_
 rintro _ _ ⟨rfl,rfl⟩;refine rO tb 18 U (A3 (Lo U isAgg3 (by first|exact c_o)) U (Ax U U (Aa U)) ?_);refine rO tb 4 U (A3 (Lo U isAgg41 (by first|exact c_o)) U (Ax U U (Aa U)) ?_);refine A9 (A7 (.cons An (.cons An .nil)) (Fo _ _)) U (Ax U U (Aa U)) ?_;rintro _ _ ⟨n75,rfl,rfl⟩;refine A3 (Bb (qe2 U U) call17 (fun H' hs=>Jw (x:=[2,3]) ((hA ((b39,Cl [.int .i64 3, .string ⟨#[]⟩, .slice none 0 0] 32)::((n4,Cl (encRx (mkAB n34 n31 b33)) 32)::(n34,Cl (encRx (.mk 4 ⟨#[]⟩ (some ⟨n31,0,none⟩) 2 [mkN ⟨#[97]⟩,mkN ⟨#[98]⟩])++encRx (mkS b33)) 32)::(b33,Cl [.int .i64 3, .string ⟨#[]⟩, .slice none 0 0] 32)::(n31,Cl ([mkN ⟨#[97]⟩,mkN ⟨#[98]⟩].flatMap encRx) 32)::(n2,Cl (encW (⟨wA,some ⟨n25,0,none⟩,2⟩:Wm)) 59)::(n25,Cl [.int .i64 0, .int .i64 1] 3)::((n1,Cl (encNm (exM x1 x2 x3)) 26)::(x3,Cl (exEdges.flatMap encE) 171)::(x2,Cl (exLinks.flatMap encLn) 95)::(x1,Cl (exK 4) 140)::H)))).mono (stn hs)) (Cq (fun _=>rfl) U (hs.subset (show Fnd _ n75 (Cl [.int .i64 2, .int .i64 3] 3) from fdd))) qde)) U (Ax U U (Aa U)) ?_
 first|refine A3 (Cc (T U)) U (Ax U U (Aa U)) ?_
 refine rO tb 3 U (A3 (Lo U isAgg3 (by first|exact c_o)) U (Ax U U (Aa U)) ?_);refine rO tb 4 U (A3 (Lo U isAgg41 (by first|exact c_o)) U (Ax U U (Aa U)) ?_);refine A9 (A7 (.cons An (.cons An .nil)) (Fo _ _)) U (Ax U U (Aa U)) ?_;rintro _ _ ⟨n87,rfl,rfl⟩;refine A3 (Bb (qe2 U U) call17 (fun H' hs=>Jw (x:=[4,3]) ((hC ((n7,Cl (encW ⟨wZ,qB,kB⟩) 59)::(MB++((b5,Cl (encW ⟨wD0,qA,kA⟩) 59)::(MA++((b39,Cl [.int .i64 3, .string ⟨#[]⟩, .slice none 0 0] 32)::((n4,Cl (encRx (mkAB n34 n31 b33)) 32)::(n34,Cl (encRx (.mk 4 ⟨#[]⟩ (some ⟨n31,0,none⟩) 2 [mkN ⟨#[97]⟩,mkN ⟨#[98]⟩])++encRx (mkS b33)) 32)::(b33,Cl [.int .i64 3, .string ⟨#[]⟩, .slice none 0 0] 32)::(n31,Cl ([mkN ⟨#[97]⟩,mkN ⟨#[98]⟩].flatMap encRx) 32)::(n2,Cl (encW (⟨wA,some ⟨n25,0,none⟩,2⟩:Wm)) 59)::(n25,Cl [.int .i64 0, .int .i64 1] 3)::((n1,Cl (encNm (exM x1 x2 x3)) 26)::(x3,Cl (exEdges.flatMap encE) 171)::(x2,Cl (exLinks.flatMap encLn) 95)::(x1,Cl (exK 4) 140)::H)))))))).mono (stn hs)) (Cq (fun _=>rfl) U (hs.subset (show Fnd _ n87 (Cl [.int .i64 4, .int .i64 3] 3) from fdd))) qde)) U (Ax U U (Aa U)) ?_
 first|refine A3 (Cc (T U)) U (Ax U U (Aa U)) ?_
 refine kO tb 3 [1,2,90] rfl U (rG tb 5 U (y_ (Lp U isAgg59 sizeOf59 U (by first|exact A2)) ?_ U));refine e_ (A7 (.cons (T U) .nil) (Ho _ _ _ _ _ _ _)) ?_ U;rintro _ _ ⟨n92,rfl,rfl⟩;refine rO tb 4 U (B9 10 [(0,true),(1,true),(2,false),(3,false),(4,false),(5,true),(6,true),(7,true),(8,true),(9,true)] _ mixd qkr sb0 ?_ By);refine o_y U (Lp U isAgg26 sizeOf26 U (by first|exact A2)) ?_ U Ac;refine rP tb 1 U (o_e U (A1 .nil call43 (K7)) ?_ U Ac);rintro _ _ ⟨b96,rfl,rfl⟩;refine⟨sbt,(o_e U (A7 (.cons (T U) .nil) (Kb9 _ _ _ _ _)) ?_ U Ac)⟩;rintro _ _ ⟨n97,rfl,rfl⟩;refine⟨sbt,?_⟩;refine o_e U (A1 (qe3 U U U) call11 (prot_e (show NetM w0 _ (exM x1 x2 x3) from Dr fdd fdd fdd) (some ⟨n92,0,none⟩) 1 (Gl (n25:=n25) (n92:=n92) fdd fdd) (mkS b96) (some ⟨n97,0,none⟩) 1 (Cq (fun _=>rfl) (by simp) (show Fnd _ n97 (Cl (encRx (mkS b96)) 32) from fdd)) (rxS (show Fnd _ b96 (Cl [.int .i64 3, .string ⟨#[]⟩, .slice none 0 0] 32) from fdd)) (fmSom b96) hW)) ?_ U Ac;rintro _ _ ⟨dP,qb,qc,cb,cc,MP,⟨rfl,hdP,hqb,hqc⟩,rfl⟩;refine⟨sbt,(rP tb 5 U (Bj U (rO tb 4 U (y_ (Lp U isAgg26 sizeOf26 U (by first|exact A2)) ?_ U))))⟩;refine rO tb 2 U ?_;refine e_ (A1 (.cons (T U) (.cons (T U) (.cons (T U) (.cons An .nil)))) call15 (asg_e 1 (slC dP) (ex_gpm (show NetM w0 _ (exM x1 x2 x3) from Dr fdd fdd fdd) (Gl (n25:=n25) (n92:=n92) fdd fdd) ((show Arr w0 (slH dP ((dlE qb qc cb cc).flatMap encDt) 93++(MP++((n97,Cl (encRx (mkS b96)) 32)::(b96,Cl [.int .i64 3, .string ⟨#[]⟩, .slice none 0 0] 32)::(n92,Cl (encW (⟨wA,some ⟨n25,0,none⟩,2⟩:Wm)) 59)::((n9,Cl (encW ⟨wD1,qC,kC⟩) 59)::(MC++((n7,Cl (encW ⟨wZ,qB,kB⟩) 59)::(MB++((b5,Cl (encW ⟨wD0,qA,kA⟩) 59)::(MA++((b39,Cl [.int .i64 3, .string ⟨#[]⟩, .slice none 0 0] 32)::((n4,Cl (encRx (mkAB n34 n31 b33)) 32)::(n34,Cl (encRx (.mk 4 ⟨#[]⟩ (some ⟨n31,0,none⟩) 2 [mkN ⟨#[97]⟩,mkN ⟨#[98]⟩])++encRx (mkS b33)) 32)::(b33,Cl [.int .i64 3, .string ⟨#[]⟩, .slice none 0 0] 32)::(n31,Cl ([mkN ⟨#[97]⟩,mkN ⟨#[98]⟩].flatMap encRx) 32)::(n2,Cl (encW (⟨wA,some ⟨n25,0,none⟩,2⟩:Wm)) 59)::(n25,Cl [.int .i64 0, .int .i64 1] 3)::((n1,Cl (encNm (exM x1 x2 x3)) 26)::(x3,Cl (exEdges.flatMap encE) 171)::(x2,Cl (exLinks.flatMap encLn) 95)::(x1,Cl (exK 4) 140)::H)))))))))))) (slQ dP) 7 encDt (dlE qb qc cb cc) from A5 (fun _=>rfl) hdP).mono (by exact sbt)) ((hqb ((n97,Cl (encRx (mkS b96)) 32)::(b96,Cl [.int .i64 3, .string ⟨#[]⟩, .slice none 0 0] 32)::(n92,Cl (encW (⟨wA,some ⟨n25,0,none⟩,2⟩:Wm)) 59)::((n9,Cl (encW ⟨wD1,qC,kC⟩) 59)::(MC++((n7,Cl (encW ⟨wZ,qB,kB⟩) 59)::(MB++((b5,Cl (encW ⟨wD0,qA,kA⟩) 59)::(MA++((b39,Cl [.int .i64 3, .string ⟨#[]⟩, .slice none 0 0] 32)::((n4,Cl (encRx (mkAB n34 n31 b33)) 32)::(n34,Cl (encRx (.mk 4 ⟨#[]⟩ (some ⟨n31,0,none⟩) 2 [mkN ⟨#[97]⟩,mkN ⟨#[98]⟩])++encRx (mkS b33)) 32)::(b33,Cl [.int .i64 3, .string ⟨#[]⟩, .slice none 0 0] 32)::(n31,Cl ([mkN ⟨#[97]⟩,mkN ⟨#[98]⟩].flatMap encRx) 32)::(n2,Cl (encW (⟨wA,some ⟨n25,0,none⟩,2⟩:Wm)) 59)::(n25,Cl [.int .i64 0, .int .i64 1] 3)::((n1,Cl (encNm (exM x1 x2 x3)) 26)::(x3,Cl (exEdges.flatMap encE) 171)::(x2,Cl (exLinks.flatMap encLn) 95)::(x1,Cl (exK 4) 140)::H))))))))))).mono (by exact sbt)) ((hqc ((n97,Cl (encRx (mkS b96)) 32)::(b96,Cl [.int .i64 3, .string ⟨#[]⟩, .slice none 0 0] 32)::(n92,Cl (encW (⟨wA,some ⟨n25,0,none⟩,2⟩:Wm)) 59)::((n9,Cl (encW ⟨wD1,qC,kC⟩) 59)::(MC++((n7,Cl (encW ⟨wZ,qB,kB⟩) 59)::(MB++((b5,Cl (encW ⟨wD0,qA,kA⟩) 59)::(MA++((b39,Cl [.int .i64 3, .string ⟨#[]⟩, .slice none 0 0] 32)::((n4,Cl (encRx (mkAB n34 n31 b33)) 32)::(n34,Cl (encRx (.mk 4 ⟨#[]⟩ (some ⟨n31,0,none⟩) 2 [mkN ⟨#[97]⟩,mkN ⟨#[98]⟩])++encRx (mkS b33)) 32)::(b33,Cl [.int .i64 3, .string ⟨#[]⟩, .slice none 0 0] 32)::(n31,Cl ([mkN ⟨#[97]⟩,mkN ⟨#[98]⟩].flatMap encRx) 32)::(n2,Cl (encW (⟨wA,some ⟨n25,0,none⟩,2⟩:Wm)) 59)::(n25,Cl [.int .i64 0, .int .i64 1] 3)::((n1,Cl (encNm (exM x1 x2 x3)) 26)::(x3,Cl (exEdges.flatMap encE) 171)::(x2,Cl (exLinks.flatMap encLn) 95)::(x1,Cl (exK 4) 140)::H))))))))))).mono (by exact sbt))))) ?_ U;rintro _ _ ⟨d1,d2,⟨rfl,hd1,hd2⟩,rfl⟩;refine rO tb 20 U (A9 (A7 (.cons An .nil) (C9)) U (Ax U U (Aa U)) ?_);rintro _ _ ⟨n117,rfl,rfl⟩;refine A3 (Bb (qe2 U U) call17 (fun H' hs=>Jw (x:=[2]) ((show Arr w0 (slH d1 ([(2:Int)].flatMap encI) 3++(slH d2 ([(1:Int),1].flatMap encI) 3++(slH dP ((dlE qb qc cb cc).flatMap encDt) 93++(MP++((n97,Cl (encRx (mkS b96)) 32)::(b96,Cl [.int .i64 3, .string ⟨#[]⟩, .slice none 0 0] 32)::(n92,Cl (encW (⟨wA,some ⟨n25,0,none⟩,2⟩:Wm)) 59)::((n9,Cl (encW ⟨wD1,qC,kC⟩) 59)::(MC++((n7,Cl (encW ⟨wZ,qB,kB⟩) 59)::(MB++((b5,Cl (encW ⟨wD0,qA,kA⟩) 59)::(MA++((b39,Cl [.int .i64 3, .string ⟨#[]⟩, .slice none 0 0] 32)::((n4,Cl (encRx (mkAB n34 n31 b33)) 32)::(n34,Cl (encRx (.mk 4 ⟨#[]⟩ (some ⟨n31,0,none⟩) 2 [mkN ⟨#[97]⟩,mkN ⟨#[98]⟩])++encRx (mkS b33)) 32)::(b33,Cl [.int .i64 3, .string ⟨#[]⟩, .slice none 0 0] 32)::(n31,Cl ([mkN ⟨#[97]⟩,mkN ⟨#[98]⟩].flatMap encRx) 32)::(n2,Cl (encW (⟨wA,some ⟨n25,0,none⟩,2⟩:Wm)) 59)::(n25,Cl [.int .i64 0, .int .i64 1] 3)::((n1,Cl (encNm (exM x1 x2 x3)) 26)::(x3,Cl (exEdges.flatMap encE) 171)::(x2,Cl (exLinks.flatMap encLn) 95)::(x1,Cl (exK 4) 140)::H)))))))))))))) (slQ d1) 1 encI [2] from A5 (fun _=>rfl) hd1).mono (stn hs)) (Cq (fun _=>rfl) U (hs.subset (show Fnd _ n117 (Cl [.int .i64 2] 3) from fdd))) qde)) U (Ax U U (Aa U)) ?_
 first|refine A3 (Cc (T U)) U (Ax U U (Aa U)) ?_
 refine rO tb 3 U (A9 (A7 (.cons An (.cons An .nil)) (Fo _ _)) U (Ax U U (Aa U)) ?_);rintro _ _ ⟨n123,rfl,rfl⟩;refine A3 (Bb (qe2 U U) call17 (fun H' hs=>Jw (x:=[1,1]) ((show Arr w0 (slH d2 ([(1:Int),1].flatMap encI) 3++(slH dP ((dlE qb qc cb cc).flatMap encDt) 93++(MP++((n97,Cl (encRx (mkS b96)) 32)::(b96,Cl [.int .i64 3, .string ⟨#[]⟩, .slice none 0 0] 32)::(n92,Cl (encW (⟨wA,some ⟨n25,0,none⟩,2⟩:Wm)) 59)::((n9,Cl (encW ⟨wD1,qC,kC⟩) 59)::(MC++((n7,Cl (encW ⟨wZ,qB,kB⟩) 59)::(MB++((b5,Cl (encW ⟨wD0,qA,kA⟩) 59)::(MA++((b39,Cl [.int .i64 3, .string ⟨#[]⟩, .slice none 0 0] 32)::((n4,Cl (encRx (mkAB n34 n31 b33)) 32)::(n34,Cl (encRx (.mk 4 ⟨#[]⟩ (some ⟨n31,0,none⟩) 2 [mkN ⟨#[97]⟩,mkN ⟨#[98]⟩])++encRx (mkS b33)) 32)::(b33,Cl [.int .i64 3, .string ⟨#[]⟩, .slice none 0 0] 32)::(n31,Cl ([mkN ⟨#[97]⟩,mkN ⟨#[98]⟩].flatMap encRx) 32)::(n2,Cl (encW (⟨wA,some ⟨n25,0,none⟩,2⟩:Wm)) 59)::(n25,Cl [.int .i64 0, .int .i64 1] 3)::((n1,Cl (encNm (exM x1 x2 x3)) 26)::(x3,Cl (exEdges.flatMap encE) 171)::(x2,Cl (exLinks.flatMap encLn) 95)::(x1,Cl (exK 4) 140)::H))))))))))))) (slQ d2) 1 encI [1,1] from A5 (fun _=>rfl) hd2).mono (stn hs)) (Cq (fun _=>rfl) U (hs.subset (show Fnd _ n123 (Cl [.int .i64 1, .int .i64 1] 3) from fdd))) qde)) U (Ax U U (Aa U)) ?_
 first|refine A3 (Cc (T U)) U (Ax U U (Aa U)) ?_
 refine rO tb 2 U (A3 (Lp U isAgg26 sizeOf26 U (by first|exact A2)) U (Ax U U (Aa U)) ?_);refine rO tb 4 U ?_;refine A3 (Bb (.cons (T U) (.cons (T U) (.cons (T U) (.cons (T U) (.cons (T U) .nil))))) call18 (fun H' hs=>right_e 1 (slC dP) (ex_gpm (show NetM w0 _ (exM x1 x2 x3) from Dr (hs.subset fdd) (hs.subset fdd) (hs.subset fdd)) (Gl (n25:=n25) (n92:=n92) (hs.subset fdd) (hs.subset fdd)) ((show Arr w0 (slH dP ((dlE qb qc cb cc).flatMap encDt) 93++(MP++((n97,Cl (encRx (mkS b96)) 32)::(b96,Cl [.int .i64 3, .string ⟨#[]⟩, .slice none 0 0] 32)::(n92,Cl (encW (⟨wA,some ⟨n25,0,none⟩,2⟩:Wm)) 59)::((n9,Cl (encW ⟨wD1,qC,kC⟩) 59)::(MC++((n7,Cl (encW ⟨wZ,qB,kB⟩) 59)::(MB++((b5,Cl (encW ⟨wD0,qA,kA⟩) 59)::(MA++((b39,Cl [.int .i64 3, .string ⟨#[]⟩, .slice none 0 0] 32)::((n4,Cl (encRx (mkAB n34 n31 b33)) 32)::(n34,Cl (encRx (.mk 4 ⟨#[]⟩ (some ⟨n31,0,none⟩) 2 [mkN ⟨#[97]⟩,mkN ⟨#[98]⟩])++encRx (mkS b33)) 32)::(b33,Cl [.int .i64 3, .string ⟨#[]⟩, .slice none 0 0] 32)::(n31,Cl ([mkN ⟨#[97]⟩,mkN ⟨#[98]⟩].flatMap encRx) 32)::(n2,Cl (encW (⟨wA,some ⟨n25,0,none⟩,2⟩:Wm)) 59)::(n25,Cl [.int .i64 0, .int .i64 1] 3)::((n1,Cl (encNm (exM x1 x2 x3)) 26)::(x3,Cl (exEdges.flatMap encE) 171)::(x2,Cl (exLinks.flatMap encLn) 95)::(x1,Cl (exK 4) 140)::H)))))))))))) (slQ dP) 7 encDt (dlE qb qc cb cc) from A5 (fun _=>rfl) hdP).mono (stn hs)) ((hqb ((n97,Cl (encRx (mkS b96)) 32)::(b96,Cl [.int .i64 3, .string ⟨#[]⟩, .slice none 0 0] 32)::(n92,Cl (encW (⟨wA,some ⟨n25,0,none⟩,2⟩:Wm)) 59)::((n9,Cl (encW ⟨wD1,qC,kC⟩) 59)::(MC++((n7,Cl (encW ⟨wZ,qB,kB⟩) 59)::(MB++((b5,Cl (encW ⟨wD0,qA,kA⟩) 59)::(MA++((b39,Cl [.int .i64 3, .string ⟨#[]⟩, .slice none 0 0] 32)::((n4,Cl (encRx (mkAB n34 n31 b33)) 32)::(n34,Cl (encRx (.mk 4 ⟨#[]⟩ (some ⟨n31,0,none⟩) 2 [mkN ⟨#[97]⟩,mkN ⟨#[98]⟩])++encRx (mkS b33)) 32)::(b33,Cl [.int .i64 3, .string ⟨#[]⟩, .slice none 0 0] 32)::(n31,Cl ([mkN ⟨#[97]⟩,mkN ⟨#[98]⟩].flatMap encRx) 32)::(n2,Cl (encW (⟨wA,some ⟨n25,0,none⟩,2⟩:Wm)) 59)::(n25,Cl [.int .i64 0, .int .i64 1] 3)::((n1,Cl (encNm (exM x1 x2 x3)) 26)::(x3,Cl (exEdges.flatMap encE) 171)::(x2,Cl (exLinks.flatMap encLn) 95)::(x1,Cl (exK 4) 140)::H))))))))))).mono (stn hs)) ((hqc ((n97,Cl (encRx (mkS b96)) 32)::(b96,Cl [.int .i64 3, .string ⟨#[]⟩, .slice none 0 0] 32)::(n92,Cl (encW (⟨wA,some ⟨n25,0,none⟩,2⟩:Wm)) 59)::((n9,Cl (encW ⟨wD1,qC,kC⟩) 59)::(MC++((n7,Cl (encW ⟨wZ,qB,kB⟩) 59)::(MB++((b5,Cl (encW ⟨wD0,qA,kA⟩) 59)::(MA++((b39,Cl [.int .i64 3, .string ⟨#[]⟩, .slice none 0 0] 32)::((n4,Cl (encRx (mkAB n34 n31 b33)) 32)::(n34,Cl (encRx (.mk 4 ⟨#[]⟩ (some ⟨n31,0,none⟩) 2 [mkN ⟨#[97]⟩,mkN ⟨#[98]⟩])++encRx (mkS b33)) 32)::(b33,Cl [.int .i64 3, .string ⟨#[]⟩, .slice none 0 0] 32)::(n31,Cl ([mkN ⟨#[97]⟩,mkN ⟨#[98]⟩].flatMap encRx) 32)::(n2,Cl (encW (⟨wA,some ⟨n25,0,none⟩,2⟩:Wm)) 59)::(n25,Cl [.int .i64 0, .int .i64 1] 3)::((n1,Cl (encNm (exM x1 x2 x3)) 26)::(x3,Cl (exEdges.flatMap encE) 171)::(x2,Cl (exLinks.flatMap encLn) 95)::(x1,Cl (exK 4) 140)::H))))))))))).mono (stn hs))) (slC d1) (slC d2) (Jg hd1) ((show Arr w0 (slH d1 ([(2:Int)].flatMap encI) 3++(slH d2 ([(1:Int),1].flatMap encI) 3++(slH dP ((dlE qb qc cb cc).flatMap encDt) 93++(MP++((n97,Cl (encRx (mkS b96)) 32)::(b96,Cl [.int .i64 3, .string ⟨#[]⟩, .slice none 0 0] 32)::(n92,Cl (encW (⟨wA,some ⟨n25,0,none⟩,2⟩:Wm)) 59)::((n9,Cl (encW ⟨wD1,qC,kC⟩) 59)::(MC++((n7,Cl (encW ⟨wZ,qB,kB⟩) 59)::(MB++((b5,Cl (encW ⟨wD0,qA,kA⟩) 59)::(MA++((b39,Cl [.int .i64 3, .string ⟨#[]⟩, .slice none 0 0] 32)::((n4,Cl (encRx (mkAB n34 n31 b33)) 32)::(n34,Cl (encRx (.mk 4 ⟨#[]⟩ (some ⟨n31,0,none⟩) 2 [mkN ⟨#[97]⟩,mkN ⟨#[98]⟩])++encRx (mkS b33)) 32)::(b33,Cl [.int .i64 3, .string ⟨#[]⟩, .slice none 0 0] 32)::(n31,Cl ([mkN ⟨#[97]⟩,mkN ⟨#[98]⟩].flatMap encRx) 32)::(n2,Cl (encW (⟨wA,some ⟨n25,0,none⟩,2⟩:Wm)) 59)::(n25,Cl [.int .i64 0, .int .i64 1] 3)::((n1,Cl (encNm (exM x1 x2 x3)) 26)::(x3,Cl (exEdges.flatMap encE) 171)::(x2,Cl (exLinks.flatMap encLn) 95)::(x1,Cl (exK 4) 140)::H)))))))))))))) (slQ d1) 1 encI [2] from A5 (fun _=>rfl) hd1).mono (stn hs)) ((show Arr w0 (slH d2 ([(1:Int),1].flatMap encI) 3++(slH dP ((dlE qb qc cb cc).flatMap encDt) 93++(MP++((n97,Cl (encRx (mkS b96)) 32)::(b96,Cl [.int .i64 3, .string ⟨#[]⟩, .slice none 0 0] 32)::(n92,Cl (encW (⟨wA,some ⟨n25,0,none⟩,2⟩:Wm)) 59)::((n9,Cl (encW ⟨wD1,qC,kC⟩) 59)::(MC++((n7,Cl (encW ⟨wZ,qB,kB⟩) 59)::(MB++((b5,Cl (encW ⟨wD0,qA,kA⟩) 59)::(MA++((b39,Cl [.int .i64 3, .string ⟨#[]⟩, .slice none 0 0] 32)::((n4,Cl (encRx (mkAB n34 n31 b33)) 32)::(n34,Cl (encRx (.mk 4 ⟨#[]⟩ (some ⟨n31,0,none⟩) 2 [mkN ⟨#[97]⟩,mkN ⟨#[98]⟩])++encRx (mkS b33)) 32)::(b33,Cl [.int .i64 3, .string ⟨#[]⟩, .slice none 0 0] 32)::(n31,Cl ([mkN ⟨#[97]⟩,mkN ⟨#[98]⟩].flatMap encRx) 32)::(n2,Cl (encW (⟨wA,some ⟨n25,0,none⟩,2⟩:Wm)) 59)::(n25,Cl [.int .i64 0, .int .i64 1] 3)::((n1,Cl (encNm (exM x1 x2 x3)) 26)::(x3,Cl (exEdges.flatMap encE) 171)::(x2,Cl (exLinks.flatMap encLn) 95)::(x1,Cl (exK 4) 140)::H))))))))))))) (slQ d2) 1 encI [1,1] from A5 (fun _=>rfl) hd2).mono (stn hs)))) U (Ax U U (Aa U)) ?_
 first|refine A3 (Cc (T U)) U (Ax U U (Aa U)) ?_
 refine kO tb 3 [1,11,12,14,15,135] rfl U (rG tb 5 U (y_ (Lp U isAgg26 sizeOf26 U (by first|exact A2)) ?_ U));refine rO tb 4 U ?_;refine e_ (A1 (.cons (T U) (.cons (T U) (.cons (T U) (.cons (T U) (.cons (T U) (.cons An .nil)))))) call21 (rules_e (l:=dlE qb qc cb cc) (dt:=[1,1]) (T:=tabE) K6 ex_rt2 ex_gr2 evG ex_sh2 1 (slC dP) (ex_gpm (show NetM w0 _ (exM x1 x2 x3) from Dr fdd fdd fdd) (Gl (n25:=n25) (n92:=n92) fdd fdd) ((show Arr w0 (slH dP ((dlE qb qc cb cc).flatMap encDt) 93++(MP++((n97,Cl (encRx (mkS b96)) 32)::(b96,Cl [.int .i64 3, .string ⟨#[]⟩, .slice none 0 0] 32)::(n92,Cl (encW (⟨wA,some ⟨n25,0,none⟩,2⟩:Wm)) 59)::((n9,Cl (encW ⟨wD1,qC,kC⟩) 59)::(MC++((n7,Cl (encW ⟨wZ,qB,kB⟩) 59)::(MB++((b5,Cl (encW ⟨wD0,qA,kA⟩) 59)::(MA++((b39,Cl [.int .i64 3, .string ⟨#[]⟩, .slice none 0 0] 32)::((n4,Cl (encRx (mkAB n34 n31 b33)) 32)::(n34,Cl (encRx (.mk 4 ⟨#[]⟩ (some ⟨n31,0,none⟩) 2 [mkN ⟨#[97]⟩,mkN ⟨#[98]⟩])++encRx (mkS b33)) 32)::(b33,Cl [.int .i64 3, .string ⟨#[]⟩, .slice none 0 0] 32)::(n31,Cl ([mkN ⟨#[97]⟩,mkN ⟨#[98]⟩].flatMap encRx) 32)::(n2,Cl (encW (⟨wA,some ⟨n25,0,none⟩,2⟩:Wm)) 59)::(n25,Cl [.int .i64 0, .int .i64 1] 3)::((n1,Cl (encNm (exM x1 x2 x3)) 26)::(x3,Cl (exEdges.flatMap encE) 171)::(x2,Cl (exLinks.flatMap encLn) 95)::(x1,Cl (exK 4) 140)::H)))))))))))) (slQ dP) 7 encDt (dlE qb qc cb cc) from A5 (fun _=>rfl) hdP).mono (by exact sbt)) ((hqb ((n97,Cl (encRx (mkS b96)) 32)::(b96,Cl [.int .i64 3, .string ⟨#[]⟩, .slice none 0 0] 32)::(n92,Cl (encW (⟨wA,some ⟨n25,0,none⟩,2⟩:Wm)) 59)::((n9,Cl (encW ⟨wD1,qC,kC⟩) 59)::(MC++((n7,Cl (encW ⟨wZ,qB,kB⟩) 59)::(MB++((b5,Cl (encW ⟨wD0,qA,kA⟩) 59)::(MA++((b39,Cl [.int .i64 3, .string ⟨#[]⟩, .slice none 0 0] 32)::((n4,Cl (encRx (mkAB n34 n31 b33)) 32)::(n34,Cl (encRx (.mk 4 ⟨#[]⟩ (some ⟨n31,0,none⟩) 2 [mkN ⟨#[97]⟩,mkN ⟨#[98]⟩])++encRx (mkS b33)) 32)::(b33,Cl [.int .i64 3, .string ⟨#[]⟩, .slice none 0 0] 32)::(n31,Cl ([mkN ⟨#[97]⟩,mkN ⟨#[98]⟩].flatMap encRx) 32)::(n2,Cl (encW (⟨wA,some ⟨n25,0,none⟩,2⟩:Wm)) 59)::(n25,Cl [.int .i64 0, .int .i64 1] 3)::((n1,Cl (encNm (exM x1 x2 x3)) 26)::(x3,Cl (exEdges.flatMap encE) 171)::(x2,Cl (exLinks.flatMap encLn) 95)::(x1,Cl (exK 4) 140)::H))))))))))).mono (by exact sbt)) ((hqc ((n97,Cl (encRx (mkS b96)) 32)::(b96,Cl [.int .i64 3, .string ⟨#[]⟩, .slice none 0 0] 32)::(n92,Cl (encW (⟨wA,some ⟨n25,0,none⟩,2⟩:Wm)) 59)::((n9,Cl (encW ⟨wD1,qC,kC⟩) 59)::(MC++((n7,Cl (encW ⟨wZ,qB,kB⟩) 59)::(MB++((b5,Cl (encW ⟨wD0,qA,kA⟩) 59)::(MA++((b39,Cl [.int .i64 3, .string ⟨#[]⟩, .slice none 0 0] 32)::((n4,Cl (encRx (mkAB n34 n31 b33)) 32)::(n34,Cl (encRx (.mk 4 ⟨#[]⟩ (some ⟨n31,0,none⟩) 2 [mkN ⟨#[97]⟩,mkN ⟨#[98]⟩])++encRx (mkS b33)) 32)::(b33,Cl [.int .i64 3, .string ⟨#[]⟩, .slice none 0 0] 32)::(n31,Cl ([mkN ⟨#[97]⟩,mkN ⟨#[98]⟩].flatMap encRx) 32)::(n2,Cl (encW (⟨wA,some ⟨n25,0,none⟩,2⟩:Wm)) 59)::(n25,Cl [.int .i64 0, .int .i64 1] 3)::((n1,Cl (encNm (exM x1 x2 x3)) 26)::(x3,Cl (exEdges.flatMap encE) 171)::(x2,Cl (exLinks.flatMap encLn) 95)::(x1,Cl (exK 4) 140)::H))))))))))).mono (by exact sbt))) (slC d1) (slC d2) ((show Arr w0 (slH d1 ([(2:Int)].flatMap encI) 3++(slH d2 ([(1:Int),1].flatMap encI) 3++(slH dP ((dlE qb qc cb cc).flatMap encDt) 93++(MP++((n97,Cl (encRx (mkS b96)) 32)::(b96,Cl [.int .i64 3, .string ⟨#[]⟩, .slice none 0 0] 32)::(n92,Cl (encW (⟨wA,some ⟨n25,0,none⟩,2⟩:Wm)) 59)::((n9,Cl (encW ⟨wD1,qC,kC⟩) 59)::(MC++((n7,Cl (encW ⟨wZ,qB,kB⟩) 59)::(MB++((b5,Cl (encW ⟨wD0,qA,kA⟩) 59)::(MA++((b39,Cl [.int .i64 3, .string ⟨#[]⟩, .slice none 0 0] 32)::((n4,Cl (encRx (mkAB n34 n31 b33)) 32)::(n34,Cl (encRx (.mk 4 ⟨#[]⟩ (some ⟨n31,0,none⟩) 2 [mkN ⟨#[97]⟩,mkN ⟨#[98]⟩])++encRx (mkS b33)) 32)::(b33,Cl [.int .i64 3, .string ⟨#[]⟩, .slice none 0 0] 32)::(n31,Cl ([mkN ⟨#[97]⟩,mkN ⟨#[98]⟩].flatMap encRx) 32)::(n2,Cl (encW (⟨wA,some ⟨n25,0,none⟩,2⟩:Wm)) 59)::(n25,Cl [.int .i64 0, .int .i64 1] 3)::((n1,Cl (encNm (exM x1 x2 x3)) 26)::(x3,Cl (exEdges.flatMap encE) 171)::(x2,Cl (exLinks.flatMap encLn) 95)::(x1,Cl (exK 4) 140)::H)))))))))))))) (slQ d1) 1 encI [2] from A5 (fun _=>rfl) hd1).mono (by exact sbt)) ((show Arr w0 (slH d2 ([(1:Int),1].flatMap encI) 3++(slH dP ((dlE qb qc cb cc).flatMap encDt) 93++(MP++((n97,Cl (encRx (mkS b96)) 32)::(b96,Cl [.int .i64 3, .string ⟨#[]⟩, .slice none 0 0] 32)::(n92,Cl (encW (⟨wA,some ⟨n25,0,none⟩,2⟩:Wm)) 59)::((n9,Cl (encW ⟨wD1,qC,kC⟩) 59)::(MC++((n7,Cl (encW ⟨wZ,qB,kB⟩) 59)::(MB++((b5,Cl (encW ⟨wD0,qA,kA⟩) 59)::(MA++((b39,Cl [.int .i64 3, .string ⟨#[]⟩, .slice none 0 0] 32)::((n4,Cl (encRx (mkAB n34 n31 b33)) 32)::(n34,Cl (encRx (.mk 4 ⟨#[]⟩ (some ⟨n31,0,none⟩) 2 [mkN ⟨#[97]⟩,mkN ⟨#[98]⟩])++encRx (mkS b33)) 32)::(b33,Cl [.int .i64 3, .string ⟨#[]⟩, .slice none 0 0] 32)::(n31,Cl ([mkN ⟨#[97]⟩,mkN ⟨#[98]⟩].flatMap encRx) 32)::(n2,Cl (encW (⟨wA,some ⟨n25,0,none⟩,2⟩:Wm)) 59)::(n25,Cl [.int .i64 0, .int .i64 1] 3)::((n1,Cl (encNm (exM x1 x2 x3)) 26)::(x3,Cl (exEdges.flatMap encE) 171)::(x2,Cl (exLinks.flatMap encLn) 95)::(x1,Cl (exK 4) 140)::H))))))))))))) (slQ d2) 1 encI [1,1] from A5 (fun _=>rfl) hd2).mono (by exact sbt)))) ?_ U;rintro _ _ ⟨qT,cT,tl,MT,⟨rfl,hT,htl⟩,rfl⟩;refine rO tb 8 U (B9 13 [(0,true),(1,true),(2,true),(3,true),(4,true),(5,true),(6,true),(7,false),(8,true),(9,true),(10,true),(11,true),(12,true)] _ mixd qkr sb0 ?_ By);refine o_y U (Lp U isAgg26 sizeOf26 U (by first|exact A2)) ?_ U Ac;refine rP tb 2 U (o_y U (Ft (k:=1) (T U) An runUnderlying34 sizeOf93 (by have:=Jg hdP;omega)) ?_ U Ac);refine rP tb 2 U (o_y U (Ft (k:=1) (T U) An runUnderlying41 sizeOf3 (by have:=Jg hd2;omega)) ?_ U Ac);refine o_e U (A1 (.cons (T U) (.cons (T U) (.cons (T U) (.cons (T U) (.cons (T U) (.cons An .nil)))))) call21 (rules_e (l:=[⟨0,0,⟨wD0,qb,cb⟩⟩]) (dt:=[1]) (T:=tabE2) ex_gp1 ex_rt1 ex_gr1 evG2 ex_sh1 1 (slC dP) (ex_gpm1 (show NetM w0 _ (exM x1 x2 x3) from Dr fdd fdd fdd) (Gl (n25:=n25) (n92:=n92) fdd fdd) (show Arr w0 _ (slQ dP) 7 encDt [⟨0,0,⟨wD0,qb,cb⟩⟩] from ((show Arr w0 (slH dP ((dlE qb qc cb cc).flatMap encDt) 93++(MP++((n97,Cl (encRx (mkS b96)) 32)::(b96,Cl [.int .i64 3, .string ⟨#[]⟩, .slice none 0 0] 32)::(n92,Cl (encW (⟨wA,some ⟨n25,0,none⟩,2⟩:Wm)) 59)::((n9,Cl (encW ⟨wD1,qC,kC⟩) 59)::(MC++((n7,Cl (encW ⟨wZ,qB,kB⟩) 59)::(MB++((b5,Cl (encW ⟨wD0,qA,kA⟩) 59)::(MA++((b39,Cl [.int .i64 3, .string ⟨#[]⟩, .slice none 0 0] 32)::((n4,Cl (encRx (mkAB n34 n31 b33)) 32)::(n34,Cl (encRx (.mk 4 ⟨#[]⟩ (some ⟨n31,0,none⟩) 2 [mkN ⟨#[97]⟩,mkN ⟨#[98]⟩])++encRx (mkS b33)) 32)::(b33,Cl [.int .i64 3, .string ⟨#[]⟩, .slice none 0 0] 32)::(n31,Cl ([mkN ⟨#[97]⟩,mkN ⟨#[98]⟩].flatMap encRx) 32)::(n2,Cl (encW (⟨wA,some ⟨n25,0,none⟩,2⟩:Wm)) 59)::(n25,Cl [.int .i64 0, .int .i64 1] 3)::((n1,Cl (encNm (exM x1 x2 x3)) 26)::(x3,Cl (exEdges.flatMap encE) 171)::(x2,Cl (exLinks.flatMap encLn) 95)::(x1,Cl (exK 4) 140)::H)))))))))))) (slQ dP) 7 encDt (dlE qb qc cb cc) from A5 (fun _=>rfl) hdP).mono (by exact sbt)).take 1) ((hqb ((n97,Cl (encRx (mkS b96)) 32)::(b96,Cl [.int .i64 3, .string ⟨#[]⟩, .slice none 0 0] 32)::(n92,Cl (encW (⟨wA,some ⟨n25,0,none⟩,2⟩:Wm)) 59)::((n9,Cl (encW ⟨wD1,qC,kC⟩) 59)::(MC++((n7,Cl (encW ⟨wZ,qB,kB⟩) 59)::(MB++((b5,Cl (encW ⟨wD0,qA,kA⟩) 59)::(MA++((b39,Cl [.int .i64 3, .string ⟨#[]⟩, .slice none 0 0] 32)::((n4,Cl (encRx (mkAB n34 n31 b33)) 32)::(n34,Cl (encRx (.mk 4 ⟨#[]⟩ (some ⟨n31,0,none⟩) 2 [mkN ⟨#[97]⟩,mkN ⟨#[98]⟩])++encRx (mkS b33)) 32)::(b33,Cl [.int .i64 3, .string ⟨#[]⟩, .slice none 0 0] 32)::(n31,Cl ([mkN ⟨#[97]⟩,mkN ⟨#[98]⟩].flatMap encRx) 32)::(n2,Cl (encW (⟨wA,some ⟨n25,0,none⟩,2⟩:Wm)) 59)::(n25,Cl [.int .i64 0, .int .i64 1] 3)::((n1,Cl (encNm (exM x1 x2 x3)) 26)::(x3,Cl (exEdges.flatMap encE) 171)::(x2,Cl (exLinks.flatMap encLn) 95)::(x1,Cl (exK 4) 140)::H))))))))))).mono (by exact sbt))) (slC d1) (slC d2) ((show Arr w0 (slH d1 ([(2:Int)].flatMap encI) 3++(slH d2 ([(1:Int),1].flatMap encI) 3++(slH dP ((dlE qb qc cb cc).flatMap encDt) 93++(MP++((n97,Cl (encRx (mkS b96)) 32)::(b96,Cl [.int .i64 3, .string ⟨#[]⟩, .slice none 0 0] 32)::(n92,Cl (encW (⟨wA,some ⟨n25,0,none⟩,2⟩:Wm)) 59)::((n9,Cl (encW ⟨wD1,qC,kC⟩) 59)::(MC++((n7,Cl (encW ⟨wZ,qB,kB⟩) 59)::(MB++((b5,Cl (encW ⟨wD0,qA,kA⟩) 59)::(MA++((b39,Cl [.int .i64 3, .string ⟨#[]⟩, .slice none 0 0] 32)::((n4,Cl (encRx (mkAB n34 n31 b33)) 32)::(n34,Cl (encRx (.mk 4 ⟨#[]⟩ (some ⟨n31,0,none⟩) 2 [mkN ⟨#[97]⟩,mkN ⟨#[98]⟩])++encRx (mkS b33)) 32)::(b33,Cl [.int .i64 3, .string ⟨#[]⟩, .slice none 0 0] 32)::(n31,Cl ([mkN ⟨#[97]⟩,mkN ⟨#[98]⟩].flatMap encRx) 32)::(n2,Cl (encW (⟨wA,some ⟨n25,0,none⟩,2⟩:Wm)) 59)::(n25,Cl [.int .i64 0, .int .i64 1] 3)::((n1,Cl (encNm (exM x1 x2 x3)) 26)::(x3,Cl (exEdges.flatMap encE) 171)::(x2,Cl (exLinks.flatMap encLn) 95)::(x1,Cl (exK 4) 140)::H)))))))))))))) (slQ d1) 1 encI [2] from A5 (fun _=>rfl) hd1).mono (by exact sbt)) (show Arr w0 _ (slQ d2) 1 encI [1] from ((show Arr w0 (slH d2 ([(1:Int),1].flatMap encI) 3++(slH dP ((dlE qb qc cb cc).flatMap encDt) 93++(MP++((n97,Cl (encRx (mkS b96)) 32)::(b96,Cl [.int .i64 3, .string ⟨#[]⟩, .slice none 0 0] 32)::(n92,Cl (encW (⟨wA,some ⟨n25,0,none⟩,2⟩:Wm)) 59)::((n9,Cl (encW ⟨wD1,qC,kC⟩) 59)::(MC++((n7,Cl (encW ⟨wZ,qB,kB⟩) 59)::(MB++((b5,Cl (encW ⟨wD0,qA,kA⟩) 59)::(MA++((b39,Cl [.int .i64 3, .string ⟨#[]⟩, .slice none 0 0] 32)::((n4,Cl (encRx (mkAB n34 n31 b33)) 32)::(n34,Cl (encRx (.mk 4 ⟨#[]⟩ (some ⟨n31,0,none⟩) 2 [mkN ⟨#[97]⟩,mkN ⟨#[98]⟩])++encRx (mkS b33)) 32)::(b33,Cl [.int .i64 3, .string ⟨#[]⟩, .slice none 0 0] 32)::(n31,Cl ([mkN ⟨#[97]⟩,mkN ⟨#[98]⟩].flatMap encRx) 32)::(n2,Cl (encW (⟨wA,some ⟨n25,0,none⟩,2⟩:Wm)) 59)::(n25,Cl [.int .i64 0, .int .i64 1] 3)::((n1,Cl (encNm (exM x1 x2 x3)) 26)::(x3,Cl (exEdges.flatMap encE) 171)::(x2,Cl (exLinks.flatMap encLn) 95)::(x1,Cl (exK 4) 140)::H))))))))))))) (slQ d2) 1 encI [1,1] from A5 (fun _=>rfl) hd2).mono (by exact sbt)).take 1))) ?_ U Ac;rintro _ _ ⟨qU,cU,tu,MU,⟨rfl,hU,htu⟩,rfl⟩;refine⟨sbt,(rP tb 5 U (Bj U (kO tb 2 [1,11,14,17,18,19,20] rfl U (rG tb 16 U (y_ (Lp U isAgg26 sizeOf26 U (by first|exact A2)) ?_ U)))))⟩;refine e_ (A7 (.cons An .nil) (C9)) ?_ U;rintro _ _ ⟨n163,rfl,rfl⟩;refine y_ (Bg (.cons (T U) (.cons An .nil)) (Hq _ _ _ _)) (rO tb 1 U (y_ (Bg (.cons An .nil) (Kb3)) ?_ U)) U;refine e_ (A1 (.cons (T U) (.cons (T U) (.cons (T U) (.cons An (.cons (T U) .nil))))) call35 (fol_e (show NetM w0 _ (exM x1 x2 x3) from Dr fdd fdd fdd) cT ((hT ((n123,Cl [.int .i64 1, .int .i64 1] 3)::(n117,Cl [.int .i64 2] 3)::(slH d1 ([(2:Int)].flatMap encI) 3++(slH d2 ([(1:Int),1].flatMap encI) 3++(slH dP ((dlE qb qc cb cc).flatMap encDt) 93++(MP++((n97,Cl (encRx (mkS b96)) 32)::(b96,Cl [.int .i64 3, .string ⟨#[]⟩, .slice none 0 0] 32)::(n92,Cl (encW (⟨wA,some ⟨n25,0,none⟩,2⟩:Wm)) 59)::((n9,Cl (encW ⟨wD1,qC,kC⟩) 59)::(MC++((n7,Cl (encW ⟨wZ,qB,kB⟩) 59)::(MB++((b5,Cl (encW ⟨wD0,qA,kA⟩) 59)::(MA++((b39,Cl [.int .i64 3, .string ⟨#[]⟩, .slice none 0 0] 32)::((n4,Cl (encRx (mkAB n34 n31 b33)) 32)::(n34,Cl (encRx (.mk 4 ⟨#[]⟩ (some ⟨n31,0,none⟩) 2 [mkN ⟨#[97]⟩,mkN ⟨#[98]⟩])++encRx (mkS b33)) 32)::(b33,Cl [.int .i64 3, .string ⟨#[]⟩, .slice none 0 0] 32)::(n31,Cl ([mkN ⟨#[97]⟩,mkN ⟨#[98]⟩].flatMap encRx) 32)::(n2,Cl (encW (⟨wA,some ⟨n25,0,none⟩,2⟩:Wm)) 59)::(n25,Cl [.int .i64 0, .int .i64 1] 3)::((n1,Cl (encNm (exM x1 x2 x3)) 26)::(x3,Cl (exEdges.flatMap encE) 171)::(x2,Cl (exLinks.flatMap encLn) 95)::(x1,Cl (exK 4) 140)::H)))))))))))))))).mono (by exact sbt)) htl 1 (Cq (fun _=>rfl) U (show Fnd _ n163 (Cl [.int .i64 1] 3) from fdd)))) ?_ U;rintro _ _ ⟨dF,st,lp,⟨rfl,hdF⟩,rfl⟩;refine e_ (Ap zeroValue77 cs_) ?_ U;rintro _ _ ⟨n21,rfl,rfl⟩
 first|refine A9 (Ls U U sizeOf77) U Ac ?_
 rintro _ _ ⟨rfl,rfl⟩;refine rO tb 3 U (B9 9 [(0,true),(1,true),(2,true),(3,true),(5,true),(6,true),(7,true),(8,true),(4,false)] _ mixd qkr sb0 ?_ By);refine o_y U (Lp U isAgg26 sizeOf26 U (by first|exact A2)) ?_ U Ac;refine rP tb 3 U (o_y U (Lp U isAgg26 sizeOf26 U (by first|exact A2)) ?_ U Ac);refine rP tb 3 U ?_;refine o_e U (A1 (qe4 U U U U) call36 (lost_e (show NetM w0 _ (exM x1 x2 x3) from Dr fdd fdd fdd) 1 (Gl (n25:=n25) (n92:=n92) fdd fdd) (slC d1) ((show Arr w0 (slH d1 ([(2:Int)].flatMap encI) 3++(slH d2 ([(1:Int),1].flatMap encI) 3++(slH dP ((dlE qb qc cb cc).flatMap encDt) 93++(MP++((n97,Cl (encRx (mkS b96)) 32)::(b96,Cl [.int .i64 3, .string ⟨#[]⟩, .slice none 0 0] 32)::(n92,Cl (encW (⟨wA,some ⟨n25,0,none⟩,2⟩:Wm)) 59)::((n9,Cl (encW ⟨wD1,qC,kC⟩) 59)::(MC++((n7,Cl (encW ⟨wZ,qB,kB⟩) 59)::(MB++((b5,Cl (encW ⟨wD0,qA,kA⟩) 59)::(MA++((b39,Cl [.int .i64 3, .string ⟨#[]⟩, .slice none 0 0] 32)::((n4,Cl (encRx (mkAB n34 n31 b33)) 32)::(n34,Cl (encRx (.mk 4 ⟨#[]⟩ (some ⟨n31,0,none⟩) 2 [mkN ⟨#[97]⟩,mkN ⟨#[98]⟩])++encRx (mkS b33)) 32)::(b33,Cl [.int .i64 3, .string ⟨#[]⟩, .slice none 0 0] 32)::(n31,Cl ([mkN ⟨#[97]⟩,mkN ⟨#[98]⟩].flatMap encRx) 32)::(n2,Cl (encW (⟨wA,some ⟨n25,0,none⟩,2⟩:Wm)) 59)::(n25,Cl [.int .i64 0, .int .i64 1] 3)::((n1,Cl (encNm (exM x1 x2 x3)) 26)::(x3,Cl (exEdges.flatMap encE) 171)::(x2,Cl (exLinks.flatMap encLn) 95)::(x1,Cl (exK 4) 140)::H)))))))))))))) (slQ d1) 1 encI [2] from A5 (fun _=>rfl) hd1).mono (by exact sbt)) cT ((hT ((n123,Cl [.int .i64 1, .int .i64 1] 3)::(n117,Cl [.int .i64 2] 3)::(slH d1 ([(2:Int)].flatMap encI) 3++(slH d2 ([(1:Int),1].flatMap encI) 3++(slH dP ((dlE qb qc cb cc).flatMap encDt) 93++(MP++((n97,Cl (encRx (mkS b96)) 32)::(b96,Cl [.int .i64 3, .string ⟨#[]⟩, .slice none 0 0] 32)::(n92,Cl (encW (⟨wA,some ⟨n25,0,none⟩,2⟩:Wm)) 59)::((n9,Cl (encW ⟨wD1,qC,kC⟩) 59)::(MC++((n7,Cl (encW ⟨wZ,qB,kB⟩) 59)::(MB++((b5,Cl (encW ⟨wD0,qA,kA⟩) 59)::(MA++((b39,Cl [.int .i64 3, .string ⟨#[]⟩, .slice none 0 0] 32)::((n4,Cl (encRx (mkAB n34 n31 b33)) 32)::(n34,Cl (encRx (.mk 4 ⟨#[]⟩ (some ⟨n31,0,none⟩) 2 [mkN ⟨#[97]⟩,mkN ⟨#[98]⟩])++encRx (mkS b33)) 32)::(b33,Cl [.int .i64 3, .string ⟨#[]⟩, .slice none 0 0] 32)::(n31,Cl ([mkN ⟨#[97]⟩,mkN ⟨#[98]⟩].flatMap encRx) 32)::(n2,Cl (encW (⟨wA,some ⟨n25,0,none⟩,2⟩:Wm)) 59)::(n25,Cl [.int .i64 0, .int .i64 1] 3)::((n1,Cl (encNm (exM x1 x2 x3)) 26)::(x3,Cl (exEdges.flatMap encE) 171)::(x2,Cl (exLinks.flatMap encLn) 95)::(x1,Cl (exK 4) 140)::H)))))))))))))))).mono (by exact sbt)) (.inl U) htl (evL1 htl))) ?_ U Ac;rintro _ _ ⟨dX,eX,⟨rfl,hdX,heX⟩,rfl⟩;refine⟨sbt,(Bj U ?_)⟩;refine e_ (A1 (qe4 U U U U) call36 (lost_e (show NetM w0 _ (exM x1 x2 x3) from Dr fdd fdd fdd) 1 (Gl (n25:=n25) (n92:=n92) fdd fdd) (slC d1) ((show Arr w0 (slH d1 ([(2:Int)].flatMap encI) 3++(slH d2 ([(1:Int),1].flatMap encI) 3++(slH dP ((dlE qb qc cb cc).flatMap encDt) 93++(MP++((n97,Cl (encRx (mkS b96)) 32)::(b96,Cl [.int .i64 3, .string ⟨#[]⟩, .slice none 0 0] 32)::(n92,Cl (encW (⟨wA,some ⟨n25,0,none⟩,2⟩:Wm)) 59)::((n9,Cl (encW ⟨wD1,qC,kC⟩) 59)::(MC++((n7,Cl (encW ⟨wZ,qB,kB⟩) 59)::(MB++((b5,Cl (encW ⟨wD0,qA,kA⟩) 59)::(MA++((b39,Cl [.int .i64 3, .string ⟨#[]⟩, .slice none 0 0] 32)::((n4,Cl (encRx (mkAB n34 n31 b33)) 32)::(n34,Cl (encRx (.mk 4 ⟨#[]⟩ (some ⟨n31,0,none⟩) 2 [mkN ⟨#[97]⟩,mkN ⟨#[98]⟩])++encRx (mkS b33)) 32)::(b33,Cl [.int .i64 3, .string ⟨#[]⟩, .slice none 0 0] 32)::(n31,Cl ([mkN ⟨#[97]⟩,mkN ⟨#[98]⟩].flatMap encRx) 32)::(n2,Cl (encW (⟨wA,some ⟨n25,0,none⟩,2⟩:Wm)) 59)::(n25,Cl [.int .i64 0, .int .i64 1] 3)::((n1,Cl (encNm (exM x1 x2 x3)) 26)::(x3,Cl (exEdges.flatMap encE) 171)::(x2,Cl (exLinks.flatMap encLn) 95)::(x1,Cl (exK 4) 140)::H)))))))))))))) (slQ d1) 1 encI [2] from A5 (fun _=>rfl) hd1).mono (by exact sbt)) cU ((hU (MT++((n123,Cl [.int .i64 1, .int .i64 1] 3)::(n117,Cl [.int .i64 2] 3)::(slH d1 ([(2:Int)].flatMap encI) 3++(slH d2 ([(1:Int),1].flatMap encI) 3++(slH dP ((dlE qb qc cb cc).flatMap encDt) 93++(MP++((n97,Cl (encRx (mkS b96)) 32)::(b96,Cl [.int .i64 3, .string ⟨#[]⟩, .slice none 0 0] 32)::(n92,Cl (encW (⟨wA,some ⟨n25,0,none⟩,2⟩:Wm)) 59)::((n9,Cl (encW ⟨wD1,qC,kC⟩) 59)::(MC++((n7,Cl (encW ⟨wZ,qB,kB⟩) 59)::(MB++((b5,Cl (encW ⟨wD0,qA,kA⟩) 59)::(MA++((b39,Cl [.int .i64 3, .string ⟨#[]⟩, .slice none 0 0] 32)::((n4,Cl (encRx (mkAB n34 n31 b33)) 32)::(n34,Cl (encRx (.mk 4 ⟨#[]⟩ (some ⟨n31,0,none⟩) 2 [mkN ⟨#[97]⟩,mkN ⟨#[98]⟩])++encRx (mkS b33)) 32)::(b33,Cl [.int .i64 3, .string ⟨#[]⟩, .slice none 0 0] 32)::(n31,Cl ([mkN ⟨#[97]⟩,mkN ⟨#[98]⟩].flatMap encRx) 32)::(n2,Cl (encW (⟨wA,some ⟨n25,0,none⟩,2⟩:Wm)) 59)::(n25,Cl [.int .i64 0, .int .i64 1] 3)::((n1,Cl (encNm (exM x1 x2 x3)) 26)::(x3,Cl (exEdges.flatMap encE) 171)::(x2,Cl (exLinks.flatMap encLn) 95)::(x1,Cl (exK 4) 140)::H))))))))))))))))).mono (by exact sbt)) (.inr U) htu (evL2 htu))) ?_ U;rintro _ _ ⟨dY,eY,⟨rfl,hdY,heY⟩,rfl⟩;refine kO tb 4 [21,22,23] rfl U (rG tb 3 U (y_ (Lo U isAgg41 (by first|exact c_o)) ?_ U));refine e_ (A7 (.cons An (.cons An (.cons An .nil))) (Kc2 _ _ _)) ?_ U;rintro _ _ ⟨n180,rfl,rfl⟩;refine y_ (Bb (qe2 U U) call17 (fun H' hs=>Jw (x:=[0,4,3]) ((show Arr w0 (slH dF ([(0:Int),4,3].flatMap encI) 3++H) (slQ dF) 1 encI [0,4,3] from A5 (fun _=>rfl) hdF).mono (stn hs)) (Cq (fun _=>rfl) U (hs.subset (show Fnd _ n180 (Cl [.int .i64 0, .int .i64 4, .int .i64 3] 3) from fdd))) qde)) ?_ U;refine rO tb 2 U (A3 (Lo U isAgg4 (by first|exact c_o)) U (Ax U U (Aa U)) ?_);refine rO tb 3 U (A3 (Lo U isAgg3 (by first|exact c_o)) U (Ax U U (Aa U)) ?_);refine rO tb 4 U ?_;refine A3 (Lp U isAgg74 sizeOf74 U (by first|exact(show Cells w0 _ _ _ (encHd (hdM 10001 0)) from Ce (o:=3) (k:=10) (l:=([slV dF 3, .int .i64 3, .int .i64 st]:List Value)++encHd (hdM 10001 0)++([.bool true, .bool lp]:List Value)) fdd)|exact A2)) U (Ax U U (Aa U)) ?_;refine A3 (Bg (.cons An .nil) (Kb1)) U (Ax U U (Aa U)) (A3 (yl_eqHdT (h:=hdM 10001 0) (T U) (T U)) U (Ax U U (Aa U)) (rO tb 8 U (A3 (Bl (T U) An runUnderlying80 sizeOf41 (by simp) (by first|exact rfl|exact hdX.bas qde|exact hdY.bas qde)) U (Ax U U (Aa U)) ?_)));refine A3 (Lo U isAgg41 (by first|exact c_o|exact(SlOk.cell (w0:=w0) (cells:=[slV eX ([]:List Nat).length]) (i:=0) (X:=H) (e:=41) hdX U U).mono (by exact sbt))) U (Ax U U (Aa U)) ?_;refine rO tb 10 U (A3 (Bl (T U) An runUnderlying80 sizeOf41 (by simp) (by first|exact rfl|exact hdX.bas qde|exact hdY.bas qde)) U (Ax U U (Aa U)) ?_);refine A3 (Lo U isAgg41 (by first|exact c_o|exact(SlOk.cell (w0:=w0) (cells:=[slV eY ([1]:List Nat).length]) (i:=0) (X:=H) (e:=41) hdY U U).mono (by exact sbt))) U (Ax U U (Aa U)) ?_;refine A9 (A7 (.cons An .nil) (C9)) U (Ax U U (Aa U)) ?_;rintro _ _ ⟨n218,rfl,rfl⟩;refine A3 (Bb (qe2 U U) call17 (fun H' hs=>Jw (x:=[1]) ((show Arr w0 (slH eY (([1]:List Nat).flatMap encU) 3++H) (slQ eY) 1 encI [1] from A5 (enc:=encI) (l:=[1]) (fun _=>rfl) heY).mono (stn hs)) (Cq (fun _=>rfl) U (hs.subset (show Fnd _ n218 (Cl [.int .i64 1] 3) from fdd))) qde)) U (Ax U U (Aa U)) ?_;refine kO tb 4 [0] rfl U (rG tb 1 U (As U (Ll U) ?_));exact⟨_,⟨rfl,rfl⟩,sbt⟩
theorem eq_two {d t t1 t2 o1 o2:Nat}(hu:prog.underlying t=some (.struct (prog.fieldsOf t)))(hp:prog.stoodInHeld t=false)(e3:(prog.fieldsOf t).toList.map (fun f=>(f.type,f.offset,f.name== "_"))=[(t1,o1,false),(t2,o2,false)]){xs:Array Value}{a b:Value}
  (p1:∀ w,(part t1 xs o1).run prog w= .ok a w) (p2:∀ w,(part t2 xs o2).run prog w= .ok b w) (q1:∀ w,(Op.equalIn d t1 a a).run prog w= .ok true w) (q2:∀ w,(Op.equalIn d t2 b b).run prog w= .ok true w) (w:World):(Op.equalIn (d+1) t (.agg xs) (.agg xs)).run prog w= .ok true w:=by
 rw[run_equalIn_struct w d t _ _ hu hp];obtain⟨f,g,hfg⟩:∃ f g,(prog.fieldsOf t).toList=[f,g]:=by
  generalize (prog.fieldsOf t).toList=l at e3;have hl:l.length=2:=by simpa using congrArg List.length e3
  match l,hl with
  |[f,g],_=>exact⟨f,g,rfl⟩
 rw[hfg] at e3 ⊢;simp only[List.map_cons,List.map_nil,List.cons.injEq,Prod.mk.injEq,and_true] at e3;obtain⟨⟨f1,f2,f3⟩,g1,g2,g3⟩:=e3;have f4:f.name≠ "_" :=by simpa using f3
 have g4:g.name≠ "_" :=by simpa using g3
 simp[Op.eqFields,f4,g4,f1,f2,g1,g2,Sem.run_bind,p1,p2,q1,q2]
theorem Lh {d:Nat}{xs:List Int}(hx:xs.length=10)(w:World):(Op.equalIn (d+2) 74 (.agg (xs.map (Value.int .i64)).toArray) (.agg (xs.map (Value.int .i64)).toArray)).run prog w= .ok true w:=by
 rw[eqHd d xs xs hx hx,decide_eq_true rfl]
abbrev matchL (tag:Int):List Value:=[z0,z0,z0,z0,z0,z0,z0,z0,z0,mx,z0,z0,z0,z0,z0,z0,z0,z0,z0, .int .i64 tag]
abbrev hdI (a b:Int):List Int:=[a,0,0,0,0,0,0,0,0,b]
abbrev hdK (a:Int):List Int:=[65535,0,0,0,0,0,0,0,0,a]
theorem eq_match (t:Int)(w:World):(Op.equal 121 (.agg (matchL t).toArray) (.agg (matchL t).toArray)).run prog w= .ok true w:=by
 unfold Op.equal Op.maxDepth;exact eq_two (t1:=74) (t2:=74) (o1:=0) (o2:=10) (a:= .agg ((hdI 0 65535).map (Value.int .i64)).toArray) (b:= .agg ((hdI 0 t).map (Value.int .i64)).toArray) qkr qkr qkr
  (fun w=>by simp[part,isAgg74,sizeOf74,Sem.run_bind,Result.andThen]) (fun w=>by simp[part,isAgg74,sizeOf74,Sem.run_bind,Result.andThen]) (fun w=>Lh (d:=9997) rfl w) (fun w=>Lh (d:=9997) rfl w) w
theorem eq_mod (k p t:Int)(d:Nat)(w:World):(Op.equalIn (d+3) 125 (.agg (modL k p t).toArray) (.agg (modL k p t).toArray)).run prog w= .ok true w:=
 eq_two (t1:=74) (t2:=74) (o1:=0) (o2:=10) (a:= .agg ((hdK k).map (Value.int .i64)).toArray) (b:= .agg ((hdI p t).map (Value.int .i64)).toArray) qkr qkr qkr
  (fun w=>by simp[part,isAgg74,sizeOf74,Sem.run_bind,Result.andThen]) (fun w=>by simp[part,isAgg74,sizeOf74,Sem.run_bind,Result.andThen]) (fun w=>Lh (d:=d) rfl w) (fun w=>Lh (d:=d) rfl w) w
theorem eq_al (a:Al)(w:World):(Op.equal 127 (.agg (encAl a).toArray) (.agg (encAl a).toArray)).run prog w= .ok true w:=by
 unfold Op.equal Op.maxDepth;refine eq_two (t1:=3) (t2:=125) (o1:=0) (o2:=1) (a:= .int .i64 a.link) (b:= .agg (modL a.k a.p a.t).toArray) qkr qkr qkr
  (fun w=>by simp[part,isAgg3,Sem.run_bind,Result.andThen]) (fun w=>by simp[part,isAgg125,sizeOf125,Sem.run_bind,Result.andThen]) (fun w=> ?_) (fun w=>eq_mod _ _ _ 9996 w) w
 rw[run_equalIn_int (P:=prog) w 9998 3 .i64 .i64 a.link a.link (show prog.underlying 3=some (.int .i64) from by kernel_rfl)];simp
theorem yl_eqMatch {w0:World}{L:Fm}{H:List (Nat × Obj)}{ty yt:TypeId}{x y:Operand}{t:Int}(hx:Ev L x (.agg (matchL t).toArray))(hy:Ev L y (.agg (matchL t).toArray)):Yl prog w0 (.binOp .eql 121 x y yt) ty L H (.bool true):=B3 rfl fun b' w=>by
 have e:=eq_match t w;have e2:=eqGuardType121;simp[exO,execOp,hx b',hy b',binOp,eqGuard,Sem.run_bind,Result.andThen,e,e2]
theorem yl_neAl {w0:World}{L:Fm}{H:List (Nat × Obj)}{ty yt:TypeId}{x y:Operand}{a:Al}(hx:Ev L x (.agg (encAl a).toArray))(hy:Ev L y (.agg (encAl a).toArray)):Yl prog w0 (.binOp .neq 127 x y yt) ty L H (.bool false):=B3 U fun b' w=>by
 have e:=eq_al a w;have e2:=eqGuardType127;simp[exO,execOp,hx b',hy b',binOp,eqGuard,Sem.run_bind,Result.andThen,e,e2]
def rsP (ls:List Lnk) (ws:List Wm) (l:List Dtm) (tags:List Int) (x t:Int) (j:Nat):Bool:=goesF ls (gd ws j).way x&&(decide (gd tags j=t)&&(detF ls ws l j x).isSome)
def rsV (ls:List Lnk) (ws:List Wm) (l:List Dtm) (dt:List Int) (x:Int) (j:Nat):Int × Int:=(gd (gd l ((detF ls ws l j x).getD 0)).m.way.links 0,gd dt ((detF ls ws l j x).getD 0))
def rsF (ls:List Lnk) (ws:List Wm) (l:List Dtm) (tags dt:List Int) (m:Nat) (x t:Int):Option (Int × Int):=
 ((List.range m).find? (rsP ls ws l tags x t)).map (rsV ls ws l dt x)
section
variable {ls:List Lnk} {ws:List Wm} {l:List Dtm} {tags dt:List Int} {x t:Int} {m:Nat}
theorem rsF_old {v:Int × Int}(h:rsF ls ws l tags dt m x t=some v):rsF ls ws l tags dt (m+1) x t=some v:=by
 unfold rsF at *;rw[List.range_succ,List.find?_append];cases hf:(List.range m).find? (rsP ls ws l tags x t) with
 |none=>rw[hf] at h;cases h
 |some j=>rw[hf] at h;exact h
theorem rsF_no (h:rsF ls ws l tags dt m x t=none)(hp:rsP ls ws l tags x t m=false):rsF ls ws l tags dt (m+1) x t=none:=by
 unfold rsF at *;rw[List.range_succ,List.find?_append];cases hf:(List.range m).find? (rsP ls ws l tags x t) with
 |none=>simp[hp]
 |some j=>rw[hf] at h;cases h
theorem rsF_keep (hp:rsP ls ws l tags x t m=false):rsF ls ws l tags dt (m+1) x t=rsF ls ws l tags dt m x t:=by
 cases h:rsF ls ws l tags dt m x t with
 |none=>exact rsF_no h hp
 |some v=>exact rsF_old h
theorem rsF_yes (h:rsF ls ws l tags dt m x t=none)(hp:rsP ls ws l tags x t m=true):rsF ls ws l tags dt (m+1) x t=some (rsV ls ws l dt x m):=by
 unfold rsF at *;rw[List.range_succ,List.find?_append];cases hf:(List.range m).find? (rsP ls ws l tags x t) with
 |none=>simp[hp]
 |some j=>rw[hf] at h;cases h
end
theorem rsF_sc {n:Nm}{steps:Int}{ws:List Wm}{l:List Dtm}{tags dt:List Int}(ho:GpOk n ws l)(hr:DtRt n steps ws l)(h:GrOk n ws l tags dt)(x t:Int):rsF n.links ws l tags dt ws.length x t=scF n.links ws l tags dt l.length x t:=by
 unfold rsF;cases hf:(List.range ws.length).find? (rsP n.links ws l tags x t) with
 |some j=>
  have h1:=List.find?_some hf;unfold rsP at h1;rw[Bool.and_eq_true,Bool.and_eq_true,decide_eq_true_eq] at h1;obtain⟨d,hd⟩:=Option.isSome_iff_exists.1 h1.2.2;obtain⟨k1,k2,k3⟩:=Di hd;rw[sc_of ho hr h k1 k3 (by rw[k2];exact h1.2.1)];unfold rsV;rw[Option.map_some,hd];rfl
 |none=>
  symm
  refine sc_noneG fun k hk ⟨e1,e2⟩=> ?_
  have h1:=ho.d.w _ (Ao hk);have h2:=ho.d.p _ (Ao hk);have hj:(gd l k).way.toNat<ws.length:=by omega
  have h3:=List.find?_eq_none.1 hf (gd l k).way.toNat (List.mem_range.2 hj);refine h3 ?_;unfold rsP;have hm:=Ao hj;have hw:(((gd l k).way.toNat:Nat):Int)=(gd l k).way:=by omega
  have h4:detF n.links ws l ((gd l k).way.toNat:Nat) x=some k:=by rw[hw,<- e1];exact det_eq ho.d ho.gw.nd hk
  rw[h4,decide_eq_true e2,(Iv (ho.gw.nd _ hm) (ho.gw.inr _ hm)).2 ⟨(gd l k).place.toNat,by omega,e1⟩]
  rfl
theorem secT_rs {n:Nm}{steps:Int}{ws:List Wm}{l:List Dtm}{tags dt:List Int}(ho:GpOk n ws l)(hr:DtRt n steps ws l)(h:GrOk n ws l tags dt)(ts:List (List Rul)):secT n.links ws l tags dt ts=ts.mapIdx fun x rs=>rs.map fun r=>(r,rsF n.links ws l tags dt ws.length x r.tag):=by
 unfold secT;refine List.ext_getElem (by simp) fun k h1 h2=> ?_
 rw[List.getElem_mapIdx,List.getElem_mapIdx];exact List.map_congr_left fun r _=>by rw[rsF_sc ho hr h]
theorem H4 {w0:World}{L:Fm}{H:List (Nat × Obj)}{ty yt xt:TypeId}{x y:Operand}{a:Int}{k:IntKind}(hx:Ev L x (.int k a))(hy:Ev L y (.int k a)):Yl prog w0 (.binOp .neq xt x y yt) ty L H (.bool false):=by
 have h:=F7 (P:=prog) (w0:=w0) (H:=H) (ty:=ty) (yt:=yt) (xt:=xt) hx hy
 rwa [show decide (¬ a=a)=false by simp] at h
theorem walk_get {ls:List Lnk}:∀ {path:List Int} {a:Int},(walkF ls a path).2=true->∀ p,p<path.length->(gd ls (gd path p).toNat).src=gd (a::path.map (dstOf ls)) p
 |[],a,_,p,hp=>absurd hp (Nat.not_lt_zero p)
 |l::path,a,h,p,hp=>by
  by_cases hc:0<=l/\l<ls.length/\(gd ls l.toNat).src=a
  ·rw[Gv hc] at h;cases p with
   |zero=>exact hc.2.2
   |succ p=>
    have:=walk_get h p (by simpa using hp);exact this
  ·rw[Es hc] at h;cases h
theorem walk_fst {ls:List Lnk}:∀ {path:List Int} {a:Int},(walkF ls a path).2=true->(walkF ls a path).1=gd (a::path.map (dstOf ls)) path.length
 |[],a,_=>rfl
 |l::path,a,h=>by
  by_cases hc:0<=l/\l<ls.length/\(gd ls l.toNat).src=a
  ·rw[Gv hc] at h ⊢;exact walk_fst h
  ·rw[Es hc] at h;cases h
section
variable {n:Nm} {steps:Int} {ws:List Wm} {l:List Dtm}
theorem rl_inc (h:∀ k,k<l.length->RlOk n steps ws l k):∀ (d i:Nat),i+d+1<l.length->(gd l i).way<(gd l (i+d+1)).way\/((gd l i).way=(gd l (i+d+1)).way/\(gd l i).place<(gd l (i+d+1)).place)
 |0,i,hi=>by
  have:=(h (i+1) hi).c2;rw[show i+1 - 1=i by omega] at this;rcases this with h1|h1
  ·omega
  ·exact h1
 |d+1,i,hi=>by
  have h1:=rl_inc h d i qom;have h2:=(h (i+(d+1)+1) hi).c2;rw[show i+(d+1)+1 - 1=i+d+1 by omega] at h2;omega
theorem rl_in (h:∀ k,k<l.length->RlOk n steps ws l k):DtIn n.links ws l:=by
 have key:∀ d∈l,0<=d.way/\d.way<ws.length/\0<=d.place/\d.place<(gd ws d.way.toNat).way.links.length:=fun d hd=>by
  obtain⟨k,hk,rfl⟩:=List.getElem_of_mem hd;have:=(h k hk).c1;rw[Ay hk] at this;have h2:rlW ws l k=(gd ws l[k].way.toNat).way:=by unfold rlW;rw[Ay hk]
  rwa [h2] at this
 refine⟨fun d hd=>⟨(key d hd).1,(key d hd).2.1⟩,fun d hd=>(key d hd).2.2,fun i j h1 h2=> ?_⟩;obtain⟨d,rfl⟩:∃ d,j=i+d+1:=⟨j - i - 1,by omega⟩;exact rl_inc h d i h2
theorem G4 (h:∀ k,k<l.length->RlOk n steps ws l k):∀ d∈l,oneF n steps d.m.way=0:=fun d hd=>by
 obtain⟨k,hk,rfl⟩:=List.getElem_of_mem hd;have:=(h k hk).c3.1;rw[Ay hk] at this;exact(chk_one.1 this).2
theorem rl_gw (hR:Rt n steps ws 8)(h:∀ k,k<l.length->RlOk n steps ws l k):Gw n (l.map Dtm.m) where
 nd:=fun m hm=>by obtain⟨x,hx,rfl⟩:=List.mem_map.1 hm;exact(Dw (G4 h x hx)).nd
 inr:=fun m hm=>by obtain⟨x,hx,rfl⟩:=List.mem_map.1 hm;exact(Jt hR.net (Dw (G4 h x hx))).1
 at':=fun m hm=>by obtain⟨x,hx,rfl⟩:=List.mem_map.1 hm;exact(Jt hR.net (Dw (G4 h x hx))).2
 len:=fun m hm=>by obtain⟨x,hx,rfl⟩:=List.mem_map.1 hm;have:=one_few hR.net (G4 h x hx);have:=hR.ln;omega
theorem rt_gw (hR:Rt n steps ws 8):Gw n ws:=net_gw hR.net hR.ways hR.few
theorem K8 (hR:Rt n steps ws 8):∀ m∈ws,m.way.links.length<=20:=fun m hm=>by
 obtain⟨i,hi,rfl⟩:=List.getElem_of_mem hm;rw[<- Ay hi];exact hR.few i hi
theorem rl_gp (hR:Rt n steps ws 8)(hl:l.length<=20)(h:∀ k,k<l.length->RlOk n steps ws l k):GpOk n ws l:=
 ⟨rl_in h,rt_gw hR,rl_gw hR h,by have:=hR.most;omega,by omega,fun m hm=>by have:=K8 hR m hm;omega⟩
theorem rl_rt (hR:Rt n steps ws 8)(h:∀ k,k<l.length->RlOk n steps ws l k):DtRt n steps ws l:=by
 have hin:=rl_in h;have hw:∀ d∈l,(walkF n.links (gd ws d.way.toNat).way.src (gd ws d.way.toNat).way.links).2=true:=fun d hd=>(Dw (hR.ways _ (Ao (by have:=hin.w d hd;omega)))).walk
 have hd':∀ d∈l,(walkF n.links d.m.way.src d.m.way.links).2=true:=fun d hd=>(Dw (G4 h d hd)).walk
 have at':∀ d∈l,∃ k,k<l.length/\gd l k=d:=fun d hd=>by
  obtain⟨k,hk,rfl⟩:=List.getElem_of_mem hd;exact⟨k,hk,Ay hk⟩
 refine⟨G4 h,fun d hd=> ?_,fun d hd=> ?_,fun d hd=> ?_,fun d hd=> ?_,fun d hd=> ?_,fun d hd=> ?_,fun d hd=> ?_⟩
 all_goals obtain⟨k,hk,rfl⟩:=at' d hd
 all_goals have h3:=(h k hk).c3
 ·have:=h3.2.1;omega
 ·have h4:=hin.p _ hd;rw[h3.2.2.1];show (gd n.links (gd (rlW ws l k).links (gd l k).place.toNat).toNat).src=gd (nodesF n.links (rlW ws l k)) (gd l k).place.toNat
  rw[Dc];exact walk_get (hw _ hd) _ (by show _<(gd ws (gd l k).way.toNat).way.links.length;omega)
 ·have h5:=h3.2.2.2.2.2.2;rw[Dc,Dc] at h5;rw[walk_fst (hd' _ hd),walk_fst (hw _ hd)];exact h5
 ·exact h3.2.2.2.1
 ·exact h3.2.2.2.2.1
 ·exact h3.2.2.2.2.2.1
 ·exact(h k hk).c4
theorem grgt_same (ho:GpOk n ws l)(tags dt:List Int):grgt (agrP n.links ws l dt) ws.length (rgtF n.links [] (dways l) dt) tags dt=grgt (agrR n.links n.nodes.length ws l dt) ws.length (rgtF n.links [] (dways l) dt) tags dt:=by
 by_cases hr:rgtF n.links [] (dways l) dt=true
 ·have hlen:=rgtF_len hr;rw[F3] at hlen;have hb:=(Iu ho.gd (by rw[List.length_map];exact hlen) hr).2;unfold grgt
  by_cases ht:tags.length=ws.length
  ·congr 1
   rw[Bool.eq_iff_iff,List.all_eq_true,List.all_eq_true];have key:∀ i∈List.range tags.length,(decide (1<=gd tags i/\gd tags i<=65535/\gd tags i∉dt)&& !clsF (agrP n.links ws l dt) (tags.take i) i (gd tags i))=(decide (1<=gd tags i/\gd tags i<=65535/\gd tags i∉dt)&& !clsF (agrR n.links n.nodes.length ws l dt) (tags.take i) i (gd tags i)):=fun i hi=>by
    have hi:=List.mem_range.1 hi;rw[cls_congr (g:=agrR n.links n.nodes.length ws l dt) (fun k hk=>agr_same (fun k hk=>(hb k qom).1) ho.gw.nd ho.gw.inr ho.gw.at' qom (by rw[List.length_take] at hk;omega))]
   exact⟨fun h i hi=>by rw[<- key i hi];exact h i hi,fun h i hi=>by rw[key i hi];exact h i hi⟩
  ·rw[decide_eq_false ht];rfl
 ·have hr:rgtF n.links [] (dways l) dt=false:=by simpa using hr
  unfold grgt;rw[hr,Bool.and_false,Bool.false_and,Bool.false_and]
end
theorem yl_eqs {w0:World}{L:Fm}{H:List (Nat × Obj)}{ty yt xt:TypeId}{x y:Operand}{a:Int}{k:IntKind}(hx:Ev L x (.int k a))(hy:Ev L y (.int k a)):Yl prog w0 (.binOp .eql xt x y yt) ty L H (.bool true):=by
 have h:=D9 (P:=prog) (w0:=w0) (H:=H) (ty:=ty) (yt:=yt) (xt:=xt) hx hy
 rwa [show decide (a=a)=true by simp] at h
theorem Ka4 {a0:Int}(w:World):(Instr.build 127 #[(0, .int .i64 a0)]).run prog w= .ok (.agg #[.int .i64 a0, .int .i64 0, .int .i64 0, .int .i64 0, .int .i64 0, .int .i64 0, .int .i64 0, .int .i64 0, .int .i64 0, .int .i64 0, .int .i64 0, .int .i64 0, .int .i64 0, .int .i64 0, .int .i64 0, .int .i64 0, .int .i64 0, .int .i64 0, .int .i64 0, .int .i64 0, .int .i64 0]) w:=by kernel_rfl
theorem rsec_g {w0:World}{H:List (Nat × Obj)}(d:Dtm)(hd:WayM w0 H d.m)(hne:0<d.m.way.links.length)(t:Int):
  FSpec prog w0 70 #[.agg (encDt d).toArray, .int .i64 t] H (Still (.agg (encAl (alSec (gd d.m.way.links 0,t))).toArray) H):=by
 refine Az func70 U ntmps70 U (rD tb 2 U (e_ (Lt U cs_) ?_ U));rintro _ _ ⟨n2,rfl,rfl⟩;refine e_ (Ap zeroValue127 cs_) ?_ U;rintro _ _ ⟨n4,rfl,rfl⟩;refine rO tb 6 U (y_ (Lo U isAgg41 (by first|exact c_o)) ?_ U);refine y_ (Bl (T U) An runUnderlying41 sizeOf3 (by exact⟨by decide,by omega⟩) (by first|exact rfl|exact hd.links.b (i:=0) hne)) ?_ U;refine y_ (Lo U isAgg3 (by first|exact c_o|exact(hd.links.mono (by exact sbt)).f0 (i:=0) hne U)) ?_ U;refine y_ (Bg (.cons (T U) .nil) (Ka4)) (e_ (Ap zeroValue127 cs_) ?_ U) U;rintro _ _ ⟨n5,rfl,rfl⟩
 first|refine A9 (Ls U U sizeOf127) U Ac ?_
 rintro _ _ ⟨rfl,rfl⟩;refine rO tb 6 U (y_ (Cm (T U) An runUnderlying74 sizeOf3 qom) ?_ U)
 first|refine A9 (Ar (T U) An sizeOf3) U Ac ?_|refine A9 (B1 (T U) An U sizeOf3) U Ac ?_|refine A9 (Bu (T U) An U sizeOf3) U Ac ?_
 rintro _ _ ⟨rfl,rfl⟩;refine rO tb 5 U (y_ (Lo U isAgg3 (by first|exact c_o)) ?_ U);refine rO tb 2 U (y_ (Cm (T U) An runUnderlying74 sizeOf3 qom) ?_ U)
 first|refine A9 (Ls U U sizeOf3) U Ac ?_|refine A9 (B1 (T U) (T U) U sizeOf3) U Ac ?_|refine A9 (Bu (T U) (T U) U sizeOf3) U Ac ?_
 rintro _ _ ⟨rfl,rfl⟩;refine rO tb 6 U (y_ (Cm (T U) An runUnderlying74 sizeOf3 qom) ?_ U)
 first|refine A9 (Ar (T U) An sizeOf3) U Ac ?_|refine A9 (B1 (T U) An U sizeOf3) U Ac ?_|refine A9 (Bu (T U) An U sizeOf3) U Ac ?_
 rintro _ _ ⟨rfl,rfl⟩;refine rO tb 7 U (y_ (Cm (T U) An runUnderlying74 sizeOf3 qom) ?_ U)
 first|refine A9 (Ls U U sizeOf3) U Ac ?_|refine A9 (B1 (T U) (T U) U sizeOf3) U Ac ?_|refine A9 (Bu (T U) (T U) U sizeOf3) U Ac ?_
 rintro _ _ ⟨rfl,rfl⟩;refine rO tb 4 U (y_ (Lp U isAgg127 sizeOf127 U (by first|exact A2)) ?_ U)
 first|refine A9 (Ls U U sizeOf127) U Ac ?_
 rintro _ _ ⟨rfl,rfl⟩;refine kO tb 2 [4] rfl U (rG tb 1 U (As U (.cellA (Aa U) isAgg127 sizeOf127 U (by first|exact A2) .nil) ?_));exact⟨_,⟨rfl,rfl⟩,sbt⟩
theorem TsOk.put {w0:World}{M:List (Nat × Obj)}{ts:List Ts}(h:TsOk w0 M ts){x a:Nat}(hx:x<ts.length){m:Rs}(hm:∀ X,RuM w0 (M++X) (ruOf m)):TsOk w0 M (ts.set x ⟨(gd ts x).d,(gd ts x).rs.set a m⟩):=by
 refine⟨fun t ht=> ?_,fun t ht m' hm' X=> ?_,fun t ht=> ?_⟩
 ·rcases List.mem_or_eq_of_mem_set ht with h1|rfl
  ·exact h.d t h1
  ·show SlOk _ ((gd ts x).rs.set a m).length 23;rw[List.length_set];exact h.d _ (Ao hx)
 ·rcases List.mem_or_eq_of_mem_set ht with h1|rfl
  ·exact h.r t h1 m' hm' X
  ·rcases List.mem_or_eq_of_mem_set hm' with h2|rfl
   ·exact h.r _ (Ao hx) m' h2 X
   ·exact hm _
 ·rcases List.mem_or_eq_of_mem_set ht with h1|rfl
  ·exact h.n t h1
  ·show ((gd ts x).rs.set a m).length<=_;rw[List.length_set];exact h.n _ (Ao hx)
theorem TsOk.grow {w0:World}{M:List (Nat × Obj)}{ts:List Ts}(h:TsOk w0 M ts)(p q:Nat × Obj):TsOk w0 (p::q::M) ts:=
 ⟨h.d,fun t ht m hm X=>(h.r t ht m hm X).mono (List.Sublist.cons _ (List.Sublist.cons _ (List.Sublist.refl _))),h.n⟩
theorem als_gt {h:Hop}{s:Option (Int × Int)}:1<(alsOf h s).length↔s.isSome=true:=by
 cases s<;>simp[alsOf]
section
variable {ls:List Lnk} {ws:List Wm} {l:List Dtm} {tags:List Int} {x t:Int} {j:Nat}
theorem rsP_goes (h:goesF ls (gd ws j).way x=false):rsP ls ws l tags x t j=false:=by unfold rsP;rw[h];rfl
theorem rsP_tag (h: ¬ gd tags j=t):rsP ls ws l tags x t j=false:=by unfold rsP;rw[decide_eq_false h,Bool.false_and,Bool.and_false]
theorem rsP_det (h:detF ls ws l (j:Nat) x=none):rsP ls ws l tags x t j=false:=by unfold rsP;rw[h];simp
theorem rsP_all {d:Nat}(h1:goesF ls (gd ws j).way x=true)(h2:gd tags j=t)(h3:detF ls ws l (j:Nat) x=some d):rsP ls ws l tags x t j=true:=by unfold rsP;rw[h1,h3,decide_eq_true h2];rfl
theorem rsV_at {dt:List Int}{d:Nat}(h3:detF ls ws l (j:Nat) x=some d):rsV ls ws l dt x j=(gd (gd l d).m.way.links 0,gd dt d):=by unfold rsV;rw[h3];rfl
end
structure RowOk (R:List (List Rul)) (f:Nat->Rul->Option (Int × Int)) (cs:List (List Cor)) (k i:Nat):Prop where
 n:cs.length=R.length
 l:∀ x,x<R.length->(gd cs x).length=(gd R x).length
 e:∀ x,x<R.length->∀ a,a<(gd R x).length->gd (gd cs x) a=(gd (gd R x) a,if x<k\/(x=k/\a<i) then f x (gd (gd R x) a) else none)
section
variable {R:List (List Rul)} {f:Nat->Rul->Option (Int × Int)} {cs:List (List Cor)} {k i:Nat}
theorem row_start:RowOk R f (R.map fun rs=>rs.map fun r=>(r,none)) 0 0:=by
 refine⟨List.length_map ..,fun x hx=>by rw[Cr hx,List.length_map],fun x hx a ha=> ?_⟩;rw[Cr hx,Cr ha,if_neg qom]
theorem row_next (h:RowOk R f cs k i)(hk:k<R.length)(hi:i<(gd R k).length){c:Cor}(hc:c=(gd (gd R k) i,f k (gd (gd R k) i))):RowOk R f (cs.set k ((gd cs k).set i c)) k (i+1):=by
 subst hc;have hk2:k<cs.length:=by rw[h.n];exact hk
 refine⟨by rw[List.length_set];exact h.n,fun x hx=> ?_,fun x hx a ha=> ?_⟩
 ·by_cases e:x=k
  ·subst e;rw[Hz _ hk2,List.length_set];exact h.l x hx
  ·rw[El _ e];exact h.l x hx
 ·by_cases e:x=k
  ·subst e;rw[Hz _ hk2]
   by_cases e2:a=i
   ·subst e2;rw[Hz _ (by rw[h.l x hx];exact ha),if_pos qom]
   ·rw[El _ e2,h.e x hx a ha]
    by_cases e3:a<i
    ·rw[if_pos qom,if_pos qom]
    ·rw[if_neg qom,if_neg qom]
  ·rw[El _ e,h.e x hx a ha]
   by_cases e3:x<k
   ·rw[if_pos qom,if_pos qom]
   ·rw[if_neg qom,if_neg qom]
theorem row_end (h:RowOk R f cs k (gd R k).length):RowOk R f cs (k+1) 0:=by
 refine⟨h.n,h.l,fun x hx a ha=> ?_⟩;rw[h.e x hx a ha]
 by_cases e:x=k
 ·subst e;rw[if_pos qom,if_pos qom]
 ·by_cases e3:x<k
  ·rw[if_pos qom,if_pos qom]
  ·rw[if_neg qom,if_neg qom]
theorem row_fin (h:RowOk R f cs R.length 0):cs=R.mapIdx fun x rs=>rs.map fun r=>(r,f x r):=by
 refine List.ext_getElem (by rw[h.n];simp) fun x h1 h2=> ?_
 have hx:x<R.length:=by rw[<- h.n];exact h1
 rw[List.getElem_mapIdx,<- Ay h1];refine List.ext_getElem (by rw[h.l x hx,List.length_map,Ay hx]) fun a h3 h4=> ?_
 have ha:a<(gd R x).length:=by rw[<- h.l x hx];exact h3
 rw[<- Ay h3,h.e x hx a ha,if_pos (Or.inl hx),List.getElem_map];have e:gd (gd R x) a=R[x][a]'(by rw[<- Ay hx];exact ha):=by rw[Ay ha];congr 1;exact Ay hx
 rw[e]
theorem row_cur {ts:List Ts}(h:RowOk R f (corT ts) k i)(hk:k<R.length)(hi:i<(gd R k).length):k<ts.length/\(gd ts k).rs.length=(gd R k).length/\(gd (gd ts k).rs i).r=gd (gd R k) i/\(gd (gd ts k).rs i).s=none:=by
 have h1:k<ts.length:=by have:=h.n;rw[Jl] at this;omega
 have h2:=h.l k hk;rw[Hv h1] at h2;have h3:=h.e k hk i hi;rw[cor_gd h1 qom,if_neg qom] at h3;exact⟨h1,h2,(Prod.mk.inj h3).1,(Prod.mk.inj h3).2⟩
end
abbrev tbR (ts:List Tb):List (List Rul):=ts.map fun t=>t.rs.map (·.r)
abbrev rsG (n:Nm) (ws:List Wm) (l:List Dtm) (tags dt:List Int) (x:Nat) (r:Rul):Option (Int × Int):=rsF n.links ws l tags dt ws.length (x:Nat) r.tag
theorem rrules_g {w0:World}{H:List (Nat × Obj)}(n:Nm)(ws:List Wm)(qw:Option Addr)(cw:Nat)(l:List Dtm)(ql:Option Addr)(cl:Nat)(hM:GpM w0 H n ws qw l ql)(ho:GpOk n ws l)(steps:Int)(hrt:DtRt n steps ws l)(tags:List Int)(q1:Option Addr)(c1:Nat)(hG:Arr w0 H q1 1 encI tags)(dt:List Int)(q2:Option Addr)(c2:Nat)(hD:Arr w0 H q2 1 encI dt)(hgr:GrOk n ws l tags dt)(hN:n.nodes.length<=100000)(hlks:∀ m∈ws,m.way.links.length<=100000)(top:Int):
  FSpec prog w0 22 #[.agg (encNm n).toArray, .slice qw ws.length cw, .slice ql l.length cl, .slice q1 tags.length c1, .slice q2 dt.length c2, .int .i64 top] H (fun v H'=>∃ (q:Option Addr) (c:Nat) (tl:List Tl) (e:Int) (M:List (Nat × Obj)),(v= .tuple #[.slice q tl.length c, .int .i64 e]/\(∀ X,TlsM w0 (M++X) q tl)/\(tl.map (fun t=>t.rs.map ruC),e)=grulF n ws l tags dt top)/\H'=M++H):=by
 refine Az func22 U ntmps22 U ?_;have hlw:=ho.lw;have hll:=ho.ll;have htl:=hgr.tl;have hdl:=hgr.dl;have hml:(l.map Dtm.m).length=dt.length:=by rw[List.length_map,hdl]
 have hwl:(ws++l.map Dtm.m).length=(tags++dt).length:=by rw[List.length_append,List.length_append,htl,hml]
 have hwl2:(tags++dt).length<=200:=by rw[List.length_append];omega
 refine rD tb 2 U (e_ (Lt U cs_) ?_ U);rintro _ _ ⟨n6,rfl,rfl⟩;refine rO tb 6 U (e_ (A7 .nil (ybs27_0_z)) ?_ U);rintro _ _ ⟨n24,rfl,rfl⟩;refine rO tb 1 U (e_ (Gk (ws) (by':=56) (enc:=encW) (by first|exact rfl|omega) (by repeat (first|exact locH1|exact LocL.h|apply LocL.t|apply LocL.a)) (T U) (T U) runUnderlying27 runUnderlying27 sizeOf59 typeInfo59 U zeroValue59 U (fun _=>rfl) (fun _=>rfl) qde qom (hM.w.arr.mono (by exact sbt))) ?_ U);rintro _ _ ⟨dC,rfl,hdC,rfl⟩;refine rO tb 1 U (e_ (A1 (qe1 U) call55 (rall_g ql cl l (hM.a.mono (by exact sbt)) qom)) ?_ U);rintro _ _ ⟨dA,⟨rfl,hdA⟩,rfl⟩;refine e_ (F0 (l.map Dtm.m) (l:=ws) (d:=dC) (enc:=encW) (by':=56) U qlc (T U) (T U) runUnderlying27 runUnderlying27 sizeOf59 typeInfo59 U zeroValue59 U (fun _=>rfl) (fun _=>rfl) hdC qde (by rw[List.length_map];omega) ((show Arr w0 (slH dA ((l.map Dtm.m).flatMap encW) 59++H) (slQ dA) 5 encW (l.map Dtm.m) from A5 (fun _=>rfl) hdA).mono (by exact sbt))) ?_ U;rintro _ _ ⟨d30,rfl,hd30,rfl⟩;refine rO tb 5 U (e_ (A7 .nil (ybs41_0_z)) ?_ U);rintro _ _ ⟨n30,rfl,rfl⟩;refine rO tb 1 U (e_ (Gk (tags) (by':=8) (enc:=encI) (by first|exact rfl|omega) (by repeat (first|exact locH1|exact LocL.h|apply LocL.t|apply LocL.a)) (T U) (T U) runUnderlying41 runUnderlying41 sizeOf3 typeInfo3 U zeroValue3 U (fun _=>rfl) (fun _=>rfl) qde qom (hG.mono (by exact sbt))) ?_ U);rintro _ _ ⟨dG,rfl,hdG,rfl⟩;refine rO tb 1 U (e_ (F0 dt (l:=tags) (d:=dG) (enc:=encI) (by':=8) U qlc (T U) (T U) runUnderlying41 runUnderlying41 sizeOf3 typeInfo3 U zeroValue3 U (fun _=>rfl) (fun _=>rfl) hdG qde qom (hD.mono (by exact sbt))) ?_ U);rintro _ _ ⟨d34,rfl,hd34,rfl⟩;refine rO tb 5 U (y_ (Lp U isAgg26 sizeOf26 U (by first|exact A2)) ?_ U);refine rO tb 3 U ?_;refine e_ (A1 (qe4 U U U U) call67 (rRules_s n (hM.n.mono (by exact sbt)) (slQ d30) (slC d30) (ws++l.map Dtm.m) ⟨(show Arr w0 (slH d30 ((ws++l.map Dtm.m).flatMap encW) 59++H) (slQ d30) 5 encW (ws++l.map Dtm.m) from A5 (fun _=>rfl) hd30).mono (by exact sbt),fun m hm=>(by
   rcases List.mem_append.1 hm with h|h
   ·exact(hM.w.each m h).mono (by exact sbt)
   ·obtain⟨x,hx,rfl⟩:=List.mem_map.1 h;exact(hM.d x hx).mono (by exact sbt)),by omega⟩ (ho.gw.app ho.gd) qom (slQ d34) (slC d34) (tags++dt) ((show Arr w0 (slH d34 ((tags++dt).flatMap encI) 3++H) (slQ d34) 1 encI (tags++dt) from A5 (fun _=>rfl) hd34).mono (by exact sbt)) qom hwl.symm (Iu (ho.gw.app ho.gd) hwl.symm (hgr.all ho.gw ho.gd)).1 qom top)) ?_ U
 rintro _ _ ⟨dT,ts,e,rfl,hdT,htd,rfl,hres⟩;refine rO tb 2 U (y_ (Bx (T U) U) (J1 (ts_permG _ _) ?_) U);rw[<- enc_tsOf];refine rO tb 11 U ?_
 first|refine Ak (Aa U) (fun c44=> ?_) (fun c44=> ?_)|refine Au (Aa U) (fun c44=> ?_) (fun c44=> ?_)
 ·have he0: ¬ e=0:=c44;have he1:=congrArg Prod.snd hres;have he2:ts=[]:=by
   have h1:=Hw (by rw[he1];exact he0);rw[congrArg Prod.fst hres] at h1;exact List.map_eq_nil_iff.1 h1
  subst he2;refine kC tb 7 [12,13] rfl U (rG tb 2 U (As U (.tmp (Aa U) (Ll U)) ?_));exact⟨_,⟨none,0,[],e,[],⟨rfl,fun X=>⟨fun i x hi=>by simp at hi,fun t ht=>by cases ht⟩,by unfold grulF;rw[hres];rfl⟩,rfl⟩,sbt⟩
 ·obtain rfl:e=0:=Decidable.byContradiction c44;have hrl:=Hy (congrArg Prod.snd hres);rw[congrArg Prod.fst hres] at hrl;have htn:ts.length=n.nodes.length:=by have:=hrl.1;rwa [List.length_map] at this
  have hRl:(tbR ts).length=ts.length:=List.length_map ..;refine rC tb 9 U ?_;refine Bz (X:=Nat × List Ts × List (Nat × Obj)) (V:=fun ⟨k,ts2,M⟩=>[(18, .int .i64 (k:Nat))]) (C:=[(1,_),(2,_),(3,_),(4,_),(6,_),(16,_)]) (G:=fun ⟨k,ts2,M⟩=>M++(slH dT ((ts.map tsOf).flatMap encTs) 54++(slsH ts2++((n6,Cl (encNm n) 26)::H)))) (φ:=fun ⟨k,ts2,M⟩=>k<=ts.length/\ts2.flatMap encTs=((ts.map tsOf).flatMap encTs)/\ts2.length=ts.length/\RowOk (tbR ts) (rsG n ws l tags dt) (corT ts2) k 0/\TsOk w0 M ts2) (μ:=fun ⟨k,ts2,M⟩=>ts.length - k) (x0:=(0,ts.map tsOf,blkM ts)) ?_ (kg U) ⟨atd,trivial⟩ (by exact sbt) ?_
  ·refine⟨Nat.zero_le _,rfl,List.length_map ..,by rw[cor_of];exact row_start,⟨fun t ht=> ?_,fun t ht m hm X=> ?_,fun t ht=> ?_⟩⟩
   ·obtain⟨u,hu,rfl⟩:=List.mem_map.1 ht;show SlOk u.d (u.rs.map rsOf).length 23;rw[List.length_map];exact htd u hu
   ·obtain⟨u,hu,rfl⟩:=List.mem_map.1 ht;obtain⟨y,hy,rfl⟩:=List.mem_map.1 (show m∈u.rs.map rsOf from hm);exact rule_m hu hy X
   ·obtain⟨u,hu,rfl⟩:=List.mem_map.1 ht;show (u.rs.map rsOf).length<=_;rw[List.length_map];obtain⟨k,hk,rfl⟩:=List.getElem_of_mem hu;have h8:=hrl.2 k qom;rw[Cr hk,List.length_map,Ay hk] at h8;omega
  rintro⟨k,ts2,M⟩ ⟨hk,hV2,hL2,hrow2,hok2⟩;refine rD tb 9 U ?_
  first|refine Ak (Aa U) (fun c49=> ?_) (fun c49=> ?_)|refine Au (Aa U) (fun c49=> ?_) (fun c49=> ?_)
  ·have hk2:k<ts.length:=by have h9:((k:Nat):Int)<(ts.length:Nat):=c49;omega
   have hkR:k<(tbR ts).length:=by rw[hRl];exact hk2
   refine rC tb 10 U ?_;refine Bz (X:=Nat × List Ts × List (Nat × Obj)) (V:=fun ⟨i,ts3,M3⟩=>[(19, .int .i64 (i:Nat))]) (C:=[(1,_),(2,_),(3,_),(4,_),(6,_),(16,_),(18,_)]) (G:=fun ⟨i,ts3,M3⟩=>M3++(slH dT ((ts.map tsOf).flatMap encTs) 54++(slsH ts3++((n6,Cl (encNm n) 26)::H)))) (φ:=fun ⟨i,ts3,M3⟩=>i<=(gd (tbR ts) k).length/\ts3.flatMap encTs=((ts.map tsOf).flatMap encTs)/\ts3.length=ts.length/\RowOk (tbR ts) (rsG n ws l tags dt) (corT ts3) k i/\TsOk w0 M3 ts3) (μ:=fun ⟨i,ts3,M3⟩=>(gd (tbR ts) k).length - i) (x0:=(0,ts2,M)) ?_ (kg U) ⟨atd,trivial⟩ (by exact List.Sublist.refl _) ?_
   ·exact⟨Nat.zero_le _,hV2,hL2,hrow2,hok2⟩
   rintro⟨i,ts3,M3⟩ ⟨hi,hV3,hL3,hrow3,hok3⟩;have hx3:k<ts3.length:=by omega
   have hn3:=hok3.n _ (Ao hx3);have hl3:(gd ts3 k).rs.length=(gd (tbR ts) k).length:=by have:=hrow3.l k hkR;rwa [Hv hx3] at this
   refine rD tb 6 U (y_ (Bl (T U) (T U) runUnderlying49 sizeOf54 qom (by first|exact rfl|exact(show Arr w0 (slH dT ((ts.map tsOf).flatMap encTs) 54++H) (slQ dT) 1 encTs ts3 from by rw[<- hV3];exact A5 (fun _=>rfl) (by rw[hL3];exact hdT)).b (i:=k) qom|exact(show Arr w0 (slH (gd ts3 k).d ((gd ts3 k).rs.flatMap encRs) 124++H) (slQ (gd ts3 k).d) 23 encRs (gd ts3 k).rs from A5 (fun _=>rfl) (hok3.d _ (Ao hx3))).b (i:=i) hi3|exact hM.w.arr.b (i:=j) hj2|exact hG.b (i:=j) qom|exact hM.a.b (i:=d) hdl2|exact hD.b (i:=d) qom)) ?_ U);refine y_ (Lo U isAgg54 (by first|exact c_o|exact((show Arr w0 (slH dT ((ts.map tsOf).flatMap encTs) 54++H) (slQ dT) 1 encTs ts3 from by rw[<- hV3];exact A5 (fun _=>rfl) (by rw[hL3];exact hdT)).mono (by exact sbt)).f0 (i:=k) qom U)) ?_ U;refine rO tb 4 U ?_
   first|refine Ak (Aa U) (fun c58=> ?_) (fun c58=> ?_)|refine Au (Aa U) (fun c58=> ?_) (fun c58=> ?_)
   ·have hi3:i<(gd ts3 k).rs.length:=by have h9:((i:Nat):Int)<((gd ts3 k).rs.length:Nat):=c58;omega
    have hiR:i<(gd (tbR ts) k).length:=by omega
    have hcur:=row_cur hrow3 hkR hiR;refine rC tb 8 U (y_ (Bl (T U) (T U) runUnderlying49 sizeOf54 qom (by first|exact rfl|exact(show Arr w0 (slH dT ((ts.map tsOf).flatMap encTs) 54++H) (slQ dT) 1 encTs ts3 from by rw[<- hV3];exact A5 (fun _=>rfl) (by rw[hL3];exact hdT)).b (i:=k) qom|exact(show Arr w0 (slH (gd ts3 k).d ((gd ts3 k).rs.flatMap encRs) 124++H) (slQ (gd ts3 k).d) 23 encRs (gd ts3 k).rs from A5 (fun _=>rfl) (hok3.d _ (Ao hx3))).b (i:=i) hi3|exact hM.w.arr.b (i:=j) hj2|exact hG.b (i:=j) qom|exact hM.a.b (i:=d) hdl2|exact hD.b (i:=d) qom)) ?_ U);refine y_ (Lo U isAgg54 (by first|exact c_o|exact((show Arr w0 (slH dT ((ts.map tsOf).flatMap encTs) 54++H) (slQ dT) 1 encTs ts3 from by rw[<- hV3];exact A5 (fun _=>rfl) (by rw[hL3];exact hdT)).mono (by exact sbt)).f0 (i:=k) qom U)) ?_ U;refine rO tb 1 U (y_ (Lq U U runUnderlying54 sizeOf124 qom (by first|exact rfl|exact(show Arr w0 (slH dT ((ts.map tsOf).flatMap encTs) 54++H) (slQ dT) 1 encTs ts3 from by rw[<- hV3];exact A5 (fun _=>rfl) (by rw[hL3];exact hdT)).b (i:=k) qom|exact(show Arr w0 (slH (gd ts3 k).d ((gd ts3 k).rs.flatMap encRs) 124++H) (slQ (gd ts3 k).d) 23 encRs (gd ts3 k).rs from A5 (fun _=>rfl) (hok3.d _ (Ao hx3))).b (i:=i) hi3|exact hM.w.arr.b (i:=j) hj2|exact hG.b (i:=j) qom|exact hM.a.b (i:=d) hdl2|exact hD.b (i:=d) qom)) ?_ U);refine y_ (Lp U isAgg124 sizeOf124 U (by first|exact((show Arr w0 (slH (gd ts3 k).d ((gd ts3 k).rs.flatMap encRs) 124++H) (slQ (gd ts3 k).d) 23 encRs (gd ts3 k).rs from A5 (fun _=>rfl) (hok3.d _ (Ao hx3))).mono (by exact(List.Sublist.append_right (Kb hx3) H).trans (by exact sbt))).cs (i:=i) hi3|exact A2)) ?_ U;refine e_ (Ap zeroValue124 cs_) ?_ U;rintro _ _ ⟨n20,rfl,rfl⟩
    first|refine A9 (Ls U U sizeOf124) U Ac ?_
    rintro _ _ ⟨rfl,rfl⟩;refine rO tb 9 U ?_;refine Bz (X:=Nat × Rs × List (Nat × Obj)) (V:=fun ⟨j,m,M4⟩=>[(21, .int .i64 (j:Nat))]) (C:=[(1,_),(2,_),(3,_),(4,_),(6,_),(16,_),(18,_),(19,_),(20,_)]) (G:=fun ⟨j,m,M4⟩=>(n20,Cl (encRs m) 124)::(M4++(slH dT ((ts.map tsOf).flatMap encTs) 54++(slsH ts3++((n6,Cl (encNm n) 26)::H))))) (φ:=fun ⟨j,m,M4⟩=>j<=ws.length/\m.r=gd (gd (tbR ts) k) i/\m.s=rsF n.links ws l tags dt j (k:Nat) m.r.tag/\(∀ X,RuM w0 (M4++X) (ruOf m))/\TsOk w0 M4 ts3) (μ:=fun ⟨j,m,M4⟩=>ws.length - j) (x0:=(0,(gd (gd ts3 k).rs i),M3)) ?_ (kg U) ⟨atd,trivial⟩ (by exact List.Sublist.refl _) ?_
    ·exact⟨Nat.zero_le _,hcur.2.2.1,hcur.2.2.2,fun X=>hok3.r _ (Ao hx3) _ (Ao hi3) X,hok3⟩
    rintro⟨j,m,M4⟩ ⟨hj,hmr,hms,hru,hok4⟩;refine rD tb 9 U ?_
    first|refine Ak (Aa U) (fun c71=> ?_) (fun c71=> ?_)|refine Au (Aa U) (fun c71=> ?_) (fun c71=> ?_)
    ·have hj2:j<ws.length:=by have h9:((j:Nat):Int)<(ws.length:Nat):=c71;omega
     refine rC tb 5 U (B9 8 [(0,true),(1,true),(2,true),(3,true),(4,true),(5,true),(6,true),(7,true)] _ mixd qkr sb0 ?_ By);refine o_y U (Lp U isAgg26 sizeOf26 U (by first|exact A2)) ?_ U Ac;refine rP tb 2 U (o_y U (Lq U U runUnderlying27 sizeOf59 qom (by first|exact rfl|exact(show Arr w0 (slH dT ((ts.map tsOf).flatMap encTs) 54++H) (slQ dT) 1 encTs ts3 from by rw[<- hV3];exact A5 (fun _=>rfl) (by rw[hL3];exact hdT)).b (i:=k) qom|exact(show Arr w0 (slH (gd ts3 k).d ((gd ts3 k).rs.flatMap encRs) 124++H) (slQ (gd ts3 k).d) 23 encRs (gd ts3 k).rs from A5 (fun _=>rfl) (hok3.d _ (Ao hx3))).b (i:=i) hi3|exact hM.w.arr.b (i:=j) hj2|exact hG.b (i:=j) qom|exact hM.a.b (i:=d) hdl2|exact hD.b (i:=d) qom)) ?_ U Ac);refine o_y U (Lp U isAgg59 sizeOf59 U (by first|exact(hM.w.arr.mono (by exact sbt)).cs (i:=j) hj2|exact A2)) ?_ U Ac;refine rP tb 1 U (o_y U (Bb (qe3 U U U) call68 (fun H' hs=>rgoes_g n (hM.n.mono (stn hs)) (gd ws j) ((hM.w.at hj2).mono (stn hs)) (ho.gw.inr _ (Ao hj2)) (hlks _ (Ao hj2)) (k:Nat))) (rP tb 1 U (Bj U (rO tb 4 U (B9 21 [(0,true),(1,true),(2,true),(3,true),(4,true),(5,true),(6,true),(7,true),(8,true),(9,true),(10,true),(11,true),(12,true),(13,true),(14,true),(15,true),(16,true),(17,true),(18,true),(19,true),(20,true)] _ mixd qkr sb0 ?_ By)))) U Ac);refine rP tb 1 U ?_
     first|refine o_y U (B7 (T U)) ?_ U Ac|refine o_y U (Cc (T U)) ?_ U Ac
     refine rP tb 1 U ?_
     first|refine Cu (s:=83) (Aa U) (fun c83=> ?_) (fun c83=> ?_)|refine Ds (s:=83) (Aa U) (fun c83=> ?_) (fun c83=> ?_)
     ·have hgo:goesF n.links (gd ws j).way (k:Nat)=false:=by first|exact decide_eq_false c83|simpa using c83
      refine rP tb 18 U (Bj U (kO tb 2 [1,2,3,4,6,16,18,19,20,21,101] rfl U (rG tb 7 U (y_ (Bd (T U) An qom) ?_ U))));refine rO tb 2 U ?_;refine A8 ((j+1,m,M4)) ?_ ?_ ⟨atd,trivial⟩ (kg U) ?_
      ·refine⟨by omega,hmr,by rw[hms,rsF_keep (rsP_goes hgo)],hru,hok4⟩
      ·first|omega|(simp only[];omega)
      ·exact sbt
     ·have hgo:goesF n.links (gd ws j).way (k:Nat)=true:=by first|exact decide_eq_true (Decidable.byContradiction c83)|simpa using c83
      refine rP tb 2 U (o_y U (Lq U U runUnderlying41 sizeOf3 qom (by first|exact rfl|exact(show Arr w0 (slH dT ((ts.map tsOf).flatMap encTs) 54++H) (slQ dT) 1 encTs ts3 from by rw[<- hV3];exact A5 (fun _=>rfl) (by rw[hL3];exact hdT)).b (i:=k) qom|exact(show Arr w0 (slH (gd ts3 k).d ((gd ts3 k).rs.flatMap encRs) 124++H) (slQ (gd ts3 k).d) 23 encRs (gd ts3 k).rs from A5 (fun _=>rfl) (hok3.d _ (Ao hx3))).b (i:=i) hi3|exact hM.w.arr.b (i:=j) hj2|exact hG.b (i:=j) qom|exact hM.a.b (i:=d) hdl2|exact hD.b (i:=d) qom)) ?_ U (Ax U U (Aa U)));refine o_y U (Lo U isAgg3 (by first|exact c_o|exact(hG.mono (by exact sbt)).f0 (i:=j) qom U)) ?_ U (Ax U U (Aa U));refine rP tb 2 U (o_y U (Cm (T U) An runUnderlying74 sizeOf3 qom) ?_ U (Ax U U (Aa U)));refine o_y U (Lo U isAgg3 (by first|exact c_o)) ?_ U (Ax U U (Aa U));refine rP tb 3 U ?_
      first|refine Cu (s:=94) (Aa U) (fun c94=> ?_) (fun c94=> ?_)|refine Ds (s:=94) (Aa U) (fun c94=> ?_) (fun c94=> ?_)
      ·have htg: ¬ gd tags j=m.r.tag:=c94;refine rP tb 7 U (Bj U (kO tb 2 [1,2,3,4,6,16,18,19,20,21,101] rfl U (rG tb 7 U (y_ (Bd (T U) An qom) ?_ U))));refine rO tb 2 U ?_;refine A8 ((j+1,m,M4)) ?_ ?_ ⟨atd,trivial⟩ (kg U) ?_
       ·refine⟨by omega,hmr,by rw[hms,rsF_keep (rsP_tag htg)],hru,hok4⟩
       ·first|omega|(simp only[];omega)
       ·exact sbt
      ·have htg:gd tags j=m.r.tag:=Decidable.byContradiction c94;refine rP tb 1 U (o_y U (Lo U isAgg122 (by first|exact c_o)) ?_ U (Ax U U (Aa U)));refine o_y U (Bl (T U) An runUnderlying122 sizeOf128 (by exact⟨by decide,by decide⟩) (by first|exact rfl|exact(show Arr w0 (slH dT ((ts.map tsOf).flatMap encTs) 54++H) (slQ dT) 1 encTs ts3 from by rw[<- hV3];exact A5 (fun _=>rfl) (by rw[hL3];exact hdT)).b (i:=k) qom|exact(show Arr w0 (slH (gd ts3 k).d ((gd ts3 k).rs.flatMap encRs) 124++H) (slQ (gd ts3 k).d) 23 encRs (gd ts3 k).rs from A5 (fun _=>rfl) (hok3.d _ (Ao hx3))).b (i:=i) hi3|exact hM.w.arr.b (i:=j) hj2|exact hG.b (i:=j) qom|exact hM.a.b (i:=d) hdl2|exact hD.b (i:=d) qom)) ?_ U (Ax U U (Aa U));refine o_y U (Lo U isAgg128 (by first|exact c_o|exact(show Cell w0 _ _ (.slice (some ⟨m.a,0,none⟩) (alsOf m.r.hop m.s).length (alsOf m.r.hop m.s).length) from (((hru (slH dT ((ts.map tsOf).flatMap encTs) 54++(slsH ts3++((n6,Cl (encNm n) 26)::H)))).mono (by exact sbt)).o).f0 (i:=0) Nat.zero_lt_one U))) ?_ U (Ax U U (Aa U));refine rP tb 3 U (Bj U (kO tb 2 [1,2,3,4,6,16,18,19,20,21,101] rfl U ?_))
       first|refine Ak (Aa U) (fun c101=> ?_) (fun c101=> ?_)|refine Au (Aa U) (fun c101=> ?_) (fun c101=> ?_)
       ·have hsm:m.s.isSome=true:=(als_gt (h:=m.r.hop)).1 (by have h9:(1:Int)<((alsOf m.r.hop m.s).length:Nat):=c101;omega);refine rC tb 6 U (y_ (Bd (T U) An qom) ?_ U);refine rO tb 2 U ?_;refine A8 ((j+1,m,M4)) ?_ ?_ ⟨atd,trivial⟩ (kg U) ?_
        ·obtain⟨v9,hv9⟩:=Option.isSome_iff_exists.1 hsm;exact⟨by omega,hmr,by rw[hv9];rw[hms] at hv9;exact(rsF_old hv9).symm,hru,hok4⟩
        ·first|omega|(simp only[];omega)
        ·exact sbt
       ·have hsm:m.s=none:=by
         have h9: ¬ (1:Int)<((alsOf m.r.hop m.s).length:Nat):=c101;cases h8:m.s with
         |none=>rfl
         |some v=>
          have h7:1<(alsOf m.r.hop m.s).length:=als_gt.2 (by rw[h8];rfl);omega
        refine rC tb 4 U (y_ (Lp U isAgg26 sizeOf26 U (by first|exact A2)) ?_ U);refine rO tb 4 U (y_ (Bb (.cons (T U) (.cons (T U) (.cons (T U) (.cons (T U) (.cons (T U) .nil))))) call69 (fun H' hs=>rdet_g n ws qw cw l ql cl (hM.mono (stn hs)) ho j hj2 (k:Nat))) (rO tb 9 U ?_) U)
        first|refine Ak (Aa U) (fun c109=> ?_) (fun c109=> ?_)|refine Au (Aa U) (fun c109=> ?_) (fun c109=> ?_)
        ·obtain⟨d,hdd⟩:∃ d,detF n.links ws l (j:Nat) (k:Nat)=some d:=by
          cases h8:detF n.links ws l (j:Nat) (k:Nat) with
          |some d=>exact⟨d,rfl⟩
          |none=>
           have h9:(0:Int)<=detI (detF n.links ws l (j:Nat) (k:Nat)):=c109;rw[h8] at h9;exact absurd h9 qde
         have hdI:detI (detF n.links ws l (j:Nat) (k:Nat))=(d:Nat):=by rw[hdd];rfl
         rw[hdI];have hdl2:d<l.length:=(Di hdd).1;refine B9 18 [(0,true),(1,true),(2,true),(3,true),(4,true),(5,true),(6,true),(7,true),(8,true),(9,true),(10,true),(11,true),(12,true),(13,true),(14,true),(15,false),(16,false),(17,true)] _ mixd qkr sb0 ?_ By;refine rP tb 1 U (o_y U (Lo U isAgg122 (by first|exact c_o)) ?_ U Ac);refine o_y U (Bl (T U) An runUnderlying122 sizeOf128 (by exact⟨by decide,by decide⟩) (by first|exact rfl|exact(show Arr w0 (slH dT ((ts.map tsOf).flatMap encTs) 54++H) (slQ dT) 1 encTs ts3 from by rw[<- hV3];exact A5 (fun _=>rfl) (by rw[hL3];exact hdT)).b (i:=k) qom|exact(show Arr w0 (slH (gd ts3 k).d ((gd ts3 k).rs.flatMap encRs) 124++H) (slQ (gd ts3 k).d) 23 encRs (gd ts3 k).rs from A5 (fun _=>rfl) (hok3.d _ (Ao hx3))).b (i:=i) hi3|exact hM.w.arr.b (i:=j) hj2|exact hG.b (i:=j) qom|exact hM.a.b (i:=d) hdl2|exact hD.b (i:=d) qom)) ?_ U Ac;refine o_y U (Lo U isAgg128 (by first|exact c_o|exact(show Cell w0 _ _ (.slice (some ⟨m.a,0,none⟩) (alsOf m.r.hop m.s).length (alsOf m.r.hop m.s).length) from (((hru (slH dT ((ts.map tsOf).flatMap encTs) 54++(slsH ts3++((n6,Cl (encNm n) 26)::H)))).mono (by exact sbt)).o).f0 (i:=0) Nat.zero_lt_one U))) ?_ U Ac;refine o_y U (Bl (T U) An runUnderlying128 sizeOf127 (by show _/\_<((alsOf _ _).length:Int);unfold alsOf;simp) (by first|exact rfl|exact(show Arr w0 (slH dT ((ts.map tsOf).flatMap encTs) 54++H) (slQ dT) 1 encTs ts3 from by rw[<- hV3];exact A5 (fun _=>rfl) (by rw[hL3];exact hdT)).b (i:=k) qom|exact(show Arr w0 (slH (gd ts3 k).d ((gd ts3 k).rs.flatMap encRs) 124++H) (slQ (gd ts3 k).d) 23 encRs (gd ts3 k).rs from A5 (fun _=>rfl) (hok3.d _ (Ao hx3))).b (i:=i) hi3|exact hM.w.arr.b (i:=j) hj2|exact hG.b (i:=j) qom|exact hM.a.b (i:=d) hdl2|exact hD.b (i:=d) qom)) ?_ U Ac;refine o_y U (Lp U isAgg127 sizeOf127 U (by first|exact(show Cells w0 _ _ _ (encAl (alOf m.r.hop)) from (((hru (slH dT ((ts.map tsOf).flatMap encTs) 54++(slsH ts3++((n6,Cl (encNm n) 26)::H)))).mono (by exact sbt)).a).cs (i:=0) (by show 0<(alsOf _ _).length;unfold alsOf;simp))|exact A2)) ?_ U Ac;refine rP tb 2 U (o_y U (Bl (T U) (T U) runUnderlying34 sizeOf93 qom (by first|exact rfl|exact(show Arr w0 (slH dT ((ts.map tsOf).flatMap encTs) 54++H) (slQ dT) 1 encTs ts3 from by rw[<- hV3];exact A5 (fun _=>rfl) (by rw[hL3];exact hdT)).b (i:=k) qom|exact(show Arr w0 (slH (gd ts3 k).d ((gd ts3 k).rs.flatMap encRs) 124++H) (slQ (gd ts3 k).d) 23 encRs (gd ts3 k).rs from A5 (fun _=>rfl) (hok3.d _ (Ao hx3))).b (i:=i) hi3|exact hM.w.arr.b (i:=j) hj2|exact hG.b (i:=j) qom|exact hM.a.b (i:=d) hdl2|exact hD.b (i:=d) qom)) ?_ U Ac);refine o_y U (Lp U isAgg93 sizeOf93 U (by first|exact(hM.a.mono (by exact sbt)).cs (i:=d) hdl2|exact A2)) ?_ U Ac;refine rP tb 2 U (o_y U (Bl (T U) (T U) runUnderlying41 sizeOf3 qom (by first|exact rfl|exact(show Arr w0 (slH dT ((ts.map tsOf).flatMap encTs) 54++H) (slQ dT) 1 encTs ts3 from by rw[<- hV3];exact A5 (fun _=>rfl) (by rw[hL3];exact hdT)).b (i:=k) qom|exact(show Arr w0 (slH (gd ts3 k).d ((gd ts3 k).rs.flatMap encRs) 124++H) (slQ (gd ts3 k).d) 23 encRs (gd ts3 k).rs from A5 (fun _=>rfl) (hok3.d _ (Ao hx3))).b (i:=i) hi3|exact hM.w.arr.b (i:=j) hj2|exact hG.b (i:=j) qom|exact hM.a.b (i:=d) hdl2|exact hD.b (i:=d) qom)) ?_ U Ac);refine o_y U (Lo U isAgg3 (by first|exact c_o|exact(hD.mono (by exact sbt)).f0 (i:=d) qom U)) ?_ U Ac;refine o_y U (Bb (qe2 U U) call70 (fun H' hs=>rsec_g (gd l d) ((hM.d _ (Ao hdl2)).mono (stn hs)) (hrt.ne _ (Ao hdl2)) (gd dt d))) (o_e U (A7 (.cons (T U) (.cons (T U) .nil)) (Kb7 _ _ _ _ _ _ _ _ _ _ _ _ _ _ _ _ _ _ _ _ _ _ _ _ _ _ _ _ _ _ _ _ _ _ _ _ _ _ _ _ _ _)) ?_ U Ac) U Ac;rintro _ _ ⟨n125,rfl,rfl⟩;refine⟨sbt,(o_e U (A7 (.cons (T U) .nil) (Kb6 _ _ _)) ?_ U Ac)⟩;rintro _ _ ⟨n126,rfl,rfl⟩;refine⟨sbt,(rP tb 1 U (Bj U ?_))⟩
         first|refine A9 (Ls U U sizeOf122) U Ac ?_|refine A9 (B1 (T U) (T U) U sizeOf122) U Ac ?_|refine A9 (Bu (T U) (T U) U sizeOf122) U Ac ?_
         rintro _ _ ⟨rfl,rfl⟩;refine kO tb 3 [1,2,3,4,6,16,18,19,20,21] rfl U (rG tb 2 U (y_ (Bd (T U) An qom) ?_ U));refine rO tb 2 U (Bn (List.perm_append_comm_assoc [_,_] [_] _) ?_);refine A8 ((j+1,(⟨m.r,n126,n125,some (rsV n.links ws l dt (k:Nat) j)⟩:Rs),(n126,Cl [.slice (some ⟨n125,0,none⟩) 2 2] 128)::(n125,Cl (encAl (alOf m.r.hop)++encAl (alSec (gd (gd l d).m.way.links 0,gd dt d))) 127)::M4)) ?_ ?_ ⟨atd,trivial⟩ (kg U) ?_
         ·refine⟨by omega,hmr,?_,fun X=> ?_,hok4.grow _ _⟩
          ·exact(rsF_yes (by rw[<- hms];exact hsm) (rsP_all hgo htg hdd)).symm
          ·exact⟨Cq (fun _=>rfl) (e:=128) U Ba,Cq (fun _=>rfl) (e:=127) (by show _=(alsOf m.r.hop (some (rsV n.links ws l dt (k:Nat) j))).flatMap encAl;rw[rsV_at hdd];unfold alsOf;simp) (Av Ba)⟩
         ·first|omega|(simp only[];omega)
         ·exact sbt
        ·have hdn:detF n.links ws l (j:Nat) (k:Nat)=none:=by
          cases h8:detF n.links ws l (j:Nat) (k:Nat) with
          |none=>rfl
          |some d=>
           have h9: ¬ (0:Int)<=detI (detF n.links ws l (j:Nat) (k:Nat)):=c109;rw[h8] at h9;exact absurd (Int.natCast_nonneg d) h9
         refine rC tb 5 U (y_ (Bd (T U) An qom) ?_ U);refine rO tb 2 U ?_;refine A8 ((j+1,m,M4)) ?_ ?_ ⟨atd,trivial⟩ (kg U) ?_
         ·refine⟨by omega,hmr,by rw[hms,rsF_keep (rsP_det hdn)],hru,hok4⟩
         ·first|omega|(simp only[];omega)
         ·exact sbt
    ·obtain rfl:j=ws.length:=by have h9: ¬ ((j:Nat):Int)<(ws.length:Nat):=c71;omega
     refine rC tb 2 U (Aq (rX tb 2 U (B9 7 [(0,true),(1,true),(2,true),(3,true),(4,true),(5,true),(6,true)] _ mixd qkr sb0 ?_ By)));refine rP tb 2 U (o_y U (Bl (T U) (T U) runUnderlying49 sizeOf54 qom (by first|exact rfl|exact(show Arr w0 (slH dT ((ts.map tsOf).flatMap encTs) 54++H) (slQ dT) 1 encTs ts3 from by rw[<- hV3];exact A5 (fun _=>rfl) (by rw[hL3];exact hdT)).b (i:=k) qom|exact(show Arr w0 (slH (gd ts3 k).d ((gd ts3 k).rs.flatMap encRs) 124++H) (slQ (gd ts3 k).d) 23 encRs (gd ts3 k).rs from A5 (fun _=>rfl) (hok3.d _ (Ao hx3))).b (i:=i) hi3|exact hM.w.arr.b (i:=j) hj2|exact hG.b (i:=j) qom|exact hM.a.b (i:=d) hdl2|exact hD.b (i:=d) qom)) ?_ U Ac);refine o_y U (Lo U isAgg54 (by first|exact c_o|exact((show Arr w0 (slH dT ((ts.map tsOf).flatMap encTs) 54++H) (slQ dT) 1 encTs ts3 from by rw[<- hV3];exact A5 (fun _=>rfl) (by rw[hL3];exact hdT)).mono (by exact sbt)).f0 (i:=k) qom U)) ?_ U Ac;refine rP tb 1 U (o_y U (Lp U isAgg124 sizeOf124 U (by first|exact A2)) ?_ U Ac);refine o_y U (Bl (T U) (T U) runUnderlying54 sizeOf124 qom (by first|exact rfl|exact(show Arr w0 (slH dT ((ts.map tsOf).flatMap encTs) 54++H) (slQ dT) 1 encTs ts3 from by rw[<- hV3];exact A5 (fun _=>rfl) (by rw[hL3];exact hdT)).b (i:=k) qom|exact(show Arr w0 (slH (gd ts3 k).d ((gd ts3 k).rs.flatMap encRs) 124++H) (slQ (gd ts3 k).d) 23 encRs (gd ts3 k).rs from A5 (fun _=>rfl) (hok3.d _ (Ao hx3))).b (i:=i) hi3|exact hM.w.arr.b (i:=j) hj2|exact hG.b (i:=j) qom|exact hM.a.b (i:=d) hdl2|exact hD.b (i:=d) qom)) ?_ U Ac;refine Bj U (e_ (D2 (d:=(gd ts3 k).d) (l:=(gd ts3 k).rs) (e:=124) (enc:=encRs) (sz:=23) (i:=i) m (fun _=>rfl) (by repeat (first|exact locTs (i:=k) hx3 _|apply LocL.a|apply LocL.t)) (T U) (T U) .agg U sizeOf124 hi3 (hok4.d _ (Ao hx3))) ?_ U);rintro _ _ ⟨rfl,rfl⟩;refine rO tb 5 U (y_ (Bd (T U) An qom) ?_ U);refine rO tb 2 U ?_;refine A8 ((i+1,ts3.set k ⟨(gd ts3 k).d,(gd ts3 k).rs.set i m⟩,M4)) ?_ ?_ ⟨atd,trivial⟩ (kg U) ?_
     ·refine⟨by omega,by rw[enc_set hx3];exact hV3,by rw[List.length_set];exact hL3,?_,hok4.put hx3 hru⟩;rw[cor_set hx3];exact row_next hrow3 hkR hiR (by rw[hms,hmr])
     ·first|omega|(simp only[];omega)
     ·dsimp only;rw[sls_set hx3,List.append_assoc,List.append_assoc];exact sbt
   ·have hiR:i=(gd (tbR ts) k).length:=by have h9: ¬ ((i:Nat):Int)<((gd ts3 k).rs.length:Nat):=c58;omega
    refine rC tb 2 U (Aq (rX tb 5 U (y_ (Bd (T U) An qom) ?_ U)));refine rO tb 2 U ?_;refine A8 ((k+1,ts3,M3)) ?_ ?_ ⟨atd,trivial⟩ (kg U) ?_
    ·exact⟨by omega,hV3,hL3,row_end (by rw[<- hiR];exact hrow3),hok3⟩
    ·first|omega|(simp only[];omega)
    ·exact sbt
  ·obtain rfl:k=ts.length:=by have h9: ¬ ((k:Nat):Int)<(ts.length:Nat):=c49;omega
   refine rC tb 2 U (Aq (rX tb 10 U (As U (.tmp (Aa U) (Ll U)) ?_)));have hfin:corT ts2=secT n.links ws l tags dt (ts.map fun t=>t.rs.map (·.r)):=by
    rw[secT_rs ho hrt hgr];exact row_fin (by rw[hRl];exact hrow2)
   have hgf:((ts2.map tlOf).map (fun t=>t.rs.map ruC),(0:Int))=grulF n ws l tags dt top:=by
    unfold grulF;rw[hres,cor_tl,hfin]
   refine⟨_,⟨slQ dT,slC dT,ts2.map tlOf,0,M++(slH dT (ts2.flatMap encTs) 54++slsH ts2),⟨by rw[List.length_map,hL2];rfl,fun X=> ?_,hgf⟩,rfl⟩,?_⟩
   ·simp only[List.append_assoc];exact hok2.m (by rw[hL2];exact hdT) X
   ·rw[hV2];simp only[List.append_assoc];exact sbt
theorem sameOuts_g {w0:World}{H:List (Nat × Obj)}(p t s:Int)(al:List Al)(qo:Option Addr)(co:Nat)(qa:Option Addr)(ca:Nat)(qo2:Option Addr)(co2:Nat)(qa2:Option Addr)(ca2:Nat)(h1:RuM w0 H ⟨p,t,s,al,qo,co,qa,ca⟩)(h2:RuM w0 H ⟨p,t,s,al,qo2,co2,qa2,ca2⟩)(hal:al.length<=100000):
  FSpec prog w0 195 #[.agg (encRu (⟨p,t,s,al,qo,co,qa,ca⟩:Ru)).toArray, .agg (encRu (⟨p,t,s,al,qo2,co2,qa2,ca2⟩:Ru)).toArray] H (Still (.bool true) H):=by
 refine Az func195 U ntmps195 U (rD tb 2 U (e_ (Lt U cs_) ?_ U));rintro _ _ ⟨n2,rfl,rfl⟩;refine e_ (Lt U cs_) ?_ U;rintro _ _ ⟨n3,rfl,rfl⟩;refine rO tb 7 U (y_ (Lo U isAgg122 (by first|exact c_o)) ?_ U);refine rO tb 2 U (y_ (Lo U isAgg122 (by first|exact c_o)) ?_ U);refine rO tb 1 U (y_ (H4 (T U) (T U)) (rO tb 12 U ?_) U);refine Bz (X:=Nat) (V:=fun i=>[(5, .int .i64 (i:Nat))]) (C:=[(2,_),(3,_)]) (G:=fun i=>(n3,Cl (encRu (⟨p,t,s,al,qo2,co2,qa2,ca2⟩:Ru)) 124)::(n2,Cl (encRu (⟨p,t,s,al,qo,co,qa,ca⟩:Ru)) 124)::H) (φ:=fun i=>i<=1) (μ:=fun i=>1 - i) (x0:=0) ?_ (kg U) ⟨atd,trivial⟩ sb0 ?_
 ·exact Nat.zero_le _
 rintro i hi;refine rD tb 5 U (y_ (Lo U isAgg122 (by first|exact c_o)) ?_ U);refine rO tb 4 U ?_
 first|refine Ak (Aa U) (fun c18=> ?_) (fun c18=> ?_)|refine Au (Aa U) (fun c18=> ?_) (fun c18=> ?_)
 ·have hi2:i<1:=by have h9:((i:Nat):Int)<(1:Nat):=c18;omega
  refine rC tb 6 U (B9 13 [(0,true),(1,true),(2,true),(3,true),(4,true),(5,true),(6,true),(7,true),(8,true),(9,true),(10,true),(11,true),(12,true)] _ mixd qkr sb0 ?_ By);refine rP tb 1 U (o_y U (Lo U isAgg122 (by first|exact c_o)) ?_ U Ac);refine rP tb 1 U (o_y U (Lq U U runUnderlying122 sizeOf128 qom (by first|exact rfl|exact h1.o.b (i:=i) hi2|exact h2.o.b (i:=i) hi2|exact h1.a.b (i:=j) hj2|exact h2.a.b (i:=j) hj2)) ?_ U Ac);refine o_y U (Lo U isAgg128 (by first|exact c_o|exact(show Cell w0 _ _ (.slice qa al.length ca) from (h1.o.mono (by exact sbt)).f0 (i:=i) hi2 U))) ?_ U Ac;refine rP tb 2 U (o_y U (Lo U isAgg122 (by first|exact c_o)) ?_ U Ac);refine rP tb 1 U (o_y U (Lq U U runUnderlying122 sizeOf128 qom (by first|exact rfl|exact h1.o.b (i:=i) hi2|exact h2.o.b (i:=i) hi2|exact h1.a.b (i:=j) hj2|exact h2.a.b (i:=j) hj2)) ?_ U Ac);refine o_y U (Lo U isAgg128 (by first|exact c_o|exact(show Cell w0 _ _ (.slice qa2 al.length ca2) from (h2.o.mono (by exact sbt)).f0 (i:=i) hi2 U))) ?_ U Ac;refine rP tb 1 U (o_y U (H4 (T U) (T U)) (Bj U (rO tb 11 U ?_)) U Ac);refine Bz (X:=Nat) (V:=fun j=>[(6, .int .i64 (j:Nat))]) (C:=[(2,_),(3,_),(5,_)]) (G:=fun j=>(n3,Cl (encRu (⟨p,t,s,al,qo2,co2,qa2,ca2⟩:Ru)) 124)::(n2,Cl (encRu (⟨p,t,s,al,qo,co,qa,ca⟩:Ru)) 124)::H) (φ:=fun j=>j<=al.length) (μ:=fun j=>al.length - j) (x0:=0) ?_ (kg U) ⟨atd,trivial⟩ sb0 ?_
  ·exact Nat.zero_le _
  rintro j hj;refine rD tb 5 U (y_ (Lo U isAgg122 (by first|exact c_o)) ?_ U);refine rO tb 1 U (y_ (Bl (T U) (T U) runUnderlying122 sizeOf128 qom (by first|exact rfl|exact h1.o.b (i:=i) hi2|exact h2.o.b (i:=i) hi2|exact h1.a.b (i:=j) hj2|exact h2.a.b (i:=j) hj2)) ?_ U);refine y_ (Lo U isAgg128 (by first|exact c_o|exact(show Cell w0 _ _ (.slice qa al.length ca) from (h1.o.mono (by exact sbt)).f0 (i:=i) hi2 U))) ?_ U;refine rO tb 4 U ?_
  first|refine Ak (Aa U) (fun c41=> ?_) (fun c41=> ?_)|refine Au (Aa U) (fun c41=> ?_) (fun c41=> ?_)
  ·have hj2:j<al.length:=by have h9:((j:Nat):Int)<(al.length:Nat):=c41;omega
   refine rC tb 5 U (B9 17 [(0,true),(1,true),(2,true),(3,true),(4,true),(5,true),(6,true),(7,true),(8,true),(9,true),(10,true),(11,true),(12,true),(13,true),(14,true),(15,true),(16,true)] _ mixd qkr sb0 ?_ By);refine rP tb 1 U (o_y U (Lo U isAgg122 (by first|exact c_o)) ?_ U Ac);refine rP tb 1 U (o_y U (Bl (T U) (T U) runUnderlying122 sizeOf128 qom (by first|exact rfl|exact h1.o.b (i:=i) hi2|exact h2.o.b (i:=i) hi2|exact h1.a.b (i:=j) hj2|exact h2.a.b (i:=j) hj2)) ?_ U Ac);refine o_y U (Lo U isAgg128 (by first|exact c_o|exact(show Cell w0 _ _ (.slice qa al.length ca) from (h1.o.mono (by exact sbt)).f0 (i:=i) hi2 U))) ?_ U Ac;refine rP tb 1 U (o_y U (Lq U U runUnderlying128 sizeOf127 qom (by first|exact rfl|exact h1.o.b (i:=i) hi2|exact h2.o.b (i:=i) hi2|exact h1.a.b (i:=j) hj2|exact h2.a.b (i:=j) hj2)) ?_ U Ac);refine o_y U (Lp U isAgg127 sizeOf127 U (by first|exact(h1.a.mono (by exact sbt)).cs (i:=j) hj2|exact A2)) ?_ U Ac;refine rP tb 1 U (o_y U (Lo U isAgg122 (by first|exact c_o)) ?_ U Ac);refine rP tb 1 U (o_y U (Bl (T U) (T U) runUnderlying122 sizeOf128 qom (by first|exact rfl|exact h1.o.b (i:=i) hi2|exact h2.o.b (i:=i) hi2|exact h1.a.b (i:=j) hj2|exact h2.a.b (i:=j) hj2)) ?_ U Ac);refine o_y U (Lo U isAgg128 (by first|exact c_o|exact(show Cell w0 _ _ (.slice qa2 al.length ca2) from (h2.o.mono (by exact sbt)).f0 (i:=i) hi2 U))) ?_ U Ac;refine rP tb 1 U (o_y U (Lq U U runUnderlying128 sizeOf127 qom (by first|exact rfl|exact h1.o.b (i:=i) hi2|exact h2.o.b (i:=i) hi2|exact h1.a.b (i:=j) hj2|exact h2.a.b (i:=j) hj2)) ?_ U Ac);refine o_y U (Lp U isAgg127 sizeOf127 U (by first|exact(h2.a.mono (by exact sbt)).cs (i:=j) hj2|exact A2)) ?_ U Ac;refine o_y U (yl_neAl (T U) (T U)) (Bj U (rO tb 8 U (y_ (Bd (T U) An qom) ?_ U))) U Ac;refine rO tb 2 U ?_;refine A8 (j+1) ?_ ?_ ⟨atd,trivial⟩ (kg U) ?_
   ·(show j+1<=al.length);omega
   ·first|omega|(simp only[];omega)
   ·exact sbt
  ·have hj2:j=al.length:=by have h9: ¬ ((j:Nat):Int)<(al.length:Nat):=c41;omega
   refine rC tb 2 U (Aq (rX tb 5 U (y_ (Bd (T U) An qom) ?_ U)));refine rO tb 2 U ?_;refine A8 (i+1) ?_ ?_ ⟨atd,trivial⟩ (kg U) ?_
   ·(show i+1<=1);omega
   ·first|omega|(simp only[];omega)
   ·exact sbt
 ·have hi2:i=1:=by have h9: ¬ ((i:Nat):Int)<(1:Nat):=c18;omega
  refine rC tb 2 U (Aq (rX tb 8 U (As U (Ll U) ?_)));exact⟨_,⟨rfl,rfl⟩,sbt⟩
theorem alike_g {w0:World}{H:List (Nat × Obj)}(p t s:Int)(al:List Al)(qo:Option Addr)(co:Nat)(qa:Option Addr)(ca:Nat)(qo2:Option Addr)(co2:Nat)(qa2:Option Addr)(ca2:Nat)(h1:RuM w0 H ⟨p,t,s,al,qo,co,qa,ca⟩)(h2:RuM w0 H ⟨p,t,s,al,qo2,co2,qa2,ca2⟩)(hal:al.length<=100000):
  FSpec prog w0 164 #[.agg (encRu (⟨p,t,s,al,qo,co,qa,ca⟩:Ru)).toArray, .agg (encRu (⟨p,t,s,al,qo2,co2,qa2,ca2⟩:Ru)).toArray] H (Still (.bool true) H):=by
 refine Az func164 U ntmps164 U (rD tb 2 U (e_ (Lt U cs_) ?_ U));rintro _ _ ⟨n2,rfl,rfl⟩;refine e_ (Lt U cs_) ?_ U;rintro _ _ ⟨n3,rfl,rfl⟩;refine rO tb 6 U (y_ (Lo U isAgg3 (by first|exact c_o)) ?_ U);refine rO tb 1 U (y_ (Lo U isAgg3 (by first|exact c_o)) ?_ U);refine y_ (yl_eqs (T U) (T U)) (rO tb 1 U (A3 (Lp U isAgg124 sizeOf124 U (by first|exact A2)) U (Ax U U (Aa U)) ?_)) U;refine A3 (Lp U isAgg124 sizeOf124 U (by first|exact A2)) U (Ax U U (Aa U)) ?_;refine A3 (Bb (qe2 U U) call195 (fun H' hs=>sameOuts_g p t s al qo co qa ca qo2 co2 qa2 ca2 (h1.mono (stn hs)) (h2.mono (stn hs)) hal)) U (Ax U U (Aa U)) (rO tb 5 U (As U (Ll U) ?_));exact⟨_,⟨rfl,rfl⟩,sbt⟩
theorem sameRule_g {w0:World}{H:List (Nat × Obj)}(p t s:Int)(al:List Al)(qo:Option Addr)(co:Nat)(qa:Option Addr)(ca:Nat)(qo2:Option Addr)(co2:Nat)(qa2:Option Addr)(ca2:Nat)(h1:RuM w0 H ⟨p,t,s,al,qo,co,qa,ca⟩)(h2:RuM w0 H ⟨p,t,s,al,qo2,co2,qa2,ca2⟩)(hal:al.length<=100000):
  FSpec prog w0 120 #[.agg (encRu (⟨p,t,s,al,qo,co,qa,ca⟩:Ru)).toArray, .agg (encRu (⟨p,t,s,al,qo2,co2,qa2,ca2⟩:Ru)).toArray] H (Still (.bool true) H):=by
 refine Az func120 U ntmps120 U (rD tb 2 U (e_ (Lt U cs_) ?_ U));rintro _ _ ⟨n2,rfl,rfl⟩;refine e_ (Lt U cs_) ?_ U;rintro _ _ ⟨n3,rfl,rfl⟩;refine rO tb 6 U (y_ (Lo U isAgg3 (by first|exact c_o)) ?_ U);refine rO tb 1 U (y_ (Lo U isAgg3 (by first|exact c_o)) ?_ U);refine y_ (yl_eqs (T U) (T U)) (rO tb 2 U ?_) U;refine A3 (Lp rfl isAgg121 sizeOf121 rfl (by first|exact(show Cells w0 _ _ _ (matchL t) from Ce (o:=1) (k:=20) (l:=encRu (⟨p,t,s,al,qo,co,qa,ca⟩:Ru)) fdd)|exact A2)) rfl (Ax rfl rfl (Aa rfl)) ?_;refine rO tb 1 U ?_;refine A3 (Lp rfl isAgg121 sizeOf121 rfl (by first|exact(show Cells w0 _ _ _ (matchL t) from Ce (o:=1) (k:=20) (l:=encRu (⟨p,t,s,al,qo2,co2,qa2,ca2⟩:Ru)) fdd)|exact A2)) rfl (Ax rfl rfl (Aa rfl)) ?_;refine A3 (yl_eqMatch (t:=t) (T U) (T U)) U (Ax U U (Aa U)) (rO tb 2 U (A3 (Lp U isAgg124 sizeOf124 U (by first|exact A2)) U (Ax U U (Aa U)) ?_));refine A3 (Lp U isAgg124 sizeOf124 U (by first|exact A2)) U (Ax U U (Aa U)) ?_;refine A3 (Bb (qe2 U U) call164 (fun H' hs=>alike_g p t s al qo co qa ca qo2 co2 qa2 ca2 (h1.mono (stn hs)) (h2.mono (stn hs)) hal)) U (Ax U U (Aa U)) (rO tb 5 U (As U (Ll U) ?_));exact⟨_,⟨rfl,rfl⟩,sbt⟩
theorem sameRule_e {w0:World}{H:List (Nat × Obj)}{r r2:Ru}(h1:RuM w0 H r)(h2:RuM w0 H r2)(hal:r.alts.length<=100000)(e:ruC r=ruC r2):
  FSpec prog w0 120 #[.agg (encRu r).toArray, .agg (encRu r2).toArray] H (Still (.bool true) H):=by
 obtain⟨p,t,s,al,qo,co,qa,ca⟩:=r;obtain⟨p2,t2,s2,al2,qo2,co2,qa2,ca2⟩:=r2;obtain⟨rfl,rfl,rfl,rfl⟩:p=p2/\t=t2/\s=s2/\al=al2:=by simpa[ruC] using e
 exact sameRule_g p t s al qo co qa ca qo2 co2 qa2 ca2 h1 h2 hal
theorem sameRules_g {w0:World}{H:List (Nat × Obj)}(a b:Tl)(h1:TlM w0 H a)(h2:TlM w0 H b)(hal:∀ r∈a.rs,r.alts.length<=100000)(e:a.rs.map ruC=b.rs.map ruC):
  FSpec prog w0 71 #[.slice a.q a.rs.length a.c, .slice b.q b.rs.length b.c] H (Still (.bool true) H):=by
 refine Az func71 U ntmps71 U ?_;have hn:=h1.n;have hlen:a.rs.length=b.rs.length:=by simpa using congrArg List.length e
 have hat:∀ i,i<a.rs.length->ruC (gd a.rs i)=ruC (gd b.rs i):=fun i hi=>by
  have h9:=congrArg (fun l=>gd l i) e
  rwa [Cr hi,Cr qom] at h9
 rw[<- hlen];refine rD tb 12 U (y_ (H4 (T U) (T U)) (rO tb 12 U ?_) U);refine Bz (X:=Nat) (V:=fun i=>[(5, .int .i64 (i:Nat))]) (C:=[(0,_),(1,_)]) (G:=fun i=>H) (φ:=fun i=>i<=a.rs.length) (μ:=fun i=>a.rs.length - i) (x0:=0) ?_ (kg U) ⟨atd,trivial⟩ sb0 ?_
 ·exact Nat.zero_le _
 rintro i hi;refine rD tb 9 U ?_
 first|refine Ak (Aa U) (fun c15=> ?_) (fun c15=> ?_)|refine Au (Aa U) (fun c15=> ?_) (fun c15=> ?_)
 ·have hi2:i<a.rs.length:=by have h9:((i:Nat):Int)<(a.rs.length:Nat):=c15;omega
  refine rC tb 5 U (B9 10 [(0,true),(1,true),(2,true),(3,true),(4,true),(5,true),(6,true),(7,true),(8,true),(9,true)] _ mixd qkr sb0 ?_ By);refine rP tb 2 U (o_y U (Lq U U runUnderlying54 sizeOf124 qom (by first|exact rfl|exact h1.a.b (i:=i) hi2|exact h2.a.b (i:=i) qom)) ?_ U Ac);refine o_y U (Lp U isAgg124 sizeOf124 U (by first|exact(h1.a.mono (by exact sbt)).cs (i:=i) hi2|exact A2)) ?_ U Ac;refine rP tb 2 U (o_y U (Lq U U runUnderlying54 sizeOf124 qom (by first|exact rfl|exact h1.a.b (i:=i) hi2|exact h2.a.b (i:=i) qom)) ?_ U Ac);refine o_y U (Lp U isAgg124 sizeOf124 U (by first|exact(h2.a.mono (by exact sbt)).cs (i:=i) qom|exact A2)) ?_ U Ac;refine o_y U (Bb (qe2 U U) call120 (fun H' hs=>sameRule_e ((h1.r _ (Ao hi2)).mono (stn hs)) ((h2.r _ (Ao (by omega:i<b.rs.length))).mono (stn hs)) (hal _ (Ao hi2)) (hat i hi2))) ?_ U Ac;refine rP tb 1 U (Bj U (rO tb 5 U ?_))
  first|refine A3 (Cc (T U)) U Ac ?_
  refine rO tb 8 U (y_ (Bd (T U) An qom) ?_ U);refine rO tb 2 U ?_;refine A8 (i+1) ?_ ?_ ⟨atd,trivial⟩ (kg U) ?_
  ·(show i+1<=a.rs.length);omega
  ·first|omega|(simp only[];omega)
  ·exact sbt
 ·have hi2:i=a.rs.length:=by have h9: ¬ ((i:Nat):Int)<(a.rs.length:Nat):=c15;omega
  refine rC tb 2 U (Aq (rX tb 8 U (As U (Ll U) ?_)));exact⟨_,⟨rfl,rfl⟩,sbt⟩
theorem sameTables_g {w0:World}{H:List (Nat × Obj)}(q:Option Addr)(c:Nat)(ta:List Tl)(q2:Option Addr)(c2:Nat)(tb2:List Tl)(h1:TlsM w0 H q ta)(h2:TlsM w0 H q2 tb2)(hn:ta.length<=1000000)(hal:∀ t∈ta,∀ r∈t.rs,r.alts.length<=100000)(e:ta.map (fun t=>t.rs.map ruC)=tb2.map (fun t=>t.rs.map ruC)):
  FSpec prog w0 23 #[.slice q ta.length c, .slice q2 tb2.length c2] H (Still (.bool true) H):=by
 refine Az func23 U ntmps23 U ?_;have hlen:ta.length=tb2.length:=by simpa using congrArg List.length e
 have hat:∀ i,i<ta.length->(gd ta i).rs.map ruC=(gd tb2 i).rs.map ruC:=fun i hi=>by
  have h9:=congrArg (fun l=>gd l i) e
  rwa [Cr hi,Cr qom] at h9
 rw[<- hlen];refine rD tb 12 U (y_ (H4 (T U) (T U)) (rO tb 12 U ?_) U);refine Bz (X:=Nat) (V:=fun i=>[(5, .int .i64 (i:Nat))]) (C:=[(0,_),(1,_)]) (G:=fun i=>H) (φ:=fun i=>i<=ta.length) (μ:=fun i=>ta.length - i) (x0:=0) ?_ (kg U) ⟨atd,trivial⟩ sb0 ?_
 ·exact Nat.zero_le _
 rintro i hi;refine rD tb 9 U ?_
 first|refine Ak (Aa U) (fun c15=> ?_) (fun c15=> ?_)|refine Au (Aa U) (fun c15=> ?_) (fun c15=> ?_)
 ·have hi2:i<ta.length:=by have h9:((i:Nat):Int)<(ta.length:Nat):=c15;omega
  refine rC tb 5 U (B9 10 [(0,true),(1,true),(2,true),(3,true),(4,true),(5,true),(6,true),(7,true),(8,true),(9,true)] _ mixd qkr sb0 ?_ By);refine rP tb 2 U (o_y U (Lq U U runUnderlying49 sizeOf54 qom (by first|exact rfl|exact h1.a.b (i:=i) hi2|exact h2.a.b (i:=i) qom)) ?_ U Ac);refine o_y U (Lo U isAgg54 (by first|exact c_o|exact(show Cell w0 _ _ (.slice (gd ta i).q (gd ta i).rs.length (gd ta i).c) from (h1.a.mono (by exact sbt)).f0 (i:=i) hi2 U))) ?_ U Ac;refine rP tb 2 U (o_y U (Lq U U runUnderlying49 sizeOf54 qom (by first|exact rfl|exact h1.a.b (i:=i) hi2|exact h2.a.b (i:=i) qom)) ?_ U Ac);refine o_y U (Lo U isAgg54 (by first|exact c_o|exact(show Cell w0 _ _ (.slice (gd tb2 i).q (gd tb2 i).rs.length (gd tb2 i).c) from (h2.a.mono (by exact sbt)).f0 (i:=i) qom U))) ?_ U Ac;refine o_y U (Bb (qe2 U U) call71 (fun H' hs=>sameRules_g (gd ta i) (gd tb2 i) ((h1.t _ (Ao hi2)).mono (stn hs)) ((h2.t _ (Ao (by omega:i<tb2.length))).mono (stn hs)) (hal _ (Ao hi2)) (hat i hi2))) ?_ U Ac;refine rP tb 1 U (Bj U (rO tb 5 U ?_))
  first|refine A3 (Cc (T U)) U Ac ?_
  refine rO tb 8 U (y_ (Bd (T U) An qom) ?_ U);refine rO tb 2 U ?_;refine A8 (i+1) ?_ ?_ ⟨atd,trivial⟩ (kg U) ?_
  ·(show i+1<=ta.length);omega
  ·first|omega|(simp only[];omega)
  ·exact sbt
 ·have hi2:i=ta.length:=by have h9: ¬ ((i:Nat):Int)<(ta.length:Nat):=c15;omega
  refine rC tb 2 U (Aq (rX tb 8 U (As U (Ll U) ?_)));exact⟨_,⟨rfl,rfl⟩,sbt⟩
end Go.Proofs.YtnafbfbfmgfcfaaGreatDoor
