/-
  A part of what LawA rests on: the logic, walks and plain laws. No condition.
-/
import Derived.Test.YtpkijiejccngcaaGreatDoorPA5
import Derived.Test.YtpkijiejccngcaaGreatDoorRows
import Derived.WalkKit
import Derived.ProofKit
import Derived.OpenShut
import Derived.Lib.SmallJoins
import Derived.Deep.SlicePairs
import Derived.Shelf.SlSortCmp.WholeK
import Derived.Shelf.SlSortCmp.NoneTotal
namespace Go.Proofs.YtpkijiejccngcaaGreatDoor
open _root_.Go.Proofs.Tryz
open Go.ChangeShapes Go.WideShapes Go.ChangeAt Go.RowKit Go.Joins Go.Deep
set_option linter.unusedVariables false
set_option linter.unusedSimpArgs false
set_option linter.unusedSectionVars false
set_option maxRecDepth 100000
theorem below_cell {W w:World}{p:Addr}{v:Value}(hb:Below W.heap.size W w)(h:W.cell? p=some v):w.cell? p=some v:=by
 have hlt:=World.block_lt_of_cell? _ _ h;have:=hb.block p.block hlt;unfold World.cell? at h ⊢;rw[this];exact h
theorem cell_arg {W:World}{p:Addr}{v:Value}(h:W.cell? p=some v):Cell W [] p v:=fun w hO=>below_cell hO.below h
theorem J8 {H:Type}(d:DataW H):1≤Rows.uptoBulk d:=by
 cases d with
 |lit l=>cases l<;>simp[Rows.uptoBulk]
 |nil=>simp[Rows.uptoBulk]
 |ptr d=>simp[Rows.uptoBulk]
 |slice elems spare=>simp[Rows.uptoBulk]
 |agg parts=>simp[Rows.uptoBulk]
 |iface t d=>simp[Rows.uptoBulk]
 |map entries=>simp[Rows.uptoBulk]
 |held h=>simp[Rows.uptoBulk]
theorem blk_sum {H:Type}{f:Nat→Nat}{D:Nat→DataW H}:∀ (l:List Nat),(∀ i∈l,f i≤Rows.uptoBulk (D i))→(l.map f).sum≤Rows.uptoBulkAll (l.map D)
 |[],_=>Nat.le_refl _
 |x::l,h=>by
  have h1:=h x (by simp);have h2:=blk_sum l fun i hi=>h i (by simp[hi])
  simp only[List.map_cons,List.sum_cons,Rows.uptoBulkAll];omega
theorem blk_mem {H:Type}{D:Nat→DataW H}:∀ {l:List Nat} {i:Nat},i∈l→Rows.uptoBulk (D i)≤Rows.uptoBulkAll (l.map D)
 |x::l,i,h=>by
  simp only[List.map_cons,Rows.uptoBulkAll];rcases List.mem_cons.1 h with rfl|h
  ·exact Nat.le_add_right _ _
  ·have:=blk_mem (D:=D) h;omega
section
variable {H:Type} {enc:TypeId × Value→H} {P:Program} {W:World} {b0:Nat} {sp1:Nat→Bool} {held:Bool}
theorem Ga {α:Type}{t e sz fuel:Nat}{cs:List Value}{x:DataW H × List MemPlace}{el:α→List Value}{φ:α→Prop}{szf:α→Nat}(ht:P.underlying t=some (.slice e))(hc:P.cellsOf e=sz)(hsz:0<sz)
  (hel:∀ n cs y,Rows.uptoBulk y.1<Rows.uptoBulk x.1→DataW.trod enc P W b0 sp1 held n e cs=some y→∃ u:α,cs=el u∧φ u∧szf u≤Rows.uptoBulk y.1) (h:DataW.trod enc P W b0 sp1 held fuel t cs=some x):
  ∃ (q:Option Addr) (l:List α) (cap:Nat),cs=[.slice q l.length cap]∧Arr W [] q sz el l∧l.length≤cap∧l.length≤9223372036854775807∧(∀ u∈l,φ u)∧(l.map szf).sum+1≤Rows.uptoBulk x.1:=by
 rcases open_slice ht h with ⟨rfl,rfl⟩|⟨a,len,cap,m,n,D,Pl,rfl,hb,hl,hm,hmm,rfl,hx⟩
 ·exact⟨none,[],0,rfl,fun i u hi=>by simp at hi,by simp,by simp,by simp,by simp[Rows.uptoBulk]⟩
 have hlm:len≤m:=by rw[hmm];split<;>omega
 have hlen:len≤9223372036854775807:=by unfold maxLen at hm;omega
 cases len with
 |zero=>exact⟨some a,[],cap,rfl,fun i u hi=>by simp at hi,by simp,by simp,by simp,by simp[Rows.uptoBulk]⟩
 |succ k=>
  have hbk:Rows.uptoBulkAll ((List.range (k+1)).map D)+1≤Rows.uptoBulk (DataW.slice ((List.range (k+1)).map D) ((List.range (m - (k+1))).map fun j=>D (k+1+j))):=by
   simp only[Rows.uptoBulk];omega
  have each:∀ i,i<k+1→∃ u:α,W.cells? b0 (a.add (i*sz)) sz=some (el u)∧φ u∧szf u≤Rows.uptoBulk (D i):=fun i hi=>by
   obtain⟨cs',h1,h2⟩:=hx i qom;rw[hc] at h1;have h3:=blk_mem (D:=D) (List.mem_range.2 hi);obtain⟨u,rfl,hu⟩:=hel _ _ _ (by simp only[];omega) h2;exact⟨u,h1,hu⟩
  obtain⟨u0,h00,hu0⟩:=each 0 qom
  letI:Inhabited α:=⟨u0⟩
  obtain⟨f,hf⟩:=choose_lt each;refine⟨some a,(List.range (k+1)).map f,cap,by simp,fun i u hi=> ?_,by simpa using hl,by simpa using hlen,fun u hu=> ?_,?_⟩
  ·have hik:i<k+1:=by have:=(List.getElem?_eq_some_iff.1 hi).1;simpa using this
   have hfu:f i=u:=by simpa[hik] using hi
   obtain⟨sb,so,spot⟩:=a;obtain⟨_,hl0,hc0⟩:=World.cells?_some h00;have hspot:spot=none:=by
    have h6:=(hc0 0 hsz).trans (List.getElem?_eq_getElem qom)
    simpa[Addr.add] using World.cell?_spot h6
   subst hspot;refine⟨rfl,fun j v hj=>cell_arg ?_⟩;obtain⟨_,hl1,hc1⟩:=World.cells?_some (hf i hik).1;rw[hfu] at hl1 hc1;have hjl:=(List.getElem?_eq_some_iff.1 hj).1;have h5:=hc1 j qom;rw[add_add,add_plain] at h5;have h6:=h5.trans hj;rw[← Nat.add_assoc] at h6;exact h6
  ·obtain⟨i,hi,rfl⟩:=List.mem_map.1 hu;exact(hf i (List.mem_range.1 hi)).2.1
  ·have:=blk_sum (f:=fun i=>szf (f i)) (D:=D) (List.range (k+1)) fun i hi=>(hf i (List.mem_range.1 hi)).2.2
   rw[List.map_map];have e:(szf ∘ f)=fun i=>szf (f i):=rfl
   rw[e];simp only[] at hbk ⊢;omega
end
theorem cells3:Tryz.prog.cellsOf 3=1:=by kernel_rfl
theorem cells4:Tryz.prog.cellsOf 4=1:=by kernel_rfl
theorem cells9:Tryz.prog.cellsOf 9=1:=by kernel_rfl
theorem cells22:Tryz.prog.cellsOf 54=1:=by kernel_rfl
theorem cells24:Tryz.prog.cellsOf 56=3:=by kernel_rfl
theorem cells42:Tryz.prog.cellsOf 27=1:=by kernel_rfl
theorem cells52:Tryz.prog.cellsOf 22=1:=by kernel_rfl
theorem cells53:Tryz.prog.cellsOf 23=1:=by kernel_rfl
theorem cells54:Tryz.prog.cellsOf 24=1:=by kernel_rfl
theorem cells56:Tryz.prog.cellsOf 26=3:=by kernel_rfl
theorem cells58:Tryz.prog.cellsOf 29=2:=by kernel_rfl
theorem cells71:Tryz.prog.cellsOf 61=3:=by kernel_rfl
theorem cells138:Tryz.prog.cellsOf 85=4:=by kernel_rfl
theorem cells154:Tryz.prog.cellsOf 88=2:=by kernel_rfl
theorem own_knob:ownKnob Tryz.prog.godebug=none:=by kernel_rfl
theorem i64_bd {n:Int}(h:(Lit.int .i64 n).wf=true): -9223372036854775808≤n∧n≤9223372036854775807:=by
 have:=bounds_i64 h;exact this
theorem sum_len {α:Type}(l:List α):(l.map fun _=>1).sum=l.length:=by
 induction l with
 |nil=>rfl
 |cons x l ih=>simp only[List.map_cons,List.sum_cons,List.length_cons,ih];omega
theorem sum_mem {α:Type}{f:α→Nat}:∀ {l:List α} {x:α},x∈l→f x≤(l.map f).sum
 |y::l,x,h=>by
  simp only[List.map_cons,List.sum_cons];rcases List.mem_cons.1 h with rfl|h
  ·omega
  ·have:=sum_mem (f:=f) h;omega
theorem szL_sum:∀ l:List Rxm,szL l=(l.map Rxm.sz).sum
 |[]=>rfl
 |x::l=>by simp only[szL,List.map_cons,List.sum_cons,szL_sum l]
section
variable {H:Type} {enc:TypeId × Value→H} {W:World} {b0 n:Nat} {sp1:Nat→Bool} {held:Bool} {y:DataW H × List MemPlace} {cs:List Value}
theorem Fa {c:Value}(h:DataW.trod enc Tryz.prog W b0 sp1 held n 3 [c]=some y):∃ a:Int,c= .int .i64 a∧(-9223372036854775808≤a∧a≤9223372036854775807):=by
 obtain⟨a,e0,_,wa⟩:=DataW.trod_int underlying3 h;simp at e0;exact⟨a,e0,i64_bd wa⟩
theorem rd_str (h:DataW.trod enc Tryz.prog W b0 sp1 held n 9 cs=some y):∃ u:ByteArray,cs=encS u∧u.size≤9223372036854775807:=by
 obtain⟨s,e0,_,ws⟩:=DataW.trod_string underlying9 h;exact⟨s,e0,by unfold maxLen at ws;omega⟩
theorem rd_ints (h:DataW.trod enc Tryz.prog W b0 sp1 held n 27 cs=some y):∃ (q:Option Addr) (l:List Int) (cap:Nat),cs=[.slice q l.length cap]∧Arr W [] q 1 encI l∧l.length≤cap∧l.length≤9223372036854775807∧(∀ u∈l, -9223372036854775808≤u∧u≤9223372036854775807)∧l.length+1≤Rows.uptoBulk y.1:=by
 obtain⟨q,l,cap,e,a,c,b,f,s⟩:=Ga (el:=encI) (φ:=fun u=> -9223372036854775808≤u∧u≤9223372036854775807) (szf:=fun _=>1) underlying27 cells3 qom (fun n cs y _ h=>by
  obtain⟨a,e0,_,wa⟩:=DataW.trod_int underlying3 h;exact⟨a,e0,i64_bd wa,J8 _⟩) h
 rw[sum_len] at s;exact⟨q,l,cap,e,a,c,b,f,s⟩
theorem rd_rx:∀ (N:Nat) {n:Nat} {y:DataW H × List MemPlace} {cs:List Value},Rows.uptoBulk y.1≤N→DataW.trod enc Tryz.prog W b0 sp1 held n 56 cs=some y→∃ u:Rxm,cs=encRx u∧RxM W [] u∧u.sz≤Rows.uptoBulk y.1
 |0,n,y,cs,hN,_=>by have:=J8 y.1;omega
 |N+1,n,y,cs,hN,h=>by
  obtain⟨xs,m,rfl,rfl,hlen,hxl,hall⟩:=DataW.trod_struct underlying56 h;rw[cells24] at hlen
  match xs,hxl,cs,hlen with
  |[x0,x1,x2],_,[c0,c1,c2],_=>
   have f0:DataW.trod enc Tryz.prog W b0 sp1 held m 3 [c0]=some x0:=by have:=hall 0 _ rfl;simpa[cells3] using this
   have f1:DataW.trod enc Tryz.prog W b0 sp1 held m 9 [c1]=some x1:=by have:=hall 1 _ rfl;simpa[cells9] using this
   have f2:DataW.trod enc Tryz.prog W b0 sp1 held m 54 [c2]=some x2:=by have:=hall 2 _ rfl;simpa[cells22] using this
   have hb:Rows.uptoBulk x2.1+2≤Rows.uptoBulk (DataW.agg (H:=H) ([x0,x1,x2].map (·.1))):=by
    have:=J8 x0.1;have:=J8 x1.1;simp only[Rows.uptoBulk,Rows.uptoBulkAll,List.map_cons,List.map_nil] at *;omega
   have hN':Rows.uptoBulk (DataW.agg (H:=H) ([x0,x1,x2].map (·.1)))≤N+1:=hN;obtain⟨k,rfl,_⟩:=Fa f0;obtain⟨s,e1,hs⟩:=rd_str f1;obtain⟨q,l,cap,e2,ha,hc,hl,hf,hsum⟩:=Ga (el:=encRx) (φ:=RxM W []) (szf:=Rxm.sz) underlying54 cells24 qom (fun n cs y hy h=>rd_rx N qom h) f2;simp at e1 e2;refine⟨.mk k s q cap l,by rw[e1,e2];rfl, .mk ha hf hs hl,?_⟩;rw[Fj,show (Rxm.mk k s q cap l).args=l from rfl,szL_sum];exact Nat.le_trans (by omega:1+(l.map Rxm.sz).sum≤Rows.uptoBulk x2.1+2) hb
theorem rd_node (h:DataW.trod enc Tryz.prog W b0 sp1 held n 85 cs=some y):∃ u:Nod,cs=encN u∧u.name.size≤9223372036854775807:=by
 obtain⟨xs,m,rfl,hx,hlen,hxl,hall⟩:=DataW.trod_struct underlying85 h;rw[cells138] at hlen
 match xs,hxl,cs,hlen with
 |[x0,x1,x2,x3],_,[c0,c1,c2,c3],_=>
  have f0:DataW.trod enc Tryz.prog W b0 sp1 held m 9 [c0]=some x0:=by have:=hall 0 _ rfl;simpa[cells9] using this
  have f1:DataW.trod enc Tryz.prog W b0 sp1 held m 4 [c1]=some x1:=by have:=hall 1 _ rfl;simpa[cells4] using this
  have f2:DataW.trod enc Tryz.prog W b0 sp1 held m 3 [c2]=some x2:=by have:=hall 2 _ rfl;simpa[cells3] using this
  have f3:DataW.trod enc Tryz.prog W b0 sp1 held m 3 [c3]=some x3:=by have:=hall 3 _ rfl;simpa[cells3] using this
  obtain⟨s,e0,hs⟩:=rd_str f0;obtain⟨b,e1,_⟩:=DataW.trod_bool underlying4 f1;obtain⟨a2,rfl,_⟩:=Fa f2;obtain⟨a3,rfl,_⟩:=Fa f3;simp at e0 e1;exact⟨⟨s,b,a2,a3⟩,by rw[e0,e1],hs⟩
theorem rd_link (h:DataW.trod enc Tryz.prog W b0 sp1 held n 61 cs=some y):∃ u:Lnk,cs=encL u∧True:=by
 obtain⟨xs,m,rfl,hx,hlen,hxl,hall⟩:=DataW.trod_struct underlying61 h;rw[cells71] at hlen
 match xs,hxl,cs,hlen with
 |[x0,x1,x2],_,[c0,c1,c2],_=>
  have f0:DataW.trod enc Tryz.prog W b0 sp1 held m 3 [c0]=some x0:=by have:=hall 0 _ rfl;simpa[cells3] using this
  have f1:DataW.trod enc Tryz.prog W b0 sp1 held m 3 [c1]=some x1:=by have:=hall 1 _ rfl;simpa[cells3] using this
  have f2:DataW.trod enc Tryz.prog W b0 sp1 held m 3 [c2]=some x2:=by have:=hall 2 _ rfl;simpa[cells3] using this
  obtain⟨a0,rfl,_⟩:=Fa f0;obtain⟨a1,rfl,_⟩:=Fa f1;obtain⟨a2,rfl,_⟩:=Fa f2;exact⟨⟨a0,a1,a2⟩,rfl,trivial⟩
theorem rd_edge (h:DataW.trod enc Tryz.prog W b0 sp1 held n 88 cs=some y):∃ u:Edg,cs=encE u∧u.name.size≤9223372036854775807:=by
 obtain⟨xs,m,rfl,hx,hlen,hxl,hall⟩:=DataW.trod_struct underlying88 h;rw[cells154] at hlen
 match xs,hxl,cs,hlen with
 |[x0,x1],_,[c0,c1],_=>
  have f0:DataW.trod enc Tryz.prog W b0 sp1 held m 9 [c0]=some x0:=by have:=hall 0 _ rfl;simpa[cells9] using this
  have f1:DataW.trod enc Tryz.prog W b0 sp1 held m 3 [c1]=some x1:=by have:=hall 1 _ rfl;simpa[cells3] using this
  obtain⟨s,e0,hs⟩:=rd_str f0;obtain⟨a1,rfl,_⟩:=Fa f1;simp at e0;exact⟨⟨s,a1⟩,by rw[e0],hs⟩
theorem open_net {base:Nat}{r:_root_.Go.Reach}{v:Value}{d:DataW H}{p:List MemPlace}(hv:Value.okWide Tryz.prog W r base 26 v)(h:DataW.Trod enc Tryz.prog W b0 sp1 held 26 v d p):∃ n:Nm,v= .agg (encNm n).toArray∧NetM W [] n:=by
 obtain⟨cs,rfl,hsz⟩:=okWide_struct underlying26 hv;obtain⟨fuel,hf⟩:=h;obtain⟨xs,m,rfl,hx,hlen,hxl,hall⟩:=DataW.trod_struct underlying26 hf;obtain⟨l⟩:=cs;simp only[Value.cells,cells56] at hlen hall
 match xs,hxl,l,hlen with
 |[x0,x1,x2],_,[c0,c1,c2],_=>
  have f0:DataW.trod enc Tryz.prog W b0 sp1 held m 22 [c0]=some x0:=by have:=hall 0 _ rfl;simpa[cells52] using this
  have f1:DataW.trod enc Tryz.prog W b0 sp1 held m 23 [c1]=some x1:=by have:=hall 1 _ rfl;simpa[cells53] using this
  have f2:DataW.trod enc Tryz.prog W b0 sp1 held m 24 [c2]=some x2:=by have:=hall 2 _ rfl;simpa[cells54] using this
  obtain⟨q0,l0,k0,e0,a0,_,b0,s0,_⟩:=Ga (el:=encN) (szf:=fun _=>0) underlying22 cells138 qom (fun n cs y _ h=>by obtain⟨u,h1,h2⟩:=rd_node h;exact⟨u,h1,h2,Nat.zero_le _⟩) f0;obtain⟨q1,l1,k1,e1,a1,_,b1,_,_⟩:=Ga (el:=encL) (szf:=fun _=>0) underlying23 cells71 qom (fun n cs y _ h=>by obtain⟨u,h1,h2⟩:=rd_link h;exact⟨u,h1,h2,Nat.zero_le _⟩) f1;obtain⟨q2,l2,k2,e2,a2,_,b2,s2,_⟩:=Ga (el:=encE) (szf:=fun _=>0) underlying24 cells154 qom (fun n cs y _ h=>by obtain⟨u,h1,h2⟩:=rd_edge h;exact⟨u,h1,h2,Nat.zero_le _⟩) f2;simp at e0 e1 e2;exact⟨⟨l0,l1,l2,q0,k0,q1,k1,q2,k2⟩,by rw[e0,e1,e2],⟨a0,a1,a2,b0,b1,b2,s0,s2⟩⟩
theorem open_fail {base:Nat}{r:_root_.Go.Reach}{v:Value}{d:DataW H}{p:List MemPlace}(hv:Value.okWide Tryz.prog W r base 29 v)(h:DataW.Trod enc Tryz.prog W b0 sp1 held 29 v d p):∃ f:Flr,v= .agg (encFl f).toArray∧Arr W [] f.q 1 encI f.links∧f.links.length≤9223372036854775807:=by
 obtain⟨cs,rfl,hsz⟩:=okWide_struct underlying29 hv;obtain⟨fuel,hf⟩:=h;obtain⟨xs,m,rfl,hx,hlen,hxl,hall⟩:=DataW.trod_struct underlying29 hf;obtain⟨l⟩:=cs;simp only[Value.cells,cells58] at hlen hall
 match xs,hxl,l,hlen with
 |[x0,x1],_,[c0,c1],_=>
  have f0:DataW.trod enc Tryz.prog W b0 sp1 held m 27 [c0]=some x0:=by have:=hall 0 _ rfl;simpa[cells42] using this
  have f1:DataW.trod enc Tryz.prog W b0 sp1 held m 3 [c1]=some x1:=by have:=hall 1 _ rfl;simpa[cells3] using this
  obtain⟨q,l,cap,e,a,_,b,_,_⟩:=rd_ints f0;obtain⟨k,rfl,_⟩:=Fa f1;simp at e;exact⟨⟨q,cap,l,k⟩,by rw[e],a,b⟩
end
end Go.Proofs.YtpkijiejccngcaaGreatDoor
namespace Go.Proofs.YtpkijiejccngcaaGreatDoor
open _root_.Go.Proofs.Tryz
open Go.RowKit Go.Sort Go.Shelf Go.Proofs
set_option linter.unusedVariables false
set_option linter.unusedSimpArgs false
set_option linter.unusedSectionVars false
set_option maxRecDepth 100000
section
variable {α:Type} [Inhabited α] {enc:α→List Value} {k:Nat}
theorem flat_get2 (he:∀ x,(enc x).length=k)(l:List α)(t:Nat)(ht:t<l.length*k):(l.flatMap enc)[t]? =some ((enc l[t / k]!)[t % k]!):=by
 have hk:0<k:=by
  rcases Nat.eq_zero_or_pos k with h|h
  ·subst h;simp at ht
  ·exact h
 have h1:t / k<l.length:=by rw[Nat.div_lt_iff_lt_mul hk];exact ht
 have h2:t % k<k:=Nat.mod_lt _ hk;have h3:l[t / k]? =some l[t / k]! :=by simp[h1]
 have h4:(enc l[t / k]!)[t % k]? =some ((enc l[t / k]!)[t % k]!):=by
  have:t % k<(enc l[t / k]!).length:=by rw[he];exact h2
  rw[List.getElem?_eq_getElem this,getElem!_pos (enc l[t / k]!) (t % k) this]
 have:=Gw he l (t / k) (l[t / k]!) (t % k) ((enc l[t / k]!)[t % k]!) h3 h4;rw[show t / k*k+t % k=t from by rw[Nat.mul_comm];exact Nat.div_add_mod t k] at this;exact this
theorem flatK_list (he:∀ x,(enc x).length=k)(l:List α):flatK enc k l.toArray=(l.flatMap enc).toArray:=by
 apply Array.ext_getElem?;intro t
 by_cases ht:t<l.length*k
 ·have h1:=flat_get2 he l t ht;have h2:(l.flatMap enc).toArray[t]? =some ((enc l[t / k]!)[t % k]!):=by rw[List.getElem?_toArray];exact h1
  rw[h2];simp[flatK,ht]
 ·rw[Array.getElem?_eq_none (by simp;omega),Array.getElem?_eq_none (by simp only[List.size_toArray];rw[Cr he];omega)]
variable {w0 w:World} {n:Nat} {junk:List Value} {e:TypeId} {X:List (Nat × Obj)}
theorem own_holdsK (he:∀ x,(enc x).length=k){l:List α}(hO:Own w0 ((n,Cl (l.flatMap enc++junk) e)::X) w):HoldsK enc k w n 0 l.toArray:=by
 unfold HoldsK;rw[flatK_list he];have:l.flatMap enc=(l.flatMap enc).map id:=by simp
 rw[this] at hO;exact own_holds hO
theorem own_rowK (he:∀ x,(enc x).length=k){l l':List α}(hO:Own w0 ((n,Cl (l.flatMap enc++junk) e)::X) w)(hl:l.length=l'.length)(q:Nat)(os:Array Obj):Own w0 ((n,Cl (l'.flatMap enc++junk) e)::X) (sortWorldK enc k w n 0 q l'.toArray os):=by
 unfold sortWorldK putRowK;rw[flatK_list he];have e1:l.flatMap enc=(l.flatMap enc).map id:=by simp
 have e2:l'.flatMap enc=(l'.flatMap enc).map id:=by simp
 rw[e1] at hO;rw[e2];have:=own_row (enc:=id) hO (l':=(l'.flatMap enc)) (by rw[Cr he,Cr he,hl]) q os
 simpa using this
end
theorem sorted_list {α:Type}[Inhabited α] {lt:α→α→Bool}{l:List α}{d:Array α}(hp:PermIn 0 l.length l.toArray d)(hs:SortedIn lt 0 l.length d):d.toList.Perm l∧d.toList.Pairwise (fun a b=>lt b a=false):=by
 obtain⟨h1,_,h3⟩:=hp;have hsz:d.size=l.length:=by simpa using h1
 have e1:d.extract 0 l.length=d:=by rw[← hsz];simp
 have e2:l.toArray.extract 0 l.length=l.toArray:=by simp
 rw[e1,e2] at h3;refine⟨h3,?_⟩;rw[List.pairwise_iff_getElem];intro i j hi hj hij;have hi':i<d.size:=by simpa using hi
 have hj':j<d.size:=by simpa using hj
 have:=hs i j (Nat.zero_le _) hij qom;rw[getElem!_pos d i hi',getElem!_pos d j hj'] at this
 simpa using this
end Go.Proofs.YtpkijiejccngcaaGreatDoor
namespace Go.Proofs.YtpkijiejccngcaaGreatDoor
open _root_.Go.Proofs.Tryz
open Go.RowKit
set_option linter.unusedVariables false
set_option linter.unusedSimpArgs false
set_option linter.unusedSectionVars false
set_option maxRecDepth 100000
theorem Hz:∀ a:List Int,cmpL a a=0
 |[]=>rfl
 |x::a=>by rw[cmpL,if_neg qom,if_neg qom,Hz a]
theorem cmpL_eq0:∀ {a b:List Int},cmpL a b=0→a=b
 |[],[],_=>rfl
 |[],_::_,h=>by cases h
 |_::_,[],h=>by cases h
 |x::a,y::b,h=>by
  rw[cmpL] at h
  split at h
  ·cases h
  ·split at h
   ·cases h
   ·rw[show x=y by omega,cmpL_eq0 h]
theorem cmpL_lt:∀ {a b:List Int},cmpL a b<0↔0<cmpL b a
 |[],[]=>by simp[cmpL]
 |[],_::_=>by simp[cmpL]
 |_::_,[]=>by simp[cmpL]
 |x::a,y::b=>by
  rw[cmpL,cmpL]
  by_cases h1:x<y
  ·rw[if_pos h1,if_neg qom,if_pos h1];simp
  ·rw[if_neg h1]
   by_cases h2:y<x
   ·rw[if_pos h2,if_pos h2];simp
   ·rw[if_neg h2,if_neg h2,if_neg h1];exact cmpL_lt
theorem Gp:∀ {a b c:List Int},cmpL a b<0→cmpL b c<0→cmpL a c<0
 |[],b,[],h1,h2=>by
  cases b with
  |nil=>exact h1
  |cons y b=>simp[cmpL] at h2
 |[],_,_::_,_,_=>by simp[cmpL]
 |x::a,[],c,h1,_=>by simp[cmpL] at h1
 |x::a,y::b,[],_,h2=>by simp[cmpL] at h2
 |x::a,y::b,z::c,h1,h2=>by
  rw[cmpL] at h1 h2 ⊢
  by_cases e1:x<y
  ·by_cases e2:y<z
   ·rw[if_pos qom];decide
   ·rw[if_neg e2] at h2
    by_cases e3:z<y
    ·rw[if_pos e3] at h2;omega
    ·rw[if_pos qom];decide
  ·rw[if_neg e1] at h1
   by_cases e4:y<x
   ·rw[if_pos e4] at h1;omega
   ·rw[if_neg e4] at h1;obtain rfl:x=y:=by omega
    by_cases e2:x<z
    ·rw[if_pos e2];decide
    ·rw[if_neg e2] at h2 ⊢
     by_cases e3:z<x
     ·rw[if_pos e3] at h2;omega
     ·rw[if_neg e3] at h2 ⊢;exact Gp h1 h2
theorem cmpL_tri (a b:List Int):cmpL a b<0∨a=b∨cmpL b a<0:=by
 rcases Int.lt_trichotomy (cmpL a b) 0 with h|h|h
 ·exact .inl h
 ·exact .inr (.inl (cmpL_eq0 h))
 ·exact .inr (.inr (cmpL_lt.2 h))
theorem lxB_cmp:∀ {a b:List Nat},putS.lxB a b=true↔cmpL (toInts a) (toInts b)<0
 |[],[]=>by simp[putS.lxB,toInts,cmpL]
 |[],_::_=>by simp[putS.lxB,toInts,cmpL]
 |_::_,[]=>by simp[putS.lxB,toInts,cmpL]
 |x::a,y::b=>by
  have ih:=lxB_cmp (a:=a) (b:=b);simp only[toInts,List.map_cons] at ih ⊢;rw[putS.lxB,cmpL]
  by_cases h1:x<y
  ·rw[if_pos qom];simp[h1]
  ·rw[if_neg qom]
   by_cases h2:y<x
   ·rw[if_pos qom];simp[h1];omega
   ·rw[if_neg qom];obtain rfl:x=y:=by omega
    simp only[h1,decide_false,Bool.false_or,decide_true,Bool.true_and];exact ih
theorem lcmp_s {w0:World}{H:List (Nat × Obj)}(x y:Lm)(hx:LmM w0 H x)(hy:LmM w0 H y):
  FSpec Tryz.prog w0 62 #[.agg (encLm x).toArray, .agg (encLm y).toArray] H (Still (.int .i64 (cmpL x.l y.l)) H):=by
 refine Ap Tryz.func62 U ntmps62 U (rD tb 2 U (e_ (Lt U cs_) ?_ U));rintro _ _ ⟨n2,rfl,rfl⟩;refine e_ (Lt U cs_) ?_ U;rintro _ _ ⟨n3,rfl,rfl⟩;refine rO tb 6 U (y_ (Lo U isAgg27 qco) ?_ U);refine rO tb 1 U (y_ (Lo U isAgg27 qco) ?_ U);refine y_ (Ax (qe2 U U) call63 (fun H' hs=>scmp_s x.l y.l _ _ _ _ (hx.a.mono (stn hs)) (hy.a.mono (stn hs)) hx.n hy.n)) (rO tb 4 U (Ai U (Ll U) ?_)) U;exact⟨_,⟨rfl,rfl⟩,sbt⟩
def laysSF_ren:Go.Shelf.Ren:=⟨fun|6=>61|15=>117|14=>116|28=>164|29=>165|20=>156|21=>157|22=>158|23=>159|24=>160|25=>161|26=>162|27=>163|46=>183|47=>184|48=>185|49=>186|50=>187|57=>205|n=>n,fun|22=>79|24=>77|25=>108|3=>3|39=>178|0=>0|53=>225|55=>138|4=>4|46=>219|45=>218|50=>52|5=>5|9=>9|66=>238|70=>242|76=>255|77=>256|n=>n,fun|n=>n⟩
theorem laysSF:Go.Proofs.SlLaysF0.n6 Tryz.prog laysSF_ren:={
 mixed:=by kernel_rfl,
 f6:=⟨"slices.SortFunc[[]interlace/api.Lane,interlace/api.Lane]",by decide,Tryz.func61.trans (congrArg some qkr)⟩,
 f14:=⟨"slices.pdqsortCmpFunc[interlace/api.Lane]",by decide,Tryz.func116.trans (congrArg some qkr)⟩,
 f15:=Tryz.func117.trans (congrArg some qkr),
 f20:=⟨"slices.insertionSortCmpFunc[interlace/api.Lane]",by decide,Tryz.func156.trans (congrArg some qkr)⟩,
 f21:=⟨"slices.heapSortCmpFunc[interlace/api.Lane]",by decide,Tryz.func157.trans (congrArg some qkr)⟩,
 f22:=⟨"slices.breakPatternsCmpFunc[interlace/api.Lane]",by decide,Tryz.func158.trans (congrArg some qkr)⟩,
 f23:=⟨"slices.choosePivotCmpFunc[interlace/api.Lane]",by decide,Tryz.func159.trans (congrArg some qkr)⟩,
 f24:=⟨"slices.reverseRangeCmpFunc[interlace/api.Lane]",by decide,Tryz.func160.trans (congrArg some qkr)⟩,
 f25:=⟨"slices.partialInsertionSortCmpFunc[interlace/api.Lane]",by decide,Tryz.func161.trans (congrArg some qkr)⟩,
 f26:=⟨"slices.partitionEqualCmpFunc[interlace/api.Lane]",by decide,Tryz.func162.trans (congrArg some qkr)⟩,
 f27:=⟨"slices.partitionCmpFunc[interlace/api.Lane]",by decide,Tryz.func163.trans (congrArg some qkr)⟩,
 f28:=Tryz.func164.trans (congrArg some qkr),
 f29:=Tryz.func165.trans (congrArg some qkr),
 f46:=⟨"slices.siftDownCmpFunc[interlace/api.Lane]",by decide,Tryz.func183.trans (congrArg some qkr)⟩,
 f47:=Tryz.func184.trans (congrArg some qkr),
 f48:=Tryz.func185.trans (congrArg some qkr),
 f49:=⟨"slices.medianAdjacentCmpFunc[interlace/api.Lane]",by decide,Tryz.func186.trans (congrArg some qkr)⟩,
 f50:=⟨"slices.medianCmpFunc[interlace/api.Lane]",by decide,Tryz.func187.trans (congrArg some qkr)⟩,
 f57:=⟨"slices.order2CmpFunc[interlace/api.Lane]",by decide,Tryz.func205.trans (congrArg some qkr)⟩,
 t0:=underlying0,
 a0:=isAgg0,
 z0:=sizeOf0,
 v0:=zeroValue0,
 t3:=underlying3,
 a3:=isAgg3,
 z3:=sizeOf3,
 v3:=zeroValue3,
 t4:=underlying4,
 a4:=isAgg4,
 z4:=sizeOf4,
 v4:=zeroValue4,
 t5:=underlying5,
 a5:=isAgg5,
 z5:=sizeOf5,
 v5:=zeroValue5,
 t9:=underlying9,
 a9:=isAgg9,
 z9:=sizeOf9,
 v9:=zeroValue9,
 t22:=underlying79,
 a22:=isAgg79,
 z22:=sizeOf79,
 v22:=zeroValue79,
 t25:=underlying108,
 a25:=isAgg108,
 z25:=sizeOf108,
 v25:=zeroValue108,
 t39:=underlying178,
 a39:=isAgg178,
 z39:=sizeOf178,
 v39:=zeroValue178,
 t45:=underlying218,
 a45:=isAgg218,
 z45:=sizeOf218,
 v45:=zeroValue218,
 t46:=underlying219,
 a46:=isAgg219,
 z46:=sizeOf219,
 v46:=zeroValue219,
 t50:=underlying52,
 a50:=isAgg52,
 z50:=sizeOf52,
 v50:=zeroValue52,
 t53:=underlying225,
 a53:=isAgg225,
 z53:=sizeOf225,
 v53:=zeroValue225,
 t55:=underlying138,
 a55:=isAgg138,
 z55:=sizeOf138,
 v55:=zeroValue138,
 t66:=underlying238,
 a66:=isAgg238,
 z66:=sizeOf238,
 v66:=zeroValue238,
 t70:=underlying242,
 a70:=isAgg242,
 z70:=sizeOf242,
 v70:=zeroValue242,
 t76:=underlying255,
 a76:=isAgg255,
 z76:=sizeOf255,
 v76:=zeroValue255,
 t77:=underlying256,
 a77:=isAgg256,
 z77:=sizeOf256,
 v77:=zeroValue256}
abbrev LanV (w0:World) (H:List (Nat × Obj)):Type:={s:Lm // LmM w0 H s}
instance lanVI (w0:World) (H:List (Nat × Obj)):Inhabited (LanV w0 H):=⟨⟨⟨none,0,[],0⟩,fun i x hi=>by simp at hi,Nat.zero_le _⟩⟩
def encLv {w0:World} {H:List (Nat × Obj)} (x:LanV w0 H):List Value:=encLm x.1
def cmpLV {w0:World} {H:List (Nat × Obj)} (x y:LanV w0 H):Int:=cmpL x.1.l y.1.l
theorem ltV {w0:World}{H:List (Nat × Obj)}(x y:LanV w0 H):Go.Proofs.ltOf cmpLV x y=decide (cmpL x.1.l y.1.l<0):=rfl
theorem swoV {w0:World}{H:List (Nat × Obj)}:Go.Sort.SWO (Go.Proofs.ltOf (cmpLV (w0:=w0) (H:=H))) where
 irrefl x:=by rw[ltV,Hz];rfl
 trans x y z h1 h2:=by rw[ltV,decide_eq_true_iff] at *;exact Gp h1 h2
 ntrans x y z h1 h2:=by
  rw[ltV,decide_eq_false_iff_not] at *;intro h3;rcases cmpL_tri x.1.l y.1.l with h|h|h
  ·exact h1 h
  ·rw[h] at h3;exact h2 h3
  ·rcases cmpL_tri y.1.l z.1.l with g|g|g
   ·exact h2 g
   ·rw[← g] at h3;exact h1 h3
   ·have:=Gp h3 (Gp g h);rw[Hz] at this;omega
theorem lm_world {w0 W:World}{H:List (Nat × Obj)}{s:Lm}(hs:LmM w0 H s)(hO:Own w0 H W):LmM W [] s:=⟨fun i x hi=>⟨(hs.a i x hi).1,fun j v hj=>cell_arg ((hs.a i x hi).2 j v hj W hO)⟩,hs.n⟩
theorem cmpLaysV {w0 w:World}{H:List (Nat × Obj)}{blk:Nat}{junk:List Value}{zs:List (LanV w0 H)}(hO:Own w0 ((blk,Cl (zs.flatMap encLv++junk) 77)::H) w):Go.Proofs.CmpLays Tryz.prog 62 #[] (encLv (w0:=w0) (H:=H)) 2 cmpLV blk 0 zs.toArray.size w:=fun m os dk hdk x y=>by
 have hW:=own_rowK (enc:=encLv (w0:=w0) (H:=H)) (k:=2) (l':=dk.toList) (fun _=>rfl) hO (by rw[show dk.toList.length=dk.size from Array.length_toList ..,hdk];rfl) m os;rw[show dk.toList.toArray=dk by simp] at hW;have hW2:Own w0 H _:=hW.sub (List.sublist_cons_self _ _);have h:=lcmp_s (w0:=Go.Proofs.sortWorldK encLv 2 w blk 0 m dk os) (H:=[]) x.1 y.1 (lm_world x.2 hW2) (lm_world y.2 hW2) _ (Own.start _);refine h.mono fun e w' hh=> ?_
 obtain⟨v,H',he,hO',hv,hH⟩:=hh;subst hv;subst hH;exact⟨he,own_grown hO'⟩
open Go.Sort Go.Proofs in
theorem sortL_none (p:Option Addr)(cap:Nat)(w:World):
  Calls Tryz.prog 61 #[.slice p 0 cap, .func (.func 62) #[] #[]] w fun e w'=>e= .returned (.tuple #[])∧w'=w:=AnyF.slices_SortFunc_none laysSF p cap _ w
theorem lv_list {w0:World}{H:List (Nat × Obj)}:∀ {zs:List Lm},(∀ s∈zs,LmM w0 H s)→∃ l:List (LanV w0 H),l.map Subtype.val=zs
 |[],_=>⟨[],rfl⟩
 |s::zs,h=>by
  obtain⟨l,hl⟩:=lv_list (zs:=zs) fun x hx=>h x (by simp[hx])
  exact⟨⟨s,h s (by simp)⟩::l,by simp[hl]⟩
open Go.Sort Go.Proofs in
theorem sortL_s {w0:World}{H:List (Nat × Obj)}(d:Sl)(zs:List Lm)(hok:SlOk d zs.length 2)(hsz:zs.length≤1000000)(hz:∀ s∈zs,LmM w0 H s):
  FSpec Tryz.prog w0 61 #[slV d zs.length, .func (.func 62) #[] #[]] (slH d (zs.flatMap encLm) 77++H) (fun v H'=>∃ ks:List Lm,(v= .tuple #[]∧ks.Perm zs∧ks.Pairwise (fun a b=> ¬ cmpL b.l a.l<0))∧H'=slH d (ks.flatMap encLm) 77++H):=fun w hO=>by
 cases d with
 |nil=>
  have:zs=[]:=List.eq_nil_of_length_eq_zero hok;subst this;exact(sortL_none none 0 w).mono fun e w' ⟨he,hw⟩=>⟨_,_,he,hw ▸ hO,[],⟨rfl,List.Perm.refl _,List.Pairwise.nil⟩,by simp[slH]⟩
 |blk n cap junk=>
  simp only[slH,List.singleton_append,List.cons_append,List.nil_append,slQ,slC] at hO hsz ⊢;obtain⟨l,rfl⟩:=lv_list hz;have hfm:∀ l:List (LanV w0 H),(l.map Subtype.val).flatMap encLm=l.flatMap encLv:=fun l=>by rw[List.flatMap_map];rfl
  rw[hfm] at hO;have hcon:=AnyQ.slices_SortFunc laysSF 2 isAgg77 sizeOf77 (encLv (w0:=w0) (H:=H)) (fun _=>rfl) (fun x v hv=>by simp[encLv] at hv;rcases hv with rfl|rfl<;>rfl) cmpLV swoV 62 #[] n 0 cap l.toArray w call62 (cmpLaysV hO) (own_holdsK (enc:=encLv (w0:=w0) (H:=H)) (k:=2) (fun _=>rfl) hO) (own_lt hO) (by simp at hsz ⊢;omega);rw[List.size_toArray] at hcon
  change Calls Tryz.prog 61 _ _ _ at hcon
  rw[List.length_map];refine hcon.mono fun e w' ⟨he,d',q,os,hp,hs,hw⟩=> ?_
  obtain⟨h1,h2⟩:=sorted_list hp hs;have hO':=own_rowK (enc:=encLv (w0:=w0) (H:=H)) (k:=2) (l':=d'.toList) (fun _=>rfl) hO h1.length_eq.symm q os;rw[show d'.toList.toArray=d' by simp] at hO';refine⟨_,_,he,hw ▸ hO',d'.toList.map Subtype.val,⟨rfl,h1.map _,?_⟩,by rw[hfm]⟩;rw[List.pairwise_map];exact h2.imp fun {a b} h=>by rw[ltV,decide_eq_false_iff_not] at h;exact h
def prcF (n:Nn) (ld:List Int) (a:Int) (k:Nat):List Int:=(List.range k).map fun j=>if capB n ld j a then 0 else 1
theorem C7 (n:Nn)(ld:List Int)(a:Int)(k:Nat):(prcF n ld a k).length=k:=by simp[prcF]
theorem H3 (n:Nn)(ld:List Int)(a:Int)(k:Nat):prcF n ld a (k+1)=prcF n ld a k++[if capB n ld k a then 0 else 1]:=by
 unfold prcF;rw[List.range_succ,List.map_append];rfl
abbrev prcZ (n:Nn) (ld:List Int) (a:Int) (N k:Nat):List Int:=prcF n ld a k++List.replicate (N - k) 0
theorem prcZ_len {n:Nn}{ld:List Int}{a:Int}{N k:Nat}(h:k≤N):(prcZ n ld a N k).length=N:=by
 rw[List.length_append,C7,List.length_replicate];omega
theorem prcZ_no {n:Nn}{ld:List Int}{a:Int}{N k:Nat}(h:k<N)(hc:capB n ld k a=false):(prcZ n ld a N k).set k 1=prcZ n ld a N (k+1):=by
 unfold prcZ;rw[H3,hc,show N - k=(N - (k+1))+1 by omega,List.replicate_succ,List.set_append_right _ _ (by rw[C7];exact Nat.le_refl _),C7,Nat.sub_self];simp
theorem prcZ_yes {n:Nn}{ld:List Int}{a:Int}{N k:Nat}(h:k<N)(hc:capB n ld k a=true):prcZ n ld a N (k+1)=prcZ n ld a N k:=by
 unfold prcZ;rw[H3,hc,show N - k=(N - (k+1))+1 by omega,List.replicate_succ];simp
theorem prcZ_end (n:Nn)(ld:List Int)(a:Int)(N:Nat):prcZ n ld a N N=prcF n ld a N:=by unfold prcZ;simp
def stuckF (n:Nn) (f:Flr) (os:List Odr) (o:Odr) (ld:List Int):List Int × Int:=
 if (findF n f (mOf o.e) o.x o.y).2=0 then (if refF n f os (prcF n ld o.amt n.links.length) then (prcF n ld o.amt n.links.length,19) else (prcF n ld o.amt n.links.length,27)) else ([],18)
theorem stuck_s {w0:World}{H:List (Nat × Obj)}(br:Nat)(n:Nn)(hn:NetR w0 H n)(hok:NnOk n)(hcap:∀ x∈n.links,0≤x.cap∧x.cap≤1048576)(f:Flr)(hf:Arr w0 H f.q 1 encI f.links)(hfl:f.links.length≤1000000)(os:List Om)(os2:List Odr)(qo:Option Addr)(co:Nat)(hO:OsM w0 H qo os)(hoo:OsOk n os os2)(o:Odr)(ho:OdrOk n o)(om:Om)(hod:OdR om o)(ld:List Int)(hld:LdR n ld)(m:Mc)(hm:McOk w0 H m)(hmpl:m.pl=mOf o.e)(y:Sl)(hy:SlOk y ld.length 1)(hln:(findF n f (mOf o.e) o.x o.y).1.length≤1000000):
  FSpec Tryz.prog w0 59 #[.pointer (some ⟨br,0,none⟩), .slice qo os.length co, .agg (encOm om).toArray, .agg (encMc m).toArray] (rtH br n f y ld++H) (fun v H'=>∃ d:Sl,(v= .tuple #[.slice none 0 0,slV d (stuckF n f os2 o ld).1.length, .int .i64 (stuckF n f os2 o ld).2]∧SlOk d (stuckF n f os2 o ld).1.length 1)∧H'=slH d ((stuckF n f os2 o ld).1.flatMap encI) 3++H):=by
 refine Ap Tryz.func59 U ntmps59 U ?_;have hfewL:=hok.fewL;have hmce:=ho.mce;have hpm:PMok m.pl:=by rw[hmpl];exact hmce.ok
 have hsr:Srt m.names:=show Srt m.pl.names by rw[hmpl];exact hmce.sr
 have hnl:m.names.length≤4611686018427387903:=(show m.pl.names.length≤4611686018427387903 by rw[hmpl];exact Nat.le_trans ho.nm qom);have hox:=ho.x;have hoa:0≤o.amt∧o.amt≤1048576:=⟨ho.a0,ho.a1⟩;obtain⟨l,c,hlc⟩:∃ l c,findF n f (mOf o.e) o.x o.y=(l,c):=⟨_,_,rfl⟩;have hr:=(show Fnd (rtH br n f y ld++H) br (Cl (encRt n f (slV y ld.length)) 100) from A3);have hL:=(show Arr w0 (rtH br n f y ld++H) (slQ y) 1 encI ld from (Av (w0:=w0) (d:=y) (enc:=encI) (sz:=1) (l:=ld) (X:=H) (e:=3) (fun _=>rfl) hy).mono (List.Sublist.cons (br,Cl (encRt n f (slV y ld.length)) 100) (List.Sublist.refl _)));have hll:=hld.len;rw[hod.eq];refine rD tb 2 U (e_ (Lt U cs_) ?_ U);rintro _ _ ⟨n6,rfl,rfl⟩;refine e_ (Lt U cs_) ?_ U;rintro _ _ ⟨n7,rfl,rfl⟩;refine rO tb 7 U (Bg 19 [(0,true),(1,true),(2,true),(3,true),(4,true),(5,true),(6,true),(7,true),(8,true),(9,true),(10,true),(11,true),(12,true),(13,false),(14,true),(15,true),(16,true),(17,true),(18,true)] _ mixd qkr sb0 ?_ A7);refine rP tb 3 U ?_;refine o_y U (Lp U isAgg26 sizeOf26 U (by exact Bj (l:=encRt n f (slV y ld.length)) (o:=0) (k:=3) (by repeat (first|exact hr|refine Au ?_|refine A2 ?_)))) ?_ U Ac;refine rP tb 3 U ?_;refine o_y U (Lp U isAgg29 sizeOf29 U (by exact Bj (l:=encRt n f (slV y ld.length)) (o:=3) (k:=2) (by repeat (first|exact hr|refine Au ?_|refine A2 ?_)))) ?_ U Ac;refine o_y U (Lp U isAgg68 sizeOf68 U qcs) ?_ U Ac;refine rP tb 1 U (o_y U (Lo U isAgg3 qco) ?_ U Ac);refine rP tb 1 U (o_y U (Lo U isAgg3 qco) ?_ U Ac);refine o_e U (Am (.cons (T U) (.cons (T U) (.cons (T U) (.cons (T U) (.cons (T U) .nil))))) call36 (findE_s n f m ⟨hn.mono sbt,hf.mono sbt,hm.mono sbt⟩ ⟨hok,by omega,hpm,hsr,hnl⟩ o.x hox o.y (l:=l) (c:=c) (hf:=by rw[hmpl];exact hlc))) ?_ U Ac;rintro _ _ ⟨dK,⟨rfl,hdK⟩,rfl⟩;refine⟨sbt,(rP tb 5 U (A5 U (rO tb 8 U ?_)))⟩;refine Ae (Aa U) (fun c33=> ?_) (fun c33=> ?_)
 ·have hst:stuckF n f os2 o ld=([],18):=by unfold stuckF;rw[hlc,if_neg c33]
  refine rC tb 9 U (Ai U (.tmp (Aa U) (.tmp (Aa U) (Ll U))) ?_);rw[hst];exact⟨_,⟨.nil,⟨rfl,rfl⟩,rfl⟩,sbt⟩
 ·have hc0:(findF n f (mOf o.e) o.x o.y).2=0:=by rw[hlc];exact Classical.not_not.1 c33
  refine rC tb 8 U ?_;refine y_ (Lo U isAgg23 qco) ?_ U;refine rO tb 1 U (e_ (B7 (by':=8) (k:=n.links.length) (T U) runUnderlying27 sizeOf3 typeInfo3 U zeroValue3 U qom qom) ?_ U);rintro _ _ ⟨n40,rfl,rfl⟩;rw[rep_enc n.links.length];refine kO tb 3 [0,1,6,13] rfl U (rG tb 9 U ?_);refine Ba (X:=Nat) (V:=fun k=>[(43, .int .i64 (k:Nat))]) (C:=[(0,_),(1,_),(6,_),(13,_),(42,_)]) (G:=fun k=>slH (Sl.blk n40 n.links.length []) ((prcZ n ld o.amt n.links.length k).flatMap encI) 3++(slH dK (l.flatMap encU) 3++((n7,Cl (encMc m) 68)::(n6,Cl (encOm (omO o om.m)) 58)::(rtH br n f y ld++H)))) (φ:=fun k=>k≤n.links.length) (μ:=fun k=>n.links.length - k) (x0:=0) ?_ ⟨Aa U,Aa U,Aa U,Aa U,Aa U,trivial⟩ ⟨qat,trivial⟩ sb0 ?_
  ·exact Nat.zero_le _
  rintro k hk;refine rD tb 6 U ?_;refine Ae (Aa U) (fun c44=> ?_) (fun c44=> ?_)
  ·refine rC tb 15 U (y_ (Lo U isAgg3 qco) ?_ U);refine y_ (Ax (qe3 U U U) call115 (fun H' hs=>room_s br n (hn.mono (stn hs)) hcap f ld hld (slQ y) (slC y) ((stn hs).subset (show Fnd _ br (Cl (encRt n f (slV y ld.length)) 100) from (by repeat (first|exact hr|refine Au ?_|refine A2 ?_)))) (hL.mono (stn hs)) k qom o.amt hoa)) ?_ U;refine A6 (Bc (T U)) U Ac ?_;refine rO tb 2 U ?_;refine Ae (Aa U) (fun c51=> ?_) (fun c51=> ?_)
   ·refine rC tb 3 U (y_ (Lq U U runUnderlying27 sizeOf3 qom (by exact rfl)) ?_ U);refine e_ (Bx (d:=(Sl.blk n40 n.links.length [])) (l:=(prcZ n ld o.amt n.links.length k)) (e:=3) (enc:=encI) (sz:=1) (i:=k) (1:Int) (fun _=>rfl) qlc (T U) Ao (.one U) U sizeOf3 (by rw[prcZ_len hk];omega) (show SlOk (Sl.blk n40 n.links.length []) (prcZ n ld o.amt n.links.length k).length 1 from by rw[prcZ_len hk];exact⟨Nat.le_refl _,by simp⟩)) ?_ U;rintro _ _ ⟨rfl,rfl⟩;refine rO tb 4 U (y_ (Aq (T U) Ao qom) ?_ U);refine rO tb 2 U ?_;have he:=prcZ_no (n:=n) (ld:=ld) (a:=o.amt) (N:=n.links.length) (k:=k) qom (decide_eq_false c51);refine An (k+1) ?_ ?_ ⟨qat,trivial⟩ ⟨Aa U,Aa U,Aa U,Aa U,Aa U,trivial⟩ ?_
    ·show k+1≤_;omega
    ·omega
    ·show (slH (Sl.blk n40 n.links.length []) ((prcZ n ld o.amt n.links.length (k+1)).flatMap encI) 3++_).Sublist _;(rw[← he];exact sbt)
   ·refine rC tb 4 U (y_ (Aq (T U) Ao qom) ?_ U);refine rO tb 2 U ?_;have he:=prcZ_yes (n:=n) (ld:=ld) (a:=o.amt) (N:=n.links.length) (k:=k) qom (decide_eq_true (Classical.not_not.1 c51));refine An (k+1) ?_ ?_ ⟨qat,trivial⟩ ⟨Aa U,Aa U,Aa U,Aa U,Aa U,trivial⟩ ?_
    ·show k+1≤_;omega
    ·omega
    ·show (slH (Sl.blk n40 n.links.length []) ((prcZ n ld o.amt n.links.length (k+1)).flatMap encI) 3++_).Sublist _;(rw[← he];exact sbt)
  ·obtain rfl:k=n.links.length:=by omega
   simp only[prcZ_end];have hpl:=C7 n ld o.amt n.links.length;refine rC tb 2 U (Af (rX tb 4 U (Bg 11 [(0,true),(1,true),(2,true),(3,true),(4,true),(5,true),(6,true),(7,true),(8,true),(9,true),(10,true)] _ mixd qkr sb0 ?_ A7)));refine rP tb 3 U ?_;refine o_y U (Lp U isAgg26 sizeOf26 U (by exact Bj (l:=encRt n f (slV y ld.length)) (o:=0) (k:=3) (by repeat (first|exact hr|refine Au ?_|refine A2 ?_)))) ?_ U Ac;refine rP tb 3 U ?_;refine o_y U (Lp U isAgg29 sizeOf29 U (by exact Bj (l:=encRt n f (slV y ld.length)) (o:=3) (k:=2) (by repeat (first|exact hr|refine Au ?_|refine A2 ?_)))) ?_ U Ac;refine rP tb 2 U (o_y U (Ax (qe4 U U U U) call29 (fun H' hs=>(by have h:=prefuted_s (w0:=w0) (H:=H') n (hn.mono (stn hs)) hok hcap f (hf.mono (stn hs)) hfl os os2 qo co (hO.mono (stn hs)) hoo (prcF n ld o.amt n.links.length) (slQ (Sl.blk n40 n.links.length [])) (slC (Sl.blk n40 n.links.length [])) ((Av (w0:=w0) (d:=(Sl.blk n40 n.links.length [])) (enc:=encI) (sz:=1) (e:=3) (l:=(prcF n ld o.amt n.links.length)) (X:=[]) (fun _=>rfl) (by rw[C7];exact⟨Nat.le_refl _,by simp⟩)).mono (by rw[List.append_nil];exact(List.sublist_append_left _ _).trans hs)) (by rw[C7];omega);rw[C7] at h;exact h))) ?_ U Ac);refine A5 U (rO tb 2 U ?_)
   first|refine Ae (Aa U) (fun c66=> ?_) (fun c66=> ?_)|refine Bm (Aa U) (fun c66=> ?_) (fun c66=> ?_)
   ·have hst:stuckF n f os2 o ld=((prcF n ld o.amt n.links.length),19):=by unfold stuckF;rw[if_pos hc0,if_pos c66]
    refine rC tb 10 U (Ai U (.tmp (Aa U) (.tmp (Aa U) (Ll U))) ?_);rw[hst];exact⟨_,⟨(Sl.blk n40 n.links.length []),⟨by rw[hpl];rfl,by rw[hpl];exact⟨Nat.le_refl _,by simp⟩⟩,rfl⟩,sbt⟩
   ·have hst:stuckF n f os2 o ld=((prcF n ld o.amt n.links.length),27):=by unfold stuckF;rw[if_pos hc0,if_neg (by rw[c66];decide)]
    refine rC tb 11 U (Ai U (.tmp (Aa U) (.tmp (Aa U) (Ll U))) ?_);rw[hst];exact⟨_,⟨(Sl.blk n40 n.links.length []),⟨by rw[hpl];rfl,by rw[hpl];exact⟨Nat.le_refl _,by simp⟩⟩,rfl⟩,sbt⟩
abbrev encSk (s:ByteArray):Value:= .string s
abbrev encPt (b:Nat):Value:= .pointer (some ⟨b,0,none⟩)
theorem ba_beq (a b:ByteArray):(a==b)=decide (b=a):=by
 obtain⟨a⟩:=a;obtain⟨b⟩:=b;have e:((⟨a⟩:ByteArray)==⟨b⟩)=(a==b):=rfl;rw[e]
 by_cases h:b=a
 ·subst h;simp
 ·rw[decide_eq_false (fun e=>h (ByteArray.mk.inj e))];simp;exact fun e=>h e.symm
theorem keyStr {V:Type}:KeyOk (V:=V) Tryz.prog 9 encSk:=keyOk_now runUnderlying9 (fun b k w=>by cases b<;>kernel_rfl) (fun k k'=>by
  simp only[Instr.sameNow];rw[ba_beq]) (fun k=>by
  have:=ba_beq k k;simp[Instr.sameBits,this])
structure Ent where
 b:Nat
 s:Lm
instance:Inhabited Ent:=⟨⟨0,default⟩⟩
abbrev entM (es:List Ent):List (ByteArray × Nat):=es.map fun e=>(keyR e.s.l,e.b)
def entH (es:List Ent):List (Nat × Obj):=es.reverse.map fun e=>(e.b,Cl (encLm e.s) 77)
theorem entH_app (es:List Ent)(e:Ent):entH (es++[e])=(e.b,Cl (encLm e.s) 77)::entH es:=by
 unfold entH;rw[List.reverse_append];rfl
theorem entH_fnd {es:List Ent}{i:Nat}(h:i<es.length):Fnd (entH es) (gd es i).b (Cl (encLm (gd es i).s) 77):=by
 unfold entH Fnd;exact List.mem_map.2 ⟨gd es i,by rw[List.mem_reverse];exact Ag h,rfl⟩
theorem upd_map {β:Type}{g:β→Nat × Obj}{X:List (Nat × Obj)}:∀ {l:List β} {k:Nat} {y x:β} {b:Nat} {o o':Obj},l[k]? =some x→g x=(b,o)→g y=(b,o')→Upd (l.map g++X) b o o' ((l.set k y).map g++X)
 |[],k,y,x,b,o,o',h,_,_=>by simp at h
 |a::l,0,y,x,b,o,o',h,h1,h2=>by
  simp at h;subst h;rw[List.map_cons,h1,List.set_cons_zero,List.map_cons,h2];exact .h
 |a::l,k+1,y,x,b,o,o',h,h1,h2=>by
  rw[List.map_cons,List.set_cons_succ,List.map_cons];exact .t (upd_map (by simpa using h) h1 h2)
theorem entH_upd {es:List Ent}{i:Nat}(h:i<es.length)(s:Lm)(X:List (Nat × Obj)):Upd (entH es++X) (gd es i).b (Cl (encLm (gd es i).s) 77) (Cl (encLm s) 77) (entH (es.set i ⟨(gd es i).b,s⟩)++X):=by
 have e:(es.set i ⟨(gd es i).b,s⟩).reverse=es.reverse.set (es.length - 1 - i) ⟨(gd es i).b,s⟩:=by
  apply List.ext_getElem?;intro j
  by_cases hj:j<es.length
  ·rw[List.getElem?_reverse (by simpa using hj),List.length_set,List.getElem?_set,List.getElem?_set,List.getElem?_reverse hj]
   by_cases e:i=es.length - 1 - j
   ·rw[if_pos e,if_pos h,if_pos (show es.length - 1 - i=j by omega),if_pos (by simp;omega)]
   ·rw[if_neg e,if_neg qom]
  ·rw[List.getElem?_eq_none (by simp;omega),List.getElem?_eq_none (by simp;omega)]
 unfold entH;rw[e];refine upd_map (x:=gd es i) ?_ U U;rw[List.getElem?_reverse qom,show es.length - 1 - (es.length - 1 - i)=i by omega];exact B3 h
theorem look_memG {K V:Type}[DecidableEq K] {l:List (K × V)}(h:(l.map (·.1)).Nodup){k:K}{v:V}(hm:(k,v)∈l):look l k=some v:=by
 induction l with
 |nil=>cases hm
 |cons e l ih=>
  rw[List.map_cons,List.nodup_cons] at h;rw[B1];rcases List.mem_cons.1 hm with h1|h1
  ·subst h1;simp
  ·rw[if_neg,ih h.2 h1];intro e';exact h.1 (e' ▸ List.mem_map.2 ⟨_,h1,rfl⟩)
theorem look_noneG {K V:Type}[DecidableEq K] {l:List (K × V)}{k:K}(h:∀ e∈l,¬ e.1=k):look l k=none:=by
 induction l with
 |nil=>rfl
 |cons e l ih=>
  rw[B1,if_neg (h e (by simp)),ih fun x hx=>h x (by simp[hx])]
theorem upsert_noneG {K V:Type}[DecidableEq K] {l:List (K × V)}{k:K}(v:V)(h:look l k=none):upsert l k v=l++[(k,v)]:=by
 unfold look at h;unfold upsert;cases hf:findI k l 0 with
 |none=>rfl
 |some p=>rw[hf] at h;cases h
structure EsR (n:Nn) (w0:World) (M:List (Nat × Obj)) (k:Nat) (es:List Ent) (own:List Sha):Prop where
 len:own.length=es.length
 l:∀ i,i<es.length→(gd es i).s.l=toInts (gd own i).l
 p:∀ i,i<es.length→(gd es i).s.p=(gd own i).p
 lt:∀ i,i<es.length→∀ x∈(gd own i).l,x<n.links.length
 nd:(own.map Sha.l).Nodup
 m:∀ i,i<es.length→LmM w0 M (gd es i).s
 pk:∀ i,i<es.length→(gd own i).p≤k
 ek:es.length≤k
theorem EsR.mono {n:Nn}{w0:World}{M M':List (Nat × Obj)}{k:Nat}{es:List Ent}{own:List Sha}(h:EsR n w0 M k es own)(hs:M.Sublist M'):EsR n w0 M' k es own:=
 ⟨h.len,h.l,h.p,h.lt,h.nd,fun i hi=>(h.m i hi).mono hs,h.pk,h.ek⟩
theorem nd_at {own:List Sha}(h:(own.map Sha.l).Nodup){i j:Nat}(hi:i<own.length)(hj:j<own.length)(e:(gd own i).l=(gd own j).l):i=j:=by
 have h1:(own.map Sha.l)[i]'(by simpa using hi)=(own.map Sha.l)[j]'(by simpa using hj):=by
  rw[List.getElem_map,List.getElem_map,← Ar hi,← Ar hj];exact e
 exact(List.getElem_inj h).1 h1
theorem es_key {n:Nn}(hN:n.links.length≤128){w0:World}{M:List (Nat × Obj)}{k:Nat}{es:List Ent}{own:List Sha}(h:EsR n w0 M k es own){ls:List Nat}(hls:∀ x∈ls,x<n.links.length){i:Nat}(hi:i<es.length):keyR (gd es i).s.l=keyR (toInts ls)↔(gd own i).l=ls:=by
 rw[h.l i hi];exact⟨fun e=>key_inj (fun x hx=>by have:=h.lt i hi x hx;omega) (fun x hx=>by have:=hls x hx;omega) e,fun e=>by rw[e]⟩
theorem es_nd {n:Nn}(hN:n.links.length≤128){w0:World}{M:List (Nat × Obj)}{k:Nat}{es:List Ent}{own:List Sha}(h:EsR n w0 M k es own):((entM es).map (·.1)).Nodup:=by
 rw[List.map_map,List.nodup_iff_pairwise_ne,List.pairwise_iff_getElem];intro i j hi hj hij;have hi':i<es.length:=by simpa using hi
 have hj':j<es.length:=by simpa using hj
 simp only[List.getElem_map,Function.comp];rw[← Ar hi',← Ar hj',h.l j hj'];intro e;have e2:=(es_key hN h (h.lt j hj') hi').1 e;have hl:=h.len;have:=nd_at h.nd qom qom e2;omega
theorem es_find {n:Nn}(hN:n.links.length≤128){w0:World}{M:List (Nat × Obj)}{k:Nat}{es:List Ent}{own:List Sha}(h:EsR n w0 M k es own){ls:List Nat}(hls:∀ x∈ls,x<n.links.length):(∃ i,i<es.length∧(gd own i).l=ls∧look (entM es) (keyR (toInts ls))=some (gd es i).b)∨((∀ i,i<es.length→¬ (gd own i).l=ls)∧look (entM es) (keyR (toInts ls))=none):=by
 by_cases hx:∃ i,i<es.length∧(gd own i).l=ls
 ·obtain⟨i,hi,e⟩:=hx;refine .inl ⟨i,hi,e,look_memG (es_nd hN h) ?_⟩;rw[← (es_key hN h hls hi).2 e];exact List.mem_map.2 ⟨_,Ag hi,rfl⟩
 ·have hno:∀ i,i<es.length→¬ (gd own i).l=ls:=fun i hi e=>hx ⟨i,hi,e⟩
  refine .inr ⟨hno,look_noneG fun e he hk=> ?_⟩;obtain⟨u,hu,rfl⟩:=List.mem_map.1 he;obtain⟨i,hi,rfl⟩:=List.getElem_of_mem hu;rw[← Ar hi] at hk;exact hno i hi ((es_key hN h hls hi).1 hk)
theorem putU_at:∀ {own:List Sha} {i:Nat} {ls:List Nat},(own.map Sha.l).Nodup→i<own.length→(gd own i).l=ls→putU ls own=own.set i ⟨ls,(gd own i).p+1⟩
 |[],i,ls,_,h,_=>by cases h
 |s::own,0,ls,_,_,e=>by
  have e:s.l=ls:=e;unfold putU;rw[if_pos e];rfl
 |s::own,i+1,ls,hn,h,e=>by
  rw[List.map_cons,List.nodup_cons] at hn;have hi:i<own.length:=by simpa using h
  have e:(gd own i).l=ls:=e;have hne: ¬ s.l=ls:=fun e2=>hn.1 (by rw[e2,← e];exact List.mem_map.2 ⟨_,Ag hi,rfl⟩)
  unfold putU;rw[if_neg hne,putU_at hn.2 hi e];rfl
theorem putU_none:∀ {own:List Sha} {ls:List Nat},(∀ i,i<own.length→¬ (gd own i).l=ls)→putU ls own=own++[⟨ls,1⟩]
 |[],ls,_=>rfl
 |s::own,ls,h=>by
  have h0: ¬ s.l=ls:=h 0 (by simp);unfold putU;rw[if_neg h0,putU_none fun i hi=>h (i+1) (by simpa using hi)];rfl
theorem EsR.more {n:Nn}{w0:World}{M:List (Nat × Obj)}{k:Nat}{es:List Ent}{own:List Sha}(h:EsR n w0 M k es own){i:Nat}(hi:i<es.length){ls:List Nat}(e:(gd own i).l=ls):EsR n w0 M (k+1) (es.set i ⟨(gd es i).b,⟨(gd es i).s.q,(gd es i).s.c,(gd es i).s.l,(gd es i).s.p+1⟩⟩) (putU ls own):=by
 have hl:=h.len;rw[putU_at h.nd qom e];have g1:∀ j,j<es.length→gd (es.set i ⟨(gd es i).b,⟨(gd es i).s.q,(gd es i).s.c,(gd es i).s.l,(gd es i).s.p+1⟩⟩) j=if j=i then ⟨(gd es i).b,⟨(gd es i).s.q,(gd es i).s.c,(gd es i).s.l,(gd es i).s.p+1⟩⟩ else gd es j:=fun j hj=>by
  by_cases e1:j=i
  ·subst e1;rw[if_pos rfl,Ar (by simpa using hj),List.getElem_set_self]
  ·rw[if_neg e1,F5 (fun h=>e1 h.symm)]
 have g2:∀ j,j<es.length→gd (own.set i ⟨ls,(gd own i).p+1⟩) j=if j=i then ⟨ls,(gd own i).p+1⟩ else gd own j:=fun j hj=>by
  by_cases e1:j=i
  ·subst e1;rw[if_pos rfl,Ar (by rw[List.length_set];omega),List.getElem_set_self]
  ·rw[if_neg e1,F5 (fun h=>e1 h.symm)]
 refine⟨by rw[List.length_set,List.length_set,hl],fun j hj=> ?_,fun j hj=> ?_,fun j hj=> ?_,?_,fun j hj=> ?_,fun j hj=> ?_,by rw[List.length_set];have:=h.ek;omega⟩
 ·rw[List.length_set] at hj;rw[g1 j hj,g2 j hj]
  split
  ·rw[← e];exact h.l i hi
  ·exact h.l j hj
 ·rw[List.length_set] at hj;rw[g1 j hj,g2 j hj]
  split
  ·show (gd es i).s.p+1=(((gd own i).p+1:Nat):Int);rw[h.p i hi];omega
  ·exact h.p j hj
 ·rw[List.length_set] at hj;rw[g2 j hj]
  split
  ·rw[← e];exact h.lt i hi
  ·exact h.lt j hj
 ·have:(own.set i ⟨ls,(gd own i).p+1⟩).map Sha.l=own.map Sha.l:=by
   rw[List.map_set];apply List.ext_getElem?;intro j;rw[List.getElem?_set]
   split
   ·rename_i e1;subst e1;rw[List.length_map,if_pos qom,List.getElem?_map,B3 qom];show some ls=some (gd own i).l;rw[e]
   ·rfl
  rw[this];exact h.nd
 ·rw[List.length_set] at hj;rw[g1 j hj]
  split
  ·exact⟨(h.m i hi).a,(h.m i hi).n⟩
  ·exact h.m j hj
 ·rw[List.length_set] at hj;rw[g2 j hj];have h1:=h.pk i hi;have h2:=h.pk j hj
  split
  ·show (gd own i).p+1≤_;omega
  ·omega
theorem EsR.new {n:Nn}{w0:World}{M:List (Nat × Obj)}{k:Nat}{es:List Ent}{own:List Sha}(h:EsR n w0 M k es own){ls:List Nat}(hls:∀ x∈ls,x<n.links.length)(hno:∀ i,i<es.length→¬ (gd own i).l=ls){b:Nat}{q:Option Addr}{c:Nat}(hA:LmM w0 M ⟨q,c,toInts ls,1⟩):EsR n w0 M (k+1) (es++[⟨b,⟨q,c,toInts ls,1⟩⟩]) (putU ls own):=by
 have hl:=h.len;rw[putU_none fun i hi=>hno i qom];have g1:∀ j,j<es.length+1→gd (es++[⟨b,⟨q,c,toInts ls,1⟩⟩]) j=if j<es.length then gd es j else ⟨b,⟨q,c,toInts ls,1⟩⟩:=fun j hj=>by
  split
  ·rename_i h1;unfold gd;simp[List.getD,List.getElem?_append_left h1]
  ·rename_i h1;obtain rfl:j=es.length:=by omega
   unfold gd;simp[List.getD]
 have g2:∀ j,j<es.length+1→gd (own++[(⟨ls,1⟩:Sha)]) j=if j<es.length then gd own j else ⟨ls,1⟩:=fun j hj=>by
  split
  ·rename_i h1;unfold gd;simp[List.getD,List.getElem?_append_left (show j<own.length by omega)]
  ·rename_i h1;obtain rfl:j=own.length:=by omega
   unfold gd;simp[List.getD]
 have hlen:(es++[(⟨b,⟨q,c,toInts ls,1⟩⟩:Ent)]).length=es.length+1:=by simp
 refine⟨by simp[hl],fun j hj=> ?_,fun j hj=> ?_,fun j hj=> ?_,?_,fun j hj=> ?_,fun j hj=> ?_,by have:=h.ek;omega⟩
 ·rw[hlen] at hj;rw[g1 j hj,g2 j hj]
  split
  ·exact h.l j (by assumption)
  ·rfl
 ·rw[hlen] at hj;rw[g1 j hj,g2 j hj]
  split
  ·exact h.p j (by assumption)
  ·rfl
 ·rw[hlen] at hj;rw[g2 j hj]
  split
  ·exact h.lt j (by assumption)
  ·exact hls
 ·rw[List.map_append,List.map_cons,List.map_nil];refine List.nodup_append.2 ⟨h.nd,by simp,fun a ha c hc=> ?_⟩;simp at hc;subst hc;rintro rfl;obtain⟨s,hs,e⟩:=List.mem_map.1 ha;obtain⟨i,hi,rfl⟩:=List.getElem_of_mem hs;rw[← Ar hi] at e;exact hno i qom e
 ·rw[hlen] at hj;rw[g1 j hj]
  split
  ·exact h.m j (by assumption)
  ·exact hA
 ·rw[hlen] at hj;rw[g2 j hj]
  split
  ·have:=h.pk j (by assumption);omega
  ·show 1≤k+1;omega
theorem fnd_l {A B:List (Nat × Obj)}{n:Nat}{o:Obj}(h:Fnd A n o):Fnd (A++B) n o:=List.mem_append_left B h
theorem yl_lkE1 {w0:World}{H:List (Nat × Obj)}{L:Fm}{x y:Operand}{ty:TypeId}{r:Nat}{l:List (ByteArray × Nat)}{k:ByteArray}{b:Nat}(hl:look l k=some b)(hx:Ev L x (.map (some r)))(hy:Ev L y (.string k))(hf:Fnd H r (mapO encSk encPt l)):Yl Tryz.prog w0 (.lookup 101 x y false) ty L H (.pointer (some ⟨b,0,none⟩)):=by
 have h:=Es (P:=Tryz.prog) (w0:=w0) (ty:=ty) (keyStr (V:=Nat)) hx hy U runUnderlying101 zeroValue105 hf;rw[hl] at h;exact h
theorem yl_lkE2 {w0:World}{H:List (Nat × Obj)}{L:Fm}{x y:Operand}{ty:TypeId}{r:Nat}{l:List (ByteArray × Nat)}{k:ByteArray}(hl:look l k=none)(hx:Ev L x (.map (some r)))(hy:Ev L y (.string k))(hf:Fnd H r (mapO encSk encPt l)):Yl Tryz.prog w0 (.lookup 101 x y false) ty L H (.pointer none):=by
 have h:=Es (P:=Tryz.prog) (w0:=w0) (ty:=ty) (keyStr (V:=Nat)) hx hy U runUnderlying101 zeroValue105 hf;rw[hl] at h;exact h
theorem entM_set {es:List Ent}{i:Nat}(hi:i<es.length)(q:Option Addr)(c:Nat)(p:Int):entM (es.set i ⟨(gd es i).b,⟨q,c,(gd es i).s.l,p⟩⟩)=entM es:=by
 apply List.ext_getElem?;intro j;rw[List.getElem?_map,List.getElem?_map,List.getElem?_set]
 split
 ·rename_i e;subst e
  first|(rw[if_pos hi,B3 hi];rfl)|(rw[B3 hi];rfl)
 ·rfl
theorem takeF_ldr {n:Nn}(hcap:∀ x∈n.links,0≤x.cap∧x.cap≤1048576){a:Int}(ha:0≤a):∀ {ls:List Nat} {ld ld2:List Int},LdR n ld→(∀ x∈ls,x<n.links.length)→takeF n a ls ld=some ld2→LdR n ld2
 |[],ld,ld2,h,_,e=>by obtain rfl:=Option.some.inj e;exact h
 |x::ls,ld,ld2,h,hl,e=>by
  rw[takeF_cons] at e
  split at e
  ·rename_i hc;exact takeF_ldr hcap ha (cap_le hcap h (hl x (by simp)) ha hc) (fun y hy=>hl y (by simp[hy])) e
  ·cases e
theorem ks_own {n:Nn}{w0:World}{M:List (Nat × Obj)}{k:Nat}{es:List Ent}{own srt:List Sha}(h:EsR n w0 M k es own)(hs:SrtS srt)(hp:own.Perm srt){ks:List Lm}(hk:ks.Perm (es.map Ent.s))(hw:ks.Pairwise fun a b=> ¬ cmpL b.l a.l<0):ks.map Lm.lan=srt.map Sha.lan:=by
 let g:Lm→Sha:=fun s=>⟨s.l.map Int.toNat,s.p.toNat⟩
 have hg:∀ i,i<es.length→g (gd es i).s=gd own i∧(gd es i).s.l=toInts (g (gd es i).s).l∧(gd es i).s.lan=(g (gd es i).s).lan:=fun i hi=>by
  have h1:=h.l i hi;have h2:=h.p i hi;have e:g (gd es i).s=gd own i:=by
   show (⟨(gd es i).s.l.map Int.toNat,(gd es i).s.p.toNat⟩:Sha)=gd own i;rw[h1,h2];have:(toInts (gd own i).l).map Int.toNat=(gd own i).l:=by
    unfold toInts;rw[List.map_map];exact(List.map_congr_left fun x _=>Int.toNat_natCast x).trans (List.map_id _)
   rw[this,Int.toNat_natCast]
  refine⟨e,by rw[e,h1],?_⟩;rw[e];show (⟨(gd es i).s.l,(gd es i).s.p⟩:Lan)=⟨toInts (gd own i).l,((gd own i).p:Int)⟩;rw[h1,h2]
 have hmem:∀ a∈ks,a.l=toInts (g a).l∧a.lan=(g a).lan:=fun a ha=>by
  obtain⟨e,he,rfl⟩:=List.mem_map.1 (hk.subset ha);obtain⟨i,hi,rfl⟩:=List.getElem_of_mem he;have:=hg i hi;rw[Ar hi] at this;exact this.2
 have hown:(es.map Ent.s).map g=own:=by
  apply List.ext_getElem?;intro i
  by_cases hi:i<es.length
  ·rw[List.getElem?_map,List.getElem?_map,B3 hi,B3 (l:=own) (by rw[h.len];exact hi)];show some (g (gd es i).s)=_;rw[(hg i hi).1]
  ·rw[List.getElem?_eq_none (by simp;omega),List.getElem?_eq_none (by rw[h.len];omega)]
 have hperm:(ks.map g).Perm own:=by
  have:=hk.map g;rw[hown] at this;exact this
 have hnd:((ks.map g).map Sha.l).Nodup:=(hperm.map _).nodup_iff.2 h.nd;have hsrt:SrtS (ks.map g):=by
  unfold List.Nodup at hnd;rw[List.pairwise_map,List.pairwise_map] at hnd;show (ks.map g).Pairwise _;rw[List.pairwise_map];refine(hw.and hnd).imp_of_mem fun {a b} ha hb hab=> ?_
  have e1:=(hmem a ha).1;have e2:=(hmem b hb).1;rw[lxB_cmp,← e1,← e2];rcases cmpL_tri a.l b.l with h1|h1|h1
  ·exact h1
  ·refine absurd ?_ hab.2;show (g a).l=(g b).l;show a.l.map Int.toNat=b.l.map Int.toNat
   rw[h1]
  ·exact absurd h1 hab.1
 have:=srt_eq hsrt hs (hperm.trans hp);rw[← this,List.map_map];exact List.map_congr_left fun a ha=>(hmem a ha).2
theorem seen_perm {es:List Ent}{seen:List Nat}(hn:seen.Nodup)(hlt:∀ i∈seen,i<es.length)(hall:∀ i,i<es.length→i∈seen):(seen.map fun i=>(gd es i).s).Perm (es.map Ent.s):=by
 have h1:seen.Perm (List.range es.length):=(List.perm_ext_iff_of_nodup hn List.nodup_range).2 fun i=>⟨fun h=>List.mem_range.2 (hlt i h),fun h=>hall i (List.mem_range.1 h)⟩
 have h2:=h1.map fun i=>(gd es i).s
 have e:(List.range es.length).map (fun i=>(gd es i).s)=es.map Ent.s:=by
  apply List.ext_getElem?;intro i
  by_cases hi:i<es.length
  ·rw[List.getElem?_map,List.getElem?_map,List.getElem?_range hi,B3 hi];rfl
  ·rw[List.getElem?_eq_none (by simp;omega),List.getElem?_eq_none (by simp;omega)]
 rw[e] at h2;exact h2
theorem Gq {n:Nn}{f:Flr}{o:Odr}{j:Nat}{ld ld2:List Int}{own:List Sha}{l:List Nat}(h:partF n f o ld=some (l,ld2)):roundsF n f o (j+1) ld own=roundsF n f o j ld2 (putS l own):=by
 rw[roundsF,h]
theorem Gb {n:Nn}{f:Flr}{o:Odr}{j:Nat}{ld:List Int}{own:List Sha}(h:partF n f o ld=none):roundsF n f o (j+1) ld own=(false,ld,own):=by
 rw[roundsF,h]
theorem goR_yes {n:Nn}{f:Flr}{o:Odr}{os:List Odr}{ld ld2:List Int}{out:List (List Sha)}{own:List Sha}(h:roundsF n f o 16 ld []=(true,ld2,own)):goR n f (o::os) ld out=goR n f os ld2 (out++[own]):=by
 rw[goR,h]
theorem Kl {n:Nn}{f:Flr}{o:Odr}{os:List Odr}{ld ld2:List Int}{out:List (List Sha)}{own:List Sha}(h:roundsF n f o 16 ld []=(false,ld2,own)):goR n f (o::os) ld out=(out,some (ld2,o)):=by
 rw[goR,h]
def RteV (w0:World) (K:List (Nat × Obj)) (n:Nn) (f:Flr) (os:List Odr) (v:Value):Prop:=
 (∃ (sh:List (List Sha)) (q:Option Addr) (c:Nat) (a:List Lr),(routeF n f os=(sh,none)∧v= .tuple #[.slice q a.length c, .slice none 0 0, .int .i64 0])∧ShM w0 K q a∧shOf a=sh.map (List.map Sha.lan))∨
 (∃ (sh:List (List Sha)) (ld:List Int) (o:Odr) (q:Option Addr) (c:Nat),(routeF n f os=(sh,some (ld,o))∧v= .tuple #[.slice none 0 0, .slice q (stuckF n f os o ld).1.length c, .int .i64 (stuckF n f os o ld).2])∧Arr w0 K q 1 encI (stuckF n f os o ld).1∧(stuckF n f os o ld).1.length≤1000)
theorem stuck_len {n:Nn}(hok:NnOk n){f:Flr}{os:List Odr}{o:Odr}{ld:List Int}:(stuckF n f os o ld).1.length≤1000:=by
 have:=hok.fewL;have h:=C7 n ld o.amt n.links.length;unfold stuckF
 split
 ·split<;>(simp only[];omega)
 ·simp
theorem ldr_zero (n:Nn):LdR n (List.replicate n.links.length 0):=⟨by simp,fun k hk=>by rw[J3 hk];decide⟩
def rtN (br:Nat) (n:Nn) (f:Flr) (b:Nat) (ld:List Int):List (Nat × Obj):=(br,Cl (encRt n f (.slice (some ⟨b,0,none⟩) n.links.length n.links.length)) 100)::slH (Sl.blk b n.links.length []) (ld.flatMap encI) 3
theorem rtN_eq {br:Nat}{n:Nn}{f:Flr}{b:Nat}{ld:List Int}(h:LdR n ld):rtN br n f b ld=rtH br n f (Sl.blk b ld.length []) ld:=by
 unfold rtN rtH;rw[h.len];rfl
theorem perm_rt (A E Mb R Z:List (Nat × Obj))(e1 e2 e3 e4:Nat × Obj):(A++(e1::(E++(e2::e3::(Mb++(e4::(R++Z))))))).Perm (e1::(E++(e2::e3::(Mb++(e4::(R++(A++Z))))))):=by
 have h:=perm_mid A (e1::(E++(e2::e3::(Mb++(e4::R))))) Z
 simpa only[List.append_assoc,List.cons_append,List.nil_append] using h
theorem part2_s {w0:World}{H:List (Nat × Obj)}(br:Nat)(n:Nn)(hn:NetR w0 H n)(hok:NnOk n)(hcap:∀ x∈n.links,0≤x.cap∧x.cap≤1048576)(f:Flr)(hf:Arr w0 H f.q 1 encI f.links)(hfl:f.links.length≤1000000)(o:Odr)(ho:OdrOk n o)(om:Om)(hod:OdR om o)(ld:List Int)(hld:LdR n ld)(m:Mc)(hm:McOk w0 H m)(hmpl:m.pl=mOf o.e)(b:Nat):
  FSpec Tryz.prog w0 58 #[.pointer (some ⟨br,0,none⟩), .agg (encOm om).toArray, .agg (encMc m).toArray] (rtN br n f b ld++H) (fun v H'=>∃ M2:List (Nat × Obj),((∃ (l:List Nat) (ld2:List Int) (y:Sl),(partF n f o ld=some (l,ld2)∧v= .tuple #[slV y l.length, .bool true])∧(SlOk y l.length 1∧l.length≤2400∧(∀ x∈l,x<n.links.length)∧LdR n ld2)∧M2=rtN br n f b ld2++slH y (l.flatMap encU) 3)∨(∃ (l:List Nat) (y y2:Sl),(partF n f o ld=none∧v= .tuple #[slV y l.length, .bool false])∧SlOk y2 ld.length 1∧M2=rtH br n f y2 ld++slH y (l.flatMap encU) 3))∧H'=M2++H):=by
 obtain⟨l,c,hlc⟩:∃ l c,findF n (fullF n f ld o.amt) (mOf o.e) o.x o.y=(l,c):=⟨_,_,rfl⟩;have hfew:l.length≤2400:=by
  have:=I9 hok ho.mce.ok (f:=fullF n f ld o.amt) (to:=o.y) ho.x;rw[hlc] at this;exact this
 rw[rtN_eq hld];refine(part_s br n hn hok hcap f hf hfl o ho om hod ld hld m hm hmpl b l c hlc qom).mono ?_;rintro v H' ⟨⟨y,y2⟩,⟨rfl,hy,hy2,hb⟩,rfl⟩;refine⟨_,?_,rfl⟩;cases hp:partF n f o ld with
 |none=>
  rw[hp] at hb;exact .inr ⟨l,y,y2,⟨rfl,rfl⟩,hy2,rfl⟩
 |some r=>
  obtain⟨l2,ld2⟩:=r;have hc:c=0:=Classical.byContradiction fun hc=>by rw[J7 hlc hc] at hp;cases hp
  subst hc;rw[hp] at hb;have hb:=hb U;simp only at hb;subst hb;rw[Jh hlc] at hp;obtain⟨ld3,h1,h2⟩:=Option.map_eq_some_iff.1 hp;obtain⟨rfl,rfl⟩:=Prod.mk.inj h2;have hlt:=(find_lt hok ho hlc).2;have hl2:=takeF_ldr hcap ho.a0 hld hlt h1;refine .inl ⟨l,ld3,y,⟨rfl,rfl⟩,⟨hy,hfew,hlt,hl2⟩,?_⟩;rw[rtN_eq hl2,hl2.len,← hld.len];rfl
theorem zbd100_0_1_2 (a0:Option Addr)(a0n a0c:Nat)(a1:Option Addr)(a1n a1c:Nat)(a2:Option Addr)(a2n a2c:Nat)(a3:Option Addr)(a3n a3c:Nat)(a4:Int)(a5:Option Addr)(a5n a5c:Nat)(w:World):(Instr.build 100 #[(0, .agg #[.slice a0 a0n a0c, .slice a1 a1n a1c, .slice a2 a2n a2c]),(1, .agg #[.slice a3 a3n a3c, .int .i64 a4]),(2, .slice a5 a5n a5c)]).run Tryz.prog w= .ok (.agg #[.slice a0 a0n a0c, .slice a1 a1n a1c, .slice a2 a2n a2c, .slice a3 a3n a3c, .int .i64 a4, .slice a5 a5n a5c]) w:=by kernel_rfl
theorem zbd77_0 (a0:Option Addr)(a0n a0c:Nat)(w:World):(Instr.build 77 #[(0, .slice a0 a0n a0c)]).run Tryz.prog w= .ok (.agg #[.slice a0 a0n a0c, .int .i64 0]) w:=by kernel_rfl
theorem H4 (a0:Option Addr)(a0n a0c:Nat)(w:World):(Instr.buildSlice 31 1 #[(0, .slice a0 a0n a0c)]).run Tryz.prog w= .ok (.slice (some ⟨w.heap.size,0,none⟩) 1 1) (w.alloc (Cl [.slice a0 a0n a0c] 79)):=by kernel_rfl
theorem Cx (a0:Option Addr)(a0n a0c:Nat)(a1:Int)(w:World):(Instr.buildSlice 79 1 #[(0, .agg #[.slice a0 a0n a0c, .int .i64 a1])]).run Tryz.prog w= .ok (.slice (some ⟨w.heap.size,0,none⟩) 1 1) (w.alloc (Cl [.slice a0 a0n a0c, .int .i64 a1] 77)):=by kernel_rfl
theorem sbx {α:Type}{l l2:List α}(h:l.Sublist l2:=by(repeat (first|exact List.Sublist.refl _|exact List.sublist_append_left _ _|refine List.Sublist.cons_cons _ ?_|refine List.Sublist.cons _ ?_|refine List.Sublist.append (List.Sublist.refl _) ?_|refine List.Sublist.trans ?_ (List.sublist_append_right _ _)));done):l.Sublist l2:=h
theorem entH_new {es:List Ent}{b:Nat}{q:Option Addr}{c:Nat}{l:List Nat}:entH (es++[⟨b,⟨q,c,toInts l,1⟩⟩])=(b,Cl [.slice q l.length c, .int .i64 1] 77)::entH es:=by
 rw[entH_app];simp[toInts]
theorem Fb {w0:World}{H:List (Nat × Obj)}(n:Nn)(hn:NetR w0 H n)(hok:NnOk n)(hcap:∀ x∈n.links,0≤x.cap∧x.cap≤1048576)(f:Flr)(hf:Arr w0 H f.q 1 encI f.links)(hfl:f.links.length≤1000000)(os:List Om)(os2:List Odr)(qo:Option Addr)(co:Nat)(hO:OsM w0 H qo os)(hoo:OsOk n os os2):
  FSpec Tryz.prog w0 27 #[.agg (encNn n).toArray, .agg (encFl f).toArray, .slice qo os.length co] H (fun v H'=>∃ M:List (Nat × Obj),RteV w0 (M++H) n f os2 v∧H'=M++H):=by
 refine Ap Tryz.func27 U ntmps27 U ?_;have hfewL:=hok.fewL;have hno:=hoo.few;have hol:=hoo.r.len;refine rD tb 2 U (e_ (Lt U cs_) ?_ U);rintro _ _ ⟨n3,rfl,rfl⟩;refine e_ (Lt U cs_) ?_ U;rintro _ _ ⟨n4,rfl,rfl⟩;refine rO tb 6 U (Bg 9 [(0,true),(1,true),(2,true),(3,true),(4,true),(5,false),(6,true),(7,false),(8,true)] _ mixd qkr sb0 ?_ A7);refine o_y U (Lp U isAgg26 sizeOf26 U qcs) ?_ U Ac;refine o_y U (Lp U isAgg29 sizeOf29 U qcs) ?_ U Ac;refine rP tb 1 U (o_y U (Lo U isAgg23 qco) ?_ U Ac);refine rP tb 1 U (o_e U (B7 (by':=8) (k:=n.links.length) (T U) runUnderlying27 sizeOf3 typeInfo3 U zeroValue3 U qom qom) ?_ U Ac);rintro _ _ ⟨n27,rfl,rfl⟩;rw[rep_enc n.links.length];refine⟨sbt,(o_y U (Ay (.cons (T U) (.cons (T U) (.cons (T U) .nil))) (zbd100_0_1_2 _ _ _ _ _ _ _ _ _ _ _ _ _ _ _ _)) (o_e U (Lt U cs_) ?_ U Ac) U Ac)⟩;rintro _ _ ⟨n29,rfl,rfl⟩;refine⟨sbt,(rP tb 1 U (A5 U (rO tb 16 U ?_)))⟩;refine Ba (X:=Nat × List Int × List Lr × List (List Sha) × Sl × List (Nat × Obj)) (V:=fun ⟨i,ld0,rows,outS,dO,Mx0⟩=>[(32, .int .i64 (i:Nat)),(10,slV dO rows.length)]) (C:=[(2,_),(9,_),(30,_),(31,_)]) (G:=fun ⟨i,ld0,rows,outS,dO,Mx0⟩=>rtN n29 n f n27 ld0++(Mx0++(slH dO (rows.flatMap encLr) 79++((n4,Cl (encFl f) 29)::(n3,Cl (encNn n) 26)::H)))) (φ:=fun ⟨i,ld0,rows,outS,dO,Mx0⟩=>i≤os.length∧LdR n ld0∧(SlOk dO rows.length 1∧rows.length=i)∧rows.map rowOf=outS.map (List.map Sha.lan)∧(∀ r∈rows,LrM w0 Mx0 r)∧goR n f (os2.drop i) ld0 outS=routeF n f os2) (μ:=fun ⟨i,ld0,rows,outS,dO,Mx0⟩=>os.length - i) (x0:=(0,List.replicate n.links.length 0,[],[], .nil,[])) ?_ ⟨Aa rfl,Aa rfl,Aa rfl,Aa rfl,trivial⟩ ⟨qat,qat,trivial⟩ sb0 ?_
 ·exact⟨Nat.zero_le _,ldr_zero n,⟨rfl,rfl⟩,rfl,fun r hr=>(by cases hr),rfl⟩
 rintro⟨i,ld0,rows,outS,dO,Mx0⟩ ⟨hi,hldr0,⟨hdO,hrl⟩,hrw,hrm,hgo⟩;refine rD tb 6 U ?_;refine Ae (Aa U) (fun c33=> ?_) (fun c33=> ?_)
 ·have hod:=hoo.r.at' i qom;have ho1:=hoo.ok _ (Ag (l:=os2) (i:=i) qom);have hmM:RxM w0 H (gd os i).m:=hO.m _ (Ag qom);have hdr:os2.drop i=gd os2 i::os2.drop (i+1):=by rw[List.drop_eq_getElem_cons qom,Ar qom]
  rw[hdr] at hgo;refine rC tb 6 U (y_ (Lq U U runUnderlying30 sizeOf58 qom (by first|exact rfl|exact hO.a.b (i:=i) qom)) ?_ U);refine y_ (Lp U isAgg58 sizeOf58 U (by exact(hO.a.mono sbt).cs (i:=i) qom)) ?_ U;refine e_ (Aj zeroValue58 cs_) ?_ U;rintro _ _ ⟨n12,rfl,rfl⟩;refine A0 (Ls U U sizeOf58) U Ac ?_;rintro _ _ ⟨rfl,rfl⟩;refine rO tb 5 U ?_;refine y_ (Lp U isAgg56 sizeOf56 U (by exact Bj (l:=encOm (gd os i)) (o:=3) (k:=3) fdd)) ?_ U;refine e_ (Am (qe1 U) call35 (buildMX_s (gd os i).m (gd os2 i).e hod.e (hmM.mono sbt) ho1.lv (pm:=(buildF leastF (gd os2 i).e).1) (cc:=(buildF leastF (gd os2 i).e).2) U)) ?_ U;rintro _ _ ⟨mc,Mb,⟨rfl,hmpl,hmcX⟩,rfl⟩;refine rO tb 3 U (e_ (Aj zeroValue68 cs_) ?_ U);rintro _ _ ⟨n13,rfl,rfl⟩;refine A0 (Ls U U sizeOf68) U Ac ?_;rintro _ _ ⟨rfl,rfl⟩;refine rO tb 5 U (e_ Eb ?_ U);rintro _ _ ⟨n42,rfl,rfl⟩;refine rO tb 10 U ?_;refine Ba (X:=Nat × List Ent × List Sha × List Sha × List Int × List (Nat × Obj)) (V:=fun ⟨k,es,own,srt,ld,Mx⟩=>[(43, .int .i64 (k:Nat))]) (C:=[(2,_),(9,_),(10,_),(12,_),(13,_),(15,_),(30,_),(31,_),(32,_)]) (G:=fun ⟨k,es,own,srt,ld,Mx⟩=>entH es++((n42,mapO encSk encPt (entM es))::(n13,Cl (encMc mc) 68)::(Mb++((n12,Cl (encOm (gd os i)) 58)::(rtN n29 n f n27 ld++(Mx++(slH dO (rows.flatMap encLr) 79++((n4,Cl (encFl f) 29)::(n3,Cl (encNn n) 26)::H)))))))) (φ:=fun ⟨k,es,own,srt,ld,Mx⟩=>k≤16∧LdR n ld∧SrtS srt∧own.Perm srt∧EsR n w0 Mx k es own∧roundsF n f (gd os2 i) (16 - k) ld srt=roundsF n f (gd os2 i) 16 ld0 []∧∀ r∈rows,LrM w0 Mx r) (μ:=fun ⟨k,es,own,srt,ld,Mx⟩=>16 - k) (x0:=(0,[],[],[],ld0,Mx0)) ?_ ⟨Aa rfl,Aa rfl,Aa rfl,Aa rfl,Aa rfl,Aa rfl,Aa rfl,Aa rfl,Aa rfl,trivial⟩ ⟨qat,trivial⟩ sb0 ?_
  ·exact⟨Nat.zero_le _,hldr0,List.Pairwise.nil,List.Perm.refl _,⟨rfl,fun i hi=>absurd hi (Nat.not_lt_zero _),fun i hi=>absurd hi (Nat.not_lt_zero _),fun i hi=>absurd hi (Nat.not_lt_zero _),List.nodup_nil,fun i hi=>absurd hi (Nat.not_lt_zero _),fun i hi=>absurd hi (Nat.not_lt_zero _),Nat.le_refl _⟩,rfl,hrm⟩
  rintro⟨k,es,own,srt,ld,Mx⟩ ⟨hk16,hldr,hsS,hpS,hesr,hro,hrm2⟩;refine rD tb 6 U ?_;refine Ae (Aa U) (fun c44=> ?_) (fun c44=> ?_)
  ·obtain⟨j16,hj16⟩:∃ j,16 - k=j+1:=⟨15 - k,by omega⟩;have hec:=hesr.ek;have hel:=hesr.len;have hlN:n.links.length≤128:=by omega
   have hmc2:McOk w0 Mb mc:=by have:=hmcX [];rwa [List.append_nil] at this
   refine rC tb 7 U (y_ (Lp U isAgg58 sizeOf58 U qcs) ?_ U);refine y_ (Lp U isAgg68 sizeOf68 U qcs) ?_ U;refine e_ (Am (qe3 U U U) call58 (A8 (rtN n29 n f n27 ld) qlc (part2_s n29 n (hn.mono sbt) hok hcap f (hf.mono sbt) hfl (gd os2 i) ho1 (gd os i) hod ld hldr mc (hmc2.mono sbx) hmpl n27))) ?_ U;rintro _ _ ⟨M2,(⟨l,ld2,y,⟨hpt,rfl⟩,⟨hy,hl24,hll,hldr2⟩,rfl⟩|⟨l,y,y2,⟨hpt,rfl⟩,hy2,rfl⟩),rfl⟩<;>simp only[List.append_assoc]
   ·refine rO tb 11 U (y_ (By (T U)) (rO tb 2 U ?_) U);refine Ic (Aa U) ?_;refine rC tb 6 U (e_ (Am (qe1 U) call60 (key_s l (slQ y) (slC y) ((Av (w0:=w0) (d:=y) (enc:=encU) (sz:=1) (e:=3) (X:=[]) (fun _=>rfl) hy).mono (by rw[List.append_nil];exact sbx)) qom (fun x hx=>by have:=hll x hx;omega))) ?_ U);rintro _ _ ⟨rfl,rfl⟩;rcases es_find hlN hesr hll with ⟨j,hj,hjl,hlk⟩|⟨hnone,hlk⟩
    ·refine y_ (yl_lkE1 hlk (T U) (T U) fdd) ?_ U;refine rO tb 7 U (y_ (yl_eqPN (T U) Ao) (rO tb 9 U ?_) U);refine y_ (Lo U isAgg3 (by first|exact c_o|exact(Br (i:=1) (by repeat (first|exact fnd_l (entH_fnd hj)|refine Au ?_|refine A2 ?_)) U))) ?_ U;refine y_ (Aq (T U) Ao (by first|omega|(have h1:=hesr.p j hj;have h2:=hesr.pk j hj;omega))) ?_ U;refine rO tb 2 U (e_ (Dx (T U) (T U) U sizeOf3 (Fe U) (entH_upd hj ⟨(gd es j).s.q,(gd es j).s.c,(gd es j).s.l,(gd es j).s.p+1⟩ _)) ?_ U);rintro _ _ ⟨rfl,rfl⟩;refine kO tb 3 [2,9,10,12,13,15,30,31,32,43] rfl U (rG tb 1 U (y_ (Aq (T U) Ao qom) ?_ U));refine rO tb 2 U ?_;refine An ((k+1,es.set j ⟨(gd es j).b,⟨(gd es j).s.q,(gd es j).s.c,(gd es j).s.l,(gd es j).s.p+1⟩⟩,putU l own,putS l srt,ld2,slH y (l.flatMap encU) 3++Mx)) ?_ ?_ ⟨qat,trivial⟩ ⟨Aa U,Aa U,Aa U,Aa U,Aa U,Aa U,Aa U,Aa U,Aa U,trivial⟩ ?_
     ·refine⟨by omega,hldr2,G9 l hsS,(putU_congr l hesr.nd hpS).trans (putU_perm l hsS),(hesr.more hj hjl).mono (List.sublist_append_right _ _),?_,fun r hr=>(hrm2 r hr).mono (List.sublist_append_right _ _)⟩;show roundsF n f (gd os2 i) (16 - (k+1)) ld2 (putS l srt)=_;rw[← hro,hj16,Gq hpt,show 16 - (k+1)=j16 by omega]
     ·omega
     ·(show (entH (es.set j ⟨(gd es j).b,⟨(gd es j).s.q,(gd es j).s.c,(gd es j).s.l,(gd es j).s.p+1⟩⟩)++((n42,mapO encSk encPt (entM (es.set j ⟨(gd es j).b,⟨(gd es j).s.q,(gd es j).s.c,(gd es j).s.l,(gd es j).s.p+1⟩⟩)))::(n13,Cl (encMc mc) 68)::(Mb++((n12,Cl (encOm (gd os i)) 58)::(rtN n29 n f n27 ld2++((slH y (l.flatMap encU) 3++Mx)++(slH dO (rows.flatMap encLr) 79++((n4,Cl (encFl f) 29)::(n3,Cl (encNn n) 26)::H)))))))).Sublist _;rw[entM_set hj,List.append_assoc (slH y (l.flatMap encU) 3) Mx];exact sbt)
    ·refine y_ (yl_lkE2 hlk (T U) (T U) fdd) ?_ U;refine rO tb 7 U (y_ (yl_eqPN2 (T U) Ao) (rO tb 6 U (y_ (Ay (.cons (T U) .nil) (zbd77_0 _ _ _)) (e_ (Lt U cs_) ?_ U) U)) U);rintro _ _ ⟨n70,rfl,rfl⟩;refine kO tb 3 [2,9,10,12,13,15,16,18,30,31,32,43] rfl U (rG tb 3 U (y_ (Ax (qe1 U) call60 (fun H' hs=>key_s l (slQ y) (slC y) ((Av (w0:=w0) (d:=y) (enc:=encU) (sz:=1) (e:=3) (X:=[]) (fun _=>rfl) hy).mono (by rw[List.append_nil];exact List.Sublist.trans sbx hs)) qom (fun x hx=>by have:=hll x hx;omega))) ?_ U));refine rO tb 1 U (e_ (Cd (l:=entM es) (encV:=encPt) (keyR (toInts l)) n70 (keyStr (V:=Nat)) (T U) (T U) U (T U) U runUnderlying101) ?_ U);rintro _ _ ⟨rfl,rfl⟩;rw[upsert_noneG n70 hlk];refine rO tb 6 U ?_;refine y_ (Lo U isAgg3 qco) ?_ U;refine y_ (Aq (T U) Ao qom) ?_ U;refine rO tb 2 U (e_ (Bl (T U) (T U) U sizeOf3) ?_ U);rintro _ _ ⟨rfl,rfl⟩;refine rO tb 4 U (y_ (Aq (T U) Ao qom) ?_ U);refine rO tb 2 U ?_;refine An ((k+1,es++[⟨n70,⟨slQ y,slC y,toInts l,1⟩⟩],putU l own,putS l srt,ld2,slH y (l.flatMap encU) 3++Mx)) ?_ ?_ ⟨qat,trivial⟩ ⟨Aa U,Aa U,Aa U,Aa U,Aa U,Aa U,Aa U,Aa U,Aa U,trivial⟩ ?_
     ·refine⟨by omega,hldr2,G9 l hsS,(putU_congr l hesr.nd hpS).trans (putU_perm l hsS),(hesr.mono (List.sublist_append_right _ _)).new hll hnone ⟨arrUI (Av (fun _=>rfl) hy),by show (toInts l).length≤_;rw[List.length_map];omega⟩,?_,fun r hr=>(hrm2 r hr).mono (List.sublist_append_right _ _)⟩;show roundsF n f (gd os2 i) (16 - (k+1)) ld2 (putS l srt)=_;rw[← hro,hj16,Gq hpt,show 16 - (k+1)=j16 by omega]
     ·omega
     ·first|(show (entH (es.set j ⟨(gd es j).b,⟨(gd es j).s.q,(gd es j).s.c,(gd es j).s.l,(gd es j).s.p+1⟩⟩)++((n42,mapO encSk encPt (entM (es.set j ⟨(gd es j).b,⟨(gd es j).s.q,(gd es j).s.c,(gd es j).s.l,(gd es j).s.p+1⟩⟩)))::(n13,Cl (encMc mc) 68)::(Mb++((n12,Cl (encOm (gd os i)) 58)::(rtN n29 n f n27 ld2++((slH y (l.flatMap encU) 3++Mx)++(slH dO (rows.flatMap encLr) 79++((n4,Cl (encFl f) 29)::(n3,Cl (encNn n) 26)::H)))))))).Sublist _;rw[entM_set hj,List.append_assoc (slH y (l.flatMap encU) 3) Mx];exact sbt)|(show (entH (es++[⟨n70,⟨slQ y,slC y,toInts l,1⟩⟩])++((n42,mapO encSk encPt (entM (es++[⟨n70,⟨slQ y,slC y,toInts l,1⟩⟩])))::(n13,Cl (encMc mc) 68)::(Mb++((n12,Cl (encOm (gd os i)) 58)::(rtN n29 n f n27 ld2++((slH y (l.flatMap encU) 3++Mx)++(slH dO (rows.flatMap encLr) 79++((n4,Cl (encFl f) 29)::(n3,Cl (encNn n) 26)::H)))))))).Sublist _;rw[entH_new,show entM (es++[⟨n70,⟨slQ y,slC y,toInts l,1⟩⟩])=entM es++[(keyR (toInts l),n70)] from List.map_append ..,List.append_assoc (slH y (l.flatMap encU) 3) Mx,List.cons_append];exact sbt)
   ·refine rO tb 11 U (y_ (By (T U)) (rO tb 2 U ?_) U);refine Cg (Aa U) ?_;refine rC tb 4 U (y_ (Lp U isAgg58 sizeOf58 U qcs) ?_ U);refine y_ (Lp U isAgg68 sizeOf68 U qcs) ?_ U;refine e_ (Am (qe4 U U U U) call59 (A8 (rtH n29 n f y2 ld) qlc (stuck_s n29 n (hn.mono sbt) hok hcap f (hf.mono sbt) hfl os os2 qo co (hO.mono sbt) hoo (gd os2 i) ho1 (gd os i) hod ld hldr mc (hmc2.mono sbx) hmpl y2 hy2 (by have:=I9 hok ho1.mce.ok (f:=f) (to:=(gd os2 i).y) ho1.x;omega)))) ?_ U;rintro _ _ ⟨dS,⟨rfl,hdS⟩,rfl⟩;refine kO tb 8 [6,7,8] rfl U (rG tb 4 U (Aw (rX tb 4 U (Aw (rX tb 2 U (Ai U (.tmp (Aa U) (.tmp (Aa U) (Ll U))) ?_))))));have hfin:routeF n f os2=(outS,some (ld,(gd os2 i))):=by rw[← hgo,Kl (by rw[← hro,hj16,Gb hpt])]
    exact⟨_,⟨slH dS ((stuckF n f os2 (gd os2 i) ld).1.flatMap encI) 3, .inr ⟨outS,ld,(gd os2 i),slQ dS,slC dS,⟨hfin,rfl⟩,Av (fun _=>rfl) hdS,stuck_len hok⟩,rfl⟩,sbt⟩
  ·obtain rfl:k=16:=by omega
   rw[Nat.sub_self] at hro;have hrd:roundsF n f (gd os2 i) 16 ld0 []=(true,ld,srt):=by rw[← hro];rfl
   rw[goR_yes hrd] at hgo;have hec:=hesr.ek;have hel:=hesr.len;have hlN:n.links.length≤128:=by omega
   refine rC tb 2 U (Af (rX tb 11 U ?_));refine e_ (eff_rangeMap (m:=n42) (l:=entM es) (encK:=encSk) (encV:=encPt) (T U) fdd runUnderlying101) ?_ U;rintro _ _ ⟨n84,rfl,rfl⟩;refine rO tb 3 U ?_;refine Ba (X:=List Nat × List Lm × Sl) (V:=fun ⟨seen,acc,dw⟩=>[(19,slV dw acc.length)]) (C:=[(2,_),(9,_),(10,_),(30,_),(31,_),(32,_),(84,_)]) (G:=fun ⟨seen,acc,dw⟩=>slH dw (acc.flatMap encLm) 77++((n84,itO n42 (entM es).length seen (entM es).length)::(entH es++((n42,mapO encSk encPt (entM es))::(n13,Cl (encMc mc) 68)::(Mb++((n12,Cl (encOm (gd os i)) 58)::(rtN n29 n f n27 ld++(Mx++(slH dO (rows.flatMap encLr) 79++((n4,Cl (encFl f) 29)::(n3,Cl (encNn n) 26)::H)))))))))) (φ:=fun ⟨seen,acc,dw⟩=>acc=seen.map (fun z=>(gd es z).s)∧SlOk dw acc.length 2∧seen.Nodup∧∀ z∈seen,z<es.length) (μ:=fun ⟨seen,acc,dw⟩=>es.length - seen.length) (x0:=([],[], .nil)) ?_ ⟨Aa rfl,Aa rfl,Aa rfl,Aa rfl,Aa rfl,Aa rfl,Aa rfl,trivial⟩ ⟨qat,trivial⟩ sb0 ?_
   ·exact⟨rfl,rfl,List.nodup_nil,fun z hz=>by cases hz⟩
   rintro⟨seen,acc,dw⟩ ⟨hacc,hdw,hsn,hlt⟩;have hsle:=seen_le' hsn hlt;refine rD tb 2 U ?_;refine e_ (eff_next (m:=n42) (l:=entM es) (encK:=encSk) (encV:=encPt) (T U) fdd (by repeat (first|exact Loc.h|apply Loc.t|apply Loc.a))) ?_ U;rintro _ _ (⟨z,⟨kb,pb⟩,hip,hni,rfl,rfl⟩|⟨hall,rfl,rfl⟩)
   ·refine rO tb 4 U ?_;refine Cg (Aa U) ?_;refine rC tb 5 U ?_;refine y_ (yl_entry (m:=n42) (l:=entM es) (encK:=encSk) (encV:=encPt) (T U) fdd fdd hip) ?_ U;refine y_ (Ew (T U) U) ?_ U;have hil:z<es.length:=by have:=(List.getElem?_eq_some_iff.1 hip).1;simpa using this
    obtain⟨rfl,rfl⟩:kb=keyR (gd es z).s.l∧pb=(gd es z).b:=by
     rw[List.getElem?_map,B3 hil] at hip;have:=Option.some.inj hip;exact⟨(congrArg Prod.fst this).symm,(congrArg Prod.snd this).symm⟩
    have hsl:=seen_lt' hsn hlt hni hil;refine rO tb 7 U ?_;refine y_ (Lp U isAgg77 sizeOf77 U (by exact(C8 (by repeat (first|exact fnd_l (entH_fnd hil)|refine Au ?_|refine A2 ?_))))) ?_ U;refine e_ (Ah (.cons (T U) .nil) (Cx _ _ _ _)) ?_ U;rintro _ _ ⟨n93,rfl,rfl⟩;refine e_ (A9 ((gd es z).s) (by':=32) (enc:=encLm) (l:=acc) (d:=dw) qlc (T U) (T U) runUnderlying79 runUnderlying79 sizeOf77 typeInfo77 U zeroValue77 U (fun _=>rfl) U hdw qde (by rw[hacc,List.length_map];omega)) ?_ U;rintro _ _ ⟨dw2,rfl,hdw2,rfl⟩;refine rO tb 3 U ?_;refine An ((seen++[z],acc++[(gd es z).s],dw2)) ?_ ?_ ⟨qat,trivial⟩ ⟨Aa U,Aa U,Aa U,Aa U,Aa U,Aa U,Aa U,trivial⟩ ?_
    ·refine⟨by rw[hacc,List.map_append];rfl,hdw2,?_,fun j hj=> ?_⟩
     ·rw[List.nodup_append];exact⟨hsn,by simp,by intro a ha b hb;simp at hb;subst hb;rintro rfl;exact hni ha⟩
     ·rcases List.mem_append.1 hj with h|h
      ·exact hlt j h
      ·simp at h;subst h;exact hil
    ·show es.length - (seen++[z]).length<es.length - seen.length;rw[List.length_append,List.length_singleton];omega
    ·exact sbt
   ·refine rO tb 4 U ?_;refine Ic (Aa U) ?_;refine rC tb 2 U (Af (rX tb 5 U ?_));refine e_ (Am (.cons (T U) (.cons J9 .nil)) call61 (A8 (slH dw (acc.flatMap encLm) 77) .h (sortL_s dw acc hdw (by rw[hacc,List.length_map];omega) (fun s hs=>by
      rw[hacc] at hs;obtain⟨z,hz,rfl⟩:=List.mem_map.1 hs;exact(hesr.m z (hlt z hz)).mono sbx)))) ?_ U
    rintro _ _ ⟨ks,⟨rfl,hkp,hkw⟩,rfl⟩;refine El (perm_rt (slH dw (ks.flatMap encLm) 77) (entH es) Mb (rtN n29 n f n27 ld) (Mx++(slH dO (rows.flatMap encLr) 79++((n4,Cl (encFl f) 29)::(n3,Cl (encNn n) 26)::H))) _ _ _ _) (rO tb 5 U (e_ (Ah (.cons (T U) .nil) (H4 _ _ _)) ?_ U));rintro _ _ ⟨n99,rfl,rfl⟩;refine e_ (A9 (⟨slQ dw,slC dw,ks⟩:Lr) (by':=24) (enc:=encLr) (l:=rows) (d:=dO) qlc (T U) (T U) runUnderlying31 runUnderlying31 sizeOf79 typeInfo79 U zeroValue79 U (fun _=>rfl) U hdO qde qom (hn:=by
      have e:encLr (⟨slQ dw,slC dw,ks⟩:Lr)=[.slice (slQ dw) acc.length (slC dw)]:=by show [Value.slice _ ks.length _]=_;rw[hkp.length_eq]
      rw[e];exact A1)) ?_ U
    rintro _ _ ⟨dO2,rfl,hdO2,rfl⟩;refine rO tb 5 U (y_ (Aq (T U) Ao qom) ?_ U);refine rO tb 2 U ?_;refine An ((i+1,ld,rows++[⟨slQ dw,slC dw,ks⟩],outS++[srt],dO2,slH dw (ks.flatMap encLm) 77++Mx)) ?_ ?_ ⟨qat,qat,trivial⟩ ⟨Aa U,Aa U,Aa U,Aa U,trivial⟩ ?_
    ·have hks:=ks_own hesr hsS hpS ((hkp.trans (by rw[hacc];exact seen_perm hsn hlt (fun z hz=>hall z (by simpa using hz))))) hkw;refine⟨by omega,hldr,⟨by simpa using hdO2,by simp[hrl]⟩,?_,fun r hr=> ?_,hgo⟩
     ·rw[List.map_append,List.map_append,hrw];show _++[ks.map Lm.lan]=_++[srt.map Sha.lan];rw[hks]
     ·rcases List.mem_append.1 hr with h|h
      ·exact(hrm2 r h).mono (List.sublist_append_right _ _)
      ·simp at h;subst h;exact⟨Av (fun _=>rfl) (by rw[hkp.length_eq];exact hdw),by show ks.length≤_;rw[hkp.length_eq,hacc,List.length_map];omega,fun s hs=>by
        have hs2:=hkp.subset hs;rw[hacc] at hs2;obtain⟨z,hz,rfl⟩:=List.mem_map.1 hs2;exact(hesr.m z (hlt z hz)).mono (List.sublist_append_right _ _)⟩
    ·first|omega|(simp only[];omega)
    ·show (rtN n29 n f n27 ld++((slH dw (ks.flatMap encLm) 77++Mx)++_)).Sublist _;rw[List.append_assoc];exact sbt
 ·refine rC tb 2 U (Af (rX tb 11 U (Ai U (.tmp (Aa U) (.tmp (Aa U) (Ll U))) ?_)));have hfin:routeF n f os2=(outS,none):=by rw[← hgo,List.drop_of_length_le qom];rfl
  exact⟨_,⟨Mx0++slH dO (rows.flatMap encLr) 79, .inl ⟨outS,slQ dO,slC dO,rows,⟨hfin,rfl⟩,⟨(Av (w0:=w0) (d:=dO) (enc:=encLr) (sz:=1) (l:=rows) (e:=79) (X:=[]) (fun _=>rfl) hdO).mono (by rw[List.append_nil];exact(List.sublist_append_right _ _).trans (List.sublist_append_left _ _)),by omega,fun r hr=>(hrm r hr).mono ((List.sublist_append_left _ _).trans (List.sublist_append_left _ _))⟩,hrw⟩,rfl⟩,by rw[List.append_assoc];exact sbt⟩
theorem rfull_s {w0:World}{H:List (Nat × Obj)}(n:Nn)(hn:NetR w0 H n)(hok:NnOk n)(hcap:∀ x∈n.links,0≤x.cap∧x.cap≤1048576)(f:Flr)(hf:Arr w0 H f.q 1 encI f.links)(hfl:f.links.length≤1000000)(ld:List Int)(hld:LdR n ld)(ql:Option Addr)(cl:Nat)(hL:Arr w0 H ql 1 encI ld)(a:Int)(ha:0≤a∧a≤1048576):
  FSpec Tryz.prog w0 65 #[.agg (encNn n).toArray, .agg (encFl f).toArray, .slice ql n.links.length cl, .int .i64 a] H (fun v H'=>∃ d:Sl,(v= .agg (encFl ⟨slQ d,slC d,fullL n f ld a n.links.length,f.node⟩).toArray∧SlOk d (fullL n f ld a n.links.length).length 1)∧H'=slH d ((fullL n f ld a n.links.length).flatMap encI) 3++H):=by
 refine Ap Tryz.func65 U ntmps65 U ?_;have hfewL:=hok.fewL;have hll:=hld.len;refine rD tb 2 U (e_ (Lt U cs_) ?_ U);rintro _ _ ⟨n4,rfl,rfl⟩;refine e_ (Lt U cs_) ?_ U;rintro _ _ ⟨n5,rfl,rfl⟩;refine e_ (Aj zeroValue29 cs_) ?_ U;rintro _ _ ⟨n8,rfl,rfl⟩;refine rO tb 5 U (y_ (Lo U isAgg3 qco) ?_ U);refine y_ (Ay (.cons (T U) .nil) (zbd29_1 _)) (e_ (Aj zeroValue29 cs_) ?_ U) U;rintro _ _ ⟨n9,rfl,rfl⟩;refine A0 (Ls U U sizeOf29) U Ac ?_;rintro _ _ ⟨rfl,rfl⟩;refine rO tb 9 U ?_;refine Ba (X:=Nat × Sl) (V:=fun ⟨i,d⟩=>[(10, .int .i64 (i:Nat))]) (C:=[(2,_),(3,_),(4,_),(5,_),(8,_),(9,_)]) (G:=fun ⟨i,d⟩=>(n9,Cl [slV d (fullL n f ld a i).length, .int .i64 f.node] 29)::(slH d ((fullL n f ld a i).flatMap encI) 3++((n8,Cl [.slice none 0 0, .int .i64 0] 29)::((n5,Cl (encFl f) 29)::(n4,Cl (encNn n) 26)::H)))) (φ:=fun ⟨i,d⟩=>i≤n.links.length∧SlOk d (fullL n f ld a i).length 1) (μ:=fun ⟨i,d⟩=>n.links.length - i) (x0:=(0, .nil)) ?_ ⟨Aa rfl,Aa rfl,Aa rfl,Aa rfl,Aa rfl,Aa rfl,trivial⟩ ⟨qat,trivial⟩ sb0 ?_
 ·exact⟨Nat.zero_le _,rfl⟩
 rintro⟨i,d⟩ ⟨hi,hd⟩;refine rD tb 5 U (y_ (Lo U isAgg23 qco) ?_ U);refine rO tb 4 U ?_;refine Ae (Aa U) (fun c20=> ?_) (fun c20=> ?_)
 ·have hlv:=hld.rng i qom;have hcv:=hcap _ (Ag (l:=n.links) (i:=i) qom);refine rC tb 16 U ?_;refine Bb (X:=Nat × Bool) (V:=fun ⟨k,g⟩=>[(12, .int .i64 (k:Nat)),(11, .bool g)]) (C:=[(2,_),(3,_),(4,_),(5,_),(8,_),(9,_),(10,_)]) (φ:=fun ⟨k,g⟩=>k≤f.links.length∧(g=true↔∃ j,j<k∧gd f.links j=(i:Int))) (μ:=fun ⟨k,g⟩=>f.links.length - k) (x0:=(0,false)) ?_ ⟨Aa rfl,Aa rfl,Aa rfl,Aa rfl,Aa rfl,Aa rfl,Aa rfl,trivial⟩ ⟨qat,qat,trivial⟩ ?_
  ·exact⟨Nat.zero_le _,⟨fun h=>absurd h qde,fun ⟨j,h1,_⟩=>absurd h1 (Nat.not_lt_zero _)⟩⟩
  rintro⟨k,g⟩ ⟨hk,hg⟩;refine rD tb 5 U (y_ (Lo U isAgg27 qco) ?_ U);refine rO tb 4 U ?_;refine Ae (Aa U) (fun c27=> ?_) (fun c27=> ?_)
  ·refine rC tb 7 U ?_
   first|refine A4 (s:=31) (Aa U) (fun c31=> ?_) (fun c31=> ?_)|refine Eu (s:=31) (Aa U) (fun c31=> ?_) (fun c31=> ?_)
   ·refine rO tb 14 U (y_ (Aq (T U) Ao qom) ?_ U);refine rO tb 2 U ?_;refine An ((k+1,true)) ?_ ?_ ⟨qat,qat,trivial⟩ ⟨Aa U,Aa U,Aa U,Aa U,Aa U,Aa U,Aa U,trivial⟩ ?_
    ·refine⟨by omega,⟨fun _=> ?_,fun _=>rfl⟩⟩;obtain⟨j,h1,h2⟩:=hg.1 c31;exact⟨j,by omega,h2⟩
    ·first|omega|(simp only[];omega)
    ·exact sbt
   ·refine rO tb 1 U (A6 (Lo U isAgg27 qco) U (Az U U (Aa U)) ?_);refine rO tb 1 U (A6 (Lq U U runUnderlying27 sizeOf3 qom (by first|exact rfl|exact hf.b (i:=k) qom)) U (Az U U (Aa U)) ?_);refine A6 (Lo U isAgg3 (by first|exact c_o|exact cell1 ((hf.mono sbt).cs (i:=k) qom))) U (Az U U (Aa U)) ?_;refine rO tb 9 U (y_ (Aq (T U) Ao qom) ?_ U);refine rO tb 2 U ?_;refine An ((k+1,decide (gd f.links k=(i:Int)))) ?_ ?_ ⟨qat,qat,trivial⟩ ⟨Aa U,Aa U,Aa U,Aa U,Aa U,Aa U,Aa U,trivial⟩ ?_
    ·refine⟨by omega,⟨fun h=>⟨k,by omega,of_decide_eq_true h⟩,fun ⟨j,h1,h2⟩=> ?_⟩⟩
     by_cases e:j=k
     ·subst e;exact decide_eq_true h2
     ·have:=hg.2 ⟨j,by omega,h2⟩;rw[c31] at this;cases this
    ·first|omega|(simp only[];omega)
    ·exact sbt
  ·have hgm:g=true↔(i:Int)∈f.links:=by
    rw[hg];exact⟨fun ⟨j,h1,h2⟩=>h2 ▸ Ag qom,fun h=>by
     obtain⟨j,hj,e⟩:=List.getElem_of_mem h;exact⟨j,by omega,by rw[Ar hj];exact e⟩⟩
   refine rC tb 2 U (Af (rX tb 3 U (Bg 17 [(0,true),(1,true),(2,true),(3,true),(4,true),(5,true),(6,true),(7,true),(8,true),(9,true),(10,true),(11,true),(12,true),(13,true),(14,true),(15,true),(16,true)] _ mixd qkr sb0 ?_ A7)));refine rP tb 2 U ?_
   first|refine B4 (s:=41) (Aa U) (fun c41=> ?_) (fun c41=> ?_)|refine Ku (s:=41) (Aa U) (fun c41=> ?_) (fun c41=> ?_)
   ·refine rP tb 15 U (A5 U (kO tb 2 [2,3,4,5,8,9,10,56] rfl U (rG tb 3 U (y_ (Lo U isAgg27 qco) ?_ U))));refine rO tb 1 U (e_ (Ah (.cons (T U) .nil) (Dm _)) ?_ U);rintro _ _ ⟨n60,rfl,rfl⟩;refine e_ (A9 ((i:Int)) (by':=8) (enc:=encI) (l:=fullL n f ld a i) qlc (T U) (T U) runUnderlying27 runUnderlying27 sizeOf3 typeInfo3 U zeroValue3 U (fun _=>rfl) U hd qde (by have:=D4 (n:=n) (f:=f) (ld:=ld) (a:=a) i;omega)) ?_ U;rintro _ _ ⟨d2,rfl,hd2,rfl⟩;refine rO tb 1 U ?_
    first|refine A0 (Ls U U sizeOf27) U Ac ?_|refine A0 (Bt (T U) (T U) U sizeOf27) U Ac ?_|refine A0 (Bl (T U) (T U) U sizeOf27) U Ac ?_
    rintro _ _ ⟨rfl,rfl⟩;refine rO tb 5 U (y_ (Aq (T U) Ao qom) ?_ U);refine rO tb 2 U ?_;have he:=Hy (n:=n) (f:=f) (ld:=ld) (a:=a) (k:=i) (.inl (hgm.1 c41));refine An ((i+1,d2)) ?_ ?_ ⟨qat,trivial⟩ ⟨Aa U,Aa U,Aa U,Aa U,Aa U,Aa U,trivial⟩ ?_
    ·exact⟨by omega,by rw[he];exact hd2⟩
    ·first|omega|(simp only[];omega)
    ·(show ((n9,Cl [slV d2 (fullL n f ld a (i+1)).length,_] 29)::(slH d2 ((fullL n f ld a (i+1)).flatMap encI) 3++_)).Sublist _;rw[he];exact sbt)
   ·refine rP tb 2 U (o_y U (Bi (T U) (T U) runUnderlying27 sizeOf3 qom (by first|exact rfl|exact hf.b (i:=k) qom|exact hL.b (i:=i) qom)) ?_ U (Az U U (Aa U)));refine o_y U (Lo U isAgg3 (by first|exact c_o|exact cell1 ((hL.mono sbt).cs (i:=i) qom))) ?_ U (Az U U (Aa U));refine rP tb 1 U (o_y U (Aq (T U) (T U) qom) ?_ U (Az U U (Aa U)));refine rP tb 1 U (o_y U (Lo U isAgg23 qco) ?_ U (Az U U (Aa U)));refine rP tb 1 U (o_y U (Bi (T U) (T U) runUnderlying23 sizeOf61 qom (by first|exact rfl|exact hf.b (i:=k) qom|exact hL.b (i:=i) qom|exact hn.links.b (i:=i) qom)) ?_ U (Az U U (Aa U)));refine rP tb 1 U (o_y U (Lo U isAgg3 (by first|exact c_o|exact c_m (hn.links.f (i:=i) (j:=2) qom U))) ?_ U (Az U U (Aa U)));refine o_y U (Ei Ao (T U) qom) ?_ U (Az U U (Aa U));refine rP tb 2 U (A5 U (kO tb 2 [2,3,4,5,8,9,10,56] rfl U ?_));refine Ae (Aa U) (fun c56=> ?_) (fun c56=> ?_)
    ·refine rC tb 2 U (y_ (Lo U isAgg27 qco) ?_ U);refine rO tb 1 U (e_ (Ah (.cons (T U) .nil) (Dm _)) ?_ U);rintro _ _ ⟨n60,rfl,rfl⟩;refine e_ (A9 ((i:Int)) (by':=8) (enc:=encI) (l:=fullL n f ld a i) qlc (T U) (T U) runUnderlying27 runUnderlying27 sizeOf3 typeInfo3 U zeroValue3 U (fun _=>rfl) U hd qde (by have:=D4 (n:=n) (f:=f) (ld:=ld) (a:=a) i;omega)) ?_ U;rintro _ _ ⟨d2,rfl,hd2,rfl⟩;refine rO tb 1 U ?_
     first|refine A0 (Ls U U sizeOf27) U Ac ?_|refine A0 (Bt (T U) (T U) U sizeOf27) U Ac ?_|refine A0 (Bl (T U) (T U) U sizeOf27) U Ac ?_
     rintro _ _ ⟨rfl,rfl⟩;refine rO tb 5 U (y_ (Aq (T U) Ao qom) ?_ U);refine rO tb 2 U ?_;have he:=Hy (n:=n) (f:=f) (ld:=ld) (a:=a) (k:=i) (.inr (decide_eq_false qom));refine An ((i+1,d2)) ?_ ?_ ⟨qat,trivial⟩ ⟨Aa U,Aa U,Aa U,Aa U,Aa U,Aa U,trivial⟩ ?_
     ·exact⟨by omega,by rw[he];exact hd2⟩
     ·first|omega|(simp only[];omega)
     ·(show ((n9,Cl [slV d2 (fullL n f ld a (i+1)).length,_] 29)::(slH d2 ((fullL n f ld a (i+1)).flatMap encI) 3++_)).Sublist _;rw[he];exact sbt)
    ·refine rC tb 5 U (y_ (Aq (T U) Ao qom) ?_ U);refine rO tb 2 U ?_;have he:=fullL_no (n:=n) (f:=f) (ld:=ld) (a:=a) (k:=i) (by rintro(h|h);exact absurd (hgm.2 h) (by rw[c41];decide);exact of_decide_eq_false h qom);refine An ((i+1,d)) ?_ ?_ ⟨qat,trivial⟩ ⟨Aa U,Aa U,Aa U,Aa U,Aa U,Aa U,trivial⟩ ?_
     ·exact⟨by omega,by rw[he];exact hd⟩
     ·first|omega|(simp only[];omega)
     ·first|(show ((n9,Cl [slV d2 (fullL n f ld a (i+1)).length,_] 29)::(slH d2 ((fullL n f ld a (i+1)).flatMap encI) 3++_)).Sublist _;rw[he];exact sbt)|(show ((n9,Cl [slV d (fullL n f ld a (i+1)).length,_] 29)::(slH d ((fullL n f ld a (i+1)).flatMap encI) 3++_)).Sublist _;rw[he];exact sbt)
 ·obtain rfl:i=n.links.length:=by omega
  refine rC tb 2 U (Af (rX tb 4 U (y_ (Lp U isAgg29 sizeOf29 U qcs) ?_ U)));refine A0 (Ls U U sizeOf29) U Ac ?_;rintro _ _ ⟨rfl,rfl⟩;refine rO tb 3 U (Ai U (.cellA (Aa U) isAgg29 sizeOf29 U qcs .nil) ?_);exact⟨_,⟨d,⟨rfl,hd⟩,rfl⟩,sbt⟩
theorem cnt_take {ls:List Nat}{k x:Nat}(h:k<ls.length):cntI (toInts (ls.take (k+1))) x=cntI (toInts (ls.take k)) x+if gd ls k=x then 1 else 0:=by
 rw[ti_take h];unfold cntI;rw[Fr];show _+(one x ((gd ls k:Nat):Int)+0)=_;unfold one
 by_cases e:gd ls k=x
 ·rw[if_pos qom,if_pos e];omega
 ·rw[if_neg qom,if_neg e];omega
theorem cnt_le (ls:List Nat)(x:Nat):cntI (toInts ls) x≤ls.length:=by
 induction ls with
 |nil=>simp[toInts,cntI,sI]
 |cons y ls ih=>
  rw[I6];simp only[List.length_cons]
  split<;>omega
theorem rover_s {w0:World}{H:List (Nat × Obj)}(n:Nn)(hn:NetR w0 H n)(hok:NnOk n)(hcap:∀ x∈n.links,0≤x.cap∧x.cap≤1048576)(ld:List Int)(hld:LdR n ld)(ql:Option Addr)(cl:Nat)(hL:Arr w0 H ql 1 encI ld)(a:Int)(ha:0≤a∧a≤1048576)(ls:List Nat)(q:Option Addr)(c:Nat)(hA:Arr w0 H q 1 encU ls)(hl:ls.length≤2400)(hlt:∀ x∈ls,x<n.links.length):
  FSpec Tryz.prog w0 66 #[.agg (encNn n).toArray, .slice ql n.links.length cl, .int .i64 a, .slice q ls.length c] H (Still (.bool (!(takeF n a ls ld).isSome)) H):=by
 refine Ap Tryz.func66 U ntmps66 U ?_;have hfewL:=hok.fewL;have hll:=hld.len;have htk:=take_iff (n:=n) ha.1 (ls:=ls) (ld:=ld) (fun k hk=>by have:=hlt k hk;omega);refine rD tb 2 U (e_ (Lt U cs_) ?_ U);rintro _ _ ⟨n4,rfl,rfl⟩;refine rO tb 10 U ?_;refine Bb (X:=Nat) (V:=fun i=>[(9, .int .i64 (i:Nat))]) (C:=[(1,_),(2,_),(3,_),(4,_)]) (φ:=fun i=>i≤ls.length∧∀ j,j<i→gd ld (gd ls j)+cntI (toInts ls) (gd ls j)*a≤16*(gd n.links (gd ls j)).cap) (μ:=fun i=>ls.length - i) (x0:=0) ?_ ⟨Aa U,Aa U,Aa U,Aa U,trivial⟩ ⟨qat,trivial⟩ ?_
 ·exact⟨Nat.zero_le _,fun j hj=>by omega⟩
 rintro i ⟨hi,hno⟩;refine rD tb 9 U ?_;refine Ae (Aa U) (fun c15=> ?_) (fun c15=> ?_)
 ·have hxi:=hlt _ (Ag (l:=ls) (i:=i) qom);have hlv:=hld.rng _ hxi;have hcv:=hcap _ (Ag (l:=n.links) (i:=(gd ls i)) hxi);refine rC tb 16 U ?_;refine Bb (X:=Nat × Int) (V:=fun ⟨k,tm⟩=>[(11, .int .i64 (k:Nat)),(10, .int .i64 tm)]) (C:=[(1,_),(2,_),(3,_),(4,_),(9,_)]) (φ:=fun ⟨k,tm⟩=>k≤ls.length∧tm=cntI (toInts (ls.take k)) (gd ls i)∧0≤tm∧tm≤k) (μ:=fun ⟨k,tm⟩=>ls.length - k) (x0:=(0,0)) ?_ ⟨Aa rfl,Aa rfl,Aa rfl,Aa rfl,Aa rfl,trivial⟩ ⟨qat,qat,trivial⟩ ?_
  ·exact⟨Nat.zero_le _,rfl,Int.le_refl _,Int.le_refl _⟩
  rintro⟨k,tm⟩ ⟨hk,htm,ht0,ht1⟩;refine rD tb 9 U ?_;refine Ae (Aa U) (fun c21=> ?_) (fun c21=> ?_)
  ·refine rC tb 5 U (Bg 9 [(0,true),(1,true),(2,true),(3,true),(4,true),(5,true),(6,true),(7,true),(8,true)] _ mixd qkr sb0 ?_ A7);refine rP tb 2 U (o_y U (Lq U U runUnderlying27 sizeOf3 qom (by first|exact rfl|exact hA.b (i:=k) qom)) ?_ U Ac);refine o_y U (Lo U isAgg3 (by first|exact c_o|exact cell1 ((hA.mono sbt).cs (i:=k) qom))) ?_ U Ac;refine rP tb 2 U (o_y U (Bi (T U) (T U) runUnderlying27 sizeOf3 qom (by first|exact rfl|exact hA.b (i:=k) qom)) ?_ U Ac);refine o_y U (Lo U isAgg3 (by first|exact c_o|exact cell1 ((hA.mono sbt).cs (i:=i) qom))) ?_ U Ac;refine rP tb 1 U (A5 U (rO tb 2 U ?_));refine Ae (Aa U) (fun c32=> ?_) (fun c32=> ?_)
   ·refine rC tb 2 U (y_ (Aq (T U) Ao qom) ?_ U);refine rO tb 6 U (y_ (Aq (T U) Ao qom) ?_ U);refine rO tb 2 U ?_;refine An ((k+1,tm+1)) ?_ ?_ ⟨qat,qat,trivial⟩ ⟨Aa U,Aa U,Aa U,Aa U,Aa U,trivial⟩ ?_
    ·exact⟨by omega,by rw[cnt_take qom,if_pos qom,htm],by omega,by omega⟩
    ·first|omega|(simp only[];omega)
    ·exact sbt
   ·refine rC tb 5 U (y_ (Aq (T U) Ao qom) ?_ U);refine rO tb 2 U ?_;refine An ((k+1,tm)) ?_ ?_ ⟨qat,qat,trivial⟩ ⟨Aa U,Aa U,Aa U,Aa U,Aa U,trivial⟩ ?_
    ·exact⟨by omega,by rw[cnt_take qom,if_neg qom,htm,Int.add_zero],ht0,by omega⟩
    ·first|omega|(simp only[];omega)
    ·exact sbt
  ·obtain rfl:k=ls.length:=by omega
   have hcl:=cnt_le ls (gd ls i);have hc0:=cntI_nonneg (toInts ls) (gd ls i);rw[List.take_length] at htm;have hmul:=Jg (a:=tm) (A:=2400) qom ha;refine rC tb 2 U (Af (rX tb 3 U (Bg 22 [(0,true),(1,true),(2,true),(3,true),(4,true),(5,true),(6,true),(7,true),(8,true),(9,true),(10,true),(11,true),(12,true),(13,true),(14,true),(15,true),(16,true),(17,true),(18,true),(19,true),(20,true),(21,true)] _ mixd qkr sb0 ?_ A7)));refine rP tb 3 U (o_y U (Bi (T U) (T U) runUnderlying27 sizeOf3 qom (by first|exact rfl|exact hA.b (i:=k) qom|exact hA.b (i:=i) qom)) ?_ U Ac);refine o_y U (Lo U isAgg3 (by first|exact c_o|exact cell1 ((hA.mono sbt).cs (i:=i) qom))) ?_ U Ac;refine o_y U (Lq U U runUnderlying27 sizeOf3 qom (by first|exact rfl|exact hA.b (i:=k) qom|exact hA.b (i:=i) qom|exact hL.b (i:=(gd ls i)) qom)) ?_ U Ac;refine o_y U (Lo U isAgg3 (by first|exact c_o|exact cell1 ((hL.mono sbt).cs (i:=(gd ls i)) qom))) ?_ U Ac;refine rP tb 2 U (o_y U (Ei (T U) (T U) qom) ?_ U Ac);refine o_y U (Aq (T U) (T U) qom) ?_ U Ac;refine rP tb 1 U (o_y U (Lo U isAgg23 qco) ?_ U Ac);refine rP tb 2 U (o_y U (Bi (T U) (T U) runUnderlying27 sizeOf3 qom (by first|exact rfl|exact hA.b (i:=k) qom|exact hA.b (i:=i) qom)) ?_ U Ac);refine o_y U (Lo U isAgg3 (by first|exact c_o|exact cell1 ((hA.mono sbt).cs (i:=i) qom))) ?_ U Ac;refine o_y U (Lq U U runUnderlying23 sizeOf61 qom (by first|exact rfl|exact hA.b (i:=k) qom|exact hA.b (i:=i) qom|exact hL.b (i:=(gd ls i)) qom|exact hn.links.b (i:=(gd ls i)) qom)) ?_ U Ac;refine rP tb 1 U (o_y U (Lo U isAgg3 (by first|exact c_o|exact c_m (hn.links.f (i:=(gd ls i)) (j:=2) qom U))) ?_ U Ac);refine o_y U (Ei Ao (T U) qom) ?_ U Ac;refine rP tb 1 U (A5 U (kO tb 2 [1,2,3,4,9,56] rfl U ?_));refine Ae (Aa U) (fun c56=> ?_) (fun c56=> ?_)
   ·refine rC tb 8 U (Aw (rX tb 2 U (Ai U (Ll U) ?_)));exact⟨_,⟨vbool (by
      have hns: ¬ (takeF n a ls ld).isSome=true:=fun h=>by
       have:=htk.1 h _ (Ag (l:=ls) (i:=i) qom);rw[← htm] at this;omega
      cases hh:(takeF n a ls ld).isSome
      ·rfl
      ·exact absurd hh hns),rfl⟩,sbt⟩
   ·refine rC tb 5 U (y_ (Aq (T U) Ao qom) ?_ U);refine rO tb 2 U ?_;refine An (i+1) ?_ ?_ ⟨qat,trivial⟩ ⟨Aa U,Aa U,Aa U,Aa U,trivial⟩ ?_
    ·refine⟨by omega,fun j hj=> ?_⟩
     by_cases e:j=i
     ·subst e;rw[← htm];omega
     ·exact hno j qom
    ·omega
    ·exact sbt
 ·refine rC tb 2 U (Af (rX tb 8 U (Ai U (Ll U) ?_)));exact⟨_,⟨vbool (by
    rw[htk.2 fun k hk=>by
     obtain⟨j,hj,e⟩:=List.getElem_of_mem hk;rw[← Ar hj] at e;subst e;exact hno j qom]
    rfl),rfl⟩,sbt⟩
theorem D5 (a0:Option Addr)(a0n a0c:Nat)(a1:Int)(w:World):(Instr.build 77 #[(0, .slice a0 a0n a0c),(1, .int .i64 a1)]).run Tryz.prog w= .ok (.agg #[.slice a0 a0n a0c, .int .i64 a1]) w:=by kernel_rfl
def pgo (nw:Lm):Bool→List Lm→List Lm
 |dn,[]=>if dn then [] else [nw]
 |dn,s::r=>if 0<cmpL s.l nw.l then (if dn then s::pgo nw dn r else nw::s::pgo nw true r) else if cmpL s.l nw.l=0 then ⟨nw.q,nw.c,nw.l,s.p+1⟩::pgo nw true r else s::pgo nw dn r
theorem pgo_gt {nw s:Lm}{r:List Lm}(h:0<cmpL s.l nw.l):pgo nw false (s::r)=nw::s::pgo nw true r:=by
 rw[pgo,if_pos h];rfl
theorem pgo_gt2 {nw s:Lm}{r:List Lm}(h:0<cmpL s.l nw.l):pgo nw true (s::r)=s::pgo nw true r:=by
 rw[pgo,if_pos h];rfl
theorem pgo_eq {nw s:Lm}{r:List Lm}{dn:Bool}(h:cmpL s.l nw.l=0):pgo nw dn (s::r)=⟨nw.q,nw.c,nw.l,s.p+1⟩::pgo nw true r:=by
 rw[pgo,if_neg qom,if_pos h]
theorem pgo_lt {nw s:Lm}{r:List Lm}{dn:Bool}(h: ¬ 0<cmpL s.l nw.l)(h2: ¬ cmpL s.l nw.l=0):pgo nw dn (s::r)=s::pgo nw dn r:=by
 rw[pgo,if_neg h,if_neg h2]
theorem pgo_true {nw:Lm}:∀ {l:List Lm},(∀ s∈l,¬ cmpL s.l nw.l=0)→pgo nw true l=l
 |[],_=>rfl
 |s::l,h=>by
  have ih:=pgo_true (nw:=nw) (l:=l) fun x hx=>h x (by simp[hx])
  by_cases h1:0<cmpL s.l nw.l
  ·rw[pgo_gt2 h1,ih]
  ·rw[pgo_lt h1 (h s (by simp)),ih]
theorem pgo_put {nw:Lm}{ls:List Nat}(hn:nw.l=toInts ls)(hp:nw.p=1):∀ {l:List Lm} {own:List Sha},SrtS own→l.map Lm.lan=own.map Sha.lan→(pgo nw false l).map Lm.lan=(putS ls own).map Sha.lan
 |[],[],_,_=>by
  show [nw.lan]=[(⟨ls,1⟩:Sha).lan];unfold Lm.lan Sha.lan;rw[hn,hp];rfl
 |[],_::_,_,h=>by cases h
 |_::_,[],_,h=>by cases h
 |s::l,t::own,hs,h=>by
  have hs':=List.pairwise_cons.1 hs;simp only[List.map_cons,List.cons.injEq] at h;obtain⟨h1,h2⟩:=h;have hl:s.l=toInts t.l:=congrArg Lan.l h1;have hq:s.p=(t.p:Int):=congrArg Lan.p h1;have hnw:nw.lan=(⟨ls,1⟩:Sha).lan:=by
   unfold Lm.lan Sha.lan;rw[hn,hp];rfl
  have hrest:∀ x∈l,∃ u∈own,x.l=toInts u.l:=fun x hx=>by
   have:x.lan∈own.map Sha.lan:=by rw[← h2];exact List.mem_map.2 ⟨x,hx,rfl⟩
   obtain⟨u,hu,e⟩:=List.mem_map.1 this;exact⟨u,hu,(congrArg Lan.l e).symm⟩
  unfold putS
  by_cases e:t.l=ls
  ·have hc:cmpL s.l nw.l=0:=by rw[hl,hn,e];exact Hz _
   rw[if_pos e,pgo_eq hc,pgo_true fun x hx=> ?_]
   ·rw[List.map_cons,List.map_cons,h2]
    congr 1
    show (⟨nw.l,s.p+1⟩:Lan)=⟨toInts ls,((t.p+1:Nat):Int)⟩;rw[hn,hq];rfl
   ·obtain⟨u,hu,e2⟩:=hrest x hx;intro hz;have h5:=hs'.1 u hu;rw[lxB_cmp,e] at h5;rw[e2,hn] at hz;have h6:=cmpL_lt.1 h5;omega
  ·rw[if_neg e]
   by_cases hlx:putS.lxB ls t.l=true
   ·have hc:0<cmpL s.l nw.l:=by
     rw[hl,hn];exact cmpL_lt.1 (lxB_cmp.1 hlx)
    rw[if_pos hlx,pgo_gt hc,pgo_true fun x hx=> ?_]
    ·simp only[List.map_cons,h2,hnw,h1]
    ·obtain⟨u,hu,e2⟩:=hrest x hx;intro hz;have h5:=F9 hlx (hs'.1 u hu);rw[lxB_cmp] at h5;rw[e2,hn] at hz;have h6:=cmpL_lt.1 h5;omega
   ·have hc1: ¬ 0<cmpL s.l nw.l:=fun h=>hlx (by rw[lxB_cmp,← hl,← hn];exact cmpL_lt.2 h)
    have hc2: ¬ cmpL s.l nw.l=0:=fun h=>by
     rw[hl,hn] at h;exact e (toInts_inj (cmpL_eq0 h))
    rw[if_neg hlx,pgo_lt hc1 hc2,List.map_cons,List.map_cons,h1,pgo_put hn hp hs'.2 h2]
theorem rput_s {w0:World}{H:List (Nat × Obj)}(l:List Lm)(q:Option Addr)(c:Nat)(hA:Arr w0 H q 2 encLm l)(hm:∀ s∈l,LmM w0 H s)(hl:l.length≤1000)(hpk:∀ s∈l,0≤s.p∧s.p≤1000)(nw:Lm)(hp:nw.p=1)(hn:LmM w0 H nw)(ln:Nat)(hln:ln=nw.l.length):
  FSpec Tryz.prog w0 68 #[.slice q l.length c, .slice nw.q ln nw.c] H (fun v H'=>∃ d:Sl,(v=slV d (pgo nw false l).length∧SlOk d (pgo nw false l).length 2)∧H'=slH d ((pgo nw false l).flatMap encLm) 77++H):=by
 refine Ap Tryz.func68 U ntmps68 U ?_;subst hln;have henc:encLm nw=[.slice nw.q nw.l.length nw.c, .int .i64 1]:=by show [_,Value.int .i64 nw.p]=_;rw[hp]
 refine rD tb 22 U ?_;refine Ba (X:=Nat × Bool × List Lm × Sl) (V:=fun ⟨i,dn,out,d⟩=>[(7, .int .i64 (i:Nat)),(6, .bool dn),(5,slV d out.length)]) (C:=[(0,_),(1,_)]) (G:=fun ⟨i,dn,out,d⟩=>slH d (out.flatMap encLm) 77++H) (φ:=fun ⟨i,dn,out,d⟩=>i≤l.length∧SlOk d out.length 2∧out++pgo nw dn (l.drop i)=pgo nw false l∧out.length≤2*i) (μ:=fun ⟨i,dn,out,d⟩=>l.length - i) (x0:=(0,false,[], .nil)) ?_ ⟨Aa rfl,Aa rfl,trivial⟩ ⟨qat,qat,qat,trivial⟩ sb0 ?_
 ·exact⟨Nat.zero_le _,rfl,rfl,Nat.zero_le _⟩
 rintro⟨i,dn,out,d⟩ ⟨hi,hd,heq,hol⟩;refine rD tb 9 U ?_;refine Ae (Aa U) (fun c12=> ?_) (fun c12=> ?_)
 ·have hdr:l.drop i=gd l i::l.drop (i+1):=by rw[List.drop_eq_getElem_cons qom,Ar qom]
  rw[hdr] at heq;have hsm:=hm _ (Ag (l:=l) (i:=i) qom);have hsp:=hpk _ (Ag (l:=l) (i:=i) qom);refine rC tb 8 U (y_ (Lq U U runUnderlying79 sizeOf77 qom (by first|exact rfl|exact hA.b (i:=i) qom)) ?_ U);refine rO tb 1 U (y_ (Lo U isAgg27 (by first|exact c_o|exact c_m (hA.f0 (i:=i) qom U))) ?_ U);refine rO tb 1 U (y_ (Ax (qe2 U U) call53 (fun H' hs=>rcmp_s (gd l i).l nw.l _ _ _ _ (hsm.a.mono (stn hs)) (hn.a.mono (stn hs)) hsm.n hn.n)) (rO tb 9 U ?_) U);refine A4 (s:=24) (Aa U) (fun c24=> ?_) (fun c24=> ?_)
  ·refine rO tb 1 U ?_
   first|refine A6 (Bc (T U)) U (Az U U (Aa U)) ?_|refine A6 (By (T U)) U (Az U U (Aa U)) ?_
   refine rO tb 3 U ?_
   first|refine Ae (Aa U) (fun c27=> ?_) (fun c27=> ?_)|refine Bm (Aa U) (fun c27=> ?_) (fun c27=> ?_)
   ·refine rC tb 4 U (y_ (Ay (.cons (T U) (.cons Ao .nil)) (D5 _ _ _ _)) (e_ (Ah (.cons (T U) .nil) (Cx _ _ _ _)) ?_ U) U);rintro _ _ ⟨n31,rfl,rfl⟩;refine e_ (A9 (nw:Lm) (by':=32) (enc:=encLm) (l:=out) (d:=d) qlc (T U) (T U) runUnderlying79 runUnderlying79 sizeOf77 typeInfo77 U zeroValue77 U (fun _=>rfl) U hd qde qom (hn:=by rw[henc];exact A1)) ?_ U;rintro _ _ ⟨d2,rfl,hd2,rfl⟩;refine kO tb 7 [0,1,5,6,7,8] rfl U (rG tb 6 U ?_);refine Ae (Aa U) (fun c34=> ?_) (fun c34=> ?_)
    ·exfalso;omega
    ·refine rC tb 4 U (y_ (Lq U U runUnderlying79 sizeOf77 qom (by first|exact rfl|exact hA.b (i:=i) qom)) ?_ U);refine y_ (Lp U isAgg77 sizeOf77 U (by exact(hA.mono sbt).cs (i:=i) qom)) ?_ U;refine e_ (Ah (.cons (T U) .nil) (Cx _ _ _ _)) ?_ U;rintro _ _ ⟨n51,rfl,rfl⟩;refine e_ (A9 (gd l i:Lm) (by':=32) (enc:=encLm) (l:=out++[nw]) (d:=d2) qlc (T U) (T U) runUnderlying79 runUnderlying79 sizeOf77 typeInfo77 U zeroValue77 U (fun _=>rfl) U hd2 qde (by first|omega|(simp only[List.length_append,List.length_cons,List.length_nil];omega))) ?_ U;rintro _ _ ⟨d3,rfl,hd3,rfl⟩;refine rO tb 6 U (y_ (Aq (T U) Ao qom) ?_ U);refine rO tb 2 U ?_;refine An ((i+1,true,out++[nw]++[gd l i],d3)) ?_ ?_ ⟨qat,qat,qat,trivial⟩ ⟨Aa U,Aa U,trivial⟩ ?_
     ·have hdn:dn=false:=by simpa using c27
      subst hdn;exact⟨by omega,hd3,by rw[← heq,pgo_gt c24];simp,by simp;omega⟩
     ·first|omega|(simp only[];omega)
     ·exact sbt
   ·refine rC tb 8 U ?_;refine Ae (Aa U) (fun c34=> ?_) (fun c34=> ?_)
    ·exfalso;omega
    ·refine rC tb 4 U (y_ (Lq U U runUnderlying79 sizeOf77 qom (by first|exact rfl|exact hA.b (i:=i) qom)) ?_ U);refine y_ (Lp U isAgg77 sizeOf77 U (by exact(hA.mono sbt).cs (i:=i) qom)) ?_ U;refine e_ (Ah (.cons (T U) .nil) (Cx _ _ _ _)) ?_ U;rintro _ _ ⟨n51,rfl,rfl⟩;refine e_ (A9 (gd l i:Lm) (by':=32) (enc:=encLm) (l:=out) (d:=d) qlc (T U) (T U) runUnderlying79 runUnderlying79 sizeOf77 typeInfo77 U zeroValue77 U (fun _=>rfl) U hd qde qom) ?_ U;rintro _ _ ⟨d2,rfl,hd2,rfl⟩;refine kO tb 4 [0,1,5,6,7] rfl U (rG tb 2 U (y_ (Aq (T U) Ao qom) ?_ U));refine rO tb 2 U ?_;refine An ((i+1,dn,out++[gd l i],d2)) ?_ ?_ ⟨qat,qat,qat,trivial⟩ ⟨Aa U,Aa U,trivial⟩ ?_
     ·have hdn:dn=true:=by simpa using c27
      subst hdn;exact⟨by omega,hd2,by rw[← heq,pgo_gt2 c24];simp,by simp;omega⟩
     ·first|omega|(simp only[];omega)
     ·exact sbt
  ·refine rO tb 14 U ?_;refine Ae (Aa U) (fun c34=> ?_) (fun c34=> ?_)
   ·refine rC tb 6 U (y_ (Lq U U runUnderlying79 sizeOf77 qom (by first|exact rfl|exact hA.b (i:=i) qom)) ?_ U);refine rO tb 1 U (y_ (Lo U isAgg3 (by first|exact c_o|exact c_m (hA.f (i:=i) (j:=1) qom U))) ?_ U);refine y_ (Aq (T U) Ao qom) ?_ U;refine y_ (Ay (.cons (T U) (.cons (T U) .nil)) (D5 _ _ _ _)) (e_ (Ah (.cons (T U) .nil) (Cx _ _ _ _)) ?_ U) U;rintro _ _ ⟨n44,rfl,rfl⟩;refine e_ (A9 (⟨nw.q,nw.c,nw.l,(gd l i).p+1⟩:Lm) (by':=32) (enc:=encLm) (l:=out) (d:=d) qlc (T U) (T U) runUnderlying79 runUnderlying79 sizeOf77 typeInfo77 U zeroValue77 U (fun _=>rfl) U hd qde qom) ?_ U;rintro _ _ ⟨d2,rfl,hd2,rfl⟩;refine kO tb 3 [0,1,5,7] rfl U (rG tb 7 U (y_ (Aq (T U) Ao qom) ?_ U));refine rO tb 2 U ?_;refine An ((i+1,true,out++[⟨nw.q,nw.c,nw.l,(gd l i).p+1⟩],d2)) ?_ ?_ ⟨qat,qat,qat,trivial⟩ ⟨Aa U,Aa U,trivial⟩ ?_
    ·exact⟨by omega,hd2,by rw[← heq,pgo_eq c34];simp,by simp;omega⟩
    ·first|omega|(simp only[];omega)
    ·exact sbt
   ·refine rC tb 4 U (y_ (Lq U U runUnderlying79 sizeOf77 qom (by first|exact rfl|exact hA.b (i:=i) qom)) ?_ U);refine y_ (Lp U isAgg77 sizeOf77 U (by exact(hA.mono sbt).cs (i:=i) qom)) ?_ U;refine e_ (Ah (.cons (T U) .nil) (Cx _ _ _ _)) ?_ U;rintro _ _ ⟨n51,rfl,rfl⟩;refine e_ (A9 (gd l i:Lm) (by':=32) (enc:=encLm) (l:=out) (d:=d) qlc (T U) (T U) runUnderlying79 runUnderlying79 sizeOf77 typeInfo77 U zeroValue77 U (fun _=>rfl) U hd qde qom) ?_ U;rintro _ _ ⟨d2,rfl,hd2,rfl⟩;refine kO tb 4 [0,1,5,6,7] rfl U (rG tb 2 U (y_ (Aq (T U) Ao qom) ?_ U));refine rO tb 2 U ?_;refine An ((i+1,dn,out++[gd l i],d2)) ?_ ?_ ⟨qat,qat,qat,trivial⟩ ⟨Aa U,Aa U,trivial⟩ ?_
    ·exact⟨by omega,hd2,by rw[← heq,pgo_lt c24 c34];simp,by simp;omega⟩
    ·first|omega|(simp only[];omega)
    ·exact sbt
 ·obtain rfl:i=l.length:=by omega
  rw[List.drop_length] at heq;refine rC tb 2 U (Af (rX tb 6 U ?_))
  first|refine A6 (Bc (T U)) U Ac ?_|refine A6 (By (T U)) U Ac ?_
  refine rO tb 2 U ?_
  first|refine Ae (Aa U) (fun c54=> ?_) (fun c54=> ?_)|refine Bm (Aa U) (fun c54=> ?_) (fun c54=> ?_)
  ·refine rC tb 3 U (y_ (Ay (.cons (T U) (.cons Ao .nil)) (D5 _ _ _ _)) (e_ (Ah (.cons (T U) .nil) (Cx _ _ _ _)) ?_ U) U);rintro _ _ ⟨n58,rfl,rfl⟩;refine e_ (A9 (nw:Lm) (by':=32) (enc:=encLm) (l:=out) (d:=d) qlc (T U) (T U) runUnderlying79 runUnderlying79 sizeOf77 typeInfo77 U zeroValue77 U (fun _=>rfl) U hd qde qom (hn:=by rw[henc];exact A1)) ?_ U;rintro _ _ ⟨d2,rfl,hd2,rfl⟩;refine rO tb 10 U (Ai U (Ll U) ?_);have hdn:dn=false:=by simpa using c54
   subst hdn;rw[← heq];exact⟨_,⟨d2,⟨rfl,hd2⟩,rfl⟩,sbt⟩
  ·refine rC tb 9 U (Ai U (Ll U) ?_);have hdn:dn=true:=by simpa using c54
   subst hdn;have hf:pgo nw false l=out:=by rw[← heq];exact List.append_nil _
   rw[hf];exact⟨_,⟨d,⟨rfl,hd⟩,rfl⟩,sbt⟩
theorem zbd112_0_1 (a0:Option Addr)(a0n a0c:Nat)(a1:Int)(w:World):(Instr.build 112 #[(0, .slice a0 a0n a0c),(1, .int .i64 a1)]).run Tryz.prog w= .ok (.agg #[.slice a0 a0n a0c, .int .i64 a1]) w:=by kernel_rfl
theorem zbd112_1 (a0:Int)(w:World):(Instr.build 112 #[(1, .int .i64 a0)]).run Tryz.prog w= .ok (.agg #[.slice none 0 0, .int .i64 a0]) w:=by kernel_rfl
theorem rfindE_s {w0:World}{H:List (Nat × Obj)}(n:Nn)(f:Flr)(m:Mc)(he:Env w0 H n f m)(ho:EnvOk n f m)(x:Nat)(hx:x<n.nodes.length)(to:Nat){l:List Nat}{cl:Int}(hf:findF n f m.pl x to=(l,cl)):
  FSpec Tryz.prog w0 64 #[.agg (encNn n).toArray, .agg (encFl f).toArray, .agg (encMc m).toArray, .int .i64 (x:Int), .int .i64 (to:Int)] H (fun v H'=>∃ (q:Option Addr) (c:Nat) (M:List (Nat × Obj)),(v= .tuple #[.slice q l.length c, .int .i64 cl]∧∀ X,Arr w0 (M++X) q 1 encU l)∧H'=M++H):=by
 have h:=rfindX_s n f m he ho x hx to;rw[hf] at h;exact h
theorem rstuck_s {w0:World}{H:List (Nat × Obj)}(n:Nn)(hn:NetR w0 H n)(hok:NnOk n)(hcap:∀ x∈n.links,0≤x.cap∧x.cap≤1048576)(f:Flr)(hf:Arr w0 H f.q 1 encI f.links)(hfl:f.links.length≤1000000)(os:List Om)(os2:List Odr)(qo:Option Addr)(co:Nat)(hO:OsM w0 H qo os)(hoo:OsOk n os os2)(o:Odr)(ho:OdrOk n o)(om:Om)(hod:OdR om o)(ld:List Int)(hld:LdR n ld)(ql:Option Addr)(cl:Nat)(hL:Arr w0 H ql 1 encI ld)(m:Mc)(hm:McOk w0 H m)(hmpl:m.pl=mOf o.e):
  FSpec Tryz.prog w0 67 #[.agg (encNn n).toArray, .agg (encFl f).toArray, .slice qo os.length co, .slice ql n.links.length cl, .agg (encOm om).toArray, .agg (encMc m).toArray] H (fun v H'=>∃ d:Sl,(v= .agg #[slV d (stuckF n f os2 o ld).1.length, .int .i64 (stuckF n f os2 o ld).2]∧SlOk d (stuckF n f os2 o ld).1.length 1)∧H'=slH d ((stuckF n f os2 o ld).1.flatMap encI) 3++H):=by
 refine Ap Tryz.func67 U ntmps67 U ?_;have hfewL:=hok.fewL;have hmce:=ho.mce;have hpm:PMok m.pl:=by rw[hmpl];exact hmce.ok
 have hsr:Srt m.names:=show Srt m.pl.names by rw[hmpl];exact hmce.sr
 have hnl:m.names.length≤4611686018427387903:=(show m.pl.names.length≤4611686018427387903 by rw[hmpl];exact Nat.le_trans ho.nm qom);have hox:=ho.x;have hoa:0≤o.amt∧o.amt≤1048576:=⟨ho.a0,ho.a1⟩;obtain⟨l,c,hlc⟩:∃ l c,findF n f (mOf o.e) o.x o.y=(l,c):=⟨_,_,rfl⟩;have hll:=hld.len;rw[hod.eq];have hamt:(omO o om.m).amt=o.amt:=rfl;refine rD tb 2 U (e_ (Lt U cs_) ?_ U);rintro _ _ ⟨n6,rfl,rfl⟩;refine e_ (Lt U cs_) ?_ U;rintro _ _ ⟨n7,rfl,rfl⟩;refine e_ (Lt U cs_) ?_ U;rintro _ _ ⟨n10,rfl,rfl⟩;refine e_ (Lt U cs_) ?_ U;rintro _ _ ⟨n11,rfl,rfl⟩;refine e_ (Aj zeroValue112 cs_) ?_ U;rintro _ _ ⟨n12,rfl,rfl⟩;refine rO tb 4 U (y_ (Lp U isAgg26 sizeOf26 U qcs) ?_ U);refine y_ (Lp U isAgg29 sizeOf29 U qcs) ?_ U;refine y_ (Lp U isAgg68 sizeOf68 U qcs) ?_ U;refine rO tb 1 U (y_ (Lo U isAgg3 qco) ?_ U);refine rO tb 1 U (y_ (Lo U isAgg3 qco) ?_ U);refine e_ (Am (.cons (T U) (.cons (T U) (.cons (T U) (.cons (T U) (.cons (T U) .nil))))) call64 (rfindE_s n f m ⟨hn.mono sbt,hf.mono sbt,hm.mono sbt⟩ ⟨hok,by omega,hpm,hsr,hnl⟩ o.x hox o.y (l:=l) (cl:=c) (hf:=by rw[hmpl];exact hlc))) ?_ U;rintro _ _ ⟨qF,cF,Mf,⟨rfl,hFA⟩,rfl⟩;refine rO tb 14 U ?_;refine Ae (Aa U) (fun c30=> ?_) (fun c30=> ?_)
 ·have hst:stuckF n f os2 o ld=([],18):=by unfold stuckF;rw[hlc,if_neg c30]
  refine rC tb 2 U (y_ (Ay (.cons Ao .nil) (zbd112_1 _)) ?_ U);refine A0 (Ls U U sizeOf112) U Ac ?_;rintro _ _ ⟨rfl,rfl⟩;refine rO tb 4 U (Ai U (.cellA (Aa U) isAgg112 sizeOf112 U qcs .nil) ?_);rw[hst];exact⟨_,⟨.nil,⟨rfl,rfl⟩,rfl⟩,sbt⟩
 ·have hc0:(findF n f (mOf o.e) o.x o.y).2=0:=by rw[hlc];exact Classical.not_not.1 c30
  refine rC tb 14 U ?_;refine Ba (X:=Nat × Sl) (V:=fun ⟨k,d⟩=>[(16, .int .i64 (k:Nat)),(15,slV d (prcF n ld o.amt k).length)]) (C:=[(2,_),(3,_),(6,_),(7,_),(10,_),(12,_)]) (G:=fun ⟨k,d⟩=>slH d ((prcF n ld o.amt k).flatMap encI) 3++(Mf++((n12,Cl [.slice none 0 0, .int .i64 0] 112)::((n11,Cl (encMc m) 68)::((n10,Cl (encOm (omO o om.m)) 58)::((n7,Cl (encFl f) 29)::((n6,Cl (encNn n) 26)::H))))))) (φ:=fun ⟨k,d⟩=>k≤n.links.length∧SlOk d (prcF n ld o.amt k).length 1) (μ:=fun ⟨k,d⟩=>n.links.length - k) (x0:=(0, .nil)) ?_ ⟨Aa rfl,Aa rfl,Aa rfl,Aa rfl,Aa rfl,Aa rfl,trivial⟩ ⟨qat,qat,trivial⟩ sb0 ?_
  ·exact⟨Nat.zero_le _,rfl⟩
  rintro⟨k,d⟩ ⟨hk,hd⟩;refine rD tb 5 U (y_ (Lo U isAgg23 qco) ?_ U);refine rO tb 4 U ?_;refine Ae (Aa U) (fun c36=> ?_) (fun c36=> ?_)
  ·have hlv:=hld.rng k qom;have hcv:=hcap _ (Ag (l:=n.links) (i:=k) qom);refine rC tb 11 U (Bg 15 [(0,true),(1,true),(2,true),(3,true),(4,true),(5,true),(6,true),(7,true),(8,true),(9,true),(10,true),(11,true),(12,true),(13,true),(14,true)] _ mixd qkr sb0 ?_ A7);refine rP tb 2 U (o_y U (Lq U U runUnderlying27 sizeOf3 qom (by first|exact rfl|exact hL.b (i:=k) qom)) ?_ U Ac);refine o_y U (Lo U isAgg3 (by first|exact c_o|exact cell1 ((hL.mono sbt).cs (i:=k) qom))) ?_ U Ac;refine rP tb 1 U (o_y U (Lo U isAgg3 qco) ?_ U Ac);refine o_y U (Aq (T U) (T U) qom) ?_ U Ac;refine rP tb 1 U (o_y U (Lo U isAgg23 qco) ?_ U Ac);refine rP tb 1 U (o_y U (Lq U U runUnderlying23 sizeOf61 qom (by first|exact rfl|exact hL.b (i:=k) qom|exact hn.links.b (i:=k) qom)) ?_ U Ac);refine rP tb 1 U (o_y U (Lo U isAgg3 (by first|exact c_o|exact c_m (hn.links.f (i:=k) (j:=2) qom U))) ?_ U Ac);refine o_y U (Ei Ao (T U) qom) ?_ U Ac;refine rP tb 1 U (A5 U (rO tb 2 U ?_));refine Ae (Aa U) (fun c53=> ?_) (fun c53=> ?_)
   ·refine kC tb 4 [2,3,6,7,10,12,15,16,17] rfl U (rG tb 3 U (e_ (Ah (.cons (T U) .nil) (Dm _)) ?_ U));rintro _ _ ⟨n56,rfl,rfl⟩;refine e_ (A9 ((1:Int)) (by':=8) (enc:=encI) (l:=(prcF n ld o.amt k)) qlc (T U) (T U) runUnderlying27 runUnderlying27 sizeOf3 typeInfo3 U zeroValue3 U (fun _=>rfl) U hd qde (by have:=C7 n ld o.amt k;omega)) ?_ U;rintro _ _ ⟨d2,rfl,hd2,rfl⟩;refine rO tb 6 U (y_ (Aq (T U) Ao qom) ?_ U);refine rO tb 2 U ?_;have he:prcF n ld o.amt (k+1)=(prcF n ld o.amt k)++[1]:=by rw[H3,show capB n ld k o.amt=false from decide_eq_false qom];rfl
    refine An ((k+1,d2)) ?_ ?_ ⟨qat,(by first|exact Aa rfl|(refine Bf (Aa rfl) (vint ?_);omega)|(refine Bf (Aa rfl) ?_;simp;done)|(refine Bf (Aa rfl) ?_;exact by simp[prcF])),trivial⟩ ⟨Aa rfl,Aa rfl,Aa rfl,Aa rfl,Aa rfl,Aa rfl,trivial⟩ ?_
    ·exact⟨by omega,by rw[he];exact hd2⟩
    ·first|omega|(simp only[];omega)
    ·show (slH d2 ((prcF n ld o.amt (k+1)).flatMap encI) 3++_).Sublist _;rw[he];exact sbt
   ·refine rC tb 5 U (e_ (Ah (.cons (T U) .nil) (Dm _)) ?_ U);rintro _ _ ⟨n56,rfl,rfl⟩;refine e_ (A9 ((0:Int)) (by':=8) (enc:=encI) (l:=(prcF n ld o.amt k)) qlc (T U) (T U) runUnderlying27 runUnderlying27 sizeOf3 typeInfo3 U zeroValue3 U (fun _=>rfl) U hd qde (by have:=C7 n ld o.amt k;omega)) ?_ U;rintro _ _ ⟨d2,rfl,hd2,rfl⟩;refine kO tb 4 [2,3,6,7,10,12,15,16] rfl U (rG tb 2 U (y_ (Aq (T U) Ao qom) ?_ U));refine rO tb 2 U ?_;have he:prcF n ld o.amt (k+1)=(prcF n ld o.amt k)++[0]:=by rw[H3,show capB n ld k o.amt=true from decide_eq_true qom];rfl
    refine An ((k+1,d2)) ?_ ?_ ⟨qat,(by first|exact Aa rfl|(refine Bf (Aa rfl) (vint ?_);omega)|(refine Bf (Aa rfl) ?_;simp;done)|(refine Bf (Aa rfl) ?_;exact by simp[prcF])),trivial⟩ ⟨Aa rfl,Aa rfl,Aa rfl,Aa rfl,Aa rfl,Aa rfl,trivial⟩ ?_
    ·exact⟨by omega,by rw[he];exact hd2⟩
    ·first|omega|(simp only[];omega)
    ·show (slH d2 ((prcF n ld o.amt (k+1)).flatMap encI) 3++_).Sublist _;rw[he];exact sbt
  ·obtain rfl:k=n.links.length:=by omega
   refine rC tb 2 U (Af (rX tb 5 U (y_ (Lp U isAgg26 sizeOf26 U qcs) ?_ U)));refine y_ (Lp U isAgg29 sizeOf29 U qcs) ?_ U;refine rO tb 2 U (y_ (Ax (qe4 U U U U) call30 (fun H' hs=>rrefuted_s n (hn.mono (stn hs)) hok hcap f (hf.mono (stn hs)) hfl os os2 qo co (hO.mono (stn hs)) hoo (prcF n ld o.amt n.links.length) (slQ d) (slC d) ((Av (w0:=w0) (d:=d) (enc:=encI) (sz:=1) (e:=3) (l:=(prcF n ld o.amt n.links.length)) (X:=[]) (fun _=>rfl) hd).mono (by rw[List.append_nil];exact(List.sublist_append_left _ _).trans hs)) (by rw[C7];omega))) ?_ U);refine rO tb 2 U ?_
   first|refine Ae (Aa U) (fun c62=> ?_) (fun c62=> ?_)|refine Bm (Aa U) (fun c62=> ?_) (fun c62=> ?_)
   ·have hst:stuckF n f os2 o ld=((prcF n ld o.amt n.links.length),19):=by unfold stuckF;rw[if_pos hc0,if_pos c62]
    refine rC tb 3 U (y_ (Ay (.cons (T U) (.cons Ao .nil)) (zbd112_0_1 _ _ _ _)) ?_ U);refine A0 (Ls U U sizeOf112) U Ac ?_;rintro _ _ ⟨rfl,rfl⟩;refine rO tb 4 U (Ai U (.cellA (Aa U) isAgg112 sizeOf112 U qcs .nil) ?_);rw[hst];exact⟨_,⟨d,⟨rfl,hd⟩,rfl⟩,sbt⟩
   ·have hst:stuckF n f os2 o ld=((prcF n ld o.amt n.links.length),27):=by unfold stuckF;rw[if_pos hc0,if_neg (by rw[c62];decide)]
    refine rC tb 5 U (y_ (Ay (.cons (T U) (.cons Ao .nil)) (zbd112_0_1 _ _ _ _)) ?_ U);refine A0 (Ls U U sizeOf112) U Ac ?_;rintro _ _ ⟨rfl,rfl⟩;refine rO tb 3 U (Ai U (.cellA (Aa U) isAgg112 sizeOf112 U qcs .nil) ?_);rw[hst];exact⟨_,⟨d,⟨rfl,hd⟩,rfl⟩,sbt⟩
theorem Cp {α:Type}{w0:World}{H:List (Nat × Obj)}{q:Option Addr}{sz:Nat}{enc:α→List Value}:Arr w0 H q sz enc []:=fun _ _ h=>by cases h
theorem pgo_mem {nw:Lm}:∀ {l:List Lm} {dn:Bool} {x:Lm},x∈pgo nw dn l→(x=nw∨∃ s∈l,x=⟨nw.q,nw.c,nw.l,s.p+1⟩)∨x∈l
 |[],dn,x,h=>by
  rw[pgo] at h;cases dn
  ·simp at h;exact .inl (.inl h)
  ·simp at h
 |s::l,dn,x,h=>by
  have ih:∀ dn,x∈pgo nw dn l→(x=nw∨∃ t∈s::l,x=⟨nw.q,nw.c,nw.l,t.p+1⟩)∨x∈s::l:=fun dn h=>by
   rcases pgo_mem h with (h|⟨t,ht,h⟩)|h
   ·exact .inl (.inl h)
   ·exact .inl (.inr ⟨t,List.mem_cons_of_mem _ ht,h⟩)
   ·exact .inr (List.mem_cons_of_mem _ h)
  rw[pgo] at h
  split at h
  ·cases dn
   ·rcases List.mem_cons.1 h with h|h
    ·exact .inl (.inl h)
    ·rcases List.mem_cons.1 h with h|h
     ·exact .inr (h ▸ List.mem_cons_self)
     ·exact ih _ h
   ·rcases List.mem_cons.1 h with h|h
    ·exact .inr (h ▸ List.mem_cons_self)
    ·exact ih _ h
  ·split at h
   ·rcases List.mem_cons.1 h with h|h
    ·exact .inl (.inr ⟨s,List.mem_cons_self,h⟩)
    ·exact ih _ h
   ·rcases List.mem_cons.1 h with h|h
    ·exact .inr (h ▸ List.mem_cons_self)
    ·exact ih _ h
theorem pgo_len {nw:Lm}:∀ (l:List Lm) (dn:Bool),(pgo nw dn l).length≤l.length+1
 |[],dn=>by rw[pgo];cases dn<;>simp
 |s::l,dn=>by
  have h:=pgo_len (nw:=nw) l dn;have h2:=pgo_lt1 (nw:=nw) l;rw[pgo]
  split
  ·cases dn
   ·show (nw::s::pgo nw true l).length≤_;simp only[List.length_cons];omega
   ·show (s::pgo nw true l).length≤_;simp only[List.length_cons];omega
  ·split<;>simp only[List.length_cons]<;>omega
where
 pgo_lt1 {nw:Lm}:∀ (l:List Lm),(pgo nw true l).length≤l.length
  |[]=>by rw[pgo];simp
  |s::l=>by
   have h:=pgo_lt1 (nw:=nw) l;rw[pgo]
   split
   ·show (s::pgo nw true l).length≤_;simp only[List.length_cons];omega
   ·split<;>simp only[List.length_cons]<;>omega
theorem ocs {w0:World}{H:List (Nat × Obj)}{q:Option Addr}{os:List Om}{i:Nat}{o:Odr}(hO:OsM w0 H q os)(hod:OdR (gd os i) o)(hi:i<os.length):Cells w0 H (bq q) (oq q+i*6) (encOm (omO o (gd os i).m)):=by
 have h:=hO.a.cs hi;rw[hod.eq] at h;exact h
structure LsR (w0:World) (M:List (Nat × Obj)) (k:Nat) (l:List Lm) (d:Sl) (srt:List Sha):Prop where
 a:Arr w0 M (slQ d) 2 encLm l
 m:∀ s∈l,LmM w0 M s
 p:∀ s∈l,0≤s.p∧s.p≤k
 n:l.length≤k
 e:l.map Lm.lan=srt.map Sha.lan
theorem LsR.put {w0:World}{M M':List (Nat × Obj)}{k:Nat}{l:List Lm}{d:Sl}{srt:List Sha}(h:LsR w0 M k l d srt)(hs:SrtS srt){q:Option Addr}{c:Nat}{ls:List Nat}(hM:M.Sublist M')(hl:LmM w0 M' ⟨q,c,toInts ls,1⟩){d2:Sl}(ha:Arr w0 M' (slQ d2) 2 encLm (pgo ⟨q,c,toInts ls,1⟩ false l)):LsR w0 M' (k+1) (pgo ⟨q,c,toInts ls,1⟩ false l) d2 (putS ls srt):=by
 refine⟨ha,fun s x=> ?_,fun s x=> ?_,?_,pgo_put U U hs h.e⟩
 ·rcases pgo_mem x with (rfl|⟨t,_,rfl⟩)|x
  ·exact hl
  ·exact⟨hl.a,hl.n⟩
  ·exact(h.m s x).mono hM
 ·rcases pgo_mem x with (rfl|⟨t,ht,rfl⟩)|x
  ·exact⟨by show (0:Int)≤1;decide,by show (1:Int)≤_;omega⟩
  ·have:=h.p t ht;exact⟨by show (0:Int)≤t.p+1;omega,by show t.p+1≤((k+1:Nat):Int);omega⟩
  ·have:=h.p s x;omega
 ·have:=pgo_len (nw:=⟨q,c,toInts ls,1⟩) l false;have:=h.n;omega
theorem rroute_s {w0:World}{H:List (Nat × Obj)}(n:Nn)(hn:NetR w0 H n)(hok:NnOk n)(hcap:∀ x∈n.links,0≤x.cap∧x.cap≤1048576)(f:Flr)(hf:Arr w0 H f.q 1 encI f.links)(hfl:f.links.length≤1000000)(os:List Om)(os2:List Odr)(qo:Option Addr)(co:Nat)(hO:OsM w0 H qo os)(hoo:OsOk n os os2):
  FSpec Tryz.prog w0 28 #[.agg (encNn n).toArray, .agg (encFl f).toArray, .slice qo os.length co] H (fun v H'=>∃ M:List (Nat × Obj),RteV w0 (M++H) n f os2 v∧H'=M++H):=by
 refine Ap Tryz.func28 U ntmps28 U ?_;have hfewL:=hok.fewL;have hno:=hoo.few;have hol:=hoo.r.len;refine rD tb 2 U (e_ (Lt U cs_) ?_ U);rintro _ _ ⟨n3,rfl,rfl⟩;refine e_ (Lt U cs_) ?_ U;rintro _ _ ⟨n4,rfl,rfl⟩;refine rO tb 7 U (y_ (Lp U isAgg26 sizeOf26 U qcs) ?_ U);refine e_ (Am (.cons (T U) (.cons Ao (.cons Ao .nil))) call25 (rload_s n (hn.mono sbt) qom [] none 0 ⟨Cp,by simp,fun _ h=>(by cases h)⟩ [] none 0 ⟨Cp,by simp,fun _ h=>(by cases h)⟩ ⟨rfl,by simp,fun _ h=>(by cases h),fun _ h=>(by cases h)⟩)) ?_ U;rintro _ _ ⟨dl,⟨rfl,hdl⟩,rfl⟩;rw[List.length_replicate] at hdl ⊢;refine rO tb 15 U ?_;refine Ba (X:=Nat × List Int × List Lr × List (List Sha) × Sl × List (Nat × Obj)) (V:=fun ⟨i,ld0,rows,outS,dO,Mx0⟩=>[(11, .int .i64 (i:Nat)),(10,slV dO rows.length)]) (C:=[(2,_),(3,_),(4,_),(9,_)]) (G:=fun ⟨i,ld0,rows,outS,dO,Mx0⟩=>Mx0++(slH dl (ld0.flatMap encI) 3++(slH dO (rows.flatMap encLr) 79++((n4,Cl (encFl f) 29)::((n3,Cl (encNn n) 26)::H))))) (φ:=fun ⟨i,ld0,rows,outS,dO,Mx0⟩=>i≤os.length∧LdR n ld0∧(SlOk dO rows.length 1∧rows.length=i)∧rows.map rowOf=outS.map (List.map Sha.lan)∧(∀ r∈rows,LrM w0 Mx0 r)∧goR n f (os2.drop i) ld0 outS=routeF n f os2) (μ:=fun ⟨i,ld0,rows,outS,dO,Mx0⟩=>os.length - i) (x0:=(0,List.replicate n.links.length 0,[],[], .nil,[])) ?_ ⟨Aa rfl,Aa rfl,Aa rfl,Aa rfl,trivial⟩ ⟨qat,qat,trivial⟩ sb0 ?_
 ·exact⟨Nat.zero_le _,ldr_zero n,⟨rfl,rfl⟩,rfl,fun r hr=>(by cases hr),rfl⟩
 rintro⟨i,ld0,rows,outS,dO,Mx0⟩ ⟨hi,hldr0,⟨hdO,hrl⟩,hrw,hrm,hgo⟩;refine rD tb 9 U ?_;refine Ae (Aa U) (fun c26=> ?_) (fun c26=> ?_)
 ·have hod:=hoo.r.at' i qom;have ho1:=hoo.ok _ (Ag (l:=os2) (i:=i) qom);have hmM:RxM w0 H (gd os i).m:=hO.m _ (Ag qom);have hdr:os2.drop i=gd os2 i::os2.drop (i+1):=by rw[List.drop_eq_getElem_cons qom,Ar qom]
  rw[hdr] at hgo;have hamt:(omO (gd os2 i) (gd os i).m).amt=(gd os2 i).amt:=rfl;have hoa:0≤(gd os2 i).amt∧(gd os2 i).amt≤1048576:=⟨ho1.a0,ho1.a1⟩;refine rC tb 8 U (y_ (Lq U U runUnderlying30 sizeOf58 qom (by first|exact rfl|exact hO.a.b (i:=i) qom)) ?_ U);refine y_ (Lp U isAgg58 sizeOf58 U (by exact ocs (hO.mono sbt) hod qom)) ?_ U;refine e_ (Aj zeroValue58 cs_) ?_ U;rintro _ _ ⟨n12,rfl,rfl⟩;refine A0 (Ls U U sizeOf58) U Ac ?_;rintro _ _ ⟨rfl,rfl⟩;refine rO tb 5 U ?_;refine y_ (Lp U isAgg56 sizeOf56 U (by exact Bj (l:=encOm (omO (gd os2 i) (gd os i).m)) (o:=3) (k:=3) fdd)) ?_ U;refine e_ (Am (qe1 U) call45 (rbuildX_s (gd os i).m (gd os2 i).e hod.e (hmM.mono sbt) ho1.lv (hoo.z _ (Ag qom)))) ?_ U;rintro _ _ ⟨mc,Mb,⟨rfl,hmcX,hmpl⟩,rfl⟩;have hmc2:McOk w0 Mb mc:=by have:=hmcX [];rwa [List.append_nil] at this
  have hmpl:mc.pl=mOf (gd os2 i).e:=hmpl;have hmce:=ho1.mce;have hpm:PMok mc.pl:=by rw[hmpl];exact hmce.ok
  have hsr:Srt mc.names:=show Srt mc.pl.names by rw[hmpl];exact hmce.sr
  have hnl:mc.names.length≤4611686018427387903:=(show mc.pl.names.length≤4611686018427387903 by rw[hmpl];exact Nat.le_trans ho1.nm qom);refine rO tb 3 U (e_ (Aj zeroValue68 cs_) ?_ U);rintro _ _ ⟨n13,rfl,rfl⟩;refine A0 (Ls U U sizeOf68) U Ac ?_;rintro _ _ ⟨rfl,rfl⟩;refine rO tb 15 U ?_;refine Ba (X:=Nat × List Lm × Sl × List Sha × List Int × List (Nat × Obj)) (V:=fun ⟨k,lanes,dp,srt,ld,Mx⟩=>[(16, .int .i64 (k:Nat)),(15,slV dp lanes.length)]) (C:=[(2,_),(3,_),(4,_),(9,_),(10,_),(11,_),(12,_),(13,_)]) (G:=fun ⟨k,lanes,dp,srt,ld,Mx⟩=>Mx++((n13,Cl (encMc mc) 68)::(Mb++((n12,Cl (encOm (omO (gd os2 i) (gd os i).m)) 58)::(Mx0++(slH dl (ld.flatMap encI) 3++(slH dO (rows.flatMap encLr) 79++((n4,Cl (encFl f) 29)::((n3,Cl (encNn n) 26)::H))))))))) (φ:=fun ⟨k,lanes,dp,srt,ld,Mx⟩=>k≤16∧LdR n ld∧SrtS srt∧LsR w0 Mx k lanes dp srt∧roundsF n f (gd os2 i) (16 - k) ld srt=roundsF n f (gd os2 i) 16 ld0 []) (μ:=fun ⟨k,lanes,dp,srt,ld,Mx⟩=>16 - k) (x0:=(0,[], .nil,[],ld0,[])) ?_ ⟨Aa rfl,Aa rfl,Aa rfl,Aa rfl,Aa rfl,Aa rfl,Aa rfl,Aa rfl,trivial⟩ ⟨qat,qat,trivial⟩ sb0 ?_
  ·exact⟨Nat.zero_le _,hldr0,List.Pairwise.nil,⟨Cp,fun _ h=>(by cases h),fun _ h=>(by cases h),Nat.le_refl _,rfl⟩,rfl⟩
  rintro⟨k,lanes,dp,srt,ld,Mx⟩ ⟨hk16,hldr,hsS,hls,hro⟩;refine rD tb 7 U ?_;refine Ae (Aa U) (fun c40=> ?_) (fun c40=> ?_)
  ·obtain⟨j16,hj16⟩:∃ j,16 - k=j+1:=⟨15 - k,by omega⟩;obtain⟨l,cl,hlc⟩:∃ l c,findF n (fullF n f ld (gd os2 i).amt) (mOf (gd os2 i).e) (gd os2 i).x (gd os2 i).y=(l,c):=⟨_,_,rfl⟩;have hl24:l.length≤2400:=by
    have:=I9 hok ho1.mce.ok (f:=fullF n f ld (gd os2 i).amt) (to:=(gd os2 i).y) ho1.x;rw[hlc] at this;exact this
   refine rC tb 5 U (Bg 18 [(0,true),(1,true),(2,true),(3,true),(4,true),(5,true),(7,true),(8,true),(9,true),(10,true),(11,true),(6,false),(12,false),(13,true),(14,true),(15,true),(16,true),(17,true)] _ mixd qkr sb0 ?_ A7);refine o_y U (Lp U isAgg26 sizeOf26 U qcs) ?_ U Ac;refine o_y U (Lp U isAgg26 sizeOf26 U qcs) ?_ U Ac;refine o_y U (Lp U isAgg29 sizeOf29 U qcs) ?_ U Ac;refine rP tb 2 U (o_y U (Lo U isAgg3 qco) ?_ U Ac);refine o_y U (Lp U isAgg68 sizeOf68 U qcs) ?_ U Ac;refine rP tb 1 U (o_y U (Lo U isAgg3 qco) ?_ U Ac);refine rP tb 1 U (o_y U (Lo U isAgg3 qco) ?_ U Ac);refine o_e U (Am (qe4 U U U U) call65 (rfull_s n (hn.mono sbt) hok hcap f (hf.mono sbt) hfl ld hldr (slQ dl) (slC dl) ((show Arr w0 _ (slQ dl) 1 encI ld from Av (w0:=w0) (d:=dl) (enc:=encI) (sz:=1) (e:=3) (l:=ld) (X:=[]) (fun _=>rfl) (by rw[hldr.len];exact hdl)).mono (by rw[List.append_nil];exact sbx)) (gd os2 i).amt hoa)) ?_ U Ac;rintro _ _ ⟨dF,⟨rfl,hdF⟩,rfl⟩;have hfll:=D4 (n:=n) (f:=f) (ld:=ld) (a:=(gd os2 i).amt) n.links.length;refine⟨sbt,(o_e U (Am (.cons (T U) (.cons (T U) (.cons (T U) (.cons (T U) (.cons (T U) .nil))))) call64 (rfindE_s n ⟨slQ dF,slC dF,fullL n f ld (gd os2 i).amt n.links.length,f.node⟩ mc ⟨hn.mono sbt,(Av (w0:=w0) (d:=dF) (enc:=encI) (sz:=1) (e:=3) (fun _=>rfl) hdF).mono sbt,hmc2.mono sbx⟩ ⟨hok,by show (fullL n f ld (gd os2 i).amt n.links.length).length≤_;omega,hpm,hsr,hnl⟩ (gd os2 i).x ho1.x (gd os2 i).y (l:=l) (cl:=cl) (hf:=(findF_congr (f:=⟨slQ dF,slC dF,fullL n f ld (gd os2 i).amt n.links.length,f.node⟩) (g:=fullF n f ld (gd os2 i).amt) U U mc.pl (gd os2 i).x (gd os2 i).y).trans (by rw[hmpl];exact hlc)))) ?_ U Ac)⟩;rintro _ _ ⟨qK,cK,Mk,⟨rfl,hKA⟩,rfl⟩;refine⟨sbt,(rP tb 5 U (A5 U (kO tb 2 [2,3,4,9,10,11,12,13,15,16,17,18] rfl U (rG tb 6 U ?_))))⟩;refine A4 (s:=61) (Aa U) (fun c61=> ?_) (fun c61=> ?_)
   ·have hpt:=J7 hlc c61;refine rO tb 12 U (y_ (Lp U isAgg26 sizeOf26 U qcs) ?_ U);refine y_ (Lp U isAgg29 sizeOf29 U qcs) ?_ U;refine rO tb 2 U (y_ (Lp U isAgg58 sizeOf58 U qcs) ?_ U);refine y_ (Lp U isAgg68 sizeOf68 U qcs) ?_ U;refine e_ (Am (.cons (T U) (.cons (T U) (.cons (T U) (.cons (T U) (.cons (T U) (.cons (T U) .nil)))))) call67 (rstuck_s n (hn.mono sbt) hok hcap f (hf.mono sbt) hfl os os2 qo co (hO.mono sbt) hoo (gd os2 i) ho1 (omO (gd os2 i) (gd os i).m) ⟨rfl,rfl,rfl,hod.e⟩ ld hldr (slQ dl) (slC dl) ((show Arr w0 _ (slQ dl) 1 encI ld from Av (w0:=w0) (d:=dl) (enc:=encI) (sz:=1) (e:=3) (l:=ld) (X:=[]) (fun _=>rfl) (by rw[hldr.len];exact hdl)).mono (by rw[List.append_nil];exact sbx)) mc (hmc2.mono sbx) hmpl)) ?_ U;rintro _ _ ⟨dS,⟨rfl,hdS⟩,rfl⟩;refine e_ (Aj zeroValue112 cs_) ?_ U;rintro _ _ ⟨n19,rfl,rfl⟩;refine A0 (Ls U U sizeOf112) U Ac ?_;rintro _ _ ⟨rfl,rfl⟩;refine kO tb 2 [19] rfl U (rG tb 1 U (Bg 7 [(0,true),(1,true),(2,true),(3,true),(4,true),(5,true),(6,true)] _ mixd qkr sb0 ?_ A7));refine rP tb 1 U (o_y U (Lo U isAgg27 qco) ?_ U Ac);refine rP tb 1 U (o_y U (Lo U isAgg35 qco) ?_ U Ac);refine rP tb 3 U (A5 U (rO tb 6 U (Aw (rX tb 4 U (Aw (rX tb 2 U (Ai U (.tmp (Aa U) (.tmp (Aa U) (Ll U))) ?_)))))));have hfin:routeF n f os2=(outS,some (ld,(gd os2 i))):=by rw[← hgo,Kl (by rw[← hro,hj16,Gb hpt])]
    exact⟨_,⟨slH dS ((stuckF n f os2 (gd os2 i) ld).1.flatMap encI) 3, .inr ⟨outS,ld,(gd os2 i),slQ dS,slC dS,⟨hfin,rfl⟩,Av (fun _=>rfl) hdS,stuck_len hok⟩,rfl⟩,sbt⟩
   ·obtain rfl:cl=0:=Classical.not_not.1 c61;have hllt:=(find_lt hok ho1 hlc).2;refine A6 (Lp U isAgg26 sizeOf26 U qcs) U (Az U U (Aa U)) ?_;refine rO tb 2 U (A6 (Lo U isAgg3 qco) U (Az U U (Aa U)) ?_);refine rO tb 1 U (A6 (Ax (qe4 U U U U) call66 (fun H' hs=>rover_s n (hn.mono (stn hs)) hok hcap ld hldr (slQ dl) (slC dl) ((show Arr w0 _ (slQ dl) 1 encI ld from Av (w0:=w0) (d:=dl) (enc:=encI) (sz:=1) (e:=3) (l:=ld) (X:=[]) (fun _=>rfl) (by rw[hldr.len];exact hdl)).mono (by rw[List.append_nil];exact List.Sublist.trans sbx hs)) (gd os2 i).amt hoa l qK cK ((hKA _).mono hs) hl24 hllt)) U (Az U U (Aa U)) ?_);refine rO tb 3 U ?_
    first|refine Ae (Aa U) (fun c68=> ?_) (fun c68=> ?_)|refine Bm (Aa U) (fun c68=> ?_) (fun c68=> ?_)
    ·have hpt:partF n f (gd os2 i) ld=none:=by
      rw[Jh hlc];cases hh:takeF n (gd os2 i).amt l ld with
      |none=>rfl
      |some x=>simp[hh] at c68
     refine rC tb 2 U (y_ (Lp U isAgg26 sizeOf26 U qcs) ?_ U);refine y_ (Lp U isAgg29 sizeOf29 U qcs) ?_ U;refine rO tb 2 U (y_ (Lp U isAgg58 sizeOf58 U qcs) ?_ U);refine y_ (Lp U isAgg68 sizeOf68 U qcs) ?_ U;refine e_ (Am (.cons (T U) (.cons (T U) (.cons (T U) (.cons (T U) (.cons (T U) (.cons (T U) .nil)))))) call67 (rstuck_s n (hn.mono sbt) hok hcap f (hf.mono sbt) hfl os os2 qo co (hO.mono sbt) hoo (gd os2 i) ho1 (omO (gd os2 i) (gd os i).m) ⟨rfl,rfl,rfl,hod.e⟩ ld hldr (slQ dl) (slC dl) ((show Arr w0 _ (slQ dl) 1 encI ld from Av (w0:=w0) (d:=dl) (enc:=encI) (sz:=1) (e:=3) (l:=ld) (X:=[]) (fun _=>rfl) (by rw[hldr.len];exact hdl)).mono (by rw[List.append_nil];exact sbx)) mc (hmc2.mono sbx) hmpl)) ?_ U;rintro _ _ ⟨dS,⟨rfl,hdS⟩,rfl⟩;refine e_ (Aj zeroValue112 cs_) ?_ U;rintro _ _ ⟨n19,rfl,rfl⟩;refine A0 (Ls U U sizeOf112) U Ac ?_;rintro _ _ ⟨rfl,rfl⟩;refine kO tb 2 [19] rfl U (rG tb 1 U (Bg 7 [(0,true),(1,true),(2,true),(3,true),(4,true),(5,true),(6,true)] _ mixd qkr sb0 ?_ A7));refine rP tb 1 U (o_y U (Lo U isAgg27 qco) ?_ U Ac);refine rP tb 1 U (o_y U (Lo U isAgg35 qco) ?_ U Ac);refine rP tb 3 U (A5 U (rO tb 6 U (Aw (rX tb 4 U (Aw (rX tb 2 U (Ai U (.tmp (Aa U) (.tmp (Aa U) (Ll U))) ?_)))))));have hfin:routeF n f os2=(outS,some (ld,(gd os2 i))):=by rw[← hgo,Kl (by rw[← hro,hj16,Gb hpt])]
     exact⟨_,⟨slH dS ((stuckF n f os2 (gd os2 i) ld).1.flatMap encI) 3, .inr ⟨outS,ld,(gd os2 i),slQ dS,slC dS,⟨hfin,rfl⟩,Av (fun _=>rfl) hdS,stuck_len hok⟩,rfl⟩,sbt⟩
    ·obtain⟨ld2,hht⟩:∃ ld2,takeF n (gd os2 i).amt l ld=some ld2:=by
      cases hh:takeF n (gd os2 i).amt l ld with
      |none=>simp[hh] at c68
      |some x=>exact⟨x,rfl⟩
     have hpt:partF n f (gd os2 i) ld=some (l,ld2):=by rw[Jh hlc,hht];rfl
     refine rC tb 9 U ?_;refine Ba (X:=Nat × List Int) (V:=fun ⟨j,l2⟩=>[(20, .int .i64 (j:Nat))]) (C:=[(2,_),(3,_),(4,_),(9,_),(10,_),(11,_),(12,_),(13,_),(15,_),(16,_),(17,_)]) (G:=fun ⟨j,l2⟩=>Mk++(slH dF ((fullL n f ld (gd os2 i).amt n.links.length).flatMap encI) 3++(Mx++((n13,Cl (encMc mc) 68)::(Mb++((n12,Cl (encOm (omO (gd os2 i) (gd os i).m)) 58)::(Mx0++(slH dl (l2.flatMap encI) 3++(slH dO (rows.flatMap encLr) 79++((n4,Cl (encFl f) 29)::((n3,Cl (encNn n) 26)::H))))))))))) (φ:=fun ⟨j,l2⟩=>j≤l.length∧LdR n l2∧takeF n (gd os2 i).amt (l.drop j) l2=some ld2) (μ:=fun ⟨j,l2⟩=>l.length - j) (x0:=(0,ld)) ?_ ⟨Aa rfl,Aa rfl,Aa rfl,Aa rfl,Aa rfl,Aa rfl,Aa rfl,Aa rfl,Aa rfl,Aa rfl,Aa rfl,trivial⟩ ⟨qat,trivial⟩ sb0 ?_
     ·exact⟨Nat.zero_le _,hldr,hht⟩
     rintro⟨j,l2⟩ ⟨hj,hlr2,htk⟩;refine rD tb 9 U ?_;refine Ae (Aa U) (fun c83=> ?_) (fun c83=> ?_)
     ·have hdr2:l.drop j=(gd l j)::l.drop (j+1):=by rw[List.drop_eq_getElem_cons qom,Ar qom]
      rw[hdr2,takeF_cons] at htk;have hxs:=hllt _ (Ag (l:=l) (i:=j) qom);have hcb:capB n l2 (gd l j) (gd os2 i).amt=true:=Classical.byContradiction fun h=>by rw[if_neg h] at htk;cases htk
      rw[if_pos hcb] at htk;have hlv:=hlr2.rng _ hxs;refine rC tb 4 U (Bg 16 [(0,true),(1,true),(2,true),(3,true),(4,true),(5,true),(6,true),(7,true),(8,true),(9,true),(10,true),(11,true),(12,true),(13,true),(14,true),(15,true)] _ mixd qkr sb0 ?_ A7);refine rP tb 3 U (o_y U (Lq U U runUnderlying27 sizeOf3 qom (by first|exact rfl|exact hO.a.b (i:=i) qom|exact(hKA []).b (i:=j) qom)) ?_ U Ac);refine o_y U (Lo U isAgg3 (by first|exact c_o|exact cell1 ((hKA _).cs (i:=j) qom))) ?_ U Ac;refine rP tb 3 U (o_y U (Lq U U runUnderlying27 sizeOf3 qom (by first|exact rfl|exact hO.a.b (i:=i) qom|exact(hKA []).b (i:=j) qom)) ?_ U Ac);refine o_y U (Lo U isAgg3 (by first|exact c_o|exact cell1 ((hKA _).cs (i:=j) qom))) ?_ U Ac;refine o_y U (Bi (T U) (T U) runUnderlying27 sizeOf3 qom (by first|exact rfl|exact hO.a.b (i:=i) qom|exact(hKA []).b (i:=j) qom|exact((show Arr w0 _ (slQ dl) 1 encI l2 from Av (w0:=w0) (d:=dl) (enc:=encI) (sz:=1) (e:=3) (l:=l2) (X:=[]) (fun _=>rfl) (by rw[hlr2.len];exact hdl))).b (i:=(gd l j)) (by rw[hlr2.len];omega))) ?_ U Ac;refine o_y U (Lo U isAgg3 (by first|exact c_o|exact cell1 (((show Arr w0 _ (slQ dl) 1 encI l2 from Av (w0:=w0) (d:=dl) (enc:=encI) (sz:=1) (e:=3) (l:=l2) (X:=[]) (fun _=>rfl) (by rw[hlr2.len];exact hdl)).mono (by rw[List.append_nil];exact sbx)).cs (i:=(gd l j)) (by rw[hlr2.len];omega)))) ?_ U Ac;refine rP tb 1 U (o_y U (Lo U isAgg3 qco) ?_ U Ac);refine o_y U (Aq (T U) (T U) qom) ?_ U Ac;refine o_y U (Bi (T U) (T U) runUnderlying27 sizeOf3 qom (by first|exact rfl|exact hO.a.b (i:=i) qom|exact(hKA []).b (i:=j) qom|exact((show Arr w0 _ (slQ dl) 1 encI l2 from Av (w0:=w0) (d:=dl) (enc:=encI) (sz:=1) (e:=3) (l:=l2) (X:=[]) (fun _=>rfl) (by rw[hlr2.len];exact hdl))).b (i:=(gd l j)) (by rw[hlr2.len];omega))) ?_ U Ac;refine A5 U (e_ (Bx (d:=dl) (l:=l2) (e:=3) (enc:=encI) (sz:=1) (i:=(gd l j)) (gd l2 (gd l j)+(gd os2 i).amt) (fun _=>rfl) qlc (T U) (T U) (.one U) U sizeOf3 (by rw[hlr2.len];omega) (by rw[hlr2.len];exact hdl)) ?_ U);rintro _ _ ⟨rfl,rfl⟩;refine kO tb 3 [2,3,4,9,10,11,12,13,15,16,17,20] rfl U (rG tb 2 U (y_ (Aq (T U) Ao qom) ?_ U));refine rO tb 2 U ?_;refine An ((j+1,l2.set (gd l j) (gd l2 (gd l j)+(gd os2 i).amt))) ?_ ?_ ⟨qat,trivial⟩ ⟨Aa U,Aa U,Aa U,Aa U,Aa U,Aa U,Aa U,Aa U,Aa U,Aa U,Aa U,trivial⟩ ?_
      ·exact⟨by omega,cap_le hcap hlr2 hxs ho1.a0 hcb,htk⟩
      ·first|omega|(simp only[];omega)
      ·exact sbt
     ·obtain rfl:j=l.length:=by omega
      rw[List.drop_length] at htk;obtain rfl:ld2=l2:=(Option.some.inj htk).symm;refine rC tb 2 U (Af (rX tb 5 U (e_ (Am (qe2 U U) call68 (rput_s lanes (slQ dp) (slC dp) (hls.a.mono sbx) (fun s hs=>(hls.m s hs).mono sbx) (by have:=hls.n;omega) (fun s hs=>by have:=hls.p s hs;omega) (⟨qK,cK,toInts l,1⟩:Lm) U ⟨arrUI (hKA _),by show (toInts l).length≤_;rw[List.length_map];omega⟩ l.length (by show _=(toInts l).length;rw[List.length_map]))) ?_ U)));rintro _ _ ⟨dp2,⟨rfl,hdp2⟩,rfl⟩;refine rO tb 6 U (y_ (Aq (T U) Ao qom) ?_ U);refine rO tb 2 U ?_;refine An ((k+1,pgo (⟨qK,cK,toInts l,1⟩:Lm) false lanes,dp2,putS l srt,ld2,slH dp2 ((pgo (⟨qK,cK,toInts l,1⟩:Lm) false lanes).flatMap encLm) 77++(Mk++(slH dF ((fullL n f ld (gd os2 i).amt n.links.length).flatMap encI) 3++Mx)))) ?_ ?_ ⟨qat,qat,trivial⟩ ⟨Aa U,Aa U,Aa U,Aa U,Aa U,Aa U,Aa U,Aa U,trivial⟩ ?_
      ·refine⟨by omega,hlr2,G9 l hsS,hls.put hsS sbx ⟨(arrUI (hKA _)).mono (List.sublist_append_right _ _),by show (toInts l).length≤_;rw[List.length_map];omega⟩ (Av (fun _=>rfl) hdp2),?_⟩;show roundsF n f (gd os2 i) (16 - (k+1)) ld2 (putS l srt)=_;rw[← hro,hj16,Gq hpt,show 16 - (k+1)=j16 by omega]
      ·first|omega|(simp only[];omega)
      ·show ((slH dp2 ((pgo (⟨qK,cK,toInts l,1⟩:Lm) false lanes).flatMap encLm) 77++(Mk++(slH dF ((fullL n f ld (gd os2 i).amt n.links.length).flatMap encI) 3++Mx)))++_).Sublist _;simp only[List.append_assoc];exact sbx
  ·obtain rfl:k=16:=by omega
   rw[Nat.sub_self] at hro;have hrd:roundsF n f (gd os2 i) 16 ld0 []=(true,ld,srt):=by rw[← hro];rfl
   rw[goR_yes hrd] at hgo;refine rC tb 2 U (Af (rX tb 5 U (e_ (Ah (.cons (T U) .nil) (H4 _ _ _)) ?_ U)));rintro _ _ ⟨n107,rfl,rfl⟩;refine e_ (A9 (⟨slQ dp,slC dp,lanes⟩:Lr) (by':=24) (enc:=encLr) (l:=rows) (d:=dO) qlc (T U) (T U) runUnderlying31 runUnderlying31 sizeOf79 typeInfo79 U zeroValue79 U (fun _=>rfl) U hdO qde qom) ?_ U;rintro _ _ ⟨dO2,rfl,hdO2,rfl⟩;refine rO tb 6 U (y_ (Aq (T U) Ao qom) ?_ U);refine rO tb 2 U ?_;refine An ((i+1,ld,rows++[⟨slQ dp,slC dp,lanes⟩],outS++[srt],dO2,Mx++Mx0)) ?_ ?_ ⟨qat,qat,trivial⟩ ⟨Aa U,Aa U,Aa U,Aa U,trivial⟩ ?_
   ·refine⟨by omega,hldr,⟨by simpa using hdO2,by simp[hrl]⟩,?_,fun r hr=> ?_,hgo⟩
    ·rw[List.map_append,List.map_append,hrw];show _++[lanes.map Lm.lan]=_++[srt.map Sha.lan];rw[hls.e]
    ·rcases List.mem_append.1 hr with h|h
     ·exact(hrm r h).mono (List.sublist_append_right _ _)
     ·simp at h;subst h;exact⟨hls.a.mono (List.sublist_append_left _ _),by show lanes.length≤_;have:=hls.n;omega,fun s hs=>(hls.m s hs).mono (List.sublist_append_left _ _)⟩
   ·first|omega|(simp only[];omega)
   ·show ((Mx++Mx0)++_).Sublist _;rw[List.append_assoc];exact sbx
 ·refine rC tb 2 U (Af (rX tb 11 U (Ai U (.tmp (Aa U) (.tmp (Aa U) (Ll U))) ?_)));have hfin:routeF n f os2=(outS,none):=by rw[← hgo,List.drop_of_length_le qom];rfl
  exact⟨_,⟨Mx0++(slH dl (ld0.flatMap encI) 3++slH dO (rows.flatMap encLr) 79), .inl ⟨outS,slQ dO,slC dO,rows,⟨hfin,rfl⟩,⟨(Av (w0:=w0) (d:=dO) (enc:=encLr) (sz:=1) (l:=rows) (e:=79) (X:=[]) (fun _=>rfl) hdO).mono (by rw[List.append_nil];simp only[List.append_assoc];exact sbx),by omega,fun r hr=>(hrm r hr).mono (by simp only[List.append_assoc];exact sbx)⟩,hrw⟩,rfl⟩,by simp only[List.append_assoc];exact sbx⟩
section
variable {P:Program} {w0:World} {L:Fm} {ty t:TypeId} {H:List (Nat × Obj)} {x y z:Operand}
theorem yl_sliceA {e:TypeId}{n b sz:Nat}(hx:Ev L x (.pointer (some ⟨b,0,none⟩)))(ht:∀ w,(underlying t).run P w= .ok (.array n e) w)(hs:∀ w,(sizeOf e).run P w= .ok sz w):
  Yl P w0 (.slice t x none none none) ty L H (.slice (some ⟨b,0,none⟩) n n):=Bh U fun b w=>by
 simp[exO,execOp,Instr.sliceAt,Instr.sureAddr,Instr.sliceBounds,Instr.sliceBound,asIntOf,hx b,ht,hs,Sem.run_bind,Result.andThen,Addr.add]
theorem yl_ssL {s:ByteArray}{k:Nat}(hx:Ev L x (.string s))(hz:Ev L z (.int .i64 (k:Int)))(ht:∀ w,(underlying t).run P w= .ok .string w)(h:k≤s.size):
  Yl P w0 (.slice t x (some z) none none) ty L H (.string (s.extract k s.size)):=Bh U fun b w=>by
 simp[exO,execOp,Instr.sliceAt,Instr.slice,Instr.sliceBounds,Instr.sliceBound,asIntOf,hx b,hz b,ht,Sem.run_bind,Result.andThen,show (k:Int)≤s.size by omega];rw[if_pos h]
theorem yl_ssH {s:ByteArray}{k:Nat}(hx:Ev L x (.string s))(hz:Ev L z (.int .i64 (k:Int)))(ht:∀ w,(underlying t).run P w= .ok .string w)(h:k≤s.size):
  Yl P w0 (.slice t x none (some z) none) ty L H (.string (s.extract 0 k)):=Bh U fun b w=>by
 simp[exO,execOp,Instr.sliceAt,Instr.slice,Instr.sliceBounds,Instr.sliceBound,asIntOf,hx b,hz b,ht,Sem.run_bind,Result.andThen,show (k:Int)≤s.size by omega];rw[if_pos h]
end
theorem ext_byte {s:ByteArray}{k:Nat}(h:k<s.size):0<(s.extract k s.size).size∧∀ h0,(s.extract k s.size)[0]'h0=s[k]:=by
 have e:(s.extract k s.size).size=s.size - k:=by rw[ByteArray.size_extract];omega
 refine⟨by omega,fun h0=> ?_⟩;rw[ByteArray.getElem_extract];simp
theorem ext_all (s:ByteArray):s.extract 0 s.size=s:=by
 apply ByteArray.ext;simp
theorem zbd168_0_1 (a0:Int)(a1:Int)(w:World):(Instr.build 168 #[(0, .int .i64 a0),(1, .int .i64 a1)]).run Tryz.prog w= .ok (.agg #[.int .i64 a0, .int .i64 a1]) w:=by kernel_rfl
theorem words_srt:Srt wordsL:=by
 unfold Srt;exact of_decide_eq_true qkr
abbrev F106:Value:= .func (.func 106) #[] #[]
abbrev F202:Value:= .func (.func 202) #[] #[]
theorem pwi_s {w0:World}{H:List (Nat × Obj)}(a b c:Int):
  FSpec Tryz.prog w0 211 #[.int .u8 a, .int .u8 b, .int .u8 c] H (Still (.bool (decide (b≤a∧a≤c))) H):=by
 refine Ap Tryz.func211 U ntmps211 U (rD tb 11 U ?_);refine A4 (s:=10) (Aa U) (fun c10=> ?_) (fun c10=> ?_)
 ·refine rO tb 8 U (Ai U (Ll U) ?_);exact⟨_,⟨vbool (by exact decide_eq_decide.2 (by constructor<;>intro h<;>omega)),rfl⟩,sbt⟩
 ·refine rO tb 8 U (Ai U (Ll U) ?_);exact⟨_,⟨vbool (by first|exact decide_eq_decide.2 (by constructor<;>intro h<;>omega)|exact(decide_eq_false qom).symm),rfl⟩,sbt⟩
theorem plet_s {w0:World}{H:List (Nat × Obj)}(c:Int):
  FSpec Tryz.prog w0 200 #[.int .u8 c] H (Still (.bool (chB c)) H):=by
 refine Ap Tryz.func200 U ntmps200 U (rD tb 8 U (y_ (Ax (.cons (T U) (.cons Ao (.cons Ao .nil))) call211 (fun H' hs=>pwi_s _ _ _)) (rO tb 4 U (Ai U (Ll U) ?_)) U));exact⟨_,⟨rfl,rfl⟩,sbt⟩
theorem pdig_s {w0:World}{H:List (Nat × Obj)}(c:Int):
  FSpec Tryz.prog w0 212 #[.int .u8 c] H (Still (.bool (dgB c)) H):=by
 refine Ap Tryz.func212 U ntmps212 U (rD tb 8 U (y_ (Ax (.cons (T U) (.cons Ao (.cons Ao .nil))) call211 (fun H' hs=>pwi_s _ _ _)) (rO tb 4 U (Ai U (Ll U) ?_)) U));exact⟨_,⟨rfl,rfl⟩,sbt⟩
theorem pwb_s {w0:World}{H:List (Nat × Obj)}(c:Int):
  FSpec Tryz.prog w0 203 #[.int .u8 c] H (Still (.bool (wbB c)) H):=by
 refine Ap Tryz.func203 U ntmps203 U (rD tb 8 U (y_ (Ax (qe1 U) call200 (fun H' hs=>plet_s _)) (rO tb 1 U ?_) U));refine A4 (s:=5) (Aa U) (fun c5=> ?_) (fun c5=> ?_)
 ·refine rO tb 11 U (Ai U (Ll U) ?_);exact⟨_,⟨vbool (by unfold wbB chB dgB;simp[*]),rfl⟩,sbt⟩
 ·refine rO tb 1 U (A6 (Ax (qe1 U) call212 (fun H' hs=>pdig_s _)) U (Az U U (Aa U)) (rO tb 2 U ?_));refine A4 (s:=9) (Aa U) (fun c9=> ?_) (fun c9=> ?_)
  ·refine rO tb 7 U (Ai U (Ll U) ?_);exact⟨_,⟨vbool (by unfold wbB chB dgB;simp[*]),rfl⟩,sbt⟩
  ·refine rO tb 7 U (Ai U (Ll U) ?_);exact⟨_,⟨vbool (by unfold wbB chB dgB;simp[*]),rfl⟩,sbt⟩
theorem pnm1_s {w0:World}{H:List (Nat × Obj)}(s:ByteArray)(hz:0<s.size)(c:Int)(hc:(s[0].toNat:Int)=c):
  FSpec Tryz.prog w0 202 #[.string s] H (Still (.bool (wbB c)) H):=by
 refine Ap Tryz.func202 U ntmps202 U (rD tb 8 U (y_ (D7 (T U) Ao runUnderlying9 (by exact hz)) ?_ U));refine y_ (Ax (qe1 U) call203 (fun H' hs=>pwb_s _)) (rO tb 4 U (Ai U (Ll U) ?_)) U;exact⟨_,⟨by rw[← hc];rfl,rfl⟩,sbt⟩
theorem ppre_s {w0:World}{H:List (Nat × Obj)}(s:ByteArray)(hs:s.size≤9223372036854775807)(hw:∀ j,j<s.size→wbB (bz s j)=true):
  FSpec Tryz.prog w0 201 #[.string s,F202] H (Still (.string s) H):=by
 refine Ap Tryz.func201 U ntmps201 U (rD tb 12 U ?_);refine Bb (X:=Nat) (V:=fun i=>[(5, .int .i64 (i:Nat))]) (C:=[(0,_),(1,_)]) (φ:=fun i=>i≤s.size) (μ:=fun i=>s.size - i) (x0:=0) ?_ ⟨Aa U,Aa U,trivial⟩ ⟨qat,trivial⟩ ?_
 ·exact Nat.zero_le _
 rintro i hi;refine rD tb 5 U (y_ (Dq (T U) runUnderlying9) (rO tb 2 U ?_) U);refine A4 (s:=10) (Aa U) (fun c10=> ?_) (fun c10=> ?_)
 ·refine rO tb 3 U (A6 (yl_ssL (T U) (T U) runUnderlying9 qom) U (Az U U (Aa U)) ?_);refine A6 (Cq (T U) (qe1 U) call202 (fun H' hs=>(by have h:=pnm1_s (w0:=w0) (H:=H') (s.extract i s.size) (ext_byte qom).1 (bz s i) (by rw[(ext_byte qom).2,Kq qom]);rw[hw i qom] at h;exact h))) U (Az U U (Aa U)) ?_;refine rO tb 3 U ?_
  first|refine Ae (Aa U) (fun c16=> ?_) (fun c16=> ?_)|refine Bm (Aa U) (fun c16=> ?_) (fun c16=> ?_)
  ·refine rC tb 5 U (y_ (Aq (T U) Ao qom) ?_ U);refine rO tb 3 U ?_;refine An (i+1) ?_ ?_ ⟨qat,trivial⟩ ⟨Aa U,Aa U,trivial⟩ ?_
   ·show i+1≤_;omega
   ·omega
   ·exact sbt
  ·refine rC tb 2 U (Af (rX tb 6 U (y_ (yl_ssH (T U) (T U) runUnderlying9 qom) ?_ U)));refine rO tb 4 U (Ai U (Ll U) ?_);cases c16
 ·refine rO tb 11 U (Af (rX tb 6 U (y_ (yl_ssH (T U) (T U) runUnderlying9 qom) ?_ U)));refine rO tb 4 U (Ai U (Ll U) ?_);obtain rfl:i=s.size:=by omega
  rw[ext_all];exact⟨_,⟨rfl,rfl⟩,sbt⟩
theorem pnam_s {w0:World}{H:List (Nat × Obj)}(s:ByteArray)(hk:NmOk s)(hW:Arr w0 [] (some ⟨0,0,none⟩) 1 encS wordsL):
  FSpec Tryz.prog w0 180 #[.string s] H (Still (.bool true) H):=by
 refine Ap Tryz.func180 U ntmps180 U ?_;have hz:=hk.z;have hn:=hk.n;have hz0:0<s.size:=by omega
 have hch:chB (s[0].toNat:Int)=true:=by rw[← Kq hz0];exact hk.c
 refine rD tb 9 U (y_ (Cb (T U) Ao) (rO tb 1 U ?_) U);refine A4 (s:=7) (Aa U) (fun c7=> ?_) (fun c7=> ?_)
 ·refine rO tb 20 U (Ai U (Ll U) ?_);exact absurd (E6 (s:=s) (b:=true) (by rw[decide_eq_true c7]) U) (fun e=>hz (by rw[e];rfl))
 ·refine rO tb 1 U (A6 (Dq (T U) runUnderlying9) U (Az U U (Aa U)) (rO tb 3 U ?_));refine A4 (s:=12) (Aa U) (fun c12=> ?_) (fun c12=> ?_)
  ·refine rO tb 15 U (Ai U (Ll U) ?_);exfalso;omega
  ·refine rO tb 1 U (A6 (D7 (T U) Ao runUnderlying9 (by exact hz0)) U (Az U U (Aa U)) ?_);refine A6 (Ax (qe1 U) call200 (fun H' hs=>plet_s _)) U (Az U U (Aa U)) ?_;refine A6 (Bc (T U)) U (Az U U (Aa U)) ?_;refine rO tb 3 U ?_;refine Ae (Aa U) (fun c17=> ?_) (fun c17=> ?_)
   ·refine rC tb 7 U (Ai U (Ll U) ?_);exact absurd (of_decide_eq_true hch) c17
   ·refine rC tb 4 U (y_ (yl_sliceA ev_g runUnderlying252 sizeOf9) (rO tb 1 U (y_ (Ax (qe2 U U) call74 (fun H' hs=>bs_s wordsL (some ⟨0,0,none⟩) 49 s (hW.mono (List.nil_sublist _)) words_srt qde)) ?_ U)) U);refine rO tb 10 U ?_;refine A6 (Bc (T U)) U Ac ?_;refine rO tb 1 U ?_;refine A4 (s:=26) (Aa U) (fun c26=> ?_) (fun c26=> ?_)
    ·refine rO tb 1 U (A6 (Ax (.cons (T U) (.cons J9 .nil)) call201 (fun H' hs=>ppre_s s qom hk.w)) U (Az U U (Aa U)) ?_);refine rO tb 1 U (A6 (Cb (T U) (T U)) U (Az U U (Aa U)) (kO tb 4 [2] rfl U (rG tb 1 U (Ai U (Ll U) ?_))));exact⟨_,⟨vbool (decide_eq_true U),rfl⟩,sbt⟩
    ·refine kO tb 8 [2] rfl U (rG tb 1 U (Ai U (Ll U) ?_));obtain⟨h1,h2⟩:=Classical.not_not.1 c26;exact absurd (Df h2 ▸ Ag h1) hk.k
theorem ppl_s {w0:World}{H:List (Nat × Obj)}(s:ByteArray)(hk:NmOk s)(hW:Arr w0 [] (some ⟨0,0,none⟩) 1 encS wordsL):
  FSpec Tryz.prog w0 151 #[.string s] H (Still (.bool true) H):=by
 refine Ap Tryz.func151 U ntmps151 U (rD tb 8 U (y_ (Ax (qe1 U) call180 (fun H' hs=>pnam_s s hk hW)) (rO tb 4 U (Ai U (Ll U) ?_)) U));exact⟨_,⟨rfl,rfl⟩,sbt⟩
theorem pwith_s {w0:World}{H:List (Nat × Obj)}(a b c d:Nat)(h:a+b+c+d≤1000000000):
  FSpec Tryz.prog w0 179 #[.agg #[.int .i64 (a:Nat), .int .i64 (b:Nat)], .agg #[.int .i64 (c:Nat), .int .i64 (d:Nat)]] H (Still (.agg #[.int .i64 ((a+c:Nat):Int), .int .i64 ((max b (d+1):Nat):Int)]) H):=by
 refine Ap Tryz.func179 U ntmps179 U (rD tb 2 U (e_ (Lt U cs_) ?_ U));rintro _ _ ⟨n2,rfl,rfl⟩;refine e_ (Lt U cs_) ?_ U;rintro _ _ ⟨n3,rfl,rfl⟩;refine e_ (Aj zeroValue168 cs_) ?_ U;rintro _ _ ⟨n4,rfl,rfl⟩;refine rO tb 5 U (y_ (Lo U isAgg3 qco) ?_ U);refine rO tb 1 U (y_ (Lo U isAgg3 qco) ?_ U);refine y_ (Aq (T U) (T U) qom) ?_ U;refine rO tb 1 U (y_ (Lo U isAgg3 qco) ?_ U);refine rO tb 1 U (y_ (Lo U isAgg3 qco) ?_ U);refine y_ (Aq (T U) Ao qom) ?_ U;refine y_ (Jk (T U) (T U)) (y_ (Ay (.cons (T U) (.cons (T U) .nil)) (zbd168_0_1 _ _)) ?_ U) U;refine A0 (Ls U U sizeOf168) U Ac ?_;rintro _ _ ⟨rfl,rfl⟩;refine rO tb 3 U (Ai U (.cellA (Aa U) isAgg168 sizeOf168 U qcs .nil) ?_);exact⟨_,⟨by rw[show ((a+c:Nat):Int)=a+c by omega,show ((max b (d+1):Nat):Int)=max (b:Int) ((d:Int)+1) by omega];rfl,rfl⟩,sbt⟩
def psizS (w0:World) (m:Rxm):Prop:=∀ H:List (Nat × Obj),RxM w0 H m→m.sz≤8388608→FSpec Tryz.prog w0 106 #[.agg (encRx m).toArray] H (Still (.agg #[.int .i64 (m.sz:Nat), .int .i64 (m.dp:Nat)]) H)
theorem pall_s {w0:World}{H:List (Nat × Obj)}(l:List Rxm)(q:Option Addr)(c:Nat)(hA:Arr w0 H q 3 encRx l)(hlz:szL l≤8388608)(hlM:∀ a∈l,RxM w0 H a)(ih:∀ a∈l,psizS w0 a):
  FSpec Tryz.prog w0 149 #[.slice q l.length c,F106] H (Still (.agg #[.int .i64 ((1+szL l:Nat):Int), .int .i64 ((dpL l:Nat):Int)]) H):=by
 refine Ap Tryz.func149 U ntmps149 U ?_;have hln:=Fk l;refine rD tb 2 U (e_ (Aj zeroValue168 cs_) ?_ U);rintro _ _ ⟨n4,rfl,rfl⟩;refine rO tb 4 U (y_ (Ay (.cons Ao (.cons Ao .nil)) (zbd168_0_1 _ _)) (e_ (Aj zeroValue168 cs_) ?_ U) U);rintro _ _ ⟨n5,rfl,rfl⟩;refine A0 (Ls U U sizeOf168) U Ac ?_;rintro _ _ ⟨rfl,rfl⟩;refine rO tb 11 U ?_;refine Ba (X:=Nat) (V:=fun i=>[(11, .int .i64 (i:Nat))]) (C:=[(1,_),(4,_),(5,_),(9,_),(10,_)]) (G:=fun i=>(n5,Cl [.int .i64 ((1+szL (l.take i):Nat):Int), .int .i64 ((dpL (l.take i):Nat):Int)] 168)::(n4,Cl [.int .i64 0, .int .i64 0] 168)::H) (φ:=fun i=>i≤l.length) (μ:=fun i=>l.length - i) (x0:=0) ?_ ⟨Aa U,Aa U,Aa U,Aa U,Aa U,trivial⟩ ⟨qat,trivial⟩ sb0 ?_
 ·exact Nat.zero_le _
 rintro i hi;have htl:=D2 l (i+1);have htl0:=D2 l i;have hdl:=K4 (l.take i) fun x _=>Li x
 have hdg:=Li (gd l i);refine rD tb 6 U ?_;refine Ae (Aa U) (fun c12=> ?_) (fun c12=> ?_)
 ·have htk:=Dv (l:=l) (i:=i) qom;refine rC tb 6 U (y_ (Lq U U runUnderlying54 sizeOf56 qom (by first|exact rfl|exact hA.b (i:=i) qom)) ?_ U);refine y_ (Lp U isAgg56 sizeOf56 U (by exact(hA.mono sbt).cs (i:=i) qom)) ?_ U;refine e_ (Aj zeroValue56 cs_) ?_ U;rintro _ _ ⟨n7,rfl,rfl⟩;refine A0 (Ls U U sizeOf56) U Ac ?_;rintro _ _ ⟨rfl,rfl⟩;refine rO tb 2 U (Bg 5 [(0,true),(1,true),(2,true),(3,true),(4,true)] _ mixd qkr sb0 ?_ A7);refine o_y U (Lp U isAgg168 sizeOf168 U qcs) ?_ U Ac;refine rP tb 1 U (o_y U (Lp U isAgg56 sizeOf56 U qcs) ?_ U Ac);refine o_y U (Cq (T U) (qe1 U) call106 (fun H' hs=>ih _ (Ag (i:=i) qom) _ ((hlM _ (Ag (i:=i) qom)).mono (stn hs)) qom)) ?_ U Ac;refine o_y U (Ax (qe2 U U) call179 (fun H' hs=>pwith_s (1+szL (l.take i)) (dpL (l.take i)) (gd l i).sz (gd l i).dp qom)) ?_ U Ac;refine A5 U ?_;refine A0 (Ls U U sizeOf168) U Ac ?_;rintro _ _ ⟨rfl,rfl⟩;refine rO tb 4 U (y_ (Aq (T U) Ao qom) ?_ U);refine rO tb 2 U ?_;have htk:=Dv (l:=l) (i:=i) qom;rw[show 1+szL (l.take i)+(gd l i).sz=1+szL (l.take (i+1)) by omega,← dpL_take qom];refine An (i+1) ?_ ?_ ⟨qat,trivial⟩ ⟨Aa U,Aa U,Aa U,Aa U,Aa U,trivial⟩ ?_
  ·show i+1≤_;omega
  ·omega
  ·exact sbt
 ·refine rC tb 2 U (Af (rX tb 4 U (y_ (Lp U isAgg168 sizeOf168 U qcs) ?_ U)));refine A0 (Ls U U sizeOf168) U Ac ?_;rintro _ _ ⟨rfl,rfl⟩;refine rO tb 3 U (Ai U (.cellA (Aa U) isAgg168 sizeOf168 U qcs .nil) ?_);rw[List.take_of_length_le qom];exact⟨_,⟨rfl,rfl⟩,sbt⟩
theorem psiz_step {w0:World}{H:List (Nat × Obj)}(m:Rxm)(hM:RxM w0 H m)(hz:m.sz≤8388608)(ih:∀ a∈m.args,psizS w0 a):
  FSpec Tryz.prog w0 106 #[.agg (encRx m).toArray] H (Still (.agg #[.int .i64 (m.sz:Nat), .int .i64 (m.dp:Nat)]) H):=by
 refine Ap Tryz.func106 U ntmps106 U ?_;have hse:=Fj m;have hln:=Fk m.args;have hA:=hM.arr;refine rD tb 2 U (e_ (Lt U cs_) ?_ U);rintro _ _ ⟨n1,rfl,rfl⟩;refine e_ (Aj zeroValue168 cs_) ?_ U;rintro _ _ ⟨n2,rfl,rfl⟩;refine rO tb 5 U (y_ (Lo U isAgg54 qco) ?_ U);refine y_ (Ax (.cons (T U) (.cons J9 .nil)) call149 (fun H' hs=>pall_s m.args m.q _ (hA.mono (stn hs)) qom (fun a ha=>(hM.arg ha).mono (stn hs)) ih)) ?_ U;refine A0 (Ls U U sizeOf168) U Ac ?_;rintro _ _ ⟨rfl,rfl⟩;refine rO tb 3 U (Ai U (.cellA (Aa U) isAgg168 sizeOf168 U qcs .nil) ?_);exact⟨_,⟨by rw[Fj,dp_eq];rfl,rfl⟩,sbt⟩
theorem psiz_s {w0:World}{H:List (Nat × Obj)}(m:Rxm)(hM:RxM w0 H m)(hz:m.sz≤8388608):FSpec Tryz.prog w0 106 #[.agg (encRx m).toArray] H (Still (.agg #[.int .i64 (m.sz:Nat), .int .i64 (m.dp:Nat)]) H):=
 Gi (Q:=psizS w0) (fun m ih H hM hz=>psiz_step m hM hz ih) m H hM hz
theorem plrg_s {w0:World}{H:List (Nat × Obj)}(a b:Nat)(ha:a≤200)(hb:b≤20):
  FSpec Tryz.prog w0 150 #[.agg #[.int .i64 (a:Nat), .int .i64 (b:Nat)]] H (Still (.int .i64 0) H):=by
 refine Ap Tryz.func150 U ntmps150 U (rD tb 2 U (e_ (Lt U cs_) ?_ U));rintro _ _ ⟨n1,rfl,rfl⟩;refine rO tb 7 U (y_ (Lo U isAgg3 qco) ?_ U);refine rO tb 2 U ?_;refine A4 (s:=6) (Aa U) (fun c6=> ?_) (fun c6=> ?_)
 ·refine rO tb 14 U (Ai U (Ll U) ?_);exfalso;omega
 ·refine rO tb 1 U (A6 (Lo U isAgg3 qco) U (Az U U (Aa U)) ?_);refine rO tb 4 U ?_;refine Ae (Aa U) (fun c10=> ?_) (fun c10=> ?_)
  ·refine rC tb 7 U (Ai U (Ll U) ?_);exfalso;omega
  ·refine rC tb 8 U (Ai U (Ll U) ?_);exact⟨_,⟨rfl,rfl⟩,sbt⟩
def fmS (w0:World) (m:Rxm):Prop:=∀ H:List (Nat × Obj),RxM w0 H m→FmOk m→FSpec Tryz.prog w0 109 #[.agg (encRx m).toArray] H (Still (.bool true) H)
theorem pevc_s {w0:World}{H:List (Nat × Obj)}(m:Rxm)(hM:RxM w0 H m)(hf:FmOk m)(ih:fmS w0 m)(b:Nat)(hb:Fnd H b (Cl [.func (.func 109) #[] #[]] 80)):
  FSpec Tryz.prog w0 182 #[.agg (encRx m).toArray, .pointer (some ⟨b,0,none⟩)] H (Still (.bool false) H):=by
 refine Ap Tryz.func182 U ntmps182 U (rD tb 2 U (e_ (Lt U cs_) ?_ U));rintro _ _ ⟨n2,rfl,rfl⟩;refine rO tb 5 U ?_;refine y_ (Lo U isAgg80 (by first|exact c_o|exact(Br (i:=0) (by repeat (first|exact hb|refine Au ?_|refine A2 ?_)) U))) ?_ U;refine y_ (Lp U isAgg56 sizeOf56 U qcs) ?_ U;refine y_ (Cq (T U) (qe1 U) call109 (fun H' hs=>ih _ (hM.mono (stn hs)) hf)) ?_ U
 first|refine A6 (Bc (T U)) U Ac ?_|refine A6 (By (T U)) U Ac ?_
 refine rO tb 4 U (Ai U (Ll U) ?_);exact⟨_,⟨rfl,rfl⟩,sbt⟩
theorem pixf_s {w0:World}{H:List (Nat × Obj)}(l:List Rxm)(q:Option Addr)(c:Nat)(hA:Arr w0 H q 3 encRx l)(hln:l.length≤8388608)(hlM:∀ a∈l,RxM w0 H a)(hlf:∀ a∈l,FmOk a)(ih:∀ a∈l,fmS w0 a)(b:Nat)(hb:Fnd H b (Cl [.func (.func 109) #[] #[]] 80)):
  FSpec Tryz.prog w0 204 #[.slice q l.length c,(.func (.func 182) #[] #[.pointer (some ⟨b,0,none⟩)])] H (Still (.int .i64 (-1)) H):=by
 refine Ap Tryz.func204 U ntmps204 U (rD tb 14 U ?_);refine Bb (X:=Nat) (V:=fun i=>[(8, .int .i64 (i:Nat))]) (C:=[(0,_),(1,_),(7,_)]) (φ:=fun i=>i≤l.length) (μ:=fun i=>l.length - i) (x0:=0) ?_ ⟨Aa U,Aa U,Aa U,trivial⟩ ⟨qat,trivial⟩ ?_
 ·exact Nat.zero_le _
 rintro i hi;refine rD tb 6 U ?_;refine Ae (Aa U) (fun c9=> ?_) (fun c9=> ?_)
 ·refine rC tb 15 U (y_ (Lq U U runUnderlying54 sizeOf56 qom (by first|exact rfl|exact hA.b (i:=i) qom)) ?_ U);refine y_ (Lp U isAgg56 sizeOf56 U (by exact(hA.mono sbt).cs (i:=i) qom)) ?_ U;refine y_ (Cq (T U) (qe1 U) call182 (fun H' hs=>pevc_s (gd l i) ((hlM _ (Ag (i:=i) qom)).mono (stn hs)) (hlf _ (Ag (i:=i) qom)) (ih _ (Ag (i:=i) qom)) b ((stn hs).subset hb))) ?_ U;refine rO tb 2 U ?_
  first|refine Ae (Aa U) (fun c16=> ?_) (fun c16=> ?_)|refine Bm (Aa U) (fun c16=> ?_) (fun c16=> ?_)
  ·refine rC tb 9 U (Aw (rX tb 2 U (Ai U (Ll U) ?_)));cases c16
  ·refine rC tb 4 U (y_ (Aq (T U) Ao qom) ?_ U);refine rO tb 2 U ?_;refine An (i+1) ?_ ?_ ⟨qat,trivial⟩ ⟨Aa U,Aa U,Aa U,trivial⟩ ?_
   ·show i+1≤_;omega
   ·omega
   ·exact sbt
 ·refine rC tb 2 U (Af (rX tb 8 U (Ai U (Ll U) ?_)));exact⟨_,⟨rfl,rfl⟩,sbt⟩
theorem pctf_s {w0:World}{H:List (Nat × Obj)}(l:List Rxm)(q:Option Addr)(c:Nat)(hA:Arr w0 H q 3 encRx l)(hln:l.length≤8388608)(hlM:∀ a∈l,RxM w0 H a)(hlf:∀ a∈l,FmOk a)(ih:∀ a∈l,fmS w0 a)(b:Nat)(hb:Fnd H b (Cl [.func (.func 109) #[] #[]] 80)):
  FSpec Tryz.prog w0 181 #[.slice q l.length c,(.func (.func 182) #[] #[.pointer (some ⟨b,0,none⟩)])] H (Still (.bool false) H):=by
 refine Ap Tryz.func181 U ntmps181 U (rD tb 9 U (y_ (Ax (qe2 U U) call204 (fun H' hs=>pixf_s l q c (hA.mono (stn hs)) hln (fun a ha=>(hlM a ha).mono (stn hs)) hlf ih b ((stn hs).subset hb))) (rO tb 5 U (Ai U (Ll U) ?_)) U));exact⟨_,⟨rfl,rfl⟩,sbt⟩
theorem pevr_s {w0:World}{H:List (Nat × Obj)}(l:List Rxm)(q:Option Addr)(c:Nat)(hA:Arr w0 H q 3 encRx l)(hln:l.length≤8388608)(hlM:∀ a∈l,RxM w0 H a)(hlf:∀ a∈l,FmOk a)(ih:∀ a∈l,fmS w0 a)(k:Nat)(hk:l.length=k):
  FSpec Tryz.prog w0 152 #[.slice q l.length c, .int .i64 (k:Nat), .func (.func 109) #[] #[]] H (Still (.bool true) H):=by
 refine Ap Tryz.func152 U ntmps152 U (rD tb 2 U (e_ (Lt U cs_) ?_ U));rintro _ _ ⟨n5,rfl,rfl⟩;refine rO tb 10 U ?_;refine A4 (s:=11) (Aa U) (fun c11=> ?_) (fun c11=> ?_)
 ·refine rO tb 1 U (A6 (Bn (.cons (T U) .nil)) U (Az U U (Aa U)) (A6 (Ax (qe2 U U) call181 (fun H' hs=>pctf_s l q c (hA.mono (stn hs)) hln (fun a ha=>(hlM a ha).mono (stn hs)) hlf ih n5 (hs.subset A3))) U (Az U U (Aa U)) ?_))
  first|refine A6 (Bc (T U)) U (Az U U (Aa U)) ?_|refine A6 (By (T U)) U (Az U U (Aa U)) ?_
  refine rO tb 5 U (Ai U (Ll U) ?_);exact⟨_,⟨rfl,rfl⟩,sbt⟩
 ·refine rO tb 9 U (Ai U (Ll U) ?_);exfalso;omega
theorem pfm_step {w0:World}{H:List (Nat × Obj)}(m:Rxm)(hM:RxM w0 H m)(hf:FmOk m)(ih:∀ a∈m.args,fmS w0 a)(hW:Arr w0 [] (some ⟨0,0,none⟩) 1 encS wordsL):
  FSpec Tryz.prog w0 109 #[.agg (encRx m).toArray] H (Still (.bool true) H):=by
 refine Ap Tryz.func109 U ntmps109 U ?_;have hA:=hM.arr;have hfc:=I3 hf;have hal:m.args.length≤2:=by rcases hfc with h|h|h|h<;>first|omega|(rw[h.2.2];decide)
 have hne:m.kind≠2→m.node=⟨#[]⟩:=fun e=>by rcases hfc with h|h|h|h<;>first|exact absurd h.1 e|exact h.2.1
 have hn0:m.kind=2∨m.kind=1∨m.kind=3→m.args.length=0:=fun e=>by rcases hfc with h|h|h|h<;>first|(rw[h.2.2];rfl)|(exfalso;omega)
 have hn1:m.kind=6→m.args.length=1:=fun e=>by rcases hfc with h|h|h|h<;>first|(exfalso;omega)|exact h.2.2.1
 have hn2:m.kind=4∨m.kind=5→m.args.length=2:=fun e=>by rcases hfc with h|h|h|h<;>first|(exfalso;omega)|exact h.2.2.1
 have hkk:m.kind=2∨m.kind=1∨m.kind=3∨m.kind=6∨m.kind=4∨m.kind=5:=by rcases hfc with h|h|h|h<;>omega
 refine rD tb 2 U (e_ (Lt U cs_) ?_ U);rintro _ _ ⟨n1,rfl,rfl⟩;refine rO tb 7 U (y_ (Lo U isAgg3 qco) ?_ U);refine rO tb 9 U ?_;refine Ae (Aa U) (fun c5=> ?_) (fun c5=> ?_)
 ·refine rC tb 3 U (y_ (Lo U isAgg9 qco) ?_ U);refine y_ (Ax (qe1 rfl) call151 (fun H' hs=>ppl_s m.node (by rcases hfc with h|h|h|h<;>first|exact h.2.1|(exfalso;omega)) hW)) ?_ rfl;refine rO tb 1 U ?_
  first|refine A4 (s:=10) (Aa U) (fun c10=> ?_) (fun c10=> ?_)|refine Eu (s:=10) (Aa U) (fun c10=> ?_) (fun c10=> ?_)
  ·refine rO tb 1 U (A6 (Lo U isAgg54 qco) U (Az U U (Aa U)) ?_);refine rO tb 9 U (Ai U (Ll U) ?_)
   first|exact⟨_,⟨rfl,rfl⟩,sbt⟩|exact⟨_,⟨vbool (decide_eq_true qom),rfl⟩,sbt⟩
  ·refine rO tb 11 U (Ai U (Ll U) ?_)
   first|exact⟨_,⟨rfl,rfl⟩,sbt⟩|exact⟨_,⟨vbool (decide_eq_true qom),rfl⟩,sbt⟩|(exfalso;omega)|exact absurd (by assumption:true=false) qde
 ·refine rC tb 7 U ?_;refine Ae (Aa U) (fun c16=> ?_) (fun c16=> ?_)
  ·refine rC tb 2 U ?_
   first|refine Cg (Aa U) ?_|refine Cg (Bf (Aa U) (vbool (decide_eq_true c16))) ?_
   refine rC tb 3 U (y_ (Lo U isAgg9 qco) ?_ U);refine y_ (Cb (T U) Ao) (rO tb 1 U ?_) U;refine A4 (s:=22) (Aa U) (fun c22=> ?_) (fun c22=> ?_)
   ·refine rO tb 1 U (A6 (Lo U isAgg54 qco) U (Az U U (Aa U)) ?_);refine rO tb 9 U (Ai U (Ll U) ?_)
    first|exact⟨_,⟨rfl,rfl⟩,sbt⟩|exact⟨_,⟨vbool (decide_eq_true qom),rfl⟩,sbt⟩
   ·refine rO tb 11 U (Ai U (Ll U) ?_)
    first|exact⟨_,⟨rfl,rfl⟩,sbt⟩|exact⟨_,⟨vbool (decide_eq_true qom),rfl⟩,sbt⟩|(exfalso;omega)|exact absurd (by assumption:true=false) qde|exact absurd (congrArg (fun s:ByteArray=>s.data.toList) (hne qom)) (by assumption)
  ·refine rC tb 5 U ?_;refine Ae (Aa U) (fun c16=> ?_) (fun c16=> ?_)
   ·refine rC tb 3 U (y_ (Lo U isAgg9 qco) ?_ U);refine y_ (Cb (T U) Ao) (rO tb 1 U ?_) U;refine A4 (s:=22) (Aa U) (fun c22=> ?_) (fun c22=> ?_)
    ·refine rO tb 1 U (A6 (Lo U isAgg54 qco) U (Az U U (Aa U)) ?_);refine rO tb 9 U (Ai U (Ll U) ?_)
     first|exact⟨_,⟨rfl,rfl⟩,sbt⟩|exact⟨_,⟨vbool (decide_eq_true qom),rfl⟩,sbt⟩
    ·refine rO tb 11 U (Ai U (Ll U) ?_)
     first|exact⟨_,⟨rfl,rfl⟩,sbt⟩|exact⟨_,⟨vbool (decide_eq_true qom),rfl⟩,sbt⟩|(exfalso;omega)|exact absurd (by assumption:true=false) qde|exact absurd (congrArg (fun s:ByteArray=>s.data.toList) (hne qom)) (by assumption)
   ·refine rC tb 6 U ?_;refine Ae (Aa U) (fun c28=> ?_) (fun c28=> ?_)
    ·refine rC tb 3 U (y_ (Lo U isAgg9 qco) ?_ U);refine y_ (Cb (T U) Ao) (rO tb 1 U ?_) U;refine A4 (s:=33) (Aa U) (fun c33=> ?_) (fun c33=> ?_)
     ·refine rO tb 1 U (A6 (Lo U isAgg54 qco) U (Az U U (Aa U)) ?_);refine A6 (Ax (.cons (T rfl) (.cons Ao (.cons J9 .nil))) call152 (fun H' hs=>pevr_s m.args m.q _ (hA.mono (stn hs)) qom (fun a ha=>(hM.arg ha).mono (stn hs)) (by rcases hfc with h|h|h|h<;>first|exact h.2.2.2|(exfalso;omega)) ih 1 qom)) rfl (Az rfl rfl (Aa rfl)) ?_;refine rO tb 7 U (Ai U (Ll U) ?_);exact⟨_,⟨rfl,rfl⟩,sbt⟩
     ·refine rO tb 10 U (Ai U (Ll U) ?_)
      first|exact⟨_,⟨rfl,rfl⟩,sbt⟩|exact⟨_,⟨vbool (decide_eq_true qom),rfl⟩,sbt⟩|(exfalso;omega)|exact absurd (by assumption:true=false) qde|exact absurd (congrArg (fun s:ByteArray=>s.data.toList) (hne qom)) (by assumption)
    ·refine rC tb 7 U ?_;refine Ae (Aa U) (fun c38=> ?_) (fun c38=> ?_)
     ·refine rC tb 2 U ?_
      first|refine Cg (Aa U) ?_|refine Cg (Bf (Aa U) (vbool (decide_eq_true c38))) ?_
      refine rC tb 3 U (y_ (Lo U isAgg9 qco) ?_ U);refine y_ (Cb (T U) Ao) (rO tb 1 U ?_) U;refine A4 (s:=44) (Aa U) (fun c44=> ?_) (fun c44=> ?_)
      ·refine rO tb 1 U (A6 (Lo U isAgg54 qco) U (Az U U (Aa U)) ?_);refine A6 (Ax (.cons (T rfl) (.cons Ao (.cons J9 .nil))) call152 (fun H' hs=>pevr_s m.args m.q _ (hA.mono (stn hs)) qom (fun a ha=>(hM.arg ha).mono (stn hs)) (by rcases hfc with h|h|h|h<;>first|exact h.2.2.2|(exfalso;omega)) ih 2 qom)) rfl (Az rfl rfl (Aa rfl)) ?_;refine rO tb 7 U (Ai U (Ll U) ?_);exact⟨_,⟨rfl,rfl⟩,sbt⟩
      ·refine rO tb 10 U (Ai U (Ll U) ?_)
       first|exact⟨_,⟨rfl,rfl⟩,sbt⟩|exact⟨_,⟨vbool (decide_eq_true qom),rfl⟩,sbt⟩|(exfalso;omega)|exact absurd (by assumption:true=false) qde|exact absurd (congrArg (fun s:ByteArray=>s.data.toList) (hne qom)) (by assumption)
     ·refine rC tb 5 U ?_;refine Ae (Aa U) (fun c38=> ?_) (fun c38=> ?_)
      ·refine rC tb 3 U (y_ (Lo U isAgg9 qco) ?_ U);refine y_ (Cb (T U) Ao) (rO tb 1 U ?_) U;refine A4 (s:=44) (Aa U) (fun c44=> ?_) (fun c44=> ?_)
       ·refine rO tb 1 U (A6 (Lo U isAgg54 qco) U (Az U U (Aa U)) ?_);refine A6 (Ax (.cons (T rfl) (.cons Ao (.cons J9 .nil))) call152 (fun H' hs=>pevr_s m.args m.q _ (hA.mono (stn hs)) qom (fun a ha=>(hM.arg ha).mono (stn hs)) (by rcases hfc with h|h|h|h<;>first|exact h.2.2.2|(exfalso;omega)) ih 2 qom)) rfl (Az rfl rfl (Aa rfl)) ?_;refine rO tb 7 U (Ai U (Ll U) ?_);exact⟨_,⟨rfl,rfl⟩,sbt⟩
       ·refine rO tb 10 U (Ai U (Ll U) ?_)
        first|exact⟨_,⟨rfl,rfl⟩,sbt⟩|exact⟨_,⟨vbool (decide_eq_true qom),rfl⟩,sbt⟩|(exfalso;omega)|exact absurd (by assumption:true=false) qde|exact absurd (congrArg (fun s:ByteArray=>s.data.toList) (hne qom)) (by assumption)
      ·refine rC tb 9 U (Ai U (Ll U) ?_)
       first|exact⟨_,⟨rfl,rfl⟩,sbt⟩|exact⟨_,⟨vbool (decide_eq_true qom),rfl⟩,sbt⟩|(exfalso;omega)
theorem pfm_s {w0:World}(hW:Arr w0 [] (some ⟨0,0,none⟩) 1 encS wordsL)(m:Rxm):m.sz≤8388608→fmS w0 m:=
 Gi (Q:=fun m=>m.sz≤8388608→fmS w0 m) (fun m ih hz H hM hf=>pfm_step m hM hf (fun a ha=>ih a ha (by have:=sz_mem ha;omega)) hW) m
theorem pchk1_s {w0:World}{H:List (Nat × Obj)}(m:Rxm)(hM:RxM w0 H m)(hz:m.sz≤200)(hf:FmOk m)(hW:Arr w0 [] (some ⟨0,0,none⟩) 1 encS wordsL)(b:Nat)(hb:Fnd H b (Cl (encRx m) 56)):
  FSpec Tryz.prog w0 108 #[.pointer (some ⟨b,0,none⟩)] H (Still (.bool true) H):=by
 refine Ap Tryz.func108 U ntmps108 U (rD tb 7 U ?_);refine y_ (Lp U isAgg56 sizeOf56 U (by exact C8 (by repeat (first|exact hb|refine Au ?_|refine A2 ?_)))) ?_ U;refine y_ (Ax (qe1 U) call109 (fun H' hs=>pfm_s hW m qom _ (hM.mono (stn hs)) hf)) ?_ U;refine rO tb 4 U (Ai U (Ll U) ?_);exact⟨_,⟨rfl,rfl⟩,sbt⟩
theorem pchk2_s {w0:World}{H:List (Nat × Obj)}(m:Rxm)(hM:RxM w0 H m)(hz:m.sz≤200)(hd:m.dp≤20)(hf:FmOk m)(hW:Arr w0 [] (some ⟨0,0,none⟩) 1 encS wordsL)(b:Nat)(hb:Fnd H b (Cl (encRx m) 56)):
  FSpec Tryz.prog w0 107 #[.agg #[.int .i64 (m.sz:Nat), .int .i64 (m.dp:Nat)], .func (.func 108) #[] #[.pointer (some ⟨b,0,none⟩)]] H (Still (.int .i64 0) H):=by
 refine Ap Tryz.func107 U ntmps107 U (rD tb 2 U (e_ (Lt U cs_) ?_ U));rintro _ _ ⟨n2,rfl,rfl⟩;refine rO tb 6 U (y_ (Lp U isAgg168 sizeOf168 U qcs) ?_ U);refine y_ (Ax (qe1 U) call150 (fun H' hs=>plrg_s m.sz m.dp hz hd)) (rO tb 9 U ?_) U;refine Ae (Aa U) (fun c9=> ?_) (fun c9=> ?_)
 ·refine rC tb 8 U (Ai U (Ll U) ?_);exact⟨_,⟨rfl,rfl⟩,sbt⟩
 ·refine rC tb 6 U (y_ (Cq (T U) .nil call108 (fun H' hs=>pchk1_s m (hM.mono (stn hs)) hz hf hW b ((stn hs).subset hb))) ?_ U)
  first|refine A6 (Bc (T U)) U Ac ?_|refine A6 (By (T U)) U Ac ?_
  refine rO tb 2 U ?_
  first|refine Ae (Aa U) (fun c13=> ?_) (fun c13=> ?_)|refine Bm (Aa U) (fun c13=> ?_) (fun c13=> ?_)
  ·refine rC tb 7 U (Ai U (Ll U) ?_)
   first|exact⟨_,⟨rfl,rfl⟩,sbt⟩|(exfalso;omega)|exact absurd c13 qde
  ·refine rC tb 8 U (Ai U (Ll U) ?_);exact⟨_,⟨rfl,rfl⟩,sbt⟩
theorem pchk_s {w0:World}{H:List (Nat × Obj)}(m:Rxm)(hM:RxM w0 H m)(hz:m.sz≤200)(hd:m.dp≤20)(hf:FmOk m)(hW:Arr w0 [] (some ⟨0,0,none⟩) 1 encS wordsL):
  FSpec Tryz.prog w0 47 #[.agg (encRx m).toArray] H (Still (.int .i64 0) H):=by
 refine Ap Tryz.func47 U ntmps47 U (rD tb 2 U (e_ (Lt U cs_) ?_ U));rintro _ _ ⟨n1,rfl,rfl⟩;refine rO tb 5 U (y_ (Lp U isAgg56 sizeOf56 U qcs) ?_ U);refine y_ (Ax (qe1 U) call106 (fun H' hs=>psiz_s m (hM.mono (stn hs)) qom)) ?_ U;refine y_ (Bn (.cons (T U) .nil)) (y_ (Ax (qe2 U U) call107 (fun H' hs=>pchk2_s m (hM.mono (stn hs)) hz hd hf hW n1 (hs.subset A3))) (rO tb 4 U (Ai U (Ll U) ?_)) U) U;exact⟨_,⟨rfl,rfl⟩,sbt⟩
def endB (N:Nat) (o:Om):Prop:=(0≤o.x∧o.x<N)∧(0≤o.y∧o.y<N)∧0≤o.amt∧o.amt≤1048576
def bdC (e:Re):Int:=(buildF leastF e).2
def ChkIs (N:Nat) (os:List Om) (es:Nat→Re) (c:Int):Prop:=(c=0∧(∀ i,i<os.length→endB N (gd os i))∧∀ i,i<os.length→bdC (es i)=0)∨(c=1∧¬ ∀ i,i<os.length→endB N (gd os i))∨(c=2∧(∀ i,i<os.length→endB N (gd os i))∧¬ ∀ i,i<os.length→bdC (es i)=0)
theorem ChkIs.uniq {N:Nat}{os:List Om}{es:Nat→Re}{c d:Int}(h:ChkIs N os es c)(h':ChkIs N os es d):c=d:=by
 rcases h with ⟨rfl,a,b⟩|⟨rfl,a⟩|⟨rfl,a,b⟩<;>rcases h' with ⟨rfl,a',b'⟩|⟨rfl,a'⟩|⟨rfl,a',b'⟩<;>first|rfl|exact absurd b b'|exact absurd b' b|exact absurd a a'|exact absurd a' a
def FewR (os:List Om) (es:Nat→Re):Prop:=∀ i,i<os.length→Is (gd os i).m (es i)∧(gd os i).m.sz≤40∧(es i).Nm∧(gd os i).m.dp≤20
theorem FewR.f {os:List Om}{es:Nat→Re}(h:FewR os es){i:Nat}(hi:i<os.length):FmOk (gd os i).m:=⟨_,(h i hi).1,(h i hi).2.2.1⟩
theorem FewR.lv {os:List Om}{es:Nat→Re}(h:FewR os es){i:Nat}(hi:i<os.length):(es i).lv≤64:=by
 have h1:=(h i hi).1.lvz;have h2:=(h i hi).2.1;omega
theorem chkr0_s {w0:World}{H:List (Nat × Obj)}(m:Rxm)(hM:RxM w0 H m)(hf:FmOk m)(hz:m.sz≤200)(hd:m.dp≤20):
  FSpec Tryz.prog w0 44 #[.agg (encRx m).toArray] H (Still (.int .i64 0) H):=
 (chkr_s m hM qom).mono fun v H' ⟨⟨e,hv,he⟩,hH⟩=>⟨by rw[hv,he.2 ⟨hf,hz,hd⟩],hH⟩
theorem rcheckO_s {w0:World}{H:List (Nat × Obj)}(n:Nn)(hn:NetR w0 H n)(hnn:n.nodes.length≤1000000)(os:List Om)(qo:Option Addr)(co:Nat)(hO:OsM w0 H qo os)(es:Nat→Re)(hes:FewR os es)(hoz:os.length≤200):
  FSpec Tryz.prog w0 15 #[.agg (encNn n).toArray, .slice qo os.length co] H (fun v H'=>(∃ c:Int,v= .int .i64 c∧ChkIs n.nodes.length os es c)∧H'=H):=by
 refine Ap Tryz.func15 U ntmps15 U ?_;have hno:=hO.n;refine rD tb 2 U (e_ (Lt U cs_) ?_ U);rintro _ _ ⟨n2,rfl,rfl⟩;refine rO tb 11 U ?_;refine Ae (Aa U) (fun c13=> ?_) (fun c13=> ?_)
 ·refine rC tb 7 U (Ai U (Ll U) ?_)
  (exfalso;omega)
 ·refine rC tb 9 U ?_;refine Bb (X:=Nat) (V:=fun i=>[(5, .int .i64 (i:Nat))]) (C:=[(1,_),(2,_)]) (φ:=fun i=>i≤os.length∧∀ j,j<i→endB n.nodes.length (gd os j)) (μ:=fun i=>os.length - i) (x0:=0) ?_ ⟨Aa U,Aa U,trivial⟩ ⟨qat,trivial⟩ ?_
  ·exact⟨Nat.zero_le _,fun j hj=>absurd hj (Nat.not_lt_zero _)⟩
  rintro i ⟨hi,he⟩;refine rD tb 9 U ?_;refine Ae (Aa U) (fun c17=> ?_) (fun c17=> ?_)
  ·have hmM:RxM w0 H (gd os i).m:=hO.m _ (Ag qom);have hsz:=(hes i qom).2.1;have hdp:=(hes i qom).2.2.2;refine rC tb 8 U (y_ (Lq U U runUnderlying30 sizeOf58 qom (by first|exact rfl|exact hO.a.b (i:=i) qom)) ?_ U);refine y_ (Lp U isAgg58 sizeOf58 U (by exact(hO.a.mono sbt).cs (i:=i) qom)) ?_ U;refine e_ (Aj zeroValue58 cs_) ?_ U;rintro _ _ ⟨n6,rfl,rfl⟩;refine A0 (Ls U U sizeOf58) U Ac ?_;rintro _ _ ⟨rfl,rfl⟩;refine rO tb 6 U (y_ (Lo U isAgg3 qco) ?_ U);refine rO tb 2 U ?_;refine A4 (s:=27) (Aa U) (fun c27=> ?_) (fun c27=> ?_)
   ·refine kO tb 32 [1,2,5,6,57] rfl U (rG tb 10 U (Aw (rX tb 2 U (Ai U (Ll U) ?_))))
    first|(exfalso;omega)|exact⟨_,⟨⟨1,rfl, .inr (.inl ⟨rfl,fun h=>absurd (h i qom) (by unfold endB;omega)⟩)⟩,rfl⟩,sbt⟩
   ·refine rO tb 1 U (A6 (Lo U isAgg3 qco) U (Az U U (Aa U)) ?_);refine rO tb 1 U (A6 (Lo U isAgg22 qco) U (Az U U (Aa U)) ?_);refine rO tb 4 U ?_;refine A4 (s:=35) (Aa U) (fun c35=> ?_) (fun c35=> ?_)
    ·refine kO tb 24 [1,2,5,6,57] rfl U (rG tb 10 U (Aw (rX tb 2 U (Ai U (Ll U) ?_))))
     first|(exfalso;omega)|exact⟨_,⟨⟨1,rfl, .inr (.inl ⟨rfl,fun h=>absurd (h i qom) (by unfold endB;omega)⟩)⟩,rfl⟩,sbt⟩
    ·refine rO tb 1 U (A6 (Lo U isAgg3 qco) U (Az U U (Aa U)) ?_);refine rO tb 3 U ?_;refine A4 (s:=40) (Aa U) (fun c40=> ?_) (fun c40=> ?_)
     ·refine kO tb 19 [1,2,5,6,57] rfl U (rG tb 10 U (Aw (rX tb 2 U (Ai U (Ll U) ?_))))
      first|(exfalso;omega)|exact⟨_,⟨⟨1,rfl, .inr (.inl ⟨rfl,fun h=>absurd (h i qom) (by unfold endB;omega)⟩)⟩,rfl⟩,sbt⟩
     ·refine rO tb 1 U (A6 (Lo U isAgg3 qco) U (Az U U (Aa U)) ?_);refine rO tb 1 U (A6 (Lo U isAgg22 qco) U (Az U U (Aa U)) ?_);refine rO tb 4 U ?_;refine A4 (s:=48) (Aa U) (fun c48=> ?_) (fun c48=> ?_)
      ·refine kO tb 11 [1,2,5,6,57] rfl U (rG tb 10 U (Aw (rX tb 2 U (Ai U (Ll U) ?_))))
       first|(exfalso;omega)|exact⟨_,⟨⟨1,rfl, .inr (.inl ⟨rfl,fun h=>absurd (h i qom) (by unfold endB;omega)⟩)⟩,rfl⟩,sbt⟩
      ·refine rO tb 1 U (A6 (Lo U isAgg3 qco) U (Az U U (Aa U)) ?_);refine rO tb 3 U ?_;refine A4 (s:=53) (Aa U) (fun c53=> ?_) (fun c53=> ?_)
       ·refine kO tb 6 [1,2,5,6,57] rfl U (rG tb 10 U (Aw (rX tb 2 U (Ai U (Ll U) ?_))))
        first|(exfalso;omega)|exact⟨_,⟨⟨1,rfl, .inr (.inl ⟨rfl,fun h=>absurd (h i qom) (by unfold endB;omega)⟩)⟩,rfl⟩,sbt⟩
       ·refine rO tb 1 U (A6 (Lo U isAgg3 qco) U (Az U U (Aa U)) ?_);refine kO tb 4 [1,2,5,6,57] rfl U ?_;refine Ae (Aa U) (fun c57=> ?_) (fun c57=> ?_)
        ·refine rC tb 9 U (Aw (rX tb 2 U (Ai U (Ll U) ?_)))
         first|(exfalso;omega)|exact⟨_,⟨⟨1,rfl, .inr (.inl ⟨rfl,fun h=>absurd (h i qom) (by unfold endB;omega)⟩)⟩,rfl⟩,sbt⟩
        ·refine rC tb 5 U ?_;refine y_ (Lp U isAgg56 sizeOf56 U (by exact Bj (l:=encOm (gd os i)) (o:=3) (k:=3) fdd)) ?_ U;refine y_ (Ax (qe1 U) call44 (fun H' hs=>chkr0_s (gd os i).m (hmM.mono (stn hs)) (hes.f qom) qom qom)) ?_ U;refine rO tb 9 U ?_;refine Ae (Aa U) (fun c62=> ?_) (fun c62=> ?_)
         ·refine rC tb 9 U (Aw (rX tb 2 U (Ai U (Ll U) ?_)))
          (exfalso;omega)
         ·refine rC tb 5 U (y_ (Aq (T U) Ao qom) ?_ U);refine rO tb 2 U ?_;refine An (i+1) ?_ ?_ ⟨qat,trivial⟩ ⟨Aa U,Aa U,trivial⟩ ?_
          ·refine⟨by omega,fun j hj=> ?_⟩
           by_cases e:j=i
           ·subst e;unfold endB;omega
           ·exact he j qom
          ·omega
          ·exact sbt
  ·refine rC tb 2 U (Af (rX tb 9 U ?_));refine Bb (X:=Nat) (V:=fun i=>[(8, .int .i64 (i:Nat))]) (C:=[(1,_)]) (φ:=fun i=>i≤os.length∧(∀ j,j<os.length→endB n.nodes.length (gd os j))∧∀ j,j<i→bdC (es j)=0) (μ:=fun i=>os.length - i) (x0:=0) ?_ ⟨Aa U,trivial⟩ ⟨qat,trivial⟩ ?_
   ·exact⟨Nat.zero_le _,fun j hj=>he j qom,fun j hj=>absurd hj (Nat.not_lt_zero _)⟩
   rintro i ⟨hi,he,hb⟩;refine rD tb 9 U ?_;refine Ae (Aa U) (fun c67=> ?_) (fun c67=> ?_)
   ·have hmM:RxM w0 H (gd os i).m:=hO.m _ (Ag qom);have hsz:=(hes i qom).2.1;have hdp:=(hes i qom).2.2.2;refine rC tb 8 U (y_ (Lq U U runUnderlying30 sizeOf58 qom (by first|exact rfl|exact hO.a.b (i:=i) qom)) ?_ U);refine rO tb 1 U (y_ (Lp U isAgg56 sizeOf56 U (by exact cells_app3 (l1:=[.int .i64 (gd os i).x, .int .i64 (gd os i).y, .int .i64 (gd os i).amt]) U ((hO.a.mono sbt).cs (i:=i) qom))) ?_ U);refine e_ (Am (qe1 U) call45 (rbuildX_s (gd os i).m (es i) (hes i qom).1 (hmM.mono sbt) (hes.lv qom) qom)) ?_ U;rintro _ _ ⟨mc,Mb,⟨rfl,_,_⟩,rfl⟩;refine rO tb 3 U (e_ (Aj zeroValue68 cs_) ?_ U);rintro _ _ ⟨n9,rfl,rfl⟩;refine A0 (Ls U U sizeOf68) U Ac ?_;rintro _ _ ⟨rfl,rfl⟩;refine rO tb 9 U ?_;refine Ae (Aa U) (fun c80=> ?_) (fun c80=> ?_)
    ·refine rC tb 8 U (Aw (rX tb 2 U (Ai U (Ll U) ?_)))
     first|(exfalso;omega)|exact⟨_,⟨⟨1,rfl, .inr (.inl ⟨rfl,fun h=>absurd (h i qom) (by unfold endB;omega)⟩)⟩,rfl⟩,sbt⟩|exact⟨_,⟨⟨2,rfl, .inr (.inr ⟨rfl,he,fun h=>absurd (h i qom) (by assumption)⟩)⟩,rfl⟩,sbt⟩
    ·refine rC tb 5 U (y_ (Aq (T U) Ao qom) ?_ U);refine rO tb 2 U ?_;refine An (i+1) ?_ ?_ ⟨qat,trivial⟩ ⟨Aa U,trivial⟩ ?_
     ·refine⟨by omega,he,fun j hj=> ?_⟩
      by_cases e:j=i
      ·subst e;exact Classical.not_not.1 (by assumption)
      ·exact hb j qom
     ·omega
     ·exact sbt
   ·refine rC tb 2 U (Af (rX tb 8 U (Ai U (Ll U) ?_)))
    first|(exfalso;omega)|exact⟨_,⟨⟨1,rfl, .inr (.inl ⟨rfl,fun h=>absurd (h i qom) (by unfold endB;omega)⟩)⟩,rfl⟩,sbt⟩|exact⟨_,⟨⟨2,rfl, .inr (.inr ⟨rfl,he,fun h=>absurd (h i qom) (by assumption)⟩)⟩,rfl⟩,sbt⟩|exact⟨_,⟨⟨0,rfl, .inl ⟨rfl,he,fun j hj=>hb j qom⟩⟩,rfl⟩,sbt⟩
theorem pcheckO_s {w0:World}{H:List (Nat × Obj)}(n:Nn)(hn:NetR w0 H n)(hnn:n.nodes.length≤1000000)(os:List Om)(qo:Option Addr)(co:Nat)(hO:OsM w0 H qo os)(es:Nat→Re)(hes:FewR os es)(hoz:os.length≤200)(hW:Arr w0 [] (some ⟨0,0,none⟩) 1 encS wordsL):
  FSpec Tryz.prog w0 16 #[.agg (encNn n).toArray, .slice qo os.length co] H (fun v H'=>(∃ c:Int,v= .int .i64 c∧ChkIs n.nodes.length os es c)∧H'=H):=by
 refine Ap Tryz.func16 U ntmps16 U ?_;have hno:=hO.n;refine rD tb 2 U (e_ (Lt U cs_) ?_ U);rintro _ _ ⟨n2,rfl,rfl⟩;refine rO tb 11 U ?_;refine Ae (Aa U) (fun c15=> ?_) (fun c15=> ?_)
 ·refine rC tb 7 U (Ai U (Ll U) ?_)
  (exfalso;omega)
 ·refine rC tb 5 U (y_ (Lo U isAgg22 qco) ?_ U);refine rO tb 1 U (y_ (Jj (T U) Ao qom) ?_ U);refine rO tb 12 U ?_;refine Bb (X:=Nat) (V:=fun i=>[(22, .int .i64 (i:Nat))]) (C:=[(1,_),(5,_),(20,_),(21,_)]) (φ:=fun i=>i≤os.length∧∀ j,j<i→endB n.nodes.length (gd os j)) (μ:=fun i=>os.length - i) (x0:=0) ?_ ⟨Aa U,Aa U,Aa U,Aa U,trivial⟩ ⟨qat,trivial⟩ ?_
  ·exact⟨Nat.zero_le _,fun j hj=>absurd hj (Nat.not_lt_zero _)⟩
  rintro i ⟨hi,he⟩;refine rD tb 6 U ?_;refine Ae (Aa U) (fun c23=> ?_) (fun c23=> ?_)
  ·have hmM:RxM w0 H (gd os i).m:=hO.m _ (Ag qom);have hsz:=(hes i qom).2.1;have hdp:=(hes i qom).2.2.2;refine rC tb 6 U (y_ (Lq U U runUnderlying30 sizeOf58 qom (by first|exact rfl|exact hO.a.b (i:=i) qom)) ?_ U);refine y_ (Lp U isAgg58 sizeOf58 U (by exact(hO.a.mono sbt).cs (i:=i) qom)) ?_ U;refine e_ (Aj zeroValue58 cs_) ?_ U;rintro _ _ ⟨n7,rfl,rfl⟩;refine A0 (Ls U U sizeOf58) U Ac ?_;rintro _ _ ⟨rfl,rfl⟩;refine rO tb 6 U (y_ (Lo U isAgg3 qco) ?_ U);refine rO tb 1 U (y_ (Ax (.cons (T U) (.cons Ao (.cons (T U) .nil))) call46 (fun H' hs=>F7 _ _ _)) ?_ U);refine A6 (Bc (T U)) U Ac ?_;refine rO tb 1 U ?_;refine A4 (s:=31) (Aa U) (fun c31=> ?_) (fun c31=> ?_)
   ·refine rO tb 24 U (Aw (rX tb 2 U (Ai U (Ll U) ?_)))
    first|(exfalso;omega)|exact⟨_,⟨⟨1,rfl, .inr (.inl ⟨rfl,fun h=>absurd (h i qom) (by unfold endB;omega)⟩)⟩,rfl⟩,sbt⟩
   ·refine rO tb 1 U (A6 (Lo U isAgg3 qco) U (Az U U (Aa U)) ?_);refine rO tb 1 U (A6 (Ax (.cons (T U) (.cons Ao (.cons (T U) .nil))) call46 (fun H' hs=>F7 _ _ _)) U (Az U U (Aa U)) ?_);refine A6 (Bc (T U)) U (Az U U (Aa U)) ?_;refine rO tb 2 U ?_;refine A4 (s:=38) (Aa U) (fun c38=> ?_) (fun c38=> ?_)
    ·refine rO tb 17 U (Aw (rX tb 2 U (Ai U (Ll U) ?_)))
     first|(exfalso;omega)|exact⟨_,⟨⟨1,rfl, .inr (.inl ⟨rfl,fun h=>absurd (h i qom) (by unfold endB;omega)⟩)⟩,rfl⟩,sbt⟩
    ·refine rO tb 1 U (A6 (Lo U isAgg3 qco) U (Az U U (Aa U)) ?_);refine A6 (Ax (.cons (T U) (.cons Ao (.cons Ao .nil))) call46 (fun H' hs=>F7 _ _ _)) U (Az U U (Aa U)) ?_;refine A6 (Bc (T U)) U (Az U U (Aa U)) ?_;refine rO tb 3 U ?_;refine Ae (Aa U) (fun c43=> ?_) (fun c43=> ?_)
     ·refine rC tb 9 U (Aw (rX tb 2 U (Ai U (Ll U) ?_)))
      first|(exfalso;omega)|exact⟨_,⟨⟨1,rfl, .inr (.inl ⟨rfl,fun h=>absurd (h i qom) (by unfold endB;omega)⟩)⟩,rfl⟩,sbt⟩
     ·refine rC tb 5 U ?_;refine y_ (Lp U isAgg56 sizeOf56 U (by exact Bj (l:=encOm (gd os i)) (o:=3) (k:=3) fdd)) ?_ U;refine y_ (Ax (qe1 U) call47 (fun H' hs=>pchk_s (gd os i).m (hmM.mono (stn hs)) qom qom (hes.f qom) hW)) ?_ U;refine kO tb 3 [1,5,8,20,21,22] rfl U (rG tb 6 U ?_);refine Ae (Aa U) (fun c48=> ?_) (fun c48=> ?_)
      ·refine rC tb 9 U (Aw (rX tb 2 U (Ai U (Ll U) ?_)))
       (exfalso;omega)
      ·refine rC tb 4 U (y_ (Aq (T U) Ao qom) ?_ U);refine rO tb 2 U ?_;refine An (i+1) ?_ ?_ ⟨qat,trivial⟩ ⟨Aa U,Aa U,Aa U,Aa U,trivial⟩ ?_
       ·refine⟨by omega,fun j hj=> ?_⟩
        by_cases e:j=i
        ·subst e;unfold endB;omega
        ·exact he j qom
       ·omega
       ·exact sbt
  ·refine rC tb 2 U (Af (rX tb 11 U ?_));refine Bb (X:=Nat) (V:=fun i=>[(53, .int .i64 (i:Nat))]) (C:=[(51,_),(52,_)]) (φ:=fun i=>i≤os.length∧(∀ j,j<os.length→endB n.nodes.length (gd os j))∧∀ j,j<i→bdC (es j)=0) (μ:=fun i=>os.length - i) (x0:=0) ?_ ⟨Aa U,Aa U,trivial⟩ ⟨qat,trivial⟩ ?_
   ·exact⟨Nat.zero_le _,fun j hj=>he j qom,fun j hj=>absurd hj (Nat.not_lt_zero _)⟩
   rintro i ⟨hi,he,hb⟩;refine rD tb 6 U ?_;refine Ae (Aa U) (fun c54=> ?_) (fun c54=> ?_)
   ·have hmM:RxM w0 H (gd os i).m:=hO.m _ (Ag qom);have hsz:=(hes i qom).2.1;have hdp:=(hes i qom).2.2.2;refine rC tb 6 U (y_ (Lq U U runUnderlying30 sizeOf58 qom (by first|exact rfl|exact hO.a.b (i:=i) qom)) ?_ U);refine y_ (Lp U isAgg58 sizeOf58 U (by exact(hO.a.mono sbt).cs (i:=i) qom)) ?_ U;refine e_ (Aj zeroValue58 cs_) ?_ U;rintro _ _ ⟨n10,rfl,rfl⟩;refine A0 (Ls U U sizeOf58) U Ac ?_;rintro _ _ ⟨rfl,rfl⟩;refine rO tb 5 U ?_;refine y_ (Lp U isAgg56 sizeOf56 U (by exact Bj (l:=encOm (gd os i)) (o:=3) (k:=3) fdd)) ?_ U;refine e_ (Am (qe1 U) call35 (buildMX_s (gd os i).m (es i) (hes i qom).1 (hmM.mono sbt) (hes.lv qom) (pm:=(buildF leastF (es i)).1) (cc:=(buildF leastF (es i)).2) U)) ?_ U;rintro _ _ ⟨mc,Mb,⟨rfl,_,_⟩,rfl⟩;refine rO tb 3 U (e_ (Aj zeroValue68 cs_) ?_ U);rintro _ _ ⟨n11,rfl,rfl⟩;refine A0 (Ls U U sizeOf68) U Ac ?_;rintro _ _ ⟨rfl,rfl⟩;refine rO tb 9 U ?_;refine Ae (Aa U) (fun c64=> ?_) (fun c64=> ?_)
    ·refine rC tb 8 U (Aw (rX tb 2 U (Ai U (Ll U) ?_)))
     first|(exfalso;omega)|exact⟨_,⟨⟨1,rfl, .inr (.inl ⟨rfl,fun h=>absurd (h i qom) (by unfold endB;omega)⟩)⟩,rfl⟩,sbt⟩|exact⟨_,⟨⟨2,rfl, .inr (.inr ⟨rfl,he,fun h=>absurd (h i qom) (by assumption)⟩)⟩,rfl⟩,sbt⟩
    ·refine rC tb 4 U (y_ (Aq (T U) Ao qom) ?_ U);refine rO tb 2 U ?_;refine An (i+1) ?_ ?_ ⟨qat,trivial⟩ ⟨Aa U,Aa U,trivial⟩ ?_
     ·refine⟨by omega,he,fun j hj=> ?_⟩
      by_cases e:j=i
      ·subst e;exact Classical.not_not.1 (by assumption)
      ·exact hb j qom
     ·omega
     ·exact sbt
   ·refine rC tb 2 U (Af (rX tb 8 U (Ai U (Ll U) ?_)))
    first|(exfalso;omega)|exact⟨_,⟨⟨1,rfl, .inr (.inl ⟨rfl,fun h=>absurd (h i qom) (by unfold endB;omega)⟩)⟩,rfl⟩,sbt⟩|exact⟨_,⟨⟨2,rfl, .inr (.inr ⟨rfl,he,fun h=>absurd (h i qom) (by assumption)⟩)⟩,rfl⟩,sbt⟩|exact⟨_,⟨⟨0,rfl, .inl ⟨rfl,he,fun j hj=>hb j qom⟩⟩,rfl⟩,sbt⟩
structure RgtR (n:Nm) (f:Flr) (os:List Om) (most:Int) (a:List Lr):Prop where
 net:NetOk n
 nn:n.nodes.length≤8
 nl:n.links.length≤16
 fl:f.links.length≤16
 few:FewS most os a
 os:∃ os2,OsOk (nnOf n) os os2
theorem few_es {most:Int}{os:List Om}{a:List Lr}(h:FewS most os a):∃ es:Nat→Re,FewR os es:=by
 classical
 exact⟨fun i=>if hi:i<os.length then Classical.choose (h.e i hi) else .emp,fun i hi=>by
  simp only[dif_pos hi];have:=Classical.choose_spec (h.e i hi);exact this⟩
theorem os_of {N:Nn}{os:List Om}{es:Nat→Re}(hes:FewR os es)(hl:os.length≤200)(h:ChkIs N.nodes.length os es 0):∃ os2,OsOk N os os2:=by
 obtain⟨h1,h2⟩:(∀ i,i<os.length→endB N.nodes.length (gd os i))∧∀ i,i<os.length→bdC (es i)=0:=by
  rcases h with ⟨_,a,b⟩|⟨e,_⟩|⟨e,_⟩
  ·exact⟨a,b⟩
  ·cases e
  ·cases e
 let g:Nat→Odr:=fun i=>⟨(gd os i).x.toNat,(gd os i).y.toNat,(gd os i).amt,es i⟩
 have hg:∀ i,i<os.length→gd ((List.range os.length).map g) i=g i:=fun i hi=>by
  rw[Ar (by simpa using hi)];simp
 refine⟨(List.range os.length).map g,⟨by simp,fun i hi=> ?_⟩,fun o ho=> ?_,fun m hm=> ?_,hl⟩
 ·rw[hg i hi];obtain⟨⟨a,_⟩,⟨b,_⟩,_⟩:=h1 i hi;exact⟨(Int.toNat_of_nonneg a).symm,(Int.toNat_of_nonneg b).symm,rfl,(hes i hi).1⟩
 ·obtain⟨i,hi,rfl⟩:=List.mem_map.1 ho;have hi':i<os.length:=by simpa using hi
  obtain⟨⟨a,b⟩,⟨c,d⟩,e,f⟩:=h1 i hi';exact⟨by show (gd os i).x.toNat<_;omega,by show (gd os i).y.toNat<_;omega,e,f,hes.lv hi',h2 i hi'⟩
 ·obtain⟨i,hi,rfl⟩:=List.getElem_of_mem hm;have:=(hes i hi).2.1;rw[Ar hi] at this;omega
theorem rcheckN_s {w0:World}{H:List (Nat × Obj)}(n:Nm)(hn:NetM w0 H n)(hok:NetOk n)(hnn:n.nodes.length≤1000000)(os:List Om)(qo:Option Addr)(co:Nat)(hO:OsM w0 H qo os)(es:Nat→Re)(hes:FewR os es)(hoz:os.length≤200):
  FSpec Tryz.prog w0 15 #[.agg (encNm n).toArray, .slice qo os.length co] H (fun v H'=>(∃ c:Int,v= .int .i64 c∧ChkIs n.nodes.length os es c)∧H'=H):=by
 rw[← nn_enc n];exact rcheckO_s (nnOf n) (K5 hn hok) hnn os qo co hO es hes hoz
theorem rright_s {w0:World}{H:List (Nat × Obj)}(n:Nm)(hn:NetM w0 H n)(f:Flr)(hf:Arr w0 H f.q 1 encI f.links)(hfl:f.links.length≤9223372036854775807)(os:List Om)(qo:Option Addr)(co:Nat)(hO:OsM w0 H qo os)(hoz:∀ o∈os,o.m.sz≤1048576)(most:Int)(hm:most≤6)(a:List Lr)(q1:Option Addr)(c1:Nat)(hA:ShM w0 H q1 a):
  FSpec Tryz.prog w0 26 #[.agg (encNm n).toArray, .agg (encFl f).toArray, .slice qo os.length co, .int .i64 most, .slice q1 a.length c1] H (fun v H'=>(∃ t:Bool,v= .bool t∧(t=true→RgtR n f os most a))∧H'=H):=by
 refine Ap Tryz.func26 U ntmps26 U (rD tb 2 U (e_ (Lt U cs_) ?_ U));rintro _ _ ⟨n5,rfl,rfl⟩;refine e_ (Lt U cs_) ?_ U;rintro _ _ ⟨n6,rfl,rfl⟩;refine rO tb 5 U (y_ (Lp U isAgg26 sizeOf26 U qcs) ?_ U);refine y_ (Ax (.cons (T U) (.cons Ao (.cons Ao (.cons Ao .nil)))) call11 (fun H' hs=>netFew_s n 8 16 20)) (rO tb 8 U (e_ (Am (qe3 U U U) call12 (fews_s os qo co (hO.mono sbt) hoz most a q1 c1 (hA.mono sbt))) ?_ U)) U;rintro _ _ ⟨⟨t12,rfl,ht12⟩,rfl⟩;refine rO tb 7 U ?_;refine A6 (Bc (T U)) U Ac ?_;refine rO tb 1 U ?_;refine A4 (s:=21) (Aa U) (fun c21=> ?_) (fun c21=> ?_)
 ·refine kO tb 22 [2,5,41] rfl U (rG tb 8 U (Ai U (Ll U) ?_));exact⟨_,⟨⟨false,rfl,fun h=>(by cases h)⟩,rfl⟩,sbt⟩
 ·refine rO tb 1 U ?_
  first|refine A6 (Bc (T U)) U (Az U U (Aa U)) ?_|refine A6 (By (T U)) U (Az U U (Aa U)) ?_
  refine rO tb 2 U ?_
  first|refine A4 (s:=25) (Aa U) (fun c25=> ?_) (fun c25=> ?_)|refine Eu (s:=25) (Aa U) (fun c25=> ?_) (fun c25=> ?_)
  ·refine kO tb 18 [2,5,41] rfl U (rG tb 8 U (Ai U (Ll U) ?_));exact⟨_,⟨⟨false,rfl,fun h=>(by cases h)⟩,rfl⟩,sbt⟩
  ·refine A6 (Lp U isAgg26 sizeOf26 U qcs) U (Az U U (Aa U)) ?_;refine A0 (Am (qe1 U) call13 (netCheck_s n (hn.mono sbt))) U (Az U U (Aa U)) ?_;rintro _ _ ⟨⟨e13,rfl,he13⟩,rfl⟩;refine rO tb 3 U ?_;refine A4 (s:=30) (Aa U) (fun c30=> ?_) (fun c30=> ?_)
   ·refine kO tb 13 [2,5,41] rfl U (rG tb 8 U (Ai U (Ll U) ?_));exact⟨_,⟨⟨false,rfl,fun h=>(by cases h)⟩,rfl⟩,sbt⟩
   ·refine rO tb 1 U (A6 (Lo U isAgg27 qco) U (Az U U (Aa U)) ?_);refine rO tb 4 U ?_;refine A4 (s:=36) (Aa U) (fun c36=> ?_) (fun c36=> ?_)
    ·refine kO tb 7 [2,5,41] rfl U (rG tb 8 U (Ai U (Ll U) ?_));exact⟨_,⟨⟨false,rfl,fun h=>(by cases h)⟩,rfl⟩,sbt⟩
    ·refine A6 (Lp U isAgg26 sizeOf26 U qcs) U (Az U U (Aa U)) ?_;refine A6 (Lp U isAgg29 sizeOf29 U qcs) U (Az U U (Aa U)) ?_;refine A0 (Am (qe2 U U) call14 (chkF_s n (hn.mono sbt) f (hf.mono sbt) hfl)) U (Az U U (Aa U)) ?_;rintro _ _ ⟨⟨e14,rfl⟩,rfl⟩;refine kO tb 4 [2,5,41] rfl U ?_;refine Ae (Aa U) (fun c41=> ?_) (fun c41=> ?_)
     ·refine rC tb 7 U (Ai U (Ll U) ?_);exact⟨_,⟨⟨false,rfl,fun h=>(by cases h)⟩,rfl⟩,sbt⟩
     ·have hfew:FewS most os a:=ht12 (by simpa using c25);have hnet:NetOk n:=he13 qom;obtain⟨es,hes⟩:=few_es hfew;have h19:(n.nodes.length:Int)≤8∧(n.links.length:Int)≤16∧(n.edges.length:Int)≤20:=by simpa using c21
      have hfl16:f.links.length≤16:=by omega
      refine rC tb 4 U (y_ (Lp U isAgg26 sizeOf26 U qcs) ?_ U);refine rO tb 1 U (e_ (Am (qe2 U U) call15 (rcheckN_s n (hn.mono sbt) hnet qom os qo co (hO.mono sbt) es hes (by have:=hfew.o;omega))) ?_ U);rintro _ _ ⟨⟨cc,rfl,hcc⟩,rfl⟩;refine rO tb 5 U (Ai U (Ll U) ?_);exact⟨_,⟨⟨_,rfl,fun h=>⟨hnet,by omega,by omega,hfl16,hfew,os_of hes (by have:=hfew.o;omega) ((of_decide_eq_true h) ▸ hcc)⟩⟩,rfl⟩,sbt⟩
theorem zbd56_0 (a0:Int)(w:World):(Instr.build 56 #[(0, .int .i64 a0)]).run Tryz.prog w= .ok (.agg #[.int .i64 a0, .string ⟨#[]⟩, .slice none 0 0]) w:=by kernel_rfl
theorem H5 (a0:Int)(a1:ByteArray)(w:World):(Instr.build 56 #[(0, .int .i64 a0),(1, .string a1)]).run Tryz.prog w= .ok (.agg #[.int .i64 a0, .string a1, .slice none 0 0]) w:=by kernel_rfl
theorem D6 (a0:Int)(a1:Option Addr)(a1n a1c:Nat)(w:World):(Instr.build 56 #[(0, .int .i64 a0),(2, .slice a1 a1n a1c)]).run Tryz.prog w= .ok (.agg #[.int .i64 a0, .string ⟨#[]⟩, .slice a1 a1n a1c]) w:=by kernel_rfl
theorem zbd58_1_2_3 (a0:Int)(a1:Int)(a2:Int)(a3:ByteArray)(a4:Option Addr)(a4n a4c:Nat)(w:World):(Instr.build 58 #[(1, .int .i64 a0),(2, .int .i64 a1),(3, .agg #[.int .i64 a2, .string a3, .slice a4 a4n a4c])]).run Tryz.prog w= .ok (.agg #[.int .i64 0, .int .i64 a0, .int .i64 a1, .int .i64 a2, .string a3, .slice a4 a4n a4c]) w:=by kernel_rfl
theorem zbs54_1_0 (a0:Int)(a1:ByteArray)(a2:Option Addr)(a2n a2c:Nat)(w:World):(Instr.buildSlice 54 1 #[(0, .agg #[.int .i64 a0, .string a1, .slice a2 a2n a2c])]).run Tryz.prog w= .ok (.slice (some ⟨w.heap.size,0,none⟩) 1 1) (w.alloc (Cl [.int .i64 a0, .string a1, .slice a2 a2n a2c] 56)):=by kernel_rfl
theorem Eg (a0:Int)(a1:ByteArray)(a2:Option Addr)(a2n a2c:Nat)(a3:Int)(a4:ByteArray)(a5:Option Addr)(a5n a5c:Nat)(w:World):(Instr.buildSlice 54 2 #[(0, .agg #[.int .i64 a0, .string a1, .slice a2 a2n a2c]),(1, .agg #[.int .i64 a3, .string a4, .slice a5 a5n a5c])]).run Tryz.prog w= .ok (.slice (some ⟨w.heap.size,0,none⟩) 2 2) (w.alloc (Cl [.int .i64 a0, .string a1, .slice a2 a2n a2c, .int .i64 a3, .string a4, .slice a5 a5n a5c] 56)):=by kernel_rfl
def anE:Re:= .star .any
def thE (s:ByteArray):Re:= .seq (.seq anE (.nod s)) anE
abbrev any0:Rxm:= .mk 3 ⟨#[]⟩ none 0 []
abbrev anM (n:Nat):Rxm:= .mk 6 ⟨#[]⟩ (some ⟨n,0,none⟩) 1 [any0]
abbrev ndM (s:ByteArray):Rxm:= .mk 2 s none 0 []
abbrev sqM (s:ByteArray) (n m:Nat):Rxm:= .mk 4 ⟨#[]⟩ (some ⟨m,0,none⟩) 2 [anM n,ndM s]
abbrev thM (s:ByteArray) (n m k:Nat):Rxm:= .mk 4 ⟨#[]⟩ (some ⟨k,0,none⟩) 2 [sqM s n m,anM n]
structure RxG (w0:World) (e:Re) (m:Rxm) (M:List (Nat × Obj)):Prop where
 i:Is m e
 mm:∀ X,RxM w0 (M++X) m
 z:m.sz≤40
 d:m.dp≤20
theorem thr0_s {w0:World}{H:List (Nat × Obj)}  :
  FSpec Tryz.prog w0 97 #[.string ⟨#[]⟩] H (fun v H'=>∃ (m:Rxm) (M:List (Nat × Obj)),(v= .agg (encRx m).toArray∧RxG w0 anE m M)∧H'=M++H):=by
 refine Ap Tryz.func97 U ntmps97 U (rD tb 2 U (e_ (Aj zeroValue56 cs_) ?_ U));rintro _ _ ⟨n2,rfl,rfl⟩;refine rO tb 4 U (y_ (Ay (.cons Ao .nil) (zbd56_0 _)) (e_ (Ah (.cons (T U) .nil) (zbs54_1_0 _ _ _ _ _)) ?_ U) U);rintro _ _ ⟨n6,rfl,rfl⟩;refine y_ (Ay (.cons Ao (.cons (T U) .nil)) (D6 _ _ _ _)) (e_ (Aj zeroValue56 cs_) ?_ U) U;rintro _ _ ⟨n3,rfl,rfl⟩;refine A0 (Ls U U sizeOf56) U Ac ?_;rintro _ _ ⟨rfl,rfl⟩;refine rO tb 6 U (y_ (Cb (T U) Ao) (rO tb 2 U ?_) U);refine Ae (Aa U) (fun c9=> ?_) (fun c9=> ?_)
 ·refine rC tb 2 U (y_ (Lp U isAgg56 sizeOf56 U qcs) ?_ U);refine A0 (Ls U U sizeOf56) U Ac ?_;rintro _ _ ⟨rfl,rfl⟩;refine rO tb 4 U (Ai U (.cellA (Aa U) isAgg56 sizeOf56 U qcs .nil) ?_);exact⟨_,⟨anM n6,[(n6,Cl (encRx any0) 56)],⟨rfl, .star .any,fun X=>rx1 rx0 A3,by simp[Rxm.sz,szL],by simp[Rxm.dp,dpL]⟩,rfl⟩,sbt⟩
 ·refine rC tb 4 U (y_ (Lp U isAgg56 sizeOf56 U qcs) ?_ U);refine rO tb 1 U (y_ (Ay (.cons Ao (.cons (T U) .nil)) (H5 _ _)) (e_ (Ah (.cons (T U) (.cons (T U) .nil)) (Eg _ _ _ _ _ _ _ _ _ _)) ?_ U) U);rintro _ _ ⟨n14,rfl,rfl⟩;refine y_ (Ay (.cons Ao (.cons (T U) .nil)) (D6 _ _ _ _)) (e_ (Aj zeroValue56 cs_) ?_ U) U;rintro _ _ ⟨n4,rfl,rfl⟩;refine A0 (Ls U U sizeOf56) U Ac ?_;rintro _ _ ⟨rfl,rfl⟩;refine rO tb 4 U (y_ (Lp U isAgg56 sizeOf56 U qcs) ?_ U);refine y_ (Lp U isAgg56 sizeOf56 U qcs) ?_ U;refine e_ (Ah (.cons (T U) (.cons (T U) .nil)) (Eg _ _ _ _ _ _ _ _ _ _)) ?_ U;rintro _ _ ⟨n18,rfl,rfl⟩;refine y_ (Ay (.cons Ao (.cons (T U) .nil)) (D6 _ _ _ _)) ?_ U;refine A0 (Ls U U sizeOf56) U Ac ?_;rintro _ _ ⟨rfl,rfl⟩;refine rO tb 3 U (Ai U (.cellA (Aa U) isAgg56 sizeOf56 U qcs .nil) ?_);exact absurd U c9
theorem thr1_s {w0:World}{H:List (Nat × Obj)}(s:ByteArray)(hz:s.size≠0)(hz2:s.size≤24):
  FSpec Tryz.prog w0 97 #[.string s] H (fun v H'=>∃ (m:Rxm) (M:List (Nat × Obj)),(v= .agg (encRx m).toArray∧RxG w0 (thE s) m M)∧H'=M++H):=by
 refine Ap Tryz.func97 U ntmps97 U (rD tb 2 U (e_ (Aj zeroValue56 cs_) ?_ U));rintro _ _ ⟨n2,rfl,rfl⟩;refine rO tb 4 U (y_ (Ay (.cons Ao .nil) (zbd56_0 _)) (e_ (Ah (.cons (T U) .nil) (zbs54_1_0 _ _ _ _ _)) ?_ U) U);rintro _ _ ⟨n6,rfl,rfl⟩;refine y_ (Ay (.cons Ao (.cons (T U) .nil)) (D6 _ _ _ _)) (e_ (Aj zeroValue56 cs_) ?_ U) U;rintro _ _ ⟨n3,rfl,rfl⟩;refine A0 (Ls U U sizeOf56) U Ac ?_;rintro _ _ ⟨rfl,rfl⟩;refine rO tb 6 U (y_ (Cb (T U) Ao) (rO tb 2 U ?_) U);refine Ae (Aa U) (fun c9=> ?_) (fun c9=> ?_)
 ·refine rC tb 2 U (y_ (Lp U isAgg56 sizeOf56 U qcs) ?_ U);refine A0 (Ls U U sizeOf56) U Ac ?_;rintro _ _ ⟨rfl,rfl⟩;refine rO tb 4 U (Ai U (.cellA (Aa U) isAgg56 sizeOf56 U qcs .nil) ?_);exact absurd (by rw[ByteArray.ext (Array.ext' c9)];rfl) hz
 ·refine rC tb 4 U (y_ (Lp U isAgg56 sizeOf56 U qcs) ?_ U);refine rO tb 1 U (y_ (Ay (.cons Ao (.cons (T U) .nil)) (H5 _ _)) (e_ (Ah (.cons (T U) (.cons (T U) .nil)) (Eg _ _ _ _ _ _ _ _ _ _)) ?_ U) U);rintro _ _ ⟨n14,rfl,rfl⟩;refine y_ (Ay (.cons Ao (.cons (T U) .nil)) (D6 _ _ _ _)) (e_ (Aj zeroValue56 cs_) ?_ U) U;rintro _ _ ⟨n4,rfl,rfl⟩;refine A0 (Ls U U sizeOf56) U Ac ?_;rintro _ _ ⟨rfl,rfl⟩;refine rO tb 4 U (y_ (Lp U isAgg56 sizeOf56 U qcs) ?_ U);refine y_ (Lp U isAgg56 sizeOf56 U qcs) ?_ U;refine e_ (Ah (.cons (T U) (.cons (T U) .nil)) (Eg _ _ _ _ _ _ _ _ _ _)) ?_ U;rintro _ _ ⟨n18,rfl,rfl⟩;refine y_ (Ay (.cons Ao (.cons (T U) .nil)) (D6 _ _ _ _)) ?_ U;refine A0 (Ls U U sizeOf56) U Ac ?_;rintro _ _ ⟨rfl,rfl⟩;refine rO tb 3 U (Ai U (.cellA (Aa U) isAgg56 sizeOf56 U qcs .nil) ?_);exact⟨_,⟨thM s n6 n14 n18,[(n18,Cl (encRx (sqM s n6 n14)++encRx (anM n6)) 56),(n14,Cl (encRx (anM n6)++encRx (ndM s)) 56),(n6,Cl (encRx any0) 56)],⟨rfl, .seq (.seq (.star .any) (.nod hz)) (.star .any),fun X=>rx2 (rx2 (rx1 rx0 fdd) (rx0 qom) fdd) (rx1 rx0 fdd) fdd,by simp[Rxm.sz,szL],by simp[Rxm.dp,dpL]⟩,rfl⟩,sbt⟩
theorem thrX_s {w0:World}{H:List (Nat × Obj)}(s:ByteArray)(e:Re)(h:(s=⟨#[]⟩∧e=anE)∨(s.size≠0∧s.size≤24)∧e=thE s):
  FSpec Tryz.prog w0 97 #[.string s] H (fun v H'=>∃ (m:Rxm) (M:List (Nat × Obj)),(v= .agg (encRx m).toArray∧RxG w0 e m M)∧H'=M++H):=by
 rcases h with ⟨rfl,rfl⟩|⟨⟨h1,h2⟩,rfl⟩
 ·exact thr0_s
 ·exact thr1_s s h1 h2
theorem Ji {w0:World}{H:List (Nat × Obj)}(a:Int)(s:ByteArray)(e:Re)(h:(s=⟨#[]⟩∧e=anE)∨(s.size≠0∧s.size≤24)∧e=thE s):
  FSpec Tryz.prog w0 39 #[.int .i64 a, .string s] H (fun v H'=>∃ (m:Rxm) (M:List (Nat × Obj)),(v= .agg (encOm ⟨0,3,a,m⟩).toArray∧RxG w0 e m M)∧H'=M++H):=by
 refine Ap Tryz.func39 U ntmps39 U (rD tb 2 U (e_ (Aj zeroValue58 cs_) ?_ U));rintro _ _ ⟨n4,rfl,rfl⟩;refine rO tb 6 U (e_ (Am (qe1 U) call97 ((thrX_s s e h))) ?_ U);rintro _ _ ⟨m,M,⟨rfl,hg⟩,rfl⟩;refine y_ (Ay (.cons Ao (.cons (T U) (.cons (T U) .nil))) (zbd58_1_2_3 _ _ _ _ _ _ _)) ?_ U;refine A0 (Ls U U sizeOf58) U Ac ?_;rintro _ _ ⟨rfl,rfl⟩;refine rO tb 3 U (Ai U (.cellA (Aa U) isAgg58 sizeOf58 U qcs .nil) ?_);exact⟨_,⟨m,M,⟨rfl,hg⟩,rfl⟩,sbt⟩
theorem none_s {w0:World}{H:List (Nat × Obj)}  :
  FSpec Tryz.prog w0 38 #[] H (Still (.agg #[.slice none 0 0, .int .i64 (-1)]) H):=by
 refine Ap Tryz.func38 U ntmps38 U (rD tb 2 U (e_ (Aj zeroValue29 cs_) ?_ U));rintro _ _ ⟨n0,rfl,rfl⟩;refine rO tb 4 U (y_ (Ay (.cons Ao .nil) (zbd29_1 _)) ?_ U);refine A0 (Ls U U sizeOf29) U Ac ?_;rintro _ _ ⟨rfl,rfl⟩;refine rO tb 3 U (Ai U (.cellA (Aa U) isAgg29 sizeOf29 U qcs .nil) ?_);exact⟨_,⟨rfl,rfl⟩,sbt⟩
theorem sI_mem {α:Type}{f:α→Int}:∀ {l:List α},(∀ x∈l,0≤f x)→∀ x∈l,f x≤sI l f
 |y::l,h,x,hx=>by
  have h0:=h y (by simp);have h1:=Hp (f:=f) (l:=l) fun z hz=>h z (by simp[hz])
  rcases List.mem_cons.1 hx with rfl|hx
  ·show f x≤f x+sI l f;omega
  ·have:=sI_mem (f:=f) (l:=l) (fun z hz=>h z (by simp[hz])) x hx;show f x≤f y+sI l f;omega
theorem sI_len {α:Type}{f:α→Int}:∀ {l:List α},(∀ x∈l,1≤f x)→(l.length:Int)≤sI l f
 |[],_=>by simp[sI]
 |y::l,h=>by
  have h0:=h y (by simp);have h1:=sI_len (f:=f) (l:=l) fun z hz=>h z (by simp[hz])
  simp only[List.length_cons,sI];omega
theorem rounds_inv {n:Nn}{f:Flr}{o:Odr}{P:List Sha→Prop}(hP:∀ {own:List Sha} {l:List Nat} {ld ld2:List Int},P own→partF n f o ld=some (l,ld2)→P (putS l own)):∀ {k:Nat} {ld ld2:List Int} {own own2:List Sha} {b:Bool},roundsF n f o k ld own=(b,ld2,own2)→P own→P own2
 |0,ld,ld2,own,own2,b,e,h=>by
  rw[roundsF] at e;obtain⟨_,e2⟩:=Prod.mk.inj e;obtain⟨_,rfl⟩:=Prod.mk.inj e2;exact h
 |k+1,ld,ld2,own,own2,b,e,h=>by
  cases hp:partF n f o ld with
  |none=>
   rw[Gb hp] at e;obtain⟨_,e2⟩:=Prod.mk.inj e;obtain⟨_,rfl⟩:=Prod.mk.inj e2;exact h
  |some x=>
   obtain⟨l,ld3⟩:=x;rw[Gq hp] at e;exact rounds_inv hP e (hP h hp)
theorem goR_inv {n:Nn}{f:Flr}{P:List Sha→Prop}(h0:P []):∀ {os:List Odr} {ld:List Int} {out sh:List (List Sha)} {r:Option (List Int × Odr)},(∀ o∈os,∀ {own:List Sha} {l:List Nat} {ld ld2:List Int},P own→partF n f o ld=some (l,ld2)→P (putS l own))→goR n f os ld out=(sh,r)→(∀ x∈out,P x)→∀ x∈sh,P x
 |[],ld,out,sh,r,_,e,h=>by
  obtain⟨rfl,_⟩:=Prod.mk.inj (show (out,none)=(sh,r) from e);exact h
 |o::os,ld,out,sh,r,hP,e,h=>by
  cases hr:roundsF n f o 16 ld [] with
  |mk b x=>
   obtain⟨ld2,own⟩:=x;cases b with
   |false=>
    rw[Kl hr] at e;obtain⟨rfl,_⟩:=Prod.mk.inj e;exact h
   |true=>
    rw[goR_yes hr] at e;refine goR_inv h0 (fun o ho=>hP o (by simp[ho])) e fun x hx=> ?_
    rcases List.mem_append.1 hx with hx|hx
    ·exact h x hx
    ·simp at hx;subst hx;exact rounds_inv (hP o (by simp)) hr h0
def Rg (r:List Sha):Prop:=SrtS r∧∀ s∈r,s.l.length≤2400
theorem part_len {n:Nn}(hok:NnOk n){f:Flr}{o:Odr}(ho:OdrOk n o){l:List Nat}{ld ld2:List Int}(h:partF n f o ld=some (l,ld2)):l.length≤2400:=by
 unfold partF at h
 split at h
 ·obtain⟨x,_,h2⟩:=Option.map_eq_some_iff.1 h;obtain⟨rfl,_⟩:=Prod.mk.inj h2;exact I9 hok ho.mce.ok ho.x
 ·cases h
theorem route_rg {n:Nn}(hok:NnOk n){f:Flr}{os:List Odr}(ho:∀ o∈os,OdrOk n o){sh:List (List Sha)}{r:Option (List Int × Odr)}(e:routeF n f os=(sh,r)):∀ x∈sh,Rg x:=
 goR_inv ⟨List.Pairwise.nil,fun s hs=>by cases hs⟩ (fun o h own l ld ld2 hg hp=>⟨G9 l hg.1,fun s hs=>by
  rcases putS_mem hs with h1|h1
  ·rw[h1];exact part_len hok (ho o h) hp
  ·exact hg.2 s h1⟩) e (fun x hx=>by cases hx)
theorem fits_row {n:Nn}{f:Flr}{os:List Odr}{a:List Lr}(h:FitsP n f os (shOf a)){i:Nat}(hi:i<a.length):(gd os i,rowOf (gd a i))∈os.zip (shOf a):=by
 have hl:=h.len;rw[List.length_map] at hl;exact List.mem_of_getElem? (i:=i) (by rw[← J4 hi];exact gd_zip qom (by rw[List.length_map];exact hi))
theorem route_fitC {n:Nn}(hok:NnOk n)(hc:∀ x∈n.links,0≤x.cap){f:Flr}{os:List Odr}{sh:List (List Sha)}(ho:∀ o∈os,OdrOk n o)(e:routeF n f os=(sh,none)){a:List Lr}(ha:shOf a=sh.map (List.map Sha.lan)):FitC n f os a 0:=by
 have hf:=route_fits hok hc (fun o h=>⟨ho o h,(ho o h).mce⟩) e;rw[← ha] at hf;have hrg:=route_rg hok ho e;have hl:a.length=os.length:=by have:=hf.len;rwa [List.length_map] at this
 have hls:sh.length=a.length:=by have:=congrArg List.length ha;simpa using this.symm
 have hrow:∀ i,i<a.length→rowOf (gd a i)=(gd sh i).map Sha.lan:=fun i hi=>by
  rw[← J4 hi,ha,Bv qom]
 have hpos:∀ i,i<a.length→∀ s∈(gd a i).l,1≤s.p:=fun i hi s hs=>hf.pos _ (fits_row hf hi) s.lan (List.mem_map.2 ⟨s,hs,rfl⟩)
 have hsum:∀ i,i<a.length→sI (gd a i).l Lm.p=16:=fun i hi=>by rw[row_sum];exact hf.sum _ (fits_row hf hi)
 refine .of ⟨hl,fun i hi=>⟨fun k hk=>⟨hpos i hi _ (Ag hk),?_,fun h0=> ?_⟩,hsum i hi⟩⟩ (fun i hi k hk=>hf.holds _ (fits_row hf hi) (gd (gd a i).l k).lan (List.mem_map.2 ⟨_,Ag hk,rfl⟩)) hf.cap
 ·have:=sI_mem (f:=Lm.p) (l:=(gd a i).l) (fun s hs=>by have:=hpos i hi s hs;omega) _ (Ag hk);have:=hsum i hi;omega
 ·have hrl:(gd sh i).length=(gd a i).l.length:=by have:=congrArg List.length (hrow i hi);simpa using this.symm
  have hk2:∀ j,j<(gd a i).l.length→(gd (gd a i).l j).l=toInts (gd (gd sh i) j).l:=fun j hj=>by
   have h9:gd (rowOf (gd a i)) j=gd ((gd sh i).map Sha.lan) j:=by rw[hrow i hi]
   rw[Bv hj,Bv qom] at h9;exact congrArg Lan.l h9
  rw[hk2 _ qom,hk2 _ hk];have hs:=(hrg _ (Ag (l:=sh) (i:=i) qom)).1;have:=List.pairwise_iff_getElem.1 hs (k - 1) k qom qom qom;rw[← Ar (l:=gd sh i) (i:=k - 1) qom,← Ar (l:=gd sh i) (i:=k) qom] at this;exact lxB_cmp.1 this
theorem route_shf {n:Nn}(hok:NnOk n)(hc:∀ x∈n.links,0≤x.cap){f:Flr}{os:List Odr}{sh:List (List Sha)}(ho:∀ o∈os,OdrOk n o)(hl:os.length≤100)(e:routeF n f os=(sh,none)){a:List Lr}(ha:shOf a=sh.map (List.map Sha.lan)):ShF a:=by
 have hfc:=(route_fitC hok hc ho e ha).ok.1;have hrg:=route_rg hok ho e;have hla:=hfc.1;have hls:sh.length=a.length:=by have:=congrArg List.length ha;simpa using this.symm
 refine⟨by omega,fun r hr=> ?_⟩;obtain⟨i,hi,rfl⟩:=List.getElem_of_mem hr;have h1:=hfc.2 i hi;rw[Ar hi] at h1;refine⟨?_,fun s hs=> ?_⟩
 ·have:=sI_len (f:=Lm.p) (l:=a[i].l) fun s hs=>by
   obtain⟨k,hk,rfl⟩:=List.getElem_of_mem hs;have:=(h1.1 k hk).1
   rwa [Ar hk] at this
  have:=h1.2;omega
 ·have h9:rowOf a[i]=(gd sh i).map Sha.lan:=by rw[← Ar hi,← J4 hi,ha,Bv qom]
  have h8:s.lan∈(gd sh i).map Sha.lan:=by rw[← h9];exact List.mem_map.2 ⟨s,hs,rfl⟩
  obtain⟨u,hu,e2⟩:=List.mem_map.1 h8;have h7:s.l=toInts u.l:=(congrArg Lan.l e2).symm;rw[h7,List.length_map];have:=(hrg _ (Ag (l:=sh) (i:=i) qom)).2 u hu;omega
theorem Lc {w0:World}{K:List (Nat × Obj)}{n:Nn}{f:Flr}{os:List Odr}{v:Value}(h:RteV w0 K n f os v){sh:List (List Sha)}(e:routeF n f os=(sh,none)):∃ (q:Option Addr) (c:Nat) (a:List Lr),v= .tuple #[.slice q a.length c, .slice none 0 0, .int .i64 0]∧ShM w0 K q a∧shOf a=sh.map (List.map Sha.lan):=by
 rcases h with ⟨sh2,q,c,a,⟨e2,hv⟩,hs,ha⟩|⟨sh2,ld,o,q,c,⟨e2,hv⟩,_⟩
 ·rw[e] at e2;obtain⟨rfl,_⟩:=Prod.mk.inj e2;exact⟨q,c,a,hv,hs,ha⟩
 ·rw[e] at e2;cases (Prod.mk.inj e2).2
theorem rte_no {w0:World}{K:List (Nat × Obj)}{n:Nn}{f:Flr}{os:List Odr}{v:Value}(h:RteV w0 K n f os v){sh:List (List Sha)}{ld:List Int}{o:Odr}(e:routeF n f os=(sh,some (ld,o))):∃ (q:Option Addr) (c:Nat),v= .tuple #[.slice none 0 0, .slice q (stuckF n f os o ld).1.length c, .int .i64 (stuckF n f os o ld).2]∧Arr w0 K q 1 encI (stuckF n f os o ld).1∧(stuckF n f os o ld).1.length≤1000:=by
 rcases h with ⟨sh2,q,c,a,⟨e2,hv⟩,hs,ha⟩|⟨sh2,ld2,o2,q,c,⟨e2,hv⟩,hA,hl⟩
 ·rw[e] at e2;cases (Prod.mk.inj e2).2
 ·rw[e] at e2;obtain⟨_,e3⟩:=Prod.mk.inj e2;obtain⟨rfl,rfl⟩:=Prod.mk.inj (Option.some.inj e3);exact⟨q,c,hv,hA,hl⟩
def stkOf (n:Nn) (f:Flr) (os:List Odr):Option (List Int × Int):=(routeF n f os).2.map fun x=>stuckF n f os x.2 x.1
theorem rte_stk {w0:World}{K:List (Nat × Obj)}{n:Nn}{f:Flr}{os:List Odr}{v:Value}(h:RteV w0 K n f os v){pr:List Int}{c:Int}(e:stkOf n f os=some (pr,c)):∃ (q:Option Addr) (cp:Nat),v= .tuple #[.slice none 0 0, .slice q pr.length cp, .int .i64 c]∧Arr w0 K q 1 encI pr:=by
 unfold stkOf at e;obtain⟨⟨ld,o⟩,h1,h2⟩:=Option.map_eq_some_iff.1 e;obtain⟨q,cp,hv,hA,_⟩:=rte_no h (show routeF n f os=((routeF n f os).1,some (ld,o)) by rw[← h1]);have h2':stuckF n f os o ld=(pr,c):=h2;rw[h2'] at hv hA;exact⟨q,cp,hv,hA⟩
abbrev noF:Flr:=⟨none,0,[], -1⟩
abbrev oSn (a:Int) (e:Re):Odr:=⟨0,3,a,e⟩
def baE:Re:= .seq (.nod ⟨#[98]⟩) (.nod ⟨#[97]⟩)
section
variable (n1 n2 n3:Nat)
theorem sr1:routeF (exN n1 n2 n3) noF [oSn 10 anE]=([[⟨[0,1],16⟩]],none):=by kernel_rfl
theorem sr2:routeF (exN n1 n2 n3) noF [oSn 20 anE]=([[⟨[0,1],8⟩,⟨[2,3],8⟩]],none):=by kernel_rfl
theorem sr3:stkOf (exN n1 n2 n3) noF [oSn 21 anE]=some ([1,1,1,1,0,0],19):=by kernel_rfl
theorem sr4:routeF (exN n1 n2 n3) noF [oSn 10 (thE ⟨#[99]⟩),oSn 10 anE]=([[⟨[2,3],16⟩],[⟨[0,1],16⟩]],none):=by kernel_rfl
theorem sr5:stkOf (exN n1 n2 n3) noF [oSn 10 anE,oSn 10 (thE ⟨#[98]⟩)]=some ([1,1,0,0,0,0],27):=by kernel_rfl
theorem sr6:stkOf (exN n1 n2 n3) noF [⟨1,0,5,baE⟩]=some ([],18):=by
 have hm:mOf baE=(buildC baE).1:=congrArg Prod.fst (buildF_eq baE);have h1:findF (exN n1 n2 n3) (fullF (exN n1 n2 n3) noF (List.replicate 6 0) 5) (mOf baE) 1 0=([],18):=by rw[hm];kernel_rfl
 have h2:findF (exN n1 n2 n3) noF (mOf baE) 1 0=([],18):=by rw[hm];kernel_rfl
 have hp:partF (exN n1 n2 n3) noF ⟨1,0,5,baE⟩ (List.replicate 6 0)=none:=J7 (o:=⟨1,0,5,baE⟩) h1 qde;have hr:routeF (exN n1 n2 n3) noF [⟨1,0,5,baE⟩]=([],some (List.replicate 6 0,⟨1,0,5,baE⟩)):=Kl (Gb (j:=15) hp);unfold stkOf;rw[hr];show some (stuckF _ _ _ _ _)=_;unfold stuckF;rw[h2]
 rfl
theorem sp1:priceF (exN n1 n2 n3) noF (oSn 1 (thE ⟨#[99]⟩)) [1,1,5,1,1,1]=some 3:=by kernel_rfl
theorem sf1:refF (exN n1 n2 n3) noF [oSn 21 anE] [1,1,1,1,0,0]=true:=by kernel_rfl
theorem Fs:∀ x∈(exN n1 n2 n3).links,0≤x.cap∧x.cap≤1048576:=fun x hx=>by
 have h:∀ x∈exLinks,0≤x.cap∧x.cap≤1048576:=by decide
 exact h x hx
theorem Eh {a:Int}(ha:0≤a∧a≤1048576){e:Re}(hl:e.lv≤64)(hb:(buildF leastF e).2=0):OdrOk (exN n1 n2 n3) (oSn a e):=⟨by show 0<4;decide,by show 3<4;decide,ha.1,ha.2,hl,hb⟩
end
theorem bd0:(buildF leastF anE).2=0:=by kernel_rfl
theorem bd1:(buildF leastF (thE ⟨#[98]⟩)).2=0:=by kernel_rfl
theorem bd2:(buildF leastF (thE ⟨#[99]⟩)).2=0:=by kernel_rfl
theorem bd3:(buildF leastF baE).2=0:=by rw[buildF_eq];kernel_rfl
theorem Km {N:Nn}{x y:Nat}{a:Int}{e:Re}{m:Rxm}(h:OdrOk N ⟨x,y,a,e⟩)(hi:Is m e)(hz:m.sz≤40):OsOk N [⟨x,y,a,m⟩] [⟨x,y,a,e⟩]:=
 ⟨⟨rfl,fun i hi'=>by
  obtain rfl:i=0:=by simpa using hi'
  exact⟨rfl,rfl,rfl,hi⟩⟩,fun o ho=>by obtain rfl:=List.mem_singleton.1 ho;exact h,fun o ho=>by obtain rfl:=List.mem_singleton.1 ho;show m.sz≤90000;omega,by show 1≤200;decide⟩
theorem Js {N:Nn}{x y x' y':Nat}{a a':Int}{e e':Re}{m m':Rxm}(h:OdrOk N ⟨x,y,a,e⟩)(h':OdrOk N ⟨x',y',a',e'⟩)(hi:Is m e)(hi':Is m' e')(hz:m.sz≤40)(hz':m'.sz≤40):OsOk N [⟨x,y,a,m⟩,⟨x',y',a',m'⟩] [⟨x,y,a,e⟩,⟨x',y',a',e'⟩]:=
 ⟨⟨rfl,fun i hi9=>by
  have hi8:i<2:=hi9
  match i,hi8 with
  |0,_=>exact⟨rfl,rfl,rfl,hi⟩
  |1,_=>exact⟨rfl,rfl,rfl,hi'⟩⟩,fun o ho=>by
   rcases List.mem_cons.1 ho with rfl|ho
   ·exact h
   ·obtain rfl:=List.mem_singleton.1 ho;exact h',fun o ho=>by
   rcases List.mem_cons.1 ho with rfl|ho
   ·show m.sz≤90000;omega
   ·obtain rfl:=List.mem_singleton.1 ho;show m'.sz≤90000;omega,by show 2≤200;decide⟩
theorem sh_two {a:List Lr}{x y:List Lan}(h:shOf a=[x,y]):∃ r s,a=[r,s]∧rowOf r=x∧rowOf s=y:=by
 match a,h with
 |[r,s],h=>
  obtain⟨h1,h2⟩:=List.cons.inj h;exact⟨r,s,rfl,h1,(List.cons.inj h2).1⟩
theorem row_one {r:Lr}{l:List Int}{p:Int}(h:rowOf r=[⟨l,p⟩]):∃ q c q2 c2,r=⟨q,c,[⟨q2,c2,l,p⟩]⟩:=by
 obtain⟨q,c,s⟩:=r
 match s,h with
 |[⟨q2,c2,l2,p2⟩],h=>
  have h1:=(List.cons.inj h).1;obtain⟨rfl,rfl⟩:l2=l∧p2=p:=⟨congrArg Lan.l h1,congrArg Lan.p h1⟩;exact⟨q,c,q2,c2,rfl⟩
theorem Eff.mono {P:Program}{w0:World}{op:Op}{ty:TypeId}{L:Fm}{H:List (Nat × Obj)}{K K':Value→List (Nat × Obj)→Prop}(he:Eff P w0 op ty L H K)(hk:∀ v H',K v H'→K' v H'):Eff P w0 op ty L H K':=⟨he.1,fun b w hO=>by
 have h:=he.2 b w hO
 revert h
 generalize ((exO (ev (lk L b)) op ty).run P w)=r;intro h;cases r with
 |ok n w'=>
  cases n with
  |value v=>obtain⟨H',h1,h2⟩:=h;exact⟨H',h1,hk _ _ h2⟩
  |skip=>obtain⟨H',h1,h2⟩:=h;exact⟨H',h1,hk _ _ h2⟩
  |enter f args=>exact Calls.mono h fun e w'' ⟨v,H',h1,h2,h3⟩=>⟨v,H',h1,h2,hk _ _ h3⟩
  |round l f tmps assign body=>exact RoundIn.mono h fun e w'' ⟨v,H',h1,h2,h3⟩=>⟨v,H',h1,h2,hk _ _ h3⟩
  |_=>exact h
 |_=>exact h⟩
theorem wpO_perm {P:Program}{r:Option Nat}{ops:Array Oper}{Q:Exit→Act→World→Prop}{w0:World}{H0 H1 H2:List (Nat × Obj)}{t f:Nat}{listed:Array Bool}{a:Act}(hp:H2.Perm H1)(h:wpO P r ops Q w0 H0 t f listed a H1):wpO P r ops Q w0 H0 t f listed a H2:=by
 cases f with
 |zero=>exact⟨h.1,fun w hO=>h.2 w (Bz hO hp)⟩
 |succ f=>exact⟨h.1,fun i hi hit w hO=>h.2 i hi hit w (Bz hO hp)⟩
theorem lk_swap {L:Fm}{k1 k2:Nat}{v1 v2:Value}(hne:Nat.beq k1 k2=false)(b:Nat→Value):lk (pt (some k1) v1 (pt (some k2) v2 L)) b=lk (pt (some k2) v2 (pt (some k1) v1 L)) b:=by
 funext k
 simp only[pt,lk];cases h1:Nat.beq k1 k<;>cases h2:Nat.beq k2 k<;>simp_all
theorem jx_conv {P:Program}{r:Option Nat}{N:Nat}{w0:World}{H0 H1 H2:List (Nat × Obj)}{ops:Array Oper}{t f:Nat}{listed:Array Bool}{Q:Post}{L1 L2:Fm}{ds:List Deferred}(hL:∀ b,lk L2 b=lk L1 b)(hp:H2.Perm H1)(hs:H0.Sublist H1)(h:JX P r N w0 H1 ops t f listed Q L1 ds H1):JX P r N w0 H0 ops t f listed Q L2 ds H2:=
 fun hT hD hS hP _ inv b a hsz hf hd=>K8 hs _ _ _ _ (wpO_perm hp (h hT hD hS hP (List.Sublist.refl _) inv b a hsz (hf.trans (hL b)) hd))
theorem Lk {P:Program}{r:Option Nat}{N:Nat}{w0:World}{H0 H:List (Nat × Obj)}{ops:Array Oper}{t f:Nat}{listed:Array Bool}{Q:Post}{L:Fm}{ds:List Deferred}(h:JX P r N w0 H ops t f listed Q L ds H):JX P r N w0 H0 ops t f listed Q L ds H:=fun hT hD hS hP hs inv b a hsz hf hd=>
 K8 hs _ _ _ _ (h hT hD hS hP (List.Sublist.refl _) inv b a hsz hf hd)
section
variable {P:Program} {r:Option Nat} {N:Nat} {w0:World} {H0 H:List (Nat × Obj)} {ops:Array Oper} {t f:Nat} {listed:Array Bool} {Q:Post} {L:Fm} {ds:List Deferred} {i j k1 k2:Nat} {op1 op2:Op} {ty1 ty2:TypeId} {p1 p2:String} {af1 af2:Array Edge} {g1 g2:Option (Nat × Bool)} {A B:Type} {v1:A→Value} {v2:B→Value} {M1:A→List (Nat × Obj)} {M2:B→List (Nat × Obj)} {φ1:A→Prop} {φ2:B→Prop}
theorem x_twoA (hr:Region.ready md ops listed=[i,j])(hit:Nat.blt i t=true)(hjt:Nat.blt j t=true)(hrj:Region.ready md ops (listed.setIfInBounds i true)=[j])(hri:Region.ready md ops (listed.setIfInBounds j true)=[i])(hij:Nat.beq i j=false)
  (hoi:ops[i]? =some ⟨some k1,op1,ty1,p1,af1,g1⟩) (hoj:ops[j]? =some ⟨some k2,op2,ty2,p2,af2,g2⟩) (hk:Nat.beq k1 k2=false)
  (h1:∀ L' H',H.Sublist H'→(L'=L∨∃ b,L'=pt (some k2) (v2 b) L)→Eff P w0 op1 ty1 L' H' (fun v H''=>∃ a,(v=v1 a∧φ1 a)∧H''=M1 a++H'))
  (h2:∀ L' H',H.Sublist H'→(L'=L∨∃ a,L'=pt (some k1) (v1 a) L)→Eff P w0 op2 ty2 L' H' (fun v H''=>∃ b,(v=v2 b∧φ2 b)∧H''=M2 b++H'))
  (hN1:dOk (some k1) N=true) (hN2:dOk (some k2) N=true) (hg1:Gd ops L g1 N true) (hg2:Gd ops L g2 N true) (hg1':∀ b,Gd ops (pt (some k2) (v2 b) L) g1 N true) (hg2':∀ a,Gd ops (pt (some k1) (v1 a) L) g2 N true)
  (hs0:H0.Sublist H) (h:∀ a b,φ1 a→φ2 b→JX P r N w0 (M2 b++(M1 a++H)) ops t f ((listed.setIfInBounds i true).setIfInBounds j true) Q (pt (some k2) (v2 b) (pt (some k1) (v1 a) L)) ds (M2 b++(M1 a++H))):
  JX P r N w0 H0 ops t (f+2) listed Q L ds H:=by
 have hlc:(listed.setIfInBounds j true).setIfInBounds i true=(listed.setIfInBounds i true).setIfInBounds j true:=Array.setIfInBounds_comm _ _ (fun e=>by rw[e,Nat.beq_refl] at hij;cases hij);refine Kx hr ⟨i,by simp,by simpa[Nat.blt_eq] using hit⟩ fun m hm _=> ?_
 simp only[List.mem_cons,List.not_mem_nil,or_false] at hm;rcases hm with rfl|rfl
 ·refine Bk hoi (h1 L H (List.Sublist.refl _) (.inl U)) ?_ hN1 hg1;rintro _ _ ⟨a,⟨rfl,ha⟩,rfl⟩;refine⟨hs0.trans (List.sublist_append_right _ _),Bu hrj hjt (Bk hoj (h2 _ _ (List.sublist_append_right _ _) (.inr ⟨a,rfl⟩)) ?_ hN2 (hg2' a))⟩;rintro _ _ ⟨b,⟨rfl,hb⟩,rfl⟩;exact⟨(hs0.trans (List.sublist_append_right _ _)).trans (List.sublist_append_right _ _),jx_conv (fun _=>rfl) (List.Perm.refl _) ((hs0.trans (List.sublist_append_right _ _)).trans (List.sublist_append_right _ _)) (h a b ha hb)⟩
 ·refine Bk hoj (h2 L H (List.Sublist.refl _) (.inl U)) ?_ hN2 hg2;rintro _ _ ⟨b,⟨rfl,hb⟩,rfl⟩;refine⟨hs0.trans (List.sublist_append_right _ _),Bu hri hit (Bk hoi (h1 _ _ (List.sublist_append_right _ _) (.inr ⟨b,rfl⟩)) ?_ hN1 (hg1' b))⟩;rintro _ _ ⟨a,⟨rfl,ha⟩,rfl⟩;rw[hlc];refine⟨(hs0.trans (List.sublist_append_right _ _)).trans (List.sublist_append_right _ _),jx_conv (lk_swap hk) ?_ ((hs0.trans (List.sublist_append_right _ _)).trans (List.sublist_append_right _ _)) (h a b ha hb)⟩;rw[← List.append_assoc,← List.append_assoc];exact List.perm_append_comm.append_right H
end
end Go.Proofs.YtpkijiejccngcaaGreatDoor
