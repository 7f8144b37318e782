/-
  A part of what LawB rests on: the logic, walks and plain laws. No condition.
-/
import Derived.Test.YtkgfmjanajdibaaGreatJb6
import Derived.Test.YtkgfmjanajdibaaGreatRows
import Derived.WalkKit
import Derived.ProofKit
import Derived.OpenShut
import Derived.Lib.SmallJoins
import Derived.Deep.SlicePairs
import Derived.Deep.DeepHandedRow
namespace Go.Proofs.YtkgfmjanajdibaaGreat
open _root_.Go.Proofs.Tryz
open Go.ChangeShapes Go.WideShapes Go.ChangeAt Go.RowKit Go.Joins Go.Deep
set_option linter.unusedVariables false
set_option linter.unusedSimpArgs false
set_option linter.unusedSectionVars false
set_option maxRecDepth 100000
theorem below_cell {W w:World}{p:Addr}{v:Value}(hb:Below W.heap.size W w)(h:W.cell? p=some v):w.cell? p=some v:=by
 have hlt:=World.block_lt_of_cell? _ _ h;have:=hb.block p.block hlt;unfold World.cell? at h ⊢;rw[this];exact h
theorem cell_arg {W:World}{p:Addr}{v:Value}(h:W.cell? p=some v):Cell W [] p v:=fun w hO=>below_cell hO.below h
theorem E6 {H:Type}(d:DataW H):1≤Rows.uptoBulk d:=by
 cases d with
 |lit l=>cases l<;>simp[Rows.uptoBulk]
 |nil=>simp[Rows.uptoBulk]
 |ptr d=>simp[Rows.uptoBulk]
 |slice elems spare=>simp[Rows.uptoBulk]
 |agg parts=>simp[Rows.uptoBulk]
 |iface t d=>simp[Rows.uptoBulk]
 |map entries=>simp[Rows.uptoBulk]
 |held h=>simp[Rows.uptoBulk]
theorem blk_sum {H:Type}{f:Nat→Nat}{D:Nat→DataW H}:∀ (l:List Nat),(∀ i∈l,f i≤Rows.uptoBulk (D i))→(l.map f).sum≤Rows.uptoBulkAll (l.map D)
 |[],_=>Nat.le_refl _
 |x::l,h=>by
  have h1:=h x (by simp);have h2:=blk_sum l fun i hi=>h i (by simp[hi])
  simp only[List.map_cons,List.sum_cons,Rows.uptoBulkAll];omega
theorem blk_mem {H:Type}{D:Nat→DataW H}:∀ {l:List Nat} {i:Nat},i∈l→Rows.uptoBulk (D i)≤Rows.uptoBulkAll (l.map D)
 |x::l,i,h=>by
  simp only[List.map_cons,Rows.uptoBulkAll];rcases List.mem_cons.1 h with rfl|h
  ·exact Nat.le_add_right _ _
  ·have:=blk_mem (D:=D) h;omega
section
variable {H:Type} {enc:TypeId × Value→H} {P:Program} {W:World} {b0:Nat} {sp1:Nat→Bool} {held:Bool}
theorem open_arr {α:Type}{t e sz fuel:Nat}{cs:List Value}{x:DataW H × List MemPlace}{el:α→List Value}{φ:α→Prop}{szf:α→Nat}(ht:P.underlying t=some (.slice e))(hc:P.cellsOf e=sz)(hsz:0<sz)
  (hel:∀ n cs y,Rows.uptoBulk y.1<Rows.uptoBulk x.1→DataW.trod enc P W b0 sp1 held n e cs=some y→∃ u:α,cs=el u∧φ u∧szf u≤Rows.uptoBulk y.1) (h:DataW.trod enc P W b0 sp1 held fuel t cs=some x):
  ∃ (q:Option Addr) (l:List α) (cap:Nat),cs=[.slice q l.length cap]∧Arr W [] q sz el l∧l.length≤cap∧l.length≤9223372036854775807∧(∀ u∈l,φ u)∧(l.map szf).sum+1≤Rows.uptoBulk x.1:=by
 rcases open_slice ht h with ⟨rfl,rfl⟩|⟨a,len,cap,m,n,D,Pl,rfl,hb,hl,hm,hmm,rfl,hx⟩
 ·exact⟨none,[],0,rfl,fun i u hi=>by simp at hi,by simp,by simp,by simp,by simp[Rows.uptoBulk]⟩
 have hlm:len≤m:=by rw[hmm];split<;>omega
 have hlen:len≤9223372036854775807:=by unfold maxLen at hm;omega
 cases len with
 |zero=>exact⟨some a,[],cap,rfl,fun i u hi=>by simp at hi,by simp,by simp,by simp,by simp[Rows.uptoBulk]⟩
 |succ k=>
  have hbk:Rows.uptoBulkAll ((List.range (k+1)).map D)+1≤Rows.uptoBulk (DataW.slice ((List.range (k+1)).map D) ((List.range (m - (k+1))).map fun j=>D (k+1+j))):=by
   simp only[Rows.uptoBulk];omega
  have each:∀ i,i<k+1→∃ u:α,W.cells? b0 (a.add (i*sz)) sz=some (el u)∧φ u∧szf u≤Rows.uptoBulk (D i):=fun i hi=>by
   obtain⟨cs',h1,h2⟩:=hx i qom;rw[hc] at h1;have h3:=blk_mem (D:=D) (List.mem_range.2 hi);obtain⟨u,rfl,hu⟩:=hel _ _ _ (by simp only[];omega) h2;exact⟨u,h1,hu⟩
  obtain⟨u0,h00,hu0⟩:=each 0 qom
  letI:Inhabited α:=⟨u0⟩
  obtain⟨f,hf⟩:=choose_lt each;refine⟨some a,(List.range (k+1)).map f,cap,by simp,fun i u hi=> ?_,by simpa using hl,by simpa using hlen,fun u hu=> ?_,?_⟩
  ·have hik:i<k+1:=by have:=(List.getElem?_eq_some_iff.1 hi).1;simpa using this
   have hfu:f i=u:=by simpa[hik] using hi
   obtain⟨sb,so,spot⟩:=a;obtain⟨_,hl0,hc0⟩:=World.cells?_some h00;have hspot:spot=none:=by
    have h6:=(hc0 0 hsz).trans (List.getElem?_eq_getElem qom)
    simpa[Addr.add] using World.cell?_spot h6
   subst hspot;refine⟨rfl,fun j v hj=>cell_arg ?_⟩;obtain⟨_,hl1,hc1⟩:=World.cells?_some (hf i hik).1;rw[hfu] at hl1 hc1;have hjl:=(List.getElem?_eq_some_iff.1 hj).1;have h5:=hc1 j qom;rw[add_add,add_plain] at h5;have h6:=h5.trans hj;rw[← Nat.add_assoc] at h6;exact h6
  ·obtain⟨i,hi,rfl⟩:=List.mem_map.1 hu;exact(hf i (List.mem_range.1 hi)).2.1
  ·have:=blk_sum (f:=fun i=>szf (f i)) (D:=D) (List.range (k+1)) fun i hi=>(hf i (List.mem_range.1 hi)).2.2
   rw[List.map_map];have e:(szf ∘ f)=fun i=>szf (f i):=rfl
   rw[e];simp only[] at hbk ⊢;omega
end
theorem cells3:Tryz.prog.cellsOf 3=1:=by kernel_rfl
theorem cells9:Tryz.prog.cellsOf 9=1:=by kernel_rfl
theorem cells67:Tryz.prog.cellsOf 127=3:=by kernel_rfl
theorem cells25:Tryz.prog.cellsOf 25=5:=by kernel_rfl
theorem cells23:Tryz.prog.cellsOf 23=1:=by kernel_rfl
theorem cells28:Tryz.prog.cellsOf 28=9:=by kernel_rfl
theorem cells26:Tryz.prog.cellsOf 26=1:=by kernel_rfl
theorem own_knob:ownKnob Tryz.prog.godebug=none:=by kernel_rfl
theorem i64_bd {n:Int}(h:(Lit.int .i64 n).wf=true): -9223372036854775808≤n∧n≤9223372036854775807:=by
 have:=bounds_i64 h;exact this
theorem szPL_sum:∀ l:List Pdm,szPL l=(l.map Pdm.sz).sum
 |[]=>by simp[szPL]
 |x::l=>by simp only[szPL,List.map_cons,List.sum_cons,szPL_sum l]
theorem szOL_sum:∀ l:List Pom,szOL l=(l.map Pom.sz).sum
 |[]=>by simp[szOL]
 |x::l=>by simp only[szOL,List.map_cons,List.sum_cons,szOL_sum l]
theorem prtPL_in {l:List Pdm}{a:Pdm}(h:a∈prtPL l):∃ x∈l,a∈prtP x:=by
 induction l with
 |nil=>simp[prtPL] at h
 |cons x l ih=>
  rw[prtPL] at h;rcases List.mem_append.1 h with h|h
  ·exact⟨x,by simp,h⟩
  ·obtain⟨y,h1,h2⟩:=ih h;exact⟨y,by simp[h1],h2⟩
theorem prtOL_in {l:List Pom}{a:Pom}(h:a∈prtOL l):∃ x∈l,a∈prtO x:=by
 induction l with
 |nil=>simp[prtOL] at h
 |cons x l ih=>
  rw[prtOL] at h;rcases List.mem_append.1 h with h|h
  ·exact⟨x,by simp,h⟩
  ·obtain⟨y,h1,h2⟩:=ih h;exact⟨y,by simp[h1],h2⟩
section
variable {H:Type} {enc:TypeId × Value→H} {W:World} {b0 n:Nat} {sp1:Nat→Bool} {held:Bool} {y:DataW H × List MemPlace} {cs:List Value}
abbrev encSv (s:ByteArray):List Value:=[.string s]
theorem H6 {c:Value}(h:DataW.trod enc Tryz.prog W b0 sp1 held n 3 [c]=some y):∃ a:Int,c= .int .i64 a∧(-9223372036854775808≤a∧a≤9223372036854775807):=by
 obtain⟨a,e0,_,wa⟩:=DataW.trod_int underlying3 h;simp at e0;exact⟨a,e0,i64_bd wa⟩
theorem rd_str (h:DataW.trod enc Tryz.prog W b0 sp1 held n 9 cs=some y):∃ u:ByteArray,cs=encSv u∧u.size≤9223372036854775807:=by
 obtain⟨s,e0,_,ws⟩:=DataW.trod_string underlying9 h;exact⟨s,e0,by unfold maxLen at ws;omega⟩
theorem rd_fi (h:DataW.trod enc Tryz.prog W b0 sp1 held n 127 cs=some y):∃ u:Fi,cs=encFi u∧u.nm.size≤9223372036854775807:=by
 obtain⟨xs,m,rfl,rfl,hlen,hxl,hall⟩:=DataW.trod_struct underlying127 h;rw[cells67] at hlen
 match xs,hxl,cs,hlen with
 |[x0,x1,x2],_,[c0,c1,c2],_=>
  have f0:DataW.trod enc Tryz.prog W b0 sp1 held m 9 [c0]=some x0:=by have:=hall 0 _ rfl;simpa[cells9] using this
  have f1:DataW.trod enc Tryz.prog W b0 sp1 held m 3 [c1]=some x1:=by have:=hall 1 _ rfl;simpa[cells9,cells3] using this
  have f2:DataW.trod enc Tryz.prog W b0 sp1 held m 3 [c2]=some x2:=by have:=hall 2 _ rfl;simpa[cells9,cells3] using this
  obtain⟨s,e1,hs⟩:=rd_str f0;obtain⟨a,rfl,_⟩:=H6 f1;obtain⟨b,rfl,_⟩:=H6 f2;simp at e1;exact⟨⟨s,a,b⟩,by rw[e1],hs⟩
theorem rd_pd:∀ (N:Nat) {n:Nat} {y:DataW H × List MemPlace} {cs:List Value},Rows.uptoBulk y.1≤N→DataW.trod enc Tryz.prog W b0 sp1 held n 25 cs=some y→∃ u:Pdm,cs=encPd u∧(PdM W [] u∧NmP u)∧u.sz≤Rows.uptoBulk y.1
 |0,n,y,cs,hN,_=>by have:=E6 y.1;omega
 |N+1,n,y,cs,hN,h=>by
  obtain⟨xs,m,rfl,rfl,hlen,hxl,hall⟩:=DataW.trod_struct underlying25 h;rw[cells25] at hlen
  match xs,hxl,cs,hlen with
  |[x0,x1,x2,x3,x4],_,[c0,c1,c2,c3,c4],_=>
   have f0:DataW.trod enc Tryz.prog W b0 sp1 held m 3 [c0]=some x0:=by have:=hall 0 _ rfl;simpa[cells3] using this
   have f1:DataW.trod enc Tryz.prog W b0 sp1 held m 9 [c1]=some x1:=by have:=hall 1 _ rfl;simpa[cells3,cells9] using this
   have f2:DataW.trod enc Tryz.prog W b0 sp1 held m 3 [c2]=some x2:=by have:=hall 2 _ rfl;simpa[cells3,cells9] using this
   have f3:DataW.trod enc Tryz.prog W b0 sp1 held m 3 [c3]=some x3:=by have:=hall 3 _ rfl;simpa[cells3,cells9] using this
   have f4:DataW.trod enc Tryz.prog W b0 sp1 held m 23 [c4]=some x4:=by have:=hall 4 _ rfl;simpa[cells3,cells9,cells23] using this
   have hb:Rows.uptoBulk x4.1+4≤Rows.uptoBulk (DataW.agg (H:=H) ([x0,x1,x2,x3,x4].map (·.1))):=by
    have:=E6 x0.1;have:=E6 x1.1;have:=E6 x2.1;have:=E6 x3.1;simp only[Rows.uptoBulk,Rows.uptoBulkAll,List.map_cons,List.map_nil] at *;omega
   have hN':Rows.uptoBulk (DataW.agg (H:=H) ([x0,x1,x2,x3,x4].map (·.1)))≤N+1:=hN;obtain⟨k,rfl,_⟩:=H6 f0;obtain⟨s,e1,hs⟩:=rd_str f1;obtain⟨a,rfl,_⟩:=H6 f2;obtain⟨b,rfl,_⟩:=H6 f3;obtain⟨q,l,cap,e2,ha,hc,hl,hf,hsum⟩:=open_arr (el:=encPd) (φ:=fun u=>PdM W [] u∧NmP u) (szf:=Pdm.sz) underlying23 cells25 qom (fun n cs y hy h=>rd_pd N qom h) f4;simp at e1 e2;refine⟨.mk k s a b q cap l,by rw[e1,e2];rfl,⟨.mk ha fun a h=>(hf a h).1,fun a ha=> ?_⟩,?_⟩
   ·rw[Ep] at ha;rcases List.mem_cons.1 ha with rfl|ha
    ·exact hs
    ·obtain⟨x,hx,hax⟩:=prtPL_in ha;exact(hf x hx).2 a hax
   rw[Hn,show (Pdm.mk k s a b q cap l).subs=l from rfl,szPL_sum];exact Nat.le_trans (by omega:(l.map Pdm.sz).sum+1≤Rows.uptoBulk x4.1+4) hb
theorem rd_po:∀ (N:Nat) {n:Nat} {y:DataW H × List MemPlace} {cs:List Value},Rows.uptoBulk y.1≤N→DataW.trod enc Tryz.prog W b0 sp1 held n 28 cs=some y→∃ u:Pom,cs=encPo u∧(PoM W [] u∧NmO u)∧u.sz≤Rows.uptoBulk y.1
 |0,n,y,cs,hN,_=>by have:=E6 y.1;omega
 |N+1,n,y,cs,hN,h=>by
  obtain⟨xs,m,rfl,rfl,hlen,hxl,hall⟩:=DataW.trod_struct underlying28 h;rw[cells28] at hlen
  match xs,hxl,cs,hlen with
  |[x0,x1,x2,x3,x4],_,[c0,c1,c2,c3,c4,c5,c6,c7,c8],_=>
   have f0:DataW.trod enc Tryz.prog W b0 sp1 held m 3 [c0]=some x0:=by have:=hall 0 _ rfl;simpa[cells3] using this
   have f1:DataW.trod enc Tryz.prog W b0 sp1 held m 25 [c1,c2,c3,c4,c5]=some x1:=by have:=hall 1 _ rfl;simpa[cells3,cells25] using this
   have f2:DataW.trod enc Tryz.prog W b0 sp1 held m 9 [c6]=some x2:=by have:=hall 2 _ rfl;simpa[cells3,cells25,cells9] using this
   have f3:DataW.trod enc Tryz.prog W b0 sp1 held m 3 [c7]=some x3:=by have:=hall 3 _ rfl;simpa[cells3,cells25,cells9] using this
   have f4:DataW.trod enc Tryz.prog W b0 sp1 held m 26 [c8]=some x4:=by have:=hall 4 _ rfl;simpa[cells3,cells25,cells9,cells26] using this
   have hb:Rows.uptoBulk x4.1+Rows.uptoBulk x1.1+3≤Rows.uptoBulk (DataW.agg (H:=H) ([x0,x1,x2,x3,x4].map (·.1))):=by
    have:=E6 x0.1;have:=E6 x2.1;have:=E6 x3.1;simp only[Rows.uptoBulk,Rows.uptoBulkAll,List.map_cons,List.map_nil] at *;omega
   have hN':Rows.uptoBulk (DataW.agg (H:=H) ([x0,x1,x2,x3,x4].map (·.1)))≤N+1:=hN;obtain⟨k,rfl,_⟩:=H6 f0;obtain⟨pm,ep,⟨hp1,hp2⟩,hpz⟩:=rd_pd _ (Nat.le_refl _) f1;obtain⟨s,e1,hs⟩:=rd_str f2;obtain⟨a,rfl,_⟩:=H6 f3;obtain⟨q,l,cap,e2,ha,hc,hl,hf,hsum⟩:=open_arr (el:=encPo) (φ:=fun u=>PoM W [] u∧NmO u) (szf:=Pom.sz) underlying26 cells28 qom (fun n cs y hy h=>rd_po N qom h) f4;simp only[List.cons.injEq,and_true] at e1 e2;refine⟨.mk k pm s a q cap l,?_,⟨.mk hp1 ha fun a h=>(hf a h).1,fun a ha=> ?_⟩,?_⟩
   ·rw[e1,e2];show Value.int .i64 k::([c1,c2,c3,c4,c5]++[.string s, .int .i64 a, .slice q l.length cap])=_;rw[ep];rfl
   ·rw[Eg] at ha;rcases List.mem_cons.1 ha with rfl|ha
    ·exact⟨hs,hp2⟩
    ·obtain⟨x,hx,hax⟩:=prtOL_in ha;exact(hf x hx).2 a hax
   rw[Ee,show (Pom.mk k pm s a q cap l).subs=l from rfl,show (Pom.mk k pm s a q cap l).pr=pm from rfl,szOL_sum];exact Nat.le_trans (by omega:(l.map Pom.sz).sum+pm.sz+1≤Rows.uptoBulk x4.1+Rows.uptoBulk x1.1+3) hb
theorem Kw {base:Nat}{r:_root_.Go.Reach}{v:Value}{d:DataW H}{p:List MemPlace}(hv:Value.okWide Tryz.prog W r base 28 v)(h:DataW.Trod enc Tryz.prog W b0 sp1 held 28 v d p):∃ u:Pom,v= .agg (encPo u).toArray∧PoM W [] u∧NmO u∧u.sz≤Rows.uptoBulk d:=by
 obtain⟨cs,rfl,hsz⟩:=okWide_struct underlying28 hv;obtain⟨fuel,hf⟩:=h;obtain⟨l⟩:=cs;obtain⟨u,e,⟨h1,h2⟩,hu⟩:=rd_po _ (Nat.le_refl _) hf;simp only[Value.cells] at e;exact⟨u,by rw[← e],h1,h2,hu⟩
theorem open_fis {base:Nat}{r:_root_.Go.Reach}{v:Value}{d:DataW H}{p:List MemPlace}(hv:Value.okWide Tryz.prog W r base 22 v)(h:DataW.Trod enc Tryz.prog W b0 sp1 held 22 v d p):∃ (q:Option Addr) (l:List Fi) (cap:Nat),v= .slice q l.length cap∧Arr W [] q 3 encFi l∧∀ f∈l,f.nm.size≤9223372036854775807:=by
 obtain⟨a0,len0,cap0,rfl⟩:=okWide_slice underlying22 hv;obtain⟨fuel,hf⟩:=h;obtain⟨q,l,cap,e,a,c,b,f,_⟩:=open_arr (el:=encFi) (φ:=fun u=>u.nm.size≤9223372036854775807) (szf:=fun _=>0) underlying22 cells67 qom (fun n cs y _ h=>by obtain⟨u,h1,h2⟩:=rd_fi h;exact⟨u,h1,h2,Nat.zero_le _⟩) hf;simp only[Value.cells,List.cons.injEq,and_true] at e;exact⟨q,l,cap,e,a,f⟩
end
end Go.Proofs.YtkgfmjanajdibaaGreat
namespace Go.Proofs.YtkgfmjanajdibaaGreat
open _root_.Go.Proofs.Tryz
open Go.RowKit
set_option linter.unusedVariables false
set_option linter.unusedSimpArgs false
set_option linter.unusedSectionVars false
set_option maxRecDepth 100000
theorem errIs_nz (fl:List Fd)(t:Int)(p:Po):∃ e,ErrIs fl t p e∧(e=12∨e=2):=by
 cases h:PF fl t p (N0 fl) with
 |none=>exact⟨12,⟨(fun _=>rfl),(fun a n e=>by rw[h] at e;cases e)⟩,by decide⟩
 |some x=>exact⟨2,⟨(fun e=>by rw[h] at e;cases e),(fun _ _ _ _=>rfl)⟩,by decide⟩
abbrev AnsK (Φ:Hd→Bool→Prop) (H:List (Nat × Obj)):Value→List (Nat × Obj)→Prop:=fun u H'=>∃ (h:Hd) (is:Bool) (e:Int),(u= .tuple #[.agg (hdC h).toArray, .bool is, .int .i64 e]∧HdOk h∧(e=0∨(e=12∨e=2)∧h=hd0∧is=false)∧(e=0→Φ h is))∧H'=H
theorem nzx {e:Int}(h:e=12∨e=2):e≠0:=by omega
theorem ansK {w0:World}{H:List (Nat × Obj)}{f:FuncId}{args:Array Value}{Φ:Hd→Bool→Prop}{e:Int}{Ψ:Prop}(h:FSpec Tryz.prog w0 f args H (AskK Φ e Ψ H))(nz:e=12∨e=2):FSpec Tryz.prog w0 f args H (AnsK Φ H):=by
 intro w hO;refine(h w hO).mono ?_;rintro e w' ⟨u,H',he,hO',⟨⟨h1,is,e1,rfl,hh,hR⟩,rfl⟩⟩;rcases hR with ⟨rfl,k⟩|⟨rfl,rfl,rfl,k⟩
 ·exact⟨_,_,he,hO',h1,is,0,⟨rfl,hh, .inl U,fun _=>k⟩,rfl⟩
 ·exact⟨_,_,he,hO',_,_,_,⟨rfl,hh, .inr ⟨nz,rfl,rfl⟩,fun e9=>absurd e9 (nzx nz)⟩,rfl⟩
theorem same13_s {w0:World}{H:List (Nat × Obj)}(l m:List Hd)(q1 q2:Option Addr)(c1 c2:Nat)(hA1:HsA w0 H l q1 c1)(hA2:HsA w0 H m q2 c2)(hlen:l.length≤1000000):
  FSpec Tryz.prog w0 36 #[.slice q1 l.length c1, .slice q2 m.length c2] H (Still (.bool (decide (l=m))) H):=by
 refine Au Tryz.func36 U ntmps36 U (rD tb 15 U ?_)
 first|refine Ae (Aa U) (fun c10=> ?_) (fun c10=> ?_)|refine Ah (Aa U) (fun c10=> ?_) (fun c10=> ?_)
 ·skip
  refine rC tb 7 U (Ak U (Ng U) ?_);exact⟨_,⟨congrArg Value.bool (decide_eq_false (fun e=>c10 (by rw[e]))).symm,rfl⟩,by exact sbt⟩
 ·have hle:l.length=m.length:=by have h9: ¬ ¬ ((l.length:Nat):Int)=(m.length:Nat):=c10;omega
  refine rC tb 9 U ?_;refine Bi (X:=Nat) (V:=fun k=>[(5, .int .i64 (k:Nat))]) (C:=[(0,_),(1,_)]) (G:=fun k=>H) (φ:=fun k=>k≤l.length∧∀ j,j<k→gd l j=gd m j) (μ:=fun k=>l.length - k) (x0:=0) ?_ ⟨Aa U,Aa U,trivial⟩ ⟨atd,trivial⟩ sb0 ?_
  ·exact⟨Nat.zero_le _,fun j hj=>absurd hj (Nat.not_lt_zero _)⟩
  rintro k ⟨hk,hn⟩;refine rD tb 9 U ?_
  first|refine Ae (Aa U) (fun c14=> ?_) (fun c14=> ?_)|refine Ah (Aa U) (fun c14=> ?_) (fun c14=> ?_)
  ·have hk2:k<l.length:=by have h9:((k:Nat):Int)<(l.length:Nat):=c14;omega
   refine rC tb 5 U (Bl 9 [(0,true),(1,true),(2,true),(3,true),(4,true),(5,true),(6,true),(7,true),(8,true)] _ mixd qkr sb0 ?_ Br);refine rP tb 2 U (o_y U (Nj U U runUnderlying58 sizeOf32 qom (by first|exact rfl|exact hA1.1.b (i:=k) qom|exact hA2.1.b (i:=k) qom)) ?_ U Ac);refine o_y U (Ni U isAgg32 sizeOf32 (Ai (hA1.ok (k:=k) qom)) (by first|exact((hA1.mono (by exact sbt)).hd).cs (i:=k) qom|exact Ar)) ?_ U Ac;refine rP tb 2 U (o_y U (Nj U U runUnderlying58 sizeOf32 qom (by first|exact rfl|exact hA1.1.b (i:=k) qom|exact hA2.1.b (i:=k) qom)) ?_ U Ac);refine o_y U (Ni U isAgg32 sizeOf32 (Ai (hA2.ok (k:=k) qom)) (by first|exact((hA2.mono (by exact sbt)).hd).cs (i:=k) qom|exact Ar)) ?_ U Ac;refine o_y U (yl_neqA (T U) (T U) qkr (eqHd (hA1.ok (k:=k) qom) (hA2.ok (k:=k) qom))) ?_ U Ac;refine A8 U (rO tb 2 U ?_)
   first|refine Ae (Aa U) (fun c25=> ?_) (fun c25=> ?_)|refine Ah (Aa U) (fun c25=> ?_) (fun c25=> ?_)
   ·refine rC tb 8 U (Bc (rX tb 2 U (Ak U (Ng U) ?_)));exact⟨_,⟨congrArg Value.bool (decide_eq_false (fun e=>c25 (by rw[e]))).symm,rfl⟩,by exact sbt⟩
   ·refine rC tb 5 U (y_ (A6 (T U) Am qom) ?_ U);refine rO tb 2 U ?_;refine A2 (k+1) ?_ ?_ ⟨atd,trivial⟩ ⟨Aa U,Aa U,trivial⟩ ?_
    ·refine⟨hk2,fun j hj=> ?_⟩
     by_cases e:j=k
     ·rw[e];exact Classical.not_not.1 c25
     ·exact hn j qom
    ·first|omega|(simp only[];omega)
    ·exact sbt
  ·obtain rfl:k=l.length:=by have h9: ¬ ((k:Nat):Int)<(l.length:Nat):=c14;omega
   refine rC tb 2 U (Ax (rX tb 8 U (Ak U (Ng U) ?_)));exact⟨_,⟨congrArg Value.bool (decide_eq_true (eq_of_gd hle hn)).symm,rfl⟩,by exact sbt⟩
def HoldP (k:Nat) (x y:List Hd):Prop:=if k=1 then x=y else if k=2 then ∀ g∈y,g∈x else if k=3 then x=[] else if k=4 then x≠[] else if k=5 then x.length≤1 else x=[]∨y=[]
theorem hold_ask {t:Int}{k:Nat}{p q:Po}{h:Hd}{x y:List Hd}(hx:x.Pairwise hLt)(hy:y.Pairwise hLt)(mx:∀ g,g∈x↔den t p h g)(my:∀ g,g∈y↔den t q h g):HoldP k x y↔AskP t k p q h:=by
 have nil:∀ {z:List Hd} {r:Po},(∀ g,g∈z↔den t r h g)→(z=[]↔∀ g,¬ den t r h g):=fun {z r} m=>by
  rw[List.eq_nil_iff_forall_not_mem];exact⟨fun a g d=>a g ((m g).2 d),fun a g d=>a g ((m g).1 d)⟩
 unfold HoldP AskP
 split
 ·constructor
  ·rintro rfl g;rw[← mx,my]
  ·intro a;exact sorted_eq hx hy fun g=>by rw[mx,my];exact a g
 split
 ·exact⟨fun a g d=>(mx g).1 (a g ((my g).2 d)),fun a g d=>(mx g).2 (a g ((my g).1 d))⟩
 split
 ·exact nil mx
 split
 ·rw[Ne,nil mx];exact⟨fun a=>Classical.byContradiction fun c=>a fun g d=>c ⟨g,d⟩,fun ⟨g,d⟩ a=>a g d⟩
 split
 ·constructor
  ·intro a g g' d d'
   match x,a,(mx g).2 d,(mx g').2 d' with
   |[z],_,e1,e2=>rw[List.mem_singleton.1 e1,List.mem_singleton.1 e2]
   |[],_,e1,_=>simp at e1
   |_::_::_,a,_,_=>simp at a
  ·intro a
   match x,hx,mx with
   |[],_,_=>simp
   |[z],_,_=>simp
   |z::w::r,hx,mx=>
    exfalso;have e:=a z w ((mx z).1 (by simp)) ((mx w).1 (by simp));have l:=(List.pairwise_cons.1 hx).1 w (by simp);rw[e] at l;exact l.irr
 ·rw[nil mx,nil my]
section
variable {k:Nat} {x y l:List Hd}
theorem len0 {α:Type}{x:List α}:((x.length:Nat):Int)=0↔x=[]:=by rw[← List.length_eq_zero_iff];omega
theorem hold2 (hx:x.Pairwise hLt)(hl:l.Pairwise hLt)(hm:∀ g,g∈l↔g∈x∨g∈y):l=x↔HoldP 2 x y:=by
 show l=x↔∀ g∈y,g∈x
 constructor
 ·rintro rfl g hg;exact(hm g).2 (.inr hg)
 ·intro a;exact sorted_eq hl hx fun g=>by rw[hm];exact⟨fun h=>h.elim id (a g), .inl⟩
theorem hold3:((x.length:Nat):Int)=0↔HoldP 3 x y:=len0
theorem hold4:((x.length:Nat):Int)>0↔HoldP 4 x y:=by
 show _↔x≠[];rw[Ne,← len0];omega
theorem hold5:((x.length:Nat):Int)≤1↔HoldP 5 x y:=by
 show _↔x.length≤1;omega
theorem hold6 (n1: ¬ k=1)(n2: ¬ k=2)(n3: ¬ k=3)(n4: ¬ k=4)(n5: ¬ k=5):HoldP k x y↔x=[]∨y=[]:=by unfold HoldP;rw[if_neg n1,if_neg n2,if_neg n3,if_neg n4,if_neg n5]
theorem hold7 (n1: ¬ k=1)(n2: ¬ k=2)(n3: ¬ k=3)(n4: ¬ k=4)(n5: ¬ k=5)(n: ¬ ((x.length:Nat):Int)=0):y=[]↔HoldP k x y:=by
 rw[hold6 n1 n2 n3 n4 n5];exact⟨.inr,fun h=>h.resolve_left fun e=>n (len0.2 e)⟩
end
theorem rholds0_s {w0:World}{H:List (Nat × Obj)}(k:Nat)(x y:List Hd)(q1 q2:Option Addr)(c1 c2:Nat)(hA1:HsA w0 H x q1 c1)(hA2:HsA w0 H y q2 c2)(hx:x.Pairwise hLt)(hy:y.Pairwise hLt)(hlx:x.length≤256)(hly:y.length≤256):
  FSpec Tryz.prog w0 52 #[.int .i64 (k:Nat), .slice q1 x.length c1, .slice q2 y.length c2] H (fun u H'=>∃ b:Bool,(u= .bool b∧(b=true↔HoldP k x y))∧H'=H):=by
 refine Au Tryz.func52 U ntmps52 U (rD tb 18 U ?_)
 first|refine Ae (Aa U) (fun c8=> ?_) (fun c8=> ?_)|refine Ah (Aa U) (fun c8=> ?_) (fun c8=> ?_)
 ·obtain rfl:k=1:=by have h9:((k:Nat):Int)=1:=c8;omega
  refine rC tb 4 U (y_ (Aw (qe2 U U) call36 (fun H' hs=>same13_s x y q1 q2 c1 c2 (hA1.mono hs) (hA2.mono hs) qom)) ?_ U);refine rO tb 6 U (Ak U (Ng U) ?_)
  first|exact⟨_,⟨_,⟨rfl,decide_eq_true_iff⟩,rfl⟩,by exact sbt⟩|exact⟨_,⟨_,⟨rfl,decide_eq_true_iff.trans (hold2 hx hu5 hm5)⟩,rfl⟩,hM5⟩|exact⟨_,⟨_,⟨rfl,decide_eq_true_iff.trans hold3⟩,rfl⟩,by exact sbt⟩|exact⟨_,⟨_,⟨rfl,decide_eq_true_iff.trans hold4⟩,rfl⟩,by exact sbt⟩|exact⟨_,⟨_,⟨rfl,decide_eq_true_iff.trans hold5⟩,rfl⟩,by exact sbt⟩|exact⟨_,⟨_,⟨rfl,⟨fun _=>(hold6 n1 n2 n3 n4 n5).2 (.inl (len0.1 (by assumption))),fun _=>rfl⟩⟩,rfl⟩,by exact sbt⟩|exact⟨_,⟨_,⟨rfl,decide_eq_true_iff.trans (len0.trans (hold7 n1 n2 n3 n4 n5 (by assumption)))⟩,rfl⟩,by exact sbt⟩
 ·have n1: ¬ k=1:=by have h9: ¬ ((k:Nat):Int)=1:=c8;omega
  refine rC tb 6 U ?_
  first|refine Ae (Aa U) (fun c13=> ?_) (fun c13=> ?_)|refine Ah (Aa U) (fun c13=> ?_) (fun c13=> ?_)
  ·obtain rfl:k=2:=by have h9:((k:Nat):Int)=2:=c13;omega
   refine rC tb 4 U (e_ (Al (qe2 U U) call37 (Js x y q1 q2 c1 c2 hA1 hx hA2 qom qom)) ?_ U);rintro _ M5 ⟨l5,q5,c5,rfl,hA5,hu5,⟨hm5,hn5⟩,hM5⟩;refine rO tb 1 U (e_ (Al (qe2 U U) call36 (same13_s l5 x q5 q1 c5 c1 hA5 (hA1.mono hM5) qom)) ?_ U);rintro _ _ ⟨rfl,rfl⟩;refine rO tb 6 U (Ak U (Ng U) ?_)
   first|exact⟨_,⟨_,⟨rfl,decide_eq_true_iff⟩,rfl⟩,by exact sbt⟩|exact⟨_,⟨_,⟨rfl,decide_eq_true_iff.trans (hold2 hx hu5 hm5)⟩,rfl⟩,hM5⟩|exact⟨_,⟨_,⟨rfl,decide_eq_true_iff.trans hold3⟩,rfl⟩,by exact sbt⟩|exact⟨_,⟨_,⟨rfl,decide_eq_true_iff.trans hold4⟩,rfl⟩,by exact sbt⟩|exact⟨_,⟨_,⟨rfl,decide_eq_true_iff.trans hold5⟩,rfl⟩,by exact sbt⟩|exact⟨_,⟨_,⟨rfl,⟨fun _=>(hold6 n1 n2 n3 n4 n5).2 (.inl (len0.1 (by assumption))),fun _=>rfl⟩⟩,rfl⟩,by exact sbt⟩|exact⟨_,⟨_,⟨rfl,decide_eq_true_iff.trans (len0.trans (hold7 n1 n2 n3 n4 n5 (by assumption)))⟩,rfl⟩,by exact sbt⟩
  ·have n2: ¬ k=2:=by have h9: ¬ ((k:Nat):Int)=2:=c13;omega
   refine rC tb 6 U ?_
   first|refine Ae (Aa U) (fun c20=> ?_) (fun c20=> ?_)|refine Ah (Aa U) (fun c20=> ?_) (fun c20=> ?_)
   ·obtain rfl:k=3:=by have h9:((k:Nat):Int)=3:=c20;omega
    refine rC tb 11 U (Ak U (Ng U) ?_)
    first|exact⟨_,⟨_,⟨rfl,decide_eq_true_iff⟩,rfl⟩,by exact sbt⟩|exact⟨_,⟨_,⟨rfl,decide_eq_true_iff.trans (hold2 hx hu5 hm5)⟩,rfl⟩,hM5⟩|exact⟨_,⟨_,⟨rfl,decide_eq_true_iff.trans hold3⟩,rfl⟩,by exact sbt⟩|exact⟨_,⟨_,⟨rfl,decide_eq_true_iff.trans hold4⟩,rfl⟩,by exact sbt⟩|exact⟨_,⟨_,⟨rfl,decide_eq_true_iff.trans hold5⟩,rfl⟩,by exact sbt⟩|exact⟨_,⟨_,⟨rfl,⟨fun _=>(hold6 n1 n2 n3 n4 n5).2 (.inl (len0.1 (by assumption))),fun _=>rfl⟩⟩,rfl⟩,by exact sbt⟩|exact⟨_,⟨_,⟨rfl,decide_eq_true_iff.trans (len0.trans (hold7 n1 n2 n3 n4 n5 (by assumption)))⟩,rfl⟩,by exact sbt⟩
   ·have n3: ¬ k=3:=by have h9: ¬ ((k:Nat):Int)=3:=c20;omega
    refine rC tb 6 U ?_
    first|refine Ae (Aa U) (fun c25=> ?_) (fun c25=> ?_)|refine Ah (Aa U) (fun c25=> ?_) (fun c25=> ?_)
    ·obtain rfl:k=4:=by have h9:((k:Nat):Int)=4:=c25;omega
     refine rC tb 11 U (Ak U (Ng U) ?_)
     first|exact⟨_,⟨_,⟨rfl,decide_eq_true_iff⟩,rfl⟩,by exact sbt⟩|exact⟨_,⟨_,⟨rfl,decide_eq_true_iff.trans (hold2 hx hu5 hm5)⟩,rfl⟩,hM5⟩|exact⟨_,⟨_,⟨rfl,decide_eq_true_iff.trans hold3⟩,rfl⟩,by exact sbt⟩|exact⟨_,⟨_,⟨rfl,decide_eq_true_iff.trans hold4⟩,rfl⟩,by exact sbt⟩|exact⟨_,⟨_,⟨rfl,decide_eq_true_iff.trans hold5⟩,rfl⟩,by exact sbt⟩|exact⟨_,⟨_,⟨rfl,⟨fun _=>(hold6 n1 n2 n3 n4 n5).2 (.inl (len0.1 (by assumption))),fun _=>rfl⟩⟩,rfl⟩,by exact sbt⟩|exact⟨_,⟨_,⟨rfl,decide_eq_true_iff.trans (len0.trans (hold7 n1 n2 n3 n4 n5 (by assumption)))⟩,rfl⟩,by exact sbt⟩
    ·have n4: ¬ k=4:=by have h9: ¬ ((k:Nat):Int)=4:=c25;omega
     refine rC tb 6 U ?_
     first|refine Ae (Aa U) (fun c30=> ?_) (fun c30=> ?_)|refine Ah (Aa U) (fun c30=> ?_) (fun c30=> ?_)
     ·obtain rfl:k=5:=by have h9:((k:Nat):Int)=5:=c30;omega
      refine rC tb 11 U (Ak U (Ng U) ?_)
      first|exact⟨_,⟨_,⟨rfl,decide_eq_true_iff⟩,rfl⟩,by exact sbt⟩|exact⟨_,⟨_,⟨rfl,decide_eq_true_iff.trans (hold2 hx hu5 hm5)⟩,rfl⟩,hM5⟩|exact⟨_,⟨_,⟨rfl,decide_eq_true_iff.trans hold3⟩,rfl⟩,by exact sbt⟩|exact⟨_,⟨_,⟨rfl,decide_eq_true_iff.trans hold4⟩,rfl⟩,by exact sbt⟩|exact⟨_,⟨_,⟨rfl,decide_eq_true_iff.trans hold5⟩,rfl⟩,by exact sbt⟩|exact⟨_,⟨_,⟨rfl,⟨fun _=>(hold6 n1 n2 n3 n4 n5).2 (.inl (len0.1 (by assumption))),fun _=>rfl⟩⟩,rfl⟩,by exact sbt⟩|exact⟨_,⟨_,⟨rfl,decide_eq_true_iff.trans (len0.trans (hold7 n1 n2 n3 n4 n5 (by assumption)))⟩,rfl⟩,by exact sbt⟩
     ·have n5: ¬ k=5:=by have h9: ¬ ((k:Nat):Int)=5:=c30;omega
      refine rC tb 9 U ?_
      first|refine Av (s:=38) (Aa U) (fun c38=> ?_) (fun c38=> ?_)|refine A5 (s:=38) (Aa U) (fun c38=> ?_) (fun c38=> ?_)
      ·refine rO tb 8 U (Ak U (Ng U) ?_)
       first|exact⟨_,⟨_,⟨rfl,decide_eq_true_iff⟩,rfl⟩,by exact sbt⟩|exact⟨_,⟨_,⟨rfl,decide_eq_true_iff.trans (hold2 hx hu5 hm5)⟩,rfl⟩,hM5⟩|exact⟨_,⟨_,⟨rfl,decide_eq_true_iff.trans hold3⟩,rfl⟩,by exact sbt⟩|exact⟨_,⟨_,⟨rfl,decide_eq_true_iff.trans hold4⟩,rfl⟩,by exact sbt⟩|exact⟨_,⟨_,⟨rfl,decide_eq_true_iff.trans hold5⟩,rfl⟩,by exact sbt⟩|exact⟨_,⟨_,⟨rfl,⟨fun _=>(hold6 n1 n2 n3 n4 n5).2 (.inl (len0.1 (by assumption))),fun _=>rfl⟩⟩,rfl⟩,by exact sbt⟩|exact⟨_,⟨_,⟨rfl,decide_eq_true_iff.trans (len0.trans (hold7 n1 n2 n3 n4 n5 (by assumption)))⟩,rfl⟩,by exact sbt⟩
      ·refine rO tb 8 U (Ak U (Ng U) ?_)
       first|exact⟨_,⟨_,⟨rfl,decide_eq_true_iff⟩,rfl⟩,by exact sbt⟩|exact⟨_,⟨_,⟨rfl,decide_eq_true_iff.trans (hold2 hx hu5 hm5)⟩,rfl⟩,hM5⟩|exact⟨_,⟨_,⟨rfl,decide_eq_true_iff.trans hold3⟩,rfl⟩,by exact sbt⟩|exact⟨_,⟨_,⟨rfl,decide_eq_true_iff.trans hold4⟩,rfl⟩,by exact sbt⟩|exact⟨_,⟨_,⟨rfl,decide_eq_true_iff.trans hold5⟩,rfl⟩,by exact sbt⟩|exact⟨_,⟨_,⟨rfl,⟨fun _=>(hold6 n1 n2 n3 n4 n5).2 (.inl (len0.1 (by assumption))),fun _=>rfl⟩⟩,rfl⟩,by exact sbt⟩|exact⟨_,⟨_,⟨rfl,decide_eq_true_iff.trans (len0.trans (hold7 n1 n2 n3 n4 n5 (by assumption)))⟩,rfl⟩,by exact sbt⟩
theorem rholds_s {w0:World}{H:List (Nat × Obj)}{fl:List Fd}(hfl:FlOk fl)(q:Option Addr)(c:Nat)(hA:Arr w0 H q 3 encF fl)(tick:Int){m1:Pom}{p1:Po}(hI1:IsO fl m1 p1)(hF1:p1.Fit (bsF fl))(hM1:PoM w0 H m1){m2:Pom}{p2:Po}(hI2:IsO fl m2 p2)(hF2:p2.Fit (bsF fl))(hM2:PoM w0 H m2)(hz1:m1.sz≤100000000)(hz2:m2.sz≤100000000)(k:Nat)(h:Hd)(hh:HdOk h):
  FSpec Tryz.prog w0 29 #[.slice q fl.length c, .int .i64 (k:Nat), .agg (encPo m1).toArray, .agg (encPo m2).toArray, .agg (hdC h).toArray, .int .i64 tick] H (fun u H'=>∃ b y:Bool,(u= .tuple #[.bool b, .bool y]∧(y=true→(b=true↔AskP tick k p1 p2 h)))∧H'=H):=by
 refine Au Tryz.func29 U ntmps29 U (rD tb 2 U (e_ (Nl U cs_) ?_ U));rintro _ _ ⟨n8,rfl,rfl⟩;refine e_ (Nl U cs_) ?_ U;rintro _ _ ⟨n9,rfl,rfl⟩;refine e_ (Nl U cs_) ?_ U;rintro _ _ ⟨n10,rfl,rfl⟩;refine rO tb 7 U ?_;refine y_ (Ni U isAgg28 sizeOf28 U (by first|exact Ag (by repeat (first|exact Ao|refine As ?_))|exact Ar)) ?_ U;refine y_ (Ni U isAgg32 sizeOf32 (Ai hh) (by first|exact Ag (by repeat (first|exact Ao|refine As ?_))|exact Ar)) ?_ U;refine rO tb 1 U (e_ (Al (qe4 U U U U) call35 (rev_s hfl _ hz1 (hA.mono (show H.Sublist ((n10,Cl (hdC h) 32)::(n9,Cl (encPo m2) 28)::(n8,Cl (encPo m1) 28)::H) by exact sbt)) (hM1.mono (show H.Sublist ((n10,Cl (hdC h) 32)::(n9,Cl (encPo m2) 28)::(n8,Cl (encPo m1) 28)::H) by exact sbt)) (Nat.le_refl _) hI1 hF1 hh)) ?_ U);rintro _ M4 ⟨l3,q3,c3,e3,rfl,hz3,hM4⟩;refine rO tb 10 U ?_;refine y_ (Ni U isAgg28 sizeOf28 U (by first|exact Ag (Fnd.mono ((by repeat (first|exact Ao|refine As ?_)):Fnd ((n10,Cl (hdC h) 32)::(n9,Cl (encPo m2) 28)::(n8,Cl (encPo m1) 28)::H) n9 (Cl (encPo m2) 28)) hM4)|exact Ar)) ?_ U;refine y_ (Ni U isAgg32 sizeOf32 (Ai hh) (by first|exact Ag (Fnd.mono ((by repeat (first|exact Ao|refine As ?_)):Fnd ((n10,Cl (hdC h) 32)::(n9,Cl (encPo m2) 28)::(n8,Cl (encPo m1) 28)::H) n10 (Cl (hdC h) 32)) hM4)|exact Ar)) ?_ U;refine rO tb 1 U (e_ (Al (qe4 U U U U) call35 (rev_s hfl _ hz2 (hA.mono ((show H.Sublist ((n10,Cl (hdC h) 32)::(n9,Cl (encPo m2) 28)::(n8,Cl (encPo m1) 28)::H) by exact sbt).trans hM4)) (hM2.mono ((show H.Sublist ((n10,Cl (hdC h) 32)::(n9,Cl (encPo m2) 28)::(n8,Cl (encPo m1) 28)::H) by exact sbt).trans hM4)) (Nat.le_refl _) hI2 hF2 hh)) ?_ U);rintro _ M5 ⟨l4,q4,c4,e4,rfl,hz4,hM5⟩;refine rO tb 13 U ?_
 first|refine Av (s:=36) (Aa U) (fun c36=> ?_) (fun c36=> ?_)|refine A5 (s:=36) (Aa U) (fun c36=> ?_) (fun c36=> ?_)
 ·skip
  refine kO tb 5 [1,14,16,39] rfl U (rG tb 9 U (Ak U (.tmp (Aa U) (Ng U)) ?_))
  first|exact⟨_,⟨_,_,⟨rfl,fun h=>(Bool.false_ne_true h).elim⟩,rfl⟩,(show H.Sublist ((n10,Cl (hdC h) 32)::(n9,Cl (encPo m2) 28)::(n8,Cl (encPo m1) 28)::H) by exact sbt).trans (hM4.trans hM5)⟩|exact⟨_,⟨_,_,⟨rfl,fun _=>hb.trans (hold_ask hZ3.2.1 hZ4.2.1 hZ3.2.2.1 hZ4.2.2.1)⟩,rfl⟩,(show H.Sublist ((n10,Cl (hdC h) 32)::(n9,Cl (encPo m2) 28)::(n8,Cl (encPo m1) 28)::H) by exact sbt).trans (hM4.trans hM5)⟩
 ·have hZ3:=hz3 (by simpa using c36);refine kO tb 5 [1,14,16,39] rfl U ?_
  first|refine Ae (Aa U) (fun c39=> ?_) (fun c39=> ?_)|refine Ah (Aa U) (fun c39=> ?_) (fun c39=> ?_)
  ·skip
   refine rC tb 8 U (Ak U (.tmp (Aa U) (Ng U)) ?_)
   first|exact⟨_,⟨_,_,⟨rfl,fun h=>(Bool.false_ne_true h).elim⟩,rfl⟩,(show H.Sublist ((n10,Cl (hdC h) 32)::(n9,Cl (encPo m2) 28)::(n8,Cl (encPo m1) 28)::H) by exact sbt).trans (hM4.trans hM5)⟩|exact⟨_,⟨_,_,⟨rfl,fun _=>hb.trans (hold_ask hZ3.2.1 hZ4.2.1 hZ3.2.2.1 hZ4.2.2.1)⟩,rfl⟩,(show H.Sublist ((n10,Cl (hdC h) 32)::(n9,Cl (encPo m2) 28)::(n8,Cl (encPo m1) 28)::H) by exact sbt).trans (hM4.trans hM5)⟩
  ·have hZ4:=hz4 (by simpa using c39);refine rC tb 7 U (e_ (Al (qe3 U U U) call52 (rholds0_s k l3 l4 q3 q4 c3 c4 ((hZ3.1).mono hM5) hZ4.1 hZ3.2.1 hZ4.2.1 hZ3.2.2.2 hZ4.2.2.2)) ?_ U);rintro _ _ ⟨b,⟨rfl,hb⟩,rfl⟩;refine rO tb 5 U (Ak U (.tmp (Aa U) (Ng U)) ?_)
   first|exact⟨_,⟨_,_,⟨rfl,fun h=>(Bool.false_ne_true h).elim⟩,rfl⟩,(show H.Sublist ((n10,Cl (hdC h) 32)::(n9,Cl (encPo m2) 28)::(n8,Cl (encPo m1) 28)::H) by exact sbt).trans (hM4.trans hM5)⟩|exact⟨_,⟨_,_,⟨rfl,fun _=>hb.trans (hold_ask hZ3.2.1 hZ4.2.1 hZ3.2.2.1 hZ4.2.2.1)⟩,rfl⟩,(show H.Sublist ((n10,Cl (hdC h) 32)::(n9,Cl (encPo m2) 28)::(n8,Cl (encPo m1) 28)::H) by exact sbt).trans (hM4.trans hM5)⟩
theorem ask_one {t:Int}{k:Nat}{p q:Po}{h:Hd}(hk:k=3∨k=4∨k=5):AskP t k p p h↔AskP t k p q h:=by
 rcases hk with rfl|rfl|rfl<;>exact Iff.rfl
theorem ans_one {t:Int}{k:Nat}{p q:Po}{h:Hd}{is:Bool}(hk:k=3∨k=4∨k=5)(a:Ans (AskP t k p p) h is):Ans (AskP t k p q) h is:=a.iff fun g _=>ask_one hk
theorem answer_s {w0:World}{H:List (Nat × Obj)}{fl:List Fd}(hfl:FlOk fl)(q:Option Addr)(c:Nat)(hA:Arr w0 H q 3 encF fl)(tick:Int){m1:Pom}{p1:Po}(hI1:IsO fl m1 p1)(hF1:p1.Fit (bsF fl))(hM1:PoM w0 H m1){m2:Pom}{p2:Po}(hI2:IsO fl m2 p2)(hF2:p2.Fit (bsF fl))(hM2:PoM w0 H m2)(hn1:m1.nd≤62)(k:Nat)(hk:1≤k∧k≤6):
  FSpec Tryz.prog w0 28 #[.slice q fl.length c, .int .i64 (k:Nat), .agg (encPo m1).toArray, .agg (encPo m2).toArray, .int .i64 tick] H (AnsK (Ans (AskP tick k p1 p2)) H):=by
 refine Au Tryz.func28 U ntmps28 U ?_;obtain⟨e9,hE9,z9⟩:=errIs_nz fl tick p1;refine rD tb 2 U (e_ (Nl U cs_) ?_ U);rintro _ _ ⟨n7,rfl,rfl⟩;refine e_ (Nl U cs_) ?_ U;rintro _ _ ⟨n8,rfl,rfl⟩;refine e_ (Aj zeroValue32 cs_) ?_ U;rintro _ _ ⟨n10,rfl,rfl⟩;refine rO tb 17 U ?_
 first|refine Ae (Aa U) (fun c14=> ?_) (fun c14=> ?_)|refine Ah (Aa U) (fun c14=> ?_) (fun c14=> ?_)
 ·obtain rfl:k=1:=by have h9:((k:Nat):Int)=1:=c14;omega
  refine rC tb 3 U (y_ (Ni U isAgg28 sizeOf28 U (by first|exact Ar)) ?_ U);refine y_ (Ni U isAgg28 sizeOf28 U (by first|exact Ar)) ?_ U;refine rO tb 1 U (e_ (Al (qe4 U U U U) call13 (ansK (Ft hfl q c (hA.mono (by exact sbt)) tick hI1 hF1 (hM1.mono (by exact sbt)) hI2 hF2 (hM2.mono (by exact sbt))) (.inl U))) ?_ U);rintro _ _ ⟨h1,is1,e1,⟨rfl,o1,z1,k1⟩,rfl⟩;refine rO tb 3 U (e_ (Nk U U sizeOf32 .agg (Bf _) (Ai o1) (by repeat (first|exact Upd.h|apply Upd.t|apply Bk)) (by rw[Ai o1];rfl)) ?_ U);rintro _ _ ⟨rfl,rfl⟩;refine rO tb 7 U (Ak U (.cellA (Aa U) isAgg32 sizeOf32 (Ai o1) (by first|exact Ar) (.tmp (Aa U) (Ng U))) ?_);exact⟨_,⟨h1,is1,e1,⟨rfl,o1,z1,k1⟩,rfl⟩,by exact sbt⟩
 ·have n101: ¬ k=1:=by have h9: ¬ ((k:Nat):Int)=1:=c14;omega
  refine rC tb 6 U ?_
  first|refine Ae (Aa U) (fun c24=> ?_) (fun c24=> ?_)|refine Ah (Aa U) (fun c24=> ?_) (fun c24=> ?_)
  ·obtain rfl:k=2:=by have h9:((k:Nat):Int)=2:=c24;omega
   refine rC tb 3 U (y_ (Ni U isAgg28 sizeOf28 U (by first|exact Ar)) ?_ U);refine y_ (Ni U isAgg28 sizeOf28 U (by first|exact Ar)) ?_ U;refine rO tb 1 U (e_ (Al (qe4 U U U U) call14 (ansK (Hl hfl q c (hA.mono (by exact sbt)) tick hI1 hF1 (hM1.mono (by exact sbt)) hI2 hF2 (hM2.mono (by exact sbt))) (.inl U))) ?_ U);rintro _ _ ⟨h2,is2,e2,⟨rfl,o2,z2,k2⟩,rfl⟩;refine rO tb 3 U (e_ (Nk U U sizeOf32 .agg (Bf _) (Ai o2) (by repeat (first|exact Upd.h|apply Upd.t|apply Bk)) (by rw[Ai o2];rfl)) ?_ U);rintro _ _ ⟨rfl,rfl⟩;refine rO tb 7 U (Ak U (.cellA (Aa U) isAgg32 sizeOf32 (Ai o2) (by first|exact Ar) (.tmp (Aa U) (Ng U))) ?_);exact⟨_,⟨h2,is2,e2,⟨rfl,o2,z2,k2⟩,rfl⟩,by exact sbt⟩
  ·have n102: ¬ k=2:=by have h9: ¬ ((k:Nat):Int)=2:=c24;omega
   refine rC tb 6 U ?_
   first|refine Ae (Aa U) (fun c34=> ?_) (fun c34=> ?_)|refine Ah (Aa U) (fun c34=> ?_) (fun c34=> ?_)
   ·obtain rfl:k=3:=by have h9:((k:Nat):Int)=3:=c34;omega
    refine rC tb 3 U (y_ (Ni U isAgg28 sizeOf28 U (by first|exact Ar)) ?_ U);refine rO tb 1 U (e_ (Al (qe3 U U U) call17 (ansK (eempty_s hfl q c (hA.mono (by exact sbt)) tick hI1 hF1 (hM1.mono (by exact sbt))) (.inl U))) ?_ U);rintro _ _ ⟨h3,is3,e3,⟨rfl,o3,z3,k3⟩,rfl⟩;refine rO tb 3 U (e_ (Nk U U sizeOf32 .agg (Bf _) (Ai o3) (by repeat (first|exact Upd.h|apply Upd.t|apply Bk)) (by rw[Ai o3];rfl)) ?_ U);rintro _ _ ⟨rfl,rfl⟩;refine rO tb 7 U (Ak U (.cellA (Aa U) isAgg32 sizeOf32 (Ai o3) (by first|exact Ar) (.tmp (Aa U) (Ng U))) ?_);exact⟨_,⟨h3,is3,e3,⟨rfl,o3,z3,fun e=>ans_one qde (k3 e)⟩,rfl⟩,by exact sbt⟩
   ·have n103: ¬ k=3:=by have h9: ¬ ((k:Nat):Int)=3:=c34;omega
    refine rC tb 6 U ?_
    first|refine Ae (Aa U) (fun c43=> ?_) (fun c43=> ?_)|refine Ah (Aa U) (fun c43=> ?_) (fun c43=> ?_)
    ·obtain rfl:k=4:=by have h9:((k:Nat):Int)=4:=c43;omega
     refine rC tb 3 U (y_ (Ni U isAgg28 sizeOf28 U (by first|exact Ar)) ?_ U);refine rO tb 1 U (e_ (Al (qe3 U U U) call18 (ansK (etotal_s hfl q c (hA.mono (by exact sbt)) tick hI1 hF1 (hM1.mono (by exact sbt))) (.inl U))) ?_ U);rintro _ _ ⟨h4,is4,e4,⟨rfl,o4,z4,k4⟩,rfl⟩;refine rO tb 3 U (e_ (Nk U U sizeOf32 .agg (Bf _) (Ai o4) (by repeat (first|exact Upd.h|apply Upd.t|apply Bk)) (by rw[Ai o4];rfl)) ?_ U);rintro _ _ ⟨rfl,rfl⟩;refine rO tb 7 U (Ak U (.cellA (Aa U) isAgg32 sizeOf32 (Ai o4) (by first|exact Ar) (.tmp (Aa U) (Ng U))) ?_);exact⟨_,⟨h4,is4,e4,⟨rfl,o4,z4,fun e=>ans_one qde (k4 e)⟩,rfl⟩,by exact sbt⟩
    ·have n104: ¬ k=4:=by have h9: ¬ ((k:Nat):Int)=4:=c43;omega
     refine rC tb 6 U ?_
     first|refine Ae (Aa U) (fun c52=> ?_) (fun c52=> ?_)|refine Ah (Aa U) (fun c52=> ?_) (fun c52=> ?_)
     ·obtain rfl:k=5:=by have h9:((k:Nat):Int)=5:=c52;omega
      refine rC tb 3 U (y_ (Ni U isAgg28 sizeOf28 U (by first|exact Ar)) ?_ U);refine rO tb 1 U (e_ (Al (qe3 U U U) call19 (ansK (Io hfl q c (hA.mono (by exact sbt)) tick hI1 hF1 (hM1.mono (by exact sbt)) hn1 e9 hE9) z9)) ?_ U);rintro _ _ ⟨h5,is5,e5,⟨rfl,o5,z5,k5⟩,rfl⟩;refine rO tb 3 U (e_ (Nk U U sizeOf32 .agg (Bf _) (Ai o5) (by repeat (first|exact Upd.h|apply Upd.t|apply Bk)) (by rw[Ai o5];rfl)) ?_ U);rintro _ _ ⟨rfl,rfl⟩;refine rO tb 7 U (Ak U (.cellA (Aa U) isAgg32 sizeOf32 (Ai o5) (by first|exact Ar) (.tmp (Aa U) (Ng U))) ?_);exact⟨_,⟨h5,is5,e5,⟨rfl,o5,z5,fun e=>ans_one qde (k5 e)⟩,rfl⟩,by exact sbt⟩
     ·have n105: ¬ k=5:=by have h9: ¬ ((k:Nat):Int)=5:=c52;omega
      refine rC tb 6 U (y_ (Ni U isAgg28 sizeOf28 U (by first|exact Ar)) ?_ U);refine y_ (Ni U isAgg28 sizeOf28 U (by first|exact Ar)) ?_ U;refine rO tb 1 U (e_ (Al (qe4 U U U U) call20 (ansK (eapart_s hfl q c (hA.mono (by exact sbt)) tick hI1 hF1 (hM1.mono (by exact sbt)) hI2 hF2 (hM2.mono (by exact sbt))) (.inl U))) ?_ U);rintro _ _ ⟨h6,is6,e6,⟨rfl,o6,z6,k6⟩,rfl⟩;refine rO tb 3 U (e_ (Nk U U sizeOf32 .agg (Bf _) (Ai o6) (by repeat (first|exact Upd.h|apply Upd.t|apply Bk)) (by rw[Ai o6];rfl)) ?_ U);rintro _ _ ⟨rfl,rfl⟩;refine rO tb 5 U (Ak U (.cellA (Aa U) isAgg32 sizeOf32 (Ai o6) (by first|exact Ar) (.tmp (Aa U) (Ng U))) ?_);exact⟨_,⟨h6,is6,e6,⟨rfl,o6,z6,(show k=6 by omega) ▸ k6⟩,rfl⟩,by exact sbt⟩
theorem rhead_v {w0:World}{H:List (Nat × Obj)}{vs:List Value}(hi:List Int)(hvs:vs=hwC hi)(hil:hi.length=10):FSpec Tryz.prog w0 27 #[.agg vs.toArray] H (SayB (∀ k,k<10→0≤gd hi k∧gd hi k≤65535) H):=by
 subst hvs;exact rhead_s hi hil
section
variable {t:Int} {k:Nat} {p q:Po} {h w:Hd} {is b:Bool}
theorem wit_1 (a:Ans (AskP t k p q) w is)(hi:is=true)(hh:HdOk h)(e:b=true↔AskP t k p q h)(n: ¬ b=true):False:=by
 subst hi;exact n (e.2 (a.true h hh))
theorem wit_2 (a:Ans (AskP t k p q) w is)(hi: ¬ is=true)(hh:HdOk h)(hw:HdOk w)(e:b=true↔AskP t k p q h)(n: ¬ b=true)(l:cmpL h w<0):False:=by
 obtain rfl:is=false:=by simpa using hi
 exact n (e.2 (a.false.2.2 h hh ((G9 hh hw).1 l)))
theorem wit_3 (a:Ans (AskP t k p q) w is)(hi: ¬ is=true)(e:b=true↔AskP t k p q w)(n:b=true):False:=by
 obtain rfl:is=false:=by simpa using hi
 exact a.false.2.1 (e.1 n)
end
theorem witness_s {w0:World}{H:List (Nat × Obj)}(fi:List Fi)(q:Option Addr)(n c:Nat)(hn:n=fi.length)(hA:Arr w0 H q 3 encFi fi)(hnm:∀ f∈fi,f.nm.size≤9223372036854775807){m1:Pom}(hM1:PoM w0 H m1)(hm1:m1.sz≤1048576)(hz1:NmO m1){m2:Pom}(hM2:PoM w0 H m2)(hm2:m2.sz≤1048576)(hz2:NmO m2)(tick:Int)(vs:List Value)(hi:List Int)(hvs:vs=hwC hi)(hil:hi.length=10)  :
  FSpec Tryz.prog w0 7 #[.slice q n c, .agg (encPo m1).toArray, .agg (encPo m2).toArray, .int .i64 tick, .agg vs.toArray] H (Still (.bool true) H):=by
 refine Au Tryz.func7 U ntmps7 U ?_;have hvl:vs.length=10:=by rw[hvs,List.length_map];exact hil
 refine rD tb 2 U (e_ (Nl U cs_) ?_ U);rintro _ _ ⟨n6,rfl,rfl⟩;refine e_ (Nl U cs_) ?_ U;rintro _ _ ⟨n7,rfl,rfl⟩;refine e_ (Nl U cs_) ?_ U;rintro _ _ ⟨n9,rfl,rfl⟩;refine rO tb 5 U (y_ (Aw .nil call11 (fun H' hs=>sanity_s)) (rO tb 7 U (y_ (Ni U isAgg28 sizeOf28 U (by first|exact Ar)) ?_ U)) U);refine y_ (Ni U isAgg28 sizeOf28 U (by first|exact Ar)) ?_ U;refine rO tb 1 U (e_ (Al (.cons (T U) (.cons (T U) (.cons (T U) (.cons Am (.cons (T U) .nil))))) call12 (both_s fi q n c hn (hA.mono (by exact sbt)) hnm (hM1.mono (by exact sbt)) qom hz1 (hM2.mono (by exact sbt)) qom hz2 60 tick)) ?_ U);rintro _ _ ⟨b,⟨rfl,hb⟩,rfl⟩
 first|refine A9 (B4 (T U)) U Ac ?_|refine A9 (B0 (T U)) U Ac ?_
 refine rO tb 1 U ?_
 first|refine Av (s:=27) (Aa U) (fun c27=> ?_) (fun c27=> ?_)|refine A5 (s:=27) (Aa U) (fun c27=> ?_) (fun c27=> ?_)
 ·skip
  refine rO tb 15 U (Ak U (Ng U) ?_);exact⟨_,⟨rfl,rfl⟩,by exact sbt⟩
 ·have hbt:b=true:=by simpa using c27
  refine A9 (Ni U isAgg32 sizeOf32 hvl (by first|exact Ag fdd|exact Ar)) U (Bg U U (Aa U)) ?_;refine A7 (Al (qe1 U) call27 (rhead_v hi hvs hil)) U (Bg U U (Aa U)) ?_;rintro _ _ ⟨bh,⟨rfl,hbh⟩,rfl⟩
  first|refine A9 (B4 (T U)) U (Bg U U (Aa U)) ?_|refine A9 (B0 (T U)) U (Bg U U (Aa U)) ?_
  refine rO tb 3 U ?_
  first|refine Ae (Aa U) (fun c31=> ?_) (fun c31=> ?_)|refine Ah (Aa U) (fun c31=> ?_) (fun c31=> ?_)
  ·skip
   refine rC tb 8 U (Ak U (Ng U) ?_);exact⟨_,⟨rfl,rfl⟩,by exact sbt⟩
  ·obtain⟨⟨ht0,ht1⟩,hfi,⟨hd1,p1,hI1,hF1⟩,hd2,p2,hI2,hF2⟩:=hb hbt;have hfl:=hfi.fl;have hAf:=fis_arr hfi hA;have hln:n=(fi.map Fi.fd).length:=hn.trans (List.length_map _).symm;obtain⟨fl,hfe⟩:∃ fl,fi.map Fi.fd=fl:=⟨_,rfl⟩;rw[hfe] at hI1 hF1 hI2 hF2 hfl hAf hln;subst hln;obtain⟨h,hh,heh⟩:=hi_hd hil (hbh (by simpa using c31));obtain rfl:vs=hdC h:=hvs.trans heh;refine rC tb 9 U ?_;refine Bi (X:=Nat) (V:=fun a=>[(12, .int .i64 (a:Nat))]) (C:=[(0,_),(3,_),(6,_),(7,_),(9,_),(11,_)]) (G:=fun a=>(n9,Cl (hdC h) 32)::(n7,Cl (encPo m2) 28)::(n6,Cl (encPo m1) 28)::H) (φ:=fun a=>1≤a∧a≤7) (μ:=fun a=>7 - a) (x0:=1) ?_ ⟨Aa U,Aa U,Aa U,Aa U,Aa U,Aa U,trivial⟩ ⟨atd,trivial⟩ (by exact sbt) ?_
   ·exact⟨Nat.le_refl _,by decide⟩
   rintro a ⟨ha1,ha7⟩;refine rD tb 7 U ?_
   first|refine Ae (Aa U) (fun c34=> ?_) (fun c34=> ?_)|refine Ah (Aa U) (fun c34=> ?_) (fun c34=> ?_)
   ·have ha6:a≤6:=by have h9:((a:Nat):Int)≤6:=c34;omega
    refine rC tb 8 U (y_ (Ni U isAgg28 sizeOf28 U (by first|exact Ar)) ?_ U);refine y_ (Ni U isAgg28 sizeOf28 U (by first|exact Ar)) ?_ U;refine rO tb 1 U (e_ (Al (.cons (T U) (.cons (T U) (.cons (T U) (.cons (T U) (.cons (T U) .nil))))) call28 (answer_s hfl q c (hAf.mono (by exact sbt)) tick hI1 hF1 (hM1.mono (by exact sbt)) hI2 hF2 (hM2.mono (by exact sbt)) qom a ⟨ha1,by omega⟩)) ?_ U);rintro _ _ ⟨h1,is1,e1,⟨rfl,o1,z1,k1⟩,rfl⟩;refine rO tb 4 U (e_ (Aj zeroValue32 cs_) ?_ U);rintro _ _ ⟨n13,rfl,rfl⟩;refine e_ (Nk U U sizeOf32 .agg (Bf _) (Ai o1) (by repeat (first|exact Upd.h|apply Upd.t|apply Bk)) (by rw[Ai o1];rfl)) ?_ U;rintro _ _ ⟨rfl,rfl⟩;refine rO tb 8 U (y_ (Ni U isAgg28 sizeOf28 U (by first|exact Ar)) ?_ U);refine y_ (Ni U isAgg28 sizeOf28 U (by first|exact Ar)) ?_ U;refine y_ (Ni U isAgg32 sizeOf32 (Ai hh) (by first|exact Ag fdd|exact Ar)) ?_ U;refine rO tb 1 U (e_ (Al (.cons (T U) (.cons (T U) (.cons (T U) (.cons (T U) (.cons (T U) (.cons (T U) .nil)))))) call29 (rholds_s hfl q c (hAf.mono (by exact sbt)) tick hI1 hF1 (hM1.mono (by exact sbt)) hI2 hF2 (hM2.mono (by exact sbt)) qom qom a h hh)) ?_ U);rintro _ _ ⟨b2,y2,⟨rfl,w2⟩,rfl⟩;refine kO tb 7 [0,3,6,7,9,11,12,13,14,15,16,17] rfl U (rG tb 4 U (y_ (Ni U isAgg28 sizeOf28 U (by first|exact Ar)) ?_ U));refine y_ (Ni U isAgg28 sizeOf28 U (by first|exact Ar)) ?_ U;refine y_ (Ni U isAgg32 sizeOf32 (Ai o1) (by first|exact Ag fdd|exact Ar)) ?_ U;refine rO tb 1 U (e_ (Al (.cons (T U) (.cons (T U) (.cons (T U) (.cons (T U) (.cons (T U) (.cons (T U) .nil)))))) call29 (rholds_s hfl q c (hAf.mono (by exact sbt)) tick hI1 hF1 (hM1.mono (by exact sbt)) hI2 hF2 (hM2.mono (by exact sbt)) qom qom a h1 o1)) ?_ U);rintro _ _ ⟨b3,y3,⟨rfl,w3⟩,rfl⟩;refine rO tb 14 U ?_
    first|refine Ae (Aa U) (fun c68=> ?_) (fun c68=> ?_)|refine Ah (Aa U) (fun c68=> ?_) (fun c68=> ?_)
    ·skip
     refine rC tb 6 U (y_ (A6 (T U) Am qom) ?_ U);refine rO tb 2 U ?_;refine A2 (a+1) ?_ ?_ ⟨atd,trivial⟩ ⟨Aa U,Aa U,Aa U,Aa U,Aa U,Aa U,trivial⟩ ?_
     ·exact⟨by omega,by omega⟩
     ·first|omega|(simp only[];omega)
     ·exact sbt
    ·have he0:e1=0:=Classical.not_not.1 c68;have kA:=k1 he0;refine rC tb 6 U ?_
     first|refine Av (s:=70) (Aa U) (fun c70=> ?_) (fun c70=> ?_)|refine A5 (s:=70) (Aa U) (fun c70=> ?_) (fun c70=> ?_)
     ·refine rO tb 1 U ?_
      first|refine A9 (B4 (T U)) U (Bg U U (Aa U)) ?_|refine A9 (B0 (T U)) U (Bg U U (Aa U)) ?_
      refine rO tb 2 U ?_
      first|refine Av (s:=74) (Aa U) (fun c74=> ?_) (fun c74=> ?_)|refine A5 (s:=74) (Aa U) (fun c74=> ?_) (fun c74=> ?_)
      ·refine rO tb 2 U ?_
       first|refine Av (s:=76) (Aa U) (fun c76=> ?_) (fun c76=> ?_)|refine A5 (s:=76) (Aa U) (fun c76=> ?_) (fun c76=> ?_)
       ·exact(wit_1 kA c76 hh (w2 c70) (by simpa using c74)).elim
       ·skip
        refine A9 (Ni U isAgg32 sizeOf32 (Ai hh) (by first|exact Ag fdd|exact Ar)) U (Bg U U (Aa U)) ?_;refine A9 (Ni U isAgg32 sizeOf32 (Ai o1) (by first|exact Ag fdd|exact Ar)) U (Bg U U (Aa U)) ?_;refine A9 (Aw (qe2 U U) call30 (fun H' hs=>cmp18_s h h1 hh o1)) U (Bg U U (Aa U)) (rO tb 4 U ?_)
        first|refine Av (s:=83) (Aa U) (fun c83=> ?_) (fun c83=> ?_)|refine A5 (s:=83) (Aa U) (fun c83=> ?_) (fun c83=> ?_)
        ·exact(wit_2 kA (by simp[c76]) hh o1 (w2 c70) (by simpa using c74) c83).elim
        ·skip
         refine rO tb 2 U ?_
         first|refine Av (s:=85) (Aa U) (fun c85=> ?_) (fun c85=> ?_)|refine A5 (s:=85) (Aa U) (fun c85=> ?_) (fun c85=> ?_)
         ·refine rO tb 3 U ?_
          first|refine Av (s:=88) (Aa U) (fun c88=> ?_) (fun c88=> ?_)|refine A5 (s:=88) (Aa U) (fun c88=> ?_) (fun c88=> ?_)
          ·refine rO tb 1 U ?_
           first|refine A9 (B4 (T U)) U (Bg U U (Aa U)) ?_|refine A9 (B0 (T U)) U (Bg U U (Aa U)) ?_
           refine kO tb 4 [0,3,6,7,9,11,12,92] rfl U ?_
           first|refine Ae (Aa U) (fun c92=> ?_) (fun c92=> ?_)|refine Ah (Aa U) (fun c92=> ?_) (fun c92=> ?_)
           ·exact(wit_3 kA (by simpa using c92) (w3 c85) c88).elim
           ·skip
            refine rC tb 5 U (y_ (A6 (T U) Am qom) ?_ U);refine rO tb 2 U ?_;refine A2 (a+1) ?_ ?_ ⟨atd,trivial⟩ ⟨Aa U,Aa U,Aa U,Aa U,Aa U,Aa U,trivial⟩ ?_
            ·exact⟨by omega,by omega⟩
            ·first|omega|(simp only[];omega)
            ·exact sbt
          ·refine kO tb 6 [0,3,6,7,9,11,12,92] rfl U (rG tb 6 U (y_ (A6 (T U) Am qom) ?_ U));refine rO tb 2 U ?_;refine A2 (a+1) ?_ ?_ ⟨atd,trivial⟩ ⟨Aa U,Aa U,Aa U,Aa U,Aa U,Aa U,trivial⟩ ?_
           ·exact⟨by omega,by omega⟩
           ·first|omega|(simp only[];omega)
           ·exact sbt
         ·refine kO tb 9 [0,3,6,7,9,11,12,92] rfl U (rG tb 6 U (y_ (A6 (T U) Am qom) ?_ U));refine rO tb 2 U ?_;refine A2 (a+1) ?_ ?_ ⟨atd,trivial⟩ ⟨Aa U,Aa U,Aa U,Aa U,Aa U,Aa U,trivial⟩ ?_
          ·exact⟨by omega,by omega⟩
          ·first|omega|(simp only[];omega)
          ·exact sbt
      ·refine rO tb 11 U ?_
       first|refine Av (s:=85) (Aa U) (fun c85=> ?_) (fun c85=> ?_)|refine A5 (s:=85) (Aa U) (fun c85=> ?_) (fun c85=> ?_)
       ·refine rO tb 3 U ?_
        first|refine Av (s:=88) (Aa U) (fun c88=> ?_) (fun c88=> ?_)|refine A5 (s:=88) (Aa U) (fun c88=> ?_) (fun c88=> ?_)
        ·refine rO tb 1 U ?_
         first|refine A9 (B4 (T U)) U (Bg U U (Aa U)) ?_|refine A9 (B0 (T U)) U (Bg U U (Aa U)) ?_
         refine kO tb 4 [0,3,6,7,9,11,12,92] rfl U ?_
         first|refine Ae (Aa U) (fun c92=> ?_) (fun c92=> ?_)|refine Ah (Aa U) (fun c92=> ?_) (fun c92=> ?_)
         ·exact(wit_3 kA (by simpa using c92) (w3 c85) c88).elim
         ·skip
          refine rC tb 5 U (y_ (A6 (T U) Am qom) ?_ U);refine rO tb 2 U ?_;refine A2 (a+1) ?_ ?_ ⟨atd,trivial⟩ ⟨Aa U,Aa U,Aa U,Aa U,Aa U,Aa U,trivial⟩ ?_
          ·exact⟨by omega,by omega⟩
          ·first|omega|(simp only[];omega)
          ·exact sbt
        ·refine kO tb 6 [0,3,6,7,9,11,12,92] rfl U (rG tb 6 U (y_ (A6 (T U) Am qom) ?_ U));refine rO tb 2 U ?_;refine A2 (a+1) ?_ ?_ ⟨atd,trivial⟩ ⟨Aa U,Aa U,Aa U,Aa U,Aa U,Aa U,trivial⟩ ?_
         ·exact⟨by omega,by omega⟩
         ·first|omega|(simp only[];omega)
         ·exact sbt
       ·refine kO tb 9 [0,3,6,7,9,11,12,92] rfl U (rG tb 6 U (y_ (A6 (T U) Am qom) ?_ U));refine rO tb 2 U ?_;refine A2 (a+1) ?_ ?_ ⟨atd,trivial⟩ ⟨Aa U,Aa U,Aa U,Aa U,Aa U,Aa U,trivial⟩ ?_
        ·exact⟨by omega,by omega⟩
        ·first|omega|(simp only[];omega)
        ·exact sbt
     ·refine rO tb 15 U ?_
      first|refine Av (s:=85) (Aa U) (fun c85=> ?_) (fun c85=> ?_)|refine A5 (s:=85) (Aa U) (fun c85=> ?_) (fun c85=> ?_)
      ·refine rO tb 3 U ?_
       first|refine Av (s:=88) (Aa U) (fun c88=> ?_) (fun c88=> ?_)|refine A5 (s:=88) (Aa U) (fun c88=> ?_) (fun c88=> ?_)
       ·refine rO tb 1 U ?_
        first|refine A9 (B4 (T U)) U (Bg U U (Aa U)) ?_|refine A9 (B0 (T U)) U (Bg U U (Aa U)) ?_
        refine kO tb 4 [0,3,6,7,9,11,12,92] rfl U ?_
        first|refine Ae (Aa U) (fun c92=> ?_) (fun c92=> ?_)|refine Ah (Aa U) (fun c92=> ?_) (fun c92=> ?_)
        ·exact(wit_3 kA (by simpa using c92) (w3 c85) c88).elim
        ·skip
         refine rC tb 5 U (y_ (A6 (T U) Am qom) ?_ U);refine rO tb 2 U ?_;refine A2 (a+1) ?_ ?_ ⟨atd,trivial⟩ ⟨Aa U,Aa U,Aa U,Aa U,Aa U,Aa U,trivial⟩ ?_
         ·exact⟨by omega,by omega⟩
         ·first|omega|(simp only[];omega)
         ·exact sbt
       ·refine kO tb 6 [0,3,6,7,9,11,12,92] rfl U (rG tb 6 U (y_ (A6 (T U) Am qom) ?_ U));refine rO tb 2 U ?_;refine A2 (a+1) ?_ ?_ ⟨atd,trivial⟩ ⟨Aa U,Aa U,Aa U,Aa U,Aa U,Aa U,trivial⟩ ?_
        ·exact⟨by omega,by omega⟩
        ·first|omega|(simp only[];omega)
        ·exact sbt
      ·refine kO tb 9 [0,3,6,7,9,11,12,92] rfl U (rG tb 6 U (y_ (A6 (T U) Am qom) ?_ U));refine rO tb 2 U ?_;refine A2 (a+1) ?_ ?_ ⟨atd,trivial⟩ ⟨Aa U,Aa U,Aa U,Aa U,Aa U,Aa U,trivial⟩ ?_
       ·exact⟨by omega,by omega⟩
       ·first|omega|(simp only[];omega)
       ·exact sbt
   ·skip
    refine rC tb 2 U (Ax (rX tb 9 U (Ak U (Ng U) ?_)));exact⟨_,⟨rfl,rfl⟩,by exact sbt⟩
end Go.Proofs.YtkgfmjanajdibaaGreat
namespace Go.Proofs.YtkgfmjanajdibaaGreat
open _root_.Go.Proofs.Tryz
open Go.ChangeShapes Go.WideShapes Go.ChangeAt Go.RowKit Go.Joins
set_option linter.unusedVariables false
set_option linter.unusedSimpArgs false
set_option linter.unusedSectionVars false
set_option maxRecDepth 100000
section
variable {H:Type} {enc:TypeId × Value→H} {W:World}
theorem laid_out:laidOutB Tryz.prog=true:=by kernel_rfl
theorem trodAll_stays:∀ {ts:List TypeId} {vs:List Value} {ds:List (DataW H)} {ps:List MemPlace} {W':World},(∀ t∈ts,Tryz.prog.readableRec t=true∧t<Tryz.prog.types.size)→DataW.TrodAll enc Tryz.prog W 0 (fun _=>true) true ts vs ds ps→Below W.heap.size W W'→(∀ x∈ps,x.block<W.heap.size)→
  DataW.TrodAll enc Tryz.prog W' 0 (fun b=>decide (b<W.heap.size)) true ts vs ds ps
 |[],_,_,_,_,_,h,_,_=>by obtain⟨rfl,rfl,rfl⟩:=trodAll_nil h;exact trodAll_mk0
 |t::ts,_,_,_,_,hr,h,hb,hlt=>by
  obtain⟨v,vs,d,ds,p,q,rfl,rfl,rfl,h0,r0⟩:=trodAll_cons h;exact trodAll_cons_mk (Below.trod laid_out (hr t (by simp)).1 (hr t (by simp)).2 h0 hb (fun x hx=>hlt x (by simp[hx]))) (trodAll_stays (fun t ht=>hr t (by simp[ht])) r0 hb (fun x hx=>hlt x (by simp[hx])))
end
theorem calls_true {f:FuncId}{args:Array Value}{W:World}(h:FSpec Tryz.prog W f args [] (Still (.bool true) [])):Calls Tryz.prog f args W fun e W'=>e= .returned (.bool true)∧Below W.heap.size W W':=
 (h W (Own.start W)).mono fun e W' ⟨v,H',he,hO,hv,_⟩=>⟨by rw[he,hv],hO.below⟩
noncomputable def laidWorld (os:Os):World:=World.holding Tryz.prog os ⟨#[],#[],[]⟩
end Go.Proofs.YtkgfmjanajdibaaGreat
namespace Go.Proofs.YtkgfmjanajdibaaGreat
open _root_.Go.Proofs.Tryz
open Go.ChangeShapes Go.WideShapes Go.ChangeAt Go.RowKit Go.Joins Go.Deep
set_option linter.unusedVariables false
set_option linter.unusedSimpArgs false
set_option linter.unusedSectionVars false
set_option maxRecDepth 100000
theorem cells30:Tryz.prog.cellsOf 32=10:=by kernel_rfl
theorem und30:Tryz.prog.underlying 32=some (.array 10 3):=by kernel_rfl
section
variable {H:Type} {enc:TypeId × Value→H} {W:World} {b0 n:Nat} {sp1:Nat→Bool} {held:Bool} {y:DataW H × List MemPlace} {cs:List Value}
theorem open_hd {base:Nat}{r:_root_.Go.Reach}{v:Value}{d:DataW H}{p:List MemPlace}(hv:Value.okWide Tryz.prog W r base 32 v)(h:DataW.Trod enc Tryz.prog W b0 sp1 held 32 v d p):∃ (vs:List Value) (hi:List Int),v= .agg vs.toArray∧vs=hwC hi∧hi.length=10:=by
 simp only[Value.okWide,und30] at hv;obtain⟨cs,rfl,h2,_⟩:=hv;obtain⟨l⟩:=cs;obtain⟨fuel,hf⟩:=h;obtain⟨xs,m,rfl,hx,hlen,hxl,hall⟩:=DataW.trod_array und30 hf;simp only[Value.cells] at hlen hall;rw[cells30] at hlen;have each:∀ i,i<10→∃ a:Int,l[i]? =some (.int .i64 a):=fun i hi=>by
  have h3:=hall i hi;rw[cells3,Nat.mul_one,List.getElem?_eq_getElem (by omega:i<xs.length),List.drop_eq_getElem_cons (by omega:i<l.length)] at h3;obtain⟨a,e,_⟩:=H6 h3;exact⟨a,by rw[List.getElem?_eq_getElem (by omega:i<l.length),e]⟩
 obtain⟨f,hf2⟩:=choose_lt each;refine⟨l,(List.range 10).map f,rfl,?_,by simp⟩;refine List.ext_getElem? fun i=> ?_
 by_cases hi:i<10
 ·rw[hf2 i hi];simp[hi]
 ·rw[List.getElem?_eq_none qom,List.getElem?_eq_none (by simp;omega)]
end
end Go.Proofs.YtkgfmjanajdibaaGreat
