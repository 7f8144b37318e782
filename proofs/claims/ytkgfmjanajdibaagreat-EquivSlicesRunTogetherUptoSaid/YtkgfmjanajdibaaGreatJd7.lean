/-
  A part of what LawD rests on: the logic, walks and plain laws. No condition.
-/
import Derived.Test.YtkgfmjanajdibaaGreatJd6
import Derived.Test.YtkgfmjanajdibaaGreatRows
import Derived.WalkKit
import Derived.ProofKit
import Derived.OpenShut
import Derived.Lib.SmallJoins
import Derived.Deep.SlicePairs
import Derived.Deep.DeepHandedRow
namespace Go.Proofs.YtkgfmjanajdibaaGreat
open _root_.Go.Proofs.Tryz
open Go.ChangeShapes Go.WideShapes Go.ChangeAt Go.RowKit Go.Joins Go.Deep
set_option linter.unusedVariables false
set_option linter.unusedSimpArgs false
set_option linter.unusedSectionVars false
set_option maxRecDepth 100000
theorem below_cell {W w:World}{p:Addr}{v:Value}(hb:Below W.heap.size W w)(h:W.cell? p=some v):w.cell? p=some v:=by
 have hlt:=World.block_lt_of_cell? _ _ h;have:=hb.block p.block hlt;unfold World.cell? at h ⊢;rw[this];exact h
theorem cell_arg {W:World}{p:Addr}{v:Value}(h:W.cell? p=some v):Cell W [] p v:=fun w hO=>below_cell hO.below h
theorem E7 {H:Type}(d:DataW H):1≤Rows.uptoBulk d:=by
 cases d with
 |lit l=>cases l<;>simp[Rows.uptoBulk]
 |nil=>simp[Rows.uptoBulk]
 |ptr d=>simp[Rows.uptoBulk]
 |slice elems spare=>simp[Rows.uptoBulk]
 |agg parts=>simp[Rows.uptoBulk]
 |iface t d=>simp[Rows.uptoBulk]
 |map entries=>simp[Rows.uptoBulk]
 |held h=>simp[Rows.uptoBulk]
theorem blk_sum {H:Type}{f:Nat→Nat}{D:Nat→DataW H}:∀ (l:List Nat),(∀ i∈l,f i≤Rows.uptoBulk (D i))→(l.map f).sum≤Rows.uptoBulkAll (l.map D)
 |[],_=>Nat.le_refl _
 |x::l,h=>by
  have h1:=h x (by simp);have h2:=blk_sum l fun i hi=>h i (by simp[hi])
  simp only[List.map_cons,List.sum_cons,Rows.uptoBulkAll];omega
theorem blk_mem {H:Type}{D:Nat→DataW H}:∀ {l:List Nat} {i:Nat},i∈l→Rows.uptoBulk (D i)≤Rows.uptoBulkAll (l.map D)
 |x::l,i,h=>by
  simp only[List.map_cons,Rows.uptoBulkAll];rcases List.mem_cons.1 h with rfl|h
  ·exact Nat.le_add_right _ _
  ·have:=blk_mem (D:=D) h;omega
section
variable {H:Type} {enc:TypeId × Value→H} {P:Program} {W:World} {b0:Nat} {sp1:Nat→Bool} {held:Bool}
theorem open_arr {α:Type}{t e sz fuel:Nat}{cs:List Value}{x:DataW H × List MemPlace}{el:α→List Value}{φ:α→Prop}{szf:α→Nat}(ht:P.underlying t=some (.slice e))(hc:P.cellsOf e=sz)(hsz:0<sz)
  (hel:∀ n cs y,Rows.uptoBulk y.1<Rows.uptoBulk x.1→DataW.trod enc P W b0 sp1 held n e cs=some y→∃ u:α,cs=el u∧φ u∧szf u≤Rows.uptoBulk y.1) (h:DataW.trod enc P W b0 sp1 held fuel t cs=some x):
  ∃ (q:Option Addr) (l:List α) (cap:Nat),cs=[.slice q l.length cap]∧Arr W [] q sz el l∧l.length≤cap∧l.length≤9223372036854775807∧(∀ u∈l,φ u)∧(l.map szf).sum+1≤Rows.uptoBulk x.1:=by
 rcases open_slice ht h with ⟨rfl,rfl⟩|⟨a,len,cap,m,n,D,Pl,rfl,hb,hl,hm,hmm,rfl,hx⟩
 ·exact⟨none,[],0,rfl,fun i u hi=>by simp at hi,by simp,by simp,by simp,by simp[Rows.uptoBulk]⟩
 have hlm:len≤m:=by rw[hmm];split<;>omega
 have hlen:len≤9223372036854775807:=by unfold maxLen at hm;omega
 cases len with
 |zero=>exact⟨some a,[],cap,rfl,fun i u hi=>by simp at hi,by simp,by simp,by simp,by simp[Rows.uptoBulk]⟩
 |succ k=>
  have hbk:Rows.uptoBulkAll ((List.range (k+1)).map D)+1≤Rows.uptoBulk (DataW.slice ((List.range (k+1)).map D) ((List.range (m - (k+1))).map fun j=>D (k+1+j))):=by
   simp only[Rows.uptoBulk];omega
  have each:∀ i,i<k+1→∃ u:α,W.cells? b0 (a.add (i*sz)) sz=some (el u)∧φ u∧szf u≤Rows.uptoBulk (D i):=fun i hi=>by
   obtain⟨cs',h1,h2⟩:=hx i qom;rw[hc] at h1;have h3:=blk_mem (D:=D) (List.mem_range.2 hi);obtain⟨u,rfl,hu⟩:=hel _ _ _ (by simp only[];omega) h2;exact⟨u,h1,hu⟩
  obtain⟨u0,h00,hu0⟩:=each 0 qom
  letI:Inhabited α:=⟨u0⟩
  obtain⟨f,hf⟩:=choose_lt each;refine⟨some a,(List.range (k+1)).map f,cap,by simp,fun i u hi=> ?_,by simpa using hl,by simpa using hlen,fun u hu=> ?_,?_⟩
  ·have hik:i<k+1:=by have:=(List.getElem?_eq_some_iff.1 hi).1;simpa using this
   have hfu:f i=u:=by simpa[hik] using hi
   obtain⟨sb,so,spot⟩:=a;obtain⟨_,hl0,hc0⟩:=World.cells?_some h00;have hspot:spot=none:=by
    have h6:=(hc0 0 hsz).trans (List.getElem?_eq_getElem qom)
    simpa[Addr.add] using World.cell?_spot h6
   subst hspot;refine⟨rfl,fun j v hj=>cell_arg ?_⟩;obtain⟨_,hl1,hc1⟩:=World.cells?_some (hf i hik).1;rw[hfu] at hl1 hc1;have hjl:=(List.getElem?_eq_some_iff.1 hj).1;have h5:=hc1 j qom;rw[add_add,add_plain] at h5;have h6:=h5.trans hj;rw[← Nat.add_assoc] at h6;exact h6
  ·obtain⟨i,hi,rfl⟩:=List.mem_map.1 hu;exact(hf i (List.mem_range.1 hi)).2.1
  ·have:=blk_sum (f:=fun i=>szf (f i)) (D:=D) (List.range (k+1)) fun i hi=>(hf i (List.mem_range.1 hi)).2.2
   rw[List.map_map];have e:(szf ∘ f)=fun i=>szf (f i):=rfl
   rw[e];simp only[] at hbk ⊢;omega
end
theorem cells3:Tryz.prog.cellsOf 3=1:=by kernel_rfl
theorem cells9:Tryz.prog.cellsOf 9=1:=by kernel_rfl
theorem cells67:Tryz.prog.cellsOf 127=3:=by kernel_rfl
theorem cells25:Tryz.prog.cellsOf 25=5:=by kernel_rfl
theorem cells23:Tryz.prog.cellsOf 23=1:=by kernel_rfl
theorem cells28:Tryz.prog.cellsOf 28=9:=by kernel_rfl
theorem cells26:Tryz.prog.cellsOf 26=1:=by kernel_rfl
theorem own_knob:ownKnob Tryz.prog.godebug=none:=by kernel_rfl
theorem i64_bd {n:Int}(h:(Lit.int .i64 n).wf=true): -9223372036854775808≤n∧n≤9223372036854775807:=by
 have:=bounds_i64 h;exact this
theorem szPL_sum:∀ l:List Pdm,szPL l=(l.map Pdm.sz).sum
 |[]=>by simp[szPL]
 |x::l=>by simp only[szPL,List.map_cons,List.sum_cons,szPL_sum l]
theorem szOL_sum:∀ l:List Pom,szOL l=(l.map Pom.sz).sum
 |[]=>by simp[szOL]
 |x::l=>by simp only[szOL,List.map_cons,List.sum_cons,szOL_sum l]
theorem prtPL_in {l:List Pdm}{a:Pdm}(h:a∈prtPL l):∃ x∈l,a∈prtP x:=by
 induction l with
 |nil=>simp[prtPL] at h
 |cons x l ih=>
  rw[prtPL] at h;rcases List.mem_append.1 h with h|h
  ·exact⟨x,by simp,h⟩
  ·obtain⟨y,h1,h2⟩:=ih h;exact⟨y,by simp[h1],h2⟩
theorem prtOL_in {l:List Pom}{a:Pom}(h:a∈prtOL l):∃ x∈l,a∈prtO x:=by
 induction l with
 |nil=>simp[prtOL] at h
 |cons x l ih=>
  rw[prtOL] at h;rcases List.mem_append.1 h with h|h
  ·exact⟨x,by simp,h⟩
  ·obtain⟨y,h1,h2⟩:=ih h;exact⟨y,by simp[h1],h2⟩
section
variable {H:Type} {enc:TypeId × Value→H} {W:World} {b0 n:Nat} {sp1:Nat→Bool} {held:Bool} {y:DataW H × List MemPlace} {cs:List Value}
abbrev encSv (s:ByteArray):List Value:=[.string s]
theorem H4 {c:Value}(h:DataW.trod enc Tryz.prog W b0 sp1 held n 3 [c]=some y):∃ a:Int,c= .int .i64 a∧(-9223372036854775808≤a∧a≤9223372036854775807):=by
 obtain⟨a,e0,_,wa⟩:=DataW.trod_int underlying3 h;simp at e0;exact⟨a,e0,i64_bd wa⟩
theorem rd_str (h:DataW.trod enc Tryz.prog W b0 sp1 held n 9 cs=some y):∃ u:ByteArray,cs=encSv u∧u.size≤9223372036854775807:=by
 obtain⟨s,e0,_,ws⟩:=DataW.trod_string underlying9 h;exact⟨s,e0,by unfold maxLen at ws;omega⟩
theorem rd_fi (h:DataW.trod enc Tryz.prog W b0 sp1 held n 127 cs=some y):∃ u:Fi,cs=encFi u∧u.nm.size≤9223372036854775807:=by
 obtain⟨xs,m,rfl,rfl,hlen,hxl,hall⟩:=DataW.trod_struct underlying127 h;rw[cells67] at hlen
 match xs,hxl,cs,hlen with
 |[x0,x1,x2],_,[c0,c1,c2],_=>
  have f0:DataW.trod enc Tryz.prog W b0 sp1 held m 9 [c0]=some x0:=by have:=hall 0 _ rfl;simpa[cells9] using this
  have f1:DataW.trod enc Tryz.prog W b0 sp1 held m 3 [c1]=some x1:=by have:=hall 1 _ rfl;simpa[cells9,cells3] using this
  have f2:DataW.trod enc Tryz.prog W b0 sp1 held m 3 [c2]=some x2:=by have:=hall 2 _ rfl;simpa[cells9,cells3] using this
  obtain⟨s,e1,hs⟩:=rd_str f0;obtain⟨a,rfl,_⟩:=H4 f1;obtain⟨b,rfl,_⟩:=H4 f2;simp at e1;exact⟨⟨s,a,b⟩,by rw[e1],hs⟩
theorem rd_pd:∀ (N:Nat) {n:Nat} {y:DataW H × List MemPlace} {cs:List Value},Rows.uptoBulk y.1≤N→DataW.trod enc Tryz.prog W b0 sp1 held n 25 cs=some y→∃ u:Pdm,cs=encPd u∧(PdM W [] u∧NmP u)∧u.sz≤Rows.uptoBulk y.1
 |0,n,y,cs,hN,_=>by have:=E7 y.1;omega
 |N+1,n,y,cs,hN,h=>by
  obtain⟨xs,m,rfl,rfl,hlen,hxl,hall⟩:=DataW.trod_struct underlying25 h;rw[cells25] at hlen
  match xs,hxl,cs,hlen with
  |[x0,x1,x2,x3,x4],_,[c0,c1,c2,c3,c4],_=>
   have f0:DataW.trod enc Tryz.prog W b0 sp1 held m 3 [c0]=some x0:=by have:=hall 0 _ rfl;simpa[cells3] using this
   have f1:DataW.trod enc Tryz.prog W b0 sp1 held m 9 [c1]=some x1:=by have:=hall 1 _ rfl;simpa[cells3,cells9] using this
   have f2:DataW.trod enc Tryz.prog W b0 sp1 held m 3 [c2]=some x2:=by have:=hall 2 _ rfl;simpa[cells3,cells9] using this
   have f3:DataW.trod enc Tryz.prog W b0 sp1 held m 3 [c3]=some x3:=by have:=hall 3 _ rfl;simpa[cells3,cells9] using this
   have f4:DataW.trod enc Tryz.prog W b0 sp1 held m 23 [c4]=some x4:=by have:=hall 4 _ rfl;simpa[cells3,cells9,cells23] using this
   have hb:Rows.uptoBulk x4.1+4≤Rows.uptoBulk (DataW.agg (H:=H) ([x0,x1,x2,x3,x4].map (·.1))):=by
    have:=E7 x0.1;have:=E7 x1.1;have:=E7 x2.1;have:=E7 x3.1;simp only[Rows.uptoBulk,Rows.uptoBulkAll,List.map_cons,List.map_nil] at *;omega
   have hN':Rows.uptoBulk (DataW.agg (H:=H) ([x0,x1,x2,x3,x4].map (·.1)))≤N+1:=hN;obtain⟨k,rfl,_⟩:=H4 f0;obtain⟨s,e1,hs⟩:=rd_str f1;obtain⟨a,rfl,_⟩:=H4 f2;obtain⟨b,rfl,_⟩:=H4 f3;obtain⟨q,l,cap,e2,ha,hc,hl,hf,hsum⟩:=open_arr (el:=encPd) (φ:=fun u=>PdM W [] u∧NmP u) (szf:=Pdm.sz) underlying23 cells25 qom (fun n cs y hy h=>rd_pd N qom h) f4;simp at e1 e2;refine⟨.mk k s a b q cap l,by rw[e1,e2];rfl,⟨.mk ha fun a h=>(hf a h).1,fun a ha=> ?_⟩,?_⟩
   ·rw[Er] at ha;rcases List.mem_cons.1 ha with rfl|ha
    ·exact hs
    ·obtain⟨x,hx,hax⟩:=prtPL_in ha;exact(hf x hx).2 a hax
   rw[Hl,show (Pdm.mk k s a b q cap l).subs=l from rfl,szPL_sum];exact Nat.le_trans (by omega:(l.map Pdm.sz).sum+1≤Rows.uptoBulk x4.1+4) hb
theorem rd_po:∀ (N:Nat) {n:Nat} {y:DataW H × List MemPlace} {cs:List Value},Rows.uptoBulk y.1≤N→DataW.trod enc Tryz.prog W b0 sp1 held n 28 cs=some y→∃ u:Pom,cs=encPo u∧(PoM W [] u∧NmO u)∧u.sz≤Rows.uptoBulk y.1
 |0,n,y,cs,hN,_=>by have:=E7 y.1;omega
 |N+1,n,y,cs,hN,h=>by
  obtain⟨xs,m,rfl,rfl,hlen,hxl,hall⟩:=DataW.trod_struct underlying28 h;rw[cells28] at hlen
  match xs,hxl,cs,hlen with
  |[x0,x1,x2,x3,x4],_,[c0,c1,c2,c3,c4,c5,c6,c7,c8],_=>
   have f0:DataW.trod enc Tryz.prog W b0 sp1 held m 3 [c0]=some x0:=by have:=hall 0 _ rfl;simpa[cells3] using this
   have f1:DataW.trod enc Tryz.prog W b0 sp1 held m 25 [c1,c2,c3,c4,c5]=some x1:=by have:=hall 1 _ rfl;simpa[cells3,cells25] using this
   have f2:DataW.trod enc Tryz.prog W b0 sp1 held m 9 [c6]=some x2:=by have:=hall 2 _ rfl;simpa[cells3,cells25,cells9] using this
   have f3:DataW.trod enc Tryz.prog W b0 sp1 held m 3 [c7]=some x3:=by have:=hall 3 _ rfl;simpa[cells3,cells25,cells9] using this
   have f4:DataW.trod enc Tryz.prog W b0 sp1 held m 26 [c8]=some x4:=by have:=hall 4 _ rfl;simpa[cells3,cells25,cells9,cells26] using this
   have hb:Rows.uptoBulk x4.1+Rows.uptoBulk x1.1+3≤Rows.uptoBulk (DataW.agg (H:=H) ([x0,x1,x2,x3,x4].map (·.1))):=by
    have:=E7 x0.1;have:=E7 x2.1;have:=E7 x3.1;simp only[Rows.uptoBulk,Rows.uptoBulkAll,List.map_cons,List.map_nil] at *;omega
   have hN':Rows.uptoBulk (DataW.agg (H:=H) ([x0,x1,x2,x3,x4].map (·.1)))≤N+1:=hN;obtain⟨k,rfl,_⟩:=H4 f0;obtain⟨pm,ep,⟨hp1,hp2⟩,hpz⟩:=rd_pd _ (Nat.le_refl _) f1;obtain⟨s,e1,hs⟩:=rd_str f2;obtain⟨a,rfl,_⟩:=H4 f3;obtain⟨q,l,cap,e2,ha,hc,hl,hf,hsum⟩:=open_arr (el:=encPo) (φ:=fun u=>PoM W [] u∧NmO u) (szf:=Pom.sz) underlying26 cells28 qom (fun n cs y hy h=>rd_po N qom h) f4;simp only[List.cons.injEq,and_true] at e1 e2;refine⟨.mk k pm s a q cap l,?_,⟨.mk hp1 ha fun a h=>(hf a h).1,fun a ha=> ?_⟩,?_⟩
   ·rw[e1,e2];show Value.int .i64 k::([c1,c2,c3,c4,c5]++[.string s, .int .i64 a, .slice q l.length cap])=_;rw[ep];rfl
   ·rw[Eh] at ha;rcases List.mem_cons.1 ha with rfl|ha
    ·exact⟨hs,hp2⟩
    ·obtain⟨x,hx,hax⟩:=prtOL_in ha;exact(hf x hx).2 a hax
   rw[Dz,show (Pom.mk k pm s a q cap l).subs=l from rfl,show (Pom.mk k pm s a q cap l).pr=pm from rfl,szOL_sum];exact Nat.le_trans (by omega:(l.map Pom.sz).sum+pm.sz+1≤Rows.uptoBulk x4.1+Rows.uptoBulk x1.1+3) hb
theorem Kv {base:Nat}{r:_root_.Go.Reach}{v:Value}{d:DataW H}{p:List MemPlace}(hv:Value.okWide Tryz.prog W r base 28 v)(h:DataW.Trod enc Tryz.prog W b0 sp1 held 28 v d p):∃ u:Pom,v= .agg (encPo u).toArray∧PoM W [] u∧NmO u∧u.sz≤Rows.uptoBulk d:=by
 obtain⟨cs,rfl,hsz⟩:=okWide_struct underlying28 hv;obtain⟨fuel,hf⟩:=h;obtain⟨l⟩:=cs;obtain⟨u,e,⟨h1,h2⟩,hu⟩:=rd_po _ (Nat.le_refl _) hf;simp only[Value.cells] at e;exact⟨u,by rw[← e],h1,h2,hu⟩
theorem open_fis {base:Nat}{r:_root_.Go.Reach}{v:Value}{d:DataW H}{p:List MemPlace}(hv:Value.okWide Tryz.prog W r base 22 v)(h:DataW.Trod enc Tryz.prog W b0 sp1 held 22 v d p):∃ (q:Option Addr) (l:List Fi) (cap:Nat),v= .slice q l.length cap∧Arr W [] q 3 encFi l∧∀ f∈l,f.nm.size≤9223372036854775807:=by
 obtain⟨a0,len0,cap0,rfl⟩:=okWide_slice underlying22 hv;obtain⟨fuel,hf⟩:=h;obtain⟨q,l,cap,e,a,c,b,f,_⟩:=open_arr (el:=encFi) (φ:=fun u=>u.nm.size≤9223372036854775807) (szf:=fun _=>0) underlying22 cells67 qom (fun n cs y _ h=>by obtain⟨u,h1,h2⟩:=rd_fi h;exact⟨u,h1,h2,Nat.zero_le _⟩) hf;simp only[Value.cells,List.cons.injEq,and_true] at e;exact⟨q,l,cap,e,a,f⟩
end
end Go.Proofs.YtkgfmjanajdibaaGreat
namespace Go.Proofs.YtkgfmjanajdibaaGreat
open _root_.Go.Proofs.Tryz
open Go.RowKit
set_option linter.unusedVariables false
set_option linter.unusedSimpArgs false
set_option linter.unusedSectionVars false
set_option maxRecDepth 100000
theorem errN_nz (fl:List Fd)(t:Int)(p:Po)(ns:Ns):∃ e,ErrN fl t p ns e∧(e=12∨e=2):=by
 cases h:PF fl t p ns with
 |none=>exact⟨12,⟨(fun _=>rfl),(fun a n e=>by rw[h] at e;cases e)⟩,by decide⟩
 |some x=>exact⟨2,⟨(fun e=>by rw[h] at e;cases e),(fun _ _ _ _=>rfl)⟩,by decide⟩
theorem errD_nz (fl:List Fd)(t:Int)(p q:Po):∃ e,ErrD fl t p q e∧(e=12∨e=2):=by
 obtain⟨e,h,hz⟩:=errN_nz fl t q (N0 fl);cases h1:PF fl t q (N0 fl) with
 |none=>exact⟨e,⟨h,(fun a n e1=>by rw[h1] at e1;cases e1)⟩,hz⟩
 |some x=>
  by_cases c:(rulesP x.2 (bsF fl) x.1).length≤4000
  ·obtain⟨e2,h2,hz2⟩:=errN_nz fl t p x.2;refine⟨e2,⟨⟨(fun e3=>by rw[h1] at e3;cases e3),(fun a n e3 e4=> ?_)⟩,(fun a n e3 _=> ?_)⟩,hz2⟩
   ·rw[h1] at e3;cases e3;exact absurd c (by show ¬ (rulesP n (bsF fl) a).length≤4000;omega)
   ·rw[h1] at e3;cases e3;exact h2
  ·refine⟨e,⟨h,fun a n e3 e4=> ?_⟩,hz⟩;rw[h1] at e3;cases e3;exact absurd e4 c
abbrev AnsK (Φ:Hd→Bool→Prop) (H:List (Nat × Obj)):Value→List (Nat × Obj)→Prop:=fun u H'=>∃ (h:Hd) (is:Bool) (e:Int),(u= .tuple #[.agg (hdC h).toArray, .bool is, .int .i64 e]∧HdOk h∧(e=0∨(e=12∨e=2)∧h=hd0∧is=false)∧(e=0→Φ h is))∧H'=H
theorem nzx {e:Int}(h:e=12∨e=2):e≠0:=by omega
theorem ansK {w0:World}{H:List (Nat × Obj)}{f:FuncId}{args:Array Value}{Φ:Hd→Bool→Prop}{e:Int}{Ψ:Prop}(h:FSpec Tryz.prog w0 f args H (AskK Φ e Ψ H))(nz:e=12∨e=2):FSpec Tryz.prog w0 f args H (AnsK Φ H):=by
 intro w hO;refine(h w hO).mono ?_;rintro e w' ⟨u,H',he,hO',⟨⟨h1,is,e1,rfl,hh,hR⟩,rfl⟩⟩;rcases hR with ⟨rfl,k⟩|⟨rfl,rfl,rfl,k⟩
 ·exact⟨_,_,he,hO',h1,is,0,⟨rfl,hh, .inl U,fun _=>k⟩,rfl⟩
 ·exact⟨_,_,he,hO',_,_,_,⟨rfl,hh, .inr ⟨nz,rfl,rfl⟩,fun e9=>absurd e9 (nzx nz)⟩,rfl⟩
theorem sz_op2 {k:Int}{b:Nat}{x y:Pom}:(mOp2 k b x y).sz=x.sz+y.sz+2:=by
 rw[Dz];show szOL [x,y]+(szPL []+1)+1=_;simp[szOL,szPL]
theorem sz_op1 {k:Int}{b:Nat}{x:Pom}:(mOp1 k b x).sz=x.sz+2:=by
 rw[Dz];show szOL [x]+(szPL []+1)+1=_;simp[szOL,szPL]
theorem same13_s {w0:World}{H:List (Nat × Obj)}(l m:List Hd)(q1 q2:Option Addr)(c1 c2:Nat)(hA1:HsA w0 H l q1 c1)(hA2:HsA w0 H m q2 c2)(hlen:l.length≤1000000):
  FSpec Tryz.prog w0 36 #[.slice q1 l.length c1, .slice q2 m.length c2] H (Still (.bool (decide (l=m))) H):=by
 refine Au Tryz.func36 U ntmps36 U (rD tb 15 U ?_)
 first|refine Ae (Aa U) (fun c10=> ?_) (fun c10=> ?_)|refine Ah (Aa U) (fun c10=> ?_) (fun c10=> ?_)
 ·skip
  refine rC tb 7 U (Ak U (Nk U) ?_);exact⟨_,⟨congrArg Value.bool (decide_eq_false (fun e=>c10 (by rw[e]))).symm,rfl⟩,by exact sbt⟩
 ·have hle:l.length=m.length:=by have h9: ¬ ¬ ((l.length:Nat):Int)=(m.length:Nat):=c10;omega
  refine rC tb 9 U ?_;refine Bj (X:=Nat) (V:=fun k=>[(5, .int .i64 (k:Nat))]) (C:=[(0,_),(1,_)]) (G:=fun k=>H) (φ:=fun k=>k≤l.length∧∀ j,j<k→gd l j=gd m j) (μ:=fun k=>l.length - k) (x0:=0) ?_ ⟨Aa U,Aa U,trivial⟩ ⟨atd,trivial⟩ sb0 ?_
  ·exact⟨Nat.zero_le _,fun j hj=>absurd hj (Nat.not_lt_zero _)⟩
  rintro k ⟨hk,hn⟩;refine rD tb 9 U ?_
  first|refine Ae (Aa U) (fun c14=> ?_) (fun c14=> ?_)|refine Ah (Aa U) (fun c14=> ?_) (fun c14=> ?_)
  ·have hk2:k<l.length:=by have h9:((k:Nat):Int)<(l.length:Nat):=c14;omega
   refine rC tb 5 U (Bk 9 [(0,true),(1,true),(2,true),(3,true),(4,true),(5,true),(6,true),(7,true),(8,true)] _ mixd qkr sb0 ?_ Bp);refine rP tb 2 U (o_y U (Np U U runUnderlying58 sizeOf32 qom (by first|exact rfl|exact hA1.1.b (i:=k) qom|exact hA2.1.b (i:=k) qom)) ?_ U Ac);refine o_y U (Nn U isAgg32 sizeOf32 (Aj (hA1.ok (k:=k) qom)) (by first|exact((hA1.mono (by exact sbt)).hd).cs (i:=k) qom|exact As)) ?_ U Ac;refine rP tb 2 U (o_y U (Np U U runUnderlying58 sizeOf32 qom (by first|exact rfl|exact hA1.1.b (i:=k) qom|exact hA2.1.b (i:=k) qom)) ?_ U Ac);refine o_y U (Nn U isAgg32 sizeOf32 (Aj (hA2.ok (k:=k) qom)) (by first|exact((hA2.mono (by exact sbt)).hd).cs (i:=k) qom|exact As)) ?_ U Ac;refine o_y U (yl_neqA (T U) (T U) qkr (eqHd (hA1.ok (k:=k) qom) (hA2.ok (k:=k) qom))) ?_ U Ac;refine A4 U (rO tb 2 U ?_)
   first|refine Ae (Aa U) (fun c25=> ?_) (fun c25=> ?_)|refine Ah (Aa U) (fun c25=> ?_) (fun c25=> ?_)
   ·refine rC tb 8 U (Bc (rX tb 2 U (Ak U (Nk U) ?_)));exact⟨_,⟨congrArg Value.bool (decide_eq_false (fun e=>c25 (by rw[e]))).symm,rfl⟩,by exact sbt⟩
   ·refine rC tb 5 U (y_ (A8 (T U) An qom) ?_ U);refine rO tb 2 U ?_;refine A6 (k+1) ?_ ?_ ⟨atd,trivial⟩ ⟨Aa U,Aa U,trivial⟩ ?_
    ·refine⟨hk2,fun j hj=> ?_⟩
     by_cases e:j=k
     ·rw[e];exact Classical.not_not.1 c25
     ·exact hn j qom
    ·first|omega|(simp only[];omega)
    ·exact sbt
  ·obtain rfl:k=l.length:=by have h9: ¬ ((k:Nat):Int)<(l.length:Nat):=c14;omega
   refine rC tb 2 U (Ax (rX tb 8 U (Ak U (Nk U) ?_)));exact⟨_,⟨congrArg Value.bool (decide_eq_true (eq_of_gd hle hn)).symm,rfl⟩,by exact sbt⟩
section
variable {k:Nat} {x y l:List Hd}
theorem len0 {α:Type}{x:List α}:((x.length:Nat):Int)=0↔x=[]:=by rw[← List.length_eq_zero_iff];omega
end
theorem rhead_v {w0:World}{H:List (Nat × Obj)}{vs:List Value}(hi:List Int)(hvs:vs=hwC hi)(hil:hi.length=10):FSpec Tryz.prog w0 27 #[.agg vs.toArray] H (SayB (∀ k,k<10→0≤gd hi k∧gd hi k≤65535) H):=by
 subst hvs;exact rhead_s hi hil
instance:Inhabited Po:=⟨.fil .tru⟩
section
variable {t:Int} {p q:Po} {bs:List Nat} {w h:Hd}
theorem slc_star (a:Ans (SlcP t p q) w true)(hp:p.Fit bs)(hq:q.Fit bs){g:Hd}(hh:HdOk h)(d:Cl' (den t (.uni p q)) h g):Cl' (den t p) h g∨Cl' (den t q) h g:=by
 induction d with
 |base=>exact .inl (.base _)
 | @step h m g e _ ih=>
  have hs:=a.true h hh;rcases(show den t p h m∨den t q h m from e) with e|e
  ·rcases ih (Ee hp hh e).1 with k|k
   ·exact .inl (.step e k)
   ·cases k with
    |base=>exact .inl (.one e)
    |step e2 _=>exact absurd ⟨m,e,e2⟩ (hs.1 _)
  ·rcases ih (Ee hq hh e).1 with k|k
   ·cases k with
    |base=>exact .inr (.one e)
    |step e2 _=>exact absurd ⟨m,e,e2⟩ (hs.2 _)
   ·exact .inr (.step e k)
theorem run_eq (a:Ans (SlcP t p q) w true)(hp:p.Fit bs)(hq:q.Fit bs)(hh:HdOk h){x y z l:List Hd}(hx:x.Pairwise hLt)(hl:l.Pairwise hLt)(mx:∀ g,g∈x↔den t (.star (.uni p q)) h g)(my:∀ g,g∈y↔den t (.star p) h g)(mz:∀ g,g∈z↔den t (.star q) h g)(ml:∀ g,g∈l↔g∈y∨g∈z):x=l:=sorted_eq hx hl fun g=>by
 rw[mx,ml,my,mz];exact⟨fun d=>slc_star a hp hq hh d,fun d=>d.elim (fun d=>Cl'.mono (fun _ _ e=> .inl e) d) fun d=>Cl'.mono (fun _ _ e=> .inr e) d⟩
theorem dst_len (a:Ans (DstP t p q) w true)(hp:p.Fit bs)(hh:HdOk h){x y z:List Hd}(hx:x.Pairwise hLt)(hy:y.Pairwise hLt)(hz:z.Pairwise hLt)(mx:∀ g,g∈x↔den t (.uni p q) h g)(my:∀ g,g∈y↔den t p h g)(mz:∀ g,g∈z↔den t q h g):x.length=y.length+z.length:=by
 have nd:∀ {l:List Hd},l.Pairwise hLt→l.Nodup:=fun hl=>hl.imp fun k e=>by subst e;exact k.irr
 rw[← List.length_append];refine List.Perm.length_eq ((List.perm_ext_iff_of_nodup (nd hx) ?_).2 fun g=> ?_)
 ·refine List.nodup_append.2 ⟨nd hy,nd hz,fun b hb c hc e=> ?_⟩;subst e;exact a.true b (Ee hp hh ((my b).1 hb)).1 ⟨⟨h,hh,(my b).1 hb⟩,h,hh,(mz b).1 hc⟩
 ·rw[mx,List.mem_append,my,mz];exact Iff.rfl
end
theorem together_s {w0:World}{H:List (Nat × Obj)}(fi:List Fi)(q:Option Addr)(n c:Nat)(hn:n=fi.length)(hA:Arr w0 H q 3 encFi fi)(hnm:∀ f∈fi,f.nm.size≤9223372036854775807){m1:Pom}(hM1:PoM w0 H m1)(hm1:m1.sz≤1048576)(hz1:NmO m1){m2:Pom}(hM2:PoM w0 H m2)(hm2:m2.sz≤1048576)(hz2:NmO m2)(tick:Int)(vs:List Value)(hi:List Int)(hvs:vs=hwC hi)(hil:hi.length=10)  :
  FSpec Tryz.prog w0 9 #[.slice q n c, .agg (encPo m1).toArray, .agg (encPo m2).toArray, .int .i64 tick, .agg vs.toArray] H (Still (.bool true) H):=by
 refine Au Tryz.func9 U ntmps9 U ?_;have hvl:vs.length=10:=by rw[hvs,List.length_map];exact hil
 refine rD tb 2 U (e_ (Nr U cs_) ?_ U);rintro _ _ ⟨n6,rfl,rfl⟩;refine e_ (Nr U cs_) ?_ U;rintro _ _ ⟨n7,rfl,rfl⟩;refine e_ (Nr U cs_) ?_ U;rintro _ _ ⟨n9,rfl,rfl⟩;refine rO tb 5 U (y_ (Aw .nil call11 (fun H' hs=>sanity_s)) (rO tb 7 U (y_ (Nn U isAgg28 sizeOf28 U (by first|exact As)) ?_ U)) U);refine y_ (Nn U isAgg28 sizeOf28 U (by first|exact As)) ?_ U;refine rO tb 1 U (e_ (Al (.cons (T U) (.cons (T U) (.cons (T U) (.cons An (.cons (T U) .nil))))) call12 (both_s fi q n c hn (hA.mono (by exact sbt)) hnm (hM1.mono (by exact sbt)) qom hz1 (hM2.mono (by exact sbt)) qom hz2 30 tick)) ?_ U);rintro _ _ ⟨b,⟨rfl,hb⟩,rfl⟩
 first|refine A9 (B5 (T U)) U Ac ?_|refine A9 (B1 (T U)) U Ac ?_
 refine rO tb 1 U ?_
 first|refine Av (s:=38) (Aa U) (fun c38=> ?_) (fun c38=> ?_)|refine A7 (s:=38) (Aa U) (fun c38=> ?_) (fun c38=> ?_)
 ·skip
  refine rO tb 15 U (Ak U (Nk U) ?_)
  first|exact⟨_,⟨rfl,rfl⟩,(show H.Sublist ((n18,Cl (encPo (mOp2 3 n64 m1 m2)) 28)::(n64,Cl (encPo m1++encPo m2) 28)::(n9,Cl (hdC h) 32)::(n7,Cl (encPo m2) 28)::(n6,Cl (encPo m1) 28)::H) by exact sbt).trans (hM_8.trans (hM_9.trans hM_10))⟩|exact⟨_,⟨rfl,rfl⟩,by exact sbt⟩
 ·have hbt:b=true:=by simpa using c38
  refine A9 (Nn U isAgg32 sizeOf32 hvl (by first|exact Af fdd|exact As)) U (Bg U U (Aa U)) ?_;refine A5 (Al (qe1 U) call27 (rhead_v hi hvs hil)) U (Bg U U (Aa U)) ?_;rintro _ _ ⟨bh,⟨rfl,hbh⟩,rfl⟩
  first|refine A9 (B5 (T U)) U (Bg U U (Aa U)) ?_|refine A9 (B1 (T U)) U (Bg U U (Aa U)) ?_
  refine rO tb 3 U ?_
  first|refine Ae (Aa U) (fun c42=> ?_) (fun c42=> ?_)|refine Ah (Aa U) (fun c42=> ?_) (fun c42=> ?_)
  ·skip
   refine rC tb 8 U (Ak U (Nk U) ?_)
   first|exact⟨_,⟨rfl,rfl⟩,(show H.Sublist ((n18,Cl (encPo (mOp2 3 n64 m1 m2)) 28)::(n64,Cl (encPo m1++encPo m2) 28)::(n9,Cl (hdC h) 32)::(n7,Cl (encPo m2) 28)::(n6,Cl (encPo m1) 28)::H) by exact sbt).trans (hM_8.trans (hM_9.trans hM_10))⟩|exact⟨_,⟨rfl,rfl⟩,by exact sbt⟩
  ·obtain⟨⟨ht0,ht1⟩,hfi,⟨hd1,p1,hI1,hF1⟩,hd2,p2,hI2,hF2⟩:=hb hbt;have hfl:=hfi.fl;have hAf:=fis_arr hfi hA;have hln:n=(fi.map Fi.fd).length:=hn.trans (List.length_map _).symm;obtain⟨fl,hfe⟩:∃ fl,fi.map Fi.fd=fl:=⟨_,rfl⟩;rw[hfe] at hI1 hF1 hI2 hF2 hfl hAf hln;subst hln;obtain⟨h,hh,heh⟩:=hi_hd hil (hbh (by simpa using c42));obtain rfl:vs=hdC h:=hvs.trans heh;obtain⟨e10,hE10,z10⟩:=errD_nz fl tick p1 p2;refine rC tb 5 U (y_ (Nn U isAgg28 sizeOf28 U (by first|exact As)) ?_ U);refine y_ (Nn U isAgg28 sizeOf28 U (by first|exact As)) ?_ U;refine rO tb 1 U (e_ (Al (qe4 U U U U) call22 (ansK (eslices_s hfl q c (hAf.mono (by exact sbt)) tick hI1 hF1 (hM1.mono (by exact sbt)) hI2 hF2 (hM2.mono (by exact sbt))) (.inl U))) ?_ U);rintro _ _ ⟨h1,is1,e1,⟨rfl,o1,z1,k1⟩,rfl⟩;refine rO tb 4 U (e_ (Ai zeroValue32 cs_) ?_ U);rintro _ _ ⟨n12,rfl,rfl⟩;refine e_ (Nq U U sizeOf32 .agg (Bh _) (Aj o1) (by repeat (first|exact Upd.h|apply Upd.t|apply Bl)) (by rw[Aj o1];rfl)) ?_ U;rintro _ _ ⟨rfl,rfl⟩;refine kO tb 4 [0,3,6,7,9,11,13,14] rfl U (rG tb 3 U (y_ (Nn U isAgg28 sizeOf28 U (by first|exact As)) ?_ U));refine y_ (Nn U isAgg28 sizeOf28 U (by first|exact As)) ?_ U;refine rO tb 1 U (e_ (Al (qe4 U U U U) call21 (ansK (edistinct_s hfl q c (hAf.mono (by exact sbt)) tick hI1 hF1 (hM1.mono (by exact sbt)) hI2 hF2 (hM2.mono (by exact sbt)) hd1 hd2 e10 hE10) z10)) ?_ U);rintro _ _ ⟨h2,is2,e2,⟨rfl,o2,z2,k2⟩,rfl⟩;refine rO tb 4 U (e_ (Ai zeroValue32 cs_) ?_ U);rintro _ _ ⟨n15,rfl,rfl⟩;refine e_ (Nq U U sizeOf32 .agg (Bh _) (Aj o2) (by repeat (first|exact Upd.h|apply Upd.t|apply Bl)) (by rw[Aj o2];rfl)) ?_ U;rintro _ _ ⟨rfl,rfl⟩;refine rO tb 6 U (y_ (Nn U isAgg28 sizeOf28 U (by first|exact As)) ?_ U);refine y_ (Nn U isAgg28 sizeOf28 U (by first|exact As)) ?_ U;refine e_ (Al (qe2 U U) call32 (I9 m1 m2)) ?_ U;rintro _ _ ⟨n64,rfl,rfl⟩;refine e_ (Ai zeroValue28 cs_) ?_ U;rintro _ _ ⟨n18,rfl,rfl⟩
   first|refine A5 (Nq U U sizeOf28) U Ac ?_
   rintro _ _ ⟨rfl,rfl⟩;refine rO tb 2 U ?_;refine Gc (X:=Unit) (V:=fun z=>[]) (C:=[(0,_),(3,_),(6,_),(7,_),(9,_),(11,_),(16,_),(17,_),(18,_)]) (G:=fun z=>(n18,Cl (encPo (mOp2 3 n64 m1 m2)) 28)::(n64,Cl (encPo m1++encPo m2) 28)::(n9,Cl (hdC h) 32)::(n7,Cl (encPo m2) 28)::(n6,Cl (encPo m1) 28)::H) (φ:=fun z=>True) ⟨Aa U,Aa U,Aa U,Aa U,Aa U,Aa U,Aa U,Aa U,Aa U,trivial⟩ ?_ ?_
   ·refine rD tb 5 U ?_
    first|refine Av (s:=67) (Aa U) (fun c67=> ?_) (fun c67=> ?_)|refine A7 (s:=67) (Aa U) (fun c67=> ?_) (fun c67=> ?_)
    ·have he1:e1=0:=c67;refine kO tb 4 [0,3,6,7,9,11,16,17,18,69] rfl U ?_
     first|refine Ae (Aa U) (fun c69=> ?_) (fun c69=> ?_)|refine Ah (Aa U) (fun c69=> ?_) (fun c69=> ?_)
     ·obtain rfl:is1=true:=c69;refine rC tb 1 U (Bk 11 [(0,true),(1,true),(3,true),(4,true),(2,false),(5,false),(6,true),(7,true),(8,true),(9,true),(10,true)] _ mixd qkr sb0 ?_ Bp);refine rP tb 1 U ?_;refine o_y U (Nn U isAgg28 sizeOf28 U (by first|exact Af fdd|exact As)) ?_ U Ac;refine o_y U (Nn U isAgg32 sizeOf32 (Aj hh) (by first|exact Af fdd|exact As)) ?_ U Ac;refine rP tb 1 U (o_e U (Al (qe1 U) call34 (kstar_s (mOp2 3 n64 m1 m2))) ?_ U Ac);rintro _ _ ⟨n73,rfl,rfl⟩;refine⟨(by first|exact hB4|exact h45|exact h56|exact sbt),?_⟩;refine o_e U (Al (qe4 U U U U) call35 (Lm hfl _ (by rw[sz_op1,sz_op2];omega) (hAf.mono (show H.Sublist ((n73,Cl (encPo (mOp2 3 n64 m1 m2)) 28)::(n18,Cl (encPo (mOp2 3 n64 m1 m2)) 28)::(n64,Cl (encPo m1++encPo m2) 28)::(n15,Cl (hdC h2) 32)::(n12,Cl (hdC h1) 32)::(n9,Cl (hdC h) 32)::(n7,Cl (encPo m2) 28)::(n6,Cl (encPo m1) 28)::H) by exact sbt)) (po_op1 (by repeat (first|exact Am|refine Ar ?_)) (show PoM w0 ((n73,Cl (encPo (mOp2 3 n64 m1 m2)) 28)::(n18,Cl (encPo (mOp2 3 n64 m1 m2)) 28)::(n64,Cl (encPo m1++encPo m2) 28)::(n15,Cl (hdC h2) 32)::(n12,Cl (hdC h1) 32)::(n9,Cl (hdC h) 32)::(n7,Cl (encPo m2) 28)::(n6,Cl (encPo m1) 28)::H) (mOp2 3 n64 m1 m2) from Dr (by repeat (first|exact Am|refine Ar ?_)) (hM1.mono (by exact sbt)) (hM2.mono (by exact sbt)))) (Nat.le_refl _) (.star U U (.uni U U hI1 hI2)) ⟨hF1,hF2⟩ hh)) ?_ U Ac;rintro _ M4 ⟨l4,q4,c4,e4,rfl,⟨w4,g4,u4⟩,hM_4⟩;have hB4:((n18,Cl (encPo (mOp2 3 n64 m1 m2)) 28)::(n64,Cl (encPo m1++encPo m2) 28)::(n15,Cl (hdC h2) 32)::(n12,Cl (hdC h1) 32)::(n9,Cl (hdC h) 32)::(n7,Cl (encPo m2) 28)::(n6,Cl (encPo m1) 28)::H).Sublist M4:=(List.sublist_cons_self _ _).trans hM_4;refine⟨(by first|exact hB4|exact h45|exact h56|exact sbt),?_⟩;refine rP tb 5 U (A4 U (rO tb 3 U (Bk 11 [(0,true),(1,true),(3,true),(4,true),(2,false),(5,false),(6,true),(7,true),(8,true),(9,true),(10,true)] _ mixd qkr sb0 ?_ Bp)));refine rP tb 1 U ?_;refine o_y U (Nn U isAgg28 sizeOf28 U (by first|exact Af (Fnd.mono ((by repeat (first|exact Am|refine Ar ?_)):Fnd ((n18,Cl (encPo (mOp2 3 n64 m1 m2)) 28)::(n64,Cl (encPo m1++encPo m2) 28)::(n15,Cl (hdC h2) 32)::(n12,Cl (hdC h1) 32)::(n9,Cl (hdC h) 32)::(n7,Cl (encPo m2) 28)::(n6,Cl (encPo m1) 28)::H) n6 (Cl (encPo m1) 28)) hB4)|exact As)) ?_ U Ac;refine o_y U (Nn U isAgg32 sizeOf32 (Aj hh) (by first|exact Af (Fnd.mono ((by repeat (first|exact Am|refine Ar ?_)):Fnd ((n18,Cl (encPo (mOp2 3 n64 m1 m2)) 28)::(n64,Cl (encPo m1++encPo m2) 28)::(n15,Cl (hdC h2) 32)::(n12,Cl (hdC h1) 32)::(n9,Cl (hdC h) 32)::(n7,Cl (encPo m2) 28)::(n6,Cl (encPo m1) 28)::H) n9 (Cl (hdC h) 32)) hB4)|exact As)) ?_ U Ac;refine rP tb 1 U (o_e U (Al (qe1 U) call34 (kstar_s m1)) ?_ U Ac);rintro _ _ ⟨n82,rfl,rfl⟩;refine⟨(by first|exact hB4|exact h45|exact h56|exact sbt),?_⟩;refine o_e U (Al (qe4 U U U U) call35 (Lm hfl _ (by rw[sz_op1];omega) (hAf.mono ((show H.Sublist ((n18,Cl (encPo (mOp2 3 n64 m1 m2)) 28)::(n64,Cl (encPo m1++encPo m2) 28)::(n15,Cl (hdC h2) 32)::(n12,Cl (hdC h1) 32)::(n9,Cl (hdC h) 32)::(n7,Cl (encPo m2) 28)::(n6,Cl (encPo m1) 28)::H) by exact sbt).trans (hB4.trans (List.sublist_cons_self _ _)))) (po_op1 (by repeat (first|exact Am|refine Ar ?_)) (hM1.mono ((show H.Sublist ((n18,Cl (encPo (mOp2 3 n64 m1 m2)) 28)::(n64,Cl (encPo m1++encPo m2) 28)::(n15,Cl (hdC h2) 32)::(n12,Cl (hdC h1) 32)::(n9,Cl (hdC h) 32)::(n7,Cl (encPo m2) 28)::(n6,Cl (encPo m1) 28)::H) by exact sbt).trans (hB4.trans (List.sublist_cons_self _ _))))) (Nat.le_refl _) (.star U U hI1) hF1 hh)) ?_ U Ac;rintro _ M5 ⟨l5,q5,c5,e5,rfl,⟨w5,g5,u5⟩,hM_5⟩;have h45:M4.Sublist M5:=(List.sublist_cons_self _ _).trans hM_5;have hB5:=hB4.trans h45;refine⟨(by first|exact hB4|exact h45|exact h56|exact sbt),?_⟩;refine rP tb 5 U (A4 U (kO tb 2 [0,3,6,7,9,11,16,17,18,19,20,21,22] rfl U (rG tb 1 U (Bk 11 [(0,true),(1,true),(3,true),(4,true),(2,false),(5,false),(6,true),(7,true),(8,true),(9,true),(10,true)] _ mixd qkr sb0 ?_ Bp))));refine rP tb 1 U ?_;refine o_y U (Nn U isAgg28 sizeOf28 U (by first|exact Af (Fnd.mono ((by repeat (first|exact Am|refine Ar ?_)):Fnd ((n18,Cl (encPo (mOp2 3 n64 m1 m2)) 28)::(n64,Cl (encPo m1++encPo m2) 28)::(n15,Cl (hdC h2) 32)::(n12,Cl (hdC h1) 32)::(n9,Cl (hdC h) 32)::(n7,Cl (encPo m2) 28)::(n6,Cl (encPo m1) 28)::H) n7 (Cl (encPo m2) 28)) hB5)|exact As)) ?_ U Ac;refine o_y U (Nn U isAgg32 sizeOf32 (Aj hh) (by first|exact Af (Fnd.mono ((by repeat (first|exact Am|refine Ar ?_)):Fnd ((n18,Cl (encPo (mOp2 3 n64 m1 m2)) 28)::(n64,Cl (encPo m1++encPo m2) 28)::(n15,Cl (hdC h2) 32)::(n12,Cl (hdC h1) 32)::(n9,Cl (hdC h) 32)::(n7,Cl (encPo m2) 28)::(n6,Cl (encPo m1) 28)::H) n9 (Cl (hdC h) 32)) hB5)|exact As)) ?_ U Ac;refine rP tb 1 U (o_e U (Al (qe1 U) call34 (kstar_s m2)) ?_ U Ac);rintro _ _ ⟨n91,rfl,rfl⟩;refine⟨(by first|exact hB4|exact h45|exact h56|exact sbt),?_⟩;refine o_e U (Al (qe4 U U U U) call35 (Lm hfl _ (by rw[sz_op1];omega) (hAf.mono ((show H.Sublist ((n18,Cl (encPo (mOp2 3 n64 m1 m2)) 28)::(n64,Cl (encPo m1++encPo m2) 28)::(n15,Cl (hdC h2) 32)::(n12,Cl (hdC h1) 32)::(n9,Cl (hdC h) 32)::(n7,Cl (encPo m2) 28)::(n6,Cl (encPo m1) 28)::H) by exact sbt).trans (hB5.trans (List.sublist_cons_self _ _)))) (po_op1 (by repeat (first|exact Am|refine Ar ?_)) (hM2.mono ((show H.Sublist ((n18,Cl (encPo (mOp2 3 n64 m1 m2)) 28)::(n64,Cl (encPo m1++encPo m2) 28)::(n15,Cl (hdC h2) 32)::(n12,Cl (hdC h1) 32)::(n9,Cl (hdC h) 32)::(n7,Cl (encPo m2) 28)::(n6,Cl (encPo m1) 28)::H) by exact sbt).trans (hB5.trans (List.sublist_cons_self _ _))))) (Nat.le_refl _) (.star U U hI2) hF2 hh)) ?_ U Ac;rintro _ M6 ⟨l6,q6,c6,e6,rfl,⟨w6,g6,u6⟩,hM_6⟩;have h56:M5.Sublist M6:=(List.sublist_cons_self _ _).trans hM_6;have hB6:=hB5.trans h56;refine⟨(by first|exact hB4|exact h45|exact h56|exact sbt),?_⟩;refine rP tb 5 U (A4 U (rO tb 6 U (y_ (A8 (T U) (T U) qom) ?_ U)));refine rO tb 1 U (y_ (A8 (T U) (T U) qom) ?_ U);refine rO tb 2 U ?_
      first|refine Av (s:=103) (Aa U) (fun c103=> ?_) (fun c103=> ?_)|refine A7 (s:=103) (Aa U) (fun c103=> ?_) (fun c103=> ?_)
      ·have y4:=w4 qom;have y5:=w5 qom;have y6:=w6 qom;refine rO tb 3 U (A5 (Al (qe2 U U) call37 (Js l5 l6 q5 q6 c5 c6 (y5.1.mono h56) y5.2.1 y6.1 (by have:=y5.2.2.2;omega) (by have:=y6.2.2.2;omega))) U (Bg U U (Aa U)) ?_);rintro _ M7 ⟨l7,q7,c7,rfl,hA7,hu7,⟨hm7,hn7⟩,hM_7⟩;have hrun:=run_eq (k1 he1) hF1 hF2 hh y4.2.1 hu7 y4.2.2.1 y5.2.2.1 y6.2.2.1 hm7;refine A5 (Al (qe2 U U) call36 (same13_s l4 l7 q4 q7 c4 c7 (y4.1.mono ((h45.trans h56).trans hM_7)) hA7 (by have:=y4.2.2.2;omega))) U (Bg U U (Aa U)) ?_;rintro _ _ ⟨rfl,hx9⟩;subst hx9
       first|refine A9 (B5 (T U)) U (Bg U U (Aa U)) ?_|refine A9 (B1 (T U)) U (Bg U U (Aa U)) ?_
       refine kO tb 3 [0,3,6,7,9,11,16,17,18,110] rfl U ?_
       first|refine Ae (Aa U) (fun c110=> ?_) (fun c110=> ?_)|refine Ah (Aa U) (fun c110=> ?_) (fun c110=> ?_)
       ·exact absurd c110 (by rw[hrun];simp)
       ·skip
        refine rC tb 1 U (Bf (()) ?_ trivial ⟨Aa U,Aa U,Aa U,Aa U,Aa U,Aa U,Aa U,Aa U,Aa U,trivial⟩ (by first|exact(show ((n18,Cl (encPo (mOp2 3 n64 m1 m2)) 28)::(n64,Cl (encPo m1++encPo m2) 28)::(n9,Cl (hdC h) 32)::(n7,Cl (encPo m2) 28)::(n6,Cl (encPo m1) 28)::H).Sublist ((n18,Cl (encPo (mOp2 3 n64 m1 m2)) 28)::(n64,Cl (encPo m1++encPo m2) 28)::(n15,Cl (hdC h2) 32)::(n12,Cl (hdC h1) 32)::(n9,Cl (hdC h) 32)::(n7,Cl (encPo m2) 28)::(n6,Cl (encPo m1) 28)::H) by exact sbt).trans (hB6.trans hM_7)|exact(show ((n18,Cl (encPo (mOp2 3 n64 m1 m2)) 28)::(n64,Cl (encPo m1++encPo m2) 28)::(n9,Cl (hdC h) 32)::(n7,Cl (encPo m2) 28)::(n6,Cl (encPo m1) 28)::H).Sublist ((n18,Cl (encPo (mOp2 3 n64 m1 m2)) 28)::(n64,Cl (encPo m1++encPo m2) 28)::(n15,Cl (hdC h2) 32)::(n12,Cl (hdC h1) 32)::(n9,Cl (hdC h) 32)::(n7,Cl (encPo m2) 28)::(n6,Cl (encPo m1) 28)::H) by exact sbt).trans hB6|exact sbt))
        trivial
      ·skip
       refine kO tb 9 [0,3,6,7,9,11,16,17,18,110] rfl U (rG tb 2 U (Bf (()) ?_ trivial ⟨Aa U,Aa U,Aa U,Aa U,Aa U,Aa U,Aa U,Aa U,Aa U,trivial⟩ (by first|exact(show ((n18,Cl (encPo (mOp2 3 n64 m1 m2)) 28)::(n64,Cl (encPo m1++encPo m2) 28)::(n9,Cl (hdC h) 32)::(n7,Cl (encPo m2) 28)::(n6,Cl (encPo m1) 28)::H).Sublist ((n18,Cl (encPo (mOp2 3 n64 m1 m2)) 28)::(n64,Cl (encPo m1++encPo m2) 28)::(n15,Cl (hdC h2) 32)::(n12,Cl (hdC h1) 32)::(n9,Cl (hdC h) 32)::(n7,Cl (encPo m2) 28)::(n6,Cl (encPo m1) 28)::H) by exact sbt).trans (hB6.trans hM_7)|exact(show ((n18,Cl (encPo (mOp2 3 n64 m1 m2)) 28)::(n64,Cl (encPo m1++encPo m2) 28)::(n9,Cl (hdC h) 32)::(n7,Cl (encPo m2) 28)::(n6,Cl (encPo m1) 28)::H).Sublist ((n18,Cl (encPo (mOp2 3 n64 m1 m2)) 28)::(n64,Cl (encPo m1++encPo m2) 28)::(n15,Cl (hdC h2) 32)::(n12,Cl (hdC h1) 32)::(n9,Cl (hdC h) 32)::(n7,Cl (encPo m2) 28)::(n6,Cl (encPo m1) 28)::H) by exact sbt).trans hB6|exact sbt)))
       trivial
     ·skip
      refine rC tb 1 U (Bf (()) ?_ trivial ⟨Aa U,Aa U,Aa U,Aa U,Aa U,Aa U,Aa U,Aa U,Aa U,trivial⟩ (by first|exact(show ((n18,Cl (encPo (mOp2 3 n64 m1 m2)) 28)::(n64,Cl (encPo m1++encPo m2) 28)::(n9,Cl (hdC h) 32)::(n7,Cl (encPo m2) 28)::(n6,Cl (encPo m1) 28)::H).Sublist ((n18,Cl (encPo (mOp2 3 n64 m1 m2)) 28)::(n64,Cl (encPo m1++encPo m2) 28)::(n15,Cl (hdC h2) 32)::(n12,Cl (hdC h1) 32)::(n9,Cl (hdC h) 32)::(n7,Cl (encPo m2) 28)::(n6,Cl (encPo m1) 28)::H) by exact sbt).trans (hB6.trans hM_7)|exact(show ((n18,Cl (encPo (mOp2 3 n64 m1 m2)) 28)::(n64,Cl (encPo m1++encPo m2) 28)::(n9,Cl (hdC h) 32)::(n7,Cl (encPo m2) 28)::(n6,Cl (encPo m1) 28)::H).Sublist ((n18,Cl (encPo (mOp2 3 n64 m1 m2)) 28)::(n64,Cl (encPo m1++encPo m2) 28)::(n15,Cl (hdC h2) 32)::(n12,Cl (hdC h1) 32)::(n9,Cl (hdC h) 32)::(n7,Cl (encPo m2) 28)::(n6,Cl (encPo m1) 28)::H) by exact sbt).trans hB6|exact sbt))
      trivial
    ·skip
     refine kO tb 4 [0,3,6,7,9,11,16,17,18,69] rfl U (rG tb 2 U (Bf (()) ?_ trivial ⟨Aa U,Aa U,Aa U,Aa U,Aa U,Aa U,Aa U,Aa U,Aa U,trivial⟩ (by first|exact(show ((n18,Cl (encPo (mOp2 3 n64 m1 m2)) 28)::(n64,Cl (encPo m1++encPo m2) 28)::(n9,Cl (hdC h) 32)::(n7,Cl (encPo m2) 28)::(n6,Cl (encPo m1) 28)::H).Sublist ((n18,Cl (encPo (mOp2 3 n64 m1 m2)) 28)::(n64,Cl (encPo m1++encPo m2) 28)::(n15,Cl (hdC h2) 32)::(n12,Cl (hdC h1) 32)::(n9,Cl (hdC h) 32)::(n7,Cl (encPo m2) 28)::(n6,Cl (encPo m1) 28)::H) by exact sbt).trans (hB6.trans hM_7)|exact(show ((n18,Cl (encPo (mOp2 3 n64 m1 m2)) 28)::(n64,Cl (encPo m1++encPo m2) 28)::(n9,Cl (hdC h) 32)::(n7,Cl (encPo m2) 28)::(n6,Cl (encPo m1) 28)::H).Sublist ((n18,Cl (encPo (mOp2 3 n64 m1 m2)) 28)::(n64,Cl (encPo m1++encPo m2) 28)::(n15,Cl (hdC h2) 32)::(n12,Cl (hdC h1) 32)::(n9,Cl (hdC h) 32)::(n7,Cl (encPo m2) 28)::(n6,Cl (encPo m1) 28)::H) by exact sbt).trans hB6|exact sbt)))
     trivial
   rintro z -;refine rC tb 6 U ?_
   first|refine Av (s:=113) (Aa U) (fun c113=> ?_) (fun c113=> ?_)|refine A7 (s:=113) (Aa U) (fun c113=> ?_) (fun c113=> ?_)
   ·skip
    refine rO tb 14 U (Ak U (Nk U) ?_)
    first|exact⟨_,⟨rfl,rfl⟩,(show H.Sublist ((n18,Cl (encPo (mOp2 3 n64 m1 m2)) 28)::(n64,Cl (encPo m1++encPo m2) 28)::(n9,Cl (hdC h) 32)::(n7,Cl (encPo m2) 28)::(n6,Cl (encPo m1) 28)::H) by exact sbt).trans (hM_8.trans (hM_9.trans hM_10))⟩|exact⟨_,⟨rfl,rfl⟩,by exact sbt⟩
   ·have he2:e2=0:=by simpa using c113
    refine rO tb 1 U ?_
    first|refine A9 (B5 (T U)) U (Bg U U (Aa U)) ?_|refine A9 (B1 (T U)) U (Bg U U (Aa U)) ?_
    refine rO tb 3 U ?_
    first|refine Ae (Aa U) (fun c116=> ?_) (fun c116=> ?_)|refine Ah (Aa U) (fun c116=> ?_) (fun c116=> ?_)
    ·skip
     refine rC tb 8 U (Ak U (Nk U) ?_)
     first|exact⟨_,⟨rfl,rfl⟩,(show H.Sublist ((n18,Cl (encPo (mOp2 3 n64 m1 m2)) 28)::(n64,Cl (encPo m1++encPo m2) 28)::(n9,Cl (hdC h) 32)::(n7,Cl (encPo m2) 28)::(n6,Cl (encPo m1) 28)::H) by exact sbt).trans (hM_8.trans (hM_9.trans hM_10))⟩|exact⟨_,⟨rfl,rfl⟩,by exact sbt⟩
    ·obtain rfl:is2=true:=by simpa using c116
     refine rC tb 5 U (y_ (Nn U isAgg28 sizeOf28 U (by first|exact As)) ?_ U);refine y_ (Nn U isAgg32 sizeOf32 (Aj hh) (by first|exact Af fdd|exact As)) ?_ U;refine rO tb 1 U ?_;refine e_ (Al (qe4 U U U U) call35 (Lm hfl _ (by rw[sz_op2];omega) (hAf.mono (by exact sbt)) (Dr (by repeat (first|exact Am|refine Ar ?_)) (hM1.mono (by exact sbt)) (hM2.mono (by exact sbt))) (Nat.le_refl _) (.uni U U hI1 hI2) ⟨hF1,hF2⟩ hh)) ?_ U;rintro _ M8 ⟨l8,q8,c8,e8,rfl,⟨w8,g8,u8⟩,hM_8⟩;refine rO tb 10 U ?_;refine y_ (Nn U isAgg28 sizeOf28 U (by first|exact Af (Fnd.mono ((by repeat (first|exact Am|refine Ar ?_)):Fnd ((n18,Cl (encPo (mOp2 3 n64 m1 m2)) 28)::(n64,Cl (encPo m1++encPo m2) 28)::(n9,Cl (hdC h) 32)::(n7,Cl (encPo m2) 28)::(n6,Cl (encPo m1) 28)::H) n6 (Cl (encPo m1) 28)) hM_8)|exact As)) ?_ U;refine y_ (Nn U isAgg32 sizeOf32 (Aj hh) (by first|exact Af (Fnd.mono ((by repeat (first|exact Am|refine Ar ?_)):Fnd ((n18,Cl (encPo (mOp2 3 n64 m1 m2)) 28)::(n64,Cl (encPo m1++encPo m2) 28)::(n9,Cl (hdC h) 32)::(n7,Cl (encPo m2) 28)::(n6,Cl (encPo m1) 28)::H) n9 (Cl (hdC h) 32)) hM_8)|exact As)) ?_ U;refine rO tb 1 U (e_ (Al (qe4 U U U U) call35 (Lm hfl _ qom (hAf.mono ((show H.Sublist ((n18,Cl (encPo (mOp2 3 n64 m1 m2)) 28)::(n64,Cl (encPo m1++encPo m2) 28)::(n9,Cl (hdC h) 32)::(n7,Cl (encPo m2) 28)::(n6,Cl (encPo m1) 28)::H) by exact sbt).trans hM_8)) (hM1.mono ((show H.Sublist ((n18,Cl (encPo (mOp2 3 n64 m1 m2)) 28)::(n64,Cl (encPo m1++encPo m2) 28)::(n9,Cl (hdC h) 32)::(n7,Cl (encPo m2) 28)::(n6,Cl (encPo m1) 28)::H) by exact sbt).trans hM_8)) (Nat.le_refl _) hI1 hF1 hh)) ?_ U);rintro _ M9 ⟨l9,q9,c9,e9,rfl,⟨w9,g9,u9⟩,hM_9⟩;refine kO tb 7 [0,3,7,9,11,25,26,27,28] rfl U (rG tb 3 U ?_);refine y_ (Nn U isAgg28 sizeOf28 U (by first|exact Af (Fnd.mono ((by repeat (first|exact Am|refine Ar ?_)):Fnd ((n18,Cl (encPo (mOp2 3 n64 m1 m2)) 28)::(n64,Cl (encPo m1++encPo m2) 28)::(n9,Cl (hdC h) 32)::(n7,Cl (encPo m2) 28)::(n6,Cl (encPo m1) 28)::H) n7 (Cl (encPo m2) 28)) (hM_8.trans hM_9))|exact As)) ?_ U;refine y_ (Nn U isAgg32 sizeOf32 (Aj hh) (by first|exact Af (Fnd.mono ((by repeat (first|exact Am|refine Ar ?_)):Fnd ((n18,Cl (encPo (mOp2 3 n64 m1 m2)) 28)::(n64,Cl (encPo m1++encPo m2) 28)::(n9,Cl (hdC h) 32)::(n7,Cl (encPo m2) 28)::(n6,Cl (encPo m1) 28)::H) n9 (Cl (hdC h) 32)) (hM_8.trans hM_9))|exact As)) ?_ U;refine rO tb 1 U (e_ (Al (qe4 U U U U) call35 (Lm hfl _ qom (hAf.mono ((show H.Sublist ((n18,Cl (encPo (mOp2 3 n64 m1 m2)) 28)::(n64,Cl (encPo m1++encPo m2) 28)::(n9,Cl (hdC h) 32)::(n7,Cl (encPo m2) 28)::(n6,Cl (encPo m1) 28)::H) by exact sbt).trans (hM_8.trans hM_9))) (hM2.mono ((show H.Sublist ((n18,Cl (encPo (mOp2 3 n64 m1 m2)) 28)::(n64,Cl (encPo m1++encPo m2) 28)::(n9,Cl (hdC h) 32)::(n7,Cl (encPo m2) 28)::(n6,Cl (encPo m1) 28)::H) by exact sbt).trans (hM_8.trans hM_9))) (Nat.le_refl _) hI2 hF2 hh)) ?_ U);rintro _ M10 ⟨l10,q10,c10,e10,rfl,⟨w10,g10,u10⟩,hM_10⟩;refine rO tb 13 U (A9 (A8 (T U) (T U) qom) U (Bg U U (Aa U)) ?_);refine rO tb 1 U (A9 (A8 (T U) (T U) qom) U (Bg U U (Aa U)) ?_);refine rO tb 2 U ?_
     first|refine Av (s:=150) (Aa U) (fun c150=> ?_) (fun c150=> ?_)|refine A7 (s:=150) (Aa U) (fun c150=> ?_) (fun c150=> ?_)
     ·skip
      refine kO tb 13 [10] rfl U (rG tb 1 U (Ak U (Nk U) ?_))
      first|exact⟨_,⟨rfl,rfl⟩,(show H.Sublist ((n18,Cl (encPo (mOp2 3 n64 m1 m2)) 28)::(n64,Cl (encPo m1++encPo m2) 28)::(n9,Cl (hdC h) 32)::(n7,Cl (encPo m2) 28)::(n6,Cl (encPo m1) 28)::H) by exact sbt).trans (hM_8.trans (hM_9.trans hM_10))⟩|exact⟨_,⟨rfl,rfl⟩,by exact sbt⟩
     ·have y8:=w8 qom;have y9:=w9 qom;have y10:=w10 qom;have hlen9:=dst_len (k2 he2) hF1 hh y8.2.1 y9.2.1 y10.2.1 y8.2.2.1 y9.2.2.1 y10.2.2.1;have t8:=y8.2.2.2;have t9:=y9.2.2.2;have t10:=y10.2.2.2;refine rO tb 6 U (A9 (A8 (T U) (T U) qom) U (Bg U U (Aa U)) ?_);refine A9 (yl_eqT (T U) (T U) (by rw[hlen9];exact Int.natCast_add _ _)) U (Bg U U (Aa U)) ?_;refine kO tb 5 [10] rfl U (rG tb 1 U (Ak U (Nk U) ?_))
      first|exact⟨_,⟨rfl,rfl⟩,(show H.Sublist ((n18,Cl (encPo (mOp2 3 n64 m1 m2)) 28)::(n64,Cl (encPo m1++encPo m2) 28)::(n9,Cl (hdC h) 32)::(n7,Cl (encPo m2) 28)::(n6,Cl (encPo m1) 28)::H) by exact sbt).trans (hM_8.trans (hM_9.trans hM_10))⟩|exact⟨_,⟨rfl,rfl⟩,by exact sbt⟩
end Go.Proofs.YtkgfmjanajdibaaGreat
namespace Go.Proofs.YtkgfmjanajdibaaGreat
open _root_.Go.Proofs.Tryz
open Go.ChangeShapes Go.WideShapes Go.ChangeAt Go.RowKit Go.Joins
set_option linter.unusedVariables false
set_option linter.unusedSimpArgs false
set_option linter.unusedSectionVars false
set_option maxRecDepth 100000
section
variable {H:Type} {enc:TypeId × Value→H} {W:World}
theorem laid_out:laidOutB Tryz.prog=true:=by kernel_rfl
theorem trodAll_stays:∀ {ts:List TypeId} {vs:List Value} {ds:List (DataW H)} {ps:List MemPlace} {W':World},(∀ t∈ts,Tryz.prog.readableRec t=true∧t<Tryz.prog.types.size)→DataW.TrodAll enc Tryz.prog W 0 (fun _=>true) true ts vs ds ps→Below W.heap.size W W'→(∀ x∈ps,x.block<W.heap.size)→
  DataW.TrodAll enc Tryz.prog W' 0 (fun b=>decide (b<W.heap.size)) true ts vs ds ps
 |[],_,_,_,_,_,h,_,_=>by obtain⟨rfl,rfl,rfl⟩:=trodAll_nil h;exact trodAll_mk0
 |t::ts,_,_,_,_,hr,h,hb,hlt=>by
  obtain⟨v,vs,d,ds,p,q,rfl,rfl,rfl,h0,r0⟩:=trodAll_cons h;exact trodAll_cons_mk (Below.trod laid_out (hr t (by simp)).1 (hr t (by simp)).2 h0 hb (fun x hx=>hlt x (by simp[hx]))) (trodAll_stays (fun t ht=>hr t (by simp[ht])) r0 hb (fun x hx=>hlt x (by simp[hx])))
end
theorem calls_true {f:FuncId}{args:Array Value}{W:World}(h:FSpec Tryz.prog W f args [] (Still (.bool true) [])):Calls Tryz.prog f args W fun e W'=>e= .returned (.bool true)∧Below W.heap.size W W':=
 (h W (Own.start W)).mono fun e W' ⟨v,H',he,hO,hv,_⟩=>⟨by rw[he,hv],hO.below⟩
noncomputable def laidWorld (os:Os):World:=World.holding Tryz.prog os ⟨#[],#[],[]⟩
end Go.Proofs.YtkgfmjanajdibaaGreat
namespace Go.Proofs.YtkgfmjanajdibaaGreat
open _root_.Go.Proofs.Tryz
open Go.ChangeShapes Go.WideShapes Go.ChangeAt Go.RowKit Go.Joins Go.Deep
set_option linter.unusedVariables false
set_option linter.unusedSimpArgs false
set_option linter.unusedSectionVars false
set_option maxRecDepth 100000
theorem cells30:Tryz.prog.cellsOf 32=10:=by kernel_rfl
theorem und30:Tryz.prog.underlying 32=some (.array 10 3):=by kernel_rfl
section
variable {H:Type} {enc:TypeId × Value→H} {W:World} {b0 n:Nat} {sp1:Nat→Bool} {held:Bool} {y:DataW H × List MemPlace} {cs:List Value}
theorem open_hd {base:Nat}{r:_root_.Go.Reach}{v:Value}{d:DataW H}{p:List MemPlace}(hv:Value.okWide Tryz.prog W r base 32 v)(h:DataW.Trod enc Tryz.prog W b0 sp1 held 32 v d p):∃ (vs:List Value) (hi:List Int),v= .agg vs.toArray∧vs=hwC hi∧hi.length=10:=by
 simp only[Value.okWide,und30] at hv;obtain⟨cs,rfl,h2,_⟩:=hv;obtain⟨l⟩:=cs;obtain⟨fuel,hf⟩:=h;obtain⟨xs,m,rfl,hx,hlen,hxl,hall⟩:=DataW.trod_array und30 hf;simp only[Value.cells] at hlen hall;rw[cells30] at hlen;have each:∀ i,i<10→∃ a:Int,l[i]? =some (.int .i64 a):=fun i hi=>by
  have h3:=hall i hi;rw[cells3,Nat.mul_one,List.getElem?_eq_getElem (by omega:i<xs.length),List.drop_eq_getElem_cons (by omega:i<l.length)] at h3;obtain⟨a,e,_⟩:=H4 h3;exact⟨a,by rw[List.getElem?_eq_getElem (by omega:i<l.length),e]⟩
 obtain⟨f,hf2⟩:=choose_lt each;refine⟨l,(List.range 10).map f,rfl,?_,by simp⟩;refine List.ext_getElem? fun i=> ?_
 by_cases hi:i<10
 ·rw[hf2 i hi];simp[hi]
 ·rw[List.getElem?_eq_none qom,List.getElem?_eq_none (by simp;omega)]
end
end Go.Proofs.YtkgfmjanajdibaaGreat
