/-
  A part of what LawU rests on: the logic, walks and plain laws. No condition.
-/
import Derived.KernelRfl
import Derived.Test.YtnafbfbfmgfcfaaGreatDoorProg
import Derived.RangeFuncLeaves
import Derived.RangeFuncRecord
import Derived.RangeFuncIn
import Derived.OrdersIn
import Derived.Below
import Derived.WalkKit
import Derived.IntWalk
import Derived.StillTail
import Derived.Sort.Row
import Derived.Sort.Grow
import Derived.Lib.SlicesCompact
import Derived.Sort.Walk0
import Derived.Laws.Strings
import Derived.Scope
namespace Go.Proofs.YtnafbfbfmgfcfaaGreatDoor
open _root_.Go.Proofs.Tryz
open Go.RowKit
set_option linter.unusedVariables false
set_option linter.unusedSimpArgs false
set_option linter.unusedSectionVars false
set_option maxRecDepth 100000
theorem U {α:Sort _}{a:α}:a=a:=rfl
theorem qom {p:Prop}(h:p:=by omega):p:=h
theorem qde {p:Prop}(h:p:=by decide):p:=h
theorem qrf {p:Prop}(h:p:=by rfl):p:=h
theorem qkr {α:Sort _}{a b:α}(h:a=b:=by kernel_rfl):a=b:=h
theorem qco {p:Prop}(h:p:=by exact c_o):p:=h
theorem qcs {p:Prop}(h:p:=by exact A2):p:=h
theorem qlc {p:Prop}(h:p:=by repeat (first|exact LocL.h|apply LocL.t|apply LocL.a)):p:=h
abbrev Fm:=List (Nat × Value)
def lk (L:Fm) (b:Nat->Value) (k:Nat):Value:=
 match L with
 |[]=>b k
 |e::r=>match Nat.beq e.1 k with
  |true=>e.2
  |false=>lk r b k
def At (L:Fm) (k:Nat) (v:Value):Prop:=∀ b,lk L b k=v
def fnd? :Fm->Nat->Option Value
 |[],_=>none
 |(d,v)::r,k=>match Nat.beq d k with
  |true=>some v
  |false=>fnd? r k
theorem Aa:∀ {L:Fm} {k:Nat} {v:Value},fnd? L k=some v->At L k v
 |[],_,_,h=>by cases h
 |(d,u)::r,k,v,h=>fun b=>by
  rw[fnd?] at h;rw[lk];cases hb:Nat.beq d k
  ·simp only[hb] at h ⊢;exact Aa h b
  ·simp only[hb] at h ⊢;exact Option.some.inj h
theorem Ae {L:Fm}{k:Nat}{v u:Value}(h:At L k v)(e:v=u):At L k u:=e ▸ h
theorem vint {k:IntKind}{a b:Int}(h:a=b):Value.int k a= .int k b:=by rw[h]
theorem vbool {a b:Bool}(h:a=b):Value.bool a= .bool b:=by rw[h]
def ev (σ:Nat->Value):Operand->Value
 | .tmp t=>σ t
 | .const v=>v
 | .global g=> .pointer (some ⟨g,0,none⟩)
 | .func f=> .func (.func f) #[] #[]
def Ev (L:Fm) (x:Operand) (v:Value):Prop:=∀ b,ev (lk L b) x=v
theorem An {L:Fm}{v:Value}:Ev L (.const v) v:=fun _=>rfl
theorem ev_g {L:Fm}{g:Nat}:Ev L (.global g) (.pointer (some ⟨g,0,none⟩)):=fun _=>rfl
theorem Ku {L:Fm}{f:Nat}:Ev L (.func f) (.func (.func f) #[] #[]):=fun _=>rfl
def fr (a:Act):Nat->Value:=fun k=>a.tmps.getD k undef
theorem G5 (a:Act)(x:Operand):a.eval x=ev (fr a) x:=by cases x<;>rfl
theorem Gm (a:Act):a.eval=ev (fr a):=funext (G5 a)
theorem fr_put {a:Act}{d:Nat}{v:Value}{L:Fm}{b:Nat->Value}(hd:d<a.tmps.size)(h:fr a=lk L b):fr (a.put (some d) v)=lk ((d,v)::L) b:=by
 funext k
 have hk:=congrFun h k;unfold fr at *;unfold lk;simp only[Act.put]
 by_cases hdk:d=k
 ·subst hdk;simp[Nat.beq_refl,Array.getD_eq_getD_getElem?,hd]
 ·have:Nat.beq d k=false:=by
   cases hb:Nat.beq d k
   ·rfl
   ·exact absurd (Nat.eq_of_beq_eq_true hb) hdk
  simp only[this];rw[<- hk];simp[Array.getD_eq_getD_getElem?,Array.getElem?_setIfInBounds_ne hdk]
theorem D6 (a:Act)(d:Option Tmp)(v:Value):(a.put d v).tmps.size=a.tmps.size:=by cases d<;>simp[Act.put]
theorem Df (a:Act)(d:Option Tmp)(v:Value):(a.put d v).defers=a.defers:=by cases d<;>rfl
structure Own (w0:World) (H:List (Nat × Obj)) (w:World):Prop where
 below:Below w0.heap.size w0 w
 has:∀ e∈H,w.heap[e.1]? =some e.2
 base:∀ e∈H,w0.heap.size<=e.1
 nodup:(H.map (·.1)).Nodup
 drw:w0.drawn<=w.drawn
theorem Own.start (w:World):Own w [] w:=⟨Below.refl _ _,by simp,by simp,by simp,Nat.le_refl _⟩
theorem Own.tail {w0 w:World}{e:Nat × Obj}{H:List (Nat × Obj)}(h:Own w0 (e::H) w):Own w0 H w:=
 ⟨h.below,fun x hx=>h.has x (by simp[hx]),fun x hx=>h.base x (by simp[hx]),(by have:=h.nodup;simp at this;exact this.2),h.drw⟩
theorem Own.drop {w0 w:World}{X H:List (Nat × Obj)}(h:Own w0 (X++H) w):Own w0 H w:=by
 induction X with
 |nil=>exact h
 |cons e X ih=>exact ih h.tail
theorem Own.sub {w0 w:World}{H H':List (Nat × Obj)}(h:Own w0 H w)(hs:H'.Sublist H):Own w0 H' w:=
 ⟨h.below,fun x hx=>h.has x (hs.subset hx),fun x hx=>h.base x (hs.subset hx),h.nodup.sublist (hs.map _),h.drw⟩
theorem Own.drawn {w0 w:World}{H:List (Nat × Obj)}(h:Own w0 H w):Own w0 H {w with drawn:=w.drawn+1}:=
 ⟨⟨h.below.os,h.below.tape,h.below.output,h.below.size,h.below.block⟩,h.has,h.base,h.nodup,Nat.le_succ_of_le h.drw⟩
theorem Own.alloc {w0 w:World}{H:List (Nat × Obj)}(h:Own w0 H w)(o:Obj):Own w0 ((w.heap.size,o)::H) (w.alloc o):=by
 have hlt:∀ e∈H,e.1<w.heap.size:=fun e he=>(Array.getElem?_eq_some_iff.1 (h.has e he)).1
 refine⟨h.below.alloc h.below.size _,fun e he=> ?_,fun e he=> ?_,?_,h.drw⟩
 ·rcases List.mem_cons.1 he with rfl|he
  ·exact World.alloc_heap_new _ _
  ·rw[Below.heap_alloc _ _ _ (hlt e he)];exact h.has e he
 ·rcases List.mem_cons.1 he with rfl|he
  ·exact h.below.size
  ·exact h.base e he
 ·simp only[List.map_cons,List.nodup_cons];refine⟨fun hm=> ?_,h.nodup⟩;obtain⟨e,he,heq⟩:=List.mem_map.1 hm;have:=hlt e he;omega
def Fnd (H:List (Nat × Obj)) (n:Nat) (o:Obj):Prop:=(n,o)∈H
theorem Ba {H:List (Nat × Obj)}{n:Nat}{o:Obj}:Fnd ((n,o)::H) n o:=by simp[Fnd]
theorem Av {H:List (Nat × Obj)}{n:Nat}{o:Obj}{e:Nat × Obj}(h:Fnd H n o):Fnd (e::H) n o:=by simp[Fnd] at *;exact .inr h
section
variable {α:Type} {a b c d e f g h i j:α} {l:List α}
theorem sb0:l.Sublist l:=List.Sublist.refl _
theorem sb1:l.Sublist (a::l):=sb0.cons _
theorem sb2:l.Sublist (a::b::l):=sb1.cons _
theorem sb3:l.Sublist (a::b::c::l):=sb2.cons _
theorem sb4:l.Sublist (a::b::c::d::l):=sb3.cons _
theorem sb5:l.Sublist (a::b::c::d::e::l):=sb4.cons _
theorem sb6:l.Sublist (a::b::c::d::e::f::l):=sb5.cons _
theorem sb7:l.Sublist (a::b::c::d::e::f::g::l):=sb6.cons _
theorem sb8:l.Sublist (a::b::c::d::e::f::g::h::l):=sb7.cons _
end
theorem sbt {α:Type}{l l':List α}(h:l.Sublist l':=by first|exact sb0|exact sb1|exact sb2|exact sb3|exact sb4|exact sb5|exact sb6|exact sb7|exact sb8|((repeat (first|exact sb0|refine List.Sublist.cons_cons _ ?_|refine List.Sublist.cons _ ?_|refine List.Sublist.append (List.Sublist.refl _) ?_|refine List.Sublist.trans ?_ (List.sublist_append_right _ _)));done)):l.Sublist l':=h
theorem A6 {X H:List (Nat × Obj)}{n:Nat}{o:Obj}(h:Fnd H n o):Fnd (X++H) n o:=by simp[Fnd] at *;exact .inr h
inductive Upd:List (Nat × Obj)->Nat->Obj->Obj->List (Nat × Obj)->Prop
 |h {H n o o'}:Upd ((n,o)::H) n o o' ((n,o')::H)
 |t {H n o o' H' e}:Upd H n o o' H'->Upd (e::H) n o o' (e::H')
theorem D7 {X H H':List (Nat × Obj)}{n:Nat}{o o':Obj}(h:Upd H n o o' H'):Upd (X++H) n o o' (X++H'):=by
 induction X with
 |nil=>exact h
 |cons e X ih=>exact .t ih
theorem Upd.fst {H H':List (Nat × Obj)}{n:Nat}{o o':Obj}(h:Upd H n o o' H'):H'.map (·.1)=H.map (·.1):=by
 induction h with
 |h=>rfl
 |t _ ih=>simp[ih]
theorem Upd.mem {H H':List (Nat × Obj)}{n:Nat}{o o':Obj}(h:Upd H n o o' H'):(n,o)∈H:=by
 induction h with
 |h=>simp
 |t _ ih=>simp[ih]
theorem Upd.cases {H H':List (Nat × Obj)}{n:Nat}{o o':Obj}(h:Upd H n o o' H')(hn:(H.map (·.1)).Nodup):∀ e∈H',e=(n,o')\/(e∈H/\e.1≠n):=by
 induction h with
 | @h H n o o'=>
  intro e he;rcases List.mem_cons.1 he with rfl|he
  ·exact .inl U
  ·simp only[List.map_cons,List.nodup_cons] at hn;exact .inr ⟨by simp[he],fun h=>hn.1 (List.mem_map.2 ⟨e,he,h⟩)⟩
 | @t H n o o' H' e0 hu ih=>
  intro e he;simp only[List.map_cons,List.nodup_cons] at hn;rcases List.mem_cons.1 he with rfl|he
  ·exact .inr ⟨by simp,fun h=>hn.1 (by rw[h];exact List.mem_map.2 ⟨_,hu.mem,rfl⟩)⟩
  ·rcases ih hn.2 e he with h|⟨h1,h2⟩
   ·exact .inl h
   ·exact .inr ⟨by simp[h1],h2⟩
theorem Own.put {w0 w:World}{H H':List (Nat × Obj)}{n:Nat}{o o':Obj}(h:Own w0 H w)(hu:Upd H n o o' H'):Own w0 H' (w.putObj n o'):=by
 have hb:=h.base _ hu.mem;have hlt:n<w.heap.size:=(Array.getElem?_eq_some_iff.1 (h.has _ hu.mem)).1;refine⟨h.below.trans ⟨rfl,rfl,rfl,by simp,fun k hk=>World.putObj_heap_other (by simp at hb;omega)⟩,fun e he=> ?_,fun e he=> ?_,(by rw[hu.fst];exact h.nodup),h.drw⟩
 ·rcases hu.cases h.nodup e he with rfl|⟨h1,h2⟩
  ·exact World.putObj_heap_same hlt
  ·rw[World.putObj_heap_other h2];exact h.has e h1
 ·rcases hu.cases h.nodup e he with rfl|⟨h1,h2⟩
  ·exact hb
  ·exact h.base e h1
abbrev Cl (l:List Value) (t:TypeId):Obj:= .cells l.toArray t (0,0)
def nth? :List Value->Nat->Option Value
 |[],_=>none
 |v::_,0=>some v
 |_::l,i+1=>nth? l i
theorem Kd:∀ {l:List Value} {i:Nat} {v:Value},nth? l i=some v->l[i]? =some v
 |[],_,_,h=>by cases h
 |v::l,0,_,h=>by simpa[nth?] using h
 |_::l,i+1,_,h=>by simpa using Kd (l:=l) h
theorem Own.cell {w0 w:World}{H:List (Nat × Obj)}{n i:Nat}{l:List Value}{t:TypeId}{v:Value}(h:Own w0 H w)(hf:Fnd H n (Cl l t))(hi:l[i]? =some v):w.cell? ⟨n,i,none⟩=some v:=by
 have:=h.has _ hf;simp only at this;simp[World.cell?,this,hi]
theorem Own.free {w0 w:World}{H:List (Nat × Obj)}{n i:Nat}{l:List Value}{t:TypeId}(h:Own w0 H w)(hf:Fnd H n (Cl l t)):w.frozen? ⟨n,i,none⟩=false:=by
 have:=h.has _ hf;simp only at this;simp[World.frozen?,this]
theorem setCell_put {w:World}{n i:Nat}{c:Array Value}{t:TypeId}{f:Nat × Nat}(v:Value)(h:w.heap[n]? =some (.cells c t f)):w.setCell ⟨n,i,none⟩ v=w.putObj n (.cells (c.setIfInBounds i v) t f):=by
 obtain⟨hlt,he⟩:=Array.getElem?_eq_some_iff.1 h;unfold World.setCell World.putObj
 congr 1
 apply Array.ext
 ·simp
 ·intro k h1 h2;simp only[Array.getElem_modify]
  by_cases hk:n=k
  ·subst hk;simp only[if_true];rw[he];simp
  ·rw[if_neg hk,Array.getElem_setIfInBounds_ne (h:=hk)]
theorem fdd {H:List (Nat × Obj)}{n:Nat}{o:Obj}(h:Fnd H n o:=by repeat (first|exact Ba|refine Av ?_|refine A6 ?_)):Fnd H n o:=h
theorem atd {L:Fm}{s:Nat}{v:Value}(h:At L s v:=by first|exact Aa U|(refine Ae (Aa U) (vint ?_);omega)|(refine Ae (Aa U) ?_;simp;done)):At L s v:=h
theorem qat {p:Prop}(h:p:=by exact Aa U):p:=h
theorem stn {α:Type}{a b c:List α}(hs:b.Sublist c)(h:a.Sublist b:=by exact sbt):a.Sublist c:=List.Sublist.trans h hs
def rd:Option Nat->Fence
 |none=>Fence.wide
 |some l=>Fence.wide.inRound l
theorem Ke (r:Option Nat)(f:FuncId):(rd r).fn f:=by cases r<;>exact trivial
theorem rd_depth (r:Option Nat):(rd r).depth=none:=by cases r<;>rfl
theorem Kv (r:Option Nat){p:Prop}:(rd r).depth.isSome=true->p:=fun h=>by rw[rd_depth] at h;cases h
abbrev Post:=Exit->(Nat->Value)->List Deferred->World->Prop
def LQ (N:Nat) (Q:Post):Exit->Act->World->Prop:=fun e a w=>a.tmps.size=N/\Q e (fr a) a.defers w
def swp (P:Program) (r:Option Nat) (N:Nat) (c:Code) (Q:Post) (σ:Nat->Value) (ds:List Deferred) (w:World):Prop:=
 ∀ a:Act,a.tmps.size=N->fr a=σ->a.defers=ds->c.wpIn (rd r) 0 P (LQ N Q) a w
def swpL (P:Program) (r:Option Nat) (N:Nat) (ops:Array Oper) (l:List Oper) (Q:Post) (σ:Nat->Value) (ds:List Deferred) (w:World):Prop:=
 ∀ a:Act,a.tmps.size=N->fr a=σ->a.defers=ds->wpListIn (rd r) 0 P ops (LQ N Q) l a w
def J (P:Program) (r:Option Nat) (N:Nat) (w0:World) (c:Code) (Q:Post) (L:Fm) (ds:List Deferred) (H:List (Nat × Obj)):Prop:=
 ∀ b w,Own w0 H w->swp P r N c Q (lk L b) ds w
def JL (P:Program) (r:Option Nat) (N:Nat) (w0:World) (ops:Array Oper) (l:List Oper) (Q:Post) (L:Fm) (ds:List Deferred) (H:List (Nat × Obj)):Prop:=
 ∀ b w,Own w0 H w->swpL P r N ops l Q (lk L b) ds w
def JQ (w0:World) (Q:Post) (e:Exit) (L:Fm) (ds:List Deferred) (H:List (Nat × Obj)):Prop:=
 ∀ b w,Own w0 H w->Q e (lk L b) ds w
section rules
variable {P:Program} {r:Option Nat} {N:Nat} {w0:World} {Q:Post} {L:Fm} {ds:List Deferred} {H:List (Nat × Obj)}
def thenQ (K:(Nat->Value)->List Deferred->World->Prop) (Q:Post):Post
 | .normal,σ,ds,w=>K σ ds w
 |e,σ,ds,w=>Q e σ ds w
def blockQ (id:Nat) (Q:Post):Post
 | .exit id',σ,ds,w=>if id'=id then Q .normal σ ds w else Q (.exit id') σ ds w
 |e,σ,ds,w=>Q e σ ds w
theorem Am {x y:Code}(h:J P r N w0 x (thenQ (swp P r N y Q) Q) L ds H):J P r N w0 (.seq x y) Q L ds H:=fun b w hO a hs hf hd=>
 wpIn_seq (wpIn_mono (h b w hO a hs hf hd) (by
  intro e a' w' hq;cases e<;>first|exact hq.2 a' hq.1 U U|exact hq))
theorem Ah {y:Code}(h:J P r N w0 y Q L ds H):JQ w0 (thenQ (swp P r N y Q) Q) .normal L ds H:=h
theorem Aw {K}(h:JQ w0 Q .ret L ds H):JQ w0 (thenQ K Q) .ret L ds H:=h
theorem Bv {K}{id:Nat}(h:JQ w0 Q (.exit id) L ds H):JQ w0 (thenQ K Q) (.exit id) L ds H:=h
theorem Bo {id:Nat}{c:Code}(h:J P r N w0 c (blockQ id Q) L ds H):J P r N w0 (.block id c) Q L ds H:=fun b w hO a hs hf hd=>
 wpIn_block (wpIn_mono (h b w hO a hs hf hd) (by
  intro e a' w' hq;cases e with
  |exit id'=>
   unfold LQ blockQ at hq;unfold Exit.inBlock
   by_cases hid:id'=id
   ·simp only[hid,if_true] at hq ⊢;exact hq
   ·simp only[hid,if_false] at hq ⊢;exact hq
  |_=>exact hq))
theorem B4 {id:Nat}(h:JQ w0 Q .normal L ds H):JQ w0 (blockQ id Q) .normal L ds H:=h
theorem A4 {id:Nat}(h:JQ w0 Q .ret L ds H):JQ w0 (blockQ id Q) .ret L ds H:=h
theorem Bw {id:Nat}(h:JQ w0 Q .normal L ds H):JQ w0 (blockQ id Q) (.exit id) L ds H:=fun b w hO=>by unfold blockQ;simp only[if_true];exact h b w hO
theorem q_block_miss {id id':Nat}(hne:Nat.beq id' id=false)(h:JQ w0 Q (.exit id') L ds H):JQ w0 (blockQ id Q) (.exit id') L ds H:=fun b w hO=>by
 unfold blockQ;have:id'≠id:=fun e=>by rw[e,Nat.beq_refl] at hne;cases hne
 simp only[this,if_false];exact h b w hO
theorem Bp (h:JQ w0 Q .normal L ds H):J P r N w0 .skip Q L ds H:=fun b w hO a hs hf hd=>wpIn_skip ⟨hs,by rw[hf,hd];exact h b w hO⟩
theorem Bq (h:JQ w0 Q .ret L ds H):J P r N w0 .ret Q L ds H:=fun b w hO a hs hf hd=>wpIn_ret ⟨hs,by rw[hf,hd];exact h b w hO⟩
theorem Ct {id:Nat}(h:JQ w0 Q (.exit id) L ds H):J P r N w0 (.exit id) Q L ds H:=fun b w hO a hs hf hd=>wpIn_exit ⟨hs,by rw[hf,hd];exact h b w hO⟩
theorem Au {k:Nat}{t:Bool}{x y:Code}(hc:At L k (.bool t))(ht:t=true->J P r N w0 x Q L ds H)(hf:t=false->J P r N w0 y Q L ds H):J P r N w0 (.cond (.tmp k) x y) Q L ds H:=fun b w hO a hs hfr hd=>by
 refine wpIn_cond_split (t:=t) (by rw[G5,hfr];exact hc b) (fun h=>ht h b w hO a hs hfr hd) (fun h=>hf h b w hO a hs hfr hd)
theorem Cf {k:Nat}{x y:Code}(hc:At L k (.bool true))(ht:J P r N w0 x Q L ds H):J P r N w0 (.cond (.tmp k) x y) Q L ds H:=Au hc (fun _=>ht) (fun h=>by cases h)
theorem Cz {k:Nat}{x y:Code}(hc:At L k (.bool false))(hf:J P r N w0 y Q L ds H):J P r N w0 (.cond (.tmp k) x y) Q L ds H:=Au hc (fun h=>by cases h) (fun _=>hf)
theorem Ak {k:Nat}{p:Prop}[Decidable p] {x y:Code}(hc:At L k (.bool (decide p)))(ht:p->J P r N w0 x Q L ds H)(hf: ¬ p->J P r N w0 y Q L ds H):J P r N w0 (.cond (.tmp k) x y) Q L ds H:=
 Au hc (fun h=>ht (of_decide_eq_true h)) (fun h=>hf (of_decide_eq_false h))
theorem Ad {id:Nat}{l:List Oper}(h:JL P r N w0 l.toArray l Q L ds H):J P r N w0 (.region id l.toArray false) Q L ds H:=fun b w hO a hs hf hd=>
 wpIn_region_lit (h b w hO a hs hf hd)
theorem Aj {ops:Array Oper}(h:JQ w0 Q .normal L ds H):JL P r N w0 ops [] Q L ds H:=fun b w hO a hs hf hd=>wpListIn_nil ⟨hs,by rw[hf,hd];exact h b w hO⟩
def Agree:Fm->Fm->Prop
 |[],_=>True
 |e::K,L=>At L e.1 e.2/\Agree K L
theorem D8:∀ {K L:Fm} {b:Nat->Value},Agree K L->lk K (lk L b)=lk L b
 |[],_,_,_=>rfl
 |e::K,L,b,h=>by
  funext k
  rw[lk];cases hb:Nat.beq e.1 k
  ·simp only[D8 h.2]
  ·have:=Nat.eq_of_beq_eq_true hb;subst this;exact(h.1 b).symm
theorem B5 {c:Code}(K:Fm)(hk:Agree K L)(h:J P r N w0 c Q K ds H):J P r N w0 c Q L ds H:=fun b w hO=>by
 rw[<- D8 (b:=b) hk];exact h _ w hO
theorem jq_keep {e:Exit}(K:Fm)(hk:Agree K L)(h:JQ w0 Q e K ds H):JQ w0 Q e L ds H:=fun b w hO=>by
 rw[<- D8 (b:=b) hk];exact h _ w hO
theorem jl_keep {ops:Array Oper}{l:List Oper}(K:Fm)(hk:Agree K L)(h:JL P r N w0 ops l Q K ds H):JL P r N w0 ops l Q L ds H:=fun b w hO=>by
 rw[<- D8 (b:=b) hk];exact h _ w hO
theorem Jy {e:Exit}{H':List (Nat × Obj)}(hs:H'.Sublist H)(h:JQ w0 Q e L ds H'):JQ w0 Q e L ds H:=fun b w hO=>h b w (hO.sub hs)
theorem least_ex {I:Nat->Prop}:∀ {n:Nat},I n->∃ m,I m/\∀ m',I m'->m<=m':=by
 intro n
 induction n using Nat.strongRecOn with
 |_ n ih=>
  intro h
  by_cases hx:∃ m,m<n/\I m
  ·obtain⟨m,hm,hi⟩:=hx;exact ih m hm hi
  ·exact⟨n,h,fun m' h'=>Nat.le_of_not_lt fun hlt=>hx ⟨m',hlt,h'⟩⟩
def loopQ (w0:World) {X:Type} (V:X->Fm) (G:X->List (Nat × Obj)) (φ:X->Prop) (μ:X->Nat) (m:Nat) (ds:List Deferred) (Q:Post):Post
 | .normal,σ,ds',w=>ds'=ds/\∃ x b,φ x/\μ x<m/\σ=lk (V x) b/\Own w0 (G x) w
 |e,σ,ds',w=>Q e σ ds' w
theorem Bc {X:Type}{V:X->Fm}{G:X->List (Nat × Obj)}{φ:X->Prop}{μ:X->Nat}{m:Nat}{ds':List Deferred}(h:JQ w0 Q .ret L ds H):JQ w0 (loopQ w0 V G φ μ m ds' Q) .ret L ds H:=h
theorem Aq {X:Type}{V:X->Fm}{G:X->List (Nat × Obj)}{φ:X->Prop}{μ:X->Nat}{m:Nat}{ds':List Deferred}{id:Nat}(h:JQ w0 Q (.exit id) L ds H):JQ w0 (loopQ w0 V G φ μ m ds' Q) (.exit id) L ds H:=h
theorem q_loop {X:Type}{V:X->Fm}{G:X->List (Nat × Obj)}{φ:X->Prop}{μ:X->Nat}{m:Nat}(x:X)(hφ:φ x)(hμ:μ x<m)(hV:Agree (V x) L)(hG:(G x).Sublist H):JQ w0 (loopQ w0 V G φ μ m ds Q) .normal L ds H:=
 fun b w hO=>⟨rfl,x,lk L b,hφ,hμ,(D8 hV).symm,hO.sub hG⟩
theorem j_loop {c:Code}{X:Type}(V:X->Fm)(G:X->List (Nat × Obj))(φ:X->Prop)(μ:X->Nat)(x0:X)(h0:φ x0)(hV:Agree (V x0) L)(hG:(G x0).Sublist H)
  (round:∀ x,φ x->J P r N w0 c (loopQ w0 V G φ μ (μ x) ds Q) (V x) ds (G x)):J P r N w0 (.loop c) Q L ds H:=fun b w hO a hs hf hd=>by
 classical
 let I:Nat->Act->World->Prop:=fun m a w=>a.tmps.size=N/\a.defers=ds/\∃ x b,φ x/\μ x=m/\fr a=lk (V x) b/\Own w0 (G x) w
 have hle:∀ {a w},(∃ m,I m a w)->∃ m,I m a w/\∀ m',I m' a w->m<=m':=fun ⟨_,h⟩=>least_ex (I:=fun m=>I m _ _) h
 let μ':Act->World->Nat:=fun a w=>if h:∃ m,I m a w then (hle h).choose else 0
 refine wpIn_loop (fun a w=>∃ m,I m a w) μ' ⟨μ x0,hs,hd,x0,lk L b,h0,rfl,by rw[hf,D8 hV],hO.sub hG⟩ ?_;intro a w hI;have hm:I (μ' a w) a w:=by
  have:μ' a w=(hle hI).choose:=dif_pos hI;rw[this];exact(hle hI).choose_spec.1
 obtain⟨hs',hd',x,b',hx,hmx,hfx,hOx⟩:=hm;refine wpIn_mono (round x hx b' w hOx a hs' hfx hd') ?_;intro e a' w' hq;cases e with
 |normal=>
  obtain⟨hs2,hd2,x2,b2,h2,hlt,hf2,hO2⟩:=hq;have hI2:∃ m,I m a' w':=⟨μ x2,hs2,hd2,x2,b2,h2,rfl,hf2,hO2⟩;refine⟨hI2,?_⟩;have e2:μ' a' w'=(hle hI2).choose:=dif_pos hI2;have:=(hle hI2).choose_spec.2 (μ x2) ⟨hs2,hd2,x2,b2,h2,rfl,hf2,hO2⟩;rw[e2];omega
 |_=>exact hq
theorem G6:∀ {A B L:Fm},Agree A L->Agree B L->Agree (A++B) L
 |[],_,_,_,h=>h
 |_::_,_,_,h,k=>⟨h.1,G6 h.2 k⟩
theorem Bz {c:Code}{X:Type}(V:X->Fm)(C:Fm)(G:X->List (Nat × Obj))(φ:X->Prop)(μ:X->Nat)(x0:X)(h0:φ x0)(hC:Agree C L)(hV:Agree (V x0) L)(hG:(G x0).Sublist H)
  (round:∀ x,φ x->J P r N w0 c (loopQ w0 (fun x=>V x++C) G φ μ (μ x) ds Q) (V x++C) ds (G x)):J P r N w0 (.loop c) Q L ds H:=
 j_loop (fun x=>V x++C) G φ μ x0 h0 (G6 hV hC) hG round
theorem A8 {X:Type}{V:X->Fm}{C:Fm}{G:X->List (Nat × Obj)}{φ:X->Prop}{μ:X->Nat}{m:Nat}(x:X)(hφ:φ x)(hμ:μ x<m)(hV:Agree (V x) L)(hC:Agree C L)(hG:(G x).Sublist H):JQ w0 (loopQ w0 (fun x=>V x++C) G φ μ m ds Q) .normal L ds H:=
 q_loop x hφ hμ (G6 hV hC) hG
theorem j_loopG {c:Code}{X:Type}(V:X->Fm)(C:Fm)(G:X->List (Nat × Obj))(Hc:List (Nat × Obj))(φ:X->Prop)(μ:X->Nat)(x0:X)(h0:φ x0)(hC:Agree C L)(hV:Agree (V x0) L)(hG:(G x0++Hc).Sublist H)
  (round:∀ x,φ x->J P r N w0 c (loopQ w0 (fun x=>V x++C) (fun x=>G x++Hc) φ μ (μ x) ds Q) (V x++C) ds (G x++Hc)):J P r N w0 (.loop c) Q L ds H:=
 Bz V C (fun x=>G x++Hc) φ μ x0 h0 hC hV hG round
theorem Cb {c:Code}{X:Type}(V:X->Fm)(C:Fm)(φ:X->Prop)(μ:X->Nat)(x0:X)(h0:φ x0)(hC:Agree C L)(hV:Agree (V x0) L)
  (round:∀ x,φ x->J P r N w0 c (loopQ w0 (fun x=>V x++C) (fun _=>H) φ μ (μ x) ds Q) (V x++C) ds H):J P r N w0 (.loop c) Q L ds H:=
 Bz V C (fun _=>H) φ μ x0 h0 hC hV (List.Sublist.refl _) round
def cutQ (w0:World) {X:Type} (V:X->Fm) (G:X->List (Nat × Obj)) (φ:X->Prop) (ds:List Deferred) (Q:Post):Post
 | .normal,σ,ds',w=>ds'=ds/\∃ x b,φ x/\σ=lk (V x) b/\Own w0 (G x) w
 |e,σ,ds',w=>Q e σ ds' w
theorem q_cut {X:Type}{V:X->Fm}{G:X->List (Nat × Obj)}{φ:X->Prop}(x:X)(hφ:φ x)(hV:Agree (V x) L)(hG:(G x).Sublist H):JQ w0 (cutQ w0 V G φ ds Q) .normal L ds H:=
 fun b w hO=>⟨rfl,x,lk L b,hφ,(D8 hV).symm,hO.sub hG⟩
theorem j_cut {x y:Code}{X:Type}(V:X->Fm)(G:X->List (Nat × Obj))(φ:X->Prop)(ds':List Deferred)(h:J P r N w0 x (cutQ w0 V G φ ds' Q) L ds H)(k:∀ z,φ z->J P r N w0 y Q (V z) ds' (G z)):J P r N w0 (.seq x y) Q L ds H:=fun b w hO a hs hf hd=>
 wpIn_seq (wpIn_mono (h b w hO a hs hf hd) (by
  intro e a' w' hq;cases e with
  |normal=>
   obtain⟨hs2,hd2,x2,b2,h2,hf2,hO2⟩:=hq;exact k x2 h2 b2 w' hO2 a' hs2 hf2 hd2
  |_=>exact hq))
theorem Fp {x y:Code}{X:Type}(V:X->Fm)(C:Fm)(G:X->List (Nat × Obj))(φ:X->Prop)(hC:Agree C L)(h:J P r N w0 x (cutQ w0 (fun x=>V x++C) G φ ds Q) L ds H)(k:∀ z,φ z->J P r N w0 y Q (V z++C) ds (G z)):J P r N w0 (.seq x y) Q L ds H:=
 j_cut (fun x=>V x++C) G φ ds h k
theorem H9 {x y:Code}{X:Type}(V:X->Fm)(C:Fm)(φ:X->Prop)(hC:Agree C L)(h:J P r N w0 x (cutQ w0 (fun x=>V x++C) (fun _=>H) φ ds Q) L ds H)(k:∀ z,φ z->J P r N w0 y Q (V z++C) ds H):J P r N w0 (.seq x y) Q L ds H:=
 j_cut (fun x=>V x++C) (fun _=>H) φ ds h k
theorem Be {X:Type}{V:X->Fm}{C:Fm}{G:X->List (Nat × Obj)}{φ:X->Prop}(x:X)(hφ:φ x)(hV:Agree (V x) L)(hC:Agree C L)(hG:(G x).Sublist H):JQ w0 (cutQ w0 (fun x=>V x++C) G φ ds Q) .normal L ds H:=
 q_cut x hφ (G6 hV hC) hG
end rules
theorem F6 {P:Program}{r:Option Nat}{n:Nat}{f:FuncId}{args:Array Value}{w:World}{R:Ending->World->Prop}(h:Calls P f args w R):CallsIn (rd r) n P f args w R:=by
 cases r with
 |none=>exact callsIn_wide.2 h
 |some l=>exact callsIn_wide.2 h
def exO (ρ:Operand->Value) (op:Op) (ty:TypeId):Sem Next:=execOp ρ ⟨none,op,ty, "",#[],none⟩
theorem Kx (ρ:Operand->Value)(d:Option Tmp)(op:Op)(ty:TypeId)(p:String)(af:Array Edge)(g:Option (Nat × Bool)):execOp ρ ⟨d,op,ty,p,af,g⟩=exO ρ op ty:=rfl
def Op.isDefer:Op->Bool
 | .defer _=>true
 |_=>false
theorem semAt_rd (r:Option Nat)(ρ:Operand->Value){d:Option Tmp}{op:Op}{ty:TypeId}{p:String}{af:Array Edge}{g:Option (Nat × Bool)}(h:Op.isDefer op=false):
  Oper.semAt (rd r).round ρ ⟨d,op,ty,p,af,g⟩=exO ρ op ty:=
 Oper.semAt_eq _ _ _ (fun c hc=>by simp only at hc;rw[hc] at h;cases h)
def FSpec (P:Program) (w0:World) (f:FuncId) (args:Array Value) (H:List (Nat × Obj)) (K:Value->List (Nat × Obj)->Prop):Prop:=
 ∀ w,Own w0 H w->Calls P f args w fun e w'=>∃ v H',e= .returned v/\Own w0 H' w'/\K v H'
theorem FSpec.mono {P:Program}{w0:World}{f:FuncId}{args:Array Value}{H:List (Nat × Obj)}{K K':Value->List (Nat × Obj)->Prop}(h:FSpec P w0 f args H K)(hk:∀ v H',K v H'->K' v H'):FSpec P w0 f args H K':=
 fun w hO=>(h w hO).mono fun e w' ⟨v,H',he,hO',hK⟩=>⟨v,H',he,hO',hk v H' hK⟩
abbrev Still (v:Value) (H:List (Nat × Obj)):Value->List (Nat × Obj)->Prop:=fun v' H'=>v'=v/\H'=H
def effO (P:Program) (w0:World) (K:Value->List (Nat × Obj)->Prop):Result Next->Prop
 | .ok (.value v) w'=>∃ H',Own w0 H' w'/\K v H'
 | .ok .skip w'=>∃ H',Own w0 H' w'/\K undef H'
 | .ok (.enter f args) w'=>Calls P f args w' fun e w''=>∃ v H',e= .returned v/\Own w0 H' w''/\K v H'
 | .ok (.round l f tmps assign body) w'=>RoundIn Fence.wide 0 P l f tmps assign body w' fun e w''=>∃ v H',e= .returned v/\Own w0 H' w''/\K v H'
 |_=>False
theorem roundIn_rd {P:Program}{r:Option Nat}{n:Nat}{l f:Nat}{tmps:Array Value}{assign body:Code}{w:World}{R:Ending->World->Prop}(h:RoundIn Fence.wide n P l f tmps assign body w R):RoundIn (rd r) n P l f tmps assign body w R:=by
 cases r<;>exact h
def Eff (P:Program) (w0:World) (op:Op) (ty:TypeId) (L:Fm) (H:List (Nat × Obj)) (K:Value->List (Nat × Obj)->Prop):Prop:=
 Op.isDefer op=false/\∀ b w,Own w0 H w->effO P w0 K ((exO (ev (lk L b)) op ty).run P w)
def Yl (P:Program) (w0:World) (op:Op) (ty:TypeId) (L:Fm) (H:List (Nat × Obj)) (v:Value):Prop:=
 Op.isDefer op=false/\∀ H',H.Sublist H'->∀ b w,Own w0 H' w->effO P w0 (Still v H') ((exO (ev (lk L b)) op ty).run P w)
theorem Yl.eff {P:Program}{w0:World}{op:Op}{ty:TypeId}{L:Fm}{H:List (Nat × Obj)}{v:Value}(h:Yl P w0 op ty L H v):Eff P w0 op ty L H (Still v H):=
 ⟨h.1,fun b w hO=>h.2 H (List.Sublist.refl _) b w hO⟩
theorem T {L:Fm}{k:Nat}{v:Value}(h:fnd? L k=some v):Ev L (.tmp k) v:=Aa h
def Gd (ops:Array Oper) (L:Fm) (g:Option (Nat × Bool)) (N:Nat) (t:Bool):Prop:=
 match g with
 |none=>t=true
 |some (j,want)=>∃ s v,(ops[j]?).bind (·.dst)=some s/\s<N/\At L s (.bool v)/\t=(v==want)
theorem Ac {ops:Array Oper}{L:Fm}{N:Nat}:Gd ops L none N true:=rfl
theorem Ax {ops:Array Oper}{L:Fm}{N j s:Nat}{v:Bool}(hs:(ops[j]?).bind (·.dst)=some s)(hN:Nat.blt s N=true)(ha:At L s (.bool v)):Gd ops L (some (j,v)) N true:=⟨s,v,hs,by simpa[Nat.blt_eq] using hN,ha,by simp⟩
theorem gd_tf {ops:Array Oper}{L:Fm}{N j s:Nat}(hs:(ops[j]?).bind (·.dst)=some s)(hN:Nat.blt s N=true)(ha:At L s (.bool true)):Gd ops L (some (j,false)) N false:=⟨s,true,hs,by simpa[Nat.blt_eq] using hN,ha,rfl⟩
theorem gd_ft {ops:Array Oper}{L:Fm}{N j s:Nat}(hs:(ops[j]?).bind (·.dst)=some s)(hN:Nat.blt s N=true)(ha:At L s (.bool false)):Gd ops L (some (j,true)) N false:=⟨s,false,hs,by simpa[Nat.blt_eq] using hN,ha,rfl⟩
theorem Ky {ops:Array Oper}{L:Fm}{g:Option (Nat × Bool)}{N:Nat}{t:Bool}(h:Gd ops L g N t){a:Act}{b:Nat->Value}(hs:a.tmps.size=N)(hf:fr a=lk L b){d:Option Tmp}{op:Op}{ty:TypeId}{p:String}{af:Array Edge}:
  Region.wanted ⟨d,op,ty,p,af,g⟩ (yielded ops a.tmps)=t:=by
 unfold Region.wanted;cases g with
 |none=>exact h.symm
 |some g=>
  obtain⟨j,want⟩:=g;obtain⟨s,v,h1,h2,h3,h4⟩:=h;have h5:a.tmps[s]? =some (.bool v):=by
   have:=(congrFun hf s).trans (h3 b);unfold fr at this;have hlt:s<a.tmps.size:=by rw[hs];exact h2
   simp[Array.getD_eq_getD_getElem?,hlt] at this;simp[hlt,this]
  simp only[yielded,h1,Option.bind_some,h5,h4]
  rfl
def Gu (ops:Array Oper) (L:Fm) (g:Option (Nat × Bool)) (N:Nat):Prop:=∃ j want s,g=some (j,want)/\(ops[j]?).bind (·.dst)=some s/\s<N/\At L s undef
theorem gu_u {ops:Array Oper}{L:Fm}{g:Option (Nat × Bool)}{N:Nat}(h:Gu ops L g N){a:Act}{b:Nat->Value}(hs:a.tmps.size=N)(hf:fr a=lk L b){d:Option Tmp}{op:Op}{ty:TypeId}{p:String}{af:Array Edge}:
  Region.wanted ⟨d,op,ty,p,af,g⟩ (yielded ops a.tmps)=false:=by
 obtain⟨j,want,s,rfl,h1,h2,h3⟩:=h;have h5:a.tmps[s]? =some undef:=by
  have:=(congrFun hf s).trans (h3 b);unfold fr at this;have hlt:s<a.tmps.size:=by rw[hs];exact h2
  simp[Array.getD_eq_getD_getElem?,hlt] at this;simp[hlt,this]
 simp only[Region.wanted,yielded,h1,Option.bind_some,h5]
 rfl
def Nw (ops:Array Oper) (L:Fm) (g:Option (Nat × Bool)) (N:Nat):Prop:=Gd ops L g N false\/Gu ops L g N
theorem C0 {ops:Array Oper}{L:Fm}{N j s:Nat}(hs:(ops[j]?).bind (·.dst)=some s)(hN:Nat.blt s N=true)(ha:At L s (.bool true)):Nw ops L (some (j,false)) N:= .inl (gd_tf hs hN ha)
theorem H7 {ops:Array Oper}{L:Fm}{N j s:Nat}(hs:(ops[j]?).bind (·.dst)=some s)(hN:Nat.blt s N=true)(ha:At L s (.bool false)):Nw ops L (some (j,true)) N:= .inl (gd_ft hs hN ha)
theorem nw_u {ops:Array Oper}{L:Fm}{N j s:Nat}{want:Bool}(hs:(ops[j]?).bind (·.dst)=some s)(hN:Nat.blt s N=true)(ha:At L s undef):Nw ops L (some (j,want)) N:= .inr ⟨j,want,s,rfl,hs,by simpa[Nat.blt_eq] using hN,ha⟩
theorem nw_wanted {ops:Array Oper}{L:Fm}{g:Option (Nat × Bool)}{N:Nat}(h:Nw ops L g N){a:Act}{b:Nat->Value}(hs:a.tmps.size=N)(hf:fr a=lk L b){d:Option Tmp}{op:Op}{ty:TypeId}{p:String}{af:Array Edge}:
  Region.wanted ⟨d,op,ty,p,af,g⟩ (yielded ops a.tmps)=false:=h.elim (fun h=>Ky h hs hf) (fun h=>gu_u h hs hf)
def pt (d:Option Tmp) (v:Value) (L:Fm):Fm:=match d with|some d=>(d,v)::L|none=>L
def dOk (d:Option Tmp) (N:Nat):Bool:=match d with|some d=>Nat.blt d N|none=>true
theorem Ib {a:Act}{d:Option Tmp}{v:Value}{L:Fm}{b:Nat->Value}{N:Nat}(hd:dOk d N=true)(hs:a.tmps.size=N)(h:fr a=lk L b):fr (a.put d v)=lk (pt d v L) b:=by
 cases d with
 |none=>exact h
 |some d=>exact fr_put (by rw[hs];simpa[dOk,Nat.blt_eq] using hd) h
section
variable {P:Program} {r:Option Nat} {N:Nat} {w0:World} {Q:Post} {L:Fm} {ds:List Deferred} {H:List (Nat × Obj)} {ops:Array Oper} {l:List Oper} {d:Option Tmp} {op:Op} {ty:TypeId} {p:String} {af:Array Edge} {g:Option (Nat × Bool)} {K:Value->List (Nat × Obj)->Prop} {v:Value}
theorem Ic {Q':Exit->Act->World->Prop}{next:Act->World->Prop}{a:Act}{b:Nat->Value}{w:World}(hf:fr a=lk L b)(he:Eff P w0 op ty L H K)(hO:Own w0 H w)
  (k:∀ v H' w',K v H'->Own w0 H' w'->next (a.put d v) w'):Oper.wpIn (rd r) 0 P ⟨d,op,ty,p,af,g⟩ a w next Q':=by
 refine⟨fun f _=>Ke r f,?_⟩;rw[semAt_rd r _ he.1,Gm,hf];have h:=he.2 b w hO
 generalize (exO (ev (lk L b)) op ty).run P w=res at h;cases res with
 |ok n w'=>
  cases n<;>simp only[effO] at h<;>simp only[Oper.uponIn]
  case value v=>obtain⟨H',h1,h2⟩:=h;exact k v H' w' h2 h1
  case skip=>obtain⟨H',h1,h2⟩:=h;exact k undef H' w' h2 h1
  case enter f args=>
   refine⟨Kv r,F6 (h.mono fun e w'' ⟨v,H',he',h1,h2⟩=> ?_)⟩;subst he';exact k v H' w'' h2 h1
  case round l f tmps assign body=>
   refine⟨Kv r,roundIn_rd (h.mono fun e w'' ⟨v,H',he',h1,h2⟩=> ?_)⟩;subst he';exact k v H' w'' h2 h1
 |halt x w'=>simp only[effO] at h
theorem A9 (he:Eff P w0 op ty L H K)(hN:dOk d N=true)(hg:Gd ops L g N true)(k:∀ v H',K v H'->JL P r N w0 ops l Q (pt d v L) ds H'):JL P r N w0 ops (⟨d,op,ty,p,af,g⟩::l) Q L ds H:=fun b w hO a hs hf hd=>by
 unfold wpListIn;rw[if_pos (Ky hg hs hf)];refine Ic hf he hO fun v H' w' hk hO'=> ?_
 exact k v H' hk b w' hO' _ (by rw[D6];exact hs) (Ib hN hs hf) (by rw[Df];exact hd)
theorem A3 (hy:Yl P w0 op ty L H v)(hN:dOk d N=true)(hg:Gd ops L g N true)(k:JL P r N w0 ops l Q (pt d v L) ds H):JL P r N w0 ops (⟨d,op,ty,p,af,g⟩::l) Q L ds H:=
 A9 hy.eff hN hg (by rintro _ _ ⟨rfl,rfl⟩;exact k)
theorem y_ (hy:Yl P w0 op ty L H v)(k:JL P r N w0 ops l Q (pt d v L) ds H)(hN:dOk d N=true):JL P r N w0 ops (⟨d,op,ty,p,af,none⟩::l) Q L ds H:=A3 hy hN Ac k
theorem e_ (he:Eff P w0 op ty L H K)(k:∀ v H',K v H'->JL P r N w0 ops l Q (pt d v L) ds H')(hN:dOk d N=true):JL P r N w0 ops (⟨d,op,ty,p,af,none⟩::l) Q L ds H:=A9 he hN Ac k
theorem Lj (hN:dOk d N=true)(hg:Nw ops L g N)(k:JL P r N w0 ops l Q (pt d undef L) ds H):JL P r N w0 ops (⟨d,op,ty,p,af,g⟩::l) Q L ds H:=fun b w hO a hs hf hd=>by
 unfold wpListIn;rw[if_neg (by rw[nw_wanted hg hs hf];simp)];exact⟨fun f _=>Ke r f,k b w hO _ (by rw[D6];exact hs) (Ib hN hs hf) (by rw[Df];exact hd)⟩
theorem Bs {j s:Nat}(k:JL P r N w0 ops l Q (pt d undef L) ds H)(hN:dOk d N=true)(hs:(ops[j]?).bind (·.dst)=some s)(h2:Nat.blt s N=true)(ha:fnd? L s=some (.bool true)):JL P r N w0 ops (⟨d,op,ty,p,af,some (j,false)⟩::l) Q L ds H:=Lj hN (C0 hs h2 (Aa ha)) k
theorem B8 {j s:Nat}(k:JL P r N w0 ops l Q (pt d undef L) ds H)(hN:dOk d N=true)(hs:(ops[j]?).bind (·.dst)=some s)(h2:Nat.blt s N=true)(ha:fnd? L s=some (.bool false)):JL P r N w0 ops (⟨d,op,ty,p,af,some (j,true)⟩::l) Q L ds H:=Lj hN (H7 hs h2 (Aa ha)) k
theorem n_u {j s:Nat}{want:Bool}(k:JL P r N w0 ops l Q (pt d undef L) ds H)(hN:dOk d N=true)(hs:(ops[j]?).bind (·.dst)=some s)(h2:Nat.blt s N=true)(ha:fnd? L s=some undef):JL P r N w0 ops (⟨d,op,ty,p,af,some (j,want)⟩::l) Q L ds H:=Lj hN (nw_u hs h2 (Aa ha)) k
theorem B2 {s:Nat}{t:Bool}(ha:At L s (.bool t))(ht:t=true->JL P r N w0 ops l Q ((s, .bool true)::L) ds H)(hf:t=false->JL P r N w0 ops l Q ((s, .bool false)::L) ds H):JL P r N w0 ops l Q L ds H:=fun b w hO=>by
 have e:∀ u,t=u->lk ((s, .bool u)::L) b=lk L b:=fun u hu=>by
  subst hu;exact D8 (K:=[(s, .bool t)]) (L:=L) (b:=b) ⟨ha,trivial⟩
 cases t
 ·have:=hf U b w hO;rw[e _ rfl] at this;exact this
 ·have:=ht U b w hO;rw[e _ rfl] at this;exact this
theorem Bi {s:Nat}{p:Prop}[Decidable p] (ha:At L s (.bool (decide p)))(ht:p->JL P r N w0 ops l Q ((s, .bool true)::L) ds H)(hf: ¬ p->JL P r N w0 ops l Q ((s, .bool false)::L) ds H):JL P r N w0 ops l Q L ds H:=
 B2 ha (fun h=>ht (of_decide_eq_true h)) (fun h=>hf (of_decide_eq_false h))
end
def Cell (w0:World) (H:List (Nat × Obj)) (p:Addr) (v:Value):Prop:=∀ w,Own w0 H w->w.cell? p=some v
theorem Cell.mono {w0:World}{H H':List (Nat × Obj)}{p:Addr}{v:Value}(h:Cell w0 H p v)(hs:H.Sublist H'):Cell w0 H' p v:=fun w hO=>h w (hO.sub hs)
theorem B6 {w0:World}{H:List (Nat × Obj)}{n i:Nat}{l:List Value}{t:TypeId}{v:Value}(hf:Fnd H n (Cl l t))(hi:l[i]? =some v):Cell w0 H ⟨n,i,none⟩ v:=fun w hO=>hO.cell hf hi
def Cells (w0:World) (H:List (Nat × Obj)) (b off:Nat) (vs:List Value):Prop:=∀ i v,vs[i]? =some v->Cell w0 H ⟨b,off+i,none⟩ v
theorem Cells.mono {w0:World}{H H':List (Nat × Obj)}{b off:Nat}{vs:List Value}(h:Cells w0 H b off vs)(hs:H.Sublist H'):Cells w0 H' b off vs:=fun i v hi=>(h i v hi).mono hs
theorem Dn {w0:World}{H:List (Nat × Obj)}{n:Nat}{l:List Value}{t:TypeId}(hf:Fnd H n (Cl l t)):Cells w0 H n 0 l:=fun i v hi=>by rw[Nat.zero_add];exact B6 hf hi
theorem c_o {w0:World}{H:List (Nat × Obj)}{n i:Nat}{l:List Value}{t:TypeId}{v:Value}(hf:Fnd H n (Cl l t):=by(repeat (first|exact Ba|refine Av ?_|refine A6 ?_));done)(hi:nth? l i=some v:=by rfl):Cell w0 H ⟨n,i,none⟩ v:=B6 hf (Kd hi)
theorem A2 {w0:World}{H:List (Nat × Obj)}{n:Nat}{l:List Value}{t:TypeId}(hf:Fnd H n (Cl l t):=by(repeat (first|exact Ba|refine Av ?_|refine A6 ?_));done):Cells w0 H n 0 l:=Dn hf
theorem c_m {w0:World}{H H':List (Nat × Obj)}{p:Addr}{v:Value}(h:Cell w0 H p v)(hs:H.Sublist H':=by exact sbt):Cell w0 H' p v:=h.mono hs
theorem Cw {w0:World}{H H':List (Nat × Obj)}{b off:Nat}{vs:List Value}(h:Cells w0 H b off vs)(hs:H.Sublist H':=by exact sbt):Cells w0 H' b off vs:=h.mono hs
def oneB:Value->Bool
 | .agg _=>false
 | .tuple _=>false
 |_=>true
inductive Cs:Value->List Value->Prop
 |agg {l}:Cs (.agg l.toArray) l
 |one {v}:oneB v=true->Cs v [v]
theorem cs_ {v:Value}{l:List Value}(h:Cs v l:=by first|exact .agg|exact .one U):Cs v l:=h
theorem Cs.cells {v:Value}{l:List Value}(h:Cs v l):v.cells=l.toArray:=by
 cases h with
 |agg=>rfl
 |one h=>cases v<;>first|rfl|cases h
section
variable {P:Program} {w0:World} {L:Fm} {H:List (Nat × Obj)} {ty:TypeId}
theorem Kf {op:Op}{v:Value}(hd:Op.isDefer op=false)(h:∀ H',H.Sublist H'->∀ b w,Own w0 H' w->(exO (ev (lk L b)) op ty).run P w= .ok (.value v) w):Yl P w0 op ty L H v:=
 ⟨hd,fun H' hs b w hO=>by rw[h H' hs b w hO];exact⟨H',hO,rfl,rfl⟩⟩
theorem B3 {op:Op}{v:Value}(hd:Op.isDefer op=false)(h:∀ b w,(exO (ev (lk L b)) op ty).run P w= .ok (.value v) w):Yl P w0 op ty L H v:=Kf hd fun _ _ b w _=>h b w
theorem Af {x:Operand}{v:Value}(h:Ev L x v):Yl P w0 (.move x) ty L H v:=B3 rfl fun b w=>by simp[exO,execOp,h b]
theorem Ag {x:Operand}{v:Value}(h:Ev L x v):Yl P w0 (.assign x) ty L H v:=B3 rfl fun b w=>by simp[exO,execOp,h b]
theorem Bh {c x y:Operand}{v:Value}(hc:Ev L c (.bool true))(h:Ev L x v):Yl P w0 (.pick c x y) ty L H v:=B3 rfl fun b w=>by simp[exO,execOp,h b,hc b,asBool,Sem.run_bind,Result.andThen]
theorem Bm {c x y:Operand}{v:Value}(hc:Ev L c (.bool false))(h:Ev L y v):Yl P w0 (.pick c x y) ty L H v:=B3 rfl fun b w=>by simp[exO,execOp,h b,hc b,asBool,Sem.run_bind,Result.andThen]
theorem Cc {x:Operand}{t:Bool}(h:Ev L x (.bool t)){xt:TypeId}:Yl P w0 (.unOp .not xt x) ty L H (.bool !t):=B3 rfl fun b w=>by simp[exO,execOp,h b,Op.unary,Sem.run_bind,Result.andThen]
theorem B7 {x:Operand}{p:Prop}[Decidable p] (h:Ev L x (.bool (decide p))){xt:TypeId}:Yl P w0 (.unOp .not xt x) ty L H (.bool (decide ¬ p)):=B3 rfl fun b w=>by simp[exO,execOp,h b,Op.unary,Sem.run_bind,Result.andThen]
section ints
variable {x y:Operand} {a c:Int} {xt yt:TypeId} {k:IntKind}
theorem Bd (hx:Ev L x (.int .i64 a))(hy:Ev L y (.int .i64 c))(h: -9223372036854775808<=a+c/\a+c<=9223372036854775807):Yl P w0 (.binOp .add xt x y yt) ty L H (.int .i64 (a+c)):=B3 U fun b w=>by
 simp[exO,execOp,hx b,hy b,binOp,eqGuard,Op.intArith,IntWalk.i64_in _ h,Sem.run_bind,Result.andThen]
theorem Ed (hx:Ev L x (.int .i64 a))(hy:Ev L y (.int .i64 c))(h: -9223372036854775808<=a - c/\a - c<=9223372036854775807):Yl P w0 (.binOp .sub xt x y yt) ty L H (.int .i64 (a - c)):=B3 U fun b w=>by
 simp[exO,execOp,hx b,hy b,binOp,eqGuard,Op.intArith,IntWalk.i64_in _ h,Sem.run_bind,Result.andThen]
theorem Ci (hx:Ev L x (.int k a))(hy:Ev L y (.int k c)):Yl P w0 (.binOp .lss xt x y yt) ty L H (.bool (decide (a<c))):=B3 U fun b w=>by
 simp[exO,execOp,hx b,hy b,binOp,eqGuard,Op.intCmp,Sem.run_bind,Result.andThen]
theorem Ee (hx:Ev L x (.int k a))(hy:Ev L y (.int k c)):Yl P w0 (.binOp .leq xt x y yt) ty L H (.bool (decide (a<=c))):=B3 U fun b w=>by
 simp[exO,execOp,hx b,hy b,binOp,eqGuard,Op.intCmp,Sem.run_bind,Result.andThen]
theorem Dx (hx:Ev L x (.int k a))(hy:Ev L y (.int k c)):Yl P w0 (.binOp .gtr xt x y yt) ty L H (.bool (decide (c<a))):=B3 U fun b w=>by
 simp[exO,execOp,hx b,hy b,binOp,eqGuard,Op.intCmp,Sem.run_bind,Result.andThen]
theorem Dy (hx:Ev L x (.int k a))(hy:Ev L y (.int k c)):Yl P w0 (.binOp .geq xt x y yt) ty L H (.bool (decide (c<=a))):=B3 U fun b w=>by
 simp[exO,execOp,hx b,hy b,binOp,eqGuard,Op.intCmp,Sem.run_bind,Result.andThen]
theorem D9 (hx:Ev L x (.int k a))(hy:Ev L y (.int k c)):Yl P w0 (.binOp .eql xt x y yt) ty L H (.bool (decide (a=c))):=B3 U fun b w=>by
 have e:(a==c)=decide (a=c):=rfl;simp[exO,execOp,hx b,hy b,binOp,eqGuard,Op.intCmp,Sem.run_bind,Result.andThen,e]
theorem F7 (hx:Ev L x (.int k a))(hy:Ev L y (.int k c)):Yl P w0 (.binOp .neq xt x y yt) ty L H (.bool (decide (¬ a=c))):=B3 U fun b w=>by
 have e:(a !=c)=decide (¬ a=c):=by by_cases h:a=c<;>simp[h]
 simp[exO,execOp,hx b,hy b,binOp,eqGuard,Op.intCmp,Sem.run_bind,Result.andThen,e]
theorem yl_quo (hx:Ev L x (.int .i64 a))(hy:Ev L y (.int .i64 c))(h:0<=a/\a<=9223372036854775807/\1<=c):Yl P w0 (.binOp .quo xt x y yt) ty L H (.int .i64 (a / c)):=B3 U fun b w=>by
 have hc:c≠0:=by omega
 simp[exO,execOp,hx b,hy b,binOp,eqGuard,Op.intDiv,hc,IntWalk.i64_quo _ _ h,Sem.run_bind,Result.andThen]
theorem yl_rem (hx:Ev L x (.int k a))(hy:Ev L y (.int k c))(h:0<=a/\1<=c):Yl P w0 (.binOp .rem xt x y yt) ty L H (.int k (a % c)):=B3 U fun b w=>by
 have hc:c≠0:=by omega
 have e:a.tmod c=a % c:=Int.tmod_eq_emod_of_nonneg h.1;simp[exO,execOp,hx b,hy b,binOp,eqGuard,Op.intDiv,hc,e,Sem.run_bind,Result.andThen]
end ints
section more
variable {x y:Operand} {xt t:TypeId}
theorem Cd {e:TypeId}{q:Option Addr}{n c:Nat}(hx:Ev L x (.slice q n c))(ht:∀ w,(underlying t).run P w= .ok (.slice e) w):Yl P w0 (.call {callee:= .builtin .len,args:= #[x],argTypes:= #[t]}) ty L H (.int .i64 n):=B3 U fun b w=>by
 simp[exO,execOp,resolve,invoke,builtin,Builtin.len_,hx b,ht,goInt,Sem.run_bind,Result.andThen]
theorem Gn {s:ByteArray}(hx:Ev L x (.string s))(ht:∀ w,(underlying t).run P w= .ok .string w):Yl P w0 (.call {callee:= .builtin .len,args:= #[x],argTypes:= #[t]}) ty L H (.int .i64 s.size):=B3 U fun b w=>by
 simp[exO,execOp,resolve,invoke,builtin,Builtin.len_,hx b,ht,goInt,Sem.run_bind,Result.andThen]
theorem Kg {a c:Int}(hx:Ev L x (.int .i64 a))(hy:Ev L y (.int .i64 c)){ts:Array TypeId}:Yl P w0 (.call {callee:= .builtin .max,args:= #[x,y],argTypes:=ts}) ty L H (.int .i64 (max a c)):=B3 U fun b w=>by
 have e:(if c>a then c else a)=max a c:=by rw[Int.max_def];split<;>split<;>omega
 simp[exO,execOp,resolve,invoke,builtin,Builtin.max_,Builtin.max2,hx b,hy b,e,Sem.run_bind,Result.andThen]
theorem yl_min {a c:Int}(hx:Ev L x (.int .i64 a))(hy:Ev L y (.int .i64 c)){ts:Array TypeId}:Yl P w0 (.call {callee:= .builtin .min,args:= #[x,y],argTypes:=ts}) ty L H (.int .i64 (min a c)):=B3 U fun b w=>by
 have e:(if c<a then c else a)=min a c:=by rw[Int.min_def];split<;>split<;>omega
 simp[exO,execOp,resolve,invoke,builtin,Builtin.min_,Builtin.min2,hx b,hy b,e,Sem.run_bind,Result.andThen]
theorem Bx {l:List Value}{i:Nat}{v:Value}(hx:Ev L x (.tuple l.toArray))(hi:nth? l i=some v):Yl P w0 (.extract x i) ty L H v:=B3 U fun b w=>by
 simp[exO,execOp,Instr.extract,hx b,Kd hi,Sem.run_bind,Result.andThen]
theorem Fk {s:ByteArray}{k:Nat}(hx:Ev L x (.string s))(hy:Ev L y (.int .i64 (k:Int)))(ht:∀ w,(underlying t).run P w= .ok .string w)(h:k<s.size):Yl P w0 (.index t x y) ty L H (.int .u8 (s[k].toNat:Int)):=B3 U fun b w=>by
 have h0:(0:Int)<=k:=by omega
 simp[exO,execOp,hx b,hy b,Instr.index,asIntOf,ht,h0,h,Sem.run_bind,Result.andThen]
theorem yl_eqS {s u:ByteArray}(hx:Ev L x (.string s))(hy:Ev L y (.string u)){yt:TypeId}:Yl P w0 (.binOp .eql t x y yt) ty L H (.bool (s.toList==u.toList)):=B3 U fun b w=>by
 simp[exO,execOp,hx b,hy b,binOp,eqGuard,Op.stringOp,Sem.run_bind,Result.andThen]
theorem yl_neqA {xs ys:Array Value}{q:Prop}[Decidable q] (hx:Ev L x (.agg xs))(hy:Ev L y (.agg ys))(hg:P.eqGuardType P.depth t=false)(he:∀ w,(Op.equal t (.agg xs) (.agg ys)).run P w= .ok (decide q) w){yt:TypeId}:Yl P w0 (.binOp .neq t x y yt) ty L H (.bool (decide ¬ q)):=B3 U fun b w=>by
 have hr:∀ w,Sem.run P program w= .ok P w:=fun w=>rfl
 simp[exO,execOp,hx b,hy b,binOp,eqGuard,hg,he,hr,Sem.run_bind,Result.andThen]
theorem Bt {f b o o':Nat}(hx:Ev L x (.pointer (some ⟨b,o,none⟩)))(hf:∀ b o w,(Instr.fieldAt t (.pointer (some ⟨b,o,none⟩)) f).run P w= .ok (.pointer (some ⟨b,o+o',none⟩)) w):Yl P w0 (.fieldAddr t x f) ty L H (.pointer (some ⟨b,o+o',none⟩)):=B3 U fun b w=>by
 simp[exO,execOp,hx b,hf,Sem.run_bind,Result.andThen]
theorem Cj {f b o:Nat}(hx:Ev L x (.pointer (some ⟨b,o,none⟩)))(hf:∀ b o w,(Instr.fieldAt t (.pointer (some ⟨b,o,none⟩)) f).run P w= .ok (.pointer (some ⟨b,o,none⟩)) w):Yl P w0 (.fieldAddr t x f) ty L H (.pointer (some ⟨b,o,none⟩)):=B3 U fun b w=>by
 simp[exO,execOp,hx b,hf,Sem.run_bind,Result.andThen]
theorem Kh (b o n:Nat):(⟨b,o,none⟩:Addr).add n=⟨b,o+n,none⟩:=by unfold Addr.add;split<;>simp_all
theorem yl_ixN {e:TypeId}{b o n c sz k:Nat}(hx:Ev L x (.slice (some ⟨b,o,none⟩) n c))(hy:Ev L y (.int .i64 (k:Int)))(ht:∀ w,(underlying t).run P w= .ok (.slice e) w)(hz:∀ w,(sizeOf e).run P w= .ok sz w)(h:k<n):Yl P w0 (.indexAddr t x y) ty L H (.pointer (some ⟨b,o+k*sz,none⟩)):=B3 U fun b w=>by
 have h0:(0:Int)<=k/\(k:Int)<n:=by omega
 simp[exO,execOp,hx b,hy b,Instr.indexAt,asIntOf,ht,hz,h,Kh,Sem.run_bind,Result.andThen]
theorem yl_ixI {e:TypeId}{b o n c sz:Nat}{i:Int}(hx:Ev L x (.slice (some ⟨b,o,none⟩) n c))(hy:Ev L y (.int .i64 i))(ht:∀ w,(underlying t).run P w= .ok (.slice e) w)(hz:∀ w,(sizeOf e).run P w= .ok sz w)(h:0<=i/\i<n):Yl P w0 (.indexAddr t x y) ty L H (.pointer (some ⟨b,o+i.toNat*sz,none⟩)):=B3 U fun b w=>by
 simp[exO,execOp,hx b,hy b,Instr.indexAt,asIntOf,ht,hz,h,Kh,Sem.run_bind,Result.andThen]
def bq:Option Addr->Nat
 |some a=>a.block
 |none=>0
def oq:Option Addr->Nat
 |some a=>a.off
 |none=>0
def Bas (q:Option Addr):Prop:=q=some ⟨bq q,oq q,none⟩
theorem Bf {e:TypeId}{q:Option Addr}{n c sz k:Nat}(hx:Ev L x (.slice q n c))(hy:Ev L y (.int .i64 (k:Int)))(ht:∀ w,(underlying t).run P w= .ok (.slice e) w)(hz:∀ w,(sizeOf e).run P w= .ok sz w)(h:k<n)(hq:Bas q):Yl P w0 (.indexAddr t x y) ty L H (.pointer (some ⟨bq q,oq q+k*sz,none⟩)):=
 yl_ixN (by rw[<- hq];exact hx) hy ht hz h
theorem Bl {e:TypeId}{q:Option Addr}{n c sz:Nat}{i:Int}(hx:Ev L x (.slice q n c))(hy:Ev L y (.int .i64 i))(ht:∀ w,(underlying t).run P w= .ok (.slice e) w)(hz:∀ w,(sizeOf e).run P w= .ok sz w)(h:0<=i/\i<n)(hq:Bas q):Yl P w0 (.indexAddr t x y) ty L H (.pointer (some ⟨bq q,oq q+i.toNat*sz,none⟩)):=
 yl_ixI (by rw[<- hq];exact hx) hy ht hz h
theorem Ab {p:Addr}{v:Value}(hx:Ev L x (.pointer (some p)))(ht:∀ w,(isAgg t).run P w= .ok false w)(hc:Cell w0 H p v):Yl P w0 (.load t x) ty L H v:=Kf U fun H' hs b w hO=>by
 have:=hc.mono hs w hO;simp[exO,execOp,hx b,Instr.loadAt,Instr.sureAddr,loadVar,ht,load,Sem.run,this,Sem.run_bind,Result.andThen]
theorem Dv {b o:Nat}{w:World}:∀ (vs:List Value) (i:Nat) (acc:Array Value),(∀ j v,vs[j]? =some v->w.cell? ⟨b,o+(i+j),none⟩=some v)->(loadCellsFrom ⟨b,o,none⟩ i vs.length acc).run P w= .ok (acc++vs.toArray) w
 |[],i,acc,_=>by simp[loadCellsFrom]
 |v::vs,i,acc,h=>by
  have h0:=h 0 v U;rw[Nat.add_zero] at h0;have ih:=Dv vs (i+1) (acc.push v) (fun j u hj=>by rw[show i+1+j=i+(j+1) by omega];exact h (j+1) u (by simpa using hj));simp[loadCellsFrom,load,Sem.run_bind,Sem.run,Result.andThen,Kh,h0,ih]
theorem Ai {b o n:Nat}{vs:List Value}(hx:Ev L x (.pointer (some ⟨b,o,none⟩)))(ht:∀ w,(isAgg t).run P w= .ok true w)(hz:∀ w,(sizeOf t).run P w= .ok n w)(hn:vs.length=n)(hc:Cells w0 H b o vs):Yl P w0 (.load t x) ty L H (.agg vs.toArray):=Kf U fun H' hs b' w hO=>by
 have:=Dv (P:=P) (b:=b) (o:=o) (w:=w) vs 0 #[] (fun j v hj=>by rw[Nat.zero_add];exact(hc j v hj).mono hs w hO);rw[hn] at this;simp[exO,execOp,hx b',Instr.loadAt,Instr.sureAddr,loadVar,ht,hz,loadCells,this,Sem.run_bind,Result.andThen]
end more
end
def setL:List Value->Nat->List Value->List Value
 |l,_,[]=>l
 |l,o,v::r=>setL (l.set o v) (o+1) r
theorem setL_all:∀ (vs pre l:List Value),l.length=vs.length->setL (pre++l) pre.length vs=pre++vs
 |[],pre,l,h=>by have:l=[]:=List.eq_nil_of_length_eq_zero h;simp[setL,this]
 |v::vs,pre,[],h=>by simp at h
 |v::vs,pre,x::l,h=>by
  rw[setL];have e:(pre++x::l).set pre.length v=(pre++[v])++l:=by simp
  rw[e];have:=setL_all vs (pre++[v]) l (by simpa using h);simp only[List.length_append,List.length_cons,List.length_nil,Nat.zero_add] at this;rw[this];simp
theorem setL_whole {l vs:List Value}(h:l.length=vs.length):setL l 0 vs=vs:=by simpa using setL_all vs [] l h
theorem putObj_self {w:World}{n:Nat}{o:Obj}(h:w.heap[n]? =some o):w.putObj n o=w:=by
 obtain⟨hlt,he⟩:=Array.getElem?_eq_some_iff.1 h;unfold World.putObj
 congr 1
 apply Array.ext
 ·simp
 ·intro k h1 h2
  by_cases hk:n=k
  ·subst hk;simp[he]
  ·rw[Array.getElem_setIfInBounds_ne (h:=hk)]
theorem putObj_put (w:World)(n:Nat)(o o':Obj):(w.putObj n o).putObj n o'=w.putObj n o':=by
 unfold World.putObj;simp
theorem run_storeCells {P:Program}{n o:Nat}{t:TypeId}:∀ (vs:List Value) (i:Nat) (l:List Value) (w:World),w.heap[n]? =some (Cl l t)->(∀ v∈vs,oneB v=true)->o+i+vs.length<=l.length->
  (storeCells ⟨n,o,none⟩ vs i).run P w= .ok () (w.putObj n (Cl (setL l (o+i) vs) t))
 |[],i,l,w,h,_,_=>by rw[setL,putObj_self h];simp[storeCells]
 |v::vs,i,l,w,h,h1,hl=>by
  have hv:=h1 v (by simp);simp only[List.length_cons] at hl;have hc:w.cell? ⟨n,o+i,none⟩=some (l[o+i]'qom):=by
   simp[World.cell?,h]
  have hf:w.frozen? ⟨n,o+i,none⟩=false:=by simp[World.frozen?,h]
  have hlt:n<w.heap.size:=(Array.getElem?_eq_some_iff.1 h).1;have e:w.setCell ⟨n,o+i,none⟩ v=w.putObj n (Cl (l.set (o+i) v) t):=by rw[setCell_put v h];simp
  have ih:=run_storeCells (P:=P) (o:=o) (n:=n) (t:=t) vs (i+1) (l.set (o+i) v) (w.putObj n (Cl (l.set (o+i) v) t)) (World.putObj_heap_same hlt) (fun u hu=>h1 u (by simp[hu])) (by rw[List.length_set];omega);rw[putObj_put,<- Nat.add_assoc] at ih;have hs:(store ((⟨n,o,none⟩:Addr).add i) v).run P w= .ok () (w.putObj n (Cl (l.set (o+i) v) t)):=by
   rw[Kh];unfold store;cases v<;>first|(simp[oneB] at hv;done)|(simp only[Sem.run,hc,hf,e];simp)
  rw[storeCells,Sem.run_bind,hs];simp only[Result.andThen];rw[ih,setL]
section
variable {P:Program} {w0:World} {L:Fm} {H:List (Nat × Obj)} {ty:TypeId} {x y:Operand} {t:TypeId}
abbrev New (o:Obj) (H:List (Nat × Obj)):Value->List (Nat × Obj)->Prop:=fun v H'=>∃ n,v= .pointer (some ⟨n,0,none⟩)/\H'=(n,o)::H
theorem F8 (w:World)(t:TypeId)(l:List Value):(newRow t l.toArray).run P w= .ok ⟨w.heap.size,0,none⟩ (w.alloc (Cl l t)):=by
 simp[newRow,newObj,Sem.run,Sem.run_bind,Result.andThen]
theorem A0 {v:Value}{l:List Value}(hx:Ev L x v)(hc:Cs v l):Eff P w0 (.box t x) ty L H (New (Cl l t) H):=
 ⟨rfl,fun b w hO=>by
  have:(exO (ev (lk L b)) (.box t x) ty).run P w= .ok (.value (.pointer (some ⟨w.heap.size,0,none⟩))) (w.alloc (Cl l t)):=by
   simp[exO,execOp,hx b,Instr.box,newVar,hc.cells,F8,Sem.run_bind,Result.andThen]
  rw[this];exact⟨_,hO.alloc _,_,rfl,rfl⟩⟩
theorem Ap {v:Value}{l:List Value}(hz:∀ w,(zeroValue t).run P w= .ok v w)(hc:Cs v l):Eff P w0 (.alloc t) ty L H (New (Cl l t) H):=
 ⟨rfl,fun b w hO=>by
  have:(exO (ev (lk L b)) (.alloc t) ty).run P w= .ok (.value (.pointer (some ⟨w.heap.size,0,none⟩))) (w.alloc (Cl l t)):=by
   simp[exO,execOp,Instr.alloc,hz,newVar,hc.cells,F8,Sem.run_bind,Result.andThen]
  rw[this];exact⟨_,hO.alloc _,_,rfl,rfl⟩⟩
theorem E4 {n o:Nat}{v:Value}{vs l:List Value}{t':TypeId}{H':List (Nat × Obj)}(hx:Ev L x (.pointer (some ⟨n,o,none⟩)))(hy:Ev L y v)(hc:Cs v vs)(hv:vs.all oneB=true)(hz:∀ w,(sizeOf t).run P w= .ok vs.length w)
  (hu:Upd H n (Cl l t') (Cl (setL l o vs) t') H') (hl:o+vs.length<=l.length):Eff P w0 (.store t x y) ty L H (Still undef H'):=
 ⟨rfl,fun b w hO=>by
  have h1:=run_storeCells (P:=P) (o:=o) vs 0 l w (hO.has _ hu.mem) (fun u hu'=>List.all_eq_true.1 hv u hu') (by simpa using hl);have:(exO (ev (lk L b)) (.store t x y) ty).run P w= .ok .skip (w.putObj n (Cl (setL l o vs) t')):=by
   simp[exO,execOp,hx b,hy b,Instr.storeAt,Instr.sureAddr,storeVar,hc.cells,hz,h1,Sem.run_bind,Result.andThen]
  rw[this];exact⟨_,hO.put hu,rfl,rfl⟩⟩
theorem Ar {n m:Nat}{v:Value}{vs l:List Value}{t':TypeId}{H':List (Nat × Obj)}(hx:Ev L x (.pointer (some ⟨n,0,none⟩)))(hy:Ev L y v)(hz:∀ w,(sizeOf t).run P w= .ok m w)(hc:Cs v vs:=by first|exact .agg|exact .one U)(hv:vs.all oneB=true:=by rfl)(hm:vs.length=m:=by rfl)
  (hu:Upd H n (Cl l t') (Cl vs t') H':=by(repeat (first|exact Upd.h|apply Upd.t|apply D7));done) (hl:l.length=vs.length:=by rfl):Eff P w0 (.store t x y) ty L H (Still undef H'):=
 E4 hx hy hc hv (by rw[hm];exact hz) (by rw[setL_whole hl];exact hu) qom
inductive SetN:List Value->Nat->Value->List Value->Prop
 |h {x l v}:SetN (x::l) 0 v (v::l)
 |t {x l i v l'}:SetN l i v l'->SetN (x::l) (i+1) v (x::l')
def setN? :List Value->Nat->Value->Option (List Value)
 |[],_,_=>none
 |_::l,0,v=>some (v::l)
 |x::l,i+1,v=>match setN? l i v with
  |some l'=>some (x::l')
  |none=>none
theorem F9:∀ {l:List Value} {i:Nat} {v:Value} {l':List Value},setN? l i v=some l'->SetN l i v l'
 |[],_,_,_,h=>by cases h
 |x::l,0,v,l',h=>by simp[setN?] at h;subst h;exact .h
 |x::l,i+1,v,l',h=>by
  rw[setN?] at h;cases hs:setN? l i v with
  |none=>simp[hs] at h
  |some m=>simp[hs] at h;subst h;exact .t (F9 hs)
theorem SetN.eq {l l':List Value}{i:Nat}{v:Value}(h:SetN l i v l'):l.set i v=l'/\i<l.length:=by
 induction h with
 |h=>simp
 |t _ ih=>simp[ih.1,ih.2]
theorem Dz {n o:Nat}{v:Value}{l l':List Value}{t':TypeId}{H':List (Nat × Obj)}(hx:Ev L x (.pointer (some ⟨n,o,none⟩)))(hy:Ev L y v)(hv:oneB v=true)(hz:∀ w,(sizeOf t).run P w= .ok 1 w)
  (hs:SetN l o v l') (hu:Upd H n (Cl l t') (Cl l' t') H'):Eff P w0 (.store t x y) ty L H (Still undef H'):=
 E4 (vs:=[v]) hx hy (.one hv) (by simpa using hv) hz (by simp only[setL];rw[hs.eq.1];exact hu) (by have:=hs.eq.2;simp;omega)
theorem B1 {n o:Nat}{v:Value}{l l':List Value}{t':TypeId}{H':List (Nat × Obj)}(hx:Ev L x (.pointer (some ⟨n,o,none⟩)))(hy:Ev L y v)(hv:oneB v=true)(hz:∀ w,(sizeOf t).run P w= .ok 1 w)
  (hs:setN? l o v=some l':=by rfl) (hu:Upd H n (Cl l t') (Cl l' t') H':=by(repeat (first|exact Upd.h|apply Upd.t|apply D7));done):Eff P w0 (.store t x y) ty L H (Still undef H'):=Dz hx hy hv hz (F9 hs) hu
inductive Evs (L:Fm):List Operand->List Value->Prop
 |nil:Evs L [] []
 |cons {x v xs vs}:Ev L x v->Evs L xs vs->Evs L (x::xs) (v::vs)
theorem Evs.map {L:Fm}{xs:List Operand}{vs:List Value}(h:Evs L xs vs)(b:Nat->Value):xs.map (ev (lk L b))=vs:=by
 induction h with
 |nil=>rfl
 |cons h _ ih=>simp[h b,ih]
theorem Id {f:FuncId}{xs:List Operand}{vs:List Value}{ts:Array TypeId}{cap:List Value}{b:Nat->Value}{w:World}(hx:Ev L x (.func (.func f) #[] cap.toArray))(ha:Evs L xs vs)(hf:∀ args w,(callFunc f args).run P w= .ok (.enter f args) w):
  (exO (ev (lk L b)) (.call {callee:= .value x,args:=xs.toArray,argTypes:=ts}) ty).run P w= .ok (.enter f (vs++cap).toArray) w:=by
 have:=ha.map b;simp[exO,execOp,resolve,invoke,Deferred.ofValue,hx b,this,hf,Sem.run_bind,Result.andThen]
theorem A1 {f:FuncId}{xs:List Operand}{vs:List Value}{ts:Array TypeId}{K:Value->List (Nat × Obj)->Prop}(ha:Evs L xs vs)(hf:∀ args w,(callFunc f args).run P w= .ok (.enter f args) w)(hs:FSpec P w0 f vs.toArray H K):
  Eff P w0 (.call {callee:= .value (.func f),args:=xs.toArray,argTypes:=ts}) ty L H K:=
 ⟨rfl,fun b w hO=>by rw[Id (cap:=[]) (Ku) ha hf];simpa[effO] using hs w hO⟩
theorem Bb {f:FuncId}{xs:List Operand}{vs:List Value}{ts:Array TypeId}{v:Value}(ha:Evs L xs vs)(hf:∀ args w,(callFunc f args).run P w= .ok (.enter f args) w)(hs:∀ H',H.Sublist H'->FSpec P w0 f vs.toArray H' (Still v H')):
  Yl P w0 (.call {callee:= .value (.func f),args:=xs.toArray,argTypes:=ts}) ty L H v:=
 ⟨rfl,fun H' h b w hO=>by rw[Id (cap:=[]) (Ku) ha hf];simpa[effO] using hs H' h w hO⟩
theorem Ef {f:FuncId}{xs:List Operand}{vs:List Value}{cap:List Value}{ts:Array TypeId}{K:Value->List (Nat × Obj)->Prop}(hx:Ev L x (.func (.func f) #[] cap.toArray))(ha:Evs L xs vs)(hf:∀ args w,(callFunc f args).run P w= .ok (.enter f args) w)(hs:FSpec P w0 f (vs++cap).toArray H K):
  Eff P w0 (.call {callee:= .value x,args:=xs.toArray,argTypes:=ts}) ty L H K:=
 ⟨rfl,fun b w hO=>by rw[Id hx ha hf];simpa[effO] using hs w hO⟩
theorem C1 {f:FuncId}{xs:List Operand}{vs:List Value}{cap:List Value}{ts:Array TypeId}{v:Value}(hx:Ev L x (.func (.func f) #[] cap.toArray))(ha:Evs L xs vs)(hf:∀ args w,(callFunc f args).run P w= .ok (.enter f args) w)(hs:∀ H',H.Sublist H'->FSpec P w0 f (vs++cap).toArray H' (Still v H')):
  Yl P w0 (.call {callee:= .value x,args:=xs.toArray,argTypes:=ts}) ty L H v:=
 ⟨rfl,fun H' h b w hO=>by rw[Id hx ha hf];simpa[effO] using hs H' h w hO⟩
inductive Evp (L:Fm):List (Nat × Operand)->List (Nat × Value)->Prop
 |nil:Evp L [] []
 |cons {i x v xs vs}:Ev L x v->Evp L xs vs->Evp L ((i,x)::xs) ((i,v)::vs)
theorem Evp.map {L:Fm}{xs:List (Nat × Operand)}{vs:List (Nat × Value)}(h:Evp L xs vs)(b:Nat->Value):xs.map (fun (p:Nat × Operand)=>(p.1,ev (lk L b) p.2))=vs:=by
 induction h with
 |nil=>rfl
 |cons h _ ih=>simp[h b,ih]
theorem Bg {ps:List (Nat × Operand)}{vs:List (Nat × Value)}{v:Value}(hp:Evp L ps vs)(hb:∀ w,(Instr.build t vs.toArray).run P w= .ok v w):Yl P w0 (.build t ps.toArray) ty L H v:=B3 U fun b w=>by
 have:=hp.map b;simp[exO,execOp,this,hb,Sem.run_bind,Result.andThen]
theorem Cg {f:FuncId}{cs:List Operand}{vs:List Value}(hc:Evs L cs vs):Yl P w0 (.makeFunc (.func f) #[] cs.toArray) ty L H (.func (.func f) #[] vs.toArray):=B3 U fun b w=>by
 have:=hc.map b;simp[exO,execOp,Instr.makeFunc,this,Sem.run_bind,Result.andThen]
theorem Dd:Eff P w0 (.makeMap t none) ty L H (fun v H'=>∃ n,v= .map (some n)/\H'=(n, .map #[] 0)::H):=
 ⟨rfl,fun b w hO=>by
  have:(exO (ev (lk L b)) (.makeMap t none) ty).run P w= .ok (.value (.map (some w.heap.size))) (w.alloc (.map #[] 0)):=by
   simp[exO,execOp,Instr.makeMap,newObj,Sem.run,Sem.run_bind,Result.andThen]
  rw[this];exact⟨_,hO.alloc _,_,rfl,rfl⟩⟩
end
def ini:Nat->List Value->Fm
 |_,[]=>[]
 |i,v::r=>(i,v)::ini (i+1) r
theorem ini_lk:∀ (vs:List Value) (i k:Nat) (b:Nat->Value),lk (ini i vs) b k=if i<=k then (match vs[k - i]? with|some v=>v|none=>b k) else b k
 |[],i,k,b=>by simp[ini,lk]
 |v::vs,i,k,b=>by
  rw[ini,lk];cases h:Nat.beq i k
  ·have hne:i≠k:=fun e=>by rw[e,Nat.beq_refl] at h;cases h
   simp only[ini_lk vs (i+1) k b]
   by_cases hik:i+1<=k
   ·rw[if_pos hik,if_pos qom,show k - i=(k - (i+1))+1 by omega];simp
   ·rw[if_neg hik,if_neg qom]
  ·have:=Nat.eq_of_beq_eq_true h;subst this;simp
def Res (P:Program) (fn:Func) (σ:Nat->Value) (w:World) (v:Value):Prop:=∀ tmps:Array Value,(fun k=>tmps.getD k undef)=σ->(results fn tmps).run P w= .ok v w
def RetW (P:Program) (fn:Func) (w0:World) (K:Value->List (Nat × Obj)->Prop) (σ:Nat->Value):List Deferred->World->Prop
 |[],w=>∃ v H,Res P fn σ w v/\Own w0 H w/\K v H
 |d::ds,w=>∃ D w',d.target= .collected D/\(Instr.takeDeferred D).run P w= .ok [] w'/\RetW P fn w0 K σ ds w'
def retQ (P:Program) (fn:Func) (w0:World) (K:Value->List (Nat × Obj)->Prop):Post
 | .normal,σ,ds,w=>RetW P fn w0 K σ ds w
 | .ret,σ,ds,w=>RetW P fn w0 K σ ds w
 |_,_,_,_=>False
theorem leaves_of {P:Program}{fn:Func}{w0:World}{K:Value->List (Nat × Obj)->Prop}{tmps:Array Value}:∀ {ds:List Deferred} {w:World},RetW P fn w0 K (fun k=>tmps.getD k undef) ds w->
  LeavesInM Fence.wide 0 P fn tmps (fun e w'=>∃ v H',e= .returned v/\Own w0 H' w'/\K v H') ds .returning w
 |[],w,⟨v,H,hr,hO,hK⟩=>by
  unfold LeavesInM LeavesIn;exact⟨v,hr _ U,v,H,rfl,hO,hK⟩
 |d::ds,w,⟨D,w',h1,h2,h3⟩=>by
  unfold LeavesInM;exact⟨by simp, .inl ⟨D,w',h1,h2,leaves_of h3⟩⟩
theorem Az {P:Program}{w0:World}{f:FuncId}{fn:Func}{c:Code}{vs:List Value}{H:List (Nat × Obj)}{K:Value->List (Nat × Obj)->Prop}{N:Nat}(hf:P.funcs[f]? =some fn)(hb:fn.body=some c)(hN:fn.ntmps=N)(hv:Nat.ble vs.length N=true)
  (h:J P none N w0 c (retQ P fn w0 K) (ini 0 vs) [] H):FSpec P w0 f vs.toArray H K:=fun w hO=>by
 have hv':vs.length<=N:=by simpa using hv
 refine callsIn_wide.1 (callsIn_of_wp_marks (n:=0) (F:=Fence.wide) hf hb trivial ?_ U);have h1:=h (fun _=>undef) w hO {tmps:=vs.toArray++Array.replicate (fn.ntmps - vs.toArray.size) undef,defers:=[]} (by simp[hN];omega) (by
  funext k
  rw[ini_lk];unfold fr;simp only[Nat.zero_le,if_true,Nat.sub_zero,Array.getD_eq_getD_getElem?]
  by_cases hk:k<vs.length
  ·simp[Array.getElem?_append,hk]
  ·simp only[List.size_toArray,Array.getElem?_append,hk,if_false];rw[List.getElem?_eq_none qom];simp only[Array.getElem?_replicate]
   split<;>rfl) U
 refine wpIn_mono h1 fun e a w' hq=> ?_
 obtain⟨hs,hq⟩:=hq;cases e<;>first|exact leaves_of hq|exact hq.elim
section
variable {P:Program} {w0:World} {L:Fm} {H:List (Nat × Obj)} {fn:Func} {K:Value->List (Nat × Obj)->Prop}
inductive ResV (P:Program) (w0:World) (L:Fm) (H:List (Nat × Obj)):List ResultVar->List Value->Prop
 |nil:ResV P w0 L H [] []
 |tmp {k v rs vs}:At L k v->ResV P w0 L H rs vs->ResV P w0 L H (.tmp k::rs) (v::vs)
 |cell {k p t v rs vs}:At L k (.pointer (some p))->(∀ w,(isAgg t).run P w= .ok false w)->Cell w0 H p v->ResV P w0 L H rs vs->ResV P w0 L H (.cell k t::rs) (v::vs)
 |cellA {k b o t n l rs vs}:At L k (.pointer (some ⟨b,o,none⟩))->(∀ w,(isAgg t).run P w= .ok true w)->(∀ w,(sizeOf t).run P w= .ok n w)->l.length=n->Cells w0 H b o l->ResV P w0 L H rs vs->ResV P w0 L H (.cell k t::rs) (.agg l.toArray::vs)
def resOf:List Value->Value
 |[v]=>v
 |vs=> .tuple vs.toArray
def resF (tmps:Array Value):ResultVar->Sem Value
 | .tmp t=>pure (tmps.getD t undef)
 | .cell a t=>do loadVar t (<- asAddr (tmps.getD a undef))
theorem resV_run {rs:List ResultVar}{vs:List Value}(h:ResV P w0 L H rs vs){b:Nat->Value}{w:World}(hO:Own w0 H w){tmps:Array Value}(ht:(fun k=>tmps.getD k undef)=lk L b):
  Sem.run P (rs.mapM (resF tmps)) w=Result.ok vs w:=by
 induction h with
 |nil=>simp
 | @tmp k v rs vs ha _ ih=>
  have:=(congrFun ht k).trans (ha b);have e:resF tmps (.tmp k)=pure v:=by show (pure (tmps.getD k undef):Sem Value)=_;rw[this]
  simp[List.mapM_cons,Sem.run_bind,Result.andThen,ih,e]
 | @cell k p t v rs vs ha h1 hc _ ih=>
  have:=(congrFun ht k).trans (ha b);have hc':=hc w hO;have e:Sem.run P (resF tmps (.cell k t)) w= .ok v w:=by
   show Sem.run P (do loadVar t (<- asAddr (tmps.getD k undef))) w=_;rw[this];simp[Sem.run_bind,Result.andThen,asAddr,loadVar,h1,load,Sem.run,hc']
  simp[List.mapM_cons,Sem.run_bind,Result.andThen,ih,e]
 | @cellA k b' o t n l rs vs ha h1 h2 h3 hc _ ih=>
  have:=(congrFun ht k).trans (ha b);have h4:=Dv (P:=P) (b:=b') (o:=o) (w:=w) l 0 #[] (fun j v hj=>by rw[Nat.zero_add];exact hc j v hj w hO);rw[h3] at h4;have e:Sem.run P (resF tmps (.cell k t)) w= .ok (.agg l.toArray) w:=by
   show Sem.run P (do loadVar t (<- asAddr (tmps.getD k undef))) w=_;rw[this];simp[Sem.run_bind,Result.andThen,asAddr,loadVar,h1,h2,loadCells,h4]
  simp[List.mapM_cons,Sem.run_bind,Result.andThen,ih,e]
theorem results_eq (fn:Func)(tmps:Array Value):results fn tmps=(do let vs <- fn.results.mapM (resF tmps);pure (if h:vs.size=1 then vs[0] else .tuple vs)):=rfl
theorem res_of {rs:List ResultVar}{vs:List Value}(hr:fn.results=rs.toArray)(h:ResV P w0 L H rs vs){b:Nat->Value}{w:World}(hO:Own w0 H w):Res P fn (lk L b) w (resOf vs):=fun tmps ht=>by
 have h1:=resV_run h hO ht;rw[results_eq,hr];simp only[List.mapM_toArray,Sem.run_bind];rw[Sem.run_map,h1];simp only[Result.andThen,Sem.run_pure];cases vs with
 |nil=>rfl
 |cons v vs=>cases vs<;>rfl
theorem As {rs:List ResultVar}{vs:List Value}(hr:fn.results=rs.toArray)(h:ResV P w0 L H rs vs)(hK:∃ H',K (resOf vs) H'/\H'.Sublist H):JQ w0 (retQ P fn w0 K) .ret L [] H:=fun b w hO=>⟨_,hK.choose,res_of hr h hO,hO.sub hK.choose_spec.2,hK.choose_spec.1⟩
theorem Ea {rs:List ResultVar}{vs:List Value}(hr:fn.results=rs.toArray)(h:ResV P w0 L H rs vs)(hK:∃ H',K (resOf vs) H'/\H'.Sublist H):JQ w0 (retQ P fn w0 K) .normal L [] H:=fun b w hO=>⟨_,hK.choose,res_of hr h hO,hO.sub hK.choose_spec.2,hK.choose_spec.1⟩
end
theorem qe1 {L:Fm}{k:Nat}{v:Value}(h:fnd? L k=some v):Evs L [.tmp k] [v]:= .cons (T h) .nil
theorem qe2 {L:Fm}{k k2:Nat}{v v2:Value}(h:fnd? L k=some v)(h2:fnd? L k2=some v2):Evs L [.tmp k, .tmp k2] [v,v2]:= .cons (T h) (qe1 h2)
theorem qe3 {L:Fm}{k k2 k3:Nat}{v v2 v3:Value}(h:fnd? L k=some v)(h2:fnd? L k2=some v2)(h3:fnd? L k3=some v3):Evs L [.tmp k, .tmp k2, .tmp k3] [v,v2,v3]:= .cons (T h) (qe2 h2 h3)
theorem qe4 {L:Fm}{k k2 k3 k4:Nat}{v v2 v3 v4:Value}(h:fnd? L k=some v)(h2:fnd? L k2=some v2)(h3:fnd? L k3=some v3)(h4:fnd? L k4=some v4):Evs L [.tmp k, .tmp k2, .tmp k3, .tmp k4] [v,v2,v3,v4]:= .cons (T h) (qe3 h2 h3 h4)
theorem Ll {P:Program}{w0:World}{L:Fm}{H:List (Nat × Obj)}{k:Nat}{v:Value}(h:fnd? L k=some v):ResV P w0 L H [.tmp k] [v]:= .tmp (Aa h) .nil
theorem Lo {P:Program}{w0:World}{L:Fm}{H:List (Nat × Obj)}{ty t:TypeId}{k:Nat}{p:Addr}{v:Value}(h:fnd? L k=some (.pointer (some p)))(ht:∀ w,(isAgg t).run P w= .ok false w)(hc:Cell w0 H p v):Yl P w0 (.load t (.tmp k)) ty L H v:=Ab (T h) ht hc
theorem Lp {P:Program}{w0:World}{L:Fm}{H:List (Nat × Obj)}{ty t:TypeId}{k b o n:Nat}{vs:List Value}(h:fnd? L k=some (.pointer (some ⟨b,o,none⟩)))(ht:∀ w,(isAgg t).run P w= .ok true w)(hz:∀ w,(sizeOf t).run P w= .ok n w)(hn:vs.length=n)(hc:Cells w0 H b o vs):Yl P w0 (.load t (.tmp k)) ty L H (.agg vs.toArray):=Ai (T h) ht hz hn hc
theorem Lq {P:Program}{w0:World}{L:Fm}{H:List (Nat × Obj)}{ty t e:TypeId}{i j:Nat}{q:Option Addr}{n c sz k:Nat}(h1:fnd? L i=some (.slice q n c))(h2:fnd? L j=some (.int .i64 (k:Int)))(ht:∀ w,(underlying t).run P w= .ok (.slice e) w)(hz:∀ w,(sizeOf e).run P w= .ok sz w)(h:k<n)(hq:Bas q):Yl P w0 (.indexAddr t (.tmp i) (.tmp j)) ty L H (.pointer (some ⟨bq q,oq q+k*sz,none⟩)):=Bf (T h1) (T h2) ht hz h hq
theorem Lt {P:Program}{w0:World}{L:Fm}{H:List (Nat × Obj)}{ty t:TypeId}{k:Nat}{v:Value}{l:List Value}(h:fnd? L k=some v)(hc:Cs v l):Eff P w0 (.box t (.tmp k)) ty L H (New (Cl l t) H):=A0 (T h) hc
theorem Ls {P:Program}{w0:World}{L:Fm}{H:List (Nat × Obj)}{ty t:TypeId}{i j:Nat}{n m:Nat}{v:Value}{vs l:List Value}{t':TypeId}{H':List (Nat × Obj)}(h1:fnd? L i=some (.pointer (some ⟨n,0,none⟩)))(h2:fnd? L j=some v)(hz:∀ w,(sizeOf t).run P w= .ok m w)(hc:Cs v vs:=by first|exact .agg|exact .one U)(hv:vs.all oneB=true:=by rfl)(hm:vs.length=m:=by rfl)
  (hu:Upd H n (Cl l t') (Cl vs t') H':=by(repeat (first|exact Upd.h|apply Upd.t|apply D7));done) (hl:l.length=vs.length:=by rfl):Eff P w0 (.store t (.tmp i) (.tmp j)) ty L H (Still undef H'):=Ar (T h1) (T h2) hz hc hv hm hu hl
section
variable {P:Program} {r:Option Nat} {ops:Array Oper} {Q:Exit->Act->World->Prop} {w0:World} {H0:List (Nat × Obj)} {t:Nat}
abbrev md:Region.Mode:= .any
def noDefer (ops:Array Oper):Bool:=ops.toList.all fun o=> !Op.isDefer o.op
theorem Dp (h:noDefer ops=true){j:Nat}{o:Oper}(hj:ops[j]? =some o):∀ c,o.op≠.defer c:=by
 intro c hc;have h1:=List.all_eq_true.1 h o (by rw[Array.mem_toList_iff];exact Array.mem_of_getElem? hj);rw[hc] at h1;simp[Op.isDefer] at h1
def YieldsO (P:Program) (ops:Array Oper) (w0:World) (H0:List (Nat × Obj)) (o:Oper) (v:Value) (a:Act):Prop:=
 (Region.wanted o (yielded ops a.tmps)=true/\∀ H,H0.Sublist H->∀ w,Own w0 H w->effO P w0 (Still v H) ((execOp a.eval o).run P w))\/
 (Region.wanted o (yielded ops a.tmps)=false/\v=undef)
theorem YieldsO.of_same {o:Oper}{v:Value}{a a':Act}(hy:YieldsO P ops w0 H0 o v a)(he:execOp a'.eval o=execOp a.eval o)
  (hw:Region.wanted o (yielded ops a'.tmps)=Region.wanted o (yielded ops a.tmps)):YieldsO P ops w0 H0 o v a':=by
 unfold YieldsO at *;rw[he,hw];exact hy
theorem YieldsO.wpOpIn {i:Nat}{o:Oper}{v:Value}{a:Act}(hi:ops[i]? =some o)(hd:∀ c,o.op≠.defer c)(hy:YieldsO P ops w0 H0 o v a){K:Act->World->Prop}{H:List (Nat × Obj)}{w:World}(hs:H0.Sublist H)(hO:Own w0 H w)
  (h:∀ w',Own w0 H w'->K (a.put o.dst v) w'):wpOpIn (rd r) 0 P ops Q i K a w:=by
 unfold Go.wpOpIn;simp only[hi];rcases hy with ⟨hw,hv⟩|⟨hw,rfl⟩
 ·simp only[hw,if_true];refine⟨fun f _=>Ke r f,?_⟩;rw[Oper.semAt_eq _ _ _ hd];have h3:=hv H hs w hO
  generalize (execOp a.eval o).run P w=res at *;cases res with
  |ok n w'=>
   cases n<;>simp only[effO] at h3<;>simp only[Oper.uponIn]
   case value u=>obtain⟨H',h1,h2,h4⟩:=h3;subst h2;subst h4;exact h _ h1
   case skip=>obtain⟨H',h1,h2,h4⟩:=h3;subst h4;rw[h2];exact h _ h1
   case enter f args=>
    refine⟨Kv r,F6 (h3.mono fun e w'' ⟨u,H',he,h1,h2,h4⟩=> ?_)⟩;subst he;subst h2;subst h4;exact h _ h1
   case round l f tmps assign body=>
    refine⟨Kv r,roundIn_rd (h3.mono fun e w'' ⟨u,H',he,h1,h2,h4⟩=> ?_)⟩;subst he;subst h2;subst h4;exact h _ h1
  |halt x w'=>simp only[effO] at h3
 ·simp only[hw,Bool.false_eq_true,if_false];exact⟨fun f _=>Ke r f,h _ hO⟩
theorem wpOpIn_putO {j:Nat}{oi oj:Oper}{v:Value}(hj:ops[j]? =some oj)(hdj:∀ c,oj.op≠.defer c)(hap:oi.apart ops oj=true)
  (hsi:∀ cs b,oi.op≠.select cs b) (hsj:∀ cs b,oj.op≠.select cs b)
  (hQ:∀ c a w,Q (.panic c) (a.put oi.dst v) w->Q (.panic c) a w) {K:Act->World->Prop} {a:Act} {w:World}
  (hy:YieldsO P ops w0 H0 oi v a) (h:wpOpIn (rd r) 0 P ops Q j K (a.put oi.dst v) w):
  wpOpIn (rd r) 0 P ops Q j (fun a' w'=>YieldsO P ops w0 H0 oi v a'/\K (a'.put oi.dst v) w') a w:=by
 obtain⟨h1,h2,h3⟩:=Oper.apart_spec hap;have keep:∀ (a:Act),YieldsO P ops w0 H0 oi v a->∀ u,YieldsO P ops w0 H0 oi v (a.put oj.dst u):=fun a hy u=>
  hy.of_same (execOp_put oi hsi a oj.dst u h3) (wanted_put oi a oj.dst u h3)
 have keepD:∀ d,YieldsO P ops w0 H0 oi v {a with defers:=d::a.defers}:=fun d=>hy.of_same U U
 unfold Go.wpOpIn at *;simp only[hj] at *;rw[wanted_put oj a oi.dst v h1] at h
 split
 ·rename_i hw;simp only[hw,if_true] at h;unfold Oper.wpIn at *;refine⟨fun f _=>Ke r f,?_⟩;have h:=h.2;rw[Oper.semAt_eq _ _ _ hdj,execOp_put oj hsj a oi.dst v h1] at h;rw[Oper.semAt_eq _ _ _ hdj]
  generalize (execOp a.eval oj).run P w=res at *;cases res with
  |ok x w'=>
   cases x<;>simp only[Oper.uponIn] at h ⊢
   case value u=>exact⟨keep a hy u,by rw[<- Act.put_comm a v u h2];exact h⟩
   case skip=>exact⟨keep a hy _,by rw[<- Act.put_comm a v undef h2];exact h⟩
   case defer d=>
    refine⟨keep _ (keepD d) _,?_⟩;rw[<- Act.put_comm _ v undef h2,<- Act.put_defers];exact h
   case enter f args=>
    refine⟨h.1,CallsIn.mono h.2 fun e w'' he=> ?_⟩;cases e with
    |returned u=>exact⟨keep a hy u,by rw[<- Act.put_comm a v u h2];exact he⟩
    |panicked c=>exact hQ _ _ _ he
    |outgrown=>exact he
   case row row args=>exact⟨h.1,RowsIn.mono h.2 fun u w'' he=>⟨keep a hy u,by rw[<- Act.put_comm a v u h2];exact he⟩⟩
   case round l f tmps assign body=>
    refine⟨h.1,RoundIn.mono h.2 fun e w'' he=> ?_⟩;cases e with
    |returned u=>exact⟨keep a hy u,by rw[<- Act.put_comm a v u h2];exact he⟩
    |panicked c=>exact hQ _ _ _ he
    |outgrown=>exact he
  |halt x w'=>
   cases x<;>simp only[Oper.uponIn] at h ⊢
   case panic u=>exact hQ _ _ _ h
 ·rename_i hw;simp only[hw] at h;exact⟨fun f _=>Ke r f,keep a hy _,by rw[<- Act.put_comm a v undef h2];exact h.2⟩
def tailOk (ops:Array Oper):Nat->Nat->Array Bool->Bool
 |0,_,listed=>Region.ready md ops listed==[]
 |m+1,k,listed=>Region.ready md ops listed==[k]&&tailOk ops m (k+1) (listed.setIfInBounds k true)
theorem Ie:∀ (m k:Nat) (listed:Array Bool) (a:Act) (w:World),k+m=ops.size->tailOk ops m k listed=true->wpListIn (rd r) 0 P ops Q (ops.toList.drop k) a w->wpAnyIn (rd r) 0 P md ops Q m listed a w
 |0,k,listed,a,w,hk,ht,h=>by
  have:ops.toList.drop k=[]:=List.drop_eq_nil_of_le (by simp;omega);rw[this] at h;exact⟨by simpa[tailOk] using ht,h⟩
 |m+1,k,listed,a,w,hk,ht,h=>by
  simp only[tailOk,Bool.and_eq_true,beq_iff_eq] at ht;have hlt:k<ops.toList.length:=by simp;omega
  rw[List.drop_eq_getElem_cons hlt] at h;have hj:ops[k]? =some (ops.toList[k]):=by simp
  refine⟨fun h0=>absurd (ht.1 ▸ h0) (by simp),fun i hi=> ?_⟩;rw[ht.1] at hi;obtain rfl:i=k:=by simpa using hi
  unfold wpListIn at h;unfold wpOpIn;simp only[hj]
  split
  ·rename_i hw;rw[if_pos hw] at h;exact Oper.wpIn_mono (fun a' w' h'=>Ie m (i+1) _ a' w' qom ht.2 h') h
  ·rename_i hw;rw[if_neg hw] at h;exact⟨h.1,Ie m (i+1) _ _ w qom ht.2 h.2⟩
def wpO (P:Program) (r:Option Nat) (ops:Array Oper) (Q:Exit->Act->World->Prop) (w0:World) (H0:List (Nat × Obj)) (t:Nat):Nat->Array Bool->Act->List (Nat × Obj)->Prop
 |0,listed,a,H=>tailOk ops (ops.size - t) t listed=true/\∀ w,Own w0 H w->wpListIn (rd r) 0 P ops Q (ops.toList.drop t) a w
 |f+1,listed,a,H=>(∃ i0∈Region.ready md ops listed,i0<t)/\∀ i∈Region.ready md ops listed,i<t->∀ w,Own w0 H w->
   wpOpIn (rd r) 0 P ops Q i (fun a' w'=>∃ H',H0.Sublist H'/\Own w0 H' w'/\wpO P r ops Q w0 H0 t f (listed.setIfInBounds i true) a' H') a w
def TailS (ops:Array Oper) (t:Nat):Prop:=t=ops.size\/(t<ops.size/\Region.sinkB md ops t=true/\Region.chainB md ops t=true)
theorem ready_lt {listed:Array Bool}(hT:TailS ops t)(inv:HeadInv md ops t listed){i j:Nat}(hi:i<t)(hu:listed.getD i true=false)(hj:j∈Region.ready md ops listed):j<t:=by
 rcases hT with rfl|⟨hlt,hs,hc⟩
 ·obtain⟨_,o,ho,_⟩:=mem_ready.1 hj;exact(Array.getElem?_eq_some_iff.1 ho).1
 ·rcases Nat.lt_or_ge j t with h|h
  ·exact h
  ·exact absurd hj (tail_waits hs hc hlt inv (t - i) i U hi hu j h)
theorem wpAny_of_wpO (hT:TailS ops t)(htl:t<=ops.size):∀ (f:Nat) (listed:Array Bool) (a:Act) (H:List (Nat × Obj)) (w:World),HeadInv md ops t listed->Own w0 H w->wpO P r ops Q w0 H0 t f listed a H->wpAnyIn (rd r) 0 P md ops Q (f+(ops.size - t)) listed a w
 |0,listed,a,H,w,inv,hO,h=>by rw[Nat.zero_add];exact Ie _ t listed a w qom h.1 (h.2 w hO)
 |f+1,listed,a,H,w,inv,hO,h=>by
  obtain⟨⟨i0,hi0,hlt0⟩,h⟩:=h;rw[show f+1+(ops.size - t)=(f+(ops.size - t))+1 by omega];refine⟨fun hr=>(by rw[hr] at hi0;cases hi0),fun i hi=> ?_⟩;have hit:=ready_lt hT inv hlt0 (mem_ready.1 hi0).1 hi;exact wpOpIn_mono (fun a' w' ⟨H',hs,hO',h'⟩=>wpAny_of_wpO hT htl f _ a' H' w' (inv.set hi hit) hO' h') (h i hi hit w hO)
theorem wpO_first {i:Nat}{oi:Oper}{v:Value}(hT:TailS ops t)(hD:noDefer ops=true)(hi:ops[i]? =some oi)(hit:i<t)(hsel:∀ (j:Nat) (o:Oper) cs b,ops[j]? =some o->o.op≠.select cs b)
  (hQ:∀ c a w,Q (.panic c) (a.put oi.dst v) w->Q (.panic c) a w):
  ∀ (f:Nat) (listed:Array Bool) (a:Act) (H:List (Nat × Obj)),H0.Sublist H->
   (∀ j oj,ops[j]? =some oj->j≠i->listed.getD j true=false->(∀ e∈oj.after,Region.binds md e=true->e.on≠i)->oi.apart ops oj=true)->
   HeadInv md ops t listed->i∈Region.ready md ops listed->YieldsO P ops w0 H0 oi v a->
   wpO P r ops Q w0 H0 t f (listed.setIfInBounds i true) (a.put oi.dst v) H->wpO P r ops Q w0 H0 t (f+1) listed a H:=by
 intro f
 induction f with
 |zero=>
  intro listed a H hs hfree inv hr hy h;refine⟨⟨i,hr,hit⟩,fun j hj hjt w hO=> ?_⟩
  by_cases hji:j=i
  ·subst hji;exact hy.wpOpIn hi (Dp hD hi) hs hO fun w' hO'=>⟨H,hs,hO',h⟩
  ·exfalso;have h1:=ready_mono hj hji;have h2:=h.1;rcases Nat.lt_or_ge t ops.size with hlt|hge
   ·rw[show ops.size - t=(ops.size - t - 1)+1 by omega] at h2;simp only[tailOk,Bool.and_eq_true,beq_iff_eq] at h2;rw[h2.1] at h1;have:j=t:=by simpa using h1
    omega
   ·rw[show ops.size - t=0 by omega] at h2;simp only[tailOk,beq_iff_eq] at h2;rw[h2] at h1;cases h1
 |succ f ih=>
  intro listed a H hs hfree inv hr hy h;refine⟨⟨i,hr,hit⟩,fun j hj hjt w hO=> ?_⟩
  by_cases hji:j=i
  ·subst hji;exact hy.wpOpIn hi (Dp hD hi) hs hO fun w' hO'=>⟨H,hs,hO',h⟩
  ·have h1:=h.2 j (ready_mono hj hji) hjt w hO;obtain⟨hjun,oj,hoj,hall⟩:=mem_ready.1 hj;have hnot:∀ e∈oj.after,Region.binds md e=true->e.on≠i:=fun e he hb heq=>by
    have h1:=hall e he hb;have h0:=(mem_ready.1 hr).1;rw[heq,getD_both h0] at h1;cases h1
   have h2:=wpOpIn_putO hoj (Dp hD hoj) (hfree j oj hoj hji hjun hnot) (fun cs b=>hsel i oi cs b hi) (fun cs b=>hsel j oj cs b hoj) hQ hy h1;have hfree':∀ k ok,ops[k]? =some ok->k≠i->(listed.setIfInBounds j true).getD k true=false->
     (∀ e∈ok.after,Region.binds md e=true->e.on≠i)->oi.apart ops ok=true:=fun k ok hk hki hun hno=>by
    refine hfree k ok hk hki ?_ hno
    by_cases hjk:j=k
    ·subst hjk;exact hjun
    ·rw[getD_set_ne true hjk] at hun;exact hun
   refine wpOpIn_mono (fun a' w' h3=> ?_) h2;obtain⟨hy',H',hs',hO',h4⟩:=h3;refine⟨H',hs',hO',ih (listed.setIfInBounds j true) a' H' hs' hfree' (inv.set hj hjt) (ready_mono hr (Ne.symm hji)) hy' ?_⟩;rw[Array.setIfInBounds_comm _ _ hji];exact h4
end
def planB (ops:Array Oper) (t:Nat):List (Nat × Bool)->Array Bool->Bool
 |[],listed=>tailOk ops (ops.size - t) t listed
 |(i,true)::rest,listed=>Nat.blt i t&&(Region.ready md ops listed).contains i&&Region.free md ops listed i&&planB ops t rest (listed.setIfInBounds i true)
 |(i,false)::rest,listed=>Nat.blt i t&&Region.ready md ops listed==[i]&&planB ops t rest (listed.setIfInBounds i true)
def tailB (ops:Array Oper) (t:Nat):Bool:=Nat.beq t ops.size||(Nat.blt t ops.size&&Region.sinkB md ops t&&Region.chainB md ops t)
theorem tailB_spec {ops:Array Oper}{t:Nat}(h:tailB ops t=true):TailS ops t/\t<=ops.size:=by
 simp only[tailB,Bool.or_eq_true,Bool.and_eq_true,Nat.blt_eq] at h;rcases h with h|⟨⟨h1,h2⟩,h3⟩
 ·have:=Nat.eq_of_beq_eq_true h;exact⟨.inl this,by omega⟩
 ·exact⟨.inr ⟨h1,h2,h3⟩,by omega⟩
section
variable {P:Program} {r:Option Nat} {N:Nat} {w0:World} {ops:Array Oper} {t:Nat} {Q:Post} {L:Fm} {ds:List Deferred} {H0 H:List (Nat × Obj)}
def JO (P:Program) (r:Option Nat) (N:Nat) (w0:World) (H0:List (Nat × Obj)) (ops:Array Oper) (t:Nat) (plan:List (Nat × Bool)) (Q:Post) (L:Fm) (ds:List Deferred) (H:List (Nat × Obj)):Prop:=
 TailS ops t->noDefer ops=true->Region.noSelect ops=true->(∀ c σ ds w,¬ Q (.panic c) σ ds w)->H0.Sublist H->∀ listed,HeadInv md ops t listed->planB ops t plan listed=true->∀ b (a:Act),a.tmps.size=N->fr a=lk L b->a.defers=ds->
  wpO P r ops (LQ N Q) w0 H0 t plan.length listed a H
theorem Bj {l:List Oper}(hl:ops.toList.drop t=l)(h:JL P r N w0 ops l Q L ds H):JO P r N w0 H0 ops t [] Q L ds H:=fun hT hD hS hP hs listed inv hp b a hsz hf hd=>by
 refine⟨hp,fun w hO=> ?_⟩;rw[hl];exact h b w hO a hsz hf hd
variable {d:Option Tmp} {op:Op} {ty:TypeId} {p:String} {af:Array Edge} {g:Option (Nat × Bool)} {v:Value} {i:Nat} {plan:List (Nat × Bool)}
theorem jo_take (hi:ops[i]? =some ⟨d,op,ty,p,af,g⟩)(hN:dOk d N=true)(hy:∀ b (a:Act),a.tmps.size=N->fr a=lk L b->YieldsO P ops w0 H0 ⟨d,op,ty,p,af,g⟩ v a)(k:JO P r N w0 H0 ops t plan Q (pt d v L) ds H):JO P r N w0 H0 ops t ((i,true)::plan) Q L ds H:=
 fun hT hD hS hP hs listed inv hp b a hsz hf hd=>by
  simp only[planB,Bool.and_eq_true,Nat.blt_eq] at hp;obtain⟨⟨⟨h1,h2⟩,h3⟩,h4⟩:=hp;have hr:i∈Region.ready md ops listed:=by simpa using h2
  exact wpO_first hT hD hi h1 (Region.noSelect_spec hS) (fun c a w hq=>absurd hq.2 (hP _ _ _ _)) plan.length listed a H hs (Region.free_spec hi h3) inv hr (hy b a hsz hf)
   (k hT hD hS hP hs _ (inv.set hr h1) h4 b _ (by rw[D6];exact hsz) (Ib hN hsz hf) (by rw[Df];exact hd))
theorem o_y (hi:ops[i]? =some ⟨d,op,ty,p,af,g⟩)(hy:Yl P w0 op ty L H0 v)(k:JO P r N w0 H0 ops t plan Q (pt d v L) ds H)(hN:dOk d N=true)(hg:Gd ops L g N true):JO P r N w0 H0 ops t ((i,true)::plan) Q L ds H:=
 jo_take hi hN (fun b a hs hf=> .inl ⟨Ky hg hs hf,fun H hsub w hO=>by rw[Kx,Gm,hf];exact hy.2 H hsub b w hO⟩) k
theorem o_n (hi:ops[i]? =some ⟨d,op,ty,p,af,g⟩)(k:JO P r N w0 H0 ops t plan Q (pt d undef L) ds H)(hN:dOk d N=true)(hg:Nw ops L g N):JO P r N w0 H0 ops t ((i,true)::plan) Q L ds H:=
 jo_take hi hN (fun b a hs hf=> .inr ⟨nw_wanted hg hs hf,rfl⟩) k
theorem o_e {K:Value->List (Nat × Obj)->Prop}(hi:ops[i]? =some ⟨d,op,ty,p,af,g⟩)(he:Eff P w0 op ty L H K)(k:∀ v H',K v H'->H0.Sublist H'/\JO P r N w0 H0 ops t plan Q (pt d v L) ds H')(hN:dOk d N=true)(hg:Gd ops L g N true):JO P r N w0 H0 ops t ((i,false)::plan) Q L ds H:=
 fun hT hD hS hP hs listed inv hp b a hsz hf hd=>by
  simp only[planB,Bool.and_eq_true,Nat.blt_eq,beq_iff_eq] at hp;obtain⟨⟨h1,h2⟩,h4⟩:=hp;have hr:i∈Region.ready md ops listed:=by rw[h2];simp
  refine⟨⟨i,hr,h1⟩,fun j hj _ w hO=> ?_⟩;rw[h2] at hj;obtain rfl:j=i:=by simpa using hj
  unfold wpOpIn;simp only[hi];rw[if_pos (Ky hg hsz hf)];refine Ic hf he hO fun v H' w' hk hO'=> ?_
  obtain⟨k1,k2⟩:=k v H' hk;exact⟨H',k1,hO',k2 hT hD hS hP k1 _ (inv.set hr h1) h4 b _ (by rw[D6];exact hsz) (Ib hN hsz hf) (by rw[Df];exact hd)⟩
theorem Ds {s:Nat}{u:Bool}(ha:At L s (.bool u))(ht:u=true->JO P r N w0 H0 ops t plan Q ((s, .bool true)::L) ds H)(hf:u=false->JO P r N w0 H0 ops t plan Q ((s, .bool false)::L) ds H):JO P r N w0 H0 ops t plan Q L ds H:=
 fun hT hD hS hP hs listed inv hp b a hsz hfr hd=>by
  have e:∀ x,u=x->lk ((s, .bool x)::L) b=lk L b:=fun x hx=>by
   subst hx;exact D8 (K:=[(s, .bool u)]) (L:=L) (b:=b) ⟨ha,trivial⟩
  cases u
  ·exact hf U hT hD hS hP hs listed inv hp b a hsz (by rw[e _ rfl];exact hfr) hd
  ·exact ht U hT hD hS hP hs listed inv hp b a hsz (by rw[e _ rfl];exact hfr) hd
theorem Cu {s:Nat}{q:Prop}[Decidable q] (ha:At L s (.bool (decide q)))(ht:q->JO P r N w0 H0 ops t plan Q ((s, .bool true)::L) ds H)(hf: ¬ q->JO P r N w0 H0 ops t plan Q ((s, .bool false)::L) ds H):JO P r N w0 H0 ops t plan Q L ds H:=
 Ds ha (fun h=>ht (of_decide_eq_true h)) (fun h=>hf (of_decide_eq_false h))
structure NoPanic (Q:Post):Prop where
 no:∀ c σ ds w,¬ Q (.panic c) σ ds w
theorem Kz {fn:Func}{K:Value->List (Nat × Obj)->Prop}:NoPanic (retQ P fn w0 K):=⟨fun _ _ _ _ h=>h⟩
theorem Ig {K}(h:NoPanic Q):NoPanic (thenQ K Q):=⟨fun c σ ds w=>h.no c σ ds w⟩
theorem Gp {id:Nat}(h:NoPanic Q):NoPanic (blockQ id Q):=⟨fun c σ ds w=>h.no c σ ds w⟩
theorem Jz {X:Type}{V:X->Fm}{G:X->List (Nat × Obj)}{φ:X->Prop}{μ:X->Nat}{m:Nat}{ds:List Deferred}(h:NoPanic Q):NoPanic (loopQ w0 V G φ μ m ds Q):=⟨fun c σ ds w=>h.no c σ ds w⟩
theorem K1 {X:Type}{V:X->Fm}{G:X->List (Nat × Obj)}{φ:X->Prop}{ds:List Deferred}(h:NoPanic Q):NoPanic (cutQ w0 V G φ ds Q):=⟨fun c σ ds w=>h.no c σ ds w⟩
def anyB (ops:Array Oper) (t:Nat) (plan:List (Nat × Bool)):Bool:=tailB ops t&&noDefer ops&&Region.noSelect ops&&Nat.beq plan.length t&&planB ops t plan (Array.replicate ops.size false)
theorem B9 {id:Nat}(t:Nat)(plan:List (Nat × Bool))(H0:List (Nat × Obj))(hm:P.follows .mixedOrders=true)(hb:anyB ops t plan=true)(hs:H0.Sublist H)(h:JO P r N w0 H0 ops t plan Q L ds H)(hP:NoPanic Q:=by repeat (first|exact Kz|exact Ij|exact G8|apply Ig|apply Gp|apply Jz|apply K1)):J P r N w0 (.region id ops true) Q L ds H:=fun b w hO a hsz hf hd=>by
 simp only[anyB,Bool.and_eq_true] at hb;obtain⟨⟨⟨⟨h1,h2⟩,h3⟩,h4⟩,h5⟩:=hb;obtain⟨hT,htl⟩:=tailB_spec h1;have hlen:=Nat.eq_of_beq_eq_true h4;have inv:HeadInv md ops t (Array.replicate ops.size false):=by
  refine⟨by simp,fun j oj _ hl=>(by rw[getD_replicate_false] at hl;cases hl),fun k _ hk=> ?_⟩;simp[hk]
 have h6:=wpAny_of_wpO hT htl plan.length _ a H {w with drawn:=w.drawn+1} inv hO.drawn (h hT h2 h3 hP.no hs _ inv h5 b a hsz hf hd);rw[hlen,show t+(ops.size - t)=ops.size by omega] at h6;exact wpIn_region_any hm h6
end
inductive Sl
 |nil
 |blk (n cap:Nat) (junk:List Value)
def slQ:Sl->Option Addr
 | .nil=>none
 | .blk n _ _=>some ⟨n,0,none⟩
def slC:Sl->Nat
 | .nil=>0
 | .blk _ cap _=>cap
abbrev slV (d:Sl) (k:Nat):Value:= .slice (slQ d) k (slC d)
def slH:Sl->List Value->TypeId->List (Nat × Obj)
 | .nil,_,_=>[]
 | .blk n _ junk,cells,e=>[(n,Cl (cells++junk) e)]
def SlOk:Sl->Nat->Nat->Prop
 | .nil,k,_=>k=0
 | .blk _ cap junk,k,sz=>k<=cap/\junk.length=(cap - k)*sz
theorem SlOk.bas {d:Sl}{k sz:Nat}(h:SlOk d k sz)(hk:0<k):Bas (slQ d):=by
 cases d with
 |nil=>have:k=0:=h;omega
 |blk n cap junk=>rfl
theorem SlOk.cell {w0:World}{d:Sl}{k sz i:Nat}{cells:List Value}{e:TypeId}{X:List (Nat × Obj)}{v:Value}(h:SlOk d k sz)(hc:cells.length=k*sz)(hi:cells[i]? =some v):Cell w0 (slH d cells e++X) ⟨bq (slQ d),oq (slQ d)+i,none⟩ v:=by
 cases d with
 |nil=>have:k=0:=h;subst this;have:cells=[]:=List.eq_nil_of_length_eq_zero (by simpa using hc);subst this;simp at hi
 |blk n cap junk=>
  have hlt:=(List.getElem?_eq_some_iff.1 hi).1;have:Cell w0 ((n,Cl (cells++junk) e)::X) ⟨n,i,none⟩ v:=B6 Ba (by rw[List.getElem?_append_left hlt];exact hi)
  simpa[slQ,bq,oq,slH] using this
def Arr {α:Type} (w0:World) (H:List (Nat × Obj)) (q:Option Addr) (sz:Nat) (enc:α->List Value) (l:List α):Prop:=∀ i x,l[i]? =some x->Bas q/\Cells w0 H (bq q) (oq q+i*sz) (enc x)
theorem Arr.mono {α:Type}{w0:World}{H H':List (Nat × Obj)}{q:Option Addr}{sz:Nat}{enc:α->List Value}{l:List α}(h:Arr w0 H q sz enc l)(hs:H.Sublist H'):Arr w0 H' q sz enc l:=fun i x hi=>⟨(h i x hi).1,(h i x hi).2.mono hs⟩
theorem Ih {α:Type}{sz:Nat}{enc:α->List Value}(he:∀ x,(enc x).length=sz):∀ (l:List α) (i:Nat) (x:α) (j:Nat) (v:Value),l[i]? =some x->(enc x)[j]? =some v->(l.flatMap enc)[i*sz+j]? =some v
 |[],i,x,j,v,h,_=>by simp at h
 |y::l,0,x,j,v,h,hv=>by
  simp at h;subst h;rw[List.flatMap_cons,List.getElem?_append_left (by have:=(List.getElem?_eq_some_iff.1 hv).1;omega)]
  simpa using hv
 |y::l,i+1,x,j,v,h,hv=>by
  rw[List.flatMap_cons,List.getElem?_append_right (by rw[he];rw[Nat.succ_mul];omega),he];have:=Ih he l i x j v (by simpa using h) hv;rw[show (i+1)*sz+j - sz=i*sz+j by rw[Nat.succ_mul];omega];exact this
theorem Da {α:Type}{sz:Nat}{enc:α->List Value}(he:∀ x,(enc x).length=sz)(l:List α):(l.flatMap enc).length=l.length*sz:=by
 induction l with
 |nil=>simp
 |cons x l ih=>rw[List.flatMap_cons,List.length_append,ih,he,List.length_cons,Nat.succ_mul];omega
theorem A5 {α:Type}{w0:World}{d:Sl}{sz:Nat}{enc:α->List Value}{l:List α}{e:TypeId}{X:List (Nat × Obj)}(he:∀ x,(enc x).length=sz)(h:SlOk d l.length sz):Arr w0 (slH d (l.flatMap enc) e++X) (slQ d) sz enc l:=fun i x hi=>
 ⟨h.bas (by have:=(List.getElem?_eq_some_iff.1 hi).1;omega),fun j v hj=>by
  have:=h.cell (w0:=w0) (e:=e) (X:=X) (Da he l) (Ih he l i x j v hi hj)
  rwa [<- Nat.add_assoc] at this⟩
theorem growBy_le:∀ (r n c:Nat),c<2*n+400->Builtin.growBy n r c<=2*n+600
 |0,n,c,h=>by unfold Builtin.growBy;omega
 |r+1,n,c,h=>by
  unfold Builtin.growBy
  split
  ·omega
  ·exact growBy_le r n _ qom
theorem nextcap_le {n c:Nat}(h:c<n):Builtin.nextslicecap n c<=2*n+600:=by
 unfold Builtin.nextslicecap
 split
 ·omega
 ·split
  ·omega
  ·exact growBy_le _ _ _ qom
section
variable {P:Program} {w0:World} {L:Fm} {ty:TypeId} {x y:Operand} {t t2 e:TypeId}
theorem A7 {H:List (Nat × Obj)}{len:Nat}{ps:List (Nat × Operand)}{vs:List (Nat × Value)}{cells:List Value}(hp:Evp L ps vs)(hb:∀ w,(Instr.buildSlice t len vs.toArray).run P w= .ok (.slice (some ⟨w.heap.size,0,none⟩) len len) (w.alloc (Cl cells e))):
  Eff P w0 (.buildSlice t len ps.toArray) ty L H (fun v H'=>∃ n,v= .slice (some ⟨n,0,none⟩) len len/\H'=(n,Cl cells e)::H):=
 ⟨rfl,fun b w hO=>by
  have:=hp.map b;have h1:(exO (ev (lk L b)) (.buildSlice t len ps.toArray) ty).run P w= .ok (.value (.slice (some ⟨w.heap.size,0,none⟩) len len)) (w.alloc (Cl cells e)):=by
   simp[exO,execOp,this,hb,Sem.run_bind,Result.andThen]
  rw[h1];exact⟨_,hO.alloc _,_,rfl,rfl⟩⟩
theorem G7 {H:List (Nat × Obj)}{sz m c:Nat}{q:Option Addr}{new:List Value}{w:World}(hO:Own w0 H w)(hq:m=0\/Bas q)(hl:new.length=m*sz)(hn:Cells w0 H (bq q) (oq q) new):(Builtin.firstCells sz m (.slice q m c)).run P w= .ok new.toArray w:=by
 cases q with
 |none=>
  rcases hq with rfl|hq
  ·have:new=[]:=List.eq_nil_of_length_eq_zero (by simpa using hl);subst this;simp[Builtin.firstCells]
  ·cases hq
 |some a=>
  rcases hq with h0|hq
  ·subst h0;have:new=[]:=List.eq_nil_of_length_eq_zero (by simpa using hl);subst this;simp[Builtin.firstCells,loadCells,loadCellsFrom]
  ·have ha:a=⟨bq (some a),oq (some a),none⟩:=Option.some.inj hq;have h1:=Dv (P:=P) (b:=bq (some a)) (o:=oq (some a)) (w:=w) new 0 #[] (fun j v hj=>by rw[Nat.zero_add];exact hn j v hj w hO);rw[hl] at h1;unfold Builtin.firstCells loadCells;simp only;rw[ha];rw[h1];simp
theorem upd_mid {A X:List (Nat × Obj)}{n:Nat}{o o':Obj}:Upd (A++((n,o)::X)) n o o' (A++((n,o')::X)):=D7 .h
theorem C2 {H H':List (Nat × Obj)}{w:World}(h:Own w0 H w)(hp:H.Perm H'):Own w0 H' w:=
 ⟨h.below,fun e he=>h.has e (hp.symm.subset he),fun e he=>h.base e (hp.symm.subset he),(hp.map _).nodup_iff.1 h.nodup,h.drw⟩
theorem zero_len {z:Array Value}{n sz:Nat}(hz:z.size=sz):(Builtin.zeroCells z n).toList.length=n*sz:=by simp[Builtin.zeroCells,hz]
theorem eff_append {A X:List (Nat × Obj)}{d:Sl}{cells new:List Value}{k m sz c by':Nat}{q:Option Addr}{z:Value}{i0:TypeInfo}{e2:TypeId}(hx:Ev L x (slV d k))(hy:Ev L y (.slice q m c))
  (ht:∀ w,(underlying t).run P w= .ok (.slice e) w) (ht2:∀ w,(underlying t2).run P w= .ok (.slice e2) w) (hz:∀ w,(sizeOf e).run P w= .ok sz w) (hi:∀ w,(typeInfo e).run P w= .ok i0 w) (hby:i0.bytes=by') (hzv:∀ w,(zeroValue e).run P w= .ok z w) (hzs:z.cells.size=sz)
  (hq:m=0\/Bas q) (hl:new.length=m*sz) (hn:Cells w0 (A++(slH d cells e++X)) (bq q) (oq q) new) (h1:new.all oneB=true) (hc:cells.length=k*sz) (hok:SlOk d k sz) (hb0:by'≠0) (hb:(2*(k+m)+600)*by'<=281474976710656):
  Eff P w0 (.call {callee:= .builtin .append,args:= #[x,y],argTypes:= #[t,t2]}) ty L (A++(slH d cells e++X)) (fun v H'=>∃ d',v=slV d' (k+m)/\SlOk d' (k+m) sz/\H'=A++(slH d' (cells++new) e++X)):=
 ⟨rfl,fun b w hO=>by
  have h1':∀ v∈new,oneB v=true:=fun u hu=>List.all_eq_true.1 h1 u hu
  have hfirst:=G7 (P:=P) (c:=c) hO hq hl hn;have hold:(Builtin.firstCells sz k (slV d k)).run P w= .ok cells.toArray w:=by
   refine G7 (H:=slH d cells e++X) hO.drop ?_ hc fun i v hi=>hok.cell hc hi
   by_cases hk:k=0
   ·exact .inl hk
   ·exact .inr (hok.bas qom)
  have start:∀ R,(exO (ev (lk L b)) (.call {callee:= .builtin .append,args:= #[x,y],argTypes:= #[t,t2]}) ty).run P w=R↔(do let v <- Builtin.append_ #[t,t2] ty #[slV d k, .slice q m c];pure (Next.value v):Sem Next).run P w=R:=fun R=>by
   simp[exO,execOp,resolve,invoke,builtin,hx b,hy b,Sem.run_bind,Result.andThen]
  by_cases hcap:k+m<=slC d
  ·cases d with
   |nil=>
    have hk0:k=0:=hok;have hm0:m=0:=by have:k+m<=0:=hcap;omega
    subst hk0 hm0;have hcn:cells=[]:=List.eq_nil_of_length_eq_zero (by simpa using hc);have hnn:new=[]:=List.eq_nil_of_length_eq_zero (by simpa using hl);subst hcn hnn;have:(exO (ev (lk L b)) (.call {callee:= .builtin .append,args:= #[x,y],argTypes:= #[t,t2]}) ty).run P w= .ok (.value (.slice none 0 0)) w:=by
     rw[start];simp[Builtin.append_,slQ,slC,ht,ht2,hz,Builtin.lenOf,hfirst,Sem.run_bind,Result.andThen]
    rw[this];exact⟨_,hO, .nil,rfl,rfl,by simp[slH]⟩
   |blk n cap junk=>
    obtain⟨hk1,hk2⟩:=hok;have hcap':k+m<=cap:=hcap;have hhas:w.heap[n]? =some (Cl (cells++junk) e):=hO.drop.has (n,Cl (cells++junk) e) (by simp[slH]);have hmul:(cap - k)*sz=(cap - (k+m))*sz+m*sz:=by rw[<- Nat.add_mul];congr 1;omega
    have hst:=run_storeCells (P:=P) (n:=n) (o:=k*sz) (t:=e) new 0 (cells++junk) w hhas h1' (by simp[hc,hl,hk2];omega);have hset:setL (cells++junk) (k*sz+0) new=(cells++new)++junk.drop (m*sz):=by
     have e1:junk=junk.take (m*sz)++junk.drop (m*sz):=(List.take_append_drop _ _).symm;have e2:(junk.take (m*sz)).length=new.length:=by rw[List.length_take,hl,hk2];omega
     have key:∀ (pre l post vs:List Value),l.length=vs.length->setL (pre++(l++post)) pre.length vs=pre++vs++post:=by
      intro pre l post vs
      induction vs generalizing pre l with
      |nil=>intro h;have:l=[]:=List.eq_nil_of_length_eq_zero h;simp[setL,this]
      |cons v vs ih=>
       intro h;cases l with
       |nil=>simp at h
       |cons y l=>
        rw[setL];have e3:(pre++(y::l++post)).set pre.length v=(pre++[v])++(l++post):=by simp
        rw[e3];have:=ih (pre++[v]) l (by simpa using h);simp only[List.length_append,List.length_cons,List.length_nil,Nat.zero_add] at this;rw[this];simp
     rw[Nat.add_zero,<- hc]
     conv=>lhs;rw[e1]
     exact key cells _ _ new e2
    rw[hset] at hst;have:(exO (ev (lk L b)) (.call {callee:= .builtin .append,args:= #[x,y],argTypes:= #[t,t2]}) ty).run P w= .ok (.value (.slice (some ⟨n,0,none⟩) (k+m) cap)) (w.putObj n (Cl ((cells++new)++junk.drop (m*sz)) e)):=by
     rw[start];simp[Builtin.append_,slQ,slC,ht,ht2,hz,Builtin.lenOf,hfirst,hcap',Kh,hst,Sem.run_bind,Result.andThen]
    rw[this];refine⟨_,hO.put (upd_mid (A:=A)), .blk n cap (junk.drop (m*sz)),rfl,⟨hcap',?_⟩,by simp[slH]⟩;rw[List.length_drop,hk2,hmul];omega
  ·have hlt:slC d<k+m:=by omega
   have hnc:=nextcap_le hlt;have hgrow: ¬ 281474976710656<Builtin.nextslicecap (k+m) (slC d)*by':=by
    have:=Nat.mul_le_mul_right by' hnc
    omega
   let cap':=(Question.appendCap (k+m) (slC d) e).cut (w.tape w.drawn (Question.appendCap (k+m) (slC d) e))
   have hcap2:k+m<=cap':=by simp only[cap',Question.cut];omega
   let w1:World:=w.drew
   have hO1:Own w0 (A++(slH d cells e++X)) w1:=hO.drawn;have hfirst1:=G7 (P:=P) (c:=c) hO1 hq hl hn;have hold1:(Builtin.firstCells sz k (slV d k)).run P w1= .ok cells.toArray w1:=by
    refine G7 (H:=slH d cells e++X) hO1.drop ?_ hc fun i v hi=>hok.cell hc hi
    by_cases hk:k=0
    ·exact .inl hk
    ·exact .inr (hok.bas qom)
   have hroom:(askRoom (cap'*by')).run P w1= .ok () w1:=by
    unfold askRoom;split<;>simp[mark,Sem.run]
   let junk:=(Builtin.zeroCells z.cells (cap' - (k+m))).toList
   have this:(exO (ev (lk L b)) (.call {callee:= .builtin .append,args:= #[x,y],argTypes:= #[t,t2]}) ty).run P w= .ok (.value (.slice (some ⟨w.heap.size,0,none⟩) (k+m) cap')) (w1.alloc (Cl ((cells++new)++junk) e)):=by
    rw[start];have harr:cells.toArray++(new.toArray++Builtin.zeroCells z.cells (cap' - (k+m)))=((cells++new)++junk).toArray:=by
     apply Array.ext';simp[junk]
    have hnr:(newRow e (cells.toArray++(new.toArray++Builtin.zeroCells z.cells (cap' - (k+m))))).run P w1= .ok ⟨w.heap.size,0,none⟩ (w1.alloc (Cl ((cells++new)++junk) e)):=by
     rw[harr];exact F8 (P:=P) w1 e ((cells++new)++junk)
    have hcut:(Question.appendCap (k+m) (slC d) e).cut (w.tape w.drawn (Question.appendCap (k+m) (slC d) e))=cap':=rfl;have hw1:w.drew=w1:=rfl;simp[Builtin.append_,ht,ht2,hz,hi,hby,hb0,Builtin.lenOf,hcap,hgrow,Question.forced,hcut,hw1,hroom,hold1,hfirst1,hzv,hnr,Sem.run_bind,Result.andThen, -List.append_assoc]
   rw[this];have hO2:=hO1.alloc (Cl ((cells++new)++junk) e);refine⟨A++(slH (.blk w.heap.size cap' junk) (cells++new) e++X),?_, .blk w.heap.size cap' junk,rfl,⟨hcap2,by simp only[junk];rw[zero_len hzs]⟩,rfl⟩;have hsub:((w.heap.size,Cl ((cells++new)++junk) e)::(A++X)).Sublist ((w1.heap.size,Cl ((cells++new)++junk) e)::(A++(slH d cells e++X))):=List.Sublist.cons_cons _ ((List.Sublist.refl A).append (List.sublist_append_right _ _));refine C2 (hO2.sub hsub) ?_;simp only[slH,List.cons_append,List.nil_append];exact List.perm_middle.symm⟩
theorem Gq {α:Type}{enc:α->List Value}(v:α){A X:List (Nat × Obj)}{d:Sl}{l:List α}{n sz by':Nat}{z:Value}{i0:TypeInfo}{e2:TypeId}(hx:Ev L x (slV d l.length))(hy:Ev L y (.slice (some ⟨n,0,none⟩) 1 1))
  (ht:∀ w,(underlying t).run P w= .ok (.slice e) w) (ht2:∀ w,(underlying t2).run P w= .ok (.slice e2) w) (hz:∀ w,(sizeOf e).run P w= .ok sz w) (hi:∀ w,(typeInfo e).run P w= .ok i0 w) (hby:i0.bytes=by') (hzv:∀ w,(zeroValue e).run P w= .ok z w) (hzs:z.cells.size=sz)
  (he:∀ u,(enc u).length=sz) (h1:(enc v).all oneB=true) (hok:SlOk d l.length sz) (hb0:by'≠0) (hb:(2*(l.length+1)+600)*by'<=281474976710656) (hn:Cells w0 (A++(slH d (l.flatMap enc) e++X)) n 0 (enc v):=by exact A2):
  Eff P w0 (.call {callee:= .builtin .append,args:= #[x,y],argTypes:= #[t,t2]}) ty L (A++(slH d (l.flatMap enc) e++X)) (fun u H'=>∃ d',u=slV d' (l.length+1)/\SlOk d' (l.length+1) sz/\H'=A++(slH d' ((l++[v]).flatMap enc) e++X)):=by
 have h:=eff_append (P:=P) (w0:=w0) (L:=L) (ty:=ty) (A:=A) (X:=X) (d:=d) (cells:=l.flatMap enc) (new:=enc v) (k:=l.length) (m:=1) hx hy ht ht2 hz hi hby hzv hzs (.inr U) (by rw[he,Nat.one_mul]) hn h1 (Da he l) hok hb0 hb;rw[List.flatMap_append]
 simpa using h
end
def YSpec (P:Program) (w0:World) (l:Nat) (args:List Value) (H:List (Nat × Obj)) (K:Value->List (Nat × Obj)->Prop):Prop:=
 ∀ w,Own w0 H w->∃ fn tmps assign body,(Instr.yield l args.toArray).run P w= .ok (.round l fn tmps assign body) w/\
  RoundIn Fence.wide 0 P l fn tmps assign body w fun e w'=>∃ v H',e= .returned v/\Own w0 H' w'/\K v H'
theorem YSpec.mono {P:Program}{w0:World}{l:Nat}{args:List Value}{H:List (Nat × Obj)}{K K':Value->List (Nat × Obj)->Prop}(h:YSpec P w0 l args H K)(hk:∀ v H',K v H'->K' v H'):YSpec P w0 l args H K':=fun w hO=>
 let ⟨fn,tmps,assign,body,h1,h2⟩:=h w hO
 ⟨fn,tmps,assign,body,h1,h2.mono fun e w' ⟨v,H',a,b,c⟩=>⟨v,H',a,b,hk _ _ c⟩⟩
def IterSpec (P:Program) (w0:World) (gf:FuncId) (cap:List Value) (Hc:List (Nat × Obj)) {α:Type} (enc:α->List Value) (xs:List α):Prop:=
 ∀ (l:Nat) (S:Nat->List (Nat × Obj)->Prop) (Sx:List (Nat × Obj)->Prop),(∀ k H,S k H->Hc.Sublist H)->
  (∀ k x H X,xs[k]? =some x->S k H->YSpec P w0 l (enc x) (X++H) fun v H'=>∃ H1,H'=X++H1/\((v= .bool true/\S (k+1) H1)\/(v= .bool false/\Sx H1)))->
  ∀ H,S 0 H->FSpec P w0 gf (.func (.yield l) #[] #[]::cap).toArray H fun v H'=>S xs.length H'\/Sx H'
theorem eff_yield {P:Program}{w0:World}{l:Nat}{L:Fm}{x:Operand}{xs:List Operand}{vs:List Value}{ts:Array TypeId}{ty:TypeId}{H:List (Nat × Obj)}{K:Value->List (Nat × Obj)->Prop}(hx:Ev L x (.func (.yield l) #[] #[]))(ha:Evs L xs vs)(hy:YSpec P w0 l vs H K):
  Eff P w0 (.call {callee:= .value x,args:=xs.toArray,argTypes:=ts}) ty L H K:=
 ⟨rfl,fun b w hO=>by
  have:=ha.map b;obtain⟨fn,tmps,assign,body,h1,h2⟩:=hy w hO;have e:(exO (ev (lk L b)) (.call {callee:= .value x,args:=xs.toArray,argTypes:=ts}) ty).run P w= .ok (.round l fn tmps assign body) w:=by
   simp[exO,execOp,resolve,invoke,Deferred.ofValue,hx b,this,h1,Sem.run_bind,Result.andThen]
  rw[e];exact h2⟩
def psL:List Nat->List Value->Fm->Fm
 |p::ps,v::vs,L=>psL ps vs ((p,v)::L)
 |_,_,L=>L
theorem psL_fr:∀ (ps:List Nat) (vs:List Value) (tmps:Array Value) (L:Fm) (b:Nat->Value),(∀ p∈ps,p<tmps.size)->(fun k=>tmps.getD k undef)=lk L b->
  (((ps.zip vs).foldl (fun t (p,v)=>t.setIfInBounds p v) tmps).size=tmps.size/\(fun k=>((ps.zip vs).foldl (fun t (p,v)=>t.setIfInBounds p v) tmps).getD k undef)=lk (psL ps vs L) b)
 |[],vs,tmps,L,b,_,h=>⟨rfl,h⟩
 |p::ps,[],tmps,L,b,_,h=>⟨rfl,h⟩
 |p::ps,v::vs,tmps,L,b,hp,h=>by
  simp only[List.zip_cons_cons,List.foldl_cons,psL];have h1:=fr_put (a:={tmps:=tmps,defers:=[]}) (d:=p) (v:=v) (L:=L) (b:=b) (hp p (by simp)) h;have:=psL_fr ps vs (tmps.setIfInBounds p v) ((p,v)::L) b (fun q hq=>by simpa using hp q (by simp[hq])) h1;exact⟨by rw[this.1];simp,this.2⟩
structure LrOk (lr:LoopState->Option Code->Loop):Prop where
 state:∀ s p,(lr s p).state=s
 busy:∀ s p s',{lr s p with state:=s'}=lr s' p
 jump:∀ s p s' p',{lr s p with state:=s',pending:=p'}=lr s' p'
 pend:∀ s p,(lr s p).pending=p
def roundQ (w0:World) {Z:Type} (G:Z->List (Nat × Obj)) (φ:Z->Prop) (φr:Z->Prop) (φe:Nat->Z->Prop):Post
 | .normal,_,_,w=>∃ z,φ z/\Own w0 (G z) w
 | .ret,_,_,w=>∃ z,φr z/\Own w0 (G z) w
 | .exit id,_,_,w=>∃ z,φe id z/\Own w0 (G z) w
 |_,_,_,_=>False
def assignQ (P:Program) (l:Nat) (N:Nat) (body:Code) (Q:Post):Post
 | .normal,σ,ds,w=>∃ w2,(Instr.beginRound l).run P w= .ok () w2/\swp P (some l) N body Q σ ds w2
 |_,_,_,_=>False
section
variable {P:Program} {N:Nat} {w0:World} {Q:Post} {L:Fm} {ds:List Deferred} {H:List (Nat × Obj)}
theorem Ii {l:Nat}{lr:LoopState->Option Code->Loop}{body:Code}{H':List (Nat × Obj)}(hl:LrOk lr)(k:J P (some l) N w0 body Q L ds H')(hu:Upd H l (.loop (lr .ready none)) (.loop (lr .busy none)) H':=by(repeat (first|exact Upd.h|apply Upd.t|apply D7));done):
  JQ w0 (assignQ P l N body Q) .normal L ds H:=fun b w hO=>by
 have h1:=run_beginRound (P:=P) (hO.has _ hu.mem) (hl.state _ _);rw[hl.busy] at h1;exact⟨_,h1,k b _ (hO.put hu)⟩
theorem Em {Z:Type}{G:Z->List (Nat × Obj)}{φ:Z->Prop}{φr:Z->Prop}{φe:Nat->Z->Prop}(z:Z)(h:φ z)(hs:(G z).Sublist H):JQ w0 (roundQ w0 G φ φr φe) .normal L ds H:=fun b w hO=>⟨z,h,hO.sub hs⟩
theorem q_round_ret {Z:Type}{G:Z->List (Nat × Obj)}{φ:Z->Prop}{φr:Z->Prop}{φe:Nat->Z->Prop}(z:Z)(h:φr z)(hs:(G z).Sublist H):JQ w0 (roundQ w0 G φ φr φe) .ret L ds H:=fun b w hO=>⟨z,h,hO.sub hs⟩
theorem Ij {Z:Type}{G:Z->List (Nat × Obj)}{φ:Z->Prop}{φr:Z->Prop}{φe:Nat->Z->Prop}:NoPanic (roundQ w0 G φ φr φe):=⟨fun _ _ _ _ h=>h⟩
theorem G8 {l:Nat}{body:Code}:NoPanic (assignQ P l N body Q):=⟨fun _ _ _ _ h=>h⟩
theorem round_spec {Z:Type}{l f:Nat}{lr:LoopState->Option Code->Loop}{assign body:Code}{tmps:Array Value}{X Y:List (Nat × Obj)}{G:Z->List (Nat × Obj)}{φ:Z->Prop}{φr:Z->Prop}{φe:Nat->Z->Prop}(hl:LrOk lr)
    {b:Nat->Value} (ht:(fun k=>tmps.getD k undef)=lk L b) (hN:tmps.size=N)
    (h:J P (some l) N w0 assign (assignQ P l N body (roundQ w0 (fun z=>X++((l, .loop (lr .busy none))::(Y++G z))) φ φr φe)) L [] H) {w:World} (hO:Own w0 H w):
    RoundIn Fence.wide 0 P l f tmps assign body w fun e w'=>∃ v H',e= .returned v/\Own w0 H' w'/\
      ((v= .bool true/\∃ z,φ z/\H'=X++((l, .loop (lr .ready none))::(Y++G z)))\/
       (v= .bool false/\∃ z,(φr z/\H'=X++((l, .loop (lr .done (some .ret)))::(Y++G z)))\/∃ id,φe id z/\H'=X++((l, .loop (lr .done (some (.exit id))))::(Y++G z)))):=by
  refine roundIn_of_wpIn trivial ?_;refine wpIn_mono (h b w hO {tmps:=tmps,defers:=[]} hN ht U) ?_;intro e a w1 hq;obtain⟨hs,hq⟩:=hq;cases e<;>first|exact hq.elim|skip
  obtain⟨w2,hb,hbody⟩:=hq;refine⟨w2,hb,wpIn_mono (hbody a hs U U) ?_⟩;intro e a2 w3 hq;obtain⟨hs2,hq⟩:=hq;have fin:∀ (jump:Option Code) (z:Z),Own w0 (X++((l, .loop (lr .busy none))::(Y++G z))) w3->
      (Instr.endRound l jump).run P w3= .ok (.bool jump.isNone) (w3.putObj l (.loop (lr (if jump.isNone then .ready else .done) jump)))/\
      Own w0 (X++((l, .loop (lr (if jump.isNone then .ready else .done) jump))::(Y++G z))) (w3.putObj l (.loop (lr (if jump.isNone then .ready else .done) jump))):=fun jump z hO3=>by
    have hh:w3.heap[l]? =some (.loop (lr .busy none)):=hO3.has (l,_) (by simp);have h1:=run_endRound (P:=P) jump hh;rw[hl.jump] at h1;exact⟨h1,hO3.put upd_mid⟩
  cases e with
  |normal=>
    obtain⟨z,hz,hO3⟩:=hq;obtain⟨h1,h2⟩:=fin none z hO3;exact⟨_,_,h1,_,_,rfl,h2, .inl ⟨rfl,z,hz,rfl⟩⟩
  |ret=>
    obtain⟨z,hz,hO3⟩:=hq;obtain⟨h1,h2⟩:=fin (some .ret) z hO3;exact⟨_,_,h1,_,_,rfl,h2, .inr ⟨rfl,z, .inl ⟨hz,rfl⟩⟩⟩
  |exit id=>
    obtain⟨z,hz,hO3⟩:=hq;obtain⟨h1,h2⟩:=fin (some (.exit id)) z hO3;exact⟨_,_,h1,_,_,rfl,h2, .inr ⟨rfl,z, .inr ⟨id,hz,rfl⟩⟩⟩
  |goto t=>exact hq.elim
  |panic ch=>exact hq.elim
  |outgrown=>exact hq.elim
theorem J0 {α Z:Type}{g:Operand}{ps:List Nat}{assign body:Code}{gf:FuncId}{cap:List Value}{Hc:List (Nat × Obj)}{enc:α->List Value}{xs:List α}
  (hg:Ev L g (.func (.func gf) #[] cap.toArray)) (hc:∀ args w,(callFunc gf args).run P w= .ok (.enter gf args) w) (it:IterSpec P w0 gf cap Hc enc xs) (hps:∀ x,(enc x).length=ps.length) (hpN:(ps.all fun p=>Nat.blt p N)=true)
  (G:Z->List (Nat × Obj)) (φ:Nat->Z->Prop) (φr:Z->Prop) (φe:Nat->Z->Prop) (z0:Z) (h0:φ 0 z0) (hG:(G z0).Sublist H) (hHc:∀ z,Hc.Sublist (G z))
  (round:∀ (l:Nat) (lr:LoopState->Option Code->Loop) (Y X:List (Nat × Obj)) (k:Nat) (x:α) (z:Z),LrOk lr->xs[k]? =some x->φ k z->
   J P (some l) N w0 assign (assignQ P l N body (roundQ w0 (fun z=>X++((l, .loop (lr .busy none))::(Y++G z))) (φ (k+1)) φr φe)) (psL ps (enc x) L) [] (X++((l, .loop (lr .ready none))::(Y++G z))))
  (done:∀ D z,φ xs.length z->JQ w0 Q .normal L ({target:= .collected D,args:= #[]}::ds) ((D, .deferred (some []))::G z))
  (stopR:∀ D z,φr z->JQ w0 Q .ret L ({target:= .collected D,args:= #[]}::ds) ((D, .deferred (some []))::G z))
  (stopE:∀ id D z,φe id z->JQ w0 Q (.exit id) L ({target:= .collected D,args:= #[]}::ds) ((D, .deferred (some []))::G z)):
  J P none N w0 (.rangeFunc g ps.toArray assign body) Q L ds H:=fun b w hO a hsz hf hd=>by
 refine wpIn_rangeFunc ?_;intro fn _;have hO':=hO.sub hG;obtain⟨lr,hlr⟩:∃ lr:LoopState->Option Code->Loop,lr=fun st pe=>{state:=st,pending:=pe,fn,tmps:=a.tmps,params:=ps.toArray,assign,body,defers:=w.heap.size}:=⟨_,rfl⟩
 have hl:LrOk lr:=by subst hlr;exact⟨fun _ _=>rfl,fun _ _ _=>rfl,fun _ _ _ _=>rfl,fun _ _=>rfl⟩
 have hO1:=(hO'.alloc (.deferred (some []))).alloc (.loop (lr .ready none));rw[World.size_alloc] at hO1;obtain⟨D,hDw⟩:∃ D,D=w.heap.size:=⟨_,rfl⟩;obtain⟨l,hlw⟩:∃ l,l=w.heap.size+1:=⟨_,rfl⟩;rw[<- hlw,<- hDw] at hO1;have hcond:=it l (fun k H=>∃ z,φ k z/\H=(l, .loop (lr .ready none))::([(D, .deferred (some []))]++G z))
  (fun H=>∃ z,(φr z/\H=(l, .loop (lr .done (some .ret)))::([(D, .deferred (some []))]++G z))\/∃ id,φe id z/\H=(l, .loop (lr .done (some (.exit id))))::([(D, .deferred (some []))]++G z))
  (fun k H ⟨z,_,hH⟩=>by rw[hH];exact((hHc z).cons _).cons _)
  (fun k x H X hx ⟨z,hz,hH⟩ w hOw=>by
   rw[hH] at hOw;have hh:w.heap[l]? =some (.loop (lr .ready none)):=hOw.has (l,_) (by simp);have hy:=run_yield (P:=P) (args:=(enc x).toArray) hh (by rw[hlr];simpa using hps x);have htm:a.tmps.size=N:=hsz;have hp:=psL_fr ps (enc x) a.tmps L b (fun p hp=>by have:=List.all_eq_true.1 hpN p hp;rw[htm];simpa[Nat.blt_eq] using this) hf;refine⟨_,_,_,_,hy,?_⟩;have h1:=round_spec (P:=P) (f:=(lr .ready none).fn) (tmps:=(ps.zip (enc x)).foldl (fun t (p,v)=>t.setIfInBounds p v) a.tmps) (X:=X) (Y:=[(D, .deferred (some []))]) (G:=G) (φ:=φ (k+1)) (φr:=φr) (φe:=φe) hl hp.2 (by rw[hp.1];exact htm) (round l lr [(D, .deferred (some []))] X k x z hl hx hz) hOw;have e1:(lr .ready none).assign=assign:=by rw[hlr]
   have e2:(lr .ready none).body=body:=by rw[hlr]
   have e3:((lr .ready none).params.zip (enc x).toArray).foldl (fun tmps (p:Tmp × Value)=>tmps.setIfInBounds p.1 p.2) (lr .ready none).tmps=(ps.zip (enc x)).foldl (fun t (p,v)=>t.setIfInBounds p v) a.tmps:=by rw[hlr];simp
   rw[e1,e2];refine RoundIn.mono (by rw[<- e3] at h1;exact h1) ?_;rintro e w' ⟨v,H',he,hO2,hcs⟩;refine⟨v,H',he,hO2,?_⟩;rcases hcs with ⟨hv,z',hz',hH'⟩|⟨hv,z',hcs⟩
   ·exact⟨_,hH', .inl ⟨hv,z',hz',rfl⟩⟩
   ·rcases hcs with ⟨hz',hH'⟩|⟨id,hz',hH'⟩
    ·exact⟨_,hH', .inr ⟨hv,z', .inl ⟨hz',rfl⟩⟩⟩
    ·exact⟨_,hH', .inr ⟨hv,z', .inr ⟨id,hz',rfl⟩⟩⟩)
  ((l, .loop (lr .ready none))::([(D, .deferred (some []))]++G z0)) ⟨z0,h0,rfl⟩
 refine⟨l,[{target:= .collected D,args:= #[]}],(w.alloc (.deferred (some []))).alloc (.loop (lr .ready none)),{target:= .fn (.func gf) cap.toArray,args:= #[.func (.yield l) #[] #[]]},(w.alloc (.deferred (some []))).alloc (.loop (lr .ready none)),gf,(.func (.yield l) #[] #[]::cap).toArray,(w.alloc (.deferred (some []))).alloc (.loop (lr .ready none)),?enter,?res,fun f' _=>trivial,?inv,Kv none,F6 (r:=none) ?call⟩
 case call=>
  refine(hcond _ hO1).mono ?_;rintro e w3 ⟨v,H',he,hO3,hcs⟩;subst he;have fin:∀ (s:LoopState) (p:Option Code) (z:Z),s≠.busy->Own w0 ((l, .loop (lr s p))::([(D, .deferred (some []))]++G z)) w3->(Instr.endLoop l).run P w3= .ok p (w3.putObj l (.loop {lr s p with state:= .exhausted}))/\Own w0 ((D, .deferred (some []))::G z) (w3.putObj l (.loop {lr s p with state:= .exhausted})):=fun s p z hne hO3=>by
   have hh:w3.heap[l]? =some (.loop (lr s p)):=hO3.has (l,_) (by simp);have h1:=run_endLoop (P:=P) hh (by rw[hl.state];exact hne);exact⟨h1.trans (congrArg (fun q=>Result.ok q _) (hl.pend s p)),(hO3.put .h).tail⟩
  have key:∀ e z,(∀ w,Own w0 ((D, .deferred (some []))::G z) w->Q e (lk L b) ({target:= .collected D,args:= #[]}::ds) w)->∀ w,Own w0 ((D, .deferred (some []))::G z) w->LQ N Q e {a with defers:=[{target:= .collected D,args:= #[]}]++a.defers} w:=fun e z h w hOw=>⟨hsz,by
   have:=h w hOw;have hf':fr {a with defers:=[{target:= .collected D,args:= #[]}]++a.defers}=lk L b:=hf;rw[hf'];simp only[List.cons_append,List.nil_append,hd];exact this⟩
  rcases hcs with ⟨z,hz,hH'⟩|⟨z,hcs⟩
  ·rw[hH'] at hO3;obtain⟨h1,h2⟩:=fin _ _ z (by simp) hO3;exact⟨none,_,h1,key .normal z (fun w hw=>done D z hz b w hw) _ h2⟩
  ·rcases hcs with ⟨hz,hH'⟩|⟨id,hz,hH'⟩
   ·rw[hH'] at hO3;obtain⟨h1,h2⟩:=fin _ _ z (by simp) hO3;exact⟨some .ret,_,h1,wpIn_ret (key .ret z (fun w hw=>stopR D z hz b w hw) _ h2)⟩
   ·rw[hH'] at hO3;obtain⟨h1,h2⟩:=fin _ _ z (by simp) hO3;exact⟨some (.exit id),_,h1,wpIn_exit (key (.exit id) z (fun w hw=>stopE id D z hz b w hw) _ h2)⟩
 case enter=>
  have:=run_enterLoop_outer (P:=P) (w:=w) fn a.tmps ps.toArray assign body;rw[hlr,hlw,hDw];exact this
 case res=>
  have hgb:=hg b;rw[<- hf,<- G5] at hgb;have e:resolve a.eval (rangeCall g l) 0=Deferred.ofValue (a.eval g) #[.func (.yield l) #[] #[]]:=by
   unfold resolve;simp only[List.map_toArray,List.map_cons,List.map_nil]
   rfl
  rw[e];rw[hgb];simp[Deferred.ofValue]
 case inv=>simp[invoke,hc]
theorem Eg {fn:Func}{K:Value->List (Nat × Obj)->Prop}{D:Nat}{H':List (Nat × Obj)}(k:JQ w0 (retQ P fn w0 K) .ret L ds H')(hu:Upd H D (.deferred (some [])) (.deferred none) H':=by(repeat (first|exact Upd.h|apply Upd.t|apply D7));done):
  JQ w0 (retQ P fn w0 K) .ret L ({target:= .collected D,args:= #[]}::ds) H:=fun b w hO=>⟨D,_,rfl,run_takeDeferred (hO.has _ hu.mem),k b _ (hO.put hu)⟩
theorem q_mark_end {fn:Func}{K:Value->List (Nat × Obj)->Prop}{D:Nat}{H':List (Nat × Obj)}(k:JQ w0 (retQ P fn w0 K) .normal L ds H')(hu:Upd H D (.deferred (some [])) (.deferred none) H':=by(repeat (first|exact Upd.h|apply Upd.t|apply D7));done):
  JQ w0 (retQ P fn w0 K) .normal L ({target:= .collected D,args:= #[]}::ds) H:=fun b w hO=>⟨D,_,rfl,run_takeDeferred (hO.has _ hu.mem),k b _ (hO.put hu)⟩
end
section
variable {K V:Type} [DecidableEq K]
def ents (encK:K->Value) (encV:V->Value) (l:List (K × V)):List MapEntry:=l.zipIdx.map fun p=>{key:=encK p.1.1,val:=encV p.1.2,born:=p.2}
def mapO (encK:K->Value) (encV:V->Value) (l:List (K × V)):Obj:= .map (ents encK encV l).toArray l.length
def findI (k:K):List (K × V)->Nat->Option (Nat × V)
 |[],_=>none
 |e::l,i=>if e.1=k then some (i,e.2) else findI k l (i+1)
def look (l:List (K × V)) (k:K):Option V:=(findI k l 0).map (·.2)
def upsert (l:List (K × V)) (k:K) (v:V):List (K × V):=
 match findI k l 0 with
 |some (i,_)=>l.set i (k,v)
 |none=>l++[(k,v)]
theorem Fl (k:K):∀ (l:List (K × V)) (i:Nat),findI k l i=(findI k l 0).map fun p=>(p.1+i,p.2)
 |[],i=>rfl
 |e::l,i=>by
  unfold findI
  split
  ·simp
  ·rw[Fl k l (i+1),Fl k l (0+1)];cases findI k l 0<;>simp;omega
theorem Db (e:K × V)(l:List (K × V))(k:K):look (e::l) k=if e.1=k then some e.2 else look l k:=by
 unfold look;rw[findI]
 split
 ·rfl
 ·rw[Fl];cases findI k l 0<;>rfl
theorem Dl (e:K × V)(l:List (K × V))(k:K)(v:V):upsert (e::l) k v=if e.1=k then (k,v)::l else e::upsert l k v:=by
 unfold upsert;rw[findI]
 by_cases h:e.1=k
 ·simp[h]
 ·simp only[h,if_false];rw[Fl];cases findI k l 0 with
  |none=>simp
  |some p=>simp
theorem look_upsert (l:List (K × V))(k:K)(v:V)(k':K):look (upsert l k v) k'=if k=k' then some v else look l k':=by
 induction l with
 |nil=>unfold upsert;simp only[findI];rw[List.nil_append,Db]
 |cons e l ih=>
  rw[Dl]
  by_cases h:e.1=k
  ·rw[if_pos h,Db,Db]
   by_cases h2:k=k'
   ·simp[h2]
   ·rw[if_neg h2,if_neg h2,if_neg (by rw[h];exact h2)]
  ·rw[if_neg h,Db,Db,ih]
   by_cases h2:e.1=k'
   ·rw[if_pos h2,if_pos h2,if_neg (by intro h3;exact h (h2.trans h3.symm))]
   ·rw[if_neg h2,if_neg h2]
theorem ents_append (encK:K->Value)(encV:V->Value)(l:List (K × V))(k:K)(v:V):ents encK encV (l++[(k,v)])=ents encK encV l++[{key:=encK k,val:=encV v,born:=l.length}]:=by
 unfold ents;rw[List.zipIdx_append,List.map_append];simp
theorem findI_lt {k:K}{l:List (K × V)}{i n:Nat}{v:V}(h:findI k l n=some (i,v)):n<=i/\i - n<l.length/\l[i - n]? =some (k,v):=by
 induction l generalizing n with
 |nil=>cases h
 |cons e l ih=>
  unfold findI at h
  split at h
  ·rename_i he;simp only[Option.some.injEq,Prod.mk.injEq] at h;obtain⟨rfl,rfl⟩:=h;refine⟨Nat.le_refl _,by simp,?_⟩;simp[<- he]
  ·obtain⟨h1,h2,h3⟩:=ih h;refine⟨by omega,by simp;omega,?_⟩;rw[show i - n=(i - (n+1))+1 by omega];simpa using h3
theorem Fr (encK:K->Value)(encV:V->Value)(l:List (K × V))(i:Nat):(ents encK encV l)[i]? =(l[i]?).map fun p=>{key:=encK p.1,val:=encV p.2,born:=i}:=by
 unfold ents;rw[List.getElem?_map,List.getElem?_zipIdx];cases l[i]? <;>simp
theorem ents_set (encK:K->Value)(encV:V->Value)(l:List (K × V))(i:Nat)(k:K)(v:V):(ents encK encV l).toArray.modify i (fun e=>{e with key:=encK k,val:=encV v})=(ents encK encV (l.set i (k,v))).toArray:=by
 apply Array.ext';apply List.ext_getElem?;intro j;rw[Fr];simp only[Array.toList_modify,List.getElem?_modify,Fr,List.getElem?_set]
 by_cases hij:i=j
 ·subst hij
  by_cases hl:i<l.length
  ·simp[hl]
  ·simp[hl]
 ·simp[hij]
variable {P:Program} {kt:TypeId} {encK:K->Value} {encV:V->Value}
structure KeyOk (P:Program) (kt:TypeId) (encK:K->Value):Prop where
 chk:∀ b k w,(Instr.checkKey b 10000 kt (encK k)).run P w= .ok () w
 find:∀ (encV:V->Value) (l:List (K × V)) k w,(Instr.findKey kt (encK k) (ents encK encV l)).run P w= .ok ((findI k l 0).map fun p=>(p.1,encV p.2)) w
 bits:∀ k,Instr.sameBits 10000 (encK k) (encK k)=true
theorem findNow_eq {td:TypeDesc}(h:∀ k k',Instr.sameNow td (encK k) (encK k')=some (decide (k'=k)))(k:K):∀ (l:List (K × V)) (i n:Nat),Instr.findNow td (encK k) ((l.zipIdx n).map fun p=>{key:=encK p.1.1,val:=encV p.1.2,born:=p.2}) i=some ((findI k l i).map fun p=>(p.1,encV p.2))
 |[],i,n=>rfl
 |e::l,i,n=>by
  simp only[List.zipIdx_cons,List.map_cons,Instr.findNow,h];rw[findI]
  by_cases he:e.1=k
  ·simp[he]
  ·simp only[he,decide_false,if_false];exact findNow_eq h k l (i+1) (n+1)
theorem keyOk_now {td:TypeDesc}(ht:∀ w,(underlying kt).run P w= .ok td w)(hc:∀ b k w,(Instr.checkKey b 10000 kt (encK k)).run P w= .ok () w)(h:∀ k k',Instr.sameNow td (encK k) (encK k')=some (decide (k'=k)))(hb:∀ k,Instr.sameBits 10000 (encK k) (encK k)=true):KeyOk (V:=V) P kt encK:=
 ⟨hc,fun encV l k w=>by
  unfold Instr.findKey;simp only[Sem.run_bind,ht,Result.andThen];rw[show ents encK encV l=(l.zipIdx 0).map fun p=>{key:=encK p.1.1,val:=encV p.1.2,born:=p.2} from rfl,findNow_eq h k l 0 0];simp,hb⟩
theorem findAsk_eq (h:∀ k k' w,(Op.equal kt (encK k) (encK k')).run P w= .ok (decide (k'=k)) w)(k:K)(w:World):∀ (l:List (K × V)) (i n:Nat),(Instr.findAsking kt (encK k) ((l.zipIdx n).map fun p=>{key:=encK p.1.1,val:=encV p.1.2,born:=p.2}) i).run P w= .ok ((findI k l i).map fun p=>(p.1,encV p.2)) w
 |[],i,n=>rfl
 |e::l,i,n=>by
  simp only[List.zipIdx_cons,List.map_cons,Instr.findAsking,Sem.run_bind,h,Result.andThen];rw[findI]
  by_cases he:e.1=k
  ·simp[he]
  ·simp only[he,decide_false,if_false,Bool.false_eq_true];exact findAsk_eq h k w l (i+1) (n+1)
theorem Fs {td:TypeDesc}(ht:∀ w,(underlying kt).run P w= .ok td w)(hc:∀ b k w,(Instr.checkKey b 10000 kt (encK k)).run P w= .ok () w)(hn:∀ k k',Instr.sameNow td (encK k) (encK k')=none)(h:∀ k k' w,(Op.equal kt (encK k) (encK k')).run P w= .ok (decide (k'=k)) w)(hb:∀ k,Instr.sameBits 10000 (encK k) (encK k)=true):KeyOk (V:=V) P kt encK:=
 ⟨hc,fun encV l k w=>by
  unfold Instr.findKey;simp only[Sem.run_bind,ht,Result.andThen];cases l with
  |nil=>rfl
  |cons e l=>
   have h1:Instr.findNow td (encK k) (ents encK encV (e::l)) 0=none:=by simp[ents,List.zipIdx_cons,Instr.findNow,hn]
   rw[h1];exact findAsk_eq h k w (e::l) 0 0,hb⟩
variable {w0:World} {L:Fm} {H:List (Nat × Obj)} {ty t et:TypeId} {x y z:Operand}
theorem Fb {w:World}{r:Nat}{es:Array MapEntry}{c:Nat}(h:w.heap[r]? =some (.map es c)):(getObj r).run P w= .ok (.map es c) w:=by simp[getObj,Sem.run,h]
theorem run_setMap {w:World}{r:Nat}{es:Array MapEntry}{c:Nat}(o:Obj)(h:w.heap[r]? =some (.map es c)):(setObj r o).run P w= .ok () (w.putObj r o):=by simp[setObj,Sem.run,h,World.putObj]
theorem run_lookup {w:World}{r:Nat}{l:List (K × V)}{k:K}{zv:Value}{ok:Bool}(hk:KeyOk (V:=V) P kt encK)(ht:∀ w,(underlying t).run P w= .ok (.map kt et) w)(hz:∀ w,(zeroValue et).run P w= .ok zv w)(h:w.heap[r]? =some (mapO encK encV l)):
  (Instr.lookup t (.map (some r)) (encK k) ok).run P w= .ok (if ok then .tuple #[((look l k).map encV).getD zv, .bool (look l k).isSome] else ((look l k).map encV).getD zv) w:=by
 have hg:=Fb (P:=P) h;unfold Instr.lookup;simp only[Sem.run_bind,ht,Result.andThen,hg,Sem.run_pure,hk.chk];have hf:=hk.find encV l k w;rw[hf];unfold look;cases findI k l 0 with
 |none=>simp[hz,Sem.run_bind,Result.andThen]
 |some p=>simp
theorem G9 {r:Nat}{l:List (K × V)}{k:K}{zv v:Value}(hk:KeyOk (V:=V) P kt encK)(hx:Ev L x (.map (some r)))(hy:Ev L y v)(hv:v=encK k)(ht:∀ w,(underlying t).run P w= .ok (.map kt et) w)(hz:∀ w,(zeroValue et).run P w= .ok zv w)
  (hf:Fnd H r (mapO encK encV l):=by(repeat (first|exact Ba|refine Av ?_|refine A6 ?_));done):Yl P w0 (.lookup t x y false) ty L H (((look l k).map encV).getD zv):=Kf U fun H' hs b w hO=>by
 have h:=run_lookup (P:=P) (k:=k) (ok:=false) hk ht hz ((hO.sub hs).has _ hf);subst hv;simp[exO,execOp,hx b,hy b,h,Sem.run_bind,Result.andThen]
theorem Ga {r:Nat}{l:List (K × V)}{k:K}{zv v:Value}(hk:KeyOk (V:=V) P kt encK)(hx:Ev L x (.map (some r)))(hy:Ev L y v)(hv:v=encK k)(ht:∀ w,(underlying t).run P w= .ok (.map kt et) w)(hz:∀ w,(zeroValue et).run P w= .ok zv w)
  (hf:Fnd H r (mapO encK encV l):=by(repeat (first|exact Ba|refine Av ?_|refine A6 ?_));done):Yl P w0 (.lookup t x y true) ty L H (.tuple #[((look l k).map encV).getD zv, .bool (look l k).isSome]):=Kf U fun H' hs b w hO=>by
 have h:=run_lookup (P:=P) (k:=k) (ok:=true) hk ht hz ((hO.sub hs).has _ hf);subst hv;simp[exO,execOp,hx b,hy b,h,Sem.run_bind,Result.andThen]
theorem yl_lookupB {encB:Bool->Value}(he:encB=fun b=> .bool b){r:Nat}{l:List (K × Bool)}{k:K}{v:Value}(hk:KeyOk (V:=Bool) P kt encK)(hx:Ev L x (.map (some r)))(hy:Ev L y v)(hv:v=encK k)(ht:∀ w,(underlying t).run P w= .ok (.map kt et) w)(hz:∀ w,(zeroValue et).run P w= .ok (.bool false) w)
  (hf:Fnd H r (mapO encK encB l):=by(repeat (first|exact Ba|refine Av ?_|refine A6 ?_));done):Yl P w0 (.lookup t x y false) ty L H (.bool ((look l k).getD false)):=by
 have h:=G9 (P:=P) (w0:=w0) (ty:=ty) hk hx hy hv ht hz hf;subst he;cases hl:look l k with
 |none=>rw[hl] at h;exact h
 |some b=>rw[hl] at h;exact h
theorem C5 {r:Nat}{l:List (K × V)}(k:K)(u:V){v v':Value}{H':List (Nat × Obj)}(hk:KeyOk (V:=V) P kt encK)(hx:Ev L x (.map (some r)))(hy:Ev L y v)(hv:v=encK k)(hz:Ev L z v')(hv':v'=encV u)(ht:∀ w,(underlying t).run P w= .ok (.map kt et) w)
  (hu:Upd H r (mapO encK encV l) (mapO encK encV (upsert l k u)) H':=by(repeat (first|exact Upd.h|apply Upd.t|apply D7));done):Eff P w0 (.mapUpdate t x y z) ty L H (Still undef H'):=
 ⟨rfl,fun b w hO=>by
  subst hv hv';have hh:=hO.has _ hu.mem;have hg:=Fb (P:=P) hh;have hf:=hk.find encV l k w;have h1:(exO (ev (lk L b)) (.mapUpdate t x y z) ty).run P w= .ok .skip (w.putObj r (mapO encK encV (upsert l k u))):=by
   simp only[exO,execOp,hx b,hy b,hz b];unfold Instr.mapUpdate;simp only[Sem.run_bind,ht,Result.andThen,hg,hk.chk,hf];unfold upsert;cases hi:findI k l 0 with
   |none=>
    have hs:=run_setMap (P:=P) (.map ((ents encK encV l).toArray.push {key:=encK k,val:=encV u,born:=l.length}) (l.length+1)) hh;simp only[Option.map_none,hs,Sem.run_pure];simp[mapO,ents_append]
   |some p=>
    obtain⟨i,v0⟩:=p;obtain⟨_,h2,h3⟩:=findI_lt hi;have he:(ents encK encV l).toArray[i]? =some {key:=encK k,val:=encV v0,born:=i}:=by
     rw[List.getElem?_toArray,Fr];simp at h3;simp[h3]
    have hs:=run_setMap (P:=P) (.map ((ents encK encV l).toArray.modify i (fun e=>{e with key:=encK k,val:=encV u})) l.length) hh;simp only[Option.map_some,he,Option.getD_some,Instr.keyThatStays,hk.bits,if_true,Sem.run_pure,Sem.run_bind,Result.andThen,hs];rw[ents_set];simp[mapO]
  rw[h1];exact⟨_,hO.put hu,rfl,rfl⟩⟩
theorem Fnd.mono {H H':List (Nat × Obj)}{n:Nat}{o:Obj}(h:Fnd H n o)(hs:H.Sublist H':=by exact sbt):Fnd H' n o:=hs.subset h
inductive Loc:List (Nat × Obj)->Nat->Obj->List (Nat × Obj)->(Obj->List (Nat × Obj))->Prop
 |h {H r o}:Loc ((r,o)::H) r o H (fun o'=>(r,o')::H)
 |t {H r o R F e}:Loc H r o R F->Loc (e::H) r o (e::R) (fun o'=>e::F o')
theorem Loc.a {X H:List (Nat × Obj)}{r:Nat}{o:Obj}{R:List (Nat × Obj)}{F:Obj->List (Nat × Obj)}(h:Loc H r o R F):Loc (X++H) r o (X++R) (fun o'=>X++F o'):=by
 induction X with
 |nil=>exact h
 |cons e X ih=>exact .t ih
theorem Loc.perm {H:List (Nat × Obj)}{r:Nat}{o:Obj}{R:List (Nat × Obj)}{F:Obj->List (Nat × Obj)}(h:Loc H r o R F):H.Perm ((r,o)::R)/\∀ o',(F o').Perm ((r,o')::R):=by
 induction h with
 |h=>exact⟨List.Perm.refl _,fun _=>List.Perm.refl _⟩
 |t _ ih=>exact⟨(ih.1.cons _).trans (List.Perm.swap _ _ _),fun o'=>((ih.2 o').cons _).trans (List.Perm.swap _ _ _)⟩
theorem spec_at {β:Type}{w0:World}{f:FuncId}{args:Array Value}{H R:List (Nat × Obj)}{r:Nat}{o:Obj}{F:Obj->List (Nat × Obj)}{φ:Value->β->Prop}{o':β->Obj}(h:FSpec P w0 f args ((r,o)::R) (fun v H'=>∃ x,φ v x/\H'=(r,o' x)::R))
  (hl:Loc H r o R F:=by(repeat (first|exact Loc.h|apply Loc.t|apply Loc.a));done):FSpec P w0 f args H (fun v H'=>∃ x,φ v x/\H'=F (o' x)):=fun w hO=>
 (h w (C2 hO hl.perm.1)).mono fun e w' ⟨v,H',he,hO',x,hx,hH⟩=>⟨v,_,he,C2 (hH ▸ hO') (hl.perm.2 _).symm,x,hx,rfl⟩
end
end Go.Proofs.YtnafbfbfmgfcfaaGreatDoor
namespace Go.Proofs.YtnafbfbfmgfcfaaGreatDoor
open _root_.Go.Proofs.Tryz
open Go.RowKit Go.Sort
set_option linter.unusedVariables false
set_option linter.unusedSimpArgs false
set_option linter.unusedSectionVars false
set_option maxRecDepth 100000
theorem Own.ahead {w0 w:World}{H:List (Nat × Obj)}(h:Own w0 H w)(n:Nat):Own w0 H (Sort.ahead w n):=
 ⟨⟨h.below.os,h.below.tape,h.below.output,h.below.size,h.below.block⟩,h.has,h.base,h.nodup,Nat.le_trans h.drw (Nat.le_add_right _ _)⟩
theorem Own.grow {w0 w:World}{H:List (Nat × Obj)}(h:Own w0 H w)(os:Array Obj):Own w0 H (Sort.grow w os):=by
 have key:∀ k o,w.heap[k]? =some o->(w.heap++os)[k]? =some o:=fun k o hk=>by
  have:=(Array.getElem?_eq_some_iff.1 hk).1;rw[Array.getElem?_append_left this];exact hk
 refine⟨⟨h.below.os,h.below.tape,h.below.output,?_,fun k hk=> ?_⟩,fun e he=>key _ _ (h.has e he),h.base,h.nodup,h.drw⟩
 ·show w0.heap.size<=(w.heap++os).size;have:=h.below.size;simp;omega
 ·show (w.heap++os)[k]? =_;rw[<- h.below.block k hk];have:=h.below.size;rw[Array.getElem?_append_left qom]
theorem map_put {w:World}{n:Nat}{c:Array Value}{e:TypeId}{f:Nat × Nat}(g:Array Value->Array Value)(h:w.heap[n]? =some (.cells c e f)):mapBlock w n g=w.putObj n (.cells (g c) e f):=by
 unfold mapBlock World.putObj
 congr 1
 apply Array.ext_getElem?;intro k;simp only[Array.getElem?_modify,Array.getElem?_setIfInBounds]
 by_cases hk:n=k
 ·subst hk;obtain⟨h1,h2⟩:=Array.getElem?_eq_some_iff.1 h;simp[h1,h2,onCells]
 ·simp[hk]
section
variable {α:Type} [Inhabited α] {w0 w:World} {n:Nat} {junk:List Value} {e:TypeId} {X:List (Nat × Obj)} {enc:α->Value}
theorem put_list {old:List Value}{l:List α}(hl:old.length=l.length):putCells enc 0 l.toArray (old++junk).toArray=(l.map enc++junk).toArray:=by
 unfold putCells;apply Array.ext_getElem?;intro k;simp only[Array.getElem?_mapIdx,List.getElem?_toArray,List.size_toArray,Nat.zero_le,true_and,Nat.zero_add,Nat.sub_zero]
 by_cases hk:k<l.length
 ·rw[List.getElem?_append_left qom,List.getElem?_append_left (by simpa using hk)];rw[List.getElem?_eq_getElem (by omega:k<old.length),List.getElem?_eq_getElem (by simpa using hk)];simp[hk]
 ·rw[List.getElem?_append_right qom,List.getElem?_append_right (by simp;omega)];simp only[hk,if_false,List.length_map,hl];cases junk[k - l.length]? <;>rfl
theorem own_row {l l':List α}(hO:Own w0 ((n,Cl (l.map enc++junk) e)::X) w)(hl:l.length=l'.length)(q:Nat)(os:Array Obj):Own w0 ((n,Cl (l'.map enc++junk) e)::X) (Sort.grow (putRow enc (Sort.ahead w q) n 0 l'.toArray) os):=by
 refine Own.grow ?_ os;have h1:=hO.ahead q;have h2:=h1.has _ (List.mem_cons_self ..);unfold putRow;rw[map_put _ h2,put_list (by simpa using hl)];exact h1.put .h
theorem own_holds {l:List α}(hO:Own w0 ((n,Cl (l.map enc++junk) e)::X) w):Holds enc w n 0 l.toArray:=fun j hj=>by
 have hj':j<l.length:=by simpa using hj
 refine⟨hO.cell Ba ?_,hO.free Ba⟩;rw[Nat.zero_add,List.getElem?_append_left (by simpa using hj')];simp[hj']
theorem own_lt {o:Obj}(hO:Own w0 ((n,o)::X) w):n<w.heap.size:=(Array.getElem?_eq_some_iff.1 (hO.has _ (List.mem_cons_self ..))).1
end
theorem Ik {α:Type}{f:α->Value}:∀ (l:List α),l.flatMap (fun x=>[f x])=l.map f
 |[]=>rfl
 |x::l=>by rw[List.flatMap_cons,Ik l];rfl
end Go.Proofs.YtnafbfbfmgfcfaaGreatDoor
namespace Go.Proofs.YtnafbfbfmgfcfaaGreatDoor
open _root_.Go.Proofs.Tryz
open Go.RowKit
set_option linter.unusedVariables false
set_option linter.unusedSimpArgs false
set_option linter.unusedSectionVars false
set_option maxRecDepth 100000
inductive LocL:List (Nat × Obj)->List (Nat × Obj)->List (Nat × Obj)->(List (Nat × Obj)->List (Nat × Obj))->Prop
 |h {M X}:LocL (M++X) M X (fun M'=>M'++X)
 |t {H M R F e}:LocL H M R F->LocL (e::H) M (e::R) (fun M'=>e::F M')
 |a {X H M R F}:LocL H M R F->LocL (X++H) M (X++R) (fun M'=>X++F M')
theorem LocL.perm {H M R:List (Nat × Obj)}{F:List (Nat × Obj)->List (Nat × Obj)}(h:LocL H M R F):H.Perm (M++R)/\∀ M',(F M').Perm (M'++R):=by
 induction h with
 |h=>exact⟨List.Perm.refl _,fun _=>List.Perm.refl _⟩
 |t _ ih=>exact⟨(ih.1.cons _).trans List.perm_middle.symm,fun M'=>((ih.2 M').cons _).trans List.perm_middle.symm⟩
 | @a X H M R F _ ih=>
  have key:∀ M':List (Nat × Obj),(X++(M'++R)).Perm (M'++(X++R)):=fun M'=>by
   rw[<- List.append_assoc,<- List.append_assoc];exact List.perm_append_comm.append_right R
  exact⟨(ih.1.append_left X).trans (key _),fun M'=>((ih.2 M').append_left X).trans (key _)⟩
section
variable {P:Program} {w0:World} {L:Fm} {op:Op} {ty:TypeId} {H:List (Nat × Obj)}
theorem Eff.perm {H0:List (Nat × Obj)}{K K0:Value->List (Nat × Obj)->Prop}(h:Eff P w0 op ty L H0 K0)(hp:H.Perm H0)(hk:∀ v H',K0 v H'->∃ H'',H'.Perm H''/\K v H''):Eff P w0 op ty L H K:=by
 refine⟨h.1,fun b w hO=> ?_⟩;have h1:=h.2 b w (C2 hO hp)
 revert h1
 unfold effO
 split
 ·rintro⟨H',hO',hK⟩;obtain⟨H'',hpp,hK'⟩:=hk _ _ hK;exact⟨H'',C2 hO' hpp,hK'⟩
 ·rintro⟨H',hO',hK⟩;obtain⟨H'',hpp,hK'⟩:=hk _ _ hK;exact⟨H'',C2 hO' hpp,hK'⟩
 ·intro h2;exact h2.mono fun e w' ⟨v,H',he,hO',hK⟩=>by obtain⟨H'',hpp,hK'⟩:=hk _ _ hK;exact⟨v,H'',he,C2 hO' hpp,hK'⟩
 ·intro h2;exact h2.mono fun e w' ⟨v,H',he,hO',hK⟩=>by obtain⟨H'',hpp,hK'⟩:=hk _ _ hK;exact⟨v,H'',he,C2 hO' hpp,hK'⟩
 ·exact id
variable {x y:Operand} {t t2 e:TypeId}
theorem Br {α:Type}{enc:α->List Value}(v:α){R:List (Nat × Obj)}{F:List (Nat × Obj)->List (Nat × Obj)}{d:Sl}{l:List α}{n sz by':Nat}{z:Value}{i0:TypeInfo}{e2:TypeId}(hl:LocL H (slH d (l.flatMap enc) e) R F)(hx:Ev L x (slV d l.length))(hy:Ev L y (.slice (some ⟨n,0,none⟩) 1 1))
  (ht:∀ w,(underlying t).run P w= .ok (.slice e) w) (ht2:∀ w,(underlying t2).run P w= .ok (.slice e2) w) (hz:∀ w,(sizeOf e).run P w= .ok sz w) (hi:∀ w,(typeInfo e).run P w= .ok i0 w) (hby:i0.bytes=by') (hzv:∀ w,(zeroValue e).run P w= .ok z w) (hzs:z.cells.size=sz)
  (he:∀ u,(enc u).length=sz) (h1:(enc v).all oneB=true) (hok:SlOk d l.length sz) (hb0:by'≠0) (hb:(2*(l.length+1)+600)*by'<=281474976710656) (hn:Cells w0 H n 0 (enc v):=by exact A2):
  Eff P w0 (.call {callee:= .builtin .append,args:= #[x,y],argTypes:= #[t,t2]}) ty L H (fun u H'=>∃ d',u=slV d' (l.length+1)/\SlOk d' (l.length+1) sz/\H'=F (slH d' ((l++[v]).flatMap enc) e)):=by
 have hn':Cells w0 ([]++(slH d (l.flatMap enc) e++R)) n 0 (enc v):=fun i u hi w hO=>hn i u hi w (C2 hO hl.perm.1.symm)
 refine(Gq (A:=[]) (X:=R) v hx hy ht ht2 hz hi hby hzv hzs he h1 hok hb0 hb hn').perm hl.perm.1 ?_;rintro u H' ⟨d',h1,h2,rfl⟩;exact⟨_,(hl.perm.2 _).symm,d',h1,h2,rfl⟩
end
theorem spec_atL {β:Type}{P:Program}{w0:World}{f:FuncId}{args:Array Value}{H R M:List (Nat × Obj)}{F:List (Nat × Obj)->List (Nat × Obj)}{φ:Value->β->Prop}{M':β->List (Nat × Obj)}(h:FSpec P w0 f args (M++R) (fun v H'=>∃ x,φ v x/\H'=M' x++R))
  (hl:LocL H M R F):FSpec P w0 f args H (fun v H'=>∃ x,φ v x/\H'=F (M' x)):=fun w hO=>
 (h w (C2 hO hl.perm.1)).mono fun e w' ⟨v,H',he,hO',x,hx,hH⟩=>⟨v,_,he,C2 (hH ▸ hO') (hl.perm.2 _).symm,x,hx,rfl⟩
section
variable {P:Program} {w0:World} {L:Fm} {ty t:TypeId} {H:List (Nat × Obj)} {x y z:Operand}
theorem Ft {e:TypeId}{q:Option Addr}{n c sz k:Nat}(hx:Ev L x (.slice q n c))(hz:Ev L z (.int .i64 (k:Int)))(ht:∀ w,(underlying t).run P w= .ok (.slice e) w)(hs:∀ w,(sizeOf e).run P w= .ok sz w)(h:k<=c):
  Yl P w0 (.slice t x none (some z) none) ty L H (.slice q k c):=B3 U fun b w=>by
 have e0:(q.map fun a=>a.add (0*sz))=q:=by cases q<;>simp[Addr.add]
 simp[exO,execOp,Instr.sliceAt,Instr.slice,Instr.sliceBounds,Instr.sliceBound,asIntOf,hx b,hz b,ht,hs,Sem.run_bind,Result.andThen,show (k:Int)<=c by omega];rw[if_pos h];rw[Nat.zero_mul] at e0;simp[e0]
end
theorem Arr.take {α:Type}{w0:World}{H:List (Nat × Obj)}{q:Option Addr}{sz:Nat}{enc:α->List Value}{l:List α}(h:Arr w0 H q sz enc l)(k:Nat):Arr w0 H q sz enc (l.take k):=fun i x hi=>by
 rw[List.getElem?_take] at hi
 split at hi
 ·exact h i x hi
 ·cases hi
def IterSpecD (P:Program) (w0:World) (gf:FuncId) (cap:List Value) (Hc:List (Nat × Obj)) {α:Type} (enc:α->List Value) (St:List α->α->Prop) (En:List α->Prop):Prop:=
 ∀ (l:Nat) (S:List α->List (Nat × Obj)->Prop) (Sx:List (Nat × Obj)->Prop),(∀ k H,S k H->Hc.Sublist H)->
  (∀ k x H X,St k x->S k H->YSpec P w0 l (enc x) (X++H) fun v H'=>∃ H1,H'=X++H1/\((v= .bool true/\S (k++[x]) H1)\/(v= .bool false/\Sx H1)))->
  ∀ H,S [] H->FSpec P w0 gf (.func (.yield l) #[] #[]::cap).toArray H fun v H'=>(∃ k,En k/\S k H')\/Sx H'
section
variable {P:Program} {N:Nat} {w0:World} {Q:Post} {L:Fm} {ds:List Deferred} {H:List (Nat × Obj)}
theorem j_rangeD {α Z:Type}{g:Operand}{ps:List Nat}{assign body:Code}{gf:FuncId}{cap:List Value}{Hc:List (Nat × Obj)}{enc:α->List Value}{St:List α->α->Prop}{En:List α->Prop}
  (hg:Ev L g (.func (.func gf) #[] cap.toArray)) (hc:∀ args w,(callFunc gf args).run P w= .ok (.enter gf args) w) (it:IterSpecD P w0 gf cap Hc enc St En) (hps:∀ x,(enc x).length=ps.length) (hpN:(ps.all fun p=>Nat.blt p N)=true)
  (G:Z->List (Nat × Obj)) (φ:List α->Z->Prop) (φr:Z->Prop) (φe:Nat->Z->Prop) (z0:Z) (h0:φ [] z0) (hG:(G z0).Sublist H) (hHc:∀ z,Hc.Sublist (G z))
  (round:∀ (l:Nat) (lr:LoopState->Option Code->Loop) (Y X:List (Nat × Obj)) (k:List α) (x:α) (z:Z),LrOk lr->St k x->φ k z->
   J P (some l) N w0 assign (assignQ P l N body (roundQ w0 (fun z=>X++((l, .loop (lr .busy none))::(Y++G z))) (φ (k++[x])) φr φe)) (psL ps (enc x) L) [] (X++((l, .loop (lr .ready none))::(Y++G z))))
  (done:∀ D z k,En k->φ k z->JQ w0 Q .normal L ({target:= .collected D,args:= #[]}::ds) ((D, .deferred (some []))::G z))
  (stopR:∀ D z,φr z->JQ w0 Q .ret L ({target:= .collected D,args:= #[]}::ds) ((D, .deferred (some []))::G z))
  (stopE:∀ id D z,φe id z->JQ w0 Q (.exit id) L ({target:= .collected D,args:= #[]}::ds) ((D, .deferred (some []))::G z)):
  J P none N w0 (.rangeFunc g ps.toArray assign body) Q L ds H:=fun b w hO a hsz hf hd=>by
 refine wpIn_rangeFunc ?_;intro fn _;have hO':=hO.sub hG;obtain⟨lr,hlr⟩:∃ lr:LoopState->Option Code->Loop,lr=fun st pe=>{state:=st,pending:=pe,fn,tmps:=a.tmps,params:=ps.toArray,assign,body,defers:=w.heap.size}:=⟨_,rfl⟩
 have hl:LrOk lr:=by subst hlr;exact⟨fun _ _=>rfl,fun _ _ _=>rfl,fun _ _ _ _=>rfl,fun _ _=>rfl⟩
 have hO1:=(hO'.alloc (.deferred (some []))).alloc (.loop (lr .ready none));rw[World.size_alloc] at hO1;obtain⟨D,hDw⟩:∃ D,D=w.heap.size:=⟨_,rfl⟩;obtain⟨l,hlw⟩:∃ l,l=w.heap.size+1:=⟨_,rfl⟩;rw[<- hlw,<- hDw] at hO1;have hcond:=it l (fun k H=>∃ z,φ k z/\H=(l, .loop (lr .ready none))::([(D, .deferred (some []))]++G z))
  (fun H=>∃ z,(φr z/\H=(l, .loop (lr .done (some .ret)))::([(D, .deferred (some []))]++G z))\/∃ id,φe id z/\H=(l, .loop (lr .done (some (.exit id))))::([(D, .deferred (some []))]++G z))
  (fun k H ⟨z,_,hH⟩=>by rw[hH];exact((hHc z).cons _).cons _)
  (fun k x H X hx ⟨z,hz,hH⟩ w hOw=>by
   rw[hH] at hOw;have hh:w.heap[l]? =some (.loop (lr .ready none)):=hOw.has (l,_) (by simp);have hy:=run_yield (P:=P) (args:=(enc x).toArray) hh (by rw[hlr];simpa using hps x);have htm:a.tmps.size=N:=hsz;have hp:=psL_fr ps (enc x) a.tmps L b (fun p hp=>by have:=List.all_eq_true.1 hpN p hp;rw[htm];simpa[Nat.blt_eq] using this) hf;refine⟨_,_,_,_,hy,?_⟩;have h1:=round_spec (P:=P) (f:=(lr .ready none).fn) (tmps:=(ps.zip (enc x)).foldl (fun t (p,v)=>t.setIfInBounds p v) a.tmps) (X:=X) (Y:=[(D, .deferred (some []))]) (G:=G) (φ:=φ (k++[x])) (φr:=φr) (φe:=φe) hl hp.2 (by rw[hp.1];exact htm) (round l lr [(D, .deferred (some []))] X k x z hl hx hz) hOw;have e1:(lr .ready none).assign=assign:=by rw[hlr]
   have e2:(lr .ready none).body=body:=by rw[hlr]
   have e3:((lr .ready none).params.zip (enc x).toArray).foldl (fun tmps (p:Tmp × Value)=>tmps.setIfInBounds p.1 p.2) (lr .ready none).tmps=(ps.zip (enc x)).foldl (fun t (p,v)=>t.setIfInBounds p v) a.tmps:=by rw[hlr];simp
   rw[e1,e2];refine RoundIn.mono (by rw[<- e3] at h1;exact h1) ?_;rintro e w' ⟨v,H',he,hO2,hcs⟩;refine⟨v,H',he,hO2,?_⟩;rcases hcs with ⟨hv,z',hz',hH'⟩|⟨hv,z',hcs⟩
   ·exact⟨_,hH', .inl ⟨hv,z',hz',rfl⟩⟩
   ·rcases hcs with ⟨hz',hH'⟩|⟨id,hz',hH'⟩
    ·exact⟨_,hH', .inr ⟨hv,z', .inl ⟨hz',rfl⟩⟩⟩
    ·exact⟨_,hH', .inr ⟨hv,z', .inr ⟨id,hz',rfl⟩⟩⟩)
  ((l, .loop (lr .ready none))::([(D, .deferred (some []))]++G z0)) ⟨z0,h0,rfl⟩
 refine⟨l,[{target:= .collected D,args:= #[]}],(w.alloc (.deferred (some []))).alloc (.loop (lr .ready none)),{target:= .fn (.func gf) cap.toArray,args:= #[.func (.yield l) #[] #[]]},(w.alloc (.deferred (some []))).alloc (.loop (lr .ready none)),gf,(.func (.yield l) #[] #[]::cap).toArray,(w.alloc (.deferred (some []))).alloc (.loop (lr .ready none)),?enter,?res,fun f' _=>trivial,?inv,Kv none,F6 (r:=none) ?call⟩
 case call=>
  refine(hcond _ hO1).mono ?_;rintro e w3 ⟨v,H',he,hO3,hcs⟩;subst he;have fin:∀ (s:LoopState) (p:Option Code) (z:Z),s≠.busy->Own w0 ((l, .loop (lr s p))::([(D, .deferred (some []))]++G z)) w3->(Instr.endLoop l).run P w3= .ok p (w3.putObj l (.loop {lr s p with state:= .exhausted}))/\Own w0 ((D, .deferred (some []))::G z) (w3.putObj l (.loop {lr s p with state:= .exhausted})):=fun s p z hne hO3=>by
   have hh:w3.heap[l]? =some (.loop (lr s p)):=hO3.has (l,_) (by simp);have h1:=run_endLoop (P:=P) hh (by rw[hl.state];exact hne);exact⟨h1.trans (congrArg (fun q=>Result.ok q _) (hl.pend s p)),(hO3.put .h).tail⟩
  have key:∀ e z,(∀ w,Own w0 ((D, .deferred (some []))::G z) w->Q e (lk L b) ({target:= .collected D,args:= #[]}::ds) w)->∀ w,Own w0 ((D, .deferred (some []))::G z) w->LQ N Q e {a with defers:=[{target:= .collected D,args:= #[]}]++a.defers} w:=fun e z h w hOw=>⟨hsz,by
   have:=h w hOw;have hf':fr {a with defers:=[{target:= .collected D,args:= #[]}]++a.defers}=lk L b:=hf;rw[hf'];simp only[List.cons_append,List.nil_append,hd];exact this⟩
  rcases hcs with ⟨kk,hEn,z,hz,hH'⟩|⟨z,hcs⟩
  ·rw[hH'] at hO3;obtain⟨h1,h2⟩:=fin _ _ z (by simp) hO3;exact⟨none,_,h1,key .normal z (fun w hw=>done D z kk hEn hz b w hw) _ h2⟩
  ·rcases hcs with ⟨hz,hH'⟩|⟨id,hz,hH'⟩
   ·rw[hH'] at hO3;obtain⟨h1,h2⟩:=fin _ _ z (by simp) hO3;exact⟨some .ret,_,h1,wpIn_ret (key .ret z (fun w hw=>stopR D z hz b w hw) _ h2)⟩
   ·rw[hH'] at hO3;obtain⟨h1,h2⟩:=fin _ _ z (by simp) hO3;exact⟨some (.exit id),_,h1,wpIn_exit (key (.exit id) z (fun w hw=>stopE id D z hz b w hw) _ h2)⟩
 case enter=>
  have:=run_enterLoop_outer (P:=P) (w:=w) fn a.tmps ps.toArray assign body;rw[hlr,hlw,hDw];exact this
 case res=>
  have hgb:=hg b;rw[<- hf,<- G5] at hgb;have e:resolve a.eval (rangeCall g l) 0=Deferred.ofValue (a.eval g) #[.func (.yield l) #[] #[]]:=by
   unfold resolve;simp only[List.map_toArray,List.map_cons,List.map_nil]
   rfl
  rw[e];rw[hgb];simp[Deferred.ofValue]
 case inv=>simp[invoke,hc]
end
section
variable {K V:Type} {encK:K->Value} {encV:V->Value} {P:Program} {w0:World} {L:Fm} {H:List (Nat × Obj)} {ty t:TypeId} {x:Operand}
abbrev itO (m:Nat) (c:Nat) (seen:List Nat) (last:Nat):Obj:= .mapIter (some m) c seen.toArray last
theorem eff_rangeMap {kt et:TypeId}{m:Nat}{l:List (K × V)}(hx:Ev L x (.map (some m)))(hf:Fnd H m (mapO encK encV l))(ht:∀ w,(underlying t).run P w= .ok (.map kt et) w):
  Eff P w0 (.range t x) ty L H (fun v H'=>∃ n,v= .pointer (some ⟨n,0,none⟩)/\H'=(n,itO m l.length [] l.length)::H):=
 ⟨rfl,fun b w hO=>by
  have hh:=Fb (P:=P) (hO.has _ hf);have:(exO (ev (lk L b)) (.range t x) ty).run P w= .ok (.value (.pointer (some ⟨w.heap.size,0,none⟩))) (w.alloc (itO m l.length [] l.length)):=by
   simp[exO,execOp,Instr.range,hx b,ht,hh,newObj,Sem.run,Sem.run_bind,Result.andThen]
  rw[this];exact⟨_,hO.alloc _,_,rfl,rfl⟩⟩
theorem run_next {w:World}{r m c:Nat}{es:Array MapEntry}{seen:Array Nat}(h1:w.heap[r]? =some (.mapIter (some m) c seen c))(h2:w.heap[m]? =some (.map es c))(hb:∀ e∈es,e.born<c):
    ∃ w1,(w1=w\/w1=w.drew)/\
      ((es.filter (fun e=> !seen.contains e.born)= #[]/\(Instr.next (.pointer (some ⟨r,0,none⟩)) false ty).run P w= .ok (.tuple #[.bool false]) w1)\/
       ∃ e,e∈es/\seen.contains e.born=false/\(Instr.next (.pointer (some ⟨r,0,none⟩)) false ty).run P w= .ok (.tuple #[.bool true,e.key,e.val]) (w1.putObj r (.mapIter (some m) c (seen.push e.born) c))):=by
  have hg1:(getObj r).run P w= .ok (.mapIter (some m) c seen c) w:=by simp[getObj,Sem.run,h1]
  have hg2:=Fb (P:=P) h2;have hall:(!seen.isEmpty&& !es.isEmpty&&es.all (fun e=>decide (e.born>=c)))=false:=by
    rw[Bool.eq_false_iff];intro h;simp only[Bool.and_eq_true,Bool.not_eq_true',Array.all_eq_true,decide_eq_true_eq] at h;obtain⟨⟨_,hne⟩,ha⟩:=h;have hp:0<es.size:=by
      rcases Nat.eq_zero_or_pos es.size with h0|h0
      · have:es= #[]:=Array.eq_empty_of_size_eq_zero h0;rw[this] at hne;cases hne
      · exact h0
    have h3:=ha 0 hp;have h4:=hb es[0] (Array.getElem_mem _);omega
  obtain⟨left,hleft⟩:∃ left,left=es.filter fun e=> !seen.contains e.born:=⟨_,rfl⟩
  have hlm:∀ e∈left,e∈es/\seen.contains e.born=false:=fun e he=>by
    rw[hleft,Array.mem_filter] at he;exact⟨he.1,by simpa using he.2⟩
  have hold:left.filter (fun e=>decide (e.born<c))=left:=by
    rw[Array.filter_eq_self];intro e he;exact decide_eq_true (hb e (hlm e he).1)
  have hnew:left.filter (fun e=>decide (e.born>=c))= #[]:=by
    rw[Array.filter_eq_empty_iff];intro e he;have:=hb e (hlm e he).1;simp;omega
  obtain⟨cand,hcand⟩:∃ cand:Array (Option MapEntry),cand=(if left.isEmpty then #[none] else #[])++(left++ #[]).map some:=⟨_,rfl⟩;have hcp:0<cand.size:=by
    rw[hcand];rcases Nat.eq_zero_or_pos left.size with h0|h0
    · have:left= #[]:=Array.eq_empty_of_size_eq_zero h0;subst this;simp
    · simp;omega
  obtain⟨idx,w1,hw1,hidx,hch⟩:∃ idx w1,(w1=w\/w1=w.drew)/\idx<cand.size/\(choose (.mapNext cand.size)).run P w= .ok idx w1:=by
    rw[run_choose_drew]
    split
    · exact⟨0,w, .inl U,hcp,rfl⟩
    · exact⟨_,_, .inr U,Nat.mod_lt _ hcp,rfl⟩
  refine⟨w1,hw1,?_⟩;have hrun:(Instr.next (.pointer (some ⟨r,0,none⟩)) false ty).run P w=(match cand[idx]? with
      |some (some e)=>(do setObj r (.mapIter (some m) c (seen.push e.born) c);pure (.tuple #[.bool true,e.key,e.val]):Sem Value)
      |some none=>pure (.tuple #[.bool false])
      |none=>stuck "Next: no such candidate").run P w1:=by
    unfold Instr.next;simp only[Sem.run_bind,hg1,hg2,Result.andThen,hall,<- hleft,hold,hnew,<- hcand,hch,Bool.false_eq_true,if_false,Sem.run_pure]
    rfl
  rcases Nat.eq_zero_or_pos left.size with h0|h0
  · have he:left= #[]:=Array.eq_empty_of_size_eq_zero h0;refine .inl ⟨by rw[<- hleft,he],?_⟩;rw[hrun];have hc1:cand= #[none]:=by rw[hcand,he];simp
    rw[hc1] at hidx ⊢;have:idx=0:=by simpa using hidx
    subst this;simp
  · have hc1:cand=left.map some:=by
      rw[hcand];have:left.isEmpty=false:=by rw[Array.isEmpty_eq_false_iff];intro he;rw[he] at h0;simp at h0
      rw[this];simp
    rw[hc1] at hidx hrun;have hil:idx<left.size:=by simpa using hidx
    have hm:=hlm left[idx] (Array.getElem_mem _);refine .inr ⟨left[idx],hm.1,hm.2,?_⟩;rw[hrun];have hh1:w1.heap[r]? =some (.mapIter (some m) c seen c):=by rcases hw1 with rfl|rfl<;>exact h1
    have hget:(left.map some)[idx]? =some (some left[idx]):=by simp[hil]
    rw[hget];simp[setObj,Sem.run,hh1,World.putObj,Sem.run_bind,Result.andThen]
theorem ents_mem [DecidableEq K] {l:List (K × V)}{e:MapEntry}(h:e∈(ents encK encV l).toArray):∃ i p,l[i]? =some p/\e={key:=encK p.1,val:=encV p.2,born:=i}:=by
 simp only[List.mem_toArray] at h;obtain⟨i,hi,he⟩:=List.getElem_of_mem h;have h1:=Fr encK encV l i;rw[List.getElem?_eq_getElem hi,he] at h1;cases hl:l[i]? with
 |none=>rw[hl] at h1;simp at h1
 |some p=>rw[hl] at h1;simp at h1;exact⟨i,p,hl,h1⟩
theorem own_drew {w w1:World}(hO:Own w0 H w)(h:w1=w\/w1=w.drew):Own w0 H w1:=by
 rcases h with rfl|rfl
 ·exact hO
 ·exact hO.drawn
theorem eff_next [DecidableEq K] {m r:Nat}{l:List (K × V)}{seen:List Nat}{R:List (Nat × Obj)}{F:Obj->List (Nat × Obj)}(hx:Ev L x (.pointer (some ⟨r,0,none⟩)))(hm:Fnd H m (mapO encK encV l))(hl:Loc H r (itO m l.length seen l.length) R F):
  Eff P w0 (.next x false) ty L H (fun v H'=>(∃ i p,l[i]? =some p/\i∉seen/\v= .tuple #[.bool true,encK p.1,encV p.2]/\H'=F (itO m l.length (seen++[i]) l.length))\/((∀ i,i<l.length->i∈seen)/\v= .tuple #[.bool false]/\H'=H)):=
 ⟨rfl,fun b w hO=>by
  have hO1:=C2 hO hl.perm.1;have h1:=hO1.has _ (List.mem_cons_self ..);have h2:=hO.has _ hm;obtain⟨w1,hw1,hcs⟩:=run_next (P:=P) (ty:=ty) (c:=l.length) h1 h2 (fun e he=>by
   obtain⟨i,p,hi,rfl⟩:=ents_mem he;exact(List.getElem?_eq_some_iff.1 hi).1)
  have e0:(exO (ev (lk L b)) (.next x false) ty).run P w=((Instr.next (.pointer (some ⟨r,0,none⟩)) false ty).run P w).andThen fun v w=> .ok (.value v) w:=by
   simp[exO,execOp,hx b,Sem.run_bind]
  rcases hcs with ⟨he,hr⟩|⟨e,he,hns,hr⟩
  ·rw[e0,hr];refine⟨H,own_drew hO hw1, .inr ⟨fun i hi=> ?_,rfl,rfl⟩⟩;have h3:({key:=encK l[i].1,val:=encV l[i].2,born:=i}:MapEntry)∈(ents encK encV l).toArray:=by
    rw[List.mem_toArray,List.mem_iff_getElem?];exact⟨i,by rw[Fr,List.getElem?_eq_getElem hi];rfl⟩
   rw[Array.filter_eq_empty_iff] at he;have:=he _ h3
   simpa using this
  ·rw[e0,hr];obtain⟨i,p,hi,rfl⟩:=ents_mem he;refine⟨F (itO m l.length (seen++[i]) l.length),?_, .inl ⟨i,p,hi,by simpa using hns,rfl,rfl⟩⟩;have hO2:=(own_drew hO1 hw1).put (o':=itO m l.length (seen++[i]) l.length) .h;have e3:(seen.toArray.push i)=(seen++[i]).toArray:=by simp
   simp only[e3];exact C2 hO2 (hl.perm.2 _).symm⟩
theorem yl_entry [DecidableEq K] {m r i:Nat}{l:List (K × V)}{p:K × V}{seen:List Nat}(hx:Ev L x (.pointer (some ⟨r,0,none⟩)))(hm:Fnd H m (mapO encK encV l))(hr:Fnd H r (itO m l.length (seen++[i]) l.length))(hi:l[i]? =some p):
  Yl P w0 (.entry x) ty L H (.tuple #[encK p.1,encV p.2]):=Kf U fun H' hs b w hO=>by
 have h1:=hO.has _ (hs.subset hr);have h2:=hO.has _ (hs.subset hm);have hg1:(getObj r).run P w= .ok (itO m l.length (seen++[i]) l.length) w:=by simp[getObj,Sem.run,h1]
 have hg2:=Fb (P:=P) h2;have hf:(ents encK encV l).toArray.find? (fun e=>e.born==i)=some {key:=encK p.1,val:=encV p.2,born:=i}:=by
  have hlt:=(List.getElem?_eq_some_iff.1 hi).1;simp only[List.find?_toArray];rw[List.find?_eq_some_iff_getElem];have hg:∀ j,(hj:j<(ents encK encV l).length)->∃ q,l[j]? =some q/\(ents encK encV l)[j]={key:=encK q.1,val:=encV q.2,born:=j}:=fun j hj=>by
   have h3:=Fr encK encV l j;rw[List.getElem?_eq_getElem hj] at h3;cases hq:l[j]? with
   |none=>rw[hq] at h3;simp at h3
   |some q=>rw[hq] at h3;simp at h3;exact⟨q,rfl,h3⟩
  have hel:(ents encK encV l).length=l.length:=by simp[ents]
  refine⟨by simp,i,by omega,?_,fun j hj=> ?_⟩
  ·obtain⟨q,hq,he⟩:=hg i qom;rw[hi] at hq;cases hq;exact he
  ·obtain⟨q,_,he⟩:=hg j qom;rw[he];simp;omega
 simp[exO,execOp,hx b,Instr.entry,hg1,hg2,hf,Sem.run_bind,Result.andThen]
end
section
variable {P:Program} {r:Option Nat} {N:Nat} {w0:World} {Q:Post} {L:Fm} {ds:List Deferred} {H H':List (Nat × Obj)} {ty t:TypeId} {x y:Operand}
theorem j_perm {c:Code}(hp:H.Perm H')(h:J P r N w0 c Q L ds H'):J P r N w0 c Q L ds H:=fun b w hO=>h b w (C2 hO hp)
theorem Bn {e:Exit}(hp:H.Perm H')(h:JQ w0 Q e L ds H'):JQ w0 Q e L ds H:=fun b w hO=>h b w (C2 hO hp)
theorem J1 {ops:Array Oper}{l:List Oper}(hp:H.Perm H')(h:JL P r N w0 ops l Q L ds H'):JL P r N w0 ops l Q L ds H:=fun b w hO=>h b w (C2 hO hp)
theorem Cm {b o n e sz:Nat}{i:Int}(hx:Ev L x (.pointer (some ⟨b,o,none⟩)))(hy:Ev L y (.int .i64 i))(ht:∀ w,(underlying t).run P w= .ok (.array n e) w)(hz:∀ w,(sizeOf e).run P w= .ok sz w)(h:0<=i/\i<n):
  Yl P w0 (.indexAddr t x y) ty L H (.pointer (some ⟨b,o+i.toNat*sz,none⟩)):=B3 U fun b' w=>by
 have e1:(⟨b,o,none⟩:Addr).add (i.toNat*sz)=⟨b,o+i.toNat*sz,none⟩:=by
  simp only[Addr.add];split<;>simp_all
 simp[exO,execOp,Instr.indexAt,Instr.sureAddr,asIntOf,hx b',hy b',ht,hz,h,e1,Sem.run_bind,Result.andThen]
theorem Bu {n o:Nat}{v:Value}{l l':List Value}{t':TypeId}{H':List (Nat × Obj)}(hx:Ev L x (.pointer (some ⟨n,o,none⟩)))(hy:Ev L y v)(hv:oneB v=true)(hz:∀ w,(sizeOf t).run P w= .ok 1 w)
  (hu:Upd H n (Cl l t') (Cl l' t') H':=by(repeat (first|exact Upd.h|apply Upd.t|apply D7));done) (hs:setN? l o v=some l':=by rfl):Eff P w0 (.store t x y) ty L H (Still undef H'):=Dz hx hy hv hz (F9 hs) hu
theorem Cp {e k by':Nat}{z:Value}{i0:TypeInfo}(hx:Ev L x (.int .i64 (k:Int)))(ht:∀ w,(underlying t).run P w= .ok (.slice e) w)(hz:∀ w,(sizeOf e).run P w= .ok 1 w)(hi:∀ w,(typeInfo e).run P w= .ok i0 w)(hby:i0.bytes=by')(hzv:∀ w,(zeroValue e).run P w= .ok z w)(hzc:z.cells= #[z])(hb:k*by'<=281474976710656)(hk:k<=1000000):
  Eff P w0 (.makeSlice t x x) ty L H (fun v H'=>∃ n,v= .slice (some ⟨n,0,none⟩) k k/\H'=(n,Cl (List.replicate k z) e)::H):=
 ⟨rfl,fun b w hO=>by
  have e1:IntKind.i64.wrap (k:Int)=k:=IntWalk.i64_in _ qom;have e2: ¬ ((281474976710656:Int)<(by':Int)*k):=by
   have:(k*by':Nat)<=281474976710656:=hb;have h2:((k*by':Nat):Int)=(by':Int)*k:=by rw[Nat.mul_comm];simp
   omega
  have e3: ¬ ((k:Int)<0):=by omega
  have:(exO (ev (lk L b)) (.makeSlice t x x) ty).run P w= .ok (.value (.slice (some ⟨w.heap.size,0,none⟩) k k)) (w.alloc (Cl (List.replicate k z) e)):=by
   simp[exO,execOp,Instr.makeSlice,hx b,ht,hz,hi,hby,hzv,hzc,asInt,asIntOf,e1,e2,Sem.run_bind,Result.andThen];rw[if_neg e3]
   by_cases h0:k=0
   ·subst h0;have e5:(Array.map (fun (_:Nat)=>(default:Value)) (Array.range 0))=([]:List Value).toArray:=by simp
    rw[if_pos U,e5,F8];rfl
   ·have e4:Array.map (fun x=>[z][x % 1]?.getD default) (Array.range k)=(List.replicate k z).toArray:=by
     apply Array.ext_getElem?;intro i
     by_cases hi:i<k
     ·simp[hi,Nat.mod_one]
     ·simp[hi]
    rw[if_neg h0,e4,F8]
  rw[this];exact⟨_,hO.alloc _,_,rfl,rfl⟩⟩
end
theorem two64:(2:Nat) ^ 64=18446744073709551616:=by decide
theorem Gr {n:Nat}(h:n<2 ^ 64):IntKind.u64.wrap (n:Int)=n:=by
 have e:((2:Int) ^ 64)=((2 ^ 64:Nat):Int):=by decide
 unfold IntKind.wrap;simp only[IntKind.bits,IntKind.signed,Bool.false_and];rw[e];rw[two64] at *;simp;omega
theorem C7 (n:Nat):BitVec.ofInt 64 (n:Int)=BitVec.ofNat 64 n:=BitVec.ofInt_natCast 64 n
section
variable {P:Program} {w0:World} {L:Fm} {H:List (Nat × Obj)} {ty xt yt:TypeId} {x y:Operand}
theorem yl_and64 {m n:Nat}(hm:m<2 ^ 64)(hn:n<2 ^ 64)(hx:Ev L x (.int .u64 (m:Int)))(hy:Ev L y (.int .u64 (n:Int))):Yl P w0 (.binOp .and xt x y yt) ty L H (.int .u64 ((m &&& n:Nat):Int)):=B3 U fun b w=>by
 have e:(BitVec.ofInt 64 (m:Int) &&& BitVec.ofInt 64 (n:Int)).toNat=m &&& n:=by
  rw[C7,C7,BitVec.toNat_and,BitVec.toNat_ofNat,BitVec.toNat_ofNat,Nat.mod_eq_of_lt hm,Nat.mod_eq_of_lt hn]
 have e2:IntKind.u64.wrap ((m &&& n:Nat):Int)=((m &&& n:Nat):Int):=Gr (Nat.lt_of_le_of_lt Nat.and_le_left hm);have e3:(Op.intBits .and .u64 (m:Int) (n:Int)).run P w= .ok (.int .u64 ((m &&& n:Nat):Int)) w:=by
  show Result.ok (Value.int .u64 (IntKind.u64.wrap ((BitVec.ofInt 64 (m:Int) &&& BitVec.ofInt 64 (n:Int)).toNat:Int))) w=_;rw[e,e2]
 simp[exO,execOp,hx b,hy b,binOp,eqGuard,Sem.run_bind,Result.andThen,e3]
theorem yl_or64 {m n:Nat}(hm:m<2 ^ 64)(hn:n<2 ^ 64)(hx:Ev L x (.int .u64 (m:Int)))(hy:Ev L y (.int .u64 (n:Int))):Yl P w0 (.binOp .or xt x y yt) ty L H (.int .u64 ((m|||n:Nat):Int)):=B3 U fun b w=>by
 have e:(BitVec.ofInt 64 (m:Int)|||BitVec.ofInt 64 (n:Int)).toNat=m|||n:=by
  rw[C7,C7,BitVec.toNat_or,BitVec.toNat_ofNat,BitVec.toNat_ofNat,Nat.mod_eq_of_lt hm,Nat.mod_eq_of_lt hn]
 have e2:IntKind.u64.wrap ((m|||n:Nat):Int)=((m|||n:Nat):Int):=Gr (Nat.or_lt_two_pow hm hn);have e3:(Op.intBits .or .u64 (m:Int) (n:Int)).run P w= .ok (.int .u64 ((m|||n:Nat):Int)) w:=by
  show Result.ok (Value.int .u64 (IntKind.u64.wrap ((BitVec.ofInt 64 (m:Int)|||BitVec.ofInt 64 (n:Int)).toNat:Int))) w=_;rw[e,e2]
 simp[exO,execOp,hx b,hy b,binOp,eqGuard,Sem.run_bind,Result.andThen,e3]
theorem yl_shr64 {m n:Nat}(hn:n<64)(hx:Ev L x (.int .u64 (m:Int)))(hy:Ev L y (.int .i64 (n:Int))):Yl P w0 (.binOp .shr xt x y yt) ty L H (.int .u64 ((m / 2 ^ n:Nat):Int)):=B3 U fun b w=>by
 have e1: ¬ (n:Int)<0:=by omega
 have e2:min n 64=n:=by omega
 have e3:(Op.shift .shr .u64 (m:Int) .i64 (n:Int)).run P w= .ok (.int .u64 ((m / 2 ^ n:Nat):Int)) w:=by
  unfold Op.shift;rw[if_neg e1];simp only[Int.toNat_natCast,IntKind.bits,e2];show Result.ok (Value.int .u64 ((m:Int).fdiv (2 ^ n))) w=_;rw[Int.fdiv_eq_ediv_of_nonneg _ (by exact_mod_cast Nat.zero_le _)]
  congr 2
 simp[exO,execOp,hx b,hy b,binOp,eqGuard,Sem.run_bind,Result.andThen,e3]
theorem yl_shl1 {n:Nat}(hn:n<64)(hx:Ev L x (.int .u64 1))(hy:Ev L y (.int .i64 (n:Int))):Yl P w0 (.binOp .shl xt x y yt) ty L H (.int .u64 ((2 ^ n:Nat):Int)):=B3 U fun b w=>by
 have e1: ¬ (n:Int)<0:=by omega
 have e2:min n 64=n:=by omega
 have e4:(2:Nat) ^ n<2 ^ 64:=Nat.pow_lt_pow_right qom hn;have e3:(Op.shift .shl .u64 1 .i64 (n:Int)).run P w= .ok (.int .u64 ((2 ^ n:Nat):Int)) w:=by
  unfold Op.shift;rw[if_neg e1];simp only[Int.toNat_natCast,IntKind.bits,e2];show Result.ok (Value.int .u64 (IntKind.u64.wrap (1*2 ^ n))) w=_;rw[show (1*2 ^ n:Int)=((2 ^ n:Nat):Int) by simp,Gr e4]
 have e5:=Gr e4;have e6:IntKind.u64.wrap (2 ^ n)=2 ^ n:=by simpa using e5
 simp[exO,execOp,hx b,hy b,binOp,eqGuard,Sem.run_bind,Result.andThen,e3,e6]
end
section
variable {P:Program} {r:Option Nat} {N:Nat} {w0:World} {ops:Array Oper} {t f:Nat} {Q:Post} {L:Fm} {ds:List Deferred} {H0 H:List (Nat × Obj)} {listed:Array Bool}
def JX (P:Program) (r:Option Nat) (N:Nat) (w0:World) (H0:List (Nat × Obj)) (ops:Array Oper) (t f:Nat) (listed:Array Bool) (Q:Post) (L:Fm) (ds:List Deferred) (H:List (Nat × Obj)):Prop:=
 TailS ops t->noDefer ops=true->Region.noSelect ops=true->(∀ c σ ds w,¬ Q (.panic c) σ ds w)->H0.Sublist H->HeadInv md ops t listed->∀ b (a:Act),a.tmps.size=N->fr a=lk L b->a.defers=ds->
  wpO P r ops (LQ N Q) w0 H0 t f listed a H
theorem Cv {l:List Oper}(hp:tailOk ops (ops.size - t) t listed=true)(hl:ops.toList.drop t=l)(h:JL P r N w0 ops l Q L ds H):JX P r N w0 H0 ops t 0 listed Q L ds H:=fun hT hD hS hP hs inv b a hsz hf hd=>by
 refine⟨hp,fun w hO=> ?_⟩;rw[hl];exact h b w hO a hsz hf hd
def takeB (ops:Array Oper) (t:Nat) (listed:Array Bool) (i:Nat):Bool:=Nat.blt i t&&(Region.ready md ops listed).contains i&&Region.free md ops listed i
variable {d:Option Tmp} {op:Op} {ty:TypeId} {p:String} {af:Array Edge} {g:Option (Nat × Bool)} {v:Value} {i j k l:Nat}
theorem x_take (hi:ops[i]? =some ⟨d,op,ty,p,af,g⟩)(hN:dOk d N=true)(hb:takeB ops t listed i=true)(hy:∀ b (a:Act),a.tmps.size=N->fr a=lk L b->YieldsO P ops w0 H0 ⟨d,op,ty,p,af,g⟩ v a)(h:JX P r N w0 H0 ops t f (listed.setIfInBounds i true) Q (pt d v L) ds H):JX P r N w0 H0 ops t (f+1) listed Q L ds H:=
 fun hT hD hS hP hs inv b a hsz hf hd=>by
  simp only[takeB,Bool.and_eq_true,Nat.blt_eq] at hb;obtain⟨⟨h1,h2⟩,h3⟩:=hb;have hr:i∈Region.ready md ops listed:=by simpa using h2
  exact wpO_first hT hD hi h1 (Region.noSelect_spec hS) (fun c a w hq=>absurd hq.2 (hP _ _ _ _)) f listed a H hs (Region.free_spec hi h3) inv hr (hy b a hsz hf)
   (h hT hD hS hP hs (inv.set hr h1) b _ (by rw[D6];exact hsz) (Ib hN hsz hf) (by rw[Df];exact hd))
theorem x_y (hi:ops[i]? =some ⟨d,op,ty,p,af,g⟩)(hb:takeB ops t listed i=true)(hy:Yl P w0 op ty L H0 v)(h:JX P r N w0 H0 ops t f (listed.setIfInBounds i true) Q (pt d v L) ds H)(hN:dOk d N=true)(hg:Gd ops L g N true):JX P r N w0 H0 ops t (f+1) listed Q L ds H:=
 x_take hi hN hb (fun b a hs hf=> .inl ⟨Ky hg hs hf,fun H hsub w hO=>by rw[Kx,Gm,hf];exact hy.2 H hsub b w hO⟩) h
def XS (P:Program) (r:Option Nat) (N:Nat) (w0:World) (H0:List (Nat × Obj)) (ops:Array Oper) (t f:Nat) (listed:Array Bool) (Q:Post) (L:Fm) (ds:List Deferred) (H:List (Nat × Obj)) (i:Nat):Prop:=
 i∈Region.ready md ops listed->i<t->TailS ops t->noDefer ops=true->Region.noSelect ops=true->(∀ c σ ds w,¬ Q (.panic c) σ ds w)->H0.Sublist H->HeadInv md ops t listed->∀ b (a:Act),a.tmps.size=N->fr a=lk L b->a.defers=ds->∀ w,Own w0 H w->
  wpOpIn (rd r) 0 P ops (LQ N Q) i (fun a' w'=>∃ H',H0.Sublist H'/\Own w0 H' w'/\wpO P r ops (LQ N Q) w0 H0 t f (listed.setIfInBounds i true) a' H') a w
theorem Ca {K:Value->List (Nat × Obj)->Prop}(hi:ops[i]? =some ⟨d,op,ty,p,af,g⟩)(he:Eff P w0 op ty L H K)(h:∀ v H',K v H'->H0.Sublist H'/\JX P r N w0 H0 ops t f (listed.setIfInBounds i true) Q (pt d v L) ds H')(hN:dOk d N=true)(hg:Gd ops L g N true):XS P r N w0 H0 ops t f listed Q L ds H i:=
 fun hr h1 hT hD hS hP hs inv b a hsz hf hd w hO=>by
  unfold wpOpIn;simp only[hi];rw[if_pos (Ky hg hsz hf)];refine Ic hf he hO fun v H' w' hk hO'=> ?_
  obtain⟨k1,k2⟩:=h v H' hk;exact⟨H',k1,hO',k2 hT hD hS hP k1 (inv.set hr h1) b _ (by rw[D6];exact hsz) (Ib hN hsz hf) (by rw[Df];exact hd)⟩
theorem xs_all {rs:List Nat}(hr:Region.ready md ops listed=rs)(h0:∃ i0∈rs,i0<t)(h:∀ i∈rs,i<t->XS P r N w0 H0 ops t f listed Q L ds H i):JX P r N w0 H0 ops t (f+1) listed Q L ds H:=
 fun hT hD hS hP hs inv b a hsz hf hd=>by
  subst hr;exact⟨h0,fun i hi hit w hO=>h i hi hit hi hit hT hD hS hP hs inv b a hsz hf hd w hO⟩
theorem Cn (hr:Region.ready md ops listed=[i])(ht:Nat.blt i t=true)(h1:XS P r N w0 H0 ops t f listed Q L ds H i):JX P r N w0 H0 ops t (f+1) listed Q L ds H:=
 xs_all hr ⟨i,by simp,by simpa[Nat.blt_eq] using ht⟩ fun m hm _=>by
  obtain rfl:m=i:=by simpa using hm
  exact h1
theorem Dh (hr:Region.ready md ops listed=[i,j])(ht:Nat.blt i t=true)(h1:XS P r N w0 H0 ops t f listed Q L ds H i)(h2:XS P r N w0 H0 ops t f listed Q L ds H j):JX P r N w0 H0 ops t (f+1) listed Q L ds H:=
 xs_all hr ⟨i,by simp,by simpa[Nat.blt_eq] using ht⟩ fun m hm _=>by
  simp only[List.mem_cons,List.not_mem_nil,or_false] at hm;rcases hm with rfl|rfl
  ·exact h1
  ·exact h2
theorem Il (hr:Region.ready md ops listed=[i,j,k])(ht:Nat.blt i t=true)(h1:XS P r N w0 H0 ops t f listed Q L ds H i)(h2:XS P r N w0 H0 ops t f listed Q L ds H j)(h3:XS P r N w0 H0 ops t f listed Q L ds H k):JX P r N w0 H0 ops t (f+1) listed Q L ds H:=
 xs_all hr ⟨i,by simp,by simpa[Nat.blt_eq] using ht⟩ fun m hm _=>by
  simp only[List.mem_cons,List.not_mem_nil,or_false] at hm;rcases hm with rfl|rfl|rfl
  ·exact h1
  ·exact h2
  ·exact h3
def anyX (ops:Array Oper) (t:Nat):Bool:=tailB ops t&&noDefer ops&&Region.noSelect ops
theorem Gs {id:Nat}(t:Nat)(H0:List (Nat × Obj))(hm:P.follows .mixedOrders=true)(hb:anyX ops t=true)(hs:H0.Sublist H)(h:JX P r N w0 H0 ops t t (Array.replicate ops.size false) Q L ds H)(hP:NoPanic Q:=by repeat (first|exact Kz|exact Ij|exact G8|apply Ig|apply Gp|apply Jz|apply K1)):J P r N w0 (.region id ops true) Q L ds H:=fun b w hO a hsz hf hd=>by
 simp only[anyX,Bool.and_eq_true] at hb;obtain⟨⟨h1,h2⟩,h3⟩:=hb;obtain⟨hT,htl⟩:=tailB_spec h1;have inv:HeadInv md ops t (Array.replicate ops.size false):=by
  refine⟨by simp,fun j oj _ hl=>(by rw[getD_replicate_false] at hl;cases hl),fun k _ hk=> ?_⟩;simp[hk]
 have h6:=wpAny_of_wpO hT htl t _ a H {w with drawn:=w.drawn+1} inv hO.drawn (h hT h2 h3 hP.no hs inv b a hsz hf hd);rw[show t+(ops.size - t)=ops.size by omega] at h6;exact wpIn_region_any hm h6
theorem Ck {a:Addr}{ty:TypeId}{x:Operand}(hx:Ev L x (.pointer (some a))):Yl P w0 (.nilCheck x) ty L H (.pointer (some a)):=B3 U fun b w=>by
 simp[exO,execOp,hx b,Sem.run_bind,Result.andThen]
end
section
variable {P:Program} {w0:World} {L:Fm} {H H':List (Nat × Obj)} {ty t e:TypeId} {x y:Operand}
theorem Ki {n o m:Nat}{v:Value}{vs l:List Value}{t':TypeId}(hx:Ev L x (.pointer (some ⟨n,o,none⟩)))(hy:Ev L y v)(hz:∀ w,(sizeOf t).run P w= .ok m w)(hc:Cs v vs:=by first|exact .agg|exact .one U)(hv:vs.all oneB=true:=by rfl)(hm:vs.length=m:=by rfl)
  (hu:Upd H n (Cl l t') (Cl (setL l o vs) t') H':=by(repeat (first|exact Upd.h|apply Upd.t|apply D7));done) (hl:(o+vs.length).ble l.length=true:=by rfl):Eff P w0 (.store t x y) ty L H (Still undef H'):=
 E4 hx hy hc hv (by rw[hm];exact hz) hu (Nat.le_of_ble_eq_true hl)
theorem setL_app:∀ (vs a b c:List Value),vs.length=b.length->setL (a++(b++c)) a.length vs=a++(vs++c)
 |[],a,b,c,h=>by
  have:b=[]:=List.eq_nil_of_length_eq_zero (by simpa using h.symm);subst this;rfl
 |v::vs,a,[],c,h=>by simp at h
 |v::vs,a,x::b,c,h=>by
  have e:(a++(x::b++c)).set a.length v=(a++[v])++(b++c):=by simp
  rw[setL,e];have:=setL_app vs (a++[v]) b c (by simpa using h);simp only[List.length_append,List.length_cons,List.length_nil] at this;rw[this];simp
theorem flat_set {α:Type}{enc:α->List Value}{sz:Nat}(he:∀ x,(enc x).length=sz){l:List α}{i:Nat}(hi:i<l.length)(v:α)(z:List Value):setL (l.flatMap enc++z) (i*sz) (enc v)=(l.set i v).flatMap enc++z:=by
 have e1:l=l.take i++l[i]::l.drop (i+1):=by simp
 have e2:l.set i v=l.take i++v::l.drop (i+1):=by rw[List.set_eq_take_append_cons_drop];simp[hi]
 rw[e2]
 conv=>lhs;rw[e1]
 simp only[List.flatMap_append,List.flatMap_cons,List.append_assoc];have hl:((l.take i).flatMap enc).length=i*sz:=by rw[Da he,List.length_take,Nat.min_eq_left qom]
 have:=setL_app (enc v) ((l.take i).flatMap enc) (enc l[i]) ((l.drop (i+1)).flatMap enc++z) (by rw[he,he]);rw[hl] at this;exact this
theorem D2 {α:Type}{enc:α->List Value}{sz i:Nat}{d:Sl}{l:List α}{u:Value}{R:List (Nat × Obj)}{F:List (Nat × Obj)->List (Nat × Obj)}(v:α)(he:∀ x,(enc x).length=sz)(hl:LocL H (slH d (l.flatMap enc) e) R F)(hx:Ev L x (.pointer (some ⟨bq (slQ d),oq (slQ d)+i*sz,none⟩)))(hy:Ev L y u)(hc:Cs u (enc v))(hv:(enc v).all oneB=true)(hz:∀ w,(sizeOf t).run P w= .ok sz w)
  (hi:i<l.length) (hok:SlOk d l.length sz):Eff P w0 (.store t x y) ty L H (Still undef (F (slH d ((l.set i v).flatMap enc) e))):=by
 cases d with
 |nil=>have:l.length=0:=hok;omega
 |blk n cap junk=>
  have hx':Ev L x (.pointer (some ⟨n,i*sz,none⟩)):=by have:=hx;simpa[slQ,bq,oq] using this
  have hle:i*sz+sz<=l.length*sz:=by rw[<- Nat.succ_mul];exact Nat.mul_le_mul_right _ hi
  have h1:Eff P w0 (.store t x y) ty L (slH (.blk n cap junk) (l.flatMap enc) e++R) (Still undef (slH (.blk n cap junk) ((l.set i v).flatMap enc) e++R)):=by
   refine E4 (vs:=enc v) (l:=l.flatMap enc++junk) (t':=e) hx' hy hc hv (by rw[he];exact hz) ?_ (by rw[he,List.length_append,Da he];omega);rw[flat_set he hi];exact .h
  refine h1.perm hl.perm.1 ?_;rintro w _ ⟨rfl,rfl⟩;exact⟨_,(hl.perm.2 _).symm,rfl,rfl⟩
end
section
variable {P:Program} {r:Option Nat} {ops:Array Oper} {Q:Exit->Act->World->Prop} {w0:World} {s t:Nat} {Hs Hb:List (Nat × Obj)}
def hx (s:Nat) (Hs Hb:List (Nat × Obj)) (listed:Array Bool):List (Nat × Obj):=if listed.getD s false=true then Hs else Hb
theorem hx_s (hh:Hs.Sublist Hb)(listed:Array Bool):Hs.Sublist (hx s Hs Hb listed):=by
 unfold hx;split
 ·exact List.Sublist.refl _
 ·exact hh
theorem hx_b {listed:Array Bool}(h:listed.getD s false=false):hx s Hs Hb listed=Hb:=by
 unfold hx;rw[h];rfl
def wpX (P:Program) (r:Option Nat) (ops:Array Oper) (Q:Exit->Act->World->Prop) (w0:World) (s:Nat) (Hs Hb:List (Nat × Obj)) (t:Nat):Nat->Array Bool->Act->List (Nat × Obj)->Prop
 |0,listed,a,H=>tailOk ops (ops.size - t) t listed=true/\∀ w,Own w0 H w->wpListIn (rd r) 0 P ops Q (ops.toList.drop t) a w
 |f+1,listed,a,H=>(∃ i0∈Region.ready md ops listed,i0<t)/\∀ i∈Region.ready md ops listed,i<t->∀ w,Own w0 H w->
   wpOpIn (rd r) 0 P ops Q i (fun a' w'=>∃ H',(hx s Hs Hb (listed.setIfInBounds i true)).Sublist H'/\Own w0 H' w'/\wpX P r ops Q w0 s Hs Hb t f (listed.setIfInBounds i true) a' H') a w
theorem wpAny_of_wpX (hT:TailS ops t)(htl:t<=ops.size):∀ (f:Nat) (listed:Array Bool) (a:Act) (H:List (Nat × Obj)) (w:World),HeadInv md ops t listed->Own w0 H w->wpX P r ops Q w0 s Hs Hb t f listed a H->wpAnyIn (rd r) 0 P md ops Q (f+(ops.size - t)) listed a w
 |0,listed,a,H,w,inv,hO,h=>by rw[Nat.zero_add];exact Ie _ t listed a w qom h.1 (h.2 w hO)
 |f+1,listed,a,H,w,inv,hO,h=>by
  obtain⟨⟨i0,hi0,hlt0⟩,h⟩:=h;rw[show f+1+(ops.size - t)=(f+(ops.size - t))+1 by omega];refine⟨fun hr=>(by rw[hr] at hi0;cases hi0),fun i hi=> ?_⟩;have hit:=ready_lt hT inv hlt0 (mem_ready.1 hi0).1 hi;exact wpOpIn_mono (fun a' w' ⟨H',hs,hO',h'⟩=>wpAny_of_wpX hT htl f _ a' H' w' (inv.set hi hit) hO' h') (h i hi hit w hO)
theorem wpX_first {H0:List (Nat × Obj)}{i:Nat}{oi:Oper}{v:Value}(hT:TailS ops t)(hD:noDefer ops=true)(hi:ops[i]? =some oi)(hit:i<t)(his:i≠s)(hsel:∀ (j:Nat) (o:Oper) cs b,ops[j]? =some o->o.op≠.select cs b)
  (hQ:∀ c a w,Q (.panic c) (a.put oi.dst v) w->Q (.panic c) a w) (hH:∀ listed,HeadInv md ops t listed->listed.getD i true=false->H0.Sublist (hx s Hs Hb listed)):
  ∀ (f:Nat) (listed:Array Bool) (a:Act) (H:List (Nat × Obj)),H0.Sublist H->(hx s Hs Hb (listed.setIfInBounds i true)).Sublist H->
   (∀ j oj,ops[j]? =some oj->j≠i->listed.getD j true=false->(∀ e∈oj.after,Region.binds md e=true->e.on≠i)->oi.apart ops oj=true)->
   HeadInv md ops t listed->i∈Region.ready md ops listed->YieldsO P ops w0 H0 oi v a->
   wpX P r ops Q w0 s Hs Hb t f (listed.setIfInBounds i true) (a.put oi.dst v) H->wpX P r ops Q w0 s Hs Hb t (f+1) listed a H:=by
 intro f
 induction f with
 |zero=>
  intro listed a H hs hs2 hfree inv hr hy h;refine⟨⟨i,hr,hit⟩,fun j hj hjt w hO=> ?_⟩
  by_cases hji:j=i
  ·subst hji;exact hy.wpOpIn hi (Dp hD hi) hs hO fun w' hO'=>⟨H,hs2,hO',h⟩
  ·exfalso;have h1:=ready_mono hj hji;have h2:=h.1;rcases Nat.lt_or_ge t ops.size with hlt|hge
   ·rw[show ops.size - t=(ops.size - t - 1)+1 by omega] at h2;simp only[tailOk,Bool.and_eq_true,beq_iff_eq] at h2;rw[h2.1] at h1;have:j=t:=by simpa using h1
    omega
   ·rw[show ops.size - t=0 by omega] at h2;simp only[tailOk,beq_iff_eq] at h2;rw[h2] at h1;cases h1
 |succ f ih=>
  intro listed a H hs hs2 hfree inv hr hy h;refine⟨⟨i,hr,hit⟩,fun j hj hjt w hO=> ?_⟩
  by_cases hji:j=i
  ·subst hji;exact hy.wpOpIn hi (Dp hD hi) hs hO fun w' hO'=>⟨H,hs2,hO',h⟩
  ·have h1:=h.2 j (ready_mono hj hji) hjt w hO;obtain⟨hjun,oj,hoj,hall⟩:=mem_ready.1 hj;have hiun:(listed.setIfInBounds j true).getD i true=false:=by
    rw[getD_set_ne true hji];exact(mem_ready.1 hr).1
   have hnot:∀ e∈oj.after,Region.binds md e=true->e.on≠i:=fun e he hb heq=>by
    have h1:=hall e he hb;have h0:=(mem_ready.1 hr).1;rw[heq,getD_both h0] at h1;cases h1
   have h2:=wpOpIn_putO hoj (Dp hD hoj) (hfree j oj hoj hji hjun hnot) (fun cs b=>hsel i oi cs b hi) (fun cs b=>hsel j oj cs b hoj) hQ hy h1;have hfree':∀ k ok,ops[k]? =some ok->k≠i->(listed.setIfInBounds j true).getD k true=false->
     (∀ e∈ok.after,Region.binds md e=true->e.on≠i)->oi.apart ops ok=true:=fun k ok hk hki hun hno=>by
    refine hfree k ok hk hki ?_ hno
    by_cases hjk:j=k
    ·subst hjk;exact hjun
    ·rw[getD_set_ne true hjk] at hun;exact hun
   refine wpOpIn_mono (fun a' w' h3=> ?_) h2;obtain⟨hy',H',hs',hO',h4⟩:=h3;have hs3:(hx s Hs Hb ((listed.setIfInBounds j true).setIfInBounds i true)).Sublist H':=by
    rw[Array.setIfInBounds_comm _ _ hji];exact hs'
   have hs4:(hx s Hs Hb (listed.setIfInBounds j true)).Sublist H'/\H0.Sublist H':=by
    have e:=hH _ (inv.set hj hjt) hiun;have e2:hx s Hs Hb ((listed.setIfInBounds j true).setIfInBounds i true)=hx s Hs Hb (listed.setIfInBounds j true):=by
     unfold hx;rw[getD_set_ne false his]
    rw[e2] at hs3;exact⟨hs3,e.trans hs3⟩
   refine⟨H',hs4.1,hO',ih (listed.setIfInBounds j true) a' H' hs4.2 hs3 hfree' (inv.set hj hjt) (ready_mono hr (Ne.symm hji)) hy' ?_⟩;rw[Array.setIfInBounds_comm _ _ hji];exact h4
end
section
variable {P:Program} {r:Option Nat} {N:Nat} {w0:World} {ops:Array Oper} {s t f:Nat} {Q:Post} {L:Fm} {ds:List Deferred} {Hs Hb H0 H:List (Nat × Obj)} {listed:Array Bool}
def JY (P:Program) (r:Option Nat) (N:Nat) (w0:World) (s:Nat) (Hs Hb:List (Nat × Obj)) (ops:Array Oper) (t f:Nat) (listed:Array Bool) (Q:Post) (L:Fm) (ds:List Deferred) (H:List (Nat × Obj)):Prop:=
 TailS ops t->noDefer ops=true->Region.noSelect ops=true->(∀ c σ ds w,¬ Q (.panic c) σ ds w)->Hs.Sublist Hb->(hx s Hs Hb listed).Sublist H->HeadInv md ops t listed->∀ b (a:Act),a.tmps.size=N->fr a=lk L b->a.defers=ds->
  wpX P r ops (LQ N Q) w0 s Hs Hb t f listed a H
theorem H8 {l:List Oper}(hp:tailOk ops (ops.size - t) t listed=true)(hl:ops.toList.drop t=l)(h:JL P r N w0 ops l Q L ds H):JY P r N w0 s Hs Hb ops t 0 listed Q L ds H:=fun hT hD hS hP hh hs inv b a hsz hf hd=>by
 refine⟨hp,fun w hO=> ?_⟩;rw[hl];exact h b w hO a hsz hf hd
variable {d:Option Tmp} {op:Op} {ty:TypeId} {p:String} {af:Array Edge} {g:Option (Nat × Bool)} {v:Value} {i j k l:Nat}
def chainTo (ops:Array Oper):List Nat->Bool
 |a::b::rest=>Region.waitsFor md ops a b&&chainTo ops (b::rest)
 |_=>true
theorem chainTo_spec (inv:HeadInv md ops t listed):∀ (l:List Nat) (a:Nat),chainTo ops (a::l)=true->listed.getD a false=true->∀ i∈l.getLast?,listed.getD i false=true
 |[],a,_,_,i,hi=>by simp at hi
 |b::l,a,hc,ha,i,hi=>by
  simp only[chainTo,Bool.and_eq_true] at hc;obtain⟨oj,hoj,e,he,hb,hon⟩:=Region.waitsFor_spec hc.1;have h1:=inv.closed a oj hoj ha e he hb;rw[hon] at h1;cases l with
  |nil=>simp at hi;subst hi;exact h1
  |cons c l=>exact chainTo_spec inv (c::l) b hc.2 h1 i (by simpa[List.getLast?_cons_cons] using hi)
def takeW (ops:Array Oper) (s t:Nat) (listed:Array Bool) (i:Nat):Bool:=Nat.blt i t&&(Region.ready md ops listed).contains i&&Region.free md ops listed i&&(!Nat.beq i s)
theorem w_take (hi:ops[i]? =some ⟨d,op,ty,p,af,g⟩)(hN:dOk d N=true)(hb:takeW ops s t listed i=true)(hH:∀ listed,HeadInv md ops t listed->listed.getD i true=false->Hs.Sublist Hb->H0.Sublist (hx s Hs Hb listed))(hy:∀ b (a:Act),a.tmps.size=N->fr a=lk L b->YieldsO P ops w0 H0 ⟨d,op,ty,p,af,g⟩ v a)(h:JY P r N w0 s Hs Hb ops t f (listed.setIfInBounds i true) Q (pt d v L) ds H):JY P r N w0 s Hs Hb ops t (f+1) listed Q L ds H:=
 fun hT hD hS hP hh hs inv b a hsz hf hd=>by
  simp only[takeW,Bool.and_eq_true,Nat.blt_eq,Bool.not_eq_true'] at hb;obtain⟨⟨⟨h1,h2⟩,h3⟩,h4⟩:=hb;have his:i≠s:=fun e=>by subst e;rw[Nat.beq_refl] at h4;cases h4
  have hr:i∈Region.ready md ops listed:=by simpa using h2
  have e2:hx s Hs Hb (listed.setIfInBounds i true)=hx s Hs Hb listed:=by unfold hx;rw[getD_set_ne false his]
  have hs2:(hx s Hs Hb (listed.setIfInBounds i true)).Sublist H:=by rw[e2];exact hs
  exact wpX_first hT hD hi h1 his (Region.noSelect_spec hS) (fun c a w hq=>absurd hq.2 (hP _ _ _ _)) (fun l hl hu=>hH l hl hu hh) f listed a H ((hH listed inv (mem_ready.1 hr).1 hh).trans hs) hs2 (Region.free_spec hi h3) inv hr (hy b a hsz hf)
   (h hT hD hS hP hh hs2 (inv.set hr h1) b _ (by rw[D6];exact hsz) (Ib hN hsz hf) (by rw[Df];exact hd))
theorem Ch (c:List Nat)(hc:chainTo ops (s::c)=true)(hl:c.getLast? =some i)(hi:ops[i]? =some ⟨d,op,ty,p,af,g⟩)(hb:takeW ops s t listed i=true)(hy:Yl P w0 op ty L Hb v)(h:JY P r N w0 s Hs Hb ops t f (listed.setIfInBounds i true) Q (pt d v L) ds H)(hN:dOk d N=true)(hg:Gd ops L g N true):JY P r N w0 s Hs Hb ops t (f+1) listed Q L ds H:=
 w_take hi hN hb (fun l2 inv hu _=>by
  have:l2.getD s false=false:=by
   cases e:l2.getD s false with
   |false=>rfl
   |true=>
    have:=chainTo_spec inv c s hc e i (by rw[hl];simp);rw[getD_both hu] at this;cases this
  rw[hx_b this];exact List.Sublist.refl _) (fun b a hs hf=> .inl ⟨Ky hg hs hf,fun H hsub w hO=>by rw[Kx,Gm,hf];exact hy.2 H hsub b w hO⟩) h
theorem w_y (hi:ops[i]? =some ⟨d,op,ty,p,af,g⟩)(hb:takeW ops s t listed i=true)(hy:Yl P w0 op ty L Hs v)(h:JY P r N w0 s Hs Hb ops t f (listed.setIfInBounds i true) Q (pt d v L) ds H)(hN:dOk d N=true)(hg:Gd ops L g N true):JY P r N w0 s Hs Hb ops t (f+1) listed Q L ds H:=
 w_take hi hN hb (fun l2 _ _ hh=>hx_s hh l2) (fun b a hs hf=> .inl ⟨Ky hg hs hf,fun H hsub w hO=>by rw[Kx,Gm,hf];exact hy.2 H hsub b w hO⟩) h
def WS (P:Program) (r:Option Nat) (N:Nat) (w0:World) (s:Nat) (Hs Hb:List (Nat × Obj)) (ops:Array Oper) (t f:Nat) (listed:Array Bool) (Q:Post) (L:Fm) (ds:List Deferred) (H:List (Nat × Obj)) (i:Nat):Prop:=
 i∈Region.ready md ops listed->i<t->TailS ops t->noDefer ops=true->Region.noSelect ops=true->(∀ c σ ds w,¬ Q (.panic c) σ ds w)->Hs.Sublist Hb->(hx s Hs Hb listed).Sublist H->HeadInv md ops t listed->∀ b (a:Act),a.tmps.size=N->fr a=lk L b->a.defers=ds->∀ w,Own w0 H w->
  wpOpIn (rd r) 0 P ops (LQ N Q) i (fun a' w'=>∃ H',(hx s Hs Hb (listed.setIfInBounds i true)).Sublist H'/\Own w0 H' w'/\wpX P r ops (LQ N Q) w0 s Hs Hb t f (listed.setIfInBounds i true) a' H') a w
theorem ws_e' {K:Value->List (Nat × Obj)->Prop}(hi:ops[i]? =some ⟨d,op,ty,p,af,g⟩)(he:Eff P w0 op ty L H K)(h:∀ v H',K v H'->(hx s Hs Hb (listed.setIfInBounds i true)).Sublist H'/\JY P r N w0 s Hs Hb ops t f (listed.setIfInBounds i true) Q (pt d v L) ds H')(hN:dOk d N=true)(hg:Gd ops L g N true):WS P r N w0 s Hs Hb ops t f listed Q L ds H i:=
 fun hr h1 hT hD hS hP hh hs inv b a hsz hf hd w hO=>by
  unfold wpOpIn;simp only[hi];rw[if_pos (Ky hg hsz hf)];refine Ic hf he hO fun v H' w' hk hO'=> ?_
  obtain⟨k1,k2⟩:=h v H' hk;exact⟨H',k1,hO',k2 hT hD hS hP hh k1 (inv.set hr h1) b _ (by rw[D6];exact hsz) (Ib hN hsz hf) (by rw[Df];exact hd)⟩
theorem Eo {K:Value->List (Nat × Obj)->Prop}(hi:ops[i]? =some ⟨d,op,ty,p,af,g⟩)(he:Eff P w0 op ty L H K)(h:∀ v H',K v H'->Hb.Sublist H'/\JY P r N w0 s Hs Hb ops t f (listed.setIfInBounds i true) Q (pt d v L) ds H')(hN:dOk d N=true)(hg:Gd ops L g N true)(hl:(listed.setIfInBounds i true).getD s false=false):WS P r N w0 s Hs Hb ops t f listed Q L ds H i:=
 ws_e' hi he (fun v H' hk=>by rw[hx_b hl];exact h v H' hk) hN hg
theorem Fj {K:Value->List (Nat × Obj)->Prop}(hi:ops[i]? =some ⟨d,op,ty,p,af,g⟩)(he:Eff P w0 op ty L H K)(h:∀ v H',K v H'->Hs.Sublist H'/\JY P r N w0 s Hs Hb ops t f (listed.setIfInBounds i true) Q (pt d v L) ds H')(hN:dOk d N=true)(hg:Gd ops L g N true)(hl:(listed.setIfInBounds i true).getD s false=true):WS P r N w0 s Hs Hb ops t f listed Q L ds H i:=
 ws_e' hi he (fun v H' hk=>by unfold hx;rw[hl];exact h v H' hk) hN hg
theorem ws_all {rs:List Nat}(hr:Region.ready md ops listed=rs)(h0:∃ i0∈rs,i0<t)(h:∀ i∈rs,i<t->WS P r N w0 s Hs Hb ops t f listed Q L ds H i):JY P r N w0 s Hs Hb ops t (f+1) listed Q L ds H:=
 fun hT hD hS hP hh hs inv b a hsz hf hd=>by
  subst hr;exact⟨h0,fun i hi hit w hO=>h i hi hit hi hit hT hD hS hP hh hs inv b a hsz hf hd w hO⟩
theorem De (hr:Region.ready md ops listed=[i])(ht:Nat.blt i t=true)(h1:WS P r N w0 s Hs Hb ops t f listed Q L ds H i):JY P r N w0 s Hs Hb ops t (f+1) listed Q L ds H:=
 ws_all hr ⟨i,by simp,by simpa[Nat.blt_eq] using ht⟩ fun m hm _=>by
  obtain rfl:m=i:=by simpa using hm
  exact h1
theorem Le (hr:Region.ready md ops listed=[i,j])(ht:Nat.blt i t=true)(h1:WS P r N w0 s Hs Hb ops t f listed Q L ds H i)(h2:WS P r N w0 s Hs Hb ops t f listed Q L ds H j):JY P r N w0 s Hs Hb ops t (f+1) listed Q L ds H:=
 ws_all hr ⟨i,by simp,by simpa[Nat.blt_eq] using ht⟩ fun m hm _=>by
  simp only[List.mem_cons,List.not_mem_nil,or_false] at hm;rcases hm with rfl|rfl
  ·exact h1
  ·exact h2
theorem Jm {id:Nat}(s t:Nat)(Hs Hb:List (Nat × Obj))(hm:P.follows .mixedOrders=true)(hb:anyX ops t=true)(hh:Hs.Sublist Hb)(hs:Hb.Sublist H)(h:JY P r N w0 s Hs Hb ops t t (Array.replicate ops.size false) Q L ds H)(hP:NoPanic Q:=by repeat (first|exact Kz|exact Ij|exact G8|apply Ig|apply Gp|apply Jz|apply K1)):J P r N w0 (.region id ops true) Q L ds H:=fun b w hO a hsz hf hd=>by
 simp only[anyX,Bool.and_eq_true] at hb;obtain⟨⟨h1,h2⟩,h3⟩:=hb;obtain⟨hT,htl⟩:=tailB_spec h1;have inv:HeadInv md ops t (Array.replicate ops.size false):=by
  refine⟨by simp,fun j oj _ hl=>(by rw[getD_replicate_false] at hl;cases hl),fun k _ hk=> ?_⟩;simp[hk]
 have h6:=wpAny_of_wpX hT htl t _ a H {w with drawn:=w.drawn+1} inv hO.drawn (h hT h2 h3 hP.no hh (by rw[hx_b (getD_replicate_false _ _)];exact hs) inv b a hsz hf hd);rw[show t+(ops.size - t)=ops.size by omega] at h6;exact wpIn_region_any hm h6
end
theorem cells_flat {α:Type}{enc:α->List Value}{sz:Nat}(he:∀ u,(enc u).length=sz){w0:World}{H:List (Nat × Obj)}{b:Nat}:∀ (l:List α) (o:Nat),(∀ i x,l[i]? =some x->Cells w0 H b (o+i*sz) (enc x))->Cells w0 H b o (l.flatMap enc)
 |[],o,_=>fun i v hi=>by simp at hi
 |x::l,o,h=>fun i v hi=>by
  rw[List.flatMap_cons] at hi;rcases Nat.lt_or_ge i (enc x).length with hlt|hge
  ·rw[List.getElem?_append_left hlt] at hi;have:=h 0 x U i v hi
   simpa using this
  ·rw[List.getElem?_append_right hge] at hi;have h2:=cells_flat he l (o+sz) (fun j y hj=>by
    have:=h (j+1) y (by simpa using hj);rw[show o+sz+j*sz=o+(j+1)*sz by rw[Nat.succ_mul];omega];exact this) (i - (enc x).length) v hi
   rw[he] at h2 hge;rw[show o+sz+(i - sz)=o+i by omega] at h2;exact h2
theorem Arr.all {α:Type}{enc:α->List Value}{sz:Nat}(he:∀ u,(enc u).length=sz){w0:World}{H:List (Nat × Obj)}{q:Option Addr}{l:List α}(h:Arr w0 H q sz enc l):Cells w0 H (bq q) (oq q) (l.flatMap enc):=
 cells_flat he l (oq q) fun i x hi=>(h i x hi).2
theorem all_flat {α:Type}{enc:α->List Value}(h:∀ u,(enc u).all oneB=true):∀ (l:List α),(l.flatMap enc).all oneB=true
 |[]=>rfl
 |x::l=>by rw[List.flatMap_cons,List.all_append,h x,all_flat h l];rfl
section
variable {P:Program} {w0:World} {L:Fm} {op:Op} {ty xt yt:TypeId} {H:List (Nat × Obj)} {x y:Operand} {t t2 e:TypeId}
theorem eff_appN_at {α:Type}{enc:α->List Value}(l2:List α){R:List (Nat × Obj)}{F:List (Nat × Obj)->List (Nat × Obj)}{d:Sl}{l:List α}{q:Option Addr}{c sz by':Nat}{z:Value}{i0:TypeInfo}{e2:TypeId}(hl:LocL H (slH d (l.flatMap enc) e) R F)(hx:Ev L x (slV d l.length))(hy:Ev L y (.slice q l2.length c))
  (ht:∀ w,(underlying t).run P w= .ok (.slice e) w) (ht2:∀ w,(underlying t2).run P w= .ok (.slice e2) w) (hz:∀ w,(sizeOf e).run P w= .ok sz w) (hi:∀ w,(typeInfo e).run P w= .ok i0 w) (hby:i0.bytes=by') (hzv:∀ w,(zeroValue e).run P w= .ok z w) (hzs:z.cells.size=sz)
  (he:∀ u,(enc u).length=sz) (h1:∀ u,(enc u).all oneB=true) (hok:SlOk d l.length sz) (hb0:by'≠0) (hb:(2*(l.length+l2.length)+600)*by'<=281474976710656) (hA:Arr w0 H q sz enc l2):
  Eff P w0 (.call {callee:= .builtin .append,args:= #[x,y],argTypes:= #[t,t2]}) ty L H (fun u H'=>∃ d',u=slV d' (l.length+l2.length)/\SlOk d' (l.length+l2.length) sz/\H'=F (slH d' ((l++l2).flatMap enc) e)):=by
 have hn:=hA.all he;have hn':Cells w0 ([]++(slH d (l.flatMap enc) e++R)) (bq q) (oq q) (l2.flatMap enc):=fun i u hi w hO=>hn i u hi w (C2 hO hl.perm.1.symm)
 have hq:l2.length=0\/Bas q:=by
  cases l2 with
  |nil=>exact .inl rfl
  |cons x l2=>exact .inr (hA 0 x rfl).1
 refine(eff_append (A:=[]) (X:=R) (cells:=l.flatMap enc) (new:=l2.flatMap enc) hx hy ht ht2 hz hi hby hzv hzs hq (Da he l2) hn' (all_flat h1 l2) (Da he l) hok hb0 hb).perm hl.perm.1 ?_;rintro u H' ⟨d',h1,h2,rfl⟩;exact⟨_,(hl.perm.2 _).symm,d',h1,h2,by rw[List.flatMap_append]⟩
theorem yl_ltS {a b:ByteArray}(hx:Ev L x (.string a))(hy:Ev L y (.string b)):Yl P w0 (.binOp .lss xt x y yt) ty L H (.bool (decide (a.data.toList<b.data.toList))):=B3 U fun b' w=>by
 have e1:Op.bytesLess a.toList b.toList=decide (a.data.toList<b.data.toList):=by rw[Go.Proofs.bytesLess_eq,ByteArray.toList_eq,ByteArray.toList_eq]
 simp[exO,execOp,hx b',hy b',binOp,eqGuard,Op.stringOp,Sem.run_bind,Result.andThen,e1]
theorem Fn {a b:ByteArray}(hx:Ev L x (.string a))(hy:Ev L y (.string b)):Yl P w0 (.binOp .eql xt x y yt) ty L H (.bool (decide (a.data.toList=b.data.toList))):=B3 U fun b' w=>by
 have e1:(a.toList==b.toList)=decide (a.data.toList=b.data.toList):=by
  rw[ByteArray.toList_eq,ByteArray.toList_eq];exact Bool.eq_iff_iff.2 (by simp)
 simp[exO,execOp,hx b',hy b',binOp,eqGuard,Op.stringOp,Sem.run_bind,Result.andThen,e1]
theorem yl_neSD {a b:ByteArray}(hx:Ev L x (.string a))(hy:Ev L y (.string b)):Yl P w0 (.binOp .neq xt x y yt) ty L H (.bool (decide (¬ a.data.toList=b.data.toList))):=B3 U fun b' w=>by
 have e1:(!(a.toList==b.toList))=decide (¬ a.data.toList=b.data.toList):=by
  rw[ByteArray.toList_eq,ByteArray.toList_eq];exact Bool.eq_iff_iff.2 (by simp)
 have e2:(a.toList !=b.toList)=decide (¬ a.data.toList=b.data.toList):=e1;simp[exO,execOp,hx b',hy b',binOp,eqGuard,Op.stringOp,Sem.run_bind,Result.andThen,e1,e2]
end
section
variable {P:Program} {w0:World} {L:Fm} {ty t et kt:TypeId} {H:List (Nat × Obj)} {x y z:Operand} {K V:Type} [DecidableEq K] {encK:K->Value} {encV:V->Value}
theorem eff_insert {r:Nat}{l:List (K × V)}(k:K)(u:V){v v':Value}{H':List (Nat × Obj)}(hk:KeyOk (V:=V) P kt encK)(hx:Ev L x (.map (some r)))(hy:Ev L y v)(hv:v=encK k)(hz:Ev L z v')(hv':v'=encV u)(ht:∀ w,(underlying t).run P w= .ok (.map kt et) w)
  (hu:Upd H r (mapO encK encV l) (mapO encK encV (upsert l k u)) H':=by(repeat (first|exact Upd.h|apply Upd.t|apply D7));done):Eff P w0 (.insert t x y z) ty L H (Still undef H'):=
 ⟨rfl,fun b w hO=>(C5 (ty:=ty) k u hk hx hy hv hz hv' ht hu).2 b w hO⟩
theorem eff_makeSlice0 {e k by':Nat}{z:Value}{i0:TypeInfo}(hx:Ev L x (.int .i64 0))(hy:Ev L y (.int .i64 (k:Int)))(ht:∀ w,(underlying t).run P w= .ok (.slice e) w)(hz:∀ w,(sizeOf e).run P w= .ok 1 w)(hi:∀ w,(typeInfo e).run P w= .ok i0 w)(hby:i0.bytes=by')(hzv:∀ w,(zeroValue e).run P w= .ok z w)(hzc:z.cells= #[z])(hb:k*by'<=281474976710656)(hk:k<=1000000):
  Eff P w0 (.makeSlice t x y) ty L H (fun v H'=>∃ n,v=slV (.blk n k (List.replicate k z)) 0/\H'=slH (.blk n k (List.replicate k z)) [] e++H):=
 ⟨rfl,fun b w hO=>by
  have e1:IntKind.i64.wrap (k:Int)=k:=IntWalk.i64_in _ qom;have e1b:IntKind.i64.wrap (0:Int)=0:=IntWalk.i64_in _ qom;have e2: ¬ ((281474976710656:Int)<(by':Int)*k):=by
   have:(k*by':Nat)<=281474976710656:=hb;have h2:((k*by':Nat):Int)=(by':Int)*k:=by rw[Nat.mul_comm];simp
   omega
  have e3: ¬ ((k:Int)<0):=by omega
  have:(exO (ev (lk L b)) (.makeSlice t x y) ty).run P w= .ok (.value (.slice (some ⟨w.heap.size,0,none⟩) 0 k)) (w.alloc (Cl (List.replicate k z) e)):=by
   simp[exO,execOp,Instr.makeSlice,hx b,hy b,ht,hz,hi,hby,hzv,hzc,asInt,asIntOf,e1,e1b,e2,Sem.run_bind,Result.andThen];rw[if_neg e3]
   by_cases h0:k=0
   ·subst h0;have e5:(Array.map (fun (_:Nat)=>(default:Value)) (Array.range 0))=([]:List Value).toArray:=by simp
    rw[if_pos U,e5,F8];rfl
   ·have e4:Array.map (fun x=>[z][x % 1]?.getD default) (Array.range k)=(List.replicate k z).toArray:=by
     apply Array.ext_getElem?;intro i
     by_cases hi:i<k
     ·simp[hi,Nat.mod_one]
     ·simp[hi]
    rw[if_neg h0,e4,F8]
  rw[this];exact⟨_,hO.alloc _,_,rfl,rfl⟩⟩
end
theorem D3 {P:Program}{b:Frame}{a:Act}{k:List Item}{cs:List Frame}{w:World}{c:Code}:
  step P (lone (b.atR a (.code (.scope c)::k)) cs w)= .next (lone (b.atR a (.code c:: .inScope c::k)) cs w):=
 step_lone_go (by simp[stepG,stepG.exec,Frame.atR])
theorem stepR_inScope {P:Program}{b:Frame}{a:Act}{k:List Item}{cs:List Frame}{w:World}{c:Code}:
  step P (lone (b.atR a (.inScope c::k)) cs w)= .next (lone (b.atR a k) cs w):=
 step_lone_go (by simp[stepG,stepG.exec,Frame.atR])
theorem wpIn_scope {F:Fence}{n:Nat}{P:Program}{Q:Exit->Act->World->Prop}{a:Act}{w:World}{c:Code}(h:c.wpIn F n P (Exit.noGoto Q) a w):(Code.scope c).wpIn F n P Q a w:=by
 intro b k cs hro hb hr;have h0:(lone (b.atR a (.code (.scope c)::k)) cs w).fenced P F:=fenced_calm hb hr U;obtain⟨e,a₁,w₁,hq,harr⟩:=h b (.inScope c::k) cs hro hb hr;cases e with
 |normal=>exact⟨.normal,a₁,w₁,hq, .head h0 D3 (StepsIn.trans harr (.one (fenced_calm hb hr rfl) stepR_inScope))⟩
 |exit id'=>
  have hx:exitTo id' (.inScope c::k)=exitTo id' k:=by simp[exitTo]
  exact⟨.exit id',a₁,w₁,hq,fun k' hk=> .head h0 D3 (harr.1 k' (by rw[hx];exact hk)),
   fun hr' hk=>let ⟨k₁,h1,h2⟩:=harr.2 hr' (by rw[hx];exact hk);⟨k₁,h1, .head h0 D3 h2⟩⟩
 |goto l=>exact hq.elim
 |ret=>exact⟨_,a₁,w₁,hq, .of_steps (.one h0 D3) harr⟩
 |panic ch=>exact⟨_,a₁,w₁,hq, .of_steps (.one h0 D3) harr⟩
 |outgrown=>exact⟨_,a₁,w₁,hq, .of_steps (.one h0 D3) harr⟩
section
variable {P:Program} {r:Option Nat} {N:Nat} {w0:World} {Q:Post} {L:Fm} {ds:List Deferred} {H:List (Nat × Obj)}
def noG (Q:Post):Post
 | .goto _,_,_,_=>False
 |e,σ,ds,w=>Q e σ ds w
theorem j_scope {c:Code}(h:J P r N w0 c (noG Q) L ds H):J P r N w0 (.scope c) Q L ds H:=fun b w hO a hs hf hd=>
 wpIn_scope (wpIn_mono (h b w hO a hs hf hd) (by
  intro e a' w' hq;cases e with
  |goto l=>exact hq.2
  |normal=>exact hq
  |exit id=>exact hq
  |ret=>exact hq
  |panic ch=>exact hq
  |outgrown=>exact hq))
theorem j_label {l:Nat}(h:JQ w0 Q .normal L ds H):J P r N w0 (.label l) Q L ds H:=fun b w hO a hs hf hd=>wpIn_label ⟨hs,by rw[hf,hd];exact h b w hO⟩
theorem q_scope (h:JQ w0 Q .normal L ds H):JQ w0 (noG Q) .normal L ds H:=h
theorem q_scope_ret (h:JQ w0 Q .ret L ds H):JQ w0 (noG Q) .ret L ds H:=h
theorem q_scope_exit {id:Nat}(h:JQ w0 Q (.exit id) L ds H):JQ w0 (noG Q) (.exit id) L ds H:=h
theorem np_scope (h:NoPanic Q):NoPanic (noG Q):=⟨fun c σ ds w hq=>h.no c σ ds w hq⟩
end
def AllL {α:Type} (p:α->Prop):List α->Prop
 |[]=>True
 |x::l=>p x/\AllL p l
theorem AllL.mem {α:Type}{p:α->Prop}:∀ {l:List α},AllL p l->∀ x∈l,p x
 |[],_,x,h=>by cases h
 |y::l,h,x,hx=>by
  rcases List.mem_cons.1 hx with rfl|hx
  ·exact h.1
  ·exact h.2.mem x hx
def FaOk (P:Program) (e:(Nat × Nat) × Option Nat):Prop:=
 match e.2 with
 |none=>∀ b o w,(Instr.fieldAt e.1.1 (.pointer (some ⟨b,o,none⟩)) e.1.2).run P w= .ok (.pointer (some ⟨b,o,none⟩)) w
 |some k=>∀ b o w,(Instr.fieldAt e.1.1 (.pointer (some ⟨b,o,none⟩)) e.1.2).run P w= .ok (.pointer (some ⟨b,o+k,none⟩)) w
structure Tab (P:Program) where
 fo:List ((Nat × Nat) × Option Nat)
 sl:List Nat
 okf:AllL (FaOk P) fo
 okl:AllL (fun t=>∃ e,∀ w,(underlying t).run P w= .ok (.slice e) w) sl
def lkF:List ((Nat × Nat) × Option Nat)->Nat->Nat->Option (Option Nat)
 |[],_,_=>none
 |((t,i),k)::r,t',i'=>match Nat.beq t t' with
  |true=>(match Nat.beq i i' with
   |true=>some k
   |false=>lkF r t' i')
  |false=>lkF r t' i'
theorem J2:∀ {l:List ((Nat × Nat) × Option Nat)} {t i:Nat} {k:Option Nat},lkF l t i=some k->((t,i),k)∈l
 |[],_,_,_,h=>by cases h
 |((t,i),k)::r,t',i',k',h=>by
  rw[lkF] at h;cases h1:Nat.beq t t'
  ·simp only[h1] at h;exact List.mem_cons_of_mem _ (J2 h)
  ·cases h2:Nat.beq i i'
   ·simp only[h1,h2] at h;exact List.mem_cons_of_mem _ (J2 h)
   ·simp only[h1,h2] at h;have e1:=Nat.eq_of_beq_eq_true h1;have e2:=Nat.eq_of_beq_eq_true h2;have e3:=Option.some.inj h;subst e1;subst e2;subst e3;simp
def memN:List Nat->Nat->Bool
 |[],_=>false
 |x::r,t=>match Nat.beq x t with
  |true=>true
  |false=>memN r t
theorem memN_mem:∀ {l:List Nat} {t:Nat},memN l t=true->t∈l
 |[],_,h=>by cases h
 |x::r,t,h=>by
  rw[memN] at h;cases h1:Nat.beq x t
  ·simp only[h1] at h;exact List.mem_cons_of_mem _ (memN_mem h)
  ·have e:=Nat.eq_of_beq_eq_true h1;subst e;simp
def evl (L:Fm):Operand->Option Value
 | .tmp k=>fnd? L k
 | .const v=>some v
 | .func f=>some (.func (.func f) #[] #[])
 | .global g=>some (.pointer (some ⟨g,0,none⟩))
theorem C4 {L:Fm}{x:Operand}{v:Value}(h:evl L x=some v):Ev L x v:=by
 cases x with
 |tmp k=>exact Aa h
 |const u=>obtain rfl:=Option.some.inj h;exact An
 |func f=>obtain rfl:=Option.some.inj h;exact Ku
 |global g=>obtain rfl:=Option.some.inj h;exact ev_g
def cmpV (b:BinOp) (a c:Int):Option Value:=
 match b with
 | .lss=>some (.bool (decide (a<c)))
 | .leq=>some (.bool (decide (a<=c)))
 | .gtr=>some (.bool (decide (c<a)))
 | .geq=>some (.bool (decide (c<=a)))
 | .eql=>some (.bool (decide (a=c)))
 | .neq=>some (.bool (decide (¬ a=c)))
 |_=>none
def isI:IntKind->IntKind->Bool
 | .i64, .i64=>true
 | .u64, .u64=>true
 | .u8, .u8=>true
 | .u16, .u16=>true
 | .u32, .u32=>true
 | .i32, .i32=>true
 |_,_=>false
theorem isI_eq {k k':IntKind}(h:isI k k'=true):k=k':=by cases k<;>cases k'<;>first|rfl|cases h
def yld {P:Program} (tb:Tab P) (L:Fm):Op->Option Value
 | .move x=>evl L x
 | .assign x=>evl L x
 | .pick c x y=>match evl L c with
  |some (.bool b)=>(match b with
   |true=>evl L x
   |false=>evl L y)
  |_=>none
 | .extract x i=>match evl L x with
  |some (.tuple ⟨l⟩)=>nth? l i
  |_=>none
 | .nilCheck x=>match evl L x with
  |some (.pointer (some a))=>some (.pointer (some a))
  |_=>none
 | .fieldAddr t x i=>match evl L x with
  |some (.pointer (some ⟨b,o,none⟩))=>(match lkF tb.fo t i with
   |some none=>some (.pointer (some ⟨b,o,none⟩))
   |some (some k)=>some (.pointer (some ⟨b,o+k,none⟩))
   |none=>none)
  |_=>none
 | .binOp b _ x y _=>match evl L x,evl L y with
  |some (.int k a),some (.int k' c)=>(match isI k k' with
   |true=>cmpV b a c
   |false=>none)
  |_,_=>none
 | .call ⟨.builtin .len,⟨[x]⟩,⟨[t]⟩⟩=>match evl L x,memN tb.sl t with
  |some (.slice _ n _),true=>some (.int .i64 (n:Int))
  |_,_=>none
 |_=>none
theorem yld_yl {P:Program}{tb:Tab P}{w0:World}{L:Fm}{H:List (Nat × Obj)}{op:Op}{ty:TypeId}{v:Value}(h:yld tb L op=some v):Yl P w0 op ty L H v:=by
 unfold yld at h
 split at h
 ·exact Af (C4 h)
 ·exact Ag (C4 h)
 ·split at h
  ·rename_i b hc;cases b
   ·exact Bm (C4 hc) (C4 h)
   ·exact Bh (C4 hc) (C4 h)
  ·cases h
 ·split at h
  ·rename_i l hx;exact Bx (C4 hx) h
  ·cases h
 ·split at h
  ·rename_i a hx;obtain rfl:=Option.some.inj h;exact Ck (C4 hx)
  ·cases h
 ·split at h
  ·rename_i b o hx
   split at h
   ·rename_i hk;obtain rfl:=Option.some.inj h;exact Cj (C4 hx) (tb.okf.mem _ (J2 hk))
   ·rename_i k hk;obtain rfl:=Option.some.inj h;exact Bt (C4 hx) (tb.okf.mem _ (J2 hk))
   ·cases h
  ·cases h
 ·split at h
  ·rename_i k a k' c hx hy
   split at h
   ·rename_i hk;have e:=isI_eq hk;subst e;unfold cmpV at h
    split at h
    ·obtain rfl:=Option.some.inj h;exact Ci (C4 hx) (C4 hy)
    ·obtain rfl:=Option.some.inj h;exact Ee (C4 hx) (C4 hy)
    ·obtain rfl:=Option.some.inj h;exact Dx (C4 hx) (C4 hy)
    ·obtain rfl:=Option.some.inj h;exact Dy (C4 hx) (C4 hy)
    ·obtain rfl:=Option.some.inj h;exact D9 (C4 hx) (C4 hy)
    ·obtain rfl:=Option.some.inj h;exact F7 (C4 hx) (C4 hy)
    ·cases h
   ·cases h
  ·cases h
 ·split at h
  ·rename_i n c hx hm;obtain rfl:=Option.some.inj h;obtain⟨e,he⟩:=tb.okl.mem _ (memN_mem hm);exact Cd (C4 hx) he
  ·cases h
 ·cases h
def wtd (ops:Array Oper) (N:Nat) (L:Fm):Option (Nat × Bool)->Option Bool
 |none=>some true
 |some (j,want)=>match (ops[j]?).bind (·.dst) with
  |some s=>(match Nat.blt s N,fnd? L s with
   |true,some (.bool b)=>(match want,b with
    |true,true=>some true
    |false,false=>some true
    |true,false=>some false
    |false,true=>some false)
   |true,some (.tuple ⟨[]⟩)=>some false
   |_,_=>none)
  |none=>none
theorem wtd_t {ops:Array Oper}{N:Nat}{L:Fm}{g:Option (Nat × Bool)}(h:wtd ops N L g=some true):Gd ops L g N true:=by
 cases g with
 |none=>exact Ac
 |some g=>
  obtain⟨j,want⟩:=g;simp only[wtd] at h
  split at h
  ·rename_i s hs
   split at h
   ·rename_i b hb hf;cases want<;>cases b<;>simp only at h<;>first|exact⟨s,_,hs,by simpa[Nat.blt_eq] using hb,Aa hf,rfl⟩|cases h
   ·cases h
   ·cases h
  ·cases h
theorem wtd_f {ops:Array Oper}{N:Nat}{L:Fm}{g:Option (Nat × Bool)}(h:wtd ops N L g=some false):Nw ops L g N:=by
 cases g with
 |none=>cases h
 |some g=>
  obtain⟨j,want⟩:=g;simp only[wtd] at h
  split at h
  ·rename_i s hs
   split at h
   ·rename_i b hb hf;cases want<;>cases b<;>simp only at h<;>first|exact .inl ⟨s,_,hs,by simpa[Nat.blt_eq] using hb,Aa hf,rfl⟩|cases h
   ·rename_i hb hf;exact .inr ⟨j,want,s,rfl,hs,by simpa[Nat.blt_eq] using hb,Aa hf⟩
   ·cases h
  ·cases h
inductive Kt
 |code (c:Code)
 |block (id:Nat)
 |scope
inductive Cur
 |ops (a:Array Oper) (l:List Oper)
 |code (c:Code)
 |ex (e:Exit)
def postK (P:Program) (r:Option Nat) (N:Nat):List Kt->Post->Post
 |[],Q=>Q
 | .code c::ks,Q=>thenQ (swp P r N c (postK P r N ks Q)) (postK P r N ks Q)
 | .block id::ks,Q=>blockQ id (postK P r N ks Q)
 | .scope::ks,Q=>noG (postK P r N ks Q)
def G (P:Program) (r:Option Nat) (N:Nat) (w0:World) (c:Cur) (ks:List Kt) (Q:Post) (L:Fm) (ds:List Deferred) (H:List (Nat × Obj)):Prop:=
 match c with
 | .ops a l=>JL P r N w0 a l (postK P r N ks Q) L ds H
 | .code c=>J P r N w0 c (postK P r N ks Q) L ds H
 | .ex e=>JQ w0 (postK P r N ks Q) e L ds H
structure Sta where
 c:Cur
 k:List Kt
 L:Fm
def goN {P:Program} (tb:Tab P) (N:Nat):Nat->Cur->List Kt->Fm->Sta
 |0,c,k,L=>⟨c,k,L⟩
 |n+1,c,k,L=>match c with
  | .code (.seq x y)=>goN tb N n (.code x) (.code y::k) L
  | .code (.region _ ⟨l⟩ false)=>goN tb N n (.ops ⟨l⟩ l) k L
  | .code .skip=>goN tb N n (.ex .normal) k L
  | .code .ret=>goN tb N n (.ex .ret) k L
  | .code (.exit id)=>goN tb N n (.ex (.exit id)) k L
  | .code (.block id c)=>goN tb N n (.code c) (.block id::k) L
  | .code (.scope c)=>goN tb N n (.code c) (.scope::k) L
  | .code (.label _)=>goN tb N n (.ex .normal) k L
  | .code (.cond x a b)=>(match evl L x with
   |some (.bool t)=>(match t with
    |true=>goN tb N n (.code a) k L
    |false=>goN tb N n (.code b) k L)
   |_=>⟨.code (.cond x a b),k,L⟩)
  | .ops a []=>goN tb N n (.ex .normal) k L
  | .ops a (⟨d,op,ty,p,af,g⟩::l)=>(match dOk d N with
   |true=>(match wtd a N L g with
    |some true=>(match yld tb L op with
     |some v=>(match d with
      |some d=>goN tb N n (.ops a l) k ((d,v)::L)
      |none=>goN tb N n (.ops a l) k L)
     |none=>⟨.ops a (⟨d,op,ty,p,af,g⟩::l),k,L⟩)
    |some false=>(match d with
     |some d=>goN tb N n (.ops a l) k ((d,undef)::L)
     |none=>goN tb N n (.ops a l) k L)
    |none=>⟨.ops a (⟨d,op,ty,p,af,g⟩::l),k,L⟩)
   |false=>⟨.ops a (⟨d,op,ty,p,af,g⟩::l),k,L⟩)
  | .ex .normal=>(match k with
   | .code c::k=>goN tb N n (.code c) k L
   | .block _::k=>goN tb N n (.ex .normal) k L
   | .scope::k=>goN tb N n (.ex .normal) k L
   |[]=>⟨.ex .normal,[],L⟩)
  | .ex .ret=>(match k with
   |_::k=>goN tb N n (.ex .ret) k L
   |[]=>⟨.ex .ret,[],L⟩)
  | .ex (.exit id)=>(match k with
   | .code _::k=>goN tb N n (.ex (.exit id)) k L
   | .scope::k=>goN tb N n (.ex (.exit id)) k L
   | .block id'::k=>(match Nat.beq id id' with
    |true=>goN tb N n (.ex .normal) k L
    |false=>goN tb N n (.ex (.exit id)) k L)
   |[]=>⟨.ex (.exit id),[],L⟩)
  |c=>⟨c,k,L⟩
section
variable {P:Program} {r:Option Nat} {N:Nat} {w0:World} {Q:Post} {ds:List Deferred} {H:List (Nat × Obj)} {tb:Tab P}
theorem Jn:∀ (n:Nat) (c:Cur) (k:List Kt) (L:Fm),G P r N w0 (goN tb N n c k L).c (goN tb N n c k L).k Q (goN tb N n c k L).L ds H->G P r N w0 c k Q L ds H
 |0,_,_,_,h=>h
 |n+1,c,k,L,h=>by
  have ih:=Jn n;cases c with
  |code c=>
   cases c with
   |seq x y=>exact Am (ih (.code x) (.code y::k) L h)
   |region id ops b=>
    obtain⟨l⟩:=ops;cases b
    ·exact Ad (ih (.ops ⟨l⟩ l) k L h)
    ·exact h
   |skip=>exact Bp (ih (.ex .normal) k L h)
   |ret=>exact Bq (ih (.ex .ret) k L h)
   |exit id=>exact Ct (ih (.ex (.exit id)) k L h)
   |block id c=>exact Bo (ih (.code c) (.block id::k) L h)
   |scope c=>exact j_scope (ih (.code c) (.scope::k) L h)
   |label l=>exact j_label (ih (.ex .normal) k L h)
   |cond x a b=>
    simp only[goN] at h
    split at h
    ·rename_i t ht;have hev:=C4 ht;intro b' w hO a' hs hf hd;cases t
     ·exact wpIn_cond_split (t:=false) (by rw[G5,hf];exact hev b') (fun h=>by cases h) (fun _=>ih (.code b) k L h b' w hO a' hs hf hd)
     ·exact wpIn_cond_split (t:=true) (by rw[G5,hf];exact hev b') (fun _=>ih (.code a) k L h b' w hO a' hs hf hd) (fun h=>by cases h)
    ·exact h
   |_=>exact h
  |ops a l=>
   cases l with
   |nil=>exact Aj (ih (.ex .normal) k L h)
   |cons o l=>
    obtain⟨d,op,ty,p,af,g⟩:=o;simp only[goN] at h
    split at h
    ·rename_i hN
     split at h
     ·rename_i hw
      split at h
      ·rename_i v hv;refine A3 (yld_yl hv) hN (wtd_t hw) ?_;cases d with
       |some d=>exact ih (.ops a l) k _ h
       |none=>exact ih (.ops a l) k _ h
      ·exact h
     ·rename_i hw;refine Lj hN (wtd_f hw) ?_;cases d with
      |some d=>exact ih (.ops a l) k _ h
      |none=>exact ih (.ops a l) k _ h
     ·exact h
    ·exact h
  |ex e=>
   cases e with
   |normal=>
    cases k with
    |nil=>exact h
    |cons x k=>cases x with
     |code c=>exact Ah (ih (.code c) k L h)
     |block id=>exact B4 (ih (.ex .normal) k L h)
     |scope=>exact q_scope (ih (.ex .normal) k L h)
   |ret=>
    cases k with
    |nil=>exact h
    |cons x k=>cases x with
     |code c=>exact Aw (ih (.ex .ret) k L h)
     |block id=>exact A4 (ih (.ex .ret) k L h)
     |scope=>exact q_scope_ret (ih (.ex .ret) k L h)
   |exit id=>
    cases k with
    |nil=>exact h
    |cons x k=>cases x with
     |code c=>exact Bv (ih (.ex (.exit id)) k L h)
     |scope=>exact q_scope_exit (ih (.ex (.exit id)) k L h)
     |block id'=>
      simp only[goN] at h
      split at h
      ·rename_i hb;have e:=Nat.eq_of_beq_eq_true hb;subst e;exact Bw (ih (.ex .normal) k L h)
      ·rename_i hb;exact q_block_miss hb (ih (.ex (.exit id)) k L h)
   |_=>exact h
def keepF (L:Fm):List Nat->Option Fm
 |[]=>some []
 |k::r=>match fnd? L k,keepF L r with
  |some v,some F=>some ((k,v)::F)
  |_,_=>none
theorem keepF_ok:∀ {L:Fm} {ks:List Nat} {F:Fm},keepF L ks=some F->Agree F L
 |_,[],_,h=>by obtain rfl:=Option.some.inj h;exact trivial
 |L,k::r,F,h=>by
  rw[keepF] at h
  split at h
  ·rename_i v F' h1 h2;obtain rfl:=Option.some.inj h;exact⟨Aa h1,keepF_ok h2⟩
  ·cases h
theorem kg {L C:Fm}(h:keepF L (C.map Prod.fst)=some C):Agree C L:=keepF_ok h
theorem qkg {L C:Fm}(h:Agree C L:=by exact kg rfl):Agree C L:=h
variable {a:Array Oper} {l:List Oper} {c:Code} {e:Exit} {ks ks':List Kt} {L L':Fm} {c':Cur}
theorem g_keep {F:Fm}(hk:Agree F L)(h:G P r N w0 c' ks Q F ds H):G P r N w0 c' ks Q L ds H:=by
 cases c' with
 |ops a l=>exact jl_keep F hk h
 |code c=>exact B5 F hk h
 |ex e=>exact jq_keep F hk h
theorem rO (tb:Tab P)(n:Nat)(hr:goN tb N n (.ops a l) ks L=⟨c',ks',L'⟩)(h:G P r N w0 c' ks' Q L' ds H):JL P r N w0 a l (postK P r N ks Q) L ds H:=
 Jn (tb:=tb) n (.ops a l) ks L (by rw[hr];exact h)
theorem rC (tb:Tab P)(n:Nat)(hr:goN tb N n (.code c) ks L=⟨c',ks',L'⟩)(h:G P r N w0 c' ks' Q L' ds H):J P r N w0 c (postK P r N ks Q) L ds H:=
 Jn (tb:=tb) n (.code c) ks L (by rw[hr];exact h)
theorem rX (tb:Tab P)(n:Nat)(hr:goN tb N n (.ex e) ks L=⟨c',ks',L'⟩)(h:G P r N w0 c' ks' Q L' ds H):JQ w0 (postK P r N ks Q) e L ds H:=
 Jn (tb:=tb) n (.ex e) ks L (by rw[hr];exact h)
theorem rD (tb:Tab P)(n:Nat)(hr:goN tb N n (.code c) [] L=⟨c',ks',L'⟩)(h:G P r N w0 c' ks' Q L' ds H):J P r N w0 c Q L ds H:=
 Jn (tb:=tb) n (.code c) [] L (by rw[hr];exact h)
theorem rG {c:Cur}(tb:Tab P)(n:Nat)(hr:goN tb N n c ks L=⟨c',ks',L'⟩)(h:G P r N w0 c' ks' Q L' ds H):G P r N w0 c ks Q L ds H:=
 Jn (tb:=tb) n c ks L (by rw[hr];exact h)
theorem kO (tb:Tab P)(n:Nat)(sl:List Nat){F:Fm}(hr:goN tb N n (.ops a l) ks L=⟨c',ks',L'⟩)(hk:keepF L' sl=some F)(h:G P r N w0 c' ks' Q F ds H):JL P r N w0 a l (postK P r N ks Q) L ds H:=
 rO tb n hr (g_keep (keepF_ok hk) h)
theorem kC (tb:Tab P)(n:Nat)(sl:List Nat){F:Fm}(hr:goN tb N n (.code c) ks L=⟨c',ks',L'⟩)(hk:keepF L' sl=some F)(h:G P r N w0 c' ks' Q F ds H):J P r N w0 c (postK P r N ks Q) L ds H:=
 rC tb n hr (g_keep (keepF_ok hk) h)
variable {H0:List (Nat × Obj)} {ops:Array Oper} {t:Nat}
def odN {P:Program} (tb:Tab P) (N:Nat) (ops:Array Oper):Nat->List (Nat × Bool)->Fm->List (Nat × Bool) × Fm
 |0,pl,L=>(pl,L)
 |n+1,(i,true)::plan,L=>(match ops[i]? with
  |some ⟨d,op,ty,p,af,g⟩=>(match dOk d N with
   |true=>(match wtd ops N L g with
    |some true=>(match yld tb L op with
     |some v=>(match d with
      |some d=>odN tb N ops n plan ((d,v)::L)
      |none=>odN tb N ops n plan L)
     |none=>((i,true)::plan,L))
    |some false=>(match d with
     |some d=>odN tb N ops n plan ((d,undef)::L)
     |none=>odN tb N ops n plan L)
    |none=>((i,true)::plan,L))
   |false=>((i,true)::plan,L))
  |none=>((i,true)::plan,L))
 |_+1,pl,L=>(pl,L)
theorem odN_ok:∀ (n:Nat) (pl:List (Nat × Bool)) (L:Fm),JO P r N w0 H0 ops t (odN tb N ops n pl L).1 Q (odN tb N ops n pl L).2 ds H->JO P r N w0 H0 ops t pl Q L ds H
 |0,_,_,h=>h
 |n+1,[],L,h=>h
 |n+1,(i,false)::pl,L,h=>h
 |n+1,(i,true)::plan,L,h=>by
  have ih:=odN_ok n;simp only[odN] at h
  split at h
  ·rename_i d op ty p af g hi
   split at h
   ·rename_i hN
    split at h
    ·rename_i hw
     split at h
     ·rename_i v hv;refine o_y hi (yld_yl hv) ?_ hN (wtd_t hw);cases d with
      |some d=>exact ih plan _ h
      |none=>exact ih plan _ h
     ·exact h
    ·rename_i hw;refine o_n hi ?_ hN (wtd_f hw);cases d with
     |some d=>exact ih plan _ h
     |none=>exact ih plan _ h
    ·exact h
   ·exact h
  ·exact h
theorem rP (tb:Tab P)(n:Nat){pl pl':List (Nat × Bool)}(hr:odN tb N ops n pl L=(pl',L'))(h:JO P r N w0 H0 ops t pl' Q L' ds H):JO P r N w0 H0 ops t pl Q L ds H:=
 odN_ok (tb:=tb) n pl L (by rw[hr];exact h)
theorem J3 {Q:Post}(h:NoPanic Q):∀ {ks:List Kt},NoPanic (postK P r N ks Q)
 |[]=>h
 | .code c::ks=>Ig (J3 h)
 | .block id::ks=>Gp (J3 h)
 | .scope::ks=>np_scope (J3 h)
theorem By {Q:Post}(h:NoPanic Q:=by repeat (first|exact Kz|exact Ij|exact G8|apply J3|apply Jz|apply K1|apply np_scope|apply Ig|apply Gp)):NoPanic Q:=h
end
end Go.Proofs.YtnafbfbfmgfcfaaGreatDoor
