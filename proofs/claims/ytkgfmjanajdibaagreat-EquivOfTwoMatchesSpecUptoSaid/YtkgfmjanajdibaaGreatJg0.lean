/-
  A part of what LawG rests on: the logic, walks and plain laws. No condition.
-/
import Derived.KernelRfl
import Derived.Test.YtkgfmjanajdibaaGreatProg
import Derived.RangeFuncLeaves
import Derived.RangeFuncRecord
import Derived.RangeFuncIn
import Derived.OrdersIn
import Derived.Below
import Derived.WalkKit
import Derived.IntWalk
import Derived.StillTail
namespace Go.Proofs.YtkgfmjanajdibaaGreat
open _root_.Go.Proofs.Tryz
open Go.RowKit
set_option linter.unusedVariables false
set_option linter.unusedSimpArgs false
set_option linter.unusedSectionVars false
set_option maxRecDepth 100000
theorem U {α:Sort _}{a:α}:a=a:=rfl
theorem qom {p:Prop}(h:p:=by omega):p:=h
theorem qde {p:Prop}(h:p:=by decide):p:=h
theorem qrf {p:Prop}(h:p:=by rfl):p:=h
theorem qkr {α:Sort _}{a b:α}(h:a=b:=by kernel_rfl):a=b:=h
theorem qco {p:Prop}(h:p:=by exact c_o):p:=h
theorem qcs {p:Prop}(h:p:=by exact A0):p:=h
theorem qlc {p:Prop}(h:p:=by repeat (first|exact LocL.h|apply LocL.t|apply LocL.a)):p:=h
abbrev Fm:=List (Nat × Value)
def lk (L:Fm) (b:Nat->Value) (k:Nat):Value:=
 match L with
 |[]=>b k
 |e::r=>match Nat.beq e.1 k with
  |true=>e.2
  |false=>lk r b k
def At (L:Fm) (k:Nat) (v:Value):Prop:=∀ b,lk L b k=v
def fnd? :Fm->Nat->Option Value
 |[],_=>none
 |(d,v)::r,k=>match Nat.beq d k with
  |true=>some v
  |false=>fnd? r k
theorem Aa:∀ {L:Fm} {k:Nat} {v:Value},fnd? L k=some v->At L k v
 |[],_,_,h=>by cases h
 |(d,u)::r,k,v,h=>fun b=>by
  rw[fnd?] at h;rw[lk];cases hb:Nat.beq d k
  ·simp only[hb] at h ⊢;exact Aa h b
  ·simp only[hb] at h ⊢;exact Option.some.inj h
theorem Cb {L:Fm}{k:Nat}{v u:Value}(h:At L k v)(e:v=u):At L k u:=e ▸ h
theorem vint {k:IntKind}{a b:Int}(h:a=b):Value.int k a= .int k b:=by rw[h]
theorem vbool {a b:Bool}(h:a=b):Value.bool a= .bool b:=by rw[h]
def ev (σ:Nat->Value):Operand->Value
 | .tmp t=>σ t
 | .const v=>v
 | .global g=> .pointer (some ⟨g,0,none⟩)
 | .func f=> .func (.func f) #[] #[]
def Ev (L:Fm) (x:Operand) (v:Value):Prop:=∀ b,ev (lk L b) x=v
theorem Al {L:Fm}{v:Value}:Ev L (.const v) v:=fun _=>rfl
theorem ev_g {L:Fm}{g:Nat}:Ev L (.global g) (.pointer (some ⟨g,0,none⟩)):=fun _=>rfl
theorem Nk {L:Fm}{f:Nat}:Ev L (.func f) (.func (.func f) #[] #[]):=fun _=>rfl
def fr (a:Act):Nat->Value:=fun k=>a.tmps.getD k undef
theorem Er (a:Act)(x:Operand):a.eval x=ev (fr a) x:=by cases x<;>rfl
theorem Js (a:Act):a.eval=ev (fr a):=funext (Er a)
theorem fr_put {a:Act}{d:Nat}{v:Value}{L:Fm}{b:Nat->Value}(hd:d<a.tmps.size)(h:fr a=lk L b):fr (a.put (some d) v)=lk ((d,v)::L) b:=by
 funext k
 have hk:=congrFun h k;unfold fr at *;unfold lk;simp only[Act.put]
 by_cases hdk:d=k
 ·subst hdk;simp[Nat.beq_refl,Array.getD_eq_getD_getElem?,hd]
 ·have:Nat.beq d k=false:=by
   cases hb:Nat.beq d k
   ·rfl
   ·exact absurd (Nat.eq_of_beq_eq_true hb) hdk
  simp only[this];rw[<- hk];simp[Array.getD_eq_getD_getElem?,Array.getElem?_setIfInBounds_ne hdk]
theorem Df (a:Act)(d:Option Tmp)(v:Value):(a.put d v).tmps.size=a.tmps.size:=by cases d<;>simp[Act.put]
theorem Cu (a:Act)(d:Option Tmp)(v:Value):(a.put d v).defers=a.defers:=by cases d<;>rfl
structure Own (w0:World) (H:List (Nat × Obj)) (w:World):Prop where
 below:Below w0.heap.size w0 w
 has:∀ e∈H,w.heap[e.1]? =some e.2
 base:∀ e∈H,w0.heap.size<=e.1
 nodup:(H.map (·.1)).Nodup
 drw:w0.drawn<=w.drawn
theorem Own.start (w:World):Own w [] w:=⟨Below.refl _ _,by simp,by simp,by simp,Nat.le_refl _⟩
theorem Own.tail {w0 w:World}{e:Nat × Obj}{H:List (Nat × Obj)}(h:Own w0 (e::H) w):Own w0 H w:=
 ⟨h.below,fun x hx=>h.has x (by simp[hx]),fun x hx=>h.base x (by simp[hx]),(by have:=h.nodup;simp at this;exact this.2),h.drw⟩
theorem Own.drop {w0 w:World}{X H:List (Nat × Obj)}(h:Own w0 (X++H) w):Own w0 H w:=by
 induction X with
 |nil=>exact h
 |cons e X ih=>exact ih h.tail
theorem Own.sub {w0 w:World}{H H':List (Nat × Obj)}(h:Own w0 H w)(hs:H'.Sublist H):Own w0 H' w:=
 ⟨h.below,fun x hx=>h.has x (hs.subset hx),fun x hx=>h.base x (hs.subset hx),h.nodup.sublist (hs.map _),h.drw⟩
theorem Own.drawn {w0 w:World}{H:List (Nat × Obj)}(h:Own w0 H w):Own w0 H {w with drawn:=w.drawn+1}:=
 ⟨⟨h.below.os,h.below.tape,h.below.output,h.below.size,h.below.block⟩,h.has,h.base,h.nodup,Nat.le_succ_of_le h.drw⟩
theorem Own.alloc {w0 w:World}{H:List (Nat × Obj)}(h:Own w0 H w)(o:Obj):Own w0 ((w.heap.size,o)::H) (w.alloc o):=by
 have hlt:∀ e∈H,e.1<w.heap.size:=fun e he=>(Array.getElem?_eq_some_iff.1 (h.has e he)).1
 refine⟨h.below.alloc h.below.size _,fun e he=> ?_,fun e he=> ?_,?_,h.drw⟩
 ·rcases List.mem_cons.1 he with rfl|he
  ·exact World.alloc_heap_new _ _
  ·rw[Below.heap_alloc _ _ _ (hlt e he)];exact h.has e he
 ·rcases List.mem_cons.1 he with rfl|he
  ·exact h.below.size
  ·exact h.base e he
 ·simp only[List.map_cons,List.nodup_cons];refine⟨fun hm=> ?_,h.nodup⟩;obtain⟨e,he,heq⟩:=List.mem_map.1 hm;have:=hlt e he;omega
def Fnd (H:List (Nat × Obj)) (n:Nat) (o:Obj):Prop:=(n,o)∈H
theorem fnd_h {H:List (Nat × Obj)}{n:Nat}{o:Obj}:Fnd ((n,o)::H) n o:=by simp[Fnd]
theorem Cr {H:List (Nat × Obj)}{n:Nat}{o:Obj}{e:Nat × Obj}(h:Fnd H n o):Fnd (e::H) n o:=by simp[Fnd] at *;exact .inr h
section
variable {α:Type} {a b c d e f g h i j:α} {l:List α}
theorem sb0:l.Sublist l:=List.Sublist.refl _
theorem sb1:l.Sublist (a::l):=sb0.cons _
theorem sb2:l.Sublist (a::b::l):=sb1.cons _
theorem sb3:l.Sublist (a::b::c::l):=sb2.cons _
theorem sb4:l.Sublist (a::b::c::d::l):=sb3.cons _
theorem sb5:l.Sublist (a::b::c::d::e::l):=sb4.cons _
theorem sb6:l.Sublist (a::b::c::d::e::f::l):=sb5.cons _
theorem sb7:l.Sublist (a::b::c::d::e::f::g::l):=sb6.cons _
theorem sb8:l.Sublist (a::b::c::d::e::f::g::h::l):=sb7.cons _
end
theorem sbt {α:Type}{l l':List α}(h:l.Sublist l':=by first|exact sb0|exact sb1|exact sb2|exact sb3|exact sb4|exact sb5|exact sb6|exact sb7|exact sb8|((repeat (first|exact sb0|refine List.Sublist.cons_cons _ ?_|refine List.Sublist.cons _ ?_|refine List.Sublist.append (List.Sublist.refl _) ?_|refine List.Sublist.trans ?_ (List.sublist_append_right _ _)));done)):l.Sublist l':=h
theorem Me {X H:List (Nat × Obj)}{n:Nat}{o:Obj}(h:Fnd H n o):Fnd (X++H) n o:=by simp[Fnd] at *;exact .inr h
inductive Upd:List (Nat × Obj)->Nat->Obj->Obj->List (Nat × Obj)->Prop
 |h {H n o o'}:Upd ((n,o)::H) n o o' ((n,o')::H)
 |t {H n o o' H' e}:Upd H n o o' H'->Upd (e::H) n o o' (e::H')
theorem Gn {X H H':List (Nat × Obj)}{n:Nat}{o o':Obj}(h:Upd H n o o' H'):Upd (X++H) n o o' (X++H'):=by
 induction X with
 |nil=>exact h
 |cons e X ih=>exact .t ih
theorem fndq {H:List (Nat × Obj)}{n:Nat}{o:Obj}(h:Fnd H n o:=by repeat (first|exact fnd_h|refine Cr ?_|refine Me ?_)):Fnd H n o:=h
theorem updq {H H':List (Nat × Obj)}{n:Nat}{o o':Obj}(h:Upd H n o o' H':=by repeat (first|exact Upd.h|apply Upd.t|apply Gn)):Upd H n o o' H':=h
abbrev plq4 (r:List (Nat × Bool)):List (Nat × Bool):=(0,true)::(1,true)::(2,true)::(3,true)::r
abbrev plq5 (r:List (Nat × Bool)):List (Nat × Bool):=(0,true)::(1,true)::(2,true)::(3,true)::(4,true)::r
abbrev plq6 (r:List (Nat × Bool)):List (Nat × Bool):=(0,true)::(1,true)::(2,true)::(3,true)::(4,true)::(5,true)::r
abbrev plq7 (r:List (Nat × Bool)):List (Nat × Bool):=(0,true)::(1,true)::(2,true)::(3,true)::(4,true)::(5,true)::(6,true)::r
abbrev plq8 (r:List (Nat × Bool)):List (Nat × Bool):=(0,true)::(1,true)::(2,true)::(3,true)::(4,true)::(5,true)::(6,true)::(7,true)::r
abbrev plq9 (r:List (Nat × Bool)):List (Nat × Bool):=(0,true)::(1,true)::(2,true)::(3,true)::(4,true)::(5,true)::(6,true)::(7,true)::(8,true)::r
abbrev plq10 (r:List (Nat × Bool)):List (Nat × Bool):=(0,true)::(1,true)::(2,true)::(3,true)::(4,true)::(5,true)::(6,true)::(7,true)::(8,true)::(9,true)::r
abbrev plq11 (r:List (Nat × Bool)):List (Nat × Bool):=(0,true)::(1,true)::(2,true)::(3,true)::(4,true)::(5,true)::(6,true)::(7,true)::(8,true)::(9,true)::(10,true)::r
abbrev plq12 (r:List (Nat × Bool)):List (Nat × Bool):=(0,true)::(1,true)::(2,true)::(3,true)::(4,true)::(5,true)::(6,true)::(7,true)::(8,true)::(9,true)::(10,true)::(11,true)::r
abbrev plq13 (r:List (Nat × Bool)):List (Nat × Bool):=(0,true)::(1,true)::(2,true)::(3,true)::(4,true)::(5,true)::(6,true)::(7,true)::(8,true)::(9,true)::(10,true)::(11,true)::(12,true)::r
abbrev plq14 (r:List (Nat × Bool)):List (Nat × Bool):=(0,true)::(1,true)::(2,true)::(3,true)::(4,true)::(5,true)::(6,true)::(7,true)::(8,true)::(9,true)::(10,true)::(11,true)::(12,true)::(13,true)::r
abbrev plq15 (r:List (Nat × Bool)):List (Nat × Bool):=(0,true)::(1,true)::(2,true)::(3,true)::(4,true)::(5,true)::(6,true)::(7,true)::(8,true)::(9,true)::(10,true)::(11,true)::(12,true)::(13,true)::(14,true)::r
abbrev plq16 (r:List (Nat × Bool)):List (Nat × Bool):=(0,true)::(1,true)::(2,true)::(3,true)::(4,true)::(5,true)::(6,true)::(7,true)::(8,true)::(9,true)::(10,true)::(11,true)::(12,true)::(13,true)::(14,true)::(15,true)::r
abbrev plq17 (r:List (Nat × Bool)):List (Nat × Bool):=(0,true)::(1,true)::(2,true)::(3,true)::(4,true)::(5,true)::(6,true)::(7,true)::(8,true)::(9,true)::(10,true)::(11,true)::(12,true)::(13,true)::(14,true)::(15,true)::(16,true)::r
abbrev plq18 (r:List (Nat × Bool)):List (Nat × Bool):=(0,true)::(1,true)::(2,true)::(3,true)::(4,true)::(5,true)::(6,true)::(7,true)::(8,true)::(9,true)::(10,true)::(11,true)::(12,true)::(13,true)::(14,true)::(15,true)::(16,true)::(17,true)::r
abbrev plq19 (r:List (Nat × Bool)):List (Nat × Bool):=(0,true)::(1,true)::(2,true)::(3,true)::(4,true)::(5,true)::(6,true)::(7,true)::(8,true)::(9,true)::(10,true)::(11,true)::(12,true)::(13,true)::(14,true)::(15,true)::(16,true)::(17,true)::(18,true)::r
abbrev plq20 (r:List (Nat × Bool)):List (Nat × Bool):=(0,true)::(1,true)::(2,true)::(3,true)::(4,true)::(5,true)::(6,true)::(7,true)::(8,true)::(9,true)::(10,true)::(11,true)::(12,true)::(13,true)::(14,true)::(15,true)::(16,true)::(17,true)::(18,true)::(19,true)::r
abbrev plq24 (r:List (Nat × Bool)):List (Nat × Bool):=(0,true)::(1,true)::(2,true)::(3,true)::(4,true)::(5,true)::(6,true)::(7,true)::(8,true)::(9,true)::(10,true)::(11,true)::(12,true)::(13,true)::(14,true)::(15,true)::(16,true)::(17,true)::(18,true)::(19,true)::(20,true)::(21,true)::(22,true)::(23,true)::r
abbrev Mm:=List (Nat × Obj)
abbrev Vi (n:Int):Value:= .int .i64 n
abbrev Pt (b o:Nat):Value:= .pointer (some ⟨b,o,none⟩)
theorem Upd.fst {H H':Mm}{n:Nat}{o o':Obj}(h:Upd H n o o' H'):H'.map (·.1)=H.map (·.1):=by
 induction h with
 |h=>rfl
 |t _ ih=>simp[ih]
theorem Upd.mem {H H':Mm}{n:Nat}{o o':Obj}(h:Upd H n o o' H'):(n,o)∈H:=by
 induction h with
 |h=>simp
 |t _ ih=>simp[ih]
theorem Upd.cases {H H':Mm}{n:Nat}{o o':Obj}(h:Upd H n o o' H')(hn:(H.map (·.1)).Nodup):∀ e∈H',e=(n,o')\/(e∈H/\e.1≠n):=by
 induction h with
 | @h H n o o'=>
  intro e he;rcases List.mem_cons.1 he with rfl|he
  ·exact .inl U
  ·simp only[List.map_cons,List.nodup_cons] at hn;exact .inr ⟨by simp[he],fun h=>hn.1 (List.mem_map.2 ⟨e,he,h⟩)⟩
 | @t H n o o' H' e0 hu ih=>
  intro e he;simp only[List.map_cons,List.nodup_cons] at hn;rcases List.mem_cons.1 he with rfl|he
  ·exact .inr ⟨by simp,fun h=>hn.1 (by rw[h];exact List.mem_map.2 ⟨_,hu.mem,rfl⟩)⟩
  ·rcases ih hn.2 e he with h|⟨h1,h2⟩
   ·exact .inl h
   ·exact .inr ⟨by simp[h1],h2⟩
theorem Own.put {w0 w:World}{H H':Mm}{n:Nat}{o o':Obj}(h:Own w0 H w)(hu:Upd H n o o' H'):Own w0 H' (w.putObj n o'):=by
 have hb:=h.base _ hu.mem;have hlt:n<w.heap.size:=(Array.getElem?_eq_some_iff.1 (h.has _ hu.mem)).1;refine⟨h.below.trans ⟨rfl,rfl,rfl,by simp,fun k hk=>World.putObj_heap_other (by simp at hb;omega)⟩,fun e he=> ?_,fun e he=> ?_,(by rw[hu.fst];exact h.nodup),h.drw⟩
 ·rcases hu.cases h.nodup e he with rfl|⟨h1,h2⟩
  ·exact World.putObj_heap_same hlt
  ·rw[World.putObj_heap_other h2];exact h.has e h1
 ·rcases hu.cases h.nodup e he with rfl|⟨h1,h2⟩
  ·exact hb
  ·exact h.base e h1
abbrev Cl (l:List Value) (t:TypeId):Obj:= .cells l.toArray t (0,0)
def nth? :List Value->Nat->Option Value
 |[],_=>none
 |v::_,0=>some v
 |_::l,i+1=>nth? l i
theorem Lo:∀ {l:List Value} {i:Nat} {v:Value},nth? l i=some v->l[i]? =some v
 |[],_,_,h=>by cases h
 |v::l,0,_,h=>by simpa[nth?] using h
 |_::l,i+1,_,h=>by simpa using Lo (l:=l) h
theorem Own.cell {w0 w:World}{H:Mm}{n i:Nat}{l:List Value}{t:TypeId}{v:Value}(h:Own w0 H w)(hf:Fnd H n (Cl l t))(hi:l[i]? =some v):w.cell? ⟨n,i,none⟩=some v:=by
 have:=h.has _ hf;simp only at this;simp[World.cell?,this,hi]
theorem Own.free {w0 w:World}{H:Mm}{n i:Nat}{l:List Value}{t:TypeId}(h:Own w0 H w)(hf:Fnd H n (Cl l t)):w.frozen? ⟨n,i,none⟩=false:=by
 have:=h.has _ hf;simp only at this;simp[World.frozen?,this]
theorem setCell_put {w:World}{n i:Nat}{c:Array Value}{t:TypeId}{f:Nat × Nat}(v:Value)(h:w.heap[n]? =some (.cells c t f)):w.setCell ⟨n,i,none⟩ v=w.putObj n (.cells (c.setIfInBounds i v) t f):=by
 obtain⟨hlt,he⟩:=Array.getElem?_eq_some_iff.1 h;unfold World.setCell World.putObj
 congr 1
 apply Array.ext
 ·simp
 ·intro k h1 h2;simp only[Array.getElem_modify]
  by_cases hk:n=k
  ·subst hk;simp only[if_true];rw[he];simp
  ·rw[if_neg hk,Array.getElem_setIfInBounds_ne (h:=hk)]
theorem fdd {H:List (Nat × Obj)}{n:Nat}{o:Obj}(h:Fnd H n o:=by repeat (first|exact fnd_h|refine Cr ?_|refine Me ?_)):Fnd H n o:=h
theorem atd {L:Fm}{s:Nat}{v:Value}(h:At L s v:=by first|exact Aa U|(refine Cb (Aa U) (vint ?_);omega)|(refine Cb (Aa U) ?_;simp;done)):At L s v:=h
theorem qat {p:Prop}(h:p:=by exact Aa U):p:=h
theorem stn {α:Type}{a b c:List α}(hs:b.Sublist c)(h:a.Sublist b:=by exact sbt):a.Sublist c:=List.Sublist.trans h hs
def rd:Option Nat->Fence
 |none=>Fence.wide
 |some l=>Fence.wide.inRound l
theorem K5 (r:Option Nat)(f:FuncId):(rd r).fn f:=by cases r<;>exact trivial
theorem rd_depth (r:Option Nat):(rd r).depth=none:=by cases r<;>rfl
theorem Jt (r:Option Nat){p:Prop}:(rd r).depth.isSome=true->p:=fun h=>by rw[rd_depth] at h;cases h
abbrev Post:=Exit->(Nat->Value)->List Deferred->World->Prop
def LQ (N:Nat) (Q:Post):Exit->Act->World->Prop:=fun e a w=>a.tmps.size=N/\Q e (fr a) a.defers w
def swp (P:Program) (r:Option Nat) (N:Nat) (c:Code) (Q:Post) (σ:Nat->Value) (ds:List Deferred) (w:World):Prop:=
 ∀ a:Act,a.tmps.size=N->fr a=σ->a.defers=ds->c.wpIn (rd r) 0 P (LQ N Q) a w
def swpL (P:Program) (r:Option Nat) (N:Nat) (ops:Array Oper) (l:List Oper) (Q:Post) (σ:Nat->Value) (ds:List Deferred) (w:World):Prop:=
 ∀ a:Act,a.tmps.size=N->fr a=σ->a.defers=ds->wpListIn (rd r) 0 P ops (LQ N Q) l a w
def J (P:Program) (r:Option Nat) (N:Nat) (w0:World) (c:Code) (Q:Post) (L:Fm) (ds:List Deferred) (H:Mm):Prop:=
 ∀ b w,Own w0 H w->swp P r N c Q (lk L b) ds w
def JL (P:Program) (r:Option Nat) (N:Nat) (w0:World) (ops:Array Oper) (l:List Oper) (Q:Post) (L:Fm) (ds:List Deferred) (H:Mm):Prop:=
 ∀ b w,Own w0 H w->swpL P r N ops l Q (lk L b) ds w
def JQ (w0:World) (Q:Post) (e:Exit) (L:Fm) (ds:List Deferred) (H:Mm):Prop:=
 ∀ b w,Own w0 H w->Q e (lk L b) ds w
section rules
variable {P:Program} {r:Option Nat} {N:Nat} {w0:World} {Q:Post} {L:Fm} {ds:List Deferred} {H:Mm}
def thenQ (K:(Nat->Value)->List Deferred->World->Prop) (Q:Post):Post
 | .normal,σ,ds,w=>K σ ds w
 |e,σ,ds,w=>Q e σ ds w
def blockQ (id:Nat) (Q:Post):Post
 | .exit id',σ,ds,w=>if id'=id then Q .normal σ ds w else Q (.exit id') σ ds w
 |e,σ,ds,w=>Q e σ ds w
theorem j_seq {x y:Code}(h:J P r N w0 x (thenQ (swp P r N y Q) Q) L ds H):J P r N w0 (.seq x y) Q L ds H:=fun b w hO a hs hf hd=>
 wpIn_seq (wpIn_mono (h b w hO a hs hf hd) (by
  intro e a' w' hq;cases e<;>first|exact hq.2 a' hq.1 U U|exact hq))
theorem q_then {y:Code}(h:J P r N w0 y Q L ds H):JQ w0 (thenQ (swp P r N y Q) Q) .normal L ds H:=h
theorem q_then_ret {K}(h:JQ w0 Q .ret L ds H):JQ w0 (thenQ K Q) .ret L ds H:=h
theorem q_then_exit {K}{id:Nat}(h:JQ w0 Q (.exit id) L ds H):JQ w0 (thenQ K Q) (.exit id) L ds H:=h
theorem j_block {id:Nat}{c:Code}(h:J P r N w0 c (blockQ id Q) L ds H):J P r N w0 (.block id c) Q L ds H:=fun b w hO a hs hf hd=>
 wpIn_block (wpIn_mono (h b w hO a hs hf hd) (by
  intro e a' w' hq;cases e with
  |exit id'=>
   unfold LQ blockQ at hq;unfold Exit.inBlock
   by_cases hid:id'=id
   ·simp only[hid,if_true] at hq ⊢;exact hq
   ·simp only[hid,if_false] at hq ⊢;exact hq
  |_=>exact hq))
theorem q_block {id:Nat}(h:JQ w0 Q .normal L ds H):JQ w0 (blockQ id Q) .normal L ds H:=h
theorem q_block_ret {id:Nat}(h:JQ w0 Q .ret L ds H):JQ w0 (blockQ id Q) .ret L ds H:=h
theorem q_block_hit {id:Nat}(h:JQ w0 Q .normal L ds H):JQ w0 (blockQ id Q) (.exit id) L ds H:=fun b w hO=>by unfold blockQ;simp only[if_true];exact h b w hO
theorem q_block_miss {id id':Nat}(hne:Nat.beq id' id=false)(h:JQ w0 Q (.exit id') L ds H):JQ w0 (blockQ id Q) (.exit id') L ds H:=fun b w hO=>by
 unfold blockQ;have:id'≠id:=fun e=>by rw[e,Nat.beq_refl] at hne;cases hne
 simp only[this,if_false];exact h b w hO
theorem j_skip (h:JQ w0 Q .normal L ds H):J P r N w0 .skip Q L ds H:=fun b w hO a hs hf hd=>wpIn_skip ⟨hs,by rw[hf,hd];exact h b w hO⟩
theorem j_ret (h:JQ w0 Q .ret L ds H):J P r N w0 .ret Q L ds H:=fun b w hO a hs hf hd=>wpIn_ret ⟨hs,by rw[hf,hd];exact h b w hO⟩
theorem j_exit {id:Nat}(h:JQ w0 Q (.exit id) L ds H):J P r N w0 (.exit id) Q L ds H:=fun b w hO a hs hf hd=>wpIn_exit ⟨hs,by rw[hf,hd];exact h b w hO⟩
theorem Mh {k:Nat}{t:Bool}{x y:Code}(hc:At L k (.bool t))(ht:t=true->J P r N w0 x Q L ds H)(hf:t=false->J P r N w0 y Q L ds H):J P r N w0 (.cond (.tmp k) x y) Q L ds H:=fun b w hO a hs hfr hd=>by
 refine wpIn_cond_split (t:=t) (by rw[Er,hfr];exact hc b) (fun h=>ht h b w hO a hs hfr hd) (fun h=>hf h b w hO a hs hfr hd)
theorem Cx {k:Nat}{x y:Code}(hc:At L k (.bool true))(ht:J P r N w0 x Q L ds H):J P r N w0 (.cond (.tmp k) x y) Q L ds H:=Mh hc (fun _=>ht) (fun h=>by cases h)
theorem Ea {k:Nat}{x y:Code}(hc:At L k (.bool false))(hf:J P r N w0 y Q L ds H):J P r N w0 (.cond (.tmp k) x y) Q L ds H:=Mh hc (fun h=>by cases h) (fun _=>hf)
theorem j_cond_d {k:Nat}{p:Prop}[Decidable p] {x y:Code}(hc:At L k (.bool (decide p)))(ht:p->J P r N w0 x Q L ds H)(hf: ¬ p->J P r N w0 y Q L ds H):J P r N w0 (.cond (.tmp k) x y) Q L ds H:=
 Mh hc (fun h=>ht (of_decide_eq_true h)) (fun h=>hf (of_decide_eq_false h))
theorem jcd {k:Nat}{p:Prop}[Decidable p] {x y:Code}(hc:fnd? L k=some (.bool (decide p)))(ht:p->J P r N w0 x Q L ds H)(hf: ¬ p->J P r N w0 y Q L ds H):J P r N w0 (.cond (.tmp k) x y) Q L ds H:=j_cond_d (Aa hc) ht hf
theorem jcn {k:Nat}{t:Bool}{x y:Code}(hc:fnd? L k=some (.bool t))(ht:t=true->J P r N w0 x Q L ds H)(hf:t=false->J P r N w0 y Q L ds H):J P r N w0 (.cond (.tmp k) x y) Q L ds H:=Mh (Aa hc) ht hf
theorem j_region {id:Nat}{l:List Oper}(h:JL P r N w0 l.toArray l Q L ds H):J P r N w0 (.region id l.toArray false) Q L ds H:=fun b w hO a hs hf hd=>
 wpIn_region_lit (h b w hO a hs hf hd)
theorem jl_nil {ops:Array Oper}(h:JQ w0 Q .normal L ds H):JL P r N w0 ops [] Q L ds H:=fun b w hO a hs hf hd=>wpListIn_nil ⟨hs,by rw[hf,hd];exact h b w hO⟩
def Agree:Fm->Fm->Prop
 |[],_=>True
 |e::K,L=>At L e.1 e.2/\Agree K L
theorem Dl:∀ {K L:Fm} {b:Nat->Value},Agree K L->lk K (lk L b)=lk L b
 |[],_,_,_=>rfl
 |e::K,L,b,h=>by
  funext k
  rw[lk];cases hb:Nat.beq e.1 k
  ·simp only[Dl h.2]
  ·have:=Nat.eq_of_beq_eq_true hb;subst this;exact(h.1 b).symm
theorem Jf {c:Code}(K:Fm)(hk:Agree K L)(h:J P r N w0 c Q K ds H):J P r N w0 c Q L ds H:=fun b w hO=>by
 rw[<- Dl (b:=b) hk];exact h _ w hO
theorem jq_keep {e:Exit}(K:Fm)(hk:Agree K L)(h:JQ w0 Q e K ds H):JQ w0 Q e L ds H:=fun b w hO=>by
 rw[<- Dl (b:=b) hk];exact h _ w hO
theorem jl_keep {ops:Array Oper}{l:List Oper}(K:Fm)(hk:Agree K L)(h:JL P r N w0 ops l Q K ds H):JL P r N w0 ops l Q L ds H:=fun b w hO=>by
 rw[<- Dl (b:=b) hk];exact h _ w hO
theorem least_ex {I:Nat->Prop}:∀ {n:Nat},I n->∃ m,I m/\∀ m',I m'->m<=m':=by
 intro n
 induction n using Nat.strongRecOn with
 |_ n ih=>
  intro h
  by_cases hx:∃ m,m<n/\I m
  ·obtain⟨m,hm,hi⟩:=hx;exact ih m hm hi
  ·exact⟨n,h,fun m' h'=>Nat.le_of_not_lt fun hlt=>hx ⟨m',hlt,h'⟩⟩
def loopQ (w0:World) {X:Type} (V:X->Fm) (G:X->Mm) (φ:X->Prop) (μ:X->Nat) (m:Nat) (ds:List Deferred) (Q:Post):Post
 | .normal,σ,ds',w=>ds'=ds/\∃ x b,φ x/\μ x<m/\σ=lk (V x) b/\Own w0 (G x) w
 |e,σ,ds',w=>Q e σ ds' w
theorem Bg {X:Type}{V:X->Fm}{G:X->Mm}{φ:X->Prop}{μ:X->Nat}{m:Nat}{ds':List Deferred}(h:JQ w0 Q .ret L ds H):JQ w0 (loopQ w0 V G φ μ m ds' Q) .ret L ds H:=h
theorem An {X:Type}{V:X->Fm}{G:X->Mm}{φ:X->Prop}{μ:X->Nat}{m:Nat}{ds':List Deferred}{id:Nat}(h:JQ w0 Q (.exit id) L ds H):JQ w0 (loopQ w0 V G φ μ m ds' Q) (.exit id) L ds H:=h
theorem q_loop {X:Type}{V:X->Fm}{G:X->Mm}{φ:X->Prop}{μ:X->Nat}{m:Nat}(x:X)(hφ:φ x)(hμ:μ x<m)(hV:Agree (V x) L)(hG:(G x).Sublist H):JQ w0 (loopQ w0 V G φ μ m ds Q) .normal L ds H:=
 fun b w hO=>⟨rfl,x,lk L b,hφ,hμ,(Dl hV).symm,hO.sub hG⟩
theorem j_loop {c:Code}{X:Type}(V:X->Fm)(G:X->Mm)(φ:X->Prop)(μ:X->Nat)(x0:X)(h0:φ x0)(hV:Agree (V x0) L)(hG:(G x0).Sublist H)
  (round:∀ x,φ x->J P r N w0 c (loopQ w0 V G φ μ (μ x) ds Q) (V x) ds (G x)):J P r N w0 (.loop c) Q L ds H:=fun b w hO a hs hf hd=>by
 classical
 let I:Nat->Act->World->Prop:=fun m a w=>a.tmps.size=N/\a.defers=ds/\∃ x b,φ x/\μ x=m/\fr a=lk (V x) b/\Own w0 (G x) w
 have hle:∀ {a w},(∃ m,I m a w)->∃ m,I m a w/\∀ m',I m' a w->m<=m':=fun ⟨_,h⟩=>least_ex (I:=fun m=>I m _ _) h
 let μ':Act->World->Nat:=fun a w=>if h:∃ m,I m a w then (hle h).choose else 0
 refine wpIn_loop (fun a w=>∃ m,I m a w) μ' ⟨μ x0,hs,hd,x0,lk L b,h0,rfl,by rw[hf,Dl hV],hO.sub hG⟩ ?_;intro a w hI;have hm:I (μ' a w) a w:=by
  have:μ' a w=(hle hI).choose:=dif_pos hI;rw[this];exact(hle hI).choose_spec.1
 obtain⟨hs',hd',x,b',hx,hmx,hfx,hOx⟩:=hm;refine wpIn_mono (round x hx b' w hOx a hs' hfx hd') ?_;intro e a' w' hq;cases e with
 |normal=>
  obtain⟨hs2,hd2,x2,b2,h2,hlt,hf2,hO2⟩:=hq;have hI2:∃ m,I m a' w':=⟨μ x2,hs2,hd2,x2,b2,h2,rfl,hf2,hO2⟩;refine⟨hI2,?_⟩;have e2:μ' a' w'=(hle hI2).choose:=dif_pos hI2;have:=(hle hI2).choose_spec.2 (μ x2) ⟨hs2,hd2,x2,b2,h2,rfl,hf2,hO2⟩;rw[e2];omega
 |_=>exact hq
theorem Fg:∀ {A B L:Fm},Agree A L->Agree B L->Agree (A++B) L
 |[],_,_,_,h=>h
 |_::_,_,_,h,k=>⟨h.1,Fg h.2 k⟩
theorem A8 {c:Code}{X:Type}(V:X->Fm)(C:Fm)(G:X->Mm)(φ:X->Prop)(μ:X->Nat)(x0:X)(h0:φ x0)(hC:Agree C L)(hV:Agree (V x0) L)(hG:(G x0).Sublist H)
  (round:∀ x,φ x->J P r N w0 c (loopQ w0 (fun x=>V x++C) G φ μ (μ x) ds Q) (V x++C) ds (G x)):J P r N w0 (.loop c) Q L ds H:=
 j_loop (fun x=>V x++C) G φ μ x0 h0 (Fg hV hC) hG round
theorem Au {X:Type}{V:X->Fm}{C:Fm}{G:X->Mm}{φ:X->Prop}{μ:X->Nat}{m:Nat}(x:X)(hφ:φ x)(hμ:μ x<m)(hV:Agree (V x) L)(hC:Agree C L)(hG:(G x).Sublist H):JQ w0 (loopQ w0 (fun x=>V x++C) G φ μ m ds Q) .normal L ds H:=
 q_loop x hφ hμ (Fg hV hC) hG
theorem Ij {c:Code}{X:Type}(V:X->Fm)(C:Fm)(φ:X->Prop)(μ:X->Nat)(x0:X)(h0:φ x0)(hC:Agree C L)(hV:Agree (V x0) L)
  (round:∀ x,φ x->J P r N w0 c (loopQ w0 (fun x=>V x++C) (fun _=>H) φ μ (μ x) ds Q) (V x++C) ds H):J P r N w0 (.loop c) Q L ds H:=
 A8 V C (fun _=>H) φ μ x0 h0 hC hV (List.Sublist.refl _) round
def cutQ (w0:World) {X:Type} (V:X->Fm) (G:X->Mm) (φ:X->Prop) (ds:List Deferred) (Q:Post):Post
 | .normal,σ,ds',w=>ds'=ds/\∃ x b,φ x/\σ=lk (V x) b/\Own w0 (G x) w
 |e,σ,ds',w=>Q e σ ds' w
theorem q_cut {X:Type}{V:X->Fm}{G:X->Mm}{φ:X->Prop}(x:X)(hφ:φ x)(hV:Agree (V x) L)(hG:(G x).Sublist H):JQ w0 (cutQ w0 V G φ ds Q) .normal L ds H:=
 fun b w hO=>⟨rfl,x,lk L b,hφ,(Dl hV).symm,hO.sub hG⟩
theorem j_cut {x y:Code}{X:Type}(V:X->Fm)(G:X->Mm)(φ:X->Prop)(ds':List Deferred)(h:J P r N w0 x (cutQ w0 V G φ ds' Q) L ds H)(k:∀ z,φ z->J P r N w0 y Q (V z) ds' (G z)):J P r N w0 (.seq x y) Q L ds H:=fun b w hO a hs hf hd=>
 wpIn_seq (wpIn_mono (h b w hO a hs hf hd) (by
  intro e a' w' hq;cases e with
  |normal=>
   obtain⟨hs2,hd2,x2,b2,h2,hf2,hO2⟩:=hq;exact k x2 h2 b2 w' hO2 a' hs2 hf2 hd2
  |_=>exact hq))
theorem Em {x y:Code}{X:Type}(V:X->Fm)(C:Fm)(G:X->Mm)(φ:X->Prop)(hC:Agree C L)(h:J P r N w0 x (cutQ w0 (fun x=>V x++C) G φ ds Q) L ds H)(k:∀ z,φ z->J P r N w0 y Q (V z++C) ds (G z)):J P r N w0 (.seq x y) Q L ds H:=
 j_cut (fun x=>V x++C) G φ ds h k
theorem Fl {x y:Code}{X:Type}(V:X->Fm)(C:Fm)(φ:X->Prop)(hC:Agree C L)(h:J P r N w0 x (cutQ w0 (fun x=>V x++C) (fun _=>H) φ ds Q) L ds H)(k:∀ z,φ z->J P r N w0 y Q (V z++C) ds H):J P r N w0 (.seq x y) Q L ds H:=
 j_cut (fun x=>V x++C) (fun _=>H) φ ds h k
theorem Be {X:Type}{V:X->Fm}{C:Fm}{G:X->Mm}{φ:X->Prop}(x:X)(hφ:φ x)(hV:Agree (V x) L)(hC:Agree C L)(hG:(G x).Sublist H):JQ w0 (cutQ w0 (fun x=>V x++C) G φ ds Q) .normal L ds H:=
 q_cut x hφ (Fg hV hC) hG
end rules
theorem Eo {P:Program}{r:Option Nat}{n:Nat}{f:FuncId}{args:Array Value}{w:World}{R:Ending->World->Prop}(h:Calls P f args w R):CallsIn (rd r) n P f args w R:=by
 cases r with
 |none=>exact callsIn_wide.2 h
 |some l=>exact callsIn_wide.2 h
def exO (ρ:Operand->Value) (op:Op) (ty:TypeId):Sem Next:=execOp ρ ⟨none,op,ty, "",#[],none⟩
theorem exO_eq (ρ:Operand->Value)(d:Option Tmp)(op:Op)(ty:TypeId)(p:String)(af:Array Edge)(g:Option (Nat × Bool)):execOp ρ ⟨d,op,ty,p,af,g⟩=exO ρ op ty:=rfl
def Op.isDefer:Op->Bool
 | .defer _=>true
 |_=>false
theorem semAt_rd (r:Option Nat)(ρ:Operand->Value){d:Option Tmp}{op:Op}{ty:TypeId}{p:String}{af:Array Edge}{g:Option (Nat × Bool)}(h:Op.isDefer op=false):
  Oper.semAt (rd r).round ρ ⟨d,op,ty,p,af,g⟩=exO ρ op ty:=
 Oper.semAt_eq _ _ _ (fun c hc=>by simp only at hc;rw[hc] at h;cases h)
def FSpec (P:Program) (w0:World) (f:FuncId) (args:Array Value) (H:Mm) (K:Value->Mm->Prop):Prop:=
 ∀ w,Own w0 H w->Calls P f args w fun e w'=>∃ v H',e= .returned v/\Own w0 H' w'/\K v H'
theorem FSpec.mono {P:Program}{w0:World}{f:FuncId}{args:Array Value}{H:Mm}{K K':Value->Mm->Prop}(h:FSpec P w0 f args H K)(hk:∀ v H',K v H'->K' v H'):FSpec P w0 f args H K':=
 fun w hO=>(h w hO).mono fun e w' ⟨v,H',he,hO',hK⟩=>⟨v,H',he,hO',hk v H' hK⟩
abbrev Still (v:Value) (H:Mm):Value->Mm->Prop:=fun v' H'=>v'=v/\H'=H
def effO (P:Program) (w0:World) (K:Value->Mm->Prop):Result Next->Prop
 | .ok (.value v) w'=>∃ H',Own w0 H' w'/\K v H'
 | .ok .skip w'=>∃ H',Own w0 H' w'/\K undef H'
 | .ok (.enter f args) w'=>Calls P f args w' fun e w''=>∃ v H',e= .returned v/\Own w0 H' w''/\K v H'
 | .ok (.round l f tmps assign body) w'=>RoundIn Fence.wide 0 P l f tmps assign body w' fun e w''=>∃ v H',e= .returned v/\Own w0 H' w''/\K v H'
 |_=>False
theorem roundIn_rd {P:Program}{r:Option Nat}{n:Nat}{l f:Nat}{tmps:Array Value}{assign body:Code}{w:World}{R:Ending->World->Prop}(h:RoundIn Fence.wide n P l f tmps assign body w R):RoundIn (rd r) n P l f tmps assign body w R:=by
 cases r<;>exact h
def Eff (P:Program) (w0:World) (op:Op) (ty:TypeId) (L:Fm) (H:Mm) (K:Value->Mm->Prop):Prop:=
 Op.isDefer op=false/\∀ b w,Own w0 H w->effO P w0 K ((exO (ev (lk L b)) op ty).run P w)
def Yl (P:Program) (w0:World) (op:Op) (ty:TypeId) (L:Fm) (H:Mm) (v:Value):Prop:=
 Op.isDefer op=false/\∀ H',H.Sublist H'->∀ b w,Own w0 H' w->effO P w0 (Still v H') ((exO (ev (lk L b)) op ty).run P w)
theorem Yl.eff {P:Program}{w0:World}{op:Op}{ty:TypeId}{L:Fm}{H:Mm}{v:Value}(h:Yl P w0 op ty L H v):Eff P w0 op ty L H (Still v H):=
 ⟨h.1,fun b w hO=>h.2 H (List.Sublist.refl _) b w hO⟩
theorem T {L:Fm}{k:Nat}{v:Value}(h:fnd? L k=some v):Ev L (.tmp k) v:=Aa h
def Gd (ops:Array Oper) (L:Fm) (g:Option (Nat × Bool)) (N:Nat) (t:Bool):Prop:=
 match g with
 |none=>t=true
 |some (j,want)=>∃ s v,(ops[j]?).bind (·.dst)=some s/\s<N/\At L s (.bool v)/\t=(v==want)
theorem Ad {ops:Array Oper}{L:Fm}{N:Nat}:Gd ops L none N true:=rfl
theorem A7 {ops:Array Oper}{L:Fm}{N j s:Nat}{v:Bool}(hs:(ops[j]?).bind (·.dst)=some s)(hN:Nat.blt s N=true)(ha:At L s (.bool v)):Gd ops L (some (j,v)) N true:=⟨s,v,hs,by simpa[Nat.blt_eq] using hN,ha,by simp⟩
theorem Mi {ops:Array Oper}{L:Fm}{g:Option (Nat × Bool)}{N:Nat}{t:Bool}(h:Gd ops L g N t){a:Act}{b:Nat->Value}(hs:a.tmps.size=N)(hf:fr a=lk L b){d:Option Tmp}{op:Op}{ty:TypeId}{p:String}{af:Array Edge}:
  Region.wanted ⟨d,op,ty,p,af,g⟩ (yielded ops a.tmps)=t:=by
 unfold Region.wanted;cases g with
 |none=>exact h.symm
 |some g=>
  obtain⟨j,want⟩:=g;obtain⟨s,v,h1,h2,h3,h4⟩:=h;have h5:a.tmps[s]? =some (.bool v):=by
   have:=(congrFun hf s).trans (h3 b);unfold fr at this;have hlt:s<a.tmps.size:=by rw[hs];exact h2
   simp[Array.getD_eq_getD_getElem?,hlt] at this;simp[hlt,this]
  simp only[yielded,h1,Option.bind_some,h5,h4]
  rfl
def Gu (ops:Array Oper) (L:Fm) (g:Option (Nat × Bool)) (N:Nat):Prop:=∃ j want s,g=some (j,want)/\(ops[j]?).bind (·.dst)=some s/\s<N/\At L s undef
theorem gu_u {ops:Array Oper}{L:Fm}{g:Option (Nat × Bool)}{N:Nat}(h:Gu ops L g N){a:Act}{b:Nat->Value}(hs:a.tmps.size=N)(hf:fr a=lk L b){d:Option Tmp}{op:Op}{ty:TypeId}{p:String}{af:Array Edge}:
  Region.wanted ⟨d,op,ty,p,af,g⟩ (yielded ops a.tmps)=false:=by
 obtain⟨j,want,s,rfl,h1,h2,h3⟩:=h;have h5:a.tmps[s]? =some undef:=by
  have:=(congrFun hf s).trans (h3 b);unfold fr at this;have hlt:s<a.tmps.size:=by rw[hs];exact h2
  simp[Array.getD_eq_getD_getElem?,hlt] at this;simp[hlt,this]
 simp only[Region.wanted,yielded,h1,Option.bind_some,h5]
 rfl
def Nw (ops:Array Oper) (L:Fm) (g:Option (Nat × Bool)) (N:Nat):Prop:=Gd ops L g N false\/Gu ops L g N
theorem nw_wanted {ops:Array Oper}{L:Fm}{g:Option (Nat × Bool)}{N:Nat}(h:Nw ops L g N){a:Act}{b:Nat->Value}(hs:a.tmps.size=N)(hf:fr a=lk L b){d:Option Tmp}{op:Op}{ty:TypeId}{p:String}{af:Array Edge}:
  Region.wanted ⟨d,op,ty,p,af,g⟩ (yielded ops a.tmps)=false:=h.elim (fun h=>Mi h hs hf) (fun h=>gu_u h hs hf)
def pt (d:Option Tmp) (v:Value) (L:Fm):Fm:=match d with|some d=>(d,v)::L|none=>L
def dOk (d:Option Tmp) (N:Nat):Bool:=match d with|some d=>Nat.blt d N|none=>true
theorem H4 {a:Act}{d:Option Tmp}{v:Value}{L:Fm}{b:Nat->Value}{N:Nat}(hd:dOk d N=true)(hs:a.tmps.size=N)(h:fr a=lk L b):fr (a.put d v)=lk (pt d v L) b:=by
 cases d with
 |none=>exact h
 |some d=>exact fr_put (by rw[hs];simpa[dOk,Nat.blt_eq] using hd) h
section
variable {P:Program} {r:Option Nat} {N:Nat} {w0:World} {Q:Post} {L:Fm} {ds:List Deferred} {H:Mm} {ops:Array Oper} {l:List Oper} {d:Option Tmp} {op:Op} {ty:TypeId} {p:String} {af:Array Edge} {g:Option (Nat × Bool)} {K:Value->Mm->Prop} {v:Value}
theorem eff_wpIn {Q':Exit->Act->World->Prop}{next:Act->World->Prop}{a:Act}{b:Nat->Value}{w:World}(hf:fr a=lk L b)(he:Eff P w0 op ty L H K)(hO:Own w0 H w)
  (k:∀ v H' w',K v H'->Own w0 H' w'->next (a.put d v) w'):Oper.wpIn (rd r) 0 P ⟨d,op,ty,p,af,g⟩ a w next Q':=by
 refine⟨fun f _=>K5 r f,?_⟩;rw[semAt_rd r _ he.1,Js,hf];have h:=he.2 b w hO
 generalize (exO (ev (lk L b)) op ty).run P w=res at h;cases res with
 |ok n w'=>
  cases n<;>simp only[effO] at h<;>simp only[Oper.uponIn]
  case value v=>obtain⟨H',h1,h2⟩:=h;exact k v H' w' h2 h1
  case skip=>obtain⟨H',h1,h2⟩:=h;exact k undef H' w' h2 h1
  case enter f args=>
   refine⟨Jt r,Eo (h.mono fun e w'' ⟨v,H',he',h1,h2⟩=> ?_)⟩;subst he';exact k v H' w'' h2 h1
  case round l f tmps assign body=>
   refine⟨Jt r,roundIn_rd (h.mono fun e w'' ⟨v,H',he',h1,h2⟩=> ?_)⟩;subst he';exact k v H' w'' h2 h1
 |halt x w'=>simp only[effO] at h
theorem Bo (he:Eff P w0 op ty L H K)(hN:dOk d N=true)(hg:Gd ops L g N true)(k:∀ v H',K v H'->JL P r N w0 ops l Q (pt d v L) ds H'):JL P r N w0 ops (⟨d,op,ty,p,af,g⟩::l) Q L ds H:=fun b w hO a hs hf hd=>by
 unfold wpListIn;rw[if_pos (Mi hg hs hf)];refine eff_wpIn hf he hO fun v H' w' hk hO'=> ?_
 exact k v H' hk b w' hO' _ (by rw[Df];exact hs) (H4 hN hs hf) (by rw[Cu];exact hd)
theorem A6 (hy:Yl P w0 op ty L H v)(hN:dOk d N=true)(hg:Gd ops L g N true)(k:JL P r N w0 ops l Q (pt d v L) ds H):JL P r N w0 ops (⟨d,op,ty,p,af,g⟩::l) Q L ds H:=
 Bo hy.eff hN hg (by rintro _ _ ⟨rfl,rfl⟩;exact k)
theorem y_ (hy:Yl P w0 op ty L H v)(k:JL P r N w0 ops l Q (pt d v L) ds H)(hN:dOk d N=true):JL P r N w0 ops (⟨d,op,ty,p,af,none⟩::l) Q L ds H:=A6 hy hN Ad k
theorem e_ (he:Eff P w0 op ty L H K)(k:∀ v H',K v H'->JL P r N w0 ops l Q (pt d v L) ds H')(hN:dOk d N=true):JL P r N w0 ops (⟨d,op,ty,p,af,none⟩::l) Q L ds H:=Bo he hN Ad k
theorem jl_n (hN:dOk d N=true)(hg:Nw ops L g N)(k:JL P r N w0 ops l Q (pt d undef L) ds H):JL P r N w0 ops (⟨d,op,ty,p,af,g⟩::l) Q L ds H:=fun b w hO a hs hf hd=>by
 unfold wpListIn;rw[if_neg (by rw[nw_wanted hg hs hf];simp)];exact⟨fun f _=>K5 r f,k b w hO _ (by rw[Df];exact hs) (H4 hN hs hf) (by rw[Cu];exact hd)⟩
theorem C0 {s:Nat}{t:Bool}(ha:At L s (.bool t))(ht:t=true->JL P r N w0 ops l Q ((s, .bool true)::L) ds H)(hf:t=false->JL P r N w0 ops l Q ((s, .bool false)::L) ds H):JL P r N w0 ops l Q L ds H:=fun b w hO=>by
 have e:∀ u,t=u->lk ((s, .bool u)::L) b=lk L b:=fun u hu=>by
  subst hu;exact Dl (K:=[(s, .bool t)]) (L:=L) (b:=b) ⟨ha,trivial⟩
 cases t
 ·have:=hf U b w hO;rw[e _ rfl] at this;exact this
 ·have:=ht U b w hO;rw[e _ rfl] at this;exact this
theorem Aq {s:Nat}{p:Prop}[Decidable p] (ha:At L s (.bool (decide p)))(ht:p->JL P r N w0 ops l Q ((s, .bool true)::L) ds H)(hf: ¬ p->JL P r N w0 ops l Q ((s, .bool false)::L) ds H):JL P r N w0 ops l Q L ds H:=
 C0 ha (fun h=>ht (of_decide_eq_true h)) (fun h=>hf (of_decide_eq_false h))
end
def Cell (w0:World) (H:Mm) (p:Addr) (v:Value):Prop:=∀ w,Own w0 H w->w.cell? p=some v
theorem Cell.mono {w0:World}{H H':Mm}{p:Addr}{v:Value}(h:Cell w0 H p v)(hs:H.Sublist H'):Cell w0 H' p v:=fun w hO=>h w (hO.sub hs)
theorem Eb {w0:World}{H:Mm}{n i:Nat}{l:List Value}{t:TypeId}{v:Value}(hf:Fnd H n (Cl l t))(hi:l[i]? =some v):Cell w0 H ⟨n,i,none⟩ v:=fun w hO=>hO.cell hf hi
def Cells (w0:World) (H:Mm) (b off:Nat) (vs:List Value):Prop:=∀ i v,vs[i]? =some v->Cell w0 H ⟨b,off+i,none⟩ v
theorem Cells.mono {w0:World}{H H':Mm}{b off:Nat}{vs:List Value}(h:Cells w0 H b off vs)(hs:H.Sublist H'):Cells w0 H' b off vs:=fun i v hi=>(h i v hi).mono hs
theorem Ae {w0:World}{H:Mm}{n:Nat}{l:List Value}{t:TypeId}(hf:Fnd H n (Cl l t)):Cells w0 H n 0 l:=fun i v hi=>by rw[Nat.zero_add];exact Eb hf hi
theorem c_o {w0:World}{H:Mm}{n i:Nat}{l:List Value}{t:TypeId}{v:Value}(hf:Fnd H n (Cl l t):=by(repeat (first|exact fnd_h|refine Cr ?_|refine Me ?_));done)(hi:nth? l i=some v:=by rfl):Cell w0 H ⟨n,i,none⟩ v:=Eb hf (Lo hi)
theorem A0 {w0:World}{H:Mm}{n:Nat}{l:List Value}{t:TypeId}(hf:Fnd H n (Cl l t):=by(repeat (first|exact fnd_h|refine Cr ?_|refine Me ?_));done):Cells w0 H n 0 l:=Ae hf
def oneB:Value->Bool
 | .agg _=>false
 | .tuple _=>false
 |_=>true
inductive Cs:Value->List Value->Prop
 |agg {l}:Cs (.agg l.toArray) l
 |one {v}:oneB v=true->Cs v [v]
theorem cs_ {v:Value}{l:List Value}(h:Cs v l:=by first|exact .agg|exact .one U):Cs v l:=h
theorem Cs.cells {v:Value}{l:List Value}(h:Cs v l):v.cells=l.toArray:=by
 cases h with
 |agg=>rfl
 |one h=>cases v<;>first|rfl|cases h
section
variable {P:Program} {w0:World} {L:Fm} {H:Mm} {ty:TypeId}
theorem Lp {op:Op}{v:Value}(hd:Op.isDefer op=false)(h:∀ H',H.Sublist H'->∀ b w,Own w0 H' w->(exO (ev (lk L b)) op ty).run P w= .ok (.value v) w):Yl P w0 op ty L H v:=
 ⟨hd,fun H' hs b w hO=>by rw[h H' hs b w hO];exact⟨H',hO,rfl,rfl⟩⟩
theorem Bk {op:Op}{v:Value}(hd:Op.isDefer op=false)(h:∀ b w,(exO (ev (lk L b)) op ty).run P w= .ok (.value v) w):Yl P w0 op ty L H v:=Lp hd fun _ _ b w _=>h b w
theorem B6 {x:Operand}{v:Value}(h:Ev L x v):Yl P w0 (.move x) ty L H v:=Bk rfl fun b w=>by simp[exO,execOp,h b]
theorem Bl {x:Operand}{v:Value}(h:Ev L x v):Yl P w0 (.assign x) ty L H v:=Bk rfl fun b w=>by simp[exO,execOp,h b]
theorem yl_pick_t {c x y:Operand}{v:Value}(hc:Ev L c (.bool true))(h:Ev L x v):Yl P w0 (.pick c x y) ty L H v:=Bk rfl fun b w=>by simp[exO,execOp,h b,hc b,asBool,Sem.run_bind,Result.andThen]
theorem yl_pick_f {c x y:Operand}{v:Value}(hc:Ev L c (.bool false))(h:Ev L y v):Yl P w0 (.pick c x y) ty L H v:=Bk rfl fun b w=>by simp[exO,execOp,h b,hc b,asBool,Sem.run_bind,Result.andThen]
theorem Bq {x:Operand}{t:Bool}(h:Ev L x (.bool t)){xt:TypeId}:Yl P w0 (.unOp .not xt x) ty L H (.bool !t):=Bk rfl fun b w=>by simp[exO,execOp,h b,Op.unary,Sem.run_bind,Result.andThen]
theorem Bt {x:Operand}{p:Prop}[Decidable p] (h:Ev L x (.bool (decide p))){xt:TypeId}:Yl P w0 (.unOp .not xt x) ty L H (.bool (decide ¬ p)):=Bk rfl fun b w=>by simp[exO,execOp,h b,Op.unary,Sem.run_bind,Result.andThen]
section ints
variable {x y:Operand} {a c:Int} {xt yt:TypeId} {k:IntKind}
theorem Aw (hx:Ev L x (.int .i64 a))(hy:Ev L y (.int .i64 c))(h: -9223372036854775808<=a+c/\a+c<=9223372036854775807):Yl P w0 (.binOp .add xt x y yt) ty L H (.int .i64 (a+c)):=Bk U fun b w=>by
 simp[exO,execOp,hx b,hy b,binOp,eqGuard,Op.intArith,IntWalk.i64_in _ h,Sem.run_bind,Result.andThen]
theorem E2 (hx:Ev L x (.int .i64 a))(hy:Ev L y (.int .i64 c))(h: -9223372036854775808<=a - c/\a - c<=9223372036854775807):Yl P w0 (.binOp .sub xt x y yt) ty L H (.int .i64 (a - c)):=Bk U fun b w=>by
 simp[exO,execOp,hx b,hy b,binOp,eqGuard,Op.intArith,IntWalk.i64_in _ h,Sem.run_bind,Result.andThen]
theorem Fn (hx:Ev L x (.int .i64 a))(hy:Ev L y (.int .i64 c))(h: -9223372036854775808<=a*c/\a*c<=9223372036854775807):Yl P w0 (.binOp .mul xt x y yt) ty L H (.int .i64 (a*c)):=Bk U fun b w=>by
 simp[exO,execOp,hx b,hy b,binOp,eqGuard,Op.intArith,IntWalk.i64_in _ h,Sem.run_bind,Result.andThen]
theorem yl_lss (hx:Ev L x (.int k a))(hy:Ev L y (.int k c)):Yl P w0 (.binOp .lss xt x y yt) ty L H (.bool (decide (a<c))):=Bk U fun b w=>by
 simp[exO,execOp,hx b,hy b,binOp,eqGuard,Op.intCmp,Sem.run_bind,Result.andThen]
theorem yl_leq (hx:Ev L x (.int k a))(hy:Ev L y (.int k c)):Yl P w0 (.binOp .leq xt x y yt) ty L H (.bool (decide (a<=c))):=Bk U fun b w=>by
 simp[exO,execOp,hx b,hy b,binOp,eqGuard,Op.intCmp,Sem.run_bind,Result.andThen]
theorem yl_gtr (hx:Ev L x (.int k a))(hy:Ev L y (.int k c)):Yl P w0 (.binOp .gtr xt x y yt) ty L H (.bool (decide (c<a))):=Bk U fun b w=>by
 simp[exO,execOp,hx b,hy b,binOp,eqGuard,Op.intCmp,Sem.run_bind,Result.andThen]
theorem yl_geq (hx:Ev L x (.int k a))(hy:Ev L y (.int k c)):Yl P w0 (.binOp .geq xt x y yt) ty L H (.bool (decide (c<=a))):=Bk U fun b w=>by
 simp[exO,execOp,hx b,hy b,binOp,eqGuard,Op.intCmp,Sem.run_bind,Result.andThen]
theorem yl_eql (hx:Ev L x (.int k a))(hy:Ev L y (.int k c)):Yl P w0 (.binOp .eql xt x y yt) ty L H (.bool (decide (a=c))):=Bk U fun b w=>by
 have e:(a==c)=decide (a=c):=rfl;simp[exO,execOp,hx b,hy b,binOp,eqGuard,Op.intCmp,Sem.run_bind,Result.andThen,e]
theorem yl_neq (hx:Ev L x (.int k a))(hy:Ev L y (.int k c)):Yl P w0 (.binOp .neq xt x y yt) ty L H (.bool (decide (¬ a=c))):=Bk U fun b w=>by
 have e:(a !=c)=decide (¬ a=c):=by by_cases h:a=c<;>simp[h]
 simp[exO,execOp,hx b,hy b,binOp,eqGuard,Op.intCmp,Sem.run_bind,Result.andThen,e]
theorem yl_quo (hx:Ev L x (.int .i64 a))(hy:Ev L y (.int .i64 c))(h:0<=a/\a<=9223372036854775807/\1<=c):Yl P w0 (.binOp .quo xt x y yt) ty L H (.int .i64 (a / c)):=Bk U fun b w=>by
 have hc:c≠0:=by omega
 simp[exO,execOp,hx b,hy b,binOp,eqGuard,Op.intDiv,hc,IntWalk.i64_quo _ _ h,Sem.run_bind,Result.andThen]
theorem Mj (hx:Ev L x (.int k a))(hy:Ev L y (.int k c))(h:0<=a/\1<=c):Yl P w0 (.binOp .rem xt x y yt) ty L H (.int k (a % c)):=Bk U fun b w=>by
 have hc:c≠0:=by omega
 have e:a.tmod c=a % c:=Int.tmod_eq_emod_of_nonneg h.1;simp[exO,execOp,hx b,hy b,binOp,eqGuard,Op.intDiv,hc,e,Sem.run_bind,Result.andThen]
end ints
section more
variable {x y:Operand} {xt t:TypeId}
theorem yl_len {e:TypeId}{q:Option Addr}{n c:Nat}(hx:Ev L x (.slice q n c))(ht:∀ w,(underlying t).run P w= .ok (.slice e) w):Yl P w0 (.call {callee:= .builtin .len,args:= #[x],argTypes:= #[t]}) ty L H (.int .i64 n):=Bk U fun b w=>by
 simp[exO,execOp,resolve,invoke,builtin,Builtin.len_,hx b,ht,goInt,Sem.run_bind,Result.andThen]
theorem Fo {s:ByteArray}(hx:Ev L x (.string s))(ht:∀ w,(underlying t).run P w= .ok .string w):Yl P w0 (.call {callee:= .builtin .len,args:= #[x],argTypes:= #[t]}) ty L H (.int .i64 s.size):=Bk U fun b w=>by
 simp[exO,execOp,resolve,invoke,builtin,Builtin.len_,hx b,ht,goInt,Sem.run_bind,Result.andThen]
theorem yl_max {a c:Int}(hx:Ev L x (.int .i64 a))(hy:Ev L y (.int .i64 c)){ts:Array TypeId}:Yl P w0 (.call {callee:= .builtin .max,args:= #[x,y],argTypes:=ts}) ty L H (.int .i64 (max a c)):=Bk U fun b w=>by
 have e:(if c>a then c else a)=max a c:=by rw[Int.max_def];split<;>split<;>omega
 simp[exO,execOp,resolve,invoke,builtin,Builtin.max_,Builtin.max2,hx b,hy b,e,Sem.run_bind,Result.andThen]
theorem yl_min {a c:Int}(hx:Ev L x (.int .i64 a))(hy:Ev L y (.int .i64 c)){ts:Array TypeId}:Yl P w0 (.call {callee:= .builtin .min,args:= #[x,y],argTypes:=ts}) ty L H (.int .i64 (min a c)):=Bk U fun b w=>by
 have e:(if c<a then c else a)=min a c:=by rw[Int.min_def];split<;>split<;>omega
 simp[exO,execOp,resolve,invoke,builtin,Builtin.min_,Builtin.min2,hx b,hy b,e,Sem.run_bind,Result.andThen]
theorem Az {l:List Value}{i:Nat}{v:Value}(hx:Ev L x (.tuple l.toArray))(hi:nth? l i=some v):Yl P w0 (.extract x i) ty L H v:=Bk U fun b w=>by
 simp[exO,execOp,Instr.extract,hx b,Lo hi,Sem.run_bind,Result.andThen]
theorem F2 {s:ByteArray}{k:Nat}(hx:Ev L x (.string s))(hy:Ev L y (.int .i64 (k:Int)))(ht:∀ w,(underlying t).run P w= .ok .string w)(h:k<s.size):Yl P w0 (.index t x y) ty L H (.int .u8 (s[k].toNat:Int)):=Bk U fun b w=>by
 have h0:(0:Int)<=k:=by omega
 simp[exO,execOp,hx b,hy b,Instr.index,asIntOf,ht,h0,h,Sem.run_bind,Result.andThen]
theorem yl_eqS {s u:ByteArray}(hx:Ev L x (.string s))(hy:Ev L y (.string u)){yt:TypeId}:Yl P w0 (.binOp .eql t x y yt) ty L H (.bool (s.toList==u.toList)):=Bk U fun b w=>by
 simp[exO,execOp,hx b,hy b,binOp,eqGuard,Op.stringOp,Sem.run_bind,Result.andThen]
theorem G8 {xs ys:Array Value}{q:Prop}[Decidable q] (hx:Ev L x (.agg xs))(hy:Ev L y (.agg ys))(hg:P.eqGuardType P.depth t=false)(he:∀ w,(Op.equal t (.agg xs) (.agg ys)).run P w= .ok (decide q) w){yt:TypeId}:Yl P w0 (.binOp .eql t x y yt) ty L H (.bool (decide q)):=Bk U fun b w=>by
 have hr:∀ w,Sem.run P program w= .ok P w:=fun w=>rfl
 simp[exO,execOp,hx b,hy b,binOp,eqGuard,hg,he,hr,Sem.run_bind,Result.andThen]
theorem yl_neqA {xs ys:Array Value}{q:Prop}[Decidable q] (hx:Ev L x (.agg xs))(hy:Ev L y (.agg ys))(hg:P.eqGuardType P.depth t=false)(he:∀ w,(Op.equal t (.agg xs) (.agg ys)).run P w= .ok (decide q) w){yt:TypeId}:Yl P w0 (.binOp .neq t x y yt) ty L H (.bool (decide ¬ q)):=Bk U fun b w=>by
 have hr:∀ w,Sem.run P program w= .ok P w:=fun w=>rfl
 simp[exO,execOp,hx b,hy b,binOp,eqGuard,hg,he,hr,Sem.run_bind,Result.andThen]
theorem yl_fa {f b o o':Nat}(hx:Ev L x (.pointer (some ⟨b,o,none⟩)))(hf:∀ b o w,(Instr.fieldAt t (.pointer (some ⟨b,o,none⟩)) f).run P w= .ok (.pointer (some ⟨b,o+o',none⟩)) w):Yl P w0 (.fieldAddr t x f) ty L H (.pointer (some ⟨b,o+o',none⟩)):=Bk U fun b w=>by
 simp[exO,execOp,hx b,hf,Sem.run_bind,Result.andThen]
theorem yl_fa0 {f b o:Nat}(hx:Ev L x (.pointer (some ⟨b,o,none⟩)))(hf:∀ b o w,(Instr.fieldAt t (.pointer (some ⟨b,o,none⟩)) f).run P w= .ok (.pointer (some ⟨b,o,none⟩)) w):Yl P w0 (.fieldAddr t x f) ty L H (.pointer (some ⟨b,o,none⟩)):=Bk U fun b w=>by
 simp[exO,execOp,hx b,hf,Sem.run_bind,Result.andThen]
theorem Lq (b o n:Nat):(⟨b,o,none⟩:Addr).add n=⟨b,o+n,none⟩:=by unfold Addr.add;split<;>simp_all
theorem yl_ixN {e:TypeId}{b o n c sz k:Nat}(hx:Ev L x (.slice (some ⟨b,o,none⟩) n c))(hy:Ev L y (.int .i64 (k:Int)))(ht:∀ w,(underlying t).run P w= .ok (.slice e) w)(hz:∀ w,(sizeOf e).run P w= .ok sz w)(h:k<n):Yl P w0 (.indexAddr t x y) ty L H (.pointer (some ⟨b,o+k*sz,none⟩)):=Bk U fun b w=>by
 have h0:(0:Int)<=k/\(k:Int)<n:=by omega
 simp[exO,execOp,hx b,hy b,Instr.indexAt,asIntOf,ht,hz,h,Lq,Sem.run_bind,Result.andThen]
theorem yl_ixI {e:TypeId}{b o n c sz:Nat}{i:Int}(hx:Ev L x (.slice (some ⟨b,o,none⟩) n c))(hy:Ev L y (.int .i64 i))(ht:∀ w,(underlying t).run P w= .ok (.slice e) w)(hz:∀ w,(sizeOf e).run P w= .ok sz w)(h:0<=i/\i<n):Yl P w0 (.indexAddr t x y) ty L H (.pointer (some ⟨b,o+i.toNat*sz,none⟩)):=Bk U fun b w=>by
 simp[exO,execOp,hx b,hy b,Instr.indexAt,asIntOf,ht,hz,h,Lq,Sem.run_bind,Result.andThen]
def bq:Option Addr->Nat
 |some a=>a.block
 |none=>0
def oq:Option Addr->Nat
 |some a=>a.off
 |none=>0
def Bas (q:Option Addr):Prop:=q=some ⟨bq q,oq q,none⟩
theorem Ba {e:TypeId}{q:Option Addr}{n c sz k:Nat}(hx:Ev L x (.slice q n c))(hy:Ev L y (.int .i64 (k:Int)))(ht:∀ w,(underlying t).run P w= .ok (.slice e) w)(hz:∀ w,(sizeOf e).run P w= .ok sz w)(h:k<n)(hq:Bas q):Yl P w0 (.indexAddr t x y) ty L H (.pointer (some ⟨bq q,oq q+k*sz,none⟩)):=
 yl_ixN (by rw[<- hq];exact hx) hy ht hz h
theorem Cd {e:TypeId}{q:Option Addr}{n c sz:Nat}{i:Int}(hx:Ev L x (.slice q n c))(hy:Ev L y (.int .i64 i))(ht:∀ w,(underlying t).run P w= .ok (.slice e) w)(hz:∀ w,(sizeOf e).run P w= .ok sz w)(h:0<=i/\i<n)(hq:Bas q):Yl P w0 (.indexAddr t x y) ty L H (.pointer (some ⟨bq q,oq q+i.toNat*sz,none⟩)):=
 yl_ixI (by rw[<- hq];exact hx) hy ht hz h
theorem Ab {p:Addr}{v:Value}(hx:Ev L x (.pointer (some p)))(ht:∀ w,(isAgg t).run P w= .ok false w)(hc:Cell w0 H p v):Yl P w0 (.load t x) ty L H v:=Lp U fun H' hs b w hO=>by
 have:=hc.mono hs w hO;simp[exO,execOp,hx b,Instr.loadAt,Instr.sureAddr,loadVar,ht,load,Sem.run,this,Sem.run_bind,Result.andThen]
theorem Es {b o:Nat}{w:World}:∀ (vs:List Value) (i:Nat) (acc:Array Value),(∀ j v,vs[j]? =some v->w.cell? ⟨b,o+(i+j),none⟩=some v)->(loadCellsFrom ⟨b,o,none⟩ i vs.length acc).run P w= .ok (acc++vs.toArray) w
 |[],i,acc,_=>by simp[loadCellsFrom]
 |v::vs,i,acc,h=>by
  have h0:=h 0 v U;rw[Nat.add_zero] at h0;have ih:=Es vs (i+1) (acc.push v) (fun j u hj=>by rw[show i+1+j=i+(j+1) by omega];exact h (j+1) u (by simpa using hj));simp[loadCellsFrom,load,Sem.run_bind,Sem.run,Result.andThen,Lq,h0,ih]
theorem Ac {b o n:Nat}{vs:List Value}(hx:Ev L x (.pointer (some ⟨b,o,none⟩)))(ht:∀ w,(isAgg t).run P w= .ok true w)(hz:∀ w,(sizeOf t).run P w= .ok n w)(hn:vs.length=n)(hc:Cells w0 H b o vs):Yl P w0 (.load t x) ty L H (.agg vs.toArray):=Lp U fun H' hs b' w hO=>by
 have:=Es (P:=P) (b:=b) (o:=o) (w:=w) vs 0 #[] (fun j v hj=>by rw[Nat.zero_add];exact(hc j v hj).mono hs w hO);rw[hn] at this;simp[exO,execOp,hx b',Instr.loadAt,Instr.sureAddr,loadVar,ht,hz,loadCells,this,Sem.run_bind,Result.andThen]
end more
end
def setL:List Value->Nat->List Value->List Value
 |l,_,[]=>l
 |l,o,v::r=>setL (l.set o v) (o+1) r
theorem setL_all:∀ (vs pre l:List Value),l.length=vs.length->setL (pre++l) pre.length vs=pre++vs
 |[],pre,l,h=>by have:l=[]:=List.eq_nil_of_length_eq_zero h;simp[setL,this]
 |v::vs,pre,[],h=>by simp at h
 |v::vs,pre,x::l,h=>by
  rw[setL];have e:(pre++x::l).set pre.length v=(pre++[v])++l:=by simp
  rw[e];have:=setL_all vs (pre++[v]) l (by simpa using h);simp only[List.length_append,List.length_cons,List.length_nil,Nat.zero_add] at this;rw[this];simp
theorem setL_whole {l vs:List Value}(h:l.length=vs.length):setL l 0 vs=vs:=by simpa using setL_all vs [] l h
theorem putObj_self {w:World}{n:Nat}{o:Obj}(h:w.heap[n]? =some o):w.putObj n o=w:=by
 obtain⟨hlt,he⟩:=Array.getElem?_eq_some_iff.1 h;unfold World.putObj
 congr 1
 apply Array.ext
 ·simp
 ·intro k h1 h2
  by_cases hk:n=k
  ·subst hk;simp[he]
  ·rw[Array.getElem_setIfInBounds_ne (h:=hk)]
theorem putObj_put (w:World)(n:Nat)(o o':Obj):(w.putObj n o).putObj n o'=w.putObj n o':=by
 unfold World.putObj;simp
theorem run_storeCells {P:Program}{n o:Nat}{t:TypeId}:∀ (vs:List Value) (i:Nat) (l:List Value) (w:World),w.heap[n]? =some (Cl l t)->(∀ v∈vs,oneB v=true)->o+i+vs.length<=l.length->
  (storeCells ⟨n,o,none⟩ vs i).run P w= .ok () (w.putObj n (Cl (setL l (o+i) vs) t))
 |[],i,l,w,h,_,_=>by rw[setL,putObj_self h];simp[storeCells]
 |v::vs,i,l,w,h,h1,hl=>by
  have hv:=h1 v (by simp);simp only[List.length_cons] at hl;have hc:w.cell? ⟨n,o+i,none⟩=some (l[o+i]'qom):=by
   simp[World.cell?,h]
  have hf:w.frozen? ⟨n,o+i,none⟩=false:=by simp[World.frozen?,h]
  have hlt:n<w.heap.size:=(Array.getElem?_eq_some_iff.1 h).1;have e:w.setCell ⟨n,o+i,none⟩ v=w.putObj n (Cl (l.set (o+i) v) t):=by rw[setCell_put v h];simp
  have ih:=run_storeCells (P:=P) (o:=o) (n:=n) (t:=t) vs (i+1) (l.set (o+i) v) (w.putObj n (Cl (l.set (o+i) v) t)) (World.putObj_heap_same hlt) (fun u hu=>h1 u (by simp[hu])) (by rw[List.length_set];omega);rw[putObj_put,<- Nat.add_assoc] at ih;have hs:(store ((⟨n,o,none⟩:Addr).add i) v).run P w= .ok () (w.putObj n (Cl (l.set (o+i) v) t)):=by
   rw[Lq];unfold store;cases v<;>first|(simp[oneB] at hv;done)|(simp only[Sem.run,hc,hf,e];simp)
  rw[storeCells,Sem.run_bind,hs];simp only[Result.andThen];rw[ih,setL]
section
variable {P:Program} {w0:World} {L:Fm} {H:Mm} {ty:TypeId} {x y:Operand} {t:TypeId}
abbrev New (o:Obj) (H:Mm):Value->Mm->Prop:=fun v H'=>∃ n,v= .pointer (some ⟨n,0,none⟩)/\H'=(n,o)::H
theorem run_new (w:World)(t:TypeId)(l:List Value):(newRow t l.toArray).run P w= .ok ⟨w.heap.size,0,none⟩ (w.alloc (Cl l t)):=by
 simp[newRow,newObj,Sem.run,Sem.run_bind,Result.andThen]
theorem Ak {v:Value}{l:List Value}(hx:Ev L x v)(hc:Cs v l):Eff P w0 (.box t x) ty L H (New (Cl l t) H):=
 ⟨rfl,fun b w hO=>by
  have:(exO (ev (lk L b)) (.box t x) ty).run P w= .ok (.value (.pointer (some ⟨w.heap.size,0,none⟩))) (w.alloc (Cl l t)):=by
   simp[exO,execOp,hx b,Instr.box,newVar,hc.cells,run_new,Sem.run_bind,Result.andThen]
  rw[this];exact⟨_,hO.alloc _,_,rfl,rfl⟩⟩
theorem Ag {v:Value}{l:List Value}(hz:∀ w,(zeroValue t).run P w= .ok v w)(hc:Cs v l):Eff P w0 (.alloc t) ty L H (New (Cl l t) H):=
 ⟨rfl,fun b w hO=>by
  have:(exO (ev (lk L b)) (.alloc t) ty).run P w= .ok (.value (.pointer (some ⟨w.heap.size,0,none⟩))) (w.alloc (Cl l t)):=by
   simp[exO,execOp,Instr.alloc,hz,newVar,hc.cells,run_new,Sem.run_bind,Result.andThen]
  rw[this];exact⟨_,hO.alloc _,_,rfl,rfl⟩⟩
theorem Ik {n o:Nat}{v:Value}{vs l:List Value}{t':TypeId}{H':Mm}(hx:Ev L x (.pointer (some ⟨n,o,none⟩)))(hy:Ev L y v)(hc:Cs v vs)(hv:vs.all oneB=true)(hz:∀ w,(sizeOf t).run P w= .ok vs.length w)
  (hu:Upd H n (Cl l t') (Cl (setL l o vs) t') H') (hl:o+vs.length<=l.length):Eff P w0 (.store t x y) ty L H (Still undef H'):=
 ⟨rfl,fun b w hO=>by
  have h1:=run_storeCells (P:=P) (o:=o) vs 0 l w (hO.has _ hu.mem) (fun u hu'=>List.all_eq_true.1 hv u hu') (by simpa using hl);have:(exO (ev (lk L b)) (.store t x y) ty).run P w= .ok .skip (w.putObj n (Cl (setL l o vs) t')):=by
   simp[exO,execOp,hx b,hy b,Instr.storeAt,Instr.sureAddr,storeVar,hc.cells,hz,h1,Sem.run_bind,Result.andThen]
  rw[this];exact⟨_,hO.put hu,rfl,rfl⟩⟩
theorem Aj {n m:Nat}{v:Value}{vs l:List Value}{t':TypeId}{H':Mm}(hx:Ev L x (.pointer (some ⟨n,0,none⟩)))(hy:Ev L y v)(hz:∀ w,(sizeOf t).run P w= .ok m w)(hc:Cs v vs:=by first|exact .agg|exact .one U)(hv:vs.all oneB=true:=by rfl)(hm:vs.length=m:=by rfl)
  (hu:Upd H n (Cl l t') (Cl vs t') H':=by(repeat (first|exact Upd.h|apply Upd.t|apply Gn));done) (hl:l.length=vs.length:=by rfl):Eff P w0 (.store t x y) ty L H (Still undef H'):=
 Ik hx hy hc hv (by rw[hm];exact hz) (by rw[setL_whole hl];exact hu) qom
inductive SetN:List Value->Nat->Value->List Value->Prop
 |h {x l v}:SetN (x::l) 0 v (v::l)
 |t {x l i v l'}:SetN l i v l'->SetN (x::l) (i+1) v (x::l')
def setN? :List Value->Nat->Value->Option (List Value)
 |[],_,_=>none
 |_::l,0,v=>some (v::l)
 |x::l,i+1,v=>match setN? l i v with
  |some l'=>some (x::l')
  |none=>none
theorem setN_of:∀ {l:List Value} {i:Nat} {v:Value} {l':List Value},setN? l i v=some l'->SetN l i v l'
 |[],_,_,_,h=>by cases h
 |x::l,0,v,l',h=>by simp[setN?] at h;subst h;exact .h
 |x::l,i+1,v,l',h=>by
  rw[setN?] at h;cases hs:setN? l i v with
  |none=>simp[hs] at h
  |some m=>simp[hs] at h;subst h;exact .t (setN_of hs)
theorem SetN.eq {l l':List Value}{i:Nat}{v:Value}(h:SetN l i v l'):l.set i v=l'/\i<l.length:=by
 induction h with
 |h=>simp
 |t _ ih=>simp[ih.1,ih.2]
theorem eff_store1 {n o:Nat}{v:Value}{l l':List Value}{t':TypeId}{H':Mm}(hx:Ev L x (.pointer (some ⟨n,o,none⟩)))(hy:Ev L y v)(hv:oneB v=true)(hz:∀ w,(sizeOf t).run P w= .ok 1 w)
  (hs:SetN l o v l') (hu:Upd H n (Cl l t') (Cl l' t') H'):Eff P w0 (.store t x y) ty L H (Still undef H'):=
 Ik (vs:=[v]) hx hy (.one hv) (by simpa using hv) hz (by simp only[setL];rw[hs.eq.1];exact hu) (by have:=hs.eq.2;simp;omega)
theorem Ml {n o:Nat}{v:Value}{l l':List Value}{t':TypeId}{H':Mm}(hx:Ev L x (.pointer (some ⟨n,o,none⟩)))(hy:Ev L y v)(hv:oneB v=true)(hz:∀ w,(sizeOf t).run P w= .ok 1 w)
  (hs:setN? l o v=some l':=by rfl) (hu:Upd H n (Cl l t') (Cl l' t') H':=by(repeat (first|exact Upd.h|apply Upd.t|apply Gn));done):Eff P w0 (.store t x y) ty L H (Still undef H'):=eff_store1 hx hy hv hz (setN_of hs) hu
inductive Evs (L:Fm):List Operand->List Value->Prop
 |nil:Evs L [] []
 |cons {x v xs vs}:Ev L x v->Evs L xs vs->Evs L (x::xs) (v::vs)
theorem Evs.map {L:Fm}{xs:List Operand}{vs:List Value}(h:Evs L xs vs)(b:Nat->Value):xs.map (ev (lk L b))=vs:=by
 induction h with
 |nil=>rfl
 |cons h _ ih=>simp[h b,ih]
theorem Gp {f:FuncId}{xs:List Operand}{vs:List Value}{ts:Array TypeId}{cap:List Value}{b:Nat->Value}{w:World}(hx:Ev L x (.func (.func f) #[] cap.toArray))(ha:Evs L xs vs)(hf:∀ args w,(callFunc f args).run P w= .ok (.enter f args) w):
  (exO (ev (lk L b)) (.call {callee:= .value x,args:=xs.toArray,argTypes:=ts}) ty).run P w= .ok (.enter f (vs++cap).toArray) w:=by
 have:=ha.map b;simp[exO,execOp,resolve,invoke,Deferred.ofValue,hx b,this,hf,Sem.run_bind,Result.andThen]
theorem Ah {f:FuncId}{xs:List Operand}{vs:List Value}{ts:Array TypeId}{K:Value->Mm->Prop}(ha:Evs L xs vs)(hf:∀ args w,(callFunc f args).run P w= .ok (.enter f args) w)(hs:FSpec P w0 f vs.toArray H K):
  Eff P w0 (.call {callee:= .value (.func f),args:=xs.toArray,argTypes:=ts}) ty L H K:=
 ⟨rfl,fun b w hO=>by rw[Gp (cap:=[]) (Nk) ha hf];simpa[effO] using hs w hO⟩
theorem Ao {f:FuncId}{xs:List Operand}{vs:List Value}{ts:Array TypeId}{v:Value}(ha:Evs L xs vs)(hf:∀ args w,(callFunc f args).run P w= .ok (.enter f args) w)(hs:∀ H',H.Sublist H'->FSpec P w0 f vs.toArray H' (Still v H')):
  Yl P w0 (.call {callee:= .value (.func f),args:=xs.toArray,argTypes:=ts}) ty L H v:=
 ⟨rfl,fun H' h b w hO=>by rw[Gp (cap:=[]) (Nk) ha hf];simpa[effO] using hs H' h w hO⟩
theorem B8 {f:FuncId}{xs:List Operand}{vs:List Value}{cap:List Value}{ts:Array TypeId}{K:Value->Mm->Prop}(hx:Ev L x (.func (.func f) #[] cap.toArray))(ha:Evs L xs vs)(hf:∀ args w,(callFunc f args).run P w= .ok (.enter f args) w)(hs:FSpec P w0 f (vs++cap).toArray H K):
  Eff P w0 (.call {callee:= .value x,args:=xs.toArray,argTypes:=ts}) ty L H K:=
 ⟨rfl,fun b w hO=>by rw[Gp hx ha hf];simpa[effO] using hs w hO⟩
theorem Ju {f:FuncId}{xs:List Operand}{vs:List Value}{cap:List Value}{ts:Array TypeId}{v:Value}(hx:Ev L x (.func (.func f) #[] cap.toArray))(ha:Evs L xs vs)(hf:∀ args w,(callFunc f args).run P w= .ok (.enter f args) w)(hs:∀ H',H.Sublist H'->FSpec P w0 f (vs++cap).toArray H' (Still v H')):
  Yl P w0 (.call {callee:= .value x,args:=xs.toArray,argTypes:=ts}) ty L H v:=
 ⟨rfl,fun H' h b w hO=>by rw[Gp hx ha hf];simpa[effO] using hs H' h w hO⟩
inductive Evp (L:Fm):List (Nat × Operand)->List (Nat × Value)->Prop
 |nil:Evp L [] []
 |cons {i x v xs vs}:Ev L x v->Evp L xs vs->Evp L ((i,x)::xs) ((i,v)::vs)
theorem Evp.map {L:Fm}{xs:List (Nat × Operand)}{vs:List (Nat × Value)}(h:Evp L xs vs)(b:Nat->Value):xs.map (fun (p:Nat × Operand)=>(p.1,ev (lk L b) p.2))=vs:=by
 induction h with
 |nil=>rfl
 |cons h _ ih=>simp[h b,ih]
theorem A1 {ps:List (Nat × Operand)}{vs:List (Nat × Value)}{v:Value}(hp:Evp L ps vs)(hb:∀ w,(Instr.build t vs.toArray).run P w= .ok v w):Yl P w0 (.build t ps.toArray) ty L H v:=Bk U fun b w=>by
 have:=hp.map b;simp[exO,execOp,this,hb,Sem.run_bind,Result.andThen]
theorem Bn {f:FuncId}{cs:List Operand}{vs:List Value}(hc:Evs L cs vs):Yl P w0 (.makeFunc (.func f) #[] cs.toArray) ty L H (.func (.func f) #[] vs.toArray):=Bk U fun b w=>by
 have:=hc.map b;simp[exO,execOp,Instr.makeFunc,this,Sem.run_bind,Result.andThen]
theorem Dn:Eff P w0 (.makeMap t none) ty L H (fun v H'=>∃ n,v= .map (some n)/\H'=(n, .map #[] 0)::H):=
 ⟨rfl,fun b w hO=>by
  have:(exO (ev (lk L b)) (.makeMap t none) ty).run P w= .ok (.value (.map (some w.heap.size))) (w.alloc (.map #[] 0)):=by
   simp[exO,execOp,Instr.makeMap,newObj,Sem.run,Sem.run_bind,Result.andThen]
  rw[this];exact⟨_,hO.alloc _,_,rfl,rfl⟩⟩
end
def ini:Nat->List Value->Fm
 |_,[]=>[]
 |i,v::r=>(i,v)::ini (i+1) r
theorem Jg:∀ (vs:List Value) (i k:Nat) (b:Nat->Value),lk (ini i vs) b k=if i<=k then (match vs[k - i]? with|some v=>v|none=>b k) else b k
 |[],i,k,b=>by simp[ini,lk]
 |v::vs,i,k,b=>by
  rw[ini,lk];cases h:Nat.beq i k
  ·have hne:i≠k:=fun e=>by rw[e,Nat.beq_refl] at h;cases h
   simp only[Jg vs (i+1) k b]
   by_cases hik:i+1<=k
   ·rw[if_pos hik,if_pos qom,show k - i=(k - (i+1))+1 by omega];simp
   ·rw[if_neg hik,if_neg qom]
  ·have:=Nat.eq_of_beq_eq_true h;subst this;simp
def Res (P:Program) (fn:Func) (σ:Nat->Value) (w:World) (v:Value):Prop:=∀ tmps:Array Value,(fun k=>tmps.getD k undef)=σ->(results fn tmps).run P w= .ok v w
def RetW (P:Program) (fn:Func) (w0:World) (K:Value->Mm->Prop) (σ:Nat->Value):List Deferred->World->Prop
 |[],w=>∃ v H,Res P fn σ w v/\Own w0 H w/\K v H
 |d::ds,w=>∃ D w',d.target= .collected D/\(Instr.takeDeferred D).run P w= .ok [] w'/\RetW P fn w0 K σ ds w'
def retQ (P:Program) (fn:Func) (w0:World) (K:Value->Mm->Prop):Post
 | .normal,σ,ds,w=>RetW P fn w0 K σ ds w
 | .ret,σ,ds,w=>RetW P fn w0 K σ ds w
 |_,_,_,_=>False
theorem leaves_of {P:Program}{fn:Func}{w0:World}{K:Value->Mm->Prop}{tmps:Array Value}:∀ {ds:List Deferred} {w:World},RetW P fn w0 K (fun k=>tmps.getD k undef) ds w->
  LeavesInM Fence.wide 0 P fn tmps (fun e w'=>∃ v H',e= .returned v/\Own w0 H' w'/\K v H') ds .returning w
 |[],w,⟨v,H,hr,hO,hK⟩=>by
  unfold LeavesInM LeavesIn;exact⟨v,hr _ U,v,H,rfl,hO,hK⟩
 |d::ds,w,⟨D,w',h1,h2,h3⟩=>by
  unfold LeavesInM;exact⟨by simp, .inl ⟨D,w',h1,h2,leaves_of h3⟩⟩
theorem Am {P:Program}{w0:World}{f:FuncId}{fn:Func}{c:Code}{vs:List Value}{H:Mm}{K:Value->Mm->Prop}{N:Nat}(hf:P.funcs[f]? =some fn)(hb:fn.body=some c)(hN:fn.ntmps=N)(hv:Nat.ble vs.length N=true)
  (h:J P none N w0 c (retQ P fn w0 K) (ini 0 vs) [] H):FSpec P w0 f vs.toArray H K:=fun w hO=>by
 have hv':vs.length<=N:=by simpa using hv
 refine callsIn_wide.1 (callsIn_of_wp_marks (n:=0) (F:=Fence.wide) hf hb trivial ?_ U);have h1:=h (fun _=>undef) w hO {tmps:=vs.toArray++Array.replicate (fn.ntmps - vs.toArray.size) undef,defers:=[]} (by simp[hN];omega) (by
  funext k
  rw[Jg];unfold fr;simp only[Nat.zero_le,if_true,Nat.sub_zero,Array.getD_eq_getD_getElem?]
  by_cases hk:k<vs.length
  ·simp[Array.getElem?_append,hk]
  ·simp only[List.size_toArray,Array.getElem?_append,hk,if_false];rw[List.getElem?_eq_none qom];simp only[Array.getElem?_replicate]
   split<;>rfl) U
 refine wpIn_mono h1 fun e a w' hq=> ?_
 obtain⟨hs,hq⟩:=hq;cases e<;>first|exact leaves_of hq|exact hq.elim
section
variable {P:Program} {w0:World} {L:Fm} {H:Mm} {fn:Func} {K:Value->Mm->Prop}
inductive ResV (P:Program) (w0:World) (L:Fm) (H:Mm):List ResultVar->List Value->Prop
 |nil:ResV P w0 L H [] []
 |tmp {k v rs vs}:At L k v->ResV P w0 L H rs vs->ResV P w0 L H (.tmp k::rs) (v::vs)
 |cell {k p t v rs vs}:At L k (.pointer (some p))->(∀ w,(isAgg t).run P w= .ok false w)->Cell w0 H p v->ResV P w0 L H rs vs->ResV P w0 L H (.cell k t::rs) (v::vs)
 |cellA {k b o t n l rs vs}:At L k (.pointer (some ⟨b,o,none⟩))->(∀ w,(isAgg t).run P w= .ok true w)->(∀ w,(sizeOf t).run P w= .ok n w)->l.length=n->Cells w0 H b o l->ResV P w0 L H rs vs->ResV P w0 L H (.cell k t::rs) (.agg l.toArray::vs)
def resOf:List Value->Value
 |[v]=>v
 |vs=> .tuple vs.toArray
def resF (tmps:Array Value):ResultVar->Sem Value
 | .tmp t=>pure (tmps.getD t undef)
 | .cell a t=>do loadVar t (<- asAddr (tmps.getD a undef))
theorem resV_run {rs:List ResultVar}{vs:List Value}(h:ResV P w0 L H rs vs){b:Nat->Value}{w:World}(hO:Own w0 H w){tmps:Array Value}(ht:(fun k=>tmps.getD k undef)=lk L b):
  Sem.run P (rs.mapM (resF tmps)) w=Result.ok vs w:=by
 induction h with
 |nil=>simp
 | @tmp k v rs vs ha _ ih=>
  have:=(congrFun ht k).trans (ha b);have e:resF tmps (.tmp k)=pure v:=by show (pure (tmps.getD k undef):Sem Value)=_;rw[this]
  simp[List.mapM_cons,Sem.run_bind,Result.andThen,ih,e]
 | @cell k p t v rs vs ha h1 hc _ ih=>
  have:=(congrFun ht k).trans (ha b);have hc':=hc w hO;have e:Sem.run P (resF tmps (.cell k t)) w= .ok v w:=by
   show Sem.run P (do loadVar t (<- asAddr (tmps.getD k undef))) w=_;rw[this];simp[Sem.run_bind,Result.andThen,asAddr,loadVar,h1,load,Sem.run,hc']
  simp[List.mapM_cons,Sem.run_bind,Result.andThen,ih,e]
 | @cellA k b' o t n l rs vs ha h1 h2 h3 hc _ ih=>
  have:=(congrFun ht k).trans (ha b);have h4:=Es (P:=P) (b:=b') (o:=o) (w:=w) l 0 #[] (fun j v hj=>by rw[Nat.zero_add];exact hc j v hj w hO);rw[h3] at h4;have e:Sem.run P (resF tmps (.cell k t)) w= .ok (.agg l.toArray) w:=by
   show Sem.run P (do loadVar t (<- asAddr (tmps.getD k undef))) w=_;rw[this];simp[Sem.run_bind,Result.andThen,asAddr,loadVar,h1,h2,loadCells,h4]
  simp[List.mapM_cons,Sem.run_bind,Result.andThen,ih,e]
theorem results_eq (fn:Func)(tmps:Array Value):results fn tmps=(do let vs <- fn.results.mapM (resF tmps);pure (if h:vs.size=1 then vs[0] else .tuple vs)):=rfl
theorem H5 {rs:List ResultVar}{vs:List Value}(hr:fn.results=rs.toArray)(h:ResV P w0 L H rs vs){b:Nat->Value}{w:World}(hO:Own w0 H w):Res P fn (lk L b) w (resOf vs):=fun tmps ht=>by
 have h1:=resV_run h hO ht;rw[results_eq,hr];simp only[List.mapM_toArray,Sem.run_bind];rw[Sem.run_map,h1];simp only[Result.andThen,Sem.run_pure];cases vs with
 |nil=>rfl
 |cons v vs=>cases vs<;>rfl
theorem Ai {rs:List ResultVar}{vs:List Value}(hr:fn.results=rs.toArray)(h:ResV P w0 L H rs vs)(hK:∃ H',K (resOf vs) H'/\H'.Sublist H):JQ w0 (retQ P fn w0 K) .ret L [] H:=fun b w hO=>⟨_,hK.choose,H5 hr h hO,hO.sub hK.choose_spec.2,hK.choose_spec.1⟩
theorem K6 {rs:List ResultVar}{vs:List Value}(hr:fn.results=rs.toArray)(h:ResV P w0 L H rs vs)(hK:∃ H',K (resOf vs) H'/\H'.Sublist H):JQ w0 (retQ P fn w0 K) .normal L [] H:=fun b w hO=>⟨_,hK.choose,H5 hr h hO,hO.sub hK.choose_spec.2,hK.choose_spec.1⟩
end
theorem evq1 {L:Fm}{k0:Nat}{v0:Value}(h0:fnd? L k0=some v0):Evs L [.tmp k0] [v0]:= .cons (T h0) .nil
theorem evq2 {L:Fm}{k0 k1:Nat}{v0 v1:Value}(h0:fnd? L k0=some v0)(h1:fnd? L k1=some v1):Evs L [.tmp k0, .tmp k1] [v0,v1]:= .cons (T h0) (.cons (T h1) .nil)
theorem evq3 {L:Fm}{k0 k1 k2:Nat}{v0 v1 v2:Value}(h0:fnd? L k0=some v0)(h1:fnd? L k1=some v1)(h2:fnd? L k2=some v2):Evs L [.tmp k0, .tmp k1, .tmp k2] [v0,v1,v2]:= .cons (T h0) (.cons (T h1) (.cons (T h2) .nil))
theorem evq4 {L:Fm}{k0 k1 k2 k3:Nat}{v0 v1 v2 v3:Value}(h0:fnd? L k0=some v0)(h1:fnd? L k1=some v1)(h2:fnd? L k2=some v2)(h3:fnd? L k3=some v3):Evs L [.tmp k0, .tmp k1, .tmp k2, .tmp k3] [v0,v1,v2,v3]:= .cons (T h0) (.cons (T h1) (.cons (T h2) (.cons (T h3) .nil)))
theorem qe1 {L:Fm}{k:Nat}{v:Value}(h:fnd? L k=some v):Evs L [.tmp k] [v]:= .cons (T h) .nil
theorem qe2 {L:Fm}{k k2:Nat}{v v2:Value}(h:fnd? L k=some v)(h2:fnd? L k2=some v2):Evs L [.tmp k, .tmp k2] [v,v2]:= .cons (T h) (qe1 h2)
theorem qe3 {L:Fm}{k k2 k3:Nat}{v v2 v3:Value}(h:fnd? L k=some v)(h2:fnd? L k2=some v2)(h3:fnd? L k3=some v3):Evs L [.tmp k, .tmp k2, .tmp k3] [v,v2,v3]:= .cons (T h) (qe2 h2 h3)
theorem qe4 {L:Fm}{k k2 k3 k4:Nat}{v v2 v3 v4:Value}(h:fnd? L k=some v)(h2:fnd? L k2=some v2)(h3:fnd? L k3=some v3)(h4:fnd? L k4=some v4):Evs L [.tmp k, .tmp k2, .tmp k3, .tmp k4] [v,v2,v3,v4]:= .cons (T h) (qe3 h2 h3 h4)
theorem Ol {P:Program}{w0:World}{L:Fm}{H:List (Nat × Obj)}{k:Nat}{v:Value}(h:fnd? L k=some v):ResV P w0 L H [.tmp k] [v]:= .tmp (Aa h) .nil
theorem Om {P:Program}{w0:World}{L:Fm}{H:List (Nat × Obj)}{ty t:TypeId}{k:Nat}{p:Addr}{v:Value}(h:fnd? L k=some (.pointer (some p)))(ht:∀ w,(isAgg t).run P w= .ok false w)(hc:Cell w0 H p v):Yl P w0 (.load t (.tmp k)) ty L H v:=Ab (T h) ht hc
theorem On {P:Program}{w0:World}{L:Fm}{H:List (Nat × Obj)}{ty t:TypeId}{k b o n:Nat}{vs:List Value}(h:fnd? L k=some (.pointer (some ⟨b,o,none⟩)))(ht:∀ w,(isAgg t).run P w= .ok true w)(hz:∀ w,(sizeOf t).run P w= .ok n w)(hn:vs.length=n)(hc:Cells w0 H b o vs):Yl P w0 (.load t (.tmp k)) ty L H (.agg vs.toArray):=Ac (T h) ht hz hn hc
theorem Oo {P:Program}{w0:World}{L:Fm}{H:List (Nat × Obj)}{ty t e:TypeId}{i j:Nat}{q:Option Addr}{n c sz k:Nat}(h1:fnd? L i=some (.slice q n c))(h2:fnd? L j=some (.int .i64 (k:Int)))(ht:∀ w,(underlying t).run P w= .ok (.slice e) w)(hz:∀ w,(sizeOf e).run P w= .ok sz w)(h:k<n)(hq:Bas q):Yl P w0 (.indexAddr t (.tmp i) (.tmp j)) ty L H (.pointer (some ⟨bq q,oq q+k*sz,none⟩)):=Ba (T h1) (T h2) ht hz h hq
theorem Ot {P:Program}{w0:World}{L:Fm}{H:List (Nat × Obj)}{ty t:TypeId}{k:Nat}{v:Value}{l:List Value}(h:fnd? L k=some v)(hc:Cs v l):Eff P w0 (.box t (.tmp k)) ty L H (New (Cl l t) H):=Ak (T h) hc
theorem Oq {P:Program}{w0:World}{L:Fm}{H:List (Nat × Obj)}{ty t:TypeId}{i j:Nat}{n m:Nat}{v:Value}{vs l:List Value}{t':TypeId}{H':List (Nat × Obj)}(h1:fnd? L i=some (.pointer (some ⟨n,0,none⟩)))(h2:fnd? L j=some v)(hz:∀ w,(sizeOf t).run P w= .ok m w)(hc:Cs v vs:=by first|exact .agg|exact .one U)(hv:vs.all oneB=true:=by rfl)(hm:vs.length=m:=by rfl)
  (hu:Upd H n (Cl l t') (Cl vs t') H':=by(repeat (first|exact Upd.h|apply Upd.t|apply Gn));done) (hl:l.length=vs.length:=by rfl):Eff P w0 (.store t (.tmp i) (.tmp j)) ty L H (Still undef H'):=Aj (T h1) (T h2) hz hc hv hm hu hl
section
variable {P:Program} {r:Option Nat} {ops:Array Oper} {Q:Exit->Act->World->Prop} {w0:World} {H0:Mm} {t:Nat}
abbrev md:Region.Mode:= .any
def noDefer (ops:Array Oper):Bool:=ops.toList.all fun o=> !Op.isDefer o.op
theorem noDefer_spec (h:noDefer ops=true){j:Nat}{o:Oper}(hj:ops[j]? =some o):∀ c,o.op≠.defer c:=by
 intro c hc;have h1:=List.all_eq_true.1 h o (by rw[Array.mem_toList_iff];exact Array.mem_of_getElem? hj);rw[hc] at h1;simp[Op.isDefer] at h1
def YieldsO (P:Program) (ops:Array Oper) (w0:World) (H0:Mm) (o:Oper) (v:Value) (a:Act):Prop:=
 (Region.wanted o (yielded ops a.tmps)=true/\∀ H,H0.Sublist H->∀ w,Own w0 H w->effO P w0 (Still v H) ((execOp a.eval o).run P w))\/
 (Region.wanted o (yielded ops a.tmps)=false/\v=undef)
theorem YieldsO.of_same {o:Oper}{v:Value}{a a':Act}(hy:YieldsO P ops w0 H0 o v a)(he:execOp a'.eval o=execOp a.eval o)
  (hw:Region.wanted o (yielded ops a'.tmps)=Region.wanted o (yielded ops a.tmps)):YieldsO P ops w0 H0 o v a':=by
 unfold YieldsO at *;rw[he,hw];exact hy
theorem YieldsO.wpOpIn {i:Nat}{o:Oper}{v:Value}{a:Act}(hi:ops[i]? =some o)(hd:∀ c,o.op≠.defer c)(hy:YieldsO P ops w0 H0 o v a){K:Act->World->Prop}{H:Mm}{w:World}(hs:H0.Sublist H)(hO:Own w0 H w)
  (h:∀ w',Own w0 H w'->K (a.put o.dst v) w'):wpOpIn (rd r) 0 P ops Q i K a w:=by
 unfold Go.wpOpIn;simp only[hi];rcases hy with ⟨hw,hv⟩|⟨hw,rfl⟩
 ·simp only[hw,if_true];refine⟨fun f _=>K5 r f,?_⟩;rw[Oper.semAt_eq _ _ _ hd];have h3:=hv H hs w hO
  generalize (execOp a.eval o).run P w=res at *;cases res with
  |ok n w'=>
   cases n<;>simp only[effO] at h3<;>simp only[Oper.uponIn]
   case value u=>obtain⟨H',h1,h2,h4⟩:=h3;subst h2;subst h4;exact h _ h1
   case skip=>obtain⟨H',h1,h2,h4⟩:=h3;subst h4;rw[h2];exact h _ h1
   case enter f args=>
    refine⟨Jt r,Eo (h3.mono fun e w'' ⟨u,H',he,h1,h2,h4⟩=> ?_)⟩;subst he;subst h2;subst h4;exact h _ h1
   case round l f tmps assign body=>
    refine⟨Jt r,roundIn_rd (h3.mono fun e w'' ⟨u,H',he,h1,h2,h4⟩=> ?_)⟩;subst he;subst h2;subst h4;exact h _ h1
  |halt x w'=>simp only[effO] at h3
 ·simp only[hw,Bool.false_eq_true,if_false];exact⟨fun f _=>K5 r f,h _ hO⟩
theorem wpOpIn_putO {j:Nat}{oi oj:Oper}{v:Value}(hj:ops[j]? =some oj)(hdj:∀ c,oj.op≠.defer c)(hap:oi.apart ops oj=true)
  (hsi:∀ cs b,oi.op≠.select cs b) (hsj:∀ cs b,oj.op≠.select cs b)
  (hQ:∀ c a w,Q (.panic c) (a.put oi.dst v) w->Q (.panic c) a w) {K:Act->World->Prop} {a:Act} {w:World}
  (hy:YieldsO P ops w0 H0 oi v a) (h:wpOpIn (rd r) 0 P ops Q j K (a.put oi.dst v) w):
  wpOpIn (rd r) 0 P ops Q j (fun a' w'=>YieldsO P ops w0 H0 oi v a'/\K (a'.put oi.dst v) w') a w:=by
 obtain⟨h1,h2,h3⟩:=Oper.apart_spec hap;have keep:∀ (a:Act),YieldsO P ops w0 H0 oi v a->∀ u,YieldsO P ops w0 H0 oi v (a.put oj.dst u):=fun a hy u=>
  hy.of_same (execOp_put oi hsi a oj.dst u h3) (wanted_put oi a oj.dst u h3)
 have keepD:∀ d,YieldsO P ops w0 H0 oi v {a with defers:=d::a.defers}:=fun d=>hy.of_same U U
 unfold Go.wpOpIn at *;simp only[hj] at *;rw[wanted_put oj a oi.dst v h1] at h
 split
 ·rename_i hw;simp only[hw,if_true] at h;unfold Oper.wpIn at *;refine⟨fun f _=>K5 r f,?_⟩;have h:=h.2;rw[Oper.semAt_eq _ _ _ hdj,execOp_put oj hsj a oi.dst v h1] at h;rw[Oper.semAt_eq _ _ _ hdj]
  generalize (execOp a.eval oj).run P w=res at *;cases res with
  |ok x w'=>
   cases x<;>simp only[Oper.uponIn] at h ⊢
   case value u=>exact⟨keep a hy u,by rw[<- Act.put_comm a v u h2];exact h⟩
   case skip=>exact⟨keep a hy _,by rw[<- Act.put_comm a v undef h2];exact h⟩
   case defer d=>
    refine⟨keep _ (keepD d) _,?_⟩;rw[<- Act.put_comm _ v undef h2,<- Act.put_defers];exact h
   case enter f args=>
    refine⟨h.1,CallsIn.mono h.2 fun e w'' he=> ?_⟩;cases e with
    |returned u=>exact⟨keep a hy u,by rw[<- Act.put_comm a v u h2];exact he⟩
    |panicked c=>exact hQ _ _ _ he
    |outgrown=>exact he
   case row row args=>exact⟨h.1,RowsIn.mono h.2 fun u w'' he=>⟨keep a hy u,by rw[<- Act.put_comm a v u h2];exact he⟩⟩
   case round l f tmps assign body=>
    refine⟨h.1,RoundIn.mono h.2 fun e w'' he=> ?_⟩;cases e with
    |returned u=>exact⟨keep a hy u,by rw[<- Act.put_comm a v u h2];exact he⟩
    |panicked c=>exact hQ _ _ _ he
    |outgrown=>exact he
  |halt x w'=>
   cases x<;>simp only[Oper.uponIn] at h ⊢
   case panic u=>exact hQ _ _ _ h
 ·rename_i hw;simp only[hw] at h;exact⟨fun f _=>K5 r f,keep a hy _,by rw[<- Act.put_comm a v undef h2];exact h.2⟩
def tailOk (ops:Array Oper):Nat->Nat->Array Bool->Bool
 |0,_,listed=>Region.ready md ops listed==[]
 |m+1,k,listed=>Region.ready md ops listed==[k]&&tailOk ops m (k+1) (listed.setIfInBounds k true)
theorem tail_run:∀ (m k:Nat) (listed:Array Bool) (a:Act) (w:World),k+m=ops.size->tailOk ops m k listed=true->wpListIn (rd r) 0 P ops Q (ops.toList.drop k) a w->wpAnyIn (rd r) 0 P md ops Q m listed a w
 |0,k,listed,a,w,hk,ht,h=>by
  have:ops.toList.drop k=[]:=List.drop_eq_nil_of_le (by simp;omega);rw[this] at h;exact⟨by simpa[tailOk] using ht,h⟩
 |m+1,k,listed,a,w,hk,ht,h=>by
  simp only[tailOk,Bool.and_eq_true,beq_iff_eq] at ht;have hlt:k<ops.toList.length:=by simp;omega
  rw[List.drop_eq_getElem_cons hlt] at h;have hj:ops[k]? =some (ops.toList[k]):=by simp
  refine⟨fun h0=>absurd (ht.1 ▸ h0) (by simp),fun i hi=> ?_⟩;rw[ht.1] at hi;obtain rfl:i=k:=by simpa using hi
  unfold wpListIn at h;unfold wpOpIn;simp only[hj]
  split
  ·rename_i hw;rw[if_pos hw] at h;exact Oper.wpIn_mono (fun a' w' h'=>tail_run m (i+1) _ a' w' qom ht.2 h') h
  ·rename_i hw;rw[if_neg hw] at h;exact⟨h.1,tail_run m (i+1) _ _ w qom ht.2 h.2⟩
def wpO (P:Program) (r:Option Nat) (ops:Array Oper) (Q:Exit->Act->World->Prop) (w0:World) (H0:Mm) (t:Nat):Nat->Array Bool->Act->Mm->Prop
 |0,listed,a,H=>tailOk ops (ops.size - t) t listed=true/\∀ w,Own w0 H w->wpListIn (rd r) 0 P ops Q (ops.toList.drop t) a w
 |f+1,listed,a,H=>(∃ i0∈Region.ready md ops listed,i0<t)/\∀ i∈Region.ready md ops listed,i<t->∀ w,Own w0 H w->
   wpOpIn (rd r) 0 P ops Q i (fun a' w'=>∃ H',H0.Sublist H'/\Own w0 H' w'/\wpO P r ops Q w0 H0 t f (listed.setIfInBounds i true) a' H') a w
def TailS (ops:Array Oper) (t:Nat):Prop:=t=ops.size\/(t<ops.size/\Region.sinkB md ops t=true/\Region.chainB md ops t=true)
theorem ready_lt {listed:Array Bool}(hT:TailS ops t)(inv:HeadInv md ops t listed){i j:Nat}(hi:i<t)(hu:listed.getD i true=false)(hj:j∈Region.ready md ops listed):j<t:=by
 rcases hT with rfl|⟨hlt,hs,hc⟩
 ·obtain⟨_,o,ho,_⟩:=mem_ready.1 hj;exact(Array.getElem?_eq_some_iff.1 ho).1
 ·rcases Nat.lt_or_ge j t with h|h
  ·exact h
  ·exact absurd hj (tail_waits hs hc hlt inv (t - i) i U hi hu j h)
theorem wpAny_of_wpO (hT:TailS ops t)(htl:t<=ops.size):∀ (f:Nat) (listed:Array Bool) (a:Act) (H:Mm) (w:World),HeadInv md ops t listed->Own w0 H w->wpO P r ops Q w0 H0 t f listed a H->wpAnyIn (rd r) 0 P md ops Q (f+(ops.size - t)) listed a w
 |0,listed,a,H,w,inv,hO,h=>by rw[Nat.zero_add];exact tail_run _ t listed a w qom h.1 (h.2 w hO)
 |f+1,listed,a,H,w,inv,hO,h=>by
  obtain⟨⟨i0,hi0,hlt0⟩,h⟩:=h;rw[show f+1+(ops.size - t)=(f+(ops.size - t))+1 by omega];refine⟨fun hr=>(by rw[hr] at hi0;cases hi0),fun i hi=> ?_⟩;have hit:=ready_lt hT inv hlt0 (mem_ready.1 hi0).1 hi;exact wpOpIn_mono (fun a' w' ⟨H',hs,hO',h'⟩=>wpAny_of_wpO hT htl f _ a' H' w' (inv.set hi hit) hO' h') (h i hi hit w hO)
theorem wpO_first {i:Nat}{oi:Oper}{v:Value}(hT:TailS ops t)(hD:noDefer ops=true)(hi:ops[i]? =some oi)(hit:i<t)(hsel:∀ (j:Nat) (o:Oper) cs b,ops[j]? =some o->o.op≠.select cs b)
  (hQ:∀ c a w,Q (.panic c) (a.put oi.dst v) w->Q (.panic c) a w):
  ∀ (f:Nat) (listed:Array Bool) (a:Act) (H:Mm),H0.Sublist H->
   (∀ j oj,ops[j]? =some oj->j≠i->listed.getD j true=false->(∀ e∈oj.after,Region.binds md e=true->e.on≠i)->oi.apart ops oj=true)->
   HeadInv md ops t listed->i∈Region.ready md ops listed->YieldsO P ops w0 H0 oi v a->
   wpO P r ops Q w0 H0 t f (listed.setIfInBounds i true) (a.put oi.dst v) H->wpO P r ops Q w0 H0 t (f+1) listed a H:=by
 intro f
 induction f with
 |zero=>
  intro listed a H hs hfree inv hr hy h;refine⟨⟨i,hr,hit⟩,fun j hj hjt w hO=> ?_⟩
  by_cases hji:j=i
  ·subst hji;exact hy.wpOpIn hi (noDefer_spec hD hi) hs hO fun w' hO'=>⟨H,hs,hO',h⟩
  ·exfalso;have h1:=ready_mono hj hji;have h2:=h.1;rcases Nat.lt_or_ge t ops.size with hlt|hge
   ·rw[show ops.size - t=(ops.size - t - 1)+1 by omega] at h2;simp only[tailOk,Bool.and_eq_true,beq_iff_eq] at h2;rw[h2.1] at h1;have:j=t:=by simpa using h1
    omega
   ·rw[show ops.size - t=0 by omega] at h2;simp only[tailOk,beq_iff_eq] at h2;rw[h2] at h1;cases h1
 |succ f ih=>
  intro listed a H hs hfree inv hr hy h;refine⟨⟨i,hr,hit⟩,fun j hj hjt w hO=> ?_⟩
  by_cases hji:j=i
  ·subst hji;exact hy.wpOpIn hi (noDefer_spec hD hi) hs hO fun w' hO'=>⟨H,hs,hO',h⟩
  ·have h1:=h.2 j (ready_mono hj hji) hjt w hO;obtain⟨hjun,oj,hoj,hall⟩:=mem_ready.1 hj;have hnot:∀ e∈oj.after,Region.binds md e=true->e.on≠i:=fun e he hb heq=>by
    have h1:=hall e he hb;have h0:=(mem_ready.1 hr).1;rw[heq,getD_both h0] at h1;cases h1
   have h2:=wpOpIn_putO hoj (noDefer_spec hD hoj) (hfree j oj hoj hji hjun hnot) (fun cs b=>hsel i oi cs b hi) (fun cs b=>hsel j oj cs b hoj) hQ hy h1;have hfree':∀ k ok,ops[k]? =some ok->k≠i->(listed.setIfInBounds j true).getD k true=false->
     (∀ e∈ok.after,Region.binds md e=true->e.on≠i)->oi.apart ops ok=true:=fun k ok hk hki hun hno=>by
    refine hfree k ok hk hki ?_ hno
    by_cases hjk:j=k
    ·subst hjk;exact hjun
    ·rw[getD_set_ne true hjk] at hun;exact hun
   refine wpOpIn_mono (fun a' w' h3=> ?_) h2;obtain⟨hy',H',hs',hO',h4⟩:=h3;refine⟨H',hs',hO',ih (listed.setIfInBounds j true) a' H' hs' hfree' (inv.set hj hjt) (ready_mono hr (Ne.symm hji)) hy' ?_⟩;rw[Array.setIfInBounds_comm _ _ hji];exact h4
end
def planB (ops:Array Oper) (t:Nat):List (Nat × Bool)->Array Bool->Bool
 |[],listed=>tailOk ops (ops.size - t) t listed
 |(i,true)::rest,listed=>Nat.blt i t&&(Region.ready md ops listed).contains i&&Region.free md ops listed i&&planB ops t rest (listed.setIfInBounds i true)
 |(i,false)::rest,listed=>Nat.blt i t&&Region.ready md ops listed==[i]&&planB ops t rest (listed.setIfInBounds i true)
def tailB (ops:Array Oper) (t:Nat):Bool:=Nat.beq t ops.size||(Nat.blt t ops.size&&Region.sinkB md ops t&&Region.chainB md ops t)
theorem tailB_spec {ops:Array Oper}{t:Nat}(h:tailB ops t=true):TailS ops t/\t<=ops.size:=by
 simp only[tailB,Bool.or_eq_true,Bool.and_eq_true,Nat.blt_eq] at h;rcases h with h|⟨⟨h1,h2⟩,h3⟩
 ·have:=Nat.eq_of_beq_eq_true h;exact⟨.inl this,by omega⟩
 ·exact⟨.inr ⟨h1,h2,h3⟩,by omega⟩
section
variable {P:Program} {r:Option Nat} {N:Nat} {w0:World} {ops:Array Oper} {t:Nat} {Q:Post} {L:Fm} {ds:List Deferred} {H0 H:Mm}
theorem pan_put {N:Nat}{Q:Post}(hP:∀ c σ σ' ds w,Q (.panic c) σ ds w->Q (.panic c) σ' ds w){d:Option Tmp}{v:Value}:∀ c a w,LQ N Q (.panic c) (a.put d v) w->LQ N Q (.panic c) a w:=fun c a w hq=>⟨by have:=hq.1;rwa [Df] at this,by have:=hq.2;rw[Cu] at this;exact hP c _ _ _ _ this⟩
def JO (P:Program) (r:Option Nat) (N:Nat) (w0:World) (H0:Mm) (ops:Array Oper) (t:Nat) (plan:List (Nat × Bool)) (Q:Post) (L:Fm) (ds:List Deferred) (H:Mm):Prop:=
 TailS ops t->noDefer ops=true->Region.noSelect ops=true->(∀ c σ σ' ds w,Q (.panic c) σ ds w->Q (.panic c) σ' ds w)->H0.Sublist H->∀ listed,HeadInv md ops t listed->planB ops t plan listed=true->∀ b (a:Act),a.tmps.size=N->fr a=lk L b->a.defers=ds->
  wpO P r ops (LQ N Q) w0 H0 t plan.length listed a H
theorem Av {l:List Oper}(hl:ops.toList.drop t=l)(h:JL P r N w0 ops l Q L ds H):JO P r N w0 H0 ops t [] Q L ds H:=fun hT hD hS hP hs listed inv hp b a hsz hf hd=>by
 refine⟨hp,fun w hO=> ?_⟩;rw[hl];exact h b w hO a hsz hf hd
variable {d:Option Tmp} {op:Op} {ty:TypeId} {p:String} {af:Array Edge} {g:Option (Nat × Bool)} {v:Value} {i:Nat} {plan:List (Nat × Bool)}
theorem jo_take (hi:ops[i]? =some ⟨d,op,ty,p,af,g⟩)(hN:dOk d N=true)(hy:∀ b (a:Act),a.tmps.size=N->fr a=lk L b->YieldsO P ops w0 H0 ⟨d,op,ty,p,af,g⟩ v a)(k:JO P r N w0 H0 ops t plan Q (pt d v L) ds H):JO P r N w0 H0 ops t ((i,true)::plan) Q L ds H:=
 fun hT hD hS hP hs listed inv hp b a hsz hf hd=>by
  simp only[planB,Bool.and_eq_true,Nat.blt_eq] at hp;obtain⟨⟨⟨h1,h2⟩,h3⟩,h4⟩:=hp;have hr:i∈Region.ready md ops listed:=by simpa using h2
  exact wpO_first hT hD hi h1 (Region.noSelect_spec hS) (pan_put hP) plan.length listed a H hs (Region.free_spec hi h3) inv hr (hy b a hsz hf)
   (k hT hD hS hP hs _ (inv.set hr h1) h4 b _ (by rw[Df];exact hsz) (H4 hN hsz hf) (by rw[Cu];exact hd))
theorem o_y (hi:ops[i]? =some ⟨d,op,ty,p,af,g⟩)(hy:Yl P w0 op ty L H0 v)(k:JO P r N w0 H0 ops t plan Q (pt d v L) ds H)(hN:dOk d N=true)(hg:Gd ops L g N true):JO P r N w0 H0 ops t ((i,true)::plan) Q L ds H:=
 jo_take hi hN (fun b a hs hf=> .inl ⟨Mi hg hs hf,fun H hsub w hO=>by rw[exO_eq,Js,hf];exact hy.2 H hsub b w hO⟩) k
theorem o_n (hi:ops[i]? =some ⟨d,op,ty,p,af,g⟩)(k:JO P r N w0 H0 ops t plan Q (pt d undef L) ds H)(hN:dOk d N=true)(hg:Nw ops L g N):JO P r N w0 H0 ops t ((i,true)::plan) Q L ds H:=
 jo_take hi hN (fun b a hs hf=> .inr ⟨nw_wanted hg hs hf,rfl⟩) k
theorem o_e {K:Value->Mm->Prop}(hi:ops[i]? =some ⟨d,op,ty,p,af,g⟩)(he:Eff P w0 op ty L H K)(k:∀ v H',K v H'->H0.Sublist H'/\JO P r N w0 H0 ops t plan Q (pt d v L) ds H')(hN:dOk d N=true)(hg:Gd ops L g N true):JO P r N w0 H0 ops t ((i,false)::plan) Q L ds H:=
 fun hT hD hS hP hs listed inv hp b a hsz hf hd=>by
  simp only[planB,Bool.and_eq_true,Nat.blt_eq,beq_iff_eq] at hp;obtain⟨⟨h1,h2⟩,h4⟩:=hp;have hr:i∈Region.ready md ops listed:=by rw[h2];simp
  refine⟨⟨i,hr,h1⟩,fun j hj _ w hO=> ?_⟩;rw[h2] at hj;obtain rfl:j=i:=by simpa using hj
  unfold wpOpIn;simp only[hi];rw[if_pos (Mi hg hsz hf)];refine eff_wpIn hf he hO fun v H' w' hk hO'=> ?_
  obtain⟨k1,k2⟩:=k v H' hk;exact⟨H',k1,hO',k2 hT hD hS hP k1 _ (inv.set hr h1) h4 b _ (by rw[Df];exact hsz) (H4 hN hsz hf) (by rw[Cu];exact hd)⟩
theorem o_if {s:Nat}{u:Bool}(ha:At L s (.bool u))(ht:u=true->JO P r N w0 H0 ops t plan Q ((s, .bool true)::L) ds H)(hf:u=false->JO P r N w0 H0 ops t plan Q ((s, .bool false)::L) ds H):JO P r N w0 H0 ops t plan Q L ds H:=
 fun hT hD hS hP hs listed inv hp b a hsz hfr hd=>by
  have e:∀ x,u=x->lk ((s, .bool x)::L) b=lk L b:=fun x hx=>by
   subst hx;exact Dl (K:=[(s, .bool u)]) (L:=L) (b:=b) ⟨ha,trivial⟩
  cases u
  ·exact hf U hT hD hS hP hs listed inv hp b a hsz (by rw[e _ rfl];exact hfr) hd
  ·exact ht U hT hD hS hP hs listed inv hp b a hsz (by rw[e _ rfl];exact hfr) hd
theorem Mn {s:Nat}{q:Prop}[Decidable q] (ha:At L s (.bool (decide q)))(ht:q->JO P r N w0 H0 ops t plan Q ((s, .bool true)::L) ds H)(hf: ¬ q->JO P r N w0 H0 ops t plan Q ((s, .bool false)::L) ds H):JO P r N w0 H0 ops t plan Q L ds H:=
 o_if ha (fun h=>ht (of_decide_eq_true h)) (fun h=>hf (of_decide_eq_false h))
structure NoPanic (Q:Post):Prop where
 no:∀ c σ σ' ds w,Q (.panic c) σ ds w->Q (.panic c) σ' ds w
theorem Jh {fn:Func}{K:Value->Mm->Prop}:NoPanic (retQ P fn w0 K):=⟨fun _ _ _ _ _ h=>h⟩
theorem F3 {K}(h:NoPanic Q):NoPanic (thenQ K Q):=⟨fun c σ σ' ds w=>h.no c σ σ' ds w⟩
theorem Ey {id:Nat}(h:NoPanic Q):NoPanic (blockQ id Q):=⟨fun c σ σ' ds w=>h.no c σ σ' ds w⟩
theorem G9 {X:Type}{V:X->Fm}{G:X->Mm}{φ:X->Prop}{μ:X->Nat}{m:Nat}{ds:List Deferred}(h:NoPanic Q):NoPanic (loopQ w0 V G φ μ m ds Q):=⟨fun c σ σ' ds w=>h.no c σ σ' ds w⟩
theorem Ji {X:Type}{V:X->Fm}{G:X->Mm}{φ:X->Prop}{ds:List Deferred}(h:NoPanic Q):NoPanic (cutQ w0 V G φ ds Q):=⟨fun c σ σ' ds w=>h.no c σ σ' ds w⟩
def anyB (ops:Array Oper) (t:Nat) (plan:List (Nat × Bool)):Bool:=tailB ops t&&noDefer ops&&Region.noSelect ops&&Nat.beq plan.length t&&planB ops t plan (Array.replicate ops.size false)
theorem Bf {id:Nat}(t:Nat)(plan:List (Nat × Bool))(H0:Mm)(hm:P.follows .mixedOrders=true)(hb:anyB ops t plan=true)(hs:H0.Sublist H)(h:JO P r N w0 H0 ops t plan Q L ds H)(hP:NoPanic Q:=by repeat (first|exact Jh|exact Gq|exact Fh|apply F3|apply Ey|apply G9|apply Ji)):J P r N w0 (.region id ops true) Q L ds H:=fun b w hO a hsz hf hd=>by
 simp only[anyB,Bool.and_eq_true] at hb;obtain⟨⟨⟨⟨h1,h2⟩,h3⟩,h4⟩,h5⟩:=hb;obtain⟨hT,htl⟩:=tailB_spec h1;have hlen:=Nat.eq_of_beq_eq_true h4;have inv:HeadInv md ops t (Array.replicate ops.size false):=by
  refine⟨by simp,fun j oj _ hl=>(by rw[getD_replicate_false] at hl;cases hl),fun k _ hk=> ?_⟩;simp[hk]
 have h6:=wpAny_of_wpO hT htl plan.length _ a H {w with drawn:=w.drawn+1} inv hO.drawn (h hT h2 h3 hP.no hs _ inv h5 b a hsz hf hd);rw[hlen,show t+(ops.size - t)=ops.size by omega] at h6;exact wpIn_region_any hm h6
end
inductive Sl
 |nil
 |blk (n cap:Nat) (junk:List Value)
def slQ:Sl->Option Addr
 | .nil=>none
 | .blk n _ _=>some ⟨n,0,none⟩
def slC:Sl->Nat
 | .nil=>0
 | .blk _ cap _=>cap
abbrev slV (d:Sl) (k:Nat):Value:= .slice (slQ d) k (slC d)
def slH:Sl->List Value->TypeId->Mm
 | .nil,_,_=>[]
 | .blk n _ junk,cells,e=>[(n,Cl (cells++junk) e)]
def SlOk:Sl->Nat->Nat->Prop
 | .nil,k,_=>k=0
 | .blk _ cap junk,k,sz=>k<=cap/\junk.length=(cap - k)*sz
theorem SlOk.bas {d:Sl}{k sz:Nat}(h:SlOk d k sz)(hk:0<k):Bas (slQ d):=by
 cases d with
 |nil=>have:k=0:=h;omega
 |blk n cap junk=>rfl
theorem SlOk.cell {w0:World}{d:Sl}{k sz i:Nat}{cells:List Value}{e:TypeId}{X:Mm}{v:Value}(h:SlOk d k sz)(hc:cells.length=k*sz)(hi:cells[i]? =some v):Cell w0 (slH d cells e++X) ⟨bq (slQ d),oq (slQ d)+i,none⟩ v:=by
 cases d with
 |nil=>have:k=0:=h;subst this;have:cells=[]:=List.eq_nil_of_length_eq_zero (by simpa using hc);subst this;simp at hi
 |blk n cap junk=>
  have hlt:=(List.getElem?_eq_some_iff.1 hi).1;have:Cell w0 ((n,Cl (cells++junk) e)::X) ⟨n,i,none⟩ v:=Eb fnd_h (by rw[List.getElem?_append_left hlt];exact hi)
  simpa[slQ,bq,oq,slH] using this
def Arr {α:Type} (w0:World) (H:Mm) (q:Option Addr) (sz:Nat) (enc:α->List Value) (l:List α):Prop:=∀ i x,l[i]? =some x->Bas q/\Cells w0 H (bq q) (oq q+i*sz) (enc x)
theorem Arr.mono {α:Type}{w0:World}{H H':Mm}{q:Option Addr}{sz:Nat}{enc:α->List Value}{l:List α}(h:Arr w0 H q sz enc l)(hs:H.Sublist H'):Arr w0 H' q sz enc l:=fun i x hi=>⟨(h i x hi).1,(h i x hi).2.mono hs⟩
theorem flat_get {α:Type}{sz:Nat}{enc:α->List Value}(he:∀ x,(enc x).length=sz):∀ (l:List α) (i:Nat) (x:α) (j:Nat) (v:Value),l[i]? =some x->(enc x)[j]? =some v->(l.flatMap enc)[i*sz+j]? =some v
 |[],i,x,j,v,h,_=>by simp at h
 |y::l,0,x,j,v,h,hv=>by
  simp at h;subst h;rw[List.flatMap_cons,List.getElem?_append_left (by have:=(List.getElem?_eq_some_iff.1 hv).1;omega)]
  simpa using hv
 |y::l,i+1,x,j,v,h,hv=>by
  rw[List.flatMap_cons,List.getElem?_append_right (by rw[he];rw[Nat.succ_mul];omega),he];have:=flat_get he l i x j v (by simpa using h) hv;rw[show (i+1)*sz+j - sz=i*sz+j by rw[Nat.succ_mul];omega];exact this
theorem Ed {α:Type}{sz:Nat}{enc:α->List Value}(he:∀ x,(enc x).length=sz)(l:List α):(l.flatMap enc).length=l.length*sz:=by
 induction l with
 |nil=>simp
 |cons x l ih=>rw[List.flatMap_cons,List.length_append,ih,he,List.length_cons,Nat.succ_mul];omega
theorem B3 {α:Type}{w0:World}{d:Sl}{sz:Nat}{enc:α->List Value}{l:List α}{e:TypeId}{X:Mm}(he:∀ x,(enc x).length=sz)(h:SlOk d l.length sz):Arr w0 (slH d (l.flatMap enc) e++X) (slQ d) sz enc l:=fun i x hi=>
 ⟨h.bas (by have:=(List.getElem?_eq_some_iff.1 hi).1;omega),fun j v hj=>by
  have:=h.cell (w0:=w0) (e:=e) (X:=X) (Ed he l) (flat_get he l i x j v hi hj)
  rwa [<- Nat.add_assoc] at this⟩
theorem growBy_le:∀ (r n c:Nat),c<2*n+400->Builtin.growBy n r c<=2*n+600
 |0,n,c,h=>by unfold Builtin.growBy;omega
 |r+1,n,c,h=>by
  unfold Builtin.growBy
  split
  ·omega
  ·exact growBy_le r n _ qom
theorem nextcap_le {n c:Nat}(h:c<n):Builtin.nextslicecap n c<=2*n+600:=by
 unfold Builtin.nextslicecap
 split
 ·omega
 ·split
  ·omega
  ·exact growBy_le _ _ _ qom
def SlP (p:Value->Prop):Sl->Prop
 | .nil=>True
 | .blk _ _ junk=>∀ v∈junk,p v
theorem zero_mem {z:Array Value}{n:Nat}{v:Value}(h:v∈(Builtin.zeroCells z n).toList):v∈z:=by
 unfold Builtin.zeroCells at h;simp at h;obtain⟨i,hi,rfl⟩:=h;have hz:0<z.size:=by
  rcases Nat.eq_zero_or_pos z.size with e|e
  ·rw[e,Nat.mul_zero] at hi;omega
  ·exact e
 rw[getElem!_pos z _ (Nat.mod_lt _ hz)];exact Array.getElem_mem _
section
variable {P:Program} {w0:World} {L:Fm} {ty:TypeId} {x y:Operand} {t t2 e:TypeId}
theorem Bb {H:Mm}{len:Nat}{ps:List (Nat × Operand)}{vs:List (Nat × Value)}{cells:List Value}(hp:Evp L ps vs)(hb:∀ w,(Instr.buildSlice t len vs.toArray).run P w= .ok (.slice (some ⟨w.heap.size,0,none⟩) len len) (w.alloc (Cl cells e))):
  Eff P w0 (.buildSlice t len ps.toArray) ty L H (fun v H'=>∃ n,v= .slice (some ⟨n,0,none⟩) len len/\H'=(n,Cl cells e)::H):=
 ⟨rfl,fun b w hO=>by
  have:=hp.map b;have h1:(exO (ev (lk L b)) (.buildSlice t len ps.toArray) ty).run P w= .ok (.value (.slice (some ⟨w.heap.size,0,none⟩) len len)) (w.alloc (Cl cells e)):=by
   simp[exO,execOp,this,hb,Sem.run_bind,Result.andThen]
  rw[h1];exact⟨_,hO.alloc _,_,rfl,rfl⟩⟩
theorem Il {H:Mm}{sz m c:Nat}{q:Option Addr}{new:List Value}{w:World}(hO:Own w0 H w)(hq:m=0\/Bas q)(hl:new.length=m*sz)(hn:Cells w0 H (bq q) (oq q) new):(Builtin.firstCells sz m (.slice q m c)).run P w= .ok new.toArray w:=by
 cases q with
 |none=>
  rcases hq with rfl|hq
  ·have:new=[]:=List.eq_nil_of_length_eq_zero (by simpa using hl);subst this;simp[Builtin.firstCells]
  ·cases hq
 |some a=>
  rcases hq with h0|hq
  ·subst h0;have:new=[]:=List.eq_nil_of_length_eq_zero (by simpa using hl);subst this;simp[Builtin.firstCells,loadCells,loadCellsFrom]
  ·have ha:a=⟨bq (some a),oq (some a),none⟩:=Option.some.inj hq;have h1:=Es (P:=P) (b:=bq (some a)) (o:=oq (some a)) (w:=w) new 0 #[] (fun j v hj=>by rw[Nat.zero_add];exact hn j v hj w hO);rw[hl] at h1;unfold Builtin.firstCells loadCells;simp only;rw[ha];rw[h1];simp
theorem upd_mid {A X:Mm}{n:Nat}{o o':Obj}:Upd (A++((n,o)::X)) n o o' (A++((n,o')::X)):=Gn .h
theorem Cf {H H':Mm}{w:World}(h:Own w0 H w)(hp:H.Perm H'):Own w0 H' w:=
 ⟨h.below,fun e he=>h.has e (hp.symm.subset he),fun e he=>h.base e (hp.symm.subset he),(hp.map _).nodup_iff.1 h.nodup,h.drw⟩
theorem zero_len {z:Array Value}{n sz:Nat}(hz:z.size=sz):(Builtin.zeroCells z n).toList.length=n*sz:=by simp[Builtin.zeroCells,hz]
theorem eff_appendP {p:Value->Prop}{A X:Mm}{d:Sl}{cells new:List Value}{k m sz c by':Nat}{q:Option Addr}{z:Value}{i0:TypeInfo}{e2:TypeId}(hx:Ev L x (slV d k))(hy:Ev L y (.slice q m c))
  (ht:∀ w,(underlying t).run P w= .ok (.slice e) w) (ht2:∀ w,(underlying t2).run P w= .ok (.slice e2) w) (hz:∀ w,(sizeOf e).run P w= .ok sz w) (hi:∀ w,(typeInfo e).run P w= .ok i0 w) (hby:i0.bytes=by') (hzv:∀ w,(zeroValue e).run P w= .ok z w) (hzs:z.cells.size=sz)
  (hq:m=0\/Bas q) (hl:new.length=m*sz) (hn:Cells w0 (A++(slH d cells e++X)) (bq q) (oq q) new) (h1:new.all oneB=true) (hc:cells.length=k*sz) (hok:SlOk d k sz) (hp:SlP p d) (hpz:∀ v∈z.cells,p v) (hb0:by'≠0) (hb:(2*(k+m)+600)*by'<=281474976710656):
  Eff P w0 (.call {callee:= .builtin .append,args:= #[x,y],argTypes:= #[t,t2]}) ty L (A++(slH d cells e++X)) (fun v H'=>∃ d',v=slV d' (k+m)/\SlOk d' (k+m) sz/\SlP p d'/\H'=A++(slH d' (cells++new) e++X)):=
 ⟨rfl,fun b w hO=>by
  have h1':∀ v∈new,oneB v=true:=fun u hu=>List.all_eq_true.1 h1 u hu
  have hfirst:=Il (P:=P) (c:=c) hO hq hl hn;have hold:(Builtin.firstCells sz k (slV d k)).run P w= .ok cells.toArray w:=by
   refine Il (H:=slH d cells e++X) hO.drop ?_ hc fun i v hi=>hok.cell hc hi
   by_cases hk:k=0
   ·exact .inl hk
   ·exact .inr (hok.bas qom)
  have start:∀ R,(exO (ev (lk L b)) (.call {callee:= .builtin .append,args:= #[x,y],argTypes:= #[t,t2]}) ty).run P w=R↔(do let v <- Builtin.append_ #[t,t2] ty #[slV d k, .slice q m c];pure (Next.value v):Sem Next).run P w=R:=fun R=>by
   simp[exO,execOp,resolve,invoke,builtin,hx b,hy b,Sem.run_bind,Result.andThen]
  by_cases hcap:k+m<=slC d
  ·cases d with
   |nil=>
    have hk0:k=0:=hok;have hm0:m=0:=by have:k+m<=0:=hcap;omega
    subst hk0 hm0;have hcn:cells=[]:=List.eq_nil_of_length_eq_zero (by simpa using hc);have hnn:new=[]:=List.eq_nil_of_length_eq_zero (by simpa using hl);subst hcn hnn;have:(exO (ev (lk L b)) (.call {callee:= .builtin .append,args:= #[x,y],argTypes:= #[t,t2]}) ty).run P w= .ok (.value (.slice none 0 0)) w:=by
     rw[start];simp[Builtin.append_,slQ,slC,ht,ht2,hz,Builtin.lenOf,hfirst,Sem.run_bind,Result.andThen]
    rw[this];exact⟨_,hO, .nil,rfl,rfl,trivial,by simp[slH]⟩
   |blk n cap junk=>
    obtain⟨hk1,hk2⟩:=hok;have hcap':k+m<=cap:=hcap;have hhas:w.heap[n]? =some (Cl (cells++junk) e):=hO.drop.has (n,Cl (cells++junk) e) (by simp[slH]);have hmul:(cap - k)*sz=(cap - (k+m))*sz+m*sz:=by rw[<- Nat.add_mul];congr 1;omega
    have hst:=run_storeCells (P:=P) (n:=n) (o:=k*sz) (t:=e) new 0 (cells++junk) w hhas h1' (by simp[hc,hl,hk2];omega);have hset:setL (cells++junk) (k*sz+0) new=(cells++new)++junk.drop (m*sz):=by
     have e1:junk=junk.take (m*sz)++junk.drop (m*sz):=(List.take_append_drop _ _).symm;have e2:(junk.take (m*sz)).length=new.length:=by rw[List.length_take,hl,hk2];omega
     have key:∀ (pre l post vs:List Value),l.length=vs.length->setL (pre++(l++post)) pre.length vs=pre++vs++post:=by
      intro pre l post vs
      induction vs generalizing pre l with
      |nil=>intro h;have:l=[]:=List.eq_nil_of_length_eq_zero h;simp[setL,this]
      |cons v vs ih=>
       intro h;cases l with
       |nil=>simp at h
       |cons y l=>
        rw[setL];have e3:(pre++(y::l++post)).set pre.length v=(pre++[v])++(l++post):=by simp
        rw[e3];have:=ih (pre++[v]) l (by simpa using h);simp only[List.length_append,List.length_cons,List.length_nil,Nat.zero_add] at this;rw[this];simp
     rw[Nat.add_zero,<- hc]
     conv=>lhs;rw[e1]
     exact key cells _ _ new e2
    rw[hset] at hst;have:(exO (ev (lk L b)) (.call {callee:= .builtin .append,args:= #[x,y],argTypes:= #[t,t2]}) ty).run P w= .ok (.value (.slice (some ⟨n,0,none⟩) (k+m) cap)) (w.putObj n (Cl ((cells++new)++junk.drop (m*sz)) e)):=by
     rw[start];simp[Builtin.append_,slQ,slC,ht,ht2,hz,Builtin.lenOf,hfirst,hcap',Lq,hst,Sem.run_bind,Result.andThen]
    rw[this];refine⟨_,hO.put (upd_mid (A:=A)), .blk n cap (junk.drop (m*sz)),rfl,⟨hcap',?_⟩,fun v hv=>hp v (List.mem_of_mem_drop hv),by simp[slH]⟩;rw[List.length_drop,hk2,hmul];omega
  ·have hlt:slC d<k+m:=by omega
   have hnc:=nextcap_le hlt;have hgrow: ¬ 281474976710656<Builtin.nextslicecap (k+m) (slC d)*by':=by
    have:=Nat.mul_le_mul_right by' hnc
    omega
   let cap':=(Question.appendCap (k+m) (slC d) e).cut (w.tape w.drawn (Question.appendCap (k+m) (slC d) e))
   have hcap2:k+m<=cap':=by simp only[cap',Question.cut];omega
   let w1:World:=w.drew
   have hO1:Own w0 (A++(slH d cells e++X)) w1:=hO.drawn;have hfirst1:=Il (P:=P) (c:=c) hO1 hq hl hn;have hold1:(Builtin.firstCells sz k (slV d k)).run P w1= .ok cells.toArray w1:=by
    refine Il (H:=slH d cells e++X) hO1.drop ?_ hc fun i v hi=>hok.cell hc hi
    by_cases hk:k=0
    ·exact .inl hk
    ·exact .inr (hok.bas qom)
   have hroom:(askRoom (cap'*by')).run P w1= .ok () w1:=by
    unfold askRoom;split<;>simp[mark,Sem.run]
   let junk:=(Builtin.zeroCells z.cells (cap' - (k+m))).toList
   have this:(exO (ev (lk L b)) (.call {callee:= .builtin .append,args:= #[x,y],argTypes:= #[t,t2]}) ty).run P w= .ok (.value (.slice (some ⟨w.heap.size,0,none⟩) (k+m) cap')) (w1.alloc (Cl ((cells++new)++junk) e)):=by
    rw[start];have harr:cells.toArray++(new.toArray++Builtin.zeroCells z.cells (cap' - (k+m)))=((cells++new)++junk).toArray:=by
     apply Array.ext';simp[junk]
    have hnr:(newRow e (cells.toArray++(new.toArray++Builtin.zeroCells z.cells (cap' - (k+m))))).run P w1= .ok ⟨w.heap.size,0,none⟩ (w1.alloc (Cl ((cells++new)++junk) e)):=by
     rw[harr];exact run_new (P:=P) w1 e ((cells++new)++junk)
    have hcut:(Question.appendCap (k+m) (slC d) e).cut (w.tape w.drawn (Question.appendCap (k+m) (slC d) e))=cap':=rfl;have hw1:w.drew=w1:=rfl;simp[Builtin.append_,ht,ht2,hz,hi,hby,hb0,Builtin.lenOf,hcap,hgrow,Question.forced,hcut,hw1,hroom,hold1,hfirst1,hzv,hnr,Sem.run_bind,Result.andThen, -List.append_assoc]
   rw[this];have hO2:=hO1.alloc (Cl ((cells++new)++junk) e);refine⟨A++(slH (.blk w.heap.size cap' junk) (cells++new) e++X),?_, .blk w.heap.size cap' junk,rfl,⟨hcap2,by simp only[junk];rw[zero_len hzs]⟩,fun v hv=>hpz v (zero_mem hv),rfl⟩;have hsub:((w.heap.size,Cl ((cells++new)++junk) e)::(A++X)).Sublist ((w1.heap.size,Cl ((cells++new)++junk) e)::(A++(slH d cells e++X))):=List.Sublist.cons_cons _ ((List.Sublist.refl A).append (List.sublist_append_right _ _));refine Cf (hO2.sub hsub) ?_;simp only[slH,List.cons_append,List.nil_append];exact List.perm_middle.symm⟩
theorem eff_append {A X:Mm}{d:Sl}{cells new:List Value}{k m sz c by':Nat}{q:Option Addr}{z:Value}{i0:TypeInfo}{e2:TypeId}(hx:Ev L x (slV d k))(hy:Ev L y (.slice q m c))
  (ht:∀ w,(underlying t).run P w= .ok (.slice e) w) (ht2:∀ w,(underlying t2).run P w= .ok (.slice e2) w) (hz:∀ w,(sizeOf e).run P w= .ok sz w) (hi:∀ w,(typeInfo e).run P w= .ok i0 w) (hby:i0.bytes=by') (hzv:∀ w,(zeroValue e).run P w= .ok z w) (hzs:z.cells.size=sz)
  (hq:m=0\/Bas q) (hl:new.length=m*sz) (hn:Cells w0 (A++(slH d cells e++X)) (bq q) (oq q) new) (h1:new.all oneB=true) (hc:cells.length=k*sz) (hok:SlOk d k sz) (hb0:by'≠0) (hb:(2*(k+m)+600)*by'<=281474976710656):
  Eff P w0 (.call {callee:= .builtin .append,args:= #[x,y],argTypes:= #[t,t2]}) ty L (A++(slH d cells e++X)) (fun v H'=>∃ d',v=slV d' (k+m)/\SlOk d' (k+m) sz/\H'=A++(slH d' (cells++new) e++X)):=by
 have h:=eff_appendP (ty:=ty) (p:=fun _=>True) (A:=A) (X:=X) hx hy ht ht2 hz hi hby hzv hzs hq hl hn h1 hc hok (match d with| .nil=>trivial| .blk _ _ _=>fun _ _=>trivial) (fun _ _=>trivial) hb0 hb;refine⟨h.1,fun b w hO=> ?_⟩;have h2:=h.2 b w hO
 revert h2
 unfold effO
 split
 ·rintro⟨H',hO',d',k1,k2,_,k3⟩;exact⟨H',hO',d',k1,k2,k3⟩
 ·rintro⟨H',hO',d',k1,k2,_,k3⟩;exact⟨H',hO',d',k1,k2,k3⟩
 ·intro h3;exact h3.mono fun e w' ⟨v,H',he,hO',d',k1,k2,_,k3⟩=>⟨v,H',he,hO',d',k1,k2,k3⟩
 ·intro h3;exact h3.mono fun e w' ⟨v,H',he,hO',d',k1,k2,_,k3⟩=>⟨v,H',he,hO',d',k1,k2,k3⟩
 ·exact id
theorem eff_app1 {α:Type}{enc:α->List Value}(v:α){A X:Mm}{d:Sl}{l:List α}{n sz by':Nat}{z:Value}{i0:TypeInfo}{e2:TypeId}(hx:Ev L x (slV d l.length))(hy:Ev L y (.slice (some ⟨n,0,none⟩) 1 1))
  (ht:∀ w,(underlying t).run P w= .ok (.slice e) w) (ht2:∀ w,(underlying t2).run P w= .ok (.slice e2) w) (hz:∀ w,(sizeOf e).run P w= .ok sz w) (hi:∀ w,(typeInfo e).run P w= .ok i0 w) (hby:i0.bytes=by') (hzv:∀ w,(zeroValue e).run P w= .ok z w) (hzs:z.cells.size=sz)
  (he:∀ u,(enc u).length=sz) (h1:(enc v).all oneB=true) (hok:SlOk d l.length sz) (hb0:by'≠0) (hb:(2*(l.length+1)+600)*by'<=281474976710656) (hn:Cells w0 (A++(slH d (l.flatMap enc) e++X)) n 0 (enc v):=by exact A0):
  Eff P w0 (.call {callee:= .builtin .append,args:= #[x,y],argTypes:= #[t,t2]}) ty L (A++(slH d (l.flatMap enc) e++X)) (fun u H'=>∃ d',u=slV d' (l.length+1)/\SlOk d' (l.length+1) sz/\H'=A++(slH d' ((l++[v]).flatMap enc) e++X)):=by
 have h:=eff_append (P:=P) (w0:=w0) (L:=L) (ty:=ty) (A:=A) (X:=X) (d:=d) (cells:=l.flatMap enc) (new:=enc v) (k:=l.length) (m:=1) hx hy ht ht2 hz hi hby hzv hzs (.inr U) (by rw[he,Nat.one_mul]) hn h1 (Ed he l) hok hb0 hb;rw[List.flatMap_append]
 simpa using h
end
def YSpec (P:Program) (w0:World) (l:Nat) (args:List Value) (H:Mm) (K:Value->Mm->Prop):Prop:=
 ∀ w,Own w0 H w->∃ fn tmps assign body,(Instr.yield l args.toArray).run P w= .ok (.round l fn tmps assign body) w/\
  RoundIn Fence.wide 0 P l fn tmps assign body w fun e w'=>∃ v H',e= .returned v/\Own w0 H' w'/\K v H'
theorem YSpec.mono {P:Program}{w0:World}{l:Nat}{args:List Value}{H:Mm}{K K':Value->Mm->Prop}(h:YSpec P w0 l args H K)(hk:∀ v H',K v H'->K' v H'):YSpec P w0 l args H K':=fun w hO=>
 let ⟨fn,tmps,assign,body,h1,h2⟩:=h w hO
 ⟨fn,tmps,assign,body,h1,h2.mono fun e w' ⟨v,H',a,b,c⟩=>⟨v,H',a,b,hk _ _ c⟩⟩
def IterSpec (P:Program) (w0:World) (gf:FuncId) (cap:List Value) (Hc:Mm) {α:Type} (enc:α->List Value) (xs:List α):Prop:=
 ∀ (l:Nat) (S:Nat->Mm->Prop) (Sx:Mm->Prop),(∀ k H,S k H->Hc.Sublist H)->
  (∀ k x H X,xs[k]? =some x->S k H->YSpec P w0 l (enc x) (X++H) fun v H'=>∃ H1,H'=X++H1/\((v= .bool true/\S (k+1) H1)\/(v= .bool false/\Sx H1)))->
  ∀ H,S 0 H->FSpec P w0 gf (.func (.yield l) #[] #[]::cap).toArray H fun v H'=>S xs.length H'\/Sx H'
theorem Im {P:Program}{w0:World}{l:Nat}{L:Fm}{x:Operand}{xs:List Operand}{vs:List Value}{ts:Array TypeId}{ty:TypeId}{H:Mm}{K:Value->Mm->Prop}(hx:Ev L x (.func (.yield l) #[] #[]))(ha:Evs L xs vs)(hy:YSpec P w0 l vs H K):
  Eff P w0 (.call {callee:= .value x,args:=xs.toArray,argTypes:=ts}) ty L H K:=
 ⟨rfl,fun b w hO=>by
  have:=ha.map b;obtain⟨fn,tmps,assign,body,h1,h2⟩:=hy w hO;have e:(exO (ev (lk L b)) (.call {callee:= .value x,args:=xs.toArray,argTypes:=ts}) ty).run P w= .ok (.round l fn tmps assign body) w:=by
   simp[exO,execOp,resolve,invoke,Deferred.ofValue,hx b,this,h1,Sem.run_bind,Result.andThen]
  rw[e];exact h2⟩
def psL:List Nat->List Value->Fm->Fm
 |p::ps,v::vs,L=>psL ps vs ((p,v)::L)
 |_,_,L=>L
theorem Lr:∀ (ps:List Nat) (vs:List Value) (tmps:Array Value) (L:Fm) (b:Nat->Value),(∀ p∈ps,p<tmps.size)->(fun k=>tmps.getD k undef)=lk L b->
  (((ps.zip vs).foldl (fun t (p,v)=>t.setIfInBounds p v) tmps).size=tmps.size/\(fun k=>((ps.zip vs).foldl (fun t (p,v)=>t.setIfInBounds p v) tmps).getD k undef)=lk (psL ps vs L) b)
 |[],vs,tmps,L,b,_,h=>⟨rfl,h⟩
 |p::ps,[],tmps,L,b,_,h=>⟨rfl,h⟩
 |p::ps,v::vs,tmps,L,b,hp,h=>by
  simp only[List.zip_cons_cons,List.foldl_cons,psL];have h1:=fr_put (a:={tmps:=tmps,defers:=[]}) (d:=p) (v:=v) (L:=L) (b:=b) (hp p (by simp)) h;have:=Lr ps vs (tmps.setIfInBounds p v) ((p,v)::L) b (fun q hq=>by simpa using hp q (by simp[hq])) h1;exact⟨by rw[this.1];simp,this.2⟩
structure LrOk (lr:LoopState->Option Code->Loop):Prop where
 state:∀ s p,(lr s p).state=s
 busy:∀ s p s',{lr s p with state:=s'}=lr s' p
 jump:∀ s p s' p',{lr s p with state:=s',pending:=p'}=lr s' p'
 pend:∀ s p,(lr s p).pending=p
def roundQ (w0:World) {Z:Type} (G:Z->Mm) (φ:Z->Prop) (φr:Z->Prop) (φe:Nat->Z->Prop):Post
 | .normal,_,_,w=>∃ z,φ z/\Own w0 (G z) w
 | .ret,_,_,w=>∃ z,φr z/\Own w0 (G z) w
 | .exit id,_,_,w=>∃ z,φe id z/\Own w0 (G z) w
 |_,_,_,_=>False
def assignQ (P:Program) (l:Nat) (N:Nat) (body:Code) (Q:Post):Post
 | .normal,σ,ds,w=>∃ w2,(Instr.beginRound l).run P w= .ok () w2/\swp P (some l) N body Q σ ds w2
 |_,_,_,_=>False
section
variable {P:Program} {N:Nat} {w0:World} {Q:Post} {L:Fm} {ds:List Deferred} {H:Mm}
theorem Io {l:Nat}{lr:LoopState->Option Code->Loop}{body:Code}{H':Mm}(hl:LrOk lr)(k:J P (some l) N w0 body Q L ds H')(hu:Upd H l (.loop (lr .ready none)) (.loop (lr .busy none)) H':=by(repeat (first|exact Upd.h|apply Upd.t|apply Gn));done):
  JQ w0 (assignQ P l N body Q) .normal L ds H:=fun b w hO=>by
 have h1:=run_beginRound (P:=P) (hO.has _ hu.mem) (hl.state _ _);rw[hl.busy] at h1;exact⟨_,h1,k b _ (hO.put hu)⟩
theorem Ip {Z:Type}{G:Z->Mm}{φ:Z->Prop}{φr:Z->Prop}{φe:Nat->Z->Prop}(z:Z)(h:φ z)(hs:(G z).Sublist H):JQ w0 (roundQ w0 G φ φr φe) .normal L ds H:=fun b w hO=>⟨z,h,hO.sub hs⟩
theorem q_round_ret {Z:Type}{G:Z->Mm}{φ:Z->Prop}{φr:Z->Prop}{φe:Nat->Z->Prop}(z:Z)(h:φr z)(hs:(G z).Sublist H):JQ w0 (roundQ w0 G φ φr φe) .ret L ds H:=fun b w hO=>⟨z,h,hO.sub hs⟩
theorem Gq {Z:Type}{G:Z->Mm}{φ:Z->Prop}{φr:Z->Prop}{φe:Nat->Z->Prop}:NoPanic (roundQ w0 G φ φr φe):=⟨fun _ _ _ _ _ h=>h⟩
theorem Fh {l:Nat}{body:Code}:NoPanic (assignQ P l N body Q):=⟨fun _ _ _ _ _ h=>h⟩
theorem round_spec {Z:Type}{l f:Nat}{lr:LoopState->Option Code->Loop}{assign body:Code}{tmps:Array Value}{X Y:Mm}{G:Z->Mm}{φ:Z->Prop}{φr:Z->Prop}{φe:Nat->Z->Prop}(hl:LrOk lr)
    {b:Nat->Value} (ht:(fun k=>tmps.getD k undef)=lk L b) (hN:tmps.size=N)
    (h:J P (some l) N w0 assign (assignQ P l N body (roundQ w0 (fun z=>X++((l, .loop (lr .busy none))::(Y++G z))) φ φr φe)) L [] H) {w:World} (hO:Own w0 H w):
    RoundIn Fence.wide 0 P l f tmps assign body w fun e w'=>∃ v H',e= .returned v/\Own w0 H' w'/\
      ((v= .bool true/\∃ z,φ z/\H'=X++((l, .loop (lr .ready none))::(Y++G z)))\/
       (v= .bool false/\∃ z,(φr z/\H'=X++((l, .loop (lr .done (some .ret)))::(Y++G z)))\/∃ id,φe id z/\H'=X++((l, .loop (lr .done (some (.exit id))))::(Y++G z)))):=by
  refine roundIn_of_wpIn trivial ?_;refine wpIn_mono (h b w hO {tmps:=tmps,defers:=[]} hN ht U) ?_;intro e a w1 hq;obtain⟨hs,hq⟩:=hq;cases e<;>first|exact hq.elim|skip
  obtain⟨w2,hb,hbody⟩:=hq;refine⟨w2,hb,wpIn_mono (hbody a hs U U) ?_⟩;intro e a2 w3 hq;obtain⟨hs2,hq⟩:=hq;have fin:∀ (jump:Option Code) (z:Z),Own w0 (X++((l, .loop (lr .busy none))::(Y++G z))) w3->
      (Instr.endRound l jump).run P w3= .ok (.bool jump.isNone) (w3.putObj l (.loop (lr (if jump.isNone then .ready else .done) jump)))/\
      Own w0 (X++((l, .loop (lr (if jump.isNone then .ready else .done) jump))::(Y++G z))) (w3.putObj l (.loop (lr (if jump.isNone then .ready else .done) jump))):=fun jump z hO3=>by
    have hh:w3.heap[l]? =some (.loop (lr .busy none)):=hO3.has (l,_) (by simp);have h1:=run_endRound (P:=P) jump hh;rw[hl.jump] at h1;exact⟨h1,hO3.put upd_mid⟩
  cases e with
  |normal=>
    obtain⟨z,hz,hO3⟩:=hq;obtain⟨h1,h2⟩:=fin none z hO3;exact⟨_,_,h1,_,_,rfl,h2, .inl ⟨rfl,z,hz,rfl⟩⟩
  |ret=>
    obtain⟨z,hz,hO3⟩:=hq;obtain⟨h1,h2⟩:=fin (some .ret) z hO3;exact⟨_,_,h1,_,_,rfl,h2, .inr ⟨rfl,z, .inl ⟨hz,rfl⟩⟩⟩
  |exit id=>
    obtain⟨z,hz,hO3⟩:=hq;obtain⟨h1,h2⟩:=fin (some (.exit id)) z hO3;exact⟨_,_,h1,_,_,rfl,h2, .inr ⟨rfl,z, .inr ⟨id,hz,rfl⟩⟩⟩
  |goto t=>exact hq.elim
  |panic ch=>exact hq.elim
  |outgrown=>exact hq.elim
theorem j_rangeM {α Z:Type}{g:Operand}{ps:List Nat}{assign body:Code}{gf:FuncId}{cap:List Value}{Hc:Mm}{enc:α->List Value}{xs:List α}
  (hg:Ev L g (.func (.func gf) #[] cap.toArray)) (hc:∀ args w,(callFunc gf args).run P w= .ok (.enter gf args) w) (it:IterSpec P w0 gf cap Hc enc xs) (hps:∀ x,(enc x).length=ps.length) (hpN:(ps.all fun p=>Nat.blt p N)=true)
  (G:Z->Mm) (φ:Nat->Z->Prop) (φr:Z->Prop) (φe:Nat->Z->Prop) (z0:Z) (h0:φ 0 z0) (hG:(G z0).Sublist H) (hHc:∀ k z,φ k z->Hc.Sublist (G z))
  (round:∀ (l:Nat) (lr:LoopState->Option Code->Loop) (Y X:Mm) (k:Nat) (x:α) (z:Z),LrOk lr->xs[k]? =some x->φ k z->
   J P (some l) N w0 assign (assignQ P l N body (roundQ w0 (fun z=>X++((l, .loop (lr .busy none))::(Y++G z))) (φ (k+1)) φr φe)) (psL ps (enc x) L) [] (X++((l, .loop (lr .ready none))::(Y++G z))))
  (done:∀ D z,φ xs.length z->JQ w0 Q .normal L ({target:= .collected D,args:= #[]}::ds) ((D, .deferred (some []))::G z))
  (stopR:∀ D z,φr z->JQ w0 Q .ret L ({target:= .collected D,args:= #[]}::ds) ((D, .deferred (some []))::G z))
  (stopE:∀ id D z,φe id z->JQ w0 Q (.exit id) L ({target:= .collected D,args:= #[]}::ds) ((D, .deferred (some []))::G z)):
  J P none N w0 (.rangeFunc g ps.toArray assign body) Q L ds H:=fun b w hO a hsz hf hd=>by
 refine wpIn_rangeFunc ?_;intro fn _;have hO':=hO.sub hG;obtain⟨lr,hlr⟩:∃ lr:LoopState->Option Code->Loop,lr=fun st pe=>{state:=st,pending:=pe,fn,tmps:=a.tmps,params:=ps.toArray,assign,body,defers:=w.heap.size}:=⟨_,rfl⟩
 have hl:LrOk lr:=by subst hlr;exact⟨fun _ _=>rfl,fun _ _ _=>rfl,fun _ _ _ _=>rfl,fun _ _=>rfl⟩
 have hO1:=(hO'.alloc (.deferred (some []))).alloc (.loop (lr .ready none));rw[World.size_alloc] at hO1;obtain⟨D,hDw⟩:∃ D,D=w.heap.size:=⟨_,rfl⟩;obtain⟨l,hlw⟩:∃ l,l=w.heap.size+1:=⟨_,rfl⟩;rw[<- hlw,<- hDw] at hO1;have hcond:=it l (fun k H=>∃ z,φ k z/\H=(l, .loop (lr .ready none))::([(D, .deferred (some []))]++G z))
  (fun H=>∃ z,(φr z/\H=(l, .loop (lr .done (some .ret)))::([(D, .deferred (some []))]++G z))\/∃ id,φe id z/\H=(l, .loop (lr .done (some (.exit id))))::([(D, .deferred (some []))]++G z))
  (fun k H ⟨z,hz,hH⟩=>by rw[hH];exact((hHc k z hz).cons _).cons _)
  (fun k x H X hx ⟨z,hz,hH⟩ w hOw=>by
   rw[hH] at hOw;have hh:w.heap[l]? =some (.loop (lr .ready none)):=hOw.has (l,_) (by simp);have hy:=run_yield (P:=P) (args:=(enc x).toArray) hh (by rw[hlr];simpa using hps x);have htm:a.tmps.size=N:=hsz;have hp:=Lr ps (enc x) a.tmps L b (fun p hp=>by have:=List.all_eq_true.1 hpN p hp;rw[htm];simpa[Nat.blt_eq] using this) hf;refine⟨_,_,_,_,hy,?_⟩;have h1:=round_spec (P:=P) (f:=(lr .ready none).fn) (tmps:=(ps.zip (enc x)).foldl (fun t (p,v)=>t.setIfInBounds p v) a.tmps) (X:=X) (Y:=[(D, .deferred (some []))]) (G:=G) (φ:=φ (k+1)) (φr:=φr) (φe:=φe) hl hp.2 (by rw[hp.1];exact htm) (round l lr [(D, .deferred (some []))] X k x z hl hx hz) hOw;have e1:(lr .ready none).assign=assign:=by rw[hlr]
   have e2:(lr .ready none).body=body:=by rw[hlr]
   have e3:((lr .ready none).params.zip (enc x).toArray).foldl (fun tmps (p:Tmp × Value)=>tmps.setIfInBounds p.1 p.2) (lr .ready none).tmps=(ps.zip (enc x)).foldl (fun t (p,v)=>t.setIfInBounds p v) a.tmps:=by rw[hlr];simp
   rw[e1,e2];refine RoundIn.mono (by rw[<- e3] at h1;exact h1) ?_;rintro e w' ⟨v,H',he,hO2,hcs⟩;refine⟨v,H',he,hO2,?_⟩;rcases hcs with ⟨hv,z',hz',hH'⟩|⟨hv,z',hcs⟩
   ·exact⟨_,hH', .inl ⟨hv,z',hz',rfl⟩⟩
   ·rcases hcs with ⟨hz',hH'⟩|⟨id,hz',hH'⟩
    ·exact⟨_,hH', .inr ⟨hv,z', .inl ⟨hz',rfl⟩⟩⟩
    ·exact⟨_,hH', .inr ⟨hv,z', .inr ⟨id,hz',rfl⟩⟩⟩)
  ((l, .loop (lr .ready none))::([(D, .deferred (some []))]++G z0)) ⟨z0,h0,rfl⟩
 refine⟨l,[{target:= .collected D,args:= #[]}],(w.alloc (.deferred (some []))).alloc (.loop (lr .ready none)),{target:= .fn (.func gf) cap.toArray,args:= #[.func (.yield l) #[] #[]]},(w.alloc (.deferred (some []))).alloc (.loop (lr .ready none)),gf,(.func (.yield l) #[] #[]::cap).toArray,(w.alloc (.deferred (some []))).alloc (.loop (lr .ready none)),?enter,?res,fun f' _=>trivial,?inv,Jt none,Eo (r:=none) ?call⟩
 case call=>
  refine(hcond _ hO1).mono ?_;rintro e w3 ⟨v,H',he,hO3,hcs⟩;subst he;have fin:∀ (s:LoopState) (p:Option Code) (z:Z),s≠.busy->Own w0 ((l, .loop (lr s p))::([(D, .deferred (some []))]++G z)) w3->(Instr.endLoop l).run P w3= .ok p (w3.putObj l (.loop {lr s p with state:= .exhausted}))/\Own w0 ((D, .deferred (some []))::G z) (w3.putObj l (.loop {lr s p with state:= .exhausted})):=fun s p z hne hO3=>by
   have hh:w3.heap[l]? =some (.loop (lr s p)):=hO3.has (l,_) (by simp);have h1:=run_endLoop (P:=P) hh (by rw[hl.state];exact hne);exact⟨h1.trans (congrArg (fun q=>Result.ok q _) (hl.pend s p)),(hO3.put .h).tail⟩
  have key:∀ e z,(∀ w,Own w0 ((D, .deferred (some []))::G z) w->Q e (lk L b) ({target:= .collected D,args:= #[]}::ds) w)->∀ w,Own w0 ((D, .deferred (some []))::G z) w->LQ N Q e {a with defers:=[{target:= .collected D,args:= #[]}]++a.defers} w:=fun e z h w hOw=>⟨hsz,by
   have:=h w hOw;have hf':fr {a with defers:=[{target:= .collected D,args:= #[]}]++a.defers}=lk L b:=hf;rw[hf'];simp only[List.cons_append,List.nil_append,hd];exact this⟩
  rcases hcs with ⟨z,hz,hH'⟩|⟨z,hcs⟩
  ·rw[hH'] at hO3;obtain⟨h1,h2⟩:=fin _ _ z (by simp) hO3;exact⟨none,_,h1,key .normal z (fun w hw=>done D z hz b w hw) _ h2⟩
  ·rcases hcs with ⟨hz,hH'⟩|⟨id,hz,hH'⟩
   ·rw[hH'] at hO3;obtain⟨h1,h2⟩:=fin _ _ z (by simp) hO3;exact⟨some .ret,_,h1,wpIn_ret (key .ret z (fun w hw=>stopR D z hz b w hw) _ h2)⟩
   ·rw[hH'] at hO3;obtain⟨h1,h2⟩:=fin _ _ z (by simp) hO3;exact⟨some (.exit id),_,h1,wpIn_exit (key (.exit id) z (fun w hw=>stopE id D z hz b w hw) _ h2)⟩
 case enter=>
  have:=run_enterLoop_outer (P:=P) (w:=w) fn a.tmps ps.toArray assign body;rw[hlr,hlw,hDw];exact this
 case res=>
  have hgb:=hg b;rw[<- hf,<- Er] at hgb;have e:resolve a.eval (rangeCall g l) 0=Deferred.ofValue (a.eval g) #[.func (.yield l) #[] #[]]:=by
   unfold resolve;simp only[List.map_toArray,List.map_cons,List.map_nil]
   rfl
  rw[e];rw[hgb];simp[Deferred.ofValue]
 case inv=>simp[invoke,hc]
theorem j_range {α Z:Type}{g:Operand}{ps:List Nat}{assign body:Code}{gf:FuncId}{cap:List Value}{Hc:Mm}{enc:α->List Value}{xs:List α}
  (hg:Ev L g (.func (.func gf) #[] cap.toArray)) (hc:∀ args w,(callFunc gf args).run P w= .ok (.enter gf args) w) (it:IterSpec P w0 gf cap Hc enc xs) (hps:∀ x,(enc x).length=ps.length) (hpN:(ps.all fun p=>Nat.blt p N)=true)
  (G:Z->Mm) (φ:Nat->Z->Prop) (φr:Z->Prop) (φe:Nat->Z->Prop) (z0:Z) (h0:φ 0 z0) (hG:(G z0).Sublist H) (hHc:∀ z,Hc.Sublist (G z))
  (round:∀ (l:Nat) (lr:LoopState->Option Code->Loop) (Y X:Mm) (k:Nat) (x:α) (z:Z),LrOk lr->xs[k]? =some x->φ k z->
   J P (some l) N w0 assign (assignQ P l N body (roundQ w0 (fun z=>X++((l, .loop (lr .busy none))::(Y++G z))) (φ (k+1)) φr φe)) (psL ps (enc x) L) [] (X++((l, .loop (lr .ready none))::(Y++G z))))
  (done:∀ D z,φ xs.length z->JQ w0 Q .normal L ({target:= .collected D,args:= #[]}::ds) ((D, .deferred (some []))::G z))
  (stopR:∀ D z,φr z->JQ w0 Q .ret L ({target:= .collected D,args:= #[]}::ds) ((D, .deferred (some []))::G z))
  (stopE:∀ id D z,φe id z->JQ w0 Q (.exit id) L ({target:= .collected D,args:= #[]}::ds) ((D, .deferred (some []))::G z)):
  J P none N w0 (.rangeFunc g ps.toArray assign body) Q L ds H:=j_rangeM hg hc it hps hpN G φ φr φe z0 h0 hG (fun _ z _=>hHc z) round done stopR stopE
theorem q_mark_ret {fn:Func}{K:Value->Mm->Prop}{D:Nat}{H':Mm}(k:JQ w0 (retQ P fn w0 K) .ret L ds H')(hu:Upd H D (.deferred (some [])) (.deferred none) H':=by(repeat (first|exact Upd.h|apply Upd.t|apply Gn));done):
  JQ w0 (retQ P fn w0 K) .ret L ({target:= .collected D,args:= #[]}::ds) H:=fun b w hO=>⟨D,_,rfl,run_takeDeferred (hO.has _ hu.mem),k b _ (hO.put hu)⟩
theorem q_mark_end {fn:Func}{K:Value->Mm->Prop}{D:Nat}{H':Mm}(k:JQ w0 (retQ P fn w0 K) .normal L ds H')(hu:Upd H D (.deferred (some [])) (.deferred none) H':=by(repeat (first|exact Upd.h|apply Upd.t|apply Gn));done):
  JQ w0 (retQ P fn w0 K) .normal L ({target:= .collected D,args:= #[]}::ds) H:=fun b w hO=>⟨D,_,rfl,run_takeDeferred (hO.has _ hu.mem),k b _ (hO.put hu)⟩
end
section
variable {K V:Type} [DecidableEq K]
def ents (encK:K->Value) (encV:V->Value) (l:List (K × V)):List MapEntry:=l.zipIdx.map fun p=>{key:=encK p.1.1,val:=encV p.1.2,born:=p.2}
def mapO (encK:K->Value) (encV:V->Value) (l:List (K × V)):Obj:= .map (ents encK encV l).toArray l.length
def findI (k:K):List (K × V)->Nat->Option (Nat × V)
 |[],_=>none
 |e::l,i=>if e.1=k then some (i,e.2) else findI k l (i+1)
def look (l:List (K × V)) (k:K):Option V:=(findI k l 0).map (·.2)
def upsert (l:List (K × V)) (k:K) (v:V):List (K × V):=
 match findI k l 0 with
 |some (i,_)=>l.set i (k,v)
 |none=>l++[(k,v)]
theorem F4 (k:K):∀ (l:List (K × V)) (i:Nat),findI k l i=(findI k l 0).map fun p=>(p.1+i,p.2)
 |[],i=>rfl
 |e::l,i=>by
  unfold findI
  split
  ·simp
  ·rw[F4 k l (i+1),F4 k l (0+1)];cases findI k l 0<;>simp;omega
theorem Dh (e:K × V)(l:List (K × V))(k:K):look (e::l) k=if e.1=k then some e.2 else look l k:=by
 unfold look;rw[findI]
 split
 ·rfl
 ·rw[F4];cases findI k l 0<;>rfl
theorem Ez (e:K × V)(l:List (K × V))(k:K)(v:V):upsert (e::l) k v=if e.1=k then (k,v)::l else e::upsert l k v:=by
 unfold upsert;rw[findI]
 by_cases h:e.1=k
 ·simp[h]
 ·simp only[h,if_false];rw[F4];cases findI k l 0 with
  |none=>simp
  |some p=>simp
theorem Dp (l:List (K × V))(k:K)(v:V)(k':K):look (upsert l k v) k'=if k=k' then some v else look l k':=by
 induction l with
 |nil=>unfold upsert;simp only[findI];rw[List.nil_append,Dh]
 |cons e l ih=>
  rw[Ez]
  by_cases h:e.1=k
  ·rw[if_pos h,Dh,Dh]
   by_cases h2:k=k'
   ·simp[h2]
   ·rw[if_neg h2,if_neg h2,if_neg (by rw[h];exact h2)]
  ·rw[if_neg h,Dh,Dh,ih]
   by_cases h2:e.1=k'
   ·rw[if_pos h2,if_pos h2,if_neg (by intro h3;exact h (h2.trans h3.symm))]
   ·rw[if_neg h2,if_neg h2]
theorem ents_append (encK:K->Value)(encV:V->Value)(l:List (K × V))(k:K)(v:V):ents encK encV (l++[(k,v)])=ents encK encV l++[{key:=encK k,val:=encV v,born:=l.length}]:=by
 unfold ents;rw[List.zipIdx_append,List.map_append];simp
theorem findI_lt {k:K}{l:List (K × V)}{i n:Nat}{v:V}(h:findI k l n=some (i,v)):n<=i/\i - n<l.length/\l[i - n]? =some (k,v):=by
 induction l generalizing n with
 |nil=>cases h
 |cons e l ih=>
  unfold findI at h
  split at h
  ·rename_i he;simp only[Option.some.injEq,Prod.mk.injEq] at h;obtain⟨rfl,rfl⟩:=h;refine⟨Nat.le_refl _,by simp,?_⟩;simp[<- he]
  ·obtain⟨h1,h2,h3⟩:=ih h;refine⟨by omega,by simp;omega,?_⟩;rw[show i - n=(i - (n+1))+1 by omega];simpa using h3
theorem Gs (encK:K->Value)(encV:V->Value)(l:List (K × V))(i:Nat):(ents encK encV l)[i]? =(l[i]?).map fun p=>{key:=encK p.1,val:=encV p.2,born:=i}:=by
 unfold ents;rw[List.getElem?_map,List.getElem?_zipIdx];cases l[i]? <;>simp
theorem ents_set (encK:K->Value)(encV:V->Value)(l:List (K × V))(i:Nat)(k:K)(v:V):(ents encK encV l).toArray.modify i (fun e=>{e with key:=encK k,val:=encV v})=(ents encK encV (l.set i (k,v))).toArray:=by
 apply Array.ext';apply List.ext_getElem?;intro j;rw[Gs];simp only[Array.toList_modify,List.getElem?_modify,Gs,List.getElem?_set]
 by_cases hij:i=j
 ·subst hij
  by_cases hl:i<l.length
  ·simp[hl]
  ·simp[hl]
 ·simp[hij]
variable {P:Program} {kt:TypeId} {encK:K->Value} {encV:V->Value}
structure KeyOk (P:Program) (kt:TypeId) (encK:K->Value):Prop where
 chk:∀ b k w,(Instr.checkKey b 10000 kt (encK k)).run P w= .ok () w
 find:∀ (encV:V->Value) (l:List (K × V)) k w,(Instr.findKey kt (encK k) (ents encK encV l)).run P w= .ok ((findI k l 0).map fun p=>(p.1,encV p.2)) w
 bits:∀ k,Instr.sameBits 10000 (encK k) (encK k)=true
theorem findNow_eq {td:TypeDesc}(h:∀ k k',Instr.sameNow td (encK k) (encK k')=some (decide (k'=k)))(k:K):∀ (l:List (K × V)) (i n:Nat),Instr.findNow td (encK k) ((l.zipIdx n).map fun p=>{key:=encK p.1.1,val:=encV p.1.2,born:=p.2}) i=some ((findI k l i).map fun p=>(p.1,encV p.2))
 |[],i,n=>rfl
 |e::l,i,n=>by
  simp only[List.zipIdx_cons,List.map_cons,Instr.findNow,h];rw[findI]
  by_cases he:e.1=k
  ·simp[he]
  ·simp only[he,decide_false,if_false];exact findNow_eq h k l (i+1) (n+1)
theorem keyOk_now {td:TypeDesc}(ht:∀ w,(underlying kt).run P w= .ok td w)(hc:∀ b k w,(Instr.checkKey b 10000 kt (encK k)).run P w= .ok () w)(h:∀ k k',Instr.sameNow td (encK k) (encK k')=some (decide (k'=k)))(hb:∀ k,Instr.sameBits 10000 (encK k) (encK k)=true):KeyOk (V:=V) P kt encK:=
 ⟨hc,fun encV l k w=>by
  unfold Instr.findKey;simp only[Sem.run_bind,ht,Result.andThen];rw[show ents encK encV l=(l.zipIdx 0).map fun p=>{key:=encK p.1.1,val:=encV p.1.2,born:=p.2} from rfl,findNow_eq h k l 0 0];simp,hb⟩
theorem findAsk_eq (h:∀ k k' w,(Op.equal kt (encK k) (encK k')).run P w= .ok (decide (k'=k)) w)(k:K)(w:World):∀ (l:List (K × V)) (i n:Nat),(Instr.findAsking kt (encK k) ((l.zipIdx n).map fun p=>{key:=encK p.1.1,val:=encV p.1.2,born:=p.2}) i).run P w= .ok ((findI k l i).map fun p=>(p.1,encV p.2)) w
 |[],i,n=>rfl
 |e::l,i,n=>by
  simp only[List.zipIdx_cons,List.map_cons,Instr.findAsking,Sem.run_bind,h,Result.andThen];rw[findI]
  by_cases he:e.1=k
  ·simp[he]
  ·simp only[he,decide_false,if_false,Bool.false_eq_true];exact findAsk_eq h k w l (i+1) (n+1)
theorem keyOk_ask {td:TypeDesc}(ht:∀ w,(underlying kt).run P w= .ok td w)(hc:∀ b k w,(Instr.checkKey b 10000 kt (encK k)).run P w= .ok () w)(hn:∀ k k',Instr.sameNow td (encK k) (encK k')=none)(h:∀ k k' w,(Op.equal kt (encK k) (encK k')).run P w= .ok (decide (k'=k)) w)(hb:∀ k,Instr.sameBits 10000 (encK k) (encK k)=true):KeyOk (V:=V) P kt encK:=
 ⟨hc,fun encV l k w=>by
  unfold Instr.findKey;simp only[Sem.run_bind,ht,Result.andThen];cases l with
  |nil=>rfl
  |cons e l=>
   have h1:Instr.findNow td (encK k) (ents encK encV (e::l)) 0=none:=by simp[ents,List.zipIdx_cons,Instr.findNow,hn]
   rw[h1];exact findAsk_eq h k w (e::l) 0 0,hb⟩
variable {w0:World} {L:Fm} {H:Mm} {ty t et:TypeId} {x y z:Operand}
theorem Dc {w:World}{r:Nat}{es:Array MapEntry}{c:Nat}(h:w.heap[r]? =some (.map es c)):(getObj r).run P w= .ok (.map es c) w:=by simp[getObj,Sem.run,h]
theorem Ha {w:World}{r:Nat}{es:Array MapEntry}{c:Nat}(o:Obj)(h:w.heap[r]? =some (.map es c)):(setObj r o).run P w= .ok () (w.putObj r o):=by simp[setObj,Sem.run,h,World.putObj]
theorem run_lookup {w:World}{r:Nat}{l:List (K × V)}{k:K}{zv:Value}{ok:Bool}(hk:KeyOk (V:=V) P kt encK)(ht:∀ w,(underlying t).run P w= .ok (.map kt et) w)(hz:∀ w,(zeroValue et).run P w= .ok zv w)(h:w.heap[r]? =some (mapO encK encV l)):
  (Instr.lookup t (.map (some r)) (encK k) ok).run P w= .ok (if ok then .tuple #[((look l k).map encV).getD zv, .bool (look l k).isSome] else ((look l k).map encV).getD zv) w:=by
 have hg:=Dc (P:=P) h;unfold Instr.lookup;simp only[Sem.run_bind,ht,Result.andThen,hg,Sem.run_pure,hk.chk];have hf:=hk.find encV l k w;rw[hf];unfold look;cases findI k l 0 with
 |none=>simp[hz,Sem.run_bind,Result.andThen]
 |some p=>simp
theorem yl_lookup2 {r:Nat}{l:List (K × V)}{k:K}{zv v:Value}(hk:KeyOk (V:=V) P kt encK)(hx:Ev L x (.map (some r)))(hy:Ev L y v)(hv:v=encK k)(ht:∀ w,(underlying t).run P w= .ok (.map kt et) w)(hz:∀ w,(zeroValue et).run P w= .ok zv w)
  (hf:Fnd H r (mapO encK encV l):=by(repeat (first|exact fnd_h|refine Cr ?_|refine Me ?_));done):Yl P w0 (.lookup t x y true) ty L H (.tuple #[((look l k).map encV).getD zv, .bool (look l k).isSome]):=Lp U fun H' hs b w hO=>by
 have h:=run_lookup (P:=P) (k:=k) (ok:=true) hk ht hz ((hO.sub hs).has _ hf);subst hv;simp[exO,execOp,hx b,hy b,h,Sem.run_bind,Result.andThen]
theorem Cq {r:Nat}{l:List (K × V)}(k:K)(u:V){v v':Value}{H':Mm}(hk:KeyOk (V:=V) P kt encK)(hx:Ev L x (.map (some r)))(hy:Ev L y v)(hv:v=encK k)(hz:Ev L z v')(hv':v'=encV u)(ht:∀ w,(underlying t).run P w= .ok (.map kt et) w)
  (hu:Upd H r (mapO encK encV l) (mapO encK encV (upsert l k u)) H':=by(repeat (first|exact Upd.h|apply Upd.t|apply Gn));done):Eff P w0 (.mapUpdate t x y z) ty L H (Still undef H'):=
 ⟨rfl,fun b w hO=>by
  subst hv hv';have hh:=hO.has _ hu.mem;have hg:=Dc (P:=P) hh;have hf:=hk.find encV l k w;have h1:(exO (ev (lk L b)) (.mapUpdate t x y z) ty).run P w= .ok .skip (w.putObj r (mapO encK encV (upsert l k u))):=by
   simp only[exO,execOp,hx b,hy b,hz b];unfold Instr.mapUpdate;simp only[Sem.run_bind,ht,Result.andThen,hg,hk.chk,hf];unfold upsert;cases hi:findI k l 0 with
   |none=>
    have hs:=Ha (P:=P) (.map ((ents encK encV l).toArray.push {key:=encK k,val:=encV u,born:=l.length}) (l.length+1)) hh;simp only[Option.map_none,hs,Sem.run_pure];simp[mapO,ents_append]
   |some p=>
    obtain⟨i,v0⟩:=p;obtain⟨_,h2,h3⟩:=findI_lt hi;have he:(ents encK encV l).toArray[i]? =some {key:=encK k,val:=encV v0,born:=i}:=by
     rw[List.getElem?_toArray,Gs];simp at h3;simp[h3]
    have hs:=Ha (P:=P) (.map ((ents encK encV l).toArray.modify i (fun e=>{e with key:=encK k,val:=encV u})) l.length) hh;simp only[Option.map_some,he,Option.getD_some,Instr.keyThatStays,hk.bits,if_true,Sem.run_pure,Sem.run_bind,Result.andThen,hs];rw[ents_set];simp[mapO]
  rw[h1];exact⟨_,hO.put hu,rfl,rfl⟩⟩
theorem Fnd.mono {H H':Mm}{n:Nat}{o:Obj}(h:Fnd H n o)(hs:H.Sublist H':=by exact sbt):Fnd H' n o:=hs.subset h
inductive Loc:Mm->Nat->Obj->Mm->(Obj->Mm)->Prop
 |h {H r o}:Loc ((r,o)::H) r o H (fun o'=>(r,o')::H)
 |t {H r o R F e}:Loc H r o R F->Loc (e::H) r o (e::R) (fun o'=>e::F o')
theorem Loc.a {X H:Mm}{r:Nat}{o:Obj}{R:Mm}{F:Obj->Mm}(h:Loc H r o R F):Loc (X++H) r o (X++R) (fun o'=>X++F o'):=by
 induction X with
 |nil=>exact h
 |cons e X ih=>exact .t ih
theorem Loc.perm {H:Mm}{r:Nat}{o:Obj}{R:Mm}{F:Obj->Mm}(h:Loc H r o R F):H.Perm ((r,o)::R)/\∀ o',(F o').Perm ((r,o')::R):=by
 induction h with
 |h=>exact⟨List.Perm.refl _,fun _=>List.Perm.refl _⟩
 |t _ ih=>exact⟨(ih.1.cons _).trans (List.Perm.swap _ _ _),fun o'=>((ih.2 o').cons _).trans (List.Perm.swap _ _ _)⟩
end
abbrev Nd:=Nat × Nat × Nat
abbrev Ns:=List Nd
def nd (ns:Ns) (i:Nat):Nd:=ns.getD i (0,0,0)
def lvl (ns:Ns) (i:Nat):Nat:=(nd ns i).1
def low (ns:Ns) (i:Nat):Nat:=(nd ns i).2.1
def hig (ns:Ns) (i:Nat):Nat:=(nd ns i).2.2
structure Wf (N:Nat) (ns:Ns):Prop where
 two:2<=ns.length
 e0:nd ns 0=(N,0,0)
 e1:nd ns 1=(N,0,0)
 lt:∀ i,2<=i->i<ns.length->lvl ns i<N/\low ns i<i/\hig ns i<i
 ne:∀ i,2<=i->i<ns.length->low ns i≠hig ns i
 up:∀ i,2<=i->i<ns.length->lvl ns i<lvl ns (low ns i)/\lvl ns i<lvl ns (hig ns i)
 un:∀ i j,2<=i->i<ns.length->2<=j->j<ns.length->nd ns i=nd ns j->i=j
theorem Gh {ns ms:Ns}(h:ns<+:ms){i:Nat}(hi:i<ns.length):nd ms i=nd ns i:=by
 obtain⟨t,rfl⟩:=h;unfold nd List.getD;rw[List.getElem?_append_left hi]
theorem F5 {ns ms:Ns}(h:ns<+:ms){i:Nat}(hi:i<ns.length):lvl ms i=lvl ns i:=by unfold lvl;rw[Gh h hi]
theorem Jv {ns ms:Ns}(h:ns<+:ms){i:Nat}(hi:i<ns.length):low ms i=low ns i:=by unfold low;rw[Gh h hi]
theorem Jw {ns ms:Ns}(h:ns<+:ms){i:Nat}(hi:i<ns.length):hig ms i=hig ns i:=by unfold hig;rw[Gh h hi]
section
variable {N:Nat} {ns ms:Ns}
theorem Wf.lv0 (h:Wf N ns):lvl ns 0=N:=by unfold lvl;rw[h.e0]
theorem Wf.lv1 (h:Wf N ns):lvl ns 1=N:=by unfold lvl;rw[h.e1]
theorem Wf.lvN (h:Wf N ns){i:Nat}(hi:i<ns.length):lvl ns i<=N:=by
 by_cases h2:2<=i
 ·exact Nat.le_of_lt (h.lt i h2 hi).1
 ·have:i=0\/i=1:=by omega
  rcases this with rfl|rfl
  ·exact Nat.le_of_eq h.lv0
  ·exact Nat.le_of_eq h.lv1
theorem Wf.end (h:Wf N ns){i:Nat}(hi:i<ns.length):lvl ns i=N↔i<2:=by
 constructor
 ·intro e;refine Nat.lt_of_not_le fun h2=> ?_
  have:=(h.lt i h2 hi).1;omega
 ·intro h2;have:i=0\/i=1:=by omega
  rcases this with rfl|rfl
  ·exact h.lv0
  ·exact h.lv1
def semK (ns:Ns) (α:Nat->Bool):Nat->Nat->Bool
 |0,i=>i==1
 |k+1,i=>if i<2 then i==1 else if α (lvl ns i) then semK ns α k (hig ns i) else semK ns α k (low ns i)
def sem (ns:Ns) (i:Nat) (α:Nat->Bool):Bool:=semK ns α i i
theorem semK_end (ns:Ns)(α:Nat->Bool){i:Nat}(h:i<2):∀ k,semK ns α k i=(i==1)
 |0=>rfl
 |k+1=>by rw[semK,if_pos h]
theorem semK_ge (h:Wf N ns)(α:Nat->Bool):∀ (k i:Nat),i<ns.length->i<=k->semK ns α k i=semK ns α i i:=by
 intro k
 induction k using Nat.strongRecOn with
 |_ k ih=>
  intro i hi hk
  by_cases h2:i<2
  ·rw[semK_end ns α h2,semK_end ns α h2]
  ·obtain⟨i',rfl⟩:∃ i',i=i'+1:=⟨i - 1,by omega⟩;obtain⟨k',rfl⟩:∃ k',k=k'+1:=⟨k - 1,by omega⟩;obtain⟨h3,h4,h5⟩:=h.lt (i'+1) qom hi;rw[semK,semK,if_neg h2,if_neg h2];have a1:=ih k' qom (hig ns (i'+1)) qom qom;have a2:=ih k' qom (low ns (i'+1)) qom qom
   by_cases hk':k'=i'
   ·subst hk';rfl
   ·have b1:=ih i' qom (hig ns (i'+1)) qom qom;have b2:=ih i' qom (low ns (i'+1)) qom qom;rw[a1,a2,b1,b2]
theorem Ee {i:Nat}(α:Nat->Bool)(h:i<2):sem ns i α=(i==1):=semK_end ns α h i
theorem E6 (α:Nat->Bool):sem ns 0 α=false:=rfl
theorem Nx (α:Nat->Bool):sem ns 1 α=true:=rfl
theorem Ef (h:Wf N ns){i:Nat}(h2:2<=i)(hi:i<ns.length)(α:Nat->Bool):sem ns i α=if α (lvl ns i) then sem ns (hig ns i) α else sem ns (low ns i) α:=by
 obtain⟨i',rfl⟩:∃ i',i=i'+1:=⟨i - 1,by omega⟩;obtain⟨h3,h4,h5⟩:=h.lt (i'+1) h2 hi;unfold sem;rw[semK,if_neg qom,semK_ge h α i' _ qom qom,semK_ge h α i' _ qom qom]
def ch (ns:Ns) (i lv:Nat) (v:Bool):Nat:=if lvl ns i=lv then (if v then hig ns i else low ns i) else i
theorem Cc (h:Wf N ns){i lv:Nat}(hi:i<ns.length)(v:Bool):ch ns i lv v<ns.length:=by
 unfold ch
 split
 ·by_cases h2:2<=i
  ·obtain⟨_,h4,h5⟩:=h.lt i h2 hi;cases v<;>simp<;>omega
  ·have:i=0\/i=1:=by omega
   have h3:=h.two;rcases this with rfl|rfl
   ·unfold hig low;rw[h.e0];cases v<;>simp<;>omega
   ·unfold hig low;rw[h.e1];cases v<;>simp<;>omega
 ·exact hi
theorem Ej (h:Wf N ns){i lv:Nat}(hi:i<ns.length)(hl:lv<=lvl ns i)(hN:lv<N)(v:Bool):lv<lvl ns (ch ns i lv v):=by
 unfold ch
 split
 ·rename_i e;have h2:2<=i:=Nat.le_of_not_lt fun h2=>by have:=(h.end hi).2 h2;omega
  have:=h.up i h2 hi;cases v<;>simp<;>omega
 ·omega
theorem Ks (h:Wf N ns){i lv:Nat}(hi:i<ns.length)(hN:lv<N)(α:Nat->Bool):sem ns i α=sem ns (ch ns i lv (α lv)) α:=by
 unfold ch
 split
 ·rename_i e;have h2:2<=i:=Nat.le_of_not_lt fun h2=>by have:=(h.end hi).2 h2;omega
  rw[Ef h h2 hi,e]
  split<;>rfl
 ·rfl
theorem Du (h:Wf N ns):∀ (i:Nat),i<ns.length->∀ (α β:Nat->Bool),(∀ k,lvl ns i<=k->k<N->α k=β k)->sem ns i α=sem ns i β:=by
 intro i
 induction i using Nat.strongRecOn with
 |_ i ih=>
  intro hi α β he
  by_cases h2:2<=i
  ·obtain⟨h3,h4,h5⟩:=h.lt i h2 hi;have hu:=h.up i h2 hi;rw[Ef h h2 hi,Ef h h2 hi,he _ (Nat.le_refl _) h3,ih _ h4 qom α β fun k hk hN=>he k qom hN,ih _ h5 qom α β fun k hk hN=>he k qom hN]
  ·rw[Ee α qom,Ee β qom]
theorem canon (h:Wf N ns):∀ (m i j:Nat),i<m->j<m->i<ns.length->j<ns.length->(∀ α,sem ns i α=sem ns j α)->i=j:=by
 intro m
 induction m with
 |zero=>intro i j hi;omega
 |succ m ih=>
  have key:∀ i j:Nat,i<m+1->j<m+1->i<ns.length->j<ns.length->lvl ns i<lvl ns j->(∀ α,sem ns i α=sem ns j α)->False:=fun i j hi hj hil hjl hlt he=>by
   have hjN:=h.lvN hjl;have h2:2<=i:=Nat.le_of_not_lt fun h2=>by have:=(h.end hil).2 h2;omega
   obtain⟨h3,h4,h5⟩:=h.lt i h2 hil;have hu:=h.up i h2 hil;refine h.ne i h2 hil (ih _ _ qom qom qom qom fun α=> ?_);have set:∀ v:Bool,sem ns i (fun k=>if k=lvl ns i then v else α k)=sem ns (if v then hig ns i else low ns i) α:=fun v=>by
    rw[Ef h h2 hil];simp only[if_true];cases v
    ·simp only[Bool.false_eq_true,if_false];exact Du h _ qom _ _ fun k hk _=>if_neg qom
    ·simp only[if_true];exact Du h _ qom _ _ fun k hk _=>if_neg qom
   have s0:=set false;have s1:=set true;simp only[Bool.false_eq_true,if_false,if_true] at s0 s1;rw[<- s0,<- s1,he,he];exact Du h _ hjl _ _ fun k hk _=>by rw[if_neg qom,if_neg qom]
  intro i j hi hj hil hjl he;rcases Nat.lt_trichotomy (lvl ns i) (lvl ns j) with hlt|heq|hgt
  ·exact(key i j hi hj hil hjl hlt he).elim
  ·by_cases h2:2<=i
   ·have h2j:2<=j:=Nat.le_of_not_lt fun h2j=>by
     have:=(h.end hjl).2 h2j;have:=(h.lt i h2 hil).1;omega
    obtain⟨h3,h4,h5⟩:=h.lt i h2 hil;obtain⟨g3,g4,g5⟩:=h.lt j h2j hjl;have hu:=h.up i h2 hil;have gu:=h.up j h2j hjl;have set:∀ (i:Nat),2<=i->i<ns.length->∀ (v:Bool) (α:Nat->Bool),sem ns i (fun k=>if k=lvl ns i then v else α k)=sem ns (if v then hig ns i else low ns i) α:=fun i h2 hil v α=>by
     have hu:=h.up i h2 hil;obtain⟨h3,h4,h5⟩:=h.lt i h2 hil;rw[Ef h h2 hil];simp only[if_true];cases v
     ·simp only[Bool.false_eq_true,if_false];exact Du h _ qom _ _ fun k hk _=>if_neg qom
     ·simp only[if_true];exact Du h _ qom _ _ fun k hk _=>if_neg qom
    have e:∀ (v:Bool) (α:Nat->Bool),sem ns (if v then hig ns i else low ns i) α=sem ns (if v then hig ns j else low ns j) α:=fun v α=>by
     rw[<- set i h2 hil v α,<- set j h2j hjl v α,heq];exact he _
    have el:=ih (low ns i) (low ns j) qom qom qom qom fun α=>by simpa using e false α
    have eh:=ih (hig ns i) (hig ns j) qom qom qom qom fun α=>by simpa using e true α
    exact h.un i j h2 hil h2j hjl (Prod.ext heq (Prod.ext el eh))
   ·have h2j: ¬ 2<=j:=fun h2j=>by
     have:=(h.end hil).2 qom;have:=(h.lt j h2j hjl).1;omega
    have:=he fun _=>false
    rw[Ee _ qom,Ee _ qom] at this;have hi':i=0\/i=1:=by omega
    have hj':j=0\/j=1:=by omega
    rcases hi' with rfl|rfl<;>rcases hj' with rfl|rfl<;>first|rfl|cases this
  ·exact(key j i hj hi hjl hil hgt fun α=>(he α).symm).elim
theorem sem_inj (h:Wf N ns){i j:Nat}(hi:i<ns.length)(hj:j<ns.length)(he:∀ α,sem ns i α=sem ns j α):i=j:=
 canon h (i+j+1) i j qom qom hi hj he
theorem sem_pre (h:Wf N ns)(h':Wf N ms)(hp:ns<+:ms)(α:Nat->Bool):∀ (i:Nat),i<ns.length->sem ms i α=sem ns i α:=by
 have hl:=hp.length_le;intro i
 induction i using Nat.strongRecOn with
 |_ i ih=>
  intro hi
  by_cases h2:2<=i
  ·obtain⟨h3,h4,h5⟩:=h.lt i h2 hi;rw[Ef h h2 hi,Ef h' h2 qom,F5 hp hi,Jw hp hi,Jv hp hi,ih _ h4 qom,ih _ h5 qom]
  ·rw[Ee α qom,Ee α qom]
end
def fdF (n:Nd):Ns->Nat->Option Nat
 |[],_=>none
 |x::r,k=>if x=n then some k else fdF n r (k+1)
theorem Jx {n:Nd}:∀ {l:Ns} {k i:Nat},fdF n l k=some i->k<=i/\i<k+l.length/\l[i - k]? =some n
 |[],_,_,h=>by cases h
 |x::r,k,i,h=>by
  rw[fdF] at h
  by_cases e:x=n
  ·rw[if_pos e] at h;obtain rfl:=Option.some.inj h;exact⟨Nat.le_refl _,by simp,by simp[e]⟩
  ·rw[if_neg e] at h;obtain⟨h1,h2,h3⟩:=Jx h;refine⟨by omega,by simp only[List.length_cons];omega,?_⟩;rw[show i - k=(i - (k+1))+1 by omega,List.getElem?_cons_succ];exact h3
theorem fdF_none {n:Nd}:∀ {l:Ns} {k:Nat},fdF n l k=none->n∉l
 |[],_,_=>by simp
 |x::r,k,h=>by
  rw[fdF] at h
  by_cases e:x=n
  ·rw[if_pos e] at h;cases h
  ·rw[if_neg e] at h;simp only[List.mem_cons,not_or];exact⟨fun h2=>e h2.symm,fdF_none h⟩
def mkF (most:Nat) (ns:Ns) (lv l h:Nat):Option (Nat × Ns):=
 if l=h then some (l,ns) else
  match fdF (lv,l,h) (ns.drop 2) 2 with
  |some id=>some (id,ns)
  |none=>if ns.length - 2<most then some (ns.length,ns++[(lv,l,h)]) else none
structure Gr (N:Nat) (ns ms:Ns):Prop where
 w:Wf N ms
 p:ns<+:ms
theorem Gr.refl {N:Nat}{ns:Ns}(h:Wf N ns):Gr N ns ns:=⟨h,List.prefix_refl _⟩
theorem Gr.trans {N:Nat}{a b c:Ns}(h:Gr N a b)(g:Gr N b c):Gr N a c:=⟨g.w,h.p.trans g.p⟩
theorem Gr.le {N:Nat}{a b:Ns}(h:Gr N a b):a.length<=b.length:=h.p.length_le
theorem Gr.sem {N:Nat}{a b:Ns}(h:Gr N a b)(ha:Wf N a){i:Nat}(hi:i<a.length)(α:Nat->Bool):sem b i α=sem a i α:=sem_pre ha h.w h.p α i hi
theorem Gr.lvl {N:Nat}{a b:Ns}(h:Gr N a b){i:Nat}(hi:i<a.length):lvl b i=lvl a i:=F5 h.p hi
theorem Gr.ch {N:Nat}{a b:Ns}(h:Gr N a b){i:Nat}(hi:i<a.length)(lv:Nat)(v:Bool):ch b i lv v=ch a i lv v:=by
 unfold YtkgfmjanajdibaaGreat.ch;rw[h.lvl hi,Jw h.p hi,Jv h.p hi]
theorem nd_new (ns:Ns)(n:Nd):nd (ns++[n]) ns.length=n:=by simp[nd,List.getD]
section
variable {N most:Nat} {ns ms:Ns}
theorem wf_new (h:Wf N ns){lv l r:Nat}(hl:l<ns.length)(hr:r<ns.length)(hne:l≠r)(hN:lv<N)(h1:lv<lvl ns l)(h2:lv<lvl ns r)(hn:(lv,l,r)∉ns.drop 2):Wf N (ns++[(lv,l,r)]):=by
 have hp:ns<+:ns++[(lv,l,r)]:=List.prefix_append _ _;have ht:=h.two;have hlen:(ns++[(lv,l,r)]).length=ns.length+1:=by simp
 have hnew:nd (ns++[(lv,l,r)]) ns.length=(lv,l,r):=nd_new ns _;have hmem:∀ i,2<=i->i<ns.length->nd ns i≠(lv,l,r):=fun i hi hil e=>hn (by
  rw[<- e];unfold nd List.getD;rw[List.getElem?_eq_getElem hil];refine List.mem_iff_getElem.2 ⟨i - 2,by rw[List.length_drop];omega,?_⟩;rw[List.getElem_drop];simp only[Option.getD_some]
  congr 1;omega)
 refine⟨by omega,by rw[Gh hp qom];exact h.e0,by rw[Gh hp qom];exact h.e1,fun i hi hil=> ?_,fun i hi hil=> ?_,fun i hi hil=> ?_,fun i j hi hil hj hjl e=> ?_⟩
 ·by_cases e:i<ns.length
  ·rw[F5 hp e,Jv hp e,Jw hp e];exact h.lt i hi e
  ·have:i=ns.length:=by omega
   subst this;unfold lvl low hig;rw[hnew];exact⟨hN,hl,hr⟩
 ·by_cases e:i<ns.length
  ·rw[Jv hp e,Jw hp e];exact h.ne i hi e
  ·have:i=ns.length:=by omega
   subst this;unfold low hig;rw[hnew];exact hne
 ·by_cases e:i<ns.length
  ·obtain⟨_,a1,a2⟩:=h.lt i hi e;rw[Jv hp e,Jw hp e,F5 hp e,F5 hp qom,F5 hp qom];exact h.up i hi e
  ·have:i=ns.length:=by omega
   subst this;have e1:low (ns++[(lv,l,r)]) ns.length=l:=by unfold low;rw[hnew]
   have e2:hig (ns++[(lv,l,r)]) ns.length=r:=by unfold hig;rw[hnew]
   have e3:lvl (ns++[(lv,l,r)]) ns.length=lv:=by unfold lvl;rw[hnew]
   rw[e1,e2,e3,F5 hp hl,F5 hp hr];exact⟨h1,h2⟩
 ·by_cases e1:i<ns.length<;>by_cases e2:j<ns.length
  ·rw[Gh hp e1,Gh hp e2] at e;exact h.un i j hi e1 hj e2 e
  ·have:j=ns.length:=by omega
   subst this;rw[Gh hp e1,hnew] at e;exact(hmem i hi e1 e).elim
  ·have:i=ns.length:=by omega
   subst this;rw[Gh hp e2,hnew] at e;exact(hmem j hj e2 e.symm).elim
  ·omega
structure Is (N:Nat) (ns:Ns) (id lv:Nat) (R:(Nat->Bool)->Bool):Prop where
 lt:id<ns.length
 lv:lv<=lvl ns id
 sem:∀ α,sem ns id α=R α
theorem Is.gr {id lv:Nat}{R:(Nat->Bool)->Bool}(h:Is N ns id lv R)(hw:Wf N ns)(g:Gr N ns ms):Is N ms id lv R:=⟨Nat.lt_of_lt_of_le h.lt g.le,by rw[g.lvl h.lt];exact h.lv,fun α=>by rw[g.sem hw h.lt];exact h.sem α⟩
theorem Fp (h:Wf N ns){lv l r id:Nat}(hl:l<ns.length)(hr:r<ns.length)(hN:lv<N)(h1:lv<lvl ns l)(h2:lv<lvl ns r)(e:mkF most ns lv l r=some (id,ms)):Gr N ns ms/\Is N ms id lv (fun α=>if α lv then sem ns r α else sem ns l α):=by
 unfold mkF at e
 by_cases hlr:l=r
 ·rw[if_pos hlr] at e;obtain⟨rfl,rfl⟩:=Prod.mk.inj (Option.some.inj e);exact⟨.refl h,hl,Nat.le_of_lt h1,fun α=>by subst hlr;simp⟩
 ·rw[if_neg hlr] at e
  split at e
  ·rename_i k hk;obtain⟨rfl,rfl⟩:=Prod.mk.inj (Option.some.inj e);obtain⟨a1,a2,a3⟩:=Jx hk;rw[List.length_drop] at a2;have ht:=h.two;have hil:k<ns.length:=by omega
   have hn:nd ns k=(lv,l,r):=by
    rw[List.getElem?_drop,show 2+(k - 2)=k by omega] at a3;unfold nd List.getD;rw[a3];rfl
   refine⟨.refl h,hil,by unfold lvl;rw[hn];exact Nat.le_refl _,fun α=> ?_⟩;rw[Ef h a1 hil];have e1:lvl ns k=lv:=by unfold lvl;rw[hn]
   have e2:low ns k=l:=by unfold low;rw[hn]
   have e3:hig ns k=r:=by unfold hig;rw[hn]
   rw[e1,e2,e3]
  ·rename_i hk
   split at e
   ·obtain⟨rfl,rfl⟩:=Prod.mk.inj (Option.some.inj e);have hp:ns<+:ns++[(lv,l,r)]:=List.prefix_append _ _;have hw:=wf_new h hl hr hlr hN h1 h2 (fdF_none hk);have ht:=h.two;have hnew:nd (ns++[(lv,l,r)]) ns.length=(lv,l,r):=nd_new ns _;have e1:low (ns++[(lv,l,r)]) ns.length=l:=by unfold low;rw[hnew]
    have e2:hig (ns++[(lv,l,r)]) ns.length=r:=by unfold hig;rw[hnew]
    have e3:lvl (ns++[(lv,l,r)]) ns.length=lv:=by unfold lvl;rw[hnew]
    refine⟨⟨hw,hp⟩,by simp,by rw[e3];exact Nat.le_refl _,fun α=> ?_⟩;rw[Ef hw ht (by simp),e1,e2,e3,sem_pre h hw hp α _ hl,sem_pre h hw hp α _ hr]
   ·cases e
abbrev Kn:=List ((Nat × Nat) × Nat)
def apF (most:Nat) (e:Nat->Nat->Option Nat):Nat->Kn->Ns->Nat->Nat->Option (Nat × Kn × Ns)
 |0,_,_,_,_=>none
 |k+1,kn,ns,a,b=>
  match e a b with
  |some id=>some (id,kn,ns)
  |none=>
   match look kn (a,b) with
   |some id=>some (id,kn,ns)
   |none=>
    match apF most e k kn ns (ch ns a (min (lvl ns a) (lvl ns b)) false) (ch ns b (min (lvl ns a) (lvl ns b)) false) with
    |none=>none
    |some (l,kn1,ns1)=>
     match apF most e k kn1 ns1 (ch ns1 a (min (lvl ns a) (lvl ns b)) true) (ch ns1 b (min (lvl ns a) (lvl ns b)) true) with
     |none=>none
     |some (r,kn2,ns2)=>
      match mkF most ns2 (min (lvl ns a) (lvl ns b)) l r with
      |none=>none
      |some (id,ns3)=>some (id,upsert kn2 (a,b) id,ns3)
structure Ends (N:Nat) (e:Nat->Nat->Option Nat) (op:Bool->Bool->Bool):Prop where
 some:∀ {ns:Ns} {a b id:Nat},Wf N ns->a<ns.length->b<ns.length->e a b=some id->Is N ns id (min (lvl ns a) (lvl ns b)) fun α=>op (sem ns a α) (sem ns b α)
 none:∀ {a b:Nat},a<2->b<2->e a b≠Option.none
def KnOk (N:Nat) (op:Bool->Bool->Bool) (ns:Ns) (kn:Kn):Prop:=∀ a b id,look kn (a,b)=some id->a<ns.length/\b<ns.length/\Is N ns id (min (lvl ns a) (lvl ns b)) fun α=>op (sem ns a α) (sem ns b α)
theorem KnOk.gr {op:Bool->Bool->Bool}{kn:Kn}(h:KnOk N op ns kn)(hw:Wf N ns)(g:Gr N ns ms):KnOk N op ms kn:=fun a b id e=>by
 obtain⟨h1,h2,h3⟩:=h a b id e;refine⟨Nat.lt_of_lt_of_le h1 g.le,Nat.lt_of_lt_of_le h2 g.le,?_⟩;rw[g.lvl h1,g.lvl h2];have h4:=h3.gr hw g;exact⟨h4.lt,h4.lv,fun α=>by rw[h4.sem,g.sem hw h1,g.sem hw h2]⟩
theorem Nl {e:Nat->Nat->Option Nat}{op:Bool->Bool->Bool}(he:Ends N e op):∀ (k:Nat) {kn kn':Kn} {ns ms:Ns} {a b id:Nat},Wf N ns->KnOk N op ns kn->a<ns.length->b<ns.length->apF most e k kn ns a b=some (id,kn',ms)->Gr N ns ms/\KnOk N op ms kn'/\Is N ms id (min (lvl ns a) (lvl ns b)) fun α=>op (sem ns a α) (sem ns b α)
 |0,kn,kn',ns,ms,a,b,id,_,_,_,_,e=>by cases e
 |k+1,kn,kn',ns,ms,a,b,id,hw,hk,ha,hb,h=>by
  rw[apF] at h
  split at h
  ·rename_i id' h1;obtain⟨rfl,h2⟩:=Prod.mk.inj (Option.some.inj h);obtain⟨rfl,rfl⟩:=Prod.mk.inj h2;exact⟨.refl hw,hk,he.some hw ha hb h1⟩
  ·rename_i h0
   split at h
   ·rename_i id' h1;obtain⟨rfl,h2⟩:=Prod.mk.inj (Option.some.inj h);obtain⟨rfl,rfl⟩:=Prod.mk.inj h2;exact⟨.refl hw,hk,(hk a b _ h1).2.2⟩
   ·split at h
    ·cases h
    ·rename_i l kn1 ns1 h1
     split at h
     ·cases h
     ·rename_i r kn2 ns2 h2
      split at h
      ·cases h
      ·rename_i id' ns3 h3;obtain⟨rfl,h4⟩:=Prod.mk.inj (Option.some.inj h);obtain⟨rfl,rfl⟩:=Prod.mk.inj h4;have hm:min (lvl ns a) (lvl ns b)<N:=by
        have h5:=hw.lvN ha;have h6:=hw.lvN hb;refine Nat.lt_of_le_of_ne qom fun e=>he.none ((hw.end ha).1 qom) ((hw.end hb).1 qom) h0
       generalize hlv:min (lvl ns a) (lvl ns b)=lv at *;obtain⟨g1,k1,i1⟩:=Nl he k hw hk (Cc hw ha false) (Cc hw hb false) h1;have ha1:=Nat.lt_of_lt_of_le ha g1.le;have hb1:=Nat.lt_of_lt_of_le hb g1.le;obtain⟨g2,k2,i2⟩:=Nl he k g1.w k1 (Cc g1.w ha1 true) (Cc g1.w hb1 true) h2;have u1:=Ej hw ha (lv:=lv) qom hm false;have u2:=Ej hw hb (lv:=lv) qom hm false;have u3:=Ej g1.w ha1 (lv:=lv) (by rw[g1.lvl ha];omega) hm true;have u4:=Ej g1.w hb1 (lv:=lv) (by rw[g1.lvl hb];omega) hm true;have j1:=i1.gr g1.w g2;obtain⟨g3,i3⟩:=Fp g2.w j1.lt i2.lt hm (by have:=j1.lv;omega) (by have:=i2.lv;omega) h3;have g:=(g1.trans g2).trans g3;have hI:Is N ns3 id' lv fun α=>op (sem ns a α) (sem ns b α):=⟨i3.lt,i3.lv,fun α=>by
        rw[i3.sem,j1.sem,i2.sem,Ks hw ha hm α,Ks hw hb hm α];cases hα:α lv
        ·simp
        ·simp only[if_true];rw[g1.ch ha,g1.ch hb,g1.sem hw (Cc hw ha true),g1.sem hw (Cc hw hb true)]⟩
       refine⟨g,fun a' b' id2 h5=> ?_,hI⟩;rw[Dp] at h5
       split at h5
       ·rename_i e5;obtain⟨rfl,rfl⟩:=Prod.mk.inj e5;obtain rfl:=Option.some.inj h5;refine⟨Nat.lt_of_lt_of_le ha g.le,Nat.lt_of_lt_of_le hb g.le,?_⟩;rw[g.lvl ha,g.lvl hb,hlv];exact⟨hI.lt,hI.lv,fun α=>by rw[hI.sem,g.sem hw ha,g.sem hw hb]⟩
       ·exact(k2.gr g2.w g3) a' b' id2 h5
end
def eOr (a b:Nat):Option Nat:=if a=1\/b=1 then some 1 else if a=0\/a=b then some b else if b=0 then some a else none
def eAnd (a b:Nat):Option Nat:=if a=0\/b=0 then some 0 else if a=1\/a=b then some b else if b=1 then some a else none
def eNot (a _b:Nat):Option Nat:=if a=0 then some 1 else if a=1 then some 0 else none
section
variable {N most:Nat} {ns ms:Ns}
theorem Of (h:Wf N ns){lv:Nat}(hl:lv<=N){R:(Nat->Bool)->Bool}(hR:∀ α,R α=false):Is N ns 0 lv R:=⟨by have:=h.two;omega,by rw[h.lv0];exact hl,fun α=>by rw[hR];rfl⟩
theorem Ob (h:Wf N ns){lv:Nat}(hl:lv<=N){R:(Nat->Bool)->Bool}(hR:∀ α,R α=true):Is N ns 1 lv R:=⟨by have:=h.two;omega,by rw[h.lv1];exact hl,fun α=>by rw[hR];rfl⟩
theorem H6 (h:Wf N ns){a b:Nat}(ha:a<ns.length)(hb:b<ns.length):min (lvl ns a) (lvl ns b)<=N:=by have:=h.lvN ha;omega
theorem E8:Ends N eOr (fun x y=>x||y):=by
 constructor
 ·intro ns a b id h ha hb e;unfold eOr at e
  split at e
  ·rename_i h1;obtain rfl:=Option.some.inj e;refine Ob h (H6 h ha hb) fun α=> ?_
   rcases h1 with rfl|rfl<;>simp[Nx]
  ·split at e
   ·rename_i h1;obtain rfl:=Option.some.inj e;refine⟨hb,Nat.min_le_right _ _,fun α=> ?_⟩;rcases h1 with rfl|rfl<;>simp[E6]
   ·split at e
    ·rename_i h1;obtain rfl:=Option.some.inj e;subst h1;exact⟨ha,Nat.min_le_left _ _,fun α=>by simp[E6]⟩
    ·cases e
 ·intro a b ha hb;unfold eOr;have:(a=0\/a=1):=by omega
  have:(b=0\/b=1):=by omega
  rcases ‹a=0\/a=1› with rfl|rfl<;>rcases ‹b=0\/b=1› with rfl|rfl<;>simp
theorem ends_and:Ends N eAnd (fun x y=>x&&y):=by
 constructor
 ·intro ns a b id h ha hb e;unfold eAnd at e
  split at e
  ·rename_i h1;obtain rfl:=Option.some.inj e;refine Of h (H6 h ha hb) fun α=> ?_
   rcases h1 with rfl|rfl<;>simp[E6]
  ·split at e
   ·rename_i h1;obtain rfl:=Option.some.inj e;refine⟨hb,Nat.min_le_right _ _,fun α=> ?_⟩;rcases h1 with rfl|rfl<;>simp[Nx]
   ·split at e
    ·rename_i h1;obtain rfl:=Option.some.inj e;subst h1;exact⟨ha,Nat.min_le_left _ _,fun α=>by simp[Nx]⟩
    ·cases e
 ·intro a b ha hb;unfold eAnd;have:(a=0\/a=1):=by omega
  have:(b=0\/b=1):=by omega
  rcases ‹a=0\/a=1› with rfl|rfl<;>rcases ‹b=0\/b=1› with rfl|rfl<;>simp
theorem ends_not:Ends N eNot (fun x _=> !x):=by
 constructor
 ·intro ns a b id h ha hb e;unfold eNot at e
  split at e
  ·rename_i h1;obtain rfl:=Option.some.inj e;subst h1;exact Ob h (H6 h ha hb) fun α=>by simp[E6]
  ·split at e
   ·rename_i h1;obtain rfl:=Option.some.inj e;subst h1;exact Of h (H6 h ha hb) fun α=>by simp[Nx]
   ·cases e
 ·intro a b ha hb;unfold eNot;have:(a=0\/a=1):=by omega
  have:(b=0\/b=1):=by omega
  rcases ‹a=0\/a=1› with rfl|rfl<;>rcases ‹b=0\/b=1› with rfl|rfl<;>simp
theorem kn_nil {op:Bool->Bool->Bool}:KnOk N op ns []:=fun a b id h=>by cases h
def apA (most:Nat) (e:Nat->Nat->Option Nat) (ns:Ns) (a b:Nat):Option (Nat × Ns):=(apF most e (lvl ns 0+1) [] ns a b).map fun x=>(x.1,x.2.2)
def orF (most:Nat):=apA most eOr
def andF (most:Nat):=apA most eAnd
def notF (most:Nat) (ns:Ns) (a:Nat):=apA most eNot ns a a
theorem Fq {e:Nat->Nat->Option Nat}{op:Bool->Bool->Bool}(he:Ends N e op){a b id:Nat}(hw:Wf N ns)(ha:a<ns.length)(hb:b<ns.length)(h:apA most e ns a b=some (id,ms)):Gr N ns ms/\Is N ms id (min (lvl ns a) (lvl ns b)) fun α=>op (sem ns a α) (sem ns b α):=by
 unfold apA at h;cases h1:apF most e (lvl ns 0+1) [] ns a b with
 |none=>rw[h1] at h;cases h
 |some x=>
  obtain⟨id',kn',ms'⟩:=x;rw[h1] at h;obtain⟨rfl,rfl⟩:=Prod.mk.inj (Option.some.inj h);obtain⟨g,_,i⟩:=Nl he _ hw kn_nil ha hb h1;exact⟨g,i⟩
def mixA (x z:Nat->Bool) (k:Nat):Bool:=if k % 2=0 then x (k / 2) else z (k / 2)
def evA (α:Nat->Bool) (k:Nat):Bool:=α (2*k)
def odA (α:Nat->Bool) (k:Nat):Bool:=α (2*k+1)
theorem Ku (x z:Nat->Bool){lv:Nat}(h:lv % 2=0):mixA x z lv=x (lv / 2):=by unfold mixA;rw[if_pos h]
theorem Mo (x z:Nat->Bool){lv:Nat}(h:lv % 2=0):mixA x z (lv+1)=z (lv / 2):=by unfold mixA;rw[if_neg qom,show (lv+1) / 2=lv / 2 by omega]
theorem mix_self (α:Nat->Bool):mixA (evA α) (odA α)=α:=by
 funext k
 unfold mixA evA odA
 split
 ·rw[show 2*(k / 2)=k by omega]
 ·rw[show 2*(k / 2)+1=k by omega]
theorem Gi (x z:Nat->Bool):evA (mixA x z)=x:=by
 funext k
 unfold evA;rw[Ku _ _ qom];congr 1;omega
theorem Jj (x z:Nat->Bool):odA (mixA x z)=z:=by
 funext k
 unfold odA;rw[Mo _ _ qom];congr 1;omega
noncomputable def compR (A B:(Nat->Bool)->Bool) (α:Nat->Bool):Bool:= @decide (∃ y,A (mixA (evA α) y)=true/\B (mixA y (odA α))=true) (Classical.propDecidable _)
theorem compR_iff {A B:(Nat->Bool)->Bool}{α:Nat->Bool}:compR A B α=true↔∃ y,A (mixA (evA α) y)=true/\B (mixA y (odA α))=true:=by unfold compR;exact @decide_eq_true_iff _ (Classical.propDecidable _)
def atD (ns:Ns) (id lv:Nat) (x z:Bool):Nat:=ch ns (ch ns id lv x) (lv+1) z
theorem Di (h:Wf N ns){i lv:Nat}(hi:i<ns.length)(x z:Bool):atD ns i lv x z<ns.length:=Cc h (Cc h hi x) z
theorem Ja (h:Wf N ns){i lv:Nat}(hi:i<ns.length)(hl:lv<=lvl ns i)(hN:lv+1<N)(x z:Bool):lv+2<=lvl ns (atD ns i lv x z):=by
 have h1:=Ej h hi hl qom x;exact Ej h (Cc h hi x) (lv:=lv+1) h1 hN z
theorem Jb {i lv:Nat}(h:Wf N ns)(g:Gr N ns ms)(hi:i<ns.length)(x z:Bool):atD ms i lv x z=atD ns i lv x z:=by
 unfold atD;rw[g.ch hi,g.ch (Cc h hi x)]
theorem sem_at (h:Wf N ns){i lv:Nat}(hi:i<ns.length)(hN:lv+1<N)(α:Nat->Bool):sem ns i α=sem ns (atD ns i lv (α lv) (α (lv+1))) α:=by
 rw[Ks h hi (lv:=lv) qom α,Ks h (Cc h hi _) (lv:=lv+1) hN α];rfl
def sqF (most:Nat) (f:Kn->Ns->Nat->Nat->Option (Nat × Kn × Ns)) (kn:Kn) (ns:Ns) (a b lv:Nat) (x z:Bool):Option (Nat × Kn × Ns):=
 match f kn ns (atD ns a lv x false) (atD ns b lv false z) with
 |none=>none
 |some (p,kn1,ns1)=>
  match f kn1 ns1 (atD ns1 a lv x true) (atD ns1 b lv true z) with
  |none=>none
  |some (q,kn2,ns2)=>(orF most ns2 p q).map fun r=>(r.1,kn2,r.2)
def rwF (most:Nat) (f:Kn->Ns->Nat->Nat->Option (Nat × Kn × Ns)) (kn:Kn) (ns:Ns) (a b lv:Nat) (x:Bool):Option (Nat × Kn × Ns):=
 match sqF most f kn ns a b lv x false with
 |none=>none
 |some (p,kn1,ns1)=>
  match sqF most f kn1 ns1 a b lv x true with
  |none=>none
  |some (q,kn2,ns2)=>(mkF most ns2 (lv+1) p q).map fun r=>(r.1,kn2,r.2)
def seF (most:Nat):Nat->Kn->Ns->Nat->Nat->Option (Nat × Kn × Ns)
 |0,_,_,_,_=>none
 |k+1,kn,ns,a,b=>
  if a=0\/b=0 then some (0,kn,ns)
  else if a=1/\b=1 then some (1,kn,ns)
  else match look kn (a,b) with
  |some id=>some (id,kn,ns)
  |none=>
   match rwF most (seF most k) kn ns a b (min (lvl ns a) (lvl ns b) / 2*2) false with
   |none=>none
   |some (p,kn1,ns1)=>
    match rwF most (seF most k) kn1 ns1 a b (min (lvl ns a) (lvl ns b) / 2*2) true with
    |none=>none
    |some (q,kn2,ns2)=>(mkF most ns2 (min (lvl ns a) (lvl ns b) / 2*2) p q).map fun r=>(r.1,upsert kn2 (a,b) r.1,r.2)
def KsOk (N:Nat) (ns:Ns) (kn:Kn):Prop:=∀ a b id,look kn (a,b)=some id->a<ns.length/\b<ns.length/\Is N ns id (min (lvl ns a) (lvl ns b) / 2*2) (compR (sem ns a) (sem ns b))
theorem F6 (hw:Wf N ns)(g:Gr N ns ms){a b:Nat}(ha:a<ns.length)(hb:b<ns.length):compR (sem ms a) (sem ms b)=compR (sem ns a) (sem ns b):=by
 have e1:sem ms a=sem ns a:=funext fun α=>g.sem hw ha α
 have e2:sem ms b=sem ns b:=funext fun α=>g.sem hw hb α
 rw[e1,e2]
theorem KsOk.gr {kn:Kn}(h:KsOk N ns kn)(hw:Wf N ns)(g:Gr N ns ms):KsOk N ms kn:=fun a b id e=>by
 obtain⟨h1,h2,h3⟩:=h a b id e;refine⟨Nat.lt_of_lt_of_le h1 g.le,Nat.lt_of_lt_of_le h2 g.le,?_⟩;rw[g.lvl h1,g.lvl h2,F6 hw g h1 h2];exact h3.gr hw g
def SeOk (N most:Nat) (f:Kn->Ns->Nat->Nat->Option (Nat × Kn × Ns)):Prop:=∀ (kn kn':Kn) (ns ms:Ns) (a b id:Nat),Wf N ns->KsOk N ns kn->a<ns.length->b<ns.length->f kn ns a b=some (id,kn',ms)->Gr N ns ms/\KsOk N ms kn'/\Is N ms id (min (lvl ns a) (lvl ns b) / 2*2) (compR (sem ns a) (sem ns b))
theorem Ls {f:Kn->Ns->Nat->Nat->Option (Nat × Kn × Ns)}(hf:SeOk N most f){kn kn':Kn}{a b lv id:Nat}{x z:Bool}(hw:Wf N ns)(hk:KsOk N ns kn)(ha:a<ns.length)(hb:b<ns.length)(hla:lv<=lvl ns a)(hlb:lv<=lvl ns b)(hev:lv % 2=0)(hN:lv+1<N)(h:sqF most f kn ns a b lv x z=some (id,kn',ms)):
  Gr N ns ms/\KsOk N ms kn'/\Is N ms id (lv+2) fun α=>compR (sem ns (atD ns a lv x false)) (sem ns (atD ns b lv false z)) α||compR (sem ns (atD ns a lv x true)) (sem ns (atD ns b lv true z)) α:=by
 unfold sqF at h
 split at h
 ·cases h
 ·rename_i p kn1 ns1 h1
  split at h
  ·cases h
  ·rename_i q kn2 ns2 h2;obtain⟨g1,k1,i1⟩:=hf _ _ _ _ _ _ _ hw hk (Di hw ha _ _) (Di hw hb _ _) h1;have ha1:=Nat.lt_of_lt_of_le ha g1.le;have hb1:=Nat.lt_of_lt_of_le hb g1.le;obtain⟨g2,k2,i2⟩:=hf _ _ _ _ _ _ _ g1.w k1 (Di g1.w ha1 _ _) (Di g1.w hb1 _ _) h2;have u1:=Ja hw ha hla hN x false;have u2:=Ja hw hb hlb hN false z;have u3:=Ja g1.w ha1 (by rw[g1.lvl ha];exact hla) hN x true;have u4:=Ja g1.w hb1 (by rw[g1.lvl hb];exact hlb) hN true z;cases h3:orF most ns2 p q with
   |none=>rw[h3] at h;cases h
   |some r=>
    obtain⟨id',ms'⟩:=r;rw[h3] at h;obtain⟨rfl,h4⟩:=Prod.mk.inj (Option.some.inj h);obtain⟨rfl,rfl⟩:=Prod.mk.inj h4;have j1:=i1.gr g1.w g2;obtain⟨g3,i3⟩:=Fq E8 g2.w j1.lt i2.lt h3;refine⟨(g1.trans g2).trans g3,k2.gr g2.w g3,i3.lt,?_,fun α=> ?_⟩
    ·have l1:=j1.lv;have l2:=i2.lv;have l3:=i3.lv;show lv+2<=lvl ms' id';omega
    ·rw[i3.sem,j1.sem,i2.sem,Jb hw g1 ha,Jb hw g1 hb,F6 hw g1 (Di hw ha _ _) (Di hw hb _ _)]
theorem Lt {f:Kn->Ns->Nat->Nat->Option (Nat × Kn × Ns)}(hf:SeOk N most f){kn kn':Kn}{a b lv id:Nat}{x:Bool}(hw:Wf N ns)(hk:KsOk N ns kn)(ha:a<ns.length)(hb:b<ns.length)(hla:lv<=lvl ns a)(hlb:lv<=lvl ns b)(hev:lv % 2=0)(hN:lv+1<N)(h:rwF most f kn ns a b lv x=some (id,kn',ms)):
  Gr N ns ms/\KsOk N ms kn'/\Is N ms id (lv+1) fun α=>compR (sem ns (atD ns a lv x false)) (sem ns (atD ns b lv false (α (lv+1)))) α||compR (sem ns (atD ns a lv x true)) (sem ns (atD ns b lv true (α (lv+1)))) α:=by
 unfold rwF at h
 split at h
 ·cases h
 ·rename_i p kn1 ns1 h1
  split at h
  ·cases h
  ·rename_i q kn2 ns2 h2;obtain⟨g1,k1,i1⟩:=Ls hf hw hk ha hb hla hlb hev hN h1;have ha1:=Nat.lt_of_lt_of_le ha g1.le;have hb1:=Nat.lt_of_lt_of_le hb g1.le;obtain⟨g2,k2,i2⟩:=Ls hf g1.w k1 ha1 hb1 (by rw[g1.lvl ha];exact hla) (by rw[g1.lvl hb];exact hlb) hev hN h2;cases h3:mkF most ns2 (lv+1) p q with
   |none=>rw[h3] at h;cases h
   |some r=>
    obtain⟨id',ms'⟩:=r;rw[h3] at h;obtain⟨rfl,h4⟩:=Prod.mk.inj (Option.some.inj h);obtain⟨rfl,rfl⟩:=Prod.mk.inj h4;have j1:=i1.gr g1.w g2;have l1:=j1.lv;have l2:=i2.lv;obtain⟨g3,i3⟩:=Fp g2.w j1.lt i2.lt hN qom qom h3;refine⟨(g1.trans g2).trans g3,k2.gr g2.w g3,i3.lt,i3.lv,fun α=> ?_⟩;rw[i3.sem,j1.sem,i2.sem];cases hα:α (lv+1)
    ·simp
    ·simp only[if_true];rw[Jb hw g1 ha,Jb hw g1 ha,Jb hw g1 hb,Jb hw g1 hb,F6 hw g1 (Di hw ha _ _) (Di hw hb _ _),F6 hw g1 (Di hw ha _ _) (Di hw hb _ _)]
theorem comp_split (hw:Wf N ns){a b lv:Nat}(ha:a<ns.length)(hb:b<ns.length)(hla:lv<=lvl ns a)(hlb:lv<=lvl ns b)(hev:lv % 2=0)(hN:lv+1<N)(α:Nat->Bool):
  compR (sem ns a) (sem ns b) α=(compR (sem ns (atD ns a lv (α lv) false)) (sem ns (atD ns b lv false (α (lv+1)))) α||compR (sem ns (atD ns a lv (α lv) true)) (sem ns (atD ns b lv true (α (lv+1)))) α):=by
 have e1:∀ y,sem ns a (mixA (evA α) y)=sem ns (atD ns a lv (α lv) (y (lv / 2))) (mixA (evA α) y):=fun y=>by
  rw[sem_at hw ha hN,Ku _ _ hev,Mo _ _ hev];unfold evA;rw[show 2*(lv / 2)=lv by omega]
 have e2:∀ y,sem ns b (mixA y (odA α))=sem ns (atD ns b lv (y (lv / 2)) (α (lv+1))) (mixA y (odA α)):=fun y=>by
  rw[sem_at hw hb hN,Ku _ _ hev,Mo _ _ hev];unfold odA;rw[show 2*(lv / 2)+1=lv+1 by omega]
 have set:∀ (v:Bool) (y:Nat->Bool) (k:Nat),lv+2<=k->mixA (evA α) (fun i=>if i=lv / 2 then v else y i) k=mixA (evA α) y k/\mixA (fun i=>if i=lv / 2 then v else y i) (odA α) k=mixA y (odA α) k:=fun v y k hk=>by
  unfold mixA
  constructor<;>split<;>first|rfl|exact if_neg qom
 have half:∀ v:Bool,compR (sem ns (atD ns a lv (α lv) v)) (sem ns (atD ns b lv v (α (lv+1)))) α=true↔∃ y,y (lv / 2)=v/\sem ns a (mixA (evA α) y)=true/\sem ns b (mixA y (odA α))=true:=fun v=>by
  rw[compR_iff]
  constructor
  ·rintro⟨y,h1,h2⟩;refine⟨fun i=>if i=lv / 2 then v else y i,by simp,?_,?_⟩
   ·rw[e1];simp only[if_true];rw[Du hw _ (Di hw ha _ _) _ (mixA (evA α) y) fun k hk _=>(set v y k (Nat.le_trans (Ja hw ha hla hN _ _) hk)).1];exact h1
   ·rw[e2];simp only[if_true];rw[Du hw _ (Di hw hb _ _) _ (mixA y (odA α)) fun k hk _=>(set v y k (Nat.le_trans (Ja hw hb hlb hN _ _) hk)).2];exact h2
  ·rintro⟨y,rfl,h1,h2⟩;rw[e1] at h1;rw[e2] at h2;exact⟨y,h1,h2⟩
 refine Bool.eq_iff_iff.2 ?_;rw[Bool.or_eq_true,half,half,compR_iff]
 constructor
 ·rintro⟨y,h1,h2⟩;cases hy:y (lv / 2)
  ·exact .inl ⟨y,hy,h1,h2⟩
  ·exact .inr ⟨y,hy,h1,h2⟩
 ·rintro(⟨y,_,h1,h2⟩|⟨y,_,h1,h2⟩)<;>exact⟨y,h1,h2⟩
theorem Jy (hNe:N % 2=0):∀ k,SeOk N most (seF most k)
 |0=>fun _ _ _ _ _ _ _ _ _ _ _ e=>by cases e
 |k+1=>fun kn kn' ns ms a b id hw hk ha hb h=>by
  rw[seF] at h;have hmin:=H6 hw ha hb
  split at h
  ·rename_i h0;obtain⟨rfl,h2⟩:=Prod.mk.inj (Option.some.inj h);obtain⟨rfl,rfl⟩:=Prod.mk.inj h2;refine⟨.refl hw,hk,Of hw qom fun α=> ?_⟩;refine Bool.eq_false_iff.2 fun e=> ?_
   obtain⟨y,h1,h2⟩:=compR_iff.1 e;rcases h0 with rfl|rfl
   ·cases h1
   ·cases h2
  ·rename_i h0
   split at h
   ·rename_i h1;obtain⟨rfl,h2⟩:=Prod.mk.inj (Option.some.inj h);obtain⟨rfl,rfl⟩:=Prod.mk.inj h2;obtain⟨rfl,rfl⟩:=h1;exact⟨.refl hw,hk,Ob hw qom fun α=>compR_iff.2 ⟨fun _=>false,rfl,rfl⟩⟩
   ·rename_i h1
    split at h
    ·rename_i id' h2;obtain⟨rfl,h3⟩:=Prod.mk.inj (Option.some.inj h);obtain⟨rfl,rfl⟩:=Prod.mk.inj h3;exact⟨.refl hw,hk,(hk a b _ h2).2.2⟩
    ·split at h
     ·cases h
     ·rename_i p kn1 ns1 h2
      split at h
      ·cases h
      ·rename_i q kn2 ns2 h3;have hm:min (lvl ns a) (lvl ns b)<N:=by
        refine Nat.lt_of_le_of_ne hmin fun e=> ?_
        have a1:=(hw.end ha).1 (by have:=hw.lvN ha;omega);have a2:=(hw.end hb).1 (by have:=hw.lvN hb;omega);omega
       have hla:min (lvl ns a) (lvl ns b) / 2*2<=lvl ns a:=by omega
       have hlb:min (lvl ns a) (lvl ns b) / 2*2<=lvl ns b:=by omega
       have hev:min (lvl ns a) (lvl ns b) / 2*2 % 2=0:=by omega
       have hN:min (lvl ns a) (lvl ns b) / 2*2+1<N:=by omega
       generalize hlv:min (lvl ns a) (lvl ns b) / 2*2=lv at *;obtain⟨g1,k1,i1⟩:=Lt (Jy hNe k) hw hk ha hb hla hlb hev hN h2;have ha1:=Nat.lt_of_lt_of_le ha g1.le;have hb1:=Nat.lt_of_lt_of_le hb g1.le;obtain⟨g2,k2,i2⟩:=Lt (Jy hNe k) g1.w k1 ha1 hb1 (by rw[g1.lvl ha];exact hla) (by rw[g1.lvl hb];exact hlb) hev hN h3;cases h4:mkF most ns2 lv p q with
       |none=>rw[h4] at h;cases h
       |some r=>
        obtain⟨id',ms'⟩:=r;rw[h4] at h;obtain⟨rfl,h5⟩:=Prod.mk.inj (Option.some.inj h);obtain⟨rfl,rfl⟩:=Prod.mk.inj h5;have j1:=i1.gr g1.w g2;have l1:=j1.lv;have l2:=i2.lv;obtain⟨g3,i3⟩:=Fp g2.w j1.lt i2.lt qom qom qom h4;have g:=(g1.trans g2).trans g3;have hI:Is N ms' id' lv (compR (sem ns a) (sem ns b)):=⟨i3.lt,i3.lv,fun α=>by
         rw[i3.sem,j1.sem,i2.sem,comp_split hw ha hb hla hlb hev hN α];cases hα:α lv
         ·simp
         ·simp only[if_true];rw[Jb hw g1 ha,Jb hw g1 ha,Jb hw g1 hb,Jb hw g1 hb,F6 hw g1 (Di hw ha _ _) (Di hw hb _ _),F6 hw g1 (Di hw ha _ _) (Di hw hb _ _)]⟩
        refine⟨g,fun a' b' id2 h6=> ?_,hI⟩;rw[Dp] at h6
        split at h6
        ·rename_i e5;obtain⟨rfl,rfl⟩:=Prod.mk.inj e5;obtain rfl:=Option.some.inj h6;refine⟨Nat.lt_of_lt_of_le ha g.le,Nat.lt_of_lt_of_le hb g.le,?_⟩;rw[g.lvl ha,g.lvl hb,hlv,F6 hw g ha hb];exact hI
        ·exact(k2.gr g2.w g3) a' b' id2 h6
def seA (most:Nat) (ns:Ns) (a b:Nat):Option (Nat × Ns):=(seF most (lvl ns 0+1) [] ns a b).map fun x=>(x.1,x.2.2)
theorem seA_ok (hNe:N % 2=0){a b id:Nat}(hw:Wf N ns)(ha:a<ns.length)(hb:b<ns.length)(h:seA most ns a b=some (id,ms)):Gr N ns ms/\Is N ms id (min (lvl ns a) (lvl ns b) / 2*2) (compR (sem ns a) (sem ns b)):=by
 unfold seA at h;cases h1:seF most (lvl ns 0+1) [] ns a b with
 |none=>rw[h1] at h;cases h
 |some x=>
  obtain⟨id',kn',ms'⟩:=x;rw[h1] at h;obtain⟨rfl,rfl⟩:=Prod.mk.inj (Option.some.inj h);obtain⟨g,_,i⟩:=Jy hNe _ _ _ _ _ _ _ _ hw (fun _ _ _ e=>by cases e) ha hb h1;exact⟨g,i⟩
end
def rlF (most:Nat) (mk vl:Nat->Bool):Nat->Ns->Nat->Option (Nat × Ns)
 |0,ns,id=>some (id,ns)
 |k+1,ns,id=>
  match mkF most ns (2*k+1) id 0 with
  |none=>none
  |some (z,ns1)=>
   match mkF most ns1 (2*k+1) 0 id with
   |none=>none
   |some (o,ns2)=>
    if mk k=false then
     match mkF most ns2 (2*k) z o with
     |none=>none
     |some (id',ns3)=>rlF most mk vl k ns3 id'
    else if vl k=false then rlF most mk vl k ns2 z
    else rlF most mk vl k ns2 o
def stF (most:Nat) (mk vl:Nat->Bool):Nat->Ns->Nat->Option (Nat × Ns)
 |0,ns,id=>some (id,ns)
 |k+1,ns,id=>
  if mk k=false then stF most mk vl k ns id
  else if vl k=false then
   match mkF most ns (2*k) id 0 with
   |none=>none
   |some (id',ns1)=>stF most mk vl k ns1 id'
  else
   match mkF most ns (2*k) 0 id with
   |none=>none
   |some (id',ns1)=>stF most mk vl k ns1 id'
def modR (nb k:Nat) (mk vl:Nat->Bool) (α:Nat->Bool):Bool:=(List.range nb).all fun j=>decide (j<k)||(odA α j==if mk j then vl j else evA α j)
def patR (nb k:Nat) (mk vl:Nat->Bool) (α:Nat->Bool):Bool:=(List.range nb).all fun j=>decide (j<k)||(!mk j||evA α j==vl j)
theorem modR_iff {nb k:Nat}{mk vl α:Nat->Bool}:modR nb k mk vl α=true↔∀ j,k<=j->j<nb->odA α j=if mk j then vl j else evA α j:=by
 unfold modR;rw[List.all_eq_true]
 constructor
 ·intro h j h1 h2;have:=h j (List.mem_range.2 h2);rw[Bool.or_eq_true,decide_eq_true_eq,beq_iff_eq] at this;exact this.resolve_left qom
 ·intro h j hj;rw[Bool.or_eq_true,decide_eq_true_eq,beq_iff_eq]
  by_cases hk:j<k
  ·exact .inl hk
  ·exact .inr (h j qom (List.mem_range.1 hj))
theorem patR_iff {nb k:Nat}{mk vl α:Nat->Bool}:patR nb k mk vl α=true↔∀ j,k<=j->j<nb->mk j=true->evA α j=vl j:=by
 unfold patR;rw[List.all_eq_true]
 constructor
 ·intro h j h1 h2 h3;have:=h j (List.mem_range.2 h2);rw[Bool.or_eq_true,decide_eq_true_eq,Bool.or_eq_true,beq_iff_eq,h3] at this;rcases this with h|h|h
  ·omega
  ·cases h
  ·exact h
 ·intro h j hj;rw[Bool.or_eq_true,decide_eq_true_eq,Bool.or_eq_true,beq_iff_eq]
  by_cases hk:j<k
  ·exact .inl hk
  ·cases hm:mk j
   ·exact .inr (.inl U)
   ·exact .inr (.inr (h j qom (List.mem_range.1 hj) hm))
section
variable {most nb:Nat}
theorem modR_succ {k:Nat}(hk:k<nb)(mk vl α:Nat->Bool):modR nb k mk vl α=((odA α k==if mk k then vl k else evA α k)&&modR nb (k+1) mk vl α):=by
 refine Bool.eq_iff_iff.2 ?_;rw[modR_iff,Bool.and_eq_true,modR_iff,beq_iff_eq]
 constructor
 ·intro h;exact⟨h k (Nat.le_refl _) hk,fun j h1 h2=>h j qom h2⟩
 ·rintro⟨h1,h2⟩ j h3 h4
  by_cases e:j=k
  ·subst e;exact h1
  ·exact h2 j qom h4
theorem patR_succ {k:Nat}(hk:k<nb)(mk vl α:Nat->Bool):patR nb k mk vl α=((!mk k||evA α k==vl k)&&patR nb (k+1) mk vl α):=by
 refine Bool.eq_iff_iff.2 ?_;rw[patR_iff,Bool.and_eq_true,patR_iff,Bool.or_eq_true,beq_iff_eq]
 constructor
 ·intro h;refine⟨?_,fun j h1 h2=>h j qom h2⟩;cases hm:mk k
  ·exact .inl U
  ·exact .inr (h k (Nat.le_refl _) hk hm)
 ·rintro⟨h1,h2⟩ j h3 h4 h5
  by_cases e:j=k
  ·subst e;rw[h5] at h1;exact h1.resolve_left (by simp)
  ·exact h2 j qom h4 h5
theorem Ny (mk vl:Nat->Bool):∀ (k:Nat) {ns ms:Ns} {i id:Nat},k<=nb->Wf (2*nb) ns->Is (2*nb) ns i (2*k) (modR nb k mk vl)->rlF most mk vl k ns i=some (id,ms)->Gr (2*nb) ns ms/\Is (2*nb) ms id 0 (modR nb 0 mk vl)
 |0,ns,ms,i,id,_,hw,hi,h=>by
  obtain⟨rfl,rfl⟩:=Prod.mk.inj (Option.some.inj h);exact⟨.refl hw,hi⟩
 |k+1,ns,ms,i,id,hk,hw,hi,h=>by
  rw[rlF] at h;have ht:=hw.two;have hl:=hi.lv
  split at h
  ·cases h
  ·rename_i z ns1 h1;obtain⟨g1,i1⟩:=Fp hw hi.lt (show 0<ns.length by omega) qom qom (by rw[hw.lv0];omega) h1
   split at h
   ·cases h
   ·rename_i o ns2 h2;have hi1:=hi.gr hw g1;have hl1:=hi1.lv;have ht1:=g1.w.two;obtain⟨g2,i2⟩:=Fp g1.w (show 0<ns1.length by omega) hi1.lt qom (by rw[g1.w.lv0];omega) qom h2;have j1:=i1.gr g1.w g2;have g12:=g1.trans g2;have s1:∀ α,sem ns2 z α=(!odA α k&&modR nb (k+1) mk vl α):=fun α=>by
     rw[j1.sem,E6,hi.sem];show (if odA α k=true then _ else _)=_;cases odA α k<;>simp
    have s2:∀ α,sem ns2 o α=(odA α k&&modR nb (k+1) mk vl α):=fun α=>by
     rw[i2.sem,E6,hi1.sem];show (if odA α k=true then _ else _)=_;cases odA α k<;>simp
    split at h
    ·rename_i hm
     split at h
     ·cases h
     ·rename_i id' ns3 h3;have l1:=j1.lv;have l2:=i2.lv;obtain⟨g3,i3⟩:=Fp g2.w j1.lt i2.lt qom qom qom h3;obtain⟨g4,i4⟩:=Ny mk vl k qom g3.w ⟨i3.lt,i3.lv,fun α=>by
       rw[i3.sem,s1,s2,modR_succ (k:=k) qom,hm];show (if evA α k=true then _ else _)=_;cases evA α k<;>cases odA α k<;>simp⟩ h
      exact⟨(g12.trans g3).trans g4,i4⟩
    ·rename_i hm;have hm:mk k=true:=by simpa using hm
     split at h
     ·rename_i hv;obtain⟨g4,i4⟩:=Ny mk vl k qom g2.w ⟨j1.lt,by have:=j1.lv;omega,fun α=>by
       rw[s1,modR_succ (k:=k) qom,hm,hv];cases odA α k<;>simp⟩ h
      exact⟨g12.trans g4,i4⟩
     ·rename_i hv;have hv:vl k=true:=by simpa using hv
      obtain⟨g4,i4⟩:=Ny mk vl k qom g2.w ⟨i2.lt,by have:=i2.lv;omega,fun α=>by
       rw[s2,modR_succ (k:=k) qom,hm,hv];cases odA α k<;>simp⟩ h
      exact⟨g12.trans g4,i4⟩
theorem Nz (mk vl:Nat->Bool):∀ (k:Nat) {ns ms:Ns} {i id:Nat},k<=nb->Wf (2*nb) ns->Is (2*nb) ns i (2*k) (patR nb k mk vl)->stF most mk vl k ns i=some (id,ms)->Gr (2*nb) ns ms/\Is (2*nb) ms id 0 (patR nb 0 mk vl)
 |0,ns,ms,i,id,_,hw,hi,h=>by
  obtain⟨rfl,rfl⟩:=Prod.mk.inj (Option.some.inj h);exact⟨.refl hw,hi⟩
 |k+1,ns,ms,i,id,hk,hw,hi,h=>by
  rw[stF] at h;have ht:=hw.two;have hl:=hi.lv
  split at h
  ·rename_i hm;exact Nz mk vl k qom hw ⟨hi.lt,by omega,fun α=>by rw[hi.sem,patR_succ (k:=k) qom,hm];simp⟩ h
  ·rename_i hm;have hm:mk k=true:=by simpa using hm
   split at h
   ·rename_i hv
    split at h
    ·cases h
    ·rename_i id' ns1 h1;obtain⟨g1,i1⟩:=Fp hw hi.lt (show 0<ns.length by omega) qom qom (by rw[hw.lv0];omega) h1;obtain⟨g4,i4⟩:=Nz mk vl k qom g1.w ⟨i1.lt,i1.lv,fun α=>by
      rw[i1.sem,E6,hi.sem,patR_succ (k:=k) qom,hm,hv];show (if evA α k=true then _ else _)=_;cases evA α k<;>simp⟩ h
     exact⟨g1.trans g4,i4⟩
   ·rename_i hv;have hv:vl k=true:=by simpa using hv
    split at h
    ·cases h
    ·rename_i id' ns1 h1;obtain⟨g1,i1⟩:=Fp hw (show 0<ns.length by omega) hi.lt qom (by rw[hw.lv0];omega) qom h1;obtain⟨g4,i4⟩:=Nz mk vl k qom g1.w ⟨i1.lt,i1.lv,fun α=>by
      rw[i1.sem,E6,hi.sem,patR_succ (k:=k) qom,hm,hv];show (if evA α k=true then _ else _)=_;cases evA α k<;>simp⟩ h
     exact⟨g1.trans g4,i4⟩
def relF (most nb:Nat) (mk vl:Nat->Bool) (ns:Ns):Option (Nat × Ns):=rlF most mk vl nb ns 1
def setF (most nb:Nat) (mk vl:Nat->Bool) (ns:Ns):Option (Nat × Ns):=stF most mk vl nb ns 1
theorem Lu {mk vl:Nat->Bool}{ns ms:Ns}{id:Nat}(hw:Wf (2*nb) ns)(h:relF most nb mk vl ns=some (id,ms)):Gr (2*nb) ns ms/\Is (2*nb) ms id 0 (modR nb 0 mk vl):=
 Ny mk vl nb (Nat.le_refl _) hw (Ob hw (Nat.le_refl _) fun α=>modR_iff.2 fun j h1 h2=>by omega) h
theorem set_ok {mk vl:Nat->Bool}{ns ms:Ns}{id:Nat}(hw:Wf (2*nb) ns)(h:setF most nb mk vl ns=some (id,ms)):Gr (2*nb) ns ms/\Is (2*nb) ms id 0 (patR nb 0 mk vl):=
 Nz mk vl nb (Nat.le_refl _) hw (Ob hw (Nat.le_refl _) fun α=>patR_iff.2 fun j h1 h2=>by omega) h
inductive Rt (nb:Nat) (A:(Nat->Bool)->Bool):(Nat->Bool)->(Nat->Bool)->Prop
 |base {x z:Nat->Bool} (h:∀ j,j<nb->x j=z j):Rt nb A x z
 |step {x y z:Nat->Bool} (h:A (mixA x y)=true) (t:Rt nb A y z):Rt nb A x z
theorem mix_agree {x x' z z':Nat->Bool}(hx:∀ j,j<nb->x j=x' j)(hz:∀ j,j<nb->z j=z' j):∀ k,0<=k->k<2*nb->mixA x z k=mixA x' z' k:=fun k _ hk=>by
 unfold mixA
 split
 ·exact hx _ qom
 ·exact hz _ qom
theorem Ep {ns:Ns}(hw:Wf (2*nb) ns){i:Nat}(hi:i<ns.length){x x' z z':Nat->Bool}(hx:∀ j,j<nb->x j=x' j)(hz:∀ j,j<nb->z j=z' j):sem ns i (mixA x z)=sem ns i (mixA x' z'):=
 Du hw i hi _ _ fun k hk hN=>mix_agree hx hz k (Nat.zero_le _) hN
theorem Rt.agreeL {A:(Nat->Bool)->Bool}(hA:∀ {x x' z z':Nat->Bool},(∀ j,j<nb->x j=x' j)->(∀ j,j<nb->z j=z' j)->A (mixA x z)=A (mixA x' z')){x x' z:Nat->Bool}(h:Rt nb A x z)(hx:∀ j,j<nb->x j=x' j):Rt nb A x' z:=by
 cases h with
 |base h=>exact .base fun j hj=>(hx j hj).symm.trans (h j hj)
 |step h t=>exact .step (by rw[<- hA hx fun _ _=>rfl];exact h) t
theorem Rt.trans {A:(Nat->Bool)->Bool}(hA:∀ {x x' z z':Nat->Bool},(∀ j,j<nb->x j=x' j)->(∀ j,j<nb->z j=z' j)->A (mixA x z)=A (mixA x' z')){x y z:Nat->Bool}(h:Rt nb A x y)(g:Rt nb A y z):Rt nb A x z:=by
 induction h with
 |base h=>exact g.agreeL hA fun j hj=>(h j hj).symm
 |step h _ ih=>exact .step h (ih g)
structure Stq (nb:Nat) (ns:Ns) (id:Nat) (A:(Nat->Bool)->Bool):Prop where
 lt:id<ns.length
 refl:∀ {x z:Nat->Bool},(∀ j,j<nb->x j=z j)->sem ns id (mixA x z)=true
 base:∀ {x z:Nat->Bool},A (mixA x z)=true->sem ns id (mixA x z)=true
 sub:∀ {x z:Nat->Bool},sem ns id (mixA x z)=true->Rt nb A x z
theorem Stq.gr {ns ms:Ns}{id:Nat}{A:(Nat->Bool)->Bool}(h:Stq nb ns id A)(hw:Wf (2*nb) ns)(g:Gr (2*nb) ns ms):Stq nb ms id A:=⟨Nat.lt_of_lt_of_le h.lt g.le,fun e=>by rw[g.sem hw h.lt];exact h.refl e,fun e=>by rw[g.sem hw h.lt];exact h.base e,fun e=>by rw[g.sem hw h.lt] at e;exact h.sub e⟩
theorem Stq.next {ns ms:Ns}{id id' lv:Nat}{A:(Nat->Bool)->Bool}(hA:∀ {x x' z z':Nat->Bool},(∀ j,j<nb->x j=x' j)->(∀ j,j<nb->z j=z' j)->A (mixA x z)=A (mixA x' z'))(h:Stq nb ns id A)(hi:Is (2*nb) ms id' lv (compR (sem ns id) (sem ns id))):Stq nb ms id' A/\∀ α,sem ns id α=true->sem ms id' α=true:=by
 have key:∀ {x z:Nat->Bool},sem ms id' (mixA x z)=true↔∃ y,sem ns id (mixA x y)=true/\sem ns id (mixA y z)=true:=fun {x z}=>by
  rw[hi.sem,compR_iff,Gi,Jj]
 refine⟨⟨hi.lt,fun {x z} e=>key.2 ⟨x,h.refl fun _ _=>rfl,h.refl e⟩,fun {x z} e=>key.2 ⟨x,h.refl fun _ _=>rfl,h.base e⟩,fun {x z} e=> ?_⟩,fun α e=> ?_⟩
 ·obtain⟨y,h1,h2⟩:=key.1 e;exact(h.sub h1).trans hA (h.sub h2)
 ·rw[<- mix_self α] at e ⊢;exact key.2 ⟨_,h.refl fun _ _=>rfl,e⟩
theorem Stq.done {ns:Ns}{id:Nat}{A:(Nat->Bool)->Bool}(h:Stq nb ns id A)(hf:∀ α,sem ns id α=compR (sem ns id) (sem ns id) α)(x z:Nat->Bool):sem ns id (mixA x z)=true↔Rt nb A x z:=by
 refine⟨h.sub,fun t=> ?_⟩
 induction t with
 |base h1=>exact h.refl h1
 |step h1 _ ih=>
  rw[hf,compR_iff,Gi,Jj];exact⟨_,h.base h1,ih⟩
def srF (most:Nat):Nat->Ns->Nat->Option (Nat × Ns)
 |0,_,_=>none
 |r+1,ns,id=>
  match seA most ns id id with
  |none=>none
  |some (next,ns1)=>if next=id then some (id,ns1) else srF most r ns1 next
def starF (most nb r:Nat) (ns:Ns) (a:Nat):Option (Nat × Ns):=
 match relF most nb (fun _=>false) (fun _=>false) ns with
 |none=>none
 |some (i,ns1)=>
  match orF most ns1 i a with
  |none=>none
  |some (id,ns2)=>srF most r ns2 id
theorem sr_ok {A:(Nat->Bool)->Bool}(hA:∀ {x x' z z':Nat->Bool},(∀ j,j<nb->x j=x' j)->(∀ j,j<nb->z j=z' j)->A (mixA x z)=A (mixA x' z')):∀ (r:Nat) {ns ms:Ns} {i id:Nat},Wf (2*nb) ns->Stq nb ns i A->srF most r ns i=some (id,ms)->Gr (2*nb) ns ms/\id<ms.length/\∀ x z,sem ms id (mixA x z)=true↔Rt nb A x z
 |0,ns,ms,i,id,_,_,h=>by cases h
 |r+1,ns,ms,i,id,hw,hs,h=>by
  rw[srF] at h
  split at h
  ·cases h
  ·rename_i next ns1 h1;obtain⟨g,hi⟩:=seA_ok qom hw hs.lt hs.lt h1
   split at h
   ·rename_i e;obtain⟨rfl,rfl⟩:=Prod.mk.inj (Option.some.inj h);subst e;have hs1:=hs.gr hw g;refine⟨g,hs1.lt,hs1.done fun α=> ?_⟩;rw[hi.sem,F6 hw g hs.lt hs.lt]
   ·obtain⟨hs1,_⟩:=hs.next hA hi;obtain⟨g2,h2⟩:=sr_ok hA r g.w hs1 h;exact⟨g.trans g2,h2⟩
theorem sem_mixes {ns:Ns}(hw:Wf (2*nb) ns){i:Nat}(hi:i<ns.length):∀ {x x' z z':Nat->Bool},(∀ j,j<nb->x j=x' j)->(∀ j,j<nb->z j=z' j)->sem ns i (mixA x z)=sem ns i (mixA x' z'):=fun hx hz=>Ep hw hi hx hz
theorem sta_0 {ns ms ps:Ns}{a i id lv:Nat}(hw:Wf (2*nb) ns)(ha:a<ns.length)(g:Gr (2*nb) ns ms)(hi:Is (2*nb) ms i 0 (modR nb 0 (fun _=>false) (fun _=>false)))(g2:Gr (2*nb) ms ps)(ho:Is (2*nb) ps id lv fun α=>sem ms i α||sem ms a α):Stq nb ps id (sem ns a):=by
 have hr:∀ {x z:Nat->Bool},sem ms i (mixA x z)=true↔∀ j,j<nb->x j=z j:=fun {x z}=>by
  rw[hi.sem,modR_iff,Gi,Jj];exact⟨fun h j hj=>(h j (Nat.zero_le _) hj).symm,fun h j _ hj=>(h j hj).symm⟩
 refine⟨ho.lt,fun {x z} e=> ?_,fun {x z} e=> ?_,fun {x z} e=> ?_⟩
 ·rw[ho.sem,hr.2 e];rfl
 ·rw[ho.sem,g.sem hw ha,e,Bool.or_true]
 ·rw[ho.sem,Bool.or_eq_true,g.sem hw ha,hr] at e;rcases e with e|e
  ·exact .base e
  ·exact .step e (.base fun _ _=>rfl)
theorem star_ok {ns ms:Ns}{a id r:Nat}(hw:Wf (2*nb) ns)(ha:a<ns.length)(h:starF most nb r ns a=some (id,ms)):Gr (2*nb) ns ms/\id<ms.length/\∀ x z,sem ms id (mixA x z)=true↔Rt nb (sem ns a) x z:=by
 unfold starF at h
 split at h
 ·cases h
 ·rename_i i ns1 h1;obtain⟨g1,i1⟩:=Lu hw h1
  split at h
  ·cases h
  ·rename_i o ns2 h2;obtain⟨g2,i2⟩:=Fq E8 g1.w i1.lt (Nat.lt_of_lt_of_le ha g1.le) h2;have hs:=sta_0 hw ha g1 i1 g2 i2;obtain⟨g3,h3⟩:=sr_ok (sem_mixes hw ha) r g2.w hs h;exact⟨(g1.trans g2).trans g3,h3⟩
end
structure Lnk where
 src:Int
 dst:Int
 cap:Int
instance:DecidableEq Lnk:=fun a b=>decidable_of_iff (a.src=b.src/\a.dst=b.dst/\a.cap=b.cap) ⟨fun h=>by cases a;cases b;simp_all,fun h=>by subst h;exact⟨rfl,rfl,rfl⟩⟩
instance:Inhabited Lnk:=⟨⟨0,0,0⟩⟩
structure Hop where
 link:Int
 port:Int
 tag:Int
 step:Int
instance:DecidableEq Hop:=fun a b=>decidable_of_iff (a.link=b.link/\a.port=b.port/\a.tag=b.tag/\a.step=b.step) ⟨fun h=>by cases a;cases b;simp_all,fun h=>by subst h;exact⟨rfl,rfl,rfl,rfl⟩⟩
instance:Inhabited Hop:=⟨⟨0,0,0,0⟩⟩
structure Way where
 src:Int
 links:List Int
 port:Int
 tag:Int
 step:Int
instance:DecidableEq Way:=fun a b=>decidable_of_iff (a.src=b.src/\a.links=b.links/\a.port=b.port/\a.tag=b.tag/\a.step=b.step) ⟨fun h=>by cases a;cases b;simp_all,fun h=>by subst h;exact⟨rfl,rfl,rfl,rfl,rfl⟩⟩
instance:Inhabited Way:=⟨⟨0,[],0,0,0⟩⟩
def gd {α:Type} [Inhabited α] (l:List α) (i:Nat):α:=l.getD i default
theorem Cy {α:Type}[Inhabited α] {l:List α}{i:Nat}(h:i<l.length):l[i]? =some (gd l i):=by simp[gd,List.getD,h]
theorem Ar {α:Type}[Inhabited α] {l:List α}{i:Nat}(h:i<l.length):gd l i=l[i]:=by simp[gd,List.getD,h]
theorem Ax {α:Type}[Inhabited α] {l:List α}{i:Nat}(h:i<l.length):gd l i∈l:=by rw[Ar h];exact List.getElem_mem _
theorem gd_map {α β:Type}[Inhabited α] [Inhabited β] {f:α->β}{l:List α}{k:Nat}(h:k<l.length):gd (l.map f) k=f (gd l k):=by rw[Ar h,Ar (by simpa using h)];simp
section
variable {α:Type} [Inhabited α] {w0:World} {H H':Mm} {q:Option Addr} {sz:Nat} {enc:α->List Value} {l:List α} {i j:Nat} {v:Value}
theorem Arr.b (h:Arr w0 H q sz enc l)(hi:i<l.length):Bas q:=(h i _ (Cy hi)).1
theorem Arr.cs (h:Arr w0 H q sz enc l)(hi:i<l.length):Cells w0 H (bq q) (oq q+i*sz) (enc (gd l i)):=(h i _ (Cy hi)).2
theorem Arr.f0 (h:Arr w0 H q sz enc l)(hi:i<l.length)(hv:nth? (enc (gd l i)) 0=some v):Cell w0 H ⟨bq q,oq q+i*sz,none⟩ v:=h.cs hi 0 v (Lo hv)
end
abbrev encI (x:Int):List Value:=[Vi x]
structure Nod where
 name:ByteArray
 box:Bool
 rules:Int
 entries:Int
instance:Inhabited Nod:=⟨⟨default,false,0,0⟩⟩
structure Edg where
 name:ByteArray
 node:Int
instance:Inhabited Edg:=⟨⟨default,0⟩⟩
structure Wm where
 way:Way
 q:Option Addr
 cap:Nat
instance:Inhabited Wm:=⟨⟨default,none,0⟩⟩
def ofB (g:Nat->Bool):Nat->Nat
 |0=>0
 |k+1=>(if g k then 2 ^ k else 0)+ofB g k
theorem Lv (g:Nat->Bool):∀ k,ofB g k<2 ^ k
 |0=>by simp[ofB]
 |k+1=>by
  have:=Lv g k;rw[ofB,Nat.pow_succ];split<;>omega
theorem Iq (g:Nat->Bool):∀ (k i:Nat),(ofB g k).testBit i=(decide (i<k)&&g i)
 |0,i=>by simp[ofB]
 |k+1,i=>by
  have hl:=Lv g k;rw[ofB]
  by_cases hg:g k
  ·rw[if_pos hg,Nat.add_comm,Nat.testBit_eq_decide_div_mod_eq];rcases Nat.lt_trichotomy i k with h|h|h
   ·have ih:=Iq g k i;rw[Nat.testBit_eq_decide_div_mod_eq] at ih;have e:(ofB g k+2 ^ k) / 2 ^ i % 2=ofB g k / 2 ^ i % 2:=by
     obtain⟨d,rfl⟩:∃ d,k=i+1+d:=⟨k - (i+1),by omega⟩;have:2 ^ (i+1+d)=2 ^ i*(2*2 ^ d):=by rw[Nat.pow_add,Nat.pow_succ,Nat.mul_assoc]
     rw[this,Nat.add_mul_div_left _ _ (Nat.two_pow_pos i)];omega
    rw[e,ih];simp[h,Nat.lt_succ_of_lt h]
   ·subst h;have e:(ofB g i+2 ^ i) / 2 ^ i=1:=by
     rw[Nat.add_div_right _ (Nat.two_pow_pos i),Nat.div_eq_of_lt hl]
    rw[e];simp[hg]
   ·have e:(ofB g k+2 ^ k) / 2 ^ i=0:=by
     apply Nat.div_eq_of_lt;have:2 ^ (k+1)<=2 ^ i:=Nat.pow_le_pow_right qde h;rw[Nat.pow_succ] at this;omega
    rw[e];simp;intro h2;omega
  ·rw[if_neg hg,Nat.zero_add,Iq g k i]
   by_cases h:i<k
   ·simp[h,Nat.lt_succ_of_lt h]
   ·by_cases e:i=k
    ·subst e;simp[hg]
    ·have: ¬ i<k+1:=by omega
     simp[h,this]
abbrev Hd:=List Nat
structure HdOk (h:Hd):Prop where
 len:h.length=10
 lt:∀ w∈h,w<65536
def hbit (h:Hd) (b:Nat):Bool:=(gd h (b / 16)).testBit (15 - b % 16)
theorem Cp {h:Hd}(hk:HdOk h)(i:Nat):gd h i<65536:=by
 by_cases hi:i<h.length
 ·exact hk.lt _ (Ax hi)
 ·unfold gd List.getD;rw[List.getElem?_eq_none qom];decide
theorem word_ext {a b:Nat}(ha:a<65536)(hb:b<65536)(h:∀ i,i<16->a.testBit i=b.testBit i):a=b:=by
 refine Nat.eq_of_testBit_eq fun i=> ?_
 by_cases hi:i<16
 ·exact h i hi
 ·have h1:2 ^ 16<=2 ^ i:=Nat.pow_le_pow_right qde qom;rw[Nat.testBit_lt_two_pow qom,Nat.testBit_lt_two_pow qom]
theorem C5 {g h:Hd}(hg:HdOk g)(hh:HdOk h)(e:∀ b,b<160->hbit g b=hbit h b):g=h:=by
 apply List.ext_getElem (by rw[hg.len,hh.len]);intro i h1 h2;have hi:i<10:=by rw[hg.len] at h1;exact h1
 rw[<- Ar h1,<- Ar h2];refine word_ext (hg.lt _ (Ax h1)) (hh.lt _ (Ax h2)) fun j hj=> ?_
 have:=e (16*i+(15 - j)) qom;unfold hbit at this;rw[show (16*i+(15 - j)) / 16=i by omega,show 15 - (16*i+(15 - j)) % 16=j by omega] at this;exact this
def hdOf (g:Nat->Bool):Hd:=(List.range 10).map fun i=>ofB (fun j=>g (16*i+(15 - j))) 16
theorem Ck (g:Nat->Bool):HdOk (hdOf g):=⟨by simp[hdOf],fun w hw=>by
 obtain⟨i,_,rfl⟩:=List.mem_map.1 hw;exact Lv _ 16⟩
theorem gd_hdOf (g:Nat->Bool){i:Nat}(hi:i<10):gd (hdOf g) i=ofB (fun j=>g (16*i+(15 - j))) 16:=by
 unfold hdOf;rw[gd_map (by simpa using hi),Ar (by simpa using hi)];simp
theorem Br (g:Nat->Bool){b:Nat}(hb:b<160):hbit (hdOf g) b=g b:=by
 unfold hbit;rw[gd_hdOf g qom,Iq,show decide (15 - b % 16<16)=true from decide_eq_true qom,Bool.true_and]
 congr 1;omega
theorem H7 {g g':Nat->Bool}(h:∀ b,b<160->g b=g' b):hdOf g=hdOf g':=C5 (Ck _) (Ck _) fun b hb=>by rw[Br _ hb,Br _ hb,h b hb]
def hput (h:Hd) (b:Nat) (v:Bool):Hd:=hdOf fun k=>if k=b then v else hbit h k
theorem Cm (h:Hd)(b:Nat)(v:Bool):HdOk (hput h b v):=Ck _
theorem Dq (h:Hd)(b:Nat)(v:Bool){k:Nat}(hk:k<160):hbit (hput h b v) k=if k=b then v else hbit h k:=Br _ hk
structure Fd where
 nm:ByteArray
 pos:Nat
 w:Nat
instance:Inhabited Fd:=⟨⟨default,0,0⟩⟩
structure FdOk (f:Fd):Prop where
 w1:1<=f.w
 w16:f.w<=16
 fit:f.pos % 16+f.w<=16
 lt:f.pos<160
def fget (f:Fd) (h:Hd):Nat:=ofB (fun j=>hbit h (f.pos+(f.w - 1 - j))) f.w
def fset (f:Fd) (h:Hd) (n:Nat):Hd:=hdOf fun b=>if f.pos<=b/\b<f.pos+f.w then n.testBit (f.pos+f.w - 1 - b) else hbit h b
theorem Dk (f:Fd)(h:Hd):fget f h<2 ^ f.w:=Lv _ _
theorem FdOk.inw {f:Fd}(hf:FdOk f){j:Nat}(hj:j<f.w):f.pos+j<160/\(f.pos+j) / 16=f.pos / 16/\(f.pos+j) % 16=f.pos % 16+j:=by
 have:=hf.fit;have:=hf.lt;omega
theorem Jz {f:Fd}(hf:FdOk f){h:Hd}(hh:HdOk h):fget f h=gd h (f.pos / 16) / 2 ^ (16 - f.pos % 16 - f.w) % 2 ^ f.w:=by
 refine Nat.eq_of_testBit_eq fun i=> ?_
 have h1:=hf.fit;unfold fget;rw[Iq,Nat.testBit_mod_two_pow,Nat.testBit_div_two_pow]
 by_cases hi:i<f.w
 ·simp only[hi,decide_true,Bool.true_and];obtain⟨h2,h3,h4⟩:=hf.inw (j:=f.w - 1 - i) qom;unfold hbit;rw[h3,h4]
  congr 1;omega
 ·simp[hi]
theorem Dg {f:Fd}{h:Hd}{i:Nat}:(fget f h).testBit i=(decide (i<f.w)&&hbit h (f.pos+(f.w - 1 - i))):=Iq _ _ _
theorem Bz (f:Fd)(h:Hd)(n:Nat):HdOk (fset f h n):=Ck _
theorem Dz {f:Fd}(hf:FdOk f){h:Hd}{n:Nat}(hn:n<2 ^ f.w):fget f (fset f h n)=n:=by
 refine Nat.eq_of_testBit_eq fun i=> ?_
 rw[Dg]
 by_cases hi:i<f.w
 ·simp only[hi,decide_true,Bool.true_and];unfold fset;rw[Br _ (hf.inw (j:=f.w - 1 - i) qom).1,if_pos qom]
  congr 1;omega
 ·simp only[hi,decide_false,Bool.false_and];have:2 ^ f.w<=2 ^ i:=Nat.pow_le_pow_right qde qom;rw[Nat.testBit_lt_two_pow qom]
theorem fset_word {f:Fd}(hf:FdOk f){h:Hd}(hh:HdOk h){n:Nat}(hn:n<2 ^ f.w):fset f h n=h.set (f.pos / 16) (gd h (f.pos / 16) - fget f h*2 ^ (16 - f.pos % 16 - f.w)+n*2 ^ (16 - f.pos % 16 - f.w)):=by
 have h1:=hf.fit;have h2:=hf.lt;have hp:f.pos / 16<h.length:=by rw[hh.len];omega
 generalize hs:16 - f.pos % 16 - f.w=s;have hw:gd h (f.pos / 16)<65536:=hh.lt _ (Ax hp);have hle:fget f h*2 ^ s<=gd h (f.pos / 16):=by
  rw[Jz hf hh,hs];have:=Nat.div_add_mod (gd h (f.pos / 16) / 2 ^ s) (2 ^ f.w);have h3:=Nat.div_mul_le_self (gd h (f.pos / 16)) (2 ^ s);have h4:gd h (f.pos / 16) / 2 ^ s % 2 ^ f.w<=gd h (f.pos / 16) / 2 ^ s:=Nat.mod_le _ _;exact Nat.le_trans (Nat.mul_le_mul_right _ h4) h3
 -- the word splits in three
 generalize hW:gd h (f.pos / 16)=W at *;have hg:fget f h=W / 2 ^ s % 2 ^ f.w:=by rw[Jz hf hh,hs,hW]
 have hsplit:W=W / 2 ^ (s+f.w)*2 ^ (s+f.w)+fget f h*2 ^ s+W % 2 ^ s:=by
  rw[hg];have a1:=Nat.div_add_mod W (2 ^ s);have a2:=Nat.div_add_mod (W / 2 ^ s) (2 ^ f.w);rw[Nat.div_div_eq_div_mul,<- Nat.pow_add] at a2;have a3:W / 2 ^ (s+f.w)*2 ^ (s+f.w)=2 ^ s*(2 ^ f.w*(W / 2 ^ (s+f.w))):=by
   rw[Nat.pow_add]
   generalize W / (2 ^ s*2 ^ f.w)=q;rw[Nat.mul_comm q,Nat.mul_assoc]
  have a4:2 ^ s*(W / 2 ^ s)=2 ^ s*(2 ^ f.w*(W / 2 ^ (s+f.w)))+W / 2 ^ s % 2 ^ f.w*2 ^ s:=by
   conv=>lhs;rw[<- a2]
   rw[Nat.mul_add,Nat.mul_comm (2 ^ s) (W / 2 ^ s % 2 ^ f.w)]
  omega
 have hnew:W - fget f h*2 ^ s+n*2 ^ s=2 ^ s*(2 ^ f.w*(W / 2 ^ (s+f.w))+n)+W % 2 ^ s:=by
  have a3:W / 2 ^ (s+f.w)*2 ^ (s+f.w)=2 ^ s*(2 ^ f.w*(W / 2 ^ (s+f.w))):=by
   rw[Nat.pow_add]
   generalize W / (2 ^ s*2 ^ f.w)=q;rw[Nat.mul_comm q,Nat.mul_assoc]
  rw[Nat.mul_add,Nat.mul_comm (2 ^ s) n];omega
 have hbitN:∀ i,(W - fget f h*2 ^ s+n*2 ^ s).testBit i=if s<=i/\i<s+f.w then n.testBit (i - s) else W.testBit i:=fun i=>by
  rw[hnew,Nat.testBit_two_pow_mul_add _ (Nat.mod_lt _ (Nat.two_pow_pos s)),Nat.testBit_two_pow_mul_add _ hn]
  by_cases c1:i<s
  ·rw[if_pos c1,if_neg qom,Nat.testBit_mod_two_pow];simp[c1]
  ·rw[if_neg c1]
   by_cases c2:i - s<f.w
   ·rw[if_pos c2,if_pos qom]
   ·rw[if_neg c2,if_neg qom,Nat.testBit_div_two_pow]
    congr 1;omega
 have hlt:W - fget f h*2 ^ s+n*2 ^ s<65536:=by
  refine Nat.lt_pow_two_of_testBit (n:=16) _ fun i hi=> ?_
  rw[hbitN i,if_neg qom];exact Nat.testBit_lt_two_pow (Nat.lt_of_lt_of_le hw (by show 2 ^ 16<=2 ^ i;exact Nat.pow_le_pow_right qde hi))
 have hset:HdOk (h.set (f.pos / 16) (W - fget f h*2 ^ s+n*2 ^ s)):=⟨by rw[List.length_set];exact hh.len,fun w hw'=>by
  rcases List.mem_or_eq_of_mem_set hw' with h5|rfl
  ·exact hh.lt _ h5
  ·exact hlt⟩
 refine C5 (Bz _ _ _) hset fun b hb=> ?_
 unfold fset;rw[Br _ hb];unfold hbit
 by_cases c:b / 16=f.pos / 16
 ·have e:gd (h.set (f.pos / 16) (W - fget f h*2 ^ s+n*2 ^ s)) (b / 16)=W - fget f h*2 ^ s+n*2 ^ s:=by
   rw[c,Ar (by rw[List.length_set];exact hp),List.getElem_set_self]
  rw[e,hbitN]
  by_cases c2:f.pos<=b/\b<f.pos+f.w
  ·rw[if_pos c2,if_pos qom]
   congr 1;omega
  ·rw[if_neg c2,if_neg qom,c,hW]
 ·have e:gd (h.set (f.pos / 16) (W - fget f h*2 ^ s+n*2 ^ s)) (b / 16)=gd h (b / 16):=by
   unfold gd List.getD;rw[List.getElem?_set_ne qom]
  rw[e,if_neg qom]
inductive Pd
 |tru
 |fls
 |eq (f:Fd) (n:Nat)
 |pre (f:Fd) (n m:Nat)
 |rng (f:Fd) (n m:Nat)
 |no (a:Pd)
 |and (a b:Pd)
 |or (a b:Pd)
 |time (n m:Int)
inductive Po
 |fil (p:Pd)
 |set (f:Fd) (n:Nat)
 |uni (a b:Po)
 |seq (a b:Po)
 |star (a:Po)
def holdsP (tick:Int):Pd->Hd->Bool
 | .tru,_=>true
 | .fls,_=>false
 | .eq f n,h=>fget f h==n
 | .pre f n m,h=>fget f h / 2 ^ (f.w - m)==n / 2 ^ (f.w - m)
 | .rng f n m,h=>decide (n<=fget f h)&&decide (fget f h<=m)
 | .no a,h=> !holdsP tick a h
 | .and a b,h=>holdsP tick a h&&holdsP tick b h
 | .or a b,h=>holdsP tick a h||holdsP tick b h
 | .time n m,_=>decide (n<=tick)&&decide (tick<m)
inductive Cl' (D:Hd->Hd->Prop):Hd->Hd->Prop
 |base (h:Hd):Cl' D h h
 |step {h m g:Hd} (a:D h m) (t:Cl' D m g):Cl' D h g
def den (tick:Int):Po->Hd->Hd->Prop
 | .fil p,h,g=>g=h/\holdsP tick p h=true
 | .set f n,h,g=>g=fset f h n
 | .uni a b,h,g=>den tick a h g\/den tick b h g
 | .seq a b,h,g=>∃ m,den tick a h m/\den tick b m g
 | .star a,h,g=>Cl' (den tick a) h g
structure BsOk (bs:List Nat):Prop where
 lt:∀ b∈bs,b<160
 up:bs.Pairwise (· < ·)
structure FIn (bs:List Nat) (f:Fd):Prop where
 ok:FdOk f
 mem:∀ j,j<f.w->f.pos+j∈bs
def Pd.Fit (bs:List Nat):Pd->Prop
 | .tru=>True
 | .fls=>True
 | .eq f n=>FIn bs f/\n<2 ^ f.w
 | .pre f n m=>FIn bs f/\n<2 ^ f.w/\m<=f.w
 | .rng f n m=>FIn bs f/\n<=m/\m<2 ^ f.w
 | .no a=>a.Fit bs
 | .and a b=>a.Fit bs/\b.Fit bs
 | .or a b=>a.Fit bs/\b.Fit bs
 | .time _ _=>True
def Po.Fit (bs:List Nat):Po->Prop
 | .fil p=>p.Fit bs
 | .set f n=>FIn bs f/\n<2 ^ f.w
 | .uni a b=>a.Fit bs/\b.Fit bs
 | .seq a b=>a.Fit bs/\b.Fit bs
 | .star a=>a.Fit bs
def Out (bs:List Nat) (h g:Hd):Prop:=∀ b,b<160->b∉bs->hbit h b=hbit g b
def xh (bs:List Nat) (h:Hd) (k:Nat):Bool:=hbit h (gd bs k)
section
variable {bs:List Nat}
theorem Out.refl (h:Hd):Out bs h h:=fun _ _ _=>rfl
theorem Out.symm {h g:Hd}(o:Out bs h g):Out bs g h:=fun b h1 h2=>(o b h1 h2).symm
theorem Out.trans {h m g:Hd}(o:Out bs h m)(p:Out bs m g):Out bs h g:=fun b h1 h2=>(o b h1 h2).trans (p b h1 h2)
theorem out_fset {f:Fd}(hf:FIn bs f)(h:Hd)(n:Nat):Out bs h (fset f h n):=fun b hb hn=>by
 unfold fset;rw[Br _ hb,if_neg];rintro⟨h1,h2⟩;exact hn (by have:=hf.mem (b - f.pos) qom;rwa [show f.pos+(b - f.pos)=b by omega] at this)
theorem cl_out {D:Hd->Hd->Prop}(hD:∀ {h g},HdOk h->D h g->HdOk g/\Out bs h g){h g:Hd}(d:Cl' D h g):HdOk h->HdOk g/\Out bs h g:=by
 induction d with
 |base h=>exact fun hh=>⟨hh, .refl _⟩
 |step d1 _ ih=>
  intro hh;obtain⟨h1,o1⟩:=hD hh d1;obtain⟨h2,o2⟩:=ih h1;exact⟨h2,o1.trans o2⟩
theorem Dv {tick:Int}:∀ {p:Po} {h g:Hd},p.Fit bs->HdOk h->den tick p h g->HdOk g/\Out bs h g
 | .fil p,h,g,_,hh,d=>by obtain⟨rfl,_⟩:=d;exact⟨hh, .refl _⟩
 | .set f n,h,g,hf,hh,d=>by
  have:g=fset f h n:=d;subst this;exact⟨Bz _ _ _,out_fset hf.1 _ _⟩
 | .uni a b,h,g,hf,hh,d=>by
  rcases d with d|d
  ·exact Dv hf.1 hh d
  ·exact Dv hf.2 hh d
 | .seq a b,h,g,hf,hh,d=>by
  obtain⟨m,d1,d2⟩:=d;obtain⟨h1,o1⟩:=Dv hf.1 hh d1;obtain⟨h2,o2⟩:=Dv hf.2 h1 d2;exact⟨h2,o1.trans o2⟩
 | .star a,h,g,hf,hh,d=>cl_out (fun hh d=>Dv (p:=a) hf hh d) d hh
theorem bs_idx (hb:BsOk bs){b:Nat}(h:b∈bs):∃ k,k<bs.length/\gd bs k=b:=by
 obtain⟨k,hk,rfl⟩:=List.getElem_of_mem h;exact⟨k,hk,Ar hk⟩
theorem Jk (hb:BsOk bs){j k:Nat}(hj:j<bs.length)(hk:k<bs.length)(e:gd bs j=gd bs k):j=k:=by
 rw[Ar hj,Ar hk] at e;rcases Nat.lt_trichotomy j k with h|h|h
 ·have:=List.pairwise_iff_getElem.1 hb.up j k hj hk h;omega
 ·exact h
 ·have:=List.pairwise_iff_getElem.1 hb.up k j hk hj h;omega
theorem Ek (hb:BsOk bs){k:Nat}(hk:k<bs.length):gd bs k<160:=hb.lt _ (Ax hk)
theorem Ir (hb:BsOk bs)(h:Hd)(y:Nat->Bool):∃ g,HdOk g/\Out bs h g/\∀ k,k<bs.length->xh bs g k=y k:=by
 refine⟨hdOf fun b=>if b∈bs then y (bs.idxOf b) else hbit h b,Ck _,fun b h1 h2=> ?_,fun k hk=> ?_⟩
 ·rw[Br _ h1,if_neg h2]
 ·unfold xh;rw[Br _ (Ek hb hk),if_pos (Ax hk)];have hi:bs.idxOf (gd bs k)<bs.length:=List.idxOf_lt_length_iff.2 (Ax hk)
  congr 1
  refine Jk hb hi hk ?_;rw[Ar hi,List.getElem_idxOf]
theorem Mp (hb:BsOk bs){h g:Hd}(hh:HdOk h)(hg:HdOk g)(o:Out bs h g)(e:∀ k,k<bs.length->xh bs h k=xh bs g k):h=g:=C5 hh hg fun b h1=>by
 by_cases h2:b∈bs
 ·obtain⟨k,hk,rfl⟩:=bs_idx hb h2;exact e k hk
 ·exact o b h1 h2
def Rep (bs:List Nat) (ns:Ns) (id:Nat) (D:Hd->Hd->Prop):Prop:=∀ h g,HdOk h->HdOk g->Out bs h g->(sem ns id (mixA (xh bs h) (xh bs g))=true↔D h g)
def RepS (bs:List Nat) (ns:Ns) (id:Nat) (T:Hd->Bool):Prop:=∀ h z,HdOk h->sem ns id (mixA (xh bs h) z)=T h
def mkP (f:Fd) (m b:Nat):Bool:=decide (f.pos<=b)&&decide (b<f.pos+m)
def vlP (f:Fd) (n m b:Nat):Bool:=mkP f m b&&n.testBit (f.pos+f.w - 1 - b)
def setPF (most:Nat) (bs:List Nat) (f:Fd) (n m:Nat) (ns:Ns):Option (Nat × Ns):=setF most bs.length (fun k=>mkP f m (gd bs k)) (fun k=>vlP f n m (gd bs k)) ns
def relPF (most:Nat) (bs:List Nat) (f:Fd) (n:Nat) (ns:Ns):Option (Nat × Ns):=relF most bs.length (fun k=>mkP f f.w (gd bs k)) (fun k=>vlP f n f.w (gd bs k)) ns
variable {most:Nat} {ns ms:Ns} {id:Nat}
theorem div_bits {a b k:Nat}:a / 2 ^ k=b / 2 ^ k↔∀ i,k<=i->a.testBit i=b.testBit i:=by
 constructor
 ·intro h i hi;have:=congrArg (fun x=>x.testBit (i - k)) h;simp only[Nat.testBit_div_two_pow] at this
  rwa [show i - k+k=i by omega] at this
 ·intro h;refine Nat.eq_of_testBit_eq fun i=> ?_
  rw[Nat.testBit_div_two_pow,Nat.testBit_div_two_pow];exact h _ qom
theorem setP_ok (hb:BsOk bs){f:Fd}(hf:FIn bs f){n m:Nat}(hm:m<=f.w)(hn:n<2 ^ f.w)(hw:Wf (2*bs.length) ns)(h:setPF most bs f n m ns=some (id,ms)):Gr (2*bs.length) ns ms/\id<ms.length/\RepS bs ms id fun h=>fget f h / 2 ^ (f.w - m)==n / 2 ^ (f.w - m):=by
 obtain⟨g,i⟩:=set_ok hw h;refine⟨g,i.lt,fun h z hh=> ?_⟩;rw[i.sem];refine Bool.eq_iff_iff.2 ?_;rw[patR_iff,beq_iff_eq,div_bits]
 constructor
 ·intro e i hi
  by_cases hw2:i<f.w
  ·obtain⟨k,hk,ek⟩:=bs_idx hb (hf.mem (f.w - 1 - i) qom);have:=e k (Nat.zero_le _) hk (by rw[ek];unfold mkP;simp;omega);rw[Gi] at this;unfold xh vlP mkP at this;rw[ek] at this;rw[Dg,this];have e1:decide (f.pos+(f.w - 1 - i)<f.pos+m)=true:=decide_eq_true qom;have e2:f.pos+f.w - 1 - (f.pos+(f.w - 1 - i))=i:=by omega
   rw[e1,e2];simp[hw2]
  ·have h1:2 ^ f.w<=2 ^ i:=Nat.pow_le_pow_right qde qom;have h2:=Dk f h;rw[Nat.testBit_lt_two_pow qom,Nat.testBit_lt_two_pow qom]
 ·intro e k _ hk hmk;rw[Gi];unfold mkP at hmk;simp only[Bool.and_eq_true,decide_eq_true_eq] at hmk;have:=e (f.pos+f.w - 1 - gd bs k) qom;rw[Dg] at this;have e2:f.pos+(f.w - 1 - (f.pos+f.w - 1 - gd bs k))=gd bs k:=by omega
  rw[e2,decide_eq_true (show f.pos+f.w - 1 - gd bs k<f.w by omega),Bool.true_and] at this;unfold xh vlP mkP;rw[this,decide_eq_true hmk.1,decide_eq_true hmk.2]
  rfl
theorem relP_ok (hb:BsOk bs){f:Fd}(hf:FIn bs f){n:Nat}(hw:Wf (2*bs.length) ns)(h:relPF most bs f n ns=some (id,ms)):Gr (2*bs.length) ns ms/\id<ms.length/\Rep bs ms id fun h g=>g=fset f h n:=by
 obtain⟨gr,i⟩:=Lu hw h;refine⟨gr,i.lt,fun h g hh hg o=> ?_⟩;rw[i.sem,modR_iff]
 constructor
 ·intro e;refine Mp hb hg (Bz _ _ _) (o.symm.trans (out_fset hf h n)) fun k hk=> ?_
  have:=e k (Nat.zero_le _) hk;rw[Jj,Gi] at this;rw[this];unfold xh fset vlP mkP;rw[Br _ (Ek hb hk)]
  by_cases c:f.pos<=gd bs k/\gd bs k<f.pos+f.w
  ·rw[if_pos c,decide_eq_true c.1,decide_eq_true c.2];simp
  ·rw[if_neg c,if_neg (by simpa using c)]
 ·rintro rfl k _ hk;rw[Jj,Gi];unfold xh fset vlP mkP;rw[Br _ (Ek hb hk)]
  by_cases c:f.pos<=gd bs k/\gd bs k<f.pos+f.w
  ·rw[if_pos c,decide_eq_true c.1,decide_eq_true c.2];simp
  ·rw[if_neg c,if_neg (by simpa using c)]
def frF (w l h:Nat):Nat->Nat->Nat
 |0,k=>k
 |n+1,k=>if k<w/\l % 2 ^ (k+1)=0/\l+2 ^ (k+1) - 1<=h then frF w l h n (k+1) else k
def rgF (w h:Nat):Nat->Nat->List (Nat × Nat)
 |0,_=>[]
 |n+1,l=>if l<=h then (l,w - frF w l h (w+1) 0)::rgF w h n (l+2 ^ frF w l h (w+1) 0) else []
theorem frF_ok {w l h:Nat}:∀ (n k:Nat),l % 2 ^ k=0->l+2 ^ k - 1<=h->k<=w->l % 2 ^ frF w l h n k=0/\l+2 ^ frF w l h n k - 1<=h/\frF w l h n k<=w
 |0,k,h1,h2,h3=>⟨h1,h2,h3⟩
 |n+1,k,h1,h2,h3=>by
  rw[frF]
  split
  ·rename_i c;exact frF_ok n (k+1) c.2.1 c.2.2 qom
  ·exact⟨h1,h2,h3⟩
theorem block {l k v:Nat}(h:l % 2 ^ k=0):v / 2 ^ k=l / 2 ^ k↔l<=v/\v<l+2 ^ k:=by
 have hp:=Nat.two_pow_pos k;have e:=Nat.div_add_mod l (2 ^ k);rw[h,Nat.add_zero] at e
 generalize hq:l / 2 ^ k=q at *;rw[Nat.div_eq_iff hp];rw[<- e,Nat.mul_comm];omega
theorem rgF_mem {w h:Nat}:∀ (n l v:Nat),h+1<=l+n->((rgF w h n l).any fun x=>v / 2 ^ (w - x.2)==x.1 / 2 ^ (w - x.2))=(decide (l<=v)&&decide (v<=h))
 |0,l,v,hn=>by
  simp only[rgF,List.any_nil];have: ¬ (l<=v/\v<=h):=by omega
  simp;omega
 |n+1,l,v,hn=>by
  rw[rgF]
  split
  ·rename_i hl;obtain⟨h1,h2,h3⟩:=frF_ok (w:=w) (l:=l) (h:=h) (w+1) 0 (by simp[Nat.mod_one]) (by simpa using hl) (Nat.zero_le _)
   generalize frF w l h (w+1) 0=k at *;have hp:=Nat.two_pow_pos k;rw[List.any_cons,rgF_mem n (l+2 ^ k) v qom];have e:(v / 2 ^ (w - (w - k))==l / 2 ^ (w - (w - k)))=(decide (l<=v)&&decide (v<l+2 ^ k)):=by
    rw[show w - (w - k)=k by omega];refine Bool.eq_iff_iff.2 ?_;rw[beq_iff_eq,block h1];simp
   rw[e];refine Bool.eq_iff_iff.2 ?_;simp only[Bool.or_eq_true,Bool.and_eq_true,decide_eq_true_eq];omega
  ·simp;omega
theorem rgF_all {w h:Nat}(hh:h<2 ^ w):∀ (n l:Nat),∀ x∈rgF w h n l,x.1<2 ^ w/\x.2<=w
 |0,l=>by simp[rgF]
 |n+1,l=>by
  rw[rgF]
  split
  ·intro x hx;rcases List.mem_cons.1 hx with rfl|hx
   ·exact⟨by show l<2 ^ w;omega,by show w - _<=w;omega⟩
   ·exact rgF_all hh n _ x hx
  ·simp
def rnF (most:Nat) (bs:List Nat) (f:Fd):List (Nat × Nat)->Ns->Nat->Option (Nat × Ns)
 |[],ns,id=>some (id,ns)
 |x::l,ns,id=>
  match setPF most bs f x.1 x.2 ns with
  |none=>none
  |some (s,ns1)=>
   match orF most ns1 id s with
   |none=>none
   |some (id',ns2)=>rnF most bs f l ns2 id'
theorem RepS.gr {T:Hd->Bool}{N:Nat}(h:RepS bs ns id T)(hw:Wf N ns)(hi:id<ns.length)(g:Gr N ns ms):RepS bs ms id T:=fun x z hx=>by rw[g.sem hw hi];exact h x z hx
theorem Rep.gr {D:Hd->Hd->Prop}{N:Nat}(h:Rep bs ns id D)(hw:Wf N ns)(hi:id<ns.length)(g:Gr N ns ms):Rep bs ms id D:=fun x y hx hy o=>by rw[g.sem hw hi];exact h x y hx hy o
theorem rn_ok (hb:BsOk bs){f:Fd}(hf:FIn bs f):∀ (l:List (Nat × Nat)) {ns ms:Ns} {i id:Nat} {T:Hd->Bool},(∀ x∈l,x.1<2 ^ f.w/\x.2<=f.w)->Wf (2*bs.length) ns->i<ns.length->RepS bs ns i T->rnF most bs f l ns i=some (id,ms)->Gr (2*bs.length) ns ms/\id<ms.length/\RepS bs ms id fun h=>T h||l.any fun x=>fget f h / 2 ^ (f.w - x.2)==x.1 / 2 ^ (f.w - x.2)
 |[],ns,ms,i,id,T,_,hw,hi,hr,h=>by
  obtain⟨rfl,rfl⟩:=Prod.mk.inj (Option.some.inj h);exact⟨.refl hw,hi,fun x z hx=>by rw[hr x z hx];simp⟩
 |x::l,ns,ms,i,id,T,hx,hw,hi,hr,h=>by
  rw[rnF] at h
  split at h
  ·cases h
  ·rename_i s ns1 h1;obtain⟨g1,l1,r1⟩:=setP_ok hb hf (hx x (by simp)).2 (hx x (by simp)).1 hw h1
   split at h
   ·cases h
   ·rename_i id' ns2 h2;have hi1:=Nat.lt_of_lt_of_le hi g1.le;obtain⟨g2,i2⟩:=Fq E8 g1.w hi1 l1 h2;have r2:RepS bs ns2 id' fun h=>T h||(fget f h / 2 ^ (f.w - x.2)==x.1 / 2 ^ (f.w - x.2)):=fun y z hy=>by
     rw[i2.sem,r1 y z hy,hr.gr hw hi g1 y z hy]
    obtain⟨g3,l3,r3⟩:=rn_ok hb hf l (fun y hy=>hx y (by simp[hy])) g2.w i2.lt r2 h;exact⟨(g1.trans g2).trans g3,l3,fun y z hy=>by
     have:=r3 y z hy;simp only[List.any_cons,<- Bool.or_assoc];exact this⟩
def truF (most:Nat) (bs:List Nat) (tick:Int):Pd->Ns->Option (Nat × Ns)
 | .tru,ns=>some (1,ns)
 | .fls,ns=>some (0,ns)
 | .eq f n,ns=>setPF most bs f n f.w ns
 | .pre f n m,ns=>setPF most bs f n m ns
 | .rng f n m,ns=>rnF most bs f (rgF f.w m (m+1) n) ns 0
 | .no a,ns=>
  match truF most bs tick a ns with
  |none=>none
  |some (x,ns1)=>notF most ns1 x
 | .and a b,ns=>
  match truF most bs tick a ns with
  |none=>none
  |some (x,ns1)=>
   match truF most bs tick b ns1 with
   |none=>none
   |some (y,ns2)=>andF most ns2 x y
 | .or a b,ns=>
  match truF most bs tick a ns with
  |none=>none
  |some (x,ns1)=>
   match truF most bs tick b ns1 with
   |none=>none
   |some (y,ns2)=>orF most ns2 x y
 | .time n m,ns=>some (if n<=tick/\tick<m then 1 else 0,ns)
theorem E3 (hb:BsOk bs)(tick:Int):∀ (p:Pd) {ns ms:Ns} {id:Nat},p.Fit bs->Wf (2*bs.length) ns->truF most bs tick p ns=some (id,ms)->Gr (2*bs.length) ns ms/\id<ms.length/\RepS bs ms id (holdsP tick p)
 | .tru,ns,ms,id,_,hw,h=>by
  obtain⟨rfl,rfl⟩:=Prod.mk.inj (Option.some.inj h);exact⟨.refl hw,by have:=hw.two;omega,fun _ _ _=>rfl⟩
 | .fls,ns,ms,id,_,hw,h=>by
  obtain⟨rfl,rfl⟩:=Prod.mk.inj (Option.some.inj h);exact⟨.refl hw,by have:=hw.two;omega,fun _ _ _=>rfl⟩
 | .eq f n,ns,ms,id,hf,hw,h=>by
  obtain⟨g,l,r⟩:=setP_ok hb hf.1 (Nat.le_refl _) hf.2 hw h;exact⟨g,l,fun x z hx=>by rw[r x z hx,Nat.sub_self];simp[holdsP]⟩
 | .pre f n m,ns,ms,id,hf,hw,h=>setP_ok hb hf.1 hf.2.2 hf.2.1 hw h
 | .rng f n m,ns,ms,id,hf,hw,h=>by
  obtain⟨g,l,r⟩:=rn_ok hb hf.1 _ (T:=fun _=>false) (rgF_all hf.2.2 _ _) hw (show 0<ns.length by have:=hw.two;omega) (fun _ _ _=>rfl) h;exact⟨g,l,fun x z hx=>by
   have:=r x z hx;simp only[Bool.false_or] at this;rw[this,rgF_mem _ _ _ qom];rfl⟩
 | .no a,ns,ms,id,hf,hw,h=>by
  rw[truF] at h
  split at h
  ·cases h
  ·rename_i x ns1 h1;obtain⟨g1,l1,r1⟩:=E3 hb tick a hf hw h1;obtain⟨g2,i2⟩:=Fq ends_not g1.w l1 l1 h;exact⟨g1.trans g2,i2.lt,fun y z hy=>by rw[i2.sem,r1 y z hy];rfl⟩
 | .and a b,ns,ms,id,hf,hw,h=>by
  rw[truF] at h
  split at h
  ·cases h
  ·rename_i x ns1 h1;obtain⟨g1,l1,r1⟩:=E3 hb tick a hf.1 hw h1
   split at h
   ·cases h
   ·rename_i y ns2 h2;obtain⟨g2,l2,r2⟩:=E3 hb tick b hf.2 g1.w h2;obtain⟨g3,i3⟩:=Fq ends_and g2.w (Nat.lt_of_lt_of_le l1 g2.le) l2 h;exact⟨(g1.trans g2).trans g3,i3.lt,fun u z hu=>by rw[i3.sem,r2 u z hu,r1.gr g1.w l1 g2 u z hu];rfl⟩
 | .or a b,ns,ms,id,hf,hw,h=>by
  rw[truF] at h
  split at h
  ·cases h
  ·rename_i x ns1 h1;obtain⟨g1,l1,r1⟩:=E3 hb tick a hf.1 hw h1
   split at h
   ·cases h
   ·rename_i y ns2 h2;obtain⟨g2,l2,r2⟩:=E3 hb tick b hf.2 g1.w h2;obtain⟨g3,i3⟩:=Fq E8 g2.w (Nat.lt_of_lt_of_le l1 g2.le) l2 h;exact⟨(g1.trans g2).trans g3,i3.lt,fun u z hu=>by rw[i3.sem,r2 u z hu,r1.gr g1.w l1 g2 u z hu];rfl⟩
 | .time n m,ns,ms,id,_,hw,h=>by
  obtain⟨rfl,rfl⟩:=Prod.mk.inj (Option.some.inj h);have:=hw.two;refine⟨.refl hw,by split<;>omega,fun x z hx=> ?_⟩;show _=(decide (n<=tick)&&decide (tick<m))
  by_cases c:n<=tick/\tick<m
  ·rw[if_pos c,decide_eq_true c.1,decide_eq_true c.2];rfl
  ·rw[if_neg c,E6];refine(Bool.eq_false_iff.2 fun e=>c ?_).symm
   simpa using e
def filF (most:Nat) (bs:List Nat) (ns:Ns) (s:Nat):Option (Nat × Ns):=
 match relF most bs.length (fun _=>false) (fun _=>false) ns with
 |none=>none
 |some (i,ns1)=>andF most ns1 s i
theorem fil_ok (hb:BsOk bs){s:Nat}{T:Hd->Bool}(hw:Wf (2*bs.length) ns)(hs:s<ns.length)(hr:RepS bs ns s T)(h:filF most bs ns s=some (id,ms)):Gr (2*bs.length) ns ms/\id<ms.length/\Rep bs ms id fun h g=>g=h/\T h=true:=by
 unfold filF at h
 split at h
 ·cases h
 ·rename_i i ns1 h1;obtain⟨g1,i1⟩:=Lu hw h1;obtain⟨g2,i2⟩:=Fq ends_and g1.w (Nat.lt_of_lt_of_le hs g1.le) i1.lt h;refine⟨g1.trans g2,i2.lt,fun x y hx hy o=> ?_⟩;rw[i2.sem,hr.gr hw hs g1 x _ hx,i1.sem,Bool.and_eq_true,modR_iff,Gi,Jj]
  constructor
  ·rintro⟨e1,e2⟩;exact⟨Mp hb hy hx o.symm fun k hk=>by simpa using e2 k (Nat.zero_le _) hk,e1⟩
  ·rintro⟨rfl,e⟩;exact⟨e,fun k _ _=>by simp⟩
def polF (most:Nat) (bs:List Nat) (tick:Int) (r:Nat):Po->Ns->Option (Nat × Ns)
 | .fil p,ns=>
  match truF most bs tick p ns with
  |none=>none
  |some (s,ns1)=>filF most bs ns1 s
 | .set f n,ns=>relPF most bs f n ns
 | .uni a b,ns=>
  match polF most bs tick r a ns with
  |none=>none
  |some (x,ns1)=>
   match polF most bs tick r b ns1 with
   |none=>none
   |some (y,ns2)=>orF most ns2 x y
 | .seq a b,ns=>
  match polF most bs tick r a ns with
  |none=>none
  |some (x,ns1)=>
   match polF most bs tick r b ns1 with
   |none=>none
   |some (y,ns2)=>seA most ns2 x y
 | .star a,ns=>
  match polF most bs tick r a ns with
  |none=>none
  |some (x,ns1)=>starF most bs.length r ns1 x
theorem rt_cl1 (hb:BsOk bs)(hw:Wf (2*bs.length) ns)(hi:id<ns.length){D:Hd->Hd->Prop}(hr:Rep bs ns id D){g:Hd}(hg:HdOk g){x z:Nat->Bool}(t:Rt bs.length (sem ns id) x z):∀ {h:Hd},HdOk h->Out bs h g->(∀ k,k<bs.length->xh bs h k=x k)->(∀ k,k<bs.length->xh bs g k=z k)->Cl' D h g:=by
 induction t with
 |base e=>
  intro h hh o h1 h2;have:=Mp hb hh hg o fun k hk=>(h1 k hk).trans ((e k hk).trans (h2 k hk).symm)
  subst this;exact .base _
 | @step x y z e t ih=>
  intro h hh o h1 h2;obtain⟨m,m1,m2,m3⟩:=Ir hb h y;have e1:sem ns id (mixA (xh bs h) (xh bs m))=true:=by rw[Ep hw hi h1 m3];exact e
  exact .step ((hr h m hh m1 m2).1 e1) (ih m1 (m2.symm.trans o) m3 h2)
theorem rt_cl (hb:BsOk bs)(hw:Wf (2*bs.length) ns)(hi:id<ns.length){D:Hd->Hd->Prop}(hD:∀ {h g},HdOk h->D h g->HdOk g/\Out bs h g)(hr:Rep bs ns id D){h g:Hd}(hh:HdOk h)(hg:HdOk g)(o:Out bs h g):Rt bs.length (sem ns id) (xh bs h) (xh bs g)↔Cl' D h g:=by
 constructor
 ·exact fun t=>rt_cl1 hb hw hi hr hg t hh o (fun _ _=>rfl) fun _ _=>rfl
 ·intro t
  induction t with
  |base h=>exact .base fun _ _=>rfl
  |step a _ ih=>
   obtain⟨h1,h2⟩:=hD hh a;exact .step ((hr _ _ hh h1 h2).2 a) (ih h1 hg (h2.symm.trans o))
theorem uni_ok {a b:Nat}{D E:Hd->Hd->Prop}(hw:Wf (2*bs.length) ns)(ha:a<ns.length)(hb':b<ns.length)(hD:Rep bs ns a D)(hE:Rep bs ns b E)(h:orF most ns a b=some (id,ms)):Gr (2*bs.length) ns ms/\id<ms.length/\Rep bs ms id fun h g=>D h g\/E h g:=by
 obtain⟨g,i⟩:=Fq E8 hw ha hb' h;exact⟨g,i.lt,fun x y hx hy o=>by rw[i.sem,Bool.or_eq_true,hD x y hx hy o,hE x y hx hy o]⟩
theorem sq_rep (hb:BsOk bs){a b:Nat}{D E:Hd->Hd->Prop}(hw:Wf (2*bs.length) ns)(ha:a<ns.length)(hb':b<ns.length)(hDo:∀ {h g},HdOk h->D h g->HdOk g/\Out bs h g)(hD:Rep bs ns a D)(hE:Rep bs ns b E)(h:seA most ns a b=some (id,ms)):Gr (2*bs.length) ns ms/\id<ms.length/\Rep bs ms id fun h g=>∃ m,D h m/\E m g:=by
 obtain⟨gr,i⟩:=seA_ok qom hw ha hb' h;refine⟨gr,i.lt,fun x y hx hy o=> ?_⟩;rw[i.sem,compR_iff,Gi,Jj]
 constructor
 ·rintro⟨u,h1,h2⟩;obtain⟨m,m1,m2,m3⟩:=Ir hb x u;refine⟨m,(hD x m hx m1 m2).1 ?_,(hE m y m1 hy (m2.symm.trans o)).1 ?_⟩
  ·rw[Ep hw ha (fun _ _=>rfl) m3];exact h1
  ·rw[Ep hw hb' m3 (fun _ _=>rfl)];exact h2
 ·rintro⟨m,h1,h2⟩;obtain⟨m1,m2⟩:=hDo hx h1;exact⟨xh bs m,(hD x m hx m1 m2).2 h1,(hE m y m1 hy (m2.symm.trans o)).2 h2⟩
theorem sr_rep (hb:BsOk bs){a r:Nat}{D:Hd->Hd->Prop}(hw:Wf (2*bs.length) ns)(ha:a<ns.length)(hDo:∀ {h g},HdOk h->D h g->HdOk g/\Out bs h g)(hD:Rep bs ns a D)(h:starF most bs.length r ns a=some (id,ms)):Gr (2*bs.length) ns ms/\id<ms.length/\Rep bs ms id (Cl' D):=by
 obtain⟨gr,l,i⟩:=star_ok hw ha h;exact⟨gr,l,fun x y hx hy o=>by rw[i,rt_cl hb hw ha hDo hD hx hy o]⟩
theorem Fr (hb:BsOk bs)(tick:Int)(r:Nat):∀ (p:Po) {ns ms:Ns} {id:Nat},p.Fit bs->Wf (2*bs.length) ns->polF most bs tick r p ns=some (id,ms)->Gr (2*bs.length) ns ms/\id<ms.length/\Rep bs ms id (den tick p)
 | .fil p,ns,ms,id,hf,hw,h=>by
  rw[polF] at h
  split at h
  ·cases h
  ·rename_i s ns1 h1;obtain⟨g1,l1,r1⟩:=E3 hb tick p hf hw h1;obtain⟨g2,l2,r2⟩:=fil_ok hb g1.w l1 r1 h;exact⟨g1.trans g2,l2,r2⟩
 | .set f n,ns,ms,id,hf,hw,h=>relP_ok hb hf.1 hw h
 | .uni a b,ns,ms,id,hf,hw,h=>by
  rw[polF] at h
  split at h
  ·cases h
  ·rename_i x ns1 h1;obtain⟨g1,l1,r1⟩:=Fr hb tick r a hf.1 hw h1
   split at h
   ·cases h
   ·rename_i y ns2 h2;obtain⟨g2,l2,r2⟩:=Fr hb tick r b hf.2 g1.w h2;obtain⟨g3,l3,r3⟩:=uni_ok g2.w (Nat.lt_of_lt_of_le l1 g2.le) l2 (r1.gr g1.w l1 g2) r2 h;exact⟨(g1.trans g2).trans g3,l3,r3⟩
 | .seq a b,ns,ms,id,hf,hw,h=>by
  rw[polF] at h
  split at h
  ·cases h
  ·rename_i x ns1 h1;obtain⟨g1,l1,r1⟩:=Fr hb tick r a hf.1 hw h1
   split at h
   ·cases h
   ·rename_i y ns2 h2;obtain⟨g2,l2,r2⟩:=Fr hb tick r b hf.2 g1.w h2;obtain⟨g3,l3,r3⟩:=sq_rep hb g2.w (Nat.lt_of_lt_of_le l1 g2.le) l2 (fun hh d=>Dv hf.1 hh d) (r1.gr g1.w l1 g2) r2 h;exact⟨(g1.trans g2).trans g3,l3,r3⟩
 | .star a,ns,ms,id,hf,hw,h=>by
  rw[polF] at h
  split at h
  ·cases h
  ·rename_i x ns1 h1;obtain⟨g1,l1,r1⟩:=Fr hb tick r a hf hw h1;obtain⟨g2,l2,r2⟩:=sr_rep (D:=den tick a) hb g1.w l1 (fun hh d=>Dv (p:=a) hf hh d) r1 h;exact⟨g1.trans g2,l2,r2⟩
end
end Go.Proofs.YtkgfmjanajdibaaGreat
