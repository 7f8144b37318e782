/-
  A part of what LawA rests on: the logic, walks and plain laws. No condition.
-/
import Derived.KernelRfl
import Derived.RangeFuncLeaves
import Derived.RangeFuncRecord
import Derived.RangeFuncIn
import Derived.OrdersIn
import Derived.Below
import Derived.WalkKit
import Derived.IntWalk
import Derived.StillTail
import Derived.Sort.Row
import Derived.Sort.Grow
import Derived.Lib.SlicesCompact
import Derived.Sort.Walk0
import Derived.Laws.Strings
import Derived.Scope
import Derived.Test.YtkojjapnfdlddaaGreatProg
import Derived.KernelRfl
namespace Go.Proofs.YtkojjapnfdlddaaGreat
open _root_.Go.Proofs.Tryz
open Go.RowKit
set_option linter.unusedVariables false
set_option linter.unusedSimpArgs false
set_option linter.unusedSectionVars false
set_option maxRecDepth 100000
theorem U {α:Sort _}{a:α}:a=a:=rfl
theorem qom {p:Prop}(h:p:=by omega):p:=h
theorem qde {p:Prop}(h:p:=by decide):p:=h
theorem qrf {p:Prop}(h:p:=by rfl):p:=h
theorem qkr {α:Sort _}{a b:α}(h:a=b:=by kernel_rfl):a=b:=h
theorem qco {p:Prop}(h:p:=by exact c_o):p:=h
theorem qcs {p:Prop}(h:p:=by exact Ay):p:=h
theorem qlc {p:Prop}(h:p:=by repeat (first|exact LocL.h|apply LocL.t|apply LocL.a)):p:=h
abbrev Fm:=List (Nat × Value)
def lk (L:Fm) (b:Nat→Value) (k:Nat):Value:=
 match L with
 |[]=>b k
 |e::r=>match Nat.beq e.1 k with
  |true=>e.2
  |false=>lk r b k
def At (L:Fm) (k:Nat) (v:Value):Prop:=∀ b,lk L b k=v
def fnd? :Fm→Nat→Option Value
 |[],_=>none
 |(d,v)::r,k=>match Nat.beq d k with
  |true=>some v
  |false=>fnd? r k
theorem Aa:∀ {L:Fm} {k:Nat} {v:Value},fnd? L k=some v→At L k v
 |[],_,_,h=>by cases h
 |(d,u)::r,k,v,h=>fun b=>by
  rw[fnd?] at h;rw[lk];cases hb:Nat.beq d k
  ·simp only[hb] at h ⊢;exact Aa h b
  ·simp only[hb] at h ⊢;exact Option.some.inj h
theorem Ae {L:Fm}{k:Nat}{v u:Value}(h:At L k v)(e:v=u):At L k u:=e ▸ h
theorem vint {k:IntKind}{a b:Int}(h:a=b):Value.int k a= .int k b:=by rw[h]
theorem vbool {a b:Bool}(h:a=b):Value.bool a= .bool b:=by rw[h]
def ev (σ:Nat→Value):Operand→Value
 | .tmp t=>σ t
 | .const v=>v
 | .global g=> .pointer (some ⟨g,0,none⟩)
 | .func f=> .func (.func f) #[] #[]
def Ev (L:Fm) (x:Operand) (v:Value):Prop:=∀ b,ev (lk L b) x=v
theorem Ak {L:Fm}{v:Value}:Ev L (.const v) v:=fun _=>rfl
theorem ev_g {L:Fm}{g:Nat}:Ev L (.global g) (.pointer (some ⟨g,0,none⟩)):=fun _=>rfl
theorem Ix {L:Fm}{f:Nat}:Ev L (.func f) (.func (.func f) #[] #[]):=fun _=>rfl
def fr (a:Act):Nat→Value:=fun k=>a.tmps.getD k undef
theorem E6 (a:Act)(x:Operand):a.eval x=ev (fr a) x:=by cases x<;>rfl
theorem eval_fr' (a:Act):a.eval=ev (fr a):=funext (E6 a)
theorem fr_put {a:Act}{d:Nat}{v:Value}{L:Fm}{b:Nat→Value}(hd:d<a.tmps.size)(h:fr a=lk L b):fr (a.put (some d) v)=lk ((d,v)::L) b:=by
 funext k
 have hk:=congrFun h k;unfold fr at *;unfold lk;simp only[Act.put]
 by_cases hdk:d=k
 ·subst hdk;simp[Nat.beq_refl,Array.getD_eq_getD_getElem?,hd]
 ·have:Nat.beq d k=false:=by
   cases hb:Nat.beq d k
   ·rfl
   ·exact absurd (Nat.eq_of_beq_eq_true hb) hdk
  simp only[this];rw[← hk];simp[Array.getD_eq_getD_getElem?,Array.getElem?_setIfInBounds_ne hdk]
theorem C0 (a:Act)(d:Option Tmp)(v:Value):(a.put d v).tmps.size=a.tmps.size:=by cases d<;>simp[Act.put]
theorem Cj (a:Act)(d:Option Tmp)(v:Value):(a.put d v).defers=a.defers:=by cases d<;>rfl
structure Own (w0:World) (H:List (Nat × Obj)) (w:World):Prop where
 below:Below w0.heap.size w0 w
 has:∀ e∈H,w.heap[e.1]? =some e.2
 base:∀ e∈H,w0.heap.size≤e.1
 nodup:(H.map (·.1)).Nodup
 drw:w0.drawn≤w.drawn
theorem Own.start (w:World):Own w [] w:=⟨Below.refl _ _,by simp,by simp,by simp,Nat.le_refl _⟩
theorem Own.tail {w0 w:World}{e:Nat × Obj}{H:List (Nat × Obj)}(h:Own w0 (e::H) w):Own w0 H w:=
 ⟨h.below,fun x hx=>h.has x (by simp[hx]),fun x hx=>h.base x (by simp[hx]),(by have:=h.nodup;simp at this;exact this.2),h.drw⟩
theorem Own.drop {w0 w:World}{X H:List (Nat × Obj)}(h:Own w0 (X++H) w):Own w0 H w:=by
 induction X with
 |nil=>exact h
 |cons e X ih=>exact ih h.tail
theorem Own.sub {w0 w:World}{H H':List (Nat × Obj)}(h:Own w0 H w)(hs:H'.Sublist H):Own w0 H' w:=
 ⟨h.below,fun x hx=>h.has x (hs.subset hx),fun x hx=>h.base x (hs.subset hx),h.nodup.sublist (hs.map _),h.drw⟩
theorem Own.drawn {w0 w:World}{H:List (Nat × Obj)}(h:Own w0 H w):Own w0 H {w with drawn:=w.drawn+1}:=
 ⟨⟨h.below.os,h.below.tape,h.below.output,h.below.size,h.below.block⟩,h.has,h.base,h.nodup,Nat.le_succ_of_le h.drw⟩
theorem Own.alloc {w0 w:World}{H:List (Nat × Obj)}(h:Own w0 H w)(o:Obj):Own w0 ((w.heap.size,o)::H) (w.alloc o):=by
 have hlt:∀ e∈H,e.1<w.heap.size:=fun e he=>(Array.getElem?_eq_some_iff.1 (h.has e he)).1
 refine⟨h.below.alloc h.below.size _,fun e he=> ?_,fun e he=> ?_,?_,h.drw⟩
 ·rcases List.mem_cons.1 he with rfl|he
  ·exact World.alloc_heap_new _ _
  ·rw[Below.heap_alloc _ _ _ (hlt e he)];exact h.has e he
 ·rcases List.mem_cons.1 he with rfl|he
  ·exact h.below.size
  ·exact h.base e he
 ·simp only[List.map_cons,List.nodup_cons];refine⟨fun hm=> ?_,h.nodup⟩;obtain⟨e,he,heq⟩:=List.mem_map.1 hm;have:=hlt e he;omega
def Fnd (H:List (Nat × Obj)) (n:Nat) (o:Obj):Prop:=(n,o)∈H
theorem Av {H:List (Nat × Obj)}{n:Nat}{o:Obj}:Fnd ((n,o)::H) n o:=by simp[Fnd]
theorem Az {H:List (Nat × Obj)}{n:Nat}{o:Obj}{e:Nat × Obj}(h:Fnd H n o):Fnd (e::H) n o:=by simp[Fnd] at *;exact .inr h
section
variable {α:Type} {a b c d e f g h i j:α} {l:List α}
theorem sb0:l.Sublist l:=List.Sublist.refl _
theorem sb1:l.Sublist (a::l):=sb0.cons _
theorem sb2:l.Sublist (a::b::l):=sb1.cons _
theorem sb3:l.Sublist (a::b::c::l):=sb2.cons _
theorem sb4:l.Sublist (a::b::c::d::l):=sb3.cons _
theorem sb5:l.Sublist (a::b::c::d::e::l):=sb4.cons _
theorem sb6:l.Sublist (a::b::c::d::e::f::l):=sb5.cons _
theorem sb7:l.Sublist (a::b::c::d::e::f::g::l):=sb6.cons _
theorem sb8:l.Sublist (a::b::c::d::e::f::g::h::l):=sb7.cons _
end
theorem sbt {α:Type}{l l':List α}(h:l.Sublist l':=by first|exact sb0|exact sb1|exact sb2|exact sb3|exact sb4|exact sb5|exact sb6|exact sb7|exact sb8|((repeat (first|exact sb0|refine List.Sublist.cons_cons _ ?_|refine List.Sublist.cons _ ?_|refine List.Sublist.append (List.Sublist.refl _) ?_|refine List.Sublist.trans ?_ (List.sublist_append_right _ _)));done)):l.Sublist l':=h
theorem By {X H:List (Nat × Obj)}{n:Nat}{o:Obj}(h:Fnd H n o):Fnd (X++H) n o:=by simp[Fnd] at *;exact .inr h
inductive Upd:List (Nat × Obj)→Nat→Obj→Obj→List (Nat × Obj)→Prop
 |h {H n o o'}:Upd ((n,o)::H) n o o' ((n,o')::H)
 |t {H n o o' H' e}:Upd H n o o' H'→Upd (e::H) n o o' (e::H')
theorem Ci {X H H':List (Nat × Obj)}{n:Nat}{o o':Obj}(h:Upd H n o o' H'):Upd (X++H) n o o' (X++H'):=by
 induction X with
 |nil=>exact h
 |cons e X ih=>exact .t ih
theorem Upd.fst {H H':List (Nat × Obj)}{n:Nat}{o o':Obj}(h:Upd H n o o' H'):H'.map (·.1)=H.map (·.1):=by
 induction h with
 |h=>rfl
 |t _ ih=>simp[ih]
theorem Upd.mem {H H':List (Nat × Obj)}{n:Nat}{o o':Obj}(h:Upd H n o o' H'):(n,o)∈H:=by
 induction h with
 |h=>simp
 |t _ ih=>simp[ih]
theorem Upd.cases {H H':List (Nat × Obj)}{n:Nat}{o o':Obj}(h:Upd H n o o' H')(hn:(H.map (·.1)).Nodup):∀ e∈H',e=(n,o')∨(e∈H∧e.1≠n):=by
 induction h with
 | @h H n o o'=>
  intro e he;rcases List.mem_cons.1 he with rfl|he
  ·exact .inl U
  ·simp only[List.map_cons,List.nodup_cons] at hn;exact .inr ⟨by simp[he],fun h=>hn.1 (List.mem_map.2 ⟨e,he,h⟩)⟩
 | @t H n o o' H' e0 hu ih=>
  intro e he;simp only[List.map_cons,List.nodup_cons] at hn;rcases List.mem_cons.1 he with rfl|he
  ·exact .inr ⟨by simp,fun h=>hn.1 (by rw[h];exact List.mem_map.2 ⟨_,hu.mem,rfl⟩)⟩
  ·rcases ih hn.2 e he with h|⟨h1,h2⟩
   ·exact .inl h
   ·exact .inr ⟨by simp[h1],h2⟩
theorem Own.put {w0 w:World}{H H':List (Nat × Obj)}{n:Nat}{o o':Obj}(h:Own w0 H w)(hu:Upd H n o o' H'):Own w0 H' (w.putObj n o'):=by
 have hb:=h.base _ hu.mem;have hlt:n<w.heap.size:=(Array.getElem?_eq_some_iff.1 (h.has _ hu.mem)).1;refine⟨h.below.trans ⟨rfl,rfl,rfl,by simp,fun k hk=>World.putObj_heap_other (by simp at hb;omega)⟩,fun e he=> ?_,fun e he=> ?_,(by rw[hu.fst];exact h.nodup),h.drw⟩
 ·rcases hu.cases h.nodup e he with rfl|⟨h1,h2⟩
  ·exact World.putObj_heap_same hlt
  ·rw[World.putObj_heap_other h2];exact h.has e h1
 ·rcases hu.cases h.nodup e he with rfl|⟨h1,h2⟩
  ·exact hb
  ·exact h.base e h1
abbrev Cl (l:List Value) (t:TypeId):Obj:= .cells l.toArray t (0,0)
def nth? :List Value→Nat→Option Value
 |[],_=>none
 |v::_,0=>some v
 |_::l,i+1=>nth? l i
theorem I5:∀ {l:List Value} {i:Nat} {v:Value},nth? l i=some v→l[i]? =some v
 |[],_,_,h=>by cases h
 |v::l,0,_,h=>by simpa[nth?] using h
 |_::l,i+1,_,h=>by simpa using I5 (l:=l) h
theorem Own.cell {w0 w:World}{H:List (Nat × Obj)}{n i:Nat}{l:List Value}{t:TypeId}{v:Value}(h:Own w0 H w)(hf:Fnd H n (Cl l t))(hi:l[i]? =some v):w.cell? ⟨n,i,none⟩=some v:=by
 have:=h.has _ hf;simp only at this;simp[World.cell?,this,hi]
theorem Own.free {w0 w:World}{H:List (Nat × Obj)}{n i:Nat}{l:List Value}{t:TypeId}(h:Own w0 H w)(hf:Fnd H n (Cl l t)):w.frozen? ⟨n,i,none⟩=false:=by
 have:=h.has _ hf;simp only at this;simp[World.frozen?,this]
theorem setCell_put {w:World}{n i:Nat}{c:Array Value}{t:TypeId}{f:Nat × Nat}(v:Value)(h:w.heap[n]? =some (.cells c t f)):w.setCell ⟨n,i,none⟩ v=w.putObj n (.cells (c.setIfInBounds i v) t f):=by
 obtain⟨hlt,he⟩:=Array.getElem?_eq_some_iff.1 h;unfold World.setCell World.putObj
 congr 1
 apply Array.ext
 ·simp
 ·intro k h1 h2;simp only[Array.getElem_modify]
  by_cases hk:n=k
  ·subst hk;simp only[if_true];rw[he];simp
  ·rw[if_neg hk,Array.getElem_setIfInBounds_ne (h:=hk)]
theorem fdd {H:List (Nat × Obj)}{n:Nat}{o:Obj}(h:Fnd H n o:=by repeat (first|exact Av|refine Az ?_|refine By ?_)):Fnd H n o:=h
theorem atd {L:Fm}{s:Nat}{v:Value}(h:At L s v:=by first|exact Aa U|(refine Ae (Aa U) (vint ?_);omega)|(refine Ae (Aa U) ?_;simp;done)):At L s v:=h
theorem qat {p:Prop}(h:p:=by exact Aa U):p:=h
theorem stn {α:Type}{a b c:List α}(hs:b.Sublist c)(h:a.Sublist b:=by exact sbt):a.Sublist c:=List.Sublist.trans h hs
def rd:Option Nat→Fence
 |none=>Fence.wide
 |some l=>Fence.wide.inRound l
theorem H3 (r:Option Nat)(f:FuncId):(rd r).fn f:=by cases r<;>exact trivial
theorem rd_depth (r:Option Nat):(rd r).depth=none:=by cases r<;>rfl
theorem Iz (r:Option Nat){p:Prop}:(rd r).depth.isSome=true→p:=fun h=>by rw[rd_depth] at h;cases h
abbrev Post:=Exit→(Nat→Value)→List Deferred→World→Prop
def LQ (N:Nat) (Q:Post):Exit→Act→World→Prop:=fun e a w=>a.tmps.size=N∧Q e (fr a) a.defers w
def swp (P:Program) (r:Option Nat) (N:Nat) (c:Code) (Q:Post) (σ:Nat→Value) (ds:List Deferred) (w:World):Prop:=
 ∀ a:Act,a.tmps.size=N→fr a=σ→a.defers=ds→c.wpIn (rd r) 0 P (LQ N Q) a w
def swpL (P:Program) (r:Option Nat) (N:Nat) (ops:Array Oper) (l:List Oper) (Q:Post) (σ:Nat→Value) (ds:List Deferred) (w:World):Prop:=
 ∀ a:Act,a.tmps.size=N→fr a=σ→a.defers=ds→wpListIn (rd r) 0 P ops (LQ N Q) l a w
def J (P:Program) (r:Option Nat) (N:Nat) (w0:World) (c:Code) (Q:Post) (L:Fm) (ds:List Deferred) (H:List (Nat × Obj)):Prop:=
 ∀ b w,Own w0 H w→swp P r N c Q (lk L b) ds w
def JL (P:Program) (r:Option Nat) (N:Nat) (w0:World) (ops:Array Oper) (l:List Oper) (Q:Post) (L:Fm) (ds:List Deferred) (H:List (Nat × Obj)):Prop:=
 ∀ b w,Own w0 H w→swpL P r N ops l Q (lk L b) ds w
def JQ (w0:World) (Q:Post) (e:Exit) (L:Fm) (ds:List Deferred) (H:List (Nat × Obj)):Prop:=
 ∀ b w,Own w0 H w→Q e (lk L b) ds w
section rules
variable {P:Program} {r:Option Nat} {N:Nat} {w0:World} {Q:Post} {L:Fm} {ds:List Deferred} {H:List (Nat × Obj)}
def thenQ (K:(Nat→Value)→List Deferred→World→Prop) (Q:Post):Post
 | .normal,σ,ds,w=>K σ ds w
 |e,σ,ds,w=>Q e σ ds w
def blockQ (id:Nat) (Q:Post):Post
 | .exit id',σ,ds,w=>if id'=id then Q .normal σ ds w else Q (.exit id') σ ds w
 |e,σ,ds,w=>Q e σ ds w
theorem j_seq {x y:Code}(h:J P r N w0 x (thenQ (swp P r N y Q) Q) L ds H):J P r N w0 (.seq x y) Q L ds H:=fun b w hO a hs hf hd=>
 wpIn_seq (wpIn_mono (h b w hO a hs hf hd) (by
  intro e a' w' hq;cases e<;>first|exact hq.2 a' hq.1 U U|exact hq))
theorem q_then {y:Code}(h:J P r N w0 y Q L ds H):JQ w0 (thenQ (swp P r N y Q) Q) .normal L ds H:=h
theorem q_then_ret {K}(h:JQ w0 Q .ret L ds H):JQ w0 (thenQ K Q) .ret L ds H:=h
theorem q_then_exit {K}{id:Nat}(h:JQ w0 Q (.exit id) L ds H):JQ w0 (thenQ K Q) (.exit id) L ds H:=h
theorem j_block {id:Nat}{c:Code}(h:J P r N w0 c (blockQ id Q) L ds H):J P r N w0 (.block id c) Q L ds H:=fun b w hO a hs hf hd=>
 wpIn_block (wpIn_mono (h b w hO a hs hf hd) (by
  intro e a' w' hq;cases e with
  |exit id'=>
   unfold LQ blockQ at hq;unfold Exit.inBlock
   by_cases hid:id'=id
   ·simp only[hid,if_true] at hq ⊢;exact hq
   ·simp only[hid,if_false] at hq ⊢;exact hq
  |_=>exact hq))
theorem q_block {id:Nat}(h:JQ w0 Q .normal L ds H):JQ w0 (blockQ id Q) .normal L ds H:=h
theorem q_block_ret {id:Nat}(h:JQ w0 Q .ret L ds H):JQ w0 (blockQ id Q) .ret L ds H:=h
theorem q_block_hit {id:Nat}(h:JQ w0 Q .normal L ds H):JQ w0 (blockQ id Q) (.exit id) L ds H:=fun b w hO=>by unfold blockQ;simp only[if_true];exact h b w hO
theorem q_block_miss {id id':Nat}(hne:Nat.beq id' id=false)(h:JQ w0 Q (.exit id') L ds H):JQ w0 (blockQ id Q) (.exit id') L ds H:=fun b w hO=>by
 unfold blockQ;have:id'≠id:=fun e=>by rw[e,Nat.beq_refl] at hne;cases hne
 simp only[this,if_false];exact h b w hO
theorem j_skip (h:JQ w0 Q .normal L ds H):J P r N w0 .skip Q L ds H:=fun b w hO a hs hf hd=>wpIn_skip ⟨hs,by rw[hf,hd];exact h b w hO⟩
theorem j_ret (h:JQ w0 Q .ret L ds H):J P r N w0 .ret Q L ds H:=fun b w hO a hs hf hd=>wpIn_ret ⟨hs,by rw[hf,hd];exact h b w hO⟩
theorem j_exit {id:Nat}(h:JQ w0 Q (.exit id) L ds H):J P r N w0 (.exit id) Q L ds H:=fun b w hO a hs hf hd=>wpIn_exit ⟨hs,by rw[hf,hd];exact h b w hO⟩
theorem Af {k:Nat}{t:Bool}{x y:Code}(hc:At L k (.bool t))(ht:t=true→J P r N w0 x Q L ds H)(hf:t=false→J P r N w0 y Q L ds H):J P r N w0 (.cond (.tmp k) x y) Q L ds H:=fun b w hO a hs hfr hd=>by
 refine wpIn_cond_split (t:=t) (by rw[E6,hfr];exact hc b) (fun h=>ht h b w hO a hs hfr hd) (fun h=>hf h b w hO a hs hfr hd)
theorem C1 {k:Nat}{x y:Code}(hc:At L k (.bool true))(ht:J P r N w0 x Q L ds H):J P r N w0 (.cond (.tmp k) x y) Q L ds H:=Af hc (fun _=>ht) (fun h=>by cases h)
theorem G0 {k:Nat}{x y:Code}(hc:At L k (.bool false))(hf:J P r N w0 y Q L ds H):J P r N w0 (.cond (.tmp k) x y) Q L ds H:=Af hc (fun h=>by cases h) (fun _=>hf)
theorem Ac {k:Nat}{p:Prop}[Decidable p] {x y:Code}(hc:At L k (.bool (decide p)))(ht:p→J P r N w0 x Q L ds H)(hf: ¬ p→J P r N w0 y Q L ds H):J P r N w0 (.cond (.tmp k) x y) Q L ds H:=
 Af hc (fun h=>ht (of_decide_eq_true h)) (fun h=>hf (of_decide_eq_false h))
theorem j_region {id:Nat}{l:List Oper}(h:JL P r N w0 l.toArray l Q L ds H):J P r N w0 (.region id l.toArray false) Q L ds H:=fun b w hO a hs hf hd=>
 wpIn_region_lit (h b w hO a hs hf hd)
theorem jl_nil {ops:Array Oper}(h:JQ w0 Q .normal L ds H):JL P r N w0 ops [] Q L ds H:=fun b w hO a hs hf hd=>wpListIn_nil ⟨hs,by rw[hf,hd];exact h b w hO⟩
def Agree:Fm→Fm→Prop
 |[],_=>True
 |e::K,L=>At L e.1 e.2∧Agree K L
theorem Dq:∀ {K L:Fm} {b:Nat→Value},Agree K L→lk K (lk L b)=lk L b
 |[],_,_,_=>rfl
 |e::K,L,b,h=>by
  funext k
  rw[lk];cases hb:Nat.beq e.1 k
  ·simp only[Dq h.2]
  ·have:=Nat.eq_of_beq_eq_true hb;subst this;exact(h.1 b).symm
theorem j_keep {c:Code}(K:Fm)(hk:Agree K L)(h:J P r N w0 c Q K ds H):J P r N w0 c Q L ds H:=fun b w hO=>by
 rw[← Dq (b:=b) hk];exact h _ w hO
theorem jq_keep {e:Exit}(K:Fm)(hk:Agree K L)(h:JQ w0 Q e K ds H):JQ w0 Q e L ds H:=fun b w hO=>by
 rw[← Dq (b:=b) hk];exact h _ w hO
theorem jl_keep {ops:Array Oper}{l:List Oper}(K:Fm)(hk:Agree K L)(h:JL P r N w0 ops l Q K ds H):JL P r N w0 ops l Q L ds H:=fun b w hO=>by
 rw[← Dq (b:=b) hk];exact h _ w hO
theorem least_ex {I:Nat→Prop}:∀ {n:Nat},I n→∃ m,I m∧∀ m',I m'→m≤m':=by
 intro n
 induction n using Nat.strongRecOn with
 |_ n ih=>
  intro h
  by_cases hx:∃ m,m<n∧I m
  ·obtain⟨m,hm,hi⟩:=hx;exact ih m hm hi
  ·exact⟨n,h,fun m' h'=>Nat.le_of_not_lt fun hlt=>hx ⟨m',hlt,h'⟩⟩
def loopQ (w0:World) {X:Type} (V:X→Fm) (G:X→List (Nat × Obj)) (φ:X→Prop) (μ:X→Nat) (m:Nat) (ds:List Deferred) (Q:Post):Post
 | .normal,σ,ds',w=>ds'=ds∧∃ x b,φ x∧μ x<m∧σ=lk (V x) b∧Own w0 (G x) w
 |e,σ,ds',w=>Q e σ ds' w
theorem Bc {X:Type}{V:X→Fm}{G:X→List (Nat × Obj)}{φ:X→Prop}{μ:X→Nat}{m:Nat}{ds':List Deferred}(h:JQ w0 Q .ret L ds H):JQ w0 (loopQ w0 V G φ μ m ds' Q) .ret L ds H:=h
theorem Au {X:Type}{V:X→Fm}{G:X→List (Nat × Obj)}{φ:X→Prop}{μ:X→Nat}{m:Nat}{ds':List Deferred}{id:Nat}(h:JQ w0 Q (.exit id) L ds H):JQ w0 (loopQ w0 V G φ μ m ds' Q) (.exit id) L ds H:=h
theorem q_loop {X:Type}{V:X→Fm}{G:X→List (Nat × Obj)}{φ:X→Prop}{μ:X→Nat}{m:Nat}(x:X)(hφ:φ x)(hμ:μ x<m)(hV:Agree (V x) L)(hG:(G x).Sublist H):JQ w0 (loopQ w0 V G φ μ m ds Q) .normal L ds H:=
 fun b w hO=>⟨rfl,x,lk L b,hφ,hμ,(Dq hV).symm,hO.sub hG⟩
theorem j_loop {c:Code}{X:Type}(V:X→Fm)(G:X→List (Nat × Obj))(φ:X→Prop)(μ:X→Nat)(x0:X)(h0:φ x0)(hV:Agree (V x0) L)(hG:(G x0).Sublist H)
  (round:∀ x,φ x→J P r N w0 c (loopQ w0 V G φ μ (μ x) ds Q) (V x) ds (G x)):J P r N w0 (.loop c) Q L ds H:=fun b w hO a hs hf hd=>by
 classical
 let I:Nat→Act→World→Prop:=fun m a w=>a.tmps.size=N∧a.defers=ds∧∃ x b,φ x∧μ x=m∧fr a=lk (V x) b∧Own w0 (G x) w
 have hle:∀ {a w},(∃ m,I m a w)→∃ m,I m a w∧∀ m',I m' a w→m≤m':=fun ⟨_,h⟩=>least_ex (I:=fun m=>I m _ _) h
 let μ':Act→World→Nat:=fun a w=>if h:∃ m,I m a w then (hle h).choose else 0
 refine wpIn_loop (fun a w=>∃ m,I m a w) μ' ⟨μ x0,hs,hd,x0,lk L b,h0,rfl,by rw[hf,Dq hV],hO.sub hG⟩ ?_;intro a w hI;have hm:I (μ' a w) a w:=by
  have:μ' a w=(hle hI).choose:=dif_pos hI;rw[this];exact(hle hI).choose_spec.1
 obtain⟨hs',hd',x,b',hx,hmx,hfx,hOx⟩:=hm;refine wpIn_mono (round x hx b' w hOx a hs' hfx hd') ?_;intro e a' w' hq;cases e with
 |normal=>
  obtain⟨hs2,hd2,x2,b2,h2,hlt,hf2,hO2⟩:=hq;have hI2:∃ m,I m a' w':=⟨μ x2,hs2,hd2,x2,b2,h2,rfl,hf2,hO2⟩;refine⟨hI2,?_⟩;have e2:μ' a' w'=(hle hI2).choose:=dif_pos hI2;have:=(hle hI2).choose_spec.2 (μ x2) ⟨hs2,hd2,x2,b2,h2,rfl,hf2,hO2⟩;rw[e2];omega
 |_=>exact hq
theorem F0:∀ {A B L:Fm},Agree A L→Agree B L→Agree (A++B) L
 |[],_,_,_,h=>h
 |_::_,_,_,h,k=>⟨h.1,F0 h.2 k⟩
theorem Bi {c:Code}{X:Type}(V:X→Fm)(C:Fm)(G:X→List (Nat × Obj))(φ:X→Prop)(μ:X→Nat)(x0:X)(h0:φ x0)(hC:Agree C L)(hV:Agree (V x0) L)(hG:(G x0).Sublist H)
  (round:∀ x,φ x→J P r N w0 c (loopQ w0 (fun x=>V x++C) G φ μ (μ x) ds Q) (V x++C) ds (G x)):J P r N w0 (.loop c) Q L ds H:=
 j_loop (fun x=>V x++C) G φ μ x0 h0 (F0 hV hC) hG round
theorem A5 {X:Type}{V:X→Fm}{C:Fm}{G:X→List (Nat × Obj)}{φ:X→Prop}{μ:X→Nat}{m:Nat}(x:X)(hφ:φ x)(hμ:μ x<m)(hV:Agree (V x) L)(hC:Agree C L)(hG:(G x).Sublist H):JQ w0 (loopQ w0 (fun x=>V x++C) G φ μ m ds Q) .normal L ds H:=
 q_loop x hφ hμ (F0 hV hC) hG
theorem G1 {c:Code}{X:Type}(V:X→Fm)(C:Fm)(φ:X→Prop)(μ:X→Nat)(x0:X)(h0:φ x0)(hC:Agree C L)(hV:Agree (V x0) L)
  (round:∀ x,φ x→J P r N w0 c (loopQ w0 (fun x=>V x++C) (fun _=>H) φ μ (μ x) ds Q) (V x++C) ds H):J P r N w0 (.loop c) Q L ds H:=
 Bi V C (fun _=>H) φ μ x0 h0 hC hV (List.Sublist.refl _) round
def cutQ (w0:World) {X:Type} (V:X→Fm) (G:X→List (Nat × Obj)) (φ:X→Prop) (ds:List Deferred) (Q:Post):Post
 | .normal,σ,ds',w=>ds'=ds∧∃ x b,φ x∧σ=lk (V x) b∧Own w0 (G x) w
 |e,σ,ds',w=>Q e σ ds' w
theorem q_cut {X:Type}{V:X→Fm}{G:X→List (Nat × Obj)}{φ:X→Prop}(x:X)(hφ:φ x)(hV:Agree (V x) L)(hG:(G x).Sublist H):JQ w0 (cutQ w0 V G φ ds Q) .normal L ds H:=
 fun b w hO=>⟨rfl,x,lk L b,hφ,(Dq hV).symm,hO.sub hG⟩
theorem j_cut {x y:Code}{X:Type}(V:X→Fm)(G:X→List (Nat × Obj))(φ:X→Prop)(ds':List Deferred)(h:J P r N w0 x (cutQ w0 V G φ ds' Q) L ds H)(k:∀ z,φ z→J P r N w0 y Q (V z) ds' (G z)):J P r N w0 (.seq x y) Q L ds H:=fun b w hO a hs hf hd=>
 wpIn_seq (wpIn_mono (h b w hO a hs hf hd) (by
  intro e a' w' hq;cases e with
  |normal=>
   obtain⟨hs2,hd2,x2,b2,h2,hf2,hO2⟩:=hq;exact k x2 h2 b2 w' hO2 a' hs2 hf2 hd2
  |_=>exact hq))
theorem I6 {x y:Code}{X:Type}(V:X→Fm)(C:Fm)(G:X→List (Nat × Obj))(φ:X→Prop)(hC:Agree C L)(h:J P r N w0 x (cutQ w0 (fun x=>V x++C) G φ ds Q) L ds H)(k:∀ z,φ z→J P r N w0 y Q (V z++C) ds (G z)):J P r N w0 (.seq x y) Q L ds H:=
 j_cut (fun x=>V x++C) G φ ds h k
theorem D6 {x y:Code}{X:Type}(V:X→Fm)(C:Fm)(φ:X→Prop)(hC:Agree C L)(h:J P r N w0 x (cutQ w0 (fun x=>V x++C) (fun _=>H) φ ds Q) L ds H)(k:∀ z,φ z→J P r N w0 y Q (V z++C) ds H):J P r N w0 (.seq x y) Q L ds H:=
 j_cut (fun x=>V x++C) (fun _=>H) φ ds h k
theorem A8 {X:Type}{V:X→Fm}{C:Fm}{G:X→List (Nat × Obj)}{φ:X→Prop}(x:X)(hφ:φ x)(hV:Agree (V x) L)(hC:Agree C L)(hG:(G x).Sublist H):JQ w0 (cutQ w0 (fun x=>V x++C) G φ ds Q) .normal L ds H:=
 q_cut x hφ (F0 hV hC) hG
end rules
theorem callsIn_rd {P:Program}{r:Option Nat}{n:Nat}{f:FuncId}{args:Array Value}{w:World}{R:Ending→World→Prop}(h:Calls P f args w R):CallsIn (rd r) n P f args w R:=by
 cases r with
 |none=>exact callsIn_wide.2 h
 |some l=>exact callsIn_wide.2 h
def exO (ρ:Operand→Value) (op:Op) (ty:TypeId):Sem Next:=execOp ρ ⟨none,op,ty, "",#[],none⟩
theorem exO_eq (ρ:Operand→Value)(d:Option Tmp)(op:Op)(ty:TypeId)(p:String)(af:Array Edge)(g:Option (Nat × Bool)):execOp ρ ⟨d,op,ty,p,af,g⟩=exO ρ op ty:=rfl
def Op.isDefer:Op→Bool
 | .defer _=>true
 |_=>false
theorem semAt_rd (r:Option Nat)(ρ:Operand→Value){d:Option Tmp}{op:Op}{ty:TypeId}{p:String}{af:Array Edge}{g:Option (Nat × Bool)}(h:Op.isDefer op=false):
  Oper.semAt (rd r).round ρ ⟨d,op,ty,p,af,g⟩=exO ρ op ty:=
 Oper.semAt_eq _ _ _ (fun c hc=>by simp only at hc;rw[hc] at h;cases h)
def FSpec (P:Program) (w0:World) (f:FuncId) (args:Array Value) (H:List (Nat × Obj)) (K:Value→List (Nat × Obj)→Prop):Prop:=
 ∀ w,Own w0 H w→Calls P f args w fun e w'=>∃ v H',e= .returned v∧Own w0 H' w'∧K v H'
theorem FSpec.mono {P:Program}{w0:World}{f:FuncId}{args:Array Value}{H:List (Nat × Obj)}{K K':Value→List (Nat × Obj)→Prop}(h:FSpec P w0 f args H K)(hk:∀ v H',K v H'→K' v H'):FSpec P w0 f args H K':=
 fun w hO=>(h w hO).mono fun e w' ⟨v,H',he,hO',hK⟩=>⟨v,H',he,hO',hk v H' hK⟩
abbrev Still (v:Value) (H:List (Nat × Obj)):Value→List (Nat × Obj)→Prop:=fun v' H'=>v'=v∧H'=H
def effO (P:Program) (w0:World) (K:Value→List (Nat × Obj)→Prop):Result Next→Prop
 | .ok (.value v) w'=>∃ H',Own w0 H' w'∧K v H'
 | .ok .skip w'=>∃ H',Own w0 H' w'∧K undef H'
 | .ok (.enter f args) w'=>Calls P f args w' fun e w''=>∃ v H',e= .returned v∧Own w0 H' w''∧K v H'
 | .ok (.round l f tmps assign body) w'=>RoundIn Fence.wide 0 P l f tmps assign body w' fun e w''=>∃ v H',e= .returned v∧Own w0 H' w''∧K v H'
 |_=>False
theorem roundIn_rd {P:Program}{r:Option Nat}{n:Nat}{l f:Nat}{tmps:Array Value}{assign body:Code}{w:World}{R:Ending→World→Prop}(h:RoundIn Fence.wide n P l f tmps assign body w R):RoundIn (rd r) n P l f tmps assign body w R:=by
 cases r<;>exact h
def Eff (P:Program) (w0:World) (op:Op) (ty:TypeId) (L:Fm) (H:List (Nat × Obj)) (K:Value→List (Nat × Obj)→Prop):Prop:=
 Op.isDefer op=false∧∀ b w,Own w0 H w→effO P w0 K ((exO (ev (lk L b)) op ty).run P w)
def Yl (P:Program) (w0:World) (op:Op) (ty:TypeId) (L:Fm) (H:List (Nat × Obj)) (v:Value):Prop:=
 Op.isDefer op=false∧∀ H',H.Sublist H'→∀ b w,Own w0 H' w→effO P w0 (Still v H') ((exO (ev (lk L b)) op ty).run P w)
theorem Yl.eff {P:Program}{w0:World}{op:Op}{ty:TypeId}{L:Fm}{H:List (Nat × Obj)}{v:Value}(h:Yl P w0 op ty L H v):Eff P w0 op ty L H (Still v H):=
 ⟨h.1,fun b w hO=>h.2 H (List.Sublist.refl _) b w hO⟩
theorem T {L:Fm}{k:Nat}{v:Value}(h:fnd? L k=some v):Ev L (.tmp k) v:=Aa h
def Gd (ops:Array Oper) (L:Fm) (g:Option (Nat × Bool)) (N:Nat) (t:Bool):Prop:=
 match g with
 |none=>t=true
 |some (j,want)=>∃ s v,(ops[j]?).bind (·.dst)=some s∧s<N∧At L s (.bool v)∧t=(v==want)
theorem Ad {ops:Array Oper}{L:Fm}{N:Nat}:Gd ops L none N true:=rfl
theorem A1 {ops:Array Oper}{L:Fm}{N j s:Nat}{v:Bool}(hs:(ops[j]?).bind (·.dst)=some s)(hN:Nat.blt s N=true)(ha:At L s (.bool v)):Gd ops L (some (j,v)) N true:=⟨s,v,hs,by simpa[Nat.blt_eq] using hN,ha,by simp⟩
theorem I7 {ops:Array Oper}{L:Fm}{g:Option (Nat × Bool)}{N:Nat}{t:Bool}(h:Gd ops L g N t){a:Act}{b:Nat→Value}(hs:a.tmps.size=N)(hf:fr a=lk L b){d:Option Tmp}{op:Op}{ty:TypeId}{p:String}{af:Array Edge}:
  Region.wanted ⟨d,op,ty,p,af,g⟩ (yielded ops a.tmps)=t:=by
 unfold Region.wanted;cases g with
 |none=>exact h.symm
 |some g=>
  obtain⟨j,want⟩:=g;obtain⟨s,v,h1,h2,h3,h4⟩:=h;have h5:a.tmps[s]? =some (.bool v):=by
   have:=(congrFun hf s).trans (h3 b);unfold fr at this;have hlt:s<a.tmps.size:=by rw[hs];exact h2
   simp[Array.getD_eq_getD_getElem?,hlt] at this;simp[hlt,this]
  simp only[yielded,h1,Option.bind_some,h5,h4]
  rfl
def Gu (ops:Array Oper) (L:Fm) (g:Option (Nat × Bool)) (N:Nat):Prop:=∃ j want s,g=some (j,want)∧(ops[j]?).bind (·.dst)=some s∧s<N∧At L s undef
theorem gu_u {ops:Array Oper}{L:Fm}{g:Option (Nat × Bool)}{N:Nat}(h:Gu ops L g N){a:Act}{b:Nat→Value}(hs:a.tmps.size=N)(hf:fr a=lk L b){d:Option Tmp}{op:Op}{ty:TypeId}{p:String}{af:Array Edge}:
  Region.wanted ⟨d,op,ty,p,af,g⟩ (yielded ops a.tmps)=false:=by
 obtain⟨j,want,s,rfl,h1,h2,h3⟩:=h;have h5:a.tmps[s]? =some undef:=by
  have:=(congrFun hf s).trans (h3 b);unfold fr at this;have hlt:s<a.tmps.size:=by rw[hs];exact h2
  simp[Array.getD_eq_getD_getElem?,hlt] at this;simp[hlt,this]
 simp only[Region.wanted,yielded,h1,Option.bind_some,h5]
 rfl
def Nw (ops:Array Oper) (L:Fm) (g:Option (Nat × Bool)) (N:Nat):Prop:=Gd ops L g N false∨Gu ops L g N
theorem nw_wanted {ops:Array Oper}{L:Fm}{g:Option (Nat × Bool)}{N:Nat}(h:Nw ops L g N){a:Act}{b:Nat→Value}(hs:a.tmps.size=N)(hf:fr a=lk L b){d:Option Tmp}{op:Op}{ty:TypeId}{p:String}{af:Array Edge}:
  Region.wanted ⟨d,op,ty,p,af,g⟩ (yielded ops a.tmps)=false:=h.elim (fun h=>I7 h hs hf) (fun h=>gu_u h hs hf)
def pt (d:Option Tmp) (v:Value) (L:Fm):Fm:=match d with|some d=>(d,v)::L|none=>L
def dOk (d:Option Tmp) (N:Nat):Bool:=match d with|some d=>Nat.blt d N|none=>true
theorem H4 {a:Act}{d:Option Tmp}{v:Value}{L:Fm}{b:Nat→Value}{N:Nat}(hd:dOk d N=true)(hs:a.tmps.size=N)(h:fr a=lk L b):fr (a.put d v)=lk (pt d v L) b:=by
 cases d with
 |none=>exact h
 |some d=>exact fr_put (by rw[hs];simpa[dOk,Nat.blt_eq] using hd) h
section
variable {P:Program} {r:Option Nat} {N:Nat} {w0:World} {Q:Post} {L:Fm} {ds:List Deferred} {H:List (Nat × Obj)} {ops:Array Oper} {l:List Oper} {d:Option Tmp} {op:Op} {ty:TypeId} {p:String} {af:Array Edge} {g:Option (Nat × Bool)} {K:Value→List (Nat × Obj)→Prop} {v:Value}
theorem eff_wpIn {Q':Exit→Act→World→Prop}{next:Act→World→Prop}{a:Act}{b:Nat→Value}{w:World}(hf:fr a=lk L b)(he:Eff P w0 op ty L H K)(hO:Own w0 H w)
  (k:∀ v H' w',K v H'→Own w0 H' w'→next (a.put d v) w'):Oper.wpIn (rd r) 0 P ⟨d,op,ty,p,af,g⟩ a w next Q':=by
 refine⟨fun f _=>H3 r f,?_⟩;rw[semAt_rd r _ he.1,eval_fr',hf];have h:=he.2 b w hO
 generalize (exO (ev (lk L b)) op ty).run P w=res at h;cases res with
 |ok n w'=>
  cases n<;>simp only[effO] at h<;>simp only[Oper.uponIn]
  case value v=>obtain⟨H',h1,h2⟩:=h;exact k v H' w' h2 h1
  case skip=>obtain⟨H',h1,h2⟩:=h;exact k undef H' w' h2 h1
  case enter f args=>
   refine⟨Iz r,callsIn_rd (h.mono fun e w'' ⟨v,H',he',h1,h2⟩=> ?_)⟩;subst he';exact k v H' w'' h2 h1
  case round l f tmps assign body=>
   refine⟨Iz r,roundIn_rd (h.mono fun e w'' ⟨v,H',he',h1,h2⟩=> ?_)⟩;subst he';exact k v H' w'' h2 h1
 |halt x w'=>simp only[effO] at h
theorem A2 (he:Eff P w0 op ty L H K)(hN:dOk d N=true)(hg:Gd ops L g N true)(k:∀ v H',K v H'→JL P r N w0 ops l Q (pt d v L) ds H'):JL P r N w0 ops (⟨d,op,ty,p,af,g⟩::l) Q L ds H:=fun b w hO a hs hf hd=>by
 unfold wpListIn;rw[if_pos (I7 hg hs hf)];refine eff_wpIn hf he hO fun v H' w' hk hO'=> ?_
 exact k v H' hk b w' hO' _ (by rw[C0];exact hs) (H4 hN hs hf) (by rw[Cj];exact hd)
theorem Ax (hy:Yl P w0 op ty L H v)(hN:dOk d N=true)(hg:Gd ops L g N true)(k:JL P r N w0 ops l Q (pt d v L) ds H):JL P r N w0 ops (⟨d,op,ty,p,af,g⟩::l) Q L ds H:=
 A2 hy.eff hN hg (by rintro _ _ ⟨rfl,rfl⟩;exact k)
theorem y_ (hy:Yl P w0 op ty L H v)(k:JL P r N w0 ops l Q (pt d v L) ds H)(hN:dOk d N=true):JL P r N w0 ops (⟨d,op,ty,p,af,none⟩::l) Q L ds H:=Ax hy hN Ad k
theorem e_ (he:Eff P w0 op ty L H K)(k:∀ v H',K v H'→JL P r N w0 ops l Q (pt d v L) ds H')(hN:dOk d N=true):JL P r N w0 ops (⟨d,op,ty,p,af,none⟩::l) Q L ds H:=A2 he hN Ad k
theorem jl_n (hN:dOk d N=true)(hg:Nw ops L g N)(k:JL P r N w0 ops l Q (pt d undef L) ds H):JL P r N w0 ops (⟨d,op,ty,p,af,g⟩::l) Q L ds H:=fun b w hO a hs hf hd=>by
 unfold wpListIn;rw[if_neg (by rw[nw_wanted hg hs hf];simp)];exact⟨fun f _=>H3 r f,k b w hO _ (by rw[C0];exact hs) (H4 hN hs hf) (by rw[Cj];exact hd)⟩
theorem Aw {s:Nat}{t:Bool}(ha:At L s (.bool t))(ht:t=true→JL P r N w0 ops l Q ((s, .bool true)::L) ds H)(hf:t=false→JL P r N w0 ops l Q ((s, .bool false)::L) ds H):JL P r N w0 ops l Q L ds H:=fun b w hO=>by
 have e:∀ u,t=u→lk ((s, .bool u)::L) b=lk L b:=fun u hu=>by
  subst hu;exact Dq (K:=[(s, .bool t)]) (L:=L) (b:=b) ⟨ha,trivial⟩
 cases t
 ·have:=hf U b w hO;rw[e _ rfl] at this;exact this
 ·have:=ht U b w hO;rw[e _ rfl] at this;exact this
theorem Am {s:Nat}{p:Prop}[Decidable p] (ha:At L s (.bool (decide p)))(ht:p→JL P r N w0 ops l Q ((s, .bool true)::L) ds H)(hf: ¬ p→JL P r N w0 ops l Q ((s, .bool false)::L) ds H):JL P r N w0 ops l Q L ds H:=
 Aw ha (fun h=>ht (of_decide_eq_true h)) (fun h=>hf (of_decide_eq_false h))
end
def Cell (w0:World) (H:List (Nat × Obj)) (p:Addr) (v:Value):Prop:=∀ w,Own w0 H w→w.cell? p=some v
theorem Cell.mono {w0:World}{H H':List (Nat × Obj)}{p:Addr}{v:Value}(h:Cell w0 H p v)(hs:H.Sublist H'):Cell w0 H' p v:=fun w hO=>h w (hO.sub hs)
theorem Df {w0:World}{H:List (Nat × Obj)}{n i:Nat}{l:List Value}{t:TypeId}{v:Value}(hf:Fnd H n (Cl l t))(hi:l[i]? =some v):Cell w0 H ⟨n,i,none⟩ v:=fun w hO=>hO.cell hf hi
def Cells (w0:World) (H:List (Nat × Obj)) (b off:Nat) (vs:List Value):Prop:=∀ i v,vs[i]? =some v→Cell w0 H ⟨b,off+i,none⟩ v
theorem Cells.mono {w0:World}{H H':List (Nat × Obj)}{b off:Nat}{vs:List Value}(h:Cells w0 H b off vs)(hs:H.Sublist H'):Cells w0 H' b off vs:=fun i v hi=>(h i v hi).mono hs
theorem Aj {w0:World}{H:List (Nat × Obj)}{n:Nat}{l:List Value}{t:TypeId}(hf:Fnd H n (Cl l t)):Cells w0 H n 0 l:=fun i v hi=>by rw[Nat.zero_add];exact Df hf hi
theorem c_o {w0:World}{H:List (Nat × Obj)}{n i:Nat}{l:List Value}{t:TypeId}{v:Value}(hf:Fnd H n (Cl l t):=by(repeat (first|exact Av|refine Az ?_|refine By ?_));done)(hi:nth? l i=some v:=by rfl):Cell w0 H ⟨n,i,none⟩ v:=Df hf (I5 hi)
theorem Ay {w0:World}{H:List (Nat × Obj)}{n:Nat}{l:List Value}{t:TypeId}(hf:Fnd H n (Cl l t):=by(repeat (first|exact Av|refine Az ?_|refine By ?_));done):Cells w0 H n 0 l:=Aj hf
theorem cs_m {w0:World}{H H':List (Nat × Obj)}{b off:Nat}{vs:List Value}(h:Cells w0 H b off vs)(hs:H.Sublist H':=by exact sbt):Cells w0 H' b off vs:=h.mono hs
def oneB:Value→Bool
 | .agg _=>false
 | .tuple _=>false
 |_=>true
inductive Cs:Value→List Value→Prop
 |agg {l}:Cs (.agg l.toArray) l
 |one {v}:oneB v=true→Cs v [v]
theorem cs_ {v:Value}{l:List Value}(h:Cs v l:=by first|exact .agg|exact .one U):Cs v l:=h
theorem Cs.cells {v:Value}{l:List Value}(h:Cs v l):v.cells=l.toArray:=by
 cases h with
 |agg=>rfl
 |one h=>cases v<;>first|rfl|cases h
section
variable {P:Program} {w0:World} {L:Fm} {H:List (Nat × Obj)} {ty:TypeId}
theorem Ig {op:Op}{v:Value}(hd:Op.isDefer op=false)(h:∀ H',H.Sublist H'→∀ b w,Own w0 H' w→(exO (ev (lk L b)) op ty).run P w= .ok (.value v) w):Yl P w0 op ty L H v:=
 ⟨hd,fun H' hs b w hO=>by rw[h H' hs b w hO];exact⟨H',hO,rfl,rfl⟩⟩
theorem Ba {op:Op}{v:Value}(hd:Op.isDefer op=false)(h:∀ b w,(exO (ev (lk L b)) op ty).run P w= .ok (.value v) w):Yl P w0 op ty L H v:=Ig hd fun _ _ b w _=>h b w
theorem H7 {x:Operand}{v:Value}(h:Ev L x v):Yl P w0 (.move x) ty L H v:=Ba rfl fun b w=>by simp[exO,execOp,h b]
theorem yl_assign {x:Operand}{v:Value}(h:Ev L x v):Yl P w0 (.assign x) ty L H v:=Ba rfl fun b w=>by simp[exO,execOp,h b]
theorem yl_pick_t {c x y:Operand}{v:Value}(hc:Ev L c (.bool true))(h:Ev L x v):Yl P w0 (.pick c x y) ty L H v:=Ba rfl fun b w=>by simp[exO,execOp,h b,hc b,asBool,Sem.run_bind,Result.andThen]
theorem yl_pick_f {c x y:Operand}{v:Value}(hc:Ev L c (.bool false))(h:Ev L y v):Yl P w0 (.pick c x y) ty L H v:=Ba rfl fun b w=>by simp[exO,execOp,h b,hc b,asBool,Sem.run_bind,Result.andThen]
theorem B9 {x:Operand}{t:Bool}(h:Ev L x (.bool t)){xt:TypeId}:Yl P w0 (.unOp .not xt x) ty L H (.bool !t):=Ba rfl fun b w=>by simp[exO,execOp,h b,Op.unary,Sem.run_bind,Result.andThen]
theorem Bs {x:Operand}{p:Prop}[Decidable p] (h:Ev L x (.bool (decide p))){xt:TypeId}:Yl P w0 (.unOp .not xt x) ty L H (.bool (decide ¬ p)):=Ba rfl fun b w=>by simp[exO,execOp,h b,Op.unary,Sem.run_bind,Result.andThen]
section ints
variable {x y:Operand} {a c:Int} {xt yt:TypeId} {k:IntKind}
theorem Bh (hx:Ev L x (.int .i64 a))(hy:Ev L y (.int .i64 c))(h: -9223372036854775808≤a+c∧a+c≤9223372036854775807):Yl P w0 (.binOp .add xt x y yt) ty L H (.int .i64 (a+c)):=Ba U fun b w=>by
 simp[exO,execOp,hx b,hy b,binOp,eqGuard,Op.intArith,IntWalk.i64_in _ h,Sem.run_bind,Result.andThen]
theorem Ih (hx:Ev L x (.int .i64 a))(hy:Ev L y (.int .i64 c))(h: -9223372036854775808≤a - c∧a - c≤9223372036854775807):Yl P w0 (.binOp .sub xt x y yt) ty L H (.int .i64 (a - c)):=Ba U fun b w=>by
 simp[exO,execOp,hx b,hy b,binOp,eqGuard,Op.intArith,IntWalk.i64_in _ h,Sem.run_bind,Result.andThen]
theorem yl_mul (hx:Ev L x (.int .i64 a))(hy:Ev L y (.int .i64 c))(h: -9223372036854775808≤a*c∧a*c≤9223372036854775807):Yl P w0 (.binOp .mul xt x y yt) ty L H (.int .i64 (a*c)):=Ba U fun b w=>by
 simp[exO,execOp,hx b,hy b,binOp,eqGuard,Op.intArith,IntWalk.i64_in _ h,Sem.run_bind,Result.andThen]
theorem yl_lss (hx:Ev L x (.int k a))(hy:Ev L y (.int k c)):Yl P w0 (.binOp .lss xt x y yt) ty L H (.bool (decide (a<c))):=Ba U fun b w=>by
 simp[exO,execOp,hx b,hy b,binOp,eqGuard,Op.intCmp,Sem.run_bind,Result.andThen]
theorem yl_leq (hx:Ev L x (.int k a))(hy:Ev L y (.int k c)):Yl P w0 (.binOp .leq xt x y yt) ty L H (.bool (decide (a≤c))):=Ba U fun b w=>by
 simp[exO,execOp,hx b,hy b,binOp,eqGuard,Op.intCmp,Sem.run_bind,Result.andThen]
theorem yl_gtr (hx:Ev L x (.int k a))(hy:Ev L y (.int k c)):Yl P w0 (.binOp .gtr xt x y yt) ty L H (.bool (decide (c<a))):=Ba U fun b w=>by
 simp[exO,execOp,hx b,hy b,binOp,eqGuard,Op.intCmp,Sem.run_bind,Result.andThen]
theorem yl_geq (hx:Ev L x (.int k a))(hy:Ev L y (.int k c)):Yl P w0 (.binOp .geq xt x y yt) ty L H (.bool (decide (c≤a))):=Ba U fun b w=>by
 simp[exO,execOp,hx b,hy b,binOp,eqGuard,Op.intCmp,Sem.run_bind,Result.andThen]
theorem yl_eql (hx:Ev L x (.int k a))(hy:Ev L y (.int k c)):Yl P w0 (.binOp .eql xt x y yt) ty L H (.bool (decide (a=c))):=Ba U fun b w=>by
 have e:(a==c)=decide (a=c):=rfl;simp[exO,execOp,hx b,hy b,binOp,eqGuard,Op.intCmp,Sem.run_bind,Result.andThen,e]
theorem yl_neq (hx:Ev L x (.int k a))(hy:Ev L y (.int k c)):Yl P w0 (.binOp .neq xt x y yt) ty L H (.bool (decide (¬ a=c))):=Ba U fun b w=>by
 have e:(a !=c)=decide (¬ a=c):=by by_cases h:a=c<;>simp[h]
 simp[exO,execOp,hx b,hy b,binOp,eqGuard,Op.intCmp,Sem.run_bind,Result.andThen,e]
theorem yl_quo (hx:Ev L x (.int .i64 a))(hy:Ev L y (.int .i64 c))(h:0≤a∧a≤9223372036854775807∧1≤c):Yl P w0 (.binOp .quo xt x y yt) ty L H (.int .i64 (a / c)):=Ba U fun b w=>by
 have hc:c≠0:=by omega
 simp[exO,execOp,hx b,hy b,binOp,eqGuard,Op.intDiv,hc,IntWalk.i64_quo _ _ h,Sem.run_bind,Result.andThen]
theorem yl_rem (hx:Ev L x (.int k a))(hy:Ev L y (.int k c))(h:0≤a∧1≤c):Yl P w0 (.binOp .rem xt x y yt) ty L H (.int k (a % c)):=Ba U fun b w=>by
 have hc:c≠0:=by omega
 have e:a.tmod c=a % c:=Int.tmod_eq_emod_of_nonneg h.1;simp[exO,execOp,hx b,hy b,binOp,eqGuard,Op.intDiv,hc,e,Sem.run_bind,Result.andThen]
end ints
section more
variable {x y:Operand} {xt t:TypeId}
theorem yl_len {e:TypeId}{q:Option Addr}{n c:Nat}(hx:Ev L x (.slice q n c))(ht:∀ w,(underlying t).run P w= .ok (.slice e) w):Yl P w0 (.call {callee:= .builtin .len,args:= #[x],argTypes:= #[t]}) ty L H (.int .i64 n):=Ba U fun b w=>by
 simp[exO,execOp,resolve,invoke,builtin,Builtin.len_,hx b,ht,goInt,Sem.run_bind,Result.andThen]
theorem D7 {s:ByteArray}(hx:Ev L x (.string s))(ht:∀ w,(underlying t).run P w= .ok .string w):Yl P w0 (.call {callee:= .builtin .len,args:= #[x],argTypes:= #[t]}) ty L H (.int .i64 s.size):=Ba U fun b w=>by
 simp[exO,execOp,resolve,invoke,builtin,Builtin.len_,hx b,ht,goInt,Sem.run_bind,Result.andThen]
theorem yl_max {a c:Int}(hx:Ev L x (.int .i64 a))(hy:Ev L y (.int .i64 c)){ts:Array TypeId}:Yl P w0 (.call {callee:= .builtin .max,args:= #[x,y],argTypes:=ts}) ty L H (.int .i64 (max a c)):=Ba U fun b w=>by
 have e:(if c>a then c else a)=max a c:=by rw[Int.max_def];split<;>split<;>omega
 simp[exO,execOp,resolve,invoke,builtin,Builtin.max_,Builtin.max2,hx b,hy b,e,Sem.run_bind,Result.andThen]
theorem yl_min {a c:Int}(hx:Ev L x (.int .i64 a))(hy:Ev L y (.int .i64 c)){ts:Array TypeId}:Yl P w0 (.call {callee:= .builtin .min,args:= #[x,y],argTypes:=ts}) ty L H (.int .i64 (min a c)):=Ba U fun b w=>by
 have e:(if c<a then c else a)=min a c:=by rw[Int.min_def];split<;>split<;>omega
 simp[exO,execOp,resolve,invoke,builtin,Builtin.min_,Builtin.min2,hx b,hy b,e,Sem.run_bind,Result.andThen]
theorem yl_extract {l:List Value}{i:Nat}{v:Value}(hx:Ev L x (.tuple l.toArray))(hi:nth? l i=some v):Yl P w0 (.extract x i) ty L H v:=Ba U fun b w=>by
 simp[exO,execOp,Instr.extract,hx b,I5 hi,Sem.run_bind,Result.andThen]
theorem Eg {s:ByteArray}{k:Nat}(hx:Ev L x (.string s))(hy:Ev L y (.int .i64 (k:Int)))(ht:∀ w,(underlying t).run P w= .ok .string w)(h:k<s.size):Yl P w0 (.index t x y) ty L H (.int .u8 (s[k].toNat:Int)):=Ba U fun b w=>by
 have h0:(0:Int)≤k:=by omega
 simp[exO,execOp,hx b,hy b,Instr.index,asIntOf,ht,h0,h,Sem.run_bind,Result.andThen]
theorem yl_eqS {s u:ByteArray}(hx:Ev L x (.string s))(hy:Ev L y (.string u)){yt:TypeId}:Yl P w0 (.binOp .eql t x y yt) ty L H (.bool (s.toList==u.toList)):=Ba U fun b w=>by
 simp[exO,execOp,hx b,hy b,binOp,eqGuard,Op.stringOp,Sem.run_bind,Result.andThen]
theorem yl_eqA {xs ys:Array Value}{q:Prop}[Decidable q] (hx:Ev L x (.agg xs))(hy:Ev L y (.agg ys))(hg:P.eqGuardType P.depth t=false)(he:∀ w,(Op.equal t (.agg xs) (.agg ys)).run P w= .ok (decide q) w){yt:TypeId}:Yl P w0 (.binOp .eql t x y yt) ty L H (.bool (decide q)):=Ba U fun b w=>by
 have hr:∀ w,Sem.run P program w= .ok P w:=fun w=>rfl
 simp[exO,execOp,hx b,hy b,binOp,eqGuard,hg,he,hr,Sem.run_bind,Result.andThen]
theorem yl_fa {f b o o':Nat}(hx:Ev L x (.pointer (some ⟨b,o,none⟩)))(hf:∀ b o w,(Instr.fieldAt t (.pointer (some ⟨b,o,none⟩)) f).run P w= .ok (.pointer (some ⟨b,o+o',none⟩)) w):Yl P w0 (.fieldAddr t x f) ty L H (.pointer (some ⟨b,o+o',none⟩)):=Ba U fun b w=>by
 simp[exO,execOp,hx b,hf,Sem.run_bind,Result.andThen]
theorem yl_fa0 {f b o:Nat}(hx:Ev L x (.pointer (some ⟨b,o,none⟩)))(hf:∀ b o w,(Instr.fieldAt t (.pointer (some ⟨b,o,none⟩)) f).run P w= .ok (.pointer (some ⟨b,o,none⟩)) w):Yl P w0 (.fieldAddr t x f) ty L H (.pointer (some ⟨b,o,none⟩)):=Ba U fun b w=>by
 simp[exO,execOp,hx b,hf,Sem.run_bind,Result.andThen]
theorem Ii (b o n:Nat):(⟨b,o,none⟩:Addr).add n=⟨b,o+n,none⟩:=by unfold Addr.add;split<;>simp_all
theorem yl_ixN {e:TypeId}{b o n c sz k:Nat}(hx:Ev L x (.slice (some ⟨b,o,none⟩) n c))(hy:Ev L y (.int .i64 (k:Int)))(ht:∀ w,(underlying t).run P w= .ok (.slice e) w)(hz:∀ w,(sizeOf e).run P w= .ok sz w)(h:k<n):Yl P w0 (.indexAddr t x y) ty L H (.pointer (some ⟨b,o+k*sz,none⟩)):=Ba U fun b w=>by
 have h0:(0:Int)≤k∧(k:Int)<n:=by omega
 simp[exO,execOp,hx b,hy b,Instr.indexAt,asIntOf,ht,hz,h,Ii,Sem.run_bind,Result.andThen]
theorem yl_ixI {e:TypeId}{b o n c sz:Nat}{i:Int}(hx:Ev L x (.slice (some ⟨b,o,none⟩) n c))(hy:Ev L y (.int .i64 i))(ht:∀ w,(underlying t).run P w= .ok (.slice e) w)(hz:∀ w,(sizeOf e).run P w= .ok sz w)(h:0≤i∧i<n):Yl P w0 (.indexAddr t x y) ty L H (.pointer (some ⟨b,o+i.toNat*sz,none⟩)):=Ba U fun b w=>by
 simp[exO,execOp,hx b,hy b,Instr.indexAt,asIntOf,ht,hz,h,Ii,Sem.run_bind,Result.andThen]
def bq:Option Addr→Nat
 |some a=>a.block
 |none=>0
def oq:Option Addr→Nat
 |some a=>a.off
 |none=>0
def Bas (q:Option Addr):Prop:=q=some ⟨bq q,oq q,none⟩
theorem Bk {e:TypeId}{q:Option Addr}{n c sz k:Nat}(hx:Ev L x (.slice q n c))(hy:Ev L y (.int .i64 (k:Int)))(ht:∀ w,(underlying t).run P w= .ok (.slice e) w)(hz:∀ w,(sizeOf e).run P w= .ok sz w)(h:k<n)(hq:Bas q):Yl P w0 (.indexAddr t x y) ty L H (.pointer (some ⟨bq q,oq q+k*sz,none⟩)):=
 yl_ixN (by rw[← hq];exact hx) hy ht hz h
theorem C5 {e:TypeId}{q:Option Addr}{n c sz:Nat}{i:Int}(hx:Ev L x (.slice q n c))(hy:Ev L y (.int .i64 i))(ht:∀ w,(underlying t).run P w= .ok (.slice e) w)(hz:∀ w,(sizeOf e).run P w= .ok sz w)(h:0≤i∧i<n)(hq:Bas q):Yl P w0 (.indexAddr t x y) ty L H (.pointer (some ⟨bq q,oq q+i.toNat*sz,none⟩)):=
 yl_ixI (by rw[← hq];exact hx) hy ht hz h
theorem Ab {p:Addr}{v:Value}(hx:Ev L x (.pointer (some p)))(ht:∀ w,(isAgg t).run P w= .ok false w)(hc:Cell w0 H p v):Yl P w0 (.load t x) ty L H v:=Ig U fun H' hs b w hO=>by
 have:=hc.mono hs w hO;simp[exO,execOp,hx b,Instr.loadAt,Instr.sureAddr,loadVar,ht,load,Sem.run,this,Sem.run_bind,Result.andThen]
theorem Dk {b o:Nat}{w:World}:∀ (vs:List Value) (i:Nat) (acc:Array Value),(∀ j v,vs[j]? =some v→w.cell? ⟨b,o+(i+j),none⟩=some v)→(loadCellsFrom ⟨b,o,none⟩ i vs.length acc).run P w= .ok (acc++vs.toArray) w
 |[],i,acc,_=>by simp[loadCellsFrom]
 |v::vs,i,acc,h=>by
  have h0:=h 0 v U;rw[Nat.add_zero] at h0;have ih:=Dk vs (i+1) (acc.push v) (fun j u hj=>by rw[show i+1+j=i+(j+1) by omega];exact h (j+1) u (by simpa using hj));simp[loadCellsFrom,load,Sem.run_bind,Sem.run,Result.andThen,Ii,h0,ih]
theorem Ag {b o n:Nat}{vs:List Value}(hx:Ev L x (.pointer (some ⟨b,o,none⟩)))(ht:∀ w,(isAgg t).run P w= .ok true w)(hz:∀ w,(sizeOf t).run P w= .ok n w)(hn:vs.length=n)(hc:Cells w0 H b o vs):Yl P w0 (.load t x) ty L H (.agg vs.toArray):=Ig U fun H' hs b' w hO=>by
 have:=Dk (P:=P) (b:=b) (o:=o) (w:=w) vs 0 #[] (fun j v hj=>by rw[Nat.zero_add];exact(hc j v hj).mono hs w hO);rw[hn] at this;simp[exO,execOp,hx b',Instr.loadAt,Instr.sureAddr,loadVar,ht,hz,loadCells,this,Sem.run_bind,Result.andThen]
end more
end
def setL:List Value→Nat→List Value→List Value
 |l,_,[]=>l
 |l,o,v::r=>setL (l.set o v) (o+1) r
theorem setL_all:∀ (vs pre l:List Value),l.length=vs.length→setL (pre++l) pre.length vs=pre++vs
 |[],pre,l,h=>by have:l=[]:=List.eq_nil_of_length_eq_zero h;simp[setL,this]
 |v::vs,pre,[],h=>by simp at h
 |v::vs,pre,x::l,h=>by
  rw[setL];have e:(pre++x::l).set pre.length v=(pre++[v])++l:=by simp
  rw[e];have:=setL_all vs (pre++[v]) l (by simpa using h);simp only[List.length_append,List.length_cons,List.length_nil,Nat.zero_add] at this;rw[this];simp
theorem setL_whole {l vs:List Value}(h:l.length=vs.length):setL l 0 vs=vs:=by simpa using setL_all vs [] l h
theorem putObj_self {w:World}{n:Nat}{o:Obj}(h:w.heap[n]? =some o):w.putObj n o=w:=by
 obtain⟨hlt,he⟩:=Array.getElem?_eq_some_iff.1 h;unfold World.putObj
 congr 1
 apply Array.ext
 ·simp
 ·intro k h1 h2
  by_cases hk:n=k
  ·subst hk;simp[he]
  ·rw[Array.getElem_setIfInBounds_ne (h:=hk)]
theorem putObj_put (w:World)(n:Nat)(o o':Obj):(w.putObj n o).putObj n o'=w.putObj n o':=by
 unfold World.putObj;simp
theorem run_storeCells {P:Program}{n o:Nat}{t:TypeId}:∀ (vs:List Value) (i:Nat) (l:List Value) (w:World),w.heap[n]? =some (Cl l t)→(∀ v∈vs,oneB v=true)→o+i+vs.length≤l.length→
  (storeCells ⟨n,o,none⟩ vs i).run P w= .ok () (w.putObj n (Cl (setL l (o+i) vs) t))
 |[],i,l,w,h,_,_=>by rw[setL,putObj_self h];simp[storeCells]
 |v::vs,i,l,w,h,h1,hl=>by
  have hv:=h1 v (by simp);simp only[List.length_cons] at hl;have hc:w.cell? ⟨n,o+i,none⟩=some (l[o+i]'qom):=by
   simp[World.cell?,h]
  have hf:w.frozen? ⟨n,o+i,none⟩=false:=by simp[World.frozen?,h]
  have hlt:n<w.heap.size:=(Array.getElem?_eq_some_iff.1 h).1;have e:w.setCell ⟨n,o+i,none⟩ v=w.putObj n (Cl (l.set (o+i) v) t):=by rw[setCell_put v h];simp
  have ih:=run_storeCells (P:=P) (o:=o) (n:=n) (t:=t) vs (i+1) (l.set (o+i) v) (w.putObj n (Cl (l.set (o+i) v) t)) (World.putObj_heap_same hlt) (fun u hu=>h1 u (by simp[hu])) (by rw[List.length_set];omega);rw[putObj_put,← Nat.add_assoc] at ih;have hs:(store ((⟨n,o,none⟩:Addr).add i) v).run P w= .ok () (w.putObj n (Cl (l.set (o+i) v) t)):=by
   rw[Ii];unfold store;cases v<;>first|(simp[oneB] at hv;done)|(simp only[Sem.run,hc,hf,e];simp)
  rw[storeCells,Sem.run_bind,hs];simp only[Result.andThen];rw[ih,setL]
section
variable {P:Program} {w0:World} {L:Fm} {H:List (Nat × Obj)} {ty:TypeId} {x y:Operand} {t:TypeId}
abbrev New (o:Obj) (H:List (Nat × Obj)):Value→List (Nat × Obj)→Prop:=fun v H'=>∃ n,v= .pointer (some ⟨n,0,none⟩)∧H'=(n,o)::H
theorem run_new (w:World)(t:TypeId)(l:List Value):(newRow t l.toArray).run P w= .ok ⟨w.heap.size,0,none⟩ (w.alloc (Cl l t)):=by
 simp[newRow,newObj,Sem.run,Sem.run_bind,Result.andThen]
theorem Ar {v:Value}{l:List Value}(hx:Ev L x v)(hc:Cs v l):Eff P w0 (.box t x) ty L H (New (Cl l t) H):=
 ⟨rfl,fun b w hO=>by
  have:(exO (ev (lk L b)) (.box t x) ty).run P w= .ok (.value (.pointer (some ⟨w.heap.size,0,none⟩))) (w.alloc (Cl l t)):=by
   simp[exO,execOp,hx b,Instr.box,newVar,hc.cells,run_new,Sem.run_bind,Result.andThen]
  rw[this];exact⟨_,hO.alloc _,_,rfl,rfl⟩⟩
theorem Al {v:Value}{l:List Value}(hz:∀ w,(zeroValue t).run P w= .ok v w)(hc:Cs v l):Eff P w0 (.alloc t) ty L H (New (Cl l t) H):=
 ⟨rfl,fun b w hO=>by
  have:(exO (ev (lk L b)) (.alloc t) ty).run P w= .ok (.value (.pointer (some ⟨w.heap.size,0,none⟩))) (w.alloc (Cl l t)):=by
   simp[exO,execOp,Instr.alloc,hz,newVar,hc.cells,run_new,Sem.run_bind,Result.andThen]
  rw[this];exact⟨_,hO.alloc _,_,rfl,rfl⟩⟩
theorem eff_store {n o:Nat}{v:Value}{vs l:List Value}{t':TypeId}{H':List (Nat × Obj)}(hx:Ev L x (.pointer (some ⟨n,o,none⟩)))(hy:Ev L y v)(hc:Cs v vs)(hv:vs.all oneB=true)(hz:∀ w,(sizeOf t).run P w= .ok vs.length w)
  (hu:Upd H n (Cl l t') (Cl (setL l o vs) t') H') (hl:o+vs.length≤l.length):Eff P w0 (.store t x y) ty L H (Still undef H'):=
 ⟨rfl,fun b w hO=>by
  have h1:=run_storeCells (P:=P) (o:=o) vs 0 l w (hO.has _ hu.mem) (fun u hu'=>List.all_eq_true.1 hv u hu') (by simpa using hl);have:(exO (ev (lk L b)) (.store t x y) ty).run P w= .ok .skip (w.putObj n (Cl (setL l o vs) t')):=by
   simp[exO,execOp,hx b,hy b,Instr.storeAt,Instr.sureAddr,storeVar,hc.cells,hz,h1,Sem.run_bind,Result.andThen]
  rw[this];exact⟨_,hO.put hu,rfl,rfl⟩⟩
theorem As {n m:Nat}{v:Value}{vs l:List Value}{t':TypeId}{H':List (Nat × Obj)}(hx:Ev L x (.pointer (some ⟨n,0,none⟩)))(hy:Ev L y v)(hz:∀ w,(sizeOf t).run P w= .ok m w)(hc:Cs v vs:=by first|exact .agg|exact .one U)(hv:vs.all oneB=true:=by rfl)(hm:vs.length=m:=by rfl)
  (hu:Upd H n (Cl l t') (Cl vs t') H':=by(repeat (first|exact Upd.h|apply Upd.t|apply Ci));done) (hl:l.length=vs.length:=by rfl):Eff P w0 (.store t x y) ty L H (Still undef H'):=
 eff_store hx hy hc hv (by rw[hm];exact hz) (by rw[setL_whole hl];exact hu) qom
inductive SetN:List Value→Nat→Value→List Value→Prop
 |h {x l v}:SetN (x::l) 0 v (v::l)
 |t {x l i v l'}:SetN l i v l'→SetN (x::l) (i+1) v (x::l')
def setN? :List Value→Nat→Value→Option (List Value)
 |[],_,_=>none
 |_::l,0,v=>some (v::l)
 |x::l,i+1,v=>match setN? l i v with
  |some l'=>some (x::l')
  |none=>none
theorem setN_of:∀ {l:List Value} {i:Nat} {v:Value} {l':List Value},setN? l i v=some l'→SetN l i v l'
 |[],_,_,_,h=>by cases h
 |x::l,0,v,l',h=>by simp[setN?] at h;subst h;exact .h
 |x::l,i+1,v,l',h=>by
  rw[setN?] at h;cases hs:setN? l i v with
  |none=>simp[hs] at h
  |some m=>simp[hs] at h;subst h;exact .t (setN_of hs)
theorem SetN.eq {l l':List Value}{i:Nat}{v:Value}(h:SetN l i v l'):l.set i v=l'∧i<l.length:=by
 induction h with
 |h=>simp
 |t _ ih=>simp[ih.1,ih.2]
theorem eff_store1 {n o:Nat}{v:Value}{l l':List Value}{t':TypeId}{H':List (Nat × Obj)}(hx:Ev L x (.pointer (some ⟨n,o,none⟩)))(hy:Ev L y v)(hv:oneB v=true)(hz:∀ w,(sizeOf t).run P w= .ok 1 w)
  (hs:SetN l o v l') (hu:Upd H n (Cl l t') (Cl l' t') H'):Eff P w0 (.store t x y) ty L H (Still undef H'):=
 eff_store (vs:=[v]) hx hy (.one hv) (by simpa using hv) hz (by simp only[setL];rw[hs.eq.1];exact hu) (by have:=hs.eq.2;simp;omega)
theorem B4 {n o:Nat}{v:Value}{l l':List Value}{t':TypeId}{H':List (Nat × Obj)}(hx:Ev L x (.pointer (some ⟨n,o,none⟩)))(hy:Ev L y v)(hv:oneB v=true)(hz:∀ w,(sizeOf t).run P w= .ok 1 w)
  (hs:setN? l o v=some l':=by rfl) (hu:Upd H n (Cl l t') (Cl l' t') H':=by(repeat (first|exact Upd.h|apply Upd.t|apply Ci));done):Eff P w0 (.store t x y) ty L H (Still undef H'):=eff_store1 hx hy hv hz (setN_of hs) hu
inductive Evs (L:Fm):List Operand→List Value→Prop
 |nil:Evs L [] []
 |cons {x v xs vs}:Ev L x v→Evs L xs vs→Evs L (x::xs) (v::vs)
theorem Evs.map {L:Fm}{xs:List Operand}{vs:List Value}(h:Evs L xs vs)(b:Nat→Value):xs.map (ev (lk L b))=vs:=by
 induction h with
 |nil=>rfl
 |cons h _ ih=>simp[h b,ih]
theorem Ex {f:FuncId}{xs:List Operand}{vs:List Value}{ts:Array TypeId}{cap:List Value}{b:Nat→Value}{w:World}(hx:Ev L x (.func (.func f) #[] cap.toArray))(ha:Evs L xs vs)(hf:∀ args w,(callFunc f args).run P w= .ok (.enter f args) w):
  (exO (ev (lk L b)) (.call {callee:= .value x,args:=xs.toArray,argTypes:=ts}) ty).run P w= .ok (.enter f (vs++cap).toArray) w:=by
 have:=ha.map b;simp[exO,execOp,resolve,invoke,Deferred.ofValue,hx b,this,hf,Sem.run_bind,Result.andThen]
theorem Ao {f:FuncId}{xs:List Operand}{vs:List Value}{ts:Array TypeId}{K:Value→List (Nat × Obj)→Prop}(ha:Evs L xs vs)(hf:∀ args w,(callFunc f args).run P w= .ok (.enter f args) w)(hs:FSpec P w0 f vs.toArray H K):
  Eff P w0 (.call {callee:= .value (.func f),args:=xs.toArray,argTypes:=ts}) ty L H K:=
 ⟨rfl,fun b w hO=>by rw[Ex (cap:=[]) (Ix) ha hf];simpa[effO] using hs w hO⟩
theorem An {f:FuncId}{xs:List Operand}{vs:List Value}{ts:Array TypeId}{v:Value}(ha:Evs L xs vs)(hf:∀ args w,(callFunc f args).run P w= .ok (.enter f args) w)(hs:∀ H',H.Sublist H'→FSpec P w0 f vs.toArray H' (Still v H')):
  Yl P w0 (.call {callee:= .value (.func f),args:=xs.toArray,argTypes:=ts}) ty L H v:=
 ⟨rfl,fun H' h b w hO=>by rw[Ex (cap:=[]) (Ix) ha hf];simpa[effO] using hs H' h w hO⟩
theorem Bq {f:FuncId}{xs:List Operand}{vs:List Value}{cap:List Value}{ts:Array TypeId}{K:Value→List (Nat × Obj)→Prop}(hx:Ev L x (.func (.func f) #[] cap.toArray))(ha:Evs L xs vs)(hf:∀ args w,(callFunc f args).run P w= .ok (.enter f args) w)(hs:FSpec P w0 f (vs++cap).toArray H K):
  Eff P w0 (.call {callee:= .value x,args:=xs.toArray,argTypes:=ts}) ty L H K:=
 ⟨rfl,fun b w hO=>by rw[Ex hx ha hf];simpa[effO] using hs w hO⟩
theorem G2 {f:FuncId}{xs:List Operand}{vs:List Value}{cap:List Value}{ts:Array TypeId}{v:Value}(hx:Ev L x (.func (.func f) #[] cap.toArray))(ha:Evs L xs vs)(hf:∀ args w,(callFunc f args).run P w= .ok (.enter f args) w)(hs:∀ H',H.Sublist H'→FSpec P w0 f (vs++cap).toArray H' (Still v H')):
  Yl P w0 (.call {callee:= .value x,args:=xs.toArray,argTypes:=ts}) ty L H v:=
 ⟨rfl,fun H' h b w hO=>by rw[Ex hx ha hf];simpa[effO] using hs H' h w hO⟩
inductive Evp (L:Fm):List (Nat × Operand)→List (Nat × Value)→Prop
 |nil:Evp L [] []
 |cons {i x v xs vs}:Ev L x v→Evp L xs vs→Evp L ((i,x)::xs) ((i,v)::vs)
theorem Evp.map {L:Fm}{xs:List (Nat × Operand)}{vs:List (Nat × Value)}(h:Evp L xs vs)(b:Nat→Value):xs.map (fun (p:Nat × Operand)=>(p.1,ev (lk L b) p.2))=vs:=by
 induction h with
 |nil=>rfl
 |cons h _ ih=>simp[h b,ih]
theorem A4 {ps:List (Nat × Operand)}{vs:List (Nat × Value)}{v:Value}(hp:Evp L ps vs)(hb:∀ w,(Instr.build t vs.toArray).run P w= .ok v w):Yl P w0 (.build t ps.toArray) ty L H v:=Ba U fun b w=>by
 have:=hp.map b;simp[exO,execOp,this,hb,Sem.run_bind,Result.andThen]
theorem Cc {f:FuncId}{cs:List Operand}{vs:List Value}(hc:Evs L cs vs):Yl P w0 (.makeFunc (.func f) #[] cs.toArray) ty L H (.func (.func f) #[] vs.toArray):=Ba U fun b w=>by
 have:=hc.map b;simp[exO,execOp,Instr.makeFunc,this,Sem.run_bind,Result.andThen]
theorem C8:Eff P w0 (.makeMap t none) ty L H (fun v H'=>∃ n,v= .map (some n)∧H'=(n, .map #[] 0)::H):=
 ⟨rfl,fun b w hO=>by
  have:(exO (ev (lk L b)) (.makeMap t none) ty).run P w= .ok (.value (.map (some w.heap.size))) (w.alloc (.map #[] 0)):=by
   simp[exO,execOp,Instr.makeMap,newObj,Sem.run,Sem.run_bind,Result.andThen]
  rw[this];exact⟨_,hO.alloc _,_,rfl,rfl⟩⟩
end
def ini:Nat→List Value→Fm
 |_,[]=>[]
 |i,v::r=>(i,v)::ini (i+1) r
theorem Hn:∀ (vs:List Value) (i k:Nat) (b:Nat→Value),lk (ini i vs) b k=if i≤k then (match vs[k - i]? with|some v=>v|none=>b k) else b k
 |[],i,k,b=>by simp[ini,lk]
 |v::vs,i,k,b=>by
  rw[ini,lk];cases h:Nat.beq i k
  ·have hne:i≠k:=fun e=>by rw[e,Nat.beq_refl] at h;cases h
   simp only[Hn vs (i+1) k b]
   by_cases hik:i+1≤k
   ·rw[if_pos hik,if_pos qom,show k - i=(k - (i+1))+1 by omega];simp
   ·rw[if_neg hik,if_neg qom]
  ·have:=Nat.eq_of_beq_eq_true h;subst this;simp
def Res (P:Program) (fn:Func) (σ:Nat→Value) (w:World) (v:Value):Prop:=∀ tmps:Array Value,(fun k=>tmps.getD k undef)=σ→(results fn tmps).run P w= .ok v w
def RetW (P:Program) (fn:Func) (w0:World) (K:Value→List (Nat × Obj)→Prop) (σ:Nat→Value):List Deferred→World→Prop
 |[],w=>∃ v H,Res P fn σ w v∧Own w0 H w∧K v H
 |d::ds,w=>∃ D w',d.target= .collected D∧(Instr.takeDeferred D).run P w= .ok [] w'∧RetW P fn w0 K σ ds w'
def retQ (P:Program) (fn:Func) (w0:World) (K:Value→List (Nat × Obj)→Prop):Post
 | .normal,σ,ds,w=>RetW P fn w0 K σ ds w
 | .ret,σ,ds,w=>RetW P fn w0 K σ ds w
 |_,_,_,_=>False
theorem leaves_of {P:Program}{fn:Func}{w0:World}{K:Value→List (Nat × Obj)→Prop}{tmps:Array Value}:∀ {ds:List Deferred} {w:World},RetW P fn w0 K (fun k=>tmps.getD k undef) ds w→
  LeavesInM Fence.wide 0 P fn tmps (fun e w'=>∃ v H',e= .returned v∧Own w0 H' w'∧K v H') ds .returning w
 |[],w,⟨v,H,hr,hO,hK⟩=>by
  unfold LeavesInM LeavesIn;exact⟨v,hr _ U,v,H,rfl,hO,hK⟩
 |d::ds,w,⟨D,w',h1,h2,h3⟩=>by
  unfold LeavesInM;exact⟨by simp, .inl ⟨D,w',h1,h2,leaves_of h3⟩⟩
theorem Aq {P:Program}{w0:World}{f:FuncId}{fn:Func}{c:Code}{vs:List Value}{H:List (Nat × Obj)}{K:Value→List (Nat × Obj)→Prop}{N:Nat}(hf:P.funcs[f]? =some fn)(hb:fn.body=some c)(hN:fn.ntmps=N)(hv:Nat.ble vs.length N=true)
  (h:J P none N w0 c (retQ P fn w0 K) (ini 0 vs) [] H):FSpec P w0 f vs.toArray H K:=fun w hO=>by
 have hv':vs.length≤N:=by simpa using hv
 refine callsIn_wide.1 (callsIn_of_wp_marks (n:=0) (F:=Fence.wide) hf hb trivial ?_ U);have h1:=h (fun _=>undef) w hO {tmps:=vs.toArray++Array.replicate (fn.ntmps - vs.toArray.size) undef,defers:=[]} (by simp[hN];omega) (by
  funext k
  rw[Hn];unfold fr;simp only[Nat.zero_le,if_true,Nat.sub_zero,Array.getD_eq_getD_getElem?]
  by_cases hk:k<vs.length
  ·simp[Array.getElem?_append,hk]
  ·simp only[List.size_toArray,Array.getElem?_append,hk,if_false];rw[List.getElem?_eq_none qom];simp only[Array.getElem?_replicate]
   split<;>rfl) U
 refine wpIn_mono h1 fun e a w' hq=> ?_
 obtain⟨hs,hq⟩:=hq;cases e<;>first|exact leaves_of hq|exact hq.elim
section
variable {P:Program} {w0:World} {L:Fm} {H:List (Nat × Obj)} {fn:Func} {K:Value→List (Nat × Obj)→Prop}
inductive ResV (P:Program) (w0:World) (L:Fm) (H:List (Nat × Obj)):List ResultVar→List Value→Prop
 |nil:ResV P w0 L H [] []
 |tmp {k v rs vs}:At L k v→ResV P w0 L H rs vs→ResV P w0 L H (.tmp k::rs) (v::vs)
 |cell {k p t v rs vs}:At L k (.pointer (some p))→(∀ w,(isAgg t).run P w= .ok false w)→Cell w0 H p v→ResV P w0 L H rs vs→ResV P w0 L H (.cell k t::rs) (v::vs)
 |cellA {k b o t n l rs vs}:At L k (.pointer (some ⟨b,o,none⟩))→(∀ w,(isAgg t).run P w= .ok true w)→(∀ w,(sizeOf t).run P w= .ok n w)→l.length=n→Cells w0 H b o l→ResV P w0 L H rs vs→ResV P w0 L H (.cell k t::rs) (.agg l.toArray::vs)
def resOf:List Value→Value
 |[v]=>v
 |vs=> .tuple vs.toArray
def resF (tmps:Array Value):ResultVar→Sem Value
 | .tmp t=>pure (tmps.getD t undef)
 | .cell a t=>do loadVar t (← asAddr (tmps.getD a undef))
theorem resV_run {rs:List ResultVar}{vs:List Value}(h:ResV P w0 L H rs vs){b:Nat→Value}{w:World}(hO:Own w0 H w){tmps:Array Value}(ht:(fun k=>tmps.getD k undef)=lk L b):
  Sem.run P (rs.mapM (resF tmps)) w=Result.ok vs w:=by
 induction h with
 |nil=>simp
 | @tmp k v rs vs ha _ ih=>
  have:=(congrFun ht k).trans (ha b);have e:resF tmps (.tmp k)=pure v:=by show (pure (tmps.getD k undef):Sem Value)=_;rw[this]
  simp[List.mapM_cons,Sem.run_bind,Result.andThen,ih,e]
 | @cell k p t v rs vs ha h1 hc _ ih=>
  have:=(congrFun ht k).trans (ha b);have hc':=hc w hO;have e:Sem.run P (resF tmps (.cell k t)) w= .ok v w:=by
   show Sem.run P (do loadVar t (← asAddr (tmps.getD k undef))) w=_;rw[this];simp[Sem.run_bind,Result.andThen,asAddr,loadVar,h1,load,Sem.run,hc']
  simp[List.mapM_cons,Sem.run_bind,Result.andThen,ih,e]
 | @cellA k b' o t n l rs vs ha h1 h2 h3 hc _ ih=>
  have:=(congrFun ht k).trans (ha b);have h4:=Dk (P:=P) (b:=b') (o:=o) (w:=w) l 0 #[] (fun j v hj=>by rw[Nat.zero_add];exact hc j v hj w hO);rw[h3] at h4;have e:Sem.run P (resF tmps (.cell k t)) w= .ok (.agg l.toArray) w:=by
   show Sem.run P (do loadVar t (← asAddr (tmps.getD k undef))) w=_;rw[this];simp[Sem.run_bind,Result.andThen,asAddr,loadVar,h1,h2,loadCells,h4]
  simp[List.mapM_cons,Sem.run_bind,Result.andThen,ih,e]
theorem results_eq (fn:Func)(tmps:Array Value):results fn tmps=(do let vs ← fn.results.mapM (resF tmps);pure (if h:vs.size=1 then vs[0] else .tuple vs)):=rfl
theorem Fl {rs:List ResultVar}{vs:List Value}(hr:fn.results=rs.toArray)(h:ResV P w0 L H rs vs){b:Nat→Value}{w:World}(hO:Own w0 H w):Res P fn (lk L b) w (resOf vs):=fun tmps ht=>by
 have h1:=resV_run h hO ht;rw[results_eq,hr];simp only[List.mapM_toArray,Sem.run_bind];rw[Sem.run_map,h1];simp only[Result.andThen,Sem.run_pure];cases vs with
 |nil=>rfl
 |cons v vs=>cases vs<;>rfl
theorem Ah {rs:List ResultVar}{vs:List Value}(hr:fn.results=rs.toArray)(h:ResV P w0 L H rs vs)(hK:∃ H',K (resOf vs) H'∧H'.Sublist H):JQ w0 (retQ P fn w0 K) .ret L [] H:=fun b w hO=>⟨_,hK.choose,Fl hr h hO,hO.sub hK.choose_spec.2,hK.choose_spec.1⟩
theorem q_end {rs:List ResultVar}{vs:List Value}(hr:fn.results=rs.toArray)(h:ResV P w0 L H rs vs)(hK:∃ H',K (resOf vs) H'∧H'.Sublist H):JQ w0 (retQ P fn w0 K) .normal L [] H:=fun b w hO=>⟨_,hK.choose,Fl hr h hO,hO.sub hK.choose_spec.2,hK.choose_spec.1⟩
end
theorem qe1 {L:Fm}{k:Nat}{v:Value}(h:fnd? L k=some v):Evs L [.tmp k] [v]:= .cons (T h) .nil
theorem qe2 {L:Fm}{k k2:Nat}{v v2:Value}(h:fnd? L k=some v)(h2:fnd? L k2=some v2):Evs L [.tmp k, .tmp k2] [v,v2]:= .cons (T h) (qe1 h2)
theorem qe3 {L:Fm}{k k2 k3:Nat}{v v2 v3:Value}(h:fnd? L k=some v)(h2:fnd? L k2=some v2)(h3:fnd? L k3=some v3):Evs L [.tmp k, .tmp k2, .tmp k3] [v,v2,v3]:= .cons (T h) (qe2 h2 h3)
theorem qe4 {L:Fm}{k k2 k3 k4:Nat}{v v2 v3 v4:Value}(h:fnd? L k=some v)(h2:fnd? L k2=some v2)(h3:fnd? L k3=some v3)(h4:fnd? L k4=some v4):Evs L [.tmp k, .tmp k2, .tmp k3, .tmp k4] [v,v2,v3,v4]:= .cons (T h) (qe3 h2 h3 h4)
theorem Ke {P:Program}{w0:World}{L:Fm}{H:List (Nat × Obj)}{k:Nat}{v:Value}(h:fnd? L k=some v):ResV P w0 L H [.tmp k] [v]:= .tmp (Aa h) .nil
theorem Kf {P:Program}{w0:World}{L:Fm}{H:List (Nat × Obj)}{ty t:TypeId}{k:Nat}{p:Addr}{v:Value}(h:fnd? L k=some (.pointer (some p)))(ht:∀ w,(isAgg t).run P w= .ok false w)(hc:Cell w0 H p v):Yl P w0 (.load t (.tmp k)) ty L H v:=Ab (T h) ht hc
theorem Kg {P:Program}{w0:World}{L:Fm}{H:List (Nat × Obj)}{ty t:TypeId}{k b o n:Nat}{vs:List Value}(h:fnd? L k=some (.pointer (some ⟨b,o,none⟩)))(ht:∀ w,(isAgg t).run P w= .ok true w)(hz:∀ w,(sizeOf t).run P w= .ok n w)(hn:vs.length=n)(hc:Cells w0 H b o vs):Yl P w0 (.load t (.tmp k)) ty L H (.agg vs.toArray):=Ag (T h) ht hz hn hc
theorem Kh {P:Program}{w0:World}{L:Fm}{H:List (Nat × Obj)}{ty t e:TypeId}{i j:Nat}{q:Option Addr}{n c sz k:Nat}(h1:fnd? L i=some (.slice q n c))(h2:fnd? L j=some (.int .i64 (k:Int)))(ht:∀ w,(underlying t).run P w= .ok (.slice e) w)(hz:∀ w,(sizeOf e).run P w= .ok sz w)(h:k<n)(hq:Bas q):Yl P w0 (.indexAddr t (.tmp i) (.tmp j)) ty L H (.pointer (some ⟨bq q,oq q+k*sz,none⟩)):=Bk (T h1) (T h2) ht hz h hq
theorem Kj {P:Program}{w0:World}{L:Fm}{H:List (Nat × Obj)}{ty t:TypeId}{k:Nat}{v:Value}{l:List Value}(h:fnd? L k=some v)(hc:Cs v l):Eff P w0 (.box t (.tmp k)) ty L H (New (Cl l t) H):=Ar (T h) hc
theorem Ki {P:Program}{w0:World}{L:Fm}{H:List (Nat × Obj)}{ty t:TypeId}{i j:Nat}{n m:Nat}{v:Value}{vs l:List Value}{t':TypeId}{H':List (Nat × Obj)}(h1:fnd? L i=some (.pointer (some ⟨n,0,none⟩)))(h2:fnd? L j=some v)(hz:∀ w,(sizeOf t).run P w= .ok m w)(hc:Cs v vs:=by first|exact .agg|exact .one U)(hv:vs.all oneB=true:=by rfl)(hm:vs.length=m:=by rfl)
  (hu:Upd H n (Cl l t') (Cl vs t') H':=by(repeat (first|exact Upd.h|apply Upd.t|apply Ci));done) (hl:l.length=vs.length:=by rfl):Eff P w0 (.store t (.tmp i) (.tmp j)) ty L H (Still undef H'):=As (T h1) (T h2) hz hc hv hm hu hl
section
variable {P:Program} {r:Option Nat} {ops:Array Oper} {Q:Exit→Act→World→Prop} {w0:World} {H0:List (Nat × Obj)} {t:Nat}
abbrev md:Region.Mode:= .any
def noDefer (ops:Array Oper):Bool:=ops.toList.all fun o=> !Op.isDefer o.op
theorem noDefer_spec (h:noDefer ops=true){j:Nat}{o:Oper}(hj:ops[j]? =some o):∀ c,o.op≠.defer c:=by
 intro c hc;have h1:=List.all_eq_true.1 h o (by rw[Array.mem_toList_iff];exact Array.mem_of_getElem? hj);rw[hc] at h1;simp[Op.isDefer] at h1
def YieldsO (P:Program) (ops:Array Oper) (w0:World) (H0:List (Nat × Obj)) (o:Oper) (v:Value) (a:Act):Prop:=
 (Region.wanted o (yielded ops a.tmps)=true∧∀ H,H0.Sublist H→∀ w,Own w0 H w→effO P w0 (Still v H) ((execOp a.eval o).run P w))∨
 (Region.wanted o (yielded ops a.tmps)=false∧v=undef)
theorem YieldsO.of_same {o:Oper}{v:Value}{a a':Act}(hy:YieldsO P ops w0 H0 o v a)(he:execOp a'.eval o=execOp a.eval o)
  (hw:Region.wanted o (yielded ops a'.tmps)=Region.wanted o (yielded ops a.tmps)):YieldsO P ops w0 H0 o v a':=by
 unfold YieldsO at *;rw[he,hw];exact hy
theorem YieldsO.wpOpIn {i:Nat}{o:Oper}{v:Value}{a:Act}(hi:ops[i]? =some o)(hd:∀ c,o.op≠.defer c)(hy:YieldsO P ops w0 H0 o v a){K:Act→World→Prop}{H:List (Nat × Obj)}{w:World}(hs:H0.Sublist H)(hO:Own w0 H w)
  (h:∀ w',Own w0 H w'→K (a.put o.dst v) w'):wpOpIn (rd r) 0 P ops Q i K a w:=by
 unfold Go.wpOpIn;simp only[hi];rcases hy with ⟨hw,hv⟩|⟨hw,rfl⟩
 ·simp only[hw,if_true];refine⟨fun f _=>H3 r f,?_⟩;rw[Oper.semAt_eq _ _ _ hd];have h3:=hv H hs w hO
  generalize (execOp a.eval o).run P w=res at *;cases res with
  |ok n w'=>
   cases n<;>simp only[effO] at h3<;>simp only[Oper.uponIn]
   case value u=>obtain⟨H',h1,h2,h4⟩:=h3;subst h2;subst h4;exact h _ h1
   case skip=>obtain⟨H',h1,h2,h4⟩:=h3;subst h4;rw[h2];exact h _ h1
   case enter f args=>
    refine⟨Iz r,callsIn_rd (h3.mono fun e w'' ⟨u,H',he,h1,h2,h4⟩=> ?_)⟩;subst he;subst h2;subst h4;exact h _ h1
   case round l f tmps assign body=>
    refine⟨Iz r,roundIn_rd (h3.mono fun e w'' ⟨u,H',he,h1,h2,h4⟩=> ?_)⟩;subst he;subst h2;subst h4;exact h _ h1
  |halt x w'=>simp only[effO] at h3
 ·simp only[hw,Bool.false_eq_true,if_false];exact⟨fun f _=>H3 r f,h _ hO⟩
theorem wpOpIn_putO {j:Nat}{oi oj:Oper}{v:Value}(hj:ops[j]? =some oj)(hdj:∀ c,oj.op≠.defer c)(hap:oi.apart ops oj=true)
  (hsi:∀ cs b,oi.op≠.select cs b) (hsj:∀ cs b,oj.op≠.select cs b)
  (hQ:∀ c a w,Q (.panic c) (a.put oi.dst v) w→Q (.panic c) a w) {K:Act→World→Prop} {a:Act} {w:World}
  (hy:YieldsO P ops w0 H0 oi v a) (h:wpOpIn (rd r) 0 P ops Q j K (a.put oi.dst v) w):
  wpOpIn (rd r) 0 P ops Q j (fun a' w'=>YieldsO P ops w0 H0 oi v a'∧K (a'.put oi.dst v) w') a w:=by
 obtain⟨h1,h2,h3⟩:=Oper.apart_spec hap;have keep:∀ (a:Act),YieldsO P ops w0 H0 oi v a→∀ u,YieldsO P ops w0 H0 oi v (a.put oj.dst u):=fun a hy u=>
  hy.of_same (execOp_put oi hsi a oj.dst u h3) (wanted_put oi a oj.dst u h3)
 have keepD:∀ d,YieldsO P ops w0 H0 oi v {a with defers:=d::a.defers}:=fun d=>hy.of_same U U
 unfold Go.wpOpIn at *;simp only[hj] at *;rw[wanted_put oj a oi.dst v h1] at h
 split
 ·rename_i hw;simp only[hw,if_true] at h;unfold Oper.wpIn at *;refine⟨fun f _=>H3 r f,?_⟩;have h:=h.2;rw[Oper.semAt_eq _ _ _ hdj,execOp_put oj hsj a oi.dst v h1] at h;rw[Oper.semAt_eq _ _ _ hdj]
  generalize (execOp a.eval oj).run P w=res at *;cases res with
  |ok x w'=>
   cases x<;>simp only[Oper.uponIn] at h ⊢
   case value u=>exact⟨keep a hy u,by rw[← Act.put_comm a v u h2];exact h⟩
   case skip=>exact⟨keep a hy _,by rw[← Act.put_comm a v undef h2];exact h⟩
   case defer d=>
    refine⟨keep _ (keepD d) _,?_⟩;rw[← Act.put_comm _ v undef h2,← Act.put_defers];exact h
   case enter f args=>
    refine⟨h.1,CallsIn.mono h.2 fun e w'' he=> ?_⟩;cases e with
    |returned u=>exact⟨keep a hy u,by rw[← Act.put_comm a v u h2];exact he⟩
    |panicked c=>exact hQ _ _ _ he
    |outgrown=>exact he
   case row row args=>exact⟨h.1,RowsIn.mono h.2 fun u w'' he=>⟨keep a hy u,by rw[← Act.put_comm a v u h2];exact he⟩⟩
   case round l f tmps assign body=>
    refine⟨h.1,RoundIn.mono h.2 fun e w'' he=> ?_⟩;cases e with
    |returned u=>exact⟨keep a hy u,by rw[← Act.put_comm a v u h2];exact he⟩
    |panicked c=>exact hQ _ _ _ he
    |outgrown=>exact he
  |halt x w'=>
   cases x<;>simp only[Oper.uponIn] at h ⊢
   case panic u=>exact hQ _ _ _ h
 ·rename_i hw;simp only[hw] at h;exact⟨fun f _=>H3 r f,keep a hy _,by rw[← Act.put_comm a v undef h2];exact h.2⟩
def tailOk (ops:Array Oper):Nat→Nat→Array Bool→Bool
 |0,_,listed=>Region.ready md ops listed==[]
 |m+1,k,listed=>Region.ready md ops listed==[k]&&tailOk ops m (k+1) (listed.setIfInBounds k true)
theorem tail_run:∀ (m k:Nat) (listed:Array Bool) (a:Act) (w:World),k+m=ops.size→tailOk ops m k listed=true→wpListIn (rd r) 0 P ops Q (ops.toList.drop k) a w→wpAnyIn (rd r) 0 P md ops Q m listed a w
 |0,k,listed,a,w,hk,ht,h=>by
  have:ops.toList.drop k=[]:=List.drop_eq_nil_of_le (by simp;omega);rw[this] at h;exact⟨by simpa[tailOk] using ht,h⟩
 |m+1,k,listed,a,w,hk,ht,h=>by
  simp only[tailOk,Bool.and_eq_true,beq_iff_eq] at ht;have hlt:k<ops.toList.length:=by simp;omega
  rw[List.drop_eq_getElem_cons hlt] at h;have hj:ops[k]? =some (ops.toList[k]):=by simp
  refine⟨fun h0=>absurd (ht.1 ▸ h0) (by simp),fun i hi=> ?_⟩;rw[ht.1] at hi;obtain rfl:i=k:=by simpa using hi
  unfold wpListIn at h;unfold wpOpIn;simp only[hj]
  split
  ·rename_i hw;rw[if_pos hw] at h;exact Oper.wpIn_mono (fun a' w' h'=>tail_run m (i+1) _ a' w' qom ht.2 h') h
  ·rename_i hw;rw[if_neg hw] at h;exact⟨h.1,tail_run m (i+1) _ _ w qom ht.2 h.2⟩
def wpO (P:Program) (r:Option Nat) (ops:Array Oper) (Q:Exit→Act→World→Prop) (w0:World) (H0:List (Nat × Obj)) (t:Nat):Nat→Array Bool→Act→List (Nat × Obj)→Prop
 |0,listed,a,H=>tailOk ops (ops.size - t) t listed=true∧∀ w,Own w0 H w→wpListIn (rd r) 0 P ops Q (ops.toList.drop t) a w
 |f+1,listed,a,H=>(∃ i0∈Region.ready md ops listed,i0<t)∧∀ i∈Region.ready md ops listed,i<t→∀ w,Own w0 H w→
   wpOpIn (rd r) 0 P ops Q i (fun a' w'=>∃ H',H0.Sublist H'∧Own w0 H' w'∧wpO P r ops Q w0 H0 t f (listed.setIfInBounds i true) a' H') a w
def TailS (ops:Array Oper) (t:Nat):Prop:=t=ops.size∨(t<ops.size∧Region.sinkB md ops t=true∧Region.chainB md ops t=true)
theorem ready_lt {listed:Array Bool}(hT:TailS ops t)(inv:HeadInv md ops t listed){i j:Nat}(hi:i<t)(hu:listed.getD i true=false)(hj:j∈Region.ready md ops listed):j<t:=by
 rcases hT with rfl|⟨hlt,hs,hc⟩
 ·obtain⟨_,o,ho,_⟩:=mem_ready.1 hj;exact(Array.getElem?_eq_some_iff.1 ho).1
 ·rcases Nat.lt_or_ge j t with h|h
  ·exact h
  ·exact absurd hj (tail_waits hs hc hlt inv (t - i) i U hi hu j h)
theorem wpAny_of_wpO (hT:TailS ops t)(htl:t≤ops.size):∀ (f:Nat) (listed:Array Bool) (a:Act) (H:List (Nat × Obj)) (w:World),HeadInv md ops t listed→Own w0 H w→wpO P r ops Q w0 H0 t f listed a H→wpAnyIn (rd r) 0 P md ops Q (f+(ops.size - t)) listed a w
 |0,listed,a,H,w,inv,hO,h=>by rw[Nat.zero_add];exact tail_run _ t listed a w qom h.1 (h.2 w hO)
 |f+1,listed,a,H,w,inv,hO,h=>by
  obtain⟨⟨i0,hi0,hlt0⟩,h⟩:=h;rw[show f+1+(ops.size - t)=(f+(ops.size - t))+1 by omega];refine⟨fun hr=>(by rw[hr] at hi0;cases hi0),fun i hi=> ?_⟩;have hit:=ready_lt hT inv hlt0 (mem_ready.1 hi0).1 hi;exact wpOpIn_mono (fun a' w' ⟨H',hs,hO',h'⟩=>wpAny_of_wpO hT htl f _ a' H' w' (inv.set hi hit) hO' h') (h i hi hit w hO)
theorem wpO_first {i:Nat}{oi:Oper}{v:Value}(hT:TailS ops t)(hD:noDefer ops=true)(hi:ops[i]? =some oi)(hit:i<t)(hsel:∀ (j:Nat) (o:Oper) cs b,ops[j]? =some o→o.op≠.select cs b)
  (hQ:∀ c a w,Q (.panic c) (a.put oi.dst v) w→Q (.panic c) a w):
  ∀ (f:Nat) (listed:Array Bool) (a:Act) (H:List (Nat × Obj)),H0.Sublist H→
   (∀ j oj,ops[j]? =some oj→j≠i→listed.getD j true=false→(∀ e∈oj.after,Region.binds md e=true→e.on≠i)→oi.apart ops oj=true)→
   HeadInv md ops t listed→i∈Region.ready md ops listed→YieldsO P ops w0 H0 oi v a→
   wpO P r ops Q w0 H0 t f (listed.setIfInBounds i true) (a.put oi.dst v) H→wpO P r ops Q w0 H0 t (f+1) listed a H:=by
 intro f
 induction f with
 |zero=>
  intro listed a H hs hfree inv hr hy h;refine⟨⟨i,hr,hit⟩,fun j hj hjt w hO=> ?_⟩
  by_cases hji:j=i
  ·subst hji;exact hy.wpOpIn hi (noDefer_spec hD hi) hs hO fun w' hO'=>⟨H,hs,hO',h⟩
  ·exfalso;have h1:=ready_mono hj hji;have h2:=h.1;rcases Nat.lt_or_ge t ops.size with hlt|hge
   ·rw[show ops.size - t=(ops.size - t - 1)+1 by omega] at h2;simp only[tailOk,Bool.and_eq_true,beq_iff_eq] at h2;rw[h2.1] at h1;have:j=t:=by simpa using h1
    omega
   ·rw[show ops.size - t=0 by omega] at h2;simp only[tailOk,beq_iff_eq] at h2;rw[h2] at h1;cases h1
 |succ f ih=>
  intro listed a H hs hfree inv hr hy h;refine⟨⟨i,hr,hit⟩,fun j hj hjt w hO=> ?_⟩
  by_cases hji:j=i
  ·subst hji;exact hy.wpOpIn hi (noDefer_spec hD hi) hs hO fun w' hO'=>⟨H,hs,hO',h⟩
  ·have h1:=h.2 j (ready_mono hj hji) hjt w hO;obtain⟨hjun,oj,hoj,hall⟩:=mem_ready.1 hj;have hnot:∀ e∈oj.after,Region.binds md e=true→e.on≠i:=fun e he hb heq=>by
    have h1:=hall e he hb;have h0:=(mem_ready.1 hr).1;rw[heq,getD_both h0] at h1;cases h1
   have h2:=wpOpIn_putO hoj (noDefer_spec hD hoj) (hfree j oj hoj hji hjun hnot) (fun cs b=>hsel i oi cs b hi) (fun cs b=>hsel j oj cs b hoj) hQ hy h1;have hfree':∀ k ok,ops[k]? =some ok→k≠i→(listed.setIfInBounds j true).getD k true=false→
     (∀ e∈ok.after,Region.binds md e=true→e.on≠i)→oi.apart ops ok=true:=fun k ok hk hki hun hno=>by
    refine hfree k ok hk hki ?_ hno
    by_cases hjk:j=k
    ·subst hjk;exact hjun
    ·rw[getD_set_ne true hjk] at hun;exact hun
   refine wpOpIn_mono (fun a' w' h3=> ?_) h2;obtain⟨hy',H',hs',hO',h4⟩:=h3;refine⟨H',hs',hO',ih (listed.setIfInBounds j true) a' H' hs' hfree' (inv.set hj hjt) (ready_mono hr (Ne.symm hji)) hy' ?_⟩;rw[Array.setIfInBounds_comm _ _ hji];exact h4
end
def planB (ops:Array Oper) (t:Nat):List (Nat × Bool)→Array Bool→Bool
 |[],listed=>tailOk ops (ops.size - t) t listed
 |(i,true)::rest,listed=>Nat.blt i t&&(Region.ready md ops listed).contains i&&Region.free md ops listed i&&planB ops t rest (listed.setIfInBounds i true)
 |(i,false)::rest,listed=>Nat.blt i t&&Region.ready md ops listed==[i]&&planB ops t rest (listed.setIfInBounds i true)
def tailB (ops:Array Oper) (t:Nat):Bool:=Nat.beq t ops.size||(Nat.blt t ops.size&&Region.sinkB md ops t&&Region.chainB md ops t)
theorem tailB_spec {ops:Array Oper}{t:Nat}(h:tailB ops t=true):TailS ops t∧t≤ops.size:=by
 simp only[tailB,Bool.or_eq_true,Bool.and_eq_true,Nat.blt_eq] at h;rcases h with h|⟨⟨h1,h2⟩,h3⟩
 ·have:=Nat.eq_of_beq_eq_true h;exact⟨.inl this,by omega⟩
 ·exact⟨.inr ⟨h1,h2,h3⟩,by omega⟩
section
variable {P:Program} {r:Option Nat} {N:Nat} {w0:World} {ops:Array Oper} {t:Nat} {Q:Post} {L:Fm} {ds:List Deferred} {H0 H:List (Nat × Obj)}
theorem pan_put {N:Nat}{Q:Post}(hP:∀ c σ σ' ds w,Q (.panic c) σ ds w→Q (.panic c) σ' ds w){d:Option Tmp}{v:Value}:∀ c a w,LQ N Q (.panic c) (a.put d v) w→LQ N Q (.panic c) a w:=fun c a w hq=>⟨by have:=hq.1;rwa [C0] at this,by have:=hq.2;rw[Cj] at this;exact hP c _ _ _ _ this⟩
def JO (P:Program) (r:Option Nat) (N:Nat) (w0:World) (H0:List (Nat × Obj)) (ops:Array Oper) (t:Nat) (plan:List (Nat × Bool)) (Q:Post) (L:Fm) (ds:List Deferred) (H:List (Nat × Obj)):Prop:=
 TailS ops t→noDefer ops=true→Region.noSelect ops=true→(∀ c σ σ' ds w,Q (.panic c) σ ds w→Q (.panic c) σ' ds w)→H0.Sublist H→∀ listed,HeadInv md ops t listed→planB ops t plan listed=true→∀ b (a:Act),a.tmps.size=N→fr a=lk L b→a.defers=ds→
  wpO P r ops (LQ N Q) w0 H0 t plan.length listed a H
theorem Bb {l:List Oper}(hl:ops.toList.drop t=l)(h:JL P r N w0 ops l Q L ds H):JO P r N w0 H0 ops t [] Q L ds H:=fun hT hD hS hP hs listed inv hp b a hsz hf hd=>by
 refine⟨hp,fun w hO=> ?_⟩;rw[hl];exact h b w hO a hsz hf hd
variable {d:Option Tmp} {op:Op} {ty:TypeId} {p:String} {af:Array Edge} {g:Option (Nat × Bool)} {v:Value} {i:Nat} {plan:List (Nat × Bool)}
theorem jo_take (hi:ops[i]? =some ⟨d,op,ty,p,af,g⟩)(hN:dOk d N=true)(hy:∀ b (a:Act),a.tmps.size=N→fr a=lk L b→YieldsO P ops w0 H0 ⟨d,op,ty,p,af,g⟩ v a)(k:JO P r N w0 H0 ops t plan Q (pt d v L) ds H):JO P r N w0 H0 ops t ((i,true)::plan) Q L ds H:=
 fun hT hD hS hP hs listed inv hp b a hsz hf hd=>by
  simp only[planB,Bool.and_eq_true,Nat.blt_eq] at hp;obtain⟨⟨⟨h1,h2⟩,h3⟩,h4⟩:=hp;have hr:i∈Region.ready md ops listed:=by simpa using h2
  exact wpO_first hT hD hi h1 (Region.noSelect_spec hS) (pan_put hP) plan.length listed a H hs (Region.free_spec hi h3) inv hr (hy b a hsz hf)
   (k hT hD hS hP hs _ (inv.set hr h1) h4 b _ (by rw[C0];exact hsz) (H4 hN hsz hf) (by rw[Cj];exact hd))
theorem o_y (hi:ops[i]? =some ⟨d,op,ty,p,af,g⟩)(hy:Yl P w0 op ty L H0 v)(k:JO P r N w0 H0 ops t plan Q (pt d v L) ds H)(hN:dOk d N=true)(hg:Gd ops L g N true):JO P r N w0 H0 ops t ((i,true)::plan) Q L ds H:=
 jo_take hi hN (fun b a hs hf=> .inl ⟨I7 hg hs hf,fun H hsub w hO=>by rw[exO_eq,eval_fr',hf];exact hy.2 H hsub b w hO⟩) k
theorem o_n (hi:ops[i]? =some ⟨d,op,ty,p,af,g⟩)(k:JO P r N w0 H0 ops t plan Q (pt d undef L) ds H)(hN:dOk d N=true)(hg:Nw ops L g N):JO P r N w0 H0 ops t ((i,true)::plan) Q L ds H:=
 jo_take hi hN (fun b a hs hf=> .inr ⟨nw_wanted hg hs hf,rfl⟩) k
theorem o_e {K:Value→List (Nat × Obj)→Prop}(hi:ops[i]? =some ⟨d,op,ty,p,af,g⟩)(he:Eff P w0 op ty L H K)(k:∀ v H',K v H'→H0.Sublist H'∧JO P r N w0 H0 ops t plan Q (pt d v L) ds H')(hN:dOk d N=true)(hg:Gd ops L g N true):JO P r N w0 H0 ops t ((i,false)::plan) Q L ds H:=
 fun hT hD hS hP hs listed inv hp b a hsz hf hd=>by
  simp only[planB,Bool.and_eq_true,Nat.blt_eq,beq_iff_eq] at hp;obtain⟨⟨h1,h2⟩,h4⟩:=hp;have hr:i∈Region.ready md ops listed:=by rw[h2];simp
  refine⟨⟨i,hr,h1⟩,fun j hj _ w hO=> ?_⟩;rw[h2] at hj;obtain rfl:j=i:=by simpa using hj
  unfold wpOpIn;simp only[hi];rw[if_pos (I7 hg hsz hf)];refine eff_wpIn hf he hO fun v H' w' hk hO'=> ?_
  obtain⟨k1,k2⟩:=k v H' hk;exact⟨H',k1,hO',k2 hT hD hS hP k1 _ (inv.set hr h1) h4 b _ (by rw[C0];exact hsz) (H4 hN hsz hf) (by rw[Cj];exact hd)⟩
structure NoPanic (Q:Post):Prop where
 no:∀ c σ σ' ds w,Q (.panic c) σ ds w→Q (.panic c) σ' ds w
theorem Ho {fn:Func}{K:Value→List (Nat × Obj)→Prop}:NoPanic (retQ P fn w0 K):=⟨fun _ _ _ _ _ h=>h⟩
theorem E7 {K}(h:NoPanic Q):NoPanic (thenQ K Q):=⟨fun c σ σ' ds w=>h.no c σ σ' ds w⟩
theorem D8 {id:Nat}(h:NoPanic Q):NoPanic (blockQ id Q):=⟨fun c σ σ' ds w=>h.no c σ σ' ds w⟩
theorem F8 {X:Type}{V:X→Fm}{G:X→List (Nat × Obj)}{φ:X→Prop}{μ:X→Nat}{m:Nat}{ds:List Deferred}(h:NoPanic Q):NoPanic (loopQ w0 V G φ μ m ds Q):=⟨fun c σ σ' ds w=>h.no c σ σ' ds w⟩
theorem Hp {X:Type}{V:X→Fm}{G:X→List (Nat × Obj)}{φ:X→Prop}{ds:List Deferred}(h:NoPanic Q):NoPanic (cutQ w0 V G φ ds Q):=⟨fun c σ σ' ds w=>h.no c σ σ' ds w⟩
def anyB (ops:Array Oper) (t:Nat) (plan:List (Nat × Bool)):Bool:=tailB ops t&&noDefer ops&&Region.noSelect ops&&Nat.beq plan.length t&&planB ops t plan (Array.replicate ops.size false)
theorem Bo {id:Nat}(t:Nat)(plan:List (Nat × Bool))(H0:List (Nat × Obj))(hm:P.follows .mixedOrders=true)(hb:anyB ops t plan=true)(hs:H0.Sublist H)(h:JO P r N w0 H0 ops t plan Q L ds H)(hP:NoPanic Q:=by repeat (first|exact Ho|exact Ey|exact D3|apply E7|apply D8|apply F8|apply Hp)):J P r N w0 (.region id ops true) Q L ds H:=fun b w hO a hsz hf hd=>by
 simp only[anyB,Bool.and_eq_true] at hb;obtain⟨⟨⟨⟨h1,h2⟩,h3⟩,h4⟩,h5⟩:=hb;obtain⟨hT,htl⟩:=tailB_spec h1;have hlen:=Nat.eq_of_beq_eq_true h4;have inv:HeadInv md ops t (Array.replicate ops.size false):=by
  refine⟨by simp,fun j oj _ hl=>(by rw[getD_replicate_false] at hl;cases hl),fun k _ hk=> ?_⟩;simp[hk]
 have h6:=wpAny_of_wpO hT htl plan.length _ a H {w with drawn:=w.drawn+1} inv hO.drawn (h hT h2 h3 hP.no hs _ inv h5 b a hsz hf hd);rw[hlen,show t+(ops.size - t)=ops.size by omega] at h6;exact wpIn_region_any hm h6
end
inductive Sl
 |nil
 |blk (n cap:Nat) (junk:List Value)
def slQ:Sl→Option Addr
 | .nil=>none
 | .blk n _ _=>some ⟨n,0,none⟩
def slC:Sl→Nat
 | .nil=>0
 | .blk _ cap _=>cap
abbrev slV (d:Sl) (k:Nat):Value:= .slice (slQ d) k (slC d)
def slH:Sl→List Value→TypeId→List (Nat × Obj)
 | .nil,_,_=>[]
 | .blk n _ junk,cells,e=>[(n,Cl (cells++junk) e)]
def SlOk:Sl→Nat→Nat→Prop
 | .nil,k,_=>k=0
 | .blk _ cap junk,k,sz=>k≤cap∧junk.length=(cap - k)*sz
theorem SlOk.bas {d:Sl}{k sz:Nat}(h:SlOk d k sz)(hk:0<k):Bas (slQ d):=by
 cases d with
 |nil=>have:k=0:=h;omega
 |blk n cap junk=>rfl
theorem SlOk.cell {w0:World}{d:Sl}{k sz i:Nat}{cells:List Value}{e:TypeId}{X:List (Nat × Obj)}{v:Value}(h:SlOk d k sz)(hc:cells.length=k*sz)(hi:cells[i]? =some v):Cell w0 (slH d cells e++X) ⟨bq (slQ d),oq (slQ d)+i,none⟩ v:=by
 cases d with
 |nil=>have:k=0:=h;subst this;have:cells=[]:=List.eq_nil_of_length_eq_zero (by simpa using hc);subst this;simp at hi
 |blk n cap junk=>
  have hlt:=(List.getElem?_eq_some_iff.1 hi).1;have:Cell w0 ((n,Cl (cells++junk) e)::X) ⟨n,i,none⟩ v:=Df Av (by rw[List.getElem?_append_left hlt];exact hi)
  simpa[slQ,bq,oq,slH] using this
def Arr {α:Type} (w0:World) (H:List (Nat × Obj)) (q:Option Addr) (sz:Nat) (enc:α→List Value) (l:List α):Prop:=∀ i x,l[i]? =some x→Bas q∧Cells w0 H (bq q) (oq q+i*sz) (enc x)
theorem Arr.mono {α:Type}{w0:World}{H H':List (Nat × Obj)}{q:Option Addr}{sz:Nat}{enc:α→List Value}{l:List α}(h:Arr w0 H q sz enc l)(hs:H.Sublist H'):Arr w0 H' q sz enc l:=fun i x hi=>⟨(h i x hi).1,(h i x hi).2.mono hs⟩
theorem flat_get {α:Type}{sz:Nat}{enc:α→List Value}(he:∀ x,(enc x).length=sz):∀ (l:List α) (i:Nat) (x:α) (j:Nat) (v:Value),l[i]? =some x→(enc x)[j]? =some v→(l.flatMap enc)[i*sz+j]? =some v
 |[],i,x,j,v,h,_=>by simp at h
 |y::l,0,x,j,v,h,hv=>by
  simp at h;subst h;rw[List.flatMap_cons,List.getElem?_append_left (by have:=(List.getElem?_eq_some_iff.1 hv).1;omega)]
  simpa using hv
 |y::l,i+1,x,j,v,h,hv=>by
  rw[List.flatMap_cons,List.getElem?_append_right (by rw[he];rw[Nat.succ_mul];omega),he];have:=flat_get he l i x j v (by simpa using h) hv;rw[show (i+1)*sz+j - sz=i*sz+j by rw[Nat.succ_mul];omega];exact this
theorem Dr {α:Type}{sz:Nat}{enc:α→List Value}(he:∀ x,(enc x).length=sz)(l:List α):(l.flatMap enc).length=l.length*sz:=by
 induction l with
 |nil=>simp
 |cons x l ih=>rw[List.flatMap_cons,List.length_append,ih,he,List.length_cons,Nat.succ_mul];omega
theorem Cz {α:Type}{w0:World}{d:Sl}{sz:Nat}{enc:α→List Value}{l:List α}{e:TypeId}{X:List (Nat × Obj)}(he:∀ x,(enc x).length=sz)(h:SlOk d l.length sz):Arr w0 (slH d (l.flatMap enc) e++X) (slQ d) sz enc l:=fun i x hi=>
 ⟨h.bas (by have:=(List.getElem?_eq_some_iff.1 hi).1;omega),fun j v hj=>by
  have:=h.cell (w0:=w0) (e:=e) (X:=X) (Dr he l) (flat_get he l i x j v hi hj)
  rwa [← Nat.add_assoc] at this⟩
theorem growBy_le:∀ (r n c:Nat),c<2*n+400→Builtin.growBy n r c≤2*n+600
 |0,n,c,h=>by unfold Builtin.growBy;omega
 |r+1,n,c,h=>by
  unfold Builtin.growBy
  split
  ·omega
  ·exact growBy_le r n _ qom
theorem nextcap_le {n c:Nat}(h:c<n):Builtin.nextslicecap n c≤2*n+600:=by
 unfold Builtin.nextslicecap
 split
 ·omega
 ·split
  ·omega
  ·exact growBy_le _ _ _ qom
section
variable {P:Program} {w0:World} {L:Fm} {ty:TypeId} {x y:Operand} {t t2 e:TypeId}
theorem Bf {H:List (Nat × Obj)}{len:Nat}{ps:List (Nat × Operand)}{vs:List (Nat × Value)}{cells:List Value}(hp:Evp L ps vs)(hb:∀ w,(Instr.buildSlice t len vs.toArray).run P w= .ok (.slice (some ⟨w.heap.size,0,none⟩) len len) (w.alloc (Cl cells e))):
  Eff P w0 (.buildSlice t len ps.toArray) ty L H (fun v H'=>∃ n,v= .slice (some ⟨n,0,none⟩) len len∧H'=(n,Cl cells e)::H):=
 ⟨rfl,fun b w hO=>by
  have:=hp.map b;have h1:(exO (ev (lk L b)) (.buildSlice t len ps.toArray) ty).run P w= .ok (.value (.slice (some ⟨w.heap.size,0,none⟩) len len)) (w.alloc (Cl cells e)):=by
   simp[exO,execOp,this,hb,Sem.run_bind,Result.andThen]
  rw[h1];exact⟨_,hO.alloc _,_,rfl,rfl⟩⟩
theorem F9 {H:List (Nat × Obj)}{sz m c:Nat}{q:Option Addr}{new:List Value}{w:World}(hO:Own w0 H w)(hq:m=0∨Bas q)(hl:new.length=m*sz)(hn:Cells w0 H (bq q) (oq q) new):(Builtin.firstCells sz m (.slice q m c)).run P w= .ok new.toArray w:=by
 cases q with
 |none=>
  rcases hq with rfl|hq
  ·have:new=[]:=List.eq_nil_of_length_eq_zero (by simpa using hl);subst this;simp[Builtin.firstCells]
  ·cases hq
 |some a=>
  rcases hq with h0|hq
  ·subst h0;have:new=[]:=List.eq_nil_of_length_eq_zero (by simpa using hl);subst this;simp[Builtin.firstCells,loadCells,loadCellsFrom]
  ·have ha:a=⟨bq (some a),oq (some a),none⟩:=Option.some.inj hq;have h1:=Dk (P:=P) (b:=bq (some a)) (o:=oq (some a)) (w:=w) new 0 #[] (fun j v hj=>by rw[Nat.zero_add];exact hn j v hj w hO);rw[hl] at h1;unfold Builtin.firstCells loadCells;simp only;rw[ha];rw[h1];simp
theorem upd_mid {A X:List (Nat × Obj)}{n:Nat}{o o':Obj}:Upd (A++((n,o)::X)) n o o' (A++((n,o')::X)):=Ci .h
theorem B5 {H H':List (Nat × Obj)}{w:World}(h:Own w0 H w)(hp:H.Perm H'):Own w0 H' w:=
 ⟨h.below,fun e he=>h.has e (hp.symm.subset he),fun e he=>h.base e (hp.symm.subset he),(hp.map _).nodup_iff.1 h.nodup,h.drw⟩
theorem zero_len {z:Array Value}{n sz:Nat}(hz:z.size=sz):(Builtin.zeroCells z n).toList.length=n*sz:=by simp[Builtin.zeroCells,hz]
theorem eff_append {A X:List (Nat × Obj)}{d:Sl}{cells new:List Value}{k m sz c by':Nat}{q:Option Addr}{z:Value}{i0:TypeInfo}{e2:TypeId}(hx:Ev L x (slV d k))(hy:Ev L y (.slice q m c))
  (ht:∀ w,(underlying t).run P w= .ok (.slice e) w) (ht2:∀ w,(underlying t2).run P w= .ok (.slice e2) w) (hz:∀ w,(sizeOf e).run P w= .ok sz w) (hi:∀ w,(typeInfo e).run P w= .ok i0 w) (hby:i0.bytes=by') (hzv:∀ w,(zeroValue e).run P w= .ok z w) (hzs:z.cells.size=sz)
  (hq:m=0∨Bas q) (hl:new.length=m*sz) (hn:Cells w0 (A++(slH d cells e++X)) (bq q) (oq q) new) (h1:new.all oneB=true) (hc:cells.length=k*sz) (hok:SlOk d k sz) (hb0:by'≠0) (hb:(2*(k+m)+600)*by'≤281474976710656):
  Eff P w0 (.call {callee:= .builtin .append,args:= #[x,y],argTypes:= #[t,t2]}) ty L (A++(slH d cells e++X)) (fun v H'=>∃ d',v=slV d' (k+m)∧SlOk d' (k+m) sz∧H'=A++(slH d' (cells++new) e++X)):=
 ⟨rfl,fun b w hO=>by
  have h1':∀ v∈new,oneB v=true:=fun u hu=>List.all_eq_true.1 h1 u hu
  have hfirst:=F9 (P:=P) (c:=c) hO hq hl hn;have hold:(Builtin.firstCells sz k (slV d k)).run P w= .ok cells.toArray w:=by
   refine F9 (H:=slH d cells e++X) hO.drop ?_ hc fun i v hi=>hok.cell hc hi
   by_cases hk:k=0
   ·exact .inl hk
   ·exact .inr (hok.bas qom)
  have start:∀ R,(exO (ev (lk L b)) (.call {callee:= .builtin .append,args:= #[x,y],argTypes:= #[t,t2]}) ty).run P w=R↔(do let v ← Builtin.append_ #[t,t2] ty #[slV d k, .slice q m c];pure (Next.value v):Sem Next).run P w=R:=fun R=>by
   simp[exO,execOp,resolve,invoke,builtin,hx b,hy b,Sem.run_bind,Result.andThen]
  by_cases hcap:k+m≤slC d
  ·cases d with
   |nil=>
    have hk0:k=0:=hok;have hm0:m=0:=by have:k+m≤0:=hcap;omega
    subst hk0 hm0;have hcn:cells=[]:=List.eq_nil_of_length_eq_zero (by simpa using hc);have hnn:new=[]:=List.eq_nil_of_length_eq_zero (by simpa using hl);subst hcn hnn;have:(exO (ev (lk L b)) (.call {callee:= .builtin .append,args:= #[x,y],argTypes:= #[t,t2]}) ty).run P w= .ok (.value (.slice none 0 0)) w:=by
     rw[start];simp[Builtin.append_,slQ,slC,ht,ht2,hz,Builtin.lenOf,hfirst,Sem.run_bind,Result.andThen]
    rw[this];exact⟨_,hO, .nil,rfl,rfl,by simp[slH]⟩
   |blk n cap junk=>
    obtain⟨hk1,hk2⟩:=hok;have hcap':k+m≤cap:=hcap;have hhas:w.heap[n]? =some (Cl (cells++junk) e):=hO.drop.has (n,Cl (cells++junk) e) (by simp[slH]);have hmul:(cap - k)*sz=(cap - (k+m))*sz+m*sz:=by rw[← Nat.add_mul];congr 1;omega
    have hst:=run_storeCells (P:=P) (n:=n) (o:=k*sz) (t:=e) new 0 (cells++junk) w hhas h1' (by simp[hc,hl,hk2];omega);have hset:setL (cells++junk) (k*sz+0) new=(cells++new)++junk.drop (m*sz):=by
     have e1:junk=junk.take (m*sz)++junk.drop (m*sz):=(List.take_append_drop _ _).symm;have e2:(junk.take (m*sz)).length=new.length:=by rw[List.length_take,hl,hk2];omega
     have key:∀ (pre l post vs:List Value),l.length=vs.length→setL (pre++(l++post)) pre.length vs=pre++vs++post:=by
      intro pre l post vs
      induction vs generalizing pre l with
      |nil=>intro h;have:l=[]:=List.eq_nil_of_length_eq_zero h;simp[setL,this]
      |cons v vs ih=>
       intro h;cases l with
       |nil=>simp at h
       |cons y l=>
        rw[setL];have e3:(pre++(y::l++post)).set pre.length v=(pre++[v])++(l++post):=by simp
        rw[e3];have:=ih (pre++[v]) l (by simpa using h);simp only[List.length_append,List.length_cons,List.length_nil,Nat.zero_add] at this;rw[this];simp
     rw[Nat.add_zero,← hc]
     conv=>lhs;rw[e1]
     exact key cells _ _ new e2
    rw[hset] at hst;have:(exO (ev (lk L b)) (.call {callee:= .builtin .append,args:= #[x,y],argTypes:= #[t,t2]}) ty).run P w= .ok (.value (.slice (some ⟨n,0,none⟩) (k+m) cap)) (w.putObj n (Cl ((cells++new)++junk.drop (m*sz)) e)):=by
     rw[start];simp[Builtin.append_,slQ,slC,ht,ht2,hz,Builtin.lenOf,hfirst,hcap',Ii,hst,Sem.run_bind,Result.andThen]
    rw[this];refine⟨_,hO.put (upd_mid (A:=A)), .blk n cap (junk.drop (m*sz)),rfl,⟨hcap',?_⟩,by simp[slH]⟩;rw[List.length_drop,hk2,hmul];omega
  ·have hlt:slC d<k+m:=by omega
   have hnc:=nextcap_le hlt;have hgrow: ¬ 281474976710656<Builtin.nextslicecap (k+m) (slC d)*by':=by
    have:=Nat.mul_le_mul_right by' hnc
    omega
   let cap':=(Question.appendCap (k+m) (slC d) e).cut (w.tape w.drawn (Question.appendCap (k+m) (slC d) e))
   have hcap2:k+m≤cap':=by simp only[cap',Question.cut];omega
   let w1:World:=w.drew
   have hO1:Own w0 (A++(slH d cells e++X)) w1:=hO.drawn;have hfirst1:=F9 (P:=P) (c:=c) hO1 hq hl hn;have hold1:(Builtin.firstCells sz k (slV d k)).run P w1= .ok cells.toArray w1:=by
    refine F9 (H:=slH d cells e++X) hO1.drop ?_ hc fun i v hi=>hok.cell hc hi
    by_cases hk:k=0
    ·exact .inl hk
    ·exact .inr (hok.bas qom)
   have hroom:(askRoom (cap'*by')).run P w1= .ok () w1:=by
    unfold askRoom;split<;>simp[mark,Sem.run]
   let junk:=(Builtin.zeroCells z.cells (cap' - (k+m))).toList
   have this:(exO (ev (lk L b)) (.call {callee:= .builtin .append,args:= #[x,y],argTypes:= #[t,t2]}) ty).run P w= .ok (.value (.slice (some ⟨w.heap.size,0,none⟩) (k+m) cap')) (w1.alloc (Cl ((cells++new)++junk) e)):=by
    rw[start];have harr:cells.toArray++(new.toArray++Builtin.zeroCells z.cells (cap' - (k+m)))=((cells++new)++junk).toArray:=by
     apply Array.ext';simp[junk]
    have hnr:(newRow e (cells.toArray++(new.toArray++Builtin.zeroCells z.cells (cap' - (k+m))))).run P w1= .ok ⟨w.heap.size,0,none⟩ (w1.alloc (Cl ((cells++new)++junk) e)):=by
     rw[harr];exact run_new (P:=P) w1 e ((cells++new)++junk)
    have hcut:(Question.appendCap (k+m) (slC d) e).cut (w.tape w.drawn (Question.appendCap (k+m) (slC d) e))=cap':=rfl;have hw1:w.drew=w1:=rfl;simp[Builtin.append_,ht,ht2,hz,hi,hby,hb0,Builtin.lenOf,hcap,hgrow,Question.forced,hcut,hw1,hroom,hold1,hfirst1,hzv,hnr,Sem.run_bind,Result.andThen, -List.append_assoc]
   rw[this];have hO2:=hO1.alloc (Cl ((cells++new)++junk) e);refine⟨A++(slH (.blk w.heap.size cap' junk) (cells++new) e++X),?_, .blk w.heap.size cap' junk,rfl,⟨hcap2,by simp only[junk];rw[zero_len hzs]⟩,rfl⟩;have hsub:((w.heap.size,Cl ((cells++new)++junk) e)::(A++X)).Sublist ((w1.heap.size,Cl ((cells++new)++junk) e)::(A++(slH d cells e++X))):=List.Sublist.cons_cons _ ((List.Sublist.refl A).append (List.sublist_append_right _ _));refine B5 (hO2.sub hsub) ?_;simp only[slH,List.cons_append,List.nil_append];exact List.perm_middle.symm⟩
theorem eff_app1 {α:Type}{enc:α→List Value}(v:α){A X:List (Nat × Obj)}{d:Sl}{l:List α}{n sz by':Nat}{z:Value}{i0:TypeInfo}{e2:TypeId}(hx:Ev L x (slV d l.length))(hy:Ev L y (.slice (some ⟨n,0,none⟩) 1 1))
  (ht:∀ w,(underlying t).run P w= .ok (.slice e) w) (ht2:∀ w,(underlying t2).run P w= .ok (.slice e2) w) (hz:∀ w,(sizeOf e).run P w= .ok sz w) (hi:∀ w,(typeInfo e).run P w= .ok i0 w) (hby:i0.bytes=by') (hzv:∀ w,(zeroValue e).run P w= .ok z w) (hzs:z.cells.size=sz)
  (he:∀ u,(enc u).length=sz) (h1:(enc v).all oneB=true) (hok:SlOk d l.length sz) (hb0:by'≠0) (hb:(2*(l.length+1)+600)*by'≤281474976710656) (hn:Cells w0 (A++(slH d (l.flatMap enc) e++X)) n 0 (enc v):=by exact Ay):
  Eff P w0 (.call {callee:= .builtin .append,args:= #[x,y],argTypes:= #[t,t2]}) ty L (A++(slH d (l.flatMap enc) e++X)) (fun u H'=>∃ d',u=slV d' (l.length+1)∧SlOk d' (l.length+1) sz∧H'=A++(slH d' ((l++[v]).flatMap enc) e++X)):=by
 have h:=eff_append (P:=P) (w0:=w0) (L:=L) (ty:=ty) (A:=A) (X:=X) (d:=d) (cells:=l.flatMap enc) (new:=enc v) (k:=l.length) (m:=1) hx hy ht ht2 hz hi hby hzv hzs (.inr U) (by rw[he,Nat.one_mul]) hn h1 (Dr he l) hok hb0 hb;rw[List.flatMap_append]
 simpa using h
end
def psL:List Nat→List Value→Fm→Fm
 |p::ps,v::vs,L=>psL ps vs ((p,v)::L)
 |_,_,L=>L
theorem psL_fr:∀ (ps:List Nat) (vs:List Value) (tmps:Array Value) (L:Fm) (b:Nat→Value),(∀ p∈ps,p<tmps.size)→(fun k=>tmps.getD k undef)=lk L b→
  (((ps.zip vs).foldl (fun t (p,v)=>t.setIfInBounds p v) tmps).size=tmps.size∧(fun k=>((ps.zip vs).foldl (fun t (p,v)=>t.setIfInBounds p v) tmps).getD k undef)=lk (psL ps vs L) b)
 |[],vs,tmps,L,b,_,h=>⟨rfl,h⟩
 |p::ps,[],tmps,L,b,_,h=>⟨rfl,h⟩
 |p::ps,v::vs,tmps,L,b,hp,h=>by
  simp only[List.zip_cons_cons,List.foldl_cons,psL];have h1:=fr_put (a:={tmps:=tmps,defers:=[]}) (d:=p) (v:=v) (L:=L) (b:=b) (hp p (by simp)) h;have:=psL_fr ps vs (tmps.setIfInBounds p v) ((p,v)::L) b (fun q hq=>by simpa using hp q (by simp[hq])) h1;exact⟨by rw[this.1];simp,this.2⟩
structure LrOk (lr:LoopState→Option Code→Loop):Prop where
 state:∀ s p,(lr s p).state=s
 busy:∀ s p s',{lr s p with state:=s'}=lr s' p
 jump:∀ s p s' p',{lr s p with state:=s',pending:=p'}=lr s' p'
 pend:∀ s p,(lr s p).pending=p
def roundQ (w0:World) {Z:Type} (G:Z→List (Nat × Obj)) (φ:Z→Prop) (φr:Z→Prop) (φe:Nat→Z→Prop):Post
 | .normal,_,_,w=>∃ z,φ z∧Own w0 (G z) w
 | .ret,_,_,w=>∃ z,φr z∧Own w0 (G z) w
 | .exit id,_,_,w=>∃ z,φe id z∧Own w0 (G z) w
 |_,_,_,_=>False
def assignQ (P:Program) (l:Nat) (N:Nat) (body:Code) (Q:Post):Post
 | .normal,σ,ds,w=>∃ w2,(Instr.beginRound l).run P w= .ok () w2∧swp P (some l) N body Q σ ds w2
 |_,_,_,_=>False
section
variable {P:Program} {N:Nat} {w0:World} {Q:Post} {L:Fm} {ds:List Deferred} {H:List (Nat × Obj)}
theorem q_begin {l:Nat}{lr:LoopState→Option Code→Loop}{body:Code}{H':List (Nat × Obj)}(hl:LrOk lr)(k:J P (some l) N w0 body Q L ds H')(hu:Upd H l (.loop (lr .ready none)) (.loop (lr .busy none)) H':=by(repeat (first|exact Upd.h|apply Upd.t|apply Ci));done):
  JQ w0 (assignQ P l N body Q) .normal L ds H:=fun b w hO=>by
 have h1:=run_beginRound (P:=P) (hO.has _ hu.mem) (hl.state _ _);rw[hl.busy] at h1;exact⟨_,h1,k b _ (hO.put hu)⟩
theorem Ey {Z:Type}{G:Z→List (Nat × Obj)}{φ:Z→Prop}{φr:Z→Prop}{φe:Nat→Z→Prop}:NoPanic (roundQ w0 G φ φr φe):=⟨fun _ _ _ _ _ h=>h⟩
theorem D3 {l:Nat}{body:Code}:NoPanic (assignQ P l N body Q):=⟨fun _ _ _ _ _ h=>h⟩
end
section
variable {K V:Type} [DecidableEq K]
def ents (encK:K→Value) (encV:V→Value) (l:List (K × V)):List MapEntry:=l.zipIdx.map fun p=>{key:=encK p.1.1,val:=encV p.1.2,born:=p.2}
def mapO (encK:K→Value) (encV:V→Value) (l:List (K × V)):Obj:= .map (ents encK encV l).toArray l.length
def findI (k:K):List (K × V)→Nat→Option (Nat × V)
 |[],_=>none
 |e::l,i=>if e.1=k then some (i,e.2) else findI k l (i+1)
def look (l:List (K × V)) (k:K):Option V:=(findI k l 0).map (·.2)
def upsert (l:List (K × V)) (k:K) (v:V):List (K × V):=
 match findI k l 0 with
 |some (i,_)=>l.set i (k,v)
 |none=>l++[(k,v)]
theorem Eh (k:K):∀ (l:List (K × V)) (i:Nat),findI k l i=(findI k l 0).map fun p=>(p.1+i,p.2)
 |[],i=>rfl
 |e::l,i=>by
  unfold findI
  split
  ·simp
  ·rw[Eh k l (i+1),Eh k l (0+1)];cases findI k l 0<;>simp;omega
theorem C9 (e:K × V)(l:List (K × V))(k:K):look (e::l) k=if e.1=k then some e.2 else look l k:=by
 unfold look;rw[findI]
 split
 ·rfl
 ·rw[Eh];cases findI k l 0<;>rfl
theorem upsert_cons (e:K × V)(l:List (K × V))(k:K)(v:V):upsert (e::l) k v=if e.1=k then (k,v)::l else e::upsert l k v:=by
 unfold upsert;rw[findI]
 by_cases h:e.1=k
 ·simp[h]
 ·simp only[h,if_false];rw[Eh];cases findI k l 0 with
  |none=>simp
  |some p=>simp
theorem Da (l:List (K × V))(k:K)(v:V)(k':K):look (upsert l k v) k'=if k=k' then some v else look l k':=by
 induction l with
 |nil=>unfold upsert;simp only[findI];rw[List.nil_append,C9]
 |cons e l ih=>
  rw[upsert_cons]
  by_cases h:e.1=k
  ·rw[if_pos h,C9,C9]
   by_cases h2:k=k'
   ·simp[h2]
   ·rw[if_neg h2,if_neg h2,if_neg (by rw[h];exact h2)]
  ·rw[if_neg h,C9,C9,ih]
   by_cases h2:e.1=k'
   ·rw[if_pos h2,if_pos h2,if_neg (by intro h3;exact h (h2.trans h3.symm))]
   ·rw[if_neg h2,if_neg h2]
theorem ents_append (encK:K→Value)(encV:V→Value)(l:List (K × V))(k:K)(v:V):ents encK encV (l++[(k,v)])=ents encK encV l++[{key:=encK k,val:=encV v,born:=l.length}]:=by
 unfold ents;rw[List.zipIdx_append,List.map_append];simp
theorem findI_lt {k:K}{l:List (K × V)}{i n:Nat}{v:V}(h:findI k l n=some (i,v)):n≤i∧i - n<l.length∧l[i - n]? =some (k,v):=by
 induction l generalizing n with
 |nil=>cases h
 |cons e l ih=>
  unfold findI at h
  split at h
  ·rename_i he;simp only[Option.some.injEq,Prod.mk.injEq] at h;obtain⟨rfl,rfl⟩:=h;refine⟨Nat.le_refl _,by simp,?_⟩;simp[← he]
  ·obtain⟨h1,h2,h3⟩:=ih h;refine⟨by omega,by simp;omega,?_⟩;rw[show i - n=(i - (n+1))+1 by omega];simpa using h3
theorem Ez (encK:K→Value)(encV:V→Value)(l:List (K × V))(i:Nat):(ents encK encV l)[i]? =(l[i]?).map fun p=>{key:=encK p.1,val:=encV p.2,born:=i}:=by
 unfold ents;rw[List.getElem?_map,List.getElem?_zipIdx];cases l[i]? <;>simp
theorem ents_set (encK:K→Value)(encV:V→Value)(l:List (K × V))(i:Nat)(k:K)(v:V):(ents encK encV l).toArray.modify i (fun e=>{e with key:=encK k,val:=encV v})=(ents encK encV (l.set i (k,v))).toArray:=by
 apply Array.ext';apply List.ext_getElem?;intro j;rw[Ez];simp only[Array.toList_modify,List.getElem?_modify,Ez,List.getElem?_set]
 by_cases hij:i=j
 ·subst hij
  by_cases hl:i<l.length
  ·simp[hl]
  ·simp[hl]
 ·simp[hij]
variable {P:Program} {kt:TypeId} {encK:K→Value} {encV:V→Value}
structure KeyOk (P:Program) (kt:TypeId) (encK:K→Value):Prop where
 chk:∀ b k w,(Instr.checkKey b 10000 kt (encK k)).run P w= .ok () w
 find:∀ (encV:V→Value) (l:List (K × V)) k w,(Instr.findKey kt (encK k) (ents encK encV l)).run P w= .ok ((findI k l 0).map fun p=>(p.1,encV p.2)) w
 bits:∀ k,Instr.sameBits 10000 (encK k) (encK k)=true
theorem findNow_eq {td:TypeDesc}(h:∀ k k',Instr.sameNow td (encK k) (encK k')=some (decide (k'=k)))(k:K):∀ (l:List (K × V)) (i n:Nat),Instr.findNow td (encK k) ((l.zipIdx n).map fun p=>{key:=encK p.1.1,val:=encV p.1.2,born:=p.2}) i=some ((findI k l i).map fun p=>(p.1,encV p.2))
 |[],i,n=>rfl
 |e::l,i,n=>by
  simp only[List.zipIdx_cons,List.map_cons,Instr.findNow,h];rw[findI]
  by_cases he:e.1=k
  ·simp[he]
  ·simp only[he,decide_false,if_false];exact findNow_eq h k l (i+1) (n+1)
theorem keyOk_now {td:TypeDesc}(ht:∀ w,(underlying kt).run P w= .ok td w)(hc:∀ b k w,(Instr.checkKey b 10000 kt (encK k)).run P w= .ok () w)(h:∀ k k',Instr.sameNow td (encK k) (encK k')=some (decide (k'=k)))(hb:∀ k,Instr.sameBits 10000 (encK k) (encK k)=true):KeyOk (V:=V) P kt encK:=
 ⟨hc,fun encV l k w=>by
  unfold Instr.findKey;simp only[Sem.run_bind,ht,Result.andThen];rw[show ents encK encV l=(l.zipIdx 0).map fun p=>{key:=encK p.1.1,val:=encV p.1.2,born:=p.2} from rfl,findNow_eq h k l 0 0];simp,hb⟩
theorem findAsk_eq (h:∀ k k' w,(Op.equal kt (encK k) (encK k')).run P w= .ok (decide (k'=k)) w)(k:K)(w:World):∀ (l:List (K × V)) (i n:Nat),(Instr.findAsking kt (encK k) ((l.zipIdx n).map fun p=>{key:=encK p.1.1,val:=encV p.1.2,born:=p.2}) i).run P w= .ok ((findI k l i).map fun p=>(p.1,encV p.2)) w
 |[],i,n=>rfl
 |e::l,i,n=>by
  simp only[List.zipIdx_cons,List.map_cons,Instr.findAsking,Sem.run_bind,h,Result.andThen];rw[findI]
  by_cases he:e.1=k
  ·simp[he]
  ·simp only[he,decide_false,if_false,Bool.false_eq_true];exact findAsk_eq h k w l (i+1) (n+1)
theorem keyOk_ask {td:TypeDesc}(ht:∀ w,(underlying kt).run P w= .ok td w)(hc:∀ b k w,(Instr.checkKey b 10000 kt (encK k)).run P w= .ok () w)(hn:∀ k k',Instr.sameNow td (encK k) (encK k')=none)(h:∀ k k' w,(Op.equal kt (encK k) (encK k')).run P w= .ok (decide (k'=k)) w)(hb:∀ k,Instr.sameBits 10000 (encK k) (encK k)=true):KeyOk (V:=V) P kt encK:=
 ⟨hc,fun encV l k w=>by
  unfold Instr.findKey;simp only[Sem.run_bind,ht,Result.andThen];cases l with
  |nil=>rfl
  |cons e l=>
   have h1:Instr.findNow td (encK k) (ents encK encV (e::l)) 0=none:=by simp[ents,List.zipIdx_cons,Instr.findNow,hn]
   rw[h1];exact findAsk_eq h k w (e::l) 0 0,hb⟩
variable {w0:World} {L:Fm} {H:List (Nat × Obj)} {ty t et:TypeId} {x y z:Operand}
theorem Ck {w:World}{r:Nat}{es:Array MapEntry}{c:Nat}(h:w.heap[r]? =some (.map es c)):(getObj r).run P w= .ok (.map es c) w:=by simp[getObj,Sem.run,h]
theorem E8 {w:World}{r:Nat}{es:Array MapEntry}{c:Nat}(o:Obj)(h:w.heap[r]? =some (.map es c)):(setObj r o).run P w= .ok () (w.putObj r o):=by simp[setObj,Sem.run,h,World.putObj]
theorem run_lookup {w:World}{r:Nat}{l:List (K × V)}{k:K}{zv:Value}{ok:Bool}(hk:KeyOk (V:=V) P kt encK)(ht:∀ w,(underlying t).run P w= .ok (.map kt et) w)(hz:∀ w,(zeroValue et).run P w= .ok zv w)(h:w.heap[r]? =some (mapO encK encV l)):
  (Instr.lookup t (.map (some r)) (encK k) ok).run P w= .ok (if ok then .tuple #[((look l k).map encV).getD zv, .bool (look l k).isSome] else ((look l k).map encV).getD zv) w:=by
 have hg:=Ck (P:=P) h;unfold Instr.lookup;simp only[Sem.run_bind,ht,Result.andThen,hg,Sem.run_pure,hk.chk];have hf:=hk.find encV l k w;rw[hf];unfold look;cases findI k l 0 with
 |none=>simp[hz,Sem.run_bind,Result.andThen]
 |some p=>simp
theorem yl_lookup2 {r:Nat}{l:List (K × V)}{k:K}{zv v:Value}(hk:KeyOk (V:=V) P kt encK)(hx:Ev L x (.map (some r)))(hy:Ev L y v)(hv:v=encK k)(ht:∀ w,(underlying t).run P w= .ok (.map kt et) w)(hz:∀ w,(zeroValue et).run P w= .ok zv w)
  (hf:Fnd H r (mapO encK encV l):=by(repeat (first|exact Av|refine Az ?_|refine By ?_));done):Yl P w0 (.lookup t x y true) ty L H (.tuple #[((look l k).map encV).getD zv, .bool (look l k).isSome]):=Ig U fun H' hs b w hO=>by
 have h:=run_lookup (P:=P) (k:=k) (ok:=true) hk ht hz ((hO.sub hs).has _ hf);subst hv;simp[exO,execOp,hx b,hy b,h,Sem.run_bind,Result.andThen]
theorem Ch {r:Nat}{l:List (K × V)}(k:K)(u:V){v v':Value}{H':List (Nat × Obj)}(hk:KeyOk (V:=V) P kt encK)(hx:Ev L x (.map (some r)))(hy:Ev L y v)(hv:v=encK k)(hz:Ev L z v')(hv':v'=encV u)(ht:∀ w,(underlying t).run P w= .ok (.map kt et) w)
  (hu:Upd H r (mapO encK encV l) (mapO encK encV (upsert l k u)) H':=by(repeat (first|exact Upd.h|apply Upd.t|apply Ci));done):Eff P w0 (.mapUpdate t x y z) ty L H (Still undef H'):=
 ⟨rfl,fun b w hO=>by
  subst hv hv';have hh:=hO.has _ hu.mem;have hg:=Ck (P:=P) hh;have hf:=hk.find encV l k w;have h1:(exO (ev (lk L b)) (.mapUpdate t x y z) ty).run P w= .ok .skip (w.putObj r (mapO encK encV (upsert l k u))):=by
   simp only[exO,execOp,hx b,hy b,hz b];unfold Instr.mapUpdate;simp only[Sem.run_bind,ht,Result.andThen,hg,hk.chk,hf];unfold upsert;cases hi:findI k l 0 with
   |none=>
    have hs:=E8 (P:=P) (.map ((ents encK encV l).toArray.push {key:=encK k,val:=encV u,born:=l.length}) (l.length+1)) hh;simp only[Option.map_none,hs,Sem.run_pure];simp[mapO,ents_append]
   |some p=>
    obtain⟨i,v0⟩:=p;obtain⟨_,h2,h3⟩:=findI_lt hi;have he:(ents encK encV l).toArray[i]? =some {key:=encK k,val:=encV v0,born:=i}:=by
     rw[List.getElem?_toArray,Ez];simp at h3;simp[h3]
    have hs:=E8 (P:=P) (.map ((ents encK encV l).toArray.modify i (fun e=>{e with key:=encK k,val:=encV u})) l.length) hh;simp only[Option.map_some,he,Option.getD_some,Instr.keyThatStays,hk.bits,if_true,Sem.run_pure,Sem.run_bind,Result.andThen,hs];rw[ents_set];simp[mapO]
  rw[h1];exact⟨_,hO.put hu,rfl,rfl⟩⟩
theorem Fnd.mono {H H':List (Nat × Obj)}{n:Nat}{o:Obj}(h:Fnd H n o)(hs:H.Sublist H':=by exact sbt):Fnd H' n o:=hs.subset h
inductive Loc:List (Nat × Obj)→Nat→Obj→List (Nat × Obj)→(Obj→List (Nat × Obj))→Prop
 |h {H r o}:Loc ((r,o)::H) r o H (fun o'=>(r,o')::H)
 |t {H r o R F e}:Loc H r o R F→Loc (e::H) r o (e::R) (fun o'=>e::F o')
theorem Loc.a {X H:List (Nat × Obj)}{r:Nat}{o:Obj}{R:List (Nat × Obj)}{F:Obj→List (Nat × Obj)}(h:Loc H r o R F):Loc (X++H) r o (X++R) (fun o'=>X++F o'):=by
 induction X with
 |nil=>exact h
 |cons e X ih=>exact .t ih
theorem Loc.perm {H:List (Nat × Obj)}{r:Nat}{o:Obj}{R:List (Nat × Obj)}{F:Obj→List (Nat × Obj)}(h:Loc H r o R F):H.Perm ((r,o)::R)∧∀ o',(F o').Perm ((r,o')::R):=by
 induction h with
 |h=>exact⟨List.Perm.refl _,fun _=>List.Perm.refl _⟩
 |t _ ih=>exact⟨(ih.1.cons _).trans (List.Perm.swap _ _ _),fun o'=>((ih.2 o').cons _).trans (List.Perm.swap _ _ _)⟩
theorem G3 {β:Type}{w0:World}{f:FuncId}{args:Array Value}{H R:List (Nat × Obj)}{r:Nat}{o:Obj}{F:Obj→List (Nat × Obj)}{φ:Value→β→Prop}{o':β→Obj}(h:FSpec P w0 f args ((r,o)::R) (fun v H'=>∃ x,φ v x∧H'=(r,o' x)::R))
  (hl:Loc H r o R F:=by(repeat (first|exact Loc.h|apply Loc.t|apply Loc.a));done):FSpec P w0 f args H (fun v H'=>∃ x,φ v x∧H'=F (o' x)):=fun w hO=>
 (h w (B5 hO hl.perm.1)).mono fun e w' ⟨v,H',he,hO',x,hx,hH⟩=>⟨v,_,he,B5 (hH ▸ hO') (hl.perm.2 _).symm,x,hx,rfl⟩
end
section
variable {K V:Type} [DecidableEq K]
def Ents (encK:K→Value) (encV:V→Value) (es:List MapEntry) (l:List (K × V)):Prop:=es.map (fun e=>(e.key,e.val))=l.map fun p=>(encK p.1,encV p.2)
theorem ents_nil (encK:K→Value)(encV:V→Value):Ents encK encV [] []:=rfl
theorem Ents.snoc {encK:K→Value}{encV:V→Value}{es:List MapEntry}{l:List (K × V)}(h:Ents encK encV es l)(k:K)(v:V)(c:Nat):Ents encK encV (es++[{key:=encK k,val:=encV v,born:=c}]) (l++[(k,v)]):=by
 unfold Ents at *;rw[List.map_append,List.map_append,h];rfl
theorem Ents.len {encK:K→Value}{encV:V→Value}{es:List MapEntry}{l:List (K × V)}(h:Ents encK encV es l):es.length=l.length:=by
 have:=congrArg List.length h
 simpa using this
theorem Ents.erase {encK:K→Value}{encV:V→Value}:∀ {es:List MapEntry} {l:List (K × V)} (i:Nat),Ents encK encV es l→Ents encK encV (es.eraseIdx i) (l.eraseIdx i)
 |[],[],i,_=>by simp[Ents]
 |[],_::_,_,h=>by cases h
 |_::_,[],_,h=>by cases h
 |e::es,p::l,0,h=>by
  unfold Ents at h ⊢;simp only[List.map_cons] at h;exact(List.cons.inj h).2
 |e::es,p::l,i+1,h=>by
  have h1:Ents encK encV es l:=by
   unfold Ents at h ⊢;simp only[List.map_cons] at h;exact(List.cons.inj h).2
  have ih:=Ents.erase i h1;unfold Ents at h ih ⊢;simp only[List.map_cons] at h;simp only[List.eraseIdx_cons_succ,List.map_cons,ih];rw[(List.cons.inj h).1]
variable {P:Program} {kt:TypeId} {encK:K→Value} {encV:V→Value}
structure KeyG (P:Program) (kt:TypeId) (encK:K→Value):Prop where
 chk:∀ b k w,(Instr.checkKey b 10000 kt (encK k)).run P w= .ok () w
 find:∀ (encV:V→Value) (es:List MapEntry) (l:List (K × V)) k w,Ents encK encV es l→(Instr.findKey kt (encK k) es).run P w= .ok ((findI k l 0).map fun p=>(p.1,encV p.2)) w
theorem findAskG (h:∀ k k' w,(Op.equal kt (encK k) (encK k')).run P w= .ok (decide (k'=k)) w)(k:K)(w:World):∀ (es:List MapEntry) (l:List (K × V)) (i:Nat),Ents encK encV es l→(Instr.findAsking kt (encK k) es i).run P w= .ok ((findI k l i).map fun p=>(p.1,encV p.2)) w
 |[],[],i,_=>rfl
 |[],_::_,_,h=>by cases h
 |_::_,[],_,h=>by cases h
 |e::es,p::l,i,he=>by
  have h1:Ents encK encV es l:=by
   unfold Ents at he ⊢;simp only[List.map_cons] at he;exact(List.cons.inj he).2
  have h2:e.key=encK p.1∧e.val=encV p.2:=by
   unfold Ents at he;simp only[List.map_cons] at he;have:=(List.cons.inj he).1;exact Prod.mk.inj this
  simp only[Instr.findAsking,h2.1,Sem.run_bind,h,Result.andThen];rw[findI]
  by_cases hk:p.1=k
  ·simp[hk,h2.2]
  ·simp only[hk,decide_false,if_false,Bool.false_eq_true];exact findAskG h k w es l (i+1) h1
theorem keyG_ask {td:TypeDesc}(ht:∀ w,(underlying kt).run P w= .ok td w)(hc:∀ b k w,(Instr.checkKey b 10000 kt (encK k)).run P w= .ok () w)(hn:∀ k k',Instr.sameNow td (encK k) (encK k')=none)(h:∀ k k' w,(Op.equal kt (encK k) (encK k')).run P w= .ok (decide (k'=k)) w):KeyG (V:=V) P kt encK:=
 ⟨hc,fun encV es l k w he=>by
  unfold Instr.findKey;simp only[Sem.run_bind,ht,Result.andThen];cases es with
  |nil=>
   have:l=[]:=by
    have:=he.len;exact List.eq_nil_of_length_eq_zero (by simpa using this.symm)
   subst this;rfl
  |cons e es=>
   cases l with
   |nil=>cases he
   |cons p l=>
    have h2:e.key=encK p.1:=by
     have he':=he;unfold Ents at he';simp only[List.map_cons] at he';exact(Prod.mk.inj (List.cons.inj he').1).1
    have h1:Instr.findNow td (encK k) (e::es) 0=none:=by simp[Instr.findNow,h2,hn]
    rw[h1];exact findAskG h k w (e::es) (p::l) 0 he⟩
variable {w0:World} {L:Fm} {H:List (Nat × Obj)} {ty t et:TypeId} {x y z:Operand}
theorem run_lookupG {w:World}{r c:Nat}{es:List MapEntry}{l:List (K × V)}{k:K}{zv:Value}{ok:Bool}(hk:KeyG (V:=V) P kt encK)(he:Ents encK encV es l)(ht:∀ w,(underlying t).run P w= .ok (.map kt et) w)(hz:∀ w,(zeroValue et).run P w= .ok zv w)(h:w.heap[r]? =some (.map es.toArray c)):
  (Instr.lookup t (.map (some r)) (encK k) ok).run P w= .ok (if ok then .tuple #[((look l k).map encV).getD zv, .bool (look l k).isSome] else ((look l k).map encV).getD zv) w:=by
 have hg:=Ck (P:=P) h;unfold Instr.lookup;simp only[Sem.run_bind,ht,Result.andThen,hg,Sem.run_pure,hk.chk];have hf:=hk.find encV es l k w he;rw[hf];unfold look;cases findI k l 0 with
 |none=>simp[hz,Sem.run_bind,Result.andThen]
 |some p=>simp
theorem yl_lookupG {r c:Nat}{es:List MapEntry}{l:List (K × V)}{k:K}{zv v:Value}(hk:KeyG (V:=V) P kt encK)(he:Ents encK encV es l)(hx:Ev L x (.map (some r)))(hy:Ev L y v)(hv:v=encK k)(ht:∀ w,(underlying t).run P w= .ok (.map kt et) w)(hz:∀ w,(zeroValue et).run P w= .ok zv w)
  (hf:Fnd H r (.map es.toArray c)):Yl P w0 (.lookup t x y true) ty L H (.tuple #[((look l k).map encV).getD zv, .bool (look l k).isSome]):=Ig U fun H' hs b w hO=>by
 have h:=run_lookupG (P:=P) (k:=k) (ok:=true) hk he ht hz ((hO.sub hs).has _ hf);subst hv;simp[exO,execOp,hx b,hy b,h,Sem.run_bind,Result.andThen]
theorem eff_mapNewG {r c:Nat}{es:List MapEntry}{l:List (K × V)}(k:K)(u:V){v v':Value}{H':List (Nat × Obj)}(hk:KeyG (V:=V) P kt encK)(he:Ents encK encV es l)(hn:look l k=none)(hx:Ev L x (.map (some r)))(hy:Ev L y v)(hv:v=encK k)(hz:Ev L z v')(hv':v'=encV u)(ht:∀ w,(underlying t).run P w= .ok (.map kt et) w)
  (hu:Upd H r (.map es.toArray c) (.map (es++[({key:=encK k,val:=encV u,born:=c}:MapEntry)]).toArray (c+1)) H'):Eff P w0 (.mapUpdate t x y z) ty L H (Still undef H'):=
 ⟨rfl,fun b w hO=>by
  subst hv hv';have hh:=hO.has _ hu.mem;have hg:=Ck (P:=P) hh;have hf:=hk.find encV es l k w he;have hi:findI k l 0=none:=by
   unfold look at hn;cases h:findI k l 0 with
   |none=>rfl
   |some p=>rw[h] at hn;cases hn
  have h1:(exO (ev (lk L b)) (.mapUpdate t x y z) ty).run P w= .ok .skip (w.putObj r (.map (es++[({key:=encK k,val:=encV u,born:=c}:MapEntry)]).toArray (c+1))):=by
   simp only[exO,execOp,hx b,hy b,hz b];unfold Instr.mapUpdate;simp only[Sem.run_bind,ht,Result.andThen,hg,hk.chk,hf,hi];have hs:=E8 (P:=P) (.map (es.toArray.push {key:=encK k,val:=encV u,born:=c}) (c+1)) hh;simp only[Option.map_none,hs,Sem.run_pure];simp
  rw[h1];exact⟨_,hO.put hu,rfl,rfl⟩⟩
end
end Go.Proofs.YtkojjapnfdlddaaGreat
namespace Go.Proofs.YtkojjapnfdlddaaGreat
open _root_.Go.Proofs.Tryz
open Go.RowKit Go.Sort
set_option linter.unusedVariables false
set_option linter.unusedSimpArgs false
set_option linter.unusedSectionVars false
set_option maxRecDepth 100000
theorem Own.ahead {w0 w:World}{H:List (Nat × Obj)}(h:Own w0 H w)(n:Nat):Own w0 H (Sort.ahead w n):=
 ⟨⟨h.below.os,h.below.tape,h.below.output,h.below.size,h.below.block⟩,h.has,h.base,h.nodup,Nat.le_trans h.drw (Nat.le_add_right _ _)⟩
theorem Own.grow {w0 w:World}{H:List (Nat × Obj)}(h:Own w0 H w)(os:Array Obj):Own w0 H (Sort.grow w os):=by
 have key:∀ k o,w.heap[k]? =some o→(w.heap++os)[k]? =some o:=fun k o hk=>by
  have:=(Array.getElem?_eq_some_iff.1 hk).1;rw[Array.getElem?_append_left this];exact hk
 refine⟨⟨h.below.os,h.below.tape,h.below.output,?_,fun k hk=> ?_⟩,fun e he=>key _ _ (h.has e he),h.base,h.nodup,h.drw⟩
 ·show w0.heap.size≤(w.heap++os).size;have:=h.below.size;simp;omega
 ·show (w.heap++os)[k]? =_;rw[← h.below.block k hk];have:=h.below.size;rw[Array.getElem?_append_left qom]
theorem map_put {w:World}{n:Nat}{c:Array Value}{e:TypeId}{f:Nat × Nat}(g:Array Value→Array Value)(h:w.heap[n]? =some (.cells c e f)):mapBlock w n g=w.putObj n (.cells (g c) e f):=by
 unfold mapBlock World.putObj
 congr 1
 apply Array.ext_getElem?;intro k;simp only[Array.getElem?_modify,Array.getElem?_setIfInBounds]
 by_cases hk:n=k
 ·subst hk;obtain⟨h1,h2⟩:=Array.getElem?_eq_some_iff.1 h;simp[h1,h2,onCells]
 ·simp[hk]
section
variable {α:Type} [Inhabited α] {w0 w:World} {n:Nat} {junk:List Value} {e:TypeId} {X:List (Nat × Obj)} {enc:α→Value}
theorem put_list {old:List Value}{l:List α}(hl:old.length=l.length):putCells enc 0 l.toArray (old++junk).toArray=(l.map enc++junk).toArray:=by
 unfold putCells;apply Array.ext_getElem?;intro k;simp only[Array.getElem?_mapIdx,List.getElem?_toArray,List.size_toArray,Nat.zero_le,true_and,Nat.zero_add,Nat.sub_zero]
 by_cases hk:k<l.length
 ·rw[List.getElem?_append_left qom,List.getElem?_append_left (by simpa using hk)];rw[List.getElem?_eq_getElem (by omega:k<old.length),List.getElem?_eq_getElem (by simpa using hk)];simp[hk]
 ·rw[List.getElem?_append_right qom,List.getElem?_append_right (by simp;omega)];simp only[hk,if_false,List.length_map,hl];cases junk[k - l.length]? <;>rfl
theorem own_row {l l':List α}(hO:Own w0 ((n,Cl (l.map enc++junk) e)::X) w)(hl:l.length=l'.length)(q:Nat)(os:Array Obj):Own w0 ((n,Cl (l'.map enc++junk) e)::X) (Sort.grow (putRow enc (Sort.ahead w q) n 0 l'.toArray) os):=by
 refine Own.grow ?_ os;have h1:=hO.ahead q;have h2:=h1.has _ (List.mem_cons_self ..);unfold putRow;rw[map_put _ h2,put_list (by simpa using hl)];exact h1.put .h
theorem own_holds {l:List α}(hO:Own w0 ((n,Cl (l.map enc++junk) e)::X) w):Holds enc w n 0 l.toArray:=fun j hj=>by
 have hj':j<l.length:=by simpa using hj
 refine⟨hO.cell Av ?_,hO.free Av⟩;rw[Nat.zero_add,List.getElem?_append_left (by simpa using hj')];simp[hj']
theorem own_lt {o:Obj}(hO:Own w0 ((n,o)::X) w):n<w.heap.size:=(Array.getElem?_eq_some_iff.1 (hO.has _ (List.mem_cons_self ..))).1
end
theorem flat_one {α:Type}{f:α→Value}:∀ (l:List α),l.flatMap (fun x=>[f x])=l.map f
 |[]=>rfl
 |x::l=>by rw[List.flatMap_cons,flat_one l];rfl
end Go.Proofs.YtkojjapnfdlddaaGreat
namespace Go.Proofs.YtkojjapnfdlddaaGreat
open _root_.Go.Proofs.Tryz
open Go.RowKit
set_option linter.unusedVariables false
set_option linter.unusedSimpArgs false
set_option linter.unusedSectionVars false
set_option maxRecDepth 100000
inductive LocL:List (Nat × Obj)→List (Nat × Obj)→List (Nat × Obj)→(List (Nat × Obj)→List (Nat × Obj))→Prop
 |h {M X}:LocL (M++X) M X (fun M'=>M'++X)
 |t {H M R F e}:LocL H M R F→LocL (e::H) M (e::R) (fun M'=>e::F M')
 |a {X H M R F}:LocL H M R F→LocL (X++H) M (X++R) (fun M'=>X++F M')
theorem LocL.perm {H M R:List (Nat × Obj)}{F:List (Nat × Obj)→List (Nat × Obj)}(h:LocL H M R F):H.Perm (M++R)∧∀ M',(F M').Perm (M'++R):=by
 induction h with
 |h=>exact⟨List.Perm.refl _,fun _=>List.Perm.refl _⟩
 |t _ ih=>exact⟨(ih.1.cons _).trans List.perm_middle.symm,fun M'=>((ih.2 M').cons _).trans List.perm_middle.symm⟩
 | @a X H M R F _ ih=>
  have key:∀ M':List (Nat × Obj),(X++(M'++R)).Perm (M'++(X++R)):=fun M'=>by
   rw[← List.append_assoc,← List.append_assoc];exact List.perm_append_comm.append_right R
  exact⟨(ih.1.append_left X).trans (key _),fun M'=>((ih.2 M').append_left X).trans (key _)⟩
section
variable {P:Program} {w0:World} {L:Fm} {op:Op} {ty:TypeId} {H:List (Nat × Obj)}
theorem Eff.perm {H0:List (Nat × Obj)}{K K0:Value→List (Nat × Obj)→Prop}(h:Eff P w0 op ty L H0 K0)(hp:H.Perm H0)(hk:∀ v H',K0 v H'→∃ H'',H'.Perm H''∧K v H''):Eff P w0 op ty L H K:=by
 refine⟨h.1,fun b w hO=> ?_⟩;have h1:=h.2 b w (B5 hO hp)
 revert h1
 unfold effO
 split
 ·rintro⟨H',hO',hK⟩;obtain⟨H'',hpp,hK'⟩:=hk _ _ hK;exact⟨H'',B5 hO' hpp,hK'⟩
 ·rintro⟨H',hO',hK⟩;obtain⟨H'',hpp,hK'⟩:=hk _ _ hK;exact⟨H'',B5 hO' hpp,hK'⟩
 ·intro h2;exact h2.mono fun e w' ⟨v,H',he,hO',hK⟩=>by obtain⟨H'',hpp,hK'⟩:=hk _ _ hK;exact⟨v,H'',he,B5 hO' hpp,hK'⟩
 ·intro h2;exact h2.mono fun e w' ⟨v,H',he,hO',hK⟩=>by obtain⟨H'',hpp,hK'⟩:=hk _ _ hK;exact⟨v,H'',he,B5 hO' hpp,hK'⟩
 ·exact id
variable {x y:Operand} {t t2 e:TypeId}
theorem Cu {α:Type}{enc:α→List Value}(v:α){R:List (Nat × Obj)}{F:List (Nat × Obj)→List (Nat × Obj)}{d:Sl}{l:List α}{n sz by':Nat}{z:Value}{i0:TypeInfo}{e2:TypeId}(hl:LocL H (slH d (l.flatMap enc) e) R F)(hx:Ev L x (slV d l.length))(hy:Ev L y (.slice (some ⟨n,0,none⟩) 1 1))
  (ht:∀ w,(underlying t).run P w= .ok (.slice e) w) (ht2:∀ w,(underlying t2).run P w= .ok (.slice e2) w) (hz:∀ w,(sizeOf e).run P w= .ok sz w) (hi:∀ w,(typeInfo e).run P w= .ok i0 w) (hby:i0.bytes=by') (hzv:∀ w,(zeroValue e).run P w= .ok z w) (hzs:z.cells.size=sz)
  (he:∀ u,(enc u).length=sz) (h1:(enc v).all oneB=true) (hok:SlOk d l.length sz) (hb0:by'≠0) (hb:(2*(l.length+1)+600)*by'≤281474976710656) (hn:Cells w0 H n 0 (enc v):=by exact Ay):
  Eff P w0 (.call {callee:= .builtin .append,args:= #[x,y],argTypes:= #[t,t2]}) ty L H (fun u H'=>∃ d',u=slV d' (l.length+1)∧SlOk d' (l.length+1) sz∧H'=F (slH d' ((l++[v]).flatMap enc) e)):=by
 have hn':Cells w0 ([]++(slH d (l.flatMap enc) e++R)) n 0 (enc v):=fun i u hi w hO=>hn i u hi w (B5 hO hl.perm.1.symm)
 refine(eff_app1 (A:=[]) (X:=R) v hx hy ht ht2 hz hi hby hzv hzs he h1 hok hb0 hb hn').perm hl.perm.1 ?_;rintro u H' ⟨d',h1,h2,rfl⟩;exact⟨_,(hl.perm.2 _).symm,d',h1,h2,rfl⟩
end
theorem B7 {β:Type}{P:Program}{w0:World}{f:FuncId}{args:Array Value}{H R M:List (Nat × Obj)}{F:List (Nat × Obj)→List (Nat × Obj)}{φ:Value→β→Prop}{M':β→List (Nat × Obj)}(h:FSpec P w0 f args (M++R) (fun v H'=>∃ x,φ v x∧H'=M' x++R))
  (hl:LocL H M R F):FSpec P w0 f args H (fun v H'=>∃ x,φ v x∧H'=F (M' x)):=fun w hO=>
 (h w (B5 hO hl.perm.1)).mono fun e w' ⟨v,H',he,hO',x,hx,hH⟩=>⟨v,_,he,B5 (hH ▸ hO') (hl.perm.2 _).symm,x,hx,rfl⟩
def slD (q:Option Addr) (c lo sz:Nat):Option Addr:=if c=lo then q else q.map (·.add (lo*sz))
section
variable {P:Program} {w0:World} {L:Fm} {ty t:TypeId} {H:List (Nat × Obj)} {x y z:Operand}
theorem yl_sliceH {e:TypeId}{q:Option Addr}{n c sz k:Nat}(hx:Ev L x (.slice q n c))(hz:Ev L z (.int .i64 (k:Int)))(ht:∀ w,(underlying t).run P w= .ok (.slice e) w)(hs:∀ w,(sizeOf e).run P w= .ok sz w)(h:k≤c):
  Yl P w0 (.slice t x none (some z) none) ty L H (.slice q k c):=Ba U fun b w=>by
 have e0:(q.map fun a=>a.add (0*sz))=q:=by cases q<;>simp[Addr.add]
 simp[exO,execOp,Instr.sliceAt,Instr.slice,Instr.sliceBounds,Instr.sliceBound,asIntOf,hx b,hz b,ht,hs,Sem.run_bind,Result.andThen,show (k:Int)≤c by omega];rw[if_pos h];rw[Nat.zero_mul] at e0;simp[e0]
theorem yl_sliceL {e:TypeId}{q:Option Addr}{n c sz k:Nat}(hx:Ev L x (.slice q n c))(hz:Ev L z (.int .i64 (k:Int)))(ht:∀ w,(underlying t).run P w= .ok (.slice e) w)(hs:∀ w,(sizeOf e).run P w= .ok sz w)(h:k≤n):
  Yl P w0 (.slice t x (some z) none none) ty L H (.slice (slD q c k sz) (n - k) (c - k)):=Ba U fun b w=>by
 simp[exO,execOp,Instr.sliceAt,Instr.slice,Instr.sliceBounds,Instr.sliceBound,asIntOf,hx b,hz b,ht,hs,Sem.run_bind,Result.andThen,show (k:Int)≤n by omega,slD];rw[if_pos h]
end
theorem Arr.drop {α:Type}{w0:World}{H:List (Nat × Obj)}{q:Option Addr}{sz c:Nat}{enc:α→List Value}{l:List α}(h:Arr w0 H q sz enc l)(hc:l.length≤c)(lo:Nat):Arr w0 H (slD q c lo sz) sz enc (l.drop lo):=fun i x hi=>by
 rw[List.getElem?_drop] at hi;have hlt:=(List.getElem?_eq_some_iff.1 hi).1;obtain⟨hb,hcs⟩:=h _ x hi;unfold slD;have ea:(some (⟨bq q,oq q,none⟩:Addr)).map (·.add (lo*sz))=some ⟨bq q,oq q+lo*sz,none⟩:=by
  simp only[Option.map_some,Addr.add];split<;>simp_all
 rw[if_neg qom,hb,ea];refine⟨rfl,?_⟩;show Cells w0 H (bq q) (oq q+lo*sz+i*sz) (enc x);have e:oq q+(lo+i)*sz=oq q+lo*sz+i*sz:=by rw[Nat.add_mul];omega
 rw[e] at hcs;exact hcs
section
variable {K V:Type} {encK:K→Value} {encV:V→Value} {P:Program} {w0:World} {L:Fm} {H:List (Nat × Obj)} {ty t:TypeId} {x:Operand}
abbrev itO (m:Nat) (c:Nat) (seen:List Nat) (last:Nat):Obj:= .mapIter (some m) c seen.toArray last
theorem eff_rangeMap {kt et:TypeId}{m:Nat}{l:List (K × V)}(hx:Ev L x (.map (some m)))(hf:Fnd H m (mapO encK encV l))(ht:∀ w,(underlying t).run P w= .ok (.map kt et) w):
  Eff P w0 (.range t x) ty L H (fun v H'=>∃ n,v= .pointer (some ⟨n,0,none⟩)∧H'=(n,itO m l.length [] l.length)::H):=
 ⟨rfl,fun b w hO=>by
  have hh:=Ck (P:=P) (hO.has _ hf);have:(exO (ev (lk L b)) (.range t x) ty).run P w= .ok (.value (.pointer (some ⟨w.heap.size,0,none⟩))) (w.alloc (itO m l.length [] l.length)):=by
   simp[exO,execOp,Instr.range,hx b,ht,hh,newObj,Sem.run,Sem.run_bind,Result.andThen]
  rw[this];exact⟨_,hO.alloc _,_,rfl,rfl⟩⟩
theorem run_next {w:World}{r m c:Nat}{es:Array MapEntry}{seen:Array Nat}(h1:w.heap[r]? =some (.mapIter (some m) c seen c))(h2:w.heap[m]? =some (.map es c))(hb:∀ e∈es,e.born<c):
    ∃ w1,(w1=w∨w1=w.drew)∧
      ((es.filter (fun e=> !seen.contains e.born)= #[]∧(Instr.next (.pointer (some ⟨r,0,none⟩)) false ty).run P w= .ok (.tuple #[.bool false]) w1)∨
       ∃ e,e∈es∧seen.contains e.born=false∧(Instr.next (.pointer (some ⟨r,0,none⟩)) false ty).run P w= .ok (.tuple #[.bool true,e.key,e.val]) (w1.putObj r (.mapIter (some m) c (seen.push e.born) c))):=by
  have hg1:(getObj r).run P w= .ok (.mapIter (some m) c seen c) w:=by simp[getObj,Sem.run,h1]
  have hg2:=Ck (P:=P) h2;have hall:(!seen.isEmpty&& !es.isEmpty&&es.all (fun e=>decide (e.born≥c)))=false:=by
    rw[Bool.eq_false_iff];intro h;simp only[Bool.and_eq_true,Bool.not_eq_true',Array.all_eq_true,decide_eq_true_eq] at h;obtain⟨⟨_,hne⟩,ha⟩:=h;have hp:0<es.size:=by
      rcases Nat.eq_zero_or_pos es.size with h0|h0
      · have:es= #[]:=Array.eq_empty_of_size_eq_zero h0;rw[this] at hne;cases hne
      · exact h0
    have h3:=ha 0 hp;have h4:=hb es[0] (Array.getElem_mem _);omega
  obtain⟨left,hleft⟩:∃ left,left=es.filter fun e=> !seen.contains e.born:=⟨_,rfl⟩
  have hlm:∀ e∈left,e∈es∧seen.contains e.born=false:=fun e he=>by
    rw[hleft,Array.mem_filter] at he;exact⟨he.1,by simpa using he.2⟩
  have hold:left.filter (fun e=>decide (e.born<c))=left:=by
    rw[Array.filter_eq_self];intro e he;exact decide_eq_true (hb e (hlm e he).1)
  have hnew:left.filter (fun e=>decide (e.born≥c))= #[]:=by
    rw[Array.filter_eq_empty_iff];intro e he;have:=hb e (hlm e he).1;simp;omega
  obtain⟨cand,hcand⟩:∃ cand:Array (Option MapEntry),cand=(if left.isEmpty then #[none] else #[])++(left++ #[]).map some:=⟨_,rfl⟩;have hcp:0<cand.size:=by
    rw[hcand];rcases Nat.eq_zero_or_pos left.size with h0|h0
    · have:left= #[]:=Array.eq_empty_of_size_eq_zero h0;subst this;simp
    · simp;omega
  obtain⟨idx,w1,hw1,hidx,hch⟩:∃ idx w1,(w1=w∨w1=w.drew)∧idx<cand.size∧(choose (.mapNext cand.size)).run P w= .ok idx w1:=by
    rw[run_choose_drew]
    split
    · exact⟨0,w, .inl U,hcp,rfl⟩
    · exact⟨_,_, .inr U,Nat.mod_lt _ hcp,rfl⟩
  refine⟨w1,hw1,?_⟩;have hrun:(Instr.next (.pointer (some ⟨r,0,none⟩)) false ty).run P w=(match cand[idx]? with
      |some (some e)=>(do setObj r (.mapIter (some m) c (seen.push e.born) c);pure (.tuple #[.bool true,e.key,e.val]):Sem Value)
      |some none=>pure (.tuple #[.bool false])
      |none=>stuck "Next: no such candidate").run P w1:=by
    unfold Instr.next;simp only[Sem.run_bind,hg1,hg2,Result.andThen,hall,← hleft,hold,hnew,← hcand,hch,Bool.false_eq_true,if_false,Sem.run_pure]
    rfl
  rcases Nat.eq_zero_or_pos left.size with h0|h0
  · have he:left= #[]:=Array.eq_empty_of_size_eq_zero h0;refine .inl ⟨by rw[← hleft,he],?_⟩;rw[hrun];have hc1:cand= #[none]:=by rw[hcand,he];simp
    rw[hc1] at hidx ⊢;have:idx=0:=by simpa using hidx
    subst this;simp
  · have hc1:cand=left.map some:=by
      rw[hcand];have:left.isEmpty=false:=by rw[Array.isEmpty_eq_false_iff];intro he;rw[he] at h0;simp at h0
      rw[this];simp
    rw[hc1] at hidx hrun;have hil:idx<left.size:=by simpa using hidx
    have hm:=hlm left[idx] (Array.getElem_mem _);refine .inr ⟨left[idx],hm.1,hm.2,?_⟩;rw[hrun];have hh1:w1.heap[r]? =some (.mapIter (some m) c seen c):=by rcases hw1 with rfl|rfl<;>exact h1
    have hget:(left.map some)[idx]? =some (some left[idx]):=by simp[hil]
    rw[hget];simp[setObj,Sem.run,hh1,World.putObj,Sem.run_bind,Result.andThen]
theorem ents_mem [DecidableEq K] {l:List (K × V)}{e:MapEntry}(h:e∈(ents encK encV l).toArray):∃ i p,l[i]? =some p∧e={key:=encK p.1,val:=encV p.2,born:=i}:=by
 simp only[List.mem_toArray] at h;obtain⟨i,hi,he⟩:=List.getElem_of_mem h;have h1:=Ez encK encV l i;rw[List.getElem?_eq_getElem hi,he] at h1;cases hl:l[i]? with
 |none=>rw[hl] at h1;simp at h1
 |some p=>rw[hl] at h1;simp at h1;exact⟨i,p,hl,h1⟩
theorem own_drew {w w1:World}(hO:Own w0 H w)(h:w1=w∨w1=w.drew):Own w0 H w1:=by
 rcases h with rfl|rfl
 ·exact hO
 ·exact hO.drawn
theorem eff_next [DecidableEq K] {m r:Nat}{l:List (K × V)}{seen:List Nat}{R:List (Nat × Obj)}{F:Obj→List (Nat × Obj)}(hx:Ev L x (.pointer (some ⟨r,0,none⟩)))(hm:Fnd H m (mapO encK encV l))(hl:Loc H r (itO m l.length seen l.length) R F):
  Eff P w0 (.next x false) ty L H (fun v H'=>(∃ i p,l[i]? =some p∧i∉seen∧v= .tuple #[.bool true,encK p.1,encV p.2]∧H'=F (itO m l.length (seen++[i]) l.length))∨((∀ i,i<l.length→i∈seen)∧v= .tuple #[.bool false]∧H'=H)):=
 ⟨rfl,fun b w hO=>by
  have hO1:=B5 hO hl.perm.1;have h1:=hO1.has _ (List.mem_cons_self ..);have h2:=hO.has _ hm;obtain⟨w1,hw1,hcs⟩:=run_next (P:=P) (ty:=ty) (c:=l.length) h1 h2 (fun e he=>by
   obtain⟨i,p,hi,rfl⟩:=ents_mem he;exact(List.getElem?_eq_some_iff.1 hi).1)
  have e0:(exO (ev (lk L b)) (.next x false) ty).run P w=((Instr.next (.pointer (some ⟨r,0,none⟩)) false ty).run P w).andThen fun v w=> .ok (.value v) w:=by
   simp[exO,execOp,hx b,Sem.run_bind]
  rcases hcs with ⟨he,hr⟩|⟨e,he,hns,hr⟩
  ·rw[e0,hr];refine⟨H,own_drew hO hw1, .inr ⟨fun i hi=> ?_,rfl,rfl⟩⟩;have h3:({key:=encK l[i].1,val:=encV l[i].2,born:=i}:MapEntry)∈(ents encK encV l).toArray:=by
    rw[List.mem_toArray,List.mem_iff_getElem?];exact⟨i,by rw[Ez,List.getElem?_eq_getElem hi];rfl⟩
   rw[Array.filter_eq_empty_iff] at he;have:=he _ h3
   simpa using this
  ·rw[e0,hr];obtain⟨i,p,hi,rfl⟩:=ents_mem he;refine⟨F (itO m l.length (seen++[i]) l.length),?_, .inl ⟨i,p,hi,by simpa using hns,rfl,rfl⟩⟩;have hO2:=(own_drew hO1 hw1).put (o':=itO m l.length (seen++[i]) l.length) .h;have e3:(seen.toArray.push i)=(seen++[i]).toArray:=by simp
   simp only[e3];exact B5 hO2 (hl.perm.2 _).symm⟩
theorem yl_entry [DecidableEq K] {m r i:Nat}{l:List (K × V)}{p:K × V}{seen:List Nat}(hx:Ev L x (.pointer (some ⟨r,0,none⟩)))(hm:Fnd H m (mapO encK encV l))(hr:Fnd H r (itO m l.length (seen++[i]) l.length))(hi:l[i]? =some p):
  Yl P w0 (.entry x) ty L H (.tuple #[encK p.1,encV p.2]):=Ig U fun H' hs b w hO=>by
 have h1:=hO.has _ (hs.subset hr);have h2:=hO.has _ (hs.subset hm);have hg1:(getObj r).run P w= .ok (itO m l.length (seen++[i]) l.length) w:=by simp[getObj,Sem.run,h1]
 have hg2:=Ck (P:=P) h2;have hf:(ents encK encV l).toArray.find? (fun e=>e.born==i)=some {key:=encK p.1,val:=encV p.2,born:=i}:=by
  have hlt:=(List.getElem?_eq_some_iff.1 hi).1;simp only[List.find?_toArray];rw[List.find?_eq_some_iff_getElem];have hg:∀ j,(hj:j<(ents encK encV l).length)→∃ q,l[j]? =some q∧(ents encK encV l)[j]={key:=encK q.1,val:=encV q.2,born:=j}:=fun j hj=>by
   have h3:=Ez encK encV l j;rw[List.getElem?_eq_getElem hj] at h3;cases hq:l[j]? with
   |none=>rw[hq] at h3;simp at h3
   |some q=>rw[hq] at h3;simp at h3;exact⟨q,rfl,h3⟩
  have hel:(ents encK encV l).length=l.length:=by simp[ents]
  refine⟨by simp,i,by omega,?_,fun j hj=> ?_⟩
  ·obtain⟨q,hq,he⟩:=hg i qom;rw[hi] at hq;cases hq;exact he
  ·obtain⟨q,_,he⟩:=hg j qom;rw[he];simp;omega
 simp[exO,execOp,hx b,Instr.entry,hg1,hg2,hf,Sem.run_bind,Result.andThen]
end
section
variable {P:Program} {r:Option Nat} {N:Nat} {w0:World} {Q:Post} {L:Fm} {ds:List Deferred} {H H':List (Nat × Obj)} {ty t:TypeId} {x y:Operand}
theorem jq_perm {e:Exit}(hp:H.Perm H')(h:JQ w0 Q e L ds H'):JQ w0 Q e L ds H:=fun b w hO=>h b w (B5 hO hp)
theorem jl_perm {ops:Array Oper}{l:List Oper}(hp:H.Perm H')(h:JL P r N w0 ops l Q L ds H'):JL P r N w0 ops l Q L ds H:=fun b w hO=>h b w (B5 hO hp)
theorem Bm {b o n e sz:Nat}{i:Int}(hx:Ev L x (.pointer (some ⟨b,o,none⟩)))(hy:Ev L y (.int .i64 i))(ht:∀ w,(underlying t).run P w= .ok (.array n e) w)(hz:∀ w,(sizeOf e).run P w= .ok sz w)(h:0≤i∧i<n):
  Yl P w0 (.indexAddr t x y) ty L H (.pointer (some ⟨b,o+i.toNat*sz,none⟩)):=Ba U fun b' w=>by
 have e1:(⟨b,o,none⟩:Addr).add (i.toNat*sz)=⟨b,o+i.toNat*sz,none⟩:=by
  simp only[Addr.add];split<;>simp_all
 simp[exO,execOp,Instr.indexAt,Instr.sureAddr,asIntOf,hx b',hy b',ht,hz,h,e1,Sem.run_bind,Result.andThen]
theorem Be {n o:Nat}{v:Value}{l l':List Value}{t':TypeId}{H':List (Nat × Obj)}(hx:Ev L x (.pointer (some ⟨n,o,none⟩)))(hy:Ev L y v)(hv:oneB v=true)(hz:∀ w,(sizeOf t).run P w= .ok 1 w)
  (hu:Upd H n (Cl l t') (Cl l' t') H':=by(repeat (first|exact Upd.h|apply Upd.t|apply Ci));done) (hs:setN? l o v=some l':=by rfl):Eff P w0 (.store t x y) ty L H (Still undef H'):=eff_store1 hx hy hv hz (setN_of hs) hu
end
theorem two64:(2:Nat) ^ 64=18446744073709551616:=by decide
theorem D4 (n:Nat):BitVec.ofInt 64 (n:Int)=BitVec.ofNat 64 n:=BitVec.ofInt_natCast 64 n
section
variable {P:Program} {r:Option Nat} {N:Nat} {w0:World} {ops:Array Oper} {t f:Nat} {Q:Post} {L:Fm} {ds:List Deferred} {H0 H:List (Nat × Obj)} {listed:Array Bool}
variable {d:Option Tmp} {op:Op} {ty:TypeId} {p:String} {af:Array Edge} {g:Option (Nat × Bool)} {v:Value} {i j k l:Nat}
theorem yl_nilCheck {a:Addr}{ty:TypeId}{x:Operand}(hx:Ev L x (.pointer (some a))):Yl P w0 (.nilCheck x) ty L H (.pointer (some a)):=Ba U fun b w=>by
 simp[exO,execOp,hx b,Sem.run_bind,Result.andThen]
end
section
variable {P:Program} {r:Option Nat} {ops:Array Oper} {Q:Exit→Act→World→Prop} {w0:World} {s t:Nat} {Hs Hb:List (Nat × Obj)}
def hx (s:Nat) (Hs Hb:List (Nat × Obj)) (listed:Array Bool):List (Nat × Obj):=if listed.getD s false=true then Hs else Hb
end
theorem cells_flat {α:Type}{enc:α→List Value}{sz:Nat}(he:∀ u,(enc u).length=sz){w0:World}{H:List (Nat × Obj)}{b:Nat}:∀ (l:List α) (o:Nat),(∀ i x,l[i]? =some x→Cells w0 H b (o+i*sz) (enc x))→Cells w0 H b o (l.flatMap enc)
 |[],o,_=>fun i v hi=>by simp at hi
 |x::l,o,h=>fun i v hi=>by
  rw[List.flatMap_cons] at hi;rcases Nat.lt_or_ge i (enc x).length with hlt|hge
  ·rw[List.getElem?_append_left hlt] at hi;have:=h 0 x U i v hi
   simpa using this
  ·rw[List.getElem?_append_right hge] at hi;have h2:=cells_flat he l (o+sz) (fun j y hj=>by
    have:=h (j+1) y (by simpa using hj);rw[show o+sz+j*sz=o+(j+1)*sz by rw[Nat.succ_mul];omega];exact this) (i - (enc x).length) v hi
   rw[he] at h2 hge;rw[show o+sz+(i - sz)=o+i by omega] at h2;exact h2
theorem Arr.all {α:Type}{enc:α→List Value}{sz:Nat}(he:∀ u,(enc u).length=sz){w0:World}{H:List (Nat × Obj)}{q:Option Addr}{l:List α}(h:Arr w0 H q sz enc l):Cells w0 H (bq q) (oq q) (l.flatMap enc):=
 cells_flat he l (oq q) fun i x hi=>(h i x hi).2
theorem all_flat {α:Type}{enc:α→List Value}(h:∀ u,(enc u).all oneB=true):∀ (l:List α),(l.flatMap enc).all oneB=true
 |[]=>rfl
 |x::l=>by rw[List.flatMap_cons,List.all_append,h x,all_flat h l];rfl
section
variable {P:Program} {w0:World} {L:Fm} {op:Op} {ty xt yt:TypeId} {H:List (Nat × Obj)} {x y:Operand} {t t2 e:TypeId}
theorem Ei {α:Type}{enc:α→List Value}(l2:List α){R:List (Nat × Obj)}{F:List (Nat × Obj)→List (Nat × Obj)}{d:Sl}{l:List α}{q:Option Addr}{c sz by':Nat}{z:Value}{i0:TypeInfo}{e2:TypeId}(hl:LocL H (slH d (l.flatMap enc) e) R F)(hx:Ev L x (slV d l.length))(hy:Ev L y (.slice q l2.length c))
  (ht:∀ w,(underlying t).run P w= .ok (.slice e) w) (ht2:∀ w,(underlying t2).run P w= .ok (.slice e2) w) (hz:∀ w,(sizeOf e).run P w= .ok sz w) (hi:∀ w,(typeInfo e).run P w= .ok i0 w) (hby:i0.bytes=by') (hzv:∀ w,(zeroValue e).run P w= .ok z w) (hzs:z.cells.size=sz)
  (he:∀ u,(enc u).length=sz) (h1:∀ u,(enc u).all oneB=true) (hok:SlOk d l.length sz) (hb0:by'≠0) (hb:(2*(l.length+l2.length)+600)*by'≤281474976710656) (hA:Arr w0 H q sz enc l2):
  Eff P w0 (.call {callee:= .builtin .append,args:= #[x,y],argTypes:= #[t,t2]}) ty L H (fun u H'=>∃ d',u=slV d' (l.length+l2.length)∧SlOk d' (l.length+l2.length) sz∧H'=F (slH d' ((l++l2).flatMap enc) e)):=by
 have hn:=hA.all he;have hn':Cells w0 ([]++(slH d (l.flatMap enc) e++R)) (bq q) (oq q) (l2.flatMap enc):=fun i u hi w hO=>hn i u hi w (B5 hO hl.perm.1.symm)
 have hq:l2.length=0∨Bas q:=by
  cases l2 with
  |nil=>exact .inl rfl
  |cons x l2=>exact .inr (hA 0 x rfl).1
 refine(eff_append (A:=[]) (X:=R) (cells:=l.flatMap enc) (new:=l2.flatMap enc) hx hy ht ht2 hz hi hby hzv hzs hq (Dr he l2) hn' (all_flat h1 l2) (Dr he l) hok hb0 hb).perm hl.perm.1 ?_;rintro u H' ⟨d',h1,h2,rfl⟩;exact⟨_,(hl.perm.2 _).symm,d',h1,h2,by rw[List.flatMap_append]⟩
theorem Dw {a b:ByteArray}(hx:Ev L x (.string a))(hy:Ev L y (.string b)):Yl P w0 (.binOp .eql xt x y yt) ty L H (.bool (decide (a.data.toList=b.data.toList))):=Ba U fun b' w=>by
 have e1:(a.toList==b.toList)=decide (a.data.toList=b.data.toList):=by
  rw[ByteArray.toList_eq,ByteArray.toList_eq];exact Bool.eq_iff_iff.2 (by simp)
 simp[exO,execOp,hx b',hy b',binOp,eqGuard,Op.stringOp,Sem.run_bind,Result.andThen,e1]
theorem yl_neSD {a b:ByteArray}(hx:Ev L x (.string a))(hy:Ev L y (.string b)):Yl P w0 (.binOp .neq xt x y yt) ty L H (.bool (decide (¬ a.data.toList=b.data.toList))):=Ba U fun b' w=>by
 have e1:(!(a.toList==b.toList))=decide (¬ a.data.toList=b.data.toList):=by
  rw[ByteArray.toList_eq,ByteArray.toList_eq];exact Bool.eq_iff_iff.2 (by simp)
 have e2:(a.toList !=b.toList)=decide (¬ a.data.toList=b.data.toList):=e1;simp[exO,execOp,hx b',hy b',binOp,eqGuard,Op.stringOp,Sem.run_bind,Result.andThen,e1,e2]
end
section
variable {P:Program} {w0:World} {L:Fm} {ty t et kt:TypeId} {H:List (Nat × Obj)} {x y z:Operand} {K V:Type} [DecidableEq K] {encK:K→Value} {encV:V→Value}
theorem eff_insert {r:Nat}{l:List (K × V)}(k:K)(u:V){v v':Value}{H':List (Nat × Obj)}(hk:KeyOk (V:=V) P kt encK)(hx:Ev L x (.map (some r)))(hy:Ev L y v)(hv:v=encK k)(hz:Ev L z v')(hv':v'=encV u)(ht:∀ w,(underlying t).run P w= .ok (.map kt et) w)
  (hu:Upd H r (mapO encK encV l) (mapO encK encV (upsert l k u)) H':=by(repeat (first|exact Upd.h|apply Upd.t|apply Ci));done):Eff P w0 (.insert t x y z) ty L H (Still undef H'):=
 ⟨rfl,fun b w hO=>(Ch (ty:=ty) k u hk hx hy hv hz hv' ht hu).2 b w hO⟩
end
theorem Db {P:Program}{b:Frame}{a:Act}{k:List Item}{cs:List Frame}{w:World}{c:Code}:
  step P (lone (b.atR a (.code (.scope c)::k)) cs w)= .next (lone (b.atR a (.code c:: .inScope c::k)) cs w):=
 step_lone_go (by simp[stepG,stepG.exec,Frame.atR])
theorem stepR_inScope {P:Program}{b:Frame}{a:Act}{k:List Item}{cs:List Frame}{w:World}{c:Code}:
  step P (lone (b.atR a (.inScope c::k)) cs w)= .next (lone (b.atR a k) cs w):=
 step_lone_go (by simp[stepG,stepG.exec,Frame.atR])
theorem wpIn_scope {F:Fence}{n:Nat}{P:Program}{Q:Exit→Act→World→Prop}{a:Act}{w:World}{c:Code}(h:c.wpIn F n P (Exit.noGoto Q) a w):(Code.scope c).wpIn F n P Q a w:=by
 intro b k cs hro hb hr;have h0:(lone (b.atR a (.code (.scope c)::k)) cs w).fenced P F:=fenced_calm hb hr U;obtain⟨e,a₁,w₁,hq,harr⟩:=h b (.inScope c::k) cs hro hb hr;cases e with
 |normal=>exact⟨.normal,a₁,w₁,hq, .head h0 Db (StepsIn.trans harr (.one (fenced_calm hb hr rfl) stepR_inScope))⟩
 |exit id'=>
  have hx:exitTo id' (.inScope c::k)=exitTo id' k:=by simp[exitTo]
  exact⟨.exit id',a₁,w₁,hq,fun k' hk=> .head h0 Db (harr.1 k' (by rw[hx];exact hk)),
   fun hr' hk=>let ⟨k₁,h1,h2⟩:=harr.2 hr' (by rw[hx];exact hk);⟨k₁,h1, .head h0 Db h2⟩⟩
 |goto l=>exact hq.elim
 |ret=>exact⟨_,a₁,w₁,hq, .of_steps (.one h0 Db) harr⟩
 |panic ch=>exact⟨_,a₁,w₁,hq, .of_steps (.one h0 Db) harr⟩
 |outgrown=>exact⟨_,a₁,w₁,hq, .of_steps (.one h0 Db) harr⟩
section
variable {P:Program} {r:Option Nat} {N:Nat} {w0:World} {Q:Post} {L:Fm} {ds:List Deferred} {H:List (Nat × Obj)}
def noG (Q:Post):Post
 | .goto _,_,_,_=>False
 |e,σ,ds,w=>Q e σ ds w
theorem j_scope {c:Code}(h:J P r N w0 c (noG Q) L ds H):J P r N w0 (.scope c) Q L ds H:=fun b w hO a hs hf hd=>
 wpIn_scope (wpIn_mono (h b w hO a hs hf hd) (by
  intro e a' w' hq;cases e with
  |goto l=>exact hq.2
  |normal=>exact hq
  |exit id=>exact hq
  |ret=>exact hq
  |panic ch=>exact hq
  |outgrown=>exact hq))
theorem j_label {l:Nat}(h:JQ w0 Q .normal L ds H):J P r N w0 (.label l) Q L ds H:=fun b w hO a hs hf hd=>wpIn_label ⟨hs,by rw[hf,hd];exact h b w hO⟩
theorem q_scope (h:JQ w0 Q .normal L ds H):JQ w0 (noG Q) .normal L ds H:=h
theorem q_scope_ret (h:JQ w0 Q .ret L ds H):JQ w0 (noG Q) .ret L ds H:=h
theorem q_scope_exit {id:Nat}(h:JQ w0 Q (.exit id) L ds H):JQ w0 (noG Q) (.exit id) L ds H:=h
theorem Fn (h:NoPanic Q):NoPanic (noG Q):=⟨fun c σ σ' ds w hq=>h.no c σ σ' ds w hq⟩
end
abbrev PdI:=Nat→Value→List (Nat × Obj)→Prop
inductive DepF (Φ:PdI) (H:List (Nat × Obj)):List (Nat × Nat)→Fm→Prop
 |nil:DepF Φ H [] []
 |cons {j s v ds F}:Φ j v H→DepF Φ H ds F→DepF Φ H ((j,s)::ds) ((s,v)::F)
def dstI (ops:Array Oper) (j:Nat):Option (Nat × Nat):=(ops[j]?).bind fun o=>o.dst.map fun d=>(j,d)
def depsOf (ops:Array Oper) (o:Oper):List (Nat × Nat):=o.after.toList.filterMap fun e=>if Region.binds md e then dstI ops e.on else none
def allOf (ops:Array Oper) (t:Nat):List (Nat × Nat):=(List.range t).filterMap fun j=>dstI ops j
def Agr (L:Fm) (σ:Nat→Value):Prop:=∀ k v,fnd? L k=some v→σ k=v
theorem lk_fnd (b:Nat→Value)(k:Nat):∀ L:Fm,lk L b k=(fnd? L k).getD (b k)
 |[]=>rfl
 |(d,v)::r=>by
  rw[lk,fnd?];cases hb:Nat.beq d k
  ·simp only[hb];exact lk_fnd b k r
  ·simp only[hb];rfl
theorem I8 {L:Fm}{σ:Nat→Value}(h:Agr L σ):lk L σ=σ:=by
 funext k
 rw[lk_fnd];cases hf:fnd? L k with
 |none=>rfl
 |some v=>exact(h k v hf).symm
theorem agr_lk {L:Fm}{b:Nat→Value}:Agr L (lk L b):=fun k v h=>by rw[lk_fnd,h];rfl
theorem fnd_key {L:Fm}{k:Nat}{v:Value}:fnd? L k=some v→k∈L.map Prod.fst:=by
 induction L with
 |nil=>intro h;cases h
 |cons e r ih=>
  obtain⟨d,u⟩:=e;intro h;rw[fnd?] at h;cases hb:Nat.beq d k
  ·simp only[hb] at h;simp only[List.map_cons,List.mem_cons];exact .inr (ih h)
  ·have:=Nat.eq_of_beq_eq_true hb;subst this;simp
theorem fnd_app {F L:Fm}{k:Nat}{v:Value}(h:fnd? (F++L) k=some v):fnd? F k=some v∨fnd? L k=some v:=by
 induction F with
 |nil=>exact .inr h
 |cons e r ih=>
  obtain⟨d,u⟩:=e;rw[List.cons_append,fnd?] at h;rw[fnd?];cases hb:Nat.beq d k
  ·simp only[hb] at h ⊢;exact ih h
  ·simp only[hb] at h ⊢;exact .inl h
theorem agr_put {L:Fm}{a:Act}{d:Nat}{v:Value}(h:Agr L (fr a))(hd:d∉L.map Prod.fst):Agr L (fr (a.put (some d) v)):=fun k u hk=>by
 have hne:d≠k:=fun e=>hd (e ▸ fnd_key hk)
 rw[← h k u hk];unfold fr;simp[Act.put,Array.getD_eq_getD_getElem?,Array.getElem?_setIfInBounds_ne hne]
theorem fr_same {a:Act}{d:Nat}{v:Value}(hd:d<a.tmps.size):fr (a.put (some d) v) d=v:=by
 unfold fr;simp[Act.put,Array.getD_eq_getD_getElem?,hd]
theorem fr_other {a:Act}{d k:Nat}{v:Value}(hd:d≠k):fr (a.put (some d) v) k=fr a k:=by
 unfold fr;simp[Act.put,Array.getD_eq_getD_getElem?,Array.getElem?_setIfInBounds_ne hd]
theorem depF_of {Φ:PdI}{H:List (Nat × Obj)}{σ:Nat→Value}:∀ (ds:List (Nat × Nat)),(∀ e∈ds,Φ e.1 (σ e.2) H)→DepF Φ H ds (ds.map fun e=>(e.2,σ e.2))
 |[],_=> .nil
 |(j,s)::ds,h=> .cons (h (j,s) (by simp)) (depF_of ds fun e he=>h e (by simp[he]))
theorem agr_dep {σ:Nat→Value}{L:Fm}(h:Agr L σ)(ds:List (Nat × Nat)):Agr (ds.map (fun e=>(e.2,σ e.2))++L) σ:=fun k v hk=>by
 rcases fnd_app hk with hk|hk
 ·induction ds with
  |nil=>cases hk
  |cons e r ih=>
   rw[List.map_cons,fnd?] at hk;cases hb:Nat.beq e.2 k
   ·simp only[hb] at hk;exact ih (by
     show fnd? (r.map (fun e=>(e.2,σ e.2))++L) k=some v;have:∀ F:Fm,fnd? F k=some v→fnd? (F++L) k=some v:=by
      intro F hF
      induction F with
      |nil=>cases hF
      |cons e r ih=>
       obtain⟨d,u⟩:=e;rw[List.cons_append,fnd?];rw[fnd?] at hF;cases hb:Nat.beq d k
       ·simp only[hb] at hF ⊢;exact ih hF
       ·simp only[hb] at hF ⊢;exact hF
     exact this _ hk) hk
   ·simp only[hb] at hk;have:=Nat.eq_of_beq_eq_true hb;rw[← this];exact Option.some.inj hk
 ·exact h k v hk
theorem countP_one {p q:Nat→Bool}{i:Nat}(hp:p i=true)(hq:q i=false)(h:∀ j,j≠i→p j=q j):∀ {l:List Nat},l.Nodup→i∈l→l.countP p=l.countP q+1
 |[],_,hi=>by cases hi
 |x::l,hn,hi=>by
  simp only[List.nodup_cons] at hn
  by_cases e:x=i
  ·subst e;have:l.countP p=l.countP q:=List.countP_congr fun y hy=>by rw[h y fun e=>hn.1 (e ▸ hy)]
   rw[List.countP_cons,List.countP_cons,hp,hq,this];simp
  ·have hi':i∈l:=by simpa[Ne.symm e] using hi
   have:=countP_one hp hq h hn.2 hi';rw[List.countP_cons,List.countP_cons,h x e,this];omega
section
variable {P:Program} {r:Option Nat} {N:Nat} {w0:World} {ops:Array Oper} {t:Nat} {Q:Post} {L:Fm} {ds:List Deferred} {H0 H:List (Nat × Obj)} {Φ:PdI}
def StepI (P:Program) (w0:World) (ops:Array Oper) (H0:List (Nat × Obj)) (L:Fm) (Φ:PdI) (i:Nat):Prop:=
 ∀ o,ops[i]? =some o→∀ H F,H0.Sublist H→DepF Φ H (depsOf ops o) F→Eff P w0 o.op o.type (F++L) H (fun v H'=>H.Sublist H'∧Φ i v H')
end
theorem Eff.imp {P:Program}{w0:World}{op:Op}{ty:TypeId}{L:Fm}{H:List (Nat × Obj)}{K K':Value→List (Nat × Obj)→Prop}(h:Eff P w0 op ty L H K)(hk:∀ v H',K v H'→K' v H'):Eff P w0 op ty L H K':=⟨h.1,fun b w hO=>by
 have h1:=h.2 b w hO
 generalize (exO (ev (lk L b)) op ty).run P w=res at h1 ⊢;cases res with
 |ok n w'=>
  cases n<;>simp only[effO] at h1 ⊢
  case value v=>obtain⟨H',h2,h3⟩:=h1;exact⟨H',h2,hk _ _ h3⟩
  case skip=>obtain⟨H',h2,h3⟩:=h1;exact⟨H',h2,hk _ _ h3⟩
  case enter f args=>exact h1.mono fun e w'' ⟨v,H',he,h2,h3⟩=>⟨v,H',he,h2,hk _ _ h3⟩
  case round l f tmps assign body=>exact RoundIn.mono h1 fun e w'' ⟨v,H',he,h2,h3⟩=>⟨v,H',he,h2,hk _ _ h3⟩
 |halt x w'=>exact h1⟩
theorem DepF.un {Φ:PdI}{H:List (Nat × Obj)}{j s:Nat}{ds:List (Nat × Nat)}{F:Fm}(h:DepF Φ H ((j,s)::ds) F):∃ v F',F=(s,v)::F'∧Φ j v H∧DepF Φ H ds F':=by
 cases h with
 |cons h1 h2=>exact⟨_,_,rfl,h1,h2⟩
theorem DepF.no {Φ:PdI}{H:List (Nat × Obj)}{F:Fm}(h:DepF Φ H [] F):F=[]:=by cases h;rfl
def dget? :List (Nat × Nat)→Nat→Option Nat
 |[],_=>none
 |(j,s')::r,s=>match Nat.beq s' s with
  |true=>some j
  |false=>dget? r s
theorem Cp {Φ:PdI}{H:List (Nat × Obj)}{ds:List (Nat × Nat)}{F L:Fm}{s j:Nat}(h:DepF Φ H ds F)(hg:dget? ds s=some j):∃ v,fnd? (F++L) s=some v∧Φ j v H:=by
 induction h with
 |nil=>cases hg
 | @cons j' s' v ds F hv hr ih=>
  rw[dget?] at hg;rw[List.cons_append,fnd?];cases hb:Nat.beq s' s
  ·simp only[hb] at hg ⊢;exact ih hg
  ·simp only[hb] at hg ⊢;obtain rfl:=Option.some.inj hg;exact⟨v,rfl,hv⟩
theorem Jw {S:Nat→Prop}:∀ i,i<0→S i:=fun i h=>absurd h (Nat.not_lt_zero _)
theorem Ai {S:Nat→Prop}{n:Nat}(h:∀ i,i<n→S i)(hn:S n):∀ i,i<n+1→S i:=fun i hi=>by
 rcases Nat.lt_or_ge i n with h1|h1
 ·exact h i h1
 ·have:i=n:=by omega
  subst this;exact hn
def AllL {α:Type} (p:α→Prop):List α→Prop
 |[]=>True
 |x::l=>p x∧AllL p l
theorem AllL.mem {α:Type}{p:α→Prop}:∀ {l:List α},AllL p l→∀ x∈l,p x
 |[],_,x,h=>by cases h
 |y::l,h,x,hx=>by
  rcases List.mem_cons.1 hx with rfl|hx
  ·exact h.1
  ·exact h.2.mem x hx
def FaOk (P:Program) (e:(Nat × Nat) × Option Nat):Prop:=
 match e.2 with
 |none=>∀ b o w,(Instr.fieldAt e.1.1 (.pointer (some ⟨b,o,none⟩)) e.1.2).run P w= .ok (.pointer (some ⟨b,o,none⟩)) w
 |some k=>∀ b o w,(Instr.fieldAt e.1.1 (.pointer (some ⟨b,o,none⟩)) e.1.2).run P w= .ok (.pointer (some ⟨b,o+k,none⟩)) w
structure Tab (P:Program) where
 fo:List ((Nat × Nat) × Option Nat)
 sl:List Nat
 okf:AllL (FaOk P) fo
 okl:AllL (fun t=>∃ e,∀ w,(underlying t).run P w= .ok (.slice e) w) sl
def lkF:List ((Nat × Nat) × Option Nat)→Nat→Nat→Option (Option Nat)
 |[],_,_=>none
 |((t,i),k)::r,t',i'=>match Nat.beq t t' with
  |true=>(match Nat.beq i i' with
   |true=>some k
   |false=>lkF r t' i')
  |false=>lkF r t' i'
theorem H8:∀ {l:List ((Nat × Nat) × Option Nat)} {t i:Nat} {k:Option Nat},lkF l t i=some k→((t,i),k)∈l
 |[],_,_,_,h=>by cases h
 |((t,i),k)::r,t',i',k',h=>by
  rw[lkF] at h;cases h1:Nat.beq t t'
  ·simp only[h1] at h;exact List.mem_cons_of_mem _ (H8 h)
  ·cases h2:Nat.beq i i'
   ·simp only[h1,h2] at h;exact List.mem_cons_of_mem _ (H8 h)
   ·simp only[h1,h2] at h;have e1:=Nat.eq_of_beq_eq_true h1;have e2:=Nat.eq_of_beq_eq_true h2;have e3:=Option.some.inj h;subst e1;subst e2;subst e3;simp
def memN:List Nat→Nat→Bool
 |[],_=>false
 |x::r,t=>match Nat.beq x t with
  |true=>true
  |false=>memN r t
theorem memN_mem:∀ {l:List Nat} {t:Nat},memN l t=true→t∈l
 |[],_,h=>by cases h
 |x::r,t,h=>by
  rw[memN] at h;cases h1:Nat.beq x t
  ·simp only[h1] at h;exact List.mem_cons_of_mem _ (memN_mem h)
  ·have e:=Nat.eq_of_beq_eq_true h1;subst e;simp
def evl (L:Fm):Operand→Option Value
 | .tmp k=>fnd? L k
 | .const v=>some v
 | .func f=>some (.func (.func f) #[] #[])
 | .global g=>some (.pointer (some ⟨g,0,none⟩))
theorem Cg {L:Fm}{x:Operand}{v:Value}(h:evl L x=some v):Ev L x v:=by
 cases x with
 |tmp k=>exact Aa h
 |const u=>obtain rfl:=Option.some.inj h;exact Ak
 |func f=>obtain rfl:=Option.some.inj h;exact Ix
 |global g=>obtain rfl:=Option.some.inj h;exact ev_g
def cmpV (b:BinOp) (a c:Int):Option Value:=
 match b with
 | .lss=>some (.bool (decide (a<c)))
 | .leq=>some (.bool (decide (a≤c)))
 | .gtr=>some (.bool (decide (c<a)))
 | .geq=>some (.bool (decide (c≤a)))
 | .eql=>some (.bool (decide (a=c)))
 | .neq=>some (.bool (decide (¬ a=c)))
 |_=>none
def isI:IntKind→IntKind→Bool
 | .i64, .i64=>true
 | .u64, .u64=>true
 | .u8, .u8=>true
 | .u16, .u16=>true
 | .u32, .u32=>true
 | .i32, .i32=>true
 |_,_=>false
theorem isI_eq {k k':IntKind}(h:isI k k'=true):k=k':=by cases k<;>cases k'<;>first|rfl|cases h
def yld {P:Program} (tb:Tab P) (L:Fm):Op→Option Value
 | .move x=>evl L x
 | .assign x=>evl L x
 | .pick c x y=>match evl L c with
  |some (.bool b)=>(match b with
   |true=>evl L x
   |false=>evl L y)
  |_=>none
 | .extract x i=>match evl L x with
  |some (.tuple ⟨l⟩)=>nth? l i
  |_=>none
 | .nilCheck x=>match evl L x with
  |some (.pointer (some a))=>some (.pointer (some a))
  |_=>none
 | .fieldAddr t x i=>match evl L x with
  |some (.pointer (some ⟨b,o,none⟩))=>(match lkF tb.fo t i with
   |some none=>some (.pointer (some ⟨b,o,none⟩))
   |some (some k)=>some (.pointer (some ⟨b,o+k,none⟩))
   |none=>none)
  |_=>none
 | .binOp b _ x y _=>match evl L x,evl L y with
  |some (.int k a),some (.int k' c)=>(match isI k k' with
   |true=>cmpV b a c
   |false=>none)
  |_,_=>none
 | .call ⟨.builtin .len,⟨[x]⟩,⟨[t]⟩⟩=>match evl L x,memN tb.sl t with
  |some (.slice _ n _),true=>some (.int .i64 (n:Int))
  |_,_=>none
 |_=>none
theorem yld_yl {P:Program}{tb:Tab P}{w0:World}{L:Fm}{H:List (Nat × Obj)}{op:Op}{ty:TypeId}{v:Value}(h:yld tb L op=some v):Yl P w0 op ty L H v:=by
 unfold yld at h
 split at h
 ·exact H7 (Cg h)
 ·exact yl_assign (Cg h)
 ·split at h
  ·rename_i b hc;cases b
   ·exact yl_pick_f (Cg hc) (Cg h)
   ·exact yl_pick_t (Cg hc) (Cg h)
  ·cases h
 ·split at h
  ·rename_i l hx;exact yl_extract (Cg hx) h
  ·cases h
 ·split at h
  ·rename_i a hx;obtain rfl:=Option.some.inj h;exact yl_nilCheck (Cg hx)
  ·cases h
 ·split at h
  ·rename_i b o hx
   split at h
   ·rename_i hk;obtain rfl:=Option.some.inj h;exact yl_fa0 (Cg hx) (tb.okf.mem _ (H8 hk))
   ·rename_i k hk;obtain rfl:=Option.some.inj h;exact yl_fa (Cg hx) (tb.okf.mem _ (H8 hk))
   ·cases h
  ·cases h
 ·split at h
  ·rename_i k a k' c hx hy
   split at h
   ·rename_i hk;have e:=isI_eq hk;subst e;unfold cmpV at h
    split at h
    ·obtain rfl:=Option.some.inj h;exact yl_lss (Cg hx) (Cg hy)
    ·obtain rfl:=Option.some.inj h;exact yl_leq (Cg hx) (Cg hy)
    ·obtain rfl:=Option.some.inj h;exact yl_gtr (Cg hx) (Cg hy)
    ·obtain rfl:=Option.some.inj h;exact yl_geq (Cg hx) (Cg hy)
    ·obtain rfl:=Option.some.inj h;exact yl_eql (Cg hx) (Cg hy)
    ·obtain rfl:=Option.some.inj h;exact yl_neq (Cg hx) (Cg hy)
    ·cases h
   ·cases h
  ·cases h
 ·split at h
  ·rename_i n c hx hm;obtain rfl:=Option.some.inj h;obtain⟨e,he⟩:=tb.okl.mem _ (memN_mem hm);exact yl_len (Cg hx) he
  ·cases h
 ·cases h
def wtd (ops:Array Oper) (N:Nat) (L:Fm):Option (Nat × Bool)→Option Bool
 |none=>some true
 |some (j,want)=>match (ops[j]?).bind (·.dst) with
  |some s=>(match Nat.blt s N,fnd? L s with
   |true,some (.bool b)=>(match want,b with
    |true,true=>some true
    |false,false=>some true
    |true,false=>some false
    |false,true=>some false)
   |true,some (.tuple ⟨[]⟩)=>some false
   |_,_=>none)
  |none=>none
theorem wtd_t {ops:Array Oper}{N:Nat}{L:Fm}{g:Option (Nat × Bool)}(h:wtd ops N L g=some true):Gd ops L g N true:=by
 cases g with
 |none=>exact Ad
 |some g=>
  obtain⟨j,want⟩:=g;simp only[wtd] at h
  split at h
  ·rename_i s hs
   split at h
   ·rename_i b hb hf;cases want<;>cases b<;>simp only at h<;>first|exact⟨s,_,hs,by simpa[Nat.blt_eq] using hb,Aa hf,rfl⟩|cases h
   ·cases h
   ·cases h
  ·cases h
theorem wtd_f {ops:Array Oper}{N:Nat}{L:Fm}{g:Option (Nat × Bool)}(h:wtd ops N L g=some false):Nw ops L g N:=by
 cases g with
 |none=>cases h
 |some g=>
  obtain⟨j,want⟩:=g;simp only[wtd] at h
  split at h
  ·rename_i s hs
   split at h
   ·rename_i b hb hf;cases want<;>cases b<;>simp only at h<;>first|exact .inl ⟨s,_,hs,by simpa[Nat.blt_eq] using hb,Aa hf,rfl⟩|cases h
   ·rename_i hb hf;exact .inr ⟨j,want,s,rfl,hs,by simpa[Nat.blt_eq] using hb,Aa hf⟩
   ·cases h
  ·cases h
inductive Kt
 |code (c:Code)
 |block (id:Nat)
 |scope
inductive Cur
 |ops (a:Array Oper) (l:List Oper)
 |code (c:Code)
 |ex (e:Exit)
def postK (P:Program) (r:Option Nat) (N:Nat):List Kt→Post→Post
 |[],Q=>Q
 | .code c::ks,Q=>thenQ (swp P r N c (postK P r N ks Q)) (postK P r N ks Q)
 | .block id::ks,Q=>blockQ id (postK P r N ks Q)
 | .scope::ks,Q=>noG (postK P r N ks Q)
def G (P:Program) (r:Option Nat) (N:Nat) (w0:World) (c:Cur) (ks:List Kt) (Q:Post) (L:Fm) (ds:List Deferred) (H:List (Nat × Obj)):Prop:=
 match c with
 | .ops a l=>JL P r N w0 a l (postK P r N ks Q) L ds H
 | .code c=>J P r N w0 c (postK P r N ks Q) L ds H
 | .ex e=>JQ w0 (postK P r N ks Q) e L ds H
structure Sta where
 c:Cur
 k:List Kt
 L:Fm
def goN {P:Program} (tb:Tab P) (N:Nat):Nat→Cur→List Kt→Fm→Sta
 |0,c,k,L=>⟨c,k,L⟩
 |n+1,c,k,L=>match c with
  | .code (.seq x y)=>goN tb N n (.code x) (.code y::k) L
  | .code (.region _ ⟨l⟩ false)=>goN tb N n (.ops ⟨l⟩ l) k L
  | .code .skip=>goN tb N n (.ex .normal) k L
  | .code .ret=>goN tb N n (.ex .ret) k L
  | .code (.exit id)=>goN tb N n (.ex (.exit id)) k L
  | .code (.block id c)=>goN tb N n (.code c) (.block id::k) L
  | .code (.scope c)=>goN tb N n (.code c) (.scope::k) L
  | .code (.label _)=>goN tb N n (.ex .normal) k L
  | .code (.cond x a b)=>(match evl L x with
   |some (.bool t)=>(match t with
    |true=>goN tb N n (.code a) k L
    |false=>goN tb N n (.code b) k L)
   |_=>⟨.code (.cond x a b),k,L⟩)
  | .ops a []=>goN tb N n (.ex .normal) k L
  | .ops a (⟨d,op,ty,p,af,g⟩::l)=>(match dOk d N with
   |true=>(match wtd a N L g with
    |some true=>(match yld tb L op with
     |some v=>(match d with
      |some d=>goN tb N n (.ops a l) k ((d,v)::L)
      |none=>goN tb N n (.ops a l) k L)
     |none=>⟨.ops a (⟨d,op,ty,p,af,g⟩::l),k,L⟩)
    |some false=>(match d with
     |some d=>goN tb N n (.ops a l) k ((d,undef)::L)
     |none=>goN tb N n (.ops a l) k L)
    |none=>⟨.ops a (⟨d,op,ty,p,af,g⟩::l),k,L⟩)
   |false=>⟨.ops a (⟨d,op,ty,p,af,g⟩::l),k,L⟩)
  | .ex .normal=>(match k with
   | .code c::k=>goN tb N n (.code c) k L
   | .block _::k=>goN tb N n (.ex .normal) k L
   | .scope::k=>goN tb N n (.ex .normal) k L
   |[]=>⟨.ex .normal,[],L⟩)
  | .ex .ret=>(match k with
   |_::k=>goN tb N n (.ex .ret) k L
   |[]=>⟨.ex .ret,[],L⟩)
  | .ex (.exit id)=>(match k with
   | .code _::k=>goN tb N n (.ex (.exit id)) k L
   | .scope::k=>goN tb N n (.ex (.exit id)) k L
   | .block id'::k=>(match Nat.beq id id' with
    |true=>goN tb N n (.ex .normal) k L
    |false=>goN tb N n (.ex (.exit id)) k L)
   |[]=>⟨.ex (.exit id),[],L⟩)
  |c=>⟨c,k,L⟩
section
variable {P:Program} {r:Option Nat} {N:Nat} {w0:World} {Q:Post} {ds:List Deferred} {H:List (Nat × Obj)} {tb:Tab P}
theorem Hq:∀ (n:Nat) (c:Cur) (k:List Kt) (L:Fm),G P r N w0 (goN tb N n c k L).c (goN tb N n c k L).k Q (goN tb N n c k L).L ds H→G P r N w0 c k Q L ds H
 |0,_,_,_,h=>h
 |n+1,c,k,L,h=>by
  have ih:=Hq n;cases c with
  |code c=>
   cases c with
   |seq x y=>exact j_seq (ih (.code x) (.code y::k) L h)
   |region id ops b=>
    obtain⟨l⟩:=ops;cases b
    ·exact j_region (ih (.ops ⟨l⟩ l) k L h)
    ·exact h
   |skip=>exact j_skip (ih (.ex .normal) k L h)
   |ret=>exact j_ret (ih (.ex .ret) k L h)
   |exit id=>exact j_exit (ih (.ex (.exit id)) k L h)
   |block id c=>exact j_block (ih (.code c) (.block id::k) L h)
   |scope c=>exact j_scope (ih (.code c) (.scope::k) L h)
   |label l=>exact j_label (ih (.ex .normal) k L h)
   |cond x a b=>
    simp only[goN] at h
    split at h
    ·rename_i t ht;have hev:=Cg ht;intro b' w hO a' hs hf hd;cases t
     ·exact wpIn_cond_split (t:=false) (by rw[E6,hf];exact hev b') (fun h=>by cases h) (fun _=>ih (.code b) k L h b' w hO a' hs hf hd)
     ·exact wpIn_cond_split (t:=true) (by rw[E6,hf];exact hev b') (fun _=>ih (.code a) k L h b' w hO a' hs hf hd) (fun h=>by cases h)
    ·exact h
   |_=>exact h
  |ops a l=>
   cases l with
   |nil=>exact jl_nil (ih (.ex .normal) k L h)
   |cons o l=>
    obtain⟨d,op,ty,p,af,g⟩:=o;simp only[goN] at h
    split at h
    ·rename_i hN
     split at h
     ·rename_i hw
      split at h
      ·rename_i v hv;refine Ax (yld_yl hv) hN (wtd_t hw) ?_;cases d with
       |some d=>exact ih (.ops a l) k _ h
       |none=>exact ih (.ops a l) k _ h
      ·exact h
     ·rename_i hw;refine jl_n hN (wtd_f hw) ?_;cases d with
      |some d=>exact ih (.ops a l) k _ h
      |none=>exact ih (.ops a l) k _ h
     ·exact h
    ·exact h
  |ex e=>
   cases e with
   |normal=>
    cases k with
    |nil=>exact h
    |cons x k=>cases x with
     |code c=>exact q_then (ih (.code c) k L h)
     |block id=>exact q_block (ih (.ex .normal) k L h)
     |scope=>exact q_scope (ih (.ex .normal) k L h)
   |ret=>
    cases k with
    |nil=>exact h
    |cons x k=>cases x with
     |code c=>exact q_then_ret (ih (.ex .ret) k L h)
     |block id=>exact q_block_ret (ih (.ex .ret) k L h)
     |scope=>exact q_scope_ret (ih (.ex .ret) k L h)
   |exit id=>
    cases k with
    |nil=>exact h
    |cons x k=>cases x with
     |code c=>exact q_then_exit (ih (.ex (.exit id)) k L h)
     |scope=>exact q_scope_exit (ih (.ex (.exit id)) k L h)
     |block id'=>
      simp only[goN] at h
      split at h
      ·rename_i hb;have e:=Nat.eq_of_beq_eq_true hb;subst e;exact q_block_hit (ih (.ex .normal) k L h)
      ·rename_i hb;exact q_block_miss hb (ih (.ex (.exit id)) k L h)
   |_=>exact h
def keepF (L:Fm):List Nat→Option Fm
 |[]=>some []
 |k::r=>match fnd? L k,keepF L r with
  |some v,some F=>some ((k,v)::F)
  |_,_=>none
theorem keepF_ok:∀ {L:Fm} {ks:List Nat} {F:Fm},keepF L ks=some F→Agree F L
 |_,[],_,h=>by obtain rfl:=Option.some.inj h;exact trivial
 |L,k::r,F,h=>by
  rw[keepF] at h
  split at h
  ·rename_i v F' h1 h2;obtain rfl:=Option.some.inj h;exact⟨Aa h1,keepF_ok h2⟩
  ·cases h
variable {a:Array Oper} {l:List Oper} {c:Code} {e:Exit} {ks ks':List Kt} {L L':Fm} {c':Cur}
theorem g_keep {F:Fm}(hk:Agree F L)(h:G P r N w0 c' ks Q F ds H):G P r N w0 c' ks Q L ds H:=by
 cases c' with
 |ops a l=>exact jl_keep F hk h
 |code c=>exact j_keep F hk h
 |ex e=>exact jq_keep F hk h
theorem rO (tb:Tab P)(n:Nat)(hr:goN tb N n (.ops a l) ks L=⟨c',ks',L'⟩)(h:G P r N w0 c' ks' Q L' ds H):JL P r N w0 a l (postK P r N ks Q) L ds H:=
 Hq (tb:=tb) n (.ops a l) ks L (by rw[hr];exact h)
theorem rC (tb:Tab P)(n:Nat)(hr:goN tb N n (.code c) ks L=⟨c',ks',L'⟩)(h:G P r N w0 c' ks' Q L' ds H):J P r N w0 c (postK P r N ks Q) L ds H:=
 Hq (tb:=tb) n (.code c) ks L (by rw[hr];exact h)
theorem rX (tb:Tab P)(n:Nat)(hr:goN tb N n (.ex e) ks L=⟨c',ks',L'⟩)(h:G P r N w0 c' ks' Q L' ds H):JQ w0 (postK P r N ks Q) e L ds H:=
 Hq (tb:=tb) n (.ex e) ks L (by rw[hr];exact h)
theorem rD (tb:Tab P)(n:Nat)(hr:goN tb N n (.code c) [] L=⟨c',ks',L'⟩)(h:G P r N w0 c' ks' Q L' ds H):J P r N w0 c Q L ds H:=
 Hq (tb:=tb) n (.code c) [] L (by rw[hr];exact h)
theorem rG {c:Cur}(tb:Tab P)(n:Nat)(hr:goN tb N n c ks L=⟨c',ks',L'⟩)(h:G P r N w0 c' ks' Q L' ds H):G P r N w0 c ks Q L ds H:=
 Hq (tb:=tb) n c ks L (by rw[hr];exact h)
theorem kO (tb:Tab P)(n:Nat)(sl:List Nat){F:Fm}(hr:goN tb N n (.ops a l) ks L=⟨c',ks',L'⟩)(hk:keepF L' sl=some F)(h:G P r N w0 c' ks' Q F ds H):JL P r N w0 a l (postK P r N ks Q) L ds H:=
 rO tb n hr (g_keep (keepF_ok hk) h)
theorem kC (tb:Tab P)(n:Nat)(sl:List Nat){F:Fm}(hr:goN tb N n (.code c) ks L=⟨c',ks',L'⟩)(hk:keepF L' sl=some F)(h:G P r N w0 c' ks' Q F ds H):J P r N w0 c (postK P r N ks Q) L ds H:=
 rC tb n hr (g_keep (keepF_ok hk) h)
variable {H0:List (Nat × Obj)} {ops:Array Oper} {t:Nat}
def odN {P:Program} (tb:Tab P) (N:Nat) (ops:Array Oper):Nat→List (Nat × Bool)→Fm→List (Nat × Bool) × Fm
 |0,pl,L=>(pl,L)
 |n+1,(i,true)::plan,L=>(match ops[i]? with
  |some ⟨d,op,ty,p,af,g⟩=>(match dOk d N with
   |true=>(match wtd ops N L g with
    |some true=>(match yld tb L op with
     |some v=>(match d with
      |some d=>odN tb N ops n plan ((d,v)::L)
      |none=>odN tb N ops n plan L)
     |none=>((i,true)::plan,L))
    |some false=>(match d with
     |some d=>odN tb N ops n plan ((d,undef)::L)
     |none=>odN tb N ops n plan L)
    |none=>((i,true)::plan,L))
   |false=>((i,true)::plan,L))
  |none=>((i,true)::plan,L))
 |_+1,pl,L=>(pl,L)
theorem odN_ok:∀ (n:Nat) (pl:List (Nat × Bool)) (L:Fm),JO P r N w0 H0 ops t (odN tb N ops n pl L).1 Q (odN tb N ops n pl L).2 ds H→JO P r N w0 H0 ops t pl Q L ds H
 |0,_,_,h=>h
 |n+1,[],L,h=>h
 |n+1,(i,false)::pl,L,h=>h
 |n+1,(i,true)::plan,L,h=>by
  have ih:=odN_ok n;simp only[odN] at h
  split at h
  ·rename_i d op ty p af g hi
   split at h
   ·rename_i hN
    split at h
    ·rename_i hw
     split at h
     ·rename_i v hv;refine o_y hi (yld_yl hv) ?_ hN (wtd_t hw);cases d with
      |some d=>exact ih plan _ h
      |none=>exact ih plan _ h
     ·exact h
    ·rename_i hw;refine o_n hi ?_ hN (wtd_f hw);cases d with
     |some d=>exact ih plan _ h
     |none=>exact ih plan _ h
    ·exact h
   ·exact h
  ·exact h
theorem rP (tb:Tab P)(n:Nat){pl pl':List (Nat × Bool)}(hr:odN tb N ops n pl L=(pl',L'))(h:JO P r N w0 H0 ops t pl' Q L' ds H):JO P r N w0 H0 ops t pl Q L ds H:=
 odN_ok (tb:=tb) n pl L (by rw[hr];exact h)
theorem E9 {Q:Post}(h:NoPanic Q):∀ {ks:List Kt},NoPanic (postK P r N ks Q)
 |[]=>h
 | .code c::ks=>E7 (E9 h)
 | .block id::ks=>D8 (E9 h)
 | .scope::ks=>Fn (E9 h)
theorem Bz {Q:Post}(h:NoPanic Q:=by repeat (first|exact Ho|exact Ey|exact D3|apply E9|apply F8|apply Hp|apply Fn|apply E7|apply D8)):NoPanic Q:=h
end
def EndP (w0:World) (K:Value→List (Nat × Obj)→Prop) (fv:Value) (B:List (Nat × Obj)→Prop) (e:Ending) (w:World):Prop:=
 (∃ v H,e= .returned v∧Own w0 H w∧K v H)∨(e= .panicked [{v:=fv,recovered:=false}]∧∃ H,Own w0 H w∧B H)
def FSpecP (P:Program) (w0:World) (f:FuncId) (args:Array Value) (H:List (Nat × Obj)) (K:Value→List (Nat × Obj)→Prop) (fv:Value) (B:List (Nat × Obj)→Prop):Prop:=
 ∀ w,Own w0 H w→Calls P f args w (EndP w0 K fv B)
theorem EndP.mono {w0:World}{K K':Value→List (Nat × Obj)→Prop}{fv:Value}{B B':List (Nat × Obj)→Prop}{e:Ending}{w:World}(h:EndP w0 K fv B e w)(hk:∀ v H,K v H→K' v H)(hb:∀ H,B H→B' H):EndP w0 K' fv B' e w:=by
 rcases h with ⟨v,H,a,b,c⟩|⟨a,H,b,c⟩
 ·exact .inl ⟨v,H,a,b,hk v H c⟩
 ·exact .inr ⟨a,H,b,hb H c⟩
section
variable {P:Program} {w0:World} {f:FuncId} {args:Array Value} {H:List (Nat × Obj)} {K K':Value→List (Nat × Obj)→Prop} {fv:Value} {B B':List (Nat × Obj)→Prop}
theorem A7 {β γ:Type}{R M:List (Nat × Obj)}{F:List (Nat × Obj)→List (Nat × Obj)}{φ:Value→β→Prop}{M':β→List (Nat × Obj)}{ψ:γ→Prop}{M2:γ→List (Nat × Obj)}(h:FSpecP P w0 f args (M++R) (fun v H'=>∃ x,φ v x∧H'=M' x++R) fv (fun H'=>∃ y,ψ y∧H'=M2 y++R))
  (hl:LocL H M R F):FSpecP P w0 f args H (fun v H'=>∃ x,φ v x∧H'=F (M' x)) fv (fun H'=>∃ y,ψ y∧H'=F (M2 y)):=fun w hO=>
 (h w (B5 hO hl.perm.1)).mono fun e w' h=>by
  rcases h with ⟨v,H',he,hO',x,hx,hH⟩|⟨he,H',hO',y,hy,hH⟩
  ·exact .inl ⟨v,_,he,B5 (hH ▸ hO') (hl.perm.2 _).symm,x,hx,rfl⟩
  ·exact .inr ⟨he,_,B5 (hH ▸ hO') (hl.perm.2 _).symm,y,hy,rfl⟩
def effP (P:Program) (w0:World) (K:Value→List (Nat × Obj)→Prop) (fv:Value) (B:List (Nat × Obj)→Prop):Result Next→Prop
 | .ok (.enter f args) w'=>Calls P f args w' (EndP w0 K fv B)
 | .ok (.round l f tmps assign body) w'=>RoundIn Fence.wide 0 P l f tmps assign body w' (EndP w0 K fv B)
 | .halt (.panic v) w'=>v=fv∧∃ H,Own w0 H w'∧B H
 |_=>False
def EffP (P:Program) (w0:World) (op:Op) (ty:TypeId) (L:Fm) (H:List (Nat × Obj)) (K:Value→List (Nat × Obj)→Prop) (fv:Value) (B:List (Nat × Obj)→Prop):Prop:=
 Op.isDefer op=false∧∀ b w,Own w0 H w→effP P w0 K fv B ((exO (ev (lk L b)) op ty).run P w)
variable {r:Option Nat} {N:Nat} {Q:Post} {L:Fm} {ds:List Deferred} {ops:Array Oper} {l:List Oper} {d:Option Tmp} {op:Op} {ty:TypeId} {p:String} {af:Array Edge} {g:Option (Nat × Bool)}
theorem effP_wpIn {Q':Exit→Act→World→Prop}{next:Act→World→Prop}{a:Act}{b:Nat→Value}{w:World}(hf:fr a=lk L b)(he:EffP P w0 op ty L H K fv B)(hO:Own w0 H w)
  (k:∀ v H' w',K v H'→Own w0 H' w'→next (a.put d v) w') (kb:∀ H' w',B H'→Own w0 H' w'→Q' (.panic [{v:=fv,recovered:=false}]) a w'):Oper.wpIn (rd r) 0 P ⟨d,op,ty,p,af,g⟩ a w next Q':=by
 refine⟨fun f _=>H3 r f,?_⟩;rw[semAt_rd r _ he.1,eval_fr',hf];have h:=he.2 b w hO
 generalize (exO (ev (lk L b)) op ty).run P w=res at h;cases res with
 |ok n w'=>
  cases n<;>simp only[effP] at h<;>simp only[Oper.uponIn]
  case enter f args=>
   refine⟨Iz r,callsIn_rd (h.mono fun e w'' h=> ?_)⟩;rcases h with ⟨v,H',he',h1,h2⟩|⟨he',H',h1,h2⟩
   ·subst he';exact k v H' w'' h2 h1
   ·subst he';exact kb H' w'' h2 h1
  case round l f tmps assign body=>
   refine⟨Iz r,roundIn_rd (h.mono fun e w'' h=> ?_)⟩;rcases h with ⟨v,H',he',h1,h2⟩|⟨he',H',h1,h2⟩
   ·subst he';exact k v H' w'' h2 h1
   ·subst he';exact kb H' w'' h2 h1
 |halt x w'=>
  cases x<;>simp only[effP] at h
  case panic v=>
   obtain⟨rfl,H',h1,h2⟩:=h;exact kb H' w' h2 h1
theorem jl_p (he:EffP P w0 op ty L H K fv B)(hN:dOk d N=true)(hg:Gd ops L g N true)(k:∀ v H',K v H'→JL P r N w0 ops l Q (pt d v L) ds H')(kb:∀ H',B H'→JQ w0 Q (.panic [{v:=fv,recovered:=false}]) L ds H'):JL P r N w0 ops (⟨d,op,ty,p,af,g⟩::l) Q L ds H:=fun b w hO a hs hf hd=>by
 unfold wpListIn;rw[if_pos (I7 hg hs hf)];exact effP_wpIn hf he hO (fun v H' w' hk hO'=>k v H' hk b w' hO' _ (by rw[C0];exact hs) (H4 hN hs hf) (by rw[Cj];exact hd)) (fun H' w' hb hO'=>⟨hs,by rw[hf,hd];exact kb H' hb b w' hO'⟩)
variable {H0:List (Nat × Obj)} {t i:Nat} {plan:List (Nat × Bool)} {f':Nat} {listed:Array Bool}
theorem o_p (hi:ops[i]? =some ⟨d,op,ty,p,af,g⟩)(he:EffP P w0 op ty L H K fv B)(k:∀ v H',K v H'→H0.Sublist H'∧JO P r N w0 H0 ops t plan Q (pt d v L) ds H')(kb:∀ H',B H'→JQ w0 Q (.panic [{v:=fv,recovered:=false}]) L ds H')(hN:dOk d N=true)(hg:Gd ops L g N true):JO P r N w0 H0 ops t ((i,false)::plan) Q L ds H:=
 fun hT hD hS hP hs listed inv hp b a hsz hf hd=>by
  simp only[planB,Bool.and_eq_true,Nat.blt_eq,beq_iff_eq] at hp;obtain⟨⟨h1,h2⟩,h4⟩:=hp;have hr:i∈Region.ready md ops listed:=by rw[h2];simp
  refine⟨⟨i,hr,h1⟩,fun j hj _ w hO=> ?_⟩;rw[h2] at hj;obtain rfl:j=i:=by simpa using hj
  unfold wpOpIn;simp only[hi];rw[if_pos (I7 hg hsz hf)];refine effP_wpIn hf he hO (fun v H' w' hk hO'=> ?_) (fun H' w' hb hO'=>⟨hsz,by rw[hf,hd];exact kb H' hb b w' hO'⟩);obtain⟨k1,k2⟩:=k v H' hk;exact⟨H',k1,hO',k2 hT hD hS hP k1 _ (inv.set hr h1) h4 b _ (by rw[C0];exact hsz) (H4 hN hsz hf) (by rw[Cj];exact hd)⟩
theorem p_ (he:EffP P w0 op ty L H K fv B)(k:∀ v H',K v H'→JL P r N w0 ops l Q (pt d v L) ds H')(kb:∀ H',B H'→JQ w0 Q (.panic [{v:=fv,recovered:=false}]) L ds H')(hN:dOk d N=true):JL P r N w0 ops (⟨d,op,ty,p,af,none⟩::l) Q L ds H:=jl_p he hN Ad k kb
theorem A3 {xs:List Operand}{vs:List Value}{ts:Array TypeId}(ha:Evs L xs vs)(hf:∀ args w,(callFunc f args).run P w= .ok (.enter f args) w)(h:FSpecP P w0 f vs.toArray H K fv B):
  EffP P w0 (.call {callee:= .value (.func f),args:=xs.toArray,argTypes:=ts}) ty L H K fv B:=⟨rfl,fun b w hO=>by
 have hr:=Ex (P:=P) (L:=L) (x:= .func f) (cap:=[]) (ty:=ty) (ts:=ts) (b:=b) (w:=w) (fun _=>rfl) ha hf;rw[hr,List.append_nil];exact h w hO⟩
theorem C6 {x:Operand}{xs:List Operand}{vs cap:List Value}{ts:Array TypeId}(hx:Ev L x (.func (.func f) #[] cap.toArray))(ha:Evs L xs vs)(hf:∀ args w,(callFunc f args).run P w= .ok (.enter f args) w)(h:FSpecP P w0 f (vs++cap).toArray H K fv B):
  EffP P w0 (.call {callee:= .value x,args:=xs.toArray,argTypes:=ts}) ty L H K fv B:=⟨rfl,fun b w hO=>by
 have hr:=Ex (P:=P) (L:=L) (cap:=cap) (ty:=ty) (ts:=ts) (b:=b) (w:=w) hx ha hf;rw[hr];exact h w hO⟩
def retQP (P:Program) (fn:Func) (w0:World) (K:Value→List (Nat × Obj)→Prop) (fv:Value) (B:List (Nat × Obj)→Prop):Post
 | .normal,σ,ds,w=>RetW P fn w0 K σ ds w
 | .ret,σ,ds,w=>RetW P fn w0 K σ ds w
 | .panic c,σ,ds,w=>ds=[]∧c=[{v:=fv,recovered:=false}]∧∃ H,Own w0 H w∧B H
 |_,_,_,_=>False
theorem Bt {fn:Func}{c:Code}{vs:List Value}(hf:P.funcs[f]? =some fn)(hb:fn.body=some c)(hN:fn.ntmps=N)(hv:Nat.ble vs.length N=true)
  (h:J P none N w0 c (retQP P fn w0 K fv B) (ini 0 vs) [] H):FSpecP P w0 f vs.toArray H K fv B:=fun w hO=>by
 have hv':vs.length≤N:=by simpa using hv
 refine callsIn_wide.1 (callsIn_of_wp_marks (n:=0) (F:=Fence.wide) hf hb trivial ?_ U);have h1:=h (fun _=>undef) w hO {tmps:=vs.toArray++Array.replicate (fn.ntmps - vs.toArray.size) undef,defers:=[]} (by simp[hN];omega) (by
  funext k
  rw[Hn];unfold fr;simp only[Nat.zero_le,if_true,Nat.sub_zero,Array.getD_eq_getD_getElem?]
  by_cases hk:k<vs.length
  ·simp[Array.getElem?_append,hk]
  ·simp only[List.size_toArray,Array.getElem?_append,hk,if_false];rw[List.getElem?_eq_none qom];simp only[Array.getElem?_replicate]
   split<;>rfl) U
 refine wpIn_mono h1 fun e a w' hq=> ?_
 obtain⟨hs,hq⟩:=hq;have hl:∀ {ds:List Deferred} {w:World} {tmps:Array Value},RetW P fn w0 K (fun k=>tmps.getD k undef) ds w→LeavesInM Fence.wide 0 P fn tmps (EndP w0 K fv B) ds .returning w:=by
  intro ds
  induction ds with
  |nil=>
   intro w tmps ⟨v,H,hr,hO,hK⟩;unfold LeavesInM LeavesIn;exact⟨v,hr _ U, .inl ⟨v,H,rfl,hO,hK⟩⟩
  |cons d ds ih=>
   intro w tmps ⟨D,w',h1,h2,h3⟩;unfold LeavesInM;exact⟨by simp, .inl ⟨D,w',h1,h2,ih h3⟩⟩
 cases e with
 |normal=>exact hl hq
 |ret=>exact hl hq
 |panic c=>
  obtain⟨hd,rfl,H',hO',hB⟩:=hq;show LeavesInM Fence.wide 0 P fn a.tmps (EndP w0 K fv B) a.defers (.panicking _) w';rw[hd];unfold LeavesInM LeavesIn;exact .inr ⟨rfl,H',hO',hB⟩
 |exit id=>exact hq.elim
 |goto l=>exact hq.elim
 |outgrown=>exact hq.elim
theorem np_retP {fn:Func}:NoPanic (retQP P fn w0 K fv B):=⟨fun _ _ _ _ _ h=>h⟩
theorem B8 {Q:Post}(h:NoPanic Q:=by repeat (first|exact Ho|exact np_retP|exact Ey|exact D3|apply E9|apply F8|apply Hp|apply Fn|apply E7|apply D8)):NoPanic Q:=h
theorem Bn {fn:Func}{H' H2:List (Nat × Obj)}(hB:B H2)(hs:H2.Sublist H'):JQ w0 (retQP P fn w0 K fv B) (.panic [{v:=fv,recovered:=false}]) L [] H':=fun b w hO=>⟨rfl,rfl,H2,hO.sub hs,hB⟩
theorem Cd {c:List PanicEntry}{r:Option Nat}{N:Nat}{Q:Post}{H':List (Nat × Obj)}:∀ {ks:List Kt},JQ w0 Q (.panic c) L ds H'→JQ w0 (postK P r N ks Q) (.panic c) L ds H'
 |[],h=>h
 | .code c::ks,h=>Cd (ks:=ks) h
 | .block id::ks,h=>Cd (ks:=ks) h
 | .scope::ks,h=>Cd (ks:=ks) h
theorem Br {c:List PanicEntry}{Q:Post}{H':List (Nat × Obj)}{X:Type}{V:X→Fm}{G:X→List (Nat × Obj)}{φ:X→Prop}{μ:X→Nat}{m:Nat}{ds':List Deferred}(h:JQ w0 Q (.panic c) L ds H'):JQ w0 (loopQ w0 V G φ μ m ds' Q) (.panic c) L ds H':=h
theorem B0 {fn:Func}{rs:List ResultVar}{vs:List Value}(hr:fn.results=rs.toArray)(h:ResV P w0 L H rs vs)(hK:∃ H',K (resOf vs) H'∧H'.Sublist H):JQ w0 (retQP P fn w0 K fv B) .ret L [] H:=fun b w hO=>by
 obtain⟨H',h1,h2⟩:=hK;exact⟨_,H',Fl hr h hO,hO.sub h2,h1⟩
theorem qp_end {fn:Func}{rs:List ResultVar}{vs:List Value}(hr:fn.results=rs.toArray)(h:ResV P w0 L H rs vs)(hK:∃ H',K (resOf vs) H'∧H'.Sublist H):JQ w0 (retQP P fn w0 K fv B) .normal L [] H:=fun b w hO=>by
 obtain⟨H',h1,h2⟩:=hK;exact⟨_,H',Fl hr h hO,hO.sub h2,h1⟩
end
theorem fa25_0 (b o:Nat)(w:World):(Instr.fieldAt 25 (.pointer (some ⟨b,o,none⟩)) 0).run Tryz.prog w= .ok (.pointer (some ⟨b,o,none⟩)) w:=by kernel_rfl
theorem fa25_1 (b o:Nat)(w:World):(Instr.fieldAt 25 (.pointer (some ⟨b,o,none⟩)) 1).run Tryz.prog w= .ok (.pointer (some ⟨b,o+1,none⟩)) w:=by kernel_rfl
theorem fa25_2 (b o:Nat)(w:World):(Instr.fieldAt 25 (.pointer (some ⟨b,o,none⟩)) 2).run Tryz.prog w= .ok (.pointer (some ⟨b,o+2,none⟩)) w:=by kernel_rfl
theorem fa25_3 (b o:Nat)(w:World):(Instr.fieldAt 25 (.pointer (some ⟨b,o,none⟩)) 3).run Tryz.prog w= .ok (.pointer (some ⟨b,o+3,none⟩)) w:=by kernel_rfl
theorem fa25_4 (b o:Nat)(w:World):(Instr.fieldAt 25 (.pointer (some ⟨b,o,none⟩)) 4).run Tryz.prog w= .ok (.pointer (some ⟨b,o+4,none⟩)) w:=by kernel_rfl
theorem fa28_0 (b o:Nat)(w:World):(Instr.fieldAt 28 (.pointer (some ⟨b,o,none⟩)) 0).run Tryz.prog w= .ok (.pointer (some ⟨b,o,none⟩)) w:=by kernel_rfl
theorem fa28_1 (b o:Nat)(w:World):(Instr.fieldAt 28 (.pointer (some ⟨b,o,none⟩)) 1).run Tryz.prog w= .ok (.pointer (some ⟨b,o+1,none⟩)) w:=by kernel_rfl
theorem fa28_2 (b o:Nat)(w:World):(Instr.fieldAt 28 (.pointer (some ⟨b,o,none⟩)) 2).run Tryz.prog w= .ok (.pointer (some ⟨b,o+6,none⟩)) w:=by kernel_rfl
theorem fa28_3 (b o:Nat)(w:World):(Instr.fieldAt 28 (.pointer (some ⟨b,o,none⟩)) 3).run Tryz.prog w= .ok (.pointer (some ⟨b,o+7,none⟩)) w:=by kernel_rfl
theorem fa28_4 (b o:Nat)(w:World):(Instr.fieldAt 28 (.pointer (some ⟨b,o,none⟩)) 4).run Tryz.prog w= .ok (.pointer (some ⟨b,o+8,none⟩)) w:=by kernel_rfl
theorem fa67_0 (b o:Nat)(w:World):(Instr.fieldAt 67 (.pointer (some ⟨b,o,none⟩)) 0).run Tryz.prog w= .ok (.pointer (some ⟨b,o,none⟩)) w:=by kernel_rfl
theorem fa67_1 (b o:Nat)(w:World):(Instr.fieldAt 67 (.pointer (some ⟨b,o,none⟩)) 1).run Tryz.prog w= .ok (.pointer (some ⟨b,o+1,none⟩)) w:=by kernel_rfl
theorem fa67_2 (b o:Nat)(w:World):(Instr.fieldAt 67 (.pointer (some ⟨b,o,none⟩)) 2).run Tryz.prog w= .ok (.pointer (some ⟨b,o+2,none⟩)) w:=by kernel_rfl
theorem fa78_0 (b o:Nat)(w:World):(Instr.fieldAt 78 (.pointer (some ⟨b,o,none⟩)) 0).run Tryz.prog w= .ok (.pointer (some ⟨b,o,none⟩)) w:=by kernel_rfl
theorem fa78_1 (b o:Nat)(w:World):(Instr.fieldAt 78 (.pointer (some ⟨b,o,none⟩)) 1).run Tryz.prog w= .ok (.pointer (some ⟨b,o+10,none⟩)) w:=by kernel_rfl
theorem fa81_0 (b o:Nat)(w:World):(Instr.fieldAt 81 (.pointer (some ⟨b,o,none⟩)) 0).run Tryz.prog w= .ok (.pointer (some ⟨b,o,none⟩)) w:=by kernel_rfl
theorem fa81_1 (b o:Nat)(w:World):(Instr.fieldAt 81 (.pointer (some ⟨b,o,none⟩)) 1).run Tryz.prog w= .ok (.pointer (some ⟨b,o+20,none⟩)) w:=by kernel_rfl
theorem fa84_0 (b o:Nat)(w:World):(Instr.fieldAt 84 (.pointer (some ⟨b,o,none⟩)) 0).run Tryz.prog w= .ok (.pointer (some ⟨b,o,none⟩)) w:=by kernel_rfl
theorem fa84_1 (b o:Nat)(w:World):(Instr.fieldAt 84 (.pointer (some ⟨b,o,none⟩)) 1).run Tryz.prog w= .ok (.pointer (some ⟨b,o+1,none⟩)) w:=by kernel_rfl
theorem fa92_0 (b o:Nat)(w:World):(Instr.fieldAt 92 (.pointer (some ⟨b,o,none⟩)) 0).run Tryz.prog w= .ok (.pointer (some ⟨b,o,none⟩)) w:=by kernel_rfl
theorem fa92_1 (b o:Nat)(w:World):(Instr.fieldAt 92 (.pointer (some ⟨b,o,none⟩)) 1).run Tryz.prog w= .ok (.pointer (some ⟨b,o+1,none⟩)) w:=by kernel_rfl
theorem fa92_2 (b o:Nat)(w:World):(Instr.fieldAt 92 (.pointer (some ⟨b,o,none⟩)) 2).run Tryz.prog w= .ok (.pointer (some ⟨b,o+2,none⟩)) w:=by kernel_rfl
theorem fa92_3 (b o:Nat)(w:World):(Instr.fieldAt 92 (.pointer (some ⟨b,o,none⟩)) 3).run Tryz.prog w= .ok (.pointer (some ⟨b,o+3,none⟩)) w:=by kernel_rfl
theorem fa92_4 (b o:Nat)(w:World):(Instr.fieldAt 92 (.pointer (some ⟨b,o,none⟩)) 4).run Tryz.prog w= .ok (.pointer (some ⟨b,o+4,none⟩)) w:=by kernel_rfl
theorem fa97_0 (b o:Nat)(w:World):(Instr.fieldAt 97 (.pointer (some ⟨b,o,none⟩)) 0).run Tryz.prog w= .ok (.pointer (some ⟨b,o,none⟩)) w:=by kernel_rfl
theorem fa97_1 (b o:Nat)(w:World):(Instr.fieldAt 97 (.pointer (some ⟨b,o,none⟩)) 1).run Tryz.prog w= .ok (.pointer (some ⟨b,o+1,none⟩)) w:=by kernel_rfl
theorem fa97_2 (b o:Nat)(w:World):(Instr.fieldAt 97 (.pointer (some ⟨b,o,none⟩)) 2).run Tryz.prog w= .ok (.pointer (some ⟨b,o+2,none⟩)) w:=by kernel_rfl
theorem fa101_0 (b o:Nat)(w:World):(Instr.fieldAt 101 (.pointer (some ⟨b,o,none⟩)) 0).run Tryz.prog w= .ok (.pointer (some ⟨b,o,none⟩)) w:=by kernel_rfl
theorem fa101_1 (b o:Nat)(w:World):(Instr.fieldAt 101 (.pointer (some ⟨b,o,none⟩)) 1).run Tryz.prog w= .ok (.pointer (some ⟨b,o+1,none⟩)) w:=by kernel_rfl
theorem fa107_0 (b o:Nat)(w:World):(Instr.fieldAt 107 (.pointer (some ⟨b,o,none⟩)) 0).run Tryz.prog w= .ok (.pointer (some ⟨b,o,none⟩)) w:=by kernel_rfl
theorem fa107_1 (b o:Nat)(w:World):(Instr.fieldAt 107 (.pointer (some ⟨b,o,none⟩)) 1).run Tryz.prog w= .ok (.pointer (some ⟨b,o+10,none⟩)) w:=by kernel_rfl
theorem fa112_0 (b o:Nat)(w:World):(Instr.fieldAt 112 (.pointer (some ⟨b,o,none⟩)) 0).run Tryz.prog w= .ok (.pointer (some ⟨b,o,none⟩)) w:=by kernel_rfl
theorem fa112_1 (b o:Nat)(w:World):(Instr.fieldAt 112 (.pointer (some ⟨b,o,none⟩)) 1).run Tryz.prog w= .ok (.pointer (some ⟨b,o+20,none⟩)) w:=by kernel_rfl
def tb:Tab Tryz.prog:=⟨[((25,0),none),((25,1),some 1),((25,2),some 2),((25,3),some 3),((25,4),some 4),((28,0),none),((28,1),some 1),((28,2),some 6),((28,3),some 7),((28,4),some 8),((67,0),none),((67,1),some 1),((67,2),some 2),((78,0),none),((78,1),some 10),((81,0),none),((81,1),some 20),((84,0),none),((84,1),some 1),((92,0),none),((92,1),some 1),((92,2),some 2),((92,3),some 3),((92,4),some 4),((97,0),none),((97,1),some 1),((97,2),some 2),((101,0),none),((101,1),some 1),((107,0),none),((107,1),some 10),((112,0),none),((112,1),some 20)],[22,23,26,42,48,64,65,79,90,110,184],⟨fun _ _ _=>fa25_0 _ _ _,fun _ _ _=>fa25_1 _ _ _,fun _ _ _=>fa25_2 _ _ _,fun _ _ _=>fa25_3 _ _ _,fun _ _ _=>fa25_4 _ _ _,fun _ _ _=>fa28_0 _ _ _,fun _ _ _=>fa28_1 _ _ _,fun _ _ _=>fa28_2 _ _ _,fun _ _ _=>fa28_3 _ _ _,fun _ _ _=>fa28_4 _ _ _,fun _ _ _=>fa67_0 _ _ _,fun _ _ _=>fa67_1 _ _ _,fun _ _ _=>fa67_2 _ _ _,fun _ _ _=>fa78_0 _ _ _,fun _ _ _=>fa78_1 _ _ _,fun _ _ _=>fa81_0 _ _ _,fun _ _ _=>fa81_1 _ _ _,fun _ _ _=>fa84_0 _ _ _,fun _ _ _=>fa84_1 _ _ _,fun _ _ _=>fa92_0 _ _ _,fun _ _ _=>fa92_1 _ _ _,fun _ _ _=>fa92_2 _ _ _,fun _ _ _=>fa92_3 _ _ _,fun _ _ _=>fa92_4 _ _ _,fun _ _ _=>fa97_0 _ _ _,fun _ _ _=>fa97_1 _ _ _,fun _ _ _=>fa97_2 _ _ _,fun _ _ _=>fa101_0 _ _ _,fun _ _ _=>fa101_1 _ _ _,fun _ _ _=>fa107_0 _ _ _,fun _ _ _=>fa107_1 _ _ _,fun _ _ _=>fa112_0 _ _ _,fun _ _ _=>fa112_1 _ _ _,trivial⟩,⟨⟨_,runUnderlying22⟩,⟨_,runUnderlying23⟩,⟨_,runUnderlying26⟩,⟨_,runUnderlying42⟩,⟨_,runUnderlying48⟩,⟨_,runUnderlying64⟩,⟨_,runUnderlying65⟩,⟨_,runUnderlying79⟩,⟨_,runUnderlying90⟩,⟨_,runUnderlying110⟩,⟨_,runUnderlying184⟩,trivial⟩⟩
abbrev Nd:=Nat × Nat × Nat
abbrev Ns:=List Nd
def nd (ns:Ns) (i:Nat):Nd:=ns.getD i (0,0,0)
def lvl (ns:Ns) (i:Nat):Nat:=(nd ns i).1
def low (ns:Ns) (i:Nat):Nat:=(nd ns i).2.1
def hig (ns:Ns) (i:Nat):Nat:=(nd ns i).2.2
structure Wf (N:Nat) (ns:Ns):Prop where
 two:2≤ns.length
 e0:nd ns 0=(N,0,0)
 e1:nd ns 1=(N,0,0)
 lt:∀ i,2≤i→i<ns.length→lvl ns i<N∧low ns i<i∧hig ns i<i
 ne:∀ i,2≤i→i<ns.length→low ns i≠hig ns i
 up:∀ i,2≤i→i<ns.length→lvl ns i<lvl ns (low ns i)∧lvl ns i<lvl ns (hig ns i)
 un:∀ i j,2≤i→i<ns.length→2≤j→j<ns.length→nd ns i=nd ns j→i=j
theorem Es {ns ms:Ns}(h:ns<+:ms){i:Nat}(hi:i<ns.length):nd ms i=nd ns i:=by
 obtain⟨t,rfl⟩:=h;unfold nd List.getD;rw[List.getElem?_append_left hi]
theorem Ej {ns ms:Ns}(h:ns<+:ms){i:Nat}(hi:i<ns.length):lvl ms i=lvl ns i:=by unfold lvl;rw[Es h hi]
theorem G4 {ns ms:Ns}(h:ns<+:ms){i:Nat}(hi:i<ns.length):low ms i=low ns i:=by unfold low;rw[Es h hi]
theorem G5 {ns ms:Ns}(h:ns<+:ms){i:Nat}(hi:i<ns.length):hig ms i=hig ns i:=by unfold hig;rw[Es h hi]
section
variable {N:Nat} {ns ms:Ns}
theorem Wf.lv0 (h:Wf N ns):lvl ns 0=N:=by unfold lvl;rw[h.e0]
theorem Wf.lv1 (h:Wf N ns):lvl ns 1=N:=by unfold lvl;rw[h.e1]
theorem Wf.lvN (h:Wf N ns){i:Nat}(hi:i<ns.length):lvl ns i≤N:=by
 by_cases h2:2≤i
 ·exact Nat.le_of_lt (h.lt i h2 hi).1
 ·have:i=0∨i=1:=by omega
  rcases this with rfl|rfl
  ·exact Nat.le_of_eq h.lv0
  ·exact Nat.le_of_eq h.lv1
theorem Wf.end (h:Wf N ns){i:Nat}(hi:i<ns.length):lvl ns i=N↔i<2:=by
 constructor
 ·intro e;refine Nat.lt_of_not_le fun h2=> ?_
  have:=(h.lt i h2 hi).1;omega
 ·intro h2;have:i=0∨i=1:=by omega
  rcases this with rfl|rfl
  ·exact h.lv0
  ·exact h.lv1
def semK (ns:Ns) (α:Nat→Bool):Nat→Nat→Bool
 |0,i=>i==1
 |k+1,i=>if i<2 then i==1 else if α (lvl ns i) then semK ns α k (hig ns i) else semK ns α k (low ns i)
def sem (ns:Ns) (i:Nat) (α:Nat→Bool):Bool:=semK ns α i i
theorem semK_end (ns:Ns)(α:Nat→Bool){i:Nat}(h:i<2):∀ k,semK ns α k i=(i==1)
 |0=>rfl
 |k+1=>by rw[semK,if_pos h]
theorem semK_ge (h:Wf N ns)(α:Nat→Bool):∀ (k i:Nat),i<ns.length→i≤k→semK ns α k i=semK ns α i i:=by
 intro k
 induction k using Nat.strongRecOn with
 |_ k ih=>
  intro i hi hk
  by_cases h2:i<2
  ·rw[semK_end ns α h2,semK_end ns α h2]
  ·obtain⟨i',rfl⟩:∃ i',i=i'+1:=⟨i - 1,by omega⟩;obtain⟨k',rfl⟩:∃ k',k=k'+1:=⟨k - 1,by omega⟩;obtain⟨h3,h4,h5⟩:=h.lt (i'+1) qom hi;rw[semK,semK,if_neg h2,if_neg h2];have a1:=ih k' qom (hig ns (i'+1)) qom qom;have a2:=ih k' qom (low ns (i'+1)) qom qom
   by_cases hk':k'=i'
   ·subst hk';rfl
   ·have b1:=ih i' qom (hig ns (i'+1)) qom qom;have b2:=ih i' qom (low ns (i'+1)) qom qom;rw[a1,a2,b1,b2]
theorem Dg {i:Nat}(α:Nat→Bool)(h:i<2):sem ns i α=(i==1):=semK_end ns α h i
theorem G6 (α:Nat→Bool):sem ns 0 α=false:=rfl
theorem Jx (α:Nat→Bool):sem ns 1 α=true:=rfl
theorem Ds (h:Wf N ns){i:Nat}(h2:2≤i)(hi:i<ns.length)(α:Nat→Bool):sem ns i α=if α (lvl ns i) then sem ns (hig ns i) α else sem ns (low ns i) α:=by
 obtain⟨i',rfl⟩:∃ i',i=i'+1:=⟨i - 1,by omega⟩;obtain⟨h3,h4,h5⟩:=h.lt (i'+1) h2 hi;unfold sem;rw[semK,if_neg qom,semK_ge h α i' _ qom qom,semK_ge h α i' _ qom qom]
def ch (ns:Ns) (i lv:Nat) (v:Bool):Nat:=if lvl ns i=lv then (if v then hig ns i else low ns i) else i
theorem Bv (h:Wf N ns){i lv:Nat}(hi:i<ns.length)(v:Bool):ch ns i lv v<ns.length:=by
 unfold ch
 split
 ·by_cases h2:2≤i
  ·obtain⟨_,h4,h5⟩:=h.lt i h2 hi;cases v<;>simp<;>omega
  ·have:i=0∨i=1:=by omega
   have h3:=h.two;rcases this with rfl|rfl
   ·unfold hig low;rw[h.e0];cases v<;>simp<;>omega
   ·unfold hig low;rw[h.e1];cases v<;>simp<;>omega
 ·exact hi
theorem Dc (h:Wf N ns){i lv:Nat}(hi:i<ns.length)(hl:lv≤lvl ns i)(hN:lv<N)(v:Bool):lv<lvl ns (ch ns i lv v):=by
 unfold ch
 split
 ·rename_i e;have h2:2≤i:=Nat.le_of_not_lt fun h2=>by have:=(h.end hi).2 h2;omega
  have:=h.up i h2 hi;cases v<;>simp<;>omega
 ·omega
theorem Hr (h:Wf N ns){i lv:Nat}(hi:i<ns.length)(hN:lv<N)(α:Nat→Bool):sem ns i α=sem ns (ch ns i lv (α lv)) α:=by
 unfold ch
 split
 ·rename_i e;have h2:2≤i:=Nat.le_of_not_lt fun h2=>by have:=(h.end hi).2 h2;omega
  rw[Ds h h2 hi,e]
  split<;>rfl
 ·rfl
theorem C2 (h:Wf N ns):∀ (i:Nat),i<ns.length→∀ (α β:Nat→Bool),(∀ k,lvl ns i≤k→k<N→α k=β k)→sem ns i α=sem ns i β:=by
 intro i
 induction i using Nat.strongRecOn with
 |_ i ih=>
  intro hi α β he
  by_cases h2:2≤i
  ·obtain⟨h3,h4,h5⟩:=h.lt i h2 hi;have hu:=h.up i h2 hi;rw[Ds h h2 hi,Ds h h2 hi,he _ (Nat.le_refl _) h3,ih _ h4 qom α β fun k hk hN=>he k qom hN,ih _ h5 qom α β fun k hk hN=>he k qom hN]
  ·rw[Dg α qom,Dg β qom]
theorem canon (h:Wf N ns):∀ (m i j:Nat),i<m→j<m→i<ns.length→j<ns.length→(∀ α,sem ns i α=sem ns j α)→i=j:=by
 intro m
 induction m with
 |zero=>intro i j hi;omega
 |succ m ih=>
  have key:∀ i j:Nat,i<m+1→j<m+1→i<ns.length→j<ns.length→lvl ns i<lvl ns j→(∀ α,sem ns i α=sem ns j α)→False:=fun i j hi hj hil hjl hlt he=>by
   have hjN:=h.lvN hjl;have h2:2≤i:=Nat.le_of_not_lt fun h2=>by have:=(h.end hil).2 h2;omega
   obtain⟨h3,h4,h5⟩:=h.lt i h2 hil;have hu:=h.up i h2 hil;refine h.ne i h2 hil (ih _ _ qom qom qom qom fun α=> ?_);have set:∀ v:Bool,sem ns i (fun k=>if k=lvl ns i then v else α k)=sem ns (if v then hig ns i else low ns i) α:=fun v=>by
    rw[Ds h h2 hil];simp only[if_true];cases v
    ·simp only[Bool.false_eq_true,if_false];exact C2 h _ qom _ _ fun k hk _=>if_neg qom
    ·simp only[if_true];exact C2 h _ qom _ _ fun k hk _=>if_neg qom
   have s0:=set false;have s1:=set true;simp only[Bool.false_eq_true,if_false,if_true] at s0 s1;rw[← s0,← s1,he,he];exact C2 h _ hjl _ _ fun k hk _=>by rw[if_neg qom,if_neg qom]
  intro i j hi hj hil hjl he;rcases Nat.lt_trichotomy (lvl ns i) (lvl ns j) with hlt|heq|hgt
  ·exact(key i j hi hj hil hjl hlt he).elim
  ·by_cases h2:2≤i
   ·have h2j:2≤j:=Nat.le_of_not_lt fun h2j=>by
     have:=(h.end hjl).2 h2j;have:=(h.lt i h2 hil).1;omega
    obtain⟨h3,h4,h5⟩:=h.lt i h2 hil;obtain⟨g3,g4,g5⟩:=h.lt j h2j hjl;have hu:=h.up i h2 hil;have gu:=h.up j h2j hjl;have set:∀ (i:Nat),2≤i→i<ns.length→∀ (v:Bool) (α:Nat→Bool),sem ns i (fun k=>if k=lvl ns i then v else α k)=sem ns (if v then hig ns i else low ns i) α:=fun i h2 hil v α=>by
     have hu:=h.up i h2 hil;obtain⟨h3,h4,h5⟩:=h.lt i h2 hil;rw[Ds h h2 hil];simp only[if_true];cases v
     ·simp only[Bool.false_eq_true,if_false];exact C2 h _ qom _ _ fun k hk _=>if_neg qom
     ·simp only[if_true];exact C2 h _ qom _ _ fun k hk _=>if_neg qom
    have e:∀ (v:Bool) (α:Nat→Bool),sem ns (if v then hig ns i else low ns i) α=sem ns (if v then hig ns j else low ns j) α:=fun v α=>by
     rw[← set i h2 hil v α,← set j h2j hjl v α,heq];exact he _
    have el:=ih (low ns i) (low ns j) qom qom qom qom fun α=>by simpa using e false α
    have eh:=ih (hig ns i) (hig ns j) qom qom qom qom fun α=>by simpa using e true α
    exact h.un i j h2 hil h2j hjl (Prod.ext heq (Prod.ext el eh))
   ·have h2j: ¬ 2≤j:=fun h2j=>by
     have:=(h.end hil).2 qom;have:=(h.lt j h2j hjl).1;omega
    have:=he fun _=>false
    rw[Dg _ qom,Dg _ qom] at this;have hi':i=0∨i=1:=by omega
    have hj':j=0∨j=1:=by omega
    rcases hi' with rfl|rfl<;>rcases hj' with rfl|rfl<;>first|rfl|cases this
  ·exact(key j i hj hi hjl hil hgt fun α=>(he α).symm).elim
theorem sem_inj (h:Wf N ns){i j:Nat}(hi:i<ns.length)(hj:j<ns.length)(he:∀ α,sem ns i α=sem ns j α):i=j:=
 canon h (i+j+1) i j qom qom hi hj he
theorem sem_pre (h:Wf N ns)(h':Wf N ms)(hp:ns<+:ms)(α:Nat→Bool):∀ (i:Nat),i<ns.length→sem ms i α=sem ns i α:=by
 have hl:=hp.length_le;intro i
 induction i using Nat.strongRecOn with
 |_ i ih=>
  intro hi
  by_cases h2:2≤i
  ·obtain⟨h3,h4,h5⟩:=h.lt i h2 hi;rw[Ds h h2 hi,Ds h' h2 qom,Ej hp hi,G5 hp hi,G4 hp hi,ih _ h4 qom,ih _ h5 qom]
  ·rw[Dg α qom,Dg α qom]
end
def fdF (n:Nd):Ns→Nat→Option Nat
 |[],_=>none
 |x::r,k=>if x=n then some k else fdF n r (k+1)
theorem G7 {n:Nd}:∀ {l:Ns} {k i:Nat},fdF n l k=some i→k≤i∧i<k+l.length∧l[i - k]? =some n
 |[],_,_,h=>by cases h
 |x::r,k,i,h=>by
  rw[fdF] at h
  by_cases e:x=n
  ·rw[if_pos e] at h;obtain rfl:=Option.some.inj h;exact⟨Nat.le_refl _,by simp,by simp[e]⟩
  ·rw[if_neg e] at h;obtain⟨h1,h2,h3⟩:=G7 h;refine⟨by omega,by simp only[List.length_cons];omega,?_⟩;rw[show i - k=(i - (k+1))+1 by omega,List.getElem?_cons_succ];exact h3
theorem fdF_none {n:Nd}:∀ {l:Ns} {k:Nat},fdF n l k=none→n∉l
 |[],_,_=>by simp
 |x::r,k,h=>by
  rw[fdF] at h
  by_cases e:x=n
  ·rw[if_pos e] at h;cases h
  ·rw[if_neg e] at h;simp only[List.mem_cons,not_or];exact⟨fun h2=>e h2.symm,fdF_none h⟩
def mkF (most:Nat) (ns:Ns) (lv l h:Nat):Option (Nat × Ns):=
 if l=h then some (l,ns) else
  match fdF (lv,l,h) (ns.drop 2) 2 with
  |some id=>some (id,ns)
  |none=>if ns.length - 2<most then some (ns.length,ns++[(lv,l,h)]) else none
structure Gr (N:Nat) (ns ms:Ns):Prop where
 w:Wf N ms
 p:ns<+:ms
theorem Gr.refl {N:Nat}{ns:Ns}(h:Wf N ns):Gr N ns ns:=⟨h,List.prefix_refl _⟩
theorem Gr.trans {N:Nat}{a b c:Ns}(h:Gr N a b)(g:Gr N b c):Gr N a c:=⟨g.w,h.p.trans g.p⟩
theorem Gr.le {N:Nat}{a b:Ns}(h:Gr N a b):a.length≤b.length:=h.p.length_le
theorem Gr.sem {N:Nat}{a b:Ns}(h:Gr N a b)(ha:Wf N a){i:Nat}(hi:i<a.length)(α:Nat→Bool):sem b i α=sem a i α:=sem_pre ha h.w h.p α i hi
theorem Gr.lvl {N:Nat}{a b:Ns}(h:Gr N a b){i:Nat}(hi:i<a.length):lvl b i=lvl a i:=Ej h.p hi
theorem Gr.ch {N:Nat}{a b:Ns}(h:Gr N a b){i:Nat}(hi:i<a.length)(lv:Nat)(v:Bool):ch b i lv v=ch a i lv v:=by
 unfold YtkojjapnfdlddaaGreat.ch;rw[h.lvl hi,G5 h.p hi,G4 h.p hi]
theorem nd_new (ns:Ns)(n:Nd):nd (ns++[n]) ns.length=n:=by simp[nd,List.getD]
section
variable {N most:Nat} {ns ms:Ns}
theorem wf_new (h:Wf N ns){lv l r:Nat}(hl:l<ns.length)(hr:r<ns.length)(hne:l≠r)(hN:lv<N)(h1:lv<lvl ns l)(h2:lv<lvl ns r)(hn:(lv,l,r)∉ns.drop 2):Wf N (ns++[(lv,l,r)]):=by
 have hp:ns<+:ns++[(lv,l,r)]:=List.prefix_append _ _;have ht:=h.two;have hlen:(ns++[(lv,l,r)]).length=ns.length+1:=by simp
 have hnew:nd (ns++[(lv,l,r)]) ns.length=(lv,l,r):=nd_new ns _;have hmem:∀ i,2≤i→i<ns.length→nd ns i≠(lv,l,r):=fun i hi hil e=>hn (by
  rw[← e];unfold nd List.getD;rw[List.getElem?_eq_getElem hil];refine List.mem_iff_getElem.2 ⟨i - 2,by rw[List.length_drop];omega,?_⟩;rw[List.getElem_drop];simp only[Option.getD_some]
  congr 1;omega)
 refine⟨by omega,by rw[Es hp qom];exact h.e0,by rw[Es hp qom];exact h.e1,fun i hi hil=> ?_,fun i hi hil=> ?_,fun i hi hil=> ?_,fun i j hi hil hj hjl e=> ?_⟩
 ·by_cases e:i<ns.length
  ·rw[Ej hp e,G4 hp e,G5 hp e];exact h.lt i hi e
  ·have:i=ns.length:=by omega
   subst this;unfold lvl low hig;rw[hnew];exact⟨hN,hl,hr⟩
 ·by_cases e:i<ns.length
  ·rw[G4 hp e,G5 hp e];exact h.ne i hi e
  ·have:i=ns.length:=by omega
   subst this;unfold low hig;rw[hnew];exact hne
 ·by_cases e:i<ns.length
  ·obtain⟨_,a1,a2⟩:=h.lt i hi e;rw[G4 hp e,G5 hp e,Ej hp e,Ej hp qom,Ej hp qom];exact h.up i hi e
  ·have:i=ns.length:=by omega
   subst this;have e1:low (ns++[(lv,l,r)]) ns.length=l:=by unfold low;rw[hnew]
   have e2:hig (ns++[(lv,l,r)]) ns.length=r:=by unfold hig;rw[hnew]
   have e3:lvl (ns++[(lv,l,r)]) ns.length=lv:=by unfold lvl;rw[hnew]
   rw[e1,e2,e3,Ej hp hl,Ej hp hr];exact⟨h1,h2⟩
 ·by_cases e1:i<ns.length<;>by_cases e2:j<ns.length
  ·rw[Es hp e1,Es hp e2] at e;exact h.un i j hi e1 hj e2 e
  ·have:j=ns.length:=by omega
   subst this;rw[Es hp e1,hnew] at e;exact(hmem i hi e1 e).elim
  ·have:i=ns.length:=by omega
   subst this;rw[Es hp e2,hnew] at e;exact(hmem j hj e2 e.symm).elim
  ·omega
structure Is (N:Nat) (ns:Ns) (id lv:Nat) (R:(Nat→Bool)→Bool):Prop where
 lt:id<ns.length
 lv:lv≤lvl ns id
 sem:∀ α,sem ns id α=R α
theorem Is.gr {id lv:Nat}{R:(Nat→Bool)→Bool}(h:Is N ns id lv R)(hw:Wf N ns)(g:Gr N ns ms):Is N ms id lv R:=⟨Nat.lt_of_lt_of_le h.lt g.le,by rw[g.lvl h.lt];exact h.lv,fun α=>by rw[g.sem hw h.lt];exact h.sem α⟩
theorem Ek (h:Wf N ns){lv l r id:Nat}(hl:l<ns.length)(hr:r<ns.length)(hN:lv<N)(h1:lv<lvl ns l)(h2:lv<lvl ns r)(e:mkF most ns lv l r=some (id,ms)):Gr N ns ms∧Is N ms id lv (fun α=>if α lv then sem ns r α else sem ns l α):=by
 unfold mkF at e
 by_cases hlr:l=r
 ·rw[if_pos hlr] at e;obtain⟨rfl,rfl⟩:=Prod.mk.inj (Option.some.inj e);exact⟨.refl h,hl,Nat.le_of_lt h1,fun α=>by subst hlr;simp⟩
 ·rw[if_neg hlr] at e
  split at e
  ·rename_i k hk;obtain⟨rfl,rfl⟩:=Prod.mk.inj (Option.some.inj e);obtain⟨a1,a2,a3⟩:=G7 hk;rw[List.length_drop] at a2;have ht:=h.two;have hil:k<ns.length:=by omega
   have hn:nd ns k=(lv,l,r):=by
    rw[List.getElem?_drop,show 2+(k - 2)=k by omega] at a3;unfold nd List.getD;rw[a3];rfl
   refine⟨.refl h,hil,by unfold lvl;rw[hn];exact Nat.le_refl _,fun α=> ?_⟩;rw[Ds h a1 hil];have e1:lvl ns k=lv:=by unfold lvl;rw[hn]
   have e2:low ns k=l:=by unfold low;rw[hn]
   have e3:hig ns k=r:=by unfold hig;rw[hn]
   rw[e1,e2,e3]
  ·rename_i hk
   split at e
   ·obtain⟨rfl,rfl⟩:=Prod.mk.inj (Option.some.inj e);have hp:ns<+:ns++[(lv,l,r)]:=List.prefix_append _ _;have hw:=wf_new h hl hr hlr hN h1 h2 (fdF_none hk);have ht:=h.two;have hnew:nd (ns++[(lv,l,r)]) ns.length=(lv,l,r):=nd_new ns _;have e1:low (ns++[(lv,l,r)]) ns.length=l:=by unfold low;rw[hnew]
    have e2:hig (ns++[(lv,l,r)]) ns.length=r:=by unfold hig;rw[hnew]
    have e3:lvl (ns++[(lv,l,r)]) ns.length=lv:=by unfold lvl;rw[hnew]
    refine⟨⟨hw,hp⟩,by simp,by rw[e3];exact Nat.le_refl _,fun α=> ?_⟩;rw[Ds hw ht (by simp),e1,e2,e3,sem_pre h hw hp α _ hl,sem_pre h hw hp α _ hr]
   ·cases e
abbrev Kn:=List ((Nat × Nat) × Nat)
def apF (most:Nat) (e:Nat→Nat→Option Nat):Nat→Kn→Ns→Nat→Nat→Option (Nat × Kn × Ns)
 |0,_,_,_,_=>none
 |k+1,kn,ns,a,b=>
  match e a b with
  |some id=>some (id,kn,ns)
  |none=>
   match look kn (a,b) with
   |some id=>some (id,kn,ns)
   |none=>
    match apF most e k kn ns (ch ns a (min (lvl ns a) (lvl ns b)) false) (ch ns b (min (lvl ns a) (lvl ns b)) false) with
    |none=>none
    |some (l,kn1,ns1)=>
     match apF most e k kn1 ns1 (ch ns1 a (min (lvl ns a) (lvl ns b)) true) (ch ns1 b (min (lvl ns a) (lvl ns b)) true) with
     |none=>none
     |some (r,kn2,ns2)=>
      match mkF most ns2 (min (lvl ns a) (lvl ns b)) l r with
      |none=>none
      |some (id,ns3)=>some (id,upsert kn2 (a,b) id,ns3)
structure Ends (N:Nat) (e:Nat→Nat→Option Nat) (op:Bool→Bool→Bool):Prop where
 some:∀ {ns:Ns} {a b id:Nat},Wf N ns→a<ns.length→b<ns.length→e a b=some id→Is N ns id (min (lvl ns a) (lvl ns b)) fun α=>op (sem ns a α) (sem ns b α)
 none:∀ {a b:Nat},a<2→b<2→e a b≠Option.none
def KnOk (N:Nat) (op:Bool→Bool→Bool) (ns:Ns) (kn:Kn):Prop:=∀ a b id,look kn (a,b)=some id→a<ns.length∧b<ns.length∧Is N ns id (min (lvl ns a) (lvl ns b)) fun α=>op (sem ns a α) (sem ns b α)
theorem KnOk.gr {op:Bool→Bool→Bool}{kn:Kn}(h:KnOk N op ns kn)(hw:Wf N ns)(g:Gr N ns ms):KnOk N op ms kn:=fun a b id e=>by
 obtain⟨h1,h2,h3⟩:=h a b id e;refine⟨Nat.lt_of_lt_of_le h1 g.le,Nat.lt_of_lt_of_le h2 g.le,?_⟩;rw[g.lvl h1,g.lvl h2];have h4:=h3.gr hw g;exact⟨h4.lt,h4.lv,fun α=>by rw[h4.sem,g.sem hw h1,g.sem hw h2]⟩
theorem Js {e:Nat→Nat→Option Nat}{op:Bool→Bool→Bool}(he:Ends N e op):∀ (k:Nat) {kn kn':Kn} {ns ms:Ns} {a b id:Nat},Wf N ns→KnOk N op ns kn→a<ns.length→b<ns.length→apF most e k kn ns a b=some (id,kn',ms)→Gr N ns ms∧KnOk N op ms kn'∧Is N ms id (min (lvl ns a) (lvl ns b)) fun α=>op (sem ns a α) (sem ns b α)
 |0,kn,kn',ns,ms,a,b,id,_,_,_,_,e=>by cases e
 |k+1,kn,kn',ns,ms,a,b,id,hw,hk,ha,hb,h=>by
  rw[apF] at h
  split at h
  ·rename_i id' h1;obtain⟨rfl,h2⟩:=Prod.mk.inj (Option.some.inj h);obtain⟨rfl,rfl⟩:=Prod.mk.inj h2;exact⟨.refl hw,hk,he.some hw ha hb h1⟩
  ·rename_i h0
   split at h
   ·rename_i id' h1;obtain⟨rfl,h2⟩:=Prod.mk.inj (Option.some.inj h);obtain⟨rfl,rfl⟩:=Prod.mk.inj h2;exact⟨.refl hw,hk,(hk a b _ h1).2.2⟩
   ·split at h
    ·cases h
    ·rename_i l kn1 ns1 h1
     split at h
     ·cases h
     ·rename_i r kn2 ns2 h2
      split at h
      ·cases h
      ·rename_i id' ns3 h3;obtain⟨rfl,h4⟩:=Prod.mk.inj (Option.some.inj h);obtain⟨rfl,rfl⟩:=Prod.mk.inj h4;have hm:min (lvl ns a) (lvl ns b)<N:=by
        have h5:=hw.lvN ha;have h6:=hw.lvN hb;refine Nat.lt_of_le_of_ne qom fun e=>he.none ((hw.end ha).1 qom) ((hw.end hb).1 qom) h0
       generalize hlv:min (lvl ns a) (lvl ns b)=lv at *;obtain⟨g1,k1,i1⟩:=Js he k hw hk (Bv hw ha false) (Bv hw hb false) h1;have ha1:=Nat.lt_of_lt_of_le ha g1.le;have hb1:=Nat.lt_of_lt_of_le hb g1.le;obtain⟨g2,k2,i2⟩:=Js he k g1.w k1 (Bv g1.w ha1 true) (Bv g1.w hb1 true) h2;have u1:=Dc hw ha (lv:=lv) qom hm false;have u2:=Dc hw hb (lv:=lv) qom hm false;have u3:=Dc g1.w ha1 (lv:=lv) (by rw[g1.lvl ha];omega) hm true;have u4:=Dc g1.w hb1 (lv:=lv) (by rw[g1.lvl hb];omega) hm true;have j1:=i1.gr g1.w g2;obtain⟨g3,i3⟩:=Ek g2.w j1.lt i2.lt hm (by have:=j1.lv;omega) (by have:=i2.lv;omega) h3;have g:=(g1.trans g2).trans g3;have hI:Is N ns3 id' lv fun α=>op (sem ns a α) (sem ns b α):=⟨i3.lt,i3.lv,fun α=>by
        rw[i3.sem,j1.sem,i2.sem,Hr hw ha hm α,Hr hw hb hm α];cases hα:α lv
        ·simp
        ·simp only[if_true];rw[g1.ch ha,g1.ch hb,g1.sem hw (Bv hw ha true),g1.sem hw (Bv hw hb true)]⟩
       refine⟨g,fun a' b' id2 h5=> ?_,hI⟩;rw[Da] at h5
       split at h5
       ·rename_i e5;obtain⟨rfl,rfl⟩:=Prod.mk.inj e5;obtain rfl:=Option.some.inj h5;refine⟨Nat.lt_of_lt_of_le ha g.le,Nat.lt_of_lt_of_le hb g.le,?_⟩;rw[g.lvl ha,g.lvl hb,hlv];exact⟨hI.lt,hI.lv,fun α=>by rw[hI.sem,g.sem hw ha,g.sem hw hb]⟩
       ·exact(k2.gr g2.w g3) a' b' id2 h5
end
end Go.Proofs.YtkojjapnfdlddaaGreat
