/-
  A part of what LawU rests on: the logic, walks and plain laws. No condition.
-/
import Derived.Test.YtnafbfbfmgfcfaaGreatDoorGU1
import Derived.Test.YtnafbfbfmgfcfaaGreatDoorProg
import Derived.KernelRfl
import Derived.Shelf.Sort.Plain
import Derived.Shelf.Slices.CompactS
import Derived.Shelf.Slices.In.SortNone
import Derived.ChangeKeysEq
namespace Go.Proofs.YtnafbfbfmgfcfaaGreatDoor
open _root_.Go.Proofs.Tryz
open Go.RowKit
set_option linter.unusedVariables false
set_option linter.unusedSimpArgs false
set_option linter.unusedSectionVars false
set_option maxRecDepth 100000
theorem Gx:∀ {l:List Value} {i:Nat} {v:Value},i<l.length->SetN l i v (l.set i v)
 |[],i,v,h=>by simp at h
 |x::l,0,v,_=> .h
 |x::l,i+1,v,h=> .t (Gx (by simpa using h))
theorem setL_get {w k:Nat}{u:Nat}(h:k<4){c:Nat}(he:(encSet w).set k (.int .u64 (u:Int))=encSet c):SetN (encSet w) k (.int .u64 (u:Int)) (encSet c):=by
 rw[<- he];exact Gx (by simpa using h)
section
variable {P:Program} {w0:World} {L:Fm} {ty t T:TypeId} {x y:Operand} {H H':List (Nat × Obj)}
theorem eff_sSet {b w c u:Nat}{k:Int}(hx:Ev L x (.pointer (some ⟨b,0+k.toNat*1,none⟩)))(hy:Ev L y (.int .u64 (u:Int)))(hz:∀ w,(sizeOf t).run P w= .ok 1 w)(hk:k.toNat<4)(he:(encSet w).set k.toNat (.int .u64 (u:Int))=encSet c)
  (hu:Upd H b (Cl (encSet w) T) (Cl (encSet c) T) H'):Eff P w0 (.store t x y) ty L H (Still undef H'):=by
 rw[show 0+k.toNat*1=k.toNat by omega] at hx;exact Dz hx hy U hz (setL_get hk he) hu
theorem eff_each {f b:Nat}{n:Int}{o:Obj}{cap:List Value}{ts:Array TypeId}{F1 F2:List (Nat × Obj)}(hx:Ev L x (.func (.func f) #[] cap.toArray))(hy:Ev L y (.int .i64 n))(hf:∀ args w,(callFunc f args).run P w= .ok (.enter f args) w)
  (hs:FSpec P w0 f (.int .i64 n::cap).toArray (F1++((b,o)::H)) (fun _ H'=>H'=F2++((b,o)::H))):Eff P w0 (.call {callee:= .value x,args:= #[y],argTypes:=ts}) ty L ((b,o)::(F1++H)) (fun _ H'=>H'=(b,o)::(F2++H)):=by
 refine(Ef (xs:=[y]) (vs:=[.int .i64 n]) hx (.cons hy .nil) hf hs).perm List.perm_middle.symm ?_;rintro v _ rfl;exact⟨_,List.perm_middle,rfl⟩
end
theorem with_set {w n:Nat}(hn:n<64):(encSet w).set ((n:Int) / 64).toNat (.int .u64 ((wd w (n / 64)|||2 ^ (n % 64):Nat):Int))=encSet (w|||2 ^ n):=by
 rw[show ((n:Int) / 64).toNat=0 by omega,show n / 64=0 by omega,show n % 64=n by omega]
 rfl
theorem or_set {w v c k:Nat}(hk:k<4)(hc:c=if k=0 then w else w|||v):(encSet c).set (k:Int).toNat (.int .u64 ((wd c k|||wd v k:Nat):Int))=encSet (w|||v):=by
 match k,hk with
 |0,_=>subst hc;rfl
 |1,_=>simp[hc,wd]
 |2,_=>simp[hc,wd]
 |3,_=>simp[hc,wd]
theorem meets_no {w v i:Nat}(h:w &&& v=0):((wd w i &&& wd v i:Nat):Int)=0:=by
 unfold wd;split
 ·rw[h];rfl
 ·rfl
theorem pow_lt64 {n:Nat}(h:n<64):2 ^ n<2 ^ 64:=Nat.pow_lt_pow_right qom h
theorem with_s {w0:World}{H:List (Nat × Obj)}(w:Nat)(hw:w<2 ^ 64)(n:Nat)(hn:n<64):
  FSpec prog w0 89 #[.agg (encSet w).toArray, .int .i64 (n:Int)] H (Still (.agg (encSet (w|||2 ^ n)).toArray) H):=by
 refine Az func89 U ntmps89 U ?_;have hw1:= @Kw w (n / 64) hw;refine rD tb 2 U (e_ (Lt U cs_) ?_ U);rintro _ _ ⟨n2,rfl,rfl⟩;refine e_ (Ap zeroValue151 cs_) ?_ U;rintro _ _ ⟨n4,rfl,rfl⟩;refine rO tb 3 U (B9 9 [(0,true),(1,true),(2,true),(3,true),(4,true),(5,true),(6,true),(7,true),(8,true)] _ mixd qkr sb0 ?_ By);refine rP tb 1 U (o_y U (yl_quo (T U) An qom) ?_ U Ac);refine o_y U (Cm (T U) (T U) runUnderlying151 sizeOf149 qom) ?_ U Ac;refine o_y U (Lo U isAgg149 (by first|exact c_o|exact Hh qom fdd)) ?_ U Ac;refine rP tb 1 U (o_y U (yl_rem (T U) An qom) ?_ U Ac);refine o_y U (yl_shl1 (n:=n % 64) qom An (T U)) ?_ U Ac;refine o_y U (yl_or64 (m:=wd w (n / 64)) (n:=2 ^ (n % 64)) hw1 (pow_lt64 qom) (T U) (T U)) ?_ U Ac;refine o_y U (Cm (T U) (T U) runUnderlying151 sizeOf149 qom) ?_ U Ac;refine Bj U (e_ (eff_sSet (w:=w) (c:=w|||2 ^ n) (T U) (T U) sizeOf149 qom (with_set hn) (by(repeat (first|exact Upd.h|apply Upd.t|apply D7));done)) ?_ U);rintro _ _ ⟨rfl,rfl⟩;refine rO tb 4 U ?_;refine y_ (Lp U isAgg151 sizeOf151 U (by first|exact A2|exact Hh qom fdd)) ?_ U
 first|refine A9 (Ls U U sizeOf151) U Ac ?_
 rintro _ _ ⟨rfl,rfl⟩;refine rO tb 3 U ?_;refine As U (.cellA (Aa U) isAgg151 sizeOf151 U (by first|exact A2|exact Hh qom fdd) .nil) ?_;exact⟨_,⟨rfl,rfl⟩,sbt⟩
theorem Ld {w0:World}{H:List (Nat × Obj)}(w:Nat)(hw:w<2 ^ 64)(v:Nat)(hv:v<2 ^ 64):
  FSpec prog w0 90 #[.agg (encSet w).toArray, .agg (encSet v).toArray] H (Still (.agg (encSet (w|||v)).toArray) H):=by
 refine Az func90 U ntmps90 U ?_;have ho:=Nat.or_lt_two_pow hw hv;refine rD tb 2 U (e_ (Lt U cs_) ?_ U);rintro _ _ ⟨n2,rfl,rfl⟩;refine e_ (Lt U cs_) ?_ U;rintro _ _ ⟨n3,rfl,rfl⟩;refine e_ (Ap zeroValue151 cs_) ?_ U;rintro _ _ ⟨n4,rfl,rfl⟩;refine rO tb 9 U ?_;refine Bz (X:=Nat × Nat) (V:=fun ⟨i,c⟩=>[(6, .int .i64 (i:Nat))]) (C:=[(2,_),(3,_),(4,_)]) (G:=fun ⟨i,c⟩=>(n4,Cl (encSet 0) 151)::(n3,Cl (encSet v) 151)::(n2,Cl (encSet c) 151)::H) (φ:=fun ⟨i,c⟩=>i<=4/\c=if i=0 then w else w|||v) (μ:=fun ⟨i,c⟩=>4 - i) (x0:=(0,w)) ?_ (kg U) ⟨atd,trivial⟩ sb0 ?_
 ·exact⟨Nat.zero_le _,rfl⟩
 rintro⟨i,c⟩ ⟨hi,hc⟩;refine rD tb 6 U ?_
 first|refine Ak (Aa U) (fun c7=> ?_) (fun c7=> ?_)|refine Au (Aa U) (fun c7=> ?_) (fun c7=> ?_)
 ·have hi4:i<4:=by omega
  have hc2:c<2 ^ 64:=by
   rw[hc]
   split
   ·exact hw
   ·exact ho
  refine rC tb 10 U (B9 8 [(0,true),(1,true),(2,true),(3,true),(4,true),(5,true),(6,true),(7,true)] _ mixd qkr sb0 ?_ By);refine rP tb 1 U (o_y U (Cm (T U) (T U) runUnderlying151 sizeOf149 qom) ?_ U Ac);refine o_y U (Lo U isAgg149 (by first|exact c_o|exact E6 hi4 fdd)) ?_ U Ac;refine rP tb 1 U (o_y U (Cm (T U) (T U) runUnderlying151 sizeOf149 qom) ?_ U Ac);refine o_y U (Lo U isAgg149 (by first|exact c_o|exact E6 hi4 fdd)) ?_ U Ac;refine o_y U (yl_or64 (m:=wd c i) (n:=wd v i) (Kw hc2) (Kw hv) (T U) (T U)) (o_y U (Cm (T U) (T U) runUnderlying151 sizeOf149 qom) ?_ U Ac) U Ac;refine Bj U (e_ (eff_sSet (w:=c) (c:=w|||v) (T U) (T U) sizeOf149 qom (or_set hi4 hc) (by(repeat (first|exact Upd.h|apply Upd.t|apply D7));done)) ?_ U);rintro _ _ ⟨rfl,rfl⟩;refine rO tb 4 U (y_ (Bd (T U) An qom) ?_ U);refine rO tb 2 U ?_;refine A8 ((i+1,w|||v)) ?_ ?_ ⟨atd,trivial⟩ (kg U) ?_
  ·exact⟨by omega,by rw[if_neg qom]⟩
  ·first|omega|(simp only[];omega)
  ·exact sbt
 ·refine rC tb 2 U (Aq (rX tb 4 U ?_));refine y_ (Lp U isAgg151 sizeOf151 U (by first|exact A2|exact E6 hi4 fdd)) ?_ U
  first|refine A9 (Ls U U sizeOf151) U Ac ?_
  rintro _ _ ⟨rfl,rfl⟩;refine rO tb 3 U ?_;refine As U (.cellA (Aa U) isAgg151 sizeOf151 U (by first|exact A2|exact E6 hi4 fdd) .nil) ?_;exact⟨_,⟨by rw[hc,if_neg qom];rfl,rfl⟩,sbt⟩
theorem meets_s {w0:World}{H:List (Nat × Obj)}(w:Nat)(hw:w<2 ^ 64)(v:Nat)(hv:v<2 ^ 64):
  FSpec prog w0 91 #[.agg (encSet w).toArray, .agg (encSet v).toArray] H (Still (.bool (decide (¬ w &&& v=0))) H):=by
 refine Az func91 U ntmps91 U (rD tb 2 U (e_ (Lt U cs_) ?_ U));rintro _ _ ⟨n2,rfl,rfl⟩;refine e_ (Lt U cs_) ?_ U;rintro _ _ ⟨n3,rfl,rfl⟩;refine rO tb 10 U ?_;refine Cb (X:=Nat) (V:=fun i=>[(6, .int .i64 (i:Nat))]) (C:=[(2,_),(3,_)]) (φ:=fun i=>i<=4/\(0<i->w &&& v=0)) (μ:=fun i=>4 - i) (x0:=0) ?_ (kg U) ⟨atd,trivial⟩ ?_
 ·exact⟨Nat.zero_le _,fun h=>by omega⟩
 rintro i ⟨hi,hc⟩;refine rD tb 6 U ?_
 first|refine Ak (Aa U) (fun c7=> ?_) (fun c7=> ?_)|refine Au (Aa U) (fun c7=> ?_) (fun c7=> ?_)
 ·refine rC tb 11 U (B9 8 [(0,true),(1,true),(2,true),(3,true),(4,true),(5,true),(6,true),(7,true)] _ mixd qkr sb0 ?_ By);refine rP tb 1 U (o_y U (Cm (T U) (T U) runUnderlying151 sizeOf149 qom) ?_ U Ac);refine o_y U (Lo U isAgg149 (by first|exact c_o|exact E6 qom fdd)) ?_ U Ac;refine rP tb 1 U (o_y U (Cm (T U) (T U) runUnderlying151 sizeOf149 qom) ?_ U Ac);refine o_y U (Lo U isAgg149 (by first|exact c_o|exact E6 qom fdd)) ?_ U Ac;refine o_y U (yl_and64 (m:=wd w i) (n:=wd v i) (Kw hw) (Kw hv) (T U) (T U)) (rP tb 1 U (Bj U (rO tb 2 U ?_))) U Ac
  first|refine Ak (Aa U) (fun c16=> ?_) (fun c16=> ?_)|refine Au (Aa U) (fun c16=> ?_) (fun c16=> ?_)
  ·refine rC tb 8 U (Bc (rX tb 2 U (As U (Ll U) ?_)));exact⟨_,⟨vbool (by symm;exact decide_eq_true fun h=>c16 (meets_no h)),rfl⟩,sbt⟩
  ·refine rC tb 4 U (y_ (Bd (T U) An qom) ?_ U);refine rO tb 2 U ?_;refine A8 (i+1) ?_ ?_ ⟨atd,trivial⟩ (kg U) ?_
   ·refine⟨by omega,fun _=> ?_⟩
    by_cases e:i=0
    ·subst e;have h2:(wd w 0 &&& wd v 0:Nat)=0:=by omega
     exact h2
    ·exact hc qom
   ·first|omega|(simp only[];omega)
   ·exact sbt
 ·refine rC tb 2 U (Aq (rX tb 8 U (As U (Ll U) ?_)));exact⟨_,⟨vbool (by symm;exact decide_eq_false fun h=>h (hc qom)),rfl⟩,sbt⟩
theorem each_s {w0:World}{H:List (Nat × Obj)}(w:Nat)(hw:w<2 ^ 64)(f:FuncId)(cap:List Value)(hf:∀ args w,(callFunc f args).run prog w= .ok (.enter f args) w)(F:Nat->List (Nat × Obj))(hy:∀ n,n<64->w.testBit n=true->∀ H1,H.Sublist H1->FSpec prog w0 f (.int .i64 (n:Int)::cap).toArray (F n++H1) (fun _ H'=>H'=F (n+1)++H1))(hno:∀ n,w.testBit n=false->F (n+1)=F n):
  FSpec prog w0 87 #[.agg (encSet w).toArray, .func (.func f) #[] cap.toArray] (F 0++H) (fun _ H'=>H'=F 256++H):=by
 refine Az func87 U ntmps87 U (rD tb 2 U (e_ (Lt U cs_) ?_ U));rintro _ _ ⟨n2,rfl,rfl⟩;refine rO tb 8 U ?_;refine Bz (X:=Nat) (V:=fun i=>[(5, .int .i64 (i:Nat))]) (C:=[(1,_),(2,_)]) (G:=fun i=>(n2,Cl (encSet w) 151)::(F i++H)) (φ:=fun i=>i<=256) (μ:=fun i=>256 - i) (x0:=0) ?_ (kg U) ⟨atd,trivial⟩ sb0 ?_
 ·exact Nat.zero_le _
 rintro i hi;refine rD tb 6 U ?_
 first|refine Ak (Aa U) (fun c6=> ?_) (fun c6=> ?_)|refine Au (Aa U) (fun c6=> ?_) (fun c6=> ?_)
 ·refine rC tb 12 U (y_ (Lp U isAgg151 sizeOf151 U (by first|exact A2)) ?_ U);refine rO tb 1 U (y_ (Bb (qe2 U U) call140 (fun H' hs=>has_s w hw i qom)) ?_ U);refine rO tb 2 U ?_
  first|refine Ak (Aa U) (fun c10=> ?_) (fun c10=> ?_)|refine Au (Aa U) (fun c10=> ?_) (fun c10=> ?_)
  ·have hi64:i<64:=Classical.byContradiction fun hge=>by
    rw[Nat.testBit_lt_two_pow (Nat.lt_of_lt_of_le hw (Nat.pow_le_pow_right qom qom))] at c10;cases c10
   refine rC tb 3 U (e_ (eff_each (F1:=F i) (F2:=F (i+1)) (T U) (T U) hf (hy i hi64 c10 _ (List.sublist_cons_self _ _))) ?_ U);rintro _ _ rfl;refine rO tb 4 U (y_ (Bd (T U) An qom) ?_ U);refine rO tb 2 U ?_;refine A8 (i+1) ?_ ?_ ⟨atd,trivial⟩ (kg U) ?_
   ·show i+1<=_;omega
   ·first|omega|(simp only[];omega)
   ·first|(simp only[hno i c10];exact sbt)|exact sbt
  ·refine rC tb 4 U (y_ (Bd (T U) An qom) ?_ U);refine rO tb 2 U ?_;refine A8 (i+1) ?_ ?_ ⟨atd,trivial⟩ (kg U) ?_
   ·show i+1<=_;omega
   ·first|omega|(simp only[];omega)
   ·first|(simp only[hno i c10];exact sbt)|exact sbt
 ·refine rC tb 2 U (Aq (rX tb 1 U (Ea U .nil ?_)));have hi2:i=256:=by omega
  subst hi2;exact⟨_,rfl,sbt⟩
inductive Re
 |emp
 |nod (s:ByteArray)
 |any
 |seq (a b:Re)
 |alt (a b:Re)
 |star (a:Re)
inductive Rxm
 |mk (kind:Int) (node:ByteArray) (q:Option Addr) (cap:Nat) (args:List Rxm)
instance:Inhabited Rxm:=⟨.mk 0 ⟨#[]⟩ none 0 []⟩
def Rxm.kind:Rxm->Int
 | .mk k _ _ _ _=>k
def Rxm.node:Rxm->ByteArray
 | .mk _ s _ _ _=>s
def Rxm.q:Rxm->Option Addr
 | .mk _ _ q _ _=>q
def Rxm.cap:Rxm->Nat
 | .mk _ _ _ c _=>c
def Rxm.args:Rxm->List Rxm
 | .mk _ _ _ _ xs=>xs
def encRx (m:Rxm):List Value:=[.int .i64 m.kind, .string m.node, .slice m.q m.args.length m.cap]
inductive RxM (w0:World) (H:List (Nat × Obj)):Rxm->Prop
 |mk {k:Int} {s:ByteArray} {q:Option Addr} {c:Nat} {xs:List Rxm}:Arr w0 H q 3 encRx xs->(∀ a,a∈xs->RxM w0 H a)->s.size<=9223372036854775807->xs.length<=9223372036854775807->RxM w0 H (.mk k s q c xs)
theorem RxM.mono {w0:World}{H H':List (Nat × Obj)}{m:Rxm}(h:RxM w0 H m)(hs:H.Sublist H':=by exact sbt):RxM w0 H' m:=by
 induction h with
 |mk h1 _ h3 h4 ih=>exact .mk (h1.mono hs) ih h3 h4
inductive Is:Rxm->Re->Prop
 |emp {q c}:Is (.mk 1 ⟨#[]⟩ q c []) .emp
 |nod {q c s}:s.size≠0->Is (.mk 2 s q c []) (.nod s)
 |any {q c}:Is (.mk 3 ⟨#[]⟩ q c []) .any
 |seq {q c a b x y}:Is a x->Is b y->Is (.mk 4 ⟨#[]⟩ q c [a,b]) (.seq x y)
 |alt {q c a b x y}:Is a x->Is b y->Is (.mk 5 ⟨#[]⟩ q c [a,b]) (.alt x y)
 |star {q c a x}:Is a x->Is (.mk 6 ⟨#[]⟩ q c [a]) (.star x)
structure Tr where
 names:List ByteArray
 fol:List Nat
structure En where
 first:Nat
 last:Nat
 emp:Bool
def Re.lv:Re->Nat
 | .emp=>0
 | .nod _=>1
 | .any=>1
 | .seq a b=>a.lv+b.lv
 | .alt a b=>a.lv+b.lv
 | .star a=>a.lv
def connK (t:Tr) (from' to k:Nat):Tr:={t with fol:=t.fol.mapIdx fun i f=>if i<k/\from'.testBit i then f|||to else f}
def conn (t:Tr) (from' to:Nat):Tr:=connK t from' to 256
def addF:Re->Tr->Tr × En
 | .emp,t=>(t,⟨0,0,true⟩)
 | .nod s,t=>(⟨t.names++[s],t.fol++[0]⟩,⟨2 ^ t.names.length,2 ^ t.names.length,false⟩)
 | .any,t=>(⟨t.names++[⟨#[]⟩],t.fol++[0]⟩,⟨2 ^ t.names.length,2 ^ t.names.length,false⟩)
 | .alt a b,t=>
  let x:=addF a t
  let y:=addF b x.1
  (y.1,⟨x.2.first|||y.2.first,x.2.last|||y.2.last,x.2.emp||y.2.emp⟩)
 | .seq a b,t=>
  let x:=addF a t
  let y:=addF b x.1
  (conn y.1 x.2.last y.2.first,⟨if x.2.emp then x.2.first|||y.2.first else x.2.first,if y.2.emp then y.2.last|||x.2.last else y.2.last,x.2.emp&&y.2.emp⟩)
 | .star a,t=>
  let x:=addF a t
  (conn x.1 x.2.last x.2.first,⟨x.2.first,x.2.last,true⟩)
structure TrOk (t:Tr):Prop where
 len:t.fol.length=t.names.length
 few:t.names.length<=64
 low:∀ f∈t.fol,f<2 ^ 64
theorem Dj (t:Tr)(a b k:Nat):(connK t a b k).fol.length=t.fol.length:=by simp[connK]
theorem connK_names (t:Tr)(a b k:Nat):(connK t a b k).names=t.names:=rfl
theorem connK_ok {t:Tr}(h:TrOk t){a b:Nat}(hb:b<2 ^ 64)(k:Nat):TrOk (connK t a b k):=by
 refine⟨by rw[Dj];exact h.len,h.few,fun f hf=> ?_⟩;simp only[connK,List.mem_mapIdx] at hf;obtain⟨i,hi,rfl⟩:=hf
 split
 ·exact Nat.or_lt_two_pow (h.low _ (List.getElem_mem _)) hb
 ·exact h.low _ (List.getElem_mem _)
theorem connK_zero (t:Tr)(a b:Nat):connK t a b 0=t:=by
 unfold connK;cases t;simp only[Tr.mk.injEq,true_and];apply List.ext_getElem (by simp);intro i h1 h2;simp
theorem connK_skip {t:Tr}{a b k:Nat}(h:a.testBit k=false):connK t a b (k+1)=connK t a b k:=by
 unfold connK;simp only[Tr.mk.injEq,true_and];apply List.ext_getElem (by simp);intro i h1 h2;simp only[List.getElem_mapIdx]
 by_cases e:i=k
 ·subst e;simp[h]
 ·have:(i<k+1)=(i<k):=by simp;omega
  simp only[this]
theorem connK_take {t:Tr}{a b k:Nat}(h:a.testBit k=true)(hk:k<t.fol.length):connK t a b (k+1)={connK t a b k with fol:=(connK t a b k).fol.set k (gd (connK t a b k).fol k|||b)}:=by
 have hg:gd (connK t a b k).fol k=gd t.fol k:=by
  rw[Ay (by rw[Dj];exact hk),Ay hk];simp[connK]
 rw[hg];unfold connK;simp only[Tr.mk.injEq,true_and];apply List.ext_getElem (by simp);intro i h1 h2;simp only[List.getElem_mapIdx,List.getElem_set]
 by_cases e:k=i
 ·subst e;simp[h,Ay hk]
 ·have:(i<k+1)=(i<k):=by simp;omega
  simp only[this,e,if_false]
theorem conn_ok {t:Tr}(h:TrOk t){a b:Nat}(hb:b<2 ^ 64):TrOk (conn t a b):=connK_ok h hb 256
theorem Du:∀ (e:Re) {t:Tr},TrOk t->t.names.length+e.lv<=64->TrOk (addF e t).1/\(addF e t).1.names.length=t.names.length+e.lv/\(addF e t).2.first<2 ^ (t.names.length+e.lv)/\(addF e t).2.last<2 ^ (t.names.length+e.lv)
 | .emp,t,h,hl=>⟨h,rfl,Nat.two_pow_pos _,Nat.two_pow_pos _⟩
 | .nod s,t,h,hl=>by
  simp only[Re.lv] at hl;refine⟨⟨by simp[addF,h.len],by simp[addF];omega,fun f hf=> ?_⟩,by simp[addF,Re.lv],?_,?_⟩
  ·simp only[addF,List.mem_append,List.mem_cons,List.not_mem_nil,or_false] at hf;rcases hf with hf|rfl
   ·exact h.low f hf
   ·exact Nat.two_pow_pos _
  ·exact Nat.pow_lt_pow_right qom (by simp[Re.lv])
  ·exact Nat.pow_lt_pow_right qom (by simp[Re.lv])
 | .any,t,h,hl=>by
  simp only[Re.lv] at hl;refine⟨⟨by simp[addF,h.len],by simp[addF];omega,fun f hf=> ?_⟩,by simp[addF,Re.lv],?_,?_⟩
  ·simp only[addF,List.mem_append,List.mem_cons,List.not_mem_nil,or_false] at hf;rcases hf with hf|rfl
   ·exact h.low f hf
   ·exact Nat.two_pow_pos _
  ·exact Nat.pow_lt_pow_right qom (by simp[Re.lv])
  ·exact Nat.pow_lt_pow_right qom (by simp[Re.lv])
 | .alt a b,t,h,hl=>by
  simp only[Re.lv] at hl ⊢;obtain⟨h1,h2,h3,h4⟩:=Du a h qom;obtain⟨k1,k2,k3,k4⟩:=Du b h1 qom;rw[h2,Nat.add_assoc] at k2 k3 k4;have p:2 ^ (t.names.length+a.lv)<=2 ^ (t.names.length+(a.lv+b.lv)):=Nat.pow_le_pow_right qom qom;exact⟨k1,k2,Nat.or_lt_two_pow qom k3,Nat.or_lt_two_pow qom k4⟩
 | .seq a b,t,h,hl=>by
  simp only[Re.lv] at hl ⊢;obtain⟨h1,h2,h3,h4⟩:=Du a h qom;obtain⟨k1,k2,k3,k4⟩:=Du b h1 qom;rw[h2,Nat.add_assoc] at k2 k3 k4;have p:2 ^ (t.names.length+a.lv)<=2 ^ (t.names.length+(a.lv+b.lv)):=Nat.pow_le_pow_right qom qom;have p2:2 ^ (t.names.length+(a.lv+b.lv))<=2 ^ 64:=Nat.pow_le_pow_right qom qom;refine⟨conn_ok k1 qom,by simp only[addF,conn,connK_names];exact k2,?_,?_⟩
  ·simp only[addF];split
   ·exact Nat.or_lt_two_pow qom k3
   ·omega
  ·simp only[addF];split
   ·exact Nat.or_lt_two_pow k4 qom
   ·exact k4
 | .star a,t,h,hl=>by
  simp only[Re.lv] at hl ⊢;obtain⟨h1,h2,h3,h4⟩:=Du a h qom;have p2:2 ^ (t.names.length+a.lv)<=2 ^ 64:=Nat.pow_le_pow_right qom qom;exact⟨conn_ok h1 qom,by simp only[addF,conn,connK_names];exact h2,h3,h4⟩
abbrev encEn (e:En):List Value:=[.int .u64 (e.first:Int), .int .u64 0, .int .u64 0, .int .u64 0, .int .u64 (e.last:Int), .int .u64 0, .int .u64 0, .int .u64 0, .bool e.emp]
def trH (nt:Nat) (d1 d2:Sl) (t:Tr):List (Nat × Obj):=(nt,Cl [slV d1 t.names.length,slV d2 t.fol.length] 148)::(slH d1 (t.names.flatMap encS) 9++slH d2 (t.fol.flatMap encSet) 151)
theorem tr_c1 {w0:World}{R:List (Nat × Obj)}{nt:Nat}{d1 d2:Sl}{t:Tr}:Cell w0 (trH nt d1 d2 t++R) ⟨nt,0,none⟩ (slV d1 t.names.length):=B6 Ba U
theorem Km {w0:World}{R:List (Nat × Obj)}{nt:Nat}{d1 d2:Sl}{t:Tr}:Cell w0 (trH nt d1 d2 t++R) ⟨nt,1,none⟩ (slV d2 t.fol.length):=B6 Ba U
theorem tr_a1 {w0:World}{R:List (Nat × Obj)}{nt:Nat}{d1 d2:Sl}{t:Tr}(h:SlOk d1 t.names.length 1):Arr w0 (trH nt d1 d2 t++R) (slQ d1) 1 encS t.names:=
 (A5 (w0:=w0) (enc:=encS) (sz:=1) (e:=9) (X:=slH d2 (t.fol.flatMap encSet) 151++R) (fun _=>rfl) h).mono (by unfold trH;rw[List.cons_append,List.append_assoc];exact List.sublist_cons_self _ _)
theorem Ix {w0:World}{R:List (Nat × Obj)}{nt:Nat}{d1 d2:Sl}{t:Tr}(h:SlOk d2 t.fol.length 4):Arr w0 (trH nt d1 d2 t++R) (slQ d2) 4 encSet t.fol:=
 (A5 (w0:=w0) (enc:=encSet) (sz:=4) (e:=151) (X:=R) (fun _=>rfl) h).mono (by unfold trH;rw[List.cons_append,List.append_assoc];exact(List.sublist_append_right _ _).trans (List.sublist_cons_self _ _))
theorem Ce {w0:World}{H:List (Nat × Obj)}{n o k:Nat}{l:List Value}{t:TypeId}(hf:Fnd H n (Cl l t)):Cells w0 H n o ((l.drop o).take k):=fun i v hi=>by
 rw[List.getElem?_take] at hi
 split at hi
 ·rw[List.getElem?_drop] at hi;exact B6 hf hi
 ·cases hi
theorem Kn (nt:Nat)(d1 d2:Sl)(t:Tr)(R:List (Nat × Obj)):trH nt d1 d2 t++R=(nt,Cl [slV d1 t.names.length,slV d2 t.fol.length] 148)::(slH d1 (t.names.flatMap encS) 9++(slH d2 (t.fol.flatMap encSet) 151++R)):=by
 unfold trH;rw[List.cons_append,List.append_assoc]
theorem Hj (nt:Nat)(d1 d2:Sl)(t:Tr)(s:ByteArray)(f:Nat)(R:List (Nat × Obj)):(nt,Cl [slV d1 (t.names.length+1),slV d2 (t.fol.length+1)] 148)::(slH d1 ((t.names++[s]).flatMap encS) 9++(slH d2 ((t.fol++[f]).flatMap encSet) 151++R))=trH nt d1 d2 ⟨t.names++[s],t.fol++[f]⟩++R:=by
 rw[Kn];simp
theorem eff_trf {P:Program}{w0:World}{L:Fm}{ty t0:TypeId}{x y:Operand}{R:List (Nat × Obj)}{nt n:Nat}{d1 d2:Sl}{t:Tr}{u:Value}(v:Nat)(hx:Ev L x (.pointer (some ⟨bq (slQ d2),oq (slQ d2)+n*4,none⟩)))(hy:Ev L y u)(hc:Cs u (encSet v))(hz:∀ w,(sizeOf t0).run P w= .ok 4 w)(hn:n<t.fol.length)(hok:SlOk d2 t.fol.length 4):
  Eff P w0 (.store t0 x y) ty L (trH nt d1 d2 t++R) (Still undef (trH nt d1 d2 {t with fol:=t.fol.set n v}++R)):=by
 rw[Kn,Kn];have h:=D2 (P:=P) (w0:=w0) (ty:=ty) (t:=t0) (e:=151) (enc:=encSet) v (fun _=>rfl) (.t (.a .h):LocL ((nt,Cl [slV d1 t.names.length,slV d2 t.fol.length] 148)::(slH d1 (t.names.flatMap encS) 9++(slH d2 (t.fol.flatMap encSet) 151++R))) _ _ _) hx hy hc U hz hn hok
 simpa using h
theorem conn1_s {w0:World}{R:List (Nat × Obj)}(nt:Nat)(d1 d2:Sl)(t:Tr)(hok1:SlOk d1 t.names.length 1)(hok2:SlOk d2 t.fol.length 4)(ht:TrOk t)(to n n2 n4:Nat)(hto:to<2 ^ 64)(h2:Fnd R n2 (Cl [.pointer (some ⟨nt,0,none⟩)] 145))(h4:Fnd R n4 (Cl (encSet to) 151))(hn:n<t.fol.length):
  FSpec prog w0 139 #[.int .i64 (n:Int), .pointer (some ⟨n2,0,none⟩), .pointer (some ⟨n4,0,none⟩)] (trH nt d1 d2 t++R) (fun _ H'=>H'=trH nt d1 d2 {t with fol:=t.fol.set n (gd t.fol n|||to)}++R):=by
 refine Az func139 U ntmps139 U ?_;have hg:=ht.low _ (Ao hn);refine rD tb 0 U (B9 15 [(0,true),(1,true),(2,true),(3,true),(4,true),(5,true),(6,true),(7,true),(8,true),(9,true),(10,true),(11,true),(12,true),(13,true),(14,true)] _ mixd qkr sb0 ?_ By);refine o_y U (Lo U isAgg145 (by first|exact c_o|exact c_o (hf:=A6 h2)|exact A2 (hf:=A6 h4)|exact Km|exact(Ix hok2).cs (i:=n) hn)) ?_ U Ac;refine rP tb 2 U (o_y U (Lo U isAgg146 (by first|exact c_o|exact c_o (hf:=A6 h2)|exact A2 (hf:=A6 h4)|exact Km|exact(Ix hok2).cs (i:=n) hn)) ?_ U Ac);refine rP tb 1 U (o_y U (Lo U isAgg145 (by first|exact c_o|exact c_o (hf:=A6 h2)|exact A2 (hf:=A6 h4)|exact Km|exact(Ix hok2).cs (i:=n) hn)) ?_ U Ac);refine rP tb 2 U (o_y U (Lo U isAgg146 (by first|exact c_o|exact c_o (hf:=A6 h2)|exact A2 (hf:=A6 h4)|exact Km|exact(Ix hok2).cs (i:=n) hn)) ?_ U Ac);refine rP tb 1 U (o_y U (Lq U U runUnderlying146 sizeOf151 qom (by first|exact rfl|exact(Ix (R:=[]) (w0:=w0) (nt:=nt) (d1:=d1) hok2).b (i:=n) hn)) ?_ U Ac);refine o_y U (Lp U isAgg151 sizeOf151 U (by first|exact A2|exact c_o (hf:=A6 h2)|exact A2 (hf:=A6 h4)|exact Km|exact(Ix hok2).cs (i:=n) hn)) ?_ U Ac;refine o_y U (Lp U isAgg151 sizeOf151 U (by first|exact A2|exact c_o (hf:=A6 h2)|exact A2 (hf:=A6 h4)|exact Km|exact(Ix hok2).cs (i:=n) hn)) ?_ U Ac;refine o_y U (Bb (qe2 U U) call90 (fun H' hs=>Ld _ hg to hto)) (o_y U (Lq U U runUnderlying146 sizeOf151 qom (by first|exact rfl|exact(Ix (R:=[]) (w0:=w0) (nt:=nt) (d1:=d1) hok2).b (i:=n) hn)) ?_ U Ac) U Ac;refine Bj U (e_ (eff_trf (gd t.fol n|||to) (T U) (T U) .agg sizeOf151 hn hok2) ?_ U);rintro _ _ ⟨rfl,rfl⟩;refine rO tb 1 U (Ea U .nil ?_);exact⟨_,rfl,sbt⟩
theorem connE_s {w0:World}{R:List (Nat × Obj)}(nt:Nat)(d1 d2:Sl)(t:Tr)(hok1:SlOk d1 t.names.length 1)(hok2:SlOk d2 t.fol.length 4)(ht:TrOk t)(fr to n2 n4:Nat)(hfr:fr<2 ^ t.names.length)(hto:to<2 ^ 64)(h2:Fnd R n2 (Cl [.pointer (some ⟨nt,0,none⟩)] 145))(h4:Fnd R n4 (Cl (encSet to) 151)):
  FSpec prog w0 87 #[.agg (encSet fr).toArray, .func (.func 139) #[] #[.pointer (some ⟨n2,0,none⟩), .pointer (some ⟨n4,0,none⟩)]] (trH nt d1 d2 t++R) (fun v H'=>∃ x:Unit,True/\H'=trH nt d1 d2 (conn t fr to)++R):=by
 have h64:fr<2 ^ 64:=Nat.lt_of_lt_of_le hfr (Nat.pow_le_pow_right qom ht.few);have h:=each_s (w0:=w0) (H:=R) fr h64 139 [.pointer (some ⟨n2,0,none⟩), .pointer (some ⟨n4,0,none⟩)] call139 (fun i=>trH nt d1 d2 (connK t fr to i)) (fun n hn hb H1 hs=>by
  have hlt:n<t.fol.length:=by
   rw[ht.len];refine Classical.byContradiction fun hge=> ?_
   rw[Nat.testBit_lt_two_pow (Nat.lt_of_lt_of_le hfr (Nat.pow_le_pow_right qom qom))] at hb;cases hb
  rw[connK_take hb hlt];exact conn1_s nt d1 d2 (connK t fr to n) hok1 (by rw[Dj];exact hok2) (connK_ok ht hto n) to n n2 n4 hto (h2.mono hs) (h4.mono hs) (by rw[Dj];exact hlt)) (fun n hb=>by rw[connK_skip hb])
 rw[connK_zero] at h;exact h.mono fun v H' e=>⟨(),trivial,e⟩
theorem conn_s {w0:World}{R:List (Nat × Obj)}(nt:Nat)(d1 d2:Sl)(t:Tr)(hok1:SlOk d1 t.names.length 1)(hok2:SlOk d2 t.fol.length 4)(ht:TrOk t)(fr to n2:Nat)(hfr:fr<2 ^ t.names.length)(hto:to<2 ^ 64)(h2:Fnd R n2 (Cl [.pointer (some ⟨nt,0,none⟩)] 145)):
  FSpec prog w0 138 #[.agg (encSet fr).toArray, .agg (encSet to).toArray, .pointer (some ⟨n2,0,none⟩)] (trH nt d1 d2 t++R) (fun v H'=>∃ x:Unit,True/\H'=trH nt d1 d2 (conn t fr to)++R):=by
 refine Az func138 U ntmps138 U (rD tb 2 U (e_ (Lt U cs_) ?_ U));rintro _ _ ⟨n3,rfl,rfl⟩;refine e_ (Lt U cs_) ?_ U;rintro _ _ ⟨n4,rfl,rfl⟩;refine rO tb 3 U (y_ (Lp U isAgg151 sizeOf151 U (by first|exact A2)) ?_ U);refine y_ (Cg (.cons (T U) (.cons (T U) .nil))) (e_ (A1 (qe2 U U) call87 (spec_atL (connE_s nt d1 d2 t hok1 hok2 ht fr to n2 n4 hfr hto (Av (Av h2)) Ba) qlc)) ?_ U) U;rintro _ _ ⟨_,_,rfl⟩;refine rO tb 1 U (Ea U .nil ?_);exact⟨_,⟨(),trivial,rfl⟩,sbt⟩
theorem Ko  (w:World):(Instr.build 151 #[]).run prog w= .ok (.agg #[.int .u64 0, .int .u64 0, .int .u64 0, .int .u64 0]) w:=by kernel_rfl
theorem Fv (a0:Int)(a1:Int)(a2:Int)(a3:Int)(a4:Int)(a5:Int)(a6:Int)(a7:Int)(w:World):(Instr.build 153 #[(0, .agg #[.int .u64 a0, .int .u64 a1, .int .u64 a2, .int .u64 a3]),(1, .agg #[.int .u64 a4, .int .u64 a5, .int .u64 a6, .int .u64 a7])]).run prog w= .ok (.agg #[.int .u64 a0, .int .u64 a1, .int .u64 a2, .int .u64 a3, .int .u64 a4, .int .u64 a5, .int .u64 a6, .int .u64 a7, .bool false]) w:=by kernel_rfl
theorem bd88_2 (a0:Bool)(w:World):(Instr.build 153 #[(2, .bool a0)]).run prog w= .ok (.agg #[.int .u64 0, .int .u64 0, .int .u64 0, .int .u64 0, .int .u64 0, .int .u64 0, .int .u64 0, .int .u64 0, .bool a0]) w:=by kernel_rfl
theorem Gy (a0:ByteArray)(w:World):(Instr.buildSlice 68 1 #[(0, .string a0)]).run prog w= .ok (.slice (some ⟨w.heap.size,0,none⟩) 1 1) (w.alloc (Cl [.string a0] 9)):=by kernel_rfl
theorem Fw (a0:Int)(a1:Int)(a2:Int)(a3:Int)(w:World):(Instr.buildSlice 146 1 #[(0, .agg #[.int .u64 a0, .int .u64 a1, .int .u64 a2, .int .u64 a3])]).run prog w= .ok (.slice (some ⟨w.heap.size,0,none⟩) 1 1) (w.alloc (Cl [.int .u64 a0, .int .u64 a1, .int .u64 a2, .int .u64 a3] 151)):=by kernel_rfl
def AddS (w0:World) (m:Rxm) (e:Re):Prop:=∀ (R:List (Nat × Obj)) (nt:Nat) (d1 d2:Sl) (t:Tr),RxM w0 R m->SlOk d1 t.names.length 1->SlOk d2 t.fol.length 4->TrOk t->t.names.length+e.lv<=64->
  FSpec prog w0 86 #[.pointer (some ⟨nt,0,none⟩), .agg (encRx m).toArray] (trH nt d1 d2 t++R) (fun v H'=>∃ d:Sl × Sl,(v= .agg (encEn (addF e t).2).toArray/\SlOk d.1 (addF e t).1.names.length 1/\SlOk d.2 (addF e t).1.fol.length 4)/\H'=trH nt d.1 d.2 (addF e t).1++R)
theorem with0_s {w0:World}{H:List (Nat × Obj)}(n:Nat)(hn:n<64):FSpec prog w0 89 #[.agg (encSet 0).toArray, .int .i64 (n:Int)] H (Still (.agg (encSet (2 ^ n)).toArray) H):=by
 have h:=with_s (w0:=w0) (H:=H) 0 (Nat.two_pow_pos _) n hn;rw[Nat.zero_or] at h;exact h
theorem add_nod {w0:World}{q:Option Addr}{c:Nat}{s:ByteArray}:AddS w0 (.mk 2 s q c []) (.nod s):=by
 intro R nt d1 d2 t hM hok1 hok2 ht hl;show FSpec prog w0 86 #[.pointer (some ⟨nt,0,none⟩), .agg #[.int .i64 2, .string s, .slice q 0 c]] (trH nt d1 d2 t++R) _;simp only[Re.lv] at hl;rw[Kn];refine Az func86 U ntmps86 U (rD tb 2 U (e_ (Lt U cs_) ?_ U));rintro _ _ ⟨n2,rfl,rfl⟩;refine e_ (Lt U cs_) ?_ U;rintro _ _ ⟨n3,rfl,rfl⟩;refine e_ (Ap zeroValue153 cs_) ?_ U;rintro _ _ ⟨n4,rfl,rfl⟩;refine rO tb 4 U (y_ (Cg (.cons (T U) .nil)) (rO tb 7 U (y_ (Lo U isAgg3 (by first|exact c_o)) ?_ U)) U);refine rO tb 16 U (y_ (Bg .nil (Ko)) (y_ (Lo U isAgg145 (by first|exact c_o)) ?_ U) U);refine rO tb 2 U (y_ (Lo U isAgg68 (by first|exact c_o)) ?_ U);refine rO tb 1 U (y_ (Bb (qe2 U U) call89 (fun H' hs=>with0_s t.names.length qom)) ?_ U);refine e_ (Ap zeroValue151 cs_) ?_ U;rintro _ _ ⟨n6,rfl,rfl⟩
 first|refine A9 (Ls U U sizeOf151) U Ac ?_
 rintro _ _ ⟨rfl,rfl⟩;refine rO tb 3 U (Jm 19 22 ((n6,Cl (encSet (2 ^ t.names.length)) 151)::(n4,Cl [.int .u64 0, .int .u64 0, .int .u64 0, .int .u64 0, .int .u64 0, .int .u64 0, .int .u64 0, .int .u64 0, .bool false] 153)::(n3,Cl [.int .i64 2, .string s, .slice q 0 c] 32)::(n2,Cl [.pointer (some ⟨nt,0,none⟩)] 145)::R) ((n6,Cl (encSet (2 ^ t.names.length)) 151)::(n4,Cl [.int .u64 0, .int .u64 0, .int .u64 0, .int .u64 0, .int .u64 0, .int .u64 0, .int .u64 0, .int .u64 0, .bool false] 153)::(n3,Cl [.int .i64 2, .string s, .slice q 0 c] 32)::(n2,Cl [.pointer (some ⟨nt,0,none⟩)] 145)::(nt,Cl [slV d1 t.names.length,slV d2 t.fol.length] 148)::R) mixd qkr (by repeat (first|exact List.Sublist.refl _|apply List.Sublist.cons_cons|exact sbt)) (by repeat (first|exact List.Sublist.refl _|apply List.Sublist.cons_cons|exact sbt)) ?_ By);refine Ch [0] qkr U (i:=0) U qkr (Lo U isAgg145 (by first|exact c_o)) ?_ U Ac;refine w_y (i:=1) U qkr (Lo U isAgg145 (by first|exact c_o)) ?_ U Ac;refine Ch [2] qkr U (i:=2) U qkr (Lo U isAgg145 (by first|exact c_o)) ?_ U Ac;refine Ch [3] qkr U (i:=3) U qkr (Ck (T U)) ?_ U Ac;refine Ch [4] qkr U (i:=4) U qkr (Cj (T U) Ex) ?_ U Ac;refine Ch [5] qkr U (i:=5) U qkr (Lo U isAgg68 (by first|exact c_o)) ?_ U Ac;refine Ch [6] qkr U (i:=6) U qkr (Bt (T U) fa32_1) ?_ U Ac;refine Ch [7] qkr U (i:=7) U qkr (Lo U isAgg9 (by first|exact c_o)) ?_ U Ac;refine Ch [13,12,11,10] qkr U (i:=10) U qkr (Lo U isAgg145 (by first|exact c_o)) ?_ U Ac;refine Ch [13,12,11] qkr U (i:=11) U qkr (Ck (T U)) ?_ U Ac;refine Ch [13,12] qkr U (i:=12) U qkr (Bt (T U) Ey) ?_ U Ac;refine Ch [13] qkr U (i:=13) U qkr (Lo U isAgg146 (by first|exact c_o)) ?_ U Ac;refine Ch [16,15,14] qkr U (i:=14) U qkr (Bg .nil (Ko)) ?_ U Ac;refine Le (i:=8) (j:=15) qkr qkr ?_ ?_
 ·refine Eo U (A7 (.cons (T U) .nil) (Gy _)) ?_ U Ac qkr;rintro _ _ ⟨n32,rfl,rfl⟩;refine⟨sbt,?_⟩;refine Le (i:=9) (j:=15) qkr qkr ?_ ?_
  ·refine Eo U (Br (s) (by':=16) qlc (T U) (T U) runUnderlying68 runUnderlying68 sizeOf9 typeInfo9 U zeroValue9 U (fun _=>rfl) U hok1 qde qom) ?_ U Ac qkr;rintro _ _ ⟨e1,rfl,ho1,rfl⟩;refine⟨sbt,(De (i:=15) qkr qkr ?_)⟩;refine Eo U (A7 (.cons (T U) .nil) (Fw _ _ _ _)) ?_ U Ac qkr;rintro _ _ ⟨n39,rfl,rfl⟩;refine⟨sbt,(De (i:=16) qkr qkr ?_)⟩;refine Eo U (Br (0) (by':=32) qlc (T U) (T U) runUnderlying146 runUnderlying146 sizeOf151 typeInfo151 U zeroValue151 U (fun _=>rfl) U hok2 qde (by have:=ht.len;omega)) ?_ U Ac qkr;rintro _ _ ⟨e2,rfl,ho2,rfl⟩;refine⟨sbt,(Ch [18,17] qkr U (i:=17) U qkr (Ck (T U)) ?_ U Ac)⟩;refine Ch [18] qkr U (i:=18) U qkr (Cj (T U) Ex) ?_ U Ac;refine De (i:=19) qkr qkr ?_
   first|refine Fj U (Ls U U sizeOf68) ?_ U Ac qkr|refine Fj U (B1 (T U) (T U) U sizeOf68) ?_ U Ac qkr|refine Fj U (Bu (T U) (T U) U sizeOf68) ?_ U Ac qkr
   rintro _ _ ⟨rfl,rfl⟩;refine⟨sbt,(w_y (i:=20) U qkr (Ck (T U)) ?_ U Ac)⟩;refine w_y (i:=21) U qkr (Bt (T U) Ey) ?_ U Ac;refine H8 qkr U ?_
   first|refine A9 (Ls U U sizeOf146) U Ac ?_|refine A9 (B1 (T U) (T U) U sizeOf146) U Ac ?_|refine A9 (Bu (T U) (T U) U sizeOf146) U Ac ?_
   rintro _ _ ⟨rfl,rfl⟩;refine kO tb 2 [4,6] rfl U (rG tb 2 U (y_ (Lp U isAgg151 sizeOf151 U (by first|exact A2)) ?_ U));refine y_ (Lp U isAgg151 sizeOf151 U (by first|exact A2)) ?_ U;refine y_ (Bg (.cons (T U) (.cons (T U) .nil)) (Fv _ _ _ _ _ _ _ _)) ?_ U
   first|refine A9 (Ls U U sizeOf153) U Ac ?_
   rintro _ _ ⟨rfl,rfl⟩;refine rO tb 5 U (As U (.cellA (Aa U) isAgg153 sizeOf153 U (by first|exact A2) .nil) ?_);refine⟨trH nt e1 e2 ⟨t.names++[s],t.fol++[0]⟩++R,⟨(e1,e2),⟨rfl,by simpa[addF] using ho1,by simpa[addF] using ho2⟩,rfl⟩,?_⟩;rw[<- Hj];exact sbt
  ·refine Eo U (A7 (.cons (T U) .nil) (Fw _ _ _ _)) ?_ U Ac qkr;rintro _ _ ⟨n39,rfl,rfl⟩;refine⟨sbt,(De (i:=9) qkr qkr ?_)⟩;refine Eo U (Br (s) (by':=16) qlc (T U) (T U) runUnderlying68 runUnderlying68 sizeOf9 typeInfo9 U zeroValue9 U (fun _=>rfl) U hok1 qde qom) ?_ U Ac qkr;rintro _ _ ⟨e1,rfl,ho1,rfl⟩;refine⟨sbt,(De (i:=16) qkr qkr ?_)⟩;refine Eo U (Br (0) (by':=32) qlc (T U) (T U) runUnderlying146 runUnderlying146 sizeOf151 typeInfo151 U zeroValue151 U (fun _=>rfl) U hok2 qde (by have:=ht.len;omega)) ?_ U Ac qkr;rintro _ _ ⟨e2,rfl,ho2,rfl⟩;refine⟨sbt,(Ch [18,17] qkr U (i:=17) U qkr (Ck (T U)) ?_ U Ac)⟩;refine Ch [18] qkr U (i:=18) U qkr (Cj (T U) Ex) ?_ U Ac;refine De (i:=19) qkr qkr ?_
   first|refine Fj U (Ls U U sizeOf68) ?_ U Ac qkr|refine Fj U (B1 (T U) (T U) U sizeOf68) ?_ U Ac qkr|refine Fj U (Bu (T U) (T U) U sizeOf68) ?_ U Ac qkr
   rintro _ _ ⟨rfl,rfl⟩;refine⟨sbt,(w_y (i:=20) U qkr (Ck (T U)) ?_ U Ac)⟩;refine w_y (i:=21) U qkr (Bt (T U) Ey) ?_ U Ac;refine H8 qkr U ?_
   first|refine A9 (Ls U U sizeOf146) U Ac ?_|refine A9 (B1 (T U) (T U) U sizeOf146) U Ac ?_|refine A9 (Bu (T U) (T U) U sizeOf146) U Ac ?_
   rintro _ _ ⟨rfl,rfl⟩;refine kO tb 2 [4,6] rfl U (rG tb 2 U (y_ (Lp U isAgg151 sizeOf151 U (by first|exact A2)) ?_ U));refine y_ (Lp U isAgg151 sizeOf151 U (by first|exact A2)) ?_ U;refine y_ (Bg (.cons (T U) (.cons (T U) .nil)) (Fv _ _ _ _ _ _ _ _)) ?_ U
   first|refine A9 (Ls U U sizeOf153) U Ac ?_
   rintro _ _ ⟨rfl,rfl⟩;refine rO tb 5 U (As U (.cellA (Aa U) isAgg153 sizeOf153 U (by first|exact A2) .nil) ?_);refine⟨trH nt e1 e2 ⟨t.names++[s],t.fol++[0]⟩++R,⟨(e1,e2),⟨rfl,by simpa[addF] using ho1,by simpa[addF] using ho2⟩,rfl⟩,?_⟩;rw[<- Hj];exact sbt
 ·refine Eo U (A7 (.cons (T U) .nil) (Fw _ _ _ _)) ?_ U Ac qkr;rintro _ _ ⟨n39,rfl,rfl⟩;refine⟨sbt,(De (i:=8) qkr qkr ?_)⟩;refine Eo U (A7 (.cons (T U) .nil) (Gy _)) ?_ U Ac qkr;rintro _ _ ⟨n32,rfl,rfl⟩;refine⟨sbt,(De (i:=9) qkr qkr ?_)⟩;refine Eo U (Br (s) (by':=16) qlc (T U) (T U) runUnderlying68 runUnderlying68 sizeOf9 typeInfo9 U zeroValue9 U (fun _=>rfl) U hok1 qde qom) ?_ U Ac qkr;rintro _ _ ⟨e1,rfl,ho1,rfl⟩;refine⟨sbt,(De (i:=16) qkr qkr ?_)⟩;refine Eo U (Br (0) (by':=32) qlc (T U) (T U) runUnderlying146 runUnderlying146 sizeOf151 typeInfo151 U zeroValue151 U (fun _=>rfl) U hok2 qde (by have:=ht.len;omega)) ?_ U Ac qkr;rintro _ _ ⟨e2,rfl,ho2,rfl⟩;refine⟨sbt,(Ch [18,17] qkr U (i:=17) U qkr (Ck (T U)) ?_ U Ac)⟩;refine Ch [18] qkr U (i:=18) U qkr (Cj (T U) Ex) ?_ U Ac;refine De (i:=19) qkr qkr ?_
  first|refine Fj U (Ls U U sizeOf68) ?_ U Ac qkr|refine Fj U (B1 (T U) (T U) U sizeOf68) ?_ U Ac qkr|refine Fj U (Bu (T U) (T U) U sizeOf68) ?_ U Ac qkr
  rintro _ _ ⟨rfl,rfl⟩;refine⟨sbt,(w_y (i:=20) U qkr (Ck (T U)) ?_ U Ac)⟩;refine w_y (i:=21) U qkr (Bt (T U) Ey) ?_ U Ac;refine H8 qkr U ?_
  first|refine A9 (Ls U U sizeOf146) U Ac ?_|refine A9 (B1 (T U) (T U) U sizeOf146) U Ac ?_|refine A9 (Bu (T U) (T U) U sizeOf146) U Ac ?_
  rintro _ _ ⟨rfl,rfl⟩;refine kO tb 2 [4,6] rfl U (rG tb 2 U (y_ (Lp U isAgg151 sizeOf151 U (by first|exact A2)) ?_ U));refine y_ (Lp U isAgg151 sizeOf151 U (by first|exact A2)) ?_ U;refine y_ (Bg (.cons (T U) (.cons (T U) .nil)) (Fv _ _ _ _ _ _ _ _)) ?_ U
  first|refine A9 (Ls U U sizeOf153) U Ac ?_
  rintro _ _ ⟨rfl,rfl⟩;refine rO tb 5 U (As U (.cellA (Aa U) isAgg153 sizeOf153 U (by first|exact A2) .nil) ?_);refine⟨trH nt e1 e2 ⟨t.names++[s],t.fol++[0]⟩++R,⟨(e1,e2),⟨rfl,by simpa[addF] using ho1,by simpa[addF] using ho2⟩,rfl⟩,?_⟩;rw[<- Hj];exact sbt
theorem add_any {w0:World}{q:Option Addr}{c:Nat}:AddS w0 (.mk 3 ⟨#[]⟩ q c []) (.any):=by
 intro R nt d1 d2 t hM hok1 hok2 ht hl;show FSpec prog w0 86 #[.pointer (some ⟨nt,0,none⟩), .agg #[.int .i64 3, .string ⟨#[]⟩, .slice q 0 c]] (trH nt d1 d2 t++R) _;simp only[Re.lv] at hl;rw[Kn];refine Az func86 U ntmps86 U (rD tb 2 U (e_ (Lt U cs_) ?_ U));rintro _ _ ⟨n2,rfl,rfl⟩;refine e_ (Lt U cs_) ?_ U;rintro _ _ ⟨n3,rfl,rfl⟩;refine e_ (Ap zeroValue153 cs_) ?_ U;rintro _ _ ⟨n4,rfl,rfl⟩;refine rO tb 4 U (y_ (Cg (.cons (T U) .nil)) (rO tb 7 U (y_ (Lo U isAgg3 (by first|exact c_o)) ?_ U)) U);refine rO tb 19 U (y_ (Bg .nil (Ko)) (y_ (Lo U isAgg145 (by first|exact c_o)) ?_ U) U);refine rO tb 2 U (y_ (Lo U isAgg68 (by first|exact c_o)) ?_ U);refine rO tb 1 U (y_ (Bb (qe2 U U) call89 (fun H' hs=>with0_s t.names.length qom)) ?_ U);refine e_ (Ap zeroValue151 cs_) ?_ U;rintro _ _ ⟨n6,rfl,rfl⟩
 first|refine A9 (Ls U U sizeOf151) U Ac ?_
 rintro _ _ ⟨rfl,rfl⟩;refine rO tb 3 U (Jm 19 22 ((n6,Cl (encSet (2 ^ t.names.length)) 151)::(n4,Cl [.int .u64 0, .int .u64 0, .int .u64 0, .int .u64 0, .int .u64 0, .int .u64 0, .int .u64 0, .int .u64 0, .bool false] 153)::(n3,Cl [.int .i64 3, .string ⟨#[]⟩, .slice q 0 c] 32)::(n2,Cl [.pointer (some ⟨nt,0,none⟩)] 145)::R) ((n6,Cl (encSet (2 ^ t.names.length)) 151)::(n4,Cl [.int .u64 0, .int .u64 0, .int .u64 0, .int .u64 0, .int .u64 0, .int .u64 0, .int .u64 0, .int .u64 0, .bool false] 153)::(n3,Cl [.int .i64 3, .string ⟨#[]⟩, .slice q 0 c] 32)::(n2,Cl [.pointer (some ⟨nt,0,none⟩)] 145)::(nt,Cl [slV d1 t.names.length,slV d2 t.fol.length] 148)::R) mixd qkr (by repeat (first|exact List.Sublist.refl _|apply List.Sublist.cons_cons|exact sbt)) (by repeat (first|exact List.Sublist.refl _|apply List.Sublist.cons_cons|exact sbt)) ?_ By);refine Ch [0] qkr U (i:=0) U qkr (Lo U isAgg145 (by first|exact c_o)) ?_ U Ac;refine w_y (i:=1) U qkr (Lo U isAgg145 (by first|exact c_o)) ?_ U Ac;refine Ch [2] qkr U (i:=2) U qkr (Lo U isAgg145 (by first|exact c_o)) ?_ U Ac;refine Ch [3] qkr U (i:=3) U qkr (Ck (T U)) ?_ U Ac;refine Ch [4] qkr U (i:=4) U qkr (Cj (T U) Ex) ?_ U Ac;refine Ch [5] qkr U (i:=5) U qkr (Lo U isAgg68 (by first|exact c_o)) ?_ U Ac;refine Ch [6] qkr U (i:=6) U qkr (Bt (T U) fa32_1) ?_ U Ac;refine Ch [7] qkr U (i:=7) U qkr (Lo U isAgg9 (by first|exact c_o)) ?_ U Ac;refine Ch [13,12,11,10] qkr U (i:=10) U qkr (Lo U isAgg145 (by first|exact c_o)) ?_ U Ac;refine Ch [13,12,11] qkr U (i:=11) U qkr (Ck (T U)) ?_ U Ac;refine Ch [13,12] qkr U (i:=12) U qkr (Bt (T U) Ey) ?_ U Ac;refine Ch [13] qkr U (i:=13) U qkr (Lo U isAgg146 (by first|exact c_o)) ?_ U Ac;refine Ch [16,15,14] qkr U (i:=14) U qkr (Bg .nil (Ko)) ?_ U Ac;refine Le (i:=8) (j:=15) qkr qkr ?_ ?_
 ·refine Eo U (A7 (.cons (T U) .nil) (Gy _)) ?_ U Ac qkr;rintro _ _ ⟨n32,rfl,rfl⟩;refine⟨sbt,?_⟩;refine Le (i:=9) (j:=15) qkr qkr ?_ ?_
  ·refine Eo U (Br (⟨#[]⟩) (by':=16) qlc (T U) (T U) runUnderlying68 runUnderlying68 sizeOf9 typeInfo9 U zeroValue9 U (fun _=>rfl) U hok1 qde qom) ?_ U Ac qkr;rintro _ _ ⟨e1,rfl,ho1,rfl⟩;refine⟨sbt,(De (i:=15) qkr qkr ?_)⟩;refine Eo U (A7 (.cons (T U) .nil) (Fw _ _ _ _)) ?_ U Ac qkr;rintro _ _ ⟨n39,rfl,rfl⟩;refine⟨sbt,(De (i:=16) qkr qkr ?_)⟩;refine Eo U (Br (0) (by':=32) qlc (T U) (T U) runUnderlying146 runUnderlying146 sizeOf151 typeInfo151 U zeroValue151 U (fun _=>rfl) U hok2 qde (by have:=ht.len;omega)) ?_ U Ac qkr;rintro _ _ ⟨e2,rfl,ho2,rfl⟩;refine⟨sbt,(Ch [18,17] qkr U (i:=17) U qkr (Ck (T U)) ?_ U Ac)⟩;refine Ch [18] qkr U (i:=18) U qkr (Cj (T U) Ex) ?_ U Ac;refine De (i:=19) qkr qkr ?_
   first|refine Fj U (Ls U U sizeOf68) ?_ U Ac qkr|refine Fj U (B1 (T U) (T U) U sizeOf68) ?_ U Ac qkr|refine Fj U (Bu (T U) (T U) U sizeOf68) ?_ U Ac qkr
   rintro _ _ ⟨rfl,rfl⟩;refine⟨sbt,(w_y (i:=20) U qkr (Ck (T U)) ?_ U Ac)⟩;refine w_y (i:=21) U qkr (Bt (T U) Ey) ?_ U Ac;refine H8 qkr U ?_
   first|refine A9 (Ls U U sizeOf146) U Ac ?_|refine A9 (B1 (T U) (T U) U sizeOf146) U Ac ?_|refine A9 (Bu (T U) (T U) U sizeOf146) U Ac ?_
   rintro _ _ ⟨rfl,rfl⟩;refine kO tb 2 [4,6] rfl U (rG tb 2 U (y_ (Lp U isAgg151 sizeOf151 U (by first|exact A2)) ?_ U));refine y_ (Lp U isAgg151 sizeOf151 U (by first|exact A2)) ?_ U;refine y_ (Bg (.cons (T U) (.cons (T U) .nil)) (Fv _ _ _ _ _ _ _ _)) ?_ U
   first|refine A9 (Ls U U sizeOf153) U Ac ?_
   rintro _ _ ⟨rfl,rfl⟩;refine rO tb 5 U (As U (.cellA (Aa U) isAgg153 sizeOf153 U (by first|exact A2) .nil) ?_);refine⟨trH nt e1 e2 ⟨t.names++[⟨#[]⟩],t.fol++[0]⟩++R,⟨(e1,e2),⟨rfl,by simpa[addF] using ho1,by simpa[addF] using ho2⟩,rfl⟩,?_⟩;rw[<- Hj];exact sbt
  ·refine Eo U (A7 (.cons (T U) .nil) (Fw _ _ _ _)) ?_ U Ac qkr;rintro _ _ ⟨n39,rfl,rfl⟩;refine⟨sbt,(De (i:=9) qkr qkr ?_)⟩;refine Eo U (Br (⟨#[]⟩) (by':=16) qlc (T U) (T U) runUnderlying68 runUnderlying68 sizeOf9 typeInfo9 U zeroValue9 U (fun _=>rfl) U hok1 qde qom) ?_ U Ac qkr;rintro _ _ ⟨e1,rfl,ho1,rfl⟩;refine⟨sbt,(De (i:=16) qkr qkr ?_)⟩;refine Eo U (Br (0) (by':=32) qlc (T U) (T U) runUnderlying146 runUnderlying146 sizeOf151 typeInfo151 U zeroValue151 U (fun _=>rfl) U hok2 qde (by have:=ht.len;omega)) ?_ U Ac qkr;rintro _ _ ⟨e2,rfl,ho2,rfl⟩;refine⟨sbt,(Ch [18,17] qkr U (i:=17) U qkr (Ck (T U)) ?_ U Ac)⟩;refine Ch [18] qkr U (i:=18) U qkr (Cj (T U) Ex) ?_ U Ac;refine De (i:=19) qkr qkr ?_
   first|refine Fj U (Ls U U sizeOf68) ?_ U Ac qkr|refine Fj U (B1 (T U) (T U) U sizeOf68) ?_ U Ac qkr|refine Fj U (Bu (T U) (T U) U sizeOf68) ?_ U Ac qkr
   rintro _ _ ⟨rfl,rfl⟩;refine⟨sbt,(w_y (i:=20) U qkr (Ck (T U)) ?_ U Ac)⟩;refine w_y (i:=21) U qkr (Bt (T U) Ey) ?_ U Ac;refine H8 qkr U ?_
   first|refine A9 (Ls U U sizeOf146) U Ac ?_|refine A9 (B1 (T U) (T U) U sizeOf146) U Ac ?_|refine A9 (Bu (T U) (T U) U sizeOf146) U Ac ?_
   rintro _ _ ⟨rfl,rfl⟩;refine kO tb 2 [4,6] rfl U (rG tb 2 U (y_ (Lp U isAgg151 sizeOf151 U (by first|exact A2)) ?_ U));refine y_ (Lp U isAgg151 sizeOf151 U (by first|exact A2)) ?_ U;refine y_ (Bg (.cons (T U) (.cons (T U) .nil)) (Fv _ _ _ _ _ _ _ _)) ?_ U
   first|refine A9 (Ls U U sizeOf153) U Ac ?_
   rintro _ _ ⟨rfl,rfl⟩;refine rO tb 5 U (As U (.cellA (Aa U) isAgg153 sizeOf153 U (by first|exact A2) .nil) ?_);refine⟨trH nt e1 e2 ⟨t.names++[⟨#[]⟩],t.fol++[0]⟩++R,⟨(e1,e2),⟨rfl,by simpa[addF] using ho1,by simpa[addF] using ho2⟩,rfl⟩,?_⟩;rw[<- Hj];exact sbt
 ·refine Eo U (A7 (.cons (T U) .nil) (Fw _ _ _ _)) ?_ U Ac qkr;rintro _ _ ⟨n39,rfl,rfl⟩;refine⟨sbt,(De (i:=8) qkr qkr ?_)⟩;refine Eo U (A7 (.cons (T U) .nil) (Gy _)) ?_ U Ac qkr;rintro _ _ ⟨n32,rfl,rfl⟩;refine⟨sbt,(De (i:=9) qkr qkr ?_)⟩;refine Eo U (Br (⟨#[]⟩) (by':=16) qlc (T U) (T U) runUnderlying68 runUnderlying68 sizeOf9 typeInfo9 U zeroValue9 U (fun _=>rfl) U hok1 qde qom) ?_ U Ac qkr;rintro _ _ ⟨e1,rfl,ho1,rfl⟩;refine⟨sbt,(De (i:=16) qkr qkr ?_)⟩;refine Eo U (Br (0) (by':=32) qlc (T U) (T U) runUnderlying146 runUnderlying146 sizeOf151 typeInfo151 U zeroValue151 U (fun _=>rfl) U hok2 qde (by have:=ht.len;omega)) ?_ U Ac qkr;rintro _ _ ⟨e2,rfl,ho2,rfl⟩;refine⟨sbt,(Ch [18,17] qkr U (i:=17) U qkr (Ck (T U)) ?_ U Ac)⟩;refine Ch [18] qkr U (i:=18) U qkr (Cj (T U) Ex) ?_ U Ac;refine De (i:=19) qkr qkr ?_
  first|refine Fj U (Ls U U sizeOf68) ?_ U Ac qkr|refine Fj U (B1 (T U) (T U) U sizeOf68) ?_ U Ac qkr|refine Fj U (Bu (T U) (T U) U sizeOf68) ?_ U Ac qkr
  rintro _ _ ⟨rfl,rfl⟩;refine⟨sbt,(w_y (i:=20) U qkr (Ck (T U)) ?_ U Ac)⟩;refine w_y (i:=21) U qkr (Bt (T U) Ey) ?_ U Ac;refine H8 qkr U ?_
  first|refine A9 (Ls U U sizeOf146) U Ac ?_|refine A9 (B1 (T U) (T U) U sizeOf146) U Ac ?_|refine A9 (Bu (T U) (T U) U sizeOf146) U Ac ?_
  rintro _ _ ⟨rfl,rfl⟩;refine kO tb 2 [4,6] rfl U (rG tb 2 U (y_ (Lp U isAgg151 sizeOf151 U (by first|exact A2)) ?_ U));refine y_ (Lp U isAgg151 sizeOf151 U (by first|exact A2)) ?_ U;refine y_ (Bg (.cons (T U) (.cons (T U) .nil)) (Fv _ _ _ _ _ _ _ _)) ?_ U
  first|refine A9 (Ls U U sizeOf153) U Ac ?_
  rintro _ _ ⟨rfl,rfl⟩;refine rO tb 5 U (As U (.cellA (Aa U) isAgg153 sizeOf153 U (by first|exact A2) .nil) ?_);refine⟨trH nt e1 e2 ⟨t.names++[⟨#[]⟩],t.fol++[0]⟩++R,⟨(e1,e2),⟨rfl,by simpa[addF] using ho1,by simpa[addF] using ho2⟩,rfl⟩,?_⟩;rw[<- Hj];exact sbt
theorem add_emp {w0:World}{q:Option Addr}{c:Nat}:AddS w0 (.mk 1 ⟨#[]⟩ q c []) (.emp):=by
 intro R nt d1 d2 t hM hok1 hok2 ht hl;show FSpec prog w0 86 #[.pointer (some ⟨nt,0,none⟩), .agg #[.int .i64 1, .string ⟨#[]⟩, .slice q 0 c]] (trH nt d1 d2 t++R) _;refine Az func86 U ntmps86 U (rD tb 2 U (e_ (Lt U cs_) ?_ U));rintro _ _ ⟨n2,rfl,rfl⟩;refine e_ (Lt U cs_) ?_ U;rintro _ _ ⟨n3,rfl,rfl⟩;refine e_ (Ap zeroValue153 cs_) ?_ U;rintro _ _ ⟨n4,rfl,rfl⟩;refine rO tb 4 U (y_ (Cg (.cons (T U) .nil)) (rO tb 7 U (y_ (Lo U isAgg3 (by first|exact c_o)) ?_ U)) U);refine rO tb 43 U (y_ (Bg (.cons An .nil) (bd88_2 _)) ?_ U)
 first|refine A9 (Ls U U sizeOf153) U Ac ?_
 rintro _ _ ⟨rfl,rfl⟩;refine rO tb 3 U (As U (.cellA (Aa U) isAgg153 sizeOf153 U (by first|exact A2) .nil) ?_);exact⟨_,⟨(d1,d2),⟨rfl,hok1,hok2⟩,rfl⟩,sbt⟩
theorem Ei (a0:Int)(a1:Int)(a2:Int)(a3:Int)(a4:Int)(a5:Int)(a6:Int)(a7:Int)(a8:Bool)(w:World):(Instr.build 153 #[(0, .agg #[.int .u64 a0, .int .u64 a1, .int .u64 a2, .int .u64 a3]),(1, .agg #[.int .u64 a4, .int .u64 a5, .int .u64 a6, .int .u64 a7]),(2, .bool a8)]).run prog w= .ok (.agg #[.int .u64 a0, .int .u64 a1, .int .u64 a2, .int .u64 a3, .int .u64 a4, .int .u64 a5, .int .u64 a6, .int .u64 a7, .bool a8]) w:=by kernel_rfl
theorem B0 {β:Type}{P:Program}{w0:World}{f:FuncId}{args:Array Value}{H R:List (Nat × Obj)}{F:List (Nat × Obj)->List (Nat × Obj)}{φ:Value->β->Prop}{M':β->List (Nat × Obj)}(M:List (Nat × Obj))(hl:LocL H M R F)(h:FSpec P w0 f args (M++R) (fun v H'=>∃ x,φ v x/\H'=M' x++R)):FSpec P w0 f args H (fun v H'=>∃ x,φ v x/\H'=F (M' x)):=spec_atL h hl
theorem Arr.cs0 {w0:World}{H H':List (Nat × Obj)}{q:Option Addr}{a:Rxm}{l:List Rxm}(h:Arr w0 H q 3 encRx (a::l))(hs:H.Sublist H':=by exact sbt):Cells w0 H' (bq q) (oq q+(0:Int).toNat*3) (encRx a):=(h.mono hs).cs (i:=0) (by simp)
theorem Arr.cs1 {w0:World}{H H':List (Nat × Obj)}{q:Option Addr}{a b:Rxm}{l:List Rxm}(h:Arr w0 H q 3 encRx (a::b::l))(hs:H.Sublist H':=by exact sbt):Cells w0 H' (bq q) (oq q+(1:Int).toNat*3) (encRx b):=(h.mono hs).cs (i:=1) (by simp)
theorem Arr.b0 {w0:World}{H:List (Nat × Obj)}{q:Option Addr}{a:Rxm}{l:List Rxm}(h:Arr w0 H q 3 encRx (a::l)):Bas q:=h.b (i:=0) (by simp)
theorem add_alt {w0:World}{q:Option Addr}{c:Nat}{ma mb:Rxm}{a b:Re}(iha:AddS w0 ma a)(ihb:AddS w0 mb b):AddS w0 (.mk 5 ⟨#[]⟩ q c [ma,mb]) (.alt a b):=by
 intro R nt d1 d2 t hM hok1 hok2 ht hl;show FSpec prog w0 86 #[.pointer (some ⟨nt,0,none⟩), .agg #[.int .i64 5, .string ⟨#[]⟩, .slice q 2 c]] (trH nt d1 d2 t++R) _;simp only[Re.lv] at hl;obtain⟨hA,hMM,_,_⟩:=hM;have hMa:=hMM ma (by simp);have hMb:=hMM mb (by simp);obtain⟨ha1,ha2,ha3,ha4⟩:=Du a ht qom;obtain⟨hb1,hb2,hb3,hb4⟩:=Du b ha1 qom;have p1:2 ^ (t.names.length+a.lv)<=2 ^ 64:=Nat.pow_le_pow_right qom qom;have p2:2 ^ ((addF a t).1.names.length+b.lv)<=2 ^ 64:=Nat.pow_le_pow_right qom qom;refine Az func86 U ntmps86 U (rD tb 2 U (e_ (Lt U cs_) ?_ U));rintro _ _ ⟨n2,rfl,rfl⟩;refine e_ (Lt U cs_) ?_ U;rintro _ _ ⟨n3,rfl,rfl⟩;refine e_ (Ap zeroValue153 cs_) ?_ U;rintro _ _ ⟨n4,rfl,rfl⟩;refine rO tb 4 U (y_ (Cg (.cons (T U) .nil)) (rO tb 7 U (y_ (Lo U isAgg3 (by first|exact c_o)) ?_ U)) U);refine rO tb 31 U ?_;refine Fp (X:=Nat × Nat × Sl × Sl) (V:=fun ⟨m7,m8,e1,e2⟩=>[(7, .pointer (some ⟨m7,0,none⟩)),(8, .pointer (some ⟨m8,0,none⟩))]) (C:=[(3,_),(4,_),(5,_)]) (G:=fun ⟨m7,m8,e1,e2⟩=>(m8,Cl (encEn (addF b (addF a t).1).2) 153)::(m7,Cl (encEn (addF a t).2) 153)::(n4,Cl [.int .u64 0, .int .u64 0, .int .u64 0, .int .u64 0, .int .u64 0, .int .u64 0, .int .u64 0, .int .u64 0, .bool false] 153)::(n3,Cl [.int .i64 5, .string ⟨#[]⟩, .slice q 2 c] 32)::(n2,Cl [.pointer (some ⟨nt,0,none⟩)] 145)::(trH nt e1 e2 (addF b (addF a t).1).1++R)) (φ:=fun ⟨m7,m8,e1,e2⟩=>SlOk e1 (addF b (addF a t).1).1.names.length 1/\SlOk e2 (addF b (addF a t).1).1.fol.length 4) (kg U) ?_ ?_
 ·refine rD tb 0 U (Gs 14 _ mixd qkr (show List.Sublist ((n4,Cl [.int .u64 0, .int .u64 0, .int .u64 0, .int .u64 0, .int .u64 0, .int .u64 0, .int .u64 0, .int .u64 0, .bool false] 153)::(n3,Cl [.int .i64 5, .string ⟨#[]⟩, .slice q 2 c] 32)::(n2,Cl [.pointer (some ⟨nt,0,none⟩)] 145)::R) _ from by exact sbt) ?_ By);refine x_y (i:=0) U qkr (Lo U isAgg145 (by first|exact c_o)) ?_ U Ac;refine x_y (i:=1) U qkr (Bt (T U) Jo) ?_ U Ac;refine x_y (i:=2) U qkr (Lo U isAgg28 (by first|exact c_o)) ?_ U Ac;refine x_y (i:=3) U qkr (Bl (T U) An runUnderlying28 sizeOf32 qom (by first|exact rfl|exact hA.b0|exact hA.b1)) ?_ U Ac;refine x_y (i:=4) U qkr (Lp U isAgg32 sizeOf32 U (by first|exact hA.cs0|exact A2)) ?_ U Ac;refine x_y (i:=6) U qkr (Lo U isAgg145 (by first|exact c_o)) ?_ U Ac;refine x_y (i:=7) U qkr (Bt (T U) Jo) ?_ U Ac;refine x_y (i:=8) U qkr (Lo U isAgg28 (by first|exact c_o)) ?_ U Ac;refine x_y (i:=9) U qkr (Bl (T U) An runUnderlying28 sizeOf32 qom (by first|exact rfl|exact hA.b0|exact hA.b1)) ?_ U Ac;refine x_y (i:=10) U qkr (Lp U isAgg32 sizeOf32 U (by first|exact hA.cs1|exact A2)) ?_ U Ac;refine Il (i:=5) (j:=12) (k:=13) qkr qkr ?_ ?_ ?_
  ·refine Ca U (A1 (qe2 U U) call86 (B0 (trH nt d1 d2 t) qlc (iha _ nt d1 d2 t (hMa.mono sbt) hok1 hok2 ht qom))) ?_ U Ac;rintro _ _ ⟨⟨e1,e2⟩,⟨rfl,ho1,ho2⟩,rfl⟩;refine⟨sbt,?_⟩;refine Il (i:=11) (j:=12) (k:=13) qkr qkr ?_ ?_ ?_
   ·refine Ca U (A1 (qe2 U U) call86 (B0 (trH nt e1 e2 (addF a t).1) qlc (ihb _ nt e1 e2 (addF a t).1 (hMb.mono sbt) ho1 ho2 ha1 qom))) ?_ U Ac;rintro _ _ ⟨⟨f1,f2⟩,⟨rfl,ho3,ho4⟩,rfl⟩;refine⟨sbt,?_⟩;refine Dh (i:=12) (j:=13) qkr qkr ?_ ?_
    ·refine Ca U (Ap zeroValue153 cs_) ?_ U Ac;rintro _ _ ⟨n7,rfl,rfl⟩;refine⟨sbt,(Cn (i:=13) qkr qkr ?_)⟩;refine Ca U (Ap zeroValue153 cs_) ?_ U Ac;rintro _ _ ⟨n8,rfl,rfl⟩;refine⟨sbt,(Cv qkr U ?_)⟩
     first|refine A9 (Ls U U sizeOf153) U Ac ?_
     rintro _ _ ⟨rfl,rfl⟩
     first|refine A9 (Ls U U sizeOf153) U Ac ?_
     rintro _ _ ⟨rfl,rfl⟩;refine rO tb 1 U ?_
     first|(refine Be ((n7,n8,f1,f2)) ?_ ⟨atd,atd,trivial⟩ (kg U) (List.Sublist.refl _))|(refine Bn (List.Perm.swap _ _ _) ?_;refine Be ((n7,n8,f1,f2)) ?_ ⟨atd,atd,trivial⟩ (kg U) (List.Sublist.refl _))
     exact⟨ho3,ho4⟩
    ·refine Ca U (Ap zeroValue153 cs_) ?_ U Ac;rintro _ _ ⟨n8,rfl,rfl⟩;refine⟨sbt,(Cn (i:=12) qkr qkr ?_)⟩;refine Ca U (Ap zeroValue153 cs_) ?_ U Ac;rintro _ _ ⟨n7,rfl,rfl⟩;refine⟨sbt,(Cv qkr U ?_)⟩
     first|refine A9 (Ls U U sizeOf153) U Ac ?_
     rintro _ _ ⟨rfl,rfl⟩
     first|refine A9 (Ls U U sizeOf153) U Ac ?_
     rintro _ _ ⟨rfl,rfl⟩;refine rO tb 1 U ?_
     first|(refine Be ((n7,n8,f1,f2)) ?_ ⟨atd,atd,trivial⟩ (kg U) (List.Sublist.refl _))|(refine Bn (List.Perm.swap _ _ _) ?_;refine Be ((n7,n8,f1,f2)) ?_ ⟨atd,atd,trivial⟩ (kg U) (List.Sublist.refl _))
     exact⟨ho3,ho4⟩
   ·refine Ca U (Ap zeroValue153 cs_) ?_ U Ac;rintro _ _ ⟨n7,rfl,rfl⟩;refine⟨sbt,?_⟩;refine Dh (i:=11) (j:=13) qkr qkr ?_ ?_
    ·refine Ca U (A1 (qe2 U U) call86 (B0 (trH nt e1 e2 (addF a t).1) qlc (ihb _ nt e1 e2 (addF a t).1 (hMb.mono sbt) ho1 ho2 ha1 qom))) ?_ U Ac;rintro _ _ ⟨⟨f1,f2⟩,⟨rfl,ho3,ho4⟩,rfl⟩;refine⟨sbt,(Cn (i:=13) qkr qkr ?_)⟩;refine Ca U (Ap zeroValue153 cs_) ?_ U Ac;rintro _ _ ⟨n8,rfl,rfl⟩;refine⟨sbt,(Cv qkr U ?_)⟩
     first|refine A9 (Ls U U sizeOf153) U Ac ?_
     rintro _ _ ⟨rfl,rfl⟩
     first|refine A9 (Ls U U sizeOf153) U Ac ?_
     rintro _ _ ⟨rfl,rfl⟩;refine rO tb 1 U ?_
     first|(refine Be ((n7,n8,f1,f2)) ?_ ⟨atd,atd,trivial⟩ (kg U) (List.Sublist.refl _))|(refine Bn (List.Perm.swap _ _ _) ?_;refine Be ((n7,n8,f1,f2)) ?_ ⟨atd,atd,trivial⟩ (kg U) (List.Sublist.refl _))
     exact⟨ho3,ho4⟩
    ·refine Ca U (Ap zeroValue153 cs_) ?_ U Ac;rintro _ _ ⟨n8,rfl,rfl⟩;refine⟨sbt,(Cn (i:=11) qkr qkr ?_)⟩;refine Ca U (A1 (qe2 U U) call86 (B0 (trH nt e1 e2 (addF a t).1) qlc (ihb _ nt e1 e2 (addF a t).1 (hMb.mono sbt) ho1 ho2 ha1 qom))) ?_ U Ac;rintro _ _ ⟨⟨f1,f2⟩,⟨rfl,ho3,ho4⟩,rfl⟩;refine⟨sbt,(Cv qkr U ?_)⟩
     first|refine A9 (Ls U U sizeOf153) U Ac ?_
     rintro _ _ ⟨rfl,rfl⟩
     first|refine A9 (Ls U U sizeOf153) U Ac ?_
     rintro _ _ ⟨rfl,rfl⟩;refine rO tb 1 U ?_
     first|(refine Be ((n7,n8,f1,f2)) ?_ ⟨atd,atd,trivial⟩ (kg U) (List.Sublist.refl _))|(refine Bn (List.Perm.swap _ _ _) ?_;refine Be ((n7,n8,f1,f2)) ?_ ⟨atd,atd,trivial⟩ (kg U) (List.Sublist.refl _))
     exact⟨ho3,ho4⟩
   ·refine Ca U (Ap zeroValue153 cs_) ?_ U Ac;rintro _ _ ⟨n8,rfl,rfl⟩;refine⟨sbt,?_⟩;refine Dh (i:=11) (j:=12) qkr qkr ?_ ?_
    ·refine Ca U (A1 (qe2 U U) call86 (B0 (trH nt e1 e2 (addF a t).1) qlc (ihb _ nt e1 e2 (addF a t).1 (hMb.mono sbt) ho1 ho2 ha1 qom))) ?_ U Ac;rintro _ _ ⟨⟨f1,f2⟩,⟨rfl,ho3,ho4⟩,rfl⟩;refine⟨sbt,(Cn (i:=12) qkr qkr ?_)⟩;refine Ca U (Ap zeroValue153 cs_) ?_ U Ac;rintro _ _ ⟨n7,rfl,rfl⟩;refine⟨sbt,(Cv qkr U ?_)⟩
     first|refine A9 (Ls U U sizeOf153) U Ac ?_
     rintro _ _ ⟨rfl,rfl⟩
     first|refine A9 (Ls U U sizeOf153) U Ac ?_
     rintro _ _ ⟨rfl,rfl⟩;refine rO tb 1 U ?_
     first|(refine Be ((n7,n8,f1,f2)) ?_ ⟨atd,atd,trivial⟩ (kg U) (List.Sublist.refl _))|(refine Bn (List.Perm.swap _ _ _) ?_;refine Be ((n7,n8,f1,f2)) ?_ ⟨atd,atd,trivial⟩ (kg U) (List.Sublist.refl _))
     exact⟨ho3,ho4⟩
    ·refine Ca U (Ap zeroValue153 cs_) ?_ U Ac;rintro _ _ ⟨n7,rfl,rfl⟩;refine⟨sbt,(Cn (i:=11) qkr qkr ?_)⟩;refine Ca U (A1 (qe2 U U) call86 (B0 (trH nt e1 e2 (addF a t).1) qlc (ihb _ nt e1 e2 (addF a t).1 (hMb.mono sbt) ho1 ho2 ha1 qom))) ?_ U Ac;rintro _ _ ⟨⟨f1,f2⟩,⟨rfl,ho3,ho4⟩,rfl⟩;refine⟨sbt,(Cv qkr U ?_)⟩
     first|refine A9 (Ls U U sizeOf153) U Ac ?_
     rintro _ _ ⟨rfl,rfl⟩
     first|refine A9 (Ls U U sizeOf153) U Ac ?_
     rintro _ _ ⟨rfl,rfl⟩;refine rO tb 1 U ?_
     first|(refine Be ((n7,n8,f1,f2)) ?_ ⟨atd,atd,trivial⟩ (kg U) (List.Sublist.refl _))|(refine Bn (List.Perm.swap _ _ _) ?_;refine Be ((n7,n8,f1,f2)) ?_ ⟨atd,atd,trivial⟩ (kg U) (List.Sublist.refl _))
     exact⟨ho3,ho4⟩
  ·refine Ca U (Ap zeroValue153 cs_) ?_ U Ac;rintro _ _ ⟨n7,rfl,rfl⟩;refine⟨sbt,?_⟩;refine Dh (i:=5) (j:=13) qkr qkr ?_ ?_
   ·refine Ca U (A1 (qe2 U U) call86 (B0 (trH nt d1 d2 t) qlc (iha _ nt d1 d2 t (hMa.mono sbt) hok1 hok2 ht qom))) ?_ U Ac;rintro _ _ ⟨⟨e1,e2⟩,⟨rfl,ho1,ho2⟩,rfl⟩;refine⟨sbt,?_⟩;refine Dh (i:=11) (j:=13) qkr qkr ?_ ?_
    ·refine Ca U (A1 (qe2 U U) call86 (B0 (trH nt e1 e2 (addF a t).1) qlc (ihb _ nt e1 e2 (addF a t).1 (hMb.mono sbt) ho1 ho2 ha1 qom))) ?_ U Ac;rintro _ _ ⟨⟨f1,f2⟩,⟨rfl,ho3,ho4⟩,rfl⟩;refine⟨sbt,(Cn (i:=13) qkr qkr ?_)⟩;refine Ca U (Ap zeroValue153 cs_) ?_ U Ac;rintro _ _ ⟨n8,rfl,rfl⟩;refine⟨sbt,(Cv qkr U ?_)⟩
     first|refine A9 (Ls U U sizeOf153) U Ac ?_
     rintro _ _ ⟨rfl,rfl⟩
     first|refine A9 (Ls U U sizeOf153) U Ac ?_
     rintro _ _ ⟨rfl,rfl⟩;refine rO tb 1 U ?_
     first|(refine Be ((n7,n8,f1,f2)) ?_ ⟨atd,atd,trivial⟩ (kg U) (List.Sublist.refl _))|(refine Bn (List.Perm.swap _ _ _) ?_;refine Be ((n7,n8,f1,f2)) ?_ ⟨atd,atd,trivial⟩ (kg U) (List.Sublist.refl _))
     exact⟨ho3,ho4⟩
    ·refine Ca U (Ap zeroValue153 cs_) ?_ U Ac;rintro _ _ ⟨n8,rfl,rfl⟩;refine⟨sbt,(Cn (i:=11) qkr qkr ?_)⟩;refine Ca U (A1 (qe2 U U) call86 (B0 (trH nt e1 e2 (addF a t).1) qlc (ihb _ nt e1 e2 (addF a t).1 (hMb.mono sbt) ho1 ho2 ha1 qom))) ?_ U Ac;rintro _ _ ⟨⟨f1,f2⟩,⟨rfl,ho3,ho4⟩,rfl⟩;refine⟨sbt,(Cv qkr U ?_)⟩
     first|refine A9 (Ls U U sizeOf153) U Ac ?_
     rintro _ _ ⟨rfl,rfl⟩
     first|refine A9 (Ls U U sizeOf153) U Ac ?_
     rintro _ _ ⟨rfl,rfl⟩;refine rO tb 1 U ?_
     first|(refine Be ((n7,n8,f1,f2)) ?_ ⟨atd,atd,trivial⟩ (kg U) (List.Sublist.refl _))|(refine Bn (List.Perm.swap _ _ _) ?_;refine Be ((n7,n8,f1,f2)) ?_ ⟨atd,atd,trivial⟩ (kg U) (List.Sublist.refl _))
     exact⟨ho3,ho4⟩
   ·refine Ca U (Ap zeroValue153 cs_) ?_ U Ac;rintro _ _ ⟨n8,rfl,rfl⟩;refine⟨sbt,(Cn (i:=5) qkr qkr ?_)⟩;refine Ca U (A1 (qe2 U U) call86 (B0 (trH nt d1 d2 t) qlc (iha _ nt d1 d2 t (hMa.mono sbt) hok1 hok2 ht qom))) ?_ U Ac;rintro _ _ ⟨⟨e1,e2⟩,⟨rfl,ho1,ho2⟩,rfl⟩;refine⟨sbt,(Cn (i:=11) qkr qkr ?_)⟩;refine Ca U (A1 (qe2 U U) call86 (B0 (trH nt e1 e2 (addF a t).1) qlc (ihb _ nt e1 e2 (addF a t).1 (hMb.mono sbt) ho1 ho2 ha1 qom))) ?_ U Ac;rintro _ _ ⟨⟨f1,f2⟩,⟨rfl,ho3,ho4⟩,rfl⟩;refine⟨sbt,(Cv qkr U ?_)⟩
    first|refine A9 (Ls U U sizeOf153) U Ac ?_
    rintro _ _ ⟨rfl,rfl⟩
    first|refine A9 (Ls U U sizeOf153) U Ac ?_
    rintro _ _ ⟨rfl,rfl⟩;refine rO tb 1 U ?_
    first|(refine Be ((n7,n8,f1,f2)) ?_ ⟨atd,atd,trivial⟩ (kg U) (List.Sublist.refl _))|(refine Bn (List.Perm.swap _ _ _) ?_;refine Be ((n7,n8,f1,f2)) ?_ ⟨atd,atd,trivial⟩ (kg U) (List.Sublist.refl _))
    exact⟨ho3,ho4⟩
  ·refine Ca U (Ap zeroValue153 cs_) ?_ U Ac;rintro _ _ ⟨n8,rfl,rfl⟩;refine⟨sbt,?_⟩;refine Dh (i:=5) (j:=12) qkr qkr ?_ ?_
   ·refine Ca U (A1 (qe2 U U) call86 (B0 (trH nt d1 d2 t) qlc (iha _ nt d1 d2 t (hMa.mono sbt) hok1 hok2 ht qom))) ?_ U Ac;rintro _ _ ⟨⟨e1,e2⟩,⟨rfl,ho1,ho2⟩,rfl⟩;refine⟨sbt,?_⟩;refine Dh (i:=11) (j:=12) qkr qkr ?_ ?_
    ·refine Ca U (A1 (qe2 U U) call86 (B0 (trH nt e1 e2 (addF a t).1) qlc (ihb _ nt e1 e2 (addF a t).1 (hMb.mono sbt) ho1 ho2 ha1 qom))) ?_ U Ac;rintro _ _ ⟨⟨f1,f2⟩,⟨rfl,ho3,ho4⟩,rfl⟩;refine⟨sbt,(Cn (i:=12) qkr qkr ?_)⟩;refine Ca U (Ap zeroValue153 cs_) ?_ U Ac;rintro _ _ ⟨n7,rfl,rfl⟩;refine⟨sbt,(Cv qkr U ?_)⟩
     first|refine A9 (Ls U U sizeOf153) U Ac ?_
     rintro _ _ ⟨rfl,rfl⟩
     first|refine A9 (Ls U U sizeOf153) U Ac ?_
     rintro _ _ ⟨rfl,rfl⟩;refine rO tb 1 U ?_
     first|(refine Be ((n7,n8,f1,f2)) ?_ ⟨atd,atd,trivial⟩ (kg U) (List.Sublist.refl _))|(refine Bn (List.Perm.swap _ _ _) ?_;refine Be ((n7,n8,f1,f2)) ?_ ⟨atd,atd,trivial⟩ (kg U) (List.Sublist.refl _))
     exact⟨ho3,ho4⟩
    ·refine Ca U (Ap zeroValue153 cs_) ?_ U Ac;rintro _ _ ⟨n7,rfl,rfl⟩;refine⟨sbt,(Cn (i:=11) qkr qkr ?_)⟩;refine Ca U (A1 (qe2 U U) call86 (B0 (trH nt e1 e2 (addF a t).1) qlc (ihb _ nt e1 e2 (addF a t).1 (hMb.mono sbt) ho1 ho2 ha1 qom))) ?_ U Ac;rintro _ _ ⟨⟨f1,f2⟩,⟨rfl,ho3,ho4⟩,rfl⟩;refine⟨sbt,(Cv qkr U ?_)⟩
     first|refine A9 (Ls U U sizeOf153) U Ac ?_
     rintro _ _ ⟨rfl,rfl⟩
     first|refine A9 (Ls U U sizeOf153) U Ac ?_
     rintro _ _ ⟨rfl,rfl⟩;refine rO tb 1 U ?_
     first|(refine Be ((n7,n8,f1,f2)) ?_ ⟨atd,atd,trivial⟩ (kg U) (List.Sublist.refl _))|(refine Bn (List.Perm.swap _ _ _) ?_;refine Be ((n7,n8,f1,f2)) ?_ ⟨atd,atd,trivial⟩ (kg U) (List.Sublist.refl _))
     exact⟨ho3,ho4⟩
   ·refine Ca U (Ap zeroValue153 cs_) ?_ U Ac;rintro _ _ ⟨n7,rfl,rfl⟩;refine⟨sbt,(Cn (i:=5) qkr qkr ?_)⟩;refine Ca U (A1 (qe2 U U) call86 (B0 (trH nt d1 d2 t) qlc (iha _ nt d1 d2 t (hMa.mono sbt) hok1 hok2 ht qom))) ?_ U Ac;rintro _ _ ⟨⟨e1,e2⟩,⟨rfl,ho1,ho2⟩,rfl⟩;refine⟨sbt,(Cn (i:=11) qkr qkr ?_)⟩;refine Ca U (A1 (qe2 U U) call86 (B0 (trH nt e1 e2 (addF a t).1) qlc (ihb _ nt e1 e2 (addF a t).1 (hMb.mono sbt) ho1 ho2 ha1 qom))) ?_ U Ac;rintro _ _ ⟨⟨f1,f2⟩,⟨rfl,ho3,ho4⟩,rfl⟩;refine⟨sbt,(Cv qkr U ?_)⟩
    first|refine A9 (Ls U U sizeOf153) U Ac ?_
    rintro _ _ ⟨rfl,rfl⟩
    first|refine A9 (Ls U U sizeOf153) U Ac ?_
    rintro _ _ ⟨rfl,rfl⟩;refine rO tb 1 U ?_
    first|(refine Be ((n7,n8,f1,f2)) ?_ ⟨atd,atd,trivial⟩ (kg U) (List.Sublist.refl _))|(refine Bn (List.Perm.swap _ _ _) ?_;refine Be ((n7,n8,f1,f2)) ?_ ⟨atd,atd,trivial⟩ (kg U) (List.Sublist.refl _))
    exact⟨ho3,ho4⟩
 rintro⟨m7,m8,e1,e2⟩ ⟨he1,he2⟩;refine rC tb 4 U (y_ (Lo U isAgg3 (by first|exact c_o)) ?_ U);refine rO tb 5 U (B9 17 [(0,true),(1,true),(2,true),(3,true),(4,true),(5,true),(6,true),(7,true),(8,true),(9,true),(10,true),(11,true),(12,true),(13,true),(14,true),(15,true),(16,true)] _ mixd qkr sb0 ?_ By);refine rP tb 1 U ?_;refine o_y U (Lp U isAgg151 sizeOf151 U (by first|exact Ce (o:=0) (k:=4) fdd|exact A2)) ?_ U Ac;refine rP tb 1 U ?_;refine o_y U (Lp U isAgg151 sizeOf151 U (by first|exact Ce (o:=0) (k:=4) fdd|exact A2)) ?_ U Ac;refine o_y U (Bb (qe2 U U) call90 (fun H' hs=>Ld _ qom _ qom)) ?_ U Ac;refine rP tb 1 U ?_;refine o_y U (Lp U isAgg151 sizeOf151 U (by first|exact Ce (o:=4) (k:=4) fdd|exact A2)) ?_ U Ac;refine rP tb 1 U ?_;refine o_y U (Lp U isAgg151 sizeOf151 U (by first|exact Ce (o:=4) (k:=4) fdd|exact A2)) ?_ U Ac;refine o_y U (Bb (qe2 U U) call90 (fun H' hs=>Ld _ qom _ qom)) ?_ U Ac;refine rP tb 1 U (o_y U (Lo U isAgg4 (by first|exact c_o)) ?_ U Ac);refine rP tb 1 U ?_
 first|refine Cu (s:=78) (Aa U) (fun c78=> ?_) (fun c78=> ?_)|refine Ds (s:=78) (Aa U) (fun c78=> ?_) (fun c78=> ?_)
 ·refine rP tb 3 U (o_y U (Bg (.cons (T U) (.cons (T U) (.cons (T U) .nil))) (Ei _ _ _ _ _ _ _ _ _)) (Bj U ?_) U Ac)
  first|refine A9 (Ls U U sizeOf153) U Ac ?_
  rintro _ _ ⟨rfl,rfl⟩;refine rO tb 6 U (As U (.cellA (Aa U) isAgg153 sizeOf153 U (by first|exact A2) .nil) ?_);exact⟨_,⟨(e1,e2),⟨by simp only[addF,c78,Bool.true_or,Bool.false_or];rfl,he1,he2⟩,rfl⟩,sbt⟩
 ·refine rP tb 1 U (o_y U (Lo U isAgg4 (by first|exact c_o)) ?_ U (Ax U U (Aa U)));refine rP tb 1 U (o_y U (Bg (.cons (T U) (.cons (T U) (.cons (T U) .nil))) (Ei _ _ _ _ _ _ _ _ _)) (Bj U ?_) U Ac)
  first|refine A9 (Ls U U sizeOf153) U Ac ?_
  rintro _ _ ⟨rfl,rfl⟩;refine rO tb 6 U (As U (.cellA (Aa U) isAgg153 sizeOf153 U (by first|exact A2) .nil) ?_);exact⟨_,⟨(e1,e2),⟨by simp only[addF,c78,Bool.true_or,Bool.false_or];rfl,he1,he2⟩,rfl⟩,sbt⟩
theorem add_seq {w0:World}{q:Option Addr}{c:Nat}{ma mb:Rxm}{a b:Re}(iha:AddS w0 ma a)(ihb:AddS w0 mb b):AddS w0 (.mk 4 ⟨#[]⟩ q c [ma,mb]) (.seq a b):=by
 intro R nt d1 d2 t hM hok1 hok2 ht hl;show FSpec prog w0 86 #[.pointer (some ⟨nt,0,none⟩), .agg #[.int .i64 4, .string ⟨#[]⟩, .slice q 2 c]] (trH nt d1 d2 t++R) _;simp only[Re.lv] at hl;obtain⟨hA,hMM,_,_⟩:=hM;have hMa:=hMM ma (by simp);have hMb:=hMM mb (by simp);obtain⟨ha1,ha2,ha3,ha4⟩:=Du a ht qom;obtain⟨hb1,hb2,hb3,hb4⟩:=Du b ha1 qom;have p1:2 ^ (t.names.length+a.lv)<=2 ^ 64:=Nat.pow_le_pow_right qom qom;have p2:2 ^ ((addF a t).1.names.length+b.lv)<=2 ^ 64:=Nat.pow_le_pow_right qom qom;have p3:(addF a t).2.last<2 ^ (addF b (addF a t).1).1.names.length:=Nat.lt_of_lt_of_le ha4 (Nat.pow_le_pow_right qom qom);refine Az func86 U ntmps86 U (rD tb 2 U (e_ (Lt U cs_) ?_ U));rintro _ _ ⟨n2,rfl,rfl⟩;refine e_ (Lt U cs_) ?_ U;rintro _ _ ⟨n3,rfl,rfl⟩;refine e_ (Ap zeroValue153 cs_) ?_ U;rintro _ _ ⟨n4,rfl,rfl⟩;refine rO tb 4 U (y_ (Cg (.cons (T U) .nil)) (rO tb 7 U (y_ (Lo U isAgg3 (by first|exact c_o)) ?_ U)) U);refine rO tb 28 U ?_;refine Fp (X:=Nat × Nat × Sl × Sl) (V:=fun ⟨m7,m8,e1,e2⟩=>[(7, .pointer (some ⟨m7,0,none⟩)),(8, .pointer (some ⟨m8,0,none⟩))]) (C:=[(3,_),(4,_),(5,_)]) (G:=fun ⟨m7,m8,e1,e2⟩=>(m8,Cl (encEn (addF b (addF a t).1).2) 153)::(m7,Cl (encEn (addF a t).2) 153)::(n4,Cl [.int .u64 0, .int .u64 0, .int .u64 0, .int .u64 0, .int .u64 0, .int .u64 0, .int .u64 0, .int .u64 0, .bool false] 153)::(n3,Cl [.int .i64 4, .string ⟨#[]⟩, .slice q 2 c] 32)::(n2,Cl [.pointer (some ⟨nt,0,none⟩)] 145)::(trH nt e1 e2 (addF b (addF a t).1).1++R)) (φ:=fun ⟨m7,m8,e1,e2⟩=>SlOk e1 (addF b (addF a t).1).1.names.length 1/\SlOk e2 (addF b (addF a t).1).1.fol.length 4) (kg U) ?_ ?_
 ·refine rD tb 0 U (Gs 14 _ mixd qkr (show List.Sublist ((n4,Cl [.int .u64 0, .int .u64 0, .int .u64 0, .int .u64 0, .int .u64 0, .int .u64 0, .int .u64 0, .int .u64 0, .bool false] 153)::(n3,Cl [.int .i64 4, .string ⟨#[]⟩, .slice q 2 c] 32)::(n2,Cl [.pointer (some ⟨nt,0,none⟩)] 145)::R) _ from by exact sbt) ?_ By);refine x_y (i:=0) U qkr (Lo U isAgg145 (by first|exact c_o)) ?_ U Ac;refine x_y (i:=1) U qkr (Bt (T U) Jo) ?_ U Ac;refine x_y (i:=2) U qkr (Lo U isAgg28 (by first|exact c_o)) ?_ U Ac;refine x_y (i:=3) U qkr (Bl (T U) An runUnderlying28 sizeOf32 qom (by first|exact rfl|exact hA.b0|exact hA.b1)) ?_ U Ac;refine x_y (i:=4) U qkr (Lp U isAgg32 sizeOf32 U (by first|exact hA.cs0|exact A2)) ?_ U Ac;refine x_y (i:=6) U qkr (Lo U isAgg145 (by first|exact c_o)) ?_ U Ac;refine x_y (i:=7) U qkr (Bt (T U) Jo) ?_ U Ac;refine x_y (i:=8) U qkr (Lo U isAgg28 (by first|exact c_o)) ?_ U Ac;refine x_y (i:=9) U qkr (Bl (T U) An runUnderlying28 sizeOf32 qom (by first|exact rfl|exact hA.b0|exact hA.b1)) ?_ U Ac;refine x_y (i:=10) U qkr (Lp U isAgg32 sizeOf32 U (by first|exact hA.cs1|exact A2)) ?_ U Ac;refine Il (i:=5) (j:=12) (k:=13) qkr qkr ?_ ?_ ?_
  ·refine Ca U (A1 (qe2 U U) call86 (B0 (trH nt d1 d2 t) qlc (iha _ nt d1 d2 t (hMa.mono sbt) hok1 hok2 ht qom))) ?_ U Ac;rintro _ _ ⟨⟨e1,e2⟩,⟨rfl,ho1,ho2⟩,rfl⟩;refine⟨sbt,?_⟩;refine Il (i:=11) (j:=12) (k:=13) qkr qkr ?_ ?_ ?_
   ·refine Ca U (A1 (qe2 U U) call86 (B0 (trH nt e1 e2 (addF a t).1) qlc (ihb _ nt e1 e2 (addF a t).1 (hMb.mono sbt) ho1 ho2 ha1 qom))) ?_ U Ac;rintro _ _ ⟨⟨f1,f2⟩,⟨rfl,ho3,ho4⟩,rfl⟩;refine⟨sbt,?_⟩;refine Dh (i:=12) (j:=13) qkr qkr ?_ ?_
    ·refine Ca U (Ap zeroValue153 cs_) ?_ U Ac;rintro _ _ ⟨n7,rfl,rfl⟩;refine⟨sbt,(Cn (i:=13) qkr qkr ?_)⟩;refine Ca U (Ap zeroValue153 cs_) ?_ U Ac;rintro _ _ ⟨n8,rfl,rfl⟩;refine⟨sbt,(Cv qkr U ?_)⟩
     first|refine A9 (Ls U U sizeOf153) U Ac ?_
     rintro _ _ ⟨rfl,rfl⟩
     first|refine A9 (Ls U U sizeOf153) U Ac ?_
     rintro _ _ ⟨rfl,rfl⟩;refine rO tb 1 U ?_
     first|(refine Be ((n7,n8,f1,f2)) ?_ ⟨atd,atd,trivial⟩ (kg U) (List.Sublist.refl _))|(refine Bn (List.Perm.swap _ _ _) ?_;refine Be ((n7,n8,f1,f2)) ?_ ⟨atd,atd,trivial⟩ (kg U) (List.Sublist.refl _))
     exact⟨ho3,ho4⟩
    ·refine Ca U (Ap zeroValue153 cs_) ?_ U Ac;rintro _ _ ⟨n8,rfl,rfl⟩;refine⟨sbt,(Cn (i:=12) qkr qkr ?_)⟩;refine Ca U (Ap zeroValue153 cs_) ?_ U Ac;rintro _ _ ⟨n7,rfl,rfl⟩;refine⟨sbt,(Cv qkr U ?_)⟩
     first|refine A9 (Ls U U sizeOf153) U Ac ?_
     rintro _ _ ⟨rfl,rfl⟩
     first|refine A9 (Ls U U sizeOf153) U Ac ?_
     rintro _ _ ⟨rfl,rfl⟩;refine rO tb 1 U ?_
     first|(refine Be ((n7,n8,f1,f2)) ?_ ⟨atd,atd,trivial⟩ (kg U) (List.Sublist.refl _))|(refine Bn (List.Perm.swap _ _ _) ?_;refine Be ((n7,n8,f1,f2)) ?_ ⟨atd,atd,trivial⟩ (kg U) (List.Sublist.refl _))
     exact⟨ho3,ho4⟩
   ·refine Ca U (Ap zeroValue153 cs_) ?_ U Ac;rintro _ _ ⟨n7,rfl,rfl⟩;refine⟨sbt,?_⟩;refine Dh (i:=11) (j:=13) qkr qkr ?_ ?_
    ·refine Ca U (A1 (qe2 U U) call86 (B0 (trH nt e1 e2 (addF a t).1) qlc (ihb _ nt e1 e2 (addF a t).1 (hMb.mono sbt) ho1 ho2 ha1 qom))) ?_ U Ac;rintro _ _ ⟨⟨f1,f2⟩,⟨rfl,ho3,ho4⟩,rfl⟩;refine⟨sbt,(Cn (i:=13) qkr qkr ?_)⟩;refine Ca U (Ap zeroValue153 cs_) ?_ U Ac;rintro _ _ ⟨n8,rfl,rfl⟩;refine⟨sbt,(Cv qkr U ?_)⟩
     first|refine A9 (Ls U U sizeOf153) U Ac ?_
     rintro _ _ ⟨rfl,rfl⟩
     first|refine A9 (Ls U U sizeOf153) U Ac ?_
     rintro _ _ ⟨rfl,rfl⟩;refine rO tb 1 U ?_
     first|(refine Be ((n7,n8,f1,f2)) ?_ ⟨atd,atd,trivial⟩ (kg U) (List.Sublist.refl _))|(refine Bn (List.Perm.swap _ _ _) ?_;refine Be ((n7,n8,f1,f2)) ?_ ⟨atd,atd,trivial⟩ (kg U) (List.Sublist.refl _))
     exact⟨ho3,ho4⟩
    ·refine Ca U (Ap zeroValue153 cs_) ?_ U Ac;rintro _ _ ⟨n8,rfl,rfl⟩;refine⟨sbt,(Cn (i:=11) qkr qkr ?_)⟩;refine Ca U (A1 (qe2 U U) call86 (B0 (trH nt e1 e2 (addF a t).1) qlc (ihb _ nt e1 e2 (addF a t).1 (hMb.mono sbt) ho1 ho2 ha1 qom))) ?_ U Ac;rintro _ _ ⟨⟨f1,f2⟩,⟨rfl,ho3,ho4⟩,rfl⟩;refine⟨sbt,(Cv qkr U ?_)⟩
     first|refine A9 (Ls U U sizeOf153) U Ac ?_
     rintro _ _ ⟨rfl,rfl⟩
     first|refine A9 (Ls U U sizeOf153) U Ac ?_
     rintro _ _ ⟨rfl,rfl⟩;refine rO tb 1 U ?_
     first|(refine Be ((n7,n8,f1,f2)) ?_ ⟨atd,atd,trivial⟩ (kg U) (List.Sublist.refl _))|(refine Bn (List.Perm.swap _ _ _) ?_;refine Be ((n7,n8,f1,f2)) ?_ ⟨atd,atd,trivial⟩ (kg U) (List.Sublist.refl _))
     exact⟨ho3,ho4⟩
   ·refine Ca U (Ap zeroValue153 cs_) ?_ U Ac;rintro _ _ ⟨n8,rfl,rfl⟩;refine⟨sbt,?_⟩;refine Dh (i:=11) (j:=12) qkr qkr ?_ ?_
    ·refine Ca U (A1 (qe2 U U) call86 (B0 (trH nt e1 e2 (addF a t).1) qlc (ihb _ nt e1 e2 (addF a t).1 (hMb.mono sbt) ho1 ho2 ha1 qom))) ?_ U Ac;rintro _ _ ⟨⟨f1,f2⟩,⟨rfl,ho3,ho4⟩,rfl⟩;refine⟨sbt,(Cn (i:=12) qkr qkr ?_)⟩;refine Ca U (Ap zeroValue153 cs_) ?_ U Ac;rintro _ _ ⟨n7,rfl,rfl⟩;refine⟨sbt,(Cv qkr U ?_)⟩
     first|refine A9 (Ls U U sizeOf153) U Ac ?_
     rintro _ _ ⟨rfl,rfl⟩
     first|refine A9 (Ls U U sizeOf153) U Ac ?_
     rintro _ _ ⟨rfl,rfl⟩;refine rO tb 1 U ?_
     first|(refine Be ((n7,n8,f1,f2)) ?_ ⟨atd,atd,trivial⟩ (kg U) (List.Sublist.refl _))|(refine Bn (List.Perm.swap _ _ _) ?_;refine Be ((n7,n8,f1,f2)) ?_ ⟨atd,atd,trivial⟩ (kg U) (List.Sublist.refl _))
     exact⟨ho3,ho4⟩
    ·refine Ca U (Ap zeroValue153 cs_) ?_ U Ac;rintro _ _ ⟨n7,rfl,rfl⟩;refine⟨sbt,(Cn (i:=11) qkr qkr ?_)⟩;refine Ca U (A1 (qe2 U U) call86 (B0 (trH nt e1 e2 (addF a t).1) qlc (ihb _ nt e1 e2 (addF a t).1 (hMb.mono sbt) ho1 ho2 ha1 qom))) ?_ U Ac;rintro _ _ ⟨⟨f1,f2⟩,⟨rfl,ho3,ho4⟩,rfl⟩;refine⟨sbt,(Cv qkr U ?_)⟩
     first|refine A9 (Ls U U sizeOf153) U Ac ?_
     rintro _ _ ⟨rfl,rfl⟩
     first|refine A9 (Ls U U sizeOf153) U Ac ?_
     rintro _ _ ⟨rfl,rfl⟩;refine rO tb 1 U ?_
     first|(refine Be ((n7,n8,f1,f2)) ?_ ⟨atd,atd,trivial⟩ (kg U) (List.Sublist.refl _))|(refine Bn (List.Perm.swap _ _ _) ?_;refine Be ((n7,n8,f1,f2)) ?_ ⟨atd,atd,trivial⟩ (kg U) (List.Sublist.refl _))
     exact⟨ho3,ho4⟩
  ·refine Ca U (Ap zeroValue153 cs_) ?_ U Ac;rintro _ _ ⟨n7,rfl,rfl⟩;refine⟨sbt,?_⟩;refine Dh (i:=5) (j:=13) qkr qkr ?_ ?_
   ·refine Ca U (A1 (qe2 U U) call86 (B0 (trH nt d1 d2 t) qlc (iha _ nt d1 d2 t (hMa.mono sbt) hok1 hok2 ht qom))) ?_ U Ac;rintro _ _ ⟨⟨e1,e2⟩,⟨rfl,ho1,ho2⟩,rfl⟩;refine⟨sbt,?_⟩;refine Dh (i:=11) (j:=13) qkr qkr ?_ ?_
    ·refine Ca U (A1 (qe2 U U) call86 (B0 (trH nt e1 e2 (addF a t).1) qlc (ihb _ nt e1 e2 (addF a t).1 (hMb.mono sbt) ho1 ho2 ha1 qom))) ?_ U Ac;rintro _ _ ⟨⟨f1,f2⟩,⟨rfl,ho3,ho4⟩,rfl⟩;refine⟨sbt,(Cn (i:=13) qkr qkr ?_)⟩;refine Ca U (Ap zeroValue153 cs_) ?_ U Ac;rintro _ _ ⟨n8,rfl,rfl⟩;refine⟨sbt,(Cv qkr U ?_)⟩
     first|refine A9 (Ls U U sizeOf153) U Ac ?_
     rintro _ _ ⟨rfl,rfl⟩
     first|refine A9 (Ls U U sizeOf153) U Ac ?_
     rintro _ _ ⟨rfl,rfl⟩;refine rO tb 1 U ?_
     first|(refine Be ((n7,n8,f1,f2)) ?_ ⟨atd,atd,trivial⟩ (kg U) (List.Sublist.refl _))|(refine Bn (List.Perm.swap _ _ _) ?_;refine Be ((n7,n8,f1,f2)) ?_ ⟨atd,atd,trivial⟩ (kg U) (List.Sublist.refl _))
     exact⟨ho3,ho4⟩
    ·refine Ca U (Ap zeroValue153 cs_) ?_ U Ac;rintro _ _ ⟨n8,rfl,rfl⟩;refine⟨sbt,(Cn (i:=11) qkr qkr ?_)⟩;refine Ca U (A1 (qe2 U U) call86 (B0 (trH nt e1 e2 (addF a t).1) qlc (ihb _ nt e1 e2 (addF a t).1 (hMb.mono sbt) ho1 ho2 ha1 qom))) ?_ U Ac;rintro _ _ ⟨⟨f1,f2⟩,⟨rfl,ho3,ho4⟩,rfl⟩;refine⟨sbt,(Cv qkr U ?_)⟩
     first|refine A9 (Ls U U sizeOf153) U Ac ?_
     rintro _ _ ⟨rfl,rfl⟩
     first|refine A9 (Ls U U sizeOf153) U Ac ?_
     rintro _ _ ⟨rfl,rfl⟩;refine rO tb 1 U ?_
     first|(refine Be ((n7,n8,f1,f2)) ?_ ⟨atd,atd,trivial⟩ (kg U) (List.Sublist.refl _))|(refine Bn (List.Perm.swap _ _ _) ?_;refine Be ((n7,n8,f1,f2)) ?_ ⟨atd,atd,trivial⟩ (kg U) (List.Sublist.refl _))
     exact⟨ho3,ho4⟩
   ·refine Ca U (Ap zeroValue153 cs_) ?_ U Ac;rintro _ _ ⟨n8,rfl,rfl⟩;refine⟨sbt,(Cn (i:=5) qkr qkr ?_)⟩;refine Ca U (A1 (qe2 U U) call86 (B0 (trH nt d1 d2 t) qlc (iha _ nt d1 d2 t (hMa.mono sbt) hok1 hok2 ht qom))) ?_ U Ac;rintro _ _ ⟨⟨e1,e2⟩,⟨rfl,ho1,ho2⟩,rfl⟩;refine⟨sbt,(Cn (i:=11) qkr qkr ?_)⟩;refine Ca U (A1 (qe2 U U) call86 (B0 (trH nt e1 e2 (addF a t).1) qlc (ihb _ nt e1 e2 (addF a t).1 (hMb.mono sbt) ho1 ho2 ha1 qom))) ?_ U Ac;rintro _ _ ⟨⟨f1,f2⟩,⟨rfl,ho3,ho4⟩,rfl⟩;refine⟨sbt,(Cv qkr U ?_)⟩
    first|refine A9 (Ls U U sizeOf153) U Ac ?_
    rintro _ _ ⟨rfl,rfl⟩
    first|refine A9 (Ls U U sizeOf153) U Ac ?_
    rintro _ _ ⟨rfl,rfl⟩;refine rO tb 1 U ?_
    first|(refine Be ((n7,n8,f1,f2)) ?_ ⟨atd,atd,trivial⟩ (kg U) (List.Sublist.refl _))|(refine Bn (List.Perm.swap _ _ _) ?_;refine Be ((n7,n8,f1,f2)) ?_ ⟨atd,atd,trivial⟩ (kg U) (List.Sublist.refl _))
    exact⟨ho3,ho4⟩
  ·refine Ca U (Ap zeroValue153 cs_) ?_ U Ac;rintro _ _ ⟨n8,rfl,rfl⟩;refine⟨sbt,?_⟩;refine Dh (i:=5) (j:=12) qkr qkr ?_ ?_
   ·refine Ca U (A1 (qe2 U U) call86 (B0 (trH nt d1 d2 t) qlc (iha _ nt d1 d2 t (hMa.mono sbt) hok1 hok2 ht qom))) ?_ U Ac;rintro _ _ ⟨⟨e1,e2⟩,⟨rfl,ho1,ho2⟩,rfl⟩;refine⟨sbt,?_⟩;refine Dh (i:=11) (j:=12) qkr qkr ?_ ?_
    ·refine Ca U (A1 (qe2 U U) call86 (B0 (trH nt e1 e2 (addF a t).1) qlc (ihb _ nt e1 e2 (addF a t).1 (hMb.mono sbt) ho1 ho2 ha1 qom))) ?_ U Ac;rintro _ _ ⟨⟨f1,f2⟩,⟨rfl,ho3,ho4⟩,rfl⟩;refine⟨sbt,(Cn (i:=12) qkr qkr ?_)⟩;refine Ca U (Ap zeroValue153 cs_) ?_ U Ac;rintro _ _ ⟨n7,rfl,rfl⟩;refine⟨sbt,(Cv qkr U ?_)⟩
     first|refine A9 (Ls U U sizeOf153) U Ac ?_
     rintro _ _ ⟨rfl,rfl⟩
     first|refine A9 (Ls U U sizeOf153) U Ac ?_
     rintro _ _ ⟨rfl,rfl⟩;refine rO tb 1 U ?_
     first|(refine Be ((n7,n8,f1,f2)) ?_ ⟨atd,atd,trivial⟩ (kg U) (List.Sublist.refl _))|(refine Bn (List.Perm.swap _ _ _) ?_;refine Be ((n7,n8,f1,f2)) ?_ ⟨atd,atd,trivial⟩ (kg U) (List.Sublist.refl _))
     exact⟨ho3,ho4⟩
    ·refine Ca U (Ap zeroValue153 cs_) ?_ U Ac;rintro _ _ ⟨n7,rfl,rfl⟩;refine⟨sbt,(Cn (i:=11) qkr qkr ?_)⟩;refine Ca U (A1 (qe2 U U) call86 (B0 (trH nt e1 e2 (addF a t).1) qlc (ihb _ nt e1 e2 (addF a t).1 (hMb.mono sbt) ho1 ho2 ha1 qom))) ?_ U Ac;rintro _ _ ⟨⟨f1,f2⟩,⟨rfl,ho3,ho4⟩,rfl⟩;refine⟨sbt,(Cv qkr U ?_)⟩
     first|refine A9 (Ls U U sizeOf153) U Ac ?_
     rintro _ _ ⟨rfl,rfl⟩
     first|refine A9 (Ls U U sizeOf153) U Ac ?_
     rintro _ _ ⟨rfl,rfl⟩;refine rO tb 1 U ?_
     first|(refine Be ((n7,n8,f1,f2)) ?_ ⟨atd,atd,trivial⟩ (kg U) (List.Sublist.refl _))|(refine Bn (List.Perm.swap _ _ _) ?_;refine Be ((n7,n8,f1,f2)) ?_ ⟨atd,atd,trivial⟩ (kg U) (List.Sublist.refl _))
     exact⟨ho3,ho4⟩
   ·refine Ca U (Ap zeroValue153 cs_) ?_ U Ac;rintro _ _ ⟨n7,rfl,rfl⟩;refine⟨sbt,(Cn (i:=5) qkr qkr ?_)⟩;refine Ca U (A1 (qe2 U U) call86 (B0 (trH nt d1 d2 t) qlc (iha _ nt d1 d2 t (hMa.mono sbt) hok1 hok2 ht qom))) ?_ U Ac;rintro _ _ ⟨⟨e1,e2⟩,⟨rfl,ho1,ho2⟩,rfl⟩;refine⟨sbt,(Cn (i:=11) qkr qkr ?_)⟩;refine Ca U (A1 (qe2 U U) call86 (B0 (trH nt e1 e2 (addF a t).1) qlc (ihb _ nt e1 e2 (addF a t).1 (hMb.mono sbt) ho1 ho2 ha1 qom))) ?_ U Ac;rintro _ _ ⟨⟨f1,f2⟩,⟨rfl,ho3,ho4⟩,rfl⟩;refine⟨sbt,(Cv qkr U ?_)⟩
    first|refine A9 (Ls U U sizeOf153) U Ac ?_
    rintro _ _ ⟨rfl,rfl⟩
    first|refine A9 (Ls U U sizeOf153) U Ac ?_
    rintro _ _ ⟨rfl,rfl⟩;refine rO tb 1 U ?_
    first|(refine Be ((n7,n8,f1,f2)) ?_ ⟨atd,atd,trivial⟩ (kg U) (List.Sublist.refl _))|(refine Bn (List.Perm.swap _ _ _) ?_;refine Be ((n7,n8,f1,f2)) ?_ ⟨atd,atd,trivial⟩ (kg U) (List.Sublist.refl _))
    exact⟨ho3,ho4⟩
 rintro⟨m7,m8,e1,e2⟩ ⟨he1,he2⟩;refine rC tb 4 U (y_ (Lo U isAgg3 (by first|exact c_o)) ?_ U);refine rO tb 10 U ?_;refine y_ (Lp U isAgg151 sizeOf151 U (by first|exact Ce (o:=4) (k:=4) fdd|exact A2)) ?_ U;refine rO tb 1 U ?_;refine y_ (Lp U isAgg151 sizeOf151 U (by first|exact Ce (o:=0) (k:=4) fdd|exact A2)) ?_ U;refine e_ (Ef (T U) (qe2 U U) call138 (B0 (trH nt e1 e2 (addF b (addF a t).1).1) qlc (conn_s nt e1 e2 (addF b (addF a t).1).1 he1 he2 hb1 (addF a t).2.last (addF b (addF a t).1).2.first n2 p3 qom fdd))) ?_ U;rintro _ _ ⟨_,_,rfl⟩;refine rO tb 5 U ?_;refine y_ (Lp U isAgg151 sizeOf151 U (by first|exact Ce (o:=0) (k:=4) fdd|exact A2)) ?_ U;refine rO tb 1 U ?_;refine y_ (Lp U isAgg151 sizeOf151 U (by first|exact Ce (o:=4) (k:=4) fdd|exact A2)) ?_ U;refine rO tb 1 U (y_ (Lo U isAgg4 (by first|exact c_o)) ?_ U);refine rO tb 1 U ?_
 first|refine Bi (s:=95) (Aa U) (fun c95=> ?_) (fun c95=> ?_)|refine B2 (s:=95) (Aa U) (fun c95=> ?_) (fun c95=> ?_)
 ·refine rO tb 1 U (A3 (Lo U isAgg4 (by first|exact c_o)) U (Ax U U (Aa U)) ?_);refine rO tb 1 U (y_ (Bg (.cons (T U) (.cons (T U) (.cons (T U) .nil))) (Ei _ _ _ _ _ _ _ _ _)) (e_ (Ap zeroValue153 cs_) ?_ U) U);rintro _ _ ⟨n9,rfl,rfl⟩
  first|refine A9 (Ls U U sizeOf153) U Ac ?_
  rintro _ _ ⟨rfl,rfl⟩;refine rO tb 6 U (y_ (Lo U isAgg4 (by first|exact c_o)) ?_ U);refine rO tb 2 U (Cf (Ae (Aa U) (by rw[c95])) ?_);refine rC tb 2 U ?_;refine y_ (Lp U isAgg151 sizeOf151 U (by first|exact Ce (o:=0) (k:=4) fdd|exact A2)) ?_ U;refine rO tb 1 U ?_;refine y_ (Lp U isAgg151 sizeOf151 U (by first|exact Ce (o:=0) (k:=4) fdd|exact A2)) ?_ U;refine y_ (Bb (qe2 U U) call90 (fun H' hs=>Ld _ qom _ qom)) ?_ U;refine rO tb 1 U (e_ (Ki (o:=0) (m:=4) (T U) (T U) sizeOf151) ?_ U);rintro _ _ ⟨rfl,rfl⟩;refine kO tb 2 [4,7,8,9] rfl U (rG tb 4 U (y_ (Lo U isAgg4 (by first|exact c_o)) ?_ U));refine rO tb 2 U ?_
  first|refine Ak (Aa U) (fun c109=> ?_) (fun c109=> ?_)|refine Au (Aa U) (fun c109=> ?_) (fun c109=> ?_)
  ·refine rC tb 2 U ?_;refine y_ (Lp U isAgg151 sizeOf151 U (by first|exact Ce (o:=4) (k:=4) fdd|exact A2)) ?_ U;refine rO tb 1 U ?_;refine y_ (Lp U isAgg151 sizeOf151 U (by first|exact Ce (o:=4) (k:=4) fdd|exact A2)) ?_ U;refine y_ (Bb (qe2 U U) call90 (fun H' hs=>Ld _ qom _ qom)) ?_ U;refine rO tb 1 U (e_ (Ki (o:=4) (m:=4) (T U) (T U) sizeOf151) ?_ U);rintro _ _ ⟨rfl,rfl⟩;refine rO tb 4 U (y_ (Lp U isAgg153 sizeOf153 U (by first|exact A2)) ?_ U)
   first|refine A9 (Ls U U sizeOf153) U Ac ?_
   rintro _ _ ⟨rfl,rfl⟩;refine rO tb 5 U (As U (.cellA (Aa U) isAgg153 sizeOf153 U (by first|exact A2) .nil) ?_);exact⟨_,⟨(e1,e2),⟨by simp only[addF,c95,c109,Bool.true_and,Bool.false_and,eq_self,if_true,if_false,Bool.false_eq_true,reduceIte];rfl,he1,by simp only[addF,conn,Dj];exact he2⟩,rfl⟩,sbt⟩
  ·refine rC tb 4 U (y_ (Lp U isAgg153 sizeOf153 U (by first|exact A2)) ?_ U)
   first|refine A9 (Ls U U sizeOf153) U Ac ?_
   rintro _ _ ⟨rfl,rfl⟩;refine rO tb 5 U (As U (.cellA (Aa U) isAgg153 sizeOf153 U (by first|exact A2) .nil) ?_);exact⟨_,⟨(e1,e2),⟨by simp only[addF,c95,c109,Bool.true_and,Bool.false_and,eq_self,if_true,if_false,Bool.false_eq_true,reduceIte];rfl,he1,by simp only[addF,conn,Dj];exact he2⟩,rfl⟩,sbt⟩
 ·refine rO tb 3 U (y_ (Bg (.cons (T U) (.cons (T U) (.cons (T U) .nil))) (Ei _ _ _ _ _ _ _ _ _)) (e_ (Ap zeroValue153 cs_) ?_ U) U);rintro _ _ ⟨n9,rfl,rfl⟩
  first|refine A9 (Ls U U sizeOf153) U Ac ?_
  rintro _ _ ⟨rfl,rfl⟩;refine rO tb 6 U (y_ (Lo U isAgg4 (by first|exact c_o)) ?_ U);refine rO tb 2 U (Cz (Ae (Aa U) (by rw[c95])) ?_);refine rC tb 6 U (y_ (Lo U isAgg4 (by first|exact c_o)) ?_ U);refine kO tb 2 [4,7,9,109] rfl U ?_
  first|refine Ak (Aa U) (fun c109=> ?_) (fun c109=> ?_)|refine Au (Aa U) (fun c109=> ?_) (fun c109=> ?_)
  ·refine rC tb 2 U ?_;refine y_ (Lp U isAgg151 sizeOf151 U (by first|exact Ce (o:=4) (k:=4) fdd|exact A2)) ?_ U;refine rO tb 1 U ?_;refine y_ (Lp U isAgg151 sizeOf151 U (by first|exact Ce (o:=4) (k:=4) fdd|exact A2)) ?_ U;refine y_ (Bb (qe2 U U) call90 (fun H' hs=>Ld _ qom _ qom)) ?_ U;refine rO tb 1 U (e_ (Ki (o:=4) (m:=4) (T U) (T U) sizeOf151) ?_ U);rintro _ _ ⟨rfl,rfl⟩;refine rO tb 4 U (y_ (Lp U isAgg153 sizeOf153 U (by first|exact A2)) ?_ U)
   first|refine A9 (Ls U U sizeOf153) U Ac ?_
   rintro _ _ ⟨rfl,rfl⟩;refine rO tb 5 U (As U (.cellA (Aa U) isAgg153 sizeOf153 U (by first|exact A2) .nil) ?_);exact⟨_,⟨(e1,e2),⟨by simp only[addF,c95,c109,Bool.true_and,Bool.false_and,eq_self,if_true,if_false,Bool.false_eq_true,reduceIte];rfl,he1,by simp only[addF,conn,Dj];exact he2⟩,rfl⟩,sbt⟩
  ·refine rC tb 4 U (y_ (Lp U isAgg153 sizeOf153 U (by first|exact A2)) ?_ U)
   first|refine A9 (Ls U U sizeOf153) U Ac ?_
   rintro _ _ ⟨rfl,rfl⟩;refine rO tb 5 U (As U (.cellA (Aa U) isAgg153 sizeOf153 U (by first|exact A2) .nil) ?_);exact⟨_,⟨(e1,e2),⟨by simp only[addF,c95,c109,Bool.true_and,Bool.false_and,eq_self,if_true,if_false,Bool.false_eq_true,reduceIte];rfl,he1,by simp only[addF,conn,Dj];exact he2⟩,rfl⟩,sbt⟩
theorem add_star {w0:World}{q:Option Addr}{c:Nat}{ma:Rxm}{a:Re}(iha:AddS w0 ma a):AddS w0 (.mk 6 ⟨#[]⟩ q c [ma]) (.star a):=by
 intro R nt d1 d2 t hM hok1 hok2 ht hl;show FSpec prog w0 86 #[.pointer (some ⟨nt,0,none⟩), .agg #[.int .i64 6, .string ⟨#[]⟩, .slice q 1 c]] (trH nt d1 d2 t++R) _;simp only[Re.lv] at hl;obtain⟨hA,hMM,_,_⟩:=hM;have hMa:=hMM ma (by simp);obtain⟨ha1,ha2,ha3,ha4⟩:=Du a ht qom;have p1:2 ^ (t.names.length+a.lv)<=2 ^ 64:=Nat.pow_le_pow_right qom qom;rw[<- ha2] at ha4;refine Az func86 U ntmps86 U (rD tb 2 U (e_ (Lt U cs_) ?_ U));rintro _ _ ⟨n2,rfl,rfl⟩;refine e_ (Lt U cs_) ?_ U;rintro _ _ ⟨n3,rfl,rfl⟩;refine e_ (Ap zeroValue153 cs_) ?_ U;rintro _ _ ⟨n4,rfl,rfl⟩;refine rO tb 4 U (y_ (Cg (.cons (T U) .nil)) (rO tb 7 U (y_ (Lo U isAgg3 (by first|exact c_o)) ?_ U)) U);refine rO tb 39 U (Gs 7 _ mixd qkr (show List.Sublist ((n4,Cl [.int .u64 0, .int .u64 0, .int .u64 0, .int .u64 0, .int .u64 0, .int .u64 0, .int .u64 0, .int .u64 0, .bool false] 153)::(n3,Cl [.int .i64 6, .string ⟨#[]⟩, .slice q 1 c] 32)::(n2,Cl [.pointer (some ⟨nt,0,none⟩)] 145)::R) _ from by exact sbt) ?_ By);refine x_y (i:=0) U qkr (Lo U isAgg145 (by first|exact c_o)) ?_ U Ac;refine x_y (i:=1) U qkr (Bt (T U) Jo) ?_ U Ac;refine x_y (i:=2) U qkr (Lo U isAgg28 (by first|exact c_o)) ?_ U Ac;refine x_y (i:=3) U qkr (Bl (T U) An runUnderlying28 sizeOf32 qom (by first|exact rfl|exact hA.b0)) ?_ U Ac;refine x_y (i:=4) U qkr (Lp U isAgg32 sizeOf32 U (by first|exact hA.cs0|exact A2)) ?_ U Ac;refine Dh (i:=5) (j:=6) qkr qkr ?_ ?_
 ·refine Ca U (A1 (qe2 U U) call86 (B0 (trH nt d1 d2 t) qlc (iha _ nt d1 d2 t (hMa.mono sbt) hok1 hok2 ht qom))) ?_ U Ac;rintro _ _ ⟨⟨e1,e2⟩,⟨rfl,ho1,ho2⟩,rfl⟩;refine⟨sbt,(Cn (i:=6) qkr qkr ?_)⟩;refine Ca U (Ap zeroValue153 cs_) ?_ U Ac;rintro _ _ ⟨n10,rfl,rfl⟩;refine⟨sbt,(Cv qkr U ?_)⟩
  first|refine A9 (Ls U U sizeOf153) U Ac ?_
  rintro _ _ ⟨rfl,rfl⟩;refine rO tb 6 U ?_;refine y_ (Lp U isAgg151 sizeOf151 U (by first|exact Ce (o:=4) (k:=4) fdd|exact A2)) ?_ U;refine rO tb 1 U ?_;refine y_ (Lp U isAgg151 sizeOf151 U (by first|exact Ce (o:=0) (k:=4) fdd|exact A2)) ?_ U;refine e_ (Ef (T U) (qe2 U U) call138 (B0 (trH nt e1 e2 (addF a t).1) qlc (conn_s nt e1 e2 (addF a t).1 ho1 ho2 ha1 (addF a t).2.last (addF a t).2.first n2 ha4 qom fdd))) ?_ U;rintro _ _ ⟨_,_,rfl⟩;refine kO tb 2 [4,10] rfl U (rG tb 3 U ?_);refine y_ (Lp U isAgg151 sizeOf151 U (by first|exact Ce (o:=0) (k:=4) fdd|exact A2)) ?_ U;refine rO tb 1 U ?_;refine y_ (Lp U isAgg151 sizeOf151 U (by first|exact Ce (o:=4) (k:=4) fdd|exact A2)) ?_ U;refine y_ (Bg (.cons (T U) (.cons (T U) (.cons An .nil))) (Ei _ _ _ _ _ _ _ _ _)) ?_ U
  first|refine A9 (Ls U U sizeOf153) U Ac ?_
  rintro _ _ ⟨rfl,rfl⟩;refine rO tb 5 U (As U (.cellA (Aa U) isAgg153 sizeOf153 U (by first|exact A2) .nil) ?_);exact⟨_,⟨(e1,e2),⟨rfl,ho1,by simp only[addF,conn,Dj];exact ho2⟩,rfl⟩,sbt⟩
 ·refine Ca U (Ap zeroValue153 cs_) ?_ U Ac;rintro _ _ ⟨n10,rfl,rfl⟩;refine⟨sbt,(Cn (i:=5) qkr qkr ?_)⟩;refine Ca U (A1 (qe2 U U) call86 (B0 (trH nt d1 d2 t) qlc (iha _ nt d1 d2 t (hMa.mono sbt) hok1 hok2 ht qom))) ?_ U Ac;rintro _ _ ⟨⟨e1,e2⟩,⟨rfl,ho1,ho2⟩,rfl⟩;refine⟨sbt,(Cv qkr U ?_)⟩
  first|refine A9 (Ls U U sizeOf153) U Ac ?_
  rintro _ _ ⟨rfl,rfl⟩;refine rO tb 6 U ?_;refine y_ (Lp U isAgg151 sizeOf151 U (by first|exact Ce (o:=4) (k:=4) fdd|exact A2)) ?_ U;refine rO tb 1 U ?_;refine y_ (Lp U isAgg151 sizeOf151 U (by first|exact Ce (o:=0) (k:=4) fdd|exact A2)) ?_ U;refine e_ (Ef (T U) (qe2 U U) call138 (B0 (trH nt e1 e2 (addF a t).1) qlc (conn_s nt e1 e2 (addF a t).1 ho1 ho2 ha1 (addF a t).2.last (addF a t).2.first n2 ha4 qom fdd))) ?_ U;rintro _ _ ⟨_,_,rfl⟩;refine kO tb 2 [4,10] rfl U (rG tb 3 U ?_);refine y_ (Lp U isAgg151 sizeOf151 U (by first|exact Ce (o:=0) (k:=4) fdd|exact A2)) ?_ U;refine rO tb 1 U ?_;refine y_ (Lp U isAgg151 sizeOf151 U (by first|exact Ce (o:=4) (k:=4) fdd|exact A2)) ?_ U;refine y_ (Bg (.cons (T U) (.cons (T U) (.cons An .nil))) (Ei _ _ _ _ _ _ _ _ _)) ?_ U
  first|refine A9 (Ls U U sizeOf153) U Ac ?_
  rintro _ _ ⟨rfl,rfl⟩;refine rO tb 5 U (As U (.cellA (Aa U) isAgg153 sizeOf153 U (by first|exact A2) .nil) ?_);exact⟨_,⟨(e1,e2),⟨rfl,ho1,by simp only[addF,conn,Dj];exact ho2⟩,rfl⟩,sbt⟩
theorem add_s {w0:World}{m:Rxm}{e:Re}(h:Is m e):AddS w0 m e:=by
 induction h with
 |emp=>exact add_emp
 |nod _=>exact add_nod
 |any=>exact add_any
 |seq _ _ ih1 ih2=>exact add_seq ih1 ih2
 |alt _ _ ih1 ih2=>exact add_alt ih1 ih2
 |star _ ih=>exact add_star ih
theorem bd83_z  (w:World):(Instr.build 148 #[]).run prog w= .ok (.agg #[.slice none 0 0, .slice none 0 0]) w:=by kernel_rfl
def Low (t:Tr):Prop:=∀ f∈t.fol,f<2 ^ t.names.length
theorem Low.push {t:Tr}(h:Low t)(s:ByteArray):Low ⟨t.names++[s],t.fol++[0]⟩:=fun f hf=>by
 simp only[List.mem_append,List.mem_cons,List.not_mem_nil,or_false] at hf;simp only[List.length_append,List.length_cons,List.length_nil];rcases hf with hf|rfl
 ·exact Nat.lt_of_lt_of_le (h f hf) (Nat.pow_le_pow_right qom qom)
 ·exact Nat.two_pow_pos _
theorem Low.conn {t:Tr}(h:Low t){a b:Nat}(hb:b<2 ^ t.names.length):Low (conn t a b):=fun f hf=>by
 simp only[Go.Proofs.YtnafbfbfmgfcfaaGreatDoor.conn,connK,List.mem_mapIdx] at hf;obtain⟨i,hi,rfl⟩:=hf;show _<2 ^ t.names.length
 split
 ·exact Nat.or_lt_two_pow (h _ (List.getElem_mem _)) hb
 ·exact h _ (List.getElem_mem _)
theorem Gg:∀ (e:Re) {t:Tr},TrOk t->t.names.length+e.lv<=64->Low t->Low (addF e t).1
 | .emp,t,_,_,h=>h
 | .nod s,t,_,_,h=>h.push s
 | .any,t,_,_,h=>h.push _
 | .alt a b,t,ht,hl,h=>by
  simp only[Re.lv] at hl;obtain⟨h1,h2,h3,h4⟩:=Du a ht qom;exact Gg b h1 qom (Gg a ht qom h)
 | .seq a b,t,ht,hl,h=>by
  simp only[Re.lv] at hl;obtain⟨h1,h2,h3,h4⟩:=Du a ht qom;obtain⟨k1,k2,k3,k4⟩:=Du b h1 qom;refine(Gg b h1 qom (Gg a ht qom h)).conn ?_;rw[k2];exact k3
 | .star a,t,ht,hl,h=>by
  simp only[Re.lv] at hl;obtain⟨h1,h2,h3,h4⟩:=Du a ht qom;refine(Gg a ht qom h).conn ?_;rw[h2];exact h3
def t00:Tr:=⟨[],[]⟩
theorem Kp:TrOk t00:=⟨rfl,by decide,fun f hf=>by cases hf⟩
theorem t00_low:Low t00:=fun f hf=>by cases hf
structure TrR (w0:World) (H:List (Nat × Obj)) (nt:Nat) (d1 d2:Sl) (t:Tr):Prop where
 c1:Cell w0 H ⟨nt,0,none⟩ (slV d1 t.names.length)
 c2:Cell w0 H ⟨nt,1,none⟩ (slV d2 t.fol.length)
 a1:Arr w0 H (slQ d1) 1 encS t.names
 a2:Arr w0 H (slQ d2) 4 encSet t.fol
theorem TrR.mono {w0:World}{H H':List (Nat × Obj)}{nt:Nat}{d1 d2:Sl}{t:Tr}(h:TrR w0 H nt d1 d2 t)(hs:H.Sublist H':=by exact sbt):TrR w0 H' nt d1 d2 t:=⟨h.c1.mono hs,h.c2.mono hs,h.a1.mono hs,h.a2.mono hs⟩
theorem tr_r {w0:World}{R:List (Nat × Obj)}{nt:Nat}{d1 d2:Sl}{t:Tr}(h1:SlOk d1 t.names.length 1)(h2:SlOk d2 t.fol.length 4):TrR w0 (trH nt d1 d2 t++R) nt d1 d2 t:=⟨tr_c1,Km,tr_a1 h1,Ix h2⟩
theorem loc_t0 {e:Nat × Obj}{nt:Nat}{X:List (Nat × Obj)}:LocL (e::(nt,Cl [.slice none 0 0, .slice none 0 0] 148)::X) (trH nt .nil .nil t00) (e::X) (fun M'=>e::(M'++X)):= .t (show LocL (trH nt .nil .nil t00++X) _ _ _ from .h)
theorem cell1 {w0:World}{H:List (Nat × Obj)}{b o:Nat}{v:Value}(h:Cells w0 H b o [v]):Cell w0 H ⟨b,o,none⟩ v:=h 0 v U
end Go.Proofs.YtnafbfbfmgfcfaaGreatDoor
namespace Go.Proofs.YtnafbfbfmgfcfaaGreatDoor
open _root_.Go.Proofs.Tryz
open Go.RowKit Go.Shelf Go.Sort Go.Proofs
set_option linter.unusedVariables false
set_option linter.unusedSimpArgs false
set_option linter.unusedSectionVars false
set_option maxRecDepth 100000
def laysSort_ren:Go.Shelf.Ren:=⟨fun|190=>166|125=>194|258=>196|128=>220|129=>221|302=>222|303=>223|304=>224|305=>225|306=>226|307=>227|308=>199|309=>228|310=>229|333=>240|329=>236|330=>237|334=>241|335=>242|336=>230|344=>245|n=>n,fun|31=>68|9=>9|3=>3|46=>280|0=>0|51=>302|53=>149|4=>4|183=>296|182=>295|131=>65|5=>5|218=>311|222=>315|228=>319|229=>320|n=>n,fun|n=>n⟩
theorem laysSort:Go.Proofs.Lays.n190 prog laysSort_ren:={
 mixed:=by kernel_rfl,
 f125:=func194.trans (congrArg some qkr),
 f128:=func220.trans (congrArg some qkr),
 f129:=func221.trans (congrArg some qkr),
 f190:=func166.trans (congrArg some qkr),
 f258:=func196.trans (congrArg some qkr),
 f302:=func222.trans (congrArg some qkr),
 f303:=func223.trans (congrArg some qkr),
 f304:=func224.trans (congrArg some qkr),
 f305:=func225.trans (congrArg some qkr),
 f306:=func226.trans (congrArg some qkr),
 f307:=func227.trans (congrArg some qkr),
 f308:=func199.trans (congrArg some qkr),
 f309:=func228.trans (congrArg some qkr),
 f310:=func229.trans (congrArg some qkr),
 f329:=func236.trans (congrArg some qkr),
 f330:=func237.trans (congrArg some qkr),
 f333:=func240.trans (congrArg some qkr),
 f334:=func241.trans (congrArg some qkr),
 f335:=func242.trans (congrArg some qkr),
 f336:=func230.trans (congrArg some qkr),
 f344:=func245.trans (congrArg some qkr),
 t0:=underlying0,
 a0:=isAgg0,
 z0:=sizeOf0,
 v0:=zeroValue0,
 t3:=underlying3,
 a3:=isAgg3,
 z3:=sizeOf3,
 v3:=zeroValue3,
 t4:=underlying4,
 a4:=isAgg4,
 z4:=sizeOf4,
 v4:=zeroValue4,
 t5:=underlying5,
 a5:=isAgg5,
 z5:=sizeOf5,
 v5:=zeroValue5,
 t9:=underlying9,
 a9:=isAgg9,
 z9:=sizeOf9,
 v9:=zeroValue9,
 t31:=underlying68,
 a31:=isAgg68,
 z31:=sizeOf68,
 v31:=zeroValue68,
 t46:=underlying280,
 a46:=isAgg280,
 z46:=sizeOf280,
 v46:=zeroValue280,
 t51:=underlying302,
 a51:=isAgg302,
 z51:=sizeOf302,
 v51:=zeroValue302,
 t53:=underlying149,
 a53:=isAgg149,
 z53:=sizeOf149,
 v53:=zeroValue149,
 t131:=underlying65,
 a131:=isAgg65,
 z131:=sizeOf65,
 v131:=zeroValue65,
 t182:=underlying295,
 a182:=isAgg295,
 z182:=sizeOf295,
 v182:=zeroValue295,
 t183:=underlying296,
 a183:=isAgg296,
 z183:=sizeOf296,
 v183:=zeroValue296,
 t218:=underlying311,
 a218:=isAgg311,
 z218:=sizeOf311,
 v218:=zeroValue311,
 t222:=underlying315,
 a222:=isAgg315,
 z222:=sizeOf315,
 v222:=zeroValue315,
 t228:=underlying319,
 a228:=isAgg319,
 z228:=sizeOf319,
 v228:=zeroValue319,
 t229:=underlying320,
 a229:=isAgg320,
 z229:=sizeOf320,
 v229:=zeroValue320}
def laysCompact_ren:Go.Shelf.Ren:=⟨fun|194=>167|n=>n,fun|31=>68|9=>9|3=>3|4=>4|0=>0|n=>n,fun|n=>n⟩
theorem laysCompact:Go.Proofs.Lays.n194 prog laysCompact_ren:={
 mixed:=by kernel_rfl,
 f194:=func167.trans (congrArg some qkr),
 t0:=underlying0,
 a0:=isAgg0,
 z0:=sizeOf0,
 v0:=zeroValue0,
 t3:=underlying3,
 a3:=isAgg3,
 z3:=sizeOf3,
 v3:=zeroValue3,
 t4:=underlying4,
 a4:=isAgg4,
 z4:=sizeOf4,
 v4:=zeroValue4,
 t9:=underlying9,
 a9:=isAgg9,
 z9:=sizeOf9,
 v9:=zeroValue9,
 t31:=underlying68,
 a31:=isAgg68,
 z31:=sizeOf68,
 v31:=zeroValue68}
abbrev toL (s:ByteArray):List UInt8:=s.data.toList
abbrev ofL (u:List UInt8):ByteArray:=⟨u.toArray⟩
theorem map_to_of (l:List (List UInt8)):(l.map ofL).map toL=l:=by simp[List.map_map,Function.comp_def]
theorem enc_str (l:List ByteArray):l.flatMap encS=(l.map toL).map encStr:=by
 induction l with
 |nil=>rfl
 |cons x l ih=>rw[List.flatMap_cons,ih];rfl
theorem enc_str2 (l:List (List UInt8)):(l.map ofL).flatMap encS=l.map encStr:=by rw[enc_str,map_to_of]
abbrev srtU (l:List (List UInt8)):List (List UInt8):=l.mergeSort fun x y=>decide (x<=y)
def srtB (l:List ByteArray):List ByteArray:=(srtU (l.map toL)).map ofL
def cptB (l:List ByteArray):List ByteArray:=(Lib.compact (l.map toL)).map ofL
theorem Ec (l:List ByteArray):(srtB l).length=l.length:=by simp[srtB]
theorem compactU_len (zs:List (List UInt8)):(Lib.compact zs).length<=zs.length:=by
 unfold Lib.compact Lib.compactUpTo;rw[List.length_map];exact Nat.le_trans (List.length_filter_le _ _) (by simp)
theorem sortB_s {w0:World}{H:List (Nat × Obj)}(d:Sl)(l:List ByteArray)(hok:SlOk d l.length 1)(hsz:l.length<=2000000):
  FSpec prog w0 166 #[slV d l.length] (slH d (l.flatMap encS) 9++H) (fun v H'=>v= .tuple #[]/\H'=slH d ((srtB l).flatMap encS) 9++H):=fun w hO=>by
 have hlen:(l.map toL).length=(srtU (l.map toL)).length:=by simp[srtU]
 have e0:l.length=(l.map toL).length:=by simp
 rw[enc_str] at hO;unfold srtB;rw[enc_str2];cases d with
 |nil=>
  have:l=[]:=List.eq_nil_of_length_eq_zero hok;subst this;exact(Any.slices_Sort_string_none laysSort none 0 w).mono fun e w' ⟨he,hw⟩=>⟨_,_,he,hw ▸ hO,rfl,by simp[slH]⟩
 |blk n cap junk=>
  simp only[slH,List.singleton_append] at hO ⊢;show Calls prog 166 #[.slice (some ⟨n,0,none⟩) l.length cap] w _;rw[e0];exact(Any.slices_Sort_string laysSort n 0 cap (l.map toL) w (own_holds hO) (own_lt hO) qom).mono fun e w' ⟨he,q,os,hw⟩=>⟨_,_,he,hw ▸ own_row (l:=l.map toL) (l':=srtU (l.map toL)) hO hlen q os,rfl,rfl⟩
theorem compactB_s {w0:World}{H:List (Nat × Obj)}(d:Sl)(l:List ByteArray)(hok:SlOk d l.length 1)(hsz:l.length<=2000000):
  FSpec prog w0 167 #[slV d l.length] (slH d (l.flatMap encS) 9++H) (fun v H'=>∃ d',v=slV d' (cptB l).length/\SlOk d' (cptB l).length 1/\H'=slH d' ((cptB l).flatMap encS) 9++H):=fun w hO=>by
 have e0:l.length=(l.map toL).length:=by simp
 have e1:(cptB l).length=(Lib.compact (l.map toL)).length:=by simp[cptB]
 rw[enc_str] at hO;rw[e1];unfold cptB;rw[enc_str2];cases d with
 |nil=>
  have:l=[]:=List.eq_nil_of_length_eq_zero hok;subst this;exact(Any.slices_Compact_string_empty laysCompact none 0 w).mono fun e w' ⟨he,hw⟩=>⟨_,_,he,hw ▸ hO, .nil,rfl,rfl,by simp[slH]⟩
 |blk n cap junk=>
  have hcl:=compactU_len (l.map toL);obtain⟨hk1,hk2⟩:=hok;rw[e0] at hk1 hk2 hsz;simp only[slH,List.singleton_append] at hO ⊢;show Calls prog 167 #[.slice (some ⟨n,0,none⟩) l.length cap] w _;rw[e0];refine(Any.slices_Compact_string laysCompact n 0 cap (l.map toL) w (own_holds hO) qom hk1).mono fun e w' ⟨he,q,hw⟩=>⟨_,(n,Cl ((Lib.compact (l.map toL)).map encStr++(List.replicate ((l.map toL).length - (Lib.compact (l.map toL)).length) (encStr [])++junk)) 9)::H,he,?_, .blk n cap (List.replicate ((l.map toL).length - (Lib.compact (l.map toL)).length) (encStr [])++junk),rfl,⟨by omega,?_⟩,rfl⟩
  ·have h1:=own_row (l:=l.map toL) (l':=Lib.compact (l.map toL)++List.replicate ((l.map toL).length - (Lib.compact (l.map toL)).length) []) hO (by simp at hcl ⊢;omega) q #[];rw[grow_empty,<- hw] at h1
   simpa[List.append_assoc] using h1
  ·simp[hk2];simp at hcl;omega
end Go.Proofs.YtnafbfbfmgfcfaaGreatDoor
namespace Go.Proofs.YtnafbfbfmgfcfaaGreatDoor
open _root_.Go.Proofs.Tryz
open Go.RowKit
set_option linter.unusedVariables false
set_option linter.unusedSimpArgs false
set_option linter.unusedSectionVars false
set_option maxRecDepth 100000
def LetS (w0:World) (m:Rxm) (l:List ByteArray):Prop:=∀ (H:List (Nat × Obj)),RxM w0 H m->FSpec prog w0 123 #[.agg (encRx m).toArray] H (fun v H'=>∃ d,(v=slV d l.length/\SlOk d l.length 1)/\H'=slH d (l.flatMap encS) 9++H)
theorem loc_nil {H:List (Nat × Obj)}{c:List Value}{e:TypeId}:LocL H (slH .nil c e) H (fun M'=>M'++H):=show LocL ([]++H) [] H _ from .h
theorem Fx (l:List ByteArray):(cptB l).length<=l.length:=by
 have:=compactU_len (l.map toL);simpa[cptB] using this
theorem FSpec.toL {P:Program}{w0:World}{f:FuncId}{args:Array Value}{M:List (Nat × Obj)}{v0:Value}{M':List (Nat × Obj)}{R:List (Nat × Obj)}(h:FSpec P w0 f args (M++R) (fun v H'=>v=v0/\H'=M'++R)):FSpec P w0 f args (M++R) (fun v H'=>∃ x:Unit,v=v0/\H'=M'++R):=h.mono fun v H' e=>⟨(),e⟩
theorem FSpec.toD {P:Program}{w0:World}{f:FuncId}{args:Array Value}{M:List (Nat × Obj)}{n:Nat}{M':Sl->List (Nat × Obj)}{R:List (Nat × Obj)}(h:FSpec P w0 f args (M++R) (fun v H'=>∃ d,v=slV d n/\SlOk d n 1/\H'=M' d++R)):FSpec P w0 f args (M++R) (fun v H'=>∃ d,(v=slV d n/\SlOk d n 1)/\H'=M' d++R):=h.mono fun v H' ⟨d,h1,h2,h3⟩=>⟨d,⟨h1,h2⟩,h3⟩
theorem flatMap_take {α β:Type}[Inhabited α] (f:α->List β)(xs:List α)(i:Nat)(h:i<xs.length):(xs.take (i+1)).flatMap f=(xs.take i).flatMap f++f (gd xs i):=by
 rw[List.take_add_one,Dt h,List.flatMap_append];simp
theorem flatMap_take_le {α β:Type}[Inhabited α] (f:α->List β)(xs:List α)(i:Nat)(h:i<xs.length):((xs.take i).flatMap f).length+(f (gd xs i)).length<=(xs.flatMap f).length:=by
 have e:xs.flatMap f=(xs.take (i+1)).flatMap f++(xs.drop (i+1)).flatMap f:=by rw[<- List.flatMap_append,List.take_append_drop]
 rw[e,flatMap_take f xs i h,List.length_append,List.length_append];omega
theorem compS_s {w0:World}{H:List (Nat × Obj)}(d:Sl)(l:List ByteArray)(hok:SlOk d l.length 1)(hsz:l.length<=100000):
  FSpec prog w0 167 #[slV d l.length] (slH d ((srtB l).flatMap encS) 9++H) (fun v H'=>∃ d',(v=slV d' (cptB (srtB l)).length/\SlOk d' (cptB (srtB l)).length 1)/\H'=slH d' ((cptB (srtB l)).flatMap encS) 9++H):=by
 have h:=(compactB_s (w0:=w0) (H:=H) d (srtB l) (by rw[Ec];exact hok) (by rw[Ec];omega)).toD;rw[Ec] at h;exact h
theorem Iy {w0:World}{k:Int}{s:ByteArray}{q:Option Addr}{c:Nat}{xs:List Rxm}(hk:k≠2)(f:Rxm->List ByteArray)(hf:∀ a∈xs,LetS w0 a (f a))(hb:(xs.flatMap f).length<=64):LetS w0 (.mk k s q c xs) (cptB (srtB (xs.flatMap f))):=by
 intro H hM;show FSpec prog w0 123 #[.agg #[.int .i64 k, .string s, .slice q xs.length c]] H _;obtain⟨hA,hMM,_,hxl⟩:=hM;refine Az func123 U ntmps123 U (rD tb 2 U (e_ (Lt U cs_) ?_ U));rintro _ _ ⟨n1,rfl,rfl⟩;refine rO tb 12 U (y_ (Lo U isAgg3 (by first|exact c_o)) ?_ U);refine rO tb 3 U ?_
 first|refine Ak (Aa U) (fun c8=> ?_) (fun c8=> ?_)|refine Au (Aa U) (fun c8=> ?_) (fun c8=> ?_)
 ·exfalso;omega
 ·refine rC tb 6 U (y_ (Lo U isAgg28 (by first|exact c_o)) ?_ U);refine rO tb 5 U ?_;refine Bz (X:=Nat × Sl) (V:=fun ⟨i,d⟩=>[(17, .int .i64 (i:Nat)),(3,slV d ((xs.take i).flatMap f).length)]) (C:=[(15,_),(16,_)]) (G:=fun ⟨i,d⟩=>slH d (((xs.take i).flatMap f).flatMap encS) 9++(n1,Cl [.int .i64 k, .string s, .slice q xs.length c] 32)::H) (φ:=fun ⟨i,d⟩=>i<=xs.length/\SlOk d ((xs.take i).flatMap f).length 1) (μ:=fun ⟨i,d⟩=>xs.length - i) (x0:=(0, .nil)) ?_ (kg U) ⟨(by first|exact Aa rfl|(refine Ae (Aa rfl) (vint ?_);omega)|(refine Ae (Aa rfl) ?_;simp;done)|(refine Ae (Aa rfl) ?_;exact by rw[hfl])),(by first|exact Aa rfl|(refine Ae (Aa rfl) (vint ?_);omega)|(refine Ae (Aa rfl) ?_;simp;done)|(refine Ae (Aa rfl) ?_;exact by rw[hfl])),trivial⟩ sb0 ?_
  ·exact⟨Nat.zero_le _,rfl⟩
  rintro⟨i,d⟩ ⟨hi,hd⟩;refine rD tb 6 U ?_
  first|refine Ak (Aa U) (fun c18=> ?_) (fun c18=> ?_)|refine Au (Aa U) (fun c18=> ?_) (fun c18=> ?_)
  ·refine rC tb 6 U (y_ (Lq U U runUnderlying28 sizeOf32 qom (by first|exact rfl|exact hA.b (i:=i) qom)) ?_ U);refine y_ (Lp U isAgg32 sizeOf32 U (by first|exact((hA.mono sbt).cs (i:=i) qom)|exact A2)) ?_ U;refine e_ (Ap zeroValue32 cs_) ?_ U;rintro _ _ ⟨n5,rfl,rfl⟩
   first|refine A9 (Ls U U sizeOf32) U Ac ?_
   rintro _ _ ⟨rfl,rfl⟩;refine rO tb 4 U (y_ (Lp U isAgg32 sizeOf32 U (by first|exact A2)) ?_ U);refine e_ (A1 (qe1 U) call123 (hf _ (Ao qom) _ ((hMM _ (Ao qom)).mono sbt))) ?_ U;rintro _ _ ⟨e,⟨rfl,hoe⟩,rfl⟩;refine e_ (eff_appN_at (f (gd xs i)) (by':=16) qlc (T U) (T U) runUnderlying68 runUnderlying68 sizeOf9 typeInfo9 U zeroValue9 U (fun _=>rfl) (fun _=>rfl) hd qde (by have:=flatMap_take_le f xs i qom;omega) ((A5 (enc:=encS) (sz:=1) (fun _=>rfl) hoe))) ?_ U;rintro _ _ ⟨d',rfl,hok',rfl⟩;refine rO tb 5 U (y_ (Bd (T U) An qom) ?_ U);refine rO tb 2 U ?_;have hft:=flatMap_take f xs i qom;have hfl:((xs.take (i+1)).flatMap f).length=((xs.take i).flatMap f).length+(f (gd xs i)).length:=by rw[hft,List.length_append]
   refine A8 ((i+1,d')) ?_ ?_ ⟨(by first|exact Aa U|(refine Ae (Aa U) (vint ?_);omega)|(refine Ae (Aa U) ?_;simp;done)|(refine Ae (Aa U) ?_;exact by rw[hfl])),(by first|exact Aa U|(refine Ae (Aa U) (vint ?_);omega)|(refine Ae (Aa U) ?_;simp;done)|(refine Ae (Aa U) ?_;exact by rw[hfl])),trivial⟩ (kg U) ?_
   ·refine⟨by omega,?_⟩;rw[flatMap_take f xs i qom,List.length_append];exact hok'
   ·first|omega|(simp only[];omega)
   ·simp only[hft];exact sbt
  ·have hi2:i=xs.length:=by omega
   subst hi2;have hd2:=hd;rw[List.take_length] at hd2;simp only[List.take_length];refine rC tb 2 U (Aq (rX tb 5 U (e_ (A1 (qe1 U) call166 (B0 (slH d ((xs.flatMap f).flatMap encS) 9) qlc ((sortB_s d _ hd2 qom).toL))) ?_ U)));rintro _ _ ⟨_,rfl,rfl⟩;refine rO tb 5 U (e_ (A1 (qe1 U) call167 (B0 (slH d ((srtB (xs.flatMap f)).flatMap encS) 9) qlc (compS_s d (xs.flatMap f) hd2 qom))) ?_ U);rintro _ _ ⟨e,⟨rfl,hoe⟩,rfl⟩;refine rO tb 4 U (As U (Ll U) ?_);refine⟨_,⟨e,⟨rfl,hoe⟩,rfl⟩,sbt⟩
theorem let_nod {w0:World}{s:ByteArray}{q:Option Addr}{c:Nat}:LetS w0 (.mk 2 s q c []) (cptB (srtB [s])):=by
 intro H hM;show FSpec prog w0 123 #[.agg #[.int .i64 2, .string s, .slice q 0 c]] H _;refine Az func123 U ntmps123 U (rD tb 2 U (e_ (Lt U cs_) ?_ U));rintro _ _ ⟨n1,rfl,rfl⟩;refine rO tb 12 U (y_ (Lo U isAgg3 (by first|exact c_o)) ?_ U);refine rO tb 7 U (y_ (Lo U isAgg9 (by first|exact c_o)) ?_ U);refine e_ (A7 (.cons (T U) .nil) (Gy _)) ?_ U;rintro _ _ ⟨n12,rfl,rfl⟩;refine e_ (Br (enc:=encS) (d:= .nil) (l:=[]) (s) (by':=16) loc_nil (T U) (T U) runUnderlying68 runUnderlying68 sizeOf9 typeInfo9 U zeroValue9 U (fun _=>rfl) U U qde qde) ?_ U;rintro _ _ ⟨d',rfl,hok',rfl⟩;refine rO tb 7 U (y_ (Lo U isAgg28 (by first|exact c_o)) ?_ U);refine rO tb 5 U ?_;refine Bz (X:=Sl) (V:=fun d=>[(17, .int .i64 0),(3,slV d 1)]) (C:=[(15,_),(16,_)]) (G:=fun d=>slH d ([s].flatMap encS) 9++(n1,Cl [.int .i64 2, .string s, .slice q 0 c] 32)::H) (φ:=fun d=>SlOk d 1 1) (μ:=fun d=>0) (x0:=d') ?_ (kg U) ⟨atd,atd,trivial⟩ sbt ?_
 ·exact hok'
 rintro d hd;refine rD tb 6 U ?_
 first|refine Ak (Aa U) (fun c18=> ?_) (fun c18=> ?_)|refine Au (Aa U) (fun c18=> ?_) (fun c18=> ?_)
 ·exfalso;omega
 ·refine rC tb 2 U (Aq (rX tb 5 U (e_ (A1 (qe1 U) call166 (B0 (slH d ([s].flatMap encS) 9) qlc ((sortB_s d [s] hd (by simp)).toL))) ?_ U)));rintro _ _ ⟨_,rfl,rfl⟩;refine rO tb 5 U (e_ (A1 (qe1 U) call167 (B0 (slH d ((srtB [s]).flatMap encS) 9) qlc (compS_s d [s] hd (by simp)))) ?_ U);rintro _ _ ⟨e,⟨rfl,hoe⟩,rfl⟩;refine rO tb 4 U (As U (Ll U) ?_);refine⟨_,⟨e,⟨rfl,hoe⟩,rfl⟩,sbt⟩
def letF:Re->List ByteArray
 | .emp=>cptB (srtB [])
 | .nod s=>cptB (srtB [s])
 | .any=>cptB (srtB [])
 | .seq a b=>cptB (srtB (letF a++letF b))
 | .alt a b=>cptB (srtB (letF a++letF b))
 | .star a=>cptB (srtB (letF a))
theorem Dm:∀ e:Re,(letF e).length<=e.lv
 | .emp=>by have:=Fx (srtB []);rw[Ec] at this;exact this
 | .nod s=>by have:=Fx (srtB [s]);rw[Ec] at this;simpa[letF,Re.lv] using this
 | .any=>by have:=Fx (srtB []);rw[Ec] at this;exact Nat.le_succ_of_le this
 | .seq a b=>by have:=Fx (srtB (letF a++letF b));rw[Ec,List.length_append] at this;have h1:=Dm a;have h2:=Dm b;simp only[letF,Re.lv];omega
 | .alt a b=>by have:=Fx (srtB (letF a++letF b));rw[Ec,List.length_append] at this;have h1:=Dm a;have h2:=Dm b;simp only[letF,Re.lv];omega
 | .star a=>by have:=Fx (srtB (letF a));rw[Ec] at this;have h1:=Dm a;simp only[letF,Re.lv];omega
theorem Is.det {m:Rxm}{e e':Re}(h:Is m e)(h':Is m e'):e=e':=by
 induction h generalizing e' with
 |emp=>cases h';rfl
 |nod _=>cases h';rfl
 |any=>cases h';rfl
 |seq _ _ i1 i2=>cases h' with|seq a b=>rw[i1 a,i2 b]
 |alt _ _ i1 i2=>cases h' with|alt a b=>rw[i1 a,i2 b]
 |star _ i1=>cases h' with|star a=>rw[i1 a]
open Classical in
noncomputable def reOf (m:Rxm):Re:=if h:∃ e,Is m e then Classical.choose h else .emp
theorem Dg {m:Rxm}{e:Re}(h:Is m e):reOf m=e:=by
 unfold reOf;rw[dif_pos ⟨e,h⟩];exact Is.det (Classical.choose_spec _) h
theorem letters_s {w0:World}{m:Rxm}{e:Re}(h:Is m e)(hl:e.lv<=64):LetS w0 m (letF e):=by
 induction h with
 |emp=>exact Iy qde (fun _=>[]) (fun a ha=>by cases ha) (by simp)
 |nod _=>exact let_nod
 |any=>exact Iy qde (fun _=>[]) (fun a ha=>by cases ha) (by simp)
 | @seq q c a b x y ha hb i1 i2=>
  simp only[Re.lv] at hl;have h1:=Dm x;have h2:=Dm y;have:=Iy (w0:=w0) (k:=4) (s:=⟨#[]⟩) (q:=q) (c:=c) (xs:=[a,b]) qde (fun m=>letF (reOf m)) (fun z hz=>by
   simp only[List.mem_cons,List.not_mem_nil,or_false] at hz;rcases hz with rfl|rfl
   ·rw[Dg ha];exact i1 qom
   ·rw[Dg hb];exact i2 qom) (by simp[Dg ha,Dg hb];omega)
  simpa[letF,Dg ha,Dg hb] using this
 | @alt q c a b x y ha hb i1 i2=>
  simp only[Re.lv] at hl;have h1:=Dm x;have h2:=Dm y;have:=Iy (w0:=w0) (k:=5) (s:=⟨#[]⟩) (q:=q) (c:=c) (xs:=[a,b]) qde (fun m=>letF (reOf m)) (fun z hz=>by
   simp only[List.mem_cons,List.not_mem_nil,or_false] at hz;rcases hz with rfl|rfl
   ·rw[Dg ha];exact i1 qom
   ·rw[Dg hb];exact i2 qom) (by simp[Dg ha,Dg hb];omega)
  simpa[letF,Dg ha,Dg hb] using this
 | @star q c a x ha i1=>
  simp only[Re.lv] at hl;have h1:=Dm x;have:=Iy (w0:=w0) (k:=6) (s:=⟨#[]⟩) (q:=q) (c:=c) (xs:=[a]) qde (fun m=>letF (reOf m)) (fun z hz=>by
   simp only[List.mem_cons,List.not_mem_nil,or_false] at hz;rcases hz with rfl;rw[Dg ha];exact i1 qom) (by simp[Dg ha];omega)
  simpa[letF,Dg ha] using this
def orK (fol:List Nat) (at':Nat):Nat->Nat
 |0=>0
 |i+1=>if at'.testBit i then orK fol at' i|||gd fol i else orK fol at' i
theorem orK_succ (fol:List Nat)(at' i:Nat):orK fol at' (i+1)=if at'.testBit i then orK fol at' i|||gd fol i else orK fol at' i:=rfl
theorem K3 {w n m:Nat}(h:w<2 ^ m)(hb:w.testBit n=true):n<m:=Classical.byContradiction fun hge=>by
 rw[Nat.testBit_lt_two_pow (Nat.lt_of_lt_of_le h (Nat.pow_le_pow_right qom qom))] at hb;cases hb
theorem K4 {t:Tr}(ht:TrOk t)(hw:Low t){a:Nat}(ha:a<2 ^ t.names.length):∀ i,orK t.fol a i<2 ^ t.names.length
 |0=>Nat.two_pow_pos _
 |i+1=>by
  rw[orK_succ];split
  ·rename_i h;exact Nat.or_lt_two_pow (K4 ht hw ha i) (hw _ (Ao (by rw[ht.len];exact K3 ha h)))
  ·exact K4 ht hw ha i
def takL (t:Tr) (names:List ByteArray) (a n:Nat):Bool:=((gd t.names n).toList==(⟨#[]⟩:ByteArray).toList)||(decide ((a:Int)<names.length)&&((gd t.names n).toList==(gd names a).toList))
def stepL (t:Tr) (names:List ByteArray) (can a:Nat):Nat->Nat
 |0=>0
 |i+1=>if can.testBit i&&takL t names a i then stepL t names can a i|||2 ^ i else stepL t names can a i
theorem stepL_succ (t:Tr)(names:List ByteArray)(can a i:Nat):stepL t names can a (i+1)=if can.testBit i&&takL t names a i then stepL t names can a i|||2 ^ i else stepL t names can a i:=rfl
theorem Iz {m:Nat}{t:Tr}{names:List ByteArray}{can a:Nat}(hc:can<2 ^ m):∀ i,stepL t names can a i<2 ^ m
 |0=>Nat.two_pow_pos _
 |i+1=>by
  rw[stepL_succ];split
  ·rename_i h;simp only[Bool.and_eq_true] at h;exact Nat.or_lt_two_pow (Iz hc i) (Nat.pow_lt_pow_right qom (K3 hc h.1))
  ·exact Iz hc i
abbrev St:=Nat × Bool
abbrev encSt (s:St):List Value:=[.int .u64 (s.1:Int), .int .u64 0, .int .u64 0, .int .u64 0, .bool s.2]
abbrev encStK (s:St):Value:= .agg (encSt s).toArray
abbrev encIv (k:Nat):Value:= .int .i64 (k:Int)
abbrev encBv (b:Bool):Value:= .bool b
abbrev encPlK (p:Int × Int):Value:= .agg #[.int .i64 p.1, .int .i64 p.2]
theorem eqPl (a b:Int × Int)(w:World):(Op.equal 219 (encPlK a) (encPlK b)).run prog w= .ok (decide (b=a)) w:=by
 unfold Op.equal Op.maxDepth;rw[run_equalIn_struct w 9999 219 _ _ qkr qkr];simp[go_sem,Program.fieldsOf,underlying219,Op.eqFields];obtain⟨a1,a2⟩:=a;obtain⟨b1,b2⟩:=b
 by_cases h:b1=a1<;>by_cases h2:b2=a2<;>simp[h,h2]<;>(intros;omega)
theorem part3 (xs:Array Value)(i:Nat)(v:Value)(h:xs[i]? =some v)(w:World):(part 3 xs i).run prog w= .ok v w:=by
 simp[part,isAgg3,Sem.run_bind,Result.andThen,h]
theorem part84 (xs:Array Value)(i:Nat)(v:Value)(h:xs[i]? =some v)(w:World):(part 149 xs i).run prog w= .ok v w:=by
 simp[part,isAgg149,Sem.run_bind,Result.andThen,h]
theorem E3 (d t:Nat)(k k':IntKind)(hu:prog.underlying t=some (.int k'))(hp:∀ (xs:Array Value) (i:Nat) (v:Value),xs[i]? =some v->∀ w,(part t xs i).run prog w= .ok v w)(xs ys:List Int)(w:World):∀ (is:List Nat),(∀ i∈is,i<xs.length/\i<ys.length)->
  (Op.eqItems (d+1) t 1 (xs.map (Value.int k)).toArray (ys.map (Value.int k)).toArray is).run prog w= .ok (is.all fun i=>gd xs i==gd ys i) w
 |[],_=>by simp[Op.eqItems]
 |i::is,h=>by
  obtain⟨h1,h2⟩:=h i (by simp);have e1:=hp (xs.map (Value.int k)).toArray (i*1) (.int k (gd xs i)) (by simp[Dt h1]) w;have e2:=hp (ys.map (Value.int k)).toArray (i*1) (.int k (gd ys i)) (by simp[Dt h2]) w;simp only[Op.eqItems,Sem.run_bind,e1,e2,Result.andThen_ok,run_equalIn_int w d t k k' _ _ hu];have ih:=E3 d t k k' hu hp xs ys w is (fun j hj=>h j (by simp[hj]));cases hb:(gd xs i==gd ys i)
  ·simp[hb]
  ·simp[hb,ih]
theorem eqSet (a b:Nat)(d:Nat)(w:World):(Op.equalIn (d+2) 151 (.agg (encSet a).toArray) (.agg (encSet b).toArray)).run prog w= .ok (decide (b=a)) w:=by
 rw[run_equalIn_array (i:=prog.types.getD 149 default) w (d+1) _ _ (show prog.underlying 151=some (.array 4 149) from by kernel_rfl) qkr];have h:=E3 d 149 .u64 .u64 qkr part84 [(a:Int),0,0,0] [(b:Int),0,0,0] w [0,1,2,3] (by simp);rw[show prog.cellsOf 149=1 from by kernel_rfl,show List.range 4=[0,1,2,3] from rfl];show (Op.eqItems (d+1) 149 1 ([(a:Int),0,0,0].map (Value.int .u64)).toArray ([(b:Int),0,0,0].map (Value.int .u64)).toArray [0,1,2,3]).run prog w=_;rw[h];refine congrArg (fun r=>Result.ok r w) ?_;simp[gd]
 by_cases h:b=a
 ·simp[h]
 ·simp[h];omega
theorem eqSt (a b:St)(w:World):(Op.equal 212 (encStK a) (encStK b)).run prog w= .ok (decide (b=a)) w:=by
 unfold Op.equal Op.maxDepth;rw[run_equalIn_struct w 9999 212 _ _ qkr qkr];have e1:∀ (s:St) w,(part 151 (encSt s).toArray 0).run prog w= .ok (.agg (encSet s.1).toArray) w:=fun s w=>by
  simp[part,isAgg151,sizeOf151,Sem.run_bind,Result.andThen]
 have e2:∀ (s:St) w,(part 4 (encSt s).toArray 4).run prog w= .ok (.bool s.2) w:=fun s w=>by
  simp[part,isAgg4,Sem.run_bind,Result.andThen]
 have e3:(prog.fieldsOf 212).toList.map (fun f=>(f.type,f.offset,f.name== "_"))=[(151,0,false),(4,4,false)]:=by kernel_rfl
 obtain⟨f,g,hfg⟩:∃ f g,(prog.fieldsOf 212).toList=[f,g]:=by
  generalize (prog.fieldsOf 212).toList=l at e3;have hl:l.length=2:=by simpa using congrArg List.length e3
  match l,hl with
  |[f,g],_=>exact⟨f,g,rfl⟩
 rw[hfg] at e3 ⊢;simp only[List.map_cons,List.map_nil,List.cons.injEq,Prod.mk.injEq,and_true] at e3;obtain⟨⟨f1,f2,f3⟩,g1,g2,g3⟩:=e3;have f4:f.name≠ "_" :=by simpa using f3
 have g4:g.name≠ "_" :=by simpa using g3
 simp only[Op.eqFields,ne_eq,f4,g4,not_false_eq_true,if_true,f1,f2,g1,g2,Sem.run_bind,e1,e2,Result.andThen_ok,eqSet a.1 b.1 9997,run_equalIn_bool w 9998 4 _ _ (show prog.underlying 4=some .bool by kernel_rfl),Sem.run_ite,Sem.run_pure];obtain⟨a1,a2⟩:=a;obtain⟨b1,b2⟩:=b
 by_cases h:b1=a1<;>cases a2<;>cases b2<;>simp[h]
theorem keySt {V:Type}:KeyOk (V:=V) prog 212 encStK:=Fs runUnderlying212 (fun b k w=>by cases b<;>kernel_rfl) (fun k k'=>by simp[Instr.sameNow]) eqSt (fun k=>by simp[Instr.sameBits])
theorem b1_s {w0:World}{H:List (Nat × Obj)}(nt n4 n10:Nat)(d1 d2:Sl)(t:Tr)(c n:Nat)(hc:c<2 ^ 64)(ht:TrOk t)(hn:n<t.names.length)(hR:TrR w0 H nt d1 d2 t)(h4:Fnd H n4 (Cl [.pointer (some ⟨nt,0,none⟩)] 145)):
  FSpec prog w0 124 #[.int .i64 (n:Int), .pointer (some ⟨n10,0,none⟩), .pointer (some ⟨n4,0,none⟩)] ((n10,Cl (encSet c) 151)::H) (fun _ H'=>H'=(n10,Cl (encSet (c|||gd t.fol n)) 151)::H):=by
 refine Az func124 U ntmps124 U ?_;have hlen:=ht.len;have hg:=ht.low _ (Ao (show n<t.fol.length by omega));refine rD tb 0 U (B9 9 [(0,true),(1,true),(2,true),(3,true),(4,true),(5,true),(6,true),(7,true),(8,true)] _ mixd qkr sb0 ?_ By);refine o_y U (Lp U isAgg151 sizeOf151 U (by first|exact A2|exact c_o (hf:=Av h4)|exact(hR.mono sbt).c2|exact(hR.mono sbt).a2.cs (i:=n) qom)) ?_ U Ac;refine o_y U (Lo U isAgg145 (by first|exact c_o|exact c_o (hf:=Av h4)|exact(hR.mono sbt).c2|exact(hR.mono sbt).a2.cs (i:=n) qom)) ?_ U Ac;refine rP tb 2 U (o_y U (Lo U isAgg146 (by first|exact c_o|exact c_o (hf:=Av h4)|exact(hR.mono sbt).c2|exact(hR.mono sbt).a2.cs (i:=n) qom)) ?_ U Ac);refine rP tb 1 U (o_y U (Bl (T U) (T U) runUnderlying146 sizeOf151 qom (by first|exact rfl|exact hR.a2.b (i:=n) qom)) ?_ U Ac);refine o_y U (Lp U isAgg151 sizeOf151 U (by first|exact A2|exact c_o (hf:=Av h4)|exact(hR.mono sbt).c2|exact(hR.mono sbt).a2.cs (i:=n) qom)) ?_ U Ac;refine o_y U (Bb (qe2 U U) call90 (fun H' hs=>Ld c hc _ hg)) (Bj U ?_) U Ac
 first|refine A9 (Ls U U sizeOf151) U Ac ?_
 rintro _ _ ⟨rfl,rfl⟩;refine rO tb 1 U (Ea U .nil ?_);exact⟨_,rfl,sbt⟩
theorem b1E_s {w0:World}{H:List (Nat × Obj)}(nt n4 n10:Nat)(d1 d2:Sl)(t:Tr)(a:Nat)(ht:TrOk t)(hw:Low t)(ha:a<2 ^ t.names.length)(hR:TrR w0 H nt d1 d2 t)(h4:Fnd H n4 (Cl [.pointer (some ⟨nt,0,none⟩)] 145)):
  FSpec prog w0 87 #[.agg (encSet a).toArray, .func (.func 124) #[] #[.pointer (some ⟨n10,0,none⟩), .pointer (some ⟨n4,0,none⟩)]] ([(n10,Cl (encSet 0) 151)]++H) (fun v H'=>∃ x:Unit,True/\H'=[(n10,Cl (encSet (orK t.fol a 256)) 151)]++H):=by
 have hp:2 ^ t.names.length<=2 ^ 64:=Nat.pow_le_pow_right qom ht.few;have h:=each_s (w0:=w0) (H:=H) a (Nat.lt_of_lt_of_le ha hp) 124 [.pointer (some ⟨n10,0,none⟩), .pointer (some ⟨n4,0,none⟩)] call124 (fun i=>[(n10,Cl (encSet (orK t.fol a i)) 151)]) (fun n hn hb H1 hs=>by
  have hl:=K4 ht hw ha n;refine(b1_s (H:=H1) nt n4 n10 d1 d2 t _ n qom ht (K3 ha hb) (hR.mono hs) (h4.mono hs)).mono ?_;rintro v H' rfl;show _=[(n10,Cl (encSet (orK t.fol a (n+1))) 151)]++H1;rw[orK_succ,hb];rfl) (fun n hb=>by
   show [(n10,Cl (encSet (orK t.fol a (n+1))) 151)]=_;rw[orK_succ,hb];rfl)
 exact h.mono fun v H' e=>⟨(),trivial,e⟩
theorem b2_s {w0:World}{H:List (Nat × Obj)}(nt n4 n6 n12 n13:Nat)(d1 d2 dn:Sl)(v2 v3:Value)(t:Tr)(names:List ByteArray)(c a n:Nat)(hc:c<2 ^ 64)(ht:TrOk t)(hn:n<t.names.length)(hR:TrR w0 H nt d1 d2 t)(h4:Fnd H n4 (Cl [.pointer (some ⟨nt,0,none⟩)] 145))(h6:Fnd H n6 (Cl [slV dn names.length,v2,v3] 135))(h12:Fnd H n12 (Cl [.int .i64 (a:Int)] 3))(hA:Arr w0 H (slQ dn) 1 encS names):
  FSpec prog w0 125 #[.int .i64 (n:Int), .pointer (some ⟨n4,0,none⟩), .pointer (some ⟨n12,0,none⟩), .pointer (some ⟨n6,0,none⟩), .pointer (some ⟨n13,0,none⟩)] ((n13,Cl (encSt (c,true)) 212)::H) (fun _ H'=>H'=(n13,Cl (encSt (if takL t names a n then c|||2 ^ n else c,true)) 212)::H):=by
 refine Az func125 U ntmps125 U ?_;have hlen:=ht.len;have hfew:=ht.few;refine rD tb 1 U (B9 30 [(0,true),(1,true),(2,true),(3,true),(4,true),(5,true),(6,true),(7,true),(8,true),(9,true),(10,true),(11,true),(12,true),(13,true),(14,true),(15,true),(16,true),(17,true),(18,true),(19,true),(20,true),(21,true),(22,true),(23,true),(24,true),(25,true),(26,true),(27,true),(28,true),(29,true)] _ mixd qkr sb0 ?_ By);refine o_y U (Lo U isAgg145 (by first|exact c_o|exact c_o (hf:=Av h4)|exact c_o (hf:=Av h12)|exact c_o (hf:=Av h6)|exact(hR.mono sbt).c1|exact cell1 ((hR.mono sbt).a1.cs (i:=n) qom)|exact cell1 ((hA.mono sbt).cs (i:=a) qom))) ?_ U Ac;refine rP tb 2 U (o_y U (Lo U isAgg68 (by first|exact c_o|exact c_o (hf:=Av h4)|exact c_o (hf:=Av h12)|exact c_o (hf:=Av h6)|exact(hR.mono sbt).c1|exact cell1 ((hR.mono sbt).a1.cs (i:=n) qom)|exact cell1 ((hA.mono sbt).cs (i:=a) qom))) ?_ U Ac);refine rP tb 1 U (o_y U (Bl (T U) (T U) runUnderlying68 sizeOf9 qom (by first|exact rfl|exact hR.a1.b (i:=n) qom|exact hA.b (i:=a) qom)) ?_ U Ac);refine o_y U (Lo U isAgg9 (by first|exact c_o|exact c_o (hf:=Av h4)|exact c_o (hf:=Av h12)|exact c_o (hf:=Av h6)|exact(hR.mono sbt).c1|exact cell1 ((hR.mono sbt).a1.cs (i:=n) qom)|exact cell1 ((hA.mono sbt).cs (i:=a) qom))) ?_ U Ac;refine o_y U (yl_eqS (T U) An) (rP tb 1 U ?_) U Ac
 first|refine Cu (s:=14) (Aa U) (fun c14=> ?_) (fun c14=> ?_)|refine Ds (s:=14) (Aa U) (fun c14=> ?_) (fun c14=> ?_)
 ·refine rP tb 21 U (Bj U (kO tb 2 [0,4,35] rfl U (rG tb 3 U ?_)));refine y_ (Lp U isAgg151 sizeOf151 U (by first|exact Ce (o:=0) (k:=4) fdd|exact A2|exact c_o (hf:=Av h4)|exact c_o (hf:=Av h12)|exact c_o (hf:=Av h6)|exact(hR.mono sbt).c1|exact cell1 ((hR.mono sbt).a1.cs (i:=n) qom)|exact cell1 ((hA.mono sbt).cs (i:=a) qom))) ?_ U;refine rO tb 1 U (y_ (Bb (qe2 U U) call89 (fun H' hs=>with_s c hc n qom)) ?_ U);refine rO tb 1 U (e_ (Ki (o:=0) (m:=4) (T U) (T U) sizeOf151) ?_ U);rintro _ _ ⟨rfl,rfl⟩;refine rO tb 1 U (Ea U .nil (⟨_,rfl,?_⟩));have hm:takL t names a n=true:=by unfold takL;simp only[c14,decide_true,Bool.true_or,Bool.false_or,Bool.true_and]
  rw[if_pos hm];exact sbt
 ·refine o_y U (Lo U isAgg3 (by first|exact c_o|exact c_o (hf:=Av h4)|exact c_o (hf:=Av h12)|exact c_o (hf:=Av h6)|exact(hR.mono sbt).c1|exact cell1 ((hR.mono sbt).a1.cs (i:=n) qom)|exact cell1 ((hA.mono sbt).cs (i:=a) qom))) ?_ U (Ax U U (Aa U));refine rP tb 1 U (o_y U (Lo U isAgg68 (by first|exact c_o|exact c_o (hf:=Av h4)|exact c_o (hf:=Av h12)|exact c_o (hf:=Av h6)|exact(hR.mono sbt).c1|exact cell1 ((hR.mono sbt).a1.cs (i:=n) qom)|exact cell1 ((hA.mono sbt).cs (i:=a) qom))) ?_ U (Ax U U (Aa U)));refine rP tb 3 U ?_
  first|refine Cu (s:=20) (Aa U) (fun c20=> ?_) (fun c20=> ?_)|refine Ds (s:=20) (Aa U) (fun c20=> ?_) (fun c20=> ?_)
  ·refine o_y U (Lo U isAgg145 (by first|exact c_o|exact c_o (hf:=Av h4)|exact c_o (hf:=Av h12)|exact c_o (hf:=Av h6)|exact(hR.mono sbt).c1|exact cell1 ((hR.mono sbt).a1.cs (i:=n) qom)|exact cell1 ((hA.mono sbt).cs (i:=a) qom))) ?_ U (Ax U U (Aa U));refine rP tb 2 U (o_y U (Lo U isAgg68 (by first|exact c_o|exact c_o (hf:=Av h4)|exact c_o (hf:=Av h12)|exact c_o (hf:=Av h6)|exact(hR.mono sbt).c1|exact cell1 ((hR.mono sbt).a1.cs (i:=n) qom)|exact cell1 ((hA.mono sbt).cs (i:=a) qom))) ?_ U (Ax U U (Aa U)));refine rP tb 1 U (o_y U (Bl (T U) (T U) runUnderlying68 sizeOf9 qom (by first|exact rfl|exact hR.a1.b (i:=n) qom|exact hA.b (i:=a) qom)) ?_ U (Ax U U (Aa U)));refine o_y U (Lo U isAgg9 (by first|exact c_o|exact c_o (hf:=Av h4)|exact c_o (hf:=Av h12)|exact c_o (hf:=Av h6)|exact(hR.mono sbt).c1|exact cell1 ((hR.mono sbt).a1.cs (i:=n) qom)|exact cell1 ((hA.mono sbt).cs (i:=a) qom))) ?_ U (Ax U U (Aa U));refine rP tb 1 U (o_y U (Lo U isAgg68 (by first|exact c_o|exact c_o (hf:=Av h4)|exact c_o (hf:=Av h12)|exact c_o (hf:=Av h6)|exact(hR.mono sbt).c1|exact cell1 ((hR.mono sbt).a1.cs (i:=n) qom)|exact cell1 ((hA.mono sbt).cs (i:=a) qom))) ?_ U (Ax U U (Aa U)));refine o_y U (Lo U isAgg3 (by first|exact c_o|exact c_o (hf:=Av h4)|exact c_o (hf:=Av h12)|exact c_o (hf:=Av h6)|exact(hR.mono sbt).c1|exact cell1 ((hR.mono sbt).a1.cs (i:=n) qom)|exact cell1 ((hA.mono sbt).cs (i:=a) qom))) ?_ U (Ax U U (Aa U));refine o_y U (Lq U U runUnderlying68 sizeOf9 qom (by first|exact rfl|exact hR.a1.b (i:=n) qom|exact hA.b (i:=a) qom)) ?_ U (Ax U U (Aa U));refine o_y U (Lo U isAgg9 (by first|exact c_o|exact c_o (hf:=Av h4)|exact c_o (hf:=Av h12)|exact c_o (hf:=Av h6)|exact(hR.mono sbt).c1|exact cell1 ((hR.mono sbt).a1.cs (i:=n) qom)|exact cell1 ((hA.mono sbt).cs (i:=a) qom))) ?_ U (Ax U U (Aa U));refine o_y U (yl_eqS (T U) (T U)) (rP tb 2 U (Bj U (kO tb 2 [0,4,35] rfl U ?_))) U (Ax U U (Aa U))
   first|refine Ak (Aa U) (fun c35=> ?_) (fun c35=> ?_)|refine Au (Aa U) (fun c35=> ?_) (fun c35=> ?_)
   ·refine rC tb 2 U ?_;refine y_ (Lp U isAgg151 sizeOf151 U (by first|exact Ce (o:=0) (k:=4) fdd|exact A2|exact c_o (hf:=Av h4)|exact c_o (hf:=Av h12)|exact c_o (hf:=Av h6)|exact(hR.mono sbt).c1|exact cell1 ((hR.mono sbt).a1.cs (i:=n) qom)|exact cell1 ((hA.mono sbt).cs (i:=a) qom))) ?_ U;refine rO tb 1 U (y_ (Bb (qe2 U U) call89 (fun H' hs=>with_s c hc n qom)) ?_ U);refine rO tb 1 U (e_ (Ki (o:=0) (m:=4) (T U) (T U) sizeOf151) ?_ U);rintro _ _ ⟨rfl,rfl⟩;refine rO tb 1 U (Ea U .nil (⟨_,rfl,?_⟩));have hm:takL t names a n=true:=by unfold takL;simp only[c14,c20,c35,decide_true,Bool.true_or,Bool.false_or,Bool.true_and]
    rw[if_pos hm];exact sbt
   ·refine rC tb 1 U (Ea U .nil (⟨_,rfl,?_⟩));have hm:takL t names a n=false:=by unfold takL;simp only[c14,c20,c35,decide_true,decide_false,Bool.false_or,Bool.true_and,Bool.false_and]
    rw[if_neg (by rw[hm];decide)];exact sbt
  ·refine rP tb 15 U (Bj U (kO tb 2 [0,4,35] rfl U (rG tb 2 U (Ea U .nil (⟨_,rfl,?_⟩)))));have hm:takL t names a n=false:=by unfold takL;simp only[c14,c20,decide_true,decide_false,Bool.false_or,Bool.true_and,Bool.false_and]
   rw[if_neg (by rw[hm];decide)];exact sbt
theorem b2E_s {w0:World}{H:List (Nat × Obj)}(nt n4 n6 n12 n13:Nat)(d1 d2 dn:Sl)(v2 v3:Value)(t:Tr)(names:List ByteArray)(can a:Nat)(ht:TrOk t)(hc:can<2 ^ t.names.length)(hR:TrR w0 H nt d1 d2 t)(h4:Fnd H n4 (Cl [.pointer (some ⟨nt,0,none⟩)] 145))(h6:Fnd H n6 (Cl [slV dn names.length,v2,v3] 135))(h12:Fnd H n12 (Cl [.int .i64 (a:Int)] 3))(hA:Arr w0 H (slQ dn) 1 encS names):
  FSpec prog w0 87 #[.agg (encSet can).toArray, .func (.func 125) #[] #[.pointer (some ⟨n4,0,none⟩), .pointer (some ⟨n12,0,none⟩), .pointer (some ⟨n6,0,none⟩), .pointer (some ⟨n13,0,none⟩)]] ([(n13,Cl (encSt (0,true)) 212)]++H) (fun v H'=>∃ x:Unit,True/\H'=[(n13,Cl (encSt (stepL t names can a 256,true)) 212)]++H):=by
 have hp:2 ^ t.names.length<=2 ^ 64:=Nat.pow_le_pow_right qom ht.few;have h:=each_s (w0:=w0) (H:=H) can (Nat.lt_of_lt_of_le hc hp) 125 [.pointer (some ⟨n4,0,none⟩), .pointer (some ⟨n12,0,none⟩), .pointer (some ⟨n6,0,none⟩), .pointer (some ⟨n13,0,none⟩)] call125 (fun i=>[(n13,Cl (encSt (stepL t names can a i,true)) 212)]) (fun n hn hb H1 hs=>by
  have hl:=Iz (t:=t) (names:=names) (a:=a) hc n;refine(b2_s (H:=H1) nt n4 n6 n12 n13 d1 d2 dn v2 v3 t names _ a n qom ht (K3 hc hb) (hR.mono hs) (h4.mono hs) (h6.mono hs) (h12.mono hs) (hA.mono hs)).mono ?_;rintro v H' rfl;show _=[(n13,Cl (encSt (stepL t names can a (n+1),true)) 212)]++H1;rw[stepL_succ,hb,Bool.true_and]
  split<;>rfl) (fun n hb=>by
   show [(n13,Cl (encSt (stepL t names can a (n+1),true)) 212)]=_;rw[stepL_succ,hb];rfl)
 exact h.mono fun v H' e=>⟨(),trivial,e⟩
abbrev encU (k:Nat):List Value:=[.int .i64 (k:Int)]
structure Row where
 d:Sl
 l:List Nat
instance:Inhabited Row:=⟨⟨.nil,[]⟩⟩
abbrev encRow (r:Row):List Value:=[slV r.d r.l.length]
def rowsH (rs:List Row):List (Nat × Obj):=rs.reverse.flatMap fun r=>slH r.d (r.l.flatMap encU) 3
theorem Hk (rs:List Row)(r:Row):rowsH (rs++[r])=slH r.d (r.l.flatMap encU) 3++rowsH rs:=by simp[rowsH]
def zipM {α:Type} (l:List α):List (α × Nat):=l.zipIdx
theorem look_zip {α:Type}[DecidableEq α] (x:α):∀ (l:List α) (n:Nat),look (l.zipIdx n) x=if x∈l then some (n+l.idxOf x) else none
 |[],n=>rfl
 |y::l,n=>by
  rw[List.zipIdx_cons,Db,look_zip x l (n+1)]
  by_cases h:y=x
  ·subst h;simp
  ·have h2: ¬ x=y:=fun e=>h e.symm
   simp only[h,if_false,List.mem_cons,h2,false_or]
   split
   ·have hb:(y==x)=false:=by simp[h]
    rw[List.idxOf_cons,hb];simp;omega
   ·rfl
def idx {α:Type} [DecidableEq α] (l:List α) (x:α):Nat:=l.idxOf x
theorem idx_app {α:Type}[DecidableEq α] {l:List α}{x:α}(h:x∉l):idx (l++[x]) x=idx l x:=by
 unfold idx;rw[List.idxOf_append,if_neg h,List.idxOf_eq_length h];simp
theorem idx_lt {α:Type}[DecidableEq α] {l:List α}{x:α}(h:x∈l):idx l x<l.length:=List.idxOf_lt_length_of_mem h
theorem Hl {α:Type}[DecidableEq α] (x:α)(l:List α):look (zipM l) x=if x∈l then some (idx l x) else none:=by
 unfold zipM;rw[look_zip];simp[idx]
theorem upsert_zip {α:Type}[DecidableEq α] (x:α):∀ (l:List α) (n:Nat),x∉l->upsert (l.zipIdx n) x (n+l.length)=(l++[x]).zipIdx n
 |[],n,_=>rfl
 |y::l,n,h=>by
  simp only[List.mem_cons,not_or] at h;rw[List.zipIdx_cons,Dl,if_neg (fun e=>h.1 e.symm),List.cons_append,List.zipIdx_cons];have:=upsert_zip x l (n+1) h.2;rw[<- this,List.length_cons]
  congr 2;omega
theorem upsert_zipM {α:Type}[DecidableEq α] {x:α}{l:List α}(h:x∉l):upsert (zipM l) x l.length=zipM (l++[x]):=by
 have:=upsert_zip x l 0 h
 simpa[zipM] using this
def addSt (l:List St) (s:St):List St:=if s∈l then l else l++[s]
theorem idx_addSt (l:List St)(s:St):idx (addSt l s) s=idx l s:=by
 unfold addSt;split
 ·rfl
 ·rename_i h;exact idx_app h
theorem mem_addSt (l:List St)(s:St):s∈addSt l s:=by
 unfold addSt;split
 ·assumption
 ·simp
theorem addSt_get {l:List St}{s:St}{k:Nat}(h:k<l.length):gd (addSt l s) k=gd l k:=by
 unfold addSt;split
 ·rfl
 ·rw[Ay h,Ay (by simp;omega)];simp[List.getElem_append,h]
theorem addSt_len (l:List St)(s:St):l.length<=(addSt l s).length/\(addSt l s).length<=l.length+1:=by
 unfold addSt;split<;>simp
def rowF (t:Tr) (names:List ByteArray) (can:Nat) (l:List St):Nat->List St × List Nat
 |0=>(l,[])
 |a+1=>(addSt (rowF t names can l a).1 (stepL t names can a 256,true),(rowF t names can l a).2++[idx (rowF t names can l a).1 (stepL t names can a 256,true)])
theorem D4 (t:Tr)(names:List ByteArray)(can:Nat)(l:List St)(a:Nat):rowF t names can l (a+1)=(addSt (rowF t names can l a).1 (stepL t names can a 256,true),(rowF t names can l a).2++[idx (rowF t names can l a).1 (stepL t names can a 256,true)]):=rfl
theorem I0 (t:Tr)(names:List ByteArray)(can:Nat)(l:List St):∀ a,(rowF t names can l a).2.length=a/\l.length<=(rowF t names can l a).1.length/\(rowF t names can l a).1.length<=l.length+a
 |0=>⟨rfl,Nat.le_refl _,Nat.le_refl _⟩
 |a+1=>by
  obtain⟨h1,h2,h3⟩:=I0 t names can l a;have h4:=addSt_len (rowF t names can l a).1 (stepL t names can a 256,true);rw[D4];exact⟨by simp[h1],by simp only[];omega,by simp only[];omega⟩
theorem rowF_get (t:Tr)(names:List ByteArray)(can:Nat)(l:List St){k:Nat}(h:k<l.length):∀ a,gd (rowF t names can l a).1 k=gd l k
 |0=>rfl
 |a+1=>by
  rw[D4];have:=(I0 t names can l a).2.1;rw[addSt_get qom];exact rowF_get t names can l h a
def StLow (m:Nat) (l:List St):Prop:=∀ s∈l,s.1<2 ^ m
theorem rowF_low {m:Nat}{t:Tr}{names:List ByteArray}{can:Nat}{l:List St}(hc:can<2 ^ m)(hl:StLow m l):∀ a,StLow m (rowF t names can l a).1
 |0=>hl
 |a+1=>by
  rw[D4];unfold addSt;split
  ·exact rowF_low hc hl a
  ·intro s hs;simp only[List.mem_append,List.mem_cons,List.not_mem_nil,or_false] at hs;rcases hs with hs|rfl
   ·exact rowF_low hc hl a s hs
   ·exact Iz hc 256
def canAt (t:Tr) (e:En) (s:St):Nat:=if s.2 then orK t.fol s.1 256 else e.first
def accAt (e:En) (k:Nat) (s:St):Bool:=decide (¬ s.1 &&& e.last=0)||(decide ((k:Int)=0)&&e.emp)
def rawGo (t:Tr) (e:En) (names:List ByteArray):Nat->Nat->List St->List (List Nat)->List Bool->Option (List (List Nat) × List Bool)
 |0,_,_,_,_=>none
 |f+1,k,l,rows,acc=>if k<l.length then (if 200<(rowF t names (canAt t e (gd l k)) l (names.length+1)).1.length then none else rawGo t e names f (k+1) (rowF t names (canAt t e (gd l k)) l (names.length+1)).1 (rows++[(rowF t names (canAt t e (gd l k)) l (names.length+1)).2]) (acc++[accAt e k (gd l k)])) else some (rows,acc)
theorem Ej (t:Tr)(e:En)(names:List ByteArray)(f k:Nat)(l:List St)(rows:List (List Nat))(acc:List Bool):rawGo t e names (f+1) k l rows acc=if k<l.length then (if 200<(rowF t names (canAt t e (gd l k)) l (names.length+1)).1.length then none else rawGo t e names f (k+1) (rowF t names (canAt t e (gd l k)) l (names.length+1)).1 (rows++[(rowF t names (canAt t e (gd l k)) l (names.length+1)).2]) (acc++[accAt e k (gd l k)])) else some (rows,acc):=rfl
def s00:St:=(0,false)
def rawF (e:Re):Option (List (List Nat) × List Bool):=rawGo (addF e t00).1 (addF e t00).2 (letF e) 201 0 [s00] [] []
theorem cells_take {w0:World}{H:List (Nat × Obj)}{b o k:Nat}{vs:List Value}(h:Cells w0 H b o vs):Cells w0 H b o (vs.take k):=fun i v hi=>h i v (by
 rw[List.getElem?_take] at hi
 split at hi
 ·exact hi
 ·cases hi)
theorem row_set (r:List Nat)(m v:Nat)(h:r.length<m):(r.flatMap encU++List.replicate (m - r.length) (Value.int .i64 0)).set r.length (.int .i64 (v:Int))=(r++[v]).flatMap encU++List.replicate (m - (r.length+1)) (Value.int .i64 0):=by
 have hl:(r.flatMap encU).length=r.length:=by rw[Da (sz:=1) (fun _=>rfl)];omega
 rw[List.set_append_right _ _ qom,hl,Nat.sub_self,List.flatMap_append];rw[show m - r.length=(m - (r.length+1))+1 by omega,List.replicate_succ,List.set_cons_zero];simp
theorem eff_sRow {P:Program}{w0:World}{L:Fm}{ty t:TypeId}{x y:Operand}{H H':List (Nat × Obj)}{n m v i:Nat}(r:List Nat)(hi:i=r.length)(hx:Ev L x (.pointer (some ⟨n,0+i*1,none⟩)))(hy:Ev L y (.int .i64 (v:Int)))(hz:∀ w,(sizeOf t).run P w= .ok 1 w)(hm:r.length<m)
  (hu:Upd H n (Cl (r.flatMap encU++List.replicate (m - r.length) (Value.int .i64 0)) 3) (Cl ((r++[v]).flatMap encU++List.replicate (m - (r.length+1)) (Value.int .i64 0)) 3) H'):Eff P w0 (.store t x y) ty L H (Still undef H'):=by
 subst hi;rw[show 0+r.length*1=r.length by omega] at hx;refine Dz hx hy U hz ?_ hu;rw[<- row_set r m v hm];exact Gx (by rw[List.length_append,Da (sz:=1) (fun _=>rfl),List.length_replicate];omega)
theorem yl_lookSt {w0:World}{H:List (Nat × Obj)}{L:Fm}{x y:Operand}{ty:TypeId}{r:Nat}{l:List St}{s:St}{v:Value}(hx:Ev L x (.map (some r)))(hy:Ev L y v)(hv:v=encStK s)(hf:Fnd H r (mapO encStK encIv (zipM l))):
  Yl prog w0 (.lookup 213 x y true) ty L H (.tuple #[.int .i64 (((look (zipM l) s).getD 0:Nat):Int), .bool (decide (s∈l))]):=by
 have h:=Ga (P:=prog) (w0:=w0) (ty:=ty) (keySt (V:=Nat)) hx hy hv runUnderlying213 zeroValue3 hf;rw[Hl] at h ⊢
 by_cases hm:s∈l
 ·rw[if_pos hm] at h ⊢;rw[decide_eq_true hm];exact h
 ·rw[if_neg hm] at h ⊢;rw[decide_eq_false hm];exact h
theorem yl_lookSt1 {w0:World}{H:List (Nat × Obj)}{L:Fm}{x y:Operand}{ty:TypeId}{r:Nat}{l:List St}{s:St}{v:Value}(hs:s∈l)(hx:Ev L x (.map (some r)))(hy:Ev L y v)(hv:v=encStK s)(hf:Fnd H r (mapO encStK encIv (zipM l))):
  Yl prog w0 (.lookup 213 x y false) ty L H (.int .i64 ((idx l s:Nat):Int)):=by
 have h:=G9 (P:=prog) (w0:=w0) (ty:=ty) (keySt (V:=Nat)) hx hy hv runUnderlying213 zeroValue3 hf;rw[Hl] at h;rw[if_pos hs] at h;exact h
structure RowQ where
 q:Option Addr
 c:Nat
 l:List Nat
instance:Inhabited RowQ:=⟨⟨none,0,[]⟩⟩
structure Mc where
 names:List ByteArray
 rows:List RowQ
 acc:List Bool
 q1:Option Addr
 c1:Nat
 q2:Option Addr
 c2:Nat
 q3:Option Addr
 c3:Nat
abbrev encRQ (r:RowQ):List Value:=[.slice r.q r.l.length r.c]
abbrev encB1 (b:Bool):List Value:=[.bool b]
abbrev encMc (m:Mc):List Value:=[.slice m.q1 m.names.length m.c1, .slice m.q2 m.rows.length m.c2, .slice m.q3 m.acc.length m.c3]
structure McOk (w0:World) (H:List (Nat × Obj)) (m:Mc):Prop where
 a1:Arr w0 H m.q1 1 encS m.names
 a2:Arr w0 H m.q2 1 encRQ m.rows
 a3:Arr w0 H m.q3 1 encB1 m.acc
 r:∀ r∈m.rows,Arr w0 H r.q 1 encU r.l
theorem McOk.mono {w0:World}{H H':List (Nat × Obj)}{m:Mc}(h:McOk w0 H m)(hs:H.Sublist H':=by exact sbt):McOk w0 H' m:=⟨h.a1.mono hs,h.a2.mono hs,h.a3.mono hs,fun r hr=>(h.r r hr).mono hs⟩
structure PM where
 names:List ByteArray
 next:List (List Nat)
 acc:List Bool
def Mc.pl (m:Mc):PM:=⟨m.names,m.rows.map RowQ.l,m.acc⟩
structure PMok (m:PM):Prop where
 some':0<m.next.length
 few:m.next.length<=200
 acc:m.acc.length=m.next.length
 row:∀ r∈m.next,r.length=m.names.length+1/\∀ s∈r,s<m.next.length
abbrev MX:=Sl × Sl × List Row
abbrev mOut (x:MX) (acc:List Bool) (H:List (Nat × Obj)):List (Nat × Obj):=rowsH x.2.2++(slH x.1 (x.2.2.flatMap encRow) 41++(slH x.2.1 (acc.flatMap encB1) 4++H))
structure OutOk (x:MX) (next:List (List Nat)) (acc:List Bool):Prop where
 o1:SlOk x.1 x.2.2.length 1
 o2:SlOk x.2.1 acc.length 1
 rows:x.2.2.map Row.l=next
 o3:∀ r∈x.2.2,SlOk r.d r.l.length 1
theorem rowsH_sub {rs:List Row}{r:Row}(h:r∈rs):(slH r.d (r.l.flatMap encU) 3).Sublist (rowsH rs):=by
 have h2:r∈rs.reverse:=by simpa using h
 unfold rowsH
 generalize rs.reverse=l at h2;clear h
 induction l with
 |nil=>cases h2
 |cons a l ih=>
  rw[List.flatMap_cons];rcases List.mem_cons.1 h2 with rfl|h
  ·exact List.sublist_append_left _ _
  ·exact(ih h).trans (List.sublist_append_right _ _)
def Row.toQ (r:Row):RowQ:=⟨slQ r.d,slC r.d,r.l⟩
theorem encRow_toQ (rs:List Row):rs.flatMap encRow=(rs.map Row.toQ).flatMap encRQ:=by
 induction rs with
 |nil=>rfl
 |cons a rs ih=>rw[List.map_cons,List.flatMap_cons,List.flatMap_cons,ih];rfl
def mcOf (names:List ByteArray) (q1:Option Addr) (c1:Nat) (x:MX) (acc:List Bool):Mc:=⟨names,x.2.2.map Row.toQ,acc,q1,c1,slQ x.1,slC x.1,slQ x.2.1,slC x.2.1⟩
theorem mcOf_pl {names:List ByteArray}{q1:Option Addr}{c1:Nat}{x:MX}{next:List (List Nat)}{acc:List Bool}(h:OutOk x next acc):(mcOf names q1 c1 x acc).pl=⟨names,next,acc⟩:=by
 unfold mcOf Mc.pl;simp only[PM.mk.injEq,true_and,and_true];rw[<- h.rows,List.map_map];rfl
theorem mcOf_ok {w0:World}{names:List ByteArray}{q1:Option Addr}{c1:Nat}{x:MX}{next:List (List Nat)}{acc:List Bool}{H:List (Nat × Obj)}(h:OutOk x next acc)(hn:Arr w0 (mOut x acc H) q1 1 encS names):McOk w0 (mOut x acc H) (mcOf names q1 c1 x acc):=by
 refine⟨hn,?_,?_,?_⟩
 ·have h1:Arr w0 (slH x.1 (x.2.2.flatMap encRow) 41++(slH x.2.1 (acc.flatMap encB1) 4++H)) (slQ x.1) 1 encRQ (x.2.2.map Row.toQ):=by
   rw[encRow_toQ];exact A5 (fun _=>rfl) (by rw[List.length_map];exact h.o1)
  exact h1.mono (List.sublist_append_right _ _)
 ·have h1:Arr w0 (slH x.2.1 (acc.flatMap encB1) 4++H) (slQ x.2.1) 1 encB1 acc:=A5 (fun _=>rfl) h.o2;exact h1.mono ((List.sublist_append_right _ _).trans (List.sublist_append_right _ _))
 ·intro r hr;simp only[mcOf,List.mem_map] at hr;obtain⟨r0,hr0,rfl⟩:=hr;have h1:Arr w0 (slH r0.d (r0.l.flatMap encU) 3++[]) (slQ r0.d) 1 encU r0.l:=A5 (fun _=>rfl) (h.o3 r0 hr0);rw[List.append_nil] at h1;exact h1.mono ((rowsH_sub hr0).trans (List.sublist_append_left _ _))
theorem mcOf_mono {w0:World}{names:List ByteArray}{q1:Option Addr}{c1:Nat}{x:MX}{next:List (List Nat)}{acc:List Bool}{H H':List (Nat × Obj)}(h:OutOk x next acc)(hs:(mOut x acc H).Sublist H')(hn:Arr w0 H' q1 1 encS names):McOk w0 H' (mcOf names q1 c1 x acc):=
 have h2:=(mcOf_ok (w0:=w0) (names:=[]) (q1:=none) (c1:=0) (H:=H) h (fun i x hi=>by cases hi)).mono hs
 ⟨hn,h2.a2,h2.a3,h2.r⟩
theorem mcOf_enc (names:List ByteArray)(q1:Option Addr)(c1:Nat)(x:MX)(acc:List Bool):encMc (mcOf names q1 c1 x acc)=[.slice q1 names.length c1,slV x.1 x.2.2.length,slV x.2.1 acc.length]:=by simp[encMc,mcOf]
def LeastS (w0:World) (leastF:PM->PM):Prop:=∀ (H:List (Nat × Obj)) (m:Mc),McOk w0 H m->PMok m.pl->m.names.length<=64->
  FSpec prog w0 126 #[.agg (encMc m).toArray] H (fun v H'=>∃ x:MX,(v= .agg #[.slice m.q1 m.names.length m.c1,slV x.1 x.2.2.length,slV x.2.1 (leastF m.pl).acc.length]/\OutOk x (leastF m.pl).next (leastF m.pl).acc)/\H'=mOut x (leastF m.pl).acc H)
theorem least_own {w0:World}{leastF:PM->PM}(hL:LeastS w0 leastF){H H0:List (Nat × Obj)}{names:List ByteArray}{dn:Sl}{x:MX}{next:List (List Nat)}{acc:List Bool}(ho:OutOk x next acc)(hs:(mOut x acc H0).Sublist H)(hn:Arr w0 H (slQ dn) 1 encS names)(hp:PMok ⟨names,next,acc⟩)(hl:names.length<=64):
  FSpec prog w0 126 #[.agg #[slV dn names.length,slV x.1 x.2.2.length,slV x.2.1 acc.length]] H (fun v H'=>∃ y:MX,(v= .agg #[slV dn names.length,slV y.1 y.2.2.length,slV y.2.1 (leastF ⟨names,next,acc⟩).acc.length]/\OutOk y (leastF ⟨names,next,acc⟩).next (leastF ⟨names,next,acc⟩).acc)/\H'=mOut y (leastF ⟨names,next,acc⟩).acc H):=by
 have h:=hL H (mcOf names (slQ dn) (slC dn) x acc) (mcOf_mono ho hs hn) (by rw[mcOf_pl ho];exact hp) hl;rw[mcOf_enc,mcOf_pl ho] at h;exact h
theorem letF_few {e:Re}(h:e.lv<=64):(letF e).length<=64:=Nat.le_trans (Dm e) h
structure RawInv (t:Tr) (e:En) (names:List ByteArray) (k:Nat) (l:List St) (rows:List (List Nat)) (acc:List Bool):Prop where
 kl:k<=l.length
 few:l.length<=200
 rl:rows.length=k
 al:acc.length=k
 low:StLow t.names.length l
 row:∀ r∈rows,r.length=names.length+1/\∀ s∈r,s<l.length
 fst:gd l 0=s00/\0<l.length
theorem rowF_lt (t:Tr)(names:List ByteArray)(can:Nat)(l:List St):∀ a,∀ s∈(rowF t names can l a).2,s<(rowF t names can l a).1.length
 |0,s,hs=>by cases hs
 |a+1,s,hs=>by
  rw[D4] at hs ⊢;simp only[List.mem_append,List.mem_cons,List.not_mem_nil,or_false] at hs;have h4:=addSt_len (rowF t names can l a).1 (stepL t names can a 256,true);rcases hs with hs|rfl
  ·exact Nat.lt_of_lt_of_le (rowF_lt t names can l a s hs) h4.1
  ·rw[<- idx_addSt];exact idx_lt (mem_addSt _ _)
theorem canAt_lt {t:Tr}{e:En}(ht:TrOk t)(hw:Low t)(he:e.first<2 ^ t.names.length){s:St}(hs:s.1<2 ^ t.names.length):canAt t e s<2 ^ t.names.length:=by
 unfold canAt;split
 ·exact K4 ht hw hs 256
 ·exact he
theorem RawInv.next {t:Tr}{e:En}{names:List ByteArray}{k:Nat}{l:List St}{rows:List (List Nat)}{acc:List Bool}(h:RawInv t e names k l rows acc)(ht:TrOk t)(hw:Low t)(he:e.first<2 ^ t.names.length)(hk:k<l.length)(hf: ¬ 200<(rowF t names (canAt t e (gd l k)) l (names.length+1)).1.length):
  RawInv t e names (k+1) (rowF t names (canAt t e (gd l k)) l (names.length+1)).1 (rows++[(rowF t names (canAt t e (gd l k)) l (names.length+1)).2]) (acc++[accAt e k (gd l k)]):=by
 obtain⟨h1,h2,h3⟩:=I0 t names (canAt t e (gd l k)) l (names.length+1);have hc:=canAt_lt ht hw he (h.low _ (Ao hk));refine⟨by omega,by omega,by simp[h.rl],by simp[h.al],rowF_low hc h.low _,fun r hr=> ?_,?_⟩
 ·simp only[List.mem_append,List.mem_cons,List.not_mem_nil,or_false] at hr;rcases hr with hr|rfl
  ·exact⟨(h.row r hr).1,fun s hs=>Nat.lt_of_lt_of_le ((h.row r hr).2 s hs) h2⟩
  ·exact⟨h1,rowF_lt _ _ _ _ _⟩
 ·rw[rowF_get _ _ _ _ h.fst.2];exact⟨h.fst.1,by have:=h.fst.2;omega⟩
theorem RawInv.done {t:Tr}{e:En}{names:List ByteArray}{k:Nat}{l:List St}{rows:List (List Nat)}{acc:List Bool}(h:RawInv t e names k l rows acc)(hk: ¬ k<l.length):PMok ⟨names,rows,acc⟩:=by
 have hk2:k=l.length:=by have:=h.kl;omega
 refine⟨?_,?_,?_,fun r hr=> ?_⟩
 ·show 0<rows.length;have:=h.fst.2;have:=h.rl;omega
 ·show rows.length<=200;have:=h.few;have:=h.rl;omega
 ·show acc.length=rows.length;have:=h.al;have:=h.rl;omega
 ·show r.length=names.length+1/\∀ s∈r,s<rows.length;rw[h.rl,hk2];exact h.row r hr
theorem raw_start (t:Tr)(e:En)(names:List ByteArray):RawInv t e names 0 [s00] [] []:=⟨by simp,by simp,rfl,rfl,(fun s hs=>by
 simp only[List.mem_cons,List.not_mem_nil,or_false] at hs;subst hs;exact Nat.two_pow_pos _),(fun r hr=>by cases hr),rfl,by simp⟩
def buildF (leastF:PM->PM) (e:Re):PM × Int:=match rawF e with
 |none=>(⟨[],[],[]⟩,2)
 |some r=>(⟨letF e,(leastF ⟨letF e,r.1,r.2⟩).next,(leastF ⟨letF e,r.1,r.2⟩).acc⟩,0)
def nx (m:PM) (i a:Nat):Nat:=gd (gd m.next i) a
def maxF:List Nat->Nat
 |[]=>0
 |x::l=>l.foldl max x
theorem foldl_max_ge (l:List Nat):∀ x,x<=l.foldl max x:=by
 induction l with
 |nil=>intro x;exact Nat.le_refl _
 |cons a l ih=>intro x;exact Nat.le_trans (Nat.le_max_left x a) (ih _)
theorem foldl_max_mem (l:List Nat):∀ x,l.foldl max x=x\/l.foldl max x∈l:=by
 induction l with
 |nil=>intro x;exact .inl rfl
 |cons a l ih=>
  intro x;rw[List.foldl_cons];rcases ih (max x a) with h|h
  ·rw[h];rcases Nat.le_total x a with h2|h2
   ·right;rw[Nat.max_eq_right h2];exact List.mem_cons_self ..
   ·left;rw[Nat.max_eq_left h2]
  ·exact .inr (List.mem_cons_of_mem _ h)
theorem foldl_max_all (l:List Nat):∀ x,∀ y∈l,y<=l.foldl max x:=by
 induction l with
 |nil=>intro x y hy;cases hy
 |cons a l ih=>
  intro x y hy;rw[List.foldl_cons];rcases List.mem_cons.1 hy with rfl|h
  ·exact Nat.le_trans (Nat.le_max_right x y) (foldl_max_ge l _)
  ·exact ih _ y h
theorem I3 {l:List Nat}(h:0<l.length):maxF l∈l:=by
 cases l with
 |nil=>simp at h
 |cons x l=>
  rcases foldl_max_mem l x with h|h
  ·show l.foldl max x∈_;rw[h];exact List.mem_cons_self ..
  ·exact List.mem_cons_of_mem _ h
theorem I4 {l:List Nat}{y:Nat}(hy:y∈l):y<=maxF l:=by
 cases l with
 |nil=>cases hy
 |cons x l=>
  rcases List.mem_cons.1 hy with rfl|h
  ·exact foldl_max_ge l y
  ·exact foldl_max_all l x y h
theorem maxF_take {l:List Nat}{i:Nat}(h0:0<i)(h:i<l.length):maxF (l.take (i+1))=max (maxF (l.take i)) (gd l i):=by
 rw[List.take_add_one,Dt h];cases l with
 |nil=>simp at h
 |cons x l=>
  obtain⟨j,rfl⟩:∃ j,i=j+1:=⟨i - 1,by omega⟩;simp[maxF,List.foldl_append]
def mvK (m:PM) (b:List Nat) (old goal a:Nat):Nat->List Nat
 |0=>[]
 |j+1=>if gd b j=old/\gd b (nx m j a)=goal then mvK m b old goal a j++[j] else mvK m b old goal a j
theorem mvK_succ (m:PM)(b:List Nat)(old goal a j:Nat):mvK m b old goal a (j+1)=if gd b j=old/\gd b (nx m j a)=goal then mvK m b old goal a j++[j] else mvK m b old goal a j:=rfl
theorem mem_mvK (m:PM)(b:List Nat)(old goal a:Nat)(x:Nat):∀ j,x∈mvK m b old goal a j↔x<j/\gd b x=old/\gd b (nx m x a)=goal
 |0=>by simp[mvK]
 |j+1=>by
  rw[mvK_succ];have ih:=mem_mvK m b old goal a x j
  split
  ·rename_i h;rw[List.mem_append,ih]
   constructor
   ·rintro(h1|h1)
    ·exact⟨by omega,h1.2⟩
    ·simp at h1;subst h1;exact⟨by omega,h⟩
   ·rintro⟨h1,h2⟩
    by_cases e:x=j
    ·subst e;exact .inr (by simp)
    ·exact .inl ⟨by omega,h2⟩
  ·rename_i h;rw[ih]
   constructor
   ·rintro⟨h1,h2⟩;exact⟨by omega,h2⟩
   ·rintro⟨h1,h2⟩
    by_cases e:x=j
    ·subst e;exact absurd h2 h
    ·exact⟨by omega,h2⟩
theorem mvK_len (m:PM)(b:List Nat)(old goal a:Nat):∀ j,(mvK m b old goal a j).length<=j
 |0=>Nat.le_refl _
 |j+1=>by
  have:=mvK_len m b old goal a j;rw[mvK_succ];split
  ·simp;omega
  ·omega
def setM (b:List Nat) (f:Nat) (l:List Nat):List Nat:=l.foldl (fun b j=>b.set j f) b
theorem setM_take {b:List Nat}{f:Nat}{l:List Nat}{i:Nat}(h:i<l.length):setM b f (l.take (i+1))=(setM b f (l.take i)).set (gd l i) f:=by
 unfold setM;rw[List.take_add_one,Dt h,List.foldl_append];rfl
theorem I5 (f:Nat):∀ (l:List Nat) (b:List Nat),(setM b f l).length=b.length
 |[],b=>rfl
 |j::l,b=>by
  show (setM (b.set j f) f l).length=_;rw[I5 f l];simp
theorem gd_set {b:List Nat}{j f x:Nat}:gd (b.set j f) x=if x=j/\x<b.length then f else gd b x:=by
 simp only[gd,List.getD_eq_getElem?_getD,List.getElem?_set]
 by_cases h:j=x
 ·subst h
  by_cases h2:j<b.length
  ·simp[h2]
  ·simp[h2]
 ·have h2: ¬ x=j:=fun e=>h e.symm
  simp[h,h2]
theorem gd_setM (f x:Nat):∀ (l:List Nat) (b:List Nat),gd (setM b f l) x=if x∈l/\x<b.length then f else gd b x
 |[],b=>by simp[setM]
 |j::l,b=>by
  show gd (setM (b.set j f) f l) x=_;rw[gd_setM f x l,List.length_set,gd_set]
  by_cases h3:x<b.length
  ·by_cases h1:x∈l
   ·rw[if_pos ⟨h1,h3⟩,if_pos ⟨List.mem_cons_of_mem _ h1,h3⟩]
   ·rw[if_neg (fun h=>h1 h.1)]
    by_cases h2:x=j
    ·rw[if_pos ⟨h2,h3⟩,if_pos ⟨by rw[h2];exact List.mem_cons_self ..,h3⟩]
    ·rw[if_neg (fun h=>h2 h.1),if_neg (fun h=>(List.mem_cons.1 h.1).elim h2 h1)]
  ·rw[if_neg (fun h=>h3 h.2),if_neg (fun h=>h3 h.2),if_neg (fun h=>h3 h.2)]
def splitF (m:PM) (b:List Nat) (k a:Nat):List Nat:=setM b (maxF b+1) (mvK m b (gd b k) (gd b (nx m k a)) a b.length)
theorem splitF_len (m:PM)(b:List Nat)(k a:Nat):(splitF m b k a).length=b.length:=I5 _ _ _
theorem Hm (m:PM)(b:List Nat)(k a x:Nat):gd (splitF m b k a) x=if x<b.length/\gd b x=gd b k/\gd b (nx m x a)=gd b (nx m k a) then maxF b+1 else gd b x:=by
 unfold splitF;rw[gd_setM];simp only[mem_mvK]
 by_cases h:x<b.length
 ·by_cases h2:gd b x=gd b k/\gd b (nx m x a)=gd b (nx m k a)
  ·rw[if_pos ⟨⟨h,h2⟩,h⟩,if_pos ⟨h,h2⟩]
  ·rw[if_neg (fun h3=>h2 h3.1.2),if_neg (fun h3=>h2 h3.2)]
 ·rw[if_neg (fun h3=>h h3.2),if_neg (fun h3=>h h3.1)]
def fsA (m:PM) (b:List Nat) (k i:Nat):Option (Nat × Nat):=(List.range (gd m.next k).length).findSome? fun a=>if gd b (nx m i a)=gd b (nx m k a) then none else some (k,a)
def fsI (m:PM) (b:List Nat) (k:Nat):Option (Nat × Nat):=(List.range k).findSome? fun i=>if gd b i=gd b k then fsA m b k i else none
def findSp (m:PM) (b:List Nat):Option (Nat × Nat):=(List.range b.length).findSome? (fsI m b)
theorem J7 {β:Type}{f:Nat->Option β}{n:Nat}(h:∀ j,j<n->f j=none):(List.range n).findSome? f=none:=by
 rw[List.findSome?_eq_none_iff];intro j hj;exact h j (List.mem_range.1 hj)
theorem fs_some {β:Type}{f:Nat->Option β}{n k:Nat}{x:β}(hk:k<n)(hx:f k=some x)(h:∀ j,j<k->f j=none):(List.range n).findSome? f=some x:=by
 have e:List.range n=List.range k++(k::List.range' (k+1) (n - k - 1)):=by
  rw[List.range_eq_range',List.range_eq_range',show n=k+(n - k) by omega,<- List.range'_append_1,Nat.zero_add,show n - k=(n - k - 1)+1 by omega,List.range'_succ];simp
 rw[e,List.findSome?_append,J7 h];simp[List.findSome?_cons,hx]
def refineF (m:PM):Nat->List Nat->List Nat
 |0,b=>b
 |f+1,b=>match findSp m b with
  |none=>b
  |some p=>refineF m f (splitF m b p.1 p.2)
theorem refineF_none {m:PM}{b:List Nat}(h:findSp m b=none):∀ f,refineF m f b=b
 |0=>rfl
 |f+1=>by unfold refineF;rw[h]
theorem refineF_some {m:PM}{b:List Nat}{k a:Nat}(h:findSp m b=some (k,a))(f:Nat):refineF m (f+1) b=refineF m f (splitF m b k a):=by
 conv=>lhs;unfold refineF
 rw[h]
def initB (m:PM):List Nat:=m.acc.map fun y=>if y then 1 else 0
def Cont (b:List Nat):Prop:=∃ lo,lo<=1/\∀ x,x∈b↔lo<=x/\x<=maxF b
theorem I6 {α:Type}[DecidableEq α]:∀ {l l':List α},l.Nodup->(∀ x∈l,x∈l')->l.length<=l'.length
 |[],l',_,_=>Nat.zero_le _
 |x::l,l',h,hs=>by
  rw[List.nodup_cons] at h;have hx:=hs x (by simp);have h2:∀ y∈l,y∈l'.erase x:=fun y hy=>(List.mem_erase_of_ne (fun e=>h.1 (by rw[<- e];exact hy))).2 (hs y (by simp[hy]))
  have h3:=I6 h.2 h2;have h4:=List.length_erase_of_mem hx;have h5:0<l'.length:=List.length_pos_of_mem hx;simp only[List.length_cons];omega
theorem Cont.max_le {b:List Nat}(h:Cont b):maxF b<=b.length:=by
 obtain⟨lo,h1,h2⟩:=h;have h3:(List.range' lo (maxF b+1 - lo)).Nodup:=List.nodup_range' ..;have h4:=I6 h3 (l':=b) fun x hx=>by
  rw[List.mem_range'_1] at hx;exact(h2 x).2 ⟨by omega,by omega⟩
 rw[List.length_range'] at h4;omega
theorem mem_gd {b:List Nat}{x:Nat}:x∈b↔∃ j,j<b.length/\gd b j=x:=by
 constructor
 ·intro h;obtain⟨j,hj,e⟩:=List.getElem_of_mem h;exact⟨j,hj,by rw[Ay hj];exact e⟩
 ·rintro⟨j,hj,rfl⟩;exact Ao hj
theorem maxF_eq {b:List Nat}{x:Nat}(h1:x∈b)(h2:∀ y∈b,y<=x):maxF b=x:=
 Nat.le_antisymm (h2 _ (I3 (List.length_pos_of_mem h1))) (I4 h1)
theorem split_mem {m:PM}{b:List Nat}{i k a:Nat}(hi:i<b.length)(hk:k<b.length)(he:gd b i=gd b k)(hn: ¬ gd b (nx m i a)=gd b (nx m k a))(x:Nat):x∈splitF m b k a↔x∈b\/x=maxF b+1:=by
 rw[mem_gd,splitF_len]
 constructor
 ·rintro⟨j,hj,rfl⟩;rw[Hm];split
  ·exact .inr U
  ·exact .inl (Ao hj)
 ·rintro(h|rfl)
  ·obtain⟨j,hj,rfl⟩:=mem_gd.1 h
   by_cases hm:gd b j=gd b k/\gd b (nx m j a)=gd b (nx m k a)
   ·refine⟨i,hi,?_⟩;rw[Hm,if_neg (fun h=>hn h.2.2),he,hm.1]
   ·exact⟨j,hj,by rw[Hm,if_neg (fun h=>hm h.2)]⟩
  ·exact⟨k,hk,by rw[Hm,if_pos ⟨hk,rfl,rfl⟩]⟩
theorem split_max {m:PM}{b:List Nat}{i k a:Nat}(hi:i<b.length)(hk:k<b.length)(he:gd b i=gd b k)(hn: ¬ gd b (nx m i a)=gd b (nx m k a)):maxF (splitF m b k a)=maxF b+1:=
 maxF_eq ((split_mem hi hk he hn _).2 (.inr U)) fun y hy=>by
  rcases(split_mem hi hk he hn y).1 hy with h|rfl
  ·have:=I4 h;omega
  ·exact Nat.le_refl _
theorem Cont.split {m:PM}{b:List Nat}{i k a:Nat}(h:Cont b)(hi:i<b.length)(hk:k<b.length)(he:gd b i=gd b k)(hn: ¬ gd b (nx m i a)=gd b (nx m k a)):Cont (splitF m b k a):=by
 obtain⟨lo,h1,h2⟩:=h;refine⟨lo,h1,fun x=> ?_⟩;rw[split_mem hi hk he hn,split_max hi hk he hn,h2];have h3:=(h2 (maxF b)).1 (I3 qom)
 constructor
 ·rintro(h|h)<;>omega
 ·intro h;omega
theorem Cont.init {m:PM}(h:0<m.acc.length):Cont (initB m):=by
 have hle:∀ x∈initB m,x<=1:=fun x hx=>by
  simp only[initB,List.mem_map] at hx;obtain⟨y,_,rfl⟩:=hx
  split<;>omega
 have hp:0<(initB m).length:=by simp[initB,h]
 by_cases h0:0∈initB m
 ·refine⟨0,by omega,fun x=>⟨fun hx=>⟨by omega,I4 hx⟩,fun hx=> ?_⟩⟩;have hm:=I3 hp;have:=hle _ hm
  by_cases e:x=0
  ·subst e;exact h0
  ·rw[show x=maxF (initB m) by omega];exact hm
 ·refine⟨1,by omega,fun x=>⟨fun hx=>⟨?_,I4 hx⟩,fun hx=> ?_⟩⟩
  ·rcases Nat.eq_zero_or_pos x with e|e
   ·subst e;exact absurd hx h0
   ·exact e
  ·have hm:=I3 hp;have:=hle _ hm;rw[show x=maxF (initB m) by omega];exact hm
def numK (b tos order:List Nat):Nat->List Nat × List Nat
 |0=>(order,[])
 |i+1=>(if gd b (gd tos i)∈(numK b tos order i).1.map (gd b) then (numK b tos order i).1 else (numK b tos order i).1++[gd tos i],(numK b tos order i).2++[idx ((numK b tos order i).1.map (gd b)) (gd b (gd tos i))])
theorem D5 (b tos order:List Nat)(i:Nat):numK b tos order (i+1)=(if gd b (gd tos i)∈(numK b tos order i).1.map (gd b) then (numK b tos order i).1 else (numK b tos order i).1++[gd tos i],(numK b tos order i).2++[idx ((numK b tos order i).1.map (gd b)) (gd b (gd tos i))]):=rfl
def numGo (m:PM) (b:List Nat):Nat->Nat->List Nat->List (List Nat)->List Bool->List (List Nat) × List Bool
 |0,_,_,rows,acc=>(rows,acc)
 |f+1,k,order,rows,acc=>if k<order.length then numGo m b f (k+1) (numK b (gd m.next (gd order k)) order (gd m.next (gd order k)).length).1 (rows++[(numK b (gd m.next (gd order k)) order (gd m.next (gd order k)).length).2]) (acc++[gd m.acc (gd order k)]) else (rows,acc)
theorem numGo_succ (m:PM)(b:List Nat)(f k:Nat)(order:List Nat)(rows:List (List Nat))(acc:List Bool):numGo m b (f+1) k order rows acc=if k<order.length then numGo m b f (k+1) (numK b (gd m.next (gd order k)) order (gd m.next (gd order k)).length).1 (rows++[(numK b (gd m.next (gd order k)) order (gd m.next (gd order k)).length).2]) (acc++[gd m.acc (gd order k)]) else (rows,acc):=rfl
def numF (m:PM) (b:List Nat):PM:=⟨m.names,(numGo m b 201 0 [0] [] []).1,(numGo m b 201 0 [0] [] []).2⟩
def leastF (m:PM):PM:=numF m (refineF m 201 (initB m))
structure OrdOk (m:PM) (b order:List Nat):Prop where
 nd:(order.map (gd b)).Nodup
 lt:∀ s∈order,s<m.next.length
theorem OrdOk.few {m:PM}{b order:List Nat}(h:OrdOk m b order):order.length<=m.next.length:=by
 have h1:order.Nodup:=by
  have:=h.nd;rw[List.Nodup,List.pairwise_map] at this;exact this.imp fun hne e=>hne (by rw[e])
 have:=I6 h1 (l':=List.range m.next.length) fun s hs=>List.mem_range.2 (h.lt s hs)
 simpa using this
theorem OrdOk.step {m:PM}{b tos order:List Nat}(h:OrdOk m b order)(ht:∀ s∈tos,s<m.next.length):∀ i,i<=tos.length->OrdOk m b (numK b tos order i).1/\(numK b tos order i).2.length=i/\(∃ e,(numK b tos order i).1=order++e)
 |0,_=>⟨h,rfl,[],by simp[numK]⟩
 |i+1,hi=>by
  obtain⟨h1,h2,e,h3⟩:=OrdOk.step h ht i qom;rw[D5];refine⟨?_,by simp[h2],?_⟩
  ·simp only[]
   split
   ·exact h1
   ·rename_i hn;refine⟨?_,fun s hs=> ?_⟩
    ·rw[List.map_append,List.nodup_append];refine⟨h1.nd,by simp,fun x hx y hy=> ?_⟩;simp at hy;subst hy;rintro rfl;exact hn hx
    ·simp only[List.mem_append,List.mem_cons,List.not_mem_nil,or_false] at hs;rcases hs with hs|rfl
     ·exact h1.lt s hs
     ·exact ht _ (Ao qom)
  ·simp only[]
   split
   ·exact⟨e,h3⟩
   ·exact⟨e++[gd tos i],by rw[h3,List.append_assoc]⟩
theorem bd29_0 (a0:Option Addr)(a0n a0c:Nat)(w:World):(Instr.build 135 #[(0, .slice a0 a0n a0c)]).run prog w= .ok (.agg #[.slice a0 a0n a0c, .slice none 0 0, .slice none 0 0]) w:=by kernel_rfl
theorem bd29_z  (w:World):(Instr.build 135 #[]).run prog w= .ok (.agg #[.slice none 0 0, .slice none 0 0, .slice none 0 0]) w:=by kernel_rfl
theorem bd92_1 (a0:Bool)(w:World):(Instr.build 212 #[(1, .bool a0)]).run prog w= .ok (.agg #[.int .u64 0, .int .u64 0, .int .u64 0, .int .u64 0, .bool a0]) w:=by kernel_rfl
theorem bd92_z  (w:World):(Instr.build 212 #[]).run prog w= .ok (.agg #[.int .u64 0, .int .u64 0, .int .u64 0, .int .u64 0, .bool false]) w:=by kernel_rfl
theorem bs26_1_0 (a0:Option Addr)(a0n a0c:Nat)(w:World):(Instr.buildSlice 80 1 #[(0, .slice a0 a0n a0c)]).run prog w= .ok (.slice (some ⟨w.heap.size,0,none⟩) 1 1) (w.alloc (Cl [.slice a0 a0n a0c] 41)):=by kernel_rfl
theorem I7 (a0:Bool)(w:World):(Instr.buildSlice 133 1 #[(0, .bool a0)]).run prog w= .ok (.slice (some ⟨w.heap.size,0,none⟩) 1 1) (w.alloc (Cl [.bool a0] 4)):=by kernel_rfl
theorem bs94_1_0 (a0:Int)(a1:Int)(a2:Int)(a3:Int)(a4:Bool)(w:World):(Instr.buildSlice 214 1 #[(0, .agg #[.int .u64 a0, .int .u64 a1, .int .u64 a2, .int .u64 a3, .bool a4])]).run prog w= .ok (.slice (some ⟨w.heap.size,0,none⟩) 1 1) (w.alloc (Cl [.int .u64 a0, .int .u64 a1, .int .u64 a2, .int .u64 a3, .bool a4] 212)):=by kernel_rfl
theorem loc1 {a:Nat × Obj}{X:List (Nat × Obj)}:LocL (a::X) [a] X (fun M'=>M'++X):=show LocL ([a]++X) _ _ _ from .h
theorem cs_row {w0:World}{H:List (Nat × Obj)}{n b M:Nat}{r:List Nat}(h:r.length=M)(hc:Cells w0 H n 0 [.slice (some ⟨b,0,none⟩) M M]):Cells w0 H n 0 (encRow ⟨.blk b M [],r⟩):=by
 subst h;exact hc
theorem Lg {w0:World}{H:List (Nat × Obj)}{n:Nat}{a b:Bool}(h:b=a)(hc:Cells w0 H n 0 [.bool a]):Cells w0 H n 0 (encB1 b):=by
 subst h;exact hc
def BuildS (w0:World) (leastF:PM->PM):Prop:=∀ (H:List (Nat × Obj)) (m:Rxm) (e:Re),Is m e->RxM w0 H m->e.lv<=64->
  FSpec prog w0 73 #[.agg (encRx m).toArray] H (fun v H'=>∃ y:Sl × MX,(v= .tuple #[.agg #[slV y.1 (buildF leastF e).1.names.length,slV y.2.1 y.2.2.2.length,slV y.2.2.1 (buildF leastF e).1.acc.length], .int .i64 (buildF leastF e).2]/\SlOk y.1 (buildF leastF e).1.names.length 1/\OutOk y.2 (buildF leastF e).1.next (buildF leastF e).1.acc)/\H'=mOut y.2 (buildF leastF e).1.acc (slH y.1 ((buildF leastF e).1.names.flatMap encS) 9++H))
theorem build_s {w0:World}{leastF:PM->PM}(hL:LeastS w0 leastF):BuildS w0 leastF:=by
 intro H m e hI hM hl;obtain⟨hx1,hx2,hx3,hx4⟩:=Du e Kp (by show 0+e.lv<=64;omega);have hxw:=Gg e Kp (by show 0+e.lv<=64;omega) t00_low;have hp:2 ^ (t00.names.length+e.lv)<=2 ^ 64:=Nat.pow_le_pow_right qom (by show 0+e.lv<=64;omega);rw[<- hx2] at hx3 hx4 hp;have hln:=letF_few hl;refine Az func73 U ntmps73 U (rD tb 2 U (e_ (Lt U cs_) ?_ U));rintro _ _ ⟨n1,rfl,rfl⟩;refine e_ (Ap zeroValue135 cs_) ?_ U;rintro _ _ ⟨n2,rfl,rfl⟩;refine rO tb 5 U (y_ (Bg .nil (bd83_z)) (e_ (Lt U cs_) ?_ U) U);rintro _ _ ⟨n17,rfl,rfl⟩;refine e_ (Ap zeroValue145 cs_) ?_ U;rintro _ _ ⟨n4,rfl,rfl⟩
 first|refine A9 (Ls U U sizeOf145) U Ac ?_|refine A9 (B1 (T U) (T U) U sizeOf145) U Ac ?_|refine A9 (Bu (T U) (T U) U sizeOf145) U Ac ?_
 rintro _ _ ⟨rfl,rfl⟩;refine rO tb 4 U (y_ (Lo U isAgg145 (by first|exact c_o)) ?_ U);refine y_ (Lp U isAgg32 sizeOf32 U (by first|exact A2)) ?_ U;refine e_ (A1 (qe2 U U) call86 (B0 (trH n17 .nil .nil t00) loc_t0 (add_s hI _ n17 .nil .nil t00 (hM.mono sbt) U U Kp (by show 0+e.lv<=64;omega)))) ?_ U;rintro _ _ ⟨⟨e1,e2⟩,⟨rfl,ho1,ho2⟩,rfl⟩;refine e_ (Ap zeroValue153 cs_) ?_ U;rintro _ _ ⟨n5,rfl,rfl⟩
 first|refine A9 (Ls U U sizeOf153) U Ac ?_
 rintro _ _ ⟨rfl,rfl⟩;refine rO tb 4 U (y_ (Lp U isAgg32 sizeOf32 U (by first|exact A2)) ?_ U);refine e_ (A1 (qe1 U) call123 (letters_s hI hl _ (hM.mono sbt))) ?_ U;rintro _ _ ⟨dn,⟨rfl,hdn⟩,rfl⟩;refine y_ (Bg (.cons (T U) .nil) (bd29_0 _ _ _)) (e_ (Ap zeroValue135 cs_) ?_ U) U;rintro _ _ ⟨n6,rfl,rfl⟩
 first|refine A9 (Ls U U sizeOf135) U Ac ?_
 rintro _ _ ⟨rfl,rfl⟩;refine rO tb 4 U (e_ Dd ?_ U);rintro _ _ ⟨n24,rfl,rfl⟩;refine y_ (Bg .nil (bd92_z)) (e_ (eff_insert (l:=[]) (encV:=encIv) s00 0 (keySt (V:=Nat)) (T U) (T U) U An U runUnderlying213) ?_ U) U;rintro _ _ ⟨rfl,rfl⟩;refine rO tb 6 U (y_ (Bg .nil (bd92_z)) (e_ (A7 (.cons (T U) .nil) (bs94_1_0 _ _ _ _ _)) ?_ U) U);rintro _ _ ⟨n28,rfl,rfl⟩;refine rO tb 10 U ?_;refine Bz (X:=Nat × List St × List Row × List Bool × Sl × Sl × Sl) (V:=fun ⟨k,l,rows,acc,d8,dx,da⟩=>[(9, .int .i64 (k:Nat)),(8,slV d8 l.length)]) (C:=[(2,_),(4,_),(5,_),(6,_),(7,_)]) (G:=fun ⟨k,l,rows,acc,d8,dx,da⟩=>rowsH rows++(slH d8 (l.flatMap encSt) 212++((n24,mapO encStK encIv (zipM l))::(n6,Cl [slV dn (letF e).length,slV dx rows.length,slV da acc.length] 135)::(slH dx (rows.flatMap encRow) 41++(slH da (acc.flatMap encB1) 4++(slH dn ((letF e).flatMap encS) 9++((n5,Cl (encEn (addF e t00).2) 153)::(n4,Cl [.pointer (some ⟨n17,0,none⟩)] 145)::(trH n17 e1 e2 (addF e t00).1++(n2,Cl [.slice none 0 0, .slice none 0 0, .slice none 0 0] 135)::(n1,Cl (encRx m) 32)::H)))))))) (φ:=fun ⟨k,l,rows,acc,d8,dx,da⟩=>RawInv (addF e t00).1 (addF e t00).2 (letF e) k l (rows.map Row.l) acc/\SlOk d8 l.length 5/\SlOk dx rows.length 1/\SlOk da acc.length 1/\(∀ r∈rows,SlOk r.d r.l.length 1)/\rawGo (addF e t00).1 (addF e t00).2 (letF e) (201 - k) k l (rows.map Row.l) acc=rawF e) (μ:=fun ⟨k,l,rows,acc,d8,dx,da⟩=>201 - k) (x0:=(0,[s00],[],[], .blk n28 1 [], .nil, .nil)) ?_ (kg U) ⟨(by first|exact Aa rfl|(refine Ae (Aa rfl) (vint ?_);omega)|(refine Ae (Aa rfl) ?_;simp;done)|(refine Ae (Aa rfl) ?_;exact by simp only[hrow,List.length_append,List.length_cons,List.length_nil])),(by first|exact Aa rfl|(refine Ae (Aa rfl) (vint ?_);omega)|(refine Ae (Aa rfl) ?_;simp;done)|(refine Ae (Aa rfl) ?_;exact by simp only[hrow,List.length_append,List.length_cons,List.length_nil])),trivial⟩ sb0 ?_
 ·exact⟨raw_start _ _ _,⟨Nat.le_refl _,rfl⟩,rfl,rfl,(fun r hr=>by cases hr),rfl⟩
 rintro⟨k,l,rows,acc,d8,dx,da⟩ ⟨hinv,hd8,hox,hoa,hor,hgo⟩;have hkl:=hinv.kl;have hfw:=hinv.few;have hrl0:=hinv.rl;rw[List.length_map] at hrl0;have hal0:=hinv.al;refine rD tb 9 U ?_
 first|refine Ak (Aa U) (fun c32=> ?_) (fun c32=> ?_)|refine Au (Aa U) (fun c32=> ?_) (fun c32=> ?_)
 ·refine rC tb 7 U ?_;refine y_ (Lp U isAgg151 sizeOf151 U (by first|exact Ce (o:=0) (k:=4) fdd|exact A2)) ?_ U;refine e_ (Ap zeroValue151 cs_) ?_ U;rintro _ _ ⟨n10,rfl,rfl⟩
  first|refine A9 (Ls U U sizeOf151) U Ac ?_
  rintro _ _ ⟨rfl,rfl⟩;refine rO tb 2 U ?_;refine Fp (X:=Unit) (V:=fun _=>[]) (C:=[(2,_),(4,_),(5,_),(6,_),(7,_),(8,_),(9,_),(10,_)]) (G:=fun _=>(n10,Cl (encSet (canAt (addF e t00).1 (addF e t00).2 (gd l k))) 151)::(rowsH rows++(slH d8 (l.flatMap encSt) 212++((n24,mapO encStK encIv (zipM l))::(n6,Cl [slV dn (letF e).length,slV dx rows.length,slV da acc.length] 135)::(slH dx (rows.flatMap encRow) 41++(slH da (acc.flatMap encB1) 4++(slH dn ((letF e).flatMap encS) 9++((n5,Cl (encEn (addF e t00).2) 153)::(n4,Cl [.pointer (some ⟨n17,0,none⟩)] 145)::(trH n17 e1 e2 (addF e t00).1++(n2,Cl [.slice none 0 0, .slice none 0 0, .slice none 0 0] 135)::(n1,Cl (encRx m) 32)::H))))))))) (φ:=fun _=>True) (kg U) ?_ ?_
  ·refine rD tb 4 U (y_ (Lq U U runUnderlying214 sizeOf212 qom (by first|exact rfl|exact hd8.bas qom|exact hd8i.bas qom)) ?_ U);refine rO tb 1 U (y_ (Lo U isAgg4 (by first|exact c_o|exact((A5 (X:=H) (enc:=encSt) (sz:=5) (e:=212) (l:=l) (fun _=>rfl) hd8).mono sbt).f (i:=k) qom U)) ?_ U);refine rO tb 2 U ?_
   first|refine Ak (Aa U) (fun c41=> ?_) (fun c41=> ?_)|refine Au (Aa U) (fun c41=> ?_) (fun c41=> ?_)
   ·have hce:(canAt (addF e t00).1 (addF e t00).2 (gd l k))=orK (addF e t00).1.fol (gd l k).1 256:=by unfold canAt;rw[if_pos c41]
    refine rC tb 2 U (y_ (Bg .nil (Ko)) ?_ U)
    first|refine A9 (Ls U U sizeOf151) U Ac ?_
    rintro _ _ ⟨rfl,rfl⟩;refine rO tb 5 U (y_ (Lq U U runUnderlying214 sizeOf212 qom (by first|exact rfl|exact hd8.bas qom|exact hd8i.bas qom)) ?_ U);refine rO tb 1 U (y_ (Lp U isAgg151 sizeOf151 U (by first|exact cells_take (k:=4) (((A5 (X:=H) (enc:=encSt) (sz:=5) (e:=212) (l:=l) (fun _=>rfl) hd8).mono sbt).cs (i:=k) qom)|exact A2)) ?_ U);refine y_ (Cg (.cons (T U) (.cons (T U) .nil))) ?_ U;refine e_ (A1 (qe2 U U) call87 (B0 [(n10,Cl (encSet 0) 151)] loc1 (b1E_s n17 n4 n10 e1 e2 (addF e t00).1 (gd l k).1 hx1 hxw (hinv.low _ (Ao qom)) ((tr_r (R:=H) ho1 ho2).mono sbt) fdd))) ?_ U;rintro _ _ ⟨_,_,rfl⟩;refine rO tb 1 U (Be (()) ?_ trivial (kg U) (by simp only[hce];exact sbt))
    trivial
   ·have hce:(canAt (addF e t00).1 (addF e t00).2 (gd l k))=(addF e t00).2.first:=by unfold canAt;rw[if_neg (by rw[c41];decide)]
    refine rC tb 1 U (Be (()) ?_ trivial (kg U) (by simp only[hce];exact sbt))
    trivial
  rintro _ _;have hcan:=canAt_lt hx1 hxw hx3 (hinv.low _ (Ao (show k<l.length by omega)));refine rC tb 3 U (y_ (Lo U isAgg68 (by first|exact c_o)) ?_ U);refine rO tb 1 U (y_ (Bd (T U) An qom) ?_ U);refine e_ (Cp (by':=8) (k:=((letF e).length+1)) (T U) runUnderlying41 sizeOf3 typeInfo3 U zeroValue3 U qom qom) ?_ U;rintro _ _ ⟨n54,rfl,rfl⟩;refine rO tb 12 U ?_;refine Bz (X:=Nat × Sl) (V:=fun ⟨a,d8⟩=>[(57, .int .i64 (a:Nat)),(8,slV d8 (rowF (addF e t00).1 (letF e) (canAt (addF e t00).1 (addF e t00).2 (gd l k)) l a).1.length)]) (C:=[(2,_),(4,_),(5,_),(6,_),(7,_),(9,_),(10,_),(11,_),(56,_)]) (G:=fun ⟨a,d8⟩=>(n54,Cl ((rowF (addF e t00).1 (letF e) (canAt (addF e t00).1 (addF e t00).2 (gd l k)) l a).2.flatMap encU++List.replicate (((letF e).length+1) - (rowF (addF e t00).1 (letF e) (canAt (addF e t00).1 (addF e t00).2 (gd l k)) l a).2.length) (.int .i64 0)) 3)::(n10,Cl (encSet (canAt (addF e t00).1 (addF e t00).2 (gd l k))) 151)::(rowsH rows++(slH d8 ((rowF (addF e t00).1 (letF e) (canAt (addF e t00).1 (addF e t00).2 (gd l k)) l a).1.flatMap encSt) 212++((n24,mapO encStK encIv (zipM (rowF (addF e t00).1 (letF e) (canAt (addF e t00).1 (addF e t00).2 (gd l k)) l a).1))::(n6,Cl [slV dn (letF e).length,slV dx rows.length,slV da acc.length] 135)::(slH dx (rows.flatMap encRow) 41++(slH da (acc.flatMap encB1) 4++(slH dn ((letF e).flatMap encS) 9++((n5,Cl (encEn (addF e t00).2) 153)::(n4,Cl [.pointer (some ⟨n17,0,none⟩)] 145)::(trH n17 e1 e2 (addF e t00).1++(n2,Cl [.slice none 0 0, .slice none 0 0, .slice none 0 0] 135)::(n1,Cl (encRx m) 32)::H))))))))) (φ:=fun ⟨a,d8⟩=>a<=((letF e).length+1)/\SlOk d8 (rowF (addF e t00).1 (letF e) (canAt (addF e t00).1 (addF e t00).2 (gd l k)) l a).1.length 5) (μ:=fun ⟨a,d8⟩=>((letF e).length+1) - a) (x0:=(0,d8)) ?_ (kg U) ⟨(by first|exact Aa rfl|(refine Ae (Aa rfl) (vint ?_);omega)|(refine Ae (Aa rfl) ?_;simp;done)|(refine Ae (Aa rfl) ?_;exact by simp only[hrow,List.length_append,List.length_cons,List.length_nil])),(by first|exact Aa rfl|(refine Ae (Aa rfl) (vint ?_);omega)|(refine Ae (Aa rfl) ?_;simp;done)|(refine Ae (Aa rfl) ?_;exact by simp only[hrow,List.length_append,List.length_cons,List.length_nil])),trivial⟩ sb0 ?_
  ·exact⟨Nat.zero_le _,hd8⟩
  rintro⟨a,d8⟩ ⟨ha,hd8i⟩;have hrl:=I0 (addF e t00).1 (letF e) (canAt (addF e t00).1 (addF e t00).2 (gd l k)) l a;refine rD tb 6 U ?_
  first|refine Ak (Aa U) (fun c58=> ?_) (fun c58=> ?_)|refine Au (Aa U) (fun c58=> ?_) (fun c58=> ?_)
  ·have ha2:a<((letF e).length+1):=by omega
   refine rC tb 7 U (e_ (Ap zeroValue3 cs_) ?_ U);rintro _ _ ⟨n12,rfl,rfl⟩
   first|refine A9 (Ls U U sizeOf3) U Ac ?_|refine A9 (B1 (T U) (T U) U sizeOf3) U Ac ?_|refine A9 (Bu (T U) (T U) U sizeOf3) U Ac ?_
   rintro _ _ ⟨rfl,rfl⟩;refine rO tb 4 U (y_ (Bg (.cons An .nil) (bd92_1 _)) (e_ (Ap zeroValue212 cs_) ?_ U) U);rintro _ _ ⟨n13,rfl,rfl⟩
   first|refine A9 (Ls U U sizeOf212) U Ac ?_
   rintro _ _ ⟨rfl,rfl⟩;refine rO tb 4 U (y_ (Lp U isAgg151 sizeOf151 U (by first|exact A2)) ?_ U);refine y_ (Cg (.cons (T U) (.cons (T U) (.cons (T U) (.cons (T U) .nil))))) ?_ U;refine e_ (A1 (qe2 U U) call87 (B0 [(n13,Cl (encSt (0,true)) 212)] loc1 (b2E_s n17 n4 n6 n12 n13 e1 e2 dn (slV dx rows.length) (slV da acc.length) (addF e t00).1 (letF e) (canAt (addF e t00).1 (addF e t00).2 (gd l k)) a hx1 hcan ((tr_r (R:=H) ho1 ho2).mono sbt) fdd fdd fdd ((A5 (X:=H) (enc:=encS) (sz:=1) (e:=9) (fun _=>rfl) hdn).mono sbt)))) ?_ U;rintro _ _ ⟨_,_,rfl⟩;refine rO tb 2 U ?_;refine Fp (X:=Sl) (V:=fun g8=>[(8,slV g8 (rowF (addF e t00).1 (letF e) (canAt (addF e t00).1 (addF e t00).2 (gd l k)) l (a+1)).1.length)]) (C:=[(2,_),(4,_),(5,_),(6,_),(7,_),(9,_),(10,_),(11,_),(12,_),(13,_),(56,_),(57,_)]) (G:=fun g8=>(n13,Cl (encSt (stepL (addF e t00).1 (letF e) (canAt (addF e t00).1 (addF e t00).2 (gd l k)) a 256,true)) 212)::(n12,Cl [.int .i64 (a:Int)] 3)::(n54,Cl ((rowF (addF e t00).1 (letF e) (canAt (addF e t00).1 (addF e t00).2 (gd l k)) l a).2.flatMap encU++List.replicate (((letF e).length+1) - (rowF (addF e t00).1 (letF e) (canAt (addF e t00).1 (addF e t00).2 (gd l k)) l a).2.length) (.int .i64 0)) 3)::(n10,Cl (encSet (canAt (addF e t00).1 (addF e t00).2 (gd l k))) 151)::(rowsH rows++(slH g8 ((rowF (addF e t00).1 (letF e) (canAt (addF e t00).1 (addF e t00).2 (gd l k)) l (a+1)).1.flatMap encSt) 212++((n24,mapO encStK encIv (zipM (rowF (addF e t00).1 (letF e) (canAt (addF e t00).1 (addF e t00).2 (gd l k)) l (a+1)).1))::(n6,Cl [slV dn (letF e).length,slV dx rows.length,slV da acc.length] 135)::(slH dx (rows.flatMap encRow) 41++(slH da (acc.flatMap encB1) 4++(slH dn ((letF e).flatMap encS) 9++((n5,Cl (encEn (addF e t00).2) 153)::(n4,Cl [.pointer (some ⟨n17,0,none⟩)] 145)::(trH n17 e1 e2 (addF e t00).1++(n2,Cl [.slice none 0 0, .slice none 0 0, .slice none 0 0] 135)::(n1,Cl (encRx m) 32)::H))))))))) (φ:=fun g8=>SlOk g8 (rowF (addF e t00).1 (letF e) (canAt (addF e t00).1 (addF e t00).2 (gd l k)) l (a+1)).1.length 5) (kg U) ?_ ?_
   ·refine rD tb 3 U (y_ (Lp U isAgg212 sizeOf212 U (by first|exact A2)) ?_ U);refine y_ (yl_lookSt (l:=(rowF (addF e t00).1 (letF e) (canAt (addF e t00).1 (addF e t00).2 (gd l k)) l a).1) (s:=(stepL (addF e t00).1 (letF e) (canAt (addF e t00).1 (addF e t00).2 (gd l k)) a 256,true)) (T U) (T U) U fdd) ?_ U;refine rO tb 10 U ?_
    first|refine A3 (B7 (T U)) U Ac ?_|refine A3 (Cc (T U)) U Ac ?_
    refine kO tb 2 [2,4,5,6,7,8,9,10,11,12,13,56,57,71] rfl U ?_
    first|refine Ak (Aa U) (fun c71=> ?_) (fun c71=> ?_)|refine Au (Aa U) (fun c71=> ?_) (fun c71=> ?_)
    ·have hrow:(rowF (addF e t00).1 (letF e) (canAt (addF e t00).1 (addF e t00).2 (gd l k)) l (a+1)).1=(rowF (addF e t00).1 (letF e) (canAt (addF e t00).1 (addF e t00).2 (gd l k)) l a).1++[(stepL (addF e t00).1 (letF e) (canAt (addF e t00).1 (addF e t00).2 (gd l k)) a 256,true)]:=by rw[D4];unfold addSt;rw[if_neg c71]
     refine rC tb 3 U (y_ (Lp U isAgg212 sizeOf212 U (by first|exact A2)) ?_ U);refine rO tb 2 U (e_ (C5 (l:=zipM (rowF (addF e t00).1 (letF e) (canAt (addF e t00).1 (addF e t00).2 (gd l k)) l a).1) (encV:=encIv) (stepL (addF e t00).1 (letF e) (canAt (addF e t00).1 (addF e t00).2 (gd l k)) a 256,true) (rowF (addF e t00).1 (letF e) (canAt (addF e t00).1 (addF e t00).2 (gd l k)) l a).1.length (keySt (V:=Nat)) (T U) (T U) U (T U) U runUnderlying213) ?_ U);rintro _ _ ⟨rfl,rfl⟩;rw[upsert_zipM c71];refine rO tb 4 U (y_ (Lp U isAgg212 sizeOf212 U (by first|exact A2)) ?_ U);refine e_ (A7 (.cons (T U) .nil) (bs94_1_0 _ _ _ _ _)) ?_ U;rintro _ _ ⟨n78,rfl,rfl⟩;refine e_ (Br ((stepL (addF e t00).1 (letF e) (canAt (addF e t00).1 (addF e t00).2 (gd l k)) a 256,true)) (by':=40) qlc (T U) (T U) runUnderlying214 runUnderlying214 sizeOf212 typeInfo212 U zeroValue212 U (fun _=>rfl) U hd8i qde qom) ?_ U;rintro _ _ ⟨d8',rfl,hok8,rfl⟩;refine rO tb 2 U ?_;refine Be (d8') ?_ ⟨(by first|exact Aa U|(refine Ae (Aa U) (vint ?_);omega)|(refine Ae (Aa U) ?_;simp;done)|(refine Ae (Aa U) ?_;exact by simp only[hrow,List.length_append,List.length_cons,List.length_nil])),trivial⟩ (kg U) (by simp only[hrow];exact sbt)
     first|(rw[hrow];simpa using hok8)|(rw[hrow];exact hd8i)
    ·have hrow:(rowF (addF e t00).1 (letF e) (canAt (addF e t00).1 (addF e t00).2 (gd l k)) l (a+1)).1=(rowF (addF e t00).1 (letF e) (canAt (addF e t00).1 (addF e t00).2 (gd l k)) l a).1:=by rw[D4];unfold addSt;rw[if_pos (Classical.not_not.1 c71)]
     refine rC tb 1 U ?_;refine Be (d8) ?_ ⟨(by first|exact Aa U|(refine Ae (Aa U) (vint ?_);omega)|(refine Ae (Aa U) ?_;simp;done)|(refine Ae (Aa U) ?_;exact by simp only[hrow,List.length_append,List.length_cons,List.length_nil])),trivial⟩ (kg U) (by simp only[hrow];exact sbt)
     first|(rw[hrow];simpa using hok8)|(rw[hrow];exact hd8i)
   rintro g8 hg8;have hmem:(stepL (addF e t00).1 (letF e) (canAt (addF e t00).1 (addF e t00).2 (gd l k)) a 256,true)∈(rowF (addF e t00).1 (letF e) (canAt (addF e t00).1 (addF e t00).2 (gd l k)) l (a+1)).1:=by rw[D4];exact mem_addSt _ _
   refine B9 6 [(0,true),(1,true),(2,true),(3,true),(4,true),(5,true)] _ mixd qkr sb0 ?_ By;refine rP tb 1 U (o_y U (Lo U isAgg3 (by first|exact c_o)) ?_ U Ac);refine rP tb 1 U (o_y U (Lp U isAgg212 sizeOf212 U (by first|exact A2)) ?_ U Ac);refine o_y U (yl_lookSt1 (l:=(rowF (addF e t00).1 (letF e) (canAt (addF e t00).1 (addF e t00).2 (gd l k)) l (a+1)).1) (s:=(stepL (addF e t00).1 (letF e) (canAt (addF e t00).1 (addF e t00).2 (gd l k)) a 256,true)) hmem (T U) (T U) U fdd) ?_ U Ac;refine o_y U (Lq U U runUnderlying41 sizeOf3 qom (by first|exact rfl|exact hd8.bas qom|exact hd8i.bas qom)) ?_ U Ac;refine Bj U (e_ (eff_sRow (m:=((letF e).length+1)) (v:=idx (rowF (addF e t00).1 (letF e) (canAt (addF e t00).1 (addF e t00).2 (gd l k)) l (a+1)).1 (stepL (addF e t00).1 (letF e) (canAt (addF e t00).1 (addF e t00).2 (gd l k)) a 256,true)) (rowF (addF e t00).1 (letF e) (canAt (addF e t00).1 (addF e t00).2 (gd l k)) l a).2 hrl.1.symm (T U) (T U) sizeOf3 qom (by(repeat (first|exact Upd.h|apply Upd.t|apply D7));done)) ?_ U);rintro _ _ ⟨rfl,rfl⟩;refine rO tb 4 U (y_ (Bd (T U) An qom) ?_ U);refine rO tb 2 U ?_;have hrow2:(rowF (addF e t00).1 (letF e) (canAt (addF e t00).1 (addF e t00).2 (gd l k)) l (a+1)).2=(rowF (addF e t00).1 (letF e) (canAt (addF e t00).1 (addF e t00).2 (gd l k)) l a).2++[idx (rowF (addF e t00).1 (letF e) (canAt (addF e t00).1 (addF e t00).2 (gd l k)) l (a+1)).1 (stepL (addF e t00).1 (letF e) (canAt (addF e t00).1 (addF e t00).2 (gd l k)) a 256,true)]:=by rw[D4];simp only[idx_addSt]
   refine A8 ((a+1,g8)) ?_ ?_ ⟨(by first|exact Aa U|(refine Ae (Aa U) (vint ?_);omega)|(refine Ae (Aa U) ?_;simp;done)|(refine Ae (Aa U) ?_;exact by simp only[hrow,List.length_append,List.length_cons,List.length_nil])),(by first|exact Aa U|(refine Ae (Aa U) (vint ?_);omega)|(refine Ae (Aa U) ?_;simp;done)|(refine Ae (Aa U) ?_;exact by simp only[hrow,List.length_append,List.length_cons,List.length_nil])),trivial⟩ (kg U) ?_
   ·exact⟨by omega,hg8⟩
   ·first|omega|(simp only[];omega)
   ·simp only[hrow2,List.length_append,List.length_cons,List.length_nil,Nat.zero_add];exact sbt
  ·have ha2:a=((letF e).length+1):=by omega
   subst ha2;have hrm:=hrl.1;have hgk:=rowF_get (addF e t00).1 (letF e) (canAt (addF e t00).1 (addF e t00).2 (gd l k)) l (k:=k) qom ((letF e).length+1);have hlk:(gd (rowF (addF e t00).1 (letF e) (canAt (addF e t00).1 (addF e t00).2 (gd l k)) l ((letF e).length+1)).1 k).1<2 ^ (addF e t00).1.names.length:=by rw[hgk];exact hinv.low _ (Ao qom)
   refine rC tb 2 U (Aq (rX tb 10 U ?_))
   first|refine Ak (Aa U) (fun c89=> ?_) (fun c89=> ?_)|refine Au (Aa U) (fun c89=> ?_) (fun c89=> ?_)
   ·have hnone:rawF e=none:=by rw[<- hgo,show 201 - k=(200 - k)+1 by have:=hinv.kl;have:=hinv.few;omega,Ej,if_pos qom,if_pos qom]
    refine rC tb 2 U (y_ (Bg .nil (bd29_z)) ?_ U)
    first|refine A9 (Ls U U sizeOf135) U Ac ?_
    rintro _ _ ⟨rfl,rfl⟩;refine rO tb 7 U (Bc (rX tb 2 U (As U (.cellA (Aa U) isAgg135 sizeOf135 U (by first|exact A2) (Ll U)) ?_)));have hb:buildF leastF e=(⟨[],[],[]⟩,2):=by unfold buildF;rw[hnone]
    rw[hb];exact⟨_,⟨(.nil, .nil, .nil,[]),⟨rfl,rfl,rfl,rfl,rfl,(fun r hr=>by cases hr)⟩,rfl⟩,sbt⟩
   ·refine rC tb 5 U (y_ (Lo U isAgg80 (by first|exact c_o)) ?_ U);refine rO tb 1 U (e_ (A7 (.cons (T U) .nil) (bs26_1_0 _ _ _)) ?_ U);rintro _ _ ⟨n94,rfl,rfl⟩;refine e_ (Br ((⟨.blk n54 ((letF e).length+1) [],(rowF (addF e t00).1 (letF e) (canAt (addF e t00).1 (addF e t00).2 (gd l k)) l ((letF e).length+1)).2⟩:Row)) (by':=24) qlc (T U) (T U) runUnderlying80 runUnderlying80 sizeOf41 typeInfo41 U zeroValue41 U (fun _=>rfl) U hox qde qom (hn:=cs_row hrm A2)) ?_ U;rintro _ _ ⟨dx',rfl,hokx,rfl⟩;refine rO tb 1 U ?_
    first|refine A9 (Ls U U sizeOf80) U Ac ?_|refine A9 (B1 (T U) (T U) U sizeOf80) U Ac ?_|refine A9 (Bu (T U) (T U) U sizeOf80) U Ac ?_
    rintro _ _ ⟨rfl,rfl⟩;refine rO tb 2 U (B9 19 [(0,true),(1,true),(2,true),(3,true),(4,true),(5,true),(6,true),(7,true),(8,true),(9,true),(10,true),(11,true),(12,true),(13,true),(14,true),(15,true),(16,true),(17,true),(18,false)] _ mixd qkr (by exact sbt) ?_ By);refine rP tb 1 U (o_y U (Lo U isAgg133 (by first|exact c_o)) ?_ U Ac);refine rP tb 2 U (o_y U (Lq U U runUnderlying214 sizeOf212 qom (by first|exact rfl|exact hd8.bas qom|exact hd8i.bas qom)) ?_ U Ac);refine rP tb 1 U (o_y U (Lp U isAgg151 sizeOf151 U (by first|exact cells_take (k:=4) (((A5 (X:=H) (enc:=encSt) (sz:=5) (e:=212) (l:=(rowF (addF e t00).1 (letF e) (canAt (addF e t00).1 (addF e t00).2 (gd l k)) l ((letF e).length+1)).1) (fun _=>rfl) hd8i).mono sbt).cs (i:=k) qom)|exact A2)) ?_ U Ac);refine rP tb 1 U ?_;refine o_y U (Lp U isAgg151 sizeOf151 U (by first|exact Ce (o:=4) (k:=4) fdd|exact A2)) ?_ U Ac;refine o_y U (Bb (qe2 U U) call91 (fun H' hs=>meets_s _ (Nat.lt_of_lt_of_le hlk hp) _ qom)) ?_ U Ac;refine rP tb 1 U ?_
    first|refine Cu (s:=107) (Aa U) (fun c107=> ?_) (fun c107=> ?_)|refine Ds (s:=107) (Aa U) (fun c107=> ?_) (fun c107=> ?_)
    ·have hacc:accAt (addF e t00).2 k (gd l k)=true:=by unfold accAt;rw[<- hgk,decide_eq_true c107];rfl
     refine rP tb 7 U (o_e U (A7 (.cons (T U) .nil) (I7 _)) ?_ U Ac);rintro _ _ ⟨n115,rfl,rfl⟩;refine⟨sbt,(Bj U (e_ (Br (accAt (addF e t00).2 k (gd l k)) (by':=1) qlc (T U) (T U) runUnderlying133 runUnderlying133 sizeOf4 typeInfo4 U zeroValue4 U (fun _=>rfl) U hoa qde qom (hn:=Lg hacc A2)) ?_ U))⟩;rintro _ _ ⟨da',rfl,hoka,rfl⟩;refine rO tb 1 U ?_
     first|refine A9 (Ls U U sizeOf133) U Ac ?_|refine A9 (B1 (T U) (T U) U sizeOf133) U Ac ?_|refine A9 (Bu (T U) (T U) U sizeOf133) U Ac ?_
     rintro _ _ ⟨rfl,rfl⟩;refine kO tb 3 [2,4,5,6,7,8,9] rfl U (rG tb 2 U (y_ (Bd (T U) An qom) ?_ U));refine rO tb 2 U ?_;refine A8 ((k+1,(rowF (addF e t00).1 (letF e) (canAt (addF e t00).1 (addF e t00).2 (gd l k)) l ((letF e).length+1)).1,rows++[(⟨.blk n54 ((letF e).length+1) [],(rowF (addF e t00).1 (letF e) (canAt (addF e t00).1 (addF e t00).2 (gd l k)) l ((letF e).length+1)).2⟩:Row)],acc++[accAt (addF e t00).2 k (gd l k)],d8,dx',da')) ?_ ?_ ⟨(by first|exact Aa U|(refine Ae (Aa U) (vint ?_);omega)|(refine Ae (Aa U) ?_;simp;done)|(refine Ae (Aa U) ?_;exact by simp only[hrow,List.length_append,List.length_cons,List.length_nil])),(by first|exact Aa U|(refine Ae (Aa U) (vint ?_);omega)|(refine Ae (Aa U) ?_;simp;done)|(refine Ae (Aa U) ?_;exact by simp only[hrow,List.length_append,List.length_cons,List.length_nil])),trivial⟩ (kg U) ?_
     ·have hnx:=hinv.next hx1 hxw hx3 qom qom;refine⟨by rw[List.map_append];exact hnx,hd8i,by simpa using hokx,by simpa using hoka,?_,?_⟩
      ·intro r hr;simp only[List.mem_append,List.mem_cons,List.not_mem_nil,or_false] at hr;rcases hr with hr|rfl
       ·exact hor r hr
       ·exact⟨Nat.le_of_eq hrm,by show 0=(_ - _)*1;rw[hrm];omega⟩
      ·rw[<- hgo,List.map_append,show 201 - k=(200 - k)+1 by omega,Ej,if_pos (show k<l.length by omega),if_neg (show ¬ 200<(rowF (addF e t00).1 (letF e) (canAt (addF e t00).1 (addF e t00).2 (gd l k)) l ((letF e).length+1)).1.length by omega),show 201 - (k+1)=200 - k by omega];rfl
     ·show 201 - (k+1)<201 - k;omega
     ·simp only[Hk,slH,hrm,Nat.sub_self,List.replicate_zero,List.length_append,List.length_cons,List.length_nil,Nat.zero_add,List.cons_append,List.nil_append];exact sbt
    ·refine rP tb 3 U ?_
     first|refine Cu (s:=110) (Aa U) (fun c110=> ?_) (fun c110=> ?_)|refine Ds (s:=110) (Aa U) (fun c110=> ?_) (fun c110=> ?_)
     ·have hacc:accAt (addF e t00).2 k (gd l k)=(addF e t00).2.emp:=by unfold accAt;rw[<- hgk,decide_eq_false c107,decide_eq_true c110];rfl
      refine rP tb 1 U (o_y U (Lo U isAgg4 (by first|exact c_o)) ?_ U (Ax U U (Aa U)));refine rP tb 2 U (o_e U (A7 (.cons (T U) .nil) (I7 _)) ?_ U Ac);rintro _ _ ⟨n115,rfl,rfl⟩;refine⟨sbt,(Bj U (e_ (Br (accAt (addF e t00).2 k (gd l k)) (by':=1) qlc (T U) (T U) runUnderlying133 runUnderlying133 sizeOf4 typeInfo4 U zeroValue4 U (fun _=>rfl) U hoa qde qom (hn:=Lg hacc A2)) ?_ U))⟩;rintro _ _ ⟨da',rfl,hoka,rfl⟩;refine rO tb 1 U ?_
      first|refine A9 (Ls U U sizeOf133) U Ac ?_|refine A9 (B1 (T U) (T U) U sizeOf133) U Ac ?_|refine A9 (Bu (T U) (T U) U sizeOf133) U Ac ?_
      rintro _ _ ⟨rfl,rfl⟩;refine kO tb 3 [2,4,5,6,7,8,9] rfl U (rG tb 2 U (y_ (Bd (T U) An qom) ?_ U));refine rO tb 2 U ?_;refine A8 ((k+1,(rowF (addF e t00).1 (letF e) (canAt (addF e t00).1 (addF e t00).2 (gd l k)) l ((letF e).length+1)).1,rows++[(⟨.blk n54 ((letF e).length+1) [],(rowF (addF e t00).1 (letF e) (canAt (addF e t00).1 (addF e t00).2 (gd l k)) l ((letF e).length+1)).2⟩:Row)],acc++[accAt (addF e t00).2 k (gd l k)],d8,dx',da')) ?_ ?_ ⟨(by first|exact Aa U|(refine Ae (Aa U) (vint ?_);omega)|(refine Ae (Aa U) ?_;simp;done)|(refine Ae (Aa U) ?_;exact by simp only[hrow,List.length_append,List.length_cons,List.length_nil])),(by first|exact Aa U|(refine Ae (Aa U) (vint ?_);omega)|(refine Ae (Aa U) ?_;simp;done)|(refine Ae (Aa U) ?_;exact by simp only[hrow,List.length_append,List.length_cons,List.length_nil])),trivial⟩ (kg U) ?_
      ·have hnx:=hinv.next hx1 hxw hx3 qom qom;refine⟨by rw[List.map_append];exact hnx,hd8i,by simpa using hokx,by simpa using hoka,?_,?_⟩
       ·intro r hr;simp only[List.mem_append,List.mem_cons,List.not_mem_nil,or_false] at hr;rcases hr with hr|rfl
        ·exact hor r hr
        ·exact⟨Nat.le_of_eq hrm,by show 0=(_ - _)*1;rw[hrm];omega⟩
       ·rw[<- hgo,List.map_append,show 201 - k=(200 - k)+1 by omega,Ej,if_pos (show k<l.length by omega),if_neg (show ¬ 200<(rowF (addF e t00).1 (letF e) (canAt (addF e t00).1 (addF e t00).2 (gd l k)) l ((letF e).length+1)).1.length by omega),show 201 - (k+1)=200 - k by omega];rfl
      ·show 201 - (k+1)<201 - k;omega
      ·simp only[Hk,slH,hrm,Nat.sub_self,List.replicate_zero,List.length_append,List.length_cons,List.length_nil,Nat.zero_add,List.cons_append,List.nil_append];exact sbt
     ·have hacc:accAt (addF e t00).2 k (gd l k)=false:=by unfold accAt;rw[<- hgk,decide_eq_false c107,decide_eq_false c110];rfl
      refine rP tb 4 U (o_e U (A7 (.cons (T U) .nil) (I7 _)) ?_ U Ac);rintro _ _ ⟨n115,rfl,rfl⟩;refine⟨sbt,(Bj U (e_ (Br (accAt (addF e t00).2 k (gd l k)) (by':=1) qlc (T U) (T U) runUnderlying133 runUnderlying133 sizeOf4 typeInfo4 U zeroValue4 U (fun _=>rfl) U hoa qde qom (hn:=Lg hacc A2)) ?_ U))⟩;rintro _ _ ⟨da',rfl,hoka,rfl⟩;refine rO tb 1 U ?_
      first|refine A9 (Ls U U sizeOf133) U Ac ?_|refine A9 (B1 (T U) (T U) U sizeOf133) U Ac ?_|refine A9 (Bu (T U) (T U) U sizeOf133) U Ac ?_
      rintro _ _ ⟨rfl,rfl⟩;refine kO tb 3 [2,4,5,6,7,8,9] rfl U (rG tb 2 U (y_ (Bd (T U) An qom) ?_ U));refine rO tb 2 U ?_;refine A8 ((k+1,(rowF (addF e t00).1 (letF e) (canAt (addF e t00).1 (addF e t00).2 (gd l k)) l ((letF e).length+1)).1,rows++[(⟨.blk n54 ((letF e).length+1) [],(rowF (addF e t00).1 (letF e) (canAt (addF e t00).1 (addF e t00).2 (gd l k)) l ((letF e).length+1)).2⟩:Row)],acc++[accAt (addF e t00).2 k (gd l k)],d8,dx',da')) ?_ ?_ ⟨(by first|exact Aa U|(refine Ae (Aa U) (vint ?_);omega)|(refine Ae (Aa U) ?_;simp;done)|(refine Ae (Aa U) ?_;exact by simp only[hrow,List.length_append,List.length_cons,List.length_nil])),(by first|exact Aa U|(refine Ae (Aa U) (vint ?_);omega)|(refine Ae (Aa U) ?_;simp;done)|(refine Ae (Aa U) ?_;exact by simp only[hrow,List.length_append,List.length_cons,List.length_nil])),trivial⟩ (kg U) ?_
      ·have hnx:=hinv.next hx1 hxw hx3 qom qom;refine⟨by rw[List.map_append];exact hnx,hd8i,by simpa using hokx,by simpa using hoka,?_,?_⟩
       ·intro r hr;simp only[List.mem_append,List.mem_cons,List.not_mem_nil,or_false] at hr;rcases hr with hr|rfl
        ·exact hor r hr
        ·exact⟨Nat.le_of_eq hrm,by show 0=(_ - _)*1;rw[hrm];omega⟩
       ·rw[<- hgo,List.map_append,show 201 - k=(200 - k)+1 by omega,Ej,if_pos (show k<l.length by omega),if_neg (show ¬ 200<(rowF (addF e t00).1 (letF e) (canAt (addF e t00).1 (addF e t00).2 (gd l k)) l ((letF e).length+1)).1.length by omega),show 201 - (k+1)=200 - k by omega];rfl
      ·show 201 - (k+1)<201 - k;omega
      ·simp only[Hk,slH,hrm,Nat.sub_self,List.replicate_zero,List.length_append,List.length_cons,List.length_nil,Nat.zero_add,List.cons_append,List.nil_append];exact sbt
 ·have hpm:=hinv.done qom;have hsome:rawF e=some (rows.map Row.l,acc):=by rw[<- hgo,show 201 - k=(200 - k)+1 by have:=hinv.kl;have:=hinv.few;omega,Ej,if_neg qom]
  refine rC tb 2 U (Aq (rX tb 4 U (y_ (Lp U isAgg135 sizeOf135 U (by first|exact A2)) ?_ U)));refine e_ (A1 (qe1 U) call126 (least_own hL (x:=(dx,da,rows)) (H0:=(slH dn ((letF e).flatMap encS) 9++((n5,Cl (encEn (addF e t00).2) 153)::(n4,Cl [.pointer (some ⟨n17,0,none⟩)] 145)::(trH n17 e1 e2 (addF e t00).1++(n2,Cl [.slice none 0 0, .slice none 0 0, .slice none 0 0] 135)::(n1,Cl (encRx m) 32)::H)))) ⟨hox,hoa,rfl,hor⟩ (by exact sbt) ((A5 (X:=H) (enc:=encS) (sz:=1) (e:=9) (fun _=>rfl) hdn).mono sbt) hpm hln)) ?_ U;rintro _ _ ⟨y,⟨rfl,hoy⟩,rfl⟩
  first|refine A9 (Ls U U sizeOf135) U Ac ?_
  rintro _ _ ⟨rfl,rfl⟩;refine rO tb 4 U (As U (.cellA (Aa U) isAgg135 sizeOf135 U (by first|exact A2) (Ll U)) ?_);have hb:buildF leastF e=(⟨letF e,(leastF ⟨letF e,rows.map Row.l,acc⟩).next,(leastF ⟨letF e,rows.map Row.l,acc⟩).acc⟩,0):=by unfold buildF;rw[hsome]
  rw[hb];exact⟨_,⟨(dn,y),⟨rfl,hdn,hoy⟩,rfl⟩,sbt⟩
theorem Fy {a0:Int}(w:World):(Instr.buildSlice 41 1 #[(0, .int .i64 a0)]).run prog w= .ok (.slice (some ⟨w.heap.size,0,none⟩) 1 1) (w.alloc (Cl [.int .i64 a0] 3)):=by kernel_rfl
theorem J8 (rs:List RowQ)(i:Nat):gd (rs.map RowQ.l) i=(gd rs i).l:=by
 by_cases h:i<rs.length
 ·exact Cr h
 ·have h1:gd rs i=default:=by simp[gd,List.getD,List.getElem?_eq_none (by omega:rs.length<=i)]
  have h2:gd (rs.map RowQ.l) i=default:=by simp[gd,List.getD,List.getElem?_eq_none (by omega:rs.length<=i)]
  rw[h1,h2];rfl
theorem Jx (m:Mc)(i a:Nat):nx m.pl i a=gd (gd m.rows i).l a:=by unfold nx;rw[show m.pl.next=m.rows.map RowQ.l from rfl,J8]
theorem Jq {m:Mc}(h:PMok m.pl){i:Nat}(hi:i<m.rows.length):(gd m.rows i).l.length=m.names.length+1/\∀ a,a<m.names.length+1->gd (gd m.rows i).l a<m.rows.length:=by
 obtain⟨h1,h2⟩:=h.row (gd m.rows i).l (List.mem_map_of_mem (Ao hi));refine⟨h1,fun a ha=> ?_⟩;have:=h2 _ (Ao (i:=a) (by rw[h1];exact ha))
 simpa[Mc.pl] using this
abbrev encNK (k:Nat):Value:= .int .i64 (k:Int)
theorem keyN {V:Type}:KeyOk (V:=V) prog 3 encNK:=keyOk_now runUnderlying3 (fun b k w=>by cases b<;>kernel_rfl) (fun k k'=>by
 by_cases h:k=k'
 ·subst h;simp[Instr.sameNow]
 ·have h2: ¬ k'=k:=fun e=>h e.symm
  have h3: ¬ (k:Int)=(k':Int):=by omega
  simp[Instr.sameNow,h,h2,h3]) (fun k=>by simp[Instr.sameBits])
theorem yl_lookN {w0:World}{H:List (Nat × Obj)}{L:Fm}{x y:Operand}{ty:TypeId}{r:Nat}{l:List Nat}{s:Nat}(hx:Ev L x (.map (some r)))(hy:Ev L y (.int .i64 (s:Int)))(hf:Fnd H r (mapO encNK encIv (zipM l))):
  Yl prog w0 (.lookup 282 x y true) ty L H (.tuple #[.int .i64 (((look (zipM l) s).getD 0:Nat):Int), .bool (decide (s∈l))]):=by
 have h:=Ga (P:=prog) (w0:=w0) (ty:=ty) (k:=s) (keyN (V:=Nat)) hx hy U runUnderlying282 zeroValue3 hf;rw[Hl] at h ⊢
 by_cases hm:s∈l
 ·rw[if_pos hm] at h ⊢;rw[decide_eq_true hm];exact h
 ·rw[if_neg hm] at h ⊢;rw[decide_eq_false hm];exact h
theorem yl_lookN1 {w0:World}{H:List (Nat × Obj)}{L:Fm}{x y:Operand}{ty:TypeId}{r:Nat}{l:List Nat}{s:Nat}(hs:s∈l)(hx:Ev L x (.map (some r)))(hy:Ev L y (.int .i64 (s:Int)))(hf:Fnd H r (mapO encNK encIv (zipM l))):
  Yl prog w0 (.lookup 282 x y false) ty L H (.int .i64 ((idx l s:Nat):Int)):=by
 have h:=G9 (P:=prog) (w0:=w0) (ty:=ty) (k:=s) (keyN (V:=Nat)) hx hy U runUnderlying282 zeroValue3 hf;rw[Hl] at h;rw[if_pos hs] at h;exact h
theorem I8 (b tos:List Nat){order:List Nat}{k:Nat}(h:k<order.length):∀ i,gd (numK b tos order i).1 k=gd order k/\order.length<=(numK b tos order i).1.length
 |0=>⟨rfl,Nat.le_refl _⟩
 |i+1=>by
  obtain⟨h1,h2⟩:=I8 b tos h i;rw[D5];simp only[]
  split
  ·exact⟨h1,h2⟩
  ·refine⟨?_,by simp;omega⟩;rw[Ay (by simp;omega),List.getElem_append_left qom,<- Ay qom,h1]
theorem numK_mem (b tos order:List Nat)(i:Nat):gd b (gd tos i)∈(numK b tos order (i+1)).1.map (gd b):=by
 rw[D5];simp only[]
 split
 ·assumption
 ·simp
theorem numK_idx (b tos order:List Nat)(i:Nat):idx ((numK b tos order (i+1)).1.map (gd b)) (gd b (gd tos i))=idx ((numK b tos order i).1.map (gd b)) (gd b (gd tos i)):=by
 rw[D5];simp only[]
 split
 ·rfl
 ·rename_i h;rw[List.map_append];exact idx_app h
theorem max_s {w0:World}{H:List (Nat × Obj)}(l:List Nat)(q:Option Addr)(c:Nat)(hA:Arr w0 H q 1 encU l)(hl:0<l.length)(hll:l.length<=1000000):
  FSpec prog w0 50 #[.slice q l.length c] H (Still (.int .i64 (maxF l:Nat)) H):=by
 refine Az func50 U ntmps50 U (rD tb 13 U ?_)
 first|refine Ak (Aa U) (fun c7=> ?_) (fun c7=> ?_)|refine Au (Aa U) (fun c7=> ?_) (fun c7=> ?_)
 ·exfalso;omega
 ·refine rC tb 5 U (y_ (Bl (T U) An runUnderlying41 sizeOf3 qom (by first|exact rfl|exact hA.b (i:=0) qom)) ?_ U);refine y_ (Lo U isAgg3 (by first|exact c_o|exact cell1 ((hA.mono sbt).cs (i:=i) qom)|exact cell1 ((hA.mono sbt).cs (i:=0) qom))) ?_ U;refine rO tb 10 U ?_;refine Cb (X:=Nat) (V:=fun i=>[(4, .int .i64 (i:Nat)),(3, .int .i64 (maxF (l.take i):Nat))]) (C:=[(0,_)]) (φ:=fun i=>1<=i/\i<=l.length) (μ:=fun i=>l.length - i) (x0:=1) ?_ (kg U) ⟨(by first|exact Aa U|(refine Ae (Aa U) (vint ?_);omega)|(refine Ae (Aa U) ?_;simp;done)|(refine Ae (Aa U) ?_;exact by cases l with|nil=>simp at hl|cons x l=>rfl)),(by first|exact Aa U|(refine Ae (Aa U) (vint ?_);omega)|(refine Ae (Aa U) ?_;simp;done)|(refine Ae (Aa U) ?_;exact by cases l with|nil=>simp at hl|cons x l=>rfl)),trivial⟩ ?_
  ·exact⟨Nat.le_refl _,by omega⟩
  rintro i ⟨hi1,hi⟩;refine rD tb 9 U ?_
  first|refine Ak (Aa U) (fun c15=> ?_) (fun c15=> ?_)|refine Au (Aa U) (fun c15=> ?_) (fun c15=> ?_)
  ·refine rC tb 8 U (y_ (Lq U U runUnderlying41 sizeOf3 qom (by first|exact rfl|exact hA.b (i:=0) qom)) ?_ U);refine y_ (Lo U isAgg3 (by first|exact c_o|exact cell1 ((hA.mono sbt).cs (i:=i) qom)|exact cell1 ((hA.mono sbt).cs (i:=0) qom))) ?_ U;refine y_ (Kg (T U) (T U)) (rO tb 6 U (y_ (Bd (T U) An qom) ?_ U)) U;refine rO tb 2 U ?_;have hmx:=maxF_take (l:=l) (i:=i) qom qom;refine A8 (i+1) ?_ ?_ ⟨(by first|exact Aa U|(refine Ae (Aa U) (vint ?_);omega)|(refine Ae (Aa U) ?_;simp;done)|(refine Ae (Aa U) ?_;exact by cases l with|nil=>simp at hl|cons x l=>rfl)),(by first|exact Aa U|(refine Ae (Aa U) (vint ?_);omega)|(refine Ae (Aa U) ?_;simp;done)|(refine Ae (Aa U) ?_;exact by cases l with|nil=>simp at hl|cons x l=>rfl)),trivial⟩ (kg U) ?_
   ·exact⟨by omega,by omega⟩
   ·first|omega|(simp only[];omega)
   ·exact sbt
  ·refine rC tb 2 U (Aq (rX tb 9 U (As U (Ll U) ?_)));have hi2:i=l.length:=by omega
   rw[hi2,List.take_length];exact⟨_,⟨rfl,rfl⟩,sbt⟩
theorem split_s {w0:World}{H:List (Nat × Obj)}(m:Mc)(hm:McOk w0 H m)(hp:PMok m.pl)(d:Sl)(n:Nat)(b:List Nat)(k a:Nat)(hd:SlOk d b.length 1)(hn:b.length=n)(hb:n=m.rows.length)(hk:k<n)(ha:a<m.names.length+1)(hbm:maxF b<=n):
  FSpec prog w0 168 #[.agg (encMc m).toArray,slV d n, .int .i64 (k:Int), .int .i64 (a:Int)] (slH d (b.flatMap encU) 3++H) (fun v H'=>∃ x:Unit,True/\H'=slH d ((splitF m.pl b k a).flatMap encU) 3++H):=by
 subst hn;refine Az func168 U ntmps168 U ?_;have hf:=hp.few;have hfl:m.pl.next.length=m.rows.length:=List.length_map ..;obtain⟨hk1,hk2⟩:=Jq hp (show k<m.rows.length by omega);have hkl:gd (gd m.rows k).l a<b.length:=by rw[hb];exact hk2 a ha
 have hml:=mvK_len m.pl b (gd b k) (gd b (nx m.pl k a)) a b.length;refine rD tb 2 U (e_ (Lt U cs_) ?_ U);rintro _ _ ⟨n4,rfl,rfl⟩;refine rO tb 3 U (B9 21 [(0,true),(1,true),(2,true),(3,true),(4,true),(5,true),(6,true),(7,true),(8,true),(9,true),(10,true),(11,true),(12,true),(13,true),(14,true),(15,true),(16,true),(17,true),(18,true),(19,true),(20,true)] _ mixd qkr sb0 ?_ By);refine rP tb 1 U (o_y U (Bb (qe1 U) call50 (fun H' hs=>max_s b _ _ ((A5 (X:=H) (enc:=encU) (sz:=1) (e:=3) (fun _=>rfl) hd).mono (stn hs)) qom qom)) ?_ U Ac);refine o_y U (Bd (T U) An qom) ?_ U Ac;refine rP tb 2 U (o_y U (Lq U U runUnderlying41 sizeOf3 qom (by first|exact rfl|exact hd.bas qom|exact hm.a2.b (i:=k) qom|exact(hm.r (gd m.rows k) (Ao qom)).b (i:=a) qom|exact hm.a2.b (i:=j) qom|exact(hm.r (gd m.rows j) (Ao qom)).b (i:=a) qom|exact hdm.bas qom|exact SlOk.bas (k:=b.length) (sz:=1) hd qom)) ?_ U Ac);refine o_y U (Lo U isAgg3 (by first|exact c_o|exact cell1 (((A5 (X:=H) (enc:=encU) (sz:=1) (e:=3) (l:=b) (fun _=>rfl) hd).mono sbt).cs (i:=k) hk)|exact cell1 (((A5 (X:=H) (enc:=encU) (sz:=1) (e:=3) (l:=b) (fun _=>rfl) hd).mono sbt).cs (i:=k) qom))) ?_ U Ac;refine rP tb 2 U (o_y U (Lo U isAgg80 (by first|exact c_o|exact cell1 (((A5 (X:=H) (enc:=encU) (sz:=1) (e:=3) (l:=b) (fun _=>rfl) hd).mono sbt).cs (i:=k) qom))) ?_ U Ac);refine rP tb 1 U (o_y U (Lq U U runUnderlying80 sizeOf41 qom (by first|exact rfl|exact hd.bas qom|exact hm.a2.b (i:=k) qom|exact(hm.r (gd m.rows k) (Ao qom)).b (i:=a) qom|exact hm.a2.b (i:=j) qom|exact(hm.r (gd m.rows j) (Ao qom)).b (i:=a) qom|exact hdm.bas qom|exact SlOk.bas (k:=b.length) (sz:=1) hd qom)) ?_ U Ac);refine o_y U (Lo U isAgg41 (by first|exact c_o|exact cell1 ((hm.a2.mono sbt).cs (i:=k) qom)|exact cell1 (((A5 (X:=H) (enc:=encU) (sz:=1) (e:=3) (l:=b) (fun _=>rfl) hd).mono sbt).cs (i:=k) qom))) ?_ U Ac;refine rP tb 1 U (o_y U (Lq U U runUnderlying41 sizeOf3 qom (by first|exact rfl|exact hd.bas qom|exact hm.a2.b (i:=k) qom|exact(hm.r (gd m.rows k) (Ao qom)).b (i:=a) qom|exact hm.a2.b (i:=j) qom|exact(hm.r (gd m.rows j) (Ao qom)).b (i:=a) qom|exact hdm.bas qom|exact SlOk.bas (k:=b.length) (sz:=1) hd qom)) ?_ U Ac);refine o_y U (Lo U isAgg3 (by first|exact c_o|exact cell1 (((hm.r (gd m.rows k) (Ao qom)).mono sbt).cs (i:=a) qom)|exact cell1 (((A5 (X:=H) (enc:=encU) (sz:=1) (e:=3) (l:=b) (fun _=>rfl) hd).mono sbt).cs (i:=k) qom))) ?_ U Ac;refine o_y U (Lq U U runUnderlying41 sizeOf3 qom (by first|exact rfl|exact hd.bas qom|exact hm.a2.b (i:=k) qom|exact(hm.r (gd m.rows k) (Ao qom)).b (i:=a) qom|exact hm.a2.b (i:=j) qom|exact(hm.r (gd m.rows j) (Ao qom)).b (i:=a) qom|exact hdm.bas qom|exact SlOk.bas (k:=b.length) (sz:=1) hd qom)) ?_ U Ac;refine o_y U (Lo U isAgg3 (by first|exact c_o|exact cell1 (((A5 (X:=H) (enc:=encU) (sz:=1) (e:=3) (l:=b) (fun _=>rfl) hd).mono sbt).cs (i:=gd (gd m.rows k).l a) hkl)|exact cell1 (((A5 (X:=H) (enc:=encU) (sz:=1) (e:=3) (l:=b) (fun _=>rfl) hd).mono sbt).cs (i:=k) qom))) ?_ U Ac;refine rP tb 3 U (Bj U (rO tb 16 U ?_));refine Bz (X:=Nat × Sl) (V:=fun ⟨j,dm⟩=>[(35, .int .i64 (j:Nat)),(11,slV dm (mvK m.pl b (gd b k) (gd b (nx m.pl k a)) a j).length)]) (C:=[(1,_),(3,_),(4,_),(8,_),(9,_),(10,_),(34,_)]) (G:=fun ⟨j,dm⟩=>slH dm ((mvK m.pl b (gd b k) (gd b (nx m.pl k a)) a j).flatMap encU) 3++((n4,Cl (encMc m) 135)::(slH d (b.flatMap encU) 3++H))) (φ:=fun ⟨j,dm⟩=>j<=b.length/\SlOk dm (mvK m.pl b (gd b k) (gd b (nx m.pl k a)) a j).length 1) (μ:=fun ⟨j,dm⟩=>b.length - j) (x0:=(0, .nil)) ?_ (kg U) ⟨(by first|exact Aa rfl|(refine Ae (Aa rfl) (vint ?_);omega)|(refine Ae (Aa rfl) ?_;simp;done)|(refine Ae (Aa rfl) ?_;exact by simp only[hmv2,List.length_append,List.length_cons,List.length_nil])),(by first|exact Aa rfl|(refine Ae (Aa rfl) (vint ?_);omega)|(refine Ae (Aa rfl) ?_;simp;done)|(refine Ae (Aa rfl) ?_;exact by simp only[hmv2,List.length_append,List.length_cons,List.length_nil])),trivial⟩ sb0 ?_
 ·exact⟨Nat.zero_le _,rfl⟩
 rintro⟨j,dm⟩ ⟨hj,hdm⟩;have hml2:=mvK_len m.pl b (gd b k) (gd b (nx m.pl k a)) a j;refine rD tb 6 U ?_
 first|refine Ak (Aa U) (fun c36=> ?_) (fun c36=> ?_)|refine Au (Aa U) (fun c36=> ?_) (fun c36=> ?_)
 ·obtain⟨hj1,hj2⟩:=Jq hp (show j<m.rows.length by omega);have hjl:=hj2 a ha;have hmv:=mvK_succ m.pl b (gd b k) (gd b (nx m.pl k a)) a j;have e1:=Jx m j a;have e2:=Jx m k a;refine rC tb 14 U (y_ (Lq U U runUnderlying41 sizeOf3 qom (by first|exact rfl|exact hd.bas qom|exact hm.a2.b (i:=k) qom|exact(hm.r (gd m.rows k) (Ao qom)).b (i:=a) qom|exact hm.a2.b (i:=j) qom|exact(hm.r (gd m.rows j) (Ao qom)).b (i:=a) qom|exact hdm.bas qom|exact SlOk.bas (k:=b.length) (sz:=1) hd qom)) ?_ U);refine y_ (Lo U isAgg3 (by first|exact c_o|exact cell1 (((A5 (X:=H) (enc:=encU) (sz:=1) (e:=3) (l:=b) (fun _=>rfl) hd).mono sbt).cs (i:=j) qom)|exact cell1 (((A5 (X:=H) (enc:=encU) (sz:=1) (e:=3) (l:=b) (fun _=>rfl) hd).mono sbt).cs (i:=k) qom))) ?_ U;refine rO tb 3 U ?_
  first|refine Bi (s:=44) (Aa U) (fun c44=> ?_) (fun c44=> ?_)|refine B2 (s:=44) (Aa U) (fun c44=> ?_) (fun c44=> ?_)
  ·refine rO tb 2 U (A3 (Lo U isAgg80 (by first|exact c_o|exact cell1 (((A5 (X:=H) (enc:=encU) (sz:=1) (e:=3) (l:=b) (fun _=>rfl) hd).mono sbt).cs (i:=k) qom))) U (Ax U U (Aa U)) ?_);refine rO tb 1 U (A3 (Lq U U runUnderlying80 sizeOf41 qom (by first|exact rfl|exact hd.bas qom|exact hm.a2.b (i:=k) qom|exact(hm.r (gd m.rows k) (Ao qom)).b (i:=a) qom|exact hm.a2.b (i:=j) qom|exact(hm.r (gd m.rows j) (Ao qom)).b (i:=a) qom|exact hdm.bas qom|exact SlOk.bas (k:=b.length) (sz:=1) hd qom)) U (Ax U U (Aa U)) ?_);refine A3 (Lo U isAgg41 (by first|exact c_o|exact cell1 ((hm.a2.mono sbt).cs (i:=j) qom)|exact cell1 (((A5 (X:=H) (enc:=encU) (sz:=1) (e:=3) (l:=b) (fun _=>rfl) hd).mono sbt).cs (i:=k) qom))) U (Ax U U (Aa U)) ?_;refine rO tb 1 U (A3 (Lq U U runUnderlying41 sizeOf3 qom (by first|exact rfl|exact hd.bas qom|exact hm.a2.b (i:=k) qom|exact(hm.r (gd m.rows k) (Ao qom)).b (i:=a) qom|exact hm.a2.b (i:=j) qom|exact(hm.r (gd m.rows j) (Ao qom)).b (i:=a) qom|exact hdm.bas qom|exact SlOk.bas (k:=b.length) (sz:=1) hd qom)) U (Ax U U (Aa U)) ?_);refine A3 (Lo U isAgg3 (by first|exact c_o|exact cell1 (((hm.r (gd m.rows j) (Ao qom)).mono sbt).cs (i:=a) qom)|exact cell1 (((A5 (X:=H) (enc:=encU) (sz:=1) (e:=3) (l:=b) (fun _=>rfl) hd).mono sbt).cs (i:=k) qom))) U (Ax U U (Aa U)) ?_;refine A3 (Lq U U runUnderlying41 sizeOf3 qom (by first|exact rfl|exact hd.bas qom|exact hm.a2.b (i:=k) qom|exact(hm.r (gd m.rows k) (Ao qom)).b (i:=a) qom|exact hm.a2.b (i:=j) qom|exact(hm.r (gd m.rows j) (Ao qom)).b (i:=a) qom|exact hdm.bas qom|exact SlOk.bas (k:=b.length) (sz:=1) hd qom)) U (Ax U U (Aa U)) ?_;refine A3 (Lo U isAgg3 (by first|exact c_o|exact cell1 (((A5 (X:=H) (enc:=encU) (sz:=1) (e:=3) (l:=b) (fun _=>rfl) hd).mono sbt).cs (i:=gd (gd m.rows j).l a) qom)|exact cell1 (((A5 (X:=H) (enc:=encU) (sz:=1) (e:=3) (l:=b) (fun _=>rfl) hd).mono sbt).cs (i:=k) qom))) U (Ax U U (Aa U)) ?_;refine kO tb 5 [1,3,4,8,9,10,11,12,34,35,58] rfl U ?_
   first|refine Ak (Aa U) (fun c58=> ?_) (fun c58=> ?_)|refine Au (Aa U) (fun c58=> ?_) (fun c58=> ?_)
   ·have hmv2:(mvK m.pl b (gd b k) (gd b (nx m.pl k a)) a (j+1))=(mvK m.pl b (gd b k) (gd b (nx m.pl k a)) a j)++[j]:=by rw[hmv,if_pos ⟨by omega,by rw[e1,e2];omega⟩]
    refine rC tb 3 U (e_ (A7 (.cons (T U) .nil) (Fy)) ?_ U);rintro _ _ ⟨n61,rfl,rfl⟩;refine e_ (Br (j) (by':=8) qlc (T U) (T U) runUnderlying41 runUnderlying41 sizeOf3 typeInfo3 U zeroValue3 U (fun _=>rfl) U hdm qde qom) ?_ U;rintro _ _ ⟨d',rfl,hokd,rfl⟩;refine rO tb 5 U (y_ (Bd (T U) An qom) ?_ U);refine rO tb 2 U ?_;refine A8 ((j+1,d')) ?_ ?_ ⟨(by first|exact Aa U|(refine Ae (Aa U) (vint ?_);omega)|(refine Ae (Aa U) ?_;simp;done)|(refine Ae (Aa U) ?_;exact by simp only[hmv2,List.length_append,List.length_cons,List.length_nil])),(by first|exact Aa U|(refine Ae (Aa U) (vint ?_);omega)|(refine Ae (Aa U) ?_;simp;done)|(refine Ae (Aa U) ?_;exact by simp only[hmv2,List.length_append,List.length_cons,List.length_nil])),trivial⟩ (kg U) ?_
    ·exact⟨by omega,by rw[hmv2,List.length_append];exact hokd⟩
    ·first|omega|(simp only[];omega)
    ·simp only[hmv2];exact sbt
   ·have hmv2:(mvK m.pl b (gd b k) (gd b (nx m.pl k a)) a (j+1))=(mvK m.pl b (gd b k) (gd b (nx m.pl k a)) a j):=by rw[hmv,if_neg (fun h=>by have:=h.2;rw[e1,e2] at this;omega)]
    refine rC tb 4 U (y_ (Bd (T U) An qom) ?_ U);refine rO tb 2 U ?_;refine A8 ((j+1,dm)) ?_ ?_ ⟨(by first|exact Aa U|(refine Ae (Aa U) (vint ?_);omega)|(refine Ae (Aa U) ?_;simp;done)|(refine Ae (Aa U) ?_;exact by simp only[hmv2,List.length_append,List.length_cons,List.length_nil])),(by first|exact Aa U|(refine Ae (Aa U) (vint ?_);omega)|(refine Ae (Aa U) ?_;simp;done)|(refine Ae (Aa U) ?_;exact by simp only[hmv2,List.length_append,List.length_cons,List.length_nil])),trivial⟩ (kg U) ?_
    ·exact⟨by omega,by rw[hmv2];exact hdm⟩
    ·first|omega|(simp only[];omega)
    ·simp only[hmv2];exact sbt
  ·have hmv2:(mvK m.pl b (gd b k) (gd b (nx m.pl k a)) a (j+1))=(mvK m.pl b (gd b k) (gd b (nx m.pl k a)) a j):=by rw[hmv,if_neg (fun h=>by have:=h.1;omega)]
   refine kO tb 16 [1,3,4,8,9,10,11,12,34,35,58] rfl U (rG tb 5 U (y_ (Bd (T U) An qom) ?_ U));refine rO tb 2 U ?_;refine A8 ((j+1,dm)) ?_ ?_ ⟨(by first|exact Aa U|(refine Ae (Aa U) (vint ?_);omega)|(refine Ae (Aa U) ?_;simp;done)|(refine Ae (Aa U) ?_;exact by simp only[hmv2,List.length_append,List.length_cons,List.length_nil])),(by first|exact Aa U|(refine Ae (Aa U) (vint ?_);omega)|(refine Ae (Aa U) ?_;simp;done)|(refine Ae (Aa U) ?_;exact by simp only[hmv2,List.length_append,List.length_cons,List.length_nil])),trivial⟩ (kg U) ?_
   ·exact⟨by omega,by rw[hmv2];exact hdm⟩
   ·first|omega|(simp only[];omega)
   ·simp only[hmv2];exact sbt
 ·have hj2:j=b.length:=by omega
  subst hj2;refine rC tb 2 U (Aq (rX tb 10 U ?_));refine Bz (X:=Nat) (V:=fun i=>[(66, .int .i64 (i:Nat))]) (C:=[(1,_),(8,_),(64,_),(65,_)]) (G:=fun i=>slH dm ((mvK m.pl b (gd b k) (gd b (nx m.pl k a)) a b.length).flatMap encU) 3++((n4,Cl (encMc m) 135)::(slH d ((setM b (maxF b+1) ((mvK m.pl b (gd b k) (gd b (nx m.pl k a)) a b.length).take i)).flatMap encU) 3++H))) (φ:=fun i=>i<=(mvK m.pl b (gd b k) (gd b (nx m.pl k a)) a b.length).length) (μ:=fun i=>(mvK m.pl b (gd b k) (gd b (nx m.pl k a)) a b.length).length - i) (x0:=0) ?_ (kg U) ⟨(by first|exact Aa U|(refine Ae (Aa U) (vint ?_);omega)|(refine Ae (Aa U) ?_;simp;done)|(refine Ae (Aa U) ?_;exact by simp only[hmv2,List.length_append,List.length_cons,List.length_nil])),trivial⟩ sb0 ?_
  ·exact Nat.zero_le _
  rintro i hi;refine rD tb 6 U ?_
  first|refine Ak (Aa U) (fun c67=> ?_) (fun c67=> ?_)|refine Au (Aa U) (fun c67=> ?_) (fun c67=> ?_)
  ·have hmi:gd (mvK m.pl b (gd b k) (gd b (nx m.pl k a)) a b.length) i<b.length:=((mem_mvK m.pl b (gd b k) (gd b (nx m.pl k a)) a _ b.length).1 (Ao (show i<(mvK m.pl b (gd b k) (gd b (nx m.pl k a)) a b.length).length by omega))).1;have hst:=setM_take (b:=b) (f:=maxF b+1) (l:=(mvK m.pl b (gd b k) (gd b (nx m.pl k a)) a b.length)) (i:=i) qom;refine rC tb 6 U (y_ (Lq U U runUnderlying41 sizeOf3 qom (by first|exact rfl|exact hd.bas qom|exact hm.a2.b (i:=k) qom|exact(hm.r (gd m.rows k) (Ao qom)).b (i:=a) qom|exact hm.a2.b (i:=j) qom|exact(hm.r (gd m.rows j) (Ao qom)).b (i:=a) qom|exact hdm.bas qom|exact SlOk.bas (k:=b.length) (sz:=1) hd qom)) ?_ U);refine y_ (Lo U isAgg3 (by first|exact c_o|exact cell1 (((A5 (X:=H) (enc:=encU) (sz:=1) (e:=3) (l:=(mvK m.pl b (gd b k) (gd b (nx m.pl k a)) a b.length)) (fun _=>rfl) hdm).mono sbt).cs (i:=i) qom)|exact cell1 (((A5 (X:=H) (enc:=encU) (sz:=1) (e:=3) (l:=b) (fun _=>rfl) hd).mono sbt).cs (i:=k) qom))) ?_ U;refine rO tb 7 U (y_ (Lq U U runUnderlying41 sizeOf3 qom (by first|exact rfl|exact hd.bas qom|exact hm.a2.b (i:=k) qom|exact(hm.r (gd m.rows k) (Ao qom)).b (i:=a) qom|exact hm.a2.b (i:=j) qom|exact(hm.r (gd m.rows j) (Ao qom)).b (i:=a) qom|exact hdm.bas qom|exact SlOk.bas (k:=b.length) (sz:=1) hd qom)) ?_ U);refine e_ (D2 (l:=setM b (maxF b+1) ((mvK m.pl b (gd b k) (gd b (nx m.pl k a)) a b.length).take i)) (e:=3) (enc:=encU) (sz:=1) (i:=gd (mvK m.pl b (gd b k) (gd b (nx m.pl k a)) a b.length) i) (maxF b+1) (fun _=>rfl) qlc (T U) (T U) (.one U) U sizeOf3 (by rw[I5];exact hmi) (by rw[I5];exact hd)) ?_ U;rintro _ _ ⟨rfl,rfl⟩;refine rO tb 4 U (y_ (Bd (T U) An qom) ?_ U);refine rO tb 2 U ?_;refine A8 (i+1) ?_ ?_ ⟨(by first|exact Aa U|(refine Ae (Aa U) (vint ?_);omega)|(refine Ae (Aa U) ?_;simp;done)|(refine Ae (Aa U) ?_;exact by simp only[hmv2,List.length_append,List.length_cons,List.length_nil])),trivial⟩ (kg U) ?_
   ·show i+1<=_;omega
   ·first|omega|(simp only[];omega)
   ·simp only[hst];exact sbt
  ·refine rC tb 2 U (Aq (rX tb 1 U (Ea U .nil ?_)));have hi2:i=(mvK m.pl b (gd b k) (gd b (nx m.pl k a)) a b.length).length:=by omega
   rw[hi2,List.take_length];exact⟨_,⟨(),trivial,rfl⟩,sbt⟩
end Go.Proofs.YtnafbfbfmgfcfaaGreatDoor
