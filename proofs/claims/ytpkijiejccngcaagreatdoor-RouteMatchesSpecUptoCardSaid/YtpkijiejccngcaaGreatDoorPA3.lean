/-
  A part of what LawA rests on: the logic, walks and plain laws. No condition.
-/
import Derived.Test.YtpkijiejccngcaaGreatDoorPA2
namespace Go.Proofs.YtpkijiejccngcaaGreatDoor
open _root_.Go.Proofs.Tryz
open Go.RowKit
set_option linter.unusedVariables false
set_option linter.unusedSimpArgs false
set_option linter.unusedSectionVars false
set_option maxRecDepth 100000
def Re.Nm:Re→Prop
 | .nod s=>NmOk s
 | .seq a b=>a.Nm∧b.Nm
 | .alt a b=>a.Nm∧b.Nm
 | .star a=>a.Nm
 |_=>True
def WantOk (m:Rxm) (w:Nat) (ok:Bool):Prop:=((m.kind=1∨m.kind=3)∧w=0∧(ok=true↔m.node=⟨#[]⟩))∨(m.kind=2∧w=0∧(ok=true↔NmOk m.node))∨((m.kind=4∨m.kind=5)∧w=2∧(ok=true↔m.node=⟨#[]⟩))∨(m.kind=6∧w=1∧(ok=true↔m.node=⟨#[]⟩))
theorem WantOk.le {m:Rxm}{w:Nat}{ok:Bool}(h:WantOk m w ok):w≤2:=by unfold WantOk at h;omega
theorem want_is {m:Rxm}{w:Nat}(h:WantOk m w true)(hl:m.args.length=w)(hp:∀ j,j<w→∃ e,Is (gd m.args j) e∧e.Nm):∃ e,Is m e∧e.Nm:=by
 obtain⟨k,s,q,c,xs⟩:=m;simp only[WantOk,Rxm.kind,Rxm.node,Rxm.args] at h hl hp;rcases h with ⟨hk,rfl,hn⟩|⟨rfl,rfl,hn⟩|⟨hk,rfl,hn⟩|⟨rfl,rfl,hn⟩
 ·have:=List.eq_nil_of_length_eq_zero hl;subst this;have:=hn.1 trivial;subst this;rcases hk with rfl|rfl
  ·exact⟨_, .emp,trivial⟩
  ·exact⟨_, .any,trivial⟩
 ·have:=List.eq_nil_of_length_eq_zero hl;subst this;exact⟨_, .nod (hn.1 trivial).z,hn.1 trivial⟩
 ·match xs,hl with
  |[a,b],_=>
   have:=hn.1 trivial;subst this;obtain⟨e1,h1,n1⟩:=hp 0 qom;obtain⟨e2,h2,n2⟩:=hp 1 qom;rcases hk with rfl|rfl
   ·exact⟨_, .seq h1 h2,n1,n2⟩
   ·exact⟨_, .alt h1 h2,n1,n2⟩
 ·match xs,hl with
  |[a],_=>
   have:=hn.1 trivial;subst this;obtain⟨e1,h1,n1⟩:=hp 0 qom;exact⟨_, .star h1,n1⟩
abbrev FmOk (m:Rxm):Prop:=∃ x,Is m x∧x.Nm
theorem I3 {m:Rxm}(h:FmOk m):(m.kind=2∧NmOk m.node∧m.args=[])∨((m.kind=1∨m.kind=3)∧m.node=⟨#[]⟩∧m.args=[])∨(m.kind=6∧m.node=⟨#[]⟩∧m.args.length=1∧∀ a∈m.args,FmOk a)∨((m.kind=4∨m.kind=5)∧m.node=⟨#[]⟩∧m.args.length=2∧∀ a∈m.args,FmOk a):=by
 obtain⟨x,hx,hn⟩:=h;cases hx with
 |emp=>exact .inr (.inl ⟨.inl rfl,rfl,rfl⟩)
 |nod _=>exact .inl ⟨rfl,hn,rfl⟩
 |any=>exact .inr (.inl ⟨.inr rfl,rfl,rfl⟩)
 |seq h1 h2=>exact .inr (.inr (.inr ⟨.inl rfl,rfl,rfl,fun a ha=>by
   rcases List.mem_cons.1 ha with rfl|ha
   ·exact⟨_,h1,hn.1⟩
   ·simp at ha;subst ha;exact⟨_,h2,hn.2⟩⟩))
 |alt h1 h2=>exact .inr (.inr (.inr ⟨.inr rfl,rfl,rfl,fun a ha=>by
   rcases List.mem_cons.1 ha with rfl|ha
   ·exact⟨_,h1,hn.1⟩
   ·simp at ha;subst ha;exact⟨_,h2,hn.2⟩⟩))
 |star h1=>exact .inr (.inr (.inl ⟨rfl,rfl,rfl,fun a ha=>by obtain rfl:=List.mem_singleton.1 ha;exact⟨_,h1,hn⟩⟩))
theorem want_ok {m:Rxm}{w:Nat}{ok:Bool}(h:WantOk m w ok)(hf:FmOk m):ok=true∧m.args.length=w:=by
 have hc:=I3 hf;unfold WantOk at h;rcases h with ⟨hk,rfl,hn⟩|⟨hk,rfl,hn⟩|⟨hk,rfl,hn⟩|⟨hk,rfl,hn⟩<;>rcases hc with c|c|c|c<;>first|(exfalso;omega)|exact⟨hn.2 c.2.1,by rw[c.2.2];rfl⟩|exact⟨hn.2 c.2.1,c.2.2.1⟩
theorem fm_args {m:Rxm}(hf:FmOk m):∀ a∈m.args,FmOk a:=by
 rcases I3 hf with c|c|c|c
 ·rw[c.2.2];intro a h;cases h
 ·rw[c.2.2];intro a h;cases h
 ·exact c.2.2.2
 ·exact c.2.2.2
theorem Is.lvz {m:Rxm}{e:Re}(h:Is m e):2*e.lv≤m.sz+1:=by
 induction h with
 |emp=>simp[Re.lv]
 |nod _=>simp[Re.lv,Rxm.sz,szL]
 |any=>simp[Re.lv,Rxm.sz,szL]
 |seq h1 h2 i1 i2=>simp only[Re.lv,Rxm.sz,szL];omega
 |alt h1 h2 i1 i2=>simp only[Re.lv,Rxm.sz,szL];omega
 |star h1 i1=>simp only[Re.lv,Rxm.sz,szL];omega
theorem E6 {s:ByteArray}{b:Bool}(e:b=decide (s.data.toList=(⟨#[]⟩:ByteArray).data.toList))(h:b=true):s=⟨#[]⟩:=by
 rw[h] at e;exact ByteArray.ext (Array.ext' (of_decide_eq_true e.symm))
def fmdS (w0:World) (m:Rxm):Prop:=∀ H:List (Nat × Obj),RxM w0 H m→m.sz≤8388608→FSpec Tryz.prog w0 103 #[.agg (encRx m).toArray] H (fun v H'=>(∃ t:Bool,v= .bool t∧(t=true↔FmOk m))∧H'=H)
theorem fmd_step {w0:World}{H:List (Nat × Obj)}(m:Rxm)(hM:RxM w0 H m)(hz:m.sz≤8388608)(ih:∀ a∈m.args,fmdS w0 a):
  FSpec Tryz.prog w0 103 #[.agg (encRx m).toArray] H (fun v H'=>(∃ t:Bool,v= .bool t∧(t=true↔FmOk m))∧H'=H):=by
 refine Ap Tryz.func103 U ntmps103 U ?_;have hse:=Fj m;have hln:=Fk m.args;have hA:=hM.arr;refine rD tb 2 U (e_ (Lt U cs_) ?_ U);rintro _ _ ⟨n1,rfl,rfl⟩;refine rO tb 6 U (y_ (Lo U isAgg9 qco) ?_ U);refine e_ (Am (qe1 U) call142 (plain_s m.node hM.nl)) ?_ U;rintro _ _ ⟨⟨t1,rfl,ht1⟩,rfl⟩;refine rO tb 11 U (y_ (Lo U isAgg9 qco) ?_ U);refine y_ (Cb (T U) Ao) (rO tb 3 U ?_) U;refine Kb (X:=Nat × Bool) (V:=fun ⟨wn,ok⟩=>[(4, .int .i64 (wn:Nat)),(5, .bool ok)]) (C:=[(1,_)]) (φ:=fun ⟨wn,ok⟩=>WantOk m wn ok) ⟨Aa rfl,trivial⟩ ?_ ?_
 ·refine rD tb 3 U (y_ (Lo U isAgg3 qco) ?_ U);refine rO tb 10 U ?_;refine Ae (Aa U) (fun c16=> ?_) (fun c16=> ?_)
  ·refine rC tb 2 U ?_
   first|refine Cg (Aa U) ?_|refine Cg (Bf (Aa U) (vbool (decide_eq_true c16))) ?_
   refine rC tb 4 U ?_;refine Bd ((0,_)) ?_ ⟨qat,qat,trivial⟩ ⟨Aa U,trivial⟩ sbt;exact .inl ⟨by omega,rfl,⟨fun h=>E6 U h,fun h=>decide_eq_true (by rw[h])⟩⟩
  ·refine rC tb 5 U ?_;refine Ae (Aa U) (fun c16=> ?_) (fun c16=> ?_)
   ·refine rC tb 4 U ?_;refine Bd ((0,_)) ?_ ⟨qat,qat,trivial⟩ ⟨Aa U,trivial⟩ sbt;exact .inl ⟨by omega,rfl,⟨fun h=>E6 U h,fun h=>decide_eq_true (by rw[h])⟩⟩
   ·refine rC tb 6 U ?_;refine Ae (Aa U) (fun c19=> ?_) (fun c19=> ?_)
    ·refine rC tb 5 U ?_;refine Bd ((0,_)) ?_ ⟨qat,qat,trivial⟩ ⟨Aa U,trivial⟩ sbt
     first|exact .inl ⟨by omega,rfl,⟨fun h=>E6 U h,fun h=>decide_eq_true (by rw[h])⟩⟩|exact .inr (.inl ⟨by omega,rfl,ht1⟩)
    ·refine rC tb 7 U ?_;refine Ae (Aa U) (fun c22=> ?_) (fun c22=> ?_)
     ·refine rC tb 2 U ?_
      first|refine Cg (Aa U) ?_|refine Cg (Bf (Aa U) (vbool (decide_eq_true c22))) ?_
      refine rC tb 4 U ?_;refine Bd ((2,_)) ?_ ⟨qat,qat,trivial⟩ ⟨Aa U,trivial⟩ sbt
      first|exact .inl ⟨by omega,rfl,⟨fun h=>E6 U h,fun h=>decide_eq_true (by rw[h])⟩⟩|exact .inr (.inl ⟨by omega,rfl,ht1⟩)|exact .inr (.inr (.inl ⟨by omega,rfl,⟨fun h=>E6 U h,fun h=>decide_eq_true (by rw[h])⟩⟩))
     ·refine rC tb 5 U ?_;refine Ae (Aa U) (fun c22=> ?_) (fun c22=> ?_)
      ·refine rC tb 4 U ?_;refine Bd ((2,_)) ?_ ⟨qat,qat,trivial⟩ ⟨Aa U,trivial⟩ sbt
       first|exact .inl ⟨by omega,rfl,⟨fun h=>E6 U h,fun h=>decide_eq_true (by rw[h])⟩⟩|exact .inr (.inl ⟨by omega,rfl,ht1⟩)|exact .inr (.inr (.inl ⟨by omega,rfl,⟨fun h=>E6 U h,fun h=>decide_eq_true (by rw[h])⟩⟩))
      ·refine rC tb 6 U ?_;refine Ae (Aa U) (fun c25=> ?_) (fun c25=> ?_)
       ·refine rC tb 4 U ?_;refine Bd ((1,_)) ?_ ⟨qat,qat,trivial⟩ ⟨Aa U,trivial⟩ sbt
        first|exact .inl ⟨by omega,rfl,⟨fun h=>E6 U h,fun h=>decide_eq_true (by rw[h])⟩⟩|exact .inr (.inl ⟨by omega,rfl,ht1⟩)|exact .inr (.inr (.inl ⟨by omega,rfl,⟨fun h=>E6 U h,fun h=>decide_eq_true (by rw[h])⟩⟩))|exact .inr (.inr (.inr ⟨by omega,rfl,⟨fun h=>E6 U h,fun h=>decide_eq_true (by rw[h])⟩⟩))
       ·refine rC tb 7 U (q_cut_ret (Ai U (Ll U) ?_));exact⟨_,⟨⟨_,rfl,⟨fun h=>(by cases h),fun h=>absurd (I3 h) qom⟩⟩,rfl⟩,sbt⟩
 rintro⟨wn,ok⟩ hw;have hwl:=hw.le;refine rC tb 4 U ?_
 first|refine A6 (Bc (T U)) U Ac ?_|refine A6 (By (T U)) U Ac ?_
 refine rO tb 1 U ?_
 first|refine A4 (s:=29) (Aa U) (fun c29=> ?_) (fun c29=> ?_)|refine Eu (s:=29) (Aa U) (fun c29=> ?_) (fun c29=> ?_)
 ·refine rO tb 16 U (Ai U (Ll U) ?_);exact⟨_,⟨⟨_,rfl,⟨fun h=>(by cases h),fun h=>absurd (want_ok hw h).1 (by simpa using c29)⟩⟩,rfl⟩,sbt⟩
 ·refine rO tb 1 U (A6 (Lo U isAgg54 qco) U (Az U U (Aa U)) ?_);refine rO tb 6 U ?_;refine Ae (Aa U) (fun c35=> ?_) (fun c35=> ?_)
  ·refine rC tb 7 U (Ai U (Ll U) ?_);exact⟨_,⟨⟨_,rfl,⟨fun h=>(by cases h),fun h=>absurd (want_ok hw h).2 qom⟩⟩,rfl⟩,sbt⟩
  ·refine rC tb 9 U ?_;refine Bb (X:=Nat) (V:=fun i=>[(6, .int .i64 (i:Nat))]) (C:=[(1,_),(4,_)]) (φ:=fun i=>i≤wn∧m.args.length=wn∧ok=true∧∀ j,j<i→∃ e,Is (gd m.args j) e∧e.Nm) (μ:=fun i=>wn - i) (x0:=0) ?_ ⟨Aa U,Aa U,trivial⟩ ⟨qat,trivial⟩ ?_
   ·exact⟨Nat.zero_le _,by omega,by simpa using c29,fun j hj=>absurd hj (Nat.not_lt_zero _)⟩
   rintro i ⟨hi,hal,hok,hall⟩;have htk:i<m.args.length→szL (m.args.take (i+1))=szL (m.args.take i)+(gd m.args i).sz:=fun h=>Dv h
   have htl:=D2 m.args (i+1);have htl0:=D2 m.args i;refine rD tb 8 U ?_;refine Ae (Aa U) (fun c38=> ?_) (fun c38=> ?_)
   ·refine rC tb 7 U (y_ (Lo U isAgg54 qco) ?_ U);refine rO tb 1 U (y_ (Lq U U runUnderlying54 sizeOf56 qom (by first|exact rfl|exact hA.b (i:=i) qom)) ?_ U);refine y_ (Lp U isAgg56 sizeOf56 U (by exact(hA.mono sbt).cs (i:=i) qom)) ?_ U;refine e_ (Am (qe1 U) call103 (ih _ (Ag (i:=i) qom) _ ((hM.arg (Ag (i:=i) qom)).mono sbt) qom)) ?_ U;rintro _ _ ⟨⟨t,rfl,ht⟩,rfl⟩;refine rO tb 6 U ?_
    first|refine A6 (Bc (T U)) U Ac ?_|refine A6 (By (T U)) U Ac ?_
    refine rO tb 2 U ?_
    first|refine Ae (Aa U) (fun c48=> ?_) (fun c48=> ?_)|refine Bm (Aa U) (fun c48=> ?_) (fun c48=> ?_)
    ·refine rC tb 8 U (Aw (rX tb 2 U (Ai U (Ll U) ?_)));exact⟨_,⟨⟨_,rfl,⟨fun h=>(by cases h),fun h=>absurd (ht.2 (fm_args h _ (Ag qom))) (by simpa using c48)⟩⟩,rfl⟩,sbt⟩
    ·refine rC tb 5 U (y_ (Aq (T U) Ao qom) ?_ U);refine rO tb 2 U ?_;refine An (i+1) ?_ ?_ ⟨qat,trivial⟩ ⟨Aa U,Aa U,trivial⟩ ?_
     ·refine⟨by omega,hal,hok,fun j hj=> ?_⟩
      by_cases e:j=i
      ·subst e;exact ht.1 (by simpa using c48)
      ·exact hall j qom
     ·omega
     ·exact sbt
   ·refine rC tb 2 U (Af (rX tb 8 U (Ai U (Ll U) ?_)));exact⟨_,⟨⟨_,rfl,⟨fun _=>want_is (hok ▸ hw) hal (fun j hj=>hall j qom),fun _=>rfl⟩⟩,rfl⟩,sbt⟩
theorem fmd_s {w0:World}{H:List (Nat × Obj)}(m:Rxm)(hM:RxM w0 H m)(hz:m.sz≤8388608):FSpec Tryz.prog w0 103 #[.agg (encRx m).toArray] H (fun v H'=>(∃ t:Bool,v= .bool t∧(t=true↔FmOk m))∧H'=H):=
 Gi (Q:=fmdS w0) (fun m ih H hM hz=>fmd_step m hM hz ih) m H hM hz
theorem lim_s {w0:World}{H:List (Nat × Obj)}(a b:Nat):
  FSpec Tryz.prog w0 140 #[.agg #[.int .i64 (a:Nat), .int .i64 (b:Nat)]] H (fun v H'=>(∃ t:Int,v= .int .i64 t∧(t=0↔a≤200∧b≤20))∧H'=H):=by
 refine Ap Tryz.func140 U ntmps140 U (rD tb 2 U (e_ (Lt U cs_) ?_ U));rintro _ _ ⟨n1,rfl,rfl⟩;refine rO tb 7 U (y_ (Lo U isAgg3 qco) ?_ U);refine rO tb 2 U ?_;refine A4 (s:=6) (Aa U) (fun c6=> ?_) (fun c6=> ?_)
 ·refine rO tb 14 U (Ai U (Ll U) ?_);exact⟨_,⟨⟨_,rfl,⟨fun h=>by omega,fun h=>by omega⟩⟩,rfl⟩,sbt⟩
 ·refine rO tb 1 U (A6 (Lo U isAgg3 qco) U (Az U U (Aa U)) ?_);refine rO tb 4 U ?_;refine Ae (Aa U) (fun c10=> ?_) (fun c10=> ?_)
  ·refine rC tb 7 U (Ai U (Ll U) ?_);exact⟨_,⟨⟨_,rfl,⟨fun h=>by omega,fun h=>by omega⟩⟩,rfl⟩,sbt⟩
  ·refine rC tb 8 U (Ai U (Ll U) ?_);exact⟨_,⟨⟨_,rfl,⟨fun h=>by omega,fun h=>by omega⟩⟩,rfl⟩,sbt⟩
theorem frm_s {w0:World}{H:List (Nat × Obj)}(a b:Nat)(t:Bool):
  FSpec Tryz.prog w0 101 #[.agg #[.int .i64 (a:Nat), .int .i64 (b:Nat)], .bool t] H (fun v H'=>(∃ e:Int,v= .int .i64 e∧(e=0↔t=true∧a≤200∧b≤20))∧H'=H):=by
 refine Ap Tryz.func101 U ntmps101 U (rD tb 2 U (e_ (Lt U cs_) ?_ U));rintro _ _ ⟨n2,rfl,rfl⟩;refine rO tb 5 U (y_ (Lp U isAgg165 sizeOf165 U qcs) ?_ U);refine e_ (Am (qe1 U) call140 (lim_s a b)) ?_ U;rintro _ _ ⟨⟨e0,rfl,he0⟩,rfl⟩;refine rO tb 9 U ?_;refine A4 (s:=10) (Aa U) (fun c10=> ?_) (fun c10=> ?_)
 ·refine rO tb 1 U ?_
  first|refine A6 (Bc (T U)) U (Az U U (Aa U)) ?_|refine A6 (By (T U)) U (Az U U (Aa U)) ?_
  refine rO tb 3 U ?_
  first|refine Ae (Aa U) (fun c13=> ?_) (fun c13=> ?_)|refine Bm (Aa U) (fun c13=> ?_) (fun c13=> ?_)
  ·refine rC tb 7 U (Ai U (Ll U) ?_);exact⟨_,⟨⟨_,rfl,⟨fun h=>⟨(by(exfalso;omega)),he0.1 (by first|exact h|omega)⟩,fun h=>by
    have h9:=he0.2 h.2
    first|exact h9|(exfalso;omega)|(exfalso;rw[h.1] at c13;cases c13)⟩⟩,rfl⟩,sbt⟩
  ·refine rC tb 9 U (Ai U (Ll U) ?_);exact⟨_,⟨⟨_,rfl,⟨fun h=>⟨(by first|(exfalso;omega)|(simp_all;done)),he0.1 (by exact h)⟩,fun h=>by
    have h9:=he0.2 h.2;exact h9⟩⟩,rfl⟩,sbt⟩
 ·refine rO tb 15 U (Ai U (Ll U) ?_);exact⟨_,⟨⟨_,rfl,⟨fun h=>⟨(by(exfalso;omega)),he0.1 (by exact h)⟩,fun h=>by
    have h9:=he0.2 h.2;exact h9⟩⟩,rfl⟩,sbt⟩
theorem chkr_s {w0:World}{H:List (Nat × Obj)}(m:Rxm)(hM:RxM w0 H m)(hz:m.sz≤8388608):
  FSpec Tryz.prog w0 44 #[.agg (encRx m).toArray] H (fun v H'=>(∃ e:Int,v= .int .i64 e∧(e=0↔FmOk m∧m.sz≤200∧m.dp≤20))∧H'=H):=by
 refine Ap Tryz.func44 U ntmps44 U (rD tb 2 U (e_ (Lt U cs_) ?_ U));rintro _ _ ⟨n1,rfl,rfl⟩;refine rO tb 4 U (Bg 3 [(0,true),(2,true),(1,false)] _ mixd qkr sb0 ?_ A7);refine o_y U (Lp U isAgg56 sizeOf56 U qcs) ?_ U Ac;refine o_y U (Lp U isAgg56 sizeOf56 U qcs) ?_ U Ac;refine o_e U (Am (qe1 U) call102 (siz_s m (hM.mono sbt) hz)) ?_ U Ac;rintro _ _ ⟨rfl,rfl⟩;refine⟨sbt,(A5 U (e_ (Am (qe1 U) call103 (fmd_s m (hM.mono sbt) hz)) ?_ U))⟩;rintro _ _ ⟨⟨t,rfl,ht⟩,rfl⟩;refine e_ (Am (qe2 U U) call101 (frm_s m.sz m.dp t)) ?_ U;rintro _ _ ⟨⟨e,rfl,he⟩,rfl⟩;refine rO tb 4 U (Ai U (Ll U) ?_);exact⟨_,⟨⟨_,rfl,he.trans (and_congr_left fun _=>ht)⟩,rfl⟩,sbt⟩
theorem few8_s {w0:World}{H:List (Nat × Obj)}(m:Rxm)(hM:RxM w0 H m)(hz:m.sz≤8388608):
  FSpec Tryz.prog w0 40 #[.agg (encRx m).toArray] H (fun v H'=>(∃ t:Bool,v= .bool t∧(t=true→∃ x,Is m x∧m.sz≤40∧x.Nm∧m.dp≤20))∧H'=H):=by
 refine Ap Tryz.func40 U ntmps40 U (rD tb 2 U (e_ (Lt U cs_) ?_ U));rintro _ _ ⟨n1,rfl,rfl⟩;refine rO tb 5 U (y_ (Lp U isAgg56 sizeOf56 U qcs) ?_ U);refine e_ (Am (qe1 U) call44 (chkr_s m (hM.mono sbt) hz)) ?_ U;rintro _ _ ⟨⟨e,rfl,he⟩,rfl⟩;refine rO tb 8 U ?_;refine A4 (s:=8) (Aa U) (fun c8=> ?_) (fun c8=> ?_)
 ·refine A6 (Lp U isAgg56 sizeOf56 U qcs) U (Az U U (Aa U)) ?_;refine A6 (Ax (qe1 U) call98 (fun H' hs=>cnt_s m (hM.mono (stn hs)) hz)) U (Az U U (Aa U)) (rO tb 3 U ?_);refine A4 (s:=13) (Aa U) (fun c13=> ?_) (fun c13=> ?_)
  ·refine A6 (Lp U isAgg56 sizeOf56 U qcs) U (Az U U (Aa U)) ?_;refine A0 (Am (qe1 U) call99 (str_s m (hM.mono sbt) hz)) U (Az U U (Aa U)) ?_;rintro _ _ ⟨⟨t,rfl,ht⟩,rfl⟩;refine rO tb 6 U (Ai U (Ll U) ?_);exact⟨_,⟨⟨_,rfl,fun h=>(by(obtain⟨⟨x,hx,hn⟩,_,hd⟩:=he.1 qom;exact⟨x,hx,by omega,hn,hd⟩))⟩,rfl⟩,sbt⟩
  ·refine rO tb 8 U (Ai U (Ll U) ?_);exact⟨_,⟨⟨_,rfl,fun h=>(by first|(obtain⟨⟨x,hx,hn⟩,_,hd⟩:=he.1 qom;exact⟨x,hx,by omega,hn,hd⟩)|cases h)⟩,rfl⟩,sbt⟩
 ·refine rO tb 13 U (Ai U (Ll U) ?_);exact⟨_,⟨⟨_,rfl,fun h=>(by first|(obtain⟨⟨x,hx,hn⟩,_,hd⟩:=he.1 qom;exact⟨x,hx,by omega,hn,hd⟩)|cases h)⟩,rfl⟩,sbt⟩
theorem few_s {w0:World}{H:List (Nat × Obj)}(m:Rxm)(hM:RxM w0 H m)(hz:m.sz≤1048576):
  FSpec Tryz.prog w0 40 #[.agg (encRx m).toArray] H (fun v H'=>(∃ t:Bool,v= .bool t∧(t=true→∃ x,Is m x∧m.sz≤40∧x.Nm∧m.dp≤20))∧H'=H):=few8_s m hM qom
theorem I4 {w0:World}{H:List (Nat × Obj)}(n:Nm)(k:Int):
  FSpec Tryz.prog w0 43 #[.agg (encNm n).toArray, .int .i64 k] H (Still (.bool (decide (0≤k∧k<n.nodes.length))) H):=by
 refine Ap Tryz.func43 U ntmps43 U (rD tb 2 U (e_ (Lt U cs_) ?_ U));rintro _ _ ⟨n2,rfl,rfl⟩;refine rO tb 8 U ?_;refine A4 (s:=7) (Aa U) (fun c7=> ?_) (fun c7=> ?_)
 ·refine rO tb 2 U (A6 (Lo U isAgg22 qco) U (Az U U (Aa U)) ?_);refine rO tb 7 U (Ai U (Ll U) ?_);exact⟨_,⟨by simp[resOf,c7],rfl⟩,sbt⟩
 ·refine rO tb 10 U (Ai U (Ll U) ?_);exact⟨_,⟨by simp[resOf,c7],rfl⟩,sbt⟩
theorem netFew_s {w0:World}{H:List (Nat × Obj)}(n:Nm)(x y z:Int):
  FSpec Tryz.prog w0 11 #[.agg (encNm n).toArray, .int .i64 x, .int .i64 y, .int .i64 z] H (Still (.bool (decide (n.nodes.length≤x∧n.links.length≤y∧n.edges.length≤z))) H):=by
 refine Ap Tryz.func11 U ntmps11 U (rD tb 2 U (e_ (Lt U cs_) ?_ U));rintro _ _ ⟨n4,rfl,rfl⟩;refine rO tb 6 U (y_ (Lo U isAgg22 qco) ?_ U);refine rO tb 4 U ?_;refine A4 (s:=14) (Aa U) (fun c14=> ?_) (fun c14=> ?_)
 ·refine rO tb 1 U (A6 (Lo U isAgg23 qco) U (Az U U (Aa U)) ?_);refine rO tb 5 U ?_;refine A4 (s:=21) (Aa U) (fun c21=> ?_) (fun c21=> ?_)
  ·refine rO tb 1 U (A6 (Lo U isAgg24 qco) U (Az U U (Aa U)) ?_);refine rO tb 8 U (Ai U (Ll U) ?_);exact⟨_,⟨by simp[resOf, *],rfl⟩,sbt⟩
  ·refine rO tb 10 U (Ai U (Ll U) ?_);exact⟨_,⟨by simp[resOf, *],rfl⟩,sbt⟩
 ·refine rO tb 17 U (Ai U (Ll U) ?_);exact⟨_,⟨by simp[resOf, *],rfl⟩,sbt⟩
theorem name_s {w0:World}{H:List (Nat × Obj)}(s:ByteArray)(hs:s.size≤9223372036854775807):
  FSpec Tryz.prog w0 100 #[.string s] H (fun v H'=>(∃ t:Bool,v= .bool t)∧H'=H):=by
 refine Ap Tryz.func100 U ntmps100 U (rD tb 12 U ?_);refine Bb (X:=Nat) (V:=fun k=>[(3, .int .i64 (k:Nat))]) (C:=[(0,_)]) (φ:=fun k=>k≤s.size) (μ:=fun k=>s.size - k) (x0:=0) ?_ ⟨Aa U,trivial⟩ ⟨qat,trivial⟩ ?_
 ·exact Nat.zero_le _
 rintro k hk;refine rD tb 5 U (y_ (Dq (T U) runUnderlying9) (rO tb 3 U ?_) U);refine Ae (Aa U) (fun c9=> ?_) (fun c9=> ?_)
 ·refine rC tb 4 U ?_;refine Kb (X:=Bool) (V:=fun t=>[(4, .bool t)]) (C:=[(0,_),(3,_)]) (φ:=fun t=>True) ⟨Aa U,Aa U,trivial⟩ ?_ ?_
  ·refine rD tb 3 U (y_ (D7 (T U) (T U) runUnderlying9 qom) ?_ U);refine rO tb 2 U ?_;refine A4 (s:=16) (Aa U) (fun c16=> ?_) (fun c16=> ?_)
   ·refine rO tb 2 U (A6 (D7 (T U) (T U) runUnderlying9 qom) U (Az U U (Aa U)) ?_);refine rO tb 4 U ?_;refine Bd (_) ?_ ⟨qat,trivial⟩ ⟨Aa U,Aa U,trivial⟩ sbt
    trivial
   ·refine rO tb 7 U ?_;refine Bd (_) ?_ ⟨qat,trivial⟩ ⟨Aa U,Aa U,trivial⟩ sbt
    trivial
  rintro t -;refine Kb (X:=Bool) (V:=fun t=>[(5, .bool t)]) (C:=[(0,_),(3,_),(4,_)]) (φ:=fun t=>True) ⟨Aa U,Aa U,Aa U,trivial⟩ ?_ ?_
  ·refine rD tb 3 U (y_ (D7 (T U) (T U) runUnderlying9 qom) ?_ U);refine rO tb 2 U ?_;refine A4 (s:=26) (Aa U) (fun c26=> ?_) (fun c26=> ?_)
   ·refine rO tb 2 U (A6 (D7 (T U) (T U) runUnderlying9 qom) U (Az U U (Aa U)) ?_);refine rO tb 3 U ?_;refine A4 (s:=32) (Aa U) (fun c32=> ?_) (fun c32=> ?_)
    ·refine rO tb 7 U ?_;refine Bd (_) ?_ ⟨qat,trivial⟩ ⟨Aa U,Aa U,Aa U,trivial⟩ sbt
     trivial
    ·refine rO tb 2 U (A6 (D7 (T U) (T U) runUnderlying9 qom) U (Az U U (Aa U)) ?_);refine rO tb 4 U ?_;refine Bd (_) ?_ ⟨qat,trivial⟩ ⟨Aa U,Aa U,Aa U,trivial⟩ sbt
     trivial
   ·refine rO tb 8 U (A6 (D7 (T U) (T U) runUnderlying9 qom) U (Az U U (Aa U)) ?_);refine rO tb 4 U ?_;refine Bd (_) ?_ ⟨qat,trivial⟩ ⟨Aa U,Aa U,Aa U,trivial⟩ sbt
    trivial
  rintro t -;refine Kb (X:=Bool) (V:=fun t=>[(47, .bool t)]) (C:=[(0,_),(3,_)]) (φ:=fun t=>True) ⟨Aa U,Aa U,trivial⟩ ?_ ?_
  ·refine rD tb 2 U ?_
   first|refine A6 (Bc (T U)) U Ac ?_|refine A6 (By (T U)) U Ac ?_
   refine rO tb 1 U ?_
   first|refine A4 (s:=40) (Aa U) (fun c40=> ?_) (fun c40=> ?_)|refine Eu (s:=40) (Aa U) (fun c40=> ?_) (fun c40=> ?_)
   ·refine rO tb 1 U ?_
    first|refine A6 (Bc (T U)) U (Az U U (Aa U)) ?_|refine A6 (By (T U)) U (Az U U (Aa U)) ?_
    refine rO tb 1 U ?_
    first|refine A4 (s:=43) (Aa U) (fun c43=> ?_) (fun c43=> ?_)|refine Eu (s:=43) (Aa U) (fun c43=> ?_) (fun c43=> ?_)
    ·refine rO tb 5 U ?_;refine Bd (_) ?_ ⟨qat,trivial⟩ ⟨Aa U,Aa U,trivial⟩ sbt
     trivial
    ·refine rO tb 5 U ?_;refine Bd (_) ?_ ⟨qat,trivial⟩ ⟨Aa U,Aa U,trivial⟩ sbt
     trivial
   ·refine rO tb 8 U ?_;refine Bd (_) ?_ ⟨qat,trivial⟩ ⟨Aa U,Aa U,trivial⟩ sbt
    trivial
  rintro t -
  first|refine Ae (Aa U) (fun c47=> ?_) (fun c47=> ?_)|refine Bm (Aa U) (fun c47=> ?_) (fun c47=> ?_)
  ·refine rC tb 8 U (Aw (rX tb 2 U (Ai U (Ll U) ?_)));exact⟨_,⟨⟨_,rfl⟩,rfl⟩,sbt⟩
  ·refine rC tb 5 U (y_ (Aq (T U) Ao qom) ?_ U);refine rO tb 2 U ?_;refine An (k+1) ?_ ?_ ⟨qat,trivial⟩ ⟨Aa U,trivial⟩ ?_
   ·show k+1≤_;omega
   ·omega
   ·exact sbt
 ·refine rC tb 2 U (Af (rX tb 5 U (y_ (Dq (T U) runUnderlying9) (rO tb 2 U ?_) U)));refine A4 (s:=51) (Aa U) (fun c51=> ?_) (fun c51=> ?_)
  ·refine rO tb 1 U (A6 (Dq (T U) runUnderlying9) U (Az U U (Aa U)) (rO tb 6 U (Ai U (Ll U) ?_)));exact⟨_,⟨⟨_,rfl⟩,rfl⟩,sbt⟩
  ·refine rO tb 8 U (Ai U (Ll U) ?_);exact⟨_,⟨⟨_,rfl⟩,rfl⟩,sbt⟩
theorem names_s {w0:World}{H:List (Nat × Obj)}(n:Nm)(hn:NetM w0 H n)(h1:n.nodes.length≤1000000)(h2:n.edges.length≤1000000):
  FSpec Tryz.prog w0 41 #[.agg (encNm n).toArray] H (fun v H'=>∃ d1 d2:Sl,v= .tuple #[slV d1 (n.nodes.map (·.name)).length,slV d2 (n.edges.map (·.name)).length]∧SlOk d1 (n.nodes.map (·.name)).length 1∧SlOk d2 (n.edges.map (·.name)).length 1∧H'=slH d2 ((n.edges.map (·.name)).flatMap encS) 9++(slH d1 ((n.nodes.map (·.name)).flatMap encS) 9++H)):=by
 refine Ap Tryz.func41 U ntmps41 U (rD tb 2 U (e_ (Lt U cs_) ?_ U));rintro _ _ ⟨n1,rfl,rfl⟩;refine rO tb 21 U ?_;refine j_loopG (X:=Nat × Sl × List ByteArray) (V:=fun ⟨k,d,l⟩=>[(6, .int .i64 (k:Nat)),(4,slV d l.length)]) (C:=[(1,_),(5,_)]) (G:=fun ⟨k,d,l⟩=>slH d (l.flatMap encS) 9) (Hc:=_) (φ:=fun ⟨k,d,l⟩=>k≤n.nodes.length∧l=(n.nodes.take k).map (·.name)∧SlOk d l.length 1) (μ:=fun ⟨k,d,l⟩=>n.nodes.length - k) (x0:=(0, .nil,[])) ?_ ⟨Aa rfl,Aa rfl,trivial⟩ ⟨qat,qat,trivial⟩ sb0 ?_
 ·exact⟨Nat.zero_le _,rfl,rfl⟩
 rintro⟨k,d,l⟩ ⟨hk,hl,hok⟩;have hlen:l.length=k:=by rw[hl];simp;omega
 refine rD tb 5 U (y_ (Lo U isAgg22 qco) ?_ U);refine rO tb 4 U ?_;refine Ae (Aa U) (fun c12=> ?_) (fun c12=> ?_)
 ·refine rC tb 7 U (y_ (Lo U isAgg22 qco) ?_ U);refine rO tb 1 U (y_ (Lq U U runUnderlying22 sizeOf85 qom (by first|exact rfl|exact hn.nodes.b (i:=k) qom)) ?_ U);refine rO tb 1 U (y_ (Lo U isAgg9 (by first|exact c_o|exact c_m (hn.nodes.f0 qom U))) ?_ U);refine e_ (Ah (.cons (T U) .nil) (Cj _)) ?_ U;rintro _ _ ⟨n22,rfl,rfl⟩;refine e_ (eff_app1 ((gd n.nodes k).name) (A:=[_]) (by':=16) (T U) (T U) runUnderlying64 runUnderlying64 sizeOf9 typeInfo9 U zeroValue9 U (fun _=>rfl) U hok qde qom) ?_ U;rintro _ _ ⟨d',rfl,hok',rfl⟩;refine rO tb 6 U (y_ (Aq (T U) Ao qom) ?_ U);refine rO tb 2 U ?_;refine An ((k+1,d',l++[(gd n.nodes k).name])) ?_ ?_ ⟨qat,atd,trivial⟩ ⟨Aa U,Aa U,trivial⟩ ?_
  ·exact⟨by omega,by rw[hl,Cf qom,List.map_append];rfl,by simpa using hok'⟩
  ·first|omega|(simp only[];omega)
  ·exact sbt
 ·refine rC tb 2 U (Af (rX tb 9 U ?_));refine j_loopG (X:=Nat × Sl × List ByteArray) (V:=fun ⟨k2,d2,l2⟩=>[(7, .int .i64 (k2:Nat)),(5,slV d2 l2.length)]) (C:=[(1,_),(4,_)]) (G:=fun ⟨k2,d2,l2⟩=>slH d2 (l2.flatMap encS) 9) (Hc:=_) (φ:=fun ⟨k2,d2,l2⟩=>k2≤n.edges.length∧l2=(n.edges.take k2).map (·.name)∧SlOk d2 l2.length 1) (μ:=fun ⟨k2,d2,l2⟩=>n.edges.length - k2) (x0:=(0, .nil,[])) ?_ ⟨Aa rfl,Aa rfl,trivial⟩ ⟨qat,qat,trivial⟩ sb0 ?_
  ·exact⟨Nat.zero_le _,rfl,rfl⟩
  rintro⟨k2,d2,l2⟩ ⟨hk2,hl2,hok2⟩;have hlen2:l2.length=k2:=by rw[hl2];simp;omega
  refine rD tb 5 U (y_ (Lo U isAgg24 qco) ?_ U);refine rO tb 4 U ?_;refine Ae (Aa U) (fun c28=> ?_) (fun c28=> ?_)
  ·refine rC tb 7 U (y_ (Lo U isAgg24 qco) ?_ U);refine rO tb 1 U (y_ (Lq U U runUnderlying24 sizeOf88 qom (by first|exact rfl|exact hn.nodes.b (i:=k) qom|exact hn.edges.b (i:=k2) qom)) ?_ U);refine rO tb 1 U (y_ (Lo U isAgg9 (by first|exact c_o|exact c_m (hn.nodes.f0 qom U)|exact c_m (hn.edges.f0 qom U))) ?_ U);refine e_ (Ah (.cons (T U) .nil) (Cj _)) ?_ U;rintro _ _ ⟨n38,rfl,rfl⟩;refine e_ (eff_app1 ((gd n.edges k2).name) (A:=[_]) (by':=16) (T U) (T U) runUnderlying64 runUnderlying64 sizeOf9 typeInfo9 U zeroValue9 U (fun _=>rfl) U hok2 qde qom) ?_ U;rintro _ _ ⟨d',rfl,hok',rfl⟩;refine rO tb 6 U (y_ (Aq (T U) Ao qom) ?_ U);refine rO tb 2 U ?_;refine An ((k2+1,d',l2++[(gd n.edges k2).name])) ?_ ?_ ⟨qat,atd,trivial⟩ ⟨Aa U,Aa U,trivial⟩ ?_
   ·exact⟨by omega,by rw[hl2,Cf qom,List.map_append];rfl,by simpa using hok'⟩
   ·first|omega|(simp only[];omega)
   ·exact sbt
  ·refine rC tb 2 U (Af (rX tb 11 U (Ai U (.tmp (Aa U) (Ll U)) ?_)));rw[List.take_of_length_le qom] at hl hl2;rw[← hl,← hl2];exact⟨_,⟨d,d2,rfl,hok,hok2,rfl⟩,sbt⟩
theorem named_s {w0:World}{H:List (Nat × Obj)}(q:Option Addr)(cap:Nat)(l:List ByteArray)(ha:Arr w0 H q 1 encS l)(hb:∀ x∈l,x.size≤9223372036854775807)(hl:l.length≤1000000):
  FSpec Tryz.prog w0 42 #[.slice q l.length cap] H (fun v H'=>(∃ t:Bool,v= .bool t)∧H'=H):=by
 refine Ap Tryz.func42 U ntmps42 U (rD tb 12 U ?_);refine Bb (X:=Nat) (V:=fun k=>[(3, .int .i64 (k:Nat))]) (C:=[(0,_)]) (φ:=fun k=>k≤l.length) (μ:=fun k=>l.length - k) (x0:=0) ?_ ⟨Aa U,trivial⟩ ⟨qat,trivial⟩ ?_
 ·exact Nat.zero_le _
 rintro k hk;refine rD tb 9 U ?_;refine Ae (Aa U) (fun c9=> ?_) (fun c9=> ?_)
 ·refine rC tb 8 U (y_ (Lq U U runUnderlying64 sizeOf9 qom (by first|exact rfl|exact ha.b (i:=k) qom)) ?_ U);refine y_ (Lo U isAgg9 (by first|exact c_o|exact c_m (ha.f0 (i:=k) qom U))) ?_ U;refine e_ (Am (qe1 U) call100 (name_s _ (hb _ (Ag (i:=k) qom)))) ?_ U;rintro _ _ ⟨⟨t,rfl⟩,rfl⟩;refine rO tb 7 U ?_
  first|refine A6 (Bc (T U)) U Ac ?_|refine A6 (By (T U)) U Ac ?_
  refine rO tb 2 U ?_
  first|refine Ae (Aa U) (fun c18=> ?_) (fun c18=> ?_)|refine Bm (Aa U) (fun c18=> ?_) (fun c18=> ?_)
  ·refine rC tb 9 U (Aw (rX tb 2 U (Ai U (Ll U) ?_)));exact⟨_,⟨⟨_,rfl⟩,rfl⟩,sbt⟩
  ·refine rC tb 8 U ?_;refine Bb (X:=Nat) (V:=fun k2=>[(5, .int .i64 (k2:Nat))]) (C:=[(0,_),(3,_)]) (φ:=fun k2=>k2≤k) (μ:=fun k2=>k - k2) (x0:=0) ?_ ⟨Aa U,Aa U,trivial⟩ ⟨qat,trivial⟩ ?_
   ·exact Nat.zero_le _
   rintro k2 hk2;refine rD tb 8 U ?_;refine Ae (Aa U) (fun c21=> ?_) (fun c21=> ?_)
   ·refine rC tb 5 U (Bg 9 [(0,true),(1,true),(2,true),(3,true),(4,true),(5,true),(6,true),(7,true),(8,true)] _ mixd qkr sb0 ?_ A7);refine rP tb 2 U (o_y U (Lq U U runUnderlying64 sizeOf9 qom (by first|exact rfl|exact ha.b (i:=k) qom)) ?_ U Ac);refine o_y U (Lo U isAgg9 (by first|exact c_o|exact c_m (ha.f0 (i:=k) qom U)|exact c_m (ha.f0 (i:=k2) qom U))) ?_ U Ac;refine rP tb 2 U (o_y U (Bi (T U) (T U) runUnderlying64 sizeOf9 qom (by first|exact rfl|exact ha.b (i:=k) qom)) ?_ U Ac);refine o_y U (Lo U isAgg9 (by first|exact c_o|exact c_m (ha.f0 (i:=k) qom U))) ?_ U Ac;refine o_y U (Kc (T U) (T U)) (A5 U (rO tb 2 U ?_)) U Ac
    first|refine Ae (Aa U) (fun c32=> ?_) (fun c32=> ?_)|refine Bm (Aa U) (fun c32=> ?_) (fun c32=> ?_)
    ·refine rC tb 8 U (Aw (rX tb 3 U (Aw (rX tb 2 U (Ai U (Ll U) ?_)))));exact⟨_,⟨⟨_,rfl⟩,rfl⟩,sbt⟩
    ·refine rC tb 5 U (y_ (Aq (T U) Ao qom) ?_ U);refine rO tb 2 U ?_;refine An (k2+1) ?_ ?_ ⟨qat,trivial⟩ ⟨Aa U,Aa U,trivial⟩ ?_
     ·show k2+1≤_;omega
     ·omega
     ·exact sbt
   ·refine rC tb 2 U (Af (rX tb 5 U (y_ (Aq (T U) Ao qom) ?_ U)));refine rO tb 2 U ?_;refine An (k+1) ?_ ?_ ⟨qat,trivial⟩ ⟨Aa U,trivial⟩ ?_
    ·show k+1≤_;omega
    ·omega
    ·exact sbt
 ·refine rC tb 2 U (Af (rX tb 8 U (Ai U (Ll U) ?_)));exact⟨_,⟨⟨_,rfl⟩,rfl⟩,sbt⟩
theorem netCheck_s {w0:World}{H:List (Nat × Obj)}(n:Nm)(hn:NetM w0 H n):
  FSpec Tryz.prog w0 13 #[.agg (encNm n).toArray] H (fun v H'=>(∃ e:Int,v= .int .i64 e∧(e=0→NetOk n))∧H'=H):=by
 refine Ap Tryz.func13 U ntmps13 U ?_;have hln:=hn.ln;have hll:=hn.ll;have hle:=hn.le;refine rD tb 2 U (e_ (Lt U cs_) ?_ U);rintro _ _ ⟨n1,rfl,rfl⟩;refine rO tb 7 U (y_ (Lo U isAgg22 qco) ?_ U);refine rO tb 3 U ?_;refine A4 (s:=16) (Aa U) (fun c16=> ?_) (fun c16=> ?_)
 ·refine rO tb 21 U (Ai U (Ll U) ?_);exact⟨_,⟨⟨_,rfl,fun h=>by(exfalso;omega)⟩,rfl⟩,sbt⟩
 ·refine rO tb 1 U (A6 (Lo U isAgg23 qco) U (Az U U (Aa U)) ?_);refine rO tb 4 U ?_;refine A4 (s:=22) (Aa U) (fun c22=> ?_) (fun c22=> ?_)
  ·refine rO tb 15 U (Ai U (Ll U) ?_);exact⟨_,⟨⟨_,rfl,fun h=>by(exfalso;omega)⟩,rfl⟩,sbt⟩
  ·refine rO tb 1 U (A6 (Lo U isAgg24 qco) U (Az U U (Aa U)) ?_);refine rO tb 5 U ?_;refine Ae (Aa U) (fun c27=> ?_) (fun c27=> ?_)
   ·refine rC tb 7 U (Ai U (Ll U) ?_);exact⟨_,⟨⟨_,rfl,fun h=>by(exfalso;omega)⟩,rfl⟩,sbt⟩
   ·refine rC tb 4 U (y_ (Lp U isAgg26 sizeOf26 U qcs) ?_ U);refine e_ (Am (qe1 U) call41 (names_s n (hn.mono) qom qom)) ?_ U;rintro _ _ ⟨d1,d2,rfl,hok1,hok2,rfl⟩;refine rO tb 10 rfl (e_ (Am (qe1 rfl) call42 (named_s _ _ _ ((Av (enc:=encS) (sz:=1) (fun _=>rfl) hok1).mono (List.sublist_append_right _ _)) (by intro x hx;obtain⟨y,hy,rfl⟩:=List.mem_map.1 hx;exact hn.sn y hy) (by simp;omega))) ?_ rfl);rintro _ _ ⟨⟨t1,rfl⟩,rfl⟩;refine rO tb 6 rfl (e_ (Am (qe1 rfl) call42 (named_s _ _ _ (Av (enc:=encS) (sz:=1) (fun _=>rfl) hok2) (by intro x hx;obtain⟨y,hy,rfl⟩:=List.mem_map.1 hx;exact hn.se y hy) (by simp;omega))) ?_ rfl);rintro _ _ ⟨⟨t2,rfl⟩,rfl⟩;refine kO tb 3 [1,5,6] rfl U (rG tb 4 U ?_)
    first|refine A6 (Bc (T U)) U Ac ?_|refine A6 (By (T U)) U Ac ?_
    refine rO tb 1 U ?_
    first|refine A4 (s:=39) (Aa U) (fun c39=> ?_) (fun c39=> ?_)|refine Eu (s:=39) (Aa U) (fun c39=> ?_) (fun c39=> ?_)
    ·refine rO tb 13 U (Ai U (Ll U) ?_);exact⟨_,⟨⟨_,rfl,fun h=>by(exfalso;omega)⟩,rfl⟩,sbt⟩
    ·refine rO tb 1 U ?_
     first|refine A6 (Bc (T U)) U (Az U U (Aa U)) ?_|refine A6 (By (T U)) U (Az U U (Aa U)) ?_
     refine rO tb 3 U ?_
     first|refine Ae (Aa U) (fun c42=> ?_) (fun c42=> ?_)|refine Bm (Aa U) (fun c42=> ?_) (fun c42=> ?_)
     ·refine rC tb 7 U (Ai U (Ll U) ?_);exact⟨_,⟨⟨_,rfl,fun h=>by(exfalso;omega)⟩,rfl⟩,sbt⟩
     ·refine rC tb 9 U ?_;refine Bb (X:=Nat) (V:=fun k=>[(7, .int .i64 (k:Nat))]) (C:=[(1,_)]) (φ:=fun k=>k≤n.nodes.length) (μ:=fun k=>n.nodes.length - k) (x0:=0) ?_ ⟨Aa U,trivial⟩ ⟨qat,trivial⟩ ?_
      ·exact Nat.zero_le _
      rintro k hk;refine rD tb 5 U (y_ (Lo U isAgg22 qco) ?_ U);refine rO tb 4 U ?_;refine Ae (Aa U) (fun c47=> ?_) (fun c47=> ?_)
      ·refine rC tb 7 U (y_ (Lo U isAgg22 qco) ?_ U);refine rO tb 1 U (y_ (Lq U U runUnderlying22 sizeOf85 qom (by first|exact rfl|exact hn.nodes.b (i:=k) qom)) ?_ U);refine y_ (Lp U isAgg85 sizeOf85 U (by exact Lj (hn.nodes.cs (i:=k) qom))) ?_ U;refine e_ (Aj zeroValue85 cs_) ?_ U;rintro _ _ ⟨n8,rfl,rfl⟩;refine A0 (Ls U U sizeOf85) U Ac ?_;rintro _ _ ⟨rfl,rfl⟩;refine rO tb 5 U (y_ (Lo U isAgg3 qco) ?_ U);refine rO tb 2 U ?_;refine A4 (s:=58) (Aa U) (fun c58=> ?_) (fun c58=> ?_)
       ·refine kO tb 16 [1,7,72] rfl U (rG tb 9 U (Aw (rX tb 2 U (Ai U (Ll U) ?_))));exact⟨_,⟨⟨_,rfl,fun h=>by(exfalso;omega)⟩,rfl⟩,sbt⟩
       ·refine rO tb 1 U (A6 (Lo U isAgg3 qco) U (Az U U (Aa U)) ?_);refine rO tb 3 U ?_;refine A4 (s:=63) (Aa U) (fun c63=> ?_) (fun c63=> ?_)
        ·refine kO tb 11 [1,7,72] rfl U (rG tb 9 U (Aw (rX tb 2 U (Ai U (Ll U) ?_))));exact⟨_,⟨⟨_,rfl,fun h=>by(exfalso;omega)⟩,rfl⟩,sbt⟩
        ·refine rO tb 1 U (A6 (Lo U isAgg3 qco) U (Az U U (Aa U)) ?_);refine rO tb 3 U ?_;refine A4 (s:=68) (Aa U) (fun c68=> ?_) (fun c68=> ?_)
         ·refine kO tb 6 [1,7,72] rfl U (rG tb 9 U (Aw (rX tb 2 U (Ai U (Ll U) ?_))));exact⟨_,⟨⟨_,rfl,fun h=>by(exfalso;omega)⟩,rfl⟩,sbt⟩
         ·refine rO tb 1 U (A6 (Lo U isAgg3 qco) U (Az U U (Aa U)) ?_);refine kO tb 4 [1,7,72] rfl U ?_;refine Ae (Aa U) (fun c72=> ?_) (fun c72=> ?_)
          ·refine rC tb 8 U (Aw (rX tb 2 U (Ai U (Ll U) ?_)));exact⟨_,⟨⟨_,rfl,fun h=>by(exfalso;omega)⟩,rfl⟩,sbt⟩
          ·refine rC tb 5 U (y_ (Aq (T U) Ao qom) ?_ U);refine rO tb 2 U ?_;refine An (k+1) ?_ ?_ ⟨qat,trivial⟩ ⟨Aa U,trivial⟩ ?_
           ·show k+1≤_;omega
           ·omega
           ·exact sbt
      ·refine rC tb 2 U (Af (rX tb 9 U ?_));refine Bb (X:=Nat) (V:=fun k2=>[(9, .int .i64 (k2:Nat))]) (C:=[(1,_)]) (φ:=fun k2=>k2≤n.links.length∧∀ i,i<k2→LnkOk n (gd n.links i)) (μ:=fun k2=>n.links.length - k2) (x0:=0) ?_ ⟨Aa U,trivial⟩ ⟨qat,trivial⟩ ?_
       ·exact⟨Nat.zero_le _,fun i hi=>by omega⟩
       rintro k2 ⟨hk2,hl2⟩;refine rD tb 5 U (y_ (Lo U isAgg23 qco) ?_ U);refine rO tb 4 U ?_;refine Ae (Aa U) (fun c77=> ?_) (fun c77=> ?_)
       ·refine rC tb 7 U (y_ (Lo U isAgg23 qco) ?_ U);refine rO tb 1 U (y_ (Lq U U runUnderlying23 sizeOf61 qom (by first|exact rfl|exact hn.nodes.b (i:=k) qom|exact hn.links.b (i:=k2) qom)) ?_ U);refine y_ (Lp U isAgg61 sizeOf61 U (by exact Lj (hn.links.cs (i:=k2) qom))) ?_ U;refine e_ (Aj zeroValue61 cs_) ?_ U;rintro _ _ ⟨n10,rfl,rfl⟩;refine A0 (Ls U U sizeOf61) U Ac ?_;rintro _ _ ⟨rfl,rfl⟩;refine rO tb 4 U (y_ (Lp U isAgg26 sizeOf26 U qcs) ?_ U);refine rO tb 1 U (y_ (Lo U isAgg3 qco) ?_ U);refine y_ (Ax (qe2 U U) call43 (fun H' hs=>I4 _ _)) ?_ U;refine A6 (Bc (T U)) U Ac ?_;refine rO tb 1 U ?_;refine A4 (s:=90) (Aa U) (fun c90=> ?_) (fun c90=> ?_)
        ·refine kO tb 25 [1,9,113] rfl U (rG tb 9 U (Aw (rX tb 2 U (Ai U (Ll U) ?_))));exact⟨_,⟨⟨_,rfl,fun h=>by(exfalso;omega)⟩,rfl⟩,sbt⟩
        ·refine A6 (Lp U isAgg26 sizeOf26 U qcs) U (Az U U (Aa U)) ?_;refine rO tb 1 U (A6 (Lo U isAgg3 qco) U (Az U U (Aa U)) ?_);refine A6 (Ax (qe2 U U) call43 (fun H' hs=>I4 _ _)) U (Az U U (Aa U)) ?_;refine A6 (Bc (T U)) U (Az U U (Aa U)) ?_;refine rO tb 2 U ?_;refine A4 (s:=97) (Aa U) (fun c97=> ?_) (fun c97=> ?_)
         ·refine kO tb 18 [1,9,113] rfl U (rG tb 9 U (Aw (rX tb 2 U (Ai U (Ll U) ?_))));exact⟨_,⟨⟨_,rfl,fun h=>by(exfalso;omega)⟩,rfl⟩,sbt⟩
         ·refine rO tb 1 U (A6 (Lo U isAgg3 qco) U (Az U U (Aa U)) ?_);refine rO tb 1 U (A6 (Lo U isAgg3 qco) U (Az U U (Aa U)) ?_);refine rO tb 3 U ?_;refine A4 (s:=104) (Aa U) (fun c104=> ?_) (fun c104=> ?_)
          ·refine kO tb 11 [1,9,113] rfl U (rG tb 9 U (Aw (rX tb 2 U (Ai U (Ll U) ?_))));exact⟨_,⟨⟨_,rfl,fun h=>by(exfalso;omega)⟩,rfl⟩,sbt⟩
          ·refine rO tb 1 U (A6 (Lo U isAgg3 qco) U (Az U U (Aa U)) ?_);refine rO tb 3 U ?_;refine A4 (s:=109) (Aa U) (fun c109=> ?_) (fun c109=> ?_)
           ·refine kO tb 6 [1,9,113] rfl U (rG tb 9 U (Aw (rX tb 2 U (Ai U (Ll U) ?_))));exact⟨_,⟨⟨_,rfl,fun h=>by(exfalso;omega)⟩,rfl⟩,sbt⟩
           ·refine rO tb 1 U (A6 (Lo U isAgg3 qco) U (Az U U (Aa U)) ?_);refine kO tb 4 [1,9,113] rfl U ?_;refine Ae (Aa U) (fun c113=> ?_) (fun c113=> ?_)
            ·refine rC tb 8 U (Aw (rX tb 2 U (Ai U (Ll U) ?_)));exact⟨_,⟨⟨_,rfl,fun h=>by(exfalso;omega)⟩,rfl⟩,sbt⟩
            ·refine rC tb 5 U (y_ (Aq (T U) Ao qom) ?_ U);refine rO tb 2 U ?_;refine An (k2+1) ?_ ?_ ⟨qat,trivial⟩ ⟨Aa U,trivial⟩ ?_
             ·refine⟨by omega,fun i hi=> ?_⟩
              by_cases e:i=k2
              ·subst e;exact⟨by omega,by omega,by omega,by omega,by omega,by omega,by omega⟩
              ·exact hl2 i qom
             ·omega
             ·exact sbt
       ·refine rC tb 2 U (Af (rX tb 9 U ?_));refine Bb (X:=Nat) (V:=fun k3=>[(11, .int .i64 (k3:Nat))]) (C:=[(1,_)]) (φ:=fun k3=>k3≤n.edges.length∧∀ i,i<k3→0≤(gd n.edges i).node∧(gd n.edges i).node<n.nodes.length) (μ:=fun k3=>n.edges.length - k3) (x0:=0) ?_ ⟨Aa U,trivial⟩ ⟨qat,trivial⟩ ?_
        ·exact⟨Nat.zero_le _,fun i hi=>by omega⟩
        rintro k3 ⟨hk3,hl3⟩;refine rD tb 5 U (y_ (Lo U isAgg24 qco) ?_ U);refine rO tb 4 U ?_;refine Ae (Aa U) (fun c118=> ?_) (fun c118=> ?_)
        ·refine rC tb 5 U (Bg 9 [(0,true),(1,true),(2,true),(3,true),(4,true),(5,true),(6,true),(7,true),(8,true)] _ mixd qkr sb0 ?_ A7);refine o_y U (Lp U isAgg26 sizeOf26 U qcs) ?_ U Ac;refine rP tb 1 U (o_y U (Lo U isAgg24 qco) ?_ U Ac);refine rP tb 1 U (o_y U (Lq U U runUnderlying24 sizeOf88 qom (by first|exact rfl|exact hn.nodes.b (i:=k) qom|exact hn.links.b (i:=k2) qom|exact hn.edges.b (i:=k3) qom)) ?_ U Ac);refine rP tb 1 U (o_y U (Lo U isAgg3 (by first|exact c_o|exact c_m (hn.nodes.f0 (i:=k) qom U)|exact c_m (hn.edges.f0 (i:=k3) qom U)|exact c_m (hn.edges.f (i:=k3) qom U))) ?_ U Ac);refine o_y U (Ax (qe2 U U) call43 (fun H' hs=>I4 _ _)) ?_ U Ac;refine o_y U (Bc (T U)) ?_ U Ac;refine A5 U (rO tb 2 U ?_);refine Ae (Aa U) (fun c129=> ?_) (fun c129=> ?_)
         ·refine rC tb 8 U (Aw (rX tb 2 U (Ai U (Ll U) ?_)));exact⟨_,⟨⟨_,rfl,fun h=>by(exfalso;omega)⟩,rfl⟩,sbt⟩
         ·refine rC tb 5 U (y_ (Aq (T U) Ao qom) ?_ U);refine rO tb 2 U ?_;refine An (k3+1) ?_ ?_ ⟨qat,trivial⟩ ⟨Aa U,trivial⟩ ?_
          ·refine⟨by omega,fun i hi=> ?_⟩
           by_cases e:i=k3
           ·subst e;omega
           ·exact hl3 i qom
          ·omega
          ·exact sbt
        ·refine rC tb 2 U (Af (rX tb 8 U (Ai U (Ll U) ?_)));exact⟨_,⟨⟨_,rfl,fun h=>by first|(exfalso;omega)|exact⟨fun i hi=>hl2 i qom,fun i hi=>hl3 i qom⟩⟩,rfl⟩,sbt⟩
theorem chkF_s {w0:World}{H:List (Nat × Obj)}(n:Nm)(hn:NetM w0 H n)(f:Flr)(hf:Arr w0 H f.q 1 encI f.links)(hfl:f.links.length≤9223372036854775807):
  FSpec Tryz.prog w0 14 #[.agg (encNm n).toArray, .agg (encFl f).toArray] H (fun v H'=>(∃ e:Int,v= .int .i64 e)∧H'=H):=by
 refine Ap Tryz.func14 U ntmps14 U (rD tb 2 U (e_ (Lt U cs_) ?_ U));rintro _ _ ⟨n2,rfl,rfl⟩;refine e_ (Lt U cs_) ?_ U;rintro _ _ ⟨n3,rfl,rfl⟩;refine rO tb 10 U ?_;refine Bb (X:=Nat) (V:=fun k=>[(5, .int .i64 (k:Nat))]) (C:=[(2,_),(3,_)]) (φ:=fun k=>k≤f.links.length) (μ:=fun k=>f.links.length - k) (x0:=0) ?_ ⟨Aa U,Aa U,trivial⟩ ⟨qat,trivial⟩ ?_
 ·exact Nat.zero_le _
 rintro k hk;refine rD tb 5 U (y_ (Lo U isAgg27 qco) ?_ U);refine rO tb 4 U ?_;refine Ae (Aa U) (fun c10=> ?_) (fun c10=> ?_)
 ·refine rC tb 5 U (Bg 35 [(0,true),(1,true),(2,true),(3,true),(4,true),(5,true),(6,true),(7,true),(8,true),(9,true),(10,true),(11,true),(12,true),(13,true),(14,true),(15,true),(16,true),(17,true),(18,true),(19,true),(20,true),(21,true),(22,true),(23,true),(24,true),(25,true),(26,true),(27,true),(28,true),(29,true),(30,true),(31,true),(32,true),(33,true),(34,true)] _ mixd qkr sb0 ?_ A7);refine rP tb 1 U (o_y U (Lo U isAgg27 qco) ?_ U Ac);refine rP tb 1 U (o_y U (Lq U U runUnderlying27 sizeOf3 qom (by first|exact rfl|exact hf.b (i:=k) qom)) ?_ U Ac);refine o_y U (Lo U isAgg3 (by first|exact c_o|exact cell1 ((hf.mono sbt).cs (i:=k) qom))) ?_ U Ac;refine rP tb 2 U ?_;refine B4 (s:=19) (Aa U) (fun c19=> ?_) (fun c19=> ?_)
  ·refine rP tb 28 U (A5 U (kO tb 2 [2,3,5,47] rfl U (rG tb 9 U (Aw (rX tb 2 U (Ai U (Ll U) ?_))))));exact⟨_,⟨⟨_,rfl⟩,rfl⟩,sbt⟩
  ·refine rP tb 1 U (o_y U (Lo U isAgg27 qco) ?_ U (Az U U (Aa U)));refine rP tb 1 U (o_y U (Lq U U runUnderlying27 sizeOf3 qom (by first|exact rfl|exact hf.b (i:=k) qom)) ?_ U (Az U U (Aa U)));refine o_y U (Lo U isAgg3 (by first|exact c_o|exact cell1 ((hf.mono sbt).cs (i:=k) qom))) ?_ U (Az U U (Aa U));refine rP tb 1 U (o_y U (Lo U isAgg23 qco) ?_ U (Az U U (Aa U)));refine rP tb 4 U ?_;refine B4 (s:=30) (Aa U) (fun c30=> ?_) (fun c30=> ?_)
   ·refine rP tb 17 U (A5 U (kO tb 2 [2,3,5,47] rfl U (rG tb 9 U (Aw (rX tb 2 U (Ai U (Ll U) ?_))))));exact⟨_,⟨⟨_,rfl⟩,rfl⟩,sbt⟩
   ·refine rP tb 3 U ?_;refine B4 (s:=33) (Aa U) (fun c33=> ?_) (fun c33=> ?_)
    ·refine rP tb 1 U (o_y U (Lo U isAgg27 qco) ?_ U (Az U U (Aa U)));refine rP tb 1 U (o_y U (Jj (T U) Ao qom) ?_ U (Az U U (Aa U)));refine o_y U (Bi (T U) (T U) runUnderlying27 sizeOf3 qom (by first|exact rfl|exact hf.b (i:=k) qom)) ?_ U (Az U U (Aa U));refine o_y U (Lo U isAgg3 (by first|exact c_o|exact cell1 ((hf.mono sbt).cs (i:=((k:Int) - 1).toNat) qom))) ?_ U (Az U U (Aa U));refine rP tb 1 U (o_y U (Lo U isAgg27 qco) ?_ U (Az U U (Aa U)));refine rP tb 1 U (o_y U (Lq U U runUnderlying27 sizeOf3 qom (by first|exact rfl|exact hf.b (i:=k) qom)) ?_ U (Az U U (Aa U)));refine o_y U (Lo U isAgg3 (by first|exact c_o|exact cell1 ((hf.mono sbt).cs (i:=k) qom))) ?_ U (Az U U (Aa U));refine rP tb 3 U (A5 U (kO tb 2 [2,3,5,47] rfl U ?_));refine Ae (Aa U) (fun c47=> ?_) (fun c47=> ?_)
     ·refine rC tb 8 U (Aw (rX tb 2 U (Ai U (Ll U) ?_)));exact⟨_,⟨⟨_,rfl⟩,rfl⟩,sbt⟩
     ·refine rC tb 5 U (y_ (Aq (T U) Ao qom) ?_ U);refine rO tb 2 U ?_;refine An (k+1) ?_ ?_ ⟨qat,trivial⟩ ⟨Aa U,Aa U,trivial⟩ ?_
      ·show k+1≤_;omega
      ·omega
      ·exact sbt
    ·refine rP tb 14 U (A5 U (kO tb 2 [2,3,5,47] rfl U (rG tb 6 U (y_ (Aq (T U) Ao qom) ?_ U))));refine rO tb 2 U ?_;refine An (k+1) ?_ ?_ ⟨qat,trivial⟩ ⟨Aa U,Aa U,trivial⟩ ?_
     ·show k+1≤_;omega
     ·omega
     ·exact sbt
 ·refine rC tb 2 U (Af (rX tb 6 U (y_ (Lo U isAgg3 qco) ?_ U)));refine rO tb 2 U ?_;refine A4 (s:=51) (Aa U) (fun c51=> ?_) (fun c51=> ?_)
  ·refine A6 (Lp U isAgg26 sizeOf26 U qcs) U (Az U U (Aa U)) ?_;refine rO tb 1 U (A6 (Lo U isAgg3 qco) U (Az U U (Aa U)) ?_);refine A6 (Ax (qe2 U U) call43 (fun H' hs=>I4 _ _)) U (Az U U (Aa U)) ?_;refine A6 (Bc (T U)) U (Az U U (Aa U)) ?_;refine rO tb 3 U ?_;refine Ae (Aa U) (fun c57=> ?_) (fun c57=> ?_)
   ·refine rC tb 7 U (Ai U (Ll U) ?_);exact⟨_,⟨⟨_,rfl⟩,rfl⟩,sbt⟩
   ·refine rC tb 8 U (Ai U (Ll U) ?_);exact⟨_,⟨⟨_,rfl⟩,rfl⟩,sbt⟩
  ·refine rO tb 17 U (Ai U (Ll U) ?_);exact⟨_,⟨⟨_,rfl⟩,rfl⟩,sbt⟩
theorem snoc_ind {α:Type}{Q:List α→Prop}(h0:Q [])(h1:∀ l a,Q l→Q (l++[a]))(l:List α):Q l:=by
 have h:∀ r:List α,Q r.reverse:=fun r=>by
  induction r with
  |nil=>exact h0
  |cons a r ih=>rw[List.reverse_cons];exact h1 _ a ih
 have:=h l.reverse
 rwa [List.reverse_reverse] at this
def lnOf (l:Lnk):Ln:=⟨l.src.toNat,l.dst.toNat,l.cap⟩
def nnOf (n:Nm):Nn:=⟨n.nodes,n.links.map lnOf,n.edges,n.qn,n.cn,n.ql,n.cl,n.qe,n.ce⟩
theorem nn_enc (n:Nm):encNn (nnOf n)=encNm n:=by simp[nnOf]
theorem K5 {w0:World}{H:List (Nat × Obj)}{n:Nm}(h:NetM w0 H n)(hok:NetOk n):NetR w0 H (nnOf n):=by
 refine⟨h.nodes,fun i x hi=> ?_⟩;have hi':(n.links.map lnOf)[i]? =some x:=hi;rw[List.getElem?_map] at hi';obtain⟨l,h1,rfl⟩:=Option.map_eq_some_iff.1 hi';have hlt:=(List.getElem?_eq_some_iff.1 h1).1;have hg:gd n.links i=l:=by rw[Ar hlt];exact(List.getElem?_eq_some_iff.1 h1).2
 have h2:=hok.links i hlt;rw[hg] at h2;have h3:=h2.s0;have h4:=h2.d0;have e:encLn (lnOf l)=encL l:=by
  simp only[encLn,encL,lnOf];rw[show ((l.src.toNat:Nat):Int)=l.src by omega,show ((l.dst.toNat:Nat):Int)=l.dst by omega]
 have h5:=h.links i l h1;rw[← e] at h5;exact h5
structure McE (m:PM) (e:Re):Prop where
 ok:PMok m
 sr:Srt m.names
 acc:∀ l,gd m.acc (runM m l)=matchF e l
theorem mem_moves {n:Nn}{f:Flr}{m:PM}{p:Pl}{r:Pl}{l:Nat}:(r,l)∈movesF n f m p↔(l<n.links.length∧(gd n.links l).src=p.1)∧upF n f l=true∧r=((gd n.links l).dst,afterF m p.2 (nmF n (gd n.links l).dst)):=by
 unfold movesF outF mvF;simp only[List.mem_map,List.mem_filter,Ey,Prod.mk.injEq]
 constructor
 ·rintro⟨l',⟨h1,h2⟩,h3,rfl⟩;exact⟨h1,h2,h3.symm⟩
 ·rintro⟨h1,h2,h3⟩;exact⟨l,⟨h1,h2⟩,h3.symm,rfl⟩
theorem outK_pw (n:Nn)(node:Nat):∀ i,(outK n node i).Pairwise (· < ·)
 |0=> .nil
 |i+1=>by
  rw[Dc];split
  ·exact List.pairwise_append.2 ⟨outK_pw n node i,List.pairwise_singleton ..,fun a ha b hb=>by
    simp at hb;subst hb;exact((Ey n node a b).1 ha).1⟩
  ·exact outK_pw n node i
theorem I5 (n:Nn)(f:Flr)(m:PM)(p:Pl):(movesF n f m p).Pairwise fun a b=>id a.2<id b.2:=by
 unfold movesF mvF;rw[List.pairwise_map];exact((outK_pw n p.1 n.links.length).filter _)
abbrev toInts (l:List Nat):List Int:=l.map fun k:Nat=>(k:Int)
theorem wkF_snoc_some {n:Nn}{x:Int}{ls:List Int}{l y:Int}:wkF n x (ls++[l])=some y↔∃ z,wkF n x ls=some z∧(0≤l∧l<n.links.length∧((gd n.links l.toNat).src:Int)=z)∧((gd n.links l.toNat).dst:Int)=y:=by
 rw[Iv];cases h:wkF n x ls with
 |none=>simp
 |some z=>
  simp only[Option.bind_some,Option.some.injEq,exists_eq_left']
  split
  ·rename_i h2;simp[h2]
  ·rename_i h2;simp[h2]
theorem namesF_snoc (n:Nn)(x:Nat)(ls:List Int)(l:Int):namesF n x (ls++[l])=namesF n x ls++[nmF n (gd n.links l.toNat).dst]:=by simp[namesF]
theorem runM_snoc (m:PM)(ls:List ByteArray)(s:ByteArray):runM m (ls++[s])=afterF m (runM m ls) s:=by simp[runM]
theorem upAll_snoc (n:Nn)(f:Flr)(ls:List Int)(l:Int):upAll n f (ls++[l])=(upAll n f ls&&upF n f l.toNat):=by simp[upAll]
theorem chn_of {n:Nn}{f:Flr}{m:PM}{x:Nat}:∀ {ls:List Int} {y:Int},wkF n x ls=some y→upAll n f ls=true→Chn (movesF n f m) (p0F n m x) (ls.map Int.toNat) (y.toNat,runM m (namesF n x ls)):=by
 intro ls
 induction ls using snoc_ind with
 |h0=>
  intro y h _;simp only[wkF,Option.some.injEq] at h;subst h;exact .nil
 |h1 ls l ih=>
  intro y h hu;obtain⟨z,h1,⟨h2,h3,h4⟩,h5⟩:=wkF_snoc_some.1 h;rw[upAll_snoc,Bool.and_eq_true] at hu;rw[List.map_append,namesF_snoc,runM_snoc];refine .snoc (ih h1 hu.1) (mem_moves.2 ⟨⟨by omega,by simp only[];omega⟩,hu.2,?_⟩);rw[← h5,Int.toNat_natCast]
theorem of_chn {n:Nn}{f:Flr}{m:PM}{x:Nat}{ls:List Nat}{q:Pl}(h:Chn (movesF n f m) (p0F n m x) ls q):wkF n x (toInts ls)=some (q.1:Int)∧upAll n f (toInts ls)=true∧q.2=runM m (namesF n x (toInts ls)):=by
 induction h with
 |nil=>exact⟨rfl,rfl,rfl⟩
 | @snoc ls q r l hc hm ih=>
  obtain⟨h1,h2,h3⟩:=ih;obtain⟨⟨h4,h5⟩,h6,h7⟩:=mem_moves.1 hm;subst h7;rw[toInts,List.map_append,List.map_cons,List.map_nil];refine⟨wkF_snoc_some.2 ⟨_,h1,⟨by omega,by omega,by rw[Int.toNat_natCast];omega⟩,by rw[Int.toNat_natCast]⟩,?_,?_⟩
  ·rw[upAll_snoc,Int.toNat_natCast,h6];simpa using h2
  ·rw[namesF_snoc,runM_snoc,Int.toNat_natCast,← h3]
theorem holds_chn {n:Nn}{f:Flr}{m:PM}{e:Re}(hm:McE m e){x to:Nat}{ls:List Int}(h:holdsF n f e x to ls=true): ¬ f.node=x∧∃ q,Chn (movesF n f m) (p0F n m x) (ls.map Int.toNat) q∧fndF to m q=true:=by
 unfold holdsF at h;simp only[Bool.and_eq_true,decide_eq_true_eq] at h;obtain⟨h1,h2,h3,h4⟩:=h;refine⟨h2,_,chn_of h1 h3,?_⟩;unfold fndF;simp only[Int.toNat_natCast,decide_true,Bool.true_and];rw[hm.acc,h4]
theorem chn_holds {n:Nn}{f:Flr}{m:PM}{e:Re}(hm:McE m e){x to:Nat}{ls:List Nat}{q:Pl}(hf: ¬ f.node=x)(h:Chn (movesF n f m) (p0F n m x) ls q)(hq:fndF to m q=true):holdsF n f e x to (toInts ls)=true:=by
 obtain⟨h1,h2,h3⟩:=of_chn h;unfold fndF at hq;simp only[Bool.and_eq_true,decide_eq_true_eq] at hq;unfold holdsF;rw[h1,h2,← hm.acc,← h3,hq.2,hq.1];simp[hf]
theorem F4 {n:Nn}(hok:NnOk n){f:Flr}{m:PM}(hp:PMok m):∀ p,PlOk n m p→∀ x∈movesF n f m p,PlOk n m x.1:=fun p h=>F3 hok hp p h
theorem find_yes {n:Nn}(hok:NnOk n){f:Flr}{m:PM}{e:Re}(hm:McE m e){x to:Nat}(hx:x<n.nodes.length)(h:(findF n f m x to).2=0):
  holdsF n f e x to (toInts (findF n f m x to).1)=true∧∀ ls,holdsF n f e x to ls=true→leL (findF n f m x to).1 (ls.map Int.toNat):=by
 unfold findF at *
 split at h
 ·cases h
 ·rename_i hf;rw[if_neg hf]
  split at h
  ·rename_i hs;rw[if_pos hs];obtain⟨⟨q,h1,h2⟩,h3⟩:=srF_yes (rk:=id) (F4 hok hm.ok) (fun p _=>I5 n f m p) (N:=NPl n m) (Fq n m) (fndF to m) (Ix hm.ok hx) hs;refine⟨chn_holds hm hf h1 h2,fun ls hl=> ?_⟩;obtain⟨_,q',h4,h5⟩:=holds_chn hm hl
   simpa using h3 _ q' h4 h5
  ·cases h
theorem srF_all {σ:Type}[Inhabited σ] (ts:Pl→List (Pl × σ))(N:Nat)(p0:Pl):(srF ts (fun _=>false) N p0).2.1=false:=by
 have key:∀ (f k:Nat) (st:BS σ),(goF ts (fun _=>false) f k st).1=none:=fun f=>by
  induction f with
  |zero=>intro k st;rfl
  |succ f ih=>
   intro k st;rw[C5]
   split
   ·simp only[Bool.false_eq_true,if_false];exact ih _ _
   ·rfl
 have h:=key (N+1) 0 ⟨[p0],[(-1,default)]⟩;unfold srF
 generalize goF ts (fun _=>false) (N+1) 0 ⟨[p0],[(-1,default)]⟩=r at *;obtain⟨k,st⟩:=r;simp only[] at h;subst h
 rfl
theorem met_iff {n:Nn}(hok:NnOk n){f:Flr}{m:PM}(hp:PMok m){x:Nat}(hx:x<n.nodes.length)(q:Pl):q∈metF n f m x↔∃ ls,Chn (movesF n f m) (p0F n m x) ls q:=
 (srF_no (rk:=id) (F4 hok hp) (fun p _=>I5 n f m p) (Fq n m) (fun _=>false) (Ix hp hx) (srF_all _ _ _)).2.1 q
theorem K6 {n:Nn}(hok:NnOk n){f:Flr}{m:PM}(hp:PMok m){x:Nat}(hx:x<n.nodes.length):(metF n f m x).Nodup∧∀ p∈metF n f m x,PlOk n m p:=
 srF_met (F4 hok hp) (Ix hp hx) _
theorem toI_inj {a b:Pl}:toI a=toI b↔a=b:=by
 constructor
 ·intro h;simp only[toI,Prod.mk.injEq] at h;exact Prod.ext qom qom
 ·rintro rfl;rfl
def sI {α:Type} (l:List α) (f:α→Int):Int:=match l with
 |[]=>0
 |x::r=>f x+sI r f
theorem Fr {α:Type}(f:α→Int):∀ (a b:List α),sI (a++b) f=sI a f+sI b f
 |[],b=>by simp[sI]
 |x::a,b=>by simp only[List.cons_append,sI];rw[Fr f a b];omega
theorem sI_le {α:Type}{f g:α→Int}:∀ {l:List α},(∀ x∈l,f x≤g x)→sI l f≤sI l g
 |[],_=>Int.le_refl _
 |x::l,h=>by
  have h1:=h x (by simp);have h2:=sI_le (l:=l) fun y hy=>h y (by simp[hy])
  simp only[sI];omega
theorem sI_congr {α:Type}{f g:α→Int}:∀ {l:List α},(∀ x∈l,f x=g x)→sI l f=sI l g
 |[],_=>rfl
 |x::l,h=>by
  have h1:=h x (by simp);have h2:=sI_congr (l:=l) fun y hy=>h y (by simp[hy])
  simp only[sI];omega
theorem sI_zero {α:Type}:∀ l:List α,sI l (fun _=>0)=0
 |[]=>rfl
 |x::l=>by simp only[sI];rw[sI_zero l];rfl
theorem Hp {α:Type}{f:α→Int}{l:List α}(h:∀ x∈l,0≤f x):0≤sI l f:=by
 have:=sI_le (f:=fun _=>0) (g:=f) h
 rwa [sI_zero] at this
theorem Kj {α β:Type}(g:α→β)(f:β→Int):∀ l:List α,sI (l.map g) f=sI l fun x=>f (g x)
 |[]=>rfl
 |x::l=>by simp only[List.map_cons,sI];rw[Kj g f l]
structure Lan where
 l:List Int
 p:Int
instance:Inhabited Lan:=⟨⟨[],0⟩⟩
structure Odr where
 x:Nat
 y:Nat
 amt:Int
 e:Re
instance:Inhabited Odr:=⟨⟨0,0,0, .emp⟩⟩
def one (k:Nat) (x:Int):Int:=if x=(k:Int) then 1 else 0
def cntI (ls:List Int) (k:Nat):Int:=sI ls (one k)
theorem cntI_nonneg (ls:List Int)(k:Nat):0≤cntI ls k:=Hp fun x _=>by unfold one;split<;>omega
def ordLd (a:Int) (lanes:List Lan) (k:Nat):Int:=sI lanes fun s=>cntI s.l k*(a*s.p)
def ldAt (os:List Odr) (sh:List (List Lan)) (k:Nat):Int:=sI (os.zip sh) fun x=>ordLd x.1.amt x.2 k
def costI (pr:List Int) (ls:List Int):Int:=sI ls fun x=>gd pr x.toNat
structure FitsP (n:Nn) (f:Flr) (os:List Odr) (sh:List (List Lan)):Prop where
 len:sh.length=os.length
 sum:∀ x∈os.zip sh,sI x.2 Lan.p=16
 pos:∀ x∈os.zip sh,∀ s∈x.2,1≤s.p
 holds:∀ x∈os.zip sh,∀ s∈x.2,holdsF n f x.1.e x.1.x x.1.y s.l=true
 cap:∀ k,k<n.links.length→ldAt os sh k≤16*(gd n.links k).cap
def PriceIs (n:Nn) (f:Flr) (o:Odr) (pr:List Int):Option Int→Prop
 |none=>∀ ls,holdsF n f o.e o.x o.y ls=false
 |some c=>(∃ ls,holdsF n f o.e o.x o.y ls=true∧costI pr ls=c)∧∀ ls,holdsF n f o.e o.x o.y ls=true→c≤costI pr ls
theorem PriceIs.uniq {n:Nn}{f:Flr}{o:Odr}{pr:List Int}{a b:Option Int}(ha:PriceIs n f o pr a)(hb:PriceIs n f o pr b):a=b:=by
 cases a with
 |none=>
  cases b with
  |none=>rfl
  |some c=>obtain⟨⟨ls,h1,_⟩,_⟩:=hb;rw[ha ls] at h1;cases h1
 |some c=>
  cases b with
  |none=>obtain⟨⟨ls,h1,_⟩,_⟩:=ha;rw[hb ls] at h1;cases h1
  |some d=>
   obtain⟨⟨l1,h1,e1⟩,h2⟩:=ha;obtain⟨⟨l2,h3,e3⟩,h4⟩:=hb;have:=h2 l2 h3;have:=h4 l1 h1;rw[show c=d by omega]
theorem Ee {n:Nn}{f:Flr}{e:Re}{x y:Nat}{ls:List Int}(h:holdsF n f e x y ls=true):∀ l∈ls,0≤l∧l<n.links.length∧upF n f l.toNat=true:=by
 unfold holdsF at h;simp only[Bool.and_eq_true,decide_eq_true_eq] at h;intro l hl;obtain⟨i,hi,rfl⟩:=List.getElem_of_mem hl;have h1:=wkF_valid h.1 i hi;rw[Ar hi] at h1;refine⟨h1.1,h1.2,?_⟩;have h2:=h.2.2.1;unfold upAll at h2;exact List.all_eq_true.1 h2 _ hl
structure Sha where
 l:List Nat
 p:Nat
instance:Inhabited Sha:=⟨⟨[],0⟩⟩
def Sha.lan (s:Sha):Lan:=⟨toInts s.l,(s.p:Int)⟩
abbrev mOf (e:Re):PM:=(buildF leastF e).1
def capB (n:Nn) (ld:List Int) (k:Nat) (a:Int):Bool:=decide (gd ld k+a≤16*(gd n.links k).cap)
def takeF (n:Nn) (a:Int):List Nat→List Int→Option (List Int)
 |[],ld=>some ld
 |k::ks,ld=>if capB n ld k a then takeF n a ks (ld.set k (gd ld k+a)) else none
def fullL (n:Nn) (f:Flr) (ld:List Int) (a:Int):Nat→List Int
 |0=>[]
 |k+1=>if (k:Int)∈f.links∨capB n ld k a=false then fullL n f ld a k++[(k:Int)] else fullL n f ld a k
def fullF (n:Nn) (f:Flr) (ld:List Int) (a:Int):Flr:=⟨none,0,fullL n f ld a n.links.length,f.node⟩
def partF (n:Nn) (f:Flr) (o:Odr) (ld:List Int):Option (List Nat × List Int):=
 if (findF n (fullF n f ld o.amt) (mOf o.e) o.x o.y).2=0 then (takeF n o.amt (findF n (fullF n f ld o.amt) (mOf o.e) o.x o.y).1 ld).map fun ld'=>((findF n (fullF n f ld o.amt) (mOf o.e) o.x o.y).1,ld') else none
def putS (ls:List Nat):List Sha→List Sha
 |[]=>[⟨ls,1⟩]
 |s::r=>if s.l=ls then ⟨ls,s.p+1⟩::r else if lxB ls s.l then ⟨ls,1⟩::s::r else s::putS ls r
where lxB:List Nat→List Nat→Bool
 |[],[]=>false
 |[],_::_=>true
 |_::_,[]=>false
 |a::x,b::y=>decide (a<b)||(decide (a=b)&&lxB x y)
def roundsF (n:Nn) (f:Flr) (o:Odr):Nat→List Int→List Sha→Bool × List Int × List Sha
 |0,ld,own=>(true,ld,own)
 |k+1,ld,own=>match partF n f o ld with
  |none=>(false,ld,own)
  |some (ls,ld')=>roundsF n f o k ld' (putS ls own)
def goR (n:Nn) (f:Flr):List Odr→List Int→List (List Sha)→List (List Sha) × Option (List Int × Odr)
 |[],ld,out=>(out,none)
 |o::os,ld,out=>match roundsF n f o 16 ld [] with
  |(true,ld',own)=>goR n f os ld' (out++[own])
  |(false,ld',_)=>(out,some (ld',o))
def routeF (n:Nn) (f:Flr) (os:List Odr):List (List Sha) × Option (List Int × Odr):=goR n f os (List.replicate n.links.length 0) []
theorem mem_fullL {n:Nn}{f:Flr}{ld:List Int}{a:Int}{x:Int}:∀ {k:Nat},x∈fullL n f ld a k↔∃ j:Nat,j<k∧x=(j:Int)∧((j:Int)∈f.links∨capB n ld j a=false)
 |0=>by simp[fullL]
 |k+1=>by
  have ih:=mem_fullL (n:=n) (f:=f) (ld:=ld) (a:=a) (x:=x) (k:=k);unfold fullL
  split
  ·rename_i h;rw[List.mem_append,ih]
   constructor
   ·rintro(⟨j,h1,h2⟩|h1)
    ·exact⟨j,by omega,h2⟩
    ·simp at h1;exact⟨k,by omega,h1,h⟩
   ·rintro⟨j,h1,h2,h3⟩
    by_cases e:j=k
    ·subst e;right;simp[h2]
    ·exact .inl ⟨j,by omega,h2,h3⟩
  ·rename_i h;rw[ih]
   constructor
   ·rintro⟨j,h1,h2⟩;exact⟨j,by omega,h2⟩
   ·rintro⟨j,h1,h2,h3⟩
    by_cases e:j=k
    ·subst e;exact absurd h3 h
    ·exact⟨j,by omega,h2,h3⟩
theorem up_full {n:Nn}{f:Flr}{ld:List Int}{a:Int}{l:Nat}(hl:l<n.links.length)(h:upF n (fullF n f ld a) l=true):upF n f l=true∧capB n ld l a=true:=by
 unfold upF fullF at *;simp only[Bool.and_eq_true,decide_eq_true_eq] at *;obtain⟨h1,h2,h3⟩:=h;rw[mem_fullL] at h3;refine⟨⟨h1,h2,fun hm=>h3 ⟨l,hl,rfl, .inl hm⟩⟩,?_⟩;cases hc:capB n ld l a
 ·exact absurd ⟨l,hl,rfl, .inr hc⟩ h3
 ·rfl
theorem holds_full {n:Nn}{f:Flr}{ld:List Int}{a:Int}{e:Re}{x y:Nat}{ls:List Int}(h:holdsF n (fullF n f ld a) e x y ls=true):holdsF n f e x y ls=true:=by
 have hl:=Ee h;unfold holdsF at *;simp only[Bool.and_eq_true,decide_eq_true_eq] at *;refine⟨h.1,h.2.1,?_,h.2.2.2⟩;unfold upAll;exact List.all_eq_true.2 fun l hm=>(up_full (by have:=hl l hm;omega) (hl l hm).2.2).1
theorem I6 (k x:Nat)(xs:List Nat):cntI (toInts (x::xs)) k=(if x=k then 1 else 0)+cntI (toInts xs) k:=by
 show one k (x:Int)+_=_;unfold one
 by_cases e:x=k
 ·rw[if_pos qom,if_pos e];rfl
 ·rw[if_neg qom,if_neg e];rfl
theorem take_ok {n:Nn}{a:Int}(ha:0≤a):∀ {ls:List Nat} {ld ld':List Int},(∀ k∈ls,k<ld.length)→takeF n a ls ld=some ld'→ld'.length=ld.length∧(∀ k,gd ld' k=gd ld k+(if k<ld.length then cntI (toInts ls) k*a else 0))∧∀ k,gd ld k≤16*(gd n.links k).cap→gd ld' k≤16*(gd n.links k).cap
 |[],ld,ld',_,h=>by
  obtain rfl:=Option.some.inj h;exact⟨rfl,fun k=>by simp[toInts,cntI,sI],fun k h=>h⟩
 |x::xs,ld,ld',hl,h=>by
  unfold takeF at h
  split at h
  ·rename_i hc;have hx:=hl x (by simp);obtain⟨h1,h2,h3⟩:=take_ok ha (ls:=xs) (fun k hk=>by rw[List.length_set];exact hl k (by simp[hk])) h;rw[List.length_set] at h1;have hg:∀ k,gd (ld.set x (gd ld x+a)) k=if k=x then gd ld x+a else gd ld k:=fun k=>by
    by_cases e:k=x
    ·subst e;rw[if_pos rfl,Ar (by simpa using hx)];simp
    ·rw[if_neg e];unfold gd;simp[List.getD,List.getElem?_set_ne (Ne.symm e)]
   refine⟨h1,fun k=> ?_,fun k hk=>h3 k ?_⟩
   ·rw[h2 k,hg k,List.length_set]
    by_cases e:k=x
    ·subst e;rw[if_pos U,if_pos hx,if_pos hx,I6,if_pos U,Int.add_mul];omega
    ·rw[if_neg e,I6,show (if x=k then (1:Int) else 0)=0 from if_neg qom,Int.zero_add]
   ·rw[hg k]
    split
    ·rename_i e;subst e;simpa[capB] using hc
    ·exact hk
  ·cases h
theorem put_sum (ls:List Nat):∀ own:List Sha,sI ((putS ls own).map Sha.lan) Lan.p=sI (own.map Sha.lan) Lan.p+1
 |[]=>rfl
 |s::r=>by
  unfold putS
  split
  ·simp only[List.map_cons,sI,Sha.lan];omega
  ·split
   ·simp only[List.map_cons,sI,Sha.lan];omega
   ·have:=put_sum ls r;simp only[List.map_cons,sI] at *;omega
theorem put_load (ls:List Nat)(a:Int)(k:Nat):∀ own:List Sha,ordLd a ((putS ls own).map Sha.lan) k=ordLd a (own.map Sha.lan) k+cntI (toInts ls) k*a
 |[]=>by simp[putS,ordLd,sI,Sha.lan]
 |s::r=>by
  unfold putS
  split
  ·rename_i e;subst e;simp only[List.map_cons,ordLd,sI,Sha.lan,Int.natCast_add,Int.natCast_one,Int.mul_add,Int.mul_one];omega
  ·split
   ·simp only[List.map_cons,ordLd,sI,Sha.lan,Int.natCast_one,Int.mul_one];omega
   ·have:=put_load ls a k r;simp only[List.map_cons,ordLd,sI] at *;omega
theorem put_all {Q:List Nat→Prop}(ls:List Nat)(h:Q ls):∀ own:List Sha,(∀ s∈own,Q s.l∧1≤s.p)→∀ s∈putS ls own,Q s.l∧1≤s.p
 |[],_,s,hs=>by
  simp[putS] at hs;subst hs;exact⟨h,Nat.le_refl _⟩
 |x::r,hr,s,hs=>by
  unfold putS at hs
  split at hs
  ·rename_i e;rcases List.mem_cons.1 hs with rfl|hs
   ·exact⟨h,Nat.le_add_left 1 _⟩
   ·exact hr s (by simp[hs])
  ·split at hs
   ·rcases List.mem_cons.1 hs with rfl|hs
    ·exact⟨h,Nat.le_refl _⟩
    ·exact hr s hs
   ·rcases List.mem_cons.1 hs with rfl|hs
    ·exact hr s (by simp)
    ·exact put_all ls h r (fun y hy=>hr y (by simp[hy])) s hs
structure OwnInv (n:Nn) (f:Flr) (o:Odr) (base:Nat→Int) (r:Nat) (ld:List Int) (own:List Sha):Prop where
 len:ld.length=n.links.length
 cap:∀ k,k<n.links.length→gd ld k≤16*(gd n.links k).cap
 sum:sI (own.map Sha.lan) Lan.p=r
 lod:∀ k,k<n.links.length→gd ld k=base k+ordLd o.amt (own.map Sha.lan) k
 all:∀ s∈own,holdsF n f o.e o.x o.y (toInts s.l)=true∧1≤s.p
theorem part_step {n:Nn}(hok:NnOk n){f:Flr}{o:Odr}(ha:0≤o.amt)(hx:o.x<n.nodes.length)(hm:McE (mOf o.e) o.e){base:Nat→Int}{r:Nat}{ld ld':List Int}{own:List Sha}{ls:List Nat}(h:OwnInv n f o base r ld own)(hp:partF n f o ld=some (ls,ld')):OwnInv n f o base (r+1) ld' (putS ls own):=by
 unfold partF at hp
 split at hp
 ·rename_i he;obtain⟨ld2,h1,h2⟩:=Option.map_eq_some_iff.1 hp;obtain⟨rfl,rfl⟩:=Prod.mk.inj h2;have hf:=(find_yes hok hm hx he).1;have hh:=holds_full hf;have hl:=Ee hh;have hlt:∀ k∈(findF n (fullF n f ld o.amt) (mOf o.e) o.x o.y).1,k<ld.length:=fun k hk=>by
   have:=hl (k:Int) (List.mem_map.2 ⟨k,hk,rfl⟩);rw[h.len];omega
  obtain⟨g1,g2,g3⟩:=take_ok ha hlt h1;refine⟨by rw[g1,h.len],fun k hk=>g3 k (h.cap k hk),by rw[put_sum,h.sum];omega,fun k hk=> ?_,put_all (Q:=fun l=>holdsF n f o.e o.x o.y (toInts l)=true) _ hh own h.all⟩;rw[g2 k,h.lod k hk,put_load,if_pos (by rw[h.len];exact hk)];omega
 ·cases hp
theorem rounds_ok {n:Nn}(hok:NnOk n){f:Flr}{o:Odr}(ha:0≤o.amt)(hx:o.x<n.nodes.length)(hm:McE (mOf o.e) o.e){base:Nat→Int}:∀ {k r:Nat} {ld ld':List Int} {own own':List Sha},OwnInv n f o base r ld own→roundsF n f o k ld own=(true,ld',own')→OwnInv n f o base (r+k) ld' own'
 |0,r,ld,ld',own,own',h,e=>by
  obtain⟨_,e2⟩:=Prod.mk.inj e;obtain⟨rfl,rfl⟩:=Prod.mk.inj e2;exact h
 |k+1,r,ld,ld',own,own',h,e=>by
  unfold roundsF at e;cases hp:partF n f o ld with
  |none=>rw[hp] at e;cases (Prod.mk.inj e).1
  |some x=>
   obtain⟨ls,ld2⟩:=x;rw[hp] at e;have:=rounds_ok hok ha hx hm (part_step hok ha hx hm h hp) e;rw[show r+(k+1)=r+1+k by omega];exact this
theorem zip_snoc {α β:Type}:∀ {a:List α} {b:List β} {x:α} {y:β},a.length=b.length→(a++[x]).zip (b++[y])=a.zip b++[(x,y)]:=fun h=>by rw[List.zip_append h];rfl
structure OdrOk (n:Nn) (o:Odr):Prop where
 x:o.x<n.nodes.length
 y:o.y<n.nodes.length
 a0:0≤o.amt
 a1:o.amt≤1048576
 lv:o.e.lv≤64
 bd:(buildF leastF o.e).2=0
theorem goR_ok {n:Nn}(hok:NnOk n){f:Flr}:∀ {os dn:List Odr} {ld:List Int} {out sh:List (List Sha)},(∀ o∈os,OdrOk n o∧McE (mOf o.e) o.e)→out.length=dn.length→ld.length=n.links.length→(∀ k,k<n.links.length→gd ld k≤16*(gd n.links k).cap∧gd ld k=ldAt dn (out.map (List.map Sha.lan)) k)→
  (∀ x∈dn.zip (out.map (List.map Sha.lan)),sI x.2 Lan.p=16∧∀ s∈x.2,holdsF n f x.1.e x.1.x x.1.y s.l=true∧1≤s.p)→goR n f os ld out=(sh,none)→FitsP n f (dn++os) (sh.map (List.map Sha.lan))
 |[],dn,ld,out,sh,_,hl,hln,hld,hal,e=>by
  obtain⟨rfl,_⟩:=Prod.mk.inj e;rw[List.append_nil];exact⟨by simpa using hl,fun x hx=>(hal x hx).1,fun x hx s hs=>((hal x hx).2 s hs).2,fun x hx s hs=>((hal x hx).2 s hs).1,fun k hk=>by rw[← (hld k hk).2];exact(hld k hk).1⟩
 |o::os,dn,ld,out,sh,ho,hl,hln,hld,hal,e=>by
  obtain⟨h1,h2⟩:=ho o (by simp);unfold goR at e;cases hr:roundsF n f o 16 ld [] with
  |mk b r=>
   obtain⟨ld2,own⟩:=r;rw[hr] at e;cases b with
   |false=>cases (Prod.mk.inj e).2
   |true=>
    have hi:=rounds_ok hok h1.a0 h1.x h2 (base:=fun k=>gd ld k) (r:=0) ⟨hln,fun k hk=>(hld k hk).1,rfl,fun k hk=>by simp[ordLd,sI],fun s hs=>by cases hs⟩ hr;have hlen:dn.length=(out.map (List.map Sha.lan)).length:=by simp[hl]
    have:=goR_ok hok (os:=os) (dn:=dn++[o]) (ld:=ld2) (out:=out++[own]) (fun x hx=>ho x (by simp[hx])) (by simp[hl]) hi.len (fun k hk=>⟨hi.cap k hk,?_⟩) (fun x hx=> ?_) e
    ·rw[List.append_assoc] at this;exact this
    ·rw[hi.lod k hk,(hld k hk).2];unfold ldAt;rw[List.map_append,List.map_cons,List.map_nil,zip_snoc hlen,Fr];simp[sI]
    ·rw[List.map_append,List.map_cons,List.map_nil,zip_snoc hlen] at hx;rcases List.mem_append.1 hx with hx|hx
     ·exact hal x hx
     ·simp at hx;subst hx;refine⟨hi.sum,fun s hs=> ?_⟩;obtain⟨u,hu,rfl⟩:=List.mem_map.1 hs;have:=hi.all u hu;exact⟨this.1,by simp only[Sha.lan];omega⟩
theorem route_fits {n:Nn}(hok:NnOk n)(hc:∀ x∈n.links,0≤x.cap){f:Flr}{os:List Odr}{sh:List (List Sha)}(ho:∀ o∈os,OdrOk n o∧McE (mOf o.e) o.e)(e:routeF n f os=(sh,none)):FitsP n f os (sh.map (List.map Sha.lan)):=by
 have:=goR_ok hok (dn:=[]) (out:=[]) ho U (by simp) (fun k hk=> ?_) (fun x hx=>by cases hx) e
 ·exact this
 ·have h0:gd (List.replicate n.links.length (0:Int)) k=0:=by rw[Ar (by simpa using hk)];simp
  rw[h0];have:=hc _ (Ag hk);exact⟨by omega,by simp[ldAt,sI]⟩
section
variable {P:Program} {w0:World} {L:Fm} {ty:TypeId} {H:List (Nat × Obj)} {x y:Operand} {t t2 e:TypeId}
theorem Ce {α:Type}{enc:α→List Value}(l2:List α){q:Option Addr}{k c sz by':Nat}{z:Value}{i0:TypeInfo}{e2:TypeId}(hk:k=l2.length)(hx:Ev L x (.slice none 0 0))(hy:Ev L y (.slice q k c))
  (ht:∀ w,(underlying t).run P w= .ok (.slice e) w) (ht2:∀ w,(underlying t2).run P w= .ok (.slice e2) w) (hz:∀ w,(sizeOf e).run P w= .ok sz w) (hi:∀ w,(typeInfo e).run P w= .ok i0 w) (hby:i0.bytes=by') (hzv:∀ w,(zeroValue e).run P w= .ok z w) (hzs:z.cells.size=sz)
  (he:∀ u,(enc u).length=sz) (h1:∀ u,(enc u).all oneB=true) (hb0:by'≠0) (hb:(2*l2.length+600)*by'≤281474976710656) (hA:Arr w0 H q sz enc l2):
  Eff P w0 (.call {callee:= .builtin .append,args:= #[x,y],argTypes:= #[t,t2]}) ty L H (fun u H'=>∃ d',u=slV d' l2.length∧SlOk d' l2.length sz∧H'=slH d' (l2.flatMap enc) e++H):=by
 subst hk;have h:=eff_appN_at (P:=P) (w0:=w0) (L:=L) (ty:=ty) (H:=H) (x:=x) (y:=y) (t:=t) (t2:=t2) (e:=e) (enc:=enc) l2 (R:=H) (d:= .nil) (l:=[]) (F:=fun M'=>M'++H) (show LocL ([]++H) [] H _ from .h) hx hy ht ht2 hz hi hby hzv hzs he h1 U hb0 (by simpa using hb) hA
 simpa using h
theorem Ck {α:Type}{enc:α→List Value}(l2:List α){R:List (Nat × Obj)}{F:List (Nat × Obj)→List (Nat × Obj)}{d:Sl}{l:List α}{q:Option Addr}{k c sz by':Nat}{z:Value}{i0:TypeInfo}{e2:TypeId}(hk:k=l2.length)(hl:LocL H (slH d (l.flatMap enc) e) R F)(hx:Ev L x (slV d l.length))(hy:Ev L y (.slice q k c))
  (ht:∀ w,(underlying t).run P w= .ok (.slice e) w) (ht2:∀ w,(underlying t2).run P w= .ok (.slice e2) w) (hz:∀ w,(sizeOf e).run P w= .ok sz w) (hi:∀ w,(typeInfo e).run P w= .ok i0 w) (hby:i0.bytes=by') (hzv:∀ w,(zeroValue e).run P w= .ok z w) (hzs:z.cells.size=sz)
  (he:∀ u,(enc u).length=sz) (h1:∀ u,(enc u).all oneB=true) (hok:SlOk d l.length sz) (hb0:by'≠0) (hb:(2*(l.length+l2.length)+600)*by'≤281474976710656) (hA:Arr w0 H q sz enc l2):
  Eff P w0 (.call {callee:= .builtin .append,args:= #[x,y],argTypes:= #[t,t2]}) ty L H (fun u H'=>∃ d',u=slV d' (l++l2).length∧SlOk d' (l++l2).length sz∧H'=F (slH d' ((l++l2).flatMap enc) e)):=by
 subst hk;rw[List.length_append];exact eff_appN_at l2 hl hx hy ht ht2 hz hi hby hzv hzs he h1 hok hb0 hb hA
theorem A9 {α:Type}{enc:α→List Value}(v:α){R:List (Nat × Obj)}{F:List (Nat × Obj)→List (Nat × Obj)}{d:Sl}{l:List α}{n sz by':Nat}{z:Value}{i0:TypeInfo}{e2:TypeId}(hl:LocL H (slH d (l.flatMap enc) e) R F)(hx:Ev L x (slV d l.length))(hy:Ev L y (.slice (some ⟨n,0,none⟩) 1 1))
  (ht:∀ w,(underlying t).run P w= .ok (.slice e) w) (ht2:∀ w,(underlying t2).run P w= .ok (.slice e2) w) (hz:∀ w,(sizeOf e).run P w= .ok sz w) (hi:∀ w,(typeInfo e).run P w= .ok i0 w) (hby:i0.bytes=by') (hzv:∀ w,(zeroValue e).run P w= .ok z w) (hzs:z.cells.size=sz)
  (he:∀ u,(enc u).length=sz) (h1:(enc v).all oneB=true) (hok:SlOk d l.length sz) (hb0:by'≠0) (hb:(2*(l.length+1)+600)*by'≤281474976710656) (hn:Cells w0 H n 0 (enc v):=by exact A1):
  Eff P w0 (.call {callee:= .builtin .append,args:= #[x,y],argTypes:= #[t,t2]}) ty L H (fun u H'=>∃ d',u=slV d' (l++[v]).length∧SlOk d' (l++[v]).length sz∧H'=F (slH d' ((l++[v]).flatMap enc) e)):=by
 rw[List.length_append];exact Be v hl hx hy ht ht2 hz hi hby hzv hzs he h1 hok hb0 hb hn
end
theorem G7 {d:Sl}{k sz:Nat}(h:SlOk d k sz):k≤slC d:=by
 cases d with
 |nil=>have:k=0:=h;rw[this];exact Nat.zero_le _
 |blk n cap junk=>exact h.1
def putF (n:Nat):List Nat→List Nat
 |[]=>[n]
 |x::l=>if x<n then x::putF n l else if x=n then x::l else n::x::l
theorem Gj {n:Nat}:∀ {l:List Nat} {k:Nat},k<l.length→(∀ j,j<k→gd l j<n)→gd l k=n→putF n l=l
 |[],k,h,_,_=>by simp at h
 |x::l,0,_,_,h=>by have h:x=n:=h;subst h;simp[putF]
 |x::l,k+1,h,hj,hk=>by
  have h0:x<n:=hj 0 qom;unfold putF;rw[if_pos h0,Gj (k:=k) (by simpa using h) (fun j hj2=>hj (j+1) qom) hk]
theorem I7 {n:Nat}:∀ {l:List Nat} {k:Nat},k≤l.length→(∀ j,j<k→gd l j<n)→(k<l.length→n<gd l k)→putF n l=l.take k++[n]++l.drop k
 |[],0,_,_,_=>rfl
 |x::l,0,_,_,h=>by
  have h:n<x:=h (by simp);unfold putF;rw[if_neg qom,if_neg qom];rfl
 |x::l,k+1,h,hj,hk=>by
  have h0:x<n:=hj 0 qom;unfold putF;rw[if_pos h0,I7 (k:=k) (by simpa using h) (fun j hj2=>hj (j+1) qom) fun h2=>hk (by simpa using h2)];simp
theorem putF_len (n:Nat):∀ l:List Nat,(putF n l).length≤l.length+1
 |[]=>by simp[putF]
 |x::l=>by
  have:=putF_len n l;unfold putF;split
  ·simp only[List.length_cons];omega
  ·split<;>simp
def mergeF (a b:List Nat):List Nat:=b.foldl (fun l n=>putF n l) a
theorem mergeF_take {a b:List Nat}{k:Nat}(h:k<b.length):mergeF a (b.take (k+1))=putF (gd b k) (mergeF a (b.take k)):=by
 unfold mergeF;rw[Cf h];simp
theorem mergeF_len (a:List Nat):∀ b:List Nat,(mergeF a b).length≤a.length+b.length:=fun b=>by
 unfold mergeF
 induction b generalizing a with
 |nil=>simp
 |cons x b ih=>
  simp only[List.foldl_cons,List.length_cons];have:=ih (putF x a);have:=putF_len x a;omega
theorem put_x {w0:World}{H:List (Nat × Obj)}(l:List Nat)(q:Option Addr)(c:Nat)(hA:Arr w0 H q 1 encU l)(hc:l.length≤c)(hl:l.length≤100000)(n:Nat):
  FSpec Tryz.prog w0 146 #[.slice q l.length c, .int .i64 (n:Int)] H (fun v H'=>∃ (q':Option Addr) (c':Nat) (M:List (Nat × Obj)),(v= .slice q' (putF n l).length c'∧(putF n l).length≤c'∧∀ X,Arr w0 X q 1 encU l→Arr w0 (M++X) q' 1 encU (putF n l))∧H'=M++H):=by
 refine Ap Tryz.func146 U ntmps146 U (rD tb 12 U ?_);refine Bb (X:=Nat) (V:=fun k=>[(5, .int .i64 (k:Nat))]) (C:=[(0,_),(1,_)]) (φ:=fun k=>k≤l.length∧∀ j,j<k→gd l j<n) (μ:=fun k=>l.length - k) (x0:=0) ?_ ⟨Aa U,Aa U,trivial⟩ ⟨qat,trivial⟩ ?_
 ·exact⟨Nat.zero_le _,fun j hj=>by omega⟩
 rintro k ⟨hk,hlt⟩;refine rD tb 8 U ?_;refine A4 (s:=11) (Aa U) (fun c11=> ?_) (fun c11=> ?_)
 ·refine rO tb 2 U (A6 (Lq U U runUnderlying27 sizeOf3 qom (by first|exact rfl|exact hA.b (i:=k) qom)) U (Az U U (Aa U)) ?_);refine A6 (Lo U isAgg3 (by first|exact c_o|exact cell1 ((hA.mono sbt).cs (i:=k) qom))) U (Az U U (Aa U)) ?_;refine rO tb 5 U ?_;refine Ae (Aa U) (fun c18=> ?_) (fun c18=> ?_)
  ·refine rC tb 5 U (y_ (Aq (T U) Ao qom) ?_ U);refine rO tb 3 U ?_;refine An (k+1) ?_ ?_ ⟨qat,trivial⟩ ⟨Aa U,Aa U,trivial⟩ ?_
   ·refine⟨by omega,fun j hj=> ?_⟩
    by_cases e:j=k
    ·subst e;omega
    ·exact hlt j qom
   ·omega
   ·exact sbt
  ·refine rC tb 2 U (Af (rX tb 10 U ?_));refine A4 (s:=25) (Aa U) (fun c25=> ?_) (fun c25=> ?_)
   ·refine rO tb 2 U (A6 (Lq U U runUnderlying27 sizeOf3 qom (by first|exact rfl|exact hA.b (i:=k) qom)) U (Az U U (Aa U)) ?_);refine A6 (Lo U isAgg3 (by first|exact c_o|exact cell1 ((hA.mono sbt).cs (i:=k) qom))) U (Az U U (Aa U)) ?_;refine rO tb 5 U ?_;refine Ae (Aa U) (fun c32=> ?_) (fun c32=> ?_)
    ·refine rC tb 8 U (Ai U (Ll U) ?_)
     (have hp:putF n l=l:=Gj (k:=k) qom hlt qom;exact⟨_,⟨q,c,[],⟨by rw[hp];rfl,by rw[hp];exact hc,fun X hX=>by rw[hp];exact hX⟩,rfl⟩,sbt⟩)
    ·refine rC tb 12 U (y_ (Cv  (T U) (T U) runUnderlying27 sizeOf3 qom) ?_ U);refine e_ (Ce (l.take k) (by':=8) (by exact(by simp;omega)) (T U) (T U) runUnderlying27 runUnderlying27 sizeOf3 typeInfo3 U zeroValue3 U (fun _=>rfl) (fun _=>rfl) qde (by simp;omega) ((hA.mono sbt).take k)) ?_ U;rintro _ _ ⟨d1,rfl,hd1,rfl⟩;refine kO tb 3 [0,1,5,6] rfl U (rG tb 4 U (e_ (Ah (.cons (T U) .nil) (Bq _)) ?_ U));rintro _ _ ⟨n41,rfl,rfl⟩;refine e_ (A9 (n) (by':=8) qlc (T U) (T U) runUnderlying27 runUnderlying27 sizeOf3 typeInfo3 U zeroValue3 U (fun _=>rfl) U hd1 qde (by simp;omega)) ?_ U;rintro _ _ ⟨d2,rfl,hd2,rfl⟩;refine rO tb 8 U (y_ (Ch  (T U) (T U) runUnderlying27 sizeOf3 qom) ?_ U);refine e_ (Ck (l.drop k) (by':=8) (by exact(by simp)) qlc (T U) (T U) runUnderlying27 runUnderlying27 sizeOf3 typeInfo3 U zeroValue3 U (fun _=>rfl) (fun _=>rfl) hd2 qde (by simp;omega) ((hA.mono sbt).drop hc k)) ?_ U;rintro _ _ ⟨d3,rfl,hd3,rfl⟩;refine rO tb 4 U (Ai U (Ll U) ?_)
     first|(have hp:putF n l=l:=Gj (k:=k) qom hlt qom;exact⟨_,⟨q,c,[],⟨by rw[hp];rfl,by rw[hp];exact hc,fun X hX=>by rw[hp];exact hX⟩,rfl⟩,sbt⟩)|(have hp:putF n l=l.take k++[n]++l.drop k:=I7 qom hlt (fun h=>by omega);exact⟨_,⟨slQ d3,slC d3,slH d3 ((l.take k++[n]++l.drop k).flatMap encU) 3,⟨by rw[hp];rfl,by rw[hp];exact G7 hd3,fun X _=>by rw[hp];exact Av (fun _=>rfl) hd3⟩,rfl⟩,sbt⟩)
   ·refine rO tb 22 U (y_ (Cv  (T U) (T U) runUnderlying27 sizeOf3 qom) ?_ U);refine e_ (Ce (l.take k) (by':=8) (by exact(by simp;omega)) (T U) (T U) runUnderlying27 runUnderlying27 sizeOf3 typeInfo3 U zeroValue3 U (fun _=>rfl) (fun _=>rfl) qde (by simp;omega) ((hA.mono sbt).take k)) ?_ U;rintro _ _ ⟨d1,rfl,hd1,rfl⟩;refine kO tb 3 [0,1,5,6] rfl U (rG tb 4 U (e_ (Ah (.cons (T U) .nil) (Bq _)) ?_ U));rintro _ _ ⟨n41,rfl,rfl⟩;refine e_ (A9 (n) (by':=8) qlc (T U) (T U) runUnderlying27 runUnderlying27 sizeOf3 typeInfo3 U zeroValue3 U (fun _=>rfl) U hd1 qde (by simp;omega)) ?_ U;rintro _ _ ⟨d2,rfl,hd2,rfl⟩;refine rO tb 8 U (y_ (Ch  (T U) (T U) runUnderlying27 sizeOf3 qom) ?_ U);refine e_ (Ck (l.drop k) (by':=8) (by exact(by simp)) qlc (T U) (T U) runUnderlying27 runUnderlying27 sizeOf3 typeInfo3 U zeroValue3 U (fun _=>rfl) (fun _=>rfl) hd2 qde (by simp;omega) ((hA.mono sbt).drop hc k)) ?_ U;rintro _ _ ⟨d3,rfl,hd3,rfl⟩;refine rO tb 4 U (Ai U (Ll U) ?_)
    first|(have hp:putF n l=l:=Gj (k:=k) qom hlt qom;exact⟨_,⟨q,c,[],⟨by rw[hp];rfl,by rw[hp];exact hc,fun X hX=>by rw[hp];exact hX⟩,rfl⟩,sbt⟩)|(have hp:putF n l=l.take k++[n]++l.drop k:=I7 qom hlt (fun h=>by omega);exact⟨_,⟨slQ d3,slC d3,slH d3 ((l.take k++[n]++l.drop k).flatMap encU) 3,⟨by rw[hp];rfl,by rw[hp];exact G7 hd3,fun X _=>by rw[hp];exact Av (fun _=>rfl) hd3⟩,rfl⟩,sbt⟩)
 ·refine rO tb 12 U (Af (rX tb 10 U ?_));refine A4 (s:=25) (Aa U) (fun c25=> ?_) (fun c25=> ?_)
  ·refine rO tb 2 U (A6 (Lq U U runUnderlying27 sizeOf3 qom (by first|exact rfl|exact hA.b (i:=k) qom)) U (Az U U (Aa U)) ?_);refine A6 (Lo U isAgg3 (by first|exact c_o|exact cell1 ((hA.mono sbt).cs (i:=k) qom))) U (Az U U (Aa U)) ?_;refine rO tb 5 U ?_;refine Ae (Aa U) (fun c32=> ?_) (fun c32=> ?_)
   ·refine rC tb 8 U (Ai U (Ll U) ?_)
    (have hp:putF n l=l:=Gj (k:=k) qom hlt qom;exact⟨_,⟨q,c,[],⟨by rw[hp];rfl,by rw[hp];exact hc,fun X hX=>by rw[hp];exact hX⟩,rfl⟩,sbt⟩)
   ·refine rC tb 12 U (y_ (Cv  (T U) (T U) runUnderlying27 sizeOf3 qom) ?_ U);refine e_ (Ce (l.take k) (by':=8) (by exact(by simp;omega)) (T U) (T U) runUnderlying27 runUnderlying27 sizeOf3 typeInfo3 U zeroValue3 U (fun _=>rfl) (fun _=>rfl) qde (by simp;omega) ((hA.mono sbt).take k)) ?_ U;rintro _ _ ⟨d1,rfl,hd1,rfl⟩;refine kO tb 3 [0,1,5,6] rfl U (rG tb 4 U (e_ (Ah (.cons (T U) .nil) (Bq _)) ?_ U));rintro _ _ ⟨n41,rfl,rfl⟩;refine e_ (A9 (n) (by':=8) qlc (T U) (T U) runUnderlying27 runUnderlying27 sizeOf3 typeInfo3 U zeroValue3 U (fun _=>rfl) U hd1 qde (by simp;omega)) ?_ U;rintro _ _ ⟨d2,rfl,hd2,rfl⟩;refine rO tb 8 U (y_ (Ch  (T U) (T U) runUnderlying27 sizeOf3 qom) ?_ U);refine e_ (Ck (l.drop k) (by':=8) (by exact(by simp)) qlc (T U) (T U) runUnderlying27 runUnderlying27 sizeOf3 typeInfo3 U zeroValue3 U (fun _=>rfl) (fun _=>rfl) hd2 qde (by simp;omega) ((hA.mono sbt).drop hc k)) ?_ U;rintro _ _ ⟨d3,rfl,hd3,rfl⟩;refine rO tb 4 U (Ai U (Ll U) ?_)
    first|(have hp:putF n l=l:=Gj (k:=k) qom hlt qom;exact⟨_,⟨q,c,[],⟨by rw[hp];rfl,by rw[hp];exact hc,fun X hX=>by rw[hp];exact hX⟩,rfl⟩,sbt⟩)|(have hp:putF n l=l.take k++[n]++l.drop k:=I7 qom hlt (fun h=>by omega);exact⟨_,⟨slQ d3,slC d3,slH d3 ((l.take k++[n]++l.drop k).flatMap encU) 3,⟨by rw[hp];rfl,by rw[hp];exact G7 hd3,fun X _=>by rw[hp];exact Av (fun _=>rfl) hd3⟩,rfl⟩,sbt⟩)
  ·refine rO tb 22 U (y_ (Cv  (T U) (T U) runUnderlying27 sizeOf3 qom) ?_ U);refine e_ (Ce (l.take k) (by':=8) (by exact(by simp;omega)) (T U) (T U) runUnderlying27 runUnderlying27 sizeOf3 typeInfo3 U zeroValue3 U (fun _=>rfl) (fun _=>rfl) qde (by simp;omega) ((hA.mono sbt).take k)) ?_ U;rintro _ _ ⟨d1,rfl,hd1,rfl⟩;refine kO tb 3 [0,1,5,6] rfl U (rG tb 4 U (e_ (Ah (.cons (T U) .nil) (Bq _)) ?_ U));rintro _ _ ⟨n41,rfl,rfl⟩;refine e_ (A9 (n) (by':=8) qlc (T U) (T U) runUnderlying27 runUnderlying27 sizeOf3 typeInfo3 U zeroValue3 U (fun _=>rfl) U hd1 qde (by simp;omega)) ?_ U;rintro _ _ ⟨d2,rfl,hd2,rfl⟩;refine rO tb 8 U (y_ (Ch  (T U) (T U) runUnderlying27 sizeOf3 qom) ?_ U);refine e_ (Ck (l.drop k) (by':=8) (by exact(by simp)) qlc (T U) (T U) runUnderlying27 runUnderlying27 sizeOf3 typeInfo3 U zeroValue3 U (fun _=>rfl) (fun _=>rfl) hd2 qde (by simp;omega) ((hA.mono sbt).drop hc k)) ?_ U;rintro _ _ ⟨d3,rfl,hd3,rfl⟩;refine rO tb 4 U (Ai U (Ll U) ?_)
   first|(have hp:putF n l=l:=Gj (k:=k) qom hlt qom;exact⟨_,⟨q,c,[],⟨by rw[hp];rfl,by rw[hp];exact hc,fun X hX=>by rw[hp];exact hX⟩,rfl⟩,sbt⟩)|(have hp:putF n l=l.take k++[n]++l.drop k:=I7 qom hlt (fun h=>by omega);exact⟨_,⟨slQ d3,slC d3,slH d3 ((l.take k++[n]++l.drop k).flatMap encU) 3,⟨by rw[hp];rfl,by rw[hp];exact G7 hd3,fun X _=>by rw[hp];exact Av (fun _=>rfl) hd3⟩,rfl⟩,sbt⟩)
theorem I8 {w0:World}{H:List (Nat × Obj)}(a:List Nat)(q:Option Addr)(c:Nat)(hA:Arr w0 H q 1 encU a)(hc:a.length≤c)(b:List Nat)(q2:Option Addr)(c2:Nat)(hB:Arr w0 H q2 1 encU b)(hl:a.length+b.length≤100000):
  FSpec Tryz.prog w0 171 #[.slice q a.length c, .slice q2 b.length c2] H (fun v H'=>∃ (q':Option Addr) (c':Nat) (M:List (Nat × Obj)),(v= .slice q' (mergeF a b).length c'∧(mergeF a b).length≤c'∧∀ X,Arr w0 X q 1 encU a→Arr w0 (M++X) q' 1 encU (mergeF a b))∧H'=M++H):=by
 refine Ap Tryz.func171 U ntmps171 U (rD tb 12 U ?_);refine Ba (X:=Nat × Option Addr × Nat × List (Nat × Obj)) (V:=fun ⟨k,q1,c1,M⟩=>[(5, .int .i64 (k:Nat)),(0, .slice q1 (mergeF a (b.take k)).length c1)]) (C:=[(1,_)]) (G:=fun ⟨k,q1,c1,M⟩=>M++H) (φ:=fun ⟨k,q1,c1,M⟩=>k≤b.length∧(mergeF a (b.take k)).length≤c1∧∀ X,Arr w0 X q 1 encU a→Arr w0 (M++X) q1 1 encU (mergeF a (b.take k))) (μ:=fun ⟨k,q1,c1,M⟩=>b.length - k) (x0:=(0,q,c,[])) ?_ ⟨Aa rfl,trivial⟩ ⟨qat,qat,trivial⟩ sb0 ?_
 ·exact⟨Nat.zero_le _,hc,fun X hX=>hX⟩
 rintro⟨k,q1,c1,M⟩ ⟨hk,hc1,hA1⟩;have hml:=mergeF_len a (b.take k);rw[List.length_take] at hml;refine rD tb 9 U ?_;refine Ae (Aa U) (fun c9=> ?_) (fun c9=> ?_)
 ·refine rC tb 8 U (y_ (Lq U U runUnderlying27 sizeOf3 qom (by first|exact rfl|exact hB.b (i:=k) qom)) ?_ U);refine y_ (Lo U isAgg3 (by first|exact c_o|exact cell1 ((hB.mono sbt).cs (i:=k) qom))) ?_ U;refine e_ (Am (qe2 U U) call146 (put_x _ q1 c1 (hA1 _ hA) hc1 qom (gd b k))) ?_ U;rintro _ _ ⟨q3,c3,M3,⟨rfl,hc3,hA3⟩,rfl⟩;refine rO tb 6 U (y_ (Aq (T U) Ao qom) ?_ U);refine rO tb 2 U ?_;have hmt:=mergeF_take (a:=a) (b:=b) (k:=k) qom;refine An ((k+1,q3,c3,M3++M)) ?_ ?_ ⟨qat,(by first|exact Aa U|(refine Bf (Aa U) (vint ?_);omega)|(refine Bf (Aa U) ?_;simp;done)|(refine Bf (Aa U) ?_;exact by rw[hmt])),trivial⟩ ⟨Aa U,trivial⟩ ?_
  ·exact⟨by omega,by rw[hmt];exact hc3,fun X hX=>by rw[hmt,List.append_assoc];exact hA3 _ (hA1 X hX)⟩
  ·first|omega|(simp only[];omega)
  ·show (M3++M++H).Sublist _;rw[List.append_assoc];exact sbt
 ·refine rC tb 2 U (Af (rX tb 9 U (Ai U (Ll U) ?_)));have hb:b.take k=b:=List.take_of_length_le qom;rw[hb] at hc1 hA1 ⊢;exact⟨_,⟨q1,c1,M,⟨rfl,hc1,hA1⟩,rfl⟩,sbt⟩
variable {mt:Nat→ByteArray→Prop}
theorem lett_at {names:List ByteArray}(h:Srt names){k:Nat}(hk:k<names.length):lett names (gd names k)=k:=by
 have hl:lbF names (gd names k)=k:=Kh qom (fun j hj=>h.lt hj hk) fun j hj hj2=>by
  rcases Nat.lt_or_ge k j with h1|h1
  ·exact K2 (h.lt h1 hj2)
  ·rw[show j=k by omega];exact List.lt_irrefl _
 unfold lett;rw[hl,if_pos ⟨hk,rfl⟩]
theorem lett_none {names:List ByteArray}{s:ByteArray}(h:∀ j,j<names.length→¬ gd names j=s):lett names s=names.length:=
 lett_no fun hm=>by
  obtain⟨j,hj,e⟩:=mem_gdS.1 hm;exact h j hj e
theorem letter_s {w0:World}{H:List (Nat × Obj)}(m:Mc)(hm:McOk w0 H m)(hsr:Srt m.names)(hl:m.names.length≤4611686018427387903)(s:ByteArray):
  FSpec Tryz.prog w0 188 #[.agg (encMc m).toArray, .string s] H (Still (.int .i64 (lett m.names s:Nat)) H):=by
 refine Ap Tryz.func188 U ntmps188 U (rD tb 2 U (e_ (Lt U cs_) ?_ U));rintro _ _ ⟨n2,rfl,rfl⟩;refine rO tb 10 U ?_;refine Bb (X:=Nat) (V:=fun k=>[(5, .int .i64 (k:Nat))]) (C:=[(1,_),(2,_)]) (φ:=fun k=>k≤m.names.length∧∀ j,j<k→¬ gd m.names j=s) (μ:=fun k=>m.names.length - k) (x0:=0) ?_ ⟨Aa U,Aa U,trivial⟩ ⟨qat,trivial⟩ ?_
 ·exact⟨Nat.zero_le _,fun j hj=>by omega⟩
 rintro k ⟨hk,hno⟩;refine rD tb 5 U (y_ (Lo U isAgg64 qco) ?_ U);refine rO tb 4 U ?_;refine Ae (Aa U) (fun c10=> ?_) (fun c10=> ?_)
 ·refine rC tb 7 U (y_ (Lo U isAgg64 qco) ?_ U);refine rO tb 1 U (y_ (Lq U U runUnderlying64 sizeOf9 qom (by first|exact rfl|exact hm.a1.b (i:=k) qom)) ?_ U);refine y_ (Lo U isAgg9 (by first|exact c_o|exact cell1 ((hm.a1.mono sbt).cs (i:=k) qom))) ?_ U;refine rO tb 1 U (y_ (Cb (T U) (T U)) (rO tb 2 U ?_) U);refine Ae (Aa U) (fun c19=> ?_) (fun c19=> ?_)
  ·refine rC tb 9 U (Aw (rX tb 2 U (Ai U (Ll U) ?_)));have e:=bytes_ext (fun h=>h c19);have e2:=lett_at hsr (k:=k) qom;rw[e] at e2;exact⟨_,⟨by rw[e2];rfl,rfl⟩,sbt⟩
  ·refine rC tb 5 U (y_ (Aq (T U) Ao qom) ?_ U);refine rO tb 2 U ?_;refine An (k+1) ?_ ?_ ⟨qat,trivial⟩ ⟨Aa U,Aa U,trivial⟩ ?_
   ·refine⟨by omega,fun j hj=> ?_⟩
    by_cases e:j=k
    ·subst e;exact fun h=>c19 (by rw[h])
    ·exact hno j qom
   ·omega
   ·exact sbt
 ·refine rC tb 2 U (Af (rX tb 5 U (y_ (Lo U isAgg64 qco) ?_ U)));refine rO tb 5 U (Ai U (Ll U) ?_);have e2:=lett_none (fun j hj=>hno j qom);exact⟨_,⟨by rw[e2];rfl,rfl⟩,sbt⟩
theorem rstep_s {w0:World}{H:List (Nat × Obj)}(m:Mc)(hm:McOk w0 H m)(hsr:Srt m.names)(hl:m.names.length≤4611686018427387903)(hp:PMok m.pl)(st:Nat)(hst:st<m.rows.length)(s:ByteArray):
  FSpec Tryz.prog w0 167 #[.agg (encMc m).toArray, .int .i64 (st:Int), .string s] H (Still (.int .i64 (afterF m.pl st s:Nat)) H):=by
 refine Ap Tryz.func167 U ntmps167 U ?_;have hrow:=(Ej hp hst).1;have hlt:=(Ej hp hst).2 _ (Nat.lt_succ_of_le (Fi m.names s));have hle:=Fi m.names s;refine rD tb 2 U (e_ (Lt U cs_) ?_ U);rintro _ _ ⟨n3,rfl,rfl⟩;refine rO tb 4 U (Bg 11 [(0,true),(1,true),(2,true),(3,true),(4,true),(5,true),(6,true),(7,true),(8,true),(9,true),(10,true)] _ mixd qkr sb0 ?_ A7);refine rP tb 1 U (o_y U (Lo U isAgg65 qco) ?_ U Ac);refine rP tb 1 U (o_y U (Lq U U runUnderlying65 sizeOf27 qom (by first|exact rfl|exact hm.a2.b (i:=st) hst)) ?_ U Ac);refine o_y U (Lo U isAgg27 (by first|exact c_o|exact cell1 ((hm.a2.mono sbt).cs (i:=st) hst))) ?_ U Ac;refine o_y U (Lp U isAgg68 sizeOf68 U qcs) ?_ U Ac;refine rP tb 1 U (o_y U (Ax (qe2 U U) call188 (fun H' hs=>letter_s m (hm.mono (stn hs)) hsr hl s)) (o_y U (Lq U U runUnderlying27 sizeOf3 qom (by first|exact rfl|exact hm.a2.b (i:=st) hst|exact(hm.r _ (Ag hst)).b (i:=lett m.names s) qom)) ?_ U Ac) U Ac);refine o_y U (Lo U isAgg3 (by first|exact c_o|exact cell1 (((hm.r _ (Ag hst)).mono sbt).cs (i:=lett m.names s) qom))) ?_ U Ac;refine rP tb 1 U (A5 U (rO tb 3 U (Ai U (Ll U) ?_)));exact⟨_,⟨by unfold afterF;rw[Gs];rfl,rfl⟩,sbt⟩
theorem down_s {w0:World}{H:List (Nat × Obj)}(f:Flr)(x:Int):
  FSpec Tryz.prog w0 81 #[.agg (encFl f).toArray, .int .i64 x] H (Still (.bool (decide (f.node=x))) H):=by
 refine Ap Tryz.func81 U ntmps81 U (rD tb 2 U (e_ (Lt U cs_) ?_ U));rintro _ _ ⟨n2,rfl,rfl⟩;refine rO tb 6 U (y_ (Lo U isAgg3 qco) ?_ U);refine rO tb 6 U (Ai U (Ll U) ?_);exact⟨_,⟨rfl,rfl⟩,sbt⟩
theorem rup_s {w0:World}{H:List (Nat × Obj)}(n:Nn)(hn:NetR w0 H n)(f:Flr)(hf:Arr w0 H f.q 1 encI f.links)(hfl:f.links.length≤4611686018427387903)(l:Nat)(hl:l<n.links.length):
  FSpec Tryz.prog w0 72 #[.agg (encNn n).toArray, .agg (encFl f).toArray, .int .i64 (l:Int)] H (Still (.bool (upF n f l)) H):=by
 refine Ap Tryz.func72 U ntmps72 U (rD tb 2 U (e_ (Lt U cs_) ?_ U));rintro _ _ ⟨n3,rfl,rfl⟩;refine e_ (Lt U cs_) ?_ U;rintro _ _ ⟨n4,rfl,rfl⟩;refine rO tb 10 U ?_;refine Bb (X:=Nat) (V:=fun k=>[(7, .int .i64 (k:Nat))]) (C:=[(2,_),(3,_),(4,_)]) (φ:=fun k=>k≤f.links.length∧∀ j,j<k→¬ gd f.links j=(l:Int)) (μ:=fun k=>f.links.length - k) (x0:=0) ?_ ⟨Aa U,Aa U,Aa U,trivial⟩ ⟨qat,trivial⟩ ?_
 ·exact⟨Nat.zero_le _,fun j hj=>by omega⟩
 rintro k ⟨hk,hno⟩;refine rD tb 5 U (y_ (Lo U isAgg27 qco) ?_ U);refine rO tb 4 U ?_;refine Ae (Aa U) (fun c12=> ?_) (fun c12=> ?_)
 ·refine rC tb 7 U (y_ (Lo U isAgg27 qco) ?_ U);refine rO tb 1 U (y_ (Lq U U runUnderlying27 sizeOf3 qom (by first|exact rfl|exact hf.b (i:=k) qom)) ?_ U);refine y_ (Lo U isAgg3 (by first|exact c_o|exact cell1 ((hf.mono sbt).cs (i:=k) qom))) ?_ U;refine rO tb 4 U ?_;refine Ae (Aa U) (fun c21=> ?_) (fun c21=> ?_)
  ·refine rC tb 8 U (Aw (rX tb 2 U (Ai U (Ll U) ?_)));have hm:(l:Int)∈f.links:=by rw[← c21];exact Ag qom
   exact⟨_,⟨vbool (by unfold upF;simp[hm]),rfl⟩,sbt⟩
  ·refine rC tb 5 U (y_ (Aq (T U) Ao qom) ?_ U);refine rO tb 2 U ?_;refine An (k+1) ?_ ?_ ⟨qat,trivial⟩ ⟨Aa U,Aa U,Aa U,trivial⟩ ?_
   ·refine⟨by omega,fun j hj=> ?_⟩
    by_cases e:j=k
    ·subst e;exact c21
    ·exact hno j qom
   ·omega
   ·exact sbt
 ·refine rC tb 2 U (Af (rX tb 3 U (Bg 21 [(0,true),(1,true),(2,true),(3,true),(4,true),(5,true),(6,true),(7,true),(8,true),(9,true),(10,true),(11,true),(12,true),(13,true),(14,true),(15,true),(16,true),(17,true),(18,true),(19,true),(20,true)] _ mixd qkr sb0 ?_ A7)));refine rP tb 1 U (o_y U (Lo U isAgg23 qco) ?_ U Ac);refine rP tb 1 U (o_y U (Lq U U runUnderlying23 sizeOf61 qom (by first|exact rfl|exact hf.b (i:=k) qom|exact hn.links.b (i:=l) hl)) ?_ U Ac);refine rP tb 1 U (o_y U (Lo U isAgg3 (by first|exact c_o|exact c_m (hn.links.f0 (i:=l) hl U))) ?_ U Ac);refine rP tb 1 U (o_y U (Lo U isAgg3 qco) ?_ U Ac);refine rP tb 2 U ?_;refine B4 (s:=31) (Aa U) (fun c31=> ?_) (fun c31=> ?_)
  ·refine rP tb 1 U (o_y U (Lo U isAgg23 qco) ?_ U (Az U U (Aa U)));refine rP tb 1 U (o_y U (Lq U U runUnderlying23 sizeOf61 qom (by first|exact rfl|exact hf.b (i:=k) qom|exact hn.links.b (i:=l) hl)) ?_ U (Az U U (Aa U)));refine rP tb 1 U (o_y U (Lo U isAgg3 (by first|exact c_o|exact c_m (hn.links.f0 (i:=l) hl U)|exact c_m (hn.links.f (i:=l) hl U))) ?_ U (Az U U (Aa U)));refine rP tb 1 U (o_y U (Lo U isAgg3 qco) ?_ U (Az U U (Aa U)));refine rP tb 3 U (A5 U (kO tb 2 [6] rfl U (rG tb 1 U (Ai U (Ll U) ?_))));have hm: ¬ (l:Int)∈f.links:=fun h=>by
    obtain⟨j,hj,e⟩:=List.getElem_of_mem h;exact hno j qom (by rw[Ar hj];exact e)
   exact⟨_,⟨vbool (by unfold upF;simp[hm,c31]),rfl⟩,sbt⟩
  ·refine rP tb 11 U (A5 U (kO tb 2 [6] rfl U (rG tb 1 U (Ai U (Ll U) ?_))));exact⟨_,⟨vbool (by unfold upF;simp[c31]),rfl⟩,sbt⟩
theorem rout_s {w0:World}{H:List (Nat × Obj)}(n:Nn)(hn:NetR w0 H n)(hok:NnOk n)(node:Nat):
  FSpec Tryz.prog w0 168 #[.agg (encNn n).toArray, .int .i64 (node:Int)] H (fun v H'=>∃ d,(v=slV d (outF n node).length∧SlOk d (outF n node).length 1)∧H'=slH d ((outF n node).flatMap encU) 3++H):=by
 refine Ap Tryz.func168 U ntmps168 U ?_;have hfl:=hok.fewL;refine rD tb 2 U (e_ (Lt U cs_) ?_ U);rintro _ _ ⟨n2,rfl,rfl⟩;refine rO tb 15 U ?_;refine Ba (X:=Nat × Sl) (V:=fun ⟨k,d⟩=>[(6, .int .i64 (k:Nat)),(5,slV d (outK n node k).length)]) (C:=[(1,_),(2,_)]) (G:=fun ⟨k,d⟩=>slH d ((outK n node k).flatMap encU) 3++((n2,Cl (encNn n) 26)::H)) (φ:=fun ⟨k,d⟩=>k≤n.links.length∧SlOk d (outK n node k).length 1) (μ:=fun ⟨k,d⟩=>n.links.length - k) (x0:=(0, .nil)) ?_ ⟨Aa rfl,Aa rfl,trivial⟩ ⟨qat,qat,trivial⟩ sb0 ?_
 ·exact⟨Nat.zero_le _,rfl⟩
 rintro⟨k,d⟩ ⟨hk,hd⟩;refine rD tb 5 U (y_ (Lo U isAgg23 qco) ?_ U);refine rO tb 4 U ?_;refine Ae (Aa U) (fun c11=> ?_) (fun c11=> ?_)
 ·refine rC tb 7 U (y_ (Lo U isAgg23 qco) ?_ U);refine rO tb 1 U (y_ (Lq U U runUnderlying23 sizeOf61 qom (by first|exact rfl|exact hn.links.b (i:=k) qom)) ?_ U);refine rO tb 1 U (y_ (Lo U isAgg3 (by first|exact c_o|exact c_m (hn.links.f0 (i:=k) qom U))) ?_ U);refine rO tb 4 U ?_;refine Ae (Aa U) (fun c21=> ?_) (fun c21=> ?_)
  ·refine rC tb 3 U (e_ (Ah (.cons (T U) .nil) (Bq _)) ?_ U);rintro _ _ ⟨n24,rfl,rfl⟩;refine e_ (A9 (k) (by':=8) qlc (T U) (T U) runUnderlying27 runUnderlying27 sizeOf3 typeInfo3 U zeroValue3 U (fun _=>rfl) U hd qde (by have:=Ez n node k;omega)) ?_ U;rintro _ _ ⟨d',rfl,hd',rfl⟩;refine rO tb 6 U (y_ (Aq (T U) Ao qom) ?_ U);refine rO tb 2 U ?_;have he:outK n node (k+1)=outK n node k++[k]:=by rw[Dc,if_pos qom]
   refine An ((k+1,d')) ?_ ?_ ⟨qat,(by first|exact Aa U|(refine Bf (Aa U) (vint ?_);omega)|(refine Bf (Aa U) ?_;simp;done)|(refine Bf (Aa U) ?_;exact by rw[he])),trivial⟩ ⟨Aa U,Aa U,trivial⟩ ?_
   ·exact⟨by omega,by rw[he];exact hd'⟩
   ·first|omega|(simp only[];omega)
   ·simp only[he];exact sbt
  ·refine rC tb 5 U (y_ (Aq (T U) Ao qom) ?_ U);refine rO tb 2 U ?_;have he:outK n node (k+1)=outK n node k:=by rw[Dc,if_neg qom]
   refine An ((k+1,d)) ?_ ?_ ⟨qat,(by first|exact Aa U|(refine Bf (Aa U) (vint ?_);omega)|(refine Bf (Aa U) ?_;simp;done)|(refine Bf (Aa U) ?_;exact by rw[he])),trivial⟩ ⟨Aa U,Aa U,trivial⟩ ?_
   ·exact⟨by omega,by rw[he];exact hd⟩
   ·first|omega|(simp only[];omega)
   ·simp only[he];exact sbt
 ·refine rC tb 2 U (Af (rX tb 9 U (Ai U (Ll U) ?_)));have hk2:k=n.links.length:=by omega
  subst hk2;exact⟨_,⟨d,⟨rfl,hd⟩,rfl⟩,sbt⟩
def befF (a b:Int × Int):Bool:=decide (a.1<b.1∨(a.1=b.1∧a.2<b.2))
theorem before_s {w0:World}{H:List (Nat × Obj)}(a b:Int × Int):
  FSpec Tryz.prog w0 125 #[.agg (encPI a).toArray, .agg (encPI b).toArray] H (Still (.bool (befF a b)) H):=by
 refine Ap Tryz.func125 U ntmps125 U (rD tb 2 U (e_ (Lt U cs_) ?_ U));rintro _ _ ⟨n2,rfl,rfl⟩;refine e_ (Lt U cs_) ?_ U;rintro _ _ ⟨n3,rfl,rfl⟩;refine rO tb 6 U (y_ (Lo U isAgg3 qco) ?_ U);refine rO tb 1 U (y_ (Lo U isAgg3 qco) ?_ U);refine rO tb 2 U ?_;refine A4 (s:=10) (Aa U) (fun c10=> ?_) (fun c10=> ?_)
 ·refine rO tb 17 U (Ai U (Ll U) ?_);exact⟨_,⟨vbool (by unfold befF;symm;exact decide_eq_true qom),rfl⟩,sbt⟩
 ·refine rO tb 1 U (A6 (Lo U isAgg3 qco) U (Az U U (Aa U)) ?_);refine rO tb 1 U (A6 (Lo U isAgg3 qco) U (Az U U (Aa U)) ?_);refine rO tb 2 U ?_;refine A4 (s:=16) (Aa U) (fun c16=> ?_) (fun c16=> ?_)
  ·refine rO tb 1 U (A6 (Lo U isAgg3 qco) U (Az U U (Aa U)) ?_);refine rO tb 1 U (A6 (Lo U isAgg3 qco) U (Az U U (Aa U)) ?_);refine rO tb 7 U (Ai U (Ll U) ?_)
   first|exact⟨_,⟨vbool (by unfold befF;symm;exact decide_eq_true qom),rfl⟩,sbt⟩|exact⟨_,⟨vbool (by unfold befF;symm;exact decide_eq_false qom),rfl⟩,sbt⟩|exact⟨_,⟨vbool (by unfold befF;exact decide_eq_decide.2 qom),rfl⟩,sbt⟩
  ·refine rO tb 11 U (Ai U (Ll U) ?_)
   first|exact⟨_,⟨vbool (by unfold befF;symm;exact decide_eq_true qom),rfl⟩,sbt⟩|exact⟨_,⟨vbool (by unfold befF;symm;exact decide_eq_false qom),rfl⟩,sbt⟩
theorem list_eq {α:Type}[Inhabited α] {a b:List α}(hl:a.length=b.length)(h:∀ j,j<a.length→gd a j=gd b j):a=b:=
 List.ext_getElem hl fun j h1 h2=>by rw[← Ar h1,← Ar h2];exact h j h1
theorem backF_len {σ:Type}[Inhabited σ] (w:List (Int × σ)):∀ (f i:Nat),(backF w f i).length≤f
 |0,_=>Nat.le_refl _
 |f+1,i=>by
  rw[Co];split
  ·simp only[List.length_cons];have:=backF_len w f (gd w i).1.toNat;omega
  ·exact Nat.zero_le _
theorem srF_len {σ:Type}[Inhabited σ] {Pd:Pl→Prop}{ts:Pl→List (Pl × σ)}(hts:∀ p,Pd p→∀ x∈ts p,Pd x.1){fnd:Pl→Bool}{p0:Pl}(hp0:Pd p0){N:Nat}(hN:∀ l:List Pl,l.Nodup→(∀ p∈l,Pd p)→l.length≤N){rk:σ→Nat}(hr:∀ p,Pd p→(ts p).Pairwise fun a b=>rk a.2<rk b.2):(srF ts fnd N p0).1.length≤N:=by
 obtain⟨h1,h2⟩:=srF_met hts hp0 N (fnd:=fnd);have h3:=hN _ h1 h2;have hg:=I0 (rk:=rk) hts hr hN fnd hp0;unfold srF at *
 generalize goF ts fnd (N+1) 0 ⟨[p0],[(-1,default)]⟩=r at *;obtain⟨k,st⟩:=r;cases k with
 |none=>exact Nat.zero_le _
 |some k=>
  have h4:=(hg.some' k U).2.1;simp only[List.length_take,List.length_reverse] at h3 h4 ⊢;have:=backF_len st.w (k+1) k;omega
theorem I9 {n:Nn}(hok:NnOk n){f:Flr}{m:PM}(hp:PMok m){x to:Nat}(hx:x<n.nodes.length):(findF n f m x to).1.length≤2400:=by
 unfold findF
 split
 ·exact Nat.zero_le _
 ·split
  ·exact Nat.le_trans (srF_len (F4 hok hp) (Ix hp hx) (Fq n m) (rk:=id) (fun p _=>I5 n f m p)) (Jo hok hp)
  ·exact Nat.zero_le _
structure Vi where
 p:Pl
 q:Option Addr
 c:Nat
 l:List Nat
instance:Inhabited Vi:=⟨⟨(0,0),none,0,[]⟩⟩
abbrev encVi (v:Vi):List Value:=[.int .i64 (v.p.1:Int), .int .i64 (v.p.2:Int), .slice v.q v.l.length v.c]
structure VR (vs:List Vi) (st:BS Nat):Prop where
 len:vs.length=st.l.length
 at':∀ i,i<vs.length→(gd vs i).p=gd st.l i∧(gd vs i).l=pth st.w i
theorem VR.mem {vs:List Vi}{st:BS Nat}(h:VR vs st)(p:Pl):p∈st.l↔∃ j,j<vs.length∧(gd vs j).p=p:=by
 constructor
 ·intro hp;obtain⟨j,hj,e⟩:=memPl hp;exact⟨j,by rw[h.len];exact hj,by rw[(h.at' j (by rw[h.len];exact hj)).1];exact e⟩
 ·rintro⟨j,hj,e⟩;rw[← e,(h.at' j hj).1];exact Ag (by rw[← h.len];exact hj)
theorem VR.start (p:Pl):VR [⟨p,none,0,[]⟩] ⟨[p],[(-1,default)]⟩:=⟨rfl,fun i hi=>by
 simp at hi;subst hi;exact⟨rfl,rfl⟩⟩
theorem VR.old {Pd:Pl→Prop}{k k':Nat}{st:BS Nat}{vs:List Vi}(h:VR vs st){x:Pl × Nat}(hx:x.1∈st.l):VR vs (visF k st x):=by
 unfold visF;rw[if_pos hx];exact h
theorem VR.new {Pd:Pl→Prop}{k k':Nat}{st:BS Nat}{vs:List Vi}(h:VR vs st)(hb:BSok Pd k' st)(hk:k<st.l.length){x:Pl × Nat}(hx:x.1∉st.l)(q:Option Addr)(c:Nat):VR (vs++[⟨x.1,q,c,(gd vs k).l++[x.2]⟩]) (visF k st x):=by
 have hw:=hb.len;have hl:=h.len;have hback:∀ i,i<(st.w++[((k:Int),x.2)]).length→ -1≤(gd (st.w++[((k:Int),x.2)]) i).1∧(gd (st.w++[((k:Int),x.2)]) i).1<i:=fun i hi=>by
  by_cases e:i=st.w.length
  ·subst e;rw[Cc];simp only[];omega
  ·have hi':i<st.w.length:=by simp at hi;omega
   rw[Bs hi'];exact hb.back i hi'
 unfold visF;rw[if_neg hx];refine⟨by simp[hl],fun i hi=> ?_⟩
 by_cases e:i=vs.length
 ·subst e;rw[Cc];simp only[];have e1:gd (st.l++[x.1]) vs.length=x.1:=by rw[hl];exact Cc
  refine⟨e1.symm,?_⟩;have e2:gd (st.w++[((k:Int),x.2)]) vs.length=((k:Int),x.2):=by rw[hl,← hw];exact Cc
  rw[G5 hback (by simp;omega) (by rw[e2];simp only[];omega),e2];simp only[Int.toNat_natCast];rw[pth_app hb.back _ qom,(h.at' k qom).2]
 ·have hi':i<vs.length:=by simp at hi;omega
  rw[Bs hi'];simp only[];rw[Bs qom,pth_app hb.back _ qom];exact h.at' i hi'
theorem pth_len {σ:Type}[Inhabited σ] (w:List (Int × σ))(i:Nat):(pth w i).length≤i+1:=by
 unfold pth;rw[List.length_reverse];exact backF_len _ _ _
section
variable {σ:Type} [Inhabited σ]
theorem visF_ext (k:Nat)(st:BS σ)(x:Pl × σ):(∃ a,(visF k st x).l=st.l++a)∧∃ b,(visF k st x).w=st.w++b:=by
 unfold visF;split
 ·exact⟨⟨[],by simp⟩,⟨[],by simp⟩⟩
 ·exact⟨⟨_,rfl⟩,⟨_,rfl⟩⟩
theorem visAll_ext (k:Nat):∀ (ts:List (Pl × σ)) (st:BS σ),(∃ a,(visAll k st ts).l=st.l++a)∧∃ b,(visAll k st ts).w=st.w++b
 |[],st=>⟨⟨[],by simp[visAll]⟩,⟨[],by simp[visAll]⟩⟩
 |x::ts,st=>by
  obtain⟨⟨a,h1⟩,b,h2⟩:=visF_ext k st x;obtain⟨⟨a',h3⟩,b',h4⟩:=visAll_ext k ts (visF k st x);rw[show visAll k st (x::ts)=visAll k (visF k st x) ts from rfl,h3,h4,h1,h2];exact⟨⟨a++a',by simp⟩,⟨b++b',by simp⟩⟩
theorem goF_ext (ts:Pl→List (Pl × σ))(fnd:Pl→Bool):∀ (f k:Nat) (st:BS σ),(∃ a,(goF ts fnd f k st).2.l=st.l++a)∧∃ b,(goF ts fnd f k st).2.w=st.w++b
 |0,k,st=>⟨⟨[],by simp[goF]⟩,⟨[],by simp[goF]⟩⟩
 |f+1,k,st=>by
  rw[C5]
  split
  ·split
   ·exact⟨⟨[],by simp⟩,⟨[],by simp⟩⟩
   ·obtain⟨⟨a,h1⟩,b,h2⟩:=visAll_ext k (ts (gd st.l k)) st;obtain⟨⟨a',h3⟩,b',h4⟩:=goF_ext ts fnd f (k+1) (visAll k st (ts (gd st.l k)));rw[h3,h4,h1,h2];exact⟨⟨a++a',by simp⟩,⟨b++b',by simp⟩⟩
  ·exact⟨⟨[],by simp⟩,⟨[],by simp⟩⟩
theorem go_full (ts:Pl→List (Pl × σ))(fnd:Pl→Bool):∀ (f k:Nat) (st:BS σ),
  (∀ k',(goF ts fnd f k st).1=some k'→(∃ a,(goF ts (fun _=>false) f k st).2.l=(goF ts fnd f k st).2.l++a)∧∃ b,(goF ts (fun _=>false) f k st).2.w=(goF ts fnd f k st).2.w++b)∧
  ((goF ts fnd f k st).1=none→goF ts (fun _=>false) f k st=goF ts fnd f k st)
 |0,k,st=>⟨(fun k' h=>by cases h),fun _=>rfl⟩
 |f+1,k,st=>by
  have ih:=go_full ts fnd f (k+1) (visAll k st (ts (gd st.l k)));rw[C5,C5];simp only[Bool.false_eq_true,if_false]
  split
  ·split
   ·refine⟨fun k' h=> ?_,fun h=>by cases h⟩;obtain⟨⟨a,h1⟩,b,h2⟩:=visAll_ext k (ts (gd st.l k)) st;obtain⟨⟨a',h3⟩,b',h4⟩:=goF_ext ts (fun _=>false) f (k+1) (visAll k st (ts (gd st.l k)));rw[h3,h4,h1,h2];exact⟨⟨a++a',by simp⟩,⟨b++b',by simp⟩⟩
   ·exact ih
  ·exact⟨(fun k' h=>by cases h),fun _=>rfl⟩
end
def allSt (n:Nn) (f:Flr) (m:PM) (x:Nat):BS Nat:=(goF (movesF n f m) (fun _=>false) (NPl n m+1) 0 ⟨[p0F n m x],[(-1,default)]⟩).2
theorem find_vis {n:Nn}(hok:NnOk n){f:Flr}{m:PM}(hp:PMok m){x to:Nat}(hx:x<n.nodes.length)(hf: ¬ f.node=x):
  (∀ k,k<(allSt n f m x).l.length→(∀ j,j<k→fndF to m (gd (allSt n f m x).l j)=false)→fndF to m (gd (allSt n f m x).l k)=true→findF n f m x to=(pth (allSt n f m x).w k,0))∧
  ((∀ j,j<(allSt n f m x).l.length→fndF to m (gd (allSt n f m x).l j)=false)→findF n f m x to=([],18)):=by
 have hg:=I0 (rk:=id) (F4 hok hp) (fun p _=>I5 n f m p) (Fq n m) (fndF to m) (Ix hp hx) (N:=NPl n m);have hF:=go_full (movesF n f m) (fndF to m) (NPl n m+1) 0 ⟨[p0F n m x],[(-1,default)]⟩;unfold findF srF;rw[if_neg hf];unfold allSt
 generalize goF (movesF n f m) (fun _=>false) (NPl n m+1) 0 ⟨[p0F n m x],[(-1,default)]⟩=F at *
 generalize goF (movesF n f m) (fndF to m) (NPl n m+1) 0 ⟨[p0F n m x],[(-1,default)]⟩=r at *;obtain⟨k0,st⟩:=r;cases k0 with
 |none=>
  have e:=hF.2 U;obtain⟨_,h2⟩:=hg.none' rfl;subst e;simp only[] at h2 ⊢;refine⟨fun k hk _ ht=> ?_,fun _=>by simp⟩;rw[h2 k hk] at ht;cases ht
 |some k0=>
  obtain⟨⟨a,ha⟩,b,hb⟩:=hF.1 k0 rfl;obtain⟨h1,h2,h3,h4⟩:=hg.some' k0 rfl;simp only[] at ha hb h1 h2 h3 h4 ⊢;have hgl:∀ j,j<st.l.length→gd F.2.l j=gd st.l j:=fun j hj=>by rw[ha,Bs hj]
  refine⟨fun k hk hj ht=> ?_,fun hall=> ?_⟩
  ·have e:k=k0:=by
    rcases Nat.lt_trichotomy k k0 with h|h|h
    ·have:=h4 k h;rw[hgl k qom,this] at ht;cases ht
    ·exact h
    ·have:=hj k0 h;rw[hgl k0 h2,h3] at this;cases this
   subst e;simp only[if_true];rw[hb,pth_app h1.back _ (by rw[h1.len];exact h2)]
   rfl
  ·have:=hall k0 (by rw[ha];simp;omega);rw[hgl k0 h2,h3] at this;cases this
theorem K7 {n:Nn}(hok:NnOk n){f:Flr}{m:PM}(hp:PMok m){x:Nat}(hx:x<n.nodes.length):(allSt n f m x).l=metF n f m x:=by
 unfold allSt metF srF;have h:=srF_all (movesF n f m) (NPl n m) (p0F n m x);unfold srF at h
 generalize goF (movesF n f m) (fun _=>false) (NPl n m+1) 0 ⟨[p0F n m x],[(-1,default)]⟩=r at *;obtain⟨k,st⟩:=r;cases k with
 |none=>rfl
 |some k=>cases h
def insP (p:Pl):List Pl→List Pl
 |[]=>[p]
 |x::l=>if plLt x p then x::insP p l else p::x::l
theorem insP_at {p:Pl}:∀ {l:List Pl} {k:Nat},k≤l.length→(∀ j,j<k→plLt (gd l j) p)→(k<l.length→¬ plLt (gd l k) p)→insP p l=l.take k++[p]++l.drop k
 |[],0,_,_,_=>rfl
 |x::l,0,_,_,h=>by
  have h: ¬ plLt x p:=h (by simp);unfold insP;rw[if_neg h];rfl
 |x::l,k+1,h,hj,hk=>by
  have h0:plLt x p:=hj 0 qom;unfold insP;rw[if_pos h0,insP_at (k:=k) (by simpa using h) (fun j hj2=>hj (j+1) qom) fun h2=>hk (by simpa using h2)];simp
theorem insP_mem {p y:Pl}:∀ {l:List Pl},y∈insP p l↔y=p∨y∈l
 |[]=>by simp[insP]
 |x::l=>by
  unfold insP;split
  ·simp only[List.mem_cons,insP_mem (l:=l)]
   constructor
   ·rintro(h|h|h)<;>simp[h]
   ·rintro(h|h|h)<;>simp[h]
  ·simp
theorem insP_len {p:Pl}:∀ l:List Pl,(insP p l).length=l.length+1
 |[]=>rfl
 |x::l=>by unfold insP;split<;>simp[insP_len l]
theorem plLt_tri {a b:Pl}(h: ¬ plLt a b):a=b∨plLt b a:=by
 unfold plLt at *
 by_cases e:a.1=b.1∧a.2=b.2
 ·exact .inl (Prod.ext e.1 e.2)
 ·right;omega
theorem plLt_trans {a b c:Pl}(h1:plLt a b)(h2:plLt b c):plLt a c:=by unfold plLt at *;omega
theorem insP_pw {p:Pl}:∀ {l:List Pl},p∉l→l.Pairwise plLt→(insP p l).Pairwise plLt
 |[],_,_=>List.pairwise_singleton ..
 |x::l,hn,h=>by
  have h':=List.pairwise_cons.1 h;unfold insP;split
  ·rename_i hlt;refine List.pairwise_cons.2 ⟨fun y hy=> ?_,insP_pw (fun hm=>hn (by simp[hm])) h'.2⟩;rcases insP_mem.1 hy with rfl|hy
   ·exact hlt
   ·exact h'.1 y hy
  ·rename_i hlt;have hpx:plLt p x:=(plLt_tri hlt).resolve_left fun e=>hn (by simp[e])
   refine List.pairwise_cons.2 ⟨fun y hy=> ?_,h⟩;rcases List.mem_cons.1 hy with rfl|hy
   ·exact hpx
   ·exact plLt_trans hpx (h'.1 y hy)
def insAll (l:List Pl):List Pl:=l.foldl (fun o p=>insP p o) []
theorem insAll_take {l:List Pl}{k:Nat}(h:k<l.length):insAll (l.take (k+1))=insP (gd l k) (insAll (l.take k)):=by
 unfold insAll;rw[Cf h];simp
theorem insAll_ok:∀ {l:List Pl},l.Nodup→(insAll l).Pairwise plLt∧(∀ y,y∈insAll l↔y∈l)∧(insAll l).length=l.length:=by
 intro l
 induction l using snoc_ind with
 |h0=>intro _;exact⟨.nil,fun y=>Iff.rfl,rfl⟩
 |h1 l a ih=>
  intro h;have h2:=List.nodup_append.1 h;obtain⟨h3,h4,h5⟩:=ih h2.1;have e:insAll (l++[a])=insP a (insAll l):=by simp[insAll]
  rw[e];refine⟨insP_pw (fun hm=>h2.2.2 a ((h4 a).1 hm) a (by simp) U) h3,fun y=> ?_,by rw[insP_len,h5];simp⟩;rw[insP_mem,h4];simp[or_comm]
theorem bd135_0 (a0:Int)(a1:Int)(w:World):(Instr.build 183 #[(0, .agg #[.int .i64 a0, .int .i64 a1])]).run Tryz.prog w= .ok (.agg #[.int .i64 a0, .int .i64 a1, .slice none 0 0]) w:=by kernel_rfl
theorem bd135_0_1 (a0:Int)(a1:Int)(a2:Option Addr)(a2n a2c:Nat)(w:World):(Instr.build 183 #[(0, .agg #[.int .i64 a0, .int .i64 a1]),(1, .slice a2 a2n a2c)]).run Tryz.prog w= .ok (.agg #[.int .i64 a0, .int .i64 a1, .slice a2 a2n a2c]) w:=by kernel_rfl
theorem Hq (a0:Int)(a1:Int)(a2:Option Addr)(a2n a2c:Nat)(w:World):(Instr.buildSlice 180 1 #[(0, .agg #[.int .i64 a0, .int .i64 a1, .slice a2 a2n a2c])]).run Tryz.prog w= .ok (.slice (some ⟨w.heap.size,0,none⟩) 1 1) (w.alloc (Cl [.int .i64 a0, .int .i64 a1, .slice a2 a2n a2c] 183)):=by kernel_rfl
theorem bs42_0_z  (w:World):(Instr.buildSlice 27 0 #[]).run Tryz.prog w= .ok (.slice (some ⟨w.heap.size,0,none⟩) 0 0) (w.alloc (Cl [] 3)):=by kernel_rfl
theorem Gk {P:Program}{w0:World}{L:Fm}{ty:TypeId}{H:List (Nat × Obj)}{x y:Operand}{t t2 e:TypeId}{α:Type}{enc:α→List Value}(l2:List α){R:List (Nat × Obj)}{F:List (Nat × Obj)→List (Nat × Obj)}{n:Nat}{q:Option Addr}{k c sz by':Nat}{z:Value}{i0:TypeInfo}{e2:TypeId}(hk:k=l2.length)(hl:LocL H [(n,Cl [] e)] R F)(hx:Ev L x (.slice (some ⟨n,0,none⟩) 0 0))(hy:Ev L y (.slice q k c))
  (ht:∀ w,(underlying t).run P w= .ok (.slice e) w) (ht2:∀ w,(underlying t2).run P w= .ok (.slice e2) w) (hz:∀ w,(sizeOf e).run P w= .ok sz w) (hi:∀ w,(typeInfo e).run P w= .ok i0 w) (hby:i0.bytes=by') (hzv:∀ w,(zeroValue e).run P w= .ok z w) (hzs:z.cells.size=sz)
  (he:∀ u,(enc u).length=sz) (h1:∀ u,(enc u).all oneB=true) (hb0:by'≠0) (hb:(2*l2.length+600)*by'≤281474976710656) (hA:Arr w0 H q sz enc l2):
  Eff P w0 (.call {callee:= .builtin .append,args:= #[x,y],argTypes:= #[t,t2]}) ty L H (fun u H'=>∃ d',u=slV d' l2.length∧SlOk d' l2.length sz∧H'=F (slH d' (l2.flatMap enc) e)):=by
 have h:=Ck (P:=P) (w0:=w0) (L:=L) (ty:=ty) (H:=H) (x:=x) (y:=y) (t:=t) (t2:=t2) (e:=e) (enc:=enc) l2 (d:= .blk n 0 []) (l:=[]) (R:=R) (F:=F) hk hl hx hy ht ht2 hz hi hby hzv hzs he h1 ⟨Nat.le_refl _,by simp⟩ hb0 (by simpa using hb) hA
 simpa using h
theorem locH1 {e:Nat × Obj}{X:List (Nat × Obj)}:LocL (e::X) [e] X (fun M'=>M'++X):=show LocL ([e]++X) _ _ _ from .h
structure VOk (w0:World) (H M:List (Nat × Obj)) (vs:List Vi) (d:Sl) (st:BS Nat):Prop where
 ok:SlOk d vs.length 3
 vr:VR vs st
 pa:∀ u∈vs,Arr w0 M u.q 1 encU u.l
theorem VOk.path {w0:World}{H M:List (Nat × Obj)}{vs:List Vi}{d:Sl}{st:BS Nat}(h:VOk w0 H M vs d st){i:Nat}(hi:i<vs.length):Arr w0 (M++H) (gd vs i).q 1 encU (gd vs i).l:=(h.pa _ (Ag hi)).mono (List.sublist_append_left _ _)
theorem VOk.arr {w0:World}{H M X:List (Nat × Obj)}{vs:List Vi}{d:Sl}{st:BS Nat}(h:VOk w0 H M vs d st):Arr w0 (slH d (vs.flatMap encVi) 183++X) (slQ d) 3 encVi vs:=Av (fun _=>rfl) h.ok
theorem VOk.old {w0:World}{H M:List (Nat × Obj)}{vs:List Vi}{d:Sl}{st:BS Nat}(h:VOk w0 H M vs d st){k:Nat}{x:Pl × Nat}(hx:x.1∈st.l):VOk w0 H M vs d (visF k st x):=⟨h.ok,h.vr.old (Pd:=fun _=>True) (k':=0) hx,h.pa⟩
theorem VOk.new {w0:World}{H M M':List (Nat × Obj)}{vs:List Vi}{d d':Sl}{st:BS Nat}(h:VOk w0 H M vs d st){Pd:Pl→Prop}{k k':Nat}(hb:BSok Pd k' st)(hk:k<st.l.length){x:Pl × Nat}(hx:x.1∉st.l){q:Option Addr}{c:Nat}(hd:SlOk d' (vs++[(⟨x.1,q,c,(gd vs k).l++[x.2]⟩:Vi)]).length 3)(hs:M.Sublist M')(hA:Arr w0 M' q 1 encU ((gd vs k).l++[x.2])):VOk w0 H M' (vs++[(⟨x.1,q,c,(gd vs k).l++[x.2]⟩:Vi)]) d' (visF k st x):=
 ⟨hd,h.vr.new (Pd:=Pd) (k':=k') hb hk hx q c,fun u hu=>by
  rcases List.mem_append.1 hu with hu|hu
  ·exact(h.pa u hu).mono hs
  ·simp at hu;subst hu;exact hA⟩
theorem movK_mem {n:Nn}{f:Flr}{m:PM}{p:Pl}{i:Nat}:∀ y∈movK n f m p i,y∈movesF n f m p:=fun y hy=>by
 unfold movK at hy;unfold movesF;obtain⟨l,hl,rfl⟩:=List.mem_map.1 hy;have h2:=List.mem_filter.1 hl;exact List.mem_map.2 ⟨l,List.mem_filter.2 ⟨List.mem_of_mem_take h2.1,h2.2⟩,rfl⟩
theorem Fl {σ:Type}(k:Nat)(st:BS σ)(ts:List (Pl × σ))(x:Pl × σ):visAll k st (ts++[x])=visF k (visAll k st ts) x:=by simp[visAll]
theorem movesF_lab {n:Nn}{f:Flr}{m:PM}{p:Pl}{l:Nat}(h:l∈outF n p.1):l<n.links.length:=((Ey n p.1 l _).1 h).1
theorem visits_s {w0:World}{H:List (Nat × Obj)}(n:Nn)(f:Flr)(m:Mc)(he:Env w0 H n f m)(ho:EnvOk n f m)(x:Nat)(hx:x<n.nodes.length):
  FSpec Tryz.prog w0 119 #[.agg (encNn n).toArray, .agg (encFl f).toArray, .agg (encMc m).toArray, .int .i64 (x:Int)] H (fun v H'=>∃ (d:Sl) (vs:List Vi) (M:List (Nat × Obj)),(v=slV d vs.length∧SlOk d vs.length 3∧(∀ u∈vs,Arr w0 M u.q 1 encU u.l)∧(f.node=x→vs=[])∧(¬ f.node=x→VR vs (allSt n f m.pl x)))∧H'=M++(slH d (vs.flatMap encVi) 183++H)):=by
 refine Ap Tryz.func119 U ntmps119 U ?_;have hp0:=Ix (n:=n) (m:=m.pl) ho.om hx;have hml:m.rows.length=m.pl.next.length:=by simp[Mc.pl]
 have hNP:=Jo ho.on ho.om;have hsome:=ho.om.some';refine rD tb 2 U (e_ (Lt U cs_) ?_ U);rintro _ _ ⟨n4,rfl,rfl⟩;refine e_ (Lt U cs_) ?_ U;rintro _ _ ⟨n5,rfl,rfl⟩;refine e_ (Lt U cs_) ?_ U;rintro _ _ ⟨n6,rfl,rfl⟩;refine rO tb 10 U (y_ (Lp U isAgg29 sizeOf29 U qcs) ?_ U);refine rO tb 1 U (y_ (Ax (qe2 U U) call81 (fun H' hs=>down_s f x)) (rO tb 9 U ?_) U);refine Ae (Aa U) (fun c22=> ?_) (fun c22=> ?_)
 ·refine rC tb 8 U (Ai U (Ll U) ?_);exact⟨_,⟨.nil,[],[],⟨rfl,rfl,fun u hu=>(by cases hu),fun _=>rfl,fun h=>absurd c22 h⟩,rfl⟩,sbt⟩
 ·refine rC tb 3 U (Bg 13 [(0,true),(1,true),(2,true),(3,true),(4,true),(5,true),(6,true),(7,true),(8,true),(9,true),(10,true),(11,true),(12,false)] _ mixd qkr sb0 ?_ A7);refine rP tb 2 U (o_y U (Lp U isAgg68 sizeOf68 U qcs) ?_ U Ac);refine rP tb 1 U (o_y U (Lo U isAgg22 qco) ?_ U Ac);refine rP tb 1 U (o_y U (Lq U U runUnderlying22 sizeOf85 qom (by first|exact rfl|exact he.n.nodes.b (i:=x) hx)) ?_ U Ac);refine rP tb 1 U (o_y U (Lo U isAgg9 (by first|exact c_o|exact c_m (he.n.nodes.f0 (i:=x) hx U))) ?_ U Ac);refine o_y U (Ax (.cons (T U) (.cons Ao (.cons (T U) .nil))) call167 (fun H' hs=>rstep_s m (he.m.mono (stn hs)) ho.sr ho.ln ho.om 0 qom (nmF n x))) ?_ U Ac;refine o_y U (Ay (.cons (T U) (.cons (T U) .nil)) (Iw _ _)) (o_y U (Ay (.cons (T U) .nil) (bd135_0 _ _)) (o_e U (Ah (.cons (T U) .nil) (Hq _ _ _ _ _)) ?_ U Ac) U Ac) U Ac;rintro _ _ ⟨n36,rfl,rfl⟩;refine⟨sbt,(A5 U (e_ (A9 ((⟨p0F n m.pl x,none,0,[]⟩:Vi)) (by':=40) (d:= .nil) (l:=[]) (enc:=encVi) loc_nil (T U) (T U) runUnderlying180 runUnderlying180 sizeOf183 typeInfo183 U zeroValue183 U (fun _=>rfl) U U qde (by simp only[List.length_nil];omega)) ?_ U))⟩;rintro _ _ ⟨d1,rfl,hd1,rfl⟩;refine rO tb 10 U ?_;refine Ba (X:=Nat × Sl × List Vi × List (Nat × Obj) × BS Nat) (V:=fun ⟨k,d,vs,M,st⟩=>[(11, .int .i64 (k:Nat)),(9,slV d vs.length)]) (C:=[(4,_),(5,_),(6,_)]) (G:=fun ⟨k,d,vs,M,st⟩=>M++(slH d (vs.flatMap encVi) 183++((n6,Cl (encMc m) 68)::(n5,Cl (encFl f) 29)::(n4,Cl (encNn n) 26)::H))) (φ:=fun ⟨k,d,vs,M,st⟩=>(k≤vs.length∧VOk w0 H M vs d st)∧BSok (PlOk n m.pl) k st∧goF (movesF n f m.pl) (fun _=>false) (NPl n m.pl+1) 0 ⟨[p0F n m.pl x],[(-1,default)]⟩=goF (movesF n f m.pl) (fun _=>false) (NPl n m.pl+1 - k) k st) (μ:=fun ⟨k,d,vs,M,st⟩=>NPl n m.pl+1 - k) (x0:=(0,d1,[⟨p0F n m.pl x,none,0,[]⟩],[],⟨[p0F n m.pl x],[(-1,default)]⟩)) ?_ ⟨Aa rfl,Aa rfl,Aa rfl,trivial⟩ ⟨qat,qat,trivial⟩ (by simp only[List.nil_append];exact sbt) ?_
  ·refine⟨⟨Nat.zero_le _,hd1, .start _,fun u hu=> ?_⟩,⟨by simp,by simpa using hp0,rfl,fun i hi=> ?_,Nat.zero_le _⟩,rfl⟩
   ·simp at hu;subst hu;exact fun i x hi=>by cases hi
   ·simp at hi;subst hi;show -1≤(-1:Int)∧(-1:Int)<((0:Nat):Int);omega
  rintro⟨k,d,vs,M,st⟩ ⟨⟨hk,hv⟩,hb,hgo⟩;have hfw:st.l.length≤NPl n m.pl:=Fq n m.pl st.l hb.nd hb.ok;have hvl:=hv.vr.len;refine rD tb 9 U ?_;refine Ae (Aa U) (fun c41=> ?_) (fun c41=> ?_)
  ·have hkl:k<st.l.length:=by rw[← hv.vr.len];omega
   have hpk:=hb.ok _ (Ag hkl);have hvk0:=(hv.vr.at' k qom).1;have hol:(outF n (gd st.l k).1).length≤30:=Nat.le_trans (Ez n (gd st.l k).1 n.links.length) ho.on.fewL;refine rC tb 5 U (Bg 7 [(0,true),(1,true),(2,true),(3,true),(4,true),(5,true),(6,true)] _ mixd qkr sb0 ?_ A7);refine o_y U (Lp U isAgg26 sizeOf26 U qcs) ?_ U Ac;refine rP tb 2 U (o_y U (Lq U U runUnderlying180 sizeOf183 qom (by first|exact rfl|exact he.n.nodes.b (i:=x) hx|exact(hv.arr (X:=[])).b (i:=k) qom)) ?_ U Ac);refine rP tb 2 U (o_y U (Lo U isAgg3 (by first|exact c_o|exact c_m (hv.arr.f0 (i:=k) qom U))) ?_ U Ac);refine A5 U (e_ (Am (qe2 U U) call168 (rout_s n (he.n.mono sbt) ho.on (gd vs k).p.1)) ?_ U);rintro _ _ ⟨d12,⟨rfl,hd12⟩,rfl⟩;rw[hvk0] at hd12 ⊢;refine El (List.perm_append_comm_assoc _ _ _) (rO tb 9 U ?_);refine Ba (X:=Nat × Sl × List Vi × List (Nat × Obj)) (V:=fun ⟨i,d2,vs2,M2⟩=>[(13, .int .i64 (i:Nat)),(9,slV d2 vs2.length)]) (C:=[(4,_),(5,_),(6,_),(11,_),(12,_)]) (G:=fun ⟨i,d2,vs2,M2⟩=>M2++(slH d12 ((outF n (gd st.l k).1).flatMap encU) 3++(slH d2 (vs2.flatMap encVi) 183++((n6,Cl (encMc m) 68)::(n5,Cl (encFl f) 29)::(n4,Cl (encNn n) 26)::H)))) (φ:=fun ⟨i,d2,vs2,M2⟩=>i≤(outF n (gd st.l k).1).length∧VOk w0 H M2 vs2 d2 (visAll k st (movK n f m.pl (gd st.l k) i))) (μ:=fun ⟨i,d2,vs2,M2⟩=>(outF n (gd st.l k).1).length - i) (x0:=(0,d,vs,M)) ?_ ⟨Aa rfl,Aa rfl,Aa rfl,Aa rfl,Aa rfl,trivial⟩ ⟨qat,qat,trivial⟩ sb0 ?_
   ·exact⟨Nat.zero_le _,hv⟩
   rintro⟨i,d2,vs2,M2⟩ ⟨hi,hv2⟩;obtain⟨hbi,hbl⟩:=hb.visAll (k':=k) (movK n f m.pl (gd st.l k) i) hkl (fun y hy=>F3 ho.on ho.om _ hpk y (movK_mem y hy));have hgk:=(E0 (k:=k) (i:=k) (movK n f m.pl (gd st.l k) i) (st:=st) hkl).1;have hvl2:=hv2.vr.len;have hfw2:(visAll k st (movK n f m.pl (gd st.l k) i)).l.length≤NPl n m.pl:=Fq n m.pl _ hbi.nd hbi.ok;have hvk:(gd vs2 k).p=gd st.l k:=by rw[(hv2.vr.at' k qom).1,hgk]
   have hvk1:=(hv2.vr.at' k qom).2;refine rD tb 9 U ?_;refine Ae (Aa U) (fun c55=> ?_) (fun c55=> ?_)
   ·have hlk:=movesF_lab (n:=n) (f:=f) (m:=m.pl) (p:=gd st.l k) (Ag (i:=i) qom);have hdst:=(ho.on.ends _ (Ag hlk)).2;refine rC tb 5 U (Bg 8 [(0,true),(1,true),(2,true),(3,true),(4,true),(5,true),(6,true),(7,true)] _ mixd qkr sb0 ?_ A7);refine o_y U (Lp U isAgg26 sizeOf26 U qcs) ?_ U Ac;refine o_y U (Lp U isAgg29 sizeOf29 U qcs) ?_ U Ac;refine rP tb 2 U (o_y U (Lq U U runUnderlying27 sizeOf3 qom (by first|exact rfl|exact he.n.nodes.b (i:=x) hx|exact(hv.arr (X:=[])).b (i:=k) qom|exact(Av (w0:=w0) (enc:=encU) (sz:=1) (e:=3) (X:=[]) (fun _=>rfl) hd12).b (i:=i) qom)) ?_ U Ac);refine o_y U (Lo U isAgg3 (by first|exact c_o|exact cell1 (((Av (w0:=w0) (enc:=encU) (sz:=1) (e:=3) (X:=H) (fun _=>rfl) hd12).mono sbt).cs (i:=i) qom))) ?_ U Ac;refine o_y U (Ax (qe3 U U U) call72 (fun H' hs=>rup_s n (he.n.mono (stn hs)) f (he.f.mono (stn hs)) ho.fl (gd (outF n (gd st.l k).1) i) hlk)) (rP tb 1 U (A5 U (rO tb 6 U ?_))) U Ac
    first|refine A6 (Bc (T U)) U Ac ?_|refine A6 (By (T U)) U Ac ?_
    refine rO tb 2 U ?_
    first|refine Ae (Aa U) (fun c66=> ?_) (fun c66=> ?_)|refine Bm (Aa U) (fun c66=> ?_) (fun c66=> ?_)
    ·have hmy:=movK_no (m:=m.pl) (p:=gd st.l k) (f:=f) (n:=n) (i:=i) qom (by simpa using c66);refine rC tb 6 U (y_ (Aq (T U) Ao qom) ?_ U);refine rO tb 2 U ?_;refine An ((i+1,d2,vs2,M2)) ?_ ?_ ⟨qat,qat,trivial⟩ ⟨Aa U,Aa U,Aa U,Aa U,Aa U,trivial⟩ ?_
     ·show i+1≤_∧VOk w0 H _ _ _ (visAll k st (movK n f m.pl (gd st.l k) (i+1)));rw[hmy];exact⟨by omega,hv2⟩
     ·first|omega|(simp only[];omega)
     ·first|(show ((slH dp (((gd vs2 k).l++[(gd (outF n (gd st.l k).1) i)]).flatMap encU) 3++M2)++_).Sublist _;rw[List.append_assoc];exact sbt)|exact sbt
    ·have hmy:=movK_yes (m:=m.pl) (p:=gd st.l k) (f:=f) (n:=n) (i:=i) qom (by simpa using c66);refine rC tb 3 U (Bg 10 [(0,true),(1,true),(2,true),(3,true),(4,true),(5,true),(6,true),(7,true),(8,true),(9,true)] _ mixd qkr sb0 ?_ A7);refine rP tb 1 U (o_y U (Lo U isAgg23 qco) ?_ U Ac);refine rP tb 2 U (o_y U (Lq U U runUnderlying27 sizeOf3 qom (by first|exact rfl|exact he.n.nodes.b (i:=x) hx|exact(hv.arr (X:=[])).b (i:=k) qom|exact(Av (w0:=w0) (enc:=encU) (sz:=1) (e:=3) (X:=[]) (fun _=>rfl) hd12).b (i:=i) qom)) ?_ U Ac);refine o_y U (Lo U isAgg3 (by first|exact c_o|exact cell1 (((Av (w0:=w0) (enc:=encU) (sz:=1) (e:=3) (X:=H) (fun _=>rfl) hd12).mono sbt).cs (i:=i) qom))) ?_ U Ac;refine o_y U (Lq U U runUnderlying23 sizeOf61 qom (by first|exact rfl|exact he.n.nodes.b (i:=x) hx|exact(hv.arr (X:=[])).b (i:=k) qom|exact(Av (w0:=w0) (enc:=encU) (sz:=1) (e:=3) (X:=[]) (fun _=>rfl) hd12).b (i:=i) qom|exact he.n.links.b (i:=(gd (outF n (gd st.l k).1) i)) hlk)) ?_ U Ac;refine rP tb 1 U (o_y U (Lo U isAgg3 (by first|exact c_o|exact c_m (he.n.links.f (i:=(gd (outF n (gd st.l k).1) i)) hlk U))) ?_ U Ac);refine rP tb 1 U (A5 U (kO tb 2 [4,5,6,9,11,12,13,15] rfl U (rG tb 1 U (Bg 17 [(0,true),(1,true),(2,true),(3,true),(4,true),(5,true),(6,true),(7,true),(8,true),(9,true),(10,true),(11,true),(12,true),(13,true),(14,true),(15,true),(16,false)] _ mixd qkr sb0 ?_ A7))));refine rP tb 1 U (o_y U (Lp U isAgg68 sizeOf68 U qcs) ?_ U Ac);refine rP tb 2 U (o_y U (Bi (T U) (T U) runUnderlying180 sizeOf183 qom (by first|exact rfl|exact he.n.nodes.b (i:=x) hx|exact(hv.arr (X:=[])).b (i:=k) qom|exact(Av (w0:=w0) (enc:=encU) (sz:=1) (e:=3) (X:=[]) (fun _=>rfl) hd12).b (i:=i) qom|exact he.n.links.b (i:=(gd (outF n (gd st.l k).1) i)) hlk|exact(hv2.arr (X:=[])).b (i:=k) qom)) ?_ U Ac);refine rP tb 2 U (o_y U (Lo U isAgg3 (by first|exact c_o|exact Ki (v':= .int .i64 ((gd st.l k).2:Int)) (by rw[hvk]) (c_m ((hv2.arr (X:=H)).f (i:=k) (j:=1) qom U)))) ?_ U Ac);refine rP tb 1 U (o_y U (Lo U isAgg22 qco) ?_ U Ac);refine rP tb 1 U (o_y U (Lq U U runUnderlying22 sizeOf85 qom (by first|exact rfl|exact he.n.nodes.b (i:=x) hx)) ?_ U Ac);refine rP tb 1 U (o_y U (Lo U isAgg9 (by first|exact c_o|exact c_m (he.n.nodes.f0 (i:=(gd n.links (gd (outF n (gd st.l k).1) i)).dst) hdst U))) ?_ U Ac);refine o_y U (Ax (qe3 U U U) call167 (fun H' hs=>rstep_s m (he.m.mono (stn hs)) ho.sr ho.ln ho.om (gd st.l k).2 (by have:=hpk.2;omega) (nmF n (gd n.links (gd (outF n (gd st.l k).1) i)).dst))) ?_ U Ac;refine o_y U (Ay (.cons (T U) (.cons (T U) .nil)) (Iw _ _)) (o_e U (Aj zeroValue119 cs_) ?_ U Ac) U Ac;rintro _ _ ⟨n16,rfl,rfl⟩;refine⟨sbt,(A5 U ?_)⟩;refine A0 (Ls U U sizeOf119) U Ac ?_;rintro _ _ ⟨rfl,rfl⟩;refine rO tb 14 U ?_;refine Bb (X:=Nat × Bool) (V:=fun ⟨j,kn⟩=>[(18, .int .i64 (j:Nat)),(17, .bool kn)]) (C:=[(4,_),(5,_),(6,_),(9,_),(11,_),(12,_),(13,_),(16,_)]) (φ:=fun ⟨j,kn⟩=>j≤vs2.length∧(kn=true↔∃ j',j'<j∧(gd vs2 j').p=(mvF n m.pl (gd st.l k).2 (gd (outF n (gd st.l k).1) i)).1)) (μ:=fun ⟨j,kn⟩=>vs2.length - j) (x0:=(0,false)) ?_ ⟨Aa rfl,Aa rfl,Aa rfl,Aa rfl,Aa rfl,Aa rfl,Aa rfl,Aa rfl,trivial⟩ ⟨qat,qat,trivial⟩ ?_
     ·exact⟨Nat.zero_le _,⟨(fun h=>by cases h),fun ⟨j',h,_⟩=>by omega⟩⟩
     rintro⟨j,kn⟩ ⟨hj,hkn⟩;refine rD tb 9 U ?_;refine Ae (Aa U) (fun c95=> ?_) (fun c95=> ?_)
     ·refine rC tb 4 U (Bg 11 [(0,true),(1,true),(2,true),(3,true),(4,true),(5,true),(6,true),(7,true),(8,true),(9,true),(10,true)] _ mixd qkr sb0 ?_ A7);refine rP tb 2 U ?_
      first|refine B4 (s:=99) (Aa U) (fun c99=> ?_) (fun c99=> ?_)|refine Ku (s:=99) (Aa U) (fun c99=> ?_) (fun c99=> ?_)
      ·refine rP tb 9 U (A5 U (rO tb 5 U (y_ (Aq (T U) Ao qom) ?_ U)));refine rO tb 2 U ?_;refine An ((j+1,true)) ?_ ?_ ⟨qat,qat,trivial⟩ ⟨Aa U,Aa U,Aa U,Aa U,Aa U,Aa U,Aa U,Aa U,trivial⟩ ?_
       ·refine⟨by omega,fun _=> ?_,fun _=>rfl⟩;obtain⟨j',h1,h2⟩:=hkn.1 c99;exact⟨j',by omega,h2⟩
       ·first|omega|(simp only[];omega)
       ·exact sbt
      ·refine rP tb 2 U (o_y U (Lq U U runUnderlying180 sizeOf183 qom (by first|exact rfl|exact he.n.nodes.b (i:=x) hx|exact(hv.arr (X:=[])).b (i:=k) qom|exact(Av (w0:=w0) (enc:=encU) (sz:=1) (e:=3) (X:=[]) (fun _=>rfl) hd12).b (i:=i) qom|exact he.n.links.b (i:=(gd (outF n (gd st.l k).1) i)) hlk|exact(hv2.arr (X:=[])).b (i:=k) qom)) ?_ U (Az U U (Aa U)));refine rP tb 1 U (o_y U (Lp U isAgg119 sizeOf119 U (by exact D0 (k:=2) (((hv2.arr (X:=H)).mono sbt).cs (i:=j) qom))) ?_ U (Az U U (Aa U)));refine o_y U (Lp U isAgg119 sizeOf119 U qcs) ?_ U (Az U U (Aa U));refine o_y U (yl_eqA (T U) (T U) eqGuardType119 (eqPl (toI (gd vs2 j).p) (toI (mvF n m.pl (gd st.l k).2 (gd (outF n (gd st.l k).1) i)).1))) (rP tb 2 U (A5 U (rO tb 5 U (y_ (Aq (T U) Ao qom) ?_ U)))) U (Az U U (Aa U));refine rO tb 2 U ?_;refine An ((j+1,decide (toI (mvF n m.pl (gd st.l k).2 (gd (outF n (gd st.l k).1) i)).1=toI (gd vs2 j).p))) ?_ ?_ ⟨qat,qat,trivial⟩ ⟨Aa U,Aa U,Aa U,Aa U,Aa U,Aa U,Aa U,Aa U,trivial⟩ ?_
       ·refine⟨by omega,fun h=>⟨j,by omega,(toI_inj.1 (of_decide_eq_true h)).symm⟩,fun ⟨j',h1,h2⟩=>decide_eq_true ?_⟩
        by_cases ej:j'=j
        ·subst ej;rw[h2]
        ·exact absurd (hkn.2 ⟨j',by omega,h2⟩) (by rw[c99];exact Bool.false_ne_true)
       ·first|omega|(simp only[];omega)
       ·exact sbt
     ·refine rC tb 2 U (Af (rX tb 5 U ?_))
      first|refine A6 (Bc (T U)) U Ac ?_|refine A6 (By (T U)) U Ac ?_
      refine rO tb 2 U ?_
      first|refine Ae (Aa U) (fun c109=> ?_) (fun c109=> ?_)|refine Bm (Aa U) (fun c109=> ?_) (fun c109=> ?_)
      ·have hnin:(mvF n m.pl (gd st.l k).2 (gd (outF n (gd st.l k).1) i)).1∉(visAll k st (movK n f m.pl (gd st.l k) i)).l:=fun hm=>by
        obtain⟨j',h1,h2⟩:=(hv2.vr.mem _).1 hm;have:=hkn.2 ⟨j',by omega,h2⟩;rw[this] at c109;cases c109
       have hpl2:(gd vs2 k).l.length≤2500:=by rw[hvk1];have:=pth_len (visAll k st (movK n f m.pl (gd st.l k) i)).w k;omega
       refine H7 17 _ mixd qkr sb0 ?_ A7;refine x_y (i:=0) U qkr (Bp (T U)) ?_ U Ac;refine x_y (i:=1) U qkr (Lp U isAgg119 sizeOf119 U qcs) ?_ U Ac;refine x_y (i:=3) U qkr (Bp (T U)) ?_ U Ac;refine x_y (i:=4) U qkr (Bp (T U)) ?_ U Ac;refine x_y (i:=5) U qkr (Bi (T U) (T U) runUnderlying180 sizeOf183 qom (by first|exact rfl|exact he.n.nodes.b (i:=x) hx|exact(hv.arr (X:=[])).b (i:=k) qom|exact(Av (w0:=w0) (enc:=encU) (sz:=1) (e:=3) (X:=[]) (fun _=>rfl) hd12).b (i:=i) qom|exact he.n.links.b (i:=(gd (outF n (gd st.l k).1) i)) hlk|exact(hv2.arr (X:=[])).b (i:=k) qom)) ?_ U Ac;refine x_y (i:=6) U qkr (Ea (T U) fa183_1) ?_ U Ac;refine x_y (i:=7) U qkr (Lo U isAgg27 (by first|exact c_o|exact c_m ((hv2.arr (X:=H)).f (i:=k) (j:=2) qom U))) ?_ U Ac;refine x_y (i:=9) U qkr (Bp (T U)) ?_ U Ac;refine x_y (i:=10) U qkr (Bp (T U)) ?_ U Ac;refine x_y (i:=11) U qkr (Bi (T U) (T U) runUnderlying27 sizeOf3 qom (by first|exact rfl|exact he.n.nodes.b (i:=x) hx|exact(hv.arr (X:=[])).b (i:=k) qom|exact(Av (w0:=w0) (enc:=encU) (sz:=1) (e:=3) (X:=[]) (fun _=>rfl) hd12).b (i:=i) qom)) ?_ U Ac;refine x_y (i:=12) U qkr (Lo U isAgg3 (by first|exact c_o|exact cell1 (((Av (w0:=w0) (enc:=encU) (sz:=1) (e:=3) (X:=H) (fun _=>rfl) hd12).mono sbt).cs (i:=i) qom))) ?_ U Ac;refine Ds (i:=2) (j:=13) qkr qkr ?_ ?_
       ·refine Bk U (Ah .nil (bs42_0_z)) ?_ U Ac;rintro _ _ ⟨n112,rfl,rfl⟩;refine⟨sbt,?_⟩;refine Ds (i:=8) (j:=13) qkr qkr ?_ ?_
        ·refine Bk U (Gk ((gd vs2 k).l) (by':=8) (by exact rfl) (by repeat (first|exact locH1|exact LocL.h|apply LocL.t|apply LocL.a)) (T U) (T U) runUnderlying27 runUnderlying27 sizeOf3 typeInfo3 U zeroValue3 U (fun _=>rfl) (fun _=>rfl) qde qom ((hv2.path qom).mono sbt)) ?_ U Ac;rintro _ _ ⟨d1,rfl,hd1,rfl⟩;refine⟨sbt,(Bu (i:=13) qkr qkr ?_)⟩;refine Bk U (Ah (.cons (T U) .nil) (Bq _)) ?_ U Ac;rintro _ _ ⟨n123,rfl,rfl⟩;refine⟨sbt,(Bu (i:=14) qkr qkr ?_)⟩;refine Bk U (A9 ((gd (outF n (gd st.l k).1) i)) (by':=8) (enc:=encU) (l:=(gd vs2 k).l) qlc (T U) (T U) runUnderlying27 runUnderlying27 sizeOf3 typeInfo3 U zeroValue3 U (fun _=>rfl) U hd1 qde qom) ?_ U Ac;rintro _ _ ⟨dp,rfl,hdp,rfl⟩;refine⟨sbt,(x_y (i:=15) U qkr (Ay (.cons (T U) (.cons (T U) .nil)) (bd135_0_1 _ _ _ _ _)) ?_ U Ac)⟩;refine Bu (i:=16) qkr qkr ?_;refine Bk U (Ah (.cons (T U) .nil) (Hq _ _ _ _ _)) ?_ U Ac;rintro _ _ ⟨n126,rfl,rfl⟩;refine⟨sbt,(B5 qkr U ?_)⟩;refine e_ (A9 ((⟨(mvF n m.pl (gd st.l k).2 (gd (outF n (gd st.l k).1) i)).1,slQ dp,slC dp,(gd vs2 k).l++[(gd (outF n (gd st.l k).1) i)]⟩:Vi)) (by':=40) (enc:=encVi) (l:=vs2) qlc (T U) (T U) runUnderlying180 runUnderlying180 sizeOf183 typeInfo183 U zeroValue183 U (fun _=>rfl) U hv2.ok qde qom) ?_ U;rintro _ _ ⟨d3,rfl,hd3,rfl⟩;refine kO tb 4 [4,5,6,9,11,12,13] rfl U (rG tb 2 U (y_ (Aq (T U) Ao qom) ?_ U));refine rO tb 2 U ?_;refine An ((i+1,d3,vs2++[⟨(mvF n m.pl (gd st.l k).2 (gd (outF n (gd st.l k).1) i)).1,slQ dp,slC dp,(gd vs2 k).l++[(gd (outF n (gd st.l k).1) i)]⟩],slH dp (((gd vs2 k).l++[(gd (outF n (gd st.l k).1) i)]).flatMap encU) 3++M2)) ?_ ?_ ⟨qat,qat,trivial⟩ ⟨Aa U,Aa U,Aa U,Aa U,Aa U,trivial⟩ ?_
         ·show i+1≤_∧VOk w0 H _ _ _ (visAll k st (movK n f m.pl (gd st.l k) (i+1)));rw[hmy,Fl];exact⟨by omega,hv2.new hbi qom hnin hd3 (List.sublist_append_right _ _) (Av (fun _=>rfl) hdp)⟩
         ·first|omega|(simp only[];omega)
         ·(show ((slH dp (((gd vs2 k).l++[(gd (outF n (gd st.l k).1) i)]).flatMap encU) 3++M2)++_).Sublist _;rw[List.append_assoc];exact sbt)
        ·refine Bk U (Ah (.cons (T U) .nil) (Bq _)) ?_ U Ac;rintro _ _ ⟨n123,rfl,rfl⟩;refine⟨sbt,(Bu (i:=8) qkr qkr ?_)⟩;refine Bk U (Gk ((gd vs2 k).l) (by':=8) (by exact rfl) (by repeat (first|exact locH1|exact LocL.h|apply LocL.t|apply LocL.a)) (T U) (T U) runUnderlying27 runUnderlying27 sizeOf3 typeInfo3 U zeroValue3 U (fun _=>rfl) (fun _=>rfl) qde qom ((hv2.path qom).mono sbt)) ?_ U Ac;rintro _ _ ⟨d1,rfl,hd1,rfl⟩;refine⟨sbt,(Bu (i:=14) qkr qkr ?_)⟩;refine Bk U (A9 ((gd (outF n (gd st.l k).1) i)) (by':=8) (enc:=encU) (l:=(gd vs2 k).l) qlc (T U) (T U) runUnderlying27 runUnderlying27 sizeOf3 typeInfo3 U zeroValue3 U (fun _=>rfl) U hd1 qde qom) ?_ U Ac;rintro _ _ ⟨dp,rfl,hdp,rfl⟩;refine⟨sbt,(x_y (i:=15) U qkr (Ay (.cons (T U) (.cons (T U) .nil)) (bd135_0_1 _ _ _ _ _)) ?_ U Ac)⟩;refine Bu (i:=16) qkr qkr ?_;refine Bk U (Ah (.cons (T U) .nil) (Hq _ _ _ _ _)) ?_ U Ac;rintro _ _ ⟨n126,rfl,rfl⟩;refine⟨sbt,(B5 qkr U ?_)⟩;refine e_ (A9 ((⟨(mvF n m.pl (gd st.l k).2 (gd (outF n (gd st.l k).1) i)).1,slQ dp,slC dp,(gd vs2 k).l++[(gd (outF n (gd st.l k).1) i)]⟩:Vi)) (by':=40) (enc:=encVi) (l:=vs2) qlc (T U) (T U) runUnderlying180 runUnderlying180 sizeOf183 typeInfo183 U zeroValue183 U (fun _=>rfl) U hv2.ok qde qom) ?_ U;rintro _ _ ⟨d3,rfl,hd3,rfl⟩;refine kO tb 4 [4,5,6,9,11,12,13] rfl U (rG tb 2 U (y_ (Aq (T U) Ao qom) ?_ U));refine rO tb 2 U ?_;refine An ((i+1,d3,vs2++[⟨(mvF n m.pl (gd st.l k).2 (gd (outF n (gd st.l k).1) i)).1,slQ dp,slC dp,(gd vs2 k).l++[(gd (outF n (gd st.l k).1) i)]⟩],slH dp (((gd vs2 k).l++[(gd (outF n (gd st.l k).1) i)]).flatMap encU) 3++M2)) ?_ ?_ ⟨qat,qat,trivial⟩ ⟨Aa U,Aa U,Aa U,Aa U,Aa U,trivial⟩ ?_
         ·show i+1≤_∧VOk w0 H _ _ _ (visAll k st (movK n f m.pl (gd st.l k) (i+1)));rw[hmy,Fl];exact⟨by omega,hv2.new hbi qom hnin hd3 (List.sublist_append_right _ _) (Av (fun _=>rfl) hdp)⟩
         ·first|omega|(simp only[];omega)
         ·(show ((slH dp (((gd vs2 k).l++[(gd (outF n (gd st.l k).1) i)]).flatMap encU) 3++M2)++_).Sublist _;rw[List.append_assoc];exact sbt)
       ·refine Bk U (Ah (.cons (T U) .nil) (Bq _)) ?_ U Ac;rintro _ _ ⟨n123,rfl,rfl⟩;refine⟨sbt,(Bu (i:=2) qkr qkr ?_)⟩;refine Bk U (Ah .nil (bs42_0_z)) ?_ U Ac;rintro _ _ ⟨n112,rfl,rfl⟩;refine⟨sbt,(Bu (i:=8) qkr qkr ?_)⟩;refine Bk U (Gk ((gd vs2 k).l) (by':=8) (by exact rfl) (by repeat (first|exact locH1|exact LocL.h|apply LocL.t|apply LocL.a)) (T U) (T U) runUnderlying27 runUnderlying27 sizeOf3 typeInfo3 U zeroValue3 U (fun _=>rfl) (fun _=>rfl) qde qom ((hv2.path qom).mono sbt)) ?_ U Ac;rintro _ _ ⟨d1,rfl,hd1,rfl⟩;refine⟨sbt,(Bu (i:=14) qkr qkr ?_)⟩;refine Bk U (A9 ((gd (outF n (gd st.l k).1) i)) (by':=8) (enc:=encU) (l:=(gd vs2 k).l) qlc (T U) (T U) runUnderlying27 runUnderlying27 sizeOf3 typeInfo3 U zeroValue3 U (fun _=>rfl) U hd1 qde qom) ?_ U Ac;rintro _ _ ⟨dp,rfl,hdp,rfl⟩;refine⟨sbt,(x_y (i:=15) U qkr (Ay (.cons (T U) (.cons (T U) .nil)) (bd135_0_1 _ _ _ _ _)) ?_ U Ac)⟩;refine Bu (i:=16) qkr qkr ?_;refine Bk U (Ah (.cons (T U) .nil) (Hq _ _ _ _ _)) ?_ U Ac;rintro _ _ ⟨n126,rfl,rfl⟩;refine⟨sbt,(B5 qkr U ?_)⟩;refine e_ (A9 ((⟨(mvF n m.pl (gd st.l k).2 (gd (outF n (gd st.l k).1) i)).1,slQ dp,slC dp,(gd vs2 k).l++[(gd (outF n (gd st.l k).1) i)]⟩:Vi)) (by':=40) (enc:=encVi) (l:=vs2) qlc (T U) (T U) runUnderlying180 runUnderlying180 sizeOf183 typeInfo183 U zeroValue183 U (fun _=>rfl) U hv2.ok qde qom) ?_ U;rintro _ _ ⟨d3,rfl,hd3,rfl⟩;refine kO tb 4 [4,5,6,9,11,12,13] rfl U (rG tb 2 U (y_ (Aq (T U) Ao qom) ?_ U));refine rO tb 2 U ?_;refine An ((i+1,d3,vs2++[⟨(mvF n m.pl (gd st.l k).2 (gd (outF n (gd st.l k).1) i)).1,slQ dp,slC dp,(gd vs2 k).l++[(gd (outF n (gd st.l k).1) i)]⟩],slH dp (((gd vs2 k).l++[(gd (outF n (gd st.l k).1) i)]).flatMap encU) 3++M2)) ?_ ?_ ⟨qat,qat,trivial⟩ ⟨Aa U,Aa U,Aa U,Aa U,Aa U,trivial⟩ ?_
        ·show i+1≤_∧VOk w0 H _ _ _ (visAll k st (movK n f m.pl (gd st.l k) (i+1)));rw[hmy,Fl];exact⟨by omega,hv2.new hbi qom hnin hd3 (List.sublist_append_right _ _) (Av (fun _=>rfl) hdp)⟩
        ·first|omega|(simp only[];omega)
        ·(show ((slH dp (((gd vs2 k).l++[(gd (outF n (gd st.l k).1) i)]).flatMap encU) 3++M2)++_).Sublist _;rw[List.append_assoc];exact sbt)
      ·have hin:(mvF n m.pl (gd st.l k).2 (gd (outF n (gd st.l k).1) i)).1∈(visAll k st (movK n f m.pl (gd st.l k) i)).l:=by
        obtain⟨j',h1,h2⟩:=hkn.1 (by simpa using c109);exact(hv2.vr.mem _).2 ⟨j',by omega,h2⟩
       refine rC tb 5 U (y_ (Aq (T U) Ao qom) ?_ U);refine rO tb 2 U ?_;refine An ((i+1,d2,vs2,M2)) ?_ ?_ ⟨qat,qat,trivial⟩ ⟨Aa U,Aa U,Aa U,Aa U,Aa U,trivial⟩ ?_
       ·show i+1≤_∧VOk w0 H _ _ _ (visAll k st (movK n f m.pl (gd st.l k) (i+1)));rw[hmy,Fl];exact⟨by omega,hv2.old hin⟩
       ·first|omega|(simp only[];omega)
       ·first|(show ((slH dp (((gd vs2 k).l++[(gd (outF n (gd st.l k).1) i)]).flatMap encU) 3++M2)++_).Sublist _;rw[List.append_assoc];exact sbt)|exact sbt
   ·refine rC tb 2 U (Af (rX tb 5 U (y_ (Aq (T U) Ao qom) ?_ U)));refine rO tb 2 U ?_;have hi2:i=(outF n (gd st.l k).1).length:=by omega
    subst hi2;rw[movK_all] at hv2;refine An ((k+1,d2,vs2,M2,visAll k st ((movesF n f m.pl) (gd st.l k)))) ?_ ?_ ⟨qat,qat,trivial⟩ ⟨Aa U,Aa U,Aa U,trivial⟩ ?_
    ·obtain⟨hb1,hb2⟩:=hb.visAll (k':=k) ((movesF n f m.pl) (gd st.l k)) hkl (F3 ho.on ho.om _ hpk);refine⟨⟨by have:=hv2.vr.len;omega,hv2⟩,⟨hb1.nd,hb1.ok,hb1.len,hb1.back,by omega⟩,?_⟩;rw[hgo,show NPl n m.pl+1 - k=(NPl n m.pl+1 - (k+1))+1 by omega,C5,if_pos hkl];simp
    ·first|omega|(simp only[];omega)
    ·exact sbt
  ·refine rC tb 2 U (Af (rX tb 9 U (Ai U (Ll U) (⟨_,⟨d,vs,M,⟨rfl,hv.ok,hv.pa,fun h=>absurd h c22,fun _=> ?_⟩,rfl⟩,sbt⟩))));have hz:allSt n f m.pl x=st:=by
    unfold allSt;rw[hgo,show NPl n m.pl+1 - k=(NPl n m.pl - k)+1 by omega,C5,if_neg qom]
   rw[hz];exact hv.vr
theorem vis_few {n:Nn}(hok:NnOk n){f:Flr}{m:PM}(hp:PMok m){x:Nat}(hx:x<n.nodes.length){vs:List Vi}(h1:f.node=x→vs=[])(h2: ¬ f.node=x→VR vs (allSt n f m x)):vs.length≤2400:=by
 by_cases hf:f.node=x
 ·rw[h1 hf];exact Nat.zero_le _
 ·rw[(h2 hf).len,K7 hok hp hx];have hm:=K6 hok hp hx (f:=f);exact Nat.le_trans (Fq n m _ hm.1 hm.2) (Jo hok hp)
theorem vis_at {n:Nn}(hok:NnOk n){f:Flr}{m:PM}(hp:PMok m){x:Nat}(hx:x<n.nodes.length){vs:List Vi}(h1:f.node=x→vs=[])(h2: ¬ f.node=x→VR vs (allSt n f m x)){k:Nat}(hk:k<vs.length): ¬ f.node=x∧(gd vs k).p=gd (allSt n f m x).l k∧(gd vs k).l=pth (allSt n f m x).w k∧k<(allSt n f m x).l.length∧PlOk n m (gd vs k).p:=by
 have hf: ¬ f.node=x:=fun h=>by rw[h1 h] at hk;simp at hk
 have hv:=h2 hf;have hm:=K6 hok hp hx (f:=f);obtain⟨e1,e2⟩:=hv.at' k hk;refine⟨hf,e1,e2,by rw[← hv.len];exact hk,?_⟩;rw[e1,K7 hok hp hx];exact hm.2 _ (Ag (by rw[← K7 hok hp hx,← hv.len];exact hk))
theorem vis_map {n:Nn}(hok:NnOk n){f:Flr}{m:PM}(hp:PMok m){x:Nat}(hx:x<n.nodes.length){vs:List Vi}(h1:f.node=x→vs=[])(h2: ¬ f.node=x→VR vs (allSt n f m x)):vs.map Vi.p=if f.node=x then [] else metF n f m x:=by
 split
 ·rename_i h;rw[h1 h];rfl
 ·rename_i h;have hv:=h2 h;rw[← K7 hok hp hx];refine list_eq (by simp[hv.len]) fun j hj=> ?_
  have hj':j<vs.length:=by simpa using hj
  rw[Bv hj',(hv.at' j hj').1]
theorem rfindX_s {w0:World}{H:List (Nat × Obj)}(n:Nn)(f:Flr)(m:Mc)(he:Env w0 H n f m)(ho:EnvOk n f m)(x:Nat)(hx:x<n.nodes.length)(to:Nat):
  FSpec Tryz.prog w0 64 #[.agg (encNn n).toArray, .agg (encFl f).toArray, .agg (encMc m).toArray, .int .i64 (x:Int), .int .i64 (to:Int)] H (fun v H'=>∃ (q:Option Addr) (c:Nat) (M:List (Nat × Obj)),(v= .tuple #[.slice q (findF n f m.pl x to).1.length c, .int .i64 (findF n f m.pl x to).2]∧∀ X,Arr w0 (M++X) q 1 encU (findF n f m.pl x to).1)∧H'=M++H):=by
 refine Ap Tryz.func64 U ntmps64 U ?_;have hml:m.rows.length=m.pl.next.length:=by simp[Mc.pl]
 have haa:m.acc.length=m.pl.next.length:=ho.om.acc;refine rD tb 2 U (e_ (Lt U cs_) ?_ U);rintro _ _ ⟨n5,rfl,rfl⟩;refine e_ (Lt U cs_) ?_ U;rintro _ _ ⟨n6,rfl,rfl⟩;refine e_ (Lt U cs_) ?_ U;rintro _ _ ⟨n7,rfl,rfl⟩;refine rO tb 6 U (y_ (Lp U isAgg26 sizeOf26 U qcs) ?_ U);refine y_ (Lp U isAgg29 sizeOf29 U qcs) ?_ U;refine y_ (Lp U isAgg68 sizeOf68 U qcs) ?_ U;refine rO tb 1 U (e_ (Am (qe4 U U U U) call119 (visits_s n f m (he.mono sbt) ho x hx)) ?_ U);rintro _ _ ⟨d,vs,M,⟨rfl,hd,hpa,hdead,hvr⟩,rfl⟩;have hvl:vs.length≤2400:=vis_few ho.on ho.om hx hdead hvr;refine rO tb 10 U ?_;refine Bb (X:=Nat) (V:=fun k=>[(13, .int .i64 (k:Nat))]) (C:=[(4,_),(7,_),(12,_)]) (φ:=fun k=>k≤vs.length∧∀ j,j<k→fndF to m.pl (gd vs j).p=false) (μ:=fun k=>vs.length - k) (x0:=0) ?_ ⟨Aa U,Aa U,Aa U,trivial⟩ ⟨qat,trivial⟩ ?_
 ·exact⟨Nat.zero_le _,fun j hj=>by omega⟩
 rintro k ⟨hk,hno⟩;refine rD tb 9 U ?_;refine Ae (Aa U) (fun c22=> ?_) (fun c22=> ?_)
 ·obtain⟨hnd,hvp,hvpl,hka,hpo⟩:=vis_at ho.on ho.om hx hdead hvr (k:=k) qom;refine rC tb 5 U (Bg 20 [(0,true),(1,true),(2,true),(3,true),(4,true),(5,true),(6,true),(7,true),(8,true),(9,true),(10,true),(11,true),(12,true),(13,true),(14,true),(15,true),(16,true),(17,true),(18,true),(19,true)] _ mixd qkr sb0 ?_ A7);refine rP tb 2 U (o_y U (Lq U U runUnderlying180 sizeOf183 qom (by first|exact rfl|exact(Av (w0:=w0) (enc:=encVi) (sz:=3) (e:=183) (X:=[]) (fun _=>rfl) hd).b (i:=k) qom)) ?_ U Ac);refine rP tb 2 U (o_y U (Lo U isAgg3 (by first|exact c_o|exact c_m ((Av (w0:=w0) (enc:=encVi) (sz:=3) (e:=183) (X:=H) (fun _=>rfl) hd).f0 (i:=k) qom U))) ?_ U Ac);refine rP tb 3 U ?_;refine B4 (s:=33) (Aa U) (fun c33=> ?_) (fun c33=> ?_)
  ·refine rP tb 1 U (o_y U (Lo U isAgg66 qco) ?_ U (Az U U (Aa U)));refine rP tb 2 U (o_y U (Lq U U runUnderlying180 sizeOf183 qom (by first|exact rfl|exact(Av (w0:=w0) (enc:=encVi) (sz:=3) (e:=183) (X:=[]) (fun _=>rfl) hd).b (i:=k) qom)) ?_ U (Az U U (Aa U)));refine rP tb 2 U (o_y U (Lo U isAgg3 (by first|exact c_o|exact c_m ((Av (w0:=w0) (enc:=encVi) (sz:=3) (e:=183) (X:=H) (fun _=>rfl) hd).f (i:=k) (j:=1) qom U))) ?_ U (Az U U (Aa U)));refine o_y U (Lq U U runUnderlying66 sizeOf4 (by have:=hpo.2;omega) (by first|exact rfl|exact(Av (w0:=w0) (enc:=encVi) (sz:=3) (e:=183) (X:=[]) (fun _=>rfl) hd).b (i:=k) qom|exact he.m.a3.b (i:=(gd vs k).p.2) (by have:=hpo.2;omega))) ?_ U (Az U U (Aa U));refine o_y U (Lo U isAgg4 (by first|exact c_o|exact cell1 ((he.m.a3.mono sbt).cs (i:=(gd vs k).p.2) (by have:=hpo.2;omega)))) ?_ U (Az U U (Aa U));refine rP tb 1 U (A5 U (rO tb 2 U ?_))
   first|refine Ae (Aa U) (fun c44=> ?_) (fun c44=> ?_)|refine Bm (Aa U) (fun c44=> ?_) (fun c44=> ?_)
   ·refine rC tb 4 U (y_ (Lq U U runUnderlying180 sizeOf183 qom (by first|exact rfl|exact(Av (w0:=w0) (enc:=encVi) (sz:=3) (e:=183) (X:=[]) (fun _=>rfl) hd).b (i:=k) qom)) ?_ U);refine rO tb 1 U (y_ (Lo U isAgg27 (by first|exact c_o|exact c_m ((Av (w0:=w0) (enc:=encVi) (sz:=3) (e:=183) (X:=H) (fun _=>rfl) hd).f (i:=k) (j:=2) qom U))) ?_ U);refine kO tb 4 [10,11] rfl U (rG tb 3 U (Aw (rX tb 2 U (Ai U (.tmp (Aa U) (Ll U)) ?_))));have hz:=(find_vis ho.on ho.om hx (to:=to) hnd).1 k hka (fun j hj=>by rw[← (vis_at ho.on ho.om hx hdead hvr (k:=j) qom).2.1];exact hno j hj) (by rw[← hvp];unfold fndF;rw[decide_eq_true qom,(show gd m.pl.acc (gd vs k).p.2=true from (by simpa using c44:gd m.acc (gd vs k).p.2=true))];rfl);have hl:(gd vs k).l=(findF n f m.pl x to).1:=by rw[hz];exact hvpl
    have hA:=hpa _ (Ag (show k<vs.length by omega));rw[hl] at hA;refine⟨_,⟨(gd vs k).q,(gd vs k).c,M++[(n7,Cl (encMc m) 68),(n6,Cl (encFl f) 29),(n5,Cl (encNn n) 26)],⟨by rw[← hl,show (findF n f m.pl x to).2=0 by rw[hz]];rfl,fun X=>hA.mono ((List.sublist_append_left _ _).trans (List.sublist_append_left _ _))⟩,rfl⟩,by simp only[List.append_assoc,List.cons_append,List.nil_append];exact sbt⟩
   ·refine rC tb 5 U (y_ (Aq (T U) Ao qom) ?_ U);refine rO tb 2 U ?_;refine An (k+1) ?_ ?_ ⟨qat,trivial⟩ ⟨Aa U,Aa U,Aa U,trivial⟩ ?_
    ·refine⟨by omega,fun j hj=> ?_⟩
     by_cases e:j=k
     ·subst e;unfold fndF;first|(rw[decide_eq_false qom];rfl)|(rw[(show gd m.pl.acc (gd vs j).p.2=false from (by simpa using c44:gd m.acc (gd vs j).p.2=false))];simp)
     ·exact hno j qom
    ·omega
    ·exact sbt
  ·refine rP tb 11 U (A5 U (rO tb 8 U (y_ (Aq (T U) Ao qom) ?_ U)));refine rO tb 2 U ?_;refine An (k+1) ?_ ?_ ⟨qat,trivial⟩ ⟨Aa U,Aa U,Aa U,trivial⟩ ?_
   ·refine⟨by omega,fun j hj=> ?_⟩
    by_cases e:j=k
    ·subst e;unfold fndF;(rw[decide_eq_false qom];rfl)
    ·exact hno j qom
   ·omega
   ·exact sbt
 ·refine rC tb 2 U (Af (rX tb 9 U (Ai U (.tmp (Aa U) (Ll U)) ?_)));have hz:findF n f m.pl x to=([],18):=by
   by_cases hf:f.node=x
   ·unfold findF;rw[if_pos hf]
   ·have hv:=hvr hf;exact(find_vis ho.on ho.om hx (to:=to) hf).2 fun j hj=>by rw[← (vis_at ho.on ho.om hx hdead hvr (k:=j) (by rw[hv.len];exact hj)).2.1];exact hno j (by rw[← hv.len] at hj;omega)
  rw[hz];exact⟨_,⟨none,0,[],⟨rfl,fun X i x hi=>by cases hi⟩,rfl⟩,sbt⟩
theorem befF_lt (a b:Pl):befF (toI a) (toI b)=decide (plLt a b):=by unfold befF plLt toI;exact decide_eq_decide.2 qom
theorem insLen:∀ l:List Pl,(insAll l).length=l.length:=by
 intro l
 induction l using snoc_ind with
 |h0=>rfl
 |h1 l a ih=>
  have e:insAll (l++[a])=insP a (insAll l):=by simp[insAll]
  rw[e,insP_len,ih];simp
theorem rreach_s {w0:World}{H:List (Nat × Obj)}(n:Nn)(f:Flr)(m:Mc)(he:Env w0 H n f m)(ho:EnvOk n f m)(x:Nat)(hx:x<n.nodes.length):
  FSpec Tryz.prog w0 77 #[.agg (encNn n).toArray, .agg (encFl f).toArray, .agg (encMc m).toArray, .int .i64 (x:Int)] H (fun v H'=>∃ d,(v=slV d (insAll (if f.node=x then [] else metF n f m.pl x)).length∧SlOk d (insAll (if f.node=x then [] else metF n f m.pl x)).length 2)∧H'=slH d ((insAll (if f.node=x then [] else metF n f m.pl x)).flatMap encPl) 119++H):=by
 refine Ap Tryz.func77 U ntmps77 U (rD tb 2 U (e_ (Lt U cs_) ?_ U));rintro _ _ ⟨n4,rfl,rfl⟩;refine e_ (Lt U cs_) ?_ U;rintro _ _ ⟨n5,rfl,rfl⟩;refine e_ (Lt U cs_) ?_ U;rintro _ _ ⟨n6,rfl,rfl⟩;refine rO tb 10 U (y_ (Lp U isAgg26 sizeOf26 U qcs) ?_ U);refine y_ (Lp U isAgg29 sizeOf29 U qcs) ?_ U;refine y_ (Lp U isAgg68 sizeOf68 U qcs) ?_ U;refine rO tb 1 U (e_ (Am (qe4 U U U U) call119 (visits_s n f m (he.mono sbt) ho x hx)) ?_ U);rintro _ _ ⟨d,vs,M,⟨rfl,hd,hpa,hdead,hvr⟩,rfl⟩;have hvl:vs.length≤2400:=vis_few ho.on ho.om hx hdead hvr;refine rO tb 10 U ?_;refine Ba (X:=Nat × Sl) (V:=fun ⟨k,d9⟩=>[(11, .int .i64 (k:Nat)),(9,slV d9 (insAll ((vs.map Vi.p).take k)).length)]) (C:=[(10,_)]) (G:=fun ⟨k,d9⟩=>slH d9 ((insAll ((vs.map Vi.p).take k)).flatMap encPl) 119++(M++(slH d (vs.flatMap encVi) 183++((n6,Cl (encMc m) 68)::(n5,Cl (encFl f) 29)::(n4,Cl (encNn n) 26)::H)))) (φ:=fun ⟨k,d9⟩=>k≤vs.length∧SlOk d9 (insAll ((vs.map Vi.p).take k)).length 2) (μ:=fun ⟨k,d9⟩=>vs.length - k) (x0:=(0, .nil)) ?_ ⟨Aa rfl,trivial⟩ ⟨qat,qat,trivial⟩ sb0 ?_
 ·exact⟨Nat.zero_le _,rfl⟩
 rintro⟨k,d9⟩ ⟨hk,hd9⟩;have hol:(insAll ((vs.map Vi.p).take k)).length≤2400:=by
  have hz:(insAll ((vs.map Vi.p).take k)).length=((vs.map Vi.p).take k).length:=insLen _;rw[hz,List.length_take,List.length_map];omega
 have hcap9:=G7 hd9;refine rD tb 9 U ?_;refine Ae (Aa U) (fun c22=> ?_) (fun c22=> ?_)
 ·have hit:=insAll_take (l:=vs.map Vi.p) (k:=k) (by simp;omega);rw[Bv (show k<vs.length by omega)] at hit;refine rC tb 11 U ?_;refine Bb (X:=Nat) (V:=fun i=>[(12, .int .i64 (i:Nat))]) (C:=[(9,_),(10,_),(11,_)]) (φ:=fun i=>i≤(insAll ((vs.map Vi.p).take k)).length∧∀ j,j<i→plLt (gd (insAll ((vs.map Vi.p).take k)) j) (gd vs k).p) (μ:=fun i=>(insAll ((vs.map Vi.p).take k)).length - i) (x0:=0) ?_ ⟨Aa U,Aa U,Aa U,trivial⟩ ⟨qat,trivial⟩ ?_
  ·exact⟨Nat.zero_le _,fun j hj=>by omega⟩
  rintro i ⟨hi,hlt⟩;refine rD tb 2 U (Bg 16 [(0,true),(1,true),(2,true),(3,true),(4,true),(5,true),(6,true),(7,true),(8,true),(9,true),(10,true),(11,true),(12,true),(13,true),(14,true),(15,true)] _ mixd qkr sb0 ?_ A7);refine rP tb 5 U ?_;refine B4 (s:=29) (Aa U) (fun c29=> ?_) (fun c29=> ?_)
  ·refine rP tb 2 U (o_y U (Lq U U runUnderlying126 sizeOf119 qom (by first|exact rfl|exact(Av (w0:=w0) (enc:=encVi) (sz:=3) (e:=183) (X:=[]) (fun _=>rfl) hd).b (i:=k) qom|exact(Av (w0:=w0) (enc:=encPl) (sz:=2) (e:=119) (X:=[]) (fun _=>rfl) hd9).b (i:=i) qom)) ?_ U (Az U U (Aa U)));refine o_y U (Lp U isAgg119 sizeOf119 U (by exact((Av (w0:=w0) (enc:=encPl) (sz:=2) (e:=119) (X:=H) (fun _=>rfl) hd9).mono sbt).cs (i:=i) qom)) ?_ U (Az U U (Aa U));refine rP tb 2 U (o_y U (Bi (T U) (T U) runUnderlying180 sizeOf183 qom (by first|exact rfl|exact(Av (w0:=w0) (enc:=encVi) (sz:=3) (e:=183) (X:=[]) (fun _=>rfl) hd).b (i:=k) qom)) ?_ U (Az U U (Aa U)));refine rP tb 1 U (o_y U (Lp U isAgg119 sizeOf119 U (by exact D0 (k:=2) (((Av (w0:=w0) (enc:=encVi) (sz:=3) (e:=183) (X:=H) (fun _=>rfl) hd).mono sbt).cs (i:=k) qom))) ?_ U (Az U U (Aa U)));refine o_y U (Ax (qe2 U U) call125 (fun H' hs=>before_s (toI (gd (insAll ((vs.map Vi.p).take k)) i)) (toI (gd vs k).p))) (rP tb 1 U (A5 U (rO tb 2 U ?_))) U (Az U U (Aa U));refine Ae (Aa U) (fun c40=> ?_) (fun c40=> ?_)
   ·refine rC tb 5 U (y_ (Aq (T U) Ao qom) ?_ U);refine rO tb 3 U ?_;refine An (i+1) ?_ ?_ ⟨qat,trivial⟩ ⟨Aa U,Aa U,Aa U,trivial⟩ ?_
    ·refine⟨by omega,fun j hj=> ?_⟩
     by_cases e:j=i
     ·subst e;have h2:befF (toI (gd (insAll ((vs.map Vi.p).take k)) j)) (toI (gd vs k).p)=true:=decide_eq_true c40;rw[befF_lt] at h2;exact of_decide_eq_true h2
     ·exact hlt j qom
    ·omega
    ·exact sbt
   ·refine rC tb 2 U (Af (rX tb 12 U (y_ (Cv  (T U) (T U) runUnderlying126 sizeOf119 qom) ?_ U)));refine e_ (Ce ((insAll ((vs.map Vi.p).take k)).take i) (by':=16) (by exact(by simp;omega)) (T U) (T U) runUnderlying126 runUnderlying126 sizeOf119 typeInfo119 U zeroValue119 U (fun _=>rfl) (fun _=>rfl) qde (by simp;omega) (((Av (w0:=w0) (enc:=encPl) (sz:=2) (e:=119) (X:=H) (fun _=>rfl) hd9).mono sbt).take i)) ?_ U;rintro _ _ ⟨d1,rfl,hd1,rfl⟩;refine rO tb 8 U (y_ (Bi (T U) (T U) runUnderlying180 sizeOf183 qom (by first|exact rfl|exact(Av (w0:=w0) (enc:=encVi) (sz:=3) (e:=183) (X:=[]) (fun _=>rfl) hd).b (i:=k) qom)) ?_ U);refine rO tb 1 U (y_ (Lp U isAgg119 sizeOf119 U (by exact D0 (k:=2) (((Av (w0:=w0) (enc:=encVi) (sz:=3) (e:=183) (X:=H) (fun _=>rfl) hd).mono sbt).cs (i:=k) qom))) ?_ U);refine e_ (Ah (.cons (T U) .nil) (G3 _ _)) ?_ U;rintro _ _ ⟨n54,rfl,rfl⟩;refine e_ (A9 ((gd vs k).p) (by':=16) (enc:=encPl) qlc (T U) (T U) runUnderlying126 runUnderlying126 sizeOf119 typeInfo119 U zeroValue119 U (fun _=>rfl) U hd1 qde (by simp;omega)) ?_ U;rintro _ _ ⟨d2,rfl,hd2,rfl⟩;refine kO tb 3 [9,10,11,12,13] rfl U (rG tb 4 U (y_ (Ch  (T U) (T U) runUnderlying126 sizeOf119 qom) ?_ U));refine e_ (Ck ((insAll ((vs.map Vi.p).take k)).drop i) (by':=16) (enc:=encPl) (by exact(by simp)) qlc (T U) (T U) runUnderlying126 runUnderlying126 sizeOf119 typeInfo119 U zeroValue119 U (fun _=>rfl) (fun _=>rfl) hd2 qde (by simp;omega) (((Av (w0:=w0) (enc:=encPl) (sz:=2) (e:=119) (X:=H) (fun _=>rfl) hd9).mono sbt).drop (G7 hd9) i)) ?_ U;rintro _ _ ⟨d3,rfl,hd3,rfl⟩;refine rO tb 6 U (y_ (Aq (T U) Ao qom) ?_ U);refine rO tb 2 U ?_;have hin:insAll ((vs.map Vi.p).take (k+1))=(insAll ((vs.map Vi.p).take k)).take i++[(gd vs k).p]++(insAll ((vs.map Vi.p).take k)).drop i:=by
     rw[hit];exact insP_at hi hlt (fun h=>by first|omega|(have h2:befF (toI (gd (insAll ((vs.map Vi.p).take k)) i)) (toI (gd vs k).p)=false:=decide_eq_false c40;rw[befF_lt] at h2;exact of_decide_eq_false h2))
    refine An ((k+1,d3)) ?_ ?_ ⟨qat,(by first|exact Aa U|(refine Bf (Aa U) (vint ?_);omega)|(refine Bf (Aa U) ?_;simp;done)|(refine Bf (Aa U) ?_;exact by rw[hin])),trivial⟩ ⟨Aa U,trivial⟩ ?_
    ·show k+1≤_∧SlOk d3 (insAll ((vs.map Vi.p).take (k+1))).length 2;rw[hin];exact⟨by omega,hd3⟩
    ·first|omega|(simp only[];omega)
    ·show (slH d3 ((insAll ((vs.map Vi.p).take (k+1))).flatMap encPl) 119++_).Sublist _;rw[hin];exact sbt
  ·refine rP tb 11 U (A5 U (rO tb 5 U (Af (rX tb 12 U (y_ (Cv  (T U) (T U) runUnderlying126 sizeOf119 qom) ?_ U)))));refine e_ (Ce ((insAll ((vs.map Vi.p).take k)).take i) (by':=16) (by exact(by simp;omega)) (T U) (T U) runUnderlying126 runUnderlying126 sizeOf119 typeInfo119 U zeroValue119 U (fun _=>rfl) (fun _=>rfl) qde (by simp;omega) (((Av (w0:=w0) (enc:=encPl) (sz:=2) (e:=119) (X:=H) (fun _=>rfl) hd9).mono sbt).take i)) ?_ U;rintro _ _ ⟨d1,rfl,hd1,rfl⟩;refine rO tb 8 U (y_ (Bi (T U) (T U) runUnderlying180 sizeOf183 qom (by first|exact rfl|exact(Av (w0:=w0) (enc:=encVi) (sz:=3) (e:=183) (X:=[]) (fun _=>rfl) hd).b (i:=k) qom)) ?_ U);refine rO tb 1 U (y_ (Lp U isAgg119 sizeOf119 U (by exact D0 (k:=2) (((Av (w0:=w0) (enc:=encVi) (sz:=3) (e:=183) (X:=H) (fun _=>rfl) hd).mono sbt).cs (i:=k) qom))) ?_ U);refine e_ (Ah (.cons (T U) .nil) (G3 _ _)) ?_ U;rintro _ _ ⟨n54,rfl,rfl⟩;refine e_ (A9 ((gd vs k).p) (by':=16) (enc:=encPl) qlc (T U) (T U) runUnderlying126 runUnderlying126 sizeOf119 typeInfo119 U zeroValue119 U (fun _=>rfl) U hd1 qde (by simp;omega)) ?_ U;rintro _ _ ⟨d2,rfl,hd2,rfl⟩;refine kO tb 3 [9,10,11,12,13] rfl U (rG tb 4 U (y_ (Ch  (T U) (T U) runUnderlying126 sizeOf119 qom) ?_ U));refine e_ (Ck ((insAll ((vs.map Vi.p).take k)).drop i) (by':=16) (enc:=encPl) (by exact(by simp)) qlc (T U) (T U) runUnderlying126 runUnderlying126 sizeOf119 typeInfo119 U zeroValue119 U (fun _=>rfl) (fun _=>rfl) hd2 qde (by simp;omega) (((Av (w0:=w0) (enc:=encPl) (sz:=2) (e:=119) (X:=H) (fun _=>rfl) hd9).mono sbt).drop (G7 hd9) i)) ?_ U;rintro _ _ ⟨d3,rfl,hd3,rfl⟩;refine rO tb 6 U (y_ (Aq (T U) Ao qom) ?_ U);refine rO tb 2 U ?_;have hin:insAll ((vs.map Vi.p).take (k+1))=(insAll ((vs.map Vi.p).take k)).take i++[(gd vs k).p]++(insAll ((vs.map Vi.p).take k)).drop i:=by
    rw[hit];exact insP_at hi hlt (fun h=>by omega)
   refine An ((k+1,d3)) ?_ ?_ ⟨qat,(by first|exact Aa U|(refine Bf (Aa U) (vint ?_);omega)|(refine Bf (Aa U) ?_;simp;done)|(refine Bf (Aa U) ?_;exact by rw[hin])),trivial⟩ ⟨Aa U,trivial⟩ ?_
   ·show k+1≤_∧SlOk d3 (insAll ((vs.map Vi.p).take (k+1))).length 2;rw[hin];exact⟨by omega,hd3⟩
   ·first|omega|(simp only[];omega)
   ·show (slH d3 ((insAll ((vs.map Vi.p).take (k+1))).flatMap encPl) 119++_).Sublist _;rw[hin];exact sbt
 ·refine rC tb 2 U (Af (rX tb 9 U (Ai U (Ll U) ?_)));have hk2:(vs.map Vi.p).take k=if f.node=x then [] else metF n f m.pl x:=by
   rw[List.take_of_length_le (by simp;omega)];exact vis_map ho.on ho.om hx hdead hvr
  refine⟨slH d9 ((insAll ((vs.map Vi.p).take k)).flatMap encPl) 119++H,?_,sbt⟩;rw[hk2] at hd9 ⊢;exact⟨d9,⟨rfl,hd9⟩,rfl⟩
theorem K8 {P:Program}{r:Option Nat}{ops:Array Oper}{Q:Exit→Act→World→Prop}{w0:World}{H0 H1:List (Nat × Obj)}{t:Nat}(hs:H0.Sublist H1):∀ (f:Nat) (listed:Array Bool) (a:Act) (H:List (Nat × Obj)),wpO P r ops Q w0 H1 t f listed a H→wpO P r ops Q w0 H0 t f listed a H
 |0,_,_,_,h=>h
 |f+1,_,_,_,⟨h1,h2⟩=>⟨h1,fun i hi hit w hO=>wpOpIn_mono (fun a' w' ⟨H',hs',hO',h'⟩=>⟨H',hs.trans hs',hO',K8 hs f _ a' H' h'⟩) (h2 i hi hit w hO)⟩
theorem Jq {P:Program}{r:Option Nat}{N:Nat}{w0:World}{H0 H:List (Nat × Obj)}{ops:Array Oper}{t:Nat}{plan:List (Nat × Bool)}{Q:Post}{L:Fm}{ds:List Deferred}(h:JO P r N w0 H ops t plan Q L ds H):JO P r N w0 H0 ops t plan Q L ds H:=fun hT hD hS hP hs listed inv hp b a hsz hf hd=>
 K8 hs _ _ _ _ (h hT hD hS hP (List.Sublist.refl _) listed inv hp b a hsz hf hd)
theorem ins_few {n:Nn}(hok:NnOk n){f:Flr}{m:PM}(hp:PMok m){x:Nat}(hx:x<n.nodes.length):(insAll (if f.node=x then [] else metF n f m x)).length≤2400:=by
 rw[insLen]
 split
 ·exact Nat.zero_le _
 ·have hm:=K6 hok hp hx (f:=f);exact Nat.le_trans (Fq n m _ hm.1 hm.2) (Jo hok hp)
theorem Jr {α:Type}[DecidableEq α] [Inhabited α] {l:List α}{x:α}{k:Nat}(hk:k<l.length)(h:gd l k=x)(hj:∀ j,j<k→¬ gd l j=x):idx l x=k:=by
 have hm:x∈l:=by rw[← h];exact Ag hk
 have h1:=C1 hm;have h2:=Er hm;rcases Nat.lt_trichotomy (idx l x) k with h3|h3|h3
 ·exact absurd h2 (hj _ h3)
 ·exact h3
 ·exfalso;have h4:k<l.findIdx (fun y=>y==x):=h3;have h5:=List.not_of_lt_findIdx h4;rw[Ar hk] at h;simp[h] at h5
theorem idx_none {α:Type}[DecidableEq α] [Inhabited α] {l:List α}{x:α}(hj:∀ j,j<l.length→¬ gd l j=x):idx l x=l.length:=Ep fun hm=>by
 obtain⟨j,hj2,e⟩:=List.getElem_of_mem hm;exact hj j hj2 (by rw[Ar hj2];exact e)
theorem place_s {w0:World}{H:List (Nat × Obj)}(rows:List RowI)(q:Option Addr)(c:Nat)(hA:Arr w0 H q 1 encRI rows)(hr:∀ r∈rows,Arr w0 H r.q 1 encI r.l)(hn:∀ r∈rows,r.l.length≤100000)(hl:rows.length≤100000)(st:List Int)(q2:Option Addr)(c2:Nat)(hB:Arr w0 H q2 1 encI st):
  FSpec Tryz.prog w0 147 #[.slice q rows.length c, .slice q2 st.length c2] H (Still (.int .i64 (idx (rows.map RowI.l) st:Nat)) H):=by
 refine Ap Tryz.func147 U ntmps147 U (rD tb 12 U ?_);refine Bb (X:=Nat) (V:=fun k=>[(5, .int .i64 (k:Nat))]) (C:=[(0,_),(1,_)]) (φ:=fun k=>k≤rows.length∧∀ j,j<k→¬ gd (rows.map RowI.l) j=st) (μ:=fun k=>rows.length - k) (x0:=0) ?_ ⟨Aa U,Aa U,trivial⟩ ⟨qat,trivial⟩ ?_
 ·exact⟨Nat.zero_le _,fun j hj=>by omega⟩
 rintro k ⟨hk,hno⟩;refine rD tb 9 U ?_;refine Ae (Aa U) (fun c10=> ?_) (fun c10=> ?_)
 ·refine rC tb 8 U (y_ (Lq U U runUnderlying65 sizeOf27 qom (by first|exact rfl|exact hA.b (i:=k) qom)) ?_ U);refine y_ (Lo U isAgg27 (by first|exact c_o|exact cell1 ((hA.mono sbt).cs (i:=k) qom))) ?_ U;refine rO tb 1 U (y_ (Ax (qe2 U U) call23 (fun H' hs=>E5 (gd rows k).q q2 (gd rows k).c c2 (gd rows k).l st ((hr _ (Ag qom)).mono (stn hs)) (hB.mono (stn hs)) (by have:=hn _ (Ag (l:=rows) (i:=k) qom);omega))) ?_ U);refine rO tb 8 U ?_;refine Ae (Aa U) (fun c19=> ?_) (fun c19=> ?_)
  ·refine rC tb 9 U (Aw (rX tb 2 U (Ai U (Ll U) ?_)));exact⟨_,⟨by rw[Jr (k:=k) (by simp;omega) (by rw[Bv qom];exact c19) hno];rfl,rfl⟩,sbt⟩
  ·refine rC tb 5 U (y_ (Aq (T U) Ao qom) ?_ U);refine rO tb 2 U ?_;refine An (k+1) ?_ ?_ ⟨qat,trivial⟩ ⟨Aa U,Aa U,trivial⟩ ?_
   ·refine⟨by omega,fun j hj=> ?_⟩
    by_cases e:j=k
    ·subst e;rw[Bv qom];exact c19
    ·exact hno j qom
   ·omega
   ·exact sbt
 ·refine rC tb 2 U (Af (rX tb 10 U (Ai U (Ll U) ?_)));exact⟨_,⟨by rw[idx_none (fun j hj=>hno j (by simp at hj;omega)),List.length_map];rfl,rfl⟩,sbt⟩
def takR (m:Rxm) (names:List ByteArray) (a:Nat):Bool:=decide (m.kind=3)||(decide (a<names.length)&&decide (m.node=gd names a))
theorem takes_s {w0:World}{H:List (Nat × Obj)}(m:Rxm)(names:List ByteArray)(q:Option Addr)(c:Nat)(hA:Arr w0 H q 1 encS names)(hl:names.length≤9223372036854775807)(a:Nat):
  FSpec Tryz.prog w0 145 #[.agg (encRx m).toArray, .slice q names.length c, .int .i64 (a:Int)] H (Still (.bool (takR m names a)) H):=by
 refine Ap Tryz.func145 U ntmps145 U (rD tb 2 U (e_ (Lt U cs_) ?_ U));rintro _ _ ⟨n3,rfl,rfl⟩;refine rO tb 4 U (Bg 19 [(0,true),(1,true),(2,true),(3,true),(4,true),(5,true),(6,true),(7,true),(8,true),(9,true),(10,true),(11,true),(12,true),(13,true),(14,true),(15,true),(16,true),(17,true),(18,true)] _ mixd qkr sb0 ?_ A7);refine rP tb 1 U (o_y U (Lo U isAgg3 qco) ?_ U Ac);refine rP tb 2 U ?_;refine B4 (s:=10) (Aa U) (fun c10=> ?_) (fun c10=> ?_)
 ·refine rP tb 15 U (A5 U (rO tb 3 U (Ai U (Ll U) (⟨_,⟨vbool ?_,rfl⟩,sbt⟩))));unfold takR
  (rw[decide_eq_true c10];rfl)
 ·refine rP tb 5 U ?_;refine B4 (s:=15) (Aa U) (fun c15=> ?_) (fun c15=> ?_)
  ·refine rP tb 1 U (o_y U (Lo U isAgg9 qco) ?_ U (Az U U (Aa U)));refine rP tb 2 U (o_y U (Lq U U runUnderlying64 sizeOf9 qom (by first|exact rfl|exact hA.b (i:=a) qom)) ?_ U (Az U U (Aa U)));refine o_y U (Lo U isAgg9 (by first|exact c_o|exact cell1 ((hA.mono sbt).cs (i:=a) qom))) ?_ U (Az U U (Aa U));refine o_y U (Cb (T U) (T U)) (rP tb 3 U (A5 U (rO tb 3 U (Ai U (Ll U) (⟨_,⟨vbool ?_,rfl⟩,sbt⟩))))) U (Az U U (Aa U));unfold takR
   first|(rw[decide_eq_true c10];rfl)|(rw[decide_eq_false c10,decide_eq_true (show a<names.length by omega),Bool.false_or,Bool.true_and];exact decide_eq_decide.2 ⟨fun h=>Df h,fun h=>by rw[h]⟩)
  ·refine rP tb 10 U (A5 U (rO tb 3 U (Ai U (Ll U) (⟨_,⟨vbool ?_,rfl⟩,sbt⟩))));unfold takR
   first|(rw[decide_eq_true c10];rfl)|(rw[decide_eq_false c10,decide_eq_true (show a<names.length by omega),Bool.false_or,Bool.true_and];exact decide_eq_decide.2 ⟨fun h=>Df h,fun h=>by rw[h]⟩)|(rw[decide_eq_false c10,decide_eq_false (show ¬ a<names.length by omega)];rfl)
def nameF (s:ByteArray):List ByteArray→List ByteArray
 |[]=>[s]
 |x::l=>if toL x<toL s then x::nameF s l else if x=s then x::l else s::x::l
theorem E7 {s:ByteArray}:∀ {l:List ByteArray} {k:Nat},k<l.length→(∀ j,j<k→toL (gd l j)<toL s)→gd l k=s→nameF s l=l
 |[],k,h,_,_=>by simp at h
 |x::l,0,_,_,h=>by
  have h:x=s:=h;subst h;unfold nameF;rw[if_neg (List.lt_irrefl _),if_pos rfl]
 |x::l,k+1,h,hj,hk=>by
  have h0:toL x<toL s:=hj 0 qom;unfold nameF;rw[if_pos h0,E7 (k:=k) (by simpa using h) (fun j hj2=>hj (j+1) qom) hk]
theorem G8 {s:ByteArray}:∀ {l:List ByteArray} {k:Nat},k≤l.length→(∀ j,j<k→toL (gd l j)<toL s)→(k<l.length→¬ toL (gd l k)<toL s∧¬ gd l k=s)→nameF s l=l.take k++[s]++l.drop k
 |[],0,_,_,_=>rfl
 |x::l,0,_,_,h=>by
  have h: ¬ toL x<toL s∧¬ x=s:=h (by simp);unfold nameF;rw[if_neg h.1,if_neg h.2];rfl
 |x::l,k+1,h,hj,hk=>by
  have h0:toL x<toL s:=hj 0 qom;unfold nameF;rw[if_pos h0,G8 (k:=k) (by simpa using h) (fun j hj2=>hj (j+1) qom) fun h2=>hk (by simpa using h2)];simp
theorem nameF_len (s:ByteArray):∀ l:List ByteArray,(nameF s l).length≤l.length+1
 |[]=>by simp[nameF]
 |x::l=>by
  have:=nameF_len s l;unfold nameF;split
  ·simp only[List.length_cons];omega
  ·split<;>simp
theorem name_r {w0:World}{H:List (Nat × Obj)}(l:List ByteArray)(q:Option Addr)(c:Nat)(hA:Arr w0 H q 1 encS l)(hc:l.length≤c)(hl:l.length≤100000)(s:ByteArray):
  FSpec Tryz.prog w0 178 #[.slice q l.length c, .string s] H (fun v H'=>∃ (q':Option Addr) (c':Nat) (M:List (Nat × Obj)),(v= .slice q' (nameF s l).length c'∧(nameF s l).length≤c'∧∀ X,Arr w0 X q 1 encS l→Arr w0 (M++X) q' 1 encS (nameF s l))∧H'=M++H):=by
 refine Ap Tryz.func178 U ntmps178 U (rD tb 12 U ?_);refine Bb (X:=Nat) (V:=fun k=>[(5, .int .i64 (k:Nat))]) (C:=[(0,_),(1,_)]) (φ:=fun k=>k≤l.length∧∀ j,j<k→toL (gd l j)<toL s) (μ:=fun k=>l.length - k) (x0:=0) ?_ ⟨Aa U,Aa U,trivial⟩ ⟨qat,trivial⟩ ?_
 ·exact⟨Nat.zero_le _,fun j hj=>by omega⟩
 rintro k ⟨hk,hlt⟩;refine rD tb 8 U ?_;refine A4 (s:=11) (Aa U) (fun c11=> ?_) (fun c11=> ?_)
 ·refine rO tb 2 U (A6 (Lq U U runUnderlying64 sizeOf9 qom (by first|exact rfl|exact hA.b (i:=k) qom)) U (Az U U (Aa U)) ?_);refine A6 (Lo U isAgg9 (by first|exact c_o|exact cell1 ((hA.mono sbt).cs (i:=k) qom))) U (Az U U (Aa U)) ?_;refine rO tb 1 U (A6 (yl_ltS (T U) (T U)) U (Az U U (Aa U)) (rO tb 3 U ?_));refine Ae (Aa U) (fun c18=> ?_) (fun c18=> ?_)
  ·refine rC tb 5 U (y_ (Aq (T U) Ao qom) ?_ U);refine rO tb 3 U ?_;refine An (k+1) ?_ ?_ ⟨qat,trivial⟩ ⟨Aa U,Aa U,trivial⟩ ?_
   ·refine⟨by omega,fun j hj=> ?_⟩
    by_cases e:j=k
    ·subst e;exact c18
    ·exact hlt j qom
   ·omega
   ·exact sbt
  ·refine rC tb 2 U (Af (rX tb 10 U ?_));refine A4 (s:=25) (Aa U) (fun c25=> ?_) (fun c25=> ?_)
   ·refine rO tb 2 U (A6 (Lq U U runUnderlying64 sizeOf9 qom (by first|exact rfl|exact hA.b (i:=k) qom)) U (Az U U (Aa U)) ?_);refine A6 (Lo U isAgg9 (by first|exact c_o|exact cell1 ((hA.mono sbt).cs (i:=k) qom))) U (Az U U (Aa U)) ?_;refine rO tb 1 U (A6 (Cb (T U) (T U)) U (Az U U (Aa U)) (rO tb 3 U ?_));refine Ae (Aa U) (fun c32=> ?_) (fun c32=> ?_)
    ·refine rC tb 8 U (Ai U (Ll U) ?_)
     (have hp:nameF s l=l:=E7 (k:=k) qom hlt (Df c32);exact⟨_,⟨q,c,[],⟨by rw[hp];rfl,by rw[hp];exact hc,fun X hX=>by rw[hp];exact hX⟩,rfl⟩,sbt⟩)
    ·refine rC tb 12 U (y_ (Cv  (T U) (T U) runUnderlying64 sizeOf9 qom) ?_ U);refine e_ (Ce (l.take k) (by':=16) (by exact(by simp;omega)) (T U) (T U) runUnderlying64 runUnderlying64 sizeOf9 typeInfo9 U zeroValue9 U (fun _=>rfl) (fun _=>rfl) qde (by simp;omega) ((hA.mono sbt).take k)) ?_ U;rintro _ _ ⟨d1,rfl,hd1,rfl⟩;refine kO tb 3 [0,1,5,6] rfl U (rG tb 4 U (e_ (Ah (.cons (T U) .nil) (Cj _)) ?_ U));rintro _ _ ⟨n41,rfl,rfl⟩;refine e_ (A9 (s) (by':=16) (enc:=encS) qlc (T U) (T U) runUnderlying64 runUnderlying64 sizeOf9 typeInfo9 U zeroValue9 U (fun _=>rfl) U hd1 qde (by simp;omega)) ?_ U;rintro _ _ ⟨d2,rfl,hd2,rfl⟩;refine rO tb 8 U (y_ (Ch  (T U) (T U) runUnderlying64 sizeOf9 qom) ?_ U);refine e_ (Ck (l.drop k) (by':=16) (enc:=encS) (by exact(by simp)) qlc (T U) (T U) runUnderlying64 runUnderlying64 sizeOf9 typeInfo9 U zeroValue9 U (fun _=>rfl) (fun _=>rfl) hd2 qde (by simp;omega) ((hA.mono sbt).drop hc k)) ?_ U;rintro _ _ ⟨d3,rfl,hd3,rfl⟩;refine rO tb 4 U (Ai U (Ll U) ?_)
     first|(have hp:nameF s l=l:=E7 (k:=k) qom hlt (Df c32);exact⟨_,⟨q,c,[],⟨by rw[hp];rfl,by rw[hp];exact hc,fun X hX=>by rw[hp];exact hX⟩,rfl⟩,sbt⟩)|(have hp:nameF s l=l.take k++[s]++l.drop k:=G8 qom hlt (fun h=>⟨by exact c18,fun e=>by exact c32 (by rw[e])⟩);exact⟨_,⟨slQ d3,slC d3,slH d3 ((l.take k++[s]++l.drop k).flatMap encS) 9,⟨by rw[hp];rfl,by rw[hp];exact G7 hd3,fun X _=>by rw[hp];exact Av (fun _=>rfl) hd3⟩,rfl⟩,sbt⟩)
   ·refine rO tb 22 U (y_ (Cv  (T U) (T U) runUnderlying64 sizeOf9 qom) ?_ U);refine e_ (Ce (l.take k) (by':=16) (by exact(by simp;omega)) (T U) (T U) runUnderlying64 runUnderlying64 sizeOf9 typeInfo9 U zeroValue9 U (fun _=>rfl) (fun _=>rfl) qde (by simp;omega) ((hA.mono sbt).take k)) ?_ U;rintro _ _ ⟨d1,rfl,hd1,rfl⟩;refine kO tb 3 [0,1,5,6] rfl U (rG tb 4 U (e_ (Ah (.cons (T U) .nil) (Cj _)) ?_ U));rintro _ _ ⟨n41,rfl,rfl⟩;refine e_ (A9 (s) (by':=16) (enc:=encS) qlc (T U) (T U) runUnderlying64 runUnderlying64 sizeOf9 typeInfo9 U zeroValue9 U (fun _=>rfl) U hd1 qde (by simp;omega)) ?_ U;rintro _ _ ⟨d2,rfl,hd2,rfl⟩;refine rO tb 8 U (y_ (Ch  (T U) (T U) runUnderlying64 sizeOf9 qom) ?_ U);refine e_ (Ck (l.drop k) (by':=16) (enc:=encS) (by exact(by simp)) qlc (T U) (T U) runUnderlying64 runUnderlying64 sizeOf9 typeInfo9 U zeroValue9 U (fun _=>rfl) (fun _=>rfl) hd2 qde (by simp;omega) ((hA.mono sbt).drop hc k)) ?_ U;rintro _ _ ⟨d3,rfl,hd3,rfl⟩;refine rO tb 4 U (Ai U (Ll U) ?_)
    first|(have hp:nameF s l=l:=E7 (k:=k) qom hlt (Df c32);exact⟨_,⟨q,c,[],⟨by rw[hp];rfl,by rw[hp];exact hc,fun X hX=>by rw[hp];exact hX⟩,rfl⟩,sbt⟩)|(have hp:nameF s l=l.take k++[s]++l.drop k:=G8 qom hlt (fun h=>⟨by exact c18,fun e=>by first|exact c32 (by rw[e])|(exfalso;omega)⟩);exact⟨_,⟨slQ d3,slC d3,slH d3 ((l.take k++[s]++l.drop k).flatMap encS) 9,⟨by rw[hp];rfl,by rw[hp];exact G7 hd3,fun X _=>by rw[hp];exact Av (fun _=>rfl) hd3⟩,rfl⟩,sbt⟩)
 ·refine rO tb 12 U (Af (rX tb 10 U ?_));refine A4 (s:=25) (Aa U) (fun c25=> ?_) (fun c25=> ?_)
  ·refine rO tb 2 U (A6 (Lq U U runUnderlying64 sizeOf9 qom (by first|exact rfl|exact hA.b (i:=k) qom)) U (Az U U (Aa U)) ?_);refine A6 (Lo U isAgg9 (by first|exact c_o|exact cell1 ((hA.mono sbt).cs (i:=k) qom))) U (Az U U (Aa U)) ?_;refine rO tb 1 U (A6 (Cb (T U) (T U)) U (Az U U (Aa U)) (rO tb 3 U ?_));refine Ae (Aa U) (fun c32=> ?_) (fun c32=> ?_)
   ·refine rC tb 8 U (Ai U (Ll U) ?_)
    (have hp:nameF s l=l:=E7 (k:=k) qom hlt (Df c32);exact⟨_,⟨q,c,[],⟨by rw[hp];rfl,by rw[hp];exact hc,fun X hX=>by rw[hp];exact hX⟩,rfl⟩,sbt⟩)
   ·refine rC tb 12 U (y_ (Cv  (T U) (T U) runUnderlying64 sizeOf9 qom) ?_ U);refine e_ (Ce (l.take k) (by':=16) (by exact(by simp;omega)) (T U) (T U) runUnderlying64 runUnderlying64 sizeOf9 typeInfo9 U zeroValue9 U (fun _=>rfl) (fun _=>rfl) qde (by simp;omega) ((hA.mono sbt).take k)) ?_ U;rintro _ _ ⟨d1,rfl,hd1,rfl⟩;refine kO tb 3 [0,1,5,6] rfl U (rG tb 4 U (e_ (Ah (.cons (T U) .nil) (Cj _)) ?_ U));rintro _ _ ⟨n41,rfl,rfl⟩;refine e_ (A9 (s) (by':=16) (enc:=encS) qlc (T U) (T U) runUnderlying64 runUnderlying64 sizeOf9 typeInfo9 U zeroValue9 U (fun _=>rfl) U hd1 qde (by simp;omega)) ?_ U;rintro _ _ ⟨d2,rfl,hd2,rfl⟩;refine rO tb 8 U (y_ (Ch  (T U) (T U) runUnderlying64 sizeOf9 qom) ?_ U);refine e_ (Ck (l.drop k) (by':=16) (enc:=encS) (by exact(by simp)) qlc (T U) (T U) runUnderlying64 runUnderlying64 sizeOf9 typeInfo9 U zeroValue9 U (fun _=>rfl) (fun _=>rfl) hd2 qde (by simp;omega) ((hA.mono sbt).drop hc k)) ?_ U;rintro _ _ ⟨d3,rfl,hd3,rfl⟩;refine rO tb 4 U (Ai U (Ll U) ?_)
    first|(have hp:nameF s l=l:=E7 (k:=k) qom hlt (Df c32);exact⟨_,⟨q,c,[],⟨by rw[hp];rfl,by rw[hp];exact hc,fun X hX=>by rw[hp];exact hX⟩,rfl⟩,sbt⟩)|(have hp:nameF s l=l.take k++[s]++l.drop k:=G8 qom hlt (fun h=>⟨by first|exact c18|(exfalso;omega),fun e=>by exact c32 (by rw[e])⟩);exact⟨_,⟨slQ d3,slC d3,slH d3 ((l.take k++[s]++l.drop k).flatMap encS) 9,⟨by rw[hp];rfl,by rw[hp];exact G7 hd3,fun X _=>by rw[hp];exact Av (fun _=>rfl) hd3⟩,rfl⟩,sbt⟩)
  ·refine rO tb 22 U (y_ (Cv  (T U) (T U) runUnderlying64 sizeOf9 qom) ?_ U);refine e_ (Ce (l.take k) (by':=16) (by exact(by simp;omega)) (T U) (T U) runUnderlying64 runUnderlying64 sizeOf9 typeInfo9 U zeroValue9 U (fun _=>rfl) (fun _=>rfl) qde (by simp;omega) ((hA.mono sbt).take k)) ?_ U;rintro _ _ ⟨d1,rfl,hd1,rfl⟩;refine kO tb 3 [0,1,5,6] rfl U (rG tb 4 U (e_ (Ah (.cons (T U) .nil) (Cj _)) ?_ U));rintro _ _ ⟨n41,rfl,rfl⟩;refine e_ (A9 (s) (by':=16) (enc:=encS) qlc (T U) (T U) runUnderlying64 runUnderlying64 sizeOf9 typeInfo9 U zeroValue9 U (fun _=>rfl) U hd1 qde (by simp;omega)) ?_ U;rintro _ _ ⟨d2,rfl,hd2,rfl⟩;refine rO tb 8 U (y_ (Ch  (T U) (T U) runUnderlying64 sizeOf9 qom) ?_ U);refine e_ (Ck (l.drop k) (by':=16) (enc:=encS) (by exact(by simp)) qlc (T U) (T U) runUnderlying64 runUnderlying64 sizeOf9 typeInfo9 U zeroValue9 U (fun _=>rfl) (fun _=>rfl) hd2 qde (by simp;omega) ((hA.mono sbt).drop hc k)) ?_ U;rintro _ _ ⟨d3,rfl,hd3,rfl⟩;refine rO tb 4 U (Ai U (Ll U) ?_)
   first|(have hp:nameF s l=l:=E7 (k:=k) qom hlt (Df c32);exact⟨_,⟨q,c,[],⟨by rw[hp];rfl,by rw[hp];exact hc,fun X hX=>by rw[hp];exact hX⟩,rfl⟩,sbt⟩)|(have hp:nameF s l=l.take k++[s]++l.drop k:=G8 qom hlt (fun h=>⟨by first|exact c18|(exfalso;omega),fun e=>by first|exact c32 (by rw[e])|(exfalso;omega)⟩);exact⟨_,⟨slQ d3,slC d3,slH d3 ((l.take k++[s]++l.drop k).flatMap encS) 9,⟨by rw[hp];rfl,by rw[hp];exact G7 hd3,fun X _=>by rw[hp];exact Av (fun _=>rfl) hd3⟩,rfl⟩,sbt⟩)
mutual
def ntR:Rxm→List ByteArray→List ByteArray
 | .mk k s _ _ xs,l=>ntL xs (if k=2 then nameF s l else l)
def ntL:List Rxm→List ByteArray→List ByteArray
 |[],l=>l
 |x::xs,l=>ntL xs (ntR x l)
end
theorem ntR_eq (m:Rxm)(l:List ByteArray):ntR m l=ntL m.args (if m.kind=2 then nameF m.node l else l):=by cases m;rfl
theorem ntL_app:∀ (a b:List Rxm) (l:List ByteArray),ntL (a++b) l=ntL b (ntL a l)
 |[],b,l=>rfl
 |x::a,b,l=>by simp only[List.cons_append,ntL];exact ntL_app a b _
theorem ntL_take {xs:List Rxm}{i:Nat}(h:i<xs.length)(l:List ByteArray):ntL (xs.take (i+1)) l=ntR (gd xs i) (ntL (xs.take i) l):=by
 rw[Cf h,ntL_app];rfl
theorem ntR_len:∀ (m:Rxm) (l:List ByteArray),(ntR m l).length≤l.length+m.sz:=Gi (Q:=fun m=>∀ l:List ByteArray,(ntR m l).length≤l.length+m.sz) fun m ih l=>by
 have key:∀ (xs:List Rxm),(∀ a∈xs,a∈m.args)→∀ l:List ByteArray,(ntL xs l).length≤l.length+szL xs:=fun xs=>by
  induction xs with
  |nil=>intro _ l;exact Nat.le_refl _
  |cons x xs ih2=>
   intro hm l;have h1:=ih2 (fun a ha=>hm a (by simp[ha])) (ntR x l);have h2:=ih x (hm x (by simp)) l;simp only[ntL,szL];omega
 rw[ntR_eq,Fj];have h1:=key m.args (fun a h=>h) (if m.kind=2 then nameF m.node l else l);have h2:(if m.kind=2 then nameF m.node l else l).length≤l.length+1:=by
  split
  ·exact nameF_len _ _
  ·omega
 omega
def LtS (w0:World) (m:Rxm):Prop:=∀ (H:List (Nat × Obj)) (l:List ByteArray) (q:Option Addr) (c:Nat),Arr w0 H q 1 encS l→l.length≤c→RxM w0 H m→l.length+m.sz≤100000→FSpec Tryz.prog w0 144 #[.slice q l.length c, .agg (encRx m).toArray] H (fun v H'=>∃ (q':Option Addr) (c':Nat) (M:List (Nat × Obj)),(v= .slice q' (ntR m l).length c'∧(ntR m l).length≤c'∧∀ X,Arr w0 X q 1 encS l→Arr w0 (M++X) q' 1 encS (ntR m l))∧H'=M++H)
theorem lt_step {w0:World}{H:List (Nat × Obj)}(m:Rxm)(ih:∀ a∈m.args,LtS w0 a)(l:List ByteArray)(q:Option Addr)(c:Nat)(hA:Arr w0 H q 1 encS l)(hc:l.length≤c)(hM:RxM w0 H m)(hz:l.length+m.sz≤100000):
  FSpec Tryz.prog w0 144 #[.slice q l.length c, .agg (encRx m).toArray] H (fun v H'=>∃ (q':Option Addr) (c':Nat) (M:List (Nat × Obj)),(v= .slice q' (ntR m l).length c'∧(ntR m l).length≤c'∧∀ X,Arr w0 X q 1 encS l→Arr w0 (M++X) q' 1 encS (ntR m l))∧H'=M++H):=by
 refine Ap Tryz.func144 U ntmps144 U ?_;have hse:=Fj m;have hln:=Fk m.args;have hX:=hM.arr;have h0l:(if m.kind=2 then nameF m.node l else l).length≤l.length+1:=by
  split
  ·exact nameF_len _ _
  ·omega
 have hkey:∀ i,i≤m.args.length→(ntL (m.args.take i) (if m.kind=2 then nameF m.node l else l)).length≤l.length+1+szL (m.args.take i):=fun i=>by
  induction i with
  |zero=>intro _;simpa[ntL,szL] using h0l
  |succ i ih2=>
   intro h;have h1:=ih2 qom;have h2:=ntR_len (gd m.args i) (ntL (m.args.take i) (if m.kind=2 then nameF m.node l else l));rw[ntL_take qom,Dv qom];omega
 refine rD tb 2 U (e_ (Lt U cs_) ?_ U);rintro _ _ ⟨n3,rfl,rfl⟩;refine rO tb 3 U ?_;refine Dp (X:=Option Addr × Nat × List (Nat × Obj)) (V:=fun ⟨g1,g2,g3⟩=>[(0, .slice g1 (if m.kind=2 then nameF m.node l else l).length g2)]) (C:=[(3,_)]) (G:=fun ⟨g1,g2,g3⟩=>g3++((n3,Cl (encRx m) 56)::H)) (φ:=fun ⟨g1,g2,g3⟩=>(if m.kind=2 then nameF m.node l else l).length≤g2∧∀ X,Arr w0 X q 1 encS l→Arr w0 (g3++X) g1 1 encS (if m.kind=2 then nameF m.node l else l)) ⟨Aa rfl,trivial⟩ ?_ ?_
 ·refine rD tb 3 U (y_ (Lo U isAgg3 qco) ?_ U);refine rO tb 3 U ?_;refine Ae (Aa U) (fun c8=> ?_) (fun c8=> ?_)
  ·have h0e:(if m.kind=2 then nameF m.node l else l)=nameF m.node l:=if_pos c8;refine rC tb 3 U (y_ (Lo U isAgg9 qco) ?_ U);refine e_ (Am (qe2 U U) call178 (name_r l q c (hA.mono sbt) hc qom m.node)) ?_ U;rintro _ _ ⟨q2,c2,M2,⟨rfl,hc2,hA2⟩,rfl⟩;refine rO tb 2 U ?_;refine Bd ((q2,c2,M2)) ?_ ⟨(by first|exact Aa U|(refine Bf (Aa U) (vint ?_);omega)|(refine Bf (Aa U) ?_;simp;done)|(refine Bf (Aa U) ?_;exact by rw[hlt])|(refine Bf (Aa U) ?_;exact by simp only[h0e])),trivial⟩ ⟨Aa U,trivial⟩ sbt;exact⟨by rw[h0e];exact hc2,fun X hX=>by rw[h0e];exact hA2 X hX⟩
  ·have h0e:(if m.kind=2 then nameF m.node l else l)=l:=if_neg c8;refine rC tb 1 U ?_;refine Bd ((q,c,[])) ?_ ⟨(by first|exact Aa U|(refine Bf (Aa U) (vint ?_);omega)|(refine Bf (Aa U) ?_;simp;done)|(refine Bf (Aa U) ?_;exact by rw[hlt])|(refine Bf (Aa U) ?_;exact by simp only[h0e])),trivial⟩ ⟨Aa U,trivial⟩ sbt
   first|exact⟨by rw[h0e];exact hc2,fun X hX=>by rw[h0e];exact hA2 X hX⟩|exact⟨by rw[h0e];exact hc,fun X hX=>by rw[h0e];exact hX⟩
 rintro⟨g1,g2,g3⟩ ⟨hg1,hg2⟩;refine rC tb 7 U ?_;refine Ba (X:=Nat × Option Addr × Nat × List (Nat × Obj)) (V:=fun ⟨i,q1,c1,M⟩=>[(5, .int .i64 (i:Nat)),(0, .slice q1 (ntL (m.args.take i) (if m.kind=2 then nameF m.node l else l)).length c1)]) (C:=[(3,_)]) (G:=fun ⟨i,q1,c1,M⟩=>M++((n3,Cl (encRx m) 56)::H)) (φ:=fun ⟨i,q1,c1,M⟩=>i≤m.args.length∧(ntL (m.args.take i) (if m.kind=2 then nameF m.node l else l)).length≤c1∧∀ X,Arr w0 X q 1 encS l→Arr w0 (M++X) q1 1 encS (ntL (m.args.take i) (if m.kind=2 then nameF m.node l else l))) (μ:=fun ⟨i,q1,c1,M⟩=>m.args.length - i) (x0:=(0,g1,g2,g3)) ?_ ⟨Aa rfl,trivial⟩ ⟨qat,qat,trivial⟩ sb0 ?_
 ·exact⟨Nat.zero_le _,hg1,hg2⟩
 rintro⟨i,q1,c1,M⟩ ⟨hi,hc1,hA1⟩;refine rD tb 5 U (y_ (Lo U isAgg54 qco) ?_ U);refine rO tb 4 U ?_;refine Ae (Aa U) (fun c17=> ?_) (fun c17=> ?_)
 ·refine rC tb 7 U (y_ (Lo U isAgg54 qco) ?_ U);refine rO tb 1 U (y_ (Lq U U runUnderlying54 sizeOf56 qom (by first|exact rfl|exact hX.b (i:=i) qom)) ?_ U);refine y_ (Lp U isAgg56 sizeOf56 U (by exact(hX.mono sbt).cs (i:=i) qom)) ?_ U;refine e_ (Am (qe2 U U) call144 (ih _ (Ag qom) _ _ q1 c1 ((hA1 _ hA).mono sbt) hc1 ((hM.arg (Ag (i:=i) qom)).mono sbt) (by have h1:=hkey i qom;have h2:=D2 m.args (i+1);rw[Dv qom] at h2;omega))) ?_ U;rintro _ _ ⟨q2,c2,M2,⟨rfl,hc2,hA2⟩,rfl⟩;refine rO tb 6 U (y_ (Aq (T U) Ao qom) ?_ U);refine rO tb 2 U ?_;have hlt:=ntL_take (xs:=m.args) (i:=i) qom (if m.kind=2 then nameF m.node l else l);refine An ((i+1,q2,c2,M2++M)) ?_ ?_ ⟨qat,(by first|exact Aa U|(refine Bf (Aa U) (vint ?_);omega)|(refine Bf (Aa U) ?_;simp;done)|(refine Bf (Aa U) ?_;exact by rw[hlt])),trivial⟩ ⟨Aa U,trivial⟩ ?_
  ·exact⟨by omega,by rw[hlt];exact hc2,fun X hX=>by rw[hlt,List.append_assoc];exact hA2 _ (hA1 X hX)⟩
  ·first|omega|(simp only[];omega)
  ·show (M2++M++_).Sublist _;rw[List.append_assoc];exact sbt
 ·refine rC tb 2 U (Af (rX tb 9 U (Ai U (Ll U) ?_)));have hi2:m.args.take i=m.args:=List.take_of_length_le qom;rw[hi2] at hc1 hA1 ⊢;rw[ntR_eq];exact⟨_,⟨q1,c1,M,⟨rfl,hc1,hA1⟩,rfl⟩,sbt⟩
theorem lt_s {w0:World}:∀ m:Rxm,LtS w0 m:=Gi (Q:=LtS w0) fun m ih H l q c hA hc hM hz=>lt_step m ih l q c hA hc hM hz
def Srn (n:Nat) (l:List Nat):Prop:=l.Pairwise (· < ·)∧∀ x∈l,x<n
theorem Srn.nil {n:Nat}:Srn n []:=⟨.nil,fun x hx=>by cases hx⟩
theorem Srn.le {n m:Nat}{l:List Nat}(h:Srn n l)(hm:n≤m):Srn m l:=⟨h.1,fun x hx=>Nat.lt_of_lt_of_le (h.2 x hx) hm⟩
theorem Srn.len {n:Nat}{l:List Nat}(h:Srn n l):l.length≤n:=by
 have h1:l.Nodup:=h.1.imp fun h=>Nat.ne_of_lt h
 have:=Fx h1 (l':=List.range n) fun s hs=>List.mem_range.2 (h.2 s hs)
 simpa using this
theorem mem_putF {n x:Nat}:∀ {l:List Nat},x∈putF n l↔x=n∨x∈l
 |[]=>by simp[putF]
 |y::l=>by
  have ih:=mem_putF (n:=n) (x:=x) (l:=l);unfold putF
  split
  ·simp only[List.mem_cons,ih]
   constructor
   ·rintro(h|h|h)
    ·exact .inr (.inl h)
    ·exact .inl h
    ·exact .inr (.inr h)
   ·rintro(h|h|h)
    ·exact .inr (.inl h)
    ·exact .inl h
    ·exact .inr (.inr h)
  ·split
   ·rename_i h;subst h;simp only[List.mem_cons]
    constructor
    ·exact fun h=> .inr h
    ·rintro(h|h)
     ·exact .inl h
     ·exact h
   ·simp only[List.mem_cons]
theorem putF_srt {n:Nat}:∀ {l:List Nat},l.Pairwise (· < ·)→(putF n l).Pairwise (· < ·)
 |[],_=>by simp[putF]
 |y::l,h=>by
  rw[List.pairwise_cons] at h;unfold putF
  split
  ·rename_i h0;rw[List.pairwise_cons];refine⟨fun x hx=> ?_,putF_srt h.2⟩;rcases mem_putF.1 hx with e|e
   ·subst e;exact h0
   ·exact h.1 x e
  ·split
   ·rw[List.pairwise_cons];exact h
   ·rename_i h0 h1;rw[List.pairwise_cons];refine⟨fun x hx=> ?_,by rw[List.pairwise_cons];exact h⟩;rcases List.mem_cons.1 hx with e|e
    ·subst e;omega
    ·have:=h.1 x e;omega
theorem mem_mergeF {x:Nat}:∀ {b a:List Nat},x∈mergeF a b↔x∈a∨x∈b
 |[],a=>by simp[mergeF]
 |y::b,a=>by
  have ih:=mem_mergeF (x:=x) (b:=b) (a:=putF y a);have e:mergeF a (y::b)=mergeF (putF y a) b:=rfl;rw[e,ih,mem_putF,List.mem_cons]
  constructor
  ·rintro((h|h)|h)
   ·exact .inr (.inl h)
   ·exact .inl h
   ·exact .inr (.inr h)
  ·rintro(h|h|h)
   ·exact .inl (.inr h)
   ·exact .inl (.inl h)
   ·exact .inr h
theorem mergeF_srt:∀ {b a:List Nat},a.Pairwise (· < ·)→(mergeF a b).Pairwise (· < ·)
 |[],_,h=>h
 |y::b,a,h=>mergeF_srt (b:=b) (putF_srt h)
theorem Srn.merge {n:Nat}{a b:List Nat}(ha:Srn n a)(hb:Srn n b):Srn n (mergeF a b):=⟨mergeF_srt ha.1,fun x hx=>(mem_mergeF.1 hx).elim (ha.2 x) (hb.2 x)⟩
structure PT where
 nms:List ByteArray
 fol:List (List Nat)
structure PE where
 first:List Nat
 last:List Nat
 emp:Bool
def leadP (fol:List (List Nat)) (fr to:List Nat):List (List Nat):=fr.foldl (fun f i=>f.set i (mergeF (gd f i) to)) fol
theorem leadP_take {fol:List (List Nat)}{fr to:List Nat}{i:Nat}(h:i<fr.length):leadP fol (fr.take (i+1)) to=(leadP fol (fr.take i) to).set (gd fr i) (mergeF (gd (leadP fol (fr.take i) to) (gd fr i)) to):=by
 unfold leadP;rw[Cf h];simp
theorem leadP_len (fr to:List Nat):∀ fol:List (List Nat),(leadP fol fr to).length=fol.length:=by
 unfold leadP
 induction fr with
 |nil=>intro fol;rfl
 |cons x fr ih=>intro fol;simp only[List.foldl_cons];rw[ih];simp
def readP:Re→PT→PT × PE
 | .emp,t=>(t,⟨[],[],true⟩)
 | .nod s,t=>(⟨t.nms++[s],t.fol++[[]]⟩,⟨[t.fol.length],[t.fol.length],false⟩)
 | .any,t=>(⟨t.nms++[⟨#[]⟩],t.fol++[[]]⟩,⟨[t.fol.length],[t.fol.length],false⟩)
 | .alt a b,t=>
  let x:=readP a t
  let y:=readP b x.1
  (y.1,⟨mergeF x.2.first y.2.first,mergeF x.2.last y.2.last,x.2.emp||y.2.emp⟩)
 | .seq a b,t=>
  let x:=readP a t
  let y:=readP b x.1
  (⟨y.1.nms,leadP y.1.fol x.2.last y.2.first⟩,⟨if x.2.emp then mergeF x.2.first y.2.first else x.2.first,if y.2.emp then mergeF y.2.last x.2.last else y.2.last,x.2.emp&&y.2.emp⟩)
 | .star a,t=>
  let x:=readP a t
  (⟨x.1.nms,leadP x.1.fol x.2.last x.2.first⟩,⟨x.2.first,x.2.last,true⟩)
structure LT where
 lv:List Rxm
 fol:List RowQ
def LT.pl (t:LT):PT:=⟨t.lv.map Rxm.node,t.fol.map RowQ.l⟩
def LfOk (m:Rxm):Prop:=(m.kind=2∧m.node.size≠0)∨(m.kind=3∧m.node=⟨#[]⟩)
structure LtOk (w0:World) (X:List (Nat × Obj)) (t:LT):Prop where
 len:t.fol.length=t.lv.length
 few:t.lv.length≤64
 lf:∀ m∈t.lv,LfOk m
 arr:∀ r∈t.fol,Arr w0 X r.q 1 encU r.l
 cap:∀ r∈t.fol,r.l.length≤r.c
 srt:∀ r∈t.fol,Srn t.lv.length r.l
theorem LtOk.mono {w0:World}{X Y:List (Nat × Obj)}{t:LT}(h:LtOk w0 X t)(hs:X.Sublist Y:=by exact sbt):LtOk w0 Y t:=⟨h.len,h.few,h.lf,fun r hr=>(h.arr r hr).mono hs,h.cap,h.srt⟩
def ltH (nt:Nat) (d1 d2:Sl) (t:LT):List (Nat × Obj):=(nt,Cl [slV d1 t.lv.length,slV d2 t.fol.length] 204)::(slH d1 (t.lv.flatMap encRx) 56++slH d2 (t.fol.flatMap encRQ) 27)
theorem Gl (nt:Nat)(d1 d2:Sl)(t:LT)(R:List (Nat × Obj)):ltH nt d1 d2 t++R=(nt,Cl [slV d1 t.lv.length,slV d2 t.fol.length] 204)::(slH d1 (t.lv.flatMap encRx) 56++(slH d2 (t.fol.flatMap encRQ) 27++R)):=by
 unfold ltH;rw[List.cons_append,List.append_assoc]
theorem LtOk.set {w0:World}{X Y:List (Nat × Obj)}{t:LT}(h:LtOk w0 X t){k:Nat}{r:RowQ}(hs:X.Sublist Y)(hA:Arr w0 Y r.q 1 encU r.l)(hc:r.l.length≤r.c)(hr:Srn t.lv.length r.l):LtOk w0 Y {t with fol:=t.fol.set k r}:=by
 have hm:∀ x∈t.fol.set k r,x∈t.fol∨x=r:=fun x hx=>List.mem_or_eq_of_mem_set hx
 refine⟨by simpa using h.len,h.few,h.lf,fun x hx=> ?_,fun x hx=> ?_,fun x hx=> ?_⟩
 ·rcases hm x hx with e|e
  ·exact(h.arr x e).mono hs
  ·subst e;exact hA
 ·rcases hm x hx with e|e
  ·exact h.cap x e
  ·subst e;exact hc
 ·rcases hm x hx with e|e
  ·exact h.srt x e
  ·subst e;exact hr
theorem lead_s {w0:World}{R:List (Nat × Obj)}(nt:Nat)(d1 d2:Sl)(t:LT)(hok2:SlOk d2 t.fol.length 1)(ht:LtOk w0 R t)(fr to:List Nat)(q1 q2:Option Addr)(c1 c2:Nat)(hA:Arr w0 R q1 1 encU fr)(hB:Arr w0 R q2 1 encU to)(hf:Srn t.lv.length fr)(hto:Srn t.lv.length to):
  FSpec Tryz.prog w0 177 #[.pointer (some ⟨nt,0,none⟩), .slice q1 fr.length c1, .slice q2 to.length c2] (ltH nt d1 d2 t++R) (fun _ H'=>∃ y:List RowQ × List (Nat × Obj),(y.1.map RowQ.l=leadP t.pl.fol fr to∧(∀ X,LtOk w0 X t→LtOk w0 (y.2++X) ⟨t.lv,y.1⟩)∧SlOk d2 y.1.length 1)∧H'=(y.2++ltH nt d1 d2 ⟨t.lv,y.1⟩)++R):=by
 rw[Gl];have hfl:=hf.len;have htl:=hto.len;have hfw:=ht.few;have hfn:=ht.len;refine Ap Tryz.func177 U ntmps177 U (rD tb 6 U ?_);refine Ba (X:=Nat × List RowQ × List (Nat × Obj)) (V:=fun ⟨i,fol1,M⟩=>[(6, .int .i64 (i:Nat))]) (C:=[(0,_),(1,_),(2,_)]) (G:=fun ⟨i,fol1,M⟩=>M++((nt,Cl [slV d1 t.lv.length,slV d2 fol1.length] 204)::(slH d1 (t.lv.flatMap encRx) 56++(slH d2 (fol1.flatMap encRQ) 27++R)))) (φ:=fun ⟨i,fol1,M⟩=>i≤fr.length∧fol1.map RowQ.l=leadP t.pl.fol (fr.take i) to∧(∀ X,LtOk w0 X t→LtOk w0 (M++X) ⟨t.lv,fol1⟩)∧SlOk d2 fol1.length 1) (μ:=fun ⟨i,fol1,M⟩=>fr.length - i) (x0:=(0,t.fol,[])) ?_ ⟨Aa rfl,Aa rfl,Aa rfl,trivial⟩ ⟨qat,trivial⟩ sb0 ?_
 ·exact⟨Nat.zero_le _,rfl,fun X hX=>hX,hok2⟩
 rintro⟨i,fol1,M⟩ ⟨hi,hfo,hx1,hd2⟩;have ht1:=hx1 R ht;have hf1:fol1.length=t.lv.length:=ht1.len;refine rD tb 9 U ?_;refine Ae (Aa U) (fun c10=> ?_) (fun c10=> ?_)
 ·have hfr:gd fr i<t.lv.length:=hf.2 _ (Ag qom);have hrl:=(ht1.srt _ (Ag (l:=fol1) (i:=gd fr i) qom)).len;have hrl2:(gd fol1 (gd fr i)).l.length≤t.lv.length:=hrl;refine rC tb 4 U (Bg 21 [(0,true),(1,true),(2,true),(3,true),(4,true),(5,true),(6,true),(7,true),(8,true),(9,true),(10,true),(11,true),(12,true),(13,true),(14,true),(15,true),(16,true),(17,true),(18,true),(19,false),(20,true)] _ mixd qkr sb0 ?_ A7);refine rP tb 3 U (o_y U (Lo U isAgg65 qco) ?_ U Ac);refine rP tb 2 U (o_y U (Lq U U runUnderlying27 sizeOf3 qom (by first|exact rfl|exact hA.b (i:=i) qom)) ?_ U Ac);refine o_y U (Lo U isAgg3 (by first|exact c_o|exact cell1 ((hA.mono sbt).cs (i:=i) qom))) ?_ U Ac;refine rP tb 3 U (o_y U (Lo U isAgg65 qco) ?_ U Ac);refine rP tb 2 U (o_y U (Lq U U runUnderlying27 sizeOf3 qom (by first|exact rfl|exact hA.b (i:=i) qom)) ?_ U Ac);refine o_y U (Lo U isAgg3 (by first|exact c_o|exact cell1 ((hA.mono sbt).cs (i:=i) qom))) ?_ U Ac;refine o_y U (Lq U U runUnderlying65 sizeOf27 qom (by first|exact rfl|exact hA.b (i:=i) qom|exact(Av (w0:=w0) (enc:=encRQ) (sz:=1) (e:=27) (X:=[]) (fun _=>rfl) hd2).b (i:=(gd fr i)) qom)) ?_ U Ac;refine o_y U (Lo U isAgg27 (by first|exact c_o|exact cell1 (((Av (w0:=w0) (enc:=encRQ) (sz:=1) (e:=27) (X:=R) (fun _=>rfl) hd2).mono sbt).cs (i:=(gd fr i)) qom))) ?_ U Ac;refine rP tb 1 U (o_e U (Am (qe2 U U) call171 (I8 (gd fol1 (gd fr i)).l (gd fol1 (gd fr i)).q (gd fol1 (gd fr i)).c ((ht1.arr _ (Ag (l:=fol1) qom)).mono sbt) (ht1.cap _ (Ag (l:=fol1) qom)) to q2 c2 (hB.mono sbt) qom)) ?_ U Ac);rintro _ _ ⟨q3,c3,M3,⟨rfl,hc3,hA3⟩,rfl⟩;refine⟨sbt,(o_y U (Lq U U runUnderlying65 sizeOf27 qom (by first|exact rfl|exact hA.b (i:=i) qom|exact(Av (w0:=w0) (enc:=encRQ) (sz:=1) (e:=27) (X:=[]) (fun _=>rfl) hd2).b (i:=(gd fr i)) qom)) ?_ U Ac)⟩;refine A5 U (e_ (Bx (l:=fol1) (e:=27) (enc:=encRQ) (sz:=1) (i:=(gd fr i)) (⟨q3,c3,mergeF (gd fol1 (gd fr i)).l to⟩:RowQ) (fun _=>rfl) qlc (T U) (T U) (.one U) U sizeOf27 qom hd2) ?_ U);rintro _ _ ⟨rfl,rfl⟩;refine kO tb 3 [0,1,2,6] rfl U (rG tb 2 U (y_ (Aq (T U) Ao qom) ?_ U));refine rO tb 2 U ?_;refine An ((i+1,fol1.set (gd fr i) ⟨q3,c3,mergeF (gd fol1 (gd fr i)).l to⟩,M3++M)) ?_ ?_ ⟨qat,trivial⟩ ⟨Aa U,Aa U,Aa U,trivial⟩ ?_
  ·refine⟨by omega,?_,?_,by simpa using hd2⟩
   ·rw[leadP_take qom,← hfo,List.map_set,Bv qom]
   ·exact fun X hX=>(hx1 X hX).set (r:=⟨q3,c3,mergeF (gd fol1 (gd fr i)).l to⟩) (by rw[List.append_assoc];exact List.sublist_append_right _ _) (by rw[List.append_assoc];exact hA3 _ ((hx1 X hX).arr _ (Ag (l:=fol1) qom))) hc3 (Srn.merge (ht1.srt _ (Ag (l:=fol1) (i:=gd fr i) qom)) hto)
  ·first|omega|(simp only[];omega)
  ·simp only[List.append_assoc,List.length_set];exact sbt
 ·refine rC tb 2 U (Af (rX tb 1 U (Cz U .nil ?_)));have he:fr.take i=fr:=List.take_of_length_le qom;rw[he] at hfo;exact⟨_,⟨(fol1,M),⟨hfo,hx1,hd2⟩,rfl⟩,by rw[List.append_assoc,Gl];exact sbt⟩
theorem Hr (a0:Option Addr)(a0n a0c:Nat)(a1:Option Addr)(a1n a1c:Nat)(w:World):(Instr.build 206 #[(0, .slice a0 a0n a0c),(1, .slice a1 a1n a1c)]).run Tryz.prog w= .ok (.agg #[.slice a0 a0n a0c, .slice a1 a1n a1c, .bool false]) w:=by kernel_rfl
theorem bd163_2 (a0:Bool)(w:World):(Instr.build 206 #[(2, .bool a0)]).run Tryz.prog w= .ok (.agg #[.slice none 0 0, .slice none 0 0, .bool a0]) w:=by kernel_rfl
structure EQ where
 pe:PE
 q1:Option Addr
 c1:Nat
 q2:Option Addr
 c2:Nat
abbrev encEQ (E:EQ):List Value:=[.slice E.q1 E.pe.first.length E.c1, .slice E.q2 E.pe.last.length E.c2, .bool E.pe.emp]
structure EqOk (w0:World) (X:List (Nat × Obj)) (n:Nat) (E:EQ):Prop where
 a1:Arr w0 X E.q1 1 encU E.pe.first
 a2:Arr w0 X E.q2 1 encU E.pe.last
 k1:E.pe.first.length≤E.c1
 k2:E.pe.last.length≤E.c2
 s1:Srn n E.pe.first
 s2:Srn n E.pe.last
theorem EqOk.mono {w0:World}{X Y:List (Nat × Obj)}{n m:Nat}{E:EQ}(h:EqOk w0 X n E)(hm:n≤m)(hs:X.Sublist Y:=by exact sbt):EqOk w0 Y m E:=⟨h.a1.mono hs,h.a2.mono hs,h.k1,h.k2,h.s1.le hm,h.s2.le hm⟩
structure RdOk (w0:World) (e:Re) (t t':LT) (E:EQ) (M:List (Nat × Obj)):Prop where
 pl:t'.pl=(readP e t.pl).1
 pe:E.pe=(readP e t.pl).2
 len:t'.lv.length=t.lv.length+e.lv
 ok:∀ X,LtOk w0 X t→LtOk w0 (M++X) t'∧EqOk w0 (M++X) t'.lv.length E
def ReadS (w0:World) (m:Rxm) (e:Re):Prop:=∀ (R:List (Nat × Obj)) (nt:Nat) (d1 d2:Sl) (t:LT),RxM w0 R m→SlOk d1 t.lv.length 3→SlOk d2 t.fol.length 1→LtOk w0 R t→t.lv.length+e.lv≤64→
  FSpec Tryz.prog w0 143 #[.pointer (some ⟨nt,0,none⟩), .agg (encRx m).toArray] (ltH nt d1 d2 t++R) (fun v H'=>∃ y:Sl × Sl × LT × EQ × List (Nat × Obj),(v= .agg (encEQ y.2.2.2.1).toArray∧SlOk y.1 y.2.2.1.lv.length 3∧SlOk y.2.1 y.2.2.1.fol.length 1∧RdOk w0 e t y.2.2.1 y.2.2.2.1 y.2.2.2.2)∧H'=(y.2.2.2.2++ltH nt y.1 y.2.1 y.2.2.1)++R)
theorem LtOk.push {w0:World}{X Y:List (Nat × Obj)}{t:LT}(h:LtOk w0 X t)(hs:X.Sublist Y)(hl:t.lv.length+1≤64){m:Rxm}(hm:LfOk m):LtOk w0 Y ⟨t.lv++[m],t.fol++[⟨none,0,[]⟩]⟩:=by
 refine⟨by simp[h.len],by simpa using hl,fun x hx=> ?_,fun r hr=> ?_,fun r hr=> ?_,fun r hr=> ?_⟩
 ·rcases List.mem_append.1 hx with e|e
  ·exact h.lf x e
  ·simp at e;subst e;exact hm
 ·rcases List.mem_append.1 hr with e|e
  ·exact(h.arr r e).mono hs
  ·simp at e;subst e;exact fun i x hi=>by cases hi
 ·rcases List.mem_append.1 hr with e|e
  ·exact h.cap r e
  ·simp at e;subst e;exact Nat.le_refl _
 ·rcases List.mem_append.1 hr with e|e
  ·exact(h.srt r e).le (by simp)
  ·simp at e;subst e;exact .nil
theorem Ja {α:Type}(l:List α)(a b:α):(l++[a]).set l.length b=l++[b]:=by simp
theorem Srn.one {k n:Nat}(h:k<n):Srn n [k]:=⟨by simp,by simpa using h⟩
theorem read_nod {w0:World}{q:Option Addr}{c:Nat}{s:ByteArray}(hs:s.size≠0):ReadS w0 (.mk 2 s q c []) (.nod s):=by
 intro R nt d1 d2 t hM hok1 hok2 ht hl;show FSpec Tryz.prog w0 143 #[.pointer (some ⟨nt,0,none⟩), .agg #[.int .i64 2, .string s, .slice q 0 c]] (ltH nt d1 d2 t++R) _;simp only[Re.lv] at hl;have hfew:=ht.few;have hlen:=ht.len;have hlf:LfOk (.mk 2 s q c []):= .inl ⟨rfl,hs⟩;rw[Gl];refine Ap Tryz.func143 U ntmps143 U (rD tb 2 U (e_ (Lt U cs_) ?_ U));rintro _ _ ⟨n3,rfl,rfl⟩;refine e_ (Aj zeroValue206 cs_) ?_ U;rintro _ _ ⟨n4,rfl,rfl⟩;refine rO tb 6 U (y_ (Lo U isAgg3 qco) ?_ U);refine rO tb 17 U ?_;refine Ae (Aa U) (fun c17=> ?_) (fun c17=> ?_)
 ·refine rC tb 2 U ?_;refine Cg (Aa U) ?_;refine rC tb 5 U (y_ (Lo U isAgg54 qco) ?_ U);refine rO tb 5 U (Jl 12 13 ((n4,Cl [.slice none 0 0, .slice none 0 0, .bool false] 206)::(n3,Cl [.int .i64 2, .string s, .slice q 0 c] 56)::R) ((n4,Cl [.slice none 0 0, .slice none 0 0, .bool false] 206)::(n3,Cl [.int .i64 2, .string s, .slice q 0 c] 56)::(nt,Cl [slV d1 t.lv.length,slV d2 t.fol.length] 204)::R) mixd qkr (by repeat (first|exact List.Sublist.refl _|apply List.Sublist.cons_cons|exact sbt)) (by repeat (first|exact List.Sublist.refl _|apply List.Sublist.cons_cons|exact sbt)) ?_ A7);refine Bw [0] qkr U (i:=0) U qkr (Bp (T U)) ?_ U Ac;refine Bw [1] qkr U (i:=1) U qkr (Bo (T U)) ?_ U Ac;refine Bw [2] qkr U (i:=2) U qkr (Dh (T U) Ik) ?_ U Ac;refine Bw [3] qkr U (i:=3) U qkr (Lo U isAgg54 qco) ?_ U Ac;refine Bw [4] qkr U (i:=4) U qkr (Lp U isAgg56 sizeOf56 U qcs) ?_ U Ac;refine Bw [5] qkr U (i:=5) U qkr (yl_len (T U) runUnderlying54) ?_ U Ac;refine B9 (i:=6) qkr qkr ?_;refine Dt U (Ah (.cons Ao .nil) (bs22_1_0 _ _ _ _ _)) ?_ U Ac qkr;rintro _ _ ⟨n31,rfl,rfl⟩;refine⟨sbt,(B9 (i:=7) qkr qkr ?_)⟩;refine Dt U (A9 ((default:Rxm)) (by':=48) (enc:=encRx) (l:=t.lv) qlc (T U) (T U) runUnderlying54 runUnderlying54 sizeOf56 typeInfo56 U zeroValue56 U (fun _=>rfl) U hok1 qde qom) ?_ U Ac qkr;rintro _ _ ⟨e1,rfl,ho1,rfl⟩;refine⟨sbt,(w_y (i:=8) U qkr (Bi (T U) (T U) runUnderlying54 sizeOf56 (by simp;omega) (by first|exact rfl|exact(Av (w0:=w0) (enc:=encRx) (sz:=3) (e:=56) (X:=[]) (l:=t.lv++[default]) (fun _=>rfl) ho1).b (i:=t.lv.length) (by simp))) ?_ U Ac)⟩;refine Bw [11,10] qkr U (i:=10) U qkr (Bo (T U)) ?_ U Ac;refine Bw [11] qkr U (i:=11) U qkr (Dh (T U) Ik) ?_ U Ac;refine Ko (i:=9) (j:=12) qkr qkr ?_ ?_
  ·refine Dt U (Bx (l:=t.lv++[default]) (e:=56) (enc:=encRx) (sz:=3) (i:=t.lv.length) (.mk 2 s q c []) (fun _=>rfl) qlc (T U) (T U) .agg U sizeOf56 (by simp) ho1) ?_ U Ac qkr;rintro _ _ ⟨rfl,rfl⟩;refine⟨sbt,(B9 (i:=12) qkr qkr ?_)⟩
   first|refine Db U (Ls U U sizeOf54) ?_ U Ac qkr|refine Db U (Bt (T U) (T U) U sizeOf54) ?_ U Ac qkr|refine Db U (Bl (T U) (T U) U sizeOf54) ?_ U Ac qkr
   rintro _ _ ⟨rfl,rfl⟩;refine⟨sbt,(Gr qkr U ?_)⟩;refine rO tb 8 U (y_ (Lo U isAgg65 qco) ?_ U);refine e_ (Ah (.cons Ao .nil) (C4 _ _ _)) ?_ U;rintro _ _ ⟨n41,rfl,rfl⟩;refine e_ (A9 ((⟨none,0,[]⟩:RowQ)) (by':=24) (enc:=encRQ) (l:=t.fol) qlc (T U) (T U) runUnderlying65 runUnderlying65 sizeOf27 typeInfo27 U zeroValue27 U (fun _=>rfl) U hok2 qde qom) ?_ U;rintro _ _ ⟨e2,rfl,ho2,rfl⟩;refine rO tb 2 U ?_
   first|refine A0 (Ls U U sizeOf65) U Ac ?_|refine A0 (Bt (T U) (T U) U sizeOf65) U Ac ?_|refine A0 (Bl (T U) (T U) U sizeOf65) U Ac ?_
   rintro _ _ ⟨rfl,rfl⟩;refine kO tb 2 [4,5] rfl U (rG tb 3 U (e_ (Ah (.cons (T U) .nil) (Bq _)) ?_ U));rintro _ _ ⟨n46,rfl,rfl⟩;refine rO tb 1 U (e_ (Ah (.cons (T U) .nil) (Bq _)) ?_ U);rintro _ _ ⟨n48,rfl,rfl⟩;refine y_ (Ay (.cons (T U) (.cons (T U) .nil)) (Hr _ _ _ _ _ _)) ?_ U;refine A0 (Ls U U sizeOf206) U Ac ?_;rintro _ _ ⟨rfl,rfl⟩;refine rO tb 5 U (Ai U (.cellA (Aa U) isAgg206 sizeOf206 U qcs .nil) ?_);refine⟨_,⟨(e1,e2,⟨t.lv++[.mk 2 s q c []],t.fol++[⟨none,0,[]⟩]⟩,⟨⟨[t.lv.length],[t.lv.length],false⟩,some ⟨n46,0,none⟩,1,some ⟨n48,0,none⟩,1⟩,[(n48,Cl [.int .i64 (t.lv.length:Nat)] 3),(n46,Cl [.int .i64 (t.lv.length:Nat)] 3)]),⟨?_,by simpa using ho1,by simpa using ho2,by simp[LT.pl,readP,Rxm.node],by simp[LT.pl,readP,hlen],by simp[Re.lv],fun X hX=>⟨hX.push (by exact sbt) qom hlf,B0 (fun _=>rfl) (by simp[encU]) (Au A3),B0 (fun _=>rfl) (by simp[encU]) A3,Nat.le_refl _,Nat.le_refl _, .one (by simp), .one (by simp)⟩⟩,rfl⟩,?_⟩
   ·rfl
   ·simp only[Gl,Ja,List.append_assoc,List.cons_append,List.nil_append,List.length_append,List.length_cons,List.length_nil,Nat.zero_add,List.length_set];exact sbt
  ·first|refine Db U (Ls U U sizeOf54) ?_ U Ac qkr|refine Db U (Bt (T U) (T U) U sizeOf54) ?_ U Ac qkr|refine Db U (Bl (T U) (T U) U sizeOf54) ?_ U Ac qkr
   rintro _ _ ⟨rfl,rfl⟩;refine⟨sbt,(B9 (i:=9) qkr qkr ?_)⟩;refine Db U (Bx (l:=t.lv++[default]) (e:=56) (enc:=encRx) (sz:=3) (i:=t.lv.length) (.mk 2 s q c []) (fun _=>rfl) qlc (T U) (T U) .agg U sizeOf56 (by simp) ho1) ?_ U Ac qkr;rintro _ _ ⟨rfl,rfl⟩;refine⟨sbt,(Gr qkr U ?_)⟩;refine rO tb 8 U (y_ (Lo U isAgg65 qco) ?_ U);refine e_ (Ah (.cons Ao .nil) (C4 _ _ _)) ?_ U;rintro _ _ ⟨n41,rfl,rfl⟩;refine e_ (A9 ((⟨none,0,[]⟩:RowQ)) (by':=24) (enc:=encRQ) (l:=t.fol) qlc (T U) (T U) runUnderlying65 runUnderlying65 sizeOf27 typeInfo27 U zeroValue27 U (fun _=>rfl) U hok2 qde qom) ?_ U;rintro _ _ ⟨e2,rfl,ho2,rfl⟩;refine rO tb 2 U ?_
   first|refine A0 (Ls U U sizeOf65) U Ac ?_|refine A0 (Bt (T U) (T U) U sizeOf65) U Ac ?_|refine A0 (Bl (T U) (T U) U sizeOf65) U Ac ?_
   rintro _ _ ⟨rfl,rfl⟩;refine kO tb 2 [4,5] rfl U (rG tb 3 U (e_ (Ah (.cons (T U) .nil) (Bq _)) ?_ U));rintro _ _ ⟨n46,rfl,rfl⟩;refine rO tb 1 U (e_ (Ah (.cons (T U) .nil) (Bq _)) ?_ U);rintro _ _ ⟨n48,rfl,rfl⟩;refine y_ (Ay (.cons (T U) (.cons (T U) .nil)) (Hr _ _ _ _ _ _)) ?_ U;refine A0 (Ls U U sizeOf206) U Ac ?_;rintro _ _ ⟨rfl,rfl⟩;refine rO tb 5 U (Ai U (.cellA (Aa U) isAgg206 sizeOf206 U qcs .nil) ?_);refine⟨_,⟨(e1,e2,⟨t.lv++[.mk 2 s q c []],t.fol++[⟨none,0,[]⟩]⟩,⟨⟨[t.lv.length],[t.lv.length],false⟩,some ⟨n46,0,none⟩,1,some ⟨n48,0,none⟩,1⟩,[(n48,Cl [.int .i64 (t.lv.length:Nat)] 3),(n46,Cl [.int .i64 (t.lv.length:Nat)] 3)]),⟨?_,by simpa using ho1,by simpa using ho2,by simp[LT.pl,readP,Rxm.node],by simp[LT.pl,readP,hlen],by simp[Re.lv],fun X hX=>⟨hX.push (by exact sbt) qom hlf,B0 (fun _=>rfl) (by simp[encU]) (Au A3),B0 (fun _=>rfl) (by simp[encU]) A3,Nat.le_refl _,Nat.le_refl _, .one (by simp), .one (by simp)⟩⟩,rfl⟩,?_⟩
   ·rfl
   ·simp only[Gl,Ja,List.append_assoc,List.cons_append,List.nil_append,List.length_append,List.length_cons,List.length_nil,Nat.zero_add,List.length_set];exact sbt
 ·exfalso;omega
theorem read_any {w0:World}{q:Option Addr}{c:Nat}:ReadS w0 (.mk 3 ⟨#[]⟩ q c []) (.any):=by
 intro R nt d1 d2 t hM hok1 hok2 ht hl;show FSpec Tryz.prog w0 143 #[.pointer (some ⟨nt,0,none⟩), .agg #[.int .i64 3, .string ⟨#[]⟩, .slice q 0 c]] (ltH nt d1 d2 t++R) _;simp only[Re.lv] at hl;have hfew:=ht.few;have hlen:=ht.len;have hlf:LfOk (.mk 3 ⟨#[]⟩ q c []):= .inr ⟨rfl,rfl⟩;rw[Gl];refine Ap Tryz.func143 U ntmps143 U (rD tb 2 U (e_ (Lt U cs_) ?_ U));rintro _ _ ⟨n3,rfl,rfl⟩;refine e_ (Aj zeroValue206 cs_) ?_ U;rintro _ _ ⟨n4,rfl,rfl⟩;refine rO tb 6 U (y_ (Lo U isAgg3 qco) ?_ U);refine rO tb 17 U ?_;refine Ae (Aa U) (fun c17=> ?_) (fun c17=> ?_)
 ·exfalso;omega
 ·refine rC tb 5 U ?_;refine Ae (Aa U) (fun c17=> ?_) (fun c17=> ?_)
  ·refine rC tb 5 U (y_ (Lo U isAgg54 qco) ?_ U);refine rO tb 5 U (Jl 12 13 ((n4,Cl [.slice none 0 0, .slice none 0 0, .bool false] 206)::(n3,Cl [.int .i64 3, .string ⟨#[]⟩, .slice q 0 c] 56)::R) ((n4,Cl [.slice none 0 0, .slice none 0 0, .bool false] 206)::(n3,Cl [.int .i64 3, .string ⟨#[]⟩, .slice q 0 c] 56)::(nt,Cl [slV d1 t.lv.length,slV d2 t.fol.length] 204)::R) mixd qkr (by repeat (first|exact List.Sublist.refl _|apply List.Sublist.cons_cons|exact sbt)) (by repeat (first|exact List.Sublist.refl _|apply List.Sublist.cons_cons|exact sbt)) ?_ A7);refine Bw [0] qkr U (i:=0) U qkr (Bp (T U)) ?_ U Ac;refine Bw [1] qkr U (i:=1) U qkr (Bo (T U)) ?_ U Ac;refine Bw [2] qkr U (i:=2) U qkr (Dh (T U) Ik) ?_ U Ac;refine Bw [3] qkr U (i:=3) U qkr (Lo U isAgg54 qco) ?_ U Ac;refine Bw [4] qkr U (i:=4) U qkr (Lp U isAgg56 sizeOf56 U qcs) ?_ U Ac;refine Bw [5] qkr U (i:=5) U qkr (yl_len (T U) runUnderlying54) ?_ U Ac;refine B9 (i:=6) qkr qkr ?_;refine Dt U (Ah (.cons Ao .nil) (bs22_1_0 _ _ _ _ _)) ?_ U Ac qkr;rintro _ _ ⟨n31,rfl,rfl⟩;refine⟨sbt,(B9 (i:=7) qkr qkr ?_)⟩;refine Dt U (A9 ((default:Rxm)) (by':=48) (enc:=encRx) (l:=t.lv) qlc (T U) (T U) runUnderlying54 runUnderlying54 sizeOf56 typeInfo56 U zeroValue56 U (fun _=>rfl) U hok1 qde qom) ?_ U Ac qkr;rintro _ _ ⟨e1,rfl,ho1,rfl⟩;refine⟨sbt,(w_y (i:=8) U qkr (Bi (T U) (T U) runUnderlying54 sizeOf56 (by simp;omega) (by first|exact rfl|exact(Av (w0:=w0) (enc:=encRx) (sz:=3) (e:=56) (X:=[]) (l:=t.lv++[default]) (fun _=>rfl) ho1).b (i:=t.lv.length) (by simp))) ?_ U Ac)⟩;refine Bw [11,10] qkr U (i:=10) U qkr (Bo (T U)) ?_ U Ac;refine Bw [11] qkr U (i:=11) U qkr (Dh (T U) Ik) ?_ U Ac;refine Ko (i:=9) (j:=12) qkr qkr ?_ ?_
   ·refine Dt U (Bx (l:=t.lv++[default]) (e:=56) (enc:=encRx) (sz:=3) (i:=t.lv.length) (.mk 3 ⟨#[]⟩ q c []) (fun _=>rfl) qlc (T U) (T U) .agg U sizeOf56 (by simp) ho1) ?_ U Ac qkr;rintro _ _ ⟨rfl,rfl⟩;refine⟨sbt,(B9 (i:=12) qkr qkr ?_)⟩
    first|refine Db U (Ls U U sizeOf54) ?_ U Ac qkr|refine Db U (Bt (T U) (T U) U sizeOf54) ?_ U Ac qkr|refine Db U (Bl (T U) (T U) U sizeOf54) ?_ U Ac qkr
    rintro _ _ ⟨rfl,rfl⟩;refine⟨sbt,(Gr qkr U ?_)⟩;refine rO tb 8 U (y_ (Lo U isAgg65 qco) ?_ U);refine e_ (Ah (.cons Ao .nil) (C4 _ _ _)) ?_ U;rintro _ _ ⟨n41,rfl,rfl⟩;refine e_ (A9 ((⟨none,0,[]⟩:RowQ)) (by':=24) (enc:=encRQ) (l:=t.fol) qlc (T U) (T U) runUnderlying65 runUnderlying65 sizeOf27 typeInfo27 U zeroValue27 U (fun _=>rfl) U hok2 qde qom) ?_ U;rintro _ _ ⟨e2,rfl,ho2,rfl⟩;refine rO tb 2 U ?_
    first|refine A0 (Ls U U sizeOf65) U Ac ?_|refine A0 (Bt (T U) (T U) U sizeOf65) U Ac ?_|refine A0 (Bl (T U) (T U) U sizeOf65) U Ac ?_
    rintro _ _ ⟨rfl,rfl⟩;refine kO tb 2 [4,5] rfl U (rG tb 3 U (e_ (Ah (.cons (T U) .nil) (Bq _)) ?_ U));rintro _ _ ⟨n46,rfl,rfl⟩;refine rO tb 1 U (e_ (Ah (.cons (T U) .nil) (Bq _)) ?_ U);rintro _ _ ⟨n48,rfl,rfl⟩;refine y_ (Ay (.cons (T U) (.cons (T U) .nil)) (Hr _ _ _ _ _ _)) ?_ U;refine A0 (Ls U U sizeOf206) U Ac ?_;rintro _ _ ⟨rfl,rfl⟩;refine rO tb 5 U (Ai U (.cellA (Aa U) isAgg206 sizeOf206 U qcs .nil) ?_);refine⟨_,⟨(e1,e2,⟨t.lv++[.mk 3 ⟨#[]⟩ q c []],t.fol++[⟨none,0,[]⟩]⟩,⟨⟨[t.lv.length],[t.lv.length],false⟩,some ⟨n46,0,none⟩,1,some ⟨n48,0,none⟩,1⟩,[(n48,Cl [.int .i64 (t.lv.length:Nat)] 3),(n46,Cl [.int .i64 (t.lv.length:Nat)] 3)]),⟨?_,by simpa using ho1,by simpa using ho2,by simp[LT.pl,readP,Rxm.node],by simp[LT.pl,readP,hlen],by simp[Re.lv],fun X hX=>⟨hX.push (by exact sbt) qom hlf,B0 (fun _=>rfl) (by simp[encU]) (Au A3),B0 (fun _=>rfl) (by simp[encU]) A3,Nat.le_refl _,Nat.le_refl _, .one (by simp), .one (by simp)⟩⟩,rfl⟩,?_⟩
    ·rfl
    ·simp only[Gl,Ja,List.append_assoc,List.cons_append,List.nil_append,List.length_append,List.length_cons,List.length_nil,Nat.zero_add,List.length_set];exact sbt
   ·first|refine Db U (Ls U U sizeOf54) ?_ U Ac qkr|refine Db U (Bt (T U) (T U) U sizeOf54) ?_ U Ac qkr|refine Db U (Bl (T U) (T U) U sizeOf54) ?_ U Ac qkr
    rintro _ _ ⟨rfl,rfl⟩;refine⟨sbt,(B9 (i:=9) qkr qkr ?_)⟩;refine Db U (Bx (l:=t.lv++[default]) (e:=56) (enc:=encRx) (sz:=3) (i:=t.lv.length) (.mk 3 ⟨#[]⟩ q c []) (fun _=>rfl) qlc (T U) (T U) .agg U sizeOf56 (by simp) ho1) ?_ U Ac qkr;rintro _ _ ⟨rfl,rfl⟩;refine⟨sbt,(Gr qkr U ?_)⟩;refine rO tb 8 U (y_ (Lo U isAgg65 qco) ?_ U);refine e_ (Ah (.cons Ao .nil) (C4 _ _ _)) ?_ U;rintro _ _ ⟨n41,rfl,rfl⟩;refine e_ (A9 ((⟨none,0,[]⟩:RowQ)) (by':=24) (enc:=encRQ) (l:=t.fol) qlc (T U) (T U) runUnderlying65 runUnderlying65 sizeOf27 typeInfo27 U zeroValue27 U (fun _=>rfl) U hok2 qde qom) ?_ U;rintro _ _ ⟨e2,rfl,ho2,rfl⟩;refine rO tb 2 U ?_
    first|refine A0 (Ls U U sizeOf65) U Ac ?_|refine A0 (Bt (T U) (T U) U sizeOf65) U Ac ?_|refine A0 (Bl (T U) (T U) U sizeOf65) U Ac ?_
    rintro _ _ ⟨rfl,rfl⟩;refine kO tb 2 [4,5] rfl U (rG tb 3 U (e_ (Ah (.cons (T U) .nil) (Bq _)) ?_ U));rintro _ _ ⟨n46,rfl,rfl⟩;refine rO tb 1 U (e_ (Ah (.cons (T U) .nil) (Bq _)) ?_ U);rintro _ _ ⟨n48,rfl,rfl⟩;refine y_ (Ay (.cons (T U) (.cons (T U) .nil)) (Hr _ _ _ _ _ _)) ?_ U;refine A0 (Ls U U sizeOf206) U Ac ?_;rintro _ _ ⟨rfl,rfl⟩;refine rO tb 5 U (Ai U (.cellA (Aa U) isAgg206 sizeOf206 U qcs .nil) ?_);refine⟨_,⟨(e1,e2,⟨t.lv++[.mk 3 ⟨#[]⟩ q c []],t.fol++[⟨none,0,[]⟩]⟩,⟨⟨[t.lv.length],[t.lv.length],false⟩,some ⟨n46,0,none⟩,1,some ⟨n48,0,none⟩,1⟩,[(n48,Cl [.int .i64 (t.lv.length:Nat)] 3),(n46,Cl [.int .i64 (t.lv.length:Nat)] 3)]),⟨?_,by simpa using ho1,by simpa using ho2,by simp[LT.pl,readP,Rxm.node],by simp[LT.pl,readP,hlen],by simp[Re.lv],fun X hX=>⟨hX.push (by exact sbt) qom hlf,B0 (fun _=>rfl) (by simp[encU]) (Au A3),B0 (fun _=>rfl) (by simp[encU]) A3,Nat.le_refl _,Nat.le_refl _, .one (by simp), .one (by simp)⟩⟩,rfl⟩,?_⟩
    ·rfl
    ·simp only[Gl,Ja,List.append_assoc,List.cons_append,List.nil_append,List.length_append,List.length_cons,List.length_nil,Nat.zero_add,List.length_set];exact sbt
  ·exfalso;omega
theorem read_emp {w0:World}{q:Option Addr}{c:Nat}:ReadS w0 (.mk 1 ⟨#[]⟩ q c []) (.emp):=by
 intro R nt d1 d2 t hM hok1 hok2 ht hl;show FSpec Tryz.prog w0 143 #[.pointer (some ⟨nt,0,none⟩), .agg #[.int .i64 1, .string ⟨#[]⟩, .slice q 0 c]] (ltH nt d1 d2 t++R) _;refine Ap Tryz.func143 U ntmps143 U (rD tb 2 U (e_ (Lt U cs_) ?_ U));rintro _ _ ⟨n3,rfl,rfl⟩;refine e_ (Aj zeroValue206 cs_) ?_ U;rintro _ _ ⟨n4,rfl,rfl⟩;refine rO tb 6 U (y_ (Lo U isAgg3 qco) ?_ U);refine rO tb 12 U (y_ (Ay (.cons Ao .nil) (bd163_2 _)) ?_ U);refine A0 (Ls U U sizeOf206) U Ac ?_;rintro _ _ ⟨rfl,rfl⟩;refine rO tb 5 U (Ai U (.cellA (Aa U) isAgg206 sizeOf206 U qcs .nil) ?_);exact⟨_,⟨(d1,d2,t,⟨⟨[],[],true⟩,none,0,none,0⟩,[]),⟨rfl,hok1,hok2,rfl,rfl,rfl,fun X hX=>⟨hX,(fun i x hi=>by cases hi),(fun i x hi=>by cases hi),Nat.le_refl _,Nat.le_refl _, .nil, .nil⟩⟩,rfl⟩,sbt⟩
theorem Ef (a0:Option Addr)(a0n a0c:Nat)(a1:Option Addr)(a1n a1c:Nat)(a2:Bool)(w:World):(Instr.build 206 #[(0, .slice a0 a0n a0c),(1, .slice a1 a1n a1c),(2, .bool a2)]).run Tryz.prog w= .ok (.agg #[.slice a0 a0n a0c, .slice a1 a1n a1c, .bool a2]) w:=by kernel_rfl
theorem RdOk.alt {w0:World}{a b:Re}{t t1 t2:LT}{E1 E2:EQ}{M1 M2 M5 M6:List (Nat × Obj)}{q5 q6:Option Addr}{c5 c6:Nat}(h1:RdOk w0 a t t1 E1 M1)(h2:RdOk w0 b t1 t2 E2 M2)
  (k5:(mergeF E1.pe.first E2.pe.first).length≤c5) (h5:∀ X,Arr w0 X E1.q1 1 encU E1.pe.first→Arr w0 (M5++X) q5 1 encU (mergeF E1.pe.first E2.pe.first))
  (k6:(mergeF E1.pe.last E2.pe.last).length≤c6) (h6:∀ X,Arr w0 X E1.q2 1 encU E1.pe.last→Arr w0 (M6++X) q6 1 encU (mergeF E1.pe.last E2.pe.last)) {x:Bool} (hx:x=(E1.pe.emp||E2.pe.emp)):
  RdOk w0 (.alt a b) t t2 ⟨⟨mergeF E1.pe.first E2.pe.first,mergeF E1.pe.last E2.pe.last,x⟩,q5,c5,q6,c6⟩ (M6++(M5++(M2++M1))):=by
 have hl1:=h1.len;have hl2:=h2.len;refine⟨by rw[h2.pl,h1.pl];rfl,by rw[hx,h1.pe,h2.pe,h1.pl];rfl,by rw[hl2,hl1];simp only[Re.lv];omega,fun X hX=> ?_⟩;obtain⟨g1,b1⟩:=h1.ok X hX;obtain⟨g2,b2⟩:=h2.ok _ g1;have hS:(M2++(M1++X)).Sublist (M6++(M5++(M2++M1))++X):=by simp only[List.append_assoc];exact(List.sublist_append_right _ _).trans (List.sublist_append_right _ _)
 have b1':EqOk w0 (M2++(M1++X)) t2.lv.length E1:=b1.mono qom (List.sublist_append_right _ _);refine⟨g2.mono hS,?_,?_,k5,k6,b1'.s1.merge b2.s1,b1'.s2.merge b2.s2⟩
 ·refine(h5 _ b1'.a1).mono ?_;simp only[List.append_assoc];exact List.sublist_append_right _ _
 ·refine(h6 _ b1'.a2).mono ?_;simp only[List.append_assoc];exact(List.Sublist.refl _).append (List.sublist_append_right _ _)
theorem RdOk.seq {w0:World}{a b:Re}{t t1 t2:LT}{fol3:List RowQ}{E1 E2:EQ}{M1 M2 M3 M5 M6:List (Nat × Obj)}{q5 q6:Option Addr}{c5 c6:Nat}{l5 l6:List Nat}(h1:RdOk w0 a t t1 E1 M1)(h2:RdOk w0 b t1 t2 E2 M2)
  (hf:fol3.map RowQ.l=leadP t2.pl.fol E1.pe.last E2.pe.first) (h3:∀ X,LtOk w0 X t2→LtOk w0 (M3++X) ⟨t2.lv,fol3⟩)
  (e5:l5=if E1.pe.emp then mergeF E1.pe.first E2.pe.first else E1.pe.first) (k5:l5.length≤c5) (h5:∀ X,Arr w0 X E1.q1 1 encU E1.pe.first→Arr w0 (M5++X) q5 1 encU l5)
  (e6:l6=if E2.pe.emp then mergeF E2.pe.last E1.pe.last else E2.pe.last) (k6:l6.length≤c6) (h6:∀ X,Arr w0 X E2.q2 1 encU E2.pe.last→Arr w0 (M6++X) q6 1 encU l6) {x:Bool} (hx:x=(E1.pe.emp&&E2.pe.emp)):
  RdOk w0 (.seq a b) t ⟨t2.lv,fol3⟩ ⟨⟨l5,l6,x⟩,q5,c5,q6,c6⟩ (M6++(M5++(M3++(M2++M1)))):=by
 have hl1:=h1.len;have hl2:=h2.len;refine⟨?_,by rw[hx,e5,e6,h1.pe,h2.pe,h1.pl];rfl,by show t2.lv.length=_;rw[hl2,hl1];simp only[Re.lv];omega,fun X hX=> ?_⟩
 ·show (⟨t2.lv.map Rxm.node,fol3.map RowQ.l⟩:PT)=_;rw[hf,h1.pe,h2.pe,show t2.lv.map Rxm.node=t2.pl.nms from rfl,h2.pl,h1.pl];rfl
 obtain⟨g1,b1⟩:=h1.ok X hX;obtain⟨g2,b2⟩:=h2.ok _ g1;have g3:=h3 _ g2;have b1':EqOk w0 (M2++(M1++X)) t2.lv.length E1:=b1.mono qom (List.sublist_append_right _ _);refine⟨g3.mono (by simp only[List.append_assoc];exact(List.sublist_append_right _ _).trans (List.sublist_append_right _ _)),?_,?_,k5,k6,?_,?_⟩
 ·refine(h5 _ b1'.a1).mono ?_;simp only[List.append_assoc];exact((List.Sublist.refl _).append (List.sublist_append_right _ _)).trans (List.sublist_append_right _ _)
 ·refine(h6 _ b2.a2).mono ?_;simp only[List.append_assoc];exact(List.Sublist.refl _).append ((List.sublist_append_right _ _).trans (List.sublist_append_right _ _))
 ·show Srn t2.lv.length l5;rw[e5];split
  ·exact b1'.s1.merge b2.s1
  ·exact b1'.s1
 ·show Srn t2.lv.length l6;rw[e6];split
  ·exact b2.s2.merge b1'.s2
  ·exact b2.s2
theorem RdOk.star {w0:World}{a:Re}{t t1:LT}{fol3:List RowQ}{E1:EQ}{M1 M3:List (Nat × Obj)}(h1:RdOk w0 a t t1 E1 M1)
  (hf:fol3.map RowQ.l=leadP t1.pl.fol E1.pe.last E1.pe.first) (h3:∀ X,LtOk w0 X t1→LtOk w0 (M3++X) ⟨t1.lv,fol3⟩):
  RdOk w0 (.star a) t ⟨t1.lv,fol3⟩ ⟨⟨E1.pe.first,E1.pe.last,true⟩,E1.q1,E1.c1,E1.q2,E1.c2⟩ (M3++M1):=by
 refine⟨?_,by rw[h1.pe];rfl,h1.len,fun X hX=> ?_⟩
 ·show (⟨t1.lv.map Rxm.node,fol3.map RowQ.l⟩:PT)=_;rw[hf,h1.pe,show t1.lv.map Rxm.node=t1.pl.nms from rfl,h1.pl];rfl
 obtain⟨g1,b1⟩:=h1.ok X hX;have g3:=h3 _ g1;have b1':EqOk w0 (M3++M1++X) t1.lv.length E1:=b1.mono (Nat.le_refl _) (by simp only[List.append_assoc];exact List.sublist_append_right _ _);exact⟨g3.mono (by simp only[List.append_assoc];exact List.Sublist.refl _),b1'.a1,b1'.a2,b1'.k1,b1'.k2,b1'.s1,b1'.s2⟩
theorem read_alt {w0:World}{q:Option Addr}{c:Nat}{ma mb:Rxm}{a b:Re}(iha:ReadS w0 ma a)(ihb:ReadS w0 mb b):ReadS w0 (.mk 5 ⟨#[]⟩ q c [ma,mb]) (.alt a b):=by
 intro R nt d1 d2 t hM hok1 hok2 ht hl;show FSpec Tryz.prog w0 143 #[.pointer (some ⟨nt,0,none⟩), .agg #[.int .i64 5, .string ⟨#[]⟩, .slice q 2 c]] (ltH nt d1 d2 t++R) _;simp only[Re.lv] at hl;obtain⟨hA,hMM,_,_⟩:=hM;have hMa:=hMM ma (by simp);have hMb:=hMM mb (by simp);refine Ap Tryz.func143 U ntmps143 U (rD tb 2 U (e_ (Lt U cs_) ?_ U));rintro _ _ ⟨n3,rfl,rfl⟩;refine e_ (Aj zeroValue206 cs_) ?_ U;rintro _ _ ⟨n4,rfl,rfl⟩;refine rO tb 6 U (y_ (Lo U isAgg3 qco) ?_ U);refine rO tb 17 U ?_;refine Ae (Aa U) (fun c17=> ?_) (fun c17=> ?_)
 ·exfalso;omega
 ·refine rC tb 5 U ?_;refine Ae (Aa U) (fun c17=> ?_) (fun c17=> ?_)
  ·exfalso;omega
  ·refine rC tb 11 U (y_ (Lo U isAgg54 qco) ?_ U);refine y_ (Bi (T U) Ao runUnderlying54 sizeOf56 qom (by first|exact rfl|exact hA.b0)) ?_ U;refine y_ (Lp U isAgg56 sizeOf56 U (by exact hA.cs0)) ?_ U;refine e_ (Am (qe2 U U) call143 (A8 (ltH nt d1 d2 t) qlc (iha _ nt d1 d2 t (hMa.mono sbt) hok1 hok2 (ht.mono sbt) qom))) ?_ U;rintro _ _ ⟨⟨e1,e2,t1,E1,M1⟩,⟨rfl,ho1,ho2,hr1⟩,rfl⟩;simp only[List.append_assoc] at hr1 ⊢;have hl1:=hr1.len;obtain⟨ht1,hE1⟩:=hr1.ok R ht;refine e_ (Aj zeroValue206 cs_) ?_ U;rintro _ _ ⟨n6,rfl,rfl⟩;refine A0 (Ls U U sizeOf206) U Ac ?_;rintro _ _ ⟨rfl,rfl⟩;refine rO tb 6 U (y_ (Lo U isAgg54 qco) ?_ U);refine y_ (Bi (T U) Ao runUnderlying54 sizeOf56 qom (by first|exact rfl|exact hA.b0)) ?_ U;refine y_ (Lp U isAgg56 sizeOf56 U (by exact hA.cs1)) ?_ U;refine e_ (Am (qe2 U U) call143 (A8 (ltH nt e1 e2 t1) qlc (ihb _ nt e1 e2 t1 (hMb.mono sbt) ho1 ho2 (ht1.mono sbt) qom))) ?_ U;rintro _ _ ⟨⟨f1,f2,t2,E2,M2⟩,⟨rfl,ho3,ho4,hr2⟩,rfl⟩;simp only[List.append_assoc] at hr2 ⊢;have hl2:=hr2.len;obtain⟨ht2,hE2⟩:=hr2.ok (M1++R) ht1;have hE1b:EqOk w0 (M2++(M1++R)) t2.lv.length E1:=hE1.mono qom (List.sublist_append_right _ _);have w1:=hE1b.s1.len;have w2:=hE1b.s2.len;have w3:=hE2.s1.len;have w4:=hE2.s2.len;have w5:=ht2.few;refine El (List.Perm.cons _ (List.Perm.cons _ (List.Perm.cons _ (List.perm_append_comm_assoc _ _ _)))) (e_ (Aj zeroValue206 cs_) ?_ U);rintro _ _ ⟨n7,rfl,rfl⟩;refine A0 (Ls U U sizeOf206) U Ac ?_;rintro _ _ ⟨rfl,rfl⟩;refine rO tb 3 U (Bg 17 [(0,true),(1,true),(2,true),(3,true),(5,true),(6,true),(7,true),(8,true),(10,true),(11,true),(4,false),(9,false),(12,true),(13,true),(14,true),(15,true),(16,true)] _ mixd qkr sb0 ?_ A7);refine rP tb 1 U (o_y U (Lo U isAgg27 qco) ?_ U Ac);refine rP tb 1 U (o_y U (Lo U isAgg27 qco) ?_ U Ac);refine rP tb 1 U (o_y U (Lo U isAgg27 qco) ?_ U Ac);refine rP tb 1 U (o_y U (Lo U isAgg27 qco) ?_ U Ac);refine rP tb 1 U (o_y U (Lo U isAgg4 qco) ?_ U Ac);refine o_e U (Am (qe2 U U) call171 (I8 E1.pe.first E1.q1 E1.c1 (hE1b.a1.mono sbt) hE1b.k1 E2.pe.first E2.q1 E2.c1 (hE2.a1.mono sbt) qom)) ?_ U Ac;rintro _ _ ⟨q5,c5,M5,⟨rfl,hc5,hA5⟩,rfl⟩;refine⟨sbt,(o_e U (Am (qe2 U U) call171 (I8 E1.pe.last E1.q2 E1.c2 (hE1b.a2.mono sbt) hE1b.k2 E2.pe.last E2.q2 E2.c2 (hE2.a2.mono sbt) qom)) ?_ U Ac)⟩;rintro _ _ ⟨q6,c6,M6,⟨rfl,hc6,hA6⟩,rfl⟩;refine⟨sbt,(rP tb 1 U ?_)⟩
   first|refine B4 (s:=76) (Aa U) (fun c76=> ?_) (fun c76=> ?_)|refine Ku (s:=76) (Aa U) (fun c76=> ?_) (fun c76=> ?_)
   ·refine rP tb 3 U (o_y U (Ay (.cons (T U) (.cons (T U) (.cons (T U) .nil))) (Ef _ _ _ _ _ _ _)) (A5 U ?_) U Ac);refine A0 (Ls U U sizeOf206) U Ac ?_;rintro _ _ ⟨rfl,rfl⟩;refine kO tb 2 [4] rfl U (rG tb 3 U (Ai U (.cellA (Aa U) isAgg206 sizeOf206 U qcs .nil) ?_));exact⟨_,⟨(f1,f2,t2,⟨⟨mergeF E1.pe.first E2.pe.first,mergeF E1.pe.last E2.pe.last,_⟩,q5,c5,q6,c6⟩,M6++(M5++(M2++M1))),⟨rfl,ho3,ho4,RdOk.alt hr1 hr2 hc5 hA5 hc6 hA6 (by simp[c76])⟩,rfl⟩,by simp only[List.append_assoc];exact sbt⟩
   ·refine rP tb 1 U (o_y U (Lo U isAgg4 qco) ?_ U (Az U U (Aa U)));refine rP tb 1 U (o_y U (Ay (.cons (T U) (.cons (T U) (.cons (T U) .nil))) (Ef _ _ _ _ _ _ _)) (A5 U ?_) U Ac);refine A0 (Ls U U sizeOf206) U Ac ?_;rintro _ _ ⟨rfl,rfl⟩;refine kO tb 2 [4] rfl U (rG tb 3 U (Ai U (.cellA (Aa U) isAgg206 sizeOf206 U qcs .nil) ?_));exact⟨_,⟨(f1,f2,t2,⟨⟨mergeF E1.pe.first E2.pe.first,mergeF E1.pe.last E2.pe.last,_⟩,q5,c5,q6,c6⟩,M6++(M5++(M2++M1))),⟨rfl,ho3,ho4,RdOk.alt hr1 hr2 hc5 hA5 hc6 hA6 (by simp[c76])⟩,rfl⟩,by simp only[List.append_assoc];exact sbt⟩
end Go.Proofs.YtpkijiejccngcaaGreatDoor
