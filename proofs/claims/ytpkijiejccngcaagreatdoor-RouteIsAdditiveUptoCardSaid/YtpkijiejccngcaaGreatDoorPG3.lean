/-
  A part of what LawG rests on: the logic, walks and plain laws. No condition.
-/
import Derived.Test.YtpkijiejccngcaaGreatDoorPG2
namespace Go.Proofs.YtpkijiejccngcaaGreatDoor
open _root_.Go.Proofs.Tryz
open Go.RowKit
set_option linter.unusedVariables false
set_option linter.unusedSimpArgs false
set_option linter.unusedSectionVars false
set_option maxRecDepth 100000
def Re.Nm:Re→Prop
 | .nod s=>NmOk s
 | .seq a b=>a.Nm∧b.Nm
 | .alt a b=>a.Nm∧b.Nm
 | .star a=>a.Nm
 |_=>True
def WantOk (m:Rxm) (w:Nat) (ok:Bool):Prop:=((m.kind=1∨m.kind=3)∧w=0∧(ok=true↔m.node=⟨#[]⟩))∨(m.kind=2∧w=0∧(ok=true↔NmOk m.node))∨((m.kind=4∨m.kind=5)∧w=2∧(ok=true↔m.node=⟨#[]⟩))∨(m.kind=6∧w=1∧(ok=true↔m.node=⟨#[]⟩))
theorem WantOk.le {m:Rxm}{w:Nat}{ok:Bool}(h:WantOk m w ok):w≤2:=by unfold WantOk at h;omega
theorem want_is {m:Rxm}{w:Nat}(h:WantOk m w true)(hl:m.args.length=w)(hp:∀ j,j<w→∃ e,Is (gd m.args j) e∧e.Nm):∃ e,Is m e∧e.Nm:=by
 obtain⟨k,s,q,c,xs⟩:=m;simp only[WantOk,Rxm.kind,Rxm.node,Rxm.args] at h hl hp;rcases h with ⟨hk,rfl,hn⟩|⟨rfl,rfl,hn⟩|⟨hk,rfl,hn⟩|⟨rfl,rfl,hn⟩
 ·have:=List.eq_nil_of_length_eq_zero hl;subst this;have:=hn.1 trivial;subst this;rcases hk with rfl|rfl
  ·exact⟨_, .emp,trivial⟩
  ·exact⟨_, .any,trivial⟩
 ·have:=List.eq_nil_of_length_eq_zero hl;subst this;exact⟨_, .nod (hn.1 trivial).z,hn.1 trivial⟩
 ·match xs,hl with
  |[a,b],_=>
   have:=hn.1 trivial;subst this;obtain⟨e1,h1,n1⟩:=hp 0 qom;obtain⟨e2,h2,n2⟩:=hp 1 qom;rcases hk with rfl|rfl
   ·exact⟨_, .seq h1 h2,n1,n2⟩
   ·exact⟨_, .alt h1 h2,n1,n2⟩
 ·match xs,hl with
  |[a],_=>
   have:=hn.1 trivial;subst this;obtain⟨e1,h1,n1⟩:=hp 0 qom;exact⟨_, .star h1,n1⟩
abbrev FmOk (m:Rxm):Prop:=∃ x,Is m x∧x.Nm
theorem Iu {m:Rxm}(h:FmOk m):(m.kind=2∧NmOk m.node∧m.args=[])∨((m.kind=1∨m.kind=3)∧m.node=⟨#[]⟩∧m.args=[])∨(m.kind=6∧m.node=⟨#[]⟩∧m.args.length=1∧∀ a∈m.args,FmOk a)∨((m.kind=4∨m.kind=5)∧m.node=⟨#[]⟩∧m.args.length=2∧∀ a∈m.args,FmOk a):=by
 obtain⟨x,hx,hn⟩:=h;cases hx with
 |emp=>exact .inr (.inl ⟨.inl rfl,rfl,rfl⟩)
 |nod _=>exact .inl ⟨rfl,hn,rfl⟩
 |any=>exact .inr (.inl ⟨.inr rfl,rfl,rfl⟩)
 |seq h1 h2=>exact .inr (.inr (.inr ⟨.inl rfl,rfl,rfl,fun a ha=>by
   rcases List.mem_cons.1 ha with rfl|ha
   ·exact⟨_,h1,hn.1⟩
   ·simp at ha;subst ha;exact⟨_,h2,hn.2⟩⟩))
 |alt h1 h2=>exact .inr (.inr (.inr ⟨.inr rfl,rfl,rfl,fun a ha=>by
   rcases List.mem_cons.1 ha with rfl|ha
   ·exact⟨_,h1,hn.1⟩
   ·simp at ha;subst ha;exact⟨_,h2,hn.2⟩⟩))
 |star h1=>exact .inr (.inr (.inl ⟨rfl,rfl,rfl,fun a ha=>by obtain rfl:=List.mem_singleton.1 ha;exact⟨_,h1,hn⟩⟩))
theorem want_ok {m:Rxm}{w:Nat}{ok:Bool}(h:WantOk m w ok)(hf:FmOk m):ok=true∧m.args.length=w:=by
 have hc:=Iu hf;unfold WantOk at h;rcases h with ⟨hk,rfl,hn⟩|⟨hk,rfl,hn⟩|⟨hk,rfl,hn⟩|⟨hk,rfl,hn⟩<;>rcases hc with c|c|c|c<;>first|(exfalso;omega)|exact⟨hn.2 c.2.1,by rw[c.2.2];rfl⟩|exact⟨hn.2 c.2.1,c.2.2.1⟩
theorem fm_args {m:Rxm}(hf:FmOk m):∀ a∈m.args,FmOk a:=by
 rcases Iu hf with c|c|c|c
 ·rw[c.2.2];intro a h;cases h
 ·rw[c.2.2];intro a h;cases h
 ·exact c.2.2.2
 ·exact c.2.2.2
theorem Is.lvz {m:Rxm}{e:Re}(h:Is m e):2*e.lv≤m.sz+1:=by
 induction h with
 |emp=>simp[Re.lv]
 |nod _=>simp[Re.lv,Rxm.sz,szL]
 |any=>simp[Re.lv,Rxm.sz,szL]
 |seq h1 h2 i1 i2=>simp only[Re.lv,Rxm.sz,szL];omega
 |alt h1 h2 i1 i2=>simp only[Re.lv,Rxm.sz,szL];omega
 |star h1 i1=>simp only[Re.lv,Rxm.sz,szL];omega
theorem E3 {s:ByteArray}{b:Bool}(e:b=decide (s.data.toList=(⟨#[]⟩:ByteArray).data.toList))(h:b=true):s=⟨#[]⟩:=by
 rw[h] at e;exact ByteArray.ext (Array.ext' (of_decide_eq_true e.symm))
def fmdS (w0:World) (m:Rxm):Prop:=∀ H:List (Nat × Obj),RxM w0 H m→m.sz≤8388608→FSpec Tryz.prog w0 103 #[.agg (encRx m).toArray] H (fun v H'=>(∃ t:Bool,v= .bool t∧(t=true↔FmOk m))∧H'=H)
theorem fmd_step {w0:World}{H:List (Nat × Obj)}(m:Rxm)(hM:RxM w0 H m)(hz:m.sz≤8388608)(ih:∀ a∈m.args,fmdS w0 a):
  FSpec Tryz.prog w0 103 #[.agg (encRx m).toArray] H (fun v H'=>(∃ t:Bool,v= .bool t∧(t=true↔FmOk m))∧H'=H):=by
 refine Ao Tryz.func103 U ntmps103 U ?_;have hse:=Ff m;have hln:=Fg m.args;have hA:=hM.arr;refine rD tb 2 U (e_ (Lf U cs_) ?_ U);rintro _ _ ⟨n1,rfl,rfl⟩;refine rO tb 6 U (y_ (Lb U isAgg9 qco) ?_ U);refine e_ (Ak (qe1 U) call142 (plain_s m.node hM.nl)) ?_ U;rintro _ _ ⟨⟨t1,rfl,ht1⟩,rfl⟩;refine rO tb 11 U (y_ (Lb U isAgg9 qco) ?_ U);refine y_ (Ci (T U) Ap) (rO tb 3 U ?_) U;refine J3 (X:=Nat × Bool) (V:=fun ⟨wn,ok⟩=>[(4, .int .i64 (wn:Nat)),(5, .bool ok)]) (C:=[(1,_)]) (φ:=fun ⟨wn,ok⟩=>WantOk m wn ok) ⟨Aa rfl,trivial⟩ ?_ ?_
 ·refine rD tb 3 U (y_ (Lb U isAgg3 qco) ?_ U);refine rO tb 10 U ?_;refine Ad (Aa U) (fun c16=> ?_) (fun c16=> ?_)
  ·refine rC tb 2 U ?_
   first|refine Cj (Aa U) ?_|refine Cj (Be (Aa U) (vbool (decide_eq_true c16))) ?_
   refine rC tb 4 U ?_;refine Bb ((0,_)) ?_ ⟨qat,qat,trivial⟩ ⟨Aa U,trivial⟩ sbt;exact .inl ⟨by omega,rfl,⟨fun h=>E3 U h,fun h=>decide_eq_true (by rw[h])⟩⟩
  ·refine rC tb 5 U ?_;refine Ad (Aa U) (fun c16=> ?_) (fun c16=> ?_)
   ·refine rC tb 4 U ?_;refine Bb ((0,_)) ?_ ⟨qat,qat,trivial⟩ ⟨Aa U,trivial⟩ sbt;exact .inl ⟨by omega,rfl,⟨fun h=>E3 U h,fun h=>decide_eq_true (by rw[h])⟩⟩
   ·refine rC tb 6 U ?_;refine Ad (Aa U) (fun c19=> ?_) (fun c19=> ?_)
    ·refine rC tb 5 U ?_;refine Bb ((0,_)) ?_ ⟨qat,qat,trivial⟩ ⟨Aa U,trivial⟩ sbt
     first|exact .inl ⟨by omega,rfl,⟨fun h=>E3 U h,fun h=>decide_eq_true (by rw[h])⟩⟩|exact .inr (.inl ⟨by omega,rfl,ht1⟩)
    ·refine rC tb 7 U ?_;refine Ad (Aa U) (fun c22=> ?_) (fun c22=> ?_)
     ·refine rC tb 2 U ?_
      first|refine Cj (Aa U) ?_|refine Cj (Be (Aa U) (vbool (decide_eq_true c22))) ?_
      refine rC tb 4 U ?_;refine Bb ((2,_)) ?_ ⟨qat,qat,trivial⟩ ⟨Aa U,trivial⟩ sbt
      first|exact .inl ⟨by omega,rfl,⟨fun h=>E3 U h,fun h=>decide_eq_true (by rw[h])⟩⟩|exact .inr (.inl ⟨by omega,rfl,ht1⟩)|exact .inr (.inr (.inl ⟨by omega,rfl,⟨fun h=>E3 U h,fun h=>decide_eq_true (by rw[h])⟩⟩))
     ·refine rC tb 5 U ?_;refine Ad (Aa U) (fun c22=> ?_) (fun c22=> ?_)
      ·refine rC tb 4 U ?_;refine Bb ((2,_)) ?_ ⟨qat,qat,trivial⟩ ⟨Aa U,trivial⟩ sbt
       first|exact .inl ⟨by omega,rfl,⟨fun h=>E3 U h,fun h=>decide_eq_true (by rw[h])⟩⟩|exact .inr (.inl ⟨by omega,rfl,ht1⟩)|exact .inr (.inr (.inl ⟨by omega,rfl,⟨fun h=>E3 U h,fun h=>decide_eq_true (by rw[h])⟩⟩))
      ·refine rC tb 6 U ?_;refine Ad (Aa U) (fun c25=> ?_) (fun c25=> ?_)
       ·refine rC tb 4 U ?_;refine Bb ((1,_)) ?_ ⟨qat,qat,trivial⟩ ⟨Aa U,trivial⟩ sbt
        first|exact .inl ⟨by omega,rfl,⟨fun h=>E3 U h,fun h=>decide_eq_true (by rw[h])⟩⟩|exact .inr (.inl ⟨by omega,rfl,ht1⟩)|exact .inr (.inr (.inl ⟨by omega,rfl,⟨fun h=>E3 U h,fun h=>decide_eq_true (by rw[h])⟩⟩))|exact .inr (.inr (.inr ⟨by omega,rfl,⟨fun h=>E3 U h,fun h=>decide_eq_true (by rw[h])⟩⟩))
       ·refine rC tb 7 U (q_cut_ret (Ah U (K9 U) ?_));exact⟨_,⟨⟨_,rfl,⟨fun h=>(by cases h),fun h=>absurd (Iu h) qom⟩⟩,rfl⟩,sbt⟩
 rintro⟨wn,ok⟩ hw;have hwl:=hw.le;refine rC tb 4 U ?_
 first|refine A5 (A9 (T U)) U Ac ?_|refine A5 (B0 (T U)) U Ac ?_
 refine rO tb 1 U ?_
 first|refine A4 (s:=29) (Aa U) (fun c29=> ?_) (fun c29=> ?_)|refine Ej (s:=29) (Aa U) (fun c29=> ?_) (fun c29=> ?_)
 ·refine rO tb 16 U (Ah U (K9 U) ?_);exact⟨_,⟨⟨_,rfl,⟨fun h=>(by cases h),fun h=>absurd (want_ok hw h).1 (by simpa using c29)⟩⟩,rfl⟩,sbt⟩
 ·refine rO tb 1 U (A5 (Lb U isAgg54 qco) U (Az U U (Aa U)) ?_);refine rO tb 6 U ?_;refine Ad (Aa U) (fun c35=> ?_) (fun c35=> ?_)
  ·refine rC tb 7 U (Ah U (K9 U) ?_);exact⟨_,⟨⟨_,rfl,⟨fun h=>(by cases h),fun h=>absurd (want_ok hw h).2 qom⟩⟩,rfl⟩,sbt⟩
  ·refine rC tb 9 U ?_;refine Bd (X:=Nat) (V:=fun i=>[(6, .int .i64 (i:Nat))]) (C:=[(1,_),(4,_)]) (φ:=fun i=>i≤wn∧m.args.length=wn∧ok=true∧∀ j,j<i→∃ e,Is (gd m.args j) e∧e.Nm) (μ:=fun i=>wn - i) (x0:=0) ?_ ⟨Aa U,Aa U,trivial⟩ ⟨qat,trivial⟩ ?_
   ·exact⟨Nat.zero_le _,by omega,by simpa using c29,fun j hj=>absurd hj (Nat.not_lt_zero _)⟩
   rintro i ⟨hi,hal,hok,hall⟩;have htk:i<m.args.length→szL (m.args.take (i+1))=szL (m.args.take i)+(gd m.args i).sz:=fun h=>Dt h
   have htl:=D0 m.args (i+1);have htl0:=D0 m.args i;refine rD tb 8 U ?_;refine Ad (Aa U) (fun c38=> ?_) (fun c38=> ?_)
   ·refine rC tb 7 U (y_ (Lb U isAgg54 qco) ?_ U);refine rO tb 1 U (y_ (Ld U U runUnderlying54 sizeOf56 qom (by first|exact rfl|exact hA.b (i:=i) qom)) ?_ U);refine y_ (Lc U isAgg56 sizeOf56 U (by exact(hA.mono sbt).cs (i:=i) qom)) ?_ U;refine e_ (Ak (qe1 U) call103 (ih _ (Af (i:=i) qom) _ ((hM.arg (Af (i:=i) qom)).mono sbt) qom)) ?_ U;rintro _ _ ⟨⟨t,rfl,ht⟩,rfl⟩;refine rO tb 6 U ?_
    first|refine A5 (A9 (T U)) U Ac ?_|refine A5 (B0 (T U)) U Ac ?_
    refine rO tb 2 U ?_
    first|refine Ad (Aa U) (fun c48=> ?_) (fun c48=> ?_)|refine Bq (Aa U) (fun c48=> ?_) (fun c48=> ?_)
    ·refine rC tb 8 U (As (rX tb 2 U (Ah U (K9 U) ?_)));exact⟨_,⟨⟨_,rfl,⟨fun h=>(by cases h),fun h=>absurd (ht.2 (fm_args h _ (Af qom))) (by simpa using c48)⟩⟩,rfl⟩,sbt⟩
    ·refine rC tb 5 U (y_ (Av (T U) Ap qom) ?_ U);refine rO tb 2 U ?_;refine Ar (i+1) ?_ ?_ ⟨qat,trivial⟩ ⟨Aa U,Aa U,trivial⟩ ?_
     ·refine⟨by omega,hal,hok,fun j hj=> ?_⟩
      by_cases e:j=i
      ·subst e;exact ht.1 (by simpa using c48)
      ·exact hall j qom
     ·omega
     ·exact sbt
   ·refine rC tb 2 U (Ag (rX tb 8 U (Ah U (K9 U) ?_)));exact⟨_,⟨⟨_,rfl,⟨fun _=>want_is (hok ▸ hw) hal (fun j hj=>hall j qom),fun _=>rfl⟩⟩,rfl⟩,sbt⟩
theorem fmd_s {w0:World}{H:List (Nat × Obj)}(m:Rxm)(hM:RxM w0 H m)(hz:m.sz≤8388608):FSpec Tryz.prog w0 103 #[.agg (encRx m).toArray] H (fun v H'=>(∃ t:Bool,v= .bool t∧(t=true↔FmOk m))∧H'=H):=
 Gh (Q:=fmdS w0) (fun m ih H hM hz=>fmd_step m hM hz ih) m H hM hz
theorem lim_s {w0:World}{H:List (Nat × Obj)}(a b:Nat):
  FSpec Tryz.prog w0 140 #[.agg #[.int .i64 (a:Nat), .int .i64 (b:Nat)]] H (fun v H'=>(∃ t:Int,v= .int .i64 t∧(t=0↔a≤200∧b≤20))∧H'=H):=by
 refine Ao Tryz.func140 U ntmps140 U (rD tb 2 U (e_ (Lf U cs_) ?_ U));rintro _ _ ⟨n1,rfl,rfl⟩;refine rO tb 7 U (y_ (Lb U isAgg3 qco) ?_ U);refine rO tb 2 U ?_;refine A4 (s:=6) (Aa U) (fun c6=> ?_) (fun c6=> ?_)
 ·refine rO tb 14 U (Ah U (K9 U) ?_);exact⟨_,⟨⟨_,rfl,⟨fun h=>by omega,fun h=>by omega⟩⟩,rfl⟩,sbt⟩
 ·refine rO tb 1 U (A5 (Lb U isAgg3 qco) U (Az U U (Aa U)) ?_);refine rO tb 4 U ?_;refine Ad (Aa U) (fun c10=> ?_) (fun c10=> ?_)
  ·refine rC tb 7 U (Ah U (K9 U) ?_);exact⟨_,⟨⟨_,rfl,⟨fun h=>by omega,fun h=>by omega⟩⟩,rfl⟩,sbt⟩
  ·refine rC tb 8 U (Ah U (K9 U) ?_);exact⟨_,⟨⟨_,rfl,⟨fun h=>by omega,fun h=>by omega⟩⟩,rfl⟩,sbt⟩
theorem frm_s {w0:World}{H:List (Nat × Obj)}(a b:Nat)(t:Bool):
  FSpec Tryz.prog w0 101 #[.agg #[.int .i64 (a:Nat), .int .i64 (b:Nat)], .bool t] H (fun v H'=>(∃ e:Int,v= .int .i64 e∧(e=0↔t=true∧a≤200∧b≤20))∧H'=H):=by
 refine Ao Tryz.func101 U ntmps101 U (rD tb 2 U (e_ (Lf U cs_) ?_ U));rintro _ _ ⟨n2,rfl,rfl⟩;refine rO tb 5 U (y_ (Lc U isAgg165 sizeOf165 U qcs) ?_ U);refine e_ (Ak (qe1 U) call140 (lim_s a b)) ?_ U;rintro _ _ ⟨⟨e0,rfl,he0⟩,rfl⟩;refine rO tb 9 U ?_;refine A4 (s:=10) (Aa U) (fun c10=> ?_) (fun c10=> ?_)
 ·refine rO tb 1 U ?_
  first|refine A5 (A9 (T U)) U (Az U U (Aa U)) ?_|refine A5 (B0 (T U)) U (Az U U (Aa U)) ?_
  refine rO tb 3 U ?_
  first|refine Ad (Aa U) (fun c13=> ?_) (fun c13=> ?_)|refine Bq (Aa U) (fun c13=> ?_) (fun c13=> ?_)
  ·refine rC tb 7 U (Ah U (K9 U) ?_);exact⟨_,⟨⟨_,rfl,⟨fun h=>⟨(by(exfalso;omega)),he0.1 (by first|exact h|omega)⟩,fun h=>by
    have h9:=he0.2 h.2
    first|exact h9|(exfalso;omega)|(exfalso;rw[h.1] at c13;cases c13)⟩⟩,rfl⟩,sbt⟩
  ·refine rC tb 9 U (Ah U (K9 U) ?_);exact⟨_,⟨⟨_,rfl,⟨fun h=>⟨(by first|(exfalso;omega)|(simp_all;done)),he0.1 (by exact h)⟩,fun h=>by
    have h9:=he0.2 h.2;exact h9⟩⟩,rfl⟩,sbt⟩
 ·refine rO tb 15 U (Ah U (K9 U) ?_);exact⟨_,⟨⟨_,rfl,⟨fun h=>⟨(by(exfalso;omega)),he0.1 (by exact h)⟩,fun h=>by
    have h9:=he0.2 h.2;exact h9⟩⟩,rfl⟩,sbt⟩
theorem chkr_s {w0:World}{H:List (Nat × Obj)}(m:Rxm)(hM:RxM w0 H m)(hz:m.sz≤8388608):
  FSpec Tryz.prog w0 44 #[.agg (encRx m).toArray] H (fun v H'=>(∃ e:Int,v= .int .i64 e∧(e=0↔FmOk m∧m.sz≤200∧m.dp≤20))∧H'=H):=by
 refine Ao Tryz.func44 U ntmps44 U (rD tb 2 U (e_ (Lf U cs_) ?_ U));rintro _ _ ⟨n1,rfl,rfl⟩;refine rO tb 4 U (Bh 3 [(0,true),(2,true),(1,false)] _ mixd qkr sb0 ?_ A8);refine o_y U (Lc U isAgg56 sizeOf56 U qcs) ?_ U Ac;refine o_y U (Lc U isAgg56 sizeOf56 U qcs) ?_ U Ac;refine o_e U (Ak (qe1 U) call102 (siz_s m (hM.mono sbt) hz)) ?_ U Ac;rintro _ _ ⟨rfl,rfl⟩;refine⟨sbt,(A7 U (e_ (Ak (qe1 U) call103 (fmd_s m (hM.mono sbt) hz)) ?_ U))⟩;rintro _ _ ⟨⟨t,rfl,ht⟩,rfl⟩;refine e_ (Ak (qe2 U U) call101 (frm_s m.sz m.dp t)) ?_ U;rintro _ _ ⟨⟨e,rfl,he⟩,rfl⟩;refine rO tb 4 U (Ah U (K9 U) ?_);exact⟨_,⟨⟨_,rfl,he.trans (and_congr_left fun _=>ht)⟩,rfl⟩,sbt⟩
theorem few8_s {w0:World}{H:List (Nat × Obj)}(m:Rxm)(hM:RxM w0 H m)(hz:m.sz≤8388608):
  FSpec Tryz.prog w0 40 #[.agg (encRx m).toArray] H (fun v H'=>(∃ t:Bool,v= .bool t∧(t=true→∃ x,Is m x∧m.sz≤40∧x.Nm∧m.dp≤20))∧H'=H):=by
 refine Ao Tryz.func40 U ntmps40 U (rD tb 2 U (e_ (Lf U cs_) ?_ U));rintro _ _ ⟨n1,rfl,rfl⟩;refine rO tb 5 U (y_ (Lc U isAgg56 sizeOf56 U qcs) ?_ U);refine e_ (Ak (qe1 U) call44 (chkr_s m (hM.mono sbt) hz)) ?_ U;rintro _ _ ⟨⟨e,rfl,he⟩,rfl⟩;refine rO tb 8 U ?_;refine A4 (s:=8) (Aa U) (fun c8=> ?_) (fun c8=> ?_)
 ·refine A5 (Lc U isAgg56 sizeOf56 U qcs) U (Az U U (Aa U)) ?_;refine A5 (Ay (qe1 U) call98 (fun H' hs=>cnt_s m (hM.mono (stn hs)) hz)) U (Az U U (Aa U)) (rO tb 3 U ?_);refine A4 (s:=13) (Aa U) (fun c13=> ?_) (fun c13=> ?_)
  ·refine A5 (Lc U isAgg56 sizeOf56 U qcs) U (Az U U (Aa U)) ?_;refine Aw (Ak (qe1 U) call99 (str_s m (hM.mono sbt) hz)) U (Az U U (Aa U)) ?_;rintro _ _ ⟨⟨t,rfl,ht⟩,rfl⟩;refine rO tb 6 U (Ah U (K9 U) ?_);exact⟨_,⟨⟨_,rfl,fun h=>(by(obtain⟨⟨x,hx,hn⟩,_,hd⟩:=he.1 qom;exact⟨x,hx,by omega,hn,hd⟩))⟩,rfl⟩,sbt⟩
  ·refine rO tb 8 U (Ah U (K9 U) ?_);exact⟨_,⟨⟨_,rfl,fun h=>(by first|(obtain⟨⟨x,hx,hn⟩,_,hd⟩:=he.1 qom;exact⟨x,hx,by omega,hn,hd⟩)|cases h)⟩,rfl⟩,sbt⟩
 ·refine rO tb 13 U (Ah U (K9 U) ?_);exact⟨_,⟨⟨_,rfl,fun h=>(by first|(obtain⟨⟨x,hx,hn⟩,_,hd⟩:=he.1 qom;exact⟨x,hx,by omega,hn,hd⟩)|cases h)⟩,rfl⟩,sbt⟩
theorem few_s {w0:World}{H:List (Nat × Obj)}(m:Rxm)(hM:RxM w0 H m)(hz:m.sz≤1048576):
  FSpec Tryz.prog w0 40 #[.agg (encRx m).toArray] H (fun v H'=>(∃ t:Bool,v= .bool t∧(t=true→∃ x,Is m x∧m.sz≤40∧x.Nm∧m.dp≤20))∧H'=H):=few8_s m hM qom
theorem Iv {w0:World}{H:List (Nat × Obj)}(n:Nm)(k:Int):
  FSpec Tryz.prog w0 43 #[.agg (encNm n).toArray, .int .i64 k] H (Still (.bool (decide (0≤k∧k<n.nodes.length))) H):=by
 refine Ao Tryz.func43 U ntmps43 U (rD tb 2 U (e_ (Lf U cs_) ?_ U));rintro _ _ ⟨n2,rfl,rfl⟩;refine rO tb 8 U ?_;refine A4 (s:=7) (Aa U) (fun c7=> ?_) (fun c7=> ?_)
 ·refine rO tb 2 U (A5 (Lb U isAgg22 qco) U (Az U U (Aa U)) ?_);refine rO tb 7 U (Ah U (K9 U) ?_);exact⟨_,⟨by simp[resOf,c7],rfl⟩,sbt⟩
 ·refine rO tb 10 U (Ah U (K9 U) ?_);exact⟨_,⟨by simp[resOf,c7],rfl⟩,sbt⟩
theorem netFew_s {w0:World}{H:List (Nat × Obj)}(n:Nm)(x y z:Int):
  FSpec Tryz.prog w0 11 #[.agg (encNm n).toArray, .int .i64 x, .int .i64 y, .int .i64 z] H (Still (.bool (decide (n.nodes.length≤x∧n.links.length≤y∧n.edges.length≤z))) H):=by
 refine Ao Tryz.func11 U ntmps11 U (rD tb 2 U (e_ (Lf U cs_) ?_ U));rintro _ _ ⟨n4,rfl,rfl⟩;refine rO tb 6 U (y_ (Lb U isAgg22 qco) ?_ U);refine rO tb 4 U ?_;refine A4 (s:=14) (Aa U) (fun c14=> ?_) (fun c14=> ?_)
 ·refine rO tb 1 U (A5 (Lb U isAgg23 qco) U (Az U U (Aa U)) ?_);refine rO tb 5 U ?_;refine A4 (s:=21) (Aa U) (fun c21=> ?_) (fun c21=> ?_)
  ·refine rO tb 1 U (A5 (Lb U isAgg24 qco) U (Az U U (Aa U)) ?_);refine rO tb 8 U (Ah U (K9 U) ?_);exact⟨_,⟨by simp[resOf, *],rfl⟩,sbt⟩
  ·refine rO tb 10 U (Ah U (K9 U) ?_);exact⟨_,⟨by simp[resOf, *],rfl⟩,sbt⟩
 ·refine rO tb 17 U (Ah U (K9 U) ?_);exact⟨_,⟨by simp[resOf, *],rfl⟩,sbt⟩
theorem name_s {w0:World}{H:List (Nat × Obj)}(s:ByteArray)(hs:s.size≤9223372036854775807):
  FSpec Tryz.prog w0 100 #[.string s] H (fun v H'=>(∃ t:Bool,v= .bool t)∧H'=H):=by
 refine Ao Tryz.func100 U ntmps100 U (rD tb 12 U ?_);refine Bd (X:=Nat) (V:=fun k=>[(3, .int .i64 (k:Nat))]) (C:=[(0,_)]) (φ:=fun k=>k≤s.size) (μ:=fun k=>s.size - k) (x0:=0) ?_ ⟨Aa U,trivial⟩ ⟨qat,trivial⟩ ?_
 ·exact Nat.zero_le _
 rintro k hk;refine rD tb 5 U (y_ (Dn (T U) runUnderlying9) (rO tb 3 U ?_) U);refine Ad (Aa U) (fun c9=> ?_) (fun c9=> ?_)
 ·refine rC tb 4 U ?_;refine J3 (X:=Bool) (V:=fun t=>[(4, .bool t)]) (C:=[(0,_),(3,_)]) (φ:=fun t=>True) ⟨Aa U,Aa U,trivial⟩ ?_ ?_
  ·refine rD tb 3 U (y_ (D4 (T U) (T U) runUnderlying9 qom) ?_ U);refine rO tb 2 U ?_;refine A4 (s:=16) (Aa U) (fun c16=> ?_) (fun c16=> ?_)
   ·refine rO tb 2 U (A5 (D4 (T U) (T U) runUnderlying9 qom) U (Az U U (Aa U)) ?_);refine rO tb 4 U ?_;refine Bb (_) ?_ ⟨qat,trivial⟩ ⟨Aa U,Aa U,trivial⟩ sbt
    trivial
   ·refine rO tb 7 U ?_;refine Bb (_) ?_ ⟨qat,trivial⟩ ⟨Aa U,Aa U,trivial⟩ sbt
    trivial
  rintro t -;refine J3 (X:=Bool) (V:=fun t=>[(5, .bool t)]) (C:=[(0,_),(3,_),(4,_)]) (φ:=fun t=>True) ⟨Aa U,Aa U,Aa U,trivial⟩ ?_ ?_
  ·refine rD tb 3 U (y_ (D4 (T U) (T U) runUnderlying9 qom) ?_ U);refine rO tb 2 U ?_;refine A4 (s:=26) (Aa U) (fun c26=> ?_) (fun c26=> ?_)
   ·refine rO tb 2 U (A5 (D4 (T U) (T U) runUnderlying9 qom) U (Az U U (Aa U)) ?_);refine rO tb 3 U ?_;refine A4 (s:=32) (Aa U) (fun c32=> ?_) (fun c32=> ?_)
    ·refine rO tb 7 U ?_;refine Bb (_) ?_ ⟨qat,trivial⟩ ⟨Aa U,Aa U,Aa U,trivial⟩ sbt
     trivial
    ·refine rO tb 2 U (A5 (D4 (T U) (T U) runUnderlying9 qom) U (Az U U (Aa U)) ?_);refine rO tb 4 U ?_;refine Bb (_) ?_ ⟨qat,trivial⟩ ⟨Aa U,Aa U,Aa U,trivial⟩ sbt
     trivial
   ·refine rO tb 8 U (A5 (D4 (T U) (T U) runUnderlying9 qom) U (Az U U (Aa U)) ?_);refine rO tb 4 U ?_;refine Bb (_) ?_ ⟨qat,trivial⟩ ⟨Aa U,Aa U,Aa U,trivial⟩ sbt
    trivial
  rintro t -;refine J3 (X:=Bool) (V:=fun t=>[(47, .bool t)]) (C:=[(0,_),(3,_)]) (φ:=fun t=>True) ⟨Aa U,Aa U,trivial⟩ ?_ ?_
  ·refine rD tb 2 U ?_
   first|refine A5 (A9 (T U)) U Ac ?_|refine A5 (B0 (T U)) U Ac ?_
   refine rO tb 1 U ?_
   first|refine A4 (s:=40) (Aa U) (fun c40=> ?_) (fun c40=> ?_)|refine Ej (s:=40) (Aa U) (fun c40=> ?_) (fun c40=> ?_)
   ·refine rO tb 1 U ?_
    first|refine A5 (A9 (T U)) U (Az U U (Aa U)) ?_|refine A5 (B0 (T U)) U (Az U U (Aa U)) ?_
    refine rO tb 1 U ?_
    first|refine A4 (s:=43) (Aa U) (fun c43=> ?_) (fun c43=> ?_)|refine Ej (s:=43) (Aa U) (fun c43=> ?_) (fun c43=> ?_)
    ·refine rO tb 5 U ?_;refine Bb (_) ?_ ⟨qat,trivial⟩ ⟨Aa U,Aa U,trivial⟩ sbt
     trivial
    ·refine rO tb 5 U ?_;refine Bb (_) ?_ ⟨qat,trivial⟩ ⟨Aa U,Aa U,trivial⟩ sbt
     trivial
   ·refine rO tb 8 U ?_;refine Bb (_) ?_ ⟨qat,trivial⟩ ⟨Aa U,Aa U,trivial⟩ sbt
    trivial
  rintro t -
  first|refine Ad (Aa U) (fun c47=> ?_) (fun c47=> ?_)|refine Bq (Aa U) (fun c47=> ?_) (fun c47=> ?_)
  ·refine rC tb 8 U (As (rX tb 2 U (Ah U (K9 U) ?_)));exact⟨_,⟨⟨_,rfl⟩,rfl⟩,sbt⟩
  ·refine rC tb 5 U (y_ (Av (T U) Ap qom) ?_ U);refine rO tb 2 U ?_;refine Ar (k+1) ?_ ?_ ⟨qat,trivial⟩ ⟨Aa U,trivial⟩ ?_
   ·show k+1≤_;omega
   ·omega
   ·exact sbt
 ·refine rC tb 2 U (Ag (rX tb 5 U (y_ (Dn (T U) runUnderlying9) (rO tb 2 U ?_) U)));refine A4 (s:=51) (Aa U) (fun c51=> ?_) (fun c51=> ?_)
  ·refine rO tb 1 U (A5 (Dn (T U) runUnderlying9) U (Az U U (Aa U)) (rO tb 6 U (Ah U (K9 U) ?_)));exact⟨_,⟨⟨_,rfl⟩,rfl⟩,sbt⟩
  ·refine rO tb 8 U (Ah U (K9 U) ?_);exact⟨_,⟨⟨_,rfl⟩,rfl⟩,sbt⟩
theorem names_s {w0:World}{H:List (Nat × Obj)}(n:Nm)(hn:NetM w0 H n)(h1:n.nodes.length≤1000000)(h2:n.edges.length≤1000000):
  FSpec Tryz.prog w0 41 #[.agg (encNm n).toArray] H (fun v H'=>∃ d1 d2:Sl,v= .tuple #[slV d1 (n.nodes.map (·.name)).length,slV d2 (n.edges.map (·.name)).length]∧SlOk d1 (n.nodes.map (·.name)).length 1∧SlOk d2 (n.edges.map (·.name)).length 1∧H'=slH d2 ((n.edges.map (·.name)).flatMap encS) 9++(slH d1 ((n.nodes.map (·.name)).flatMap encS) 9++H)):=by
 refine Ao Tryz.func41 U ntmps41 U (rD tb 2 U (e_ (Lf U cs_) ?_ U));rintro _ _ ⟨n1,rfl,rfl⟩;refine rO tb 21 U ?_;refine j_loopG (X:=Nat × Sl × List ByteArray) (V:=fun ⟨k,d,l⟩=>[(6, .int .i64 (k:Nat)),(4,slV d l.length)]) (C:=[(1,_),(5,_)]) (G:=fun ⟨k,d,l⟩=>slH d (l.flatMap encS) 9) (Hc:=_) (φ:=fun ⟨k,d,l⟩=>k≤n.nodes.length∧l=(n.nodes.take k).map (·.name)∧SlOk d l.length 1) (μ:=fun ⟨k,d,l⟩=>n.nodes.length - k) (x0:=(0, .nil,[])) ?_ ⟨Aa rfl,Aa rfl,trivial⟩ ⟨qat,qat,trivial⟩ sb0 ?_
 ·exact⟨Nat.zero_le _,rfl,rfl⟩
 rintro⟨k,d,l⟩ ⟨hk,hl,hok⟩;have hlen:l.length=k:=by rw[hl];simp;omega
 refine rD tb 5 U (y_ (Lb U isAgg22 qco) ?_ U);refine rO tb 4 U ?_;refine Ad (Aa U) (fun c12=> ?_) (fun c12=> ?_)
 ·refine rC tb 7 U (y_ (Lb U isAgg22 qco) ?_ U);refine rO tb 1 U (y_ (Ld U U runUnderlying22 sizeOf85 qom (by first|exact rfl|exact hn.nodes.b (i:=k) qom)) ?_ U);refine rO tb 1 U (y_ (Lb U isAgg9 (by first|exact c_o|exact c_m (hn.nodes.f0 qom U))) ?_ U);refine e_ (Aj (.cons (T U) .nil) (Cc _)) ?_ U;rintro _ _ ⟨n22,rfl,rfl⟩;refine e_ (eff_app1 ((gd n.nodes k).name) (A:=[_]) (by':=16) (T U) (T U) runUnderlying64 runUnderlying64 sizeOf9 typeInfo9 U zeroValue9 U (fun _=>rfl) U hok qde qom) ?_ U;rintro _ _ ⟨d',rfl,hok',rfl⟩;refine rO tb 6 U (y_ (Av (T U) Ap qom) ?_ U);refine rO tb 2 U ?_;refine Ar ((k+1,d',l++[(gd n.nodes k).name])) ?_ ?_ ⟨qat,atd,trivial⟩ ⟨Aa U,Aa U,trivial⟩ ?_
  ·exact⟨by omega,by rw[hl,Ch qom,List.map_append];rfl,by simpa using hok'⟩
  ·first|omega|(simp only[];omega)
  ·exact sbt
 ·refine rC tb 2 U (Ag (rX tb 9 U ?_));refine j_loopG (X:=Nat × Sl × List ByteArray) (V:=fun ⟨k2,d2,l2⟩=>[(7, .int .i64 (k2:Nat)),(5,slV d2 l2.length)]) (C:=[(1,_),(4,_)]) (G:=fun ⟨k2,d2,l2⟩=>slH d2 (l2.flatMap encS) 9) (Hc:=_) (φ:=fun ⟨k2,d2,l2⟩=>k2≤n.edges.length∧l2=(n.edges.take k2).map (·.name)∧SlOk d2 l2.length 1) (μ:=fun ⟨k2,d2,l2⟩=>n.edges.length - k2) (x0:=(0, .nil,[])) ?_ ⟨Aa rfl,Aa rfl,trivial⟩ ⟨qat,qat,trivial⟩ sb0 ?_
  ·exact⟨Nat.zero_le _,rfl,rfl⟩
  rintro⟨k2,d2,l2⟩ ⟨hk2,hl2,hok2⟩;have hlen2:l2.length=k2:=by rw[hl2];simp;omega
  refine rD tb 5 U (y_ (Lb U isAgg24 qco) ?_ U);refine rO tb 4 U ?_;refine Ad (Aa U) (fun c28=> ?_) (fun c28=> ?_)
  ·refine rC tb 7 U (y_ (Lb U isAgg24 qco) ?_ U);refine rO tb 1 U (y_ (Ld U U runUnderlying24 sizeOf88 qom (by first|exact rfl|exact hn.nodes.b (i:=k) qom|exact hn.edges.b (i:=k2) qom)) ?_ U);refine rO tb 1 U (y_ (Lb U isAgg9 (by first|exact c_o|exact c_m (hn.nodes.f0 qom U)|exact c_m (hn.edges.f0 qom U))) ?_ U);refine e_ (Aj (.cons (T U) .nil) (Cc _)) ?_ U;rintro _ _ ⟨n38,rfl,rfl⟩;refine e_ (eff_app1 ((gd n.edges k2).name) (A:=[_]) (by':=16) (T U) (T U) runUnderlying64 runUnderlying64 sizeOf9 typeInfo9 U zeroValue9 U (fun _=>rfl) U hok2 qde qom) ?_ U;rintro _ _ ⟨d',rfl,hok',rfl⟩;refine rO tb 6 U (y_ (Av (T U) Ap qom) ?_ U);refine rO tb 2 U ?_;refine Ar ((k2+1,d',l2++[(gd n.edges k2).name])) ?_ ?_ ⟨qat,atd,trivial⟩ ⟨Aa U,Aa U,trivial⟩ ?_
   ·exact⟨by omega,by rw[hl2,Ch qom,List.map_append];rfl,by simpa using hok'⟩
   ·first|omega|(simp only[];omega)
   ·exact sbt
  ·refine rC tb 2 U (Ag (rX tb 11 U (Ah U (.tmp (Aa U) (K9 U)) ?_)));rw[List.take_of_length_le qom] at hl hl2;rw[← hl,← hl2];exact⟨_,⟨d,d2,rfl,hok,hok2,rfl⟩,sbt⟩
theorem named_s {w0:World}{H:List (Nat × Obj)}(q:Option Addr)(cap:Nat)(l:List ByteArray)(ha:Arr w0 H q 1 encS l)(hb:∀ x∈l,x.size≤9223372036854775807)(hl:l.length≤1000000):
  FSpec Tryz.prog w0 42 #[.slice q l.length cap] H (fun v H'=>(∃ t:Bool,v= .bool t)∧H'=H):=by
 refine Ao Tryz.func42 U ntmps42 U (rD tb 12 U ?_);refine Bd (X:=Nat) (V:=fun k=>[(3, .int .i64 (k:Nat))]) (C:=[(0,_)]) (φ:=fun k=>k≤l.length) (μ:=fun k=>l.length - k) (x0:=0) ?_ ⟨Aa U,trivial⟩ ⟨qat,trivial⟩ ?_
 ·exact Nat.zero_le _
 rintro k hk;refine rD tb 9 U ?_;refine Ad (Aa U) (fun c9=> ?_) (fun c9=> ?_)
 ·refine rC tb 8 U (y_ (Ld U U runUnderlying64 sizeOf9 qom (by first|exact rfl|exact ha.b (i:=k) qom)) ?_ U);refine y_ (Lb U isAgg9 (by first|exact c_o|exact c_m (ha.f0 (i:=k) qom U))) ?_ U;refine e_ (Ak (qe1 U) call100 (name_s _ (hb _ (Af (i:=k) qom)))) ?_ U;rintro _ _ ⟨⟨t,rfl⟩,rfl⟩;refine rO tb 7 U ?_
  first|refine A5 (A9 (T U)) U Ac ?_|refine A5 (B0 (T U)) U Ac ?_
  refine rO tb 2 U ?_
  first|refine Ad (Aa U) (fun c18=> ?_) (fun c18=> ?_)|refine Bq (Aa U) (fun c18=> ?_) (fun c18=> ?_)
  ·refine rC tb 9 U (As (rX tb 2 U (Ah U (K9 U) ?_)));exact⟨_,⟨⟨_,rfl⟩,rfl⟩,sbt⟩
  ·refine rC tb 8 U ?_;refine Bd (X:=Nat) (V:=fun k2=>[(5, .int .i64 (k2:Nat))]) (C:=[(0,_),(3,_)]) (φ:=fun k2=>k2≤k) (μ:=fun k2=>k - k2) (x0:=0) ?_ ⟨Aa U,Aa U,trivial⟩ ⟨qat,trivial⟩ ?_
   ·exact Nat.zero_le _
   rintro k2 hk2;refine rD tb 8 U ?_;refine Ad (Aa U) (fun c21=> ?_) (fun c21=> ?_)
   ·refine rC tb 5 U (Bh 9 [(0,true),(1,true),(2,true),(3,true),(4,true),(5,true),(6,true),(7,true),(8,true)] _ mixd qkr sb0 ?_ A8);refine rP tb 2 U (o_y U (Ld U U runUnderlying64 sizeOf9 qom (by first|exact rfl|exact ha.b (i:=k) qom)) ?_ U Ac);refine o_y U (Lb U isAgg9 (by first|exact c_o|exact c_m (ha.f0 (i:=k) qom U)|exact c_m (ha.f0 (i:=k2) qom U))) ?_ U Ac;refine rP tb 2 U (o_y U (Bi (T U) (T U) runUnderlying64 sizeOf9 qom (by first|exact rfl|exact ha.b (i:=k) qom)) ?_ U Ac);refine o_y U (Lb U isAgg9 (by first|exact c_o|exact c_m (ha.f0 (i:=k) qom U))) ?_ U Ac;refine o_y U (J5 (T U) (T U)) (A7 U (rO tb 2 U ?_)) U Ac
    first|refine Ad (Aa U) (fun c32=> ?_) (fun c32=> ?_)|refine Bq (Aa U) (fun c32=> ?_) (fun c32=> ?_)
    ·refine rC tb 8 U (As (rX tb 3 U (As (rX tb 2 U (Ah U (K9 U) ?_)))));exact⟨_,⟨⟨_,rfl⟩,rfl⟩,sbt⟩
    ·refine rC tb 5 U (y_ (Av (T U) Ap qom) ?_ U);refine rO tb 2 U ?_;refine Ar (k2+1) ?_ ?_ ⟨qat,trivial⟩ ⟨Aa U,Aa U,trivial⟩ ?_
     ·show k2+1≤_;omega
     ·omega
     ·exact sbt
   ·refine rC tb 2 U (Ag (rX tb 5 U (y_ (Av (T U) Ap qom) ?_ U)));refine rO tb 2 U ?_;refine Ar (k+1) ?_ ?_ ⟨qat,trivial⟩ ⟨Aa U,trivial⟩ ?_
    ·show k+1≤_;omega
    ·omega
    ·exact sbt
 ·refine rC tb 2 U (Ag (rX tb 8 U (Ah U (K9 U) ?_)));exact⟨_,⟨⟨_,rfl⟩,rfl⟩,sbt⟩
theorem netCheck_s {w0:World}{H:List (Nat × Obj)}(n:Nm)(hn:NetM w0 H n):
  FSpec Tryz.prog w0 13 #[.agg (encNm n).toArray] H (fun v H'=>(∃ e:Int,v= .int .i64 e∧(e=0→NetOk n))∧H'=H):=by
 refine Ao Tryz.func13 U ntmps13 U ?_;have hln:=hn.ln;have hll:=hn.ll;have hle:=hn.le;refine rD tb 2 U (e_ (Lf U cs_) ?_ U);rintro _ _ ⟨n1,rfl,rfl⟩;refine rO tb 7 U (y_ (Lb U isAgg22 qco) ?_ U);refine rO tb 3 U ?_;refine A4 (s:=16) (Aa U) (fun c16=> ?_) (fun c16=> ?_)
 ·refine rO tb 21 U (Ah U (K9 U) ?_);exact⟨_,⟨⟨_,rfl,fun h=>by(exfalso;omega)⟩,rfl⟩,sbt⟩
 ·refine rO tb 1 U (A5 (Lb U isAgg23 qco) U (Az U U (Aa U)) ?_);refine rO tb 4 U ?_;refine A4 (s:=22) (Aa U) (fun c22=> ?_) (fun c22=> ?_)
  ·refine rO tb 15 U (Ah U (K9 U) ?_);exact⟨_,⟨⟨_,rfl,fun h=>by(exfalso;omega)⟩,rfl⟩,sbt⟩
  ·refine rO tb 1 U (A5 (Lb U isAgg24 qco) U (Az U U (Aa U)) ?_);refine rO tb 5 U ?_;refine Ad (Aa U) (fun c27=> ?_) (fun c27=> ?_)
   ·refine rC tb 7 U (Ah U (K9 U) ?_);exact⟨_,⟨⟨_,rfl,fun h=>by(exfalso;omega)⟩,rfl⟩,sbt⟩
   ·refine rC tb 4 U (y_ (Lc U isAgg26 sizeOf26 U qcs) ?_ U);refine e_ (Ak (qe1 U) call41 (names_s n (hn.mono) qom qom)) ?_ U;rintro _ _ ⟨d1,d2,rfl,hok1,hok2,rfl⟩;refine rO tb 10 rfl (e_ (Ak (qe1 rfl) call42 (named_s _ _ _ ((A1 (enc:=encS) (sz:=1) (fun _=>rfl) hok1).mono (List.sublist_append_right _ _)) (by intro x hx;obtain⟨y,hy,rfl⟩:=List.mem_map.1 hx;exact hn.sn y hy) (by simp;omega))) ?_ rfl);rintro _ _ ⟨⟨t1,rfl⟩,rfl⟩;refine rO tb 6 rfl (e_ (Ak (qe1 rfl) call42 (named_s _ _ _ (A1 (enc:=encS) (sz:=1) (fun _=>rfl) hok2) (by intro x hx;obtain⟨y,hy,rfl⟩:=List.mem_map.1 hx;exact hn.se y hy) (by simp;omega))) ?_ rfl);rintro _ _ ⟨⟨t2,rfl⟩,rfl⟩;refine kO tb 3 [1,5,6] rfl U (rG tb 4 U ?_)
    first|refine A5 (A9 (T U)) U Ac ?_|refine A5 (B0 (T U)) U Ac ?_
    refine rO tb 1 U ?_
    first|refine A4 (s:=39) (Aa U) (fun c39=> ?_) (fun c39=> ?_)|refine Ej (s:=39) (Aa U) (fun c39=> ?_) (fun c39=> ?_)
    ·refine rO tb 13 U (Ah U (K9 U) ?_);exact⟨_,⟨⟨_,rfl,fun h=>by(exfalso;omega)⟩,rfl⟩,sbt⟩
    ·refine rO tb 1 U ?_
     first|refine A5 (A9 (T U)) U (Az U U (Aa U)) ?_|refine A5 (B0 (T U)) U (Az U U (Aa U)) ?_
     refine rO tb 3 U ?_
     first|refine Ad (Aa U) (fun c42=> ?_) (fun c42=> ?_)|refine Bq (Aa U) (fun c42=> ?_) (fun c42=> ?_)
     ·refine rC tb 7 U (Ah U (K9 U) ?_);exact⟨_,⟨⟨_,rfl,fun h=>by(exfalso;omega)⟩,rfl⟩,sbt⟩
     ·refine rC tb 9 U ?_;refine Bd (X:=Nat) (V:=fun k=>[(7, .int .i64 (k:Nat))]) (C:=[(1,_)]) (φ:=fun k=>k≤n.nodes.length) (μ:=fun k=>n.nodes.length - k) (x0:=0) ?_ ⟨Aa U,trivial⟩ ⟨qat,trivial⟩ ?_
      ·exact Nat.zero_le _
      rintro k hk;refine rD tb 5 U (y_ (Lb U isAgg22 qco) ?_ U);refine rO tb 4 U ?_;refine Ad (Aa U) (fun c47=> ?_) (fun c47=> ?_)
      ·refine rC tb 7 U (y_ (Lb U isAgg22 qco) ?_ U);refine rO tb 1 U (y_ (Ld U U runUnderlying22 sizeOf85 qom (by first|exact rfl|exact hn.nodes.b (i:=k) qom)) ?_ U);refine y_ (Lc U isAgg85 sizeOf85 U (by exact K6 (hn.nodes.cs (i:=k) qom))) ?_ U;refine e_ (Ai zeroValue85 cs_) ?_ U;rintro _ _ ⟨n8,rfl,rfl⟩;refine Aw (Le U U sizeOf85) U Ac ?_;rintro _ _ ⟨rfl,rfl⟩;refine rO tb 5 U (y_ (Lb U isAgg3 qco) ?_ U);refine rO tb 2 U ?_;refine A4 (s:=58) (Aa U) (fun c58=> ?_) (fun c58=> ?_)
       ·refine kO tb 16 [1,7,72] rfl U (rG tb 9 U (As (rX tb 2 U (Ah U (K9 U) ?_))));exact⟨_,⟨⟨_,rfl,fun h=>by(exfalso;omega)⟩,rfl⟩,sbt⟩
       ·refine rO tb 1 U (A5 (Lb U isAgg3 qco) U (Az U U (Aa U)) ?_);refine rO tb 3 U ?_;refine A4 (s:=63) (Aa U) (fun c63=> ?_) (fun c63=> ?_)
        ·refine kO tb 11 [1,7,72] rfl U (rG tb 9 U (As (rX tb 2 U (Ah U (K9 U) ?_))));exact⟨_,⟨⟨_,rfl,fun h=>by(exfalso;omega)⟩,rfl⟩,sbt⟩
        ·refine rO tb 1 U (A5 (Lb U isAgg3 qco) U (Az U U (Aa U)) ?_);refine rO tb 3 U ?_;refine A4 (s:=68) (Aa U) (fun c68=> ?_) (fun c68=> ?_)
         ·refine kO tb 6 [1,7,72] rfl U (rG tb 9 U (As (rX tb 2 U (Ah U (K9 U) ?_))));exact⟨_,⟨⟨_,rfl,fun h=>by(exfalso;omega)⟩,rfl⟩,sbt⟩
         ·refine rO tb 1 U (A5 (Lb U isAgg3 qco) U (Az U U (Aa U)) ?_);refine kO tb 4 [1,7,72] rfl U ?_;refine Ad (Aa U) (fun c72=> ?_) (fun c72=> ?_)
          ·refine rC tb 8 U (As (rX tb 2 U (Ah U (K9 U) ?_)));exact⟨_,⟨⟨_,rfl,fun h=>by(exfalso;omega)⟩,rfl⟩,sbt⟩
          ·refine rC tb 5 U (y_ (Av (T U) Ap qom) ?_ U);refine rO tb 2 U ?_;refine Ar (k+1) ?_ ?_ ⟨qat,trivial⟩ ⟨Aa U,trivial⟩ ?_
           ·show k+1≤_;omega
           ·omega
           ·exact sbt
      ·refine rC tb 2 U (Ag (rX tb 9 U ?_));refine Bd (X:=Nat) (V:=fun k2=>[(9, .int .i64 (k2:Nat))]) (C:=[(1,_)]) (φ:=fun k2=>k2≤n.links.length∧∀ i,i<k2→LnkOk n (gd n.links i)) (μ:=fun k2=>n.links.length - k2) (x0:=0) ?_ ⟨Aa U,trivial⟩ ⟨qat,trivial⟩ ?_
       ·exact⟨Nat.zero_le _,fun i hi=>by omega⟩
       rintro k2 ⟨hk2,hl2⟩;refine rD tb 5 U (y_ (Lb U isAgg23 qco) ?_ U);refine rO tb 4 U ?_;refine Ad (Aa U) (fun c77=> ?_) (fun c77=> ?_)
       ·refine rC tb 7 U (y_ (Lb U isAgg23 qco) ?_ U);refine rO tb 1 U (y_ (Ld U U runUnderlying23 sizeOf61 qom (by first|exact rfl|exact hn.nodes.b (i:=k) qom|exact hn.links.b (i:=k2) qom)) ?_ U);refine y_ (Lc U isAgg61 sizeOf61 U (by exact K6 (hn.links.cs (i:=k2) qom))) ?_ U;refine e_ (Ai zeroValue61 cs_) ?_ U;rintro _ _ ⟨n10,rfl,rfl⟩;refine Aw (Le U U sizeOf61) U Ac ?_;rintro _ _ ⟨rfl,rfl⟩;refine rO tb 4 U (y_ (Lc U isAgg26 sizeOf26 U qcs) ?_ U);refine rO tb 1 U (y_ (Lb U isAgg3 qco) ?_ U);refine y_ (Ay (qe2 U U) call43 (fun H' hs=>Iv _ _)) ?_ U;refine A5 (A9 (T U)) U Ac ?_;refine rO tb 1 U ?_;refine A4 (s:=90) (Aa U) (fun c90=> ?_) (fun c90=> ?_)
        ·refine kO tb 25 [1,9,113] rfl U (rG tb 9 U (As (rX tb 2 U (Ah U (K9 U) ?_))));exact⟨_,⟨⟨_,rfl,fun h=>by(exfalso;omega)⟩,rfl⟩,sbt⟩
        ·refine A5 (Lc U isAgg26 sizeOf26 U qcs) U (Az U U (Aa U)) ?_;refine rO tb 1 U (A5 (Lb U isAgg3 qco) U (Az U U (Aa U)) ?_);refine A5 (Ay (qe2 U U) call43 (fun H' hs=>Iv _ _)) U (Az U U (Aa U)) ?_;refine A5 (A9 (T U)) U (Az U U (Aa U)) ?_;refine rO tb 2 U ?_;refine A4 (s:=97) (Aa U) (fun c97=> ?_) (fun c97=> ?_)
         ·refine kO tb 18 [1,9,113] rfl U (rG tb 9 U (As (rX tb 2 U (Ah U (K9 U) ?_))));exact⟨_,⟨⟨_,rfl,fun h=>by(exfalso;omega)⟩,rfl⟩,sbt⟩
         ·refine rO tb 1 U (A5 (Lb U isAgg3 qco) U (Az U U (Aa U)) ?_);refine rO tb 1 U (A5 (Lb U isAgg3 qco) U (Az U U (Aa U)) ?_);refine rO tb 3 U ?_;refine A4 (s:=104) (Aa U) (fun c104=> ?_) (fun c104=> ?_)
          ·refine kO tb 11 [1,9,113] rfl U (rG tb 9 U (As (rX tb 2 U (Ah U (K9 U) ?_))));exact⟨_,⟨⟨_,rfl,fun h=>by(exfalso;omega)⟩,rfl⟩,sbt⟩
          ·refine rO tb 1 U (A5 (Lb U isAgg3 qco) U (Az U U (Aa U)) ?_);refine rO tb 3 U ?_;refine A4 (s:=109) (Aa U) (fun c109=> ?_) (fun c109=> ?_)
           ·refine kO tb 6 [1,9,113] rfl U (rG tb 9 U (As (rX tb 2 U (Ah U (K9 U) ?_))));exact⟨_,⟨⟨_,rfl,fun h=>by(exfalso;omega)⟩,rfl⟩,sbt⟩
           ·refine rO tb 1 U (A5 (Lb U isAgg3 qco) U (Az U U (Aa U)) ?_);refine kO tb 4 [1,9,113] rfl U ?_;refine Ad (Aa U) (fun c113=> ?_) (fun c113=> ?_)
            ·refine rC tb 8 U (As (rX tb 2 U (Ah U (K9 U) ?_)));exact⟨_,⟨⟨_,rfl,fun h=>by(exfalso;omega)⟩,rfl⟩,sbt⟩
            ·refine rC tb 5 U (y_ (Av (T U) Ap qom) ?_ U);refine rO tb 2 U ?_;refine Ar (k2+1) ?_ ?_ ⟨qat,trivial⟩ ⟨Aa U,trivial⟩ ?_
             ·refine⟨by omega,fun i hi=> ?_⟩
              by_cases e:i=k2
              ·subst e;exact⟨by omega,by omega,by omega,by omega,by omega,by omega,by omega⟩
              ·exact hl2 i qom
             ·omega
             ·exact sbt
       ·refine rC tb 2 U (Ag (rX tb 9 U ?_));refine Bd (X:=Nat) (V:=fun k3=>[(11, .int .i64 (k3:Nat))]) (C:=[(1,_)]) (φ:=fun k3=>k3≤n.edges.length∧∀ i,i<k3→0≤(gd n.edges i).node∧(gd n.edges i).node<n.nodes.length) (μ:=fun k3=>n.edges.length - k3) (x0:=0) ?_ ⟨Aa U,trivial⟩ ⟨qat,trivial⟩ ?_
        ·exact⟨Nat.zero_le _,fun i hi=>by omega⟩
        rintro k3 ⟨hk3,hl3⟩;refine rD tb 5 U (y_ (Lb U isAgg24 qco) ?_ U);refine rO tb 4 U ?_;refine Ad (Aa U) (fun c118=> ?_) (fun c118=> ?_)
        ·refine rC tb 5 U (Bh 9 [(0,true),(1,true),(2,true),(3,true),(4,true),(5,true),(6,true),(7,true),(8,true)] _ mixd qkr sb0 ?_ A8);refine o_y U (Lc U isAgg26 sizeOf26 U qcs) ?_ U Ac;refine rP tb 1 U (o_y U (Lb U isAgg24 qco) ?_ U Ac);refine rP tb 1 U (o_y U (Ld U U runUnderlying24 sizeOf88 qom (by first|exact rfl|exact hn.nodes.b (i:=k) qom|exact hn.links.b (i:=k2) qom|exact hn.edges.b (i:=k3) qom)) ?_ U Ac);refine rP tb 1 U (o_y U (Lb U isAgg3 (by first|exact c_o|exact c_m (hn.nodes.f0 (i:=k) qom U)|exact c_m (hn.edges.f0 (i:=k3) qom U)|exact c_m (hn.edges.f (i:=k3) qom U))) ?_ U Ac);refine o_y U (Ay (qe2 U U) call43 (fun H' hs=>Iv _ _)) ?_ U Ac;refine o_y U (A9 (T U)) ?_ U Ac;refine A7 U (rO tb 2 U ?_);refine Ad (Aa U) (fun c129=> ?_) (fun c129=> ?_)
         ·refine rC tb 8 U (As (rX tb 2 U (Ah U (K9 U) ?_)));exact⟨_,⟨⟨_,rfl,fun h=>by(exfalso;omega)⟩,rfl⟩,sbt⟩
         ·refine rC tb 5 U (y_ (Av (T U) Ap qom) ?_ U);refine rO tb 2 U ?_;refine Ar (k3+1) ?_ ?_ ⟨qat,trivial⟩ ⟨Aa U,trivial⟩ ?_
          ·refine⟨by omega,fun i hi=> ?_⟩
           by_cases e:i=k3
           ·subst e;omega
           ·exact hl3 i qom
          ·omega
          ·exact sbt
        ·refine rC tb 2 U (Ag (rX tb 8 U (Ah U (K9 U) ?_)));exact⟨_,⟨⟨_,rfl,fun h=>by first|(exfalso;omega)|exact⟨fun i hi=>hl2 i qom,fun i hi=>hl3 i qom⟩⟩,rfl⟩,sbt⟩
theorem chkF_s {w0:World}{H:List (Nat × Obj)}(n:Nm)(hn:NetM w0 H n)(f:Flr)(hf:Arr w0 H f.q 1 encI f.links)(hfl:f.links.length≤9223372036854775807):
  FSpec Tryz.prog w0 14 #[.agg (encNm n).toArray, .agg (encFl f).toArray] H (fun v H'=>(∃ e:Int,v= .int .i64 e)∧H'=H):=by
 refine Ao Tryz.func14 U ntmps14 U (rD tb 2 U (e_ (Lf U cs_) ?_ U));rintro _ _ ⟨n2,rfl,rfl⟩;refine e_ (Lf U cs_) ?_ U;rintro _ _ ⟨n3,rfl,rfl⟩;refine rO tb 10 U ?_;refine Bd (X:=Nat) (V:=fun k=>[(5, .int .i64 (k:Nat))]) (C:=[(2,_),(3,_)]) (φ:=fun k=>k≤f.links.length) (μ:=fun k=>f.links.length - k) (x0:=0) ?_ ⟨Aa U,Aa U,trivial⟩ ⟨qat,trivial⟩ ?_
 ·exact Nat.zero_le _
 rintro k hk;refine rD tb 5 U (y_ (Lb U isAgg27 qco) ?_ U);refine rO tb 4 U ?_;refine Ad (Aa U) (fun c10=> ?_) (fun c10=> ?_)
 ·refine rC tb 5 U (Bh 35 [(0,true),(1,true),(2,true),(3,true),(4,true),(5,true),(6,true),(7,true),(8,true),(9,true),(10,true),(11,true),(12,true),(13,true),(14,true),(15,true),(16,true),(17,true),(18,true),(19,true),(20,true),(21,true),(22,true),(23,true),(24,true),(25,true),(26,true),(27,true),(28,true),(29,true),(30,true),(31,true),(32,true),(33,true),(34,true)] _ mixd qkr sb0 ?_ A8);refine rP tb 1 U (o_y U (Lb U isAgg27 qco) ?_ U Ac);refine rP tb 1 U (o_y U (Ld U U runUnderlying27 sizeOf3 qom (by first|exact rfl|exact hf.b (i:=k) qom)) ?_ U Ac);refine o_y U (Lb U isAgg3 (by first|exact c_o|exact cell1 ((hf.mono sbt).cs (i:=k) qom))) ?_ U Ac;refine rP tb 2 U ?_;refine Cd (s:=19) (Aa U) (fun c19=> ?_) (fun c19=> ?_)
  ·refine rP tb 28 U (A7 U (kO tb 2 [2,3,5,47] rfl U (rG tb 9 U (As (rX tb 2 U (Ah U (K9 U) ?_))))));exact⟨_,⟨⟨_,rfl⟩,rfl⟩,sbt⟩
  ·refine rP tb 1 U (o_y U (Lb U isAgg27 qco) ?_ U (Az U U (Aa U)));refine rP tb 1 U (o_y U (Ld U U runUnderlying27 sizeOf3 qom (by first|exact rfl|exact hf.b (i:=k) qom)) ?_ U (Az U U (Aa U)));refine o_y U (Lb U isAgg3 (by first|exact c_o|exact cell1 ((hf.mono sbt).cs (i:=k) qom))) ?_ U (Az U U (Aa U));refine rP tb 1 U (o_y U (Lb U isAgg23 qco) ?_ U (Az U U (Aa U)));refine rP tb 4 U ?_;refine Cd (s:=30) (Aa U) (fun c30=> ?_) (fun c30=> ?_)
   ·refine rP tb 17 U (A7 U (kO tb 2 [2,3,5,47] rfl U (rG tb 9 U (As (rX tb 2 U (Ah U (K9 U) ?_))))));exact⟨_,⟨⟨_,rfl⟩,rfl⟩,sbt⟩
   ·refine rP tb 3 U ?_;refine Cd (s:=33) (Aa U) (fun c33=> ?_) (fun c33=> ?_)
    ·refine rP tb 1 U (o_y U (Lb U isAgg27 qco) ?_ U (Az U U (Aa U)));refine rP tb 1 U (o_y U (Hz (T U) Ap qom) ?_ U (Az U U (Aa U)));refine o_y U (Bi (T U) (T U) runUnderlying27 sizeOf3 qom (by first|exact rfl|exact hf.b (i:=k) qom)) ?_ U (Az U U (Aa U));refine o_y U (Lb U isAgg3 (by first|exact c_o|exact cell1 ((hf.mono sbt).cs (i:=((k:Int) - 1).toNat) qom))) ?_ U (Az U U (Aa U));refine rP tb 1 U (o_y U (Lb U isAgg27 qco) ?_ U (Az U U (Aa U)));refine rP tb 1 U (o_y U (Ld U U runUnderlying27 sizeOf3 qom (by first|exact rfl|exact hf.b (i:=k) qom)) ?_ U (Az U U (Aa U)));refine o_y U (Lb U isAgg3 (by first|exact c_o|exact cell1 ((hf.mono sbt).cs (i:=k) qom))) ?_ U (Az U U (Aa U));refine rP tb 3 U (A7 U (kO tb 2 [2,3,5,47] rfl U ?_));refine Ad (Aa U) (fun c47=> ?_) (fun c47=> ?_)
     ·refine rC tb 8 U (As (rX tb 2 U (Ah U (K9 U) ?_)));exact⟨_,⟨⟨_,rfl⟩,rfl⟩,sbt⟩
     ·refine rC tb 5 U (y_ (Av (T U) Ap qom) ?_ U);refine rO tb 2 U ?_;refine Ar (k+1) ?_ ?_ ⟨qat,trivial⟩ ⟨Aa U,Aa U,trivial⟩ ?_
      ·show k+1≤_;omega
      ·omega
      ·exact sbt
    ·refine rP tb 14 U (A7 U (kO tb 2 [2,3,5,47] rfl U (rG tb 6 U (y_ (Av (T U) Ap qom) ?_ U))));refine rO tb 2 U ?_;refine Ar (k+1) ?_ ?_ ⟨qat,trivial⟩ ⟨Aa U,Aa U,trivial⟩ ?_
     ·show k+1≤_;omega
     ·omega
     ·exact sbt
 ·refine rC tb 2 U (Ag (rX tb 6 U (y_ (Lb U isAgg3 qco) ?_ U)));refine rO tb 2 U ?_;refine A4 (s:=51) (Aa U) (fun c51=> ?_) (fun c51=> ?_)
  ·refine A5 (Lc U isAgg26 sizeOf26 U qcs) U (Az U U (Aa U)) ?_;refine rO tb 1 U (A5 (Lb U isAgg3 qco) U (Az U U (Aa U)) ?_);refine A5 (Ay (qe2 U U) call43 (fun H' hs=>Iv _ _)) U (Az U U (Aa U)) ?_;refine A5 (A9 (T U)) U (Az U U (Aa U)) ?_;refine rO tb 3 U ?_;refine Ad (Aa U) (fun c57=> ?_) (fun c57=> ?_)
   ·refine rC tb 7 U (Ah U (K9 U) ?_);exact⟨_,⟨⟨_,rfl⟩,rfl⟩,sbt⟩
   ·refine rC tb 8 U (Ah U (K9 U) ?_);exact⟨_,⟨⟨_,rfl⟩,rfl⟩,sbt⟩
  ·refine rO tb 17 U (Ah U (K9 U) ?_);exact⟨_,⟨⟨_,rfl⟩,rfl⟩,sbt⟩
theorem snoc_ind {α:Type}{Q:List α→Prop}(h0:Q [])(h1:∀ l a,Q l→Q (l++[a]))(l:List α):Q l:=by
 have h:∀ r:List α,Q r.reverse:=fun r=>by
  induction r with
  |nil=>exact h0
  |cons a r ih=>rw[List.reverse_cons];exact h1 _ a ih
 have:=h l.reverse
 rwa [List.reverse_reverse] at this
def lnOf (l:Lnk):Ln:=⟨l.src.toNat,l.dst.toNat,l.cap⟩
def nnOf (n:Nm):Nn:=⟨n.nodes,n.links.map lnOf,n.edges,n.qn,n.cn,n.ql,n.cl,n.qe,n.ce⟩
theorem nn_enc (n:Nm):encNn (nnOf n)=encNm n:=by simp[nnOf]
theorem H6 {w0:World}{H:List (Nat × Obj)}{n:Nm}(h:NetM w0 H n)(hok:NetOk n):NetR w0 H (nnOf n):=by
 refine⟨h.nodes,fun i x hi=> ?_⟩;have hi':(n.links.map lnOf)[i]? =some x:=hi;rw[List.getElem?_map] at hi';obtain⟨l,h1,rfl⟩:=Option.map_eq_some_iff.1 hi';have hlt:=(List.getElem?_eq_some_iff.1 h1).1;have hg:gd n.links i=l:=by rw[An hlt];exact(List.getElem?_eq_some_iff.1 h1).2
 have h2:=hok.links i hlt;rw[hg] at h2;have h3:=h2.s0;have h4:=h2.d0;have e:encLn (lnOf l)=encL l:=by
  simp only[encLn,encL,lnOf];rw[show ((l.src.toNat:Nat):Int)=l.src by omega,show ((l.dst.toNat:Nat):Int)=l.dst by omega]
 have h5:=h.links i l h1;rw[← e] at h5;exact h5
structure McE (m:PM) (e:Re):Prop where
 ok:PMok m
 sr:Srt m.names
 acc:∀ l,gd m.acc (runM m l)=matchF e l
theorem mem_moves {n:Nn}{f:Flr}{m:PM}{p:Pl}{r:Pl}{l:Nat}:(r,l)∈movesF n f m p↔(l<n.links.length∧(gd n.links l).src=p.1)∧upF n f l=true∧r=((gd n.links l).dst,afterF m p.2 (nmF n (gd n.links l).dst)):=by
 unfold movesF outF mvF;simp only[List.mem_map,List.mem_filter,Fx,Prod.mk.injEq]
 constructor
 ·rintro⟨l',⟨h1,h2⟩,h3,rfl⟩;exact⟨h1,h2,h3.symm⟩
 ·rintro⟨h1,h2,h3⟩;exact⟨l,⟨h1,h2⟩,h3.symm,rfl⟩
theorem outK_pw (n:Nn)(node:Nat):∀ i,(outK n node i).Pairwise (· < ·)
 |0=> .nil
 |i+1=>by
  rw[Dx];split
  ·exact List.pairwise_append.2 ⟨outK_pw n node i,List.pairwise_singleton ..,fun a ha b hb=>by
    simp at hb;subst hb;exact((Fx n node a b).1 ha).1⟩
  ·exact outK_pw n node i
theorem moves_pw (n:Nn)(f:Flr)(m:PM)(p:Pl):(movesF n f m p).Pairwise fun a b=>id a.2<id b.2:=by
 unfold movesF mvF;rw[List.pairwise_map];exact((outK_pw n p.1 n.links.length).filter _)
abbrev toInts (l:List Nat):List Int:=l.map fun k:Nat=>(k:Int)
theorem wkF_snoc_some {n:Nn}{x:Int}{ls:List Int}{l y:Int}:wkF n x (ls++[l])=some y↔∃ z,wkF n x ls=some z∧(0≤l∧l<n.links.length∧((gd n.links l.toNat).src:Int)=z)∧((gd n.links l.toNat).dst:Int)=y:=by
 rw[Io];cases h:wkF n x ls with
 |none=>simp
 |some z=>
  simp only[Option.bind_some,Option.some.injEq,exists_eq_left']
  split
  ·rename_i h2;simp[h2]
  ·rename_i h2;simp[h2]
theorem namesF_snoc (n:Nn)(x:Nat)(ls:List Int)(l:Int):namesF n x (ls++[l])=namesF n x ls++[nmF n (gd n.links l.toNat).dst]:=by simp[namesF]
theorem runM_snoc (m:PM)(ls:List ByteArray)(s:ByteArray):runM m (ls++[s])=afterF m (runM m ls) s:=by simp[runM]
theorem upAll_snoc (n:Nn)(f:Flr)(ls:List Int)(l:Int):upAll n f (ls++[l])=(upAll n f ls&&upF n f l.toNat):=by simp[upAll]
theorem chn_of {n:Nn}{f:Flr}{m:PM}{x:Nat}:∀ {ls:List Int} {y:Int},wkF n x ls=some y→upAll n f ls=true→Chn (movesF n f m) (p0F n m x) (ls.map Int.toNat) (y.toNat,runM m (namesF n x ls)):=by
 intro ls
 induction ls using snoc_ind with
 |h0=>
  intro y h _;simp only[wkF,Option.some.injEq] at h;subst h;exact .nil
 |h1 ls l ih=>
  intro y h hu;obtain⟨z,h1,⟨h2,h3,h4⟩,h5⟩:=wkF_snoc_some.1 h;rw[upAll_snoc,Bool.and_eq_true] at hu;rw[List.map_append,namesF_snoc,runM_snoc];refine .snoc (ih h1 hu.1) (mem_moves.2 ⟨⟨by omega,by simp only[];omega⟩,hu.2,?_⟩);rw[← h5,Int.toNat_natCast]
theorem of_chn {n:Nn}{f:Flr}{m:PM}{x:Nat}{ls:List Nat}{q:Pl}(h:Chn (movesF n f m) (p0F n m x) ls q):wkF n x (toInts ls)=some (q.1:Int)∧upAll n f (toInts ls)=true∧q.2=runM m (namesF n x (toInts ls)):=by
 induction h with
 |nil=>exact⟨rfl,rfl,rfl⟩
 | @snoc ls q r l hc hm ih=>
  obtain⟨h1,h2,h3⟩:=ih;obtain⟨⟨h4,h5⟩,h6,h7⟩:=mem_moves.1 hm;subst h7;rw[toInts,List.map_append,List.map_cons,List.map_nil];refine⟨wkF_snoc_some.2 ⟨_,h1,⟨by omega,by omega,by rw[Int.toNat_natCast];omega⟩,by rw[Int.toNat_natCast]⟩,?_,?_⟩
  ·rw[upAll_snoc,Int.toNat_natCast,h6];simpa using h2
  ·rw[namesF_snoc,runM_snoc,Int.toNat_natCast,← h3]
theorem holds_chn {n:Nn}{f:Flr}{m:PM}{e:Re}(hm:McE m e){x to:Nat}{ls:List Int}(h:holdsF n f e x to ls=true): ¬ f.node=x∧∃ q,Chn (movesF n f m) (p0F n m x) (ls.map Int.toNat) q∧fndF to m q=true:=by
 unfold holdsF at h;simp only[Bool.and_eq_true,decide_eq_true_eq] at h;obtain⟨h1,h2,h3,h4⟩:=h;refine⟨h2,_,chn_of h1 h3,?_⟩;unfold fndF;simp only[Int.toNat_natCast,decide_true,Bool.true_and];rw[hm.acc,h4]
theorem chn_holds {n:Nn}{f:Flr}{m:PM}{e:Re}(hm:McE m e){x to:Nat}{ls:List Nat}{q:Pl}(hf: ¬ f.node=x)(h:Chn (movesF n f m) (p0F n m x) ls q)(hq:fndF to m q=true):holdsF n f e x to (toInts ls)=true:=by
 obtain⟨h1,h2,h3⟩:=of_chn h;unfold fndF at hq;simp only[Bool.and_eq_true,decide_eq_true_eq] at hq;unfold holdsF;rw[h1,h2,← hm.acc,← h3,hq.2,hq.1];simp[hf]
theorem moves_okE {n:Nn}(hok:NnOk n){f:Flr}{m:PM}(hp:PMok m):∀ p,PlOk n m p→∀ x∈movesF n f m p,PlOk n m x.1:=fun p h=>Ip hok hp p h
theorem find_yes {n:Nn}(hok:NnOk n){f:Flr}{m:PM}{e:Re}(hm:McE m e){x to:Nat}(hx:x<n.nodes.length)(h:(findF n f m x to).2=0):
  holdsF n f e x to (toInts (findF n f m x to).1)=true∧∀ ls,holdsF n f e x to ls=true→leL (findF n f m x to).1 (ls.map Int.toNat):=by
 unfold findF at *
 split at h
 ·cases h
 ·rename_i hf;rw[if_neg hf]
  split at h
  ·rename_i hs;rw[if_pos hs];obtain⟨⟨q,h1,h2⟩,h3⟩:=srF_yes (rk:=id) (moves_okE hok hm.ok) (fun p _=>moves_pw n f m p) (N:=NPl n m) (Kq n m) (fndF to m) (Ky hm.ok hx) hs;refine⟨chn_holds hm hf h1 h2,fun ls hl=> ?_⟩;obtain⟨_,q',h4,h5⟩:=holds_chn hm hl
   simpa using h3 _ q' h4 h5
  ·cases h
def sI {α:Type} (l:List α) (f:α→Int):Int:=match l with
 |[]=>0
 |x::r=>f x+sI r f
theorem Fl {α:Type}(f:α→Int):∀ (a b:List α),sI (a++b) f=sI a f+sI b f
 |[],b=>by simp[sI]
 |x::a,b=>by simp only[List.cons_append,sI];rw[Fl f a b];omega
theorem sI_le {α:Type}{f g:α→Int}:∀ {l:List α},(∀ x∈l,f x≤g x)→sI l f≤sI l g
 |[],_=>Int.le_refl _
 |x::l,h=>by
  have h1:=h x (by simp);have h2:=sI_le (l:=l) fun y hy=>h y (by simp[hy])
  simp only[sI];omega
theorem sI_congr {α:Type}{f g:α→Int}:∀ {l:List α},(∀ x∈l,f x=g x)→sI l f=sI l g
 |[],_=>rfl
 |x::l,h=>by
  have h1:=h x (by simp);have h2:=sI_congr (l:=l) fun y hy=>h y (by simp[hy])
  simp only[sI];omega
theorem sI_zero {α:Type}:∀ l:List α,sI l (fun _=>0)=0
 |[]=>rfl
 |x::l=>by simp only[sI];rw[sI_zero l];rfl
theorem Fz {α:Type}{f:α→Int}{l:List α}(h:∀ x∈l,0≤f x):0≤sI l f:=by
 have:=sI_le (f:=fun _=>0) (g:=f) h
 rwa [sI_zero] at this
theorem Kv {α β:Type}(g:α→β)(f:β→Int):∀ l:List α,sI (l.map g) f=sI l fun x=>f (g x)
 |[]=>rfl
 |x::l=>by simp only[List.map_cons,sI];rw[Kv g f l]
structure Lan where
 l:List Int
 p:Int
instance:Inhabited Lan:=⟨⟨[],0⟩⟩
structure Odr where
 x:Nat
 y:Nat
 amt:Int
 e:Re
instance:Inhabited Odr:=⟨⟨0,0,0, .emp⟩⟩
def one (k:Nat) (x:Int):Int:=if x=(k:Int) then 1 else 0
def cntI (ls:List Int) (k:Nat):Int:=sI ls (one k)
theorem cntI_nonneg (ls:List Int)(k:Nat):0≤cntI ls k:=Fz fun x _=>by unfold one;split<;>omega
def ordLd (a:Int) (lanes:List Lan) (k:Nat):Int:=sI lanes fun s=>cntI s.l k*(a*s.p)
def ldAt (os:List Odr) (sh:List (List Lan)) (k:Nat):Int:=sI (os.zip sh) fun x=>ordLd x.1.amt x.2 k
def costI (pr:List Int) (ls:List Int):Int:=sI ls fun x=>gd pr x.toNat
structure FitsP (n:Nn) (f:Flr) (os:List Odr) (sh:List (List Lan)):Prop where
 len:sh.length=os.length
 sum:∀ x∈os.zip sh,sI x.2 Lan.p=16
 pos:∀ x∈os.zip sh,∀ s∈x.2,1≤s.p
 holds:∀ x∈os.zip sh,∀ s∈x.2,holdsF n f x.1.e x.1.x x.1.y s.l=true
 cap:∀ k,k<n.links.length→ldAt os sh k≤16*(gd n.links k).cap
def PriceIs (n:Nn) (f:Flr) (o:Odr) (pr:List Int):Option Int→Prop
 |none=>∀ ls,holdsF n f o.e o.x o.y ls=false
 |some c=>(∃ ls,holdsF n f o.e o.x o.y ls=true∧costI pr ls=c)∧∀ ls,holdsF n f o.e o.x o.y ls=true→c≤costI pr ls
theorem PriceIs.uniq {n:Nn}{f:Flr}{o:Odr}{pr:List Int}{a b:Option Int}(ha:PriceIs n f o pr a)(hb:PriceIs n f o pr b):a=b:=by
 cases a with
 |none=>
  cases b with
  |none=>rfl
  |some c=>obtain⟨⟨ls,h1,_⟩,_⟩:=hb;rw[ha ls] at h1;cases h1
 |some c=>
  cases b with
  |none=>obtain⟨⟨ls,h1,_⟩,_⟩:=ha;rw[hb ls] at h1;cases h1
  |some d=>
   obtain⟨⟨l1,h1,e1⟩,h2⟩:=ha;obtain⟨⟨l2,h3,e3⟩,h4⟩:=hb;have:=h2 l2 h3;have:=h4 l1 h1;rw[show c=d by omega]
theorem Ea {n:Nn}{f:Flr}{e:Re}{x y:Nat}{ls:List Int}(h:holdsF n f e x y ls=true):∀ l∈ls,0≤l∧l<n.links.length∧upF n f l.toNat=true:=by
 unfold holdsF at h;simp only[Bool.and_eq_true,decide_eq_true_eq] at h;intro l hl;obtain⟨i,hi,rfl⟩:=List.getElem_of_mem hl;have h1:=Fy h.1 i hi;rw[An hi] at h1;refine⟨h1.1,h1.2,?_⟩;have h2:=h.2.2.1;unfold upAll at h2;exact List.all_eq_true.1 h2 _ hl
structure Sha where
 l:List Nat
 p:Nat
instance:Inhabited Sha:=⟨⟨[],0⟩⟩
def Sha.lan (s:Sha):Lan:=⟨toInts s.l,(s.p:Int)⟩
abbrev mOf (e:Re):PM:=(buildF leastF e).1
def capB (n:Nn) (ld:List Int) (k:Nat) (a:Int):Bool:=decide (gd ld k+a≤16*(gd n.links k).cap)
def takeF (n:Nn) (a:Int):List Nat→List Int→Option (List Int)
 |[],ld=>some ld
 |k::ks,ld=>if capB n ld k a then takeF n a ks (ld.set k (gd ld k+a)) else none
def fullL (n:Nn) (f:Flr) (ld:List Int) (a:Int):Nat→List Int
 |0=>[]
 |k+1=>if (k:Int)∈f.links∨capB n ld k a=false then fullL n f ld a k++[(k:Int)] else fullL n f ld a k
def fullF (n:Nn) (f:Flr) (ld:List Int) (a:Int):Flr:=⟨none,0,fullL n f ld a n.links.length,f.node⟩
def partF (n:Nn) (f:Flr) (o:Odr) (ld:List Int):Option (List Nat × List Int):=
 if (findF n (fullF n f ld o.amt) (mOf o.e) o.x o.y).2=0 then (takeF n o.amt (findF n (fullF n f ld o.amt) (mOf o.e) o.x o.y).1 ld).map fun ld'=>((findF n (fullF n f ld o.amt) (mOf o.e) o.x o.y).1,ld') else none
def putS (ls:List Nat):List Sha→List Sha
 |[]=>[⟨ls,1⟩]
 |s::r=>if s.l=ls then ⟨ls,s.p+1⟩::r else if lxB ls s.l then ⟨ls,1⟩::s::r else s::putS ls r
where lxB:List Nat→List Nat→Bool
 |[],[]=>false
 |[],_::_=>true
 |_::_,[]=>false
 |a::x,b::y=>decide (a<b)||(decide (a=b)&&lxB x y)
def roundsF (n:Nn) (f:Flr) (o:Odr):Nat→List Int→List Sha→Bool × List Int × List Sha
 |0,ld,own=>(true,ld,own)
 |k+1,ld,own=>match partF n f o ld with
  |none=>(false,ld,own)
  |some (ls,ld')=>roundsF n f o k ld' (putS ls own)
def goR (n:Nn) (f:Flr):List Odr→List Int→List (List Sha)→List (List Sha) × Option (List Int × Odr)
 |[],ld,out=>(out,none)
 |o::os,ld,out=>match roundsF n f o 16 ld [] with
  |(true,ld',own)=>goR n f os ld' (out++[own])
  |(false,ld',_)=>(out,some (ld',o))
def routeF (n:Nn) (f:Flr) (os:List Odr):List (List Sha) × Option (List Int × Odr):=goR n f os (List.replicate n.links.length 0) []
theorem mem_fullL {n:Nn}{f:Flr}{ld:List Int}{a:Int}{x:Int}:∀ {k:Nat},x∈fullL n f ld a k↔∃ j:Nat,j<k∧x=(j:Int)∧((j:Int)∈f.links∨capB n ld j a=false)
 |0=>by simp[fullL]
 |k+1=>by
  have ih:=mem_fullL (n:=n) (f:=f) (ld:=ld) (a:=a) (x:=x) (k:=k);unfold fullL
  split
  ·rename_i h;rw[List.mem_append,ih]
   constructor
   ·rintro(⟨j,h1,h2⟩|h1)
    ·exact⟨j,by omega,h2⟩
    ·simp at h1;exact⟨k,by omega,h1,h⟩
   ·rintro⟨j,h1,h2,h3⟩
    by_cases e:j=k
    ·subst e;right;simp[h2]
    ·exact .inl ⟨j,by omega,h2,h3⟩
  ·rename_i h;rw[ih]
   constructor
   ·rintro⟨j,h1,h2⟩;exact⟨j,by omega,h2⟩
   ·rintro⟨j,h1,h2,h3⟩
    by_cases e:j=k
    ·subst e;exact absurd h3 h
    ·exact⟨j,by omega,h2,h3⟩
theorem up_full {n:Nn}{f:Flr}{ld:List Int}{a:Int}{l:Nat}(hl:l<n.links.length)(h:upF n (fullF n f ld a) l=true):upF n f l=true∧capB n ld l a=true:=by
 unfold upF fullF at *;simp only[Bool.and_eq_true,decide_eq_true_eq] at *;obtain⟨h1,h2,h3⟩:=h;rw[mem_fullL] at h3;refine⟨⟨h1,h2,fun hm=>h3 ⟨l,hl,rfl, .inl hm⟩⟩,?_⟩;cases hc:capB n ld l a
 ·exact absurd ⟨l,hl,rfl, .inr hc⟩ h3
 ·rfl
theorem holds_full {n:Nn}{f:Flr}{ld:List Int}{a:Int}{e:Re}{x y:Nat}{ls:List Int}(h:holdsF n (fullF n f ld a) e x y ls=true):holdsF n f e x y ls=true:=by
 have hl:=Ea h;unfold holdsF at *;simp only[Bool.and_eq_true,decide_eq_true_eq] at *;refine⟨h.1,h.2.1,?_,h.2.2.2⟩;unfold upAll;exact List.all_eq_true.2 fun l hm=>(up_full (by have:=hl l hm;omega) (hl l hm).2.2).1
theorem cnt_cons (k x:Nat)(xs:List Nat):cntI (toInts (x::xs)) k=(if x=k then 1 else 0)+cntI (toInts xs) k:=by
 show one k (x:Int)+_=_;unfold one
 by_cases e:x=k
 ·rw[if_pos qom,if_pos e];rfl
 ·rw[if_neg qom,if_neg e];rfl
theorem take_ok {n:Nn}{a:Int}(ha:0≤a):∀ {ls:List Nat} {ld ld':List Int},(∀ k∈ls,k<ld.length)→takeF n a ls ld=some ld'→ld'.length=ld.length∧(∀ k,gd ld' k=gd ld k+(if k<ld.length then cntI (toInts ls) k*a else 0))∧∀ k,gd ld k≤16*(gd n.links k).cap→gd ld' k≤16*(gd n.links k).cap
 |[],ld,ld',_,h=>by
  obtain rfl:=Option.some.inj h;exact⟨rfl,fun k=>by simp[toInts,cntI,sI],fun k h=>h⟩
 |x::xs,ld,ld',hl,h=>by
  unfold takeF at h
  split at h
  ·rename_i hc;have hx:=hl x (by simp);obtain⟨h1,h2,h3⟩:=take_ok ha (ls:=xs) (fun k hk=>by rw[List.length_set];exact hl k (by simp[hk])) h;rw[List.length_set] at h1;have hg:∀ k,gd (ld.set x (gd ld x+a)) k=if k=x then gd ld x+a else gd ld k:=fun k=>by
    by_cases e:k=x
    ·subst e;rw[if_pos rfl,An (by simpa using hx)];simp
    ·rw[if_neg e];unfold gd;simp[List.getD,List.getElem?_set_ne (Ne.symm e)]
   refine⟨h1,fun k=> ?_,fun k hk=>h3 k ?_⟩
   ·rw[h2 k,hg k,List.length_set]
    by_cases e:k=x
    ·subst e;rw[if_pos U,if_pos hx,if_pos hx,cnt_cons,if_pos U,Int.add_mul];omega
    ·rw[if_neg e,cnt_cons,show (if x=k then (1:Int) else 0)=0 from if_neg qom,Int.zero_add]
   ·rw[hg k]
    split
    ·rename_i e;subst e;simpa[capB] using hc
    ·exact hk
  ·cases h
theorem put_sum (ls:List Nat):∀ own:List Sha,sI ((putS ls own).map Sha.lan) Lan.p=sI (own.map Sha.lan) Lan.p+1
 |[]=>rfl
 |s::r=>by
  unfold putS
  split
  ·simp only[List.map_cons,sI,Sha.lan];omega
  ·split
   ·simp only[List.map_cons,sI,Sha.lan];omega
   ·have:=put_sum ls r;simp only[List.map_cons,sI] at *;omega
theorem put_load (ls:List Nat)(a:Int)(k:Nat):∀ own:List Sha,ordLd a ((putS ls own).map Sha.lan) k=ordLd a (own.map Sha.lan) k+cntI (toInts ls) k*a
 |[]=>by simp[putS,ordLd,sI,Sha.lan]
 |s::r=>by
  unfold putS
  split
  ·rename_i e;subst e;simp only[List.map_cons,ordLd,sI,Sha.lan,Int.natCast_add,Int.natCast_one,Int.mul_add,Int.mul_one];omega
  ·split
   ·simp only[List.map_cons,ordLd,sI,Sha.lan,Int.natCast_one,Int.mul_one];omega
   ·have:=put_load ls a k r;simp only[List.map_cons,ordLd,sI] at *;omega
theorem put_all {Q:List Nat→Prop}(ls:List Nat)(h:Q ls):∀ own:List Sha,(∀ s∈own,Q s.l∧1≤s.p)→∀ s∈putS ls own,Q s.l∧1≤s.p
 |[],_,s,hs=>by
  simp[putS] at hs;subst hs;exact⟨h,Nat.le_refl _⟩
 |x::r,hr,s,hs=>by
  unfold putS at hs
  split at hs
  ·rename_i e;rcases List.mem_cons.1 hs with rfl|hs
   ·exact⟨h,Nat.le_add_left 1 _⟩
   ·exact hr s (by simp[hs])
  ·split at hs
   ·rcases List.mem_cons.1 hs with rfl|hs
    ·exact⟨h,Nat.le_refl _⟩
    ·exact hr s hs
   ·rcases List.mem_cons.1 hs with rfl|hs
    ·exact hr s (by simp)
    ·exact put_all ls h r (fun y hy=>hr y (by simp[hy])) s hs
structure OwnInv (n:Nn) (f:Flr) (o:Odr) (base:Nat→Int) (r:Nat) (ld:List Int) (own:List Sha):Prop where
 len:ld.length=n.links.length
 cap:∀ k,k<n.links.length→gd ld k≤16*(gd n.links k).cap
 sum:sI (own.map Sha.lan) Lan.p=r
 lod:∀ k,k<n.links.length→gd ld k=base k+ordLd o.amt (own.map Sha.lan) k
 all:∀ s∈own,holdsF n f o.e o.x o.y (toInts s.l)=true∧1≤s.p
theorem part_step {n:Nn}(hok:NnOk n){f:Flr}{o:Odr}(ha:0≤o.amt)(hx:o.x<n.nodes.length)(hm:McE (mOf o.e) o.e){base:Nat→Int}{r:Nat}{ld ld':List Int}{own:List Sha}{ls:List Nat}(h:OwnInv n f o base r ld own)(hp:partF n f o ld=some (ls,ld')):OwnInv n f o base (r+1) ld' (putS ls own):=by
 unfold partF at hp
 split at hp
 ·rename_i he;obtain⟨ld2,h1,h2⟩:=Option.map_eq_some_iff.1 hp;obtain⟨rfl,rfl⟩:=Prod.mk.inj h2;have hf:=(find_yes hok hm hx he).1;have hh:=holds_full hf;have hl:=Ea hh;have hlt:∀ k∈(findF n (fullF n f ld o.amt) (mOf o.e) o.x o.y).1,k<ld.length:=fun k hk=>by
   have:=hl (k:Int) (List.mem_map.2 ⟨k,hk,rfl⟩);rw[h.len];omega
  obtain⟨g1,g2,g3⟩:=take_ok ha hlt h1;refine⟨by rw[g1,h.len],fun k hk=>g3 k (h.cap k hk),by rw[put_sum,h.sum];omega,fun k hk=> ?_,put_all (Q:=fun l=>holdsF n f o.e o.x o.y (toInts l)=true) _ hh own h.all⟩;rw[g2 k,h.lod k hk,put_load,if_pos (by rw[h.len];exact hk)];omega
 ·cases hp
theorem rounds_ok {n:Nn}(hok:NnOk n){f:Flr}{o:Odr}(ha:0≤o.amt)(hx:o.x<n.nodes.length)(hm:McE (mOf o.e) o.e){base:Nat→Int}:∀ {k r:Nat} {ld ld':List Int} {own own':List Sha},OwnInv n f o base r ld own→roundsF n f o k ld own=(true,ld',own')→OwnInv n f o base (r+k) ld' own'
 |0,r,ld,ld',own,own',h,e=>by
  obtain⟨_,e2⟩:=Prod.mk.inj e;obtain⟨rfl,rfl⟩:=Prod.mk.inj e2;exact h
 |k+1,r,ld,ld',own,own',h,e=>by
  unfold roundsF at e;cases hp:partF n f o ld with
  |none=>rw[hp] at e;cases (Prod.mk.inj e).1
  |some x=>
   obtain⟨ls,ld2⟩:=x;rw[hp] at e;have:=rounds_ok hok ha hx hm (part_step hok ha hx hm h hp) e;rw[show r+(k+1)=r+1+k by omega];exact this
theorem zip_snoc {α β:Type}:∀ {a:List α} {b:List β} {x:α} {y:β},a.length=b.length→(a++[x]).zip (b++[y])=a.zip b++[(x,y)]:=fun h=>by rw[List.zip_append h];rfl
structure OdrOk (n:Nn) (o:Odr):Prop where
 x:o.x<n.nodes.length
 y:o.y<n.nodes.length
 a0:0≤o.amt
 a1:o.amt≤1048576
 lv:o.e.lv≤64
 bd:(buildF leastF o.e).2=0
theorem goR_ok {n:Nn}(hok:NnOk n){f:Flr}:∀ {os dn:List Odr} {ld:List Int} {out sh:List (List Sha)},(∀ o∈os,OdrOk n o∧McE (mOf o.e) o.e)→out.length=dn.length→ld.length=n.links.length→(∀ k,k<n.links.length→gd ld k≤16*(gd n.links k).cap∧gd ld k=ldAt dn (out.map (List.map Sha.lan)) k)→
  (∀ x∈dn.zip (out.map (List.map Sha.lan)),sI x.2 Lan.p=16∧∀ s∈x.2,holdsF n f x.1.e x.1.x x.1.y s.l=true∧1≤s.p)→goR n f os ld out=(sh,none)→FitsP n f (dn++os) (sh.map (List.map Sha.lan))
 |[],dn,ld,out,sh,_,hl,hln,hld,hal,e=>by
  obtain⟨rfl,_⟩:=Prod.mk.inj e;rw[List.append_nil];exact⟨by simpa using hl,fun x hx=>(hal x hx).1,fun x hx s hs=>((hal x hx).2 s hs).2,fun x hx s hs=>((hal x hx).2 s hs).1,fun k hk=>by rw[← (hld k hk).2];exact(hld k hk).1⟩
 |o::os,dn,ld,out,sh,ho,hl,hln,hld,hal,e=>by
  obtain⟨h1,h2⟩:=ho o (by simp);unfold goR at e;cases hr:roundsF n f o 16 ld [] with
  |mk b r=>
   obtain⟨ld2,own⟩:=r;rw[hr] at e;cases b with
   |false=>cases (Prod.mk.inj e).2
   |true=>
    have hi:=rounds_ok hok h1.a0 h1.x h2 (base:=fun k=>gd ld k) (r:=0) ⟨hln,fun k hk=>(hld k hk).1,rfl,fun k hk=>by simp[ordLd,sI],fun s hs=>by cases hs⟩ hr;have hlen:dn.length=(out.map (List.map Sha.lan)).length:=by simp[hl]
    have:=goR_ok hok (os:=os) (dn:=dn++[o]) (ld:=ld2) (out:=out++[own]) (fun x hx=>ho x (by simp[hx])) (by simp[hl]) hi.len (fun k hk=>⟨hi.cap k hk,?_⟩) (fun x hx=> ?_) e
    ·rw[List.append_assoc] at this;exact this
    ·rw[hi.lod k hk,(hld k hk).2];unfold ldAt;rw[List.map_append,List.map_cons,List.map_nil,zip_snoc hlen,Fl];simp[sI]
    ·rw[List.map_append,List.map_cons,List.map_nil,zip_snoc hlen] at hx;rcases List.mem_append.1 hx with hx|hx
     ·exact hal x hx
     ·simp at hx;subst hx;refine⟨hi.sum,fun s hs=> ?_⟩;obtain⟨u,hu,rfl⟩:=List.mem_map.1 hs;have:=hi.all u hu;exact⟨this.1,by simp only[Sha.lan];omega⟩
theorem route_fits {n:Nn}(hok:NnOk n)(hc:∀ x∈n.links,0≤x.cap){f:Flr}{os:List Odr}{sh:List (List Sha)}(ho:∀ o∈os,OdrOk n o∧McE (mOf o.e) o.e)(e:routeF n f os=(sh,none)):FitsP n f os (sh.map (List.map Sha.lan)):=by
 have:=goR_ok hok (dn:=[]) (out:=[]) ho U (by simp) (fun k hk=> ?_) (fun x hx=>by cases hx) e
 ·exact this
 ·have h0:gd (List.replicate n.links.length (0:Int)) k=0:=by rw[An (by simpa using hk)];simp
  rw[h0];have:=hc _ (Af hk);exact⟨by omega,by simp[ldAt,sI]⟩
section
variable {P:Program} {w0:World} {L:Fm} {ty:TypeId} {H:List (Nat × Obj)} {x y:Operand} {t t2 e:TypeId}
theorem C1 {α:Type}{enc:α→List Value}(l2:List α){q:Option Addr}{k c sz by':Nat}{z:Value}{i0:TypeInfo}{e2:TypeId}(hk:k=l2.length)(hx:Ev L x (.slice none 0 0))(hy:Ev L y (.slice q k c))
  (ht:∀ w,(underlying t).run P w= .ok (.slice e) w) (ht2:∀ w,(underlying t2).run P w= .ok (.slice e2) w) (hz:∀ w,(sizeOf e).run P w= .ok sz w) (hi:∀ w,(typeInfo e).run P w= .ok i0 w) (hby:i0.bytes=by') (hzv:∀ w,(zeroValue e).run P w= .ok z w) (hzs:z.cells.size=sz)
  (he:∀ u,(enc u).length=sz) (h1:∀ u,(enc u).all oneB=true) (hb0:by'≠0) (hb:(2*l2.length+600)*by'≤281474976710656) (hA:Arr w0 H q sz enc l2):
  Eff P w0 (.call {callee:= .builtin .append,args:= #[x,y],argTypes:= #[t,t2]}) ty L H (fun u H'=>∃ d',u=slV d' l2.length∧SlOk d' l2.length sz∧H'=slH d' (l2.flatMap enc) e++H):=by
 subst hk;have h:=eff_appN_at (P:=P) (w0:=w0) (L:=L) (ty:=ty) (H:=H) (x:=x) (y:=y) (t:=t) (t2:=t2) (e:=e) (enc:=enc) l2 (R:=H) (d:= .nil) (l:=[]) (F:=fun M'=>M'++H) (show LocL ([]++H) [] H _ from .h) hx hy ht ht2 hz hi hby hzv hzs he h1 U hb0 (by simpa using hb) hA
 simpa using h
theorem C7 {α:Type}{enc:α→List Value}(l2:List α){R:List (Nat × Obj)}{F:List (Nat × Obj)→List (Nat × Obj)}{d:Sl}{l:List α}{q:Option Addr}{k c sz by':Nat}{z:Value}{i0:TypeInfo}{e2:TypeId}(hk:k=l2.length)(hl:LocL H (slH d (l.flatMap enc) e) R F)(hx:Ev L x (slV d l.length))(hy:Ev L y (.slice q k c))
  (ht:∀ w,(underlying t).run P w= .ok (.slice e) w) (ht2:∀ w,(underlying t2).run P w= .ok (.slice e2) w) (hz:∀ w,(sizeOf e).run P w= .ok sz w) (hi:∀ w,(typeInfo e).run P w= .ok i0 w) (hby:i0.bytes=by') (hzv:∀ w,(zeroValue e).run P w= .ok z w) (hzs:z.cells.size=sz)
  (he:∀ u,(enc u).length=sz) (h1:∀ u,(enc u).all oneB=true) (hok:SlOk d l.length sz) (hb0:by'≠0) (hb:(2*(l.length+l2.length)+600)*by'≤281474976710656) (hA:Arr w0 H q sz enc l2):
  Eff P w0 (.call {callee:= .builtin .append,args:= #[x,y],argTypes:= #[t,t2]}) ty L H (fun u H'=>∃ d',u=slV d' (l++l2).length∧SlOk d' (l++l2).length sz∧H'=F (slH d' ((l++l2).flatMap enc) e)):=by
 subst hk;rw[List.length_append];exact eff_appN_at l2 hl hx hy ht ht2 hz hi hby hzv hzs he h1 hok hb0 hb hA
theorem Bg {α:Type}{enc:α→List Value}(v:α){R:List (Nat × Obj)}{F:List (Nat × Obj)→List (Nat × Obj)}{d:Sl}{l:List α}{n sz by':Nat}{z:Value}{i0:TypeInfo}{e2:TypeId}(hl:LocL H (slH d (l.flatMap enc) e) R F)(hx:Ev L x (slV d l.length))(hy:Ev L y (.slice (some ⟨n,0,none⟩) 1 1))
  (ht:∀ w,(underlying t).run P w= .ok (.slice e) w) (ht2:∀ w,(underlying t2).run P w= .ok (.slice e2) w) (hz:∀ w,(sizeOf e).run P w= .ok sz w) (hi:∀ w,(typeInfo e).run P w= .ok i0 w) (hby:i0.bytes=by') (hzv:∀ w,(zeroValue e).run P w= .ok z w) (hzs:z.cells.size=sz)
  (he:∀ u,(enc u).length=sz) (h1:(enc v).all oneB=true) (hok:SlOk d l.length sz) (hb0:by'≠0) (hb:(2*(l.length+1)+600)*by'≤281474976710656) (hn:Cells w0 H n 0 (enc v):=by exact A3):
  Eff P w0 (.call {callee:= .builtin .append,args:= #[x,y],argTypes:= #[t,t2]}) ty L H (fun u H'=>∃ d',u=slV d' (l++[v]).length∧SlOk d' (l++[v]).length sz∧H'=F (slH d' ((l++[v]).flatMap enc) e)):=by
 rw[List.length_append];exact Bc v hl hx hy ht ht2 hz hi hby hzv hzs he h1 hok hb0 hb hn
end
theorem Jk {d:Sl}{k sz:Nat}(h:SlOk d k sz):k≤slC d:=by
 cases d with
 |nil=>have:k=0:=h;rw[this];exact Nat.zero_le _
 |blk n cap junk=>exact h.1
def putF (n:Nat):List Nat→List Nat
 |[]=>[n]
 |x::l=>if x<n then x::putF n l else if x=n then x::l else n::x::l
theorem Gi {n:Nat}:∀ {l:List Nat} {k:Nat},k<l.length→(∀ j,j<k→gd l j<n)→gd l k=n→putF n l=l
 |[],k,h,_,_=>by simp at h
 |x::l,0,_,_,h=>by have h:x=n:=h;subst h;simp[putF]
 |x::l,k+1,h,hj,hk=>by
  have h0:x<n:=hj 0 qom;unfold putF;rw[if_pos h0,Gi (k:=k) (by simpa using h) (fun j hj2=>hj (j+1) qom) hk]
theorem Iw {n:Nat}:∀ {l:List Nat} {k:Nat},k≤l.length→(∀ j,j<k→gd l j<n)→(k<l.length→n<gd l k)→putF n l=l.take k++[n]++l.drop k
 |[],0,_,_,_=>rfl
 |x::l,0,_,_,h=>by
  have h:n<x:=h (by simp);unfold putF;rw[if_neg qom,if_neg qom];rfl
 |x::l,k+1,h,hj,hk=>by
  have h0:x<n:=hj 0 qom;unfold putF;rw[if_pos h0,Iw (k:=k) (by simpa using h) (fun j hj2=>hj (j+1) qom) fun h2=>hk (by simpa using h2)];simp
theorem putF_len (n:Nat):∀ l:List Nat,(putF n l).length≤l.length+1
 |[]=>by simp[putF]
 |x::l=>by
  have:=putF_len n l;unfold putF;split
  ·simp only[List.length_cons];omega
  ·split<;>simp
def mergeF (a b:List Nat):List Nat:=b.foldl (fun l n=>putF n l) a
theorem mergeF_take {a b:List Nat}{k:Nat}(h:k<b.length):mergeF a (b.take (k+1))=putF (gd b k) (mergeF a (b.take k)):=by
 unfold mergeF;rw[Ch h];simp
theorem mergeF_len (a:List Nat):∀ b:List Nat,(mergeF a b).length≤a.length+b.length:=fun b=>by
 unfold mergeF
 induction b generalizing a with
 |nil=>simp
 |cons x b ih=>
  simp only[List.foldl_cons,List.length_cons];have:=ih (putF x a);have:=putF_len x a;omega
theorem has_r {w0:World}{H:List (Nat × Obj)}(l:List Nat)(q:Option Addr)(c:Nat)(hA:Arr w0 H q 1 encU l)(hl:l.length≤100000)(n:Nat):
  FSpec Tryz.prog w0 127 #[.slice q l.length c, .int .i64 (n:Int)] H (Still (.bool (decide (n∈l))) H):=by
 refine Ao Tryz.func127 U ntmps127 U (rD tb 12 U ?_);refine Bd (X:=Nat) (V:=fun k=>[(5, .int .i64 (k:Nat))]) (C:=[(0,_),(1,_)]) (φ:=fun k=>k≤l.length∧∀ j,j<k→¬ gd l j=n) (μ:=fun k=>l.length - k) (x0:=0) ?_ ⟨Aa U,Aa U,trivial⟩ ⟨qat,trivial⟩ ?_
 ·exact⟨Nat.zero_le _,fun j hj=>by omega⟩
 rintro k ⟨hk,hno⟩;refine rD tb 9 U ?_;refine Ad (Aa U) (fun c9=> ?_) (fun c9=> ?_)
 ·refine rC tb 8 U (y_ (Ld U U runUnderlying27 sizeOf3 qom (by first|exact rfl|exact hA.b (i:=k) qom)) ?_ U);refine y_ (Lb U isAgg3 (by first|exact c_o|exact cell1 ((hA.mono sbt).cs (i:=k) qom))) ?_ U;refine rO tb 4 U ?_;refine Ad (Aa U) (fun c17=> ?_) (fun c17=> ?_)
  ·refine rC tb 8 U (As (rX tb 2 U (Ah U (K9 U) ?_)));exact⟨_,⟨vbool (by symm;exact decide_eq_true (mem_gd.2 ⟨k,by omega,by omega⟩)),rfl⟩,sbt⟩
  ·refine rC tb 5 U (y_ (Av (T U) Ap qom) ?_ U);refine rO tb 2 U ?_;refine Ar (k+1) ?_ ?_ ⟨qat,trivial⟩ ⟨Aa U,Aa U,trivial⟩ ?_
   ·refine⟨by omega,fun j hj=> ?_⟩
    by_cases e:j=k
    ·subst e;omega
    ·exact hno j qom
   ·omega
   ·exact sbt
 ·refine rC tb 2 U (Ag (rX tb 8 U (Ah U (K9 U) ?_)));exact⟨_,⟨vbool (by symm;exact decide_eq_false fun hm=>by obtain⟨j,h1,h2⟩:=mem_gd.1 hm;exact hno j qom h2),rfl⟩,sbt⟩
theorem put_x {w0:World}{H:List (Nat × Obj)}(l:List Nat)(q:Option Addr)(c:Nat)(hA:Arr w0 H q 1 encU l)(hc:l.length≤c)(hl:l.length≤100000)(n:Nat):
  FSpec Tryz.prog w0 146 #[.slice q l.length c, .int .i64 (n:Int)] H (fun v H'=>∃ (q':Option Addr) (c':Nat) (M:List (Nat × Obj)),(v= .slice q' (putF n l).length c'∧(putF n l).length≤c'∧∀ X,Arr w0 X q 1 encU l→Arr w0 (M++X) q' 1 encU (putF n l))∧H'=M++H):=by
 refine Ao Tryz.func146 U ntmps146 U (rD tb 12 U ?_);refine Bd (X:=Nat) (V:=fun k=>[(5, .int .i64 (k:Nat))]) (C:=[(0,_),(1,_)]) (φ:=fun k=>k≤l.length∧∀ j,j<k→gd l j<n) (μ:=fun k=>l.length - k) (x0:=0) ?_ ⟨Aa U,Aa U,trivial⟩ ⟨qat,trivial⟩ ?_
 ·exact⟨Nat.zero_le _,fun j hj=>by omega⟩
 rintro k ⟨hk,hlt⟩;refine rD tb 8 U ?_;refine A4 (s:=11) (Aa U) (fun c11=> ?_) (fun c11=> ?_)
 ·refine rO tb 2 U (A5 (Ld U U runUnderlying27 sizeOf3 qom (by first|exact rfl|exact hA.b (i:=k) qom)) U (Az U U (Aa U)) ?_);refine A5 (Lb U isAgg3 (by first|exact c_o|exact cell1 ((hA.mono sbt).cs (i:=k) qom))) U (Az U U (Aa U)) ?_;refine rO tb 5 U ?_;refine Ad (Aa U) (fun c18=> ?_) (fun c18=> ?_)
  ·refine rC tb 5 U (y_ (Av (T U) Ap qom) ?_ U);refine rO tb 3 U ?_;refine Ar (k+1) ?_ ?_ ⟨qat,trivial⟩ ⟨Aa U,Aa U,trivial⟩ ?_
   ·refine⟨by omega,fun j hj=> ?_⟩
    by_cases e:j=k
    ·subst e;omega
    ·exact hlt j qom
   ·omega
   ·exact sbt
  ·refine rC tb 2 U (Ag (rX tb 10 U ?_));refine A4 (s:=25) (Aa U) (fun c25=> ?_) (fun c25=> ?_)
   ·refine rO tb 2 U (A5 (Ld U U runUnderlying27 sizeOf3 qom (by first|exact rfl|exact hA.b (i:=k) qom)) U (Az U U (Aa U)) ?_);refine A5 (Lb U isAgg3 (by first|exact c_o|exact cell1 ((hA.mono sbt).cs (i:=k) qom))) U (Az U U (Aa U)) ?_;refine rO tb 5 U ?_;refine Ad (Aa U) (fun c32=> ?_) (fun c32=> ?_)
    ·refine rC tb 8 U (Ah U (K9 U) ?_)
     (have hp:putF n l=l:=Gi (k:=k) qom hlt qom;exact⟨_,⟨q,c,[],⟨by rw[hp];rfl,by rw[hp];exact hc,fun X hX=>by rw[hp];exact hX⟩,rfl⟩,sbt⟩)
    ·refine rC tb 12 U (y_ (Cr  (T U) (T U) runUnderlying27 sizeOf3 qom) ?_ U);refine e_ (C1 (l.take k) (by':=8) (by exact(by simp;omega)) (T U) (T U) runUnderlying27 runUnderlying27 sizeOf3 typeInfo3 U zeroValue3 U (fun _=>rfl) (fun _=>rfl) qde (by simp;omega) ((hA.mono sbt).take k)) ?_ U;rintro _ _ ⟨d1,rfl,hd1,rfl⟩;refine kO tb 3 [0,1,5,6] rfl U (rG tb 4 U (e_ (Aj (.cons (T U) .nil) (Bn _)) ?_ U));rintro _ _ ⟨n41,rfl,rfl⟩;refine e_ (Bg (n) (by':=8) qlc (T U) (T U) runUnderlying27 runUnderlying27 sizeOf3 typeInfo3 U zeroValue3 U (fun _=>rfl) U hd1 qde (by simp;omega)) ?_ U;rintro _ _ ⟨d2,rfl,hd2,rfl⟩;refine rO tb 8 U (y_ (C5  (T U) (T U) runUnderlying27 sizeOf3 qom) ?_ U);refine e_ (C7 (l.drop k) (by':=8) (by exact(by simp)) qlc (T U) (T U) runUnderlying27 runUnderlying27 sizeOf3 typeInfo3 U zeroValue3 U (fun _=>rfl) (fun _=>rfl) hd2 qde (by simp;omega) ((hA.mono sbt).drop hc k)) ?_ U;rintro _ _ ⟨d3,rfl,hd3,rfl⟩;refine rO tb 4 U (Ah U (K9 U) ?_)
     first|(have hp:putF n l=l:=Gi (k:=k) qom hlt qom;exact⟨_,⟨q,c,[],⟨by rw[hp];rfl,by rw[hp];exact hc,fun X hX=>by rw[hp];exact hX⟩,rfl⟩,sbt⟩)|(have hp:putF n l=l.take k++[n]++l.drop k:=Iw qom hlt (fun h=>by omega);exact⟨_,⟨slQ d3,slC d3,slH d3 ((l.take k++[n]++l.drop k).flatMap encU) 3,⟨by rw[hp];rfl,by rw[hp];exact Jk hd3,fun X _=>by rw[hp];exact A1 (fun _=>rfl) hd3⟩,rfl⟩,sbt⟩)
   ·refine rO tb 22 U (y_ (Cr  (T U) (T U) runUnderlying27 sizeOf3 qom) ?_ U);refine e_ (C1 (l.take k) (by':=8) (by exact(by simp;omega)) (T U) (T U) runUnderlying27 runUnderlying27 sizeOf3 typeInfo3 U zeroValue3 U (fun _=>rfl) (fun _=>rfl) qde (by simp;omega) ((hA.mono sbt).take k)) ?_ U;rintro _ _ ⟨d1,rfl,hd1,rfl⟩;refine kO tb 3 [0,1,5,6] rfl U (rG tb 4 U (e_ (Aj (.cons (T U) .nil) (Bn _)) ?_ U));rintro _ _ ⟨n41,rfl,rfl⟩;refine e_ (Bg (n) (by':=8) qlc (T U) (T U) runUnderlying27 runUnderlying27 sizeOf3 typeInfo3 U zeroValue3 U (fun _=>rfl) U hd1 qde (by simp;omega)) ?_ U;rintro _ _ ⟨d2,rfl,hd2,rfl⟩;refine rO tb 8 U (y_ (C5  (T U) (T U) runUnderlying27 sizeOf3 qom) ?_ U);refine e_ (C7 (l.drop k) (by':=8) (by exact(by simp)) qlc (T U) (T U) runUnderlying27 runUnderlying27 sizeOf3 typeInfo3 U zeroValue3 U (fun _=>rfl) (fun _=>rfl) hd2 qde (by simp;omega) ((hA.mono sbt).drop hc k)) ?_ U;rintro _ _ ⟨d3,rfl,hd3,rfl⟩;refine rO tb 4 U (Ah U (K9 U) ?_)
    first|(have hp:putF n l=l:=Gi (k:=k) qom hlt qom;exact⟨_,⟨q,c,[],⟨by rw[hp];rfl,by rw[hp];exact hc,fun X hX=>by rw[hp];exact hX⟩,rfl⟩,sbt⟩)|(have hp:putF n l=l.take k++[n]++l.drop k:=Iw qom hlt (fun h=>by omega);exact⟨_,⟨slQ d3,slC d3,slH d3 ((l.take k++[n]++l.drop k).flatMap encU) 3,⟨by rw[hp];rfl,by rw[hp];exact Jk hd3,fun X _=>by rw[hp];exact A1 (fun _=>rfl) hd3⟩,rfl⟩,sbt⟩)
 ·refine rO tb 12 U (Ag (rX tb 10 U ?_));refine A4 (s:=25) (Aa U) (fun c25=> ?_) (fun c25=> ?_)
  ·refine rO tb 2 U (A5 (Ld U U runUnderlying27 sizeOf3 qom (by first|exact rfl|exact hA.b (i:=k) qom)) U (Az U U (Aa U)) ?_);refine A5 (Lb U isAgg3 (by first|exact c_o|exact cell1 ((hA.mono sbt).cs (i:=k) qom))) U (Az U U (Aa U)) ?_;refine rO tb 5 U ?_;refine Ad (Aa U) (fun c32=> ?_) (fun c32=> ?_)
   ·refine rC tb 8 U (Ah U (K9 U) ?_)
    (have hp:putF n l=l:=Gi (k:=k) qom hlt qom;exact⟨_,⟨q,c,[],⟨by rw[hp];rfl,by rw[hp];exact hc,fun X hX=>by rw[hp];exact hX⟩,rfl⟩,sbt⟩)
   ·refine rC tb 12 U (y_ (Cr  (T U) (T U) runUnderlying27 sizeOf3 qom) ?_ U);refine e_ (C1 (l.take k) (by':=8) (by exact(by simp;omega)) (T U) (T U) runUnderlying27 runUnderlying27 sizeOf3 typeInfo3 U zeroValue3 U (fun _=>rfl) (fun _=>rfl) qde (by simp;omega) ((hA.mono sbt).take k)) ?_ U;rintro _ _ ⟨d1,rfl,hd1,rfl⟩;refine kO tb 3 [0,1,5,6] rfl U (rG tb 4 U (e_ (Aj (.cons (T U) .nil) (Bn _)) ?_ U));rintro _ _ ⟨n41,rfl,rfl⟩;refine e_ (Bg (n) (by':=8) qlc (T U) (T U) runUnderlying27 runUnderlying27 sizeOf3 typeInfo3 U zeroValue3 U (fun _=>rfl) U hd1 qde (by simp;omega)) ?_ U;rintro _ _ ⟨d2,rfl,hd2,rfl⟩;refine rO tb 8 U (y_ (C5  (T U) (T U) runUnderlying27 sizeOf3 qom) ?_ U);refine e_ (C7 (l.drop k) (by':=8) (by exact(by simp)) qlc (T U) (T U) runUnderlying27 runUnderlying27 sizeOf3 typeInfo3 U zeroValue3 U (fun _=>rfl) (fun _=>rfl) hd2 qde (by simp;omega) ((hA.mono sbt).drop hc k)) ?_ U;rintro _ _ ⟨d3,rfl,hd3,rfl⟩;refine rO tb 4 U (Ah U (K9 U) ?_)
    first|(have hp:putF n l=l:=Gi (k:=k) qom hlt qom;exact⟨_,⟨q,c,[],⟨by rw[hp];rfl,by rw[hp];exact hc,fun X hX=>by rw[hp];exact hX⟩,rfl⟩,sbt⟩)|(have hp:putF n l=l.take k++[n]++l.drop k:=Iw qom hlt (fun h=>by omega);exact⟨_,⟨slQ d3,slC d3,slH d3 ((l.take k++[n]++l.drop k).flatMap encU) 3,⟨by rw[hp];rfl,by rw[hp];exact Jk hd3,fun X _=>by rw[hp];exact A1 (fun _=>rfl) hd3⟩,rfl⟩,sbt⟩)
  ·refine rO tb 22 U (y_ (Cr  (T U) (T U) runUnderlying27 sizeOf3 qom) ?_ U);refine e_ (C1 (l.take k) (by':=8) (by exact(by simp;omega)) (T U) (T U) runUnderlying27 runUnderlying27 sizeOf3 typeInfo3 U zeroValue3 U (fun _=>rfl) (fun _=>rfl) qde (by simp;omega) ((hA.mono sbt).take k)) ?_ U;rintro _ _ ⟨d1,rfl,hd1,rfl⟩;refine kO tb 3 [0,1,5,6] rfl U (rG tb 4 U (e_ (Aj (.cons (T U) .nil) (Bn _)) ?_ U));rintro _ _ ⟨n41,rfl,rfl⟩;refine e_ (Bg (n) (by':=8) qlc (T U) (T U) runUnderlying27 runUnderlying27 sizeOf3 typeInfo3 U zeroValue3 U (fun _=>rfl) U hd1 qde (by simp;omega)) ?_ U;rintro _ _ ⟨d2,rfl,hd2,rfl⟩;refine rO tb 8 U (y_ (C5  (T U) (T U) runUnderlying27 sizeOf3 qom) ?_ U);refine e_ (C7 (l.drop k) (by':=8) (by exact(by simp)) qlc (T U) (T U) runUnderlying27 runUnderlying27 sizeOf3 typeInfo3 U zeroValue3 U (fun _=>rfl) (fun _=>rfl) hd2 qde (by simp;omega) ((hA.mono sbt).drop hc k)) ?_ U;rintro _ _ ⟨d3,rfl,hd3,rfl⟩;refine rO tb 4 U (Ah U (K9 U) ?_)
   first|(have hp:putF n l=l:=Gi (k:=k) qom hlt qom;exact⟨_,⟨q,c,[],⟨by rw[hp];rfl,by rw[hp];exact hc,fun X hX=>by rw[hp];exact hX⟩,rfl⟩,sbt⟩)|(have hp:putF n l=l.take k++[n]++l.drop k:=Iw qom hlt (fun h=>by omega);exact⟨_,⟨slQ d3,slC d3,slH d3 ((l.take k++[n]++l.drop k).flatMap encU) 3,⟨by rw[hp];rfl,by rw[hp];exact Jk hd3,fun X _=>by rw[hp];exact A1 (fun _=>rfl) hd3⟩,rfl⟩,sbt⟩)
theorem Hn {w0:World}{H:List (Nat × Obj)}(a:List Nat)(q:Option Addr)(c:Nat)(hA:Arr w0 H q 1 encU a)(hc:a.length≤c)(b:List Nat)(q2:Option Addr)(c2:Nat)(hB:Arr w0 H q2 1 encU b)(hl:a.length+b.length≤100000):
  FSpec Tryz.prog w0 171 #[.slice q a.length c, .slice q2 b.length c2] H (fun v H'=>∃ (q':Option Addr) (c':Nat) (M:List (Nat × Obj)),(v= .slice q' (mergeF a b).length c'∧(mergeF a b).length≤c'∧∀ X,Arr w0 X q 1 encU a→Arr w0 (M++X) q' 1 encU (mergeF a b))∧H'=M++H):=by
 refine Ao Tryz.func171 U ntmps171 U (rD tb 12 U ?_);refine Ba (X:=Nat × Option Addr × Nat × List (Nat × Obj)) (V:=fun ⟨k,q1,c1,M⟩=>[(5, .int .i64 (k:Nat)),(0, .slice q1 (mergeF a (b.take k)).length c1)]) (C:=[(1,_)]) (G:=fun ⟨k,q1,c1,M⟩=>M++H) (φ:=fun ⟨k,q1,c1,M⟩=>k≤b.length∧(mergeF a (b.take k)).length≤c1∧∀ X,Arr w0 X q 1 encU a→Arr w0 (M++X) q1 1 encU (mergeF a (b.take k))) (μ:=fun ⟨k,q1,c1,M⟩=>b.length - k) (x0:=(0,q,c,[])) ?_ ⟨Aa rfl,trivial⟩ ⟨qat,qat,trivial⟩ sb0 ?_
 ·exact⟨Nat.zero_le _,hc,fun X hX=>hX⟩
 rintro⟨k,q1,c1,M⟩ ⟨hk,hc1,hA1⟩;have hml:=mergeF_len a (b.take k);rw[List.length_take] at hml;refine rD tb 9 U ?_;refine Ad (Aa U) (fun c9=> ?_) (fun c9=> ?_)
 ·refine rC tb 8 U (y_ (Ld U U runUnderlying27 sizeOf3 qom (by first|exact rfl|exact hB.b (i:=k) qom)) ?_ U);refine y_ (Lb U isAgg3 (by first|exact c_o|exact cell1 ((hB.mono sbt).cs (i:=k) qom))) ?_ U;refine e_ (Ak (qe2 U U) call146 (put_x _ q1 c1 (hA1 _ hA) hc1 qom (gd b k))) ?_ U;rintro _ _ ⟨q3,c3,M3,⟨rfl,hc3,hA3⟩,rfl⟩;refine rO tb 6 U (y_ (Av (T U) Ap qom) ?_ U);refine rO tb 2 U ?_;have hmt:=mergeF_take (a:=a) (b:=b) (k:=k) qom;refine Ar ((k+1,q3,c3,M3++M)) ?_ ?_ ⟨qat,(by first|exact Aa U|(refine Be (Aa U) (vint ?_);omega)|(refine Be (Aa U) ?_;simp;done)|(refine Be (Aa U) ?_;exact by rw[hmt])),trivial⟩ ⟨Aa U,trivial⟩ ?_
  ·exact⟨by omega,by rw[hmt];exact hc3,fun X hX=>by rw[hmt,List.append_assoc];exact hA3 _ (hA1 X hX)⟩
  ·first|omega|(simp only[];omega)
  ·show (M3++M++H).Sublist _;rw[List.append_assoc];exact sbt
 ·refine rC tb 2 U (Ag (rX tb 9 U (Ah U (K9 U) ?_)));have hb:b.take k=b:=List.take_of_length_le qom;rw[hb] at hc1 hA1 ⊢;exact⟨_,⟨q1,c1,M,⟨rfl,hc1,hA1⟩,rfl⟩,sbt⟩
theorem merge_r {w0:World}{H:List (Nat × Obj)}(a:List Nat)(q:Option Addr)(c:Nat)(hA:Arr w0 H q 1 encU a)(hc:a.length≤c)(b:List Nat)(q2:Option Addr)(c2:Nat)(hB:Arr w0 H q2 1 encU b)(hl:a.length+b.length≤100000):
  FSpec Tryz.prog w0 171 #[.slice q a.length c, .slice q2 b.length c2] H (fun v H'=>∃ (q':Option Addr) (c':Nat) (M:List (Nat × Obj)),(v= .slice q' (mergeF a b).length c'∧(mergeF a b).length≤c'∧Arr w0 (M++H) q' 1 encU (mergeF a b))∧H'=M++H):=
 (Hn a q c hA hc b q2 c2 hB hl).mono fun v H' ⟨q',c',M,⟨h1,h2,h3⟩,h4⟩=>⟨q',c',M,⟨h1,h2,h3 H hA⟩,h4⟩
inductive Lang:Re→List ByteArray→Prop
 |emp:Lang .emp []
 |nod (s):Lang (.nod s) [s]
 |any (s):Lang .any [s]
 |seq {a b u v}:Lang a u→Lang b v→Lang (.seq a b) (u++v)
 |altl {a b u}:Lang a u→Lang (.alt a b) u
 |altr {a b u}:Lang b u→Lang (.alt a b) u
 |stn {a}:Lang (.star a) []
 |stc {a u v}:Lang a u→Lang (.star a) v→Lang (.star a) (u++v)
def nulE:Re→Bool
 | .emp=>true
 | .nod _=>false
 | .any=>false
 | .seq a b=>nulE a&&nulE b
 | .alt a b=>nulE a||nulE b
 | .star _=>true
def fiE:Re→Nat→Nat→Prop
 | .emp,_,_=>False
 | .nod _,n,p=>p=n
 | .any,n,p=>p=n
 | .seq a b,n,p=>fiE a n p∨(nulE a=true∧fiE b (n+a.lv) p)
 | .alt a b,n,p=>fiE a n p∨fiE b (n+a.lv) p
 | .star a,n,p=>fiE a n p
def laE:Re→Nat→Nat→Prop
 | .emp,_,_=>False
 | .nod _,n,p=>p=n
 | .any,n,p=>p=n
 | .seq a b,n,p=>laE b (n+a.lv) p∨(nulE b=true∧laE a n p)
 | .alt a b,n,p=>laE a n p∨laE b (n+a.lv) p
 | .star a,n,p=>laE a n p
def foE:Re→Nat→Nat→Nat→Prop
 | .emp,_,_,_=>False
 | .nod _,_,_,_=>False
 | .any,_,_,_=>False
 | .seq a b,n,p,q=>foE a n p q∨foE b (n+a.lv) p q∨(laE a n p∧fiE b (n+a.lv) q)
 | .alt a b,n,p,q=>foE a n p q∨foE b (n+a.lv) p q
 | .star a,n,p,q=>foE a n p q∨(laE a n p∧fiE a n q)
theorem Eh:∀ {e:Re} {n p:Nat},fiE e n p→n≤p∧p<n+e.lv
 | .emp,_,_,h=>by cases h
 | .nod _,_,_,h=>by simp only[fiE,Re.lv] at *;omega
 | .any,_,_,h=>by simp only[fiE,Re.lv] at *;omega
 | .seq a b,_,_,h=>by
  simp only[Re.lv];rcases h with h|⟨_,h⟩
  ·have:=Eh h;omega
  ·have:=Eh h;omega
 | .alt a b,_,_,h=>by
  simp only[Re.lv];rcases h with h|h
  ·have:=Eh h;omega
  ·have:=Eh h;omega
 | .star a,_,_,h=>Eh (e:=a) h
theorem D1:∀ {e:Re} {n p:Nat},laE e n p→n≤p∧p<n+e.lv
 | .emp,_,_,h=>by cases h
 | .nod _,_,_,h=>by simp only[laE,Re.lv] at *;omega
 | .any,_,_,h=>by simp only[laE,Re.lv] at *;omega
 | .seq a b,_,_,h=>by
  simp only[Re.lv];rcases h with h|⟨_,h⟩
  ·have:=D1 h;omega
  ·have:=D1 h;omega
 | .alt a b,_,_,h=>by
  simp only[Re.lv];rcases h with h|h
  ·have:=D1 h;omega
  ·have:=D1 h;omega
 | .star a,_,_,h=>D1 (e:=a) h
theorem Da:∀ {e:Re} {n p q:Nat},foE e n p q→(n≤p∧p<n+e.lv)∧(n≤q∧q<n+e.lv)
 | .emp,_,_,_,h=>by cases h
 | .nod _,_,_,_,h=>by cases h
 | .any,_,_,_,h=>by cases h
 | .seq a b,_,_,_,h=>by
  simp only[Re.lv];rcases h with h|h|⟨h1,h2⟩
  ·have:=Da h;omega
  ·have:=Da h;omega
  ·have:=D1 h1;have:=Eh h2;omega
 | .alt a b,_,_,_,h=>by
  simp only[Re.lv];rcases h with h|h
  ·have:=Da h;omega
  ·have:=Da h;omega
 | .star a,n,_,_,h=>by
  rcases h with h|⟨h1,h2⟩
  ·exact Da (e:=a) h
  ·have:=D1 h1;have:=Eh h2;simp only[Re.lv];omega
inductive Rw (F:Nat→Nat→Prop) (La:Nat→Prop) (mt:Nat→ByteArray→Prop):Nat→List ByteArray→Prop
 |nil {p}:La p→Rw F La mt p []
 |cons {p q s w}:F p q→mt q s→Rw F La mt q w→Rw F La mt p (s::w)
theorem Rw.app {F F':Nat→Nat→Prop}{La La':Nat→Prop}{mt:Nat→ByteArray→Prop}{p:Nat}{u v:List ByteArray}(h:Rw F La mt p u)(hF:∀ p q,F p q→F' p q)(hL:∀ p,La p→Rw F' La' mt p v):Rw F' La' mt p (u++v):=by
 induction h with
 |nil h=>exact hL _ h
 |cons h1 h2 _ ih=>exact .cons (hF _ _ h1) h2 ih
theorem Rw.mono {F F':Nat→Nat→Prop}{La La':Nat→Prop}{mt:Nat→ByteArray→Prop}{p:Nat}{u:List ByteArray}(h:Rw F La mt p u)(hF:∀ p q,F p q→F' p q)(hL:∀ p,La p→La' p):Rw F' La' mt p u:=by
 have:=h.app (v:=[]) hF fun p hp=> .nil (hL p hp)
 rwa [List.append_nil] at this
def Thr (mt:Nat→ByteArray→Prop) (e:Re) (n:Nat) (w:List ByteArray):Prop:=(w=[]∧nulE e=true)∨∃ p s v,w=s::v∧fiE e n p∧mt p s∧Rw (foE e n) (laE e n) mt p v
def Mts (mt:Nat→ByteArray→Prop):Re→Nat→Prop
 | .emp,_=>True
 | .nod x,n=>∀ s,mt n s↔s=x
 | .any,n=>∀ s,mt n s
 | .seq a b,n=>Mts mt a n∧Mts mt b (n+a.lv)
 | .alt a b,n=>Mts mt a n∧Mts mt b (n+a.lv)
 | .star a,n=>Mts mt a n
variable {mt:Nat→ByteArray→Prop}
theorem Thr.seq {a b:Re}{n:Nat}{u v:List ByteArray}(h1:Thr mt a n u)(h2:Thr mt b (n+a.lv) v):Thr mt (.seq a b) n (u++v):=by
 rcases h2 with ⟨rfl,hb⟩|⟨q,t,v',rfl,hq,hm,hr⟩
 ·rw[List.append_nil];rcases h1 with ⟨rfl,ha⟩|⟨p,s,u',rfl,hp,hm,hr⟩
  ·exact .inl ⟨rfl,by simp[nulE,ha,hb]⟩
  ·exact .inr ⟨p,s,u',rfl, .inl hp,hm,hr.mono (fun _ _ h=> .inl h) fun _ h=> .inr ⟨hb,h⟩⟩
 ·have hr':Rw (foE (.seq a b) n) (laE (.seq a b) n) mt q v':=hr.mono (fun _ _ h=> .inr (.inl h)) fun _ h=> .inl h
  rcases h1 with ⟨rfl,ha⟩|⟨p,s,u',rfl,hp,hm1,hr1⟩
  ·exact .inr ⟨q,t,v',rfl, .inr ⟨ha,hq⟩,hm,hr'⟩
  ·exact .inr ⟨p,s,u'++t::v',rfl, .inl hp,hm1,hr1.app (fun _ _ h=> .inl h) fun p' h=> .cons (.inr (.inr ⟨h,hq⟩)) hm hr'⟩
theorem Thr.star {a:Re}{n:Nat}{u v:List ByteArray}(h1:Thr mt a n u)(h2:Thr mt (.star a) n v):Thr mt (.star a) n (u++v):=by
 rcases h1 with ⟨rfl,ha⟩|⟨p,s,u',rfl,hp,hm1,hr1⟩
 ·exact h2
 ·rcases h2 with ⟨rfl,hb⟩|⟨q,t,v',rfl,hq,hm,hr⟩
  ·rw[List.append_nil];exact .inr ⟨p,s,u',rfl,hp,hm1,hr1.mono (fun _ _ h=> .inl h) fun _ h=>h⟩
  ·exact .inr ⟨p,s,u'++t::v',rfl,hp,hm1,hr1.app (fun _ _ h=> .inl h) fun p' h=> .cons (.inr ⟨h,hq⟩) hm hr⟩
theorem thr_of {e:Re}{w:List ByteArray}(h:Lang e w):∀ {n:Nat},Mts mt e n→Thr mt e n w:=by
 induction h with
 |emp=>exact fun _=> .inl ⟨rfl,rfl⟩
 |nod s=>exact fun hm=> .inr ⟨_,s,[],rfl,rfl,(hm s).2 rfl, .nil rfl⟩
 |any s=>exact fun hm=> .inr ⟨_,s,[],rfl,rfl,hm s, .nil rfl⟩
 |seq _ _ ih1 ih2=>exact fun hm=> .seq (ih1 hm.1) (ih2 hm.2)
 |altl _ ih=>
  intro n hm;rcases ih hm.1 with ⟨rfl,ha⟩|⟨p,s,v,rfl,hp,hm1,hr⟩
  ·exact .inl ⟨rfl,by simp[nulE,ha]⟩
  ·exact .inr ⟨p,s,v,rfl, .inl hp,hm1,hr.mono (fun _ _ h=> .inl h) fun _ h=> .inl h⟩
 |altr _ ih=>
  intro n hm;rcases ih hm.2 with ⟨rfl,ha⟩|⟨p,s,v,rfl,hp,hm1,hr⟩
  ·exact .inl ⟨rfl,by simp[nulE,ha]⟩
  ·exact .inr ⟨p,s,v,rfl, .inr hp,hm1,hr.mono (fun _ _ h=> .inr h) fun _ h=> .inr h⟩
 |stn=>exact fun _=> .inl ⟨rfl,rfl⟩
 |stc _ _ ih1 ih2=>exact fun hm=> .star (ih1 hm) (ih2 hm)
theorem rw_r {a b:Re}{n p:Nat}{w:List ByteArray}(h:Rw (foE (.seq a b) n) (laE (.seq a b) n) mt p w):n+a.lv≤p→Rw (foE b (n+a.lv)) (laE b (n+a.lv)) mt p w:=by
 induction h with
 |nil h=>
  intro hp;rcases h with h|⟨_,h⟩
  ·exact .nil h
  ·have:=D1 h;omega
 |cons h1 h2 _ ih=>
  intro hp;rcases h1 with h1|h1|⟨h1,_⟩
  ·have:=Da h1;omega
  ·exact .cons h1 h2 (ih (Da h1).2.1)
  ·have:=D1 h1;omega
theorem rw_alt1 {a b:Re}{n p:Nat}{w:List ByteArray}(h:Rw (foE (.alt a b) n) (laE (.alt a b) n) mt p w):p<n+a.lv→Rw (foE a n) (laE a n) mt p w:=by
 induction h with
 |nil h=>
  intro hp;rcases h with h|h
  ·exact .nil h
  ·have:=D1 h;omega
 |cons h1 h2 _ ih=>
  intro hp;rcases h1 with h1|h1
  ·exact .cons h1 h2 (ih (Da h1).2.2)
  ·have:=Da h1;omega
theorem rw_alt2 {a b:Re}{n p:Nat}{w:List ByteArray}(h:Rw (foE (.alt a b) n) (laE (.alt a b) n) mt p w):n+a.lv≤p→Rw (foE b (n+a.lv)) (laE b (n+a.lv)) mt p w:=by
 induction h with
 |nil h=>
  intro hp;rcases h with h|h
  ·have:=D1 h;omega
  ·exact .nil h
 |cons h1 h2 _ ih=>
  intro hp;rcases h1 with h1|h1
  ·have:=Da h1;omega
  ·exact .cons h1 h2 (ih (Da h1).2.1)
theorem Fh:∀ {e:Re} {n:Nat} {w:List ByteArray},Mts mt e n→Thr mt e n w→Lang e w
 | .emp,n,w,_,h=>by
  rcases h with ⟨rfl,_⟩|⟨p,s,v,rfl,hp,_⟩
  ·exact .emp
  ·cases hp
 | .nod x,n,w,hm,h=>by
  rcases h with ⟨rfl,h⟩|⟨p,s,v,rfl,hp,hs,hr⟩
  ·cases h
  ·simp only[fiE] at hp;subst hp;have:=(hm s).1 hs;subst this;cases hr with
   |nil _=>exact .nod _
   |cons h _ _=>cases h
 | .any,n,w,hm,h=>by
  rcases h with ⟨rfl,h⟩|⟨p,s,v,rfl,hp,hs,hr⟩
  ·cases h
  ·cases hr with
   |nil _=>exact .any _
   |cons h _ _=>cases h
 | .seq a b,n,w,hm,h=>by
  have iha:=fun {w}=>Fh (e:=a) (w:=w) hm.1
  have ihb:=fun {w}=>Fh (e:=b) (w:=w) hm.2
  have key:∀ {p:Nat} {w:List ByteArray},Rw (foE (.seq a b) n) (laE (.seq a b) n) mt p w→p<n+a.lv→∃ u v,w=u++v∧Rw (foE a n) (laE a n) mt p u∧Lang b v:=by
   intro p w h
   induction h with
   |nil h=>
    intro hp;rcases h with h|⟨hb,h⟩
    ·have:=D1 h;omega
    ·exact⟨[],[],rfl, .nil h,ihb (.inl ⟨rfl,hb⟩)⟩
   | @cons p q s w h1 h2 h3 ih=>
    intro hp;rcases h1 with h1|h1|⟨h1,h4⟩
    ·obtain⟨u,v,rfl,e1,e2⟩:=ih (Da h1).2.2;exact⟨s::u,v,rfl, .cons h1 h2 e1,e2⟩
    ·have:=Da h1;omega
    ·exact⟨[],s::w,rfl, .nil h1,ihb (.inr ⟨q,s,w,rfl,h4,h2,rw_r h3 (Eh h4).1⟩)⟩
  rcases h with ⟨rfl,h⟩|⟨p,s,v,rfl,hp,hs,hr⟩
  ·simp only[nulE,Bool.and_eq_true] at h;exact .seq (u:=[]) (iha (.inl ⟨rfl,h.1⟩)) (ihb (.inl ⟨rfl,h.2⟩))
  ·rcases hp with hp|⟨ha,hp⟩
   ·obtain⟨u,v,rfl,e1,e2⟩:=key hr (Eh hp).2;exact .seq (u:=s::u) (iha (.inr ⟨p,s,u,rfl,hp,hs,e1⟩)) e2
   ·exact .seq (u:=[]) (iha (.inl ⟨rfl,ha⟩)) (ihb (.inr ⟨p,s,v,rfl,hp,hs,rw_r hr (Eh hp).1⟩))
 | .alt a b,n,w,hm,h=>by
  rcases h with ⟨rfl,h⟩|⟨p,s,v,rfl,hp,hs,hr⟩
  ·simp only[nulE,Bool.or_eq_true] at h;rcases h with h|h
   ·exact .altl (Fh hm.1 (.inl ⟨rfl,h⟩))
   ·exact .altr (Fh hm.2 (.inl ⟨rfl,h⟩))
  ·rcases hp with hp|hp
   ·exact .altl (Fh hm.1 (.inr ⟨p,s,v,rfl,hp,hs,rw_alt1 hr (Eh hp).2⟩))
   ·exact .altr (Fh hm.2 (.inr ⟨p,s,v,rfl,hp,hs,rw_alt2 hr (Eh hp).1⟩))
 | .star a,n,w,hm,h=>by
  have iha:=fun {w}=>Fh (e:=a) (n:=n) (w:=w) hm
  have key:∀ {p:Nat} {w:List ByteArray},Rw (foE (.star a) n) (laE (.star a) n) mt p w→∃ u v,w=u++v∧Rw (foE a n) (laE a n) mt p u∧Lang (.star a) v:=by
   intro p w h
   induction h with
   |nil h=>exact⟨[],[],rfl, .nil h, .stn⟩
   | @cons p q s w h1 h2 h3 ih=>
    obtain⟨u,v,rfl,e1,e2⟩:=ih;rcases h1 with h1|⟨h1,h4⟩
    ·exact⟨s::u,v,rfl, .cons h1 h2 e1,e2⟩
    ·exact⟨[],s::(u++v),rfl, .nil h1, .stc (u:=s::u) (iha (.inr ⟨q,s,u,rfl,h4,h2,e1⟩)) e2⟩
  rcases h with ⟨rfl,h⟩|⟨p,s,v,rfl,hp,hs,hr⟩
  ·exact .stn
  ·obtain⟨u,v,rfl,e1,e2⟩:=key hr;exact .stc (u:=s::u) (iha (.inr ⟨p,s,u,rfl,hp,hs,e1⟩)) e2
structure Adds (e:Re) (t:Tr) (r:Tr × En):Prop where
 emp:r.2.emp=nulE e
 fst:∀ p,r.2.first.testBit p=true↔fiE e t.names.length p
 lst:∀ p,r.2.last.testBit p=true↔laE e t.names.length p
 fol:∀ p,p<r.1.names.length→∀ q,(gd r.1.fol p).testBit q=true↔(p<t.names.length∧(gd t.fol p).testBit q=true)∨foE e t.names.length p q
theorem conn_bit {t:Tr}(h:TrOk t)(a b:Nat){p:Nat}(hp:p<t.names.length)(q:Nat):(gd (conn t a b).fol p).testBit q=true↔(gd t.fol p).testBit q=true∨(a.testBit p=true∧b.testBit q=true):=by
 have hl:p<t.fol.length:=by rw[h.len];exact hp
 have hf:=h.few;rw[An (show p<(conn t a b).fol.length by rw[show (conn t a b).fol.length=t.fol.length from B8 ..];exact hl),An hl];simp only[conn,connK,List.getElem_mapIdx]
 by_cases h1:a.testBit p=true
 ·rw[if_pos ⟨by omega,h1⟩,Nat.testBit_or,Bool.or_eq_true];simp[h1]
 ·rw[if_neg (fun h=>h1 h.2)];simp[h1]
theorem adds:∀ (e:Re) {t:Tr},TrOk t→t.names.length+e.lv≤64→Adds e t (addF e t)
 | .emp,t,h,hl=>⟨rfl,fun p=>by simp[addF,fiE],fun p=>by simp[addF,laE],fun p hp q=>by simp only[addF] at *;simp[foE,hp]⟩
 | .nod s,t,h,hl=>by
  refine⟨rfl,fun p=>by simp[addF,fiE,Nat.testBit_two_pow,eq_comm],fun p=>by simp[addF,laE,Nat.testBit_two_pow,eq_comm],fun p hp q=> ?_⟩;simp only[addF,List.length_append,List.length_cons,List.length_nil] at *;simp only[foE,or_false]
  by_cases e:p=t.names.length
  ·subst e;rw[show gd (t.fol++[0]) t.names.length=0 by rw[← h.len];exact Co];simp
  ·rw[Bt (by rw[h.len];omega)];simp;intro _;omega
 | .any,t,h,hl=>by
  refine⟨rfl,fun p=>by simp[addF,fiE,Nat.testBit_two_pow,eq_comm],fun p=>by simp[addF,laE,Nat.testBit_two_pow,eq_comm],fun p hp q=> ?_⟩;simp only[addF,List.length_append,List.length_cons,List.length_nil] at *;simp only[foE,or_false]
  by_cases e:p=t.names.length
  ·subst e;rw[show gd (t.fol++[0]) t.names.length=0 by rw[← h.len];exact Co];simp
  ·rw[Bt (by rw[h.len];omega)];simp;intro _;omega
 | .alt a b,t,h,hl=>by
  simp only[Re.lv] at hl;obtain⟨h1,h2,h3,h4⟩:=B3 a h qom;obtain⟨k1,k2,k3,k4⟩:=B3 b h1 qom;have ia:=adds a h qom;have ib:=adds b h1 qom;simp only[addF];refine⟨by simp[nulE,ia.emp,ib.emp],fun p=> ?_,fun p=> ?_,fun p hp q=> ?_⟩
  ·simp only[Nat.testBit_or,Bool.or_eq_true,fiE,ia.fst,ib.fst,h2]
  ·simp only[Nat.testBit_or,Bool.or_eq_true,laE,ia.lst,ib.lst,h2]
  ·simp only[] at hp ⊢;rw[ib.fol p hp q,h2];simp only[foE]
   constructor
   ·rintro(⟨e1,e2⟩|e)
    ·exact((ia.fol p qom q).1 e2).imp id .inl
    ·exact .inr (.inr e)
   ·rintro(e|e|e)
    ·exact .inl ⟨by omega,(ia.fol p qom q).2 (.inl e)⟩
    ·have:=Da e;exact .inl ⟨by omega,(ia.fol p qom q).2 (.inr e)⟩
    ·exact .inr e
 | .seq a b,t,h,hl=>by
  simp only[Re.lv] at hl;obtain⟨h1,h2,h3,h4⟩:=B3 a h qom;obtain⟨k1,k2,k3,k4⟩:=B3 b h1 qom;have ia:=adds a h qom;have ib:=adds b h1 qom;simp only[addF];refine⟨by simp[nulE,ia.emp,ib.emp],fun p=> ?_,fun p=> ?_,fun p hp q=> ?_⟩
  ·simp only[ia.emp];cases hn:nulE a<;>simp[Nat.testBit_or,fiE,ia.fst,ib.fst,h2,hn]
  ·simp only[ib.emp];cases hn:nulE b<;>simp[Nat.testBit_or,laE,ia.lst,ib.lst,h2,hn]
  ·simp only[] at hp ⊢;rw[show (conn (addF b (addF a t).1).1 (addF a t).2.last (addF b (addF a t).1).2.first).names=(addF b (addF a t).1).1.names from rfl] at hp;rw[conn_bit k1 _ _ hp,ib.fol p hp q,ia.lst,ib.fst,h2];simp only[foE]
   constructor
   ·rintro((⟨e1,e2⟩|e)|e)
    ·exact((ia.fol p qom q).1 e2).imp id .inl
    ·exact .inr (.inr (.inl e))
    ·exact .inr (.inr (.inr e))
   ·rintro(e|e|e|e)
    ·exact .inl (.inl ⟨by omega,(ia.fol p qom q).2 (.inl e)⟩)
    ·have:=Da e;exact .inl (.inl ⟨by omega,(ia.fol p qom q).2 (.inr e)⟩)
    ·exact .inl (.inr e)
    ·exact .inr e
 | .star a,t,h,hl=>by
  simp only[Re.lv] at hl;obtain⟨h1,h2,h3,h4⟩:=B3 a h qom;have ia:=adds a h qom;simp only[addF];refine⟨rfl,ia.fst,ia.lst,fun p hp q=> ?_⟩;simp only[] at hp ⊢;rw[show (conn (addF a t).1 (addF a t).2.last (addF a t).2.first).names=(addF a t).1.names from rfl] at hp;rw[conn_bit h1 _ _ hp,ia.fol p hp q,ia.lst,ia.fst];simp only[foE];rw[or_assoc]
def Re.good:Re→Prop
 | .emp=>True
 | .nod s=>s≠⟨#[]⟩
 | .any=>True
 | .seq a b=>a.good∧b.good
 | .alt a b=>a.good∧b.good
 | .star a=>a.good
theorem Is.good {m:Rxm}{e:Re}(h:Is m e):e.good:=by
 induction h with
 |emp=>trivial
 |nod h=>exact fun e=>h (by rw[e];rfl)
 |any=>trivial
 |seq _ _ h1 h2=>exact⟨h1,h2⟩
 |alt _ _ h1 h2=>exact⟨h1,h2⟩
 |star _ h=>exact h
theorem Gj:∀ e:Re,e.lvs.length=e.lv
 | .emp=>rfl
 | .nod _=>rfl
 | .any=>rfl
 | .seq a b=>by simp[Re.lvs,Re.lv,Gj a,Gj b]
 | .alt a b=>by simp[Re.lvs,Re.lv,Gj a,Gj b]
 | .star a=>Gj a
theorem Jd {t:Tr}:∀ {e:Re} {n:Nat} {u v:List ByteArray},e.good→t.names=u++e.lvs++v→u.length=n→Mts (fun p s=>mtch t s p=true) e n
 | .emp,_,_,_,_,_,_=>trivial
 | .nod x,n,u,v,hg,ht,hn=>fun s=>by
  have:gd t.names n=x:=by rw[ht,← hn];simp[gd,Re.lvs]
  simp only[];rw[mtch_eq,this];have hx: ¬ x=⟨#[]⟩:=hg;simp[hx,eq_comm]
 | .any,n,u,v,hg,ht,hn=>fun s=>by
  have:gd t.names n=⟨#[]⟩:=by rw[ht,← hn];simp[gd,Re.lvs]
  simp only[];rw[mtch_eq,this];simp
 | .seq a b,n,u,v,hg,ht,hn=>⟨Jd (v:=b.lvs++v) hg.1 (by rw[ht];simp[Re.lvs]) hn,Jd (u:=u++a.lvs) (v:=v) hg.2 (by rw[ht];simp[Re.lvs]) (by simp[hn,Gj])⟩
 | .alt a b,n,u,v,hg,ht,hn=>⟨Jd (v:=b.lvs++v) hg.1 (by rw[ht];simp[Re.lvs]) hn,Jd (u:=u++a.lvs) (v:=v) hg.2 (by rw[ht];simp[Re.lvs]) (by simp[hn,Gj])⟩
 | .star a,n,u,v,hg,ht,hn=>Jd (e:=a) hg ht hn
theorem Js (fol:List Nat)(x q:Nat):∀ i,(orK fol x i).testBit q=true↔∃ p,p<i∧x.testBit p=true∧(gd fol p).testBit q=true
 |0=>by simp[orK]
 |i+1=>by
  rw[Ft]
  split
  ·rename_i h;rw[Nat.testBit_or,Bool.or_eq_true,Js fol x q i]
   constructor
   ·rintro(⟨p,h1,h2,h3⟩|h3)
    ·exact⟨p,by omega,h2,h3⟩
    ·exact⟨i,by omega,h,h3⟩
   ·rintro⟨p,h1,h2,h3⟩
    by_cases e:p=i
    ·subst e;exact .inr h3
    ·exact .inl ⟨p,by omega,h2,h3⟩
  ·rename_i h;rw[Js fol x q i]
   constructor
   ·rintro⟨p,h1,h2,h3⟩;exact⟨p,by omega,h2,h3⟩
   ·rintro⟨p,h1,h2,h3⟩
    by_cases e:p=i
    ·subst e;exact absurd h2 h
    ·exact⟨p,by omega,h2,h3⟩
theorem and_bit (a b:Nat): ¬ a &&& b=0↔∃ p,a.testBit p=true∧b.testBit p=true:=by
 constructor
 ·intro h;refine Classical.byContradiction fun hn=>h (Nat.eq_of_testBit_eq fun p=> ?_)
  rw[Nat.testBit_and,Nat.zero_testBit];cases h1:a.testBit p with
  |false=>rfl
  |true=>
   cases h2:b.testBit p with
   |false=>rfl
   |true=>exact absurd ⟨p,h1,h2⟩ hn
 ·rintro⟨p,h1,h2⟩ h;have:=congrArg (fun x=>x.testBit p) h;simp[Nat.testBit_and,h1,h2] at this
theorem runF_cons (t:Tr)(st:Nat × Nat)(s:ByteArray)(l:List ByteArray):runF t st (s::l)=runF t (stepK t s st.2 256) l:=by unfold runF;rw[List.foldl_cons]
theorem run_rw {t:Tr}(ht:TrOk t)(hw:Low t){La:Nat}:∀ (w:List ByteArray) (s:ByteArray) (x C:Nat),C<2 ^ t.names.length→((¬ (runF t (x,C) (s::w)).1 &&& La=0)↔∃ p,C.testBit p=true∧mtch t s p=true∧Rw (fun p q=>p<t.names.length∧(gd t.fol p).testBit q=true) (fun p=>p<t.names.length∧La.testBit p=true) (fun p s=>mtch t s p=true) p w)
 |[],s,x,C,hC=>by
  rw[runF_cons,show runF t (stepK t s (x,C).2 256) []=stepK t s C 256 from rfl,and_bit]
  constructor
  ·rintro⟨p,h1,h2⟩;rw[Dk] at h1;simp only[Bool.and_eq_true,decide_eq_true_eq] at h1;exact⟨p,h1.2.1,h1.2.2, .nil ⟨Ga hC h1.2.1,h2⟩⟩
  ·rintro⟨p,h1,h2,h3⟩;cases h3 with
   |nil h3=>
    refine⟨p,?_,h3.2⟩;rw[Dk];have:=ht.few;simp[h1,h2];omega
 |y::w,s,x,C,hC=>by
  have hlt:=Gy ht hw (s:=s) hC 256;rw[runF_cons];simp only[]
  generalize hq:stepK t s C 256=q at *;obtain⟨q1,q2⟩:=q;rw[run_rw ht hw w y _ _ hlt.2];have hq2:q2=(stepK t s C 256).2:=by rw[hq]
  have hf:=ht.few
  constructor
  ·rintro⟨q,h1,h2,h3⟩;rw[hq2,stepK_snd',Js] at h1;obtain⟨p,hp,h4,h5⟩:=h1;rw[Dk] at h4;simp only[Bool.and_eq_true,decide_eq_true_eq] at h4;exact⟨p,h4.2.1,h4.2.2, .cons ⟨Ga hC h4.2.1,h5⟩ h2 h3⟩
  ·rintro⟨p,h1,h2,h3⟩;cases h3 with
   | @cons _ q _ _ h4 h5 h6=>
    refine⟨q,?_,h5,h6⟩;rw[hq2,stepK_snd',Js];refine⟨p,by omega,?_,h4.2⟩;rw[Dk];simp[h1,h2];omega
theorem match_lang {e:Re}(hl:e.lv≤64)(hg:e.good)(w:List ByteArray):matchF e w=true↔Lang e w:=by
 have h64:t00.names.length+e.lv≤64:=by simpa[t00] using hl
 obtain⟨hok,hlen,hf1,hf2⟩:=B3 e C9 h64;have hlow:=Dr e C9 h64 Hh;have ha:=adds e C9 h64;have hm:Mts (fun p s=>mtch (addF e t00).1 s p=true) e 0:=Jd (u:=[]) (v:=[]) hg (by rw[Dy];simp[t00]) rfl;have hthr:matchF e w=true↔Thr (fun p s=>mtch (addF e t00).1 s p=true) e 0 w:=by
  unfold matchF Thr;cases w with
  |nil=>simp[ha.emp]
  |cons s w=>
   rw[if_neg (by simp),decide_eq_true_iff,run_rw hok hlow w s 0 _ (by rw[hlen];exact hf1)];have hF:∀ p q,(p<(addF e t00).1.names.length∧(gd (addF e t00).1.fol p).testBit q=true)↔foE e 0 p q:=fun p q=>by
    constructor
    ·rintro⟨h1,h2⟩;rcases(ha.fol p h1 q).1 h2 with h|h
     ·exact absurd h.1 (Nat.not_lt_zero _)
     ·exact h
    ·intro h;have h1:p<(addF e t00).1.names.length:=by rw[hlen];exact(Da h).1.2
     exact⟨h1,(ha.fol p h1 q).2 (.inr h)⟩
   have hL:∀ p,(p<(addF e t00).1.names.length∧(addF e t00).2.last.testBit p=true)↔laE e 0 p:=fun p=>by
    rw[ha.lst];exact⟨fun h=>h.2,fun h=>⟨by rw[hlen];exact(D1 h).2,h⟩⟩
   constructor
   ·rintro⟨p,h1,h2,h3⟩;exact .inr ⟨p,s,w,rfl,(ha.fst p).1 h1,h2,h3.mono (fun p q h=>(hF p q).1 h) fun p h=>(hL p).1 h⟩
   ·rintro(⟨h,_⟩|⟨p,s',w',h0,h1,h2,h3⟩)
    ·cases h
    ·cases h0;exact⟨p,(ha.fst p).2 h1,h2,h3.mono (fun p q h=>(hF p q).2 h) fun p h=>(hL p).2 h⟩
 rw[hthr];exact⟨Fh hm,fun h=>thr_of h hm⟩
structure Inc (lo hi:Nat) (l:List Nat):Prop where
 pw:l.Pairwise (· < ·)
 rg:∀ x∈l,lo≤x∧x≤hi
theorem Inc.nd {lo hi:Nat}{l:List Nat}(h:Inc lo hi l):l.Nodup:=h.pw.imp fun {a b} hab e=>by omega
theorem Inc.len {lo hi:Nat}{l:List Nat}(h:Inc lo hi l):l.length≤hi+1:=by
 have:=Ey h.nd (l':=List.range (hi+1)) fun x hx=>List.mem_range.2 (by have:=(h.rg x hx).2;omega)
 simpa using this
theorem Inc.mono {lo lo' hi:Nat}{l:List Nat}(h:Inc lo hi l)(hl:lo'≤lo):Inc lo' hi l:=⟨h.pw,fun x hx=>by have:=h.rg x hx;omega⟩
theorem inc_nil (lo hi:Nat):Inc lo hi []:=⟨.nil,fun x hx=>by cases hx⟩
theorem Jt {lo hi x:Nat}(h:lo≤x∧x≤hi):Inc lo hi [x]:=⟨List.pairwise_singleton ..,fun y hy=>by simp at hy;subst hy;exact h⟩
theorem putF_mem {n y:Nat}:∀ {l:List Nat},y∈putF n l↔y=n∨y∈l
 |[]=>by simp[putF]
 |x::l=>by
  unfold putF
  split
  ·simp only[List.mem_cons,putF_mem (l:=l)]
   constructor
   ·rintro(h|h|h)<;>simp[h]
   ·rintro(h|h|h)<;>simp[h]
  ·split
   ·rename_i h;subst h;simp
   ·simp
theorem putF_pw {n:Nat}:∀ {l:List Nat},l.Pairwise (· < ·)→(putF n l).Pairwise (· < ·)
 |[],_=>List.pairwise_singleton ..
 |x::l,h=>by
  have h':=List.pairwise_cons.1 h;unfold putF
  split
  ·rename_i hlt;refine List.pairwise_cons.2 ⟨fun y hy=> ?_,putF_pw h'.2⟩;rcases putF_mem.1 hy with rfl|hy
   ·exact hlt
   ·exact h'.1 y hy
  ·split
   ·exact h
   ·refine List.pairwise_cons.2 ⟨fun y hy=> ?_,h⟩;rcases List.mem_cons.1 hy with rfl|hy
    ·omega
    ·have:=h'.1 y hy;omega
theorem mergeF_mem {y:Nat}:∀ {b a:List Nat},y∈mergeF a b↔y∈a∨y∈b
 |[],a=>by simp[mergeF]
 |x::b,a=>by
  rw[show mergeF a (x::b)=mergeF (putF x a) b from rfl,mergeF_mem (b:=b),putF_mem,List.mem_cons]
  constructor
  ·rintro((h|h)|h)<;>simp[h]
  ·rintro(h|h|h)<;>simp[h]
theorem mergeF_inc {lo hi:Nat}{a b:List Nat}(ha:Inc lo hi a)(hb:∀ x∈b,lo≤x∧x≤hi):Inc lo hi (mergeF a b):=by
 refine⟨?_,fun x hx=> ?_⟩
 ·unfold mergeF
  induction b generalizing a with
  |nil=>exact ha.pw
  |cons x b ih=>
   refine ih (a:=putF x a) ⟨putF_pw ha.pw,fun y hy=> ?_⟩ fun y hy=>hb y (by simp[hy])
   rcases putF_mem.1 hy with rfl|hy
   ·exact hb _ (by simp)
   ·exact ha.rg y hy
 ·rcases mergeF_mem.1 hx with h|h
  ·exact ha.rg x h
  ·exact hb x h
def starK (f:Nat→List Nat) (at':Nat):Nat→List Nat
 |0=>[at']
 |k+1=>if k<(starK f at' k).length then mergeF (starK f at' k) (f (gd (starK f at' k) k)) else starK f at' k
theorem Gk (f:Nat→List Nat)(at' k:Nat):starK f at' (k+1)=if k<(starK f at' k).length then mergeF (starK f at' k) (f (gd (starK f at' k) k)) else starK f at' k:=rfl
def seqK (f:Nat→List Nat) (l:List Nat):Nat→List Nat
 |0=>[]
 |k+1=>mergeF (seqK f l k) (f (gd l k))
def endsF:Re→List ByteArray→Nat→List Nat
 | .emp,_,p=>[p]
 | .nod s,l,p=>if p<l.length∧gd l p=s then [p+1] else []
 | .any,l,p=>if p<l.length then [p+1] else []
 | .alt a b,l,p=>mergeF (endsF a l p) (endsF b l p)
 | .seq a b,l,p=>seqK (endsF b l) (endsF a l p) (endsF a l p).length
 | .star a,l,p=>starK (endsF a l) p (l.length+1)
theorem seqK_inc {lo hi:Nat}{f:Nat→List Nat}{l:List Nat}(hf:∀ p,lo≤p→p≤hi→Inc p hi (f p))(hl:Inc lo hi l):∀ k,k≤l.length→Inc lo hi (seqK f l k)
 |0,_=>inc_nil _ _
 |k+1,hk=>by
  have h1:=hl.rg _ (Af (show k<l.length by omega));exact mergeF_inc (seqK_inc hf hl k qom) ((hf _ h1.1 h1.2).mono h1.1).rg
theorem seqK_mem {f:Nat→List Nat}{l:List Nat}{y:Nat}:∀ k,k≤l.length→(y∈seqK f l k↔∃ j,j<k∧y∈f (gd l j))
 |0,_=>by simp[seqK]
 |k+1,hk=>by
  rw[show seqK f l (k+1)=mergeF (seqK f l k) (f (gd l k)) from rfl,mergeF_mem,seqK_mem k qom]
  constructor
  ·rintro(⟨j,h1,h2⟩|h)
   ·exact⟨j,by omega,h2⟩
   ·exact⟨k,by omega,h⟩
  ·rintro⟨j,h1,h2⟩
   by_cases e:j=k
   ·subst e;exact .inr h2
   ·exact .inl ⟨j,by omega,h2⟩
theorem Et {lo hi:Nat}{f:Nat→List Nat}(hf:∀ p,lo≤p→p≤hi→Inc p hi (f p))(h0:lo≤hi):∀ k,Inc lo hi (starK f lo k)
 |0=>Jt ⟨Nat.le_refl _,h0⟩
 |k+1=>by
  have ih:=Et hf h0 k;rw[Gk];split
  ·rename_i hk;have h1:=ih.rg _ (Af hk);exact mergeF_inc ih ((hf _ h1.1 h1.2).mono h1.1).rg
  ·exact ih
theorem putF_pre {n:Nat}:∀ {l:List Nat} {k:Nat},l.Pairwise (· < ·)→k<l.length→gd l k≤n→∀ j,j≤k→gd (putF n l) j=gd l j∧l.length≤(putF n l).length
 |[],k,_,h,_,_,_=>by simp at h
 |x::l,k,hp,hk,hn,j,hj=>by
  have p1:=List.pairwise_cons.1 hp;unfold putF
  split
  ·rename_i hlt;cases k with
   |zero=>
    have:j=0:=by omega
    subst this;refine⟨rfl,?_⟩;simp only[List.length_cons];have:l.length≤(putF n l).length:=by
     cases l with
     |nil=>exact Nat.zero_le _
     |cons y l=>
      unfold putF
      split
      ·simp only[List.length_cons];exact Nat.succ_le_succ (by clear hp p1 hk hn hj;induction l with|nil=>exact Nat.zero_le _|cons z l ih=>unfold putF;split;(· simp only[List.length_cons];omega);(· split<;>simp))
      ·split<;>simp
    omega
   |succ k=>
    have hk':k<l.length:=by simpa using hk
    have ih:=fun j hj=>putF_pre (n:=n) p1.2 hk' hn j hj
    cases j with
    |zero=>exact⟨rfl,by simpa using (ih 0 qom).2⟩
    |succ j=>
     have:=ih j qom;exact⟨this.1,by simpa using this.2⟩
  ·split
   ·exact⟨rfl,Nat.le_refl _⟩
   ·rename_i h1 h2;exfalso;have h3:x≤gd (x::l) k:=by
     cases k with
     |zero=>exact Nat.le_refl _
     |succ k=>
      have:=p1.1 (gd l k) (Af (by simpa using hk));show x≤gd l k;omega
    omega
theorem mergeF_pre:∀ {b l:List Nat} {k:Nat},l.Pairwise (· < ·)→k<l.length→(∀ y∈b,gd l k≤y)→∀ j,j≤k→gd (mergeF l b) j=gd l j∧l.length≤(mergeF l b).length
 |[],l,k,_,_,_,j,_=>⟨rfl,Nat.le_refl _⟩
 |y::b,l,k,hp,hk,hb,j,hj=>by
  have h1:=fun j hj=>putF_pre hp hk (hb y (by simp)) j hj
  have h2:=(h1 k (Nat.le_refl _));have h3:=mergeF_pre (b:=b) (l:=putF y l) (k:=k) (putF_pw hp) qom (fun z hz=>by rw[h2.1];exact hb z (by simp[hz])) j hj;rw[show mergeF l (y::b)=mergeF (putF y l) b from rfl];exact⟨h3.1.trans (h1 j hj).1,by omega⟩
structure StarOk (f:Nat→List Nat) (lo hi k:Nat) (l:List Nat):Prop where
 inc:Inc lo hi l
 fst:lo∈l
 done:∀ j,j<k→j<l.length→∀ y∈f (gd l j),y∈l
 from':∀ y∈l,y=lo∨∃ x∈l,x<y∧y∈f x
theorem starK_ok {lo hi:Nat}{f:Nat→List Nat}(hf:∀ p,lo≤p→p≤hi→Inc p hi (f p))(h0:lo≤hi):∀ k,StarOk f lo hi k (starK f lo k)
 |0=>⟨Et hf h0 0,by simp[starK],fun j hj=>by omega,fun y hy=>by simp[starK] at hy;exact .inl hy⟩
 |k+1=>by
  have ih:=starK_ok hf h0 k;have hi:=Et hf h0 (k+1);rw[Gk] at hi ⊢
  split at hi
  ·rename_i hk;rw[if_pos hk];have h1:=ih.inc.rg _ (Af hk);have hff:=hf _ h1.1 h1.2;have hpre:=mergeF_pre (b:=f (gd (starK f lo k) k)) ih.inc.pw hk fun y hy=>(hff.rg y hy).1
   refine⟨hi,mergeF_mem.2 (.inl ih.fst),fun j hj hj2 y hy=> ?_,fun y hy=> ?_⟩
   ·rw[(hpre j qom).1] at hy
    by_cases e:j=k
    ·subst e;exact mergeF_mem.2 (.inr hy)
    ·exact mergeF_mem.2 (.inl (ih.done j qom qom y hy))
   ·rcases mergeF_mem.1 hy with h|h
    ·rcases ih.from' y h with h|⟨x,h2,h3⟩
     ·exact .inl h
     ·exact .inr ⟨x,mergeF_mem.2 (.inl h2),h3⟩
    ·rcases Nat.lt_or_ge (gd (starK f lo k) k) y with h5|h5
     ·exact .inr ⟨_,mergeF_mem.2 (.inl (Af hk)),h5,h⟩
     ·have h6:=(hff.rg y h).1;have h7:y=gd (starK f lo k) k:=by omega
      rw[h7];rcases ih.from' _ (Af hk) with h|⟨x,h2,h3⟩
      ·exact .inl h
      ·exact .inr ⟨x,mergeF_mem.2 (.inl h2),h3⟩
  ·rename_i hk;rw[if_neg hk];exact⟨ih.inc,ih.fst,fun j hj hj2=>ih.done j qom hj2,ih.from'⟩
theorem Cf:∀ (e:Re) (l:List ByteArray) (p:Nat),p≤l.length→Inc p l.length (endsF e l p)
 | .emp,l,p,h=>Jt ⟨Nat.le_refl _,h⟩
 | .nod s,l,p,h=>by
  unfold endsF;split
  ·exact Jt qom
  ·exact inc_nil _ _
 | .any,l,p,h=>by
  unfold endsF;split
  ·exact Jt qom
  ·exact inc_nil _ _
 | .alt a b,l,p,h=>mergeF_inc (Cf a l p h) (Cf b l p h).rg
 | .seq a b,l,p,h=>seqK_inc (fun q _ h2=>Cf b l q h2) (Cf a l p h) _ (Nat.le_refl _)
 | .star a,l,p,h=>Et (fun q _ h2=>Cf a l q h2) h _
def sub (l:List ByteArray) (p q:Nat):List ByteArray:=(l.drop p).take (q - p)
theorem sub_self (l:List ByteArray)(p:Nat):sub l p p=[]:=by simp[sub]
theorem sub_cat {l:List ByteArray}{p q r:Nat}(h1:p≤q)(h2:q≤r):sub l p q++sub l q r=sub l p r:=by
 unfold sub;rw[show r - p=(q - p)+(r - q) by omega,List.take_add,List.drop_drop,show p+(q - p)=q by omega]
theorem sub_one {l:List ByteArray}{p:Nat}(h:p<l.length):sub l p (p+1)=[gd l p]:=by
 unfold sub;rw[show p+1 - p=1 by omega,drop_gd h];rfl
theorem Ho {l:List ByteArray}{p q:Nat}(h1:p≤q)(h2:q≤l.length):(sub l p q).length=q - p:=by
 unfold sub;rw[List.length_take,List.length_drop];omega
theorem sub_split {l:List ByteArray}{p r:Nat}(h1:p≤r)(h2:r≤l.length){u v:List ByteArray}(h:sub l p r=u++v):sub l p (p+u.length)=u∧sub l (p+u.length) r=v∧p+u.length≤r:=by
 have hl:=congrArg List.length h;rw[Ho h1 h2,List.length_append] at hl;have hc:=sub_cat (l:=l) (p:=p) (q:=p+u.length) (r:=r) qom qom;rw[h] at hc;have h3:=List.append_inj hc (by rw[Ho qom qom];omega);exact⟨h3.1,h3.2,by omega⟩
theorem C8:∀ (e:Re) (l:List ByteArray) (p:Nat),p≤l.length→∀ q,q∈endsF e l p↔(p≤q∧q≤l.length)∧Lang e (sub l p q)
 | .emp,l,p,h,q=>by
  simp only[endsF,List.mem_cons,List.not_mem_nil,or_false]
  constructor
  ·rintro rfl;exact⟨⟨Nat.le_refl _,h⟩,by rw[sub_self];exact .emp⟩
  ·rintro⟨h1,h2⟩
   generalize hs:sub l p q=u at h2;cases h2;have:=Ho h1.1 h1.2;rw[hs] at this;simp at this;omega
 | .nod s,l,p,h,q=>by
  unfold endsF
  constructor
  ·intro hq
   split at hq
   ·rename_i hc;simp at hq;subst hq;exact⟨by omega,by rw[sub_one hc.1,hc.2];exact .nod s⟩
   ·cases hq
  ·rintro⟨h1,h2⟩
   generalize hs:sub l p q=u at h2;cases h2;have hl:=Ho h1.1 h1.2;rw[hs] at hl;simp at hl;have hq:q=p+1:=by omega
   subst hq;rw[sub_one qom] at hs;rw[if_pos ⟨by omega,by simpa using hs⟩];simp
 | .any,l,p,h,q=>by
  unfold endsF
  constructor
  ·intro hq
   split at hq
   ·rename_i hc;simp at hq;subst hq;exact⟨by omega,by rw[sub_one hc];exact .any _⟩
   ·cases hq
  ·rintro⟨h1,h2⟩
   generalize hs:sub l p q=u at h2;cases h2;have hl:=Ho h1.1 h1.2;rw[hs] at hl;simp at hl;rw[if_pos qom];simp;omega
 | .alt a b,l,p,h,q=>by
  rw[show endsF (.alt a b) l p=mergeF (endsF a l p) (endsF b l p) from rfl,mergeF_mem,C8 a l p h,C8 b l p h]
  constructor
  ·rintro(⟨h1,h2⟩|⟨h1,h2⟩)
   ·exact⟨h1, .altl h2⟩
   ·exact⟨h1, .altr h2⟩
  ·rintro⟨h1,h2⟩
   generalize hs:sub l p q=u at h2 ⊢;cases h2 with
   |altl h2=>exact .inl ⟨h1,h2⟩
   |altr h2=>exact .inr ⟨h1,h2⟩
 | .seq a b,l,p,h,q=>by
  rw[show endsF (.seq a b) l p=seqK (endsF b l) (endsF a l p) (endsF a l p).length from rfl,seqK_mem _ (Nat.le_refl _)]
  constructor
  ·rintro⟨j,hj,hq⟩;obtain⟨h1,h2⟩:=(C8 a l p h _).1 (Af hj);obtain⟨h3,h4⟩:=(C8 b l _ h1.2 q).1 hq;exact⟨by omega,by rw[← sub_cat h1.1 h3.1];exact .seq h2 h4⟩
  ·rintro⟨h1,h2⟩
   generalize hs:sub l p q=u at h2;cases h2 with
   | @seq _ _ u v h2 h3=>
    obtain⟨h4,h5,h6⟩:=sub_split h1.1 h1.2 hs;obtain⟨j,hj,hg⟩:=mem_gd.1 ((C8 a l p h (p+u.length)).2 ⟨by omega,by rw[h4];exact h2⟩);refine⟨j,hj,?_⟩;rw[hg];exact(C8 b l _ qom q).2 ⟨by omega,by rw[h5];exact h3⟩
 | .star a,l,p,h,q=>by
  have hf:∀ r,p≤r→r≤l.length→Inc r l.length (endsF a l r):=fun r _ h2=>Cf a l r h2
  have hok:=starK_ok hf h (l.length+1);rw[show endsF (.star a) l p=starK (endsF a l) p (l.length+1) from rfl]
  generalize starK (endsF a l) p (l.length+1)=out at hok;have hlen:=hok.inc.len;have hcl:∀ x∈out,∀ y∈endsF a l x,y∈out:=fun x hx y hy=>by
   obtain⟨j,hj,rfl⟩:=mem_gd.1 hx;exact hok.done j qom hj y hy
  have hsnoc:∀ {u v},Lang (.star a) u→Lang a v→Lang (.star a) (u++v):=fun {u v} hu hv=>by
   generalize he:Re.star a=e at hu
   induction hu with
   |emp=>cases he
   |nod _=>cases he
   |any _=>cases he
   |seq _ _ _ _=>cases he
   |altl _ _=>cases he
   |altr _ _=>cases he
   |stn=>cases he;have:=Lang.stc hv .stn;simpa using this
   |stc h1 _ _ ih=>cases he;rw[List.append_assoc];exact .stc h1 (ih rfl)
  constructor
  ·intro hq;have hr:=hok.inc.rg q hq;refine⟨hr,?_⟩;have key:∀ n q,q≤n→q∈out→Lang (.star a) (sub l p q):=fun n=>by
    induction n with
    |zero=>
     intro q hn hq;have hr:=hok.inc.rg q hq;rw[show q=p by omega,sub_self];exact .stn
    |succ n ih=>
     intro q hn hq;have hr:=hok.inc.rg q hq;rcases hok.from' q hq with rfl|⟨x,hx,hlt,hy⟩
     ·rw[sub_self];exact .stn
     ·have hrx:=hok.inc.rg x hx;obtain⟨h1,h2⟩:=(C8 a l x hrx.2 q).1 hy;rw[← sub_cat hrx.1 h1.1];exact hsnoc (ih x qom hx) h2
   exact key q q (Nat.le_refl _) hq
  ·rintro⟨h1,h2⟩;have key:∀ {e u},Lang e u→e= .star a→∀ x,x∈out→x≤q→sub l x q=u→q∈out:=by
    intro e u hu
    induction hu with
    |emp=>intro he;cases he
    |nod _=>intro he;cases he
    |any _=>intro he;cases he
    |seq _ _ _ _=>intro he;cases he
    |altl _ _=>intro he;cases he
    |altr _ _=>intro he;cases he
    |stn=>
     intro he x hx hxq hs;have:=Ho hxq h1.2;rw[hs] at this;simp at this;rw[show q=x by omega];exact hx
    | @stc a' u v hu hv _ ih=>
     intro he x hx hxq hs;cases he;obtain⟨h4,h5,h6⟩:=sub_split hxq h1.2 hs;have hrx:=hok.inc.rg x hx;exact ih U _ (hcl x hx _ ((C8 a l x hrx.2 _).2 ⟨by omega,by rw[h4];exact hu⟩)) h6 h5
   exact key h2 U p hok.fst h1.1 U
theorem ends_match {e:Re}(hl:e.lv≤64)(hg:e.good)(l:List ByteArray):decide (l.length∈endsF e l 0)=matchF e l:=by
 refine Bool.eq_iff_iff.2 ?_;rw[decide_eq_true_iff,C8 e l 0 (Nat.zero_le _),match_lang hl hg];have:sub l 0 l.length=l:=by simp[sub]
 rw[this];exact⟨fun h=>h.2,fun h=>⟨by omega,h⟩⟩
theorem starK_grow {lo hi:Nat}{f:Nat→List Nat}(hf:∀ p,lo≤p→p≤hi→Inc p hi (f p))(h0:lo≤hi){k:Nat}(hk:k<(starK f lo k).length):(starK f lo k).length≤(starK f lo (k+1)).length∧starK f lo (k+1)=mergeF (starK f lo k) (f (gd (starK f lo k) k)):=by
 have ih:=Et hf h0 k;have h1:=ih.rg _ (Af hk);have e:starK f lo (k+1)=mergeF (starK f lo k) (f (gd (starK f lo k) k)):=by rw[Gk,if_pos hk]
 rw[e];exact⟨(mergeF_pre ih.pw hk (fun y hy=>((hf _ h1.1 h1.2).rg y hy).1) 0 (Nat.zero_le _)).2,rfl⟩
theorem starK_end {f:Nat→List Nat}{lo k:Nat}(hk: ¬ k<(starK f lo k).length):∀ j,starK f lo (k+j)=starK f lo k
 |0=>rfl
 |j+1=>by
  have ih:=starK_end hk j;rw[show k+(j+1)=(k+j)+1 by omega,Gk,ih,if_neg qom]
def GL (w0:World) (H:List (Nat × Obj)) (l:List Nat) (v:Value) (H':List (Nat × Obj)):Prop:=∃ (q':Option Addr) (c':Nat) (M:List (Nat × Obj)),(v= .slice q' l.length c'∧l.length≤c'∧Arr w0 (M++H) q' 1 encU l)∧H'=M++H
def EndS (w0:World) (m:Rxm) (e:Re):Prop:=∀ (H:List (Nat × Obj)) (l:List ByteArray) (q:Option Addr) (c p:Nat),RxM w0 H m→Arr w0 H q 1 encS l→l.length≤4000→p≤l.length→FSpec Tryz.prog w0 126 #[.agg (encRx m).toArray, .slice q l.length c, .int .i64 (p:Int)] H (GL w0 H (endsF e l p))
theorem Je {w0:World}{H Hc:List (Nat × Obj)}{l:List Nat}{n x:Nat}(hl:l=[x])(hs:((n,Cl (encU x) 3)::H).Sublist Hc):∃ H',GL w0 H l (resOf [.slice (some ⟨n,0,none⟩) 1 1]) H'∧H'.Sublist Hc:=by
 subst hl;exact⟨_,⟨some ⟨n,0,none⟩,1,[(n,Cl (encU x) 3)],⟨rfl,Nat.le_refl _,Bw (fun _=>rfl) U A2⟩,rfl⟩,hs⟩
theorem gl_nil {w0:World}{H Hc:List (Nat × Obj)}{l:List Nat}(hl:l=[])(hs:H.Sublist Hc):∃ H',GL w0 H l (resOf [.slice none 0 0]) H'∧H'.Sublist Hc:=by
 subst hl;exact⟨_,⟨none,0,[],⟨rfl,Nat.le_refl _,fun i x hi=>by cases hi⟩,rfl⟩,hs⟩
theorem gl_of {w0:World}{H Hc:List (Nat × Obj)}{l:List Nat}{q:Option Addr}{c:Nat}(M:List (Nat × Obj))(hc:l.length≤c)(hA:Arr w0 Hc q 1 encU l)(hs:Hc=M++H):∃ H',GL w0 H l (resOf [.slice q l.length c]) H'∧H'.Sublist Hc:=by
 subst hs;exact⟨_,⟨q,c,M,⟨rfl,hc,hA⟩,rfl⟩,List.Sublist.refl _⟩
theorem end_emp {w0:World}{q:Option Addr}{c:Nat}:EndS w0 (.mk 1 ⟨#[]⟩ q c []) (.emp):=by
 intro H l q2 c2 p hM hN hl hp;show FSpec Tryz.prog w0 126 #[.agg #[.int .i64 1, .string ⟨#[]⟩, .slice q 0 c], .slice q2 l.length c2, .int .i64 (p:Int)] H _;refine Ao Tryz.func126 U ntmps126 U (rD tb 2 U (e_ (Lf U cs_) ?_ U));rintro _ _ ⟨n3,rfl,rfl⟩;refine rO tb 7 U (y_ (Lb U isAgg3 qco) ?_ U);refine rO tb 13 U (e_ (Aj (.cons (T U) .nil) (Bn _)) ?_ U);rintro _ _ ⟨n17,rfl,rfl⟩;refine rO tb 6 U (Ah U (K9 U) ?_);exact Je U sbt
theorem end_any {w0:World}{q:Option Addr}{c:Nat}:EndS w0 (.mk 3 ⟨#[]⟩ q c []) (.any):=by
 intro H l q2 c2 p hM hN hl hp;show FSpec Tryz.prog w0 126 #[.agg #[.int .i64 3, .string ⟨#[]⟩, .slice q 0 c], .slice q2 l.length c2, .int .i64 (p:Int)] H _;refine Ao Tryz.func126 U ntmps126 U (rD tb 2 U (e_ (Lf U cs_) ?_ U));rintro _ _ ⟨n3,rfl,rfl⟩;refine rO tb 7 U (y_ (Lb U isAgg3 qco) ?_ U);refine rO tb 33 U ?_;refine Ad (Aa U) (fun c41=> ?_) (fun c41=> ?_)
 ·refine rC tb 3 U (y_ (Av (T U) Ap qom) ?_ U);refine e_ (Aj (.cons (T U) .nil) (Bn _)) ?_ U;rintro _ _ ⟨n44,rfl,rfl⟩;refine rO tb 7 U (Ah U (K9 U) ?_);exact Je (x:=p+1) (if_pos qom) sbt
 ·refine rC tb 10 U (Ah U (K9 U) ?_)
  first|exact Je (x:=p+1) (if_pos qom) sbt|exact gl_nil (if_neg qom) sbt
theorem end_nod {w0:World}{q:Option Addr}{c:Nat}{s:ByteArray}:EndS w0 (.mk 2 s q c []) (.nod s):=by
 intro H l q2 c2 p hM hN hl hp;show FSpec Tryz.prog w0 126 #[.agg #[.int .i64 2, .string s, .slice q 0 c], .slice q2 l.length c2, .int .i64 (p:Int)] H _;refine Ao Tryz.func126 U ntmps126 U (rD tb 2 U (e_ (Lf U cs_) ?_ U));rintro _ _ ⟨n3,rfl,rfl⟩;refine rO tb 7 U (y_ (Lb U isAgg3 qco) ?_ U);refine rO tb 19 U (Bh 13 [(0,true),(1,true),(2,true),(3,true),(4,true),(5,true),(6,true),(7,true),(8,true),(9,true),(10,true),(11,true),(12,true)] _ mixd qkr sb0 ?_ A8);refine rP tb 5 U ?_;refine Cd (s:=24) (Aa U) (fun c24=> ?_) (fun c24=> ?_)
 ·refine rP tb 2 U (o_y U (Ld U U runUnderlying64 sizeOf9 qom (by first|exact rfl|exact hN.b (i:=p) qom)) ?_ U (Az U U (Aa U)));refine o_y U (Lb U isAgg9 (by first|exact c_o|exact cell1 ((hN.mono sbt).cs (i:=p) qom))) ?_ U (Az U U (Aa U));refine rP tb 1 U (o_y U (Lb U isAgg9 qco) ?_ U (Az U U (Aa U)));refine o_y U (Ci (T U) (T U)) (rP tb 1 U (A7 U (rO tb 2 U ?_))) U (Az U U (Aa U));refine Ad (Aa U) (fun c32=> ?_) (fun c32=> ?_)
  ·refine rC tb 3 U (y_ (Av (T U) Ap qom) ?_ U);refine e_ (Aj (.cons (T U) .nil) (Bn _)) ?_ U;rintro _ _ ⟨n35,rfl,rfl⟩;refine rO tb 7 U (Ah U (K9 U) ?_);exact Je (x:=p+1) (if_pos ⟨by omega,bytes_ext (fun h=>h c32)⟩) sbt
  ·refine rC tb 10 U (Ah U (K9 U) ?_)
   first|exact Je (x:=p+1) (if_pos ⟨by omega,bytes_ext (fun h=>h c32)⟩) sbt|exact gl_nil (if_neg fun h=>by first|omega|exact c32 (by rw[h.2])) sbt
 ·refine rP tb 8 U (A7 U (rO tb 13 U (Ah U (K9 U) ?_)))
  first|exact Je (x:=p+1) (if_pos ⟨by omega,bytes_ext (fun h=>h c32)⟩) sbt|exact gl_nil (if_neg fun h=>by omega) sbt
theorem end_alt {w0:World}{q:Option Addr}{c:Nat}{ma mb:Rxm}{a b:Re}(iha:EndS w0 ma a)(ihb:EndS w0 mb b):EndS w0 (.mk 5 ⟨#[]⟩ q c [ma,mb]) (.alt a b):=by
 intro H l q2 c2 p hM hN hl hp;show FSpec Tryz.prog w0 126 #[.agg #[.int .i64 5, .string ⟨#[]⟩, .slice q 2 c], .slice q2 l.length c2, .int .i64 (p:Int)] H _;obtain⟨hA,hMM,_,_⟩:=hM;have hMa:=hMM ma (by simp);have hMb:=hMM mb (by simp);have hia:=Cf a l p hp;have hla:=hia.len;have hlb:=(Cf b l p hp).len;refine Ao Tryz.func126 U ntmps126 U (rD tb 2 U (e_ (Lf U cs_) ?_ U));rintro _ _ ⟨n3,rfl,rfl⟩;refine rO tb 7 U (y_ (Lb U isAgg3 qco) ?_ U);refine rO tb 32 U (Bh 13 [(0,true),(1,true),(2,true),(3,true),(4,true),(5,true),(7,true),(8,true),(9,true),(10,true),(11,true),(12,true),(6,false)] _ mixd qkr sb0 ?_ A8);refine rP tb 1 U (o_y U (Lb U isAgg54 qco) ?_ U Ac);refine o_y U (Bi (T U) Ap runUnderlying54 sizeOf56 qom (by first|exact rfl|exact hA.b0)) ?_ U Ac;refine o_y U (Lc U isAgg56 sizeOf56 U (by exact hA.cs0)) ?_ U Ac;refine rP tb 3 U (o_y U (Lb U isAgg54 qco) ?_ U Ac);refine o_y U (Bi (T U) Ap runUnderlying54 sizeOf56 qom (by first|exact rfl|exact hA.b0)) ?_ U Ac;refine o_y U (Lc U isAgg56 sizeOf56 U (by exact hA.cs1)) ?_ U Ac;refine rP tb 2 U (o_e U (Ak (qe3 U U U) call126 (iha _ l q2 c2 p (hMa.mono sbt) (hN.mono sbt) hl hp)) ?_ U Ac);rintro _ _ ⟨q3,c3,M3,⟨rfl,hc3,hA3⟩,rfl⟩;refine⟨sbt,(A7 U (e_ (Ak (qe3 U U U) call126 (ihb _ l q2 c2 p (hMb.mono sbt) (hN.mono sbt) hl hp)) ?_ U))⟩;rintro _ _ ⟨q4,c4,M4,⟨rfl,hc4,hA4⟩,rfl⟩;refine e_ (Ak (qe2 U U) call171 (merge_r _ q3 c3 (hA3.mono sbt) hc3 _ q4 c4 hA4 qom)) ?_ U;rintro _ _ ⟨q5,c5,M5,⟨rfl,hc5,hA5⟩,rfl⟩;refine rO tb 6 U (Ah U (K9 U) ?_);exact gl_of (M5++(M4++(M3++[(n3,Cl [.int .i64 5, .string ⟨#[]⟩, .slice q 2 c] 56)]))) hc5 hA5 (by simp only[List.append_assoc,List.cons_append,List.nil_append,List.singleton_append])
theorem end_seq {w0:World}{q:Option Addr}{c:Nat}{ma mb:Rxm}{a b:Re}(iha:EndS w0 ma a)(ihb:EndS w0 mb b):EndS w0 (.mk 4 ⟨#[]⟩ q c [ma,mb]) (.seq a b):=by
 intro H l q2 c2 p hM hN hl hp;show FSpec Tryz.prog w0 126 #[.agg #[.int .i64 4, .string ⟨#[]⟩, .slice q 2 c], .slice q2 l.length c2, .int .i64 (p:Int)] H _;obtain⟨hA,hMM,_,_⟩:=hM;have hMa:=hMM ma (by simp);have hMb:=hMM mb (by simp);have hia:=Cf a l p hp;have hla:=hia.len;refine Ao Tryz.func126 U ntmps126 U (rD tb 2 U (e_ (Lf U cs_) ?_ U));rintro _ _ ⟨n3,rfl,rfl⟩;refine rO tb 7 U (y_ (Lb U isAgg3 qco) ?_ U);refine rO tb 46 U (y_ (Lb U isAgg54 qco) ?_ U);refine y_ (Bi (T U) Ap runUnderlying54 sizeOf56 qom (by first|exact rfl|exact hA.b0)) ?_ U;refine y_ (Lc U isAgg56 sizeOf56 U (by exact hA.cs0)) ?_ U;refine rO tb 2 U (e_ (Ak (qe3 U U U) call126 (iha _ l q2 c2 p (hMa.mono sbt) (hN.mono sbt) hl hp)) ?_ U);rintro _ _ ⟨q3,c3,M3,⟨rfl,hc3,hA3⟩,rfl⟩;refine rO tb 10 U ?_;refine Ba (X:=Nat × Option Addr × Nat × List (Nat × Obj)) (V:=fun ⟨k,q1,c1,M⟩=>[(9, .int .i64 (k:Nat)),(7, .slice q1 (seqK (endsF b l) (endsF a l p) k).length c1)]) (C:=[(1,_),(3,_),(8,_)]) (G:=fun ⟨k,q1,c1,M⟩=>M++(M3++((n3,Cl [.int .i64 4, .string ⟨#[]⟩, .slice q 2 c] 56)::H))) (φ:=fun ⟨k,q1,c1,M⟩=>k≤(endsF a l p).length∧(seqK (endsF b l) (endsF a l p) k).length≤c1∧Arr w0 (M++(M3++((n3,Cl [.int .i64 4, .string ⟨#[]⟩, .slice q 2 c] 56)::H))) q1 1 encU (seqK (endsF b l) (endsF a l p) k)) (μ:=fun ⟨k,q1,c1,M⟩=>(endsF a l p).length - k) (x0:=(0,none,0,[])) ?_ ⟨Aa rfl,Aa rfl,Aa rfl,trivial⟩ ⟨qat,qat,trivial⟩ sb0 ?_
 ·exact⟨Nat.zero_le _,Nat.le_refl _,fun i x hi=>by cases hi⟩
 rintro⟨k,q1,c1,M⟩ ⟨hk,hc1,hA1⟩;have hsl:=(seqK_inc (fun r _ h2=>Cf b l r h2) hia k hk).len;refine rD tb 9 U ?_;refine Ad (Aa U) (fun c74=> ?_) (fun c74=> ?_)
 ·have hgk:=hia.rg _ (Af (i:=k) qom);have hlb:=(Cf b l _ hgk.2).len;refine rC tb 4 U (Bh 11 [(0,true),(1,true),(2,true),(3,true),(4,true),(5,true),(6,true),(7,true),(8,true),(9,true),(10,false)] _ mixd qkr sb0 ?_ A8);refine rP tb 2 U (o_y U (Lb U isAgg54 qco) ?_ U Ac);refine o_y U (Bi (T U) Ap runUnderlying54 sizeOf56 qom (by first|exact rfl|exact hA.b0)) ?_ U Ac;refine o_y U (Lc U isAgg56 sizeOf56 U (by exact hA.cs1)) ?_ U Ac;refine rP tb 3 U (o_y U (Ld U U runUnderlying27 sizeOf3 qom (by first|exact rfl|exact hA.b0|exact hA3.b (i:=k) qom)) ?_ U Ac);refine o_y U (Lb U isAgg3 (by first|exact c_o|exact cell1 ((hA3.mono sbt).cs (i:=k) qom))) ?_ U Ac;refine o_e U (Ak (qe3 U U U) call126 (ihb _ l q2 c2 (gd (endsF a l p) k) (hMb.mono sbt) (hN.mono sbt) hl hgk.2)) ?_ U Ac;rintro _ _ ⟨q4,c4,M4,⟨rfl,hc4,hA4⟩,rfl⟩;refine⟨sbt,(A7 U (e_ (Ak (qe2 U U) call171 (merge_r _ q1 c1 (hA1.mono sbt) hc1 _ q4 c4 hA4 qom)) ?_ U))⟩;rintro _ _ ⟨q5,c5,M5,⟨rfl,hc5,hA5⟩,rfl⟩;refine rO tb 6 U (y_ (Av (T U) Ap qom) ?_ U);refine rO tb 2 U ?_;refine Ar ((k+1,q5,c5,M5++(M4++M))) ?_ ?_ ⟨qat,qat,trivial⟩ ⟨Aa U,Aa U,Aa U,trivial⟩ ?_
  ·exact⟨by omega,hc5,by simpa only[List.append_assoc,seqK] using hA5⟩
  ·first|omega|(simp only[];omega)
  ·show (M5++(M4++M)++_).Sublist _;simp only[List.append_assoc];exact sbt
 ·refine rC tb 2 U (Ag (rX tb 11 U (Ah U (K9 U) ?_)));have hk2:k=(endsF a l p).length:=by omega
  subst hk2;exact gl_of (M++(M3++[(n3,Cl [.int .i64 4, .string ⟨#[]⟩, .slice q 2 c] 56)])) hc1 hA1 (by simp only[List.append_assoc,List.cons_append,List.nil_append,List.singleton_append])
theorem end_star {w0:World}{q:Option Addr}{c:Nat}{ma:Rxm}{a:Re}(iha:EndS w0 ma a):EndS w0 (.mk 6 ⟨#[]⟩ q c [ma]) (.star a):=by
 intro H l q2 c2 p hM hN hl hp;show FSpec Tryz.prog w0 126 #[.agg #[.int .i64 6, .string ⟨#[]⟩, .slice q 1 c], .slice q2 l.length c2, .int .i64 (p:Int)] H _;obtain⟨hA,hMM,_,_⟩:=hM;have hMa:=hMM ma (by simp);have hf:∀ r,p≤r→r≤l.length→Inc r l.length (endsF a l r):=fun r _ h2=>Cf a l r h2
 refine Ao Tryz.func126 U ntmps126 U (rD tb 2 U (e_ (Lf U cs_) ?_ U));rintro _ _ ⟨n3,rfl,rfl⟩;refine rO tb 7 U (y_ (Lb U isAgg3 qco) ?_ U);refine rO tb 44 U (e_ (Aj (.cons (T U) .nil) (Bn _)) ?_ U);rintro _ _ ⟨n91,rfl,rfl⟩;refine rO tb 10 U ?_;refine Ba (X:=Nat × Option Addr × Nat × List (Nat × Obj)) (V:=fun ⟨k,q1,c1,M⟩=>[(11, .int .i64 (k:Nat)),(10, .slice q1 (starK (endsF a l) p k).length c1)]) (C:=[(1,_),(3,_)]) (G:=fun ⟨k,q1,c1,M⟩=>M++((n3,Cl [.int .i64 6, .string ⟨#[]⟩, .slice q 1 c] 56)::H)) (φ:=fun ⟨k,q1,c1,M⟩=>k≤(starK (endsF a l) p k).length∧(starK (endsF a l) p k).length≤c1∧Arr w0 (M++((n3,Cl [.int .i64 6, .string ⟨#[]⟩, .slice q 1 c] 56)::H)) q1 1 encU (starK (endsF a l) p k)) (μ:=fun ⟨k,q1,c1,M⟩=>l.length+1 - k) (x0:=(0,some ⟨n91,0,none⟩,1,[(n91,Cl (encU p) 3)])) ?_ ⟨Aa rfl,Aa rfl,trivial⟩ ⟨qat,qat,trivial⟩ sb0 ?_
 ·exact⟨Nat.zero_le _,Nat.le_refl _,Bw (fun _=>rfl) U A2⟩
 rintro⟨k,q1,c1,M⟩ ⟨hk,hc1,hA1⟩;have hinc:=Et hf hp k;have hsl:=hinc.len;refine rD tb 9 U ?_;refine Ad (Aa U) (fun c95=> ?_) (fun c95=> ?_)
 ·have hgk:=hinc.rg _ (Af (i:=k) qom);have hlb:=(Cf a l _ hgk.2).len;obtain⟨hgr,heq⟩:=starK_grow hf hp (k:=k) qom;refine rC tb 13 U ?_;refine Ad (Aa U) (fun c101=> ?_) (fun c101=> ?_)
  ·exfalso;omega
  ·refine rC tb 2 U (Bh 11 [(0,true),(1,true),(2,true),(3,true),(4,true),(5,true),(6,true),(7,true),(8,true),(9,true),(10,false)] _ mixd qkr sb0 ?_ A8);refine rP tb 2 U (o_y U (Lb U isAgg54 qco) ?_ U Ac);refine o_y U (Bi (T U) Ap runUnderlying54 sizeOf56 qom (by first|exact rfl|exact hA.b0)) ?_ U Ac;refine o_y U (Lc U isAgg56 sizeOf56 U (by exact hA.cs0)) ?_ U Ac;refine rP tb 3 U (o_y U (Ld U U runUnderlying27 sizeOf3 qom (by first|exact rfl|exact hA.b0|exact hA1.b (i:=k) qom)) ?_ U Ac);refine o_y U (Lb U isAgg3 (by first|exact c_o|exact cell1 ((hA1.mono sbt).cs (i:=k) qom))) ?_ U Ac;refine o_e U (Ak (qe3 U U U) call126 (iha _ l q2 c2 (gd (starK (endsF a l) p k) k) (hMa.mono sbt) (hN.mono sbt) hl hgk.2)) ?_ U Ac;rintro _ _ ⟨q4,c4,M4,⟨rfl,hc4,hA4⟩,rfl⟩;refine⟨sbt,(A7 U (e_ (Ak (qe2 U U) call171 (merge_r _ q1 c1 (hA1.mono sbt) hc1 _ q4 c4 hA4 qom)) ?_ U))⟩;rintro _ _ ⟨q5,c5,M5,⟨rfl,hc5,hA5⟩,rfl⟩;refine rO tb 6 U (y_ (Av (T U) Ap qom) ?_ U);refine rO tb 2 U ?_;rw[← heq] at hc5 hA5;refine Ar ((k+1,q5,c5,M5++(M4++M))) ?_ ?_ ⟨qat,(by first|exact Aa U|(refine Be (Aa U) (vint ?_);omega)|(refine Be (Aa U) ?_;simp;done)|(refine Be (Aa U) ?_;exact by rw[heq])),trivial⟩ ⟨Aa U,Aa U,trivial⟩ ?_
   ·exact⟨by omega,hc5,by simpa only[List.append_assoc] using hA5⟩
   ·first|omega|(simp only[];omega)
   ·show (M5++(M4++M)++_).Sublist _;simp only[List.append_assoc];exact sbt
 ·refine rC tb 2 U (Ag (rX tb 9 U (Ah U (K9 U) ?_)));have he:starK (endsF a l) p (l.length+1)=starK (endsF a l) p k:=by
   have:=starK_end (f:=endsF a l) (lo:=p) (k:=k) qom (l.length+1 - k)
   rwa [show k+(l.length+1 - k)=l.length+1 by omega] at this
  rw[show endsF (.star a) l p=starK (endsF a l) p (l.length+1) from rfl,he];exact gl_of (M++[(n3,Cl [.int .i64 6, .string ⟨#[]⟩, .slice q 1 c] 56)]) hc1 hA1 (by simp only[List.append_assoc,List.cons_append,List.nil_append,List.singleton_append])
theorem ends_s {w0:World}{m:Rxm}{e:Re}(h:Is m e):EndS w0 m e:=by
 induction h with
 |emp=>exact end_emp
 |nod _=>exact end_nod
 |any=>exact end_any
 |seq _ _ ih1 ih2=>exact end_seq ih1 ih2
 |alt _ _ ih1 ih2=>exact end_alt ih1 ih2
 |star _ ih=>exact end_star ih
theorem rMatch_s {w0:World}{H:List (Nat × Obj)}(m:Rxm)(e:Re)(hI:Is m e)(hM:RxM w0 H m)(hlv:e.lv≤64)(l:List ByteArray)(q:Option Addr)(c:Nat)(hN:Arr w0 H q 1 encS l)(hl:l.length≤4000):
  FSpec Tryz.prog w0 82 #[.agg (encRx m).toArray, .slice q l.length c] H (fun v H'=>(v= .bool (matchF e l))∧∃ M,H'=M++H):=by
 refine Ao Tryz.func82 U ntmps82 U (rD tb 2 U (e_ (Lf U cs_) ?_ U));rintro _ _ ⟨n2,rfl,rfl⟩;refine rO tb 5 U (y_ (Lc U isAgg56 sizeOf56 U qcs) ?_ U);refine rO tb 1 U (e_ (Ak (.cons (T U) (.cons (T U) (.cons Ap .nil))) call126 (ends_s hI _ l q c 0 (hM.mono sbt) (hN.mono sbt) hl (Nat.zero_le _))) ?_ U);rintro _ _ ⟨q1,c1,M1,⟨rfl,hc1,hA1⟩,rfl⟩;refine rO tb 8 U (y_ (Ay (qe2 U U) call127 (fun H' hs=>has_r _ q1 c1 (hA1.mono hs) (by have:=(Cf e l 0 (Nat.zero_le _)).len;omega) l.length)) ?_ U);refine rO tb 4 U (Ah U (K9 U) ?_);exact⟨H,⟨vbool (ends_match hlv hI.good l),[],rfl⟩,sbt⟩
theorem down_s {w0:World}{H:List (Nat × Obj)}(f:Flr)(x:Int):
  FSpec Tryz.prog w0 81 #[.agg (encFl f).toArray, .int .i64 x] H (Still (.bool (decide (f.node=x))) H):=by
 refine Ao Tryz.func81 U ntmps81 U (rD tb 2 U (e_ (Lf U cs_) ?_ U));rintro _ _ ⟨n2,rfl,rfl⟩;refine rO tb 6 U (y_ (Lb U isAgg3 qco) ?_ U);refine rO tb 6 U (Ah U (K9 U) ?_);exact⟨_,⟨rfl,rfl⟩,sbt⟩
theorem rup_s {w0:World}{H:List (Nat × Obj)}(n:Nn)(hn:NetR w0 H n)(f:Flr)(hf:Arr w0 H f.q 1 encI f.links)(hfl:f.links.length≤4611686018427387903)(l:Nat)(hl:l<n.links.length):
  FSpec Tryz.prog w0 72 #[.agg (encNn n).toArray, .agg (encFl f).toArray, .int .i64 (l:Int)] H (Still (.bool (upF n f l)) H):=by
 refine Ao Tryz.func72 U ntmps72 U (rD tb 2 U (e_ (Lf U cs_) ?_ U));rintro _ _ ⟨n3,rfl,rfl⟩;refine e_ (Lf U cs_) ?_ U;rintro _ _ ⟨n4,rfl,rfl⟩;refine rO tb 10 U ?_;refine Bd (X:=Nat) (V:=fun k=>[(7, .int .i64 (k:Nat))]) (C:=[(2,_),(3,_),(4,_)]) (φ:=fun k=>k≤f.links.length∧∀ j,j<k→¬ gd f.links j=(l:Int)) (μ:=fun k=>f.links.length - k) (x0:=0) ?_ ⟨Aa U,Aa U,Aa U,trivial⟩ ⟨qat,trivial⟩ ?_
 ·exact⟨Nat.zero_le _,fun j hj=>by omega⟩
 rintro k ⟨hk,hno⟩;refine rD tb 5 U (y_ (Lb U isAgg27 qco) ?_ U);refine rO tb 4 U ?_;refine Ad (Aa U) (fun c12=> ?_) (fun c12=> ?_)
 ·refine rC tb 7 U (y_ (Lb U isAgg27 qco) ?_ U);refine rO tb 1 U (y_ (Ld U U runUnderlying27 sizeOf3 qom (by first|exact rfl|exact hf.b (i:=k) qom)) ?_ U);refine y_ (Lb U isAgg3 (by first|exact c_o|exact cell1 ((hf.mono sbt).cs (i:=k) qom))) ?_ U;refine rO tb 4 U ?_;refine Ad (Aa U) (fun c21=> ?_) (fun c21=> ?_)
  ·refine rC tb 8 U (As (rX tb 2 U (Ah U (K9 U) ?_)));have hm:(l:Int)∈f.links:=by rw[← c21];exact Af qom
   exact⟨_,⟨vbool (by unfold upF;simp[hm]),rfl⟩,sbt⟩
  ·refine rC tb 5 U (y_ (Av (T U) Ap qom) ?_ U);refine rO tb 2 U ?_;refine Ar (k+1) ?_ ?_ ⟨qat,trivial⟩ ⟨Aa U,Aa U,Aa U,trivial⟩ ?_
   ·refine⟨by omega,fun j hj=> ?_⟩
    by_cases e:j=k
    ·subst e;exact c21
    ·exact hno j qom
   ·omega
   ·exact sbt
 ·refine rC tb 2 U (Ag (rX tb 3 U (Bh 21 [(0,true),(1,true),(2,true),(3,true),(4,true),(5,true),(6,true),(7,true),(8,true),(9,true),(10,true),(11,true),(12,true),(13,true),(14,true),(15,true),(16,true),(17,true),(18,true),(19,true),(20,true)] _ mixd qkr sb0 ?_ A8)));refine rP tb 1 U (o_y U (Lb U isAgg23 qco) ?_ U Ac);refine rP tb 1 U (o_y U (Ld U U runUnderlying23 sizeOf61 qom (by first|exact rfl|exact hf.b (i:=k) qom|exact hn.links.b (i:=l) hl)) ?_ U Ac);refine rP tb 1 U (o_y U (Lb U isAgg3 (by first|exact c_o|exact c_m (hn.links.f0 (i:=l) hl U))) ?_ U Ac);refine rP tb 1 U (o_y U (Lb U isAgg3 qco) ?_ U Ac);refine rP tb 2 U ?_;refine Cd (s:=31) (Aa U) (fun c31=> ?_) (fun c31=> ?_)
  ·refine rP tb 1 U (o_y U (Lb U isAgg23 qco) ?_ U (Az U U (Aa U)));refine rP tb 1 U (o_y U (Ld U U runUnderlying23 sizeOf61 qom (by first|exact rfl|exact hf.b (i:=k) qom|exact hn.links.b (i:=l) hl)) ?_ U (Az U U (Aa U)));refine rP tb 1 U (o_y U (Lb U isAgg3 (by first|exact c_o|exact c_m (hn.links.f0 (i:=l) hl U)|exact c_m (hn.links.f (i:=l) hl U))) ?_ U (Az U U (Aa U)));refine rP tb 1 U (o_y U (Lb U isAgg3 qco) ?_ U (Az U U (Aa U)));refine rP tb 3 U (A7 U (kO tb 2 [6] rfl U (rG tb 1 U (Ah U (K9 U) ?_))));have hm: ¬ (l:Int)∈f.links:=fun h=>by
    obtain⟨j,hj,e⟩:=List.getElem_of_mem h;exact hno j qom (by rw[An hj];exact e)
   exact⟨_,⟨vbool (by unfold upF;simp[hm,c31]),rfl⟩,sbt⟩
  ·refine rP tb 11 U (A7 U (kO tb 2 [6] rfl U (rG tb 1 U (Ah U (K9 U) ?_))));exact⟨_,⟨vbool (by unfold upF;simp[c31]),rfl⟩,sbt⟩
theorem wkF_skip {n:Nn}{x y:Int}{ls:List Int}{i:Nat}(hi:i<ls.length)(h:wkF n x (ls.take i)=some y)(hn: ¬ (0≤gd ls i∧gd ls i<n.links.length∧((gd n.links (gd ls i).toNat).src:Int)=y)):wkF n x ls=none:=by
 refine wkF_none (i:=i+1) n x ?_;rw[wkF_take n x hi,h,Option.bind_some,if_neg hn]
theorem rwalk_s {w0:World}{H:List (Nat × Obj)}(n:Nn)(hn:NetR w0 H n)(hok:NnOk n)(x:Int)(ls:List Int)(q:Option Addr)(c:Nat)(hA:Arr w0 H q 1 encI ls)(hlen:ls.length≤9223372036854775807):
  FSpec Tryz.prog w0 80 #[.agg (encNn n).toArray, .int .i64 x, .slice q ls.length c] H (Still (.tuple #[.int .i64 ((wkF n x ls).getD (-1)), .bool (wkF n x ls).isSome]) H):=by
 refine Ao Tryz.func80 U ntmps80 U ?_;have hfl:=hok.fewL;refine rD tb 2 U (e_ (Lf U cs_) ?_ U);rintro _ _ ⟨n3,rfl,rfl⟩;refine rO tb 11 U ?_;refine Bd (X:=Nat × Int) (V:=fun ⟨i,y⟩=>[(8, .int .i64 (i:Nat)),(1, .int .i64 y)]) (C:=[(2,_),(3,_)]) (φ:=fun ⟨i,y⟩=>i≤ls.length∧wkF n x (ls.take i)=some y) (μ:=fun ⟨i,y⟩=>ls.length - i) (x0:=(0,x)) ?_ ⟨Aa rfl,Aa rfl,trivial⟩ ⟨qat,qat,trivial⟩ ?_
 ·exact⟨Nat.zero_le _,rfl⟩
 rintro⟨i,y⟩ ⟨hi,hw⟩;refine rD tb 9 U ?_;refine Ad (Aa U) (fun c13=> ?_) (fun c13=> ?_)
 ·refine rC tb 8 U (y_ (Ld U U runUnderlying27 sizeOf3 qom (by first|exact rfl|exact hA.b (i:=i) qom)) ?_ U);refine y_ (Lb U isAgg3 (by first|exact c_o|exact cell1 ((hA.mono sbt).cs (i:=i) qom))) ?_ U;refine rO tb 9 U ?_;refine A4 (s:=22) (Aa U) (fun c22=> ?_) (fun c22=> ?_)
  ·refine kO tb 18 [2,3,8,9,38] rfl U (rG tb 11 U (As (rX tb 2 U (Ah U (.tmp (Aa U) (K9 U)) ?_))));have hz:wkF n x ls=none:=wkF_skip (i:=i) qom hw qom;rw[hz];exact⟨_,⟨rfl,rfl⟩,sbt⟩
  ·refine rO tb 2 U (A5 (Lb U isAgg23 qco) U (Az U U (Aa U)) ?_);refine rO tb 4 U ?_;refine A4 (s:=29) (Aa U) (fun c29=> ?_) (fun c29=> ?_)
   ·refine kO tb 11 [2,3,8,9,38] rfl U (rG tb 11 U (As (rX tb 2 U (Ah U (.tmp (Aa U) (K9 U)) ?_))));have hz:wkF n x ls=none:=wkF_skip (i:=i) qom hw qom;rw[hz];exact⟨_,⟨rfl,rfl⟩,sbt⟩
   ·refine rO tb 1 U (A5 (Lb U isAgg23 qco) U (Az U U (Aa U)) ?_);refine rO tb 1 U (A5 (Bi (T U) (T U) runUnderlying23 sizeOf61 qom (by first|exact rfl|exact hA.b (i:=i) qom|exact hn.links.b (i:=(gd ls i).toNat) qom)) U (Az U U (Aa U)) ?_);refine rO tb 1 U (A5 (Lb U isAgg3 (by first|exact c_o|exact c_m (hn.links.f0 (i:=(gd ls i).toNat) qom U))) U (Az U U (Aa U)) ?_);refine kO tb 5 [2,3,8,9,38] rfl U ?_;refine Ad (Aa U) (fun c38=> ?_) (fun c38=> ?_)
    ·refine rC tb 10 U (As (rX tb 2 U (Ah U (.tmp (Aa U) (K9 U)) ?_)));have hz:wkF n x ls=none:=wkF_skip (i:=i) qom hw qom;rw[hz];exact⟨_,⟨rfl,rfl⟩,sbt⟩
    ·refine rC tb 4 U (y_ (Lb U isAgg23 qco) ?_ U);refine rO tb 1 U (y_ (Bi (T U) (T U) runUnderlying23 sizeOf61 qom (by first|exact rfl|exact hA.b (i:=i) qom|exact hn.links.b (i:=(gd ls i).toNat) qom)) ?_ U);refine rO tb 1 U (y_ (Lb U isAgg3 (by first|exact c_o|exact c_m (hn.links.f0 (i:=(gd ls i).toNat) qom U)|exact c_m (hn.links.f (i:=(gd ls i).toNat) qom U))) ?_ U);refine rO tb 6 U (y_ (Av (T U) Ap qom) ?_ U);refine rO tb 2 U ?_;refine Ar ((i+1,((gd n.links (gd ls i).toNat).dst:Int))) ?_ ?_ ⟨qat,qat,trivial⟩ ⟨Aa U,Aa U,trivial⟩ ?_
     ·exact⟨by omega,by rw[wkF_take n x qom,hw,Option.bind_some,if_pos ⟨by omega,by omega,by omega⟩]⟩
     ·first|omega|(simp only[];omega)
     ·exact sbt
 ·refine rC tb 2 U (Ag (rX tb 10 U (Ah U (.tmp (Aa U) (K9 U)) ?_)));have hz:wkF n x ls=some y:=by rw[← hw,List.take_of_length_le qom]
  rw[hz];exact⟨_,⟨rfl,rfl⟩,sbt⟩
theorem rnames_s {w0:World}{H:List (Nat × Obj)}(n:Nn)(hn:NetR w0 H n)(hok:NnOk n)(x:Nat)(hx:x<n.nodes.length)(ls:List Int)(q:Option Addr)(c:Nat)(hA:Arr w0 H q 1 encI ls)(hlen:ls.length≤3000)(hv:∀ i,i<ls.length→0≤gd ls i∧gd ls i<n.links.length):
  FSpec Tryz.prog w0 83 #[.agg (encNn n).toArray, .int .i64 (x:Int), .slice q ls.length c] H (fun v H'=>∃ d,(v=slV d (namesF n x ls).length∧SlOk d (namesF n x ls).length 1)∧H'=slH d ((namesF n x ls).flatMap encS) 9++H):=by
 refine Ao Tryz.func83 U ntmps83 U (rD tb 2 U (e_ (Lf U cs_) ?_ U));rintro _ _ ⟨n3,rfl,rfl⟩;refine rO tb 6 U (y_ (Lb U isAgg22 qco) ?_ U);refine rO tb 1 U (y_ (Ld U U runUnderlying22 sizeOf85 qom (by first|exact rfl|exact hn.nodes.b (i:=x) hx)) ?_ U);refine rO tb 1 U (y_ (Lb U isAgg9 (by first|exact c_o|exact c_m (hn.nodes.f0 (i:=x) hx U))) ?_ U);refine e_ (Aj (.cons (T U) .nil) (Cc _)) ?_ U;rintro _ _ ⟨n15,rfl,rfl⟩;refine rO tb 10 U ?_;refine Ba (X:=Nat × Sl) (V:=fun ⟨i,d⟩=>[(8, .int .i64 (i:Nat)),(7,slV d (namesF n x (ls.take i)).length)]) (C:=[(2,_),(3,_)]) (G:=fun ⟨i,d⟩=>slH d ((namesF n x (ls.take i)).flatMap encS) 9++((n3,Cl (encNn n) 26)::H)) (φ:=fun ⟨i,d⟩=>i≤ls.length∧SlOk d (namesF n x (ls.take i)).length 1) (μ:=fun ⟨i,d⟩=>ls.length - i) (x0:=(0, .blk n15 1 [])) ?_ ⟨Aa rfl,Aa rfl,trivial⟩ ⟨qat,qat,trivial⟩ sb0 ?_
 ·exact⟨Nat.zero_le _,⟨Nat.le_refl _,rfl⟩⟩
 rintro⟨i,d⟩ ⟨hi,hd⟩;refine rD tb 9 U ?_;refine Ad (Aa U) (fun c19=> ?_) (fun c19=> ?_)
 ·have hvi:=hv i qom;have hvd:=(hok.ends _ (Af (l:=n.links) (i:=(gd ls i).toNat) qom)).2;refine rC tb 4 U (Bh 16 [(0,true),(1,true),(2,true),(3,true),(4,true),(5,true),(6,true),(7,true),(8,true),(9,true),(10,true),(11,true),(12,true),(13,true),(14,true),(15,false)] _ mixd qkr sb0 ?_ A8);refine rP tb 2 U (o_y U (Lb U isAgg22 qco) ?_ U Ac);refine rP tb 1 U (o_y U (Lb U isAgg23 qco) ?_ U Ac);refine rP tb 2 U (o_y U (Ld U U runUnderlying27 sizeOf3 qom (by first|exact rfl|exact hn.nodes.b (i:=x) hx|exact hA.b (i:=i) qom)) ?_ U Ac);refine o_y U (Lb U isAgg3 (by first|exact c_o|exact cell1 ((hA.mono sbt).cs (i:=i) qom))) ?_ U Ac;refine o_y U (Bi (T U) (T U) runUnderlying23 sizeOf61 qom (by first|exact rfl|exact hn.nodes.b (i:=x) hx|exact hA.b (i:=i) qom|exact hn.links.b (i:=(gd ls i).toNat) qom)) ?_ U Ac;refine rP tb 1 U (o_y U (Lb U isAgg3 (by first|exact c_o|exact c_m (hn.nodes.f0 (i:=x) hx U)|exact c_m (hn.links.f (i:=(gd ls i).toNat) qom U))) ?_ U Ac);refine o_y U (Bi (T U) (T U) runUnderlying22 sizeOf85 qom (by first|exact rfl|exact hn.nodes.b (i:=x) hx)) ?_ U Ac;refine rP tb 1 U (o_y U (Lb U isAgg9 (by first|exact c_o|exact c_m (hn.nodes.f0 (i:=x) hx U)|exact c_m (hn.links.f (i:=(gd ls i).toNat) qom U)|exact c_m (hn.nodes.f0 (i:=(gd n.links (gd ls i).toNat).dst) hvd U))) ?_ U Ac);refine o_e U (Aj (.cons (T U) .nil) (Cc _)) ?_ U Ac;rintro _ _ ⟨n37,rfl,rfl⟩;refine⟨sbt,(A7 U (e_ (Bg (nmF n (gd n.links (gd ls i).toNat).dst) (by':=16) (l:=namesF n x (ls.take i)) qlc (T U) (T U) runUnderlying64 runUnderlying64 sizeOf9 typeInfo9 U zeroValue9 U (fun _=>rfl) U hd qde (by have:=Gg n x (ls.take i);rw[List.length_take] at this;omega)) ?_ U))⟩;rintro _ _ ⟨d',rfl,hd',rfl⟩;refine rO tb 6 U (y_ (Av (T U) Ap qom) ?_ U);refine rO tb 2 U ?_;have hnt:=namesF_take (n:=n) (x:=x) (ls:=ls) (i:=i) qom;refine Ar ((i+1,d')) ?_ ?_ ⟨qat,(by first|exact Aa U|(refine Be (Aa U) (vint ?_);omega)|(refine Be (Aa U) ?_;simp;done)|(refine Be (Aa U) ?_;exact by rw[hnt])),trivial⟩ ⟨Aa U,Aa U,trivial⟩ ?_
  ·exact⟨by omega,by rw[hnt];exact hd'⟩
  ·first|omega|(simp only[];omega)
  ·simp only[hnt];exact sbt
 ·refine rC tb 2 U (Ag (rX tb 9 U (Ah U (K9 U) ?_)));have he:ls.take i=ls:=List.take_of_length_le qom;refine⟨slH d ((namesF n x (ls.take i)).flatMap encS) 9++H,?_,sbt⟩;rw[he] at hd ⊢;exact⟨d,⟨rfl,hd⟩,rfl⟩
theorem list_eq {α:Type}[Inhabited α] {a b:List α}(hl:a.length=b.length)(h:∀ j,j<a.length→gd a j=gd b j):a=b:=
 List.ext_getElem hl fun j h1 h2=>by rw[← An h1,← An h2];exact h j h1
theorem rholds_s {w0:World}{H:List (Nat × Obj)}(n:Nn)(hn:NetR w0 H n)(hok:NnOk n)(f:Flr)(hf:Arr w0 H f.q 1 encI f.links)(hfl:f.links.length≤4611686018427387903)(m:Rxm)(e:Re)(hI:Is m e)(hM:RxM w0 H m)(hlv:e.lv≤64)(x to:Nat)(hx:x<n.nodes.length)(ls:List Int)(q:Option Addr)(c:Nat)(hA:Arr w0 H q 1 encI ls)(hlen:ls.length≤3000):
  FSpec Tryz.prog w0 34 #[.agg (encNn n).toArray, .agg (encFl f).toArray, .agg (encRx m).toArray, .int .i64 (x:Int), .int .i64 (to:Int), .slice q ls.length c] H (fun v H'=>v= .bool (holdsF n f e x to ls)∧H'=H):=by
 refine Ao Tryz.func34 U ntmps34 U (rD tb 2 U (e_ (Lf U cs_) ?_ U));rintro _ _ ⟨n6,rfl,rfl⟩;refine e_ (Lf U cs_) ?_ U;rintro _ _ ⟨n7,rfl,rfl⟩;refine e_ (Lf U cs_) ?_ U;rintro _ _ ⟨n8,rfl,rfl⟩;refine rO tb 5 U (y_ (Lc U isAgg26 sizeOf26 U qcs) ?_ U);refine rO tb 2 U (y_ (Ay (qe3 U U U) call80 (fun H' hs=>rwalk_s n (hn.mono (stn hs)) hok x ls q c (hA.mono (stn hs)) qom)) ?_ U);refine rO tb 9 U (y_ (Lc U isAgg29 sizeOf29 U qcs) ?_ U);refine rO tb 1 U (y_ (Ay (qe2 U U) call81 (fun H' hs=>down_s f x)) (rO tb 7 U ?_) U)
 first|refine A5 (A9 (T U)) U Ac ?_|refine A5 (B0 (T U)) U Ac ?_
 refine rO tb 1 U ?_
 first|refine A4 (s:=30) (Aa U) (fun c30=> ?_) (fun c30=> ?_)|refine Ej (s:=30) (Aa U) (fun c30=> ?_) (fun c30=> ?_)
 ·refine rO tb 17 U (Ah U (K9 U) ?_);have h0:wkF n (x:Int) ls=none:=by simpa using c30
  exact⟨_,⟨vbool (by unfold holdsF;rw[h0];simp),rfl⟩,sbt⟩
 ·refine rO tb 5 U ?_;refine A4 (s:=35) (Aa U) (fun c35=> ?_) (fun c35=> ?_)
  ·refine rO tb 12 U (Ah U (K9 U) ?_);exact⟨_,⟨vbool (by unfold holdsF;rw[decide_eq_false (fun h=>c35 (by rw[h];rfl))];rfl),rfl⟩,sbt⟩
  ·refine rO tb 4 U ?_;refine Ad (Aa U) (fun c37=> ?_) (fun c37=> ?_)
   ·refine rC tb 7 U (Ah U (K9 U) ?_);exact⟨_,⟨vbool (by unfold holdsF;rw[decide_eq_false (p:= ¬ f.node=(x:Int)) (fun h=>h c37)];simp),rfl⟩,sbt⟩
   ·have hw:wkF n (x:Int) ls=some (to:Int):=by
     cases hz:wkF n (x:Int) ls with
     |none=>rw[hz] at c30;simp at c30
     |some z=>
      rw[hz] at c35;have:z=(to:Int):=by simpa using c35
      rw[this]
    have hnd: ¬ f.node=x:=c37;refine rC tb 9 U ?_;refine Bd (X:=Nat) (V:=fun i=>[(16, .int .i64 (i:Nat))]) (C:=[(3,_),(5,_),(6,_),(7,_),(8,_)]) (φ:=fun i=>i≤ls.length∧upAll n f (ls.take i)=true) (μ:=fun i=>ls.length - i) (x0:=0) ?_ ⟨Aa U,Aa U,Aa U,Aa U,Aa U,trivial⟩ ⟨qat,trivial⟩ ?_
    ·exact⟨Nat.zero_le _,rfl⟩
    rintro i ⟨hi,hup⟩;refine rD tb 9 U ?_;refine Ad (Aa U) (fun c41=> ?_) (fun c41=> ?_)
    ·have hvi:=Fy hw i qom;refine rC tb 5 U (Bh 8 [(0,true),(1,true),(2,true),(3,true),(4,true),(5,true),(6,true),(7,true)] _ mixd qkr sb0 ?_ A8);refine o_y U (Lc U isAgg26 sizeOf26 U qcs) ?_ U Ac;refine o_y U (Lc U isAgg29 sizeOf29 U qcs) ?_ U Ac;refine rP tb 2 U (o_y U (Ld U U runUnderlying27 sizeOf3 qom (by first|exact rfl|exact hA.b (i:=i) qom)) ?_ U Ac);refine o_y U (Lb U isAgg3 (by first|exact c_o|exact cell1 ((hA.mono sbt).cs (i:=i) qom))) ?_ U Ac;refine o_y U (Ay (qe3 U U U) call72 (fun H' hs=>by have hk:=rup_s n (hn.mono (stn hs)) f (hf.mono (stn hs)) hfl (gd ls i).toNat qom;rw[show (((gd ls i).toNat:Nat):Int)=gd ls i by omega] at hk;exact hk)) ?_ U Ac;refine rP tb 1 U (A7 U (rO tb 5 U ?_))
     first|refine A5 (A9 (T U)) U Ac ?_|refine A5 (B0 (T U)) U Ac ?_
     refine rO tb 2 U ?_
     first|refine Ad (Aa U) (fun c52=> ?_) (fun c52=> ?_)|refine Bq (Aa U) (fun c52=> ?_) (fun c52=> ?_)
     ·refine rC tb 8 U (As (rX tb 2 U (Ah U (K9 U) ?_)));exact⟨_,⟨vbool (by unfold holdsF;rw[upAll_no (i:=i) qom (by simpa using c52)];simp),rfl⟩,sbt⟩
     ·refine rC tb 5 U (y_ (Av (T U) Ap qom) ?_ U);refine rO tb 2 U ?_;refine Ar (i+1) ?_ ?_ ⟨qat,trivial⟩ ⟨Aa U,Aa U,Aa U,Aa U,Aa U,trivial⟩ ?_
      ·exact⟨by omega,by rw[upAll_take qom,hup];simpa using c52⟩
      ·omega
      ·exact sbt
    ·refine rC tb 2 U (Ag (rX tb 3 U (Bh 5 [(0,true),(1,true),(2,true),(3,true),(4,false)] _ mixd qkr sb0 ?_ A8)));refine o_y U (Lc U isAgg56 sizeOf56 U qcs) ?_ U Ac;refine o_y U (Lc U isAgg26 sizeOf26 U qcs) ?_ U Ac;refine rP tb 2 U (o_e U (Ak (qe3 U U U) call83 (rnames_s n (hn.mono sbt) hok x hx ls q c (hA.mono sbt) qom (Fy hw))) ?_ U Ac);rintro _ _ ⟨d,⟨rfl,hd⟩,rfl⟩;refine⟨sbt,(A7 U (e_ (Ak (qe2 U U) call82 (rMatch_s m e hI (hM.mono sbt) hlv (namesF n x ls) (slQ d) (slC d) (A1 (fun _=>rfl) hd) (by rw[Gg];omega))) ?_ U))⟩;rintro _ _ ⟨rfl,M,rfl⟩;refine rO tb 4 U (Ah U (K9 U) ?_);have hua:upAll n f ls=true:=by rw[← hup,List.take_of_length_le qom]
     exact⟨_,⟨vbool (by unfold holdsF;rw[hw,hua];simp[hnd]),rfl⟩,sbt⟩
theorem Ju {α:Type}{w0:World}{enc:α→List Value}{sz:Nat}{e:TypeId}{d:Sl}{l:List α}(he:∀ x,(enc x).length=sz)(h:SlOk d l.length sz):Arr w0 (slH d (l.flatMap enc) e) (slQ d) sz enc l:=by
 have:=A1 (w0:=w0) (enc:=enc) (sz:=sz) (e:=e) (X:=[]) he h
 rwa [List.append_nil] at this
theorem backF_len {σ:Type}[Inhabited σ] (w:List (Int × σ)):∀ (f i:Nat),(backF w f i).length≤f
 |0,_=>Nat.le_refl _
 |f+1,i=>by
  rw[Df];split
  ·simp only[List.length_cons];have:=backF_len w f (gd w i).1.toNat;omega
  ·exact Nat.zero_le _
theorem srF_len {σ:Type}[Inhabited σ] {Pd:Pl→Prop}{ts:Pl→List (Pl × σ)}(hts:∀ p,Pd p→∀ x∈ts p,Pd x.1){fnd:Pl→Bool}{p0:Pl}(hp0:Pd p0){N:Nat}(hN:∀ l:List Pl,l.Nodup→(∀ p∈l,Pd p)→l.length≤N){rk:σ→Nat}(hr:∀ p,Pd p→(ts p).Pairwise fun a b=>rk a.2<rk b.2):(srF ts fnd N p0).1.length≤N:=by
 obtain⟨h1,h2⟩:=srF_met hts hp0 N (fnd:=fnd);have h3:=hN _ h1 h2;have hg:=goF_sem0 (rk:=rk) hts hr hN fnd hp0;unfold srF at *
 generalize goF ts fnd (N+1) 0 ⟨[p0],[(-1,default)]⟩=r at *;obtain⟨k,st⟩:=r;cases k with
 |none=>exact Nat.zero_le _
 |some k=>
  have h4:=(hg.some' k U).2.1;simp only[List.length_take,List.length_reverse] at h3 h4 ⊢;have:=backF_len st.w (k+1) k;omega
theorem find_few {n:Nn}(hok:NnOk n){f:Flr}{m:PM}(hp:PMok m){x to:Nat}(hx:x<n.nodes.length):(findF n f m x to).1.length≤2400:=by
 unfold findF
 split
 ·exact Nat.zero_le _
 ·split
  ·exact Nat.le_trans (srF_len (moves_okE hok hp) (Ky hp hx) (Kq n m) (rk:=id) (fun p _=>moves_pw n f m p)) (NPl_le hok hp)
  ·exact Nat.zero_le _
structure Vi where
 p:Pl
 q:Option Addr
 c:Nat
 l:List Nat
instance:Inhabited Vi:=⟨⟨(0,0),none,0,[]⟩⟩
theorem eff_appEmp {P:Program}{w0:World}{L:Fm}{ty:TypeId}{H:List (Nat × Obj)}{x y:Operand}{t t2 e:TypeId}{α:Type}{enc:α→List Value}(l2:List α){R:List (Nat × Obj)}{F:List (Nat × Obj)→List (Nat × Obj)}{n:Nat}{q:Option Addr}{k c sz by':Nat}{z:Value}{i0:TypeInfo}{e2:TypeId}(hk:k=l2.length)(hl:LocL H [(n,Cl [] e)] R F)(hx:Ev L x (.slice (some ⟨n,0,none⟩) 0 0))(hy:Ev L y (.slice q k c))
  (ht:∀ w,(underlying t).run P w= .ok (.slice e) w) (ht2:∀ w,(underlying t2).run P w= .ok (.slice e2) w) (hz:∀ w,(sizeOf e).run P w= .ok sz w) (hi:∀ w,(typeInfo e).run P w= .ok i0 w) (hby:i0.bytes=by') (hzv:∀ w,(zeroValue e).run P w= .ok z w) (hzs:z.cells.size=sz)
  (he:∀ u,(enc u).length=sz) (h1:∀ u,(enc u).all oneB=true) (hb0:by'≠0) (hb:(2*l2.length+600)*by'≤281474976710656) (hA:Arr w0 H q sz enc l2):
  Eff P w0 (.call {callee:= .builtin .append,args:= #[x,y],argTypes:= #[t,t2]}) ty L H (fun u H'=>∃ d',u=slV d' l2.length∧SlOk d' l2.length sz∧H'=F (slH d' (l2.flatMap enc) e)):=by
 have h:=C7 (P:=P) (w0:=w0) (L:=L) (ty:=ty) (H:=H) (x:=x) (y:=y) (t:=t) (t2:=t2) (e:=e) (enc:=enc) l2 (d:= .blk n 0 []) (l:=[]) (R:=R) (F:=F) hk hl hx hy ht ht2 hz hi hby hzv hzs he h1 ⟨Nat.le_refl _,by simp⟩ hb0 (by simpa using hb) hA
 simpa using h
theorem locH1 {e:Nat × Obj}{X:List (Nat × Obj)}:LocL (e::X) [e] X (fun M'=>M'++X):=show LocL ([e]++X) _ _ _ from .h
theorem Jv {w0:World}{L:Fm}{H:List (Nat × Obj)}{ty yt xt:TypeId}{x y:Operand}{a:Int}{k:IntKind}(hx:Ev L x (.int k a))(hy:Ev L y (.int k a)):Yl Tryz.prog w0 (.binOp .neq xt x y yt) ty L H (.bool false):=by
 have h:=yl_neq (P:=Tryz.prog) (w0:=w0) (H:=H) (ty:=ty) (yt:=yt) (xt:=xt) hx hy
 rwa [show decide (¬ a=a)=false by simp] at h
theorem Kw {P:Program}{r:Option Nat}{ops:Array Oper}{Q:Exit→Act→World→Prop}{w0:World}{H0 H1:List (Nat × Obj)}{t:Nat}(hs:H0.Sublist H1):∀ (f:Nat) (listed:Array Bool) (a:Act) (H:List (Nat × Obj)),wpO P r ops Q w0 H1 t f listed a H→wpO P r ops Q w0 H0 t f listed a H
 |0,_,_,_,h=>h
 |f+1,_,_,_,⟨h1,h2⟩=>⟨h1,fun i hi hit w hO=>wpOpIn_mono (fun a' w' ⟨H',hs',hO',h'⟩=>⟨H',hs.trans hs',hO',Kw hs f _ a' H' h'⟩) (h2 i hi hit w hO)⟩
theorem Jf {P:Program}{r:Option Nat}{N:Nat}{w0:World}{H0 H:List (Nat × Obj)}{ops:Array Oper}{t:Nat}{plan:List (Nat × Bool)}{Q:Post}{L:Fm}{ds:List Deferred}(h:JO P r N w0 H ops t plan Q L ds H):JO P r N w0 H0 ops t plan Q L ds H:=fun hT hD hS hP hs listed inv hp b a hsz hf hd=>
 Kw hs _ _ _ _ (h hT hD hS hP (List.Sublist.refl _) listed inv hp b a hsz hf hd)
theorem Jg {α:Type}[DecidableEq α] [Inhabited α] {l:List α}{x:α}{k:Nat}(hk:k<l.length)(h:gd l k=x)(hj:∀ j,j<k→¬ gd l j=x):idx l x=k:=by
 have hm:x∈l:=by rw[← h];exact Af hk
 have h1:=Cx hm;have h2:=Ep hm;rcases Nat.lt_trichotomy (idx l x) k with h3|h3|h3
 ·exact absurd h2 (hj _ h3)
 ·exact h3
 ·exfalso;have h4:k<l.findIdx (fun y=>y==x):=h3;have h5:=List.not_of_lt_findIdx h4;rw[An hk] at h;simp[h] at h5
theorem idx_none {α:Type}[DecidableEq α] [Inhabited α] {l:List α}{x:α}(hj:∀ j,j<l.length→¬ gd l j=x):idx l x=l.length:=Eo fun hm=>by
 obtain⟨j,hj2,e⟩:=List.getElem_of_mem hm;exact hj j hj2 (by rw[An hj2];exact e)
theorem place_s {w0:World}{H:List (Nat × Obj)}(rows:List RowI)(q:Option Addr)(c:Nat)(hA:Arr w0 H q 1 encRI rows)(hr:∀ r∈rows,Arr w0 H r.q 1 encI r.l)(hn:∀ r∈rows,r.l.length≤100000)(hl:rows.length≤100000)(st:List Int)(q2:Option Addr)(c2:Nat)(hB:Arr w0 H q2 1 encI st):
  FSpec Tryz.prog w0 147 #[.slice q rows.length c, .slice q2 st.length c2] H (Still (.int .i64 (idx (rows.map RowI.l) st:Nat)) H):=by
 refine Ao Tryz.func147 U ntmps147 U (rD tb 12 U ?_);refine Bd (X:=Nat) (V:=fun k=>[(5, .int .i64 (k:Nat))]) (C:=[(0,_),(1,_)]) (φ:=fun k=>k≤rows.length∧∀ j,j<k→¬ gd (rows.map RowI.l) j=st) (μ:=fun k=>rows.length - k) (x0:=0) ?_ ⟨Aa U,Aa U,trivial⟩ ⟨qat,trivial⟩ ?_
 ·exact⟨Nat.zero_le _,fun j hj=>by omega⟩
 rintro k ⟨hk,hno⟩;refine rD tb 9 U ?_;refine Ad (Aa U) (fun c10=> ?_) (fun c10=> ?_)
 ·refine rC tb 8 U (y_ (Ld U U runUnderlying65 sizeOf27 qom (by first|exact rfl|exact hA.b (i:=k) qom)) ?_ U);refine y_ (Lb U isAgg27 (by first|exact c_o|exact cell1 ((hA.mono sbt).cs (i:=k) qom))) ?_ U;refine rO tb 1 U (y_ (Ay (qe2 U U) call23 (fun H' hs=>sameInts_s (gd rows k).q q2 (gd rows k).c c2 (gd rows k).l st ((hr _ (Af qom)).mono (stn hs)) (hB.mono (stn hs)) (by have:=hn _ (Af (l:=rows) (i:=k) qom);omega))) ?_ U);refine rO tb 8 U ?_;refine Ad (Aa U) (fun c19=> ?_) (fun c19=> ?_)
  ·refine rC tb 9 U (As (rX tb 2 U (Ah U (K9 U) ?_)));exact⟨_,⟨by rw[Jg (k:=k) (by simp;omega) (by rw[Bu qom];exact c19) hno];rfl,rfl⟩,sbt⟩
  ·refine rC tb 5 U (y_ (Av (T U) Ap qom) ?_ U);refine rO tb 2 U ?_;refine Ar (k+1) ?_ ?_ ⟨qat,trivial⟩ ⟨Aa U,Aa U,trivial⟩ ?_
   ·refine⟨by omega,fun j hj=> ?_⟩
    by_cases e:j=k
    ·subst e;rw[Bu qom];exact c19
    ·exact hno j qom
   ·omega
   ·exact sbt
 ·refine rC tb 2 U (Ag (rX tb 10 U (Ah U (K9 U) ?_)));exact⟨_,⟨by rw[idx_none (fun j hj=>hno j (by simp at hj;omega)),List.length_map];rfl,rfl⟩,sbt⟩
def takR (m:Rxm) (names:List ByteArray) (a:Nat):Bool:=decide (m.kind=3)||(decide (a<names.length)&&decide (m.node=gd names a))
theorem takes_s {w0:World}{H:List (Nat × Obj)}(m:Rxm)(names:List ByteArray)(q:Option Addr)(c:Nat)(hA:Arr w0 H q 1 encS names)(hl:names.length≤9223372036854775807)(a:Nat):
  FSpec Tryz.prog w0 145 #[.agg (encRx m).toArray, .slice q names.length c, .int .i64 (a:Int)] H (Still (.bool (takR m names a)) H):=by
 refine Ao Tryz.func145 U ntmps145 U (rD tb 2 U (e_ (Lf U cs_) ?_ U));rintro _ _ ⟨n3,rfl,rfl⟩;refine rO tb 4 U (Bh 19 [(0,true),(1,true),(2,true),(3,true),(4,true),(5,true),(6,true),(7,true),(8,true),(9,true),(10,true),(11,true),(12,true),(13,true),(14,true),(15,true),(16,true),(17,true),(18,true)] _ mixd qkr sb0 ?_ A8);refine rP tb 1 U (o_y U (Lb U isAgg3 qco) ?_ U Ac);refine rP tb 2 U ?_;refine Cd (s:=10) (Aa U) (fun c10=> ?_) (fun c10=> ?_)
 ·refine rP tb 15 U (A7 U (rO tb 3 U (Ah U (K9 U) (⟨_,⟨vbool ?_,rfl⟩,sbt⟩))));unfold takR
  (rw[decide_eq_true c10];rfl)
 ·refine rP tb 5 U ?_;refine Cd (s:=15) (Aa U) (fun c15=> ?_) (fun c15=> ?_)
  ·refine rP tb 1 U (o_y U (Lb U isAgg9 qco) ?_ U (Az U U (Aa U)));refine rP tb 2 U (o_y U (Ld U U runUnderlying64 sizeOf9 qom (by first|exact rfl|exact hA.b (i:=a) qom)) ?_ U (Az U U (Aa U)));refine o_y U (Lb U isAgg9 (by first|exact c_o|exact cell1 ((hA.mono sbt).cs (i:=a) qom))) ?_ U (Az U U (Aa U));refine o_y U (Ci (T U) (T U)) (rP tb 3 U (A7 U (rO tb 3 U (Ah U (K9 U) (⟨_,⟨vbool ?_,rfl⟩,sbt⟩))))) U (Az U U (Aa U));unfold takR
   first|(rw[decide_eq_true c10];rfl)|(rw[decide_eq_false c10,decide_eq_true (show a<names.length by omega),Bool.false_or,Bool.true_and];exact decide_eq_decide.2 ⟨fun h=>Dc h,fun h=>by rw[h]⟩)
  ·refine rP tb 10 U (A7 U (rO tb 3 U (Ah U (K9 U) (⟨_,⟨vbool ?_,rfl⟩,sbt⟩))));unfold takR
   first|(rw[decide_eq_true c10];rfl)|(rw[decide_eq_false c10,decide_eq_true (show a<names.length by omega),Bool.false_or,Bool.true_and];exact decide_eq_decide.2 ⟨fun h=>Dc h,fun h=>by rw[h]⟩)|(rw[decide_eq_false c10,decide_eq_false (show ¬ a<names.length by omega)];rfl)
def nameF (s:ByteArray):List ByteArray→List ByteArray
 |[]=>[s]
 |x::l=>if toL x<toL s then x::nameF s l else if x=s then x::l else s::x::l
theorem E4 {s:ByteArray}:∀ {l:List ByteArray} {k:Nat},k<l.length→(∀ j,j<k→toL (gd l j)<toL s)→gd l k=s→nameF s l=l
 |[],k,h,_,_=>by simp at h
 |x::l,0,_,_,h=>by
  have h:x=s:=h;subst h;unfold nameF;rw[if_neg (List.lt_irrefl _),if_pos rfl]
 |x::l,k+1,h,hj,hk=>by
  have h0:toL x<toL s:=hj 0 qom;unfold nameF;rw[if_pos h0,E4 (k:=k) (by simpa using h) (fun j hj2=>hj (j+1) qom) hk]
theorem G7 {s:ByteArray}:∀ {l:List ByteArray} {k:Nat},k≤l.length→(∀ j,j<k→toL (gd l j)<toL s)→(k<l.length→¬ toL (gd l k)<toL s∧¬ gd l k=s)→nameF s l=l.take k++[s]++l.drop k
 |[],0,_,_,_=>rfl
 |x::l,0,_,_,h=>by
  have h: ¬ toL x<toL s∧¬ x=s:=h (by simp);unfold nameF;rw[if_neg h.1,if_neg h.2];rfl
 |x::l,k+1,h,hj,hk=>by
  have h0:toL x<toL s:=hj 0 qom;unfold nameF;rw[if_pos h0,G7 (k:=k) (by simpa using h) (fun j hj2=>hj (j+1) qom) fun h2=>hk (by simpa using h2)];simp
theorem nameF_len (s:ByteArray):∀ l:List ByteArray,(nameF s l).length≤l.length+1
 |[]=>by simp[nameF]
 |x::l=>by
  have:=nameF_len s l;unfold nameF;split
  ·simp only[List.length_cons];omega
  ·split<;>simp
theorem name_r {w0:World}{H:List (Nat × Obj)}(l:List ByteArray)(q:Option Addr)(c:Nat)(hA:Arr w0 H q 1 encS l)(hc:l.length≤c)(hl:l.length≤100000)(s:ByteArray):
  FSpec Tryz.prog w0 178 #[.slice q l.length c, .string s] H (fun v H'=>∃ (q':Option Addr) (c':Nat) (M:List (Nat × Obj)),(v= .slice q' (nameF s l).length c'∧(nameF s l).length≤c'∧∀ X,Arr w0 X q 1 encS l→Arr w0 (M++X) q' 1 encS (nameF s l))∧H'=M++H):=by
 refine Ao Tryz.func178 U ntmps178 U (rD tb 12 U ?_);refine Bd (X:=Nat) (V:=fun k=>[(5, .int .i64 (k:Nat))]) (C:=[(0,_),(1,_)]) (φ:=fun k=>k≤l.length∧∀ j,j<k→toL (gd l j)<toL s) (μ:=fun k=>l.length - k) (x0:=0) ?_ ⟨Aa U,Aa U,trivial⟩ ⟨qat,trivial⟩ ?_
 ·exact⟨Nat.zero_le _,fun j hj=>by omega⟩
 rintro k ⟨hk,hlt⟩;refine rD tb 8 U ?_;refine A4 (s:=11) (Aa U) (fun c11=> ?_) (fun c11=> ?_)
 ·refine rO tb 2 U (A5 (Ld U U runUnderlying64 sizeOf9 qom (by first|exact rfl|exact hA.b (i:=k) qom)) U (Az U U (Aa U)) ?_);refine A5 (Lb U isAgg9 (by first|exact c_o|exact cell1 ((hA.mono sbt).cs (i:=k) qom))) U (Az U U (Aa U)) ?_;refine rO tb 1 U (A5 (yl_ltS (T U) (T U)) U (Az U U (Aa U)) (rO tb 3 U ?_));refine Ad (Aa U) (fun c18=> ?_) (fun c18=> ?_)
  ·refine rC tb 5 U (y_ (Av (T U) Ap qom) ?_ U);refine rO tb 3 U ?_;refine Ar (k+1) ?_ ?_ ⟨qat,trivial⟩ ⟨Aa U,Aa U,trivial⟩ ?_
   ·refine⟨by omega,fun j hj=> ?_⟩
    by_cases e:j=k
    ·subst e;exact c18
    ·exact hlt j qom
   ·omega
   ·exact sbt
  ·refine rC tb 2 U (Ag (rX tb 10 U ?_));refine A4 (s:=25) (Aa U) (fun c25=> ?_) (fun c25=> ?_)
   ·refine rO tb 2 U (A5 (Ld U U runUnderlying64 sizeOf9 qom (by first|exact rfl|exact hA.b (i:=k) qom)) U (Az U U (Aa U)) ?_);refine A5 (Lb U isAgg9 (by first|exact c_o|exact cell1 ((hA.mono sbt).cs (i:=k) qom))) U (Az U U (Aa U)) ?_;refine rO tb 1 U (A5 (Ci (T U) (T U)) U (Az U U (Aa U)) (rO tb 3 U ?_));refine Ad (Aa U) (fun c32=> ?_) (fun c32=> ?_)
    ·refine rC tb 8 U (Ah U (K9 U) ?_)
     (have hp:nameF s l=l:=E4 (k:=k) qom hlt (Dc c32);exact⟨_,⟨q,c,[],⟨by rw[hp];rfl,by rw[hp];exact hc,fun X hX=>by rw[hp];exact hX⟩,rfl⟩,sbt⟩)
    ·refine rC tb 12 U (y_ (Cr  (T U) (T U) runUnderlying64 sizeOf9 qom) ?_ U);refine e_ (C1 (l.take k) (by':=16) (by exact(by simp;omega)) (T U) (T U) runUnderlying64 runUnderlying64 sizeOf9 typeInfo9 U zeroValue9 U (fun _=>rfl) (fun _=>rfl) qde (by simp;omega) ((hA.mono sbt).take k)) ?_ U;rintro _ _ ⟨d1,rfl,hd1,rfl⟩;refine kO tb 3 [0,1,5,6] rfl U (rG tb 4 U (e_ (Aj (.cons (T U) .nil) (Cc _)) ?_ U));rintro _ _ ⟨n41,rfl,rfl⟩;refine e_ (Bg (s) (by':=16) (enc:=encS) qlc (T U) (T U) runUnderlying64 runUnderlying64 sizeOf9 typeInfo9 U zeroValue9 U (fun _=>rfl) U hd1 qde (by simp;omega)) ?_ U;rintro _ _ ⟨d2,rfl,hd2,rfl⟩;refine rO tb 8 U (y_ (C5  (T U) (T U) runUnderlying64 sizeOf9 qom) ?_ U);refine e_ (C7 (l.drop k) (by':=16) (enc:=encS) (by exact(by simp)) qlc (T U) (T U) runUnderlying64 runUnderlying64 sizeOf9 typeInfo9 U zeroValue9 U (fun _=>rfl) (fun _=>rfl) hd2 qde (by simp;omega) ((hA.mono sbt).drop hc k)) ?_ U;rintro _ _ ⟨d3,rfl,hd3,rfl⟩;refine rO tb 4 U (Ah U (K9 U) ?_)
     first|(have hp:nameF s l=l:=E4 (k:=k) qom hlt (Dc c32);exact⟨_,⟨q,c,[],⟨by rw[hp];rfl,by rw[hp];exact hc,fun X hX=>by rw[hp];exact hX⟩,rfl⟩,sbt⟩)|(have hp:nameF s l=l.take k++[s]++l.drop k:=G7 qom hlt (fun h=>⟨by exact c18,fun e=>by exact c32 (by rw[e])⟩);exact⟨_,⟨slQ d3,slC d3,slH d3 ((l.take k++[s]++l.drop k).flatMap encS) 9,⟨by rw[hp];rfl,by rw[hp];exact Jk hd3,fun X _=>by rw[hp];exact A1 (fun _=>rfl) hd3⟩,rfl⟩,sbt⟩)
   ·refine rO tb 22 U (y_ (Cr  (T U) (T U) runUnderlying64 sizeOf9 qom) ?_ U);refine e_ (C1 (l.take k) (by':=16) (by exact(by simp;omega)) (T U) (T U) runUnderlying64 runUnderlying64 sizeOf9 typeInfo9 U zeroValue9 U (fun _=>rfl) (fun _=>rfl) qde (by simp;omega) ((hA.mono sbt).take k)) ?_ U;rintro _ _ ⟨d1,rfl,hd1,rfl⟩;refine kO tb 3 [0,1,5,6] rfl U (rG tb 4 U (e_ (Aj (.cons (T U) .nil) (Cc _)) ?_ U));rintro _ _ ⟨n41,rfl,rfl⟩;refine e_ (Bg (s) (by':=16) (enc:=encS) qlc (T U) (T U) runUnderlying64 runUnderlying64 sizeOf9 typeInfo9 U zeroValue9 U (fun _=>rfl) U hd1 qde (by simp;omega)) ?_ U;rintro _ _ ⟨d2,rfl,hd2,rfl⟩;refine rO tb 8 U (y_ (C5  (T U) (T U) runUnderlying64 sizeOf9 qom) ?_ U);refine e_ (C7 (l.drop k) (by':=16) (enc:=encS) (by exact(by simp)) qlc (T U) (T U) runUnderlying64 runUnderlying64 sizeOf9 typeInfo9 U zeroValue9 U (fun _=>rfl) (fun _=>rfl) hd2 qde (by simp;omega) ((hA.mono sbt).drop hc k)) ?_ U;rintro _ _ ⟨d3,rfl,hd3,rfl⟩;refine rO tb 4 U (Ah U (K9 U) ?_)
    first|(have hp:nameF s l=l:=E4 (k:=k) qom hlt (Dc c32);exact⟨_,⟨q,c,[],⟨by rw[hp];rfl,by rw[hp];exact hc,fun X hX=>by rw[hp];exact hX⟩,rfl⟩,sbt⟩)|(have hp:nameF s l=l.take k++[s]++l.drop k:=G7 qom hlt (fun h=>⟨by exact c18,fun e=>by first|exact c32 (by rw[e])|(exfalso;omega)⟩);exact⟨_,⟨slQ d3,slC d3,slH d3 ((l.take k++[s]++l.drop k).flatMap encS) 9,⟨by rw[hp];rfl,by rw[hp];exact Jk hd3,fun X _=>by rw[hp];exact A1 (fun _=>rfl) hd3⟩,rfl⟩,sbt⟩)
 ·refine rO tb 12 U (Ag (rX tb 10 U ?_));refine A4 (s:=25) (Aa U) (fun c25=> ?_) (fun c25=> ?_)
  ·refine rO tb 2 U (A5 (Ld U U runUnderlying64 sizeOf9 qom (by first|exact rfl|exact hA.b (i:=k) qom)) U (Az U U (Aa U)) ?_);refine A5 (Lb U isAgg9 (by first|exact c_o|exact cell1 ((hA.mono sbt).cs (i:=k) qom))) U (Az U U (Aa U)) ?_;refine rO tb 1 U (A5 (Ci (T U) (T U)) U (Az U U (Aa U)) (rO tb 3 U ?_));refine Ad (Aa U) (fun c32=> ?_) (fun c32=> ?_)
   ·refine rC tb 8 U (Ah U (K9 U) ?_)
    (have hp:nameF s l=l:=E4 (k:=k) qom hlt (Dc c32);exact⟨_,⟨q,c,[],⟨by rw[hp];rfl,by rw[hp];exact hc,fun X hX=>by rw[hp];exact hX⟩,rfl⟩,sbt⟩)
   ·refine rC tb 12 U (y_ (Cr  (T U) (T U) runUnderlying64 sizeOf9 qom) ?_ U);refine e_ (C1 (l.take k) (by':=16) (by exact(by simp;omega)) (T U) (T U) runUnderlying64 runUnderlying64 sizeOf9 typeInfo9 U zeroValue9 U (fun _=>rfl) (fun _=>rfl) qde (by simp;omega) ((hA.mono sbt).take k)) ?_ U;rintro _ _ ⟨d1,rfl,hd1,rfl⟩;refine kO tb 3 [0,1,5,6] rfl U (rG tb 4 U (e_ (Aj (.cons (T U) .nil) (Cc _)) ?_ U));rintro _ _ ⟨n41,rfl,rfl⟩;refine e_ (Bg (s) (by':=16) (enc:=encS) qlc (T U) (T U) runUnderlying64 runUnderlying64 sizeOf9 typeInfo9 U zeroValue9 U (fun _=>rfl) U hd1 qde (by simp;omega)) ?_ U;rintro _ _ ⟨d2,rfl,hd2,rfl⟩;refine rO tb 8 U (y_ (C5  (T U) (T U) runUnderlying64 sizeOf9 qom) ?_ U);refine e_ (C7 (l.drop k) (by':=16) (enc:=encS) (by exact(by simp)) qlc (T U) (T U) runUnderlying64 runUnderlying64 sizeOf9 typeInfo9 U zeroValue9 U (fun _=>rfl) (fun _=>rfl) hd2 qde (by simp;omega) ((hA.mono sbt).drop hc k)) ?_ U;rintro _ _ ⟨d3,rfl,hd3,rfl⟩;refine rO tb 4 U (Ah U (K9 U) ?_)
    first|(have hp:nameF s l=l:=E4 (k:=k) qom hlt (Dc c32);exact⟨_,⟨q,c,[],⟨by rw[hp];rfl,by rw[hp];exact hc,fun X hX=>by rw[hp];exact hX⟩,rfl⟩,sbt⟩)|(have hp:nameF s l=l.take k++[s]++l.drop k:=G7 qom hlt (fun h=>⟨by first|exact c18|(exfalso;omega),fun e=>by exact c32 (by rw[e])⟩);exact⟨_,⟨slQ d3,slC d3,slH d3 ((l.take k++[s]++l.drop k).flatMap encS) 9,⟨by rw[hp];rfl,by rw[hp];exact Jk hd3,fun X _=>by rw[hp];exact A1 (fun _=>rfl) hd3⟩,rfl⟩,sbt⟩)
  ·refine rO tb 22 U (y_ (Cr  (T U) (T U) runUnderlying64 sizeOf9 qom) ?_ U);refine e_ (C1 (l.take k) (by':=16) (by exact(by simp;omega)) (T U) (T U) runUnderlying64 runUnderlying64 sizeOf9 typeInfo9 U zeroValue9 U (fun _=>rfl) (fun _=>rfl) qde (by simp;omega) ((hA.mono sbt).take k)) ?_ U;rintro _ _ ⟨d1,rfl,hd1,rfl⟩;refine kO tb 3 [0,1,5,6] rfl U (rG tb 4 U (e_ (Aj (.cons (T U) .nil) (Cc _)) ?_ U));rintro _ _ ⟨n41,rfl,rfl⟩;refine e_ (Bg (s) (by':=16) (enc:=encS) qlc (T U) (T U) runUnderlying64 runUnderlying64 sizeOf9 typeInfo9 U zeroValue9 U (fun _=>rfl) U hd1 qde (by simp;omega)) ?_ U;rintro _ _ ⟨d2,rfl,hd2,rfl⟩;refine rO tb 8 U (y_ (C5  (T U) (T U) runUnderlying64 sizeOf9 qom) ?_ U);refine e_ (C7 (l.drop k) (by':=16) (enc:=encS) (by exact(by simp)) qlc (T U) (T U) runUnderlying64 runUnderlying64 sizeOf9 typeInfo9 U zeroValue9 U (fun _=>rfl) (fun _=>rfl) hd2 qde (by simp;omega) ((hA.mono sbt).drop hc k)) ?_ U;rintro _ _ ⟨d3,rfl,hd3,rfl⟩;refine rO tb 4 U (Ah U (K9 U) ?_)
   first|(have hp:nameF s l=l:=E4 (k:=k) qom hlt (Dc c32);exact⟨_,⟨q,c,[],⟨by rw[hp];rfl,by rw[hp];exact hc,fun X hX=>by rw[hp];exact hX⟩,rfl⟩,sbt⟩)|(have hp:nameF s l=l.take k++[s]++l.drop k:=G7 qom hlt (fun h=>⟨by first|exact c18|(exfalso;omega),fun e=>by first|exact c32 (by rw[e])|(exfalso;omega)⟩);exact⟨_,⟨slQ d3,slC d3,slH d3 ((l.take k++[s]++l.drop k).flatMap encS) 9,⟨by rw[hp];rfl,by rw[hp];exact Jk hd3,fun X _=>by rw[hp];exact A1 (fun _=>rfl) hd3⟩,rfl⟩,sbt⟩)
mutual
def ntR:Rxm→List ByteArray→List ByteArray
 | .mk k s _ _ xs,l=>ntL xs (if k=2 then nameF s l else l)
def ntL:List Rxm→List ByteArray→List ByteArray
 |[],l=>l
 |x::xs,l=>ntL xs (ntR x l)
end
theorem ntR_eq (m:Rxm)(l:List ByteArray):ntR m l=ntL m.args (if m.kind=2 then nameF m.node l else l):=by cases m;rfl
theorem ntL_app:∀ (a b:List Rxm) (l:List ByteArray),ntL (a++b) l=ntL b (ntL a l)
 |[],b,l=>rfl
 |x::a,b,l=>by simp only[List.cons_append,ntL];exact ntL_app a b _
theorem ntL_take {xs:List Rxm}{i:Nat}(h:i<xs.length)(l:List ByteArray):ntL (xs.take (i+1)) l=ntR (gd xs i) (ntL (xs.take i) l):=by
 rw[Ch h,ntL_app];rfl
theorem ntR_len:∀ (m:Rxm) (l:List ByteArray),(ntR m l).length≤l.length+m.sz:=Gh (Q:=fun m=>∀ l:List ByteArray,(ntR m l).length≤l.length+m.sz) fun m ih l=>by
 have key:∀ (xs:List Rxm),(∀ a∈xs,a∈m.args)→∀ l:List ByteArray,(ntL xs l).length≤l.length+szL xs:=fun xs=>by
  induction xs with
  |nil=>intro _ l;exact Nat.le_refl _
  |cons x xs ih2=>
   intro hm l;have h1:=ih2 (fun a ha=>hm a (by simp[ha])) (ntR x l);have h2:=ih x (hm x (by simp)) l;simp only[ntL,szL];omega
 rw[ntR_eq,Ff];have h1:=key m.args (fun a h=>h) (if m.kind=2 then nameF m.node l else l);have h2:(if m.kind=2 then nameF m.node l else l).length≤l.length+1:=by
  split
  ·exact nameF_len _ _
  ·omega
 omega
def LtS (w0:World) (m:Rxm):Prop:=∀ (H:List (Nat × Obj)) (l:List ByteArray) (q:Option Addr) (c:Nat),Arr w0 H q 1 encS l→l.length≤c→RxM w0 H m→l.length+m.sz≤100000→FSpec Tryz.prog w0 144 #[.slice q l.length c, .agg (encRx m).toArray] H (fun v H'=>∃ (q':Option Addr) (c':Nat) (M:List (Nat × Obj)),(v= .slice q' (ntR m l).length c'∧(ntR m l).length≤c'∧∀ X,Arr w0 X q 1 encS l→Arr w0 (M++X) q' 1 encS (ntR m l))∧H'=M++H)
theorem lt_step {w0:World}{H:List (Nat × Obj)}(m:Rxm)(ih:∀ a∈m.args,LtS w0 a)(l:List ByteArray)(q:Option Addr)(c:Nat)(hA:Arr w0 H q 1 encS l)(hc:l.length≤c)(hM:RxM w0 H m)(hz:l.length+m.sz≤100000):
  FSpec Tryz.prog w0 144 #[.slice q l.length c, .agg (encRx m).toArray] H (fun v H'=>∃ (q':Option Addr) (c':Nat) (M:List (Nat × Obj)),(v= .slice q' (ntR m l).length c'∧(ntR m l).length≤c'∧∀ X,Arr w0 X q 1 encS l→Arr w0 (M++X) q' 1 encS (ntR m l))∧H'=M++H):=by
 refine Ao Tryz.func144 U ntmps144 U ?_;have hse:=Ff m;have hln:=Fg m.args;have hX:=hM.arr;have h0l:(if m.kind=2 then nameF m.node l else l).length≤l.length+1:=by
  split
  ·exact nameF_len _ _
  ·omega
 have hkey:∀ i,i≤m.args.length→(ntL (m.args.take i) (if m.kind=2 then nameF m.node l else l)).length≤l.length+1+szL (m.args.take i):=fun i=>by
  induction i with
  |zero=>intro _;simpa[ntL,szL] using h0l
  |succ i ih2=>
   intro h;have h1:=ih2 qom;have h2:=ntR_len (gd m.args i) (ntL (m.args.take i) (if m.kind=2 then nameF m.node l else l));rw[ntL_take qom,Dt qom];omega
 refine rD tb 2 U (e_ (Lf U cs_) ?_ U);rintro _ _ ⟨n3,rfl,rfl⟩;refine rO tb 3 U ?_;refine Dm (X:=Option Addr × Nat × List (Nat × Obj)) (V:=fun ⟨g1,g2,g3⟩=>[(0, .slice g1 (if m.kind=2 then nameF m.node l else l).length g2)]) (C:=[(3,_)]) (G:=fun ⟨g1,g2,g3⟩=>g3++((n3,Cl (encRx m) 56)::H)) (φ:=fun ⟨g1,g2,g3⟩=>(if m.kind=2 then nameF m.node l else l).length≤g2∧∀ X,Arr w0 X q 1 encS l→Arr w0 (g3++X) g1 1 encS (if m.kind=2 then nameF m.node l else l)) ⟨Aa rfl,trivial⟩ ?_ ?_
 ·refine rD tb 3 U (y_ (Lb U isAgg3 qco) ?_ U);refine rO tb 3 U ?_;refine Ad (Aa U) (fun c8=> ?_) (fun c8=> ?_)
  ·have h0e:(if m.kind=2 then nameF m.node l else l)=nameF m.node l:=if_pos c8;refine rC tb 3 U (y_ (Lb U isAgg9 qco) ?_ U);refine e_ (Ak (qe2 U U) call178 (name_r l q c (hA.mono sbt) hc qom m.node)) ?_ U;rintro _ _ ⟨q2,c2,M2,⟨rfl,hc2,hA2⟩,rfl⟩;refine rO tb 2 U ?_;refine Bb ((q2,c2,M2)) ?_ ⟨(by first|exact Aa U|(refine Be (Aa U) (vint ?_);omega)|(refine Be (Aa U) ?_;simp;done)|(refine Be (Aa U) ?_;exact by rw[hlt])|(refine Be (Aa U) ?_;exact by simp only[h0e])),trivial⟩ ⟨Aa U,trivial⟩ sbt;exact⟨by rw[h0e];exact hc2,fun X hX=>by rw[h0e];exact hA2 X hX⟩
  ·have h0e:(if m.kind=2 then nameF m.node l else l)=l:=if_neg c8;refine rC tb 1 U ?_;refine Bb ((q,c,[])) ?_ ⟨(by first|exact Aa U|(refine Be (Aa U) (vint ?_);omega)|(refine Be (Aa U) ?_;simp;done)|(refine Be (Aa U) ?_;exact by rw[hlt])|(refine Be (Aa U) ?_;exact by simp only[h0e])),trivial⟩ ⟨Aa U,trivial⟩ sbt
   first|exact⟨by rw[h0e];exact hc2,fun X hX=>by rw[h0e];exact hA2 X hX⟩|exact⟨by rw[h0e];exact hc,fun X hX=>by rw[h0e];exact hX⟩
 rintro⟨g1,g2,g3⟩ ⟨hg1,hg2⟩;refine rC tb 7 U ?_;refine Ba (X:=Nat × Option Addr × Nat × List (Nat × Obj)) (V:=fun ⟨i,q1,c1,M⟩=>[(5, .int .i64 (i:Nat)),(0, .slice q1 (ntL (m.args.take i) (if m.kind=2 then nameF m.node l else l)).length c1)]) (C:=[(3,_)]) (G:=fun ⟨i,q1,c1,M⟩=>M++((n3,Cl (encRx m) 56)::H)) (φ:=fun ⟨i,q1,c1,M⟩=>i≤m.args.length∧(ntL (m.args.take i) (if m.kind=2 then nameF m.node l else l)).length≤c1∧∀ X,Arr w0 X q 1 encS l→Arr w0 (M++X) q1 1 encS (ntL (m.args.take i) (if m.kind=2 then nameF m.node l else l))) (μ:=fun ⟨i,q1,c1,M⟩=>m.args.length - i) (x0:=(0,g1,g2,g3)) ?_ ⟨Aa rfl,trivial⟩ ⟨qat,qat,trivial⟩ sb0 ?_
 ·exact⟨Nat.zero_le _,hg1,hg2⟩
 rintro⟨i,q1,c1,M⟩ ⟨hi,hc1,hA1⟩;refine rD tb 5 U (y_ (Lb U isAgg54 qco) ?_ U);refine rO tb 4 U ?_;refine Ad (Aa U) (fun c17=> ?_) (fun c17=> ?_)
 ·refine rC tb 7 U (y_ (Lb U isAgg54 qco) ?_ U);refine rO tb 1 U (y_ (Ld U U runUnderlying54 sizeOf56 qom (by first|exact rfl|exact hX.b (i:=i) qom)) ?_ U);refine y_ (Lc U isAgg56 sizeOf56 U (by exact(hX.mono sbt).cs (i:=i) qom)) ?_ U;refine e_ (Ak (qe2 U U) call144 (ih _ (Af qom) _ _ q1 c1 ((hA1 _ hA).mono sbt) hc1 ((hM.arg (Af (i:=i) qom)).mono sbt) (by have h1:=hkey i qom;have h2:=D0 m.args (i+1);rw[Dt qom] at h2;omega))) ?_ U;rintro _ _ ⟨q2,c2,M2,⟨rfl,hc2,hA2⟩,rfl⟩;refine rO tb 6 U (y_ (Av (T U) Ap qom) ?_ U);refine rO tb 2 U ?_;have hlt:=ntL_take (xs:=m.args) (i:=i) qom (if m.kind=2 then nameF m.node l else l);refine Ar ((i+1,q2,c2,M2++M)) ?_ ?_ ⟨qat,(by first|exact Aa U|(refine Be (Aa U) (vint ?_);omega)|(refine Be (Aa U) ?_;simp;done)|(refine Be (Aa U) ?_;exact by rw[hlt])),trivial⟩ ⟨Aa U,trivial⟩ ?_
  ·exact⟨by omega,by rw[hlt];exact hc2,fun X hX=>by rw[hlt,List.append_assoc];exact hA2 _ (hA1 X hX)⟩
  ·first|omega|(simp only[];omega)
  ·show (M2++M++_).Sublist _;rw[List.append_assoc];exact sbt
 ·refine rC tb 2 U (Ag (rX tb 9 U (Ah U (K9 U) ?_)));have hi2:m.args.take i=m.args:=List.take_of_length_le qom;rw[hi2] at hc1 hA1 ⊢;rw[ntR_eq];exact⟨_,⟨q1,c1,M,⟨rfl,hc1,hA1⟩,rfl⟩,sbt⟩
theorem lt_s {w0:World}:∀ m:Rxm,LtS w0 m:=Gh (Q:=LtS w0) fun m ih H l q c hA hc hM hz=>lt_step m ih l q c hA hc hM hz
def Srn (n:Nat) (l:List Nat):Prop:=l.Pairwise (· < ·)∧∀ x∈l,x<n
theorem Srn.nil {n:Nat}:Srn n []:=⟨.nil,fun x hx=>by cases hx⟩
theorem Srn.le {n m:Nat}{l:List Nat}(h:Srn n l)(hm:n≤m):Srn m l:=⟨h.1,fun x hx=>Nat.lt_of_lt_of_le (h.2 x hx) hm⟩
theorem Srn.len {n:Nat}{l:List Nat}(h:Srn n l):l.length≤n:=by
 have h1:l.Nodup:=h.1.imp fun h=>Nat.ne_of_lt h
 have:=Ey h1 (l':=List.range n) fun s hs=>List.mem_range.2 (h.2 s hs)
 simpa using this
theorem mem_putF {n x:Nat}:∀ {l:List Nat},x∈putF n l↔x=n∨x∈l
 |[]=>by simp[putF]
 |y::l=>by
  have ih:=mem_putF (n:=n) (x:=x) (l:=l);unfold putF
  split
  ·simp only[List.mem_cons,ih]
   constructor
   ·rintro(h|h|h)
    ·exact .inr (.inl h)
    ·exact .inl h
    ·exact .inr (.inr h)
   ·rintro(h|h|h)
    ·exact .inr (.inl h)
    ·exact .inl h
    ·exact .inr (.inr h)
  ·split
   ·rename_i h;subst h;simp only[List.mem_cons]
    constructor
    ·exact fun h=> .inr h
    ·rintro(h|h)
     ·exact .inl h
     ·exact h
   ·simp only[List.mem_cons]
theorem putF_srt {n:Nat}:∀ {l:List Nat},l.Pairwise (· < ·)→(putF n l).Pairwise (· < ·)
 |[],_=>by simp[putF]
 |y::l,h=>by
  rw[List.pairwise_cons] at h;unfold putF
  split
  ·rename_i h0;rw[List.pairwise_cons];refine⟨fun x hx=> ?_,putF_srt h.2⟩;rcases mem_putF.1 hx with e|e
   ·subst e;exact h0
   ·exact h.1 x e
  ·split
   ·rw[List.pairwise_cons];exact h
   ·rename_i h0 h1;rw[List.pairwise_cons];refine⟨fun x hx=> ?_,by rw[List.pairwise_cons];exact h⟩;rcases List.mem_cons.1 hx with e|e
    ·subst e;omega
    ·have:=h.1 x e;omega
theorem mem_mergeF {x:Nat}:∀ {b a:List Nat},x∈mergeF a b↔x∈a∨x∈b
 |[],a=>by simp[mergeF]
 |y::b,a=>by
  have ih:=mem_mergeF (x:=x) (b:=b) (a:=putF y a);have e:mergeF a (y::b)=mergeF (putF y a) b:=rfl;rw[e,ih,mem_putF,List.mem_cons]
  constructor
  ·rintro((h|h)|h)
   ·exact .inr (.inl h)
   ·exact .inl h
   ·exact .inr (.inr h)
  ·rintro(h|h|h)
   ·exact .inl (.inr h)
   ·exact .inl (.inl h)
   ·exact .inr h
theorem mergeF_srt:∀ {b a:List Nat},a.Pairwise (· < ·)→(mergeF a b).Pairwise (· < ·)
 |[],_,h=>h
 |y::b,a,h=>mergeF_srt (b:=b) (putF_srt h)
theorem Srn.merge {n:Nat}{a b:List Nat}(ha:Srn n a)(hb:Srn n b):Srn n (mergeF a b):=⟨mergeF_srt ha.1,fun x hx=>(mem_mergeF.1 hx).elim (ha.2 x) (hb.2 x)⟩
structure PT where
 nms:List ByteArray
 fol:List (List Nat)
structure PE where
 first:List Nat
 last:List Nat
 emp:Bool
def leadP (fol:List (List Nat)) (fr to:List Nat):List (List Nat):=fr.foldl (fun f i=>f.set i (mergeF (gd f i) to)) fol
theorem leadP_take {fol:List (List Nat)}{fr to:List Nat}{i:Nat}(h:i<fr.length):leadP fol (fr.take (i+1)) to=(leadP fol (fr.take i) to).set (gd fr i) (mergeF (gd (leadP fol (fr.take i) to) (gd fr i)) to):=by
 unfold leadP;rw[Ch h];simp
theorem leadP_len (fr to:List Nat):∀ fol:List (List Nat),(leadP fol fr to).length=fol.length:=by
 unfold leadP
 induction fr with
 |nil=>intro fol;rfl
 |cons x fr ih=>intro fol;simp only[List.foldl_cons];rw[ih];simp
def readP:Re→PT→PT × PE
 | .emp,t=>(t,⟨[],[],true⟩)
 | .nod s,t=>(⟨t.nms++[s],t.fol++[[]]⟩,⟨[t.fol.length],[t.fol.length],false⟩)
 | .any,t=>(⟨t.nms++[⟨#[]⟩],t.fol++[[]]⟩,⟨[t.fol.length],[t.fol.length],false⟩)
 | .alt a b,t=>
  let x:=readP a t
  let y:=readP b x.1
  (y.1,⟨mergeF x.2.first y.2.first,mergeF x.2.last y.2.last,x.2.emp||y.2.emp⟩)
 | .seq a b,t=>
  let x:=readP a t
  let y:=readP b x.1
  (⟨y.1.nms,leadP y.1.fol x.2.last y.2.first⟩,⟨if x.2.emp then mergeF x.2.first y.2.first else x.2.first,if y.2.emp then mergeF y.2.last x.2.last else y.2.last,x.2.emp&&y.2.emp⟩)
 | .star a,t=>
  let x:=readP a t
  (⟨x.1.nms,leadP x.1.fol x.2.last x.2.first⟩,⟨x.2.first,x.2.last,true⟩)
structure LT where
 lv:List Rxm
 fol:List RowQ
def LT.pl (t:LT):PT:=⟨t.lv.map Rxm.node,t.fol.map RowQ.l⟩
def LfOk (m:Rxm):Prop:=(m.kind=2∧m.node.size≠0)∨(m.kind=3∧m.node=⟨#[]⟩)
structure LtOk (w0:World) (X:List (Nat × Obj)) (t:LT):Prop where
 len:t.fol.length=t.lv.length
 few:t.lv.length≤64
 lf:∀ m∈t.lv,LfOk m
 arr:∀ r∈t.fol,Arr w0 X r.q 1 encU r.l
 cap:∀ r∈t.fol,r.l.length≤r.c
 srt:∀ r∈t.fol,Srn t.lv.length r.l
theorem LtOk.mono {w0:World}{X Y:List (Nat × Obj)}{t:LT}(h:LtOk w0 X t)(hs:X.Sublist Y:=by exact sbt):LtOk w0 Y t:=⟨h.len,h.few,h.lf,fun r hr=>(h.arr r hr).mono hs,h.cap,h.srt⟩
def ltH (nt:Nat) (d1 d2:Sl) (t:LT):List (Nat × Obj):=(nt,Cl [slV d1 t.lv.length,slV d2 t.fol.length] 204)::(slH d1 (t.lv.flatMap encRx) 56++slH d2 (t.fol.flatMap encRQ) 27)
theorem Gl (nt:Nat)(d1 d2:Sl)(t:LT)(R:List (Nat × Obj)):ltH nt d1 d2 t++R=(nt,Cl [slV d1 t.lv.length,slV d2 t.fol.length] 204)::(slH d1 (t.lv.flatMap encRx) 56++(slH d2 (t.fol.flatMap encRQ) 27++R)):=by
 unfold ltH;rw[List.cons_append,List.append_assoc]
theorem LtOk.set {w0:World}{X Y:List (Nat × Obj)}{t:LT}(h:LtOk w0 X t){k:Nat}{r:RowQ}(hs:X.Sublist Y)(hA:Arr w0 Y r.q 1 encU r.l)(hc:r.l.length≤r.c)(hr:Srn t.lv.length r.l):LtOk w0 Y {t with fol:=t.fol.set k r}:=by
 have hm:∀ x∈t.fol.set k r,x∈t.fol∨x=r:=fun x hx=>List.mem_or_eq_of_mem_set hx
 refine⟨by simpa using h.len,h.few,h.lf,fun x hx=> ?_,fun x hx=> ?_,fun x hx=> ?_⟩
 ·rcases hm x hx with e|e
  ·exact(h.arr x e).mono hs
  ·subst e;exact hA
 ·rcases hm x hx with e|e
  ·exact h.cap x e
  ·subst e;exact hc
 ·rcases hm x hx with e|e
  ·exact h.srt x e
  ·subst e;exact hr
theorem lead_s {w0:World}{R:List (Nat × Obj)}(nt:Nat)(d1 d2:Sl)(t:LT)(hok2:SlOk d2 t.fol.length 1)(ht:LtOk w0 R t)(fr to:List Nat)(q1 q2:Option Addr)(c1 c2:Nat)(hA:Arr w0 R q1 1 encU fr)(hB:Arr w0 R q2 1 encU to)(hf:Srn t.lv.length fr)(hto:Srn t.lv.length to):
  FSpec Tryz.prog w0 177 #[.pointer (some ⟨nt,0,none⟩), .slice q1 fr.length c1, .slice q2 to.length c2] (ltH nt d1 d2 t++R) (fun _ H'=>∃ y:List RowQ × List (Nat × Obj),(y.1.map RowQ.l=leadP t.pl.fol fr to∧(∀ X,LtOk w0 X t→LtOk w0 (y.2++X) ⟨t.lv,y.1⟩)∧SlOk d2 y.1.length 1)∧H'=(y.2++ltH nt d1 d2 ⟨t.lv,y.1⟩)++R):=by
 rw[Gl];have hfl:=hf.len;have htl:=hto.len;have hfw:=ht.few;have hfn:=ht.len;refine Ao Tryz.func177 U ntmps177 U (rD tb 6 U ?_);refine Ba (X:=Nat × List RowQ × List (Nat × Obj)) (V:=fun ⟨i,fol1,M⟩=>[(6, .int .i64 (i:Nat))]) (C:=[(0,_),(1,_),(2,_)]) (G:=fun ⟨i,fol1,M⟩=>M++((nt,Cl [slV d1 t.lv.length,slV d2 fol1.length] 204)::(slH d1 (t.lv.flatMap encRx) 56++(slH d2 (fol1.flatMap encRQ) 27++R)))) (φ:=fun ⟨i,fol1,M⟩=>i≤fr.length∧fol1.map RowQ.l=leadP t.pl.fol (fr.take i) to∧(∀ X,LtOk w0 X t→LtOk w0 (M++X) ⟨t.lv,fol1⟩)∧SlOk d2 fol1.length 1) (μ:=fun ⟨i,fol1,M⟩=>fr.length - i) (x0:=(0,t.fol,[])) ?_ ⟨Aa rfl,Aa rfl,Aa rfl,trivial⟩ ⟨qat,trivial⟩ sb0 ?_
 ·exact⟨Nat.zero_le _,rfl,fun X hX=>hX,hok2⟩
 rintro⟨i,fol1,M⟩ ⟨hi,hfo,hx1,hd2⟩;have ht1:=hx1 R ht;have hf1:fol1.length=t.lv.length:=ht1.len;refine rD tb 9 U ?_;refine Ad (Aa U) (fun c10=> ?_) (fun c10=> ?_)
 ·have hfr:gd fr i<t.lv.length:=hf.2 _ (Af qom);have hrl:=(ht1.srt _ (Af (l:=fol1) (i:=gd fr i) qom)).len;have hrl2:(gd fol1 (gd fr i)).l.length≤t.lv.length:=hrl;refine rC tb 4 U (Bh 21 [(0,true),(1,true),(2,true),(3,true),(4,true),(5,true),(6,true),(7,true),(8,true),(9,true),(10,true),(11,true),(12,true),(13,true),(14,true),(15,true),(16,true),(17,true),(18,true),(19,false),(20,true)] _ mixd qkr sb0 ?_ A8);refine rP tb 3 U (o_y U (Lb U isAgg65 qco) ?_ U Ac);refine rP tb 2 U (o_y U (Ld U U runUnderlying27 sizeOf3 qom (by first|exact rfl|exact hA.b (i:=i) qom)) ?_ U Ac);refine o_y U (Lb U isAgg3 (by first|exact c_o|exact cell1 ((hA.mono sbt).cs (i:=i) qom))) ?_ U Ac;refine rP tb 3 U (o_y U (Lb U isAgg65 qco) ?_ U Ac);refine rP tb 2 U (o_y U (Ld U U runUnderlying27 sizeOf3 qom (by first|exact rfl|exact hA.b (i:=i) qom)) ?_ U Ac);refine o_y U (Lb U isAgg3 (by first|exact c_o|exact cell1 ((hA.mono sbt).cs (i:=i) qom))) ?_ U Ac;refine o_y U (Ld U U runUnderlying65 sizeOf27 qom (by first|exact rfl|exact hA.b (i:=i) qom|exact(A1 (w0:=w0) (enc:=encRQ) (sz:=1) (e:=27) (X:=[]) (fun _=>rfl) hd2).b (i:=(gd fr i)) qom)) ?_ U Ac;refine o_y U (Lb U isAgg27 (by first|exact c_o|exact cell1 (((A1 (w0:=w0) (enc:=encRQ) (sz:=1) (e:=27) (X:=R) (fun _=>rfl) hd2).mono sbt).cs (i:=(gd fr i)) qom))) ?_ U Ac;refine rP tb 1 U (o_e U (Ak (qe2 U U) call171 (Hn (gd fol1 (gd fr i)).l (gd fol1 (gd fr i)).q (gd fol1 (gd fr i)).c ((ht1.arr _ (Af (l:=fol1) qom)).mono sbt) (ht1.cap _ (Af (l:=fol1) qom)) to q2 c2 (hB.mono sbt) qom)) ?_ U Ac);rintro _ _ ⟨q3,c3,M3,⟨rfl,hc3,hA3⟩,rfl⟩;refine⟨sbt,(o_y U (Ld U U runUnderlying65 sizeOf27 qom (by first|exact rfl|exact hA.b (i:=i) qom|exact(A1 (w0:=w0) (enc:=encRQ) (sz:=1) (e:=27) (X:=[]) (fun _=>rfl) hd2).b (i:=(gd fr i)) qom)) ?_ U Ac)⟩;refine A7 U (e_ (B4 (l:=fol1) (e:=27) (enc:=encRQ) (sz:=1) (i:=(gd fr i)) (⟨q3,c3,mergeF (gd fol1 (gd fr i)).l to⟩:RowQ) (fun _=>rfl) qlc (T U) (T U) (.one U) U sizeOf27 qom hd2) ?_ U);rintro _ _ ⟨rfl,rfl⟩;refine kO tb 3 [0,1,2,6] rfl U (rG tb 2 U (y_ (Av (T U) Ap qom) ?_ U));refine rO tb 2 U ?_;refine Ar ((i+1,fol1.set (gd fr i) ⟨q3,c3,mergeF (gd fol1 (gd fr i)).l to⟩,M3++M)) ?_ ?_ ⟨qat,trivial⟩ ⟨Aa U,Aa U,Aa U,trivial⟩ ?_
  ·refine⟨by omega,?_,?_,by simpa using hd2⟩
   ·rw[leadP_take qom,← hfo,List.map_set,Bu qom]
   ·exact fun X hX=>(hx1 X hX).set (r:=⟨q3,c3,mergeF (gd fol1 (gd fr i)).l to⟩) (by rw[List.append_assoc];exact List.sublist_append_right _ _) (by rw[List.append_assoc];exact hA3 _ ((hx1 X hX).arr _ (Af (l:=fol1) qom))) hc3 (Srn.merge (ht1.srt _ (Af (l:=fol1) (i:=gd fr i) qom)) hto)
  ·first|omega|(simp only[];omega)
  ·simp only[List.append_assoc,List.length_set];exact sbt
 ·refine rC tb 2 U (Ag (rX tb 1 U (Cv U .nil ?_)));have he:fr.take i=fr:=List.take_of_length_le qom;rw[he] at hfo;exact⟨_,⟨(fol1,M),⟨hfo,hx1,hd2⟩,rfl⟩,by rw[List.append_assoc,Gl];exact sbt⟩
theorem Hp (a0:Option Addr)(a0n a0c:Nat)(a1:Option Addr)(a1n a1c:Nat)(w:World):(Instr.build 206 #[(0, .slice a0 a0n a0c),(1, .slice a1 a1n a1c)]).run Tryz.prog w= .ok (.agg #[.slice a0 a0n a0c, .slice a1 a1n a1c, .bool false]) w:=by kernel_rfl
theorem bd163_2 (a0:Bool)(w:World):(Instr.build 206 #[(2, .bool a0)]).run Tryz.prog w= .ok (.agg #[.slice none 0 0, .slice none 0 0, .bool a0]) w:=by kernel_rfl
structure EQ where
 pe:PE
 q1:Option Addr
 c1:Nat
 q2:Option Addr
 c2:Nat
abbrev encEQ (E:EQ):List Value:=[.slice E.q1 E.pe.first.length E.c1, .slice E.q2 E.pe.last.length E.c2, .bool E.pe.emp]
structure EqOk (w0:World) (X:List (Nat × Obj)) (n:Nat) (E:EQ):Prop where
 a1:Arr w0 X E.q1 1 encU E.pe.first
 a2:Arr w0 X E.q2 1 encU E.pe.last
 k1:E.pe.first.length≤E.c1
 k2:E.pe.last.length≤E.c2
 s1:Srn n E.pe.first
 s2:Srn n E.pe.last
theorem EqOk.mono {w0:World}{X Y:List (Nat × Obj)}{n m:Nat}{E:EQ}(h:EqOk w0 X n E)(hm:n≤m)(hs:X.Sublist Y:=by exact sbt):EqOk w0 Y m E:=⟨h.a1.mono hs,h.a2.mono hs,h.k1,h.k2,h.s1.le hm,h.s2.le hm⟩
structure RdOk (w0:World) (e:Re) (t t':LT) (E:EQ) (M:List (Nat × Obj)):Prop where
 pl:t'.pl=(readP e t.pl).1
 pe:E.pe=(readP e t.pl).2
 len:t'.lv.length=t.lv.length+e.lv
 ok:∀ X,LtOk w0 X t→LtOk w0 (M++X) t'∧EqOk w0 (M++X) t'.lv.length E
def ReadS (w0:World) (m:Rxm) (e:Re):Prop:=∀ (R:List (Nat × Obj)) (nt:Nat) (d1 d2:Sl) (t:LT),RxM w0 R m→SlOk d1 t.lv.length 3→SlOk d2 t.fol.length 1→LtOk w0 R t→t.lv.length+e.lv≤64→
  FSpec Tryz.prog w0 143 #[.pointer (some ⟨nt,0,none⟩), .agg (encRx m).toArray] (ltH nt d1 d2 t++R) (fun v H'=>∃ y:Sl × Sl × LT × EQ × List (Nat × Obj),(v= .agg (encEQ y.2.2.2.1).toArray∧SlOk y.1 y.2.2.1.lv.length 3∧SlOk y.2.1 y.2.2.1.fol.length 1∧RdOk w0 e t y.2.2.1 y.2.2.2.1 y.2.2.2.2)∧H'=(y.2.2.2.2++ltH nt y.1 y.2.1 y.2.2.1)++R)
theorem LtOk.push {w0:World}{X Y:List (Nat × Obj)}{t:LT}(h:LtOk w0 X t)(hs:X.Sublist Y)(hl:t.lv.length+1≤64){m:Rxm}(hm:LfOk m):LtOk w0 Y ⟨t.lv++[m],t.fol++[⟨none,0,[]⟩]⟩:=by
 refine⟨by simp[h.len],by simpa using hl,fun x hx=> ?_,fun r hr=> ?_,fun r hr=> ?_,fun r hr=> ?_⟩
 ·rcases List.mem_append.1 hx with e|e
  ·exact h.lf x e
  ·simp at e;subst e;exact hm
 ·rcases List.mem_append.1 hr with e|e
  ·exact(h.arr r e).mono hs
  ·simp at e;subst e;exact fun i x hi=>by cases hi
 ·rcases List.mem_append.1 hr with e|e
  ·exact h.cap r e
  ·simp at e;subst e;exact Nat.le_refl _
 ·rcases List.mem_append.1 hr with e|e
  ·exact(h.srt r e).le (by simp)
  ·simp at e;subst e;exact .nil
theorem Ix {α:Type}(l:List α)(a b:α):(l++[a]).set l.length b=l++[b]:=by simp
theorem Srn.one {k n:Nat}(h:k<n):Srn n [k]:=⟨by simp,by simpa using h⟩
theorem read_nod {w0:World}{q:Option Addr}{c:Nat}{s:ByteArray}(hs:s.size≠0):ReadS w0 (.mk 2 s q c []) (.nod s):=by
 intro R nt d1 d2 t hM hok1 hok2 ht hl;show FSpec Tryz.prog w0 143 #[.pointer (some ⟨nt,0,none⟩), .agg #[.int .i64 2, .string s, .slice q 0 c]] (ltH nt d1 d2 t++R) _;simp only[Re.lv] at hl;have hfew:=ht.few;have hlen:=ht.len;have hlf:LfOk (.mk 2 s q c []):= .inl ⟨rfl,hs⟩;rw[Gl];refine Ao Tryz.func143 U ntmps143 U (rD tb 2 U (e_ (Lf U cs_) ?_ U));rintro _ _ ⟨n3,rfl,rfl⟩;refine e_ (Ai zeroValue206 cs_) ?_ U;rintro _ _ ⟨n4,rfl,rfl⟩;refine rO tb 6 U (y_ (Lb U isAgg3 qco) ?_ U);refine rO tb 17 U ?_;refine Ad (Aa U) (fun c17=> ?_) (fun c17=> ?_)
 ·refine rC tb 2 U ?_;refine Cj (Aa U) ?_;refine rC tb 5 U (y_ (Lb U isAgg54 qco) ?_ U);refine rO tb 5 U (I9 12 13 ((n4,Cl [.slice none 0 0, .slice none 0 0, .bool false] 206)::(n3,Cl [.int .i64 2, .string s, .slice q 0 c] 56)::R) ((n4,Cl [.slice none 0 0, .slice none 0 0, .bool false] 206)::(n3,Cl [.int .i64 2, .string s, .slice q 0 c] 56)::(nt,Cl [slV d1 t.lv.length,slV d2 t.fol.length] 204)::R) mixd qkr (by repeat (first|exact List.Sublist.refl _|apply List.Sublist.cons_cons|exact sbt)) (by repeat (first|exact List.Sublist.refl _|apply List.Sublist.cons_cons|exact sbt)) ?_ A8);refine Bv [0] qkr U (i:=0) U qkr (Br (T U)) ?_ U Ac;refine Bv [1] qkr U (i:=1) U qkr (Bm (T U)) ?_ U Ac;refine Bv [2] qkr U (i:=2) U qkr (De (T U) Ih) ?_ U Ac;refine Bv [3] qkr U (i:=3) U qkr (Lb U isAgg54 qco) ?_ U Ac;refine Bv [4] qkr U (i:=4) U qkr (Lc U isAgg56 sizeOf56 U qcs) ?_ U Ac;refine Bv [5] qkr U (i:=5) U qkr (yl_len (T U) runUnderlying54) ?_ U Ac;refine Cb (i:=6) qkr qkr ?_;refine Dq U (Aj (.cons Ap .nil) (bs22_1_0 _ _ _ _ _)) ?_ U Ac qkr;rintro _ _ ⟨n31,rfl,rfl⟩;refine⟨sbt,(Cb (i:=7) qkr qkr ?_)⟩;refine Dq U (Bg ((default:Rxm)) (by':=48) (enc:=encRx) (l:=t.lv) qlc (T U) (T U) runUnderlying54 runUnderlying54 sizeOf56 typeInfo56 U zeroValue56 U (fun _=>rfl) U hok1 qde qom) ?_ U Ac qkr;rintro _ _ ⟨e1,rfl,ho1,rfl⟩;refine⟨sbt,(w_y (i:=8) U qkr (Bi (T U) (T U) runUnderlying54 sizeOf56 (by simp;omega) (by first|exact rfl|exact(A1 (w0:=w0) (enc:=encRx) (sz:=3) (e:=56) (X:=[]) (l:=t.lv++[default]) (fun _=>rfl) ho1).b (i:=t.lv.length) (by simp))) ?_ U Ac)⟩;refine Bv [11,10] qkr U (i:=10) U qkr (Bm (T U)) ?_ U Ac;refine Bv [11] qkr U (i:=11) U qkr (De (T U) Ih) ?_ U Ac;refine Kd (i:=9) (j:=12) qkr qkr ?_ ?_
  ·refine Dq U (B4 (l:=t.lv++[default]) (e:=56) (enc:=encRx) (sz:=3) (i:=t.lv.length) (.mk 2 s q c []) (fun _=>rfl) qlc (T U) (T U) .agg U sizeOf56 (by simp) ho1) ?_ U Ac qkr;rintro _ _ ⟨rfl,rfl⟩;refine⟨sbt,(Cb (i:=12) qkr qkr ?_)⟩
   first|refine C6 U (Le U U sizeOf54) ?_ U Ac qkr|refine C6 U (Bs (T U) (T U) U sizeOf54) ?_ U Ac qkr|refine C6 U (Bj (T U) (T U) U sizeOf54) ?_ U Ac qkr
   rintro _ _ ⟨rfl,rfl⟩;refine⟨sbt,(Gr qkr U ?_)⟩;refine rO tb 8 U (y_ (Lb U isAgg65 qco) ?_ U);refine e_ (Aj (.cons Ap .nil) (C0 _ _ _)) ?_ U;rintro _ _ ⟨n41,rfl,rfl⟩;refine e_ (Bg ((⟨none,0,[]⟩:RowQ)) (by':=24) (enc:=encRQ) (l:=t.fol) qlc (T U) (T U) runUnderlying65 runUnderlying65 sizeOf27 typeInfo27 U zeroValue27 U (fun _=>rfl) U hok2 qde qom) ?_ U;rintro _ _ ⟨e2,rfl,ho2,rfl⟩;refine rO tb 2 U ?_
   first|refine Aw (Le U U sizeOf65) U Ac ?_|refine Aw (Bs (T U) (T U) U sizeOf65) U Ac ?_|refine Aw (Bj (T U) (T U) U sizeOf65) U Ac ?_
   rintro _ _ ⟨rfl,rfl⟩;refine kO tb 2 [4,5] rfl U (rG tb 3 U (e_ (Aj (.cons (T U) .nil) (Bn _)) ?_ U));rintro _ _ ⟨n46,rfl,rfl⟩;refine rO tb 1 U (e_ (Aj (.cons (T U) .nil) (Bn _)) ?_ U);rintro _ _ ⟨n48,rfl,rfl⟩;refine y_ (A0 (.cons (T U) (.cons (T U) .nil)) (Hp _ _ _ _ _ _)) ?_ U;refine Aw (Le U U sizeOf206) U Ac ?_;rintro _ _ ⟨rfl,rfl⟩;refine rO tb 5 U (Ah U (.cellA (Aa U) isAgg206 sizeOf206 U qcs .nil) ?_);refine⟨_,⟨(e1,e2,⟨t.lv++[.mk 2 s q c []],t.fol++[⟨none,0,[]⟩]⟩,⟨⟨[t.lv.length],[t.lv.length],false⟩,some ⟨n46,0,none⟩,1,some ⟨n48,0,none⟩,1⟩,[(n48,Cl [.int .i64 (t.lv.length:Nat)] 3),(n46,Cl [.int .i64 (t.lv.length:Nat)] 3)]),⟨?_,by simpa using ho1,by simpa using ho2,by simp[LT.pl,readP,Rxm.node],by simp[LT.pl,readP,hlen],by simp[Re.lv],fun X hX=>⟨hX.push (by exact sbt) qom hlf,Bw (fun _=>rfl) (by simp[encU]) (Aq A2),Bw (fun _=>rfl) (by simp[encU]) A2,Nat.le_refl _,Nat.le_refl _, .one (by simp), .one (by simp)⟩⟩,rfl⟩,?_⟩
   ·rfl
   ·simp only[Gl,Ix,List.append_assoc,List.cons_append,List.nil_append,List.length_append,List.length_cons,List.length_nil,Nat.zero_add,List.length_set];exact sbt
  ·first|refine C6 U (Le U U sizeOf54) ?_ U Ac qkr|refine C6 U (Bs (T U) (T U) U sizeOf54) ?_ U Ac qkr|refine C6 U (Bj (T U) (T U) U sizeOf54) ?_ U Ac qkr
   rintro _ _ ⟨rfl,rfl⟩;refine⟨sbt,(Cb (i:=9) qkr qkr ?_)⟩;refine C6 U (B4 (l:=t.lv++[default]) (e:=56) (enc:=encRx) (sz:=3) (i:=t.lv.length) (.mk 2 s q c []) (fun _=>rfl) qlc (T U) (T U) .agg U sizeOf56 (by simp) ho1) ?_ U Ac qkr;rintro _ _ ⟨rfl,rfl⟩;refine⟨sbt,(Gr qkr U ?_)⟩;refine rO tb 8 U (y_ (Lb U isAgg65 qco) ?_ U);refine e_ (Aj (.cons Ap .nil) (C0 _ _ _)) ?_ U;rintro _ _ ⟨n41,rfl,rfl⟩;refine e_ (Bg ((⟨none,0,[]⟩:RowQ)) (by':=24) (enc:=encRQ) (l:=t.fol) qlc (T U) (T U) runUnderlying65 runUnderlying65 sizeOf27 typeInfo27 U zeroValue27 U (fun _=>rfl) U hok2 qde qom) ?_ U;rintro _ _ ⟨e2,rfl,ho2,rfl⟩;refine rO tb 2 U ?_
   first|refine Aw (Le U U sizeOf65) U Ac ?_|refine Aw (Bs (T U) (T U) U sizeOf65) U Ac ?_|refine Aw (Bj (T U) (T U) U sizeOf65) U Ac ?_
   rintro _ _ ⟨rfl,rfl⟩;refine kO tb 2 [4,5] rfl U (rG tb 3 U (e_ (Aj (.cons (T U) .nil) (Bn _)) ?_ U));rintro _ _ ⟨n46,rfl,rfl⟩;refine rO tb 1 U (e_ (Aj (.cons (T U) .nil) (Bn _)) ?_ U);rintro _ _ ⟨n48,rfl,rfl⟩;refine y_ (A0 (.cons (T U) (.cons (T U) .nil)) (Hp _ _ _ _ _ _)) ?_ U;refine Aw (Le U U sizeOf206) U Ac ?_;rintro _ _ ⟨rfl,rfl⟩;refine rO tb 5 U (Ah U (.cellA (Aa U) isAgg206 sizeOf206 U qcs .nil) ?_);refine⟨_,⟨(e1,e2,⟨t.lv++[.mk 2 s q c []],t.fol++[⟨none,0,[]⟩]⟩,⟨⟨[t.lv.length],[t.lv.length],false⟩,some ⟨n46,0,none⟩,1,some ⟨n48,0,none⟩,1⟩,[(n48,Cl [.int .i64 (t.lv.length:Nat)] 3),(n46,Cl [.int .i64 (t.lv.length:Nat)] 3)]),⟨?_,by simpa using ho1,by simpa using ho2,by simp[LT.pl,readP,Rxm.node],by simp[LT.pl,readP,hlen],by simp[Re.lv],fun X hX=>⟨hX.push (by exact sbt) qom hlf,Bw (fun _=>rfl) (by simp[encU]) (Aq A2),Bw (fun _=>rfl) (by simp[encU]) A2,Nat.le_refl _,Nat.le_refl _, .one (by simp), .one (by simp)⟩⟩,rfl⟩,?_⟩
   ·rfl
   ·simp only[Gl,Ix,List.append_assoc,List.cons_append,List.nil_append,List.length_append,List.length_cons,List.length_nil,Nat.zero_add,List.length_set];exact sbt
 ·exfalso;omega
theorem read_any {w0:World}{q:Option Addr}{c:Nat}:ReadS w0 (.mk 3 ⟨#[]⟩ q c []) (.any):=by
 intro R nt d1 d2 t hM hok1 hok2 ht hl;show FSpec Tryz.prog w0 143 #[.pointer (some ⟨nt,0,none⟩), .agg #[.int .i64 3, .string ⟨#[]⟩, .slice q 0 c]] (ltH nt d1 d2 t++R) _;simp only[Re.lv] at hl;have hfew:=ht.few;have hlen:=ht.len;have hlf:LfOk (.mk 3 ⟨#[]⟩ q c []):= .inr ⟨rfl,rfl⟩;rw[Gl];refine Ao Tryz.func143 U ntmps143 U (rD tb 2 U (e_ (Lf U cs_) ?_ U));rintro _ _ ⟨n3,rfl,rfl⟩;refine e_ (Ai zeroValue206 cs_) ?_ U;rintro _ _ ⟨n4,rfl,rfl⟩;refine rO tb 6 U (y_ (Lb U isAgg3 qco) ?_ U);refine rO tb 17 U ?_;refine Ad (Aa U) (fun c17=> ?_) (fun c17=> ?_)
 ·exfalso;omega
 ·refine rC tb 5 U ?_;refine Ad (Aa U) (fun c17=> ?_) (fun c17=> ?_)
  ·refine rC tb 5 U (y_ (Lb U isAgg54 qco) ?_ U);refine rO tb 5 U (I9 12 13 ((n4,Cl [.slice none 0 0, .slice none 0 0, .bool false] 206)::(n3,Cl [.int .i64 3, .string ⟨#[]⟩, .slice q 0 c] 56)::R) ((n4,Cl [.slice none 0 0, .slice none 0 0, .bool false] 206)::(n3,Cl [.int .i64 3, .string ⟨#[]⟩, .slice q 0 c] 56)::(nt,Cl [slV d1 t.lv.length,slV d2 t.fol.length] 204)::R) mixd qkr (by repeat (first|exact List.Sublist.refl _|apply List.Sublist.cons_cons|exact sbt)) (by repeat (first|exact List.Sublist.refl _|apply List.Sublist.cons_cons|exact sbt)) ?_ A8);refine Bv [0] qkr U (i:=0) U qkr (Br (T U)) ?_ U Ac;refine Bv [1] qkr U (i:=1) U qkr (Bm (T U)) ?_ U Ac;refine Bv [2] qkr U (i:=2) U qkr (De (T U) Ih) ?_ U Ac;refine Bv [3] qkr U (i:=3) U qkr (Lb U isAgg54 qco) ?_ U Ac;refine Bv [4] qkr U (i:=4) U qkr (Lc U isAgg56 sizeOf56 U qcs) ?_ U Ac;refine Bv [5] qkr U (i:=5) U qkr (yl_len (T U) runUnderlying54) ?_ U Ac;refine Cb (i:=6) qkr qkr ?_;refine Dq U (Aj (.cons Ap .nil) (bs22_1_0 _ _ _ _ _)) ?_ U Ac qkr;rintro _ _ ⟨n31,rfl,rfl⟩;refine⟨sbt,(Cb (i:=7) qkr qkr ?_)⟩;refine Dq U (Bg ((default:Rxm)) (by':=48) (enc:=encRx) (l:=t.lv) qlc (T U) (T U) runUnderlying54 runUnderlying54 sizeOf56 typeInfo56 U zeroValue56 U (fun _=>rfl) U hok1 qde qom) ?_ U Ac qkr;rintro _ _ ⟨e1,rfl,ho1,rfl⟩;refine⟨sbt,(w_y (i:=8) U qkr (Bi (T U) (T U) runUnderlying54 sizeOf56 (by simp;omega) (by first|exact rfl|exact(A1 (w0:=w0) (enc:=encRx) (sz:=3) (e:=56) (X:=[]) (l:=t.lv++[default]) (fun _=>rfl) ho1).b (i:=t.lv.length) (by simp))) ?_ U Ac)⟩;refine Bv [11,10] qkr U (i:=10) U qkr (Bm (T U)) ?_ U Ac;refine Bv [11] qkr U (i:=11) U qkr (De (T U) Ih) ?_ U Ac;refine Kd (i:=9) (j:=12) qkr qkr ?_ ?_
   ·refine Dq U (B4 (l:=t.lv++[default]) (e:=56) (enc:=encRx) (sz:=3) (i:=t.lv.length) (.mk 3 ⟨#[]⟩ q c []) (fun _=>rfl) qlc (T U) (T U) .agg U sizeOf56 (by simp) ho1) ?_ U Ac qkr;rintro _ _ ⟨rfl,rfl⟩;refine⟨sbt,(Cb (i:=12) qkr qkr ?_)⟩
    first|refine C6 U (Le U U sizeOf54) ?_ U Ac qkr|refine C6 U (Bs (T U) (T U) U sizeOf54) ?_ U Ac qkr|refine C6 U (Bj (T U) (T U) U sizeOf54) ?_ U Ac qkr
    rintro _ _ ⟨rfl,rfl⟩;refine⟨sbt,(Gr qkr U ?_)⟩;refine rO tb 8 U (y_ (Lb U isAgg65 qco) ?_ U);refine e_ (Aj (.cons Ap .nil) (C0 _ _ _)) ?_ U;rintro _ _ ⟨n41,rfl,rfl⟩;refine e_ (Bg ((⟨none,0,[]⟩:RowQ)) (by':=24) (enc:=encRQ) (l:=t.fol) qlc (T U) (T U) runUnderlying65 runUnderlying65 sizeOf27 typeInfo27 U zeroValue27 U (fun _=>rfl) U hok2 qde qom) ?_ U;rintro _ _ ⟨e2,rfl,ho2,rfl⟩;refine rO tb 2 U ?_
    first|refine Aw (Le U U sizeOf65) U Ac ?_|refine Aw (Bs (T U) (T U) U sizeOf65) U Ac ?_|refine Aw (Bj (T U) (T U) U sizeOf65) U Ac ?_
    rintro _ _ ⟨rfl,rfl⟩;refine kO tb 2 [4,5] rfl U (rG tb 3 U (e_ (Aj (.cons (T U) .nil) (Bn _)) ?_ U));rintro _ _ ⟨n46,rfl,rfl⟩;refine rO tb 1 U (e_ (Aj (.cons (T U) .nil) (Bn _)) ?_ U);rintro _ _ ⟨n48,rfl,rfl⟩;refine y_ (A0 (.cons (T U) (.cons (T U) .nil)) (Hp _ _ _ _ _ _)) ?_ U;refine Aw (Le U U sizeOf206) U Ac ?_;rintro _ _ ⟨rfl,rfl⟩;refine rO tb 5 U (Ah U (.cellA (Aa U) isAgg206 sizeOf206 U qcs .nil) ?_);refine⟨_,⟨(e1,e2,⟨t.lv++[.mk 3 ⟨#[]⟩ q c []],t.fol++[⟨none,0,[]⟩]⟩,⟨⟨[t.lv.length],[t.lv.length],false⟩,some ⟨n46,0,none⟩,1,some ⟨n48,0,none⟩,1⟩,[(n48,Cl [.int .i64 (t.lv.length:Nat)] 3),(n46,Cl [.int .i64 (t.lv.length:Nat)] 3)]),⟨?_,by simpa using ho1,by simpa using ho2,by simp[LT.pl,readP,Rxm.node],by simp[LT.pl,readP,hlen],by simp[Re.lv],fun X hX=>⟨hX.push (by exact sbt) qom hlf,Bw (fun _=>rfl) (by simp[encU]) (Aq A2),Bw (fun _=>rfl) (by simp[encU]) A2,Nat.le_refl _,Nat.le_refl _, .one (by simp), .one (by simp)⟩⟩,rfl⟩,?_⟩
    ·rfl
    ·simp only[Gl,Ix,List.append_assoc,List.cons_append,List.nil_append,List.length_append,List.length_cons,List.length_nil,Nat.zero_add,List.length_set];exact sbt
   ·first|refine C6 U (Le U U sizeOf54) ?_ U Ac qkr|refine C6 U (Bs (T U) (T U) U sizeOf54) ?_ U Ac qkr|refine C6 U (Bj (T U) (T U) U sizeOf54) ?_ U Ac qkr
    rintro _ _ ⟨rfl,rfl⟩;refine⟨sbt,(Cb (i:=9) qkr qkr ?_)⟩;refine C6 U (B4 (l:=t.lv++[default]) (e:=56) (enc:=encRx) (sz:=3) (i:=t.lv.length) (.mk 3 ⟨#[]⟩ q c []) (fun _=>rfl) qlc (T U) (T U) .agg U sizeOf56 (by simp) ho1) ?_ U Ac qkr;rintro _ _ ⟨rfl,rfl⟩;refine⟨sbt,(Gr qkr U ?_)⟩;refine rO tb 8 U (y_ (Lb U isAgg65 qco) ?_ U);refine e_ (Aj (.cons Ap .nil) (C0 _ _ _)) ?_ U;rintro _ _ ⟨n41,rfl,rfl⟩;refine e_ (Bg ((⟨none,0,[]⟩:RowQ)) (by':=24) (enc:=encRQ) (l:=t.fol) qlc (T U) (T U) runUnderlying65 runUnderlying65 sizeOf27 typeInfo27 U zeroValue27 U (fun _=>rfl) U hok2 qde qom) ?_ U;rintro _ _ ⟨e2,rfl,ho2,rfl⟩;refine rO tb 2 U ?_
    first|refine Aw (Le U U sizeOf65) U Ac ?_|refine Aw (Bs (T U) (T U) U sizeOf65) U Ac ?_|refine Aw (Bj (T U) (T U) U sizeOf65) U Ac ?_
    rintro _ _ ⟨rfl,rfl⟩;refine kO tb 2 [4,5] rfl U (rG tb 3 U (e_ (Aj (.cons (T U) .nil) (Bn _)) ?_ U));rintro _ _ ⟨n46,rfl,rfl⟩;refine rO tb 1 U (e_ (Aj (.cons (T U) .nil) (Bn _)) ?_ U);rintro _ _ ⟨n48,rfl,rfl⟩;refine y_ (A0 (.cons (T U) (.cons (T U) .nil)) (Hp _ _ _ _ _ _)) ?_ U;refine Aw (Le U U sizeOf206) U Ac ?_;rintro _ _ ⟨rfl,rfl⟩;refine rO tb 5 U (Ah U (.cellA (Aa U) isAgg206 sizeOf206 U qcs .nil) ?_);refine⟨_,⟨(e1,e2,⟨t.lv++[.mk 3 ⟨#[]⟩ q c []],t.fol++[⟨none,0,[]⟩]⟩,⟨⟨[t.lv.length],[t.lv.length],false⟩,some ⟨n46,0,none⟩,1,some ⟨n48,0,none⟩,1⟩,[(n48,Cl [.int .i64 (t.lv.length:Nat)] 3),(n46,Cl [.int .i64 (t.lv.length:Nat)] 3)]),⟨?_,by simpa using ho1,by simpa using ho2,by simp[LT.pl,readP,Rxm.node],by simp[LT.pl,readP,hlen],by simp[Re.lv],fun X hX=>⟨hX.push (by exact sbt) qom hlf,Bw (fun _=>rfl) (by simp[encU]) (Aq A2),Bw (fun _=>rfl) (by simp[encU]) A2,Nat.le_refl _,Nat.le_refl _, .one (by simp), .one (by simp)⟩⟩,rfl⟩,?_⟩
    ·rfl
    ·simp only[Gl,Ix,List.append_assoc,List.cons_append,List.nil_append,List.length_append,List.length_cons,List.length_nil,Nat.zero_add,List.length_set];exact sbt
  ·exfalso;omega
theorem read_emp {w0:World}{q:Option Addr}{c:Nat}:ReadS w0 (.mk 1 ⟨#[]⟩ q c []) (.emp):=by
 intro R nt d1 d2 t hM hok1 hok2 ht hl;show FSpec Tryz.prog w0 143 #[.pointer (some ⟨nt,0,none⟩), .agg #[.int .i64 1, .string ⟨#[]⟩, .slice q 0 c]] (ltH nt d1 d2 t++R) _;refine Ao Tryz.func143 U ntmps143 U (rD tb 2 U (e_ (Lf U cs_) ?_ U));rintro _ _ ⟨n3,rfl,rfl⟩;refine e_ (Ai zeroValue206 cs_) ?_ U;rintro _ _ ⟨n4,rfl,rfl⟩;refine rO tb 6 U (y_ (Lb U isAgg3 qco) ?_ U);refine rO tb 12 U (y_ (A0 (.cons Ap .nil) (bd163_2 _)) ?_ U);refine Aw (Le U U sizeOf206) U Ac ?_;rintro _ _ ⟨rfl,rfl⟩;refine rO tb 5 U (Ah U (.cellA (Aa U) isAgg206 sizeOf206 U qcs .nil) ?_);exact⟨_,⟨(d1,d2,t,⟨⟨[],[],true⟩,none,0,none,0⟩,[]),⟨rfl,hok1,hok2,rfl,rfl,rfl,fun X hX=>⟨hX,(fun i x hi=>by cases hi),(fun i x hi=>by cases hi),Nat.le_refl _,Nat.le_refl _, .nil, .nil⟩⟩,rfl⟩,sbt⟩
theorem Eb (a0:Option Addr)(a0n a0c:Nat)(a1:Option Addr)(a1n a1c:Nat)(a2:Bool)(w:World):(Instr.build 206 #[(0, .slice a0 a0n a0c),(1, .slice a1 a1n a1c),(2, .bool a2)]).run Tryz.prog w= .ok (.agg #[.slice a0 a0n a0c, .slice a1 a1n a1c, .bool a2]) w:=by kernel_rfl
theorem RdOk.alt {w0:World}{a b:Re}{t t1 t2:LT}{E1 E2:EQ}{M1 M2 M5 M6:List (Nat × Obj)}{q5 q6:Option Addr}{c5 c6:Nat}(h1:RdOk w0 a t t1 E1 M1)(h2:RdOk w0 b t1 t2 E2 M2)
  (k5:(mergeF E1.pe.first E2.pe.first).length≤c5) (h5:∀ X,Arr w0 X E1.q1 1 encU E1.pe.first→Arr w0 (M5++X) q5 1 encU (mergeF E1.pe.first E2.pe.first))
  (k6:(mergeF E1.pe.last E2.pe.last).length≤c6) (h6:∀ X,Arr w0 X E1.q2 1 encU E1.pe.last→Arr w0 (M6++X) q6 1 encU (mergeF E1.pe.last E2.pe.last)) {x:Bool} (hx:x=(E1.pe.emp||E2.pe.emp)):
  RdOk w0 (.alt a b) t t2 ⟨⟨mergeF E1.pe.first E2.pe.first,mergeF E1.pe.last E2.pe.last,x⟩,q5,c5,q6,c6⟩ (M6++(M5++(M2++M1))):=by
 have hl1:=h1.len;have hl2:=h2.len;refine⟨by rw[h2.pl,h1.pl];rfl,by rw[hx,h1.pe,h2.pe,h1.pl];rfl,by rw[hl2,hl1];simp only[Re.lv];omega,fun X hX=> ?_⟩;obtain⟨g1,b1⟩:=h1.ok X hX;obtain⟨g2,b2⟩:=h2.ok _ g1;have hS:(M2++(M1++X)).Sublist (M6++(M5++(M2++M1))++X):=by simp only[List.append_assoc];exact(List.sublist_append_right _ _).trans (List.sublist_append_right _ _)
 have b1':EqOk w0 (M2++(M1++X)) t2.lv.length E1:=b1.mono qom (List.sublist_append_right _ _);refine⟨g2.mono hS,?_,?_,k5,k6,b1'.s1.merge b2.s1,b1'.s2.merge b2.s2⟩
 ·refine(h5 _ b1'.a1).mono ?_;simp only[List.append_assoc];exact List.sublist_append_right _ _
 ·refine(h6 _ b1'.a2).mono ?_;simp only[List.append_assoc];exact(List.Sublist.refl _).append (List.sublist_append_right _ _)
theorem RdOk.seq {w0:World}{a b:Re}{t t1 t2:LT}{fol3:List RowQ}{E1 E2:EQ}{M1 M2 M3 M5 M6:List (Nat × Obj)}{q5 q6:Option Addr}{c5 c6:Nat}{l5 l6:List Nat}(h1:RdOk w0 a t t1 E1 M1)(h2:RdOk w0 b t1 t2 E2 M2)
  (hf:fol3.map RowQ.l=leadP t2.pl.fol E1.pe.last E2.pe.first) (h3:∀ X,LtOk w0 X t2→LtOk w0 (M3++X) ⟨t2.lv,fol3⟩)
  (e5:l5=if E1.pe.emp then mergeF E1.pe.first E2.pe.first else E1.pe.first) (k5:l5.length≤c5) (h5:∀ X,Arr w0 X E1.q1 1 encU E1.pe.first→Arr w0 (M5++X) q5 1 encU l5)
  (e6:l6=if E2.pe.emp then mergeF E2.pe.last E1.pe.last else E2.pe.last) (k6:l6.length≤c6) (h6:∀ X,Arr w0 X E2.q2 1 encU E2.pe.last→Arr w0 (M6++X) q6 1 encU l6) {x:Bool} (hx:x=(E1.pe.emp&&E2.pe.emp)):
  RdOk w0 (.seq a b) t ⟨t2.lv,fol3⟩ ⟨⟨l5,l6,x⟩,q5,c5,q6,c6⟩ (M6++(M5++(M3++(M2++M1)))):=by
 have hl1:=h1.len;have hl2:=h2.len;refine⟨?_,by rw[hx,e5,e6,h1.pe,h2.pe,h1.pl];rfl,by show t2.lv.length=_;rw[hl2,hl1];simp only[Re.lv];omega,fun X hX=> ?_⟩
 ·show (⟨t2.lv.map Rxm.node,fol3.map RowQ.l⟩:PT)=_;rw[hf,h1.pe,h2.pe,show t2.lv.map Rxm.node=t2.pl.nms from rfl,h2.pl,h1.pl];rfl
 obtain⟨g1,b1⟩:=h1.ok X hX;obtain⟨g2,b2⟩:=h2.ok _ g1;have g3:=h3 _ g2;have b1':EqOk w0 (M2++(M1++X)) t2.lv.length E1:=b1.mono qom (List.sublist_append_right _ _);refine⟨g3.mono (by simp only[List.append_assoc];exact(List.sublist_append_right _ _).trans (List.sublist_append_right _ _)),?_,?_,k5,k6,?_,?_⟩
 ·refine(h5 _ b1'.a1).mono ?_;simp only[List.append_assoc];exact((List.Sublist.refl _).append (List.sublist_append_right _ _)).trans (List.sublist_append_right _ _)
 ·refine(h6 _ b2.a2).mono ?_;simp only[List.append_assoc];exact(List.Sublist.refl _).append ((List.sublist_append_right _ _).trans (List.sublist_append_right _ _))
 ·show Srn t2.lv.length l5;rw[e5];split
  ·exact b1'.s1.merge b2.s1
  ·exact b1'.s1
 ·show Srn t2.lv.length l6;rw[e6];split
  ·exact b2.s2.merge b1'.s2
  ·exact b2.s2
theorem RdOk.star {w0:World}{a:Re}{t t1:LT}{fol3:List RowQ}{E1:EQ}{M1 M3:List (Nat × Obj)}(h1:RdOk w0 a t t1 E1 M1)
  (hf:fol3.map RowQ.l=leadP t1.pl.fol E1.pe.last E1.pe.first) (h3:∀ X,LtOk w0 X t1→LtOk w0 (M3++X) ⟨t1.lv,fol3⟩):
  RdOk w0 (.star a) t ⟨t1.lv,fol3⟩ ⟨⟨E1.pe.first,E1.pe.last,true⟩,E1.q1,E1.c1,E1.q2,E1.c2⟩ (M3++M1):=by
 refine⟨?_,by rw[h1.pe];rfl,h1.len,fun X hX=> ?_⟩
 ·show (⟨t1.lv.map Rxm.node,fol3.map RowQ.l⟩:PT)=_;rw[hf,h1.pe,show t1.lv.map Rxm.node=t1.pl.nms from rfl,h1.pl];rfl
 obtain⟨g1,b1⟩:=h1.ok X hX;have g3:=h3 _ g1;have b1':EqOk w0 (M3++M1++X) t1.lv.length E1:=b1.mono (Nat.le_refl _) (by simp only[List.append_assoc];exact List.sublist_append_right _ _);exact⟨g3.mono (by simp only[List.append_assoc];exact List.Sublist.refl _),b1'.a1,b1'.a2,b1'.k1,b1'.k2,b1'.s1,b1'.s2⟩
theorem read_alt {w0:World}{q:Option Addr}{c:Nat}{ma mb:Rxm}{a b:Re}(iha:ReadS w0 ma a)(ihb:ReadS w0 mb b):ReadS w0 (.mk 5 ⟨#[]⟩ q c [ma,mb]) (.alt a b):=by
 intro R nt d1 d2 t hM hok1 hok2 ht hl;show FSpec Tryz.prog w0 143 #[.pointer (some ⟨nt,0,none⟩), .agg #[.int .i64 5, .string ⟨#[]⟩, .slice q 2 c]] (ltH nt d1 d2 t++R) _;simp only[Re.lv] at hl;obtain⟨hA,hMM,_,_⟩:=hM;have hMa:=hMM ma (by simp);have hMb:=hMM mb (by simp);refine Ao Tryz.func143 U ntmps143 U (rD tb 2 U (e_ (Lf U cs_) ?_ U));rintro _ _ ⟨n3,rfl,rfl⟩;refine e_ (Ai zeroValue206 cs_) ?_ U;rintro _ _ ⟨n4,rfl,rfl⟩;refine rO tb 6 U (y_ (Lb U isAgg3 qco) ?_ U);refine rO tb 17 U ?_;refine Ad (Aa U) (fun c17=> ?_) (fun c17=> ?_)
 ·exfalso;omega
 ·refine rC tb 5 U ?_;refine Ad (Aa U) (fun c17=> ?_) (fun c17=> ?_)
  ·exfalso;omega
  ·refine rC tb 11 U (y_ (Lb U isAgg54 qco) ?_ U);refine y_ (Bi (T U) Ap runUnderlying54 sizeOf56 qom (by first|exact rfl|exact hA.b0)) ?_ U;refine y_ (Lc U isAgg56 sizeOf56 U (by exact hA.cs0)) ?_ U;refine e_ (Ak (qe2 U U) call143 (A6 (ltH nt d1 d2 t) qlc (iha _ nt d1 d2 t (hMa.mono sbt) hok1 hok2 (ht.mono sbt) qom))) ?_ U;rintro _ _ ⟨⟨e1,e2,t1,E1,M1⟩,⟨rfl,ho1,ho2,hr1⟩,rfl⟩;simp only[List.append_assoc] at hr1 ⊢;have hl1:=hr1.len;obtain⟨ht1,hE1⟩:=hr1.ok R ht;refine e_ (Ai zeroValue206 cs_) ?_ U;rintro _ _ ⟨n6,rfl,rfl⟩;refine Aw (Le U U sizeOf206) U Ac ?_;rintro _ _ ⟨rfl,rfl⟩;refine rO tb 6 U (y_ (Lb U isAgg54 qco) ?_ U);refine y_ (Bi (T U) Ap runUnderlying54 sizeOf56 qom (by first|exact rfl|exact hA.b0)) ?_ U;refine y_ (Lc U isAgg56 sizeOf56 U (by exact hA.cs1)) ?_ U;refine e_ (Ak (qe2 U U) call143 (A6 (ltH nt e1 e2 t1) qlc (ihb _ nt e1 e2 t1 (hMb.mono sbt) ho1 ho2 (ht1.mono sbt) qom))) ?_ U;rintro _ _ ⟨⟨f1,f2,t2,E2,M2⟩,⟨rfl,ho3,ho4,hr2⟩,rfl⟩;simp only[List.append_assoc] at hr2 ⊢;have hl2:=hr2.len;obtain⟨ht2,hE2⟩:=hr2.ok (M1++R) ht1;have hE1b:EqOk w0 (M2++(M1++R)) t2.lv.length E1:=hE1.mono qom (List.sublist_append_right _ _);have w1:=hE1b.s1.len;have w2:=hE1b.s2.len;have w3:=hE2.s1.len;have w4:=hE2.s2.len;have w5:=ht2.few;refine Fb (List.Perm.cons _ (List.Perm.cons _ (List.Perm.cons _ (List.perm_append_comm_assoc _ _ _)))) (e_ (Ai zeroValue206 cs_) ?_ U);rintro _ _ ⟨n7,rfl,rfl⟩;refine Aw (Le U U sizeOf206) U Ac ?_;rintro _ _ ⟨rfl,rfl⟩;refine rO tb 3 U (Bh 17 [(0,true),(1,true),(2,true),(3,true),(5,true),(6,true),(7,true),(8,true),(10,true),(11,true),(4,false),(9,false),(12,true),(13,true),(14,true),(15,true),(16,true)] _ mixd qkr sb0 ?_ A8);refine rP tb 1 U (o_y U (Lb U isAgg27 qco) ?_ U Ac);refine rP tb 1 U (o_y U (Lb U isAgg27 qco) ?_ U Ac);refine rP tb 1 U (o_y U (Lb U isAgg27 qco) ?_ U Ac);refine rP tb 1 U (o_y U (Lb U isAgg27 qco) ?_ U Ac);refine rP tb 1 U (o_y U (Lb U isAgg4 qco) ?_ U Ac);refine o_e U (Ak (qe2 U U) call171 (Hn E1.pe.first E1.q1 E1.c1 (hE1b.a1.mono sbt) hE1b.k1 E2.pe.first E2.q1 E2.c1 (hE2.a1.mono sbt) qom)) ?_ U Ac;rintro _ _ ⟨q5,c5,M5,⟨rfl,hc5,hA5⟩,rfl⟩;refine⟨sbt,(o_e U (Ak (qe2 U U) call171 (Hn E1.pe.last E1.q2 E1.c2 (hE1b.a2.mono sbt) hE1b.k2 E2.pe.last E2.q2 E2.c2 (hE2.a2.mono sbt) qom)) ?_ U Ac)⟩;rintro _ _ ⟨q6,c6,M6,⟨rfl,hc6,hA6⟩,rfl⟩;refine⟨sbt,(rP tb 1 U ?_)⟩
   first|refine Cd (s:=76) (Aa U) (fun c76=> ?_) (fun c76=> ?_)|refine K7 (s:=76) (Aa U) (fun c76=> ?_) (fun c76=> ?_)
   ·refine rP tb 3 U (o_y U (A0 (.cons (T U) (.cons (T U) (.cons (T U) .nil))) (Eb _ _ _ _ _ _ _)) (A7 U ?_) U Ac);refine Aw (Le U U sizeOf206) U Ac ?_;rintro _ _ ⟨rfl,rfl⟩;refine kO tb 2 [4] rfl U (rG tb 3 U (Ah U (.cellA (Aa U) isAgg206 sizeOf206 U qcs .nil) ?_));exact⟨_,⟨(f1,f2,t2,⟨⟨mergeF E1.pe.first E2.pe.first,mergeF E1.pe.last E2.pe.last,_⟩,q5,c5,q6,c6⟩,M6++(M5++(M2++M1))),⟨rfl,ho3,ho4,RdOk.alt hr1 hr2 hc5 hA5 hc6 hA6 (by simp[c76])⟩,rfl⟩,by simp only[List.append_assoc];exact sbt⟩
   ·refine rP tb 1 U (o_y U (Lb U isAgg4 qco) ?_ U (Az U U (Aa U)));refine rP tb 1 U (o_y U (A0 (.cons (T U) (.cons (T U) (.cons (T U) .nil))) (Eb _ _ _ _ _ _ _)) (A7 U ?_) U Ac);refine Aw (Le U U sizeOf206) U Ac ?_;rintro _ _ ⟨rfl,rfl⟩;refine kO tb 2 [4] rfl U (rG tb 3 U (Ah U (.cellA (Aa U) isAgg206 sizeOf206 U qcs .nil) ?_));exact⟨_,⟨(f1,f2,t2,⟨⟨mergeF E1.pe.first E2.pe.first,mergeF E1.pe.last E2.pe.last,_⟩,q5,c5,q6,c6⟩,M6++(M5++(M2++M1))),⟨rfl,ho3,ho4,RdOk.alt hr1 hr2 hc5 hA5 hc6 hA6 (by simp[c76])⟩,rfl⟩,by simp only[List.append_assoc];exact sbt⟩
end Go.Proofs.YtpkijiejccngcaaGreatDoor
