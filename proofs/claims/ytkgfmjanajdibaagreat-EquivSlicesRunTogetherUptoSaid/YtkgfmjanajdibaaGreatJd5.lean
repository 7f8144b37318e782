/-
  A part of what LawD rests on: the logic, walks and plain laws. No condition.
-/
import Derived.Test.YtkgfmjanajdibaaGreatJd4
namespace Go.Proofs.YtkgfmjanajdibaaGreat
open _root_.Go.Proofs.Tryz
open Go.RowKit
set_option linter.unusedVariables false
set_option linter.unusedSimpArgs false
set_option linter.unusedSectionVars false
set_option maxRecDepth 100000
section
variable {fl:List Fd} {m:Pdm} {p:Pd}
theorem inv1 (hI:IsP fl m p)(hk:m.kind=1):p= .tru:=by cases hI<;>first|rfl|omega
theorem inv2 (hI:IsP fl m p)(hk:m.kind=2):p= .fls:=by cases hI<;>first|rfl|omega
theorem inv9 (hI:IsP fl m p)(hk:m.kind=9):p= .time m.val m.to:=by
 cases hI with
 |tim _ h1 h2=>rw[h1,h2]
 |_=>omega
theorem inv6 (hI:IsP fl m p)(hk:m.kind=6):∃ x,0<m.subs.length∧p= .no x∧IsP fl (gd m.subs 0) x:=by
 cases hI with
 |no _ h1 h2=>rw[h1];exact⟨_,Nat.zero_lt_one,rfl,h2⟩
 |_=>omega
theorem inv7 (hI:IsP fl m p)(hk:m.kind=7):∃ x y,1<m.subs.length∧p= .and x y∧IsP fl (gd m.subs 0) x∧IsP fl (gd m.subs 1) y:=by
 cases hI with
 |and _ h1 h2 h3=>rw[h1];exact⟨_,_,Nat.lt_succ_self _,rfl,h2,h3⟩
 |_=>omega
theorem inv8 (hI:IsP fl m p)(hk:m.kind=8):∃ x y,1<m.subs.length∧p= .or x y∧IsP fl (gd m.subs 0) x∧IsP fl (gd m.subs 1) y:=by
 cases hI with
 |or _ h1 h2 h3=>rw[h1];exact⟨_,_,Nat.lt_succ_self _,rfl,h2,h3⟩
 |_=>omega
theorem inv3 (hI:IsP fl m p)(hk:m.kind=3):∃ n:Nat,m.val=n∧p= .eq (fndFd fl m.nm).1 n:=by
 cases hI with
 |eq _ h1=>exact⟨_,h1,rfl⟩
 |_=>omega
theorem inv4 (hI:IsP fl m p)(hk:m.kind=4):∃ n k:Nat,m.val=n∧m.to=k∧p= .pre (fndFd fl m.nm).1 n k:=by
 cases hI with
 |pre _ h1 h2=>exact⟨_,_,h1,h2,rfl⟩
 |_=>omega
theorem inv5 (hI:IsP fl m p)(h1: ¬ m.kind=1)(h2: ¬ m.kind=2)(h3: ¬ m.kind=3)(h4: ¬ m.kind=4)(h6: ¬ m.kind=6)(h7: ¬ m.kind=7)(h8: ¬ m.kind=8)(h9: ¬ m.kind=9):∃ n k:Nat,m.val=n∧m.to=k∧p= .rng (fndFd fl m.nm).1 n k:=by
 cases hI with
 |rng _ h1 h2=>exact⟨_,_,h1,h2,rfl⟩
 |_=>omega
theorem invF {bs:List Nat}(hI:IsP fl m p)(hF:p.Fit bs)(h1: ¬ m.kind=1)(h2: ¬ m.kind=2)(h6: ¬ m.kind=6)(h7: ¬ m.kind=7)(h8: ¬ m.kind=8)(h9: ¬ m.kind=9):FdOk (fndFd fl m.nm).1:=by
 cases hI with
 |eq _ _=>exact hF.1.ok
 |pre _ _ _=>exact hF.1.ok
 |rng _ _ _=>exact hF.1.ok
 |_=>omega
end
theorem yl_subV {P:Program}{w0:World}{L:Fm}{H:List (Nat × Obj)}{ty xt yt:TypeId}{x y:Operand}{a c:Nat}{v:Int}(hx:Ev L x (.int .i64 (a:Nat)))(hy:Ev L y (.int .i64 v))(hv:v=(c:Nat))(h:c≤a∧a≤1000000000):Yl P w0 (.binOp .sub xt x y yt) ty L H (.int .i64 ((a - c:Nat):Int)):=by subst hv;exact Dc hx hy h
theorem yl_quoV {P:Program}{w0:World}{L:Fm}{H:List (Nat × Obj)}{ty xt yt:TypeId}{x y:Operand}{a c:Nat}{v:Int}(hx:Ev L x (.int .i64 v))(hy:Ev L y (.int .i64 (c:Nat)))(hv:v=(a:Nat))(h:a≤1000000000∧1≤c):Yl P w0 (.binOp .quo xt x y yt) ty L H (.int .i64 ((a / c:Nat):Int)):=by subst hv;exact Dv hx hy h
def HoS (w0:World) (fl:List Fd) (q:Option Addr) (c:Nat) (tick:Int) (N:Nat):Prop:=∀ {H:List (Nat × Obj)} {m:Pdm} {p:Pd} {h:Hd},FlA w0 H q fl→PdM w0 H m→m.sz≤N→IsP fl m p→p.Fit (bsF fl)→HdOk h→FSpec Tryz.prog w0 81 #[.slice q fl.length c, .agg (encPd m).toArray, .agg (hdC h).toArray, .int .i64 tick] H (Still (.bool (holdsP tick p h)) H)
theorem yl_dbl2 {P:Program}{w0:World}{L:Fm}{H:List (Nat × Obj)}{ty xt yt:TypeId}{x y:Operand}{k:Nat}(hx:Ev L x (.int .i64 2))(hy:Ev L y (.int .i64 ((2 ^ k:Nat):Int)))(hk:k<16):Yl P w0 (.binOp .mul xt x y yt) ty L H (.int .i64 ((2 ^ (k+1):Nat):Int)):=by
 have h1:2 ^ k≤2 ^ 16:=Nat.pow_le_pow_right qom qom;have h1:2 ^ k≤65536:=h1;rw[show 2 ^ (k+1)=2*2 ^ k by rw[Nat.pow_succ,Nat.mul_comm]]
 revert hy h1
 generalize 2 ^ k=z;intro hy h1;have h:=Fe (P:=P) (w0:=w0) (H:=H) (ty:=ty) (xt:=xt) (yt:=yt) hx hy qom
 rwa [show (2:Int)*(z:Int)=((2*z:Nat):Int) by omega] at h
theorem rpow13_s {w0:World}{H:List (Nat × Obj)}(n:Nat)(hn:n≤16):
  FSpec Tryz.prog w0 128 #[.int .i64 (n:Nat)] H (Still (.int .i64 ((2 ^ n:Nat):Int)) H):=by
 refine Au Tryz.func128 U ntmps128 U (rD tb 17 U ?_);refine H5 (X:=Nat) (V:=fun k=>[(3, .int .i64 ((2 ^ k:Nat):Int)),(4, .int .i64 (k:Nat))]) (C:=[(0,_)]) (φ:=fun k=>k≤n) (μ:=fun k=>n - k) (x0:=0) ?_ ⟨Aa U,trivial⟩ ⟨atd,atd,trivial⟩ ?_
 ·exact Nat.zero_le _
 rintro k hk;refine rD tb 8 U ?_
 first|refine Ae (Aa U) (fun c7=> ?_) (fun c7=> ?_)|refine Ah (Aa U) (fun c7=> ?_) (fun c7=> ?_)
 ·have hk2:k<n:=by have h9:((k:Nat):Int)<(n:Nat):=c7;omega
  refine rC tb 6 U (y_ (yl_dbl2 An (T U) (by have h9:((k:Nat):Int)<(n:Nat):=c7;omega)) ?_ U);refine rO tb 6 U (y_ (A8 (T U) An qom) ?_ U);refine rO tb 2 U ?_;refine A6 (k+1) ?_ ?_ ⟨atd,atd,trivial⟩ ⟨Aa U,trivial⟩ ?_
  ·omega
  ·first|omega|(simp only[];omega)
  ·exact sbt
 ·obtain rfl:k=n:=by have h9: ¬ ((k:Nat):Int)<(n:Nat):=c7;omega
  refine rC tb 2 U (Ax (rX tb 9 U (Ak U (Nk U) ?_)));exact⟨_,⟨rfl,rfl⟩,sbt⟩
theorem holds_step {w0:World}{H:List (Nat × Obj)}{fl:List Fd}(hfl:FlOk fl){q:Option Addr}{c:Nat}{tick:Int}{N:Nat}(hN:N≤1000000000)(ih:HoS w0 fl q c tick N){m:Pdm}{p:Pd}{h:Hd}(hA:FlA w0 H q fl)(hM:PdM w0 H m)(hm:m.sz≤N+1)(hI:IsP fl m p)(hF:p.Fit (bsF fl))(hh:HdOk h):
  FSpec Tryz.prog w0 81 #[.slice q fl.length c, .agg (encPd m).toArray, .agg (hdC h).toArray, .int .i64 tick] H (Still (.bool (holdsP tick p h)) H):=by
 refine Au Tryz.func81 U ntmps81 U ?_;have hsz:=Hl m;have hfew:=hfl.few;refine rD tb 2 U (e_ (Nr U cs_) ?_ U);rintro _ _ ⟨n5,rfl,rfl⟩;refine e_ (Nr U cs_) ?_ U;rintro _ _ ⟨n6,rfl,rfl⟩;refine rO tb 7 U (y_ (Nl U isAgg3 (by first|exact c_o)) ?_ U);refine rO tb 9 U ?_
 first|refine Ae (Aa U) (fun c19=> ?_) (fun c19=> ?_)|refine Ah (Aa U) (fun c19=> ?_) (fun c19=> ?_)
 ·obtain rfl:=inv1 hI c19;refine rC tb 8 U (Ak U (Nk U) ?_)
  first|exact⟨_,⟨rfl,rfl⟩,by exact sbt⟩|(refine⟨_,⟨congrArg Value.bool ?_,rfl⟩,by exact sbt⟩;simp only[holdsP];rw[Bool.eq_iff_iff];simp only[Bool.and_eq_true,Bool.or_eq_true,decide_eq_true_eq,beq_iff_eq,Bool.false_eq_true,true_and,false_and];all_goals omega)
 ·skip
  refine rC tb 6 U ?_
  first|refine Ae (Aa U) (fun c21=> ?_) (fun c21=> ?_)|refine Ah (Aa U) (fun c21=> ?_) (fun c21=> ?_)
  ·obtain rfl:=inv2 hI c21;refine rC tb 8 U (Ak U (Nk U) ?_)
   first|exact⟨_,⟨rfl,rfl⟩,by exact sbt⟩|(refine⟨_,⟨congrArg Value.bool ?_,rfl⟩,by exact sbt⟩;simp only[holdsP];rw[Bool.eq_iff_iff];simp only[Bool.and_eq_true,Bool.or_eq_true,decide_eq_true_eq,beq_iff_eq,Bool.false_eq_true,true_and,false_and];all_goals omega)
  ·skip
   refine rC tb 6 U ?_
   first|refine Ae (Aa U) (fun c23=> ?_) (fun c23=> ?_)|refine Ah (Aa U) (fun c23=> ?_) (fun c23=> ?_)
   ·obtain rfl:=inv9 hI c23;refine rC tb 3 U (y_ (Nl U isAgg3 (by first|exact c_o)) ?_ U);refine rO tb 3 U ?_
    first|refine Av (s:=29) (Aa U) (fun c29=> ?_) (fun c29=> ?_)|refine A7 (s:=29) (Aa U) (fun c29=> ?_) (fun c29=> ?_)
    ·refine rO tb 2 U (A9 (Nl U isAgg3 (by first|exact c_o)) U (Bg U U (Aa U)) ?_);refine rO tb 8 U (Ak U (Nk U) ?_)
     first|exact⟨_,⟨rfl,rfl⟩,by exact sbt⟩|(refine⟨_,⟨congrArg Value.bool ?_,rfl⟩,by exact sbt⟩;simp only[holdsP];rw[Bool.eq_iff_iff];simp only[Bool.and_eq_true,Bool.or_eq_true,decide_eq_true_eq,beq_iff_eq,Bool.false_eq_true,true_and,false_and];all_goals omega)
    ·refine rO tb 11 U (Ak U (Nk U) ?_);exact⟨_,⟨congrArg Value.bool (by rw[holdsP,decide_eq_false c29,Bool.false_and]),rfl⟩,by exact sbt⟩
   ·skip
    refine rC tb 6 U ?_
    first|refine Ae (Aa U) (fun c35=> ?_) (fun c35=> ?_)|refine Ah (Aa U) (fun c35=> ?_) (fun c35=> ?_)
    ·obtain⟨x6,hl0,rfl,hx⟩:=inv6 hI c35;have hF:x6.Fit (bsF fl):=hF;refine rC tb 1 U (Bk 10 [(0,true),(1,true),(2,true),(3,true),(4,true),(5,true),(6,true),(7,true),(8,true),(9,true)] _ mixd qkr sb0 ?_ Bp);refine rP tb 2 U (o_y U (Nl U isAgg23 (by first|exact c_o)) ?_ U Ac);refine o_y U (Cx (T U) An runUnderlying23 sizeOf25 qom (by first|exact rfl|exact hM.arr.b (i:=0) qom|exact hM.arr.b (i:=1) qom)) ?_ U Ac;refine o_y U (Nn U isAgg25 sizeOf25 U (by first|exact(hM.arr.mono (by exact sbt)).cs (i:=0) qom|exact As)) ?_ U Ac;refine o_y U (Nn U isAgg32 sizeOf32 (Aj hh) (by first|exact As)) ?_ U Ac;refine rP tb 1 U (o_y U (Aw (qe4 U U U U) call81 (fun H' hs=>ih (hA.mono (List.Sublist.trans (by exact sbt) hs)) ((hM.sub (Ba qom)).mono (List.Sublist.trans (by exact sbt) hs)) (by have:=Ey (Ba (l:=m.subs) (i:=0) qom);omega) hx hF hh)) ?_ U Ac)
     first|refine o_y U (B5 (T U)) ?_ U Ac|refine o_y U (B1 (T U)) ?_ U Ac
     refine rP tb 1 U (A4 U (rO tb 5 U (Ak U (Nk U) ?_)))
     first|exact⟨_,⟨rfl,rfl⟩,by exact sbt⟩|(refine⟨_,⟨congrArg Value.bool ?_,rfl⟩,by exact sbt⟩;simp only[holdsP];rw[Bool.eq_iff_iff];simp only[Bool.and_eq_true,Bool.or_eq_true,decide_eq_true_eq,beq_iff_eq,Bool.false_eq_true,true_and,false_and];all_goals omega)
    ·skip
     refine rC tb 6 U ?_
     first|refine Ae (Aa U) (fun c46=> ?_) (fun c46=> ?_)|refine Ah (Aa U) (fun c46=> ?_) (fun c46=> ?_)
     ·obtain⟨x7,y7,hl0,rfl,hx,hy⟩:=inv7 hI c46;have hF:x7.Fit (bsF fl)∧y7.Fit (bsF fl):=hF;refine rC tb 1 U (Bk 9 [(0,true),(1,true),(2,true),(3,true),(4,true),(5,true),(6,true),(7,true),(8,true)] _ mixd qkr sb0 ?_ Bp);refine rP tb 2 U (o_y U (Nl U isAgg23 (by first|exact c_o)) ?_ U Ac);refine o_y U (Cx (T U) An runUnderlying23 sizeOf25 qom (by first|exact rfl|exact hM.arr.b (i:=0) qom|exact hM.arr.b (i:=1) qom)) ?_ U Ac;refine o_y U (Nn U isAgg25 sizeOf25 U (by first|exact(hM.arr.mono (by exact sbt)).cs (i:=0) qom|exact As)) ?_ U Ac;refine o_y U (Nn U isAgg32 sizeOf32 (Aj hh) (by first|exact As)) ?_ U Ac;refine rP tb 1 U (o_y U (Aw (qe4 U U U U) call81 (fun H' hs=>ih (hA.mono (List.Sublist.trans (by exact sbt) hs)) ((hM.sub (Ba qom)).mono (List.Sublist.trans (by exact sbt) hs)) (by have:=Ey (Ba (l:=m.subs) (i:=0) qom);omega) hx hF.1 hh)) ?_ U Ac);refine rP tb 1 U (A4 U (rO tb 3 U (Bk 9 [(0,true),(1,true),(2,true),(3,true),(4,true),(5,true),(6,true),(7,true),(8,true)] _ mixd qkr sb0 ?_ Bp)));refine rP tb 2 U (o_y U (Nl U isAgg23 (by first|exact c_o)) ?_ U Ac);refine o_y U (Cx (T U) An runUnderlying23 sizeOf25 qom (by first|exact rfl|exact hM.arr.b (i:=0) qom|exact hM.arr.b (i:=1) qom)) ?_ U Ac;refine o_y U (Nn U isAgg25 sizeOf25 U (by first|exact(hM.arr.mono (by exact sbt)).cs (i:=1) qom|exact As)) ?_ U Ac;refine o_y U (Nn U isAgg32 sizeOf32 (Aj hh) (by first|exact As)) ?_ U Ac;refine rP tb 1 U (o_y U (Aw (qe4 U U U U) call81 (fun H' hs=>ih (hA.mono (List.Sublist.trans (by exact sbt) hs)) ((hM.sub (Ba qom)).mono (List.Sublist.trans (by exact sbt) hs)) (by have:=Ey (Ba (l:=m.subs) (i:=1) qom);omega) hy hF.2 hh)) ?_ U Ac);refine rP tb 1 U (A4 U (kO tb 2 [9,10] rfl U (rG tb 4 U ?_)))
      first|refine Av (s:=65) (Aa U) (fun c65=> ?_) (fun c65=> ?_)|refine A7 (s:=65) (Aa U) (fun c65=> ?_) (fun c65=> ?_)
      ·refine rO tb 8 U (Ak U (Nk U) ?_);exact⟨_,⟨congrArg Value.bool (by simp only[holdsP,c65,Bool.true_and]),rfl⟩,by exact sbt⟩
      ·refine rO tb 8 U (Ak U (Nk U) ?_);exact⟨_,⟨congrArg Value.bool (by simp only[holdsP,c65,Bool.false_and]),rfl⟩,by exact sbt⟩
     ·skip
      refine rC tb 6 U ?_
      first|refine Ae (Aa U) (fun c68=> ?_) (fun c68=> ?_)|refine Ah (Aa U) (fun c68=> ?_) (fun c68=> ?_)
      ·obtain⟨x8,y8,hl0,rfl,hx,hy⟩:=inv8 hI c68;have hF:x8.Fit (bsF fl)∧y8.Fit (bsF fl):=hF;refine rC tb 1 U (Bk 9 [(0,true),(1,true),(2,true),(3,true),(4,true),(5,true),(6,true),(7,true),(8,true)] _ mixd qkr sb0 ?_ Bp);refine rP tb 2 U (o_y U (Nl U isAgg23 (by first|exact c_o)) ?_ U Ac);refine o_y U (Cx (T U) An runUnderlying23 sizeOf25 qom (by first|exact rfl|exact hM.arr.b (i:=0) qom|exact hM.arr.b (i:=1) qom)) ?_ U Ac;refine o_y U (Nn U isAgg25 sizeOf25 U (by first|exact(hM.arr.mono (by exact sbt)).cs (i:=0) qom|exact As)) ?_ U Ac;refine o_y U (Nn U isAgg32 sizeOf32 (Aj hh) (by first|exact As)) ?_ U Ac;refine rP tb 1 U (o_y U (Aw (qe4 U U U U) call81 (fun H' hs=>ih (hA.mono (List.Sublist.trans (by exact sbt) hs)) ((hM.sub (Ba qom)).mono (List.Sublist.trans (by exact sbt) hs)) (by have:=Ey (Ba (l:=m.subs) (i:=0) qom);omega) hx hF.1 hh)) ?_ U Ac);refine rP tb 1 U (A4 U (rO tb 3 U (Bk 9 [(0,true),(1,true),(2,true),(3,true),(4,true),(5,true),(6,true),(7,true),(8,true)] _ mixd qkr sb0 ?_ Bp)));refine rP tb 2 U (o_y U (Nl U isAgg23 (by first|exact c_o)) ?_ U Ac);refine o_y U (Cx (T U) An runUnderlying23 sizeOf25 qom (by first|exact rfl|exact hM.arr.b (i:=0) qom|exact hM.arr.b (i:=1) qom)) ?_ U Ac;refine o_y U (Nn U isAgg25 sizeOf25 U (by first|exact(hM.arr.mono (by exact sbt)).cs (i:=1) qom|exact As)) ?_ U Ac;refine o_y U (Nn U isAgg32 sizeOf32 (Aj hh) (by first|exact As)) ?_ U Ac;refine rP tb 1 U (o_y U (Aw (qe4 U U U U) call81 (fun H' hs=>ih (hA.mono (List.Sublist.trans (by exact sbt) hs)) ((hM.sub (Ba qom)).mono (List.Sublist.trans (by exact sbt) hs)) (by have:=Ey (Ba (l:=m.subs) (i:=1) qom);omega) hy hF.2 hh)) ?_ U Ac);refine rP tb 1 U (A4 U (kO tb 2 [11,12] rfl U (rG tb 4 U ?_)))
       first|refine Av (s:=87) (Aa U) (fun c87=> ?_) (fun c87=> ?_)|refine A7 (s:=87) (Aa U) (fun c87=> ?_) (fun c87=> ?_)
       ·refine rO tb 8 U (Ak U (Nk U) ?_);exact⟨_,⟨congrArg Value.bool (by simp only[holdsP,c87,Bool.true_or]),rfl⟩,by exact sbt⟩
       ·refine rO tb 8 U (Ak U (Nk U) ?_);exact⟨_,⟨congrArg Value.bool (by simp only[holdsP,c87,Bool.false_or]),rfl⟩,by exact sbt⟩
      ·have hfd:=invF hI hF c19 c21 c35 c46 c68 c23;have hpw:2 ^ (fndFd fl m.nm).1.w≤2 ^ 16:=Nat.pow_le_pow_right qom hfd.w16;have hpw:2 ^ (fndFd fl m.nm).1.w≤65536:=hpw;refine rC tb 7 U (y_ (Nl U isAgg9 (by first|exact c_o)) ?_ U);refine y_ (Aw (qe2 U U) call82 (fun H' hs=>Ha fl q c (hA.mono (List.Sublist.trans (by exact sbt) hs)) qom m.nm)) ?_ U;refine rO tb 3 U (e_ (Ai zeroValue127 cs_) ?_ U);rintro _ _ ⟨n13,rfl,rfl⟩
       first|refine A5 (Nq U U sizeOf127) U Ac ?_
       rintro _ _ ⟨rfl,rfl⟩;refine rO tb 5 U (y_ (Nn U isAgg127 sizeOf127 U (by first|exact As)) ?_ U);refine y_ (Nn U isAgg32 sizeOf32 (Aj hh) (by first|exact As)) ?_ U;refine y_ (Aw (qe2 U U) call113 (fun H' hs=>rget_s (fndFd fl m.nm).1 hfd h hh)) (kO tb 3 [5,13,15] rfl U (rG tb 4 U (y_ (Nl U isAgg3 (by first|exact c_o)) ?_ U))) U;refine rO tb 9 U ?_
       first|refine Ae (Aa U) (fun c102=> ?_) (fun c102=> ?_)|refine Ah (Aa U) (fun c102=> ?_) (fun c102=> ?_)
       ·obtain⟨n3,hva,rfl⟩:=inv3 hI c102;refine rC tb 4 U (y_ (Nl U isAgg3 (by first|exact c_o)) ?_ U);refine rO tb 7 U (Ak U (Nk U) ?_)
        first|exact⟨_,⟨rfl,rfl⟩,by exact sbt⟩|(refine⟨_,⟨congrArg Value.bool ?_,rfl⟩,by exact sbt⟩;simp only[holdsP];rw[Bool.eq_iff_iff];simp only[Bool.and_eq_true,Bool.or_eq_true,decide_eq_true_eq,beq_iff_eq,Bool.false_eq_true,true_and,false_and];all_goals omega)
       ·skip
        refine rC tb 6 U ?_
        first|refine Ae (Aa U) (fun c108=> ?_) (fun c108=> ?_)|refine Ah (Aa U) (fun c108=> ?_) (fun c108=> ?_)
        ·obtain⟨n4,k4,hva,hto,rfl⟩:=inv4 hI c108;have hF:FIn (bsF fl) (fndFd fl m.nm).1∧n4<2 ^ (fndFd fl m.nm).1.w∧k4≤(fndFd fl m.nm).1.w:=hF;have hkw:k4≤(fndFd fl m.nm).1.w∧(fndFd fl m.nm).1.w≤1000000000:=⟨hF.2.2,by have:=hfd.w16;omega⟩;refine rC tb 3 U (y_ (Nl U isAgg3 (by first|exact c_o)) ?_ U);refine rO tb 1 U (y_ (Nl U isAgg3 (by first|exact c_o)) ?_ U);refine y_ (yl_subV (c:=k4) (T U) (T U) hto hkw) (y_ (Aw (qe1 U) call128 (fun H' hs=>rpow13_s ((fndFd fl m.nm).1.w - k4) (by have:=hfd.w16;omega))) ?_ U) U;refine rO tb 4 U (Bk 9 [(0,true),(1,true),(2,true),(3,true),(4,true),(5,true),(6,true),(7,true),(8,true)] _ mixd qkr sb0 ?_ Bp);refine rP tb 2 U (o_y U (Dv (T U) (T U) (by have:=Nat.two_pow_pos ((fndFd fl m.nm).1.w - k4);have:=fget_lt (fndFd fl m.nm).1 h;omega)) ?_ U Ac);refine rP tb 1 U (o_y U (Nl U isAgg3 (by first|exact c_o)) ?_ U Ac);refine rP tb 1 U (o_y U (yl_quoV (T U) (T U) hva (by have:=Nat.two_pow_pos ((fndFd fl m.nm).1.w - k4);omega)) ?_ U Ac);refine rP tb 2 U (A4 U (rO tb 5 U (Ak U (Nk U) ?_)))
         first|exact⟨_,⟨rfl,rfl⟩,by exact sbt⟩|(refine⟨_,⟨congrArg Value.bool ?_,rfl⟩,by exact sbt⟩;simp only[holdsP];rw[Bool.eq_iff_iff];simp only[Bool.and_eq_true,Bool.or_eq_true,decide_eq_true_eq,beq_iff_eq,Bool.false_eq_true,true_and,false_and];all_goals omega)
        ·obtain⟨n5,k5,hva,hto,rfl⟩:=inv5 hI c19 c21 c102 c108 c35 c46 c68 c23;refine rC tb 6 U (y_ (Nl U isAgg3 (by first|exact c_o)) ?_ U);refine rO tb 3 U ?_
         first|refine Av (s:=128) (Aa U) (fun c128=> ?_) (fun c128=> ?_)|refine A7 (s:=128) (Aa U) (fun c128=> ?_) (fun c128=> ?_)
         ·refine rO tb 2 U (A9 (Nl U isAgg3 (by first|exact c_o)) U (Bg U U (Aa U)) ?_);refine rO tb 6 U (Ak U (Nk U) ?_)
          first|exact⟨_,⟨rfl,rfl⟩,by exact sbt⟩|(refine⟨_,⟨congrArg Value.bool ?_,rfl⟩,by exact sbt⟩;simp only[holdsP];rw[Bool.eq_iff_iff];simp only[Bool.and_eq_true,Bool.or_eq_true,decide_eq_true_eq,beq_iff_eq,Bool.false_eq_true,true_and,false_and];all_goals omega)
         ·refine rO tb 9 U (Ak U (Nk U) ?_);exact⟨_,⟨congrArg Value.bool (by rw[holdsP,decide_eq_false (show ¬ n5≤fget (fndFd fl m.nm).1 h by omega),Bool.false_and]),rfl⟩,by exact sbt⟩
theorem holds_s {w0:World}{fl:List Fd}(hfl:FlOk fl){q:Option Addr}{c:Nat}{tick:Int}(N:Nat)(hN:N≤1000000000):HoS w0 fl q c tick N:=by
 induction N with
 |zero=>intro H m p h _ _ h3;have:=Hl m;omega
 |succ N ih=>
  have ih:HoS w0 fl q c tick N:=ih qom;intro H m p h hA hM hm hI hF hh;exact holds_step hfl qom ih hA hM hm hI hF hh
def SetIs (w0:World) (P:Hd→Prop) (H:List (Nat × Obj)) (l:List Hd) (q:Option Addr) (c:Nat):Prop:=HsA w0 H l q c∧l.Pairwise hLt∧(∀ g,g∈l↔P g)∧l.length≤256
abbrev EvK13 (w0:World) (P:Hd→Prop) (H:List (Nat × Obj)):Value→List (Nat × Obj)→Prop:=fun u H'=>∃ (l:List Hd) (q:Option Addr) (c:Nat) (e:Int),u= .tuple #[.slice q l.length c, .int .i64 e]∧((e=0→SetIs w0 P H' l q c)∧0≤e∧e≤2)∧H.Sublist H'
def EvS13 (w0:World) (fl:List Fd) (q:Option Addr) (c:Nat) (tick:Int) (N:Nat):Prop:=∀ {H:List (Nat × Obj)} {m:Pom} {p:Po} {h:Hd},FlA w0 H q fl→PoM w0 H m→m.sz≤N→IsO fl m p→p.Fit (bsF fl)→HdOk h→FSpec Tryz.prog w0 35 #[.slice q fl.length c, .agg (encPo m).toArray, .agg (hdC h).toArray, .int .i64 tick] H (EvK13 w0 (den tick p h) H)
theorem hs_nil {w0:World}{H:List (Nat × Obj)}:HsA w0 H [] none 0:=⟨fun i u hi=>by simp at hi,fun x hx=>by simp at hx,Nat.le_refl _⟩
theorem image_s {w0:World}{H:List (Nat × Obj)}{fl:List Fd}(hfl:FlOk fl){q:Option Addr}{c:Nat}{tick:Int}{N:Nat}(ih:EvS13 w0 fl q c tick N){m:Pom}{p:Po}(hA:FlA w0 H q fl)(hM:PoM w0 H m)(hm:m.sz≤N)(hI:IsO fl m p)(hF:p.Fit (bsF fl))(hl:List Hd)(qh:Option Addr)(ch:Nat)(hB:HsA w0 H hl qh ch)(hlen:hl.length≤1000):
  FSpec Tryz.prog w0 85 #[.slice q fl.length c, .agg (encPo m).toArray, .slice qh hl.length ch, .int .i64 tick] H (EvK13 w0 (fun g=>∃ x,x∈hl∧den tick p x g) H):=by
 refine Au Tryz.func85 U ntmps85 U (rD tb 2 U (e_ (Nr U cs_) ?_ U));rintro _ _ ⟨n5,rfl,rfl⟩;refine rO tb 16 U ?_;refine Bj (X:=Nat × List Hd × Option Addr × Nat × List (Nat × Obj)) (V:=fun ⟨k,l,ql,cl,M⟩=>[(10, .slice ql l.length cl),(11, .int .i64 (k:Nat))]) (C:=[(0,_),(2,_),(3,_),(5,_)]) (G:=fun ⟨k,l,ql,cl,M⟩=>M) (φ:=fun ⟨k,l,ql,cl,M⟩=>k≤hl.length∧HsA w0 M l ql cl∧l.Pairwise hLt∧(∀ g,g∈l↔∃ x,x∈hl.take k∧den tick p x g)∧l.length≤256∧((n5,Cl (encPo m) 28)::H).Sublist M) (μ:=fun ⟨k,l,ql,cl,M⟩=>hl.length - k) (x0:=(0,[],none,0,(n5,Cl (encPo m) 28)::H)) ?_ ⟨Aa rfl,Aa rfl,Aa rfl,Aa rfl,trivial⟩ ⟨atd,atd,trivial⟩ sb0 ?_
 ·exact⟨Nat.zero_le _,hs_nil, .nil,fun g=>by simp,by simp,sb0⟩
 rintro⟨k,l,ql,cl,M⟩ ⟨hk,hL,hul,hmm,hn,hHM⟩;refine rD tb 9 U ?_
 first|refine Ae (Aa U) (fun c17=> ?_) (fun c17=> ?_)|refine Ah (Aa U) (fun c17=> ?_) (fun c17=> ?_)
 ·have hk2:k<hl.length:=by have h9:((k:Nat):Int)<(hl.length:Nat):=c17;omega
  refine rC tb 5 U (Bk 13 [(0,true),(1,true),(2,true),(3,true),(4,true),(5,true),(6,true),(7,false),(8,true),(9,true),(10,true),(11,true),(12,true)] _ mixd qkr sb0 ?_ Bp);refine rP tb 1 U (o_y U (Nn U isAgg28 sizeOf28 U (by first|exact Af (Fnd.mono Am hHM)|exact As)) ?_ U Ac);refine rP tb 2 U (o_y U (Np U U runUnderlying58 sizeOf32 qom (by first|exact rfl|exact hB.1.b (i:=k) qom)) ?_ U Ac);refine o_y U (Nn U isAgg32 sizeOf32 (Aj (hB.ok (k:=k) qom)) (by first|exact((hB.mono ((List.sublist_cons_self _ _).trans hHM)).hd).cs (i:=k) qom|exact As)) ?_ U Ac;refine rP tb 1 U (o_e U (Al (qe4 U U U U) call35 (ih (hA.mono ((List.sublist_cons_self _ _).trans hHM)) (hM.mono ((List.sublist_cons_self _ _).trans hHM)) hm hI hF (hB.ok (k:=k) hk2))) ?_ U Ac);rintro _ M2 ⟨l2,q2,c2,e2,rfl,⟨he2,ge2⟩,hM2⟩;refine⟨(by assumption),?_⟩;refine rP tb 5 U (A4 U (rO tb 9 U ?_))
  first|refine Ae (Aa U) (fun c32=> ?_) (fun c32=> ?_)|refine Ah (Aa U) (fun c32=> ?_) (fun c32=> ?_)
  ·skip
   refine rC tb 11 U (Bc (rX tb 2 U (Ak U (.tmp (Aa U) (Nk U)) ?_)));exact⟨_,⟨[],none,0,e2,rfl,⟨fun h9=>absurd h9 c32,ge2⟩,((List.sublist_cons_self _ _).trans hHM).trans hM2⟩,sb0⟩
  ·have hZ2:=he2 (Classical.not_not.1 c32);refine rC tb 6 U (e_ (Al (qe2 U U) call37 (Js l l2 ql q2 cl c2 (hL.mono hM2) hul hZ2.1 qom (by have:=hZ2.2.2.2;omega))) ?_ U);rintro _ M3 ⟨l3,q3,c3,rfl,hL3,hul3,⟨hm3,hn3⟩,hM3⟩;refine kO tb 10 [0,2,3,5,10,11,39] rfl U ?_
   first|refine Ae (Aa U) (fun c39=> ?_) (fun c39=> ?_)|refine Ah (Aa U) (fun c39=> ?_) (fun c39=> ?_)
   ·skip
    refine rC tb 9 U (Bc (rX tb 2 U (Ak U (.tmp (Aa U) (Nk U)) ?_)));exact⟨_,⟨[],none,0,2,rfl,⟨fun h9=>absurd h9 qde,by decide⟩,((List.sublist_cons_self _ _).trans hHM).trans (hM2.trans hM3)⟩,sb0⟩
   ·have hz3:l3.length≤256:=by have h9: ¬ ((l3.length:Nat):Int)>256:=c39;omega
    refine rC tb 5 U (y_ (A8 (T U) An qom) ?_ U);refine rO tb 2 U ?_;refine A6 ((k+1,l3,q3,c3,M3)) ?_ ?_ ⟨atd,atd,trivial⟩ ⟨Aa U,Aa U,Aa U,Aa U,trivial⟩ ?_
    ·refine⟨hk2,hL3,hul3,fun g=> ?_,hz3,hHM.trans (hM2.trans hM3)⟩;rw[hm3,hmm,hZ2.2.2.1,List.take_succ_eq_append_getElem hk2,← Az hk2]
     constructor
     ·rintro(⟨x,h1,h2⟩|h2)
      ·exact⟨x,List.mem_append.2 (.inl h1),h2⟩
      ·exact⟨_,List.mem_append.2 (.inr (List.mem_singleton.2 U)),h2⟩
     ·rintro⟨x,h1,h2⟩;rcases List.mem_append.1 h1 with h1|h1
      ·exact .inl ⟨x,h1,h2⟩
      ·rw[List.mem_singleton.1 h1] at h2;exact .inr h2
    ·first|omega|(simp only[];omega)
    ·exact sbt
 ·obtain rfl:k=hl.length:=by have h9: ¬ ((k:Nat):Int)<(hl.length:Nat):=c17;omega
  refine rC tb 2 U (Ax (rX tb 10 U (Ak U (.tmp (Aa U) (Nk U)) ?_)));exact⟨_,⟨l,ql,cl,0,rfl,⟨fun _=>⟨hL,hul,by rw[List.take_length] at hmm;exact hmm,hn⟩,Int.le_refl _,by decide⟩,((List.sublist_cons_self _ _).trans hHM)⟩,sb0⟩
theorem Gw {α:Type}:∀ {l m:List α},l.Nodup→(∀ x∈l,x∈m)→l.length≤m.length
 |[],m,_,_=>Nat.zero_le _
 |x::l,m,hn,hs=>by
  obtain⟨m1,m2,rfl⟩:=List.append_of_mem (hs x (by simp));obtain⟨hx,hn⟩:=List.nodup_cons.1 hn;have:=Gw (m:=m1++m2) hn fun y hy=>by
   have h1:=hs y (List.mem_cons_of_mem _ hy);simp only[List.mem_append,List.mem_cons] at h1 ⊢;rcases h1 with h1|rfl|h1
   ·exact .inl h1
   ·exact(hx hy).elim
   ·exact .inr h1
  simp only[List.length_append,List.length_cons] at this ⊢;omega
theorem up_nodup {l:List Hd}(h:l.Pairwise hLt):l.Nodup:=h.imp fun h e=>by subst e;exact h.irr
def frN (o l:List Hd) (j:Nat):List Hd:=(l.take j).filter fun x=> !decide (x∈o)
theorem frN_yes {o l:List Hd}{j:Nat}(hj:j<l.length)(h:gd l j∉o):frN o l (j+1)=frN o l j++[gd l j]:=by
 unfold frN;rw[List.take_succ_eq_append_getElem hj,List.filter_append,← Az hj];simp[h]
theorem Dh {o l:List Hd}{j:Nat}(hj:j<l.length)(h:gd l j∈o):frN o l (j+1)=frN o l j:=by
 unfold frN;rw[List.take_succ_eq_append_getElem hj,List.filter_append,← Az hj];simp[h]
theorem frN_mem {o l:List Hd}{x:Hd}:x∈frN o l l.length↔x∈l∧x∉o:=by unfold frN;simp
theorem Kq (o l:List Hd)(j:Nat):(frN o l j).length≤l.length:=by unfold frN;exact Nat.le_trans (List.length_filter_le _ _) (by simp;omega)
structure ClI (D:Hd→Hd→Prop) (h:Hd) (o f:List Hd):Prop where
 up:o.Pairwise hLt
 hin:h∈o
 cl:∀ g,g∈o→Cl' D h g
 sub:∀ x∈f,x∈o
 done:∀ x,x∈o→x∈f∨∀ g,D x g→g∈o
theorem cli_end {D:Hd→Hd→Prop}{h:Hd}{o:List Hd}(h9:ClI D h o [])(g:Hd):g∈o↔Cl' D h g:=by
 have key:∀ {x y:Hd},Cl' D x y→x∈o→y∈o:=by
  intro x y a
  induction a with
  |base=>exact id
  |step b _ ih=>exact fun hx=>ih (((h9.done _ hx).resolve_left (by simp)) _ b)
 exact⟨h9.cl g,fun a=>key a h9.hin⟩
theorem cli_next {D:Hd→Hd→Prop}{h:Hd}{o f l o':List Hd}(h9:ClI D h o f)(hl:∀ g,g∈l↔∃ x,x∈f∧D x g)(hu:o'.Pairwise hLt)(ho:∀ x,x∈o'↔x∈o∨x∈frN o l l.length):ClI D h o' (frN o l l.length):=by
 refine⟨hu,(ho h).2 (.inl h9.hin),fun g hg=> ?_,fun x hx=>(ho x).2 (.inr hx),fun x hx=> ?_⟩
 ·rcases(ho g).1 hg with hg|hg
  ·exact h9.cl g hg
  ·obtain⟨x,hx,d⟩:=(hl g).1 (frN_mem.1 hg).1;exact(h9.cl x (h9.sub x hx)).trans (.one d)
 ·rcases(ho x).1 hx with hx|hx
  ·refine .inr fun g d=> ?_
   rcases h9.done x hx with hf|hf
   ·by_cases hg:g∈o
    ·exact(ho g).2 (.inl hg)
    ·exact(ho g).2 (.inr (frN_mem.2 ⟨(hl g).2 ⟨x,hf,d⟩,hg⟩))
   ·exact(ho g).2 (.inl (hf g d))
  ·exact .inl hx
theorem cli_grow {o l o':List Hd}(hu:o.Pairwise hLt)(ho:∀ x,x∈o'↔x∈o∨x∈frN o l l.length):o.length≤o'.length∧(¬ (frN o l l.length).length=0→o.length+1≤o'.length):=by
 refine⟨Gw (up_nodup hu) fun x hx=>(ho x).2 (.inl hx),fun h0=> ?_⟩
 match hf:frN o l l.length,h0 with
 |y::r,_=>
  have hy:y∈frN o l l.length:=by rw[hf];simp
  have:=Gw (l:=y::o) (m:=o') (List.nodup_cons.2 ⟨(frN_mem.1 hy).2,up_nodup hu⟩) fun x hx=>by
   rcases List.mem_cons.1 hx with rfl|hx
   ·exact(ho _).2 (.inr hy)
   ·exact(ho x).2 (.inl hx)
  simpa using this
 |[],h0=>exact absurd rfl h0
theorem L0 {w0:World}{H:List (Nat × Obj)}{n:Nat}{h:Hd}(hf:Fnd H n (Cl (hdC h) 32))(hh:HdOk h):HsA w0 H [h] (some ⟨n,0,none⟩) 1:=⟨fun j x hj=>by
 refine⟨rfl,fun k v hk=> ?_⟩
 match j,hj with
 |0,hj=>
  have:h=x:=by simpa using hj
  subst this;rw[Fp hh] at hk;exact Dy hf (by rw[show oq (some (⟨n,0,none⟩:Addr))+0*10+k=k by show 0+0*10+k=k;omega];exact hk),fun x hx=>by rw[List.mem_singleton.1 hx];exact hh,Nat.le_refl _⟩
theorem fr_ok {o l:List Hd}{j:Nat}(h:∀ x∈l,HdOk x):∀ x∈frN o l j,HdOk x:=fun x hx=>h x (List.mem_of_mem_take (List.mem_filter.1 hx).1)
abbrev ClK (w0:World) (P:Hd→Prop) (H:List (Nat × Obj)):Value→List (Nat × Obj)→Prop:=fun u H'=>∃ (l:List Hd) (q:Option Addr) (c:Nat) (r e:Int),u= .tuple #[.slice q l.length c, .int .i64 r, .int .i64 e]∧((e=0→SetIs w0 P H' l q c)∧0≤e∧e≤2)∧H.Sublist H'
theorem closure_s {w0:World}{H:List (Nat × Obj)}{fl:List Fd}(hfl:FlOk fl){q:Option Addr}{c:Nat}{tick:Int}{N:Nat}(ih:EvS13 w0 fl q c tick N){m:Pom}{p:Po}(hA:FlA w0 H q fl)(hM:PoM w0 H m)(hm:m.sz≤N)(hI:IsO fl m p)(hF:p.Fit (bsF fl)){h:Hd}(hh:HdOk h):
  FSpec Tryz.prog w0 86 #[.slice q fl.length c, .agg (encPo m).toArray, .agg (hdC h).toArray, .int .i64 tick] H (ClK w0 (Cl' (den tick p) h) H):=by
 refine Au Tryz.func86 U ntmps86 U (rD tb 2 U (e_ (Nr U cs_) ?_ U));rintro _ _ ⟨n5,rfl,rfl⟩;refine e_ (Nr U cs_) ?_ U;rintro _ _ ⟨n6,rfl,rfl⟩;refine rO tb 7 U (y_ (Nn U isAgg32 sizeOf32 (Aj hh) (by first|exact As)) ?_ U);refine e_ (Br (.cons (T U) .nil) (bs42 hh)) ?_ U;rintro _ _ ⟨n19,rfl,rfl⟩;refine rO tb 5 U (y_ (Nn U isAgg32 sizeOf32 (Aj hh) (by first|exact As)) ?_ U);refine e_ (Br (.cons (T U) .nil) (bs42 hh)) ?_ U;rintro _ _ ⟨n21,rfl,rfl⟩;refine rO tb 10 U ?_;refine Bj (X:=List Hd × Option Addr × Nat × List Hd × Option Addr × Nat × Int × List (Nat × Obj)) (V:=fun ⟨o,qo,co,f,qf,cf,r,M⟩=>[(11, .slice qo o.length co),(12, .slice qf f.length cf),(13, .int .i64 r)]) (C:=[(0,_),(3,_),(5,_)]) (G:=fun ⟨o,qo,co,f,qf,cf,r,M⟩=>M) (φ:=fun ⟨o,qo,co,f,qf,cf,r,M⟩=>ClI (den tick p) h o f∧HsA w0 M o qo co∧HsA w0 M f qf cf∧o.length≤256∧f.length≤256∧0≤r∧r+1≤o.length∧((n5,Cl (encPo m) 28)::H).Sublist M) (μ:=fun ⟨o,qo,co,f,qf,cf,r,M⟩=>2*(257 - o.length)+(if f.length=0 then 0 else 1)) (x0:=([h],some ⟨n19,0,none⟩,1,[h],some ⟨n21,0,none⟩,1,0,((n21,Cl (hdC h) 32)::(n19,Cl (hdC h) 32)::(n6,Cl (hdC h) 32)::(n5,Cl (encPo m) 28)::H))) ?_ ⟨Aa rfl,Aa rfl,Aa rfl,trivial⟩ ⟨(by first|exact Aa rfl|(refine Ag (Aa rfl) (vint ?_);omega)|(refine Ag (Aa rfl) ?_;simp;done)|(refine Ag (Aa rfl) ?_;exact(by rw[Dh hj2 hold]))),(by first|exact Aa rfl|(refine Ag (Aa rfl) (vint ?_);omega)|(refine Ag (Aa rfl) ?_;simp;done)|(refine Ag (Aa rfl) ?_;exact(by rw[Dh hj2 hold]))),(by first|exact Aa rfl|(refine Ag (Aa rfl) (vint ?_);omega)|(refine Ag (Aa rfl) ?_;simp;done)|(refine Ag (Aa rfl) ?_;exact(by rw[Dh hj2 hold]))),trivial⟩ (by exact sbt) ?_
 ·exact⟨⟨List.pairwise_singleton ..,by simp,fun g hg=>by rw[List.mem_singleton.1 hg];exact .base _,fun x hx=>hx,fun x hx=> .inl hx⟩,L0 (by repeat (first|exact Am|refine Ar ?_)) hh,L0 (by repeat (first|exact Am|refine Ar ?_)) hh,by simp,by simp,Int.le_refl _,by simp,by exact sbt⟩
 rintro⟨o,qo,co,f,qf,cf,r,M⟩ ⟨hcl,ho,hf,hon,hfn0,hr0,hr1,hHM⟩;refine rD tb 8 U ?_
 first|refine Ae (Aa U) (fun c24=> ?_) (fun c24=> ?_)|refine Ah (Aa U) (fun c24=> ?_) (fun c24=> ?_)
 ·have hf0: ¬ f.length=0:=by have h9:((f.length:Nat):Int)>0:=c24;omega
  refine rC tb 6 U (y_ (Nn U isAgg28 sizeOf28 U (by first|exact Af (Fnd.mono Am hHM)|exact As)) ?_ U);refine rO tb 2 U (e_ (Al (qe4 U U U U) call85 (image_s hfl ih (hA.mono ((List.sublist_cons_self _ _).trans hHM)) (hM.mono ((List.sublist_cons_self _ _).trans hHM)) hm hI hF f qf cf hf qom)) ?_ U);rintro _ M2 ⟨l2,q2,c2,e2,rfl,⟨he2,ge2⟩,hM2⟩;refine rO tb 14 U ?_
  first|refine Ae (Aa U) (fun c34=> ?_) (fun c34=> ?_)|refine Ah (Aa U) (fun c34=> ?_) (fun c34=> ?_)
  ·skip
   refine rC tb 11 U (Bc (rX tb 2 U (Ak U (.tmp (Aa U) (.tmp (Aa U) (Nk U))) ?_)));exact⟨_,⟨[],none,0,0,e2,rfl,⟨fun h9=>absurd h9 c34,ge2⟩,((List.sublist_cons_self _ _).trans hHM).trans hM2⟩,sb0⟩
  ·have hZ2:=he2 (Classical.not_not.1 c34);have hL2:=hZ2.1;have hl2n:=hZ2.2.2.2;refine rC tb 14 U ?_;refine Bj (X:=Nat × Sl) (V:=fun ⟨j,d⟩=>[(12,slV d (frN o l2 j).length),(16, .int .i64 (j:Nat))]) (C:=[(0,_),(3,_),(5,_),(11,_),(13,_),(14,_)]) (G:=fun ⟨j,d⟩=>slH d ((frN o l2 j).flatMap encHd) 32++M2) (φ:=fun ⟨j,d⟩=>j≤l2.length∧SlOk d (frN o l2 j).length 10) (μ:=fun ⟨j,d⟩=>l2.length - j) (x0:=(0, .nil)) ?_ ⟨Aa rfl,Aa rfl,Aa rfl,Aa rfl,Aa rfl,Aa rfl,trivial⟩ ⟨(by first|exact Aa rfl|(refine Ag (Aa rfl) (vint ?_);omega)|(refine Ag (Aa rfl) ?_;simp;done)|(refine Ag (Aa rfl) ?_;exact(by rw[Dh hj2 hold]))),(by first|exact Aa rfl|(refine Ag (Aa rfl) (vint ?_);omega)|(refine Ag (Aa rfl) ?_;simp;done)|(refine Ag (Aa rfl) ?_;exact(by rw[Dh hj2 hold]))),trivial⟩ (by exact sb0) ?_
   ·exact⟨Nat.zero_le _,rfl⟩
   rintro⟨j,d⟩ ⟨hj,hd⟩;refine rD tb 9 U ?_
   first|refine Ae (Aa U) (fun c39=> ?_) (fun c39=> ?_)|refine Ah (Aa U) (fun c39=> ?_) (fun c39=> ?_)
   ·have hj2:j<l2.length:=by have h9:((j:Nat):Int)<(l2.length:Nat):=c39;omega
    refine rC tb 9 U (y_ (Np U U runUnderlying58 sizeOf32 qom (by first|exact rfl|exact hL2.1.b (i:=j) qom)) ?_ U);refine y_ (Nn U isAgg32 sizeOf32 (Aj (hL2.ok (k:=j) qom)) (by first|exact((hL2.mono (List.sublist_append_right _ _)).hd).cs (i:=j) qom|exact As)) ?_ U;refine y_ (Aw (qe2 U U) call131 (fun H' hs=>rin_s o qo co ((ho.mono (hM2.trans (List.sublist_append_right _ _))).mono hs) (gd l2 j) (hL2.ok (k:=j) hj2) qom)) ?_ U;refine rO tb 6 U ?_
    first|refine A9 (B5 (T U)) U Ac ?_|refine A9 (B1 (T U)) U Ac ?_
    refine rO tb 2 U ?_
    first|refine Ae (Aa U) (fun c49=> ?_) (fun c49=> ?_)|refine Ah (Aa U) (fun c49=> ?_) (fun c49=> ?_)
    ·have hnew:gd l2 j∉o:=by simpa using c49
     refine rC tb 4 U (y_ (Np U U runUnderlying58 sizeOf32 qom (by first|exact rfl|exact hL2.1.b (i:=j) qom)) ?_ U);refine y_ (Nn U isAgg32 sizeOf32 (Aj (hL2.ok (k:=j) qom)) (by first|exact((hL2.mono (List.sublist_append_right _ _)).hd).cs (i:=j) qom|exact As)) ?_ U;refine e_ (Br (.cons (T U) .nil) (bs42 (hL2.ok (k:=j) hj2))) ?_ U;rintro _ _ ⟨n55,rfl,rfl⟩;rw[← Fp (hL2.ok (k:=j) hj2)];refine e_ (Cu (enc:=encHd) (d:=d) (l:=frN o l2 j) (gd l2 j) (by':=80) qlc (T U) (T U) runUnderlying58 runUnderlying58 sizeOf32 typeInfo32 U zeroValue32 U Dw (Dg _) hd qde (by have:=Kq o l2 j;omega)) ?_ U;rintro _ _ ⟨d2,rfl,hd2,rfl⟩;rw[show (frN o l2 j).length+1=(frN o l2 j++[gd l2 j]).length from (by simp)] at hd2 ⊢;rw[← frN_yes hj2 hnew] at hd2 ⊢;refine rO tb 6 U (y_ (A8 (T U) An qom) ?_ U);refine rO tb 2 U ?_;refine A6 ((j+1,d2)) ?_ ?_ ⟨(by first|exact Aa U|(refine Ag (Aa U) (vint ?_);omega)|(refine Ag (Aa U) ?_;simp;done)|(refine Ag (Aa U) ?_;exact(by rw[Dh hj2 hold]))),(by first|exact Aa U|(refine Ag (Aa U) (vint ?_);omega)|(refine Ag (Aa U) ?_;simp;done)|(refine Ag (Aa U) ?_;exact(by rw[Dh hj2 hold]))),trivial⟩ ⟨Aa U,Aa U,Aa U,Aa U,Aa U,Aa U,trivial⟩ ?_
     ·exact⟨hj2,hd2⟩
     ·first|omega|(simp only[];omega)
     ·first|(dsimp only;rw[Dh hj2 hold];exact sb0)|exact sbt
    ·have hold:gd l2 j∈o:=by simpa using c49
     refine rC tb 5 U (y_ (A8 (T U) An qom) ?_ U);refine rO tb 2 U ?_;refine A6 ((j+1,d)) ?_ ?_ ⟨(by first|exact Aa U|(refine Ag (Aa U) (vint ?_);omega)|(refine Ag (Aa U) ?_;simp;done)|(refine Ag (Aa U) ?_;exact(by rw[Dh hj2 hold]))),(by first|exact Aa U|(refine Ag (Aa U) (vint ?_);omega)|(refine Ag (Aa U) ?_;simp;done)|(refine Ag (Aa U) ?_;exact(by rw[Dh hj2 hold]))),trivial⟩ ⟨Aa U,Aa U,Aa U,Aa U,Aa U,Aa U,trivial⟩ ?_
     ·exact⟨hj2,by rw[Dh hj2 hold];exact hd⟩
     ·first|omega|(simp only[];omega)
     ·first|(dsimp only;rw[Dh hj2 hold];exact sb0)|exact sbt
   ·obtain rfl:j=l2.length:=by have h9: ¬ ((j:Nat):Int)<(l2.length:Nat):=c39;omega
    refine rC tb 2 U (Ax (rX tb 6 U (e_ (Al (qe2 U U) call37 (Js o (frN o l2 l2.length) qo (slQ d) co (slC d) (ho.mono (hM2.trans (List.sublist_append_right _ _))) hcl.up (Ll hd (fr_ok hL2.2.1)) qom (by have:=Kq o l2 l2.length;omega))) ?_ U)));rintro _ M3 ⟨l3,q3,c3,rfl,hL3,hul3,⟨hm3,hn3⟩,hM3⟩;obtain⟨hg1,hg2⟩:=cli_grow hcl.up hm3;refine rO tb 11 U ?_
    first|refine Ae (Aa U) (fun c62=> ?_) (fun c62=> ?_)|refine Ah (Aa U) (fun c62=> ?_) (fun c62=> ?_)
    ·skip
     refine rC tb 10 U (Bc (rX tb 2 U (Ak U (.tmp (Aa U) (.tmp (Aa U) (Nk U))) ?_)));exact⟨_,⟨[],none,0,0,2,rfl,⟨fun h9=>absurd h9 qde,by decide⟩,((List.sublist_cons_self _ _).trans hHM).trans (hM2.trans ((List.sublist_append_right _ _).trans hM3))⟩,sb0⟩
    ·have hz3:l3.length≤256:=by have h9: ¬ ((l3.length:Nat):Int)>256:=c62;omega
     refine rC tb 9 U ?_
     first|refine Ae (Aa U) (fun c65=> ?_) (fun c65=> ?_)|refine Ah (Aa U) (fun c65=> ?_) (fun c65=> ?_)
     ·have hfn: ¬ (frN o l2 l2.length).length=0:=by have h9:(((frN o l2 l2.length).length:Nat):Int)>0:=c65;omega
      have hg3:=hg2 hfn;refine rC tb 2 U (y_ (A8 (T U) An qom) ?_ U);refine rO tb 3 U ?_;refine A6 ((l3,q3,c3,frN o l2 l2.length,slQ d,slC d,r+1,M3)) ?_ ?_ ⟨(by first|exact Aa U|(refine Ag (Aa U) (vint ?_);omega)|(refine Ag (Aa U) ?_;simp;done)|(refine Ag (Aa U) ?_;exact(by rw[Dh hj2 hold]))),(by first|exact Aa U|(refine Ag (Aa U) (vint ?_);omega)|(refine Ag (Aa U) ?_;simp;done)|(refine Ag (Aa U) ?_;exact(by rw[Dh hj2 hold]))),(by first|exact Aa U|(refine Ag (Aa U) (vint ?_);omega)|(refine Ag (Aa U) ?_;simp;done)|(refine Ag (Aa U) ?_;exact(by rw[Dh hj2 hold]))),trivial⟩ ⟨Aa U,Aa U,Aa U,trivial⟩ ?_
      ·refine⟨cli_next hcl hZ2.2.2.1 hul3 hm3,hL3,(Ll (X:=M2) hd (fr_ok hL2.2.1)).mono hM3,hz3,by have:=Kq o l2 l2.length;omega,by omega,by omega,hHM.trans (hM2.trans ((List.sublist_append_right _ _).trans hM3))⟩
      ·dsimp only;first|(rw[if_neg hf0,if_neg hfn];omega)|(rw[if_neg hf0,if_pos hfn];omega)
      ·exact sb0
     ·have hfn:(frN o l2 l2.length).length=0:=by have h9: ¬ (((frN o l2 l2.length).length:Nat):Int)>0:=c65;omega
      refine rC tb 2 U ?_;refine A6 ((l3,q3,c3,frN o l2 l2.length,slQ d,slC d,r,M3)) ?_ ?_ ⟨(by first|exact Aa U|(refine Ag (Aa U) (vint ?_);omega)|(refine Ag (Aa U) ?_;simp;done)|(refine Ag (Aa U) ?_;exact(by rw[Dh hj2 hold]))),(by first|exact Aa U|(refine Ag (Aa U) (vint ?_);omega)|(refine Ag (Aa U) ?_;simp;done)|(refine Ag (Aa U) ?_;exact(by rw[Dh hj2 hold]))),(by first|exact Aa U|(refine Ag (Aa U) (vint ?_);omega)|(refine Ag (Aa U) ?_;simp;done)|(refine Ag (Aa U) ?_;exact(by rw[Dh hj2 hold]))),trivial⟩ ⟨Aa U,Aa U,Aa U,trivial⟩ ?_
      ·refine⟨cli_next hcl hZ2.2.2.1 hul3 hm3,hL3,(Ll (X:=M2) hd (fr_ok hL2.2.1)).mono hM3,hz3,by have:=Kq o l2 l2.length;omega,by omega,by omega,hHM.trans (hM2.trans ((List.sublist_append_right _ _).trans hM3))⟩
      ·dsimp only;first|(rw[if_neg hf0,if_neg hfn];omega)|(rw[if_neg hf0,if_pos hfn];omega)
      ·exact sb0
 ·obtain rfl:f=[]:=List.eq_nil_of_length_eq_zero (by have h9: ¬ ((f.length:Nat):Int)>0:=c24;omega);refine rC tb 2 U (Ax (rX tb 12 U (Ak U (.tmp (Aa U) (.tmp (Aa U) (Nk U))) ?_)));exact⟨_,⟨o,qo,co,r,0,rfl,⟨fun _=>⟨ho,hcl.up,cli_end hcl,hon⟩,Int.le_refl _,by decide⟩,((List.sublist_cons_self _ _).trans hHM)⟩,sb0⟩
section
variable {fl:List Fd} {m:Pom} {p:Po}
theorem oinv1 (hI:IsO fl m p)(hk:m.kind=1):∃ x,p= .fil x∧IsP fl m.pr x:=by
 cases hI with
 |fil _ h=>exact⟨_,rfl,h⟩
 |_=>omega
theorem oinv2 (hI:IsO fl m p)(hk:m.kind=2):∃ n:Nat,m.n=n∧p= .set (fndFd fl m.nm).1 n:=by
 cases hI with
 |set _ h=>exact⟨_,h,rfl⟩
 |_=>omega
theorem oinv3 (hI:IsO fl m p)(hk:m.kind=3):∃ x y,1<m.subs.length∧p= .uni x y∧IsO fl (gd m.subs 0) x∧IsO fl (gd m.subs 1) y:=by
 cases hI with
 |uni _ h1 h2 h3=>rw[h1];exact⟨_,_,Nat.lt_succ_self _,rfl,h2,h3⟩
 |_=>omega
theorem oinv4 (hI:IsO fl m p)(hk:m.kind=4):∃ x y,1<m.subs.length∧p= .seq x y∧IsO fl (gd m.subs 0) x∧IsO fl (gd m.subs 1) y:=by
 cases hI with
 |seq _ h1 h2 h3=>rw[h1];exact⟨_,_,Nat.lt_succ_self _,rfl,h2,h3⟩
 |_=>omega
theorem oinv5 (hI:IsO fl m p)(h1: ¬ m.kind=1)(h2: ¬ m.kind=2)(h3: ¬ m.kind=3)(h4: ¬ m.kind=4):∃ x,0<m.subs.length∧p= .star x∧IsO fl (gd m.subs 0) x:=by
 cases hI with
 |star _ h1 h2=>rw[h1];exact⟨_,Nat.zero_lt_one,rfl,h2⟩
 |_=>omega
end
theorem rset_v {w0:World}{H:List (Nat × Obj)}(f:Fd)(hf:FdOk f)(h:Hd)(hh:HdOk h){v:Int}(n:Nat)(hv:v=(n:Nat))(hn:n<2 ^ f.w):
  FSpec Tryz.prog w0 83 #[.agg (encF f).toArray, .agg (hdC h).toArray, .int .i64 v] H (Still (.agg (hdC (fset f h n)).toArray) H):=by subst hv;exact rset_s f hf h hh n hn
abbrev BdK (l:List Hd) (q:Option Addr) (c:Nat) (H:List (Nat × Obj)):Value→List (Nat × Obj)→Prop:=fun u H'=>∃ (l':List Hd) (q':Option Addr) (c':Nat) (e:Int),(u= .tuple #[.slice q' l'.length c', .int .i64 e]∧(e=0→l'=l∧q'=q∧c'=c∧l.length≤256)∧0≤e∧e≤2)∧H'=H
theorem bounded_s {w0:World}{H:List (Nat × Obj)}(l:List Hd)(q:Option Addr)(c:Nat):
  FSpec Tryz.prog w0 84 #[.slice q l.length c] H (BdK l q c H):=by
 refine Au Tryz.func84 U ntmps84 U (rD tb 14 U ?_)
 first|refine Ae (Aa U) (fun c6=> ?_) (fun c6=> ?_)|refine Ah (Aa U) (fun c6=> ?_) (fun c6=> ?_)
 ·refine rC tb 8 U (Ak U (.tmp (Aa U) (Nk U)) ?_);exact⟨_,⟨[],none,0,2,⟨rfl,fun h=>absurd h qde,by decide⟩,rfl⟩,sbt⟩
 ·refine rC tb 10 U (Ak U (.tmp (Aa U) (Nk U)) ?_);exact⟨_,⟨l,q,c,0,⟨rfl,fun _=>⟨rfl,rfl,rfl,by have h9: ¬ ((l.length:Nat):Int)>256:=c6;omega⟩,Int.le_refl _,by decide⟩,rfl⟩,sbt⟩
theorem set_uni {w0:World}{A B:Hd→Prop}{H H' H2:List (Nat × Obj)}{l1 l2 l l':List Hd}{q1 q2 q q':Option Addr}{c1 c2 c c':Nat}{e:Int}(h1:SetIs w0 A H l1 q1 c1)(h2:SetIs w0 B H2 l2 q2 c2)(hL:HsA w0 H' l q c)(hu:l.Pairwise hLt)(hm:∀ x,x∈l↔x∈l1∨x∈l2)(he:e=0→l'=l∧q'=q∧c'=c∧l.length≤256):e=0→SetIs w0 (fun g=>A g∨B g) H' l' q' c':=fun h9=>by
 obtain⟨rfl,rfl,rfl,hn⟩:=he h9;exact⟨hL,hu,fun g=>by rw[hm,h1.2.2.1,h2.2.2.1],hn⟩
theorem rev_step {w0:World}{H:List (Nat × Obj)}{fl:List Fd}(hfl:FlOk fl){q:Option Addr}{c:Nat}{tick:Int}{N:Nat}(hN:N≤100000000)(ih:EvS13 w0 fl q c tick N){m:Pom}{p:Po}{h:Hd}(hA:FlA w0 H q fl)(hM:PoM w0 H m)(hm:m.sz≤N+1)(hI:IsO fl m p)(hF:p.Fit (bsF fl))(hh:HdOk h):
  FSpec Tryz.prog w0 35 #[.slice q fl.length c, .agg (encPo m).toArray, .agg (hdC h).toArray, .int .i64 tick] H (EvK13 w0 (den tick p h) H):=by
 refine Au Tryz.func35 U ntmps35 U ?_;have hsz:=Dz m;have hfew:=hfl.few;refine rD tb 2 U (e_ (Nr U cs_) ?_ U);rintro _ _ ⟨n5,rfl,rfl⟩;refine e_ (Nr U cs_) ?_ U;rintro _ _ ⟨n6,rfl,rfl⟩;refine rO tb 8 U (y_ (Nl U isAgg3 (by first|exact c_o)) ?_ U);refine rO tb 9 U ?_
 first|refine Ae (Aa U) (fun c24=> ?_) (fun c24=> ?_)|refine Ah (Aa U) (fun c24=> ?_) (fun c24=> ?_)
 ·obtain⟨x1,rfl,hx⟩:=oinv1 hI c24;have hF:x1.Fit (bsF fl):=hF;refine rC tb 4 U ?_;refine y_ (Nn U isAgg25 sizeOf25 U (by first|exact K7 (by repeat (first|exact Am|refine Ar ?_))|exact As)) ?_ U;refine y_ (Nn U isAgg32 sizeOf32 (Aj hh) (by first|exact As)) ?_ U;refine rO tb 1 U (y_ (Aw (qe4 U U U U) call81 (fun H' hs=>holds_s hfl 1000000000 (Nat.le_refl _) (hA.mono (List.Sublist.trans (by exact sbt) hs)) (hM.pred.mono (List.Sublist.trans (by exact sbt) hs)) qom hx hF hh)) ?_ U);refine rO tb 9 U ?_
  first|refine Ae (Aa U) (fun c32=> ?_) (fun c32=> ?_)|refine Ah (Aa U) (fun c32=> ?_) (fun c32=> ?_)
  ·refine rC tb 2 U (y_ (Nn U isAgg32 sizeOf32 (Aj hh) (by first|exact As)) ?_ U);refine e_ (Br (.cons (T U) .nil) (bs42 hh)) ?_ U;rintro _ _ ⟨n34,rfl,rfl⟩;refine rO tb 8 U (Ak U (.tmp (Aa U) (Nk U)) ?_);exact⟨_,⟨[h],some ⟨n34,0,none⟩,1,0,rfl,⟨fun _=>⟨L0 (by repeat (first|exact Am|refine Ar ?_)) hh,List.pairwise_singleton ..,fun g=>by simp[den,c32],by simp⟩,Int.le_refl _,by decide⟩,by exact sbt⟩,sb0⟩
  ·refine rC tb 11 U (Ak U (.tmp (Aa U) (Nk U)) ?_);exact⟨_,⟨[],none,0,0,rfl,⟨fun _=>⟨hs_nil, .nil,fun g=>by simp[den,c32],by simp⟩,Int.le_refl _,by decide⟩,by exact sbt⟩,sb0⟩
 ·skip
  refine rC tb 6 U ?_
  first|refine Ae (Aa U) (fun c35=> ?_) (fun c35=> ?_)|refine Ah (Aa U) (fun c35=> ?_) (fun c35=> ?_)
  ·obtain⟨nn,hnn,rfl⟩:=oinv2 hI c35;have hF:FIn (bsF fl) (fndFd fl m.nm).1∧nn<2 ^ (fndFd fl m.nm).1.w:=hF;refine rC tb 4 U (y_ (Nl U isAgg9 (by first|exact c_o)) ?_ U);refine y_ (Aw (qe2 U U) call82 (fun H' hs=>Ha fl q c (hA.mono (List.Sublist.trans (by exact sbt) hs)) qom m.nm)) ?_ U;refine rO tb 3 U (e_ (Ai zeroValue127 cs_) ?_ U);rintro _ _ ⟨n11,rfl,rfl⟩
   first|refine A5 (Nq U U sizeOf127) U Ac ?_
   rintro _ _ ⟨rfl,rfl⟩;refine rO tb 5 U (y_ (Nn U isAgg127 sizeOf127 U (by first|exact As)) ?_ U);refine y_ (Nn U isAgg32 sizeOf32 (Aj hh) (by first|exact As)) ?_ U;refine rO tb 1 U (y_ (Nl U isAgg3 (by first|exact c_o)) ?_ U);refine y_ (Aw (qe3 U U U) call83 (fun H' hs=>rset_v (fndFd fl m.nm).1 hF.1.ok h hh nn hnn hF.2)) (e_ (Br (.cons (T U) .nil) (bs42 (Cy _ _ _))) ?_ U) U;rintro _ _ ⟨n49,rfl,rfl⟩;refine rO tb 7 U (Ak U (.tmp (Aa U) (Nk U)) ?_);exact⟨_,⟨[fset (fndFd fl m.nm).1 h nn],some ⟨n49,0,none⟩,1,0,rfl,⟨fun _=>⟨L0 (by repeat (first|exact Am|refine Ar ?_)) (Cy _ _ _),List.pairwise_singleton ..,fun g=>by simp[den],by simp⟩,Int.le_refl _,by decide⟩,by exact sbt⟩,sb0⟩
  ·skip
   refine rC tb 6 U ?_
   first|refine Ae (Aa U) (fun c50=> ?_) (fun c50=> ?_)|refine Ah (Aa U) (fun c50=> ?_) (fun c50=> ?_)
   ·obtain⟨x3,y3,hl0,rfl,hx,hy⟩:=oinv3 hI c50;have hF:x3.Fit (bsF fl)∧y3.Fit (bsF fl):=hF;refine rC tb 1 U (Bk 13 [(0,true),(1,true),(2,true),(3,true),(4,true),(5,true),(6,true),(7,false),(8,true),(9,true),(10,true),(11,true),(12,true)] _ mixd qkr sb0 ?_ Bp);refine rP tb 2 U (o_y U (Nl U isAgg26 (by first|exact c_o)) ?_ U Ac);refine o_y U (Cx (T U) An runUnderlying26 sizeOf28 qom (by first|exact rfl|exact hM.arr.b (i:=0) qom|exact hM.arr.b (i:=1) qom)) ?_ U Ac;refine o_y U (Nn U isAgg28 sizeOf28 U (by first|exact(hM.arr.mono ((show H.Sublist ((n6,Cl (hdC h) 32)::(n5,Cl (encPo m) 28)::H) by exact sbt))).cs (i:=0) qom|exact As)) ?_ U Ac;refine o_y U (Nn U isAgg32 sizeOf32 (Aj hh) (by first|exact As)) ?_ U Ac;refine rP tb 1 U (o_e U (Al (qe4 U U U U) call35 (ih (hA.mono ((show H.Sublist ((n6,Cl (hdC h) 32)::(n5,Cl (encPo m) 28)::H) by exact sbt))) ((hM.sub (Ba qom)).mono ((show H.Sublist ((n6,Cl (hdC h) 32)::(n5,Cl (encPo m) 28)::H) by exact sbt))) (by have:=Eg (Ba (l:=m.subs) (i:=0) qom);omega) hx hF.1 hh)) ?_ U Ac);rintro _ M2 ⟨l1,q1,c1,e1,rfl,⟨he1,ge1⟩,hM2⟩;refine⟨(by assumption),?_⟩;refine rP tb 5 U (A4 U (rO tb 3 U (Bk 13 [(0,true),(1,true),(2,true),(3,true),(4,true),(5,true),(6,true),(7,false),(8,true),(9,true),(10,true),(11,true),(12,true)] _ mixd qkr sb0 ?_ Bp)));refine rP tb 2 U ?_;refine o_y U (Nl U isAgg26 (by first|exact c_o|exact(Af (Fnd.mono (by repeat (first|exact Am|refine Ar ?_)) hM2)) 8 _ U)) ?_ U Ac;refine o_y U (Cx (T U) An runUnderlying26 sizeOf28 qom (by first|exact rfl|exact hM.arr.b (i:=0) qom|exact hM.arr.b (i:=1) qom)) ?_ U Ac;refine o_y U (Nn U isAgg28 sizeOf28 U (by first|exact(hM.arr.mono ((show H.Sublist ((n6,Cl (hdC h) 32)::(n5,Cl (encPo m) 28)::H) by exact sbt).trans hM2)).cs (i:=1) qom|exact As)) ?_ U Ac;refine o_y U (Nn U isAgg32 sizeOf32 (Aj hh) (by first|exact Af (Fnd.mono (by repeat (first|exact Am|refine Ar ?_)) hM2)|exact As)) ?_ U Ac;refine rP tb 1 U (o_e U (Al (qe4 U U U U) call35 (ih (hA.mono ((show H.Sublist ((n6,Cl (hdC h) 32)::(n5,Cl (encPo m) 28)::H) by exact sbt).trans hM2)) ((hM.sub (Ba qom)).mono ((show H.Sublist ((n6,Cl (hdC h) 32)::(n5,Cl (encPo m) 28)::H) by exact sbt).trans hM2)) (by have:=Eg (Ba (l:=m.subs) (i:=1) qom);omega) hy hF.2 hh)) ?_ U Ac);rintro _ M3 ⟨l2,q2,c2,e2,rfl,⟨he2,ge2⟩,hM3⟩;refine⟨(by assumption),?_⟩;refine rP tb 5 U (A4 U (kO tb 2 [13,14,15,16] rfl U (rG tb 6 U ?_)))
    first|refine Av (s:=76) (Aa U) (fun c76=> ?_) (fun c76=> ?_)|refine A7 (s:=76) (Aa U) (fun c76=> ?_) (fun c76=> ?_)
    ·skip
     refine rO tb 16 U (Ak U (.tmp (Aa U) (Nk U)) ?_);exact⟨_,⟨[],none,0,2,rfl,⟨fun h9=>absurd h9 qde,by decide⟩,(show H.Sublist ((n6,Cl (hdC h) 32)::(n5,Cl (encPo m) 28)::H) by exact sbt).trans (hM2.trans hM3)⟩,sb0⟩
    ·have hZ1:=he1 (Classical.not_not.1 c76);refine rO tb 5 U ?_
     first|refine Ae (Aa U) (fun c79=> ?_) (fun c79=> ?_)|refine Ah (Aa U) (fun c79=> ?_) (fun c79=> ?_)
     ·skip
      refine rC tb 10 U (Ak U (.tmp (Aa U) (Nk U)) ?_);exact⟨_,⟨[],none,0,2,rfl,⟨fun h9=>absurd h9 qde,by decide⟩,(show H.Sublist ((n6,Cl (hdC h) 32)::(n5,Cl (encPo m) 28)::H) by exact sbt).trans (hM2.trans hM3)⟩,sb0⟩
     ·have hZ2:=he2 (Classical.not_not.1 c79);refine rC tb 6 U (e_ (Al (qe2 U U) call37 (Js l1 l2 q1 q2 c1 c2 (hZ1.1.mono hM3) hZ1.2.1 hZ2.1 (by have:=hZ1.2.2.2;omega) (by have:=hZ2.2.2.2;omega))) ?_ U);rintro _ M4 ⟨l4,q4,c4,rfl,hL4,hul4,⟨hm4,hn4⟩,hM4⟩;refine e_ (Al (qe1 U) call84 (bounded_s l4 q4 c4)) ?_ U;rintro _ _ ⟨l5,q5,c5,e5,⟨rfl,he5,ge5⟩,rfl⟩;refine rO tb 9 U (Ak U (.tmp (Aa U) (Nk U)) ?_);exact⟨_,⟨l5,q5,c5,e5,rfl,⟨set_uni hZ1 hZ2 hL4 hul4 hm4 he5,ge5⟩,(show H.Sublist ((n6,Cl (hdC h) 32)::(n5,Cl (encPo m) 28)::H) by exact sbt).trans (hM2.trans (hM3.trans hM4))⟩,sb0⟩
   ·skip
    refine rC tb 6 U ?_
    first|refine Ae (Aa U) (fun c86=> ?_) (fun c86=> ?_)|refine Ah (Aa U) (fun c86=> ?_) (fun c86=> ?_)
    ·obtain⟨x4,y4,hl0,rfl,hx,hy⟩:=oinv4 hI c86;have hF:x4.Fit (bsF fl)∧y4.Fit (bsF fl):=hF;refine rC tb 1 U (Bk 13 [(0,true),(1,true),(2,true),(3,true),(4,true),(5,true),(6,true),(7,false),(8,true),(9,true),(10,true),(11,true),(12,true)] _ mixd qkr sb0 ?_ Bp);refine rP tb 2 U (o_y U (Nl U isAgg26 (by first|exact c_o)) ?_ U Ac);refine o_y U (Cx (T U) An runUnderlying26 sizeOf28 qom (by first|exact rfl|exact hM.arr.b (i:=0) qom|exact hM.arr.b (i:=1) qom)) ?_ U Ac;refine o_y U (Nn U isAgg28 sizeOf28 U (by first|exact(hM.arr.mono ((show H.Sublist ((n6,Cl (hdC h) 32)::(n5,Cl (encPo m) 28)::H) by exact sbt))).cs (i:=0) qom|exact As)) ?_ U Ac;refine o_y U (Nn U isAgg32 sizeOf32 (Aj hh) (by first|exact As)) ?_ U Ac;refine rP tb 1 U (o_e U (Al (qe4 U U U U) call35 (ih (hA.mono ((show H.Sublist ((n6,Cl (hdC h) 32)::(n5,Cl (encPo m) 28)::H) by exact sbt))) ((hM.sub (Ba qom)).mono ((show H.Sublist ((n6,Cl (hdC h) 32)::(n5,Cl (encPo m) 28)::H) by exact sbt))) (by have:=Eg (Ba (l:=m.subs) (i:=0) qom);omega) hx hF.1 hh)) ?_ U Ac);rintro _ M2 ⟨l1,q1,c1,e1,rfl,⟨he1,ge1⟩,hM2⟩;refine⟨(by assumption),?_⟩;refine rP tb 5 U (A4 U (rO tb 9 U ?_))
     first|refine Ae (Aa U) (fun c100=> ?_) (fun c100=> ?_)|refine Ah (Aa U) (fun c100=> ?_) (fun c100=> ?_)
     ·skip
      refine kC tb 7 [8,9] rfl U (rG tb 4 U (Ak U (.tmp (Aa U) (Nk U)) ?_));exact⟨_,⟨[],none,0,e1,rfl,⟨fun h9=>absurd h9 c100,ge1⟩,(show H.Sublist ((n6,Cl (hdC h) 32)::(n5,Cl (encPo m) 28)::H) by exact sbt).trans hM2⟩,sb0⟩
     ·have hZ1:=he1 (Classical.not_not.1 c100);refine rC tb 6 U ?_;refine y_ (Nl U isAgg26 (by first|exact c_o|exact(Af (Fnd.mono (by repeat (first|exact Am|refine Ar ?_)) hM2)) 8 _ U)) ?_ U;refine y_ (Cx (T U) An runUnderlying26 sizeOf28 qom (by first|exact rfl|exact hM.arr.b (i:=0) qom|exact hM.arr.b (i:=1) qom)) ?_ U;refine y_ (Nn U isAgg28 sizeOf28 U (by first|exact(hM.arr.mono ((show H.Sublist ((n6,Cl (hdC h) 32)::(n5,Cl (encPo m) 28)::H) by exact sbt).trans hM2)).cs (i:=1) qom|exact As)) ?_ U;refine rO tb 2 U (e_ (Al (qe4 U U U U) call85 (image_s hfl ih (hA.mono ((show H.Sublist ((n6,Cl (hdC h) 32)::(n5,Cl (encPo m) 28)::H) by exact sbt).trans hM2)) ((hM.sub (Ba qom)).mono ((show H.Sublist ((n6,Cl (hdC h) 32)::(n5,Cl (encPo m) 28)::H) by exact sbt).trans hM2)) (by have:=Eg (Ba (l:=m.subs) (i:=1) qom);omega) hy hF.2 l1 q1 c1 hZ1.1 (by have:=hZ1.2.2.2;omega))) ?_ U);rintro _ M3 ⟨l3,q3,c3,e3,rfl,⟨he3,ge3⟩,hM3⟩;refine kO tb 6 [8,9] rfl U (rG tb 3 U (Ak U (.tmp (Aa U) (Nk U)) ?_));exact⟨_,⟨l3,q3,c3,e3,rfl,⟨(fun h9=>by obtain⟨z1,z2,z3,z4⟩:=he3 h9;exact⟨z1,z2,fun g=>by rw[z3];simp only[den,hZ1.2.2.1],z4⟩),ge3⟩,(show H.Sublist ((n6,Cl (hdC h) 32)::(n5,Cl (encPo m) 28)::H) by exact sbt).trans (hM2.trans hM3)⟩,sb0⟩
    ·obtain⟨x5,hl0,rfl,hx⟩:=oinv5 hI c24 c35 c50 c86;have hF:x5.Fit (bsF fl):=hF;refine rC tb 4 U (Bk 15 [(0,true),(1,true),(2,true),(3,true),(4,true),(5,true),(6,true),(7,false),(8,true),(9,true),(10,true),(11,true),(12,true),(13,true),(14,true)] _ mixd qkr sb0 ?_ Bp);refine rP tb 2 U (o_y U (Nl U isAgg26 (by first|exact c_o)) ?_ U Ac);refine o_y U (Cx (T U) An runUnderlying26 sizeOf28 qom (by first|exact rfl|exact hM.arr.b (i:=0) qom|exact hM.arr.b (i:=1) qom)) ?_ U Ac;refine o_y U (Nn U isAgg28 sizeOf28 U (by first|exact(hM.arr.mono ((show H.Sublist ((n6,Cl (hdC h) 32)::(n5,Cl (encPo m) 28)::H) by exact sbt))).cs (i:=0) qom|exact As)) ?_ U Ac;refine o_y U (Nn U isAgg32 sizeOf32 (Aj hh) (by first|exact As)) ?_ U Ac;refine rP tb 1 U (o_e U (Al (qe4 U U U U) call86 (closure_s hfl ih (hA.mono (show H.Sublist ((n6,Cl (hdC h) 32)::(n5,Cl (encPo m) 28)::H) by exact sbt)) ((hM.sub (Ba qom)).mono ((show H.Sublist ((n6,Cl (hdC h) 32)::(n5,Cl (encPo m) 28)::H) by exact sbt))) (by have:=Eg (Ba (l:=m.subs) (i:=0) qom);omega) hx hF hh)) ?_ U Ac);rintro _ M2 ⟨l6,q6,c6,r6,e6,rfl,⟨he6,ge6⟩,hM2⟩;refine⟨(by assumption),?_⟩;refine rP tb 7 U (A4 U (kO tb 10 [8,9] rfl U (rG tb 1 U (Ak U (.tmp (Aa U) (Nk U)) ?_))));exact⟨_,⟨l6,q6,c6,e6,rfl,⟨he6,ge6⟩,(show H.Sublist ((n6,Cl (hdC h) 32)::(n5,Cl (encPo m) 28)::H) by exact sbt).trans hM2⟩,sb0⟩
theorem Lm {w0:World}{fl:List Fd}(hfl:FlOk fl){q:Option Addr}{c:Nat}{tick:Int}(N:Nat)(hN:N≤100000000):EvS13 w0 fl q c tick N:=by
 induction N with
 |zero=>intro H m p h _ _ h3;have:=Dz m;omega
 |succ N ih=>
  have ih:EvS13 w0 fl q c tick N:=ih qom;intro H m p h hA hM hm hI hF hh;exact rev_step hfl qom ih hA hM hm hI hF hh
section
variable {bs:List Nat} {ns:Ns} {a b:Nat} {t:Int} {x y:Po}
theorem dhF_ok (ns:Ns)(bs:List Nat)(a b:Nat):HdOk (dhF ns bs a b):=by unfold dhF bhF;exact Cm _
theorem Cg (ns:Ns)(bs:List Nat)(a b:Nat):HdOk (dfH ns bs a b):=by unfold dfH;split;exact Bu;exact dhF_ok _ _ _ _
end
theorem df_s {w0:World}{H:List (Nat × Obj)}{D:Sd}{v:Sv}{ns:Ns}{bs:List Nat}(hst:StOk D v ns)(hbs:BsOk bs)(hbe:D.bs=bs)(hS:(SM D v ns).Sublist H)(hB:Arr w0 H D.qb 1 encB1 bs){a b:Nat}(ha:a<ns.length)(hb:b<ns.length){g:Hd}(hg:dfH ns bs a b=g):
  FSpec Tryz.prog w0 90 #[.pointer (some ⟨D.p,0,none⟩), .int .i64 (a:Nat), .int .i64 (b:Nat)] H (Still (.tuple #[.agg (hdC g).toArray, .bool (decide (a≠b))]) H):=by
 subst hbe;subst hg;exact differ_s hst hbs hS hB a b ha hb
abbrev errV (e:Int):Value:= .iface 33 (.int .i64 e)
theorem Cp {α:Type}{F:Option α}{z:α}{a:Nat}{e:Int}{B:Prop}(h:(F=some z∧e=0)∨(F=none∧a=0∧e=12∧B))(he: ¬ e=0):F=none∧a=0∧e=12∧B:=by
 rcases h with h|h
 ·exact absurd h.2 he
 ·exact h
theorem eqN_nil (w:World):(Op.equal 20 .nilIface .nilIface).run Tryz.prog w= .ok true w:=by kernel_rfl
theorem eq20_err (e:Int)(w:World):(Op.equal 20 (errV e) .nilIface).run Tryz.prog w= .ok false w:=by kernel_rfl
theorem ta_err (e:Int)(w:World):(Instr.typeAssert (errV e) 20 33 true).run Tryz.prog w= .ok (.tuple #[.int .i64 e, .bool true]) w:=by kernel_rfl
section
variable {w0:World} {L:Fm} {H:List (Nat × Obj)} {ty yt:TypeId} {x:Operand} {e:Int}
theorem yl_eqN0 (hx:Ev L x .nilIface):Yl Tryz.prog w0 (.binOp .eql 20 x (.const .nilIface) yt) ty L H (.bool true):=Bq U fun b w=>by
 have hc:ev (lk L b) (.const .nilIface)= .nilIface:=rfl;have hx':=hx b;simp[exO,execOp,hx',hc,binOp,eqGuard,eqN_nil,Sem.run_bind,Result.andThen]
theorem yl_eqN1 (hx:Ev L x (errV e)):Yl Tryz.prog w0 (.binOp .eql 20 x (.const .nilIface) yt) ty L H (.bool false):=Bq U fun b w=>by
 have hc:ev (lk L b) (.const .nilIface)= .nilIface:=rfl;have hx':=hx b;simp[exO,execOp,hx',hc,binOp,eqGuard,eq20_err,Sem.run_bind,Result.andThen]
end
theorem Hf {w0:World}{H:List (Nat × Obj)}(a:Nat)(e:Int)(fv:Value)(hfv: ¬ e=0→fv=errV e):
  FSpecP Tryz.prog w0 48 #[.int .i64 (a:Nat), .int .i64 e] H (fun u H9=>∃ x:Unit,(u= .int .i64 (a:Nat)∧e=0)∧H9=H) fv (fun H9=> ¬ e=0∧H9=H):=by
 refine Bm Tryz.func48 U ntmps48 U (rD tb 12 U ?_)
 first|refine Ae (Aa U) (fun c6=> ?_) (fun c6=> ?_)|refine Ah (Aa U) (fun c6=> ?_) (fun c6=> ?_)
 ·obtain rfl:=hfv c6;refine rC tb 2 U (y_ (yl_mkIface (T U) (fun _=>rfl)) (p_ (effP_panic (K:=fun _ _=>False) (B:=fun H9=>H9=_) (T U) U) (fun _ _ h=>h.elim) ?_ U) U);rintro _ rfl
  repeat refine B3 ?_
  exact Bb ⟨c6,rfl⟩ sbt
 ·have he0:e=0:=Classical.not_not.1 c6;refine rC tb 9 U (Bx U (Nk U) ?_);exact⟨_,⟨(),⟨rfl,he0⟩,rfl⟩,sbt⟩
theorem mustC_s {w0:World}{H:List (Nat × Obj)}(q:Option Addr)(n c:Nat)(e:Int)(fv:Value)(hfv: ¬ e=0→fv=errV e):
  FSpecP Tryz.prog w0 60 #[.slice q n c, .int .i64 e] H (fun u H9=>∃ x:Unit,(u= .slice q n c∧e=0)∧H9=H) fv (fun H9=> ¬ e=0∧H9=H):=by
 refine Bm Tryz.func60 U ntmps60 U (rD tb 12 U ?_)
 first|refine Ae (Aa U) (fun c6=> ?_) (fun c6=> ?_)|refine Ah (Aa U) (fun c6=> ?_) (fun c6=> ?_)
 ·obtain rfl:=hfv c6;refine rC tb 2 U (y_ (yl_mkIface (T U) (fun _=>rfl)) (p_ (effP_panic (K:=fun _ _=>False) (B:=fun H9=>H9=_) (T U) U) (fun _ _ h=>h.elim) ?_ U) U);rintro _ rfl
  repeat refine B3 ?_
  exact Bb ⟨c6,rfl⟩ sbt
 ·have he0:e=0:=Classical.not_not.1 c6;refine rC tb 9 U (Bx U (Nk U) ?_);exact⟨_,⟨(),⟨rfl,he0⟩,rfl⟩,sbt⟩
theorem d_spec1 {P:Program}{w0:World}{f2:FuncId}{fn:Func}{id d1:Nat}{ts:Array TypeId}{ty1:TypeId}{p1:String}{af1:Array Edge}{rest:Code}{vs:List Value}{N:Nat}{u u':FrameMode}{val:Value}{H:List (Nat × Obj)}{K:Value→List (Nat × Obj)→Prop}
  (hf:P.funcs[f2]? =some fn) (hb:fn.body=some (.seq (.region id #[⟨some d1, .call {callee:= .builtin .recover,args:= #[],argTypes:=ts},ty1,p1,af1,none⟩] false) rest)) (hN:fn.ntmps=N) (hv:Nat.ble vs.length N=true) (h1:Nat.blt d1 N=true)
  (hu:∀ (c₀:Frame) (cs:List Frame),c₀.mode=u→(match recoverD (c₀::cs) with|some (v,cs')=>v=val∧cs'={c₀ with mode:=u'}::cs|none=> .nilIface=val∧c₀::cs={c₀ with mode:=u'}::cs))
  (h:J P none N w0 rest (retQ0 P fn w0 K) ((d1,val)::ini 0 vs) [] H) {w:World} (hO:Own w0 H w):
  CallsD P f2 vs.toArray u w fun e u'' w'=>∃ v,e= .returned v∧u''=u'∧∃ H',Own w0 H' w'∧K v H':=by
 have hv':vs.length≤N:=by simpa using hv
 refine callsD_of_wpS hf hb fun c₀ cs hm=>wpS_seq (wpS_region ?_)
 obtain⟨a0,ha0⟩:∃ a0:Act,a0={tmps:=vs.toArray++Array.replicate (fn.ntmps - vs.toArray.size) undef,defers:=[]}:=⟨_,rfl⟩;rw[← ha0];have hsz:a0.tmps.size=N:=by subst ha0;simp[hN];omega
 have hfr:fr a0=lk (ini 0 vs) (fun _=>undef):=by
  subst ha0
  funext k
  rw[Ix];unfold fr;simp only[Nat.zero_le,if_true,Nat.sub_zero,Array.getD_eq_getD_getElem?]
  by_cases hk:k<vs.length
  ·simp[Array.getElem?_append,hk]
  ·simp only[List.size_toArray,Array.getElem?_append,hk,if_false];rw[List.getElem?_eq_none qom];simp only[Array.getElem?_replicate]
   split<;>rfl
 have hdf:a0.defers=[]:=by subst ha0;rfl
 have hf1:=Hm (d:=some d1) (v:=val) (N:=N) h1 hsz hfr;have hrest:=h (fun _=>undef) w hO (a0.put (some d1) val) (by rw[De];exact hsz) hf1 (by rw[Cv];exact hdf);have hrec:(execOp a0.eval ⟨some d1, .call {callee:= .builtin .recover,args:= #[],argTypes:=ts},ty1,p1,af1,none⟩).run P w= .ok .recover w:=by
  simp[execOp,resolve,invoke,builtin,Sem.run_bind,Result.andThen]
 have fin:∀ a:Act,a=a0.put (some d1) val→rest.wpS P (bodyPostS P fn c₀ cs fun e u'' w'=>∃ v,e= .returned v∧u''=u'∧∃ H',Own w0 H' w'∧K v H') a ({c₀ with mode:=u'}::cs) w:=fun a ha=>by
  subst ha;refine wpS_of_wp ((wpIn_wide (n:=0)).1 (wpIn_mono hrest fun e a' w' hq=> ?_));obtain⟨_,hq⟩:=hq;cases e with
  |normal=>
   obtain⟨hd,v,H',hr,hO',hK⟩:=hq;exact⟨hd,u',rfl,v,hr _ U,v,rfl,rfl,H',hO',hK⟩
  |ret=>
   obtain⟨hd,v,H',hr,hO',hK⟩:=hq;exact⟨hd,u',rfl,v,hr _ U,v,rfl,rfl,H',hO',hK⟩
  |_=>exact hq.elim
 have hrd:=hu c₀ cs hm;show wpOpsS P _ _ [0] a0 (c₀::cs) w;unfold wpOpsS;simp only[List.getElem?_toArray,List.getElem?_cons_zero,Region.wanted,if_true,hrec];cases hc:recoverD (c₀::cs) with
 |none=>
  rw[hc] at hrd;obtain⟨hv2,hcs⟩:=hrd;simp only[];rw[hv2,hcs];unfold wpOpsS;exact fin _ U
 |some y=>
  obtain⟨v,cs'⟩:=y;rw[hc] at hrd;obtain⟨rfl,rfl⟩:=hrd;simp only[];unfold wpOpsS;exact fin _ U
theorem Kr  (w:World):(Instr.build 32 #[]).run Tryz.prog w= .ok (.agg #[.int .i64 0, .int .i64 0, .int .i64 0, .int .i64 0, .int .i64 0, .int .i64 0, .int .i64 0, .int .i64 0, .int .i64 0, .int .i64 0]) w:=by kernel_rfl
abbrev askCap (b6 b7 b8:Nat):List Value:=[.pointer (some ⟨b6,0,none⟩), .pointer (some ⟨b7,0,none⟩), .pointer (some ⟨b8,0,none⟩)]
theorem askR_s {w0:World}{H:List (Nat × Obj)}(b6 b7 b8:Nat){w:World}(hO:Own w0 H w):CallsD Tryz.prog 88 (askCap b6 b7 b8).toArray .returning w (fun e u'' w'=>∃ v,e= .returned v∧u''= .returning∧∃ H',Own w0 H' w'∧H'=H):=by
 refine d_spec1 (val:= .nilIface) (K:=fun _ H'=>H'=H) (N:=14) Tryz.func88 U ntmps88 U U (fun c₀ cs hm=> ?_) ?_ hO
 ·have:recoverD (c₀::cs)=none:=by simp[recoverD,hm]
  rw[this];refine⟨rfl,?_⟩;obtain⟨_,_⟩:=c₀;simp only at hm;subst hm
  rfl
 ·skip
  refine rD tb 3 U (y_ (yl_eqN0 (T U)) (rO tb 7 U (Lt U .nil ?_)) U);exact⟨H,rfl,sbt⟩
theorem askP_s {w0:World}{R:List (Nat × Obj)}(b6 b7 b8:Nat)(e:Int){w:World}(hO:Own w0 ((b8,Cl [.int .i64 0] 33)::(b7,Cl [.bool false] 4)::(b6,Cl ([.int .i64 0, .int .i64 0, .int .i64 0, .int .i64 0, .int .i64 0, .int .i64 0, .int .i64 0, .int .i64 0, .int .i64 0, .int .i64 0]) 32)::R) w):CallsD Tryz.prog 88 (askCap b6 b7 b8).toArray (.panicking [{v:=errV e,recovered:=false}]) w (fun e1 u'' w'=>∃ u9,e1= .returned u9∧u''= .panicking [{v:=errV e,recovered:=true}]∧∃ H',Own w0 H' w'∧H'=((b8,Cl [.int .i64 e] 33)::(b7,Cl [.bool false] 4)::(b6,Cl ([.int .i64 0, .int .i64 0, .int .i64 0, .int .i64 0, .int .i64 0, .int .i64 0, .int .i64 0, .int .i64 0, .int .i64 0, .int .i64 0]) 32)::R)):=by
 refine d_spec1 (val:=errV e) (K:=fun _ H'=>H'=((b8,Cl [.int .i64 e] 33)::(b7,Cl [.bool false] 4)::(b6,Cl ([.int .i64 0, .int .i64 0, .int .i64 0, .int .i64 0, .int .i64 0, .int .i64 0, .int .i64 0, .int .i64 0, .int .i64 0, .int .i64 0]) 32)::R)) (N:=14) Tryz.func88 U ntmps88 U U (fun c₀ cs hm=> ?_) ?_ hO
 ·have:recoverD (c₀::cs)=some (errV e,{c₀ with mode:= .panicking [{v:=errV e,recovered:=true}]}::cs):=by simp[recoverD,hm]
  rw[this];exact⟨rfl,rfl⟩
 ·skip
  refine rD tb 3 U (y_ (yl_eqN1 (T U)) (rO tb 5 U (y_ (yl_ta (T U) (ta_err e)) (rO tb 11 U (y_ (Bd .nil (Kr)) (rO tb 1 U ?_) U)) U)) U)
  first|refine A5 (Nq U U sizeOf32) U Ac ?_
  rintro _ _ ⟨rfl,rfl⟩
  first|refine A5 (Aq (T U) An sizeOf4) U Ac ?_|refine A5 (B4 (T U) An U sizeOf4) U Ac ?_|refine A5 (Bi (T U) An U sizeOf4) U Ac ?_
  rintro _ _ ⟨rfl,rfl⟩
  first|refine A5 (Nq U U sizeOf33) U Ac ?_|refine A5 (B4 (T U) (T U) U sizeOf33) U Ac ?_|refine A5 (Bi (T U) (T U) U sizeOf33) U Ac ?_
  rintro _ _ ⟨rfl,rfl⟩;refine rO tb 2 U (Lt U .nil ?_);exact⟨_,rfl,sbt⟩
theorem dropP {P:Program}{w0:World}{f:FuncId}{args:Array Value}{H R:List (Nat × Obj)}{K0:Value→Prop}{fv:Value}{Ψ:Prop}(h:FSpecP P w0 f args H (fun u H'=>K0 u∧R.Sublist H') fv (fun H'=>Ψ∧R.Sublist H')):FSpecP P w0 f args H (fun u H'=>K0 u∧H'=R) fv (fun H'=>Ψ∧H'=R):=fun w hO=>(h w hO).mono fun e w' he=>by
 rcases he with ⟨v,H',a,b,c,d⟩|⟨a,H',b,c,d⟩
 ·exact .inl ⟨v,R,a,b.sub d,c,rfl⟩
 ·exact .inr ⟨a,R,b.sub d,c,rfl⟩
def noP (Q:Post):Post
 | .panic _,_,_,_=>False
 |e,σ,ds,w=>Q e σ ds w
section
variable {P:Program} {r:Option Nat} {N:Nat} {w0:World} {Q Q':Post} {L:Fm} {ds:List Deferred} {H:List (Nat × Obj)}
theorem noP_le (e:Exit)(σ:Nat→Value)(ds:List Deferred)(w:World)(h:noP Q e σ ds w):Q e σ ds w:=by
 cases e<;>first|exact h|exact h.elim
theorem Hg (hq:∀ e σ ds w,Q' e σ ds w→Q e σ ds w):∀ (ks:List Kt) e σ ds w,postK P r N ks Q' e σ ds w→postK P r N ks Q e σ ds w
 |[]=>hq
 | .code c::ks=>fun e σ ds w h=>by
  have ih:=Hg hq ks;cases e<;>first
   |exact ih _ _ _ _ h
   |exact fun a hs hf hd=>wpIn_mono (h a hs hf hd) fun e a w ⟨h1,h2⟩=>⟨h1,ih _ _ _ _ h2⟩
 | .block id::ks=>fun e σ ds w h=>by
  have ih:=Hg hq ks;cases e with
  |exit i=>
   by_cases hi:i=id
   ·have h2:postK P r N ks Q' .normal σ ds w:=by
     have h3:(if i=id then postK P r N ks Q' .normal σ ds w else postK P r N ks Q' (.exit i) σ ds w):=h
     rwa [if_pos hi] at h3
    show (if i=id then postK P r N ks Q .normal σ ds w else postK P r N ks Q (.exit i) σ ds w);rw[if_pos hi];exact ih _ _ _ _ h2
   ·have h2:postK P r N ks Q' (.exit i) σ ds w:=by
     have h3:(if i=id then postK P r N ks Q' .normal σ ds w else postK P r N ks Q' (.exit i) σ ds w):=h
     rwa [if_neg hi] at h3
    show (if i=id then postK P r N ks Q .normal σ ds w else postK P r N ks Q (.exit i) σ ds w);rw[if_neg hi];exact ih _ _ _ _ h2
  |_=>exact ih _ _ _ _ h
 | .scope::ks=>fun e σ ds w h=>by
  have ih:=Hg hq ks;cases e<;>first|exact ih _ _ _ _ h|exact h.elim
theorem j_noP {c:Code}{ks:List Kt}(h:J P r N w0 c (postK P r N ks (noP Q)) L ds H):J P r N w0 c (postK P r N ks Q) L ds H:=fun b w hO a hs hf hd=>
 wpIn_mono (h b w hO a hs hf hd) fun e a' w' hq=>⟨hq.1,Hg noP_le _ _ _ _ _ hq.2⟩
theorem np_noP:NoPanic (noP Q):=⟨fun _ _ _ _ _ h=>h⟩
theorem np_allN {Q:Post}(h:NoPanic Q:=by repeat (first|exact np_noP|exact Iy|apply F0|apply G0|apply Iz|apply Gm|apply Fv|apply Es)):NoPanic Q:=h
theorem qn_normal (h:JQ w0 Q .normal L ds H):JQ w0 (noP Q) .normal L ds H:=h
theorem qn_ret (h:JQ w0 Q .ret L ds H):JQ w0 (noP Q) .ret L ds H:=h
end
theorem ybd70_0_1 (a0:Option Addr)(a1:Int)(w:World):(Instr.build 70 #[(0, .pointer a0),(1, .int .i64 a1)]).run Tryz.prog w= .ok (.agg #[.pointer a0, .int .i64 a1]) w:=by kernel_rfl
def QuS (w0:World) (fl:List Fd) (tick:Int) (g:FuncId) (cap:List Value) (e:Int) (Φ:Hd→Bool→Prop) (Ψ:Prop) (H:List (Nat × Obj)):Prop:=
 ∀ (dx db:Sl) (p mp:Nat) (v:Sv) (R:List (Nat × Obj)),H.Sublist R→StOk (NewD fl 200000 dx db p mp) v (nsE (2*(bsF fl).length))→En w0 R (NewD fl 200000 dx db p mp) fl→FSpecP Tryz.prog w0 g ([Value.agg #[.pointer (some ⟨p,0,none⟩), .int .i64 tick]]++cap).toArray (SM (NewD fl 200000 dx db p mp) v (nsE (2*(bsF fl).length))++R) (fun u H'=>(∃ (h:Hd) (is:Bool),u= .tuple #[.agg (hdC h).toArray, .bool is]∧HdOk h∧Φ h is)∧R.Sublist H') (errV e) (fun H'=>Ψ∧R.Sublist H')
abbrev AskK (Φ:Hd→Bool→Prop) (e:Int) (Ψ:Prop) (H:List (Nat × Obj)):Value→List (Nat × Obj)→Prop:=fun u H'=>(∃ (h:Hd) (is:Bool) (e':Int),u= .tuple #[.agg (hdC h).toArray, .bool is, .int .i64 e']∧HdOk h∧((e'=0∧Φ h is)∨(e'=e∧h=hd0∧is=false∧Ψ)))∧H'=H
theorem Kf {w0:World}{H:List (Nat × Obj)}(fl:List Fd)(hfl:FlOk fl)(q:Option Addr)(c:Nat)(hA:Arr w0 H q 3 encF fl)(tick:Int){g:FuncId}{cap:List Value}(e:Int){Φ:Hd→Bool→Prop}{Ψ:Prop}(hcg:∀ args w,(callFunc g args).run Tryz.prog w= .ok (.enter g args) w)(hG:QuS w0 fl tick g cap e Φ Ψ H):
  FSpec Tryz.prog w0 43 #[.slice q fl.length c, .int .i64 tick, .func (.func g) #[] cap.toArray] H (AskK Φ e Ψ H):=by
 refine fn_specD (fv:=errV e) Tryz.func43 U ntmps43 U call88 (rD tb 2 U (e_ (Ai zeroValue32 cs_) ?_ U));rintro _ _ ⟨n6,rfl,rfl⟩;refine e_ (Ai zeroValue4 cs_) ?_ U;rintro _ _ ⟨n7,rfl,rfl⟩;refine e_ (Ai zeroValue33 cs_) ?_ U;rintro _ _ ⟨n8,rfl,rfl⟩;refine rO tb 4 U (y_ (Bs (.cons (T U) (.cons (T U) (.cons (T U) .nil)))) (jl_defer (T U) (rO tb 6 U (e_ (Al (.cons (T U) (.cons An .nil)) call89 (new_s fl hfl q c (hA.mono (by exact sbt)) 200000 qom)) ?_ U))) U);rintro _ _ ⟨⟨dx,db,p,mp,v⟩,⟨rfl,hdx,hdb,hst⟩,rfl⟩
 dsimp only at hdx hdb hst
 refine rO tb 1 U (y_ (Bd (.cons (T U) (.cons (T U) .nil)) (ybd70_0_1 _ _)) ?_ U);refine p_ (C3 (cap:=cap) (T rfl) (.cons (T rfl) .nil) hcg (dropP (hG dx db p mp v (slH db ((bsF fl).flatMap encB1) 3++(slH dx (fl.flatMap encF) 127++((n8,Cl [.int .i64 0] 33)::(n7,Cl [.bool false] 4)::(n6,Cl ([.int .i64 0, .int .i64 0, .int .i64 0, .int .i64 0, .int .i64 0, .int .i64 0, .int .i64 0, .int .i64 0, .int .i64 0, .int .i64 0]) 32)::H))) (by exact sbt) hst ((en_new (w0:=w0) (H:=((n8,Cl [.int .i64 0] 33)::(n7,Cl [.bool false] 4)::(n6,Cl ([.int .i64 0, .int .i64 0, .int .i64 0, .int .i64 0, .int .i64 0, .int .i64 0, .int .i64 0, .int .i64 0, .int .i64 0, .int .i64 0]) 32)::H)) hfl hdx hdb 200000 p mp))))) ?_ (by rintro _ ⟨hΨ,rfl⟩;(repeat refine B3 ?_);refine dq_panic (KK:=fun H2=>H2=((n8,Cl [.int .i64 e] 33)::(n7,Cl [.bool false] 4)::(n6,Cl ([.int .i64 0, .int .i64 0, .int .i64 0, .int .i64 0, .int .i64 0, .int .i64 0, .int .i64 0, .int .i64 0, .int .i64 0, .int .i64 0]) 32)::H)) (cap:=askCap n6 n7 n8) (vs:=[.agg (hdC hd0).toArray, .bool false, .int .i64 e]) rfl ?_ fun w hO=>(askP_s (R:=H) n6 n7 n8 e (hO.sub (by exact sbt)));rintro H2 rfl;exact⟨.cellA (Aa rfl) isAgg32 sizeOf32 rfl (by exact Af (by repeat (first|exact Am|refine Ar ?_))) (.cell (Aa rfl) isAgg4 qco (.cell (Aa rfl) isAgg33 qco .nil)),_,⟨⟨hd0,false,e,rfl,Bu, .inr ⟨rfl,rfl,rfl,hΨ⟩⟩,rfl⟩,by exact sbt⟩) rfl;rintro _ _ ⟨⟨h,is,rfl,hh,hΦ⟩,rfl⟩;refine rO tb 3 U (e_ (Nq U U sizeOf32 .agg (Bh _) (Aj hh) (by repeat (first|exact Upd.h|apply Upd.t|apply Bl)) (by rw[Aj hh];rfl)) ?_ U);rintro _ _ ⟨rfl,rfl⟩
 first|refine A5 (Nq U U sizeOf4) U Ac ?_|refine A5 (B4 (T U) (T U) U sizeOf4) U Ac ?_|refine A5 (Bi (T U) (T U) U sizeOf4) U Ac ?_
 rintro _ _ ⟨rfl,rfl⟩;refine rO tb 3 U (j_noP (Bk 3 [(0,true),(1,true),(2,false)] _ mixd qkr sb0 ?_ np_allN));refine o_y U (Nn U isAgg32 sizeOf32 (Aj hh) (by first|exact Af fdd|exact As)) ?_ U Ac;refine o_y U (Nl U isAgg4 (by first|exact c_o)) ?_ U Ac;refine o_e U (Nq U U sizeOf32 .agg (Bh _) (Aj hh) (by repeat (first|exact Upd.h|apply Upd.t|apply Bl)) (rfl)) ?_ U Ac;rintro _ _ ⟨rfl,rfl⟩;refine⟨sbt,(A4 U ?_)⟩
 first|refine A5 (Nq U U sizeOf4) U Ac ?_|refine A5 (B4 (T U) (T U) U sizeOf4) U Ac ?_|refine A5 (Bi (T U) (T U) U sizeOf4) U Ac ?_
 rintro _ _ ⟨rfl,rfl⟩
 first|refine A5 (Aq (T U) An sizeOf33) U Ac ?_|refine A5 (B4 (T U) An U sizeOf33) U Ac ?_|refine A5 (Bi (T U) An U sizeOf33) U Ac ?_
 rintro _ _ ⟨rfl,rfl⟩;refine rO tb 3 U ?_
 first|refine qn_normal ?_|refine qn_ret ?_
 refine dq_end (fv:=errV e) (cap:=askCap n6 n7 n8) (vs:=[.agg (hdC h).toArray, .bool is, .int .i64 0]) U (.cellA (Aa U) isAgg32 sizeOf32 (Aj hh) (by exact Af fdd) (.cell (Aa U) isAgg4 qco (.cell (Aa U) isAgg33 qco .nil))) ⟨_,⟨⟨h,is,0,rfl,hh, .inl ⟨rfl,hΦ⟩⟩,rfl⟩,by exact sbt⟩ fun w hO=>askR_s n6 n7 n8 hO
theorem ybd25_0 (a0:Int)(w:World):(Instr.build 25 #[(0, .int .i64 a0)]).run Tryz.prog w= .ok (.agg #[.int .i64 a0, .string ⟨#[]⟩, .int .i64 0, .int .i64 0, .slice none 0 0]) w:=by kernel_rfl
theorem E0 {w0:World}{D:Sd}{v:Sv}{ns:Ns}{R:List (Nat × Obj)}(hst:StOk D v ns){fl:List Fd}(hE:En w0 R D fl)(m:Pom)(p:Po)(hI:IsO fl m p)(hF:p.Fit D.bs)(hM:PoM w0 R m)(tick:Int):
  FSpecP Tryz.prog w0 46 #[.agg #[.pointer (some ⟨D.p,0,none⟩), .int .i64 tick], .agg (encPo m).toArray] (SM D v ns++R) (OpK D (polF D.most.toNat D.bs tick (rdN D.bs) p ns) R) (errV 12) (OpB D (polF D.most.toNat D.bs tick (rdN D.bs) p ns) ns R):=by
 refine Bm Tryz.func46 U ntmps46 U (rD tb 2 U (e_ (Nr U cs_) ?_ U));rintro _ _ ⟨n2,rfl,rfl⟩;refine e_ (Nr U cs_) ?_ U;rintro _ _ ⟨n3,rfl,rfl⟩;refine rO tb 6 U (y_ (Nl U isAgg68 (by first|exact c_o)) ?_ U);refine y_ (Nn U isAgg28 sizeOf28 U (by first|exact As)) ?_ U;refine rO tb 1 U (y_ (Nl U isAgg3 (by first|exact c_o)) ?_ U);refine e_ (Al (qe3 U U U) call91 (B9 (M:=SM D v ns) (policy_s (R:=(n3,Cl (encPo m) 28)::(n2,Cl [.pointer (some ⟨D.p,0,none⟩), .int .i64 tick] 70)::R) hst (hE.mono (by exact sbt)) m p hI hF (hM.mono (by exact sbt)) tick) (by repeat (first|exact Bt|exact LocL.h|apply LocL.t|apply LocL.a)))) ?_ U;rintro _ _ ⟨⟨id,ee,v1,ns1⟩,⟨rfl,hc,hst1⟩,rfl⟩
 dsimp only at hc hst1
 refine rO tb 2 U ?_;refine p_ (Ay (.cons (T rfl) (.cons (T rfl) .nil)) call48 (Hf id ee (errV 12) (fun he=>by rw[(Cp hc he).2.2.1]))) ?_ (by rintro _ ⟨he,rfl⟩;obtain⟨e1, -, -,rfl⟩:=Cp hc he;(repeat refine B3 ?_);exact Bb ⟨(v1,_),⟨e1, .refl hst1.w,hst1⟩,rfl⟩ (by exact sbt)) rfl;rintro _ _ ⟨⟨⟩,⟨rfl,he0⟩,rfl⟩;refine rO tb 4 U (Bx U (Nk U) ?_);exact⟨_,⟨(id,v1,ns1),⟨rfl,He hc he0,hst1⟩,rfl⟩,by exact sbt⟩
theorem qnone_s {w0:World}{D:Sd}{v:Sv}{ns:Ns}{R:List (Nat × Obj)}(hst:StOk D v ns){fl:List Fd}(hE:En w0 R D fl)(tick:Int):
  FSpecP Tryz.prog w0 55 #[.agg #[.pointer (some ⟨D.p,0,none⟩), .int .i64 tick]] (SM D v ns++R) (OpK D (polF D.most.toNat D.bs tick (rdN D.bs) (.fil .fls) ns) R) (errV 12) (OpB D (polF D.most.toNat D.bs tick (rdN D.bs) (.fil .fls) ns) ns R):=by
 refine Bm Tryz.func55 U ntmps55 U (rD tb 2 U (e_ (Nr U cs_) ?_ U));rintro _ _ ⟨n1,rfl,rfl⟩;refine rO tb 6 U (y_ (Nl U isAgg68 (by first|exact c_o)) ?_ U);refine y_ (Bd (.cons An .nil) (ybd25_0 _)) (rO tb 1 U (y_ (Nl U isAgg3 (by first|exact c_o)) ?_ U)) U;refine e_ (Al (qe3 U U U) call97 (B9 (M:=SM D v ns) (filterm_s (R:=(n1,Cl [.pointer (some ⟨D.p,0,none⟩), .int .i64 tick] 70)::R) hst (hE.mono (by exact sbt)) (.mk 2 ⟨#[]⟩ 0 0 none 0 []) .fls (.fls U) trivial C5 tick) (by repeat (first|exact Bt|exact LocL.h|apply LocL.t|apply LocL.a)))) ?_ U;rintro _ _ ⟨⟨id,ee,v1,ns1⟩,⟨rfl,hc,hst1⟩,rfl⟩
 dsimp only at hc hst1
 refine rO tb 2 U ?_;refine p_ (Ay (.cons (T rfl) (.cons (T rfl) .nil)) call48 (Hf id ee (errV 12) (fun he=>by rw[(Cp hc he).2.2.1]))) ?_ (by rintro _ ⟨he,rfl⟩;obtain⟨e1, -, -,rfl⟩:=Cp hc he;(repeat refine B3 ?_);exact Bb ⟨(v1,_),⟨e1, .refl hst1.w,hst1⟩,rfl⟩ (by exact sbt)) rfl;rintro _ _ ⟨⟨⟩,⟨rfl,he0⟩,rfl⟩;refine rO tb 4 U (Bx U (Nk U) ?_);exact⟨_,⟨(id,v1,ns1),⟨rfl,He hc he0,hst1⟩,rfl⟩,by exact sbt⟩
theorem qall_s {w0:World}{D:Sd}{v:Sv}{ns:Ns}{R:List (Nat × Obj)}(hst:StOk D v ns){fl:List Fd}(hE:En w0 R D fl)(tick:Int):
  FSpecP Tryz.prog w0 58 #[.agg #[.pointer (some ⟨D.p,0,none⟩), .int .i64 tick]] (SM D v ns++R) (OpK D (polF D.most.toNat D.bs tick (rdN D.bs) (.fil .tru) ns) R) (errV 12) (OpB D (polF D.most.toNat D.bs tick (rdN D.bs) (.fil .tru) ns) ns R):=by
 refine Bm Tryz.func58 U ntmps58 U (rD tb 2 U (e_ (Nr U cs_) ?_ U));rintro _ _ ⟨n1,rfl,rfl⟩;refine rO tb 6 U (y_ (Nl U isAgg68 (by first|exact c_o)) ?_ U);refine y_ (Bd (.cons An .nil) (ybd25_0 _)) (rO tb 1 U (y_ (Nl U isAgg3 (by first|exact c_o)) ?_ U)) U;refine e_ (Al (qe3 U U U) call97 (B9 (M:=SM D v ns) (filterm_s (R:=(n1,Cl [.pointer (some ⟨D.p,0,none⟩), .int .i64 tick] 70)::R) hst (hE.mono (by exact sbt)) (.mk 1 ⟨#[]⟩ 0 0 none 0 []) .tru (.tru U) trivial C5 tick) (by repeat (first|exact Bt|exact LocL.h|apply LocL.t|apply LocL.a)))) ?_ U;rintro _ _ ⟨⟨id,ee,v1,ns1⟩,⟨rfl,hc,hst1⟩,rfl⟩
 dsimp only at hc hst1
 refine rO tb 2 U ?_;refine p_ (Ay (.cons (T rfl) (.cons (T rfl) .nil)) call48 (Hf id ee (errV 12) (fun he=>by rw[(Cp hc he).2.2.1]))) ?_ (by rintro _ ⟨he,rfl⟩;obtain⟨e1, -, -,rfl⟩:=Cp hc he;(repeat refine B3 ?_);exact Bb ⟨(v1,_),⟨e1, .refl hst1.w,hst1⟩,rfl⟩ (by exact sbt)) rfl;rintro _ _ ⟨⟨⟩,⟨rfl,he0⟩,rfl⟩;refine rO tb 4 U (Bx U (Nk U) ?_);exact⟨_,⟨(id,v1,ns1),⟨rfl,He hc he0,hst1⟩,rfl⟩,by exact sbt⟩
theorem qdom_s {w0:World}{D:Sd}{v:Sv}{ns:Ns}{R:List (Nat × Obj)}(hst:StOk D v ns){fl:List Fd}(hE:En w0 R D fl)(tick:Int)(a:Nat)(ha:a<ns.length):
  FSpecP Tryz.prog w0 57 #[.agg #[.pointer (some ⟨D.p,0,none⟩), .int .i64 tick], .int .i64 (a:Nat)] (SM D v ns++R) (OpK D (domF D.most.toNat D.bs ns a) R) (errV 12) (OpB D (domF D.most.toNat D.bs ns a) ns R):=by
 refine Bm Tryz.func57 U ntmps57 U (rD tb 2 U (e_ (Nr U cs_) ?_ U));rintro _ _ ⟨n2,rfl,rfl⟩;refine rO tb 6 U (y_ (Nl U isAgg68 (by first|exact c_o)) ?_ U);refine rO tb 1 U (e_ (Al (qe2 U U) call98 (B9 (M:=SM D v ns) (domain_s (R:=(n2,Cl [.pointer (some ⟨D.p,0,none⟩), .int .i64 tick] 70)::R) hst (hE.mono (by exact sbt)) a ha) (by repeat (first|exact Bt|exact LocL.h|apply LocL.t|apply LocL.a)))) ?_ U);rintro _ _ ⟨⟨id,ee,v1,ns1⟩,⟨rfl,hc,hst1⟩,rfl⟩
 dsimp only at hc hst1
 refine rO tb 2 U ?_;refine p_ (Ay (.cons (T rfl) (.cons (T rfl) .nil)) call48 (Hf id ee (errV 12) (fun he=>by rw[(Cp hc he).2.2.1]))) ?_ (by rintro _ ⟨he,rfl⟩;obtain⟨e1, -, -,rfl⟩:=Cp hc he;(repeat refine B3 ?_);exact Bb ⟨(v1,_),⟨e1, .refl hst1.w,hst1⟩,rfl⟩ (by exact sbt)) rfl;rintro _ _ ⟨⟨⟩,⟨rfl,he0⟩,rfl⟩;refine rO tb 4 U (Bx U (Nk U) ?_);exact⟨_,⟨(id,v1,ns1),⟨rfl,He hc he0,hst1⟩,rfl⟩,by exact sbt⟩
theorem Ii {w0:World}{H:List (Nat × Obj)}{D:Sd}{v:Sv}{ns:Ns}{bs:List Nat}(hst:StOk D v ns)(hbs:BsOk bs)(hbe:D.bs=bs)(hS:(SM D v ns).Sublist H)(hB:Arr w0 H D.qb 1 encB1 bs)(tick:Int)(a b:Nat)(ha:a<ns.length)(hb:b<ns.length):
  FSpec Tryz.prog w0 45 #[.agg #[.pointer (some ⟨D.p,0,none⟩), .int .i64 tick], .int .i64 (a:Nat), .int .i64 (b:Nat)] H (Still (.tuple #[.agg (hdC (dfH ns bs a b)).toArray, .bool (!decide (a≠b))]) H):=by
 refine Au Tryz.func45 U ntmps45 U (rD tb 2 U (e_ (Nr U cs_) ?_ U));rintro _ _ ⟨n3,rfl,rfl⟩;refine e_ (Ai zeroValue32 cs_) ?_ U;rintro _ _ ⟨n6,rfl,rfl⟩;refine rO tb 6 U (y_ (Nl U isAgg68 (by first|exact c_o)) ?_ U);refine rO tb 2 U (y_ (Aw (qe3 U U U) call90 (fun H' hs=>df_s hst hbs hbe ((hS.trans (by exact sbt)).trans hs) ((hB.mono (by exact sbt)).mono hs) ha hb U)) ?_ U);refine rO tb 3 U (e_ (Ai zeroValue32 cs_) ?_ U);rintro _ _ ⟨n8,rfl,rfl⟩;refine e_ (Nq U U sizeOf32 .agg (Bh _) (Aj (Cg _ _ _ _)) (by repeat (first|exact Upd.h|apply Upd.t|apply Bl)) (by rw[Aj (Cg _ _ _ _)];rfl)) ?_ U;rintro _ _ ⟨rfl,rfl⟩;refine rO tb 5 U ?_;refine y_ (Nn U isAgg32 sizeOf32 (Aj (Cg _ _ _ _)) (by first|exact Af (by repeat (first|exact Am|refine Ar ?_))|exact As)) ?_ U;refine rO tb 1 U ?_
 first|refine A9 (B5 (T U)) U Ac ?_|refine A9 (B1 (T U)) U Ac ?_
 refine e_ (Nq U U sizeOf32 .agg (Bh _) (Aj (Cg _ _ _ _)) (by repeat (first|exact Upd.h|apply Upd.t|apply Bl)) (by rw[Aj (Cg _ _ _ _)];rfl)) ?_ U;rintro _ _ ⟨rfl,rfl⟩;refine rO tb 4 U (Ak U (.cellA (Aa U) isAgg32 sizeOf32 (Aj (Cg _ _ _ _)) (by first|exact As) (Nk U)) ?_);exact⟨_,⟨by rw[← decide_not];rfl,rfl⟩,by exact sbt⟩
def Ans (P:Hd→Prop) (h:Hd) (is:Bool):Prop:=(is=true∧h=hd0∧∀ g,HdOk g→P g)∨(is=false∧HdOk h∧¬ P h∧∀ g,HdOk g→hLt g h→P g)
theorem ans_uniq {P:Hd→Prop}{h h':Hd}{is is':Bool}(a:Ans P h is)(b:Ans P h' is'):h=h'∧is=is':=by
 rcases a with ⟨rfl,rfl,a⟩|⟨rfl,a1,a2,a3⟩
 ·rcases b with ⟨rfl,rfl,b⟩|⟨rfl,b1,b2,b3⟩
  ·exact⟨rfl,rfl⟩
  ·exact absurd (a _ b1) b2
 ·rcases b with ⟨rfl,rfl,b⟩|⟨rfl,b1,b2,b3⟩
  ·exact absurd (b _ a1) a2
  ·refine⟨?_,rfl⟩;rcases I4 a1 b1 with e|e|e
   ·exact absurd (b3 _ a1 e) a2
   ·exact e
   ·exact absurd (a3 _ b1 e) b2
theorem Ans.iff {P Q:Hd→Prop}{h:Hd}{is:Bool}(a:Ans P h is)(e:∀ g,HdOk g→(P g↔Q g)):Ans Q h is:=by
 rcases a with ⟨a,b,c⟩|⟨a,b,c,d⟩
 ·exact .inl ⟨a,b,fun g hg=>(e g hg).1 (c g hg)⟩
 ·exact .inr ⟨a,b,fun q=>c ((e _ b).2 q),fun g hg hl=>(e g hg).1 (d g hg hl)⟩
theorem Ans.true {P:Hd→Prop}{h:Hd}(a:Ans P h true):∀ g,HdOk g→P g:=by
 rcases a with ⟨_,_,c⟩|⟨a,_⟩
 ·exact c
 ·cases a
theorem Ans.false {P:Hd→Prop}{h:Hd}(a:Ans P h false):HdOk h∧¬ P h∧∀ g,HdOk g→hLt g h→P g:=by
 rcases a with ⟨a,_⟩|⟨_,c⟩
 ·cases a
 ·exact c
def AskP (t:Int) (k:Nat) (p q:Po) (h:Hd):Prop:=
 if k=1 then ∀ g,den t p h g↔den t q h g else if k=2 then ∀ g,den t q h g→den t p h g else if k=3 then ∀ g,¬ den t p h g else if k=4 then ∃ g,den t p h g
 else if k=5 then ∀ g g',den t p h g→den t p h g'→g=g' else (∀ g,¬ den t p h g)∨∀ g,¬ den t q h g
section
variable {F:List Fd} {K:Fd→Nat→Prop} {h h' g g':Hd} {t:Int} {bs:List Nat} {p q:Po}
theorem lt_of_bits {x y i:Nat}(h1:y.testBit i=false)(h2:x.testBit i=true)(hj:∀ j,i<j→x.testBit j=y.testBit j):y<x:=by
 have e:=(@div_bits x y (i+1)).2 fun j h=>hj j qom
 rw[Nat.pow_succ,← Nat.div_div_eq_div_mul,← Nat.div_div_eq_div_mul] at e;rw[Nat.testBit_eq_decide_div_mod_eq] at h1 h2;have a1:=of_decide_eq_false h1;have a2:=of_decide_eq_true h2;have:y / 2 ^ i<x / 2 ^ i:=by omega
 exact Nat.lt_of_not_le fun h=>absurd (Nat.div_le_div_right (c:=2 ^ i) h) qom
theorem hd_le {x h:Hd}(hx:HdOk x)(hh:HdOk h)(e:∀ f∈F,fget f x≤fget f h)(o:∀ b,b<160→(∀ f∈F,¬ (f.pos≤b∧b<f.pos+f.w))→hbit x b=false):x=h∨hLt x h:=by
 rcases I4 hx hh with a|a|⟨b,hb,hj,h1,h2⟩
 ·exact .inr a
 ·exact .inl a
 ·exfalso
  by_cases hf:∃ f∈F,f.pos≤b∧b<f.pos+f.w
  ·obtain⟨f,hf,l1,l2⟩:=hf;have:=e f hf;refine absurd this (Nat.not_le_of_lt ?_);refine lt_of_bits (i:=f.pos+f.w - 1 - b) ?_ ?_ fun j hj2=> ?_
   ·rw[Ed,show f.pos+(f.w - 1 - (f.pos+f.w - 1 - b))=b by omega,h1];simp
   ·rw[Ed,show f.pos+(f.w - 1 - (f.pos+f.w - 1 - b))=b by omega,h2,decide_eq_true qom];rfl
   ·rw[Ed,Ed]
    by_cases hw:j<f.w
    ·rw[hj _ qom]
    ·simp[hw]
  ·rw[o b hb fun f hf' h=>hf ⟨f,hf',h⟩] at h2;cases h2
end
section
variable {bs:List Nat} {ns:Ns} {a b:Nat} {t:Int} {p q:Po} {D E:Hd→Hd→Prop} {h:Hd} {is:Bool}
def OutR (bs:List Nat) (D:Hd→Hd→Prop):Prop:=∀ {h g},HdOk h→D h g→HdOk g∧Out bs h g
theorem same_ans (hb:BsOk bs)(hw:Wf (2*bs.length) ns)(la:a<ns.length)(lb:b<ns.length)(ra:Rep bs ns a D)(rb:Rep bs ns b E)(hD:OutR bs D)(hE:OutR bs E):Ans (fun h=>∀ g,D h g↔E h g) (dfH ns bs a b) (!decide (a≠b)):=by
 by_cases e:a=b
 ·subst e;rw[show (!decide (a≠a))=true by simp];refine .inl ⟨rfl,if_pos U,fun h hh g=> ?_⟩
  constructor
  ·intro d;obtain⟨h1,h2⟩:=hD hh d;exact(rb h g hh h1 h2).1 ((ra h g hh h1 h2).2 d)
  ·intro d;obtain⟨h1,h2⟩:=hE hh d;exact(ra h g hh h1 h2).1 ((rb h g hh h1 h2).2 d)
 ·rw[show (!decide (a≠b))=false by simp[e]];have hd:=differ_ok hb hw la lb e ra rb (fun h1 h2=>hD h1 h2) (fun h1 h2=>hE h1 h2);rw[show dfH ns bs a b=dhF ns bs a b from if_neg e];exact .inr ⟨rfl,dhF_ok _ _ _ _,fun k=>by obtain⟨g,hg⟩:=hd.1;exact hg (k g),hd.2⟩
theorem den_outR (hp:p.Fit bs):OutR bs (den t p):=fun h1 h2=>Ee hp h1 h2
theorem ask_eq (A:Ans (fun h=>∀ g,den t p h g↔den t q h g) h is):Ans (AskP t 1 p q) h is:=A.iff fun g hg=>by simp[AskP]
theorem ask_inc (A:Ans (fun h=>∀ g,(den t p h g∨den t q h g)↔den t p h g) h is):Ans (AskP t 2 p q) h is:=A.iff fun g hg=>by
 simp only[AskP,if_neg (by decide: ¬ 2=1),if_true];exact⟨fun k x d=>(k x).1 (.inr d),fun k x=>⟨fun d=>d.elim id (k x), .inl⟩⟩
theorem ask_none (A:Ans (fun h=>∀ g,den t p h g↔den t (.fil .fls) h g) h is):Ans (AskP t 3 p q) h is:=A.iff fun g hg=>by
 simp only[AskP,if_neg (by decide: ¬ 3=1),if_neg (by decide: ¬ 3=2),if_true];exact⟨fun k x d=>(by have:=((k x).1 d).2;cases this),fun k x=>⟨fun d=>absurd d (k x),fun d=>(by have:=d.2;cases this)⟩⟩
theorem ask_tot (A:Ans (fun h=>∀ g,(g=h∧∃ f,den t p h f)↔den t (.fil .tru) h g) h is):Ans (AskP t 4 p q) h is:=A.iff fun g hg=>by
 simp only[AskP,if_neg (by decide: ¬ 4=1),if_neg (by decide: ¬ 4=2),if_neg (by decide: ¬ 4=3),if_true];exact⟨fun k=>((k g).2 ⟨rfl,rfl⟩).2,fun k x=>⟨fun d=>⟨d.1,rfl⟩,fun d=>⟨d.1,k⟩⟩⟩
theorem ask_apart (A:Ans (fun h=>∀ g,(∃ m,(m=h∧∃ f,den t p h f)∧(g=m∧∃ f,den t q m f))↔den t (.fil .fls) h g) h is):Ans (AskP t 6 p q) h is:=A.iff fun g hg=>by
 simp only[AskP,if_neg (by decide: ¬ 6=1),if_neg (by decide: ¬ 6=2),if_neg (by decide: ¬ 6=3),if_neg (by decide: ¬ 6=4),if_neg (by decide: ¬ 6=5)]
 constructor
 ·intro k
  by_cases e:∃ f,den t p g f
  ·refine .inr fun x d=> ?_
   have:=((k g).1 ⟨g,⟨rfl,e⟩,rfl,x,d⟩).2;cases this
  ·exact .inl fun x d=>e ⟨x,d⟩
 ·intro k x
  constructor
  ·rintro⟨m,⟨rfl,f,d⟩,rfl,f',d'⟩;rcases k with k|k
   ·exact absurd d (k f)
   ·exact absurd d' (k f')
  ·intro d;have:=d.2;cases this
def SlcP (t:Int) (p q:Po) (h:Hd):Prop:=(∀ g,¬ den t (.seq p q) h g)∧∀ g,¬ den t (.seq q p) h g
theorem ask_slc (A:Ans (fun h=>∀ g,(den t (.seq p q) h g∨den t (.seq q p) h g)↔den t (.fil .fls) h g) h is):Ans (SlcP t p q) h is:=A.iff fun g hg=>by
 constructor
 ·intro k;exact⟨fun x d=>(by have:=((k x).1 (.inl d)).2;cases this),fun x d=>(by have:=((k x).1 (.inr d)).2;cases this)⟩
 ·intro k x;exact⟨fun d=>d.elim (fun d=>absurd d (k.1 x)) fun d=>absurd d (k.2 x),fun d=>by have:=d.2;cases this⟩
def DstP (t:Int) (p q:Po) (x:Hd):Prop:= ¬ ((∃ h,HdOk h∧den t p h x)∧∃ h,HdOk h∧den t q h x)
end
section
variable {F:List Fd} {K:Fd→Nat→Prop} {cuts:Fd→List Nat} {t:Int} {bs:List Nat} {p q:Po} {X Y:List (Hd × Hd)} {h x:Hd} {is:Bool}
def LstOf (l:List Hd) (h:Hd) (is:Bool):Prop:=(is=true∧h=hd0∧l=[])∨(is=false∧h∈l∧∀ x∈l,h=x∨hLt h x)
theorem lst_ans {P:Hd→Prop}{l:List Hd}(hin:∀ x∈l,HdOk x∧¬ P x)(hout:∀ y,HdOk y→¬ P y→∃ x∈l,x=y∨hLt x y)(a:LstOf l h is):Ans P h is:=by
 rcases a with ⟨a,b,c⟩|⟨a,b,c⟩
 ·refine .inl ⟨a,b,fun g hg=>Classical.byContradiction fun k=> ?_⟩;obtain⟨x,hx,_⟩:=hout g hg k;rw[c] at hx;cases hx
 ·refine .inr ⟨a,(hin h b).1,(hin h b).2,fun g hg hl=>Classical.byContradiction fun k=> ?_⟩;obtain⟨x,hx,o⟩:=hout g hg k;have h1:=c x hx;rcases o with rfl|o
  ·rcases h1 with rfl|h1
   ·exact hl.irr
   ·exact(hl.trans h1).irr
  ·rcases h1 with rfl|h1
   ·exact(hl.trans o).irr
   ·exact((hl.trans h1).trans o).irr
end
structure MdR (p:Md):Prop where
 o1:HdOk p.1
 o2:HdOk p.2
 sub:∀ b,b<160→hbit p.2 b=true→hbit p.1 b=true
theorem MdOk.r {bs:List Nat}{k:Nat}{m:Md}(h:MdOk bs k m):MdR m:=⟨h.o1,h.o2,h.sub⟩
theorem md_cs {w0:World}{H:List (Nat × Obj)}{b o:Nat}{m:Md}(hr:MdR m)(h:Cells w0 H b o (encMdF m)):Cells w0 H b o (mdC m):=by rw[← Fa ⟨hr.o1,hr.o2⟩];exact h
theorem srt_strict {l:List Md}(ok:MdsOk l)(nd:l.Nodup):(srtM l).Pairwise mLt:=by
 obtain⟨hp,hs⟩:=srtM_ok ok;have nd2:(srtM l).Nodup:=hp.nodup_iff.2 nd;refine List.Pairwise.imp_of_mem ?_ (hs.and nd2);intro a b ha hb h;have a1:=ok a (hp.subset ha);have b1:=ok b (hp.subset hb);exact((K5 a1.1 a1.2 b1.1 b1.2).resolve_right fun e=>e.elim h.2 h.1)
section
variable {bs:List Nat} {ns:Ns} {a:Nat} {D:Hd→Hd→Prop}
structure RlOk (L:List (Md × List Md)) (D:Hd→Hd→Prop):Prop where
 r:∀ c∈L,MdR c.1∧∀ m∈c.2,MdR m
 ne:∀ c∈L,¬ c.2.length=0
 srt:∀ c∈L,c.2.Pairwise mLt
 one:∀ h,L.Pairwise fun c d=> ¬ (matM c.1 h∧matM d.1 h)
 nd:∀ h,∀ c∈L,matM c.1 h→(c.2.map fun m=>appM m h).Nodup
 say:∀ h,HdOk h→∀ x,(∃ c∈L,matM c.1 h∧∃ m∈c.2,x=appM m h)↔D h x
theorem nodup_of_map {α β:Type}{f:α→β}{l:List α}(h:(l.map f).Nodup):l.Nodup:=by
 have h2:=List.pairwise_map.1 h;exact h2.imp fun e1 e2=>e1 (by rw[e2])
theorem rules_ok (hb:BsOk bs)(hw:Wf (2*bs.length) ns)(la:a<ns.length)(ra:Rep bs ns a D)(hD:∀ {h g},HdOk h→D h g→HdOk g∧Out bs h g):RlOk (rulesP ns bs a) D:=by
 unfold rulesP
 by_cases h0:a=0
 ·rw[if_pos h0];subst h0;refine⟨fun c hc=>(by cases hc),fun c hc=>(by cases hc),fun c hc=>(by cases hc),fun _=> .nil,fun _ c hc=>(by cases hc),fun h hh x=>⟨fun ⟨c,hc,_⟩=>(by cases hc),fun d=> ?_⟩⟩;obtain⟨h1,h2⟩:=hD hh d;have:=(ra h x hh h1 h2).2 d;rw[E1] at this;cases this
 ·rw[if_neg h0];have R:=rs_ok hb hw bs.length 0 (hd0,hd0) [pt0 a] qom (Lr 0) (fun x hx=>by
   rw[List.mem_singleton.1 hx];exact⟨Lr 0,la,Nat.zero_le _,h0⟩) (fun h _=>List.pairwise_singleton ..)
  have hmds:∀ c∈rsF ns bs bs.length 0 (hd0,hd0) [pt0 a],MdsOk c.2:=fun c hc m hm=>⟨((R.ok c hc).2.1 m hm).o1,((R.ok c hc).2.1 m hm).o2⟩
  have hnd:∀ c∈rsF ns bs bs.length 0 (hd0,hd0) [pt0 a],∀ h,matM c.1 h→(c.2.map fun m=>appM m h).Nodup:=fun c hc h hm=>R.nd c hc h hm
  have hperm:∀ c∈rsF ns bs bs.length 0 (hd0,hd0) [pt0 a],(srtM c.2).Perm c.2:=fun c hc=>(srtM_ok (hmds c hc)).1
  have hsay:∀ h f,HdOk h→HdOk f→Out bs h f→((∃ x∈[pt0 a],Say bs ns 0 h f x)↔D h f):=fun h f hh hf o=>by
   constructor
   ·rintro⟨x,hx,_,h2⟩;rw[List.mem_singleton.1 hx] at h2;exact(ra h f hh hf o).1 h2
   ·intro d;exact⟨pt0 a,by simp,fun j hj=>absurd hj (Nat.not_lt_zero _),(ra h f hh hf o).2 d⟩
  unfold rsP;refine⟨fun c hc=> ?_,fun c hc=> ?_,fun c hc=> ?_,fun h=> ?_,fun h c hc hm=> ?_,fun h hh x=> ?_⟩
  ·obtain⟨d,hd,rfl⟩:=List.mem_map.1 hc;exact⟨(R.ok d hd).1.r,fun m hm=>((R.ok d hd).2.1 m ((hperm d hd).subset hm)).r⟩
  ·obtain⟨d,hd,rfl⟩:=List.mem_map.1 hc;intro e;rw[(hperm d hd).length_eq] at e;exact(R.ok d hd).2.2 (List.eq_nil_of_length_eq_zero e)
  ·obtain⟨d,hd,rfl⟩:=List.mem_map.1 hc;obtain⟨h,_,hm⟩:=R.some d hd;exact srt_strict (hmds d hd) (nodup_of_map (hnd d hd h hm))
  ·rw[List.pairwise_map];exact R.one.imp fun e=>e h
  ·obtain⟨d,hd,rfl⟩:=List.mem_map.1 hc;exact((hperm d hd).map _).nodup_iff.2 (hnd d hd h hm)
  ·constructor
   ·rintro⟨c,hc,hm,m,hx,rfl⟩;obtain⟨d,hd,rfl⟩:=List.mem_map.1 hc;have hx2:=(hperm d hd).subset hx;obtain⟨o,hs⟩:=(R.say d hd h (appM m h) hh (Fk _ _) hm).1 (List.mem_map.2 ⟨m,hx2,rfl⟩);exact(hsay h _ hh (Fk _ _) o).1 hs
   ·intro d;obtain⟨h1,h2⟩:=hD hh d;have hs:=(hsay h x hh h1 h2).2 d;obtain⟨c,hc,hm⟩:=R.all h x hh (fun b _ e=>by rw[Jj] at e;cases e) hs;obtain⟨m,hx,e⟩:=List.mem_map.1 ((R.say c hc h x hh h1 hm).2 ⟨h2,hs⟩);exact⟨_,List.mem_map.2 ⟨c,hc,rfl⟩,hm,m,(hperm c hc).symm.subset hx,e.symm⟩
end
def setsO:Po→List (Fd × Nat)
 | .fil _=>[]
 | .set f n=>[(f,n)]
 | .uni a b=>setsO a++setsO b
 | .seq a b=>setsO a++setsO b
 | .star a=>setsO a
abbrev Cov (f:Fd) (b:Nat):Prop:=f.pos≤b∧b<f.pos+f.w
def effB (L:List (Fd × Nat)) (χ:Fd × Nat→Bool) (h:Hd):Hd:=hdOf fun b=>match L.find? (fun e=>χ e&&decide (Cov e.1 b)) with
 |some e=>e.2.testBit (e.1.pos+e.1.w - 1 - b)
 |none=>hbit h b
def Fnc (L:List (Fd × Nat)) (χ:Fd × Nat→Bool):Prop:=∀ e∈L,∀ e'∈L,χ e=true→χ e'=true→∀ b,Cov e.1 b→Cov e'.1 b→e=e'
def Eqd (L:List (Fd × Nat)):Prop:=∀ e∈L,∀ e'∈L,∀ b,Cov e.1 b→Cov e'.1 b→e.1=e'.1
section
variable {L:List (Fd × Nat)} {χ χ':Fd × Nat→Bool} {h:Hd}
theorem Hh (L:List (Fd × Nat))(χ:Fd × Nat→Bool)(h:Hd):HdOk (effB L χ h):=Cm _
theorem Ij {b:Nat}(hb:b<160):hbit (effB L χ h) b=match L.find? (fun e=>χ e&&decide (Cov e.1 b)) with
  |some e=>e.2.testBit (e.1.pos+e.1.w - 1 - b)
  |none=>hbit h b:=Bz _ hb
theorem K8 {b:Nat}(hb:b<160)(hf:Fnc L χ){e:Fd × Nat}(he:e∈L)(hc:χ e=true)(hv:Cov e.1 b):hbit (effB L χ h) b=e.2.testBit (e.1.pos+e.1.w - 1 - b):=by
 rw[Ij hb];cases hq:L.find? (fun e=>χ e&&decide (Cov e.1 b)) with
 |none=>
  have:=List.find?_eq_none.1 hq e he;simp[hc,hv.1,hv.2] at this
 |some e'=>
  have h1:=List.find?_some hq;have h2:=List.mem_of_find?_eq_some hq;simp only[Bool.and_eq_true,decide_eq_true_eq] at h1;rw[hf e he e' h2 hc h1.1 b hv h1.2]
theorem Ik {b:Nat}(hb:b<160)(hn:∀ e∈L,χ e=true→¬ Cov e.1 b):hbit (effB L χ h) b=hbit h b:=by
 rw[Ij hb];have:L.find? (fun e=>χ e&&decide (Cov e.1 b))=none:=List.find?_eq_none.2 fun e he hx=>by
  simp only[Bool.and_eq_true,decide_eq_true_eq] at hx;exact hn e he hx.1 hx.2
 rw[this]
noncomputable def aft (L:List (Fd × Nat)) (χ χ':Fd × Nat→Bool):Fd × Nat→Bool:=fun e=>χ' e||(χ e&& !(@decide (∃ e'∈L,χ' e'=true∧e'.1=e.1) (Classical.propDecidable _)))
theorem aft_iff {e:Fd × Nat}:aft L χ χ' e=true↔χ' e=true∨(χ e=true∧¬ ∃ e'∈L,χ' e'=true∧e'.1=e.1):=by
 unfold aft;simp only[Bool.or_eq_true,Bool.and_eq_true,Bool.not_eq_true',decide_eq_false_iff_not]
theorem aft_fnc (hq:Eqd L)(h1:Fnc L χ)(h2:Fnc L χ'):Fnc L (aft L χ χ'):=fun e he e' he' a a' b c c'=>by
 rcases aft_iff.1 a with a|⟨a,na⟩<;>rcases aft_iff.1 a' with a'|⟨a',na'⟩
 ·exact h2 e he e' he' a a' b c c'
 ·exact(na' ⟨e,he,a,hq e he e' he' b c c'⟩).elim
 ·exact(na ⟨e',he',a',hq e' he' e he b c' c⟩).elim
 ·exact h1 e he e' he' a a' b c c'
theorem eff_aft (hq:Eqd L)(h1:Fnc L χ)(h2:Fnc L χ'):effB L χ' (effB L χ h)=effB L (aft L χ χ') h:=Db (Hh _ _ _) (Hh _ _ _) fun b hb=>by
 have h3:=aft_fnc hq h1 h2
 by_cases e1:∃ e∈L,χ' e=true∧Cov e.1 b
 ·obtain⟨e,he,a,c⟩:=e1;rw[K8 hb h2 he a c,K8 hb h3 he (aft_iff.2 (.inl a)) c]
 ·rw[Ik hb fun e he a c=>e1 ⟨e,he,a,c⟩]
  by_cases e2:∃ e∈L,χ e=true∧Cov e.1 b
  ·obtain⟨e,he,a,c⟩:=e2;rw[K8 hb h1 he a c,K8 hb h3 he (aft_iff.2 (.inr ⟨a,fun ⟨e',he',a',q⟩=>e1 ⟨e',he',a',q ▸ c⟩⟩)) c]
  ·rw[Ik hb fun e he a c=>e2 ⟨e,he,a,c⟩,Ik hb fun e he a c=>by
    rcases aft_iff.1 a with a|⟨a,_⟩
    ·exact e1 ⟨e,he,a,c⟩
    ·exact e2 ⟨e,he,a,c⟩]
theorem Hj (hq:Eqd L){t:Int}:∀ {p:Po} {h g:Hd},(∀ e∈setsO p,e∈L)→(∀ e∈L,∃ bs,FIn bs e.1)→HdOk h→den t p h g→∃ χ,Fnc L χ∧g=effB L χ h
 | .fil _,h,g,_,_,hh,d=>⟨fun _=>false,(fun _ _ _ _ a=>(by cases a)),by
  rw[d.1];exact(Db (Hh _ _ _) hh fun b hb=>Ik hb fun _ _ a=>(by cases a)).symm⟩
 | .set f n,h,g,hs,hl,hh,d=>by
  haveI:DecidableEq (Fd × Nat):=fun _ _=>Classical.propDecidable _
  have d:g=fset f h n:=d;subst d;have hm:=hs (f,n) (by simp[setsO]);have hfn:Fnc L fun e=>decide (e=(f,n)):=fun e _ e' _ a a' _ _ _=>by rw[of_decide_eq_true a,of_decide_eq_true a']
  refine⟨fun e=>decide (e=(f,n)),hfn,Db (Cy _ _ _) (Hh _ _ _) fun b hb=> ?_⟩;rw[Gt hb]
  by_cases c:Cov f b
  ·rw[if_pos c,K8 hb hfn hm (decide_eq_true U) c]
  ·rw[if_neg c,Ik hb fun e _ a=>by rw[of_decide_eq_true a];exact c]
 | .uni a b,h,g,hs,hl,hh,d=>by
  rcases d with d|d
  ·exact Hj hq (fun e he=>hs e (List.mem_append.2 (.inl he))) hl hh d
  ·exact Hj hq (fun e he=>hs e (List.mem_append.2 (.inr he))) hl hh d
 | .seq a b,h,g,hs,hl,hh,d=>by
  obtain⟨m,d1,d2⟩:=d;obtain⟨χ1,f1,rfl⟩:=Hj hq (fun e he=>hs e (List.mem_append.2 (.inl he))) hl hh d1;obtain⟨χ2,f2,rfl⟩:=Hj hq (fun e he=>hs e (List.mem_append.2 (.inr he))) hl (Hh _ _ _) d2;exact⟨aft L χ1 χ2,aft_fnc hq f1 f2,eff_aft hq f1 f2⟩
 | .star a,h,g,hs,hl,hh,d=>by
  have key:∀ {h g:Hd},Cl' (den t a) h g→HdOk h→∃ χ,Fnc L χ∧g=effB L χ h:=by
   intro h g c
   induction c with
   |base h=>exact fun hh=>⟨fun _=>false,(fun _ _ _ _ a=>(by cases a)),(Db (Hh _ _ _) hh fun b hb=>Ik hb fun _ _ a=>(by cases a)).symm⟩
   |step d1 _ ih=>
    intro hh;obtain⟨χ1,f1,rfl⟩:=Hj hq (p:=a) hs hl hh d1;obtain⟨χ2,f2,rfl⟩:=ih (Hh _ _ _);exact⟨aft L χ1 χ2,aft_fnc hq f1 f2,eff_aft hq f1 f2⟩
  exact key d hh
end
structure PrtsOk (bs:List Nat) (ns:Ns) (a:Nat) (k:Nat) (p:Md) (l:List Prt):Prop where
 le:k≤bs.length
 pm:MdOk bs k p
 ok:∀ x∈l,PtOk bs ns k x
 ds:∀ h,matM p h→l.Pairwise (Dst bs k h)
 say:∀ h f:Hd,matM p h→((∃ x∈l,Say bs ns k h f x)↔sem ns a (mixA (xh bs h) (xh bs f))=true)
section
variable {bs:List Nat} {ns:Ns} {a k:Nat} {p:Md} {l:List Prt}
theorem ps_step (h9:PrtsOk bs ns a k p l)(hk:k<bs.length){p':Md}{G:Prt→List Prt}(hp':MdOk bs (k+1) p')(hsub:∀ h,matM p' h→matM p h)(hG:∀ h,matM p' h→∀ x∈l,Rpl bs ns k h x (G x)):PrtsOk bs ns a (k+1) p' (l.flatMap G):=by
 have key:=fun h hm=>Kh (hG h hm) (h9.ds h (hsub h hm))
 exact⟨hk,hp',(key p'.2 (Jk hp')).1,fun h hm=>(key h hm).2.1,fun h f hm=>by rw[← (key h hm).2.2 f];exact h9.say h f (hsub h hm)⟩
theorem ps_jn (hb:BsOk bs)(hw:Wf (2*bs.length) ns)(h9:PrtsOk bs ns a k p l)(hk:k<bs.length)(hj:l.all (jnB ns k)=true):PrtsOk bs ns a (k+1) p (l.flatMap (jnF ns k (gd bs k))):=
 ps_step h9 hk (h9.pm.up qom) (fun _ h=>h) fun h _ x hx=>rpl_jn hb hw hk (h9.ok x hx) (List.all_eq_true.1 hj x hx)
theorem ps_sp (hb:BsOk bs)(hw:Wf (2*bs.length) ns)(h9:PrtsOk bs ns a k p l)(hk:k<bs.length)(v:Bool):PrtsOk bs ns a (k+1) (chg p (gd bs k) v) (l.flatMap (spF ns k (gd bs k) v)):=
 ps_step h9 hk (J3 hb hk h9.pm v) (fun h hm=>((Eo hb hk h9.pm).1 hm).1) fun h hm x hx=>rpl_sp hb hw hk (h9.ok x hx) ((Eo hb hk h9.pm).1 hm).2
theorem ps_0 (la:a<ns.length)(h0:a≠0):PrtsOk bs ns a 0 (hd0,hd0) [pt0 a]:=⟨Nat.zero_le _,Lr 0,fun x hx=>by
 rw[List.mem_singleton.1 hx];exact⟨Lr 0,la,Nat.zero_le _,h0⟩,fun _ _=>List.pairwise_singleton ..,fun h f _=>by
 constructor
 ·rintro⟨x,hx,_,h2⟩;rw[List.mem_singleton.1 hx] at h2;exact h2
 ·intro e;exact⟨pt0 a,by simp,fun j hj=>absurd hj (Nat.not_lt_zero _),e⟩⟩
theorem ps_bdd (hb:BsOk bs)(hw:Wf (2*bs.length) ns)(hlen:∀ k p l,PrtsOk bs ns a k p l→l.length≤8589934592):Bdd ns bs (PrtsOk bs ns a):=
 ⟨hlen,fun k p l h hk hj=>ps_jn hb hw h hk hj,fun k p l h hk _ v=>ps_sp hb hw h hk v⟩
end
theorem eff_local {L:List (Fd × Nat)}{χ:Fd × Nat→Bool}{h h':Hd}{b:Nat}(hb:b<160)(e:hbit h b=hbit h' b):hbit (effB L χ h) b=hbit (effB L χ h') b:=by
 rw[Ij hb,Ij hb]
 split
 ·rfl
 ·exact e
theorem app_local {m:Md}{h h':Hd}{b:Nat}(hb:b<160)(e:hbit h b=hbit h' b):hbit (appM m h) b=hbit (appM m h') b:=by
 rw[E3 _ _ hb,E3 _ _ hb,e]
section
variable {bs:List Nat} {ns:Ns} {a k:Nat} {p:Md} {l:List Prt} {D:Hd→Hd→Prop} {L:List (Fd × Nat)}
theorem ps_wit (hb:BsOk bs)(hw:Wf (2*bs.length) ns)(ra:Rep bs ns a D)(heff:∀ h g,HdOk h→D h g→∃ χ,Fnc L χ∧g=effB L χ h)(h9:PrtsOk bs ns a k p l){x:Prt}(hx:x∈l):∃ χ,Fnc L χ∧∀ j,j<k→xh bs (appM x.1 p.2) j=xh bs (effB L χ p.2) j:=by
 have hk:=h9.le;have hp:=h9.ok x hx;have hsat:∃ α,sem ns x.2 α=true:=Classical.byContradiction fun hn=>hp.ne (sem_inj hw hp.lt (by have:=hp.lt;omega) fun α=>by
  rw[E1];exact Bool.eq_false_iff.2 fun e=>hn ⟨α,e⟩)
 obtain⟨α,hα⟩:=hsat
 obtain⟨h,hh,_,hx1⟩:=Ic hb p.2 fun j=>if j<k then xh bs p.2 j else α (2*j)
 obtain⟨f,hf,of,hx2⟩:=Ic hb h fun j=>if j<k then xh bs (appM x.1 p.2) j else α (2*j+1)
 have hbit1:∀ j,j<k→hbit h (gd bs j)=hbit p.2 (gd bs j):=fun j hj=>by
  have:=hx1 j qom;rw[if_pos hj] at this;exact this
 have hm:matM p h:=fun b hb1 hb2=>by
  obtain⟨j,h1,h2,rfl⟩:=h9.pm.on b hb1 hb2;exact hbit1 j h1
 have hsem:sem ns x.2 (mixA (xh bs h) (xh bs f))=true:=by
  rw[← hα];refine Du hw x.2 hp.lt _ _ fun i h1 h2=> ?_
  have hlv:=hp.lv;unfold mixA
  split
  ·rw[hx1 _ qom,if_neg qom];congr 1;omega
  ·rw[hx2 _ qom,if_neg qom];congr 1;omega
 have hsay:sem ns a (mixA (xh bs h) (xh bs f))=true:=(h9.say h f hm).1 ⟨x,hx,fun j hj=>by
  rw[hx2 j qom,if_pos hj];exact(app_local (Ej hb qom) (hbit1 j hj)).symm,hsem⟩
 obtain⟨χ,hχ,rfl⟩:=heff h f hh ((ra h f hh hf of).1 hsay);refine⟨χ,hχ,fun j hj=> ?_⟩;have:=hx2 j qom;rw[if_pos hj] at this;rw[← this];exact eff_local (Ej hb qom) (hbit1 j hj)
end
def bnL:List Bool→Nat
 |[]=>0
 |b::l=>2*bnL l+b.toNat
theorem bnL_lt:∀ l:List Bool,bnL l<2 ^ l.length
 |[]=>by decide
 |b::l=>by
  have:=bnL_lt l;rw[bnL,List.length_cons,Nat.pow_succ];cases b<;>simp<;>omega
theorem bnL_inj:∀ {l m:List Bool},l.length=m.length→bnL l=bnL m→l=m
 |[],[],_,_=>rfl
 |[],_::_,h,_=>by simp at h
 |_::_,[],h,_=>by simp at h
 |b::l,c::m,h,e=>by
  rw[bnL,bnL] at e;have h1:bnL l=bnL m:=by cases b<;>cases c<;>simp at e<;>omega
  have h2:b=c:=by cases b<;>cases c<;>simp at e ⊢<;>omega
  rw[h2,bnL_inj (by simpa using h) h1]
theorem eff_congr {L:List (Fd × Nat)}{χ χ':Fd × Nat→Bool}{h:Hd}(e:L.map χ=L.map χ'):effB L χ h=effB L χ' h:=by
 have he:∀ x∈L,χ x=χ' x:=List.map_inj_left.1 e;refine Db (Hh _ _ _) (Hh _ _ _) fun b hb=> ?_
 rw[Ij hb,Ij hb];have:L.find? (fun e=>χ e&&decide (Cov e.1 b))=L.find? (fun e=>χ' e&&decide (Cov e.1 b)):=by
  clear e
  induction L with
  |nil=>rfl
  |cons x L ih=>
   rw[List.find?_cons,List.find?_cons,he x (by simp),ih fun y hy=>he y (by simp[hy])]
 rw[this]
section
variable {bs:List Nat} {ns:Ns} {a k:Nat} {p:Md} {l:List Prt} {D:Hd→Hd→Prop} {L:List (Fd × Nat)}
theorem ps_len (hb:BsOk bs)(hw:Wf (2*bs.length) ns)(ra:Rep bs ns a D)(heff:∀ h g,HdOk h→D h g→∃ χ,Fnc L χ∧g=effB L χ h)(h9:PrtsOk bs ns a k p l):l.length≤2 ^ L.length:=by
 obtain⟨F,hF⟩:∃ F:Prt→Fd × Nat→Bool,∀ x,x∈l→∀ j,j<k→xh bs (appM x.1 p.2) j=xh bs (effB L (F x) p.2) j:=by
  refine Classical.axiomOfChoice (r:=fun x χ=>x∈l→∀ j,j<k→xh bs (appM x.1 p.2) j=xh bs (effB L χ p.2) j) fun x=> ?_
  by_cases hx:x∈l
  ·obtain⟨χ,_,h⟩:=ps_wit hb hw ra heff h9 hx;exact⟨χ,fun _=>h⟩
  ·exact⟨fun _=>false,fun h=>absurd h hx⟩
 have hnd:(l.map fun x=>bnL (L.map (F x))).Nodup:=by
  refine List.pairwise_map.2 (List.Pairwise.imp_of_mem ?_ (h9.ds p.2 (Jk h9.pm)));rintro x y hx hy ⟨j,hj,hne⟩ e;have e2:=bnL_inj (by simp) e;rw[hF x hx j hj,hF y hy j hj,eff_congr e2] at hne;exact hne U
 have:=Gw (m:=List.range (2 ^ L.length)) hnd fun v hv=>by
  obtain⟨x,_,rfl⟩:=List.mem_map.1 hv;have:=bnL_lt (L.map (F x));rw[List.length_map] at this;exact List.mem_range.2 this
 rwa [List.length_map,List.length_range] at this
end
theorem sets_nd {fl:List Fd}:∀ {m:Pom} {p:Po},IsO fl m p→2*(setsO p).length≤m.nd+1:=by
 intro m p hI
 induction hI with
 |fil _ _=>simp[setsO]
 | @set m n _ _=>have:=Lk m;simp only[setsO,List.length_cons,List.length_nil];omega
 | @uni m a b p q _ hs _ _ i1 i2=>
  have:=Lk m;rw[hs] at this;simp only[setsO,List.length_append,ndOL] at this ⊢;omega
 | @seq m a b p q _ hs _ _ i1 i2=>
  have:=Lk m;rw[hs] at this;simp only[setsO,List.length_append,ndOL] at this ⊢;omega
 | @star m a p _ hs _ i1=>
  have:=Lk m;rw[hs] at this;simp only[setsO,ndOL] at this ⊢;omega
theorem Ft {bs:List Nat}:∀ {p:Po},p.Fit bs→∀ e∈setsO p,FIn bs e.1
 | .fil _,_,e,he=>by simp[setsO] at he
 | .set f n,hF,e,he=>by
  rw[setsO,List.mem_singleton] at he;subst he;exact hF.1
 | .uni a b,hF,e,he=>by
  rcases List.mem_append.1 he with he|he
  ·exact Ft hF.1 e he
  ·exact Ft hF.2 e he
 | .seq a b,hF,e,he=>by
  rcases List.mem_append.1 he with he|he
  ·exact Ft hF.1 e he
  ·exact Ft hF.2 e he
 | .star a,hF,e,he=>Ft (p:=a) hF e he
theorem Jt {fl:List Fd}{bs:List Nat}{m:Pom}{p:Po}(hI:IsO fl m p):p.Fit bs→∀ e∈setsO p,e.1∈portFd::fl:=by
 induction hI with
 |fil _ _=>intro _ e he;simp[setsO] at he
 | @set m n _ _=>
  intro hF e he;rw[setsO,List.mem_singleton] at he;subst he;have h1:=hF.1.ok.w1
  by_cases hf:(fndFd fl m.nm).2=true
  ·exact El hf
  ·exfalso;unfold fndFd at h1 hf
   split at hf
   ·exact hf U
   ·rename_i h2;rw[if_neg h2] at h1
    split at hf
    ·exact hf U
    ·rename_i h3;rw[h3] at h1;have h1:1≤0:=h1;omega
 | @uni m a b p q _ _ _ _ i1 i2=>
  intro hF e he;rcases List.mem_append.1 he with he|he
  ·exact i1 hF.1 e he
  ·exact i2 hF.2 e he
 | @seq m a b p q _ _ _ _ i1 i2=>
  intro hF e he;rcases List.mem_append.1 he with he|he
  ·exact i1 hF.1 e he
  ·exact i2 hF.2 e he
 | @star m a p _ _ _ i1=>exact fun hF e he=>i1 hF e he
theorem pw_eq {l:List Fd}(h:l.Pairwise fun f g=>f.pos+f.w≤g.pos∨g.pos+g.w≤f.pos){f g:Fd}(hf:f∈l)(hg:g∈l){b:Nat}(c:Cov f b)(d:Cov g b):f=g:=by
 obtain⟨i,hi,e1⟩:=List.getElem_of_mem hf;obtain⟨j,hj,e2⟩:=List.getElem_of_mem hg;rcases Nat.lt_trichotomy i j with h1|h1|h1
 ·have:=List.pairwise_iff_getElem.1 h i j hi hj h1;rw[e1,e2] at this;have c1:=c.1;have c2:=c.2;have d1:=d.1;have d2:=d.2;omega
 ·subst h1;rw[← e1,← e2]
 ·have:=List.pairwise_iff_getElem.1 h j i hj hi h1;rw[e1,e2] at this;have c1:=c.1;have c2:=c.2;have d1:=d.1;have d2:=d.2;omega
theorem pol_bdd {fl:List Fd}(hfl:FlOk fl){m:Pom}{p:Po}(hI:IsO fl m p)(hF:p.Fit (bsF fl))(hn:m.nd≤62){t:Int}{ns:Ns}{a:Nat}(hw:Wf (2*(bsF fl).length) ns)(ra:Rep (bsF fl) ns a (den t p)):Bdd ns (bsF fl) (PrtsOk (bsF fl) ns a):=by
 have hq:Eqd (setsO p):=fun e he e' he' b c d=>pw_eq hfl.pw (Jt hI hF e he) (Jt hI hF e' he') c d
 refine ps_bdd (Ef hfl) hw fun k p' l h9=> ?_
 have h1:=ps_len (L:=setsO p) (Ef hfl) hw ra (fun h g hh d=>Hj hq (fun e he=>he) (fun e he=>⟨_,Ft hF e he⟩) hh d) h9;have h2:=sets_nd hI;have h3:2 ^ (setsO p).length≤2 ^ 31:=Nat.pow_le_pow_right qom qom;have h3:2 ^ (setsO p).length≤2147483648:=h3;omega
theorem out_few {L:List (Fd × Nat)}{h:Hd}{l:List Hd}(hn:l.Nodup)(he:∀ x∈l,∃ χ,x=effB L χ h):l.length≤2 ^ L.length:=by
 obtain⟨F,hF⟩:∃ F:Hd→Fd × Nat→Bool,∀ x,x∈l→x=effB L (F x) h:=by
  refine Classical.axiomOfChoice (r:=fun x χ=>x∈l→x=effB L χ h) fun x=> ?_
  by_cases hx:x∈l
  ·obtain⟨χ,e⟩:=he x hx;exact⟨χ,fun _=>e⟩
  ·exact⟨fun _=>false,fun h=>absurd h hx⟩
 have hnd:(l.map fun x=>bnL (L.map (F x))).Nodup:=by
  refine List.pairwise_map.2 (List.Pairwise.imp_of_mem ?_ hn);intro x y hx hy hne e;have e2:=bnL_inj (by simp) e;exact hne (by rw[hF x hx,hF y hy,eff_congr e2])
 have:=Gw (m:=List.range (2 ^ L.length)) hnd fun v hv=>by
  obtain⟨x,_,rfl⟩:=List.mem_map.1 hv;have:=bnL_lt (L.map (F x));rw[List.length_map] at this;exact List.mem_range.2 this
 rwa [List.length_map,List.length_range] at this
section
variable {w0:World} {H:List (Nat × Obj)} {L:List (Md × List Md)} {D:Hd→Hd→Prop} {d:Sl} {cs:List Chm} {h:Hd}
theorem L3 (he:cs.map Chm.pl=L){c:Chm}(hc:c∈cs):(c.p,c.ms)∈L:=by rw[← he];exact List.mem_map.2 ⟨c,hc,rfl⟩
end
section
variable {p m m' n z:Md} {h x:Hd} {is:Bool}
theorem pat_self (p:Md):matM p p.2:=fun _ _ _=>rfl
theorem pat_least (hr:MdR p)(hh:HdOk h)(hm:matM p h):p.2=h∨hLt p.2 h:=by
 rcases I4 hr.o2 hh with a|a|⟨b,hb,hj,h1,h2⟩
 ·exact .inr a
 ·exact .inl a
 ·exfalso;have:=hm b hb (hr.sub b hb h2);rw[h1,h2] at this;cases this
def thnM (p m:Md):Md:=(hdOf fun b=>hbit p.1 b||hbit m.1 b,hdOf fun b=>if hbit m.1 b then hbit m.2 b else hbit p.2 b)
theorem thn_1 (p m:Md){b:Nat}(hb:b<160):hbit (thnM p m).1 b=(hbit p.1 b||hbit m.1 b):=Bz (fun b=>hbit p.1 b||hbit m.1 b) hb
theorem thn_2 (p m:Md){b:Nat}(hb:b<160):hbit (thnM p m).2 b=if hbit m.1 b then hbit m.2 b else hbit p.2 b:=Bz (fun b=>if hbit m.1 b then hbit m.2 b else hbit p.2 b) hb
theorem Gh (p m:Md):HdOk (thnM p m).1∧HdOk (thnM p m).2:=⟨Cm fun b=>hbit p.1 b||hbit m.1 b,Cm fun b=>if hbit m.1 b then hbit m.2 b else hbit p.2 b⟩
theorem thn_r (hp:MdR p)(hm:MdR m):MdR (thnM p m):=⟨(Gh p m).1,(Gh p m).2,fun b hb e=>by
 rw[thn_2 p m hb] at e;rw[thn_1 p m hb]
 split at e
 ·rename_i h1;rw[h1];simp
 ·rw[hp.sub b hb e];rfl⟩
theorem thn_mat (hp:MdR p)(hm:MdR m)(hx:HdOk x):matM (thnM p m) x↔∃ h,HdOk h∧matM p h∧x=appM m h:=by
 constructor
 ·intro k;refine⟨hdOf fun b=>if hbit p.1 b then hbit p.2 b else hbit x b,Cm _,fun b hb e=>by rw[Bz _ hb,if_pos e],Db hx (Fk _ _) fun b hb=> ?_⟩;rw[E3 _ _ hb];have h1:=k b hb;rw[thn_1 p m hb,thn_2 p m hb] at h1
  by_cases e:hbit m.1 b=true
  ·rw[if_pos e];rw[if_pos e] at h1;exact h1 (by rw[e];simp)
  ·rw[if_neg e,Bz _ hb];rw[if_neg e] at h1
   by_cases e2:hbit p.1 b=true
   ·rw[if_pos e2];exact h1 (by rw[e2];rfl)
   ·rw[if_neg e2]
 ·rintro⟨h,hh,k,rfl⟩ b hb e;rw[thn_1 p m hb] at e;rw[E3 _ _ hb,thn_2 p m hb]
  by_cases e1:hbit m.1 b=true
  ·rw[if_pos e1,if_pos e1]
  ·rw[if_neg e1,if_neg e1];simp[e1] at e;exact k b hb e
def ovlB (p q:Md):Bool:=(List.range 160).all fun b=> !(hbit p.1 b&&hbit q.1 b&&(hbit p.2 b !=hbit q.2 b))
def andM (p q:Md):Md:=(hdOf fun b=>hbit p.1 b||hbit q.1 b,hdOf fun b=>hbit p.2 b||hbit q.2 b)
theorem and_1 (p q:Md){b:Nat}(hb:b<160):hbit (andM p q).1 b=(hbit p.1 b||hbit q.1 b):=Bz (fun b=>hbit p.1 b||hbit q.1 b) hb
theorem and_2 (p q:Md){b:Nat}(hb:b<160):hbit (andM p q).2 b=(hbit p.2 b||hbit q.2 b):=Bz (fun b=>hbit p.2 b||hbit q.2 b) hb
theorem K9 (p q:Md):HdOk (andM p q).1∧HdOk (andM p q).2:=⟨Cm fun b=>hbit p.1 b||hbit q.1 b,Cm fun b=>hbit p.2 b||hbit q.2 b⟩
theorem ovl_iff {q:Md}:ovlB p q=true↔∀ b,b<160→hbit p.1 b=true→hbit q.1 b=true→hbit p.2 b=hbit q.2 b:=by
 unfold ovlB;rw[List.all_eq_true]
 constructor
 ·intro k b hb h1 h2;have:=k b (List.mem_range.2 hb);rw[h1,h2] at this
  simpa using this
 ·intro k b hb;have:=k b (List.mem_range.1 hb);cases h1:hbit p.1 b
  ·simp
  ·cases h2:hbit q.1 b
   ·simp
   ·simp[this h1 h2]
theorem and_r {q:Md}(hp:MdR p)(hq:MdR q):MdR (andM p q):=⟨(K9 p q).1,(K9 p q).2,fun b hb e=>by
 rw[and_2 p q hb] at e;rw[and_1 p q hb];rcases Bool.or_eq_true _ _ ▸ e with e|e
 ·rw[hp.sub b hb e];rfl
 ·rw[hq.sub b hb e];simp⟩
theorem and_mat {q:Md}(hp:MdR p)(hq:MdR q)(ho:ovlB p q=true):matM (andM p q) h↔matM p h∧matM q h:=by
 rw[ovl_iff] at ho;have key:∀ b,b<160→hbit (andM p q).1 b=(hbit p.1 b||hbit q.1 b)∧hbit (andM p q).2 b=(hbit p.2 b||hbit q.2 b):=fun b hb=>⟨and_1 p q hb,and_2 p q hb⟩
 constructor
 ·intro k;refine⟨fun b hb e=> ?_,fun b hb e=> ?_⟩
  ·have:=k b hb;rw[(key b hb).1,(key b hb).2,e] at this;rw[this rfl];cases e2:hbit q.2 b
   ·simp
   ·rw[ho b hb e (hq.sub b hb e2),e2];simp
  ·have:=k b hb;rw[(key b hb).1,(key b hb).2,e] at this;rw[this (by simp)];cases e2:hbit p.2 b
   ·simp
   ·rw[← ho b hb (hp.sub b hb e2) e,e2];simp
 ·rintro⟨k1,k2⟩ b hb e;rw[(key b hb).1] at e;rw[(key b hb).2];cases e1:hbit p.1 b with
  |true=>
   rw[k1 b hb e1];cases e2:hbit q.2 b
   ·simp
   ·rw[ho b hb e1 (hq.sub b hb e2),e2];simp
  |false=>
   rw[e1] at e;have h2:hbit p.2 b=false:=by
    cases e3:hbit p.2 b
    ·rfl
    ·rw[hp.sub b hb e3] at e1;cases e1
   rw[k2 b hb e,h2];simp
theorem ovl_no {q:Md}(ho: ¬ ovlB p q=true)(h1:matM p h)(h2:matM q h):False:=ho (ovl_iff.2 fun b hb e1 e2=>by rw[← h1 b hb e1,← h2 b hb e2])
end
section
variable {L:List (Md × List Md)} {t:Int} {p q:Po} {h:Hd} {is:Bool}
def sngL (L:List (Md × List Md)):List Hd:=(L.filter fun c=>decide (c.2.length>1)).map fun c=>c.1.2
theorem sng_ans (hL:RlOk L (den t p))(a:LstOf (sngL L) h is):Ans (AskP t 5 p q) h is:=by
 have one:∀ {c:Md × List Md} {h:Hd},c∈L→HdOk h→matM c.1 h→c.2.length≤1→∀ g g',den t p h g→den t p h g'→g=g':=fun {c h} hc hh hm hn g g' d d'=>by
  obtain⟨c1,hc1,hm1,m1,h1,rfl⟩:=(hL.say h hh g).2 d;obtain⟨c2,hc2,hm2,m2,h2,rfl⟩:=(hL.say h hh g').2 d';have same:∀ {a b:Md × List Md},a∈L→b∈L→matM a.1 h→matM b.1 h→a=b:=fun {a b} ha hb ma mb=>by
   obtain⟨i,hi,rfl⟩:=List.getElem_of_mem ha;obtain⟨j,hj,rfl⟩:=List.getElem_of_mem hb;rcases Nat.lt_trichotomy i j with e|e|e
   ·exact absurd ⟨ma,mb⟩ (List.pairwise_iff_getElem.1 (hL.one h) i j hi hj e)
   ·subst e;rfl
   ·exact absurd ⟨mb,ma⟩ (List.pairwise_iff_getElem.1 (hL.one h) j i hj hi e)
  obtain rfl:=same hc1 hc hm1 hm;obtain rfl:=same hc2 hc hm2 hm;obtain⟨i,hi,rfl⟩:=List.getElem_of_mem h1;obtain⟨j,hj,rfl⟩:=List.getElem_of_mem h2;have:i=j:=by omega
  subst this;rfl
 have two:∀ {c:Md × List Md} {h:Hd},c∈L→HdOk h→matM c.1 h→c.2.length>1→¬ ∀ g g',den t p h g→den t p h g'→g=g':=fun {c h} hc hh hm hn k=>by
  have hnd:=hL.nd h c hc hm;obtain⟨m0,m1,r,e⟩:∃ m0 m1 r,c.2=m0::m1::r:=by
   match h9:c.2,hn with
   |m0::m1::r,_=>exact⟨m0,m1,r,rfl⟩
   |[x],hn=>simp at hn
   |[],hn=>simp at hn
  have:=k (appM m0 h) (appM m1 h) ((hL.say h hh _).1 ⟨c,hc,hm,m0,by rw[e];simp,rfl⟩) ((hL.say h hh _).1 ⟨c,hc,hm,m1,by rw[e];simp,rfl⟩);rw[e] at hnd;simp[this] at hnd
 have ask:∀ h,AskP t 5 p q h↔∀ g g',den t p h g→den t p h g'→g=g':=fun h=>by simp[AskP]
 have some:∀ {g:Hd},HdOk g→¬ AskP t 5 p q g→∃ c∈L,matM c.1 g∧c.2.length>1:=fun {g} hg k=>by
  rw[ask] at k;have:∃ f,den t p g f:=Classical.byContradiction fun e=>k fun x y d=>absurd ⟨x,d⟩ e
  obtain⟨f,d⟩:=this;obtain⟨c,hc,hm,_⟩:=(hL.say g hg f).2 d;refine⟨c,hc,hm,Nat.lt_of_not_le fun e=>k (one hc hg hm e)⟩
 rcases a with ⟨a,b,c⟩|⟨a,b,c⟩
 ·refine .inl ⟨a,b,fun g hg=>Classical.byContradiction fun k=> ?_⟩;obtain⟨d,hd,hm,hn⟩:=some hg k;have:d.1.2∈sngL L:=List.mem_map.2 ⟨d,List.mem_filter.2 ⟨hd,decide_eq_true hn⟩,rfl⟩;rw[c] at this;cases this
 ·obtain⟨d,hd,rfl⟩:=List.mem_map.1 b;obtain⟨hd,hn⟩:=List.mem_filter.1 hd;have ok:=(hL.r d hd).1.o2;refine .inr ⟨a,ok,fun k=>two hd ok (pat_self _) (of_decide_eq_true hn) ((ask _).1 k),fun g hg hl=>Classical.byContradiction fun k=> ?_⟩;obtain⟨e,he,hm,hn2⟩:=some hg k;have h1:=c _ (List.mem_map.2 ⟨e,List.mem_filter.2 ⟨he,decide_eq_true hn2⟩,rfl⟩);rcases pat_least (hL.r e he).1 hg hm with h2|h2
  ·rw[h2] at h1;rcases h1 with h1|h1
   ·rw[h1] at hl;exact hl.irr
   ·exact(hl.trans h1).irr
  ·rcases h1 with h1|h1
   ·rw[h1] at hl;exact(hl.trans h2).irr
   ·exact((hl.trans h1).trans h2).irr
def imgL (L:List (Md × List Md)):List Md:=L.flatMap fun c=>c.2.map fun m=>thnM c.1 m
theorem Ju (hL:RlOk L (den t p)){x:Hd}(hx:HdOk x):(∃ z∈imgL L,matM z x)↔∃ h,HdOk h∧den t p h x:=by
 constructor
 ·rintro⟨z,hz,k⟩;obtain⟨c,hc,h1⟩:=List.mem_flatMap.1 hz;obtain⟨m,hm,rfl⟩:=List.mem_map.1 h1;obtain⟨h,hh,h2,e⟩:=(thn_mat (hL.r c hc).1 ((hL.r c hc).2 m hm) hx).1 k;exact⟨h,hh,(hL.say h hh x).1 ⟨c,hc,h2,m,hm,e⟩⟩
 ·rintro⟨h,hh,d⟩;obtain⟨c,hc,h2,m,hm,e⟩:=(hL.say h hh x).2 d;exact⟨_,List.mem_flatMap.2 ⟨c,hc,List.mem_map.2 ⟨m,hm,rfl⟩⟩,(thn_mat (hL.r c hc).1 ((hL.r c hc).2 m hm) hx).2 ⟨h,hh,h2,e⟩⟩
theorem La (hL:RlOk L (den t p)):∀ z∈imgL L,MdR z:=fun z hz=>by
 obtain⟨c,hc,h1⟩:=List.mem_flatMap.1 hz;obtain⟨m,hm,rfl⟩:=List.mem_map.1 h1;exact thn_r (hL.r c hc).1 ((hL.r c hc).2 m hm)
def metL (X Y:List Md):List Hd:=X.flatMap fun x=>(Y.filter (ovlB x)).map fun y=>(andM x y).2
theorem met_ans {M:List (Md × List Md)}(hL:RlOk L (den t p))(hM:RlOk M (den t q))(a:LstOf (metL (imgL L) (imgL M)) h is):Ans (DstP t p q) h is:=by
 have hin:∀ x∈metL (imgL L) (imgL M),HdOk x∧¬ DstP t p q x:=fun x hx=>by
  obtain⟨a,ha,h1⟩:=List.mem_flatMap.1 hx;obtain⟨b,hb,rfl⟩:=List.mem_map.1 h1;obtain⟨hb,ho⟩:=List.mem_filter.1 hb;have ra:=La hL a ha;have rb:=La hM b hb;have ok:=(and_r ra rb).o2;obtain⟨k1,k2⟩:=(and_mat ra rb ho).1 (pat_self _);exact⟨ok,fun k=>k ⟨(Ju hL ok).1 ⟨a,ha,k1⟩,(Ju hM ok).1 ⟨b,hb,k2⟩⟩⟩
 have hout:∀ y,HdOk y→¬ DstP t p q y→∃ x∈metL (imgL L) (imgL M),x=y∨hLt x y:=fun y hy k=>by
  obtain⟨h1,h2⟩:=Classical.not_not.1 k;obtain⟨a,ha,k1⟩:=(Ju hL hy).2 h1;obtain⟨b,hb,k2⟩:=(Ju hM hy).2 h2;have ra:=La hL a ha;have rb:=La hM b hb;have ho:ovlB a b=true:=Classical.byContradiction fun e=>ovl_no e k1 k2
  exact⟨_,List.mem_flatMap.2 ⟨a,ha,List.mem_map.2 ⟨b,List.mem_filter.2 ⟨hb,ho⟩,rfl⟩⟩,pat_least (and_r ra rb) hy ((and_mat ra rb ho).2 ⟨k1,k2⟩)⟩
 exact lst_ans hin hout a
end
section
variable {bs:List Nat} {ns ms:Ns} {a b id most r:Nat} {t:Int} {p q:Po} {D E:Hd→Hd→Prop}
structure Hs (bs:List Nat) (ns:Ns) (a:Nat) (D:Hd→Hd→Prop):Prop where
 lt:a<ns.length
 rep:Rep bs ns a D
 out:OutR bs D
theorem Hs.gr {N:Nat}(h:Hs bs ns a D)(hw:Wf N ns)(g:Gr N ns ms):Hs bs ms a D:=⟨Nat.lt_of_lt_of_le h.lt g.le,h.rep.gr hw h.lt g,h.out⟩
theorem Dt (hb:BsOk bs)(hF:p.Fit bs)(hw:Wf (2*bs.length) ns)(e:polF most bs t r p ns=some (id,ms)):Gr (2*bs.length) ns ms∧Hs bs ms id (den t p):=by
 obtain⟨g,l,k⟩:=Fj hb t r p hF hw e;exact⟨g,l,k,den_outR hF⟩
theorem hs_or (hw:Wf (2*bs.length) ns)(h1:Hs bs ns a D)(h2:Hs bs ns b E)(e:orF most ns a b=some (id,ms)):Gr (2*bs.length) ns ms∧Hs bs ms id fun h g=>D h g∨E h g:=by
 obtain⟨g,l,k⟩:=uni_ok hw h1.lt h2.lt h1.rep h2.rep e;exact⟨g,l,k,fun hh d=>d.elim (h1.out hh) (h2.out hh)⟩
theorem hs_seq (hb:BsOk bs)(hw:Wf (2*bs.length) ns)(h1:Hs bs ns a D)(h2:Hs bs ns b E)(e:seA most ns a b=some (id,ms)):Gr (2*bs.length) ns ms∧Hs bs ms id fun h g=>∃ m,D h m∧E m g:=by
 obtain⟨g,l,k⟩:=sq_rep hb hw h1.lt h2.lt (fun h d=>h1.out h d) h1.rep h2.rep e;refine⟨g,l,k,fun hh ⟨m,d1,d2⟩=> ?_⟩;obtain⟨o1,o2⟩:=h1.out hh d1;obtain⟨o3,o4⟩:=h2.out o1 d2;exact⟨o3,o2.trans o4⟩
theorem hs_dom (hb:BsOk bs)(hw:Wf (2*bs.length) ns)(h1:Hs bs ns a D)(e:domF most bs ns a=some (id,ms)):Gr (2*bs.length) ns ms∧Hs bs ms id fun h g=>g=h∧∃ f,D h f:=by
 obtain⟨g,l,k⟩:=domF_ok hb hw h1.lt h1.rep (fun h d=>h1.out h d) e;exact⟨g,l,k,fun hh d=>by rw[d.1];exact⟨hh, .refl _⟩⟩
theorem Il (hb:BsOk bs)(hw:Wf (2*bs.length) ns)(h1:Hs bs ns a D)(h2:Hs bs ns b E):Ans (fun h=>∀ g,D h g↔E h g) (dfH ns bs a b) (!decide (a≠b)):=same_ans hb hw h1.lt h2.lt h1.rep h2.rep h1.out h2.out
end
abbrev PF (fl:List Fd) (t:Int) (p:Po) (ns:Ns):Option (Nat × Ns):=polF 200000 (bsF fl) t (rdN (bsF fl)) p ns
abbrev N0 (fl:List Fd):Ns:=nsE (2*(bsF fl).length)
abbrev Gx (fl:List Fd) (tick:Int) (p1 p2:Po):Prop:=∀ a1 n1,PF fl tick p1 (N0 fl)=some (a1,n1)→∀ a2 n2,PF fl tick p2 n1=some (a2,n2)→False
theorem qeq_s {w0:World}{H:List (Nat × Obj)}{fl:List Fd}(hfl:FlOk fl)(tick:Int){m1:Pom}{p1:Po}(hI1:IsO fl m1 p1)(hF1:p1.Fit (bsF fl))(hM1:PoM w0 H m1){b1:Nat}(f1:Fnd H b1 (Cl (encPo m1) 28)){m2:Pom}{p2:Po}(hI2:IsO fl m2 p2)(hF2:p2.Fit (bsF fl))(hM2:PoM w0 H m2){b2:Nat}(f2:Fnd H b2 (Cl (encPo m2) 28)):QuS w0 fl tick 44 [.pointer (some ⟨b1,0,none⟩), .pointer (some ⟨b2,0,none⟩)] 12 (Ans (AskP tick 1 p1 p2)) (Gx fl tick p1 p2) H:=by
 intro dx db p mp v R hR hst hE;have hb:=Ef hfl;show FSpecP Tryz.prog w0 44 #[Value.agg #[.pointer (some ⟨p,0,none⟩), .int .i64 tick], .pointer (some ⟨b1,0,none⟩), .pointer (some ⟨b2,0,none⟩)] _ _ _ _;refine Bm Tryz.func44 U ntmps44 U (rD tb 2 U (e_ (Nr U cs_) ?_ U));rintro _ _ ⟨n3,rfl,rfl⟩;refine e_ (Ai zeroValue32 cs_) ?_ U;rintro _ _ ⟨n4,rfl,rfl⟩;refine rO tb 4 U (Bk 10 [(0,true),(1,true),(2,true),(4,true),(5,true),(3,false),(6,false),(7,false),(8,true),(9,true)] ((n4,Cl [.int .i64 0, .int .i64 0, .int .i64 0, .int .i64 0, .int .i64 0, .int .i64 0, .int .i64 0, .int .i64 0, .int .i64 0, .int .i64 0] 32)::(n3,Cl [.pointer (some ⟨p,0,none⟩), .int .i64 tick] 70)::R) mixd qkr (by exact sbt) ?_ B7);refine o_y U (Nn U isAgg70 sizeOf70 U (by first|exact Af fdd|exact As)) ?_ U Ac;refine o_y U (Nn U isAgg70 sizeOf70 U (by first|exact Af fdd|exact As)) ?_ U Ac;refine o_y U (Nn U isAgg28 sizeOf28 U (by first|exact Af (Fnd.mono f1 (List.Sublist.trans hR (by exact sbt)))|exact As)) ?_ U Ac;refine o_y U (Nn U isAgg70 sizeOf70 U (by first|exact Af fdd|exact As)) ?_ U Ac;refine o_y U (Nn U isAgg28 sizeOf28 U (by first|exact Af (Fnd.mono f2 (List.Sublist.trans hR (by exact sbt)))|exact As)) ?_ U Ac;refine o_p rfl (Ay (.cons (T rfl) (.cons (T rfl) .nil)) call46 (A3 (M:=SM (NewD fl 200000 dx db p mp) v (nsE (2*(bsF fl).length))) (E0 (R:=((n4,Cl [.int .i64 0, .int .i64 0, .int .i64 0, .int .i64 0, .int .i64 0, .int .i64 0, .int .i64 0, .int .i64 0, .int .i64 0, .int .i64 0] 32)::(n3,Cl [.pointer (some ⟨p,0,none⟩), .int .i64 tick] 70)::R)) hst (hE.mono (by exact sbt)) m1 p1 hI1 hF1 (hM1.mono (List.Sublist.trans hR (by exact sbt))) tick) (by repeat (first|exact Bt|exact LocL.h|apply LocL.t|apply LocL.a)))) ?_ (by rintro _ ⟨⟨v9,n9⟩,⟨e1,g9,hst9⟩,rfl⟩;(repeat refine B3 ?_);exact Bb ⟨(by intro a1 n1 f1;cases e1.symm.trans f1),by exact sbt⟩ (List.Sublist.refl _)) rfl Ac;rintro _ _ ⟨⟨id1,v1,ns1⟩,⟨rfl,e1,hst1⟩,rfl⟩
 dsimp only at e1 hst1
 obtain⟨g1,h1⟩:=Dt hb hF1 hst.w e1;refine⟨sbt,?_⟩;refine o_p rfl (Ay (.cons (T rfl) (.cons (T rfl) .nil)) call46 (A3 (M:=SM (NewD fl 200000 dx db p mp) v1 ns1) (E0 (R:=((n4,Cl [.int .i64 0, .int .i64 0, .int .i64 0, .int .i64 0, .int .i64 0, .int .i64 0, .int .i64 0, .int .i64 0, .int .i64 0, .int .i64 0] 32)::(n3,Cl [.pointer (some ⟨p,0,none⟩), .int .i64 tick] 70)::R)) hst1 (hE.mono (by exact sbt)) m2 p2 hI2 hF2 (hM2.mono (List.Sublist.trans hR (by exact sbt))) tick) (by repeat (first|exact Bt|exact LocL.h|apply LocL.t|apply LocL.a)))) ?_ (by rintro _ ⟨⟨v9,n9⟩,⟨e2,g9,hst9⟩,rfl⟩;(repeat refine B3 ?_);exact Bb ⟨(by intro a1 n1 f1;cases e1.symm.trans f1;intro a2 n2 f2;cases e2.symm.trans f2),by exact sbt⟩ (List.Sublist.refl _)) rfl Ac;rintro _ _ ⟨⟨id2,v2,ns2⟩,⟨rfl,e2,hst2⟩,rfl⟩
 dsimp only at e2 hst2
 obtain⟨g2,h2⟩:=Dt hb hF2 hst1.w e2;have h1:=h1.gr hst1.w g2;refine⟨sbt,?_⟩;refine o_e U (Al (qe3 U U U) call45 (Ii (D:=(NewD fl 200000 dx db p mp)) hst2 hb U (by repeat (first|exact List.sublist_append_left _ _|refine List.Sublist.cons _ ?_)) (hE.bits.mono (by exact sbt)) tick id1 id2 h1.lt h2.lt)) ?_ U Ac;rintro _ _ ⟨rfl,rfl⟩;refine⟨sbt,(rP tb 2 U (A4 U (e_ (Nq U U sizeOf32 .agg (Bh _) (Aj (Cg _ _ _ _)) (by repeat (first|exact Upd.h|apply Upd.t|apply Bl)) (by rw[Aj (Cg _ _ _ _)];rfl)) ?_ U)))⟩;rintro _ _ ⟨rfl,rfl⟩;refine rO tb 4 U (Bx U (.cellA (Aa U) isAgg32 sizeOf32 (Aj (Cg _ _ _ _)) (by first|exact As) (Nk U)) ?_);exact⟨_,⟨⟨dfH ns2 (bsF fl) id1 id2,!decide (id1≠id2),rfl,Cg _ _ _ _,ask_eq (Il hb hst2.w h1 h2)⟩,by exact sbt⟩,sb0⟩
abbrev J7 (fl:List Fd) (tick:Int) (p1 p2:Po):Prop:=∀ a1 n1,PF fl tick p1 (N0 fl)=some (a1,n1)→∀ a2 n2,PF fl tick p2 n1=some (a2,n2)→∀ a3 n3,orF 200000 n2 a1 a2=some (a3,n3)→False
theorem qinc_s {w0:World}{H:List (Nat × Obj)}{fl:List Fd}(hfl:FlOk fl)(tick:Int){m1:Pom}{p1:Po}(hI1:IsO fl m1 p1)(hF1:p1.Fit (bsF fl))(hM1:PoM w0 H m1){b1:Nat}(f1:Fnd H b1 (Cl (encPo m1) 28)){m2:Pom}{p2:Po}(hI2:IsO fl m2 p2)(hF2:p2.Fit (bsF fl))(hM2:PoM w0 H m2){b2:Nat}(f2:Fnd H b2 (Cl (encPo m2) 28)):QuS w0 fl tick 47 [.pointer (some ⟨b1,0,none⟩), .pointer (some ⟨b2,0,none⟩)] 12 (Ans (AskP tick 2 p1 p2)) (J7 fl tick p1 p2) H:=by
 intro dx db p mp v R hR hst hE;have hb:=Ef hfl;show FSpecP Tryz.prog w0 47 #[Value.agg #[.pointer (some ⟨p,0,none⟩), .int .i64 tick], .pointer (some ⟨b1,0,none⟩), .pointer (some ⟨b2,0,none⟩)] _ _ _ _;refine Bm Tryz.func47 U ntmps47 U (rD tb 2 U (e_ (Nr U cs_) ?_ U));rintro _ _ ⟨n3,rfl,rfl⟩;refine e_ (Ai zeroValue32 cs_) ?_ U;rintro _ _ ⟨n4,rfl,rfl⟩;refine rO tb 5 U ?_;refine y_ (Nn U isAgg70 sizeOf70 U (by first|exact Af fdd|exact As)) ?_ U;refine y_ (Nn U isAgg28 sizeOf28 U (by first|exact Af (Fnd.mono f1 (List.Sublist.trans hR (by exact sbt)))|exact As)) ?_ U;refine p_ (Ay (.cons (T rfl) (.cons (T rfl) .nil)) call46 (A3 (M:=SM (NewD fl 200000 dx db p mp) v (nsE (2*(bsF fl).length))) (E0 (R:=((n4,Cl [.int .i64 0, .int .i64 0, .int .i64 0, .int .i64 0, .int .i64 0, .int .i64 0, .int .i64 0, .int .i64 0, .int .i64 0, .int .i64 0] 32)::(n3,Cl [.pointer (some ⟨p,0,none⟩), .int .i64 tick] 70)::R)) hst (hE.mono (by exact sbt)) m1 p1 hI1 hF1 (hM1.mono (List.Sublist.trans hR (by exact sbt))) tick) (by repeat (first|exact Bt|exact LocL.h|apply LocL.t|apply LocL.a)))) ?_ (by rintro _ ⟨⟨v9,n9⟩,⟨e1,g9,hst9⟩,rfl⟩;(repeat refine B3 ?_);exact Bb ⟨(by intro a1 n1 f1;cases e1.symm.trans f1),by exact sbt⟩ (List.Sublist.refl _)) rfl;rintro _ _ ⟨⟨id1,v1,ns1⟩,⟨rfl,e1,hst1⟩,rfl⟩
 dsimp only at e1 hst1
 obtain⟨g1,h1⟩:=Dt hb hF1 hst.w e1;refine rO tb 4 U (Bk 15 [(0,true),(1,true),(2,true),(3,true),(4,true),(5,true),(11,true),(6,false),(7,false),(8,true),(9,true),(10,false),(12,false),(13,true),(14,true)] ((n4,Cl [.int .i64 0, .int .i64 0, .int .i64 0, .int .i64 0, .int .i64 0, .int .i64 0, .int .i64 0, .int .i64 0, .int .i64 0, .int .i64 0] 32)::(n3,Cl [.pointer (some ⟨p,0,none⟩), .int .i64 tick] 70)::R) mixd qkr (by exact sbt) ?_ B7);refine o_y U (Nn U isAgg70 sizeOf70 U (by first|exact Af fdd|exact As)) ?_ U Ac;refine rP tb 1 U ?_;refine o_y U (Nl U isAgg68 (by first|exact c_o|exact Af fdd 0 _ U)) ?_ U Ac;refine rP tb 1 U ?_;refine o_y U (Nn U isAgg70 sizeOf70 U (by first|exact Af fdd|exact As)) ?_ U Ac;refine o_y U (Nn U isAgg28 sizeOf28 U (by first|exact Af (Fnd.mono f2 (List.Sublist.trans hR (by exact sbt)))|exact As)) ?_ U Ac;refine rP tb 1 U ?_;refine o_p rfl (Ay (.cons (T rfl) (.cons (T rfl) .nil)) call46 (A3 (M:=SM (NewD fl 200000 dx db p mp) v1 ns1) (E0 (R:=((n4,Cl [.int .i64 0, .int .i64 0, .int .i64 0, .int .i64 0, .int .i64 0, .int .i64 0, .int .i64 0, .int .i64 0, .int .i64 0, .int .i64 0] 32)::(n3,Cl [.pointer (some ⟨p,0,none⟩), .int .i64 tick] 70)::R)) hst1 (hE.mono (by exact sbt)) m2 p2 hI2 hF2 (hM2.mono (List.Sublist.trans hR (by exact sbt))) tick) (by repeat (first|exact Bt|exact LocL.h|apply LocL.t|apply LocL.a)))) ?_ (by rintro _ ⟨⟨v9,n9⟩,⟨e2,g9,hst9⟩,rfl⟩;(repeat refine B3 ?_);exact Bb ⟨(by intro a1 n1 f1;cases e1.symm.trans f1;intro a2 n2 f2;cases e2.symm.trans f2),by exact sbt⟩ (List.Sublist.refl _)) rfl Ac;rintro _ _ ⟨⟨id2,v2,ns2⟩,⟨rfl,e2,hst2⟩,rfl⟩
 dsimp only at e2 hst2
 obtain⟨g2,h2⟩:=Dt hb hF2 hst1.w e2;have h1:=h1.gr hst1.w g2;refine⟨sbt,(o_e U (Al (qe3 U U U) call49 (B9 (M:=SM (NewD fl 200000 dx db p mp) v2 ns2) (union_s (R:=((n4,Cl [.int .i64 0, .int .i64 0, .int .i64 0, .int .i64 0, .int .i64 0, .int .i64 0, .int .i64 0, .int .i64 0, .int .i64 0, .int .i64 0] 32)::(n3,Cl [.pointer (some ⟨p,0,none⟩), .int .i64 tick] 70)::R)) hst2 id1 id2 h1.lt h2.lt) (by repeat (first|exact Bt|exact LocL.h|apply LocL.t|apply LocL.a)))) ?_ U Ac)⟩;rintro _ _ ⟨⟨id3,ee3,v3,ns3⟩,⟨rfl,hc3,hst3⟩,rfl⟩
 dsimp only at hc3 hst3
 refine⟨sbt,(rP tb 2 U ?_)⟩;refine o_p rfl (Ay (.cons (T rfl) (.cons (T rfl) .nil)) call48 (Hf id3 ee3 (errV 12) (fun he=>by rw[(Cp hc3 he).2.2.1]))) ?_ (by rintro _ ⟨he,rfl⟩;obtain⟨e3, -, -,rfl⟩:=Cp hc3 he;(repeat refine B3 ?_);exact Bb ⟨(by intro a1 n1 f1;cases e1.symm.trans f1;intro a2 n2 f2;cases e2.symm.trans f2;intro a3 n3 f3;cases e3.symm.trans f3),by exact sbt⟩ (List.Sublist.refl _)) rfl Ac;rintro _ _ ⟨⟨⟩,⟨rfl,he3⟩,rfl⟩;have e3:=He hc3 he3;obtain⟨g3,h3⟩:=hs_or hst2.w h1 h2 e3;have h1:=h1.gr hst2.w g3;have h2:=h2.gr hst2.w g3;refine⟨sbt,?_⟩;refine o_e U (Al (qe3 U U U) call45 (Ii (D:=(NewD fl 200000 dx db p mp)) hst3 hb U (by repeat (first|exact List.sublist_append_left _ _|refine List.Sublist.cons _ ?_)) (hE.bits.mono (by exact sbt)) tick id3 id1 h3.lt h1.lt)) ?_ U Ac;rintro _ _ ⟨rfl,rfl⟩;refine⟨sbt,(rP tb 2 U (A4 U (e_ (Nq U U sizeOf32 .agg (Bh _) (Aj (Cg _ _ _ _)) (by repeat (first|exact Upd.h|apply Upd.t|apply Bl)) (by rw[Aj (Cg _ _ _ _)];rfl)) ?_ U)))⟩;rintro _ _ ⟨rfl,rfl⟩;refine rO tb 4 U (Bx U (.cellA (Aa U) isAgg32 sizeOf32 (Aj (Cg _ _ _ _)) (by first|exact As) (Nk U)) ?_);exact⟨_,⟨⟨dfH ns3 (bsF fl) id3 id1,!decide (id3≠id1),rfl,Cg _ _ _ _,ask_inc (Il hb hst3.w h3 h1)⟩,by exact sbt⟩,sb0⟩
abbrev Jv (fl:List Fd) (tick:Int) (p1:Po):Prop:=∀ a1 n1,PF fl tick p1 (N0 fl)=some (a1,n1)→∀ a2 n2,PF fl tick (.fil .fls) n1=some (a2,n2)→False
theorem qempty_s {w0:World}{H:List (Nat × Obj)}{fl:List Fd}(hfl:FlOk fl)(tick:Int){m1:Pom}{p1:Po}(hI1:IsO fl m1 p1)(hF1:p1.Fit (bsF fl))(hM1:PoM w0 H m1){b1:Nat}(f1:Fnd H b1 (Cl (encPo m1) 28)):QuS w0 fl tick 54 [.pointer (some ⟨b1,0,none⟩)] 12 (Ans (AskP tick 3 p1 p1)) (Jv fl tick p1) H:=by
 intro dx db p mp v R hR hst hE;have hb:=Ef hfl;show FSpecP Tryz.prog w0 54 #[Value.agg #[.pointer (some ⟨p,0,none⟩), .int .i64 tick], .pointer (some ⟨b1,0,none⟩)] _ _ _ _;refine Bm Tryz.func54 U ntmps54 U (rD tb 2 U (e_ (Nr U cs_) ?_ U));rintro _ _ ⟨n2,rfl,rfl⟩;refine e_ (Ai zeroValue32 cs_) ?_ U;rintro _ _ ⟨n3,rfl,rfl⟩;refine rO tb 4 U (Bk 9 [(0,true),(1,true),(2,true),(4,true),(3,false),(5,false),(6,false),(7,true),(8,true)] ((n3,Cl [.int .i64 0, .int .i64 0, .int .i64 0, .int .i64 0, .int .i64 0, .int .i64 0, .int .i64 0, .int .i64 0, .int .i64 0, .int .i64 0] 32)::(n2,Cl [.pointer (some ⟨p,0,none⟩), .int .i64 tick] 70)::R) mixd qkr (by exact sbt) ?_ B7);refine o_y U (Nn U isAgg70 sizeOf70 U (by first|exact Af fdd|exact As)) ?_ U Ac;refine o_y U (Nn U isAgg70 sizeOf70 U (by first|exact Af fdd|exact As)) ?_ U Ac;refine o_y U (Nn U isAgg28 sizeOf28 U (by first|exact Af (Fnd.mono f1 (List.Sublist.trans hR (by exact sbt)))|exact As)) ?_ U Ac;refine o_y U (Nn U isAgg70 sizeOf70 U (by first|exact Af fdd|exact As)) ?_ U Ac;refine o_p rfl (Ay (.cons (T rfl) (.cons (T rfl) .nil)) call46 (A3 (M:=SM (NewD fl 200000 dx db p mp) v (nsE (2*(bsF fl).length))) (E0 (R:=((n3,Cl [.int .i64 0, .int .i64 0, .int .i64 0, .int .i64 0, .int .i64 0, .int .i64 0, .int .i64 0, .int .i64 0, .int .i64 0, .int .i64 0] 32)::(n2,Cl [.pointer (some ⟨p,0,none⟩), .int .i64 tick] 70)::R)) hst (hE.mono (by exact sbt)) m1 p1 hI1 hF1 (hM1.mono (List.Sublist.trans hR (by exact sbt))) tick) (by repeat (first|exact Bt|exact LocL.h|apply LocL.t|apply LocL.a)))) ?_ (by rintro _ ⟨⟨v9,n9⟩,⟨e1,g9,hst9⟩,rfl⟩;(repeat refine B3 ?_);exact Bb ⟨(by intro a1 n1 f1;cases e1.symm.trans f1),by exact sbt⟩ (List.Sublist.refl _)) rfl Ac;rintro _ _ ⟨⟨id1,v1,ns1⟩,⟨rfl,e1,hst1⟩,rfl⟩
 dsimp only at e1 hst1
 obtain⟨g1,h1⟩:=Dt hb hF1 hst.w e1;refine⟨sbt,?_⟩;refine o_p rfl (Ay (.cons (T rfl) .nil) call55 (A3 (M:=SM (NewD fl 200000 dx db p mp) v1 ns1) (qnone_s (R:=((n3,Cl [.int .i64 0, .int .i64 0, .int .i64 0, .int .i64 0, .int .i64 0, .int .i64 0, .int .i64 0, .int .i64 0, .int .i64 0, .int .i64 0] 32)::(n2,Cl [.pointer (some ⟨p,0,none⟩), .int .i64 tick] 70)::R)) hst1 (hE.mono (by exact sbt)) tick) (by repeat (first|exact Bt|exact LocL.h|apply LocL.t|apply LocL.a)))) ?_ (by rintro _ ⟨⟨v9,n9⟩,⟨e2,g9,hst9⟩,rfl⟩;(repeat refine B3 ?_);exact Bb ⟨(by intro a1 n1 f1;cases e1.symm.trans f1;intro a2 n2 f2;cases e2.symm.trans f2),by exact sbt⟩ (List.Sublist.refl _)) rfl Ac;rintro _ _ ⟨⟨id2,v2,ns2⟩,⟨rfl,e2,hst2⟩,rfl⟩
 dsimp only at e2 hst2
 obtain⟨g2,h2⟩:=Dt hb (p:= .fil .fls) trivial hst1.w e2;have h1:=h1.gr hst1.w g2;refine⟨sbt,?_⟩;refine o_e U (Al (qe3 U U U) call45 (Ii (D:=(NewD fl 200000 dx db p mp)) hst2 hb U (by repeat (first|exact List.sublist_append_left _ _|refine List.Sublist.cons _ ?_)) (hE.bits.mono (by exact sbt)) tick id1 id2 h1.lt h2.lt)) ?_ U Ac;rintro _ _ ⟨rfl,rfl⟩;refine⟨sbt,(rP tb 2 U (A4 U (e_ (Nq U U sizeOf32 .agg (Bh _) (Aj (Cg _ _ _ _)) (by repeat (first|exact Upd.h|apply Upd.t|apply Bl)) (by rw[Aj (Cg _ _ _ _)];rfl)) ?_ U)))⟩;rintro _ _ ⟨rfl,rfl⟩;refine rO tb 4 U (Bx U (.cellA (Aa U) isAgg32 sizeOf32 (Aj (Cg _ _ _ _)) (by first|exact As) (Nk U)) ?_);exact⟨_,⟨⟨dfH ns2 (bsF fl) id1 id2,!decide (id1≠id2),rfl,Cg _ _ _ _,ask_none (Il hb hst2.w h1 h2)⟩,by exact sbt⟩,sb0⟩
abbrev Jw (fl:List Fd) (tick:Int) (p1:Po):Prop:=∀ a1 n1,PF fl tick p1 (N0 fl)=some (a1,n1)→∀ a2 n2,domF 200000 (bsF fl) n1 a1=some (a2,n2)→∀ a3 n3,PF fl tick (.fil .tru) n2=some (a3,n3)→False
theorem qtotal_s {w0:World}{H:List (Nat × Obj)}{fl:List Fd}(hfl:FlOk fl)(tick:Int){m1:Pom}{p1:Po}(hI1:IsO fl m1 p1)(hF1:p1.Fit (bsF fl))(hM1:PoM w0 H m1){b1:Nat}(f1:Fnd H b1 (Cl (encPo m1) 28)):QuS w0 fl tick 56 [.pointer (some ⟨b1,0,none⟩)] 12 (Ans (AskP tick 4 p1 p1)) (Jw fl tick p1) H:=by
 intro dx db p mp v R hR hst hE;have hb:=Ef hfl;show FSpecP Tryz.prog w0 56 #[Value.agg #[.pointer (some ⟨p,0,none⟩), .int .i64 tick], .pointer (some ⟨b1,0,none⟩)] _ _ _ _;refine Bm Tryz.func56 U ntmps56 U (rD tb 2 U (e_ (Nr U cs_) ?_ U));rintro _ _ ⟨n2,rfl,rfl⟩;refine e_ (Ai zeroValue32 cs_) ?_ U;rintro _ _ ⟨n3,rfl,rfl⟩;refine rO tb 4 U (Bk 11 [(0,true),(1,true),(2,true),(3,true),(6,true),(4,false),(5,false),(7,false),(8,false),(9,true),(10,true)] ((n3,Cl [.int .i64 0, .int .i64 0, .int .i64 0, .int .i64 0, .int .i64 0, .int .i64 0, .int .i64 0, .int .i64 0, .int .i64 0, .int .i64 0] 32)::(n2,Cl [.pointer (some ⟨p,0,none⟩), .int .i64 tick] 70)::R) mixd qkr (by exact sbt) ?_ B7);refine o_y U (Nn U isAgg70 sizeOf70 U (by first|exact Af fdd|exact As)) ?_ U Ac;refine o_y U (Nn U isAgg70 sizeOf70 U (by first|exact Af fdd|exact As)) ?_ U Ac;refine o_y U (Nn U isAgg70 sizeOf70 U (by first|exact Af fdd|exact As)) ?_ U Ac;refine o_y U (Nn U isAgg28 sizeOf28 U (by first|exact Af (Fnd.mono f1 (List.Sublist.trans hR (by exact sbt)))|exact As)) ?_ U Ac;refine o_y U (Nn U isAgg70 sizeOf70 U (by first|exact Af fdd|exact As)) ?_ U Ac;refine o_p rfl (Ay (.cons (T rfl) (.cons (T rfl) .nil)) call46 (A3 (M:=SM (NewD fl 200000 dx db p mp) v (nsE (2*(bsF fl).length))) (E0 (R:=((n3,Cl [.int .i64 0, .int .i64 0, .int .i64 0, .int .i64 0, .int .i64 0, .int .i64 0, .int .i64 0, .int .i64 0, .int .i64 0, .int .i64 0] 32)::(n2,Cl [.pointer (some ⟨p,0,none⟩), .int .i64 tick] 70)::R)) hst (hE.mono (by exact sbt)) m1 p1 hI1 hF1 (hM1.mono (List.Sublist.trans hR (by exact sbt))) tick) (by repeat (first|exact Bt|exact LocL.h|apply LocL.t|apply LocL.a)))) ?_ (by rintro _ ⟨⟨v9,n9⟩,⟨e1,g9,hst9⟩,rfl⟩;(repeat refine B3 ?_);exact Bb ⟨(by intro a1 n1 f1;cases e1.symm.trans f1),by exact sbt⟩ (List.Sublist.refl _)) rfl Ac;rintro _ _ ⟨⟨id1,v1,ns1⟩,⟨rfl,e1,hst1⟩,rfl⟩
 dsimp only at e1 hst1
 obtain⟨g1,h1⟩:=Dt hb hF1 hst.w e1;refine⟨sbt,?_⟩;refine o_p rfl (Ay (.cons (T rfl) (.cons (T rfl) .nil)) call57 (A3 (M:=SM (NewD fl 200000 dx db p mp) v1 ns1) (qdom_s (R:=((n3,Cl [.int .i64 0, .int .i64 0, .int .i64 0, .int .i64 0, .int .i64 0, .int .i64 0, .int .i64 0, .int .i64 0, .int .i64 0, .int .i64 0] 32)::(n2,Cl [.pointer (some ⟨p,0,none⟩), .int .i64 tick] 70)::R)) hst1 (hE.mono (by exact sbt)) tick id1 h1.lt) (by repeat (first|exact Bt|exact LocL.h|apply LocL.t|apply LocL.a)))) ?_ (by rintro _ ⟨⟨v9,n9⟩,⟨e2,g9,hst9⟩,rfl⟩;(repeat refine B3 ?_);exact Bb ⟨(by intro a1 n1 f1;cases e1.symm.trans f1;intro a2 n2 f2;cases e2.symm.trans f2),by exact sbt⟩ (List.Sublist.refl _)) rfl Ac;rintro _ _ ⟨⟨id2,v2,ns2⟩,⟨rfl,e2,hst2⟩,rfl⟩
 dsimp only at e2 hst2
 obtain⟨g2,h2⟩:=hs_dom hb hst1.w h1 e2;have h1:=h1.gr hst1.w g2;refine⟨sbt,?_⟩;refine o_p rfl (Ay (.cons (T rfl) .nil) call58 (A3 (M:=SM (NewD fl 200000 dx db p mp) v2 ns2) (qall_s (R:=((n3,Cl [.int .i64 0, .int .i64 0, .int .i64 0, .int .i64 0, .int .i64 0, .int .i64 0, .int .i64 0, .int .i64 0, .int .i64 0, .int .i64 0] 32)::(n2,Cl [.pointer (some ⟨p,0,none⟩), .int .i64 tick] 70)::R)) hst2 (hE.mono (by exact sbt)) tick) (by repeat (first|exact Bt|exact LocL.h|apply LocL.t|apply LocL.a)))) ?_ (by rintro _ ⟨⟨v9,n9⟩,⟨e3,g9,hst9⟩,rfl⟩;(repeat refine B3 ?_);exact Bb ⟨(by intro a1 n1 f1;cases e1.symm.trans f1;intro a2 n2 f2;cases e2.symm.trans f2;intro a3 n3 f3;cases e3.symm.trans f3),by exact sbt⟩ (List.Sublist.refl _)) rfl Ac;rintro _ _ ⟨⟨id3,v3,ns3⟩,⟨rfl,e3,hst3⟩,rfl⟩
 dsimp only at e3 hst3
 obtain⟨g3,h3⟩:=Dt hb (p:= .fil .tru) trivial hst2.w e3;have h1:=h1.gr hst2.w g3;have h2:=h2.gr hst2.w g3;refine⟨sbt,?_⟩;refine o_e U (Al (qe3 U U U) call45 (Ii (D:=(NewD fl 200000 dx db p mp)) hst3 hb U (by repeat (first|exact List.sublist_append_left _ _|refine List.Sublist.cons _ ?_)) (hE.bits.mono (by exact sbt)) tick id2 id3 h2.lt h3.lt)) ?_ U Ac;rintro _ _ ⟨rfl,rfl⟩;refine⟨sbt,(rP tb 2 U (A4 U (e_ (Nq U U sizeOf32 .agg (Bh _) (Aj (Cg _ _ _ _)) (by repeat (first|exact Upd.h|apply Upd.t|apply Bl)) (by rw[Aj (Cg _ _ _ _)];rfl)) ?_ U)))⟩;rintro _ _ ⟨rfl,rfl⟩;refine rO tb 4 U (Bx U (.cellA (Aa U) isAgg32 sizeOf32 (Aj (Cg _ _ _ _)) (by first|exact As) (Nk U)) ?_);exact⟨_,⟨⟨dfH ns3 (bsF fl) id2 id3,!decide (id2≠id3),rfl,Cg _ _ _ _,ask_tot (Il hb hst3.w h2 h3)⟩,by exact sbt⟩,sb0⟩
abbrev Jx (fl:List Fd) (tick:Int) (p1 p2:Po):Prop:=∀ a1 n1,PF fl tick p1 (N0 fl)=some (a1,n1)→∀ a2 n2,domF 200000 (bsF fl) n1 a1=some (a2,n2)→∀ a3 n3,PF fl tick p2 n2=some (a3,n3)→∀ a4 n4,domF 200000 (bsF fl) n3 a3=some (a4,n4)→∀ a5 n5,seA 200000 n4 a2 a4=some (a5,n5)→∀ a6 n6,PF fl tick (.fil .fls) n5=some (a6,n6)→False
theorem qapart_s {w0:World}{H:List (Nat × Obj)}{fl:List Fd}(hfl:FlOk fl)(tick:Int){m1:Pom}{p1:Po}(hI1:IsO fl m1 p1)(hF1:p1.Fit (bsF fl))(hM1:PoM w0 H m1){b1:Nat}(f1:Fnd H b1 (Cl (encPo m1) 28)){m2:Pom}{p2:Po}(hI2:IsO fl m2 p2)(hF2:p2.Fit (bsF fl))(hM2:PoM w0 H m2){b2:Nat}(f2:Fnd H b2 (Cl (encPo m2) 28)):QuS w0 fl tick 64 [.pointer (some ⟨b1,0,none⟩), .pointer (some ⟨b2,0,none⟩)] 12 (Ans (AskP tick 6 p1 p2)) (Jx fl tick p1 p2) H:=by
 intro dx db p mp v R hR hst hE;have hb:=Ef hfl;show FSpecP Tryz.prog w0 64 #[Value.agg #[.pointer (some ⟨p,0,none⟩), .int .i64 tick], .pointer (some ⟨b1,0,none⟩), .pointer (some ⟨b2,0,none⟩)] _ _ _ _;refine Bm Tryz.func64 U ntmps64 U (rD tb 2 U (e_ (Nr U cs_) ?_ U));rintro _ _ ⟨n3,rfl,rfl⟩;refine e_ (Ai zeroValue32 cs_) ?_ U;rintro _ _ ⟨n4,rfl,rfl⟩;refine rO tb 4 U (Bk 22 [(0,true),(1,true),(2,true),(3,true),(4,true),(5,true),(8,true),(9,true),(10,true),(17,true),(6,false),(7,false),(11,false),(12,false),(13,false),(14,true),(15,true),(16,false),(18,false),(19,false),(20,true),(21,true)] ((n4,Cl [.int .i64 0, .int .i64 0, .int .i64 0, .int .i64 0, .int .i64 0, .int .i64 0, .int .i64 0, .int .i64 0, .int .i64 0, .int .i64 0] 32)::(n3,Cl [.pointer (some ⟨p,0,none⟩), .int .i64 tick] 70)::R) mixd qkr (by exact sbt) ?_ B7);refine o_y U (Nn U isAgg70 sizeOf70 U (by first|exact Af fdd|exact As)) ?_ U Ac;refine rP tb 1 U ?_;refine o_y U (Nl U isAgg68 (by first|exact c_o|exact Af fdd 0 _ U)) ?_ U Ac;refine o_y U (Nn U isAgg70 sizeOf70 U (by first|exact Af fdd|exact As)) ?_ U Ac;refine o_y U (Nn U isAgg70 sizeOf70 U (by first|exact Af fdd|exact As)) ?_ U Ac;refine o_y U (Nn U isAgg28 sizeOf28 U (by first|exact Af (Fnd.mono f1 (List.Sublist.trans hR (by exact sbt)))|exact As)) ?_ U Ac;refine o_y U (Nn U isAgg70 sizeOf70 U (by first|exact Af fdd|exact As)) ?_ U Ac;refine o_y U (Nn U isAgg70 sizeOf70 U (by first|exact Af fdd|exact As)) ?_ U Ac;refine o_y U (Nn U isAgg28 sizeOf28 U (by first|exact Af (Fnd.mono f2 (List.Sublist.trans hR (by exact sbt)))|exact As)) ?_ U Ac;refine o_y U (Nn U isAgg70 sizeOf70 U (by first|exact Af fdd|exact As)) ?_ U Ac;refine o_p rfl (Ay (.cons (T rfl) (.cons (T rfl) .nil)) call46 (A3 (M:=SM (NewD fl 200000 dx db p mp) v (nsE (2*(bsF fl).length))) (E0 (R:=((n4,Cl [.int .i64 0, .int .i64 0, .int .i64 0, .int .i64 0, .int .i64 0, .int .i64 0, .int .i64 0, .int .i64 0, .int .i64 0, .int .i64 0] 32)::(n3,Cl [.pointer (some ⟨p,0,none⟩), .int .i64 tick] 70)::R)) hst (hE.mono (by exact sbt)) m1 p1 hI1 hF1 (hM1.mono (List.Sublist.trans hR (by exact sbt))) tick) (by repeat (first|exact Bt|exact LocL.h|apply LocL.t|apply LocL.a)))) ?_ (by rintro _ ⟨⟨v9,n9⟩,⟨e1,g9,hst9⟩,rfl⟩;(repeat refine B3 ?_);exact Bb ⟨(by intro a1 n1 f1;cases e1.symm.trans f1),by exact sbt⟩ (List.Sublist.refl _)) rfl Ac;rintro _ _ ⟨⟨id1,v1,ns1⟩,⟨rfl,e1,hst1⟩,rfl⟩
 dsimp only at e1 hst1
 obtain⟨g1,h1⟩:=Dt hb hF1 hst.w e1;refine⟨sbt,?_⟩;refine o_p rfl (Ay (.cons (T rfl) (.cons (T rfl) .nil)) call57 (A3 (M:=SM (NewD fl 200000 dx db p mp) v1 ns1) (qdom_s (R:=((n4,Cl [.int .i64 0, .int .i64 0, .int .i64 0, .int .i64 0, .int .i64 0, .int .i64 0, .int .i64 0, .int .i64 0, .int .i64 0, .int .i64 0] 32)::(n3,Cl [.pointer (some ⟨p,0,none⟩), .int .i64 tick] 70)::R)) hst1 (hE.mono (by exact sbt)) tick id1 h1.lt) (by repeat (first|exact Bt|exact LocL.h|apply LocL.t|apply LocL.a)))) ?_ (by rintro _ ⟨⟨v9,n9⟩,⟨e2,g9,hst9⟩,rfl⟩;(repeat refine B3 ?_);exact Bb ⟨(by intro a1 n1 f1;cases e1.symm.trans f1;intro a2 n2 f2;cases e2.symm.trans f2),by exact sbt⟩ (List.Sublist.refl _)) rfl Ac;rintro _ _ ⟨⟨id2,v2,ns2⟩,⟨rfl,e2,hst2⟩,rfl⟩
 dsimp only at e2 hst2
 obtain⟨g2,h2⟩:=hs_dom hb hst1.w h1 e2;have h1:=h1.gr hst1.w g2;refine⟨sbt,?_⟩;refine o_p rfl (Ay (.cons (T rfl) (.cons (T rfl) .nil)) call46 (A3 (M:=SM (NewD fl 200000 dx db p mp) v2 ns2) (E0 (R:=((n4,Cl [.int .i64 0, .int .i64 0, .int .i64 0, .int .i64 0, .int .i64 0, .int .i64 0, .int .i64 0, .int .i64 0, .int .i64 0, .int .i64 0] 32)::(n3,Cl [.pointer (some ⟨p,0,none⟩), .int .i64 tick] 70)::R)) hst2 (hE.mono (by exact sbt)) m2 p2 hI2 hF2 (hM2.mono (List.Sublist.trans hR (by exact sbt))) tick) (by repeat (first|exact Bt|exact LocL.h|apply LocL.t|apply LocL.a)))) ?_ (by rintro _ ⟨⟨v9,n9⟩,⟨e3,g9,hst9⟩,rfl⟩;(repeat refine B3 ?_);exact Bb ⟨(by intro a1 n1 f1;cases e1.symm.trans f1;intro a2 n2 f2;cases e2.symm.trans f2;intro a3 n3 f3;cases e3.symm.trans f3),by exact sbt⟩ (List.Sublist.refl _)) rfl Ac;rintro _ _ ⟨⟨id3,v3,ns3⟩,⟨rfl,e3,hst3⟩,rfl⟩
 dsimp only at e3 hst3
 obtain⟨g3,h3⟩:=Dt hb hF2 hst2.w e3;have h1:=h1.gr hst2.w g3;have h2:=h2.gr hst2.w g3;refine⟨sbt,?_⟩;refine o_p rfl (Ay (.cons (T rfl) (.cons (T rfl) .nil)) call57 (A3 (M:=SM (NewD fl 200000 dx db p mp) v3 ns3) (qdom_s (R:=((n4,Cl [.int .i64 0, .int .i64 0, .int .i64 0, .int .i64 0, .int .i64 0, .int .i64 0, .int .i64 0, .int .i64 0, .int .i64 0, .int .i64 0] 32)::(n3,Cl [.pointer (some ⟨p,0,none⟩), .int .i64 tick] 70)::R)) hst3 (hE.mono (by exact sbt)) tick id3 h3.lt) (by repeat (first|exact Bt|exact LocL.h|apply LocL.t|apply LocL.a)))) ?_ (by rintro _ ⟨⟨v9,n9⟩,⟨e4,g9,hst9⟩,rfl⟩;(repeat refine B3 ?_);exact Bb ⟨(by intro a1 n1 f1;cases e1.symm.trans f1;intro a2 n2 f2;cases e2.symm.trans f2;intro a3 n3 f3;cases e3.symm.trans f3;intro a4 n4 f4;cases e4.symm.trans f4),by exact sbt⟩ (List.Sublist.refl _)) rfl Ac;rintro _ _ ⟨⟨id4,v4,ns4⟩,⟨rfl,e4,hst4⟩,rfl⟩
 dsimp only at e4 hst4
 obtain⟨g4,h4⟩:=hs_dom hb hst3.w h3 e4;have h1:=h1.gr hst3.w g4;have h2:=h2.gr hst3.w g4;have h3:=h3.gr hst3.w g4;refine⟨sbt,(o_e U (Al (qe3 U U U) call65 (B9 (M:=SM (NewD fl 200000 dx db p mp) v4 ns4) (sequ_s (R:=((n4,Cl [.int .i64 0, .int .i64 0, .int .i64 0, .int .i64 0, .int .i64 0, .int .i64 0, .int .i64 0, .int .i64 0, .int .i64 0, .int .i64 0] 32)::(n3,Cl [.pointer (some ⟨p,0,none⟩), .int .i64 tick] 70)::R)) hst4 id2 id4 h2.lt h4.lt) (by repeat (first|exact Bt|exact LocL.h|apply LocL.t|apply LocL.a)))) ?_ U Ac)⟩;rintro _ _ ⟨⟨id5,ee5,v5,ns5⟩,⟨rfl,hc5,hst5⟩,rfl⟩
 dsimp only at hc5 hst5
 refine⟨sbt,(rP tb 2 U ?_)⟩;refine o_p rfl (Ay (.cons (T rfl) (.cons (T rfl) .nil)) call48 (Hf id5 ee5 (errV 12) (fun he=>by rw[(Cp hc5 he).2.2.1]))) ?_ (by rintro _ ⟨he,rfl⟩;obtain⟨e5, -, -,rfl⟩:=Cp hc5 he;(repeat refine B3 ?_);exact Bb ⟨(by intro a1 n1 f1;cases e1.symm.trans f1;intro a2 n2 f2;cases e2.symm.trans f2;intro a3 n3 f3;cases e3.symm.trans f3;intro a4 n4 f4;cases e4.symm.trans f4;intro a5 n5 f5;cases e5.symm.trans f5),by exact sbt⟩ (List.Sublist.refl _)) rfl Ac;rintro _ _ ⟨⟨⟩,⟨rfl,he5⟩,rfl⟩;have e5:=He hc5 he5;obtain⟨g5,h5⟩:=hs_seq hb hst4.w h2 h4 e5;have h1:=h1.gr hst4.w g5;have h2:=h2.gr hst4.w g5;have h3:=h3.gr hst4.w g5;have h4:=h4.gr hst4.w g5;refine⟨sbt,?_⟩;refine o_p rfl (Ay (.cons (T rfl) .nil) call55 (A3 (M:=SM (NewD fl 200000 dx db p mp) v5 ns5) (qnone_s (R:=((n4,Cl [.int .i64 0, .int .i64 0, .int .i64 0, .int .i64 0, .int .i64 0, .int .i64 0, .int .i64 0, .int .i64 0, .int .i64 0, .int .i64 0] 32)::(n3,Cl [.pointer (some ⟨p,0,none⟩), .int .i64 tick] 70)::R)) hst5 (hE.mono (by exact sbt)) tick) (by repeat (first|exact Bt|exact LocL.h|apply LocL.t|apply LocL.a)))) ?_ (by rintro _ ⟨⟨v9,n9⟩,⟨e6,g9,hst9⟩,rfl⟩;(repeat refine B3 ?_);exact Bb ⟨(by intro a1 n1 f1;cases e1.symm.trans f1;intro a2 n2 f2;cases e2.symm.trans f2;intro a3 n3 f3;cases e3.symm.trans f3;intro a4 n4 f4;cases e4.symm.trans f4;intro a5 n5 f5;cases e5.symm.trans f5;intro a6 n6 f6;cases e6.symm.trans f6),by exact sbt⟩ (List.Sublist.refl _)) rfl Ac;rintro _ _ ⟨⟨id6,v6,ns6⟩,⟨rfl,e6,hst6⟩,rfl⟩
 dsimp only at e6 hst6
 obtain⟨g6,h6⟩:=Dt hb (p:= .fil .fls) trivial hst5.w e6;have h1:=h1.gr hst5.w g6;have h2:=h2.gr hst5.w g6;have h3:=h3.gr hst5.w g6;have h4:=h4.gr hst5.w g6;have h5:=h5.gr hst5.w g6;refine⟨sbt,?_⟩;refine o_e U (Al (qe3 U U U) call45 (Ii (D:=(NewD fl 200000 dx db p mp)) hst6 hb U (by repeat (first|exact List.sublist_append_left _ _|refine List.Sublist.cons _ ?_)) (hE.bits.mono (by exact sbt)) tick id5 id6 h5.lt h6.lt)) ?_ U Ac;rintro _ _ ⟨rfl,rfl⟩;refine⟨sbt,(rP tb 2 U (A4 U (e_ (Nq U U sizeOf32 .agg (Bh _) (Aj (Cg _ _ _ _)) (by repeat (first|exact Upd.h|apply Upd.t|apply Bl)) (by rw[Aj (Cg _ _ _ _)];rfl)) ?_ U)))⟩;rintro _ _ ⟨rfl,rfl⟩;refine rO tb 4 U (Bx U (.cellA (Aa U) isAgg32 sizeOf32 (Aj (Cg _ _ _ _)) (by first|exact As) (Nk U)) ?_);exact⟨_,⟨⟨dfH ns6 (bsF fl) id5 id6,!decide (id5≠id6),rfl,Cg _ _ _ _,ask_apart (Il hb hst6.w h5 h6)⟩,by exact sbt⟩,sb0⟩
abbrev J8 (fl:List Fd) (tick:Int) (p1 p2:Po):Prop:=∀ a1 n1,PF fl tick p1 (N0 fl)=some (a1,n1)→∀ a2 n2,PF fl tick p2 n1=some (a2,n2)→∀ a3 n3,seA 200000 n2 a1 a2=some (a3,n3)→∀ a4 n4,seA 200000 n3 a2 a1=some (a4,n4)→∀ a5 n5,orF 200000 n4 a3 a4=some (a5,n5)→∀ a6 n6,PF fl tick (.fil .fls) n5=some (a6,n6)→False
theorem qslc_s {w0:World}{H:List (Nat × Obj)}{fl:List Fd}(hfl:FlOk fl)(tick:Int){m1:Pom}{p1:Po}(hI1:IsO fl m1 p1)(hF1:p1.Fit (bsF fl))(hM1:PoM w0 H m1){b1:Nat}(f1:Fnd H b1 (Cl (encPo m1) 28)){m2:Pom}{p2:Po}(hI2:IsO fl m2 p2)(hF2:p2.Fit (bsF fl))(hM2:PoM w0 H m2){b2:Nat}(f2:Fnd H b2 (Cl (encPo m2) 28)):QuS w0 fl tick 69 [.pointer (some ⟨b1,0,none⟩), .pointer (some ⟨b2,0,none⟩)] 12 (Ans (SlcP tick p1 p2)) (J8 fl tick p1 p2) H:=by
 intro dx db p mp v R hR hst hE;have hb:=Ef hfl;show FSpecP Tryz.prog w0 69 #[Value.agg #[.pointer (some ⟨p,0,none⟩), .int .i64 tick], .pointer (some ⟨b1,0,none⟩), .pointer (some ⟨b2,0,none⟩)] _ _ _ _;refine Bm Tryz.func69 U ntmps69 U (rD tb 2 U (e_ (Nr U cs_) ?_ U));rintro _ _ ⟨n3,rfl,rfl⟩;refine e_ (Ai zeroValue32 cs_) ?_ U;rintro _ _ ⟨n4,rfl,rfl⟩;refine rO tb 4 U (Bk 5 [(0,true),(1,true),(3,true),(4,true),(2,false)] ((n4,Cl [.int .i64 0, .int .i64 0, .int .i64 0, .int .i64 0, .int .i64 0, .int .i64 0, .int .i64 0, .int .i64 0, .int .i64 0, .int .i64 0] 32)::(n3,Cl [.pointer (some ⟨p,0,none⟩), .int .i64 tick] 70)::R) mixd qkr (by exact sbt) ?_ B7);refine o_y U (Nn U isAgg70 sizeOf70 U (by first|exact Af fdd|exact As)) ?_ U Ac;refine o_y U (Nn U isAgg28 sizeOf28 U (by first|exact Af (Fnd.mono f1 (List.Sublist.trans hR (by exact sbt)))|exact As)) ?_ U Ac;refine o_y U (Nn U isAgg70 sizeOf70 U (by first|exact Af fdd|exact As)) ?_ U Ac;refine o_y U (Nn U isAgg28 sizeOf28 U (by first|exact Af (Fnd.mono f2 (List.Sublist.trans hR (by exact sbt)))|exact As)) ?_ U Ac;refine o_p rfl (Ay (.cons (T rfl) (.cons (T rfl) .nil)) call46 (A3 (M:=SM (NewD fl 200000 dx db p mp) v (nsE (2*(bsF fl).length))) (E0 (R:=((n4,Cl [.int .i64 0, .int .i64 0, .int .i64 0, .int .i64 0, .int .i64 0, .int .i64 0, .int .i64 0, .int .i64 0, .int .i64 0, .int .i64 0] 32)::(n3,Cl [.pointer (some ⟨p,0,none⟩), .int .i64 tick] 70)::R)) hst (hE.mono (by exact sbt)) m1 p1 hI1 hF1 (hM1.mono (List.Sublist.trans hR (by exact sbt))) tick) (by repeat (first|exact Bt|exact LocL.h|apply LocL.t|apply LocL.a)))) ?_ (by rintro _ ⟨⟨v9,n9⟩,⟨e1,g9,hst9⟩,rfl⟩;(repeat refine B3 ?_);exact Bb ⟨(by intro a1 n1 f1;cases e1.symm.trans f1),by exact sbt⟩ (List.Sublist.refl _)) rfl Ac;rintro _ _ ⟨⟨id1,v1,ns1⟩,⟨rfl,e1,hst1⟩,rfl⟩
 dsimp only at e1 hst1
 obtain⟨g1,h1⟩:=Dt hb hF1 hst.w e1;refine⟨sbt,(A4 U ?_)⟩;refine p_ (Ay (.cons (T rfl) (.cons (T rfl) .nil)) call46 (A3 (M:=SM (NewD fl 200000 dx db p mp) v1 ns1) (E0 (R:=((n4,Cl [.int .i64 0, .int .i64 0, .int .i64 0, .int .i64 0, .int .i64 0, .int .i64 0, .int .i64 0, .int .i64 0, .int .i64 0, .int .i64 0] 32)::(n3,Cl [.pointer (some ⟨p,0,none⟩), .int .i64 tick] 70)::R)) hst1 (hE.mono (by exact sbt)) m2 p2 hI2 hF2 (hM2.mono (List.Sublist.trans hR (by exact sbt))) tick) (by repeat (first|exact Bt|exact LocL.h|apply LocL.t|apply LocL.a)))) ?_ (by rintro _ ⟨⟨v9,n9⟩,⟨e2,g9,hst9⟩,rfl⟩;(repeat refine B3 ?_);exact Bb ⟨(by intro a1 n1 f1;cases e1.symm.trans f1;intro a2 n2 f2;cases e2.symm.trans f2),by exact sbt⟩ (List.Sublist.refl _)) rfl;rintro _ _ ⟨⟨id2,v2,ns2⟩,⟨rfl,e2,hst2⟩,rfl⟩
 dsimp only at e2 hst2
 obtain⟨g2,h2⟩:=Dt hb hF2 hst1.w e2;have h1:=h1.gr hst1.w g2;refine rO tb 5 U (Bk 28 [(0,true),(1,true),(2,true),(3,true),(4,true),(5,true),(6,true),(11,true),(12,true),(13,true),(14,true),(23,true),(7,false),(8,true),(9,true),(10,false),(15,false),(16,true),(17,true),(18,false),(19,false),(20,true),(21,true),(22,false),(24,false),(25,false),(26,true),(27,true)] ((n4,Cl [.int .i64 0, .int .i64 0, .int .i64 0, .int .i64 0, .int .i64 0, .int .i64 0, .int .i64 0, .int .i64 0, .int .i64 0, .int .i64 0] 32)::(n3,Cl [.pointer (some ⟨p,0,none⟩), .int .i64 tick] 70)::R) mixd qkr (by exact sbt) ?_ B7);refine o_y U (Nn U isAgg70 sizeOf70 U (by first|exact Af fdd|exact As)) ?_ U Ac;refine rP tb 1 U ?_;refine o_y U (Nl U isAgg68 (by first|exact c_o|exact Af fdd 0 _ U)) ?_ U Ac;refine rP tb 1 U ?_;refine o_y U (Nl U isAgg68 (by first|exact c_o|exact Af fdd 0 _ U)) ?_ U Ac;refine rP tb 3 U ?_;refine o_y U (Nl U isAgg68 (by first|exact c_o|exact Af fdd 0 _ U)) ?_ U Ac;refine rP tb 2 U ?_;refine o_y U (Nn U isAgg70 sizeOf70 U (by first|exact Af fdd|exact As)) ?_ U Ac;refine o_e U (Al (qe3 U U U) call65 (B9 (M:=SM (NewD fl 200000 dx db p mp) v2 ns2) (sequ_s (R:=((n4,Cl [.int .i64 0, .int .i64 0, .int .i64 0, .int .i64 0, .int .i64 0, .int .i64 0, .int .i64 0, .int .i64 0, .int .i64 0, .int .i64 0] 32)::(n3,Cl [.pointer (some ⟨p,0,none⟩), .int .i64 tick] 70)::R)) hst2 id1 id2 h1.lt h2.lt) (by repeat (first|exact Bt|exact LocL.h|apply LocL.t|apply LocL.a)))) ?_ U Ac;rintro _ _ ⟨⟨id3,ee3,v3,ns3⟩,⟨rfl,hc3,hst3⟩,rfl⟩
 dsimp only at hc3 hst3
 refine⟨sbt,(rP tb 2 U ?_)⟩;refine o_p rfl (Ay (.cons (T rfl) (.cons (T rfl) .nil)) call48 (Hf id3 ee3 (errV 12) (fun he=>by rw[(Cp hc3 he).2.2.1]))) ?_ (by rintro _ ⟨he,rfl⟩;obtain⟨e3, -, -,rfl⟩:=Cp hc3 he;(repeat refine B3 ?_);exact Bb ⟨(by intro a1 n1 f1;cases e1.symm.trans f1;intro a2 n2 f2;cases e2.symm.trans f2;intro a3 n3 f3;cases e3.symm.trans f3),by exact sbt⟩ (List.Sublist.refl _)) rfl Ac;rintro _ _ ⟨⟨⟩,⟨rfl,he3⟩,rfl⟩;have e3:=He hc3 he3;obtain⟨g3,h3⟩:=hs_seq hb hst2.w h1 h2 e3;have h1:=h1.gr hst2.w g3;have h2:=h2.gr hst2.w g3;refine⟨sbt,(o_e U (Al (qe3 U U U) call65 (B9 (M:=SM (NewD fl 200000 dx db p mp) v3 ns3) (sequ_s (R:=((n4,Cl [.int .i64 0, .int .i64 0, .int .i64 0, .int .i64 0, .int .i64 0, .int .i64 0, .int .i64 0, .int .i64 0, .int .i64 0, .int .i64 0] 32)::(n3,Cl [.pointer (some ⟨p,0,none⟩), .int .i64 tick] 70)::R)) hst3 id2 id1 h2.lt h1.lt) (by repeat (first|exact Bt|exact LocL.h|apply LocL.t|apply LocL.a)))) ?_ U Ac)⟩;rintro _ _ ⟨⟨id4,ee4,v4,ns4⟩,⟨rfl,hc4,hst4⟩,rfl⟩
 dsimp only at hc4 hst4
 refine⟨sbt,(rP tb 2 U ?_)⟩;refine o_p rfl (Ay (.cons (T rfl) (.cons (T rfl) .nil)) call48 (Hf id4 ee4 (errV 12) (fun he=>by rw[(Cp hc4 he).2.2.1]))) ?_ (by rintro _ ⟨he,rfl⟩;obtain⟨e4, -, -,rfl⟩:=Cp hc4 he;(repeat refine B3 ?_);exact Bb ⟨(by intro a1 n1 f1;cases e1.symm.trans f1;intro a2 n2 f2;cases e2.symm.trans f2;intro a3 n3 f3;cases e3.symm.trans f3;intro a4 n4 f4;cases e4.symm.trans f4),by exact sbt⟩ (List.Sublist.refl _)) rfl Ac;rintro _ _ ⟨⟨⟩,⟨rfl,he4⟩,rfl⟩;have e4:=He hc4 he4;obtain⟨g4,h4⟩:=hs_seq hb hst3.w h2 h1 e4;have h1:=h1.gr hst3.w g4;have h2:=h2.gr hst3.w g4;have h3:=h3.gr hst3.w g4;refine⟨sbt,(o_e U (Al (qe3 U U U) call49 (B9 (M:=SM (NewD fl 200000 dx db p mp) v4 ns4) (union_s (R:=((n4,Cl [.int .i64 0, .int .i64 0, .int .i64 0, .int .i64 0, .int .i64 0, .int .i64 0, .int .i64 0, .int .i64 0, .int .i64 0, .int .i64 0] 32)::(n3,Cl [.pointer (some ⟨p,0,none⟩), .int .i64 tick] 70)::R)) hst4 id3 id4 h3.lt h4.lt) (by repeat (first|exact Bt|exact LocL.h|apply LocL.t|apply LocL.a)))) ?_ U Ac)⟩;rintro _ _ ⟨⟨id5,ee5,v5,ns5⟩,⟨rfl,hc5,hst5⟩,rfl⟩
 dsimp only at hc5 hst5
 refine⟨sbt,(rP tb 2 U ?_)⟩;refine o_p rfl (Ay (.cons (T rfl) (.cons (T rfl) .nil)) call48 (Hf id5 ee5 (errV 12) (fun he=>by rw[(Cp hc5 he).2.2.1]))) ?_ (by rintro _ ⟨he,rfl⟩;obtain⟨e5, -, -,rfl⟩:=Cp hc5 he;(repeat refine B3 ?_);exact Bb ⟨(by intro a1 n1 f1;cases e1.symm.trans f1;intro a2 n2 f2;cases e2.symm.trans f2;intro a3 n3 f3;cases e3.symm.trans f3;intro a4 n4 f4;cases e4.symm.trans f4;intro a5 n5 f5;cases e5.symm.trans f5),by exact sbt⟩ (List.Sublist.refl _)) rfl Ac;rintro _ _ ⟨⟨⟩,⟨rfl,he5⟩,rfl⟩;have e5:=He hc5 he5;obtain⟨g5,h5⟩:=hs_or hst4.w h3 h4 e5;have h1:=h1.gr hst4.w g5;have h2:=h2.gr hst4.w g5;have h3:=h3.gr hst4.w g5;have h4:=h4.gr hst4.w g5;refine⟨sbt,?_⟩;refine o_p rfl (Ay (.cons (T rfl) .nil) call55 (A3 (M:=SM (NewD fl 200000 dx db p mp) v5 ns5) (qnone_s (R:=((n4,Cl [.int .i64 0, .int .i64 0, .int .i64 0, .int .i64 0, .int .i64 0, .int .i64 0, .int .i64 0, .int .i64 0, .int .i64 0, .int .i64 0] 32)::(n3,Cl [.pointer (some ⟨p,0,none⟩), .int .i64 tick] 70)::R)) hst5 (hE.mono (by exact sbt)) tick) (by repeat (first|exact Bt|exact LocL.h|apply LocL.t|apply LocL.a)))) ?_ (by rintro _ ⟨⟨v9,n9⟩,⟨e6,g9,hst9⟩,rfl⟩;(repeat refine B3 ?_);exact Bb ⟨(by intro a1 n1 f1;cases e1.symm.trans f1;intro a2 n2 f2;cases e2.symm.trans f2;intro a3 n3 f3;cases e3.symm.trans f3;intro a4 n4 f4;cases e4.symm.trans f4;intro a5 n5 f5;cases e5.symm.trans f5;intro a6 n6 f6;cases e6.symm.trans f6),by exact sbt⟩ (List.Sublist.refl _)) rfl Ac;rintro _ _ ⟨⟨id6,v6,ns6⟩,⟨rfl,e6,hst6⟩,rfl⟩
 dsimp only at e6 hst6
 obtain⟨g6,h6⟩:=Dt hb (p:= .fil .fls) trivial hst5.w e6;have h1:=h1.gr hst5.w g6;have h2:=h2.gr hst5.w g6;have h3:=h3.gr hst5.w g6;have h4:=h4.gr hst5.w g6;have h5:=h5.gr hst5.w g6;refine⟨sbt,?_⟩;refine o_e U (Al (qe3 U U U) call45 (Ii (D:=(NewD fl 200000 dx db p mp)) hst6 hb U (by repeat (first|exact List.sublist_append_left _ _|refine List.Sublist.cons _ ?_)) (hE.bits.mono (by exact sbt)) tick id5 id6 h5.lt h6.lt)) ?_ U Ac;rintro _ _ ⟨rfl,rfl⟩;refine⟨sbt,(rP tb 2 U (A4 U (e_ (Nq U U sizeOf32 .agg (Bh _) (Aj (Cg _ _ _ _)) (by repeat (first|exact Upd.h|apply Upd.t|apply Bl)) (by rw[Aj (Cg _ _ _ _)];rfl)) ?_ U)))⟩;rintro _ _ ⟨rfl,rfl⟩;refine kO tb 3 [4,5] rfl U (rG tb 1 U (Bx U (.cellA (Aa U) isAgg32 sizeOf32 (Aj (Cg _ _ _ _)) (by first|exact As) (Nk U)) ?_));exact⟨_,⟨⟨dfH ns6 (bsF fl) id5 id6,!decide (id5≠id6),rfl,Cg _ _ _ _,ask_slc (Il hb hst6.w h5 h6)⟩,by exact sbt⟩,sb0⟩
theorem Gy {w0:World}{H:List (Nat × Obj)}{fl:List Fd}(hfl:FlOk fl)(q:Option Addr)(c:Nat)(hA:Arr w0 H q 3 encF fl)(tick:Int){m1:Pom}{p1:Po}(hI1:IsO fl m1 p1)(hF1:p1.Fit (bsF fl))(hM1:PoM w0 H m1){m2:Pom}{p2:Po}(hI2:IsO fl m2 p2)(hF2:p2.Fit (bsF fl))(hM2:PoM w0 H m2)  :
  FSpec Tryz.prog w0 13 #[.slice q fl.length c, .agg (encPo m1).toArray, .agg (encPo m2).toArray, .int .i64 tick] H (AskK (Ans (AskP tick 1 p1 p2)) 12 (Gx fl tick p1 p2) H):=by
 refine Au Tryz.func13 U ntmps13 U (rD tb 2 U (e_ (Nr U cs_) ?_ U));rintro _ _ ⟨n5,rfl,rfl⟩;refine e_ (Nr U cs_) ?_ U;rintro _ _ ⟨n6,rfl,rfl⟩;refine e_ (Ai zeroValue32 cs_) ?_ U;rintro _ _ ⟨n8,rfl,rfl⟩;refine rO tb 8 U (y_ (Bs (.cons (T U) (.cons (T U) .nil))) ?_ U);refine e_ (Al (qe3 U U U) call43 (Kf fl hfl q c (hA.mono (by exact sbt)) tick 12 call44 (qeq_s hfl tick hI1 hF1 (hM1.mono (by exact sbt)) (by repeat (first|exact Am|refine Ar ?_)) hI2 hF2 (hM2.mono (by exact sbt)) (by repeat (first|exact Am|refine Ar ?_))))) ?_ U;rintro _ _ ⟨⟨h,is,e9,rfl,hh,hR⟩,rfl⟩;refine rO tb 3 U (e_ (Nq U U sizeOf32 .agg (Bh _) (Aj hh) (by repeat (first|exact Upd.h|apply Upd.t|apply Bl)) (by rw[Aj hh];rfl)) ?_ U);rintro _ _ ⟨rfl,rfl⟩;refine rO tb 5 U (Ak U (.cellA (Aa U) isAgg32 sizeOf32 (Aj hh) (by first|exact As) (.tmp (Aa U) (Nk U))) ?_);exact⟨_,⟨⟨h,is,e9,rfl,hh,hR⟩,rfl⟩,by exact sbt⟩
theorem Im {w0:World}{H:List (Nat × Obj)}{fl:List Fd}(hfl:FlOk fl)(q:Option Addr)(c:Nat)(hA:Arr w0 H q 3 encF fl)(tick:Int){m1:Pom}{p1:Po}(hI1:IsO fl m1 p1)(hF1:p1.Fit (bsF fl))(hM1:PoM w0 H m1){m2:Pom}{p2:Po}(hI2:IsO fl m2 p2)(hF2:p2.Fit (bsF fl))(hM2:PoM w0 H m2)  :
  FSpec Tryz.prog w0 14 #[.slice q fl.length c, .agg (encPo m1).toArray, .agg (encPo m2).toArray, .int .i64 tick] H (AskK (Ans (AskP tick 2 p1 p2)) 12 (J7 fl tick p1 p2) H):=by
 refine Au Tryz.func14 U ntmps14 U (rD tb 2 U (e_ (Nr U cs_) ?_ U));rintro _ _ ⟨n5,rfl,rfl⟩;refine e_ (Nr U cs_) ?_ U;rintro _ _ ⟨n6,rfl,rfl⟩;refine e_ (Ai zeroValue32 cs_) ?_ U;rintro _ _ ⟨n8,rfl,rfl⟩;refine rO tb 8 U (y_ (Bs (.cons (T U) (.cons (T U) .nil))) ?_ U);refine e_ (Al (qe3 U U U) call43 (Kf fl hfl q c (hA.mono (by exact sbt)) tick 12 call47 (qinc_s hfl tick hI1 hF1 (hM1.mono (by exact sbt)) (by repeat (first|exact Am|refine Ar ?_)) hI2 hF2 (hM2.mono (by exact sbt)) (by repeat (first|exact Am|refine Ar ?_))))) ?_ U;rintro _ _ ⟨⟨h,is,e9,rfl,hh,hR⟩,rfl⟩;refine rO tb 3 U (e_ (Nq U U sizeOf32 .agg (Bh _) (Aj hh) (by repeat (first|exact Upd.h|apply Upd.t|apply Bl)) (by rw[Aj hh];rfl)) ?_ U);rintro _ _ ⟨rfl,rfl⟩;refine rO tb 5 U (Ak U (.cellA (Aa U) isAgg32 sizeOf32 (Aj hh) (by first|exact As) (.tmp (Aa U) (Nk U))) ?_);exact⟨_,⟨⟨h,is,e9,rfl,hh,hR⟩,rfl⟩,by exact sbt⟩
theorem eempty_s {w0:World}{H:List (Nat × Obj)}{fl:List Fd}(hfl:FlOk fl)(q:Option Addr)(c:Nat)(hA:Arr w0 H q 3 encF fl)(tick:Int){m1:Pom}{p1:Po}(hI1:IsO fl m1 p1)(hF1:p1.Fit (bsF fl))(hM1:PoM w0 H m1)  :
  FSpec Tryz.prog w0 17 #[.slice q fl.length c, .agg (encPo m1).toArray, .int .i64 tick] H (AskK (Ans (AskP tick 3 p1 p1)) 12 (Jv fl tick p1) H):=by
 refine Au Tryz.func17 U ntmps17 U (rD tb 2 U (e_ (Nr U cs_) ?_ U));rintro _ _ ⟨n4,rfl,rfl⟩;refine e_ (Ai zeroValue32 cs_) ?_ U;rintro _ _ ⟨n6,rfl,rfl⟩;refine rO tb 8 U (y_ (Bs (.cons (T U) .nil)) ?_ U);refine e_ (Al (qe3 U U U) call43 (Kf fl hfl q c (hA.mono (by exact sbt)) tick 12 call54 (qempty_s hfl tick hI1 hF1 (hM1.mono (by exact sbt)) (by repeat (first|exact Am|refine Ar ?_))))) ?_ U;rintro _ _ ⟨⟨h,is,e9,rfl,hh,hR⟩,rfl⟩;refine rO tb 3 U (e_ (Nq U U sizeOf32 .agg (Bh _) (Aj hh) (by repeat (first|exact Upd.h|apply Upd.t|apply Bl)) (by rw[Aj hh];rfl)) ?_ U);rintro _ _ ⟨rfl,rfl⟩;refine rO tb 5 U (Ak U (.cellA (Aa U) isAgg32 sizeOf32 (Aj hh) (by first|exact As) (.tmp (Aa U) (Nk U))) ?_);exact⟨_,⟨⟨h,is,e9,rfl,hh,hR⟩,rfl⟩,by exact sbt⟩
theorem etotal_s {w0:World}{H:List (Nat × Obj)}{fl:List Fd}(hfl:FlOk fl)(q:Option Addr)(c:Nat)(hA:Arr w0 H q 3 encF fl)(tick:Int){m1:Pom}{p1:Po}(hI1:IsO fl m1 p1)(hF1:p1.Fit (bsF fl))(hM1:PoM w0 H m1)  :
  FSpec Tryz.prog w0 18 #[.slice q fl.length c, .agg (encPo m1).toArray, .int .i64 tick] H (AskK (Ans (AskP tick 4 p1 p1)) 12 (Jw fl tick p1) H):=by
 refine Au Tryz.func18 U ntmps18 U (rD tb 2 U (e_ (Nr U cs_) ?_ U));rintro _ _ ⟨n4,rfl,rfl⟩;refine e_ (Ai zeroValue32 cs_) ?_ U;rintro _ _ ⟨n6,rfl,rfl⟩;refine rO tb 8 U (y_ (Bs (.cons (T U) .nil)) ?_ U);refine e_ (Al (qe3 U U U) call43 (Kf fl hfl q c (hA.mono (by exact sbt)) tick 12 call56 (qtotal_s hfl tick hI1 hF1 (hM1.mono (by exact sbt)) (by repeat (first|exact Am|refine Ar ?_))))) ?_ U;rintro _ _ ⟨⟨h,is,e9,rfl,hh,hR⟩,rfl⟩;refine rO tb 3 U (e_ (Nq U U sizeOf32 .agg (Bh _) (Aj hh) (by repeat (first|exact Upd.h|apply Upd.t|apply Bl)) (by rw[Aj hh];rfl)) ?_ U);rintro _ _ ⟨rfl,rfl⟩;refine rO tb 5 U (Ak U (.cellA (Aa U) isAgg32 sizeOf32 (Aj hh) (by first|exact As) (.tmp (Aa U) (Nk U))) ?_);exact⟨_,⟨⟨h,is,e9,rfl,hh,hR⟩,rfl⟩,by exact sbt⟩
theorem eapart_s {w0:World}{H:List (Nat × Obj)}{fl:List Fd}(hfl:FlOk fl)(q:Option Addr)(c:Nat)(hA:Arr w0 H q 3 encF fl)(tick:Int){m1:Pom}{p1:Po}(hI1:IsO fl m1 p1)(hF1:p1.Fit (bsF fl))(hM1:PoM w0 H m1){m2:Pom}{p2:Po}(hI2:IsO fl m2 p2)(hF2:p2.Fit (bsF fl))(hM2:PoM w0 H m2)  :
  FSpec Tryz.prog w0 20 #[.slice q fl.length c, .agg (encPo m1).toArray, .agg (encPo m2).toArray, .int .i64 tick] H (AskK (Ans (AskP tick 6 p1 p2)) 12 (Jx fl tick p1 p2) H):=by
 refine Au Tryz.func20 U ntmps20 U (rD tb 2 U (e_ (Nr U cs_) ?_ U));rintro _ _ ⟨n5,rfl,rfl⟩;refine e_ (Nr U cs_) ?_ U;rintro _ _ ⟨n6,rfl,rfl⟩;refine e_ (Ai zeroValue32 cs_) ?_ U;rintro _ _ ⟨n8,rfl,rfl⟩;refine rO tb 8 U (y_ (Bs (.cons (T U) (.cons (T U) .nil))) ?_ U);refine e_ (Al (qe3 U U U) call43 (Kf fl hfl q c (hA.mono (by exact sbt)) tick 12 call64 (qapart_s hfl tick hI1 hF1 (hM1.mono (by exact sbt)) (by repeat (first|exact Am|refine Ar ?_)) hI2 hF2 (hM2.mono (by exact sbt)) (by repeat (first|exact Am|refine Ar ?_))))) ?_ U;rintro _ _ ⟨⟨h,is,e9,rfl,hh,hR⟩,rfl⟩;refine rO tb 3 U (e_ (Nq U U sizeOf32 .agg (Bh _) (Aj hh) (by repeat (first|exact Upd.h|apply Upd.t|apply Bl)) (by rw[Aj hh];rfl)) ?_ U);rintro _ _ ⟨rfl,rfl⟩;refine rO tb 5 U (Ak U (.cellA (Aa U) isAgg32 sizeOf32 (Aj hh) (by first|exact As) (.tmp (Aa U) (Nk U))) ?_);exact⟨_,⟨⟨h,is,e9,rfl,hh,hR⟩,rfl⟩,by exact sbt⟩
theorem eslices_s {w0:World}{H:List (Nat × Obj)}{fl:List Fd}(hfl:FlOk fl)(q:Option Addr)(c:Nat)(hA:Arr w0 H q 3 encF fl)(tick:Int){m1:Pom}{p1:Po}(hI1:IsO fl m1 p1)(hF1:p1.Fit (bsF fl))(hM1:PoM w0 H m1){m2:Pom}{p2:Po}(hI2:IsO fl m2 p2)(hF2:p2.Fit (bsF fl))(hM2:PoM w0 H m2)  :
  FSpec Tryz.prog w0 22 #[.slice q fl.length c, .agg (encPo m1).toArray, .agg (encPo m2).toArray, .int .i64 tick] H (AskK (Ans (SlcP tick p1 p2)) 12 (J8 fl tick p1 p2) H):=by
 refine Au Tryz.func22 U ntmps22 U (rD tb 2 U (e_ (Nr U cs_) ?_ U));rintro _ _ ⟨n5,rfl,rfl⟩;refine e_ (Nr U cs_) ?_ U;rintro _ _ ⟨n6,rfl,rfl⟩;refine e_ (Ai zeroValue32 cs_) ?_ U;rintro _ _ ⟨n8,rfl,rfl⟩;refine rO tb 8 U (y_ (Bs (.cons (T U) (.cons (T U) .nil))) ?_ U);refine e_ (Al (qe3 U U U) call43 (Kf fl hfl q c (hA.mono (by exact sbt)) tick 12 call69 (qslc_s hfl tick hI1 hF1 (hM1.mono (by exact sbt)) (by repeat (first|exact Am|refine Ar ?_)) hI2 hF2 (hM2.mono (by exact sbt)) (by repeat (first|exact Am|refine Ar ?_))))) ?_ U;rintro _ _ ⟨⟨h,is,e9,rfl,hh,hR⟩,rfl⟩;refine rO tb 3 U (e_ (Nq U U sizeOf32 .agg (Bh _) (Aj hh) (by repeat (first|exact Upd.h|apply Upd.t|apply Bl)) (by rw[Aj hh];rfl)) ?_ U);rintro _ _ ⟨rfl,rfl⟩;refine rO tb 5 U (Ak U (.cellA (Aa U) isAgg32 sizeOf32 (Aj hh) (by first|exact As) (.tmp (Aa U) (Nk U))) ?_);exact⟨_,⟨⟨h,is,e9,rfl,hh,hR⟩,rfl⟩,by exact sbt⟩
section
variable {P:Program} {w0:World} {L:Fm} {H:List (Nat × Obj)} {ty xt yt:TypeId} {x y:Operand}
theorem yl_xorI {m n:Nat}(hm:m<9223372036854775808)(hn:n<9223372036854775808)(hx:Ev L x (.int .i64 (m:Int)))(hy:Ev L y (.int .i64 (n:Int))):Yl P w0 (.binOp .xor xt x y yt) ty L H (.int .i64 ((m ^^^ n:Nat):Int)):=Bq U fun b w=>by
 have t64:=two64;have e:(BitVec.ofInt 64 (m:Int) ^^^ BitVec.ofInt 64 (n:Int)).toNat=m ^^^ n:=by
  rw[D3,D3,BitVec.toNat_xor,BitVec.toNat_ofNat,BitVec.toNat_ofNat,Nat.mod_eq_of_lt qom,Nat.mod_eq_of_lt qom]
 have hl:m ^^^ n<2 ^ 63:=Nat.xor_lt_two_pow (by rw[two63];exact hm) (by rw[two63];exact hn);rw[two63] at hl;have e2:IntKind.i64.wrap ((m ^^^ n:Nat):Int)=((m ^^^ n:Nat):Int):=IntWalk.i64_in _ qom;have e3:(Op.intBits .xor .i64 (m:Int) (n:Int)).run P w= .ok (.int .i64 ((m ^^^ n:Nat):Int)) w:=by
  show Result.ok (Value.int .i64 (IntKind.i64.wrap ((BitVec.ofInt 64 (m:Int) ^^^ BitVec.ofInt 64 (n:Int)).toNat:Int))) w=_;rw[e,e2]
 simp[exO,execOp,hx b,hy b,binOp,eqGuard,Sem.run_bind,Result.andThen,e3]
end
def wI (g:Nat→Nat) (h:Hd) (i:Nat):Hd:=(List.range i).map g++h.drop i
section
variable {g:Nat→Nat} {h:Hd} {i k:Nat} {m n p q:Md}
theorem J9 (hi:i≤h.length):(wI g h i).length=h.length:=by
 unfold wI;rw[List.length_append,List.length_map,List.length_range,List.length_drop];omega
theorem wI_gd (hi:i≤k)(hk:k<h.length):gd (wI g h i) k=gd h k:=by
 unfold wI gd List.getD;rw[List.getElem?_append_right (by simpa using hi),List.length_map,List.length_range,List.getElem?_drop,show i+(k - i)=k by omega]
theorem L7 (hi:i<h.length):(wI g h i).set i (g i)=wI g h (i+1):=by
 unfold wI;rw[List.set_append_right _ _ (by simp),List.length_map,List.length_range,Nat.sub_self,List.drop_eq_getElem_cons hi,List.set_cons_zero,List.range_succ,List.map_append,List.append_assoc]
 rfl
theorem Lb (hh:HdOk h)(hg:∀ k,k<10→g k<65536)(hi:i≤10):HdOk (wI g h i):=⟨by rw[J9 (by rw[hh.len];exact hi),hh.len],fun w hw=>by
 unfold wI at hw;rcases List.mem_append.1 hw with hw|hw
 ·obtain⟨k,hk,rfl⟩:=List.mem_map.1 hw;exact hg k (by have:=List.mem_range.1 hk;omega)
 ·exact hh.lt w (List.mem_of_mem_drop hw)⟩
theorem wI_bit (hh:HdOk h){b:Nat}(hb:b<160):hbit (wI g h 10) b=(g (b / 16)).testBit (15 - b % 16):=by
 unfold hbit wI gd List.getD;rw[List.getElem?_append_left (by simp;omega),List.getElem?_map,List.getElem?_range qom]
 rfl
abbrev apW (m:Md) (h:Hd) (k:Nat):Nat:=andN (gd h k) (gd m.1 k)|||gd m.2 k
abbrev orW (a b:Hd) (k:Nat):Nat:=gd a k|||gd b k
theorem apW_lt (hm:MdR m)(hh:HdOk h)(k:Nat):apW m h k<65536:=Nat.or_lt_two_pow (n:=16) (E5 (k:=16) (Cq hh k)) (Cq hm.o2 k)
theorem Lc {a b:Hd}(ha:HdOk a)(hb:HdOk b)(k:Nat):orW a b k<65536:=Nat.or_lt_two_pow (n:=16) (Cq ha k) (Cq hb k)
theorem ap_words (hm:MdR m)(hh:HdOk h):wI (apW m h) h 10=appM m h:=Db (Lb hh (fun k _=>apW_lt hm hh k) (Nat.le_refl _)) (Fk _ _) fun b hb=>by
 rw[wI_bit hh hb,E3 _ _ hb,Nat.testBit_or,Ex];show (hbit h b&& !hbit m.1 b||hbit m.2 b)=_;cases e:hbit m.1 b with
 |true=>simp
 |false=>
  have:hbit m.2 b=false:=by
   cases e2:hbit m.2 b
   ·rfl
   ·rw[hm.sub b hb e2] at e;cases e
  simp[this]
theorem or_words {a b:Hd}(ha:HdOk a)(hb:HdOk b):wI (orW a b) a 10=hdOf fun k=>hbit a k||hbit b k:=Db (Lb ha (fun k _=>Lc ha hb k) (Nat.le_refl _)) (Cm _) fun k hk=>by
 rw[wI_bit ha hk,Bz _ hk,Nat.testBit_or];rfl
theorem thn_words (hp:MdR p)(hm:MdR m):(wI (orW p.1 m.1) p.1 10,appM m p.2)=thnM p m:=by
 rw[or_words hp.o1 hm.o1];rfl
theorem and_words (hp:MdR p)(hq:MdR q):(wI (orW p.1 q.1) p.1 10,wI (orW p.2 q.2) p.2 10)=andM p q:=by
 rw[or_words hp.o1 hq.o1,or_words hp.o2 hq.o2];rfl
abbrev ovW (p q:Md) (k:Nat):Nat:=((gd p.2 k ^^^ gd q.2 k) &&& gd p.1 k) &&& gd q.1 k
theorem ov_no {k:Nat}(hk:k<10)(hp:MdR p)(e: ¬ ovW p q k=0):ovlB p q=false:=by
 cases h:ovlB p q with
 |false=>rfl
 |true=>
  exfalso;apply e;rw[ovl_iff] at h;refine Nat.eq_of_testBit_eq fun i=> ?_
  rw[Nat.testBit_and,Nat.testBit_and,Nat.testBit_xor,Nat.zero_testBit]
  by_cases hi:i<16
  ·have h1:=h (16*k+(15 - i)) qom;unfold hbit at h1;rw[show (16*k+(15 - i)) / 16=k by omega,show 15 - (16*k+(15 - i)) % 16=i by omega] at h1;cases e1:(gd p.1 k).testBit i
   ·simp
   ·cases e2:(gd q.1 k).testBit i
    ·simp
    ·rw[h1 e1 e2];simp
  ·have h1:=Cq hp.o1 k;have h2:(gd p.1 k).testBit i=false:=Nat.testBit_lt_two_pow (Nat.lt_of_lt_of_le h1 (by
    have:2 ^ 16≤2 ^ i:=Nat.pow_le_pow_right qde qom;exact this))
   rw[h2];simp
theorem ov_yes (e:∀ k,k<10→ovW p q k=0):ovlB p q=true:=ovl_iff.2 fun b hb h1 h2=>by
 have h3:=congrArg (fun x=>x.testBit (15 - b % 16)) (e (b / 16) qom);simp only[Nat.testBit_and,Nat.testBit_xor,Nat.zero_testBit] at h3;unfold hbit at h1 h2 ⊢;rw[h1,h2] at h3
 simpa using h3
def lesB (h:Hd) (is:Bool) (x:Hd):Bool:=is||decide (cmpL x h<0)
def lesH (h:Hd) (is:Bool) (x:Hd):Hd:=if lesB h is x then x else h
def lesI (h:Hd) (is:Bool) (x:Hd):Bool:=if lesB h is x then false else is
theorem les_ok {h x:Hd}{is:Bool}(hh:HdOk h)(hx:HdOk x):HdOk (lesH h is x):=by unfold lesH;split<;>assumption
end
theorem lst_nil:LstOf [] hd0 true:= .inl ⟨rfl,rfl,rfl⟩
theorem lst_step {l:List Hd}{h x:Hd}{is:Bool}(hh:HdOk h)(hx:HdOk x)(a:LstOf l h is):LstOf (l++[x]) (lesH h is x) (lesI h is x):=by
 rcases a with ⟨rfl,rfl,rfl⟩|⟨rfl,a,b⟩
 ·exact .inr ⟨rfl,by simp[lesH,lesB],fun y hy=>by simp at hy;subst hy;exact .inl rfl⟩
 ·by_cases c:cmpL x h<0
  ·have hl:=(Ig hx hh).1 c;have e1:lesB h false x=true:=by simp[lesB,c]
   rw[show lesH h false x=x from if_pos e1,show lesI h false x=false from if_pos e1];refine .inr ⟨rfl,by simp,fun y hy=> ?_⟩;rcases List.mem_append.1 hy with hy|hy
   ·rcases b y hy with rfl|e
    ·exact .inr hl
    ·exact .inr (hl.trans e)
   ·exact .inl (List.mem_singleton.1 hy).symm
  ·have e1: ¬ lesB h false x=true:=by simp[lesB,c]
   rw[show lesH h false x=h from if_neg e1,show lesI h false x=false from if_neg e1];refine .inr ⟨rfl,List.mem_append.2 (.inl a),fun y hy=> ?_⟩;rcases List.mem_append.1 hy with hy|hy
   ·exact b y hy
   ·rw[List.mem_singleton.1 hy];rcases I4 hh hx with e|e|e
    ·exact .inr e
    ·exact .inl e
    ·exact absurd ((Ig hx hh).2 e) c
theorem Ks {w0:World}{H:List (Nat × Obj)}{n o i:Nat}{g:Nat→Nat}{h:Hd}(hc:Cells w0 H n o (hdC (wI g h i)))(hi:i<h.length):Cell w0 H ⟨n,o+((i:Nat):Int).toNat*1,none⟩ (.int .i64 (gd h i:Nat)):=by
 have:=Cj hc (k:=i) (by rw[J9 qom];exact hi)
 rwa [wI_gd (Nat.le_refl _) hi] at this
theorem eapply_s {w0:World}{H:List (Nat × Obj)}(m:Md)(hm:MdR m)(h:Hd)(hh:HdOk h):
  FSpec Tryz.prog w0 186 #[.agg (mdC m).toArray, .agg (hdC h).toArray] H (Still (.agg (hdC (appM m h)).toArray) H):=by
 refine Au Tryz.func186 U ntmps186 U ?_;have hlen:=hh.len;have hl1:=hm.o1.len;have hl2:=hm.o2.len;refine rD tb 2 U (e_ (Nr U cs_) ?_ U);rintro _ _ ⟨n2,rfl,rfl⟩;refine e_ (Nr U cs_) ?_ U;rintro _ _ ⟨n3,rfl,rfl⟩;refine e_ (Ai zeroValue32 cs_) ?_ U;rintro _ _ ⟨n4,rfl,rfl⟩;refine rO tb 9 U ?_;refine Bj (X:=Nat) (V:=fun i=>[(6, .int .i64 (i:Nat))]) (C:=[(2,_),(3,_),(4,_)]) (G:=fun i=>(n4,Cl ([.int .i64 0, .int .i64 0, .int .i64 0, .int .i64 0, .int .i64 0, .int .i64 0, .int .i64 0, .int .i64 0, .int .i64 0, .int .i64 0]) 32)::(n3,Cl (hdC (wI (apW m h) h i)) 32)::(n2,Cl (mdC m) 144)::H) (φ:=fun i=>i≤10) (μ:=fun i=>10 - i) (x0:=0) ?_ ⟨Aa U,Aa U,Aa U,trivial⟩ ⟨atd,trivial⟩ sb0 ?_
 ·exact Nat.zero_le _
 rintro i hi;have hi9:=hi;refine rD tb 6 U ?_
 first|refine Ae (Aa U) (fun c7=> ?_) (fun c7=> ?_)|refine Ah (Aa U) (fun c7=> ?_) (fun c7=> ?_)
 ·have hi2:i<10:=by have h9:((i:Nat):Int)<10:=c7;omega
  have w1:=Cq hh i;have w2:=Cq hm.o1 i;have w3:=Cq hm.o2 i;have w4:andN (gd h i) (gd m.1 i)<65536:=E5 (k:=16) w1;have hwl:(wI (apW m h) h i).length=10:=by rw[J9 qom];omega
  refine rC tb 10 U (Bk 15 [(0,true),(1,true),(2,true),(3,true),(4,true),(5,true),(6,true),(7,true),(8,true),(9,true),(10,true),(11,true),(12,true),(13,true),(14,true)] _ mixd qkr sb0 ?_ Bp);refine rP tb 2 U (o_y U (Bo (T U) (T U) runUnderlying32 sizeOf3 (by have h9:((i:Nat):Int)<10:=c7;omega)) ?_ U Ac);refine o_y U (Nl U isAgg3 (by first|exact c_o|exact Ks (Af fdd) qom)) ?_ U Ac;refine rP tb 2 U (o_y U (Bo (T U) (T U) runUnderlying32 sizeOf3 (by have h9:((i:Nat):Int)<10:=c7;omega)) ?_ U Ac);refine o_y U (Nl U isAgg3 (by first|exact c_o|exact Cj (Ga fdd) qom)) ?_ U Ac;refine o_y U (Fn qom qom (T U) (T U)) ?_ U Ac;refine rP tb 2 U (o_y U (Bo (T U) (T U) runUnderlying32 sizeOf3 (by have h9:((i:Nat):Int)<10:=c7;omega)) ?_ U Ac);refine o_y U (Nl U isAgg3 (by first|exact c_o|exact Cj (Fl hm.o1 fdd) qom)) ?_ U Ac;refine o_y U (Hv (m:=andN (gd h i) (gd m.1 i)) qom qom (T U) (T U)) ?_ U Ac;refine o_y U (Bo (T U) (T U) runUnderlying32 sizeOf3 (by have h9:((i:Nat):Int)<10:=c7;omega)) ?_ U Ac;refine A4 U (e_ (Bi (T U) (T U) U sizeOf3 (hs:=Gp qom)) ?_ U);rintro _ _ ⟨rfl,rfl⟩;refine rO tb 4 U (y_ (A8 (T U) An qom) ?_ U);refine rO tb 2 U ?_;rw[show (wI (apW m h) h i).set i (andN (gd h i) (gd m.1 i)|||gd m.2 i)=wI (apW m h) h (i+1) from L7 qom];refine A6 (i+1) ?_ ?_ ⟨atd,trivial⟩ ⟨Aa U,Aa U,Aa U,trivial⟩ ?_
  ·omega
  ·first|omega|(simp only[];omega)
  ·exact sbt
 ·obtain rfl:i=10:=by have h9: ¬ ((i:Nat):Int)<10:=c7;omega
  have hok:=Lb (i:=10) hh (fun k _=>apW_lt hm hh k) (Nat.le_refl _);refine rC tb 2 U (Ax (rX tb 4 U ?_));refine y_ (Nn U isAgg32 sizeOf32 (Aj hok) (by first|exact Af fdd|exact As)) ?_ U;refine e_ (Nq U U sizeOf32 .agg (Bh _) (Aj hok) (by repeat (first|exact Upd.h|apply Upd.t|apply Bl)) (by rw[Aj hok];rfl)) ?_ U;rintro _ _ ⟨rfl,rfl⟩;refine rO tb 3 U (Ak U (.cellA (Aa U) isAgg32 sizeOf32 (Aj hok) (by first|exact As) .nil) ?_);exact⟨_,⟨by show Value.agg (hdC _).toArray=_;rw[ap_words hm hh],rfl⟩,by exact sbt⟩
theorem eff_storeT {P:Program}{w0:World}{L:Fm}{H:List (Nat × Obj)}{ty t:TypeId}{x y:Operand}{n o m:Nat}{v:Value}{vs pre l:List Value}{t':TypeId}{H':List (Nat × Obj)}(ho:o=pre.length)(hx:Ev L x (.pointer (some ⟨n,o,none⟩)))(hy:Ev L y v)(hz:∀ w,(sizeOf t).run P w= .ok m w)(hc:Cs v vs)(hv:vs.all oneB=true)(hm:vs.length=m)
  (hu:Upd H n (Cl (pre++l) t') (Cl (pre++vs) t') H') (hl:l.length=vs.length):Eff P w0 (.store t x y) ty L H (Still undef H'):=
 eff_store hx hy hc hv (by rw[hm];exact hz) (by rw[ho,setL_all vs pre l hl];exact hu) (by rw[ho,List.length_append];omega)
theorem ethen_s {w0:World}{H:List (Nat × Obj)}(p m:Md)(hp:MdR p)(hm:MdR m):
  FSpec Tryz.prog w0 151 #[.agg (mdC p).toArray, .agg (mdC m).toArray] H (Still (.agg (mdC (thnM p m)).toArray) H):=by
 refine Au Tryz.func151 U ntmps151 U ?_;have hl1:=hp.o1.len;have hl2:=hm.o1.len;refine rD tb 2 U (e_ (Nr U cs_) ?_ U);rintro _ _ ⟨n2,rfl,rfl⟩;refine e_ (Nr U cs_) ?_ U;rintro _ _ ⟨n3,rfl,rfl⟩;refine e_ (Ai zeroValue144 cs_) ?_ U;rintro _ _ ⟨n4,rfl,rfl⟩;refine rO tb 4 U ?_;refine y_ (Nn U isAgg144 sizeOf144 (Be hm.o1 hm.o2) (by first|exact Af fdd|exact As)) ?_ U;refine rO tb 1 U ?_;refine y_ (Nn U isAgg32 sizeOf32 (Aj hp.o2) (by first|exact Fl hp.o1 fdd|exact As)) ?_ U;refine y_ (Aw (qe2 U U) call186 (fun H' hs=>eapply_s m hm p.2 hp.o2)) (rO tb 1 U (e_ (eff_storeT (pre:=hdC p.1) (l:=hdC p.2) (Aj hp.o1).symm (T U) (T U) sizeOf32 .agg (Bh _) (Aj (Fk _ _)) (by repeat (first|exact Upd.h|apply Upd.t|apply Bl)) ((Aj hp.o2).trans (Aj (Fk _ _)).symm)) ?_ U)) U;rintro _ _ ⟨rfl,rfl⟩;refine rO tb 9 U ?_;refine Bj (X:=Nat) (V:=fun i=>[(11, .int .i64 (i:Nat))]) (C:=[(2,_),(3,_),(4,_)]) (G:=fun i=>(n4,Cl ([.int .i64 0, .int .i64 0, .int .i64 0, .int .i64 0, .int .i64 0, .int .i64 0, .int .i64 0, .int .i64 0, .int .i64 0, .int .i64 0, .int .i64 0, .int .i64 0, .int .i64 0, .int .i64 0, .int .i64 0, .int .i64 0, .int .i64 0, .int .i64 0, .int .i64 0, .int .i64 0]) 144)::(n3,Cl (mdC m) 144)::(n2,Cl (mdC ((wI (orW p.1 m.1) p.1 i),appM m p.2)) 144)::H) (φ:=fun i=>i≤10) (μ:=fun i=>10 - i) (x0:=0) ?_ ⟨Aa U,Aa U,Aa U,trivial⟩ ⟨atd,trivial⟩ sb0 ?_
 ·exact Nat.zero_le _
 rintro i hi;have hi9:=hi;refine rD tb 6 U ?_
 first|refine Ae (Aa U) (fun c12=> ?_) (fun c12=> ?_)|refine Ah (Aa U) (fun c12=> ?_) (fun c12=> ?_)
 ·have hi2:i<10:=by have h9:((i:Nat):Int)<10:=c12;omega
  have w1:=Cq hp.o1 i;have w2:=Cq hm.o1 i;have hwl:(wI (orW p.1 m.1) p.1 i).length=10:=by rw[J9 qom];omega
  refine rC tb 10 U (Bk 11 [(0,true),(1,true),(2,true),(3,true),(4,true),(5,true),(6,true),(7,true),(8,true),(9,true),(10,true)] _ mixd qkr sb0 ?_ Bp);refine rP tb 2 U (o_y U (Bo (T U) (T U) runUnderlying32 sizeOf3 (by have h9:((i:Nat):Int)<10:=c12;omega)) ?_ U Ac);refine o_y U (Nl U isAgg3 (by first|exact c_o|exact Ks (g:=orW p.1 m.1) (h:=p.1) (Ga (m:=((wI (orW p.1 m.1) p.1 i),appM m p.2)) fdd) qom)) ?_ U Ac;refine rP tb 2 U (o_y U (Bo (T U) (T U) runUnderlying32 sizeOf3 (by have h9:((i:Nat):Int)<10:=c12;omega)) ?_ U Ac);refine o_y U (Nl U isAgg3 (by first|exact c_o|exact Cj (Ga (m:=m) fdd) qom)) ?_ U Ac;refine o_y U (Hv qom qom (T U) (T U)) ?_ U Ac;refine rP tb 1 U (o_y U (Bo (T U) (T U) runUnderlying32 sizeOf3 (by have h9:((i:Nat):Int)<10:=c12;omega)) ?_ U Ac);refine A4 U (e_ (Bi (T U) (T U) U sizeOf3 (hs:=Km (h:=(wI (orW p.1 m.1) p.1 i)) qom (hdC (appM m p.2)))) ?_ U);rintro _ _ ⟨rfl,rfl⟩;refine rO tb 4 U (y_ (A8 (T U) An qom) ?_ U);refine rO tb 2 U ?_;rw[show (wI (orW p.1 m.1) p.1 i).set i (gd p.1 i|||gd m.1 i)=(wI (orW p.1 m.1) p.1 (i+1)) from L7 qom];refine A6 (i+1) ?_ ?_ ⟨atd,trivial⟩ ⟨Aa U,Aa U,Aa U,trivial⟩ ?_
  ·omega
  ·first|omega|(simp only[];omega)
  ·exact sbt
 ·obtain rfl:i=10:=by have h9: ¬ ((i:Nat):Int)<10:=c12;omega
  have hok:=Lb (i:=10) hp.o1 (fun k _=>Lc hp.o1 hm.o1 k) (Nat.le_refl _);refine rC tb 2 U (Ax (rX tb 4 U ?_));refine y_ (Nn U isAgg144 sizeOf144 (Be hok (Fk _ _)) (by first|exact Af fdd|exact As)) ?_ U;refine e_ (Nq U U sizeOf144 .agg (Ct _ _) (Be hok (Fk _ _)) (by repeat (first|exact Upd.h|apply Upd.t|apply Bl)) (by rw[Be hok (Fk _ _)];rfl)) ?_ U;rintro _ _ ⟨rfl,rfl⟩;refine rO tb 3 U (Ak U (.cellA (Aa U) isAgg144 sizeOf144 (Be hok (Fk _ _)) (by first|exact As) .nil) ?_);exact⟨_,⟨by show Value.agg (mdC (wI (orW p.1 m.1) p.1 10,appM m p.2)).toArray=_;rw[thn_words hp hm],rfl⟩,by exact sbt⟩
theorem eimage_s {w0:World}{H:List (Nat × Obj)}(p m:Md)(hp:MdR p)(hm:MdR m):
  FSpec Tryz.prog w0 110 #[.agg (mdC p).toArray, .agg (mdC m).toArray] H (Still (.agg (mdC (thnM p m)).toArray) H):=by
 refine Au Tryz.func110 U ntmps110 U (rD tb 2 U (e_ (Nr U cs_) ?_ U));rintro _ _ ⟨n2,rfl,rfl⟩;refine e_ (Nr U cs_) ?_ U;rintro _ _ ⟨n3,rfl,rfl⟩;refine e_ (Ai zeroValue91 cs_) ?_ U;rintro _ _ ⟨n4,rfl,rfl⟩;refine rO tb 4 U ?_;refine y_ (Nn U isAgg91 sizeOf91 (Be hp.o1 hp.o2) (by first|exact Af fdd|exact As)) ?_ U;refine y_ (Nn U isAgg144 sizeOf144 (Be hm.o1 hm.o2) (by first|exact Af fdd|exact As)) ?_ U;refine y_ (Aw (qe2 U U) call151 (fun H' hs=>ethen_s p m hp hm)) (e_ (Nq U U sizeOf91 .agg (Ct _ _) (Be (Gh p m).1 (Gh p m).2) (by repeat (first|exact Upd.h|apply Upd.t|apply Bl)) (by rw[Be (Gh p m).1 (Gh p m).2];rfl)) ?_ U) U;rintro _ _ ⟨rfl,rfl⟩;refine rO tb 3 U (Ak U (.cellA (Aa U) isAgg91 sizeOf91 (Be (Gh p m).1 (Gh p m).2) (by first|exact As) .nil) ?_);exact⟨_,⟨rfl,rfl⟩,by exact sbt⟩
theorem eovl_s {w0:World}{H:List (Nat × Obj)}(p q:Md)(hp:MdR p)(hq:MdR q):
  FSpec Tryz.prog w0 111 #[.agg (mdC p).toArray, .agg (mdC q).toArray] H (Still (.bool (ovlB p q)) H):=by
 refine Au Tryz.func111 U ntmps111 U ?_;have hl1:=hp.o1.len;have hl2:=hp.o2.len;have hl3:=hq.o1.len;have hl4:=hq.o2.len;refine rD tb 2 U (e_ (Nr U cs_) ?_ U);rintro _ _ ⟨n2,rfl,rfl⟩;refine e_ (Nr U cs_) ?_ U;rintro _ _ ⟨n3,rfl,rfl⟩;refine rO tb 10 U ?_;refine Bj (X:=Nat) (V:=fun i=>[(6, .int .i64 (i:Nat))]) (C:=[(2,_),(3,_)]) (G:=fun i=>(n3,Cl (mdC q) 91)::(n2,Cl (mdC p) 91)::H) (φ:=fun i=>i≤10∧∀ k,k<i→ovW p q k=0) (μ:=fun i=>10 - i) (x0:=0) ?_ ⟨Aa U,Aa U,trivial⟩ ⟨atd,trivial⟩ sb0 ?_
 ·exact⟨Nat.zero_le _,fun k hk=>absurd hk (Nat.not_lt_zero _)⟩
 rintro i ⟨hi,hz⟩;have hi9:=hi;refine rD tb 6 U ?_
 first|refine Ae (Aa U) (fun c7=> ?_) (fun c7=> ?_)|refine Ah (Aa U) (fun c7=> ?_) (fun c7=> ?_)
 ·have hi2:i<10:=by have h9:((i:Nat):Int)<10:=c7;omega
  have w1:=Cq hp.o1 i;have w2:=Cq hp.o2 i;have w3:=Cq hq.o1 i;have w4:=Cq hq.o2 i;have w5:gd p.2 i ^^^ gd q.2 i<65536:=Nat.xor_lt_two_pow (n:=16) w2 w4;have w6:(gd p.2 i ^^^ gd q.2 i) &&& gd p.1 i≤gd p.2 i ^^^ gd q.2 i:=Nat.and_le_left;refine rC tb 11 U (Bk 20 [(0,true),(1,true),(2,true),(3,true),(4,true),(5,true),(6,true),(7,true),(8,true),(9,true),(10,true),(11,true),(12,true),(13,true),(14,true),(15,true),(16,true),(17,true),(18,true),(19,true)] _ mixd qkr sb0 ?_ Bp);refine rP tb 2 U (o_y U (Bo (T U) (T U) runUnderlying32 sizeOf3 (by have h9:((i:Nat):Int)<10:=c7;omega)) ?_ U Ac);refine o_y U (Nl U isAgg3 (by first|exact c_o|exact Cj (Fl hp.o1 fdd) qom)) ?_ U Ac;refine rP tb 2 U (o_y U (Bo (T U) (T U) runUnderlying32 sizeOf3 (by have h9:((i:Nat):Int)<10:=c7;omega)) ?_ U Ac);refine o_y U (Nl U isAgg3 (by first|exact c_o|exact Cj (Fl hq.o1 fdd) qom)) ?_ U Ac;refine o_y U (yl_xorI (m:=gd p.2 i) (n:=gd q.2 i) qom qom (T U) (T U)) ?_ U Ac;refine rP tb 2 U (o_y U (Bo (T U) (T U) runUnderlying32 sizeOf3 (by have h9:((i:Nat):Int)<10:=c7;omega)) ?_ U Ac);refine o_y U (Nl U isAgg3 (by first|exact c_o|exact Cj (Ga fdd) qom)) ?_ U Ac;refine o_y U (Id (m:=gd p.2 i ^^^ gd q.2 i) (n:=gd p.1 i) qom qom (T U) (T U)) ?_ U Ac;refine rP tb 2 U (o_y U (Bo (T U) (T U) runUnderlying32 sizeOf3 (by have h9:((i:Nat):Int)<10:=c7;omega)) ?_ U Ac);refine o_y U (Nl U isAgg3 (by first|exact c_o|exact Cj (Ga fdd) qom)) ?_ U Ac;refine o_y U (Id (m:=(gd p.2 i ^^^ gd q.2 i) &&& gd p.1 i) (n:=gd q.1 i) qom qom (T U) (T U)) ?_ U Ac;refine rP tb 1 U (A4 U (rO tb 2 U ?_))
  first|refine Ae (Aa U) (fun c28=> ?_) (fun c28=> ?_)|refine Ah (Aa U) (fun c28=> ?_) (fun c28=> ?_)
  ·have hno:=ov_no hi2 hp (fun e=>c28 (by show ((ovW p q i:Nat):Int)=0;rw[e];rfl));refine rC tb 8 U (Bc (rX tb 2 U (Ak U (Nk U) ?_)));exact⟨_,⟨by rw[hno];rfl,rfl⟩,by exact sbt⟩
  ·have hz2:ovW p q i=0:=by have h9:((ovW p q i:Nat):Int)=0:=Classical.not_not.1 c28;omega
   refine rC tb 4 U (y_ (A8 (T U) An qom) ?_ U);refine rO tb 2 U ?_;refine A6 (i+1) ?_ ?_ ⟨atd,trivial⟩ ⟨Aa U,Aa U,trivial⟩ ?_
   ·refine⟨by omega,fun k hk=> ?_⟩;rcases Nat.lt_or_ge k i with h9|h9
    ·exact hz k h9
    ·obtain rfl:k=i:=by omega
     exact hz2
   ·first|omega|(simp only[];omega)
   ·exact sbt
 ·obtain rfl:i=10:=by have h9: ¬ ((i:Nat):Int)<10:=c7;omega
  refine rC tb 2 U (Ax (rX tb 8 U (Ak U (Nk U) ?_)));exact⟨_,⟨by rw[ov_yes hz];rfl,rfl⟩,by exact sbt⟩
theorem eleast_s {w0:World}{H:List (Nat × Obj)}(p:Md)(hp:MdR p):
  FSpec Tryz.prog w0 63 #[.agg (mdC p).toArray] H (Still (.agg (hdC p.2).toArray) H):=by
 refine Au Tryz.func63 U ntmps63 U (rD tb 2 U (e_ (Nr U cs_) ?_ U));rintro _ _ ⟨n1,rfl,rfl⟩;refine e_ (Ai zeroValue32 cs_) ?_ U;rintro _ _ ⟨n2,rfl,rfl⟩;refine rO tb 5 U ?_;refine y_ (Nn U isAgg32 sizeOf32 (Aj hp.o2) (by first|exact Fl hp.o1 fdd|exact As)) ?_ U;refine e_ (Nq U U sizeOf32 .agg (Bh _) (Aj hp.o2) (by repeat (first|exact Upd.h|apply Upd.t|apply Bl)) (by rw[Aj hp.o2];rfl)) ?_ U;rintro _ _ ⟨rfl,rfl⟩;refine rO tb 3 U (Ak U (.cellA (Aa U) isAgg32 sizeOf32 (Aj hp.o2) (by first|exact As) .nil) ?_);exact⟨_,⟨rfl,rfl⟩,by exact sbt⟩
theorem ybd91_z  (w:World):(Instr.build 91 #[]).run Tryz.prog w= .ok (.agg #[.int .i64 0, .int .i64 0, .int .i64 0, .int .i64 0, .int .i64 0, .int .i64 0, .int .i64 0, .int .i64 0, .int .i64 0, .int .i64 0, .int .i64 0, .int .i64 0, .int .i64 0, .int .i64 0, .int .i64 0, .int .i64 0, .int .i64 0, .int .i64 0, .int .i64 0, .int .i64 0]) w:=by kernel_rfl
theorem eand_s {w0:World}{H:List (Nat × Obj)}(p q:Md)(hp:MdR p)(hq:MdR q):
  FSpec Tryz.prog w0 68 #[.agg (mdC p).toArray, .agg (mdC q).toArray] H (Still (if ovlB p q then .tuple #[.agg (mdC (andM p q)).toArray, .bool true] else .tuple #[.agg (mdC (hd0,hd0)).toArray, .bool false]) H):=by
 refine Au Tryz.func68 U ntmps68 U ?_;have hl1:=hp.o1.len;have hl2:=hp.o2.len;have hl3:=hq.o1.len;have hl4:=hq.o2.len;refine rD tb 2 U (e_ (Nr U cs_) ?_ U);rintro _ _ ⟨n2,rfl,rfl⟩;refine e_ (Nr U cs_) ?_ U;rintro _ _ ⟨n3,rfl,rfl⟩;refine e_ (Ai zeroValue91 cs_) ?_ U;rintro _ _ ⟨n4,rfl,rfl⟩;refine rO tb 6 U ?_;refine y_ (Nn U isAgg91 sizeOf91 (Be hp.o1 hp.o2) (by first|exact Af fdd|exact As)) ?_ U;refine y_ (Nn U isAgg91 sizeOf91 (Be hq.o1 hq.o2) (by first|exact Af fdd|exact As)) ?_ U;refine y_ (Aw (qe2 U U) call111 (fun H' hs=>eovl_s p q hp hq)) ?_ U
 first|refine A9 (B5 (T U)) U Ac ?_|refine A9 (B1 (T U)) U Ac ?_
 refine rO tb 2 U ?_
 first|refine Ae (Aa U) (fun c10=> ?_) (fun c10=> ?_)|refine Ah (Aa U) (fun c10=> ?_) (fun c10=> ?_)
 ·have ho:ovlB p q=false:=by simpa using c10
  refine rC tb 2 U (y_ (Bd .nil (ybd91_z)) (e_ (Nq U U sizeOf91) ?_ U) U);rintro _ _ ⟨rfl,rfl⟩;refine rO tb 5 U (Ak U (.cellA (Aa U) isAgg91 sizeOf91 U (by first|exact As) (Nk U)) ?_);exact⟨_,⟨by rw[ho];rfl,rfl⟩,by exact sbt⟩
 ·have ho:ovlB p q=true:=by simpa using c10
  refine rC tb 9 U ?_;refine Bj (X:=Nat) (V:=fun i=>[(12, .int .i64 (i:Nat))]) (C:=[(2,_),(3,_),(4,_)]) (G:=fun i=>(n4,Cl ([.int .i64 0, .int .i64 0, .int .i64 0, .int .i64 0, .int .i64 0, .int .i64 0, .int .i64 0, .int .i64 0, .int .i64 0, .int .i64 0, .int .i64 0, .int .i64 0, .int .i64 0, .int .i64 0, .int .i64 0, .int .i64 0, .int .i64 0, .int .i64 0, .int .i64 0, .int .i64 0]) 91)::(n3,Cl (mdC q) 91)::(n2,Cl (mdC ((wI (orW p.1 q.1) p.1 i),(wI (orW p.2 q.2) p.2 i))) 91)::H) (φ:=fun i=>i≤10) (μ:=fun i=>10 - i) (x0:=0) ?_ ⟨Aa U,Aa U,Aa U,trivial⟩ ⟨atd,trivial⟩ sb0 ?_
  ·exact Nat.zero_le _
  rintro i hi;have hi9:=hi;refine rD tb 6 U ?_
  first|refine Ae (Aa U) (fun c13=> ?_) (fun c13=> ?_)|refine Ah (Aa U) (fun c13=> ?_) (fun c13=> ?_)
  ·have hi2:i<10:=by have h9:((i:Nat):Int)<10:=c13;omega
   have w1:=Cq hp.o1 i;have w2:=Cq hp.o2 i;have w3:=Cq hq.o1 i;have w4:=Cq hq.o2 i;have hwl:(wI (orW p.1 q.1) p.1 i).length=10:=by rw[J9 qom];omega
   have hwm:(wI (orW p.2 q.2) p.2 i).length=10:=by rw[J9 qom];omega
   have hokA:=Lb (i:=i+1) hp.o1 (fun k _=>Lc hp.o1 hq.o1 k) qom;refine rC tb 11 U (Bk 11 [(0,true),(1,true),(2,true),(3,true),(4,true),(5,true),(6,true),(7,true),(8,true),(9,true),(10,true)] _ mixd qkr sb0 ?_ Bp);refine rP tb 2 U (o_y U (Bo (T U) (T U) runUnderlying32 sizeOf3 (by have h9:((i:Nat):Int)<10:=c13;omega)) ?_ U Ac);refine o_y U (Nl U isAgg3 (by first|exact c_o|exact Ks (g:=orW p.1 q.1) (h:=p.1) (Ga (m:=((wI (orW p.1 q.1) p.1 i),(wI (orW p.2 q.2) p.2 i))) fdd) qom)) ?_ U Ac;refine rP tb 2 U (o_y U (Bo (T U) (T U) runUnderlying32 sizeOf3 (by have h9:((i:Nat):Int)<10:=c13;omega)) ?_ U Ac);refine o_y U (Nl U isAgg3 (by first|exact c_o|exact Cj (Ga (m:=q) fdd) qom)) ?_ U Ac;refine o_y U (Hv qom qom (T U) (T U)) ?_ U Ac;refine rP tb 1 U (o_y U (Bo (T U) (T U) runUnderlying32 sizeOf3 (by have h9:((i:Nat):Int)<10:=c13;omega)) ?_ U Ac);refine A4 U (e_ (Bi (T U) (T U) U sizeOf3 (hs:=Km (h:=(wI (orW p.1 q.1) p.1 i)) qom (hdC (wI (orW p.2 q.2) p.2 i)))) ?_ U);rintro _ _ ⟨rfl,rfl⟩;rw[show (wI (orW p.1 q.1) p.1 i).set i (gd p.1 i|||gd q.1 i)=(wI (orW p.1 q.1) p.1 (i+1)) from L7 qom];refine rO tb 2 U (Bk 11 [(0,true),(1,true),(2,true),(3,true),(4,true),(5,true),(6,true),(7,true),(8,true),(9,true),(10,true)] _ mixd qkr sb0 ?_ Bp);refine rP tb 2 U (o_y U (Bo (T U) (T U) runUnderlying32 sizeOf3 (by have h9:((i:Nat):Int)<10:=c13;omega)) ?_ U Ac);refine o_y U (Nl U isAgg3 (by first|exact c_o|exact Ks (g:=orW p.2 q.2) (h:=p.2) (Fl (m:=((wI (orW p.1 q.1) p.1 (i+1)),(wI (orW p.2 q.2) p.2 i))) hokA fdd) qom)) ?_ U Ac;refine rP tb 2 U (o_y U (Bo (T U) (T U) runUnderlying32 sizeOf3 (by have h9:((i:Nat):Int)<10:=c13;omega)) ?_ U Ac);refine o_y U (Nl U isAgg3 (by first|exact c_o|exact Cj (Fl (m:=q) hq.o1 fdd) qom)) ?_ U Ac;refine o_y U (Hv qom qom (T U) (T U)) ?_ U Ac;refine rP tb 1 U (o_y U (Bo (T U) (T U) runUnderlying32 sizeOf3 (by have h9:((i:Nat):Int)<10:=c13;omega)) ?_ U Ac);refine A4 U (e_ (Bi (T U) (T U) U sizeOf3 (hs:=setN_hi (a:=(wI (orW p.1 q.1) p.1 (i+1))) (b:=(wI (orW p.2 q.2) p.2 i)) hokA qom)) ?_ U);rintro _ _ ⟨rfl,rfl⟩;rw[show (wI (orW p.2 q.2) p.2 i).set i (gd p.2 i|||gd q.2 i)=(wI (orW p.2 q.2) p.2 (i+1)) from L7 qom];refine kO tb 3 [2,3,4,12] rfl U (rG tb 1 U (y_ (A8 (T U) An qom) ?_ U));refine rO tb 2 U ?_;refine A6 (i+1) ?_ ?_ ⟨atd,trivial⟩ ⟨Aa U,Aa U,Aa U,trivial⟩ ?_
   ·omega
   ·first|omega|(simp only[];omega)
   ·exact sbt
  ·obtain rfl:i=10:=by have h9: ¬ ((i:Nat):Int)<10:=c13;omega
   have hok:=Lb (i:=10) hp.o1 (fun k _=>Lc hp.o1 hq.o1 k) (Nat.le_refl _);have hok2:=Lb (i:=10) hp.o2 (fun k _=>Lc hp.o2 hq.o2 k) (Nat.le_refl _);refine rC tb 2 U (Ax (rX tb 4 U ?_));refine y_ (Nn U isAgg91 sizeOf91 (Be hok hok2) (by first|exact Af fdd|exact As)) ?_ U;refine e_ (Nq U U sizeOf91 .agg (Ct _ _) (Be hok hok2) (by repeat (first|exact Upd.h|apply Upd.t|apply Bl)) (by rw[Be hok hok2];rfl)) ?_ U;rintro _ _ ⟨rfl,rfl⟩;refine rO tb 4 U (Ak U (.cellA (Aa U) isAgg91 sizeOf91 (Be hok hok2) (by first|exact As) (Nk U)) ?_);exact⟨_,⟨by rw[ho,← and_words hp hq];rfl,rfl⟩,by exact sbt⟩
theorem eles_s {w0:World}{R:List (Nat × Obj)}(b3 b4:Nat)(h:Hd)(hh:HdOk h)(is:Bool)(x:Hd)(hx:HdOk x):
  FSpec Tryz.prog w0 62 #[.pointer (some ⟨b3,0,none⟩), .pointer (some ⟨b4,0,none⟩), .agg (hdC x).toArray] ([(b4,Cl [.bool is] 4),(b3,Cl (hdC h) 32)]++R) (fun u H9=>∃ y:Unit,u= .tuple #[]∧H9=([(b4,Cl [.bool (lesI h is x)] 4),(b3,Cl (hdC (lesH h is x)) 32)]++R)):=by
 refine Au Tryz.func62 U ntmps62 U (rD tb 2 U (e_ (Nr U cs_) ?_ U));rintro _ _ ⟨n5,rfl,rfl⟩;refine rO tb 3 U (Bk 11 [(0,true),(1,true),(2,true),(3,true),(4,true),(5,true),(6,true),(7,true),(8,true),(9,true),(10,true)] _ mixd qkr sb0 ?_ Bp);refine rP tb 2 U ?_;refine o_y U (Nl U isAgg4 (by first|exact c_o|exact Af fdd 0 _ U)) ?_ U Ac;refine rP tb 1 U ?_
 first|refine Lo (s:=9) (Aa U) (fun c9=> ?_) (fun c9=> ?_)|refine Mz (s:=9) (Aa U) (fun c9=> ?_) (fun c9=> ?_)
 ·have hb9:lesB h is x=true:=by simp[lesB,c9]
  refine rP tb 7 U (A4 U (rO tb 6 U ?_));refine y_ (Nn U isAgg32 sizeOf32 (Aj hx) (by first|exact Af fdd|exact As)) ?_ U;refine rO tb 1 U (e_ (Nq U U sizeOf32 .agg (Bh _) (Aj hx) (by repeat (first|exact Upd.h|apply Upd.t|apply Bl)) (by rw[Aj hx,Aj hh])) ?_ U);rintro _ _ ⟨rfl,rfl⟩;refine rO tb 1 U ?_
  first|refine A5 (Aq (T U) An sizeOf4) U Ac ?_|refine A5 (B4 (T U) An U sizeOf4) U Ac ?_|refine A5 (Bi (T U) An U sizeOf4) U Ac ?_
  rintro _ _ ⟨rfl,rfl⟩;refine rO tb 1 U (Kb U .nil (⟨_,⟨(),rfl,rfl⟩,?_⟩));unfold lesH lesI
  first|(rw[if_pos hb9,if_pos hb9];exact sbt)|(rw[if_neg hb9,if_neg hb9];exact sbt)
 ·skip
  refine o_y U (Nn U isAgg32 sizeOf32 (Aj hx) (by first|exact Af fdd|exact As)) ?_ U (Bg U U (Aa U));refine rP tb 2 U ?_;refine o_y U (Nn U isAgg32 sizeOf32 (Aj hh) (by first|exact Af fdd|exact As)) ?_ U (Bg U U (Aa U));refine o_y U (Aw (qe2 U U) call105 (fun H' hs=>cmpHd_s x h hx hh)) (rP tb 2 U (A4 U (rO tb 2 U ?_))) U (Bg U U (Aa U))
  first|refine Ae (Aa U) (fun c16=> ?_) (fun c16=> ?_)|refine Ah (Aa U) (fun c16=> ?_) (fun c16=> ?_)
  ·have hb9:lesB h is x=true:=by have h9:cmpL x h<0:=c16;simp[lesB,h9]
   refine rC tb 3 U ?_;refine y_ (Nn U isAgg32 sizeOf32 (Aj hx) (by first|exact Af fdd|exact As)) ?_ U;refine rO tb 1 U (e_ (Nq U U sizeOf32 .agg (Bh _) (Aj hx) (by repeat (first|exact Upd.h|apply Upd.t|apply Bl)) (by rw[Aj hx,Aj hh])) ?_ U);rintro _ _ ⟨rfl,rfl⟩;refine rO tb 1 U ?_
   first|refine A5 (Aq (T U) An sizeOf4) U Ac ?_|refine A5 (B4 (T U) An U sizeOf4) U Ac ?_|refine A5 (Bi (T U) An U sizeOf4) U Ac ?_
   rintro _ _ ⟨rfl,rfl⟩;refine rO tb 1 U (Kb U .nil (⟨_,⟨(),rfl,rfl⟩,?_⟩));unfold lesH lesI
   first|(rw[if_pos hb9,if_pos hb9];exact sbt)|(rw[if_neg hb9,if_neg hb9];exact sbt)
  ·have hb9: ¬ lesB h is x=true:=by have h9: ¬ cmpL x h<0:=c16;simp[lesB,c9,h9]
   refine rC tb 1 U (Kb U .nil (⟨_,⟨(),rfl,rfl⟩,?_⟩));unfold lesH lesI
   first|(rw[if_pos hb9,if_pos hb9];exact sbt)|(rw[if_neg hb9,if_neg hb9];exact sbt)
theorem FSpecP.re {P:Program}{w0:World}{f:FuncId}{args:Array Value}{H:List (Nat × Obj)}{K:Value→List (Nat × Obj)→Prop}{fv fw:Value}{B:List (Nat × Obj)→Prop}(h:FSpecP P w0 f args H K fv B)(hf:∀ H',B H'→fv=fw):FSpecP P w0 f args H K fw B:=fun w hO=>(h w hO).mono fun e w' he=>by
 rcases he with h|⟨a,H',b,c⟩
 ·exact .inl h
 ·exact .inr ⟨by rw[a,hf H' c],H',b,c⟩
abbrev RlV (L:List (Md × List Md)) (H:List (Nat × Obj)):Value→List (Nat × Obj)→Prop:=fun u H'=>∃ (d:Sl) (cs:List Chm) (e:Int),u= .tuple #[slV d cs.length, .int .i64 e]∧((e=0∧L.length≤4000∧cs.map Chm.pl=L∧SlOk d cs.length 21∧∀ c∈cs,ChH c)∨(e=2∧4000<L.length∧cs.length=0))∧H'=(slH d (cs.flatMap encCh) 94++chM cs)++H
theorem rules_v {w0:World}{H:List (Nat × Obj)}{D:Sd}{sv:Sv}{ns:Ns}{bs:List Nat}(hst:StOk D sv ns)(hbs:BsOk bs)(hbe:D.bs=bs)(hS:(SM D sv ns).Sublist H)(hB:Arr w0 H D.qb 1 encB1 bs){Qp:Nat→Md→List Prt→Prop}(Q:Bdd ns bs Qp)(a:Nat)(ha:a<ns.length)(hq: ¬ a=0→Qp 0 (hd0,hd0) [pt0 a]):
  FSpec Tryz.prog w0 61 #[.pointer (some ⟨D.p,0,none⟩), .int .i64 (a:Nat)] H (RlV (rulesP ns bs a) H):=by
 subst hbe;have e:=rules_s hst hbs hS hB Q a ha hq;intro w hO;refine(e w hO).mono ?_;rintro _ w' ⟨u,H',he,hO',⟨⟨d,cs⟩,⟨h4,h1,h2,h3,rfl⟩,rfl⟩|⟨h4,rfl,rfl⟩⟩
 ·exact⟨_,_,he,hO',d,cs,0,rfl, .inl ⟨rfl,h4,h1,h2,h3⟩,rfl⟩
 ·exact⟨_,_,he,hO', .nil,[],2,rfl, .inr ⟨rfl,h4,rfl⟩,rfl⟩
theorem chV_lo {w0:World}{H:List (Nat × Obj)}{n:Nat}{p:Md}{v:Value}{t:TypeId}(hf:Fnd H n (Cl (chV p v) t)):Cells w0 H n 0 (mdC p):=fun i u hi=>Af hf i u (by rw[List.getElem?_append_left (by exact(List.getElem?_eq_some_iff.1 hi).1)];exact hi)
theorem Ld {w0:World}{d:Sl}{cs:List Chm}{X:List (Nat × Obj)}(hd:SlOk d cs.length 21):Arr w0 ((slH d (cs.flatMap encCh) 94++chM cs)++X) (slQ d) 21 encCh cs:=by
 rw[List.append_assoc];exact Cw D6 hd
theorem sng_snoc (A:List (Md × List Md))(c:Md × List Md):sngL (A++[c])=sngL A++(if c.2.length>1 then [c.1.2] else []):=by
 unfold sngL;rw[List.filter_append,List.map_append]
 congr 1
 by_cases h:c.2.length>1
 ·rw[if_pos h,List.filter_cons_of_pos (by simpa using h)];rfl
 ·rw[if_neg h,List.filter_cons_of_neg (by simpa using h)];rfl
theorem pl_snoc {cs:List Chm}{i:Nat}(hi:i<cs.length):(cs.take (i+1)).map Chm.pl=(cs.take i).map Chm.pl++[(gd cs i).pl]:=by
 rw[List.take_succ_eq_append_getElem hi,List.map_append,Az hi];rfl
theorem sng_no {cs:List Chm}{i:Nat}{h:Hd}{is:Bool}(hi:i<cs.length)(hn: ¬ (gd cs i).ms.length>1)(a:LstOf (sngL ((cs.take i).map Chm.pl)) h is):LstOf (sngL ((cs.take (i+1)).map Chm.pl)) h is:=by
 rw[pl_snoc hi,sng_snoc,if_neg (show ¬ (gd cs i).pl.2.length>1 from hn),List.append_nil];exact a
theorem sng_yes {cs:List Chm}{i:Nat}{h:Hd}{is:Bool}(hi:i<cs.length)(hn:(gd cs i).ms.length>1)(hh:HdOk h)(hx:HdOk (gd cs i).p.2)(a:LstOf (sngL ((cs.take i).map Chm.pl)) h is):LstOf (sngL ((cs.take (i+1)).map Chm.pl)) (lesH h is (gd cs i).p.2) (lesI h is (gd cs i).p.2):=by
 rw[pl_snoc hi,sng_snoc,if_pos (show (gd cs i).pl.2.length>1 from hn)];exact lst_step hh hx a
theorem loc_2 {a b:Nat × Obj}{X:List (Nat × Obj)}:LocL (a::b::X) [a,b] X (fun M'=>M'++X):=(LocL.h:LocL ([a,b]++X) [a,b] X _)
abbrev L8 (fl:List Fd) (tick:Int) (p1:Po):Prop:=∀ a n,PF fl tick p1 (N0 fl)=some (a,n)→¬ (rulesP n (bsF fl) a).length≤4000
structure ErrIs (fl:List Fd) (tick:Int) (p:Po) (e:Int):Prop where
 f:PF fl tick p (N0 fl)=none→e=12
 l:∀ a n,PF fl tick p (N0 fl)=some (a,n)→4000<(rulesP n (bsF fl) a).length→e=2
theorem qsng_s {w0:World}{H:List (Nat × Obj)}{fl:List Fd}(hfl:FlOk fl)(tick:Int){m1:Pom}{p1:Po}(hI1:IsO fl m1 p1)(hF1:p1.Fit (bsF fl))(hM1:PoM w0 H m1){b1:Nat}(f1:Fnd H b1 (Cl (encPo m1) 28))(hn1:m1.nd≤62)(e:Int)(hEr:ErrIs fl tick p1 e):QuS w0 fl tick 59 [.pointer (some ⟨b1,0,none⟩)] e (Ans (AskP tick 5 p1 p1)) (L8 fl tick p1) H:=by
 intro dx db p mp v R hR hst hE;have hb:=Ef hfl;show FSpecP Tryz.prog w0 59 #[Value.agg #[.pointer (some ⟨p,0,none⟩), .int .i64 tick], .pointer (some ⟨b1,0,none⟩)] _ _ _ _;refine Bm Tryz.func59 U ntmps59 U (rD tb 2 U (e_ (Nr U cs_) ?_ U));rintro _ _ ⟨n2,rfl,rfl⟩;refine e_ (Ai zeroValue32 cs_) ?_ U;rintro _ _ ⟨n3,rfl,rfl⟩;refine e_ (Ai zeroValue4 cs_) ?_ U;rintro _ _ ⟨n4,rfl,rfl⟩;refine rO tb 4 U ?_
 first|refine A5 (Aq (T U) An sizeOf4) U Ac ?_|refine A5 (B4 (T U) An U sizeOf4) U Ac ?_|refine A5 (Bi (T U) An U sizeOf4) U Ac ?_
 rintro _ _ ⟨rfl,rfl⟩;refine rO tb 4 U (Bk 11 [(0,true),(1,true),(2,true),(3,true),(10,true),(4,false),(5,false),(6,true),(7,true),(8,false),(9,true)] ((n4,Cl [.bool true] 4)::(n3,Cl [.int .i64 0, .int .i64 0, .int .i64 0, .int .i64 0, .int .i64 0, .int .i64 0, .int .i64 0, .int .i64 0, .int .i64 0, .int .i64 0] 32)::(n2,Cl [.pointer (some ⟨p,0,none⟩), .int .i64 tick] 70)::R) mixd qkr (by exact sbt) ?_ B7);refine rP tb 1 U ?_;refine o_y U (Nl U isAgg68 (by first|exact c_o|exact Af fdd 0 _ U)) ?_ U Ac;refine o_y U (Nn U isAgg70 sizeOf70 U (by first|exact Af fdd|exact As)) ?_ U Ac;refine o_y U (Nn U isAgg28 sizeOf28 U (by first|exact Af (Fnd.mono f1 (List.Sublist.trans hR (by exact sbt)))|exact As)) ?_ U Ac;refine rP tb 1 U ?_;refine o_p rfl (Ay (.cons (T rfl) (.cons (T rfl) .nil)) call46 (A3 (M:=SM (NewD fl 200000 dx db p mp) v (nsE (2*(bsF fl).length))) (FSpecP.re (fw:=errV e) (E0 (R:=((n4,Cl [.bool true] 4)::(n3,Cl [.int .i64 0, .int .i64 0, .int .i64 0, .int .i64 0, .int .i64 0, .int .i64 0, .int .i64 0, .int .i64 0, .int .i64 0, .int .i64 0] 32)::(n2,Cl [.pointer (some ⟨p,0,none⟩), .int .i64 tick] 70)::R)) hst (hE.mono (by exact sbt)) m1 p1 hI1 hF1 (hM1.mono (List.Sublist.trans hR (by exact sbt))) tick) (by rintro _ ⟨_,⟨h9,_⟩,_⟩;rw[hEr.f h9])) (by repeat (first|exact Bt|exact LocL.h|apply LocL.t|apply LocL.a)))) ?_ (by rintro _ ⟨⟨v9,n9⟩,⟨e1,g9,hst9⟩,rfl⟩;(repeat refine B3 ?_);exact Bb ⟨(by intro a n f;cases e1.symm.trans f),by exact sbt⟩ (List.Sublist.refl _)) rfl Ac;rintro _ _ ⟨⟨id1,v1,ns1⟩,⟨rfl,e1,hst1⟩,rfl⟩
 dsimp only at e1 hst1
 obtain⟨g1,h1⟩:=Dt hb hF1 hst.w e1;refine⟨sbt,?_⟩;refine o_e U (Al (qe2 U U) call61 (rules_v (D:=(NewD fl 200000 dx db p mp)) hst1 hb U (by repeat (first|exact List.sublist_append_left _ _|refine List.Sublist.cons _ ?_)) (hE.bits.mono (by exact sbt)) (pol_bdd hfl hI1 hF1 hn1 hst1.w h1.rep) id1 h1.lt (fun h0=>ps_0 h1.lt h0))) ?_ U Ac;rintro _ _ ⟨d5,cs5,e5,rfl,hR5,rfl⟩;refine⟨sbt,(rP tb 2 U ?_)⟩;refine o_p rfl (Ay (.cons (T rfl) (.cons (T rfl) .nil)) call60 (mustC_s (slQ d5) cs5.length (slC d5) e5 (errV e) (fun h9=>by obtain⟨h7,h8, -⟩:=hR5.resolve_left (fun k=>h9 k.1);rw[h7,hEr.l _ _ e1 h8]))) ?_ (by rintro _ ⟨he,rfl⟩;(repeat refine B3 ?_);exact Bb ⟨(by intro a n f;cases e1.symm.trans f;have:=(hR5.resolve_left fun k=>he k.1).2.1;omega),by exact sbt⟩ (List.Sublist.refl _)) rfl Ac;rintro _ _ ⟨⟨⟩,⟨rfl,he0⟩,rfl⟩;obtain⟨-,h4,he5,hd5,hc5⟩:=hR5.resolve_right fun k=>absurd (k.1.symm.trans he0) qde
 have hRl:=rules_ok hb hst1.w h1.lt h1.rep (fun a b=>h1.out a b);have hcl:cs5.length≤4000:=by rw[← List.length_map (f:=Chm.pl),he5];exact h4
 refine⟨sbt,(rP tb 1 U (A4 U (rO tb 3 U ?_)))⟩;refine Bj (X:=Nat × Hd × Bool) (V:=fun ⟨i,h,is⟩=>[(17, .int .i64 (i:Nat))]) (C:=[(3,_),(4,_),(15,_),(16,_)]) (G:=fun ⟨i,h,is⟩=>(slH d5 (cs5.flatMap encCh) 94++chM cs5)++((n4,Cl [.bool is] 4)::(n3,Cl (hdC h) 32)::(n2,Cl [.pointer (some ⟨p,0,none⟩), .int .i64 tick] 70)::(SM (NewD fl 200000 dx db p mp) v1 ns1++R))) (φ:=fun ⟨i,h,is⟩=>i≤cs5.length∧HdOk h∧LstOf (sngL ((cs5.take i).map Chm.pl)) h is) (μ:=fun ⟨i,h,is⟩=>cs5.length - i) (x0:=(0,hd0,true)) ?_ ⟨Aa rfl,Aa rfl,Aa rfl,Aa rfl,trivial⟩ ⟨atd,trivial⟩ (by exact List.Sublist.refl _) ?_
 ·exact⟨Nat.zero_le _,Bu,lst_nil⟩
 rintro⟨i,h,is⟩ ⟨hi,hh,hL⟩;refine rD tb 6 U ?_
 first|refine Ae (Aa U) (fun c18=> ?_) (fun c18=> ?_)|refine Ah (Aa U) (fun c18=> ?_) (fun c18=> ?_)
 ·have hi2:i<cs5.length:=by have h9:((i:Nat):Int)<(cs5.length:Nat):=c18;omega
  have hci:=hc5 _ (Ba hi2);have hpi:=(hRl.r _ (L3 he5 (Ba hi2))).1;refine rC tb 6 U (y_ (Np U U runUnderlying86 sizeOf94 (by have h9:((i:Nat):Int)<(cs5.length:Nat):=c18;omega) (by first|exact rfl|exact(Ld (w0:=w0) (X:=[]) hd5).b (i:=i) hi2)) ?_ U);refine y_ (Nn U isAgg94 sizeOf94 (D6 _) (by first|exact(Ld hd5).cs (i:=i) hi2|exact As)) ?_ U;refine e_ (Ai zeroValue94 cs_) ?_ U;rintro _ _ ⟨n6,rfl,rfl⟩;refine e_ (Nq U U sizeOf94 .agg (encCh_one _) (D6 _) (by repeat (first|exact Upd.h|apply Upd.t|apply Bl)) (by rw[D6];rfl)) ?_ U;rintro _ _ ⟨rfl,rfl⟩;rw[encCh_eq hci.o];refine rO tb 5 U ?_;refine y_ (Nl U isAgg92 (by first|exact c_o|exact Hw hci.o fdd)) ?_ U;refine rO tb 4 U ?_
  first|refine Ae (Aa U) (fun c24=> ?_) (fun c24=> ?_)|refine Ah (Aa U) (fun c24=> ?_) (fun c24=> ?_)
  ·have hn24:(gd cs5 i).ms.length>1:=by have h9:(((gd cs5 i).ms.length:Nat):Int)>1:=c24;omega
   refine rC tb 2 U ?_;refine y_ (Nn U isAgg91 sizeOf91 (Be hci.o.1 hci.o.2) (by first|exact chV_lo fdd|exact As)) ?_ U;refine y_ (Aw (qe1 U) call63 (fun H' hs=>eleast_s (gd cs5 i).p hpi)) (e_ (Al (qe3 U U U) call62 (B9 (M:=[(n4,Cl [.bool is] 4),(n3,Cl (hdC h) 32)]) (eles_s (R:=(n6,Cl (chV (gd cs5 i).p (slV (gd cs5 i).d (gd cs5 i).ms.length)) 94)::((slH d5 (cs5.flatMap encCh) 94++chM cs5)++((n2,Cl [.pointer (some ⟨p,0,none⟩), .int .i64 tick] 70)::(SM (NewD fl 200000 dx db p mp) v1 ns1++R)))) n3 n4 h hh is (gd cs5 i).p.2 hpi.o2) (by repeat (first|exact loc_2|apply LocL.t|apply LocL.a)))) ?_ U) U;rintro _ _ ⟨⟨⟩,rfl,rfl⟩;refine rO tb 4 U (y_ (A8 (T U) An qom) ?_ U);refine rO tb 2 U ?_;refine A6 ((i+1,lesH h is (gd cs5 i).p.2,lesI h is (gd cs5 i).p.2)) ?_ ?_ ⟨atd,trivial⟩ ⟨Aa U,Aa U,Aa U,Aa U,trivial⟩ ?_
   ·exact⟨hi2,les_ok hh hpi.o2,sng_yes hi2 hn24 hh hpi.o2 hL⟩
   ·first|omega|(simp only[];omega)
   ·exact sbt
  ·have hn24: ¬ (gd cs5 i).ms.length>1:=by have h9: ¬ (((gd cs5 i).ms.length:Nat):Int)>1:=c24;omega
   refine rC tb 4 U (y_ (A8 (T U) An qom) ?_ U);refine rO tb 2 U ?_;refine A6 ((i+1,h,is)) ?_ ?_ ⟨atd,trivial⟩ ⟨Aa U,Aa U,Aa U,Aa U,trivial⟩ ?_
   ·exact⟨hi2,hh,sng_no hi2 hn24 hL⟩
   ·first|omega|(simp only[];omega)
   ·exact sbt
 ·obtain rfl:i=cs5.length:=by have h9: ¬ ((i:Nat):Int)<(cs5.length:Nat):=c18;omega
  rw[List.take_length,he5] at hL;refine rC tb 2 U (Ax (rX tb 4 U ?_));refine y_ (Nn U isAgg32 sizeOf32 (Aj hh) (by first|exact Af fdd|exact As)) ?_ U;refine y_ (Nl U isAgg4 (by first|exact c_o|exact Af fdd 0 _ U)) ?_ U;refine e_ (Nq U U sizeOf32 .agg (Bh _) (Aj hh) (by repeat (first|exact Upd.h|apply Upd.t|apply Bl)) qrf) ?_ U;rintro _ _ ⟨rfl,rfl⟩
  first|refine A5 (Nq U U sizeOf4) U Ac ?_|refine A5 (B4 (T U) (T U) U sizeOf4) U Ac ?_|refine A5 (Bi (T U) (T U) U sizeOf4) U Ac ?_
  rintro _ _ ⟨rfl,rfl⟩;refine rO tb 3 U (Bx U (.cellA (Aa U) isAgg32 sizeOf32 (Aj hh) (by first|exact As) (.cell (Aa U) isAgg4 (by first|exact c_o) .nil)) ?_);exact⟨_,⟨⟨h,is,rfl,hh,sng_ans hRl hL⟩,by exact sbt⟩,sb0⟩
theorem esingle_s {w0:World}{H:List (Nat × Obj)}{fl:List Fd}(hfl:FlOk fl)(q:Option Addr)(c:Nat)(hA:Arr w0 H q 3 encF fl)(tick:Int){m1:Pom}{p1:Po}(hI1:IsO fl m1 p1)(hF1:p1.Fit (bsF fl))(hM1:PoM w0 H m1)(hn1:m1.nd≤62)(e:Int)(hEr:ErrIs fl tick p1 e):
  FSpec Tryz.prog w0 19 #[.slice q fl.length c, .agg (encPo m1).toArray, .int .i64 tick] H (AskK (Ans (AskP tick 5 p1 p1)) e (L8 fl tick p1) H):=by
 refine Au Tryz.func19 U ntmps19 U (rD tb 2 U (e_ (Nr U cs_) ?_ U));rintro _ _ ⟨n4,rfl,rfl⟩;refine e_ (Ai zeroValue32 cs_) ?_ U;rintro _ _ ⟨n6,rfl,rfl⟩;refine rO tb 8 U (y_ (Bs (.cons (T U) .nil)) ?_ U);refine e_ (Al (qe3 U U U) call43 (Kf fl hfl q c (hA.mono (by exact sbt)) tick e call59 (qsng_s hfl tick hI1 hF1 (hM1.mono (by exact sbt)) (by repeat (first|exact Am|refine Ar ?_)) hn1 e hEr))) ?_ U;rintro _ _ ⟨⟨h,is,e9,rfl,hh,hR⟩,rfl⟩;refine rO tb 3 U (e_ (Nq U U sizeOf32 .agg (Bh _) (Aj hh) (by repeat (first|exact Upd.h|apply Upd.t|apply Bl)) (by rw[Aj hh];rfl)) ?_ U);rintro _ _ ⟨rfl,rfl⟩;refine rO tb 5 U (Ak U (.cellA (Aa U) isAgg32 sizeOf32 (Aj hh) (by first|exact As) (.tmp (Aa U) (Nk U))) ?_);exact⟨_,⟨⟨h,is,e9,rfl,hh,hR⟩,rfl⟩,by exact sbt⟩
end Go.Proofs.YtkgfmjanajdibaaGreat
