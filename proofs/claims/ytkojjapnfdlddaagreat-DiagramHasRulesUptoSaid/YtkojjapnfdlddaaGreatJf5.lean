/-
  A part of what LawF rests on: the logic, walks and plain laws. No condition.
-/
import Derived.Test.YtkojjapnfdlddaaGreatJf4
import Derived.Test.YtkojjapnfdlddaaGreatRows
import Derived.WalkKit
import Derived.ProofKit
import Derived.OpenShut
import Derived.Lib.SmallJoins
import Derived.Deep.SlicePairs
import Derived.Deep.DeepHandedRow
namespace Go.Proofs.YtkojjapnfdlddaaGreat
open _root_.Go.Proofs.Tryz
open Go.RowKit
set_option linter.unusedVariables false
set_option linter.unusedSimpArgs false
set_option linter.unusedSectionVars false
set_option maxRecDepth 100000
theorem cmp_at {a b:List Nat}{k:Nat}(h1:k<a.length)(h2:k<b.length)(h:cmpL a b=cmpL (a.drop k) (b.drop k)):(gd a k<gd b k→cmpL a b= -1)∧(gd b k<gd a k→cmpL a b=1)∧(gd a k=gd b k→cmpL a b=cmpL (a.drop (k+1)) (b.drop (k+1))):=by
 rw[h,cmpL_drop h1 h2];unfold cmpI;refine⟨fun e=> ?_,fun e=> ?_,fun e=> ?_⟩
 ·rw[if_pos (show ((gd a k:Nat):Int)<(gd b k:Nat) by omega)];rfl
 ·rw[if_neg (show ¬ ((gd a k:Nat):Int)<(gd b k:Nat) by omega),if_pos (show ((gd b k:Nat):Int)<(gd a k:Nat) by omega)];rfl
 ·rw[if_neg (show ¬ ((gd a k:Nat):Int)<(gd b k:Nat) by omega),if_neg (show ¬ ((gd b k:Nat):Int)<(gd a k:Nat) by omega)];rfl
abbrev HsA (w0:World) (H:List (Nat × Obj)) (l:List Hd) (q:Option Addr) (c:Nat):Prop:=Arr w0 H q 10 encHd l∧(∀ x∈l,HdOk x)∧l.length≤c
theorem HsA.mono {w0:World}{H H':List (Nat × Obj)}{l:List Hd}{q:Option Addr}{c:Nat}(h:HsA w0 H l q c)(hs:H.Sublist H'):HsA w0 H' l q c:=⟨h.1.mono hs,h.2⟩
theorem HsA.hd {w0:World}{H:List (Nat × Obj)}{l:List Hd}{q:Option Addr}{c:Nat}(h:HsA w0 H l q c):Arr w0 H q 10 hdC l:=arr_hd h.1 h.2.1
theorem HsA.ok {w0:World}{H:List (Nat × Obj)}{l:List Hd}{q:Option Addr}{c k:Nat}(h:HsA w0 H l q c)(hk:k<l.length):HdOk (gd l k):=h.2.1 _ (A2 hk)
theorem cmp18_s {w0:World}{H:List (Nat × Obj)}(a b:Hd)(ha:HdOk a)(hb:HdOk b):
  FSpec Tryz.prog w0 18 #[.agg (hdC a).toArray, .agg (hdC b).toArray] H (Still (.int .i64 (cmpL a b)) H):=by
 refine An Tryz.func18 U ntmps18 U ?_;have hla:=ha.len;have hlb:=hb.len;refine rD tb 2 U (e_ (Kw U cs_) ?_ U);rintro _ _ ⟨n2,rfl,rfl⟩;refine e_ (Kw U cs_) ?_ U;rintro _ _ ⟨n3,rfl,rfl⟩;refine rO tb 10 U ?_;refine A9 (X:=Nat) (V:=fun k=>[(5, .int .i64 (k:Nat))]) (C:=[(2,_),(3,_)]) (G:=fun k=>(n3,Cl (hdC b) 30)::(n2,Cl (hdC a) 30)::H) (φ:=fun k=>k≤10∧cmpL a b=cmpL (a.drop k) (b.drop k)) (μ:=fun k=>10 - k) (x0:=0) ?_ ⟨Aa U,Aa U,trivial⟩ ⟨atd,trivial⟩ sb0 ?_
 ·exact⟨Nat.zero_le _,rfl⟩
 rintro k ⟨hk,hd⟩;refine rD tb 7 U ?_
 first|refine Ac (Aa U) (fun c7=> ?_) (fun c7=> ?_)|refine Ag (Aa U) (fun c7=> ?_) (fun c7=> ?_)
 ·have hk2:k<10:=by have h9:((k:Nat):Int)<10:=c7;omega
  obtain⟨hl,hg,he⟩:=cmp_at qom qom hd;refine rC tb 6 U (Bl 7 [(0,true),(1,true),(2,true),(3,true),(4,true),(5,true),(6,true)] _ mixd qkr sb0 ?_ Bp);refine rP tb 1 U (o_y U (Bi (T U) (T U) runUnderlying30 sizeOf3 qom) ?_ U Ae);refine o_y U (Kr U isAgg3 (by first|exact c_o|exact Cg (Ah fdd) (show k<a.length by omega))) ?_ U Ae;refine rP tb 1 U (o_y U (Bi (T U) (T U) runUnderlying30 sizeOf3 qom) ?_ U Ae);refine o_y U (Kr U isAgg3 (by first|exact c_o|exact Cg (Ah fdd) (show k<b.length by omega))) ?_ U Ae;refine rP tb 1 U (A7 U (rO tb 2 U ?_))
  first|refine Ac (Aa U) (fun c16=> ?_) (fun c16=> ?_)|refine Ag (Aa U) (fun c16=> ?_) (fun c16=> ?_)
  ·refine rC tb 9 U (Ba (rX tb 2 U (Ai U (Kq U) ?_)));exact⟨_,⟨vint (hl qom).symm,rfl⟩,by exact sbt⟩
  ·refine rC tb 3 U (Bl 7 [(0,true),(1,true),(2,true),(3,true),(4,true),(5,true),(6,true)] _ mixd qkr sb0 ?_ Bp);refine rP tb 1 U (o_y U (Bi (T U) (T U) runUnderlying30 sizeOf3 qom) ?_ U Ae);refine o_y U (Kr U isAgg3 (by first|exact c_o|exact Cg (Ah fdd) (show k<a.length by omega))) ?_ U Ae;refine rP tb 1 U (o_y U (Bi (T U) (T U) runUnderlying30 sizeOf3 qom) ?_ U Ae);refine o_y U (Kr U isAgg3 (by first|exact c_o|exact Cg (Ah fdd) (show k<b.length by omega))) ?_ U Ae;refine rP tb 1 U (A7 U (rO tb 2 U ?_))
   first|refine Ac (Aa U) (fun c23=> ?_) (fun c23=> ?_)|refine Ag (Aa U) (fun c23=> ?_) (fun c23=> ?_)
   ·refine rC tb 8 U (Ba (rX tb 2 U (Ai U (Kq U) ?_)));exact⟨_,⟨vint (hg qom).symm,rfl⟩,by exact sbt⟩
   ·refine rC tb 5 U (y_ (A4 (T U) Aj qom) ?_ U);refine rO tb 2 U ?_;refine A0 (k+1) ?_ ?_ ⟨atd,trivial⟩ ⟨Aa U,Aa U,trivial⟩ ?_
    ·exact⟨hk2,he qom⟩
    ·first|omega|(simp only[];omega)
    ·exact sbt
 ·obtain rfl:k=10:=by have h9: ¬ ((k:Nat):Int)<10:=c7;omega
  refine rC tb 2 U (Ao (rX tb 8 U (Ai U (Kq U) ?_)));exact⟨_,⟨vint (by rw[hd,List.drop_of_length_le qom,List.drop_of_length_le qom];rfl),rfl⟩,by exact sbt⟩
theorem eq_of_gd {α:Type}[Inhabited α] {l m:List α}(hl:l.length=m.length)(h:∀ j,j<l.length→gd l j=gd m j):l=m:=List.ext_getElem hl fun i h1 h2=>by
 have:=h i h1
 rwa [Ay h1,Ay h2] at this
theorem same_s {w0:World}{H:List (Nat × Obj)}(l m:List Hd)(q1 q2:Option Addr)(c1 c2:Nat)(hA1:HsA w0 H l q1 c1)(hA2:HsA w0 H m q2 c2)(hlen:l.length≤1000000):
  FSpec Tryz.prog w0 19 #[.slice q1 l.length c1, .slice q2 m.length c2] H (Still (.bool (decide (l=m))) H):=by
 refine An Tryz.func19 U ntmps19 U (rD tb 15 U ?_)
 first|refine Ac (Aa U) (fun c10=> ?_) (fun c10=> ?_)|refine Ag (Aa U) (fun c10=> ?_) (fun c10=> ?_)
 ·skip
  refine rC tb 7 U (Ai U (Kq U) ?_);exact⟨_,⟨congrArg Value.bool (decide_eq_false (fun e=>c10 (by rw[e]))).symm,rfl⟩,by exact sbt⟩
 ·have hle:l.length=m.length:=by have h9: ¬ ¬ ((l.length:Nat):Int)=(m.length:Nat):=c10;omega
  refine rC tb 9 U ?_;refine A9 (X:=Nat) (V:=fun k=>[(5, .int .i64 (k:Nat))]) (C:=[(0,_),(1,_)]) (G:=fun k=>H) (φ:=fun k=>k≤l.length∧∀ j,j<k→gd l j=gd m j) (μ:=fun k=>l.length - k) (x0:=0) ?_ ⟨Aa U,Aa U,trivial⟩ ⟨atd,trivial⟩ sb0 ?_
  ·exact⟨Nat.zero_le _,fun j hj=>absurd hj (Nat.not_lt_zero _)⟩
  rintro k ⟨hk,hn⟩;refine rD tb 9 U ?_
  first|refine Ac (Aa U) (fun c14=> ?_) (fun c14=> ?_)|refine Ag (Aa U) (fun c14=> ?_) (fun c14=> ?_)
  ·have hk2:k<l.length:=by have h9:((k:Nat):Int)<(l.length:Nat):=c14;omega
   refine rC tb 5 U (Bl 9 [(0,true),(1,true),(2,true),(3,true),(4,true),(5,true),(6,true),(7,true),(8,true)] _ mixd qkr sb0 ?_ Bp);refine rP tb 2 U (o_y U (Ku U U runUnderlying42 sizeOf30 qom (by first|exact rfl|exact hA1.1.b (i:=k) qom|exact hA2.1.b (i:=k) qom)) ?_ U Ae);refine o_y U (Ks U isAgg30 sizeOf30 (Aw (hA1.ok (k:=k) qom)) (by first|exact((hA1.mono (by exact sbt)).hd).cs (i:=k) qom|exact Av)) ?_ U Ae;refine rP tb 2 U (o_y U (Ku U U runUnderlying42 sizeOf30 qom (by first|exact rfl|exact hA1.1.b (i:=k) qom|exact hA2.1.b (i:=k) qom)) ?_ U Ae);refine o_y U (Ks U isAgg30 sizeOf30 (Aw (hA2.ok (k:=k) qom)) (by first|exact((hA2.mono (by exact sbt)).hd).cs (i:=k) qom|exact Av)) ?_ U Ae;refine o_y U (yl_neqA (T U) (T U) qkr (eqHd (hA1.ok (k:=k) qom) (hA2.ok (k:=k) qom))) ?_ U Ae;refine A7 U (rO tb 2 U ?_)
   first|refine Ac (Aa U) (fun c25=> ?_) (fun c25=> ?_)|refine Ag (Aa U) (fun c25=> ?_) (fun c25=> ?_)
   ·refine rC tb 8 U (Ba (rX tb 2 U (Ai U (Kq U) ?_)));exact⟨_,⟨congrArg Value.bool (decide_eq_false (fun e=>c25 (by rw[e]))).symm,rfl⟩,by exact sbt⟩
   ·refine rC tb 5 U (y_ (A4 (T U) Aj qom) ?_ U);refine rO tb 2 U ?_;refine A0 (k+1) ?_ ?_ ⟨atd,trivial⟩ ⟨Aa U,Aa U,trivial⟩ ?_
    ·refine⟨hk2,fun j hj=> ?_⟩
     by_cases e:j=k
     ·rw[e];exact Classical.not_not.1 c25
     ·exact hn j qom
    ·first|omega|(simp only[];omega)
    ·exact sbt
  ·obtain rfl:k=l.length:=by have h9: ¬ ((k:Nat):Int)<(l.length:Nat):=c14;omega
   refine rC tb 2 U (Ao (rX tb 8 U (Ai U (Kq U) ?_)));exact⟨_,⟨congrArg Value.bool (decide_eq_true (eq_of_gd hle hn)).symm,rfl⟩,by exact sbt⟩
theorem sl_cap {d:Sl}{n sz:Nat}(h:SlOk d n sz):n≤slC d:=by
 cases d with
 |nil=>have:n=0:=h;omega
 |blk b cap junk=>exact h.1
theorem hs_sl {w0:World}{X:List (Nat × Obj)}{d:Sl}{l:List Hd}(hok:SlOk d l.length 10)(hl:∀ x∈l,HdOk x):HsA w0 (slH d (l.flatMap encHd) 30++X) l (slQ d) (slC d):=⟨Ck (w0:=w0) (e:=30) (X:=X) (enc:=encHd) De hok,hl,sl_cap hok⟩
abbrev SetK (w0:World) (p:List Hd→Prop) (H:List (Nat × Obj)):Value→List (Nat × Obj)→Prop:=fun u H'=>∃ (l':List Hd) (q:Option Addr) (c:Nat),u= .slice q l'.length c∧HsA w0 H' l' q c∧l'.Pairwise hLt∧p l'∧H.Sublist H'
theorem hs_nil {w0:World}{H:List (Nat × Obj)}:HsA w0 H [] none 0:=⟨fun i u hi=>by simp at hi,fun x hx=>by simp at hx,Nat.le_refl _⟩
theorem Fc {α:Type}:∀ {l m:List α},l.Nodup→(∀ x∈l,x∈m)→l.length≤m.length
 |[],m,_,_=>Nat.zero_le _
 |x::l,m,hn,hs=>by
  obtain⟨m1,m2,rfl⟩:=List.append_of_mem (hs x (by simp));obtain⟨hx,hn⟩:=List.nodup_cons.1 hn;have:=Fc (m:=m1++m2) hn fun y hy=>by
   have h1:=hs y (List.mem_cons_of_mem _ hy);simp only[List.mem_append,List.mem_cons] at h1 ⊢;rcases h1 with h1|rfl|h1
   ·exact .inl h1
   ·exact(hx hy).elim
   ·exact .inr h1
  simp only[List.length_append,List.length_cons] at this ⊢;omega
theorem up_nodup {l:List Hd}(h:l.Pairwise hLt):l.Nodup:=h.imp fun h e=>by subst e;exact h.irr
theorem rheadT_s {w0:World}{H:List (Nat × Obj)}(h:Hd)(hh:HdOk h):
  FSpec Tryz.prog w0 16 #[.agg (hdC h).toArray] H (Still (.bool true) H):=by
 refine An Tryz.func16 U ntmps16 U ?_;have hlen:=hh.len;refine rD tb 2 U (e_ (Kw U cs_) ?_ U);rintro _ _ ⟨n1,rfl,rfl⟩;refine rO tb 10 U ?_;refine A9 (X:=Nat) (V:=fun i=>[(3, .int .i64 (i:Nat))]) (C:=[(1,_)]) (G:=fun i=>(n1,Cl (hdC h) 30)::H) (φ:=fun i=>i≤10) (μ:=fun i=>10 - i) (x0:=0) ?_ ⟨Aa U,trivial⟩ ⟨atd,trivial⟩ sb0 ?_
 ·exact Nat.zero_le _
 rintro i hi;refine rD tb 7 U ?_
 first|refine Ac (Aa U) (fun c5=> ?_) (fun c5=> ?_)|refine Ag (Aa U) (fun c5=> ?_) (fun c5=> ?_)
 ·have hi2:i<10:=by have h9:((i:Nat):Int)<10:=c5;omega
  have hgl:=hh.lt _ (A2 (l:=h) (i:=i) qom);refine rC tb 7 U (y_ (Bi (T U) (T U) runUnderlying30 sizeOf3 (by have h9:((i:Nat):Int)<10:=c5;omega)) ?_ U);refine y_ (Kr U isAgg3 (by first|exact c_o|exact Cg (Ah fdd) qom)) ?_ U;refine rO tb 2 U ?_
  first|refine Am (s:=12) (Aa U) (fun c12=> ?_) (fun c12=> ?_)|refine A1 (s:=12) (Aa U) (fun c12=> ?_) (fun c12=> ?_)
  ·exfalso;have h9:((gd h i:Nat):Int)<0:=c12;omega
  ·skip
   refine rO tb 1 U (Az (Bi (T U) (T U) runUnderlying30 sizeOf3 (by have h9:((i:Nat):Int)<10:=c5;omega)) U (A3 U U (Aa U)) ?_);refine Az (Kr U isAgg3 (by first|exact c_o|exact Cg (Ah fdd) qom)) U (A3 U U (Aa U)) ?_;refine rO tb 4 U ?_
   first|refine Ac (Aa U) (fun c17=> ?_) (fun c17=> ?_)|refine Ag (Aa U) (fun c17=> ?_) (fun c17=> ?_)
   ·exfalso;have h9:((gd h i:Nat):Int)>65535:=c17;omega
   ·skip
    refine rC tb 5 U (y_ (A4 (T U) Aj qom) ?_ U);refine rO tb 2 U ?_;refine A0 (i+1) ?_ ?_ ⟨atd,trivial⟩ ⟨Aa U,trivial⟩ ?_
    ·exact hi2
    ·first|omega|(simp only[];omega)
    ·exact sbt
 ·skip
  refine rC tb 2 U (Ao (rX tb 8 U (Ai U (Kq U) ?_)));exact⟨_,⟨rfl,rfl⟩,by exact sbt⟩
theorem lright_v {w0:World}{H:List (Nat × Obj)}(fi:List Fi)(q:Option Addr)(n c:Nat)(hn:n=fi.length)(hA:Arr w0 H q 3 encFi fi)(hnm:∀ f∈fi,f.nm.size≤9223372036854775807){vs:List Value}(hi:List Int)(hvs:vs=hwC hi)(hl:hi.length=10)(tick:Int):
  FSpec Tryz.prog w0 10 #[.slice q n c, .agg vs.toArray, .int .i64 tick] H (SayB (FisOk fi∧(∀ k,k<10→0≤gd hi k∧gd hi k≤65535)∧0≤tick∧tick≤1073741824) H):=by
 subst hvs;exact lright_n fi q n c hn hA hnm hi hl tick
section
variable {w0:World} {H:List (Nat × Obj)} {D:Sd} {v:Sv} {ns:Ns} {h:Hd} {bs:List Nat}
theorem same_t (l:List Hd)(q1 q2:Option Addr)(c1 c2:Nat)(hA1:HsA w0 H l q1 c1)(hA2:HsA w0 H l q2 c2)(hlen:l.length≤1000000):FSpec Tryz.prog w0 19 #[.slice q1 l.length c1, .slice q2 l.length c2] H (Still (.bool true) H):=by
 have e:=same_s l l q1 q2 c1 c2 hA1 hA2 hlen
 rwa [decide_eq_true (rfl:l=l)] at e
end
theorem half_pow {k:Nat}(hk:k<15):2 ^ (15 - k) / 2=2 ^ (15 - (k+1)):=by
 rw[show 15 - k=(15 - (k+1))+1 by omega,Nat.pow_succ];exact Nat.mul_div_cancel _ qde
theorem yl_half {P:Program}{w0:World}{L:Fm}{H:List (Nat × Obj)}{ty xt yt:TypeId}{x y:Operand}{k:Nat}(hx:Ev L x (.int .i64 ((2 ^ (15 - k):Nat):Int)))(hy:Ev L y (.int .i64 2))(hk:k<15):Yl P w0 (.binOp .quo xt x y yt) ty L H (.int .i64 ((2 ^ (15 - (k+1)):Nat):Int)):=by
 have h1:2 ^ (15 - k)≤2 ^ 15:=Nat.pow_le_pow_right qom qom;have h1:2 ^ (15 - k)≤32768:=h1;have h:=C5 (P:=P) (w0:=w0) (H:=H) (ty:=ty) (xt:=xt) (yt:=yt) (c:=2) hx hy qom
 rwa [half_pow hk] at h
theorem rvalue_s {w0:World}{H:List (Nat × Obj)}(i:Nat)(hi:i≤1000000):
  FSpec Tryz.prog w0 153 #[.int .i64 (i:Nat)] H (Still (.int .i64 ((2 ^ (15 - i % 16):Nat):Int)) H):=by
 refine An Tryz.func153 U ntmps153 U (rD tb 17 U ?_);refine A9 (X:=Nat) (V:=fun k=>[(3, .int .i64 ((2 ^ (15 - k):Nat):Int)),(4, .int .i64 (k:Nat))]) (C:=[(0,_)]) (G:=fun k=>H) (φ:=fun k=>k≤i % 16) (μ:=fun k=>i % 16 - k) (x0:=0) ?_ ⟨Aa U,trivial⟩ ⟨atd,atd,trivial⟩ sb0 ?_
 ·exact Nat.zero_le _
 rintro k hk;refine rD tb 5 U (y_ (Es (c:=16) (T U) Aj qom) ?_ U);refine rO tb 3 U ?_
 first|refine Ac (Aa U) (fun c8=> ?_) (fun c8=> ?_)|refine Ag (Aa U) (fun c8=> ?_) (fun c8=> ?_)
 ·have hk2:k<i % 16:=by have h9:((k:Nat):Int)<((i % 16:Nat):Int):=c8;omega
  refine rC tb 6 U (y_ (yl_half (T U) Aj qom) ?_ U);refine rO tb 6 U (y_ (A4 (T U) Aj qom) ?_ U);refine rO tb 2 U ?_;refine A0 (k+1) ?_ ?_ ⟨atd,atd,trivial⟩ ⟨Aa U,trivial⟩ ?_
  ·omega
  ·first|omega|(simp only[];omega)
  ·exact sbt
 ·have hk2:k=i % 16:=by have h9: ¬ ((k:Nat):Int)<((i % 16:Nat):Int):=c8;omega
  refine rC tb 2 U (Ao (rX tb 9 U (Ai U (Kq U) ?_)));exact⟨_,⟨by rw[hk2];rfl,rfl⟩,sbt⟩
theorem Id {w0:World}{H:List (Nat × Obj)}(h:Hd)(hh:HdOk h)(i:Nat)(hi:i<160):
  FSpec Tryz.prog w0 108 #[.agg (hdC h).toArray, .int .i64 (i:Nat)] H (Still (.int .i64 (b2i (hbit h i))) H):=by
 refine An Tryz.func108 U ntmps108 U ?_;have hlen:=hh.len;have hgl:=Db hh (i / 16);have hp:i / 16<h.length:=by omega
 refine rD tb 2 U (e_ (Kw U cs_) ?_ U);rintro _ _ ⟨n2,rfl,rfl⟩;refine rO tb 4 U (Bl 9 [(0,true),(1,true),(2,true),(3,true),(4,true),(5,true),(6,true),(7,true),(8,true)] _ mixd qkr sb0 ?_ Bp);refine rP tb 1 U (o_y U (C5 (c:=16) (T U) Aj qom) ?_ U Ae);refine o_y U (Bi (T U) (T U) runUnderlying30 sizeOf3 qom) ?_ U Ae;refine o_y U (Kr U isAgg3 (by first|exact c_o|exact Cg (Ah fdd) hp)) ?_ U Ae;refine rP tb 1 U (o_y U (Ak (qe1 U) call153 (fun H' hs=>rvalue_s i qom)) ?_ U Ae);refine o_y U (C5 (T U) (T U) (by have:=Nat.two_pow_pos (15 - i % 16);omega)) ?_ U Ae;refine o_y U (Es (c:=2) (T U) Aj qom) ?_ U Ae;refine rP tb 1 U (A7 U (rO tb 3 U (Ai U (Kq U) ?_)));exact⟨_,⟨by rw[← bit_eq,Nat.and_one_is_mod];rfl,rfl⟩,by exact sbt⟩
theorem mat_iff {p:Md}{h:Hd}:matM p h↔∀ i,i<160→¬ (hbit p.1 i=true∧¬ hbit p.2 i=hbit h i):=⟨fun m i hi ⟨h1,h2⟩=>h2 (m i hi h1).symm,fun m i hi h1=>Classical.byContradiction fun h2=>m i hi ⟨h1,fun e=>h2 e.symm⟩⟩
theorem b2i_eq {a b:Bool}:b2i a=b2i b↔a=b:=by cases a<;>cases b<;>decide
def matB (p:Md) (h:Hd):Bool:=(List.range 160).all fun i=> !(hbit p.1 i&& !(hbit p.2 i==hbit h i))
theorem matB_iff {p:Md}{h:Hd}:matB p h=true↔matM p h:=by
 unfold matB;rw[mat_iff,List.all_eq_true]
 constructor
 ·intro a i hi ⟨h1,h2⟩;have:=a i (List.mem_range.2 hi);rw[h1] at this;simp at this;exact h2 this
 ·intro a i hi;have:=a i (List.mem_range.1 hi);cases h1:hbit p.1 i
  ·rfl
  ·rw[h1] at this;have h2:hbit p.2 i=hbit h i:=Classical.byContradiction fun e=>this ⟨rfl,e⟩
   rw[h2];simp
theorem rmatch_s {w0:World}{H:List (Nat × Obj)}(p:Md)(hp1:HdOk p.1)(hp2:HdOk p.2)(h:Hd)(hh:HdOk h):
  FSpec Tryz.prog w0 65 #[.agg (mdC p).toArray, .agg (hdC h).toArray] H (Still (.bool (matB p h)) H):=by
 refine An Tryz.func65 U ntmps65 U (rD tb 2 U (e_ (Kw U cs_) ?_ U));rintro _ _ ⟨n2,rfl,rfl⟩;refine e_ (Kw U cs_) ?_ U;rintro _ _ ⟨n3,rfl,rfl⟩;refine rO tb 10 U ?_;refine A9 (X:=Nat) (V:=fun i=>[(5, .int .i64 (i:Nat))]) (C:=[(2,_),(3,_)]) (G:=fun i=>(n3,Cl (hdC h) 30)::(n2,Cl (mdC p) 78)::H) (φ:=fun i=>i≤160∧∀ j,j<i→¬ (hbit p.1 j=true∧¬ hbit p.2 j=hbit h j)) (μ:=fun i=>160 - i) (x0:=0) ?_ ⟨Aa U,Aa U,trivial⟩ ⟨atd,trivial⟩ sb0 ?_
 ·exact⟨Nat.zero_le _,fun j hj=>absurd hj (Nat.not_lt_zero _)⟩
 rintro i ⟨hi,hf⟩;refine rD tb 7 U ?_
 first|refine Ac (Aa U) (fun c7=> ?_) (fun c7=> ?_)|refine Ag (Aa U) (fun c7=> ?_) (fun c7=> ?_)
 ·have hi2:i<160:=by have h9:((i:Nat):Int)<160:=c7;omega
  refine rC tb 5 U (Bl 15 [(0,true),(1,true),(2,true),(3,true),(4,true),(5,true),(6,true),(7,true),(8,true),(9,true),(10,true),(11,true),(12,true),(13,true),(14,true)] _ mixd qkr sb0 ?_ Bp);refine rP tb 1 U ?_;refine o_y U (Ks U isAgg30 sizeOf30 (Aw hp1) (by first|exact Et fdd|exact Av)) ?_ U Ae;refine rP tb 1 U (o_y U (Ak (qe2 U U) call108 (fun H' hs=>Id p.1 hp1 i qom)) ?_ U Ae);refine rP tb 2 U ?_
  first|refine o_if_d (s:=15) (Aa U) (fun c15=> ?_) (fun c15=> ?_)|refine o_if (s:=15) (Aa U) (fun c15=> ?_) (fun c15=> ?_)
  ·have hb1:hbit p.1 i=true:=b2i_1.1 c15;refine rP tb 1 U ?_;refine o_y U (Ks U isAgg30 sizeOf30 (Aw hp2) (by first|exact Ed hp1 fdd|exact Av)) ?_ U (A3 U U (Aa U));refine rP tb 1 U (o_y U (Ak (qe2 U U) call108 (fun H' hs=>Id p.2 hp2 i qom)) ?_ U (A3 U U (Aa U)));refine o_y U (Ks U isAgg30 sizeOf30 (Aw hh) (by first|exact Ah fdd|exact Av)) ?_ U (A3 U U (Aa U));refine rP tb 1 U (o_y U (Ak (qe2 U U) call108 (fun H' hs=>Id h hh i qom)) ?_ U (A3 U U (Aa U)));refine rP tb 2 U (A7 U (rO tb 2 U ?_))
   first|refine Ac (Aa U) (fun c24=> ?_) (fun c24=> ?_)|refine Ag (Aa U) (fun c24=> ?_) (fun c24=> ?_)
   ·have hb2: ¬ hbit p.2 i=hbit h i:=fun e=>c24 (b2i_eq.2 e)
    refine rC tb 8 U (Ba (rX tb 2 U (Ai U (Kq U) ?_)));exact⟨_,⟨congrArg Value.bool (Bool.eq_false_iff.2 (fun e=>mat_iff.1 (matB_iff.1 e) i hi2 ⟨hb1,hb2⟩)).symm,rfl⟩,by exact sbt⟩
   ·have hb2:hbit p.2 i=hbit h i:=b2i_eq.1 (Classical.not_not.1 c24);refine rC tb 5 U (y_ (A4 (T U) Aj qom) ?_ U);refine rO tb 2 U ?_;refine A0 (i+1) ?_ ?_ ⟨atd,trivial⟩ ⟨Aa U,Aa U,trivial⟩ ?_
    ·refine⟨hi2,fun j hj=> ?_⟩
     by_cases e:j=i
     ·subst e;first|exact fun e=>e.2 hb2|exact fun e=>hb1 e.1
     ·exact hf j qom
    ·first|omega|(simp only[];omega)
    ·exact sbt
  ·have hb1: ¬ hbit p.1 i=true:=fun e=>c15 (b2i_1.2 e)
   refine rP tb 9 U (A7 U (rO tb 8 U (y_ (A4 (T U) Aj qom) ?_ U)));refine rO tb 2 U ?_;refine A0 (i+1) ?_ ?_ ⟨atd,trivial⟩ ⟨Aa U,Aa U,trivial⟩ ?_
   ·refine⟨hi2,fun j hj=> ?_⟩
    by_cases e:j=i
    ·subst e;first|exact fun e=>e.2 hb2|exact fun e=>hb1 e.1
    ·exact hf j qom
   ·first|omega|(simp only[];omega)
   ·exact sbt
 ·have hi2:i=160:=by have h9: ¬ ((i:Nat):Int)<160:=c7;omega
  refine rC tb 2 U (Ao (rX tb 8 U (Ai U (Kq U) ?_)));exact⟨_,⟨congrArg Value.bool (matB_iff.2 (mat_iff.2 (fun j hj=>hf j qom))).symm,rfl⟩,by exact sbt⟩
theorem and_sub {a b:Hd}(ha:HdOk a)(hs:∀ i,i<160→hbit a i=true→hbit b i=true){k:Nat}(hk:k<10):gd a k &&& gd b k=gd a k:=by
 have hl:=ha.lt _ (A2 (l:=a) (i:=k) (by rw[ha.len];exact hk));refine Nat.eq_of_testBit_eq fun j=> ?_
 rw[Nat.testBit_and]
 by_cases hj:j<16
 ·have h1:=hs (k*16+(15 - j)) qom;unfold hbit at h1;rw[show (k*16+(15 - j)) / 16=k by omega,show 15 - (k*16+(15 - j)) % 16=j by omega] at h1;cases h2:(gd a k).testBit j
  ·rfl
  ·rw[h1 h2];rfl
 ·have:gd a k<2 ^ j:=Nat.lt_of_lt_of_le hl (show 2 ^ 16≤2 ^ j from Nat.pow_le_pow_right qom qom);rw[Nat.testBit_lt_two_pow this];rfl
structure MdR (p:Md):Prop where
 o1:HdOk p.1
 o2:HdOk p.2
 sub:∀ b,b<160→hbit p.2 b=true→hbit p.1 b=true
theorem MdOk.r {bs:List Nat}{k:Nat}{m:Md}(h:MdOk bs k m):MdR m:=⟨h.o1,h.o2,h.sub⟩
theorem within_s {w0:World}{H:List (Nat × Obj)}(a b:Hd)(ha:HdOk a)(hb:HdOk b)(hs9:∀ i,i<160→hbit a i=true→hbit b i=true):
  FSpec Tryz.prog w0 110 #[.agg (hdC a).toArray, .agg (hdC b).toArray] H (Still (.bool true) H):=by
 refine An Tryz.func110 U ntmps110 U ?_;have hla:=ha.len;have hlb:=hb.len;refine rD tb 2 U (e_ (Kw U cs_) ?_ U);rintro _ _ ⟨n2,rfl,rfl⟩;refine e_ (Kw U cs_) ?_ U;rintro _ _ ⟨n3,rfl,rfl⟩;refine rO tb 10 U ?_;refine A9 (X:=Nat) (V:=fun k=>[(5, .int .i64 (k:Nat))]) (C:=[(2,_),(3,_)]) (G:=fun k=>(n3,Cl (hdC b) 30)::(n2,Cl (hdC a) 30)::H) (φ:=fun k=>k≤10) (μ:=fun k=>10 - k) (x0:=0) ?_ ⟨Aa U,Aa U,trivial⟩ ⟨atd,trivial⟩ sb0 ?_
 ·exact Nat.zero_le _
 rintro k hk;refine rD tb 7 U ?_
 first|refine Ac (Aa U) (fun c7=> ?_) (fun c7=> ?_)|refine Ag (Aa U) (fun c7=> ?_) (fun c7=> ?_)
 ·have hk2:k<10:=by have h9:((k:Nat):Int)<10:=c7;omega
  have hga:=Db ha k;have hgb:=Db hb k;have hand:=and_sub ha hs9 hk2;refine rC tb 5 U (Bl 11 [(0,true),(1,true),(2,true),(3,true),(4,true),(5,true),(6,true),(7,true),(8,true),(9,true),(10,true)] _ mixd qkr sb0 ?_ Bp);refine rP tb 1 U (o_y U (Bi (T U) (T U) runUnderlying30 sizeOf3 qom) ?_ U Ae);refine o_y U (Kr U isAgg3 (by first|exact c_o|exact Cg (Ah fdd) (show k<a.length by omega))) ?_ U Ae;refine rP tb 1 U (o_y U (Bi (T U) (T U) runUnderlying30 sizeOf3 qom) ?_ U Ae);refine o_y U (Kr U isAgg3 (by first|exact c_o|exact Cg (Ah fdd) (show k<b.length by omega))) ?_ U Ae;refine o_y U (Hl qom qom (T U) (T U)) ?_ U Ae;refine rP tb 1 U (o_y U (Bi (T U) (T U) runUnderlying30 sizeOf3 qom) ?_ U Ae);refine o_y U (Kr U isAgg3 (by first|exact c_o|exact Cg (Ah fdd) (show k<a.length by omega))) ?_ U Ae;refine rP tb 1 U (A7 U (rO tb 2 U ?_))
  first|refine Ac (Aa U) (fun c20=> ?_) (fun c20=> ?_)|refine Ag (Aa U) (fun c20=> ?_) (fun c20=> ?_)
  ·exfalso;have h9: ¬ ((gd a k &&& gd b k:Nat):Int)=(gd a k:Nat):=c20;rw[hand] at h9;exact h9 U
  ·skip
   refine rC tb 5 U (y_ (A4 (T U) Aj qom) ?_ U);refine rO tb 2 U ?_;refine A0 (k+1) ?_ ?_ ⟨atd,trivial⟩ ⟨Aa U,Aa U,trivial⟩ ?_
   ·exact hk2
   ·first|omega|(simp only[];omega)
   ·exact sbt
 ·skip
  refine rC tb 2 U (Ao (rX tb 8 U (Ai U (Kq U) ?_)));exact⟨_,⟨rfl,rfl⟩,by exact sbt⟩
theorem rright78_s {w0:World}{H:List (Nat × Obj)}(p:Md)(hp:MdR p):
  FSpec Tryz.prog w0 68 #[.agg (mdC p).toArray] H (Still (.bool true) H):=by
 refine An Tryz.func68 U ntmps68 U (rD tb 2 U (e_ (Kw U cs_) ?_ U));rintro _ _ ⟨n1,rfl,rfl⟩;refine rO tb 6 U ?_;refine y_ (Ks U isAgg30 sizeOf30 (Aw hp.o1) (by first|exact Et fdd|exact Av)) ?_ U;refine y_ (Ak (qe1 U) call16 (fun H' hs=>rheadT_s p.1 hp.o1)) (rO tb 6 U ?_) U;refine y_ (Ks U isAgg30 sizeOf30 (Aw hp.o2) (by first|exact Ed hp.o1 fdd|exact Av)) ?_ U;refine y_ (Ak (qe1 U) call16 (fun H' hs=>rheadT_s p.2 hp.o2)) (rO tb 11 U ?_) U;refine Az (Ks U isAgg30 sizeOf30 (Aw hp.o2) (by first|exact Ed hp.o1 fdd|exact Av)) U (A3 U U (Aa U)) ?_;refine rO tb 1 U ?_;refine Az (Ks U isAgg30 sizeOf30 (Aw hp.o1) (by first|exact Et fdd|exact Av)) U (A3 U U (Aa U)) ?_;refine Az (Ak (qe2 U U) call110 (fun H' hs=>within_s p.2 p.1 hp.o2 hp.o1 hp.sub)) U (A3 U U (Aa U)) (rO tb 5 U (Ai U (Kq U) ?_));exact⟨_,⟨rfl,rfl⟩,by exact sbt⟩
theorem rmod_s {w0:World}{H:List (Nat × Obj)}(p:Md)(hp:MdR p):
  FSpec Tryz.prog w0 69 #[.agg (mdC p).toArray] H (Still (.bool true) H):=by
 refine An Tryz.func69 U ntmps69 U (rD tb 2 U (e_ (Kw U cs_) ?_ U));rintro _ _ ⟨n1,rfl,rfl⟩;refine rO tb 6 U ?_;refine y_ (Ks U isAgg30 sizeOf30 (Aw hp.o1) (by first|exact Et fdd|exact Av)) ?_ U;refine rO tb 1 U ?_;refine y_ (Ks U isAgg30 sizeOf30 (Aw hp.o2) (by first|exact Ed hp.o1 fdd|exact Av)) ?_ U;refine y_ (A8 (.cons (T U) (.cons (T U) .nil)) (mk78 hp.o1 hp.o2)) (y_ (Ak (qe1 U) call68 (fun H' hs=>rright78_s p hp)) (rO tb 4 U (Ai U (Kq U) ?_)) U) U;exact⟨_,⟨rfl,rfl⟩,by exact sbt⟩
theorem or_add {y s:Nat}(h:y.testBit s=false):y|||2 ^ s=y+2 ^ s:=by
 have hr:=Nat.mod_lt y (Nat.two_pow_pos s);have hy:2 ^ s*(y / 2 ^ s)+y % 2 ^ s=y:=Nat.div_add_mod _ _;have he:y / 2 ^ s % 2=0:=by
  rw[Nat.testBit_eq_decide_div_mod_eq,decide_eq_false_iff_not] at h;omega
 generalize hq:y / 2 ^ s=q at *
 generalize hm:y % 2 ^ s=r at *;subst hy;refine Nat.eq_of_testBit_eq fun j=> ?_
 have h2:2 ^ s*q+r+2 ^ s=2 ^ s*(q+1)+r:=by rw[Nat.mul_add];omega
 rw[h2,Nat.testBit_or,Nat.testBit_two_pow,Nat.testBit_two_pow_mul_add _ hr,Nat.testBit_two_pow_mul_add _ hr]
 by_cases hj:j<s
 ·rw[if_pos hj,if_pos hj];have: ¬ s=j:=by omega
  simp[this]
 ·rw[if_neg hj,if_neg hj];obtain⟨k,rfl⟩:∃ k,j=s+k:=⟨j - s,by omega⟩;rw[Nat.add_sub_cancel_left];cases k with
  |zero=>simp[Nat.testBit_zero];omega
  |succ k=>
   have: ¬ s=s+(k+1):=by omega
   rw[decide_eq_false this,Bool.or_false,Nat.testBit_succ,Nat.testBit_succ]
   congr 1;omega
theorem bit_split (w s:Nat):w=andN w (1*2 ^ s)+(if w.testBit s then 2 ^ s else 0):=by
 have h0:(andN w (1*2 ^ s)).testBit s=false:=by rw[Cw,Nat.one_mul,Nat.testBit_two_pow_self];simp
 split
 ·rename_i h;rw[← or_add h0];refine Nat.eq_of_testBit_eq fun j=> ?_
  rw[Nat.testBit_or,Cw,Nat.one_mul,Nat.testBit_two_pow]
  by_cases e:s=j
  ·subst e;simp[h]
  ·simp[e]
 ·rename_i h;refine Nat.eq_of_testBit_eq fun j=> ?_
  rw[Nat.add_zero,Cw,Nat.one_mul,Nat.testBit_two_pow]
  by_cases e:s=j
  ·subst e;simp[h]
  ·simp[e]
theorem set_arith (w s:Nat)(v:Bool):(w:Int)+(b2i v - b2i (w.testBit s))*((2 ^ s:Nat):Int)=(((if v=true then andN w (1*2 ^ s)|||1*2 ^ s else andN w (1*2 ^ s)):Nat):Int):=by
 have h0:(andN w (1*2 ^ s)).testBit s=false:=by rw[Cw,Nat.one_mul,Nat.testBit_two_pow_self];simp
 have h1:=bit_split w s;have h2:andN w (1*2 ^ s)|||1*2 ^ s=andN w (1*2 ^ s)+2 ^ s:=by
  have h3:=or_add h0;rw[show 1*2 ^ s=2 ^ s from Nat.one_mul _] at h3 ⊢;exact h3
 rw[h2]
 revert h1
 generalize andN w (1*2 ^ s)=y
 generalize 2 ^ s=z;intro h1;unfold b2i;cases v<;>cases hb:w.testBit s<;>rw[hb] at h1<;>simp at h1 ⊢<;>omega
theorem Ie (v:Bool):0≤b2i v∧b2i v≤1:=by cases v<;>decide
theorem yl_setW {P:Program}{w0:World}{L:Fm}{H:List (Nat × Obj)}{ty xt yt:TypeId}{x y:Operand}{w s:Nat}{v:Bool}(hx:Ev L x (.int .i64 (w:Nat)))(hy:Ev L y (.int .i64 ((b2i v - b2i (w.testBit s))*((2 ^ s:Nat):Int))))(hw:w<65536)(hs:s≤15):Yl P w0 (.binOp .add xt x y yt) ty L H (.int .i64 ((if v=true then andN w (1*2 ^ s)|||1*2 ^ s else andN w (1*2 ^ s):Nat):Int)):=by
 have h1:2 ^ s≤2 ^ 15:=Nat.pow_le_pow_right qom hs;have h1:2 ^ s≤32768:=h1;have h2:=Ie v;have h3:=Ie (w.testBit s);have h4: -32768≤(b2i v - b2i (w.testBit s))*((2 ^ s:Nat):Int)∧(b2i v - b2i (w.testBit s))*((2 ^ s:Nat):Int)≤32768:=by
  revert h1
  generalize 2 ^ s=z;intro h1;have:b2i v - b2i (w.testBit s)= -1∨b2i v - b2i (w.testBit s)=0∨b2i v - b2i (w.testBit s)=1:=by omega
  rcases this with e|e|e<;>rw[e]<;>omega
 have h:=A4 (P:=P) (w0:=w0) (H:=H) (ty:=ty) (xt:=xt) (yt:=yt) hx hy qom
 rwa [set_arith] at h
theorem yl_mulB {P:Program}{w0:World}{L:Fm}{H:List (Nat × Obj)}{ty xt yt:TypeId}{x y:Operand}{s:Nat}{a b:Bool}(hx:Ev L x (.int .i64 (b2i a - b2i b)))(hy:Ev L y (.int .i64 ((2 ^ s:Nat):Int)))(hs:s≤15):Yl P w0 (.binOp .mul xt x y yt) ty L H (.int .i64 ((b2i a - b2i b)*((2 ^ s:Nat):Int))):=by
 have h1:2 ^ s≤2 ^ 15:=Nat.pow_le_pow_right qom hs;have h1:2 ^ s≤32768:=h1;have h2:=Ie a;have h3:=Ie b;refine Jj hx hy ?_
 revert h1
 generalize 2 ^ s=z;intro h1;have:b2i a - b2i b= -1∨b2i a - b2i b=0∨b2i a - b2i b=1:=by omega
 rcases this with e|e|e<;>rw[e]<;>omega
theorem rset109_s {w0:World}{H:List (Nat × Obj)}(h:Hd)(hh:HdOk h)(i:Nat)(hi:i<160)(v:Bool):
  FSpec Tryz.prog w0 109 #[.agg (hdC h).toArray, .int .i64 (i:Nat), .int .i64 (b2i v)] H (Still (.agg (hdC (hput h i v)).toArray) H):=by
 refine An Tryz.func109 U ntmps109 U ?_;have hlen:=hh.len;have hgl:=Db hh (i / 16);have hp:i / 16<h.length:=by omega
 have hb1:=Ie v;have hb2:=Ie (hbit h i);have hfw:=put_word hh hi v;have hso:=Bt h i v;refine rD tb 2 U (e_ (Kw U cs_) ?_ U);rintro _ _ ⟨n3,rfl,rfl⟩;refine e_ (Al zeroValue30 cs_) ?_ U;rintro _ _ ⟨n6,rfl,rfl⟩;refine rO tb 3 U (Bl 16 [(0,true),(1,true),(2,true),(3,true),(4,true),(5,true),(6,true),(7,true),(8,true),(9,true),(10,true),(11,true),(12,true),(13,true),(14,true),(15,true)] _ mixd qkr sb0 ?_ Bp);refine rP tb 1 U (o_y U (C5 (c:=16) (T U) Aj qom) ?_ U Ae);refine rP tb 1 U (o_y U (C5 (c:=16) (T U) Aj qom) ?_ U Ae);refine o_y U (Bi (T U) (T U) runUnderlying30 sizeOf3 qom) ?_ U Ae;refine o_y U (Kr U isAgg3 (by first|exact c_o|exact Cg (Ah fdd) hp)) ?_ U Ae;refine rP tb 1 U ?_;refine o_y U (Ks U isAgg30 sizeOf30 (Aw hh) (by first|exact Ah fdd|exact Av)) ?_ U Ae;refine rP tb 1 U (o_y U (Ak (qe2 U U) call108 (fun H' hs=>Id h hh i hi)) (o_y U (Hz (T U) (T U) qom) ?_ U Ae) U Ae);refine rP tb 1 U (o_y U (Ak (qe1 U) call153 (fun H' hs=>rvalue_s i qom)) ?_ U Ae);refine o_y U (yl_mulB (T U) (T U) qom) ?_ U Ae;refine o_y U (yl_setW (v:=v) (s:=15 - i % 16) (T U) (T U) hgl qom) ?_ U Ae;refine o_y U (Bi (T U) (T U) runUnderlying30 sizeOf3 qom) ?_ U Ae;refine A7 U (e_ (Bj (T U) (T U) U sizeOf3 (hs:=F8 hp)) ?_ U);rintro _ _ ⟨rfl,rfl⟩;rw[hfw];refine rO tb 4 U ?_;refine y_ (Ks U isAgg30 sizeOf30 (Aw hso) (by first|exact Ah fdd|exact Av)) ?_ U;refine e_ (Kv U U sizeOf30 .agg (Dv _) (Aw hso) (by repeat (first|exact Upd.h|apply Upd.t|apply Cb)) (by rw[Aw hso];rfl)) ?_ U;rintro _ _ ⟨rfl,rfl⟩;refine rO tb 3 U (Ai U (.cellA (Aa U) isAgg30 sizeOf30 (Aw hso) (by first|exact Av) .nil) ?_);exact⟨_,⟨rfl,rfl⟩,by exact sbt⟩
def appP (m:Md) (h:Hd) (i:Nat):Hd:=hdOf fun b=>if b<i∧hbit m.1 b=true then hbit m.2 b else hbit h b
theorem C6 (m:Md)(h:Hd)(i:Nat):HdOk (appP m h i):=Cf _
theorem appP_0 (m:Md){h:Hd}(hh:HdOk h):appP m h 0=h:=Cp (C6 _ _ _) hh fun b hb=>by
 unfold appP;rw[Bm _ hb,if_neg qom]
theorem appP_end (m:Md)(h:Hd):appP m h 160=appM m h:=Cp (C6 _ _ _) (Cf _) fun b hb=>by
 unfold appP appM;rw[Bm _ hb,Bm _ hb]
 by_cases e:hbit m.1 b=true
 ·rw[if_pos ⟨hb,e⟩,if_pos e]
 ·rw[if_neg (fun x=>e x.2),if_neg e]
theorem appP_yes {m:Md}{h:Hd}{i:Nat}(hi:i<160)(e:hbit m.1 i=true):appP m h (i+1)=hput (appP m h i) i (hbit m.2 i):=Cp (C6 _ _ _) (Bt _ _ _) fun b hb=>by
 rw[Cc _ _ _ hb];unfold appP;rw[Bm _ hb,Bm _ hb]
 by_cases h1:b=i
 ·subst h1;rw[if_pos ⟨by omega,e⟩,if_pos rfl]
 ·rw[if_neg h1]
  by_cases h2:b<i∧hbit m.1 b=true
  ·rw[if_pos h2,if_pos ⟨by omega,h2.2⟩]
  ·rw[if_neg h2,if_neg (fun x=>h2 ⟨by omega,x.2⟩)]
theorem appP_no {m:Md}{h:Hd}{i:Nat}(e: ¬ hbit m.1 i=true):appP m h (i+1)=appP m h i:=Cp (C6 _ _ _) (C6 _ _ _) fun b hb=>by
 unfold appP;rw[Bm _ hb,Bm _ hb]
 by_cases h2:b<i∧hbit m.1 b=true
 ·rw[if_pos h2,if_pos ⟨by omega,h2.2⟩]
 ·rw[if_neg h2,if_neg (fun x=>h2 ⟨by
   have:b≠i:=fun e2=>e (e2 ▸ x.2)
   omega,x.2⟩)]
theorem rapply_s {w0:World}{H:List (Nat × Obj)}(m:Md)(hm:MdR m)(h:Hd)(hh:HdOk h):
  FSpec Tryz.prog w0 67 #[.agg (mdC m).toArray, .agg (hdC h).toArray] H (Still (.agg (hdC (appM m h)).toArray) H):=by
 refine An Tryz.func67 U ntmps67 U (rD tb 2 U (e_ (Kw U cs_) ?_ U));rintro _ _ ⟨n2,rfl,rfl⟩;refine e_ (Kw U cs_) ?_ U;rintro _ _ ⟨n3,rfl,rfl⟩;refine e_ (Al zeroValue30 cs_) ?_ U;rintro _ _ ⟨n4,rfl,rfl⟩;refine rO tb 9 U ?_;refine A9 (X:=Nat) (V:=fun i=>[(5, .int .i64 (i:Nat))]) (C:=[(2,_),(3,_),(4,_)]) (G:=fun i=>(n4,Cl (hdC hd0) 30)::(n3,Cl (hdC (appP m h i)) 30)::(n2,Cl (mdC m) 107)::H) (φ:=fun i=>i≤160) (μ:=fun i=>160 - i) (x0:=0) ?_ ⟨Aa U,Aa U,Aa U,trivial⟩ ⟨atd,trivial⟩ (by show List.Sublist (_::(n3,Cl (hdC (appP m h 0)) 30)::_) _;rw[appP_0 m hh];exact sb0) ?_
 ·exact Nat.zero_le _
 rintro i hi;refine rD tb 7 U ?_
 first|refine Ac (Aa U) (fun c7=> ?_) (fun c7=> ?_)|refine Ag (Aa U) (fun c7=> ?_) (fun c7=> ?_)
 ·have hi2:i<160:=by have h9:((i:Nat):Int)<160:=c7;omega
  refine rC tb 7 U ?_;refine y_ (Ks U isAgg30 sizeOf30 (Aw hm.o1) (by first|exact Et fdd|exact Av)) ?_ U;refine rO tb 1 U (y_ (Ak (qe2 U U) call108 (fun H' hs=>Id m.1 hm.o1 i hi2)) (rO tb 3 U ?_) U)
  first|refine Ac (Aa U) (fun c14=> ?_) (fun c14=> ?_)|refine Ag (Aa U) (fun c14=> ?_) (fun c14=> ?_)
  ·have hb1:hbit m.1 i=true:=b2i_1.1 c14;refine Bl 7 [(0,true),(1,true),(2,true),(3,true),(4,true),(5,true),(6,true)] _ mixd qkr sb0 ?_ Bp;refine o_y U (Ks U isAgg30 sizeOf30 (Aw (C6 _ _ _)) (by first|exact Ah fdd|exact Av)) ?_ U Ae;refine rP tb 2 U ?_;refine o_y U (Ks U isAgg30 sizeOf30 (Aw hm.o2) (by first|exact Ed hm.o1 fdd|exact Av)) ?_ U Ae;refine rP tb 1 U (o_y U (Ak (qe2 U U) call108 (fun H' hs=>Id m.2 hm.o2 i hi2)) (o_y U (Ak (qe3 U U U) call109 (fun H' hs=>rset109_s (appP m h i) (C6 _ _ _) i hi2 (hbit m.2 i))) (A7 U (e_ (Kv U U sizeOf30 .agg (Dv _) (Aw (Bt _ _ _)) (by repeat (first|exact Upd.h|apply Upd.t|apply Cb)) (by rw[Aw (C6 _ _ _),Aw (Bt _ _ _)])) ?_ U)) U Ae) U Ae);rintro _ _ ⟨rfl,rfl⟩;rw[← appP_yes hi2 hb1];refine rO tb 5 U (y_ (A4 (T U) Aj qom) ?_ U);refine rO tb 2 U ?_;refine A0 (i+1) ?_ ?_ ⟨atd,trivial⟩ ⟨Aa U,Aa U,Aa U,trivial⟩ ?_
   ·exact hi2
   ·first|omega|(simp only[];omega)
   ·first|(show List.Sublist (_::(n3,Cl (hdC (appP m h (i+1))) 30)::_) _;rw[appP_no hb1];exact sb0)|exact sbt
  ·have hb1: ¬ hbit m.1 i=true:=fun e=>c14 (b2i_1.2 e)
   refine rC tb 5 U (y_ (A4 (T U) Aj qom) ?_ U);refine rO tb 2 U ?_;refine A0 (i+1) ?_ ?_ ⟨atd,trivial⟩ ⟨Aa U,Aa U,Aa U,trivial⟩ ?_
   ·exact hi2
   ·first|omega|(simp only[];omega)
   ·first|(show List.Sublist (_::(n3,Cl (hdC (appP m h (i+1))) 30)::_) _;rw[appP_no hb1];exact sb0)|exact sbt
 ·obtain rfl:i=160:=by have h9: ¬ ((i:Nat):Int)<160:=c7;omega
  refine rC tb 2 U (Ao (rX tb 4 U ?_));refine y_ (Ks U isAgg30 sizeOf30 (Aw (C6 _ _ _)) (by first|exact Ah fdd|exact Av)) ?_ U;refine e_ (Kv U U sizeOf30 .agg (Dv _) (Aw (C6 _ _ _)) (by repeat (first|exact Upd.h|apply Upd.t|apply Cb)) (by rw[Aw (C6 _ _ _)];rfl)) ?_ U;rintro _ _ ⟨rfl,rfl⟩;refine rO tb 3 U (Ai U (.cellA (Aa U) isAgg30 sizeOf30 (Aw (C6 _ _ _)) (by first|exact Av) .nil) ?_);exact⟨_,⟨congrArg (fun g:Hd=>Value.agg (hdC g).toArray) (appP_end m h),rfl⟩,by exact sbt⟩
structure PuI (l:List Hd) (h:Hd) (i:Nat) (dn:Bool) (o:List Hd):Prop where
 up:o.Pairwise hLt
 mem:∀ x,x∈o↔x∈l.take i∨(dn=true∧x=h)
 lt:∀ x∈o,∀ j,i≤j→j<l.length→hLt x (gd l j)
 no:dn=false→∀ x∈o,hLt x h
 len:o.length≤i+dn.toNat
section
variable {l:List Hd} {h:Hd} {i:Nat} {dn:Bool} {o:List Hd}
theorem Hv (hp:o.Pairwise hLt){x:Hd}(hx:∀ y∈o,hLt y x):(o++[x]).Pairwise hLt:=List.pairwise_append.2 ⟨hp,List.pairwise_singleton ..,fun a ha b hb=>by rw[List.mem_singleton.1 hb];exact hx a ha⟩
theorem pu_take {x:Hd}(hi:i<l.length):x∈l.take (i+1)↔x∈l.take i∨x=gd l i:=by
 rw[List.take_succ_eq_append_getElem hi,List.mem_append,List.mem_singleton,← Ay hi]
theorem Iq (hu:l.Pairwise hLt){j k:Nat}(h1:j<k)(h2:k<l.length):hLt (gd l j) (gd l k):=by
 have:=List.pairwise_iff_getElem.1 hu j k qom h2 h1
 rwa [← Ay qom,← Ay h2] at this
theorem pu_A (hI:PuI l h i false o)(hu:l.Pairwise hLt)(hi:i<l.length)(e:gd l i=h):PuI l h (i+1) true (o++[h]) where
 up:=Hv hI.up (hI.no U)
 mem x:=by rw[List.mem_append,List.mem_singleton,hI.mem,pu_take hi,e];simp
 lt x hx j h1 h2:=by
  rcases List.mem_append.1 hx with hx|hx
  ·exact hI.lt x hx j qom h2
  ·rw[List.mem_singleton.1 hx,← e];exact Iq hu qom h2
 no h:=by cases h
 len:=by have:=hI.len;simp only[List.length_append,List.length_singleton,Bool.toNat_false,Bool.toNat_true] at *;omega
theorem pu_B (hI:PuI l h i false o)(hu:l.Pairwise hLt)(hi:i<l.length)(e:hLt h (gd l i)):PuI l h (i+1) true (o++[h]++[gd l i]) where
 up:=Hv (Hv hI.up (hI.no U)) fun y hy=>by
  rcases List.mem_append.1 hy with hy|hy
  ·exact hI.lt y hy i qom hi
  ·rw[List.mem_singleton.1 hy];exact e
 mem x:=by rw[List.mem_append,List.mem_append,List.mem_singleton,List.mem_singleton,hI.mem,pu_take hi];simp only[Bool.false_eq_true,false_and,or_false,true_and];rw[or_assoc,or_assoc,or_comm (a:=x=h)]
 lt x hx j h1 h2:=by
  rcases List.mem_append.1 hx with hx|hx
  ·rcases List.mem_append.1 hx with hx|hx
   ·exact hI.lt x hx j qom h2
   ·rw[List.mem_singleton.1 hx];exact e.trans (Iq hu qom h2)
  ·rw[List.mem_singleton.1 hx];exact Iq hu qom h2
 no h:=by cases h
 len:=by have:=hI.len;simp only[List.length_append,List.length_singleton,Bool.toNat_false,Bool.toNat_true] at *;omega
theorem pu_CD (hI:PuI l h i dn o)(hu:l.Pairwise hLt)(hi:i<l.length)(e:dn=false→hLt (gd l i) h):PuI l h (i+1) dn (o++[gd l i]) where
 up:=Hv hI.up fun y hy=>hI.lt y hy i qom hi
 mem x:=by
  rw[List.mem_append,List.mem_singleton,hI.mem,pu_take hi]
  constructor
  ·rintro((a|a)|a)
   ·exact .inl (.inl a)
   ·exact .inr a
   ·exact .inl (.inr a)
  ·rintro((a|a)|a)
   ·exact .inl (.inl a)
   ·exact .inr a
   ·exact .inl (.inr a)
 lt x hx j h1 h2:=by
  rcases List.mem_append.1 hx with hx|hx
  ·exact hI.lt x hx j qom h2
  ·rw[List.mem_singleton.1 hx];exact Iq hu qom h2
 no h x hx:=by
  rcases List.mem_append.1 hx with hx|hx
  ·exact hI.no h x hx
  ·rw[List.mem_singleton.1 hx];exact e h
 len:=by have:=hI.len;simp only[List.length_append,List.length_singleton] at *;omega
theorem pu_E (hI:PuI l h i true o)(hi:i<l.length)(e:gd l i=h):False:=by
 have h1:=hI.lt h ((hI.mem h).2 (.inr ⟨rfl,rfl⟩)) i (Nat.le_refl _) hi;rw[e] at h1;exact h1.irr
theorem pu_end (hI:PuI l h l.length true o):o.Pairwise hLt∧(∀ x,x∈o↔x∈l∨x=h)∧o.length≤l.length+1:=⟨hI.up,fun x=>by rw[hI.mem,List.take_length];simp,hI.len⟩
theorem pu_end2 (hI:PuI l h l.length false o):(o++[h]).Pairwise hLt∧(∀ x,x∈o++[h]↔x∈l∨x=h)∧(o++[h]).length≤l.length+1:=⟨Hv hI.up (hI.no U),fun x=>by rw[List.mem_append,List.mem_singleton,hI.mem,List.take_length];simp,by have:=hI.len;simp only[List.length_append,List.length_singleton,Bool.toNat_false] at *;omega⟩
theorem Hw (hI:PuI l h i dn o):o.length≤i+1:=Nat.le_trans hI.len (by cases dn<;>simp)
theorem pu_0:PuI l h 0 false []:=⟨.nil,fun x=>by simp,fun x hx=>by simp at hx,fun _ x hx=>by simp at hx,Nat.zero_le _⟩
end
theorem lput_s {w0:World}{H:List (Nat × Obj)}(l:List Hd)(q:Option Addr)(c:Nat)(hA:HsA w0 H l q c)(hu:l.Pairwise hLt)(h:Hd)(hh:HdOk h)(hlen:l.length≤100000):
  FSpec Tryz.prog w0 66 #[.slice q l.length c, .agg (hdC h).toArray] H (SetK w0 (fun o=>(∀ x,x∈o↔x∈l∨x=h)∧o.length≤l.length+1) H):=by
 refine An Tryz.func66 U ntmps66 U (rD tb 2 U (e_ (Kw U cs_) ?_ U));rintro _ _ ⟨n3,rfl,rfl⟩;refine rO tb 20 U ?_;refine A9 (X:=Nat × Bool × List Hd × Sl) (V:=fun ⟨i,dn,o,d⟩=>[(5,slV d o.length),(6, .bool dn),(7, .int .i64 (i:Nat))]) (C:=[(0,_),(3,_)]) (G:=fun ⟨i,dn,o,d⟩=>slH d (o.flatMap encHd) 30++((n3,Cl (hdC h) 30)::H)) (φ:=fun ⟨i,dn,o,d⟩=>i≤l.length∧PuI l h i dn o∧SlOk d o.length 10) (μ:=fun ⟨i,dn,o,d⟩=>l.length - i) (x0:=(0,false,[], .nil)) ?_ ⟨Aa rfl,Aa rfl,trivial⟩ ⟨atd,atd,atd,trivial⟩ sb0 ?_
 ·exact⟨Nat.zero_le _,pu_0,rfl⟩
 rintro⟨i,dn,o,d⟩ ⟨hi,hP,hd⟩;refine rD tb 9 U ?_
 first|refine Ac (Aa U) (fun c12=> ?_) (fun c12=> ?_)|refine Ag (Aa U) (fun c12=> ?_) (fun c12=> ?_)
 ·have hi2:i<l.length:=by have h9:((i:Nat):Int)<(l.length:Nat):=c12;omega
  have hgo:=(hA.ok (k:=i) hi2);have hceq:=Ip (a:=gd l i) (b:=h) (by rw[hgo.len,hh.len]);have hclt:=Ht hgo hh;have hor:=Jn hgo hh;refine rC tb 5 U (Bl 7 [(0,true),(1,true),(2,true),(3,true),(4,true),(5,true),(6,true)] _ mixd qkr sb0 ?_ Bp);refine rP tb 2 U (o_y U (Ku U U runUnderlying42 sizeOf30 qom (by first|exact rfl|exact hA.1.b (i:=i) qom)) ?_ U Ae);refine o_y U (Ks U isAgg30 sizeOf30 (Aw (hA.ok (k:=i) hi2)) (by first|exact((hA.mono (by exact sbt)).hd).cs (i:=i) qom|exact Av)) ?_ U Ae;refine o_y U (Ks U isAgg30 sizeOf30 (Aw hh) (by first|exact Ah fdd|exact Av)) ?_ U Ae;refine o_y U (Ak (qe2 U U) call18 (fun H' hs=>cmp18_s (gd l i) h (hA.ok (k:=i) hi2) hh)) (rP tb 1 U (A7 U (rO tb 8 U ?_))) U Ae
  first|refine Am (s:=23) (Aa U) (fun c23=> ?_) (fun c23=> ?_)|refine A1 (s:=23) (Aa U) (fun c23=> ?_) (fun c23=> ?_)
  ·skip
   refine rO tb 1 U ?_
   first|refine Az (Bq (T U)) U (A3 U U (Aa U)) ?_|refine Az (B2 (T U)) U (A3 U U (Aa U)) ?_
   refine rO tb 3 U ?_
   first|refine Ac (Aa U) (fun c26=> ?_) (fun c26=> ?_)|refine Ag (Aa U) (fun c26=> ?_) (fun c26=> ?_)
   ·obtain rfl:dn=false:=by simpa using c26
    refine rC tb 3 U ?_;refine y_ (Ks U isAgg30 sizeOf30 (Aw hh) (by first|exact Ah fdd|exact Av)) ?_ U;refine e_ (Bh (.cons (T U) .nil) (bs42 hh)) ?_ U;rintro _ _ ⟨n29,rfl,rfl⟩;rw[← Dk hh];refine e_ (B5 (enc:=encHd) (d:=d) (l:=o) (h) (by':=80) qlc (T U) (T U) runUnderlying42 runUnderlying42 sizeOf30 typeInfo30 U zeroValue30 U De (Df _) hd qde (by have:=Hw hP;(try simp only[List.length_append,List.length_singleton]);omega)) ?_ U;rintro _ _ ⟨d2,rfl,hd2,rfl⟩;rw[show (o).length+1=(o++[h]).length from (by simp)] at hd2 ⊢;refine kO tb 13 [0,3,5,6,7,32] rfl U ?_
    first|refine Ac (Aa U) (fun c32=> ?_) (fun c32=> ?_)|refine Ag (Aa U) (fun c32=> ?_) (fun c32=> ?_)
    ·have hgt:hLt h (gd l i):=(hor.resolve_left (fun e=>by have:=hclt.2 e;omega)).resolve_left (fun e=>c32 (hceq.2 e));refine rC tb 4 U (y_ (Ku U U runUnderlying42 sizeOf30 qom (by first|exact rfl|exact hA.1.b (i:=i) qom)) ?_ U);refine y_ (Ks U isAgg30 sizeOf30 (Aw (hA.ok (k:=i) hi2)) (by first|exact((hA.mono (by exact sbt)).hd).cs (i:=i) qom|exact Av)) ?_ U;refine e_ (Bh (.cons (T U) .nil) (bs42 (hA.ok (k:=i) hi2))) ?_ U;rintro _ _ ⟨n38,rfl,rfl⟩;rw[← Dk (hA.ok (k:=i) hi2)];refine e_ (B5 (enc:=encHd) (d:=d2) (l:=(o++[h])) (gd l i) (by':=80) qlc (T U) (T U) runUnderlying42 runUnderlying42 sizeOf30 typeInfo30 U zeroValue30 U De (Df _) hd2 qde (by have:=Hw hP;(try simp only[List.length_append,List.length_singleton]);omega)) ?_ U;rintro _ _ ⟨d4,rfl,hd4,rfl⟩;rw[show ((o++[h])).length+1=((o++[h])++[gd l i]).length from (by simp)] at hd4 ⊢;refine rO tb 6 U (y_ (A4 (T U) Aj qom) ?_ U);refine rO tb 2 U ?_;refine A0 ((i+1,true,o++[h]++[gd l i],d4)) ?_ ?_ ⟨atd,atd,atd,trivial⟩ ⟨Aa U,Aa U,trivial⟩ ?_
     ·exact⟨hi2,pu_B hP hu hi2 hgt,hd4⟩
     ·first|omega|(simp only[];omega)
     ·exact sbt
    ·have heq:gd l i=h:=hceq.1 (Classical.not_not.1 c32);refine rC tb 5 U (y_ (A4 (T U) Aj qom) ?_ U);refine rO tb 2 U ?_;refine A0 ((i+1,true,o++[h],d2)) ?_ ?_ ⟨atd,atd,atd,trivial⟩ ⟨Aa U,Aa U,trivial⟩ ?_
     ·exact⟨hi2,pu_A hP hu hi2 heq,hd2⟩
     ·first|omega|(simp only[];omega)
     ·exact sbt
   ·obtain rfl:dn=true:=by simpa using c26
    refine rC tb 8 U ?_
    first|refine Ac (Aa U) (fun c32=> ?_) (fun c32=> ?_)|refine Ag (Aa U) (fun c32=> ?_) (fun c32=> ?_)
    ·skip
     refine rC tb 4 U (y_ (Ku U U runUnderlying42 sizeOf30 qom (by first|exact rfl|exact hA.1.b (i:=i) qom)) ?_ U);refine y_ (Ks U isAgg30 sizeOf30 (Aw (hA.ok (k:=i) hi2)) (by first|exact((hA.mono (by exact sbt)).hd).cs (i:=i) qom|exact Av)) ?_ U;refine e_ (Bh (.cons (T U) .nil) (bs42 (hA.ok (k:=i) hi2))) ?_ U;rintro _ _ ⟨n38,rfl,rfl⟩;rw[← Dk (hA.ok (k:=i) hi2)];refine e_ (B5 (enc:=encHd) (d:=d) (l:=o) (gd l i) (by':=80) qlc (T U) (T U) runUnderlying42 runUnderlying42 sizeOf30 typeInfo30 U zeroValue30 U De (Df _) hd qde (by have:=Hw hP;(try simp only[List.length_append,List.length_singleton]);omega)) ?_ U;rintro _ _ ⟨d4,rfl,hd4,rfl⟩;rw[show (o).length+1=(o++[gd l i]).length from (by simp)] at hd4 ⊢;refine kO tb 4 [0,3,5,6,7] rfl U (rG tb 2 U (y_ (A4 (T U) Aj qom) ?_ U));refine rO tb 2 U ?_;refine A0 ((i+1,true,o++[gd l i],d4)) ?_ ?_ ⟨atd,atd,atd,trivial⟩ ⟨Aa U,Aa U,trivial⟩ ?_
     ·exact⟨hi2,pu_CD hP hu hi2 (fun h=>by cases h),hd4⟩
     ·first|omega|(simp only[];omega)
     ·exact sbt
    ·exact(pu_E hP hi2 (hceq.1 (Classical.not_not.1 c32))).elim
  ·skip
   refine rO tb 14 U ?_
   first|refine Ac (Aa U) (fun c32=> ?_) (fun c32=> ?_)|refine Ag (Aa U) (fun c32=> ?_) (fun c32=> ?_)
   ·have hlt:hLt (gd l i) h:=hclt.1 qom;refine rC tb 4 U (y_ (Ku U U runUnderlying42 sizeOf30 qom (by first|exact rfl|exact hA.1.b (i:=i) qom)) ?_ U);refine y_ (Ks U isAgg30 sizeOf30 (Aw (hA.ok (k:=i) hi2)) (by first|exact((hA.mono (by exact sbt)).hd).cs (i:=i) qom|exact Av)) ?_ U;refine e_ (Bh (.cons (T U) .nil) (bs42 (hA.ok (k:=i) hi2))) ?_ U;rintro _ _ ⟨n38,rfl,rfl⟩;rw[← Dk (hA.ok (k:=i) hi2)];refine e_ (B5 (enc:=encHd) (d:=d) (l:=o) (gd l i) (by':=80) qlc (T U) (T U) runUnderlying42 runUnderlying42 sizeOf30 typeInfo30 U zeroValue30 U De (Df _) hd qde (by have:=Hw hP;(try simp only[List.length_append,List.length_singleton]);omega)) ?_ U;rintro _ _ ⟨d4,rfl,hd4,rfl⟩;rw[show (o).length+1=(o++[gd l i]).length from (by simp)] at hd4 ⊢;refine kO tb 4 [0,3,5,6,7] rfl U (rG tb 2 U (y_ (A4 (T U) Aj qom) ?_ U));refine rO tb 2 U ?_;refine A0 ((i+1,dn,o++[gd l i],d4)) ?_ ?_ ⟨atd,atd,atd,trivial⟩ ⟨Aa U,Aa U,trivial⟩ ?_
    ·exact⟨hi2,pu_CD hP hu hi2 (fun _=>hlt),hd4⟩
    ·first|omega|(simp only[];omega)
    ·exact sbt
   ·exfalso;have h9:=Classical.not_not.1 c32;omega
 ·obtain rfl:i=l.length:=by have h9: ¬ ((i:Nat):Int)<(l.length:Nat):=c12;omega
  refine rC tb 2 U (Ao (rX tb 6 U ?_))
  first|refine Az (Bq (T U)) U Ae ?_|refine Az (B2 (T U)) U Ae ?_
  refine rO tb 2 U ?_
  first|refine Ac (Aa U) (fun c41=> ?_) (fun c41=> ?_)|refine Ag (Aa U) (fun c41=> ?_) (fun c41=> ?_)
  ·obtain rfl:dn=false:=by simpa using c41
   have hfin:=pu_end2 hP;refine rC tb 2 U ?_;refine y_ (Ks U isAgg30 sizeOf30 (Aw hh) (by first|exact Ah fdd|exact Av)) ?_ U;refine e_ (Bh (.cons (T U) .nil) (bs42 hh)) ?_ U;rintro _ _ ⟨n44,rfl,rfl⟩;rw[← Dk hh];refine e_ (B5 (enc:=encHd) (d:=d) (l:=o) (h) (by':=80) qlc (T U) (T U) runUnderlying42 runUnderlying42 sizeOf30 typeInfo30 U zeroValue30 U De (Df _) hd qde (by have:=Hw hP;(try simp only[List.length_append,List.length_singleton]);omega)) ?_ U;rintro _ _ ⟨d2,rfl,hd2,rfl⟩;rw[show (o).length+1=(o++[h]).length from (by simp)] at hd2 ⊢;refine rO tb 10 U (Ai U (Kq U) ?_);exact⟨_,⟨o++[h],slQ d2,slC d2,rfl,hs_sl (X:=H) hd2 (fun x hx=>((hfin.2.1 x).1 hx).elim (hA.2.1 x) (fun e=>e ▸ hh)),hfin.1,hfin.2,by exact sbt⟩,by exact sbt⟩
  ·obtain rfl:dn=true:=by simpa using c41
   have hfin:=pu_end hP;refine rC tb 9 U (Ai U (Kq U) ?_);exact⟨_,⟨o,slQ d,slC d,rfl,hs_sl (X:=H) hd (fun x hx=>((hfin.2.1 x).1 hx).elim (hA.2.1 x) (fun e=>e ▸ hh)),hfin.1,hfin.2,by exact sbt⟩,by exact sbt⟩
structure CsA (w0:World) (H:List (Nat × Obj)) (cs:List Chm) (q:Option Addr):Prop where
 a:Arr w0 H q 21 encCh cs
 m:∀ c∈cs,Arr w0 H (slQ c.d) 20 encMdF c.ms
 r:∀ c∈cs,MdR c.p∧∀ m∈c.ms,MdR m
 n:cs.length≤100000∧∀ c∈cs,c.ms.length≤90000
theorem CsA.mono {w0:World}{H H':List (Nat × Obj)}{cs:List Chm}{q:Option Addr}(h:CsA w0 H cs q)(hs:H.Sublist H'):CsA w0 H' cs q:=⟨h.a.mono hs,fun c hc=>(h.m c hc).mono hs,h.r,h.n⟩
theorem ch_p {w0:World}{H:List (Nat × Obj)}{b o:Nat}{c:Chm}(hr:MdR c.p)(h:Cells w0 H b o (encCh c)):Cells w0 H b o (mdC c.p):=fun i v hi=>by
 have hl:=(List.getElem?_eq_some_iff.1 hi).1;refine h i v ?_;show (encMdF c.p++[slV c.d c.ms.length])[i]? =some v;rw[Dp ⟨hr.o1,hr.o2⟩,List.getElem?_append_left (by exact hl)];exact hi
theorem J8 {w0:World}{H:List (Nat × Obj)}{b o:Nat}{c:Chm}(hr:MdR c.p)(h:Cells w0 H b o (encCh c)):Cell w0 H ⟨b,o+20,none⟩ (slV c.d c.ms.length):=by
 refine h 20 _ ?_;show (encMdF c.p++[slV c.d c.ms.length])[20]? =_;rw[Dp ⟨hr.o1,hr.o2⟩,List.getElem?_append_right (by rw[Bf hr.o1 hr.o2];exact Nat.le_refl _),Bf hr.o1 hr.o2];rfl
theorem md_cs {w0:World}{H:List (Nat × Obj)}{b o:Nat}{m:Md}(hr:MdR m)(h:Cells w0 H b o (encMdF m)):Cells w0 H b o (mdC m):=by rw[← Dp ⟨hr.o1,hr.o2⟩];exact h
def Gvn (cs:List Chm) (h x:Hd):Prop:=∃ c∈cs,matM c.p h∧∃ m∈c.ms,x=appM m h
theorem gv_len {l:List Hd}{ms:List Md}{h:Hd}(hu:l.Pairwise hLt)(hm:∀ x,x∈l↔∃ m,m∈ms∧x=appM m h)(hn:(ms.map fun m=>appM m h).Nodup):l.length=ms.length:=by
 have h1:=Fc (m:=ms.map fun m=>appM m h) (up_nodup hu) fun x hx=>by
  obtain⟨m,a,b⟩:=(hm x).1 hx;exact List.mem_map.2 ⟨m,a,b.symm⟩
 have h2:=Fc (m:=l) hn fun x hx=>by
  obtain⟨m,a,b⟩:=List.mem_map.1 hx;exact(hm x).2 ⟨m,a,b.symm⟩
 rw[List.length_map] at h1 h2;omega
theorem gvn_no {cs:List Chm}{h x:Hd}{i:Nat}(hi:i<cs.length)(e: ¬ matM (gd cs i).p h):Gvn (cs.take (i+1)) h x↔Gvn (cs.take i) h x:=by
 unfold Gvn;rw[List.take_succ_eq_append_getElem hi,← Ay hi]
 constructor
 ·rintro⟨c,hc,h1,h2⟩;rcases List.mem_append.1 hc with hc|hc
  ·exact⟨c,hc,h1,h2⟩
  ·rw[List.mem_singleton.1 hc] at h1;exact(e h1).elim
 ·rintro⟨c,hc,h1,h2⟩;exact⟨c,List.mem_append.2 (.inl hc),h1,h2⟩
theorem gvn_yes {cs:List Chm}{h:Hd}{i:Nat}(hi:i<cs.length)(e:matM (gd cs i).p h)(hno:∀ c∈cs.take i,¬ matM c.p h)(x:Hd):Gvn (cs.take (i+1)) h x↔∃ m,m∈(gd cs i).ms∧x=appM m h:=by
 unfold Gvn;rw[List.take_succ_eq_append_getElem hi,← Ay hi]
 constructor
 ·rintro⟨c,hc,h1,m,h2,h3⟩;rcases List.mem_append.1 hc with hc|hc
  ·exact(hno c hc h1).elim
  ·rw[List.mem_singleton.1 hc] at h2;exact⟨m,h2,h3⟩
 ·rintro⟨m,h2,h3⟩;exact⟨_,List.mem_append.2 (.inr (List.mem_singleton.2 rfl)),e,m,h2,h3⟩
structure GvI (cs:List Chm) (h:Hd) (i n:Nat) (l:List Hd):Prop where
 up:l.Pairwise hLt
 mem:∀ x,x∈l↔Gvn (cs.take i) h x
 n0:n=0→∀ c∈cs.take i,¬ matM c.p h
 n1:n≤1
 nx:n=1→∃ c∈cs.take i,matM c.p h
 len:l.length≤90000
theorem gvi_nil {cs:List Chm}{h:Hd}{i:Nat}{l:List Hd}(hI:GvI cs h i 0 l):l=[]:=List.eq_nil_iff_forall_not_mem.2 fun x hx=>by
 obtain⟨c,hc,h1,_⟩:=(hI.mem x).1 hx;exact hI.n0 U c hc h1
theorem gvi_no {cs:List Chm}{h:Hd}{i n:Nat}{l:List Hd}(hI:GvI cs h i n l)(hi:i<cs.length)(e: ¬ matM (gd cs i).p h):GvI cs h (i+1) n l:=⟨hI.up,fun x=>by rw[hI.mem,gvn_no hi e],fun h0 c hc=>by
 rw[List.take_succ_eq_append_getElem hi,← Ay hi] at hc;rcases List.mem_append.1 hc with hc|hc
 ·exact hI.n0 h0 c hc
 ·rw[List.mem_singleton.1 hc];exact e,hI.n1,fun h1=>by
 obtain⟨c,hc,a⟩:=hI.nx h1;exact⟨c,by rw[List.take_succ_eq_append_getElem hi];exact List.mem_append.2 (.inl hc),a⟩,hI.len⟩
theorem gvi_zero {cs:List Chm}{h:Hd}{i n:Nat}{l:List Hd}(hI:GvI cs h i n l)(one:cs.Pairwise fun c d=> ¬ (matM c.p h∧matM d.p h))(hi:i<cs.length)(e:matM (gd cs i).p h):n=0:=by
 have h1:=hI.n1;rcases Nat.eq_zero_or_pos n with h0|h0
 ·exact h0
 ·obtain⟨c,hc,a⟩:=hI.nx qom;obtain⟨j,hj,e2⟩:=List.getElem_of_mem hc;rw[List.length_take] at hj;have:=List.pairwise_iff_getElem.1 one j i qom hi qom;rw[List.getElem_take] at e2;rw[e2,← Ay hi] at this;exact(this ⟨a,e⟩).elim
theorem gvi_yes {cs:List Chm}{h:Hd}{i:Nat}{l l':List Hd}(hI:GvI cs h i 0 l)(hi:i<cs.length)(e:matM (gd cs i).p h)(hu:l'.Pairwise hLt)(hm:∀ x,x∈l'↔∃ m,m∈(gd cs i).ms∧x=appM m h)(hn:l'.length≤90000):GvI cs h (i+1) 1 l':=⟨hu,fun x=>by rw[hm,gvn_yes hi e (hI.n0 U)],(fun h=>by cases h),Nat.le_refl _,fun _=>⟨gd cs i,by rw[List.take_succ_eq_append_getElem hi,← Ay hi];simp,e⟩,hn⟩
theorem given_s {w0:World}{H:List (Nat × Obj)}(cs:List Chm)(q:Option Addr)(c:Nat)(hC:CsA w0 H cs q)(h:Hd)(hh:HdOk h)(one:cs.Pairwise fun c d=> ¬ (matM c.p h∧matM d.p h))(nd:∀ c∈cs,matM c.p h→(c.ms.map fun m=>appM m h).Nodup):
  FSpec Tryz.prog w0 22 #[.slice q cs.length c, .agg (hdC h).toArray] H (fun u H'=>∃ (l:List Hd) (q':Option Addr) (c':Nat),u= .tuple #[.slice q' l.length c', .bool true]∧HsA w0 H' l q' c'∧l.Pairwise hLt∧(∀ x,x∈l↔Gvn cs h x)∧H.Sublist H'):=by
 refine An Tryz.func22 U ntmps22 U ?_;have hcn:=hC.n.1;refine rD tb 2 U (e_ (Kw U cs_) ?_ U);rintro _ _ ⟨n3,rfl,rfl⟩;refine rO tb 21 U ?_;refine A9 (X:=Nat × Nat × List Hd × Option Addr × Nat × List (Nat × Obj)) (V:=fun ⟨i,n,l,ql,cl,M⟩=>[(6, .slice ql l.length cl),(7, .int .i64 (n:Nat)),(8, .int .i64 (i:Nat))]) (C:=[(0,_),(3,_)]) (G:=fun ⟨i,n,l,ql,cl,M⟩=>M) (φ:=fun ⟨i,n,l,ql,cl,M⟩=>i≤cs.length∧GvI cs h i n l∧HsA w0 M l ql cl∧((n3,Cl (hdC h) 30)::H).Sublist M) (μ:=fun ⟨i,n,l,ql,cl,M⟩=>cs.length - i) (x0:=(0,0,[],none,0,((n3,Cl (hdC h) 30)::H))) ?_ ⟨Aa rfl,Aa rfl,trivial⟩ ⟨atd,atd,atd,trivial⟩ sb0 ?_
 ·exact⟨Nat.zero_le _,⟨.nil,fun x=>by simp[Gvn],fun _ c hc=>by simp at hc,Nat.zero_le _,(fun h=>by cases h),Nat.zero_le _⟩,hs_nil,sb0⟩
 rintro⟨i,n,l,ql,cl,M⟩ ⟨hi,hI,hL,hHM⟩;refine rD tb 9 U ?_
 first|refine Ac (Aa U) (fun c14=> ?_) (fun c14=> ?_)|refine Ag (Aa U) (fun c14=> ?_) (fun c14=> ?_)
 ·have hi2:i<cs.length:=by have h9:((i:Nat):Int)<(cs.length:Nat):=c14;omega
  have hci:=hC.r _ (A2 hi2);have hcm:=hC.m _ (A2 hi2);have hcl:=hC.n.2 _ (A2 hi2);refine rC tb 5 U (Bl 8 [(0,true),(1,true),(2,true),(3,true),(4,true),(5,true),(6,true),(7,true)] _ mixd qkr sb0 ?_ Bp);refine rP tb 2 U (o_y U (Ku U U runUnderlying48 sizeOf81 qom (by first|exact rfl|exact hC.a.b (i:=i) qom|exact hcm.b (i:=k) qom)) ?_ U Ae);refine rP tb 1 U (o_y U (Ks U isAgg78 sizeOf78 (Bf hci.1.o1 hci.1.o2) (by first|exact ch_p hci.1 ((hC.a.mono ((List.sublist_cons_self _ _).trans hHM)).cs (i:=i) qom)|exact Av)) ?_ U Ae);refine o_y U (Ks U isAgg30 sizeOf30 (Aw hh) (by first|exact Ah (Fnd.mono As hHM)|exact Av)) ?_ U Ae;refine o_y rfl (Ak (qe2 rfl rfl) call65 (fun H' hs=>rmatch_s (gd cs i).p hci.1.o1 hci.1.o2 h hh)) (rP tb 1 rfl (A7 rfl (rO tb 6 rfl ?_))) rfl Ae
  first|refine Az (Bq (T U)) U Ae ?_|refine Az (B2 (T U)) U Ae ?_
  refine rO tb 2 U ?_
  first|refine Ac (Aa U) (fun c25=> ?_) (fun c25=> ?_)|refine Ag (Aa U) (fun c25=> ?_) (fun c25=> ?_)
  ·have hnm: ¬ matM (gd cs i).p h:=fun e=>by rw[matB_iff.2 e] at c25;cases c25
   refine rC tb 6 U (y_ (A4 (T U) Aj qom) ?_ U);refine rO tb 2 U ?_;refine A0 ((i+1,n,l,ql,cl,M)) ?_ ?_ ⟨atd,atd,atd,trivial⟩ ⟨Aa U,Aa U,trivial⟩ ?_
   ·exact⟨hi2,gvi_no hI hi2 hnm,hL,hHM⟩
   ·first|omega|(simp only[];omega)
   ·exact sb0
  ·have hmt:matM (gd cs i).p h:=matB_iff.1 (by simpa using c25);obtain rfl:n=0:=gvi_zero hI one hi2 hmt;obtain rfl:=gvi_nil hI;refine rC tb 5 U (y_ (A4 (T U) Aj (by have:=hI.n1;omega)) ?_ U);refine rO tb 10 U ?_;refine A9 (X:=Nat × List Hd × Option Addr × Nat × List (Nat × Obj)) (V:=fun ⟨k,l2,q2,c2,M2⟩=>[(6, .slice q2 l2.length c2),(10, .int .i64 (k:Nat))]) (C:=[(0,_),(3,_),(7,_),(8,_)]) (G:=fun ⟨k,l2,q2,c2,M2⟩=>M2) (φ:=fun ⟨k,l2,q2,c2,M2⟩=>k≤(gd cs i).ms.length∧HsA w0 M2 l2 q2 c2∧l2.Pairwise hLt∧(∀ x,x∈l2↔∃ m,m∈(gd cs i).ms.take k∧x=appM m h)∧l2.length≤k∧((n3,Cl (hdC h) 30)::H).Sublist M2) (μ:=fun ⟨k,l2,q2,c2,M2⟩=>(gd cs i).ms.length - k) (x0:=(0,[],ql,cl,M)) ?_ ⟨Aa rfl,Aa rfl,Aa rfl,Aa rfl,trivial⟩ ⟨atd,atd,trivial⟩ sb0 ?_
   ·exact⟨Nat.zero_le _,hL, .nil,fun x=>by simp,by simp,hHM⟩
   rintro⟨k,l2,q2,c2,M2⟩ ⟨hk,hL2,hu2,hm2,hn2,hHM⟩;refine rD tb 6 U (y_ (Ch (T U) (T U) runUnderlying48 sizeOf81 qom (by first|exact rfl|exact hC.a.b (i:=i) qom|exact hcm.b (i:=k) qom)) ?_ U);refine rO tb 1 U (y_ (Kr U isAgg79 (by first|exact c_o|exact J8 hci.1 ((hC.a.mono ((List.sublist_cons_self _ _).trans hHM)).cs (i:=i) qom))) ?_ U);refine rO tb 4 U ?_
   first|refine Ac (Aa U) (fun c35=> ?_) (fun c35=> ?_)|refine Ag (Aa U) (fun c35=> ?_) (fun c35=> ?_)
   ·have hk2:k<(gd cs i).ms.length:=by have h9:((k:Nat):Int)<((gd cs i).ms.length:Nat):=c35;omega
    refine rC tb 4 U (Bl 11 [(0,true),(1,true),(2,true),(3,true),(4,true),(5,true),(6,true),(7,true),(8,true),(9,true),(10,true)] _ mixd qkr sb0 ?_ Bp);refine rP tb 3 U (o_y U (Ch (T U) (T U) runUnderlying48 sizeOf81 qom (by first|exact rfl|exact hC.a.b (i:=i) qom|exact hcm.b (i:=k) qom)) ?_ U Ae);refine rP tb 1 U (o_y U (Kr U isAgg79 (by first|exact c_o|exact J8 hci.1 ((hC.a.mono ((List.sublist_cons_self _ _).trans hHM)).cs (i:=i) qom))) ?_ U Ae);refine rP tb 1 U (o_y U (Ku U U runUnderlying79 sizeOf107 qom (by first|exact rfl|exact hC.a.b (i:=i) qom|exact hcm.b (i:=k) qom)) ?_ U Ae);refine o_y U (Ks U isAgg107 sizeOf107 (Bf (hci.2 _ (A2 hk2)).o1 (hci.2 _ (A2 hk2)).o2) (by first|exact md_cs (hci.2 _ (A2 hk2)) ((hcm.mono ((List.sublist_cons_self _ _).trans hHM)).cs (i:=k) qom)|exact Av)) ?_ U Ae;refine o_y U (Ks U isAgg30 sizeOf30 (Aw hh) (by first|exact Ah (Fnd.mono As hHM)|exact Av)) ?_ U Ae;refine o_y U (Ak (qe2 U U) call67 (fun H' hs=>rapply_s (gd (gd cs i).ms k) (hci.2 _ (A2 hk2)) h hh)) (A7 U (e_ (Ar (qe2 U U) call66 (lput_s l2 q2 c2 hL2 hu2 (appM (gd (gd cs i).ms k) h) (Jq _ _) qom)) ?_ U)) U Ae;rintro _ M3 ⟨l3,q3,c3,rfl,hL3,hu3,⟨hm3,hn3⟩,hM3⟩;refine rO tb 6 U (y_ (A4 (T U) Aj qom) ?_ U);refine rO tb 2 U ?_;refine A0 ((k+1,l3,q3,c3,M3)) ?_ ?_ ⟨atd,atd,trivial⟩ ⟨Aa U,Aa U,Aa U,Aa U,trivial⟩ ?_
    ·refine⟨hk2,hL3,hu3,fun x=> ?_,by omega,hHM.trans hM3⟩;rw[hm3,hm2,List.take_succ_eq_append_getElem hk2,← Ay hk2]
     constructor
     ·rintro(⟨m,a,b⟩|a)
      ·exact⟨m,List.mem_append.2 (.inl a),b⟩
      ·exact⟨_,List.mem_append.2 (.inr (List.mem_singleton.2 U)),a⟩
     ·rintro⟨m,a,b⟩;rcases List.mem_append.1 a with a|a
      ·exact .inl ⟨m,a,b⟩
      ·rw[List.mem_singleton.1 a] at b;exact .inr b
    ·first|omega|(simp only[];omega)
    ·exact sb0
   ·obtain rfl:k=(gd cs i).ms.length:=by have h9: ¬ ((k:Nat):Int)<((gd cs i).ms.length:Nat):=c35;omega
    rw[List.take_length] at hm2;have hlq:=gv_len hu2 hm2 (nd _ (A2 hi2) hmt);refine rC tb 2 U (Ao (rX tb 8 U (y_ (Ch (T U) (T U) runUnderlying48 sizeOf81 qom (by first|exact rfl|exact hC.a.b (i:=i) qom|exact hcm.b (i:=k) qom)) ?_ U)));refine rO tb 1 U (y_ (Kr U isAgg79 (by first|exact c_o|exact J8 hci.1 ((hC.a.mono ((List.sublist_cons_self _ _).trans hHM)).cs (i:=i) qom))) ?_ U);refine rO tb 4 U ?_
    first|refine Ac (Aa U) (fun c58=> ?_) (fun c58=> ?_)|refine Ag (Aa U) (fun c58=> ?_) (fun c58=> ?_)
    ·exfalso;have h9: ¬ ((l2.length:Nat):Int)=((gd cs i).ms.length:Nat):=c58;omega
    ·skip
     refine rC tb 5 U (y_ (A4 (T U) Aj qom) ?_ U);refine rO tb 2 U ?_;refine A0 ((i+1,1,l2,q2,c2,M2)) ?_ ?_ ⟨atd,atd,atd,trivial⟩ ⟨Aa U,Aa U,trivial⟩ ?_
     ·exact⟨hi2,gvi_yes hI hi2 hmt hu2 hm2 qom,hL2,hHM⟩
     ·first|omega|(simp only[];omega)
     ·exact sb0
 ·obtain rfl:i=cs.length:=by have h9: ¬ ((i:Nat):Int)<(cs.length:Nat):=c14;omega
  refine rC tb 2 U (Ao (rX tb 12 U (Ai U (.tmp (Aa U) (Kq U)) ?_)));exact⟨_,⟨l,ql,cl,by rw[show (Value.bool (decide (((n:Nat):Int)≤1)))= .bool true from congrArg Value.bool (decide_eq_true (by have:=hI.n1;omega))];rfl,hL,hI.up,fun x=>by rw[hI.mem,List.take_length],((List.sublist_cons_self _ _).trans hHM)⟩,sb0⟩
theorem mlt_c {p m:Md}(hp:MdR p)(hm:MdR m)(h:mLt p m):cmpL p.1 m.1≤0∧(cmpL p.1 m.1=0→cmpL p.2 m.2<0):=by
 rcases h with h|⟨h1,h2⟩
 ·have:=(Ht hp.o1 hm.o1).2 h;exact⟨by omega,fun e=>by omega⟩
 ·have e:=(Ip (a:=p.1) (b:=m.1) (by rw[hp.o1.len,hm.o1.len])).2 h1;exact⟨by omega,fun _=>(Ht hp.o2 hm.o2).2 h2⟩
theorem mlt_next {l:List Md}(hu:l.Pairwise mLt){j k:Nat}(h1:j<k)(h2:k<l.length):mLt (gd l j) (gd l k):=by
 have:=List.pairwise_iff_getElem.1 hu j k qom h2 h1
 rwa [← Ay qom,← Ay h2] at this
theorem choices_s {w0:World}{H:List (Nat × Obj)}(cs:List Chm)(q:Option Addr)(c:Nat)(hC:CsA w0 H cs q)(ne:∀ c∈cs,¬ c.ms.length=0)(srt:∀ c∈cs,c.ms.Pairwise mLt):
  FSpec Tryz.prog w0 23 #[.slice q cs.length c] H (Still (.bool true) H):=by
 refine An Tryz.func23 U ntmps23 U ?_;have hcn:=hC.n.1;refine rD tb 12 U ?_;refine A9 (X:=Nat) (V:=fun i=>[(3, .int .i64 (i:Nat))]) (C:=[(0,_)]) (G:=fun i=>H) (φ:=fun i=>i≤cs.length) (μ:=fun i=>cs.length - i) (x0:=0) ?_ ⟨Aa U,trivial⟩ ⟨atd,trivial⟩ sb0 ?_
 ·exact Nat.zero_le _
 rintro i hi;refine rD tb 9 U ?_
 first|refine Ac (Aa U) (fun c13=> ?_) (fun c13=> ?_)|refine Ag (Aa U) (fun c13=> ?_) (fun c13=> ?_)
 ·have hi2:i<cs.length:=by have h9:((i:Nat):Int)<(cs.length:Nat):=c13;omega
  have hci:=hC.r _ (A2 hi2);have hcm:=hC.m _ (A2 hi2);have hcl:=hC.n.2 _ (A2 hi2);have hne:=ne _ (A2 hi2);have hsr:=srt _ (A2 hi2);refine rC tb 8 U (y_ (Ku U U runUnderlying48 sizeOf81 qom (by first|exact rfl|exact hC.a.b (i:=i) qom|exact hcm.b (i:=k) qom|exact hcm.b (i:=k - 1) qom)) ?_ U);refine rO tb 1 U (y_ (Ks U isAgg78 sizeOf78 (Bf hci.1.o1 hci.1.o2) (by first|exact ch_p hci.1 ((hC.a.mono (by exact sbt)).cs (i:=i) qom)|exact Av)) ?_ U);refine y_ (Ak (qe1 U) call68 (fun H' hs=>rright78_s (gd cs i).p hci.1)) (rO tb 7 U ?_) U
  first|refine Az (B2 (T U)) U Ae ?_
  refine rO tb 3 U (Az (Ku U U runUnderlying48 sizeOf81 qom (by first|exact rfl|exact hC.a.b (i:=i) qom|exact hcm.b (i:=k) qom|exact hcm.b (i:=k - 1) qom)) U (A3 U U (Aa U)) ?_);refine rO tb 1 U (Az (Kr U isAgg79 (by first|exact c_o|exact J8 hci.1 ((hC.a.mono (by exact sbt)).cs (i:=i) qom))) U (A3 U U (Aa U)) ?_);refine rO tb 1 U (Az (yl_eqF (T U) Aj qom) U (A3 U U (Aa U)) ?_);refine rO tb 12 U ?_;refine A9 (X:=Nat) (V:=fun k=>[(5, .int .i64 (k:Nat))]) (C:=[(0,_),(3,_)]) (G:=fun k=>H) (φ:=fun k=>k≤(gd cs i).ms.length) (μ:=fun k=>(gd cs i).ms.length - k) (x0:=0) ?_ ⟨Aa U,Aa U,trivial⟩ ⟨atd,trivial⟩ sb0 ?_
  ·exact Nat.zero_le _
  rintro k hk;refine rD tb 6 U (y_ (Ch (T U) (T U) runUnderlying48 sizeOf81 qom (by first|exact rfl|exact hC.a.b (i:=i) qom|exact hcm.b (i:=k) qom|exact hcm.b (i:=k - 1) qom)) ?_ U);refine rO tb 1 U (y_ (Kr U isAgg79 (by first|exact c_o|exact J8 hci.1 ((hC.a.mono (by exact sbt)).cs (i:=i) qom))) ?_ U);refine rO tb 4 U ?_
  first|refine Ac (Aa U) (fun c40=> ?_) (fun c40=> ?_)|refine Ag (Aa U) (fun c40=> ?_) (fun c40=> ?_)
  ·have hk2:k<(gd cs i).ms.length:=by have h9:((k:Nat):Int)<((gd cs i).ms.length:Nat):=c40;omega
   refine rC tb 8 U (y_ (Ch (T U) (T U) runUnderlying48 sizeOf81 qom (by first|exact rfl|exact hC.a.b (i:=i) qom|exact hcm.b (i:=k) qom|exact hcm.b (i:=k - 1) qom)) ?_ U);refine rO tb 1 U (y_ (Kr U isAgg79 (by first|exact c_o|exact J8 hci.1 ((hC.a.mono (by exact sbt)).cs (i:=i) qom))) ?_ U);refine rO tb 1 U (y_ (Ku U U runUnderlying79 sizeOf107 qom (by first|exact rfl|exact hC.a.b (i:=i) qom|exact hcm.b (i:=k) qom|exact hcm.b (i:=k - 1) qom)) ?_ U);refine y_ (Ks U isAgg107 sizeOf107 (Bf (hci.2 _ (A2 hk2)).o1 (hci.2 _ (A2 hk2)).o2) (by first|exact md_cs (hci.2 _ (A2 hk2)) ((hcm.mono (by exact sbt)).cs (i:=k) qom)|exact Av)) ?_ U;refine e_ (Al zeroValue107 cs_) ?_ U;rintro _ _ ⟨n6,rfl,rfl⟩;refine e_ (Kv U U sizeOf107 .agg (Ci _ _) (Bf (hci.2 _ (A2 hk2)).o1 (hci.2 _ (A2 hk2)).o2) (by repeat (first|exact Upd.h|apply Upd.t|apply Cb)) (by rw[Bf (hci.2 _ (A2 hk2)).o1 (hci.2 _ (A2 hk2)).o2];rfl)) ?_ U;rintro _ _ ⟨rfl,rfl⟩;refine rO tb 4 U ?_;refine y_ (Ks U isAgg107 sizeOf107 (Bf (hci.2 _ (A2 hk2)).o1 (hci.2 _ (A2 hk2)).o2) (by first|exact Ah fdd|exact Av)) ?_ U;refine y_ (Ak (qe1 U) call69 (fun H' hs=>rmod_s (gd (gd cs i).ms k) (hci.2 _ (A2 hk2)))) (rO tb 7 U ?_) U
   first|refine Az (B2 (T U)) U Ae ?_
   refine rO tb 11 U ?_
   first|refine Ac (Aa U) (fun c56=> ?_) (fun c56=> ?_)|refine Ag (Aa U) (fun c56=> ?_) (fun c56=> ?_)
   ·have hk3:0<k:=by have h9:((k:Nat):Int)>0:=c56;omega
    have hk1:k - 1<(gd cs i).ms.length:=by omega
    obtain⟨hl1,hl2⟩:=mlt_c (hci.2 _ (A2 hk1)) (hci.2 _ (A2 hk2)) (mlt_next hsr (show k - 1<k by omega) hk2);refine rC tb 4 U (y_ (Ch (T U) (T U) runUnderlying48 sizeOf81 qom (by first|exact rfl|exact hC.a.b (i:=i) qom|exact hcm.b (i:=k) qom|exact hcm.b (i:=k - 1) qom)) ?_ U);refine rO tb 1 U (y_ (Kr U isAgg79 (by first|exact c_o|exact J8 hci.1 ((hC.a.mono (by exact sbt)).cs (i:=i) qom))) ?_ U);refine rO tb 1 U (y_ (Cy (c:=1) (T U) Aj qom) ?_ U);refine y_ (Ku U U runUnderlying79 sizeOf107 qom (by first|exact rfl|exact hC.a.b (i:=i) qom|exact hcm.b (i:=k) qom|exact hcm.b (i:=k - 1) qom)) ?_ U;refine y_ (Ks U isAgg107 sizeOf107 (Bf (hci.2 _ (A2 hk1)).o1 (hci.2 _ (A2 hk1)).o2) (by first|exact md_cs (hci.2 _ (A2 hk1)) ((hcm.mono (by exact sbt)).cs (i:=k - 1) qom)|exact Av)) ?_ U;refine e_ (Al zeroValue107 cs_) ?_ U;rintro _ _ ⟨n8,rfl,rfl⟩;refine e_ (Kv U U sizeOf107 .agg (Ci _ _) (Bf (hci.2 _ (A2 hk1)).o1 (hci.2 _ (A2 hk1)).o2) (by repeat (first|exact Upd.h|apply Upd.t|apply Cb)) (by rw[Bf (hci.2 _ (A2 hk1)).o1 (hci.2 _ (A2 hk1)).o2];rfl)) ?_ U;rintro _ _ ⟨rfl,rfl⟩;refine kO tb 2 [0,3,5,6,8] rfl U (rG tb 3 U ?_);refine y_ (Ks U isAgg30 sizeOf30 (Aw (hci.2 _ (A2 hk1)).o1) (by first|exact Et fdd|exact Av)) ?_ U;refine rO tb 1 U ?_;refine y_ (Ks U isAgg30 sizeOf30 (Aw (hci.2 _ (A2 hk2)).o1) (by first|exact Et fdd|exact Av)) ?_ U;refine y_ (Ak (qe2 U U) call18 (fun H' hs=>cmp18_s (gd (gd cs i).ms (k - 1)).1 (gd (gd cs i).ms k).1 (hci.2 _ (A2 hk1)).o1 (hci.2 _ (A2 hk2)).o1)) (rO tb 8 U ?_) U
    first|refine Am (s:=73) (Aa U) (fun c73=> ?_) (fun c73=> ?_)|refine A1 (s:=73) (Aa U) (fun c73=> ?_) (fun c73=> ?_)
    ·exfalso;omega
    ·skip
     refine rO tb 3 U ?_
     first|refine Am (s:=76) (Aa U) (fun c76=> ?_) (fun c76=> ?_)|refine A1 (s:=76) (Aa U) (fun c76=> ?_) (fun c76=> ?_)
     ·have hl3:=hl2 c76;refine rO tb 1 U ?_;refine Az (Ks U isAgg30 sizeOf30 (Aw (hci.2 _ (A2 hk1)).o2) (by first|exact Ed (hci.2 _ (A2 hk1)).o1 fdd|exact Av)) U (A3 U U (Aa U)) ?_;refine rO tb 1 U ?_;refine Az (Ks U isAgg30 sizeOf30 (Aw (hci.2 _ (A2 hk2)).o2) (by first|exact Ed (hci.2 _ (A2 hk2)).o1 fdd|exact Av)) U (A3 U U (Aa U)) ?_;refine Az (Ak (qe2 U U) call18 (fun H' hs=>cmp18_s (gd (gd cs i).ms (k - 1)).2 (gd (gd cs i).ms k).2 (hci.2 _ (A2 hk1)).o2 (hci.2 _ (A2 hk2)).o2)) U (A3 U U (Aa U)) (rO tb 5 U ?_)
      first|refine Ac (Aa U) (fun c84=> ?_) (fun c84=> ?_)|refine Ag (Aa U) (fun c84=> ?_) (fun c84=> ?_)
      ·exfalso;omega
      ·skip
       refine rC tb 5 U (y_ (A4 (T U) Aj qom) ?_ U);refine rO tb 2 U ?_;refine A0 (k+1) ?_ ?_ ⟨atd,trivial⟩ ⟨Aa U,Aa U,trivial⟩ ?_
       ·exact hk2
       ·first|omega|(simp only[];omega)
       ·exact sbt
     ·skip
      refine rO tb 16 U (y_ (A4 (T U) Aj qom) ?_ U);refine rO tb 2 U ?_;refine A0 (k+1) ?_ ?_ ⟨atd,trivial⟩ ⟨Aa U,Aa U,trivial⟩ ?_
      ·exact hk2
      ·first|omega|(simp only[];omega)
      ·exact sbt
   ·skip
    refine rC tb 5 U (y_ (A4 (T U) Aj qom) ?_ U);refine rO tb 2 U ?_;refine A0 (k+1) ?_ ?_ ⟨atd,trivial⟩ ⟨Aa U,Aa U,trivial⟩ ?_
    ·exact hk2
    ·first|omega|(simp only[];omega)
    ·exact sbt
  ·skip
   refine rC tb 2 U (Ao (rX tb 5 U (y_ (A4 (T U) Aj qom) ?_ U)));refine rO tb 2 U ?_;refine A0 (i+1) ?_ ?_ ⟨atd,trivial⟩ ⟨Aa U,trivial⟩ ?_
   ·exact hi2
   ·first|omega|(simp only[];omega)
   ·exact sbt
 ·skip
  refine rC tb 2 U (Ao (rX tb 8 U (Ai U (Kq U) ?_)));exact⟨_,⟨rfl,rfl⟩,by exact sbt⟩
theorem srt_strict {l:List Md}(ok:MdsOk l)(nd:l.Nodup):(srtM l).Pairwise mLt:=by
 obtain⟨hp,hs⟩:=srtM_ok ok;have nd2:(srtM l).Nodup:=hp.nodup_iff.2 nd;refine List.Pairwise.imp_of_mem ?_ (hs.and nd2);intro a b ha hb h;have a1:=ok a (hp.subset ha);have b1:=ok b (hp.subset hb);exact((I5 a1.1 a1.2 b1.1 b1.2).resolve_right fun e=>e.elim h.2 h.1)
section
variable {bs:List Nat} {ns:Ns} {a:Nat} {D:Hd→Hd→Prop}
structure RlOk (L:List (Md × List Md)) (D:Hd→Hd→Prop):Prop where
 r:∀ c∈L,MdR c.1∧∀ m∈c.2,MdR m
 ne:∀ c∈L,¬ c.2.length=0
 srt:∀ c∈L,c.2.Pairwise mLt
 one:∀ h,L.Pairwise fun c d=> ¬ (matM c.1 h∧matM d.1 h)
 nd:∀ h,∀ c∈L,matM c.1 h→(c.2.map fun m=>appM m h).Nodup
 say:∀ h,HdOk h→∀ x,(∃ c∈L,matM c.1 h∧∃ m∈c.2,x=appM m h)↔D h x
theorem nodup_of_map {α β:Type}{f:α→β}{l:List α}(h:(l.map f).Nodup):l.Nodup:=by
 have h2:=List.pairwise_map.1 h;exact h2.imp fun e1 e2=>e1 (by rw[e2])
theorem rules_ok (hb:BsOk bs)(hw:Wf (2*bs.length) ns)(la:a<ns.length)(ra:Rep bs ns a D)(hD:∀ {h g},HdOk h→D h g→HdOk g∧Out bs h g):RlOk (rulesP ns bs a) D:=by
 unfold rulesP
 by_cases h0:a=0
 ·rw[if_pos h0];subst h0;refine⟨fun c hc=>(by cases hc),fun c hc=>(by cases hc),fun c hc=>(by cases hc),fun _=> .nil,fun _ c hc=>(by cases hc),fun h hh x=>⟨fun ⟨c,hc,_⟩=>(by cases hc),fun d=> ?_⟩⟩;obtain⟨h1,h2⟩:=hD hh d;have:=(ra h x hh h1 h2).2 d;rw[D1] at this;cases this
 ·rw[if_neg h0];have R:=rs_ok hb hw bs.length 0 (hd0,hd0) [pt0 a] qom (Jp 0) (fun x hx=>by
   rw[List.mem_singleton.1 hx];exact⟨Jp 0,la,Nat.zero_le _,h0⟩) (fun h _=>List.pairwise_singleton ..)
  have hmds:∀ c∈rsF ns bs bs.length 0 (hd0,hd0) [pt0 a],MdsOk c.2:=fun c hc m hm=>⟨((R.ok c hc).2.1 m hm).o1,((R.ok c hc).2.1 m hm).o2⟩
  have hnd:∀ c∈rsF ns bs bs.length 0 (hd0,hd0) [pt0 a],∀ h,matM c.1 h→(c.2.map fun m=>appM m h).Nodup:=fun c hc h hm=>R.nd c hc h hm
  have hperm:∀ c∈rsF ns bs bs.length 0 (hd0,hd0) [pt0 a],(srtM c.2).Perm c.2:=fun c hc=>(srtM_ok (hmds c hc)).1
  have hsay:∀ h f,HdOk h→HdOk f→Out bs h f→((∃ x∈[pt0 a],Say bs ns 0 h f x)↔D h f):=fun h f hh hf o=>by
   constructor
   ·rintro⟨x,hx,_,h2⟩;rw[List.mem_singleton.1 hx] at h2;exact(ra h f hh hf o).1 h2
   ·intro d;exact⟨pt0 a,by simp,fun j hj=>absurd hj (Nat.not_lt_zero _),(ra h f hh hf o).2 d⟩
  unfold rsP;refine⟨fun c hc=> ?_,fun c hc=> ?_,fun c hc=> ?_,fun h=> ?_,fun h c hc hm=> ?_,fun h hh x=> ?_⟩
  ·obtain⟨d,hd,rfl⟩:=List.mem_map.1 hc;exact⟨(R.ok d hd).1.r,fun m hm=>((R.ok d hd).2.1 m ((hperm d hd).subset hm)).r⟩
  ·obtain⟨d,hd,rfl⟩:=List.mem_map.1 hc;intro e;rw[(hperm d hd).length_eq] at e;exact(R.ok d hd).2.2 (List.eq_nil_of_length_eq_zero e)
  ·obtain⟨d,hd,rfl⟩:=List.mem_map.1 hc;obtain⟨h,_,hm⟩:=R.some d hd;exact srt_strict (hmds d hd) (nodup_of_map (hnd d hd h hm))
  ·rw[List.pairwise_map];exact R.one.imp fun e=>e h
  ·obtain⟨d,hd,rfl⟩:=List.mem_map.1 hc;exact((hperm d hd).map _).nodup_iff.2 (hnd d hd h hm)
  ·constructor
   ·rintro⟨c,hc,hm,m,hx,rfl⟩;obtain⟨d,hd,rfl⟩:=List.mem_map.1 hc;have hx2:=(hperm d hd).subset hx;obtain⟨o,hs⟩:=(R.say d hd h (appM m h) hh (Jq _ _) hm).1 (List.mem_map.2 ⟨m,hx2,rfl⟩);exact(hsay h _ hh (Jq _ _) o).1 hs
   ·intro d;obtain⟨h1,h2⟩:=hD hh d;have hs:=(hsay h x hh h1 h2).2 d;obtain⟨c,hc,hm⟩:=R.all h x hh (fun b _ e=>by rw[Fj] at e;cases e) hs;obtain⟨m,hx,e⟩:=List.mem_map.1 ((R.say c hc h x hh h1 hm).2 ⟨h2,hs⟩);exact⟨_,List.mem_map.2 ⟨c,hc,rfl⟩,hm,m,(hperm c hc).symm.subset hx,e.symm⟩
end
def setsO:Po→List (Fd × Nat)
 | .fil _=>[]
 | .set f n=>[(f,n)]
 | .uni a b=>setsO a++setsO b
 | .seq a b=>setsO a++setsO b
 | .star a=>setsO a
abbrev Cov (f:Fd) (b:Nat):Prop:=f.pos≤b∧b<f.pos+f.w
def effB (L:List (Fd × Nat)) (χ:Fd × Nat→Bool) (h:Hd):Hd:=hdOf fun b=>match L.find? (fun e=>χ e&&decide (Cov e.1 b)) with
 |some e=>e.2.testBit (e.1.pos+e.1.w - 1 - b)
 |none=>hbit h b
def Fnc (L:List (Fd × Nat)) (χ:Fd × Nat→Bool):Prop:=∀ e∈L,∀ e'∈L,χ e=true→χ e'=true→∀ b,Cov e.1 b→Cov e'.1 b→e=e'
def Eqd (L:List (Fd × Nat)):Prop:=∀ e∈L,∀ e'∈L,∀ b,Cov e.1 b→Cov e'.1 b→e.1=e'.1
section
variable {L:List (Fd × Nat)} {χ χ':Fd × Nat→Bool} {h:Hd}
theorem Fp (L:List (Fd × Nat))(χ:Fd × Nat→Bool)(h:Hd):HdOk (effB L χ h):=Cf _
theorem Gt {b:Nat}(hb:b<160):hbit (effB L χ h) b=match L.find? (fun e=>χ e&&decide (Cov e.1 b)) with
  |some e=>e.2.testBit (e.1.pos+e.1.w - 1 - b)
  |none=>hbit h b:=Bm _ hb
theorem I9 {b:Nat}(hb:b<160)(hf:Fnc L χ){e:Fd × Nat}(he:e∈L)(hc:χ e=true)(hv:Cov e.1 b):hbit (effB L χ h) b=e.2.testBit (e.1.pos+e.1.w - 1 - b):=by
 rw[Gt hb];cases hq:L.find? (fun e=>χ e&&decide (Cov e.1 b)) with
 |none=>
  have:=List.find?_eq_none.1 hq e he;simp[hc,hv.1,hv.2] at this
 |some e'=>
  have h1:=List.find?_some hq;have h2:=List.mem_of_find?_eq_some hq;simp only[Bool.and_eq_true,decide_eq_true_eq] at h1;rw[hf e he e' h2 hc h1.1 b hv h1.2]
theorem Gw {b:Nat}(hb:b<160)(hn:∀ e∈L,χ e=true→¬ Cov e.1 b):hbit (effB L χ h) b=hbit h b:=by
 rw[Gt hb];have:L.find? (fun e=>χ e&&decide (Cov e.1 b))=none:=List.find?_eq_none.2 fun e he hx=>by
  simp only[Bool.and_eq_true,decide_eq_true_eq] at hx;exact hn e he hx.1 hx.2
 rw[this]
noncomputable def aft (L:List (Fd × Nat)) (χ χ':Fd × Nat→Bool):Fd × Nat→Bool:=fun e=>χ' e||(χ e&& !(@decide (∃ e'∈L,χ' e'=true∧e'.1=e.1) (Classical.propDecidable _)))
theorem aft_iff {e:Fd × Nat}:aft L χ χ' e=true↔χ' e=true∨(χ e=true∧¬ ∃ e'∈L,χ' e'=true∧e'.1=e.1):=by
 unfold aft;simp only[Bool.or_eq_true,Bool.and_eq_true,Bool.not_eq_true',decide_eq_false_iff_not]
theorem aft_fnc (hq:Eqd L)(h1:Fnc L χ)(h2:Fnc L χ'):Fnc L (aft L χ χ'):=fun e he e' he' a a' b c c'=>by
 rcases aft_iff.1 a with a|⟨a,na⟩<;>rcases aft_iff.1 a' with a'|⟨a',na'⟩
 ·exact h2 e he e' he' a a' b c c'
 ·exact(na' ⟨e,he,a,hq e he e' he' b c c'⟩).elim
 ·exact(na ⟨e',he',a',hq e' he' e he b c' c⟩).elim
 ·exact h1 e he e' he' a a' b c c'
theorem eff_aft (hq:Eqd L)(h1:Fnc L χ)(h2:Fnc L χ'):effB L χ' (effB L χ h)=effB L (aft L χ χ') h:=Cp (Fp _ _ _) (Fp _ _ _) fun b hb=>by
 have h3:=aft_fnc hq h1 h2
 by_cases e1:∃ e∈L,χ' e=true∧Cov e.1 b
 ·obtain⟨e,he,a,c⟩:=e1;rw[I9 hb h2 he a c,I9 hb h3 he (aft_iff.2 (.inl a)) c]
 ·rw[Gw hb fun e he a c=>e1 ⟨e,he,a,c⟩]
  by_cases e2:∃ e∈L,χ e=true∧Cov e.1 b
  ·obtain⟨e,he,a,c⟩:=e2;rw[I9 hb h1 he a c,I9 hb h3 he (aft_iff.2 (.inr ⟨a,fun ⟨e',he',a',q⟩=>e1 ⟨e',he',a',q ▸ c⟩⟩)) c]
  ·rw[Gw hb fun e he a c=>e2 ⟨e,he,a,c⟩,Gw hb fun e he a c=>by
    rcases aft_iff.1 a with a|⟨a,_⟩
    ·exact e1 ⟨e,he,a,c⟩
    ·exact e2 ⟨e,he,a,c⟩]
theorem Fq (hq:Eqd L){t:Int}:∀ {p:Po} {h g:Hd},(∀ e∈setsO p,e∈L)→(∀ e∈L,∃ bs,FIn bs e.1)→HdOk h→den t p h g→∃ χ,Fnc L χ∧g=effB L χ h
 | .fil _,h,g,_,_,hh,d=>⟨fun _=>false,(fun _ _ _ _ a=>(by cases a)),by
  rw[d.1];exact(Cp (Fp _ _ _) hh fun b hb=>Gw hb fun _ _ a=>(by cases a)).symm⟩
 | .set f n,h,g,hs,hl,hh,d=>by
  haveI:DecidableEq (Fd × Nat):=fun _ _=>Classical.propDecidable _
  have d:g=fset f h n:=d;subst d;have hm:=hs (f,n) (by simp[setsO]);have hfn:Fnc L fun e=>decide (e=(f,n)):=fun e _ e' _ a a' _ _ _=>by rw[of_decide_eq_true a,of_decide_eq_true a']
  refine⟨fun e=>decide (e=(f,n)),hfn,Cp (Ct _ _ _) (Fp _ _ _) fun b hb=> ?_⟩;rw[Gq hb]
  by_cases c:Cov f b
  ·rw[if_pos c,I9 hb hfn hm (decide_eq_true U) c]
  ·rw[if_neg c,Gw hb fun e _ a=>by rw[of_decide_eq_true a];exact c]
 | .uni a b,h,g,hs,hl,hh,d=>by
  rcases d with d|d
  ·exact Fq hq (fun e he=>hs e (List.mem_append.2 (.inl he))) hl hh d
  ·exact Fq hq (fun e he=>hs e (List.mem_append.2 (.inr he))) hl hh d
 | .seq a b,h,g,hs,hl,hh,d=>by
  obtain⟨m,d1,d2⟩:=d;obtain⟨χ1,f1,rfl⟩:=Fq hq (fun e he=>hs e (List.mem_append.2 (.inl he))) hl hh d1;obtain⟨χ2,f2,rfl⟩:=Fq hq (fun e he=>hs e (List.mem_append.2 (.inr he))) hl (Fp _ _ _) d2;exact⟨aft L χ1 χ2,aft_fnc hq f1 f2,eff_aft hq f1 f2⟩
 | .star a,h,g,hs,hl,hh,d=>by
  have key:∀ {h g:Hd},Cl' (den t a) h g→HdOk h→∃ χ,Fnc L χ∧g=effB L χ h:=by
   intro h g c
   induction c with
   |base h=>exact fun hh=>⟨fun _=>false,(fun _ _ _ _ a=>(by cases a)),(Cp (Fp _ _ _) hh fun b hb=>Gw hb fun _ _ a=>(by cases a)).symm⟩
   |step d1 _ ih=>
    intro hh;obtain⟨χ1,f1,rfl⟩:=Fq hq (p:=a) hs hl hh d1;obtain⟨χ2,f2,rfl⟩:=ih (Fp _ _ _);exact⟨aft L χ1 χ2,aft_fnc hq f1 f2,eff_aft hq f1 f2⟩
  exact key d hh
end
structure PrtsOk (bs:List Nat) (ns:Ns) (a:Nat) (k:Nat) (p:Md) (l:List Prt):Prop where
 le:k≤bs.length
 pm:MdOk bs k p
 ok:∀ x∈l,PtOk bs ns k x
 ds:∀ h,matM p h→l.Pairwise (Dst bs k h)
 say:∀ h f:Hd,matM p h→((∃ x∈l,Say bs ns k h f x)↔sem ns a (mixA (xh bs h) (xh bs f))=true)
section
variable {bs:List Nat} {ns:Ns} {a k:Nat} {p:Md} {l:List Prt}
theorem ps_step (h9:PrtsOk bs ns a k p l)(hk:k<bs.length){p':Md}{G:Prt→List Prt}(hp':MdOk bs (k+1) p')(hsub:∀ h,matM p' h→matM p h)(hG:∀ h,matM p' h→∀ x∈l,Rpl bs ns k h x (G x)):PrtsOk bs ns a (k+1) p' (l.flatMap G):=by
 have key:=fun h hm=>Ik (hG h hm) (h9.ds h (hsub h hm))
 exact⟨hk,hp',(key p'.2 (Hj hp')).1,fun h hm=>(key h hm).2.1,fun h f hm=>by rw[← (key h hm).2.2 f];exact h9.say h f (hsub h hm)⟩
theorem ps_jn (hb:BsOk bs)(hw:Wf (2*bs.length) ns)(h9:PrtsOk bs ns a k p l)(hk:k<bs.length)(hj:l.all (jnB ns k)=true):PrtsOk bs ns a (k+1) p (l.flatMap (jnF ns k (gd bs k))):=
 ps_step h9 hk (h9.pm.up qom) (fun _ h=>h) fun h _ x hx=>rpl_jn hb hw hk (h9.ok x hx) (List.all_eq_true.1 hj x hx)
theorem ps_sp (hb:BsOk bs)(hw:Wf (2*bs.length) ns)(h9:PrtsOk bs ns a k p l)(hk:k<bs.length)(v:Bool):PrtsOk bs ns a (k+1) (chg p (gd bs k) v) (l.flatMap (spF ns k (gd bs k) v)):=
 ps_step h9 hk (H5 hb hk h9.pm v) (fun h hm=>((Ds hb hk h9.pm).1 hm).1) fun h hm x hx=>rpl_sp hb hw hk (h9.ok x hx) ((Ds hb hk h9.pm).1 hm).2
theorem ps_0 (la:a<ns.length)(h0:a≠0):PrtsOk bs ns a 0 (hd0,hd0) [pt0 a]:=⟨Nat.zero_le _,Jp 0,fun x hx=>by
 rw[List.mem_singleton.1 hx];exact⟨Jp 0,la,Nat.zero_le _,h0⟩,fun _ _=>List.pairwise_singleton ..,fun h f _=>by
 constructor
 ·rintro⟨x,hx,_,h2⟩;rw[List.mem_singleton.1 hx] at h2;exact h2
 ·intro e;exact⟨pt0 a,by simp,fun j hj=>absurd hj (Nat.not_lt_zero _),e⟩⟩
theorem ps_bdd (hb:BsOk bs)(hw:Wf (2*bs.length) ns)(hlen:∀ k p l,PrtsOk bs ns a k p l→l.length≤1000000):Bdd ns bs (PrtsOk bs ns a):=
 ⟨hlen,fun k p l h hk hj=>ps_jn hb hw h hk hj,fun k p l h hk _ v=>ps_sp hb hw h hk v⟩
end
theorem eff_local {L:List (Fd × Nat)}{χ:Fd × Nat→Bool}{h h':Hd}{b:Nat}(hb:b<160)(e:hbit h b=hbit h' b):hbit (effB L χ h) b=hbit (effB L χ h') b:=by
 rw[Gt hb,Gt hb]
 split
 ·rfl
 ·exact e
theorem app_local {m:Md}{h h':Hd}{b:Nat}(hb:b<160)(e:hbit h b=hbit h' b):hbit (appM m h) b=hbit (appM m h') b:=by
 rw[Gk _ _ hb,Gk _ _ hb,e]
section
variable {bs:List Nat} {ns:Ns} {a k:Nat} {p:Md} {l:List Prt} {D:Hd→Hd→Prop} {L:List (Fd × Nat)}
theorem ps_wit (hb:BsOk bs)(hw:Wf (2*bs.length) ns)(ra:Rep bs ns a D)(heff:∀ h g,HdOk h→D h g→∃ χ,Fnc L χ∧g=effB L χ h)(h9:PrtsOk bs ns a k p l){x:Prt}(hx:x∈l):∃ χ,Fnc L χ∧∀ j,j<k→xh bs (appM x.1 p.2) j=xh bs (effB L χ p.2) j:=by
 have hk:=h9.le;have hp:=h9.ok x hx;have hsat:∃ α,sem ns x.2 α=true:=Classical.byContradiction fun hn=>hp.ne (sem_inj hw hp.lt (by have:=hp.lt;omega) fun α=>by
  rw[D1];exact Bool.eq_false_iff.2 fun e=>hn ⟨α,e⟩)
 obtain⟨α,hα⟩:=hsat
 obtain⟨h,hh,_,hx1⟩:=Gj hb p.2 fun j=>if j<k then xh bs p.2 j else α (2*j)
 obtain⟨f,hf,of,hx2⟩:=Gj hb h fun j=>if j<k then xh bs (appM x.1 p.2) j else α (2*j+1)
 have hbit1:∀ j,j<k→hbit h (gd bs j)=hbit p.2 (gd bs j):=fun j hj=>by
  have:=hx1 j qom;rw[if_pos hj] at this;exact this
 have hm:matM p h:=fun b hb1 hb2=>by
  obtain⟨j,h1,h2,rfl⟩:=h9.pm.on b hb1 hb2;exact hbit1 j h1
 have hsem:sem ns x.2 (mixA (xh bs h) (xh bs f))=true:=by
  rw[← hα];refine Cx hw x.2 hp.lt _ _ fun i h1 h2=> ?_
  have hlv:=hp.lv;unfold mixA
  split
  ·rw[hx1 _ qom,if_neg qom];congr 1;omega
  ·rw[hx2 _ qom,if_neg qom];congr 1;omega
 have hsay:sem ns a (mixA (xh bs h) (xh bs f))=true:=(h9.say h f hm).1 ⟨x,hx,fun j hj=>by
  rw[hx2 j qom,if_pos hj];exact(app_local (Cn hb qom) (hbit1 j hj)).symm,hsem⟩
 obtain⟨χ,hχ,rfl⟩:=heff h f hh ((ra h f hh hf of).1 hsay);refine⟨χ,hχ,fun j hj=> ?_⟩;have:=hx2 j qom;rw[if_pos hj] at this;rw[← this];exact eff_local (Cn hb qom) (hbit1 j hj)
end
def bnL:List Bool→Nat
 |[]=>0
 |b::l=>2*bnL l+b.toNat
theorem bnL_lt:∀ l:List Bool,bnL l<2 ^ l.length
 |[]=>by decide
 |b::l=>by
  have:=bnL_lt l;rw[bnL,List.length_cons,Nat.pow_succ];cases b<;>simp<;>omega
theorem bnL_inj:∀ {l m:List Bool},l.length=m.length→bnL l=bnL m→l=m
 |[],[],_,_=>rfl
 |[],_::_,h,_=>by simp at h
 |_::_,[],h,_=>by simp at h
 |b::l,c::m,h,e=>by
  rw[bnL,bnL] at e;have h1:bnL l=bnL m:=by cases b<;>cases c<;>simp at e<;>omega
  have h2:b=c:=by cases b<;>cases c<;>simp at e ⊢<;>omega
  rw[h2,bnL_inj (by simpa using h) h1]
theorem eff_congr {L:List (Fd × Nat)}{χ χ':Fd × Nat→Bool}{h:Hd}(e:L.map χ=L.map χ'):effB L χ h=effB L χ' h:=by
 have he:∀ x∈L,χ x=χ' x:=List.map_inj_left.1 e;refine Cp (Fp _ _ _) (Fp _ _ _) fun b hb=> ?_
 rw[Gt hb,Gt hb];have:L.find? (fun e=>χ e&&decide (Cov e.1 b))=L.find? (fun e=>χ' e&&decide (Cov e.1 b)):=by
  clear e
  induction L with
  |nil=>rfl
  |cons x L ih=>
   rw[List.find?_cons,List.find?_cons,he x (by simp),ih fun y hy=>he y (by simp[hy])]
 rw[this]
section
variable {bs:List Nat} {ns:Ns} {a k:Nat} {p:Md} {l:List Prt} {D:Hd→Hd→Prop} {L:List (Fd × Nat)}
theorem ps_len (hb:BsOk bs)(hw:Wf (2*bs.length) ns)(ra:Rep bs ns a D)(heff:∀ h g,HdOk h→D h g→∃ χ,Fnc L χ∧g=effB L χ h)(h9:PrtsOk bs ns a k p l):l.length≤2 ^ L.length:=by
 obtain⟨F,hF⟩:∃ F:Prt→Fd × Nat→Bool,∀ x,x∈l→∀ j,j<k→xh bs (appM x.1 p.2) j=xh bs (effB L (F x) p.2) j:=by
  refine Classical.axiomOfChoice (r:=fun x χ=>x∈l→∀ j,j<k→xh bs (appM x.1 p.2) j=xh bs (effB L χ p.2) j) fun x=> ?_
  by_cases hx:x∈l
  ·obtain⟨χ,_,h⟩:=ps_wit hb hw ra heff h9 hx;exact⟨χ,fun _=>h⟩
  ·exact⟨fun _=>false,fun h=>absurd h hx⟩
 have hnd:(l.map fun x=>bnL (L.map (F x))).Nodup:=by
  refine List.pairwise_map.2 (List.Pairwise.imp_of_mem ?_ (h9.ds p.2 (Hj h9.pm)));rintro x y hx hy ⟨j,hj,hne⟩ e;have e2:=bnL_inj (by simp) e;rw[hF x hx j hj,hF y hy j hj,eff_congr e2] at hne;exact hne U
 have:=Fc (m:=List.range (2 ^ L.length)) hnd fun v hv=>by
  obtain⟨x,_,rfl⟩:=List.mem_map.1 hv;have:=bnL_lt (L.map (F x));rw[List.length_map] at this;exact List.mem_range.2 this
 rwa [List.length_map,List.length_range] at this
end
theorem sets_nd {fl:List Fd}:∀ {m:Pom} {p:Po},IsO fl m p→2*(setsO p).length≤m.nd+1:=by
 intro m p hI
 induction hI with
 |fil _ _=>simp[setsO]
 | @set m n _ _=>have:=J4 m;simp only[setsO,List.length_cons,List.length_nil];omega
 | @uni m a b p q _ hs _ _ i1 i2=>
  have:=J4 m;rw[hs] at this;simp only[setsO,List.length_append,ndOL] at this ⊢;omega
 | @seq m a b p q _ hs _ _ i1 i2=>
  have:=J4 m;rw[hs] at this;simp only[setsO,List.length_append,ndOL] at this ⊢;omega
 | @star m a p _ hs _ i1=>
  have:=J4 m;rw[hs] at this;simp only[setsO,ndOL] at this ⊢;omega
theorem Eh {bs:List Nat}:∀ {p:Po},p.Fit bs→∀ e∈setsO p,FIn bs e.1
 | .fil _,_,e,he=>by simp[setsO] at he
 | .set f n,hF,e,he=>by
  rw[setsO,List.mem_singleton] at he;subst he;exact hF.1
 | .uni a b,hF,e,he=>by
  rcases List.mem_append.1 he with he|he
  ·exact Eh hF.1 e he
  ·exact Eh hF.2 e he
 | .seq a b,hF,e,he=>by
  rcases List.mem_append.1 he with he|he
  ·exact Eh hF.1 e he
  ·exact Eh hF.2 e he
 | .star a,hF,e,he=>Eh (p:=a) hF e he
theorem Hy {fl:List Fd}{bs:List Nat}{m:Pom}{p:Po}(hI:IsO fl m p):p.Fit bs→∀ e∈setsO p,e.1∈portFd::fl:=by
 induction hI with
 |fil _ _=>intro _ e he;simp[setsO] at he
 | @set m n _ _=>
  intro hF e he;rw[setsO,List.mem_singleton] at he;subst he;have h1:=hF.1.ok.w1
  by_cases hf:(fndFd fl m.nm).2=true
  ·exact Dq hf
  ·exfalso;unfold fndFd at h1 hf
   split at hf
   ·exact hf U
   ·rename_i h2;rw[if_neg h2] at h1
    split at hf
    ·exact hf U
    ·rename_i h3;rw[h3] at h1;have h1:1≤0:=h1;omega
 | @uni m a b p q _ _ _ _ i1 i2=>
  intro hF e he;rcases List.mem_append.1 he with he|he
  ·exact i1 hF.1 e he
  ·exact i2 hF.2 e he
 | @seq m a b p q _ _ _ _ i1 i2=>
  intro hF e he;rcases List.mem_append.1 he with he|he
  ·exact i1 hF.1 e he
  ·exact i2 hF.2 e he
 | @star m a p _ _ _ i1=>exact fun hF e he=>i1 hF e he
theorem pw_eq {l:List Fd}(h:l.Pairwise fun f g=>f.pos+f.w≤g.pos∨g.pos+g.w≤f.pos){f g:Fd}(hf:f∈l)(hg:g∈l){b:Nat}(c:Cov f b)(d:Cov g b):f=g:=by
 obtain⟨i,hi,e1⟩:=List.getElem_of_mem hf;obtain⟨j,hj,e2⟩:=List.getElem_of_mem hg;rcases Nat.lt_trichotomy i j with h1|h1|h1
 ·have:=List.pairwise_iff_getElem.1 h i j hi hj h1;rw[e1,e2] at this;have c1:=c.1;have c2:=c.2;have d1:=d.1;have d2:=d.2;omega
 ·subst h1;rw[← e1,← e2]
 ·have:=List.pairwise_iff_getElem.1 h j i hj hi h1;rw[e1,e2] at this;have c1:=c.1;have c2:=c.2;have d1:=d.1;have d2:=d.2;omega
theorem pol_bdd {fl:List Fd}(hfl:FlOk fl){m:Pom}{p:Po}(hI:IsO fl m p)(hF:p.Fit (bsF fl))(hn:m.nd≤20){t:Int}{ns:Ns}{a:Nat}(hw:Wf (2*(bsF fl).length) ns)(ra:Rep (bsF fl) ns a (den t p)):Bdd ns (bsF fl) (PrtsOk (bsF fl) ns a):=by
 have hq:Eqd (setsO p):=fun e he e' he' b c d=>pw_eq hfl.pw (Hy hI hF e he) (Hy hI hF e' he') c d
 refine ps_bdd (H8 hfl) hw fun k p' l h9=> ?_
 have h1:=ps_len (L:=setsO p) (H8 hfl) hw ra (fun h g hh d=>Fq hq (fun e he=>he) (fun e he=>⟨_,Eh hF e he⟩) hh d) h9;have h2:=sets_nd hI;have h3:2 ^ (setsO p).length≤2 ^ 10:=Nat.pow_le_pow_right qom qom;have h3:2 ^ (setsO p).length≤1024:=h3;omega
theorem out_few {L:List (Fd × Nat)}{h:Hd}{l:List Hd}(hn:l.Nodup)(he:∀ x∈l,∃ χ,x=effB L χ h):l.length≤2 ^ L.length:=by
 obtain⟨F,hF⟩:∃ F:Hd→Fd × Nat→Bool,∀ x,x∈l→x=effB L (F x) h:=by
  refine Classical.axiomOfChoice (r:=fun x χ=>x∈l→x=effB L χ h) fun x=> ?_
  by_cases hx:x∈l
  ·obtain⟨χ,e⟩:=he x hx;exact⟨χ,fun _=>e⟩
  ·exact⟨fun _=>false,fun h=>absurd h hx⟩
 have hnd:(l.map fun x=>bnL (L.map (F x))).Nodup:=by
  refine List.pairwise_map.2 (List.Pairwise.imp_of_mem ?_ hn);intro x y hx hy hne e;have e2:=bnL_inj (by simp) e;exact hne (by rw[hF x hx,hF y hy,eff_congr e2])
 have:=Fc (m:=List.range (2 ^ L.length)) hnd fun v hv=>by
  obtain⟨x,_,rfl⟩:=List.mem_map.1 hv;have:=bnL_lt (L.map (F x));rw[List.length_map] at this;exact List.mem_range.2 this
 rwa [List.length_map,List.length_range] at this
theorem mods_few {fl:List Fd}(hfl:FlOk fl){m:Pom}{p:Po}(hI:IsO fl m p)(hF:p.Fit (bsF fl))(hn:m.nd≤20){t:Int}{L:List (Md × List Md)}(hL:RlOk L (den t p)):∀ c∈L,c.2.length≤1024:=fun c hc=>by
 have hq:Eqd (setsO p):=fun e he e' he' b c d=>pw_eq hfl.pw (Hy hI hF e he) (Hy hI hF e' he') c d
 have hr:=(hL.r c hc).1;have hm:matM c.1 c.1.2:=fun _ _ _=>rfl
 have h1:=out_few (L:=setsO p) (h:=c.1.2) (hL.nd c.1.2 c hc hm) fun x hx=>by
  obtain⟨d,hd,rfl⟩:=List.mem_map.1 hx;obtain⟨χ,_,e⟩:=Fq hq (fun e he=>he) (fun e he=>⟨_,Eh hF e he⟩) hr.o2 ((hL.say c.1.2 hr.o2 _).1 ⟨c,hc,hm,d,hd,rfl⟩);exact⟨χ,e⟩
 rw[List.length_map] at h1;have h2:=sets_nd hI;have h3:2 ^ (setsO p).length≤2 ^ 10:=Nat.pow_le_pow_right qom qom;have h3:2 ^ (setsO p).length≤1024:=h3;omega
theorem chm_sub {c:Chm}:∀ {cs:List Chm},c∈cs→(slH c.d (c.ms.flatMap encMdF) 107).Sublist (chM cs)
 |[],h=>by cases h
 |d::cs,h=>by
  show (slH c.d (c.ms.flatMap encMdF) 107).Sublist ((d::cs).flatMap _);rw[List.flatMap_cons];rcases List.mem_cons.1 h with rfl|h
  ·exact List.sublist_append_left _ _
  ·exact(chm_sub h).trans (List.sublist_append_right _ _)
section
variable {w0:World} {H:List (Nat × Obj)} {L:List (Md × List Md)} {D:Hd→Hd→Prop} {d:Sl} {cs:List Chm} {h:Hd}
theorem Ig (he:cs.map Chm.pl=L){c:Chm}(hc:c∈cs):(c.p,c.ms)∈L:=by rw[← he];exact List.mem_map.2 ⟨c,hc,rfl⟩
theorem rl_cs (hL:RlOk L D)(hf:∀ c∈L,c.2.length≤1024)(h4:L.length≤4000)(he:cs.map Chm.pl=L)(hd:SlOk d cs.length 21)(hc:∀ c∈cs,ChH c):CsA w0 ((slH d (cs.flatMap encCh) 81++chM cs)++H) cs (slQ d):=by
 have hn:cs.length=L.length:=by rw[← he,List.length_map]
 refine⟨?_,fun c h=> ?_,fun c h=>hL.r _ (Ig he h),by omega,fun c h=>by have:=hf _ (Ig he h);exact Nat.le_trans this qom⟩
 ·have:=Ck (w0:=w0) (e:=81) (X:=chM cs++H) (enc:=encCh) (l:=cs) encCh_len hd
  rwa [← List.append_assoc] at this
 ·have:=Ck (w0:=w0) (e:=107) (X:=[]) (enc:=encMdF) (l:=c.ms) encMdF_len (hc c h).sl;rw[List.append_nil] at this;exact this.mono (((chm_sub h).trans (List.sublist_append_right _ _)).trans (List.sublist_append_left _ _))
theorem rl_one (hL:RlOk L D)(he:cs.map Chm.pl=L)(h:Hd):cs.Pairwise fun c d=> ¬ (matM c.p h∧matM d.p h):=by
 have:=hL.one h;rw[← he,List.pairwise_map] at this;exact this
theorem rl_gvn (hL:RlOk L D)(he:cs.map Chm.pl=L)(hh:HdOk h)(x:Hd):Gvn cs h x↔D h x:=by
 rw[← hL.say h hh x]
 constructor
 ·rintro⟨c,hc,hm,m,h1,h2⟩;exact⟨_,Ig he hc,hm,m,h1,h2⟩
 ·rintro⟨c,hc,hm,m,h1,h2⟩;rw[← he] at hc;obtain⟨b,hb,rfl⟩:=List.mem_map.1 hc;exact⟨b,hb,hm,m,h1,h2⟩
end
abbrev RlU (L:List (Md × List Md)) (H:List (Nat × Obj)):Value→List (Nat × Obj)→Prop:=fun u H'=>∃ (d:Sl) (cs:List Chm) (e:Int),u= .tuple #[slV d cs.length, .int .i64 e]∧((e=0∧L.length≤4000∧cs.map Chm.pl=L∧SlOk d cs.length 21∧∀ c∈cs,ChH c)∨(e=2∧cs.length=0))∧H'=(slH d (cs.flatMap encCh) 81++chM cs)++H
theorem rules_u {w0:World}{H:List (Nat × Obj)}{D:Sd}{sv:Sv}{ns:Ns}{bs:List Nat}(hst:StOk D sv ns)(hbs:BsOk bs)(hbe:D.bs=bs)(hS:(SM D sv ns).Sublist H)(hB:Arr w0 H D.qb 1 encB1 bs){Qp:Nat→Md→List Prt→Prop}(Q:Bdd ns bs Qp)(a:Nat)(ha:a<ns.length)(hq: ¬ a=0→Qp 0 (hd0,hd0) [pt0 a]):
  FSpec Tryz.prog w0 20 #[.pointer (some ⟨D.p,0,none⟩), .int .i64 (a:Nat)] H (RlU (rulesP ns bs a) H):=by
 subst hbe;have e:=rules_s hst hbs hS hB Q a ha hq;intro w hO;refine(e w hO).mono ?_;rintro _ w' ⟨u,H',he,hO',⟨⟨d,cs⟩,⟨h4,h1,h2,h3,rfl⟩,rfl⟩|⟨h4,rfl,rfl⟩⟩
 ·exact⟨_,_,he,hO',d,cs,0,rfl, .inl ⟨rfl,h4,h1,h2,h3⟩,rfl⟩
 ·exact⟨_,_,he,hO', .nil,[],2,rfl, .inr ⟨rfl,rfl⟩,rfl⟩
abbrev EvU (l0:List Hd) (H:List (Nat × Obj)):Value→List (Nat × Obj)→Prop:=fun u H'=>∃ (d:Sl) (l:List Hd) (e:Int),u= .tuple #[slV d l.length, .int .i64 e]∧((e=0∧l=l0∧l.length≤1000∧SlOk d l.length 10)∨(e=2∧l.length=0))∧H'=slH d (l.flatMap encHd) 30++H
theorem eval_u {w0:World}{H:List (Nat × Obj)}{D:Sd}{v:Sv}{ns:Ns}{h:Hd}{bs:List Nat}(hh:HdOk h)(hst:StOk D v ns)(hbs:BsOk bs)(hbe:D.bs=bs)(hS:(SM D v ns).Sublist H)(hB:Arr w0 H D.qb 1 encB1 bs)(a:Nat)(ha:a<ns.length):
  FSpec Tryz.prog w0 21 #[.pointer (some ⟨D.p,0,none⟩), .int .i64 (a:Nat), .agg (hdC h).toArray] H (EvU (evA' ns bs h a) H):=by
 subst hbe;have e:=eval_s hh hst hbs hS hB a ha;intro w hO;refine(e w hO).mono ?_;rintro _ w' ⟨u,H',he,hO',⟨d,⟨h1,h2,rfl⟩,rfl⟩|⟨h1,rfl,rfl⟩⟩
 ·exact⟨_,_,he,hO',d,_,0,rfl, .inl ⟨rfl,rfl,h1,h2⟩,rfl⟩
 ·exact⟨_,_,he,hO', .nil,[],2,rfl, .inr ⟨rfl,rfl⟩,rfl⟩
theorem rl_same {bs:List Nat}{ns:Ns}{a:Nat}{D:Hd→Hd→Prop}{cs:List Chm}{h:Hd}{l:List Hd}(hb:BsOk bs)(hw:Wf (2*bs.length) ns)(hh:HdOk h)(la:a<ns.length)(ra:Rep bs ns a D)(hD:∀ {h g},HdOk h→D h g→HdOk g∧Out bs h g)(hL:RlOk (rulesP ns bs a) D)(he:cs.map Chm.pl=rulesP ns bs a)(hu:l.Pairwise hLt)(hm:∀ x,x∈l↔Gvn cs h x):l=evA' ns bs h a:=
 sorted_eq hu (evA_up hb hw hh la) fun x=>by rw[hm,rl_gvn hL he hh,evA_mem hb hw hh la ra hD]
theorem hrules_s {w0:World}{H:List (Nat × Obj)}(fi:List Fi)(q:Option Addr)(n c:Nat)(hn:n=fi.length)(hA:Arr w0 H q 3 encFi fi)(hnm:∀ f∈fi,f.nm.size≤9223372036854775807)(m1:Pom)(hM1:PoM w0 H m1)(hm1:m1.sz≤1048576)(hz1:NmO m1)(vs:List Value)(hi:List Int)(hvs:vs=hwC hi)(hil:hi.length=10)(tick:Int):
  FSpec Tryz.prog w0 4 #[.slice q n c, .agg (encPo m1).toArray, .agg vs.toArray, .int .i64 tick] H (Still (.bool true) H):=by
 refine An Tryz.func4 U ntmps4 U ?_;have hvl:vs.length=10:=by rw[hvs,List.length_map];exact hil
 refine rD tb 2 U (e_ (Kw U cs_) ?_ U);rintro _ _ ⟨n5,rfl,rfl⟩;refine e_ (Kw U cs_) ?_ U;rintro _ _ ⟨n6,rfl,rfl⟩;refine rO tb 6 U (y_ (Ks U isAgg30 sizeOf30 hvl (by first|exact Av)) ?_ U);refine rO tb 1 U (e_ (Ar (qe3 U U U) call10 (lright_v fi q n c hn (hA.mono (by exact sbt)) hnm hi hvs hil tick)) ?_ U);rintro _ _ ⟨b0,⟨rfl,hr0⟩,rfl⟩;refine rO tb 7 U ?_
 first|refine Az (Bq (T U)) U Ae ?_|refine Az (B2 (T U)) U Ae ?_
 refine rO tb 2 U ?_
 first|refine Ac (Aa U) (fun c25=> ?_) (fun c25=> ?_)|refine Ag (Aa U) (fun c25=> ?_) (fun c25=> ?_)
 ·skip
  refine rC tb 2 U (y_ (Ak .nil call11 (fun H' hs=>Fb)) (rO tb 5 U (Ai U (Kq U) ?_)) U)
  first|exact⟨_,⟨congrArg Value.bool (decide_eq_true (by have hq:=congrArg List.length he5;rw[List.length_map] at hq;omega)),rfl⟩,(show H.Sublist (slH d6 (l7.flatMap encHd) 30++((slH d5 (cs5.flatMap encCh) 81++chM cs5)++(SM (NewD fl 200000 dx db p mp) v1 ns1++(slH db ((bsF fl).flatMap encB1) 3++(slH dx (fl.flatMap encF) 67++((n6,Cl (hdC h) 30)::(n5,Cl (encPo m1) 28)::H)))))) by exact sbt).trans hM7⟩|exact⟨_,⟨rfl,rfl⟩,by exact sbt⟩
 ·obtain⟨hfi,hhi,ht0,ht1⟩:=hr0 (by simpa using c25);obtain⟨fl,hfl,hlf,hAf⟩:=fis_fl hfi hA;obtain rfl:n=fl.length:=hn.trans hlf;obtain⟨h,hh,heh⟩:=hi_hd hil hhi;obtain rfl:vs=hdC h:=hvs.trans heh;refine rC tb 5 U (y_ (Ks U isAgg28 sizeOf28 U (by first|exact Av)) ?_ U);refine e_ (Ar (.cons (T U) (.cons (T U) (.cons Aj .nil))) call12 (right_s fl hfl q c (hAf.mono (by exact sbt)) (hM1.mono (by exact sbt)) qom hz1 20)) ?_ U;rintro _ _ ⟨b1,⟨rfl,hr1⟩,rfl⟩;refine rO tb 7 U ?_
  first|refine Az (Bq (T U)) U Ae ?_|refine Az (B2 (T U)) U Ae ?_
  refine rO tb 2 U ?_
  first|refine Ac (Aa U) (fun c31=> ?_) (fun c31=> ?_)|refine Ag (Aa U) (fun c31=> ?_) (fun c31=> ?_)
  ·skip
   refine rC tb 2 U (y_ (Ak .nil call11 (fun H' hs=>Fb)) (rO tb 5 U (Ai U (Kq U) ?_)) U)
   first|exact⟨_,⟨congrArg Value.bool (decide_eq_true (by have hq:=congrArg List.length he5;rw[List.length_map] at hq;omega)),rfl⟩,(show H.Sublist (slH d6 (l7.flatMap encHd) 30++((slH d5 (cs5.flatMap encCh) 81++chM cs5)++(SM (NewD fl 200000 dx db p mp) v1 ns1++(slH db ((bsF fl).flatMap encB1) 3++(slH dx (fl.flatMap encF) 67++((n6,Cl (hdC h) 30)::(n5,Cl (encPo m1) 28)::H)))))) by exact sbt).trans hM7⟩|exact⟨_,⟨rfl,rfl⟩,by exact sbt⟩
  ·have hb1:b1=true:=by simpa using c31
   obtain⟨p1,hI1,hF1⟩:=fm_isO hfl (hr1 hb1).2.1 (hr1 hb1).2.2;refine rC tb 5 U (e_ (Ar (.cons (T U) (.cons Aj .nil)) call13 (new_s fl hfl q c (hAf.mono (by exact sbt)) 200000 qom)) ?_ U);rintro _ _ ⟨⟨dx,db,p,mp,v⟩,⟨rfl,hdx,hdb,hst⟩,rfl⟩
   dsimp only at hdx hdb hst
   refine rO tb 6 U (y_ (Ks U isAgg28 sizeOf28 U (by first|exact Av)) ?_ U);refine rO tb 1 U (e_ (Ar (qe3 U U U) call14 (Hn (R:=(slH db ((bsF fl).flatMap encB1) 3++(slH dx (fl.flatMap encF) 67++((n6,Cl (hdC h) 30)::(n5,Cl (encPo m1) 28)::H)))) hst ((en_new (w0:=w0) (H:=((n6,Cl (hdC h) 30)::(n5,Cl (encPo m1) 28)::H)) hfl hdx hdb 200000 p mp).mono (List.Sublist.refl _)) m1 p1 hI1 hF1 (hM1.mono (by exact sbt)) tick)) ?_ U);rintro _ _ ⟨⟨id1,e1,v1,ns1⟩,⟨rfl,hc1,hst1⟩,rfl⟩
   dsimp only at hc1 hst1
   refine kO tb 14 [6,11,12,43] rfl U ?_
   first|refine Ac (Aa U) (fun c43=> ?_) (fun c43=> ?_)|refine Ag (Aa U) (fun c43=> ?_) (fun c43=> ?_)
   ·skip
    refine rC tb 2 U (y_ (Ak .nil call11 (fun H' hs=>Fb)) (rO tb 5 U (Ai U (Kq U) ?_)) U)
    first|exact⟨_,⟨congrArg Value.bool (decide_eq_true (by have hq:=congrArg List.length he5;rw[List.length_map] at hq;omega)),rfl⟩,(show H.Sublist (slH d6 (l7.flatMap encHd) 30++((slH d5 (cs5.flatMap encCh) 81++chM cs5)++(SM (NewD fl 200000 dx db p mp) v1 ns1++(slH db ((bsF fl).flatMap encB1) 3++(slH dx (fl.flatMap encF) 67++((n6,Cl (hdC h) 30)::(n5,Cl (encPo m1) 28)::H)))))) by exact sbt).trans hM7⟩|exact⟨_,⟨rfl,rfl⟩,by exact sbt⟩
   ·have f1:=try_ok hc1 (Classical.not_not.1 c43);have hbok:=H8 hfl;obtain⟨g1,l1,r1⟩:=Cq hbok tick _ p1 hF1 (Kp _) f1;have hbits:=((en_new (w0:=w0) (H:=((n6,Cl (hdC h) 30)::(n5,Cl (encPo m1) 28)::H)) hfl hdx hdb 200000 p mp).mono (List.Sublist.refl _)).bits;refine rC tb 6 U (e_ (Ar (qe2 U U) call20 (rules_u (D:=(NewD fl 200000 dx db p mp)) hst1 hbok U (List.sublist_append_left _ _) (hbits.mono (List.sublist_append_right _ _)) (pol_bdd hfl hI1 hF1 (hr1 hb1).1 g1.w r1) id1 l1 (fun h0=>ps_0 l1 h0))) ?_ U);rintro _ _ ⟨d5,cs5,e5,rfl,hR5,rfl⟩;refine rO tb 14 U ?_
    first|refine Ac (Aa U) (fun c52=> ?_) (fun c52=> ?_)|refine Ag (Aa U) (fun c52=> ?_) (fun c52=> ?_)
    ·obtain⟨he5,hn5⟩:e5=2∧cs5.length=0:=hR5.resolve_left fun h=>c52 h.1
     refine rC tb 2 U (y_ (Ak .nil call11 (fun H' hs=>Fb)) (rO tb 2 U (Az (Ge (T U) Aj he5) U (A3 U U (Aa U)) (rO tb 4 U (Az (Ge (T U) Aj qom) U (A3 U U (Aa U)) ?_)))) U);refine rO tb 6 U (Ai U (Kq U) ?_)
     first|exact⟨_,⟨congrArg Value.bool (decide_eq_true (by have hq:=congrArg List.length he5;rw[List.length_map] at hq;omega)),rfl⟩,(show H.Sublist (slH d6 (l7.flatMap encHd) 30++((slH d5 (cs5.flatMap encCh) 81++chM cs5)++(SM (NewD fl 200000 dx db p mp) v1 ns1++(slH db ((bsF fl).flatMap encB1) 3++(slH dx (fl.flatMap encF) 67++((n6,Cl (hdC h) 30)::(n5,Cl (encPo m1) 28)::H)))))) by exact sbt).trans hM7⟩|exact⟨_,⟨rfl,rfl⟩,by exact sbt⟩
    ·obtain⟨-,h4,he5,hd5,hc5⟩:=hR5.resolve_right fun h=>c52 (by rw[h.1];decide)
     have hRl:=rules_ok hbok g1.w l1 r1 (fun h1 h2=>C3 hF1 h1 h2);have hfew:=mods_few hfl hI1 hF1 (hr1 hb1).1 hRl;refine rC tb 6 U ?_;refine y_ (Ks U isAgg30 sizeOf30 (Aw hh) (by first|exact Ah fdd|exact Av)) ?_ U;refine e_ (Ar (qe3 U U U) call21 (eval_u (D:=(NewD fl 200000 dx db p mp)) hh hst1 hbok U ((List.sublist_append_left _ _).trans (List.sublist_append_right _ _)) (hbits.mono ((List.sublist_append_right _ _).trans (List.sublist_append_right _ _))) id1 l1)) ?_ U;rintro _ _ ⟨d6,l6,e6,rfl,hR6,rfl⟩;refine rO tb 14 U ?_
     first|refine Ac (Aa U) (fun c71=> ?_) (fun c71=> ?_)|refine Ag (Aa U) (fun c71=> ?_) (fun c71=> ?_)
     ·skip
      refine rC tb 2 U (y_ (Ak .nil call11 (fun H' hs=>Fb)) (rO tb 5 U (Ai U (Kq U) ?_)) U)
      first|exact⟨_,⟨congrArg Value.bool (decide_eq_true (by have hq:=congrArg List.length he5;rw[List.length_map] at hq;omega)),rfl⟩,(show H.Sublist (slH d6 (l7.flatMap encHd) 30++((slH d5 (cs5.flatMap encCh) 81++chM cs5)++(SM (NewD fl 200000 dx db p mp) v1 ns1++(slH db ((bsF fl).flatMap encB1) 3++(slH dx (fl.flatMap encF) 67++((n6,Cl (hdC h) 30)::(n5,Cl (encPo m1) 28)::H)))))) by exact sbt).trans hM7⟩|exact⟨_,⟨rfl,rfl⟩,by exact sbt⟩
     ·obtain⟨-,hl6,hn6,hd6⟩:=hR6.resolve_right fun h=>c71 (by rw[h.1];decide)
      refine rC tb 5 U ?_;refine y_ (Ks U isAgg30 sizeOf30 (Aw hh) (by first|exact Ah fdd|exact Av)) ?_ U;refine e_ (Ar (qe2 U U) call22 (given_s cs5 (slQ d5) (slC d5) ((rl_cs (w0:=w0) (H:=(SM (NewD fl 200000 dx db p mp) v1 ns1++(slH db ((bsF fl).flatMap encB1) 3++(slH dx (fl.flatMap encF) 67++((n6,Cl (hdC h) 30)::(n5,Cl (encPo m1) 28)::H))))) hRl hfew h4 he5 hd5 hc5).mono (List.sublist_append_right _ _)) h hh (rl_one hRl he5 h) (fun c hc hm=>hRl.nd h _ (Ig he5 hc) hm))) ?_ U;rintro _ M7 ⟨l7,q7,c7,rfl,hL7,hu7,hm7,hM7⟩;obtain rfl:l7=l6:=(rl_same hbok g1.w hh l1 r1 (fun h1 h2=>C3 hF1 h1 h2) hRl he5 hu7 hm7).trans hl6.symm;refine kO tb 7 [14,16,18,19] rfl U (rG tb 2 U (y_ (Ak .nil call11 (fun H' hs=>Fb)) (rO tb 6 U (Az (Ak (qe2 U U) call19 (fun H' hs=>same_t l7 q7 (slQ d6) c7 (slC d6) (hL7.mono hs) (((hs_sl (X:=((slH d5 (cs5.flatMap encCh) 81++chM cs5)++(SM (NewD fl 200000 dx db p mp) v1 ns1++(slH db ((bsF fl).flatMap encB1) 3++(slH dx (fl.flatMap encF) 67++((n6,Cl (hdC h) 30)::(n5,Cl (encPo m1) 28)::H)))))) hd6 hL7.2.1).mono hM7).mono hs) qom)) U (A3 U U (Aa U)) ?_)) U));refine rO tb 3 U (Az (Ak (qe1 U) call23 (fun H' hs=>choices_s cs5 (slQ d5) (slC d5) ((((rl_cs (w0:=w0) (H:=(SM (NewD fl 200000 dx db p mp) v1 ns1++(slH db ((bsF fl).flatMap encB1) 3++(slH dx (fl.flatMap encF) 67++((n6,Cl (hdC h) 30)::(n5,Cl (encPo m1) 28)::H))))) hRl hfew h4 he5 hd5 hc5).mono (List.sublist_append_right _ _)).mono hM7).mono hs) (fun c hc=>hRl.ne _ (Ig he5 hc)) (fun c hc=>hRl.srt _ (Ig he5 hc)))) U (A3 U U (Aa U)) (rO tb 10 U (Ai U (Kq U) ?_)))
      first|exact⟨_,⟨congrArg Value.bool (decide_eq_true (by have hq:=congrArg List.length he5;rw[List.length_map] at hq;omega)),rfl⟩,(show H.Sublist (slH d6 (l7.flatMap encHd) 30++((slH d5 (cs5.flatMap encCh) 81++chM cs5)++(SM (NewD fl 200000 dx db p mp) v1 ns1++(slH db ((bsF fl).flatMap encB1) 3++(slH dx (fl.flatMap encF) 67++((n6,Cl (hdC h) 30)::(n5,Cl (encPo m1) 28)::H)))))) by exact sbt).trans hM7⟩|exact⟨_,⟨rfl,rfl⟩,by exact sbt⟩
end Go.Proofs.YtkojjapnfdlddaaGreat
namespace Go.Proofs.YtkojjapnfdlddaaGreat
open _root_.Go.Proofs.Tryz
open Go.ChangeShapes Go.WideShapes Go.ChangeAt Go.RowKit Go.Joins Go.Deep
set_option linter.unusedVariables false
set_option linter.unusedSimpArgs false
set_option linter.unusedSectionVars false
set_option maxRecDepth 100000
theorem below_cell {W w:World}{p:Addr}{v:Value}(hb:Below W.heap.size W w)(h:W.cell? p=some v):w.cell? p=some v:=by
 have hlt:=World.block_lt_of_cell? _ _ h;have:=hb.block p.block hlt;unfold World.cell? at h ⊢;rw[this];exact h
theorem cell_arg {W:World}{p:Addr}{v:Value}(h:W.cell? p=some v):Cell W [] p v:=fun w hO=>below_cell hO.below h
theorem D6 {H:Type}(d:DataW H):1≤Rows.uptoBulk d:=by
 cases d with
 |lit l=>cases l<;>simp[Rows.uptoBulk]
 |nil=>simp[Rows.uptoBulk]
 |ptr d=>simp[Rows.uptoBulk]
 |slice elems spare=>simp[Rows.uptoBulk]
 |agg parts=>simp[Rows.uptoBulk]
 |iface t d=>simp[Rows.uptoBulk]
 |map entries=>simp[Rows.uptoBulk]
 |held h=>simp[Rows.uptoBulk]
theorem blk_sum {H:Type}{f:Nat→Nat}{D:Nat→DataW H}:∀ (l:List Nat),(∀ i∈l,f i≤Rows.uptoBulk (D i))→(l.map f).sum≤Rows.uptoBulkAll (l.map D)
 |[],_=>Nat.le_refl _
 |x::l,h=>by
  have h1:=h x (by simp);have h2:=blk_sum l fun i hi=>h i (by simp[hi])
  simp only[List.map_cons,List.sum_cons,Rows.uptoBulkAll];omega
theorem blk_mem {H:Type}{D:Nat→DataW H}:∀ {l:List Nat} {i:Nat},i∈l→Rows.uptoBulk (D i)≤Rows.uptoBulkAll (l.map D)
 |x::l,i,h=>by
  simp only[List.map_cons,Rows.uptoBulkAll];rcases List.mem_cons.1 h with rfl|h
  ·exact Nat.le_add_right _ _
  ·have:=blk_mem (D:=D) h;omega
section
variable {H:Type} {enc:TypeId × Value→H} {P:Program} {W:World} {b0:Nat} {sp1:Nat→Bool} {held:Bool}
theorem open_arr {α:Type}{t e sz fuel:Nat}{cs:List Value}{x:DataW H × List MemPlace}{el:α→List Value}{φ:α→Prop}{szf:α→Nat}(ht:P.underlying t=some (.slice e))(hc:P.cellsOf e=sz)(hsz:0<sz)
  (hel:∀ n cs y,Rows.uptoBulk y.1<Rows.uptoBulk x.1→DataW.trod enc P W b0 sp1 held n e cs=some y→∃ u:α,cs=el u∧φ u∧szf u≤Rows.uptoBulk y.1) (h:DataW.trod enc P W b0 sp1 held fuel t cs=some x):
  ∃ (q:Option Addr) (l:List α) (cap:Nat),cs=[.slice q l.length cap]∧Arr W [] q sz el l∧l.length≤cap∧l.length≤9223372036854775807∧(∀ u∈l,φ u)∧(l.map szf).sum+1≤Rows.uptoBulk x.1:=by
 rcases open_slice ht h with ⟨rfl,rfl⟩|⟨a,len,cap,m,n,D,Pl,rfl,hb,hl,hm,hmm,rfl,hx⟩
 ·exact⟨none,[],0,rfl,fun i u hi=>by simp at hi,by simp,by simp,by simp,by simp[Rows.uptoBulk]⟩
 have hlm:len≤m:=by rw[hmm];split<;>omega
 have hlen:len≤9223372036854775807:=by unfold maxLen at hm;omega
 cases len with
 |zero=>exact⟨some a,[],cap,rfl,fun i u hi=>by simp at hi,by simp,by simp,by simp,by simp[Rows.uptoBulk]⟩
 |succ k=>
  have hbk:Rows.uptoBulkAll ((List.range (k+1)).map D)+1≤Rows.uptoBulk (DataW.slice ((List.range (k+1)).map D) ((List.range (m - (k+1))).map fun j=>D (k+1+j))):=by
   simp only[Rows.uptoBulk];omega
  have each:∀ i,i<k+1→∃ u:α,W.cells? b0 (a.add (i*sz)) sz=some (el u)∧φ u∧szf u≤Rows.uptoBulk (D i):=fun i hi=>by
   obtain⟨cs',h1,h2⟩:=hx i qom;rw[hc] at h1;have h3:=blk_mem (D:=D) (List.mem_range.2 hi);obtain⟨u,rfl,hu⟩:=hel _ _ _ (by simp only[];omega) h2;exact⟨u,h1,hu⟩
  obtain⟨u0,h00,hu0⟩:=each 0 qom
  letI:Inhabited α:=⟨u0⟩
  obtain⟨f,hf⟩:=choose_lt each;refine⟨some a,(List.range (k+1)).map f,cap,by simp,fun i u hi=> ?_,by simpa using hl,by simpa using hlen,fun u hu=> ?_,?_⟩
  ·have hik:i<k+1:=by have:=(List.getElem?_eq_some_iff.1 hi).1;simpa using this
   have hfu:f i=u:=by simpa[hik] using hi
   obtain⟨sb,so,spot⟩:=a;obtain⟨_,hl0,hc0⟩:=World.cells?_some h00;have hspot:spot=none:=by
    have h6:=(hc0 0 hsz).trans (List.getElem?_eq_getElem qom)
    simpa[Addr.add] using World.cell?_spot h6
   subst hspot;refine⟨rfl,fun j v hj=>cell_arg ?_⟩;obtain⟨_,hl1,hc1⟩:=World.cells?_some (hf i hik).1;rw[hfu] at hl1 hc1;have hjl:=(List.getElem?_eq_some_iff.1 hj).1;have h5:=hc1 j qom;rw[add_add,add_plain] at h5;have h6:=h5.trans hj;rw[← Nat.add_assoc] at h6;exact h6
  ·obtain⟨i,hi,rfl⟩:=List.mem_map.1 hu;exact(hf i (List.mem_range.1 hi)).2.1
  ·have:=blk_sum (f:=fun i=>szf (f i)) (D:=D) (List.range (k+1)) fun i hi=>(hf i (List.mem_range.1 hi)).2.2
   rw[List.map_map];have e:(szf ∘ f)=fun i=>szf (f i):=rfl
   rw[e];simp only[] at hbk ⊢;omega
end
theorem cells3:Tryz.prog.cellsOf 3=1:=by kernel_rfl
theorem cells9:Tryz.prog.cellsOf 9=1:=by kernel_rfl
theorem cells67:Tryz.prog.cellsOf 67=3:=by kernel_rfl
theorem cells25:Tryz.prog.cellsOf 25=5:=by kernel_rfl
theorem cells23:Tryz.prog.cellsOf 23=1:=by kernel_rfl
theorem cells28:Tryz.prog.cellsOf 28=9:=by kernel_rfl
theorem cells26:Tryz.prog.cellsOf 26=1:=by kernel_rfl
theorem own_knob:ownKnob Tryz.prog.godebug=none:=by kernel_rfl
theorem i64_bd {n:Int}(h:(Lit.int .i64 n).wf=true): -9223372036854775808≤n∧n≤9223372036854775807:=by
 have:=bounds_i64 h;exact this
theorem szPL_sum:∀ l:List Pdm,szPL l=(l.map Pdm.sz).sum
 |[]=>by simp[szPL]
 |x::l=>by simp only[szPL,List.map_cons,List.sum_cons,szPL_sum l]
theorem szOL_sum:∀ l:List Pom,szOL l=(l.map Pom.sz).sum
 |[]=>by simp[szOL]
 |x::l=>by simp only[szOL,List.map_cons,List.sum_cons,szOL_sum l]
theorem prtPL_in {l:List Pdm}{a:Pdm}(h:a∈prtPL l):∃ x∈l,a∈prtP x:=by
 induction l with
 |nil=>simp[prtPL] at h
 |cons x l ih=>
  rw[prtPL] at h;rcases List.mem_append.1 h with h|h
  ·exact⟨x,by simp,h⟩
  ·obtain⟨y,h1,h2⟩:=ih h;exact⟨y,by simp[h1],h2⟩
theorem prtOL_in {l:List Pom}{a:Pom}(h:a∈prtOL l):∃ x∈l,a∈prtO x:=by
 induction l with
 |nil=>simp[prtOL] at h
 |cons x l ih=>
  rw[prtOL] at h;rcases List.mem_append.1 h with h|h
  ·exact⟨x,by simp,h⟩
  ·obtain⟨y,h1,h2⟩:=ih h;exact⟨y,by simp[h1],h2⟩
section
variable {H:Type} {enc:TypeId × Value→H} {W:World} {b0 n:Nat} {sp1:Nat→Bool} {held:Bool} {y:DataW H × List MemPlace} {cs:List Value}
abbrev encSv (s:ByteArray):List Value:=[.string s]
theorem Gf {c:Value}(h:DataW.trod enc Tryz.prog W b0 sp1 held n 3 [c]=some y):∃ a:Int,c= .int .i64 a∧(-9223372036854775808≤a∧a≤9223372036854775807):=by
 obtain⟨a,e0,_,wa⟩:=DataW.trod_int underlying3 h;simp at e0;exact⟨a,e0,i64_bd wa⟩
theorem rd_str (h:DataW.trod enc Tryz.prog W b0 sp1 held n 9 cs=some y):∃ u:ByteArray,cs=encSv u∧u.size≤9223372036854775807:=by
 obtain⟨s,e0,_,ws⟩:=DataW.trod_string underlying9 h;exact⟨s,e0,by unfold maxLen at ws;omega⟩
theorem rd_fi (h:DataW.trod enc Tryz.prog W b0 sp1 held n 67 cs=some y):∃ u:Fi,cs=encFi u∧u.nm.size≤9223372036854775807:=by
 obtain⟨xs,m,rfl,rfl,hlen,hxl,hall⟩:=DataW.trod_struct underlying67 h;rw[cells67] at hlen
 match xs,hxl,cs,hlen with
 |[x0,x1,x2],_,[c0,c1,c2],_=>
  have f0:DataW.trod enc Tryz.prog W b0 sp1 held m 9 [c0]=some x0:=by have:=hall 0 _ rfl;simpa[cells9] using this
  have f1:DataW.trod enc Tryz.prog W b0 sp1 held m 3 [c1]=some x1:=by have:=hall 1 _ rfl;simpa[cells9,cells3] using this
  have f2:DataW.trod enc Tryz.prog W b0 sp1 held m 3 [c2]=some x2:=by have:=hall 2 _ rfl;simpa[cells9,cells3] using this
  obtain⟨s,e1,hs⟩:=rd_str f0;obtain⟨a,rfl,_⟩:=Gf f1;obtain⟨b,rfl,_⟩:=Gf f2;simp at e1;exact⟨⟨s,a,b⟩,by rw[e1],hs⟩
theorem rd_pd:∀ (N:Nat) {n:Nat} {y:DataW H × List MemPlace} {cs:List Value},Rows.uptoBulk y.1≤N→DataW.trod enc Tryz.prog W b0 sp1 held n 25 cs=some y→∃ u:Pdm,cs=encPd u∧(PdM W [] u∧NmP u)∧u.sz≤Rows.uptoBulk y.1
 |0,n,y,cs,hN,_=>by have:=D6 y.1;omega
 |N+1,n,y,cs,hN,h=>by
  obtain⟨xs,m,rfl,rfl,hlen,hxl,hall⟩:=DataW.trod_struct underlying25 h;rw[cells25] at hlen
  match xs,hxl,cs,hlen with
  |[x0,x1,x2,x3,x4],_,[c0,c1,c2,c3,c4],_=>
   have f0:DataW.trod enc Tryz.prog W b0 sp1 held m 3 [c0]=some x0:=by have:=hall 0 _ rfl;simpa[cells3] using this
   have f1:DataW.trod enc Tryz.prog W b0 sp1 held m 9 [c1]=some x1:=by have:=hall 1 _ rfl;simpa[cells3,cells9] using this
   have f2:DataW.trod enc Tryz.prog W b0 sp1 held m 3 [c2]=some x2:=by have:=hall 2 _ rfl;simpa[cells3,cells9] using this
   have f3:DataW.trod enc Tryz.prog W b0 sp1 held m 3 [c3]=some x3:=by have:=hall 3 _ rfl;simpa[cells3,cells9] using this
   have f4:DataW.trod enc Tryz.prog W b0 sp1 held m 23 [c4]=some x4:=by have:=hall 4 _ rfl;simpa[cells3,cells9,cells23] using this
   have hb:Rows.uptoBulk x4.1+4≤Rows.uptoBulk (DataW.agg (H:=H) ([x0,x1,x2,x3,x4].map (·.1))):=by
    have:=D6 x0.1;have:=D6 x1.1;have:=D6 x2.1;have:=D6 x3.1;simp only[Rows.uptoBulk,Rows.uptoBulkAll,List.map_cons,List.map_nil] at *;omega
   have hN':Rows.uptoBulk (DataW.agg (H:=H) ([x0,x1,x2,x3,x4].map (·.1)))≤N+1:=hN;obtain⟨k,rfl,_⟩:=Gf f0;obtain⟨s,e1,hs⟩:=rd_str f1;obtain⟨a,rfl,_⟩:=Gf f2;obtain⟨b,rfl,_⟩:=Gf f3;obtain⟨q,l,cap,e2,ha,hc,hl,hf,hsum⟩:=open_arr (el:=encPd) (φ:=fun u=>PdM W [] u∧NmP u) (szf:=Pdm.sz) underlying23 cells25 qom (fun n cs y hy h=>rd_pd N qom h) f4;simp at e1 e2;refine⟨.mk k s a b q cap l,by rw[e1,e2];rfl,⟨.mk ha fun a h=>(hf a h).1,fun a ha=> ?_⟩,?_⟩
   ·rw[Gn] at ha;rcases List.mem_cons.1 ha with rfl|ha
    ·exact hs
    ·obtain⟨x,hx,hax⟩:=prtPL_in ha;exact(hf x hx).2 a hax
   rw[Ij,show (Pdm.mk k s a b q cap l).subs=l from rfl,szPL_sum];exact Nat.le_trans (by omega:(l.map Pdm.sz).sum+1≤Rows.uptoBulk x4.1+4) hb
theorem rd_po:∀ (N:Nat) {n:Nat} {y:DataW H × List MemPlace} {cs:List Value},Rows.uptoBulk y.1≤N→DataW.trod enc Tryz.prog W b0 sp1 held n 28 cs=some y→∃ u:Pom,cs=encPo u∧(PoM W [] u∧NmO u)∧u.sz≤Rows.uptoBulk y.1
 |0,n,y,cs,hN,_=>by have:=D6 y.1;omega
 |N+1,n,y,cs,hN,h=>by
  obtain⟨xs,m,rfl,rfl,hlen,hxl,hall⟩:=DataW.trod_struct underlying28 h;rw[cells28] at hlen
  match xs,hxl,cs,hlen with
  |[x0,x1,x2,x3,x4],_,[c0,c1,c2,c3,c4,c5,c6,c7,c8],_=>
   have f0:DataW.trod enc Tryz.prog W b0 sp1 held m 3 [c0]=some x0:=by have:=hall 0 _ rfl;simpa[cells3] using this
   have f1:DataW.trod enc Tryz.prog W b0 sp1 held m 25 [c1,c2,c3,c4,c5]=some x1:=by have:=hall 1 _ rfl;simpa[cells3,cells25] using this
   have f2:DataW.trod enc Tryz.prog W b0 sp1 held m 9 [c6]=some x2:=by have:=hall 2 _ rfl;simpa[cells3,cells25,cells9] using this
   have f3:DataW.trod enc Tryz.prog W b0 sp1 held m 3 [c7]=some x3:=by have:=hall 3 _ rfl;simpa[cells3,cells25,cells9] using this
   have f4:DataW.trod enc Tryz.prog W b0 sp1 held m 26 [c8]=some x4:=by have:=hall 4 _ rfl;simpa[cells3,cells25,cells9,cells26] using this
   have hb:Rows.uptoBulk x4.1+Rows.uptoBulk x1.1+3≤Rows.uptoBulk (DataW.agg (H:=H) ([x0,x1,x2,x3,x4].map (·.1))):=by
    have:=D6 x0.1;have:=D6 x2.1;have:=D6 x3.1;simp only[Rows.uptoBulk,Rows.uptoBulkAll,List.map_cons,List.map_nil] at *;omega
   have hN':Rows.uptoBulk (DataW.agg (H:=H) ([x0,x1,x2,x3,x4].map (·.1)))≤N+1:=hN;obtain⟨k,rfl,_⟩:=Gf f0;obtain⟨pm,ep,⟨hp1,hp2⟩,hpz⟩:=rd_pd _ (Nat.le_refl _) f1;obtain⟨s,e1,hs⟩:=rd_str f2;obtain⟨a,rfl,_⟩:=Gf f3;obtain⟨q,l,cap,e2,ha,hc,hl,hf,hsum⟩:=open_arr (el:=encPo) (φ:=fun u=>PoM W [] u∧NmO u) (szf:=Pom.sz) underlying26 cells28 qom (fun n cs y hy h=>rd_po N qom h) f4;simp only[List.cons.injEq,and_true] at e1 e2;refine⟨.mk k pm s a q cap l,?_,⟨.mk hp1 ha fun a h=>(hf a h).1,fun a ha=> ?_⟩,?_⟩
   ·rw[e1,e2];show Value.int .i64 k::([c1,c2,c3,c4,c5]++[.string s, .int .i64 a, .slice q l.length cap])=_;rw[ep];rfl
   ·rw[Gp] at ha;rcases List.mem_cons.1 ha with rfl|ha
    ·exact⟨hs,hp2⟩
    ·obtain⟨x,hx,hax⟩:=prtOL_in ha;exact(hf x hx).2 a hax
   rw[Ew,show (Pom.mk k pm s a q cap l).subs=l from rfl,show (Pom.mk k pm s a q cap l).pr=pm from rfl,szOL_sum];exact Nat.le_trans (by omega:(l.map Pom.sz).sum+pm.sz+1≤Rows.uptoBulk x4.1+Rows.uptoBulk x1.1+3) hb
theorem open_po {base:Nat}{r:_root_.Go.Reach}{v:Value}{d:DataW H}{p:List MemPlace}(hv:Value.okWide Tryz.prog W r base 28 v)(h:DataW.Trod enc Tryz.prog W b0 sp1 held 28 v d p):∃ u:Pom,v= .agg (encPo u).toArray∧PoM W [] u∧NmO u∧u.sz≤Rows.uptoBulk d:=by
 obtain⟨cs,rfl,hsz⟩:=okWide_struct underlying28 hv;obtain⟨fuel,hf⟩:=h;obtain⟨l⟩:=cs;obtain⟨u,e,⟨h1,h2⟩,hu⟩:=rd_po _ (Nat.le_refl _) hf;simp only[Value.cells] at e;exact⟨u,by rw[← e],h1,h2,hu⟩
theorem open_fis {base:Nat}{r:_root_.Go.Reach}{v:Value}{d:DataW H}{p:List MemPlace}(hv:Value.okWide Tryz.prog W r base 22 v)(h:DataW.Trod enc Tryz.prog W b0 sp1 held 22 v d p):∃ (q:Option Addr) (l:List Fi) (cap:Nat),v= .slice q l.length cap∧Arr W [] q 3 encFi l∧∀ f∈l,f.nm.size≤9223372036854775807:=by
 obtain⟨a0,len0,cap0,rfl⟩:=okWide_slice underlying22 hv;obtain⟨fuel,hf⟩:=h;obtain⟨q,l,cap,e,a,c,b,f,_⟩:=open_arr (el:=encFi) (φ:=fun u=>u.nm.size≤9223372036854775807) (szf:=fun _=>0) underlying22 cells67 qom (fun n cs y _ h=>by obtain⟨u,h1,h2⟩:=rd_fi h;exact⟨u,h1,h2,Nat.zero_le _⟩) hf;simp only[Value.cells,List.cons.injEq,and_true] at e;exact⟨q,l,cap,e,a,f⟩
end
end Go.Proofs.YtkojjapnfdlddaaGreat
namespace Go.Proofs.YtkojjapnfdlddaaGreat
open _root_.Go.Proofs.Tryz
open Go.ChangeShapes Go.WideShapes Go.ChangeAt Go.RowKit Go.Joins
set_option linter.unusedVariables false
set_option linter.unusedSimpArgs false
set_option linter.unusedSectionVars false
set_option maxRecDepth 100000
section
variable {H:Type} {enc:TypeId × Value→H} {W:World}
theorem laid_out:laidOutB Tryz.prog=true:=by kernel_rfl
theorem trodAll_stays:∀ {ts:List TypeId} {vs:List Value} {ds:List (DataW H)} {ps:List MemPlace} {W':World},(∀ t∈ts,Tryz.prog.readableRec t=true∧t<Tryz.prog.types.size)→DataW.TrodAll enc Tryz.prog W 0 (fun _=>true) true ts vs ds ps→Below W.heap.size W W'→(∀ x∈ps,x.block<W.heap.size)→
  DataW.TrodAll enc Tryz.prog W' 0 (fun b=>decide (b<W.heap.size)) true ts vs ds ps
 |[],_,_,_,_,_,h,_,_=>by obtain⟨rfl,rfl,rfl⟩:=trodAll_nil h;exact trodAll_mk0
 |t::ts,_,_,_,_,hr,h,hb,hlt=>by
  obtain⟨v,vs,d,ds,p,q,rfl,rfl,rfl,h0,r0⟩:=trodAll_cons h;exact trodAll_cons_mk (Below.trod laid_out (hr t (by simp)).1 (hr t (by simp)).2 h0 hb (fun x hx=>hlt x (by simp[hx]))) (trodAll_stays (fun t ht=>hr t (by simp[ht])) r0 hb (fun x hx=>hlt x (by simp[hx])))
end
theorem calls_true {f:FuncId}{args:Array Value}{W:World}(h:FSpec Tryz.prog W f args [] (Still (.bool true) [])):Calls Tryz.prog f args W fun e W'=>e= .returned (.bool true)∧Below W.heap.size W W':=
 (h W (Own.start W)).mono fun e W' ⟨v,H',he,hO,hv,_⟩=>⟨by rw[he,hv],hO.below⟩
noncomputable def laidWorld (os:Os):World:=World.holding Tryz.prog os ⟨#[],#[],[]⟩
end Go.Proofs.YtkojjapnfdlddaaGreat
namespace Go.Proofs.YtkojjapnfdlddaaGreat
open _root_.Go.Proofs.Tryz
open Go.ChangeShapes Go.WideShapes Go.ChangeAt Go.RowKit Go.Joins Go.Deep
set_option linter.unusedVariables false
set_option linter.unusedSimpArgs false
set_option linter.unusedSectionVars false
set_option maxRecDepth 100000
theorem cells30:Tryz.prog.cellsOf 30=10:=by kernel_rfl
theorem und30:Tryz.prog.underlying 30=some (.array 10 3):=by kernel_rfl
section
variable {H:Type} {enc:TypeId × Value→H} {W:World} {b0 n:Nat} {sp1:Nat→Bool} {held:Bool} {y:DataW H × List MemPlace} {cs:List Value}
theorem open_hd {base:Nat}{r:_root_.Go.Reach}{v:Value}{d:DataW H}{p:List MemPlace}(hv:Value.okWide Tryz.prog W r base 30 v)(h:DataW.Trod enc Tryz.prog W b0 sp1 held 30 v d p):∃ (vs:List Value) (hi:List Int),v= .agg vs.toArray∧vs=hwC hi∧hi.length=10:=by
 simp only[Value.okWide,und30] at hv;obtain⟨cs,rfl,h2,_⟩:=hv;obtain⟨l⟩:=cs;obtain⟨fuel,hf⟩:=h;obtain⟨xs,m,rfl,hx,hlen,hxl,hall⟩:=DataW.trod_array und30 hf;simp only[Value.cells] at hlen hall;rw[cells30] at hlen;have each:∀ i,i<10→∃ a:Int,l[i]? =some (.int .i64 a):=fun i hi=>by
  have h3:=hall i hi;rw[cells3,Nat.mul_one,List.getElem?_eq_getElem (by omega:i<xs.length),List.drop_eq_getElem_cons (by omega:i<l.length)] at h3;obtain⟨a,e,_⟩:=Gf h3;exact⟨a,by rw[List.getElem?_eq_getElem (by omega:i<l.length),e]⟩
 obtain⟨f,hf2⟩:=choose_lt each;refine⟨l,(List.range 10).map f,rfl,?_,by simp⟩;refine List.ext_getElem? fun i=> ?_
 by_cases hi:i<10
 ·rw[hf2 i hi];simp[hi]
 ·rw[List.getElem?_eq_none qom,List.getElem?_eq_none (by simp;omega)]
end
end Go.Proofs.YtkojjapnfdlddaaGreat
