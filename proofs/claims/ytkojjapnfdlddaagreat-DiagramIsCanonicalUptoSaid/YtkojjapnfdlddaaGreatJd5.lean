/-
  A part of what LawD rests on: the logic, walks and plain laws. No condition.
-/
import Derived.Test.YtkojjapnfdlddaaGreatJd4
import Derived.Test.YtkojjapnfdlddaaGreatRows
import Derived.WalkKit
import Derived.ProofKit
import Derived.OpenShut
import Derived.Lib.SmallJoins
import Derived.Deep.SlicePairs
import Derived.Deep.DeepHandedRow
namespace Go.Proofs.YtkojjapnfdlddaaGreat
open _root_.Go.Proofs.Tryz
open Go.RowKit
set_option linter.unusedVariables false
set_option linter.unusedSimpArgs false
set_option linter.unusedSectionVars false
set_option maxRecDepth 100000
theorem cmp_at {a b:List Nat}{k:Nat}(h1:k<a.length)(h2:k<b.length)(h:cmpL a b=cmpL (a.drop k) (b.drop k)):(gd a k<gd b k→cmpL a b= -1)∧(gd b k<gd a k→cmpL a b=1)∧(gd a k=gd b k→cmpL a b=cmpL (a.drop (k+1)) (b.drop (k+1))):=by
 rw[h,cmpL_drop h1 h2];unfold cmpI;refine⟨fun e=> ?_,fun e=> ?_,fun e=> ?_⟩
 ·rw[if_pos (show ((gd a k:Nat):Int)<(gd b k:Nat) by omega)];rfl
 ·rw[if_neg (show ¬ ((gd a k:Nat):Int)<(gd b k:Nat) by omega),if_pos (show ((gd b k:Nat):Int)<(gd a k:Nat) by omega)];rfl
 ·rw[if_neg (show ¬ ((gd a k:Nat):Int)<(gd b k:Nat) by omega),if_neg (show ¬ ((gd b k:Nat):Int)<(gd a k:Nat) by omega)];rfl
theorem loc_nil {α:Type}{e:TypeId}{X:List (Nat × Obj)}{enc:α→List Value}:LocL X (slH .nil (([]:List α).flatMap enc) e) X (fun M'=>M'++X):=show LocL ([]++X) [] X (fun M'=>M'++X) from .h
abbrev HsA (w0:World) (H:List (Nat × Obj)) (l:List Hd) (q:Option Addr) (c:Nat):Prop:=Arr w0 H q 10 encHd l∧(∀ x∈l,HdOk x)∧l.length≤c
theorem HsA.mono {w0:World}{H H':List (Nat × Obj)}{l:List Hd}{q:Option Addr}{c:Nat}(h:HsA w0 H l q c)(hs:H.Sublist H'):HsA w0 H' l q c:=⟨h.1.mono hs,h.2⟩
theorem HsA.hd {w0:World}{H:List (Nat × Obj)}{l:List Hd}{q:Option Addr}{c:Nat}(h:HsA w0 H l q c):Arr w0 H q 10 hdC l:=arr_hd h.1 h.2.1
theorem HsA.ok {w0:World}{H:List (Nat × Obj)}{l:List Hd}{q:Option Addr}{c k:Nat}(h:HsA w0 H l q c)(hk:k<l.length):HdOk (gd l k):=h.2.1 _ (A8 hk)
theorem cmp18_s {w0:World}{H:List (Nat × Obj)}(a b:Hd)(ha:HdOk a)(hb:HdOk b):
  FSpec Tryz.prog w0 18 #[.agg (hdC a).toArray, .agg (hdC b).toArray] H (Still (.int .i64 (cmpL a b)) H):=by
 refine Ar Tryz.func18 U ntmps18 U ?_;have hla:=ha.len;have hlb:=hb.len;refine rD tb 2 U (e_ (Kk U cs_) ?_ U);rintro _ _ ⟨n2,rfl,rfl⟩;refine e_ (Kk U cs_) ?_ U;rintro _ _ ⟨n3,rfl,rfl⟩;refine rO tb 10 U ?_;refine Bf (X:=Nat) (V:=fun k=>[(5, .int .i64 (k:Nat))]) (C:=[(2,_),(3,_)]) (G:=fun k=>(n3,Cl (hdC b) 30)::(n2,Cl (hdC a) 30)::H) (φ:=fun k=>k≤10∧cmpL a b=cmpL (a.drop k) (b.drop k)) (μ:=fun k=>10 - k) (x0:=0) ?_ ⟨Aa U,Aa U,trivial⟩ ⟨atd,trivial⟩ sb0 ?_
 ·exact⟨Nat.zero_le _,rfl⟩
 rintro k ⟨hk,hd⟩;refine rD tb 7 U ?_
 first|refine Ac (Aa U) (fun c7=> ?_) (fun c7=> ?_)|refine Ag (Aa U) (fun c7=> ?_) (fun c7=> ?_)
 ·have hk2:k<10:=by have h9:((k:Nat):Int)<10:=c7;omega
  obtain⟨hl,hg,he⟩:=cmp_at qom qom hd;refine rC tb 6 U (Bi 7 [(0,true),(1,true),(2,true),(3,true),(4,true),(5,true),(6,true)] _ mixd qkr sb0 ?_ Bn);refine rP tb 1 U (o_y U (Bl (T U) (T U) runUnderlying30 sizeOf3 qom) ?_ U Ae);refine o_y U (Kg U isAgg3 (by first|exact c_o|exact Ct (Ah fdd) (show k<a.length by omega))) ?_ U Ae;refine rP tb 1 U (o_y U (Bl (T U) (T U) runUnderlying30 sizeOf3 qom) ?_ U Ae);refine o_y U (Kg U isAgg3 (by first|exact c_o|exact Ct (Ah fdd) (show k<b.length by omega))) ?_ U Ae;refine rP tb 1 U (A4 U (rO tb 2 U ?_))
  first|refine Ac (Aa U) (fun c16=> ?_) (fun c16=> ?_)|refine Ag (Aa U) (fun c16=> ?_) (fun c16=> ?_)
  ·refine rC tb 9 U (A5 (rX tb 2 U (Ai U (Kf U) ?_)));exact⟨_,⟨vint (hl qom).symm,rfl⟩,by exact sbt⟩
  ·refine rC tb 3 U (Bi 7 [(0,true),(1,true),(2,true),(3,true),(4,true),(5,true),(6,true)] _ mixd qkr sb0 ?_ Bn);refine rP tb 1 U (o_y U (Bl (T U) (T U) runUnderlying30 sizeOf3 qom) ?_ U Ae);refine o_y U (Kg U isAgg3 (by first|exact c_o|exact Ct (Ah fdd) (show k<a.length by omega))) ?_ U Ae;refine rP tb 1 U (o_y U (Bl (T U) (T U) runUnderlying30 sizeOf3 qom) ?_ U Ae);refine o_y U (Kg U isAgg3 (by first|exact c_o|exact Ct (Ah fdd) (show k<b.length by omega))) ?_ U Ae;refine rP tb 1 U (A4 U (rO tb 2 U ?_))
   first|refine Ac (Aa U) (fun c23=> ?_) (fun c23=> ?_)|refine Ag (Aa U) (fun c23=> ?_) (fun c23=> ?_)
   ·refine rC tb 8 U (A5 (rX tb 2 U (Ai U (Kf U) ?_)));exact⟨_,⟨vint (hg qom).symm,rfl⟩,by exact sbt⟩
   ·refine rC tb 5 U (y_ (Bc (T U) Ak qom) ?_ U);refine rO tb 2 U ?_;refine A3 (k+1) ?_ ?_ ⟨atd,trivial⟩ ⟨Aa U,Aa U,trivial⟩ ?_
    ·exact⟨hk2,he qom⟩
    ·first|omega|(simp only[];omega)
    ·exact sbt
 ·obtain rfl:k=10:=by have h9: ¬ ((k:Nat):Int)<10:=c7;omega
  refine rC tb 2 U (Av (rX tb 8 U (Ai U (Kf U) ?_)));exact⟨_,⟨vint (by rw[hd,List.drop_of_length_le qom,List.drop_of_length_le qom];rfl),rfl⟩,by exact sbt⟩
theorem rin_s {w0:World}{H:List (Nat × Obj)}(l:List Hd)(q:Option Addr)(c:Nat)(hA:HsA w0 H l q c)(h:Hd)(hh:HdOk h)(hlen:l.length≤1000000):
  FSpec Tryz.prog w0 143 #[.slice q l.length c, .agg (hdC h).toArray] H (Still (.bool (decide (h∈l))) H):=by
 refine Ar Tryz.func143 U ntmps143 U (rD tb 2 U (e_ (Kk U cs_) ?_ U));rintro _ _ ⟨n3,rfl,rfl⟩;refine rO tb 10 U ?_;refine Bf (X:=Nat) (V:=fun k=>[(5, .int .i64 (k:Nat))]) (C:=[(0,_),(3,_)]) (G:=fun k=>(n3,Cl (hdC h) 30)::H) (φ:=fun k=>k≤l.length∧∀ j,j<k→gd l j≠h) (μ:=fun k=>l.length - k) (x0:=0) ?_ ⟨Aa U,Aa U,trivial⟩ ⟨atd,trivial⟩ sb0 ?_
 ·exact⟨Nat.zero_le _,fun j hj=>absurd hj (Nat.not_lt_zero _)⟩
 rintro k ⟨hk,hn⟩;refine rD tb 9 U ?_
 first|refine Ac (Aa U) (fun c9=> ?_) (fun c9=> ?_)|refine Ag (Aa U) (fun c9=> ?_) (fun c9=> ?_)
 ·have hk2:k<l.length:=by have h9:((k:Nat):Int)<(l.length:Nat):=c9;omega
  refine rC tb 5 U (Bi 6 [(0,true),(1,true),(2,true),(3,true),(4,true),(5,true)] _ mixd qkr sb0 ?_ Bn);refine rP tb 2 U (o_y U (Ki U U runUnderlying42 sizeOf30 qom (by first|exact rfl|exact hA.1.b (i:=k) qom)) ?_ U Ae);refine o_y U (Kh U isAgg30 sizeOf30 (Au (hA.ok (k:=k) qom)) (by first|exact((hA.mono (by exact sbt)).hd).cs (i:=k) qom|exact As)) ?_ U Ae;refine o_y U (Kh U isAgg30 sizeOf30 (Au hh) (by first|exact As)) ?_ U Ae;refine o_y U (I9 (T U) (T U) qkr (eqHd (hA.ok (k:=k) qom) hh)) ?_ U Ae;refine A4 U (rO tb 2 U ?_)
  first|refine Ac (Aa U) (fun c17=> ?_) (fun c17=> ?_)|refine Ag (Aa U) (fun c17=> ?_) (fun c17=> ?_)
  ·refine rC tb 8 U (A5 (rX tb 2 U (Ai U (Kf U) ?_)));exact⟨_,⟨congrArg Value.bool (decide_eq_true (by have e:gd l k=h:=c17;rw[← e];exact A8 hk2)).symm,rfl⟩,by exact sbt⟩
  ·refine rC tb 5 U (y_ (Bc (T U) Ak qom) ?_ U);refine rO tb 2 U ?_;refine A3 (k+1) ?_ ?_ ⟨atd,trivial⟩ ⟨Aa U,Aa U,trivial⟩ ?_
   ·refine⟨hk2,fun j hj=> ?_⟩
    by_cases e:j=k
    ·rw[e];exact c17
    ·exact hn j qom
   ·first|omega|(simp only[];omega)
   ·exact sbt
 ·obtain rfl:k=l.length:=by have h9: ¬ ((k:Nat):Int)<(l.length:Nat):=c9;omega
  refine rC tb 2 U (Av (rX tb 8 U (Ai U (Kf U) ?_)));exact⟨_,⟨congrArg Value.bool (decide_eq_false (fun hm=>(C2 (p:=fun x=>x≠h) hn) h hm U)).symm,rfl⟩,by exact sbt⟩
theorem eq_of_gd {α:Type}[Inhabited α] {l m:List α}(hl:l.length=m.length)(h:∀ j,j<l.length→gd l j=gd m j):l=m:=List.ext_getElem hl fun i h1 h2=>by
 have:=h i h1
 rwa [A0 h1,A0 h2] at this
theorem Fh {w0:World}{H:List (Nat × Obj)}(l m:List Hd)(q1 q2:Option Addr)(c1 c2:Nat)(hA1:HsA w0 H l q1 c1)(hA2:HsA w0 H m q2 c2)(hlen:l.length≤1000000):
  FSpec Tryz.prog w0 19 #[.slice q1 l.length c1, .slice q2 m.length c2] H (Still (.bool (decide (l=m))) H):=by
 refine Ar Tryz.func19 U ntmps19 U (rD tb 15 U ?_)
 first|refine Ac (Aa U) (fun c10=> ?_) (fun c10=> ?_)|refine Ag (Aa U) (fun c10=> ?_) (fun c10=> ?_)
 ·skip
  refine rC tb 7 U (Ai U (Kf U) ?_);exact⟨_,⟨congrArg Value.bool (decide_eq_false (fun e=>c10 (by rw[e]))).symm,rfl⟩,by exact sbt⟩
 ·have hle:l.length=m.length:=by have h9: ¬ ¬ ((l.length:Nat):Int)=(m.length:Nat):=c10;omega
  refine rC tb 9 U ?_;refine Bf (X:=Nat) (V:=fun k=>[(5, .int .i64 (k:Nat))]) (C:=[(0,_),(1,_)]) (G:=fun k=>H) (φ:=fun k=>k≤l.length∧∀ j,j<k→gd l j=gd m j) (μ:=fun k=>l.length - k) (x0:=0) ?_ ⟨Aa U,Aa U,trivial⟩ ⟨atd,trivial⟩ sb0 ?_
  ·exact⟨Nat.zero_le _,fun j hj=>absurd hj (Nat.not_lt_zero _)⟩
  rintro k ⟨hk,hn⟩;refine rD tb 9 U ?_
  first|refine Ac (Aa U) (fun c14=> ?_) (fun c14=> ?_)|refine Ag (Aa U) (fun c14=> ?_) (fun c14=> ?_)
  ·have hk2:k<l.length:=by have h9:((k:Nat):Int)<(l.length:Nat):=c14;omega
   refine rC tb 5 U (Bi 9 [(0,true),(1,true),(2,true),(3,true),(4,true),(5,true),(6,true),(7,true),(8,true)] _ mixd qkr sb0 ?_ Bn);refine rP tb 2 U (o_y U (Ki U U runUnderlying42 sizeOf30 qom (by first|exact rfl|exact hA1.1.b (i:=k) qom|exact hA2.1.b (i:=k) qom)) ?_ U Ae);refine o_y U (Kh U isAgg30 sizeOf30 (Au (hA1.ok (k:=k) qom)) (by first|exact((hA1.mono (by exact sbt)).hd).cs (i:=k) qom|exact As)) ?_ U Ae;refine rP tb 2 U (o_y U (Ki U U runUnderlying42 sizeOf30 qom (by first|exact rfl|exact hA1.1.b (i:=k) qom|exact hA2.1.b (i:=k) qom)) ?_ U Ae);refine o_y U (Kh U isAgg30 sizeOf30 (Au (hA2.ok (k:=k) qom)) (by first|exact((hA2.mono (by exact sbt)).hd).cs (i:=k) qom|exact As)) ?_ U Ae;refine o_y U (yl_neqA (T U) (T U) qkr (eqHd (hA1.ok (k:=k) qom) (hA2.ok (k:=k) qom))) ?_ U Ae;refine A4 U (rO tb 2 U ?_)
   first|refine Ac (Aa U) (fun c25=> ?_) (fun c25=> ?_)|refine Ag (Aa U) (fun c25=> ?_) (fun c25=> ?_)
   ·refine rC tb 8 U (A5 (rX tb 2 U (Ai U (Kf U) ?_)));exact⟨_,⟨congrArg Value.bool (decide_eq_false (fun e=>c25 (by rw[e]))).symm,rfl⟩,by exact sbt⟩
   ·refine rC tb 5 U (y_ (Bc (T U) Ak qom) ?_ U);refine rO tb 2 U ?_;refine A3 (k+1) ?_ ?_ ⟨atd,trivial⟩ ⟨Aa U,Aa U,trivial⟩ ?_
    ·refine⟨hk2,fun j hj=> ?_⟩
     by_cases e:j=k
     ·rw[e];exact Classical.not_not.1 c25
     ·exact hn j qom
    ·first|omega|(simp only[];omega)
    ·exact sbt
  ·obtain rfl:k=l.length:=by have h9: ¬ ((k:Nat):Int)<(l.length:Nat):=c14;omega
   refine rC tb 2 U (Av (rX tb 8 U (Ai U (Kf U) ?_)));exact⟨_,⟨congrArg Value.bool (decide_eq_true (eq_of_gd hle hn)).symm,rfl⟩,by exact sbt⟩
theorem put_found {l:List Hd}{h:Hd}{k:Nat}(hk:k<l.length)(e:gd l k=h)(x:Hd):x∈l↔x∈l∨x=h:=⟨.inl,fun hx=>by
 rcases hx with hx|rfl
 ·exact hx
 ·rw[← e];exact A8 hk⟩
theorem H6 {l:List Hd}{h:Hd}{k:Nat}(x:Hd):x∈l.take k++[h]++l.drop k↔x∈l∨x=h:=by
 have:x∈l↔x∈l.take k∨x∈l.drop k:=by
  rw[← List.mem_append,List.take_append_drop]
 simp only[List.mem_append,List.mem_singleton,this]
 constructor
 ·rintro((a|a)|a)
  ·exact .inl (.inl a)
  ·exact .inr a
  ·exact .inl (.inr a)
 ·rintro((a|a)|a)
  ·exact .inl (.inl a)
  ·exact .inr a
  ·exact .inl (.inr a)
theorem put_up {l:List Hd}{h:Hd}{k:Nat}(hu:l.Pairwise hLt)(hlt:∀ j,j<k→j<l.length→hLt (gd l j) h)(hge:k<l.length→hLt h (gd l k)):(l.take k++[h]++l.drop k).Pairwise hLt:=by
 have hd:∀ x∈l.drop k,hLt h x:=fun x hx=>by
  by_cases hk:k<l.length
  ·have h0:=hge hk;rw[List.drop_eq_getElem_cons hk] at hx;have hu2:(l.drop k).Pairwise hLt:=hu.sublist (List.drop_sublist _ _);rw[List.drop_eq_getElem_cons hk] at hu2;rw[A0 hk] at h0;rcases List.mem_cons.1 hx with rfl|hx
   ·exact h0
   ·exact h0.trans ((List.pairwise_cons.1 hu2).1 x hx)
  ·rw[List.drop_of_length_le qom] at hx;cases hx
 have ht:∀ x∈l.take k,hLt x h:=fun x hx=>by
  obtain⟨j,hj,e⟩:=List.getElem_of_mem hx;rw[List.length_take] at hj;have:=hlt j qom qom;rw[A0 qom] at this;rw[List.getElem_take] at e
  rwa [e] at this
 refine List.pairwise_append.2 ⟨List.pairwise_append.2 ⟨hu.sublist (List.take_sublist _ _),List.pairwise_singleton ..,fun x hx y hy=> ?_⟩,hu.sublist (List.drop_sublist _ _),fun x hx y hy=> ?_⟩
 ·rw[List.mem_singleton.1 hy];exact ht x hx
 ·rcases List.mem_append.1 hx with hx|hx
  ·exact(ht x hx).trans (hd y hy)
  ·rw[List.mem_singleton.1 hx];exact hd y hy
abbrev PutK (w0:World) (l:List Hd) (h:Hd) (H:List (Nat × Obj)):Value→List (Nat × Obj)→Prop:=fun u H'=>∃ (l':List Hd) (q:Option Addr) (c:Nat) (X:List (Nat × Obj)),(u= .slice q l'.length c∧HsA w0 (X++H) l' q c∧l'.Pairwise hLt∧(∀ x,x∈l'↔x∈l∨x=h)∧l'.length≤l.length+1)∧H'=X++H
theorem sl_cap {d:Sl}{n sz:Nat}(h:SlOk d n sz):n≤slC d:=by
 cases d with
 |nil=>have:n=0:=h;omega
 |blk b cap junk=>exact h.1
theorem I7 {w0:World}{X:List (Nat × Obj)}{d:Sl}{l:List Hd}(hok:SlOk d l.length 10)(hl:∀ x∈l,HdOk x):HsA w0 (slH d (l.flatMap encHd) 30++X) l (slQ d) (slC d):=⟨Cz (w0:=w0) (e:=30) (X:=X) (enc:=encHd) Ck hok,hl,sl_cap hok⟩
theorem rput_s {w0:World}{H:List (Nat × Obj)}(l:List Hd)(q:Option Addr)(c:Nat)(hA:HsA w0 H l q c)(hu:l.Pairwise hLt)(h:Hd)(hh:HdOk h)(hlen:l.length≤100000):
  FSpec Tryz.prog w0 142 #[.slice q l.length c, .agg (hdC h).toArray] H (PutK w0 l h H):=by
 refine Ar Tryz.func142 U ntmps142 U (rD tb 2 U (e_ (Kk U cs_) ?_ U));rintro _ _ ⟨n3,rfl,rfl⟩;refine rO tb 10 U ?_;refine Bf (X:=Nat) (V:=fun k=>[(5, .int .i64 (k:Nat))]) (C:=[(0,_),(3,_)]) (G:=fun k=>(n3,Cl (hdC h) 30)::H) (φ:=fun k=>k≤l.length∧∀ j,j<k→hLt (gd l j) h) (μ:=fun k=>l.length - k) (x0:=0) ?_ ⟨Aa U,Aa U,trivial⟩ ⟨atd,trivial⟩ sb0 ?_
 ·exact⟨Nat.zero_le _,fun j hj=>absurd hj (Nat.not_lt_zero _)⟩
 rintro k ⟨hk,hn⟩;refine rD tb 2 U (Bi 13 [(0,true),(1,true),(2,true),(3,true),(4,true),(5,true),(6,true),(7,true),(8,true),(9,true),(10,true),(11,true),(12,true)] _ mixd qkr sb0 ?_ Bn);refine rP tb 5 U ?_
 first|refine o_if_d (s:=11) (Aa U) (fun c11=> ?_) (fun c11=> ?_)|refine Ka (s:=11) (Aa U) (fun c11=> ?_) (fun c11=> ?_)
 ·have hk2:k<l.length:=by have h9:((k:Nat):Int)<(l.length:Nat):=c11;omega
  refine rP tb 2 U (o_y U (Ki U U runUnderlying42 sizeOf30 qom (by first|exact rfl|exact hA.1.b (i:=k) qom)) ?_ U (Aw U U (Aa U)));refine o_y U (Kh U isAgg30 sizeOf30 (Au (hA.ok (k:=k) qom)) (by first|exact((hA.mono (by exact sbt)).hd).cs (i:=k) qom|exact As)) ?_ U (Aw U U (Aa U));refine o_y U (Kh U isAgg30 sizeOf30 (Au hh) (by first|exact As)) ?_ U (Aw U U (Aa U));refine o_y U (Al (qe2 U U) call18 (fun H' hs=>cmp18_s (gd l k) h (hA.ok (k:=k) qom) hh)) ?_ U (Aw U U (Aa U));refine rP tb 2 U (A4 U (rO tb 2 U ?_))
  first|refine Ac (Aa U) (fun c19=> ?_) (fun c19=> ?_)|refine Ag (Aa U) (fun c19=> ?_) (fun c19=> ?_)
  ·have hlk:=(Hj (hA.ok (k:=k) hk2) hh).1 c19;refine rC tb 5 U (y_ (Bc (T U) Ak qom) ?_ U);refine rO tb 3 U ?_;refine A3 (k+1) ?_ ?_ ⟨atd,trivial⟩ ⟨Aa U,Aa U,trivial⟩ ?_
   ·refine⟨hk2,fun j hj=> ?_⟩
    by_cases e:j=k
    ·rw[e];exact hlk
    ·exact hn j qom
   ·first|omega|(simp only[];omega)
   ·exact sbt
  ·skip
   refine rC tb 2 U (Av (rX tb 4 U (Bi 12 [(0,true),(1,true),(2,true),(3,true),(4,true),(5,true),(6,true),(7,true),(8,true),(9,true),(10,true),(11,true)] _ mixd qkr sb0 ?_ Bn)));refine rP tb 5 U ?_
   first|refine o_if_d (s:=26) (Aa U) (fun c26=> ?_) (fun c26=> ?_)|refine Ka (s:=26) (Aa U) (fun c26=> ?_) (fun c26=> ?_)
   ·skip
    refine rP tb 2 U (o_y U (Ki U U runUnderlying42 sizeOf30 qom (by first|exact rfl|exact hA.1.b (i:=k) qom)) ?_ U (Aw U U (Aa U)));refine o_y U (Kh U isAgg30 sizeOf30 (Au (hA.ok (k:=k) qom)) (by first|exact((hA.mono (by exact sbt)).hd).cs (i:=k) qom|exact As)) ?_ U (Aw U U (Aa U));refine o_y U (Kh U isAgg30 sizeOf30 (Au hh) (by first|exact As)) ?_ U (Aw U U (Aa U));refine o_y U (I9 (T U) (T U) qkr (eqHd (hA.ok (k:=k) qom) hh)) ?_ U (Aw U U (Aa U));refine rP tb 1 U (A4 U (rO tb 2 U ?_))
    first|refine Ac (Aa U) (fun c33=> ?_) (fun c33=> ?_)|refine Ag (Aa U) (fun c33=> ?_) (fun c33=> ?_)
    ·have hfk:gd l k=h:=c33;refine kC tb 6 [4] rfl U (rG tb 2 U (Ai U (Kf U) ?_));exact⟨_,⟨l,q,c,[(n3,Cl (hdC h) 30)],⟨rfl,hA.mono (by exact sbt),hu,put_found hk2 hfk,by omega⟩,rfl⟩,by exact sbt⟩
    ·have hnk: ¬ gd l k=h:=c33;have htk:(l.take k).length=k:=by rw[List.length_take];omega
     have hgk:hLt h (gd l k):=((Ip (hA.ok (k:=k) hk2) hh).resolve_left (fun e=>c19 ((Hj (hA.ok (k:=k) hk2) hh).2 e))).resolve_left hnk;refine rC tb 12 U (y_ (yl_sliceH  (T U) (T U) runUnderlying42 sizeOf30 qom) ?_ U);refine e_ (Ch (enc:=encHd) (d:= .nil) (l:=[]) (l.take k) (by':=80) loc_nil (T U) (by rw[htk];exact T U) runUnderlying42 runUnderlying42 sizeOf30 typeInfo30 U zeroValue30 U Ck Cm U qde (by simp only[List.length_nil];omega) ((hA.1.mono (by exact sbt)).take k)) ?_ U;rintro _ _ ⟨d1,rfl,hd1,rfl⟩;rw[show ([]:List Hd).length+(l.take k).length=(l.take k).length from Nat.zero_add _] at hd1 ⊢;rw[List.nil_append];refine kO tb 3 [0,3,5,6] rfl U (rG tb 3 U (y_ (Kh U isAgg30 sizeOf30 (Au hh) (by first|exact As)) ?_ U));refine e_ (Be (.cons (T U) .nil) (bs42 hh)) ?_ U;rintro _ _ ⟨n42,rfl,rfl⟩;rw[← Dt hh];refine e_ (Cf (enc:=encHd) (d:=d1) (l:=l.take k) h (by':=80) qlc (T U) (T U) runUnderlying42 runUnderlying42 sizeOf30 typeInfo30 U zeroValue30 U Ck (Cm _) hd1 qde qom) ?_ U;rintro _ _ ⟨d2,rfl,hd2,rfl⟩;rw[show (l.take k).length+1=(l.take k++[h]).length from (by simp)] at hd2 ⊢;refine rO tb 8 U (y_ (yl_sliceL  (T U) (T U) runUnderlying42 sizeOf30 qom) ?_ U);refine e_ (Ch (enc:=encHd) (d:=d2) (l:=(l.take k++[h])) (l.drop k) (by':=80) qlc (T U) (by rw[List.length_drop];exact T U) runUnderlying42 runUnderlying42 sizeOf30 typeInfo30 U zeroValue30 U Ck Cm hd2 qde (by simp only[List.length_append,List.length_singleton,List.length_drop];omega) ((hA.1.mono (by exact sbt)).drop hA.2.2 k)) ?_ U;rintro _ _ ⟨d3,rfl,hd3,rfl⟩;rw[show (l.take k++[h]).length+(l.drop k).length=(l.take k++[h]++l.drop k).length from (List.length_append).symm] at hd3 ⊢;refine rO tb 4 U (Ai U (Kf U) ?_);exact⟨_,⟨l.take k++[h]++l.drop k,slQ d3,slC d3,slH d3 ((l.take k++[h]++l.drop k).flatMap encHd) 30,⟨rfl,I7 hd3 (fun x hx=>((H6 x).1 hx).elim (hA.2.1 x) (fun e=>e ▸ hh)),put_up hu (fun j hj _=>hn j hj) (fun h9=>by first|exact hgk|omega),H6,by simp only[List.length_append,List.length_take,List.length_drop,List.length_singleton];omega⟩,rfl⟩,by exact sbt⟩
   ·exfalso;have h9: ¬ ((k:Nat):Int)<(l.length:Nat):=c26;omega
 ·have hkl:k=l.length:=by have h9: ¬ ((k:Nat):Int)<(l.length:Nat):=c11;omega
  refine rP tb 8 U (A4 U (rO tb 5 U (Av (rX tb 4 U (Bi 12 [(0,true),(1,true),(2,true),(3,true),(4,true),(5,true),(6,true),(7,true),(8,true),(9,true),(10,true),(11,true)] _ mixd qkr sb0 ?_ Bn)))));refine rP tb 5 U ?_
  first|refine o_if_d (s:=26) (Aa U) (fun c26=> ?_) (fun c26=> ?_)|refine Ka (s:=26) (Aa U) (fun c26=> ?_) (fun c26=> ?_)
  ·exfalso;have h9:((k:Nat):Int)<(l.length:Nat):=c26;omega
  ·have htk:(l.take k).length=k:=by rw[List.length_take];omega
   refine rP tb 7 U (A4 U (rO tb 15 U (y_ (yl_sliceH  (T U) (T U) runUnderlying42 sizeOf30 qom) ?_ U)));refine e_ (Ch (enc:=encHd) (d:= .nil) (l:=[]) (l.take k) (by':=80) loc_nil (T U) (by rw[htk];exact T U) runUnderlying42 runUnderlying42 sizeOf30 typeInfo30 U zeroValue30 U Ck Cm U qde (by simp only[List.length_nil];omega) ((hA.1.mono (by exact sbt)).take k)) ?_ U;rintro _ _ ⟨d1,rfl,hd1,rfl⟩;rw[show ([]:List Hd).length+(l.take k).length=(l.take k).length from Nat.zero_add _] at hd1 ⊢;rw[List.nil_append];refine kO tb 3 [0,3,5,6] rfl U (rG tb 3 U (y_ (Kh U isAgg30 sizeOf30 (Au hh) (by first|exact As)) ?_ U));refine e_ (Be (.cons (T U) .nil) (bs42 hh)) ?_ U;rintro _ _ ⟨n42,rfl,rfl⟩;rw[← Dt hh];refine e_ (Cf (enc:=encHd) (d:=d1) (l:=l.take k) h (by':=80) qlc (T U) (T U) runUnderlying42 runUnderlying42 sizeOf30 typeInfo30 U zeroValue30 U Ck (Cm _) hd1 qde qom) ?_ U;rintro _ _ ⟨d2,rfl,hd2,rfl⟩;rw[show (l.take k).length+1=(l.take k++[h]).length from (by simp)] at hd2 ⊢;refine rO tb 8 U (y_ (yl_sliceL  (T U) (T U) runUnderlying42 sizeOf30 qom) ?_ U);refine e_ (Ch (enc:=encHd) (d:=d2) (l:=(l.take k++[h])) (l.drop k) (by':=80) qlc (T U) (by rw[List.length_drop];exact T U) runUnderlying42 runUnderlying42 sizeOf30 typeInfo30 U zeroValue30 U Ck Cm hd2 qde (by simp only[List.length_append,List.length_singleton,List.length_drop];omega) ((hA.1.mono (by exact sbt)).drop hA.2.2 k)) ?_ U;rintro _ _ ⟨d3,rfl,hd3,rfl⟩;rw[show (l.take k++[h]).length+(l.drop k).length=(l.take k++[h]++l.drop k).length from (List.length_append).symm] at hd3 ⊢;refine rO tb 4 U (Ai U (Kf U) ?_);exact⟨_,⟨l.take k++[h]++l.drop k,slQ d3,slC d3,slH d3 ((l.take k++[h]++l.drop k).flatMap encHd) 30,⟨rfl,I7 hd3 (fun x hx=>((H6 x).1 hx).elim (hA.2.1 x) (fun e=>e ▸ hh)),put_up hu (fun j hj _=>hn j hj) (fun h9=>by first|exact hgk|omega),H6,by simp only[List.length_append,List.length_take,List.length_drop,List.length_singleton];omega⟩,rfl⟩,by exact sbt⟩
theorem zbs42_0_z  (w:World):(Instr.buildSlice 42 0 #[]).run Tryz.prog w= .ok (.slice (some ⟨w.heap.size,0,none⟩) 0 0) (w.alloc (Cl [] 30)):=by kernel_rfl
abbrev SetK (w0:World) (p:List Hd→Prop) (H:List (Nat × Obj)):Value→List (Nat × Obj)→Prop:=fun u H'=>∃ (l':List Hd) (q:Option Addr) (c:Nat),u= .slice q l'.length c∧HsA w0 H' l' q c∧l'.Pairwise hLt∧p l'∧H.Sublist H'
theorem rmerge_s {w0:World}{H:List (Nat × Obj)}(a b:List Hd)(q1 q2:Option Addr)(c1 c2:Nat)(hA:HsA w0 H a q1 c1)(hu:a.Pairwise hLt)(hB:HsA w0 H b q2 c2)(hla:a.length≤10000)(hlb:b.length≤10000):
  FSpec Tryz.prog w0 102 #[.slice q1 a.length c1, .slice q2 b.length c2] H (SetK w0 (fun l=>(∀ x,x∈l↔x∈a∨x∈b)∧l.length≤a.length+b.length) H):=by
 refine Ar Tryz.func102 U ntmps102 U (rD tb 7 U (e_ (Be .nil (zbs42_0_z)) ?_ U));rintro _ _ ⟨n7,rfl,rfl⟩;refine rO tb 1 U (e_ (Ch (enc:=encHd) (d:= .blk n7 0 []) (l:=[]) a (by':=80) loc_e (T U) (T U) runUnderlying42 runUnderlying42 sizeOf30 typeInfo30 U zeroValue30 U Ck Cm ⟨Nat.le_refl _,rfl⟩ qde (by simp only[List.length_nil];omega) (hA.1.mono (by exact sbt))) ?_ U);rintro _ _ ⟨d1,rfl,hd1,rfl⟩;rw[show ([]:List Hd).length+a.length=a.length from Nat.zero_add _] at hd1 ⊢;rw[List.nil_append];refine rO tb 10 U ?_;refine Bf (X:=Nat × List Hd × Option Addr × Nat × List (Nat × Obj)) (V:=fun ⟨i,l,q,c,M⟩=>[(5, .slice q l.length c),(6, .int .i64 (i:Nat))]) (C:=[(1,_)]) (G:=fun ⟨i,l,q,c,M⟩=>M) (φ:=fun ⟨i,l,q,c,M⟩=>i≤b.length∧HsA w0 M l q c∧l.Pairwise hLt∧(∀ x,x∈l↔x∈a∨x∈b.take i)∧l.length≤a.length+i∧H.Sublist M) (μ:=fun ⟨i,l,q,c,M⟩=>b.length - i) (x0:=(0,a,slQ d1,slC d1,slH d1 (a.flatMap encHd) 30++H)) ?_ ⟨Aa rfl,trivial⟩ ⟨atd,atd,trivial⟩ sb0 ?_
 ·exact⟨Nat.zero_le _,I7 hd1 hA.2.1,hu,fun x=>by simp,by omega,List.sublist_append_right _ _⟩
 rintro⟨i,l,q,c,M⟩ ⟨hi,hL,hul,hm,hn,hHM⟩;refine rD tb 9 U ?_
 first|refine Ac (Aa U) (fun c13=> ?_) (fun c13=> ?_)|refine Ag (Aa U) (fun c13=> ?_) (fun c13=> ?_)
 ·have hi2:i<b.length:=by have h9:((i:Nat):Int)<(b.length:Nat):=c13;omega
  refine rC tb 8 U (y_ (Ki U U runUnderlying42 sizeOf30 qom (by first|exact rfl|exact hB.1.b (i:=i) qom)) ?_ U);refine y_ (Kh U isAgg30 sizeOf30 (Au (hB.ok (k:=i) qom)) (by first|exact((hB.mono hHM).hd).cs (i:=i) qom|exact As)) ?_ U;refine e_ (Am (qe2 U U) call142 (rput_s l q c hL hul (gd b i) (hB.ok (k:=i) hi2) qom)) ?_ U;rintro _ _ ⟨l2,q3,c3,X2,⟨rfl,hL2,hul2,hm2,hn2⟩,rfl⟩;refine rO tb 6 U (y_ (Bc (T U) Ak qom) ?_ U);refine rO tb 2 U ?_;refine A3 ((i+1,l2,q3,c3,X2++M)) ?_ ?_ ⟨atd,atd,trivial⟩ ⟨Aa U,trivial⟩ ?_
  ·refine⟨hi2,hL2,hul2,fun x=> ?_,by omega,hHM.trans (List.sublist_append_right _ _)⟩;rw[hm2,hm,List.take_succ_eq_append_getElem hi2,List.mem_append,List.mem_singleton,← A0 hi2,or_assoc]
  ·first|omega|(simp only[];omega)
  ·exact sb0
 ·obtain rfl:i=b.length:=by have h9: ¬ ((i:Nat):Int)<(b.length:Nat):=c13;omega
  refine rC tb 2 U (Av (rX tb 9 U (Ai U (Kf U) ?_)));exact⟨_,⟨l,q,c,rfl,hL,hul,⟨by rw[List.take_length] at hm;exact hm,hn⟩,hHM⟩,sb0⟩
section
variable {fl:List Fd} {m:Pdm} {p:Pd}
theorem inv1 (hI:IsP fl m p)(hk:m.kind=1):p= .tru:=by cases hI<;>first|rfl|omega
theorem inv2 (hI:IsP fl m p)(hk:m.kind=2):p= .fls:=by cases hI<;>first|rfl|omega
theorem inv9 (hI:IsP fl m p)(hk:m.kind=9):p= .time m.val m.to:=by
 cases hI with
 |tim _ h1 h2=>rw[h1,h2]
 |_=>omega
theorem inv6 (hI:IsP fl m p)(hk:m.kind=6):∃ x,0<m.subs.length∧p= .no x∧IsP fl (gd m.subs 0) x:=by
 cases hI with
 |no _ h1 h2=>rw[h1];exact⟨_,Nat.zero_lt_one,rfl,h2⟩
 |_=>omega
theorem inv7 (hI:IsP fl m p)(hk:m.kind=7):∃ x y,1<m.subs.length∧p= .and x y∧IsP fl (gd m.subs 0) x∧IsP fl (gd m.subs 1) y:=by
 cases hI with
 |and _ h1 h2 h3=>rw[h1];exact⟨_,_,Nat.lt_succ_self _,rfl,h2,h3⟩
 |_=>omega
theorem inv8 (hI:IsP fl m p)(hk:m.kind=8):∃ x y,1<m.subs.length∧p= .or x y∧IsP fl (gd m.subs 0) x∧IsP fl (gd m.subs 1) y:=by
 cases hI with
 |or _ h1 h2 h3=>rw[h1];exact⟨_,_,Nat.lt_succ_self _,rfl,h2,h3⟩
 |_=>omega
theorem inv3 (hI:IsP fl m p)(hk:m.kind=3):∃ n:Nat,m.val=n∧p= .eq (fndFd fl m.nm).1 n:=by
 cases hI with
 |eq _ h1=>exact⟨_,h1,rfl⟩
 |_=>omega
theorem inv4 (hI:IsP fl m p)(hk:m.kind=4):∃ n k:Nat,m.val=n∧m.to=k∧p= .pre (fndFd fl m.nm).1 n k:=by
 cases hI with
 |pre _ h1 h2=>exact⟨_,_,h1,h2,rfl⟩
 |_=>omega
theorem inv5 (hI:IsP fl m p)(h1: ¬ m.kind=1)(h2: ¬ m.kind=2)(h3: ¬ m.kind=3)(h4: ¬ m.kind=4)(h6: ¬ m.kind=6)(h7: ¬ m.kind=7)(h8: ¬ m.kind=8)(h9: ¬ m.kind=9):∃ n k:Nat,m.val=n∧m.to=k∧p= .rng (fndFd fl m.nm).1 n k:=by
 cases hI with
 |rng _ h1 h2=>exact⟨_,_,h1,h2,rfl⟩
 |_=>omega
theorem invF {bs:List Nat}(hI:IsP fl m p)(hF:p.Fit bs)(h1: ¬ m.kind=1)(h2: ¬ m.kind=2)(h6: ¬ m.kind=6)(h7: ¬ m.kind=7)(h8: ¬ m.kind=8)(h9: ¬ m.kind=9):FdOk (fndFd fl m.nm).1:=by
 cases hI with
 |eq _ _=>exact hF.1.ok
 |pre _ _ _=>exact hF.1.ok
 |rng _ _ _=>exact hF.1.ok
 |_=>omega
end
theorem yl_subV {P:Program}{w0:World}{L:Fm}{H:List (Nat × Obj)}{ty xt yt:TypeId}{x y:Operand}{a c:Nat}{v:Int}(hx:Ev L x (.int .i64 (a:Nat)))(hy:Ev L y (.int .i64 v))(hv:v=(c:Nat))(h:c≤a∧a≤1000000000):Yl P w0 (.binOp .sub xt x y yt) ty L H (.int .i64 ((a - c:Nat):Int)):=by subst hv;exact Cr hx hy h
theorem yl_quoV {P:Program}{w0:World}{L:Fm}{H:List (Nat × Obj)}{ty xt yt:TypeId}{x y:Operand}{a c:Nat}{v:Int}(hx:Ev L x (.int .i64 v))(hy:Ev L y (.int .i64 (c:Nat)))(hv:v=(a:Nat))(h:a≤1000000000∧1≤c):Yl P w0 (.binOp .quo xt x y yt) ty L H (.int .i64 ((a / c:Nat):Int)):=by subst hv;exact C4 hx hy h
def HoS (w0:World) (fl:List Fd) (q:Option Addr) (c:Nat) (tick:Int) (N:Nat):Prop:=∀ {H:List (Nat × Obj)} {m:Pdm} {p:Pd} {h:Hd},FlA w0 H q fl→PdM w0 H m→m.sz≤N→IsP fl m p→p.Fit (bsF fl)→HdOk h→FSpec Tryz.prog w0 99 #[.slice q fl.length c, .agg (encPd m).toArray, .agg (hdC h).toArray, .int .i64 tick] H (Still (.bool (holdsP tick p h)) H)
theorem yl_dbl2 {P:Program}{w0:World}{L:Fm}{H:List (Nat × Obj)}{ty xt yt:TypeId}{x y:Operand}{k:Nat}(hx:Ev L x (.int .i64 2))(hy:Ev L y (.int .i64 ((2 ^ k:Nat):Int)))(hk:k<16):Yl P w0 (.binOp .mul xt x y yt) ty L H (.int .i64 ((2 ^ (k+1):Nat):Int)):=by
 have h1:2 ^ k≤2 ^ 16:=Nat.pow_le_pow_right qom qom;have h1:2 ^ k≤65536:=h1;rw[show 2 ^ (k+1)=2*2 ^ k by rw[Nat.pow_succ,Nat.mul_comm]]
 revert hy h1
 generalize 2 ^ k=z;intro hy h1;have h:=Id (P:=P) (w0:=w0) (H:=H) (ty:=ty) (xt:=xt) (yt:=yt) hx hy qom
 rwa [show (2:Int)*(z:Int)=((2*z:Nat):Int) by omega] at h
theorem rpow13_s {w0:World}{H:List (Nat × Obj)}(n:Nat)(hn:n≤16):
  FSpec Tryz.prog w0 140 #[.int .i64 (n:Nat)] H (Still (.int .i64 ((2 ^ n:Nat):Int)) H):=by
 refine Ar Tryz.func140 U ntmps140 U (rD tb 17 U ?_);refine F9 (X:=Nat) (V:=fun k=>[(3, .int .i64 ((2 ^ k:Nat):Int)),(4, .int .i64 (k:Nat))]) (C:=[(0,_)]) (φ:=fun k=>k≤n) (μ:=fun k=>n - k) (x0:=0) ?_ ⟨Aa U,trivial⟩ ⟨atd,atd,trivial⟩ ?_
 ·exact Nat.zero_le _
 rintro k hk;refine rD tb 8 U ?_
 first|refine Ac (Aa U) (fun c7=> ?_) (fun c7=> ?_)|refine Ag (Aa U) (fun c7=> ?_) (fun c7=> ?_)
 ·have hk2:k<n:=by have h9:((k:Nat):Int)<(n:Nat):=c7;omega
  refine rC tb 6 U (y_ (yl_dbl2 Ak (T U) (by have h9:((k:Nat):Int)<(n:Nat):=c7;omega)) ?_ U);refine rO tb 6 U (y_ (Bc (T U) Ak qom) ?_ U);refine rO tb 2 U ?_;refine A3 (k+1) ?_ ?_ ⟨atd,atd,trivial⟩ ⟨Aa U,trivial⟩ ?_
  ·omega
  ·first|omega|(simp only[];omega)
  ·exact sbt
 ·obtain rfl:k=n:=by have h9: ¬ ((k:Nat):Int)<(n:Nat):=c7;omega
  refine rC tb 2 U (Av (rX tb 9 U (Ai U (Kf U) ?_)));exact⟨_,⟨rfl,rfl⟩,sbt⟩
theorem holds_step {w0:World}{H:List (Nat × Obj)}{fl:List Fd}(hfl:FlOk fl){q:Option Addr}{c:Nat}{tick:Int}{N:Nat}(hN:N≤1000000000)(ih:HoS w0 fl q c tick N){m:Pdm}{p:Pd}{h:Hd}(hA:FlA w0 H q fl)(hM:PdM w0 H m)(hm:m.sz≤N+1)(hI:IsP fl m p)(hF:p.Fit (bsF fl))(hh:HdOk h):
  FSpec Tryz.prog w0 99 #[.slice q fl.length c, .agg (encPd m).toArray, .agg (hdC h).toArray, .int .i64 tick] H (Still (.bool (holdsP tick p h)) H):=by
 refine Ar Tryz.func99 U ntmps99 U ?_;have hsz:=Gq m;have hfew:=hfl.few;refine rD tb 2 U (e_ (Kk U cs_) ?_ U);rintro _ _ ⟨n5,rfl,rfl⟩;refine e_ (Kk U cs_) ?_ U;rintro _ _ ⟨n6,rfl,rfl⟩;refine rO tb 7 U (y_ (Kg U isAgg3 (by first|exact c_o)) ?_ U);refine rO tb 9 U ?_
 first|refine Ac (Aa U) (fun c19=> ?_) (fun c19=> ?_)|refine Ag (Aa U) (fun c19=> ?_) (fun c19=> ?_)
 ·obtain rfl:=inv1 hI c19;refine rC tb 8 U (Ai U (Kf U) ?_)
  first|exact⟨_,⟨rfl,rfl⟩,by exact sbt⟩|(refine⟨_,⟨congrArg Value.bool ?_,rfl⟩,by exact sbt⟩;simp only[holdsP];rw[Bool.eq_iff_iff];simp only[Bool.and_eq_true,Bool.or_eq_true,decide_eq_true_eq,beq_iff_eq,Bool.false_eq_true,true_and,false_and];all_goals omega)
 ·skip
  refine rC tb 6 U ?_
  first|refine Ac (Aa U) (fun c21=> ?_) (fun c21=> ?_)|refine Ag (Aa U) (fun c21=> ?_) (fun c21=> ?_)
  ·obtain rfl:=inv2 hI c21;refine rC tb 8 U (Ai U (Kf U) ?_)
   first|exact⟨_,⟨rfl,rfl⟩,by exact sbt⟩|(refine⟨_,⟨congrArg Value.bool ?_,rfl⟩,by exact sbt⟩;simp only[holdsP];rw[Bool.eq_iff_iff];simp only[Bool.and_eq_true,Bool.or_eq_true,decide_eq_true_eq,beq_iff_eq,Bool.false_eq_true,true_and,false_and];all_goals omega)
  ·skip
   refine rC tb 6 U ?_
   first|refine Ac (Aa U) (fun c23=> ?_) (fun c23=> ?_)|refine Ag (Aa U) (fun c23=> ?_) (fun c23=> ?_)
   ·obtain rfl:=inv9 hI c23;refine rC tb 3 U (y_ (Kg U isAgg3 (by first|exact c_o)) ?_ U);refine rO tb 3 U ?_
    first|refine Aj (s:=29) (Aa U) (fun c29=> ?_) (fun c29=> ?_)|refine Ax (s:=29) (Aa U) (fun c29=> ?_) (fun c29=> ?_)
    ·refine rO tb 2 U (Ao (Kg U isAgg3 (by first|exact c_o)) U (Aw U U (Aa U)) ?_);refine rO tb 8 U (Ai U (Kf U) ?_)
     first|exact⟨_,⟨rfl,rfl⟩,by exact sbt⟩|(refine⟨_,⟨congrArg Value.bool ?_,rfl⟩,by exact sbt⟩;simp only[holdsP];rw[Bool.eq_iff_iff];simp only[Bool.and_eq_true,Bool.or_eq_true,decide_eq_true_eq,beq_iff_eq,Bool.false_eq_true,true_and,false_and];all_goals omega)
    ·refine rO tb 11 U (Ai U (Kf U) ?_);exact⟨_,⟨congrArg Value.bool (by rw[holdsP,decide_eq_false c29,Bool.false_and]),rfl⟩,by exact sbt⟩
   ·skip
    refine rC tb 6 U ?_
    first|refine Ac (Aa U) (fun c35=> ?_) (fun c35=> ?_)|refine Ag (Aa U) (fun c35=> ?_) (fun c35=> ?_)
    ·obtain⟨x6,hl0,rfl,hx⟩:=inv6 hI c35;have hF:x6.Fit (bsF fl):=hF;refine rC tb 1 U (Bi 10 [(0,true),(1,true),(2,true),(3,true),(4,true),(5,true),(6,true),(7,true),(8,true),(9,true)] _ mixd qkr sb0 ?_ Bn);refine rP tb 2 U (o_y U (Kg U isAgg23 (by first|exact c_o)) ?_ U Ae);refine o_y U (Cb (T U) Ak runUnderlying23 sizeOf25 qom (by first|exact rfl|exact hM.arr.b (i:=0) qom|exact hM.arr.b (i:=1) qom)) ?_ U Ae;refine o_y U (Kh U isAgg25 sizeOf25 U (by first|exact(hM.arr.mono (by exact sbt)).cs (i:=0) qom|exact As)) ?_ U Ae;refine o_y U (Kh U isAgg30 sizeOf30 (Au hh) (by first|exact As)) ?_ U Ae;refine rP tb 1 U (o_y U (Al (qe4 U U U U) call99 (fun H' hs=>ih (hA.mono (List.Sublist.trans (by exact sbt) hs)) ((hM.sub (A8 qom)).mono (List.Sublist.trans (by exact sbt) hs)) (by have:=Eg (A8 (l:=m.subs) (i:=0) qom);omega) hx hF hh)) ?_ U Ae)
     first|refine o_y U (A2 (T U)) ?_ U Ae|refine o_y U (Bg (T U)) ?_ U Ae
     refine rP tb 1 U (A4 U (rO tb 5 U (Ai U (Kf U) ?_)))
     first|exact⟨_,⟨rfl,rfl⟩,by exact sbt⟩|(refine⟨_,⟨congrArg Value.bool ?_,rfl⟩,by exact sbt⟩;simp only[holdsP];rw[Bool.eq_iff_iff];simp only[Bool.and_eq_true,Bool.or_eq_true,decide_eq_true_eq,beq_iff_eq,Bool.false_eq_true,true_and,false_and];all_goals omega)
    ·skip
     refine rC tb 6 U ?_
     first|refine Ac (Aa U) (fun c46=> ?_) (fun c46=> ?_)|refine Ag (Aa U) (fun c46=> ?_) (fun c46=> ?_)
     ·obtain⟨x7,y7,hl0,rfl,hx,hy⟩:=inv7 hI c46;have hF:x7.Fit (bsF fl)∧y7.Fit (bsF fl):=hF;refine rC tb 1 U (Bi 9 [(0,true),(1,true),(2,true),(3,true),(4,true),(5,true),(6,true),(7,true),(8,true)] _ mixd qkr sb0 ?_ Bn);refine rP tb 2 U (o_y U (Kg U isAgg23 (by first|exact c_o)) ?_ U Ae);refine o_y U (Cb (T U) Ak runUnderlying23 sizeOf25 qom (by first|exact rfl|exact hM.arr.b (i:=0) qom|exact hM.arr.b (i:=1) qom)) ?_ U Ae;refine o_y U (Kh U isAgg25 sizeOf25 U (by first|exact(hM.arr.mono (by exact sbt)).cs (i:=0) qom|exact As)) ?_ U Ae;refine o_y U (Kh U isAgg30 sizeOf30 (Au hh) (by first|exact As)) ?_ U Ae;refine rP tb 1 U (o_y U (Al (qe4 U U U U) call99 (fun H' hs=>ih (hA.mono (List.Sublist.trans (by exact sbt) hs)) ((hM.sub (A8 qom)).mono (List.Sublist.trans (by exact sbt) hs)) (by have:=Eg (A8 (l:=m.subs) (i:=0) qom);omega) hx hF.1 hh)) ?_ U Ae);refine rP tb 1 U (A4 U (rO tb 3 U (Bi 9 [(0,true),(1,true),(2,true),(3,true),(4,true),(5,true),(6,true),(7,true),(8,true)] _ mixd qkr sb0 ?_ Bn)));refine rP tb 2 U (o_y U (Kg U isAgg23 (by first|exact c_o)) ?_ U Ae);refine o_y U (Cb (T U) Ak runUnderlying23 sizeOf25 qom (by first|exact rfl|exact hM.arr.b (i:=0) qom|exact hM.arr.b (i:=1) qom)) ?_ U Ae;refine o_y U (Kh U isAgg25 sizeOf25 U (by first|exact(hM.arr.mono (by exact sbt)).cs (i:=1) qom|exact As)) ?_ U Ae;refine o_y U (Kh U isAgg30 sizeOf30 (Au hh) (by first|exact As)) ?_ U Ae;refine rP tb 1 U (o_y U (Al (qe4 U U U U) call99 (fun H' hs=>ih (hA.mono (List.Sublist.trans (by exact sbt) hs)) ((hM.sub (A8 qom)).mono (List.Sublist.trans (by exact sbt) hs)) (by have:=Eg (A8 (l:=m.subs) (i:=1) qom);omega) hy hF.2 hh)) ?_ U Ae);refine rP tb 1 U (A4 U (kO tb 2 [9,10] rfl U (rG tb 4 U ?_)))
      first|refine Aj (s:=65) (Aa U) (fun c65=> ?_) (fun c65=> ?_)|refine Ax (s:=65) (Aa U) (fun c65=> ?_) (fun c65=> ?_)
      ·refine rO tb 8 U (Ai U (Kf U) ?_);exact⟨_,⟨congrArg Value.bool (by simp only[holdsP,c65,Bool.true_and]),rfl⟩,by exact sbt⟩
      ·refine rO tb 8 U (Ai U (Kf U) ?_);exact⟨_,⟨congrArg Value.bool (by simp only[holdsP,c65,Bool.false_and]),rfl⟩,by exact sbt⟩
     ·skip
      refine rC tb 6 U ?_
      first|refine Ac (Aa U) (fun c68=> ?_) (fun c68=> ?_)|refine Ag (Aa U) (fun c68=> ?_) (fun c68=> ?_)
      ·obtain⟨x8,y8,hl0,rfl,hx,hy⟩:=inv8 hI c68;have hF:x8.Fit (bsF fl)∧y8.Fit (bsF fl):=hF;refine rC tb 1 U (Bi 9 [(0,true),(1,true),(2,true),(3,true),(4,true),(5,true),(6,true),(7,true),(8,true)] _ mixd qkr sb0 ?_ Bn);refine rP tb 2 U (o_y U (Kg U isAgg23 (by first|exact c_o)) ?_ U Ae);refine o_y U (Cb (T U) Ak runUnderlying23 sizeOf25 qom (by first|exact rfl|exact hM.arr.b (i:=0) qom|exact hM.arr.b (i:=1) qom)) ?_ U Ae;refine o_y U (Kh U isAgg25 sizeOf25 U (by first|exact(hM.arr.mono (by exact sbt)).cs (i:=0) qom|exact As)) ?_ U Ae;refine o_y U (Kh U isAgg30 sizeOf30 (Au hh) (by first|exact As)) ?_ U Ae;refine rP tb 1 U (o_y U (Al (qe4 U U U U) call99 (fun H' hs=>ih (hA.mono (List.Sublist.trans (by exact sbt) hs)) ((hM.sub (A8 qom)).mono (List.Sublist.trans (by exact sbt) hs)) (by have:=Eg (A8 (l:=m.subs) (i:=0) qom);omega) hx hF.1 hh)) ?_ U Ae);refine rP tb 1 U (A4 U (rO tb 3 U (Bi 9 [(0,true),(1,true),(2,true),(3,true),(4,true),(5,true),(6,true),(7,true),(8,true)] _ mixd qkr sb0 ?_ Bn)));refine rP tb 2 U (o_y U (Kg U isAgg23 (by first|exact c_o)) ?_ U Ae);refine o_y U (Cb (T U) Ak runUnderlying23 sizeOf25 qom (by first|exact rfl|exact hM.arr.b (i:=0) qom|exact hM.arr.b (i:=1) qom)) ?_ U Ae;refine o_y U (Kh U isAgg25 sizeOf25 U (by first|exact(hM.arr.mono (by exact sbt)).cs (i:=1) qom|exact As)) ?_ U Ae;refine o_y U (Kh U isAgg30 sizeOf30 (Au hh) (by first|exact As)) ?_ U Ae;refine rP tb 1 U (o_y U (Al (qe4 U U U U) call99 (fun H' hs=>ih (hA.mono (List.Sublist.trans (by exact sbt) hs)) ((hM.sub (A8 qom)).mono (List.Sublist.trans (by exact sbt) hs)) (by have:=Eg (A8 (l:=m.subs) (i:=1) qom);omega) hy hF.2 hh)) ?_ U Ae);refine rP tb 1 U (A4 U (kO tb 2 [11,12] rfl U (rG tb 4 U ?_)))
       first|refine Aj (s:=87) (Aa U) (fun c87=> ?_) (fun c87=> ?_)|refine Ax (s:=87) (Aa U) (fun c87=> ?_) (fun c87=> ?_)
       ·refine rO tb 8 U (Ai U (Kf U) ?_);exact⟨_,⟨congrArg Value.bool (by simp only[holdsP,c87,Bool.true_or]),rfl⟩,by exact sbt⟩
       ·refine rO tb 8 U (Ai U (Kf U) ?_);exact⟨_,⟨congrArg Value.bool (by simp only[holdsP,c87,Bool.false_or]),rfl⟩,by exact sbt⟩
      ·have hfd:=invF hI hF c19 c21 c35 c46 c68 c23;have hpw:2 ^ (fndFd fl m.nm).1.w≤2 ^ 16:=Nat.pow_le_pow_right qom hfd.w16;have hpw:2 ^ (fndFd fl m.nm).1.w≤65536:=hpw;refine rC tb 7 U (y_ (Kg U isAgg9 (by first|exact c_o)) ?_ U);refine y_ (Al (qe2 U U) call87 (fun H' hs=>Fg fl q c (hA.mono (List.Sublist.trans (by exact sbt) hs)) qom m.nm)) ?_ U;refine rO tb 3 U (e_ (An zeroValue67 cs_) ?_ U);rintro _ _ ⟨n13,rfl,rfl⟩
       first|refine A6 (Kj U U sizeOf67) U Ae ?_
       rintro _ _ ⟨rfl,rfl⟩;refine rO tb 5 U (y_ (Kh U isAgg67 sizeOf67 U (by first|exact As)) ?_ U);refine y_ (Kh U isAgg30 sizeOf30 (Au hh) (by first|exact As)) ?_ U;refine y_ (Al (qe2 U U) call139 (fun H' hs=>rget_s (fndFd fl m.nm).1 hfd h hh)) (kO tb 3 [5,13,15] rfl U (rG tb 4 U (y_ (Kg U isAgg3 (by first|exact c_o)) ?_ U))) U;refine rO tb 9 U ?_
       first|refine Ac (Aa U) (fun c102=> ?_) (fun c102=> ?_)|refine Ag (Aa U) (fun c102=> ?_) (fun c102=> ?_)
       ·obtain⟨n3,hva,rfl⟩:=inv3 hI c102;refine rC tb 4 U (y_ (Kg U isAgg3 (by first|exact c_o)) ?_ U);refine rO tb 7 U (Ai U (Kf U) ?_)
        first|exact⟨_,⟨rfl,rfl⟩,by exact sbt⟩|(refine⟨_,⟨congrArg Value.bool ?_,rfl⟩,by exact sbt⟩;simp only[holdsP];rw[Bool.eq_iff_iff];simp only[Bool.and_eq_true,Bool.or_eq_true,decide_eq_true_eq,beq_iff_eq,Bool.false_eq_true,true_and,false_and];all_goals omega)
       ·skip
        refine rC tb 6 U ?_
        first|refine Ac (Aa U) (fun c108=> ?_) (fun c108=> ?_)|refine Ag (Aa U) (fun c108=> ?_) (fun c108=> ?_)
        ·obtain⟨n4,k4,hva,hto,rfl⟩:=inv4 hI c108;have hF:FIn (bsF fl) (fndFd fl m.nm).1∧n4<2 ^ (fndFd fl m.nm).1.w∧k4≤(fndFd fl m.nm).1.w:=hF;have hkw:k4≤(fndFd fl m.nm).1.w∧(fndFd fl m.nm).1.w≤1000000000:=⟨hF.2.2,by have:=hfd.w16;omega⟩;refine rC tb 3 U (y_ (Kg U isAgg3 (by first|exact c_o)) ?_ U);refine rO tb 1 U (y_ (Kg U isAgg3 (by first|exact c_o)) ?_ U);refine y_ (yl_subV (c:=k4) (T U) (T U) hto hkw) (y_ (Al (qe1 U) call140 (fun H' hs=>rpow13_s ((fndFd fl m.nm).1.w - k4) (by have:=hfd.w16;omega))) ?_ U) U;refine rO tb 4 U (Bi 9 [(0,true),(1,true),(2,true),(3,true),(4,true),(5,true),(6,true),(7,true),(8,true)] _ mixd qkr sb0 ?_ Bn);refine rP tb 2 U (o_y U (C4 (T U) (T U) (by have:=Nat.two_pow_pos ((fndFd fl m.nm).1.w - k4);have:=fget_lt (fndFd fl m.nm).1 h;omega)) ?_ U Ae);refine rP tb 1 U (o_y U (Kg U isAgg3 (by first|exact c_o)) ?_ U Ae);refine rP tb 1 U (o_y U (yl_quoV (T U) (T U) hva (by have:=Nat.two_pow_pos ((fndFd fl m.nm).1.w - k4);omega)) ?_ U Ae);refine rP tb 2 U (A4 U (rO tb 5 U (Ai U (Kf U) ?_)))
         first|exact⟨_,⟨rfl,rfl⟩,by exact sbt⟩|(refine⟨_,⟨congrArg Value.bool ?_,rfl⟩,by exact sbt⟩;simp only[holdsP];rw[Bool.eq_iff_iff];simp only[Bool.and_eq_true,Bool.or_eq_true,decide_eq_true_eq,beq_iff_eq,Bool.false_eq_true,true_and,false_and];all_goals omega)
        ·obtain⟨n5,k5,hva,hto,rfl⟩:=inv5 hI c19 c21 c102 c108 c35 c46 c68 c23;refine rC tb 6 U (y_ (Kg U isAgg3 (by first|exact c_o)) ?_ U);refine rO tb 3 U ?_
         first|refine Aj (s:=128) (Aa U) (fun c128=> ?_) (fun c128=> ?_)|refine Ax (s:=128) (Aa U) (fun c128=> ?_) (fun c128=> ?_)
         ·refine rO tb 2 U (Ao (Kg U isAgg3 (by first|exact c_o)) U (Aw U U (Aa U)) ?_);refine rO tb 6 U (Ai U (Kf U) ?_)
          first|exact⟨_,⟨rfl,rfl⟩,by exact sbt⟩|(refine⟨_,⟨congrArg Value.bool ?_,rfl⟩,by exact sbt⟩;simp only[holdsP];rw[Bool.eq_iff_iff];simp only[Bool.and_eq_true,Bool.or_eq_true,decide_eq_true_eq,beq_iff_eq,Bool.false_eq_true,true_and,false_and];all_goals omega)
         ·refine rO tb 9 U (Ai U (Kf U) ?_);exact⟨_,⟨congrArg Value.bool (by rw[holdsP,decide_eq_false (show ¬ n5≤fget (fndFd fl m.nm).1 h by omega),Bool.false_and]),rfl⟩,by exact sbt⟩
theorem holds_s {w0:World}{fl:List Fd}(hfl:FlOk fl){q:Option Addr}{c:Nat}{tick:Int}(N:Nat)(hN:N≤1000000000):HoS w0 fl q c tick N:=by
 induction N with
 |zero=>intro H m p h _ _ h3;have:=Gq m;omega
 |succ N ih=>
  have ih:HoS w0 fl q c tick N:=ih qom;intro H m p h hA hM hm hI hF hh;exact holds_step hfl qom ih hA hM hm hI hF hh
def SetIs (w0:World) (P:Hd→Prop) (H:List (Nat × Obj)) (l:List Hd) (q:Option Addr) (c:Nat):Prop:=HsA w0 H l q c∧l.Pairwise hLt∧(∀ g,g∈l↔P g)∧l.length≤256
abbrev EvK13 (w0:World) (P:Hd→Prop) (H:List (Nat × Obj)):Value→List (Nat × Obj)→Prop:=fun u H'=>∃ (l:List Hd) (q:Option Addr) (c:Nat) (e:Int),u= .tuple #[.slice q l.length c, .int .i64 e]∧(e=0→SetIs w0 P H' l q c)∧H.Sublist H'
def EvS13 (w0:World) (fl:List Fd) (q:Option Addr) (c:Nat) (tick:Int) (N:Nat):Prop:=∀ {H:List (Nat × Obj)} {m:Pom} {p:Po} {h:Hd},FlA w0 H q fl→PoM w0 H m→m.sz≤N→IsO fl m p→p.Fit (bsF fl)→HdOk h→FSpec Tryz.prog w0 54 #[.slice q fl.length c, .agg (encPo m).toArray, .agg (hdC h).toArray, .int .i64 tick] H (EvK13 w0 (den tick p h) H)
theorem hs_nil {w0:World}{H:List (Nat × Obj)}:HsA w0 H [] none 0:=⟨fun i u hi=>by simp at hi,fun x hx=>by simp at hx,Nat.le_refl _⟩
theorem image_s {w0:World}{H:List (Nat × Obj)}{fl:List Fd}(hfl:FlOk fl){q:Option Addr}{c:Nat}{tick:Int}{N:Nat}(ih:EvS13 w0 fl q c tick N){m:Pom}{p:Po}(hA:FlA w0 H q fl)(hM:PoM w0 H m)(hm:m.sz≤N)(hI:IsO fl m p)(hF:p.Fit (bsF fl))(hl:List Hd)(qh:Option Addr)(ch:Nat)(hB:HsA w0 H hl qh ch)(hlen:hl.length≤1000):
  FSpec Tryz.prog w0 103 #[.slice q fl.length c, .agg (encPo m).toArray, .slice qh hl.length ch, .int .i64 tick] H (EvK13 w0 (fun g=>∃ x,x∈hl∧den tick p x g) H):=by
 refine Ar Tryz.func103 U ntmps103 U (rD tb 2 U (e_ (Kk U cs_) ?_ U));rintro _ _ ⟨n5,rfl,rfl⟩;refine rO tb 16 U ?_;refine Bf (X:=Nat × List Hd × Option Addr × Nat × List (Nat × Obj)) (V:=fun ⟨k,l,ql,cl,M⟩=>[(10, .slice ql l.length cl),(11, .int .i64 (k:Nat))]) (C:=[(0,_),(2,_),(3,_),(5,_)]) (G:=fun ⟨k,l,ql,cl,M⟩=>M) (φ:=fun ⟨k,l,ql,cl,M⟩=>k≤hl.length∧HsA w0 M l ql cl∧l.Pairwise hLt∧(∀ g,g∈l↔∃ x,x∈hl.take k∧den tick p x g)∧l.length≤256∧((n5,Cl (encPo m) 28)::H).Sublist M) (μ:=fun ⟨k,l,ql,cl,M⟩=>hl.length - k) (x0:=(0,[],none,0,(n5,Cl (encPo m) 28)::H)) ?_ ⟨Aa rfl,Aa rfl,Aa rfl,Aa rfl,trivial⟩ ⟨atd,atd,trivial⟩ sb0 ?_
 ·exact⟨Nat.zero_le _,hs_nil, .nil,fun g=>by simp,by simp,sb0⟩
 rintro⟨k,l,ql,cl,M⟩ ⟨hk,hL,hul,hmm,hn,hHM⟩;refine rD tb 9 U ?_
 first|refine Ac (Aa U) (fun c17=> ?_) (fun c17=> ?_)|refine Ag (Aa U) (fun c17=> ?_) (fun c17=> ?_)
 ·have hk2:k<hl.length:=by have h9:((k:Nat):Int)<(hl.length:Nat):=c17;omega
  refine rC tb 5 U (Bi 13 [(0,true),(1,true),(2,true),(3,true),(4,true),(5,true),(6,true),(7,false),(8,true),(9,true),(10,true),(11,true),(12,true)] _ mixd qkr sb0 ?_ Bn);refine rP tb 1 U (o_y U (Kh U isAgg28 sizeOf28 U (by first|exact Ah (Fnd.mono Ay hHM)|exact As)) ?_ U Ae);refine rP tb 2 U (o_y U (Ki U U runUnderlying42 sizeOf30 qom (by first|exact rfl|exact hB.1.b (i:=k) qom)) ?_ U Ae);refine o_y U (Kh U isAgg30 sizeOf30 (Au (hB.ok (k:=k) qom)) (by first|exact((hB.mono ((List.sublist_cons_self _ _).trans hHM)).hd).cs (i:=k) qom|exact As)) ?_ U Ae;refine rP tb 1 U (o_e U (Am (qe4 U U U U) call54 (ih (hA.mono ((List.sublist_cons_self _ _).trans hHM)) (hM.mono ((List.sublist_cons_self _ _).trans hHM)) hm hI hF (hB.ok (k:=k) hk2))) ?_ U Ae);rintro _ M2 ⟨l2,q2,c2,e2,rfl,he2,hM2⟩;refine⟨(by assumption),?_⟩;refine rP tb 5 U (A4 U (rO tb 9 U ?_))
  first|refine Ac (Aa U) (fun c32=> ?_) (fun c32=> ?_)|refine Ag (Aa U) (fun c32=> ?_) (fun c32=> ?_)
  ·skip
   refine rC tb 11 U (A5 (rX tb 2 U (Ai U (.tmp (Aa U) (Kf U)) ?_)));exact⟨_,⟨[],none,0,e2,rfl,fun h9=>absurd h9 c32,((List.sublist_cons_self _ _).trans hHM).trans hM2⟩,sb0⟩
  ·have hZ2:=he2 (Classical.not_not.1 c32);refine rC tb 6 U (e_ (Am (qe2 U U) call102 (rmerge_s l l2 ql q2 cl c2 (hL.mono hM2) hul hZ2.1 qom (by have:=hZ2.2.2.2;omega))) ?_ U);rintro _ M3 ⟨l3,q3,c3,rfl,hL3,hul3,⟨hm3,hn3⟩,hM3⟩;refine kO tb 10 [0,2,3,5,10,11,39] rfl U ?_
   first|refine Ac (Aa U) (fun c39=> ?_) (fun c39=> ?_)|refine Ag (Aa U) (fun c39=> ?_) (fun c39=> ?_)
   ·skip
    refine rC tb 9 U (A5 (rX tb 2 U (Ai U (.tmp (Aa U) (Kf U)) ?_)));exact⟨_,⟨[],none,0,2,rfl,fun h9=>absurd h9 qde,((List.sublist_cons_self _ _).trans hHM).trans (hM2.trans hM3)⟩,sb0⟩
   ·have hz3:l3.length≤256:=by have h9: ¬ ((l3.length:Nat):Int)>256:=c39;omega
    refine rC tb 5 U (y_ (Bc (T U) Ak qom) ?_ U);refine rO tb 2 U ?_;refine A3 ((k+1,l3,q3,c3,M3)) ?_ ?_ ⟨atd,atd,trivial⟩ ⟨Aa U,Aa U,Aa U,Aa U,trivial⟩ ?_
    ·refine⟨hk2,hL3,hul3,fun g=> ?_,hz3,hHM.trans (hM2.trans hM3)⟩;rw[hm3,hmm,hZ2.2.2.1,List.take_succ_eq_append_getElem hk2,← A0 hk2]
     constructor
     ·rintro(⟨x,h1,h2⟩|h2)
      ·exact⟨x,List.mem_append.2 (.inl h1),h2⟩
      ·exact⟨_,List.mem_append.2 (.inr (List.mem_singleton.2 U)),h2⟩
     ·rintro⟨x,h1,h2⟩;rcases List.mem_append.1 h1 with h1|h1
      ·exact .inl ⟨x,h1,h2⟩
      ·rw[List.mem_singleton.1 h1] at h2;exact .inr h2
    ·first|omega|(simp only[];omega)
    ·exact sbt
 ·obtain rfl:k=hl.length:=by have h9: ¬ ((k:Nat):Int)<(hl.length:Nat):=c17;omega
  refine rC tb 2 U (Av (rX tb 10 U (Ai U (.tmp (Aa U) (Kf U)) ?_)));exact⟨_,⟨l,ql,cl,0,rfl,fun _=>⟨hL,hul,by rw[List.take_length] at hmm;exact hmm,hn⟩,((List.sublist_cons_self _ _).trans hHM)⟩,sb0⟩
theorem nodup_sub {α:Type}:∀ {l m:List α},l.Nodup→(∀ x∈l,x∈m)→l.length≤m.length
 |[],m,_,_=>Nat.zero_le _
 |x::l,m,hn,hs=>by
  obtain⟨m1,m2,rfl⟩:=List.append_of_mem (hs x (by simp));obtain⟨hx,hn⟩:=List.nodup_cons.1 hn;have:=nodup_sub (m:=m1++m2) hn fun y hy=>by
   have h1:=hs y (List.mem_cons_of_mem _ hy);simp only[List.mem_append,List.mem_cons] at h1 ⊢;rcases h1 with h1|rfl|h1
   ·exact .inl h1
   ·exact(hx hy).elim
   ·exact .inr h1
  simp only[List.length_append,List.length_cons] at this ⊢;omega
theorem up_nodup {l:List Hd}(h:l.Pairwise hLt):l.Nodup:=h.imp fun h e=>by subst e;exact h.irr
def frN (o l:List Hd) (j:Nat):List Hd:=(l.take j).filter fun x=> !decide (x∈o)
theorem frN_yes {o l:List Hd}{j:Nat}(hj:j<l.length)(h:gd l j∉o):frN o l (j+1)=frN o l j++[gd l j]:=by
 unfold frN;rw[List.take_succ_eq_append_getElem hj,List.filter_append,← A0 hj];simp[h]
theorem Cv {o l:List Hd}{j:Nat}(hj:j<l.length)(h:gd l j∈o):frN o l (j+1)=frN o l j:=by
 unfold frN;rw[List.take_succ_eq_append_getElem hj,List.filter_append,← A0 hj];simp[h]
theorem frN_mem {o l:List Hd}{x:Hd}:x∈frN o l l.length↔x∈l∧x∉o:=by unfold frN;simp
theorem H7 (o l:List Hd)(j:Nat):(frN o l j).length≤l.length:=by unfold frN;exact Nat.le_trans (List.length_filter_le _ _) (by simp;omega)
structure ClI (D:Hd→Hd→Prop) (h:Hd) (o f:List Hd):Prop where
 up:o.Pairwise hLt
 hin:h∈o
 cl:∀ g,g∈o→Cl' D h g
 sub:∀ x∈f,x∈o
 done:∀ x,x∈o→x∈f∨∀ g,D x g→g∈o
theorem cli_end {D:Hd→Hd→Prop}{h:Hd}{o:List Hd}(h9:ClI D h o [])(g:Hd):g∈o↔Cl' D h g:=by
 have key:∀ {x y:Hd},Cl' D x y→x∈o→y∈o:=by
  intro x y a
  induction a with
  |base=>exact id
  |step b _ ih=>exact fun hx=>ih (((h9.done _ hx).resolve_left (by simp)) _ b)
 exact⟨h9.cl g,fun a=>key a h9.hin⟩
theorem cli_next {D:Hd→Hd→Prop}{h:Hd}{o f l o':List Hd}(h9:ClI D h o f)(hl:∀ g,g∈l↔∃ x,x∈f∧D x g)(hu:o'.Pairwise hLt)(ho:∀ x,x∈o'↔x∈o∨x∈frN o l l.length):ClI D h o' (frN o l l.length):=by
 refine⟨hu,(ho h).2 (.inl h9.hin),fun g hg=> ?_,fun x hx=>(ho x).2 (.inr hx),fun x hx=> ?_⟩
 ·rcases(ho g).1 hg with hg|hg
  ·exact h9.cl g hg
  ·obtain⟨x,hx,d⟩:=(hl g).1 (frN_mem.1 hg).1;exact(h9.cl x (h9.sub x hx)).trans (.one d)
 ·rcases(ho x).1 hx with hx|hx
  ·refine .inr fun g d=> ?_
   rcases h9.done x hx with hf|hf
   ·by_cases hg:g∈o
    ·exact(ho g).2 (.inl hg)
    ·exact(ho g).2 (.inr (frN_mem.2 ⟨(hl g).2 ⟨x,hf,d⟩,hg⟩))
   ·exact(ho g).2 (.inl (hf g d))
  ·exact .inl hx
theorem cli_grow {o l o':List Hd}(hu:o.Pairwise hLt)(ho:∀ x,x∈o'↔x∈o∨x∈frN o l l.length):o.length≤o'.length∧(¬ (frN o l l.length).length=0→o.length+1≤o'.length):=by
 refine⟨nodup_sub (up_nodup hu) fun x hx=>(ho x).2 (.inl hx),fun h0=> ?_⟩
 match hf:frN o l l.length,h0 with
 |y::r,_=>
  have hy:y∈frN o l l.length:=by rw[hf];simp
  have:=nodup_sub (l:=y::o) (m:=o') (List.nodup_cons.2 ⟨(frN_mem.1 hy).2,up_nodup hu⟩) fun x hx=>by
   rcases List.mem_cons.1 hx with rfl|hx
   ·exact(ho _).2 (.inr hy)
   ·exact(ho x).2 (.inl hx)
  simpa using this
 |[],h0=>exact absurd rfl h0
theorem Js {w0:World}{H:List (Nat × Obj)}{n:Nat}{h:Hd}(hf:Fnd H n (Cl (hdC h) 30))(hh:HdOk h):HsA w0 H [h] (some ⟨n,0,none⟩) 1:=⟨fun j x hj=>by
 refine⟨rfl,fun k v hk=> ?_⟩
 match j,hj with
 |0,hj=>
  have:h=x:=by simpa using hj
  subst this;rw[Dt hh] at hk;exact C6 hf (by rw[show oq (some (⟨n,0,none⟩:Addr))+0*10+k=k by show 0+0*10+k=k;omega];exact hk),fun x hx=>by rw[List.mem_singleton.1 hx];exact hh,Nat.le_refl _⟩
theorem fr_ok {o l:List Hd}{j:Nat}(h:∀ x∈l,HdOk x):∀ x∈frN o l j,HdOk x:=fun x hx=>h x (List.mem_of_mem_take (List.mem_filter.1 hx).1)
abbrev ClK (w0:World) (P:Hd→Prop) (H:List (Nat × Obj)):Value→List (Nat × Obj)→Prop:=fun u H'=>∃ (l:List Hd) (q:Option Addr) (c:Nat) (r e:Int),u= .tuple #[.slice q l.length c, .int .i64 r, .int .i64 e]∧(e=0→SetIs w0 P H' l q c)∧H.Sublist H'
theorem closure_s {w0:World}{H:List (Nat × Obj)}{fl:List Fd}(hfl:FlOk fl){q:Option Addr}{c:Nat}{tick:Int}{N:Nat}(ih:EvS13 w0 fl q c tick N){m:Pom}{p:Po}(hA:FlA w0 H q fl)(hM:PoM w0 H m)(hm:m.sz≤N)(hI:IsO fl m p)(hF:p.Fit (bsF fl)){h:Hd}(hh:HdOk h):
  FSpec Tryz.prog w0 104 #[.slice q fl.length c, .agg (encPo m).toArray, .agg (hdC h).toArray, .int .i64 tick] H (ClK w0 (Cl' (den tick p) h) H):=by
 refine Ar Tryz.func104 U ntmps104 U (rD tb 2 U (e_ (Kk U cs_) ?_ U));rintro _ _ ⟨n5,rfl,rfl⟩;refine e_ (Kk U cs_) ?_ U;rintro _ _ ⟨n6,rfl,rfl⟩;refine rO tb 7 U (y_ (Kh U isAgg30 sizeOf30 (Au hh) (by first|exact As)) ?_ U);refine e_ (Be (.cons (T U) .nil) (bs42 hh)) ?_ U;rintro _ _ ⟨n19,rfl,rfl⟩;refine rO tb 5 U (y_ (Kh U isAgg30 sizeOf30 (Au hh) (by first|exact As)) ?_ U);refine e_ (Be (.cons (T U) .nil) (bs42 hh)) ?_ U;rintro _ _ ⟨n21,rfl,rfl⟩;refine rO tb 10 U ?_;refine Bf (X:=List Hd × Option Addr × Nat × List Hd × Option Addr × Nat × Int × List (Nat × Obj)) (V:=fun ⟨o,qo,co,f,qf,cf,r,M⟩=>[(11, .slice qo o.length co),(12, .slice qf f.length cf),(13, .int .i64 r)]) (C:=[(0,_),(3,_),(5,_)]) (G:=fun ⟨o,qo,co,f,qf,cf,r,M⟩=>M) (φ:=fun ⟨o,qo,co,f,qf,cf,r,M⟩=>ClI (den tick p) h o f∧HsA w0 M o qo co∧HsA w0 M f qf cf∧o.length≤256∧f.length≤256∧0≤r∧r+1≤o.length∧((n5,Cl (encPo m) 28)::H).Sublist M) (μ:=fun ⟨o,qo,co,f,qf,cf,r,M⟩=>2*(257 - o.length)+(if f.length=0 then 0 else 1)) (x0:=([h],some ⟨n19,0,none⟩,1,[h],some ⟨n21,0,none⟩,1,0,((n21,Cl (hdC h) 30)::(n19,Cl (hdC h) 30)::(n6,Cl (hdC h) 30)::(n5,Cl (encPo m) 28)::H))) ?_ ⟨Aa rfl,Aa rfl,Aa rfl,trivial⟩ ⟨(by first|exact Aa rfl|(refine Af (Aa rfl) (vint ?_);omega)|(refine Af (Aa rfl) ?_;simp;done)|(refine Af (Aa rfl) ?_;exact(by rw[Cv hj2 hold]))),(by first|exact Aa rfl|(refine Af (Aa rfl) (vint ?_);omega)|(refine Af (Aa rfl) ?_;simp;done)|(refine Af (Aa rfl) ?_;exact(by rw[Cv hj2 hold]))),(by first|exact Aa rfl|(refine Af (Aa rfl) (vint ?_);omega)|(refine Af (Aa rfl) ?_;simp;done)|(refine Af (Aa rfl) ?_;exact(by rw[Cv hj2 hold]))),trivial⟩ (by exact sbt) ?_
 ·exact⟨⟨List.pairwise_singleton ..,by simp,fun g hg=>by rw[List.mem_singleton.1 hg];exact .base _,fun x hx=>hx,fun x hx=> .inl hx⟩,Js (by repeat (first|exact Ay|refine A1 ?_)) hh,Js (by repeat (first|exact Ay|refine A1 ?_)) hh,by simp,by simp,Int.le_refl _,by simp,by exact sbt⟩
 rintro⟨o,qo,co,f,qf,cf,r,M⟩ ⟨hcl,ho,hf,hon,hfn0,hr0,hr1,hHM⟩;refine rD tb 8 U ?_
 first|refine Ac (Aa U) (fun c24=> ?_) (fun c24=> ?_)|refine Ag (Aa U) (fun c24=> ?_) (fun c24=> ?_)
 ·have hf0: ¬ f.length=0:=by have h9:((f.length:Nat):Int)>0:=c24;omega
  refine rC tb 6 U (y_ (Kh U isAgg28 sizeOf28 U (by first|exact Ah (Fnd.mono Ay hHM)|exact As)) ?_ U);refine rO tb 2 U (e_ (Am (qe4 U U U U) call103 (image_s hfl ih (hA.mono ((List.sublist_cons_self _ _).trans hHM)) (hM.mono ((List.sublist_cons_self _ _).trans hHM)) hm hI hF f qf cf hf qom)) ?_ U);rintro _ M2 ⟨l2,q2,c2,e2,rfl,he2,hM2⟩;refine rO tb 14 U ?_
  first|refine Ac (Aa U) (fun c34=> ?_) (fun c34=> ?_)|refine Ag (Aa U) (fun c34=> ?_) (fun c34=> ?_)
  ·skip
   refine rC tb 11 U (A5 (rX tb 2 U (Ai U (.tmp (Aa U) (.tmp (Aa U) (Kf U))) ?_)));exact⟨_,⟨[],none,0,0,e2,rfl,fun h9=>absurd h9 c34,((List.sublist_cons_self _ _).trans hHM).trans hM2⟩,sb0⟩
  ·have hZ2:=he2 (Classical.not_not.1 c34);have hL2:=hZ2.1;have hl2n:=hZ2.2.2.2;refine rC tb 14 U ?_;refine Bf (X:=Nat × Sl) (V:=fun ⟨j,d⟩=>[(12,slV d (frN o l2 j).length),(16, .int .i64 (j:Nat))]) (C:=[(0,_),(3,_),(5,_),(11,_),(13,_),(14,_)]) (G:=fun ⟨j,d⟩=>slH d ((frN o l2 j).flatMap encHd) 30++M2) (φ:=fun ⟨j,d⟩=>j≤l2.length∧SlOk d (frN o l2 j).length 10) (μ:=fun ⟨j,d⟩=>l2.length - j) (x0:=(0, .nil)) ?_ ⟨Aa rfl,Aa rfl,Aa rfl,Aa rfl,Aa rfl,Aa rfl,trivial⟩ ⟨(by first|exact Aa rfl|(refine Af (Aa rfl) (vint ?_);omega)|(refine Af (Aa rfl) ?_;simp;done)|(refine Af (Aa rfl) ?_;exact(by rw[Cv hj2 hold]))),(by first|exact Aa rfl|(refine Af (Aa rfl) (vint ?_);omega)|(refine Af (Aa rfl) ?_;simp;done)|(refine Af (Aa rfl) ?_;exact(by rw[Cv hj2 hold]))),trivial⟩ (by exact sb0) ?_
   ·exact⟨Nat.zero_le _,rfl⟩
   rintro⟨j,d⟩ ⟨hj,hd⟩;refine rD tb 9 U ?_
   first|refine Ac (Aa U) (fun c39=> ?_) (fun c39=> ?_)|refine Ag (Aa U) (fun c39=> ?_) (fun c39=> ?_)
   ·have hj2:j<l2.length:=by have h9:((j:Nat):Int)<(l2.length:Nat):=c39;omega
    refine rC tb 9 U (y_ (Ki U U runUnderlying42 sizeOf30 qom (by first|exact rfl|exact hL2.1.b (i:=j) qom)) ?_ U);refine y_ (Kh U isAgg30 sizeOf30 (Au (hL2.ok (k:=j) qom)) (by first|exact((hL2.mono (List.sublist_append_right _ _)).hd).cs (i:=j) qom|exact As)) ?_ U;refine y_ (Al (qe2 U U) call143 (fun H' hs=>rin_s o qo co ((ho.mono (hM2.trans (List.sublist_append_right _ _))).mono hs) (gd l2 j) (hL2.ok (k:=j) hj2) qom)) ?_ U;refine rO tb 6 U ?_
    first|refine Ao (A2 (T U)) U Ae ?_|refine Ao (Bg (T U)) U Ae ?_
    refine rO tb 2 U ?_
    first|refine Ac (Aa U) (fun c49=> ?_) (fun c49=> ?_)|refine Ag (Aa U) (fun c49=> ?_) (fun c49=> ?_)
    ·have hnew:gd l2 j∉o:=by simpa using c49
     refine rC tb 4 U (y_ (Ki U U runUnderlying42 sizeOf30 qom (by first|exact rfl|exact hL2.1.b (i:=j) qom)) ?_ U);refine y_ (Kh U isAgg30 sizeOf30 (Au (hL2.ok (k:=j) qom)) (by first|exact((hL2.mono (List.sublist_append_right _ _)).hd).cs (i:=j) qom|exact As)) ?_ U;refine e_ (Be (.cons (T U) .nil) (bs42 (hL2.ok (k:=j) hj2))) ?_ U;rintro _ _ ⟨n55,rfl,rfl⟩;rw[← Dt (hL2.ok (k:=j) hj2)];refine e_ (Cf (enc:=encHd) (d:=d) (l:=frN o l2 j) (gd l2 j) (by':=80) qlc (T U) (T U) runUnderlying42 runUnderlying42 sizeOf30 typeInfo30 U zeroValue30 U Ck (Cm _) hd qde (by have:=H7 o l2 j;omega)) ?_ U;rintro _ _ ⟨d2,rfl,hd2,rfl⟩;rw[show (frN o l2 j).length+1=(frN o l2 j++[gd l2 j]).length from (by simp)] at hd2 ⊢;rw[← frN_yes hj2 hnew] at hd2 ⊢;refine rO tb 6 U (y_ (Bc (T U) Ak qom) ?_ U);refine rO tb 2 U ?_;refine A3 ((j+1,d2)) ?_ ?_ ⟨(by first|exact Aa U|(refine Af (Aa U) (vint ?_);omega)|(refine Af (Aa U) ?_;simp;done)|(refine Af (Aa U) ?_;exact(by rw[Cv hj2 hold]))),(by first|exact Aa U|(refine Af (Aa U) (vint ?_);omega)|(refine Af (Aa U) ?_;simp;done)|(refine Af (Aa U) ?_;exact(by rw[Cv hj2 hold]))),trivial⟩ ⟨Aa U,Aa U,Aa U,Aa U,Aa U,Aa U,trivial⟩ ?_
     ·exact⟨hj2,hd2⟩
     ·first|omega|(simp only[];omega)
     ·first|(dsimp only;rw[Cv hj2 hold];exact sb0)|exact sbt
    ·have hold:gd l2 j∈o:=by simpa using c49
     refine rC tb 5 U (y_ (Bc (T U) Ak qom) ?_ U);refine rO tb 2 U ?_;refine A3 ((j+1,d)) ?_ ?_ ⟨(by first|exact Aa U|(refine Af (Aa U) (vint ?_);omega)|(refine Af (Aa U) ?_;simp;done)|(refine Af (Aa U) ?_;exact(by rw[Cv hj2 hold]))),(by first|exact Aa U|(refine Af (Aa U) (vint ?_);omega)|(refine Af (Aa U) ?_;simp;done)|(refine Af (Aa U) ?_;exact(by rw[Cv hj2 hold]))),trivial⟩ ⟨Aa U,Aa U,Aa U,Aa U,Aa U,Aa U,trivial⟩ ?_
     ·exact⟨hj2,by rw[Cv hj2 hold];exact hd⟩
     ·first|omega|(simp only[];omega)
     ·first|(dsimp only;rw[Cv hj2 hold];exact sb0)|exact sbt
   ·obtain rfl:j=l2.length:=by have h9: ¬ ((j:Nat):Int)<(l2.length:Nat):=c39;omega
    refine rC tb 2 U (Av (rX tb 6 U (e_ (Am (qe2 U U) call102 (rmerge_s o (frN o l2 l2.length) qo (slQ d) co (slC d) (ho.mono (hM2.trans (List.sublist_append_right _ _))) hcl.up (I7 hd (fr_ok hL2.2.1)) qom (by have:=H7 o l2 l2.length;omega))) ?_ U)));rintro _ M3 ⟨l3,q3,c3,rfl,hL3,hul3,⟨hm3,hn3⟩,hM3⟩;obtain⟨hg1,hg2⟩:=cli_grow hcl.up hm3;refine rO tb 11 U ?_
    first|refine Ac (Aa U) (fun c62=> ?_) (fun c62=> ?_)|refine Ag (Aa U) (fun c62=> ?_) (fun c62=> ?_)
    ·skip
     refine rC tb 10 U (A5 (rX tb 2 U (Ai U (.tmp (Aa U) (.tmp (Aa U) (Kf U))) ?_)));exact⟨_,⟨[],none,0,0,2,rfl,fun h9=>absurd h9 qde,((List.sublist_cons_self _ _).trans hHM).trans (hM2.trans ((List.sublist_append_right _ _).trans hM3))⟩,sb0⟩
    ·have hz3:l3.length≤256:=by have h9: ¬ ((l3.length:Nat):Int)>256:=c62;omega
     refine rC tb 9 U ?_
     first|refine Ac (Aa U) (fun c65=> ?_) (fun c65=> ?_)|refine Ag (Aa U) (fun c65=> ?_) (fun c65=> ?_)
     ·have hfn: ¬ (frN o l2 l2.length).length=0:=by have h9:(((frN o l2 l2.length).length:Nat):Int)>0:=c65;omega
      have hg3:=hg2 hfn;refine rC tb 2 U (y_ (Bc (T U) Ak qom) ?_ U);refine rO tb 3 U ?_;refine A3 ((l3,q3,c3,frN o l2 l2.length,slQ d,slC d,r+1,M3)) ?_ ?_ ⟨(by first|exact Aa U|(refine Af (Aa U) (vint ?_);omega)|(refine Af (Aa U) ?_;simp;done)|(refine Af (Aa U) ?_;exact(by rw[Cv hj2 hold]))),(by first|exact Aa U|(refine Af (Aa U) (vint ?_);omega)|(refine Af (Aa U) ?_;simp;done)|(refine Af (Aa U) ?_;exact(by rw[Cv hj2 hold]))),(by first|exact Aa U|(refine Af (Aa U) (vint ?_);omega)|(refine Af (Aa U) ?_;simp;done)|(refine Af (Aa U) ?_;exact(by rw[Cv hj2 hold]))),trivial⟩ ⟨Aa U,Aa U,Aa U,trivial⟩ ?_
      ·refine⟨cli_next hcl hZ2.2.2.1 hul3 hm3,hL3,(I7 (X:=M2) hd (fr_ok hL2.2.1)).mono hM3,hz3,by have:=H7 o l2 l2.length;omega,by omega,by omega,hHM.trans (hM2.trans ((List.sublist_append_right _ _).trans hM3))⟩
      ·dsimp only;first|(rw[if_neg hf0,if_neg hfn];omega)|(rw[if_neg hf0,if_pos hfn];omega)
      ·exact sb0
     ·have hfn:(frN o l2 l2.length).length=0:=by have h9: ¬ (((frN o l2 l2.length).length:Nat):Int)>0:=c65;omega
      refine rC tb 2 U ?_;refine A3 ((l3,q3,c3,frN o l2 l2.length,slQ d,slC d,r,M3)) ?_ ?_ ⟨(by first|exact Aa U|(refine Af (Aa U) (vint ?_);omega)|(refine Af (Aa U) ?_;simp;done)|(refine Af (Aa U) ?_;exact(by rw[Cv hj2 hold]))),(by first|exact Aa U|(refine Af (Aa U) (vint ?_);omega)|(refine Af (Aa U) ?_;simp;done)|(refine Af (Aa U) ?_;exact(by rw[Cv hj2 hold]))),(by first|exact Aa U|(refine Af (Aa U) (vint ?_);omega)|(refine Af (Aa U) ?_;simp;done)|(refine Af (Aa U) ?_;exact(by rw[Cv hj2 hold]))),trivial⟩ ⟨Aa U,Aa U,Aa U,trivial⟩ ?_
      ·refine⟨cli_next hcl hZ2.2.2.1 hul3 hm3,hL3,(I7 (X:=M2) hd (fr_ok hL2.2.1)).mono hM3,hz3,by have:=H7 o l2 l2.length;omega,by omega,by omega,hHM.trans (hM2.trans ((List.sublist_append_right _ _).trans hM3))⟩
      ·dsimp only;first|(rw[if_neg hf0,if_neg hfn];omega)|(rw[if_neg hf0,if_pos hfn];omega)
      ·exact sb0
 ·obtain rfl:f=[]:=List.eq_nil_of_length_eq_zero (by have h9: ¬ ((f.length:Nat):Int)>0:=c24;omega);refine rC tb 2 U (Av (rX tb 12 U (Ai U (.tmp (Aa U) (.tmp (Aa U) (Kf U))) ?_)));exact⟨_,⟨o,qo,co,r,0,rfl,fun _=>⟨ho,hcl.up,cli_end hcl,hon⟩,((List.sublist_cons_self _ _).trans hHM)⟩,sb0⟩
section
variable {fl:List Fd} {m:Pom} {p:Po}
theorem oinv1 (hI:IsO fl m p)(hk:m.kind=1):∃ x,p= .fil x∧IsP fl m.pr x:=by
 cases hI with
 |fil _ h=>exact⟨_,rfl,h⟩
 |_=>omega
theorem oinv2 (hI:IsO fl m p)(hk:m.kind=2):∃ n:Nat,m.n=n∧p= .set (fndFd fl m.nm).1 n:=by
 cases hI with
 |set _ h=>exact⟨_,h,rfl⟩
 |_=>omega
theorem oinv3 (hI:IsO fl m p)(hk:m.kind=3):∃ x y,1<m.subs.length∧p= .uni x y∧IsO fl (gd m.subs 0) x∧IsO fl (gd m.subs 1) y:=by
 cases hI with
 |uni _ h1 h2 h3=>rw[h1];exact⟨_,_,Nat.lt_succ_self _,rfl,h2,h3⟩
 |_=>omega
theorem oinv4 (hI:IsO fl m p)(hk:m.kind=4):∃ x y,1<m.subs.length∧p= .seq x y∧IsO fl (gd m.subs 0) x∧IsO fl (gd m.subs 1) y:=by
 cases hI with
 |seq _ h1 h2 h3=>rw[h1];exact⟨_,_,Nat.lt_succ_self _,rfl,h2,h3⟩
 |_=>omega
theorem oinv5 (hI:IsO fl m p)(h1: ¬ m.kind=1)(h2: ¬ m.kind=2)(h3: ¬ m.kind=3)(h4: ¬ m.kind=4):∃ x,0<m.subs.length∧p= .star x∧IsO fl (gd m.subs 0) x:=by
 cases hI with
 |star _ h1 h2=>rw[h1];exact⟨_,Nat.zero_lt_one,rfl,h2⟩
 |_=>omega
end
theorem rset_v {w0:World}{H:List (Nat × Obj)}(f:Fd)(hf:FdOk f)(h:Hd)(hh:HdOk h){v:Int}(n:Nat)(hv:v=(n:Nat))(hn:n<2 ^ f.w):
  FSpec Tryz.prog w0 100 #[.agg (encF f).toArray, .agg (hdC h).toArray, .int .i64 v] H (Still (.agg (hdC (fset f h n)).toArray) H):=by subst hv;exact rset_s f hf h hh n hn
abbrev BdK (l:List Hd) (q:Option Addr) (c:Nat) (H:List (Nat × Obj)):Value→List (Nat × Obj)→Prop:=fun u H'=>∃ (l':List Hd) (q':Option Addr) (c':Nat) (e:Int),(u= .tuple #[.slice q' l'.length c', .int .i64 e]∧(e=0→l'=l∧q'=q∧c'=c∧l.length≤256))∧H'=H
theorem bounded_s {w0:World}{H:List (Nat × Obj)}(l:List Hd)(q:Option Addr)(c:Nat):
  FSpec Tryz.prog w0 101 #[.slice q l.length c] H (BdK l q c H):=by
 refine Ar Tryz.func101 U ntmps101 U (rD tb 14 U ?_)
 first|refine Ac (Aa U) (fun c6=> ?_) (fun c6=> ?_)|refine Ag (Aa U) (fun c6=> ?_) (fun c6=> ?_)
 ·refine rC tb 8 U (Ai U (.tmp (Aa U) (Kf U)) ?_);exact⟨_,⟨[],none,0,2,⟨rfl,fun h=>absurd h qde⟩,rfl⟩,sbt⟩
 ·refine rC tb 10 U (Ai U (.tmp (Aa U) (Kf U)) ?_);exact⟨_,⟨l,q,c,0,⟨rfl,fun _=>⟨rfl,rfl,rfl,by have h9: ¬ ((l.length:Nat):Int)>256:=c6;omega⟩⟩,rfl⟩,sbt⟩
theorem set_uni {w0:World}{A B:Hd→Prop}{H H' H2:List (Nat × Obj)}{l1 l2 l l':List Hd}{q1 q2 q q':Option Addr}{c1 c2 c c':Nat}{e:Int}(h1:SetIs w0 A H l1 q1 c1)(h2:SetIs w0 B H2 l2 q2 c2)(hL:HsA w0 H' l q c)(hu:l.Pairwise hLt)(hm:∀ x,x∈l↔x∈l1∨x∈l2)(he:e=0→l'=l∧q'=q∧c'=c∧l.length≤256):e=0→SetIs w0 (fun g=>A g∨B g) H' l' q' c':=fun h9=>by
 obtain⟨rfl,rfl,rfl,hn⟩:=he h9;exact⟨hL,hu,fun g=>by rw[hm,h1.2.2.1,h2.2.2.1],hn⟩
theorem rev_step {w0:World}{H:List (Nat × Obj)}{fl:List Fd}(hfl:FlOk fl){q:Option Addr}{c:Nat}{tick:Int}{N:Nat}(hN:N≤100000000)(ih:EvS13 w0 fl q c tick N){m:Pom}{p:Po}{h:Hd}(hA:FlA w0 H q fl)(hM:PoM w0 H m)(hm:m.sz≤N+1)(hI:IsO fl m p)(hF:p.Fit (bsF fl))(hh:HdOk h):
  FSpec Tryz.prog w0 54 #[.slice q fl.length c, .agg (encPo m).toArray, .agg (hdC h).toArray, .int .i64 tick] H (EvK13 w0 (den tick p h) H):=by
 refine Ar Tryz.func54 U ntmps54 U ?_;have hsz:=Dz m;have hfew:=hfl.few;refine rD tb 2 U (e_ (Kk U cs_) ?_ U);rintro _ _ ⟨n5,rfl,rfl⟩;refine e_ (Kk U cs_) ?_ U;rintro _ _ ⟨n6,rfl,rfl⟩;refine rO tb 8 U (y_ (Kg U isAgg3 (by first|exact c_o)) ?_ U);refine rO tb 9 U ?_
 first|refine Ac (Aa U) (fun c24=> ?_) (fun c24=> ?_)|refine Ag (Aa U) (fun c24=> ?_) (fun c24=> ?_)
 ·obtain⟨x1,rfl,hx⟩:=oinv1 hI c24;have hF:x1.Fit (bsF fl):=hF;refine rC tb 4 U ?_;refine y_ (Kh U isAgg25 sizeOf25 U (by first|exact Iu (by repeat (first|exact Ay|refine A1 ?_))|exact As)) ?_ U;refine y_ (Kh U isAgg30 sizeOf30 (Au hh) (by first|exact As)) ?_ U;refine rO tb 1 U (y_ (Al (qe4 U U U U) call99 (fun H' hs=>holds_s hfl 1000000000 (Nat.le_refl _) (hA.mono (List.Sublist.trans (by exact sbt) hs)) (hM.pred.mono (List.Sublist.trans (by exact sbt) hs)) qom hx hF hh)) ?_ U);refine rO tb 9 U ?_
  first|refine Ac (Aa U) (fun c32=> ?_) (fun c32=> ?_)|refine Ag (Aa U) (fun c32=> ?_) (fun c32=> ?_)
  ·refine rC tb 2 U (y_ (Kh U isAgg30 sizeOf30 (Au hh) (by first|exact As)) ?_ U);refine e_ (Be (.cons (T U) .nil) (bs42 hh)) ?_ U;rintro _ _ ⟨n34,rfl,rfl⟩;refine rO tb 8 U (Ai U (.tmp (Aa U) (Kf U)) ?_);exact⟨_,⟨[h],some ⟨n34,0,none⟩,1,0,rfl,fun _=>⟨Js (by repeat (first|exact Ay|refine A1 ?_)) hh,List.pairwise_singleton ..,fun g=>by simp[den,c32],by simp⟩,by exact sbt⟩,sb0⟩
  ·refine rC tb 11 U (Ai U (.tmp (Aa U) (Kf U)) ?_);exact⟨_,⟨[],none,0,0,rfl,fun _=>⟨hs_nil, .nil,fun g=>by simp[den,c32],by simp⟩,by exact sbt⟩,sb0⟩
 ·skip
  refine rC tb 6 U ?_
  first|refine Ac (Aa U) (fun c35=> ?_) (fun c35=> ?_)|refine Ag (Aa U) (fun c35=> ?_) (fun c35=> ?_)
  ·obtain⟨nn,hnn,rfl⟩:=oinv2 hI c35;have hF:FIn (bsF fl) (fndFd fl m.nm).1∧nn<2 ^ (fndFd fl m.nm).1.w:=hF;refine rC tb 4 U (y_ (Kg U isAgg9 (by first|exact c_o)) ?_ U);refine y_ (Al (qe2 U U) call87 (fun H' hs=>Fg fl q c (hA.mono (List.Sublist.trans (by exact sbt) hs)) qom m.nm)) ?_ U;refine rO tb 3 U (e_ (An zeroValue67 cs_) ?_ U);rintro _ _ ⟨n11,rfl,rfl⟩
   first|refine A6 (Kj U U sizeOf67) U Ae ?_
   rintro _ _ ⟨rfl,rfl⟩;refine rO tb 5 U (y_ (Kh U isAgg67 sizeOf67 U (by first|exact As)) ?_ U);refine y_ (Kh U isAgg30 sizeOf30 (Au hh) (by first|exact As)) ?_ U;refine rO tb 1 U (y_ (Kg U isAgg3 (by first|exact c_o)) ?_ U);refine y_ (Al (qe3 U U U) call100 (fun H' hs=>rset_v (fndFd fl m.nm).1 hF.1.ok h hh nn hnn hF.2)) (e_ (Be (.cons (T U) .nil) (bs42 (Cg _ _ _))) ?_ U) U;rintro _ _ ⟨n49,rfl,rfl⟩;refine rO tb 7 U (Ai U (.tmp (Aa U) (Kf U)) ?_);exact⟨_,⟨[fset (fndFd fl m.nm).1 h nn],some ⟨n49,0,none⟩,1,0,rfl,fun _=>⟨Js (by repeat (first|exact Ay|refine A1 ?_)) (Cg _ _ _),List.pairwise_singleton ..,fun g=>by simp[den],by simp⟩,by exact sbt⟩,sb0⟩
  ·skip
   refine rC tb 6 U ?_
   first|refine Ac (Aa U) (fun c50=> ?_) (fun c50=> ?_)|refine Ag (Aa U) (fun c50=> ?_) (fun c50=> ?_)
   ·obtain⟨x3,y3,hl0,rfl,hx,hy⟩:=oinv3 hI c50;have hF:x3.Fit (bsF fl)∧y3.Fit (bsF fl):=hF;refine rC tb 1 U (Bi 13 [(0,true),(1,true),(2,true),(3,true),(4,true),(5,true),(6,true),(7,false),(8,true),(9,true),(10,true),(11,true),(12,true)] _ mixd qkr sb0 ?_ Bn);refine rP tb 2 U (o_y U (Kg U isAgg26 (by first|exact c_o)) ?_ U Ae);refine o_y U (Cb (T U) Ak runUnderlying26 sizeOf28 qom (by first|exact rfl|exact hM.arr.b (i:=0) qom|exact hM.arr.b (i:=1) qom)) ?_ U Ae;refine o_y U (Kh U isAgg28 sizeOf28 U (by first|exact(hM.arr.mono ((show H.Sublist ((n6,Cl (hdC h) 30)::(n5,Cl (encPo m) 28)::H) by exact sbt))).cs (i:=0) qom|exact As)) ?_ U Ae;refine o_y U (Kh U isAgg30 sizeOf30 (Au hh) (by first|exact As)) ?_ U Ae;refine rP tb 1 U (o_e U (Am (qe4 U U U U) call54 (ih (hA.mono ((show H.Sublist ((n6,Cl (hdC h) 30)::(n5,Cl (encPo m) 28)::H) by exact sbt))) ((hM.sub (A8 qom)).mono ((show H.Sublist ((n6,Cl (hdC h) 30)::(n5,Cl (encPo m) 28)::H) by exact sbt))) (by have:=Du (A8 (l:=m.subs) (i:=0) qom);omega) hx hF.1 hh)) ?_ U Ae);rintro _ M2 ⟨l1,q1,c1,e1,rfl,he1,hM2⟩;refine⟨(by assumption),?_⟩;refine rP tb 5 U (A4 U (rO tb 3 U (Bi 13 [(0,true),(1,true),(2,true),(3,true),(4,true),(5,true),(6,true),(7,false),(8,true),(9,true),(10,true),(11,true),(12,true)] _ mixd qkr sb0 ?_ Bn)));refine rP tb 2 U ?_;refine o_y U (Kg U isAgg26 (by first|exact c_o|exact(Ah (Fnd.mono (by repeat (first|exact Ay|refine A1 ?_)) hM2)) 8 _ U)) ?_ U Ae;refine o_y U (Cb (T U) Ak runUnderlying26 sizeOf28 qom (by first|exact rfl|exact hM.arr.b (i:=0) qom|exact hM.arr.b (i:=1) qom)) ?_ U Ae;refine o_y U (Kh U isAgg28 sizeOf28 U (by first|exact(hM.arr.mono ((show H.Sublist ((n6,Cl (hdC h) 30)::(n5,Cl (encPo m) 28)::H) by exact sbt).trans hM2)).cs (i:=1) qom|exact As)) ?_ U Ae;refine o_y U (Kh U isAgg30 sizeOf30 (Au hh) (by first|exact Ah (Fnd.mono (by repeat (first|exact Ay|refine A1 ?_)) hM2)|exact As)) ?_ U Ae;refine rP tb 1 U (o_e U (Am (qe4 U U U U) call54 (ih (hA.mono ((show H.Sublist ((n6,Cl (hdC h) 30)::(n5,Cl (encPo m) 28)::H) by exact sbt).trans hM2)) ((hM.sub (A8 qom)).mono ((show H.Sublist ((n6,Cl (hdC h) 30)::(n5,Cl (encPo m) 28)::H) by exact sbt).trans hM2)) (by have:=Du (A8 (l:=m.subs) (i:=1) qom);omega) hy hF.2 hh)) ?_ U Ae);rintro _ M3 ⟨l2,q2,c2,e2,rfl,he2,hM3⟩;refine⟨(by assumption),?_⟩;refine rP tb 5 U (A4 U (kO tb 2 [13,14,15,16] rfl U (rG tb 6 U ?_)))
    first|refine Aj (s:=76) (Aa U) (fun c76=> ?_) (fun c76=> ?_)|refine Ax (s:=76) (Aa U) (fun c76=> ?_) (fun c76=> ?_)
    ·skip
     refine rO tb 16 U (Ai U (.tmp (Aa U) (Kf U)) ?_);exact⟨_,⟨[],none,0,2,rfl,fun h9=>absurd h9 qde,(show H.Sublist ((n6,Cl (hdC h) 30)::(n5,Cl (encPo m) 28)::H) by exact sbt).trans (hM2.trans hM3)⟩,sb0⟩
    ·have hZ1:=he1 (Classical.not_not.1 c76);refine rO tb 5 U ?_
     first|refine Ac (Aa U) (fun c79=> ?_) (fun c79=> ?_)|refine Ag (Aa U) (fun c79=> ?_) (fun c79=> ?_)
     ·skip
      refine rC tb 10 U (Ai U (.tmp (Aa U) (Kf U)) ?_);exact⟨_,⟨[],none,0,2,rfl,fun h9=>absurd h9 qde,(show H.Sublist ((n6,Cl (hdC h) 30)::(n5,Cl (encPo m) 28)::H) by exact sbt).trans (hM2.trans hM3)⟩,sb0⟩
     ·have hZ2:=he2 (Classical.not_not.1 c79);refine rC tb 6 U (e_ (Am (qe2 U U) call102 (rmerge_s l1 l2 q1 q2 c1 c2 (hZ1.1.mono hM3) hZ1.2.1 hZ2.1 (by have:=hZ1.2.2.2;omega) (by have:=hZ2.2.2.2;omega))) ?_ U);rintro _ M4 ⟨l4,q4,c4,rfl,hL4,hul4,⟨hm4,hn4⟩,hM4⟩;refine e_ (Am (qe1 U) call101 (bounded_s l4 q4 c4)) ?_ U;rintro _ _ ⟨l5,q5,c5,e5,⟨rfl,he5⟩,rfl⟩;refine rO tb 9 U (Ai U (.tmp (Aa U) (Kf U)) ?_);exact⟨_,⟨l5,q5,c5,e5,rfl,set_uni hZ1 hZ2 hL4 hul4 hm4 he5,(show H.Sublist ((n6,Cl (hdC h) 30)::(n5,Cl (encPo m) 28)::H) by exact sbt).trans (hM2.trans (hM3.trans hM4))⟩,sb0⟩
   ·skip
    refine rC tb 6 U ?_
    first|refine Ac (Aa U) (fun c86=> ?_) (fun c86=> ?_)|refine Ag (Aa U) (fun c86=> ?_) (fun c86=> ?_)
    ·obtain⟨x4,y4,hl0,rfl,hx,hy⟩:=oinv4 hI c86;have hF:x4.Fit (bsF fl)∧y4.Fit (bsF fl):=hF;refine rC tb 1 U (Bi 13 [(0,true),(1,true),(2,true),(3,true),(4,true),(5,true),(6,true),(7,false),(8,true),(9,true),(10,true),(11,true),(12,true)] _ mixd qkr sb0 ?_ Bn);refine rP tb 2 U (o_y U (Kg U isAgg26 (by first|exact c_o)) ?_ U Ae);refine o_y U (Cb (T U) Ak runUnderlying26 sizeOf28 qom (by first|exact rfl|exact hM.arr.b (i:=0) qom|exact hM.arr.b (i:=1) qom)) ?_ U Ae;refine o_y U (Kh U isAgg28 sizeOf28 U (by first|exact(hM.arr.mono ((show H.Sublist ((n6,Cl (hdC h) 30)::(n5,Cl (encPo m) 28)::H) by exact sbt))).cs (i:=0) qom|exact As)) ?_ U Ae;refine o_y U (Kh U isAgg30 sizeOf30 (Au hh) (by first|exact As)) ?_ U Ae;refine rP tb 1 U (o_e U (Am (qe4 U U U U) call54 (ih (hA.mono ((show H.Sublist ((n6,Cl (hdC h) 30)::(n5,Cl (encPo m) 28)::H) by exact sbt))) ((hM.sub (A8 qom)).mono ((show H.Sublist ((n6,Cl (hdC h) 30)::(n5,Cl (encPo m) 28)::H) by exact sbt))) (by have:=Du (A8 (l:=m.subs) (i:=0) qom);omega) hx hF.1 hh)) ?_ U Ae);rintro _ M2 ⟨l1,q1,c1,e1,rfl,he1,hM2⟩;refine⟨(by assumption),?_⟩;refine rP tb 5 U (A4 U (rO tb 9 U ?_))
     first|refine Ac (Aa U) (fun c100=> ?_) (fun c100=> ?_)|refine Ag (Aa U) (fun c100=> ?_) (fun c100=> ?_)
     ·skip
      refine kC tb 7 [8,9] rfl U (rG tb 4 U (Ai U (.tmp (Aa U) (Kf U)) ?_));exact⟨_,⟨[],none,0,e1,rfl,fun h9=>absurd h9 c100,(show H.Sublist ((n6,Cl (hdC h) 30)::(n5,Cl (encPo m) 28)::H) by exact sbt).trans hM2⟩,sb0⟩
     ·have hZ1:=he1 (Classical.not_not.1 c100);refine rC tb 6 U ?_;refine y_ (Kg U isAgg26 (by first|exact c_o|exact(Ah (Fnd.mono (by repeat (first|exact Ay|refine A1 ?_)) hM2)) 8 _ U)) ?_ U;refine y_ (Cb (T U) Ak runUnderlying26 sizeOf28 qom (by first|exact rfl|exact hM.arr.b (i:=0) qom|exact hM.arr.b (i:=1) qom)) ?_ U;refine y_ (Kh U isAgg28 sizeOf28 U (by first|exact(hM.arr.mono ((show H.Sublist ((n6,Cl (hdC h) 30)::(n5,Cl (encPo m) 28)::H) by exact sbt).trans hM2)).cs (i:=1) qom|exact As)) ?_ U;refine rO tb 2 U (e_ (Am (qe4 U U U U) call103 (image_s hfl ih (hA.mono ((show H.Sublist ((n6,Cl (hdC h) 30)::(n5,Cl (encPo m) 28)::H) by exact sbt).trans hM2)) ((hM.sub (A8 qom)).mono ((show H.Sublist ((n6,Cl (hdC h) 30)::(n5,Cl (encPo m) 28)::H) by exact sbt).trans hM2)) (by have:=Du (A8 (l:=m.subs) (i:=1) qom);omega) hy hF.2 l1 q1 c1 hZ1.1 (by have:=hZ1.2.2.2;omega))) ?_ U);rintro _ M3 ⟨l3,q3,c3,e3,rfl,he3,hM3⟩;refine kO tb 6 [8,9] rfl U (rG tb 3 U (Ai U (.tmp (Aa U) (Kf U)) ?_));exact⟨_,⟨l3,q3,c3,e3,rfl,fun h9=>by obtain⟨z1,z2,z3,z4⟩:=he3 h9;exact⟨z1,z2,fun g=>by rw[z3];simp only[den,hZ1.2.2.1],z4⟩,(show H.Sublist ((n6,Cl (hdC h) 30)::(n5,Cl (encPo m) 28)::H) by exact sbt).trans (hM2.trans hM3)⟩,sb0⟩
    ·obtain⟨x5,hl0,rfl,hx⟩:=oinv5 hI c24 c35 c50 c86;have hF:x5.Fit (bsF fl):=hF;refine rC tb 4 U (Bi 15 [(0,true),(1,true),(2,true),(3,true),(4,true),(5,true),(6,true),(7,false),(8,true),(9,true),(10,true),(11,true),(12,true),(13,true),(14,true)] _ mixd qkr sb0 ?_ Bn);refine rP tb 2 U (o_y U (Kg U isAgg26 (by first|exact c_o)) ?_ U Ae);refine o_y U (Cb (T U) Ak runUnderlying26 sizeOf28 qom (by first|exact rfl|exact hM.arr.b (i:=0) qom|exact hM.arr.b (i:=1) qom)) ?_ U Ae;refine o_y U (Kh U isAgg28 sizeOf28 U (by first|exact(hM.arr.mono ((show H.Sublist ((n6,Cl (hdC h) 30)::(n5,Cl (encPo m) 28)::H) by exact sbt))).cs (i:=0) qom|exact As)) ?_ U Ae;refine o_y U (Kh U isAgg30 sizeOf30 (Au hh) (by first|exact As)) ?_ U Ae;refine rP tb 1 U (o_e U (Am (qe4 U U U U) call104 (closure_s hfl ih (hA.mono (show H.Sublist ((n6,Cl (hdC h) 30)::(n5,Cl (encPo m) 28)::H) by exact sbt)) ((hM.sub (A8 qom)).mono ((show H.Sublist ((n6,Cl (hdC h) 30)::(n5,Cl (encPo m) 28)::H) by exact sbt))) (by have:=Du (A8 (l:=m.subs) (i:=0) qom);omega) hx hF hh)) ?_ U Ae);rintro _ M2 ⟨l6,q6,c6,r6,e6,rfl,he6,hM2⟩;refine⟨(by assumption),?_⟩;refine rP tb 7 U (A4 U (kO tb 10 [8,9] rfl U (rG tb 1 U (Ai U (.tmp (Aa U) (Kf U)) ?_))));exact⟨_,⟨l6,q6,c6,e6,rfl,he6,(show H.Sublist ((n6,Cl (hdC h) 30)::(n5,Cl (encPo m) 28)::H) by exact sbt).trans hM2⟩,sb0⟩
theorem rev_s {w0:World}{fl:List Fd}(hfl:FlOk fl){q:Option Addr}{c:Nat}{tick:Int}(N:Nat)(hN:N≤100000000):EvS13 w0 fl q c tick N:=by
 induction N with
 |zero=>intro H m p h _ _ h3;have:=Dz m;omega
 |succ N ih=>
  have ih:EvS13 w0 fl q c tick N:=ih qom;intro H m p h hA hM hm hI hF hh;exact rev_step hfl qom ih hA hM hm hI hF hh
abbrev Ev17 (w0:World) (P:Hd→Prop) (H:List (Nat × Obj)):Value→List (Nat × Obj)→Prop:=fun u H'=>∃ (l:List Hd) (q:Option Addr) (c:Nat) (b:Bool),u= .tuple #[.slice q l.length c, .bool b]∧(b=true→SetIs w0 P H' l q c)∧H.Sublist H'
theorem Ci {w0:World}{H:List (Nat × Obj)}{fl:List Fd}(hfl:FlOk fl){q:Option Addr}{c:Nat}{tick:Int}{m:Pom}{p:Po}{h:Hd}(hA:FlA w0 H q fl)(hM:PoM w0 H m)(hm:m.sz≤100000000)(hI:IsO fl m p)(hF:p.Fit (bsF fl))(hh:HdOk h):
  FSpec Tryz.prog w0 17 #[.slice q fl.length c, .agg (encPo m).toArray, .agg (hdC h).toArray, .int .i64 tick] H (Ev17 w0 (den tick p h) H):=by
 refine Ar Tryz.func17 U ntmps17 U (rD tb 2 U (e_ (Kk U cs_) ?_ U));rintro _ _ ⟨n5,rfl,rfl⟩;refine e_ (Kk U cs_) ?_ U;rintro _ _ ⟨n6,rfl,rfl⟩;refine rO tb 7 U (y_ (Kh U isAgg28 sizeOf28 U (by first|exact As)) ?_ U);refine y_ (Kh U isAgg30 sizeOf30 (Au hh) (by first|exact As)) ?_ U;refine rO tb 1 U (e_ (Am (qe4 U U U U) call54 (rev_s hfl 100000000 (Nat.le_refl _) (hA.mono (by exact sbt)) (hM.mono (by exact sbt)) hm hI hF hh)) ?_ U);rintro _ M2 ⟨l2,q2,c2,e2,rfl,he2,hM2⟩;refine rO tb 17 U (Ai U (.tmp (Aa U) (Kf U)) ?_);exact⟨_,⟨l2,q2,c2,_,rfl,fun h9=>he2 (of_decide_eq_true h9),List.Sublist.trans (by exact sbt) hM2⟩,sb0⟩
theorem rheadT_s {w0:World}{H:List (Nat × Obj)}(h:Hd)(hh:HdOk h):
  FSpec Tryz.prog w0 16 #[.agg (hdC h).toArray] H (Still (.bool true) H):=by
 refine Ar Tryz.func16 U ntmps16 U ?_;have hlen:=hh.len;refine rD tb 2 U (e_ (Kk U cs_) ?_ U);rintro _ _ ⟨n1,rfl,rfl⟩;refine rO tb 10 U ?_;refine Bf (X:=Nat) (V:=fun i=>[(3, .int .i64 (i:Nat))]) (C:=[(1,_)]) (G:=fun i=>(n1,Cl (hdC h) 30)::H) (φ:=fun i=>i≤10) (μ:=fun i=>10 - i) (x0:=0) ?_ ⟨Aa U,trivial⟩ ⟨atd,trivial⟩ sb0 ?_
 ·exact Nat.zero_le _
 rintro i hi;refine rD tb 7 U ?_
 first|refine Ac (Aa U) (fun c5=> ?_) (fun c5=> ?_)|refine Ag (Aa U) (fun c5=> ?_) (fun c5=> ?_)
 ·have hi2:i<10:=by have h9:((i:Nat):Int)<10:=c5;omega
  have hgl:=hh.lt _ (A8 (l:=h) (i:=i) qom);refine rC tb 7 U (y_ (Bl (T U) (T U) runUnderlying30 sizeOf3 (by have h9:((i:Nat):Int)<10:=c5;omega)) ?_ U);refine y_ (Kg U isAgg3 (by first|exact c_o|exact Ct (Ah fdd) qom)) ?_ U;refine rO tb 2 U ?_
  first|refine Aj (s:=12) (Aa U) (fun c12=> ?_) (fun c12=> ?_)|refine Ax (s:=12) (Aa U) (fun c12=> ?_) (fun c12=> ?_)
  ·exfalso;have h9:((gd h i:Nat):Int)<0:=c12;omega
  ·skip
   refine rO tb 1 U (Ao (Bl (T U) (T U) runUnderlying30 sizeOf3 (by have h9:((i:Nat):Int)<10:=c5;omega)) U (Aw U U (Aa U)) ?_);refine Ao (Kg U isAgg3 (by first|exact c_o|exact Ct (Ah fdd) qom)) U (Aw U U (Aa U)) ?_;refine rO tb 4 U ?_
   first|refine Ac (Aa U) (fun c17=> ?_) (fun c17=> ?_)|refine Ag (Aa U) (fun c17=> ?_) (fun c17=> ?_)
   ·exfalso;have h9:((gd h i:Nat):Int)>65535:=c17;omega
   ·skip
    refine rC tb 5 U (y_ (Bc (T U) Ak qom) ?_ U);refine rO tb 2 U ?_;refine A3 (i+1) ?_ ?_ ⟨atd,trivial⟩ ⟨Aa U,trivial⟩ ?_
    ·exact hi2
    ·first|omega|(simp only[];omega)
    ·exact sbt
 ·skip
  refine rC tb 2 U (Av (rX tb 8 U (Ai U (Kf U) ?_)));exact⟨_,⟨rfl,rfl⟩,by exact sbt⟩
theorem set_eq {w0:World}{A B:Hd→Prop}{H H2:List (Nat × Obj)}{l1 l2:List Hd}{q1 q2:Option Addr}{c1 c2:Nat}(h1:SetIs w0 A H l1 q1 c1)(h2:SetIs w0 B H2 l2 q2 c2):l1=l2↔∀ g,A g↔B g:=
 ⟨fun e g=>by rw[← h1.2.2.1,← h2.2.2.1,e],fun e=>sorted_eq h1.2.1 h2.2.1 fun x=>by rw[h1.2.2.1,h2.2.2.1,e]⟩
section
variable {bs:List Nat} {ns:Ns} {a b:Nat} {t:Int} {x y:Po}
theorem can_eq (hb:BsOk bs)(hw:Wf (2*bs.length) ns)(la:a<ns.length)(lb:b<ns.length)(hx:x.Fit bs)(hy:y.Fit bs)(ra:Rep bs ns a (den t x))(rb:Rep bs ns b (den t y))(e:a=b){h:Hd}(hh:HdOk h)(g:Hd):den t x h g↔den t y h g:=by
 have key:=(rep_eq hb hw la lb ra rb).1 e
 constructor
 ·intro d;obtain⟨h1,h2⟩:=Cx hx hh d;exact(key h g hh h1 h2).1 d
 ·intro d;obtain⟨h1,h2⟩:=Cx hy hh d;exact(key h g hh h1 h2).2 d
theorem dhF_ok (ns:Ns)(bs:List Nat)(a b:Nat):HdOk (dhF ns bs a b):=by unfold dhF bhF;exact Cp _
theorem Ix (ns:Ns)(bs:List Nat)(a b:Nat):HdOk (dfH ns bs a b):=by unfold dfH;split;exact B7;exact dhF_ok _ _ _ _
theorem H8 (hb:BsOk bs)(hw:Wf (2*bs.length) ns)(la:a<ns.length)(lb:b<ns.length)(hx:x.Fit bs)(hy:y.Fit bs)(ra:Rep bs ns a (den t x))(rb:Rep bs ns b (den t y))(e:a≠b):(∃ g,¬ (den t x (dfH ns bs a b) g↔den t y (dfH ns bs a b) g))∧∀ h,HdOk h→hLt h (dfH ns bs a b)→∀ g,den t x h g↔den t y h g:=by
 unfold dfH;rw[if_neg e];exact differ_ok hb hw la lb e ra rb (fun h1 h2=>Cx hx h1 h2) (fun h1 h2=>Cx hy h1 h2)
theorem dfH_comm (hb:BsOk bs)(hw:Wf (2*bs.length) ns)(la:a<ns.length)(lb:b<ns.length)(hx:x.Fit bs)(hy:y.Fit bs)(ra:Rep bs ns a (den t x))(rb:Rep bs ns b (den t y)):dfH ns bs b a=dfH ns bs a b:=by
 by_cases e:a=b
 ·subst e;rfl
 ·obtain⟨⟨g1,d1⟩,k1⟩:=H8 hb hw la lb hx hy ra rb e;obtain⟨⟨g2,d2⟩,k2⟩:=H8 hb hw lb la hy hx rb ra (fun h=>e h.symm);rcases Ip (Ix ns bs b a) (Ix ns bs a b) with h|h|h
  ·exact(d2 (k1 _ (Ix _ _ _ _) h g2).symm).elim
  ·exact h
  ·exact(d1 (k2 _ (Ix _ _ _ _) h g1).symm).elim
end
theorem eqB4 (a:Bool)(w:World):(Op.equal 4 (.bool a) (.bool a)).run Tryz.prog w= .ok true w:=by cases a<;>kernel_rfl
theorem yl_neqBF {w0:World}{L:Fm}{H:List (Nat × Obj)}{ty yt:TypeId}{x y:Operand}{a c:Bool}(hx:Ev L x (.bool a))(hy:Ev L y (.bool c))(h:a=c):Yl Tryz.prog w0 (.binOp .neq 4 x y yt) ty L H (.bool false):=Ba U fun b w=>by
 subst h;simp[exO,execOp,hx b,hy b,binOp,eqGuard,eqB4,Sem.run_bind,Result.andThen]
theorem lright_v {w0:World}{H:List (Nat × Obj)}(fi:List Fi)(q:Option Addr)(n c:Nat)(hn:n=fi.length)(hA:Arr w0 H q 3 encFi fi)(hnm:∀ f∈fi,f.nm.size≤9223372036854775807){vs:List Value}(hi:List Int)(hvs:vs=hwC hi)(hl:hi.length=10)(tick:Int):
  FSpec Tryz.prog w0 10 #[.slice q n c, .agg vs.toArray, .int .i64 tick] H (SayB (FisOk fi∧(∀ k,k<10→0≤gd hi k∧gd hi k≤65535)∧0≤tick∧tick≤1073741824) H):=by
 subst hvs;exact lright_n fi q n c hn hA hnm hi hl tick
theorem Bh {w0:World}{bs:List Nat}{ns:Ns}{a b:Nat}{t:Int}{x y:Po}{H H2:List (Nat × Obj)}{l1 l2:List Hd}{q1 q2:Option Addr}{c1 c2:Nat}{g:Hd}(hb:BsOk bs)(hw:Wf (2*bs.length) ns)(la:a<ns.length)(lb:b<ns.length)(hx:x.Fit bs)(hy:y.Fit bs)(ra:Rep bs ns a (den t x))(rb:Rep bs ns b (den t y))(e:a≠b)(hg:g=dfH ns bs a b)(h1:SetIs w0 (den t x g) H l1 q1 c1)(h2:SetIs w0 (den t y g) H2 l2 q2 c2):decide (¬ l1=l2)=true:=by
 subst hg;obtain⟨g9,d9⟩:=(H8 hb hw la lb hx hy ra rb e).1;refine decide_eq_true ?_;exact fun e9=>d9 ((set_eq h1 h2).1 e9 g9)
theorem yl_neqAF {P:Program}{w0:World}{L:Fm}{H:List (Nat × Obj)}{ty yt t:TypeId}{x y:Operand}{xs ys:Array Value}{q:Prop}[Decidable q] (hx:Ev L x (.agg xs))(hy:Ev L y (.agg ys))(hg:P.eqGuardType P.depth t=false)(he:∀ w,(Op.equal t (.agg xs) (.agg ys)).run P w= .ok (decide q) w)(hq:q):Yl P w0 (.binOp .neq t x y yt) ty L H (.bool false):=by
 have:=yl_neqA (P:=P) (w0:=w0) (L:=L) (H:=H) (ty:=ty) (yt:=yt) hx hy hg he
 rwa [decide_eq_false (not_not_intro hq)] at this
theorem df_s {w0:World}{H:List (Nat × Obj)}{D:Sd}{v:Sv}{ns:Ns}{bs:List Nat}(hst:StOk D v ns)(hbs:BsOk bs)(hbe:D.bs=bs)(hS:(SM D v ns).Sublist H)(hB:Arr w0 H D.qb 1 encB1 bs){a b:Nat}(ha:a<ns.length)(hb:b<ns.length){g:Hd}(hg:dfH ns bs a b=g):
  FSpec Tryz.prog w0 15 #[.pointer (some ⟨D.p,0,none⟩), .int .i64 (a:Nat), .int .i64 (b:Nat)] H (Still (.tuple #[.agg (hdC g).toArray, .bool (decide (a≠b))]) H):=by
 subst hbe;subst hg;exact differ_s hst hbs hS hB a b ha hb
theorem canon_s {w0:World}{H:List (Nat × Obj)}(fi:List Fi)(q:Option Addr)(n c:Nat)(hn:n=fi.length)(hA:Arr w0 H q 3 encFi fi)(hnm:∀ f∈fi,f.nm.size≤9223372036854775807)(m1:Pom)(hM1:PoM w0 H m1)(hm1:m1.sz≤1048576)(hz1:NmO m1)(m2:Pom)(hM2:PoM w0 H m2)(hm2:m2.sz≤1048576)(hz2:NmO m2)(vs:List Value)(hi:List Int)(hvs:vs=hwC hi)(hil:hi.length=10)(tick:Int):
  FSpec Tryz.prog w0 3 #[.slice q n c, .agg (encPo m1).toArray, .agg (encPo m2).toArray, .agg vs.toArray, .int .i64 tick] H (Still (.bool true) H):=by
 refine Ar Tryz.func3 U ntmps3 U ?_;have hvl:vs.length=10:=by rw[hvs,List.length_map];exact hil
 refine rD tb 2 U (e_ (Kk U cs_) ?_ U);rintro _ _ ⟨n6,rfl,rfl⟩;refine e_ (Kk U cs_) ?_ U;rintro _ _ ⟨n7,rfl,rfl⟩;refine e_ (Kk U cs_) ?_ U;rintro _ _ ⟨n8,rfl,rfl⟩;refine rO tb 6 U (y_ (Kh U isAgg30 sizeOf30 hvl (by first|exact As)) ?_ U);refine rO tb 1 U (e_ (Am (qe3 U U U) call10 (lright_v fi q n c hn (hA.mono (by exact sbt)) hnm hi hvs hil tick)) ?_ U);rintro _ _ ⟨b0,⟨rfl,hr0⟩,rfl⟩;refine rO tb 7 U ?_
 first|refine Ao (A2 (T U)) U Ae ?_|refine Ao (Bg (T U)) U Ae ?_
 refine rO tb 2 U ?_
 first|refine Ac (Aa U) (fun c35=> ?_) (fun c35=> ?_)|refine Ag (Aa U) (fun c35=> ?_) (fun c35=> ?_)
 ·skip
  refine rC tb 2 U (y_ (Al .nil call11 (fun H' hs=>Cu)) (rO tb 5 U (Ai U (Kf U) ?_)) U)
  first|exact⟨_,⟨rfl,rfl⟩,hHM.trans (hM_4.trans (hM_5.trans (hM_6.trans hM_7)))⟩|exact⟨_,⟨congrArg Value.bool (Bh hbok g2.w la l2 hF1 hF2 ra r2 hne hg hZ5 hZ6),rfl⟩,hHM.trans (hM_4.trans (hM_5.trans (hM_6.trans hM_7)))⟩|(exfalso;simp[heq] at c172;done)|exact⟨_,⟨rfl,rfl⟩,by exact sbt⟩
 ·obtain⟨hfi,hhi,ht0,ht1⟩:=hr0 (by simpa using c35);obtain⟨fl,hfl,hlf,hAf⟩:=fis_fl hfi hA;obtain rfl:n=fl.length:=hn.trans hlf;obtain⟨h,hh,heh⟩:=hi_hd hil hhi;obtain rfl:vs=hdC h:=hvs.trans heh;refine rC tb 5 U (y_ (Kh U isAgg28 sizeOf28 U (by first|exact As)) ?_ U);refine e_ (Am (.cons (T U) (.cons (T U) (.cons Ak .nil))) call12 (right_s fl hfl q c (hAf.mono (by exact sbt)) (hM1.mono (by exact sbt)) qom hz1 12)) ?_ U;rintro _ _ ⟨b1,⟨rfl,hr1⟩,rfl⟩;refine rO tb 6 U (y_ (Kh U isAgg28 sizeOf28 U (by first|exact As)) ?_ U);refine e_ (Am (.cons (T U) (.cons (T U) (.cons Ak .nil))) call12 (right_s fl hfl q c (hAf.mono (by exact sbt)) (hM2.mono (by exact sbt)) qom hz2 12)) ?_ U;rintro _ _ ⟨b2,⟨rfl,hr2⟩,rfl⟩;refine rO tb 7 U ?_
  first|refine Ao (A2 (T U)) U Ae ?_|refine Ao (Bg (T U)) U Ae ?_
  refine rO tb 1 U ?_
  first|refine Aj (s:=45) (Aa U) (fun c45=> ?_) (fun c45=> ?_)|refine Ax (s:=45) (Aa U) (fun c45=> ?_) (fun c45=> ?_)
  ·skip
   refine rO tb 8 U (y_ (Al .nil call11 (fun H' hs=>Cu)) (rO tb 5 U (Ai U (Kf U) ?_)) U)
   first|exact⟨_,⟨rfl,rfl⟩,hHM.trans (hM_4.trans (hM_5.trans (hM_6.trans hM_7)))⟩|exact⟨_,⟨congrArg Value.bool (Bh hbok g2.w la l2 hF1 hF2 ra r2 hne hg hZ5 hZ6),rfl⟩,hHM.trans (hM_4.trans (hM_5.trans (hM_6.trans hM_7)))⟩|(exfalso;simp[heq] at c172;done)|exact⟨_,⟨rfl,rfl⟩,by exact sbt⟩
  ·have hb1:b1=true:=by simpa using c45
   refine rO tb 1 U ?_
   first|refine Ao (A2 (T U)) U (Aw U U (Aa U)) ?_|refine Ao (Bg (T U)) U (Aw U U (Aa U)) ?_
   refine rO tb 3 U ?_
   first|refine Ac (Aa U) (fun c48=> ?_) (fun c48=> ?_)|refine Ag (Aa U) (fun c48=> ?_) (fun c48=> ?_)
   ·skip
    refine rC tb 2 U (y_ (Al .nil call11 (fun H' hs=>Cu)) (rO tb 5 U (Ai U (Kf U) ?_)) U)
    first|exact⟨_,⟨rfl,rfl⟩,hHM.trans (hM_4.trans (hM_5.trans (hM_6.trans hM_7)))⟩|exact⟨_,⟨congrArg Value.bool (Bh hbok g2.w la l2 hF1 hF2 ra r2 hne hg hZ5 hZ6),rfl⟩,hHM.trans (hM_4.trans (hM_5.trans (hM_6.trans hM_7)))⟩|(exfalso;simp[heq] at c172;done)|exact⟨_,⟨rfl,rfl⟩,by exact sbt⟩
   ·have hb2:b2=true:=by simpa using c48
    obtain⟨p1,hI1,hF1⟩:=fm_isO hfl (hr1 hb1).2.1 (hr1 hb1).2.2;obtain⟨p2,hI2,hF2⟩:=fm_isO hfl (hr2 hb2).2.1 (hr2 hb2).2.2;refine rC tb 5 U (e_ (Am (.cons (T U) (.cons Ak .nil)) call13 (new_s fl hfl q c (hAf.mono (by exact sbt)) 200000 qom)) ?_ U);rintro _ _ ⟨⟨dx,db,p,mp,v⟩,⟨rfl,hdx,hdb,hst⟩,rfl⟩
    dsimp only at hdx hdb hst
    refine rO tb 6 U (y_ (Kh U isAgg28 sizeOf28 U (by first|exact As)) ?_ U);refine rO tb 1 U (e_ (Am (qe3 U U U) call14 (Fv (R:=(slH db ((bsF fl).flatMap encB1) 3++(slH dx (fl.flatMap encF) 67++((n8,Cl (hdC h) 30)::(n7,Cl (encPo m2) 28)::(n6,Cl (encPo m1) 28)::H)))) hst ((Jq (w0:=w0) (H:=((n8,Cl (hdC h) 30)::(n7,Cl (encPo m2) 28)::(n6,Cl (encPo m1) 28)::H)) hfl hdx hdb 200000 p mp).mono (List.Sublist.refl _)) m1 p1 hI1 hF1 (hM1.mono (by exact sbt)) tick)) ?_ U);rintro _ _ ⟨⟨id1,e1,v1,ns1⟩,⟨rfl,hc1,hst1⟩,rfl⟩
    dsimp only at hc1 hst1
    refine kO tb 7 [0,4,6,7,8,14,15,16] rfl U (rG tb 3 U (y_ (Kh U isAgg28 sizeOf28 U (by first|exact As)) ?_ U));refine rO tb 1 U (e_ (Am (qe3 U U U) call14 (Fv (R:=(slH db ((bsF fl).flatMap encB1) 3++(slH dx (fl.flatMap encF) 67++((n8,Cl (hdC h) 30)::(n7,Cl (encPo m2) 28)::(n6,Cl (encPo m1) 28)::H)))) hst1 ((Jq (w0:=w0) (H:=((n8,Cl (hdC h) 30)::(n7,Cl (encPo m2) 28)::(n6,Cl (encPo m1) 28)::H)) hfl hdx hdb 200000 p mp).mono (List.Sublist.refl _)) m2 p2 hI2 hF2 (hM2.mono (by exact sbt)) tick)) ?_ U);rintro _ _ ⟨⟨id2,e2,v2,ns2⟩,⟨rfl,hc2,hst2⟩,rfl⟩
    dsimp only at hc2 hst2
    refine rO tb 13 U ?_
    first|refine Aj (s:=68) (Aa U) (fun c68=> ?_) (fun c68=> ?_)|refine Ax (s:=68) (Aa U) (fun c68=> ?_) (fun c68=> ?_)
    ·skip
     refine rO tb 8 U (y_ (Al .nil call11 (fun H' hs=>Cu)) (rO tb 5 U (Ai U (Kf U) ?_)) U)
     first|exact⟨_,⟨rfl,rfl⟩,hHM.trans (hM_4.trans (hM_5.trans (hM_6.trans hM_7)))⟩|exact⟨_,⟨congrArg Value.bool (Bh hbok g2.w la l2 hF1 hF2 ra r2 hne hg hZ5 hZ6),rfl⟩,hHM.trans (hM_4.trans (hM_5.trans (hM_6.trans hM_7)))⟩|(exfalso;simp[heq] at c172;done)|exact⟨_,⟨rfl,rfl⟩,by exact sbt⟩
    ·have h1z:=Classical.not_not.1 c68;refine rO tb 5 U ?_
     first|refine Ac (Aa U) (fun c71=> ?_) (fun c71=> ?_)|refine Ag (Aa U) (fun c71=> ?_) (fun c71=> ?_)
     ·skip
      refine rC tb 2 U (y_ (Al .nil call11 (fun H' hs=>Cu)) (rO tb 5 U (Ai U (Kf U) ?_)) U)
      first|exact⟨_,⟨rfl,rfl⟩,hHM.trans (hM_4.trans (hM_5.trans (hM_6.trans hM_7)))⟩|exact⟨_,⟨congrArg Value.bool (Bh hbok g2.w la l2 hF1 hF2 ra r2 hne hg hZ5 hZ6),rfl⟩,hHM.trans (hM_4.trans (hM_5.trans (hM_6.trans hM_7)))⟩|(exfalso;simp[heq] at c172;done)|exact⟨_,⟨rfl,rfl⟩,by exact sbt⟩
     ·have f1:=try_ok hc1 h1z;have f2:=try_ok hc2 (Classical.not_not.1 c71);have hbok:=Jj hfl;obtain⟨g1,l1,r1⟩:=Cq hbok tick _ p1 hF1 (Ke _) f1;obtain⟨g2,l2,r2⟩:=Cq hbok tick _ p2 hF2 g1.w f2;have la:=Nat.lt_of_lt_of_le l1 g2.le;have ra:=r1.gr g1.w l1 g2;have hbits:=((Jq (w0:=w0) (H:=((n8,Cl (hdC h) 30)::(n7,Cl (encPo m2) 28)::(n6,Cl (encPo m1) 28)::H)) hfl hdx hdb 200000 p mp).mono (List.Sublist.refl _)).bits;have hgg:=dfH_comm hbok g2.w la l2 hF1 hF2 ra r2;obtain⟨g,hg⟩:∃ g,g=dfH ns2 (bsF fl) id1 id2:=⟨_,rfl⟩;have hgo:HdOk g:=by rw[hg];exact Ix _ _ _ _
      refine rC tb 7 U ?_;refine y_ (Al (qe3 U U U) call15 (fun H' hs=>df_s (D:=(NewD fl 200000 dx db p mp)) hst2 hbok U (List.Sublist.trans (by repeat (first|exact List.sublist_append_left _ _|refine List.Sublist.cons _ ?_)) hs) ((hbits.mono (by repeat (first|exact List.sublist_append_right _ _|refine List.Sublist.cons _ ?_))).mono hs) la l2 hg.symm)) ?_ U;refine rO tb 3 U (e_ (An zeroValue30 cs_) ?_ U);rintro _ _ ⟨n19,rfl,rfl⟩;refine e_ (Kj U U sizeOf30 .agg (Dr _) (Au hgo) (by repeat (first|exact Upd.h|apply Upd.t|apply Cd)) (by rw[Au hgo];rfl)) ?_ U;rintro _ _ ⟨rfl,rfl⟩;refine kO tb 3 [0,4,6,7,8,14,15,17,19,20] rfl U ?_;refine Ib (X:=Nat × List (Nat × Obj)) (V:=fun ⟨n21,M⟩=>[(21, .pointer (some ⟨n21,0,none⟩)),(22, .bool (decide (id2≠id1)))]) (C:=[(0,_),(4,_),(6,_),(7,_),(8,_),(15,_),(17,_),(19,_),(20,_)]) (G:=fun ⟨n21,M⟩=>M) (φ:=fun ⟨n21,M⟩=>Fnd M n6 (Cl (encPo m1) 28)∧Fnd M n7 (Cl (encPo m2) 28)∧Fnd M n8 (Cl (hdC h) 30)∧Fnd M n19 (Cl (hdC g) 30)∧Fnd M n21 (Cl (hdC g) 30)∧H.Sublist M) ⟨Aa rfl,Aa rfl,Aa rfl,Aa rfl,Aa rfl,Aa rfl,Aa rfl,Aa rfl,Aa rfl,trivial⟩ ?_ ?_
      ·refine rD tb 4 U ?_;refine y_ (Al (qe3 U U U) call15 (fun H' hs=>df_s (D:=(NewD fl 200000 dx db p mp)) hst2 hbok U (List.Sublist.trans (by repeat (first|exact List.sublist_append_left _ _|refine List.Sublist.cons _ ?_)) hs) ((hbits.mono (by repeat (first|exact List.sublist_append_right _ _|refine List.Sublist.cons _ ?_))).mono hs) l2 la (hgg.trans hg.symm))) ?_ U;refine rO tb 3 U (e_ (An zeroValue30 cs_) ?_ U);rintro _ _ ⟨n21,rfl,rfl⟩;refine e_ (Kj U U sizeOf30 .agg (Dr _) (Au hgo) (by repeat (first|exact Upd.h|apply Upd.t|apply Cd)) (by rw[Au hgo];rfl)) ?_ U;rintro _ _ ⟨rfl,rfl⟩;refine rO tb 2 U ?_;refine Bb ((n21,_)) ?_ ⟨atd,atd,trivial⟩ ⟨Aa U,Aa U,Aa U,Aa U,Aa U,Aa U,Aa U,Aa U,Aa U,trivial⟩ sbt;exact⟨fdd,fdd,fdd,fdd,fdd,by exact sbt⟩
      rintro⟨n21,M⟩ ⟨fb6,fb7,fb8,fb19,fb21,hHM⟩;refine rC tb 7 U (y_ (yl_neqBF (T U) (T U) (decide_eq_decide.2 qom)) ?_ U);refine rO tb 3 U (Ao (yl_neqBF (T U) (T U) (decide_eq_decide.2 qom)) U (Aw U U (Aa U)) ?_);refine rO tb 2 U (Ao (Kh U isAgg30 sizeOf30 (Au hgo) (by first|exact Ah (Fnd.mono fb21 (List.Sublist.refl _))|exact As)) U (Aw U U (Aa U)) ?_);refine Ao (Kh U isAgg30 sizeOf30 (Au hgo) (by first|exact Ah (Fnd.mono fb19 (List.Sublist.refl _))|exact As)) U (Aw U U (Aa U)) ?_;refine Ao (yl_neqAF (T U) (T U) qkr (eqHd hgo hgo) U) U (Aw U U (Aa U)) ?_;refine rO tb 2 U (Ao (Kh U isAgg30 sizeOf30 (Au hgo) (by first|exact Ah (Fnd.mono fb19 (List.Sublist.refl _))|exact As)) U (Aw U U (Aa U)) ?_);refine Ao (Al (qe1 U) call16 (fun H' hs=>rheadT_s g hgo)) U (Aw U U (Aa U)) ?_
      first|refine Ao (A2 (T U)) U (Aw U U (Aa U)) ?_|refine Ao (Bg (T U)) U (Aw U U (Aa U)) ?_
      refine kO tb 3 [0,4,6,7,8,19,20,106] rfl U (rG tb 6 U (y_ (Kh U isAgg28 sizeOf28 U (by first|exact Ah (Fnd.mono fb6 (List.Sublist.refl _))|exact As)) ?_ U));refine y_ (Kh U isAgg30 sizeOf30 (Au hh) (by first|exact Ah (Fnd.mono fb8 (List.Sublist.refl _))|exact As)) ?_ U;refine rO tb 1 U (e_ (Am (qe4 U U U U) call17 (Ci hfl (hAf.mono (hHM)) (hM1.mono (hHM)) qom hI1 hF1 hh)) ?_ U);rintro _ M4 ⟨l3,q3,c3,w3,rfl,hw3,hM_4⟩;refine rO tb 10 U (y_ (Kh U isAgg28 sizeOf28 U (by first|exact Ah (Fnd.mono fb7 hM_4)|exact As)) ?_ U);refine y_ (Kh U isAgg30 sizeOf30 (Au hh) (by first|exact Ah (Fnd.mono fb8 hM_4)|exact As)) ?_ U;refine rO tb 1 U (e_ (Am (qe4 U U U U) call17 (Ci hfl (hAf.mono (hHM.trans hM_4)) (hM2.mono (hHM.trans hM_4)) qom hI2 hF2 hh)) ?_ U);rintro _ M5 ⟨l4,q4,c4,w4,rfl,hw4,hM_5⟩;refine rO tb 10 U ?_
      first|refine Ao (A2 (T U)) U Ae ?_|refine Ao (Bg (T U)) U Ae ?_
      refine rO tb 1 U ?_
      first|refine Aj (s:=125) (Aa U) (fun c125=> ?_) (fun c125=> ?_)|refine Ax (s:=125) (Aa U) (fun c125=> ?_) (fun c125=> ?_)
      ·have heq:id1=id2:=by simpa using c125
       refine kO tb 8 [0,4,6,7,19,20,23,24,25,26,27] rfl U (rG tb 5 U ?_)
       first|refine Aj (s:=132) (Aa U) (fun c132=> ?_) (fun c132=> ?_)|refine Ax (s:=132) (Aa U) (fun c132=> ?_) (fun c132=> ?_)
       ·have hZ3:=hw3 c132;refine rO tb 3 U ?_
        first|refine Aj (s:=135) (Aa U) (fun c135=> ?_) (fun c135=> ?_)|refine Ax (s:=135) (Aa U) (fun c135=> ?_) (fun c135=> ?_)
        ·have hZ4:=hw4 c135;refine rO tb 5 U (Ao (Al (qe2 U U) call19 (fun H' hs=>Fh l3 l4 q3 q4 c3 c4 ((hZ3.1.mono hM_5).mono hs) (hZ4.1.mono hs) (by have:=hZ3.2.2.2;omega))) U (Aw U U (Aa U)) ?_)
         first|refine Ao (A2 (T U)) U (Aw U U (Aa U)) ?_|refine Ao (Bg (T U)) U (Aw U U (Aa U)) ?_
         refine rO tb 3 U ?_
         first|refine Ac (Aa U) (fun c143=> ?_) (fun c143=> ?_)|refine Ag (Aa U) (fun c143=> ?_) (fun c143=> ?_)
         ·exfalso;have e9:=(set_eq hZ3 hZ4).2 (fun g9=>can_eq hbok g2.w la l2 hF1 hF2 ra r2 heq hh g9);simp[e9] at c143
         ·skip
          refine rC tb 5 U (y_ (Kh U isAgg28 sizeOf28 U (by first|exact Ah (Fnd.mono fb6 (hM_4.trans hM_5))|exact As)) ?_ U);refine y_ (Kh U isAgg30 sizeOf30 (Au hgo) (by first|exact Ah (Fnd.mono fb19 (hM_4.trans hM_5))|exact As)) ?_ U;refine rO tb 1 U (e_ (Am (qe4 U U U U) call17 (Ci hfl (hAf.mono (hHM.trans (hM_4.trans hM_5))) (hM1.mono (hHM.trans (hM_4.trans hM_5))) qom hI1 hF1 hgo)) ?_ U);rintro _ M6 ⟨l5,q5,c5,w5,rfl,hw5,hM_6⟩;refine kO tb 7 [0,4,7,19,20,24,28] rfl U (rG tb 3 U (y_ (Kh U isAgg28 sizeOf28 U (by first|exact Ah (Fnd.mono fb7 (hM_4.trans (hM_5.trans hM_6)))|exact As)) ?_ U));refine y_ (Kh U isAgg30 sizeOf30 (Au hgo) (by first|exact Ah (Fnd.mono fb19 (hM_4.trans (hM_5.trans hM_6)))|exact As)) ?_ U;refine rO tb 1 U (e_ (Am (qe4 U U U U) call17 (Ci hfl (hAf.mono (hHM.trans (hM_4.trans (hM_5.trans hM_6)))) (hM2.mono (hHM.trans (hM_4.trans (hM_5.trans hM_6)))) qom hI2 hF2 hgo)) ?_ U);rintro _ M7 ⟨l6,q6,c6,w6,rfl,hw6,hM_7⟩;refine rO tb 9 U (y_ (Al .nil call11 (fun H' hs=>Cu)) (rO tb 2 U ?_) U)
          first|refine Ao (A2 (T U)) U (Aw U U (Aa U)) ?_|refine Ao (Bg (T U)) U (Aw U U (Aa U)) ?_
          refine rO tb 1 U ?_
          first|refine Aj (s:=164) (Aa U) (fun c164=> ?_) (fun c164=> ?_)|refine Ax (s:=164) (Aa U) (fun c164=> ?_) (fun c164=> ?_)
          ·skip
           refine kO tb 17 [10] rfl U (rG tb 1 U (Ai U (Kf U) ?_))
           first|exact⟨_,⟨rfl,rfl⟩,hHM.trans (hM_4.trans (hM_5.trans (hM_6.trans hM_7)))⟩|exact⟨_,⟨congrArg Value.bool (Bh hbok g2.w la l2 hF1 hF2 ra r2 hne hg hZ5 hZ6),rfl⟩,hHM.trans (hM_4.trans (hM_5.trans (hM_6.trans hM_7)))⟩|(exfalso;simp[heq] at c172;done)|exact⟨_,⟨rfl,rfl⟩,by exact sbt⟩
          ·have hZ5:=hw5 (by simpa using c164);refine rO tb 1 U ?_
           first|refine Ao (A2 (T U)) U (Aw U U (Aa U)) ?_|refine Ao (Bg (T U)) U (Aw U U (Aa U)) ?_
           refine rO tb 2 U ?_
           first|refine Aj (s:=168) (Aa U) (fun c168=> ?_) (fun c168=> ?_)|refine Ax (s:=168) (Aa U) (fun c168=> ?_) (fun c168=> ?_)
           ·skip
            refine kO tb 13 [10] rfl U (rG tb 1 U (Ai U (Kf U) ?_))
            first|exact⟨_,⟨rfl,rfl⟩,hHM.trans (hM_4.trans (hM_5.trans (hM_6.trans hM_7)))⟩|exact⟨_,⟨congrArg Value.bool (Bh hbok g2.w la l2 hF1 hF2 ra r2 hne hg hZ5 hZ6),rfl⟩,hHM.trans (hM_4.trans (hM_5.trans (hM_6.trans hM_7)))⟩|(exfalso;simp[heq] at c172;done)|exact⟨_,⟨rfl,rfl⟩,by exact sbt⟩
           ·have hZ6:=hw6 (by simpa using c168);refine rO tb 1 U ?_
            first|refine Ao (A2 (T U)) U (Aw U U (Aa U)) ?_|refine Ao (Bg (T U)) U (Aw U U (Aa U)) ?_
            refine rO tb 2 U ?_
            first|refine Aj (s:=172) (Aa U) (fun c172=> ?_) (fun c172=> ?_)|refine Ax (s:=172) (Aa U) (fun c172=> ?_) (fun c172=> ?_)
            ·refine kO tb 9 [10] rfl U (rG tb 1 U (Ai U (Kf U) ?_))
             first|exact⟨_,⟨rfl,rfl⟩,hHM.trans (hM_4.trans (hM_5.trans (hM_6.trans hM_7)))⟩|exact⟨_,⟨congrArg Value.bool (Bh hbok g2.w la l2 hF1 hF2 ra r2 hne hg hZ5 hZ6),rfl⟩,hHM.trans (hM_4.trans (hM_5.trans (hM_6.trans hM_7)))⟩|(exfalso;simp[heq] at c172;done)|exact⟨_,⟨rfl,rfl⟩,by exact sbt⟩
            ·refine rO tb 2 U (Ao (Al (qe2 U U) call19 (fun H' hs=>Fh l5 l6 q5 q6 c5 c6 ((hZ5.1.mono hM_7).mono hs) (hZ6.1.mono hs) (by have:=hZ5.2.2.2;omega))) U (Aw U U (Aa U)) ?_)
             first|refine Ao (A2 (T U)) U (Aw U U (Aa U)) ?_|refine Ao (Bg (T U)) U (Aw U U (Aa U)) ?_
             refine kO tb 5 [10] rfl U (rG tb 1 U (Ai U (Kf U) ?_))
             first|exact⟨_,⟨rfl,rfl⟩,hHM.trans (hM_4.trans (hM_5.trans (hM_6.trans hM_7)))⟩|exact⟨_,⟨congrArg Value.bool (Bh hbok g2.w la l2 hF1 hF2 ra r2 hne hg hZ5 hZ6),rfl⟩,hHM.trans (hM_4.trans (hM_5.trans (hM_6.trans hM_7)))⟩|(exfalso;simp[heq] at c172;done)|exact⟨_,⟨rfl,rfl⟩,by exact sbt⟩
        ·skip
         refine rO tb 16 U (y_ (Kh U isAgg28 sizeOf28 U (by first|exact Ah (Fnd.mono fb6 (hM_4.trans hM_5))|exact As)) ?_ U);refine y_ (Kh U isAgg30 sizeOf30 (Au hgo) (by first|exact Ah (Fnd.mono fb19 (hM_4.trans hM_5))|exact As)) ?_ U;refine rO tb 1 U (e_ (Am (qe4 U U U U) call17 (Ci hfl (hAf.mono (hHM.trans (hM_4.trans hM_5))) (hM1.mono (hHM.trans (hM_4.trans hM_5))) qom hI1 hF1 hgo)) ?_ U);rintro _ M6 ⟨l5,q5,c5,w5,rfl,hw5,hM_6⟩;refine kO tb 7 [0,4,7,19,20,24,28] rfl U (rG tb 3 U (y_ (Kh U isAgg28 sizeOf28 U (by first|exact Ah (Fnd.mono fb7 (hM_4.trans (hM_5.trans hM_6)))|exact As)) ?_ U));refine y_ (Kh U isAgg30 sizeOf30 (Au hgo) (by first|exact Ah (Fnd.mono fb19 (hM_4.trans (hM_5.trans hM_6)))|exact As)) ?_ U;refine rO tb 1 U (e_ (Am (qe4 U U U U) call17 (Ci hfl (hAf.mono (hHM.trans (hM_4.trans (hM_5.trans hM_6)))) (hM2.mono (hHM.trans (hM_4.trans (hM_5.trans hM_6)))) qom hI2 hF2 hgo)) ?_ U);rintro _ M7 ⟨l6,q6,c6,w6,rfl,hw6,hM_7⟩;refine rO tb 9 U (y_ (Al .nil call11 (fun H' hs=>Cu)) (rO tb 2 U ?_) U)
         first|refine Ao (A2 (T U)) U (Aw U U (Aa U)) ?_|refine Ao (Bg (T U)) U (Aw U U (Aa U)) ?_
         refine rO tb 1 U ?_
         first|refine Aj (s:=164) (Aa U) (fun c164=> ?_) (fun c164=> ?_)|refine Ax (s:=164) (Aa U) (fun c164=> ?_) (fun c164=> ?_)
         ·skip
          refine kO tb 17 [10] rfl U (rG tb 1 U (Ai U (Kf U) ?_))
          first|exact⟨_,⟨rfl,rfl⟩,hHM.trans (hM_4.trans (hM_5.trans (hM_6.trans hM_7)))⟩|exact⟨_,⟨congrArg Value.bool (Bh hbok g2.w la l2 hF1 hF2 ra r2 hne hg hZ5 hZ6),rfl⟩,hHM.trans (hM_4.trans (hM_5.trans (hM_6.trans hM_7)))⟩|(exfalso;simp[heq] at c172;done)|exact⟨_,⟨rfl,rfl⟩,by exact sbt⟩
         ·have hZ5:=hw5 (by simpa using c164);refine rO tb 1 U ?_
          first|refine Ao (A2 (T U)) U (Aw U U (Aa U)) ?_|refine Ao (Bg (T U)) U (Aw U U (Aa U)) ?_
          refine rO tb 2 U ?_
          first|refine Aj (s:=168) (Aa U) (fun c168=> ?_) (fun c168=> ?_)|refine Ax (s:=168) (Aa U) (fun c168=> ?_) (fun c168=> ?_)
          ·skip
           refine kO tb 13 [10] rfl U (rG tb 1 U (Ai U (Kf U) ?_))
           first|exact⟨_,⟨rfl,rfl⟩,hHM.trans (hM_4.trans (hM_5.trans (hM_6.trans hM_7)))⟩|exact⟨_,⟨congrArg Value.bool (Bh hbok g2.w la l2 hF1 hF2 ra r2 hne hg hZ5 hZ6),rfl⟩,hHM.trans (hM_4.trans (hM_5.trans (hM_6.trans hM_7)))⟩|(exfalso;simp[heq] at c172;done)|exact⟨_,⟨rfl,rfl⟩,by exact sbt⟩
          ·have hZ6:=hw6 (by simpa using c168);refine rO tb 1 U ?_
           first|refine Ao (A2 (T U)) U (Aw U U (Aa U)) ?_|refine Ao (Bg (T U)) U (Aw U U (Aa U)) ?_
           refine rO tb 2 U ?_
           first|refine Aj (s:=172) (Aa U) (fun c172=> ?_) (fun c172=> ?_)|refine Ax (s:=172) (Aa U) (fun c172=> ?_) (fun c172=> ?_)
           ·refine kO tb 9 [10] rfl U (rG tb 1 U (Ai U (Kf U) ?_))
            first|exact⟨_,⟨rfl,rfl⟩,hHM.trans (hM_4.trans (hM_5.trans (hM_6.trans hM_7)))⟩|exact⟨_,⟨congrArg Value.bool (Bh hbok g2.w la l2 hF1 hF2 ra r2 hne hg hZ5 hZ6),rfl⟩,hHM.trans (hM_4.trans (hM_5.trans (hM_6.trans hM_7)))⟩|(exfalso;simp[heq] at c172;done)|exact⟨_,⟨rfl,rfl⟩,by exact sbt⟩
           ·refine rO tb 2 U (Ao (Al (qe2 U U) call19 (fun H' hs=>Fh l5 l6 q5 q6 c5 c6 ((hZ5.1.mono hM_7).mono hs) (hZ6.1.mono hs) (by have:=hZ5.2.2.2;omega))) U (Aw U U (Aa U)) ?_)
            first|refine Ao (A2 (T U)) U (Aw U U (Aa U)) ?_|refine Ao (Bg (T U)) U (Aw U U (Aa U)) ?_
            refine kO tb 5 [10] rfl U (rG tb 1 U (Ai U (Kf U) ?_))
            first|exact⟨_,⟨rfl,rfl⟩,hHM.trans (hM_4.trans (hM_5.trans (hM_6.trans hM_7)))⟩|exact⟨_,⟨congrArg Value.bool (Bh hbok g2.w la l2 hF1 hF2 ra r2 hne hg hZ5 hZ6),rfl⟩,hHM.trans (hM_4.trans (hM_5.trans (hM_6.trans hM_7)))⟩|(exfalso;simp[heq] at c172;done)|exact⟨_,⟨rfl,rfl⟩,by exact sbt⟩
       ·skip
        refine rO tb 19 U (y_ (Kh U isAgg28 sizeOf28 U (by first|exact Ah (Fnd.mono fb6 (hM_4.trans hM_5))|exact As)) ?_ U);refine y_ (Kh U isAgg30 sizeOf30 (Au hgo) (by first|exact Ah (Fnd.mono fb19 (hM_4.trans hM_5))|exact As)) ?_ U;refine rO tb 1 U (e_ (Am (qe4 U U U U) call17 (Ci hfl (hAf.mono (hHM.trans (hM_4.trans hM_5))) (hM1.mono (hHM.trans (hM_4.trans hM_5))) qom hI1 hF1 hgo)) ?_ U);rintro _ M6 ⟨l5,q5,c5,w5,rfl,hw5,hM_6⟩;refine kO tb 7 [0,4,7,19,20,24,28] rfl U (rG tb 3 U (y_ (Kh U isAgg28 sizeOf28 U (by first|exact Ah (Fnd.mono fb7 (hM_4.trans (hM_5.trans hM_6)))|exact As)) ?_ U));refine y_ (Kh U isAgg30 sizeOf30 (Au hgo) (by first|exact Ah (Fnd.mono fb19 (hM_4.trans (hM_5.trans hM_6)))|exact As)) ?_ U;refine rO tb 1 U (e_ (Am (qe4 U U U U) call17 (Ci hfl (hAf.mono (hHM.trans (hM_4.trans (hM_5.trans hM_6)))) (hM2.mono (hHM.trans (hM_4.trans (hM_5.trans hM_6)))) qom hI2 hF2 hgo)) ?_ U);rintro _ M7 ⟨l6,q6,c6,w6,rfl,hw6,hM_7⟩;refine rO tb 9 U (y_ (Al .nil call11 (fun H' hs=>Cu)) (rO tb 2 U ?_) U)
        first|refine Ao (A2 (T U)) U (Aw U U (Aa U)) ?_|refine Ao (Bg (T U)) U (Aw U U (Aa U)) ?_
        refine rO tb 1 U ?_
        first|refine Aj (s:=164) (Aa U) (fun c164=> ?_) (fun c164=> ?_)|refine Ax (s:=164) (Aa U) (fun c164=> ?_) (fun c164=> ?_)
        ·skip
         refine kO tb 17 [10] rfl U (rG tb 1 U (Ai U (Kf U) ?_))
         first|exact⟨_,⟨rfl,rfl⟩,hHM.trans (hM_4.trans (hM_5.trans (hM_6.trans hM_7)))⟩|exact⟨_,⟨congrArg Value.bool (Bh hbok g2.w la l2 hF1 hF2 ra r2 hne hg hZ5 hZ6),rfl⟩,hHM.trans (hM_4.trans (hM_5.trans (hM_6.trans hM_7)))⟩|(exfalso;simp[heq] at c172;done)|exact⟨_,⟨rfl,rfl⟩,by exact sbt⟩
        ·have hZ5:=hw5 (by simpa using c164);refine rO tb 1 U ?_
         first|refine Ao (A2 (T U)) U (Aw U U (Aa U)) ?_|refine Ao (Bg (T U)) U (Aw U U (Aa U)) ?_
         refine rO tb 2 U ?_
         first|refine Aj (s:=168) (Aa U) (fun c168=> ?_) (fun c168=> ?_)|refine Ax (s:=168) (Aa U) (fun c168=> ?_) (fun c168=> ?_)
         ·skip
          refine kO tb 13 [10] rfl U (rG tb 1 U (Ai U (Kf U) ?_))
          first|exact⟨_,⟨rfl,rfl⟩,hHM.trans (hM_4.trans (hM_5.trans (hM_6.trans hM_7)))⟩|exact⟨_,⟨congrArg Value.bool (Bh hbok g2.w la l2 hF1 hF2 ra r2 hne hg hZ5 hZ6),rfl⟩,hHM.trans (hM_4.trans (hM_5.trans (hM_6.trans hM_7)))⟩|(exfalso;simp[heq] at c172;done)|exact⟨_,⟨rfl,rfl⟩,by exact sbt⟩
         ·have hZ6:=hw6 (by simpa using c168);refine rO tb 1 U ?_
          first|refine Ao (A2 (T U)) U (Aw U U (Aa U)) ?_|refine Ao (Bg (T U)) U (Aw U U (Aa U)) ?_
          refine rO tb 2 U ?_
          first|refine Aj (s:=172) (Aa U) (fun c172=> ?_) (fun c172=> ?_)|refine Ax (s:=172) (Aa U) (fun c172=> ?_) (fun c172=> ?_)
          ·refine kO tb 9 [10] rfl U (rG tb 1 U (Ai U (Kf U) ?_))
           first|exact⟨_,⟨rfl,rfl⟩,hHM.trans (hM_4.trans (hM_5.trans (hM_6.trans hM_7)))⟩|exact⟨_,⟨congrArg Value.bool (Bh hbok g2.w la l2 hF1 hF2 ra r2 hne hg hZ5 hZ6),rfl⟩,hHM.trans (hM_4.trans (hM_5.trans (hM_6.trans hM_7)))⟩|(exfalso;simp[heq] at c172;done)|exact⟨_,⟨rfl,rfl⟩,by exact sbt⟩
          ·refine rO tb 2 U (Ao (Al (qe2 U U) call19 (fun H' hs=>Fh l5 l6 q5 q6 c5 c6 ((hZ5.1.mono hM_7).mono hs) (hZ6.1.mono hs) (by have:=hZ5.2.2.2;omega))) U (Aw U U (Aa U)) ?_)
           first|refine Ao (A2 (T U)) U (Aw U U (Aa U)) ?_|refine Ao (Bg (T U)) U (Aw U U (Aa U)) ?_
           refine kO tb 5 [10] rfl U (rG tb 1 U (Ai U (Kf U) ?_))
           first|exact⟨_,⟨rfl,rfl⟩,hHM.trans (hM_4.trans (hM_5.trans (hM_6.trans hM_7)))⟩|exact⟨_,⟨congrArg Value.bool (Bh hbok g2.w la l2 hF1 hF2 ra r2 hne hg hZ5 hZ6),rfl⟩,hHM.trans (hM_4.trans (hM_5.trans (hM_6.trans hM_7)))⟩|(exfalso;simp[heq] at c172;done)|exact⟨_,⟨rfl,rfl⟩,by exact sbt⟩
      ·have hne:id1≠id2:=by simpa using c125
       refine Ao (Kh U isAgg30 sizeOf30 (Au hh) (by first|exact Ah (Fnd.mono fb8 (hM_4.trans hM_5))|exact As)) U (Aw U U (Aa U)) ?_;refine Ao (Kh U isAgg30 sizeOf30 (Au hgo) (by first|exact Ah (Fnd.mono fb19 (hM_4.trans hM_5))|exact As)) U (Aw U U (Aa U)) ?_;refine Ao (Al (qe2 U U) call18 (fun H' hs=>cmp18_s h g hh hgo)) U (Aw U U (Aa U)) (kO tb 5 [0,4,6,7,19,20,23,24,25,26,27] rfl U (rG tb 5 U ?_))
       first|refine Aj (s:=132) (Aa U) (fun c132=> ?_) (fun c132=> ?_)|refine Ax (s:=132) (Aa U) (fun c132=> ?_) (fun c132=> ?_)
       ·have hZ3:=hw3 c132;refine rO tb 3 U ?_
        first|refine Aj (s:=135) (Aa U) (fun c135=> ?_) (fun c135=> ?_)|refine Ax (s:=135) (Aa U) (fun c135=> ?_) (fun c135=> ?_)
        ·have hZ4:=hw4 c135;refine rO tb 3 U ?_
         first|refine Aj (s:=138) (Aa U) (fun c138=> ?_) (fun c138=> ?_)|refine Ax (s:=138) (Aa U) (fun c138=> ?_) (fun c138=> ?_)
         ·refine rO tb 2 U (Ao (Al (qe2 U U) call19 (fun H' hs=>Fh l3 l4 q3 q4 c3 c4 ((hZ3.1.mono hM_5).mono hs) (hZ4.1.mono hs) (by have:=hZ3.2.2.2;omega))) U (Aw U U (Aa U)) ?_)
          first|refine Ao (A2 (T U)) U (Aw U U (Aa U)) ?_|refine Ao (Bg (T U)) U (Aw U U (Aa U)) ?_
          refine rO tb 3 U ?_
          first|refine Ac (Aa U) (fun c143=> ?_) (fun c143=> ?_)|refine Ag (Aa U) (fun c143=> ?_) (fun c143=> ?_)
          ·exfalso;have h9:=(Hj hh hgo).1 (by first|exact c138|exact of_decide_eq_true c138);rw[hg] at h9;have e9:=(set_eq hZ3 hZ4).2 (fun g9=>(H8 hbok g2.w la l2 hF1 hF2 ra r2 hne).2 h hh h9 g9);simp[e9] at c143
          ·skip
           refine rC tb 5 U (y_ (Kh U isAgg28 sizeOf28 U (by first|exact Ah (Fnd.mono fb6 (hM_4.trans hM_5))|exact As)) ?_ U);refine y_ (Kh U isAgg30 sizeOf30 (Au hgo) (by first|exact Ah (Fnd.mono fb19 (hM_4.trans hM_5))|exact As)) ?_ U;refine rO tb 1 U (e_ (Am (qe4 U U U U) call17 (Ci hfl (hAf.mono (hHM.trans (hM_4.trans hM_5))) (hM1.mono (hHM.trans (hM_4.trans hM_5))) qom hI1 hF1 hgo)) ?_ U);rintro _ M6 ⟨l5,q5,c5,w5,rfl,hw5,hM_6⟩;refine kO tb 7 [0,4,7,19,20,24,28] rfl U (rG tb 3 U (y_ (Kh U isAgg28 sizeOf28 U (by first|exact Ah (Fnd.mono fb7 (hM_4.trans (hM_5.trans hM_6)))|exact As)) ?_ U));refine y_ (Kh U isAgg30 sizeOf30 (Au hgo) (by first|exact Ah (Fnd.mono fb19 (hM_4.trans (hM_5.trans hM_6)))|exact As)) ?_ U;refine rO tb 1 U (e_ (Am (qe4 U U U U) call17 (Ci hfl (hAf.mono (hHM.trans (hM_4.trans (hM_5.trans hM_6)))) (hM2.mono (hHM.trans (hM_4.trans (hM_5.trans hM_6)))) qom hI2 hF2 hgo)) ?_ U);rintro _ M7 ⟨l6,q6,c6,w6,rfl,hw6,hM_7⟩;refine rO tb 9 U (y_ (Al .nil call11 (fun H' hs=>Cu)) (rO tb 2 U ?_) U)
           first|refine Ao (A2 (T U)) U (Aw U U (Aa U)) ?_|refine Ao (Bg (T U)) U (Aw U U (Aa U)) ?_
           refine rO tb 1 U ?_
           first|refine Aj (s:=164) (Aa U) (fun c164=> ?_) (fun c164=> ?_)|refine Ax (s:=164) (Aa U) (fun c164=> ?_) (fun c164=> ?_)
           ·skip
            refine kO tb 17 [10] rfl U (rG tb 1 U (Ai U (Kf U) ?_))
            first|exact⟨_,⟨rfl,rfl⟩,hHM.trans (hM_4.trans (hM_5.trans (hM_6.trans hM_7)))⟩|exact⟨_,⟨congrArg Value.bool (Bh hbok g2.w la l2 hF1 hF2 ra r2 hne hg hZ5 hZ6),rfl⟩,hHM.trans (hM_4.trans (hM_5.trans (hM_6.trans hM_7)))⟩|(exfalso;simp[heq] at c172;done)|exact⟨_,⟨rfl,rfl⟩,by exact sbt⟩
           ·have hZ5:=hw5 (by simpa using c164);refine rO tb 1 U ?_
            first|refine Ao (A2 (T U)) U (Aw U U (Aa U)) ?_|refine Ao (Bg (T U)) U (Aw U U (Aa U)) ?_
            refine rO tb 2 U ?_
            first|refine Aj (s:=168) (Aa U) (fun c168=> ?_) (fun c168=> ?_)|refine Ax (s:=168) (Aa U) (fun c168=> ?_) (fun c168=> ?_)
            ·skip
             refine kO tb 13 [10] rfl U (rG tb 1 U (Ai U (Kf U) ?_))
             first|exact⟨_,⟨rfl,rfl⟩,hHM.trans (hM_4.trans (hM_5.trans (hM_6.trans hM_7)))⟩|exact⟨_,⟨congrArg Value.bool (Bh hbok g2.w la l2 hF1 hF2 ra r2 hne hg hZ5 hZ6),rfl⟩,hHM.trans (hM_4.trans (hM_5.trans (hM_6.trans hM_7)))⟩|(exfalso;simp[heq] at c172;done)|exact⟨_,⟨rfl,rfl⟩,by exact sbt⟩
            ·have hZ6:=hw6 (by simpa using c168);refine rO tb 1 U ?_
             first|refine Ao (A2 (T U)) U (Aw U U (Aa U)) ?_|refine Ao (Bg (T U)) U (Aw U U (Aa U)) ?_
             refine rO tb 2 U ?_
             first|refine Aj (s:=172) (Aa U) (fun c172=> ?_) (fun c172=> ?_)|refine Ax (s:=172) (Aa U) (fun c172=> ?_) (fun c172=> ?_)
             ·refine kO tb 9 [10] rfl U (rG tb 1 U (Ai U (Kf U) ?_))
              first|exact⟨_,⟨rfl,rfl⟩,hHM.trans (hM_4.trans (hM_5.trans (hM_6.trans hM_7)))⟩|exact⟨_,⟨congrArg Value.bool (Bh hbok g2.w la l2 hF1 hF2 ra r2 hne hg hZ5 hZ6),rfl⟩,hHM.trans (hM_4.trans (hM_5.trans (hM_6.trans hM_7)))⟩|(exfalso;simp[heq] at c172;done)|exact⟨_,⟨rfl,rfl⟩,by exact sbt⟩
             ·refine rO tb 2 U (Ao (Al (qe2 U U) call19 (fun H' hs=>Fh l5 l6 q5 q6 c5 c6 ((hZ5.1.mono hM_7).mono hs) (hZ6.1.mono hs) (by have:=hZ5.2.2.2;omega))) U (Aw U U (Aa U)) ?_)
              first|refine Ao (A2 (T U)) U (Aw U U (Aa U)) ?_|refine Ao (Bg (T U)) U (Aw U U (Aa U)) ?_
              refine kO tb 5 [10] rfl U (rG tb 1 U (Ai U (Kf U) ?_))
              first|exact⟨_,⟨rfl,rfl⟩,hHM.trans (hM_4.trans (hM_5.trans (hM_6.trans hM_7)))⟩|exact⟨_,⟨congrArg Value.bool (Bh hbok g2.w la l2 hF1 hF2 ra r2 hne hg hZ5 hZ6),rfl⟩,hHM.trans (hM_4.trans (hM_5.trans (hM_6.trans hM_7)))⟩|(exfalso;simp[heq] at c172;done)|exact⟨_,⟨rfl,rfl⟩,by exact sbt⟩
         ·refine rO tb 13 U (y_ (Kh U isAgg28 sizeOf28 U (by first|exact Ah (Fnd.mono fb6 (hM_4.trans hM_5))|exact As)) ?_ U);refine y_ (Kh U isAgg30 sizeOf30 (Au hgo) (by first|exact Ah (Fnd.mono fb19 (hM_4.trans hM_5))|exact As)) ?_ U;refine rO tb 1 U (e_ (Am (qe4 U U U U) call17 (Ci hfl (hAf.mono (hHM.trans (hM_4.trans hM_5))) (hM1.mono (hHM.trans (hM_4.trans hM_5))) qom hI1 hF1 hgo)) ?_ U);rintro _ M6 ⟨l5,q5,c5,w5,rfl,hw5,hM_6⟩;refine kO tb 7 [0,4,7,19,20,24,28] rfl U (rG tb 3 U (y_ (Kh U isAgg28 sizeOf28 U (by first|exact Ah (Fnd.mono fb7 (hM_4.trans (hM_5.trans hM_6)))|exact As)) ?_ U));refine y_ (Kh U isAgg30 sizeOf30 (Au hgo) (by first|exact Ah (Fnd.mono fb19 (hM_4.trans (hM_5.trans hM_6)))|exact As)) ?_ U;refine rO tb 1 U (e_ (Am (qe4 U U U U) call17 (Ci hfl (hAf.mono (hHM.trans (hM_4.trans (hM_5.trans hM_6)))) (hM2.mono (hHM.trans (hM_4.trans (hM_5.trans hM_6)))) qom hI2 hF2 hgo)) ?_ U);rintro _ M7 ⟨l6,q6,c6,w6,rfl,hw6,hM_7⟩;refine rO tb 9 U (y_ (Al .nil call11 (fun H' hs=>Cu)) (rO tb 2 U ?_) U)
          first|refine Ao (A2 (T U)) U (Aw U U (Aa U)) ?_|refine Ao (Bg (T U)) U (Aw U U (Aa U)) ?_
          refine rO tb 1 U ?_
          first|refine Aj (s:=164) (Aa U) (fun c164=> ?_) (fun c164=> ?_)|refine Ax (s:=164) (Aa U) (fun c164=> ?_) (fun c164=> ?_)
          ·skip
           refine kO tb 17 [10] rfl U (rG tb 1 U (Ai U (Kf U) ?_))
           first|exact⟨_,⟨rfl,rfl⟩,hHM.trans (hM_4.trans (hM_5.trans (hM_6.trans hM_7)))⟩|exact⟨_,⟨congrArg Value.bool (Bh hbok g2.w la l2 hF1 hF2 ra r2 hne hg hZ5 hZ6),rfl⟩,hHM.trans (hM_4.trans (hM_5.trans (hM_6.trans hM_7)))⟩|(exfalso;simp[heq] at c172;done)|exact⟨_,⟨rfl,rfl⟩,by exact sbt⟩
          ·have hZ5:=hw5 (by simpa using c164);refine rO tb 1 U ?_
           first|refine Ao (A2 (T U)) U (Aw U U (Aa U)) ?_|refine Ao (Bg (T U)) U (Aw U U (Aa U)) ?_
           refine rO tb 2 U ?_
           first|refine Aj (s:=168) (Aa U) (fun c168=> ?_) (fun c168=> ?_)|refine Ax (s:=168) (Aa U) (fun c168=> ?_) (fun c168=> ?_)
           ·skip
            refine kO tb 13 [10] rfl U (rG tb 1 U (Ai U (Kf U) ?_))
            first|exact⟨_,⟨rfl,rfl⟩,hHM.trans (hM_4.trans (hM_5.trans (hM_6.trans hM_7)))⟩|exact⟨_,⟨congrArg Value.bool (Bh hbok g2.w la l2 hF1 hF2 ra r2 hne hg hZ5 hZ6),rfl⟩,hHM.trans (hM_4.trans (hM_5.trans (hM_6.trans hM_7)))⟩|(exfalso;simp[heq] at c172;done)|exact⟨_,⟨rfl,rfl⟩,by exact sbt⟩
           ·have hZ6:=hw6 (by simpa using c168);refine rO tb 1 U ?_
            first|refine Ao (A2 (T U)) U (Aw U U (Aa U)) ?_|refine Ao (Bg (T U)) U (Aw U U (Aa U)) ?_
            refine rO tb 2 U ?_
            first|refine Aj (s:=172) (Aa U) (fun c172=> ?_) (fun c172=> ?_)|refine Ax (s:=172) (Aa U) (fun c172=> ?_) (fun c172=> ?_)
            ·refine kO tb 9 [10] rfl U (rG tb 1 U (Ai U (Kf U) ?_))
             first|exact⟨_,⟨rfl,rfl⟩,hHM.trans (hM_4.trans (hM_5.trans (hM_6.trans hM_7)))⟩|exact⟨_,⟨congrArg Value.bool (Bh hbok g2.w la l2 hF1 hF2 ra r2 hne hg hZ5 hZ6),rfl⟩,hHM.trans (hM_4.trans (hM_5.trans (hM_6.trans hM_7)))⟩|(exfalso;simp[heq] at c172;done)|exact⟨_,⟨rfl,rfl⟩,by exact sbt⟩
            ·refine rO tb 2 U (Ao (Al (qe2 U U) call19 (fun H' hs=>Fh l5 l6 q5 q6 c5 c6 ((hZ5.1.mono hM_7).mono hs) (hZ6.1.mono hs) (by have:=hZ5.2.2.2;omega))) U (Aw U U (Aa U)) ?_)
             first|refine Ao (A2 (T U)) U (Aw U U (Aa U)) ?_|refine Ao (Bg (T U)) U (Aw U U (Aa U)) ?_
             refine kO tb 5 [10] rfl U (rG tb 1 U (Ai U (Kf U) ?_))
             first|exact⟨_,⟨rfl,rfl⟩,hHM.trans (hM_4.trans (hM_5.trans (hM_6.trans hM_7)))⟩|exact⟨_,⟨congrArg Value.bool (Bh hbok g2.w la l2 hF1 hF2 ra r2 hne hg hZ5 hZ6),rfl⟩,hHM.trans (hM_4.trans (hM_5.trans (hM_6.trans hM_7)))⟩|(exfalso;simp[heq] at c172;done)|exact⟨_,⟨rfl,rfl⟩,by exact sbt⟩
        ·skip
         refine rO tb 16 U (y_ (Kh U isAgg28 sizeOf28 U (by first|exact Ah (Fnd.mono fb6 (hM_4.trans hM_5))|exact As)) ?_ U);refine y_ (Kh U isAgg30 sizeOf30 (Au hgo) (by first|exact Ah (Fnd.mono fb19 (hM_4.trans hM_5))|exact As)) ?_ U;refine rO tb 1 U (e_ (Am (qe4 U U U U) call17 (Ci hfl (hAf.mono (hHM.trans (hM_4.trans hM_5))) (hM1.mono (hHM.trans (hM_4.trans hM_5))) qom hI1 hF1 hgo)) ?_ U);rintro _ M6 ⟨l5,q5,c5,w5,rfl,hw5,hM_6⟩;refine kO tb 7 [0,4,7,19,20,24,28] rfl U (rG tb 3 U (y_ (Kh U isAgg28 sizeOf28 U (by first|exact Ah (Fnd.mono fb7 (hM_4.trans (hM_5.trans hM_6)))|exact As)) ?_ U));refine y_ (Kh U isAgg30 sizeOf30 (Au hgo) (by first|exact Ah (Fnd.mono fb19 (hM_4.trans (hM_5.trans hM_6)))|exact As)) ?_ U;refine rO tb 1 U (e_ (Am (qe4 U U U U) call17 (Ci hfl (hAf.mono (hHM.trans (hM_4.trans (hM_5.trans hM_6)))) (hM2.mono (hHM.trans (hM_4.trans (hM_5.trans hM_6)))) qom hI2 hF2 hgo)) ?_ U);rintro _ M7 ⟨l6,q6,c6,w6,rfl,hw6,hM_7⟩;refine rO tb 9 U (y_ (Al .nil call11 (fun H' hs=>Cu)) (rO tb 2 U ?_) U)
         first|refine Ao (A2 (T U)) U (Aw U U (Aa U)) ?_|refine Ao (Bg (T U)) U (Aw U U (Aa U)) ?_
         refine rO tb 1 U ?_
         first|refine Aj (s:=164) (Aa U) (fun c164=> ?_) (fun c164=> ?_)|refine Ax (s:=164) (Aa U) (fun c164=> ?_) (fun c164=> ?_)
         ·skip
          refine kO tb 17 [10] rfl U (rG tb 1 U (Ai U (Kf U) ?_))
          first|exact⟨_,⟨rfl,rfl⟩,hHM.trans (hM_4.trans (hM_5.trans (hM_6.trans hM_7)))⟩|exact⟨_,⟨congrArg Value.bool (Bh hbok g2.w la l2 hF1 hF2 ra r2 hne hg hZ5 hZ6),rfl⟩,hHM.trans (hM_4.trans (hM_5.trans (hM_6.trans hM_7)))⟩|(exfalso;simp[heq] at c172;done)|exact⟨_,⟨rfl,rfl⟩,by exact sbt⟩
         ·have hZ5:=hw5 (by simpa using c164);refine rO tb 1 U ?_
          first|refine Ao (A2 (T U)) U (Aw U U (Aa U)) ?_|refine Ao (Bg (T U)) U (Aw U U (Aa U)) ?_
          refine rO tb 2 U ?_
          first|refine Aj (s:=168) (Aa U) (fun c168=> ?_) (fun c168=> ?_)|refine Ax (s:=168) (Aa U) (fun c168=> ?_) (fun c168=> ?_)
          ·skip
           refine kO tb 13 [10] rfl U (rG tb 1 U (Ai U (Kf U) ?_))
           first|exact⟨_,⟨rfl,rfl⟩,hHM.trans (hM_4.trans (hM_5.trans (hM_6.trans hM_7)))⟩|exact⟨_,⟨congrArg Value.bool (Bh hbok g2.w la l2 hF1 hF2 ra r2 hne hg hZ5 hZ6),rfl⟩,hHM.trans (hM_4.trans (hM_5.trans (hM_6.trans hM_7)))⟩|(exfalso;simp[heq] at c172;done)|exact⟨_,⟨rfl,rfl⟩,by exact sbt⟩
          ·have hZ6:=hw6 (by simpa using c168);refine rO tb 1 U ?_
           first|refine Ao (A2 (T U)) U (Aw U U (Aa U)) ?_|refine Ao (Bg (T U)) U (Aw U U (Aa U)) ?_
           refine rO tb 2 U ?_
           first|refine Aj (s:=172) (Aa U) (fun c172=> ?_) (fun c172=> ?_)|refine Ax (s:=172) (Aa U) (fun c172=> ?_) (fun c172=> ?_)
           ·refine kO tb 9 [10] rfl U (rG tb 1 U (Ai U (Kf U) ?_))
            first|exact⟨_,⟨rfl,rfl⟩,hHM.trans (hM_4.trans (hM_5.trans (hM_6.trans hM_7)))⟩|exact⟨_,⟨congrArg Value.bool (Bh hbok g2.w la l2 hF1 hF2 ra r2 hne hg hZ5 hZ6),rfl⟩,hHM.trans (hM_4.trans (hM_5.trans (hM_6.trans hM_7)))⟩|(exfalso;simp[heq] at c172;done)|exact⟨_,⟨rfl,rfl⟩,by exact sbt⟩
           ·refine rO tb 2 U (Ao (Al (qe2 U U) call19 (fun H' hs=>Fh l5 l6 q5 q6 c5 c6 ((hZ5.1.mono hM_7).mono hs) (hZ6.1.mono hs) (by have:=hZ5.2.2.2;omega))) U (Aw U U (Aa U)) ?_)
            first|refine Ao (A2 (T U)) U (Aw U U (Aa U)) ?_|refine Ao (Bg (T U)) U (Aw U U (Aa U)) ?_
            refine kO tb 5 [10] rfl U (rG tb 1 U (Ai U (Kf U) ?_))
            first|exact⟨_,⟨rfl,rfl⟩,hHM.trans (hM_4.trans (hM_5.trans (hM_6.trans hM_7)))⟩|exact⟨_,⟨congrArg Value.bool (Bh hbok g2.w la l2 hF1 hF2 ra r2 hne hg hZ5 hZ6),rfl⟩,hHM.trans (hM_4.trans (hM_5.trans (hM_6.trans hM_7)))⟩|(exfalso;simp[heq] at c172;done)|exact⟨_,⟨rfl,rfl⟩,by exact sbt⟩
       ·skip
        refine rO tb 19 U (y_ (Kh U isAgg28 sizeOf28 U (by first|exact Ah (Fnd.mono fb6 (hM_4.trans hM_5))|exact As)) ?_ U);refine y_ (Kh U isAgg30 sizeOf30 (Au hgo) (by first|exact Ah (Fnd.mono fb19 (hM_4.trans hM_5))|exact As)) ?_ U;refine rO tb 1 U (e_ (Am (qe4 U U U U) call17 (Ci hfl (hAf.mono (hHM.trans (hM_4.trans hM_5))) (hM1.mono (hHM.trans (hM_4.trans hM_5))) qom hI1 hF1 hgo)) ?_ U);rintro _ M6 ⟨l5,q5,c5,w5,rfl,hw5,hM_6⟩;refine kO tb 7 [0,4,7,19,20,24,28] rfl U (rG tb 3 U (y_ (Kh U isAgg28 sizeOf28 U (by first|exact Ah (Fnd.mono fb7 (hM_4.trans (hM_5.trans hM_6)))|exact As)) ?_ U));refine y_ (Kh U isAgg30 sizeOf30 (Au hgo) (by first|exact Ah (Fnd.mono fb19 (hM_4.trans (hM_5.trans hM_6)))|exact As)) ?_ U;refine rO tb 1 U (e_ (Am (qe4 U U U U) call17 (Ci hfl (hAf.mono (hHM.trans (hM_4.trans (hM_5.trans hM_6)))) (hM2.mono (hHM.trans (hM_4.trans (hM_5.trans hM_6)))) qom hI2 hF2 hgo)) ?_ U);rintro _ M7 ⟨l6,q6,c6,w6,rfl,hw6,hM_7⟩;refine rO tb 9 U (y_ (Al .nil call11 (fun H' hs=>Cu)) (rO tb 2 U ?_) U)
        first|refine Ao (A2 (T U)) U (Aw U U (Aa U)) ?_|refine Ao (Bg (T U)) U (Aw U U (Aa U)) ?_
        refine rO tb 1 U ?_
        first|refine Aj (s:=164) (Aa U) (fun c164=> ?_) (fun c164=> ?_)|refine Ax (s:=164) (Aa U) (fun c164=> ?_) (fun c164=> ?_)
        ·skip
         refine kO tb 17 [10] rfl U (rG tb 1 U (Ai U (Kf U) ?_))
         first|exact⟨_,⟨rfl,rfl⟩,hHM.trans (hM_4.trans (hM_5.trans (hM_6.trans hM_7)))⟩|exact⟨_,⟨congrArg Value.bool (Bh hbok g2.w la l2 hF1 hF2 ra r2 hne hg hZ5 hZ6),rfl⟩,hHM.trans (hM_4.trans (hM_5.trans (hM_6.trans hM_7)))⟩|(exfalso;simp[heq] at c172;done)|exact⟨_,⟨rfl,rfl⟩,by exact sbt⟩
        ·have hZ5:=hw5 (by simpa using c164);refine rO tb 1 U ?_
         first|refine Ao (A2 (T U)) U (Aw U U (Aa U)) ?_|refine Ao (Bg (T U)) U (Aw U U (Aa U)) ?_
         refine rO tb 2 U ?_
         first|refine Aj (s:=168) (Aa U) (fun c168=> ?_) (fun c168=> ?_)|refine Ax (s:=168) (Aa U) (fun c168=> ?_) (fun c168=> ?_)
         ·skip
          refine kO tb 13 [10] rfl U (rG tb 1 U (Ai U (Kf U) ?_))
          first|exact⟨_,⟨rfl,rfl⟩,hHM.trans (hM_4.trans (hM_5.trans (hM_6.trans hM_7)))⟩|exact⟨_,⟨congrArg Value.bool (Bh hbok g2.w la l2 hF1 hF2 ra r2 hne hg hZ5 hZ6),rfl⟩,hHM.trans (hM_4.trans (hM_5.trans (hM_6.trans hM_7)))⟩|(exfalso;simp[heq] at c172;done)|exact⟨_,⟨rfl,rfl⟩,by exact sbt⟩
         ·have hZ6:=hw6 (by simpa using c168);refine rO tb 1 U ?_
          first|refine Ao (A2 (T U)) U (Aw U U (Aa U)) ?_|refine Ao (Bg (T U)) U (Aw U U (Aa U)) ?_
          refine rO tb 2 U ?_
          first|refine Aj (s:=172) (Aa U) (fun c172=> ?_) (fun c172=> ?_)|refine Ax (s:=172) (Aa U) (fun c172=> ?_) (fun c172=> ?_)
          ·refine kO tb 9 [10] rfl U (rG tb 1 U (Ai U (Kf U) ?_))
           first|exact⟨_,⟨rfl,rfl⟩,hHM.trans (hM_4.trans (hM_5.trans (hM_6.trans hM_7)))⟩|exact⟨_,⟨congrArg Value.bool (Bh hbok g2.w la l2 hF1 hF2 ra r2 hne hg hZ5 hZ6),rfl⟩,hHM.trans (hM_4.trans (hM_5.trans (hM_6.trans hM_7)))⟩|(exfalso;simp[heq] at c172;done)|exact⟨_,⟨rfl,rfl⟩,by exact sbt⟩
          ·refine rO tb 2 U (Ao (Al (qe2 U U) call19 (fun H' hs=>Fh l5 l6 q5 q6 c5 c6 ((hZ5.1.mono hM_7).mono hs) (hZ6.1.mono hs) (by have:=hZ5.2.2.2;omega))) U (Aw U U (Aa U)) ?_)
           first|refine Ao (A2 (T U)) U (Aw U U (Aa U)) ?_|refine Ao (Bg (T U)) U (Aw U U (Aa U)) ?_
           refine kO tb 5 [10] rfl U (rG tb 1 U (Ai U (Kf U) ?_))
           first|exact⟨_,⟨rfl,rfl⟩,hHM.trans (hM_4.trans (hM_5.trans (hM_6.trans hM_7)))⟩|exact⟨_,⟨congrArg Value.bool (Bh hbok g2.w la l2 hF1 hF2 ra r2 hne hg hZ5 hZ6),rfl⟩,hHM.trans (hM_4.trans (hM_5.trans (hM_6.trans hM_7)))⟩|(exfalso;simp[heq] at c172;done)|exact⟨_,⟨rfl,rfl⟩,by exact sbt⟩
end Go.Proofs.YtkojjapnfdlddaaGreat
namespace Go.Proofs.YtkojjapnfdlddaaGreat
open _root_.Go.Proofs.Tryz
open Go.ChangeShapes Go.WideShapes Go.ChangeAt Go.RowKit Go.Joins Go.Deep
set_option linter.unusedVariables false
set_option linter.unusedSimpArgs false
set_option linter.unusedSectionVars false
set_option maxRecDepth 100000
theorem below_cell {W w:World}{p:Addr}{v:Value}(hb:Below W.heap.size W w)(h:W.cell? p=some v):w.cell? p=some v:=by
 have hlt:=World.block_lt_of_cell? _ _ h;have:=hb.block p.block hlt;unfold World.cell? at h ⊢;rw[this];exact h
theorem cell_arg {W:World}{p:Addr}{v:Value}(h:W.cell? p=some v):Cell W [] p v:=fun w hO=>below_cell hO.below h
theorem D5 {H:Type}(d:DataW H):1≤Rows.uptoBulk d:=by
 cases d with
 |lit l=>cases l<;>simp[Rows.uptoBulk]
 |nil=>simp[Rows.uptoBulk]
 |ptr d=>simp[Rows.uptoBulk]
 |slice elems spare=>simp[Rows.uptoBulk]
 |agg parts=>simp[Rows.uptoBulk]
 |iface t d=>simp[Rows.uptoBulk]
 |map entries=>simp[Rows.uptoBulk]
 |held h=>simp[Rows.uptoBulk]
theorem blk_sum {H:Type}{f:Nat→Nat}{D:Nat→DataW H}:∀ (l:List Nat),(∀ i∈l,f i≤Rows.uptoBulk (D i))→(l.map f).sum≤Rows.uptoBulkAll (l.map D)
 |[],_=>Nat.le_refl _
 |x::l,h=>by
  have h1:=h x (by simp);have h2:=blk_sum l fun i hi=>h i (by simp[hi])
  simp only[List.map_cons,List.sum_cons,Rows.uptoBulkAll];omega
theorem blk_mem {H:Type}{D:Nat→DataW H}:∀ {l:List Nat} {i:Nat},i∈l→Rows.uptoBulk (D i)≤Rows.uptoBulkAll (l.map D)
 |x::l,i,h=>by
  simp only[List.map_cons,Rows.uptoBulkAll];rcases List.mem_cons.1 h with rfl|h
  ·exact Nat.le_add_right _ _
  ·have:=blk_mem (D:=D) h;omega
section
variable {H:Type} {enc:TypeId × Value→H} {P:Program} {W:World} {b0:Nat} {sp1:Nat→Bool} {held:Bool}
theorem open_arr {α:Type}{t e sz fuel:Nat}{cs:List Value}{x:DataW H × List MemPlace}{el:α→List Value}{φ:α→Prop}{szf:α→Nat}(ht:P.underlying t=some (.slice e))(hc:P.cellsOf e=sz)(hsz:0<sz)
  (hel:∀ n cs y,Rows.uptoBulk y.1<Rows.uptoBulk x.1→DataW.trod enc P W b0 sp1 held n e cs=some y→∃ u:α,cs=el u∧φ u∧szf u≤Rows.uptoBulk y.1) (h:DataW.trod enc P W b0 sp1 held fuel t cs=some x):
  ∃ (q:Option Addr) (l:List α) (cap:Nat),cs=[.slice q l.length cap]∧Arr W [] q sz el l∧l.length≤cap∧l.length≤9223372036854775807∧(∀ u∈l,φ u)∧(l.map szf).sum+1≤Rows.uptoBulk x.1:=by
 rcases open_slice ht h with ⟨rfl,rfl⟩|⟨a,len,cap,m,n,D,Pl,rfl,hb,hl,hm,hmm,rfl,hx⟩
 ·exact⟨none,[],0,rfl,fun i u hi=>by simp at hi,by simp,by simp,by simp,by simp[Rows.uptoBulk]⟩
 have hlm:len≤m:=by rw[hmm];split<;>omega
 have hlen:len≤9223372036854775807:=by unfold maxLen at hm;omega
 cases len with
 |zero=>exact⟨some a,[],cap,rfl,fun i u hi=>by simp at hi,by simp,by simp,by simp,by simp[Rows.uptoBulk]⟩
 |succ k=>
  have hbk:Rows.uptoBulkAll ((List.range (k+1)).map D)+1≤Rows.uptoBulk (DataW.slice ((List.range (k+1)).map D) ((List.range (m - (k+1))).map fun j=>D (k+1+j))):=by
   simp only[Rows.uptoBulk];omega
  have each:∀ i,i<k+1→∃ u:α,W.cells? b0 (a.add (i*sz)) sz=some (el u)∧φ u∧szf u≤Rows.uptoBulk (D i):=fun i hi=>by
   obtain⟨cs',h1,h2⟩:=hx i qom;rw[hc] at h1;have h3:=blk_mem (D:=D) (List.mem_range.2 hi);obtain⟨u,rfl,hu⟩:=hel _ _ _ (by simp only[];omega) h2;exact⟨u,h1,hu⟩
  obtain⟨u0,h00,hu0⟩:=each 0 qom
  letI:Inhabited α:=⟨u0⟩
  obtain⟨f,hf⟩:=choose_lt each;refine⟨some a,(List.range (k+1)).map f,cap,by simp,fun i u hi=> ?_,by simpa using hl,by simpa using hlen,fun u hu=> ?_,?_⟩
  ·have hik:i<k+1:=by have:=(List.getElem?_eq_some_iff.1 hi).1;simpa using this
   have hfu:f i=u:=by simpa[hik] using hi
   obtain⟨sb,so,spot⟩:=a;obtain⟨_,hl0,hc0⟩:=World.cells?_some h00;have hspot:spot=none:=by
    have h6:=(hc0 0 hsz).trans (List.getElem?_eq_getElem qom)
    simpa[Addr.add] using World.cell?_spot h6
   subst hspot;refine⟨rfl,fun j v hj=>cell_arg ?_⟩;obtain⟨_,hl1,hc1⟩:=World.cells?_some (hf i hik).1;rw[hfu] at hl1 hc1;have hjl:=(List.getElem?_eq_some_iff.1 hj).1;have h5:=hc1 j qom;rw[add_add,add_plain] at h5;have h6:=h5.trans hj;rw[← Nat.add_assoc] at h6;exact h6
  ·obtain⟨i,hi,rfl⟩:=List.mem_map.1 hu;exact(hf i (List.mem_range.1 hi)).2.1
  ·have:=blk_sum (f:=fun i=>szf (f i)) (D:=D) (List.range (k+1)) fun i hi=>(hf i (List.mem_range.1 hi)).2.2
   rw[List.map_map];have e:(szf ∘ f)=fun i=>szf (f i):=rfl
   rw[e];simp only[] at hbk ⊢;omega
end
theorem cells3:Tryz.prog.cellsOf 3=1:=by kernel_rfl
theorem cells9:Tryz.prog.cellsOf 9=1:=by kernel_rfl
theorem cells67:Tryz.prog.cellsOf 67=3:=by kernel_rfl
theorem cells25:Tryz.prog.cellsOf 25=5:=by kernel_rfl
theorem cells23:Tryz.prog.cellsOf 23=1:=by kernel_rfl
theorem cells28:Tryz.prog.cellsOf 28=9:=by kernel_rfl
theorem cells26:Tryz.prog.cellsOf 26=1:=by kernel_rfl
theorem own_knob:ownKnob Tryz.prog.godebug=none:=by kernel_rfl
theorem i64_bd {n:Int}(h:(Lit.int .i64 n).wf=true): -9223372036854775808≤n∧n≤9223372036854775807:=by
 have:=bounds_i64 h;exact this
theorem szPL_sum:∀ l:List Pdm,szPL l=(l.map Pdm.sz).sum
 |[]=>by simp[szPL]
 |x::l=>by simp only[szPL,List.map_cons,List.sum_cons,szPL_sum l]
theorem szOL_sum:∀ l:List Pom,szOL l=(l.map Pom.sz).sum
 |[]=>by simp[szOL]
 |x::l=>by simp only[szOL,List.map_cons,List.sum_cons,szOL_sum l]
theorem prtPL_in {l:List Pdm}{a:Pdm}(h:a∈prtPL l):∃ x∈l,a∈prtP x:=by
 induction l with
 |nil=>simp[prtPL] at h
 |cons x l ih=>
  rw[prtPL] at h;rcases List.mem_append.1 h with h|h
  ·exact⟨x,by simp,h⟩
  ·obtain⟨y,h1,h2⟩:=ih h;exact⟨y,by simp[h1],h2⟩
theorem prtOL_in {l:List Pom}{a:Pom}(h:a∈prtOL l):∃ x∈l,a∈prtO x:=by
 induction l with
 |nil=>simp[prtOL] at h
 |cons x l ih=>
  rw[prtOL] at h;rcases List.mem_append.1 h with h|h
  ·exact⟨x,by simp,h⟩
  ·obtain⟨y,h1,h2⟩:=ih h;exact⟨y,by simp[h1],h2⟩
section
variable {H:Type} {enc:TypeId × Value→H} {W:World} {b0 n:Nat} {sp1:Nat→Bool} {held:Bool} {y:DataW H × List MemPlace} {cs:List Value}
abbrev encSv (s:ByteArray):List Value:=[.string s]
theorem F0 {c:Value}(h:DataW.trod enc Tryz.prog W b0 sp1 held n 3 [c]=some y):∃ a:Int,c= .int .i64 a∧(-9223372036854775808≤a∧a≤9223372036854775807):=by
 obtain⟨a,e0,_,wa⟩:=DataW.trod_int underlying3 h;simp at e0;exact⟨a,e0,i64_bd wa⟩
theorem rd_str (h:DataW.trod enc Tryz.prog W b0 sp1 held n 9 cs=some y):∃ u:ByteArray,cs=encSv u∧u.size≤9223372036854775807:=by
 obtain⟨s,e0,_,ws⟩:=DataW.trod_string underlying9 h;exact⟨s,e0,by unfold maxLen at ws;omega⟩
theorem rd_fi (h:DataW.trod enc Tryz.prog W b0 sp1 held n 67 cs=some y):∃ u:Fi,cs=encFi u∧u.nm.size≤9223372036854775807:=by
 obtain⟨xs,m,rfl,rfl,hlen,hxl,hall⟩:=DataW.trod_struct underlying67 h;rw[cells67] at hlen
 match xs,hxl,cs,hlen with
 |[x0,x1,x2],_,[c0,c1,c2],_=>
  have f0:DataW.trod enc Tryz.prog W b0 sp1 held m 9 [c0]=some x0:=by have:=hall 0 _ rfl;simpa[cells9] using this
  have f1:DataW.trod enc Tryz.prog W b0 sp1 held m 3 [c1]=some x1:=by have:=hall 1 _ rfl;simpa[cells9,cells3] using this
  have f2:DataW.trod enc Tryz.prog W b0 sp1 held m 3 [c2]=some x2:=by have:=hall 2 _ rfl;simpa[cells9,cells3] using this
  obtain⟨s,e1,hs⟩:=rd_str f0;obtain⟨a,rfl,_⟩:=F0 f1;obtain⟨b,rfl,_⟩:=F0 f2;simp at e1;exact⟨⟨s,a,b⟩,by rw[e1],hs⟩
theorem rd_pd:∀ (N:Nat) {n:Nat} {y:DataW H × List MemPlace} {cs:List Value},Rows.uptoBulk y.1≤N→DataW.trod enc Tryz.prog W b0 sp1 held n 25 cs=some y→∃ u:Pdm,cs=encPd u∧(PdM W [] u∧NmP u)∧u.sz≤Rows.uptoBulk y.1
 |0,n,y,cs,hN,_=>by have:=D5 y.1;omega
 |N+1,n,y,cs,hN,h=>by
  obtain⟨xs,m,rfl,rfl,hlen,hxl,hall⟩:=DataW.trod_struct underlying25 h;rw[cells25] at hlen
  match xs,hxl,cs,hlen with
  |[x0,x1,x2,x3,x4],_,[c0,c1,c2,c3,c4],_=>
   have f0:DataW.trod enc Tryz.prog W b0 sp1 held m 3 [c0]=some x0:=by have:=hall 0 _ rfl;simpa[cells3] using this
   have f1:DataW.trod enc Tryz.prog W b0 sp1 held m 9 [c1]=some x1:=by have:=hall 1 _ rfl;simpa[cells3,cells9] using this
   have f2:DataW.trod enc Tryz.prog W b0 sp1 held m 3 [c2]=some x2:=by have:=hall 2 _ rfl;simpa[cells3,cells9] using this
   have f3:DataW.trod enc Tryz.prog W b0 sp1 held m 3 [c3]=some x3:=by have:=hall 3 _ rfl;simpa[cells3,cells9] using this
   have f4:DataW.trod enc Tryz.prog W b0 sp1 held m 23 [c4]=some x4:=by have:=hall 4 _ rfl;simpa[cells3,cells9,cells23] using this
   have hb:Rows.uptoBulk x4.1+4≤Rows.uptoBulk (DataW.agg (H:=H) ([x0,x1,x2,x3,x4].map (·.1))):=by
    have:=D5 x0.1;have:=D5 x1.1;have:=D5 x2.1;have:=D5 x3.1;simp only[Rows.uptoBulk,Rows.uptoBulkAll,List.map_cons,List.map_nil] at *;omega
   have hN':Rows.uptoBulk (DataW.agg (H:=H) ([x0,x1,x2,x3,x4].map (·.1)))≤N+1:=hN;obtain⟨k,rfl,_⟩:=F0 f0;obtain⟨s,e1,hs⟩:=rd_str f1;obtain⟨a,rfl,_⟩:=F0 f2;obtain⟨b,rfl,_⟩:=F0 f3;obtain⟨q,l,cap,e2,ha,hc,hl,hf,hsum⟩:=open_arr (el:=encPd) (φ:=fun u=>PdM W [] u∧NmP u) (szf:=Pdm.sz) underlying23 cells25 qom (fun n cs y hy h=>rd_pd N qom h) f4;simp at e1 e2;refine⟨.mk k s a b q cap l,by rw[e1,e2];rfl,⟨.mk ha fun a h=>(hf a h).1,fun a ha=> ?_⟩,?_⟩
   ·rw[Gi] at ha;rcases List.mem_cons.1 ha with rfl|ha
    ·exact hs
    ·obtain⟨x,hx,hax⟩:=prtPL_in ha;exact(hf x hx).2 a hax
   rw[Gq,show (Pdm.mk k s a b q cap l).subs=l from rfl,szPL_sum];exact Nat.le_trans (by omega:(l.map Pdm.sz).sum+1≤Rows.uptoBulk x4.1+4) hb
theorem rd_po:∀ (N:Nat) {n:Nat} {y:DataW H × List MemPlace} {cs:List Value},Rows.uptoBulk y.1≤N→DataW.trod enc Tryz.prog W b0 sp1 held n 28 cs=some y→∃ u:Pom,cs=encPo u∧(PoM W [] u∧NmO u)∧u.sz≤Rows.uptoBulk y.1
 |0,n,y,cs,hN,_=>by have:=D5 y.1;omega
 |N+1,n,y,cs,hN,h=>by
  obtain⟨xs,m,rfl,rfl,hlen,hxl,hall⟩:=DataW.trod_struct underlying28 h;rw[cells28] at hlen
  match xs,hxl,cs,hlen with
  |[x0,x1,x2,x3,x4],_,[c0,c1,c2,c3,c4,c5,c6,c7,c8],_=>
   have f0:DataW.trod enc Tryz.prog W b0 sp1 held m 3 [c0]=some x0:=by have:=hall 0 _ rfl;simpa[cells3] using this
   have f1:DataW.trod enc Tryz.prog W b0 sp1 held m 25 [c1,c2,c3,c4,c5]=some x1:=by have:=hall 1 _ rfl;simpa[cells3,cells25] using this
   have f2:DataW.trod enc Tryz.prog W b0 sp1 held m 9 [c6]=some x2:=by have:=hall 2 _ rfl;simpa[cells3,cells25,cells9] using this
   have f3:DataW.trod enc Tryz.prog W b0 sp1 held m 3 [c7]=some x3:=by have:=hall 3 _ rfl;simpa[cells3,cells25,cells9] using this
   have f4:DataW.trod enc Tryz.prog W b0 sp1 held m 26 [c8]=some x4:=by have:=hall 4 _ rfl;simpa[cells3,cells25,cells9,cells26] using this
   have hb:Rows.uptoBulk x4.1+Rows.uptoBulk x1.1+3≤Rows.uptoBulk (DataW.agg (H:=H) ([x0,x1,x2,x3,x4].map (·.1))):=by
    have:=D5 x0.1;have:=D5 x2.1;have:=D5 x3.1;simp only[Rows.uptoBulk,Rows.uptoBulkAll,List.map_cons,List.map_nil] at *;omega
   have hN':Rows.uptoBulk (DataW.agg (H:=H) ([x0,x1,x2,x3,x4].map (·.1)))≤N+1:=hN;obtain⟨k,rfl,_⟩:=F0 f0;obtain⟨pm,ep,⟨hp1,hp2⟩,hpz⟩:=rd_pd _ (Nat.le_refl _) f1;obtain⟨s,e1,hs⟩:=rd_str f2;obtain⟨a,rfl,_⟩:=F0 f3;obtain⟨q,l,cap,e2,ha,hc,hl,hf,hsum⟩:=open_arr (el:=encPo) (φ:=fun u=>PoM W [] u∧NmO u) (szf:=Pom.sz) underlying26 cells28 qom (fun n cs y hy h=>rd_po N qom h) f4;simp only[List.cons.injEq,and_true] at e1 e2;refine⟨.mk k pm s a q cap l,?_,⟨.mk hp1 ha fun a h=>(hf a h).1,fun a ha=> ?_⟩,?_⟩
   ·rw[e1,e2];show Value.int .i64 k::([c1,c2,c3,c4,c5]++[.string s, .int .i64 a, .slice q l.length cap])=_;rw[ep];rfl
   ·rw[Gj] at ha;rcases List.mem_cons.1 ha with rfl|ha
    ·exact⟨hs,hp2⟩
    ·obtain⟨x,hx,hax⟩:=prtOL_in ha;exact(hf x hx).2 a hax
   rw[Dz,show (Pom.mk k pm s a q cap l).subs=l from rfl,show (Pom.mk k pm s a q cap l).pr=pm from rfl,szOL_sum];exact Nat.le_trans (by omega:(l.map Pom.sz).sum+pm.sz+1≤Rows.uptoBulk x4.1+Rows.uptoBulk x1.1+3) hb
theorem Ia {base:Nat}{r:_root_.Go.Reach}{v:Value}{d:DataW H}{p:List MemPlace}(hv:Value.okWide Tryz.prog W r base 28 v)(h:DataW.Trod enc Tryz.prog W b0 sp1 held 28 v d p):∃ u:Pom,v= .agg (encPo u).toArray∧PoM W [] u∧NmO u∧u.sz≤Rows.uptoBulk d:=by
 obtain⟨cs,rfl,hsz⟩:=okWide_struct underlying28 hv;obtain⟨fuel,hf⟩:=h;obtain⟨l⟩:=cs;obtain⟨u,e,⟨h1,h2⟩,hu⟩:=rd_po _ (Nat.le_refl _) hf;simp only[Value.cells] at e;exact⟨u,by rw[← e],h1,h2,hu⟩
theorem open_fis {base:Nat}{r:_root_.Go.Reach}{v:Value}{d:DataW H}{p:List MemPlace}(hv:Value.okWide Tryz.prog W r base 22 v)(h:DataW.Trod enc Tryz.prog W b0 sp1 held 22 v d p):∃ (q:Option Addr) (l:List Fi) (cap:Nat),v= .slice q l.length cap∧Arr W [] q 3 encFi l∧∀ f∈l,f.nm.size≤9223372036854775807:=by
 obtain⟨a0,len0,cap0,rfl⟩:=okWide_slice underlying22 hv;obtain⟨fuel,hf⟩:=h;obtain⟨q,l,cap,e,a,c,b,f,_⟩:=open_arr (el:=encFi) (φ:=fun u=>u.nm.size≤9223372036854775807) (szf:=fun _=>0) underlying22 cells67 qom (fun n cs y _ h=>by obtain⟨u,h1,h2⟩:=rd_fi h;exact⟨u,h1,h2,Nat.zero_le _⟩) hf;simp only[Value.cells,List.cons.injEq,and_true] at e;exact⟨q,l,cap,e,a,f⟩
end
end Go.Proofs.YtkojjapnfdlddaaGreat
namespace Go.Proofs.YtkojjapnfdlddaaGreat
open _root_.Go.Proofs.Tryz
open Go.ChangeShapes Go.WideShapes Go.ChangeAt Go.RowKit Go.Joins
set_option linter.unusedVariables false
set_option linter.unusedSimpArgs false
set_option linter.unusedSectionVars false
set_option maxRecDepth 100000
section
variable {H:Type} {enc:TypeId × Value→H} {W:World}
theorem laid_out:laidOutB Tryz.prog=true:=by kernel_rfl
theorem trodAll_stays:∀ {ts:List TypeId} {vs:List Value} {ds:List (DataW H)} {ps:List MemPlace} {W':World},(∀ t∈ts,Tryz.prog.readableRec t=true∧t<Tryz.prog.types.size)→DataW.TrodAll enc Tryz.prog W 0 (fun _=>true) true ts vs ds ps→Below W.heap.size W W'→(∀ x∈ps,x.block<W.heap.size)→
  DataW.TrodAll enc Tryz.prog W' 0 (fun b=>decide (b<W.heap.size)) true ts vs ds ps
 |[],_,_,_,_,_,h,_,_=>by obtain⟨rfl,rfl,rfl⟩:=trodAll_nil h;exact trodAll_mk0
 |t::ts,_,_,_,_,hr,h,hb,hlt=>by
  obtain⟨v,vs,d,ds,p,q,rfl,rfl,rfl,h0,r0⟩:=trodAll_cons h;exact trodAll_cons_mk (Below.trod laid_out (hr t (by simp)).1 (hr t (by simp)).2 h0 hb (fun x hx=>hlt x (by simp[hx]))) (trodAll_stays (fun t ht=>hr t (by simp[ht])) r0 hb (fun x hx=>hlt x (by simp[hx])))
end
theorem calls_true {f:FuncId}{args:Array Value}{W:World}(h:FSpec Tryz.prog W f args [] (Still (.bool true) [])):Calls Tryz.prog f args W fun e W'=>e= .returned (.bool true)∧Below W.heap.size W W':=
 (h W (Own.start W)).mono fun e W' ⟨v,H',he,hO,hv,_⟩=>⟨by rw[he,hv],hO.below⟩
noncomputable def laidWorld (os:Os):World:=World.holding Tryz.prog os ⟨#[],#[],[]⟩
end Go.Proofs.YtkojjapnfdlddaaGreat
namespace Go.Proofs.YtkojjapnfdlddaaGreat
open _root_.Go.Proofs.Tryz
open Go.ChangeShapes Go.WideShapes Go.ChangeAt Go.RowKit Go.Joins Go.Deep
set_option linter.unusedVariables false
set_option linter.unusedSimpArgs false
set_option linter.unusedSectionVars false
set_option maxRecDepth 100000
theorem cells30:Tryz.prog.cellsOf 30=10:=by kernel_rfl
theorem und30:Tryz.prog.underlying 30=some (.array 10 3):=by kernel_rfl
section
variable {H:Type} {enc:TypeId × Value→H} {W:World} {b0 n:Nat} {sp1:Nat→Bool} {held:Bool} {y:DataW H × List MemPlace} {cs:List Value}
theorem open_hd {base:Nat}{r:_root_.Go.Reach}{v:Value}{d:DataW H}{p:List MemPlace}(hv:Value.okWide Tryz.prog W r base 30 v)(h:DataW.Trod enc Tryz.prog W b0 sp1 held 30 v d p):∃ (vs:List Value) (hi:List Int),v= .agg vs.toArray∧vs=hwC hi∧hi.length=10:=by
 simp only[Value.okWide,und30] at hv;obtain⟨cs,rfl,h2,_⟩:=hv;obtain⟨l⟩:=cs;obtain⟨fuel,hf⟩:=h;obtain⟨xs,m,rfl,hx,hlen,hxl,hall⟩:=DataW.trod_array und30 hf;simp only[Value.cells] at hlen hall;rw[cells30] at hlen;have each:∀ i,i<10→∃ a:Int,l[i]? =some (.int .i64 a):=fun i hi=>by
  have h3:=hall i hi;rw[cells3,Nat.mul_one,List.getElem?_eq_getElem (by omega:i<xs.length),List.drop_eq_getElem_cons (by omega:i<l.length)] at h3;obtain⟨a,e,_⟩:=F0 h3;exact⟨a,by rw[List.getElem?_eq_getElem (by omega:i<l.length),e]⟩
 obtain⟨f,hf2⟩:=choose_lt each;refine⟨l,(List.range 10).map f,rfl,?_,by simp⟩;refine List.ext_getElem? fun i=> ?_
 by_cases hi:i<10
 ·rw[hf2 i hi];simp[hi]
 ·rw[List.getElem?_eq_none qom,List.getElem?_eq_none (by simp;omega)]
end
end Go.Proofs.YtkojjapnfdlddaaGreat
