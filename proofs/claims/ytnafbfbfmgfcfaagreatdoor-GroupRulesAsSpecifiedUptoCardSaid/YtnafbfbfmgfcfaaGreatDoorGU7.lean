/-
  A part of what LawU rests on: the logic, walks and plain laws. No condition.
-/
import Derived.Test.YtnafbfbfmgfcfaaGreatDoorGU6
import Derived.Test.YtnafbfbfmgfcfaaGreatDoorRows
import Derived.WalkKit
import Derived.ProofKit
import Derived.OpenShut
import Derived.Lib.SmallJoins
import Derived.Deep.SlicePairs
import Derived.Test.YtnafbfbfmgfcfaaGreatDoorCards
import Derived.Test.YtnafbfbfmgfcfaaGreatDoorTie
import Derived.Deep.DeepHandedRow
import Derived.LaidMore
import Derived.Lay
import Derived.SevenTiedAt
import Derived.Stop.Joined
namespace Go.Proofs.YtnafbfbfmgfcfaaGreatDoor
open _root_.Go.Proofs.Tryz
open Go.RowKit
set_option linter.unusedVariables false
set_option linter.unusedSimpArgs false
set_option linter.unusedSectionVars false
set_option maxRecDepth 100000
theorem Ka2 (a0:Int)(a1:Int)(a2:Int)(a3:Int)(a4:Int)(a5:Int)(a6:Int)(a7:Int)(a8:Int)(a9:Int)(a10:Int)(a11:Int)(a12:Int)(a13:Int)(a14:Int)(a15:Int)(a16:Int)(a17:Int)(a18:Int)(a19:Int)(w:World):(Instr.build 121 #[(0, .agg #[.int .i64 a0, .int .i64 a1, .int .i64 a2, .int .i64 a3, .int .i64 a4, .int .i64 a5, .int .i64 a6, .int .i64 a7, .int .i64 a8, .int .i64 a9]),(1, .agg #[.int .i64 a10, .int .i64 a11, .int .i64 a12, .int .i64 a13, .int .i64 a14, .int .i64 a15, .int .i64 a16, .int .i64 a17, .int .i64 a18, .int .i64 a19])]).run prog w= .ok (.agg #[.int .i64 a0, .int .i64 a1, .int .i64 a2, .int .i64 a3, .int .i64 a4, .int .i64 a5, .int .i64 a6, .int .i64 a7, .int .i64 a8, .int .i64 a9, .int .i64 a10, .int .i64 a11, .int .i64 a12, .int .i64 a13, .int .i64 a14, .int .i64 a15, .int .i64 a16, .int .i64 a17, .int .i64 a18, .int .i64 a19]) w:=by kernel_rfl
theorem yl_andS {P:Program}{w0:World}{L:Fm}{H:List (Nat × Obj)}{ty xt yt:TypeId}{x y:Operand}{a c:Int}(ha:0<=a/\a<=65535)(hc:0<=c/\c<=65535)(hs:a.toNat &&& c.toNat=a.toNat)(hx:Ev L x (.int .i64 a))(hy:Ev L y (.int .i64 c)):Yl P w0 (.binOp .and xt x y yt) ty L H (.int .i64 a):=by
 have h:=yl_andJ (P:=P) (w0:=w0) (H:=H) (ty:=ty) (xt:=xt) (yt:=yt) (m:=a.toNat) qom hc (by rw[Int.toNat_of_nonneg ha.1];exact hx) hy
 rwa [hs,Int.toNat_of_nonneg ha.1] at h
def WitH (v m:Nat->Int):Prop:=∀ i,i<10->(v i).toNat &&& (m i).toNat=(v i).toNat
theorem wit_tag {t:Int}(h:0<=t/\t<=65535):WitH (hdM 0 t) (hdM 0 65535):=fun i hi=>by
 match i,hi with
 |0,_|1,_|2,_|3,_|4,_|5,_|6,_|7,_|8,_=>exact Nat.zero_and _
 |9,_=>exact G2 (by show t.toNat<_;omega)
theorem wit_mod {L:Nat}{a:Al}(h:AlOk L a):WitH (hdM a.p a.t) (hdM 65535 a.k):=fun i hi=>by
 have hp:=h.p;have ht:=h.t
 match i,hi with
 |1,_|2,_|3,_|4,_|5,_|6,_|7,_|8,_=>exact Nat.zero_and _
 |0,_=>exact G2 (by show a.p.toNat<_;omega)
 |9,_=>
  show a.t.toNat &&& a.k.toNat=a.t.toNat
  rcases h.k with e|e
  ·rw[h.z e];exact Nat.zero_and _
  ·rw[e];exact G2 qom
theorem K9 {a z:Int}(ha:0<=a/\a<=65535)(hz:0<=z/\z<=65535):RgH (hdM a z):=fun i _=>Ju ha hz i
structure FmR (L:Nat) (r:Ru):Prop where
 p:1<=r.prio/\r.prio<=65535
 t:0<=r.tag/\r.tag<=65535
 s: -1<=r.step
 a:∀ a∈r.alts,AlOk L a
 l:1<=r.alts.length/\r.alts.length<=8
theorem rheadT_g {w0:World}{H:List (Nat × Obj)}(h:Nat->Int)(hr:RgH h):
  FSpec prog w0 33 #[.agg (encHd h).toArray] H (Still (.bool true) H):=by
 refine Az func33 U ntmps33 U (rD tb 2 U (e_ (Lt U cs_) ?_ U));rintro _ _ ⟨n1,rfl,rfl⟩;refine rO tb 10 U ?_;refine Cb (X:=Nat) (V:=fun i=>[(3, .int .i64 (i:Nat))]) (C:=[(1,_)]) (φ:=fun i=>i<=10) (μ:=fun i=>10 - i) (x0:=0) ?_ (kg U) ⟨atd,trivial⟩ ?_
 ·exact Nat.zero_le _
 rintro i hi;refine rD tb 7 U ?_
 first|refine Ak (Aa U) (fun c5=> ?_) (fun c5=> ?_)|refine Au (Aa U) (fun c5=> ?_) (fun c5=> ?_)
 ·have hi2:i<10:=by have h9:((i:Nat):Int)<10:=c5;omega
  have hri:=hr i hi2;refine rC tb 7 U (y_ (Cm (T U) (T U) runUnderlying74 sizeOf3 qom) ?_ U);refine y_ (Lo U isAgg3 (by first|exact c_o|exact Fi hi2 fdd)) ?_ U;refine rO tb 2 U ?_
  first|refine Bi (s:=12) (Aa U) (fun c12=> ?_) (fun c12=> ?_)|refine B2 (s:=12) (Aa U) (fun c12=> ?_) (fun c12=> ?_)
  ·exfalso;omega
  ·refine rO tb 1 U (A3 (Cm (T U) (T U) runUnderlying74 sizeOf3 qom) U (Ax U U (Aa U)) ?_);refine A3 (Lo U isAgg3 (by first|exact c_o|exact Fi hi2 fdd)) U (Ax U U (Aa U)) ?_;refine rO tb 4 U ?_
   first|refine Ak (Aa U) (fun c17=> ?_) (fun c17=> ?_)|refine Au (Aa U) (fun c17=> ?_) (fun c17=> ?_)
   ·exfalso;omega
   ·refine rC tb 5 U (y_ (Bd (T U) An qom) ?_ U);refine rO tb 2 U ?_;refine A8 (i+1) ?_ ?_ ⟨atd,trivial⟩ (kg U) ?_
    ·exact hi2
    ·first|omega|(simp only[];omega)
    ·exact sbt
 ·have hi2:i=10:=by have h9: ¬ ((i:Nat):Int)<10:=c5;omega
  refine rC tb 2 U (Aq (rX tb 8 U (As U (Ll U) ?_)));exact⟨_,⟨rfl,rfl⟩,sbt⟩
theorem within_g {w0:World}{H:List (Nat × Obj)}(v m:Nat->Int)(hv:RgH v)(hm:RgH m)(hw:WitH v m):
  FSpec prog w0 165 #[.agg (encHd v).toArray, .agg (encHd m).toArray] H (Still (.bool true) H):=by
 refine Az func165 U ntmps165 U (rD tb 2 U (e_ (Lt U cs_) ?_ U));rintro _ _ ⟨n2,rfl,rfl⟩;refine e_ (Lt U cs_) ?_ U;rintro _ _ ⟨n3,rfl,rfl⟩;refine rO tb 10 U ?_;refine Cb (X:=Nat) (V:=fun i=>[(5, .int .i64 (i:Nat))]) (C:=[(2,_),(3,_)]) (φ:=fun i=>i<=10) (μ:=fun i=>10 - i) (x0:=0) ?_ (kg U) ⟨atd,trivial⟩ ?_
 ·exact Nat.zero_le _
 rintro i hi;refine rD tb 7 U ?_
 first|refine Ak (Aa U) (fun c7=> ?_) (fun c7=> ?_)|refine Au (Aa U) (fun c7=> ?_) (fun c7=> ?_)
 ·have hi2:i<10:=by have h9:((i:Nat):Int)<10:=c7;omega
  refine rC tb 5 U (B9 11 [(0,true),(1,true),(2,true),(3,true),(4,true),(5,true),(6,true),(7,true),(8,true),(9,true),(10,true)] _ mixd qkr sb0 ?_ By);refine rP tb 1 U (o_y U (Cm (T U) (T U) runUnderlying74 sizeOf3 qom) ?_ U Ac);refine o_y U (Lo U isAgg3 (by first|exact c_o|exact Fi (h:=v) hi2 fdd)) ?_ U Ac;refine rP tb 1 U (o_y U (Cm (T U) (T U) runUnderlying74 sizeOf3 qom) ?_ U Ac);refine o_y U (Lo U isAgg3 (by first|exact c_o|exact Fi (h:=m) hi2 fdd)) ?_ U Ac;refine o_y U (yl_andS (hv i hi2) (hm i hi2) (hw i hi2) (T U) (T U)) (rP tb 1 U (o_y U (Cm (T U) (T U) runUnderlying74 sizeOf3 qom) ?_ U Ac)) U Ac;refine o_y U (Lo U isAgg3 (by first|exact c_o|exact Fi (h:=v) hi2 fdd)) ?_ U Ac;refine o_y U (H4 (T U) (T U)) (Bj U (rO tb 8 U (y_ (Bd (T U) An qom) ?_ U))) U Ac;refine rO tb 2 U ?_;refine A8 (i+1) ?_ ?_ ⟨atd,trivial⟩ (kg U) ?_
  ·exact hi2
  ·first|omega|(simp only[];omega)
  ·exact sbt
 ·have hi2:i=10:=by have h9: ¬ ((i:Nat):Int)<10:=c7;omega
  refine rC tb 2 U (Aq (rX tb 8 U (As U (Ll U) ?_)));exact⟨_,⟨rfl,rfl⟩,sbt⟩
theorem rmatchT_g {w0:World}{H:List (Nat × Obj)}(m v:Nat->Int)(hm:RgH m)(hv:RgH v)(hw:WitH v m):
  FSpec prog w0 121 #[.agg (encHd m++encHd v).toArray] H (Still (.bool true) H):=by
 refine Az func121 U ntmps121 U (rD tb 2 U (e_ (Lt U cs_) ?_ U));rintro _ _ ⟨n1,rfl,rfl⟩;refine rO tb 6 U ?_;refine y_ (Lp U isAgg74 sizeOf74 U (by first|exact(show Cells w0 _ _ _ (encHd m) from Ce (o:=0) (k:=10) (l:=(encHd m++encHd v)) fdd)|exact A2)) ?_ U;refine y_ (Bb (qe1 U) call33 (fun H' hs=>rheadT_g m hm)) (rO tb 6 U ?_) U;refine y_ (Lp U isAgg74 sizeOf74 U (by first|exact(show Cells w0 _ _ _ (encHd v) from Ce (o:=10) (k:=10) (l:=(encHd m++encHd v)) fdd)|exact A2)) ?_ U;refine y_ (Bb (qe1 U) call33 (fun H' hs=>rheadT_g v hv)) (rO tb 11 U ?_) U;refine A3 (Lp U isAgg74 sizeOf74 U (by first|exact(show Cells w0 _ _ _ (encHd v) from Ce (o:=10) (k:=10) (l:=(encHd m++encHd v)) fdd)|exact A2)) U (Ax U U (Aa U)) ?_;refine rO tb 1 U ?_;refine A3 (Lp U isAgg74 sizeOf74 U (by first|exact(show Cells w0 _ _ _ (encHd m) from Ce (o:=0) (k:=10) (l:=(encHd m++encHd v)) fdd)|exact A2)) U (Ax U U (Aa U)) ?_;refine A3 (Bb (qe2 U U) call165 (fun H' hs=>within_g v m hv hm hw)) U (Ax U U (Aa U)) (rO tb 5 U (As U (Ll U) ?_));exact⟨_,⟨rfl,rfl⟩,sbt⟩
theorem rmodT_g {w0:World}{H:List (Nat × Obj)}(m v:Nat->Int)(hm:RgH m)(hv:RgH v)(hw:WitH v m):
  FSpec prog w0 122 #[.agg (encHd m++encHd v).toArray] H (Still (.bool true) H):=by
 refine Az func122 U ntmps122 U (rD tb 2 U (e_ (Lt U cs_) ?_ U));rintro _ _ ⟨n1,rfl,rfl⟩;refine rO tb 6 U ?_;refine y_ (Lp U isAgg74 sizeOf74 U (by first|exact(show Cells w0 _ _ _ (encHd m) from Ce (o:=0) (k:=10) (l:=(encHd m++encHd v)) fdd)|exact A2)) ?_ U;refine rO tb 1 U ?_;refine y_ (Lp U isAgg74 sizeOf74 U (by first|exact(show Cells w0 _ _ _ (encHd v) from Ce (o:=10) (k:=10) (l:=(encHd m++encHd v)) fdd)|exact A2)) ?_ U;refine y_ (Bg (.cons (T rfl) (.cons (T rfl) .nil)) (Ka2 _ _ _ _ _ _ _ _ _ _ _ _ _ _ _ _ _ _ _ _)) (y_ (Bb (qe1 rfl) call121 (fun H' hs=>rmatchT_g m v hm hv hw)) (rO tb 4 rfl (As rfl (Ll rfl) ?_)) rfl) rfl;exact⟨_,⟨rfl,rfl⟩,sbt⟩
theorem formedT_g {w0:World}{H:List (Nat × Obj)}(n:Nm)(hn:NetM w0 H n)(steps:Int)(r:Ru)(h:RuM w0 H r)(hf:FmR n.links.length r):
  FSpec prog w0 72 #[.agg (encNm n).toArray, .int .i64 steps, .agg (encRu r).toArray] H (Still (.bool (decide (r.step<steps))) H):=by
 refine Az func72 U ntmps72 U ?_;have hp:=hf.p;have hst:=hf.s;have hlen:=hf.l;refine rD tb 2 U (e_ (Lt U cs_) ?_ U);rintro _ _ ⟨n3,rfl,rfl⟩;refine e_ (Lt U cs_) ?_ U;rintro _ _ ⟨n5,rfl,rfl⟩;refine rO tb 6 U ?_;refine y_ (Lp U isAgg121 sizeOf121 U (by first|exact(show Cells w0 _ _ _ (encHd (hdM 0 65535)++encHd (hdM 0 r.tag)) from Ce (o:=1) (k:=20) (l:=encRu r) fdd)|exact A2)) ?_ U;refine y_ (Bb (qe1 rfl) call121 (fun H' hs=>rmatchT_g (hdM 0 65535) (hdM 0 r.tag) (K9 qde qde) (K9 qde hf.t) (wit_tag hf.t))) ?_ rfl;refine rO tb 7 U (y_ (Lo U isAgg3 (by first|exact c_o)) ?_ U);refine rO tb 2 U ?_
 first|refine Bi (s:=18) (Aa U) (fun c18=> ?_) (fun c18=> ?_)|refine B2 (s:=18) (Aa U) (fun c18=> ?_) (fun c18=> ?_)
 ·exfalso;omega
 ·refine rO tb 1 U (A3 (Lo U isAgg3 (by first|exact c_o)) U (Ax U U (Aa U)) ?_);refine rO tb 3 U ?_
  first|refine Bi (s:=23) (Aa U) (fun c23=> ?_) (fun c23=> ?_)|refine B2 (s:=23) (Aa U) (fun c23=> ?_) (fun c23=> ?_)
  ·exfalso;omega
  ·refine rO tb 1 U ?_
   first|refine A3 (Cc (T U)) U (Ax U U (Aa U)) ?_
   refine rO tb 3 U (A3 (Lo U isAgg3 (by first|exact c_o)) U (Ax U U (Aa U)) ?_);refine rO tb 3 U ?_
   first|refine Bi (s:=32) (Aa U) (fun c32=> ?_) (fun c32=> ?_)|refine B2 (s:=32) (Aa U) (fun c32=> ?_) (fun c32=> ?_)
   ·exfalso;omega
   ·refine rO tb 1 U (A3 (Lo U isAgg3 (by first|exact c_o)) U (Ax U U (Aa U)) ?_);refine rO tb 4 U ?_
    first|refine Bi (s:=38) (Aa U) (fun c38=> ?_) (fun c38=> ?_)|refine B2 (s:=38) (Aa U) (fun c38=> ?_) (fun c38=> ?_)
    ·have hsg: ¬ r.step<steps:=by omega
     refine kO tb 7 [3,5,43] rfl U (rG tb 8 U (As U (Ll U) ?_));rw[decide_eq_false hsg];exact⟨_,⟨rfl,rfl⟩,sbt⟩
    ·have hsl:r.step<steps:=by omega
     refine rO tb 1 U (A3 (Lo U isAgg122 (by first|exact c_o)) U (Ax U U (Aa U)) ?_);refine kO tb 5 [3,5,43] rfl U ?_
     first|refine Ak (Aa U) (fun c43=> ?_) (fun c43=> ?_)|refine Au (Aa U) (fun c43=> ?_) (fun c43=> ?_)
     ·exfalso;omega
     ·refine rC tb 9 U ?_;refine Bz (X:=Nat) (V:=fun i=>[(8, .int .i64 (i:Nat))]) (C:=[(3,_),(5,_)]) (G:=fun i=>(n5,Cl (encRu r) 124)::(n3,Cl (encNm n) 26)::H) (φ:=fun i=>i<=1) (μ:=fun i=>1 - i) (x0:=0) ?_ (kg U) ⟨atd,trivial⟩ sb0 ?_
      ·exact Nat.zero_le _
      rintro i hi;refine rD tb 5 U (y_ (Lo U isAgg122 (by first|exact c_o)) ?_ U);refine rO tb 4 U ?_
      first|refine Ak (Aa U) (fun c48=> ?_) (fun c48=> ?_)|refine Au (Aa U) (fun c48=> ?_) (fun c48=> ?_)
      ·have hi2:i<1:=by have h9:((i:Nat):Int)<(1:Nat):=c48;omega
       refine rC tb 8 U (y_ (Lo U isAgg122 (by first|exact c_o)) ?_ U);refine rO tb 1 U (y_ (Lq U U runUnderlying122 sizeOf128 qom (by first|exact rfl|exact h.o.b (i:=i) hi2|exact h.a.b (i:=j) hj2)) ?_ U);refine y_ (Lo U isAgg128 (by first|exact c_o|exact(show Cell w0 _ _ (.slice r.qa r.alts.length r.ca) from (h.o.mono (by exact sbt)).f0 (i:=i) hi2 U))) ?_ U;refine rO tb 3 U ?_
       first|refine Bi (s:=58) (Aa U) (fun c58=> ?_) (fun c58=> ?_)|refine B2 (s:=58) (Aa U) (fun c58=> ?_) (fun c58=> ?_)
       ·exfalso;omega
       ·refine rO tb 1 U (A3 (Lo U isAgg122 (by first|exact c_o)) U (Ax U U (Aa U)) ?_);refine rO tb 1 U (A3 (Lq U U runUnderlying122 sizeOf128 qom (by first|exact rfl|exact h.o.b (i:=i) hi2|exact h.a.b (i:=j) hj2)) U (Ax U U (Aa U)) ?_);refine A3 (Lo U isAgg128 (by first|exact c_o|exact(show Cell w0 _ _ (.slice r.qa r.alts.length r.ca) from (h.o.mono (by exact sbt)).f0 (i:=i) hi2 U))) U (Ax U U (Aa U)) ?_;refine rO tb 5 U ?_
        first|refine Ak (Aa U) (fun c66=> ?_) (fun c66=> ?_)|refine Au (Aa U) (fun c66=> ?_) (fun c66=> ?_)
        ·exfalso;omega
        ·refine rC tb 8 U ?_;refine Bz (X:=Nat) (V:=fun j=>[(9, .int .i64 (j:Nat))]) (C:=[(3,_),(5,_),(8,_)]) (G:=fun j=>(n5,Cl (encRu r) 124)::(n3,Cl (encNm n) 26)::H) (φ:=fun j=>j<=r.alts.length) (μ:=fun j=>r.alts.length - j) (x0:=0) ?_ (kg U) ⟨atd,trivial⟩ sb0 ?_
         ·exact Nat.zero_le _
         rintro j hj;refine rD tb 5 U (y_ (Lo U isAgg122 (by first|exact c_o)) ?_ U);refine rO tb 1 U (y_ (Bl (T U) (T U) runUnderlying122 sizeOf128 qom (by first|exact rfl|exact h.o.b (i:=i) hi2|exact h.a.b (i:=j) hj2)) ?_ U);refine y_ (Lo U isAgg128 (by first|exact c_o|exact(show Cell w0 _ _ (.slice r.qa r.alts.length r.ca) from (h.o.mono (by exact sbt)).f0 (i:=i) hi2 U))) ?_ U;refine rO tb 4 U ?_
         first|refine Ak (Aa U) (fun c74=> ?_) (fun c74=> ?_)|refine Au (Aa U) (fun c74=> ?_) (fun c74=> ?_)
         ·have hj2:j<r.alts.length:=by have h9:((j:Nat):Int)<(r.alts.length:Nat):=c74;omega
          have haj:=hf.a _ (Ao hj2);have hal:=haj.l;refine rC tb 7 U (y_ (Lo U isAgg122 (by first|exact c_o)) ?_ U);refine rO tb 1 U (y_ (Bl (T U) (T U) runUnderlying122 sizeOf128 qom (by first|exact rfl|exact h.o.b (i:=i) hi2|exact h.a.b (i:=j) hj2)) ?_ U);refine y_ (Lo U isAgg128 (by first|exact c_o|exact(show Cell w0 _ _ (.slice r.qa r.alts.length r.ca) from (h.o.mono (by exact sbt)).f0 (i:=i) hi2 U))) ?_ U;refine rO tb 1 U (y_ (Lq U U runUnderlying128 sizeOf127 qom (by first|exact rfl|exact h.o.b (i:=i) hi2|exact h.a.b (i:=j) hj2)) ?_ U);refine y_ (Lp U isAgg127 sizeOf127 U (by first|exact(h.a.mono (by exact sbt)).cs (i:=j) hj2|exact A2)) ?_ U;refine e_ (Ap zeroValue127 cs_) ?_ U;rintro _ _ ⟨n10,rfl,rfl⟩
          first|refine A9 (Ls U U sizeOf127) U Ac ?_
          rintro _ _ ⟨rfl,rfl⟩;refine rO tb 5 U ?_;refine y_ (Lp U isAgg125 sizeOf125 U (by first|exact(show Cells w0 _ _ _ (encHd (hdM 65535 (gd r.alts j).k)++encHd (hdM (gd r.alts j).p (gd r.alts j).t)) from Ce (o:=1) (k:=20) (l:=encAl (gd r.alts j)) fdd)|exact A2)) ?_ U;refine y_ (Bb (qe1 U) call122 (fun H' hs=>rmodT_g (hdM 65535 (gd r.alts j).k) (hdM (gd r.alts j).p (gd r.alts j).t) (K9 qde (by have:=haj.k;omega)) (K9 haj.p haj.t) (wit_mod haj))) ?_ U;refine rO tb 6 U (y_ (Lo U isAgg3 (by first|exact c_o)) ?_ U);refine rO tb 2 U ?_
          first|refine Bi (s:=91) (Aa U) (fun c91=> ?_) (fun c91=> ?_)|refine B2 (s:=91) (Aa U) (fun c91=> ?_) (fun c91=> ?_)
          ·exfalso;omega
          ·refine rO tb 1 U (A3 (Lo U isAgg3 (by first|exact c_o)) U (Ax U U (Aa U)) ?_);refine rO tb 1 U (A3 (Lo U isAgg23 (by first|exact c_o)) U (Ax U U (Aa U)) ?_);refine rO tb 4 U ?_
           first|refine Bi (s:=99) (Aa U) (fun c99=> ?_) (fun c99=> ?_)|refine B2 (s:=99) (Aa U) (fun c99=> ?_) (fun c99=> ?_)
           ·exfalso;omega
           ·refine rO tb 1 U ?_
            first|refine A3 (Cc (T U)) U (Ax U U (Aa U)) ?_
            refine kO tb 3 [3,5,8,9,102] rfl U (rG tb 6 U (y_ (Bd (T U) An qom) ?_ U));refine rO tb 2 U ?_;refine A8 (j+1) ?_ ?_ ⟨atd,trivial⟩ (kg U) ?_
            ·(show j+1<=r.alts.length);omega
            ·first|omega|(simp only[];omega)
            ·exact sbt
         ·have hj2:j=r.alts.length:=by have h9: ¬ ((j:Nat):Int)<(r.alts.length:Nat):=c74;omega
          refine rC tb 2 U (Aq (rX tb 5 U (y_ (Bd (T U) An qom) ?_ U)));refine rO tb 2 U ?_;refine A8 (i+1) ?_ ?_ ⟨atd,trivial⟩ (kg U) ?_
          ·(show i+1<=1);omega
          ·first|omega|(simp only[];omega)
          ·exact sbt
      ·have hi2:i=1:=by have h9: ¬ ((i:Nat):Int)<(1:Nat):=c48;omega
       refine rC tb 2 U (Aq (rX tb 8 U (As U (Ll U) ?_)));rw[decide_eq_true hsl];exact⟨_,⟨rfl,rfl⟩,sbt⟩
structure TbF (L:Nat) (rs:List Ru):Prop where
 n:rs.length<=4000
 f:∀ r∈rs,FmR L r
 d:∀ i,i+1<rs.length->(gd rs (i+1)).prio<(gd rs i).prio
theorem checkT_g {w0:World}{H:List (Nat × Obj)}(n:Nm)(hn:NetM w0 H n)(steps:Int)(hst:0<=steps/\steps<=1000)(t:Tl)(ht:TlM w0 H t)(hf:TbF n.links.length t.rs):
  FSpec prog w0 24 #[.agg (encNm n).toArray, .int .i64 steps, .slice t.q t.rs.length t.c] H (fun v H'=>(∃ a e:Int,v= .tuple #[.int .i64 a, .int .i64 e]/\((∀ r∈t.rs,r.step<steps)->e=0))/\H'=H):=by
 refine Az func24 U ntmps24 U ?_;have hn4:=hf.n;refine rD tb 2 U (e_ (Lt U cs_) ?_ U);rintro _ _ ⟨n3,rfl,rfl⟩;refine rO tb 10 U ?_
 first|refine Bi (s:=12) (Aa U) (fun c12=> ?_) (fun c12=> ?_)|refine B2 (s:=12) (Aa U) (fun c12=> ?_) (fun c12=> ?_)
 ·exfalso;omega
 ·refine rO tb 5 U ?_
  first|refine Ak (Aa U) (fun c15=> ?_) (fun c15=> ?_)|refine Au (Aa U) (fun c15=> ?_) (fun c15=> ?_)
  ·exfalso;omega
  ·refine rC tb 10 U ?_
   first|refine Ak (Aa U) (fun c18=> ?_) (fun c18=> ?_)|refine Au (Aa U) (fun c18=> ?_) (fun c18=> ?_)
   ·exfalso;omega
   ·refine rC tb 9 U ?_;refine Bz (X:=Nat) (V:=fun i=>[(8, .int .i64 (i:Nat))]) (C:=[(1,_),(2,_),(3,_)]) (G:=fun i=>(n3,Cl (encNm n) 26)::H) (φ:=fun i=>i<=t.rs.length) (μ:=fun i=>t.rs.length - i) (x0:=0) ?_ (kg U) ⟨atd,trivial⟩ sb0 ?_
    ·exact Nat.zero_le _
    rintro i hi;refine rD tb 9 U ?_
    first|refine Ak (Aa U) (fun c22=> ?_) (fun c22=> ?_)|refine Au (Aa U) (fun c22=> ?_) (fun c22=> ?_)
    ·have hi2:i<t.rs.length:=by have h9:((i:Nat):Int)<(t.rs.length:Nat):=c22;omega
     refine rC tb 5 U (B9 8 [(0,true),(1,true),(2,true),(3,true),(4,true),(5,true),(6,true),(7,true)] _ mixd qkr sb0 ?_ By);refine o_y U (Lp U isAgg26 sizeOf26 U (by first|exact A2)) ?_ U Ac;refine rP tb 3 U (o_y U (Lq U U runUnderlying54 sizeOf124 qom (by first|exact rfl|exact ht.a.b (i:=i) hi2|exact ht.a.b (i:=i - 1) qom)) ?_ U Ac);refine o_y U (Lp U isAgg124 sizeOf124 U (by first|exact(ht.a.mono (by exact sbt)).cs (i:=i) hi2|exact A2)) ?_ U Ac;refine o_y U (Bb (qe3 U U U) call72 (fun H' hs=>formedT_g n (hn.mono (stn hs)) steps (gd t.rs i) ((ht.r _ (Ao hi2)).mono (stn hs)) (hf.f _ (Ao hi2)))) (rP tb 1 U (Bj U (rO tb 3 U (B9 20 [(0,true),(1,true),(2,true),(3,true),(4,true),(5,true),(6,true),(7,true),(8,true),(9,true),(10,true),(11,true),(12,true),(13,true),(14,true),(15,true),(16,true),(17,true),(18,true),(19,true)] _ mixd qkr sb0 ?_ By)))) U Ac;refine rP tb 1 U ?_
     first|refine o_y U (B7 (T U)) ?_ U Ac|refine o_y U (Cc (T U)) ?_ U Ac
     refine rP tb 1 U ?_
     first|refine Cu (s:=34) (Aa U) (fun c34=> ?_) (fun c34=> ?_)|refine Ds (s:=34) (Aa U) (fun c34=> ?_) (fun c34=> ?_)
     ·skip
      refine rP tb 17 U (Bj U (kO tb 2 [1,2,3,8,51] rfl U (rG tb 11 U (Bc (rX tb 2 U (As U (.tmp (Aa U) (Ll U)) ?_))))));exact⟨_,⟨⟨_,_,rfl,fun h=>absurd (h _ (Ao hi2)) c34⟩,rfl⟩,sbt⟩
     ·skip
      refine rP tb 3 U ?_
      first|refine Cu (s:=37) (Aa U) (fun c37=> ?_) (fun c37=> ?_)|refine Ds (s:=37) (Aa U) (fun c37=> ?_) (fun c37=> ?_)
      ·have hi0:0<i:=by have h9:(0:Int)<((i:Nat):Int):=c37;omega
       have hk1:(((i:Nat):Int) - 1).toNat=i - 1:=by omega
       have hdec:(gd t.rs i).prio<(gd t.rs (i - 1)).prio:=by have h9:=hf.d (i - 1) qom;rwa [show i - 1+1=i by omega] at h9
       refine rP tb 2 U (o_y U (Lq U U runUnderlying54 sizeOf124 qom (by first|exact rfl|exact ht.a.b (i:=i) hi2|exact ht.a.b (i:=i - 1) qom)) ?_ U (Ax U U (Aa U)));refine rP tb 1 U (o_y U (Lo U isAgg3 (by first|exact c_o|exact(show Cell w0 _ _ (.int .i64 (gd t.rs i).prio) from (ht.a.mono (by exact sbt)).f0 (i:=i) hi2 U))) ?_ U (Ax U U (Aa U)));refine rP tb 2 U (o_y U (Ed (T U) An qom) ?_ U (Ax U U (Aa U)));refine o_y U (Bl (T U) (T U) runUnderlying54 sizeOf124 qom (by first|exact rfl|exact ht.a.b (i:=i) hi2|exact ht.a.b (i:=i - 1) qom)) ?_ U (Ax U U (Aa U));refine rP tb 1 U (o_y U (Lo U isAgg3 (by first|exact c_o|exact(show Cell w0 _ _ (.int .i64 (gd t.rs (i - 1)).prio) from by rw[hk1];exact(ht.a.mono (by exact sbt)).f0 (i:=i - 1) qom U))) ?_ U (Ax U U (Aa U)));refine rP tb 3 U (Bj U (kO tb 2 [1,2,3,8,51] rfl U ?_))
       first|refine Ak (Aa U) (fun c51=> ?_) (fun c51=> ?_)|refine Au (Aa U) (fun c51=> ?_) (fun c51=> ?_)
       ·exfalso;omega
       ·refine rC tb 5 U (y_ (Bd (T U) An qom) ?_ U);refine rO tb 2 U ?_;refine A8 (i+1) ?_ ?_ ⟨atd,trivial⟩ (kg U) ?_
        ·(show i+1<=t.rs.length);omega
        ·first|omega|(simp only[];omega)
        ·exact sbt
      ·skip
       refine rP tb 14 U (Bj U (kO tb 2 [1,2,3,8,51] rfl U (rG tb 6 U (y_ (Bd (T U) An qom) ?_ U))));refine rO tb 2 U ?_;refine A8 (i+1) ?_ ?_ ⟨atd,trivial⟩ (kg U) ?_
       ·(show i+1<=t.rs.length);omega
       ·first|omega|(simp only[];omega)
       ·exact sbt
    ·have hi2:i=t.rs.length:=by have h9: ¬ ((i:Nat):Int)<(t.rs.length:Nat):=c22;omega
     refine rC tb 2 U (Aq (rX tb 9 U (As U (.tmp (Aa U) (Ll U)) ?_)));exact⟨_,⟨⟨_,_,rfl,fun _=>rfl⟩,rfl⟩,sbt⟩
theorem tblK_at (top:Int)(f:Int->Option Hop)(us:List Int):∀ a,a<(tblK top f us).length->(gd (tblK top f us) a).prio=top - (a:Nat)/\(gd (tblK top f us) a).tag∈us/\f (gd (tblK top f us) a).tag=some (gd (tblK top f us) a).hop:=by
 refine snoc_ind (Q:=fun us=>∀ a,a<(tblK top f us).length->(gd (tblK top f us) a).prio=top - (a:Nat)/\(gd (tblK top f us) a).tag∈us/\f (gd (tblK top f us) a).tag=some (gd (tblK top f us) a).hop) ?_ ?_ us
 ·intro a ha;exact absurd ha (Nat.not_lt_zero a)
 ·intro us t ih a ha;rw[tblK_snoc] at ha ⊢;cases hf:f t with
  |none=>
   rw[tblS_none hf] at ha ⊢;obtain⟨h1,h2,h3⟩:=ih a ha;exact⟨h1,List.mem_append_left _ h2,h3⟩
  |some h=>
   rw[Fa hf] at ha ⊢;rw[List.length_append,List.length_singleton] at ha
   by_cases e:a<(tblK top f us).length
   ·have e2:gd (tblK top f us++[⟨top - (tblK top f us).length,t,h⟩]) a=gd (tblK top f us) a:=by
     rw[Ay (by rw[List.length_append,List.length_singleton];omega),Ay e,List.getElem_append_left e]
    rw[e2];obtain⟨h1,h2,h3⟩:=ih a e;exact⟨h1,List.mem_append_left _ h2,h3⟩
   ·obtain rfl:a=(tblK top f us).length:=by omega
    have e2:gd (tblK top f us++[⟨top - (tblK top f us).length,t,h⟩]) (tblK top f us).length=⟨top - (tblK top f us).length,t,h⟩:=by
     rw[Ay (by rw[List.length_append,List.length_singleton];omega)];simp
    rw[e2];exact⟨rfl,List.mem_append_right _ (List.mem_singleton.2 U),hf⟩
theorem hop_is {ls:List Lnk}{w:Way}{k:Int}{h:Hop}(ha:atF ls w k=some h):(∃ i,i<w.links.length/\h=⟨gd w.links i,gd w.links i, -1, -1⟩)\/h=⟨-1,w.port,w.tag,w.step⟩:=by
 obtain⟨i,hi,e⟩:=List.getElem_of_mem (Hf ha);rw[C3] at hi;rw[<- Ay (by rw[C3];exact hi),Eb qom] at e;have e2:=(Prod.mk.inj e).2;unfold hopN at e2
 split at e2
 ·rename_i h1;exact .inl ⟨i,h1,e2.symm⟩
 ·exact .inr e2.symm
structure FmC (L:Nat) (c:Int × Int × Int × List Al):Prop where
 p:1<=c.1/\c.1<=65535
 t:0<=c.2.1/\c.2.1<=65535
 s: -1<=c.2.2.1
 a:∀ a∈c.2.2.2,AlOk L a
 l:1<=c.2.2.2.length/\c.2.2.2.length<=8
theorem FmC.r {L:Nat}{r:Ru}(h:FmC L (ruC r)):FmR L r:=⟨h.p,h.t,h.s,h.a,h.l⟩
theorem hop_al {n:Nm}{steps:Int}(hlk:n.links.length<=16)(hnd:n.nodes.length<=8)(hed:n.edges.length<=20)(hnet:NetOk n){w:Way}(ho:oneF n steps w=0){k:Int}{h:Hop}(ha:atF n.links w k=some h):AlOk n.links.length (alOf h)/\ -1<=h.step/\(h.step= -1\/h.step<steps):=by
 have h1:=Dw ho;have hin:=Fu h1.walk;rcases hop_is ha with ⟨i,hi,rfl⟩|rfl
 ·have h2:=hin i hi;refine⟨?_,Int.le_refl _, .inl U⟩;unfold alOf;rw[if_neg (show ¬ gd w.links i<0 by omega)];exact⟨.inr h2, .inl U,⟨h2.1,by show gd w.links i<=_;omega⟩,⟨Int.le_refl _,by show (0:Int)<=65535;decide⟩,fun _=>rfl⟩
 ·have hw:=walkF_end n.links n.nodes.length (fun l hl=>by
   have:=hnet.links l hl;exact⟨this.d0,this.d1⟩) w.links w.src h1.s0 h1.s1 h1.walk
  have hp:0<=w.port/\w.port<=65535:=by
   unfold oneF at ho
   split at ho
   ·cases ho
   ·split at ho
    ·cases ho
    ·split at ho
     ·cases ho
     ·split at ho
      ·omega
      ·split at ho
       ·omega
       ·cases ho
  have hs: -1<=w.step/\w.step<steps:=by
   unfold oneF at ho
   split at ho
   ·cases ho
   ·omega
  refine⟨?_,hs.1, .inr hs.2⟩;unfold alOf;rw[if_pos (show (-1:Int)<0 by decide)];exact⟨.inl U, .inr U,hp,⟨h1.t0,h1.t1⟩,fun h=>absurd (show (65535:Int)=0 from h) qde⟩
structure TcF (L:Nat) (steps:Int) (cs:List (Int × Int × Int × List Al)):Prop where
 n:cs.length<=4000
 f:∀ c∈cs,FmC L c/\(c.2.2.1= -1\/c.2.2.1<steps)
 d:∀ i,i+1<cs.length->(gd cs (i+1)).1<(gd cs i).1
theorem TcF.tb {L:Nat}{steps:Int}{rs:List Ru}(h:TcF L steps (rs.map ruC)):TbF L rs:=by
 refine⟨by simpa using h.n,fun r hr=>(h.f _ (List.mem_map.2 ⟨r,hr,rfl⟩)).1.r,fun i hi=> ?_⟩;have h1:=h.d i (by simpa using hi)
 rwa [Cr hi,Cr qom] at h1
theorem TcF.st {L:Nat}{steps:Int}{rs:List Ru}(h:TcF L steps (rs.map ruC))(hs:steps<=1000):∀ r∈rs,r.step<min (max steps 0) 1000:=fun r hr=>by
 have h1:=h.f _ (List.mem_map.2 ⟨r,hr,rfl⟩);have h2:r.step= -1\/r.step<steps:=h1.2;omega
theorem grul_tc {n:Nm}{steps:Int}{ws:List Wm}{l:List Dtm}{tags dt:List Int}{top:Int}(hR:Rt n steps ws 8)(hlen:l.length<=20)(hl:∀ k,k<l.length->RlOk n steps ws l k)(hgr:GrOk n ws l tags dt):∀ cs∈(grulF n ws l tags dt top).1,TcF n.links.length steps cs:=by
 intro cs hcs;have hln:=hR.ln;have hll:=hR.ll;have hle:=hR.le;have hone:=G4 hl;have hwl:(ws++l.map Dtm.m).length=(tags++dt).length:=by rw[List.length_append,List.length_append,hgr.tl,List.length_map,hgr.dl]
 unfold grulF at hcs;simp only[] at hcs;obtain⟨us,hus⟩:∃ us,us=usedF (tags++dt):=⟨_,rfl⟩;obtain⟨pl,hpl⟩:∃ pl,pl=planR n.links (pairs (ws++l.map Dtm.m) (tags++dt)):=⟨_,rfl⟩;rw[<- hus,<- hpl] at hcs;obtain⟨rs2,hrs2,rfl⟩:=List.mem_map.1 hcs;obtain⟨x,hx,e⟩:=List.getElem_of_mem hrs2;have hx2:x<(rulesRes n.nodes.length top us pl).1.length:=by simpa[secT] using hx
 have e9:rs2=(gd (rulesRes n.nodes.length top us pl).1 x).map fun r=>(r,scF n.links ws l tags dt l.length (x:Int) r.tag):=by
  rw[<- e];simp[secT,Ay hx2]
 by_cases h0: ¬ (rulesRes n.nodes.length top us pl).2=0
 ·rw[Hw h0] at hx2;exact absurd hx2 (Nat.not_lt_zero x)
 have h0:=Decidable.byContradiction h0;obtain⟨k1,k2⟩:=Hy h0;have hxN:x<n.nodes.length:=by omega
 have hT:1<=top/\top<=65535/\gd (rulesRes n.nodes.length top us pl).1 x=tblK top (fun t=>pl t x) us/\((tblK top (fun t=>pl t x) us).length:Int)<=top:=by
  unfold rulesRes at h0 ⊢
  split at h0
  ·rename_i h1;rw[if_pos h1]
   split at h0
   ·rename_i h2;rw[if_pos h2];rw[List.all_eq_true] at h2;have h3:=of_decide_eq_true (h2 x (List.mem_range.2 hxN));refine⟨h1.1,h1.2,?_,h3.1⟩;rw[Cr (by simpa using hxN)];have e:gd (List.range n.nodes.length) x=x:=by rw[Ay (by simpa using hxN),List.getElem_range]
    rw[e]
   ·cases h0
  ·cases h0
 obtain⟨t1,t2,t3,t4⟩:=hT;have k3:=k2 x hxN;rw[t3] at e9 k3;have hat:=tblK_at top (fun t=>pl t x) us
 generalize tblK top (fun t=>pl t x) us=rs at e9 k3 t4 hat
 have hcs2:rs2.map corC=rs.map fun r=>corC (r,scF n.links ws l tags dt l.length (x:Int) r.tag):=by rw[e9,List.map_map];rfl
 rw[hcs2];refine⟨by rw[List.length_map];exact k3,fun c hc=> ?_,fun i hi=> ?_⟩
 ·obtain⟨r,hr,rfl⟩:=List.mem_map.1 hc;obtain⟨a,ha,rfl⟩:=List.getElem_of_mem hr;rw[<- Ay ha];obtain⟨m1,m2,m3⟩:=hat a ha;rw[hpl] at m3;obtain⟨p,hp,hpt,hpa⟩:=E5 m3;obtain⟨j,hj,rfl⟩:=(C8 qom).1 hp;have hw1:oneF n steps (gd (ws++l.map Dtm.m) j).way=0:=by
   have hm:=Ao (l:=ws++l.map Dtm.m) (i:=j) qom;rcases List.mem_append.1 hm with h|h
   ·exact hR.ways _ h
   ·obtain⟨y,hy,e⟩:=List.mem_map.1 h;rw[<- e];exact hone y hy
  have hal:=hop_al hll hln hle hR.net hw1 hpa;have htg:1<=gd (tags++dt) j/\gd (tags++dt) j<=65535:=by
   by_cases e:j<tags.length
   ·have e2:gd (tags++dt) j=gd tags j:=by rw[Ay qom,Ay e,List.getElem_append_left e]
    rw[e2];have:=hgr.tb j e;omega
   ·have hj2:j - tags.length<dt.length:=by rw[List.length_append] at hj;omega
    have e2:gd (tags++dt) j=gd dt (j - tags.length):=by rw[Ay qom,Ay hj2,List.getElem_append_right qom]
    rw[e2];exact hgr.db _ hj2
  have htag:gd (tags++dt) j=(gd rs a).tag:=hpt;refine⟨⟨?_,?_,hal.2.1,fun y hy=> ?_,?_⟩,hal.2.2⟩
  ·show 1<=(gd rs a).prio/\(gd rs a).prio<=65535;omega
  ·show 0<=(gd rs a).tag/\(gd rs a).tag<=65535;omega
  ·rcases List.mem_cons.1 (show y∈alOf (gd rs a).hop::((scF n.links ws l tags dt l.length (x:Int) (gd rs a).tag).map alSec).toList from hy) with rfl|h
   ·exact hal.1
   ·cases hs:scF n.links ws l tags dt l.length (x:Int) (gd rs a).tag with
    |none=>rw[hs] at h;cases h
    |some v=>
     rw[hs] at h;have e:y=alSec v:=by simpa using h
     subst e;unfold scF at hs;obtain⟨d,hd,rfl⟩:=Option.map_eq_some_iff.1 hs;have hdl:=List.mem_range.1 (List.mem_of_find?_eq_some hd);have hin:=Fu (Dw (hone _ (Ao hdl))).walk 0 (by have:=(hl d hdl).c3.2.1;omega);have hdb:=hgr.db d (by rw[hgr.dl];exact hdl);exact⟨.inr hin, .inr U,⟨hin.1,by show gd (gd l d).m.way.links 0<=_;omega⟩,⟨by show 0<=gd dt d;omega,hdb.2⟩,fun h=>absurd (show (65535:Int)=0 from h) qde⟩
  ·show 1<=(alsOf _ _).length/\(alsOf _ _).length<=8;unfold alsOf;cases scF n.links ws l tags dt l.length (x:Int) (gd rs a).tag<;>simp
 ·rw[List.length_map] at hi;rw[Cr hi,Cr qom];show (gd rs (i+1)).prio<(gd rs i).prio;have:=(hat (i+1) hi).1;have:=(hat i qom).1;omega
theorem grul_len (n:Nm)(ws:List Wm)(l:List Dtm)(tags dt:List Int)(top:Int):(grulF n ws l tags dt top).1.length<=n.nodes.length:=by
 unfold grulF;rw[List.length_map];show (secT _ _ _ _ _ _).length<=_;unfold secT;rw[List.length_mapIdx]
 by_cases h:(rulesRes n.nodes.length top (usedF (tags++dt)) (planR n.links (pairs (ws++l.map Dtm.m) (tags++dt)))).2=0
 ·exact Nat.le_of_eq (Hy h).1
 ·rw[Hw h];exact Nat.zero_le _
theorem grules_s {w0:World}{H:List (Nat × Obj)}(n:Nm)(hn:NetM w0 H n)(steps:Int)(ws:List Wm)(qw:Option Addr)(cw:Nat)(hw:WaysM w0 H qw ws)(l:List Dtm)(ql:Option Addr)(cl:Nat)(hA:Arr w0 H ql 7 encDt l)(hd:∀ x∈l,WayM w0 H x.m)(hbig:∀ x∈l,x.m.way.links.length<=9000000)(tags:List Int)(q1:Option Addr)(c1:Nat)(hT1:Arr w0 H q1 1 encI tags)(hl1:tags.length<=9000000)(dt:List Int)(q2:Option Addr)(c2:Nat)(hT2:Arr w0 H q2 1 encI dt)(hc2:dt.length<=c2)(hl2:dt.length<=9000000)(top:Int)(hW:Arr w0 [] (some ⟨0,0,none⟩) 1 encS wordsL):
  FSpec prog w0 5 #[.agg (encNm n).toArray, .int .i64 steps, .slice qw ws.length cw, .slice ql l.length cl, .slice q1 tags.length c1, .slice q2 dt.length c2, .int .i64 top] H (Still (.bool true) H):=by
 refine Az func5 U ntmps5 U ?_;have hM:GpM w0 H n ws qw l ql:=⟨hn,hw,hd,hA⟩;refine rD tb 2 U (e_ (Lt U cs_) ?_ U);rintro _ _ ⟨n7,rfl,rfl⟩;refine rO tb 6 U (y_ (Lp U isAgg26 sizeOf26 U (by first|exact A2)) ?_ U);refine rO tb 2 U (e_ (A1 (qe3 U U U) call8 (right8_g n (hn.mono (by exact sbt)) steps qw cw ws (hw.mono (by exact sbt)))) ?_ U);rintro _ _ ⟨⟨t,rfl,ht1⟩,rfl⟩
 first|refine A3 (B7 (T U)) U Ac ?_|refine A3 (Cc (T U)) U Ac ?_
 refine rO tb 1 U ?_
 first|refine Bi (s:=28) (Aa U) (fun c28=> ?_) (fun c28=> ?_)|refine B2 (s:=28) (Aa U) (fun c28=> ?_) (fun c28=> ?_)
 ·refine rO tb 26 U (y_ (Bb .nil call9 (fun H' hs=>G3 hW)) (kO tb 3 [14] rfl U (rG tb 2 U (As U (Ll U) ?_))) U);exact⟨_,⟨rfl,rfl⟩,sbt⟩
 ·have hR:Rt n steps ws 8:=ht1 (by simpa using c28);refine rO tb 5 U ?_
  first|refine Bi (s:=33) (Aa U) (fun c33=> ?_) (fun c33=> ?_)|refine B2 (s:=33) (Aa U) (fun c33=> ?_) (fun c33=> ?_)
  ·refine rO tb 21 U (y_ (Bb .nil call9 (fun H' hs=>G3 hW)) (kO tb 3 [14] rfl U (rG tb 2 U (As U (Ll U) ?_))) U);exact⟨_,⟨rfl,rfl⟩,sbt⟩
  ·have hl20:l.length<=20:=by omega
   refine A3 (Lp U isAgg26 sizeOf26 U (by first|exact A2)) U (Ax U U (Aa U)) ?_;refine rO tb 3 U (A9 (A1 (qe4 U U U U) call14 (rlist_g n (hn.mono (by exact sbt)) hR.net (by have:=hR.le;omega) (by have:=hR.ln;omega) steps ws qw cw (hw.mono (by exact sbt)) (rt_gw hR) (fun m hm=>by have:=K8 hR m hm;omega) l ql cl (hA.mono (by exact sbt)) (fun x hx=>(hd x hx).mono (by exact sbt)) qom hbig)) U (Ax U U (Aa U)) ?_);rintro _ _ ⟨⟨t2',rfl,ht2⟩,rfl⟩
   first|refine A3 (B7 (T U)) U (Ax U U (Aa U)) ?_|refine A3 (Cc (T U)) U (Ax U U (Aa U)) ?_
   refine rO tb 2 U ?_
   first|refine Bi (s:=41) (Aa U) (fun c41=> ?_) (fun c41=> ?_)|refine B2 (s:=41) (Aa U) (fun c41=> ?_) (fun c41=> ?_)
   ·refine rO tb 13 U (y_ (Bb .nil call9 (fun H' hs=>G3 hW)) (kO tb 3 [14] rfl U (rG tb 2 U (As U (Ll U) ?_))) U);exact⟨_,⟨rfl,rfl⟩,sbt⟩
   ·have hok:∀ k,k<l.length->RlOk n steps ws l k:=ht2.1 (by simpa using c41);have ho:GpOk n ws l:=rl_gp hR hl20 hok;have hrt:DtRt n steps ws l:=rl_rt hR hok;refine A3 (Lp U isAgg26 sizeOf26 U (by first|exact A2)) U (Ax U U (Aa U)) ?_;refine rO tb 4 U (A3 (Bb (.cons (T U) (.cons (T U) (.cons (T U) (.cons (T U) (.cons (T U) .nil))))) call20 (fun H' hs=>rright_g n ws qw cw l ql cl (hM.mono (stn hs)) ho tags q1 c1 (hT1.mono (stn hs)) hl1 dt q2 c2 (hT2.mono (stn hs)) hl2 hc2 (by have:=hR.ln;omega))) U (Ax U U (Aa U)) ?_)
    first|refine A3 (B7 (T U)) U (Ax U U (Aa U)) ?_|refine A3 (Cc (T U)) U (Ax U U (Aa U)) ?_
    refine rO tb 3 U ?_
    first|refine Ak (Aa U) (fun c49=> ?_) (fun c49=> ?_)|refine Au (Aa U) (fun c49=> ?_) (fun c49=> ?_)
    ·refine rC tb 2 U (y_ (Bb .nil call9 (fun H' hs=>G3 hW)) (kO tb 3 [14] rfl U (rG tb 2 U (As U (Ll U) ?_))) U);exact⟨_,⟨rfl,rfl⟩,sbt⟩
    ·have hgg:grgt (agrR n.links n.nodes.length ws l dt) ws.length (rgtF n.links [] (dways l) dt) tags dt=true:=by simpa using c49
     have hgr:GrOk n ws l tags dt:=grgt_ok ho.gd (by rw[grgt_same ho];exact hgg);refine rC tb 4 U (y_ (Lp U isAgg26 sizeOf26 U (by first|exact A2)) ?_ U);refine rO tb 5 U (e_ (A1 (.cons (T U) (.cons (T U) (.cons (T U) (.cons (T U) (.cons (T U) (.cons (T U) .nil)))))) call21 (rules_g n ws qw cw l ql cl (hM.mono (by exact sbt)) ho steps hrt tags q1 c1 (hT1.mono (by exact sbt)) dt q2 c2 (hT2.mono (by exact sbt)) hgr (by have:=hR.ln;omega) (fun m hm=>by have:=K8 hR m hm;omega) (fun x hx=>by have:=one_few hR.net (G4 hok x hx);have:=hR.ln;omega) top)) ?_ U);rintro _ _ ⟨qa,ca,ta,e,Ma,⟨rfl,hTa,hga⟩,rfl⟩;have hta:ta.map (fun t=>t.rs.map ruC)=(grulF n ws l tags dt top).1:=congrArg Prod.fst hga;have htl:ta.length<=8:=by have h8:=grul_len n ws l tags dt top;rw[<- hta,List.length_map] at h8;have:=hR.ln;omega
     have htcs:∀ t∈ta,TcF n.links.length steps (t.rs.map ruC):=fun t ht=>grul_tc hR hl20 hok hgr _ (by rw[<- hta];exact List.mem_map.2 ⟨t,ht,rfl⟩)
     refine kO tb 7 [1,2,3,4,5,6,7,15,16] rfl U (rG tb 2 U (y_ (Lp U isAgg26 sizeOf26 U (by first|exact A2)) ?_ U));refine rO tb 5 U (e_ (A1 (.cons (T U) (.cons (T U) (.cons (T U) (.cons (T U) (.cons (T U) (.cons (T U) .nil)))))) call22 (rrules_g n ws qw cw l ql cl (hM.mono (by exact sbt)) ho steps hrt tags q1 c1 (hT1.mono (by exact sbt)) dt q2 c2 (hT2.mono (by exact sbt)) hgr (by have:=hR.ln;omega) (fun m hm=>by have:=K8 hR m hm;omega) top)) ?_ U);rintro _ _ ⟨qb,cb,tb2,e2,Mb,⟨rfl,hTb,hgb⟩,rfl⟩;obtain⟨hmap,rfl⟩:=Prod.mk.inj (hga.trans hgb.symm);refine rO tb 12 U (y_ (Bb (qe2 U U) call23 (fun H' hs=>sameTables_g qa ca ta qb cb tb2 ((hTa ((n7,Cl (encNm n) 26)::H)).mono (stn hs)) ((hTb (Ma++((n7,Cl (encNm n) 26)::H))).mono (stn hs)) qom (fun t ht r hr=>by have h8:=((htcs t ht).f _ (List.mem_map.2 ⟨r,hr,rfl⟩)).1.r.l;omega) hmap)) ?_ U)
     first|refine A3 (Cc (T U)) U Ac ?_
     refine rO tb 3 U (A3 (H4 (T U) (T U)) U (Ax U U (Aa U)) (kO tb 3 [1,7,15,79] rfl U (rG tb 12 U ?_)));refine Bz (X:=Nat) (V:=fun i=>[(82, .int .i64 (i:Nat))]) (C:=[(1,_),(7,_),(80,_),(81,_)]) (G:=fun i=>Mb++(Ma++((n7,Cl (encNm n) 26)::H))) (φ:=fun i=>i<=ta.length) (μ:=fun i=>ta.length - i) (x0:=0) ?_ (kg U) ⟨atd,trivial⟩ sb0 ?_
     ·exact Nat.zero_le _
     rintro i hi;refine rD tb 6 U ?_
     first|refine Ak (Aa U) (fun c83=> ?_) (fun c83=> ?_)|refine Au (Aa U) (fun c83=> ?_) (fun c83=> ?_)
     ·have hi2:i<ta.length:=by have h9:((i:Nat):Int)<(ta.length:Nat):=c83;omega
      refine rC tb 6 U (y_ (Lq U U runUnderlying49 sizeOf54 qom (by first|exact rfl|exact(hTa ((n7,Cl (encNm n) 26)::H)).a.b (i:=i) hi2)) ?_ U);refine y_ (Lo U isAgg54 (by first|exact c_o|exact(show Cell w0 _ _ (.slice (gd ta i).q (gd ta i).rs.length (gd ta i).c) from ((hTa ((n7,Cl (encNm n) 26)::H)).a.mono (by exact sbt)).f0 (i:=i) hi2 U))) ?_ U;refine rO tb 5 U (y_ (Lp U isAgg26 sizeOf26 U (by first|exact A2)) ?_ U);refine rO tb 1 U (y_ (Kg (T U) An) (y_ (yl_min (T U) An) (rO tb 1 U (e_ (A1 (qe3 U U U) call24 (checkT_g n (hn.mono (by exact sbt)) _ qom (gd ta i) (((hTa ((n7,Cl (encNm n) 26)::H)).t _ (Ao hi2)).mono (by exact sbt)) (htcs _ (Ao hi2)).tb)) ?_ U)) U) U);rintro _ _ ⟨⟨a9,e9,rfl,he9⟩,rfl⟩;have htc:=htcs _ (Ao hi2);refine rO tb 12 U ?_
      first|refine Bi (s:=97) (Aa U) (fun c97=> ?_) (fun c97=> ?_)|refine B2 (s:=97) (Aa U) (fun c97=> ?_) (fun c97=> ?_)
      ·have hne: ¬ e9=0:=c97;refine rO tb 5 U ?_
       first|refine Ak (Aa U) (fun c100=> ?_) (fun c100=> ?_)|refine Au (Aa U) (fun c100=> ?_) (fun c100=> ?_)
       ·exact absurd (he9 fun r hr=>by have h8:=htc.st (show steps<=1000 from c100) r hr;omega) hne
       ·refine rC tb 4 U (y_ (Bd (T U) An qom) ?_ U);refine rO tb 2 U ?_;refine A8 (i+1) ?_ ?_ ⟨atd,trivial⟩ (kg U) ?_
        ·(show i+1<=ta.length);omega
        ·first|omega|(simp only[];omega)
        ·exact sbt
      ·refine rO tb 10 U (y_ (Bd (T U) An qom) ?_ U);refine rO tb 2 U ?_;refine A8 (i+1) ?_ ?_ ⟨atd,trivial⟩ (kg U) ?_
       ·(show i+1<=ta.length);omega
       ·first|omega|(simp only[];omega)
       ·exact sbt
     ·have hi2:i=ta.length:=by have h9: ¬ ((i:Nat):Int)<(ta.length:Nat):=c83;omega
      refine rC tb 2 U (Aq (rX tb 4 U (y_ (Bb .nil call9 (fun H' hs=>G3 hW)) (rO tb 4 U (As U (Ll U) ?_)) U)));exact⟨_,⟨rfl,rfl⟩,sbt⟩
end Go.Proofs.YtnafbfbfmgfcfaaGreatDoor
namespace Go.Proofs.YtnafbfbfmgfcfaaGreatDoor
open _root_.Go.Proofs.Tryz
open Go.ChangeShapes Go.WideShapes Go.ChangeAt Go.RowKit Go.Joins Go.Deep
set_option linter.unusedVariables false
set_option linter.unusedSimpArgs false
set_option linter.unusedSectionVars false
set_option maxRecDepth 100000
theorem below_cell {W w:World}{p:Addr}{v:Value}(hb:Below W.heap.size W w)(h:W.cell? p=some v):w.cell? p=some v:=by
 have hlt:=World.block_lt_of_cell? _ _ h;have:=hb.block p.block hlt;unfold World.cell? at h ⊢;rw[this];exact h
theorem cell_arg {W:World}{p:Addr}{v:Value}(h:W.cell? p=some v):Cell W [] p v:=fun w hO=>below_cell hO.below h
theorem blk_pos {H:Type}(d:DataW H):1<=Rows.uptoBulk d:=by
 cases d with
 |lit l=>cases l<;>simp[Rows.uptoBulk]
 |nil=>simp[Rows.uptoBulk]
 |ptr d=>simp[Rows.uptoBulk]
 |slice elems spare=>simp[Rows.uptoBulk]
 |agg parts=>simp[Rows.uptoBulk]
 |iface t d=>simp[Rows.uptoBulk]
 |map entries=>simp[Rows.uptoBulk]
 |held h=>simp[Rows.uptoBulk]
theorem blk_sum {H:Type}{f:Nat->Nat}{D:Nat->DataW H}:∀ (l:List Nat),(∀ i∈l,f i<=Rows.uptoBulk (D i))->(l.map f).sum<=Rows.uptoBulkAll (l.map D)
 |[],_=>Nat.le_refl _
 |x::l,h=>by
  have h1:=h x (by simp);have h2:=blk_sum l fun i hi=>h i (by simp[hi])
  simp only[List.map_cons,List.sum_cons,Rows.uptoBulkAll];omega
theorem blk_mem {H:Type}{D:Nat->DataW H}:∀ {l:List Nat} {i:Nat},i∈l->Rows.uptoBulk (D i)<=Rows.uptoBulkAll (l.map D)
 |x::l,i,h=>by
  simp only[List.map_cons,Rows.uptoBulkAll];rcases List.mem_cons.1 h with rfl|h
  ·exact Nat.le_add_right _ _
  ·have:=blk_mem (D:=D) h;omega
section
variable {H:Type} {enc:TypeId × Value->H} {P:Program} {W:World} {b0:Nat} {sp1:Nat->Bool} {held:Bool}
theorem F5 {α:Type}{t e sz fuel:Nat}{cs:List Value}{x:DataW H × List MemPlace}{el:α->List Value}{φ:α->Prop}{szf:α->Nat}(ht:P.underlying t=some (.slice e))(hc:P.cellsOf e=sz)(hsz:0<sz)
  (hel:∀ n cs y,Rows.uptoBulk y.1<Rows.uptoBulk x.1->DataW.trod enc P W b0 sp1 held n e cs=some y->∃ u:α,cs=el u/\φ u/\szf u<=Rows.uptoBulk y.1) (h:DataW.trod enc P W b0 sp1 held fuel t cs=some x):
  ∃ (q:Option Addr) (l:List α) (cap:Nat),cs=[.slice q l.length cap]/\Arr W [] q sz el l/\l.length<=cap/\l.length<=9223372036854775807/\(∀ u∈l,φ u)/\(l.map szf).sum+1<=Rows.uptoBulk x.1:=by
 rcases open_slice ht h with ⟨rfl,rfl⟩|⟨a,len,cap,m,n,D,Pl,rfl,hb,hl,hm,hmm,rfl,hx⟩
 ·exact⟨none,[],0,rfl,fun i u hi=>by simp at hi,by simp,by simp,by simp,by simp[Rows.uptoBulk]⟩
 have hlm:len<=m:=by rw[hmm];split<;>omega
 have hlen:len<=9223372036854775807:=by unfold maxLen at hm;omega
 cases len with
 |zero=>exact⟨some a,[],cap,rfl,fun i u hi=>by simp at hi,by simp,by simp,by simp,by simp[Rows.uptoBulk]⟩
 |succ k=>
  have hbk:Rows.uptoBulkAll ((List.range (k+1)).map D)+1<=Rows.uptoBulk (DataW.slice ((List.range (k+1)).map D) ((List.range (m - (k+1))).map fun j=>D (k+1+j))):=by
   simp only[Rows.uptoBulk];omega
  have each:∀ i,i<k+1->∃ u:α,W.cells? b0 (a.add (i*sz)) sz=some (el u)/\φ u/\szf u<=Rows.uptoBulk (D i):=fun i hi=>by
   obtain⟨cs',h1,h2⟩:=hx i qom;rw[hc] at h1;have h3:=blk_mem (D:=D) (List.mem_range.2 hi);obtain⟨u,rfl,hu⟩:=hel _ _ _ (by simp only[];omega) h2;exact⟨u,h1,hu⟩
  obtain⟨u0,h00,hu0⟩:=each 0 qom
  letI:Inhabited α:=⟨u0⟩
  obtain⟨f,hf⟩:=choose_lt each;refine⟨some a,(List.range (k+1)).map f,cap,by simp,fun i u hi=> ?_,by simpa using hl,by simpa using hlen,fun u hu=> ?_,?_⟩
  ·have hik:i<k+1:=by have:=(List.getElem?_eq_some_iff.1 hi).1;simpa using this
   have hfu:f i=u:=by simpa[hik] using hi
   obtain⟨sb,so,spot⟩:=a;obtain⟨_,hl0,hc0⟩:=World.cells?_some h00;have hspot:spot=none:=by
    have h6:=(hc0 0 hsz).trans (List.getElem?_eq_getElem qom)
    simpa[Addr.add] using World.cell?_spot h6
   subst hspot;refine⟨rfl,fun j v hj=>cell_arg ?_⟩;obtain⟨_,hl1,hc1⟩:=World.cells?_some (hf i hik).1;rw[hfu] at hl1 hc1;have hjl:=(List.getElem?_eq_some_iff.1 hj).1;have h5:=hc1 j qom;rw[add_add,add_plain] at h5;have h6:=h5.trans hj;rw[<- Nat.add_assoc] at h6;exact h6
  ·obtain⟨i,hi,rfl⟩:=List.mem_map.1 hu;exact(hf i (List.mem_range.1 hi)).2.1
  ·have:=blk_sum (f:=fun i=>szf (f i)) (D:=D) (List.range (k+1)) fun i hi=>(hf i (List.mem_range.1 hi)).2.2
   rw[List.map_map];have e:(szf ∘ f)=fun i=>szf (f i):=rfl
   rw[e];simp only[] at hbk ⊢;omega
end
theorem cells3:prog.cellsOf 3=1:=by kernel_rfl
theorem cells4:prog.cellsOf 4=1:=by kernel_rfl
theorem cells9:prog.cellsOf 9=1:=by kernel_rfl
theorem cells42:prog.cellsOf 41=1:=by kernel_rfl
theorem cells52:prog.cellsOf 22=1:=by kernel_rfl
theorem cells53:prog.cellsOf 23=1:=by kernel_rfl
theorem cells54:prog.cellsOf 24=1:=by kernel_rfl
theorem cells56:prog.cellsOf 26=3:=by kernel_rfl
theorem cells71:prog.cellsOf 95=3:=by kernel_rfl
theorem cells138:prog.cellsOf 140=4:=by kernel_rfl
theorem cells154:prog.cellsOf 171=2:=by kernel_rfl
theorem own_knob:ownKnob prog.godebug=none:=by kernel_rfl
theorem i64_bd {n:Int}(h:(Lit.int .i64 n).wf=true): -9223372036854775808<=n/\n<=9223372036854775807:=by
 have:=bounds_i64 h;exact this
theorem sum_len {α:Type}(l:List α):(l.map fun _=>1).sum=l.length:=by
 induction l with
 |nil=>rfl
 |cons x l ih=>simp only[List.map_cons,List.sum_cons,List.length_cons,ih];omega
theorem sum_mem {α:Type}{f:α->Nat}:∀ {l:List α} {x:α},x∈l->f x<=(l.map f).sum
 |y::l,x,h=>by
  simp only[List.map_cons,List.sum_cons];rcases List.mem_cons.1 h with rfl|h
  ·omega
  ·have:=sum_mem (f:=f) h;omega
section
variable {H:Type} {enc:TypeId × Value->H} {W:World} {b0 n:Nat} {sp1:Nat->Bool} {held:Bool} {y:DataW H × List MemPlace} {cs:List Value}
theorem Ew {c:Value}(h:DataW.trod enc prog W b0 sp1 held n 3 [c]=some y):∃ a:Int,c= .int .i64 a/\(-9223372036854775808<=a/\a<=9223372036854775807):=by
 obtain⟨a,e0,_,wa⟩:=DataW.trod_int underlying3 h;simp at e0;exact⟨a,e0,i64_bd wa⟩
theorem rd_str (h:DataW.trod enc prog W b0 sp1 held n 9 cs=some y):∃ u:ByteArray,cs=encS u/\u.size<=9223372036854775807:=by
 obtain⟨s,e0,_,ws⟩:=DataW.trod_string underlying9 h;exact⟨s,e0,by unfold maxLen at ws;omega⟩
theorem rd_ints (h:DataW.trod enc prog W b0 sp1 held n 41 cs=some y):∃ (q:Option Addr) (l:List Int) (cap:Nat),cs=[.slice q l.length cap]/\Arr W [] q 1 encI l/\l.length<=cap/\l.length<=9223372036854775807/\(∀ u∈l, -9223372036854775808<=u/\u<=9223372036854775807)/\l.length+1<=Rows.uptoBulk y.1:=by
 obtain⟨q,l,cap,e,a,c,b,f,s⟩:=F5 (el:=encI) (φ:=fun u=> -9223372036854775808<=u/\u<=9223372036854775807) (szf:=fun _=>1) underlying41 cells3 qom (fun n cs y _ h=>by
  obtain⟨a,e0,_,wa⟩:=DataW.trod_int underlying3 h;exact⟨a,e0,i64_bd wa,blk_pos _⟩) h
 rw[sum_len] at s;exact⟨q,l,cap,e,a,c,b,f,s⟩
theorem H6 {base:Nat}{r:_root_.Go.Reach}{v:Value}{d:DataW H}{p:List MemPlace}(hv:Value.okWide prog W r base 41 v)(h:DataW.Trod enc prog W b0 sp1 held 41 v d p):∃ (q:Option Addr) (l:List Int) (cap:Nat),v= .slice q l.length cap/\Arr W [] q 1 encI l/\l.length<=cap/\l.length<=9223372036854775807/\(∀ u∈l, -9223372036854775808<=u/\u<=9223372036854775807)/\l.length+1<=Rows.uptoBulk d:=by
 obtain⟨a0,len0,cap0,rfl⟩:=okWide_slice underlying41 hv;obtain⟨fuel,hf⟩:=h;obtain⟨q,l,cap,e,r⟩:=rd_ints hf;simp only[Value.cells,List.cons.injEq,and_true] at e;exact⟨q,l,cap,e,r⟩
theorem rd_node (h:DataW.trod enc prog W b0 sp1 held n 140 cs=some y):∃ u:Nod,cs=encN u/\u.name.size<=9223372036854775807:=by
 obtain⟨xs,m,rfl,hx,hlen,hxl,hall⟩:=DataW.trod_struct underlying140 h;rw[cells138] at hlen
 match xs,hxl,cs,hlen with
 |[x0,x1,x2,x3],_,[c0,c1,c2,c3],_=>
  have f0:DataW.trod enc prog W b0 sp1 held m 9 [c0]=some x0:=by have:=hall 0 _ rfl;simpa[cells9] using this
  have f1:DataW.trod enc prog W b0 sp1 held m 4 [c1]=some x1:=by have:=hall 1 _ rfl;simpa[cells4] using this
  have f2:DataW.trod enc prog W b0 sp1 held m 3 [c2]=some x2:=by have:=hall 2 _ rfl;simpa[cells3] using this
  have f3:DataW.trod enc prog W b0 sp1 held m 3 [c3]=some x3:=by have:=hall 3 _ rfl;simpa[cells3] using this
  obtain⟨s,e0,hs⟩:=rd_str f0;obtain⟨b,e1,_⟩:=DataW.trod_bool underlying4 f1;obtain⟨a2,rfl,_⟩:=Ew f2;obtain⟨a3,rfl,_⟩:=Ew f3;simp at e0 e1;exact⟨⟨s,b,a2,a3⟩,by rw[e0,e1],hs⟩
theorem rd_link (h:DataW.trod enc prog W b0 sp1 held n 95 cs=some y):∃ u:Lnk,cs=encL u/\True:=by
 obtain⟨xs,m,rfl,hx,hlen,hxl,hall⟩:=DataW.trod_struct underlying95 h;rw[cells71] at hlen
 match xs,hxl,cs,hlen with
 |[x0,x1,x2],_,[c0,c1,c2],_=>
  have f0:DataW.trod enc prog W b0 sp1 held m 3 [c0]=some x0:=by have:=hall 0 _ rfl;simpa[cells3] using this
  have f1:DataW.trod enc prog W b0 sp1 held m 3 [c1]=some x1:=by have:=hall 1 _ rfl;simpa[cells3] using this
  have f2:DataW.trod enc prog W b0 sp1 held m 3 [c2]=some x2:=by have:=hall 2 _ rfl;simpa[cells3] using this
  obtain⟨a0,rfl,_⟩:=Ew f0;obtain⟨a1,rfl,_⟩:=Ew f1;obtain⟨a2,rfl,_⟩:=Ew f2;exact⟨⟨a0,a1,a2⟩,rfl,trivial⟩
theorem rd_edge (h:DataW.trod enc prog W b0 sp1 held n 171 cs=some y):∃ u:Edg,cs=encE u/\u.name.size<=9223372036854775807:=by
 obtain⟨xs,m,rfl,hx,hlen,hxl,hall⟩:=DataW.trod_struct underlying171 h;rw[cells154] at hlen
 match xs,hxl,cs,hlen with
 |[x0,x1],_,[c0,c1],_=>
  have f0:DataW.trod enc prog W b0 sp1 held m 9 [c0]=some x0:=by have:=hall 0 _ rfl;simpa[cells9] using this
  have f1:DataW.trod enc prog W b0 sp1 held m 3 [c1]=some x1:=by have:=hall 1 _ rfl;simpa[cells3] using this
  obtain⟨s,e0,hs⟩:=rd_str f0;obtain⟨a1,rfl,_⟩:=Ew f1;simp at e0;exact⟨⟨s,a1⟩,by rw[e0],hs⟩
theorem open_net {base:Nat}{r:_root_.Go.Reach}{v:Value}{d:DataW H}{p:List MemPlace}(hv:Value.okWide prog W r base 26 v)(h:DataW.Trod enc prog W b0 sp1 held 26 v d p):∃ n:Nm,v= .agg (encNm n).toArray/\NetM W [] n:=by
 obtain⟨cs,rfl,hsz⟩:=okWide_struct underlying26 hv;obtain⟨fuel,hf⟩:=h;obtain⟨xs,m,rfl,hx,hlen,hxl,hall⟩:=DataW.trod_struct underlying26 hf;obtain⟨l⟩:=cs;simp only[Value.cells,cells56] at hlen hall
 match xs,hxl,l,hlen with
 |[x0,x1,x2],_,[c0,c1,c2],_=>
  have f0:DataW.trod enc prog W b0 sp1 held m 22 [c0]=some x0:=by have:=hall 0 _ rfl;simpa[cells52] using this
  have f1:DataW.trod enc prog W b0 sp1 held m 23 [c1]=some x1:=by have:=hall 1 _ rfl;simpa[cells53] using this
  have f2:DataW.trod enc prog W b0 sp1 held m 24 [c2]=some x2:=by have:=hall 2 _ rfl;simpa[cells54] using this
  obtain⟨q0,l0,k0,e0,a0,_,b0,s0,_⟩:=F5 (el:=encN) (szf:=fun _=>0) underlying22 cells138 qom (fun n cs y _ h=>by obtain⟨u,h1,h2⟩:=rd_node h;exact⟨u,h1,h2,Nat.zero_le _⟩) f0;obtain⟨q1,l1,k1,e1,a1,_,b1,_,_⟩:=F5 (el:=encL) (szf:=fun _=>0) underlying23 cells71 qom (fun n cs y _ h=>by obtain⟨u,h1,h2⟩:=rd_link h;exact⟨u,h1,h2,Nat.zero_le _⟩) f1;obtain⟨q2,l2,k2,e2,a2,_,b2,s2,_⟩:=F5 (el:=encE) (szf:=fun _=>0) underlying24 cells154 qom (fun n cs y _ h=>by obtain⟨u,h1,h2⟩:=rd_edge h;exact⟨u,h1,h2,Nat.zero_le _⟩) f2;simp at e0 e1 e2;exact⟨⟨l0,l1,l2,q0,k0,q1,k1,q2,k2⟩,by rw[e0,e1,e2],⟨a0,a1,a2,b0,b1,b2,s0,s2⟩⟩
end
theorem cells59w:prog.cellsOf 59=5:=by kernel_rfl
theorem cells93d:prog.cellsOf 93=7:=by kernel_rfl
section
variable {H:Type} {enc:TypeId × Value->H} {W:World} {b0 n:Nat} {sp1:Nat->Bool} {held:Bool} {y:DataW H × List MemPlace} {cs:List Value}
theorem rd_wayS (h:DataW.trod enc prog W b0 sp1 held n 59 cs=some y):∃ u:Wm,cs=encW u/\WayM W [] u/\u.way.links.length<=Rows.uptoBulk y.1:=by
 obtain⟨xs,m,rfl,hx,hlen,hxl,hall⟩:=DataW.trod_struct underlying59 h;rw[cells59w] at hlen
 match xs,hxl,cs,hlen with
 |[x0,x1,x2,x3,x4],_,[c0,c1,c2,c3,c4],_=>
  have f0:DataW.trod enc prog W b0 sp1 held m 3 [c0]=some x0:=by have:=hall 0 _ rfl;simpa[cells3] using this
  have f1:DataW.trod enc prog W b0 sp1 held m 41 [c1]=some x1:=by have:=hall 1 _ rfl;simpa[cells42] using this
  have f2:DataW.trod enc prog W b0 sp1 held m 3 [c2]=some x2:=by have:=hall 2 _ rfl;simpa[cells3] using this
  have f3:DataW.trod enc prog W b0 sp1 held m 3 [c3]=some x3:=by have:=hall 3 _ rfl;simpa[cells3] using this
  have f4:DataW.trod enc prog W b0 sp1 held m 3 [c4]=some x4:=by have:=hall 4 _ rfl;simpa[cells3] using this
  have hb:Rows.uptoBulk x1.1<=Rows.uptoBulk y.1:=by
   rw[hx];simp only[Rows.uptoBulk,Rows.uptoBulkAll,List.map_cons,List.map_nil];omega
  obtain⟨a0,rfl,_⟩:=Ew f0;obtain⟨a2,rfl,h2⟩:=Ew f2;obtain⟨a3,rfl,_⟩:=Ew f3;obtain⟨a4,rfl,_⟩:=Ew f4;obtain⟨q,l,cap,e1,ha,hcap,hl,_,hs⟩:=rd_ints f1;simp at e1;exact⟨⟨⟨a0,l,a2,a3,a4⟩,q,cap⟩,by rw[e1],⟨ha,hl,h2⟩,by show l.length<=_;omega⟩
theorem rd_det (h:DataW.trod enc prog W b0 sp1 held n 93 cs=some y):∃ u:Dtm,cs=encDt u/\WayM W [] u.m/\u.m.way.links.length<=Rows.uptoBulk y.1:=by
 obtain⟨xs,m,rfl,hx,hlen,hxl,hall⟩:=DataW.trod_struct underlying93 h;rw[cells93d] at hlen
 match xs,hxl,cs,hlen with
 |[x0,x1,x2],_,[c0,c1,c2,c3,c4,c5,c6],_=>
  have f0:DataW.trod enc prog W b0 sp1 held m 3 [c0]=some x0:=by have:=hall 0 _ rfl;simpa[cells3] using this
  have f1:DataW.trod enc prog W b0 sp1 held m 3 [c1]=some x1:=by have:=hall 1 _ rfl;simpa[cells3] using this
  have f2:DataW.trod enc prog W b0 sp1 held m 59 [c2,c3,c4,c5,c6]=some x2:=by have:=hall 2 _ rfl;simpa[cells59w] using this
  have hb:Rows.uptoBulk x2.1<=Rows.uptoBulk y.1:=by
   rw[hx];simp only[Rows.uptoBulk,Rows.uptoBulkAll,List.map_cons,List.map_nil];omega
  obtain⟨a0,rfl,_⟩:=Ew f0;obtain⟨a1,rfl,_⟩:=Ew f1;obtain⟨u,e,hu,hz⟩:=rd_wayS f2;exact⟨⟨a0,a1,u⟩,by rw[e];rfl,hu,by show u.way.links.length<=_;omega⟩
theorem open_waysS {base:Nat}{r:_root_.Go.Reach}{v:Value}{d:DataW H}{p:List MemPlace}(hv:Value.okWide prog W r base 27 v)(h:DataW.Trod enc prog W b0 sp1 held 27 v d p):∃ (q:Option Addr) (l:List Wm) (cap:Nat),v= .slice q l.length cap/\WaysM W [] q l/\l.length<=cap:=by
 obtain⟨a0,len0,cap0,rfl⟩:=okWide_slice underlying27 hv;obtain⟨fuel,hf⟩:=h;obtain⟨q,l,cap,e,a,c,b,f,_⟩:=F5 (el:=encW) (φ:=fun u=>WayM W [] u) (szf:=fun _=>0) underlying27 cells59w qom (fun n cs y _ h=>by obtain⟨u,h1,h2,_⟩:=rd_wayS h;exact⟨u,h1,h2,Nat.zero_le _⟩) hf;simp only[Value.cells,List.cons.injEq,and_true] at e;exact⟨q,l,cap,e,⟨a,f,b⟩,c⟩
theorem open_dets {base:Nat}{r:_root_.Go.Reach}{v:Value}{d:DataW H}{p:List MemPlace}(hv:Value.okWide prog W r base 34 v)(h:DataW.Trod enc prog W b0 sp1 held 34 v d p)(hb:Rows.uptoBulk d<=1048576):∃ (q:Option Addr) (l:List Dtm) (cap:Nat),v= .slice q l.length cap/\Arr W [] q 7 encDt l/\(∀ x∈l,WayM W [] x.m)/\(∀ x∈l,x.m.way.links.length<=9000000)/\l.length<=cap:=by
 obtain⟨a0,len0,cap0,rfl⟩:=okWide_slice underlying34 hv;obtain⟨fuel,hf⟩:=h;obtain⟨q,l,cap,e,a,c,b,f,s⟩:=F5 (el:=encDt) (φ:=fun u=>WayM W [] u.m) (szf:=fun u=>u.m.way.links.length) underlying34 cells93d qom (fun n cs y _ h=>by obtain⟨u,h1,h2,h3⟩:=rd_det h;exact⟨u,h1,h2,h3⟩) hf;simp only[Value.cells,List.cons.injEq,and_true] at e;exact⟨q,l,cap,e,a,f,fun o ho=>by have:=sum_mem (f:=fun u:Dtm=>u.m.way.links.length) ho;simp only[] at this s;omega,c⟩
theorem words_laid:(Rows.laid_interlace_token_words:DataW Unit)= .agg (wordsL.map fun s=> .lit (.string s.data.toList)):=by kernel_rfl
theorem words_arr (hl:laidMetH prog [("interlace/token.words",Rows.laid_interlace_token_words)] W):Arr W [] (some ⟨0,0,none⟩) 1 encS wordsL:=by
 rw[MakeChecks.laidMetH_plain _ _ _ qkr] at hl;obtain⟨ps,⟨g,t,cs,fuel,p,q,hg,ht,hv,hd,_,_⟩,_,_⟩:=hl;obtain rfl:=Option.some.inj ((show prog.globalNamed "interlace/token.words" =some 0 by kernel_rfl).symm.trans hg);obtain rfl:=Option.some.inj ((show (prog.globals[0]?).map (·.type)=some 291 by kernel_rfl).symm.trans ht);obtain⟨xs,m,_,ex,_,hln,hel⟩:=DataW.trod_array underlying291 hd;rw[words_laid] at ex;have e3:(xs.map (·.1))=wordsL.map fun s=>(DataW.lit (.string s.data.toList):DataW Unit):=(DataW.agg.inj (Prod.mk.inj ex).1).symm
 intro r x hx;have hr:r<49:=(List.getElem?_eq_some_iff.1 hx).1;have hE:=hel r hr;rw[cells9,Nat.mul_one,List.getElem?_eq_getElem qom] at hE;obtain⟨z,e1,e2,_⟩:=DataW.trod_string underlying9 hE;have e4:(xs.map (·.1))[r]? =(wordsL.map fun s=>(DataW.lit (.string s.data.toList):DataW Unit))[r]? :=by rw[e3]
 rw[List.getElem?_map,List.getElem?_map,List.getElem?_eq_getElem (by omega:r<xs.length),hx,e2] at e4;simp only[Option.map_some,Option.some.injEq,DataW.lit.injEq,Lit.string.injEq] at e4;have hz:z=x:=ByteArray.ext (Array.ext' e4);subst hz;refine⟨rfl,fun j v hj=> ?_⟩
 match j,hj with
 |0,hj=>
  obtain rfl:Value.string z=v:=Option.some.inj hj;refine cell_arg ?_;show W.cell? ⟨0,0+r*1+0,none⟩=_;rw[show 0+r*1+0=r by omega,World.var?_cell hg hv r];have:cs.toList[r]? =some (.string z):=by
   have h0:((cs.toList.drop r).take 1)[0]? =some (.string z):=by rw[e1];rfl
   simpa using h0
  simpa using this
end
section
variable {H:Type} {enc:TypeId × Value->H} {W:World}
theorem laid_out:laidOutB prog=true:=by kernel_rfl
theorem trodAll_stays:∀ {ts:List TypeId} {vs:List Value} {ds:List (DataW H)} {ps:List MemPlace} {W':World},(∀ t∈ts,prog.readableRec t=true/\t<prog.types.size)->DataW.TrodAll enc prog W 0 (fun _=>true) true ts vs ds ps->Below W.heap.size W W'->(∀ x∈ps,x.block<W.heap.size)->
  DataW.TrodAll enc prog W' 0 (fun b=>decide (b<W.heap.size)) true ts vs ds ps
 |[],_,_,_,_,_,h,_,_=>by obtain⟨rfl,rfl,rfl⟩:=trodAll_nil h;exact trodAll_mk0
 |t::ts,_,_,_,_,hr,h,hb,hlt=>by
  obtain⟨v,vs,d,ds,p,q,rfl,rfl,rfl,h0,r0⟩:=trodAll_cons h;exact trodAll_cons_mk (Below.trod laid_out (hr t (by simp)).1 (hr t (by simp)).2 h0 hb (fun x hx=>hlt x (by simp[hx]))) (trodAll_stays (fun t ht=>hr t (by simp[ht])) r0 hb (fun x hx=>hlt x (by simp[hx])))
end
theorem calls_true {f:FuncId}{args:Array Value}{W:World}(h:FSpec prog W f args [] (Still (.bool true) [])):Calls prog f args W fun e W'=>e= .returned (.bool true)/\Below W.heap.size W W':=
 (h W (Own.start W)).mono fun e W' ⟨v,H',he,hO,hv,_⟩=>⟨by rw[he,hv],hO.below⟩
def tabW:Array Value:=(wordsL.map fun s=>Value.string s).toArray
def layObj (a:Array Value):Obj->Obj
 | .cells _ t frozen=> .cells a t frozen
 |o=>o
noncomputable def laidWorld (os:Os):World:=
 {World.holding prog os ⟨#[],#[],[]⟩ with heap:=(World.holding prog os ⟨#[],#[],[]⟩).heap.modify 0 (layObj tabW)}
end Go.Proofs.YtnafbfbfmgfcfaaGreatDoor
