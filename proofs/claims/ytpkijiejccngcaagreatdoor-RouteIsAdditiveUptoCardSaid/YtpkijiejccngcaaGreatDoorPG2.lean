/-
  A part of what LawG rests on: the logic, walks and plain laws. No condition.
-/
import Derived.Test.YtpkijiejccngcaaGreatDoorPG1
import Derived.Shelf.Strconv.Itoa3
import Derived.Laws.Cover3
namespace Go.Proofs.YtpkijiejccngcaaGreatDoor
open _root_.Go.Proofs.Tryz
open Go.RowKit
set_option linter.unusedVariables false
set_option linter.unusedSimpArgs false
set_option linter.unusedSectionVars false
set_option maxRecDepth 100000
theorem row_zero (r:List Nat)(m:Nat)(h:r.length<m):r.flatMap encU++List.replicate (m - r.length) (Value.int .i64 0)=(r++[0]).flatMap encU++List.replicate (m - (r.length+1)) (Value.int .i64 0):=by
 rw[List.flatMap_append,show m - r.length=(m - (r.length+1))+1 by omega,List.replicate_succ];simp
abbrev bit (y:Bool):Nat:=if y then 1 else 0
theorem bit_take {l:List Bool}{k:Nat}(h:k<l.length):(l.take (k+1)).map bit=(l.take k).map bit++[bit (gd l k)]:=by
 rw[List.take_add_one,B2 h];simp
theorem least_s {w0:World}:LeastS w0 leastF:=by
 intro H m hm hp hln;refine Ao Tryz.func92 U ntmps92 U ?_;have hf:=hp.few;have hfl:m.pl.next.length=m.rows.length:=List.length_map ..;have hs:=hp.some';have hal:m.acc.length=m.rows.length:=by have:=hp.acc;rw[hfl] at this;exact this
 refine rD tb 2 U (e_ (Lf U cs_) ?_ U);rintro _ _ ⟨n1,rfl,rfl⟩;refine e_ (Ai zeroValue68 cs_) ?_ U;rintro _ _ ⟨n2,rfl,rfl⟩;refine rO tb 6 U (y_ (Lb U isAgg65 qco) ?_ U);refine rO tb 1 U (e_ (B7 (by':=8) (k:=m.rows.length) (T U) runUnderlying27 sizeOf3 typeInfo3 U zeroValue3 U qom qom) ?_ U);rintro _ _ ⟨n12,rfl,rfl⟩;refine rO tb 7 U (y_ (Lb U isAgg66 qco) ?_ U);refine rO tb 5 U ?_;refine Ba (X:=Nat) (V:=fun k=>[(16, .int .i64 (k:Nat))]) (C:=[(1,_),(2,_),(3,_),(14,_),(15,_)]) (G:=fun k=>(n12,Cl (((m.acc.take k).map bit).flatMap encU++List.replicate (m.rows.length - ((m.acc.take k).map bit).length) (.int .i64 0)) 3)::((n2,Cl [.slice none 0 0, .slice none 0 0, .slice none 0 0] 68)::(n1,Cl (encMc m) 68)::H)) (φ:=fun k=>k≤m.rows.length) (μ:=fun k=>m.rows.length - k) (x0:=0) ?_ ⟨Aa U,Aa U,Aa U,Aa U,Aa U,trivial⟩ ⟨qat,trivial⟩ sb0 ?_
 ·exact Nat.zero_le _
 rintro k hk;refine rD tb 6 U ?_;refine Ad (Aa U) (fun c17=> ?_) (fun c17=> ?_)
 ·have hkl:k<m.rows.length:=by omega
  have hbt:=bit_take (l:=m.acc) (k:=k) qom;refine rC tb 7 U (y_ (Ld U U runUnderlying66 sizeOf4 qom (by first|exact rfl|exact hm.a3.b (i:=k) qom)) ?_ U);refine y_ (Lb U isAgg4 (by first|exact c_o|exact cell1 ((hm.a3.mono sbt).cs (i:=k) qom))) ?_ U;refine rO tb 9 U ?_
  first|refine Ad (Aa U) (fun c21=> ?_) (fun c21=> ?_)|refine Bq (Aa U) (fun c21=> ?_) (fun c21=> ?_)
  ·have hbit:((m.acc.take (k+1)).map bit)=((m.acc.take k).map bit)++[1]:=by rw[hbt,c21];rfl
   refine rC tb 3 U (y_ (Ld U U runUnderlying27 sizeOf3 qom (by exact rfl)) ?_ U);refine e_ (Ik (m:=m.rows.length) (v:=1) ((m.acc.take k).map bit) (by simp;omega) (T U) Ap sizeOf3 (by simp;omega) (by(repeat (first|exact Upd.h|apply Upd.t|apply E7));done)) ?_ U;rintro _ _ ⟨rfl,rfl⟩;refine rO tb 4 U (y_ (Av (T U) Ap qom) ?_ U);refine rO tb 2 U ?_;refine Ar (k+1) ?_ ?_ ⟨qat,trivial⟩ ⟨Aa U,Aa U,Aa U,Aa U,Aa U,trivial⟩ ?_
   ·show k+1≤_;omega
   ·omega
   ·simp only[hbit,List.length_append,List.length_cons,List.length_nil,Nat.zero_add];exact sbt
  ·have hbit:((m.acc.take (k+1)).map bit)=((m.acc.take k).map bit)++[0]:=by rw[hbt,c21];rfl
   rw[row_zero ((m.acc.take k).map bit) m.rows.length (by simp;omega)];refine rC tb 4 U (y_ (Av (T U) Ap qom) ?_ U);refine rO tb 2 U ?_;refine Ar (k+1) ?_ ?_ ⟨qat,trivial⟩ ⟨Aa U,Aa U,Aa U,Aa U,Aa U,trivial⟩ ?_
   ·show k+1≤_;omega
   ·omega
   ·simp only[hbit,List.length_append,List.length_cons,List.length_nil,Nat.zero_add];exact sbt
 ·have hk2:k=m.rows.length:=by omega
  have e1:((m.acc.take k).map bit)=initB m.pl:=by rw[hk2,← hal,List.take_length];rfl
  have e2:(initB m.pl).length=m.rows.length:=by unfold initB;rw[List.length_map];exact hal
  simp only[e1,e2,Nat.sub_self,List.replicate_zero];refine rC tb 2 U (Ag (rX tb 6 U ?_));refine Ba (X:=List Nat × Nat) (V:=fun ⟨b,f⟩=>[]) (C:=[(1,_),(2,_),(3,_)]) (G:=fun ⟨b,f⟩=>slH (.blk n12 m.rows.length []) (b.flatMap encU) 3++((n2,Cl [.slice none 0 0, .slice none 0 0, .slice none 0 0] 68)::(n1,Cl (encMc m) 68)::H)) (φ:=fun ⟨b,f⟩=>b.length=m.rows.length∧Cont b∧m.rows.length+1≤f+maxF b∧refineF m.pl f b=refineF m.pl 201 (initB m.pl)) (μ:=fun ⟨b,f⟩=>f) (x0:=(initB m.pl,201)) ?_ ⟨Aa rfl,Aa rfl,Aa rfl,trivial⟩ trivial sb0 ?_
  ·exact⟨by unfold initB;rw[List.length_map];exact hal,Cont.init (by rw[show m.pl.acc=m.acc from rfl];omega),by omega,rfl⟩
  rintro⟨b,f⟩ ⟨hbl,hco,hfu,href⟩;have hd:SlOk (.blk n12 m.rows.length []) b.length 1:=⟨Nat.le_of_eq hbl,by show 0=(_ - _)*1;rw[hbl];omega⟩;have hmax:=hco.max_le;obtain⟨f,rfl⟩:∃ g,f=g+1:=⟨f - 1,by omega⟩;refine rD tb 10 U ?_;refine Bd (X:=Nat) (V:=fun k=>[(28, .int .i64 (k:Nat))]) (C:=[(1,_),(2,_),(3,_),(27,_)]) (φ:=fun k=>k≤m.rows.length∧∀ j,j<k→fsI m.pl b j=none) (μ:=fun k=>m.rows.length - k) (x0:=0) ?_ ⟨Aa U,Aa U,Aa U,Aa U,trivial⟩ ⟨qat,trivial⟩ ?_
  ·exact⟨Nat.zero_le _,fun j hj=>absurd hj (Nat.not_lt_zero _)⟩
  rintro k ⟨hk,hfs⟩;refine rD tb 6 U ?_;refine Ad (Aa U) (fun c29=> ?_) (fun c29=> ?_)
  ·have hkn:k<m.rows.length:=by omega
   obtain⟨hk1,hk2⟩:=Gc hp hkn;refine rC tb 17 U ?_;refine Bd (X:=Nat) (V:=fun i=>[(32, .int .i64 (i:Nat))]) (C:=[(1,_),(2,_),(3,_),(6,_),(27,_),(28,_),(31,_)]) (φ:=fun i=>i≤k∧∀ j,j<i→(if gd b j=gd b k then fsA m.pl b k j else none)=none) (μ:=fun i=>k - i) (x0:=0) ?_ ⟨Aa U,Aa U,Aa U,Aa U,Aa U,Aa U,Aa U,trivial⟩ ⟨qat,trivial⟩ ?_
   ·exact⟨Nat.zero_le _,fun j hj=>absurd hj (Nat.not_lt_zero _)⟩
   rintro i ⟨hi,hfi⟩;refine rD tb 6 U ?_;refine Ad (Aa U) (fun c33=> ?_) (fun c33=> ?_)
   ·have hin:i<m.rows.length:=by omega
    obtain⟨hi1,hi2⟩:=Gc hp hin;refine rC tb 12 U (Bh 9 [(0,true),(1,true),(2,true),(3,true),(4,true),(5,true),(6,true),(7,true),(8,true)] _ mixd qkr sb0 ?_ A8);refine rP tb 2 U (o_y U (Ld U U runUnderlying27 sizeOf3 qom (by exact rfl)) ?_ U Ac);refine o_y U (Lb U isAgg3 (by first|exact c_o|exact cell1 (((A1 (X:=H) (enc:=encU) (sz:=1) (e:=3) (l:=b) (fun _=>rfl) hd).mono sbt).cs (i:=i) qom))) ?_ U Ac;refine rP tb 2 U (o_y U (Bi (T U) (T U) runUnderlying27 sizeOf3 qom (by exact rfl)) ?_ U Ac);refine o_y U (Lb U isAgg3 (by first|exact c_o|exact cell1 (((A1 (X:=H) (enc:=encU) (sz:=1) (e:=3) (l:=b) (fun _=>rfl) hd).mono sbt).cs (i:=k) qom))) ?_ U Ac;refine rP tb 1 U (A7 U (rO tb 2 U ?_));refine Ad (Aa U) (fun c43=> ?_) (fun c43=> ?_)
    ·have hiA:(if gd b i=gd b k then fsA m.pl b k i else none)=none:=if_neg qom;refine rC tb 5 U (y_ (Av (T U) Ap qom) ?_ U);refine rO tb 2 U ?_;refine Ar (i+1) ?_ ?_ ⟨qat,trivial⟩ ⟨Aa U,Aa U,Aa U,Aa U,Aa U,Aa U,Aa U,trivial⟩ ?_
     ·refine⟨by omega,fun j hj=> ?_⟩
      by_cases e:j=i
      ·subst e;exact hiA
      ·exact hfi j qom
     ·omega
     ·exact sbt
    ·refine rC tb 5 U (y_ (Lb U isAgg65 qco) ?_ U);refine rO tb 1 U (y_ (Bi (T U) (T U) runUnderlying65 sizeOf27 qom (by first|exact rfl|exact hm.a3.b (i:=k) qom|exact hm.a2.b (i:=k) qom)) ?_ U);refine y_ (Lb U isAgg27 (by first|exact c_o|exact cell1 ((hm.a2.mono sbt).cs (i:=k) qom))) ?_ U;refine rO tb 5 U ?_;refine Bd (X:=Nat) (V:=fun a=>[(50, .int .i64 (a:Nat))]) (C:=[(1,_),(2,_),(3,_),(6,_),(7,_),(27,_),(28,_),(31,_),(32,_),(49,_)]) (φ:=fun a=>a≤m.names.length+1∧∀ a2,a2<a→gd b (nx m.pl i a2)=gd b (nx m.pl k a2)) (μ:=fun a=>m.names.length+1 - a) (x0:=0) ?_ ⟨Aa U,Aa U,Aa U,Aa U,Aa U,Aa U,Aa U,Aa U,Aa U,Aa U,trivial⟩ ⟨qat,trivial⟩ ?_
     ·exact⟨Nat.zero_le _,fun j hj=>absurd hj (Nat.not_lt_zero _)⟩
     rintro a ⟨ha,hfa⟩;refine rD tb 6 U ?_;refine Ad (Aa U) (fun c51=> ?_) (fun c51=> ?_)
     ·have hi3:=hi2 a qom;have hk3:=hk2 a qom;refine rC tb 11 U (Bh 23 [(0,true),(1,true),(2,true),(3,true),(4,true),(5,true),(6,true),(7,true),(8,true),(9,true),(10,true),(11,true),(12,true),(13,true),(14,true),(15,true),(16,true),(17,true),(18,true),(19,true),(20,true),(21,true),(22,true)] _ mixd qkr sb0 ?_ A8);refine rP tb 2 U (o_y U (Lb U isAgg65 qco) ?_ U Ac);refine rP tb 1 U (o_y U (Bi (T U) (T U) runUnderlying65 sizeOf27 qom (by first|exact rfl|exact hm.a3.b (i:=k) qom|exact hm.a2.b (i:=k) qom)) ?_ U Ac);refine o_y U (Lb U isAgg27 (by first|exact c_o|exact cell1 ((hm.a2.mono sbt).cs (i:=i) qom))) ?_ U Ac;refine rP tb 1 U (o_y U (Ld U U runUnderlying27 sizeOf3 qom (by first|exact rfl|exact hm.a3.b (i:=k) qom|exact hm.a2.b (i:=k) qom|exact hm.a2.b (i:=i) qom|exact(hm.r (gd m.rows i) (Af qom)).b (i:=a) qom)) ?_ U Ac);refine o_y U (Lb U isAgg3 (by first|exact c_o|exact cell1 (((hm.r (gd m.rows i) (Af qom)).mono sbt).cs (i:=a) qom))) ?_ U Ac;refine o_y U (Ld U U runUnderlying27 sizeOf3 qom (by exact rfl)) ?_ U Ac;refine o_y U (Lb U isAgg3 (by first|exact c_o|exact cell1 (((A1 (X:=H) (enc:=encU) (sz:=1) (e:=3) (l:=b) (fun _=>rfl) hd).mono sbt).cs (i:=gd (gd m.rows i).l a) qom))) ?_ U Ac;refine rP tb 2 U (o_y U (Lb U isAgg65 qco) ?_ U Ac);refine rP tb 1 U (o_y U (Bi (T U) (T U) runUnderlying65 sizeOf27 qom (by first|exact rfl|exact hm.a3.b (i:=k) qom|exact hm.a2.b (i:=k) qom)) ?_ U Ac);refine o_y U (Lb U isAgg27 (by first|exact c_o|exact cell1 ((hm.a2.mono sbt).cs (i:=k) qom))) ?_ U Ac;refine rP tb 1 U (o_y U (Ld U U runUnderlying27 sizeOf3 qom (by first|exact rfl|exact hm.a3.b (i:=k) qom|exact hm.a2.b (i:=k) qom|exact hm.a2.b (i:=i) qom|exact(hm.r (gd m.rows i) (Af qom)).b (i:=a) qom|exact(hm.r (gd m.rows k) (Af qom)).b (i:=a) qom)) ?_ U Ac);refine o_y U (Lb U isAgg3 (by first|exact c_o|exact cell1 (((hm.r (gd m.rows k) (Af qom)).mono sbt).cs (i:=a) qom))) ?_ U Ac;refine o_y U (Ld U U runUnderlying27 sizeOf3 qom (by exact rfl)) ?_ U Ac;refine o_y U (Lb U isAgg3 (by first|exact c_o|exact cell1 (((A1 (X:=H) (enc:=encU) (sz:=1) (e:=3) (l:=b) (fun _=>rfl) hd).mono sbt).cs (i:=gd (gd m.rows k).l a) qom))) ?_ U Ac;refine rP tb 1 U (A7 U (kO tb 2 [1,2,3,6,7,8,27,28,31,32,49,50,75] rfl U ?_));refine Ad (Aa U) (fun c75=> ?_) (fun c75=> ?_)
      ·have hne: ¬ gd b (nx m.pl i a)=gd b (nx m.pl k a):=by rw[Hy,Hy];omega
       have hsA:fsA m.pl b k i=some (k,a):=by
        refine fs_some (k:=a) ?_ (if_neg hne) fun a2 ha2=>if_pos (hfa a2 ha2)
        rw[show m.pl.next=m.rows.map RowQ.l from rfl,Fd];omega
       have hsI:fsI m.pl b k=some (k,a):=fs_some (k:=i) qom (by rw[if_pos qom];exact hsA) fun j hj=>hfi j hj
       have hsp:findSp m.pl b=some (k,a):=fs_some (k:=k) qom hsI fun j hj=>hfs j hj
       have hco2:=hco.split (m:=m.pl) (i:=i) (k:=k) (a:=a) qom qom qom hne;have hmx2:=split_max (m:=m.pl) (b:=b) (i:=i) (k:=k) (a:=a) qom qom qom hne;refine rC tb 2 U (y_ (Lc U isAgg68 sizeOf68 U qcs) ?_ U);refine rO tb 3 U (e_ (Ak (qe4 U U U U) call133 (A6 (slH (.blk n12 m.rows.length []) (b.flatMap encU) 3) qlc (split_s m (hm.mono sbt) hp (.blk n12 m.rows.length []) m.rows.length b k a hd hbl U qom qom (by have:=hco.max_le;omega)))) ?_ U);rintro _ _ ⟨_,_,rfl⟩;refine rO tb 5 U (Ag (rX tb 3 U (Ag (rX tb 3 U (Ag (rX tb 3 U ?_))))));refine Ar ((splitF m.pl b k a,f)) ?_ ?_ trivial ⟨Aa U,Aa U,Aa U,trivial⟩ ?_
       ·exact⟨by rw[splitF_len];exact hbl,hco2,by omega,by rw[← href,refineF_some hsp]⟩
       ·first|omega|(simp only[];omega)
       ·exact sbt
      ·have hea:gd b (nx m.pl i a)=gd b (nx m.pl k a):=by rw[Hy,Hy];omega
       refine rC tb 4 U (y_ (Av (T U) Ap qom) ?_ U);refine rO tb 2 U ?_;refine Ar (a+1) ?_ ?_ ⟨qat,trivial⟩ ⟨Aa U,Aa U,Aa U,Aa U,Aa U,Aa U,Aa U,Aa U,Aa U,Aa U,trivial⟩ ?_
       ·refine⟨by omega,fun j hj=> ?_⟩
        by_cases e:j=a
        ·subst e;exact hea
        ·exact hfa j qom
       ·omega
       ·exact sbt
     ·have hiA:(if gd b i=gd b k then fsA m.pl b k i else none)=none:=by
       rw[if_pos qom];refine Jq fun a2 ha2=>if_pos (hfa a2 ?_)
       rw[show m.pl.next=m.rows.map RowQ.l from rfl,Fd] at ha2;omega
      refine rC tb 2 U (Ag (rX tb 4 U (y_ (Av (T U) Ap qom) ?_ U)));refine rO tb 2 U ?_;refine Ar (i+1) ?_ ?_ ⟨qat,trivial⟩ ⟨Aa U,Aa U,Aa U,Aa U,Aa U,Aa U,Aa U,trivial⟩ ?_
      ·refine⟨by omega,fun j hj=> ?_⟩
       by_cases e:j=i
       ·subst e;exact hiA
       ·exact hfi j qom
      ·omega
      ·exact sbt
   ·have hkI:fsI m.pl b k=none:=Jq fun j hj=>hfi j qom
    refine rC tb 2 U (Ag (rX tb 4 U (y_ (Av (T U) Ap qom) ?_ U)));refine rO tb 2 U ?_;refine Ar (k+1) ?_ ?_ ⟨qat,trivial⟩ ⟨Aa U,Aa U,Aa U,Aa U,trivial⟩ ?_
    ·refine⟨by omega,fun j hj=> ?_⟩
     by_cases e:j=k
     ·subst e;exact hkI
     ·exact hfs j qom
    ·omega
    ·exact sbt
  ·have hnone:findSp m.pl b=none:=Jq fun j hj=>hfs j qom
   refine rC tb 2 U (Ag (rX tb 4 U (y_ (Lc U isAgg68 sizeOf68 U qcs) ?_ U)));refine rO tb 1 U (e_ (Ak (qe2 U U) call134 (numbered_s m (hm.mono sbt) hp hln _ _ b ((A1 (X:=H) (enc:=encU) (sz:=1) (e:=3) (l:=b) (fun _=>rfl) hd).mono sbt) m.rows.length hbl U)) ?_ U);rintro _ _ ⟨x,⟨rfl,hox⟩,rfl⟩;refine Aw (Le U U sizeOf68) U Ac ?_;rintro _ _ ⟨rfl,rfl⟩;refine rO tb 4 U (As (rX tb 2 U (Ah U (.cellA (Aa U) isAgg68 sizeOf68 U qcs .nil) ?_)));have hfin:refineF m.pl 201 (initB m.pl)=b:=by rw[← href,refineF_none hnone]
   unfold leastF;rw[hfin];exact⟨_,⟨x,⟨rfl,hox⟩,rfl⟩,sbt⟩
theorem buildL_s {w0:World}:BuildS w0 leastF:=build_s least_s
end Go.Proofs.YtpkijiejccngcaaGreatDoor
namespace Go.Proofs.YtpkijiejccngcaaGreatDoor
open _root_.Go.Proofs.Tryz
open Go.RowKit Go.Shelf Go.Sort Go.Proofs
set_option linter.unusedVariables false
set_option linter.unusedSimpArgs false
set_option linter.unusedSectionVars false
set_option maxRecDepth 100000
section
variable {P:Program} {w0:World} {L:Fm} {H:List (Nat × Obj)} {ty t1 t2 xt yt:TypeId} {x y:Operand}
theorem G1 {k k':IntKind}{td:TypeDesc}{a:Int}(hx:Ev L x (.int k' a))(hs:∀ w,(underlying t1).run P w= .ok td w)(ht:∀ w,(underlying t2).run P w= .ok (.int k) w):
  Yl P w0 (.convert t1 t2 x) ty L H (.int k (k.wrap a)):=Bf U fun b w=>by
 simp[exO,execOp,hx b,convert,hs,ht,Conv.intToInt,Sem.run_bind,Result.andThen]
theorem p63:(2:Nat) ^ 63=9223372036854775808:=by decide
theorem yl_convU {td:TypeDesc}{n:Nat}(hn:n<2 ^ 63)(hx:Ev L x (.int .i64 (n:Int)))(ht1:∀ w,(underlying t1).run P w= .ok td w)(ht2:∀ w,(underlying t2).run P w= .ok (.int .u64) w):Yl P w0 (.convert t1 t2 x) ty L H (.int .u64 (n:Int)):=by
 have h:=G1 (P:=P) (w0:=w0) (ty:=ty) (H:=H) hx ht1 ht2;rw[show IntKind.u64.wrap (n:Int)=n from Gx (Nat.lt_trans hn qde)] at h;exact h
theorem yl_convB64 {td:TypeDesc}{n:Nat}(hn:n<2 ^ 63)(hx:Ev L x (.int .u64 (n:Int)))(ht1:∀ w,(underlying t1).run P w= .ok td w)(ht2:∀ w,(underlying t2).run P w= .ok (.int .i64) w):Yl P w0 (.convert t1 t2 x) ty L H (.int .i64 (n:Int)):=by
 have h:=G1 (P:=P) (w0:=w0) (ty:=ty) (H:=H) hx ht1 ht2;have:=p63;rw[show IntKind.i64.wrap (n:Int)=n from IntWalk.i64_in _ qom] at h;exact h
theorem yl_shrU {m:Nat}(hx:Ev L x (.int .u64 (m:Int)))(hy:Ev L y (.int .u64 1)):Yl P w0 (.binOp .shr xt x y yt) ty L H (.int .u64 ((m / 2:Nat):Int)):=Bf U fun b w=>by
 have e3:(Op.shift .shr .u64 (m:Int) .u64 1).run P w= .ok (.int .u64 ((m / 2:Nat):Int)) w:=by
  unfold Op.shift;rw[if_neg qde];simp only[IntKind.bits];show Result.ok (Value.int .u64 ((m:Int).fdiv (2 ^ 1))) w=_;rw[Int.fdiv_eq_ediv_of_nonneg _ qde]
  congr 2
 simp[exO,execOp,hx b,hy b,binOp,eqGuard,Sem.run_bind,Result.andThen,e3]
end
end Go.Proofs.YtpkijiejccngcaaGreatDoor
namespace Go.Proofs.YtpkijiejccngcaaGreatDoor
open _root_.Go.Proofs.Tryz
open Go.RowKit
set_option linter.unusedVariables false
set_option linter.unusedSimpArgs false
set_option linter.unusedSectionVars false
set_option maxRecDepth 100000
theorem Fw {a b c:List UInt8}(h1:a<b)(h2:b<c):a<c:=List.lt_trans h1 h2
def lbF (names:List ByteArray) (s:ByteArray):Nat:=(names.filter fun x=>decide (toL x<toL s)).length
theorem Kp:∀ {names:List ByteArray} {s:ByteArray} {i:Nat},i≤names.length→(∀ j,j<i→toL (gd names j)<toL s)→(∀ j,i≤j→j<names.length→¬ toL (gd names j)<toL s)→lbF names s=i
 |[],s,i,hi,_,_=>by simp at hi;simp[lbF,hi]
 |x::l,s,0,hi,h1,h2=>by
  have h3:=Kp (names:=l) (s:=s) (i:=0) (Nat.zero_le _) (fun j hj=>absurd hj (Nat.not_lt_zero _)) (fun j _ hj=>by
   have:=h2 (j+1) qom (by simpa using hj)
   simpa[gd] using this)
  have h0:=h2 0 (Nat.le_refl _) (by simp);have h4: ¬ toL x<toL s:=by simpa[gd] using h0
  unfold lbF at *;rw[List.filter_cons,if_neg (by simpa using h4)];exact h3
 |x::l,s,i+1,hi,h1,h2=>by
  have h3:=Kp (names:=l) (s:=s) (i:=i) (by simpa using hi) (fun j hj=>by
   have:=h1 (j+1) qom
   simpa[gd] using this) (fun j h5 hj=>by
   have:=h2 (j+1) qom (by simpa using hj)
   simpa[gd] using this)
  have h4:toL x<toL s:=by simpa[gd] using h1 0 qom
  unfold lbF at *;rw[List.filter_cons,if_pos (by simpa using h4),List.length_cons,h3]
def Srt (names:List ByteArray):Prop:=names.Pairwise fun a b=>toL a<toL b
theorem Srt.lt {names:List ByteArray}(h:Srt names){i j:Nat}(hij:i<j)(hj:j<names.length):toL (gd names i)<toL (gd names j):=by
 rw[An qom,An hj];exact List.pairwise_iff_getElem.1 h i j qom hj hij
theorem lbF_le (names:List ByteArray)(s:ByteArray):lbF names s≤names.length:=List.length_filter_le _ _
def lett (names:List ByteArray) (s:ByteArray):Nat:=if lbF names s<names.length∧toL (gd names (lbF names s))=toL s then lbF names s else names.length
theorem lett_le (names:List ByteArray)(s:ByteArray):lett names s≤names.length:=by
 unfold lett;split<;>omega
def afterF (m:PM) (st:Nat) (s:ByteArray):Nat:=nx m st (lett m.names s)
def runM (m:PM) (l:List ByteArray):Nat:=l.foldl (afterF m) 0
theorem G2 {m:PM}(h:PMok m){i a:Nat}(hi:i<m.next.length)(ha:a<m.names.length+1):nx m i a<m.next.length:=by
 obtain⟨h1,h2⟩:=h.row (gd m.next i) (Af hi);exact h2 _ (Af (by rw[h1];exact ha))
theorem after_lt {m:PM}(h:PMok m){i:Nat}(hi:i<m.next.length)(s:ByteArray):afterF m i s<m.next.length:=G2 h hi (Nat.lt_succ_of_le (lett_le _ _))
theorem nan1_s {w0:World}{H:List (Nat × Obj)}(a:ByteArray):
  FSpec Tryz.prog w0 170 #[.string a] H (Still (.bool false) H):=by
 refine Ao Tryz.func170 U ntmps170 U (rD tb 9 U (y_ (yl_neSD (T U) (T U)) (rO tb 4 U (Ah U (K9 U) ?_)) U));exact⟨_,⟨vbool (by simp),rfl⟩,sbt⟩
theorem nan2_s {w0:World}{H:List (Nat × Obj)}(a:ByteArray):
  FSpec Tryz.prog w0 123 #[.string a] H (Still (.bool false) H):=by
 refine Ao Tryz.func123 U ntmps123 U (rD tb 9 U (y_ (yl_neSD (T U) (T U)) (rO tb 4 U (Ah U (K9 U) ?_)) U));exact⟨_,⟨vbool (by simp),rfl⟩,sbt⟩
theorem less_s {w0:World}{H:List (Nat × Obj)}(a b:ByteArray):
  FSpec Tryz.prog w0 122 #[.string a, .string b] H (Still (.bool (decide (toL a<toL b))) H):=by
 refine Ao Tryz.func122 U ntmps122 U (rD tb 8 U (y_ (Ay (qe1 U) call170 (fun H' hs=>nan1_s _)) (rO tb 8 U (A5 (yl_ltS (T U) (T U)) U (Az U U (Aa U)) (rO tb 5 U (Ah U (K9 U) ?_)))) U));exact⟨_,⟨rfl,rfl⟩,sbt⟩
theorem mem_gdS {b:List ByteArray}{x:ByteArray}:x∈b↔∃ j,j<b.length∧gd b j=x:=by
 constructor
 ·intro h;obtain⟨j,hj,e⟩:=List.getElem_of_mem h;exact⟨j,hj,by rw[An hj];exact e⟩
 ·rintro⟨j,hj,rfl⟩;exact Af hj
theorem bs_s {w0:World}{H:List (Nat × Obj)}(names:List ByteArray)(q:Option Addr)(c:Nat)(s:ByteArray)(hA:Arr w0 H q 1 encS names)(hs:Srt names)(hlen:names.length≤4611686018427387903):
  FSpec Tryz.prog w0 74 #[.slice q names.length c, .string s] H (Still (.tuple #[.int .i64 (lbF names s:Nat), .bool (decide (lbF names s<names.length∧toL (gd names (lbF names s))=toL s))]) H):=by
 refine Ao Tryz.func74 U ntmps74 U (rD tb 22 U ?_);refine Bd (X:=Nat × Nat) (V:=fun ⟨i,j⟩=>[(7, .int .i64 (i:Nat)),(8, .int .i64 (j:Nat))]) (C:=[(0,_),(1,_),(6,_)]) (φ:=fun ⟨i,j⟩=>i≤j∧j≤names.length∧(∀ k,k<i→toL (gd names k)<toL s)∧(∀ k,j≤k→k<names.length→¬ toL (gd names k)<toL s)) (μ:=fun ⟨i,j⟩=>j - i) (x0:=(0,names.length)) ?_ ⟨Aa rfl,Aa rfl,Aa rfl,trivial⟩ ⟨qat,qat,trivial⟩ ?_
 ·exact⟨Nat.zero_le _,Nat.le_refl _,fun k hk=>absurd hk (Nat.not_lt_zero _),fun k h1 h2=>by omega⟩
 rintro⟨i,j⟩ ⟨hij0,hj,h1,h2⟩;refine rD tb 8 U ?_;refine Ad (Aa U) (fun c15=> ?_) (fun c15=> ?_)
 ·have hij:i<j:=by omega
  refine rC tb 7 U (y_ (Av (T U) (T U) qom) ?_ U);refine y_ (yl_convU (n:=i+j) (by have:=p63;omega) (T U) runUnderlying3 runUnderlying178) ?_ U;refine y_ (yl_shrU (T U) Ap) (y_ (yl_convB64 (n:=(i+j) / 2) (by have:=p63;omega) (T U) runUnderlying178 runUnderlying3) ?_ U) U;refine rO tb 7 U (y_ (Ld U U runUnderlying64 sizeOf9 qom (by first|exact rfl|exact hA.b (i:=((i+j) / 2)) qom)) ?_ U);refine y_ (Lb U isAgg9 (by first|exact c_o|exact cell1 ((hA.mono sbt).cs (i:=((i+j) / 2)) qom))) ?_ U;refine rO tb 1 U (y_ (Ay (qe2 U U) call122 (fun H' hs=>less_s _ _)) (rO tb 2 U ?_) U);refine Ad (Aa U) (fun c27=> ?_) (fun c27=> ?_)
  ·refine rC tb 2 U (y_ (Av (T U) Ap qom) ?_ U);refine rO tb 3 U ?_;refine Ar ((((i+j) / 2)+1,j)) ?_ ?_ ⟨qat,qat,trivial⟩ ⟨Aa U,Aa U,Aa U,trivial⟩ ?_
   ·refine⟨by omega,hj,fun k hk=> ?_,h2⟩
    by_cases e:k=((i+j) / 2)
    ·subst e;exact c27
    ·exact Fw (hs.lt (show k<((i+j) / 2) by omega) qom) c27
   ·first|omega|(simp only[];omega)
   ·exact sbt
  ·refine rC tb 5 U ?_;refine Ar ((i,((i+j) / 2))) ?_ ?_ ⟨qat,qat,trivial⟩ ⟨Aa U,Aa U,Aa U,trivial⟩ ?_
   ·refine⟨by omega,by omega,h1,fun k hk hk2 h3=> ?_⟩
    by_cases e:k=((i+j) / 2)
    ·subst e;exact c27 h3
    ·exact c27 (Fw (hs.lt (show ((i+j) / 2)<k by omega) hk2) h3)
   ·first|omega|(simp only[];omega)
   ·exact sbt
 ·have hij:i=j:=by omega
  subst hij;have hlb:=Kp hj h1 h2;refine rC tb 2 U (Ag (rX tb 9 U ?_));refine A4 (s:=35) (Aa U) (fun c35=> ?_) (fun c35=> ?_)
  ·refine rO tb 2 U (A5 (Ld U U runUnderlying64 sizeOf9 qom (by first|exact rfl|exact hA.b (i:=((i+j) / 2)) qom|exact hA.b (i:=i) qom)) U (Az U U (Aa U)) ?_);refine A5 (Lb U isAgg9 (by first|exact c_o|exact cell1 ((hA.mono sbt).cs (i:=i) qom))) U (Az U U (Aa U)) ?_;refine rO tb 1 U (A5 (Ci (T U) (T U)) U (Az U U (Aa U)) (rO tb 1 U ?_));refine A4 (s:=42) (Aa U) (fun c42=> ?_) (fun c42=> ?_)
   ·refine kO tb 15 [4,5] rfl U (rG tb 1 U (Ah U (.tmp (Aa U) (K9 U)) ?_));rw[hlb];exact⟨_,⟨congrArg (fun b=>Value.tuple #[.int .i64 (i:Int), .bool b]) (by symm;exact decide_eq_true ⟨by omega,c42⟩),rfl⟩,sbt⟩
   ·refine rO tb 2 U (A5 (Ld U U runUnderlying64 sizeOf9 qom (by first|exact rfl|exact hA.b (i:=((i+j) / 2)) qom|exact hA.b (i:=i) qom)) U (Az U U (Aa U)) ?_);refine A5 (Lb U isAgg9 (by first|exact c_o|exact cell1 ((hA.mono sbt).cs (i:=((i+j) / 2)) qom)|exact cell1 ((hA.mono sbt).cs (i:=i) qom))) U (Az U U (Aa U)) ?_;refine A5 (Ay (qe1 U) call123 (fun H' hs=>nan2_s _)) U (Az U U (Aa U)) (kO tb 10 [4,5] rfl U (rG tb 1 U (Ah U (.tmp (Aa U) (K9 U)) ?_)));rw[hlb]
    first|exact⟨_,⟨congrArg (fun b=>Value.tuple #[.int .i64 (i:Int), .bool b]) (by symm;exact decide_eq_true ⟨by omega,c42⟩),rfl⟩,sbt⟩|exact⟨_,⟨congrArg (fun b=>Value.tuple #[.int .i64 (i:Int), .bool b]) (by symm;exact decide_eq_false fun h=>c42 h.2),rfl⟩,sbt⟩
  ·refine kO tb 22 [4,5] rfl U (rG tb 1 U (Ah U (.tmp (Aa U) (K9 U)) ?_));rw[hlb]
   first|exact⟨_,⟨congrArg (fun b=>Value.tuple #[.int .i64 (i:Int), .bool b]) (by symm;exact decide_eq_true ⟨by omega,c42⟩),rfl⟩,sbt⟩|exact⟨_,⟨congrArg (fun b=>Value.tuple #[.int .i64 (i:Int), .bool b]) (by symm;exact decide_eq_false fun h=>c42 h.2),rfl⟩,sbt⟩|exact⟨_,⟨congrArg (fun b=>Value.tuple #[.int .i64 (i:Int), .bool b]) (by symm;exact decide_eq_false fun h=>by omega),rfl⟩,sbt⟩
structure Ln where
 src:Nat
 dst:Nat
 cap:Int
instance:Inhabited Ln:=⟨⟨0,0,0⟩⟩
abbrev encLn (x:Ln):List Value:=[.int .i64 (x.src:Int), .int .i64 (x.dst:Int), .int .i64 x.cap]
structure Nn where
 nodes:List Nod
 links:List Ln
 edges:List Edg
 qn:Option Addr
 cn:Nat
 ql:Option Addr
 cl:Nat
 qe:Option Addr
 ce:Nat
abbrev encNn (n:Nn):List Value:=[.slice n.qn n.nodes.length n.cn, .slice n.ql n.links.length n.cl, .slice n.qe n.edges.length n.ce]
structure NetR (w0:World) (H:List (Nat × Obj)) (n:Nn):Prop where
 nodes:Arr w0 H n.qn 4 encN n.nodes
 links:Arr w0 H n.ql 3 encLn n.links
theorem NetR.mono {w0:World}{H H':List (Nat × Obj)}{n:Nn}(h:NetR w0 H n)(hs:H.Sublist H':=by exact sbt):NetR w0 H' n:=⟨h.nodes.mono hs,h.links.mono hs⟩
structure NnOk (n:Nn):Prop where
 fewN:n.nodes.length≤12
 fewL:n.links.length≤30
 ends:∀ x∈n.links,x.src<n.nodes.length∧x.dst<n.nodes.length
structure Flr where
 q:Option Addr
 c:Nat
 links:List Int
 node:Int
abbrev encFl (f:Flr):List Value:=[.slice f.q f.links.length f.c, .int .i64 f.node]
def upF (n:Nn) (f:Flr) (l:Nat):Bool:=decide (¬ ((gd n.links l).src:Int)=f.node)&&(decide (¬ ((gd n.links l).dst:Int)=f.node)&&decide (¬ (l:Int)∈f.links))
def outK (n:Nn) (node:Nat):Nat→List Nat
 |0=>[]
 |i+1=>if (gd n.links i).src=node then outK n node i++[i] else outK n node i
theorem Dx (n:Nn)(node i:Nat):outK n node (i+1)=if (gd n.links i).src=node then outK n node i++[i] else outK n node i:=rfl
def outF (n:Nn) (node:Nat):List Nat:=outK n node n.links.length
theorem Fx (n:Nn)(node x:Nat):∀ i,x∈outK n node i↔x<i∧(gd n.links x).src=node
 |0=>by simp[outK]
 |i+1=>by
  rw[Dx];have ih:=Fx n node x i
  split
  ·rename_i h;rw[List.mem_append,ih]
   constructor
   ·rintro(h1|h1)
    ·exact⟨by omega,h1.2⟩
    ·simp at h1;subst h1;exact⟨by omega,h⟩
   ·rintro⟨h1,h2⟩
    by_cases e:x=i
    ·subst e;exact .inr (by simp)
    ·exact .inl ⟨by omega,h2⟩
  ·rename_i h;rw[ih]
   constructor
   ·rintro⟨h1,h2⟩;exact⟨by omega,h2⟩
   ·rintro⟨h1,h2⟩
    by_cases e:x=i
    ·subst e;exact absurd h2 h
    ·exact⟨by omega,h2⟩
theorem G3 (n:Nn)(node:Nat):∀ i,(outK n node i).length≤i
 |0=>Nat.le_refl _
 |i+1=>by
  have:=G3 n node i;rw[Dx];split
  ·simp;omega
  ·omega
def wkF (n:Nn):Int→List Int→Option Int
 |x,[]=>some x
 |x,l::ls=>if 0≤l∧l<n.links.length∧((gd n.links l.toNat).src:Int)=x then wkF n ((gd n.links l.toNat).dst:Int) ls else none
theorem Io (n:Nn):∀ (ls:List Int) (x l:Int),wkF n x (ls++[l])=(wkF n x ls).bind fun y=>if 0≤l∧l<n.links.length∧((gd n.links l.toNat).src:Int)=y then some ((gd n.links l.toNat).dst:Int) else none
 |[],x,l=>by simp[wkF]
 |a::ls,x,l=>by
  rw[List.cons_append,wkF,wkF]
  split
  ·exact Io n ls _ l
  ·rfl
theorem wkF_take (n:Nn)(x:Int){ls:List Int}{i:Nat}(h:i<ls.length):wkF n x (ls.take (i+1))=(wkF n x (ls.take i)).bind fun y=>if 0≤gd ls i∧gd ls i<n.links.length∧((gd n.links (gd ls i).toNat).src:Int)=y then some ((gd n.links (gd ls i).toNat).dst:Int) else none:=by
 rw[List.take_add_one,B2 h];exact Io n _ x _
theorem wkF_none (n:Nn)(x:Int){ls:List Int}{i:Nat}(h:wkF n x (ls.take i)=none):wkF n x ls=none:=by
 have e:ls=ls.take i++ls.drop i:=by simp
 rw[e]
 generalize ls.take i=a at *
 generalize ls.drop i=b at *;clear e
 induction b generalizing a with
 |nil=>simpa using h
 |cons c b ih=>
  rw[show a++c::b=(a++[c])++b by simp];exact ih (a++[c]) (by rw[Io,h];rfl)
theorem after_s {w0:World}{H:List (Nat × Obj)}(m:Mc)(hm:McOk w0 H m)(hp:PMok m.pl)(hsr:Srt m.names)(hl:m.names.length≤4611686018427387903)(st:Nat)(hst:st<m.rows.length)(s:ByteArray):
  FSpec Tryz.prog w0 137 #[.agg (encMc m).toArray, .int .i64 (st:Int), .string s] H (Still (.int .i64 (afterF m.pl st s:Nat)) H):=by
 refine Ao Tryz.func137 U ntmps137 U ?_;obtain⟨hr1,hr2⟩:=Gc hp hst;have hle:=lbF_le m.names s;refine rD tb 2 U (e_ (Lf U cs_) ?_ U);rintro _ _ ⟨n3,rfl,rfl⟩;refine rO tb 6 U (y_ (Lb U isAgg64 qco) ?_ U);refine rO tb 1 U (y_ (Ay (qe2 U U) call74 (fun H' hs=>bs_s m.names _ _ s (hm.a1.mono (stn hs)) hsr hl)) (rO tb 11 U ?_) U);refine A5 (A9 (T U)) U Ac ?_;refine rO tb 2 U ?_;refine Ad (Aa U) (fun c17=> ?_) (fun c17=> ?_)
 ·have hlt:lett m.names s=m.names.length:=by unfold lett;rw[if_neg c17]
  refine rC tb 2 U (y_ (Lb U isAgg64 qco) ?_ U);refine rO tb 7 U (y_ (Lb U isAgg65 qco) ?_ U);refine rO tb 1 U (y_ (Ld U U runUnderlying65 sizeOf27 qom (by first|exact rfl|exact hm.a2.b (i:=st) hst)) ?_ U);refine y_ (Lb U isAgg27 (by first|exact c_o|exact cell1 ((hm.a2.mono sbt).cs (i:=st) hst))) ?_ U;refine rO tb 1 U (y_ (Ld U U runUnderlying27 sizeOf3 qom (by first|exact rfl|exact hm.a2.b (i:=st) hst|exact(hm.r (gd m.rows st) (Af hst)).b (i:=0) qom)) ?_ U);refine y_ (Lb U isAgg3 (by first|exact c_o|exact cell1 (((hm.r (gd m.rows st) (Af hst)).mono sbt).cs (i:=m.names.length) qom))) ?_ U;refine rO tb 4 U (Ah U (K9 U) (⟨_,⟨?_,rfl⟩,sbt⟩));show resOf [.int .i64 _]= .int .i64 ((nx m.pl st (lett m.names s):Nat):Int);rw[Hy,hlt];rfl
 ·obtain⟨k,hk⟩:∃ k,k=lbF m.names s:=⟨_,rfl⟩;have hlt:lett m.names s=k:=by unfold lett;rw[if_pos (Classical.not_not.1 c17),hk]
  simp only[← hk];refine rC tb 5 U (y_ (Lb U isAgg65 qco) ?_ U);refine rO tb 1 U (y_ (Ld U U runUnderlying65 sizeOf27 qom (by first|exact rfl|exact hm.a2.b (i:=st) hst)) ?_ U);refine y_ (Lb U isAgg27 (by first|exact c_o|exact cell1 ((hm.a2.mono sbt).cs (i:=st) hst))) ?_ U;refine rO tb 1 U (y_ (Ld U U runUnderlying27 sizeOf3 qom (by first|exact rfl|exact hm.a2.b (i:=st) hst|exact(hm.r (gd m.rows st) (Af hst)).b (i:=0) qom)) ?_ U);refine y_ (Lb U isAgg3 (by first|exact c_o|exact cell1 (((hm.r (gd m.rows st) (Af hst)).mono sbt).cs (i:=m.names.length) qom)|exact cell1 (((hm.r (gd m.rows st) (Af hst)).mono sbt).cs (i:=k) qom))) ?_ U;refine rO tb 4 U (Ah U (K9 U) (⟨_,⟨?_,rfl⟩,sbt⟩));show resOf [.int .i64 _]= .int .i64 ((nx m.pl st (lett m.names s):Nat):Int);rw[Hy,hlt];rfl
theorem idxI_s {w0:World}{H:List (Nat × Obj)}(l:List Int)(q:Option Addr)(c:Nat)(s:Int)(hA:Arr w0 H q 1 encI l)(hlen:l.length≤4611686018427387903):
  FSpec Tryz.prog w0 169 #[.slice q l.length c, .int .i64 s] H ((fun v H'=>(∃ i:Int,v= .int .i64 i∧(0≤i↔s∈l))∧H'=H)):=by
 refine Ao Tryz.func169 U ntmps169 U (rD tb 14 U ?_);refine Bd (X:=Nat) (V:=fun i=>[(8, .int .i64 (i:Nat))]) (C:=[(0,_),(1,_),(7,_)]) (φ:=fun i=>i≤l.length∧∀ j,j<i→¬ s=gd l j) (μ:=fun i=>l.length - i) (x0:=0) ?_ ⟨Aa U,Aa U,Aa U,trivial⟩ ⟨qat,trivial⟩ ?_
 ·exact⟨Nat.zero_le _,fun j hj=>absurd hj (Nat.not_lt_zero _)⟩
 rintro i ⟨hi,hno⟩;refine rD tb 6 U ?_;refine Ad (Aa U) (fun c9=> ?_) (fun c9=> ?_)
 ·refine rC tb 15 U (y_ (Ld U U runUnderlying27 sizeOf3 qom (by first|exact rfl|exact hA.b (i:=i) qom)) ?_ U);refine y_ (Lb U isAgg3 (by first|exact c_o|exact cell1 ((hA.mono sbt).cs (i:=i) qom))) ?_ U;refine rO tb 3 U ?_;refine Ad (Aa U) (fun c16=> ?_) (fun c16=> ?_)
  ·refine rC tb 9 U (As (rX tb 2 U (Ah U (K9 U) ?_)));exact⟨_,⟨⟨_,rfl,fun _=>by rw[c16];exact Af qom,fun _=>by omega⟩,rfl⟩,sbt⟩
  ·refine rC tb 4 U (y_ (Av (T U) Ap qom) ?_ U);refine rO tb 2 U ?_;refine Ar (i+1) ?_ ?_ ⟨qat,trivial⟩ ⟨Aa U,Aa U,Aa U,trivial⟩ ?_
   ·refine⟨by omega,fun j hj=> ?_⟩
    by_cases e:j=i
    ·subst e;exact c16
    ·exact hno j qom
   ·omega
   ·exact sbt
 ·refine rC tb 2 U (Ag (rX tb 8 U (Ah U (K9 U) (⟨_,⟨⟨-1,rfl,fun h=>absurd h qde,fun h=> ?_⟩,rfl⟩,sbt⟩))));obtain⟨j,hj,e⟩:=List.getElem_of_mem h;exact absurd (by rw[An hj];exact e.symm) (hno j qom)
theorem hasI_s {w0:World}{H:List (Nat × Obj)}(l:List Int)(q:Option Addr)(c:Nat)(s:Int)(hA:Arr w0 H q 1 encI l)(hlen:l.length≤4611686018427387903):
  FSpec Tryz.prog w0 121 #[.slice q l.length c, .int .i64 s] H (Still (.bool (decide (s∈l))) H):=by
 refine Ao Tryz.func121 U ntmps121 U (rD tb 9 U (e_ (Ak (qe2 U U) call169 (idxI_s l q c s hA hlen)) ?_ U));rintro _ _ ⟨⟨i,rfl,hi⟩,rfl⟩;refine rO tb 5 U (Ah U (K9 U) ?_);exact⟨_,⟨vbool (decide_eq_decide.2 hi),rfl⟩,sbt⟩
theorem K4 {w0:World}{H:List (Nat × Obj)}(n:Nn)(hn:NetR w0 H n)(f:Flr)(hf:Arr w0 H f.q 1 encI f.links)(hfl:f.links.length≤4611686018427387903)(l:Nat)(hl:l<n.links.length):
  FSpec Tryz.prog w0 71 #[.agg (encNn n).toArray, .agg (encFl f).toArray, .int .i64 (l:Int)] H (Still (.bool (upF n f l)) H):=by
 refine Ao Tryz.func71 U ntmps71 U (rD tb 2 U (e_ (Lf U cs_) ?_ U));rintro _ _ ⟨n3,rfl,rfl⟩;refine e_ (Lf U cs_) ?_ U;rintro _ _ ⟨n4,rfl,rfl⟩;refine rO tb 6 U (y_ (Lb U isAgg23 qco) ?_ U);refine rO tb 1 U (y_ (Ld U U runUnderlying23 sizeOf61 qom (by first|exact rfl|exact hn.links.b (i:=l) hl)) ?_ U);refine y_ (Lc U isAgg61 sizeOf61 U (by exact(hn.links.mono sbt).cs (i:=l) hl)) ?_ U;refine e_ (Ai zeroValue61 cs_) ?_ U;rintro _ _ ⟨n7,rfl,rfl⟩;refine Aw (Le U U sizeOf61) U Ac ?_;rintro _ _ ⟨rfl,rfl⟩;refine rO tb 5 U (y_ (Lb U isAgg3 qco) ?_ U);refine rO tb 1 U (y_ (Lb U isAgg3 qco) ?_ U);refine rO tb 2 U ?_;refine A4 (s:=18) (Aa U) (fun c18=> ?_) (fun c18=> ?_)
 ·refine rO tb 1 U (A5 (Lb U isAgg3 qco) U (Az U U (Aa U)) ?_);refine rO tb 1 U (A5 (Lb U isAgg3 qco) U (Az U U (Aa U)) ?_);refine rO tb 3 U ?_;refine A4 (s:=25) (Aa U) (fun c25=> ?_) (fun c25=> ?_)
  ·refine rO tb 1 U (A5 (Lb U isAgg27 qco) U (Az U U (Aa U)) ?_);refine rO tb 1 U (A5 (Ay (qe2 U U) call121 (fun H' hs=>hasI_s f.links f.q f.c (l:Int) (hf.mono (stn hs)) hfl)) U (Az U U (Aa U)) ?_);refine A5 (A9 (T U)) U (Az U U (Aa U)) ?_;refine kO tb 4 [6] rfl U (rG tb 1 U (Ah U (K9 U) (⟨_,⟨vbool ?_,rfl⟩,sbt⟩)));unfold upF
   (rw[decide_eq_true c18,decide_eq_true c25];rfl)
  ·refine kO tb 9 [6] rfl U (rG tb 1 U (Ah U (K9 U) (⟨_,⟨vbool ?_,rfl⟩,sbt⟩)));unfold upF
   first|(rw[decide_eq_true c18,decide_eq_true c25];rfl)|(rw[decide_eq_true c18,decide_eq_false c25];rfl)
 ·refine kO tb 16 [6] rfl U (rG tb 1 U (Ah U (K9 U) (⟨_,⟨vbool ?_,rfl⟩,sbt⟩)));unfold upF
  first|(rw[decide_eq_true c18,decide_eq_true c25];rfl)|(rw[decide_eq_true c18,decide_eq_false c25];rfl)|(rw[decide_eq_false c18];rfl)
theorem out1_s {w0:World}{H:List (Nat × Obj)}(x:Ln)(node n3:Nat)(h3:Fnd H n3 (Cl [.int .i64 (node:Int)] 3)):
  FSpec Tryz.prog w0 175 #[.agg (encLn x).toArray, .pointer (some ⟨n3,0,none⟩)] H (Still (.bool (decide (x.src=node))) H):=by
 refine Ao Tryz.func175 U ntmps175 U (rD tb 2 U (e_ (Lf U cs_) ?_ U));rintro _ _ ⟨n2,rfl,rfl⟩;refine rO tb 6 U (y_ (Lb U isAgg3 qco) ?_ U);refine y_ (Lb U isAgg3 (by first|exact c_o|exact c_o (hf:=Aq h3))) ?_ U;refine rO tb 5 U (Ah U (K9 U) ?_);exact⟨_,⟨vbool (decide_eq_decide.2 qom),rfl⟩,sbt⟩
theorem links_s {w0:World}{H:List (Nat × Obj)}(n:Nn)(hn:NetR w0 H n)(hok:NnOk n)(node n3:Nat)(h3:Fnd H n3 (Cl [.int .i64 (node:Int)] 3)):
  FSpec Tryz.prog w0 174 #[.agg (encNn n).toArray, .func (.func 175) #[] #[.pointer (some ⟨n3,0,none⟩)]] H (fun v H'=>∃ d,(v=slV d (outF n node).length∧SlOk d (outF n node).length 1)∧H'=slH d ((outF n node).flatMap encU) 3++H):=by
 refine Ao Tryz.func174 U ntmps174 U ?_;have hfl:=hok.fewL;refine rD tb 2 U (e_ (Lf U cs_) ?_ U);rintro _ _ ⟨n2,rfl,rfl⟩;refine rO tb 12 U (y_ (Lb U isAgg23 qco) ?_ U);refine rO tb 5 U ?_;refine Ba (X:=Nat × Sl) (V:=fun ⟨i,d⟩=>[(11, .int .i64 (i:Nat)),(5,slV d (outK n node i).length)]) (C:=[(1,_),(9,_),(10,_)]) (G:=fun ⟨i,d⟩=>slH d ((outK n node i).flatMap encU) 3++((n2,Cl (encNn n) 26)::H)) (φ:=fun ⟨i,d⟩=>i≤n.links.length∧SlOk d (outK n node i).length 1) (μ:=fun ⟨i,d⟩=>n.links.length - i) (x0:=(0, .nil)) ?_ ⟨Aa rfl,Aa rfl,Aa rfl,trivial⟩ ⟨qat,qat,trivial⟩ sb0 ?_
 ·exact⟨Nat.zero_le _,rfl⟩
 rintro⟨i,d⟩ ⟨hi,hd⟩;refine rD tb 6 U ?_;refine Ad (Aa U) (fun c12=> ?_) (fun c12=> ?_)
 ·refine rC tb 7 U (y_ (Ld U U runUnderlying23 sizeOf61 qom (by first|exact rfl|exact hn.links.b (i:=i) qom)) ?_ U);refine y_ (Lc U isAgg61 sizeOf61 U (by exact(hn.links.mono sbt).cs (i:=i) qom)) ?_ U;refine e_ (Ai zeroValue61 cs_) ?_ U;rintro _ _ ⟨n7,rfl,rfl⟩;refine rO tb 1 U ?_;refine Aw (Le U U sizeOf61) U Ac ?_;rintro _ _ ⟨rfl,rfl⟩;refine rO tb 5 U (y_ (Lc U isAgg61 sizeOf61 U qcs) ?_ U);refine y_ (Cn (T U) (qe1 U) call175 (fun H' hs=>out1_s (gd n.links i) node n3 (h3.mono (stn hs)))) (rO tb 2 U ?_) U;refine Ad (Aa U) (fun c18=> ?_) (fun c18=> ?_)
  ·have hrow:outK n node (i+1)=outK n node i++[i]:=by rw[Dx,if_pos c18]
   refine rC tb 3 U (e_ (Aj (.cons (T U) .nil) (Bn _)) ?_ U);rintro _ _ ⟨n21,rfl,rfl⟩;refine e_ (Bc (i) (by':=8) qlc (T U) (T U) runUnderlying27 runUnderlying27 sizeOf3 typeInfo3 U zeroValue3 U (fun _=>rfl) U hd qde (by have:=G3 n node i;omega)) ?_ U;rintro _ _ ⟨d',rfl,hokd,rfl⟩;refine rO tb 5 U (y_ (Av (T U) Ap qom) ?_ U);refine rO tb 2 U ?_;refine Ar ((i+1,d')) ?_ ?_ ⟨qat,(by first|exact Aa U|(refine Be (Aa U) (vint ?_);omega)|(refine Be (Aa U) ?_;simp;done)|(refine Be (Aa U) ?_;exact by simp only[hrow,List.length_append,List.length_cons,List.length_nil])),trivial⟩ ⟨Aa U,Aa U,Aa U,trivial⟩ ?_
   ·exact⟨by omega,by rw[hrow,List.length_append];exact hokd⟩
   ·first|omega|(simp only[];omega)
   ·simp only[hrow];exact sbt
  ·have hrow:outK n node (i+1)=outK n node i:=by rw[Dx,if_neg c18]
   refine rC tb 4 U (y_ (Av (T U) Ap qom) ?_ U);refine rO tb 2 U ?_;refine Ar ((i+1,d)) ?_ ?_ ⟨qat,(by first|exact Aa U|(refine Be (Aa U) (vint ?_);omega)|(refine Be (Aa U) ?_;simp;done)|(refine Be (Aa U) ?_;exact by simp only[hrow,List.length_append,List.length_cons,List.length_nil])),trivial⟩ ⟨Aa U,Aa U,Aa U,trivial⟩ ?_
   ·exact⟨by omega,by rw[hrow];exact hd⟩
   ·first|omega|(simp only[];omega)
   ·simp only[hrow];exact sbt
 ·refine rC tb 2 U (Ag (rX tb 9 U (Ah U (K9 U) ?_)));have hi2:i=n.links.length:=by omega
  rw[hi2] at hd ⊢;exact⟨_,⟨d,⟨rfl,hd⟩,rfl⟩,sbt⟩
theorem gout_s {w0:World}{H:List (Nat × Obj)}(n:Nn)(hn:NetR w0 H n)(hok:NnOk n)(node:Nat):
  FSpec Tryz.prog w0 139 #[.agg (encNn n).toArray, .int .i64 (node:Int)] H (fun v H'=>∃ d,(v=slV d (outF n node).length∧SlOk d (outF n node).length 1)∧H'=slH d ((outF n node).flatMap encU) 3++H):=by
 refine Ao Tryz.func139 U ntmps139 U (rD tb 2 U (e_ (Lf U cs_) ?_ U));rintro _ _ ⟨n2,rfl,rfl⟩;refine e_ (Lf U cs_) ?_ U;rintro _ _ ⟨n3,rfl,rfl⟩;refine rO tb 5 U (y_ (Lc U isAgg26 sizeOf26 U qcs) ?_ U);refine y_ (Bl (.cons (T U) .nil)) ?_ U;refine e_ (Ak (qe2 U U) call174 (links_s n (hn.mono sbt) hok node n3 fdd)) ?_ U;rintro _ _ ⟨d,⟨rfl,hd⟩,rfl⟩;refine rO tb 4 U (Ah U (K9 U) ?_);exact⟨_,⟨d,⟨rfl,hd⟩,rfl⟩,sbt⟩
abbrev Pl:=Nat × Nat
structure BS (σ:Type) where
 l:List Pl
 w:List (Int × σ)
section
variable {σ:Type} [Inhabited σ]
def visF (k:Nat) (st:BS σ) (x:Pl × σ):BS σ:=if x.1∈st.l then st else ⟨st.l++[x.1],st.w++[((k:Int),x.2)]⟩
def visAll (k:Nat) (st:BS σ) (ts:List (Pl × σ)):BS σ:=ts.foldl (visF k) st
theorem visAll_take (k:Nat)(st:BS σ){ts:List (Pl × σ)}{j:Nat}{x:Pl × σ}(h:ts[j]? =some x):visAll k st (ts.take (j+1))=visF k (visAll k st (ts.take j)) x:=by
 unfold visAll;rw[List.take_add_one,h,List.foldl_append];rfl
def goF (ts:Pl→List (Pl × σ)) (fnd:Pl→Bool):Nat→Nat→BS σ→Option Nat × BS σ
 |0,_,st=>(none,st)
 |f+1,k,st=>if k<st.l.length then (if fnd (gd st.l k) then (some k,st) else goF ts fnd f (k+1) (visAll k st (ts (gd st.l k)))) else (none,st)
theorem G4 (ts:Pl→List (Pl × σ))(fnd:Pl→Bool)(f k:Nat)(st:BS σ):goF ts fnd (f+1) k st=if k<st.l.length then (if fnd (gd st.l k) then (some k,st) else goF ts fnd f (k+1) (visAll k st (ts (gd st.l k)))) else (none,st):=rfl
def backF (w:List (Int × σ)):Nat→Nat→List σ
 |0,_=>[]
 |f+1,i=>if 0≤(gd w i).1 then (gd w i).2::backF w f (gd w i).1.toNat else []
theorem Df (w:List (Int × σ))(f i:Nat):backF w (f+1) i=if 0≤(gd w i).1 then (gd w i).2::backF w f (gd w i).1.toNat else []:=rfl
structure BSok (Pd:Pl→Prop) (k:Nat) (st:BS σ):Prop where
 nd:st.l.Nodup
 ok:∀ p∈st.l,Pd p
 len:st.w.length=st.l.length
 back:∀ i,i<st.w.length→ -1≤(gd st.w i).1∧(gd st.w i).1<i
 kl:k≤st.l.length
theorem Bt {α:Type}[Inhabited α] {l l':List α}{i:Nat}(h:i<l.length):gd (l++l') i=gd l i:=by
 rw[An (by simp;omega),List.getElem_append_left h,← An h]
theorem Co {α:Type}[Inhabited α] {l:List α}{x:α}:gd (l++[x]) l.length=x:=by
 rw[An (by simp)];simp
theorem BSok.vis {Pd:Pl→Prop}{k k':Nat}{st:BS σ}(h:BSok Pd k st)(hk:k'<st.l.length){x:Pl × σ}(hx:Pd x.1):BSok Pd k (visF k' st x)∧st.l.length≤(visF k' st x).l.length∧(visF k' st x).l.length≤st.l.length+1:=by
 unfold visF;split
 ·exact⟨h,Nat.le_refl _,by omega⟩
 ·rename_i hn;refine⟨⟨?_,?_,by simp[h.len],?_,by have:=h.kl;simp;omega⟩,by simp,by simp⟩
  ·rw[List.nodup_append];exact⟨h.nd,by simp,fun a ha b hb=>by simp at hb;subst hb;rintro rfl;exact hn ha⟩
  ·intro p hp;simp only[List.mem_append,List.mem_cons,List.not_mem_nil,or_false] at hp;rcases hp with hp|rfl
   ·exact h.ok p hp
   ·exact hx
  ·intro i hi;simp only[List.length_append,List.length_cons,List.length_nil] at hi
   by_cases e:i<st.w.length
   ·rw[Bt e];exact h.back i e
   ·have e2:i=st.w.length:=by omega
    subst e2;rw[Co];have:=h.len;simp only[];omega
theorem BSok.visAll {Pd:Pl→Prop}{k k':Nat}:∀ (ts:List (Pl × σ)) {st:BS σ},BSok Pd k st→k'<st.l.length→(∀ x∈ts,Pd x.1)→BSok Pd k (visAll k' st ts)∧st.l.length≤(visAll k' st ts).l.length
 |[],st,h,hk,_=>⟨h,Nat.le_refl _⟩
 |x::ts,st,h,hk,ht=>by
  obtain⟨h1,h2,_⟩:=h.vis hk (ht x (by simp));obtain⟨h3,h4⟩:=BSok.visAll (k':=k') ts h1 qom (fun y hy=>ht y (by simp[hy]));exact⟨h3,Nat.le_trans h2 h4⟩
theorem visF_get {k:Nat}{st:BS σ}{x:Pl × σ}{i:Nat}(h:i<st.l.length):gd (visF k st x).l i=gd st.l i:=by
 unfold visF;split
 ·rfl
 ·exact Bt h
theorem Ge {k:Nat}{i:Nat}:∀ (ts:List (Pl × σ)) {st:BS σ},i<st.l.length→gd (visAll k st ts).l i=gd st.l i∧st.l.length≤(visAll k st ts).l.length
 |[],st,h=>⟨rfl,Nat.le_refl _⟩
 |x::ts,st,h=>by
  have hl:st.l.length≤(visF k st x).l.length:=by unfold visF;split<;>simp
  obtain⟨h1,h2⟩:=Ge ts (st:=visF k st x) (i:=i) qom;exact⟨by show gd (visAll k (visF k st x) ts).l i=_;rw[h1,visF_get h],Nat.le_trans hl h2⟩
end
theorem grid_few {A B:Nat}{l:List Pl}(h:l.Nodup)(hl:∀ p∈l,p.1<A∧p.2<B):l.length≤A*B:=by
 have h1:(l.map fun p=>p.1*B+p.2).Nodup:=by
  rw[List.Nodup,List.pairwise_map];refine List.Pairwise.imp_of_mem ?_ h;intro a b ha hb hab e;obtain⟨_,ha2⟩:=hl a ha;obtain⟨_,hb2⟩:=hl b hb;have hB:0<B:=by omega
  have e1:a.1=b.1:=by
   have h1:(a.1*B+a.2) / B=a.1:=by rw[Nat.mul_comm,Nat.mul_add_div hB,Nat.div_eq_of_lt ha2];rfl
   have h2:(b.1*B+b.2) / B=b.1:=by rw[Nat.mul_comm,Nat.mul_add_div hB,Nat.div_eq_of_lt hb2];rfl
   rw[← h1,← h2,e]
  have e2:a.2=b.2:=by rw[e1] at e;omega
  exact hab (Prod.ext e1 e2)
 have:=Ey h1 (l':=List.range (A*B)) fun x hx=>by
  simp only[List.mem_map] at hx;obtain⟨p,hp,rfl⟩:=hx;obtain⟨h2,h3⟩:=hl p hp;rw[List.mem_range]
  calc p.1*B+p.2<p.1*B+B:=by omega
   _=(p.1+1)*B:=by rw[Nat.succ_mul]
   _≤A*B:=Nat.mul_le_mul_right _ h2
 simpa using this
def trueM (l:List Pl):List (Pl × Bool):=l.map fun p=>(p,true)
theorem look_trueM (x:Pl):∀ l:List Pl,look (trueM l) x=if x∈l then some true else none
 |[]=>rfl
 |y::l=>by
  show look ((y,true)::trueM l) x=_;rw[By,look_trueM x l]
  by_cases h:y=x
  ·subst h;simp
  ·have h2: ¬ x=y:=fun e=>h e.symm
   simp only[h,if_false,List.mem_cons,h2,false_or]
theorem upsert_trueM {x:Pl}:∀ {l:List Pl},x∉l→upsert (trueM l) x true=trueM (l++[x])
 |[],_=>rfl
 |y::l,h=>by
  simp only[List.mem_cons,not_or] at h;show upsert ((y,true)::trueM l) x true=(y,true)::trueM (l++[x]);rw[D7,if_neg (fun e=>h.1 e.symm),upsert_trueM h.2]
theorem bd186_0_1 (a0:Int)(a1:Int)(w:World):(Instr.build 194 #[(0, .int .i64 a0),(1, .int .i64 a1)]).run Tryz.prog w= .ok (.agg #[.int .i64 a0, .int .i64 a1]) w:=by kernel_rfl
theorem Hk (a0:Int)(a1:Int)(w:World):(Instr.buildSlice 195 1 #[(0, .agg #[.int .i64 a0, .int .i64 a1])]).run Tryz.prog w= .ok (.slice (some ⟨w.heap.size,0,none⟩) 1 1) (w.alloc (Cl [.int .i64 a0, .int .i64 a1] 194)):=by kernel_rfl
theorem bs59_1_0 (a0:Int)(a1:Int)(w:World):(Instr.buildSlice 126 1 #[(0, .agg #[.int .i64 a0, .int .i64 a1])]).run Tryz.prog w= .ok (.slice (some ⟨w.heap.size,0,none⟩) 1 1) (w.alloc (Cl [.int .i64 a0, .int .i64 a1] 119)):=by kernel_rfl
abbrev encPl (p:Pl):List Value:=[.int .i64 (p.1:Int), .int .i64 (p.2:Int)]
abbrev encPK (p:Pl):Value:= .agg (encPl p).toArray
theorem eqPk {t:TypeId}(h:∀ (a b:Int × Int) w,(Op.equal t (encPlK a) (encPlK b)).run Tryz.prog w= .ok (decide (b=a)) w)(a b:Pl)(w:World):(Op.equal t (encPK a) (encPK b)).run Tryz.prog w= .ok (decide (b=a)) w:=by
 have h1:=h ((a.1:Int),(a.2:Int)) ((b.1:Int),(b.2:Int)) w;refine Eq.trans h1 ?_;refine congrArg (fun r=>Result.ok r w) (decide_eq_decide.2 ?_);obtain⟨a1,a2⟩:=a;obtain⟨b1,b2⟩:=b;simp only[Prod.mk.injEq];omega
theorem keyP74 {V:Type}:KeyOk (V:=V) Tryz.prog 119 encPK:=keyOk_ask runUnderlying119 (fun b k w=>by cases b<;>kernel_rfl) (fun k k'=>by simp[Instr.sameNow]) (eqPk eqPl) (fun k=>by simp[Instr.sameBits])
abbrev encWI (x:Int × Nat):List Value:=[.int .i64 x.1, .int .i64 (x.2:Int)]
def bsHI (n18 n9 n8:Nat) (st:BS Nat) (x:Sl × Sl):List (Nat × Obj):=(n18,mapO encPK encBv (trueM st.l))::(n9,Cl [slV x.2 st.w.length] 195)::(n8,Cl [slV x.1 st.l.length] 126)::(slH x.2 (st.w.flatMap encWI) 194++slH x.1 (st.l.flatMap encPl) 119)
theorem Ez (n18 n9 n8:Nat)(st:BS Nat)(x:Sl × Sl)(R:List (Nat × Obj)):bsHI n18 n9 n8 st x++R=(n18,mapO encPK encBv (trueM st.l))::(n9,Cl [slV x.2 st.w.length] 195)::(n8,Cl [slV x.1 st.l.length] 126)::(slH x.2 (st.w.flatMap encWI) 194++(slH x.1 (st.l.flatMap encPl) 119++R)):=by
 unfold bsHI;simp only[List.cons_append,List.append_assoc]
structure bsOkI (st:BS Nat) (x:Sl × Sl):Prop where
 o1:SlOk x.1 st.l.length 2
 o2:SlOk x.2 st.w.length 2
theorem yl_seenI {w0:World}{H:List (Nat × Obj)}{L:Fm}{x y:Operand}{ty:TypeId}{r:Nat}{l:List Pl}{p:Pl}{v:Value}(hx:Ev L x (.map (some r)))(hy:Ev L y v)(hv:v=encPK p)(hf:Fnd H r (mapO encPK encBv (trueM l))):
  Yl Tryz.prog w0 (.lookup 196 x y false) ty L H (.bool (decide (p∈l))):=by
 have h:=yl_lookupB (P:=Tryz.prog) (w0:=w0) (ty:=ty) (encB:=encBv) U (keyP74 (V:=Bool)) hx hy hv runUnderlying196 zeroValue4 hf;rw[look_trueM] at h
 by_cases hm:p∈l
 ·rw[if_pos hm] at h;rw[decide_eq_true hm];exact h
 ·rw[if_neg hm] at h;rw[decide_eq_false hm];exact h
theorem visI_s {w0:World}{H:List (Nat × Obj)}(n18 n9 n8 n10 n11 k:Nat)(st:BS Nat)(x:Sl × Sl)(t:Pl)(by1:Nat)(hx:bsOkI st x)(hl:st.l.length≤100000)(hw:st.w.length=st.l.length)(h10:Fnd H n10 (Cl [.map (some n18)] 196))(h11:Fnd H n11 (Cl [.int .i64 (k:Int)] 3)):
  FSpec Tryz.prog w0 136 #[.agg (encPl t).toArray, .int .i64 (by1:Int), .pointer (some ⟨n10,0,none⟩), .pointer (some ⟨n8,0,none⟩), .pointer (some ⟨n9,0,none⟩), .pointer (some ⟨n11,0,none⟩)] (bsHI n18 n9 n8 st x++H) (fun _ H'=>∃ y,bsOkI (visF k st (t,by1)) y∧H'=bsHI n18 n9 n8 (visF k st (t,by1)) y++H):=by
 obtain⟨ho1,ho2⟩:=hx;rw[Ez];refine Ao Tryz.func136 U ntmps136 U (rD tb 2 U (e_ (Lf U cs_) ?_ U));rintro _ _ ⟨n6,rfl,rfl⟩;refine rO tb 4 U ?_;refine y_ (Lb U isAgg196 (by first|exact c_o|exact c_o (hf:=by repeat (first|exact h10|refine Aq ?_|refine Ax ?_)))) ?_ U;refine y_ (Lc U isAgg119 sizeOf119 U qcs) ?_ U;refine y_ (yl_seenI (l:=st.l) (p:=t) (T U) (T U) U fdd) ?_ U;refine A5 (A9 (T U)) U Ac ?_;refine rO tb 2 U ?_;refine Ad (Aa U) (fun c11=> ?_) (fun c11=> ?_)
 ·refine rC tb 2 U ?_;refine y_ (Lb U isAgg196 (by first|exact c_o|exact c_o (hf:=by repeat (first|exact h10|refine Aq ?_|refine Ax ?_)))) ?_ U;refine y_ (Lc U isAgg119 sizeOf119 U qcs) ?_ U;refine e_ (Cg (l:=trueM st.l) (encV:=encBv) t true (keyP74 (V:=Bool)) (T U) (T U) U Ap U runUnderlying196) ?_ U;rintro _ _ ⟨rfl,rfl⟩;rw[upsert_trueM c11];refine rO tb 2 U (I8 9 _ mixd qkr (show List.Sublist ((n6,Cl (encPl t) 119)::(n18,_)::(n9,Cl [slV x.2 st.w.length] 195)::(n8,Cl [slV x.1 st.l.length] 126)::H) _ from by repeat (first|exact List.Sublist.refl _|apply List.Sublist.cons_cons|exact sbt)) ?_ A8);refine x_y (i:=0) U qkr (Lb U isAgg126 qco) ?_ U Ac;refine x_y (i:=1) U qkr (Lc U isAgg119 sizeOf119 U qcs) ?_ U Ac;refine x_y (i:=4) U qkr (Lb U isAgg195 qco) ?_ U Ac;refine x_y (i:=5) U qkr (Lb U isAgg3 (by first|exact c_o|exact c_o (hf:=by repeat (first|exact h11|refine Aq ?_|refine Ax ?_)))) ?_ U Ac;refine x_y (i:=6) U qkr (Br (T U)) ?_ U Ac;refine x_y (i:=7) U qkr (A0 (.cons (T U) (.cons (T U) .nil)) (bd186_0_1 _ _)) ?_ U Ac;refine D8 (i:=2) (j:=8) qkr qkr ?_ ?_
  ·refine Bp U (Aj (.cons (T U) .nil) (bs59_1_0 _ _)) ?_ U Ac;rintro _ _ ⟨n16,rfl,rfl⟩;refine⟨sbt,?_⟩;refine D8 (i:=3) (j:=8) qkr qkr ?_ ?_
   ·refine Bp U (Bc (t) (by':=16) qlc (T U) (T U) runUnderlying126 runUnderlying126 sizeOf119 typeInfo119 U zeroValue119 U (fun _=>rfl) U ho1 qde qom) ?_ U Ac;rintro _ _ ⟨d',rfl,hokd,rfl⟩;refine⟨sbt,(B1 (i:=8) qkr qkr ?_)⟩;refine Bp U (Aj (.cons (T U) .nil) (Hk _ _)) ?_ U Ac;rintro _ _ ⟨n22,rfl,rfl⟩;refine⟨sbt,(Ca qkr U ?_)⟩;refine e_ (Bc (((k:Int),by1)) (by':=16) qlc (T U) (T U) runUnderlying195 runUnderlying195 sizeOf194 typeInfo194 U zeroValue194 U (fun _=>rfl) U ho2 qde qom) ?_ U;rintro _ _ ⟨e',rfl,hoke,rfl⟩;refine Aw (Le U U sizeOf126) U Ac ?_;rintro _ _ ⟨rfl,rfl⟩;refine Aw (Le U U sizeOf195) U Ac ?_;rintro _ _ ⟨rfl,rfl⟩;refine rO tb 1 U (Cv U .nil ?_);have hv:visF k st (t,by1)=⟨st.l++[t],st.w++[((k:Int),by1)]⟩:=if_neg c11;refine⟨_,⟨(d',e'),⟨by rw[hv];simpa using hokd,by rw[hv];simpa using hoke⟩,rfl⟩,?_⟩;rw[hv,Ez];simp only[List.length_append,List.length_cons,List.length_nil,Nat.zero_add];exact sbt
   ·refine Bp U (Aj (.cons (T U) .nil) (Hk _ _)) ?_ U Ac;rintro _ _ ⟨n22,rfl,rfl⟩;refine⟨sbt,(B1 (i:=3) qkr qkr ?_)⟩;refine Bp U (Bc (t) (by':=16) qlc (T U) (T U) runUnderlying126 runUnderlying126 sizeOf119 typeInfo119 U zeroValue119 U (fun _=>rfl) U ho1 qde qom) ?_ U Ac;rintro _ _ ⟨d',rfl,hokd,rfl⟩;refine⟨sbt,(Ca qkr U ?_)⟩;refine e_ (Bc (((k:Int),by1)) (by':=16) qlc (T U) (T U) runUnderlying195 runUnderlying195 sizeOf194 typeInfo194 U zeroValue194 U (fun _=>rfl) U ho2 qde qom) ?_ U;rintro _ _ ⟨e',rfl,hoke,rfl⟩;refine Aw (Le U U sizeOf126) U Ac ?_;rintro _ _ ⟨rfl,rfl⟩;refine Aw (Le U U sizeOf195) U Ac ?_;rintro _ _ ⟨rfl,rfl⟩;refine rO tb 1 U (Cv U .nil ?_);have hv:visF k st (t,by1)=⟨st.l++[t],st.w++[((k:Int),by1)]⟩:=if_neg c11;refine⟨_,⟨(d',e'),⟨by rw[hv];simpa using hokd,by rw[hv];simpa using hoke⟩,rfl⟩,?_⟩;rw[hv,Ez];simp only[List.length_append,List.length_cons,List.length_nil,Nat.zero_add];exact sbt
  ·refine Bp U (Aj (.cons (T U) .nil) (Hk _ _)) ?_ U Ac;rintro _ _ ⟨n22,rfl,rfl⟩;refine⟨sbt,(B1 (i:=2) qkr qkr ?_)⟩;refine Bp U (Aj (.cons (T U) .nil) (bs59_1_0 _ _)) ?_ U Ac;rintro _ _ ⟨n16,rfl,rfl⟩;refine⟨sbt,(B1 (i:=3) qkr qkr ?_)⟩;refine Bp U (Bc (t) (by':=16) qlc (T U) (T U) runUnderlying126 runUnderlying126 sizeOf119 typeInfo119 U zeroValue119 U (fun _=>rfl) U ho1 qde qom) ?_ U Ac;rintro _ _ ⟨d',rfl,hokd,rfl⟩;refine⟨sbt,(Ca qkr U ?_)⟩;refine e_ (Bc (((k:Int),by1)) (by':=16) qlc (T U) (T U) runUnderlying195 runUnderlying195 sizeOf194 typeInfo194 U zeroValue194 U (fun _=>rfl) U ho2 qde qom) ?_ U;rintro _ _ ⟨e',rfl,hoke,rfl⟩;refine Aw (Le U U sizeOf126) U Ac ?_;rintro _ _ ⟨rfl,rfl⟩;refine Aw (Le U U sizeOf195) U Ac ?_;rintro _ _ ⟨rfl,rfl⟩;refine rO tb 1 U (Cv U .nil ?_);have hv:visF k st (t,by1)=⟨st.l++[t],st.w++[((k:Int),by1)]⟩:=if_neg c11;refine⟨_,⟨(d',e'),⟨by rw[hv];simpa using hokd,by rw[hv];simpa using hoke⟩,rfl⟩,?_⟩;rw[hv,Ez];simp only[List.length_append,List.length_cons,List.length_nil,Nat.zero_add];exact sbt
 ·refine rC tb 1 U (Cv U .nil ?_);have hv:visF k st (t,by1)=st:=if_pos (Classical.not_not.1 c11);refine⟨_,⟨x,⟨by rw[hv];exact ho1,by rw[hv];exact ho2⟩,rfl⟩,?_⟩;rw[hv,Ez];exact sbt
def RevAt {α:Type} [Inhabited α] (l l':List α) (i:Nat):Prop:=l'.length=l.length∧∀ j,j<l.length→gd l' j=if j<i∨l.length - i≤j then gd l (l.length - 1 - j) else gd l j
theorem gd_setA {α:Type}[Inhabited α] {b:List α}{j x:Nat}{v:α}(hx:x<b.length):gd (b.set j v) x=if x=j then v else gd b x:=by
 rw[An (by simpa using hx),List.getElem_set,An hx]
 by_cases h:j=x
 ·subst h;simp
 ·rw[if_neg h,if_neg (fun e=>h e.symm)]
theorem RevAt.step {α:Type}[Inhabited α] {l l':List α}{i:Nat}(h:RevAt l l' i)(hi:i<l.length - 1 - i):RevAt l ((l'.set i (gd l' (l.length - 1 - i))).set (l.length - 1 - i) (gd l' i)) (i+1):=by
 obtain⟨h1,h2⟩:=h;refine⟨by simp[h1],fun j hj=> ?_⟩;rw[gd_setA (by simp;omega),gd_setA qom]
 by_cases e1:j=l.length - 1 - i
 ·rw[if_pos e1,if_pos qom,h2 i qom,if_neg qom,e1]
  congr 1;omega
 ·rw[if_neg e1]
  by_cases e2:j=i
  ·rw[if_pos e2,if_pos qom,h2 _ qom,if_neg qom,e2]
  ·rw[if_neg e2,h2 j hj]
   by_cases e3:j<i∨l.length - i≤j
   ·rw[if_pos e3,if_pos qom]
   ·rw[if_neg e3,if_neg qom]
theorem RevAt.done {α:Type}[Inhabited α] {l l':List α}{i:Nat}(h:RevAt l l' i)(hi: ¬ (i:Int)<(l.length:Int) - 1 - i):l'=l.reverse:=by
 obtain⟨h1,h2⟩:=h;apply List.ext_getElem (by simp[h1]);intro j hj1 hj2;have hj:j<l.length:=by omega
 have h3:=h2 j hj;rw[An hj1] at h3;rw[h3,List.getElem_reverse]
 split
 ·rw[An qom]
 ·rw[An hj];congr 1;omega
theorem revI_s {w0:World}{H:List (Nat × Obj)}(d:Sl)(l:List Nat)(hd:SlOk d l.length 1)(hl:l.length≤100000):
  FSpec Tryz.prog w0 135 #[slV d l.length] (slH d (l.flatMap encU) 3++H) (fun v H'=>v= .tuple #[]∧H'=slH d (l.reverse.flatMap encU) 3++H):=by
 refine Ao Tryz.func135 U ntmps135 U (rD tb 4 U (y_ (Hz (T U) Ap qom) ?_ U));refine rO tb 5 U ?_;refine Ba (X:=Nat × List Nat) (V:=fun ⟨i,cur⟩=>[(2, .int .i64 (i:Nat)),(3, .int .i64 ((l.length:Int) - 1 - (i:Int)))]) (C:=[(0,_)]) (G:=fun ⟨i,cur⟩=>slH d (cur.flatMap encU) 3++H) (φ:=fun ⟨i,cur⟩=>RevAt l cur i∧SlOk d cur.length 1∧i≤l.length) (μ:=fun ⟨i,cur⟩=>l.length - i) (x0:=(0,l)) ?_ ⟨Aa rfl,trivial⟩ ⟨qat,(by first|exact Aa rfl|(refine Be (Aa rfl) (vint ?_);omega)),trivial⟩ sb0 ?_
 ·exact⟨⟨rfl,fun j hj=>by rw[if_neg qom]⟩,hd,Nat.zero_le _⟩
 rintro⟨i,cur⟩ ⟨hr,hdc,hil⟩;refine rD tb 8 U ?_;refine Ad (Aa U) (fun c9=> ?_) (fun c9=> ?_)
 ·have hij:i<l.length - 1 - i:=by omega
  obtain⟨hcl,hcg⟩:=hr;have hjj:(l.length:Int) - 1 - (i:Int)=((l.length - 1 - i:Nat):Int):=by omega
  simp only[hjj];refine rC tb 4 U (I9 13 15 (H) (slH d (cur.flatMap encU) 3++H) mixd qkr (List.sublist_append_right _ _) (List.Sublist.refl _) ?_ A8);refine Bv [0] qkr U (i:=0) U qkr (Br (T U)) ?_ U Ac;refine Bv [1] qkr U (i:=1) U qkr (Br (T U)) ?_ U Ac;refine w_y (i:=2) U qkr (Br (T U)) ?_ U Ac;refine w_y (i:=3) U qkr (Br (T U)) ?_ U Ac;refine Bv [4] qkr U (i:=4) U qkr (Br (T U)) ?_ U Ac;refine Bv [5] qkr U (i:=5) U qkr (Br (T U)) ?_ U Ac;refine Bv [6] qkr U (i:=6) U qkr (Ld U U runUnderlying27 sizeOf3 qom (by first|exact rfl|exact hdc.bas qom)) ?_ U Ac;refine Bv [7] qkr U (i:=7) U qkr (Lb U isAgg3 (by first|exact c_o|exact cell1 (((A1 (X:=H) (enc:=encU) (sz:=1) (e:=3) (l:=cur) (fun _=>rfl) hdc).mono sbt).cs (i:=(l.length - 1 - i)) qom))) ?_ U Ac;refine Bv [11,10,8] qkr U (i:=8) U qkr (Br (T U)) ?_ U Ac;refine Bv [11,10,9] qkr U (i:=9) U qkr (Br (T U)) ?_ U Ac;refine Bv [11,10] qkr U (i:=10) U qkr (Ld U U runUnderlying27 sizeOf3 qom (by first|exact rfl|exact hdc.bas qom)) ?_ U Ac;refine Bv [11] qkr U (i:=11) U qkr (Lb U isAgg3 (by first|exact c_o|exact cell1 (((A1 (X:=H) (enc:=encU) (sz:=1) (e:=3) (l:=cur) (fun _=>rfl) hdc).mono sbt).cs (i:=i) qom))) ?_ U Ac;refine Bv [12] qkr U (i:=12) U qkr (Ld U U runUnderlying27 sizeOf3 qom (by first|exact rfl|exact hdc.bas qom)) ?_ U Ac;refine Cb (i:=13) qkr qkr ?_;refine C6 U (B4 (l:=cur) (e:=3) (enc:=encU) (sz:=1) (i:=i) (gd cur (l.length - 1 - i)) (fun _=>rfl) LocL.h (T U) (T U) (.one U) U sizeOf3 qom hdc) ?_ U Ac qkr;rintro _ _ ⟨rfl,rfl⟩;refine⟨sbt,(w_y (i:=14) U qkr (Ld U U runUnderlying27 sizeOf3 qom (by first|exact rfl|exact hdc.bas qom)) ?_ U Ac)⟩;refine Gr qkr U ?_;refine e_ (B4 (l:=cur.set i (gd cur (l.length - 1 - i))) (e:=3) (enc:=encU) (sz:=1) (i:=(l.length - 1 - i)) (gd cur i) (fun _=>rfl) LocL.h (T U) (T U) (.one U) U sizeOf3 (by simp;omega) (by simpa using hdc)) ?_ U;rintro _ _ ⟨rfl,rfl⟩;refine rO tb 5 U (y_ (Av (T U) Ap qom) ?_ U);refine rO tb 1 U (y_ (Hz (T U) Ap qom) ?_ U);refine rO tb 3 U ?_;refine Ar ((i+1,(cur.set i (gd cur (l.length - 1 - i))).set (l.length - 1 - i) (gd cur i))) ?_ ?_ ⟨qat,(by first|exact Aa U|(refine Be (Aa U) (vint ?_);omega)),trivial⟩ ⟨Aa U,trivial⟩ ?_
  ·exact⟨RevAt.step ⟨hcl,hcg⟩ hij,by simpa using hdc,by omega⟩
  ·omega
  ·exact sbt
 ·have hfin:=hr.done qom;refine rC tb 2 U (Ag (rX tb 1 U (Cv U .nil ?_)));rw[← hfin];exact⟨_,⟨rfl,rfl⟩,sbt⟩
theorem bd186_0 (a0:Int)(w:World):(Instr.build 194 #[(0, .int .i64 a0)]).run Tryz.prog w= .ok (.agg #[.int .i64 a0, .int .i64 0]) w:=by kernel_rfl
theorem Gf {σ:Type}[Inhabited σ] {w:List (Int × σ)}(hw:∀ i,i<w.length→ -1≤(gd w i).1∧(gd w i).1<i):∀ (f i:Nat),i<f→i<w.length→backF w f i=backF w (i+1) i
 |0,i,h,_=>absurd h (Nat.not_lt_zero _)
 |f+1,i,h,hi=>by
  rw[Df,Df]
  split
  ·rename_i h0;have h1:=(hw i hi).2;have h2:(gd w i).1.toNat<i:=by omega
   rw[Gf hw f _ qom qom,Gf hw i _ qom qom]
  ·rfl
def srF {σ:Type} [Inhabited σ] (ts:Pl→List (Pl × σ)) (fnd:Pl→Bool) (N:Nat) (p0:Pl):List σ × Bool × List Pl:=
 match goF ts fnd (N+1) 0 ⟨[p0],[(-1,default)]⟩ with
 |(some k,st)=>((backF st.w (k+1) k).reverse,true,st.l.take (k+1))
 |(none,st)=>([],false,st.l)
theorem visAll_pre {σ:Type}{k m:Nat}:∀ (ts:List (Pl × σ)) (st:BS σ),m≤st.l.length→(visAll k st ts).l.take m=st.l.take m
 |[],st,h=>rfl
 |x::ts,st,h=>by
  show (visAll k (visF k st x) ts).l.take m=_;rw[visAll_pre ts _ (by
   unfold visF;split
   ·exact h
   ·simp;omega)]
  unfold visF;split
  ·rfl
  ·rw[List.take_append_of_le_length h]
theorem bs_start {σ:Type}[Inhabited σ] {Pd:Pl→Prop}{p0:Pl}(h:Pd p0):BSok Pd 0 (⟨[p0],[(-1,default)]⟩:BS σ):=by
 refine⟨by simp,fun p hp=> ?_,rfl,fun i hi=> ?_,Nat.zero_le _⟩
 ·simp only[List.mem_cons,List.not_mem_nil,or_false] at hp;rw[hp];exact h
 ·have:i=0:=by simpa using hi
  subst this;exact⟨Int.le_refl _,by show (-1:Int)<0;decide⟩
def FoundS (w0:World) (H0:List (Nat × Obj)) (ff:FuncId) (fcap:List Value) (Pd:Pl→Prop) (fnd:Pl→Bool) (G:List Pl→List (Nat × Obj)→Prop):Prop:=
 ∀ (p:Pl),Pd p→∀ (q:List Pl) (M H:List (Nat × Obj)),H0.Sublist H→q.length≤50000→G q M→FSpec Tryz.prog w0 ff (.agg (encPl p).toArray::fcap).toArray (M++H) (fun v H'=>∃ M2,(v= .bool (fnd p)∧G (q++[p]) M2)∧H'=M2++H)
def Enters (f:FuncId):Prop:=∀ args w,(callFunc f args).run Tryz.prog w= .ok (.enter f args) w
def NextI (w0:World) (H0:List (Nat × Obj)) (nf:FuncId) (ncap:List Value) (Pd:Pl→Prop) (ts:Pl→List (Pl × Nat)):Prop:=
 ∀ (p:Pl),Pd p→∀ (vf:FuncId) (vcap:List Value) (S:Nat→List (Nat × Obj)→Prop) (M H:List (Nat × Obj)),H0.Sublist H→Enters vf→S 0 M→
  (∀ j x M1 H1,(ts p)[j]? =some x→H.Sublist H1→S j M1→FSpec Tryz.prog w0 vf (.agg (encPl x.1).toArray:: .int .i64 (x.2:Int)::vcap).toArray (M1++H1) (fun _ H'=>∃ M2,S (j+1) M2∧H'=M2++H1))→
  FSpec Tryz.prog w0 nf (.agg (encPl p).toArray:: .func (.func vf) #[] vcap.toArray::ncap).toArray (M++H) (fun _ H'=>∃ M2,S (ts p).length M2∧H'=M2++H)
theorem vspI {w0:World}{R:List (Nat × Obj)}{Pd:Pl→Prop}{ts:List (Pl × Nat)}{n18 n9 n8 n10 n11 k:Nat}{st:BS Nat}(hb:BSok Pd k st)(hk:k<st.l.length)(ht:∀ x∈ts,Pd x.1){N:Nat}(hN:∀ l:List Pl,l.Nodup→(∀ p∈l,Pd p)→l.length≤N)(hN2:N≤100000)(h10:Fnd R n10 (Cl [.map (some n18)] 196))(h11:Fnd R n11 (Cl [.int .i64 (k:Int)] 3)):
  ∀ j x M1 H1,ts[j]? =some x→R.Sublist H1→(∃ y,bsOkI (visAll k st (ts.take j)) y∧M1=bsHI n18 n9 n8 (visAll k st (ts.take j)) y)→
   FSpec Tryz.prog w0 136 (.agg (encPl x.1).toArray:: .int .i64 (x.2:Int)::[.pointer (some ⟨n10,0,none⟩), .pointer (some ⟨n8,0,none⟩), .pointer (some ⟨n9,0,none⟩), .pointer (some ⟨n11,0,none⟩)]).toArray (M1++H1) (fun _ H'=>∃ M2,(∃ y,bsOkI (visAll k st (ts.take (j+1))) y∧M2=bsHI n18 n9 n8 (visAll k st (ts.take (j+1))) y)∧H'=M2++H1):=by
 rintro j x M1 H1 hj hs ⟨y,hy,rfl⟩;have h1:=(hb.visAll (k':=k) (ts.take j) hk (fun z hz=>ht z (List.mem_of_mem_take hz))).1;have h2:=hN _ h1.nd h1.ok;refine(visI_s n18 n9 n8 n10 n11 k (visAll k st (ts.take j)) y x.1 x.2 hy qom h1.len (h10.mono hs) (h11.mono hs)).mono ?_;rintro v H' ⟨y2,hy2,rfl⟩;rw[visAll_take k st hj];exact⟨_,⟨y2,hy2,rfl⟩,rfl⟩
theorem locBSI {e1 e2:Nat × Obj}{n18 n9 n8:Nat}{st:BS Nat}{x:Sl × Sl}{R:List (Nat × Obj)}:LocL (e1::e2::((n18,mapO encPK encBv (trueM st.l))::(n9,Cl [slV x.2 st.w.length] 195)::(n8,Cl [slV x.1 st.l.length] 126)::(slH x.2 (st.w.flatMap encWI) 194++(slH x.1 (st.l.flatMap encPl) 119++R)))) (bsHI n18 n9 n8 st x) (e1::e2::R) (fun M'=>e1::e2::(M'++R)):=by
 rw[← Ez];exact .t (.t .h)
theorem searchI_s {w0:World}{H H0:List (Nat × Obj)}(nf ff:FuncId)(ncap fcap:List Value)(Pd:Pl→Prop)(ts:Pl→List (Pl × Nat))(fnd:Pl→Bool)(G:List Pl→List (Nat × Obj)→Prop)(N:Nat)(p0:Pl)(Mg0:List (Nat × Obj))
  (hnf:Enters nf) (hff:Enters ff) (hnext:NextI w0 H0 nf ncap Pd ts) (hfound:FoundS w0 H0 ff fcap Pd fnd G) (hts:∀ p,Pd p→∀ x∈ts p,Pd x.1) (hN:∀ l:List Pl,l.Nodup→(∀ p∈l,Pd p)→l.length≤N) (hN2:N≤50000) (hp0:Pd p0) (hG0:G [] Mg0) (hH0:H0.Sublist H):
  FSpec Tryz.prog w0 93 #[.agg (encPl p0).toArray, .func (.func nf) #[] ncap.toArray, .func (.func ff) #[] fcap.toArray] (Mg0++H) (fun v H'=>∃ x:Sl × List (Nat × Obj),(v= .tuple #[slV x.1 (srF ts fnd N p0).1.length, .bool (srF ts fnd N p0).2.1]∧SlOk x.1 (srF ts fnd N p0).1.length 1∧G (srF ts fnd N p0).2.2 x.2)∧H'=slH x.1 ((srF ts fnd N p0).1.flatMap encU) 3++(x.2++H)):=by
 refine Ao Tryz.func93 U ntmps93 U (rD tb 2 U (e_ (Lf U cs_) ?_ U));rintro _ _ ⟨n3,rfl,rfl⟩;refine rO tb 6 U (y_ (Lc U isAgg119 sizeOf119 U qcs) ?_ U);refine e_ (Aj (.cons (T U) .nil) (bs59_1_0 _ _)) ?_ U;rintro _ _ ⟨n15,rfl,rfl⟩;refine y_ (A0 (.cons Ap .nil) (bd186_0 _)) (e_ (Aj (.cons (T U) .nil) (Hk _ _)) ?_ U) U;rintro _ _ ⟨n17,rfl,rfl⟩;refine e_ (Ai zeroValue126 cs_) ?_ U;rintro _ _ ⟨n8,rfl,rfl⟩;refine e_ (Ai zeroValue195 cs_) ?_ U;rintro _ _ ⟨n9,rfl,rfl⟩;refine Aw (Le U U sizeOf126) U Ac ?_;rintro _ _ ⟨rfl,rfl⟩;refine Aw (Le U U sizeOf195) U Ac ?_;rintro _ _ ⟨rfl,rfl⟩;refine rO tb 4 U (e_ D6 ?_ U);rintro _ _ ⟨n18,rfl,rfl⟩;refine y_ (Lc U isAgg119 sizeOf119 U qcs) ?_ U;refine e_ (F8 (l:=[]) (encV:=encBv) p0 true (keyP74 (V:=Bool)) (T U) (T U) U Ap U runUnderlying196) ?_ U;rintro _ _ ⟨rfl,rfl⟩;refine rO tb 1 U (e_ (Ai zeroValue196 cs_) ?_ U);rintro _ _ ⟨n10,rfl,rfl⟩;refine Aw (Le U U sizeOf196) U Ac ?_;rintro _ _ ⟨rfl,rfl⟩;refine rO tb 5 U (e_ (Ai zeroValue3 cs_) ?_ U);rintro _ _ ⟨n11,rfl,rfl⟩;refine Aw (Al (T U) Ap sizeOf3) U Ac ?_;rintro _ _ ⟨rfl,rfl⟩;refine rO tb 3 U ?_;refine Ba (X:=Nat × BS Nat × (Sl × Sl) × Nat × List (Nat × Obj)) (V:=fun ⟨k,st,x,m11,Mg⟩=>[(11, .pointer (some ⟨m11,0,none⟩))]) (C:=[(1,_),(2,_),(8,_),(9,_),(10,_)]) (G:=fun ⟨k,st,x,m11,Mg⟩=>(m11,Cl [.int .i64 (k:Int)] 3)::(n10,Cl [.map (some n18)] 196)::((n18,mapO encPK encBv (trueM st.l))::(n9,Cl [slV x.2 st.w.length] 195)::(n8,Cl [slV x.1 st.l.length] 126)::(slH x.2 (st.w.flatMap encWI) 194++(slH x.1 (st.l.flatMap encPl) 119++((n3,Cl (encPl p0) 119)::(Mg++H)))))) (φ:=fun ⟨k,st,x,m11,Mg⟩=>BSok Pd k st∧bsOkI st x∧G (st.l.take k) Mg∧goF ts fnd (N+1 - k) k st=goF ts fnd (N+1) 0 ⟨[p0],[(-1,default)]⟩) (μ:=fun ⟨k,st,x,m11,Mg⟩=>N+1 - k) (x0:=(0,⟨[p0],[(-1,default)]⟩,(.blk n15 1 [], .blk n17 1 []),n11,Mg0)) ?_ ⟨Aa rfl,Aa rfl,Aa rfl,Aa rfl,Aa rfl,trivial⟩ ⟨qat,trivial⟩ sb0 ?_
 ·exact⟨bs_start hp0,⟨⟨Nat.le_refl _,rfl⟩,⟨Nat.le_refl _,rfl⟩⟩,hG0,rfl⟩
 rintro⟨k,st,x,m11,Mg⟩ ⟨hb,hx,hG,hgo⟩;have hln:=hN _ hb.nd hb.ok;have hbl:=hb.len;have hbk0:=hb.kl;refine rD tb 3 U (y_ (Lb U isAgg3 qco) ?_ U);refine y_ (Lb U isAgg126 qco) ?_ U;refine rO tb 4 U ?_;refine Ad (Aa U) (fun c24=> ?_) (fun c24=> ?_)
 ·have hkl:k<st.l.length:=by omega
  have hpk:=hb.ok _ (Af hkl);refine rC tb 8 U (y_ (Lb U isAgg126 qco) ?_ U);refine y_ (Lb U isAgg3 qco) ?_ U;refine y_ (Ld U U runUnderlying126 sizeOf119 qom (by first|exact rfl|exact hx.o1.bas qom)) ?_ U;refine y_ (Lc U isAgg119 sizeOf119 U (by exact((A1 (X:=H) (enc:=encPl) (sz:=2) (e:=119) (l:=st.l) (fun _=>rfl) hx.o1).mono sbt).cs (i:=k) qom)) ?_ U;refine e_ (C3 (T U) (qe1 U) hff (A6 Mg qlc (hfound (gd st.l k) (hb.ok _ (Af qom)) (st.l.take k) Mg _ (hH0.trans (by exact sbt)) (by rw[List.length_take];omega) hG))) ?_ U;rintro _ _ ⟨Mg2,⟨rfl,hG2⟩,rfl⟩;refine rO tb 2 U ?_
  first|refine Ad (Aa U) (fun c32=> ?_) (fun c32=> ?_)|refine Bq (Aa U) (fun c32=> ?_) (fun c32=> ?_)
  ·have hres:srF ts fnd N p0=((backF st.w (k+1) k).reverse,true,st.l.take (k+1)):=by
    unfold srF;rw[← hgo,show N+1 - k=(N - k)+1 by omega,G4,if_pos hkl,if_pos c32]
   have htk:st.l.take k++[gd st.l k]=st.l.take (k+1):=by rw[List.take_add_one,B2 hkl];rfl
   rw[htk] at hG2;refine rC tb 8 U (y_ (Lb U isAgg3 qco) ?_ U);refine rO tb 4 U ?_;refine Ba (X:=Nat × List Nat × Sl) (V:=fun ⟨i,ol,d12⟩=>[(13, .int .i64 (i:Nat)),(12,slV d12 ol.length)]) (C:=[(9,_)]) (G:=fun ⟨i,ol,d12⟩=>slH d12 (ol.flatMap encU) 3++((m11,Cl [.int .i64 (k:Int)] 3)::(n10,Cl [.map (some n18)] 196)::((n18,mapO encPK encBv (trueM st.l))::(n9,Cl [slV x.2 st.w.length] 195)::(n8,Cl [slV x.1 st.l.length] 126)::(slH x.2 (st.w.flatMap encWI) 194++(slH x.1 (st.l.flatMap encPl) 119++((n3,Cl (encPl p0) 119)::(Mg2++H))))))) (φ:=fun ⟨i,ol,d12⟩=>i<st.w.length∧SlOk d12 ol.length 1∧ol++backF st.w (i+1) i=backF st.w (k+1) k∧ol.length+i≤k) (μ:=fun ⟨i,ol,d12⟩=>i) (x0:=(k,[], .nil)) ?_ ⟨Aa rfl,trivial⟩ ⟨qat,qat,trivial⟩ sb0 ?_
   ·exact⟨by omega,rfl,rfl,by simp⟩
   rintro⟨i,ol,d12⟩ ⟨hi,ho12,hbk,hol⟩;refine rD tb 3 U (y_ (Lb U isAgg195 qco) ?_ U);refine rO tb 1 U (y_ (Ld U U runUnderlying195 sizeOf194 qom (by first|exact rfl|exact hx.o1.bas qom|exact hx.o2.bas qom)) ?_ U);refine rO tb 1 U (y_ (Lb U isAgg3 (by first|exact c_o|exact((A1 (X:=H) (enc:=encWI) (sz:=2) (e:=194) (l:=st.w) (fun _=>rfl) hx.o2).mono sbt).f0 (i:=i) qom U)) ?_ U);refine rO tb 3 U ?_;refine Ad (Aa U) (fun c39=> ?_) (fun c39=> ?_)
   ·have hbi:=hb.back i qom;have hti:(((gd st.w i).1.toNat:Nat):Int)=(gd st.w i).1:=by omega
    refine rC tb 6 U (y_ (Lb U isAgg195 qco) ?_ U);refine rO tb 1 U (y_ (Ld U U runUnderlying195 sizeOf194 qom (by first|exact rfl|exact hx.o1.bas qom|exact hx.o2.bas qom)) ?_ U);refine rO tb 1 U (y_ (Lb U isAgg3 (by first|exact c_o|exact((A1 (X:=H) (enc:=encWI) (sz:=2) (e:=194) (l:=st.w) (fun _=>rfl) hx.o2).mono sbt).f (i:=i) qom U)) ?_ U);refine e_ (Aj (.cons (T U) .nil) (Bn _)) ?_ U;rintro _ _ ⟨n51,rfl,rfl⟩;refine e_ (Bc ((gd st.w i).2) (by':=8) qlc (T U) (T U) runUnderlying27 runUnderlying27 sizeOf3 typeInfo3 U zeroValue3 U (fun _=>rfl) U ho12 qde qom) ?_ U;rintro _ _ ⟨d',rfl,hokd,rfl⟩;refine rO tb 5 U (y_ (Lb U isAgg195 qco) ?_ U);refine rO tb 1 U (y_ (Ld U U runUnderlying195 sizeOf194 qom (by first|exact rfl|exact hx.o1.bas qom|exact hx.o2.bas qom)) ?_ U);refine rO tb 1 U (y_ (Lb U isAgg3 (by first|exact c_o|exact((A1 (X:=H) (enc:=encWI) (sz:=2) (e:=194) (l:=st.w) (fun _=>rfl) hx.o2).mono sbt).f0 (i:=i) qom U)) ?_ U);refine rO tb 2 U ?_;refine Ar (((gd st.w i).1.toNat,ol++[(gd st.w i).2],d')) ?_ ?_ ⟨(by first|exact Aa U|(refine Be (Aa U) (vint ?_);omega)),atd,trivial⟩ ⟨Aa U,trivial⟩ ?_
    ·refine⟨by omega,by simpa using hokd,?_,by simp;omega⟩;rw[← hbk,Df st.w i i,if_pos c39,Gf hb.back i _ qom qom];simp
    ·show (gd st.w i).1.toNat<i;omega
    ·exact sbt
   ·have hfin:ol=backF st.w (k+1) k:=by rw[← hbk,Df,if_neg c39,List.append_nil]
    refine rC tb 2 U (Ag (rX tb 5 U (e_ (Ak (qe1 U) call135 (A6 (slH d12 (ol.flatMap encU) 3) qlc ((revI_s d12 ol ho12 qom).toL))) ?_ U)));rintro _ _ ⟨_,rfl,rfl⟩;refine rO tb 13 U (As (rX tb 2 U (Ah U (.tmp (Aa U) (K9 U)) ?_)));rw[hres];subst hfin;exact⟨_,⟨(d12,Mg2),⟨by rw[List.length_reverse];rfl,by rw[List.length_reverse];exact ho12,hG2⟩,rfl⟩,sbt⟩
  ·refine rC tb 4 U (y_ (Lb U isAgg126 qco) ?_ U);refine y_ (Lb U isAgg3 qco) ?_ U;refine y_ (Ld U U runUnderlying126 sizeOf119 qom (by first|exact rfl|exact hx.o1.bas qom)) ?_ U;refine y_ (Lc U isAgg119 sizeOf119 U (by exact((A1 (X:=H) (enc:=encPl) (sz:=2) (e:=119) (l:=st.l) (fun _=>rfl) hx.o1).mono sbt).cs (i:=k) qom)) ?_ U;refine y_ (Bl (.cons (T U) (.cons (T U) (.cons (T U) (.cons (T U) .nil))))) ?_ U;refine e_ (C3 (T U) (qe2 U U) hnf (A6 (bsHI n18 n9 n8 st x) locBSI (hnext (gd st.l k) hpk 136 [.pointer (some ⟨n10,0,none⟩), .pointer (some ⟨n8,0,none⟩), .pointer (some ⟨n9,0,none⟩), .pointer (some ⟨m11,0,none⟩)] (fun j M=>∃ y,bsOkI (visAll k st ((ts (gd st.l k)).take j)) y∧M=bsHI n18 n9 n8 (visAll k st ((ts (gd st.l k)).take j)) y) _ _ (hH0.trans (by exact sbt)) call136 ⟨x,hx,rfl⟩ (vspI hb hkl (hts _ hpk) hN qom fdd fdd)))) ?_ U;rintro _ _ ⟨_,⟨y,hy,rfl⟩,rfl⟩;rw[List.take_length] at hy ⊢;rw[Ez];refine rO tb 6 U (y_ (Lb U isAgg3 qco) ?_ U);refine rO tb 3 U (e_ (Ai zeroValue3 cs_) ?_ U);rintro _ _ ⟨n11,rfl,rfl⟩;refine Aw (Le U U sizeOf3) U Ac ?_;rintro _ _ ⟨rfl,rfl⟩;refine rO tb 3 U (y_ (Lb U isAgg3 qco) ?_ U);refine y_ (Av (T U) Ap qom) ?_ U;refine Aw (Le U U sizeOf3) U Ac ?_;rintro _ _ ⟨rfl,rfl⟩;refine rO tb 1 U ?_;refine Ar ((k+1,visAll k st (ts (gd st.l k)),y,n11,Mg2)) ?_ ?_ ⟨qat,trivial⟩ ⟨Aa U,Aa U,Aa U,Aa U,Aa U,trivial⟩ ?_
   ·obtain⟨hb2,hge⟩:=hb.visAll (k':=k) (ts (gd st.l k)) hkl (hts _ hpk);refine⟨⟨hb2.nd,hb2.ok,hb2.len,hb2.back,by omega⟩,hy,?_,?_⟩
    ·rw[visAll_pre _ _ qom,List.take_add_one,B2 hkl];exact hG2
    ·rw[← hgo,show N+1 - k=(N - k)+1 by omega,G4,if_pos hkl,if_neg (by rw[c32];decide),show N+1 - (k+1)=N - k by omega]
   ·show N+1 - (k+1)<N+1 - k;omega
   ·exact sbt
 ·have hres:srF ts fnd N p0=([],false,st.l):=by
   unfold srF;rw[← hgo,show N+1 - k=(N - k)+1 by omega,G4,if_neg qom]
  refine rC tb 2 U (Ag (rX tb 9 U (Ah U (.tmp (Aa U) (K9 U)) ?_)));rw[hres];have hkk:k=st.l.length:=by omega
  rw[hkk,List.take_length] at hG;exact⟨_,⟨(.nil,Mg),⟨rfl,rfl,hG⟩,rfl⟩,sbt⟩
theorem goF_ok {σ:Type}[Inhabited σ] {Pd:Pl→Prop}{ts:Pl→List (Pl × σ)}(hts:∀ p,Pd p→∀ x∈ts p,Pd x.1){fnd:Pl→Bool}:∀ (f k:Nat) (st:BS σ),BSok Pd k st→∃ k',BSok Pd k' (goF ts fnd f k st).2
 |0,k,st,h=>⟨k,h⟩
 |f+1,k,st,h=>by
  rw[G4]
  split
  ·rename_i hk
   split
   ·exact⟨k,h⟩
   ·obtain⟨h2,h3⟩:=h.visAll (k':=k) (ts (gd st.l k)) hk (hts _ (h.ok _ (Af hk)));exact goF_ok hts f (k+1) _ ⟨h2.nd,h2.ok,h2.len,h2.back,by omega⟩
  ·exact⟨k,h⟩
theorem srF_met {σ:Type}[Inhabited σ] {Pd:Pl→Prop}{ts:Pl→List (Pl × σ)}(hts:∀ p,Pd p→∀ x∈ts p,Pd x.1){fnd:Pl→Bool}{p0:Pl}(hp0:Pd p0)(N:Nat):(srF ts fnd N p0).2.2.Nodup∧∀ p∈(srF ts fnd N p0).2.2,Pd p:=by
 obtain⟨k',h⟩:=goF_ok hts (fnd:=fnd) (N+1) 0 ⟨[p0],[(-1,default)]⟩ (bs_start hp0);unfold srF;cases hg:goF ts fnd (N+1) 0 ⟨[p0],[(-1,default)]⟩ with
 |mk a st=>
  rw[hg] at h;cases a with
  |none=>exact⟨h.nd,h.ok⟩
  |some k=>exact⟨h.nd.sublist (List.take_sublist _ _),fun p hp=>h.ok p (List.mem_of_mem_take hp)⟩
theorem bd74_0_1 (a0:Int)(a1:Int)(w:World):(Instr.build 119 #[(0, .int .i64 a0),(1, .int .i64 a1)]).run Tryz.prog w= .ok (.agg #[.int .i64 a0, .int .i64 a1]) w:=by kernel_rfl
def nmF (n:Nn) (x:Nat):ByteArray:=(gd n.nodes x).name
def mvF (n:Nn) (m:PM) (s:Nat) (l:Nat):Pl × Nat:=(((gd n.links l).dst,afterF m s (nmF n (gd n.links l).dst)),l)
def movK (n:Nn) (f:Flr) (m:PM) (p:Pl) (i:Nat):List (Pl × Nat):=(((outF n p.1).take i).filter (upF n f)).map (mvF n m p.2)
def movesF (n:Nn) (f:Flr) (m:PM) (p:Pl):List (Pl × Nat):=((outF n p.1).filter (upF n f)).map (mvF n m p.2)
theorem movK_yes {n:Nn}{f:Flr}{m:PM}{p:Pl}{i:Nat}(h:i<(outF n p.1).length)(hu:upF n f (gd (outF n p.1) i)=true):movK n f m p (i+1)=movK n f m p i++[mvF n m p.2 (gd (outF n p.1) i)]:=by
 unfold movK;rw[List.take_add_one,B2 h,List.filter_append,List.map_append];simp[hu]
theorem movK_no {n:Nn}{f:Flr}{m:PM}{p:Pl}{i:Nat}(h:i<(outF n p.1).length)(hu:upF n f (gd (outF n p.1) i)=false):movK n f m p (i+1)=movK n f m p i:=by
 unfold movK;rw[List.take_add_one,B2 h,List.filter_append];simp[hu]
theorem movK_get {n:Nn}{f:Flr}{m:PM}{p:Pl}{i:Nat}(h:i<(outF n p.1).length)(hu:upF n f (gd (outF n p.1) i)=true):(movesF n f m p)[(movK n f m p i).length]? =some (mvF n m p.2 (gd (outF n p.1) i)):=by
 have e:movesF n f m p=movK n f m p (i+1)++(((outF n p.1).drop (i+1)).filter (upF n f)).map (mvF n m p.2):=by
  unfold movesF movK;rw[← List.map_append,← List.filter_append,List.take_append_drop]
 rw[e,movK_yes h hu,List.append_assoc,List.getElem?_append_right (Nat.le_refl _)];simp
theorem movK_all {n:Nn}{f:Flr}{m:PM}{p:Pl}:movK n f m p (outF n p.1).length=movesF n f m p:=by
 unfold movK movesF;rw[List.take_length]
def PlOk (n:Nn) (m:PM) (p:Pl):Prop:=p.1<n.nodes.length∧p.2<m.next.length
theorem Ip {n:Nn}(hok:NnOk n){f:Flr}{m:PM}(hp:PMok m)(p:Pl)(h:PlOk n m p):∀ x∈movesF n f m p,PlOk n m x.1:=by
 intro x hx;unfold movesF at hx;simp only[List.mem_map,List.mem_filter] at hx;obtain⟨l,⟨hl,_⟩,rfl⟩:=hx;have h1:=((Fx n p.1 l n.links.length).1 hl).1;exact⟨(hok.ends _ (Af h1)).2,after_lt hp h.2 _⟩
theorem Kq (n:Nn)(m:PM):∀ l:List Pl,l.Nodup→(∀ p∈l,PlOk n m p)→l.length≤n.nodes.length*m.next.length:=fun l h1 h2=>grid_few h1 h2
def fndF (to:Nat) (m:PM) (p:Pl):Bool:=decide (p.1=to)&&gd m.acc p.2
structure Env (w0:World) (H:List (Nat × Obj)) (n:Nn) (f:Flr) (m:Mc):Prop where
 n:NetR w0 H n
 f:Arr w0 H f.q 1 encI f.links
 m:McOk w0 H m
theorem Env.mono {w0:World}{H H':List (Nat × Obj)}{n:Nn}{f:Flr}{m:Mc}(h:Env w0 H n f m)(hs:H.Sublist H':=by exact sbt):Env w0 H' n f m:=⟨h.n.mono hs,h.f.mono hs,h.m.mono hs⟩
structure EnvOk (n:Nn) (f:Flr) (m:Mc):Prop where
 on:NnOk n
 fl:f.links.length≤4611686018427387903
 om:PMok m.pl
 sr:Srt m.names
 ln:m.names.length≤4611686018427387903
theorem begin_s {w0:World}{H:List (Nat × Obj)}(n:Nn)(m:Mc)(hn:NetR w0 H n)(hm:McOk w0 H m)(hp:PMok m.pl)(hsr:Srt m.names)(hl:m.names.length≤4611686018427387903)(x:Nat)(hx:x<n.nodes.length):
  FSpec Tryz.prog w0 94 #[.agg (encNn n).toArray, .agg (encMc m).toArray, .int .i64 (x:Int)] H (Still (.agg (encPl (x,afterF m.pl 0 (nmF n x))).toArray) H):=by
 refine Ao Tryz.func94 U ntmps94 U (rD tb 2 U (e_ (Lf U cs_) ?_ U));rintro _ _ ⟨n3,rfl,rfl⟩;refine e_ (Lf U cs_) ?_ U;rintro _ _ ⟨n4,rfl,rfl⟩;refine e_ (Ai zeroValue119 cs_) ?_ U;rintro _ _ ⟨n6,rfl,rfl⟩;refine rO tb 3 U (Bh 10 [(0,true),(1,true),(2,true),(3,true),(4,true),(5,true),(6,true),(7,true),(8,true),(9,true)] _ mixd qkr sb0 ?_ A8);refine rP tb 1 U (o_y U (Lc U isAgg68 sizeOf68 U qcs) ?_ U Ac);refine rP tb 1 U (o_y U (Lb U isAgg22 qco) ?_ U Ac);refine rP tb 1 U (o_y U (Ld U U runUnderlying22 sizeOf85 qom (by first|exact rfl|exact hn.nodes.b (i:=x) hx)) ?_ U Ac);refine rP tb 1 U (o_y U (Lb U isAgg9 (by first|exact c_o|exact(hn.nodes.mono sbt).f0 (i:=x) hx U)) ?_ U Ac);refine o_y U (Ay (.cons (T U) (.cons Ap (.cons (T U) .nil))) call137 (fun H' hs=>after_s m (hm.mono (stn hs)) hp hsr hl 0 (by have:=hp.some';rw[show m.pl.next.length=m.rows.length from List.length_map ..] at this;exact this) _)) ?_ U Ac;refine o_y U (A0 (.cons (T U) (.cons (T U) .nil)) (bd74_0_1 _ _)) (A7 U ?_) U Ac;refine Aw (Le U U sizeOf119) U Ac ?_;rintro _ _ ⟨rfl,rfl⟩;refine rO tb 3 U (Ah U (.cellA (Aa U) isAgg119 sizeOf119 U qcs .nil) ?_);exact⟨_,⟨rfl,rfl⟩,sbt⟩
theorem moves1_s {w0:World}{H0:List (Nat × Obj)}(n:Nn)(f:Flr)(m:Mc)(he:Env w0 H0 n f m)(ho:EnvOk n f m)(b3 b4 b5:Nat)(h3:Fnd H0 b3 (Cl (encNn n) 26))(h4:Fnd H0 b4 (Cl (encFl f) 29))(h5:Fnd H0 b5 (Cl (encMc m) 68)):
  NextI w0 H0 138 [.pointer (some ⟨b3,0,none⟩), .pointer (some ⟨b4,0,none⟩), .pointer (some ⟨b5,0,none⟩)] (PlOk n m.pl) (movesF n f m.pl):=by
 intro p hpd vf vcap S M0 H hH0 hvf hS0 hv;show FSpec Tryz.prog w0 138 #[.agg (encPl p).toArray, .func (.func vf) #[] vcap.toArray, .pointer (some ⟨b3,0,none⟩), .pointer (some ⟨b4,0,none⟩), .pointer (some ⟨b5,0,none⟩)] (M0++H) _;have hok:=ho.on;have hfL:=hok.fewL;have hol:(outF n p.1).length≤n.links.length:=G3 n p.1 n.links.length;have hrl:m.pl.next.length=m.rows.length:=List.length_map ..;have hp2:p.2<m.rows.length:=by have:=hpd.2;omega
 refine Ao Tryz.func138 U ntmps138 U (rD tb 2 U (e_ (Lf U cs_) ?_ U));rintro _ _ ⟨n5,rfl,rfl⟩;refine rO tb 4 U (y_ (Lc U isAgg26 sizeOf26 U (by exact K6 (C2 h3) (hH0.trans (by exact sbt)))) ?_ U);refine rO tb 1 U (y_ (Lb U isAgg3 qco) ?_ U);refine e_ (Ak (qe2 U U) call139 (gout_s n (he.n.mono (hH0.trans (by exact sbt))) hok p.1)) ?_ U;rintro _ _ ⟨dq,⟨rfl,hdq⟩,rfl⟩;refine rO tb 5 U ?_;refine Ba (X:=Nat × List (Nat × Obj)) (V:=fun ⟨i,M⟩=>[(15, .int .i64 (i:Nat))]) (C:=[(1,_),(2,_),(3,_),(4,_),(5,_),(13,_),(14,_)]) (G:=fun ⟨i,M⟩=>slH dq ((outF n p.1).flatMap encU) 3++((n5,Cl (encPl p) 119)::(M++H))) (φ:=fun ⟨i,M⟩=>i≤(outF n p.1).length∧S (movK n f m.pl p i).length M) (μ:=fun ⟨i,M⟩=>(outF n p.1).length - i) (x0:=(0,M0)) ?_ ⟨Aa rfl,Aa rfl,Aa rfl,Aa rfl,Aa rfl,Aa rfl,Aa rfl,trivial⟩ ⟨qat,trivial⟩ sb0 ?_
 ·exact⟨Nat.zero_le _,hS0⟩
 rintro⟨i,M⟩ ⟨hi,hS⟩;refine rD tb 6 U ?_;refine Ad (Aa U) (fun c16=> ?_) (fun c16=> ?_)
 ·have hli:=(Fx n p.1 (gd (outF n p.1) i) n.links.length).1 (Af (show i<(outF n p.1).length by omega));have hll:=hli.1;have hdd:=(hok.ends _ (Af hll)).2;refine rC tb 6 U (y_ (Ld U U runUnderlying27 sizeOf3 qom (by first|exact rfl|exact hdq.bas qom)) ?_ U);refine y_ (Lb U isAgg3 (by first|exact c_o|exact cell1 (((A1 (X:=H) (enc:=encU) (sz:=1) (e:=3) (l:=outF n p.1) (fun _=>rfl) hdq).mono sbt).cs (i:=i) qom))) ?_ U;refine rO tb 5 U (y_ (Lc U isAgg26 sizeOf26 U (by exact K6 (C2 h3) (hH0.trans (by exact sbt)))) ?_ U);refine y_ (Lc U isAgg29 sizeOf29 U (by exact K6 (C2 h4) (hH0.trans (by exact sbt)))) ?_ U;refine rO tb 1 U (y_ (Ay (qe3 U U U) call71 (fun H' hs=>K4 n (he.n.mono ((hH0.trans (by exact sbt)).trans hs)) f (he.f.mono ((hH0.trans (by exact sbt)).trans hs)) ho.fl (gd (outF n p.1) i) hll)) ?_ U);refine rO tb 2 U ?_
  first|refine Ad (Aa U) (fun c22=> ?_) (fun c22=> ?_)|refine Bq (Aa U) (fun c22=> ?_) (fun c22=> ?_)
  ·refine rC tb 3 U (y_ (Lb U isAgg23 (by first|exact c_o|exact c_o (hf:=h3.mono (hH0.trans (by exact sbt))))) ?_ U);refine rO tb 1 U (y_ (Ld U U runUnderlying23 sizeOf61 qom (by first|exact rfl|exact hdq.bas qom|exact he.n.links.b (i:=gd (outF n p.1) i) hll)) ?_ U);refine rO tb 1 U (y_ (Lb U isAgg3 (by first|exact c_o|exact((he.n.links.mono (hH0.trans (by exact sbt))).f (i:=gd (outF n p.1) i) hll U))) ?_ U);refine rO tb 3 U (Bh 14 [(0,true),(1,true),(2,true),(3,true),(4,true),(5,true),(6,true),(7,true),(8,true),(9,true),(10,true),(11,true),(12,true),(13,true)] _ mixd qkr sb0 ?_ A8);refine rP tb 2 U (o_y U (Lc U isAgg68 sizeOf68 U (by exact K6 (C2 h5) (hH0.trans (by exact sbt)))) ?_ U Ac);refine rP tb 1 U (o_y U (Lb U isAgg3 qco) ?_ U Ac);refine rP tb 1 U (o_y U (Lb U isAgg22 (by first|exact c_o|exact c_o (hf:=h3.mono (hH0.trans (by exact sbt))))) ?_ U Ac);refine rP tb 1 U (o_y U (Ld U U runUnderlying22 sizeOf85 qom (by first|exact rfl|exact hdq.bas qom|exact he.n.links.b (i:=gd (outF n p.1) i) hll|exact he.n.nodes.b (i:=(gd n.links (gd (outF n p.1) i)).dst) hdd)) ?_ U Ac);refine rP tb 1 U (o_y U (Lb U isAgg9 (by first|exact c_o|exact((he.n.nodes.mono (hH0.trans (by exact sbt))).f0 (i:=(gd n.links (gd (outF n p.1) i)).dst) hdd U))) ?_ U Ac);refine o_y U (Ay (qe3 U U U) call137 (fun H' hs=>after_s m (he.m.mono ((hH0.trans (by exact sbt)).trans hs)) ho.om ho.sr ho.ln p.2 hp2 _)) ?_ U Ac;refine o_y U (A0 (.cons (T U) (.cons (T U) .nil)) (bd74_0_1 _ _)) (rP tb 1 U (A7 U (e_ (C3 (T U) (qe2 U U) hvf (A6 M qlc (hv (movK n f m.pl p i).length (mvF n m.pl p.2 (gd (outF n p.1) i)) M _ (movK_get qom c22) (by exact sbt) hS))) ?_ U))) U Ac;rintro _ _ ⟨M2,hS2,rfl⟩;refine kO tb 3 [1,2,3,4,5,13,14,15] rfl U (rG tb 1 U (y_ (Av (T U) Ap qom) ?_ U));refine rO tb 2 U ?_;refine Ar ((i+1,M2)) ?_ ?_ ⟨qat,trivial⟩ ⟨Aa U,Aa U,Aa U,Aa U,Aa U,Aa U,Aa U,trivial⟩ ?_
   ·exact⟨by omega,by rw[movK_yes qom c22,List.length_append];exact hS2⟩
   ·first|omega|(simp only[];omega)
   ·exact sbt
  ·refine rC tb 4 U (y_ (Av (T U) Ap qom) ?_ U);refine rO tb 2 U ?_;refine Ar ((i+1,M)) ?_ ?_ ⟨qat,trivial⟩ ⟨Aa U,Aa U,Aa U,Aa U,Aa U,Aa U,Aa U,trivial⟩ ?_
   ·exact⟨by omega,by rw[movK_no qom c22];exact hS⟩
   ·first|omega|(simp only[];omega)
   ·exact sbt
 ·refine rC tb 2 U (Ag (rX tb 1 U (Cv U .nil ?_)));have hi2:i=(outF n p.1).length:=by omega
  rw[hi2,movK_all] at hS;exact⟨_,⟨M,hS,rfl⟩,sbt⟩
def cmpI (a b:Int):Int:=if a<b then -1 else if b<a then 1 else 0
def cmpPl (a b:Int × Int):Int:=if ¬ cmpI a.1 b.1=0 then cmpI a.1 b.1 else cmpI a.2 b.2
theorem own_grown {w w':World}(h:Own w [] w'):∃ q os,w'=Sort.grow (w.drewN q) os:=by
 refine⟨w'.drawn - w.drawn,w'.heap.extract w.heap.size w'.heap.size,?_⟩;obtain⟨hb,_,_,_,hd⟩:=h;have e1:w.drawn+(w'.drawn - w.drawn)=w'.drawn:=by omega
 have e2:w.heap++w'.heap.extract w.heap.size w'.heap.size=w'.heap:=by
  apply Array.ext_getElem?;intro i;have hs:=hb.size
  by_cases hi:i<w.heap.size
  ·rw[Array.getElem?_append_left hi,hb.block i hi]
  ·rw[Array.getElem?_append_right qom,Array.getElem?_extract]
   by_cases h2:i<w'.heap.size
   ·simp only[show i - w.heap.size<min w'.heap.size w'.heap.size - w.heap.size by omega,if_true]
    congr 1;omega
   ·rw[if_neg qom];simp;omega
 show w'={heap:=w.heap++w'.heap.extract w.heap.size w'.heap.size,tape:=w.tape,drawn:=w.drawn+(w'.drawn - w.drawn),os:=w.os,output:=w.output};rw[e1,e2,← hb.os,← hb.tape,← hb.output]
theorem nanI_s {w0:World}{H:List (Nat × Obj)}(a:Int):
  FSpec Tryz.prog w0 166 #[.int .i64 a] H (Still (.bool false) H):=by
 refine Ao Tryz.func166 U ntmps166 U (rD tb 14 U (Ah U (K9 U) ?_));exact⟨_,⟨vbool (by simp),rfl⟩,sbt⟩
theorem cmpI_s {w0:World}{H:List (Nat × Obj)}(a b:Int):
  FSpec Tryz.prog w0 118 #[.int .i64 a, .int .i64 b] H (Still (.int .i64 (cmpI a b)) H):=by
 refine Ao Tryz.func118 U ntmps118 U (rD tb 8 U (y_ (Ay (qe1 U) call166 (fun H' hs=>nanI_s _)) (rO tb 6 U (y_ (Ay (qe1 U) call166 (fun H' hs=>nanI_s _)) (rO tb 29 U ?_) U)) U));refine Ad (Aa U) (fun c16=> ?_) (fun c16=> ?_)
 ·refine rC tb 7 U (Ah U (K9 U) (⟨_,⟨vint ?_,rfl⟩,sbt⟩));unfold cmpI
  (rw[if_pos c16])
 ·refine rC tb 10 U ?_;refine Ad (Aa U) (fun c19=> ?_) (fun c19=> ?_)
  ·refine rC tb 7 U (Ah U (K9 U) (⟨_,⟨vint ?_,rfl⟩,sbt⟩));unfold cmpI
   first|(rw[if_pos c16])|(rw[if_neg c16,if_pos qom])
  ·refine rC tb 8 U (Ah U (K9 U) (⟨_,⟨vint ?_,rfl⟩,sbt⟩));unfold cmpI
   first|(rw[if_pos c16])|(rw[if_neg c16,if_pos qom])|(rw[if_neg c16,if_neg qom])
def plLt (a b:Pl):Prop:=a.1<b.1∨(a.1=b.1∧a.2<b.2)
abbrev toI (p:Pl):Int × Int:=((p.1:Int),(p.2:Int))
instance plDec (a b:Pl):Decidable (plLt a b):=by unfold plLt;infer_instance
theorem find1_s {w0:World}{H:List (Nat × Obj)}(m:Mc)(hm:McOk w0 H m)(hp:PMok m.pl)(p:Pl)(hp2:p.2<m.rows.length)(to b9 b7:Nat)(h9:Fnd H b9 (Cl [.int .i64 (to:Int)] 3))(h7:Fnd H b7 (Cl (encMc m) 68)):
  FSpec Tryz.prog w0 96 #[.agg (encPl p).toArray, .pointer (some ⟨b9,0,none⟩), .pointer (some ⟨b7,0,none⟩)] H (Still (.bool (fndF to m.pl p)) H):=by
 refine Ao Tryz.func96 U ntmps96 U ?_;have hal:m.acc.length=m.rows.length:=by have:=hp.acc;rw[show m.pl.next.length=m.rows.length from List.length_map ..] at this;exact this
 refine rD tb 2 U (e_ (Lf U cs_) ?_ U);rintro _ _ ⟨n3,rfl,rfl⟩;refine rO tb 6 U (y_ (Lb U isAgg3 qco) ?_ U);refine y_ (Lb U isAgg3 (by first|exact c_o|exact c_o (hf:=Aq h9))) ?_ U;refine rO tb 2 U ?_;refine A4 (s:=9) (Aa U) (fun c9=> ?_) (fun c9=> ?_)
 ·refine rO tb 1 U (A5 (Lb U isAgg66 (by first|exact c_o|exact c_o (hf:=Aq h7))) U (Az U U (Aa U)) ?_);refine rO tb 1 U (A5 (Lb U isAgg3 qco) U (Az U U (Aa U)) ?_);refine A5 (Ld U U runUnderlying66 sizeOf4 qom (by first|exact rfl|exact hm.a3.b (i:=p.2) qom)) U (Az U U (Aa U)) ?_;refine A5 (Lb U isAgg4 (by first|exact c_o|exact cell1 ((hm.a3.mono sbt).cs (i:=p.2) qom))) U (Az U U (Aa U)) ?_;refine rO tb 5 U (Ah U (K9 U) (⟨_,⟨vbool ?_,rfl⟩,sbt⟩));unfold fndF
  (rw[decide_eq_true (show p.1=to by omega)];rfl)
 ·refine rO tb 11 U (Ah U (K9 U) (⟨_,⟨vbool ?_,rfl⟩,sbt⟩));unfold fndF
  first|(rw[decide_eq_true (show p.1=to by omega)];rfl)|(rw[decide_eq_false (show ¬ p.1=to by omega)];rfl)
theorem found1_s {w0:World}{H0:List (Nat × Obj)}(n:Nn)(m:Mc)(hm:McOk w0 H0 m)(hp:PMok m.pl)(to b9 b7:Nat)(h9:Fnd H0 b9 (Cl [.int .i64 (to:Int)] 3))(h7:Fnd H0 b7 (Cl (encMc m) 68)):
  FoundS w0 H0 96 [.pointer (some ⟨b9,0,none⟩), .pointer (some ⟨b7,0,none⟩)] (PlOk n m.pl) (fndF to m.pl) (fun _ M=>M=[]):=by
 rintro p hpd q _ H hs _ rfl;refine(find1_s (H:=H) m (hm.mono hs) hp p (by have:=hpd.2;rw[show m.pl.next.length=m.rows.length from List.length_map ..] at this;exact this) to b9 b7 (h9.mono hs) (h7.mono hs)).mono ?_;rintro v H' ⟨rfl,rfl⟩;exact⟨[],⟨rfl,rfl⟩,rfl⟩
def NPl (n:Nn) (m:PM):Nat:=n.nodes.length*m.next.length
theorem NPl_le {n:Nn}{m:PM}(h:NnOk n)(hp:PMok m):NPl n m≤2400:=Nat.mul_le_mul h.fewN hp.few
def p0F (n:Nn) (m:PM) (x:Nat):Pl:=(x,afterF m 0 (nmF n x))
theorem Ky {n:Nn}{m:PM}(hp:PMok m){x:Nat}(hx:x<n.nodes.length):PlOk n m (p0F n m x):=⟨hx,after_lt hp hp.some' _⟩
def findF (n:Nn) (f:Flr) (m:PM) (x to:Nat):List Nat × Int:=if f.node=x then ([],18) else (if (srF (movesF n f m) (fndF to m) (NPl n m) (p0F n m x)).2.1 then ((srF (movesF n f m) (fndF to m) (NPl n m) (p0F n m x)).1,0) else ([],18))
theorem moves_s {w0:World}{H:List (Nat × Obj)}(n:Nn)(f:Flr)(m:Mc):
  FSpec Tryz.prog w0 95 #[.agg (encNn n).toArray, .agg (encFl f).toArray, .agg (encMc m).toArray] H (fun v H'=>∃ b3 b4 b5:Nat,v= .func (.func 138) #[] #[.pointer (some ⟨b3,0,none⟩), .pointer (some ⟨b4,0,none⟩), .pointer (some ⟨b5,0,none⟩)]∧H'=(b5,Cl (encMc m) 68)::(b4,Cl (encFl f) 29)::(b3,Cl (encNn n) 26)::H):=by
 refine Ao Tryz.func95 U ntmps95 U (rD tb 2 U (e_ (Lf U cs_) ?_ U));rintro _ _ ⟨n3,rfl,rfl⟩;refine e_ (Lf U cs_) ?_ U;rintro _ _ ⟨n4,rfl,rfl⟩;refine e_ (Lf U cs_) ?_ U;rintro _ _ ⟨n5,rfl,rfl⟩;refine rO tb 5 U (y_ (Bl (.cons (T U) (.cons (T U) (.cons (T U) .nil)))) (rO tb 4 U (Ah U (K9 U) ?_)) U);exact⟨_,⟨_,_,_,rfl,rfl⟩,sbt⟩
theorem find_s {w0:World}{H:List (Nat × Obj)}(n:Nn)(f:Flr)(m:Mc)(he:Env w0 H n f m)(ho:EnvOk n f m)(x:Nat)(hx:x<n.nodes.length)(to:Nat):
  FSpec Tryz.prog w0 36 #[.agg (encNn n).toArray, .agg (encFl f).toArray, .agg (encMc m).toArray, .int .i64 (x:Int), .int .i64 (to:Int)] H (fun v H'=>∃ d:Sl,(v= .tuple #[slV d (findF n f m.pl x to).1.length, .int .i64 (findF n f m.pl x to).2]∧SlOk d (findF n f m.pl x to).1.length 1)∧H'=slH d ((findF n f m.pl x to).1.flatMap encU) 3++H):=by
 refine Ao Tryz.func36 U ntmps36 U (rD tb 2 U (e_ (Lf U cs_) ?_ U));rintro _ _ ⟨n5,rfl,rfl⟩;refine e_ (Lf U cs_) ?_ U;rintro _ _ ⟨n6,rfl,rfl⟩;refine e_ (Lf U cs_) ?_ U;rintro _ _ ⟨n7,rfl,rfl⟩;refine e_ (Lf U cs_) ?_ U;rintro _ _ ⟨n9,rfl,rfl⟩;refine rO tb 8 U (y_ (Lb U isAgg3 qco) ?_ U);refine rO tb 4 U ?_;refine Ad (Aa U) (fun c17=> ?_) (fun c17=> ?_)
 ·have hff:findF n f m.pl x to=([],18):=if_pos c17;refine rC tb 8 U (Ah U (.tmp (Aa U) (K9 U)) ?_);rw[hff];exact⟨_,⟨.nil,⟨rfl,rfl⟩,rfl⟩,sbt⟩
 ·have hfn:findF n f m.pl x to=(if (srF (movesF n f m.pl) (fndF to m.pl) (NPl n m.pl) (p0F n m.pl x)).2.1 then ((srF (movesF n f m.pl) (fndF to m.pl) (NPl n m.pl) (p0F n m.pl x)).1,0) else ([],18)):=if_neg c17;refine rC tb 3 U (Bh 15 [(0,true),(1,true),(2,true),(3,true),(4,true),(5,true),(6,true),(8,true),(7,false),(9,false),(10,true),(11,true),(12,true),(13,true),(14,true)] _ mixd qkr sb0 ?_ A8);refine o_y U (Lc U isAgg26 sizeOf26 U qcs) ?_ U Ac;refine o_y U (Lc U isAgg68 sizeOf68 U qcs) ?_ U Ac;refine rP tb 1 U (o_y U (Ay (qe3 U U U) call94 (fun H' hs=>begin_s n m (he.n.mono (stn hs)) (he.m.mono (stn hs)) ho.om ho.sr ho.ln x hx)) (o_y U (Lc U isAgg26 sizeOf26 U qcs) ?_ U Ac) U Ac);refine o_y U (Lc U isAgg29 sizeOf29 U qcs) ?_ U Ac;refine o_y U (Lc U isAgg68 sizeOf68 U qcs) ?_ U Ac;refine o_y U (Bl (.cons (T U) (.cons (T U) .nil))) (o_e U (Ak (qe3 U U U) call95 (moves_s n f m)) ?_ U Ac) U Ac;rintro _ _ ⟨b3,b4,b5,rfl,rfl⟩;refine⟨sbt,?_⟩;refine o_e U (Ak (qe3 U U U) call93 ((searchI_s (H0:=_) 138 96 [.pointer (some ⟨b3,0,none⟩), .pointer (some ⟨b4,0,none⟩), .pointer (some ⟨b5,0,none⟩)] [.pointer (some ⟨n9,0,none⟩), .pointer (some ⟨n7,0,none⟩)] (PlOk n m.pl) (movesF n f m.pl) (fndF to m.pl) (fun _ M=>M=[]) (NPl n m.pl) (p0F n m.pl x) [] call138 call96 (moves1_s n f m (he.mono sbt) ho b3 b4 b5 fdd fdd fdd) (found1_s n m (he.m.mono sbt) ho.om to n9 n7 fdd fdd) (fun p hpp=>Ip ho.on ho.om p hpp) (Kq n m.pl) (by have:=NPl_le ho.on ho.om;omega) (Ky ho.om hx) U (List.Sublist.refl _)))) ?_ U Ac;rintro _ _ ⟨⟨d,_⟩,⟨rfl,hd,rfl⟩,rfl⟩;refine⟨sbt,(rP tb 5 U (A7 U (rO tb 6 U ?_)))⟩
  first|refine A5 (A9 (T U)) U Ac ?_|refine A5 (B0 (T U)) U Ac ?_
  refine rO tb 2 U ?_
  first|refine Ad (Aa U) (fun c32=> ?_) (fun c32=> ?_)|refine Bq (Aa U) (fun c32=> ?_) (fun c32=> ?_)
  ·have hff:findF n f m.pl x to=([],18):=by rw[hfn,if_neg (by intro h;rw[h] at c32;cases c32)]
   refine rC tb 8 U (Ah U (.tmp (Aa U) (K9 U)) ?_);rw[hff];exact⟨_,⟨.nil,⟨rfl,rfl⟩,rfl⟩,sbt⟩
  ·have hff:findF n f m.pl x to=((srF (movesF n f m.pl) (fndF to m.pl) (NPl n m.pl) (p0F n m.pl x)).1,0):=by rw[hfn,if_pos (by simpa using c32)]
   refine kC tb 9 [10,11] rfl U (rG tb 1 U (Ah U (.tmp (Aa U) (K9 U)) ?_));rw[hff];exact⟨_,⟨d,⟨rfl,hd⟩,rfl⟩,sbt⟩
theorem Kr {w0:World}{H:List (Nat × Obj)}{p:Addr}{v v':Value}(h:v=v')(c:Cell w0 H p v):Cell w0 H p v':=h ▸ c
def namesF (n:Nn) (x:Nat) (ls:List Int):List ByteArray:=nmF n x::ls.map fun l=>nmF n (gd n.links l.toNat).dst
theorem namesF_take {n:Nn}{x:Nat}{ls:List Int}{i:Nat}(h:i<ls.length):namesF n x (ls.take (i+1))=namesF n x (ls.take i)++[nmF n (gd n.links (gd ls i).toNat).dst]:=by
 unfold namesF;rw[List.take_add_one,B2 h,List.map_append];rfl
theorem Gg (n:Nn)(x:Nat)(ls:List Int):(namesF n x ls).length=ls.length+1:=by simp[namesF]
def upAll (n:Nn) (f:Flr) (ls:List Int):Bool:=ls.all fun l=>upF n f l.toNat
theorem upAll_take {n:Nn}{f:Flr}{ls:List Int}{i:Nat}(h:i<ls.length):upAll n f (ls.take (i+1))=(upAll n f (ls.take i)&&upF n f (gd ls i).toNat):=by
 unfold upAll;rw[List.take_add_one,B2 h,List.all_append];simp
theorem upAll_no {n:Nn}{f:Flr}{ls:List Int}{i:Nat}(h:i<ls.length)(hu:upF n f (gd ls i).toNat=false):upAll n f ls=false:=by
 unfold upAll;rw[List.all_eq_false];exact⟨gd ls i,Af h,by rw[hu];decide⟩
def holdsF (n:Nn) (f:Flr) (e:Re) (x to:Nat) (ls:List Int):Bool:=decide (wkF n (x:Int) ls=some (to:Int))&&(decide (¬ f.node=x)&&(upAll n f ls&&matchF e (namesF n x ls)))
theorem Fy {n:Nn}:∀ {ls:List Int} {x y:Int},wkF n x ls=some y→∀ i,i<ls.length→0≤gd ls i∧gd ls i<n.links.length
 |[],x,y,_,i,hi=>absurd hi (Nat.not_lt_zero _)
 |l::ls,x,y,h,i,hi=>by
  rw[wkF] at h
  split at h
  ·rename_i hc;cases i with
   |zero=>exact⟨hc.1,hc.2.1⟩
   |succ i=>exact Fy h i (by simpa using hi)
  ·cases h
theorem within_s {w0:World}{H:List (Nat × Obj)}(a lo hi:Int):
  FSpec Tryz.prog w0 153 #[.int .i64 a, .int .i64 lo, .int .i64 hi] H (Still (.bool (decide (lo≤a)&&decide (a≤hi))) H):=by
 refine Ao Tryz.func153 U ntmps153 U (rD tb 11 U ?_);refine A4 (s:=10) (Aa U) (fun c10=> ?_) (fun c10=> ?_)
 ·refine rO tb 8 U (Ah U (K9 U) (⟨_,⟨vbool ?_,rfl⟩,sbt⟩))
  (rw[decide_eq_true (by omega:lo≤a)];rfl)
 ·refine rO tb 8 U (Ah U (K9 U) (⟨_,⟨vbool ?_,rfl⟩,sbt⟩))
  first|(rw[decide_eq_true (by omega:lo≤a)];rfl)|(rw[decide_eq_false (by omega: ¬ lo≤a)];rfl)
theorem gwalk_s {w0:World}{H:List (Nat × Obj)}(n:Nn)(hn:NetR w0 H n)(hok:NnOk n)(x:Int)(ls:List Int)(q:Option Addr)(c:Nat)(hA:Arr w0 H q 1 encI ls)(hlen:ls.length≤9223372036854775807):
  FSpec Tryz.prog w0 111 #[.agg (encNn n).toArray, .int .i64 x, .slice q ls.length c] H (Still (.tuple #[.int .i64 ((wkF n x ls).getD (-1)), .bool (wkF n x ls).isSome]) H):=by
 refine Ao Tryz.func111 U ntmps111 U ?_;have hfl:=hok.fewL;refine rD tb 2 U (e_ (Lf U cs_) ?_ U);rintro _ _ ⟨n3,rfl,rfl⟩;refine rO tb 13 U ?_;refine Bd (X:=Nat × Int) (V:=fun ⟨i,y⟩=>[(12, .int .i64 (i:Nat)),(1, .int .i64 y)]) (C:=[(3,_),(10,_),(11,_)]) (φ:=fun ⟨i,y⟩=>i≤ls.length∧wkF n x (ls.take i)=some y) (μ:=fun ⟨i,y⟩=>ls.length - i) (x0:=(0,x)) ?_ ⟨Aa rfl,Aa rfl,Aa rfl,trivial⟩ ⟨qat,qat,trivial⟩ ?_
 ·exact⟨Nat.zero_le _,rfl⟩
 rintro⟨i,y⟩ ⟨hi,hw⟩;refine rD tb 6 U ?_;refine Ad (Aa U) (fun c13=> ?_) (fun c13=> ?_)
 ·have hwt:=wkF_take n x (ls:=ls) (i:=i) qom;rw[hw] at hwt;simp only[Option.bind_some] at hwt;refine rC tb 6 U (y_ (Ld U U runUnderlying27 sizeOf3 qom (by first|exact rfl|exact hA.b (i:=i) qom)) ?_ U);refine y_ (Lb U isAgg3 (by first|exact c_o|exact cell1 ((hA.mono sbt).cs (i:=i) qom))) ?_ U;refine rO tb 8 U (y_ (Lb U isAgg23 qco) ?_ U);refine rO tb 1 U (y_ (Hz (T U) Ap qom) ?_ U);refine y_ (Ay (.cons (T U) (.cons Ap (.cons (T U) .nil))) call153 (fun H' hs=>within_s _ _ _)) ?_ U
  first|refine A5 (A9 (T U)) U Ac ?_|refine A5 (B0 (T U)) U Ac ?_
  refine rO tb 1 U ?_
  first|refine A4 (s:=23) (Aa U) (fun c23=> ?_) (fun c23=> ?_)|refine Ej (s:=23) (Aa U) (fun c23=> ?_) (fun c23=> ?_)
  ·have hno2:wkF n x ls=none:=wkF_none n x (i:=i+1) (by rw[hwt,if_neg (by intro h;simp at c23;omega)]);refine rO tb 22 U (As (rX tb 2 U (Ah U (.tmp (Aa U) (K9 U)) ?_)));rw[hno2];exact⟨_,⟨rfl,rfl⟩,sbt⟩
  ·have hin:0≤gd ls i∧gd ls i<n.links.length:=by simp at c23;omega
   refine rO tb 1 U (A5 (Lb U isAgg23 qco) U (Az U U (Aa U)) ?_);refine rO tb 1 U (A5 (Bi (T U) (T U) runUnderlying23 sizeOf61 qom (by first|exact rfl|exact hA.b (i:=i) qom|exact hn.links.b (i:=(gd ls i).toNat) qom)) U (Az U U (Aa U)) ?_);refine rO tb 1 U (A5 (Lb U isAgg3 (by first|exact c_o|exact(hn.links.mono sbt).f0 (i:=(gd ls i).toNat) qom U)) U (Az U U (Aa U)) ?_);refine rO tb 5 U ?_;refine Ad (Aa U) (fun c32=> ?_) (fun c32=> ?_)
   ·have hno2:wkF n x ls=none:=wkF_none n x (i:=i+1) (by rw[hwt,if_neg (by intro h;omega)]);refine rC tb 10 U (As (rX tb 2 U (Ah U (.tmp (Aa U) (K9 U)) ?_)));rw[hno2];exact⟨_,⟨rfl,rfl⟩,sbt⟩
   ·have hyes:wkF n x (ls.take (i+1))=some ((gd n.links (gd ls i).toNat).dst:Int):=by rw[hwt,if_pos qom]
    refine rC tb 4 U (y_ (Lb U isAgg23 qco) ?_ U);refine rO tb 1 U (y_ (Bi (T U) (T U) runUnderlying23 sizeOf61 qom (by first|exact rfl|exact hA.b (i:=i) qom|exact hn.links.b (i:=(gd ls i).toNat) qom)) ?_ U);refine rO tb 1 U (y_ (Lb U isAgg3 (by first|exact c_o|exact(hn.links.mono sbt).f (i:=(gd ls i).toNat) qom U)) ?_ U);refine kO tb 4 [1,3,10,11,12] rfl U (rG tb 1 U (y_ (Av (T U) Ap qom) ?_ U));refine rO tb 2 U ?_;refine Ar ((i+1,((gd n.links (gd ls i).toNat).dst:Int))) ?_ ?_ ⟨qat,qat,trivial⟩ ⟨Aa U,Aa U,Aa U,trivial⟩ ?_
    ·exact⟨by omega,hyes⟩
    ·first|omega|(simp only[];omega)
    ·exact sbt
 ·refine rC tb 2 U (Ag (rX tb 10 U (Ah U (.tmp (Aa U) (K9 U)) ?_)));have hi2:i=ls.length:=by omega
  rw[hi2,List.take_length] at hw;rw[hw];exact⟨_,⟨rfl,rfl⟩,sbt⟩
theorem holds_s {w0:World}{H:List (Nat × Obj)}(n:Nn)(hn:NetR w0 H n)(hok:NnOk n)(f:Flr)(hf:Arr w0 H f.q 1 encI f.links)(hfl:f.links.length≤4611686018427387903)(m:Rxm)(e:Re)(hI:Is m e)(hM:RxM w0 H m)(hl:e.lv≤64)(x to:Nat)(hx:x<n.nodes.length)(ls:List Int)(q:Option Addr)(c:Nat)(hA:Arr w0 H q 1 encI ls)(hlen:ls.length≤1000000):
  FSpec Tryz.prog w0 57 #[.agg (encNn n).toArray, .agg (encFl f).toArray, .agg (encRx m).toArray, .int .i64 (x:Int), .int .i64 (to:Int), .slice q ls.length c] H (Still (.bool (holdsF n f e x to ls)) H):=by
 refine Ao Tryz.func57 U ntmps57 U (rD tb 2 U (e_ (Lf U cs_) ?_ U));rintro _ _ ⟨n6,rfl,rfl⟩;refine e_ (Lf U cs_) ?_ U;rintro _ _ ⟨n7,rfl,rfl⟩;refine e_ (Lf U cs_) ?_ U;rintro _ _ ⟨n8,rfl,rfl⟩;refine rO tb 6 U (y_ (Lc U isAgg26 sizeOf26 U qcs) ?_ U);refine rO tb 2 U (y_ (Ay (qe3 U U U) call111 (fun H' hs=>gwalk_s n (hn.mono (stn hs)) hok (x:Int) ls q c (hA.mono (stn hs)) qom)) ?_ U);refine rO tb 10 U ?_
 first|refine A5 (A9 (T U)) U Ac ?_|refine A5 (B0 (T U)) U Ac ?_
 refine rO tb 1 U ?_
 first|refine A4 (s:=27) (Aa U) (fun c27=> ?_) (fun c27=> ?_)|refine Ej (s:=27) (Aa U) (fun c27=> ?_) (fun c27=> ?_)
 ·have hwn: ¬ wkF n (x:Int) ls=some (to:Int):=fun h=>by rw[h] at c27;simp at c27
  refine rO tb 20 U (Ah U (K9 U) ?_);have hh:holdsF n f e x to ls=false:=by unfold holdsF;rw[decide_eq_false hwn];rfl
  rw[hh];exact⟨_,⟨rfl,rfl⟩,sbt⟩
 ·obtain⟨y,hy⟩:∃ y,wkF n (x:Int) ls=some y:=by
   cases h:wkF n (x:Int) ls with
   |none=>rw[h] at c27;simp at c27
   |some y=>exact⟨y,rfl⟩
  have hval:=Fy hy;refine rO tb 5 U ?_;refine A4 (s:=32) (Aa U) (fun c32=> ?_) (fun c32=> ?_)
  ·have hwn: ¬ wkF n (x:Int) ls=some (to:Int):=fun h=>by rw[h] at c32;simp at c32
   refine rO tb 15 U (Ah U (K9 U) ?_);have hh:holdsF n f e x to ls=false:=by unfold holdsF;rw[decide_eq_false hwn];rfl
   rw[hh];exact⟨_,⟨rfl,rfl⟩,sbt⟩
  ·have hyt:wkF n (x:Int) ls=some (to:Int):=by
    rw[hy] at c32 ⊢;simp at c32;rw[c32]
   refine rO tb 1 U (A5 (Lb U isAgg3 qco) U (Az U U (Aa U)) ?_);refine rO tb 5 U ?_;refine Ad (Aa U) (fun c37=> ?_) (fun c37=> ?_)
   ·have hcon:=0;refine rC tb 7 U (Ah U (K9 U) ?_);have hh:holdsF n f e x to ls=false:=by unfold holdsF;rw[decide_eq_true hyt,decide_eq_false (fun h=>h c37)];rfl
    rw[hh];exact⟨_,⟨rfl,rfl⟩,sbt⟩
   ·have hcon:=0;refine rC tb 5 U (y_ (Lb U isAgg22 qco) ?_ U);refine rO tb 1 U (y_ (Ld U U runUnderlying22 sizeOf85 qom (by first|exact rfl|exact hn.nodes.b (i:=x) hx)) ?_ U);refine rO tb 1 U (y_ (Lb U isAgg9 (by first|exact c_o|exact(hn.nodes.mono sbt).f0 (i:=x) hx U)) ?_ U);refine e_ (Aj (.cons (T U) .nil) (Cc _)) ?_ U;rintro _ _ ⟨n44,rfl,rfl⟩;refine kO tb 3 [5,6,7,8,15] rfl U (rG tb 9 U ?_);refine Ba (X:=Nat × Sl) (V:=fun ⟨i,d⟩=>[(47, .int .i64 (i:Nat)),(15,slV d (namesF n x (ls.take i)).length)]) (C:=[(6,_),(7,_),(8,_),(45,_),(46,_)]) (G:=fun ⟨i,d⟩=>slH d ((namesF n x (ls.take i)).flatMap encS) 9++((n8,Cl (encRx m) 56)::(n7,Cl (encFl f) 29)::(n6,Cl (encNn n) 26)::H)) (φ:=fun ⟨i,d⟩=>i≤ls.length∧SlOk d (namesF n x (ls.take i)).length 1∧upAll n f (ls.take i)=true) (μ:=fun ⟨i,d⟩=>ls.length - i) (x0:=(0, .blk n44 1 [])) ?_ ⟨Aa rfl,Aa rfl,Aa rfl,Aa rfl,Aa rfl,trivial⟩ ⟨qat,qat,trivial⟩ sb0 ?_
    ·exact⟨Nat.zero_le _,⟨Nat.le_refl _,rfl⟩,rfl⟩
    rintro⟨i,d⟩ ⟨hi,hd,hu⟩;refine rD tb 6 U ?_;refine Ad (Aa U) (fun c48=> ?_) (fun c48=> ?_)
    ·have hv:=hval i qom;obtain⟨ki,hki⟩:∃ ki:Nat,gd ls i=(ki:Int):=⟨(gd ls i).toNat,by omega⟩;have hkt:(gd ls i).toNat=ki:=by omega
     have hkl:ki<n.links.length:=by omega
     have hdd:=(hok.ends _ (Af hkl)).2;have hut:=upAll_take (n:=n) (f:=f) (ls:=ls) (i:=i) qom;have hnt:=namesF_take (n:=n) (x:=x) (ls:=ls) (i:=i) qom;rw[hkt] at hut hnt;refine rC tb 6 U (y_ (Ld U U runUnderlying27 sizeOf3 qom (by first|exact rfl|exact hn.nodes.b (i:=x) hx|exact hA.b (i:=i) qom)) ?_ U);refine y_ (Lb U isAgg3 (by first|exact c_o|exact Kr (vint hki) (cell1 ((hA.mono sbt).cs (i:=i) qom)))) ?_ U;refine rO tb 6 U (y_ (Lc U isAgg26 sizeOf26 U qcs) ?_ U);refine y_ (Lc U isAgg29 sizeOf29 U qcs) ?_ U;refine rO tb 1 U (y_ (Ay (qe3 U U U) call71 (fun H' hs=>K4 n (hn.mono (stn hs)) f (hf.mono (stn hs)) hfl ki qom)) ?_ U)
     first|refine A5 (A9 (T U)) U Ac ?_|refine A5 (B0 (T U)) U Ac ?_
     refine rO tb 2 U ?_
     first|refine Ad (Aa U) (fun c55=> ?_) (fun c55=> ?_)|refine Bq (Aa U) (fun c55=> ?_) (fun c55=> ?_)
     ·have hun:upAll n f ls=false:=upAll_no (i:=i) qom (by rw[hkt];simpa using c55);refine rC tb 9 U (As (rX tb 2 U (Ah U (K9 U) ?_)));have hh:holdsF n f e x to ls=false:=by unfold holdsF;rw[hun];simp
      rw[hh];exact⟨_,⟨rfl,rfl⟩,sbt⟩
     ·have huy:upAll n f (ls.take (i+1))=true:=by rw[hut,hu];simpa using c55
      refine rC tb 2 U (Bh 13 [(0,true),(1,true),(2,true),(3,true),(4,true),(5,true),(6,true),(7,true),(8,true),(9,true),(10,true),(11,true),(12,false)] _ mixd qkr sb0 ?_ A8);refine rP tb 2 U (o_y U (Lb U isAgg22 qco) ?_ U Ac);refine rP tb 1 U (o_y U (Lb U isAgg23 qco) ?_ U Ac);refine rP tb 1 U (o_y U (Ld U U runUnderlying23 sizeOf61 qom (by first|exact rfl|exact hn.nodes.b (i:=x) hx|exact hA.b (i:=i) qom|exact hn.links.b (i:=ki) qom)) ?_ U Ac);refine rP tb 1 U (o_y U (Lb U isAgg3 (by first|exact c_o|exact(hn.links.mono sbt).f (i:=ki) qom U)) ?_ U Ac);refine o_y U (Ld U U runUnderlying22 sizeOf85 qom (by first|exact rfl|exact hn.nodes.b (i:=x) hx)) ?_ U Ac;refine rP tb 1 U (o_y U (Lb U isAgg9 (by first|exact c_o|exact(hn.nodes.mono sbt).f0 (i:=(gd n.links ki).dst) hdd U)) ?_ U Ac);refine o_e U (Aj (.cons (T U) .nil) (Cc _)) ?_ U Ac;rintro _ _ ⟨n68,rfl,rfl⟩;refine⟨sbt,(A7 U (e_ (Bc (nmF n (gd n.links ki).dst) (by':=16) qlc (T U) (T U) runUnderlying64 runUnderlying64 sizeOf9 typeInfo9 U zeroValue9 U (fun _=>rfl) U hd qde (by rw[Gg,List.length_take];omega)) ?_ U))⟩;rintro _ _ ⟨d',rfl,hokd,rfl⟩;refine kO tb 4 [6,7,8,15,45,46,47] rfl U (rG tb 1 U (y_ (Av (T U) Ap qom) ?_ U));refine rO tb 2 U ?_;refine Ar ((i+1,d')) ?_ ?_ ⟨qat,(by first|exact Aa U|(refine Be (Aa U) (vint ?_);omega)|(refine Be (Aa U) ?_;simp;done)|(refine Be (Aa U) ?_;exact by simp only[hnt,List.length_append,List.length_cons,List.length_nil])),trivial⟩ ⟨Aa U,Aa U,Aa U,Aa U,Aa U,trivial⟩ ?_
      ·exact⟨by omega,by rw[hnt,List.length_append];exact hokd,huy⟩
      ·first|omega|(simp only[];omega)
      ·simp only[hnt];exact sbt
    ·have hi2:i=ls.length:=by omega
     rw[hi2,List.take_length] at hu;have hd2:=hd;rw[hi2,List.take_length] at hd2;simp only[hi2,List.take_length];refine rC tb 2 U (Ag (rX tb 4 U (y_ (Lc U isAgg56 sizeOf56 U qcs) ?_ U)));refine rO tb 1 rfl (y_ (Ay (qe2 rfl rfl) call112 (fun H' hs=>match_s m e _ _ (namesF n x ls) hI (hM.mono (stn hs)) hl ((A1 (X:=H) (enc:=encS) (sz:=1) (e:=9) (fun _=>rfl) hd2).mono (stn hs)) (by rw[Gg];omega))) ?_ rfl);refine rO tb 4 U (Ah U (K9 U) ?_);have hh:holdsF n f e x to ls=matchF e (namesF n x ls):=by unfold holdsF;rw[decide_eq_true hyt,decide_eq_true c37,hu];rfl
     rw[hh];exact⟨_,⟨rfl,rfl⟩,sbt⟩
def toN (p:Int × Int):Pl:=(p.1.toNat,p.2.toNat)
def PlIn (n:Nn) (m:PM) (to:Nat) (l:List (Int × Int)) (k:Nat):Prop:=(0≤(gd l k).1∧(gd l k).1<n.nodes.length)∧(0≤(gd l k).2∧(gd l k).2<m.next.length)∧(0<k→cmpPl (gd l (k - 1)) (gd l k)<0)∧¬ ((gd l k).1=to∧gd m.acc (gd l k).2.toNat=true)
instance plInDec (n:Nn) (m:PM) (to:Nat) (l:List (Int × Int)) (k:Nat):Decidable (PlIn n m to l k):=by unfold PlIn;infer_instance
def RefOk (n:Nn) (f:Flr) (m:PM) (x to:Nat) (l:List (Int × Int)):Prop:=(∀ k,k<l.length→PlIn n m to l k)∧(¬ f.node=x→toI (p0F n m x)∈l)∧(∀ k,k<l.length→∀ y∈movesF n f m (toN (gd l k)),toI y.1∈l)
instance refOkDec (n:Nn) (f:Flr) (m:PM) (x to:Nat) (l:List (Int × Int)):Decidable (RefOk n f m x to l):=by unfold RefOk;infer_instance
theorem Jc {a b:List UInt8}(h:a≤b):a<b∨a=b:=by
 by_cases e:a=b
 ·exact .inr e
 ·exact .inl (Std.lt_of_le_of_ne h e)
theorem ltU_of_le_lt {a b c:List UInt8}(h1:a≤b)(h2:b<c):a<c:=by
 rcases Jc h1 with h|rfl
 ·exact Fw h h2
 ·exact h2
theorem compact_incrU (l:List (List UInt8))(h:l.Pairwise (·≤·)):(Lib.compact l).Pairwise (· < ·)∧∀ x,x∈Lib.compact l↔x∈l:=by
 have mono:∀ (i j:Nat) (hij:i<j) (hj:j<l.length),l[i]'qom≤l[j]:=fun i j hij hj=>List.pairwise_iff_getElem.1 h i j qom hj hij
 unfold Lib.compact Lib.compactUpTo;refine⟨?_,fun x=> ?_⟩
 ·rw[List.pairwise_map];have hr:(List.range l.length).Pairwise (· < ·):=List.pairwise_lt_range;refine(hr.filter _).imp_of_mem ?_;intro a b ha hb hab;simp only[List.mem_filter,List.mem_range] at ha hb;have hk:=hb.2;unfold Lib.keeps at hk;simp only[decide_eq_true_eq] at hk;have hb1:=hb.1;have e1:l.toArray[a]! =l[a]'qom:=by simp[show a<l.length by omega]
  have e2:l.toArray[b]! =l[b]:=by simp[hb1]
  have e3:l.toArray[b - 1]! =l[b - 1]'qom:=by simp[show b - 1<l.length by omega]
  rw[e1,e2];rcases hk with hk|hk
  ·omega
  ·rw[e2,e3] at hk;have h1:=mono (b - 1) b qom hb1;have h3:l[b - 1]'qom<l[b]:=by
    rcases Jc h1 with h|h
    ·exact h
    ·exact absurd h.symm hk
   by_cases hab':a=b - 1
   ·subst hab';exact h3
   ·exact ltU_of_le_lt (mono a (b - 1) qom qom) h3
 ·simp only[List.mem_map,List.mem_filter,List.mem_range]
  constructor
  ·rintro⟨i,⟨hi,_⟩,rfl⟩;rw[show l.toArray[i]! =l[i] by simp[hi]];exact List.getElem_mem _
  ·intro hx;obtain⟨i,hi,hxi⟩:=List.getElem_of_mem hx;have key:∀ (i:Nat) (hi:i<l.length),l[i]=x→∃ a,(a<l.length∧Lib.keeps l.toArray a=true)∧l.toArray[a]! =x:=by
    intro i
    induction i with
    |zero=>intro hi hxi;exact⟨0,⟨hi,by simp[Lib.keeps]⟩,by simp[hi,hxi]⟩
    |succ i ih=>
     intro hi hxi
     by_cases hs:l[i]'qom=x
     ·exact ih qom hs
     ·refine⟨i+1,⟨hi,?_⟩,by simp[hi,hxi]⟩;unfold Lib.keeps;simp[hi,show i<l.length by omega];intro h;exact hs (by rw[← h,hxi])
   exact key i hi hxi
theorem leU_trans {a b c:List UInt8}(h1:a≤b)(h2:b≤c):a≤c:=List.le_trans h1 h2
theorem leU_total (a b:List UInt8):a≤b∨b≤a:=List.le_total a b
theorem Eg (l:List ByteArray):Srt (cptB (srtB l))∧∀ x,x∈cptB (srtB l)↔x∈l:=by
 have hp:(srtU (l.map toL)).Pairwise (·≤·):=by
  have:=List.pairwise_mergeSort (le:=fun x y:List UInt8=>decide (x≤y)) (by intro a b c;simp only[decide_eq_true_eq];exact leU_trans) (by intro a b;simp only[Bool.or_eq_true,decide_eq_true_eq];exact leU_total a b) (l.map toL);exact this.imp fun h=>by simpa using h
 obtain⟨h1,h2⟩:=compact_incrU _ hp;have e:cptB (srtB l)=(Lib.compact (srtU (l.map toL))).map ofL:=by
  unfold cptB srtB;rw[map_to_of]
 rw[e];refine⟨?_,fun x=> ?_⟩
 ·unfold Srt;rw[List.pairwise_map];exact h1
 ·rw[List.mem_map]
  constructor
  ·rintro⟨u,hu,rfl⟩;rw[h2,List.mem_mergeSort,List.mem_map] at hu;obtain⟨y,hy,rfl⟩:=hu;exact hy
  ·intro hx;exact⟨toL x,(h2 _).2 (List.mem_mergeSort.2 (List.mem_map_of_mem hx)),rfl⟩
def Re.nms:Re→List ByteArray
 | .emp=>[]
 | .nod s=>[s]
 | .any=>[]
 | .seq a b=>a.nms++b.nms
 | .alt a b=>a.nms++b.nms
 | .star a=>a.nms
theorem Iq:∀ e:Re,Srt (letF e)
 | .emp=>(Eg _).1
 | .nod _=>(Eg _).1
 | .any=>(Eg _).1
 | .seq _ _=>(Eg _).1
 | .alt _ _=>(Eg _).1
 | .star _=>(Eg _).1
theorem D9 (x:ByteArray):∀ e:Re,x∈letF e↔x∈e.nms
 | .emp=>(Eg _).2 x
 | .nod _=>(Eg _).2 x
 | .any=>(Eg _).2 x
 | .seq a b=>by rw[show letF (.seq a b)=cptB (srtB (letF a++letF b)) from rfl,(Eg _).2 x,List.mem_append,D9 x a,D9 x b];simp[Re.nms]
 | .alt a b=>by rw[show letF (.alt a b)=cptB (srtB (letF a++letF b)) from rfl,(Eg _).2 x,List.mem_append,D9 x a,D9 x b];simp[Re.nms]
 | .star a=>by rw[show letF (.star a)=cptB (srtB (letF a)) from rfl,(Eg _).2 x,D9 x a];rfl
structure NumInv (m:PM) (b order:List Nat) (k:Nat) (rows:List (List Nat)) (acc:List Bool):Prop where
 ord:OrdOk m b order
 kl:k≤order.length
 rl:rows.length=k
 al:acc.length=k
 row:∀ r∈rows,r.length=m.names.length+1∧∀ s∈r,s<order.length
theorem numK_lt (b tos order:List Nat):∀ i,(∀ s∈(numK b tos order i).2,s<(numK b tos order i).1.length)∧order.length≤(numK b tos order i).1.length
 |0=>⟨(fun s hs=>by cases hs),Nat.le_refl _⟩
 |i+1=>by
  obtain⟨h1,h2⟩:=numK_lt b tos order i;have hm:=Cx (numK_mem b tos order i);rw[numK_idx,List.length_map] at hm;have hle:(numK b tos order i).1.length≤(numK b tos order (i+1)).1.length:=by
   rw[Bz];simp only[];split<;>simp
  refine⟨fun s hs=> ?_,by omega⟩;rw[show (numK b tos order (i+1)).2=(numK b tos order i).2++[idx ((numK b tos order i).1.map (gd b)) (gd b (gd tos i))] from rfl] at hs;simp only[List.mem_append,List.mem_cons,List.not_mem_nil,or_false] at hs;rcases hs with hs|rfl
  ·have:=h1 s hs;omega
  ·exact hm
theorem numGo_ok {m:PM}(hp:PMok m){b:List Nat}:∀ (f k:Nat) (order:List Nat) (rows:List (List Nat)) (acc:List Bool),NumInv m b order k rows acc→0<order.length→200<f+k→
  0<(numGo m b f k order rows acc).1.length∧(numGo m b f k order rows acc).1.length≤m.next.length∧(numGo m b f k order rows acc).2.length=(numGo m b f k order rows acc).1.length∧∀ r∈(numGo m b f k order rows acc).1,r.length=m.names.length+1∧∀ s∈r,s<(numGo m b f k order rows acc).1.length
 |0,k,order,rows,acc,h,_,hf=>by
  have h1:=h.ord.few;have h2:=hp.few;have:=h.kl;omega
 |f+1,k,order,rows,acc,h,h0,hf=>by
  rw[Cz]
  split
  ·rename_i hk;have hok:=h.ord.lt (gd order k) (Af hk);obtain⟨hr1,hr2⟩:=hp.row (gd m.next (gd order k)) (Af hok);obtain⟨g1,g2,g3⟩:=h.ord.step hr2 (gd m.next (gd order k)).length (Nat.le_refl _);obtain⟨e1,e2⟩:=numK_lt b (gd m.next (gd order k)) order (gd m.next (gd order k)).length;refine numGo_ok hp f (k+1) _ _ _ ⟨g1,by omega,by simp[h.rl],by simp[h.al],fun r hr=> ?_⟩ qom qom;simp only[List.mem_append,List.mem_cons,List.not_mem_nil,or_false] at hr;rcases hr with hr|rfl
   ·exact⟨(h.row r hr).1,fun s hs=>Nat.lt_of_lt_of_le ((h.row r hr).2 s hs) e2⟩
   ·exact⟨by rw[g2,hr1],e1⟩
  ·rename_i hk;have hkk:k=order.length:=by have:=h.kl;omega
   have h1:=h.ord.few;have h2:=h.rl;have h3:=h.al;refine⟨by simp only[];omega,by simp only[];omega,by simp only[];omega,fun r hr=> ?_⟩;simp only[] at hr ⊢;exact⟨(h.row r hr).1,fun s hs=>by have:=(h.row r hr).2 s hs;omega⟩
theorem numF_ok {m:PM}(hp:PMok m)(b:List Nat):PMok (numF m b):=by
 have h0:NumInv m b [0] 0 [] []:=⟨⟨by simp,fun s hs=>by
  simp only[List.mem_cons,List.not_mem_nil,or_false] at hs;subst hs;exact hp.some'⟩,Nat.zero_le _,rfl,rfl,fun r hr=>by cases hr⟩
 obtain⟨h1,h2,h3,h4⟩:=numGo_ok hp 201 0 [0] [] [] h0 qde qom;exact⟨h1,Nat.le_trans h2 hp.few,h3,h4⟩
theorem leastF_ok {m:PM}(hp:PMok m):PMok (leastF m):=numF_ok hp _
theorem rawGo_ok {t:Tr}{e:En}{names:List ByteArray}(ht:TrOk t)(hw:Low t)(he:e.first<2 ^ t.names.length):∀ (f k:Nat) (l:List St) (rows:List (List Nat)) (acc:List Bool) (r:List (List Nat) × List Bool),RawInv t e names k l rows acc→rawGo t e names f k l rows acc=some r→PMok ⟨names,r.1,r.2⟩
 |0,_,_,_,_,_,_,h=>by cases h
 |f+1,k,l,rows,acc,r,hi,h=>by
  rw[Cy] at h
  split at h
  ·rename_i hk
   split at h
   ·cases h
   ·rename_i hf;exact rawGo_ok ht hw he f (k+1) _ _ _ r (hi.next ht hw he hk hf) h
  ·rename_i hk;cases h;exact hi.done hk
theorem rawF_ok {e:Re}(hl:e.lv≤64){r:List (List Nat) × List Bool}(h:rawF e=some r):PMok ⟨letF e,r.1,r.2⟩:=by
 obtain⟨hx1,hx2,hx3,hx4⟩:=B3 e C9 (by show 0+e.lv≤64;omega);have hxw:=Dr e C9 (by show 0+e.lv≤64;omega) Hh;rw[← hx2] at hx3;exact rawGo_ok hx1 hxw hx3 201 0 _ _ _ r (raw_start _ _ _) h
theorem build_ok {e:Re}(hl:e.lv≤64)(h:(buildF leastF e).2=0):PMok (buildF leastF e).1∧Srt (buildF leastF e).1.names:=by
 unfold buildF at *;cases hr:rawF e with
 |none=>rw[hr] at h;cases h
 |some r=>
  simp only[];have:=leastF_ok (rawF_ok hl hr);exact⟨⟨this.some',this.few,this.acc,this.row⟩,Iq e⟩
theorem build_names {e:Re}(h:(buildF leastF e).2=0):(buildF leastF e).1.names=letF e:=by
 unfold buildF at *;cases hr:rawF e with
 |none=>rw[hr] at h;cases h
 |some r=>rfl
theorem arrRx2 {w0:World}{H:List (Nat × Obj)}{n:Nat}{a b:Rxm}{t:TypeId}(hf:Fnd H n (Cl (encRx a++encRx b) t)):Arr w0 H (some ⟨n,0,none⟩) 3 encRx [a,b]:=fun i x hi=>by
 refine⟨rfl,fun j v hj=> ?_⟩
 match i,hi with
 |0,hi=>
  have:a=x:=by simpa using hi
  subst this;refine Bo hf ?_;rw[List.getElem?_append_left (by have:=(List.getElem?_eq_some_iff.1 hj).1;show 0+0*3+j<_;omega)];show (encRx a)[0+0*3+j]? =some v;rw[show (0:Nat)+0*3+j=j by omega];exact hj
 |1,hi=>
  have:b=x:=by simpa using hi
  subst this;refine Bo hf ?_;have e:(encRx a).length=3:=rfl;show (encRx a++encRx b)[0+1*3+j]? =some v;rw[List.getElem?_append_right qom,e,show 0+1*3+j - 3=j by omega];exact hj
structure RowI where
 q:Option Addr
 c:Nat
 l:List Int
instance:Inhabited RowI:=⟨⟨none,0,[]⟩⟩
abbrev encRI (r:RowI):List Value:=[.slice r.q r.l.length r.c]
def insS (s:ByteArray):List ByteArray→List ByteArray
 |[]=>[s]
 |x::l=>if toL s<toL x then s::x::l else if toL s=toL x then x::l else x::insS s l
def csC (l:List ByteArray):List ByteArray:=l.foldr insS []
theorem Dc {a b:ByteArray}(h:toL a=toL b):a=b:=by
 have:ofL (toL a)=ofL (toL b):=by rw[h]
 exact ByteArray.ext (by simpa using this)
theorem insS_mem {s y:ByteArray}:∀ {l:List ByteArray},y∈insS s l↔y=s∨y∈l
 |[]=>by simp[insS]
 |x::l=>by
  unfold insS
  split
  ·simp
  ·split
   ·rename_i h;have:=Dc h;subst this;simp
   ·simp only[List.mem_cons,insS_mem]
    constructor
    ·rintro(h|h|h)<;>simp[h]
    ·rintro(h|h|h)<;>simp[h]
theorem insS_srt {s:ByteArray}:∀ {l:List ByteArray},Srt l→Srt (insS s l)
 |[],_=>List.pairwise_singleton ..
 |x::l,h=>by
  unfold insS;have h':=List.pairwise_cons.1 h
  split
  ·rename_i hlt;exact List.pairwise_cons.2 ⟨fun y hy=>by
    rcases List.mem_cons.1 hy with rfl|hy
    ·exact hlt
    ·exact Fw hlt (h'.1 y hy),h⟩
  ·split
   ·exact h
   ·rename_i h1 h2;refine List.pairwise_cons.2 ⟨fun y hy=> ?_,insS_srt h'.2⟩;rcases insS_mem.1 hy with rfl|hy
    ·rcases leU_total (toL x) (toL y) with h3|h3
     ·exact(Jc h3).resolve_right fun e=>h2 e.symm
     ·exact absurd ((Jc h3).resolve_right h2) h1
    ·exact h'.1 y hy
theorem csC_mem {y:ByteArray}:∀ {l:List ByteArray},y∈csC l↔y∈l
 |[]=>by simp[csC]
 |x::l=>by rw[show csC (x::l)=insS x (csC l) from rfl,insS_mem,csC_mem];simp
theorem csC_srt:∀ {l:List ByteArray},Srt (csC l)
 |[]=> .nil
 |x::l=>insS_srt csC_srt
theorem ltU_ne {a b:List UInt8}(h:a<b): ¬ b<a:=fun h2=>absurd (Fw h h2) (List.lt_irrefl a)
theorem srt_ext:∀ {l l':List ByteArray},Srt l→Srt l'→(∀ x,x∈l↔x∈l')→l=l'
 |[],[],_,_,_=>rfl
 |[],y::l',_,_,h=>absurd ((h y).2 (by simp)) (by simp)
 |x::l,[],_,_,h=>absurd ((h x).1 (by simp)) (by simp)
 |x::l,y::l',h1,h2,h=>by
  have p1:=List.pairwise_cons.1 h1;have p2:=List.pairwise_cons.1 h2;have e:x=y:=by
   rcases List.mem_cons.1 ((h x).1 (by simp)) with e|e
   ·exact e
   ·rcases List.mem_cons.1 ((h y).2 (by simp)) with e2|e2
    ·exact e2.symm
    ·exact absurd (p1.1 y e2) (ltU_ne (p2.1 x e))
  subst e;rw[srt_ext p1.2 p2.2 fun z=> ?_]
  constructor
  ·intro hz;rcases List.mem_cons.1 ((h z).1 (List.mem_cons_of_mem _ hz)) with e|e
   ·subst e;exact absurd (p1.1 z hz) (List.lt_irrefl _)
   ·exact e
  ·intro hz;rcases List.mem_cons.1 ((h z).2 (List.mem_cons_of_mem _ hz)) with e|e
   ·subst e;exact absurd (p2.1 z hz) (List.lt_irrefl _)
   ·exact e
theorem letF_eq (e:Re):letF e=csC e.nms:=srt_ext (Iq e) csC_srt fun x=>by rw[D9,csC_mem]
def rawC (e:Re):Option (List (List Nat) × List Bool):=rawGo (addF e t00).1 (addF e t00).2 (csC e.nms) 201 0 [s00] [] []
theorem rawF_eq (e:Re):rawF e=rawC e:=by unfold rawF rawC;rw[letF_eq]
def buildC (e:Re):PM × Int:=match rawC e with
 |none=>(⟨[],[],[]⟩,2)
 |some r=>(⟨csC e.nms,(leastF ⟨csC e.nms,r.1,r.2⟩).next,(leastF ⟨csC e.nms,r.1,r.2⟩).acc⟩,0)
theorem buildF_eq (e:Re):buildF leastF e=buildC e:=by unfold buildF buildC;rw[rawF_eq,letF_eq];cases rawC e<;>rfl
theorem Jr (a b:ByteArray):(a.toList==b.toList)=decide (a=b):=by
 rw[ByteArray.toList_eq,ByteArray.toList_eq];refine Bool.eq_iff_iff.2 ?_;rw[beq_iff_eq,decide_eq_true_iff];exact⟨fun h=>ByteArray.ext (Array.ext' h),fun h=>by rw[h]⟩
theorem mtch_eq (t:Tr)(s:ByteArray)(n:Nat):mtch t s n=(decide (gd t.names n=s)||decide (gd t.names n=⟨#[]⟩)):=by
 unfold mtch;rw[Jr,Jr]
theorem takL_eq (t:Tr)(names:List ByteArray)(a n:Nat):takL t names a n=(decide (gd t.names n=⟨#[]⟩)||(decide (a<names.length)&&decide (gd t.names n=gd names a))):=by
 unfold takL;rw[Jr,Jr]
 congr 2
 exact decide_eq_decide.2 qom
theorem Dk (t:Tr)(s:ByteArray)(can n:Nat):∀ i,(stepK t s can i).1.testBit n=(decide (n<i)&&(can.testBit n&&mtch t s n))
 |0=>by simp[stepK]
 |i+1=>by
  rw[F9]
  split
  ·rename_i h;rw[Nat.testBit_or,Dk t s can n i,Nat.testBit_two_pow]
   by_cases e:i=n
   ·subst e;simp[h]
   ·have:(n<i+1)=(n<i):=by simp;omega
    simp[e,this]
  ·rename_i h;rw[Dk t s can n i]
   by_cases e:i=n
   ·subst e;simp at h;simp;intro h1;simp[h h1]
   ·have:(n<i+1)=(n<i):=by simp;omega
    simp[this]
theorem Hl (t:Tr)(names:List ByteArray)(can a n:Nat):∀ i,(stepL t names can a i).testBit n=(decide (n<i)&&(can.testBit n&&takL t names a n))
 |0=>by simp[stepL]
 |i+1=>by
  rw[Gb]
  split
  ·rename_i h;rw[Nat.testBit_or,Hl t names can a n i,Nat.testBit_two_pow]
   by_cases e:i=n
   ·subst e;simp[h]
   ·have:(n<i+1)=(n<i):=by simp;omega
    simp[e,this]
  ·rename_i h;rw[Hl t names can a n i]
   by_cases e:i=n
   ·subst e;simp at h;simp;intro h1;simp[h h1]
   ·have:(n<i+1)=(n<i):=by simp;omega
    simp[this]
theorem stepK_snd (t:Tr)(s:ByteArray)(can x:Nat):∀ i,(∀ n,n<i→x.testBit n=(can.testBit n&&mtch t s n))→(stepK t s can i).2=orK t.fol x i
 |0,_=>rfl
 |i+1,h=>by
  rw[F9,Ft,h i qom,← stepK_snd t s can x i fun n hn=>h n qom]
  split<;>rfl
theorem stepK_snd' (t:Tr)(s:ByteArray)(can:Nat):(stepK t s can 256).2=orK t.fol (stepK t s can 256).1 256:=
 stepK_snd t s can _ 256 fun n hn=>by rw[Dk];simp[hn]
theorem lett_mem {names:List ByteArray}(h:Srt names){s:ByteArray}(hs:s∈names):lett names s<names.length∧gd names (lett names s)=s:=by
 obtain⟨i,hi,rfl⟩:=mem_gdS.1 hs;have hl:lbF names (gd names i)=i:=Kp qom (fun j hj=>h.lt hj hi) fun j hj hj2=>by
  rcases Nat.lt_or_ge i j with h1|h1
  ·exact ltU_ne (h.lt h1 hj2)
  ·rw[show j=i by omega];exact List.lt_irrefl _
 unfold lett;rw[hl,if_pos ⟨hi,rfl⟩];exact⟨hi,rfl⟩
theorem lett_no {names:List ByteArray}{s:ByteArray}(hs:s∉names):lett names s=names.length:=by
 unfold lett
 split
 ·rename_i h;exact absurd (Dc h.2 ▸ Af h.1) hs
 ·rfl
def Re.lvs:Re→List ByteArray
 | .emp=>[]
 | .nod s=>[s]
 | .any=>[⟨#[]⟩]
 | .seq a b=>a.lvs++b.lvs
 | .alt a b=>a.lvs++b.lvs
 | .star a=>a.lvs
theorem Dy:∀ (e:Re) (t:Tr),(addF e t).1.names=t.names++e.lvs
 | .emp,t=>by simp[addF,Re.lvs]
 | .nod s,t=>by simp[addF,Re.lvs]
 | .any,t=>by simp[addF,Re.lvs]
 | .alt a b,t=>by simp only[addF,Re.lvs];rw[Dy b,Dy a,List.append_assoc]
 | .seq a b,t=>by simp only[addF,Re.lvs,conn,Fc];rw[Dy b,Dy a,List.append_assoc]
 | .star a,t=>by simp only[addF,Re.lvs,conn,Fc];rw[Dy a]
theorem Hm {x:ByteArray}:∀ {e:Re},x∈e.lvs→x=⟨#[]⟩∨x∈e.nms
 | .emp,h=>by cases h
 | .nod s,h=> .inr h
 | .any,h=> .inl (by simpa[Re.lvs] using h)
 | .seq a b,h=>by
  rcases List.mem_append.1 h with h|h
  ·exact(Hm h).imp id fun h=>List.mem_append_left _ h
  ·exact(Hm h).imp id fun h=>List.mem_append_right _ h
 | .alt a b,h=>by
  rcases List.mem_append.1 h with h|h
  ·exact(Hm h).imp id fun h=>List.mem_append_left _ h
  ·exact(Hm h).imp id fun h=>List.mem_append_right _ h
 | .star a,h=>Hm (e:=a) h
theorem leaf_name (e:Re){n:Nat}(h:n<(addF e t00).1.names.length):gd (addF e t00).1.names n=⟨#[]⟩∨gd (addF e t00).1.names n∈letF e:=by
 have h1:=Af h;rw[Dy] at h1 ⊢;rw[D9];exact Hm (by simpa[t00] using h1)
theorem tak_mtch {t:Tr}{names:List ByteArray}(hs:Srt names){n:Nat}(hn:gd t.names n=⟨#[]⟩∨gd t.names n∈names)(s:ByteArray):takL t names (lett names s) n=mtch t s n:=by
 rw[takL_eq,mtch_eq,Bool.or_comm]
 by_cases he:gd t.names n=⟨#[]⟩
 ·simp[he]
 ·have hm:=hn.resolve_left he;simp only[he,decide_false,Bool.or_false]
  by_cases hq:s∈names
  ·obtain⟨h1,h2⟩:=lett_mem hs hq;simp[h1,h2]
  ·rw[lett_no hq];have: ¬ gd t.names n=s:=fun h=>hq (h ▸ hm)
   simp[this]
theorem step_eq {t:Tr}{names:List ByteArray}(hs:Srt names){can:Nat}(hn:∀ n,can.testBit n=true→gd t.names n=⟨#[]⟩∨gd t.names n∈names)(s:ByteArray):(stepK t s can 256).1=stepL t names can (lett names s) 256:=by
 refine Nat.eq_of_testBit_eq fun n=> ?_
 rw[Dk,Hl];cases hc:can.testBit n with
 |false=>simp
 |true=>rw[tak_mtch hs (hn n hc)]
def stF (t:Tr) (e:En) (names:List ByteArray) (s:St) (x:ByteArray):St:=(stepL t names (canAt t e s) (lett names x) 256,true)
theorem stF_run (e:Re)(hl:e.lv≤64):∀ (l:List ByteArray) (st:St) (r:Nat × Nat),r.1=st.1→r.2=canAt (addF e t00).1 (addF e t00).2 st→st.1<2 ^ (addF e t00).1.names.length→
  (runF (addF e t00).1 r l).1=(l.foldl (stF (addF e t00).1 (addF e t00).2 (letF e)) st).1
 |[],st,r,h1,h2,h3=>h1
 |x::l,st,r,h1,h2,h3=>by
  obtain⟨hok,hlen,hf1,hf2⟩:=B3 e C9 (by simpa[t00] using hl);have hlow:=Dr e C9 (by simpa[t00] using hl) Hh;have hf:(addF e t00).2.first<2 ^ (addF e t00).1.names.length:=by rw[hlen];exact hf1
  have hc:canAt (addF e t00).1 (addF e t00).2 st<2 ^ (addF e t00).1.names.length:=canAt_lt hok hlow hf h3;have hst:=step_eq (t:=(addF e t00).1) (Iq e) (can:=canAt (addF e t00).1 (addF e t00).2 st) (fun n hn=>leaf_name e (Ga hc hn)) x;refine stF_run e hl l _ (stepK (addF e t00).1 x r.2 256) ?_ ?_ ?_
  ·rw[h2,hst];rfl
  ·rw[stepK_snd',h2,hst];rfl
  ·exact Gz hc 256
structure RawSem (t:Tr) (e:En) (names:List ByteArray) (k:Nat) (l:List St) (rows:List (List Nat)) (acc:List Bool):Prop where
 nd:l.Nodup
 fst:gd l 0=s00∧0<l.length
 kl:k≤l.length
 rl:rows.length=k
 al:acc.length=k
 row:∀ i,i<k→∀ a,a<names.length+1→gd (gd rows i) a<l.length∧gd l (gd (gd rows i) a)=(stepL t names (canAt t e (gd l i)) a 256,true)
 acc:∀ i,i<k→gd acc i=accAt e i (gd l i)
theorem addSt_ext (l:List St)(s:St):∃ x,addSt l s=l++x:=by
 unfold addSt;split
 ·exact⟨[],by simp⟩
 ·exact⟨_,rfl⟩
theorem addSt_nd {l:List St}(h:l.Nodup)(s:St):(addSt l s).Nodup:=by
 unfold addSt;split
 ·exact h
 ·rename_i hs;exact List.nodup_append.2 ⟨h,by simp,fun a ha b hb=>by simp at hb;subst hb;rintro rfl;exact hs ha⟩
theorem Ep {α:Type}[DecidableEq α] [Inhabited α] {l:List α}{x:α}(h:x∈l):gd l (idx l x)=x:=by
 rw[An (Cx h)];exact List.getElem_idxOf (Cx h)
theorem addSt_idx (l:List St)(s:St):idx l s<(addSt l s).length∧gd (addSt l s) (idx l s)=s:=by
 unfold addSt
 by_cases h:s∈l
 ·rw[if_pos h];exact⟨Cx h,Ep h⟩
 ·rw[if_neg h,Eo h];exact⟨by simp,Co⟩
theorem rowF_sem (t:Tr)(names:List ByteArray)(can:Nat){l:List St}(hl:l.Nodup):∀ a,(rowF t names can l a).1.Nodup∧(∃ x,(rowF t names can l a).1=l++x)∧(rowF t names can l a).2.length=a∧∀ j,j<a→gd (rowF t names can l a).2 j<(rowF t names can l a).1.length∧gd (rowF t names can l a).1 (gd (rowF t names can l a).2 j)=(stepL t names can j 256,true)
 |0=>⟨hl,⟨[],by simp[rowF]⟩,rfl,fun j hj=>by omega⟩
 |a+1=>by
  obtain⟨h1,⟨x,h2⟩,h3,h4⟩:=rowF_sem t names can hl a;rw[Ct];obtain⟨y,hy⟩:=addSt_ext (rowF t names can l a).1 (stepL t names can a 256,true);refine⟨addSt_nd h1 _,⟨x++y,by simp only[];rw[hy,h2,List.append_assoc]⟩,by simp[h3],fun j hj=> ?_⟩;simp only[]
  by_cases e:j=a
  ·subst e;rw[show gd ((rowF t names can l j).2++[idx (rowF t names can l j).1 (stepL t names can j 256,true)]) j=idx (rowF t names can l j).1 (stepL t names can j 256,true) by
    have:=Co (l:=(rowF t names can l j).2) (x:=idx (rowF t names can l j).1 (stepL t names can j 256,true))
    rwa [h3] at this]
   exact addSt_idx _ _
  ·have hj':j<a:=by omega
   obtain⟨h5,h6⟩:=h4 j hj';rw[Bt (by rw[h3];exact hj')];rw[hy,Bt h5];exact⟨by simp;omega,h6⟩
theorem RawSem.next {t:Tr}{e:En}{names:List ByteArray}{k:Nat}{l:List St}{rows:List (List Nat)}{acc:List Bool}(h:RawSem t e names k l rows acc)(hk:k<l.length):
  RawSem t e names (k+1) (rowF t names (canAt t e (gd l k)) l (names.length+1)).1 (rows++[(rowF t names (canAt t e (gd l k)) l (names.length+1)).2]) (acc++[accAt e k (gd l k)]):=by
 obtain⟨h1,⟨x,h2⟩,h3,h4⟩:=rowF_sem t names (canAt t e (gd l k)) h.nd (names.length+1)
 generalize (rowF t names (canAt t e (gd l k)) l (names.length+1))=q at *;obtain⟨q1,q2⟩:=q;simp only[] at *;subst h2;refine⟨h1,⟨by rw[Bt h.fst.2];exact h.fst.1,by have:=h.fst.2;simp;omega⟩,by simp;omega,by simp[h.rl],by simp[h.al],fun i hi a ha=> ?_,fun i hi=> ?_⟩
 ·rw[Bt (l:=l) (by omega:i<l.length)]
  by_cases ei:i=k
  ·subst ei;have:gd (rows++[q2]) i=q2:=by have:=Co (l:=rows) (x:=q2);rwa [h.rl] at this
   rw[this];exact h4 a ha
  ·have:gd (rows++[q2]) i=gd rows i:=Bt (by rw[h.rl];omega);rw[this];obtain⟨h5,h6⟩:=h.row i qom a ha;exact⟨by simp;omega,by rw[Bt h5];exact h6⟩
 ·rw[Bt (l:=l) (by omega:i<l.length)]
  by_cases ei:i=k
  ·subst ei;have:=Co (l:=acc) (x:=accAt e i (gd l i));rwa [h.al] at this
  ·rw[Bt (by rw[h.al];omega)];exact h.acc i qom
theorem raw_sem {t:Tr}{e:En}{names:List ByteArray}:∀ (f k:Nat) (l:List St) (rows:List (List Nat)) (acc:List Bool) (r:List (List Nat) × List Bool),RawSem t e names k l rows acc→rawGo t e names f k l rows acc=some r→∃ L,RawSem t e names L.length L r.1 r.2
 |0,_,_,_,_,_,_,h=>by cases h
 |f+1,k,l,rows,acc,r,hi,h=>by
  rw[Cy] at h
  split at h
  ·rename_i hk
   split at h
   ·cases h
   ·exact raw_sem f _ _ _ _ r (hi.next hk) h
  ·rename_i hk;cases h;have:k=l.length:=by have:=hi.kl;omega
   subst this;exact⟨l,hi⟩
theorem raw_sem0 {e:Re}{r:List (List Nat) × List Bool}(h:rawF e=some r):∃ L,RawSem (addF e t00).1 (addF e t00).2 (letF e) L.length L r.1 r.2:=
 raw_sem 201 0 [s00] [] [] r ⟨by simp,⟨rfl,by simp⟩,by simp,rfl,rfl,fun i hi=>by omega,fun i hi=>by omega⟩ h
theorem raw_run {t:Tr}{e:En}{names:List ByteArray}{L:List St}{rows:List (List Nat)}{acc:List Bool}(h:RawSem t e names L.length L rows acc):∀ (l:List ByteArray) (i:Nat),i<L.length→(l.foldl (afterF ⟨names,rows,acc⟩) i)<L.length∧gd L (l.foldl (afterF ⟨names,rows,acc⟩) i)=l.foldl (stF t e names) (gd L i)
 |[],i,hi=>⟨hi,rfl⟩
 |x::l,i,hi=>by
  obtain⟨h1,h2⟩:=h.row i hi (lett names x) (Nat.lt_succ_of_le (lett_le _ _));have h3:=raw_run h l (afterF ⟨names,rows,acc⟩ i x) h1;rw[show gd L (afterF ⟨names,rows,acc⟩ i x)=stF t e names (gd L i) x from h2] at h3;exact h3
theorem stF_true (t:Tr)(e:En)(names:List ByteArray):∀ (l:List ByteArray) (s:St),l≠[]→(l.foldl (stF t e names) s).2=true
 |[],s,h=>absurd rfl h
 |[x],s,_=>by rw[List.foldl_cons,List.foldl_nil];unfold stF;rfl
 |x::y::l,s,_=>by rw[List.foldl_cons];exact stF_true t e names (y::l) _ (by simp)
theorem raw_acc {e:Re}(hl:e.lv≤64){r:List (List Nat) × List Bool}(h:rawF e=some r)(l:List ByteArray):gd r.2 (runM ⟨letF e,r.1,r.2⟩ l)=matchF e l:=by
 obtain⟨L,hL⟩:=raw_sem0 h;obtain⟨h1,h2⟩:=raw_run hL l 0 hL.fst.2;rw[hL.fst.1] at h2;show gd r.2 (l.foldl (afterF ⟨letF e,r.1,r.2⟩) 0)=_;rw[hL.acc _ h1,h2];obtain⟨hok,hlen,hf1,hf2⟩:=B3 e C9 (by simpa[t00] using hl);unfold matchF accAt;cases l with
 |nil=>
  simp[s00]
 |cons x l=>
  have hne: ¬ ((x::l).foldl (afterF ⟨letF e,r.1,r.2⟩) 0)=0:=fun h0=>by
   have h3:=stF_true (addF e t00).1 (addF e t00).2 (letF e) (x::l) s00 (by simp);rw[← h2,h0,hL.fst.1] at h3;cases h3
  rw[if_neg (by simp),decide_eq_false (p:=(((x::l).foldl (afterF ⟨letF e,r.1,r.2⟩) 0:Nat):Int)=0) qom];rw[stF_run e hl (x::l) s00 (0,(addF e t00).2.first) U U (Nat.two_pow_pos _)];simp
def rnA (m:PM) (i:Nat) (ws:List Nat):Nat:=ws.foldl (nx m) i
def Lts (m:PM) (ws:List Nat):Prop:=∀ a∈ws,a<m.names.length+1
theorem Ks {m:PM}(hp:PMok m):∀ (ws:List Nat) {i:Nat},Lts m ws→i<m.next.length→rnA m i ws<m.next.length
 |[],i,_,hi=>hi
 |a::ws,i,ha,hi=>Ks hp ws (fun x hx=>ha x (List.mem_cons_of_mem _ hx)) (G2 hp hi (ha a (by simp)))
def Dst (m:PM) (i k:Nat):Prop:=∃ ws,Lts m ws∧¬ gd m.acc (rnA m i ws)=gd m.acc (rnA m k ws)
theorem Dst.step {m:PM}{i k a:Nat}(ha:a<m.names.length+1)(h:Dst m (nx m i a) (nx m k a)):Dst m i k:=by
 obtain⟨ws,h1,h2⟩:=h;exact⟨a::ws,fun x hx=>by
  rcases List.mem_cons.1 hx with rfl|hx
  ·exact ha
  ·exact h1 x hx,h2⟩
structure Part (m:PM) (b:List Nat):Prop where
 acc:∀ i,i<m.next.length→∀ k,k<m.next.length→gd b i=gd b k→gd m.acc i=gd m.acc k
 cong:∀ i,i<m.next.length→∀ k,k<m.next.length→gd b i=gd b k→∀ a,a<m.names.length+1→gd b (nx m i a)=gd b (nx m k a)
 dst:∀ i,i<m.next.length→∀ k,k<m.next.length→¬ gd b i=gd b k→Dst m i k
theorem Part.run {m:PM}(hp:PMok m){b:List Nat}(h:Part m b):∀ (ws:List Nat) {i k:Nat},Lts m ws→i<m.next.length→k<m.next.length→gd b i=gd b k→gd b (rnA m i ws)=gd b (rnA m k ws)
 |[],_,_,_,_,_,he=>he
 |a::ws,i,k,ha,hi,hk,he=>h.run hp ws (fun x hx=>ha x (List.mem_cons_of_mem _ hx)) (G2 hp hi (ha a (by simp))) (G2 hp hk (ha a (by simp))) (h.cong i hi k hk he a (ha a (by simp)))
theorem Part.iff {m:PM}(hp:PMok m){b:List Nat}(h:Part m b){i k:Nat}(hi:i<m.next.length)(hk:k<m.next.length):gd b i=gd b k↔¬ Dst m i k:=by
 constructor
 ·rintro he ⟨ws,h1,h2⟩;exact h2 (h.acc _ (Ks hp ws h1 hi) _ (Ks hp ws h1 hk) (h.run hp ws h1 hi hk he))
 ·intro hd;exact Classical.byContradiction fun hn=>hd (h.dst i hi k hk hn)
structure Prt (m:PM) (b:List Nat):Prop where
 len:b.length=m.next.length
 acc:∀ i,i<m.next.length→∀ k,k<m.next.length→gd b i=gd b k→gd m.acc i=gd m.acc k
 dst:∀ i,i<m.next.length→∀ k,k<m.next.length→¬ gd b i=gd b k→Dst m i k
 cont:Cont b
theorem fs_is {β:Type}{f:Nat→Option β}{n:Nat}{x:β}(h:(List.range n).findSome? f=some x):∃ j,j<n∧f j=some x:=by
 obtain⟨j,hj,e⟩:=List.exists_of_findSome?_eq_some h;exact⟨j,List.mem_range.1 hj,e⟩
theorem findSp_is {m:PM}{b:List Nat}{k a:Nat}(h:findSp m b=some (k,a)):k<b.length∧∃ i,i<k∧gd b i=gd b k∧a<(gd m.next k).length∧¬ gd b (nx m i a)=gd b (nx m k a):=by
 obtain⟨k',hk,h1⟩:=fs_is h;obtain⟨i,hi,h2⟩:=fs_is h1
 split at h2
 ·rename_i he;obtain⟨a',ha,h3⟩:=fs_is h2
  split at h3
  ·cases h3
  ·rename_i hn;cases h3;exact⟨hk,i,hi,he,ha,hn⟩
 ·cases h2
theorem findSp_no {m:PM}{b:List Nat}(h:findSp m b=none){i k a:Nat}(hk:k<b.length)(hi:i<k)(he:gd b i=gd b k)(ha:a<(gd m.next k).length):gd b (nx m i a)=gd b (nx m k a):=by
 have h1:=List.findSome?_eq_none_iff.1 h k (List.mem_range.2 hk);have h2:=List.findSome?_eq_none_iff.1 h1 i (List.mem_range.2 hi);rw[if_pos he] at h2;have h3:=List.findSome?_eq_none_iff.1 h2 a (List.mem_range.2 ha)
 split at h3
 ·assumption
 ·cases h3
theorem Prt.init {m:PM}(hp:PMok m):Prt m (initB m):=by
 have hl:(initB m).length=m.next.length:=by simp[initB,hp.acc]
 have hg:∀ i,i<m.next.length→gd (initB m) i=if gd m.acc i then 1 else 0:=fun i hi=>Bu (by rw[hp.acc];exact hi)
 refine⟨hl,fun i hi k hk he=> ?_,fun i hi k hk hn=>⟨[],(fun x hx=>by cases hx),fun he=>hn ?_⟩, .init (by rw[hp.acc];exact hp.some')⟩
 ·rw[hg i hi,hg k hk] at he
  revert he
  cases gd m.acc i<;>cases gd m.acc k<;>simp
 ·rw[hg i hi,hg k hk,show gd m.acc i=gd m.acc k from he]
theorem Prt.split {m:PM}(hp:PMok m){b:List Nat}(h:Prt m b){k a:Nat}(hs:findSp m b=some (k,a)):Prt m (splitF m b k a)∧maxF (splitF m b k a)=maxF b+1:=by
 obtain⟨hk,i,hi,he,ha,hn⟩:=findSp_is hs;have hk':k<m.next.length:=by rw[← h.len];exact hk
 have ha':a<m.names.length+1:=by rw[← (hp.row _ (Af hk')).1];exact ha
 have hmx:∀ x,x<b.length→gd b x≤maxF b:=fun x hx=>G0 (Af hx)
 refine⟨⟨by rw[splitF_len];exact h.len,fun x hx y hy e=> ?_,fun x hx y hy e=> ?_,h.cont.split qom hk he hn⟩,split_max qom hk he hn⟩
 ·have hx2:=hmx x (by rw[h.len];exact hx);have hy2:=hmx y (by rw[h.len];exact hy);rw[Dj,Dj] at e
  split at e
  ·rename_i c1
   split at e
   ·rename_i c2;exact h.acc x hx y hy (by rw[c1.2.1,c2.2.1])
   ·omega
  ·split at e
   ·omega
   ·exact h.acc x hx y hy e
 ·by_cases hb:gd b x=gd b y
  ·rw[Dj,Dj] at e;have hxl:x<b.length:=by rw[h.len];exact hx
   have hyl:y<b.length:=by rw[h.len];exact hy
   refine .step ha' (h.dst _ (G2 hp hx ha') _ (G2 hp hy ha') fun hc=>e ?_);rw[hb,hc];simp only[hxl,hyl,true_and]
  ·exact h.dst x hx y hy hb
theorem refine_part {m:PM}(hp:PMok m):∀ (f:Nat) {b:List Nat},Prt m b→200<f+maxF b→Part m (refineF m f b)
 |0,b,h,hf=>by
  have h1:=h.cont.max_le;have h2:=hp.few;have h3:=h.len;omega
 |f+1,b,h,hf=>by
  cases hs:findSp m b with
  |none=>
   rw[refineF_none hs];refine⟨h.acc,fun i hi k hk he a ha=> ?_,h.dst⟩;rcases Nat.lt_trichotomy i k with h1|h1|h1
   ·exact findSp_no hs (by rw[h.len];exact hk) h1 he (by rw[(hp.row _ (Af hk)).1];exact ha)
   ·rw[h1]
   ·exact(findSp_no hs (by rw[h.len];exact hi) h1 he.symm (by rw[(hp.row _ (Af hi)).1];exact ha)).symm
  |some p=>
   obtain⟨k,a⟩:=p;rw[refineF_some hs];obtain⟨h1,h2⟩:=h.split hp hs;exact refine_part hp f h1 qom
theorem refine_part0 {m:PM}(hp:PMok m):Part m (refineF m 201 (initB m)):=refine_part hp 201 (.init hp) qom
structure NumSem (m:PM) (b order:List Nat) (k:Nat) (rows:List (List Nat)) (acc:List Bool):Prop where
 ord:OrdOk m b order
 fst:gd order 0=0∧0<order.length
 kl:k≤order.length
 rl:rows.length=k
 al:acc.length=k
 row:∀ i,i<k→∀ a,a<m.names.length+1→gd (gd rows i) a<order.length∧gd b (gd order (gd (gd rows i) a))=gd b (nx m (gd order i) a)
 acc:∀ i,i<k→gd acc i=gd m.acc (gd order i)
theorem numK_sem (b tos order:List Nat):∀ i,(∃ x,(numK b tos order i).1=order++x)∧(numK b tos order i).2.length=i∧∀ j,j<i→gd (numK b tos order i).2 j<(numK b tos order i).1.length∧gd b (gd (numK b tos order i).1 (gd (numK b tos order i).2 j))=gd b (gd tos j)
 |0=>⟨⟨[],by simp[numK]⟩,rfl,fun j hj=>by omega⟩
 |i+1=>by
  obtain⟨⟨x,h2⟩,h3,h4⟩:=numK_sem b tos order i;have hm:=numK_mem b tos order i;have hx:=Cx hm;have hg:gd ((numK b tos order (i+1)).1.map (gd b)) (idx ((numK b tos order (i+1)).1.map (gd b)) (gd b (gd tos i)))=gd b (gd tos i):=by
   rw[An hx];exact List.getElem_idxOf hx
  rw[numK_idx] at hx hg;rw[List.length_map] at hx;rw[Bu hx] at hg;have hext:∃ y,(numK b tos order (i+1)).1=(numK b tos order i).1++y:=by
   rw[Bz];simp only[]
   split
   ·exact⟨[],by simp⟩
   ·exact⟨_,rfl⟩
  have h2nd:(numK b tos order (i+1)).2=(numK b tos order i).2++[idx ((numK b tos order i).1.map (gd b)) (gd b (gd tos i))]:=rfl
  generalize (numK b tos order (i+1))=q at *;obtain⟨q1,q2⟩:=q;simp only[] at *;obtain⟨y,hy⟩:=hext;refine⟨⟨x++y,by rw[hy,h2,List.append_assoc]⟩,by rw[h2nd];simp[h3],fun j hj=> ?_⟩;rw[h2nd]
  by_cases e:j=i
  ·subst e;have:gd ((numK b tos order j).2++[idx ((numK b tos order j).1.map (gd b)) (gd b (gd tos j))]) j=idx ((numK b tos order j).1.map (gd b)) (gd b (gd tos j)):=by
    have:=Co (l:=(numK b tos order j).2) (x:=idx ((numK b tos order j).1.map (gd b)) (gd b (gd tos j)))
    rwa [h3] at this
   rw[this];exact⟨hx,hg⟩
  ·obtain⟨h5,h6⟩:=h4 j qom;rw[Bt (by rw[h3];omega),hy,Bt h5];exact⟨by simp;omega,h6⟩
theorem NumSem.next {m:PM}(hp:PMok m){b order:List Nat}{k:Nat}{rows:List (List Nat)}{acc:List Bool}(h:NumSem m b order k rows acc)(hk:k<order.length):
  NumSem m b (numK b (gd m.next (gd order k)) order (gd m.next (gd order k)).length).1 (k+1) (rows++[(numK b (gd m.next (gd order k)) order (gd m.next (gd order k)).length).2]) (acc++[gd m.acc (gd order k)]):=by
 have hok:=h.ord.lt (gd order k) (Af hk);obtain⟨hr1,hr2⟩:=hp.row (gd m.next (gd order k)) (Af hok);obtain⟨g1,g2,g3⟩:=h.ord.step hr2 (gd m.next (gd order k)).length (Nat.le_refl _);obtain⟨⟨x,h2⟩,h3,h4⟩:=numK_sem b (gd m.next (gd order k)) order (gd m.next (gd order k)).length
 generalize numK b (gd m.next (gd order k)) order (gd m.next (gd order k)).length=q at *;obtain⟨q1,q2⟩:=q;simp only[] at *;subst h2;refine⟨g1,⟨by rw[Bt h.fst.2];exact h.fst.1,by have:=h.fst.2;simp;omega⟩,by simp;omega,by simp[h.rl],by simp[h.al],fun i hi a ha=> ?_,fun i hi=> ?_⟩
 ·by_cases ei:i=k
  ·subst ei;have:gd (rows++[q2]) i=q2:=by have:=Co (l:=rows) (x:=q2);rwa [h.rl] at this
   rw[this,Bt (l:=order) hk];exact h4 a (by rw[hr1];exact ha)
  ·have:gd (rows++[q2]) i=gd rows i:=Bt (by rw[h.rl];omega);rw[this,Bt (l:=order) (by omega:i<order.length)];obtain⟨h5,h6⟩:=h.row i qom a ha;exact⟨by simp;omega,by rw[Bt h5];exact h6⟩
 ·rw[Bt (l:=order) (by omega:i<order.length)]
  by_cases ei:i=k
  ·subst ei;have:=Co (l:=acc) (x:=gd m.acc (gd order i));rwa [h.al] at this
  ·rw[Bt (by rw[h.al];omega)];exact h.acc i qom
theorem numGo_sem {m:PM}(hp:PMok m){b:List Nat}:∀ (f k:Nat) (order:List Nat) (rows:List (List Nat)) (acc:List Bool),NumSem m b order k rows acc→200<f+k→∃ O,NumSem m b O O.length (numGo m b f k order rows acc).1 (numGo m b f k order rows acc).2
 |0,k,order,rows,acc,h,hf=>by
  have h1:=h.ord.few;have h2:=hp.few;have:=h.kl;omega
 |f+1,k,order,rows,acc,h,hf=>by
  rw[Cz]
  split
  ·rename_i hk;exact numGo_sem hp f (k+1) _ _ _ (h.next hp hk) qom
  ·rename_i hk;have:k=order.length:=by have:=h.kl;omega
   subst this;exact⟨order,h⟩
theorem numF_sem {m:PM}(hp:PMok m)(b:List Nat):∃ O,NumSem m b O O.length (numF m b).next (numF m b).acc:=
 numGo_sem hp 201 0 [0] [] [] ⟨⟨by simp,fun s hs=>by
  simp only[List.mem_cons,List.not_mem_nil,or_false] at hs;subst hs;exact hp.some'⟩,⟨rfl,by simp⟩,Nat.zero_le _,rfl,rfl,fun i hi=>by omega,fun i hi=>by omega⟩ qom
theorem num_run {m:PM}(hp:PMok m){b:List Nat}(hb:Part m b){O:List Nat}(h:NumSem m b O O.length (numF m b).next (numF m b).acc):∀ (ws:List Nat) {i:Nat},Lts m ws→i<O.length→rnA (numF m b) i ws<O.length∧gd b (gd O (rnA (numF m b) i ws))=gd b (rnA m (gd O i) ws)
 |[],i,_,hi=>⟨hi,rfl⟩
 |a::ws,i,ha,hi=>by
  have ha0:=ha a (by simp);have hoi:=h.ord.lt _ (Af hi);obtain⟨h1,h2⟩:=h.row i hi a ha0;have has:Lts m ws:=fun x hx=>ha x (List.mem_cons_of_mem _ hx)
  obtain⟨h3,h4⟩:=num_run hp hb h ws has h1;refine⟨h3,h4.trans ?_⟩;exact hb.run hp ws has (h.ord.lt _ (Af h1)) (G2 hp hoi ha0) h2
theorem num_acc {m:PM}(hp:PMok m){b:List Nat}(hb:Part m b){O:List Nat}(h:NumSem m b O O.length (numF m b).next (numF m b).acc){ws:List Nat}{i:Nat}(ha:Lts m ws)(hi:i<O.length):gd (numF m b).acc (rnA (numF m b) i ws)=gd m.acc (rnA m (gd O i) ws):=by
 obtain⟨h1,h2⟩:=num_run hp hb h ws ha hi;rw[h.acc _ h1];exact hb.acc _ (h.ord.lt _ (Af h1)) _ (Ks hp ws ha (h.ord.lt _ (Af hi))) h2
theorem runM_rnA (m:PM):∀ (l:List ByteArray) (i:Nat),l.foldl (afterF m) i=rnA m i (l.map (lett m.names))
 |[],i=>rfl
 |x::l,i=>runM_rnA m l (afterF m i x)
theorem lts_map (m:PM)(l:List ByteArray):Lts m (l.map (lett m.names)):=fun a ha=>by
 obtain⟨x,_,rfl⟩:=List.mem_map.1 ha;exact Nat.lt_succ_of_le (lett_le _ _)
theorem least_acc {m:PM}(hp:PMok m)(l:List ByteArray):gd (leastF m).acc (runM (leastF m) l)=gd m.acc (runM m l):=by
 obtain⟨O,hO⟩:=numF_sem hp (refineF m 201 (initB m));have h:=num_acc hp (refine_part0 hp) hO (lts_map m l) hO.fst.2;rw[hO.fst.1] at h;unfold runM;rw[runM_rnA,runM_rnA];exact h
theorem build_acc {e:Re}(hl:e.lv≤64)(h:(buildF leastF e).2=0)(l:List ByteArray):gd (buildF leastF e).1.acc (runM (buildF leastF e).1 l)=matchF e l:=by
 unfold buildF at *;cases hr:rawF e with
 |none=>rw[hr] at h;cases h
 |some r=>
  simp only[];rw[← raw_acc hl hr l,← least_acc (rawF_ok hl hr) l]
  rfl
def lx:List Nat→List Nat→Prop
 |x::a,y::b=>x<y∨(x=y∧lx a b)
 |_,_=>False
theorem lx_trans:∀ {a b c:List Nat},lx a b→lx b c→lx a c
 |[],_,_,h,_=>by cases h
 |_::_,[],_,h,_=>by cases h
 |_::_,_::_,[],_,h=>by cases h
 |x::a,y::b,z::c,h1,h2=>by
  simp only[lx] at h1 h2 ⊢;rcases h1 with h1|⟨h1,h3⟩<;>rcases h2 with h2|⟨h2,h4⟩
  ·left;omega
  ·left;omega
  ·left;omega
  ·right;exact⟨by omega,lx_trans h3 h4⟩
theorem lx_app:∀ {a b:List Nat} (c d:List Nat),lx a b→lx (a++c) (b++d)
 |[],_,_,_,h=>by cases h
 |_::_,[],_,_,h=>by cases h
 |x::a,y::b,c,d,h=>by
  simp only[lx,List.cons_append] at h ⊢;exact h.imp id fun h=>⟨h.1,lx_app c d h.2⟩
theorem lx_last:∀ (a:List Nat) {x y:Nat},x<y→lx (a++[x]) (a++[y])
 |[],x,y,h=> .inl h
 |z::a,x,y,h=> .inr ⟨rfl,lx_last a h⟩
def ltL (a b:List Nat):Prop:=a.length<b.length∨(a.length=b.length∧lx a b)
def leL (a b:List Nat):Prop:=ltL a b∨a=b
theorem ltL_trans {a b c:List Nat}(h1:ltL a b)(h2:ltL b c):ltL a c:=by
 unfold ltL at *;rcases h1 with h1|⟨h1,h3⟩<;>rcases h2 with h2|⟨h2,h4⟩
 ·left;omega
 ·left;omega
 ·left;omega
 ·right;exact⟨by omega,lx_trans h3 h4⟩
theorem leL_trans {a b c:List Nat}(h1:leL a b)(h2:leL b c):leL a c:=by
 rcases h1 with h1|rfl
 ·rcases h2 with h2|rfl
  ·exact .inl (ltL_trans h1 h2)
  ·exact .inl h1
 ·exact h2
theorem leL_len {a b:List Nat}(h:leL a b):a.length≤b.length:=by
 rcases h with (h|⟨h,_⟩)|rfl
 ·omega
 ·omega
 ·exact Nat.le_refl _
theorem Ir {a b:List Nat}(x y:Nat)(h:ltL a b):ltL (a++[x]) (b++[y]):=by
 unfold ltL at *;simp only[List.length_append,List.length_cons,List.length_nil];rcases h with h|⟨h,h2⟩
 ·left;omega
 ·right;exact⟨by omega,lx_app _ _ h2⟩
theorem leL_snoc {a b:List Nat}{x y:Nat}(h:leL a b)(hx:x≤y):leL (a++[x]) (b++[y]):=by
 rcases h with h|rfl
 ·exact .inl (Ir x y h)
 ·rcases Nat.lt_or_ge x y with h1|h1
  ·exact .inl (.inr ⟨by simp,lx_last a h1⟩)
  ·rw[show x=y by omega];exact .inr U
section
variable {σ:Type} [Inhabited σ]
def pth (w:List (Int × σ)) (i:Nat):List σ:=(backF w (i+1) i).reverse
theorem G5 {w:List (Int × σ)}(h:(gd w 0).1= -1):pth w 0=[]:=by
 unfold pth;rw[Df,if_neg qom];rfl
theorem It {w:List (Int × σ)}(hw:∀ i,i<w.length→ -1≤(gd w i).1∧(gd w i).1<i){i:Nat}(hi:i<w.length)(h0:0≤(gd w i).1):pth w i=pth w (gd w i).1.toNat++[(gd w i).2]:=by
 have h1:=(hw i hi).2;unfold pth;rw[Df,if_pos h0,List.reverse_cons];rw[Gf hw i (gd w i).1.toNat qom qom]
inductive Chn (ts:Pl→List (Pl × σ)) (p:Pl):List σ→Pl→Prop
 |nil:Chn ts p [] p
 |snoc {ls:List σ} {q r:Pl} {s:σ}:Chn ts p ls q→(r,s)∈ts q→Chn ts p (ls++[s]) r
structure BI (ts:Pl→List (Pl × σ)) (rk:σ→Nat) (p0:Pl) (k:Nat) (d:List (Pl × σ)) (st:BS σ):Prop where
 nd:st.l.Nodup
 len:st.w.length=st.l.length
 fst:gd st.l 0=p0∧(gd st.w 0).1= -1∧0<st.l.length
 kl:k≤st.l.length
 edge:∀ i,0<i→i<st.l.length→0≤(gd st.w i).1∧(gd st.w i).1<i∧(gd st.l i,(gd st.w i).2)∈ts (gd st.l (gd st.w i).1.toNat)∧((gd st.w i).1<k∨((gd st.w i).1=k∧(gd st.l i,(gd st.w i).2)∈d))
 mono:∀ i j,0<i→i<j→j<st.l.length→(gd st.w i).1<(gd st.w j).1∨((gd st.w i).1=(gd st.w j).1∧rk (gd st.w i).2<rk (gd st.w j).2)
 done:∀ j,j<k→∀ x∈ts (gd st.l j),∃ i,i<st.l.length∧gd st.l i=x.1∧(i=0∨(gd st.w i).1<j∨((gd st.w i).1=j∧rk (gd st.w i).2≤rk x.2))
 part:∀ x∈d,∃ i,i<st.l.length∧gd st.l i=x.1∧(i=0∨(gd st.w i).1<k∨((gd st.w i).1=k∧rk (gd st.w i).2≤rk x.2))
variable {ts:Pl→List (Pl × σ)} {rk:σ→Nat} {p0:Pl}
theorem BI.start:BI ts rk p0 0 [] ⟨[p0],[(-1,default)]⟩ where
 nd:=by simp
 len:=rfl
 fst:=⟨rfl,rfl,by simp⟩
 kl:=Nat.zero_le _
 edge i h1 h2:=by simp at h2;omega
 mono i j h1 h2 h3:=by simp at h3;omega
 done j hj:=by omega
 part x hx:=by cases hx
theorem BI.back {k:Nat}{d:List (Pl × σ)}{st:BS σ}(h:BI ts rk p0 k d st):∀ i,i<st.w.length→ -1≤(gd st.w i).1∧(gd st.w i).1<i:=fun i hi=>by
 rw[h.len] at hi;rcases Nat.eq_zero_or_pos i with rfl|h0
 ·rw[h.fst.2.1];omega
 ·have:=h.edge i h0 hi;omega
theorem memPl {l:List Pl}{p:Pl}(h:p∈l):∃ i,i<l.length∧gd l i=p:=by
 obtain⟨i,hi,e⟩:=List.getElem_of_mem h;exact⟨i,hi,by rw[An hi];exact e⟩
theorem BI.vis {k:Nat}{d rest:List (Pl × σ)}{x:Pl × σ}{st:BS σ}(h:BI ts rk p0 k d st)(hk:k<st.l.length)(ht:ts (gd st.l k)=d++x::rest)(hr:(ts (gd st.l k)).Pairwise fun a b=>rk a.2<rk b.2):BI ts rk p0 k (d++[x]) (visF k st x):=by
 have hlt:∀ y∈d,rk y.2<rk x.2:=fun y hy=>by
  rw[ht] at hr;exact(List.pairwise_append.1 hr).2.2 y hy x (by simp)
 have hxm:x∈ts (gd st.l k):=by rw[ht];simp
 unfold visF
 by_cases hx:x.1∈st.l
 ·rw[if_pos hx];refine⟨h.nd,h.len,h.fst,h.kl,fun i h1 h2=> ?_,h.mono,h.done,fun y hy=> ?_⟩
  ·obtain⟨a,b,c,e⟩:=h.edge i h1 h2;exact⟨a,b,c,e.imp id fun e=>⟨e.1,List.mem_append_left _ e.2⟩⟩
  ·rcases List.mem_append.1 hy with hy|hy
   ·exact h.part y hy
   ·simp only[List.mem_cons,List.not_mem_nil,or_false] at hy;subst hy;obtain⟨i,hi,e⟩:=memPl hx;refine⟨i,hi,e,?_⟩;rcases Nat.eq_zero_or_pos i with h0|h0
    ·exact .inl h0
    ·obtain⟨_,_,_,e2⟩:=h.edge i h0 hi;rcases e2 with e2|e2
     ·exact .inr (.inl e2)
     ·exact .inr (.inr ⟨e2.1,Nat.le_of_lt (hlt _ e2.2)⟩)
 ·rw[if_neg hx];have hln:=h.len;have g1:∀ i,i<st.l.length→gd (st.l++[x.1]) i=gd st.l i:=fun i hi=>Bt hi
  have g2:∀ i,i<st.l.length→gd (st.w++[((k:Int),x.2)]) i=gd st.w i:=fun i hi=>Bt qom
  have g3:gd (st.l++[x.1]) st.l.length=x.1:=Co;have g4:gd (st.w++[((k:Int),x.2)]) st.l.length=((k:Int),x.2):=by rw[← hln];exact Co
  have hp0:=h.fst.2.2;refine⟨?_,by simp[hln],⟨by simp only[];rw[g1 0 hp0];exact h.fst.1,by simp only[];rw[g2 0 hp0];exact h.fst.2.1,by simp⟩,by simp;have:=h.kl;omega,fun i h1 h2=> ?_,fun i j h1 h2 h3=> ?_,fun j hj y hy=> ?_,fun y hy=> ?_⟩
  ·exact List.nodup_append.2 ⟨h.nd,by simp,fun a ha b hb=>by simp at hb;subst hb;rintro rfl;exact hx ha⟩
  ·simp only[] at h2 ⊢;simp only[List.length_append,List.length_cons,List.length_nil] at h2
   by_cases e:i=st.l.length
   ·subst e;rw[g3,g4];simp only[Int.toNat_natCast];rw[g1 k hk];exact⟨by omega,by omega,hxm, .inr ⟨by simp,by simp⟩⟩
   ·have hi:i<st.l.length:=by omega
    obtain⟨a,b,c,e⟩:=h.edge i h1 hi;rw[g1 i hi,g2 i hi,g1 _ qom];exact⟨a,b,c,e.imp id fun e=>⟨e.1,List.mem_append_left _ e.2⟩⟩
  ·simp only[] at h3 ⊢;simp only[List.length_append,List.length_cons,List.length_nil] at h3;have hi:i<st.l.length:=by omega
   rw[g2 i hi]
   by_cases e:j=st.l.length
   ·subst e;rw[g4];obtain⟨a,b,c,e⟩:=h.edge i h1 hi;exact e.imp id fun e=>⟨e.1,hlt _ e.2⟩
   ·rw[g2 j qom];exact h.mono i j h1 h2 qom
  ·simp only[] at hy ⊢;rw[g1 j qom] at hy;obtain⟨i,hi,e1,e2⟩:=h.done j hj y hy;exact⟨i,by simp;omega,by rw[g1 i hi];exact e1,by rw[g2 i hi];exact e2⟩
  ·simp only[];rcases List.mem_append.1 hy with hy|hy
   ·obtain⟨i,hi,e1,e2⟩:=h.part y hy;exact⟨i,by simp;omega,by rw[g1 i hi];exact e1,by rw[g2 i hi];exact e2⟩
   ·simp only[List.mem_cons,List.not_mem_nil,or_false] at hy;subst hy;exact⟨st.l.length,by simp,g3,by rw[g4];exact .inr (.inr ⟨rfl,Nat.le_refl _⟩)⟩
theorem BI.all' {k:Nat}:∀ (rest d:List (Pl × σ)) {st:BS σ},BI ts rk p0 k d st→k<st.l.length→ts (gd st.l k)=d++rest→((ts (gd st.l k)).Pairwise fun a b=>rk a.2<rk b.2)→BI ts rk p0 k (d++rest) (visAll k st rest)
 |[],d,st,h,_,_,_=>by rw[List.append_nil];exact h
 |x::rest,d,st,h,hk,ht,hr=>by
  have h1:=h.vis hk ht hr;have hg:gd (visF k st x).l k=gd st.l k:=visF_get hk;have h2:=BI.all' rest (d++[x]) h1 (by
   unfold visF;split
   ·exact hk
   ·simp;omega) (by rw[hg,ht];simp) (by rw[hg];exact hr)
  rw[List.append_assoc] at h2;exact h2
theorem BI.next {k:Nat}{st:BS σ}(h:BI ts rk p0 k [] st)(hk:k<st.l.length)(hr:(ts (gd st.l k)).Pairwise fun a b=>rk a.2<rk b.2):BI ts rk p0 (k+1) [] (visAll k st (ts (gd st.l k))):=by
 have h1:=h.all' (ts (gd st.l k)) [] hk U hr;obtain⟨hg,hl⟩:=Ge (k:=k) (ts (gd st.l k)) (st:=st) hk;rw[List.nil_append] at h1;refine⟨h1.nd,h1.len,h1.fst,by omega,fun i a b=> ?_,h1.mono,fun j hj x hx=> ?_,fun x hx=>by cases hx⟩
 ·obtain⟨e1,e2,e3,e4⟩:=h1.edge i a b;exact⟨e1,e2,e3, .inl qom⟩
 ·by_cases e:j=k
  ·subst e;rw[hg] at hx;exact h1.part x hx
  ·exact h1.done j qom x hx
theorem BI.chain {k:Nat}{d:List (Pl × σ)}{st:BS σ}(h:BI ts rk p0 k d st):∀ (n i:Nat),i≤n→i<st.l.length→Chn ts p0 (pth st.w i) (gd st.l i)
 |0,i,hn,hi=>by
  rw[show i=0 by omega,G5 h.fst.2.1,h.fst.1];exact .nil
 |n+1,i,hn,hi=>by
  rcases Nat.eq_zero_or_pos i with rfl|h0
  ·rw[G5 h.fst.2.1,h.fst.1];exact .nil
  ·obtain⟨a,b,c,e⟩:=h.edge i h0 hi;rw[It h.back (by rw[h.len];exact hi) a];exact .snoc (h.chain n (gd st.w i).1.toNat qom qom) c
theorem BI.lt {k:Nat}{d:List (Pl × σ)}{st:BS σ}(h:BI ts rk p0 k d st):∀ (n i j:Nat),j≤n→i<j→j<st.l.length→ltL ((pth st.w i).map rk) ((pth st.w j).map rk)
 |0,i,j,hn,hij,_=>by omega
 |n+1,i,j,hn,hij,hj=>by
  obtain⟨a,b,c,e⟩:=h.edge j qom hj;rw[It h.back (by rw[h.len];exact hj) a];rcases Nat.eq_zero_or_pos i with rfl|h0
  ·rw[G5 h.fst.2.1];left;simp
  ·obtain⟨a2,b2,c2,e2⟩:=h.edge i h0 qom;rw[It h.back (by rw[h.len];omega) a2];simp only[List.map_append,List.map_cons,List.map_nil];rcases h.mono i j h0 hij hj with hm|⟨hm,hm2⟩
   ·exact Ir _ _ (h.lt n (gd st.w i).1.toNat (gd st.w j).1.toNat qom qom qom)
   ·rw[hm];exact .inr ⟨by simp,lx_last _ hm2⟩
theorem BI.le {k:Nat}{d:List (Pl × σ)}{st:BS σ}(h:BI ts rk p0 k d st){i j:Nat}(hij:i≤j)(hj:j<st.l.length):leL ((pth st.w i).map rk) ((pth st.w j).map rk):=by
 rcases Nat.lt_or_ge i j with h1|h1
 ·exact .inl (h.lt j i j (Nat.le_refl _) h1 hj)
 ·rw[show i=j by omega];exact .inr U
theorem BI.ways {k:Nat}{st:BS σ}(h:BI ts rk p0 k [] st){ls:List σ}{q:Pl}(hc:Chn ts p0 ls q):(∃ i,i<st.l.length∧gd st.l i=q∧leL ((pth st.w i).map rk) (ls.map rk))∨(∃ i,k≤i∧i<st.l.length∧∃ p:List Nat,p.length<ls.length∧leL ((pth st.w i).map rk) p):=by
 induction hc with
 |nil=>exact .inl ⟨0,h.fst.2.2,h.fst.1,by rw[G5 h.fst.2.1];exact .inr rfl⟩
 | @snoc ls q r s hc hs ih=>
  rcases ih with ⟨j,hj,e,hle⟩|⟨i,h1,h2,p,h3,h4⟩
  ·rcases Nat.lt_or_ge j k with hk|hk
   ·obtain⟨i,hi,e1,e2⟩:=h.done j hk (r,s) (by rw[e];exact hs);refine .inl ⟨i,hi,e1,?_⟩;rcases Nat.eq_zero_or_pos i with rfl|h0
    ·rw[G5 h.fst.2.1];exact .inl (.inl (by simp))
    ·obtain⟨a,b,c,_⟩:=h.edge i h0 hi;rw[It h.back (by rw[h.len];exact hi) a];simp only[List.map_append,List.map_cons,List.map_nil];rcases e2 with e2|e2|⟨e2,e3⟩
     ·omega
     ·have h5:=h.lt j (gd st.w i).1.toNat j (Nat.le_refl _) qom hj;rcases hle with hle|hle
      ·exact .inl (Ir _ _ (ltL_trans h5 hle))
      ·rw[← hle];exact .inl (Ir _ _ h5)
     ·rw[e2];exact leL_snoc hle e3
   ·exact .inr ⟨j,hk,hj,ls.map rk,by simp,hle⟩
  ·exact .inr ⟨i,h1,h2,p,by simp;omega,h4⟩
structure GoOk (ts:Pl→List (Pl × σ)) (rk:σ→Nat) (fnd:Pl→Bool) (p0:Pl) (r:Option Nat × BS σ):Prop where
 some':∀ k,r.1=some k→BI ts rk p0 k [] r.2∧k<r.2.l.length∧fnd (gd r.2.l k)=true∧∀ j,j<k→fnd (gd r.2.l j)=false
 none':r.1=none→BI ts rk p0 r.2.l.length [] r.2∧∀ j,j<r.2.l.length→fnd (gd r.2.l j)=false
theorem goF_sem {Pd:Pl→Prop}(hts:∀ p,Pd p→∀ x∈ts p,Pd x.1)(hr:∀ p,Pd p→(ts p).Pairwise fun a b=>rk a.2<rk b.2){N:Nat}(hN:∀ l:List Pl,l.Nodup→(∀ p∈l,Pd p)→l.length≤N){fnd:Pl→Bool}:∀ (f k:Nat) (st:BS σ),BI ts rk p0 k [] st→BSok Pd k st→(∀ j,j<k→fnd (gd st.l j)=false)→N<f+k→GoOk ts rk fnd p0 (goF ts fnd f k st)
 |0,k,st,h,hb,_,hf=>by
  have:=hN st.l h.nd hb.ok;have:=h.kl;omega
 |f+1,k,st,h,hb,hn,hf=>by
  rw[G4]
  split
  ·rename_i hk;have hpd:=hb.ok _ (Af hk)
   split
   ·rename_i hfn;exact⟨(fun k' e=>by cases e;exact⟨h,hk,hfn,hn⟩),(fun e=>by cases e)⟩
   ·rename_i hfn;obtain⟨hb1,hb2⟩:=hb.visAll (k':=k) (ts (gd st.l k)) hk (hts _ hpd);obtain⟨hg,hl⟩:=Ge (k:=k) (ts (gd st.l k)) (st:=st) hk;refine goF_sem hts hr hN f (k+1) _ (h.next hk (hr _ hpd)) ⟨hb1.nd,hb1.ok,hb1.len,hb1.back,by omega⟩ (fun j hj=> ?_) qom
    by_cases e:j=k
    ·subst e;rw[hg];simpa using hfn
    ·rw[(Ge (k:=k) (ts (gd st.l k)) (st:=st) (show j<st.l.length by omega)).1];exact hn j qom
  ·rename_i hk;have:k=st.l.length:=by have:=h.kl;omega
   subst this;exact⟨(fun k' e=>by cases e),fun _=>⟨h,hn⟩⟩
theorem goF_sem0 {Pd:Pl→Prop}(hts:∀ p,Pd p→∀ x∈ts p,Pd x.1)(hr:∀ p,Pd p→(ts p).Pairwise fun a b=>rk a.2<rk b.2){N:Nat}(hN:∀ l:List Pl,l.Nodup→(∀ p∈l,Pd p)→l.length≤N)(fnd:Pl→Bool)(hp:Pd p0):GoOk ts rk fnd p0 (goF ts fnd (N+1) 0 ⟨[p0],[(-1,default)]⟩):=
 goF_sem hts hr hN (N+1) 0 _ .start ⟨by simp,by simpa using hp,rfl,(fun i hi=>by
  simp at hi;subst hi;show -1≤(-1:Int)∧(-1:Int)<((0:Nat):Int);omega),Nat.zero_le _⟩ (fun j hj=>by omega) qom
theorem srF_yes {Pd:Pl→Prop}(hts:∀ p,Pd p→∀ x∈ts p,Pd x.1)(hr:∀ p,Pd p→(ts p).Pairwise fun a b=>rk a.2<rk b.2){N:Nat}(hN:∀ l:List Pl,l.Nodup→(∀ p∈l,Pd p)→l.length≤N)(fnd:Pl→Bool)(hp:Pd p0)(h:(srF ts fnd N p0).2.1=true):
  (∃ q,Chn ts p0 (srF ts fnd N p0).1 q∧fnd q=true)∧∀ ls q,Chn ts p0 ls q→fnd q=true→leL ((srF ts fnd N p0).1.map rk) (ls.map rk):=by
 have hg:=goF_sem0 (rk:=rk) hts hr hN fnd hp;unfold srF at *
 generalize goF ts fnd (N+1) 0 ⟨[p0],[(-1,default)]⟩=r at *;obtain⟨k,st⟩:=r;cases k with
 |none=>cases h
 |some k=>
  obtain⟨h1,h2,h3,h4⟩:=hg.some' k rfl;simp only[] at *;refine⟨⟨_,h1.chain k k (Nat.le_refl _) h2,h3⟩,fun ls q hc hq=> ?_⟩;rcases h1.ways hc with ⟨i,hi,e,hle⟩|⟨i,hi1,hi2,p,hp1,hp2⟩
  ·rcases Nat.lt_or_ge i k with hik|hik
   ·have:=h4 i hik;rw[e,hq] at this;cases this
   ·exact leL_trans (h1.le hik hi) hle
  ·have h5:=leL_len (leL_trans (h1.le hi1 hi2) hp2)
   left;left;have:(pth st.w k).length=(backF st.w (k+1) k).reverse.length:=rfl;simp only[List.length_map] at h5 ⊢;unfold pth at h5;omega
end
abbrev BRow:=Nat × List Bool
def cf (M:List BRow):Nat:=(M.map fun r=>r.2.countP fun x=> !x).sum
theorem bd138_2_3 (a0:Int)(a1:Int)(w:World):(Instr.build 85 #[(2, .int .i64 a0),(3, .int .i64 a1)]).run Tryz.prog w= .ok (.agg #[.string ⟨#[]⟩, .bool false, .int .i64 a0, .int .i64 a1]) w:=by kernel_rfl
theorem bd154_0_1 (a0:ByteArray)(a1:Int)(w:World):(Instr.build 88 #[(0, .string a0),(1, .int .i64 a1)]).run Tryz.prog w= .ok (.agg #[.string a0, .int .i64 a1]) w:=by kernel_rfl
theorem bd56_0 (a0:Option Addr)(a0n a0c:Nat)(w:World):(Instr.build 26 #[(0, .slice a0 a0n a0c)]).run Tryz.prog w= .ok (.agg #[.slice a0 a0n a0c, .slice none 0 0, .slice none 0 0]) w:=by kernel_rfl
theorem Dz (a0:Int)(a1:Int)(a2:Int)(w:World):(Instr.build 61 #[(0, .int .i64 a0),(1, .int .i64 a1),(2, .int .i64 a2)]).run Tryz.prog w= .ok (.agg #[.int .i64 a0, .int .i64 a1, .int .i64 a2]) w:=by kernel_rfl
theorem bs152_1_0 (a0:Int)(w:World):(Instr.buildSlice 159 1 #[(0, .int .u8 a0)]).run Tryz.prog w= .ok (.slice (some ⟨w.heap.size,0,none⟩) 1 1) (w.alloc (Cl [.int .u8 a0] 5)):=by kernel_rfl
theorem bs52_4_0_1_2_3 (a0:ByteArray)(a1:Bool)(a2:Int)(a3:Int)(a4:ByteArray)(a5:Bool)(a6:Int)(a7:Int)(a8:ByteArray)(a9:Bool)(a10:Int)(a11:Int)(a12:ByteArray)(a13:Bool)(a14:Int)(a15:Int)(w:World):(Instr.buildSlice 22 4 #[(0, .agg #[.string a0, .bool a1, .int .i64 a2, .int .i64 a3]),(1, .agg #[.string a4, .bool a5, .int .i64 a6, .int .i64 a7]),(2, .agg #[.string a8, .bool a9, .int .i64 a10, .int .i64 a11]),(3, .agg #[.string a12, .bool a13, .int .i64 a14, .int .i64 a15])]).run Tryz.prog w= .ok (.slice (some ⟨w.heap.size,0,none⟩) 4 4) (w.alloc (Cl [.string a0, .bool a1, .int .i64 a2, .int .i64 a3, .string a4, .bool a5, .int .i64 a6, .int .i64 a7, .string a8, .bool a9, .int .i64 a10, .int .i64 a11, .string a12, .bool a13, .int .i64 a14, .int .i64 a15] 85)):=by kernel_rfl
theorem bs53_6_0_1_2_3_4_5 (a0:Int)(a1:Int)(a2:Int)(a3:Int)(a4:Int)(a5:Int)(a6:Int)(a7:Int)(a8:Int)(a9:Int)(a10:Int)(a11:Int)(a12:Int)(a13:Int)(a14:Int)(a15:Int)(a16:Int)(a17:Int)(w:World):(Instr.buildSlice 23 6 #[(0, .agg #[.int .i64 a0, .int .i64 a1, .int .i64 a2]),(1, .agg #[.int .i64 a3, .int .i64 a4, .int .i64 a5]),(2, .agg #[.int .i64 a6, .int .i64 a7, .int .i64 a8]),(3, .agg #[.int .i64 a9, .int .i64 a10, .int .i64 a11]),(4, .agg #[.int .i64 a12, .int .i64 a13, .int .i64 a14]),(5, .agg #[.int .i64 a15, .int .i64 a16, .int .i64 a17])]).run Tryz.prog w= .ok (.slice (some ⟨w.heap.size,0,none⟩) 6 6) (w.alloc (Cl [.int .i64 a0, .int .i64 a1, .int .i64 a2, .int .i64 a3, .int .i64 a4, .int .i64 a5, .int .i64 a6, .int .i64 a7, .int .i64 a8, .int .i64 a9, .int .i64 a10, .int .i64 a11, .int .i64 a12, .int .i64 a13, .int .i64 a14, .int .i64 a15, .int .i64 a16, .int .i64 a17] 61)):=by kernel_rfl
theorem bs54_2_0_1 (a0:ByteArray)(a1:Int)(a2:ByteArray)(a3:Int)(w:World):(Instr.buildSlice 24 2 #[(0, .agg #[.string a0, .int .i64 a1]),(1, .agg #[.string a2, .int .i64 a3])]).run Tryz.prog w= .ok (.slice (some ⟨w.heap.size,0,none⟩) 2 2) (w.alloc (Cl [.string a0, .int .i64 a1, .string a2, .int .i64 a3] 88)):=by kernel_rfl
theorem bytes_ext {a b:ByteArray}(h: ¬ ¬ a.data.toList=b.data.toList):a=b:=ByteArray.ext (Array.ext' (Classical.not_not.1 h))
section
variable {P:Program} {w0:World} {s t:TypeId} {ty:TypeId} {L:Fm} {H:List (Nat × Obj)} {x:Operand}
theorem yl_convB {e n c:Nat}{b0:Int}(hx:Ev L x (.slice (some ⟨n,0,none⟩) 1 c))(hs:∀ w,(underlying s).run P w= .ok (.slice e) w)(he:∀ w,(underlying e).run P w= .ok (.int .u8) w)(ht:∀ w,(underlying t).run P w= .ok .string w)(hc:Cell w0 H ⟨n,0,none⟩ (.int .u8 b0)):
  Yl P w0 (.convert s t x) ty L H (.string ⟨#[b0.toNat.toUInt8]⟩):=Jj U fun H' hs' b w hO=>by
 have hc':=hc.mono hs' w hO;have hl:(loadCells ⟨n,0,none⟩ 1).run P w= .ok #[.int .u8 b0] w:=by
  have:=Cq (P:=P) (b:=n) (o:=0) (w:=w) [.int .u8 b0] 0 #[] (fun j v hj=>by
   cases j with
   |zero=>simp at hj;subst hj;exact hc'
   |succ j=>simp at hj)
  simpa[loadCells] using this
 simp[exO,execOp,hx b,convert,hs,ht,he,Conv.bytesToString,hl,Sem.run_bind,Result.andThen]
 rfl
end
abbrev exC (a b c d:ByteArray):List Value:=[.string a, .bool false, .int .i64 100, .int .i64 100, .string b, .bool false, .int .i64 100, .int .i64 100, .string c, .bool false, .int .i64 100, .int .i64 100, .string d, .bool false, .int .i64 100, .int .i64 100]
def exNm (j k:Nat):ByteArray:=if j<k then ⟨#[(IntKind.u8.wrap (97+(j:Int))).toNat.toUInt8]⟩ else ⟨#[]⟩
abbrev exK (k:Nat):List Value:=exC (exNm 0 k) (exNm 1 k) (exNm 2 k) (exNm 3 k)
theorem ex_set {k:Nat}(hk:k<4):SetN (exK k) (0+k*4) (.string ⟨#[(IntKind.u8.wrap (97+(k:Int))).toNat.toUInt8]⟩) (exK (k+1)):=by
 match k,hk with
 |0,_=>exact E9 rfl
 |1,_=>exact E9 rfl
 |2,_=>exact E9 rfl
 |3,_=>exact E9 rfl
def exLinks:List Ln:=[⟨0,1,10⟩,⟨1,3,10⟩,⟨0,2,10⟩,⟨2,3,10⟩,⟨1,2,10⟩,⟨3,0,10⟩]
def exEdges:List Edg:=[⟨⟨#[101]⟩,0⟩,⟨⟨#[102]⟩,3⟩]
def exN (n1 n2 n3:Nat):Nn where
 nodes:=[⟨⟨#[97]⟩,false,100,100⟩,⟨⟨#[98]⟩,false,100,100⟩,⟨⟨#[99]⟩,false,100,100⟩,⟨⟨#[100]⟩,false,100,100⟩]
 links:=exLinks
 edges:=exEdges
 qn:=some ⟨n1,0,none⟩
 cn:=4
 ql:=some ⟨n2,0,none⟩
 cl:=6
 qe:=some ⟨n3,0,none⟩
 ce:=2
theorem Bw {α:Type}{w0:World}{H:List (Nat × Obj)}{n sz:Nat}{enc:α→List Value}{l:List α}{cells:List Value}{e:TypeId}(he:∀ x,(enc x).length=sz)(hc:cells=l.flatMap enc)(hf:Fnd H n (Cl cells e)):Arr w0 H (some ⟨n,0,none⟩) sz enc l:=fun i x hi=>
 ⟨rfl,fun j v hj=>by
  refine Bo hf ?_;rw[hc];have:=Gv he l i x j v hi hj
  simpa[oq] using this⟩
theorem E0 {w0:World}{H:List (Nat × Obj)}{n1 n2 n3:Nat}(h1:Fnd H n1 (Cl (exK 4) 85))(h2:Fnd H n2 (Cl (exLinks.flatMap encLn) 61)):NetR w0 H (exN n1 n2 n3) where
 nodes:=Bw (fun _=>rfl) U h1
 links:=Bw (fun _=>rfl) U h2
theorem G6 (n1 n2 n3:Nat):NnOk (exN n1 n2 n3) where
 fewN:=by simp[exN]
 fewL:=by simp[exN,exLinks]
 ends:=by simp[exN,exLinks]
theorem sameInts_s {w0:World}{H:List (Nat × Obj)}(q q2:Option Addr)(cap cap2:Nat)(x y:List Int)(hx:Arr w0 H q 1 encI x)(hy:Arr w0 H q2 1 encI y)(hl:x.length≤9223372036854775807):
  FSpec Tryz.prog w0 23 #[.slice q x.length cap, .slice q2 y.length cap2] H (Still (.bool (decide (x=y))) H):=by
 refine Ao Tryz.func23 U ntmps23 U (rD tb 15 U ?_);refine Ad (Aa U) (fun c10=> ?_) (fun c10=> ?_)
 ·refine rC tb 7 U (Ah U (K9 U) ?_);exact⟨_,⟨by rw[decide_eq_false (fun h=>c10 (by rw[h]))];rfl,rfl⟩,sbt⟩
 ·refine rC tb 9 U ?_;refine Bd (X:=Nat) (V:=fun k=>[(5, .int .i64 (k:Nat))]) (C:=[(0,_),(1,_)]) (φ:=fun k=>k≤x.length∧x.take k=y.take k) (μ:=fun k=>x.length - k) (x0:=0) ?_ ⟨Aa U,Aa U,trivial⟩ ⟨qat,trivial⟩ ?_
  ·exact⟨Nat.zero_le _,rfl⟩
  rintro k ⟨hk,heq⟩;refine rD tb 9 U ?_;refine Ad (Aa U) (fun c14=> ?_) (fun c14=> ?_)
  ·refine rC tb 5 U (Bh 9 [(0,true),(1,true),(2,true),(3,true),(4,true),(5,true),(6,true),(7,true),(8,true)] _ mixd qkr sb0 ?_ A8);refine rP tb 2 U (o_y U (Ld U U runUnderlying27 sizeOf3 qom (by first|exact rfl|exact hx.b (i:=k) qom)) ?_ U Ac);refine o_y U (Lb U isAgg3 (by first|exact c_o|exact cell1 ((hx.mono sbt).cs (i:=k) qom))) ?_ U Ac;refine rP tb 2 U (o_y U (Ld U U runUnderlying27 sizeOf3 qom (by first|exact rfl|exact hx.b (i:=k) qom|exact hy.b (i:=k) qom)) ?_ U Ac);refine o_y U (Lb U isAgg3 (by first|exact c_o|exact cell1 ((hy.mono sbt).cs (i:=k) qom))) ?_ U Ac;refine rP tb 1 U (A7 U (rO tb 2 U ?_));refine Ad (Aa U) (fun c25=> ?_) (fun c25=> ?_)
   ·refine rC tb 8 U (As (rX tb 2 U (Ah U (K9 U) ?_)));exact⟨_,⟨by rw[decide_eq_false (fun h=>c25 (by rw[h]))];rfl,rfl⟩,sbt⟩
   ·refine rC tb 5 U (y_ (Av (T U) Ap qom) ?_ U);refine rO tb 2 U ?_;refine Ar (k+1) ?_ ?_ ⟨qat,trivial⟩ ⟨Aa U,Aa U,trivial⟩ ?_
    ·exact⟨by omega,by rw[Ch qom,Ch qom,heq,Classical.not_not.1 c25]⟩
    ·omega
    ·exact sbt
  ·refine rC tb 2 U (Ag (rX tb 8 U (Ah U (K9 U) ?_)));exact⟨_,⟨by rw[decide_eq_true (by rw[take_end qom,take_end qom] at heq;exact heq)];rfl,rfl⟩,sbt⟩
theorem example_s {w0:World}{H:List (Nat × Obj)}:
  FSpec Tryz.prog w0 37 #[] H (fun v H'=>∃ y:Nat × Nat × Nat,v= .agg (encNn (exN y.1 y.2.1 y.2.2)).toArray∧H'=(y.2.2,Cl (exEdges.flatMap encE) 88)::(y.2.1,Cl (exLinks.flatMap encLn) 61)::(y.1,Cl (exK 4) 85)::H):=by
 refine Ao Tryz.func37 U ntmps37 U (rD tb 2 U (e_ (Ai zeroValue26 cs_) ?_ U));rintro _ _ ⟨n0,rfl,rfl⟩;refine rO tb 4 U (y_ (A0 (.cons Ap (.cons Ap .nil)) (bd138_2_3 _ _)) (e_ (Ai zeroValue85 cs_) ?_ U) U);rintro _ _ ⟨n1,rfl,rfl⟩;refine Aw (Le U U sizeOf85) U Ac ?_;rintro _ _ ⟨rfl,rfl⟩;refine rO tb 4 U (y_ (Lc U isAgg85 sizeOf85 U qcs) ?_ U);refine y_ (Lc U isAgg85 sizeOf85 U qcs) ?_ U;refine y_ (Lc U isAgg85 sizeOf85 U qcs) ?_ U;refine y_ (Lc U isAgg85 sizeOf85 U qcs) ?_ U;refine e_ (Aj (.cons (T U) (.cons (T U) (.cons (T U) (.cons (T U) .nil)))) (bs52_4_0_1_2_3 _ _ _ _ _ _ _ _ _ _ _ _ _ _ _ _)) ?_ U;rintro _ _ ⟨n9,rfl,rfl⟩;refine y_ (A0 (.cons (T U) .nil) (bd56_0 _ _ _)) (e_ (Ai zeroValue26 cs_) ?_ U) U;rintro _ _ ⟨n2,rfl,rfl⟩;refine Aw (Le U U sizeOf26) U Ac ?_;rintro _ _ ⟨rfl,rfl⟩;refine rO tb 9 U ?_;refine Ba (X:=Nat) (V:=fun k=>[(3, .int .i64 (k:Nat))]) (C:=[(0,_),(2,_)]) (G:=fun k=>(n2,Cl [.slice (some ⟨n9,0,none⟩) 4 4, .slice none 0 0, .slice none 0 0] 26)::(n9,Cl (exK k) 85)::(n1,Cl [.string ⟨#[]⟩, .bool false, .int .i64 100, .int .i64 100] 85)::(n0,Cl [.slice none 0 0, .slice none 0 0, .slice none 0 0] 26)::H) (φ:=fun k=>k≤4) (μ:=fun k=>4 - k) (x0:=0) ?_ ⟨Aa U,Aa U,trivial⟩ ⟨qat,trivial⟩ sb0 ?_
 ·show 0≤4;omega
 rintro k hk;refine rD tb 7 U ?_;refine Ad (Aa U) (fun c12=> ?_) (fun c12=> ?_)
 ·refine rC tb 6 U (y_ (Lb U isAgg22 qco) ?_ U);refine rO tb 2 U (y_ (Av Ap (T U) qom) ?_ U);refine y_ (G1 (T U) runUnderlying3 runUnderlying5) (e_ (Aj (.cons (T U) .nil) (bs152_1_0 _)) ?_ U) U;rintro _ _ ⟨n21,rfl,rfl⟩;refine y_ (yl_convB (T U) runUnderlying159 runUnderlying5 runUnderlying9 qco) ?_ U;refine y_ (Ld U U runUnderlying22 sizeOf85 qom (by exact rfl)) ?_ U;refine rO tb 1 U (e_ (Dv (T U) (T U) U sizeOf9 (ex_set (k:=k) qom) (by repeat (first|exact Upd.h|apply Upd.t|apply E7))) ?_ U);rintro _ _ ⟨rfl,rfl⟩;refine rO tb 5 U (y_ (Av (T U) Ap qom) ?_ U);refine rO tb 2 U ?_;refine Ar (k+1) ?_ ?_ ⟨qat,trivial⟩ ⟨Aa U,Aa U,trivial⟩ ?_
  ·show k+1≤4;omega
  ·omega
  ·exact sbt
 ·refine rC tb 2 U (Ag (rX tb 4 U (y_ (A0 (.cons Ap (.cons Ap (.cons Ap .nil))) (Dz _ _ _)) (y_ (A0 (.cons Ap (.cons Ap (.cons Ap .nil))) (Dz _ _ _)) (y_ (A0 (.cons Ap (.cons Ap (.cons Ap .nil))) (Dz _ _ _)) (y_ (A0 (.cons Ap (.cons Ap (.cons Ap .nil))) (Dz _ _ _)) (y_ (A0 (.cons Ap (.cons Ap (.cons Ap .nil))) (Dz _ _ _)) (y_ (A0 (.cons Ap (.cons Ap (.cons Ap .nil))) (Dz _ _ _)) (e_ (Aj (.cons (T U) (.cons (T U) (.cons (T U) (.cons (T U) (.cons (T U) (.cons (T U) .nil)))))) (bs53_6_0_1_2_3_4_5 _ _ _ _ _ _ _ _ _ _ _ _ _ _ _ _ _ _)) ?_ U) U) U) U) U) U) U)));rintro _ _ ⟨n31,rfl,rfl⟩;refine rO tb 1 U ?_
  first|refine Aw (Le U U sizeOf23) U Ac ?_|refine Aw (Bs (T U) (T U) U sizeOf23) U Ac ?_|refine Aw (Bj (T U) (T U) U sizeOf23) U Ac ?_
  rintro _ _ ⟨rfl,rfl⟩;refine rO tb 4 U (y_ (A0 (.cons Ap (.cons Ap .nil)) (bd154_0_1 _ _)) (y_ (A0 (.cons Ap (.cons Ap .nil)) (bd154_0_1 _ _)) (e_ (Aj (.cons (T U) (.cons (T U) .nil)) (bs54_2_0_1 _ _ _ _)) ?_ U) U) U);rintro _ _ ⟨n35,rfl,rfl⟩;refine rO tb 1 U ?_
  first|refine Aw (Le U U sizeOf24) U Ac ?_|refine Aw (Bs (T U) (T U) U sizeOf24) U Ac ?_|refine Aw (Bj (T U) (T U) U sizeOf24) U Ac ?_
  rintro _ _ ⟨rfl,rfl⟩;refine rO tb 4 U (y_ (Lc U isAgg26 sizeOf26 U qcs) ?_ U);refine Aw (Le U U sizeOf26) U Ac ?_;rintro _ _ ⟨rfl,rfl⟩;refine rO tb 3 U (Ah U (.cellA (Aa U) isAgg26 sizeOf26 U qcs .nil) ?_);have e4:k=4:=by omega
  subst e4;exact⟨_,⟨(n9,n31,n35),rfl,rfl⟩,sbt⟩
theorem Fe {P:Program}{w0:World}{f:FuncId}{args:Array Value}{H:List (Nat × Obj)}{b c:Bool}(e:b=c)(h:FSpec P w0 f args H (Still (.bool b) H)):FSpec P w0 f args H (Still (.bool c) H):=e ▸ h
theorem rx0 {w0:World}{H:List (Nat × Obj)}{k:Int}{s:ByteArray}(hs:s.size≤9223372036854775807:=by decide):RxM w0 H (.mk k s none 0 []):= .mk (fun i x hi=>by cases hi) (fun a ha=>by cases ha) hs qde
theorem rx1 {w0:World}{H:List (Nat × Obj)}{k:Int}{n:Nat}{a:Rxm}(h:RxM w0 H a)(hf:Fnd H n (Cl (encRx a) 56):=by repeat (first|exact A2|refine Aq ?_|refine Ax ?_)):RxM w0 H (.mk k ⟨#[]⟩ (some ⟨n,0,none⟩) 1 [a]):=
 .mk (Bw (fun _=>rfl) (by simp) hf) (fun x hx=>by rw[List.mem_singleton] at hx;subst hx;exact h) qde (by simp)
theorem rx2 {w0:World}{H:List (Nat × Obj)}{k:Int}{n:Nat}{a b:Rxm}(h1:RxM w0 H a)(h2:RxM w0 H b)(hf:Fnd H n (Cl (encRx a++encRx b) 56):=by repeat (first|exact A2|refine Aq ?_|refine Ax ?_)):RxM w0 H (.mk k ⟨#[]⟩ (some ⟨n,0,none⟩) 2 [a,b]):=
 .mk (arrRx2 hf) (fun x hx=>by simp only[List.mem_cons,List.not_mem_nil,or_false] at hx;rcases hx with rfl|rfl<;>assumption) qde (by simp)
theorem buildMX_s {w0:World}{H:List (Nat × Obj)}(m:Rxm)(e:Re)(hI:Is m e)(hM:RxM w0 H m)(hl:e.lv≤64){pm:PM}{cc:Int}(hb:buildF leastF e=(pm,cc)):
  FSpec Tryz.prog w0 35 #[.agg (encRx m).toArray] H (fun v H'=>∃ (y:Mc) (M:List (Nat × Obj)),(v= .tuple #[.agg (encMc y).toArray, .int .i64 cc]∧y.pl=pm∧∀ X,McOk w0 (M++X) y)∧H'=M++H):=by
 have h:=buildL_s (w0:=w0) H m e hI hM hl;rw[hb] at h;refine h.mono fun v H' hk=> ?_
 obtain⟨y,⟨rfl,hok,ho⟩,rfl⟩:=hk;refine⟨mcOf pm.names (slQ y.1) (slC y.1) y.2 pm.acc,rowsH y.2.2.2++(slH y.2.1 (y.2.2.2.flatMap encRow) 27++(slH y.2.2.1 (pm.acc.flatMap encB1) 4++slH y.1 (pm.names.flatMap encS) 9)),⟨by rw[mcOf_enc],mcOf_pl ho,fun X=> ?_⟩,by simp only[List.append_assoc]⟩;have h2:=mcOf_ok (w0:=w0) (names:=pm.names) (q1:=slQ y.1) (c1:=slC y.1) (H:=slH y.1 (pm.names.flatMap encS) 9++X) ho ((A1 (X:=X) (enc:=encS) (sz:=1) (e:=9) (l:=pm.names) (fun _=>rfl) hok).mono (by exact sbt))
 simpa only[List.append_assoc,mOut] using h2
theorem buildM_s {w0:World}{H:List (Nat × Obj)}(m:Rxm)(e:Re)(hI:Is m e)(hM:RxM w0 H m)(hl:e.lv≤64){pm:PM}{cc:Int}(hb:buildF leastF e=(pm,cc)):
  FSpec Tryz.prog w0 35 #[.agg (encRx m).toArray] H (fun v H'=>∃ (y:Mc) (M:List (Nat × Obj)),(v= .tuple #[.agg (encMc y).toArray, .int .i64 cc]∧y.pl=pm∧McOk w0 (M++H) y)∧H'=M++H):=
 (buildMX_s m e hI hM hl hb).mono fun v H' ⟨y,M,⟨h1,h2,h3⟩,h4⟩=>⟨y,M,⟨h1,h2,h3 H⟩,h4⟩
theorem findE_s {w0:World}{H:List (Nat × Obj)}(n:Nn)(f:Flr)(m:Mc)(he:Env w0 H n f m)(ho:EnvOk n f m)(x:Nat)(hx:x<n.nodes.length)(to:Nat){l:List Nat}{c:Int}(hf:findF n f m.pl x to=(l,c)):
  FSpec Tryz.prog w0 36 #[.agg (encNn n).toArray, .agg (encFl f).toArray, .agg (encMc m).toArray, .int .i64 (x:Int), .int .i64 (to:Int)] H (fun v H'=>∃ d:Sl,(v= .tuple #[slV d l.length, .int .i64 c]∧SlOk d l.length 1)∧H'=slH d (l.flatMap encU) 3++H):=by
 have h:=find_s n f m he ho x hx to;rw[hf] at h;exact h
theorem arrUI {w0:World}{H:List (Nat × Obj)}{q:Option Addr}{l:List Nat}(h:Arr w0 H q 1 encU l):Arr w0 H q 1 encI (l.map fun k:Nat=>(k:Int)):=fun i x hi=>by
 rw[List.getElem?_map] at hi;cases hl:l[i]? with
 |none=>rw[hl] at hi;cases hi
 |some k=>
  rw[hl] at hi;have:(k:Int)=x:=by simpa using hi
  subst this;exact h i k hl
theorem bs22_1_0 (a0:Int)(a1:ByteArray)(a2:Option Addr)(a2n a2c:Nat)(w:World):(Instr.buildSlice 54 1 #[(0, .agg #[.int .i64 a0, .string a1, .slice a2 a2n a2c])]).run Tryz.prog w= .ok (.slice (some ⟨w.heap.size,0,none⟩) 1 1) (w.alloc (Cl [.int .i64 a0, .string a1, .slice a2 a2n a2c] 56)):=by kernel_rfl
theorem still_v {P:Program}{w0:World}{f:FuncId}{args:Array Value}{H:List (Nat × Obj)}{b c:Value}(e:b=c)(h:FSpec P w0 f args H (Still b H)):FSpec P w0 f args H (Still c H):=e ▸ h
theorem bs25_49_0_1_2_3_4_5_6_7_8_9_10_11_12_13_14_15_16_17_18_19_20_21_22_23_24_25_26_27_28_29_30_31_32_33_34_35_36_37_38_39_40_41_42_43_44_45_46_47_48 (a0:ByteArray)(a1:ByteArray)(a2:ByteArray)(a3:ByteArray)(a4:ByteArray)(a5:ByteArray)(a6:ByteArray)(a7:ByteArray)(a8:ByteArray)(a9:ByteArray)(a10:ByteArray)(a11:ByteArray)(a12:ByteArray)(a13:ByteArray)(a14:ByteArray)(a15:ByteArray)(a16:ByteArray)(a17:ByteArray)(a18:ByteArray)(a19:ByteArray)(a20:ByteArray)(a21:ByteArray)(a22:ByteArray)(a23:ByteArray)(a24:ByteArray)(a25:ByteArray)(a26:ByteArray)(a27:ByteArray)(a28:ByteArray)(a29:ByteArray)(a30:ByteArray)(a31:ByteArray)(a32:ByteArray)(a33:ByteArray)(a34:ByteArray)(a35:ByteArray)(a36:ByteArray)(a37:ByteArray)(a38:ByteArray)(a39:ByteArray)(a40:ByteArray)(a41:ByteArray)(a42:ByteArray)(a43:ByteArray)(a44:ByteArray)(a45:ByteArray)(a46:ByteArray)(a47:ByteArray)(a48:ByteArray)(w:World):(Instr.buildSlice 64 49 #[(0, .string a0),(1, .string a1),(2, .string a2),(3, .string a3),(4, .string a4),(5, .string a5),(6, .string a6),(7, .string a7),(8, .string a8),(9, .string a9),(10, .string a10),(11, .string a11),(12, .string a12),(13, .string a13),(14, .string a14),(15, .string a15),(16, .string a16),(17, .string a17),(18, .string a18),(19, .string a19),(20, .string a20),(21, .string a21),(22, .string a22),(23, .string a23),(24, .string a24),(25, .string a25),(26, .string a26),(27, .string a27),(28, .string a28),(29, .string a29),(30, .string a30),(31, .string a31),(32, .string a32),(33, .string a33),(34, .string a34),(35, .string a35),(36, .string a36),(37, .string a37),(38, .string a38),(39, .string a39),(40, .string a40),(41, .string a41),(42, .string a42),(43, .string a43),(44, .string a44),(45, .string a45),(46, .string a46),(47, .string a47),(48, .string a48)]).run Tryz.prog w= .ok (.slice (some ⟨w.heap.size,0,none⟩) 49 49) (w.alloc (Cl [.string a0, .string a1, .string a2, .string a3, .string a4, .string a5, .string a6, .string a7, .string a8, .string a9, .string a10, .string a11, .string a12, .string a13, .string a14, .string a15, .string a16, .string a17, .string a18, .string a19, .string a20, .string a21, .string a22, .string a23, .string a24, .string a25, .string a26, .string a27, .string a28, .string a29, .string a30, .string a31, .string a32, .string a33, .string a34, .string a35, .string a36, .string a37, .string a38, .string a39, .string a40, .string a41, .string a42, .string a43, .string a44, .string a45, .string a46, .string a47, .string a48] 9)):=by kernel_rfl
def chB (c:Int):Bool:=decide (97≤c∧c≤122)
def dgB (c:Int):Bool:=decide (48≤c∧c≤57)
def wbB (c:Int):Bool:=chB c||dgB c||decide (c=95)
def bz (s:ByteArray) (k:Nat):Int:=if h:k<s.size then (s[k].toNat:Int) else 0
theorem Kf {s:ByteArray}{k:Nat}(h:k<s.size):bz s k=(s[k].toNat:Int):=dif_pos h
def wordsL:List ByteArray:=[⟨#[97,110,100]⟩,⟨#[97,110,121]⟩,⟨#[97,116]⟩,⟨#[98,97,99,107]⟩,⟨#[98,111,120]⟩,⟨#[98,117,114,115,116]⟩,⟨#[98,121]⟩,⟨#[99,97,112,97,99,105,116,121]⟩,⟨#[99,101,105,108,105,110,103]⟩,⟨#[99,104,101,99,107]⟩,⟨#[99,111,110,116,114,97,99,116]⟩,⟨#[99,111,117,110,116]⟩,⟨#[100,101,109,97,110,100]⟩,⟨#[100,114,111,112]⟩,⟨#[101,97,99,104]⟩,⟨#[101,100,103,101]⟩,⟨#[101,110,116,114,105,101,115]⟩,⟨#[102,97,108,115,101]⟩,⟨#[102,105,101,108,100]⟩,⟨#[102,108,111,111,114]⟩,⟨#[102,114,111,109]⟩,⟨#[105,100]⟩,⟨#[105,110]⟩,⟨#[105,110,110,101,114]⟩,⟨#[105,110,116,111]⟩,⟨#[108,105,110,107]⟩,⟨#[110,101,116,119,111,114,107]⟩,⟨#[110,111,100,101]⟩,⟨#[110,111,116]⟩,⟨#[111,112,101,110]⟩,⟨#[111,114]⟩,⟨#[112,97,116,104]⟩,⟨#[112,111,114,116]⟩,⟨#[112,114,105,99,101]⟩,⟨#[114,111,117,116,101]⟩,⟨#[114,117,108,101,115]⟩,⟨#[115,116,97,103,101]⟩,⟨#[116,97,107,101]⟩,⟨#[116,101,110,97,110,116]⟩,⟨#[116,104,101,110]⟩,⟨#[116,105,109,101]⟩,⟨#[116,111]⟩,⟨#[116,111,107,101,110]⟩,⟨#[116,114,97,110,115,108,97,116,101]⟩,⟨#[116,114,117,101]⟩,⟨#[118,105,97]⟩,⟨#[119,105,100,116,104]⟩,⟨#[119,105,114,101]⟩,⟨#[119,105,116,104,105,110]⟩]
structure NmOk (s:ByteArray):Prop where
 z:s.size≠0
 n:s.size≤24
 c:chB (bz s 0)=true
 w:∀ j,j<s.size→wbB (bz s j)=true
 k:s∉wordsL
theorem ch10_s {w0:World}{H:List (Nat × Obj)}(c:Int):
  FSpec Tryz.prog w0 197 #[.int .u8 c] H (Still (.bool (chB c)) H):=by
 refine Ao Tryz.func197 U ntmps197 U (rD tb 10 U ?_);refine A4 (s:=5) (Aa U) (fun c5=> ?_) (fun c5=> ?_)
 ·refine rO tb 7 U (Ah U (K9 U) ?_);exact⟨_,⟨vbool (by unfold chB;exact decide_eq_decide.2 (by constructor<;>intro h<;>omega)),rfl⟩,sbt⟩
 ·refine rO tb 7 U (Ah U (K9 U) ?_);exact⟨_,⟨vbool (by unfold chB;first|exact decide_eq_decide.2 (by constructor<;>intro h<;>omega)|exact(decide_eq_false qom).symm),rfl⟩,sbt⟩
theorem dg10_s {w0:World}{H:List (Nat × Obj)}(c:Int):
  FSpec Tryz.prog w0 214 #[.int .u8 c] H (Still (.bool (dgB c)) H):=by
 refine Ao Tryz.func214 U ntmps214 U (rD tb 10 U ?_);refine A4 (s:=5) (Aa U) (fun c5=> ?_) (fun c5=> ?_)
 ·refine rO tb 7 U (Ah U (K9 U) ?_);exact⟨_,⟨vbool (by unfold dgB;exact decide_eq_decide.2 (by constructor<;>intro h<;>omega)),rfl⟩,sbt⟩
 ·refine rO tb 7 U (Ah U (K9 U) ?_);exact⟨_,⟨vbool (by unfold dgB;first|exact decide_eq_decide.2 (by constructor<;>intro h<;>omega)|exact(decide_eq_false qom).symm),rfl⟩,sbt⟩
theorem wb10_s {w0:World}{H:List (Nat × Obj)}(c:Int):
  FSpec Tryz.prog w0 210 #[.int .u8 c] H (Still (.bool (wbB c)) H):=by
 refine Ao Tryz.func210 U ntmps210 U (rD tb 8 U (e_ (Ak (qe1 U) call197 (ch10_s _)) ?_ U));rintro _ _ ⟨rfl,rfl⟩;refine rO tb 6 U (e_ (Ak (qe1 U) call214 (dg10_s _)) ?_ U);rintro _ _ ⟨rfl,rfl⟩;refine rO tb 7 U ?_;refine A4 (s:=10) (Aa U) (fun c10=> ?_) (fun c10=> ?_)
 ·refine rO tb 10 U (Ah U (K9 U) ?_);exact⟨_,⟨vbool (by unfold wbB chB dgB;simp[*]),rfl⟩,sbt⟩
 ·refine rO tb 3 U ?_;refine A4 (s:=13) (Aa U) (fun c13=> ?_) (fun c13=> ?_)
  ·refine rO tb 7 U (Ah U (K9 U) ?_);exact⟨_,⟨vbool (by unfold wbB chB dgB;simp[*]),rfl⟩,sbt⟩
  ·refine rO tb 7 U (Ah U (K9 U) ?_);exact⟨_,⟨vbool (by unfold wbB chB dgB;simp[*]),rfl⟩,sbt⟩
theorem run10_s {w0:World}{H:List (Nat × Obj)}(s:ByteArray)(hs:s.size≤9223372036854775807):
  FSpec Tryz.prog w0 199 #[.string s] H (fun v H'=>(∃ t:Nat,v= .int .i64 (t:Nat)∧(t=s.size↔∀ j,j<s.size→wbB (bz s j)=true))∧H'=H):=by
 refine Ao Tryz.func199 U ntmps199 U (rD tb 12 U ?_);refine Bd (X:=Nat) (V:=fun k=>[(3, .int .i64 (k:Nat))]) (C:=[(0,_)]) (φ:=fun k=>k≤s.size∧∀ j,j<k→wbB (bz s j)=true) (μ:=fun k=>s.size - k) (x0:=0) ?_ ⟨Aa U,trivial⟩ ⟨qat,trivial⟩ ?_
 ·exact⟨Nat.zero_le _,fun j hj=>absurd hj (Nat.not_lt_zero _)⟩
 rintro k ⟨hk,hw⟩;refine rD tb 5 U (y_ (Dn (T U) runUnderlying9) (rO tb 3 U ?_) U);refine Ad (Aa U) (fun c8=> ?_) (fun c8=> ?_)
 ·refine rC tb 7 U (y_ (D4 (T U) (T U) runUnderlying9 qom) ?_ U);refine e_ (Ak (qe1 U) call210 (wb10_s _)) ?_ U;rintro _ _ ⟨rfl,rfl⟩;refine rO tb 7 U ?_
  first|refine A5 (A9 (T U)) U Ac ?_|refine A5 (B0 (T U)) U Ac ?_
  refine rO tb 2 U ?_
  first|refine Ad (Aa U) (fun c14=> ?_) (fun c14=> ?_)|refine Bq (Aa U) (fun c14=> ?_) (fun c14=> ?_)
  ·refine rC tb 3 U (Ag (rX tb 9 U (Ah U (K9 U) ?_)));exact⟨_,⟨⟨k,rfl,⟨fun h=>by omega,fun h=>by
    have:=h k qom;rw[Kf qom] at this;rw[this] at c14;cases c14⟩⟩,rfl⟩,sbt⟩
  ·refine rC tb 4 U (y_ (Av (T U) Ap qom) ?_ U);refine rO tb 3 U ?_;refine Ar (k+1) ?_ ?_ ⟨qat,trivial⟩ ⟨Aa U,trivial⟩ ?_
   ·refine⟨by show k+1≤_;omega,fun j hj=> ?_⟩
    by_cases e:j=k
    ·subst e;rw[Kf qom];simpa using c14
    ·exact hw j qom
   ·omega
   ·exact sbt
 ·refine rC tb 2 U (Ag (rX tb 9 U (Ah U (K9 U) ?_)));exact⟨_,⟨⟨k,rfl,⟨fun h j hj=>hw j qom,fun _=>by omega⟩⟩,rfl⟩,sbt⟩
theorem words_s {w0:World}{H:List (Nat × Obj)}  :
  FSpec Tryz.prog w0 209 #[] H (fun v H'=>(∃ n:Nat,v= .slice (some ⟨n,0,none⟩) 49 49∧H'=(n,Cl (wordsL.flatMap encS) 9)::H)):=by
 refine Ao Tryz.func209 U ntmps209 U (rD tb 7 U (e_ (Aj (.cons Ap (.cons Ap (.cons Ap (.cons Ap (.cons Ap (.cons Ap (.cons Ap (.cons Ap (.cons Ap (.cons Ap (.cons Ap (.cons Ap (.cons Ap (.cons Ap (.cons Ap (.cons Ap (.cons Ap (.cons Ap (.cons Ap (.cons Ap (.cons Ap (.cons Ap (.cons Ap (.cons Ap (.cons Ap (.cons Ap (.cons Ap (.cons Ap (.cons Ap (.cons Ap (.cons Ap (.cons Ap (.cons Ap (.cons Ap (.cons Ap (.cons Ap (.cons Ap (.cons Ap (.cons Ap (.cons Ap (.cons Ap (.cons Ap (.cons Ap (.cons Ap (.cons Ap (.cons Ap (.cons Ap (.cons Ap (.cons Ap .nil))))))))))))))))))))))))))))))))))))))))))))))))) (bs25_49_0_1_2_3_4_5_6_7_8_9_10_11_12_13_14_15_16_17_18_19_20_21_22_23_24_25_26_27_28_29_30_31_32_33_34_35_36_37_38_39_40_41_42_43_44_45_46_47_48 _ _ _ _ _ _ _ _ _ _ _ _ _ _ _ _ _ _ _ _ _ _ _ _ _ _ _ _ _ _ _ _ _ _ _ _ _ _ _ _ _ _ _ _ _ _ _ _ _)) ?_ U));rintro _ _ ⟨n1,rfl,rfl⟩;refine rO tb 4 U (Ah U (K9 U) ?_);exact⟨_,⟨_,rfl,rfl⟩,sbt⟩
theorem isw_s {w0:World}{H:List (Nat × Obj)}(s:ByteArray):
  FSpec Tryz.prog w0 198 #[.string s] H (fun v H'=>(∃ t:Bool,v= .bool t∧(t=false↔s∉wordsL))∧H'=H):=by
 refine Ao Tryz.func198 U ntmps198 U (rD tb 7 U (e_ (Ak .nil call209 (words_s)) ?_ U));rintro _ _ ⟨n5,rfl,rfl⟩;refine rO tb 10 U ?_;refine Bd (X:=Nat) (V:=fun k=>[(4, .int .i64 (k:Nat))]) (C:=[(0,_),(3,_)]) (φ:=fun k=>k≤49∧∀ j,j<k→gd wordsL j≠s) (μ:=fun k=>49 - k) (x0:=0) ?_ ⟨Aa U,Aa U,trivial⟩ ⟨qat,trivial⟩ ?_
 ·exact⟨Nat.zero_le _,fun j hj=>absurd hj (Nat.not_lt_zero _)⟩
 rintro k ⟨hk,hw⟩;refine rD tb 9 U ?_;refine Ad (Aa U) (fun c9=> ?_) (fun c9=> ?_)
 ·refine rC tb 8 U (y_ (Ld U U runUnderlying64 sizeOf9 qom (by exact rfl)) ?_ U);refine y_ (Lb U isAgg9 (by first|exact c_o|exact cell1 ((Bw (l:=wordsL) (sz:=1) (enc:=encS) (fun _=>rfl) U fdd).cs (i:=k) (show k<49 by omega)))) ?_ U;refine rO tb 1 U (y_ (Ci (T U) (T U)) (rO tb 2 U ?_) U);refine Ad (Aa U) (fun c17=> ?_) (fun c17=> ?_)
  ·refine rC tb 8 U (As (rX tb 2 U (Ah U (K9 U) ?_)));exact⟨_,⟨⟨_,rfl,⟨fun h=>(by cases h),fun h=>absurd (Af (l:=wordsL) (i:=k) (show k<49 by omega)) (by rw[ByteArray.ext (Array.ext' c17)];exact h)⟩⟩,rfl⟩,sbt⟩
  ·refine rC tb 5 U (y_ (Av (T U) Ap qom) ?_ U);refine rO tb 2 U ?_;refine Ar (k+1) ?_ ?_ ⟨qat,trivial⟩ ⟨Aa U,Aa U,trivial⟩ ?_
   ·refine⟨by show k+1≤_;omega,fun j hj=> ?_⟩
    by_cases e:j=k
    ·subst e;exact fun h=>c17 (by rw[h])
    ·exact hw j qom
   ·omega
   ·exact sbt
 ·refine rC tb 2 U (Ag (rX tb 8 U (Ah U (K9 U) ?_)));exact⟨_,⟨⟨_,rfl,⟨fun _ h=>by
   obtain⟨j,hj,e⟩:=List.getElem_of_mem h;exact hw j (by have:wordsL.length=49:=rfl;omega) (by rw[An hj];exact e),fun _=>rfl⟩⟩,rfl⟩,sbt⟩
theorem name10_s {w0:World}{H:List (Nat × Obj)}(s:ByteArray)(hs:s.size≤9223372036854775807):
  FSpec Tryz.prog w0 176 #[.string s] H (fun v H'=>(∃ t:Bool,v= .bool t∧(t=true↔NmOk s))∧H'=H):=by
 refine Ao Tryz.func176 U ntmps176 U (rD tb 9 U (y_ (Dn (T U) runUnderlying9) (rO tb 2 U ?_) U));refine A4 (s:=8) (Aa U) (fun c8=> ?_) (fun c8=> ?_)
 ·refine rO tb 14 U (Ah U (K9 U) ?_);exact⟨_,⟨⟨_,rfl,⟨fun h=>(by cases h),fun h=>absurd (show s.size=0 by omega) h.z⟩⟩,rfl⟩,sbt⟩
 ·refine rO tb 1 U (A5 (Dn (T U) runUnderlying9) U (Az U U (Aa U)) (rO tb 4 U ?_));refine Ad (Aa U) (fun c12=> ?_) (fun c12=> ?_)
  ·refine rC tb 7 U (Ah U (K9 U) ?_);exact⟨_,⟨⟨_,rfl,⟨fun h=>(by cases h),fun h=>absurd h.n qom⟩⟩,rfl⟩,sbt⟩
  ·refine rC tb 5 U (y_ (D4 (T U) Ap runUnderlying9 (by show 0<s.size;omega)) ?_ U);refine e_ (Ak (qe1 U) call197 (ch10_s _)) ?_ U;rintro _ _ ⟨rfl,rfl⟩;refine rO tb 6 U (e_ (Ak (qe1 U) call198 (isw_s s)) ?_ U);rintro _ _ ⟨⟨t2,rfl,ht2⟩,rfl⟩;refine rO tb 7 U ?_;refine A4 (s:=19) (Aa U) (fun c19=> ?_) (fun c19=> ?_)
   ·refine rO tb 1 U (Aw (Ak (qe1 U) call199 (run10_s s hs)) U (Az U U (Aa U)) ?_);rintro _ _ ⟨⟨t3,rfl,ht3⟩,rfl⟩;refine rO tb 1 U (A5 (Dn (T U) runUnderlying9) U (Az U U (Aa U)) (rO tb 3 U ?_));refine A4 (s:=26) (Aa U) (fun c26=> ?_) (fun c26=> ?_)
    ·have hz0:0<s.size:=by omega
     refine rO tb 1 U ?_
     first|refine A5 (A9 (T U)) U (Az U U (Aa U)) ?_|refine A5 (B0 (T U)) U (Az U U (Aa U)) ?_
     refine rO tb 5 U (Ah U (K9 U) ?_);exact⟨_,⟨⟨_,rfl,⟨fun h=>⟨by omega,by omega,by rw[Kf hz0];exact decide_eq_true c19,ht3.1 qom,ht2.1 (by simpa using h)⟩,fun h=>by rw[ht2.2 h.k];rfl⟩⟩,rfl⟩,sbt⟩
    ·refine rO tb 7 U (Ah U (K9 U) ?_);exact⟨_,⟨⟨_,rfl,⟨fun h=>(by cases h),fun h=>absurd (ht3.2 h.w) qom⟩⟩,rfl⟩,sbt⟩
   ·refine rO tb 14 U (Ah U (K9 U) ?_);exact⟨_,⟨⟨_,rfl,⟨fun h=>(by cases h),fun h=>absurd h.c (by rw[Kf qom];exact fun e=>c19 (of_decide_eq_true e))⟩⟩,rfl⟩,sbt⟩
theorem plain_s {w0:World}{H:List (Nat × Obj)}(s:ByteArray)(hs:s.size≤9223372036854775807):
  FSpec Tryz.prog w0 142 #[.string s] H (fun v H'=>(∃ t:Bool,v= .bool t∧(t=true↔NmOk s))∧H'=H):=by
 refine Ao Tryz.func142 U ntmps142 U (rD tb 8 U (e_ (Ak (qe1 U) call176 (name10_s s hs)) ?_ U));rintro _ _ ⟨⟨t1,rfl,h1⟩,rfl⟩;refine rO tb 4 U (Ah U (K9 U) ?_);exact⟨_,⟨⟨_,rfl,h1⟩,rfl⟩,sbt⟩
theorem bd150_0_1 (a0:Int)(a1:Int)(w:World):(Instr.build 165 #[(0, .int .i64 a0),(1, .int .i64 a1)]).run Tryz.prog w= .ok (.agg #[.int .i64 a0, .int .i64 a1]) w:=by kernel_rfl
mutual
def Rxm.sz:Rxm→Nat
 | .mk _ _ _ _ xs=>1+szL xs
def szL:List Rxm→Nat
 |[]=>0
 |x::xs=>x.sz+szL xs
end
mutual
def Rxm.dp:Rxm→Nat
 | .mk _ _ _ _ xs=>dpL xs
def dpL:List Rxm→Nat
 |[]=>1
 |x::xs=>max (x.dp+1) (dpL xs)
end
theorem dp_eq (m:Rxm):m.dp=dpL m.args:=by cases m;rfl
theorem dpL_app:∀ (l:List Rxm) (x:Rxm),dpL (l++[x])=max (dpL l) (x.dp+1)
 |[],x=>by simp only[List.nil_append,dpL];omega
 |y::l,x=>by simp only[List.cons_append,dpL,dpL_app l x];omega
theorem dpL_take {l:List Rxm}{i:Nat}(h:i<l.length):dpL (l.take (i+1))=max (dpL (l.take i)) ((gd l i).dp+1):=by
 rw[Ch h,dpL_app]
theorem Ff (m:Rxm):m.sz=1+szL m.args:=by cases m;rfl
theorem szL_app:∀ (a b:List Rxm),szL (a++b)=szL a+szL b
 |[],b=>by simp[szL]
 |x::a,b=>by simp only[List.cons_append,szL,szL_app a b];omega
theorem Dt {l:List Rxm}{i:Nat}(h:i<l.length):szL (l.take (i+1))=szL (l.take i)+(gd l i).sz:=by
 rw[Ch h,szL_app];simp[szL]
theorem D0:∀ (l:List Rxm) (i:Nat),szL (l.take i)≤szL l
 |[],i=>by simp[szL]
 |x::l,0=>by simp[szL]
 |x::l,i+1=>by simp only[List.take_succ_cons,szL];have:=D0 l i;omega
theorem Ku:∀ l:List Rxm,(∀ x∈l,x.dp≤x.sz)→dpL l≤1+szL l
 |[],_=>by simp[dpL,szL]
 |x::l,h=>by
  have h1:=h x (by simp);have h2:=Ku l fun y hy=>h y (by simp[hy])
  have h3:=Ff x;simp only[dpL,szL];omega
theorem Fg:∀ l:List Rxm,l.length≤szL l
 |[]=>Nat.le_refl _
 |x::l=>by simp only[List.length_cons,szL];have:=Fg l;have:=Ff x;omega
theorem sz_mem {m a:Rxm}(h:a∈m.args):a.sz<m.sz:=by
 rw[Ff m];have:∀ l:List Rxm,a∈l→a.sz≤szL l:=fun l=>by
  induction l with
  |nil=>intro h;cases h
  |cons x l ih=>
   intro h;rcases List.mem_cons.1 h with rfl|h
   ·simp only[szL];omega
   ·have:=ih h;simp only[szL];omega
 have:=this _ h;omega
theorem RxM.arr {w0:World}{H:List (Nat × Obj)}{m:Rxm}(h:RxM w0 H m):Arr w0 H m.q 3 encRx m.args:=by cases h;assumption
theorem RxM.arg {w0:World}{H:List (Nat × Obj)}{m a:Rxm}(h:RxM w0 H m)(ha:a∈m.args):RxM w0 H a:=by cases h;rename_i h1 h2 h3 h4;exact h2 _ ha
theorem RxM.nl {w0:World}{H:List (Nat × Obj)}{m:Rxm}(h:RxM w0 H m):m.node.size≤9223372036854775807:=by cases h;assumption
theorem Gh {Q:Rxm→Prop}(h:∀ m,(∀ a∈m.args,Q a)→Q m):∀ m,Q m:=fun m=>by
 have:∀ n (m:Rxm),m.sz≤n→Q m:=fun n=>by
  induction n with
  |zero=>intro m hm;rw[Ff] at hm;omega
  |succ n ih=>intro m hm;exact h m fun a ha=>ih a (by have:=sz_mem ha;omega)
 exact this _ m (Nat.le_refl _)
theorem K5 (m:Rxm):m.dp≤m.sz:=Gh (Q:=fun m=>m.dp≤m.sz) (fun m ih=>by rw[dp_eq,Ff];exact Ku _ ih) m
def cntS (w0:World) (m:Rxm):Prop:=∀ H:List (Nat × Obj),RxM w0 H m→m.sz≤8388608→FSpec Tryz.prog w0 98 #[.agg (encRx m).toArray] H (Still (.int .i64 (m.sz:Nat)) H)
theorem cnt_step {w0:World}{H:List (Nat × Obj)}(m:Rxm)(hM:RxM w0 H m)(hz:m.sz≤8388608)(ih:∀ a∈m.args,cntS w0 a):
  FSpec Tryz.prog w0 98 #[.agg (encRx m).toArray] H (Still (.int .i64 (m.sz:Nat)) H):=by
 refine Ao Tryz.func98 U ntmps98 U ?_;have hse:=Ff m;have hln:=Fg m.args;have hA:=hM.arr;refine rD tb 2 U (e_ (Lf U cs_) ?_ U);rintro _ _ ⟨n1,rfl,rfl⟩;refine rO tb 15 U ?_;refine Bd (X:=Nat) (V:=fun i=>[(4, .int .i64 (i:Nat)),(3, .int .i64 (1+szL (m.args.take i):Nat))]) (C:=[(1,_)]) (φ:=fun i=>i≤m.args.length) (μ:=fun i=>m.args.length - i) (x0:=0) ?_ ⟨Aa U,trivial⟩ ⟨qat,qat,trivial⟩ ?_
 ·exact Nat.zero_le _
 rintro i hi;have htk:i<m.args.length→szL (m.args.take (i+1))=szL (m.args.take i)+(gd m.args i).sz:=fun h=>Dt h
 have htl:=D0 m.args (i+1);have htl0:=D0 m.args i;refine rD tb 5 U (y_ (Lb U isAgg54 qco) ?_ U);refine rO tb 4 U ?_;refine Ad (Aa U) (fun c9=> ?_) (fun c9=> ?_)
 ·refine rC tb 7 U (y_ (Lb U isAgg54 qco) ?_ U);refine rO tb 1 U (y_ (Ld U U runUnderlying54 sizeOf56 qom (by first|exact rfl|exact hA.b (i:=i) qom)) ?_ U);refine y_ (Lc U isAgg56 sizeOf56 U (by exact(hA.mono sbt).cs (i:=i) qom)) ?_ U;refine y_ (Ay (qe1 U) call98 (fun H' hs=>ih _ (Af (i:=i) qom) _ ((hM.arg (Af (i:=i) qom)).mono (stn hs)) qom)) ?_ U;refine y_ (Av (T U) (T U) qom) ?_ U;refine rO tb 6 U (y_ (Av (T U) Ap qom) ?_ U);refine rO tb 2 U ?_;refine Ar (i+1) ?_ ?_ ⟨qat,(by first|exact Aa U|(refine Be (Aa U) (vint ?_);omega)),trivial⟩ ⟨Aa U,trivial⟩ ?_
  ·show i+1≤_;omega
  ·omega
  ·exact sbt
 ·refine rC tb 2 U (Ag (rX tb 9 U (Ah U (K9 U) ?_)));exact⟨_,⟨vint (by rw[List.take_of_length_le qom];omega),rfl⟩,sbt⟩
theorem cnt_s {w0:World}{H:List (Nat × Obj)}(m:Rxm)(hM:RxM w0 H m)(hz:m.sz≤8388608):FSpec Tryz.prog w0 98 #[.agg (encRx m).toArray] H (Still (.int .i64 (m.sz:Nat)) H):=
 Gh (Q:=cntS w0) (fun m ih H hM hz=>cnt_step m hM hz ih) m H hM hz
def strS (w0:World) (m:Rxm):Prop:=∀ H:List (Nat × Obj),RxM w0 H m→m.sz≤8388608→FSpec Tryz.prog w0 99 #[.agg (encRx m).toArray] H (fun v H'=>(∃ t:Nat,v= .int .i64 (t:Nat)∧t≤m.sz)∧H'=H)
theorem str_step {w0:World}{H:List (Nat × Obj)}(m:Rxm)(hM:RxM w0 H m)(hz:m.sz≤8388608)(ih:∀ a∈m.args,strS w0 a):
  FSpec Tryz.prog w0 99 #[.agg (encRx m).toArray] H (fun v H'=>(∃ t:Nat,v= .int .i64 (t:Nat)∧t≤m.sz)∧H'=H):=by
 refine Ao Tryz.func99 U ntmps99 U ?_;have hse:=Ff m;have hln:=Fg m.args;have hA:=hM.arr;refine rD tb 2 U (e_ (Lf U cs_) ?_ U);rintro _ _ ⟨n1,rfl,rfl⟩;refine rO tb 15 U ?_;refine Bd (X:=Nat × Nat) (V:=fun ⟨i,r⟩=>[(4, .int .i64 (i:Nat)),(3, .int .i64 (r:Nat))]) (C:=[(1,_)]) (φ:=fun ⟨i,r⟩=>i≤m.args.length∧r≤szL m.args) (μ:=fun ⟨i,r⟩=>m.args.length - i) (x0:=(0,0)) ?_ ⟨Aa rfl,trivial⟩ ⟨qat,qat,trivial⟩ ?_
 ·exact⟨Nat.zero_le _,Nat.zero_le _⟩
 rintro⟨i,r⟩ ⟨hi,hr⟩;have htk:i<m.args.length→szL (m.args.take (i+1))=szL (m.args.take i)+(gd m.args i).sz:=fun h=>Dt h
 have htl:=D0 m.args (i+1);have htl0:=D0 m.args i;refine rD tb 5 U (y_ (Lb U isAgg54 qco) ?_ U);refine rO tb 4 U ?_;refine Ad (Aa U) (fun c9=> ?_) (fun c9=> ?_)
 ·refine rC tb 7 U (y_ (Lb U isAgg54 qco) ?_ U);refine rO tb 1 U (y_ (Ld U U runUnderlying54 sizeOf56 qom (by first|exact rfl|exact hA.b (i:=i) qom)) ?_ U);refine y_ (Lc U isAgg56 sizeOf56 U (by exact(hA.mono sbt).cs (i:=i) qom)) ?_ U;refine e_ (Ak (qe1 U) call99 (ih _ (Af (i:=i) qom) _ ((hM.arg (Af (i:=i) qom)).mono sbt) qom)) ?_ U;rintro _ _ ⟨⟨t,rfl,ht⟩,rfl⟩;refine y_ (J4 (T U) (T U)) (rO tb 6 U (y_ (Av (T U) Ap qom) ?_ U)) U;refine rO tb 2 U ?_;refine Ar ((i+1,max r t)) ?_ ?_ ⟨qat,(by first|exact Aa U|(refine Be (Aa U) (vint ?_);omega)),trivial⟩ ⟨Aa U,trivial⟩ ?_
  ·exact⟨by omega,by omega⟩
  ·first|omega|(simp only[];omega)
  ·exact sbt
 ·refine rC tb 2 U (Ag (rX tb 6 U (y_ (Lb U isAgg3 qco) ?_ U)));refine rO tb 3 U ?_;refine Ad (Aa U) (fun c22=> ?_) (fun c22=> ?_)
  ·refine rC tb 2 U (y_ (Av (T U) Ap qom) ?_ U);refine rO tb 10 U (Ah U (K9 U) ?_);exact⟨_,⟨⟨r+1,rfl,by omega⟩,rfl⟩,sbt⟩
  ·refine rC tb 9 U (Ah U (K9 U) ?_);exact⟨_,⟨⟨r,rfl,by omega⟩,rfl⟩,sbt⟩
theorem str_s {w0:World}{H:List (Nat × Obj)}(m:Rxm)(hM:RxM w0 H m)(hz:m.sz≤8388608):FSpec Tryz.prog w0 99 #[.agg (encRx m).toArray] H (fun v H'=>(∃ t:Nat,v= .int .i64 (t:Nat)∧t≤m.sz)∧H'=H):=
 Gh (Q:=strS w0) (fun m ih H hM hz=>str_step m hM hz ih) m H hM hz
theorem more_s {w0:World}{H:List (Nat × Obj)}(a b c d:Nat)(h:a+b+c+d≤1000000000):
  FSpec Tryz.prog w0 141 #[.agg #[.int .i64 (a:Nat), .int .i64 (b:Nat)], .agg #[.int .i64 (c:Nat), .int .i64 (d:Nat)]] H (Still (.agg #[.int .i64 ((a+c:Nat):Int), .int .i64 ((max b (d+1):Nat):Int)]) H):=by
 refine Ao Tryz.func141 U ntmps141 U (rD tb 2 U (e_ (Lf U cs_) ?_ U));rintro _ _ ⟨n2,rfl,rfl⟩;refine e_ (Lf U cs_) ?_ U;rintro _ _ ⟨n3,rfl,rfl⟩;refine e_ (Ai zeroValue165 cs_) ?_ U;rintro _ _ ⟨n4,rfl,rfl⟩;refine rO tb 5 U (y_ (Lb U isAgg3 qco) ?_ U);refine rO tb 1 U (y_ (Lb U isAgg3 qco) ?_ U);refine y_ (Av (T U) (T U) qom) ?_ U;refine rO tb 1 U (y_ (Lb U isAgg3 qco) ?_ U);refine rO tb 1 U (y_ (Lb U isAgg3 qco) ?_ U);refine y_ (Av (T U) Ap qom) ?_ U;refine y_ (J4 (T U) (T U)) (y_ (A0 (.cons (T U) (.cons (T U) .nil)) (bd150_0_1 _ _)) ?_ U) U;refine Aw (Le U U sizeOf165) U Ac ?_;rintro _ _ ⟨rfl,rfl⟩;refine rO tb 3 U (Ah U (.cellA (Aa U) isAgg165 sizeOf165 U qcs .nil) ?_);exact⟨_,⟨by rw[show ((a+c:Nat):Int)=a+c by omega,show ((max b (d+1):Nat):Int)=max (b:Int) ((d:Int)+1) by omega];rfl,rfl⟩,sbt⟩
def sizS (w0:World) (m:Rxm):Prop:=∀ H:List (Nat × Obj),RxM w0 H m→m.sz≤8388608→FSpec Tryz.prog w0 102 #[.agg (encRx m).toArray] H (fun v H'=>v= .agg #[.int .i64 (m.sz:Nat), .int .i64 (m.dp:Nat)]∧H'=H)
theorem siz_step {w0:World}{H:List (Nat × Obj)}(m:Rxm)(hM:RxM w0 H m)(hz:m.sz≤8388608)(ih:∀ a∈m.args,sizS w0 a):
  FSpec Tryz.prog w0 102 #[.agg (encRx m).toArray] H (fun v H'=>v= .agg #[.int .i64 (m.sz:Nat), .int .i64 (m.dp:Nat)]∧H'=H):=by
 refine Ao Tryz.func102 U ntmps102 U ?_;have hse:=Ff m;have hln:=Fg m.args;have hA:=hM.arr;refine rD tb 2 U (e_ (Lf U cs_) ?_ U);rintro _ _ ⟨n1,rfl,rfl⟩;refine e_ (Ai zeroValue165 cs_) ?_ U;rintro _ _ ⟨n2,rfl,rfl⟩;refine rO tb 4 U (y_ (A0 (.cons Ap (.cons Ap .nil)) (bd150_0_1 _ _)) (e_ (Ai zeroValue165 cs_) ?_ U) U);rintro _ _ ⟨n3,rfl,rfl⟩;refine Aw (Le U U sizeOf165) U Ac ?_;rintro _ _ ⟨rfl,rfl⟩;refine rO tb 9 U ?_;refine Ba (X:=Nat × Nat) (V:=fun ⟨i,d⟩=>[(4, .int .i64 (i:Nat))]) (C:=[(1,_),(2,_),(3,_)]) (G:=fun ⟨i,d⟩=>(n3,Cl [.int .i64 ((1+szL (m.args.take i):Nat):Int), .int .i64 (d:Nat)] 165)::(n2,Cl [.int .i64 0, .int .i64 0] 165)::(n1,Cl (encRx m) 56)::H) (φ:=fun ⟨i,d⟩=>i≤m.args.length∧d=dpL (m.args.take i)) (μ:=fun ⟨i,d⟩=>m.args.length - i) (x0:=(0,1)) ?_ ⟨Aa rfl,Aa rfl,Aa rfl,trivial⟩ ⟨qat,trivial⟩ sb0 ?_
 ·exact⟨Nat.zero_le _,rfl⟩
 rintro⟨i,d⟩ ⟨hi,hd⟩;have htk:i<m.args.length→szL (m.args.take (i+1))=szL (m.args.take i)+(gd m.args i).sz:=fun h=>Dt h
 have htl:=D0 m.args (i+1);have htl0:=D0 m.args i;refine rD tb 5 U (y_ (Lb U isAgg54 qco) ?_ U);refine rO tb 4 U ?_;refine Ad (Aa U) (fun c10=> ?_) (fun c10=> ?_)
 ·refine rC tb 4 U (Bh 8 [(0,true),(1,true),(2,true),(3,true),(4,true),(5,true),(6,false),(7,true)] _ mixd qkr sb0 ?_ A8);refine o_y U (Lc U isAgg165 sizeOf165 U qcs) ?_ U Ac;refine rP tb 1 U (o_y U (Lb U isAgg54 qco) ?_ U Ac);refine rP tb 1 U (o_y U (Ld U U runUnderlying54 sizeOf56 qom (by first|exact rfl|exact hA.b (i:=i) qom)) ?_ U Ac);refine o_y U (Lc U isAgg56 sizeOf56 U (by exact(hA.mono sbt).cs (i:=i) qom)) ?_ U Ac;refine o_e U (Ak (qe1 U) call102 (ih _ (Af (i:=i) qom) _ ((hM.arg (Af (i:=i) qom)).mono sbt) qom)) ?_ U Ac;rintro _ _ ⟨rfl,rfl⟩;have hdl:=Ku (m.args.take i) fun x _=>K5 x
  have hdg:=K5 (gd m.args i);refine⟨sbt,(o_y U (Ay (qe2 U U) call141 (fun H' hs=>more_s (1+szL (m.args.take i)) d (gd m.args i).sz (gd m.args i).dp qom)) ?_ U Ac)⟩;refine A7 U ?_;refine Aw (Le U U sizeOf165) U Ac ?_;rintro _ _ ⟨rfl,rfl⟩;refine rO tb 5 U (y_ (Av (T U) Ap qom) ?_ U);refine rO tb 2 U ?_;have htk:=Dt (l:=m.args) (i:=i) qom;have htl:=D0 m.args (i+1);have hgm:=sz_mem (Af (l:=m.args) (i:=i) qom);rw[show 1+szL (m.args.take i)+(gd m.args i).sz=1+szL (m.args.take (i+1)) by omega];refine Ar ((i+1,max d ((gd m.args i).dp+1))) ?_ ?_ ⟨qat,trivial⟩ ⟨Aa U,Aa U,Aa U,trivial⟩ ?_
  ·exact⟨by omega,by rw[dpL_take qom,← hd]⟩
  ·first|omega|(simp only[];omega)
  ·exact sbt
 ·refine rC tb 2 U (Ag (rX tb 4 U (y_ (Lc U isAgg165 sizeOf165 U qcs) ?_ U)));refine Aw (Le U U sizeOf165) U Ac ?_;rintro _ _ ⟨rfl,rfl⟩;refine rO tb 3 U (Ah U (.cellA (Aa U) isAgg165 sizeOf165 U qcs .nil) ?_);rw[List.take_of_length_le qom] at *;exact⟨_,⟨by rw[hse,dp_eq,← hd];rfl,rfl⟩,sbt⟩
theorem siz_s {w0:World}{H:List (Nat × Obj)}(m:Rxm)(hM:RxM w0 H m)(hz:m.sz≤8388608):FSpec Tryz.prog w0 102 #[.agg (encRx m).toArray] H (fun v H'=>v= .agg #[.int .i64 (m.sz:Nat), .int .i64 (m.dp:Nat)]∧H'=H):=
 Gh (Q:=sizS w0) (fun m ih H hM hz=>siz_step m hM hz ih) m H hM hz
end Go.Proofs.YtpkijiejccngcaaGreatDoor
