/-
  A part of what LawU rests on: the logic, walks and plain laws. No condition.
-/
import Derived.Test.YtnafbfbfmgfcfaaGreatDoorGU2
import Derived.Shelf.Strconv.Itoa3
import Derived.Laws.Cover3
namespace Go.Proofs.YtnafbfbfmgfcfaaGreatDoor
open _root_.Go.Proofs.Tryz
open Go.RowKit
set_option linter.unusedVariables false
set_option linter.unusedSimpArgs false
set_option linter.unusedSectionVars false
set_option maxRecDepth 100000
theorem numbered_s {w0:World}{H:List (Nat × Obj)}(m:Mc)(hm:McOk w0 H m)(hp:PMok m.pl)(hln:m.names.length<=64)(qb:Option Addr)(cb:Nat)(b:List Nat)(hB:Arr w0 H qb 1 encU b)(n:Nat)(hn:b.length=n)(hb:n=m.rows.length):
  FSpec prog w0 169 #[.agg (encMc m).toArray, .slice qb n cb] H (fun v H'=>∃ x:MX,(v= .agg #[.slice m.q1 m.names.length m.c1,slV x.1 x.2.2.length,slV x.2.1 (numF m.pl b).acc.length]/\OutOk x (numF m.pl b).next (numF m.pl b).acc)/\H'=mOut x (numF m.pl b).acc H):=by
 subst hn;refine Az func169 U ntmps169 U ?_;have hf:=hp.few;have hfl:m.pl.next.length=m.rows.length:=List.length_map ..;have hs:=hp.some';have hal:m.acc.length=m.rows.length:=by have:=hp.acc;rw[hfl] at this;exact this
 refine rD tb 2 U (e_ (Lt U cs_) ?_ U);rintro _ _ ⟨n2,rfl,rfl⟩;refine e_ (Ap zeroValue135 cs_) ?_ U;rintro _ _ ⟨n4,rfl,rfl⟩;refine rO tb 5 U (y_ (Lo U isAgg68 (by first|exact c_o)) ?_ U);refine y_ (Bg (.cons (T U) .nil) (bd29_0 _ _ _)) (e_ (Ap zeroValue135 cs_) ?_ U) U;rintro _ _ ⟨n5,rfl,rfl⟩
 first|refine A9 (Ls U U sizeOf135) U Ac ?_
 rintro _ _ ⟨rfl,rfl⟩;refine rO tb 4 U (e_ Dd ?_ U);rintro _ _ ⟨n17,rfl,rfl⟩;refine rO tb 1 U (y_ (Bl (T U) An runUnderlying41 sizeOf3 qom (by first|exact rfl|exact hB.b (i:=0) qom|exact hd7.bas qom|exact hm.a2.b (i:=gd order k) hokl|exact(hm.r (gd m.rows (gd order k)) (Ao hokl)).b (i:=i) qom|exact hB.b (i:=gd (gd m.rows (gd order k)).l i) qom|exact hd7i.bas qom|exact hm.a3.b (i:=gd (numK b (gd m.pl.next (gd order k)) order (gd m.pl.next (gd order k)).length).1 k) (by rw[hgk];omega))) ?_ U);refine y_ (Lo U isAgg3 (by first|exact c_o|exact cell1 ((hB.mono sbt).cs (i:=0) qom))) ?_ U;refine e_ (eff_insert (l:=[]) (encV:=encIv) (gd b 0) 0 (keyN (V:=Nat)) (T U) (T U) U An U runUnderlying282) ?_ U;rintro _ _ ⟨rfl,rfl⟩;refine rO tb 6 U (e_ (A7 (.cons An .nil) (Fy)) ?_ U);rintro _ _ ⟨n22,rfl,rfl⟩;refine rO tb 10 U ?_;refine Bz (X:=Nat × List Nat × List Row × List Bool × Sl × Sl × Sl) (V:=fun ⟨k,order,rows,acc,d7,dx,da⟩=>[(8, .int .i64 (k:Nat)),(7,slV d7 order.length)]) (C:=[(1,_),(2,_),(4,_),(5,_),(6,_)]) (G:=fun ⟨k,order,rows,acc,d7,dx,da⟩=>rowsH rows++(slH d7 (order.flatMap encU) 3++((n17,mapO encNK encIv (zipM (order.map (gd b))))::(n5,Cl [.slice m.q1 m.names.length m.c1,slV dx rows.length,slV da acc.length] 135)::(slH dx (rows.flatMap encRow) 41++(slH da (acc.flatMap encB1) 4++((n4,Cl [.slice none 0 0, .slice none 0 0, .slice none 0 0] 135)::(n2,Cl (encMc m) 135)::H)))))) (φ:=fun ⟨k,order,rows,acc,d7,dx,da⟩=>OrdOk m.pl b order/\k<=order.length/\rows.length=k/\acc.length=k/\SlOk d7 order.length 1/\SlOk dx rows.length 1/\SlOk da acc.length 1/\(∀ r∈rows,SlOk r.d r.l.length 1)/\numGo m.pl b (201 - k) k order (rows.map Row.l) acc=numGo m.pl b 201 0 [0] [] []) (μ:=fun ⟨k,order,rows,acc,d7,dx,da⟩=>201 - k) (x0:=(0,[0],[],[], .blk n22 1 [], .nil, .nil)) ?_ (kg U) ⟨(by first|exact Aa rfl|(refine Ae (Aa rfl) (vint ?_);omega)|(refine Ae (Aa rfl) ?_;simp;done)|(refine Ae (Aa rfl) ?_;exact by simp only[hrow,List.length_append,List.length_cons,List.length_nil])),(by first|exact Aa rfl|(refine Ae (Aa rfl) (vint ?_);omega)|(refine Ae (Aa rfl) ?_;simp;done)|(refine Ae (Aa rfl) ?_;exact by simp only[hrow,List.length_append,List.length_cons,List.length_nil])),trivial⟩ sb0 ?_
 ·exact⟨⟨by simp,fun s hs=>by
   simp only[List.mem_cons,List.not_mem_nil,or_false] at hs;subst hs;exact hp.some'⟩,Nat.zero_le _,rfl,rfl,⟨Nat.le_refl _,rfl⟩,rfl,rfl,(fun r hr=>by cases hr),rfl⟩
 rintro⟨k,order,rows,acc,d7,dx,da⟩ ⟨hord,hko,hrl,hacl,hd7,hox,hoa,hor,hgo⟩;have hof:=hord.few;refine rD tb 9 U ?_
 first|refine Ak (Aa U) (fun c26=> ?_) (fun c26=> ?_)|refine Au (Aa U) (fun c26=> ?_) (fun c26=> ?_)
 ·have hokl:gd order k<m.rows.length:=by rw[<- hfl];exact hord.lt _ (Ao qom)
  obtain⟨hr1,hr2⟩:=Jq hp hokl;have htos:(gd m.pl.next (gd order k))=(gd m.rows (gd order k)).l:=J8 _ _;have htl:∀ s∈(gd m.pl.next (gd order k)),s<m.pl.next.length:=fun s hs=>by
   rw[htos] at hs;obtain⟨j,hj,rfl⟩:=mem_gd.1 hs;rw[hfl];exact hr2 j qom
  have htlen:(gd m.pl.next (gd order k)).length=m.names.length+1:=by rw[htos];exact hr1
  refine rC tb 7 U (y_ (Lo U isAgg68 (by first|exact c_o)) ?_ U);refine rO tb 1 U (y_ (Bd (T U) An qom) ?_ U);refine e_ (eff_makeSlice0 (by':=8) (k:=m.names.length+1) An (T U) runUnderlying41 sizeOf3 typeInfo3 U zeroValue3 U qom qom) ?_ U;rintro _ _ ⟨n33,rfl,rfl⟩;refine rO tb 5 U (B9 10 [(0,true),(1,true),(2,true),(3,true),(4,true),(5,true),(6,true),(7,true),(8,true),(9,true)] _ mixd qkr sb0 ?_ By);refine rP tb 1 U (o_y U (Lo U isAgg80 (by first|exact c_o)) ?_ U Ac);refine rP tb 2 U (o_y U (Lq U U runUnderlying41 sizeOf3 qom (by first|exact rfl|exact hB.b (i:=0) qom|exact hd7.bas qom|exact hm.a2.b (i:=gd order k) hokl|exact(hm.r (gd m.rows (gd order k)) (Ao hokl)).b (i:=i) qom|exact hB.b (i:=gd (gd m.rows (gd order k)).l i) qom|exact hd7i.bas qom|exact hm.a3.b (i:=gd (numK b (gd m.pl.next (gd order k)) order (gd m.pl.next (gd order k)).length).1 k) (by rw[hgk];omega))) ?_ U Ac);refine o_y U (Lo U isAgg3 (by first|exact c_o|exact cell1 (((A5 (X:=H) (enc:=encU) (sz:=1) (e:=3) (l:=order) (fun _=>rfl) hd7).mono sbt).cs (i:=k) qom))) ?_ U Ac;refine o_y U (Lq U U runUnderlying80 sizeOf41 qom (by first|exact rfl|exact hB.b (i:=0) qom|exact hd7.bas qom|exact hm.a2.b (i:=gd order k) hokl|exact(hm.r (gd m.rows (gd order k)) (Ao hokl)).b (i:=i) qom|exact hB.b (i:=gd (gd m.rows (gd order k)).l i) qom|exact hd7i.bas qom|exact hm.a3.b (i:=gd (numK b (gd m.pl.next (gd order k)) order (gd m.pl.next (gd order k)).length).1 k) (by rw[hgk];omega))) ?_ U Ac;refine o_y U (Lo U isAgg41 (by first|exact c_o|exact cell1 ((hm.a2.mono sbt).cs (i:=gd order k) hokl))) ?_ U Ac;refine rP tb 2 U (Bj U (rO tb 3 U ?_));refine Bz (X:=Nat × Sl × Sl) (V:=fun ⟨i,d7,d9⟩=>[(43, .int .i64 (i:Nat)),(7,slV d7 (numK b (gd m.pl.next (gd order k)) order i).1.length),(9,slV d9 (numK b (gd m.pl.next (gd order k)) order i).2.length)]) (C:=[(1,_),(2,_),(4,_),(5,_),(6,_),(8,_),(41,_),(42,_)]) (G:=fun ⟨i,d7,d9⟩=>slH d9 ((numK b (gd m.pl.next (gd order k)) order i).2.flatMap encU) 3++(rowsH rows++(slH d7 ((numK b (gd m.pl.next (gd order k)) order i).1.flatMap encU) 3++((n17,mapO encNK encIv (zipM ((numK b (gd m.pl.next (gd order k)) order i).1.map (gd b))))::(n5,Cl [.slice m.q1 m.names.length m.c1,slV dx rows.length,slV da acc.length] 135)::(slH dx (rows.flatMap encRow) 41++(slH da (acc.flatMap encB1) 4++((n4,Cl [.slice none 0 0, .slice none 0 0, .slice none 0 0] 135)::(n2,Cl (encMc m) 135)::H))))))) (φ:=fun ⟨i,d7,d9⟩=>i<=(gd m.pl.next (gd order k)).length/\SlOk d7 (numK b (gd m.pl.next (gd order k)) order i).1.length 1/\SlOk d9 (numK b (gd m.pl.next (gd order k)) order i).2.length 1) (μ:=fun ⟨i,d7,d9⟩=>(gd m.pl.next (gd order k)).length - i) (x0:=(0,d7, .blk n33 (m.names.length+1) (List.replicate (m.names.length+1) (.int .i64 0)))) ?_ (kg U) ⟨(by first|exact Aa rfl|(refine Ae (Aa rfl) (vint ?_);omega)|(refine Ae (Aa rfl) ?_;simp;done)|(refine Ae (Aa rfl) ?_;exact by simp only[hrow,List.length_append,List.length_cons,List.length_nil])),(by first|exact Aa rfl|(refine Ae (Aa rfl) (vint ?_);omega)|(refine Ae (Aa rfl) ?_;simp;done)|(refine Ae (Aa rfl) ?_;exact by simp only[hrow,List.length_append,List.length_cons,List.length_nil])),(by first|exact Aa rfl|(refine Ae (Aa rfl) (vint ?_);omega)|(refine Ae (Aa rfl) ?_;simp;done)|(refine Ae (Aa rfl) ?_;exact by simp only[hrow,List.length_append,List.length_cons,List.length_nil])),trivial⟩ sb0 ?_
  ·exact⟨Nat.zero_le _,hd7,Nat.zero_le _,by show (List.replicate _ _).length=_;rw[List.length_replicate];show _=(_ - 0)*1;omega⟩
  rintro⟨i,d7,d9⟩ ⟨hi,hd7i,hd9⟩;have hstp:=hord.step htl i hi;have hof2:=hstp.1.few;have hge2:=(I8 b (gd m.pl.next (gd order k)) (order:=order) (k:=k) qom i).2;refine rD tb 6 U ?_
  first|refine Ak (Aa U) (fun c44=> ?_) (fun c44=> ?_)|refine Au (Aa U) (fun c44=> ?_) (fun c44=> ?_)
  ·have hil:gd (gd m.rows (gd order k)).l i<m.rows.length:=hr2 i qom;have hti:gd (gd m.pl.next (gd order k)) i=gd (gd m.rows (gd order k)).l i:=by rw[htos]
   refine rC tb 6 U (y_ (Lq U U runUnderlying41 sizeOf3 qom (by first|exact rfl|exact hB.b (i:=0) qom|exact hd7.bas qom|exact hm.a2.b (i:=gd order k) hokl|exact(hm.r (gd m.rows (gd order k)) (Ao hokl)).b (i:=i) qom|exact hB.b (i:=gd (gd m.rows (gd order k)).l i) qom|exact hd7i.bas qom|exact hm.a3.b (i:=gd (numK b (gd m.pl.next (gd order k)) order (gd m.pl.next (gd order k)).length).1 k) (by rw[hgk];omega))) ?_ U);refine y_ (Lo U isAgg3 (by first|exact c_o|exact cell1 (((hm.r (gd m.rows (gd order k)) (Ao hokl)).mono sbt).cs (i:=i) qom))) ?_ U;refine rO tb 3 U ?_;refine Fp (X:=Sl) (V:=fun g7=>[(7,slV g7 (numK b (gd m.pl.next (gd order k)) order (i+1)).1.length)]) (C:=[(1,_),(2,_),(4,_),(5,_),(6,_),(8,_),(9,_),(11,_),(41,_),(42,_),(43,_)]) (G:=fun g7=>slH d9 ((numK b (gd m.pl.next (gd order k)) order i).2.flatMap encU) 3++(rowsH rows++(slH g7 ((numK b (gd m.pl.next (gd order k)) order (i+1)).1.flatMap encU) 3++((n17,mapO encNK encIv (zipM ((numK b (gd m.pl.next (gd order k)) order (i+1)).1.map (gd b))))::(n5,Cl [.slice m.q1 m.names.length m.c1,slV dx rows.length,slV da acc.length] 135)::(slH dx (rows.flatMap encRow) 41++(slH da (acc.flatMap encB1) 4++((n4,Cl [.slice none 0 0, .slice none 0 0, .slice none 0 0] 135)::(n2,Cl (encMc m) 135)::H))))))) (φ:=fun g7=>SlOk g7 (numK b (gd m.pl.next (gd order k)) order (i+1)).1.length 1) (kg U) ?_ ?_
   ·refine rD tb 5 U (y_ (Lq U U runUnderlying41 sizeOf3 qom (by first|exact rfl|exact hB.b (i:=0) qom|exact hd7.bas qom|exact hm.a2.b (i:=gd order k) hokl|exact(hm.r (gd m.rows (gd order k)) (Ao hokl)).b (i:=i) qom|exact hB.b (i:=gd (gd m.rows (gd order k)).l i) qom|exact hd7i.bas qom|exact hm.a3.b (i:=gd (numK b (gd m.pl.next (gd order k)) order (gd m.pl.next (gd order k)).length).1 k) (by rw[hgk];omega))) ?_ U);refine y_ (Lo U isAgg3 (by first|exact c_o|exact cell1 ((hB.mono sbt).cs (i:=gd (gd m.rows (gd order k)).l i) qom))) ?_ U;refine y_ (yl_lookN (l:=(numK b (gd m.pl.next (gd order k)) order i).1.map (gd b)) (s:=gd b (gd (gd m.rows (gd order k)).l i)) (T U) (T U) fdd) ?_ U;refine rO tb 10 U ?_
    first|refine A3 (B7 (T U)) U Ac ?_|refine A3 (Cc (T U)) U Ac ?_
    refine rO tb 2 U ?_
    first|refine Ak (Aa U) (fun c57=> ?_) (fun c57=> ?_)|refine Au (Aa U) (fun c57=> ?_) (fun c57=> ?_)
    ·have hrow:(numK b (gd m.pl.next (gd order k)) order (i+1)).1=(numK b (gd m.pl.next (gd order k)) order i).1++[gd (gd m.rows (gd order k)).l i]:=by rw[D5];simp only[hti];rw[if_neg c57]
     refine rC tb 5 U (y_ (Lq U U runUnderlying41 sizeOf3 qom (by first|exact rfl|exact hB.b (i:=0) qom|exact hd7.bas qom|exact hm.a2.b (i:=gd order k) hokl|exact(hm.r (gd m.rows (gd order k)) (Ao hokl)).b (i:=i) qom|exact hB.b (i:=gd (gd m.rows (gd order k)).l i) qom|exact hd7i.bas qom|exact hm.a3.b (i:=gd (numK b (gd m.pl.next (gd order k)) order (gd m.pl.next (gd order k)).length).1 k) (by rw[hgk];omega))) ?_ U);refine y_ (Lo U isAgg3 (by first|exact c_o|exact cell1 ((hB.mono sbt).cs (i:=gd (gd m.rows (gd order k)).l i) qom))) ?_ U;refine rO tb 2 U (e_ (C5 (l:=zipM ((numK b (gd m.pl.next (gd order k)) order i).1.map (gd b))) (encV:=encIv) (gd b (gd (gd m.rows (gd order k)).l i)) ((numK b (gd m.pl.next (gd order k)) order i).1.map (gd b)).length (keyN (V:=Nat)) (T U) (T U) U (T U) (by simp) runUnderlying282) ?_ U);rintro _ _ ⟨rfl,rfl⟩;rw[upsert_zipM c57];refine kO tb 2 [1,2,4,5,6,7,8,9,11,41,42,43] rfl U (rG tb 3 U (e_ (A7 (.cons (T U) .nil) (Fy)) ?_ U));rintro _ _ ⟨n67,rfl,rfl⟩;refine e_ (Br (gd (gd m.rows (gd order k)).l i) (by':=8) qlc (T U) (T U) runUnderlying41 runUnderlying41 sizeOf3 typeInfo3 U zeroValue3 U (fun _=>rfl) U hd7i qde qom) ?_ U;rintro _ _ ⟨d7',rfl,hok7,rfl⟩;refine rO tb 2 U ?_;refine Be (d7') ?_ ⟨(by first|exact Aa U|(refine Ae (Aa U) (vint ?_);omega)|(refine Ae (Aa U) ?_;simp;done)|(refine Ae (Aa U) ?_;exact by simp only[hrow,List.length_append,List.length_cons,List.length_nil])),trivial⟩ (kg U) (by simp only[hrow,List.map_append,List.map_cons,List.map_nil];exact sbt)
     first|(rw[hrow];simpa using hok7)|(rw[hrow];exact hd7i)
    ·have hrow:(numK b (gd m.pl.next (gd order k)) order (i+1)).1=(numK b (gd m.pl.next (gd order k)) order i).1:=by rw[D5];simp only[hti];rw[if_pos (Classical.not_not.1 c57)]
     refine rC tb 1 U ?_;refine Be (d7) ?_ ⟨(by first|exact Aa U|(refine Ae (Aa U) (vint ?_);omega)|(refine Ae (Aa U) ?_;simp;done)|(refine Ae (Aa U) ?_;exact by simp only[hrow,List.length_append,List.length_cons,List.length_nil])),trivial⟩ (kg U) (by simp only[hrow,List.map_append,List.map_cons,List.map_nil];exact sbt)
     first|(rw[hrow];simpa using hok7)|(rw[hrow];exact hd7i)
   rintro g7 hg7;have hmem:gd b (gd (gd m.rows (gd order k)).l i)∈(numK b (gd m.pl.next (gd order k)) order (i+1)).1.map (gd b):=by rw[<- hti];exact numK_mem _ _ _ _
   refine rC tb 5 U (y_ (Lq U U runUnderlying41 sizeOf3 qom (by first|exact rfl|exact hB.b (i:=0) qom|exact hd7.bas qom|exact hm.a2.b (i:=gd order k) hokl|exact(hm.r (gd m.rows (gd order k)) (Ao hokl)).b (i:=i) qom|exact hB.b (i:=gd (gd m.rows (gd order k)).l i) qom|exact hd7i.bas qom|exact hm.a3.b (i:=gd (numK b (gd m.pl.next (gd order k)) order (gd m.pl.next (gd order k)).length).1 k) (by rw[hgk];omega))) ?_ U);refine y_ (Lo U isAgg3 (by first|exact c_o|exact cell1 ((hB.mono sbt).cs (i:=gd (gd m.rows (gd order k)).l i) qom))) ?_ U;refine y_ (yl_lookN1 (l:=(numK b (gd m.pl.next (gd order k)) order (i+1)).1.map (gd b)) (s:=gd b (gd (gd m.rows (gd order k)).l i)) hmem (T U) (T U) fdd) ?_ U;refine e_ (A7 (.cons (T U) .nil) (Fy)) ?_ U;rintro _ _ ⟨n76,rfl,rfl⟩;refine e_ (Br (idx ((numK b (gd m.pl.next (gd order k)) order (i+1)).1.map (gd b)) (gd b (gd (gd m.rows (gd order k)).l i))) (by':=8) qlc (T U) (T U) runUnderlying41 runUnderlying41 sizeOf3 typeInfo3 U zeroValue3 U (fun _=>rfl) U hd9 qde (by have:=hstp.2.1;omega)) ?_ U;rintro _ _ ⟨d9',rfl,hok9,rfl⟩;refine rO tb 5 U (y_ (Bd (T U) An qom) ?_ U);refine rO tb 2 U ?_;have hrow:(numK b (gd m.pl.next (gd order k)) order (i+1)).2=(numK b (gd m.pl.next (gd order k)) order i).2++[idx ((numK b (gd m.pl.next (gd order k)) order (i+1)).1.map (gd b)) (gd b (gd (gd m.rows (gd order k)).l i))]:=by rw[<- hti,numK_idx,D5]
   refine A8 ((i+1,g7,d9')) ?_ ?_ ⟨(by first|exact Aa U|(refine Ae (Aa U) (vint ?_);omega)|(refine Ae (Aa U) ?_;simp;done)|(refine Ae (Aa U) ?_;exact by simp only[hrow,List.length_append,List.length_cons,List.length_nil])),(by first|exact Aa U|(refine Ae (Aa U) (vint ?_);omega)|(refine Ae (Aa U) ?_;simp;done)|(refine Ae (Aa U) ?_;exact by simp only[hrow,List.length_append,List.length_cons,List.length_nil])),(by first|exact Aa U|(refine Ae (Aa U) (vint ?_);omega)|(refine Ae (Aa U) ?_;simp;done)|(refine Ae (Aa U) ?_;exact by simp only[hrow,List.length_append,List.length_cons,List.length_nil])),trivial⟩ (kg U) ?_
   ·exact⟨by omega,hg7,by rw[hrow,List.length_append];exact hok9⟩
   ·first|omega|(simp only[];omega)
   ·simp only[hrow];exact sbt
  ·have hi2:i=(gd m.pl.next (gd order k)).length:=by omega
   subst hi2;have hgk:=(I8 b (gd m.pl.next (gd order k)) (order:=order) (k:=k) qom (gd m.pl.next (gd order k)).length).1;refine rC tb 2 U (Aq (rX tb 5 U (y_ (Lo U isAgg80 (by first|exact c_o)) ?_ U)));refine rO tb 1 U (e_ (A7 (.cons (T U) .nil) (bs26_1_0 _ _ _)) ?_ U);rintro _ _ ⟨n82,rfl,rfl⟩;refine e_ (Br ((⟨d9,(numK b (gd m.pl.next (gd order k)) order (gd m.pl.next (gd order k)).length).2⟩:Row)) (by':=24) qlc (T U) (T U) runUnderlying80 runUnderlying80 sizeOf41 typeInfo41 U zeroValue41 U (fun _=>rfl) U hox qde qom) ?_ U;rintro _ _ ⟨dx',rfl,hokx,rfl⟩;refine rO tb 1 U ?_
   first|refine A9 (Ls U U sizeOf80) U Ac ?_|refine A9 (B1 (T U) (T U) U sizeOf80) U Ac ?_|refine A9 (Bu (T U) (T U) U sizeOf80) U Ac ?_
   rintro _ _ ⟨rfl,rfl⟩;refine rO tb 2 U (B9 11 [(0,true),(1,true),(2,true),(3,true),(4,true),(5,true),(6,true),(7,true),(8,true),(9,true),(10,false)] _ mixd qkr (by exact sbt) ?_ By);refine rP tb 1 U (o_y U (Lo U isAgg133 (by first|exact c_o)) ?_ U Ac);refine rP tb 1 U (o_y U (Lo U isAgg133 (by first|exact c_o)) ?_ U Ac);refine rP tb 2 U (o_y U (Lq U U runUnderlying41 sizeOf3 qom (by first|exact rfl|exact hB.b (i:=0) qom|exact hd7.bas qom|exact hm.a2.b (i:=gd order k) hokl|exact(hm.r (gd m.rows (gd order k)) (Ao hokl)).b (i:=i) qom|exact hB.b (i:=gd (gd m.rows (gd order k)).l i) qom|exact hd7i.bas qom|exact hm.a3.b (i:=gd (numK b (gd m.pl.next (gd order k)) order (gd m.pl.next (gd order k)).length).1 k) (by rw[hgk];omega))) ?_ U Ac);refine o_y U (Lo U isAgg3 (by first|exact c_o|exact cell1 (((A5 (X:=H) (enc:=encU) (sz:=1) (e:=3) (l:=(numK b (gd m.pl.next (gd order k)) order (gd m.pl.next (gd order k)).length).1) (fun _=>rfl) hd7i).mono sbt).cs (i:=k) qom))) ?_ U Ac;refine o_y U (Lq U U runUnderlying133 sizeOf4 (by rw[hgk];omega) (by first|exact rfl|exact hB.b (i:=0) qom|exact hd7.bas qom|exact hm.a2.b (i:=gd order k) hokl|exact(hm.r (gd m.rows (gd order k)) (Ao hokl)).b (i:=i) qom|exact hB.b (i:=gd (gd m.rows (gd order k)).l i) qom|exact hd7i.bas qom|exact hm.a3.b (i:=gd (numK b (gd m.pl.next (gd order k)) order (gd m.pl.next (gd order k)).length).1 k) (by rw[hgk];omega))) ?_ U Ac;refine o_y U (Lo U isAgg4 (by first|exact c_o|exact cell1 ((hm.a3.mono sbt).cs (i:=gd (numK b (gd m.pl.next (gd order k)) order (gd m.pl.next (gd order k)).length).1 k) (by rw[hgk];omega)))) ?_ U Ac;refine o_e U (A7 (.cons (T U) .nil) (I7 _)) ?_ U Ac;rintro _ _ ⟨n95,rfl,rfl⟩;refine⟨sbt,(Bj U (e_ (Br (gd m.acc (gd order k)) (by':=1) qlc (T U) (T U) runUnderlying133 runUnderlying133 sizeOf4 typeInfo4 U zeroValue4 U (fun _=>rfl) U hoa qde qom (hn:=Lg (congrArg (gd m.acc) hgk).symm A2)) ?_ U))⟩;rintro _ _ ⟨da',rfl,hoka,rfl⟩;refine rO tb 1 U ?_
   first|refine A9 (Ls U U sizeOf133) U Ac ?_|refine A9 (B1 (T U) (T U) U sizeOf133) U Ac ?_|refine A9 (Bu (T U) (T U) U sizeOf133) U Ac ?_
   rintro _ _ ⟨rfl,rfl⟩;refine kO tb 3 [1,2,4,5,6,7,8] rfl U (rG tb 2 U (y_ (Bd (T U) An qom) ?_ U));refine rO tb 2 U ?_;refine A8 ((k+1,(numK b (gd m.pl.next (gd order k)) order (gd m.pl.next (gd order k)).length).1,rows++[(⟨d9,(numK b (gd m.pl.next (gd order k)) order (gd m.pl.next (gd order k)).length).2⟩:Row)],acc++[gd m.acc (gd order k)],d7,dx',da')) ?_ ?_ ⟨(by first|exact Aa U|(refine Ae (Aa U) (vint ?_);omega)|(refine Ae (Aa U) ?_;simp;done)|(refine Ae (Aa U) ?_;exact by simp only[hrow,List.length_append,List.length_cons,List.length_nil])),(by first|exact Aa U|(refine Ae (Aa U) (vint ?_);omega)|(refine Ae (Aa U) ?_;simp;done)|(refine Ae (Aa U) ?_;exact by simp only[hrow,List.length_append,List.length_cons,List.length_nil])),trivial⟩ (kg U) ?_
   ·have hst2:=hord.step htl (gd m.pl.next (gd order k)).length (Nat.le_refl _);have hge:=(I8 b (gd m.pl.next (gd order k)) (order:=order) (k:=k) qom (gd m.pl.next (gd order k)).length).2;refine⟨hst2.1,by omega,by simp[hrl],by simp[hacl],hd7i,by simpa using hokx,by simpa using hoka,?_,?_⟩
    ·intro r hr;simp only[List.mem_append,List.mem_cons,List.not_mem_nil,or_false] at hr;rcases hr with hr|rfl
     ·exact hor r hr
     ·exact hd9
    ·rw[<- hgo,List.map_append,show 201 - k=(200 - k)+1 by omega,numGo_succ,if_pos (show k<order.length by omega),show 201 - (k+1)=200 - k by omega];rfl
   ·show 201 - (k+1)<201 - k;omega
   ·simp only[Hk,List.append_assoc,List.length_append,List.length_cons,List.length_nil,Nat.zero_add];exact sbt
 ·refine rC tb 2 U (Aq (rX tb 4 U (y_ (Lp U isAgg135 sizeOf135 U (by first|exact A2)) ?_ U)))
  first|refine A9 (Ls U U sizeOf135) U Ac ?_
  rintro _ _ ⟨rfl,rfl⟩;refine rO tb 3 U (As U (.cellA (Aa U) isAgg135 sizeOf135 U (by first|exact A2) .nil) ?_);have hfin:numGo m.pl b 201 0 [0] [] []=(rows.map Row.l,acc):=by rw[<- hgo,show 201 - k=(200 - k)+1 by omega,numGo_succ,if_neg qom]
  unfold numF;rw[hfin];exact⟨_,⟨(dx,da,rows),⟨rfl,hox,hoa,rfl,hor⟩,rfl⟩,sbt⟩
theorem row_zero (r:List Nat)(m:Nat)(h:r.length<m):r.flatMap encU++List.replicate (m - r.length) (Value.int .i64 0)=(r++[0]).flatMap encU++List.replicate (m - (r.length+1)) (Value.int .i64 0):=by
 rw[List.flatMap_append,show m - r.length=(m - (r.length+1))+1 by omega,List.replicate_succ];simp
abbrev bit (y:Bool):Nat:=if y then 1 else 0
theorem bit_take {l:List Bool}{k:Nat}(h:k<l.length):(l.take (k+1)).map bit=(l.take k).map bit++[bit (gd l k)]:=by
 rw[List.take_add_one,Dt h];simp
theorem least_s {w0:World}:LeastS w0 leastF:=by
 intro H m hm hp hln;refine Az func126 U ntmps126 U ?_;have hf:=hp.few;have hfl:m.pl.next.length=m.rows.length:=List.length_map ..;have hs:=hp.some';have hal:m.acc.length=m.rows.length:=by have:=hp.acc;rw[hfl] at this;exact this
 refine rD tb 2 U (e_ (Lt U cs_) ?_ U);rintro _ _ ⟨n1,rfl,rfl⟩;refine e_ (Ap zeroValue135 cs_) ?_ U;rintro _ _ ⟨n2,rfl,rfl⟩;refine rO tb 6 U (y_ (Lo U isAgg80 (by first|exact c_o)) ?_ U);refine rO tb 1 U (e_ (Cp (by':=8) (k:=m.rows.length) (T U) runUnderlying41 sizeOf3 typeInfo3 U zeroValue3 U qom qom) ?_ U);rintro _ _ ⟨n12,rfl,rfl⟩;refine rO tb 7 U (y_ (Lo U isAgg133 (by first|exact c_o)) ?_ U);refine rO tb 5 U ?_;refine Bz (X:=Nat) (V:=fun k=>[(16, .int .i64 (k:Nat))]) (C:=[(1,_),(2,_),(3,_),(14,_),(15,_)]) (G:=fun k=>(n12,Cl (((m.acc.take k).map bit).flatMap encU++List.replicate (m.rows.length - ((m.acc.take k).map bit).length) (.int .i64 0)) 3)::((n2,Cl [.slice none 0 0, .slice none 0 0, .slice none 0 0] 135)::(n1,Cl (encMc m) 135)::H)) (φ:=fun k=>k<=m.rows.length) (μ:=fun k=>m.rows.length - k) (x0:=0) ?_ (kg U) ⟨atd,trivial⟩ sb0 ?_
 ·exact Nat.zero_le _
 rintro k hk;refine rD tb 6 U ?_
 first|refine Ak (Aa U) (fun c17=> ?_) (fun c17=> ?_)|refine Au (Aa U) (fun c17=> ?_) (fun c17=> ?_)
 ·have hkl:k<m.rows.length:=by omega
  have hbt:=bit_take (l:=m.acc) (k:=k) qom;refine rC tb 7 U (y_ (Lq U U runUnderlying133 sizeOf4 qom (by first|exact rfl|exact hm.a3.b (i:=k) qom|exact hm.a2.b (i:=k) qom|exact hm.a2.b (i:=i) qom|exact(hm.r (gd m.rows i) (Ao qom)).b (i:=a) qom|exact(hm.r (gd m.rows k) (Ao qom)).b (i:=a) qom)) ?_ U);refine y_ (Lo U isAgg4 (by first|exact c_o|exact cell1 ((hm.a3.mono sbt).cs (i:=k) qom))) ?_ U;refine rO tb 9 U ?_
  first|refine Ak (Aa U) (fun c21=> ?_) (fun c21=> ?_)|refine Au (Aa U) (fun c21=> ?_) (fun c21=> ?_)
  ·have hbit:((m.acc.take (k+1)).map bit)=((m.acc.take k).map bit)++[1]:=by rw[hbt,c21];rfl
   refine rC tb 3 U (y_ (Lq U U runUnderlying41 sizeOf3 qom (by first|exact rfl|exact hm.a3.b (i:=k) qom|exact hm.a2.b (i:=k) qom|exact hm.a2.b (i:=i) qom|exact(hm.r (gd m.rows i) (Ao qom)).b (i:=a) qom|exact(hm.r (gd m.rows k) (Ao qom)).b (i:=a) qom)) ?_ U);refine e_ (eff_sRow (m:=m.rows.length) (v:=1) ((m.acc.take k).map bit) (by simp;omega) (T U) An sizeOf3 (by simp;omega) (by(repeat (first|exact Upd.h|apply Upd.t|apply D7));done)) ?_ U;rintro _ _ ⟨rfl,rfl⟩;refine rO tb 4 U (y_ (Bd (T U) An qom) ?_ U);refine rO tb 2 U ?_;refine A8 (k+1) ?_ ?_ ⟨atd,trivial⟩ (kg U) ?_
   ·show k+1<=_;omega
   ·first|omega|(simp only[];omega)
   ·simp only[hbit,List.length_append,List.length_cons,List.length_nil,Nat.zero_add];exact sbt
  ·have hbit:((m.acc.take (k+1)).map bit)=((m.acc.take k).map bit)++[0]:=by rw[hbt,c21];rfl
   rw[row_zero ((m.acc.take k).map bit) m.rows.length (by simp;omega)];refine rC tb 4 U (y_ (Bd (T U) An qom) ?_ U);refine rO tb 2 U ?_;refine A8 (k+1) ?_ ?_ ⟨atd,trivial⟩ (kg U) ?_
   ·show k+1<=_;omega
   ·first|omega|(simp only[];omega)
   ·simp only[hbit,List.length_append,List.length_cons,List.length_nil,Nat.zero_add];exact sbt
 ·have hk2:k=m.rows.length:=by omega
  have e1:((m.acc.take k).map bit)=initB m.pl:=by rw[hk2,<- hal,List.take_length];rfl
  have e2:(initB m.pl).length=m.rows.length:=by unfold initB;rw[List.length_map];exact hal
  simp only[e1,e2,Nat.sub_self,List.replicate_zero];refine rC tb 2 U (Aq (rX tb 6 U ?_));refine Bz (X:=List Nat × Nat) (V:=fun ⟨b,f⟩=>[]) (C:=[(1,_),(2,_),(3,_)]) (G:=fun ⟨b,f⟩=>slH (.blk n12 m.rows.length []) (b.flatMap encU) 3++((n2,Cl [.slice none 0 0, .slice none 0 0, .slice none 0 0] 135)::(n1,Cl (encMc m) 135)::H)) (φ:=fun ⟨b,f⟩=>b.length=m.rows.length/\Cont b/\m.rows.length+1<=f+maxF b/\refineF m.pl f b=refineF m.pl 201 (initB m.pl)) (μ:=fun ⟨b,f⟩=>f) (x0:=(initB m.pl,201)) ?_ (kg U) trivial sb0 ?_
  ·exact⟨by unfold initB;rw[List.length_map];exact hal,Cont.init (by rw[show m.pl.acc=m.acc from rfl];omega),by omega,rfl⟩
  rintro⟨b,f⟩ ⟨hbl,hco,hfu,href⟩;have hd:SlOk (.blk n12 m.rows.length []) b.length 1:=⟨Nat.le_of_eq hbl,by show 0=(_ - _)*1;rw[hbl];omega⟩;have hmax:=hco.max_le;obtain⟨f,rfl⟩:∃ g,f=g+1:=⟨f - 1,by omega⟩;refine rD tb 10 U ?_;refine Cb (X:=Nat) (V:=fun k=>[(28, .int .i64 (k:Nat))]) (C:=[(1,_),(2,_),(3,_),(27,_)]) (φ:=fun k=>k<=m.rows.length/\∀ j,j<k->fsI m.pl b j=none) (μ:=fun k=>m.rows.length - k) (x0:=0) ?_ (kg U) ⟨atd,trivial⟩ ?_
  ·exact⟨Nat.zero_le _,fun j hj=>absurd hj (Nat.not_lt_zero _)⟩
  rintro k ⟨hk,hfs⟩;refine rD tb 6 U ?_
  first|refine Ak (Aa U) (fun c29=> ?_) (fun c29=> ?_)|refine Au (Aa U) (fun c29=> ?_) (fun c29=> ?_)
  ·have hkn:k<m.rows.length:=by omega
   obtain⟨hk1,hk2⟩:=Jq hp hkn;refine rC tb 17 U ?_;refine Cb (X:=Nat) (V:=fun i=>[(32, .int .i64 (i:Nat))]) (C:=[(1,_),(2,_),(3,_),(6,_),(27,_),(28,_),(31,_)]) (φ:=fun i=>i<=k/\∀ j,j<i->(if gd b j=gd b k then fsA m.pl b k j else none)=none) (μ:=fun i=>k - i) (x0:=0) ?_ (kg U) ⟨atd,trivial⟩ ?_
   ·exact⟨Nat.zero_le _,fun j hj=>absurd hj (Nat.not_lt_zero _)⟩
   rintro i ⟨hi,hfi⟩;refine rD tb 6 U ?_
   first|refine Ak (Aa U) (fun c33=> ?_) (fun c33=> ?_)|refine Au (Aa U) (fun c33=> ?_) (fun c33=> ?_)
   ·have hin:i<m.rows.length:=by omega
    obtain⟨hi1,hi2⟩:=Jq hp hin;refine rC tb 12 U (B9 9 [(0,true),(1,true),(2,true),(3,true),(4,true),(5,true),(6,true),(7,true),(8,true)] _ mixd qkr sb0 ?_ By);refine rP tb 2 U (o_y U (Lq U U runUnderlying41 sizeOf3 qom (by first|exact rfl|exact hm.a3.b (i:=k) qom|exact hm.a2.b (i:=k) qom|exact hm.a2.b (i:=i) qom|exact(hm.r (gd m.rows i) (Ao qom)).b (i:=a) qom|exact(hm.r (gd m.rows k) (Ao qom)).b (i:=a) qom)) ?_ U Ac);refine o_y U (Lo U isAgg3 (by first|exact c_o|exact cell1 (((A5 (X:=H) (enc:=encU) (sz:=1) (e:=3) (l:=b) (fun _=>rfl) hd).mono sbt).cs (i:=i) qom))) ?_ U Ac;refine rP tb 2 U (o_y U (Bl (T U) (T U) runUnderlying41 sizeOf3 qom (by first|exact rfl|exact hm.a3.b (i:=k) qom|exact hm.a2.b (i:=k) qom|exact hm.a2.b (i:=i) qom|exact(hm.r (gd m.rows i) (Ao qom)).b (i:=a) qom|exact(hm.r (gd m.rows k) (Ao qom)).b (i:=a) qom)) ?_ U Ac);refine o_y U (Lo U isAgg3 (by first|exact c_o|exact cell1 (((A5 (X:=H) (enc:=encU) (sz:=1) (e:=3) (l:=b) (fun _=>rfl) hd).mono sbt).cs (i:=k) qom))) ?_ U Ac;refine rP tb 1 U (Bj U (rO tb 2 U ?_))
    first|refine Ak (Aa U) (fun c43=> ?_) (fun c43=> ?_)|refine Au (Aa U) (fun c43=> ?_) (fun c43=> ?_)
    ·have hiA:(if gd b i=gd b k then fsA m.pl b k i else none)=none:=if_neg qom;refine rC tb 5 U (y_ (Bd (T U) An qom) ?_ U);refine rO tb 2 U ?_;refine A8 (i+1) ?_ ?_ ⟨atd,trivial⟩ (kg U) ?_
     ·refine⟨by omega,fun j hj=> ?_⟩
      by_cases e:j=i
      ·subst e;exact hiA
      ·exact hfi j qom
     ·first|omega|(simp only[];omega)
     ·exact sbt
    ·refine rC tb 5 U (y_ (Lo U isAgg80 (by first|exact c_o)) ?_ U);refine rO tb 1 U (y_ (Bl (T U) (T U) runUnderlying80 sizeOf41 qom (by first|exact rfl|exact hm.a3.b (i:=k) qom|exact hm.a2.b (i:=k) qom|exact hm.a2.b (i:=i) qom|exact(hm.r (gd m.rows i) (Ao qom)).b (i:=a) qom|exact(hm.r (gd m.rows k) (Ao qom)).b (i:=a) qom)) ?_ U);refine y_ (Lo U isAgg41 (by first|exact c_o|exact cell1 ((hm.a2.mono sbt).cs (i:=k) qom))) ?_ U;refine rO tb 5 U ?_;refine Cb (X:=Nat) (V:=fun a=>[(50, .int .i64 (a:Nat))]) (C:=[(1,_),(2,_),(3,_),(6,_),(7,_),(27,_),(28,_),(31,_),(32,_),(49,_)]) (φ:=fun a=>a<=m.names.length+1/\∀ a2,a2<a->gd b (nx m.pl i a2)=gd b (nx m.pl k a2)) (μ:=fun a=>m.names.length+1 - a) (x0:=0) ?_ (kg U) ⟨atd,trivial⟩ ?_
     ·exact⟨Nat.zero_le _,fun j hj=>absurd hj (Nat.not_lt_zero _)⟩
     rintro a ⟨ha,hfa⟩;refine rD tb 6 U ?_
     first|refine Ak (Aa U) (fun c51=> ?_) (fun c51=> ?_)|refine Au (Aa U) (fun c51=> ?_) (fun c51=> ?_)
     ·have hi3:=hi2 a qom;have hk3:=hk2 a qom;refine rC tb 11 U (B9 23 [(0,true),(1,true),(2,true),(3,true),(4,true),(5,true),(6,true),(7,true),(8,true),(9,true),(10,true),(11,true),(12,true),(13,true),(14,true),(15,true),(16,true),(17,true),(18,true),(19,true),(20,true),(21,true),(22,true)] _ mixd qkr sb0 ?_ By);refine rP tb 2 U (o_y U (Lo U isAgg80 (by first|exact c_o)) ?_ U Ac);refine rP tb 1 U (o_y U (Bl (T U) (T U) runUnderlying80 sizeOf41 qom (by first|exact rfl|exact hm.a3.b (i:=k) qom|exact hm.a2.b (i:=k) qom|exact hm.a2.b (i:=i) qom|exact(hm.r (gd m.rows i) (Ao qom)).b (i:=a) qom|exact(hm.r (gd m.rows k) (Ao qom)).b (i:=a) qom)) ?_ U Ac);refine o_y U (Lo U isAgg41 (by first|exact c_o|exact cell1 ((hm.a2.mono sbt).cs (i:=i) qom))) ?_ U Ac;refine rP tb 1 U (o_y U (Lq U U runUnderlying41 sizeOf3 qom (by first|exact rfl|exact hm.a3.b (i:=k) qom|exact hm.a2.b (i:=k) qom|exact hm.a2.b (i:=i) qom|exact(hm.r (gd m.rows i) (Ao qom)).b (i:=a) qom|exact(hm.r (gd m.rows k) (Ao qom)).b (i:=a) qom)) ?_ U Ac);refine o_y U (Lo U isAgg3 (by first|exact c_o|exact cell1 (((hm.r (gd m.rows i) (Ao qom)).mono sbt).cs (i:=a) qom))) ?_ U Ac;refine o_y U (Lq U U runUnderlying41 sizeOf3 qom (by first|exact rfl|exact hm.a3.b (i:=k) qom|exact hm.a2.b (i:=k) qom|exact hm.a2.b (i:=i) qom|exact(hm.r (gd m.rows i) (Ao qom)).b (i:=a) qom|exact(hm.r (gd m.rows k) (Ao qom)).b (i:=a) qom)) ?_ U Ac;refine o_y U (Lo U isAgg3 (by first|exact c_o|exact cell1 (((A5 (X:=H) (enc:=encU) (sz:=1) (e:=3) (l:=b) (fun _=>rfl) hd).mono sbt).cs (i:=gd (gd m.rows i).l a) qom))) ?_ U Ac;refine rP tb 2 U (o_y U (Lo U isAgg80 (by first|exact c_o)) ?_ U Ac);refine rP tb 1 U (o_y U (Bl (T U) (T U) runUnderlying80 sizeOf41 qom (by first|exact rfl|exact hm.a3.b (i:=k) qom|exact hm.a2.b (i:=k) qom|exact hm.a2.b (i:=i) qom|exact(hm.r (gd m.rows i) (Ao qom)).b (i:=a) qom|exact(hm.r (gd m.rows k) (Ao qom)).b (i:=a) qom)) ?_ U Ac);refine o_y U (Lo U isAgg41 (by first|exact c_o|exact cell1 ((hm.a2.mono sbt).cs (i:=k) qom))) ?_ U Ac;refine rP tb 1 U (o_y U (Lq U U runUnderlying41 sizeOf3 qom (by first|exact rfl|exact hm.a3.b (i:=k) qom|exact hm.a2.b (i:=k) qom|exact hm.a2.b (i:=i) qom|exact(hm.r (gd m.rows i) (Ao qom)).b (i:=a) qom|exact(hm.r (gd m.rows k) (Ao qom)).b (i:=a) qom)) ?_ U Ac);refine o_y U (Lo U isAgg3 (by first|exact c_o|exact cell1 (((hm.r (gd m.rows k) (Ao qom)).mono sbt).cs (i:=a) qom))) ?_ U Ac;refine o_y U (Lq U U runUnderlying41 sizeOf3 qom (by first|exact rfl|exact hm.a3.b (i:=k) qom|exact hm.a2.b (i:=k) qom|exact hm.a2.b (i:=i) qom|exact(hm.r (gd m.rows i) (Ao qom)).b (i:=a) qom|exact(hm.r (gd m.rows k) (Ao qom)).b (i:=a) qom)) ?_ U Ac;refine o_y U (Lo U isAgg3 (by first|exact c_o|exact cell1 (((A5 (X:=H) (enc:=encU) (sz:=1) (e:=3) (l:=b) (fun _=>rfl) hd).mono sbt).cs (i:=gd (gd m.rows k).l a) qom))) ?_ U Ac;refine rP tb 1 U (Bj U (kO tb 2 [1,2,3,6,7,8,27,28,31,32,49,50,75] rfl U ?_))
      first|refine Ak (Aa U) (fun c75=> ?_) (fun c75=> ?_)|refine Au (Aa U) (fun c75=> ?_) (fun c75=> ?_)
      ·have hne: ¬ gd b (nx m.pl i a)=gd b (nx m.pl k a):=by rw[Jx,Jx];omega
       have hsA:fsA m.pl b k i=some (k,a):=by
        refine fs_some (k:=a) ?_ (if_neg hne) fun a2 ha2=>if_pos (hfa a2 ha2)
        rw[show m.pl.next=m.rows.map RowQ.l from rfl,J8];omega
       have hsI:fsI m.pl b k=some (k,a):=fs_some (k:=i) qom (by rw[if_pos qom];exact hsA) fun j hj=>hfi j hj
       have hsp:findSp m.pl b=some (k,a):=fs_some (k:=k) qom hsI fun j hj=>hfs j hj
       have hco2:=hco.split (m:=m.pl) (i:=i) (k:=k) (a:=a) qom qom qom hne;have hmx2:=split_max (m:=m.pl) (b:=b) (i:=i) (k:=k) (a:=a) qom qom qom hne;refine rC tb 2 U (y_ (Lp U isAgg135 sizeOf135 U (by first|exact A2)) ?_ U);refine rO tb 3 U (e_ (A1 (qe4 U U U U) call168 (B0 (slH (.blk n12 m.rows.length []) (b.flatMap encU) 3) qlc (split_s m (hm.mono sbt) hp (.blk n12 m.rows.length []) m.rows.length b k a hd hbl U qom qom (by have:=hco.max_le;omega)))) ?_ U);rintro _ _ ⟨_,_,rfl⟩;refine rO tb 5 U (Aq (rX tb 3 U (Aq (rX tb 3 U (Aq (rX tb 3 U ?_))))));refine A8 ((splitF m.pl b k a,f)) ?_ ?_ trivial (kg U) ?_
       ·exact⟨by rw[splitF_len];exact hbl,hco2,by omega,by rw[<- href,refineF_some hsp]⟩
       ·first|omega|(simp only[];omega)
       ·exact sbt
      ·have hea:gd b (nx m.pl i a)=gd b (nx m.pl k a):=by rw[Jx,Jx];omega
       refine rC tb 4 U (y_ (Bd (T U) An qom) ?_ U);refine rO tb 2 U ?_;refine A8 (a+1) ?_ ?_ ⟨atd,trivial⟩ (kg U) ?_
       ·refine⟨by omega,fun j hj=> ?_⟩
        by_cases e:j=a
        ·subst e;exact hea
        ·exact hfa j qom
       ·first|omega|(simp only[];omega)
       ·exact sbt
     ·have hiA:(if gd b i=gd b k then fsA m.pl b k i else none)=none:=by
       rw[if_pos qom];refine J7 fun a2 ha2=>if_pos (hfa a2 ?_)
       rw[show m.pl.next=m.rows.map RowQ.l from rfl,J8] at ha2;omega
      refine rC tb 2 U (Aq (rX tb 4 U (y_ (Bd (T U) An qom) ?_ U)));refine rO tb 2 U ?_;refine A8 (i+1) ?_ ?_ ⟨atd,trivial⟩ (kg U) ?_
      ·refine⟨by omega,fun j hj=> ?_⟩
       by_cases e:j=i
       ·subst e;exact hiA
       ·exact hfi j qom
      ·first|omega|(simp only[];omega)
      ·exact sbt
   ·have hkI:fsI m.pl b k=none:=J7 fun j hj=>hfi j qom
    refine rC tb 2 U (Aq (rX tb 4 U (y_ (Bd (T U) An qom) ?_ U)));refine rO tb 2 U ?_;refine A8 (k+1) ?_ ?_ ⟨atd,trivial⟩ (kg U) ?_
    ·refine⟨by omega,fun j hj=> ?_⟩
     by_cases e:j=k
     ·subst e;exact hkI
     ·exact hfs j qom
    ·first|omega|(simp only[];omega)
    ·exact sbt
  ·have hnone:findSp m.pl b=none:=J7 fun j hj=>hfs j qom
   refine rC tb 2 U (Aq (rX tb 4 U (y_ (Lp U isAgg135 sizeOf135 U (by first|exact A2)) ?_ U)));refine rO tb 1 U (e_ (A1 (qe2 U U) call169 (numbered_s m (hm.mono sbt) hp hln _ _ b ((A5 (X:=H) (enc:=encU) (sz:=1) (e:=3) (l:=b) (fun _=>rfl) hd).mono sbt) m.rows.length hbl U)) ?_ U);rintro _ _ ⟨x,⟨rfl,hox⟩,rfl⟩
   first|refine A9 (Ls U U sizeOf135) U Ac ?_
   rintro _ _ ⟨rfl,rfl⟩;refine rO tb 4 U (Bc (rX tb 2 U (As U (.cellA (Aa U) isAgg135 sizeOf135 U (by first|exact A2) .nil) ?_)));have hfin:refineF m.pl 201 (initB m.pl)=b:=by rw[<- href,refineF_none hnone]
   unfold leastF;rw[hfin];exact⟨_,⟨x,⟨rfl,hox⟩,rfl⟩,sbt⟩
theorem buildL_s {w0:World}:BuildS w0 leastF:=build_s least_s
end Go.Proofs.YtnafbfbfmgfcfaaGreatDoor
namespace Go.Proofs.YtnafbfbfmgfcfaaGreatDoor
open _root_.Go.Proofs.Tryz
open Go.RowKit Go.Shelf Go.Sort Go.Proofs
set_option linter.unusedVariables false
set_option linter.unusedSimpArgs false
set_option linter.unusedSectionVars false
set_option maxRecDepth 100000
section
variable {P:Program} {w0:World} {L:Fm} {H:List (Nat × Obj)} {ty t1 t2 xt yt:TypeId} {x y:Operand}
theorem yl_convI {k k':IntKind}{td:TypeDesc}{a:Int}(hx:Ev L x (.int k' a))(hs:∀ w,(underlying t1).run P w= .ok td w)(ht:∀ w,(underlying t2).run P w= .ok (.int k) w):
  Yl P w0 (.convert t1 t2 x) ty L H (.int k (k.wrap a)):=B3 U fun b w=>by
 simp[exO,execOp,hx b,convert,hs,ht,Conv.intToInt,Sem.run_bind,Result.andThen]
theorem p63:(2:Nat) ^ 63=9223372036854775808:=by decide
theorem yl_convU {td:TypeDesc}{n:Nat}(hn:n<2 ^ 63)(hx:Ev L x (.int .i64 (n:Int)))(ht1:∀ w,(underlying t1).run P w= .ok td w)(ht2:∀ w,(underlying t2).run P w= .ok (.int .u64) w):Yl P w0 (.convert t1 t2 x) ty L H (.int .u64 (n:Int)):=by
 have h:=yl_convI (P:=P) (w0:=w0) (ty:=ty) (H:=H) hx ht1 ht2;rw[show IntKind.u64.wrap (n:Int)=n from Gr (Nat.lt_trans hn qde)] at h;exact h
theorem yl_convB64 {td:TypeDesc}{n:Nat}(hn:n<2 ^ 63)(hx:Ev L x (.int .u64 (n:Int)))(ht1:∀ w,(underlying t1).run P w= .ok td w)(ht2:∀ w,(underlying t2).run P w= .ok (.int .i64) w):Yl P w0 (.convert t1 t2 x) ty L H (.int .i64 (n:Int)):=by
 have h:=yl_convI (P:=P) (w0:=w0) (ty:=ty) (H:=H) hx ht1 ht2;have:=p63;rw[show IntKind.i64.wrap (n:Int)=n from IntWalk.i64_in _ qom] at h;exact h
theorem yl_shrU {m:Nat}(hx:Ev L x (.int .u64 (m:Int)))(hy:Ev L y (.int .u64 1)):Yl P w0 (.binOp .shr xt x y yt) ty L H (.int .u64 ((m / 2:Nat):Int)):=B3 U fun b w=>by
 have e3:(Op.shift .shr .u64 (m:Int) .u64 1).run P w= .ok (.int .u64 ((m / 2:Nat):Int)) w:=by
  unfold Op.shift;rw[if_neg qde];simp only[IntKind.bits];show Result.ok (Value.int .u64 ((m:Int).fdiv (2 ^ 1))) w=_;rw[Int.fdiv_eq_ediv_of_nonneg _ qde]
  congr 2
 simp[exO,execOp,hx b,hy b,binOp,eqGuard,Sem.run_bind,Result.andThen,e3]
end
end Go.Proofs.YtnafbfbfmgfcfaaGreatDoor
namespace Go.Proofs.YtnafbfbfmgfcfaaGreatDoor
open _root_.Go.Proofs.Tryz
open Go.RowKit
set_option linter.unusedVariables false
set_option linter.unusedSimpArgs false
set_option linter.unusedSectionVars false
set_option maxRecDepth 100000
theorem ltU_trans {a b c:List UInt8}(h1:a<b)(h2:b<c):a<c:=List.lt_trans h1 h2
def lbF (names:List ByteArray) (s:ByteArray):Nat:=(names.filter fun x=>decide (toL x<toL s)).length
theorem lbF_eq:∀ {names:List ByteArray} {s:ByteArray} {i:Nat},i<=names.length->(∀ j,j<i->toL (gd names j)<toL s)->(∀ j,i<=j->j<names.length->¬ toL (gd names j)<toL s)->lbF names s=i
 |[],s,i,hi,_,_=>by simp at hi;simp[lbF,hi]
 |x::l,s,0,hi,h1,h2=>by
  have h3:=lbF_eq (names:=l) (s:=s) (i:=0) (Nat.zero_le _) (fun j hj=>absurd hj (Nat.not_lt_zero _)) (fun j _ hj=>by
   have:=h2 (j+1) qom (by simpa using hj)
   simpa[gd] using this)
  have h0:=h2 0 (Nat.le_refl _) (by simp);have h4: ¬ toL x<toL s:=by simpa[gd] using h0
  unfold lbF at *;rw[List.filter_cons,if_neg (by simpa using h4)];exact h3
 |x::l,s,i+1,hi,h1,h2=>by
  have h3:=lbF_eq (names:=l) (s:=s) (i:=i) (by simpa using hi) (fun j hj=>by
   have:=h1 (j+1) qom
   simpa[gd] using this) (fun j h5 hj=>by
   have:=h2 (j+1) qom (by simpa using hj)
   simpa[gd] using this)
  have h4:toL x<toL s:=by simpa[gd] using h1 0 qom
  unfold lbF at *;rw[List.filter_cons,if_pos (by simpa using h4),List.length_cons,h3]
def Srt (names:List ByteArray):Prop:=names.Pairwise fun a b=>toL a<toL b
theorem Srt.lt {names:List ByteArray}(h:Srt names){i j:Nat}(hij:i<j)(hj:j<names.length):toL (gd names i)<toL (gd names j):=by
 rw[Ay qom,Ay hj];exact List.pairwise_iff_getElem.1 h i j qom hj hij
theorem lbF_le (names:List ByteArray)(s:ByteArray):lbF names s<=names.length:=List.length_filter_le _ _
def lett (names:List ByteArray) (s:ByteArray):Nat:=if lbF names s<names.length/\toL (gd names (lbF names s))=toL s then lbF names s else names.length
theorem lett_le (names:List ByteArray)(s:ByteArray):lett names s<=names.length:=by
 unfold lett;split<;>omega
def afterF (m:PM) (st:Nat) (s:ByteArray):Nat:=nx m st (lett m.names s)
def runM (m:PM) (l:List ByteArray):Nat:=l.foldl (afterF m) 0
theorem nx_lt {m:PM}(h:PMok m){i a:Nat}(hi:i<m.next.length)(ha:a<m.names.length+1):nx m i a<m.next.length:=by
 obtain⟨h1,h2⟩:=h.row (gd m.next i) (Ao hi);exact h2 _ (Ao (by rw[h1];exact ha))
theorem after_lt {m:PM}(h:PMok m){i:Nat}(hi:i<m.next.length)(s:ByteArray):afterF m i s<m.next.length:=nx_lt h hi (Nat.lt_succ_of_le (lett_le _ _))
theorem I9 {m:PM}(h:PMok m)(l:List ByteArray):runM m l<m.next.length:=by
 unfold runM
 suffices ∀ st,st<m.next.length->l.foldl (afterF m) st<m.next.length from this 0 h.some'
 induction l with
 |nil=>intro st h;exact h
 |cons s l ih=>intro st h2;exact ih _ (after_lt h h2 s)
theorem runM_take {m:PM}{l:List ByteArray}{i:Nat}(h:i<l.length):runM m (l.take (i+1))=afterF m (runM m (l.take i)) (gd l i):=by
 unfold runM;rw[List.take_add_one,Dt h,List.foldl_append];rfl
theorem nan1_s {w0:World}{H:List (Nat × Obj)}(a:ByteArray):
  FSpec prog w0 230 #[.string a] H (Still (.bool false) H):=by
 refine Az func230 U ntmps230 U (rD tb 9 U (y_ (yl_neSD (T U) (T U)) (rO tb 4 U (As U (Ll U) ?_)) U));exact⟨_,⟨vbool (by simp),rfl⟩,sbt⟩
theorem nan2_s {w0:World}{H:List (Nat × Obj)}(a:ByteArray):
  FSpec prog w0 200 #[.string a] H (Still (.bool false) H):=by
 refine Az func200 U ntmps200 U (rD tb 9 U (y_ (yl_neSD (T U) (T U)) (rO tb 4 U (As U (Ll U) ?_)) U));exact⟨_,⟨vbool (by simp),rfl⟩,sbt⟩
theorem less_s {w0:World}{H:List (Nat × Obj)}(a b:ByteArray):
  FSpec prog w0 199 #[.string a, .string b] H (Still (.bool (decide (toL a<toL b))) H):=by
 refine Az func199 U ntmps199 U (rD tb 8 U (y_ (Bb (qe1 U) call230 (fun H' hs=>nan1_s _)) (rO tb 8 U (A3 (yl_ltS (T U) (T U)) U (Ax U U (Aa U)) (rO tb 5 U (As U (Ll U) ?_)))) U));exact⟨_,⟨rfl,rfl⟩,sbt⟩
theorem bs_s {w0:World}{H:List (Nat × Obj)}(names:List ByteArray)(q:Option Addr)(c:Nat)(s:ByteArray)(hA:Arr w0 H q 1 encS names)(hs:Srt names)(hlen:names.length<=4611686018427387903):
  FSpec prog w0 174 #[.slice q names.length c, .string s] H (Still (.tuple #[.int .i64 (lbF names s:Nat), .bool (decide (lbF names s<names.length/\toL (gd names (lbF names s))=toL s))]) H):=by
 refine Az func174 U ntmps174 U (rD tb 22 U ?_);refine Cb (X:=Nat × Nat) (V:=fun ⟨i,j⟩=>[(7, .int .i64 (i:Nat)),(8, .int .i64 (j:Nat))]) (C:=[(0,_),(1,_),(6,_)]) (φ:=fun ⟨i,j⟩=>i<=j/\j<=names.length/\(∀ k,k<i->toL (gd names k)<toL s)/\(∀ k,j<=k->k<names.length->¬ toL (gd names k)<toL s)) (μ:=fun ⟨i,j⟩=>j - i) (x0:=(0,names.length)) ?_ (kg U) ⟨atd,atd,trivial⟩ ?_
 ·exact⟨Nat.zero_le _,Nat.le_refl _,fun k hk=>absurd hk (Nat.not_lt_zero _),fun k h1 h2=>by omega⟩
 rintro⟨i,j⟩ ⟨hij0,hj,h1,h2⟩;refine rD tb 8 U ?_
 first|refine Ak (Aa U) (fun c15=> ?_) (fun c15=> ?_)|refine Au (Aa U) (fun c15=> ?_) (fun c15=> ?_)
 ·have hij:i<j:=by omega
  refine rC tb 7 U (y_ (Bd (T U) (T U) qom) ?_ U);refine y_ (yl_convU (n:=i+j) (by have:=p63;omega) (T U) runUnderlying3 runUnderlying280) ?_ U;refine y_ (yl_shrU (T U) An) (y_ (yl_convB64 (n:=(i+j) / 2) (by have:=p63;omega) (T U) runUnderlying280 runUnderlying3) ?_ U) U;refine rO tb 7 U (y_ (Lq U U runUnderlying68 sizeOf9 qom (by first|exact rfl|exact hA.b (i:=((i+j) / 2)) qom|exact hA.b (i:=i) qom)) ?_ U);refine y_ (Lo U isAgg9 (by first|exact c_o|exact cell1 ((hA.mono sbt).cs (i:=((i+j) / 2)) qom)|exact cell1 ((hA.mono sbt).cs (i:=((i+j) / 2)) qom)|exact cell1 ((hA.mono sbt).cs (i:=i) qom))) ?_ U;refine rO tb 1 U (y_ (Bb (qe2 U U) call199 (fun H' hs=>less_s _ _)) (rO tb 2 U ?_) U)
  first|refine Ak (Aa U) (fun c27=> ?_) (fun c27=> ?_)|refine Au (Aa U) (fun c27=> ?_) (fun c27=> ?_)
  ·refine rC tb 2 U (y_ (Bd (T U) An qom) ?_ U);refine rO tb 3 U ?_;refine A8 ((((i+j) / 2)+1,j)) ?_ ?_ ⟨atd,atd,trivial⟩ (kg U) ?_
   ·refine⟨by omega,hj,fun k hk=> ?_,h2⟩
    by_cases e:k=((i+j) / 2)
    ·subst e;exact c27
    ·exact ltU_trans (hs.lt (show k<((i+j) / 2) by omega) qom) c27
   ·first|omega|(simp only[];omega)
   ·exact sbt
  ·refine rC tb 5 U ?_;refine A8 ((i,((i+j) / 2))) ?_ ?_ ⟨atd,atd,trivial⟩ (kg U) ?_
   ·refine⟨by omega,by omega,h1,fun k hk hk2 h3=> ?_⟩
    by_cases e:k=((i+j) / 2)
    ·subst e;exact c27 h3
    ·exact c27 (ltU_trans (hs.lt (show ((i+j) / 2)<k by omega) hk2) h3)
   ·first|omega|(simp only[];omega)
   ·exact sbt
 ·have hij:i=j:=by omega
  subst hij;have hlb:=lbF_eq hj h1 h2;refine rC tb 2 U (Aq (rX tb 9 U ?_))
  first|refine Bi (s:=35) (Aa U) (fun c35=> ?_) (fun c35=> ?_)|refine B2 (s:=35) (Aa U) (fun c35=> ?_) (fun c35=> ?_)
  ·refine rO tb 2 U (A3 (Lq U U runUnderlying68 sizeOf9 qom (by first|exact rfl|exact hA.b (i:=((i+j) / 2)) qom|exact hA.b (i:=i) qom)) U (Ax U U (Aa U)) ?_);refine A3 (Lo U isAgg9 (by first|exact c_o|exact cell1 ((hA.mono sbt).cs (i:=i) qom)|exact cell1 ((hA.mono sbt).cs (i:=((i+j) / 2)) qom)|exact cell1 ((hA.mono sbt).cs (i:=i) qom))) U (Ax U U (Aa U)) ?_;refine rO tb 1 U (A3 (Fn (T U) (T U)) U (Ax U U (Aa U)) (rO tb 1 U ?_))
   first|refine Bi (s:=42) (Aa U) (fun c42=> ?_) (fun c42=> ?_)|refine B2 (s:=42) (Aa U) (fun c42=> ?_) (fun c42=> ?_)
   ·refine kO tb 15 [4,5] rfl U (rG tb 1 U (As U (.tmp (Aa U) (Ll U)) ?_));rw[hlb]
    first|exact⟨_,⟨congrArg (fun b=>Value.tuple #[.int .i64 (i:Int), .bool b]) (by symm;exact decide_eq_true ⟨by omega,c42⟩),rfl⟩,sbt⟩|exact⟨_,⟨congrArg (fun b=>Value.tuple #[.int .i64 (i:Int), .bool b]) (by symm;exact decide_eq_false fun h=>c42 h.2),rfl⟩,sbt⟩|exact⟨_,⟨congrArg (fun b=>Value.tuple #[.int .i64 (i:Int), .bool b]) (by symm;exact decide_eq_false fun h=>by omega),rfl⟩,sbt⟩
   ·refine rO tb 2 U (A3 (Lq U U runUnderlying68 sizeOf9 qom (by first|exact rfl|exact hA.b (i:=((i+j) / 2)) qom|exact hA.b (i:=i) qom)) U (Ax U U (Aa U)) ?_);refine A3 (Lo U isAgg9 (by first|exact c_o|exact cell1 ((hA.mono sbt).cs (i:=((i+j) / 2)) qom)|exact cell1 ((hA.mono sbt).cs (i:=i) qom))) U (Ax U U (Aa U)) ?_;refine A3 (Bb (qe1 U) call200 (fun H' hs=>nan2_s _)) U (Ax U U (Aa U)) (kO tb 10 [4,5] rfl U (rG tb 1 U (As U (.tmp (Aa U) (Ll U)) ?_)));rw[hlb]
    first|exact⟨_,⟨congrArg (fun b=>Value.tuple #[.int .i64 (i:Int), .bool b]) (by symm;exact decide_eq_true ⟨by omega,c42⟩),rfl⟩,sbt⟩|exact⟨_,⟨congrArg (fun b=>Value.tuple #[.int .i64 (i:Int), .bool b]) (by symm;exact decide_eq_false fun h=>c42 h.2),rfl⟩,sbt⟩|exact⟨_,⟨congrArg (fun b=>Value.tuple #[.int .i64 (i:Int), .bool b]) (by symm;exact decide_eq_false fun h=>by omega),rfl⟩,sbt⟩
  ·refine kO tb 22 [4,5] rfl U (rG tb 1 U (As U (.tmp (Aa U) (Ll U)) ?_));rw[hlb]
   first|exact⟨_,⟨congrArg (fun b=>Value.tuple #[.int .i64 (i:Int), .bool b]) (by symm;exact decide_eq_true ⟨by omega,c42⟩),rfl⟩,sbt⟩|exact⟨_,⟨congrArg (fun b=>Value.tuple #[.int .i64 (i:Int), .bool b]) (by symm;exact decide_eq_false fun h=>c42 h.2),rfl⟩,sbt⟩|exact⟨_,⟨congrArg (fun b=>Value.tuple #[.int .i64 (i:Int), .bool b]) (by symm;exact decide_eq_false fun h=>by omega),rfl⟩,sbt⟩
structure Ln where
 src:Nat
 dst:Nat
 cap:Int
instance:Inhabited Ln:=⟨⟨0,0,0⟩⟩
abbrev encLn (x:Ln):List Value:=[.int .i64 (x.src:Int), .int .i64 (x.dst:Int), .int .i64 x.cap]
structure Nn where
 nodes:List Nod
 links:List Ln
 edges:List Edg
 qn:Option Addr
 cn:Nat
 ql:Option Addr
 cl:Nat
 qe:Option Addr
 ce:Nat
abbrev encNn (n:Nn):List Value:=[.slice n.qn n.nodes.length n.cn, .slice n.ql n.links.length n.cl, .slice n.qe n.edges.length n.ce]
structure NetR (w0:World) (H:List (Nat × Obj)) (n:Nn):Prop where
 nodes:Arr w0 H n.qn 4 encN n.nodes
 links:Arr w0 H n.ql 3 encLn n.links
theorem NetR.mono {w0:World}{H H':List (Nat × Obj)}{n:Nn}(h:NetR w0 H n)(hs:H.Sublist H':=by exact sbt):NetR w0 H' n:=⟨h.nodes.mono hs,h.links.mono hs⟩
structure NnOk (n:Nn):Prop where
 fewN:n.nodes.length<=12
 fewL:n.links.length<=30
 ends:∀ x∈n.links,x.src<n.nodes.length/\x.dst<n.nodes.length
structure Flr where
 q:Option Addr
 c:Nat
 links:List Int
 node:Int
abbrev encFl (f:Flr):List Value:=[.slice f.q f.links.length f.c, .int .i64 f.node]
def upF (n:Nn) (f:Flr) (l:Nat):Bool:=decide (¬ ((gd n.links l).src:Int)=f.node)&&(decide (¬ ((gd n.links l).dst:Int)=f.node)&&decide (¬ (l:Int)∈f.links))
def outK (n:Nn) (node:Nat):Nat->List Nat
 |0=>[]
 |i+1=>if (gd n.links i).src=node then outK n node i++[i] else outK n node i
theorem Fz (n:Nn)(node i:Nat):outK n node (i+1)=if (gd n.links i).src=node then outK n node i++[i] else outK n node i:=rfl
def outF (n:Nn) (node:Nat):List Nat:=outK n node n.links.length
theorem Gz (n:Nn)(node x:Nat):∀ i,x∈outK n node i↔x<i/\(gd n.links x).src=node
 |0=>by simp[outK]
 |i+1=>by
  rw[Fz];have ih:=Gz n node x i
  split
  ·rename_i h;rw[List.mem_append,ih]
   constructor
   ·rintro(h1|h1)
    ·exact⟨by omega,h1.2⟩
    ·simp at h1;subst h1;exact⟨by omega,h⟩
   ·rintro⟨h1,h2⟩
    by_cases e:x=i
    ·subst e;exact .inr (by simp)
    ·exact .inl ⟨by omega,h2⟩
  ·rename_i h;rw[ih]
   constructor
   ·rintro⟨h1,h2⟩;exact⟨by omega,h2⟩
   ·rintro⟨h1,h2⟩
    by_cases e:x=i
    ·subst e;exact absurd h2 h
    ·exact⟨by omega,h2⟩
theorem outK_len (n:Nn)(node:Nat):∀ i,(outK n node i).length<=i
 |0=>Nat.le_refl _
 |i+1=>by
  have:=outK_len n node i;rw[Fz];split
  ·simp;omega
  ·omega
def wkF (n:Nn):Int->List Int->Option Int
 |x,[]=>some x
 |x,l::ls=>if 0<=l/\l<n.links.length/\((gd n.links l.toNat).src:Int)=x then wkF n ((gd n.links l.toNat).dst:Int) ls else none
theorem wkF_snoc (n:Nn):∀ (ls:List Int) (x l:Int),wkF n x (ls++[l])=(wkF n x ls).bind fun y=>if 0<=l/\l<n.links.length/\((gd n.links l.toNat).src:Int)=y then some ((gd n.links l.toNat).dst:Int) else none
 |[],x,l=>by simp[wkF]
 |a::ls,x,l=>by
  rw[List.cons_append,wkF,wkF]
  split
  ·exact wkF_snoc n ls _ l
  ·rfl
theorem after_s {w0:World}{H:List (Nat × Obj)}(m:Mc)(hm:McOk w0 H m)(hp:PMok m.pl)(hsr:Srt m.names)(hl:m.names.length<=4611686018427387903)(st:Nat)(hst:st<m.rows.length)(s:ByteArray):
  FSpec prog w0 132 #[.agg (encMc m).toArray, .int .i64 (st:Int), .string s] H (Still (.int .i64 (afterF m.pl st s:Nat)) H):=by
 refine Az func132 U ntmps132 U ?_;obtain⟨hr1,hr2⟩:=Jq hp hst;have hle:=lbF_le m.names s;refine rD tb 2 U (e_ (Lt U cs_) ?_ U);rintro _ _ ⟨n3,rfl,rfl⟩;refine rO tb 6 U (y_ (Lo U isAgg68 (by first|exact c_o)) ?_ U);refine rO tb 1 U (y_ (Bb (qe2 U U) call174 (fun H' hs=>bs_s m.names _ _ s (hm.a1.mono (stn hs)) hsr hl)) (rO tb 11 U ?_) U)
 first|refine A3 (B7 (T U)) U Ac ?_|refine A3 (Cc (T U)) U Ac ?_
 refine rO tb 2 U ?_
 first|refine Ak (Aa U) (fun c17=> ?_) (fun c17=> ?_)|refine Au (Aa U) (fun c17=> ?_) (fun c17=> ?_)
 ·have hlt:lett m.names s=m.names.length:=by unfold lett;rw[if_neg c17]
  refine rC tb 2 U (y_ (Lo U isAgg68 (by first|exact c_o)) ?_ U);refine rO tb 7 U (y_ (Lo U isAgg80 (by first|exact c_o)) ?_ U);refine rO tb 1 U (y_ (Lq U U runUnderlying80 sizeOf41 qom (by first|exact rfl|exact hm.a2.b (i:=st) hst|exact(hm.r (gd m.rows st) (Ao hst)).b (i:=0) qom)) ?_ U);refine y_ (Lo U isAgg41 (by first|exact c_o|exact cell1 ((hm.a2.mono sbt).cs (i:=st) hst))) ?_ U;refine rO tb 1 U (y_ (Lq U U runUnderlying41 sizeOf3 qom (by first|exact rfl|exact hm.a2.b (i:=st) hst|exact(hm.r (gd m.rows st) (Ao hst)).b (i:=0) qom)) ?_ U);refine y_ (Lo U isAgg3 (by first|exact c_o|exact cell1 (((hm.r (gd m.rows st) (Ao hst)).mono sbt).cs (i:=m.names.length) qom)|exact cell1 (((hm.r (gd m.rows st) (Ao hst)).mono sbt).cs (i:=k) qom))) ?_ U;refine rO tb 4 U (As U (Ll U) (⟨_,⟨?_,rfl⟩,sbt⟩));show resOf [.int .i64 _]= .int .i64 ((nx m.pl st (lett m.names s):Nat):Int);rw[Jx,hlt];rfl
 ·obtain⟨k,hk⟩:∃ k,k=lbF m.names s:=⟨_,rfl⟩;have hlt:lett m.names s=k:=by unfold lett;rw[if_pos (Classical.not_not.1 c17),hk]
  simp only[<- hk];refine rC tb 5 U (y_ (Lo U isAgg80 (by first|exact c_o)) ?_ U);refine rO tb 1 U (y_ (Lq U U runUnderlying80 sizeOf41 qom (by first|exact rfl|exact hm.a2.b (i:=st) hst|exact(hm.r (gd m.rows st) (Ao hst)).b (i:=0) qom)) ?_ U);refine y_ (Lo U isAgg41 (by first|exact c_o|exact cell1 ((hm.a2.mono sbt).cs (i:=st) hst))) ?_ U;refine rO tb 1 U (y_ (Lq U U runUnderlying41 sizeOf3 qom (by first|exact rfl|exact hm.a2.b (i:=st) hst|exact(hm.r (gd m.rows st) (Ao hst)).b (i:=0) qom)) ?_ U);refine y_ (Lo U isAgg3 (by first|exact c_o|exact cell1 (((hm.r (gd m.rows st) (Ao hst)).mono sbt).cs (i:=m.names.length) qom)|exact cell1 (((hm.r (gd m.rows st) (Ao hst)).mono sbt).cs (i:=k) qom))) ?_ U;refine rO tb 4 U (As U (Ll U) (⟨_,⟨?_,rfl⟩,sbt⟩));show resOf [.int .i64 _]= .int .i64 ((nx m.pl st (lett m.names s):Nat):Int);rw[Jx,hlt];rfl
theorem idxI_s {w0:World}{H:List (Nat × Obj)}(l:List Int)(q:Option Addr)(c:Nat)(s:Int)(hA:Arr w0 H q 1 encI l)(hlen:l.length<=4611686018427387903):
  FSpec prog w0 111 #[.slice q l.length c, .int .i64 s] H ((fun v H'=>(∃ i:Int,v= .int .i64 i/\(0<=i↔s∈l))/\H'=H)):=by
 refine Az func111 U ntmps111 U (rD tb 14 U ?_);refine Cb (X:=Nat) (V:=fun i=>[(8, .int .i64 (i:Nat))]) (C:=[(0,_),(1,_),(7,_)]) (φ:=fun i=>i<=l.length/\∀ j,j<i->¬ s=gd l j) (μ:=fun i=>l.length - i) (x0:=0) ?_ (kg U) ⟨atd,trivial⟩ ?_
 ·exact⟨Nat.zero_le _,fun j hj=>absurd hj (Nat.not_lt_zero _)⟩
 rintro i ⟨hi,hno⟩;refine rD tb 6 U ?_
 first|refine Ak (Aa U) (fun c9=> ?_) (fun c9=> ?_)|refine Au (Aa U) (fun c9=> ?_) (fun c9=> ?_)
 ·refine rC tb 15 U (y_ (Lq U U runUnderlying41 sizeOf3 qom (by first|exact rfl|exact hA.b (i:=i) qom)) ?_ U);refine y_ (Lo U isAgg3 (by first|exact c_o|exact cell1 ((hA.mono sbt).cs (i:=i) qom))) ?_ U;refine rO tb 3 U ?_
  first|refine Ak (Aa U) (fun c16=> ?_) (fun c16=> ?_)|refine Au (Aa U) (fun c16=> ?_) (fun c16=> ?_)
  ·refine rC tb 9 U (Bc (rX tb 2 U (As U (Ll U) ?_)));exact⟨_,⟨⟨_,rfl,fun _=>by rw[c16];exact Ao qom,fun _=>by omega⟩,rfl⟩,sbt⟩
  ·refine rC tb 4 U (y_ (Bd (T U) An qom) ?_ U);refine rO tb 2 U ?_;refine A8 (i+1) ?_ ?_ ⟨atd,trivial⟩ (kg U) ?_
   ·refine⟨by omega,fun j hj=> ?_⟩
    by_cases e:j=i
    ·subst e;exact c16
    ·exact hno j qom
   ·first|omega|(simp only[];omega)
   ·exact sbt
 ·refine rC tb 2 U (Aq (rX tb 8 U (As U (Ll U) (⟨_,⟨⟨-1,rfl,fun h=>absurd h qde,fun h=> ?_⟩,rfl⟩,sbt⟩))));obtain⟨j,hj,e⟩:=List.getElem_of_mem h;exact absurd (by rw[Ay hj];exact e.symm) (hno j qom)
theorem hasI_s {w0:World}{H:List (Nat × Obj)}(l:List Int)(q:Option Addr)(c:Nat)(s:Int)(hA:Arr w0 H q 1 encI l)(hlen:l.length<=4611686018427387903):
  FSpec prog w0 58 #[.slice q l.length c, .int .i64 s] H (Still (.bool (decide (s∈l))) H):=by
 refine Az func58 U ntmps58 U (rD tb 9 U (e_ (A1 (qe2 U U) call111 (idxI_s l q c s hA hlen)) ?_ U));rintro _ _ ⟨⟨i,rfl,hi⟩,rfl⟩;refine rO tb 5 U (As U (Ll U) ?_);exact⟨_,⟨vbool (decide_eq_decide.2 hi),rfl⟩,sbt⟩
theorem gup_s {w0:World}{H:List (Nat × Obj)}(n:Nn)(hn:NetR w0 H n)(f:Flr)(hf:Arr w0 H f.q 1 encI f.links)(hfl:f.links.length<=4611686018427387903)(l:Nat)(hl:l<n.links.length):
  FSpec prog w0 30 #[.agg (encNn n).toArray, .agg (encFl f).toArray, .int .i64 (l:Int)] H (Still (.bool (upF n f l)) H):=by
 refine Az func30 U ntmps30 U (rD tb 2 U (e_ (Lt U cs_) ?_ U));rintro _ _ ⟨n3,rfl,rfl⟩;refine e_ (Lt U cs_) ?_ U;rintro _ _ ⟨n4,rfl,rfl⟩;refine rO tb 6 U (y_ (Lo U isAgg23 (by first|exact c_o)) ?_ U);refine rO tb 1 U (y_ (Lq U U runUnderlying23 sizeOf95 qom (by first|exact rfl|exact hn.links.b (i:=l) hl)) ?_ U);refine y_ (Lp U isAgg95 sizeOf95 U (by first|exact(hn.links.mono sbt).cs (i:=l) hl|exact A2)) ?_ U;refine e_ (Ap zeroValue95 cs_) ?_ U;rintro _ _ ⟨n7,rfl,rfl⟩
 first|refine A9 (Ls U U sizeOf95) U Ac ?_
 rintro _ _ ⟨rfl,rfl⟩;refine rO tb 5 U (y_ (Lo U isAgg3 (by first|exact c_o)) ?_ U);refine rO tb 1 U (y_ (Lo U isAgg3 (by first|exact c_o)) ?_ U);refine rO tb 2 U ?_
 first|refine Bi (s:=18) (Aa U) (fun c18=> ?_) (fun c18=> ?_)|refine B2 (s:=18) (Aa U) (fun c18=> ?_) (fun c18=> ?_)
 ·refine rO tb 1 U (A3 (Lo U isAgg3 (by first|exact c_o)) U (Ax U U (Aa U)) ?_);refine rO tb 1 U (A3 (Lo U isAgg3 (by first|exact c_o)) U (Ax U U (Aa U)) ?_);refine rO tb 3 U ?_
  first|refine Bi (s:=25) (Aa U) (fun c25=> ?_) (fun c25=> ?_)|refine B2 (s:=25) (Aa U) (fun c25=> ?_) (fun c25=> ?_)
  ·refine rO tb 1 U (A3 (Lo U isAgg41 (by first|exact c_o)) U (Ax U U (Aa U)) ?_);refine rO tb 1 U (A3 (Bb (qe2 U U) call58 (fun H' hs=>hasI_s f.links f.q f.c (l:Int) (hf.mono (stn hs)) hfl)) U (Ax U U (Aa U)) ?_)
   first|refine A3 (B7 (T U)) U (Ax U U (Aa U)) ?_|refine A3 (Cc (T U)) U (Ax U U (Aa U)) ?_
   refine kO tb 4 [6] rfl U (rG tb 1 U (As U (Ll U) (⟨_,⟨vbool ?_,rfl⟩,sbt⟩)));unfold upF
   first|(rw[decide_eq_true c18,decide_eq_true c25];rfl)|(rw[decide_eq_true c18,decide_eq_false c25];rfl)|(rw[decide_eq_false c18];rfl)
  ·refine kO tb 9 [6] rfl U (rG tb 1 U (As U (Ll U) (⟨_,⟨vbool ?_,rfl⟩,sbt⟩)));unfold upF
   first|(rw[decide_eq_true c18,decide_eq_true c25];rfl)|(rw[decide_eq_true c18,decide_eq_false c25];rfl)|(rw[decide_eq_false c18];rfl)
 ·refine kO tb 16 [6] rfl U (rG tb 1 U (As U (Ll U) (⟨_,⟨vbool ?_,rfl⟩,sbt⟩)));unfold upF
  first|(rw[decide_eq_true c18,decide_eq_true c25];rfl)|(rw[decide_eq_true c18,decide_eq_false c25];rfl)|(rw[decide_eq_false c18];rfl)
theorem out1_s {w0:World}{H:List (Nat × Obj)}(x:Ln)(node n3:Nat)(h3:Fnd H n3 (Cl [.int .i64 (node:Int)] 3)):
  FSpec prog w0 198 #[.agg (encLn x).toArray, .pointer (some ⟨n3,0,none⟩)] H (Still (.bool (decide (x.src=node))) H):=by
 refine Az func198 U ntmps198 U (rD tb 2 U (e_ (Lt U cs_) ?_ U));rintro _ _ ⟨n2,rfl,rfl⟩;refine rO tb 6 U (y_ (Lo U isAgg3 (by first|exact c_o|exact c_o (hf:=Av h3))) ?_ U);refine y_ (Lo U isAgg3 (by first|exact c_o|exact c_o (hf:=Av h3))) ?_ U;refine rO tb 5 U (As U (Ll U) ?_);exact⟨_,⟨vbool (decide_eq_decide.2 qom),rfl⟩,sbt⟩
theorem links_s {w0:World}{H:List (Nat × Obj)}(n:Nn)(hn:NetR w0 H n)(hok:NnOk n)(node n3:Nat)(h3:Fnd H n3 (Cl [.int .i64 (node:Int)] 3)):
  FSpec prog w0 197 #[.agg (encNn n).toArray, .func (.func 198) #[] #[.pointer (some ⟨n3,0,none⟩)]] H (fun v H'=>∃ d,(v=slV d (outF n node).length/\SlOk d (outF n node).length 1)/\H'=slH d ((outF n node).flatMap encU) 3++H):=by
 refine Az func197 U ntmps197 U ?_;have hfl:=hok.fewL;refine rD tb 2 U (e_ (Lt U cs_) ?_ U);rintro _ _ ⟨n2,rfl,rfl⟩;refine rO tb 12 U (y_ (Lo U isAgg23 (by first|exact c_o)) ?_ U);refine rO tb 5 U ?_;refine Bz (X:=Nat × Sl) (V:=fun ⟨i,d⟩=>[(11, .int .i64 (i:Nat)),(5,slV d (outK n node i).length)]) (C:=[(1,_),(9,_),(10,_)]) (G:=fun ⟨i,d⟩=>slH d ((outK n node i).flatMap encU) 3++((n2,Cl (encNn n) 26)::H)) (φ:=fun ⟨i,d⟩=>i<=n.links.length/\SlOk d (outK n node i).length 1) (μ:=fun ⟨i,d⟩=>n.links.length - i) (x0:=(0, .nil)) ?_ (kg U) ⟨(by first|exact Aa rfl|(refine Ae (Aa rfl) (vint ?_);omega)|(refine Ae (Aa rfl) ?_;simp;done)|(refine Ae (Aa rfl) ?_;exact by simp only[hrow,List.length_append,List.length_cons,List.length_nil])),(by first|exact Aa rfl|(refine Ae (Aa rfl) (vint ?_);omega)|(refine Ae (Aa rfl) ?_;simp;done)|(refine Ae (Aa rfl) ?_;exact by simp only[hrow,List.length_append,List.length_cons,List.length_nil])),trivial⟩ sb0 ?_
 ·exact⟨Nat.zero_le _,rfl⟩
 rintro⟨i,d⟩ ⟨hi,hd⟩;refine rD tb 6 U ?_
 first|refine Ak (Aa U) (fun c12=> ?_) (fun c12=> ?_)|refine Au (Aa U) (fun c12=> ?_) (fun c12=> ?_)
 ·refine rC tb 7 U (y_ (Lq U U runUnderlying23 sizeOf95 qom (by first|exact rfl|exact hn.links.b (i:=i) qom)) ?_ U);refine y_ (Lp U isAgg95 sizeOf95 U (by first|exact(hn.links.mono sbt).cs (i:=i) qom|exact A2)) ?_ U;refine e_ (Ap zeroValue95 cs_) ?_ U;rintro _ _ ⟨n7,rfl,rfl⟩;refine rO tb 1 U ?_
  first|refine A9 (Ls U U sizeOf95) U Ac ?_
  rintro _ _ ⟨rfl,rfl⟩;refine rO tb 5 U (y_ (Lp U isAgg95 sizeOf95 U (by first|exact A2)) ?_ U);refine y_ (C1 (T U) (qe1 U) call198 (fun H' hs=>out1_s (gd n.links i) node n3 (h3.mono (stn hs)))) (rO tb 2 U ?_) U
  first|refine Ak (Aa U) (fun c18=> ?_) (fun c18=> ?_)|refine Au (Aa U) (fun c18=> ?_) (fun c18=> ?_)
  ·have hrow:outK n node (i+1)=outK n node i++[i]:=by rw[Fz,if_pos c18]
   refine rC tb 3 U (e_ (A7 (.cons (T U) .nil) (Fy)) ?_ U);rintro _ _ ⟨n21,rfl,rfl⟩;refine e_ (Br (i) (by':=8) qlc (T U) (T U) runUnderlying41 runUnderlying41 sizeOf3 typeInfo3 U zeroValue3 U (fun _=>rfl) U hd qde (by have:=outK_len n node i;omega)) ?_ U;rintro _ _ ⟨d',rfl,hokd,rfl⟩;refine rO tb 5 U (y_ (Bd (T U) An qom) ?_ U);refine rO tb 2 U ?_;refine A8 ((i+1,d')) ?_ ?_ ⟨(by first|exact Aa U|(refine Ae (Aa U) (vint ?_);omega)|(refine Ae (Aa U) ?_;simp;done)|(refine Ae (Aa U) ?_;exact by simp only[hrow,List.length_append,List.length_cons,List.length_nil])),(by first|exact Aa U|(refine Ae (Aa U) (vint ?_);omega)|(refine Ae (Aa U) ?_;simp;done)|(refine Ae (Aa U) ?_;exact by simp only[hrow,List.length_append,List.length_cons,List.length_nil])),trivial⟩ (kg U) ?_
   ·exact⟨by omega,by rw[hrow,List.length_append];exact hokd⟩
   ·first|omega|(simp only[];omega)
   ·simp only[hrow];exact sbt
  ·have hrow:outK n node (i+1)=outK n node i:=by rw[Fz,if_neg c18]
   refine rC tb 4 U (y_ (Bd (T U) An qom) ?_ U);refine rO tb 2 U ?_;refine A8 ((i+1,d)) ?_ ?_ ⟨(by first|exact Aa U|(refine Ae (Aa U) (vint ?_);omega)|(refine Ae (Aa U) ?_;simp;done)|(refine Ae (Aa U) ?_;exact by simp only[hrow,List.length_append,List.length_cons,List.length_nil])),(by first|exact Aa U|(refine Ae (Aa U) (vint ?_);omega)|(refine Ae (Aa U) ?_;simp;done)|(refine Ae (Aa U) ?_;exact by simp only[hrow,List.length_append,List.length_cons,List.length_nil])),trivial⟩ (kg U) ?_
   ·exact⟨by omega,by rw[hrow];exact hd⟩
   ·first|omega|(simp only[];omega)
   ·simp only[hrow];exact sbt
 ·refine rC tb 2 U (Aq (rX tb 9 U (As U (Ll U) ?_)));have hi2:i=n.links.length:=by omega
  rw[hi2] at hd ⊢;exact⟨_,⟨d,⟨rfl,hd⟩,rfl⟩,sbt⟩
theorem gout_s {w0:World}{H:List (Nat × Obj)}(n:Nn)(hn:NetR w0 H n)(hok:NnOk n)(node:Nat):
  FSpec prog w0 173 #[.agg (encNn n).toArray, .int .i64 (node:Int)] H (fun v H'=>∃ d,(v=slV d (outF n node).length/\SlOk d (outF n node).length 1)/\H'=slH d ((outF n node).flatMap encU) 3++H):=by
 refine Az func173 U ntmps173 U (rD tb 2 U (e_ (Lt U cs_) ?_ U));rintro _ _ ⟨n2,rfl,rfl⟩;refine e_ (Lt U cs_) ?_ U;rintro _ _ ⟨n3,rfl,rfl⟩;refine rO tb 5 U (y_ (Lp U isAgg26 sizeOf26 U (by first|exact A2)) ?_ U);refine y_ (Cg (.cons (T U) .nil)) ?_ U;refine e_ (A1 (qe2 U U) call197 (links_s n (hn.mono sbt) hok node n3 fdd)) ?_ U;rintro _ _ ⟨d,⟨rfl,hd⟩,rfl⟩;refine rO tb 4 U (As U (Ll U) ?_);exact⟨_,⟨d,⟨rfl,hd⟩,rfl⟩,sbt⟩
abbrev Pl:=Nat × Nat
structure BS (σ:Type) where
 l:List Pl
 w:List (Int × σ)
section
variable {σ:Type} [Inhabited σ]
def visF (k:Nat) (st:BS σ) (x:Pl × σ):BS σ:=if x.1∈st.l then st else ⟨st.l++[x.1],st.w++[((k:Int),x.2)]⟩
def visAll (k:Nat) (st:BS σ) (ts:List (Pl × σ)):BS σ:=ts.foldl (visF k) st
theorem visAll_take (k:Nat)(st:BS σ){ts:List (Pl × σ)}{j:Nat}{x:Pl × σ}(h:ts[j]? =some x):visAll k st (ts.take (j+1))=visF k (visAll k st (ts.take j)) x:=by
 unfold visAll;rw[List.take_add_one,h,List.foldl_append];rfl
def goF (ts:Pl->List (Pl × σ)) (fnd:Pl->Bool):Nat->Nat->BS σ->Option Nat × BS σ
 |0,_,st=>(none,st)
 |f+1,k,st=>if k<st.l.length then (if fnd (gd st.l k) then (some k,st) else goF ts fnd f (k+1) (visAll k st (ts (gd st.l k)))) else (none,st)
theorem G0 (ts:Pl->List (Pl × σ))(fnd:Pl->Bool)(f k:Nat)(st:BS σ):goF ts fnd (f+1) k st=if k<st.l.length then (if fnd (gd st.l k) then (some k,st) else goF ts fnd f (k+1) (visAll k st (ts (gd st.l k)))) else (none,st):=rfl
def backF (w:List (Int × σ)):Nat->Nat->List σ
 |0,_=>[]
 |f+1,i=>if 0<=(gd w i).1 then (gd w i).2::backF w f (gd w i).1.toNat else []
theorem D1 (w:List (Int × σ))(f i:Nat):backF w (f+1) i=if 0<=(gd w i).1 then (gd w i).2::backF w f (gd w i).1.toNat else []:=rfl
structure BSok (Pd:Pl->Prop) (k:Nat) (st:BS σ):Prop where
 nd:st.l.Nodup
 ok:∀ p∈st.l,Pd p
 len:st.w.length=st.l.length
 back:∀ i,i<st.w.length-> -1<=(gd st.w i).1/\(gd st.w i).1<i
 kl:k<=st.l.length
theorem Ja {α:Type}[Inhabited α] {l l':List α}{i:Nat}(h:i<l.length):gd (l++l') i=gd l i:=by
 rw[Ay (by simp;omega),List.getElem_append_left h,<- Ay h]
theorem gd_app_r {α:Type}[Inhabited α] {l:List α}{x:α}:gd (l++[x]) l.length=x:=by
 rw[Ay (by simp)];simp
theorem BSok.vis {Pd:Pl->Prop}{k k':Nat}{st:BS σ}(h:BSok Pd k st)(hk:k'<st.l.length){x:Pl × σ}(hx:Pd x.1):BSok Pd k (visF k' st x)/\st.l.length<=(visF k' st x).l.length/\(visF k' st x).l.length<=st.l.length+1:=by
 unfold visF;split
 ·exact⟨h,Nat.le_refl _,by omega⟩
 ·rename_i hn;refine⟨⟨?_,?_,by simp[h.len],?_,by have:=h.kl;simp;omega⟩,by simp,by simp⟩
  ·rw[List.nodup_append];exact⟨h.nd,by simp,fun a ha b hb=>by simp at hb;subst hb;rintro rfl;exact hn ha⟩
  ·intro p hp;simp only[List.mem_append,List.mem_cons,List.not_mem_nil,or_false] at hp;rcases hp with hp|rfl
   ·exact h.ok p hp
   ·exact hx
  ·intro i hi;simp only[List.length_append,List.length_cons,List.length_nil] at hi
   by_cases e:i<st.w.length
   ·rw[Ja e];exact h.back i e
   ·have e2:i=st.w.length:=by omega
    subst e2;rw[gd_app_r];have:=h.len;simp only[];omega
theorem BSok.visAll {Pd:Pl->Prop}{k k':Nat}:∀ (ts:List (Pl × σ)) {st:BS σ},BSok Pd k st->k'<st.l.length->(∀ x∈ts,Pd x.1)->BSok Pd k (visAll k' st ts)/\st.l.length<=(visAll k' st ts).l.length
 |[],st,h,hk,_=>⟨h,Nat.le_refl _⟩
 |x::ts,st,h,hk,ht=>by
  obtain⟨h1,h2,_⟩:=h.vis hk (ht x (by simp));obtain⟨h3,h4⟩:=BSok.visAll (k':=k') ts h1 qom (fun y hy=>ht y (by simp[hy]));exact⟨h3,Nat.le_trans h2 h4⟩
theorem visF_get {k:Nat}{st:BS σ}{x:Pl × σ}{i:Nat}(h:i<st.l.length):gd (visF k st x).l i=gd st.l i:=by
 unfold visF;split
 ·rfl
 ·exact Ja h
theorem Gh {k:Nat}{i:Nat}:∀ (ts:List (Pl × σ)) {st:BS σ},i<st.l.length->gd (visAll k st ts).l i=gd st.l i/\st.l.length<=(visAll k st ts).l.length
 |[],st,h=>⟨rfl,Nat.le_refl _⟩
 |x::ts,st,h=>by
  have hl:st.l.length<=(visF k st x).l.length:=by unfold visF;split<;>simp
  obtain⟨h1,h2⟩:=Gh ts (st:=visF k st x) (i:=i) qom;exact⟨by show gd (visAll k (visF k st x) ts).l i=_;rw[h1,visF_get h],Nat.le_trans hl h2⟩
end
theorem grid_few {A B:Nat}{l:List Pl}(h:l.Nodup)(hl:∀ p∈l,p.1<A/\p.2<B):l.length<=A*B:=by
 have h1:(l.map fun p=>p.1*B+p.2).Nodup:=by
  rw[List.Nodup,List.pairwise_map];refine List.Pairwise.imp_of_mem ?_ h;intro a b ha hb hab e;obtain⟨_,ha2⟩:=hl a ha;obtain⟨_,hb2⟩:=hl b hb;have hB:0<B:=by omega
  have e1:a.1=b.1:=by
   have h1:(a.1*B+a.2) / B=a.1:=by rw[Nat.mul_comm,Nat.mul_add_div hB,Nat.div_eq_of_lt ha2];rfl
   have h2:(b.1*B+b.2) / B=b.1:=by rw[Nat.mul_comm,Nat.mul_add_div hB,Nat.div_eq_of_lt hb2];rfl
   rw[<- h1,<- h2,e]
  have e2:a.2=b.2:=by rw[e1] at e;omega
  exact hab (Prod.ext e1 e2)
 have:=I6 h1 (l':=List.range (A*B)) fun x hx=>by
  simp only[List.mem_map] at hx;obtain⟨p,hp,rfl⟩:=hx;obtain⟨h2,h3⟩:=hl p hp;rw[List.mem_range]
  calc p.1*B+p.2<p.1*B+B:=by omega
   _=(p.1+1)*B:=by rw[Nat.succ_mul]
   _<=A*B:=Nat.mul_le_mul_right _ h2
 simpa using this
def trueM (l:List Pl):List (Pl × Bool):=l.map fun p=>(p,true)
theorem look_trueM (x:Pl):∀ l:List Pl,look (trueM l) x=if x∈l then some true else none
 |[]=>rfl
 |y::l=>by
  show look ((y,true)::trueM l) x=_;rw[Db,look_trueM x l]
  by_cases h:y=x
  ·subst h;simp
  ·have h2: ¬ x=y:=fun e=>h e.symm
   simp only[h,if_false,List.mem_cons,h2,false_or]
theorem upsert_trueM {x:Pl}:∀ {l:List Pl},x∉l->upsert (trueM l) x true=trueM (l++[x])
 |[],_=>rfl
 |y::l,h=>by
  simp only[List.mem_cons,not_or] at h;show upsert ((y,true)::trueM l) x true=(y,true)::trueM (l++[x]);rw[Dl,if_neg (fun e=>h.1 e.symm),upsert_trueM h.2]
theorem bd186_0_1 (a0:Int)(a1:Int)(w:World):(Instr.build 255 #[(0, .int .i64 a0),(1, .int .i64 a1)]).run prog w= .ok (.agg #[.int .i64 a0, .int .i64 a1]) w:=by kernel_rfl
theorem Hn (a0:Int)(a1:Int)(w:World):(Instr.buildSlice 256 1 #[(0, .agg #[.int .i64 a0, .int .i64 a1])]).run prog w= .ok (.slice (some ⟨w.heap.size,0,none⟩) 1 1) (w.alloc (Cl [.int .i64 a0, .int .i64 a1] 255)):=by kernel_rfl
theorem bs59_1_0 (a0:Int)(a1:Int)(w:World):(Instr.buildSlice 253 1 #[(0, .agg #[.int .i64 a0, .int .i64 a1])]).run prog w= .ok (.slice (some ⟨w.heap.size,0,none⟩) 1 1) (w.alloc (Cl [.int .i64 a0, .int .i64 a1] 219)):=by kernel_rfl
abbrev encPl (p:Pl):List Value:=[.int .i64 (p.1:Int), .int .i64 (p.2:Int)]
abbrev encPK (p:Pl):Value:= .agg (encPl p).toArray
theorem eqPk {t:TypeId}(h:∀ (a b:Int × Int) w,(Op.equal t (encPlK a) (encPlK b)).run prog w= .ok (decide (b=a)) w)(a b:Pl)(w:World):(Op.equal t (encPK a) (encPK b)).run prog w= .ok (decide (b=a)) w:=by
 have h1:=h ((a.1:Int),(a.2:Int)) ((b.1:Int),(b.2:Int)) w;refine Eq.trans h1 ?_;refine congrArg (fun r=>Result.ok r w) (decide_eq_decide.2 ?_);obtain⟨a1,a2⟩:=a;obtain⟨b1,b2⟩:=b;simp only[Prod.mk.injEq];omega
theorem keyP74 {V:Type}:KeyOk (V:=V) prog 219 encPK:=Fs runUnderlying219 (fun b k w=>by cases b<;>kernel_rfl) (fun k k'=>by simp[Instr.sameNow]) (eqPk eqPl) (fun k=>by simp[Instr.sameBits])
abbrev encWI (x:Int × Nat):List Value:=[.int .i64 x.1, .int .i64 (x.2:Int)]
def bsHI (n18 n9 n8:Nat) (st:BS Nat) (x:Sl × Sl):List (Nat × Obj):=(n18,mapO encPK encBv (trueM st.l))::(n9,Cl [slV x.2 st.w.length] 256)::(n8,Cl [slV x.1 st.l.length] 253)::(slH x.2 (st.w.flatMap encWI) 255++slH x.1 (st.l.flatMap encPl) 219)
theorem Fh (n18 n9 n8:Nat)(st:BS Nat)(x:Sl × Sl)(R:List (Nat × Obj)):bsHI n18 n9 n8 st x++R=(n18,mapO encPK encBv (trueM st.l))::(n9,Cl [slV x.2 st.w.length] 256)::(n8,Cl [slV x.1 st.l.length] 253)::(slH x.2 (st.w.flatMap encWI) 255++(slH x.1 (st.l.flatMap encPl) 219++R)):=by
 unfold bsHI;simp only[List.cons_append,List.append_assoc]
structure bsOkI (st:BS Nat) (x:Sl × Sl):Prop where
 o1:SlOk x.1 st.l.length 2
 o2:SlOk x.2 st.w.length 2
theorem yl_seenI {w0:World}{H:List (Nat × Obj)}{L:Fm}{x y:Operand}{ty:TypeId}{r:Nat}{l:List Pl}{p:Pl}{v:Value}(hx:Ev L x (.map (some r)))(hy:Ev L y v)(hv:v=encPK p)(hf:Fnd H r (mapO encPK encBv (trueM l))):
  Yl prog w0 (.lookup 257 x y false) ty L H (.bool (decide (p∈l))):=by
 have h:=yl_lookupB (P:=prog) (w0:=w0) (ty:=ty) (encB:=encBv) U (keyP74 (V:=Bool)) hx hy hv runUnderlying257 zeroValue4 hf;rw[look_trueM] at h
 by_cases hm:p∈l
 ·rw[if_pos hm] at h;rw[decide_eq_true hm];exact h
 ·rw[if_neg hm] at h;rw[decide_eq_false hm];exact h
theorem visI_s {w0:World}{H:List (Nat × Obj)}(n18 n9 n8 n10 n11 k:Nat)(st:BS Nat)(x:Sl × Sl)(t:Pl)(by1:Nat)(hx:bsOkI st x)(hl:st.l.length<=100000)(hw:st.w.length=st.l.length)(h10:Fnd H n10 (Cl [.map (some n18)] 257))(h11:Fnd H n11 (Cl [.int .i64 (k:Int)] 3)):
  FSpec prog w0 171 #[.agg (encPl t).toArray, .int .i64 (by1:Int), .pointer (some ⟨n10,0,none⟩), .pointer (some ⟨n8,0,none⟩), .pointer (some ⟨n9,0,none⟩), .pointer (some ⟨n11,0,none⟩)] (bsHI n18 n9 n8 st x++H) (fun _ H'=>∃ y,bsOkI (visF k st (t,by1)) y/\H'=bsHI n18 n9 n8 (visF k st (t,by1)) y++H):=by
 obtain⟨ho1,ho2⟩:=hx;rw[Fh];refine Az func171 U ntmps171 U (rD tb 2 U (e_ (Lt U cs_) ?_ U));rintro _ _ ⟨n6,rfl,rfl⟩;refine rO tb 4 U ?_;refine y_ (Lo U isAgg257 (by first|exact c_o|exact c_o (hf:=by repeat (first|exact h10|refine Av ?_|refine A6 ?_))|exact c_o (hf:=Av (Av (Av (Av (A6 (A6 h10))))))|exact c_o (hf:=Av (Av (Av (Av (A6 (A6 h11)))))))) ?_ U;refine y_ (Lp U isAgg219 sizeOf219 U (by first|exact A2|exact c_o (hf:=Av (Av (Av (Av (A6 (A6 h10))))))|exact c_o (hf:=Av (Av (Av (Av (A6 (A6 h11)))))))) ?_ U;refine y_ (yl_seenI (l:=st.l) (p:=t) (T U) (T U) U fdd) ?_ U
 first|refine A3 (B7 (T U)) U Ac ?_|refine A3 (Cc (T U)) U Ac ?_
 refine rO tb 2 U ?_
 first|refine Ak (Aa U) (fun c11=> ?_) (fun c11=> ?_)|refine Au (Aa U) (fun c11=> ?_) (fun c11=> ?_)
 ·refine rC tb 2 U ?_;refine y_ (Lo U isAgg257 (by first|exact c_o|exact c_o (hf:=by repeat (first|exact h10|refine Av ?_|refine A6 ?_))|exact c_o (hf:=Av (Av (Av (Av (A6 (A6 h10))))))|exact c_o (hf:=Av (Av (Av (Av (A6 (A6 h11)))))))) ?_ U;refine y_ (Lp U isAgg219 sizeOf219 U (by first|exact A2|exact c_o (hf:=Av (Av (Av (Av (A6 (A6 h10))))))|exact c_o (hf:=Av (Av (Av (Av (A6 (A6 h11)))))))) ?_ U;refine e_ (C5 (l:=trueM st.l) (encV:=encBv) t true (keyP74 (V:=Bool)) (T U) (T U) U An U runUnderlying257) ?_ U;rintro _ _ ⟨rfl,rfl⟩;rw[upsert_trueM c11];refine rO tb 2 U (Gs 9 _ mixd qkr (show List.Sublist ((n6,Cl (encPl t) 219)::(n18,_)::(n9,Cl [slV x.2 st.w.length] 256)::(n8,Cl [slV x.1 st.l.length] 253)::H) _ from by repeat (first|exact List.Sublist.refl _|apply List.Sublist.cons_cons|exact sbt)) ?_ By);refine x_y (i:=0) U qkr (Lo U isAgg253 (by first|exact c_o|exact c_o (hf:=Av (Av (Av (Av (A6 (A6 h10))))))|exact c_o (hf:=Av (Av (Av (Av (A6 (A6 h11)))))))) ?_ U Ac;refine x_y (i:=1) U qkr (Lp U isAgg219 sizeOf219 U (by first|exact A2|exact c_o (hf:=Av (Av (Av (Av (A6 (A6 h10))))))|exact c_o (hf:=Av (Av (Av (Av (A6 (A6 h11)))))))) ?_ U Ac;refine x_y (i:=4) U qkr (Lo U isAgg256 (by first|exact c_o|exact c_o (hf:=Av (Av (Av (Av (A6 (A6 h10))))))|exact c_o (hf:=Av (Av (Av (Av (A6 (A6 h11)))))))) ?_ U Ac;refine x_y (i:=5) U qkr (Lo U isAgg3 (by first|exact c_o|exact c_o (hf:=by repeat (first|exact h11|refine Av ?_|refine A6 ?_))|exact c_o (hf:=Av (Av (Av (Av (A6 (A6 h10))))))|exact c_o (hf:=Av (Av (Av (Av (A6 (A6 h11)))))))) ?_ U Ac;refine x_y (i:=6) U qkr (Af (T U)) ?_ U Ac;refine x_y (i:=7) U qkr (Bg (.cons (T U) (.cons (T U) .nil)) (bd186_0_1 _ _)) ?_ U Ac;refine Dh (i:=2) (j:=8) qkr qkr ?_ ?_
  ·refine Ca U (A7 (.cons (T U) .nil) (bs59_1_0 _ _)) ?_ U Ac;rintro _ _ ⟨n16,rfl,rfl⟩;refine⟨sbt,?_⟩;refine Dh (i:=3) (j:=8) qkr qkr ?_ ?_
   ·refine Ca U (Br (t) (by':=16) qlc (T U) (T U) runUnderlying253 runUnderlying253 sizeOf219 typeInfo219 U zeroValue219 U (fun _=>rfl) U ho1 qde qom) ?_ U Ac;rintro _ _ ⟨d',rfl,hokd,rfl⟩;refine⟨sbt,(Cn (i:=8) qkr qkr ?_)⟩;refine Ca U (A7 (.cons (T U) .nil) (Hn _ _)) ?_ U Ac;rintro _ _ ⟨n22,rfl,rfl⟩;refine⟨sbt,(Cv qkr U ?_)⟩;refine e_ (Br (((k:Int),by1)) (by':=16) qlc (T U) (T U) runUnderlying256 runUnderlying256 sizeOf255 typeInfo255 U zeroValue255 U (fun _=>rfl) U ho2 qde qom) ?_ U;rintro _ _ ⟨e',rfl,hoke,rfl⟩
    first|refine A9 (Ls U U sizeOf253) U Ac ?_|refine A9 (B1 (T U) (T U) U sizeOf253) U Ac ?_|refine A9 (Bu (T U) (T U) U sizeOf253) U Ac ?_
    rintro _ _ ⟨rfl,rfl⟩
    first|refine A9 (Ls U U sizeOf256) U Ac ?_|refine A9 (B1 (T U) (T U) U sizeOf256) U Ac ?_|refine A9 (Bu (T U) (T U) U sizeOf256) U Ac ?_
    rintro _ _ ⟨rfl,rfl⟩;refine rO tb 1 U (Ea U .nil ?_);have hv:visF k st (t,by1)=⟨st.l++[t],st.w++[((k:Int),by1)]⟩:=if_neg c11;refine⟨_,⟨(d',e'),⟨by rw[hv];simpa using hokd,by rw[hv];simpa using hoke⟩,rfl⟩,?_⟩;rw[hv,Fh];simp only[List.length_append,List.length_cons,List.length_nil,Nat.zero_add];exact sbt
   ·refine Ca U (A7 (.cons (T U) .nil) (Hn _ _)) ?_ U Ac;rintro _ _ ⟨n22,rfl,rfl⟩;refine⟨sbt,(Cn (i:=3) qkr qkr ?_)⟩;refine Ca U (Br (t) (by':=16) qlc (T U) (T U) runUnderlying253 runUnderlying253 sizeOf219 typeInfo219 U zeroValue219 U (fun _=>rfl) U ho1 qde qom) ?_ U Ac;rintro _ _ ⟨d',rfl,hokd,rfl⟩;refine⟨sbt,(Cv qkr U ?_)⟩;refine e_ (Br (((k:Int),by1)) (by':=16) qlc (T U) (T U) runUnderlying256 runUnderlying256 sizeOf255 typeInfo255 U zeroValue255 U (fun _=>rfl) U ho2 qde qom) ?_ U;rintro _ _ ⟨e',rfl,hoke,rfl⟩
    first|refine A9 (Ls U U sizeOf253) U Ac ?_|refine A9 (B1 (T U) (T U) U sizeOf253) U Ac ?_|refine A9 (Bu (T U) (T U) U sizeOf253) U Ac ?_
    rintro _ _ ⟨rfl,rfl⟩
    first|refine A9 (Ls U U sizeOf256) U Ac ?_|refine A9 (B1 (T U) (T U) U sizeOf256) U Ac ?_|refine A9 (Bu (T U) (T U) U sizeOf256) U Ac ?_
    rintro _ _ ⟨rfl,rfl⟩;refine rO tb 1 U (Ea U .nil ?_);have hv:visF k st (t,by1)=⟨st.l++[t],st.w++[((k:Int),by1)]⟩:=if_neg c11;refine⟨_,⟨(d',e'),⟨by rw[hv];simpa using hokd,by rw[hv];simpa using hoke⟩,rfl⟩,?_⟩;rw[hv,Fh];simp only[List.length_append,List.length_cons,List.length_nil,Nat.zero_add];exact sbt
  ·refine Ca U (A7 (.cons (T U) .nil) (Hn _ _)) ?_ U Ac;rintro _ _ ⟨n22,rfl,rfl⟩;refine⟨sbt,(Cn (i:=2) qkr qkr ?_)⟩;refine Ca U (A7 (.cons (T U) .nil) (bs59_1_0 _ _)) ?_ U Ac;rintro _ _ ⟨n16,rfl,rfl⟩;refine⟨sbt,(Cn (i:=3) qkr qkr ?_)⟩;refine Ca U (Br (t) (by':=16) qlc (T U) (T U) runUnderlying253 runUnderlying253 sizeOf219 typeInfo219 U zeroValue219 U (fun _=>rfl) U ho1 qde qom) ?_ U Ac;rintro _ _ ⟨d',rfl,hokd,rfl⟩;refine⟨sbt,(Cv qkr U ?_)⟩;refine e_ (Br (((k:Int),by1)) (by':=16) qlc (T U) (T U) runUnderlying256 runUnderlying256 sizeOf255 typeInfo255 U zeroValue255 U (fun _=>rfl) U ho2 qde qom) ?_ U;rintro _ _ ⟨e',rfl,hoke,rfl⟩
   first|refine A9 (Ls U U sizeOf253) U Ac ?_|refine A9 (B1 (T U) (T U) U sizeOf253) U Ac ?_|refine A9 (Bu (T U) (T U) U sizeOf253) U Ac ?_
   rintro _ _ ⟨rfl,rfl⟩
   first|refine A9 (Ls U U sizeOf256) U Ac ?_|refine A9 (B1 (T U) (T U) U sizeOf256) U Ac ?_|refine A9 (Bu (T U) (T U) U sizeOf256) U Ac ?_
   rintro _ _ ⟨rfl,rfl⟩;refine rO tb 1 U (Ea U .nil ?_);have hv:visF k st (t,by1)=⟨st.l++[t],st.w++[((k:Int),by1)]⟩:=if_neg c11;refine⟨_,⟨(d',e'),⟨by rw[hv];simpa using hokd,by rw[hv];simpa using hoke⟩,rfl⟩,?_⟩;rw[hv,Fh];simp only[List.length_append,List.length_cons,List.length_nil,Nat.zero_add];exact sbt
 ·refine rC tb 1 U (Ea U .nil ?_);have hv:visF k st (t,by1)=st:=if_pos (Classical.not_not.1 c11);refine⟨_,⟨x,⟨by rw[hv];exact ho1,by rw[hv];exact ho2⟩,rfl⟩,?_⟩;rw[hv,Fh];exact sbt
def RevAt {α:Type} [Inhabited α] (l l':List α) (i:Nat):Prop:=l'.length=l.length/\∀ j,j<l.length->gd l' j=if j<i\/l.length - i<=j then gd l (l.length - 1 - j) else gd l j
theorem gd_setA {α:Type}[Inhabited α] {b:List α}{j x:Nat}{v:α}(hx:x<b.length):gd (b.set j v) x=if x=j then v else gd b x:=by
 rw[Ay (by simpa using hx),List.getElem_set,Ay hx]
 by_cases h:j=x
 ·subst h;simp
 ·rw[if_neg h,if_neg (fun e=>h e.symm)]
theorem RevAt.step {α:Type}[Inhabited α] {l l':List α}{i:Nat}(h:RevAt l l' i)(hi:i<l.length - 1 - i):RevAt l ((l'.set i (gd l' (l.length - 1 - i))).set (l.length - 1 - i) (gd l' i)) (i+1):=by
 obtain⟨h1,h2⟩:=h;refine⟨by simp[h1],fun j hj=> ?_⟩;rw[gd_setA (by simp;omega),gd_setA qom]
 by_cases e1:j=l.length - 1 - i
 ·rw[if_pos e1,if_pos qom,h2 i qom,if_neg qom,e1]
  congr 1;omega
 ·rw[if_neg e1]
  by_cases e2:j=i
  ·rw[if_pos e2,if_pos qom,h2 _ qom,if_neg qom,e2]
  ·rw[if_neg e2,h2 j hj]
   by_cases e3:j<i\/l.length - i<=j
   ·rw[if_pos e3,if_pos qom]
   ·rw[if_neg e3,if_neg qom]
theorem RevAt.done {α:Type}[Inhabited α] {l l':List α}{i:Nat}(h:RevAt l l' i)(hi: ¬ (i:Int)<(l.length:Int) - 1 - i):l'=l.reverse:=by
 obtain⟨h1,h2⟩:=h;apply List.ext_getElem (by simp[h1]);intro j hj1 hj2;have hj:j<l.length:=by omega
 have h3:=h2 j hj;rw[Ay hj1] at h3;rw[h3,List.getElem_reverse]
 split
 ·rw[Ay qom]
 ·rw[Ay hj];congr 1;omega
theorem revI_s {w0:World}{H:List (Nat × Obj)}(d:Sl)(l:List Nat)(hd:SlOk d l.length 1)(hl:l.length<=100000):
  FSpec prog w0 170 #[slV d l.length] (slH d (l.flatMap encU) 3++H) (fun v H'=>v= .tuple #[]/\H'=slH d (l.reverse.flatMap encU) 3++H):=by
 refine Az func170 U ntmps170 U (rD tb 4 U (y_ (Ed (T U) An qom) ?_ U));refine rO tb 5 U ?_;refine Bz (X:=Nat × List Nat) (V:=fun ⟨i,cur⟩=>[(2, .int .i64 (i:Nat)),(3, .int .i64 ((l.length:Int) - 1 - (i:Int)))]) (C:=[(0,_)]) (G:=fun ⟨i,cur⟩=>slH d (cur.flatMap encU) 3++H) (φ:=fun ⟨i,cur⟩=>RevAt l cur i/\SlOk d cur.length 1/\i<=l.length) (μ:=fun ⟨i,cur⟩=>l.length - i) (x0:=(0,l)) ?_ (kg U) ⟨atd,atd,trivial⟩ sb0 ?_
 ·exact⟨⟨rfl,fun j hj=>by rw[if_neg qom]⟩,hd,Nat.zero_le _⟩
 rintro⟨i,cur⟩ ⟨hr,hdc,hil⟩;refine rD tb 8 U ?_
 first|refine Ak (Aa U) (fun c9=> ?_) (fun c9=> ?_)|refine Au (Aa U) (fun c9=> ?_) (fun c9=> ?_)
 ·have hij:i<l.length - 1 - i:=by omega
  obtain⟨hcl,hcg⟩:=hr;have hjj:(l.length:Int) - 1 - (i:Int)=((l.length - 1 - i:Nat):Int):=by omega
  simp only[hjj];refine rC tb 4 U (Jm 13 15 (H) (slH d (cur.flatMap encU) 3++H) mixd qkr (List.sublist_append_right _ _) (List.Sublist.refl _) ?_ By);refine Ch [0] qkr U (i:=0) U qkr (Af (T U)) ?_ U Ac;refine Ch [1] qkr U (i:=1) U qkr (Af (T U)) ?_ U Ac;refine w_y (i:=2) U qkr (Af (T U)) ?_ U Ac;refine w_y (i:=3) U qkr (Af (T U)) ?_ U Ac;refine Ch [4] qkr U (i:=4) U qkr (Af (T U)) ?_ U Ac;refine Ch [5] qkr U (i:=5) U qkr (Af (T U)) ?_ U Ac;refine Ch [6] qkr U (i:=6) U qkr (Lq U U runUnderlying41 sizeOf3 qom (by first|exact rfl|exact hdc.bas qom|exact SlOk.bas hd qom)) ?_ U Ac;refine Ch [7] qkr U (i:=7) U qkr (Lo U isAgg3 (by first|exact c_o|exact cell1 (((A5 (X:=H) (enc:=encU) (sz:=1) (e:=3) (l:=cur) (fun _=>rfl) hdc).mono sbt).cs (i:=(l.length - 1 - i)) qom))) ?_ U Ac;refine Ch [11,10,8] qkr U (i:=8) U qkr (Af (T U)) ?_ U Ac;refine Ch [11,10,9] qkr U (i:=9) U qkr (Af (T U)) ?_ U Ac;refine Ch [11,10] qkr U (i:=10) U qkr (Lq U U runUnderlying41 sizeOf3 qom (by first|exact rfl|exact hdc.bas qom|exact SlOk.bas hd qom)) ?_ U Ac;refine Ch [11] qkr U (i:=11) U qkr (Lo U isAgg3 (by first|exact c_o|exact cell1 (((A5 (X:=H) (enc:=encU) (sz:=1) (e:=3) (l:=cur) (fun _=>rfl) hdc).mono sbt).cs (i:=i) qom))) ?_ U Ac;refine Ch [12] qkr U (i:=12) U qkr (Lq U U runUnderlying41 sizeOf3 qom (by first|exact rfl|exact hdc.bas qom|exact SlOk.bas hd qom)) ?_ U Ac;refine De (i:=13) qkr qkr ?_;refine Fj U (D2 (l:=cur) (e:=3) (enc:=encU) (sz:=1) (i:=i) (gd cur (l.length - 1 - i)) (fun _=>rfl) LocL.h (T U) (T U) (.one U) U sizeOf3 qom hdc) ?_ U Ac qkr;rintro _ _ ⟨rfl,rfl⟩;refine⟨sbt,(w_y (i:=14) U qkr (Lq U U runUnderlying41 sizeOf3 qom (by first|exact rfl|exact hdc.bas qom|exact SlOk.bas hd qom)) ?_ U Ac)⟩;refine H8 qkr U ?_;refine e_ (D2 (l:=cur.set i (gd cur (l.length - 1 - i))) (e:=3) (enc:=encU) (sz:=1) (i:=(l.length - 1 - i)) (gd cur i) (fun _=>rfl) LocL.h (T U) (T U) (.one U) U sizeOf3 (by simp;omega) (by simpa using hdc)) ?_ U;rintro _ _ ⟨rfl,rfl⟩;refine rO tb 5 U (y_ (Bd (T U) An qom) ?_ U);refine rO tb 1 U (y_ (Ed (T U) An qom) ?_ U);refine rO tb 3 U ?_;refine A8 ((i+1,(cur.set i (gd cur (l.length - 1 - i))).set (l.length - 1 - i) (gd cur i))) ?_ ?_ ⟨atd,atd,trivial⟩ (kg U) ?_
  ·exact⟨RevAt.step ⟨hcl,hcg⟩ hij,by simpa using hdc,by omega⟩
  ·first|omega|(simp only[];omega)
  ·exact sbt
 ·have hfin:=hr.done qom;refine rC tb 2 U (Aq (rX tb 1 U (Ea U .nil ?_)));rw[<- hfin];exact⟨_,⟨rfl,rfl⟩,sbt⟩
theorem bd186_0 {a0:Int}(w:World):(Instr.build 255 #[(0, .int .i64 a0)]).run prog w= .ok (.agg #[.int .i64 a0, .int .i64 0]) w:=by kernel_rfl
theorem Gi {σ:Type}[Inhabited σ] {w:List (Int × σ)}(hw:∀ i,i<w.length-> -1<=(gd w i).1/\(gd w i).1<i):∀ (f i:Nat),i<f->i<w.length->backF w f i=backF w (i+1) i
 |0,i,h,_=>absurd h (Nat.not_lt_zero _)
 |f+1,i,h,hi=>by
  rw[D1,D1]
  split
  ·rename_i h0;have h1:=(hw i hi).2;have h2:(gd w i).1.toNat<i:=by omega
   rw[Gi hw f _ qom qom,Gi hw i _ qom qom]
  ·rfl
def srF {σ:Type} [Inhabited σ] (ts:Pl->List (Pl × σ)) (fnd:Pl->Bool) (N:Nat) (p0:Pl):List σ × Bool × List Pl:=
 match goF ts fnd (N+1) 0 ⟨[p0],[(-1,default)]⟩ with
 |(some k,st)=>((backF st.w (k+1) k).reverse,true,st.l.take (k+1))
 |(none,st)=>([],false,st.l)
theorem visAll_pre {σ:Type}{k m:Nat}:∀ (ts:List (Pl × σ)) (st:BS σ),m<=st.l.length->(visAll k st ts).l.take m=st.l.take m
 |[],st,h=>rfl
 |x::ts,st,h=>by
  show (visAll k (visF k st x) ts).l.take m=_;rw[visAll_pre ts _ (by
   unfold visF;split
   ·exact h
   ·simp;omega)]
  unfold visF;split
  ·rfl
  ·rw[List.take_append_of_le_length h]
theorem bs_start {σ:Type}[Inhabited σ] {Pd:Pl->Prop}{p0:Pl}(h:Pd p0):BSok Pd 0 (⟨[p0],[(-1,default)]⟩:BS σ):=by
 refine⟨by simp,fun p hp=> ?_,rfl,fun i hi=> ?_,Nat.zero_le _⟩
 ·simp only[List.mem_cons,List.not_mem_nil,or_false] at hp;rw[hp];exact h
 ·have:i=0:=by simpa using hi
  subst this;exact⟨Int.le_refl _,by show (-1:Int)<0;decide⟩
def FoundS (w0:World) (H0:List (Nat × Obj)) (ff:FuncId) (fcap:List Value) (Pd:Pl->Prop) (fnd:Pl->Bool) (G:List Pl->List (Nat × Obj)->Prop):Prop:=
 ∀ (p:Pl),Pd p->∀ (q:List Pl) (M H:List (Nat × Obj)),H0.Sublist H->q.length<=50000->G q M->FSpec prog w0 ff (.agg (encPl p).toArray::fcap).toArray (M++H) (fun v H'=>∃ M2,(v= .bool (fnd p)/\G (q++[p]) M2)/\H'=M2++H)
def Enters (f:FuncId):Prop:=∀ args w,(callFunc f args).run prog w= .ok (.enter f args) w
def NextI (w0:World) (H0:List (Nat × Obj)) (nf:FuncId) (ncap:List Value) (Pd:Pl->Prop) (ts:Pl->List (Pl × Nat)):Prop:=
 ∀ (p:Pl),Pd p->∀ (vf:FuncId) (vcap:List Value) (S:Nat->List (Nat × Obj)->Prop) (M H:List (Nat × Obj)),H0.Sublist H->Enters vf->S 0 M->
  (∀ j x M1 H1,(ts p)[j]? =some x->H.Sublist H1->S j M1->FSpec prog w0 vf (.agg (encPl x.1).toArray:: .int .i64 (x.2:Int)::vcap).toArray (M1++H1) (fun _ H'=>∃ M2,S (j+1) M2/\H'=M2++H1))->
  FSpec prog w0 nf (.agg (encPl p).toArray:: .func (.func vf) #[] vcap.toArray::ncap).toArray (M++H) (fun _ H'=>∃ M2,S (ts p).length M2/\H'=M2++H)
theorem vspI {w0:World}{R:List (Nat × Obj)}{Pd:Pl->Prop}{ts:List (Pl × Nat)}{n18 n9 n8 n10 n11 k:Nat}{st:BS Nat}(hb:BSok Pd k st)(hk:k<st.l.length)(ht:∀ x∈ts,Pd x.1){N:Nat}(hN:∀ l:List Pl,l.Nodup->(∀ p∈l,Pd p)->l.length<=N)(hN2:N<=100000)(h10:Fnd R n10 (Cl [.map (some n18)] 257))(h11:Fnd R n11 (Cl [.int .i64 (k:Int)] 3)):
  ∀ j x M1 H1,ts[j]? =some x->R.Sublist H1->(∃ y,bsOkI (visAll k st (ts.take j)) y/\M1=bsHI n18 n9 n8 (visAll k st (ts.take j)) y)->
   FSpec prog w0 171 (.agg (encPl x.1).toArray:: .int .i64 (x.2:Int)::[.pointer (some ⟨n10,0,none⟩), .pointer (some ⟨n8,0,none⟩), .pointer (some ⟨n9,0,none⟩), .pointer (some ⟨n11,0,none⟩)]).toArray (M1++H1) (fun _ H'=>∃ M2,(∃ y,bsOkI (visAll k st (ts.take (j+1))) y/\M2=bsHI n18 n9 n8 (visAll k st (ts.take (j+1))) y)/\H'=M2++H1):=by
 rintro j x M1 H1 hj hs ⟨y,hy,rfl⟩;have h1:=(hb.visAll (k':=k) (ts.take j) hk (fun z hz=>ht z (List.mem_of_mem_take hz))).1;have h2:=hN _ h1.nd h1.ok;refine(visI_s n18 n9 n8 n10 n11 k (visAll k st (ts.take j)) y x.1 x.2 hy qom h1.len (h10.mono hs) (h11.mono hs)).mono ?_;rintro v H' ⟨y2,hy2,rfl⟩;rw[visAll_take k st hj];exact⟨_,⟨y2,hy2,rfl⟩,rfl⟩
theorem locBSI {e1 e2:Nat × Obj}{n18 n9 n8:Nat}{st:BS Nat}{x:Sl × Sl}{R:List (Nat × Obj)}:LocL (e1::e2::((n18,mapO encPK encBv (trueM st.l))::(n9,Cl [slV x.2 st.w.length] 256)::(n8,Cl [slV x.1 st.l.length] 253)::(slH x.2 (st.w.flatMap encWI) 255++(slH x.1 (st.l.flatMap encPl) 219++R)))) (bsHI n18 n9 n8 st x) (e1::e2::R) (fun M'=>e1::e2::(M'++R)):=by
 rw[<- Fh];exact .t (.t .h)
theorem searchI_s {w0:World}{H H0:List (Nat × Obj)}(nf ff:FuncId)(ncap fcap:List Value)(Pd:Pl->Prop)(ts:Pl->List (Pl × Nat))(fnd:Pl->Bool)(G:List Pl->List (Nat × Obj)->Prop)(N:Nat)(p0:Pl)(Mg0:List (Nat × Obj))
  (hnf:Enters nf) (hff:Enters ff) (hnext:NextI w0 H0 nf ncap Pd ts) (hfound:FoundS w0 H0 ff fcap Pd fnd G) (hts:∀ p,Pd p->∀ x∈ts p,Pd x.1) (hN:∀ l:List Pl,l.Nodup->(∀ p∈l,Pd p)->l.length<=N) (hN2:N<=50000) (hp0:Pd p0) (hG0:G [] Mg0) (hH0:H0.Sublist H):
  FSpec prog w0 127 #[.agg (encPl p0).toArray, .func (.func nf) #[] ncap.toArray, .func (.func ff) #[] fcap.toArray] (Mg0++H) (fun v H'=>∃ x:Sl × List (Nat × Obj),(v= .tuple #[slV x.1 (srF ts fnd N p0).1.length, .bool (srF ts fnd N p0).2.1]/\SlOk x.1 (srF ts fnd N p0).1.length 1/\G (srF ts fnd N p0).2.2 x.2)/\H'=slH x.1 ((srF ts fnd N p0).1.flatMap encU) 3++(x.2++H)):=by
 refine Az func127 U ntmps127 U (rD tb 2 U (e_ (Lt U cs_) ?_ U));rintro _ _ ⟨n3,rfl,rfl⟩;refine rO tb 6 U (y_ (Lp U isAgg219 sizeOf219 U (by first|exact A2)) ?_ U);refine e_ (A7 (.cons (T U) .nil) (bs59_1_0 _ _)) ?_ U;rintro _ _ ⟨n15,rfl,rfl⟩;refine y_ (Bg (.cons An .nil) (bd186_0)) (e_ (A7 (.cons (T U) .nil) (Hn _ _)) ?_ U) U;rintro _ _ ⟨n17,rfl,rfl⟩;refine e_ (Ap zeroValue253 cs_) ?_ U;rintro _ _ ⟨n8,rfl,rfl⟩;refine e_ (Ap zeroValue256 cs_) ?_ U;rintro _ _ ⟨n9,rfl,rfl⟩
 first|refine A9 (Ls U U sizeOf253) U Ac ?_|refine A9 (B1 (T U) (T U) U sizeOf253) U Ac ?_|refine A9 (Bu (T U) (T U) U sizeOf253) U Ac ?_
 rintro _ _ ⟨rfl,rfl⟩
 first|refine A9 (Ls U U sizeOf256) U Ac ?_|refine A9 (B1 (T U) (T U) U sizeOf256) U Ac ?_|refine A9 (Bu (T U) (T U) U sizeOf256) U Ac ?_
 rintro _ _ ⟨rfl,rfl⟩;refine rO tb 4 U (e_ Dd ?_ U);rintro _ _ ⟨n18,rfl,rfl⟩;refine y_ (Lp U isAgg219 sizeOf219 U (by first|exact A2)) ?_ U;refine e_ (eff_insert (l:=[]) (encV:=encBv) p0 true (keyP74 (V:=Bool)) (T U) (T U) U An U runUnderlying257) ?_ U;rintro _ _ ⟨rfl,rfl⟩;refine rO tb 1 U (e_ (Ap zeroValue257 cs_) ?_ U);rintro _ _ ⟨n10,rfl,rfl⟩
 first|refine A9 (Ls U U sizeOf257) U Ac ?_|refine A9 (B1 (T U) (T U) U sizeOf257) U Ac ?_|refine A9 (Bu (T U) (T U) U sizeOf257) U Ac ?_
 rintro _ _ ⟨rfl,rfl⟩;refine rO tb 5 U (e_ (Ap zeroValue3 cs_) ?_ U);rintro _ _ ⟨n11,rfl,rfl⟩
 first|refine A9 (Ar (T U) An sizeOf3) U Ac ?_|refine A9 (B1 (T U) An U sizeOf3) U Ac ?_|refine A9 (Bu (T U) An U sizeOf3) U Ac ?_
 rintro _ _ ⟨rfl,rfl⟩;refine rO tb 3 U ?_;refine Bz (X:=Nat × BS Nat × (Sl × Sl) × Nat × List (Nat × Obj)) (V:=fun ⟨k,st,x,m11,Mg⟩=>[(11, .pointer (some ⟨m11,0,none⟩))]) (C:=[(1,_),(2,_),(8,_),(9,_),(10,_)]) (G:=fun ⟨k,st,x,m11,Mg⟩=>(m11,Cl [.int .i64 (k:Int)] 3)::(n10,Cl [.map (some n18)] 257)::((n18,mapO encPK encBv (trueM st.l))::(n9,Cl [slV x.2 st.w.length] 256)::(n8,Cl [slV x.1 st.l.length] 253)::(slH x.2 (st.w.flatMap encWI) 255++(slH x.1 (st.l.flatMap encPl) 219++((n3,Cl (encPl p0) 219)::(Mg++H)))))) (φ:=fun ⟨k,st,x,m11,Mg⟩=>BSok Pd k st/\bsOkI st x/\G (st.l.take k) Mg/\goF ts fnd (N+1 - k) k st=goF ts fnd (N+1) 0 ⟨[p0],[(-1,default)]⟩) (μ:=fun ⟨k,st,x,m11,Mg⟩=>N+1 - k) (x0:=(0,⟨[p0],[(-1,default)]⟩,(.blk n15 1 [], .blk n17 1 []),n11,Mg0)) ?_ (kg U) ⟨(by first|exact Aa rfl|(refine Ae (Aa rfl) (vint ?_);omega)|(refine Ae (Aa rfl) ?_;simp;done)|(refine Ae (Aa rfl) ?_;exact by simp only[List.length_append,List.length_cons,List.length_nil])),trivial⟩ sb0 ?_
 ·exact⟨bs_start hp0,⟨⟨Nat.le_refl _,rfl⟩,⟨Nat.le_refl _,rfl⟩⟩,hG0,rfl⟩
 rintro⟨k,st,x,m11,Mg⟩ ⟨hb,hx,hG,hgo⟩;have hln:=hN _ hb.nd hb.ok;have hbl:=hb.len;have hbk0:=hb.kl;refine rD tb 3 U (y_ (Lo U isAgg3 (by first|exact c_o)) ?_ U);refine y_ (Lo U isAgg253 (by first|exact c_o)) ?_ U;refine rO tb 4 U ?_
 first|refine Ak (Aa U) (fun c24=> ?_) (fun c24=> ?_)|refine Au (Aa U) (fun c24=> ?_) (fun c24=> ?_)
 ·have hkl:k<st.l.length:=by omega
  have hpk:=hb.ok _ (Ao hkl);refine rC tb 8 U (y_ (Lo U isAgg253 (by first|exact c_o)) ?_ U);refine y_ (Lo U isAgg3 (by first|exact c_o)) ?_ U;refine y_ (Lq U U runUnderlying253 sizeOf219 qom (by first|exact rfl|exact hx.o1.bas qom|exact hx.o2.bas qom)) ?_ U;refine y_ (Lp U isAgg219 sizeOf219 U (by first|exact((A5 (X:=H) (enc:=encPl) (sz:=2) (e:=219) (l:=st.l) (fun _=>rfl) hx.o1).mono sbt).cs (i:=k) qom|exact A2)) ?_ U;refine e_ (Ef (T U) (qe1 U) hff (B0 Mg qlc (hfound (gd st.l k) (hb.ok _ (Ao qom)) (st.l.take k) Mg _ (hH0.trans (by exact sbt)) (by rw[List.length_take];omega) hG))) ?_ U;rintro _ _ ⟨Mg2,⟨rfl,hG2⟩,rfl⟩;refine rO tb 2 U ?_
  first|refine Ak (Aa U) (fun c32=> ?_) (fun c32=> ?_)|refine Au (Aa U) (fun c32=> ?_) (fun c32=> ?_)
  ·have hres:srF ts fnd N p0=((backF st.w (k+1) k).reverse,true,st.l.take (k+1)):=by
    unfold srF;rw[<- hgo,show N+1 - k=(N - k)+1 by omega,G0,if_pos hkl,if_pos c32]
   have htk:st.l.take k++[gd st.l k]=st.l.take (k+1):=by rw[List.take_add_one,Dt hkl];rfl
   rw[htk] at hG2;refine rC tb 8 U (y_ (Lo U isAgg3 (by first|exact c_o)) ?_ U);refine rO tb 4 U ?_;refine Bz (X:=Nat × List Nat × Sl) (V:=fun ⟨i,ol,d12⟩=>[(13, .int .i64 (i:Nat)),(12,slV d12 ol.length)]) (C:=[(9,_)]) (G:=fun ⟨i,ol,d12⟩=>slH d12 (ol.flatMap encU) 3++((m11,Cl [.int .i64 (k:Int)] 3)::(n10,Cl [.map (some n18)] 257)::((n18,mapO encPK encBv (trueM st.l))::(n9,Cl [slV x.2 st.w.length] 256)::(n8,Cl [slV x.1 st.l.length] 253)::(slH x.2 (st.w.flatMap encWI) 255++(slH x.1 (st.l.flatMap encPl) 219++((n3,Cl (encPl p0) 219)::(Mg2++H))))))) (φ:=fun ⟨i,ol,d12⟩=>i<st.w.length/\SlOk d12 ol.length 1/\ol++backF st.w (i+1) i=backF st.w (k+1) k/\ol.length+i<=k) (μ:=fun ⟨i,ol,d12⟩=>i) (x0:=(k,[], .nil)) ?_ (kg U) ⟨(by first|exact Aa rfl|(refine Ae (Aa rfl) (vint ?_);omega)|(refine Ae (Aa rfl) ?_;simp;done)|(refine Ae (Aa rfl) ?_;exact by simp only[List.length_append,List.length_cons,List.length_nil])),(by first|exact Aa rfl|(refine Ae (Aa rfl) (vint ?_);omega)|(refine Ae (Aa rfl) ?_;simp;done)|(refine Ae (Aa rfl) ?_;exact by simp only[List.length_append,List.length_cons,List.length_nil])),trivial⟩ sb0 ?_
   ·exact⟨by omega,rfl,rfl,by simp⟩
   rintro⟨i,ol,d12⟩ ⟨hi,ho12,hbk,hol⟩;refine rD tb 3 U (y_ (Lo U isAgg256 (by first|exact c_o)) ?_ U);refine rO tb 1 U (y_ (Lq U U runUnderlying256 sizeOf255 qom (by first|exact rfl|exact hx.o1.bas qom|exact hx.o2.bas qom)) ?_ U);refine rO tb 1 U (y_ (Lo U isAgg3 (by first|exact c_o|exact((A5 (X:=H) (enc:=encWI) (sz:=2) (e:=255) (l:=st.w) (fun _=>rfl) hx.o2).mono sbt).f0 (i:=i) qom U)) ?_ U);refine rO tb 3 U ?_
   first|refine Ak (Aa U) (fun c39=> ?_) (fun c39=> ?_)|refine Au (Aa U) (fun c39=> ?_) (fun c39=> ?_)
   ·have hbi:=hb.back i qom;have hti:(((gd st.w i).1.toNat:Nat):Int)=(gd st.w i).1:=by omega
    refine rC tb 6 U (y_ (Lo U isAgg256 (by first|exact c_o)) ?_ U);refine rO tb 1 U (y_ (Lq U U runUnderlying256 sizeOf255 qom (by first|exact rfl|exact hx.o1.bas qom|exact hx.o2.bas qom)) ?_ U);refine rO tb 1 U (y_ (Lo U isAgg3 (by first|exact c_o|exact((A5 (X:=H) (enc:=encWI) (sz:=2) (e:=255) (l:=st.w) (fun _=>rfl) hx.o2).mono sbt).f (i:=i) qom U)) ?_ U);refine e_ (A7 (.cons (T U) .nil) (Fy)) ?_ U;rintro _ _ ⟨n51,rfl,rfl⟩;refine e_ (Br ((gd st.w i).2) (by':=8) qlc (T U) (T U) runUnderlying41 runUnderlying41 sizeOf3 typeInfo3 U zeroValue3 U (fun _=>rfl) U ho12 qde qom) ?_ U;rintro _ _ ⟨d',rfl,hokd,rfl⟩;refine rO tb 5 U (y_ (Lo U isAgg256 (by first|exact c_o)) ?_ U);refine rO tb 1 U (y_ (Lq U U runUnderlying256 sizeOf255 qom (by first|exact rfl|exact hx.o1.bas qom|exact hx.o2.bas qom)) ?_ U);refine rO tb 1 U (y_ (Lo U isAgg3 (by first|exact c_o|exact((A5 (X:=H) (enc:=encWI) (sz:=2) (e:=255) (l:=st.w) (fun _=>rfl) hx.o2).mono sbt).f0 (i:=i) qom U)) ?_ U);refine rO tb 2 U ?_;refine A8 (((gd st.w i).1.toNat,ol++[(gd st.w i).2],d')) ?_ ?_ ⟨(by first|exact Aa U|(refine Ae (Aa U) (vint ?_);omega)|(refine Ae (Aa U) ?_;simp;done)|(refine Ae (Aa U) ?_;exact by simp only[List.length_append,List.length_cons,List.length_nil])),(by first|exact Aa U|(refine Ae (Aa U) (vint ?_);omega)|(refine Ae (Aa U) ?_;simp;done)|(refine Ae (Aa U) ?_;exact by simp only[List.length_append,List.length_cons,List.length_nil])),trivial⟩ (kg U) ?_
    ·refine⟨by omega,by simpa using hokd,?_,by simp;omega⟩;rw[<- hbk,D1 st.w i i,if_pos c39,Gi hb.back i _ qom qom];simp
    ·show (gd st.w i).1.toNat<i;omega
    ·exact sbt
   ·have hfin:ol=backF st.w (k+1) k:=by rw[<- hbk,D1,if_neg c39,List.append_nil]
    refine rC tb 2 U (Aq (rX tb 5 U (e_ (A1 (qe1 U) call170 (B0 (slH d12 (ol.flatMap encU) 3) qlc ((revI_s d12 ol ho12 qom).toL))) ?_ U)));rintro _ _ ⟨_,rfl,rfl⟩;refine rO tb 13 U (Bc (rX tb 2 U (As U (.tmp (Aa U) (Ll U)) ?_)));rw[hres];subst hfin;exact⟨_,⟨(d12,Mg2),⟨by rw[List.length_reverse];rfl,by rw[List.length_reverse];exact ho12,hG2⟩,rfl⟩,sbt⟩
  ·refine rC tb 4 U (y_ (Lo U isAgg253 (by first|exact c_o)) ?_ U);refine y_ (Lo U isAgg3 (by first|exact c_o)) ?_ U;refine y_ (Lq U U runUnderlying253 sizeOf219 qom (by first|exact rfl|exact hx.o1.bas qom|exact hx.o2.bas qom)) ?_ U;refine y_ (Lp U isAgg219 sizeOf219 U (by first|exact((A5 (X:=H) (enc:=encPl) (sz:=2) (e:=219) (l:=st.l) (fun _=>rfl) hx.o1).mono sbt).cs (i:=k) qom|exact A2)) ?_ U;refine y_ (Cg (.cons (T U) (.cons (T U) (.cons (T U) (.cons (T U) .nil))))) ?_ U;refine e_ (Ef (T U) (qe2 U U) hnf (B0 (bsHI n18 n9 n8 st x) locBSI (hnext (gd st.l k) hpk 171 [.pointer (some ⟨n10,0,none⟩), .pointer (some ⟨n8,0,none⟩), .pointer (some ⟨n9,0,none⟩), .pointer (some ⟨m11,0,none⟩)] (fun j M=>∃ y,bsOkI (visAll k st ((ts (gd st.l k)).take j)) y/\M=bsHI n18 n9 n8 (visAll k st ((ts (gd st.l k)).take j)) y) _ _ (hH0.trans (by exact sbt)) call171 ⟨x,hx,rfl⟩ (vspI hb hkl (hts _ hpk) hN qom fdd fdd)))) ?_ U;rintro _ _ ⟨_,⟨y,hy,rfl⟩,rfl⟩;rw[List.take_length] at hy ⊢;rw[Fh];refine rO tb 6 U (y_ (Lo U isAgg3 (by first|exact c_o)) ?_ U);refine rO tb 3 U (e_ (Ap zeroValue3 cs_) ?_ U);rintro _ _ ⟨n11,rfl,rfl⟩
   first|refine A9 (Ls U U sizeOf3) U Ac ?_|refine A9 (B1 (T U) (T U) U sizeOf3) U Ac ?_|refine A9 (Bu (T U) (T U) U sizeOf3) U Ac ?_
   rintro _ _ ⟨rfl,rfl⟩;refine rO tb 3 U (y_ (Lo U isAgg3 (by first|exact c_o)) ?_ U);refine y_ (Bd (T U) An qom) ?_ U
   first|refine A9 (Ls U U sizeOf3) U Ac ?_|refine A9 (B1 (T U) (T U) U sizeOf3) U Ac ?_|refine A9 (Bu (T U) (T U) U sizeOf3) U Ac ?_
   rintro _ _ ⟨rfl,rfl⟩;refine rO tb 1 U ?_;refine A8 ((k+1,visAll k st (ts (gd st.l k)),y,n11,Mg2)) ?_ ?_ ⟨(by first|exact Aa U|(refine Ae (Aa U) (vint ?_);omega)|(refine Ae (Aa U) ?_;simp;done)|(refine Ae (Aa U) ?_;exact by simp only[List.length_append,List.length_cons,List.length_nil])),trivial⟩ (kg U) ?_
   ·obtain⟨hb2,hge⟩:=hb.visAll (k':=k) (ts (gd st.l k)) hkl (hts _ hpk);refine⟨⟨hb2.nd,hb2.ok,hb2.len,hb2.back,by omega⟩,hy,?_,?_⟩
    ·rw[visAll_pre _ _ qom,List.take_add_one,Dt hkl];exact hG2
    ·rw[<- hgo,show N+1 - k=(N - k)+1 by omega,G0,if_pos hkl,if_neg (by rw[c32];decide),show N+1 - (k+1)=N - k by omega]
   ·show N+1 - (k+1)<N+1 - k;omega
   ·exact sbt
 ·have hres:srF ts fnd N p0=([],false,st.l):=by
   unfold srF;rw[<- hgo,show N+1 - k=(N - k)+1 by omega,G0,if_neg qom]
  refine rC tb 2 U (Aq (rX tb 9 U (As U (.tmp (Aa U) (Ll U)) ?_)));rw[hres];have hkk:k=st.l.length:=by omega
  rw[hkk,List.take_length] at hG;exact⟨_,⟨(.nil,Mg),⟨rfl,rfl,hG⟩,rfl⟩,sbt⟩
theorem bd74_0_1 (a0:Int)(a1:Int)(w:World):(Instr.build 219 #[(0, .int .i64 a0),(1, .int .i64 a1)]).run prog w= .ok (.agg #[.int .i64 a0, .int .i64 a1]) w:=by kernel_rfl
def nmF (n:Nn) (x:Nat):ByteArray:=(gd n.nodes x).name
def mvF (n:Nn) (m:PM) (s:Nat) (l:Nat):Pl × Nat:=(((gd n.links l).dst,afterF m s (nmF n (gd n.links l).dst)),l)
def movK (n:Nn) (f:Flr) (m:PM) (p:Pl) (i:Nat):List (Pl × Nat):=(((outF n p.1).take i).filter (upF n f)).map (mvF n m p.2)
def movesF (n:Nn) (f:Flr) (m:PM) (p:Pl):List (Pl × Nat):=((outF n p.1).filter (upF n f)).map (mvF n m p.2)
theorem movK_yes {n:Nn}{f:Flr}{m:PM}{p:Pl}{i:Nat}(h:i<(outF n p.1).length)(hu:upF n f (gd (outF n p.1) i)=true):movK n f m p (i+1)=movK n f m p i++[mvF n m p.2 (gd (outF n p.1) i)]:=by
 unfold movK;rw[List.take_add_one,Dt h,List.filter_append,List.map_append];simp[hu]
theorem movK_no {n:Nn}{f:Flr}{m:PM}{p:Pl}{i:Nat}(h:i<(outF n p.1).length)(hu:upF n f (gd (outF n p.1) i)=false):movK n f m p (i+1)=movK n f m p i:=by
 unfold movK;rw[List.take_add_one,Dt h,List.filter_append];simp[hu]
theorem movK_get {n:Nn}{f:Flr}{m:PM}{p:Pl}{i:Nat}(h:i<(outF n p.1).length)(hu:upF n f (gd (outF n p.1) i)=true):(movesF n f m p)[(movK n f m p i).length]? =some (mvF n m p.2 (gd (outF n p.1) i)):=by
 have e:movesF n f m p=movK n f m p (i+1)++(((outF n p.1).drop (i+1)).filter (upF n f)).map (mvF n m p.2):=by
  unfold movesF movK;rw[<- List.map_append,<- List.filter_append,List.take_append_drop]
 rw[e,movK_yes h hu,List.append_assoc,List.getElem?_append_right (Nat.le_refl _)];simp
theorem movK_all {n:Nn}{f:Flr}{m:PM}{p:Pl}:movK n f m p (outF n p.1).length=movesF n f m p:=by
 unfold movK movesF;rw[List.take_length]
def PlOk (n:Nn) (m:PM) (p:Pl):Prop:=p.1<n.nodes.length/\p.2<m.next.length
theorem moves_ok {n:Nn}(hok:NnOk n){f:Flr}{m:PM}(hp:PMok m)(p:Pl)(h:PlOk n m p):∀ x∈movesF n f m p,PlOk n m x.1:=by
 intro x hx;unfold movesF at hx;simp only[List.mem_map,List.mem_filter] at hx;obtain⟨l,⟨hl,_⟩,rfl⟩:=hx;have h1:=((Gz n p.1 l n.links.length).1 hl).1;exact⟨(hok.ends _ (Ao h1)).2,after_lt hp h.2 _⟩
theorem pl_few (n:Nn)(m:PM):∀ l:List Pl,l.Nodup->(∀ p∈l,PlOk n m p)->l.length<=n.nodes.length*m.next.length:=fun l h1 h2=>grid_few h1 h2
def fndF (to:Nat) (m:PM) (p:Pl):Bool:=decide (p.1=to)&&gd m.acc p.2
structure Env (w0:World) (H:List (Nat × Obj)) (n:Nn) (f:Flr) (m:Mc):Prop where
 n:NetR w0 H n
 f:Arr w0 H f.q 1 encI f.links
 m:McOk w0 H m
theorem Env.mono {w0:World}{H H':List (Nat × Obj)}{n:Nn}{f:Flr}{m:Mc}(h:Env w0 H n f m)(hs:H.Sublist H':=by exact sbt):Env w0 H' n f m:=⟨h.n.mono hs,h.f.mono hs,h.m.mono hs⟩
structure EnvOk (n:Nn) (f:Flr) (m:Mc):Prop where
 on:NnOk n
 fl:f.links.length<=4611686018427387903
 om:PMok m.pl
 sr:Srt m.names
 ln:m.names.length<=4611686018427387903
theorem begin_s {w0:World}{H:List (Nat × Obj)}(n:Nn)(m:Mc)(hn:NetR w0 H n)(hm:McOk w0 H m)(hp:PMok m.pl)(hsr:Srt m.names)(hl:m.names.length<=4611686018427387903)(x:Nat)(hx:x<n.nodes.length):
  FSpec prog w0 128 #[.agg (encNn n).toArray, .agg (encMc m).toArray, .int .i64 (x:Int)] H (Still (.agg (encPl (x,afterF m.pl 0 (nmF n x))).toArray) H):=by
 refine Az func128 U ntmps128 U (rD tb 2 U (e_ (Lt U cs_) ?_ U));rintro _ _ ⟨n3,rfl,rfl⟩;refine e_ (Lt U cs_) ?_ U;rintro _ _ ⟨n4,rfl,rfl⟩;refine e_ (Ap zeroValue219 cs_) ?_ U;rintro _ _ ⟨n6,rfl,rfl⟩;refine rO tb 3 U (B9 10 [(0,true),(1,true),(2,true),(3,true),(4,true),(5,true),(6,true),(7,true),(8,true),(9,true)] _ mixd qkr sb0 ?_ By);refine rP tb 1 U (o_y U (Lp U isAgg135 sizeOf135 U (by first|exact A2|exact(hn.nodes.mono sbt).f0 (i:=x) hx U)) ?_ U Ac);refine rP tb 1 U (o_y U (Lo U isAgg22 (by first|exact c_o|exact(hn.nodes.mono sbt).f0 (i:=x) hx U)) ?_ U Ac);refine rP tb 1 U (o_y U (Lq U U runUnderlying22 sizeOf140 qom (by first|exact rfl|exact hn.nodes.b (i:=x) hx)) ?_ U Ac);refine rP tb 1 U (o_y U (Lo U isAgg9 (by first|exact c_o|exact(hn.nodes.mono sbt).f0 (i:=x) hx U)) ?_ U Ac);refine o_y U (Bb (.cons (T U) (.cons An (.cons (T U) .nil))) call132 (fun H' hs=>after_s m (hm.mono (stn hs)) hp hsr hl 0 (by have:=hp.some';rw[show m.pl.next.length=m.rows.length from List.length_map ..] at this;exact this) _)) ?_ U Ac;refine o_y U (Bg (.cons (T U) (.cons (T U) .nil)) (bd74_0_1 _ _)) (Bj U ?_) U Ac
 first|refine A9 (Ls U U sizeOf219) U Ac ?_
 rintro _ _ ⟨rfl,rfl⟩;refine rO tb 3 U (As U (.cellA (Aa U) isAgg219 sizeOf219 U (by first|exact A2|exact(hn.nodes.mono sbt).f0 (i:=x) hx U) .nil) ?_);exact⟨_,⟨rfl,rfl⟩,sbt⟩
theorem moves1_s {w0:World}{H0:List (Nat × Obj)}(n:Nn)(f:Flr)(m:Mc)(he:Env w0 H0 n f m)(ho:EnvOk n f m)(b3 b4 b5:Nat)(h3:Fnd H0 b3 (Cl (encNn n) 26))(h4:Fnd H0 b4 (Cl (encFl f) 64))(h5:Fnd H0 b5 (Cl (encMc m) 135)):
  NextI w0 H0 172 [.pointer (some ⟨b3,0,none⟩), .pointer (some ⟨b4,0,none⟩), .pointer (some ⟨b5,0,none⟩)] (PlOk n m.pl) (movesF n f m.pl):=by
 intro p hpd vf vcap S M0 H hH0 hvf hS0 hv;show FSpec prog w0 172 #[.agg (encPl p).toArray, .func (.func vf) #[] vcap.toArray, .pointer (some ⟨b3,0,none⟩), .pointer (some ⟨b4,0,none⟩), .pointer (some ⟨b5,0,none⟩)] (M0++H) _;have hok:=ho.on;have hfL:=hok.fewL;have hol:(outF n p.1).length<=n.links.length:=outK_len n p.1 n.links.length;have hrl:m.pl.next.length=m.rows.length:=List.length_map ..;have hp2:p.2<m.rows.length:=by have:=hpd.2;omega
 refine Az func172 U ntmps172 U (rD tb 2 U (e_ (Lt U cs_) ?_ U));rintro _ _ ⟨n5,rfl,rfl⟩;refine rO tb 4 U (y_ (Lp U isAgg26 sizeOf26 U (by first|exact Cw (Dn h3) (hH0.trans (by exact sbt))|exact A2)) ?_ U);refine rO tb 1 U (y_ (Lo U isAgg3 (by first|exact c_o)) ?_ U);refine e_ (A1 (qe2 U U) call173 (gout_s n (he.n.mono (hH0.trans (by exact sbt))) hok p.1)) ?_ U;rintro _ _ ⟨dq,⟨rfl,hdq⟩,rfl⟩;refine rO tb 5 U ?_;refine Bz (X:=Nat × List (Nat × Obj)) (V:=fun ⟨i,M⟩=>[(15, .int .i64 (i:Nat))]) (C:=[(1,_),(2,_),(3,_),(4,_),(5,_),(13,_),(14,_)]) (G:=fun ⟨i,M⟩=>slH dq ((outF n p.1).flatMap encU) 3++((n5,Cl (encPl p) 219)::(M++H))) (φ:=fun ⟨i,M⟩=>i<=(outF n p.1).length/\S (movK n f m.pl p i).length M) (μ:=fun ⟨i,M⟩=>(outF n p.1).length - i) (x0:=(0,M0)) ?_ (kg U) ⟨atd,trivial⟩ sb0 ?_
 ·exact⟨Nat.zero_le _,hS0⟩
 rintro⟨i,M⟩ ⟨hi,hS⟩;refine rD tb 6 U ?_
 first|refine Ak (Aa U) (fun c16=> ?_) (fun c16=> ?_)|refine Au (Aa U) (fun c16=> ?_) (fun c16=> ?_)
 ·have hli:=(Gz n p.1 (gd (outF n p.1) i) n.links.length).1 (Ao (show i<(outF n p.1).length by omega));have hll:=hli.1;have hdd:=(hok.ends _ (Ao hll)).2;refine rC tb 6 U (y_ (Lq U U runUnderlying41 sizeOf3 qom (by first|exact rfl|exact hdq.bas qom|exact he.n.links.b (i:=gd (outF n p.1) i) hll|exact he.n.nodes.b (i:=(gd n.links (gd (outF n p.1) i)).dst) hdd)) ?_ U);refine y_ (Lo U isAgg3 (by first|exact c_o|exact cell1 (((A5 (X:=H) (enc:=encU) (sz:=1) (e:=3) (l:=outF n p.1) (fun _=>rfl) hdq).mono sbt).cs (i:=i) qom))) ?_ U;refine rO tb 5 U (y_ (Lp U isAgg26 sizeOf26 U (by first|exact Cw (Dn h3) (hH0.trans (by exact sbt))|exact A2)) ?_ U);refine y_ (Lp U isAgg64 sizeOf64 U (by first|exact Cw (Dn h4) (hH0.trans (by exact sbt))|exact A2)) ?_ U;refine rO tb 1 U (y_ (Bb (qe3 U U U) call30 (fun H' hs=>gup_s n (he.n.mono ((hH0.trans (by exact sbt)).trans hs)) f (he.f.mono ((hH0.trans (by exact sbt)).trans hs)) ho.fl (gd (outF n p.1) i) hll)) ?_ U);refine rO tb 2 U ?_
  first|refine Ak (Aa U) (fun c22=> ?_) (fun c22=> ?_)|refine Au (Aa U) (fun c22=> ?_) (fun c22=> ?_)
  ·refine rC tb 3 U (y_ (Lo U isAgg23 (by first|exact c_o|exact c_o (hf:=h3.mono (hH0.trans (by exact sbt))))) ?_ U);refine rO tb 1 U (y_ (Lq U U runUnderlying23 sizeOf95 qom (by first|exact rfl|exact hdq.bas qom|exact he.n.links.b (i:=gd (outF n p.1) i) hll|exact he.n.nodes.b (i:=(gd n.links (gd (outF n p.1) i)).dst) hdd)) ?_ U);refine rO tb 1 U (y_ (Lo U isAgg3 (by first|exact c_o|exact((he.n.links.mono (hH0.trans (by exact sbt))).f (i:=gd (outF n p.1) i) hll U))) ?_ U);refine rO tb 3 U (B9 14 [(0,true),(1,true),(2,true),(3,true),(4,true),(5,true),(6,true),(7,true),(8,true),(9,true),(10,true),(11,true),(12,true),(13,true)] _ mixd qkr sb0 ?_ By);refine rP tb 2 U (o_y U (Lp U isAgg135 sizeOf135 U (by first|exact Cw (Dn h5) (hH0.trans (by exact sbt))|exact A2)) ?_ U Ac);refine rP tb 1 U (o_y U (Lo U isAgg3 (by first|exact c_o)) ?_ U Ac);refine rP tb 1 U (o_y U (Lo U isAgg22 (by first|exact c_o|exact c_o (hf:=h3.mono (hH0.trans (by exact sbt))))) ?_ U Ac);refine rP tb 1 U (o_y U (Lq U U runUnderlying22 sizeOf140 qom (by first|exact rfl|exact hdq.bas qom|exact he.n.links.b (i:=gd (outF n p.1) i) hll|exact he.n.nodes.b (i:=(gd n.links (gd (outF n p.1) i)).dst) hdd)) ?_ U Ac);refine rP tb 1 U (o_y U (Lo U isAgg9 (by first|exact c_o|exact((he.n.nodes.mono (hH0.trans (by exact sbt))).f0 (i:=(gd n.links (gd (outF n p.1) i)).dst) hdd U))) ?_ U Ac);refine o_y U (Bb (qe3 U U U) call132 (fun H' hs=>after_s m (he.m.mono ((hH0.trans (by exact sbt)).trans hs)) ho.om ho.sr ho.ln p.2 hp2 _)) ?_ U Ac;refine o_y U (Bg (.cons (T U) (.cons (T U) .nil)) (bd74_0_1 _ _)) (rP tb 1 U (Bj U (e_ (Ef (T U) (qe2 U U) hvf (B0 M qlc (hv (movK n f m.pl p i).length (mvF n m.pl p.2 (gd (outF n p.1) i)) M _ (movK_get qom c22) (by exact sbt) hS))) ?_ U))) U Ac;rintro _ _ ⟨M2,hS2,rfl⟩;refine kO tb 3 [1,2,3,4,5,13,14,15] rfl U (rG tb 1 U (y_ (Bd (T U) An qom) ?_ U));refine rO tb 2 U ?_;refine A8 ((i+1,M2)) ?_ ?_ ⟨atd,trivial⟩ (kg U) ?_
   ·exact⟨by omega,by rw[movK_yes qom c22,List.length_append];exact hS2⟩
   ·first|omega|(simp only[];omega)
   ·exact sbt
  ·refine rC tb 4 U (y_ (Bd (T U) An qom) ?_ U);refine rO tb 2 U ?_;refine A8 ((i+1,M)) ?_ ?_ ⟨atd,trivial⟩ (kg U) ?_
   ·exact⟨by omega,by rw[movK_no qom c22];exact hS⟩
   ·first|omega|(simp only[];omega)
   ·exact sbt
 ·refine rC tb 2 U (Aq (rX tb 1 U (Ea U .nil ?_)));have hi2:i=(outF n p.1).length:=by omega
  rw[hi2,movK_all] at hS;exact⟨_,⟨M,hS,rfl⟩,sbt⟩
def cmpI (a b:Int):Int:=if a<b then -1 else if b<a then 1 else 0
def cmpPl (a b:Int × Int):Int:=if ¬ cmpI a.1 b.1=0 then cmpI a.1 b.1 else cmpI a.2 b.2
def plLt (a b:Pl):Prop:=a.1<b.1\/(a.1=b.1/\a.2<b.2)
abbrev toI (p:Pl):Int × Int:=((p.1:Int),(p.2:Int))
instance plDec (a b:Pl):Decidable (plLt a b):=by unfold plLt;infer_instance
theorem find1_s {w0:World}{H:List (Nat × Obj)}(m:Mc)(hm:McOk w0 H m)(hp:PMok m.pl)(p:Pl)(hp2:p.2<m.rows.length)(to b9 b7:Nat)(h9:Fnd H b9 (Cl [.int .i64 (to:Int)] 3))(h7:Fnd H b7 (Cl (encMc m) 135)):
  FSpec prog w0 130 #[.agg (encPl p).toArray, .pointer (some ⟨b9,0,none⟩), .pointer (some ⟨b7,0,none⟩)] H (Still (.bool (fndF to m.pl p)) H):=by
 refine Az func130 U ntmps130 U ?_;have hal:m.acc.length=m.rows.length:=by have:=hp.acc;rw[show m.pl.next.length=m.rows.length from List.length_map ..] at this;exact this
 refine rD tb 2 U (e_ (Lt U cs_) ?_ U);rintro _ _ ⟨n3,rfl,rfl⟩;refine rO tb 6 U (y_ (Lo U isAgg3 (by first|exact c_o)) ?_ U);refine y_ (Lo U isAgg3 (by first|exact c_o|exact c_o (hf:=Av h9))) ?_ U;refine rO tb 2 U ?_
 first|refine Bi (s:=9) (Aa U) (fun c9=> ?_) (fun c9=> ?_)|refine B2 (s:=9) (Aa U) (fun c9=> ?_) (fun c9=> ?_)
 ·refine rO tb 1 U (A3 (Lo U isAgg133 (by first|exact c_o|exact c_o (hf:=Av h7))) U (Ax U U (Aa U)) ?_);refine rO tb 1 U (A3 (Lo U isAgg3 (by first|exact c_o)) U (Ax U U (Aa U)) ?_);refine A3 (Lq U U runUnderlying133 sizeOf4 qom (by first|exact rfl|exact hm.a3.b (i:=p.2) qom)) U (Ax U U (Aa U)) ?_;refine A3 (Lo U isAgg4 (by first|exact c_o|exact cell1 ((hm.a3.mono sbt).cs (i:=p.2) qom))) U (Ax U U (Aa U)) ?_;refine rO tb 5 U (As U (Ll U) (⟨_,⟨vbool ?_,rfl⟩,sbt⟩));unfold fndF
  first|(rw[decide_eq_true (show p.1=to by omega)];rfl)|(rw[decide_eq_false (show ¬ p.1=to by omega)];rfl)
 ·refine rO tb 11 U (As U (Ll U) (⟨_,⟨vbool ?_,rfl⟩,sbt⟩));unfold fndF
  first|(rw[decide_eq_true (show p.1=to by omega)];rfl)|(rw[decide_eq_false (show ¬ p.1=to by omega)];rfl)
theorem found1_s {w0:World}{H0:List (Nat × Obj)}(n:Nn)(m:Mc)(hm:McOk w0 H0 m)(hp:PMok m.pl)(to b9 b7:Nat)(h9:Fnd H0 b9 (Cl [.int .i64 (to:Int)] 3))(h7:Fnd H0 b7 (Cl (encMc m) 135)):
  FoundS w0 H0 130 [.pointer (some ⟨b9,0,none⟩), .pointer (some ⟨b7,0,none⟩)] (PlOk n m.pl) (fndF to m.pl) (fun _ M=>M=[]):=by
 rintro p hpd q _ H hs _ rfl;refine(find1_s (H:=H) m (hm.mono hs) hp p (by have:=hpd.2;rw[show m.pl.next.length=m.rows.length from List.length_map ..] at this;exact this) to b9 b7 (h9.mono hs) (h7.mono hs)).mono ?_;rintro v H' ⟨rfl,rfl⟩;exact⟨[],⟨rfl,rfl⟩,rfl⟩
def NPl (n:Nn) (m:PM):Nat:=n.nodes.length*m.next.length
theorem NPl_le {n:Nn}{m:PM}(h:NnOk n)(hp:PMok m):NPl n m<=2400:=Nat.mul_le_mul h.fewN hp.few
def p0F (n:Nn) (m:PM) (x:Nat):Pl:=(x,afterF m 0 (nmF n x))
theorem p0_ok {n:Nn}{m:PM}(hp:PMok m){x:Nat}(hx:x<n.nodes.length):PlOk n m (p0F n m x):=⟨hx,after_lt hp hp.some' _⟩
def findF (n:Nn) (f:Flr) (m:PM) (x to:Nat):List Nat × Int:=if f.node=x then ([],18) else (if (srF (movesF n f m) (fndF to m) (NPl n m) (p0F n m x)).2.1 then ((srF (movesF n f m) (fndF to m) (NPl n m) (p0F n m x)).1,0) else ([],18))
theorem moves_s {w0:World}{H:List (Nat × Obj)}(n:Nn)(f:Flr)(m:Mc):
  FSpec prog w0 129 #[.agg (encNn n).toArray, .agg (encFl f).toArray, .agg (encMc m).toArray] H (fun v H'=>∃ b3 b4 b5:Nat,v= .func (.func 172) #[] #[.pointer (some ⟨b3,0,none⟩), .pointer (some ⟨b4,0,none⟩), .pointer (some ⟨b5,0,none⟩)]/\H'=(b5,Cl (encMc m) 135)::(b4,Cl (encFl f) 64)::(b3,Cl (encNn n) 26)::H):=by
 refine Az func129 U ntmps129 U (rD tb 2 U (e_ (Lt U cs_) ?_ U));rintro _ _ ⟨n3,rfl,rfl⟩;refine e_ (Lt U cs_) ?_ U;rintro _ _ ⟨n4,rfl,rfl⟩;refine e_ (Lt U cs_) ?_ U;rintro _ _ ⟨n5,rfl,rfl⟩;refine rO tb 5 U (y_ (Cg (.cons (T U) (.cons (T U) (.cons (T U) .nil)))) (rO tb 4 U (As U (Ll U) ?_)) U);exact⟨_,⟨_,_,_,rfl,rfl⟩,sbt⟩
theorem find_s {w0:World}{H:List (Nat × Obj)}(n:Nn)(f:Flr)(m:Mc)(he:Env w0 H n f m)(ho:EnvOk n f m)(x:Nat)(hx:x<n.nodes.length)(to:Nat):
  FSpec prog w0 75 #[.agg (encNn n).toArray, .agg (encFl f).toArray, .agg (encMc m).toArray, .int .i64 (x:Int), .int .i64 (to:Int)] H (fun v H'=>∃ d:Sl,(v= .tuple #[slV d (findF n f m.pl x to).1.length, .int .i64 (findF n f m.pl x to).2]/\SlOk d (findF n f m.pl x to).1.length 1)/\H'=slH d ((findF n f m.pl x to).1.flatMap encU) 3++H):=by
 refine Az func75 U ntmps75 U (rD tb 2 U (e_ (Lt U cs_) ?_ U));rintro _ _ ⟨n5,rfl,rfl⟩;refine e_ (Lt U cs_) ?_ U;rintro _ _ ⟨n6,rfl,rfl⟩;refine e_ (Lt U cs_) ?_ U;rintro _ _ ⟨n7,rfl,rfl⟩;refine e_ (Lt U cs_) ?_ U;rintro _ _ ⟨n9,rfl,rfl⟩;refine rO tb 8 U (y_ (Lo U isAgg3 (by first|exact c_o)) ?_ U);refine rO tb 4 U ?_
 first|refine Ak (Aa U) (fun c17=> ?_) (fun c17=> ?_)|refine Au (Aa U) (fun c17=> ?_) (fun c17=> ?_)
 ·have hff:findF n f m.pl x to=([],18):=if_pos c17;refine rC tb 8 U (As U (.tmp (Aa U) (Ll U)) ?_);rw[hff];exact⟨_,⟨.nil,⟨rfl,rfl⟩,rfl⟩,sbt⟩
 ·have hfn:findF n f m.pl x to=(if (srF (movesF n f m.pl) (fndF to m.pl) (NPl n m.pl) (p0F n m.pl x)).2.1 then ((srF (movesF n f m.pl) (fndF to m.pl) (NPl n m.pl) (p0F n m.pl x)).1,0) else ([],18)):=if_neg c17;refine rC tb 3 U (B9 15 [(0,true),(1,true),(2,true),(3,true),(4,true),(5,true),(6,true),(8,true),(7,false),(9,false),(10,true),(11,true),(12,true),(13,true),(14,true)] _ mixd qkr sb0 ?_ By);refine o_y U (Lp U isAgg26 sizeOf26 U (by first|exact A2)) ?_ U Ac;refine o_y U (Lp U isAgg135 sizeOf135 U (by first|exact A2)) ?_ U Ac;refine rP tb 1 U (o_y U (Bb (qe3 U U U) call128 (fun H' hs=>begin_s n m (he.n.mono (stn hs)) (he.m.mono (stn hs)) ho.om ho.sr ho.ln x hx)) (o_y U (Lp U isAgg26 sizeOf26 U (by first|exact A2)) ?_ U Ac) U Ac);refine o_y U (Lp U isAgg64 sizeOf64 U (by first|exact A2)) ?_ U Ac;refine o_y U (Lp U isAgg135 sizeOf135 U (by first|exact A2)) ?_ U Ac;refine o_y U (Cg (.cons (T U) (.cons (T U) .nil))) (o_e U (A1 (qe3 U U U) call129 (moves_s n f m)) ?_ U Ac) U Ac;rintro _ _ ⟨b3,b4,b5,rfl,rfl⟩;refine⟨sbt,?_⟩;refine o_e U (A1 (qe3 U U U) call127 ((searchI_s (H0:=_) 172 130 [.pointer (some ⟨b3,0,none⟩), .pointer (some ⟨b4,0,none⟩), .pointer (some ⟨b5,0,none⟩)] [.pointer (some ⟨n9,0,none⟩), .pointer (some ⟨n7,0,none⟩)] (PlOk n m.pl) (movesF n f m.pl) (fndF to m.pl) (fun _ M=>M=[]) (NPl n m.pl) (p0F n m.pl x) [] call172 call130 (moves1_s n f m (he.mono sbt) ho b3 b4 b5 fdd fdd fdd) (found1_s n m (he.m.mono sbt) ho.om to n9 n7 fdd fdd) (fun p hpp=>moves_ok ho.on ho.om p hpp) (pl_few n m.pl) (by have:=NPl_le ho.on ho.om;omega) (p0_ok ho.om hx) U (List.Sublist.refl _)))) ?_ U Ac;rintro _ _ ⟨⟨d,_⟩,⟨rfl,hd,rfl⟩,rfl⟩;refine⟨sbt,(rP tb 5 U (Bj U (rO tb 6 U ?_)))⟩
  first|refine A3 (B7 (T U)) U Ac ?_|refine A3 (Cc (T U)) U Ac ?_
  refine rO tb 2 U ?_
  first|refine Ak (Aa U) (fun c32=> ?_) (fun c32=> ?_)|refine Au (Aa U) (fun c32=> ?_) (fun c32=> ?_)
  ·have hff:findF n f m.pl x to=([],18):=by rw[hfn,if_neg (by intro h;rw[h] at c32;cases c32)]
   refine rC tb 8 U (As U (.tmp (Aa U) (Ll U)) ?_);rw[hff];exact⟨_,⟨.nil,⟨rfl,rfl⟩,rfl⟩,sbt⟩
  ·have hff:findF n f m.pl x to=((srF (movesF n f m.pl) (fndF to m.pl) (NPl n m.pl) (p0F n m.pl x)).1,0):=by rw[hfn,if_pos (by simpa using c32)]
   refine kC tb 9 [10,11] rfl U (rG tb 1 U (As U (.tmp (Aa U) (Ll U)) ?_));rw[hff];exact⟨_,⟨d,⟨rfl,hd⟩,rfl⟩,sbt⟩
def namesF (n:Nn) (x:Nat) (ls:List Int):List ByteArray:=nmF n x::ls.map fun l=>nmF n (gd n.links l.toNat).dst
def upAll (n:Nn) (f:Flr) (ls:List Int):Bool:=ls.all fun l=>upF n f l.toNat
def toN (p:Int × Int):Pl:=(p.1.toNat,p.2.toNat)
def PlIn (n:Nn) (m:PM) (to:Nat) (l:List (Int × Int)) (k:Nat):Prop:=(0<=(gd l k).1/\(gd l k).1<n.nodes.length)/\(0<=(gd l k).2/\(gd l k).2<m.next.length)/\(0<k->cmpPl (gd l (k - 1)) (gd l k)<0)/\¬ ((gd l k).1=to/\gd m.acc (gd l k).2.toNat=true)
instance plInDec (n:Nn) (m:PM) (to:Nat) (l:List (Int × Int)) (k:Nat):Decidable (PlIn n m to l k):=by unfold PlIn;infer_instance
def RefOk (n:Nn) (f:Flr) (m:PM) (x to:Nat) (l:List (Int × Int)):Prop:=(∀ k,k<l.length->PlIn n m to l k)/\(¬ f.node=x->toI (p0F n m x)∈l)/\(∀ k,k<l.length->∀ y∈movesF n f m (toN (gd l k)),toI y.1∈l)
instance refOkDec (n:Nn) (f:Flr) (m:PM) (x to:Nat) (l:List (Int × Int)):Decidable (RefOk n f m x to l):=by unfold RefOk;infer_instance
theorem leU_or {a b:List UInt8}(h:a<=b):a<b\/a=b:=by
 by_cases e:a=b
 ·exact .inr e
 ·exact .inl (Std.lt_of_le_of_ne h e)
theorem ltU_of_le_lt {a b c:List UInt8}(h1:a<=b)(h2:b<c):a<c:=by
 rcases leU_or h1 with h|rfl
 ·exact ltU_trans h h2
 ·exact h2
theorem compact_incrU (l:List (List UInt8))(h:l.Pairwise (·<=·)):(Lib.compact l).Pairwise (· < ·)/\∀ x,x∈Lib.compact l↔x∈l:=by
 have mono:∀ (i j:Nat) (hij:i<j) (hj:j<l.length),l[i]'qom<=l[j]:=fun i j hij hj=>List.pairwise_iff_getElem.1 h i j qom hj hij
 unfold Lib.compact Lib.compactUpTo;refine⟨?_,fun x=> ?_⟩
 ·rw[List.pairwise_map];have hr:(List.range l.length).Pairwise (· < ·):=List.pairwise_lt_range;refine(hr.filter _).imp_of_mem ?_;intro a b ha hb hab;simp only[List.mem_filter,List.mem_range] at ha hb;have hk:=hb.2;unfold Lib.keeps at hk;simp only[decide_eq_true_eq] at hk;have hb1:=hb.1;have e1:l.toArray[a]! =l[a]'qom:=by simp[show a<l.length by omega]
  have e2:l.toArray[b]! =l[b]:=by simp[hb1]
  have e3:l.toArray[b - 1]! =l[b - 1]'qom:=by simp[show b - 1<l.length by omega]
  rw[e1,e2];rcases hk with hk|hk
  ·omega
  ·rw[e2,e3] at hk;have h1:=mono (b - 1) b qom hb1;have h3:l[b - 1]'qom<l[b]:=by
    rcases leU_or h1 with h|h
    ·exact h
    ·exact absurd h.symm hk
   by_cases hab':a=b - 1
   ·subst hab';exact h3
   ·exact ltU_of_le_lt (mono a (b - 1) qom qom) h3
 ·simp only[List.mem_map,List.mem_filter,List.mem_range]
  constructor
  ·rintro⟨i,⟨hi,_⟩,rfl⟩;rw[show l.toArray[i]! =l[i] by simp[hi]];exact List.getElem_mem _
  ·intro hx;obtain⟨i,hi,hxi⟩:=List.getElem_of_mem hx;have key:∀ (i:Nat) (hi:i<l.length),l[i]=x->∃ a,(a<l.length/\Lib.keeps l.toArray a=true)/\l.toArray[a]! =x:=by
    intro i
    induction i with
    |zero=>intro hi hxi;exact⟨0,⟨hi,by simp[Lib.keeps]⟩,by simp[hi,hxi]⟩
    |succ i ih=>
     intro hi hxi
     by_cases hs:l[i]'qom=x
     ·exact ih qom hs
     ·refine⟨i+1,⟨hi,?_⟩,by simp[hi,hxi]⟩;unfold Lib.keeps;simp[hi,show i<l.length by omega];intro h;exact hs (by rw[<- h,hxi])
   exact key i hi hxi
theorem leU_trans {a b c:List UInt8}(h1:a<=b)(h2:b<=c):a<=c:=List.le_trans h1 h2
theorem leU_total (a b:List UInt8):a<=b\/b<=a:=List.le_total a b
theorem Js (l:List ByteArray):Srt (cptB (srtB l))/\∀ x,x∈cptB (srtB l)↔x∈l:=by
 have hp:(srtU (l.map toL)).Pairwise (·<=·):=by
  have:=List.pairwise_mergeSort (le:=fun x y:List UInt8=>decide (x<=y)) (by intro a b c;simp only[decide_eq_true_eq];exact leU_trans) (by intro a b;simp only[Bool.or_eq_true,decide_eq_true_eq];exact leU_total a b) (l.map toL);exact this.imp fun h=>by simpa using h
 obtain⟨h1,h2⟩:=compact_incrU _ hp;have e:cptB (srtB l)=(Lib.compact (srtU (l.map toL))).map ofL:=by
  unfold cptB srtB;rw[map_to_of]
 rw[e];refine⟨?_,fun x=> ?_⟩
 ·unfold Srt;rw[List.pairwise_map];exact h1
 ·rw[List.mem_map]
  constructor
  ·rintro⟨u,hu,rfl⟩;rw[h2,List.mem_mergeSort,List.mem_map] at hu;obtain⟨y,hy,rfl⟩:=hu;exact hy
  ·intro hx;exact⟨toL x,(h2 _).2 (List.mem_mergeSort.2 (List.mem_map_of_mem hx)),rfl⟩
theorem letF_srt:∀ e:Re,Srt (letF e)
 | .emp=>(Js _).1
 | .nod _=>(Js _).1
 | .any=>(Js _).1
 | .seq _ _=>(Js _).1
 | .alt _ _=>(Js _).1
 | .star _=>(Js _).1
structure NumInv (m:PM) (b order:List Nat) (k:Nat) (rows:List (List Nat)) (acc:List Bool):Prop where
 ord:OrdOk m b order
 kl:k<=order.length
 rl:rows.length=k
 al:acc.length=k
 row:∀ r∈rows,r.length=m.names.length+1/\∀ s∈r,s<order.length
theorem numK_lt (b tos order:List Nat):∀ i,(∀ s∈(numK b tos order i).2,s<(numK b tos order i).1.length)/\order.length<=(numK b tos order i).1.length
 |0=>⟨(fun s hs=>by cases hs),Nat.le_refl _⟩
 |i+1=>by
  obtain⟨h1,h2⟩:=numK_lt b tos order i;have hm:=idx_lt (numK_mem b tos order i);rw[numK_idx,List.length_map] at hm;have hle:(numK b tos order i).1.length<=(numK b tos order (i+1)).1.length:=by
   rw[D5];simp only[];split<;>simp
  refine⟨fun s hs=> ?_,by omega⟩;rw[show (numK b tos order (i+1)).2=(numK b tos order i).2++[idx ((numK b tos order i).1.map (gd b)) (gd b (gd tos i))] from rfl] at hs;simp only[List.mem_append,List.mem_cons,List.not_mem_nil,or_false] at hs;rcases hs with hs|rfl
  ·have:=h1 s hs;omega
  ·exact hm
theorem numGo_ok {m:PM}(hp:PMok m){b:List Nat}:∀ (f k:Nat) (order:List Nat) (rows:List (List Nat)) (acc:List Bool),NumInv m b order k rows acc->0<order.length->200<f+k->
  0<(numGo m b f k order rows acc).1.length/\(numGo m b f k order rows acc).1.length<=m.next.length/\(numGo m b f k order rows acc).2.length=(numGo m b f k order rows acc).1.length/\∀ r∈(numGo m b f k order rows acc).1,r.length=m.names.length+1/\∀ s∈r,s<(numGo m b f k order rows acc).1.length
 |0,k,order,rows,acc,h,_,hf=>by
  have h1:=h.ord.few;have h2:=hp.few;have:=h.kl;omega
 |f+1,k,order,rows,acc,h,h0,hf=>by
  rw[numGo_succ]
  split
  ·rename_i hk;have hok:=h.ord.lt (gd order k) (Ao hk);obtain⟨hr1,hr2⟩:=hp.row (gd m.next (gd order k)) (Ao hok);obtain⟨g1,g2,g3⟩:=h.ord.step hr2 (gd m.next (gd order k)).length (Nat.le_refl _);obtain⟨e1,e2⟩:=numK_lt b (gd m.next (gd order k)) order (gd m.next (gd order k)).length;refine numGo_ok hp f (k+1) _ _ _ ⟨g1,by omega,by simp[h.rl],by simp[h.al],fun r hr=> ?_⟩ qom qom;simp only[List.mem_append,List.mem_cons,List.not_mem_nil,or_false] at hr;rcases hr with hr|rfl
   ·exact⟨(h.row r hr).1,fun s hs=>Nat.lt_of_lt_of_le ((h.row r hr).2 s hs) e2⟩
   ·exact⟨by rw[g2,hr1],e1⟩
  ·rename_i hk;have hkk:k=order.length:=by have:=h.kl;omega
   have h1:=h.ord.few;have h2:=h.rl;have h3:=h.al;refine⟨by simp only[];omega,by simp only[];omega,by simp only[];omega,fun r hr=> ?_⟩;simp only[] at hr ⊢;exact⟨(h.row r hr).1,fun s hs=>by have:=(h.row r hr).2 s hs;omega⟩
theorem numF_ok {m:PM}(hp:PMok m)(b:List Nat):PMok (numF m b):=by
 have h0:NumInv m b [0] 0 [] []:=⟨⟨by simp,fun s hs=>by
  simp only[List.mem_cons,List.not_mem_nil,or_false] at hs;subst hs;exact hp.some'⟩,Nat.zero_le _,rfl,rfl,fun r hr=>by cases hr⟩
 obtain⟨h1,h2,h3,h4⟩:=numGo_ok hp 201 0 [0] [] [] h0 qde qom;exact⟨h1,Nat.le_trans h2 hp.few,h3,h4⟩
theorem leastF_ok {m:PM}(hp:PMok m):PMok (leastF m):=numF_ok hp _
theorem rawGo_ok {t:Tr}{e:En}{names:List ByteArray}(ht:TrOk t)(hw:Low t)(he:e.first<2 ^ t.names.length):∀ (f k:Nat) (l:List St) (rows:List (List Nat)) (acc:List Bool) (r:List (List Nat) × List Bool),RawInv t e names k l rows acc->rawGo t e names f k l rows acc=some r->PMok ⟨names,r.1,r.2⟩
 |0,_,_,_,_,_,_,h=>by cases h
 |f+1,k,l,rows,acc,r,hi,h=>by
  rw[Ej] at h
  split at h
  ·rename_i hk
   split at h
   ·cases h
   ·rename_i hf;exact rawGo_ok ht hw he f (k+1) _ _ _ r (hi.next ht hw he hk hf) h
  ·rename_i hk;cases h;exact hi.done hk
theorem rawF_ok {e:Re}(hl:e.lv<=64){r:List (List Nat) × List Bool}(h:rawF e=some r):PMok ⟨letF e,r.1,r.2⟩:=by
 obtain⟨hx1,hx2,hx3,hx4⟩:=Du e Kp (by show 0+e.lv<=64;omega);have hxw:=Gg e Kp (by show 0+e.lv<=64;omega) t00_low;rw[<- hx2] at hx3;exact rawGo_ok hx1 hxw hx3 201 0 _ _ _ r (raw_start _ _ _) h
theorem build_ok {e:Re}(hl:e.lv<=64)(h:(buildF leastF e).2=0):PMok (buildF leastF e).1/\Srt (buildF leastF e).1.names:=by
 unfold buildF at *;cases hr:rawF e with
 |none=>rw[hr] at h;cases h
 |some r=>
  simp only[];have:=leastF_ok (rawF_ok hl hr);exact⟨⟨this.some',this.few,this.acc,this.row⟩,letF_srt e⟩
theorem build_err (e:Re):(buildF leastF e).2=0\/(buildF leastF e).2=2:=by
 unfold buildF;cases rawF e<;>simp
theorem build_names {e:Re}(h:(buildF leastF e).2=0):(buildF leastF e).1.names=letF e:=by
 unfold buildF at *;cases hr:rawF e with
 |none=>rw[hr] at h;cases h
 |some r=>rfl
theorem yl_neB {w0:World}{L:Fm}{H:List (Nat × Obj)}{ty yt:TypeId}{x y:Operand}{a b:Bool}(hx:Ev L x (.bool a))(hy:Ev L y (.bool b)):Yl prog w0 (.binOp .neq 4 x y yt) ty L H (.bool (a !=b)):=B3 U fun b' w=>by
 have e:(Op.equal 4 (.bool a) (.bool b)).run prog w= .ok (a==b) w:=run_equalIn_bool w 9999 4 a b qkr;simp[exO,execOp,hx b',hy b',binOp,eqGuard,Sem.run_bind,Result.andThen,e,bne]
structure RowI where
 q:Option Addr
 c:Nat
 l:List Int
instance:Inhabited RowI:=⟨⟨none,0,[]⟩⟩
section
variable {P:Program} {r:Option Nat} {N:Nat} {w0:World} {ops:Array Oper} {t:Nat} {Q:Post} {L:Fm} {ds:List Deferred} {H0 H:List (Nat × Obj)} {d:Option Tmp} {op:Op} {ty:TypeId} {p:String} {af:Array Edge} {g:Option (Nat × Bool)} {i:Nat} {plan:List (Nat × Bool)}
theorem o_nf (hi:ops[i]? =some ⟨d,op,ty,p,af,g⟩)(k:JO P r N w0 H0 ops t plan Q (pt d undef L) ds H)(hN:dOk d N=true)(hg:Nw ops L g N):JO P r N w0 H0 ops t ((i,false)::plan) Q L ds H:=
 fun hT hD hS hP hs listed inv hp b a hsz hf hd=>by
  simp only[planB,Bool.and_eq_true,Nat.blt_eq,beq_iff_eq] at hp;obtain⟨⟨h1,h2⟩,h4⟩:=hp;have hr:i∈Region.ready md ops listed:=by rw[h2];simp
  refine⟨⟨i,hr,h1⟩,fun j hj _ w hO=> ?_⟩;rw[h2] at hj;obtain rfl:j=i:=by simpa using hj
  unfold wpOpIn;simp only[hi,nw_wanted hg hsz hf,Bool.false_eq_true,if_false];exact⟨fun f _=>Ke r f,H,hs,hO,k hT hD hS hP hs _ (inv.set hr h1) h4 b _ (by rw[D6];exact hsz) (Ib hN hsz hf) (by rw[Df];exact hd)⟩
end
theorem toL_inj {a b:ByteArray}(h:toL a=toL b):a=b:=by
 have:ofL (toL a)=ofL (toL b):=by rw[h]
 exact ByteArray.ext (by simpa using this)
def sa:ByteArray:=⟨#[97]⟩
abbrev BRow:=Nat × List Bool
def cf (M:List BRow):Nat:=(M.map fun r=>r.2.countP fun x=> !x).sum
theorem bd138_2_3 (a0:Int)(a1:Int)(w:World):(Instr.build 140 #[(2, .int .i64 a0),(3, .int .i64 a1)]).run prog w= .ok (.agg #[.string ⟨#[]⟩, .bool false, .int .i64 a0, .int .i64 a1]) w:=by kernel_rfl
theorem bd154_0_1 (a0:ByteArray)(a1:Int)(w:World):(Instr.build 171 #[(0, .string a0),(1, .int .i64 a1)]).run prog w= .ok (.agg #[.string a0, .int .i64 a1]) w:=by kernel_rfl
theorem bd56_0 (a0:Option Addr)(a0n a0c:Nat)(w:World):(Instr.build 26 #[(0, .slice a0 a0n a0c)]).run prog w= .ok (.agg #[.slice a0 a0n a0c, .slice none 0 0, .slice none 0 0]) w:=by kernel_rfl
theorem Ek (a0:Int)(a1:Int)(a2:Int)(w:World):(Instr.build 95 #[(0, .int .i64 a0),(1, .int .i64 a1),(2, .int .i64 a2)]).run prog w= .ok (.agg #[.int .i64 a0, .int .i64 a1, .int .i64 a2]) w:=by kernel_rfl
theorem bs152_1_0 {a0:Int}(w:World):(Instr.buildSlice 173 1 #[(0, .int .u8 a0)]).run prog w= .ok (.slice (some ⟨w.heap.size,0,none⟩) 1 1) (w.alloc (Cl [.int .u8 a0] 5)):=by kernel_rfl
theorem bs52_4_0_1_2_3 (a0:ByteArray)(a1:Bool)(a2:Int)(a3:Int)(a4:ByteArray)(a5:Bool)(a6:Int)(a7:Int)(a8:ByteArray)(a9:Bool)(a10:Int)(a11:Int)(a12:ByteArray)(a13:Bool)(a14:Int)(a15:Int)(w:World):(Instr.buildSlice 22 4 #[(0, .agg #[.string a0, .bool a1, .int .i64 a2, .int .i64 a3]),(1, .agg #[.string a4, .bool a5, .int .i64 a6, .int .i64 a7]),(2, .agg #[.string a8, .bool a9, .int .i64 a10, .int .i64 a11]),(3, .agg #[.string a12, .bool a13, .int .i64 a14, .int .i64 a15])]).run prog w= .ok (.slice (some ⟨w.heap.size,0,none⟩) 4 4) (w.alloc (Cl [.string a0, .bool a1, .int .i64 a2, .int .i64 a3, .string a4, .bool a5, .int .i64 a6, .int .i64 a7, .string a8, .bool a9, .int .i64 a10, .int .i64 a11, .string a12, .bool a13, .int .i64 a14, .int .i64 a15] 140)):=by kernel_rfl
theorem bs53_6_0_1_2_3_4_5 (a0:Int)(a1:Int)(a2:Int)(a3:Int)(a4:Int)(a5:Int)(a6:Int)(a7:Int)(a8:Int)(a9:Int)(a10:Int)(a11:Int)(a12:Int)(a13:Int)(a14:Int)(a15:Int)(a16:Int)(a17:Int)(w:World):(Instr.buildSlice 23 6 #[(0, .agg #[.int .i64 a0, .int .i64 a1, .int .i64 a2]),(1, .agg #[.int .i64 a3, .int .i64 a4, .int .i64 a5]),(2, .agg #[.int .i64 a6, .int .i64 a7, .int .i64 a8]),(3, .agg #[.int .i64 a9, .int .i64 a10, .int .i64 a11]),(4, .agg #[.int .i64 a12, .int .i64 a13, .int .i64 a14]),(5, .agg #[.int .i64 a15, .int .i64 a16, .int .i64 a17])]).run prog w= .ok (.slice (some ⟨w.heap.size,0,none⟩) 6 6) (w.alloc (Cl [.int .i64 a0, .int .i64 a1, .int .i64 a2, .int .i64 a3, .int .i64 a4, .int .i64 a5, .int .i64 a6, .int .i64 a7, .int .i64 a8, .int .i64 a9, .int .i64 a10, .int .i64 a11, .int .i64 a12, .int .i64 a13, .int .i64 a14, .int .i64 a15, .int .i64 a16, .int .i64 a17] 95)):=by kernel_rfl
theorem bs54_2_0_1 (a0:ByteArray)(a1:Int)(a2:ByteArray)(a3:Int)(w:World):(Instr.buildSlice 24 2 #[(0, .agg #[.string a0, .int .i64 a1]),(1, .agg #[.string a2, .int .i64 a3])]).run prog w= .ok (.slice (some ⟨w.heap.size,0,none⟩) 2 2) (w.alloc (Cl [.string a0, .int .i64 a1, .string a2, .int .i64 a3] 171)):=by kernel_rfl
section
variable {P:Program} {w0:World} {s t:TypeId} {ty:TypeId} {L:Fm} {H:List (Nat × Obj)} {x:Operand}
theorem yl_convB {e n c:Nat}{b0:Int}(hx:Ev L x (.slice (some ⟨n,0,none⟩) 1 c))(hs:∀ w,(underlying s).run P w= .ok (.slice e) w)(he:∀ w,(underlying e).run P w= .ok (.int .u8) w)(ht:∀ w,(underlying t).run P w= .ok .string w)(hc:Cell w0 H ⟨n,0,none⟩ (.int .u8 b0)):
  Yl P w0 (.convert s t x) ty L H (.string ⟨#[b0.toNat.toUInt8]⟩):=Kf U fun H' hs' b w hO=>by
 have hc':=hc.mono hs' w hO;have hl:(loadCells ⟨n,0,none⟩ 1).run P w= .ok #[.int .u8 b0] w:=by
  have:=Dv (P:=P) (b:=n) (o:=0) (w:=w) [.int .u8 b0] 0 #[] (fun j v hj=>by
   cases j with
   |zero=>simp at hj;subst hj;exact hc'
   |succ j=>simp at hj)
  simpa[loadCells] using this
 simp[exO,execOp,hx b,convert,hs,ht,he,Conv.bytesToString,hl,Sem.run_bind,Result.andThen]
 rfl
end
abbrev exC (a b c d:ByteArray):List Value:=[.string a, .bool false, .int .i64 100, .int .i64 100, .string b, .bool false, .int .i64 100, .int .i64 100, .string c, .bool false, .int .i64 100, .int .i64 100, .string d, .bool false, .int .i64 100, .int .i64 100]
def exNm (j k:Nat):ByteArray:=if j<k then ⟨#[(IntKind.u8.wrap (97+(j:Int))).toNat.toUInt8]⟩ else ⟨#[]⟩
abbrev exK (k:Nat):List Value:=exC (exNm 0 k) (exNm 1 k) (exNm 2 k) (exNm 3 k)
theorem ex_set {k:Nat}(hk:k<4):SetN (exK k) (0+k*4) (.string ⟨#[(IntKind.u8.wrap (97+(k:Int))).toNat.toUInt8]⟩) (exK (k+1)):=by
 match k,hk with
 |0,_=>exact F9 rfl
 |1,_=>exact F9 rfl
 |2,_=>exact F9 rfl
 |3,_=>exact F9 rfl
def exLinks:List Ln:=[⟨0,1,10⟩,⟨1,3,10⟩,⟨0,2,10⟩,⟨2,3,10⟩,⟨1,2,10⟩,⟨3,0,10⟩]
def exEdges:List Edg:=[⟨⟨#[101]⟩,0⟩,⟨⟨#[102]⟩,3⟩]
def exN (n1 n2 n3:Nat):Nn where
 nodes:=[⟨⟨#[97]⟩,false,100,100⟩,⟨⟨#[98]⟩,false,100,100⟩,⟨⟨#[99]⟩,false,100,100⟩,⟨⟨#[100]⟩,false,100,100⟩]
 links:=exLinks
 edges:=exEdges
 qn:=some ⟨n1,0,none⟩
 cn:=4
 ql:=some ⟨n2,0,none⟩
 cl:=6
 qe:=some ⟨n3,0,none⟩
 ce:=2
theorem Cq {α:Type}{w0:World}{H:List (Nat × Obj)}{n sz:Nat}{enc:α->List Value}{l:List α}{cells:List Value}{e:TypeId}(he:∀ x,(enc x).length=sz)(hc:cells=l.flatMap enc)(hf:Fnd H n (Cl cells e)):Arr w0 H (some ⟨n,0,none⟩) sz enc l:=fun i x hi=>
 ⟨rfl,fun j v hj=>by
  refine B6 hf ?_;rw[hc];have:=Ih he l i x j v hi hj
  simpa[oq] using this⟩
theorem sameInts_s {w0:World}{H:List (Nat × Obj)}(q q2:Option Addr)(cap cap2:Nat)(x y:List Int)(hx:Arr w0 H q 1 encI x)(hy:Arr w0 H q2 1 encI y)(hl:x.length<=9223372036854775807):
  FSpec prog w0 17 #[.slice q x.length cap, .slice q2 y.length cap2] H (Still (.bool (decide (x=y))) H):=by
 refine Az func17 U ntmps17 U (rD tb 15 U ?_)
 first|refine Ak (Aa U) (fun c10=> ?_) (fun c10=> ?_)|refine Au (Aa U) (fun c10=> ?_) (fun c10=> ?_)
 ·refine rC tb 7 U (As U (Ll U) ?_);exact⟨_,⟨by rw[decide_eq_false (fun h=>c10 (by rw[h]))];rfl,rfl⟩,sbt⟩
 ·refine rC tb 9 U ?_;refine Cb (X:=Nat) (V:=fun k=>[(5, .int .i64 (k:Nat))]) (C:=[(0,_),(1,_)]) (φ:=fun k=>k<=x.length/\x.take k=y.take k) (μ:=fun k=>x.length - k) (x0:=0) ?_ (kg U) ⟨atd,trivial⟩ ?_
  ·exact⟨Nat.zero_le _,rfl⟩
  rintro k ⟨hk,heq⟩;refine rD tb 9 U ?_
  first|refine Ak (Aa U) (fun c14=> ?_) (fun c14=> ?_)|refine Au (Aa U) (fun c14=> ?_) (fun c14=> ?_)
  ·refine rC tb 5 U (B9 9 [(0,true),(1,true),(2,true),(3,true),(4,true),(5,true),(6,true),(7,true),(8,true)] _ mixd qkr sb0 ?_ By);refine rP tb 2 U (o_y U (Lq U U runUnderlying41 sizeOf3 qom (by first|exact rfl|exact hx.b (i:=k) qom|exact hy.b (i:=k) qom)) ?_ U Ac);refine o_y U (Lo U isAgg3 (by first|exact c_o|exact cell1 ((hx.mono sbt).cs (i:=k) qom)|exact cell1 ((hx.mono sbt).cs (i:=k) qom)|exact cell1 ((hy.mono sbt).cs (i:=k) qom))) ?_ U Ac;refine rP tb 2 U (o_y U (Lq U U runUnderlying41 sizeOf3 qom (by first|exact rfl|exact hx.b (i:=k) qom|exact hy.b (i:=k) qom)) ?_ U Ac);refine o_y U (Lo U isAgg3 (by first|exact c_o|exact cell1 ((hy.mono sbt).cs (i:=k) qom)|exact cell1 ((hx.mono sbt).cs (i:=k) qom)|exact cell1 ((hy.mono sbt).cs (i:=k) qom))) ?_ U Ac;refine rP tb 1 U (Bj U (rO tb 2 U ?_))
   first|refine Ak (Aa U) (fun c25=> ?_) (fun c25=> ?_)|refine Au (Aa U) (fun c25=> ?_) (fun c25=> ?_)
   ·refine rC tb 8 U (Bc (rX tb 2 U (As U (Ll U) ?_)));exact⟨_,⟨by rw[decide_eq_false (fun h=>c25 (by rw[h]))];rfl,rfl⟩,sbt⟩
   ·refine rC tb 5 U (y_ (Bd (T U) An qom) ?_ U);refine rO tb 2 U ?_;refine A8 (k+1) ?_ ?_ ⟨atd,trivial⟩ (kg U) ?_
    ·exact⟨by omega,by rw[C6 qom,C6 qom,heq,Classical.not_not.1 c25]⟩
    ·first|omega|(simp only[];omega)
    ·exact sbt
  ·refine rC tb 2 U (Aq (rX tb 8 U (As U (Ll U) ?_)));exact⟨_,⟨by rw[decide_eq_true (by rw[Er qom,Er qom] at heq;exact heq)];rfl,rfl⟩,sbt⟩
theorem example_s {w0:World}{H:List (Nat × Obj)}:
  FSpec prog w0 41 #[] H (fun v H'=>∃ y:Nat × Nat × Nat,v= .agg (encNn (exN y.1 y.2.1 y.2.2)).toArray/\H'=(y.2.2,Cl (exEdges.flatMap encE) 171)::(y.2.1,Cl (exLinks.flatMap encLn) 95)::(y.1,Cl (exK 4) 140)::H):=by
 refine Az func41 U ntmps41 U (rD tb 2 U (e_ (Ap zeroValue26 cs_) ?_ U));rintro _ _ ⟨n0,rfl,rfl⟩;refine rO tb 4 U (y_ (Bg (.cons An (.cons An .nil)) (bd138_2_3 _ _)) (e_ (Ap zeroValue140 cs_) ?_ U) U);rintro _ _ ⟨n1,rfl,rfl⟩
 first|refine A9 (Ls U U sizeOf140) U Ac ?_
 rintro _ _ ⟨rfl,rfl⟩;refine rO tb 4 U (y_ (Lp U isAgg140 sizeOf140 U (by first|exact A2)) ?_ U);refine y_ (Lp U isAgg140 sizeOf140 U (by first|exact A2)) ?_ U;refine y_ (Lp U isAgg140 sizeOf140 U (by first|exact A2)) ?_ U;refine y_ (Lp U isAgg140 sizeOf140 U (by first|exact A2)) ?_ U;refine e_ (A7 (.cons (T U) (.cons (T U) (.cons (T U) (.cons (T U) .nil)))) (bs52_4_0_1_2_3 _ _ _ _ _ _ _ _ _ _ _ _ _ _ _ _)) ?_ U;rintro _ _ ⟨n9,rfl,rfl⟩;refine y_ (Bg (.cons (T U) .nil) (bd56_0 _ _ _)) (e_ (Ap zeroValue26 cs_) ?_ U) U;rintro _ _ ⟨n2,rfl,rfl⟩
 first|refine A9 (Ls U U sizeOf26) U Ac ?_
 rintro _ _ ⟨rfl,rfl⟩;refine rO tb 9 U ?_;refine Bz (X:=Nat) (V:=fun k=>[(3, .int .i64 (k:Nat))]) (C:=[(0,_),(2,_)]) (G:=fun k=>(n2,Cl [.slice (some ⟨n9,0,none⟩) 4 4, .slice none 0 0, .slice none 0 0] 26)::(n9,Cl (exK k) 140)::(n1,Cl [.string ⟨#[]⟩, .bool false, .int .i64 100, .int .i64 100] 140)::(n0,Cl [.slice none 0 0, .slice none 0 0, .slice none 0 0] 26)::H) (φ:=fun k=>k<=4) (μ:=fun k=>4 - k) (x0:=0) ?_ (kg U) ⟨atd,trivial⟩ sb0 ?_
 ·show 0<=4;omega
 rintro k hk;refine rD tb 7 U ?_
 first|refine Ak (Aa U) (fun c12=> ?_) (fun c12=> ?_)|refine Au (Aa U) (fun c12=> ?_) (fun c12=> ?_)
 ·refine rC tb 6 U (y_ (Lo U isAgg22 (by first|exact c_o)) ?_ U);refine rO tb 2 U (y_ (Bd An (T U) qom) ?_ U);refine y_ (yl_convI (T U) runUnderlying3 runUnderlying5) (e_ (A7 (.cons (T U) .nil) (bs152_1_0)) ?_ U) U;rintro _ _ ⟨n21,rfl,rfl⟩;refine y_ (yl_convB (T U) runUnderlying173 runUnderlying5 runUnderlying9 (by first|exact c_o)) ?_ U;refine y_ (Lq U U runUnderlying22 sizeOf140 qom (by first|exact rfl)) ?_ U;refine rO tb 1 U (e_ (Dz (T U) (T U) U sizeOf9 (ex_set (k:=k) qom) (by repeat (first|exact Upd.h|apply Upd.t|apply D7))) ?_ U);rintro _ _ ⟨rfl,rfl⟩;refine rO tb 5 U (y_ (Bd (T U) An qom) ?_ U);refine rO tb 2 U ?_;refine A8 (k+1) ?_ ?_ ⟨atd,trivial⟩ (kg U) ?_
  ·show k+1<=4;omega
  ·first|omega|(simp only[];omega)
  ·exact sbt
 ·refine rC tb 2 U (Aq (rX tb 4 U (y_ (Bg (.cons An (.cons An (.cons An .nil))) (Ek _ _ _)) (y_ (Bg (.cons An (.cons An (.cons An .nil))) (Ek _ _ _)) (y_ (Bg (.cons An (.cons An (.cons An .nil))) (Ek _ _ _)) (y_ (Bg (.cons An (.cons An (.cons An .nil))) (Ek _ _ _)) (y_ (Bg (.cons An (.cons An (.cons An .nil))) (Ek _ _ _)) (y_ (Bg (.cons An (.cons An (.cons An .nil))) (Ek _ _ _)) (e_ (A7 (.cons (T U) (.cons (T U) (.cons (T U) (.cons (T U) (.cons (T U) (.cons (T U) .nil)))))) (bs53_6_0_1_2_3_4_5 _ _ _ _ _ _ _ _ _ _ _ _ _ _ _ _ _ _)) ?_ U) U) U) U) U) U) U)));rintro _ _ ⟨n31,rfl,rfl⟩;refine rO tb 1 U ?_
  first|refine A9 (Ls U U sizeOf23) U Ac ?_|refine A9 (B1 (T U) (T U) U sizeOf23) U Ac ?_|refine A9 (Bu (T U) (T U) U sizeOf23) U Ac ?_
  rintro _ _ ⟨rfl,rfl⟩;refine rO tb 4 U (y_ (Bg (.cons An (.cons An .nil)) (bd154_0_1 _ _)) (y_ (Bg (.cons An (.cons An .nil)) (bd154_0_1 _ _)) (e_ (A7 (.cons (T U) (.cons (T U) .nil)) (bs54_2_0_1 _ _ _ _)) ?_ U) U) U);rintro _ _ ⟨n35,rfl,rfl⟩;refine rO tb 1 U ?_
  first|refine A9 (Ls U U sizeOf24) U Ac ?_|refine A9 (B1 (T U) (T U) U sizeOf24) U Ac ?_|refine A9 (Bu (T U) (T U) U sizeOf24) U Ac ?_
  rintro _ _ ⟨rfl,rfl⟩;refine rO tb 4 U (y_ (Lp U isAgg26 sizeOf26 U (by first|exact A2)) ?_ U)
  first|refine A9 (Ls U U sizeOf26) U Ac ?_
  rintro _ _ ⟨rfl,rfl⟩;refine rO tb 3 U (As U (.cellA (Aa U) isAgg26 sizeOf26 U (by first|exact A2) .nil) ?_);have e4:k=4:=by omega
  subst e4;exact⟨_,⟨(n9,n31,n35),rfl,rfl⟩,sbt⟩
theorem still_b {P:Program}{w0:World}{f:FuncId}{args:Array Value}{H:List (Nat × Obj)}{b c:Bool}(e:b=c)(h:FSpec P w0 f args H (Still (.bool b) H)):FSpec P w0 f args H (Still (.bool c) H):=e ▸ h
theorem buildMX_s {w0:World}{H:List (Nat × Obj)}(m:Rxm)(e:Re)(hI:Is m e)(hM:RxM w0 H m)(hl:e.lv<=64){pm:PM}{cc:Int}(hb:buildF leastF e=(pm,cc)):
  FSpec prog w0 73 #[.agg (encRx m).toArray] H (fun v H'=>∃ (y:Mc) (M:List (Nat × Obj)),(v= .tuple #[.agg (encMc y).toArray, .int .i64 cc]/\y.pl=pm/\∀ X,McOk w0 (M++X) y)/\H'=M++H):=by
 have h:=buildL_s (w0:=w0) H m e hI hM hl;rw[hb] at h;refine h.mono fun v H' hk=> ?_
 obtain⟨y,⟨rfl,hok,ho⟩,rfl⟩:=hk;refine⟨mcOf pm.names (slQ y.1) (slC y.1) y.2 pm.acc,rowsH y.2.2.2++(slH y.2.1 (y.2.2.2.flatMap encRow) 41++(slH y.2.2.1 (pm.acc.flatMap encB1) 4++slH y.1 (pm.names.flatMap encS) 9)),⟨by rw[mcOf_enc],mcOf_pl ho,fun X=> ?_⟩,by simp only[List.append_assoc]⟩;have h2:=mcOf_ok (w0:=w0) (names:=pm.names) (q1:=slQ y.1) (c1:=slC y.1) (H:=slH y.1 (pm.names.flatMap encS) 9++X) ho ((A5 (X:=X) (enc:=encS) (sz:=1) (e:=9) (l:=pm.names) (fun _=>rfl) hok).mono (by exact sbt))
 simpa only[List.append_assoc,mOut] using h2
theorem findE_s {w0:World}{H:List (Nat × Obj)}(n:Nn)(f:Flr)(m:Mc)(he:Env w0 H n f m)(ho:EnvOk n f m)(x:Nat)(hx:x<n.nodes.length)(to:Nat){l:List Nat}{c:Int}(hf:findF n f m.pl x to=(l,c)):
  FSpec prog w0 75 #[.agg (encNn n).toArray, .agg (encFl f).toArray, .agg (encMc m).toArray, .int .i64 (x:Int), .int .i64 (to:Int)] H (fun v H'=>∃ d:Sl,(v= .tuple #[slV d l.length, .int .i64 c]/\SlOk d l.length 1)/\H'=slH d (l.flatMap encU) 3++H):=by
 have h:=find_s n f m he ho x hx to;rw[hf] at h;exact h
def chB (c:Int):Bool:=decide (97<=c/\c<=122)
def dgB (c:Int):Bool:=decide (48<=c/\c<=57)
def wbB (c:Int):Bool:=chB c||dgB c||decide (c=95)
def bz (s:ByteArray) (k:Nat):Int:=if h:k<s.size then (s[k].toNat:Int) else 0
theorem bz_eq {s:ByteArray}{k:Nat}(h:k<s.size):bz s k=(s[k].toNat:Int):=dif_pos h
def wordsL:List ByteArray:=[⟨#[97,110,100]⟩,⟨#[97,110,121]⟩,⟨#[97,116]⟩,⟨#[98,97,99,107]⟩,⟨#[98,111,120]⟩,⟨#[98,117,114,115,116]⟩,⟨#[98,121]⟩,⟨#[99,97,112,97,99,105,116,121]⟩,⟨#[99,101,105,108,105,110,103]⟩,⟨#[99,104,101,99,107]⟩,⟨#[99,111,110,116,114,97,99,116]⟩,⟨#[99,111,117,110,116]⟩,⟨#[100,101,109,97,110,100]⟩,⟨#[100,114,111,112]⟩,⟨#[101,97,99,104]⟩,⟨#[101,100,103,101]⟩,⟨#[101,110,116,114,105,101,115]⟩,⟨#[102,97,108,115,101]⟩,⟨#[102,105,101,108,100]⟩,⟨#[102,108,111,111,114]⟩,⟨#[102,114,111,109]⟩,⟨#[105,100]⟩,⟨#[105,110]⟩,⟨#[105,110,110,101,114]⟩,⟨#[105,110,116,111]⟩,⟨#[108,105,110,107]⟩,⟨#[110,101,116,119,111,114,107]⟩,⟨#[110,111,100,101]⟩,⟨#[110,111,116]⟩,⟨#[111,112,101,110]⟩,⟨#[111,114]⟩,⟨#[112,97,116,104]⟩,⟨#[112,111,114,116]⟩,⟨#[112,114,105,99,101]⟩,⟨#[114,111,117,116,101]⟩,⟨#[114,117,108,101,115]⟩,⟨#[115,116,97,103,101]⟩,⟨#[116,97,107,101]⟩,⟨#[116,101,110,97,110,116]⟩,⟨#[116,104,101,110]⟩,⟨#[116,105,109,101]⟩,⟨#[116,111]⟩,⟨#[116,111,107,101,110]⟩,⟨#[116,114,97,110,115,108,97,116,101]⟩,⟨#[116,114,117,101]⟩,⟨#[118,105,97]⟩,⟨#[119,105,100,116,104]⟩,⟨#[119,105,114,101]⟩,⟨#[119,105,116,104,105,110]⟩]
structure NmOk (s:ByteArray):Prop where
 z:s.size≠0
 n:s.size<=24
 c:chB (bz s 0)=true
 w:∀ j,j<s.size->wbB (bz s j)=true
 k:s∉wordsL
mutual
def Rxm.sz:Rxm->Nat
 | .mk _ _ _ _ xs=>1+szL xs
def szL:List Rxm->Nat
 |[]=>0
 |x::xs=>x.sz+szL xs
end
mutual
def Rxm.dp:Rxm->Nat
 | .mk _ _ _ _ xs=>dpL xs
def dpL:List Rxm->Nat
 |[]=>1
 |x::xs=>max (x.dp+1) (dpL xs)
end
theorem dp_eq (m:Rxm):m.dp=dpL m.args:=by cases m;rfl
theorem dpL_app:∀ (l:List Rxm) (x:Rxm),dpL (l++[x])=max (dpL l) (x.dp+1)
 |[],x=>by simp only[List.nil_append,dpL];omega
 |y::l,x=>by simp only[List.cons_append,dpL,dpL_app l x];omega
theorem dpL_take {l:List Rxm}{i:Nat}(h:i<l.length):dpL (l.take (i+1))=max (dpL (l.take i)) ((gd l i).dp+1):=by
 rw[C6 h,dpL_app]
theorem Kq (m:Rxm):m.sz=1+szL m.args:=by cases m;rfl
theorem szL_app:∀ (a b:List Rxm),szL (a++b)=szL a+szL b
 |[],b=>by simp[szL]
 |x::a,b=>by simp only[List.cons_append,szL,szL_app a b];omega
theorem szL_take {l:List Rxm}{i:Nat}(h:i<l.length):szL (l.take (i+1))=szL (l.take i)+(gd l i).sz:=by
 rw[C6 h,szL_app];simp[szL]
theorem szL_le:∀ (l:List Rxm) (i:Nat),szL (l.take i)<=szL l
 |[],i=>by simp[szL]
 |x::l,0=>by simp[szL]
 |x::l,i+1=>by simp only[List.take_succ_cons,szL];have:=szL_le l i;omega
theorem dpL_le:∀ l:List Rxm,(∀ x∈l,x.dp<=x.sz)->dpL l<=1+szL l
 |[],_=>by simp[dpL,szL]
 |x::l,h=>by
  have h1:=h x (by simp);have h2:=dpL_le l fun y hy=>h y (by simp[hy])
  have h3:=Kq x;simp only[dpL,szL];omega
theorem szL_len:∀ l:List Rxm,l.length<=szL l
 |[]=>Nat.le_refl _
 |x::l=>by simp only[List.length_cons,szL];have:=szL_len l;have:=Kq x;omega
theorem sz_mem {m a:Rxm}(h:a∈m.args):a.sz<m.sz:=by
 rw[Kq m];have:∀ l:List Rxm,a∈l->a.sz<=szL l:=fun l=>by
  induction l with
  |nil=>intro h;cases h
  |cons x l ih=>
   intro h;rcases List.mem_cons.1 h with rfl|h
   ·simp only[szL];omega
   ·have:=ih h;simp only[szL];omega
 have:=this _ h;omega
theorem RxM.arr {w0:World}{H:List (Nat × Obj)}{m:Rxm}(h:RxM w0 H m):Arr w0 H m.q 3 encRx m.args:=by cases h;assumption
theorem RxM.arg {w0:World}{H:List (Nat × Obj)}{m a:Rxm}(h:RxM w0 H m)(ha:a∈m.args):RxM w0 H a:=by cases h;rename_i h1 h2 h3 h4;exact h2 _ ha
theorem rx_ind {Q:Rxm->Prop}(h:∀ m,(∀ a∈m.args,Q a)->Q m):∀ m,Q m:=fun m=>by
 have:∀ n (m:Rxm),m.sz<=n->Q m:=fun n=>by
  induction n with
  |zero=>intro m hm;rw[Kq] at hm;omega
  |succ n ih=>intro m hm;exact h m fun a ha=>ih a (by have:=sz_mem ha;omega)
 exact this _ m (Nat.le_refl _)
theorem dp_le (m:Rxm):m.dp<=m.sz:=rx_ind (Q:=fun m=>m.dp<=m.sz) (fun m ih=>by rw[dp_eq,Kq];exact dpL_le _ ih) m
def Re.Nm:Re->Prop
 | .nod s=>NmOk s
 | .seq a b=>a.Nm/\b.Nm
 | .alt a b=>a.Nm/\b.Nm
 | .star a=>a.Nm
 |_=>True
abbrev FmOk (m:Rxm):Prop:=∃ x,Is m x/\x.Nm
theorem fm_cases {m:Rxm}(h:FmOk m):(m.kind=2/\NmOk m.node/\m.args=[])\/((m.kind=1\/m.kind=3)/\m.node=⟨#[]⟩/\m.args=[])\/(m.kind=6/\m.node=⟨#[]⟩/\m.args.length=1/\∀ a∈m.args,FmOk a)\/((m.kind=4\/m.kind=5)/\m.node=⟨#[]⟩/\m.args.length=2/\∀ a∈m.args,FmOk a):=by
 obtain⟨x,hx,hn⟩:=h;cases hx with
 |emp=>exact .inr (.inl ⟨.inl rfl,rfl,rfl⟩)
 |nod _=>exact .inl ⟨rfl,hn,rfl⟩
 |any=>exact .inr (.inl ⟨.inr rfl,rfl,rfl⟩)
 |seq h1 h2=>exact .inr (.inr (.inr ⟨.inl rfl,rfl,rfl,fun a ha=>by
   rcases List.mem_cons.1 ha with rfl|ha
   ·exact⟨_,h1,hn.1⟩
   ·simp at ha;subst ha;exact⟨_,h2,hn.2⟩⟩))
 |alt h1 h2=>exact .inr (.inr (.inr ⟨.inr rfl,rfl,rfl,fun a ha=>by
   rcases List.mem_cons.1 ha with rfl|ha
   ·exact⟨_,h1,hn.1⟩
   ·simp at ha;subst ha;exact⟨_,h2,hn.2⟩⟩))
 |star h1=>exact .inr (.inr (.inl ⟨rfl,rfl,rfl,fun a ha=>by obtain rfl:=List.mem_singleton.1 ha;exact⟨_,h1,hn⟩⟩))
theorem nd_nil {s:ByteArray}{b:Bool}(e:b=decide (s.data.toList=(⟨#[]⟩:ByteArray).data.toList))(h:b=true):s=⟨#[]⟩:=by
 rw[h] at e;exact ByteArray.ext (Array.ext' (of_decide_eq_true e.symm))
section
variable {P:Program} {w0:World} {L:Fm} {ty:TypeId} {H:List (Nat × Obj)} {x y:Operand} {t t2 e:TypeId}
theorem F0 {α:Type}{enc:α->List Value}(l2:List α){R:List (Nat × Obj)}{F:List (Nat × Obj)->List (Nat × Obj)}{d:Sl}{l:List α}{q:Option Addr}{k c sz by':Nat}{z:Value}{i0:TypeInfo}{e2:TypeId}(hk:k=l2.length)(hl:LocL H (slH d (l.flatMap enc) e) R F)(hx:Ev L x (slV d l.length))(hy:Ev L y (.slice q k c))
  (ht:∀ w,(underlying t).run P w= .ok (.slice e) w) (ht2:∀ w,(underlying t2).run P w= .ok (.slice e2) w) (hz:∀ w,(sizeOf e).run P w= .ok sz w) (hi:∀ w,(typeInfo e).run P w= .ok i0 w) (hby:i0.bytes=by') (hzv:∀ w,(zeroValue e).run P w= .ok z w) (hzs:z.cells.size=sz)
  (he:∀ u,(enc u).length=sz) (h1:∀ u,(enc u).all oneB=true) (hok:SlOk d l.length sz) (hb0:by'≠0) (hb:(2*(l.length+l2.length)+600)*by'<=281474976710656) (hA:Arr w0 H q sz enc l2):
  Eff P w0 (.call {callee:= .builtin .append,args:= #[x,y],argTypes:= #[t,t2]}) ty L H (fun u H'=>∃ d',u=slV d' (l++l2).length/\SlOk d' (l++l2).length sz/\H'=F (slH d' ((l++l2).flatMap enc) e)):=by
 subst hk;rw[List.length_append];exact eff_appN_at l2 hl hx hy ht ht2 hz hi hby hzv hzs he h1 hok hb0 hb hA
theorem Dk {α:Type}{enc:α->List Value}(v:α){R:List (Nat × Obj)}{F:List (Nat × Obj)->List (Nat × Obj)}{d:Sl}{l:List α}{n sz by':Nat}{z:Value}{i0:TypeInfo}{e2:TypeId}(hl:LocL H (slH d (l.flatMap enc) e) R F)(hx:Ev L x (slV d l.length))(hy:Ev L y (.slice (some ⟨n,0,none⟩) 1 1))
  (ht:∀ w,(underlying t).run P w= .ok (.slice e) w) (ht2:∀ w,(underlying t2).run P w= .ok (.slice e2) w) (hz:∀ w,(sizeOf e).run P w= .ok sz w) (hi:∀ w,(typeInfo e).run P w= .ok i0 w) (hby:i0.bytes=by') (hzv:∀ w,(zeroValue e).run P w= .ok z w) (hzs:z.cells.size=sz)
  (he:∀ u,(enc u).length=sz) (h1:(enc v).all oneB=true) (hok:SlOk d l.length sz) (hb0:by'≠0) (hb:(2*(l.length+1)+600)*by'<=281474976710656) (hn:Cells w0 H n 0 (enc v):=by exact A2):
  Eff P w0 (.call {callee:= .builtin .append,args:= #[x,y],argTypes:= #[t,t2]}) ty L H (fun u H'=>∃ d',u=slV d' (l++[v]).length/\SlOk d' (l++[v]).length sz/\H'=F (slH d' ((l++[v]).flatMap enc) e)):=by
 rw[List.length_append];exact Br v hl hx hy ht ht2 hz hi hby hzv hzs he h1 hok hb0 hb hn
end
theorem Ho (a0:Int)(a1:Option Addr)(a1n a1c:Nat)(a2:Int)(a3:Int)(a4:Int)(w:World):(Instr.buildSlice 27 1 #[(0, .agg #[.int .i64 a0, .slice a1 a1n a1c, .int .i64 a2, .int .i64 a3, .int .i64 a4])]).run prog w= .ok (.slice (some ⟨w.heap.size,0,none⟩) 1 1) (w.alloc (Cl [.int .i64 a0, .slice a1 a1n a1c, .int .i64 a2, .int .i64 a3, .int .i64 a4] 59)):=by kernel_rfl
theorem map_take {α β:Type}[Inhabited α] (f:α->β){l:List α}{i:Nat}(hi:i<l.length):(l.take (i+1)).map f=(l.take i).map f++[f (gd l i)]:=by
 rw[C6 hi,List.map_append,List.map_singleton]
theorem all_g {w0:World}{H:List (Nat × Obj)}(q:Option Addr)(c:Nat)(l:List Dtm)(hA:Arr w0 H q 7 encDt l)(hl:l.length<=100000)  :
  FSpec prog w0 49 #[.slice q l.length c] H (fun v H'=>∃ d:Sl,(v=slV d (l.map Dtm.m).length/\SlOk d (l.map Dtm.m).length 5)/\H'=slH d ((l.map Dtm.m).flatMap encW) 59++H):=by
 refine Az func49 U ntmps49 U (rD tb 19 U ?_);refine Bz (X:=Nat × Sl) (V:=fun ⟨i,d⟩=>[(3,slV d ((l.take i).map Dtm.m).length),(8, .int .i64 (i:Nat))]) (C:=[(6,_),(7,_)]) (G:=fun ⟨i,d⟩=>slH d (((l.take i).map Dtm.m).flatMap encW) 59++H) (φ:=fun ⟨i,d⟩=>i<=l.length/\SlOk d ((l.take i).map Dtm.m).length 5) (μ:=fun ⟨i,d⟩=>l.length - i) (x0:=(0, .nil)) ?_ (kg U) ⟨atd,atd,trivial⟩ (by exact List.Sublist.refl _) ?_
 ·exact⟨Nat.zero_le _,rfl⟩
 rintro⟨i,d⟩ ⟨hi,hd⟩;refine rD tb 6 U ?_
 first|refine Ak (Aa U) (fun c9=> ?_) (fun c9=> ?_)|refine Au (Aa U) (fun c9=> ?_) (fun c9=> ?_)
 ·have hi2:i<l.length:=by have h9:((i:Nat):Int)<(l.length:Nat):=c9;omega
  refine rC tb 6 U (y_ (Lq U U runUnderlying34 sizeOf93 qom (by first|exact rfl|exact hA.b (i:=i) hi2)) ?_ U);refine y_ (Lp U isAgg93 sizeOf93 U (by first|exact(hA.mono (by exact sbt)).cs (i:=i) hi2|exact A2)) ?_ U;refine e_ (Ap zeroValue93 cs_) ?_ U;rintro _ _ ⟨n5,rfl,rfl⟩
  first|refine A9 (Ls U U sizeOf93) U Ac ?_
  rintro _ _ ⟨rfl,rfl⟩;refine rO tb 5 U ?_;refine y_ (Lp U isAgg59 sizeOf59 U (by first|exact(show Cells w0 _ _ 2 (encW (gd l i).m) from Ce (o:=2) (k:=5) (l:=encDt (gd l i)) fdd)|exact A2)) ?_ U;refine e_ (A7 (.cons (T U) .nil) (Ho _ _ _ _ _ _ _)) ?_ U;rintro _ _ ⟨n15,rfl,rfl⟩;refine e_ (Dk ((gd l i).m) (by':=56) (enc:=encW) (d:=d) (l:=(l.take i).map Dtm.m) qlc (T U) (T U) runUnderlying27 runUnderlying27 sizeOf59 typeInfo59 U zeroValue59 U (fun _=>rfl) U hd qde (by simp only[List.length_map,List.length_take];omega)) ?_ U;rintro _ _ ⟨d2,rfl,hd2,rfl⟩;rw[<- map_take _ hi2] at hd2 ⊢;refine rO tb 5 U (y_ (Bd (T U) An qom) ?_ U);refine rO tb 2 U ?_;refine A8 ((i+1,d2)) ?_ ?_ ⟨atd,atd,trivial⟩ (kg U) ?_
  ·exact⟨hi2,hd2⟩
  ·first|omega|(simp only[];omega)
  ·exact sbt
 ·obtain rfl:i=l.length:=by have h9: ¬ ((i:Nat):Int)<(l.length:Nat):=c9;omega
  rw[List.take_length] at hd;refine rC tb 2 U (Aq (rX tb 9 U (As U (Ll U) ?_)));exact⟨_,⟨d,⟨by rw[List.take_length];rfl,hd⟩,rfl⟩,by simp only[List.take_length];exact sb0⟩
theorem C9 {a0:Int}(w:World):(Instr.buildSlice 41 1 #[(0, .int .i64 a0)]).run prog w= .ok (.slice (some ⟨w.heap.size,0,none⟩) 1 1) (w.alloc (Cl [.int .i64 a0] 3)):=by kernel_rfl
theorem eqPair (a b:Int × Int)(w:World):(Op.equal 118 (encK2 a) (encK2 b)).run prog w= .ok (decide (b=a)) w:=by
 unfold Op.equal Op.maxDepth;rw[run_equalIn_array (i:=prog.types.getD 3 default) w 9999 _ _ (show prog.underlying 118=some (.array 2 3) from by kernel_rfl) qkr];have h:=E3 9998 3 .i64 .i64 qkr part3 [a.1,a.2] [b.1,b.2] w [0,1] (by simp);rw[show prog.cellsOf 3=1 from by kernel_rfl,show List.range 2=[0,1] from rfl];show (Op.eqItems 9999 3 1 ([a.1,a.2].map (Value.int .i64)).toArray ([b.1,b.2].map (Value.int .i64)).toArray [0,1]).run prog w=_;rw[h];refine congrArg (fun r=>Result.ok r w) ?_;obtain⟨a1,a2⟩:=a;obtain⟨b1,b2⟩:=b;simp[gd]
 by_cases h:b1=a1<;>by_cases h2:b2=a2<;>simp[h,h2]<;>(intros;omega)
theorem keyPr {V:Type}:KeyOk (V:=V) prog 118 encK2:=Fs runUnderlying118 (fun b k w=>by cases b<;>kernel_rfl) (fun k k'=>by simp[Instr.sameNow]) eqPair (fun k=>by simp[Instr.sameBits])
theorem nodes_take {ls:List Lnk}{w:Way}{i:Nat}(hi:i<w.links.length):(nodesF ls w).take (i+1+1)=(nodesF ls w).take (i+1)++[gd (nodesF ls w) (i+1)]:=C6 (by rw[Co];omega)
theorem nodes_at {ls:List Lnk}{w:Way}{i:Nat}(hi:i<w.links.length):gd (nodesF ls w) (i+1)=(gd ls (gd w.links i).toNat).dst:=Fg ls w hi
theorem E9 (ls:List Lnk)(w:Way):(nodesF ls w).take 1=[w.src]:=by rw[Dc];rfl
theorem Jb {w0:World}{H:List (Nat × Obj)}(n:Nm)(hn:NetM w0 H n)(m:Wm)(hm:WayM w0 H m)(hr:InR n.links m.way.links)(hml:m.way.links.length<=100000)  :
  FSpec prog w0 74 #[.agg (encNm n).toArray, .agg (encW m).toArray] H (fun v H'=>∃ d:Sl,(v=slV d (nodesF n.links m.way).length/\SlOk d (nodesF n.links m.way).length 1)/\H'=slH d ((nodesF n.links m.way).flatMap encI) 3++H):=by
 refine Az func74 U ntmps74 U ?_;have hnl:=Co n.links m.way;refine rD tb 2 U (e_ (Lt U cs_) ?_ U);rintro _ _ ⟨n2,rfl,rfl⟩;refine e_ (Lt U cs_) ?_ U;rintro _ _ ⟨n3,rfl,rfl⟩;refine rO tb 6 U (y_ (Lo U isAgg3 (by first|exact c_o)) ?_ U);refine e_ (A7 (.cons (T U) .nil) (C9)) ?_ U;rintro _ _ ⟨n10,rfl,rfl⟩;refine rO tb 7 U (y_ (Lo U isAgg41 (by first|exact c_o)) ?_ U);refine rO tb 5 U ?_;refine Bz (X:=Nat × Sl) (V:=fun ⟨i,d⟩=>[(5,slV d ((nodesF n.links m.way).take (i+1)).length),(14, .int .i64 (i:Nat))]) (C:=[(2,_),(12,_),(13,_)]) (G:=fun ⟨i,d⟩=>slH d (((nodesF n.links m.way).take (i+1)).flatMap encI) 3++((n3,Cl (encW m) 59)::(n2,Cl (encNm n) 26)::H)) (φ:=fun ⟨i,d⟩=>i<=m.way.links.length/\SlOk d ((nodesF n.links m.way).take (i+1)).length 1) (μ:=fun ⟨i,d⟩=>m.way.links.length - i) (x0:=(0, .blk n10 1 [])) ?_ (kg U) ⟨(by first|exact Aa rfl|(refine Ae (Aa rfl) (vint ?_);omega)|(refine Ae (Aa rfl) ?_;simp;done)|(refine Ae (Aa rfl) ?_;exact(by simp only[Nat.zero_add,E9];rfl))),(by first|exact Aa rfl|(refine Ae (Aa rfl) (vint ?_);omega)|(refine Ae (Aa rfl) ?_;simp;done)|(refine Ae (Aa rfl) ?_;exact(by simp only[Nat.zero_add,E9];rfl))),trivial⟩ (by simp only[Nat.zero_add,E9];exact sbt) ?_
 ·exact⟨Nat.zero_le _,by rw[E9];exact⟨Nat.le_refl _,rfl⟩⟩
 rintro⟨i,d⟩ ⟨hi,hd⟩;refine rD tb 6 U ?_
 first|refine Ak (Aa U) (fun c15=> ?_) (fun c15=> ?_)|refine Au (Aa U) (fun c15=> ?_) (fun c15=> ?_)
 ·have hi2:i<m.way.links.length:=by have h9:((i:Nat):Int)<(m.way.links.length:Nat):=c15;omega
  have hi3:=hr i hi2;have hi4:(gd m.way.links i).toNat<n.links.length:=by omega
  refine rC tb 6 U (y_ (Lq U U runUnderlying41 sizeOf3 qom (by first|exact rfl|exact hm.links.b (i:=i) hi2|exact hn.links.b (i:=(gd m.way.links i).toNat) hi4)) ?_ U);refine y_ (Lo U isAgg3 (by first|exact c_o|exact(hm.links.mono (by exact sbt)).f0 (i:=i) hi2 U)) ?_ U;refine rO tb 6 U (y_ (Lo U isAgg23 (by first|exact c_o)) ?_ U);refine rO tb 1 U (y_ (Bl (T U) (T U) runUnderlying23 sizeOf95 qom (by first|exact rfl|exact hm.links.b (i:=i) hi2|exact hn.links.b (i:=(gd m.way.links i).toNat) hi4)) ?_ U);refine rO tb 1 U (y_ (Lo U isAgg3 (by first|exact c_o|exact(show Cell w0 _ _ (.int .i64 (gd n.links (gd m.way.links i).toNat).dst) from (hn.links.mono (by exact sbt)).f (i:=(gd m.way.links i).toNat) (j:=1) hi4 U))) ?_ U);refine e_ (A7 (.cons (T U) .nil) (C9)) ?_ U;rintro _ _ ⟨n25,rfl,rfl⟩;refine e_ (Dk ((gd n.links (gd m.way.links i).toNat).dst) (by':=8) (enc:=encI) (d:=d) (l:=(nodesF n.links m.way).take (i+1)) qlc (T U) (T U) runUnderlying41 runUnderlying41 sizeOf3 typeInfo3 U zeroValue3 U (fun _=>rfl) U hd qde (by rw[List.length_take];omega)) ?_ U;rintro _ _ ⟨d2,rfl,hd2,rfl⟩;rw[<- nodes_at hi2,<- nodes_take hi2] at hd2 ⊢;refine rO tb 5 U (y_ (Bd (T U) An qom) ?_ U);refine rO tb 2 U ?_;refine A8 ((i+1,d2)) ?_ ?_ ⟨(by first|exact Aa U|(refine Ae (Aa U) (vint ?_);omega)|(refine Ae (Aa U) ?_;simp;done)|(refine Ae (Aa U) ?_;exact(by simp only[Nat.zero_add,E9];rfl))),(by first|exact Aa U|(refine Ae (Aa U) (vint ?_);omega)|(refine Ae (Aa U) ?_;simp;done)|(refine Ae (Aa U) ?_;exact(by simp only[Nat.zero_add,E9];rfl))),trivial⟩ (kg U) ?_
  ·exact⟨hi2,hd2⟩
  ·first|omega|(simp only[];omega)
  ·exact sbt
 ·obtain rfl:i=m.way.links.length:=by have h9: ¬ ((i:Nat):Int)<(m.way.links.length:Nat):=c15;omega
  have e9:(nodesF n.links m.way).take (m.way.links.length+1)=nodesF n.links m.way:=List.take_of_length_le qom;rw[e9] at hd;refine rC tb 2 U (Aq (rX tb 9 U (As U (Ll U) ?_)));exact⟨_,⟨d,⟨by rw[e9];rfl,hd⟩,rfl⟩,by simp only[e9];exact sbt⟩
theorem last_g {w0:World}{H:List (Nat × Obj)}(n:Nm)(hn:NetM w0 H n)(m:Wm)(hm:WayM w0 H m)(hml:m.way.links.length<=100000)  :
  FSpec prog w0 78 #[.agg (encNm n).toArray, .agg (encW m).toArray] H (Still (.int .i64 (walkF n.links m.way.src m.way.links).1) H):=by
 refine Az func78 U ntmps78 U (rD tb 2 U (e_ (Lt U cs_) ?_ U));rintro _ _ ⟨n2,rfl,rfl⟩;refine e_ (Lt U cs_) ?_ U;rintro _ _ ⟨n3,rfl,rfl⟩;refine rO tb 5 U (y_ (Lp U isAgg26 sizeOf26 U (by first|exact A2)) ?_ U);refine rO tb 1 U (y_ (Lo U isAgg3 (by first|exact c_o)) ?_ U);refine rO tb 1 U (y_ (Lo U isAgg41 (by first|exact c_o)) ?_ U);refine y_ (Bb (qe3 U U U) call28 (fun H' hs=>gwalk_sT n (hn.mono (stn hs)) _ _ _ _ (hm.links.mono (stn hs)) qom)) ?_ U;refine rO tb 14 U (As U (Ll U) ?_);exact⟨_,⟨rfl,rfl⟩,sbt⟩
theorem wpO_up {P:Program}{r:Option Nat}{ops:Array Oper}{Q:Exit->Act->World->Prop}{w0:World}{H0 H1:List (Nat × Obj)}{t:Nat}(hs:H0.Sublist H1):∀ (f:Nat) (listed:Array Bool) (a:Act) (H:List (Nat × Obj)),wpO P r ops Q w0 H1 t f listed a H->wpO P r ops Q w0 H0 t f listed a H
 |0,_,_,_,h=>h
 |f+1,_,_,_,⟨h1,h2⟩=>⟨h1,fun i hi hit w hO=>wpOpIn_mono (fun a' w' ⟨H',hs',hO',h'⟩=>⟨H',hs.trans hs',hO',wpO_up hs f _ a' H' h'⟩) (h2 i hi hit w hO)⟩
theorem Li {P:Program}{r:Option Nat}{N:Nat}{w0:World}{H0 H:List (Nat × Obj)}{ops:Array Oper}{t:Nat}{plan:List (Nat × Bool)}{Q:Post}{L:Fm}{ds:List Deferred}(h:JO P r N w0 H ops t plan Q L ds H):JO P r N w0 H0 ops t plan Q L ds H:=fun hT hD hS hP hs listed inv hp b a hsz hf hd=>
 wpO_up hs _ _ _ _ (h hT hD hS hP (List.Sublist.refl _) listed inv hp b a hsz hf hd)
theorem Ka0 (a0:Option Addr)(a0n a0c:Nat)(a1:Option Addr)(a1n a1c:Nat)(a2:Option Addr)(a2n a2c:Nat)(a3:Option Addr)(a3n a3c:Nat)(a4:Option Addr)(a4n a4c:Nat)(a5:Option Addr)(a5n a5c:Nat)(a6:Option Nat)(w:World):(Instr.build 117 #[(0, .agg #[.slice a0 a0n a0c, .slice a1 a1n a1c, .slice a2 a2n a2c]),(1, .slice a3 a3n a3c),(2, .slice a4 a4n a4c),(3, .slice a5 a5n a5c),(4, .map a6)]).run prog w= .ok (.agg #[.slice a0 a0n a0c, .slice a1 a1n a1c, .slice a2 a2n a2c, .slice a3 a3n a3c, .slice a4 a4n a4c, .slice a5 a5n a5c, .map a6]) w:=by kernel_rfl
theorem Ka1 (a0:Int)(a1:Int)(w:World):(Instr.build 118 #[(0, .int .i64 a0),(1, .int .i64 a1)]).run prog w= .ok (.agg #[.int .i64 a0, .int .i64 a1]) w:=by kernel_rfl
abbrev Pt (n o:Nat):Value:= .pointer (some ⟨n,o,none⟩)
structure Bk where
 n:Nm
 ws:List Wm
 qw:Option Addr
 cw:Nat
 l:List Dtm
 ql:Option Addr
 cl:Nat
 tg:List Int
 qt:Option Addr
 ct:Nat
abbrev bkC (b:Bk) (r:Nat):List Value:=encNm b.n++[.slice b.qw b.ws.length b.cw, .slice b.ql b.l.length b.cl, .slice b.qt b.tg.length b.ct, .map (some r)]
structure BkM (w0:World) (H:List (Nat × Obj)) (b:Bk):Prop where
 n:NetM w0 H b.n
 w:WaysM w0 H b.qw b.ws
 l:Arr w0 H b.ql 7 encDt b.l
 t:Arr w0 H b.qt 1 encI b.tg
theorem BkM.mono {w0:World}{H H':List (Nat × Obj)}{b:Bk}(h:BkM w0 H b)(hs:H.Sublist H':=by exact sbt):BkM w0 H' b:=⟨h.n.mono hs,h.w.mono hs,h.l.mono hs,h.t.mono hs⟩
structure BkOk (b:Bk):Prop where
 d:DtIn b.n.links b.ws b.l
 nd:∀ m∈b.ws,(nodesF b.n.links m.way).Nodup
 inr:∀ m∈b.ws,InR b.n.links m.way.links
 len:∀ m∈b.ws,m.way.links.length<=100000
 ln:b.l.length<=100000
theorem newBook_g {w0:World}{H:List (Nat × Obj)}(b:Bk)(hM:BkM w0 H b)(ho:BkOk b)  :
  FSpec prog w0 51 #[.agg (encNm b.n).toArray, .slice b.qw b.ws.length b.cw, .slice b.ql b.l.length b.cl, .slice b.qt b.tg.length b.ct] H (fun v H'=>∃ y:Nat × Nat,v=Pt y.1 0/\H'=(y.1,Cl (bkC b y.2) 117)::(y.2,mapO encK2 encK1 (bookF b.n.links b.ws b.l b.l.length))::H):=by
 refine Az func51 U ntmps51 U ?_;have hln:=ho.ln;refine rD tb 2 U (e_ (Lt U cs_) ?_ U);rintro _ _ ⟨n4,rfl,rfl⟩;refine rO tb 5 U (y_ (Lp U isAgg26 sizeOf26 U (by first|exact A2)) ?_ U);refine rO tb 3 U (e_ Dd ?_ U);rintro _ _ ⟨n16,rfl,rfl⟩;refine y_ (Bg (.cons (T U) (.cons (T U) (.cons (T U) (.cons (T U) (.cons (T U) .nil))))) (Ka0 _ _ _ _ _ _ _ _ _ _ _ _ _ _ _ _ _ _ _)) (e_ (Lt U cs_) ?_ U) U;rintro _ _ ⟨n18,rfl,rfl⟩;refine rO tb 12 U ?_;refine Bz (X:=Nat) (V:=fun i=>[(21, .int .i64 (i:Nat))]) (C:=[(1,_),(4,_),(9,_),(19,_),(20,_)]) (G:=fun i=>(n18,Cl (bkC b n16) 117)::(n16,mapO encK2 encK1 (bookF b.n.links b.ws b.l i))::(n4,Cl (encNm b.n) 26)::H) (φ:=fun i=>i<=b.l.length) (μ:=fun i=>b.l.length - i) (x0:=0) ?_ (kg U) ⟨atd,trivial⟩ (by exact List.Sublist.refl _) ?_
 ·exact Nat.zero_le _
 rintro i hi;refine rD tb 6 U ?_
 first|refine Ak (Aa U) (fun c22=> ?_) (fun c22=> ?_)|refine Au (Aa U) (fun c22=> ?_) (fun c22=> ?_)
 ·have hi2:i<b.l.length:=by have h9:((i:Nat):Int)<(b.l.length:Nat):=c22;omega
  have hw0:=ho.d.w _ (Ao hi2);have hp0:=ho.d.p _ (Ao hi2);have hwi:(gd b.l i).way.toNat<b.ws.length:=by have:=ho.d.w _ (Ao hi2);omega
  have hnl:=Co b.n.links (gd b.ws (gd b.l i).way.toNat).way;have hpi:(gd b.l i).place.toNat<(nodesF b.n.links (gd b.ws (gd b.l i).way.toNat).way).length:=by have:=ho.d.p _ (Ao hi2);omega
  refine rC tb 7 U (y_ (Lq U U runUnderlying34 sizeOf93 qom (by first|exact rfl|exact hM.l.b (i:=i) hi2|exact hM.w.arr.b (i:=(gd b.l i).way.toNat) hwi|exact hN.b (i:=(gd b.l i).place.toNat) hpi)) ?_ U);refine y_ (Lp U isAgg93 sizeOf93 U (by first|exact(hM.l.mono (by exact sbt)).cs (i:=i) hi2|exact A2)) ?_ U;refine e_ (Ap zeroValue93 cs_) ?_ U;rintro _ _ ⟨n11,rfl,rfl⟩;refine rO tb 1 U ?_
  first|refine A9 (Ls U U sizeOf93) U Ac ?_
  rintro _ _ ⟨rfl,rfl⟩;refine rO tb 2 U (B9 19 [(0,true),(1,true),(2,true),(3,true),(4,true),(5,true),(6,true),(7,true),(8,true),(9,true),(10,true),(11,true),(13,true),(14,true),(18,true),(12,false),(15,true),(16,true),(17,true)] _ mixd qkr sb0 ?_ By);refine rP tb 3 U (o_y U (Lo U isAgg115 (by first|exact c_o)) ?_ U Ac);refine rP tb 1 U (o_y U (Lo U isAgg3 (by first|exact c_o)) ?_ U Ac);refine o_y U (Lp U isAgg26 sizeOf26 U (by first|exact A2)) ?_ U Ac;refine rP tb 2 U (o_y U (Lo U isAgg3 (by first|exact c_o)) ?_ U Ac);refine o_y U (Bl (T U) (T U) runUnderlying27 sizeOf59 qom (by first|exact rfl|exact hM.l.b (i:=i) hi2|exact hM.w.arr.b (i:=(gd b.l i).way.toNat) hwi|exact hN.b (i:=(gd b.l i).place.toNat) hpi)) ?_ U Ac;refine o_y U (Lp U isAgg59 sizeOf59 U (by first|exact(hM.w.arr.mono (by exact sbt)).cs (i:=(gd b.l i).way.toNat) hwi|exact A2)) ?_ U Ac;refine rP tb 1 U (o_y U (Lo U isAgg3 (by first|exact c_o)) ?_ U Ac);refine rP tb 1 U (o_e U (A1 (qe2 U U) call74 (Jb b.n (hM.n.mono (by exact sbt)) (gd b.ws (gd b.l i).way.toNat) ((hM.w.at hwi).mono (by exact sbt)) (ho.inr _ (Ao hwi)) (ho.len _ (Ao hwi)))) ?_ U Ac);rintro _ _ ⟨d38,⟨rfl,hd38⟩,rfl⟩;have hN:Arr w0 (slH d38 ((nodesF b.n.links (gd b.ws (gd b.l i).way.toNat).way).flatMap encI) 3++[]) (slQ d38) 1 encI (nodesF b.n.links (gd b.ws (gd b.l i).way.toNat).way):=A5 (fun _=>rfl) hd38;refine⟨sbt,(Li (o_y U (Bl (T U) (T U) runUnderlying41 sizeOf3 qom (by first|exact rfl|exact hM.l.b (i:=i) hi2|exact hM.w.arr.b (i:=(gd b.l i).way.toNat) hwi|exact hN.b (i:=(gd b.l i).place.toNat) hpi)) ?_ U Ac))⟩;refine o_y U (Lo U isAgg3 (by first|exact c_o|exact(hN.mono (by rw[List.append_nil];exact List.sublist_append_left _ _)).f0 (i:=(gd b.l i).place.toNat) hpi U)) ?_ U Ac;refine o_y U (Bg (.cons (T U) (.cons (T U) .nil)) (Ka1 _ _)) (Bj U (e_ (C5 (V:=Int) (encV:=encK1) ((gd b.l i).way,dnode b.n.links b.ws (gd b.l i)) (i:Int) keyPr (T U) (T U) U (T U) U runUnderlying115) ?_ U)) U Ac;rintro _ _ ⟨rfl,rfl⟩;refine kO tb 3 [1,4,9,19,20,21] rfl U (rG tb 1 U (y_ (Bd (T U) An qom) ?_ U));refine rO tb 2 U ?_;refine A8 (i+1) ?_ ?_ ⟨atd,trivial⟩ (kg U) ?_
  ·exact hi2
  ·first|omega|(simp only[];omega)
  ·exact sbt
 ·obtain rfl:i=b.l.length:=by have h9: ¬ ((i:Nat):Int)<(b.l.length:Nat):=c22;omega
  refine rC tb 2 U (Aq (rX tb 9 U (As U (Ll U) ?_)));exact⟨_,⟨(n18,n16),rfl,rfl⟩,by exact sbt⟩
theorem sec_yes {ls:List Lnk}{ws:List Wm}{l:List Dtm}{tg:List Int}{i x:Int}(h: ¬ detF ls ws l i x=none):(detF ls ws l i x).getD 0<l.length/\secF ls ws l tg i x=gd tg ((detF ls ws l i x).getD 0):=by
 cases hd:detF ls ws l i x with
 |none=>exact absurd hd h
 |some k=>exact⟨(Di hd).1,by unfold secF;rw[hd];rfl⟩
theorem sec_no {ls:List Lnk}{ws:List Wm}{l:List Dtm}{tg:List Int}{i x:Int}(h:detF ls ws l i x=none):secF ls ws l tg i x=0:=by unfold secF;rw[h]
theorem yl_lookBk {w0:World}{L:Fm}{H:List (Nat × Obj)}{ty:TypeId}{x y:Operand}{r:Nat}{b:Bk}{i k:Int}{v:Value}(ho:BkOk b)(hx:Ev L x (.map (some r)))(hy:Ev L y v)(hv:v=encK2 (i,k))(hf:Fnd H r (mapO encK2 encK1 (bookF b.n.links b.ws b.l b.l.length))):
  Yl prog w0 (.lookup 115 x y true) ty L H (.tuple #[.int .i64 (((detF b.n.links b.ws b.l i k).getD 0:Nat):Int), .bool (decide (¬ detF b.n.links b.ws b.l i k=none))]):=by
 have h:=Ga (P:=prog) (w0:=w0) (ty:=ty) (keyPr (V:=Int)) hx hy hv runUnderlying115 zeroValue3 hf;rw[book_det ho.d ho.nd] at h;cases hd:detF b.n.links b.ws b.l i k with
 |none=>rw[hd] at h;simpa using h
 |some j=>rw[hd] at h;simpa using h
structure BkF (H:List (Nat × Obj)) (b:Bk) (p r:Nat):Prop where
 p:Fnd H p (Cl (bkC b r) 117)
 r:Fnd H r (mapO encK2 encK1 (bookF b.n.links b.ws b.l b.l.length))
theorem BkF.mono {H H':List (Nat × Obj)}{b:Bk}{p r:Nat}(h:BkF H b p r)(hs:H.Sublist H':=by exact sbt):BkF H' b p r:=⟨Fnd.mono h.p hs,Fnd.mono h.r hs⟩
theorem second_g {w0:World}{H:List (Nat × Obj)}(b:Bk)(hM:BkM w0 H b)(ho:BkOk b)(hlt:b.l.length<=b.tg.length)(p r:Nat)(hf:BkF H b p r)(i x:Int):
  FSpec prog w0 158 #[Pt p 0, .int .i64 i, .int .i64 x] H (Still (.int .i64 (secF b.n.links b.ws b.l b.tg i x)) H):=by
 refine Az func158 U ntmps158 U (rD tb 11 U (y_ (Lo U isAgg115 (by first|exact c_o|exact B6 (hf.mono (by exact sbt)).p U)) ?_ U));refine rO tb 2 U (y_ (Bg (.cons (T U) (.cons (T U) .nil)) (Ka1 _ _)) (y_ (yl_lookBk (i:=i) (k:=x) ho (T U) (T U) U (hf.mono (by exact sbt)).r) ?_ U) U);refine rO tb 12 U ?_
 first|refine Ak (Aa U) (fun c20=> ?_) (fun c20=> ?_)|refine Au (Aa U) (fun c20=> ?_) (fun c20=> ?_)
 ·obtain⟨hs1,hs2⟩:=sec_yes (tg:=b.tg) c20;refine rC tb 5 U (y_ (Lo U isAgg41 (by first|exact c_o|exact B6 (hf.mono (by exact sbt)).p U)) ?_ U);refine rO tb 1 U (y_ (Bl (T U) (T U) runUnderlying41 sizeOf3 qom (by first|exact rfl|exact hM.t.b (i:=(detF b.n.links b.ws b.l i x).getD 0) qom)) ?_ U);refine y_ (Lo U isAgg3 (by first|exact c_o|exact(hM.t.mono (by exact sbt)).f0 (i:=(detF b.n.links b.ws b.l i x).getD 0) qom U|exact B6 (hf.mono (by exact sbt)).p U)) ?_ U;refine rO tb 5 U (As U (Ll U) ?_);rw[hs2];exact⟨_,⟨rfl,rfl⟩,by exact sbt⟩
 ·have hs2:=sec_no (tg:=b.tg) (Decidable.byContradiction c20);refine rC tb 8 U (As U (Ll U) ?_);rw[hs2];exact⟨_,⟨rfl,rfl⟩,by exact sbt⟩
theorem gd_memX {l:List Int}{x:Int}(h:x∈l):∃ j,j<l.length/\gd l j=x:=by
 obtain⟨j,hj,rfl⟩:=List.getElem_of_mem h;exact⟨j,hj,Ay hj⟩
theorem index_g {w0:World}{H:List (Nat × Obj)}(q:Option Addr)(c:Nat)(l:List Int)(hA:Arr w0 H q 1 encI l)(hl:l.length<=4611686018427387903)(x:Int):
  FSpec prog w0 111 #[.slice q l.length c, .int .i64 x] H (fun v H'=>(∃ i:Int,v= .int .i64 i/\(0<=i↔x∈l))/\H'=H):=by
 refine Az func111 U ntmps111 U (rD tb 14 U ?_);refine Cb (X:=Nat) (V:=fun i=>[(8, .int .i64 (i:Nat))]) (C:=[(0,_),(1,_),(7,_)]) (φ:=fun i=>i<=l.length/\∀ j,j<i->¬ gd l j=x) (μ:=fun i=>l.length - i) (x0:=0) ?_ (kg U) ⟨atd,trivial⟩ ?_
 ·exact⟨Nat.zero_le _,fun j hj=>absurd hj (Nat.not_lt_zero j)⟩
 rintro i ⟨hi,hnx⟩;refine rD tb 6 U ?_
 first|refine Ak (Aa U) (fun c9=> ?_) (fun c9=> ?_)|refine Au (Aa U) (fun c9=> ?_) (fun c9=> ?_)
 ·have hi2:i<l.length:=by have h9:((i:Nat):Int)<(l.length:Nat):=c9;omega
  refine rC tb 15 U (y_ (Lq U U runUnderlying41 sizeOf3 qom (by first|exact rfl|exact hA.b (i:=i) hi2)) ?_ U);refine y_ (Lo U isAgg3 (by first|exact c_o|exact(hA.mono (by exact sbt)).f0 (i:=i) hi2 U)) ?_ U;refine rO tb 3 U ?_
  first|refine Ak (Aa U) (fun c16=> ?_) (fun c16=> ?_)|refine Au (Aa U) (fun c16=> ?_) (fun c16=> ?_)
  ·skip
   refine rC tb 9 U (Bc (rX tb 2 U (As U (Ll U) ?_)));exact⟨_,⟨⟨(i:Nat),rfl,⟨fun _=>(by rw[show x=gd l i from c16];exact Ao hi2),fun _=>qom⟩⟩,rfl⟩,by exact sbt⟩
  ·have hne: ¬ gd l i=x:=fun e=>c16 e.symm
   refine rC tb 4 U (y_ (Bd (T U) An qom) ?_ U);refine rO tb 2 U ?_;refine A8 (i+1) ?_ ?_ ⟨atd,trivial⟩ (kg U) ?_
   ·refine⟨hi2,fun j hj=> ?_⟩;rcases Nat.lt_succ_iff_lt_or_eq.1 hj with h1|rfl
    ·exact hnx j h1
    ·exact hne
   ·first|omega|(simp only[];omega)
   ·exact sbt
 ·obtain rfl:i=l.length:=by have h9: ¬ ((i:Nat):Int)<(l.length:Nat):=c9;omega
  refine rC tb 2 U (Aq (rX tb 8 U (As U (Ll U) ?_)));exact⟨_,⟨⟨-1,rfl,⟨fun h=>qom,fun h=>(by obtain⟨j,hj,e⟩:=gd_memX h;exact absurd e (hnx j hj))⟩⟩,rfl⟩,by exact sbt⟩
theorem contains_g {w0:World}{H:List (Nat × Obj)}(q:Option Addr)(c:Nat)(l:List Int)(hA:Arr w0 H q 1 encI l)(hl:l.length<=4611686018427387903)(x:Int):
  FSpec prog w0 58 #[.slice q l.length c, .int .i64 x] H (Still (.bool (decide (x∈l))) H):=by
 refine Az func58 U ntmps58 U (rD tb 9 U (e_ (A1 (qe2 U U) call111 (index_g q c l (hA.mono (by exact sbt)) hl x)) ?_ U));rintro _ _ ⟨⟨i7,rfl,h7⟩,rfl⟩;refine rO tb 5 U (As U (Ll U) ?_);rw[show decide (i7>=0)=decide (x∈l) from decide_eq_decide.2 h7];exact⟨_,⟨rfl,rfl⟩,by exact sbt⟩
theorem max_g {w0:World}{H:List (Nat × Obj)}(q:Option Addr)(c:Nat)(l:List Int)(hA:Arr w0 H q 1 encI l)(hl:l.length<=4611686018427387903)(hne:l≠[]):
  FSpec prog w0 50 #[.slice q l.length c] H (fun v H'=>(∃ m:Int,v= .int .i64 m/\m∈l/\∀ t∈l,t<=m)/\H'=H):=by
 refine Az func50 U ntmps50 U ?_;have hl1:0<l.length:=List.length_pos_iff.2 hne;refine rD tb 13 U ?_
 first|refine Ak (Aa U) (fun c7=> ?_) (fun c7=> ?_)|refine Au (Aa U) (fun c7=> ?_) (fun c7=> ?_)
 ·exact absurd c7 qom
 ·refine rC tb 5 U (y_ (Bl (T U) An runUnderlying41 sizeOf3 qom (by first|exact rfl|exact hA.b (i:=i) hi2|exact hA.b (i:=0) hl1)) ?_ U);refine y_ (Lo U isAgg3 (by first|exact c_o|exact(show Cell w0 _ _ (.int .i64 (gd l 0)) from (hA.mono (by exact sbt)).f0 (i:=0) hl1 U))) ?_ U;refine rO tb 10 U ?_;refine Cb (X:=Nat × Int) (V:=fun ⟨i,m⟩=>[(4, .int .i64 (i:Nat)),(3, .int .i64 m)]) (C:=[(0,_)]) (φ:=fun ⟨i,m⟩=>i<=l.length/\m∈l/\∀ j,j<i->gd l j<=m) (μ:=fun ⟨i,m⟩=>l.length - i) (x0:=(1,gd l 0)) ?_ (kg U) ⟨atd,atd,trivial⟩ ?_
  ·exact⟨hl1,Ao hl1,fun j hj=>(by obtain rfl:j=0:=qom;exact Int.le_refl _)⟩
  rintro⟨i,m⟩ ⟨hi,hm,hall⟩;refine rD tb 9 U ?_
  first|refine Ak (Aa U) (fun c15=> ?_) (fun c15=> ?_)|refine Au (Aa U) (fun c15=> ?_) (fun c15=> ?_)
  ·have hi2:i<l.length:=by have h9:((i:Nat):Int)<(l.length:Nat):=c15;omega
   refine rC tb 8 U (y_ (Lq U U runUnderlying41 sizeOf3 qom (by first|exact rfl|exact hA.b (i:=i) hi2|exact hA.b (i:=0) hl1)) ?_ U);refine y_ (Lo U isAgg3 (by first|exact c_o|exact(hA.mono (by exact sbt)).f0 (i:=i) hi2 U)) ?_ U;refine y_ (Kg (T U) (T U)) (rO tb 6 U (y_ (Bd (T U) An qom) ?_ U)) U;refine rO tb 2 U ?_;refine A8 ((i+1,max m (gd l i))) ?_ ?_ ⟨atd,atd,trivial⟩ (kg U) ?_
   ·refine⟨hi2,?_,fun j hj=> ?_⟩
    ·rcases Int.le_total m (gd l i) with h|h
     ·rw[Int.max_eq_right h];exact Ao hi2
     ·rw[Int.max_eq_left h];exact hm
    ·rcases Nat.lt_succ_iff_lt_or_eq.1 hj with h1|rfl
     ·have:=hall j h1;omega
     ·omega
   ·first|omega|(simp only[];omega)
   ·exact sbt
  ·obtain rfl:i=l.length:=by have h9: ¬ ((i:Nat):Int)<(l.length:Nat):=c15;omega
   refine rC tb 2 U (Aq (rX tb 9 U (As U (Ll U) ?_)));exact⟨_,⟨⟨m,rfl,hm,fun t ht=>(by obtain⟨j,hj,rfl⟩:=gd_memX ht;exact hall j hj)⟩,rfl⟩,by exact sbt⟩
theorem agr_conf {ls:List Lnk}{ws:List Wm}{l:List Dtm}{tg:List Int}{i k:Nat}(h:0<=confI ls (gd ws i).way (gd ws k).way):agrP ls ws l tg i k=false:=by
 unfold agrP;rw[show decide (¬ 0<=confI ls (gd ws i).way (gd ws k).way)=false from decide_eq_false (fun h2=>h2 h)];rfl
def agrA (ls:List Lnk) (ws:List Wm) (l:List Dtm) (tg:List Int) (i k a:Nat):Prop:=
 ¬ (gd (nodesF ls (gd ws i).way) a∈nodesF ls (gd ws k).way/\¬ secF ls ws l tg i (gd (nodesF ls (gd ws i).way) a)=secF ls ws l tg k (gd (nodesF ls (gd ws i).way) a))
theorem agr_bad {ls:List Lnk}{ws:List Wm}{l:List Dtm}{tg:List Int}{i k a:Nat}(ha:a<(gd ws i).way.links.length)(h: ¬ agrA ls ws l tg i k a):agrP ls ws l tg i k=false:=by
 unfold agrP;rw[Bool.and_eq_false_iff]
 right;rw[List.all_eq_false];exact⟨a,List.mem_range.2 ha,by rw[decide_eq_true_eq];exact h⟩
theorem agr_good {ls:List Lnk}{ws:List Wm}{l:List Dtm}{tg:List Int}{i k:Nat}(hc: ¬ 0<=confI ls (gd ws i).way (gd ws k).way)(h:∀ a,a<(gd ws i).way.links.length->agrA ls ws l tg i k a):agrP ls ws l tg i k=true:=by
 unfold agrP;rw[Bool.and_eq_true,List.all_eq_true];exact⟨decide_eq_true hc,fun a ha=>decide_eq_true (h a (List.mem_range.1 ha))⟩
theorem agree_g {w0:World}{H:List (Nat × Obj)}(b:Bk)(hM:BkM w0 H b)(ho:BkOk b)(hlt:b.l.length<=b.tg.length)(p r:Nat)(hf:BkF H b p r)(i k:Nat)(hi:i<b.ws.length)(hk:k<b.ws.length):
  FSpec prog w0 105 #[Pt p 0, .int .i64 (i:Nat), .int .i64 (k:Nat)] H (Still (.bool (agrP b.n.links b.ws b.l b.tg i k)) H):=by
 refine Az func105 U ntmps105 U ?_;have hli:=ho.len _ (Ao hi);have hlk:=ho.len _ (Ao hk);have hnk:=Co b.n.links (gd b.ws k).way;have hni:=Co b.n.links (gd b.ws i).way;refine rD tb 7 U (B9 24 [(0,true),(1,true),(2,true),(3,true),(4,true),(5,true),(6,true),(7,true),(8,true),(9,true),(10,true),(11,true),(12,true),(13,true),(14,true),(15,true),(16,true),(17,true),(18,true),(19,true),(20,true),(21,true),(22,true),(23,true)] _ mixd qkr sb0 ?_ By);refine rP tb 3 U (o_y U (Lp U isAgg26 sizeOf26 U (by first|exact(show Cells w0 _ p 0 (encNm b.n) from Ce (o:=0) (k:=3) (hf.mono (by exact sbt)).p)|exact A2|exact B6 (hf.mono (by exact sbt)).p U)) ?_ U Ac);refine rP tb 3 U (o_y U (Lo U isAgg27 (by first|exact c_o|exact B6 (hf.mono (by exact sbt)).p U)) ?_ U Ac);refine rP tb 1 U (o_y U (Bl (T U) (T U) runUnderlying27 sizeOf59 qom (by first|exact rfl|exact hM.w.arr.b (i:=i) hi|exact hM.w.arr.b (i:=k) hk|exact hNi.b (i:=a) ha2)) ?_ U Ac);refine o_y U (Lp U isAgg59 sizeOf59 U (by first|exact(hM.w.arr.mono (by exact sbt)).cs (i:=i) hi|exact A2|exact B6 (hf.mono (by exact sbt)).p U)) ?_ U Ac;refine rP tb 3 U (o_y U (Lo U isAgg27 (by first|exact c_o|exact B6 (hf.mono (by exact sbt)).p U)) ?_ U Ac);refine rP tb 1 U (o_y U (Bl (T U) (T U) runUnderlying27 sizeOf59 qom (by first|exact rfl|exact hM.w.arr.b (i:=i) hi|exact hM.w.arr.b (i:=k) hk|exact hNi.b (i:=a) ha2)) ?_ U Ac);refine o_y U (Lp U isAgg59 sizeOf59 U (by first|exact(hM.w.arr.mono (by exact sbt)).cs (i:=k) hk|exact A2|exact B6 (hf.mono (by exact sbt)).p U)) ?_ U Ac;refine o_y U (Bb (qe3 U U U) call157 (fun H' hs=>tConf_s b.n (hM.n.mono (stn hs)) (gd b.ws i) (gd b.ws k) ((hM.w.at hi).mono (stn hs)) ((hM.w.at hk).mono (stn hs)) (ho.inr _ (Ao hi)) (ho.inr _ (Ao hk)) qom qom)) ?_ U Ac;refine rP tb 5 U (Bj U (rO tb 7 U ?_))
 first|refine Ak (Aa U) (fun c34=> ?_) (fun c34=> ?_)|refine Au (Aa U) (fun c34=> ?_) (fun c34=> ?_)
 ·refine rC tb 7 U (As U (Ll U) ?_);rw[agr_conf c34];exact⟨_,⟨rfl,rfl⟩,by exact sbt⟩
 ·refine rC tb 3 U (B9 11 [(0,true),(1,true),(2,true),(3,true),(4,true),(5,true),(6,true),(7,true),(8,true),(9,true),(10,true)] _ mixd qkr sb0 ?_ By);refine rP tb 3 U (o_y U (Lp U isAgg26 sizeOf26 U (by first|exact(show Cells w0 _ p 0 (encNm b.n) from Ce (o:=0) (k:=3) (hf.mono (by exact sbt)).p)|exact A2|exact B6 (hf.mono (by exact sbt)).p U)) ?_ U Ac);refine rP tb 3 U (o_y U (Lo U isAgg27 (by first|exact c_o|exact B6 (hf.mono (by exact sbt)).p U)) ?_ U Ac);refine rP tb 1 U (o_y U (Bl (T U) (T U) runUnderlying27 sizeOf59 qom (by first|exact rfl|exact hM.w.arr.b (i:=i) hi|exact hM.w.arr.b (i:=k) hk|exact hNi.b (i:=a) ha2)) ?_ U Ac);refine o_y U (Lp U isAgg59 sizeOf59 U (by first|exact(hM.w.arr.mono (by exact sbt)).cs (i:=k) hk|exact A2|exact B6 (hf.mono (by exact sbt)).p U)) ?_ U Ac;refine Bj U (e_ (A1 (qe2 U U) call74 (Jb b.n (hM.n.mono (by exact sbt)) (gd b.ws k) ((hM.w.at hk).mono (by exact sbt)) (ho.inr _ (Ao hk)) (ho.len _ (Ao hk)))) ?_ U);rintro _ _ ⟨d46,⟨rfl,hd46⟩,rfl⟩;refine kO tb 3 [0,1,2,9] rfl U (rG tb 2 U (B9 14 [(0,true),(1,true),(2,true),(3,true),(4,true),(5,true),(6,true),(7,true),(8,true),(9,true),(10,true),(13,true),(11,false),(12,true)] _ mixd qkr sb0 ?_ By));refine rP tb 3 U (o_y U (Lp U isAgg26 sizeOf26 U (by first|exact(show Cells w0 _ p 0 (encNm b.n) from Ce (o:=0) (k:=3) (hf.mono (by exact sbt)).p)|exact A2|exact B6 (hf.mono (by exact sbt)).p U)) ?_ U Ac);refine rP tb 3 U (o_y U (Lo U isAgg27 (by first|exact c_o|exact B6 (hf.mono (by exact sbt)).p U)) ?_ U Ac);refine rP tb 1 U (o_y U (Bl (T U) (T U) runUnderlying27 sizeOf59 qom (by first|exact rfl|exact hM.w.arr.b (i:=i) hi|exact hM.w.arr.b (i:=k) hk|exact hNi.b (i:=a) ha2)) ?_ U Ac);refine o_y U (Lp U isAgg59 sizeOf59 U (by first|exact(hM.w.arr.mono (by exact sbt)).cs (i:=i) hi|exact A2|exact B6 (hf.mono (by exact sbt)).p U)) ?_ U Ac;refine rP tb 1 U (o_e U (A1 (qe2 U U) call74 (Jb b.n (hM.n.mono (by exact sbt)) (gd b.ws i) ((hM.w.at hi).mono (by exact sbt)) (ho.inr _ (Ao hi)) (ho.len _ (Ao hi)))) ?_ U Ac);rintro _ _ ⟨d58,⟨rfl,hd58⟩,rfl⟩;refine⟨sbt,(Li (rP tb 1 U (Bj U (rO tb 3 U ?_))))⟩;refine Bz (X:=Nat) (V:=fun a=>[(60, .int .i64 (a:Nat))]) (C:=[(0,_),(1,_),(2,_),(9,_),(58,_),(59,_)]) (G:=fun a=>slH d58 ((nodesF b.n.links (gd b.ws i).way).flatMap encI) 3++(slH d46 ((nodesF b.n.links (gd b.ws k).way).flatMap encI) 3++H)) (φ:=fun a=>a<=(nodesF b.n.links (gd b.ws i).way).length/\∀ a2,a2<a->a2<(gd b.ws i).way.links.length->agrA b.n.links b.ws b.l b.tg i k a2) (μ:=fun a=>(nodesF b.n.links (gd b.ws i).way).length - a) (x0:=0) ?_ (kg U) ⟨atd,trivial⟩ (by exact List.Sublist.refl _) ?_
  ·exact⟨Nat.zero_le _,fun a2 h=>absurd h (Nat.not_lt_zero a2)⟩
  rintro a ⟨ha,hall⟩;have hNi:Arr w0 (slH d58 ((nodesF b.n.links (gd b.ws i).way).flatMap encI) 3++[]) (slQ d58) 1 encI (nodesF b.n.links (gd b.ws i).way):=A5 (fun _=>rfl) hd58;refine rD tb 6 U ?_
  first|refine Ak (Aa U) (fun c61=> ?_) (fun c61=> ?_)|refine Au (Aa U) (fun c61=> ?_) (fun c61=> ?_)
  ·have ha2:a<(nodesF b.n.links (gd b.ws i).way).length:=by have h9:((a:Nat):Int)<((nodesF b.n.links (gd b.ws i).way).length:Nat):=c61;omega
   refine rC tb 7 U (y_ (Lq U U runUnderlying41 sizeOf3 qom (by first|exact rfl|exact hM.w.arr.b (i:=i) hi|exact hM.w.arr.b (i:=k) hk|exact hNi.b (i:=a) ha2)) ?_ U);refine y_ (Lo U isAgg3 (by first|exact c_o|exact(show Cell w0 _ _ (.int .i64 (gd (nodesF b.n.links (gd b.ws i).way) a)) from (hNi.mono (by rw[List.append_nil];exact List.sublist_append_left _ _)).f0 (i:=a) ha2 U)|exact B6 (hf.mono (by exact sbt)).p U)) ?_ U;refine rO tb 10 U (y_ (Lo U isAgg27 (by first|exact c_o|exact B6 (hf.mono (by exact sbt)).p U)) ?_ U);refine rO tb 1 U (y_ (Bl (T U) (T U) runUnderlying27 sizeOf59 qom (by first|exact rfl|exact hM.w.arr.b (i:=i) hi|exact hM.w.arr.b (i:=k) hk|exact hNi.b (i:=a) ha2)) ?_ U);refine rO tb 1 U (y_ (Lo U isAgg41 (by first|exact c_o|exact(hM.w.arr.mono (by exact sbt)).f (i:=i) (j:=1) hi U|exact B6 (hf.mono (by exact sbt)).p U)) ?_ U);refine rO tb 3 U ?_
   first|refine Bi (s:=76) (Aa U) (fun c76=> ?_) (fun c76=> ?_)|refine B2 (s:=76) (Aa U) (fun c76=> ?_) (fun c76=> ?_)
   ·refine rO tb 2 U (A3 (Bb (qe2 U U) call58 (fun H' hs=>contains_g _ _ (nodesF b.n.links (gd b.ws k).way) ((show Arr w0 (slH d46 ((nodesF b.n.links (gd b.ws k).way).flatMap encI) 3++[]) (slQ d46) 1 encI (nodesF b.n.links (gd b.ws k).way) from A5 (fun _=>rfl) hd46).mono (by rw[List.append_nil];exact(List.sublist_append_left _ _).trans ((List.sublist_append_right _ _).trans hs))) qom (gd (nodesF b.n.links (gd b.ws i).way) a))) U (Ax U U (Aa U)) ?_);refine rO tb 2 U ?_
    first|refine Bi (s:=81) (Aa U) (fun c81=> ?_) (fun c81=> ?_)|refine B2 (s:=81) (Aa U) (fun c81=> ?_) (fun c81=> ?_)
    ·refine rO tb 3 U (A3 (Bb (qe3 U U U) call158 (fun H' hs=>second_g b (hM.mono (stn hs)) ho hlt p r (hf.mono (stn hs)) (i:Nat) (gd (nodesF b.n.links (gd b.ws i).way) a))) U (Ax U U (Aa U)) (rO tb 3 U (A3 (Bb (qe3 U U U) call158 (fun H' hs=>second_g b (hM.mono (stn hs)) ho hlt p r (hf.mono (stn hs)) (k:Nat) (gd (nodesF b.n.links (gd b.ws i).way) a))) U (Ax U U (Aa U)) (kO tb 4 [0,1,2,9,58,59,60,91] rfl U ?_))))
     first|refine Ak (Aa U) (fun c91=> ?_) (fun c91=> ?_)|refine Au (Aa U) (fun c91=> ?_) (fun c91=> ?_)
     ·refine rC tb 8 U (Bc (rX tb 2 U (As U (Ll U) ?_)));rw[agr_bad (a:=a) qom (fun h=>h ⟨c81,c91⟩)];exact⟨_,⟨rfl,rfl⟩,by exact sbt⟩
     ·refine rC tb 4 U (y_ (Bd (T U) An qom) ?_ U);refine rO tb 2 U ?_;refine A8 (a+1) ?_ ?_ ⟨atd,trivial⟩ (kg U) ?_
      ·refine⟨ha2,fun a2 h1 h2=> ?_⟩;rcases Nat.lt_succ_iff_lt_or_eq.1 h1 with h3|rfl
       ·exact hall a2 h3 h2
       ·exact fun h=>c91 h.2
      ·first|omega|(simp only[];omega)
      ·exact sbt
    ·refine kO tb 12 [0,1,2,9,58,59,60,91] rfl U (rG tb 5 U (y_ (Bd (T U) An qom) ?_ U));refine rO tb 2 U ?_;refine A8 (a+1) ?_ ?_ ⟨atd,trivial⟩ (kg U) ?_
     ·refine⟨ha2,fun a2 h1 h2=> ?_⟩;rcases Nat.lt_succ_iff_lt_or_eq.1 h1 with h3|rfl
      ·exact hall a2 h3 h2
      ·exact fun h=>c81 h.1
     ·first|omega|(simp only[];omega)
     ·exact sbt
   ·refine kO tb 17 [0,1,2,9,58,59,60,91] rfl U (rG tb 5 U (y_ (Bd (T U) An qom) ?_ U));refine rO tb 2 U ?_;refine A8 (a+1) ?_ ?_ ⟨atd,trivial⟩ (kg U) ?_
    ·refine⟨ha2,fun a2 h1 h2=> ?_⟩;rcases Nat.lt_succ_iff_lt_or_eq.1 h1 with h3|rfl
     ·exact hall a2 h3 h2
     ·exact absurd h2 qom
    ·first|omega|(simp only[];omega)
    ·exact sbt
  ·have hend:a=(nodesF b.n.links (gd b.ws i).way).length:=by have h9: ¬ ((a:Nat):Int)<((nodesF b.n.links (gd b.ws i).way).length:Nat):=c61;omega
   refine rC tb 2 U (Aq (rX tb 8 U (As U (Ll U) ?_)));rw[agr_good c34 (fun a2 h=>hall a2 qom h)];exact⟨_,⟨rfl,rfl⟩,by exact sbt⟩
theorem cls_yes {f:Nat->Nat->Bool}{tags:List Int}{i k:Nat}{t:Int}(hk:k<tags.length)(h1:gd tags k=t)(h2:f i k=false):clsF f tags i t=true:=by
 unfold clsF;rw[List.any_eq_true];exact⟨k,List.mem_range.2 hk,by simp[h1,h2]⟩
theorem cls_no {f:Nat->Nat->Bool}{tags:List Int}{i:Nat}{t:Int}(h:∀ k,k<tags.length->gd tags k=t->f i k=true):clsF f tags i t=false:=by
 unfold clsF;rw[List.any_eq_false];intro k hk;have h2:=h k (List.mem_range.1 hk)
 by_cases e:gd tags k=t
 ·simp[h2 e]
 ·simp[e]
theorem clashes_g {w0:World}{H:List (Nat × Obj)}(b:Bk)(hM:BkM w0 H b)(ho:BkOk b)(hlt:b.l.length<=b.tg.length)(p r:Nat)(hf:BkF H b p r)(tags:List Int)(qs:Option Addr)(cs:Nat)(hT:Arr w0 H qs 1 encI tags)(i:Nat)(hi:i<b.ws.length)(htl:tags.length<=b.ws.length)(hwl:b.ws.length<=100000)(t:Int):
  FSpec prog w0 53 #[Pt p 0, .slice qs tags.length cs, .int .i64 (i:Nat), .int .i64 t] H (Still (.bool (clsF (agrP b.n.links b.ws b.l b.tg) tags i t)) H):=by
 refine Az func53 U ntmps53 U (rD tb 14 U ?_);refine Cb (X:=Nat) (V:=fun k=>[(13, .int .i64 (k:Nat))]) (C:=[(0,_),(2,_),(3,_),(11,_),(12,_)]) (φ:=fun k=>k<=tags.length/\∀ j,j<k->gd tags j=t->agrP b.n.links b.ws b.l b.tg i j=true) (μ:=fun k=>tags.length - k) (x0:=0) ?_ (kg U) ⟨atd,trivial⟩ ?_
 ·exact⟨Nat.zero_le _,fun j h=>absurd h (Nat.not_lt_zero j)⟩
 rintro k ⟨hk,hall⟩;refine rD tb 6 U ?_
 first|refine Ak (Aa U) (fun c14=> ?_) (fun c14=> ?_)|refine Au (Aa U) (fun c14=> ?_) (fun c14=> ?_)
 ·have hk2:k<tags.length:=by have h9:((k:Nat):Int)<(tags.length:Nat):=c14;omega
  refine rC tb 7 U (y_ (Lq U U runUnderlying41 sizeOf3 qom (by first|exact rfl|exact hT.b (i:=k) hk2)) ?_ U);refine y_ (Lo U isAgg3 (by first|exact c_o|exact(hT.mono (by exact sbt)).f0 (i:=k) hk2 U)) ?_ U;refine rO tb 10 U ?_
  first|refine Bi (s:=21) (Aa U) (fun c21=> ?_) (fun c21=> ?_)|refine B2 (s:=21) (Aa U) (fun c21=> ?_) (fun c21=> ?_)
  ·refine rO tb 3 U (A3 (Bb (qe3 U U U) call105 (fun H' hs=>agree_g b (hM.mono (stn hs)) ho hlt p r (hf.mono (stn hs)) i k hi qom)) U (Ax U U (Aa U)) ?_)
   first|refine A3 (B7 (T U)) U (Ax U U (Aa U)) ?_|refine A3 (Cc (T U)) U (Ax U U (Aa U)) ?_
   refine rO tb 3 U ?_
   first|refine Ak (Aa U) (fun c27=> ?_) (fun c27=> ?_)|refine Au (Aa U) (fun c27=> ?_) (fun c27=> ?_)
   ·refine rC tb 8 U (Bc (rX tb 2 U (As U (Ll U) ?_)));rw[cls_yes (k:=k) hk2 c21 (by simpa using c27)];exact⟨_,⟨rfl,rfl⟩,by exact sbt⟩
   ·refine rC tb 4 U (y_ (Bd (T U) An qom) ?_ U);refine rO tb 2 U ?_;refine A8 (k+1) ?_ ?_ ⟨atd,trivial⟩ (kg U) ?_
    ·refine⟨hk2,fun j h1 e=> ?_⟩;rcases Nat.lt_succ_iff_lt_or_eq.1 h1 with h3|rfl
     ·exact hall j h3 e
     ·simpa using c27
    ·first|omega|(simp only[];omega)
    ·exact sbt
  ·refine rO tb 13 U (y_ (Bd (T U) An qom) ?_ U);refine rO tb 2 U ?_;refine A8 (k+1) ?_ ?_ ⟨atd,trivial⟩ (kg U) ?_
   ·refine⟨hk2,fun j h1 e=> ?_⟩;rcases Nat.lt_succ_iff_lt_or_eq.1 h1 with h3|rfl
    ·exact hall j h3 e
    ·exact absurd e c21
   ·first|omega|(simp only[];omega)
   ·exact sbt
 ·have hend:k=tags.length:=by have h9: ¬ ((k:Nat):Int)<(tags.length:Nat):=c14;omega
  refine rC tb 2 U (Aq (rX tb 8 U (As U (Ll U) ?_)));rw[cls_no (fun j h=>hall j qom)];exact⟨_,⟨rfl,rfl⟩,by exact sbt⟩
theorem least_g {w0:World}{H:List (Nat × Obj)}(b:Bk)(hM:BkM w0 H b)(ho:BkOk b)(hlt:b.l.length<=b.tg.length)(p r:Nat)(hf:BkF H b p r)(tags:List Int)(qs:Option Addr)(cs:Nat)(hT:Arr w0 H qs 1 encI tags)(i:Nat)(hi:i<b.ws.length)(htl:tags.length<=b.ws.length)(hwl:b.ws.length<=100000)(bg:Int)(hb0: -100000<=bg/\bg<=100000)(b1 b2 b3:Nat)(f1:Fnd H b1 (Cl [.int .i64 bg] 3))(f2:Fnd H b2 (Cl [Pt p 0] 99))(f3:Fnd H b3 (Cl [.slice qs tags.length cs] 41)):
  FSpec prog w0 52 #[.int .i64 (i:Nat),Pt b1 0,Pt b2 0,Pt b3 0] H (Still (.int .i64 (tgG (agrP b.n.links b.ws b.l b.tg) bg tags i)) H):=by
 refine Az func52 U ntmps52 U ?_;obtain⟨k1,k2,k3,k4⟩:=tgG_spec (agrP b.n.links b.ws b.l b.tg) bg tags i;refine rD tb 7 U (y_ (Lo U isAgg3 (by first|exact c_o|exact B6 (Fnd.mono f1 (by exact sbt)) U|exact B6 (Fnd.mono f2 (by exact sbt)) U|exact B6 (Fnd.mono f3 (by exact sbt)) U)) ?_ U);refine rO tb 5 U ?_;refine Cb (X:=Nat) (V:=fun d=>[(6, .int .i64 (bg+(d:Nat)))]) (C:=[(0,_),(2,_),(3,_)]) (φ:=fun d=>bg+((d:Nat):Int)<=tgG (agrP b.n.links b.ws b.l b.tg) bg tags i) (μ:=fun d=>tags.length - d) (x0:=0) ?_ (kg U) ⟨atd,trivial⟩ ?_
 ·exact(by simpa using k2)
 rintro d hd;refine rD tb 3 U (y_ (Lo U isAgg99 (by first|exact c_o|exact B6 (Fnd.mono f1 (by exact sbt)) U|exact B6 (Fnd.mono f2 (by exact sbt)) U|exact B6 (Fnd.mono f3 (by exact sbt)) U)) ?_ U);refine y_ (Lo U isAgg41 (by first|exact c_o|exact B6 (Fnd.mono f1 (by exact sbt)) U|exact B6 (Fnd.mono f2 (by exact sbt)) U|exact B6 (Fnd.mono f3 (by exact sbt)) U)) ?_ U;refine rO tb 2 U (y_ (Bb (qe4 U U U U) call53 (fun H' hs=>clashes_g b (hM.mono (stn hs)) ho hlt p r (hf.mono (stn hs)) tags qs cs (hT.mono (stn hs)) i hi htl hwl (bg+(d:Nat)))) (rO tb 2 U ?_) U)
 first|refine Ak (Aa U) (fun c12=> ?_) (fun c12=> ?_)|refine Au (Aa U) (fun c12=> ?_) (fun c12=> ?_)
 ·have hlt2:bg+((d:Nat):Int)<tgG (agrP b.n.links b.ws b.l b.tg) bg tags i:=by
   rcases Int.lt_or_eq_of_le hd with h|h
   ·exact h
   ·rw[h,k1] at c12;cases c12
  refine rC tb 5 U (y_ (Bd (T U) An qom) ?_ U);refine rO tb 3 U ?_;refine A8 (d+1) ?_ ?_ ⟨atd,trivial⟩ (kg U) ?_
  ·exact(by have:=hlt2;simp only[Int.natCast_add,Int.natCast_one];omega)
  ·first|omega|(simp only[];omega)
  ·exact sbt
 ·have heq:bg+((d:Nat):Int)=tgG (agrP b.n.links b.ws b.l b.tg) bg tags i:=by
   rcases Int.lt_or_eq_of_le hd with h|h
   ·rw[k4 _ qom h] at c12;cases c12
   ·exact h
  refine rC tb 2 U (Aq (rX tb 9 U (As U (Ll U) ?_)));rw[heq];exact⟨_,⟨rfl,rfl⟩,by exact sbt⟩
theorem asgF_ok {ls:List Lnk}{first:Int}(h1:1<=first):∀ {ws:List Way} {ps m:List (Way × Int)},Made ls first ps->(∀ w∈ws,(nodesF ls w).Nodup)->asgF ls first ps ws=some m->
  ∃ ts:List Int,m=(ws.zip ts).reverse++ps/\ts.length=ws.length/\(∀ t∈ts,first<=t/\t<=65535)/\rgtF ls ps ws ts=true
 |[],ps,m,hm,_,he=>by
  rw[asgF] at he;obtain rfl:=Option.some.inj he;exact⟨[],by simp,rfl,fun t ht=>(by cases ht),by rw[rgtF]⟩
 |w::ws,ps,m,hm,hw,he=>by
  rw[asgF] at he
  split at he
  ·cases he
  ·rename_i hb;have hs:=tagF_spec (first:=first) hm.cons' (hw w List.mem_cons_self);obtain⟨ts,k1,k2,k3,k4⟩:=asgF_ok h1 (hm.cons (hw w List.mem_cons_self)) (fun v hv=>hw v (List.mem_cons_of_mem _ hv)) he;refine⟨tagF ls first ps w::ts,by rw[k1];simp,by simp[k2],fun t ht=> ?_,?_⟩
   ·rcases List.mem_cons.1 ht with rfl|ht
    ·exact⟨hs.2.1,by omega⟩
    ·exact k3 t ht
   ·rw[rgtF,k4,hs.1,decide_eq_true (show 1<=tagF ls first ps w/\tagF ls first ps w<=65535 by omega)];rfl
structure AsgOk (ls:List Lnk) (first:Int) (ws:List Way) (tg:List Int):Prop where
 f:1<=first/\first<=65535
 len:tg.length=ws.length
 lo:∀ t∈tg,first<=t/\t<=65535
 rgt:rgtF ls [] ws tg=true
theorem asgRes_ok {ls:List Lnk}{first:Int}{ws:List Way}{tg:List Int}(hw:∀ w∈ws,(nodesF ls w).Nodup)(h:asgRes ls first ws=(tg,0)):AsgOk ls first ws tg:=by
 unfold asgRes at h
 split at h
 ·rename_i hf;cases ha:asgF ls first [] ws with
  |none=>rw[ha] at h;cases h
  |some m=>
   rw[ha] at h;obtain⟨ts,k1,k2,k3,k4⟩:=asgF_ok hf.1 Made.nil hw ha;have e:m.reverse.map (·.2)=ts:=by
    rw[k1,List.append_nil,List.reverse_reverse];exact List.map_snd_zip (by rw[k2];exact Nat.le_refl _)
   simp only[e,Prod.mk.injEq,and_true] at h;subst h;exact⟨hf,k2,k3,k4⟩
 ·cases h
structure GpM (w0:World) (H:List (Nat × Obj)) (n:Nm) (ws:List Wm) (qw:Option Addr) (l:List Dtm) (ql:Option Addr):Prop where
 n:NetM w0 H n
 w:WaysM w0 H qw ws
 d:∀ x∈l,WayM w0 H x.m
 a:Arr w0 H ql 7 encDt l
theorem GpM.mono {w0:World}{H H':List (Nat × Obj)}{n:Nm}{ws:List Wm}{qw:Option Addr}{l:List Dtm}{ql:Option Addr}(h:GpM w0 H n ws qw l ql)(hs:H.Sublist H':=by exact sbt):GpM w0 H' n ws qw l ql:=⟨h.n.mono hs,h.w.mono hs,fun x hx=>(h.d x hx).mono hs,h.a.mono hs⟩
structure GpOk (n:Nm) (ws:List Wm) (l:List Dtm):Prop where
 d:DtIn n.links ws l
 gw:Gw n ws
 gd:Gw n (l.map Dtm.m)
 lw:ws.length<=100
 ll:l.length<=100
 kw:∀ m∈ws,m.way.links.length<=100000
theorem GpOk.bk {n:Nm}{ws:List Wm}{l:List Dtm}(h:GpOk n ws l){qw ql qt:Option Addr}{cw cl ct:Nat}{tg:List Int}:BkOk ⟨n,ws,qw,cw,l,ql,cl,tg,qt,ct⟩:=⟨h.d,h.gw.nd,h.gw.inr,h.kw,by have:=h.ll;show l.length<=_;omega⟩
theorem GpM.bk {w0:World}{H:List (Nat × Obj)}{n:Nm}{ws:List Wm}{qw ql:Option Addr}{l:List Dtm}(h:GpM w0 H n ws qw l ql){cw cl ct:Nat}{tg:List Int}{qt:Option Addr}(ht:Arr w0 H qt 1 encI tg):BkM w0 H ⟨n,ws,qw,cw,l,ql,cl,tg,qt,ct⟩:=⟨h.n,h.w,h.a,ht⟩
theorem GpM.ds {w0:World}{H:List (Nat × Obj)}{n:Nm}{ws:List Wm}{qw ql:Option Addr}{l:List Dtm}(h:GpM w0 H n ws qw l ql){q:Option Addr}(ha:Arr w0 H q 5 encW (l.map Dtm.m))(hl:l.length<=100):WaysM w0 H q (l.map Dtm.m):=
 ⟨ha,fun m hm=>(by obtain⟨x,hx,rfl⟩:=List.mem_map.1 hm;exact h.d x hx),(by rw[List.length_map];omega)⟩
abbrev dways (l:List Dtm):List Way:=(l.map Dtm.m).map (·.way)
theorem GpOk.dnd {n:Nm}{ws:List Wm}{l:List Dtm}(h:GpOk n ws l):∀ w∈dways l,(nodesF n.links w).Nodup:=fun w hw=>by
 obtain⟨m,hm,rfl⟩:=List.mem_map.1 hw;exact h.gd.nd m hm
theorem F3 (l:List Dtm):(dways l).length=l.length:=by simp[dways]
theorem gasg_err {f:List Int->Nat->Nat->Bool}{first:Int}{n:Nat}{tg:List Int}{e:Int}(h: ¬ e=0):gasg f first n (tg,e)=([],[],e):=by unfold gasg;rw[if_neg h]
theorem gasg_full {f:List Int->Nat->Nat->Bool}{first:Int}{n:Nat}{tg:List Int}(h:asgG (f tg) (begF first tg) n []=none):gasg f first n (tg,0)=([],[],12):=by unfold gasg;rw[if_pos rfl];simp only[];rw[h]
theorem gasg_some {f:List Int->Nat->Nat->Bool}{first:Int}{n:Nat}{tg out:List Int}(h:asgG (f tg) (begF first tg) n []=some out):gasg f first n (tg,0)=(out,tg,0):=by unfold gasg;rw[if_pos rfl];simp only[];rw[h]
theorem assign_g {w0:World}{H:List (Nat × Obj)}(n:Nm)(ws:List Wm)(qw:Option Addr)(cw:Nat)(l:List Dtm)(ql:Option Addr)(cl:Nat)(hM:GpM w0 H n ws qw l ql)(ho:GpOk n ws l)(first:Int):
  FSpec prog w0 15 #[.agg (encNm n).toArray, .slice qw ws.length cw, .slice ql l.length cl, .int .i64 first] H (fun v H'=>∃ y:Sl × Sl × List Int × List Int × Int,(v= .tuple #[slV y.1 y.2.2.1.length,slV y.2.1 y.2.2.2.1.length, .int .i64 y.2.2.2.2]/\SlOk y.1 y.2.2.1.length 1/\SlOk y.2.1 y.2.2.2.1.length 1/\gasg (fun D=>agrP n.links ws l D) first ws.length (asgRes n.links first (dways l))=y.2.2)/\H'=slH y.1 (y.2.2.1.flatMap encI) 3++(slH y.2.1 (y.2.2.2.1.flatMap encI) 3++H)):=by
 refine Az func15 U ntmps15 U ?_;have hlw:=ho.lw;have hll:=ho.ll;refine rD tb 2 U (e_ (Lt U cs_) ?_ U);rintro _ _ ⟨n4,rfl,rfl⟩;refine rO tb 6 U (B9 10 [(0,true),(1,true),(3,true),(2,false),(4,false),(5,true),(6,true),(7,true),(8,true),(9,true)] _ mixd qkr sb0 ?_ By);refine o_y U (Lp U isAgg26 sizeOf26 U (by first|exact A2)) ?_ U Ac;refine rP tb 2 U (o_e U (A1 (qe1 U) call49 (all_g ql cl l (hM.a.mono (by exact sbt)) qom)) ?_ U Ac);rintro _ _ ⟨dA,⟨rfl,hdA⟩,rfl⟩;refine⟨sbt,(Li (o_e U (A1 (qe3 U U U) call19 (assign_s n (hM.n.mono (by exact sbt)) (slQ dA) (slC dA) (l.map Dtm.m) ((hM.mono (by exact sbt)).ds (A5 (fun _=>rfl) hdA) hll) ho.gd.good (by rw[List.length_map];omega) first)) ?_ U Ac))⟩;rintro _ _ ⟨dD,D,e0,rfl,hdD,rfl,hD⟩;refine⟨sbt,(Li (rP tb 5 U (Bj U (rO tb 9 U ?_))))⟩
 first|refine Ak (Aa U) (fun c28=> ?_) (fun c28=> ?_)|refine Au (Aa U) (fun c28=> ?_) (fun c28=> ?_)
 ·skip
  refine rC tb 10 U (As U (.tmp (Aa U) (.tmp (Aa U) (Ll U))) ?_);exact⟨_,⟨(.nil, .nil,[],[],e0),⟨rfl,rfl,rfl,by rw[hD];exact gasg_err c28⟩,rfl⟩,by exact sbt⟩
 ·obtain rfl:e0=0:=Decidable.byContradiction c28;have hA:=asgRes_ok ho.dnd hD;have hDl:=hA.len;rw[F3] at hDl;have hDa:Arr w0 ((slH dD (D.flatMap encI) 3++(slH dA ((l.map Dtm.m).flatMap encW) 59++((n4,Cl (encNm n) 26)::H)))) (slQ dD) 1 encI D:=A5 (fun _=>rfl) hdD;refine rC tb 5 U (e_ (Ap zeroValue3 cs_) ?_ U);rintro _ _ ⟨n13,rfl,rfl⟩
  first|refine A9 (Ls U U sizeOf3) U Ac ?_|refine A9 (B1 (T U) (T U) U sizeOf3) U Ac ?_|refine A9 (Bu (T U) (T U) U sizeOf3) U Ac ?_
  rintro _ _ ⟨rfl,rfl⟩;refine rO tb 2 U ?_;refine Fp (X:=Int) (V:=fun bg=>[]) (C:=[(1,_),(2,_),(4,_),(11,_),(13,_)]) (G:=fun bg=>(n13,Cl [.int .i64 bg] 3)::(slH dD (D.flatMap encI) 3++(slH dA ((l.map Dtm.m).flatMap encW) 59++((n4,Cl (encNm n) 26)::H)))) (φ:=fun bg=>bg=begF first D) (kg U) ?_ ?_
  ·refine rD tb 7 U ?_
   first|refine Ak (Aa U) (fun c33=> ?_) (fun c33=> ?_)|refine Au (Aa U) (fun c33=> ?_) (fun c33=> ?_)
   ·have hne:D≠[]:=fun h=>by rw[h] at c33;exact absurd c33 qde
    refine rC tb 2 U (e_ (A1 (qe1 U) call50 (max_g (slQ dD) (slC dD) D (hDa.mono (by exact sbt)) qom hne)) ?_ U);rintro _ _ ⟨⟨mx,rfl,hm1,hm2⟩,rfl⟩;have hmx:=hA.lo _ hm1;have hff:=hA.f;refine y_ (Bd (T U) An qom) ?_ U
    first|refine A9 (Ls U U sizeOf3) U Ac ?_|refine A9 (B1 (T U) (T U) U sizeOf3) U Ac ?_|refine A9 (Bu (T U) (T U) U sizeOf3) U Ac ?_
    rintro _ _ ⟨rfl,rfl⟩;refine rO tb 1 U (Be (mx+1) ?_ trivial (kg U) sbt)
    first|exact(begF_max hm1 hm2 (hA.lo _ hm1).1).symm|(rw[show D=[] from List.eq_nil_of_length_eq_zero qom];rfl)
   ·skip
    refine rC tb 1 U (Be (first) ?_ trivial (kg U) sbt)
    first|exact(begF_max hm1 hm2 (hA.lo _ hm1).1).symm|(rw[show D=[] from List.eq_nil_of_length_eq_zero qom];rfl)
  rintro bg hbg;have hbb: -100000<=bg/\bg<=100000:=by
   rcases begF_mem D first with h|⟨t,ht,h⟩
   ·have:=hA.f;omega
   ·have:=hA.lo t ht;have:=hA.f;omega
  refine rC tb 2 U (y_ (Lp U isAgg26 sizeOf26 U (by first|exact A2)) ?_ U);refine rO tb 3 U (e_ (A1 (qe4 U U U U) call51 (newBook_g (⟨n,ws,qw,cw,l,ql,cl,D,slQ dD,slC dD⟩:Bk) ((hM.mono (by exact sbt)).bk (hDa.mono (by exact sbt))) ho.bk)) ?_ U);rintro _ _ ⟨⟨y1,y2⟩,rfl,rfl⟩;refine e_ (Ap zeroValue99 cs_) ?_ U;rintro _ _ ⟨n14,rfl,rfl⟩
  first|refine A9 (Ls U U sizeOf99) U Ac ?_|refine A9 (B1 (T U) (T U) U sizeOf99) U Ac ?_|refine A9 (Bu (T U) (T U) U sizeOf99) U Ac ?_
  rintro _ _ ⟨rfl,rfl⟩;refine rO tb 4 U (e_ (Ap zeroValue41 cs_) ?_ U);rintro _ _ ⟨n15,rfl,rfl⟩;refine rO tb 4 U (y_ (Cg (.cons (T U) (.cons (T U) (.cons (T U) .nil)))) (rO tb 12 U ?_) U);refine Bz (X:=List Int × Sl) (V:=fun ⟨tags,d⟩=>[(45, .int .i64 (tags.length:Nat))]) (C:=[(11,_),(15,_),(16,_),(44,_)]) (G:=fun ⟨tags,d⟩=>(n15,Cl [slV d tags.length] 41)::(slH d (tags.flatMap encI) 3++((n14,Cl [Pt y1 0] 99)::(y1,Cl (bkC (⟨n,ws,qw,cw,l,ql,cl,D,slQ dD,slC dD⟩:Bk) y2) 117)::(y2,mapO encK2 encK1 (bookF n.links ws l l.length))::(n13,Cl [.int .i64 bg] 3)::(slH dD (D.flatMap encI) 3++(slH dA ((l.map Dtm.m).flatMap encW) 59++((n4,Cl (encNm n) 26)::H)))))) (φ:=fun ⟨tags,d⟩=>tags.length<=ws.length/\SlOk d tags.length 1/\asgG (agrP n.links ws l D) bg ws.length []=asgG (agrP n.links ws l D) bg (ws.length - tags.length) tags) (μ:=fun ⟨tags,d⟩=>ws.length - tags.length) (x0:=([], .nil)) ?_ (kg U) ⟨atd,trivial⟩ (by exact sbt) ?_
  ·exact⟨Nat.zero_le _,rfl,rfl⟩
  rintro⟨tags,d⟩ ⟨htl,hd,ha⟩;have hTa:Arr w0 ((slH d (tags.flatMap encI) 3++((n14,Cl [Pt y1 0] 99)::(y1,Cl (bkC (⟨n,ws,qw,cw,l,ql,cl,D,slQ dD,slC dD⟩:Bk) y2) 117)::(y2,mapO encK2 encK1 (bookF n.links ws l l.length))::(n13,Cl [.int .i64 bg] 3)::(slH dD (D.flatMap encI) 3++(slH dA ((l.map Dtm.m).flatMap encW) 59++((n4,Cl (encNm n) 26)::H)))))) (slQ d) 1 encI tags:=A5 (fun _=>rfl) hd;refine rD tb 6 U ?_
  first|refine Ak (Aa U) (fun c46=> ?_) (fun c46=> ?_)|refine Au (Aa U) (fun c46=> ?_) (fun c46=> ?_)
  ·have hlt:tags.length<ws.length:=by have h9:((tags.length:Nat):Int)<(ws.length:Nat):=c46;omega
   refine rC tb 14 U ?_;refine y_ (C1 (T U) (qe1 U) call52 (fun H' hs=>least_g (⟨n,ws,qw,cw,l,ql,cl,D,slQ dD,slC dD⟩:Bk) ((hM.mono (stn hs)).bk (hDa.mono (stn hs))) ho.bk (by show l.length<=D.length;omega) y1 y2 ⟨Fnd.mono (by exact fdd) hs,Fnd.mono (by exact fdd) hs⟩ tags (slQ d) (slC d) (hTa.mono (stn hs)) tags.length hlt (Nat.le_of_lt hlt) (by show ws.length<=_;omega) bg hbb n13 n14 n15 (Fnd.mono (by exact fdd) hs) (Fnd.mono (by exact fdd) hs) (Fnd.mono (by exact fdd) hs))) ?_ U;refine rO tb 10 U ?_
   first|refine Ak (Aa U) (fun c52=> ?_) (fun c52=> ?_)|refine Au (Aa U) (fun c52=> ?_) (fun c52=> ?_)
   ·skip
    refine rC tb 11 U (Bc (rX tb 2 U (As U (.tmp (Aa U) (.tmp (Aa U) (Ll U))) ?_)));exact⟨_,⟨(.nil, .nil,[],[],12),⟨rfl,rfl,rfl,by rw[hD];exact gasg_full (by rw[<- hbg,ha,show ws.length - tags.length=(ws.length - (tags.length+1))+1 by omega,asgG,if_pos c52])⟩,rfl⟩,by exact sbt⟩
   ·have hl9:(tags++[tgG (agrP n.links ws l D) bg tags tags.length]).length=tags.length+1:=by rw[List.length_append,List.length_singleton]
    refine rC tb 3 U (y_ (Lo U isAgg41 (by first|exact c_o)) ?_ U);refine rO tb 1 U (e_ (A7 (.cons (T U) .nil) (C9)) ?_ U);rintro _ _ ⟨n55,rfl,rfl⟩;refine e_ (Dk (tgG (agrP n.links ws l D) bg tags tags.length) (by':=8) (enc:=encI) (d:=d) (l:=tags) qlc (T U) (T U) runUnderlying41 runUnderlying41 sizeOf3 typeInfo3 U zeroValue3 U (fun _=>rfl) U hd qde qom) ?_ U;rintro _ _ ⟨d2,rfl,hd2,rfl⟩
    first|refine A9 (Ls U U sizeOf41) U Ac ?_|refine A9 (B1 (T U) (T U) U sizeOf41) U Ac ?_|refine A9 (Bu (T U) (T U) U sizeOf41) U Ac ?_
    rintro _ _ ⟨rfl,rfl⟩;refine rO tb 4 U (y_ (Bd (T U) An qom) ?_ U);refine rO tb 2 U ?_;refine A8 ((tags++[tgG (agrP n.links ws l D) bg tags tags.length],d2)) ?_ ?_ ⟨atd,trivial⟩ (kg U) ?_
    ·refine⟨by rw[List.length_append,List.length_singleton];exact hlt,hd2,?_⟩;rw[ha,show ws.length - tags.length=(ws.length - (tags.length+1))+1 by omega,asgG,if_neg c52,List.length_append,List.length_singleton]
    ·first|omega|(simp only[];omega)
    ·exact sbt
  ·have hend:tags.length=ws.length:=by have h9: ¬ ((tags.length:Nat):Int)<(ws.length:Nat):=c46;omega
   refine rC tb 2 U (Aq (rX tb 4 U (y_ (Lo U isAgg41 (by first|exact c_o)) ?_ U)));refine rO tb 7 U (As U (.tmp (Aa U) (.tmp (Aa U) (Ll U))) ?_);exact⟨_,⟨(d,dD,tags,D,0),⟨rfl,hd,hdD,by rw[hD];exact gasg_some (by rw[<- hbg,ha,hend,Nat.sub_self];rfl)⟩,rfl⟩,by exact sbt⟩
theorem rgt_lenG {ls:List Lnk}{ws:List Way}{tg:List Int}(h:rgtF ls [] ws tg=true):tg.length=ws.length:=by
 rw[E0] at h;simp only[Bool.and_eq_true,decide_eq_true_eq] at h;exact h.1.1
theorem J9 {f:Nat->Nat->Bool}{n:Nat}{ok:Bool}{tags dt:List Int}(h: ¬ tags.length=n\/ok=false):grgt f n ok tags dt=false:=by
 unfold grgt;rcases h with h|h
 ·rw[decide_eq_false h];rfl
 ·rw[h,Bool.and_false];rfl
def grgA (f:Nat->Nat->Bool) (tags dt:List Int) (i:Nat):Prop:=(1<=gd tags i/\gd tags i<=65535/\gd tags i∉dt)/\clsF f (tags.take i) i (gd tags i)=false
theorem Et {f:Nat->Nat->Bool}{n:Nat}{ok:Bool}{tags dt:List Int}{i:Nat}(hi:i<tags.length)(h: ¬ grgA f tags dt i):grgt f n ok tags dt=false:=by
 unfold grgt;rw[Bool.and_eq_false_iff]
 right;rw[List.all_eq_false];refine⟨i,List.mem_range.2 hi,fun h2=>h ?_⟩;rw[Bool.and_eq_true,decide_eq_true_eq,Bool.not_eq_true'] at h2;exact h2
theorem grgt_good {f:Nat->Nat->Bool}{n:Nat}{ok:Bool}{tags dt:List Int}(h1:tags.length=n)(h2:ok=true)(h:∀ i,i<tags.length->grgA f tags dt i):grgt f n ok tags dt=true:=by
 unfold grgt;rw[h2,decide_eq_true h1,Bool.and_self,Bool.true_and,List.all_eq_true];intro i hi;obtain⟨k1,k2⟩:=h i (List.mem_range.1 hi);rw[decide_eq_true k1,k2];rfl
theorem clashes_k {w0:World}{H:List (Nat × Obj)}(b:Bk)(hM:BkM w0 H b)(ho:BkOk b)(hlt:b.l.length<=b.tg.length)(p r:Nat)(hf:BkF H b p r)(tags:List Int)(qs:Option Addr)(cs k:Nat)(hk:tags.length=k)(hT:Arr w0 H qs 1 encI tags)(i:Nat)(hi:i<b.ws.length)(htl:tags.length<=b.ws.length)(hwl:b.ws.length<=100000)(t:Int):
  FSpec prog w0 53 #[Pt p 0, .slice qs k cs, .int .i64 (i:Nat), .int .i64 t] H (Still (.bool (clsF (agrP b.n.links b.ws b.l b.tg) tags i t)) H):=by
 subst hk;exact clashes_g b hM ho hlt p r hf tags qs cs hT i hi htl hwl t
theorem arr_take {w0:World}{H:List (Nat × Obj)}{α:Type}{q:Option Addr}{sz:Nat}{enc:α->List Value}{l:List α}(h:Arr w0 H q sz enc l)(i:Nat):Arr w0 H q sz enc (l.take i):=fun j x hj=>by
 rw[List.getElem?_take] at hj
 split at hj
 ·exact h j x hj
 ·cases hj
theorem right_g {w0:World}{H:List (Nat × Obj)}(n:Nm)(ws:List Wm)(qw:Option Addr)(cw:Nat)(l:List Dtm)(ql:Option Addr)(cl:Nat)(hM:GpM w0 H n ws qw l ql)(ho:GpOk n ws l)(tags:List Int)(q1:Option Addr)(c1:Nat)(hT:Arr w0 H q1 1 encI tags)(htl:tags.length<=100000)(hc1:tags.length<=c1)(dt:List Int)(q2:Option Addr)(c2:Nat)(hD:Arr w0 H q2 1 encI dt)(hdl:dt.length<=100000):
  FSpec prog w0 18 #[.agg (encNm n).toArray, .slice qw ws.length cw, .slice ql l.length cl, .slice q1 tags.length c1, .slice q2 dt.length c2] H (Still (.bool (grgt (agrP n.links ws l dt) ws.length (rgtF n.links [] (dways l) dt) tags dt)) H):=by
 refine Az func18 U ntmps18 U ?_;have hlw:=ho.lw;have hll:=ho.ll;refine rD tb 2 U (e_ (Lt U cs_) ?_ U);rintro _ _ ⟨n5,rfl,rfl⟩;refine rO tb 5 U (B9 10 [(0,true),(1,true),(2,true),(3,true),(4,true),(5,true),(6,true),(7,true),(9,true),(8,false)] _ mixd qkr sb0 ?_ By);refine rP tb 6 U ?_
 first|refine Cu (s:=19) (Aa U) (fun c19=> ?_) (fun c19=> ?_)|refine Ds (s:=19) (Aa U) (fun c19=> ?_) (fun c19=> ?_)
 ·refine rP tb 3 U (o_nf U (Bj U (rO tb 13 U (As U (Ll U) ?_))) U (C0 U U (Aa U)));rw[J9 (.inl (fun h=>c19 (by rw[h])))];exact⟨_,⟨rfl,rfl⟩,sbt⟩
 ·refine o_y U (Lp U isAgg26 sizeOf26 U (by first|exact A2)) ?_ U (Ax U U (Aa U));refine rP tb 2 U (o_e U (A1 (qe1 U) call49 (all_g ql cl l (hM.a.mono (by exact sbt)) qom)) ?_ U (Ax U U (Aa U)));rintro _ _ ⟨dA,⟨rfl,hdA⟩,rfl⟩;refine⟨sbt,(Li (Bj U (A9 (A1 (qe3 U U U) call57 (right_p n (hM.n.mono (by exact sbt)) (slQ dA) (slC dA) (l.map Dtm.m) ((hM.mono (by exact sbt)).ds (A5 (fun _=>rfl) hdA) hll) ho.gd.good (by rw[List.length_map];omega) q2 c2 dt (hD.mono (by exact sbt)) hdl)) U (Ax U U (Aa U)) ?_)))⟩;rintro _ _ ⟨rfl,rfl⟩
  first|refine A3 (B7 (T U)) U (Ax U U (Aa U)) ?_|refine A3 (Cc (T U)) U (Ax U U (Aa U)) ?_
  refine rO tb 3 U ?_
  first|refine Ak (Aa U) (fun c26=> ?_) (fun c26=> ?_)|refine Au (Aa U) (fun c26=> ?_) (fun c26=> ?_)
  ·skip
   refine rC tb 7 U (As U (Ll U) ?_);rw[J9 (.inr (by simpa using c26))];exact⟨_,⟨rfl,rfl⟩,sbt⟩
  ·have hrg:(rgtF n.links [] (dways l) dt)=true:=by simpa using c26
   have hdl2:=rgt_lenG hrg;rw[F3] at hdl2;refine rC tb 4 U (y_ (Lp U isAgg26 sizeOf26 U (by first|exact A2)) ?_ U);refine rO tb 3 U (e_ (A1 (qe4 U U U U) call51 (newBook_g (⟨n,ws,qw,cw,l,ql,cl,dt,q2,c2⟩:Bk) ((hM.mono (by exact sbt)).bk (hD.mono (by exact sbt))) ho.bk)) ?_ U);rintro _ _ ⟨⟨y1,y2⟩,rfl,rfl⟩;refine rO tb 12 U ?_;refine Cb (X:=Nat) (V:=fun i=>[(34, .int .i64 (i:Nat))]) (C:=[(3,_),(4,_),(11,_),(32,_),(33,_)]) (φ:=fun i=>i<=tags.length/\∀ j,j<i->grgA (agrP n.links ws l dt) tags dt j) (μ:=fun i=>tags.length - i) (x0:=0) ?_ (kg U) ⟨atd,trivial⟩ ?_
   ·exact⟨Nat.zero_le _,fun j h=>absurd h (Nat.not_lt_zero j)⟩
   rintro i ⟨hi,hall⟩;refine rD tb 6 U ?_
   first|refine Ak (Aa U) (fun c35=> ?_) (fun c35=> ?_)|refine Au (Aa U) (fun c35=> ?_) (fun c35=> ?_)
   ·have hi2:i<tags.length:=by have h9:((i:Nat):Int)<(tags.length:Nat):=c35;omega
    refine rC tb 7 U (y_ (Lq U U runUnderlying41 sizeOf3 qom (by first|exact rfl|exact hT.b (i:=i) hi2)) ?_ U);refine y_ (Lo U isAgg3 (by first|exact c_o|exact(hT.mono (by exact sbt)).f0 (i:=i) hi2 U)) ?_ U;refine rO tb 9 U ?_
    first|refine Bi (s:=41) (Aa U) (fun c41=> ?_) (fun c41=> ?_)|refine B2 (s:=41) (Aa U) (fun c41=> ?_) (fun c41=> ?_)
    ·refine kO tb 19 [3,4,11,32,33,34,58] rfl U (rG tb 9 U (Bc (rX tb 2 U (As U (Ll U) ?_))));rw[Et (i:=i) hi2 (fun h=>absurd h.1.1 qom)];exact⟨_,⟨rfl,rfl⟩,sbt⟩
    ·refine rO tb 4 U ?_
     first|refine Bi (s:=45) (Aa U) (fun c45=> ?_) (fun c45=> ?_)|refine B2 (s:=45) (Aa U) (fun c45=> ?_) (fun c45=> ?_)
     ·refine kO tb 15 [3,4,11,32,33,34,58] rfl U (rG tb 9 U (Bc (rX tb 2 U (As U (Ll U) ?_))));rw[Et (i:=i) hi2 (fun h=>absurd h.1.2.1 qom)];exact⟨_,⟨rfl,rfl⟩,sbt⟩
     ·refine rO tb 2 U (A3 (Bb (qe2 U U) call58 (fun H' hs=>contains_g q2 c2 dt (hD.mono (stn hs)) qom (gd tags i))) U (Ax U U (Aa U)) ?_);refine rO tb 2 U ?_
      first|refine Bi (s:=50) (Aa U) (fun c50=> ?_) (fun c50=> ?_)|refine B2 (s:=50) (Aa U) (fun c50=> ?_) (fun c50=> ?_)
      ·refine kO tb 10 [3,4,11,32,33,34,58] rfl U (rG tb 9 U (Bc (rX tb 2 U (As U (Ll U) ?_))));rw[Et (i:=i) hi2 (fun h=>h.1.2.2 c50)];exact⟨_,⟨rfl,rfl⟩,sbt⟩
      ·refine rO tb 3 U (A3 (Ft  (T U) (T U) runUnderlying41 sizeOf3 qom) U (Ax U U (Aa U)) ?_);refine rO tb 2 U ?_;refine A3 (Bb (qe4 U U U U) call53 (fun H' hs=>clashes_k (⟨n,ws,qw,cw,l,ql,cl,dt,q2,c2⟩:Bk) ((hM.mono (stn hs)).bk (hD.mono (stn hs))) ho.bk (by show l.length<=dt.length;omega) y1 y2 ⟨Fnd.mono (by exact fdd) hs,Fnd.mono (by exact fdd) hs⟩ (tags.take i) q1 c1 i (by rw[List.length_take];omega) (arr_take (hT.mono (stn hs)) i) i (by show i<ws.length;omega) (by rw[List.length_take];show min i _<=ws.length;omega) (by show ws.length<=_;omega) (gd tags i))) U (Ax U U (Aa U)) ?_;refine kO tb 3 [3,4,11,32,33,34,58] rfl U ?_
       first|refine Ak (Aa U) (fun c58=> ?_) (fun c58=> ?_)|refine Au (Aa U) (fun c58=> ?_) (fun c58=> ?_)
       ·refine rC tb 8 U (Bc (rX tb 2 U (As U (Ll U) ?_)));rw[Et (i:=i) hi2 (fun h=>by rw[h.2] at c58;cases c58)];exact⟨_,⟨rfl,rfl⟩,sbt⟩
       ·refine rC tb 4 U (y_ (Bd (T U) An qom) ?_ U);refine rO tb 2 U ?_;refine A8 (i+1) ?_ ?_ ⟨atd,trivial⟩ (kg U) ?_
        ·refine⟨hi2,fun j hj=> ?_⟩;rcases Nat.lt_succ_iff_lt_or_eq.1 hj with h3|rfl
         ·exact hall j h3
         ·exact⟨⟨by omega,by omega,c50⟩,by simpa using c58⟩
        ·first|omega|(simp only[];omega)
        ·exact sbt
   ·have hend:i=tags.length:=by have h9: ¬ ((i:Nat):Int)<(tags.length:Nat):=c35;omega
    refine rC tb 2 U (Aq (rX tb 8 U (As U (Ll U) ?_)));rw[grgt_good qom hrg (fun j hj=>hall j qom)];exact⟨_,⟨rfl,rfl⟩,sbt⟩
end Go.Proofs.YtnafbfbfmgfcfaaGreatDoor
