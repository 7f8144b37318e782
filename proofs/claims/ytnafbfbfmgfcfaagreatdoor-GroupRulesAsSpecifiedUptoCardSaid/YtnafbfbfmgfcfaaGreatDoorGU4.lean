/-
  A part of what LawU rests on: the logic, walks and plain laws. No condition.
-/
import Derived.Test.YtnafbfbfmgfcfaaGreatDoorGU3
namespace Go.Proofs.YtnafbfbfmgfcfaaGreatDoor
open _root_.Go.Proofs.Tryz
open Go.RowKit
set_option linter.unusedVariables false
set_option linter.unusedSimpArgs false
set_option linter.unusedSectionVars false
set_option maxRecDepth 100000
theorem cs_sub {w0:World}{H:List (Nat × Obj)}{b o k m:Nat}{vs:List Value}(h:Cells w0 H b o vs):Cells w0 H b (o+k) ((vs.drop k).take m):=fun i v hi=>by
 rw[List.getElem?_take] at hi
 split at hi
 ·rw[List.getElem?_drop] at hi;rw[Nat.add_assoc];exact h _ v hi
 ·cases hi
def detI (o:Option Nat):Int:=match o with|some k=>(k:Int)|none=> -1
theorem det_yes {ls:List Lnk}{ws:List Wm}{l:List Dtm}(h:DtIn ls ws l)(hnd:∀ m∈ws,(nodesF ls m.way).Nodup){k:Nat}(hk:k<l.length){i x:Int}(h1:(gd l k).way=i)(h2:dnode ls ws (gd l k)=x):detI (detF ls ws l i x)=(k:Int):=by
 cases hd:detF ls ws l i x with
 |none=>exact absurd ⟨h1,h2⟩ (detF_none hd hk)
 |some j=>
  obtain⟨k1,k2,k3⟩:=Di hd;rw[h.key hnd k1 hk (by rw[k2,h1]) (by rw[k3,h2])];rfl
theorem det_no {ls:List Lnk}{ws:List Wm}{l:List Dtm}{i x:Int}(h:∀ j,j<l.length->¬ ((gd l j).way=i/\dnode ls ws (gd l j)=x)):detI (detF ls ws l i x)= -1:=by
 cases hd:detF ls ws l i x with
 |none=>rfl
 |some j=>obtain⟨k1,k2⟩:=Di hd;exact absurd k2 (h j k1)
theorem rall_g {w0:World}{H:List (Nat × Obj)}(q:Option Addr)(c:Nat)(l:List Dtm)(hA:Arr w0 H q 7 encDt l)(hl:l.length<=100000)  :
  FSpec prog w0 55 #[.slice q l.length c] H (fun v H'=>∃ d:Sl,(v=slV d (l.map Dtm.m).length/\SlOk d (l.map Dtm.m).length 5)/\H'=slH d ((l.map Dtm.m).flatMap encW) 59++H):=by
 refine Az func55 U ntmps55 U (rD tb 17 U ?_);refine Bz (X:=Nat × Sl) (V:=fun ⟨i,d⟩=>[(3,slV d ((l.take i).map Dtm.m).length),(4, .int .i64 (i:Nat))]) (C:=[(0,_)]) (G:=fun ⟨i,d⟩=>slH d (((l.take i).map Dtm.m).flatMap encW) 59++H) (φ:=fun ⟨i,d⟩=>i<=l.length/\SlOk d ((l.take i).map Dtm.m).length 5) (μ:=fun ⟨i,d⟩=>l.length - i) (x0:=(0, .nil)) ?_ (kg U) ⟨atd,atd,trivial⟩ (by exact List.Sublist.refl _) ?_
 ·exact⟨Nat.zero_le _,rfl⟩
 rintro⟨i,d⟩ ⟨hi,hd⟩;refine rD tb 9 U ?_
 first|refine Ak (Aa U) (fun c8=> ?_) (fun c8=> ?_)|refine Au (Aa U) (fun c8=> ?_) (fun c8=> ?_)
 ·have hi2:i<l.length:=by have h9:((i:Nat):Int)<(l.length:Nat):=c8;omega
  refine rC tb 8 U (y_ (Lq U U runUnderlying34 sizeOf93 qom (by first|exact rfl|exact hA.b (i:=i) hi2)) ?_ U);refine rO tb 1 U (y_ (Lp U isAgg59 sizeOf59 U (by first|exact(show Cells w0 _ _ _ (encW (gd l i).m) from cs_sub (k:=2) (m:=5) ((hA.mono (by exact sbt)).cs (i:=i) hi2))|exact A2)) ?_ U);refine e_ (A7 (.cons (T U) .nil) (Ho _ _ _ _ _ _ _)) ?_ U;rintro _ _ ⟨n17,rfl,rfl⟩;refine e_ (Dk ((gd l i).m) (by':=56) (enc:=encW) (d:=d) (l:=(l.take i).map Dtm.m) qlc (T U) (T U) runUnderlying27 runUnderlying27 sizeOf59 typeInfo59 U zeroValue59 U (fun _=>rfl) U hd qde (by simp only[List.length_map,List.length_take];omega)) ?_ U;rintro _ _ ⟨d2,rfl,hd2,rfl⟩;rw[<- map_take _ hi2] at hd2 ⊢;refine rO tb 6 U (y_ (Bd (T U) An qom) ?_ U);refine rO tb 2 U ?_;refine A8 ((i+1,d2)) ?_ ?_ ⟨atd,atd,trivial⟩ (kg U) ?_
  ·exact⟨hi2,hd2⟩
  ·first|omega|(simp only[];omega)
  ·exact sbt
 ·obtain rfl:i=l.length:=by have h9: ¬ ((i:Nat):Int)<(l.length:Nat):=c8;omega
  rw[List.take_length] at hd;refine rC tb 2 U (Aq (rX tb 9 U (As U (Ll U) ?_)));exact⟨_,⟨d,⟨by rw[List.take_length];rfl,hd⟩,rfl⟩,by simp only[List.take_length];exact sb0⟩
theorem rdet_g {w0:World}{H:List (Nat × Obj)}(n:Nm)(ws:List Wm)(qw:Option Addr)(cw:Nat)(l:List Dtm)(ql:Option Addr)(cl:Nat)(hM:GpM w0 H n ws qw l ql)(ho:GpOk n ws l)(i:Nat)(hi:i<ws.length)(x:Int):
  FSpec prog w0 69 #[.agg (encNm n).toArray, .slice qw ws.length cw, .slice ql l.length cl, .int .i64 (i:Nat), .int .i64 x] H (Still (.int .i64 (detI (detF n.links ws l (i:Nat) x))) H):=by
 refine Az func69 U ntmps69 U ?_;have hlw:=ho.lw;have hll:=ho.ll;have hnl:=Co n.links (gd ws i).way;have hki:=ho.kw _ (Ao hi);refine rD tb 2 U (e_ (Lt U cs_) ?_ U);rintro _ _ ⟨n5,rfl,rfl⟩;refine rO tb 4 U (B9 5 [(0,true),(1,true),(2,true),(3,true),(4,true)] _ mixd qkr sb0 ?_ By);refine o_y U (Lp U isAgg26 sizeOf26 U (by first|exact A2)) ?_ U Ac;refine rP tb 2 U (o_y U (Bl (T U) (T U) runUnderlying27 sizeOf59 qom (by first|exact rfl|exact hM.w.arr.b (i:=i) hi|exact hM.a.b (i:=k) hk2|exact hNi.b (i:=(gd l k).place.toNat) qom)) ?_ U Ac);refine o_y U (Lp U isAgg59 sizeOf59 U (by first|exact(hM.w.arr.mono (by exact sbt)).cs (i:=i) hi|exact A2)) ?_ U Ac;refine Bj U (e_ (A1 (qe2 U U) call80 (Ir n (hM.n.mono (by exact sbt)) (gd ws i) ((hM.w.at hi).mono (by exact sbt)) (ho.gw.inr _ (Ao hi)) qom)) ?_ U);rintro _ _ ⟨dN,rfl,hdN,rfl⟩;have hNi:Arr w0 (slH dN ((nodesF n.links (gd ws i).way).flatMap encI) 3++[]) (slQ dN) 1 encI (nodesF n.links (gd ws i).way):=A5 (fun _=>rfl) hdN;refine rO tb 10 U ?_;refine Cb (X:=Nat) (V:=fun k=>[(12, .int .i64 (k:Nat))]) (C:=[(2,_),(3,_),(4,_),(11,_)]) (φ:=fun k=>k<=l.length/\∀ j,j<k->¬ ((gd l j).way=(i:Nat)/\dnode n.links ws (gd l j)=x)) (μ:=fun k=>l.length - k) (x0:=0) ?_ (kg U) ⟨atd,trivial⟩ ?_
 ·exact⟨Nat.zero_le _,fun j h=>absurd h (Nat.not_lt_zero j)⟩
 rintro k ⟨hk,hall⟩;refine rD tb 9 U ?_
 first|refine Ak (Aa U) (fun c22=> ?_) (fun c22=> ?_)|refine Au (Aa U) (fun c22=> ?_) (fun c22=> ?_)
 ·have hk2:k<l.length:=by have h9:((k:Nat):Int)<(l.length:Nat):=c22;omega
  have hw0:=ho.d.w _ (Ao hk2);have hp0:=ho.d.p _ (Ao hk2);refine rC tb 8 U (y_ (Lq U U runUnderlying34 sizeOf93 qom (by first|exact rfl|exact hM.w.arr.b (i:=i) hi|exact hM.a.b (i:=k) hk2|exact hNi.b (i:=(gd l k).place.toNat) qom)) ?_ U);refine rO tb 1 U (y_ (Lo U isAgg3 (by first|exact c_o|exact(hM.a.mono (by exact sbt)).f0 (i:=k) hk2 U)) ?_ U);refine rO tb 3 U ?_
  first|refine Bi (s:=32) (Aa U) (fun c32=> ?_) (fun c32=> ?_)|refine B2 (s:=32) (Aa U) (fun c32=> ?_) (fun c32=> ?_)
  ·have hwi:(gd l k).way.toNat=i:=by have h9:(gd l k).way=(i:Nat):=c32;omega
   rw[hwi] at hp0;have hdn:dnode n.links ws (gd l k)=gd (nodesF n.links (gd ws i).way) (gd l k).place.toNat:=by unfold dnode;rw[hwi]
   refine rO tb 3 U (A3 (Lq U U runUnderlying34 sizeOf93 qom (by first|exact rfl|exact hM.w.arr.b (i:=i) hi|exact hM.a.b (i:=k) hk2|exact hNi.b (i:=(gd l k).place.toNat) qom)) U (Ax U U (Aa U)) ?_);refine rO tb 1 U (A3 (Lo U isAgg3 (by first|exact c_o|exact(hM.a.mono (by exact sbt)).f (i:=k) (j:=1) hk2 U)) U (Ax U U (Aa U)) ?_);refine A3 (Bl (T U) (T U) runUnderlying41 sizeOf3 qom (by first|exact rfl|exact hM.w.arr.b (i:=i) hi|exact hM.a.b (i:=k) hk2|exact hNi.b (i:=(gd l k).place.toNat) qom)) U (Ax U U (Aa U)) ?_;refine A3 (Lo U isAgg3 (by first|exact c_o|exact(show Cell w0 _ _ (.int .i64 (gd (nodesF n.links (gd ws i).way) (gd l k).place.toNat)) from (hNi.mono (by rw[List.append_nil];exact List.sublist_append_left _ _)).f0 (i:=(gd l k).place.toNat) qom U))) U (Ax U U (Aa U)) ?_;refine rO tb 5 U ?_
   first|refine Ak (Aa U) (fun c43=> ?_) (fun c43=> ?_)|refine Au (Aa U) (fun c43=> ?_) (fun c43=> ?_)
   ·refine kC tb 6 [10] rfl U (rG tb 3 U (Bc (rX tb 2 U (As U (Ll U) ?_))));rw[det_yes ho.d ho.gw.nd hk2 c32 (by rw[hdn];exact c43)];exact⟨_,⟨rfl,rfl⟩,sbt⟩
   ·refine rC tb 5 U (y_ (Bd (T U) An qom) ?_ U);refine rO tb 2 U ?_;refine A8 (k+1) ?_ ?_ ⟨atd,trivial⟩ (kg U) ?_
    ·refine⟨hk2,fun j hj=> ?_⟩;rcases Nat.lt_succ_iff_lt_or_eq.1 hj with h3|rfl
     ·exact hall j h3
     ·exact fun h=>c43 (by rw[<- hdn];exact h.2)
    ·first|omega|(simp only[];omega)
    ·exact sbt
  ·skip
   refine rO tb 19 U (y_ (Bd (T U) An qom) ?_ U);refine rO tb 2 U ?_;refine A8 (k+1) ?_ ?_ ⟨atd,trivial⟩ (kg U) ?_
   ·refine⟨hk2,fun j hj=> ?_⟩;rcases Nat.lt_succ_iff_lt_or_eq.1 hj with h3|rfl
    ·exact hall j h3
    ·exact fun h=>c32 h.1
   ·first|omega|(simp only[];omega)
   ·exact sbt
 ·have hend:k=l.length:=by have h9: ¬ ((k:Nat):Int)<(l.length:Nat):=c22;omega
  refine rC tb 2 U (Aq (rX tb 8 U (As U (Ll U) ?_)));rw[det_no (fun j hj=>hall j qom)];exact⟨_,⟨rfl,rfl⟩,sbt⟩
theorem goes_yes {ls:List Lnk}{w:Way}{x:Int}(h:(atF ls w x).isSome=true):goesF ls w x=decide ((hopOr (atF ls w x)).link>=0):=by
 unfold goesF;exact decide_eq_decide.2 ⟨fun h2=>h2.2,fun h2=>⟨h,h2⟩⟩
theorem goes_no {ls:List Lnk}{w:Way}{x:Int}(h:(atF ls w x).isSome=false):goesF ls w x=false:=by
 unfold goesF;exact decide_eq_false (fun h2=>by rw[h] at h2;cases h2.1)
theorem rgoes_g {w0:World}{H:List (Nat × Obj)}(n:Nm)(hn:NetM w0 H n)(m:Wm)(hm:WayM w0 H m)(hr:InR n.links m.way.links)(hml:m.way.links.length<=100000)(x:Int):
  FSpec prog w0 68 #[.agg (encNm n).toArray, .agg (encW m).toArray, .int .i64 x] H (Still (.bool (goesF n.links m.way x)) H):=by
 refine Az func68 U ntmps68 U (rD tb 2 U (e_ (Lt U cs_) ?_ U));rintro _ _ ⟨n3,rfl,rfl⟩;refine e_ (Lt U cs_) ?_ U;rintro _ _ ⟨n4,rfl,rfl⟩;refine rO tb 5 U (y_ (Lp U isAgg26 sizeOf26 U (by first|exact A2)) ?_ U);refine y_ (Lp U isAgg59 sizeOf59 U (by first|exact A2)) ?_ U;refine rO tb 1 U (y_ (Bb (qe3 U U U) call118 (fun H' hs=>Lf n (hn.mono (stn hs)) m (hm.mono (stn hs)) hr qom x)) ?_ U);refine rO tb 3 U (e_ (Ap zeroValue194 cs_) ?_ U);rintro _ _ ⟨n7,rfl,rfl⟩
 first|refine A9 (Ls U U sizeOf194) U Ac ?_
 rintro _ _ ⟨rfl,rfl⟩;refine rO tb 7 U ?_
 first|refine Bi (s:=17) (Aa U) (fun c17=> ?_) (fun c17=> ?_)|refine B2 (s:=17) (Aa U) (fun c17=> ?_) (fun c17=> ?_)
 ·refine rO tb 1 U (A3 (Lo U isAgg3 (by first|exact c_o)) U (Ax U U (Aa U)) ?_);refine rO tb 6 U (As U (Ll U) ?_);rw[goes_yes c17];exact⟨_,⟨rfl,rfl⟩,sbt⟩
 ·refine rO tb 8 U (As U (Ll U) ?_);rw[goes_no c17];exact⟨_,⟨rfl,rfl⟩,sbt⟩
theorem agrR_conf {ls:List Lnk}{N:Nat}{ws:List Wm}{l:List Dtm}{tg:List Int}{i k:Nat}(h:(confR ls N (gd ws i).way (gd ws k).way).isSome=true):agrR ls N ws l tg i k=false:=by
 unfold agrR;obtain⟨c,hc⟩:=Option.isSome_iff_exists.1 h;rw[hc];rfl
def agrX (ls:List Lnk) (ws:List Wm) (l:List Dtm) (tg:List Int) (i k x:Nat):Prop:=
 goesF ls (gd ws i).way (x:Int)=true->goesF ls (gd ws k).way (x:Int)=true->
  ((detF ls ws l i x).isSome=(detF ls ws l k x).isSome/\((detF ls ws l i x).isSome=true->gd tg ((detF ls ws l i x).getD 0)=gd tg ((detF ls ws l k x).getD 0)))
theorem agrR_bad {ls:List Lnk}{N:Nat}{ws:List Wm}{l:List Dtm}{tg:List Int}{i k x:Nat}(hx:x<N)(h: ¬ agrX ls ws l tg i k x):agrR ls N ws l tg i k=false:=by
 unfold agrR;rw[Bool.and_eq_false_iff]
 right;rw[List.all_eq_false];exact⟨x,List.mem_range.2 hx,by rw[decide_eq_true_eq];exact h⟩
theorem agrR_good {ls:List Lnk}{N:Nat}{ws:List Wm}{l:List Dtm}{tg:List Int}{i k:Nat}(hc:(confR ls N (gd ws i).way (gd ws k).way).isSome=false)(h:∀ x,x<N->agrX ls ws l tg i k x):agrR ls N ws l tg i k=true:=by
 unfold agrR;rw[Bool.and_eq_true,List.all_eq_true];refine⟨?_,fun x hx=>decide_eq_true (h x (List.mem_range.1 hx))⟩;cases hq:confR ls N (gd ws i).way (gd ws k).way with
 |none=>rfl
 |some c=>rw[hq] at hc;cases hc
theorem Jc (o:Option Nat):detI o<0↔o.isSome=false:=by cases o with
 |none=>simp[detI]
 |some k=>simp[detI]
theorem detI_lt {ls:List Lnk}{ws:List Wm}{l:List Dtm}{i x:Int}(h:0<=detI (detF ls ws l i x)):(detI (detF ls ws l i x)).toNat<l.length/\(detI (detF ls ws l i x)).toNat=(detF ls ws l i x).getD 0/\(detF ls ws l i x).isSome=true:=by
 cases hd:detF ls ws l i x with
 |none=>rw[hd] at h;simp[detI] at h
 |some k=>exact⟨(Di hd).1,rfl,rfl⟩
theorem ragree_g {w0:World}{H:List (Nat × Obj)}(n:Nm)(ws:List Wm)(qw:Option Addr)(cw:Nat)(l:List Dtm)(ql:Option Addr)(cl:Nat)(hM:GpM w0 H n ws qw l ql)(ho:GpOk n ws l)(dt:List Int)(q2:Option Addr)(c2:Nat)(hD:Arr w0 H q2 1 encI dt)(hdl:l.length<=dt.length)(i k:Nat)(hi:i<ws.length)(hk:k<ws.length)(hN:n.nodes.length<=1000000):
  FSpec prog w0 56 #[.agg (encNm n).toArray, .slice qw ws.length cw, .slice ql l.length cl, .slice q2 dt.length c2, .int .i64 (i:Nat), .int .i64 (k:Nat)] H (Still (.bool (agrR n.links n.nodes.length ws l dt i k)) H):=by
 refine Az func56 U ntmps56 U ?_;have hlw:=ho.lw;have hll:=ho.ll;have hki:=ho.kw _ (Ao hi);have hkk:=ho.kw _ (Ao hk);refine rD tb 2 U (e_ (Lt U cs_) ?_ U);rintro _ _ ⟨n6,rfl,rfl⟩;refine rO tb 4 U (B9 15 [(0,true),(1,true),(2,true),(3,true),(4,true),(5,true),(6,true),(7,true),(8,true),(9,true),(10,true),(11,true),(12,true),(13,true),(14,true)] _ mixd qkr sb0 ?_ By);refine o_y U (Lp U isAgg26 sizeOf26 U (by first|exact A2)) ?_ U Ac;refine rP tb 2 U (o_y U (Bl (T U) (T U) runUnderlying27 sizeOf59 qom (by first|exact rfl|exact hM.w.arr.b (i:=i) hi|exact hM.w.arr.b (i:=k) hk|exact hD.b (i:=(detI (detF n.links ws l (i:Nat) ((x:Nat):Int))).toNat) qom)) ?_ U Ac);refine o_y U (Lp U isAgg59 sizeOf59 U (by first|exact(hM.w.arr.mono (by exact sbt)).cs (i:=i) hi|exact A2)) ?_ U Ac;refine rP tb 2 U (o_y U (Bl (T U) (T U) runUnderlying27 sizeOf59 qom (by first|exact rfl|exact hM.w.arr.b (i:=i) hi|exact hM.w.arr.b (i:=k) hk|exact hD.b (i:=(detI (detF n.links ws l (i:Nat) ((x:Nat):Int))).toNat) qom)) ?_ U Ac);refine o_y U (Lp U isAgg59 sizeOf59 U (by first|exact(hM.w.arr.mono (by exact sbt)).cs (i:=k) hk|exact A2)) ?_ U Ac;refine o_y U (Bb (qe3 U U U) call107 (fun H' hs=>rConf_s n (hM.n.mono (stn hs)) (gd ws i) (gd ws k) ((hM.w.at hi).mono (stn hs)) ((hM.w.at hk).mono (stn hs)) (ho.gw.inr _ (Ao hi)) (ho.gw.inr _ (Ao hk)) qom qom)) ?_ U Ac;refine rP tb 5 U (Bj U (rO tb 8 U ?_))
 first|refine Ak (Aa U) (fun c33=> ?_) (fun c33=> ?_)|refine Au (Aa U) (fun c33=> ?_) (fun c33=> ?_)
 ·refine rC tb 7 U (As U (Ll U) ?_);rw[agrR_conf c33];exact⟨_,⟨rfl,rfl⟩,sbt⟩
 ·refine rC tb 9 U ?_;refine Cb (X:=Nat) (V:=fun x=>[(15, .int .i64 (x:Nat))]) (C:=[(1,_),(2,_),(3,_),(4,_),(5,_),(6,_)]) (φ:=fun x=>x<=n.nodes.length/\∀ j,j<x->agrX n.links ws l dt i k j) (μ:=fun x=>n.nodes.length - x) (x0:=0) ?_ (kg U) ⟨atd,trivial⟩ ?_
  ·exact⟨Nat.zero_le _,fun j h=>absurd h (Nat.not_lt_zero j)⟩
  rintro x ⟨hx,hall⟩;refine rD tb 5 U (y_ (Lo U isAgg22 (by first|exact c_o)) ?_ U);refine rO tb 4 U ?_
  first|refine Ak (Aa U) (fun c38=> ?_) (fun c38=> ?_)|refine Au (Aa U) (fun c38=> ?_) (fun c38=> ?_)
  ·have hx2:x<n.nodes.length:=by have h9:((x:Nat):Int)<(n.nodes.length:Nat):=c38;omega
   refine rC tb 5 U (B9 8 [(0,true),(1,true),(2,true),(3,true),(4,true),(5,true),(6,true),(7,true)] _ mixd qkr sb0 ?_ By);refine o_y U (Lp U isAgg26 sizeOf26 U (by first|exact A2)) ?_ U Ac;refine rP tb 2 U (o_y U (Bl (T U) (T U) runUnderlying27 sizeOf59 qom (by first|exact rfl|exact hM.w.arr.b (i:=i) hi|exact hM.w.arr.b (i:=k) hk|exact hD.b (i:=(detI (detF n.links ws l (i:Nat) ((x:Nat):Int))).toNat) qom)) ?_ U Ac);refine o_y U (Lp U isAgg59 sizeOf59 U (by first|exact(hM.w.arr.mono (by exact sbt)).cs (i:=i) hi|exact A2)) ?_ U Ac;refine rP tb 1 U (o_y U (Bb (qe3 U U U) call68 (fun H' hs=>rgoes_g n (hM.n.mono (stn hs)) (gd ws i) ((hM.w.at hi).mono (stn hs)) (ho.gw.inr _ (Ao hi)) (ho.kw _ (Ao hi)) ((x:Nat):Int))) (rP tb 1 U (Bj U (rO tb 3 U (B9 8 [(0,true),(1,true),(2,true),(3,true),(4,true),(5,true),(6,true),(7,true)] _ mixd qkr sb0 ?_ By)))) U Ac);refine o_y U (Lp U isAgg26 sizeOf26 U (by first|exact A2)) ?_ U Ac;refine rP tb 2 U (o_y U (Bl (T U) (T U) runUnderlying27 sizeOf59 qom (by first|exact rfl|exact hM.w.arr.b (i:=i) hi|exact hM.w.arr.b (i:=k) hk|exact hD.b (i:=(detI (detF n.links ws l (i:Nat) ((x:Nat):Int))).toNat) qom)) ?_ U Ac);refine o_y U (Lp U isAgg59 sizeOf59 U (by first|exact(hM.w.arr.mono (by exact sbt)).cs (i:=k) hk|exact A2)) ?_ U Ac;refine rP tb 1 U (o_y U (Bb (qe3 U U U) call68 (fun H' hs=>rgoes_g n (hM.n.mono (stn hs)) (gd ws k) ((hM.w.at hk).mono (stn hs)) (ho.gw.inr _ (Ao hk)) (ho.kw _ (Ao hk)) ((x:Nat):Int))) (rP tb 1 U (Bj U (rO tb 6 U ?_))) U Ac)
   first|refine A3 (B7 (T U)) U Ac ?_|refine A3 (Cc (T U)) U Ac ?_
   refine rO tb 1 U ?_
   first|refine Bi (s:=57) (Aa U) (fun c57=> ?_) (fun c57=> ?_)|refine B2 (s:=57) (Aa U) (fun c57=> ?_) (fun c57=> ?_)
   ·refine kO tb 5 [1,2,3,4,5,6,15,60] rfl U (rG tb 7 U (y_ (Bd (T U) An qom) ?_ U));refine rO tb 2 U ?_;refine A8 (x+1) ?_ ?_ ⟨atd,trivial⟩ (kg U) ?_
    ·refine⟨hx2,fun j hj=> ?_⟩;rcases Nat.lt_succ_iff_lt_or_eq.1 hj with h3|rfl
     ·exact hall j h3
     ·exact fun h1 _=>absurd (of_decide_eq_true h1) c57
    ·first|omega|(simp only[];omega)
    ·exact sbt
   ·refine rO tb 1 U ?_
    first|refine A3 (B7 (T U)) U (Ax U U (Aa U)) ?_|refine A3 (Cc (T U)) U (Ax U U (Aa U)) ?_
    refine kO tb 3 [1,2,3,4,5,6,15,60] rfl U ?_
    first|refine Ak (Aa U) (fun c60=> ?_) (fun c60=> ?_)|refine Au (Aa U) (fun c60=> ?_) (fun c60=> ?_)
    ·refine rC tb 6 U (y_ (Bd (T U) An qom) ?_ U);refine rO tb 2 U ?_;refine A8 (x+1) ?_ ?_ ⟨atd,trivial⟩ (kg U) ?_
     ·refine⟨hx2,fun j hj=> ?_⟩;rcases Nat.lt_succ_iff_lt_or_eq.1 hj with h3|rfl
      ·exact hall j h3
      ·exact fun _ h2=>absurd (of_decide_eq_true h2) c60
     ·first|omega|(simp only[];omega)
     ·exact sbt
    ·refine rC tb 4 U (y_ (Lp U isAgg26 sizeOf26 U (by first|exact A2)) ?_ U);refine rO tb 4 U (y_ (Bb (.cons (T U) (.cons (T U) (.cons (T U) (.cons (T U) (.cons (T U) .nil))))) call69 (fun H' hs=>rdet_g n ws qw cw l ql cl (hM.mono (stn hs)) ho i hi ((x:Nat):Int))) (rO tb 5 U (y_ (Lp U isAgg26 sizeOf26 U (by first|exact A2)) ?_ U)) U);refine rO tb 4 U (y_ (Bb (.cons (T U) (.cons (T U) (.cons (T U) (.cons (T U) (.cons (T U) .nil))))) call69 (fun H' hs=>rdet_g n ws qw cw l ql cl (hM.mono (stn hs)) ho k hk ((x:Nat):Int))) (rO tb 4 U (B9 20 [(0,true),(1,true),(2,true),(3,true),(4,true),(5,true),(6,true),(7,true),(8,true),(9,true),(10,true),(11,true),(12,true),(13,true),(14,true),(15,true),(16,true),(17,true),(18,true),(19,true)] _ mixd qkr sb0 ?_ By)) U);refine rP tb 4 U (o_y U (yl_neB (T U) (T U)) (rP tb 1 U ?_) U Ac)
     first|refine Cu (s:=78) (Aa U) (fun c78=> ?_) (fun c78=> ?_)|refine Ds (s:=78) (Aa U) (fun c78=> ?_) (fun c78=> ?_)
     ·skip
      refine rP tb 14 U (Bj U (kO tb 2 [1,2,3,4,5,6,15,92] rfl U (rG tb 9 U (Bc (rX tb 2 U (As U (Ll U) ?_))))));rw[agrR_bad (x:=x) hx2 (fun h=>by have g:=(h (decide_eq_true (Decidable.byContradiction c57)) (decide_eq_true (Decidable.byContradiction c60))).1;have h7: ¬ (detI (detF n.links ws l (i:Nat) ((x:Nat):Int))<0↔detI (detF n.links ws l (k:Nat) ((x:Nat):Int))<0):=(by simpa using c78);exact h7 ((Jc _).trans (by rw[g];exact(Jc _).symm)))];exact⟨_,⟨rfl,rfl⟩,sbt⟩
     ·have hsm:detI (detF n.links ws l (i:Nat) ((x:Nat):Int))<0↔detI (detF n.links ws l (k:Nat) ((x:Nat):Int))<0:=by simpa using c78
      refine rP tb 3 U ?_
      first|refine Cu (s:=81) (Aa U) (fun c81=> ?_) (fun c81=> ?_)|refine Ds (s:=81) (Aa U) (fun c81=> ?_) (fun c81=> ?_)
      ·obtain⟨hi1,hi2,hi3⟩:=detI_lt c81;obtain⟨hk1,hk2,hk3⟩:=detI_lt (show 0<=detI (detF n.links ws l (k:Nat) ((x:Nat):Int)) by omega);refine rP tb 2 U (o_y U (Bl (T U) (T U) runUnderlying41 sizeOf3 qom (by first|exact rfl|exact hM.w.arr.b (i:=i) hi|exact hM.w.arr.b (i:=k) hk|exact hD.b (i:=(detI (detF n.links ws l (i:Nat) ((x:Nat):Int))).toNat) qom)) ?_ U (Ax U U (Aa U)));refine o_y U (Lo U isAgg3 (by first|exact c_o|exact(hD.mono (by exact sbt)).f0 (i:=(detI (detF n.links ws l (i:Nat) ((x:Nat):Int))).toNat) qom U)) ?_ U (Ax U U (Aa U));refine rP tb 2 U (o_y U (Bl (T U) (T U) runUnderlying41 sizeOf3 qom (by first|exact rfl|exact hM.w.arr.b (i:=i) hi|exact hM.w.arr.b (i:=k) hk|exact hD.b (i:=(detI (detF n.links ws l (i:Nat) ((x:Nat):Int))).toNat) qom)) ?_ U (Ax U U (Aa U)));refine o_y U (Lo U isAgg3 (by first|exact c_o|exact(hD.mono (by exact sbt)).f0 (i:=(detI (detF n.links ws l (k:Nat) ((x:Nat):Int))).toNat) qom U)) ?_ U (Ax U U (Aa U));refine rP tb 3 U (Bj U (kO tb 2 [1,2,3,4,5,6,15,92] rfl U ?_))
       first|refine Ak (Aa U) (fun c92=> ?_) (fun c92=> ?_)|refine Au (Aa U) (fun c92=> ?_) (fun c92=> ?_)
       ·refine rC tb 8 U (Bc (rX tb 2 U (As U (Ll U) ?_)));rw[agrR_bad (x:=x) hx2 (fun h=>c92 (by have g:=(h (decide_eq_true (Decidable.byContradiction c57)) (decide_eq_true (Decidable.byContradiction c60))).2 hi3;rw[<- hi2,<- hk2] at g;exact g))];exact⟨_,⟨rfl,rfl⟩,sbt⟩
       ·refine rC tb 5 U (y_ (Bd (T U) An qom) ?_ U);refine rO tb 2 U ?_;refine A8 (x+1) ?_ ?_ ⟨atd,trivial⟩ (kg U) ?_
        ·refine⟨hx2,fun j hj=> ?_⟩;rcases Nat.lt_succ_iff_lt_or_eq.1 hj with h3|rfl
         ·exact hall j h3
         ·exact fun _ _=>⟨by rw[hi3,hk3],fun _=>(by rw[<- hi2,<- hk2];exact Decidable.byContradiction c92)⟩
        ·first|omega|(simp only[];omega)
        ·exact sbt
      ·have e1:=(Jc (detF n.links ws l (i:Nat) ((x:Nat):Int))).1 qom;have e2:=(Jc (detF n.links ws l (k:Nat) ((x:Nat):Int))).1 (hsm.1 qom);refine rP tb 11 U (Bj U (kO tb 2 [1,2,3,4,5,6,15,92] rfl U (rG tb 6 U (y_ (Bd (T U) An qom) ?_ U))));refine rO tb 2 U ?_;refine A8 (x+1) ?_ ?_ ⟨atd,trivial⟩ (kg U) ?_
       ·refine⟨hx2,fun j hj=> ?_⟩;rcases Nat.lt_succ_iff_lt_or_eq.1 hj with h3|rfl
        ·exact hall j h3
        ·exact fun _ _=>⟨by rw[e1,e2],fun h=>(by rw[e1] at h;cases h)⟩
       ·first|omega|(simp only[];omega)
       ·exact sbt
  ·have hend:x=n.nodes.length:=by have h9: ¬ ((x:Nat):Int)<(n.nodes.length:Nat):=c38;omega
   refine rC tb 2 U (Aq (rX tb 8 U (As U (Ll U) ?_)));rw[agrR_good (by simpa using c33) (fun j hj=>hall j qom)];exact⟨_,⟨rfl,rfl⟩,sbt⟩
theorem free_s {w0:World}{H:List (Nat × Obj)}(n:Nm)(hn:NetM w0 H n)(q:Option Addr)(cap:Nat)(l:List Wm)(hw:WaysM w0 H q l)(hg:Gw n l)(hl5:l.length<=100000)(q2:Option Addr)(cap2:Nat)(tg:List Int)(ht:IntArr w0 H q2 tg)(htl:tg.length<=l.length)(t:Int)(m:Wm)(hm:WayM w0 H m)(hml:m∈l):
  FSpec prog w0 106 #[.agg (encNm n).toArray, .slice q l.length cap, .slice q2 tg.length cap2, .int .i64 t, .agg (encW m).toArray] H (Still (.bool (freeI n.links n.nodes.length l tg t m.way)) H):=by
 refine Az func106 U ntmps106 U (Am (Ad (e_ (Lt U cs_) ?_ U)));rintro _ _ ⟨n5,rfl,rfl⟩;refine e_ (Lt U cs_) ?_ U;rintro _ _ ⟨n9,rfl,rfl⟩;refine y_ (Ag An) (Aj (Ah (Am (Am (Ad (y_ (Ag An) (Aj (Ah (Bo ?_))) U)))))) U;refine Cb (X:=Nat) (V:=fun k=>[(11, .int .i64 (k:Nat))]) (C:=[(1,_),(2,_),(3,_),(5,_),(9,_)]) (φ:=fun k=>k<=tg.length/\∀ i,i<k->gd tg i=t->confR n.links n.nodes.length (gd l i).way m.way=none) (μ:=fun k=>tg.length - k) (x0:=0) ?_ (kg U) ⟨atd,trivial⟩ ?_
 ·exact⟨Nat.zero_le _,fun i hi=>by omega⟩
 rintro k ⟨hk,hall⟩;refine Am (Am (Ad (y_ (Af (T U)) (y_ (Af (T U)) (y_ (Cd (T U) runUnderlying41) (y_ (Ci (T U) (T U)) (Aj (Ah ?_)) U) U) U) U)))
 first|refine Ak (Aa U) (fun c17=> ?_) (fun c17=> ?_)|refine Au (Aa U) (fun c17=> ?_) (fun c17=> ?_)
 ·refine Bp (Ah (Am (Bo (Am (Am (Ad (y_ (Af (T U)) (y_ (Af (T U)) (y_ (Lq U U runUnderlying41 sizeOf3 qom (by first|exact rfl|exact hw.arr.b (i:=k) qom|exact ht.b (i:=k) qom)) ?_ U) U) U)))))));refine y_ (Lo U isAgg3 (by first|exact c_o|exact c_m (ht.f0 (i:=k) qom U))) ?_ U;refine y_ (Af (T U)) (y_ (F7 (T U) (T U)) (Aj (Ah ?_)) U) U
  first|refine Ak (Aa U) (fun c25=> ?_) (fun c25=> ?_)|refine Au (Aa U) (fun c25=> ?_) (fun c25=> ?_)
  ·refine Ct (Bv (Bw (Ah (Ad (y_ (Af (T U)) (y_ (Bd (T U) An qom) ?_ U) U)))));refine y_ (Ag (T U)) (Aj ?_) U;refine A8 (k+1) ?_ ?_ ⟨atd,trivial⟩ (kg U) ?_
   ·refine⟨by omega,fun i hi hti=> ?_⟩
    by_cases e:i=k
    ·subst e;first|exact absurd hti c25|simpa using c36
    ·exact hall i qom hti
   ·first|omega|(simp only[];omega)
   ·exact sbt
  ·refine Bp (Ah (Am (B9 12 [(0,true),(1,true),(2,true),(3,true),(4,true),(5,true),(6,true),(7,true),(8,true),(9,true),(10,true),(11,true)] _ mixd qkr sb0 ?_)));refine o_y U (Lp U isAgg26 sizeOf26 U (by first|exact A2|exact Cw (ht.f0 (i:=k) qom U))) ?_ U Ac;refine o_y U (Af (T U)) (o_y U (Af (T U)) (o_y U (Lq U U runUnderlying27 sizeOf59 qom (by first|exact rfl|exact hw.arr.b (i:=k) qom|exact ht.b (i:=k) qom)) ?_ U Ac) U Ac) U Ac;refine o_y U (Lp U isAgg59 sizeOf59 U (by first|exact A2|exact Cw (hw.arr.cs (i:=k) qom)|exact Cw (ht.f0 (i:=k) qom U))) ?_ U Ac;refine o_y U (Lp U isAgg59 sizeOf59 U (by first|exact A2|exact Cw (ht.f0 (i:=k) qom U))) ?_ U Ac;refine o_y U (Bb (qe3 U U U) call107 (fun H' hs=>rConf_s n (hn.mono (stn hs)) _ m ((hw.at (i:=k) qom).mono (stn hs)) (hm.mono (stn hs)) (hg.inr _ (Ao qom)) (hg.inr _ hml) (hg.len _ (Ao qom)) (hg.len _ hml))) ?_ U Ac;refine o_y U (Af (T U)) (o_y U (Bx (T U) U) (o_y U (Bx (T U) U) (o_y U (Ag (T U)) (o_y U (Ag (T U)) (Bj U (Aj (Ah (B5 [(1,_),(2,_),(3,_),(5,_),(9,_),(11,_),(13,_)] (kg U) (Am (Ad (y_ (Af (T U)) (Aj (Ah ?_)) U))))))) U Ac) U Ac) U Ac) U Ac) U Ac
   first|refine Ak (Aa U) (fun c36=> ?_) (fun c36=> ?_)|refine Au (Aa U) (fun c36=> ?_) (fun c36=> ?_)
   ·refine Am (Ad (y_ (Ag An) (Aj (Ah (Bq (A4 (Aw (Bc (A4 (Aw (As U (Ll U) ?_))))))))) U));exact⟨_,⟨vbool (by symm;rw[Bool.eq_false_iff];intro h;have h:=freeI_iff.1 h;rw[h k qom (Classical.not_not.1 c25)] at c36;cases c36),rfl⟩,sbt⟩
   ·refine Bp (B4 (Ah (Ad (y_ (Af (T U)) (y_ (Bd (T U) An qom) ?_ U) U))));refine y_ (Ag (T U)) (Aj ?_) U;refine A8 (k+1) ?_ ?_ ⟨atd,trivial⟩ (kg U) ?_
    ·refine⟨by omega,fun i hi hti=> ?_⟩
     by_cases e:i=k
     ·subst e;first|exact absurd hti c25|simpa using c36
     ·exact hall i qom hti
    ·first|omega|(simp only[];omega)
    ·exact sbt
 ·refine Ct (Bv (Aq (Bw (Ah (Am (Ad (y_ (Ag An) (Aj (Ah (Bq (As U (Ll U) ?_)))) U)))))));exact⟨_,⟨vbool (by symm;exact freeI_iff.2 fun i hi=>hall i qom),rfl⟩,sbt⟩
theorem rRight_s {w0:World}{H:List (Nat × Obj)}(n:Nm)(hn:NetM w0 H n)(q:Option Addr)(cap:Nat)(l:List Wm)(hw:WaysM w0 H q l)(hg:Gw n l)(hl5:l.length<=100000)(q2:Option Addr)(cap2:Nat)(tg:List Int)(ht:IntArr w0 H q2 tg)(htc:tg.length<=cap2)(htl:tg.length<=9223372036854775807):
  FSpec prog w0 63 #[.agg (encNm n).toArray, .slice q l.length cap, .slice q2 tg.length cap2] H (Still (.bool (rgtF n.links [] (l.map (·.way)) tg)) H):=by
 refine Az func63 U ntmps63 U (Am (Ad (e_ (Lt U cs_) ?_ U)));rintro _ _ ⟨n3,rfl,rfl⟩;refine y_ (Ag An) (Aj (Ah (Am (Am (Ad (y_ (Af (T U)) (y_ (Cd (T U) runUnderlying41) (y_ (Af (T U)) (y_ (Cd (T U) runUnderlying27) (y_ (F7 (T U) (T U)) (Aj (Ah ?_)) U) U) U) U) U)))))) U
 first|refine Ak (Aa U) (fun c12=> ?_) (fun c12=> ?_)|refine Au (Aa U) (fun c12=> ?_) (fun c12=> ?_)
 ·refine Am (Ad (y_ (Ag An) (Aj (Ah (Bq (Aw (As U (Ll U) ?_))))) U));exact⟨_,⟨by rw[E0,decide_eq_false (by simp;omega)];rfl,rfl⟩,sbt⟩
 ·refine Bp (Ah (Am (Am (Ad (y_ (Ag An) (Aj (Ah (Bo ?_))) U)))));refine Cb (X:=Nat) (V:=fun k=>[(7, .int .i64 (k:Nat))]) (C:=[(1,_),(2,_),(3,_)]) (φ:=fun k=>k<=l.length/\Cons n.links (pairs l (tg.take k))/\rgtF n.links (pairs l (tg.take k)) ((l.drop k).map (·.way)) (tg.drop k)=rgtF n.links [] (l.map (·.way)) tg) (μ:=fun k=>l.length - k) (x0:=0) ?_ (kg U) ⟨atd,trivial⟩ ?_
  ·refine⟨Nat.zero_le _,?_,?_⟩
   ·rw[List.take_zero,E7];exact Cons.nil _
   ·rw[List.take_zero,E7];rfl
  rintro k ⟨hk,hcs,hr⟩;refine Am (Am (Ad (y_ (Af (T U)) (y_ (Af (T U)) (y_ (Cd (T U) runUnderlying41) (y_ (Ci (T U) (T U)) (Aj (Ah ?_)) U) U) U) U)))
  first|refine Ak (Aa U) (fun c16=> ?_) (fun c16=> ?_)|refine Au (Aa U) (fun c16=> ?_) (fun c16=> ?_)
  ·refine Bp (Ah (Am (Bo (Am (B9 29 [(0,true),(1,true),(2,true),(3,true),(4,true),(5,true),(6,true),(7,true),(8,true),(9,true),(10,true),(11,true),(12,true),(13,true),(14,true),(15,true),(16,true),(17,true),(18,true),(19,true),(20,true),(21,true),(22,true),(23,true),(24,true),(25,true),(26,true),(27,true),(28,true)] _ mixd qkr sb0 ?_)))));refine o_y U (Af (T U)) (o_y U (Af (T U)) (o_y U (Lq U U runUnderlying41 sizeOf3 qom (by first|exact rfl|exact hw.arr.b (i:=k) qom|exact ht.b (i:=k) qom)) ?_ U Ac) U Ac) U Ac;refine o_y U (Lo U isAgg3 (by first|exact c_o|exact c_m (ht.f0 (i:=k) qom U))) ?_ U Ac;refine o_y U (Ci (T U) An) (o_y U (Af (T U)) ?_ U Ac) U Ac
   first|refine Cu (s:=24) (Aa U) (fun c24=> ?_) (fun c24=> ?_)|refine Ds (s:=24) (Aa U) (fun c24=> ?_) (fun c24=> ?_)
   ·refine o_n U (o_n U (o_n U (o_n U (o_n U (o_y U (Bh (T U) An) (o_y U (Af (T U)) (o_n U (o_n U (o_n U (o_n U (o_n U (o_n U (o_n U (o_n U (o_n U (o_n U (o_n U (o_n U (o_n U (o_n U (o_n U (o_y U (Bh (T U) An) (Bj U (Aj (Ah (B5 [(1,_),(2,_),(3,_),(7,_),(47,_)] (kg U) (Cf (Aa U) (Am (Ad (y_ (Ag An) (Aj (Ah (Bq (A4 (Aw (Bc (A4 (Aw (As U (Ll U) ?_))))))))) U)))))))) U Ac) U (C0 U U (Aa U))) U (C0 U U (Aa U))) U (C0 U U (Aa U))) U (C0 U U (Aa U))) U (C0 U U (Aa U))) U (C0 U U (Aa U))) U (C0 U U (Aa U))) U (C0 U U (Aa U))) U (C0 U U (Aa U))) U (C0 U U (Aa U))) U (C0 U U (Aa U))) U (C0 U U (Aa U))) U (C0 U U (Aa U))) U (C0 U U (Aa U))) U (C0 U U (Aa U))) U Ac) U Ac) U (C0 U U (Aa U))) U (C0 U U (Aa U))) U (C0 U U (Aa U))) U (C0 U U (Aa U))) U (C0 U U (Aa U));exact⟨_,⟨by rw[<- hr,Jp (k:=k) qom qom,decide_eq_false qom];rfl,rfl⟩,sbt⟩
   ·refine o_y U (Af (T U)) (o_y U (Af (T U)) (o_y U (Lq U U runUnderlying41 sizeOf3 qom (by first|exact rfl|exact hw.arr.b (i:=k) qom|exact ht.b (i:=k) qom)) ?_ U (Ax U U (Aa U))) U (Ax U U (Aa U))) U (Ax U U (Aa U));refine o_y U (Lo U isAgg3 (by first|exact c_o|exact c_m (ht.f0 (i:=k) qom U))) ?_ U (Ax U U (Aa U));refine o_y U (Dx (T U) An) (o_y U (Bm (T U) (T U)) (o_y U (Af (T U)) ?_ U Ac) U Ac) U (Ax U U (Aa U))
    first|refine Cu (s:=31) (Aa U) (fun c31=> ?_) (fun c31=> ?_)|refine Ds (s:=31) (Aa U) (fun c31=> ?_) (fun c31=> ?_)
    ·refine o_n U (o_n U (o_n U (o_n U (o_n U (o_n U (o_n U (o_n U (o_n U (o_n U (o_n U (o_n U (o_n U (o_n U (o_n U (o_y U (Bh (T U) An) (Bj U (Aj (Ah (B5 [(1,_),(2,_),(3,_),(7,_),(47,_)] (kg U) (Cf (Aa U) (Am (Ad (y_ (Ag An) (Aj (Ah (Bq (A4 (Aw (Bc (A4 (Aw (As U (Ll U) ?_))))))))) U)))))))) U Ac) U (C0 U U (Aa U))) U (C0 U U (Aa U))) U (C0 U U (Aa U))) U (C0 U U (Aa U))) U (C0 U U (Aa U))) U (C0 U U (Aa U))) U (C0 U U (Aa U))) U (C0 U U (Aa U))) U (C0 U U (Aa U))) U (C0 U U (Aa U))) U (C0 U U (Aa U))) U (C0 U U (Aa U))) U (C0 U U (Aa U))) U (C0 U U (Aa U))) U (C0 U U (Aa U));exact⟨_,⟨by rw[<- hr,Jp (k:=k) qom qom,decide_eq_false qom];rfl,rfl⟩,sbt⟩
    ·refine o_y U (Lp U isAgg26 sizeOf26 U (by first|exact A2|exact Cw (ht.f0 (i:=k) qom U))) ?_ U (Ax U U (Aa U));refine o_y U (Af (T U)) (o_y U (Af (T U)) (o_y U (Af (T U)) (o_y U (Ft  (T U) (T U) runUnderlying41 sizeOf3 qom) ?_ U (Ax U U (Aa U))) U (Ax U U (Aa U))) U (Ax U U (Aa U))) U (Ax U U (Aa U));refine o_y U (Af (T U)) (o_y U (Af (T U)) (o_y U (Lq U U runUnderlying41 sizeOf3 qom (by first|exact rfl|exact hw.arr.b (i:=k) qom|exact ht.b (i:=k) qom)) ?_ U (Ax U U (Aa U))) U (Ax U U (Aa U))) U (Ax U U (Aa U));refine o_y U (Lo U isAgg3 (by first|exact c_o|exact c_m (ht.f0 (i:=k) qom U))) ?_ U (Ax U U (Aa U));refine o_y U (Af (T U)) (o_y U (Af (T U)) (o_y U (Lq U U runUnderlying27 sizeOf59 qom (by first|exact rfl|exact hw.arr.b (i:=k) qom|exact ht.b (i:=k) qom)) ?_ U (Ax U U (Aa U))) U (Ax U U (Aa U))) U (Ax U U (Aa U));refine o_y U (Lp U isAgg59 sizeOf59 U (by first|exact A2|exact Cw (hw.arr.cs (i:=k) qom)|exact Cw (ht.f0 (i:=k) qom U))) ?_ U (Ax U U (Aa U));refine o_y U (Bb (.cons (T U) (.cons (T U) (.cons (T U) (.cons (T U) (.cons (T U) .nil))))) call106 (fun H' hs=>by have hfr:=free_s n (hn.mono (stn hs)) q cap l (hw.mono (stn hs)) hg hl5 q2 cap2 (tg.take k) ((ht.take k).mono (stn hs)) (by simp;omega) (gd tg k) (gd l k) ((hw.at (i:=k) qom).mono (stn hs)) (Ao qom);rw[show (tg.take k).length=k by simp;omega,freeI_fits hg (by simp;omega) hcs (Ao qom)] at hfr;exact hfr)) ?_ U (Ax U U (Aa U))
     first|refine o_y U (B7 (T U)) ?_ U (Ax U U (Aa U))|refine o_y U (Cc (T U)) ?_ U (Ax U U (Aa U))
     refine o_y U (Bm (T U) (T U)) (Bj U (Aj (Ah (B5 [(1,_),(2,_),(3,_),(7,_),(47,_)] (kg U) ?_)))) U Ac
     first|refine Ak (Aa U) (fun c47=> ?_) (fun c47=> ?_)|refine Au (Aa U) (fun c47=> ?_) (fun c47=> ?_)
     ·refine Am (Ad (y_ (Ag An) (Aj (Ah (Bq (A4 (Aw (Bc (A4 (Aw (As U (Ll U) ?_))))))))) U));exact⟨_,⟨by rw[<- hr,Jp (k:=k) qom qom,show fitsP n.links (planR n.links (pairs l (tg.take k))) (gd l k).way (gd tg k)=false by simpa using c47];simp[resOf],rfl⟩,sbt⟩
     ·refine Bp (B4 (Ah (Ad (y_ (Af (T U)) (y_ (Bd (T U) An qom) ?_ U) U))));refine y_ (Ag (T U)) (Aj ?_) U;refine A8 (k+1) ?_ ?_ ⟨atd,trivial⟩ (kg U) ?_
      ·have hf:fitsP n.links (planR n.links (pairs l (tg.take k))) (gd l k).way (gd tg k)=true:=by simpa using c47
       refine⟨by omega,by rw[Gf qom qom];exact hcs.cons (hg.nd _ (Ao qom)) hf,?_⟩;rw[<- hr,Jp (k:=k) qom qom,hf,decide_eq_true qom];rfl
      ·first|omega|(simp only[];omega)
      ·exact sbt
  ·refine Ct (Bv (Aq (Bw (Ah (Am (Ad (y_ (Ag An) (Aj (Ah (Bq (As U (Ll U) ?_)))) U)))))));exact⟨_,⟨by rw[<- hr,rgt_end qom qom];rfl,rfl⟩,sbt⟩
theorem grg_cls {f:Nat->Nat->Bool}{tags:List Int}{i:Nat}(hi:i<tags.length)(h:∀ k,k<i->gd tags i=gd tags k->f i k=true):clsF f (tags.take i) i (gd tags i)=false:=cls_no fun k hk e=>by
 have hk2:k<i:=by rw[List.length_take] at hk;omega
 rw[Iw hk2] at e;exact h k hk2 e.symm
theorem grg_clash {f:Nat->Nat->Bool}{tags dt:List Int}{i k:Nat}(hi:i<tags.length)(hk:k<i)(e:gd tags i=gd tags k)(hf:f i k=false): ¬ grgA f tags dt i:=fun h=>by
 have h2:=cls_yes (f:=f) (tags:=tags.take i) (i:=i) (k:=k) (t:=gd tags i) (by rw[List.length_take];omega) (by rw[Iw hk];exact e.symm) hf;rw[h.2] at h2;cases h2
theorem rright_g {w0:World}{H:List (Nat × Obj)}(n:Nm)(ws:List Wm)(qw:Option Addr)(cw:Nat)(l:List Dtm)(ql:Option Addr)(cl:Nat)(hM:GpM w0 H n ws qw l ql)(ho:GpOk n ws l)(tags:List Int)(q1:Option Addr)(c1:Nat)(hT:Arr w0 H q1 1 encI tags)(htl:tags.length<=9000000)(dt:List Int)(q2:Option Addr)(c2:Nat)(hD:Arr w0 H q2 1 encI dt)(hdl:dt.length<=9000000)(hdc:dt.length<=c2)(hN:n.nodes.length<=1000000):
  FSpec prog w0 20 #[.agg (encNm n).toArray, .slice qw ws.length cw, .slice ql l.length cl, .slice q1 tags.length c1, .slice q2 dt.length c2] H (Still (.bool (grgt (agrR n.links n.nodes.length ws l dt) ws.length (rgtF n.links [] (dways l) dt) tags dt)) H):=by
 refine Az func20 U ntmps20 U ?_;have hlw:=ho.lw;have hll:=ho.ll;refine rD tb 2 U (e_ (Lt U cs_) ?_ U);rintro _ _ ⟨n5,rfl,rfl⟩;refine rO tb 4 U (B9 4 [(0,true),(1,true),(3,true),(2,false)] _ mixd qkr sb0 ?_ By);refine o_y U (Lp U isAgg26 sizeOf26 U (by first|exact A2)) ?_ U Ac;refine rP tb 2 U (o_e U (A1 (qe1 U) call55 (rall_g ql cl l (hM.a.mono (by exact sbt)) qom)) ?_ U Ac);rintro _ _ ⟨dA,⟨rfl,hdA⟩,rfl⟩;refine⟨sbt,(Li (Bj U (e_ (A1 (qe3 U U U) call63 (rRight_s n (hM.n.mono (by exact sbt)) (slQ dA) (slC dA) (l.map Dtm.m) ((hM.mono (by exact sbt)).ds (A5 (fun _=>rfl) hdA) hll) ho.gd (by rw[List.length_map];omega) q2 c2 dt (hD.mono (by exact sbt)) hdc qom)) ?_ U)))⟩;rintro _ _ ⟨rfl,rfl⟩;refine rO tb 7 U ?_
 first|refine A3 (B7 (T U)) U Ac ?_|refine A3 (Cc (T U)) U Ac ?_
 refine rO tb 1 U ?_
 first|refine Bi (s:=23) (Aa U) (fun c23=> ?_) (fun c23=> ?_)|refine B2 (s:=23) (Aa U) (fun c23=> ?_) (fun c23=> ?_)
 ·skip
  refine rO tb 16 U (As U (Ll U) ?_);rw[J9 (.inr (by simpa using c23))];exact⟨_,⟨rfl,rfl⟩,sbt⟩
 ·have hrg:(rgtF n.links [] (dways l) dt)=true:=by simpa using c23
  have hdl2:=rgt_lenG hrg;rw[F3] at hdl2;refine rO tb 8 U ?_
  first|refine Ak (Aa U) (fun c29=> ?_) (fun c29=> ?_)|refine Au (Aa U) (fun c29=> ?_) (fun c29=> ?_)
  ·skip
   refine rC tb 7 U (As U (Ll U) ?_);rw[J9 (.inl (fun h=>c29 (by rw[h])))];exact⟨_,⟨rfl,rfl⟩,sbt⟩
  ·have hel:tags.length=ws.length:=by omega
   refine rC tb 9 U ?_;refine Cb (X:=Nat) (V:=fun i=>[(12, .int .i64 (i:Nat))]) (C:=[(1,_),(2,_),(3,_),(4,_),(5,_)]) (φ:=fun i=>i<=tags.length/\∀ j,j<i->grgA (agrR n.links n.nodes.length ws l dt) tags dt j) (μ:=fun i=>tags.length - i) (x0:=0) ?_ (kg U) ⟨atd,trivial⟩ ?_
   ·exact⟨Nat.zero_le _,fun j h=>absurd h (Nat.not_lt_zero j)⟩
   rintro i ⟨hi,hall⟩;refine rD tb 9 U ?_
   first|refine Ak (Aa U) (fun c33=> ?_) (fun c33=> ?_)|refine Au (Aa U) (fun c33=> ?_) (fun c33=> ?_)
   ·have hi2:i<tags.length:=by have h9:((i:Nat):Int)<(tags.length:Nat):=c33;omega
    refine rC tb 9 U (y_ (Lq U U runUnderlying41 sizeOf3 qom (by first|exact rfl|exact hT.b (i:=i) hi2|exact hD.b (i:=m) hm2|exact hT.b (i:=k) hk3)) ?_ U);refine y_ (Lo U isAgg3 (by first|exact c_o|exact(hT.mono (by exact sbt)).f0 (i:=i) hi2 U)) ?_ U;refine rO tb 2 U ?_
    first|refine Bi (s:=41) (Aa U) (fun c41=> ?_) (fun c41=> ?_)|refine B2 (s:=41) (Aa U) (fun c41=> ?_) (fun c41=> ?_)
    ·refine rO tb 18 U (Bc (rX tb 2 U (As U (Ll U) ?_)));rw[Et (i:=i) hi2 (fun h=>absurd h.1.1 qom)];exact⟨_,⟨rfl,rfl⟩,sbt⟩
    ·refine rO tb 2 U (A3 (Lq U U runUnderlying41 sizeOf3 qom (by first|exact rfl|exact hT.b (i:=i) hi2|exact hD.b (i:=m) hm2|exact hT.b (i:=k) hk3)) U (Ax U U (Aa U)) ?_);refine A3 (Lo U isAgg3 (by first|exact c_o|exact(hT.mono (by exact sbt)).f0 (i:=i) hi2 U)) U (Ax U U (Aa U)) ?_;refine rO tb 4 U ?_
     first|refine Ak (Aa U) (fun c47=> ?_) (fun c47=> ?_)|refine Au (Aa U) (fun c47=> ?_) (fun c47=> ?_)
     ·refine rC tb 9 U (Bc (rX tb 2 U (As U (Ll U) ?_)));rw[Et (i:=i) hi2 (fun h=>absurd h.1.2.1 qom)];exact⟨_,⟨rfl,rfl⟩,sbt⟩
     ·refine rC tb 9 U ?_;refine Cb (X:=Nat) (V:=fun m=>[(13, .int .i64 (m:Nat))]) (C:=[(1,_),(2,_),(3,_),(4,_),(5,_),(12,_)]) (φ:=fun m=>m<=dt.length/\∀ j,j<m->¬ gd tags i=gd dt j) (μ:=fun m=>dt.length - m) (x0:=0) ?_ (kg U) ⟨atd,trivial⟩ ?_
      ·exact⟨Nat.zero_le _,fun j h=>absurd h (Nat.not_lt_zero j)⟩
      rintro m ⟨hm,hmn⟩;refine rD tb 9 U ?_
      first|refine Ak (Aa U) (fun c51=> ?_) (fun c51=> ?_)|refine Au (Aa U) (fun c51=> ?_) (fun c51=> ?_)
      ·have hm2:m<dt.length:=by have h9:((m:Nat):Int)<(dt.length:Nat):=c51;omega
       refine rC tb 5 U (B9 9 [(0,true),(1,true),(2,true),(3,true),(4,true),(5,true),(6,true),(7,true),(8,true)] _ mixd qkr sb0 ?_ By);refine rP tb 2 U (o_y U (Bl (T U) (T U) runUnderlying41 sizeOf3 qom (by first|exact rfl|exact hT.b (i:=i) hi2|exact hD.b (i:=m) hm2|exact hT.b (i:=k) hk3)) ?_ U Ac);refine o_y U (Lo U isAgg3 (by first|exact c_o|exact(hT.mono (by exact sbt)).f0 (i:=i) hi2 U)) ?_ U Ac;refine rP tb 2 U (o_y U (Lq U U runUnderlying41 sizeOf3 qom (by first|exact rfl|exact hT.b (i:=i) hi2|exact hD.b (i:=m) hm2|exact hT.b (i:=k) hk3)) ?_ U Ac);refine o_y U (Lo U isAgg3 (by first|exact c_o|exact(hD.mono (by exact sbt)).f0 (i:=m) hm2 U)) ?_ U Ac;refine rP tb 1 U (Bj U (rO tb 2 U ?_))
       first|refine Ak (Aa U) (fun c62=> ?_) (fun c62=> ?_)|refine Au (Aa U) (fun c62=> ?_) (fun c62=> ?_)
       ·refine rC tb 8 U (Bc (rX tb 4 U (Bc (rX tb 2 U (As U (Ll U) ?_)))));rw[Et (i:=i) hi2 (fun h=>h.1.2.2 (by rw[show gd tags i=gd dt m from c62];exact Ao hm2))];exact⟨_,⟨rfl,rfl⟩,sbt⟩
       ·refine rC tb 5 U (y_ (Bd (T U) An qom) ?_ U);refine rO tb 2 U ?_;refine A8 (m+1) ?_ ?_ ⟨atd,trivial⟩ (kg U) ?_
        ·refine⟨hm2,fun j hj=> ?_⟩;rcases Nat.lt_succ_iff_lt_or_eq.1 hj with h3|rfl
         ·exact hmn j h3
         ·exact c62
        ·first|omega|(simp only[];omega)
        ·exact sbt
      ·have hnm:gd tags i∉dt:=fun h=>by obtain⟨j,hj,e⟩:=gd_memX h;exact hmn j qom e.symm
       refine rC tb 2 U (Aq (rX tb 8 U ?_));refine Cb (X:=Nat) (V:=fun k=>[(14, .int .i64 (k:Nat))]) (C:=[(1,_),(2,_),(3,_),(4,_),(5,_),(12,_)]) (φ:=fun k=>k<=i/\∀ j,j<k->gd tags i=gd tags j->agrR n.links n.nodes.length ws l dt i j=true) (μ:=fun k=>i - k) (x0:=0) ?_ (kg U) ⟨atd,trivial⟩ ?_
       ·exact⟨Nat.zero_le _,fun j h=>absurd h (Nat.not_lt_zero j)⟩
       rintro k ⟨hk,hkn⟩;refine rD tb 8 U ?_
       first|refine Ak (Aa U) (fun c65=> ?_) (fun c65=> ?_)|refine Au (Aa U) (fun c65=> ?_) (fun c65=> ?_)
       ·have hk2:k<i:=by have h9:((k:Nat):Int)<(i:Nat):=c65;omega
        have hk3:k<tags.length:=by omega
        refine rC tb 5 U (B9 19 [(0,true),(1,true),(2,true),(3,true),(4,true),(5,true),(6,true),(7,true),(8,true),(9,true),(10,true),(11,true),(12,true),(13,true),(14,true),(15,true),(16,true),(17,true),(18,true)] _ mixd qkr sb0 ?_ By);refine rP tb 2 U (o_y U (Bl (T U) (T U) runUnderlying41 sizeOf3 qom (by first|exact rfl|exact hT.b (i:=i) hi2|exact hD.b (i:=m) hm2|exact hT.b (i:=k) hk3)) ?_ U Ac);refine o_y U (Lo U isAgg3 (by first|exact c_o|exact(hT.mono (by exact sbt)).f0 (i:=i) hi2 U)) ?_ U Ac;refine rP tb 2 U (o_y U (Lq U U runUnderlying41 sizeOf3 qom (by first|exact rfl|exact hT.b (i:=i) hi2|exact hD.b (i:=m) hm2|exact hT.b (i:=k) hk3)) ?_ U Ac);refine o_y U (Lo U isAgg3 (by first|exact c_o|exact(hT.mono (by exact sbt)).f0 (i:=k) hk3 U)) ?_ U Ac;refine rP tb 2 U ?_
        first|refine Cu (s:=77) (Aa U) (fun c77=> ?_) (fun c77=> ?_)|refine Ds (s:=77) (Aa U) (fun c77=> ?_) (fun c77=> ?_)
        ·refine rP tb 9 U (Bj U (rO tb 4 U (y_ (Af (T U)) ?_ U)))
         skip
         refine y_ (Cc (T U)) ?_ U
         skip
         refine kO tb 2 [1,2,3,4,5,12,14,87] rfl U (rG tb 6 U (y_ (Bd (T U) An qom) ?_ U));refine rO tb 2 U ?_;refine A8 (k+1) ?_ ?_ ⟨atd,trivial⟩ (kg U) ?_
         ·refine⟨hk2,fun j hj e=> ?_⟩;rcases Nat.lt_succ_iff_lt_or_eq.1 hj with h3|rfl
          ·exact hkn j h3 e
          ·exact absurd e c77
         ·first|omega|(simp only[];omega)
         ·exact sbt
        ·refine o_y U (Lp U isAgg26 sizeOf26 U (by first|exact A2)) ?_ U (Ax U U (Aa U));refine rP tb 5 U (o_y U (Bb (.cons (T U) (.cons (T U) (.cons (T U) (.cons (T U) (.cons (T U) (.cons (T U) .nil)))))) call56 (fun H' hs=>ragree_g n ws qw cw l ql cl (hM.mono (stn hs)) ho dt q2 c2 (hD.mono (stn hs)) qom i k qom qom hN)) ?_ U (Ax U U (Aa U)));refine rP tb 2 U (Bj U (rO tb 4 U (y_ (Af (T U)) ?_ U)))
         skip
         first|refine A3 (B7 (T U)) U Ac ?_|refine A3 (Cc (T U)) U Ac ?_
         skip
         refine kO tb 2 [1,2,3,4,5,12,14,87] rfl U ?_
         first|refine Ak (Aa U) (fun c87=> ?_) (fun c87=> ?_)|refine Au (Aa U) (fun c87=> ?_) (fun c87=> ?_)
         ·refine rC tb 8 U (Bc (rX tb 3 U (Bc (rX tb 2 U (As U (Ll U) ?_)))));rw[Et (i:=i) hi2 (grg_clash (k:=k) hi2 hk2 (Decidable.byContradiction c77) (by simpa using c87))];exact⟨_,⟨rfl,rfl⟩,sbt⟩
         ·refine rC tb 5 U (y_ (Bd (T U) An qom) ?_ U);refine rO tb 2 U ?_;refine A8 (k+1) ?_ ?_ ⟨atd,trivial⟩ (kg U) ?_
          ·refine⟨hk2,fun j hj e=> ?_⟩;rcases Nat.lt_succ_iff_lt_or_eq.1 hj with h3|rfl
           ·exact hkn j h3 e
           ·simpa using c87
          ·first|omega|(simp only[];omega)
          ·exact sbt
       ·have hcl:=grg_cls (f:=(agrR n.links n.nodes.length ws l dt)) hi2 (fun j hj=>hkn j qom);refine rC tb 2 U (Aq (rX tb 5 U (y_ (Bd (T U) An qom) ?_ U)));refine rO tb 2 U ?_;refine A8 (i+1) ?_ ?_ ⟨atd,trivial⟩ (kg U) ?_
        ·refine⟨hi2,fun j hj=> ?_⟩;rcases Nat.lt_succ_iff_lt_or_eq.1 hj with h3|rfl
         ·exact hall j h3
         ·exact⟨⟨by omega,by omega,hnm⟩,hcl⟩
        ·first|omega|(simp only[];omega)
        ·exact sbt
   ·have hend:i=tags.length:=by have h9: ¬ ((i:Nat):Int)<(tags.length:Nat):=c33;omega
    refine rC tb 2 U (Aq (rX tb 8 U (As U (Ll U) ?_)));rw[grgt_good hel hrg (fun j hj=>hall j qom)];exact⟨_,⟨rfl,rfl⟩,sbt⟩
theorem rend_g {w0:World}{H:List (Nat × Obj)}(n:Nm)(hn:NetM w0 H n)(m:Wm)(hm:WayM w0 H m)(hr:InR n.links m.way.links)(hml:m.way.links.length<=100000):
  FSpec prog w0 48 #[.agg (encNm n).toArray, .agg (encW m).toArray] H (Still (.int .i64 (gd (nodesF n.links m.way) m.way.links.length)) H):=by
 refine Az func48 U ntmps48 U ?_;have hnl:=Co n.links m.way;refine rD tb 2 U (e_ (Lt U cs_) ?_ U);rintro _ _ ⟨n2,rfl,rfl⟩;refine e_ (Lt U cs_) ?_ U;rintro _ _ ⟨n3,rfl,rfl⟩;refine rO tb 5 U (y_ (Lp U isAgg26 sizeOf26 U (by first|exact A2)) ?_ U);refine y_ (Lp U isAgg59 sizeOf59 U (by first|exact A2)) ?_ U;refine e_ (A1 (qe2 U U) call80 (Ir n (hn.mono (by exact sbt)) m (hm.mono (by exact sbt)) hr qom)) ?_ U;rintro _ _ ⟨dN,rfl,hdN,rfl⟩;have hNi:Arr w0 (slH dN ((nodesF n.links m.way).flatMap encI) 3++((n3,Cl (encW m) 59)::(n2,Cl (encNm n) 26)::H)) (slQ dN) 1 encI (nodesF n.links m.way):=A5 (fun _=>rfl) hdN;have hix:(((nodesF n.links m.way).length:Nat):Int) - 1=((m.way.links.length:Nat):Int):=by omega
 have hiy:((((nodesF n.links m.way).length:Nat):Int) - 1).toNat=m.way.links.length:=by omega
 refine rO tb 8 U (y_ (Ed (T U) An qom) ?_ U);refine y_ (Bl (T U) (T U) runUnderlying41 sizeOf3 qom (by first|exact rfl|exact hNi.b (i:=m.way.links.length) qom)) ?_ U;refine y_ (Lo U isAgg3 (by first|exact c_o|exact(show Cell w0 _ _ (.int .i64 (gd (nodesF n.links m.way) m.way.links.length)) from by rw[hiy];exact hNi.f0 (i:=m.way.links.length) qom U))) ?_ U;refine rO tb 4 U (As U (Ll U) ?_);exact⟨_,⟨rfl,rfl⟩,sbt⟩
theorem right8_g {w0:World}{H:List (Nat × Obj)}(n:Nm)(hn:NetM w0 H n)(steps:Int)(q:Option Addr)(c:Nat)(l:List Wm)(hw:WaysM w0 H q l):
  FSpec prog w0 8 #[.agg (encNm n).toArray, .int .i64 steps, .slice q l.length c] H (fun v H'=>(∃ t:Bool,v= .bool t/\(t=true->Rt n steps l 8))/\H'=H):=by
 refine Az func8 U ntmps8 U (rD tb 2 U (e_ (Lt U cs_) ?_ U));rintro _ _ ⟨n3,rfl,rfl⟩;refine rO tb 6 U (y_ (Lp U isAgg26 sizeOf26 U (by first|exact A2)) ?_ U);refine y_ (Bb (.cons (T U) (.cons An (.cons An (.cons An .nil)))) call37 (fun H' hs=>netFew_sT _ _ _ _)) ?_ U
 first|refine A3 (B7 (T U)) U Ac ?_|refine A3 (Cc (T U)) U Ac ?_
 refine rO tb 1 U ?_
 first|refine Bi (s:=12) (Aa U) (fun c12=> ?_) (fun c12=> ?_)|refine B2 (s:=12) (Aa U) (fun c12=> ?_) (fun c12=> ?_)
 ·refine rO tb 19 U (As U (Ll U) ?_);exact⟨_,⟨⟨_,rfl,fun h=>by cases h⟩,rfl⟩,sbt⟩
 ·refine A3 (Lp U isAgg26 sizeOf26 U (by first|exact A2)) U (Ax U U (Aa U)) ?_;refine A9 (A1 (qe1 U) call38 (netCheck_sT n (hn.mono (by exact sbt)))) U (Ax U U (Aa U)) ?_;rintro _ _ ⟨⟨e,rfl,hne⟩,rfl⟩;refine rO tb 3 U ?_
  first|refine Bi (s:=17) (Aa U) (fun c17=> ?_) (fun c17=> ?_)|refine B2 (s:=17) (Aa U) (fun c17=> ?_) (fun c17=> ?_)
  ·refine rO tb 14 U (As U (Ll U) ?_);exact⟨_,⟨⟨_,rfl,fun h=>by cases h⟩,rfl⟩,sbt⟩
  ·refine rO tb 1 U (A9 (A1 (.cons (T U) (.cons An .nil)) call39 (wFew_s q c l (hw.mono (by exact sbt)) 8)) U (Ax U U (Aa U)) ?_);rintro _ _ ⟨⟨tw,rfl,htw⟩,rfl⟩
   first|refine A3 (B7 (T U)) U (Ax U U (Aa U)) ?_|refine A3 (Cc (T U)) U (Ax U U (Aa U)) ?_
   refine rO tb 3 U ?_
   first|refine Ak (Aa U) (fun c21=> ?_) (fun c21=> ?_)|refine Au (Aa U) (fun c21=> ?_) (fun c21=> ?_)
   ·refine rC tb 7 U (As U (Ll U) ?_);exact⟨_,⟨⟨_,rfl,fun h=>by cases h⟩,rfl⟩,sbt⟩
   ·refine rC tb 4 U (y_ (Lp U isAgg26 sizeOf26 U (by first|exact A2)) ?_ U);refine rO tb 2 U (y_ (Bb (qe3 U U U) call40 (fun H' hs=>rCheck_s n (hn.mono (stn hs)) (hne qom) qom steps q c l (hw.mono (stn hs)) (htw (by simpa using c21)).1)) ?_ U);refine rO tb 15 U (As U (Ll U) ?_);exact⟨_,⟨⟨_,rfl,fun h=>⟨by omega,by omega,by omega,(htw (by simpa using c21)).1,(htw (by simpa using c21)).2,hne qom,chkF_ok (of_decide_eq_true h)⟩⟩,rfl⟩,sbt⟩
theorem run_s {w0:World}{H:List (Nat × Obj)}(m:Mc)(hm:McOk w0 H m)(hp:PMok m.pl)(hsr:Srt m.names)(hl:m.names.length<=4611686018427387903)(l:List ByteArray)(q:Option Addr)(c:Nat)(hA:Arr w0 H q 1 encS l)(hlen:l.length<=9223372036854775807):
  FSpec prog w0 77 #[.agg (encMc m).toArray, .slice q l.length c] H (Still (.int .i64 (runM m.pl l:Nat)) H):=by
 refine Az func77 U ntmps77 U (rD tb 2 U (e_ (Lt U cs_) ?_ U));rintro _ _ ⟨n2,rfl,rfl⟩;refine rO tb 17 U ?_;refine Cb (X:=Nat) (V:=fun i=>[(10, .int .i64 (i:Nat)),(5, .int .i64 (runM m.pl (l.take i):Nat))]) (C:=[(2,_),(8,_),(9,_)]) (φ:=fun i=>i<=l.length) (μ:=fun i=>l.length - i) (x0:=0) ?_ (kg U) ⟨(by first|exact Aa U|(refine Ae (Aa U) (vint ?_);omega)|(refine Ae (Aa U) ?_;simp;done)|(refine Ae (Aa U) ?_;exact by rw[hrt])),(by first|exact Aa U|(refine Ae (Aa U) (vint ?_);omega)|(refine Ae (Aa U) ?_;simp;done)|(refine Ae (Aa U) ?_;exact by rw[hrt])),trivial⟩ ?_
 ·exact Nat.zero_le _
 rintro i hi;refine rD tb 6 U ?_
 first|refine Ak (Aa U) (fun c11=> ?_) (fun c11=> ?_)|refine Au (Aa U) (fun c11=> ?_) (fun c11=> ?_)
 ·refine rC tb 6 U (y_ (Lq U U runUnderlying68 sizeOf9 qom (by first|exact rfl|exact hA.b (i:=i) qom)) ?_ U);refine y_ (Lo U isAgg9 (by first|exact c_o|exact(hA.mono (by exact sbt)).f0 (i:=i) qom U)) ?_ U;refine rO tb 4 U (y_ (Lp U isAgg135 sizeOf135 U (by first|exact A2)) ?_ U);refine rO tb 2 U (y_ (Bb (qe3 U U U) call132 (fun H' hs=>after_s m (hm.mono (stn hs)) hp hsr hl _ (by have:=I9 hp (l.take i);rw[show m.pl.next.length=m.rows.length from List.length_map ..] at this;exact this) _)) ?_ U);refine rO tb 5 U (y_ (Bd (T U) An qom) ?_ U);refine rO tb 2 U ?_;have hrt:=runM_take (m:=m.pl) (l:=l) (i:=i) qom;refine A8 (i+1) ?_ ?_ ⟨(by first|exact Aa U|(refine Ae (Aa U) (vint ?_);omega)|(refine Ae (Aa U) ?_;simp;done)|(refine Ae (Aa U) ?_;exact by rw[hrt])),(by first|exact Aa U|(refine Ae (Aa U) (vint ?_);omega)|(refine Ae (Aa U) ?_;simp;done)|(refine Ae (Aa U) ?_;exact by rw[hrt])),trivial⟩ (kg U) ?_
  ·show i+1<=_;omega
  ·first|omega|(simp only[];omega)
  ·exact sbt
 ·refine rC tb 2 U (Aq (rX tb 9 U (As U (Ll U) ?_)));have hi2:i=l.length:=by omega
  rw[hi2,List.take_length];exact⟨_,⟨rfl,rfl⟩,sbt⟩
def lx:List Nat->List Nat->Prop
 |x::a,y::b=>x<y\/(x=y/\lx a b)
 |_,_=>False
theorem lx_trans:∀ {a b c:List Nat},lx a b->lx b c->lx a c
 |[],_,_,h,_=>by cases h
 |_::_,[],_,h,_=>by cases h
 |_::_,_::_,[],_,h=>by cases h
 |x::a,y::b,z::c,h1,h2=>by
  simp only[lx] at h1 h2 ⊢;rcases h1 with h1|⟨h1,h3⟩<;>rcases h2 with h2|⟨h2,h4⟩
  ·left;omega
  ·left;omega
  ·left;omega
  ·right;exact⟨by omega,lx_trans h3 h4⟩
theorem lx_app:∀ {a b:List Nat} (c d:List Nat),lx a b->lx (a++c) (b++d)
 |[],_,_,_,h=>by cases h
 |_::_,[],_,_,h=>by cases h
 |x::a,y::b,c,d,h=>by
  simp only[lx,List.cons_append] at h ⊢;exact h.imp id fun h=>⟨h.1,lx_app c d h.2⟩
theorem lx_last:∀ (a:List Nat) {x y:Nat},x<y->lx (a++[x]) (a++[y])
 |[],x,y,h=> .inl h
 |z::a,x,y,h=> .inr ⟨rfl,lx_last a h⟩
def ltL (a b:List Nat):Prop:=a.length<b.length\/(a.length=b.length/\lx a b)
def leL (a b:List Nat):Prop:=ltL a b\/a=b
theorem ltL_trans {a b c:List Nat}(h1:ltL a b)(h2:ltL b c):ltL a c:=by
 unfold ltL at *;rcases h1 with h1|⟨h1,h3⟩<;>rcases h2 with h2|⟨h2,h4⟩
 ·left;omega
 ·left;omega
 ·left;omega
 ·right;exact⟨by omega,lx_trans h3 h4⟩
theorem leL_trans {a b c:List Nat}(h1:leL a b)(h2:leL b c):leL a c:=by
 rcases h1 with h1|rfl
 ·rcases h2 with h2|rfl
  ·exact .inl (ltL_trans h1 h2)
  ·exact .inl h1
 ·exact h2
theorem leL_len {a b:List Nat}(h:leL a b):a.length<=b.length:=by
 rcases h with (h|⟨h,_⟩)|rfl
 ·omega
 ·omega
 ·exact Nat.le_refl _
theorem Jd {a b:List Nat}(x y:Nat)(h:ltL a b):ltL (a++[x]) (b++[y]):=by
 unfold ltL at *;simp only[List.length_append,List.length_cons,List.length_nil];rcases h with h|⟨h,h2⟩
 ·left;omega
 ·right;exact⟨by omega,lx_app _ _ h2⟩
theorem leL_snoc {a b:List Nat}{x y:Nat}(h:leL a b)(hx:x<=y):leL (a++[x]) (b++[y]):=by
 rcases h with h|rfl
 ·exact .inl (Jd x y h)
 ·rcases Nat.lt_or_ge x y with h1|h1
  ·exact .inl (.inr ⟨by simp,lx_last a h1⟩)
  ·rw[show x=y by omega];exact .inr U
section
variable {σ:Type} [Inhabited σ]
def pth (w:List (Int × σ)) (i:Nat):List σ:=(backF w (i+1) i).reverse
theorem G1 {w:List (Int × σ)}(h:(gd w 0).1= -1):pth w 0=[]:=by
 unfold pth;rw[D1,if_neg qom];rfl
theorem Je {w:List (Int × σ)}(hw:∀ i,i<w.length-> -1<=(gd w i).1/\(gd w i).1<i){i:Nat}(hi:i<w.length)(h0:0<=(gd w i).1):pth w i=pth w (gd w i).1.toNat++[(gd w i).2]:=by
 have h1:=(hw i hi).2;unfold pth;rw[D1,if_pos h0,List.reverse_cons];rw[Gi hw i (gd w i).1.toNat qom qom]
inductive Chn (ts:Pl->List (Pl × σ)) (p:Pl):List σ->Pl->Prop
 |nil:Chn ts p [] p
 |snoc {ls:List σ} {q r:Pl} {s:σ}:Chn ts p ls q->(r,s)∈ts q->Chn ts p (ls++[s]) r
structure BI (ts:Pl->List (Pl × σ)) (rk:σ->Nat) (p0:Pl) (k:Nat) (d:List (Pl × σ)) (st:BS σ):Prop where
 nd:st.l.Nodup
 len:st.w.length=st.l.length
 fst:gd st.l 0=p0/\(gd st.w 0).1= -1/\0<st.l.length
 kl:k<=st.l.length
 edge:∀ i,0<i->i<st.l.length->0<=(gd st.w i).1/\(gd st.w i).1<i/\(gd st.l i,(gd st.w i).2)∈ts (gd st.l (gd st.w i).1.toNat)/\((gd st.w i).1<k\/((gd st.w i).1=k/\(gd st.l i,(gd st.w i).2)∈d))
 mono:∀ i j,0<i->i<j->j<st.l.length->(gd st.w i).1<(gd st.w j).1\/((gd st.w i).1=(gd st.w j).1/\rk (gd st.w i).2<rk (gd st.w j).2)
 done:∀ j,j<k->∀ x∈ts (gd st.l j),∃ i,i<st.l.length/\gd st.l i=x.1/\(i=0\/(gd st.w i).1<j\/((gd st.w i).1=j/\rk (gd st.w i).2<=rk x.2))
 part:∀ x∈d,∃ i,i<st.l.length/\gd st.l i=x.1/\(i=0\/(gd st.w i).1<k\/((gd st.w i).1=k/\rk (gd st.w i).2<=rk x.2))
variable {ts:Pl->List (Pl × σ)} {rk:σ->Nat} {p0:Pl}
theorem BI.start:BI ts rk p0 0 [] ⟨[p0],[(-1,default)]⟩ where
 nd:=by simp
 len:=rfl
 fst:=⟨rfl,rfl,by simp⟩
 kl:=Nat.zero_le _
 edge i h1 h2:=by simp at h2;omega
 mono i j h1 h2 h3:=by simp at h3;omega
 done j hj:=by omega
 part x hx:=by cases hx
theorem BI.back {k:Nat}{d:List (Pl × σ)}{st:BS σ}(h:BI ts rk p0 k d st):∀ i,i<st.w.length-> -1<=(gd st.w i).1/\(gd st.w i).1<i:=fun i hi=>by
 rw[h.len] at hi;rcases Nat.eq_zero_or_pos i with rfl|h0
 ·rw[h.fst.2.1];omega
 ·have:=h.edge i h0 hi;omega
theorem memPl {l:List Pl}{p:Pl}(h:p∈l):∃ i,i<l.length/\gd l i=p:=by
 obtain⟨i,hi,e⟩:=List.getElem_of_mem h;exact⟨i,hi,by rw[Ay hi];exact e⟩
theorem BI.vis {k:Nat}{d rest:List (Pl × σ)}{x:Pl × σ}{st:BS σ}(h:BI ts rk p0 k d st)(hk:k<st.l.length)(ht:ts (gd st.l k)=d++x::rest)(hr:(ts (gd st.l k)).Pairwise fun a b=>rk a.2<rk b.2):BI ts rk p0 k (d++[x]) (visF k st x):=by
 have hlt:∀ y∈d,rk y.2<rk x.2:=fun y hy=>by
  rw[ht] at hr;exact(List.pairwise_append.1 hr).2.2 y hy x (by simp)
 have hxm:x∈ts (gd st.l k):=by rw[ht];simp
 unfold visF
 by_cases hx:x.1∈st.l
 ·rw[if_pos hx];refine⟨h.nd,h.len,h.fst,h.kl,fun i h1 h2=> ?_,h.mono,h.done,fun y hy=> ?_⟩
  ·obtain⟨a,b,c,e⟩:=h.edge i h1 h2;exact⟨a,b,c,e.imp id fun e=>⟨e.1,List.mem_append_left _ e.2⟩⟩
  ·rcases List.mem_append.1 hy with hy|hy
   ·exact h.part y hy
   ·simp only[List.mem_cons,List.not_mem_nil,or_false] at hy;subst hy;obtain⟨i,hi,e⟩:=memPl hx;refine⟨i,hi,e,?_⟩;rcases Nat.eq_zero_or_pos i with h0|h0
    ·exact .inl h0
    ·obtain⟨_,_,_,e2⟩:=h.edge i h0 hi;rcases e2 with e2|e2
     ·exact .inr (.inl e2)
     ·exact .inr (.inr ⟨e2.1,Nat.le_of_lt (hlt _ e2.2)⟩)
 ·rw[if_neg hx];have hln:=h.len;have g1:∀ i,i<st.l.length->gd (st.l++[x.1]) i=gd st.l i:=fun i hi=>Ja hi
  have g2:∀ i,i<st.l.length->gd (st.w++[((k:Int),x.2)]) i=gd st.w i:=fun i hi=>Ja qom
  have g3:gd (st.l++[x.1]) st.l.length=x.1:=gd_app_r;have g4:gd (st.w++[((k:Int),x.2)]) st.l.length=((k:Int),x.2):=by rw[<- hln];exact gd_app_r
  have hp0:=h.fst.2.2;refine⟨?_,by simp[hln],⟨by simp only[];rw[g1 0 hp0];exact h.fst.1,by simp only[];rw[g2 0 hp0];exact h.fst.2.1,by simp⟩,by simp;have:=h.kl;omega,fun i h1 h2=> ?_,fun i j h1 h2 h3=> ?_,fun j hj y hy=> ?_,fun y hy=> ?_⟩
  ·exact List.nodup_append.2 ⟨h.nd,by simp,fun a ha b hb=>by simp at hb;subst hb;rintro rfl;exact hx ha⟩
  ·simp only[] at h2 ⊢;simp only[List.length_append,List.length_cons,List.length_nil] at h2
   by_cases e:i=st.l.length
   ·subst e;rw[g3,g4];simp only[Int.toNat_natCast];rw[g1 k hk];exact⟨by omega,by omega,hxm, .inr ⟨by simp,by simp⟩⟩
   ·have hi:i<st.l.length:=by omega
    obtain⟨a,b,c,e⟩:=h.edge i h1 hi;rw[g1 i hi,g2 i hi,g1 _ qom];exact⟨a,b,c,e.imp id fun e=>⟨e.1,List.mem_append_left _ e.2⟩⟩
  ·simp only[] at h3 ⊢;simp only[List.length_append,List.length_cons,List.length_nil] at h3;have hi:i<st.l.length:=by omega
   rw[g2 i hi]
   by_cases e:j=st.l.length
   ·subst e;rw[g4];obtain⟨a,b,c,e⟩:=h.edge i h1 hi;exact e.imp id fun e=>⟨e.1,hlt _ e.2⟩
   ·rw[g2 j qom];exact h.mono i j h1 h2 qom
  ·simp only[] at hy ⊢;rw[g1 j qom] at hy;obtain⟨i,hi,e1,e2⟩:=h.done j hj y hy;exact⟨i,by simp;omega,by rw[g1 i hi];exact e1,by rw[g2 i hi];exact e2⟩
  ·simp only[];rcases List.mem_append.1 hy with hy|hy
   ·obtain⟨i,hi,e1,e2⟩:=h.part y hy;exact⟨i,by simp;omega,by rw[g1 i hi];exact e1,by rw[g2 i hi];exact e2⟩
   ·simp only[List.mem_cons,List.not_mem_nil,or_false] at hy;subst hy;exact⟨st.l.length,by simp,g3,by rw[g4];exact .inr (.inr ⟨rfl,Nat.le_refl _⟩)⟩
theorem BI.all' {k:Nat}:∀ (rest d:List (Pl × σ)) {st:BS σ},BI ts rk p0 k d st->k<st.l.length->ts (gd st.l k)=d++rest->((ts (gd st.l k)).Pairwise fun a b=>rk a.2<rk b.2)->BI ts rk p0 k (d++rest) (visAll k st rest)
 |[],d,st,h,_,_,_=>by rw[List.append_nil];exact h
 |x::rest,d,st,h,hk,ht,hr=>by
  have h1:=h.vis hk ht hr;have hg:gd (visF k st x).l k=gd st.l k:=visF_get hk;have h2:=BI.all' rest (d++[x]) h1 (by
   unfold visF;split
   ·exact hk
   ·simp;omega) (by rw[hg,ht];simp) (by rw[hg];exact hr)
  rw[List.append_assoc] at h2;exact h2
theorem BI.next {k:Nat}{st:BS σ}(h:BI ts rk p0 k [] st)(hk:k<st.l.length)(hr:(ts (gd st.l k)).Pairwise fun a b=>rk a.2<rk b.2):BI ts rk p0 (k+1) [] (visAll k st (ts (gd st.l k))):=by
 have h1:=h.all' (ts (gd st.l k)) [] hk U hr;obtain⟨hg,hl⟩:=Gh (k:=k) (ts (gd st.l k)) (st:=st) hk;rw[List.nil_append] at h1;refine⟨h1.nd,h1.len,h1.fst,by omega,fun i a b=> ?_,h1.mono,fun j hj x hx=> ?_,fun x hx=>by cases hx⟩
 ·obtain⟨e1,e2,e3,e4⟩:=h1.edge i a b;exact⟨e1,e2,e3, .inl qom⟩
 ·by_cases e:j=k
  ·subst e;rw[hg] at hx;exact h1.part x hx
  ·exact h1.done j qom x hx
theorem BI.chain {k:Nat}{d:List (Pl × σ)}{st:BS σ}(h:BI ts rk p0 k d st):∀ (n i:Nat),i<=n->i<st.l.length->Chn ts p0 (pth st.w i) (gd st.l i)
 |0,i,hn,hi=>by
  rw[show i=0 by omega,G1 h.fst.2.1,h.fst.1];exact .nil
 |n+1,i,hn,hi=>by
  rcases Nat.eq_zero_or_pos i with rfl|h0
  ·rw[G1 h.fst.2.1,h.fst.1];exact .nil
  ·obtain⟨a,b,c,e⟩:=h.edge i h0 hi;rw[Je h.back (by rw[h.len];exact hi) a];exact .snoc (h.chain n (gd st.w i).1.toNat qom qom) c
theorem BI.lt {k:Nat}{d:List (Pl × σ)}{st:BS σ}(h:BI ts rk p0 k d st):∀ (n i j:Nat),j<=n->i<j->j<st.l.length->ltL ((pth st.w i).map rk) ((pth st.w j).map rk)
 |0,i,j,hn,hij,_=>by omega
 |n+1,i,j,hn,hij,hj=>by
  obtain⟨a,b,c,e⟩:=h.edge j qom hj;rw[Je h.back (by rw[h.len];exact hj) a];rcases Nat.eq_zero_or_pos i with rfl|h0
  ·rw[G1 h.fst.2.1];left;simp
  ·obtain⟨a2,b2,c2,e2⟩:=h.edge i h0 qom;rw[Je h.back (by rw[h.len];omega) a2];simp only[List.map_append,List.map_cons,List.map_nil];rcases h.mono i j h0 hij hj with hm|⟨hm,hm2⟩
   ·exact Jd _ _ (h.lt n (gd st.w i).1.toNat (gd st.w j).1.toNat qom qom qom)
   ·rw[hm];exact .inr ⟨by simp,lx_last _ hm2⟩
theorem BI.le {k:Nat}{d:List (Pl × σ)}{st:BS σ}(h:BI ts rk p0 k d st){i j:Nat}(hij:i<=j)(hj:j<st.l.length):leL ((pth st.w i).map rk) ((pth st.w j).map rk):=by
 rcases Nat.lt_or_ge i j with h1|h1
 ·exact .inl (h.lt j i j (Nat.le_refl _) h1 hj)
 ·rw[show i=j by omega];exact .inr U
theorem BI.ways {k:Nat}{st:BS σ}(h:BI ts rk p0 k [] st){ls:List σ}{q:Pl}(hc:Chn ts p0 ls q):(∃ i,i<st.l.length/\gd st.l i=q/\leL ((pth st.w i).map rk) (ls.map rk))\/(∃ i,k<=i/\i<st.l.length/\∃ p:List Nat,p.length<ls.length/\leL ((pth st.w i).map rk) p):=by
 induction hc with
 |nil=>exact .inl ⟨0,h.fst.2.2,h.fst.1,by rw[G1 h.fst.2.1];exact .inr rfl⟩
 | @snoc ls q r s hc hs ih=>
  rcases ih with ⟨j,hj,e,hle⟩|⟨i,h1,h2,p,h3,h4⟩
  ·rcases Nat.lt_or_ge j k with hk|hk
   ·obtain⟨i,hi,e1,e2⟩:=h.done j hk (r,s) (by rw[e];exact hs);refine .inl ⟨i,hi,e1,?_⟩;rcases Nat.eq_zero_or_pos i with rfl|h0
    ·rw[G1 h.fst.2.1];exact .inl (.inl (by simp))
    ·obtain⟨a,b,c,_⟩:=h.edge i h0 hi;rw[Je h.back (by rw[h.len];exact hi) a];simp only[List.map_append,List.map_cons,List.map_nil];rcases e2 with e2|e2|⟨e2,e3⟩
     ·omega
     ·have h5:=h.lt j (gd st.w i).1.toNat j (Nat.le_refl _) qom hj;rcases hle with hle|hle
      ·exact .inl (Jd _ _ (ltL_trans h5 hle))
      ·rw[<- hle];exact .inl (Jd _ _ h5)
     ·rw[e2];exact leL_snoc hle e3
   ·exact .inr ⟨j,hk,hj,ls.map rk,by simp,hle⟩
  ·exact .inr ⟨i,h1,h2,p,by simp;omega,h4⟩
structure GoOk (ts:Pl->List (Pl × σ)) (rk:σ->Nat) (fnd:Pl->Bool) (p0:Pl) (r:Option Nat × BS σ):Prop where
 some':∀ k,r.1=some k->BI ts rk p0 k [] r.2/\k<r.2.l.length/\fnd (gd r.2.l k)=true/\∀ j,j<k->fnd (gd r.2.l j)=false
 none':r.1=none->BI ts rk p0 r.2.l.length [] r.2/\∀ j,j<r.2.l.length->fnd (gd r.2.l j)=false
theorem goF_sem {Pd:Pl->Prop}(hts:∀ p,Pd p->∀ x∈ts p,Pd x.1)(hr:∀ p,Pd p->(ts p).Pairwise fun a b=>rk a.2<rk b.2){N:Nat}(hN:∀ l:List Pl,l.Nodup->(∀ p∈l,Pd p)->l.length<=N){fnd:Pl->Bool}:∀ (f k:Nat) (st:BS σ),BI ts rk p0 k [] st->BSok Pd k st->(∀ j,j<k->fnd (gd st.l j)=false)->N<f+k->GoOk ts rk fnd p0 (goF ts fnd f k st)
 |0,k,st,h,hb,_,hf=>by
  have:=hN st.l h.nd hb.ok;have:=h.kl;omega
 |f+1,k,st,h,hb,hn,hf=>by
  rw[G0]
  split
  ·rename_i hk;have hpd:=hb.ok _ (Ao hk)
   split
   ·rename_i hfn;exact⟨(fun k' e=>by cases e;exact⟨h,hk,hfn,hn⟩),(fun e=>by cases e)⟩
   ·rename_i hfn;obtain⟨hb1,hb2⟩:=hb.visAll (k':=k) (ts (gd st.l k)) hk (hts _ hpd);obtain⟨hg,hl⟩:=Gh (k:=k) (ts (gd st.l k)) (st:=st) hk;refine goF_sem hts hr hN f (k+1) _ (h.next hk (hr _ hpd)) ⟨hb1.nd,hb1.ok,hb1.len,hb1.back,by omega⟩ (fun j hj=> ?_) qom
    by_cases e:j=k
    ·subst e;rw[hg];simpa using hfn
    ·rw[(Gh (k:=k) (ts (gd st.l k)) (st:=st) (show j<st.l.length by omega)).1];exact hn j qom
  ·rename_i hk;have:k=st.l.length:=by have:=h.kl;omega
   subst this;exact⟨(fun k' e=>by cases e),fun _=>⟨h,hn⟩⟩
theorem goF_sem0 {Pd:Pl->Prop}(hts:∀ p,Pd p->∀ x∈ts p,Pd x.1)(hr:∀ p,Pd p->(ts p).Pairwise fun a b=>rk a.2<rk b.2){N:Nat}(hN:∀ l:List Pl,l.Nodup->(∀ p∈l,Pd p)->l.length<=N)(fnd:Pl->Bool)(hp:Pd p0):GoOk ts rk fnd p0 (goF ts fnd (N+1) 0 ⟨[p0],[(-1,default)]⟩):=
 goF_sem hts hr hN (N+1) 0 _ .start ⟨by simp,by simpa using hp,rfl,(fun i hi=>by
  simp at hi;subst hi;show -1<=(-1:Int)/\(-1:Int)<((0:Nat):Int);omega),Nat.zero_le _⟩ (fun j hj=>by omega) qom
theorem srF_yes {Pd:Pl->Prop}(hts:∀ p,Pd p->∀ x∈ts p,Pd x.1)(hr:∀ p,Pd p->(ts p).Pairwise fun a b=>rk a.2<rk b.2){N:Nat}(hN:∀ l:List Pl,l.Nodup->(∀ p∈l,Pd p)->l.length<=N)(fnd:Pl->Bool)(hp:Pd p0)(h:(srF ts fnd N p0).2.1=true):
  (∃ q,Chn ts p0 (srF ts fnd N p0).1 q/\fnd q=true)/\∀ ls q,Chn ts p0 ls q->fnd q=true->leL ((srF ts fnd N p0).1.map rk) (ls.map rk):=by
 have hg:=goF_sem0 (rk:=rk) hts hr hN fnd hp;unfold srF at *
 generalize goF ts fnd (N+1) 0 ⟨[p0],[(-1,default)]⟩=r at *;obtain⟨k,st⟩:=r;cases k with
 |none=>cases h
 |some k=>
  obtain⟨h1,h2,h3,h4⟩:=hg.some' k rfl;simp only[] at *;refine⟨⟨_,h1.chain k k (Nat.le_refl _) h2,h3⟩,fun ls q hc hq=> ?_⟩;rcases h1.ways hc with ⟨i,hi,e,hle⟩|⟨i,hi1,hi2,p,hp1,hp2⟩
  ·rcases Nat.lt_or_ge i k with hik|hik
   ·have:=h4 i hik;rw[e,hq] at this;cases this
   ·exact leL_trans (h1.le hik hi) hle
  ·have h5:=leL_len (leL_trans (h1.le hi1 hi2) hp2)
   left;left;have:(pth st.w k).length=(backF st.w (k+1) k).reverse.length:=rfl;simp only[List.length_map] at h5 ⊢;unfold pth at h5;omega
end
theorem snoc_ind {α:Type}{Q:List α->Prop}(h0:Q [])(h1:∀ l a,Q l->Q (l++[a]))(l:List α):Q l:=by
 have h:∀ r:List α,Q r.reverse:=fun r=>by
  induction r with
  |nil=>exact h0
  |cons a r ih=>rw[List.reverse_cons];exact h1 _ a ih
 have:=h l.reverse
 rwa [List.reverse_reverse] at this
def lnOf (l:Lnk):Ln:=⟨l.src.toNat,l.dst.toNat,l.cap⟩
def nnOf (n:Nm):Nn:=⟨n.nodes,n.links.map lnOf,n.edges,n.qn,n.cn,n.ql,n.cl,n.qe,n.ce⟩
theorem nn_enc (n:Nm):encNn (nnOf n)=encNm n:=by simp[nnOf]
theorem nn_net {w0:World}{H:List (Nat × Obj)}{n:Nm}(h:NetM w0 H n)(hok:NetOk n):NetR w0 H (nnOf n):=by
 refine⟨h.nodes,fun i x hi=> ?_⟩;have hi':(n.links.map lnOf)[i]? =some x:=hi;rw[List.getElem?_map] at hi';obtain⟨l,h1,rfl⟩:=Option.map_eq_some_iff.1 hi';have hlt:=(List.getElem?_eq_some_iff.1 h1).1;have hg:gd n.links i=l:=by rw[Ay hlt];exact(List.getElem?_eq_some_iff.1 h1).2
 have h2:=hok.links i hlt;rw[hg] at h2;have h3:=h2.s0;have h4:=h2.d0;have e:encLn (lnOf l)=encL l:=by
  simp only[encLn,encL,lnOf];rw[show ((l.src.toNat:Nat):Int)=l.src by omega,show ((l.dst.toNat:Nat):Int)=l.dst by omega]
 have h5:=h.links i l h1;rw[<- e] at h5;exact h5
theorem gd_lnOf (n:Nm){i:Nat}(h:i<n.links.length):gd (nnOf n).links i=lnOf (gd n.links i):=Cr h
theorem mem_moves {n:Nn}{f:Flr}{m:PM}{p:Pl}{r:Pl}{l:Nat}:(r,l)∈movesF n f m p↔(l<n.links.length/\(gd n.links l).src=p.1)/\upF n f l=true/\r=((gd n.links l).dst,afterF m p.2 (nmF n (gd n.links l).dst)):=by
 unfold movesF outF mvF;simp only[List.mem_map,List.mem_filter,Gz,Prod.mk.injEq]
 constructor
 ·rintro⟨l',⟨h1,h2⟩,h3,rfl⟩;exact⟨h1,h2,h3.symm⟩
 ·rintro⟨h1,h2,h3⟩;exact⟨l,⟨h1,h2⟩,h3.symm,rfl⟩
theorem outK_pw (n:Nn)(node:Nat):∀ i,(outK n node i).Pairwise (· < ·)
 |0=> .nil
 |i+1=>by
  rw[Fz];split
  ·exact List.pairwise_append.2 ⟨outK_pw n node i,List.pairwise_singleton ..,fun a ha b hb=>by
    simp at hb;subst hb;exact((Gz n node a b).1 ha).1⟩
  ·exact outK_pw n node i
theorem moves_pw (n:Nn)(f:Flr)(m:PM)(p:Pl):(movesF n f m p).Pairwise fun a b=>id a.2<id b.2:=by
 unfold movesF mvF;rw[List.pairwise_map];exact((outK_pw n p.1 n.links.length).filter _)
abbrev toInts (l:List Nat):List Int:=l.map fun k:Nat=>(k:Int)
theorem wkF_snoc_some {n:Nn}{x:Int}{ls:List Int}{l y:Int}:wkF n x (ls++[l])=some y↔∃ z,wkF n x ls=some z/\(0<=l/\l<n.links.length/\((gd n.links l.toNat).src:Int)=z)/\((gd n.links l.toNat).dst:Int)=y:=by
 rw[wkF_snoc];cases h:wkF n x ls with
 |none=>simp
 |some z=>
  simp only[Option.bind_some,Option.some.injEq,exists_eq_left']
  split
  ·rename_i h2;simp[h2]
  ·rename_i h2;simp[h2]
theorem namesF_snoc (n:Nn)(x:Nat)(ls:List Int)(l:Int):namesF n x (ls++[l])=namesF n x ls++[nmF n (gd n.links l.toNat).dst]:=by simp[namesF]
theorem runM_snoc (m:PM)(ls:List ByteArray)(s:ByteArray):runM m (ls++[s])=afterF m (runM m ls) s:=by simp[runM]
theorem upAll_snoc (n:Nn)(f:Flr)(ls:List Int)(l:Int):upAll n f (ls++[l])=(upAll n f ls&&upF n f l.toNat):=by simp[upAll]
theorem chn_of {n:Nn}{f:Flr}{m:PM}{x:Nat}:∀ {ls:List Int} {y:Int},wkF n x ls=some y->upAll n f ls=true->Chn (movesF n f m) (p0F n m x) (ls.map Int.toNat) (y.toNat,runM m (namesF n x ls)):=by
 intro ls
 induction ls using snoc_ind with
 |h0=>
  intro y h _;simp only[wkF,Option.some.injEq] at h;subst h;exact .nil
 |h1 ls l ih=>
  intro y h hu;obtain⟨z,h1,⟨h2,h3,h4⟩,h5⟩:=wkF_snoc_some.1 h;rw[upAll_snoc,Bool.and_eq_true] at hu;rw[List.map_append,namesF_snoc,runM_snoc];refine .snoc (ih h1 hu.1) (mem_moves.2 ⟨⟨by omega,by simp only[];omega⟩,hu.2,?_⟩);rw[<- h5,Int.toNat_natCast]
theorem of_chn {n:Nn}{f:Flr}{m:PM}{x:Nat}{ls:List Nat}{q:Pl}(h:Chn (movesF n f m) (p0F n m x) ls q):wkF n x (toInts ls)=some (q.1:Int)/\upAll n f (toInts ls)=true/\q.2=runM m (namesF n x (toInts ls)):=by
 induction h with
 |nil=>exact⟨rfl,rfl,rfl⟩
 | @snoc ls q r l hc hm ih=>
  obtain⟨h1,h2,h3⟩:=ih;obtain⟨⟨h4,h5⟩,h6,h7⟩:=mem_moves.1 hm;subst h7;rw[toInts,List.map_append,List.map_cons,List.map_nil];refine⟨wkF_snoc_some.2 ⟨_,h1,⟨by omega,by omega,by rw[Int.toNat_natCast];omega⟩,by rw[Int.toNat_natCast]⟩,?_,?_⟩
  ·rw[upAll_snoc,Int.toNat_natCast,h6];simpa using h2
  ·rw[namesF_snoc,runM_snoc,Int.toNat_natCast,<- h3]
theorem moves_okE {n:Nn}(hok:NnOk n){f:Flr}{m:PM}(hp:PMok m):∀ p,PlOk n m p->∀ x∈movesF n f m p,PlOk n m x.1:=fun p h=>moves_ok hok hp p h
theorem find_two (n:Nn)(f:Flr)(m:PM)(x to:Nat):(findF n f m x to).2=0\/(findF n f m x to).2=18:=by
 unfold findF;split
 ·exact .inr U
 ·split
  ·exact .inl U
  ·exact .inr U
def swF (s k:Nat):Nat:=if k=0 then s else if k=s then 0 else k
theorem Lb (s k:Nat):swF s (swF s k)=k:=by unfold swF;split<;>split<;>(try split)<;>omega
theorem Kr {s k N:Nat}(hs:s<N)(hk:k<N):swF s k<N:=by unfold swF;split<;>(try split)<;>omega
def swapM (m:PM) (s:Nat):PM:=⟨m.names,(List.range m.next.length).map fun k=>(gd m.next (swF s k)).map (swF s),(List.range m.next.length).map fun k=>gd m.acc (swF s k)⟩
theorem swap_ok {m:PM}(h:PMok m){s:Nat}(hs:s<m.next.length):PMok (swapM m s) where
 some':=by unfold swapM;simpa using h.some'
 few:=by unfold swapM;simpa using h.few
 acc:=by unfold swapM;simp
 row:=by
  unfold swapM;intro r hr;obtain⟨k,hk,rfl⟩:=List.mem_map.1 hr;have hk:=List.mem_range.1 hk;obtain⟨h1,h2⟩:=h.row _ (Ao (Kr hs hk));refine⟨by rw[List.length_map];exact h1,fun x hx=> ?_⟩;obtain⟨y,hy,rfl⟩:=List.mem_map.1 hx;show swF s y<_;rw[List.length_map,List.length_range];exact Kr hs (h2 y hy)
def swR (m:PM) (s i j:Nat):List (List Nat):=(List.range m.next.length).map fun k=>if swF s k<i then (gd m.next (swF s k)).map (swF s) else if swF s k=i then ((gd m.next i).take j).map (swF s) else []
def swA (m:PM) (s i:Nat):List Bool:=(List.range m.next.length).map fun k=>if swF s k<i then gd m.acc (swF s k) else false
theorem swR_zero (m:PM)(s:Nat):swR m s 0 0=List.replicate m.next.length []:=by
 unfold swR;refine List.ext_getElem (by simp) fun k h1 h2=> ?_
 simp
theorem swA_zero (m:PM)(s:Nat):swA m s 0=List.replicate m.next.length false:=by
 unfold swA;refine List.ext_getElem (by simp) fun k h1 h2=> ?_
 simp
theorem swR_end {m:PM}{s:Nat}(hs:s<m.next.length):swR m s m.next.length 0=(swapM m s).next:=by
 unfold swR swapM;refine List.map_congr_left fun k hk=> ?_
 rw[if_pos (Kr hs (List.mem_range.1 hk))]
theorem swA_end {m:PM}{s:Nat}(hs:s<m.next.length):swA m s m.next.length=(swapM m s).acc:=by
 unfold swA swapM;refine List.map_congr_left fun k hk=> ?_
 rw[if_pos (Kr hs (List.mem_range.1 hk))]
theorem swR_row {m:PM}{s i:Nat}:swR m s i (gd m.next i).length=swR m s (i+1) 0:=by
 unfold swR;refine List.map_congr_left fun k hk=> ?_
 by_cases h1:swF s k<i
 ·rw[if_pos h1,if_pos qom]
 ·rw[if_neg h1]
  by_cases h2:swF s k=i
  ·rw[if_pos h2,if_pos qom,List.take_length,h2]
  ·rw[if_neg h2,if_neg qom]
   split<;>simp
theorem swA_set {m:PM}{s i:Nat}(hi:i<m.next.length)(hs:s<m.next.length):(swA m s i).set (swF s i) (gd m.acc i)=swA m s (i+1):=by
 unfold swA;refine List.ext_getElem (by simp) fun k h1 h2=> ?_
 rw[List.getElem_set];simp only[List.getElem_map,List.getElem_range]
 by_cases e:swF s i=k
 ·subst e;rw[if_pos U,Lb,if_pos qom]
 ·rw[if_neg e];have e2:swF s k≠i:=fun h=>e (by rw[<- h,Lb])
  by_cases h3:swF s k<i
  ·rw[if_pos h3,if_pos qom]
  ·rw[if_neg h3,if_neg qom]
theorem swR_get {m:PM}{s i j:Nat}(hi:i<m.next.length)(hs:s<m.next.length):gd (swR m s i j) (swF s i)=((gd m.next i).take j).map (swF s):=by
 unfold swR;rw[Ay (by simpa using Kr hs hi)];simp only[List.getElem_map,List.getElem_range];rw[Lb,if_neg qom,if_pos rfl]
theorem swR_set {m:PM}{s i j:Nat}(hi:i<m.next.length)(hj:j<(gd m.next i).length)(hs:s<m.next.length):
  (swR m s i j).set (swF s i) (gd (swR m s i j) (swF s i)++[swF s (gd (gd m.next i) j)])=swR m s i (j+1):=by
 rw[swR_get hi hs];unfold swR;refine List.ext_getElem (by simp) fun k h1 h2=> ?_
 rw[List.getElem_set];simp only[List.getElem_map,List.getElem_range]
 by_cases e:swF s i=k
 ·subst e;rw[if_pos U,Lb,if_neg qom,if_pos U,C6 hj,List.map_append,List.map_singleton]
 ·rw[if_neg e];have e2:swF s k≠i:=fun h=>e (by rw[<- h,Lb])
  rw[if_neg e2,if_neg e2]
theorem sw_0 {s k:Nat}(h:k=0):swF s k=s:=if_pos h
theorem sw_s {s k:Nat}(h0: ¬ k=0)(h:k=s):swF s k=0:=by unfold swF;rw[if_neg h0,if_pos h]
theorem sw_k {s k:Nat}(h0: ¬ k=0)(h: ¬ k=s):swF s k=k:=by unfold swF;rw[if_neg h0,if_neg h]
theorem K5 {w0:World}{H:List (Nat × Obj)}(s k b:Nat)(hf:Fnd H b (Cl [.int .i64 (s:Nat)] 3)):
  FSpec prog w0 131 #[.int .i64 (k:Nat),Pt b 0] H (Still (.int .i64 (swF s k:Nat)) H):=by
 refine Az func131 U ntmps131 U (rD tb 18 U ?_)
 first|refine Ak (Aa U) (fun c5=> ?_) (fun c5=> ?_)|refine Au (Aa U) (fun c5=> ?_) (fun c5=> ?_)
 ·refine rC tb 2 U (y_ (Lo U isAgg3 (by first|exact c_o|exact B6 (Fnd.mono hf (by exact sbt)) U)) ?_ U);refine rO tb 6 U (As U (Ll U) ?_);exact⟨_,⟨by first|rw[sw_0 qom];rfl|rw[sw_s qom qom];rfl|rw[sw_k qom qom];rfl,rfl⟩,sbt⟩
 ·refine rC tb 2 U (y_ (Lo U isAgg3 (by first|exact c_o|exact B6 (Fnd.mono hf (by exact sbt)) U)) ?_ U);refine rO tb 4 U ?_
  first|refine Ak (Aa U) (fun c8=> ?_) (fun c8=> ?_)|refine Au (Aa U) (fun c8=> ?_) (fun c8=> ?_)
  ·refine rC tb 8 U (As U (Ll U) ?_);exact⟨_,⟨by first|rw[sw_0 qom];rfl|rw[sw_s qom qom];rfl|rw[sw_k qom qom];rfl,rfl⟩,sbt⟩
  ·refine rC tb 10 U (As U (Ll U) ?_);exact⟨_,⟨by first|rw[sw_0 qom];rfl|rw[sw_s qom qom];rfl|rw[sw_k qom qom];rfl,rfl⟩,sbt⟩
theorem Dq (a0:Option Addr)(a0n a0c:Nat)(a1:Option Addr)(a1n a1c:Nat)(a2:Option Addr)(a2n a2c:Nat)(w:World):(Instr.build 135 #[(0, .slice a0 a0n a0c),(1, .slice a1 a1n a1c),(2, .slice a2 a2n a2c)]).run prog w= .ok (.agg #[.slice a0 a0n a0c, .slice a1 a1n a1c, .slice a2 a2n a2c]) w:=by kernel_rfl
def rowsM (rs:List Row):List (Nat × Obj):=rs.flatMap fun r=>slH r.d (r.l.flatMap encU) 3
theorem rep_row (N:Nat):List.replicate N (Value.slice none 0 0)=(List.replicate N (⟨.nil,[]⟩:Row)).flatMap encRow++[]:=by
 induction N with
 |zero=>rfl
 |succ N ih=>rw[List.replicate_succ,List.replicate_succ,ih];simp[slQ,slC]
theorem rowsM_rep (N:Nat):rowsM (List.replicate N (⟨.nil,[]⟩:Row))=[]:=by
 induction N with
 |zero=>rfl
 |succ N ih=>rw[List.replicate_succ];unfold rowsM at *;rw[List.flatMap_cons,ih];rfl
theorem rowsM_split {rs:List Row}{i:Nat}(h:i<rs.length):rowsM rs=rowsM (rs.take i)++(slH (gd rs i).d ((gd rs i).l.flatMap encU) 3++rowsM (rs.drop (i+1))):=by
 have e:rs=rs.take i++gd rs i::rs.drop (i+1):=by
  rw[Ay h,<- List.drop_eq_getElem_cons h,List.take_append_drop]
 conv=>lhs;rw[e]
 unfold rowsM;rw[List.flatMap_append,List.flatMap_cons]
theorem rowsM_set {rs:List Row}{i:Nat}(h:i<rs.length)(r:Row):rowsM (rs.set i r)=rowsM (rs.take i)++(slH r.d (r.l.flatMap encU) 3++rowsM (rs.drop (i+1))):=by
 rw[List.set_eq_take_append_cons_drop,if_pos h];unfold rowsM;rw[List.flatMap_append,List.flatMap_cons]
theorem locRow {rs:List Row}{i:Nat}(h:i<rs.length)(X:List (Nat × Obj)):LocL (rowsM rs++X) (slH (gd rs i).d ((gd rs i).l.flatMap encU) 3) (rowsM (rs.take i)++(rowsM (rs.drop (i+1))++X)) (fun M'=>rowsM (rs.take i)++(M'++(rowsM (rs.drop (i+1))++X))):=by
 rw[rowsM_split h,List.append_assoc,List.append_assoc];exact .a .h
theorem rowsM_sub {rs:List Row}{r:Row}(h:r∈rs):(slH r.d (r.l.flatMap encU) 3).Sublist (rowsM rs):=by
 induction rs with
 |nil=>cases h
 |cons a rs ih=>
  unfold rowsM at *;rw[List.flatMap_cons];rcases List.mem_cons.1 h with rfl|h
  ·exact List.sublist_append_left _ _
  ·exact(ih h).trans (List.sublist_append_right _ _)
def toQ (r:Row):RowQ:=⟨slQ r.d,slC r.d,r.l⟩
theorem arrQ {w0:World}{H:List (Nat × Obj)}{q:Option Addr}{rs:List Row}(h:Arr w0 H q 1 encRow rs):Arr w0 H q 1 encRQ (rs.map toQ):=fun i x hi=>by
 rw[List.getElem?_map] at hi;obtain⟨r,h1,rfl⟩:=Option.map_eq_some_iff.1 hi;exact h i r h1
theorem rep_b1 (N:Nat):List.replicate N (Value.bool false)=(List.replicate N false).flatMap encB1++[]:=by
 induction N with
 |zero=>rfl
 |succ N ih=>rw[List.replicate_succ,List.replicate_succ,ih];rfl
theorem swR_len (m:PM)(s i j:Nat):(swR m s i j).length=m.next.length:=by simp[swR]
theorem Hp (m:PM)(s i:Nat):(swA m s i).length=m.next.length:=by simp[swA]
theorem sw_map {m:PM}{s i j:Nat}{rs:List Row}{d:Sl}(h:rs.map Row.l=swR m s i j)(hi:i<m.next.length)(hj:j<(gd m.next i).length)(hs:s<m.next.length):
  (rs.set (swF s i) ⟨d,(gd rs (swF s i)).l++[swF s (gd (gd m.next i) j)]⟩).map Row.l=swR m s i (j+1):=by
 have hl:rs.length=m.next.length:=by have:=congrArg List.length h;rwa [List.length_map,swR_len] at this
 have e:(gd rs (swF s i)).l=gd (swR m s i j) (swF s i):=by rw[<- h,Cr (by rw[hl];exact Kr hs hi)]
 rw[List.map_set,h,e];exact swR_set hi hj hs
theorem from_g {w0:World}{H:List (Nat × Obj)}(m:Mc)(hm:McOk w0 H m)(hp:PMok m.pl)(hnl:m.names.length<=1000)(s:Nat)(hss:s<m.pl.next.length):
    FSpec prog w0 76 #[.agg (encMc m).toArray, .int .i64 (s:Nat)] H (fun v H'=>∃ (mc:Mc) (M:List (Nat × Obj)),(v= .agg (encMc mc).toArray/\(∀ X,McOk w0 X m->McOk w0 (M++X) mc)/\mc.pl=swapM m.pl s)/\H'=M++H):=by
  refine Az func76 U ntmps76 U ?_;have hrl:m.pl.next.length=m.rows.length:=List.length_map ..;have hfew:=hp.few;have hac:m.acc.length=m.rows.length:=hp.acc.trans hrl;refine rD tb 2 U (e_ (Lt U cs_) ?_ U);rintro _ _ ⟨n2,rfl,rfl⟩;refine e_ (Lt U cs_) ?_ U;rintro _ _ ⟨n3,rfl,rfl⟩;refine e_ (Ap zeroValue135 cs_) ?_ U;rintro _ _ ⟨n4,rfl,rfl⟩;refine rO tb 4 U (y_ (Cg (.cons (T U) .nil)) (rO tb 3 U ?_) U);refine Fp (X:=Nat × Nat × Nat) (V:=fun ⟨b6,b17,b21⟩=>[(6,Pt b6 0)]) (C:=[(2,_),(4,_),(5,_)]) (G:=fun ⟨b6,b17,b21⟩=>(b6,Cl [.slice m.q1 m.names.length m.c1, .slice (some ⟨b17,0,none⟩) m.rows.length m.rows.length, .slice (some ⟨b21,0,none⟩) m.rows.length m.rows.length] 135)::(b17,Cl (List.replicate m.rows.length (.slice none 0 0)) 41)::(b21,Cl (List.replicate m.rows.length (.bool false)) 4)::((n4,Cl [.slice none 0 0, .slice none 0 0, .slice none 0 0] 135)::(n3,Cl [.int .i64 (s:Nat)] 3)::(n2,Cl (encMc m) 135)::H)) (φ:=fun ⟨b6,b17,b21⟩=>True) (kg U) ?_ ?_
  · refine rD tb 0 U (Gs 12 _ mixd qkr sb0 ?_ By);refine x_y (i:=0) U qkr (Cj (T U) fa135_0) ?_ U Ac;refine x_y (i:=1) U qkr (Lo U isAgg68 (by first|exact c_o)) ?_ U Ac;refine x_y (i:=2) U qkr (Bt (T U) fa135_1) ?_ U Ac;refine x_y (i:=3) U qkr (Lo U isAgg80 (by first|exact c_o)) ?_ U Ac;refine x_y (i:=4) U qkr (Cd (T U) runUnderlying80) ?_ U Ac;refine x_y (i:=6) U qkr (Bt (T U) fa135_1) ?_ U Ac;refine x_y (i:=7) U qkr (Lo U isAgg80 (by first|exact c_o)) ?_ U Ac;refine x_y (i:=8) U qkr (Cd (T U) runUnderlying80) ?_ U Ac;refine Il (i:=5) (j:=9) (k:=11) qkr qkr ?_ ?_ ?_
    · refine Ca U (Cp (by':=24) (k:=m.rows.length) (T U) runUnderlying80 sizeOf41 typeInfo41 U zeroValue41 U qom qom) ?_ U Ac;rintro _ _ ⟨n17,rfl,rfl⟩;refine⟨sbt,?_⟩;refine Dh (i:=9) (j:=11) qkr qkr ?_ ?_
      · refine Ca U (Cp (by':=1) (k:=m.rows.length) (T U) runUnderlying133 sizeOf4 typeInfo4 U zeroValue4 U qom qom) ?_ U Ac;rintro _ _ ⟨n21,rfl,rfl⟩;refine⟨sbt,(x_y (i:=10) U qkr (Bg (.cons (T U) (.cons (T U) (.cons (T U) .nil))) (Dq _ _ _ _ _ _ _ _ _)) ?_ U Ac)⟩;refine Cn (i:=11) qkr qkr ?_;refine Ca U (Ap zeroValue135 cs_) ?_ U Ac;rintro _ _ ⟨n6,rfl,rfl⟩;refine⟨sbt,(Cv qkr U ?_)⟩
        first|refine A9 (Ls U U sizeOf135) U Ac ?_
        rintro _ _ ⟨rfl,rfl⟩;refine rO tb 1 U ?_
        first|(refine Be ((n6,n17,n21)) ?_ ⟨atd,trivial⟩ (kg U) (List.Sublist.refl _))|(refine Bn (List.Perm.swap _ _ _) ?_;refine Be ((n6,n17,n21)) ?_ ⟨atd,trivial⟩ (kg U) (List.Sublist.refl _))|(refine Bn (List.Perm.cons _ (List.Perm.swap _ _ _)) ?_;refine Be ((n6,n17,n21)) ?_ ⟨atd,trivial⟩ (kg U) (List.Sublist.refl _))|(refine Bn ((List.Perm.swap _ _ _).trans (List.Perm.cons _ (List.Perm.swap _ _ _))) ?_;refine Be ((n6,n17,n21)) ?_ ⟨atd,trivial⟩ (kg U) (List.Sublist.refl _))|(refine Bn ((List.Perm.cons _ (List.Perm.swap _ _ _)).trans (List.Perm.swap _ _ _)) ?_;refine Be ((n6,n17,n21)) ?_ ⟨atd,trivial⟩ (kg U) (List.Sublist.refl _))|(refine Bn ((List.Perm.swap _ _ _).trans ((List.Perm.cons _ (List.Perm.swap _ _ _)).trans (List.Perm.swap _ _ _))) ?_;refine Be ((n6,n17,n21)) ?_ ⟨atd,trivial⟩ (kg U) (List.Sublist.refl _))
        trivial
      · refine Ca U (Ap zeroValue135 cs_) ?_ U Ac;rintro _ _ ⟨n6,rfl,rfl⟩;refine⟨sbt,(Cn (i:=9) qkr qkr ?_)⟩;refine Ca U (Cp (by':=1) (k:=m.rows.length) (T U) runUnderlying133 sizeOf4 typeInfo4 U zeroValue4 U qom qom) ?_ U Ac;rintro _ _ ⟨n21,rfl,rfl⟩;refine⟨sbt,(x_y (i:=10) U qkr (Bg (.cons (T U) (.cons (T U) (.cons (T U) .nil))) (Dq _ _ _ _ _ _ _ _ _)) ?_ U Ac)⟩;refine Cv qkr U ?_
        first|refine A9 (Ls U U sizeOf135) U Ac ?_
        rintro _ _ ⟨rfl,rfl⟩;refine rO tb 1 U ?_
        first|(refine Be ((n6,n17,n21)) ?_ ⟨atd,trivial⟩ (kg U) (List.Sublist.refl _))|(refine Bn (List.Perm.swap _ _ _) ?_;refine Be ((n6,n17,n21)) ?_ ⟨atd,trivial⟩ (kg U) (List.Sublist.refl _))|(refine Bn (List.Perm.cons _ (List.Perm.swap _ _ _)) ?_;refine Be ((n6,n17,n21)) ?_ ⟨atd,trivial⟩ (kg U) (List.Sublist.refl _))|(refine Bn ((List.Perm.swap _ _ _).trans (List.Perm.cons _ (List.Perm.swap _ _ _))) ?_;refine Be ((n6,n17,n21)) ?_ ⟨atd,trivial⟩ (kg U) (List.Sublist.refl _))|(refine Bn ((List.Perm.cons _ (List.Perm.swap _ _ _)).trans (List.Perm.swap _ _ _)) ?_;refine Be ((n6,n17,n21)) ?_ ⟨atd,trivial⟩ (kg U) (List.Sublist.refl _))|(refine Bn ((List.Perm.swap _ _ _).trans ((List.Perm.cons _ (List.Perm.swap _ _ _)).trans (List.Perm.swap _ _ _))) ?_;refine Be ((n6,n17,n21)) ?_ ⟨atd,trivial⟩ (kg U) (List.Sublist.refl _))
        trivial
    · refine Ca U (Cp (by':=1) (k:=m.rows.length) (T U) runUnderlying133 sizeOf4 typeInfo4 U zeroValue4 U qom qom) ?_ U Ac;rintro _ _ ⟨n21,rfl,rfl⟩;refine⟨sbt,?_⟩;refine Dh (i:=5) (j:=11) qkr qkr ?_ ?_
      · refine Ca U (Cp (by':=24) (k:=m.rows.length) (T U) runUnderlying80 sizeOf41 typeInfo41 U zeroValue41 U qom qom) ?_ U Ac;rintro _ _ ⟨n17,rfl,rfl⟩;refine⟨sbt,(x_y (i:=10) U qkr (Bg (.cons (T U) (.cons (T U) (.cons (T U) .nil))) (Dq _ _ _ _ _ _ _ _ _)) ?_ U Ac)⟩;refine Cn (i:=11) qkr qkr ?_;refine Ca U (Ap zeroValue135 cs_) ?_ U Ac;rintro _ _ ⟨n6,rfl,rfl⟩;refine⟨sbt,(Cv qkr U ?_)⟩
        first|refine A9 (Ls U U sizeOf135) U Ac ?_
        rintro _ _ ⟨rfl,rfl⟩;refine rO tb 1 U ?_
        first|(refine Be ((n6,n17,n21)) ?_ ⟨atd,trivial⟩ (kg U) (List.Sublist.refl _))|(refine Bn (List.Perm.swap _ _ _) ?_;refine Be ((n6,n17,n21)) ?_ ⟨atd,trivial⟩ (kg U) (List.Sublist.refl _))|(refine Bn (List.Perm.cons _ (List.Perm.swap _ _ _)) ?_;refine Be ((n6,n17,n21)) ?_ ⟨atd,trivial⟩ (kg U) (List.Sublist.refl _))|(refine Bn ((List.Perm.swap _ _ _).trans (List.Perm.cons _ (List.Perm.swap _ _ _))) ?_;refine Be ((n6,n17,n21)) ?_ ⟨atd,trivial⟩ (kg U) (List.Sublist.refl _))|(refine Bn ((List.Perm.cons _ (List.Perm.swap _ _ _)).trans (List.Perm.swap _ _ _)) ?_;refine Be ((n6,n17,n21)) ?_ ⟨atd,trivial⟩ (kg U) (List.Sublist.refl _))|(refine Bn ((List.Perm.swap _ _ _).trans ((List.Perm.cons _ (List.Perm.swap _ _ _)).trans (List.Perm.swap _ _ _))) ?_;refine Be ((n6,n17,n21)) ?_ ⟨atd,trivial⟩ (kg U) (List.Sublist.refl _))
        trivial
      · refine Ca U (Ap zeroValue135 cs_) ?_ U Ac;rintro _ _ ⟨n6,rfl,rfl⟩;refine⟨sbt,(Cn (i:=5) qkr qkr ?_)⟩;refine Ca U (Cp (by':=24) (k:=m.rows.length) (T U) runUnderlying80 sizeOf41 typeInfo41 U zeroValue41 U qom qom) ?_ U Ac;rintro _ _ ⟨n17,rfl,rfl⟩;refine⟨sbt,(x_y (i:=10) U qkr (Bg (.cons (T U) (.cons (T U) (.cons (T U) .nil))) (Dq _ _ _ _ _ _ _ _ _)) ?_ U Ac)⟩;refine Cv qkr U ?_
        first|refine A9 (Ls U U sizeOf135) U Ac ?_
        rintro _ _ ⟨rfl,rfl⟩;refine rO tb 1 U ?_
        first|(refine Be ((n6,n17,n21)) ?_ ⟨atd,trivial⟩ (kg U) (List.Sublist.refl _))|(refine Bn (List.Perm.swap _ _ _) ?_;refine Be ((n6,n17,n21)) ?_ ⟨atd,trivial⟩ (kg U) (List.Sublist.refl _))|(refine Bn (List.Perm.cons _ (List.Perm.swap _ _ _)) ?_;refine Be ((n6,n17,n21)) ?_ ⟨atd,trivial⟩ (kg U) (List.Sublist.refl _))|(refine Bn ((List.Perm.swap _ _ _).trans (List.Perm.cons _ (List.Perm.swap _ _ _))) ?_;refine Be ((n6,n17,n21)) ?_ ⟨atd,trivial⟩ (kg U) (List.Sublist.refl _))|(refine Bn ((List.Perm.cons _ (List.Perm.swap _ _ _)).trans (List.Perm.swap _ _ _)) ?_;refine Be ((n6,n17,n21)) ?_ ⟨atd,trivial⟩ (kg U) (List.Sublist.refl _))|(refine Bn ((List.Perm.swap _ _ _).trans ((List.Perm.cons _ (List.Perm.swap _ _ _)).trans (List.Perm.swap _ _ _))) ?_;refine Be ((n6,n17,n21)) ?_ ⟨atd,trivial⟩ (kg U) (List.Sublist.refl _))
        trivial
    · refine Ca U (Ap zeroValue135 cs_) ?_ U Ac;rintro _ _ ⟨n6,rfl,rfl⟩;refine⟨sbt,?_⟩;refine Dh (i:=5) (j:=9) qkr qkr ?_ ?_
      · refine Ca U (Cp (by':=24) (k:=m.rows.length) (T U) runUnderlying80 sizeOf41 typeInfo41 U zeroValue41 U qom qom) ?_ U Ac;rintro _ _ ⟨n17,rfl,rfl⟩;refine⟨sbt,(Cn (i:=9) qkr qkr ?_)⟩;refine Ca U (Cp (by':=1) (k:=m.rows.length) (T U) runUnderlying133 sizeOf4 typeInfo4 U zeroValue4 U qom qom) ?_ U Ac;rintro _ _ ⟨n21,rfl,rfl⟩;refine⟨sbt,(x_y (i:=10) U qkr (Bg (.cons (T U) (.cons (T U) (.cons (T U) .nil))) (Dq _ _ _ _ _ _ _ _ _)) ?_ U Ac)⟩;refine Cv qkr U ?_
        first|refine A9 (Ls U U sizeOf135) U Ac ?_
        rintro _ _ ⟨rfl,rfl⟩;refine rO tb 1 U ?_
        first|(refine Be ((n6,n17,n21)) ?_ ⟨atd,trivial⟩ (kg U) (List.Sublist.refl _))|(refine Bn (List.Perm.swap _ _ _) ?_;refine Be ((n6,n17,n21)) ?_ ⟨atd,trivial⟩ (kg U) (List.Sublist.refl _))|(refine Bn (List.Perm.cons _ (List.Perm.swap _ _ _)) ?_;refine Be ((n6,n17,n21)) ?_ ⟨atd,trivial⟩ (kg U) (List.Sublist.refl _))|(refine Bn ((List.Perm.swap _ _ _).trans (List.Perm.cons _ (List.Perm.swap _ _ _))) ?_;refine Be ((n6,n17,n21)) ?_ ⟨atd,trivial⟩ (kg U) (List.Sublist.refl _))|(refine Bn ((List.Perm.cons _ (List.Perm.swap _ _ _)).trans (List.Perm.swap _ _ _)) ?_;refine Be ((n6,n17,n21)) ?_ ⟨atd,trivial⟩ (kg U) (List.Sublist.refl _))|(refine Bn ((List.Perm.swap _ _ _).trans ((List.Perm.cons _ (List.Perm.swap _ _ _)).trans (List.Perm.swap _ _ _))) ?_;refine Be ((n6,n17,n21)) ?_ ⟨atd,trivial⟩ (kg U) (List.Sublist.refl _))
        trivial
      · refine Ca U (Cp (by':=1) (k:=m.rows.length) (T U) runUnderlying133 sizeOf4 typeInfo4 U zeroValue4 U qom qom) ?_ U Ac;rintro _ _ ⟨n21,rfl,rfl⟩;refine⟨sbt,(Cn (i:=5) qkr qkr ?_)⟩;refine Ca U (Cp (by':=24) (k:=m.rows.length) (T U) runUnderlying80 sizeOf41 typeInfo41 U zeroValue41 U qom qom) ?_ U Ac;rintro _ _ ⟨n17,rfl,rfl⟩;refine⟨sbt,(x_y (i:=10) U qkr (Bg (.cons (T U) (.cons (T U) (.cons (T U) .nil))) (Dq _ _ _ _ _ _ _ _ _)) ?_ U Ac)⟩;refine Cv qkr U ?_
        first|refine A9 (Ls U U sizeOf135) U Ac ?_
        rintro _ _ ⟨rfl,rfl⟩;refine rO tb 1 U ?_
        first|(refine Be ((n6,n17,n21)) ?_ ⟨atd,trivial⟩ (kg U) (List.Sublist.refl _))|(refine Bn (List.Perm.swap _ _ _) ?_;refine Be ((n6,n17,n21)) ?_ ⟨atd,trivial⟩ (kg U) (List.Sublist.refl _))|(refine Bn (List.Perm.cons _ (List.Perm.swap _ _ _)) ?_;refine Be ((n6,n17,n21)) ?_ ⟨atd,trivial⟩ (kg U) (List.Sublist.refl _))|(refine Bn ((List.Perm.swap _ _ _).trans (List.Perm.cons _ (List.Perm.swap _ _ _))) ?_;refine Be ((n6,n17,n21)) ?_ ⟨atd,trivial⟩ (kg U) (List.Sublist.refl _))|(refine Bn ((List.Perm.cons _ (List.Perm.swap _ _ _)).trans (List.Perm.swap _ _ _)) ?_;refine Be ((n6,n17,n21)) ?_ ⟨atd,trivial⟩ (kg U) (List.Sublist.refl _))|(refine Bn ((List.Perm.swap _ _ _).trans ((List.Perm.cons _ (List.Perm.swap _ _ _)).trans (List.Perm.swap _ _ _))) ?_;refine Be ((n6,n17,n21)) ?_ ⟨atd,trivial⟩ (kg U) (List.Sublist.refl _))
        trivial
  rintro⟨b6,b17,b21⟩ -;refine rC tb 4 U (y_ (Lo U isAgg80 (by first|exact c_o)) ?_ U);refine rO tb 5 U ?_;refine Bz (X:=Nat × List Row) (V:=fun ⟨i,rows⟩=>[(26, .int .i64 (i:Nat))]) (C:=[(2,_),(4,_),(5,_),(6,_),(24,_),(25,_)]) (G:=fun ⟨i,rows⟩=>(b6,Cl [.slice m.q1 m.names.length m.c1, .slice (some ⟨b17,0,none⟩) m.rows.length m.rows.length, .slice (some ⟨b21,0,none⟩) m.rows.length m.rows.length] 135)::(slH (Sl.blk b17 m.rows.length []) (rows.flatMap encRow) 41++(rowsM rows++(slH (Sl.blk b21 m.rows.length []) ((swA m.pl s i).flatMap encB1) 4++((n4,Cl [.slice none 0 0, .slice none 0 0, .slice none 0 0] 135)::(n3,Cl [.int .i64 (s:Nat)] 3)::(n2,Cl (encMc m) 135)::H))))) (φ:=fun ⟨i,rows⟩=>i<=m.rows.length/\rows.length=m.rows.length/\rows.map Row.l=swR m.pl s i 0/\(∀ r∈rows,SlOk r.d r.l.length 1)) (μ:=fun ⟨i,rows⟩=>m.rows.length - i) (x0:=(0,List.replicate m.rows.length ⟨.nil,[]⟩)) ?_ (kg U) ⟨atd,trivial⟩ (by show (_::(_++(rowsM (List.replicate m.rows.length (⟨.nil,[]⟩:Row))++_))).Sublist _;rw[rowsM_rep,swA_zero,hrl,rep_row,rep_b1];exact sbt) ?_
  · exact⟨Nat.zero_le _,List.length_replicate ..,by rw[swR_zero,List.map_replicate,hrl],fun r hr=>by rw[List.eq_of_mem_replicate hr];rfl⟩
  rintro⟨i,rows⟩ ⟨hi,hrn,hrs,hro⟩;refine rD tb 6 U ?_
  first|refine Ak (Aa U) (fun c27=> ?_) (fun c27=> ?_)|refine Au (Aa U) (fun c27=> ?_) (fun c27=> ?_)
  · have hi2:i<m.rows.length:=by have h9:((i:Nat):Int)<(m.rows.length:Nat):=c27;omega
    have hi3:i<m.pl.next.length:=by omega
    have hsi:(swF s i)<m.rows.length:=by rw[<- hrl];exact Kr hss hi3
    have hrow:=hp.row _ (Ao hi3);have hgr:gd m.pl.next i=(gd m.rows i).l:=Cr hi2;refine rC tb 7 U (y_ (Lq U U runUnderlying80 sizeOf41 qom (by first|exact rfl|exact hm.a2.b (i:=i) qom|exact hm.a3.b (i:=i) qom|exact(hm.r _ (Ao (l:=m.rows) (i:=i) qom)).b (i:=j) qom)) ?_ U);refine y_ (Lo U isAgg41 (by first|exact c_o|exact cell1 ((hm.a2.mono (by exact sbt)).cs (i:=i) qom))) ?_ U;refine rO tb 5 U (B9 11 [(0,true),(1,true),(2,true),(3,true),(4,true),(5,true),(6,true),(7,true),(8,true),(9,true),(10,true)] _ mixd qkr sb0 ?_ By);refine rP tb 1 U (o_y U (Lo U isAgg133 (by first|exact c_o)) ?_ U Ac);refine rP tb 2 U ?_;refine o_y U (C1 (T U) (qe1 U) call131 (fun H' hs=>K5 s i n3 (hs.subset (show Fnd _ n3 (Cl [.int .i64 (s:Nat)] 3) from fdd)))) ?_ U Ac;refine rP tb 1 U (o_y U (Lo U isAgg133 (by first|exact c_o)) ?_ U Ac);refine rP tb 1 U (o_y U (Lq U U runUnderlying133 sizeOf4 qom (by first|exact rfl|exact hm.a2.b (i:=i) qom|exact hm.a3.b (i:=i) qom|exact(hm.r _ (Ao (l:=m.rows) (i:=i) qom)).b (i:=j) qom)) ?_ U Ac);refine o_y U (Lo U isAgg4 (by first|exact c_o|exact cell1 ((hm.a3.mono (by exact sbt)).cs (i:=i) qom))) ?_ U Ac;refine o_y U (Bl (T U) (T U) runUnderlying133 sizeOf4 qom (by first|exact rfl|exact hm.a2.b (i:=i) qom|exact hm.a3.b (i:=i) qom|exact(hm.r _ (Ao (l:=m.rows) (i:=i) qom)).b (i:=j) qom)) ?_ U Ac;refine Bj U (e_ (D2 (d:=(Sl.blk b21 m.rows.length [])) (l:=swA m.pl s i) (e:=4) (enc:=encB1) (sz:=1) (i:=(swF s i)) (gd m.acc i) (fun _=>rfl) qlc (T U) (T U) (.one U) U sizeOf4 (by rw[Hp];omega) (show SlOk (Sl.blk b21 m.rows.length []) (swA m.pl s i).length 1 from ⟨by rw[Hp];omega,by simp;rw[Hp];omega⟩)) ?_ U);rintro _ _ ⟨rfl,rfl⟩;refine rO tb 10 U ?_;refine Bz (X:=Nat × List Row) (V:=fun ⟨j,rows2⟩=>[(44, .int .i64 (j:Nat))]) (C:=[(2,_),(4,_),(5,_),(6,_),(7,_),(24,_),(25,_),(26,_),(42,_),(43,_)]) (G:=fun ⟨j,rows2⟩=>(b6,Cl [.slice m.q1 m.names.length m.c1, .slice (some ⟨b17,0,none⟩) m.rows.length m.rows.length, .slice (some ⟨b21,0,none⟩) m.rows.length m.rows.length] 135)::(slH (Sl.blk b17 m.rows.length []) (rows2.flatMap encRow) 41++(rowsM rows2++(slH (Sl.blk b21 m.rows.length []) ((swA m.pl s (i+1)).flatMap encB1) 4++((n4,Cl [.slice none 0 0, .slice none 0 0, .slice none 0 0] 135)::(n3,Cl [.int .i64 (s:Nat)] 3)::(n2,Cl (encMc m) 135)::H))))) (φ:=fun ⟨j,rows2⟩=>j<=(gd m.rows i).l.length/\rows2.length=m.rows.length/\rows2.map Row.l=swR m.pl s i j/\(∀ r∈rows2,SlOk r.d r.l.length 1)) (μ:=fun ⟨j,rows2⟩=>(gd m.rows i).l.length - j) (x0:=(0,rows)) ?_ (kg U) ⟨atd,trivial⟩ (by rw[<- swA_set hi3 hss];exact sbt) ?_
    · exact⟨Nat.zero_le _,hrn,hrs,hro⟩
    rintro⟨j,rows2⟩ ⟨hj,hrn2,hrs2,hro2⟩;refine rD tb 6 U ?_
    first|refine Ak (Aa U) (fun c45=> ?_) (fun c45=> ?_)|refine Au (Aa U) (fun c45=> ?_) (fun c45=> ?_)
    · have hj2:j<(gd m.rows i).l.length:=by have h9:((j:Nat):Int)<((gd m.rows i).l.length:Nat):=c45;omega
      have hrw:(gd rows2 (swF s i)).l.length=j:=by
        have h1:(gd rows2 (swF s i)).l=gd (swR m.pl s i j) (swF s i):=by rw[<- hrs2,Cr qom]
        rw[h1,swR_get hi3 hss,List.length_map,List.length_take,hgr];omega
      have hrow1:=hrow.1;rw[hgr] at hrow1;have hnl2:m.pl.names.length=m.names.length:=rfl;refine rC tb 6 U (y_ (Lq U U runUnderlying41 sizeOf3 qom (by first|exact rfl|exact hm.a2.b (i:=i) qom|exact hm.a3.b (i:=i) qom|exact(hm.r _ (Ao (l:=m.rows) (i:=i) qom)).b (i:=j) qom)) ?_ U);refine y_ (Lo U isAgg3 (by first|exact c_o|exact cell1 (((hm.r _ (Ao (l:=m.rows) (i:=i) qom)).mono (by exact sbt)).cs (i:=j) qom))) ?_ U;refine rO tb 3 U (B9 18 [(0,true),(1,true),(2,true),(3,true),(4,true),(5,true),(6,true),(7,true),(8,true),(9,true),(10,true),(11,true),(12,true),(13,true),(14,true),(15,false),(16,false),(17,true)] ((b6,Cl [.slice m.q1 m.names.length m.c1, .slice (some ⟨b17,0,none⟩) m.rows.length m.rows.length, .slice (some ⟨b21,0,none⟩) m.rows.length m.rows.length] 135)::(slH (Sl.blk b17 m.rows.length []) (rows2.flatMap encRow) 41++(slH (Sl.blk b21 m.rows.length []) ((swA m.pl s (i+1)).flatMap encB1) 4++((n4,Cl [.slice none 0 0, .slice none 0 0, .slice none 0 0] 135)::(n3,Cl [.int .i64 (s:Nat)] 3)::(n2,Cl (encMc m) 135)::H)))) mixd qkr (by exact sbt) ?_ By);refine rP tb 1 U (o_y U (Lo U isAgg80 (by first|exact c_o)) ?_ U Ac);refine rP tb 2 U ?_;refine o_y U (C1 (T U) (qe1 U) call131 (fun H' hs=>K5 s i n3 (hs.subset (show Fnd _ n3 (Cl [.int .i64 (s:Nat)] 3) from fdd)))) ?_ U Ac;refine rP tb 1 U (o_y U (Lo U isAgg80 (by first|exact c_o)) ?_ U Ac);refine rP tb 2 U ?_;refine o_y U (C1 (T U) (qe1 U) call131 (fun H' hs=>K5 s i n3 (hs.subset (show Fnd _ n3 (Cl [.int .i64 (s:Nat)] 3) from fdd)))) ?_ U Ac;refine o_y U (Bl (T U) (T U) runUnderlying80 sizeOf41 qom (by first|exact rfl|exact hm.a2.b (i:=i) qom|exact hm.a3.b (i:=i) qom|exact(hm.r _ (Ao (l:=m.rows) (i:=i) qom)).b (i:=j) qom)) ?_ U Ac;refine o_y U (Lo U isAgg41 (by first|exact c_o|exact cell1 (((A5 (w0:=w0) (d:=(Sl.blk b17 m.rows.length [])) (enc:=encRow) (sz:=1) (e:=41) (l:=rows2) (X:=H) (fun _=>rfl) (show SlOk (Sl.blk b17 m.rows.length []) rows2.length 1 from ⟨by omega,by simp;omega⟩)).mono (by exact sbt)).cs (i:=(swF s i)) qom))) ?_ U Ac;refine rP tb 2 U ?_;refine o_y U (C1 (T U) (qe1 U) call131 (fun H' hs=>K5 s (gd (gd m.rows i).l j) n3 (hs.subset (show Fnd _ n3 (Cl [.int .i64 (s:Nat)] 3) from fdd)))) ?_ U Ac;refine o_e U (A7 (.cons (T U) .nil) (C9)) ?_ U Ac;rintro _ _ ⟨n63,rfl,rfl⟩;refine⟨sbt,(o_e U (Dk (swF s (gd (gd m.rows i).l j)) (by':=8) (enc:=encU) (l:=(gd rows2 (swF s i)).l) (d:=(gd rows2 (swF s i)).d) (by repeat (first|exact locRow (i:=(swF s i)) qom _|apply LocL.a|apply LocL.t)) (T U) (T U) runUnderlying41 runUnderlying41 sizeOf3 typeInfo3 U zeroValue3 U (fun _=>rfl) U (hro2 _ (Ao qom)) qde (by rw[hrw];omega)) ?_ U Ac)⟩;rintro _ _ ⟨d2,rfl,hd2,rfl⟩;refine⟨sbt,(o_y U (Bl (T U) (T U) runUnderlying80 sizeOf41 qom (by first|exact rfl|exact hm.a2.b (i:=i) qom|exact hm.a3.b (i:=i) qom|exact(hm.r _ (Ao (l:=m.rows) (i:=i) qom)).b (i:=j) qom)) ?_ U Ac)⟩;refine Bj U (e_ (D2 (d:=(Sl.blk b17 m.rows.length [])) (l:=rows2) (e:=41) (enc:=encRow) (sz:=1) (i:=(swF s i)) (⟨d2,(gd rows2 (swF s i)).l++[swF s (gd (gd m.rows i).l j)]⟩:Row) (fun _=>rfl) qlc (T U) (T U) (.one U) U sizeOf41 qom (show SlOk (Sl.blk b17 m.rows.length []) rows2.length 1 from ⟨by omega,by simp;omega⟩)) ?_ U);rintro _ _ ⟨rfl,rfl⟩;refine kO tb 3 [2,4,5,6,7,24,25,26,42,43,44] rfl U (rG tb 1 U (y_ (Bd (T U) An qom) ?_ U));refine rO tb 2 U ?_;refine A8 ((j+1,rows2.set (swF s i) (⟨d2,(gd rows2 (swF s i)).l++[swF s (gd (gd m.rows i).l j)]⟩:Row))) ?_ ?_ ⟨atd,trivial⟩ (kg U) ?_
      · exact⟨hj2,by rw[List.length_set,hrn2],(by have h8:=sw_map (d:=d2) hrs2 hi3 (by rw[hgr];exact hj2) hss;rw[hgr] at h8;exact h8),fun r hr=>by
            rcases List.mem_or_eq_of_mem_set hr with h|rfl
            · exact hro2 r h
            · exact hd2⟩
      · first|omega|(simp only[];omega)
      · show (_::(slH (Sl.blk b17 m.rows.length []) ((rows2.set (swF s i) (⟨d2,(gd rows2 (swF s i)).l++[swF s (gd (gd m.rows i).l j)]⟩:Row)).flatMap encRow) 41++(rowsM (rows2.set (swF s i) (⟨d2,(gd rows2 (swF s i)).l++[swF s (gd (gd m.rows i).l j)]⟩:Row))++_))).Sublist _;rw[rowsM_set qom,List.append_assoc,List.append_assoc];exact sbt
    · have hj2:j=(gd m.rows i).l.length:=by have h9: ¬ ((j:Nat):Int)<((gd m.rows i).l.length:Nat):=c45;omega
      refine rC tb 2 U (Aq (rX tb 4 U (y_ (Bd (T U) An qom) ?_ U)));refine rO tb 2 U ?_;refine A8 ((i+1,rows2)) ?_ ?_ ⟨atd,trivial⟩ (kg U) ?_
      · exact⟨hi2,hrn2,by rw[hrs2,hj2,<- hgr,swR_row],hro2⟩
      · first|omega|(simp only[];omega)
      · exact sbt
  · have hi2:i=m.rows.length:=by have h9: ¬ ((i:Nat):Int)<(m.rows.length:Nat):=c27;omega
    refine rC tb 2 U (Aq (rX tb 4 U (y_ (Lp U isAgg135 sizeOf135 U (by first|exact A2)) ?_ U)))
    first|refine A9 (Ls U U sizeOf135) U Ac ?_
    rintro _ _ ⟨rfl,rfl⟩;refine rO tb 3 U (As U (.cellA (Aa U) isAgg135 sizeOf135 U (by first|exact A2) .nil) ?_);subst hi2;have ha:swA m.pl s m.rows.length=(swapM m.pl s).acc:=by rw[<- hrl];exact swA_end hss
    have hn:rows.map Row.l=(swapM m.pl s).next:=by rw[hrs,<- hrl];exact swR_end hss
    refine⟨_,⟨⟨m.names,rows.map toQ,swA m.pl s m.rows.length,m.q1,m.c1,some ⟨b17,0,none⟩,m.rows.length,some ⟨b21,0,none⟩,m.rows.length⟩,slH (Sl.blk b17 m.rows.length []) (rows.flatMap encRow) 41++(rowsM rows++slH (Sl.blk b21 m.rows.length []) ((swA m.pl s m.rows.length).flatMap encB1) 4),⟨?_,fun X hX=>⟨hX.a1.mono (List.sublist_append_right _ _),?_,?_,?_⟩,?_⟩,rfl⟩,?_⟩
    · simp only[encMc];rw[show (swA m.pl s m.rows.length).length=m.rows.length by rw[Hp,hrl],show (rows.map toQ).length=m.rows.length by rw[List.length_map,hrn]]
      rfl
    · simp only[List.append_assoc];exact arrQ (A5 (fun _=>rfl) (show SlOk (Sl.blk b17 m.rows.length []) rows.length 1 from ⟨by omega,by simp;omega⟩))
    · simp only[List.append_assoc];exact(A5 (X:=X) (e:=4) (enc:=encB1) (fun _=>rfl) (show SlOk (Sl.blk b21 m.rows.length []) (swA m.pl s m.rows.length).length 1 from ⟨by rw[Hp];omega,by simp;rw[Hp];omega⟩)).mono (by exact sbt)
    · intro r hr;obtain⟨u,hu,rfl⟩:=List.mem_map.1 hr;simp only[List.append_assoc];exact(A5 (X:=[]) (e:=3) (enc:=encU) (fun _=>rfl) (hro u hu)).mono (by rw[List.append_nil];exact(rowsM_sub hu).trans (List.Sublist.trans (List.sublist_append_left _ _) (List.sublist_append_right _ _)))
    · show PM.mk m.names ((rows.map toQ).map RowQ.l) (swA m.pl s m.rows.length)=_;rw[List.map_map,show (RowQ.l ∘ toQ)=Row.l from rfl,hn,ha];rfl
    · simp only[List.append_assoc];exact sbt
theorem rgt_of {n:Nm}{l:List Wm}(hg:Gw n l){tg:List Int}(hel:tg.length=l.length)(hb:∀ i,i<tg.length->1<=gd tg i/\gd tg i<=65535)
  (hc:∀ i k,k<i->i<tg.length->gd tg i=gd tg k->confR n.links n.nodes.length (gd l k).way (gd l i).way=none):rgtF n.links [] (l.map (·.way)) tg=true:=by
 have key:∀ m k,k+m=tg.length->Cons n.links (pairs l (tg.take k))->rgtF n.links (pairs l (tg.take k)) ((l.drop k).map (·.way)) (tg.drop k)=true:=by
  intro m
  induction m with
  |zero=>intro k hk _;exact rgt_end qom qom
  |succ m ih=>
   intro k hk h1;have hf:fitsP n.links (planR n.links (pairs l (tg.take k))) (gd l k).way (gd tg k)=true:=by
    refine(Ip h1 (hg.nd _ (Ao qom))).2 fun e he ht x=> ?_
    obtain⟨i,hi,rfl⟩:=(C8 (by rw[List.length_take];omega)).1 he;rw[List.length_take] at hi;simp only[Iw (show i<k by omega)] at ht;exact(Ff (hg.at' _ (Ao qom))).1 (hc k i qom qom ht.symm) x
   rw[Jp qom qom,hf,decide_eq_true (hb k qom),Bool.and_true,Bool.true_and];refine ih (k+1) qom ?_;rw[Gf qom qom];exact h1.cons (hg.nd _ (Ao qom)) hf
 have h:=key tg.length 0 qom (by rw[List.take_zero,E7];exact Cons.nil _)
 simpa[E7] using h
structure DtRt (n:Nm) (steps:Int) (ws:List Wm) (l:List Dtm):Prop where
 one:∀ d∈l,oneF n steps d.m.way=0
 ne:∀ d∈l,0<d.m.way.links.length
 src:∀ d∈l,d.m.way.src=dnode n.links ws d
 fin:∀ d∈l,(walkF n.links d.m.way.src d.m.way.links).1=(walkF n.links (gd ws d.way.toNat).way.src (gd ws d.way.toNat).way.links).1
 port:∀ d∈l,d.m.way.port=(gd ws d.way.toNat).way.port
 tag:∀ d∈l,d.m.way.tag=(gd ws d.way.toNat).way.tag
 step:∀ d∈l,d.m.way.step=(gd ws d.way.toNat).way.step
 no:∀ d∈l,gd (gd ws d.way.toNat).way.links d.place.toNat∉d.m.way.links
structure GrOk (n:Nm) (ws:List Wm) (l:List Dtm) (tags dt:List Int):Prop where
 tl:tags.length=ws.length
 dl:dt.length=l.length
 tb:∀ i,i<tags.length->1<=gd tags i/\gd tags i<=65535/\gd tags i∉dt
 db:∀ i,i<dt.length->1<=gd dt i/\gd dt i<=65535
 dc:Cons n.links (pairs (l.map Dtm.m) dt)
 ag:∀ i k,k<i->i<tags.length->gd tags i=gd tags k->agrP n.links ws l dt i k=true
theorem rgtF_len {ls:List Lnk}{ws:List Way}{ts:List Int}(h:rgtF ls [] ws ts=true):ts.length=ws.length:=by
 rw[E0] at h;simp only[Bool.and_eq_true,decide_eq_true_eq] at h;exact h.1.1
theorem cls_false {f:Nat->Nat->Bool}{tags:List Int}{i k:Nat}{t:Int}(h:clsF f tags i t=false)(hk:k<tags.length)(e:gd tags k=t):f i k=true:=by
 unfold clsF at h;rw[List.any_eq_false] at h;have:=h k (List.mem_range.2 hk)
 simpa[e] using this
theorem grgt_ok {n:Nm}{ws:List Wm}{l:List Dtm}{tags dt:List Int}(hg:Gw n (l.map Dtm.m))(h:grgt (agrP n.links ws l dt) ws.length (rgtF n.links [] (dways l) dt) tags dt=true):GrOk n ws l tags dt:=by
 unfold grgt at h;simp only[Bool.and_eq_true,decide_eq_true_eq,List.all_eq_true,Bool.not_eq_true'] at h;obtain⟨⟨h1,h2⟩,h3⟩:=h;have h4:=rgtF_len h2;rw[F3] at h4;obtain⟨h5,h6⟩:=Iu hg (by rw[h4,List.length_map]) h2;refine⟨h1,h4,fun i hi=>(h3 i (List.mem_range.2 hi)).1,h6,h5,fun i k hk hi e=> ?_⟩;refine cls_false (h3 i (List.mem_range.2 hi)).2 (by rw[List.length_take];omega) ?_;rw[Iw hk,e]
theorem conf_agr {ls:List Lnk}{N:Nat}{ws:List Wm}{l:List Dtm}{dt:List Int}{i k:Nat}(hnd:(nodesF ls (gd ws i).way).Nodup)(hN:∀ p∈hops ls (gd ws i).way,0<=p.1/\p.1<N)(h:agrP ls ws l dt i k=true):confR ls N (gd ws i).way (gd ws k).way=none:=by
 unfold agrP at h;simp only[Bool.and_eq_true,decide_eq_true_eq] at h;rcases conf_same hnd hN (b:=(gd ws k).way) with ⟨_,h2⟩|⟨c,h1,_⟩
 ·exact h2
 ·rw[h1] at h;omega
theorem F4 {α:Type}[Inhabited α] (a b:List α)(i:Nat):gd (a++b) i=if i<a.length then gd a i else gd b (i - a.length):=by
 unfold gd;rw[List.getD_eq_getElem?_getD,List.getD_eq_getElem?_getD,List.getD_eq_getElem?_getD,List.getElem?_append]
 split<;>rfl
theorem Gw.app {n:Nm}{a b:List Wm}(h1:Gw n a)(h2:Gw n b):Gw n (a++b):=
 ⟨fun m hm=>(List.mem_append.1 hm).elim (h1.nd m) (h2.nd m),fun m hm=>(List.mem_append.1 hm).elim (h1.inr m) (h2.inr m),fun m hm=>(List.mem_append.1 hm).elim (h1.at' m) (h2.at' m),fun m hm=>(List.mem_append.1 hm).elim (h1.len m) (h2.len m)⟩
theorem GrOk.all {n:Nm}{ws:List Wm}{l:List Dtm}{tags dt:List Int}(h:GrOk n ws l tags dt)(h1:Gw n ws)(h2:Gw n (l.map Dtm.m)):rgtF n.links [] ((ws++l.map Dtm.m).map (·.way)) (tags++dt)=true:=by
 have e1:=h.tl;have e2:=h.dl;have e3:(l.map Dtm.m).length=dt.length:=by rw[List.length_map,e2]
 refine rgt_of (h1.app h2) (by rw[List.length_append,List.length_append,e1,e3]) (fun i hi=> ?_) fun i k hk hi e=> ?_
 ·rw[List.length_append] at hi;rw[F4]
  split
  ·rename_i h3;exact⟨(h.tb i h3).1,(h.tb i h3).2.1⟩
  ·exact h.db _ qom
 ·rw[List.length_append] at hi;rw[F4,F4] at e;rw[F4,F4,<- e1]
  by_cases c1:i<tags.length
  ·rw[if_pos c1,if_pos (show k<tags.length by omega)] at e;rw[if_pos c1,if_pos (show k<tags.length by omega),confR_swap];exact conf_agr (h1.nd _ (Ao qom)) (h1.at' _ (Ao qom)) (h.ag i k hk c1 e)
  ·rw[if_neg c1] at e;rw[if_neg c1]
   by_cases c2:k<tags.length
   ·rw[if_pos c2] at e;exact absurd (by rw[<- e];exact Ao qom) (h.tb k c2).2.2
   ·rw[if_neg c2] at e;rw[if_neg c2];refine(Ff (h2.at' _ (Ao qom))).2 fun x=> ?_
    rw[Bool.eq_false_iff];intro hd;obtain⟨a,b,ha,hb,hne⟩:=differ_iff.1 hd;exact hne (h.dc _ ((C8 qom).2 ⟨k - tags.length,by omega,rfl⟩) _ ((C8 qom).2 ⟨i - tags.length,by omega,rfl⟩) e.symm x a b ha hb)
def scF (ls:List Lnk) (ws:List Wm) (l:List Dtm) (tags dt:List Int) (m:Nat) (x t:Int):Option (Int × Int):=
 ((List.range m).find? fun k=>decide (dnode ls ws (gd l k)=x/\gd tags (gd l k).way.toNat=t)).map fun k=>(gd (gd l k).m.way.links 0,gd dt k)
theorem det_eq {ls:List Lnk}{ws:List Wm}{l:List Dtm}(h:DtIn ls ws l)(hnd:∀ m∈ws,(nodesF ls m.way).Nodup){k:Nat}(hk:k<l.length):detF ls ws l (gd l k).way (dnode ls ws (gd l k))=some k:=by
 cases hd:detF ls ws l (gd l k).way (dnode ls ws (gd l k)) with
 |none=>exact absurd ⟨rfl,rfl⟩ (detF_none hd hk)
 |some j=>
  obtain⟨k1,k2,k3⟩:=Di hd;rw[h.key hnd k1 hk k2 k3]
theorem at_src {ls:List Lnk}{w:Way}(hnd:(nodesF ls w).Nodup):atF ls w w.src=some (hopN w 0):=by
 refine Fe hnd ?_;have h:=Eb (ls:=ls) (w:=w) (k:=0) qom;have h2:gd (nodesF ls w) 0=w.src:=by rw[Dc];rfl
 rw[h2] at h;rw[<- h];exact Ao (by rw[C3];omega)
theorem sec_agr {n:Nm}{ws:List Wm}{l:List Dtm}{tags dt:List Int}(ho:GpOk n ws l)(h:GrOk n ws l tags dt){a b:Nat}(ha:a<l.length)(hb:b<l.length)
  (hx:dnode n.links ws (gd l a)=dnode n.links ws (gd l b)) (hw:(gd l b).way.toNat<(gd l a).way.toNat) (ht:gd tags (gd l a).way.toNat=gd tags (gd l b).way.toNat):gd dt a=gd dt b:=by
 have wa:=ho.d.w _ (Ao ha);have wb:=ho.d.w _ (Ao hb);have pa:=ho.d.p _ (Ao ha);have pb:=ho.d.p _ (Ao hb);have e1:=h.tl;have h1:=h.ag _ _ hw qom ht;unfold agrP at h1;simp only[Bool.and_eq_true,List.all_eq_true,decide_eq_true_eq] at h1;have h2:=h1.2 (gd l a).place.toNat (List.mem_range.2 qom);have h3:gd (nodesF n.links (gd ws (gd l a).way.toNat).way) (gd l a).place.toNat=dnode n.links ws (gd l a):=rfl;rw[h3] at h2;have h4:secF n.links ws l dt ((gd l a).way.toNat:Nat) (dnode n.links ws (gd l a))=secF n.links ws l dt ((gd l b).way.toNat:Nat) (dnode n.links ws (gd l a)):=by
  refine Decidable.byContradiction fun hne=>h2 ⟨?_,hne⟩
  rw[hx];exact Ao (by rw[Co];omega)
 unfold secF at h4;rw[Int.toNat_of_nonneg wa.1,Int.toNat_of_nonneg wb.1,det_eq ho.d ho.gw.nd ha] at h4;rw[hx,det_eq ho.d ho.gw.nd hb] at h4;exact h4
theorem sc_same {n:Nm}{steps:Int}{ws:List Wm}{l:List Dtm}{tags dt:List Int}(ho:GpOk n ws l)(hr:DtRt n steps ws l)(h:GrOk n ws l tags dt){a b:Nat}(ha:a<l.length)(hb:b<l.length)
  (hx:dnode n.links ws (gd l a)=dnode n.links ws (gd l b)) (ht:gd tags (gd l a).way.toNat=gd tags (gd l b).way.toNat):gd dt a=gd dt b/\gd (gd l a).m.way.links 0=gd (gd l b).m.way.links 0:=by
 have wa:=ho.d.w _ (Ao ha);have wb:=ho.d.w _ (Ao hb);have h1:gd dt a=gd dt b:=by
  rcases Nat.lt_trichotomy (gd l a).way.toNat (gd l b).way.toNat with c|c|c
  ·exact(sec_agr ho h hb ha hx.symm c ht.symm).symm
  ·rw[ho.d.key ho.gw.nd ha hb qom hx]
  ·exact sec_agr ho h ha hb hx c ht
 refine⟨h1,?_⟩;have hl:=h.dl;have sa:=hr.src _ (Ao ha);have sb:=hr.src _ (Ao hb);have ma:gd (l.map Dtm.m) a=(gd l a).m:=Cr ha;have mb:gd (l.map Dtm.m) b=(gd l b).m:=Cr hb;have na:=ho.gd.nd _ (List.mem_map.2 ⟨_,Ao ha,rfl⟩);have nb:=ho.gd.nd _ (List.mem_map.2 ⟨_,Ao hb,rfl⟩);have h2:=h.dc ((gd (l.map Dtm.m) a).way,gd dt a) ((C8 (by rw[List.length_map];omega)).2 ⟨a,by omega,rfl⟩) ((gd (l.map Dtm.m) b).way,gd dt b) ((C8 (by rw[List.length_map];omega)).2 ⟨b,by omega,rfl⟩) h1 (gd l a).m.way.src (hopN (gd l a).m.way 0) (hopN (gd l b).m.way 0)
  (by rw[ma];exact at_src na) (by rw[mb,sa,hx,<- sb];exact at_src nb)
 unfold hopN at h2;rw[if_pos (hr.ne _ (Ao ha)),if_pos (hr.ne _ (Ao hb))] at h2;exact congrArg (·.link) h2
theorem nn_okG {n:Nm}(h:NetOk n)(h1:n.nodes.length<=12)(h2:n.links.length<=30):NnOk (nnOf n) where
 fewN:=h1
 fewL:=by show (n.links.map lnOf).length<=30;rw[List.length_map];exact h2
 ends:=fun x hx=>by
  obtain⟨l,hl,rfl⟩:=List.mem_map.1 hx;obtain⟨i,hi,e⟩:=List.getElem_of_mem hl;have h3:=h.links i hi;rw[Ay hi,e] at h3;have a1:=h3.s0;have a2:=h3.s1;have a3:=h3.d0;have a4:=h3.d1;show l.src.toNat<n.nodes.length/\l.dst.toNat<n.nodes.length;omega
theorem fnd_f {n:Nn}{f g:Flr}(h1:f.links=g.links)(h2:f.node=g.node)(m:PM)(x to:Nat):findF n f m x to=findF n g m x to:=by
 have hu:upF n f=upF n g:=by funext l;unfold upF;rw[h1,h2]
 have hm:movesF n f m=movesF n g m:=by funext p;unfold movesF;rw[hu]
 unfold findF;rw[hm,h2]
theorem goF_ltG {σ:Type}[Inhabited σ] {ts:Pl->List (Pl × σ)}{fnd:Pl->Bool}:∀ {f k:Nat} {st:BS σ} {j:Nat},(goF ts fnd f k st).1=some j->j<k+f
 |0,k,st,j,h=>by cases h
 |f+1,k,st,j,h=>by
  rw[G0] at h
  split at h
  ·split at h
   ·have:=Option.some.inj h;omega
   ·have:=goF_ltG h;omega
  ·cases h
theorem backF_lenG {σ:Type}[Inhabited σ] {w:List (Int × σ)}:∀ {f i:Nat},(backF w f i).length<=f
 |0,i=>Nat.le_refl _
 |f+1,i=>by
  rw[D1]
  split
  ·rw[List.length_cons];exact Nat.succ_le_succ backF_lenG
  ·exact Nat.zero_le _
theorem srF_lenG {σ:Type}[Inhabited σ] {ts:Pl->List (Pl × σ)}{fnd:Pl->Bool}{N:Nat}{p0:Pl}:(srF ts fnd N p0).1.length<=N+1:=by
 unfold srF;cases hg:goF ts fnd (N+1) 0 ⟨[p0],[(-1,default)]⟩ with
 |mk a st=>
  cases a with
  |none=>exact Nat.zero_le _
  |some k=>
   have h:=goF_ltG (show (goF ts fnd (N+1) 0 ⟨[p0],[(-1,default)]⟩).1=some k by rw[hg]);simp only[List.length_reverse];exact Nat.le_trans backF_lenG qom
theorem find_lenG {n:Nn}(hok:NnOk n){f:Flr}{m:PM}(hp:PMok m)(x to:Nat):(findF n f m x to).1.length<=2401:=by
 have h:=NPl_le hok hp;unfold findF
 split
 ·exact Nat.zero_le _
 ·split
  ·exact Nat.le_trans srF_lenG qom
  ·exact Nat.zero_le _
theorem find_yesM {n:Nn}(hok:NnOk n){f:Flr}{m:PM}(hp:PMok m){x to:Nat}(hx:x<n.nodes.length)(h:(findF n f m x to).2=0):
  (wkF n x (toInts (findF n f m x to).1)=some (to:Int)/\upAll n f (toInts (findF n f m x to).1)=true/\gd m.acc (runM m (namesF n x (toInts (findF n f m x to).1)))=true)/\
  ∀ ls,wkF n x ls=some (to:Int)->upAll n f ls=true->gd m.acc (runM m (namesF n x ls))=true->leL (findF n f m x to).1 (ls.map Int.toNat):=by
 unfold findF at *
 split at h
 ·cases h
 ·rename_i hf;rw[if_neg hf]
  split at h
  ·rename_i hs;rw[if_pos hs];obtain⟨⟨q,h1,h2⟩,h3⟩:=srF_yes (rk:=id) (moves_okE hok hp) (fun p _=>moves_pw n f m p) (N:=NPl n m) (pl_few n m) (fndF to m) (p0_ok hp hx) hs;obtain⟨k1,k2,k3⟩:=of_chn h1;unfold fndF at h2;simp only[Bool.and_eq_true,decide_eq_true_eq] at h2;refine⟨⟨by rw[k1,h2.1],k2,by rw[<- k3];exact h2.2⟩,fun ls e1 e2 e3=> ?_⟩
   simpa using h3 _ _ (chn_of e1 e2) (by unfold fndF;simp only[Int.toNat_natCast,decide_true,Bool.true_and];exact e3)
  ·cases h
theorem wk_walk {n:Nm}(hok:NetOk n):∀ {ls:List Int} {x:Nat},wkF (nnOf n) x ls=if (walkF n.links x ls).2=true then some (walkF n.links x ls).1 else none
 |[],x=>rfl
 |l::ls,x=>by
  rw[wkF];have hl:(nnOf n).links.length=n.links.length:=List.length_map ..
  by_cases hc:0<=l/\l<n.links.length/\(gd n.links l.toNat).src=x
  ·have h1:l.toNat<n.links.length:=by omega
   have h2:=hok.links _ h1;have a1:=h2.s0;have a3:=h2.d0;rw[Gv hc,if_pos (by rw[hl,gd_lnOf n h1];refine⟨hc.1,hc.2.1,?_⟩;show ((gd n.links l.toNat).src.toNat:Int)=x;omega),gd_lnOf n h1];have h3:=wk_walk hok (ls:=ls) (x:=(gd n.links l.toNat).dst.toNat);rw[Int.toNat_of_nonneg a3] at h3;exact(by rw[<- h3];show wkF (nnOf n) ((gd n.links l.toNat).dst.toNat:Int) ls=_;rw[Int.toNat_of_nonneg a3])
  ·rw[Es hc,if_neg]
   ·rfl
   ·rintro⟨c1,c2,c3⟩;rw[hl] at c2;have h1:l.toNat<n.links.length:=by omega
    have h2:=hok.links _ h1;have a1:=h2.s0;rw[gd_lnOf n h1] at c3;refine hc ⟨c1,c2,?_⟩;have c4:((gd n.links l.toNat).src.toNat:Int)=x:=c3;omega
def dFl (l:Int):Flr:=⟨none,0,[l], -1⟩
def dNms (n:Nm) (w:Way) (p:Nat):List ByteArray:=((nodesF n.links w).take p).map fun x=>(gd n.nodes x.toNat).name
def dFnd (n:Nm) (w:Way) (m:PM) (p:Nat):List Nat × Int:=findF (nnOf n) (dFl (gd w.links p)) (swapM m (runM m (dNms n w p))) (gd (nodesF n.links w) p).toNat (walkF n.links w.src w.links).1.toNat
abbrev wZ:Way:=⟨0,[],0,0,0⟩
abbrev dWay (n:Nm) (w:Way) (p:Nat) (l:List Int):Way:=⟨gd (nodesF n.links w) p,l,w.port,w.tag,w.step⟩
def dtrW (n:Nm) (w:Way) (e:Re) (place:Int):Way × Int:=
 if place<0\/(w.links.length:Int)<=place then (wZ,1)
 else if ¬ (buildF leastF e).2=0 then (wZ,2)
 else if ¬ (dFnd n w (buildF leastF e).1 place.toNat).2=0 then (wZ,18)
 else if (nodesF n.links (dWay n w place.toNat (toInts (dFnd n w (buildF leastF e).1 place.toNat).1))).Nodup then (dWay n w place.toNat (toInts (dFnd n w (buildF leastF e).1 place.toNat).1),0)
 else (wZ,18)
structure DwOk (n:Nm) (w:Way):Prop where
 net:NetOk n
 fn:n.nodes.length<=12
 fl:n.links.length<=30
 inr:InR n.links w.links
 at':∀ p∈hops n.links w,0<=p.1/\p.1<n.nodes.length
 len:w.links.length<=100
 walk:(walkF n.links w.src w.links).2=true
theorem DwOk.node {n:Nm}{w:Way}(h:DwOk n w){p:Nat}(hp:p<=w.links.length):0<=gd (nodesF n.links w) p/\gd (nodesF n.links w) p<n.nodes.length:=by
 have h1:gd (nodesF n.links w) p∈nodesF n.links w:=Ao (by rw[Co];omega);obtain⟨x,hx,e⟩:=List.mem_map.1 h1;rw[<- e];exact h.at' x hx
theorem DwOk.last {n:Nm}{w:Way}(h:DwOk n w):0<=(walkF n.links w.src w.links).1/\(walkF n.links w.src w.links).1<n.nodes.length:=by
 have h1:=h.node (p:=0) (Nat.zero_le _);rw[show gd (nodesF n.links w) 0=w.src by rw[Dc];rfl] at h1;exact walk_end h.net h1.1 h1.2 h.walk
theorem dFnd_eq {n:Nm}{w:Way}{m:PM}{p:Nat}{f:Flr}(h1:f.links=[gd w.links p])(h2:f.node= -1):findF (nnOf n) f (swapM m (runM m (dNms n w p))) (gd (nodesF n.links w) p).toNat (walkF n.links w.src w.links).1.toNat=dFnd n w m p:=fnd_f h1 h2 _ _ _
theorem dFnd_walk {n:Nm}{w:Way}(h:DwOk n w){m:PM}(hp:PMok m){p:Nat}(hpl:p<w.links.length)(h0:(dFnd n w m p).2=0):
  walkF n.links (gd (nodesF n.links w) p) (toInts (dFnd n w m p).1)=((walkF n.links w.src w.links).1,true)/\InR n.links (toInts (dFnd n w m p).1)/\(dFnd n w m p).1.length<=2401:=by
 have h1:=h.node (p:=p) qom;have hok:=nn_okG h.net h.fn h.fl;have h2:=(find_yesM hok (swap_ok hp (I9 hp _)) (show (gd (nodesF n.links w) p).toNat<(nnOf n).nodes.length by show _<n.nodes.length;omega) h0).1.1;have h3:=wk_walk h.net (ls:=toInts (dFnd n w m p).1) (x:=(gd (nodesF n.links w) p).toNat);have h4:=h.last;rw[show wkF (nnOf n) _ (toInts (dFnd n w m p).1)=_ from h2] at h3;rw[Int.toNat_of_nonneg h1.1] at h3
 split at h3
 ·rename_i h5;have h6:=Option.some.inj h3;refine⟨Prod.ext ?_ h5,Fu h5,find_lenG hok (swap_ok hp (I9 hp _)) _ _⟩;show (walkF n.links (gd (nodesF n.links w) p) _).1=_;rw[<- h6];omega
 ·cases h3
def trueL {α:Type} (l:List α):List (α × Bool):=l.map fun p=>(p,true)
theorem look_trueL {α:Type}[DecidableEq α] (x:α):∀ l:List α,look (trueL l) x=if x∈l then some true else none
 |[]=>rfl
 |y::l=>by
  show look ((y,true)::trueL l) x=_;rw[Db,look_trueL x l]
  by_cases h:y=x
  ·subst h;simp
  ·have h2: ¬ x=y:=fun e=>h e.symm
   simp only[h,if_false,List.mem_cons,h2,false_or]
theorem upsert_trueL {α:Type}[DecidableEq α] {x:α}:∀ {l:List α},x∉l->upsert (trueL l) x true=trueL (l++[x])
 |[],_=>rfl
 |y::l,h=>by
  simp only[List.mem_cons,not_or] at h;show upsert ((y,true)::trueL l) x true=(y,true)::trueL (l++[x]);rw[Dl,if_neg (fun e=>h.1 e.symm),upsert_trueL h.2]
theorem yl_seenL {α:Type}[DecidableEq α] {P:Program}{w0:World}{H:List (Nat × Obj)}{L:Fm}{x y:Operand}{ty t kt et:TypeId}{r:Nat}{l:List α}{p:α}{v:Value}{encK:α->Value}(hk:KeyOk (V:=Bool) P kt encK)(hx:Ev L x (.map (some r)))(hy:Ev L y v)(hv:v=encK p)
  (ht:∀ w,(underlying t).run P w= .ok (.map kt et) w) (hz:∀ w,(zeroValue et).run P w= .ok (.bool false) w) (hf:Fnd H r (mapO encK encBv (trueL l))):Yl P w0 (.lookup t x y false) ty L H (.bool (decide (p∈l))):=by
 have h:=yl_lookupB (P:=P) (w0:=w0) (ty:=ty) (encB:=encBv) U hk hx hy hv ht hz hf;rw[look_trueL] at h
 by_cases hm:p∈l
 ·rw[if_pos hm] at h;rw[decide_eq_true hm];exact h
 ·rw[if_neg hm] at h;rw[decide_eq_false hm];exact h
theorem nd_take {l:List Int}{i:Nat}(hi:i<l.length)(h:(l.take i).Nodup)(hn:gd l i∉l.take i):(l.take (i+1)).Nodup:=by
 rw[C6 hi,List.nodup_append];refine⟨h,by simp,fun a ha b hb=> ?_⟩;rw[List.mem_singleton.1 hb];rintro rfl;exact hn ha
theorem nd_no {l:List Int}{i:Nat}(hi:i<l.length)(h:gd l i∈l.take i): ¬ l.Nodup:=fun hnd=>by
 rw[<- List.take_append_drop i l,Cy hi,List.nodup_append] at hnd;exact hnd.2.2 _ h _ List.mem_cons_self U
theorem Jf  (w:World):(Instr.build 59 #[]).run prog w= .ok (.agg #[.int .i64 0, .slice none 0 0, .int .i64 0, .int .i64 0, .int .i64 0]) w:=by kernel_rfl
theorem Hq (a0:Option Addr)(a0n a0c:Nat)(a1:Int)(w:World):(Instr.build 64 #[(0, .slice a0 a0n a0c),(1, .int .i64 a1)]).run prog w= .ok (.agg #[.slice a0 a0n a0c, .int .i64 a1]) w:=by kernel_rfl
theorem Kc3 (a0:ByteArray)(w:World):(Instr.buildSlice 68 1 #[(0, .string a0)]).run prog w= .ok (.slice (some ⟨w.heap.size,0,none⟩) 1 1) (w.alloc (Cl [.string a0] 9)):=by kernel_rfl
theorem Jg {d:Sl}{k sz:Nat}(h:SlOk d k sz):k<=slC d:=by
 cases d with
 |nil=>have:k=0:=h;omega
 |blk n c j=>exact h.1
theorem enc_toInts (l:List Nat):(toInts l).flatMap encI=l.flatMap encU:=by
 unfold toInts;rw[List.flatMap_map]
theorem names_enc {n:Nm}{w:Way}{p:Nat}(h:p<=w.links.length):(dNms n w p).length=p:=by
 unfold dNms;rw[List.length_map,List.length_take,Co];omega
theorem names_succ {n:Nm}{w:Way}{i:Nat}(h:i<=w.links.length):dNms n w (i+1)=dNms n w i++[(gd n.nodes (gd (nodesF n.links w) i).toNat).name]:=by
 unfold dNms;rw[C6 (by rw[Co];omega),List.map_append,List.map_singleton]
theorem dfind_g {w0:World}{H:List (Nat × Obj)}(n:Nm)(hn:NetM w0 H n)(w:Way)(hw:DwOk n w)(mc:Mc)(hmc:McOk w0 H mc)(pm:PM)(hp:PMok pm)(hsr:Srt pm.names)(hnl:pm.names.length<=100)(p:Nat)(hpl:p<w.links.length)
  (hmp:mc.pl=swapM pm (runM pm (dNms n w p))) (q:Option Addr) (c:Nat) (hA:Arr w0 H q 1 encI [gd w.links p]):
  FSpec prog w0 75 #[.agg (encNm n).toArray, .agg #[.slice q 1 c, .int .i64 (-1)], .agg (encMc mc).toArray, .int .i64 (gd (nodesF n.links w) p), .int .i64 (walkF n.links w.src w.links).1] H (fun v H'=>∃ d:Sl,(v= .tuple #[slV d (toInts (dFnd n w pm p).1).length, .int .i64 (dFnd n w pm p).2]/\SlOk d (toInts (dFnd n w pm p).1).length 1)/\H'=slH d ((toInts (dFnd n w pm p).1).flatMap encI) 3++H):=by
 have h1:=hw.node (p:=p) qom;have h2:=hw.last;have hok:=nn_okG hw.net hw.fn hw.fl;have hs:=I9 hp (dNms n w p);have h:=findE_s (w0:=w0) (nnOf n) ⟨q,c,[gd w.links p], -1⟩ mc ⟨nn_net hn hw.net,hA,hmc⟩ ⟨hok,by show 1<=_;omega,by rw[hmp];exact swap_ok hp hs,by rw[show mc.names=mc.pl.names from rfl,hmp];exact hsr,by rw[show mc.names=mc.pl.names from rfl,hmp];exact Nat.le_trans hnl qom⟩
  (gd (nodesF n.links w) p).toNat (by show _<n.nodes.length;omega) (walkF n.links w.src w.links).1.toNat (l:=(dFnd n w pm p).1) (c:=(dFnd n w pm p).2) (by rw[hmp,dFnd_eq U rfl])
 rw[nn_enc,Int.toNat_of_nonneg h1.1,Int.toNat_of_nonneg h2.1] at h;rw[enc_toInts,show (toInts (dFnd n w pm p).1).length=(dFnd n w pm p).1.length by unfold toInts;rw[List.length_map]];exact h
theorem dtr_arg {n:Nm}{w:Way}{e:Re}{x:Int}(h:x<0\/(w.links.length:Int)<=x):dtrW n w e x=(wZ,1):=by unfold dtrW;rw[if_pos h]
theorem dtr_lim {n:Nm}{w:Way}{e:Re}{x:Int}(h: ¬ (x<0\/(w.links.length:Int)<=x))(h2: ¬ (buildF leastF e).2=0):dtrW n w e x=(wZ,2):=by unfold dtrW;rw[if_neg h,if_pos h2]
theorem dtr_nof {n:Nm}{w:Way}{e:Re}{p:Nat}(h:p<w.links.length)(h2:(buildF leastF e).2=0)(h3: ¬ (dFnd n w (buildF leastF e).1 p).2=0):dtrW n w e p=(wZ,18):=by
 unfold dtrW;rw[Int.toNat_natCast,if_neg qom,if_neg (fun k=>k h2),if_pos h3]
theorem dtr_two {n:Nm}{w:Way}{e:Re}{p:Nat}(h:p<w.links.length)(h2:(buildF leastF e).2=0)(h3:(dFnd n w (buildF leastF e).1 p).2=0)(h4: ¬ (nodesF n.links (dWay n w p (toInts (dFnd n w (buildF leastF e).1 p).1))).Nodup):dtrW n w e p=(wZ,18):=by
 unfold dtrW;rw[Int.toNat_natCast,if_neg qom,if_neg (fun k=>k h2),if_neg (fun k=>k h3)];exact if_neg h4
theorem Ks {n:Nm}{w:Way}{e:Re}{p:Nat}(h:p<w.links.length)(h2:(buildF leastF e).2=0)(h3:(dFnd n w (buildF leastF e).1 p).2=0)(h4:(nodesF n.links (dWay n w p (toInts (dFnd n w (buildF leastF e).1 p).1))).Nodup):dtrW n w e p=(dWay n w p (toInts (dFnd n w (buildF leastF e).1 p).1),0):=by
 unfold dtrW;rw[Int.toNat_natCast,if_neg qom,if_neg (fun k=>k h2),if_neg (fun k=>k h3)];exact if_pos h4
structure RxA (w0:World) (H:List (Nat × Obj)) (mx:Rxm) (e:Re):Prop where
 is:Is mx e
 m:RxM w0 H mx
 lv:e.lv<=64
theorem RxA.mono {w0:World}{H H':List (Nat × Obj)}{mx:Rxm}{e:Re}(h:RxA w0 H mx e)(hs:H.Sublist H':=by exact sbt):RxA w0 H' mx e:=⟨h.is,h.m.mono hs,h.lv⟩
theorem detour_g {w0:World}{H:List (Nat × Obj)}(n:Nm)(hn:NetM w0 H n)(m:Wm)(hm:WayM w0 H m)(hw:DwOk n m.way)(mx:Rxm)(e:Re)(hx:RxA w0 H mx e)(place:Int):
  FSpec prog w0 25 #[.agg (encNm n).toArray, .agg (encW m).toArray, .agg (encRx mx).toArray, .int .i64 place] H (fun v H'=>∃ (y:Wm) (M:List (Nat × Obj)),(v= .tuple #[.agg (encW y).toArray, .int .i64 (dtrW n m.way e place).2]/\y.way=(dtrW n m.way e place).1/\∀ X,IntArr w0 (M++X) y.q y.way.links)/\H'=M++H):=by
 refine Az func25 U ntmps25 U ?_;have hwl:=hw.len;have hnl:=Co n.links m.way;refine rD tb 2 U (e_ (Lt U cs_) ?_ U);rintro _ _ ⟨n4,rfl,rfl⟩;refine e_ (Lt U cs_) ?_ U;rintro _ _ ⟨n5,rfl,rfl⟩;refine e_ (Lt U cs_) ?_ U;rintro _ _ ⟨n6,rfl,rfl⟩;refine e_ (Ap zeroValue59 cs_) ?_ U;rintro _ _ ⟨n8,rfl,rfl⟩;refine rO tb 9 U ?_
 first|refine Bi (s:=23) (Aa U) (fun c23=> ?_) (fun c23=> ?_)|refine B2 (s:=23) (Aa U) (fun c23=> ?_) (fun c23=> ?_)
 ·refine rO tb 11 U (y_ (Bg .nil (Jf)) ?_ U)
  first|refine A9 (Ls U U sizeOf59) U Ac ?_
  rintro _ _ ⟨rfl,rfl⟩;refine rO tb 5 U (As U (.cellA (Aa U) isAgg59 sizeOf59 U (by first|exact A2) (Ll U)) ?_);have h1:dtrW n m.way e place=(wZ,1):=dtr_arg (.inl c23);refine⟨_,⟨⟨wZ,none,0⟩,[],⟨by rw[h1];rfl,by rw[h1],fun X i x hi=>by simp at hi⟩,rfl⟩,by simp only[List.cons_append,List.nil_append];exact sbt⟩
 ·refine rO tb 2 U (A3 (Lo U isAgg41 (by first|exact c_o)) U (Ax U U (Aa U)) ?_);refine rO tb 5 U ?_
  first|refine Ak (Aa U) (fun c29=> ?_) (fun c29=> ?_)|refine Au (Aa U) (fun c29=> ?_) (fun c29=> ?_)
  ·skip
   refine rC tb 2 U (y_ (Bg .nil (Jf)) ?_ U)
   first|refine A9 (Ls U U sizeOf59) U Ac ?_
   rintro _ _ ⟨rfl,rfl⟩;refine rO tb 5 U (As U (.cellA (Aa U) isAgg59 sizeOf59 U (by first|exact A2) (Ll U)) ?_);have h1:dtrW n m.way e place=(wZ,1):=dtr_arg (.inr c29);refine⟨_,⟨⟨wZ,none,0⟩,[],⟨by rw[h1];rfl,by rw[h1],fun X i x hi=>by simp at hi⟩,rfl⟩,by simp only[List.cons_append,List.nil_append];exact sbt⟩
  ·obtain⟨p,rfl⟩:=Int.eq_ofNat_of_zero_le (show 0<=place by omega);have hpl:p<m.way.links.length:=by have h9: ¬ ((p:Nat):Int)>=(m.way.links.length:Nat):=c29;omega
   refine rC tb 4 U (y_ (Lp U isAgg32 sizeOf32 U (by first|exact A2)) ?_ U);refine e_ (A1 (qe1 U) call73 (buildMX_s mx e hx.is (hx.m.mono (by exact sbt)) hx.lv (pm:=(buildF leastF e).1) (cc:=(buildF leastF e).2) U)) ?_ U;rintro _ _ ⟨mc,M1,⟨rfl,hmp,hmc⟩,rfl⟩;refine rO tb 3 U (e_ (Ap zeroValue135 cs_) ?_ U);rintro _ _ ⟨n10,rfl,rfl⟩
   first|refine A9 (Ls U U sizeOf135) U Ac ?_
   rintro _ _ ⟨rfl,rfl⟩;refine rO tb 10 U ?_
   first|refine Ak (Aa U) (fun c37=> ?_) (fun c37=> ?_)|refine Au (Aa U) (fun c37=> ?_) (fun c37=> ?_)
   ·skip
    refine rC tb 2 U (y_ (Bg .nil (Jf)) (rO tb 1 U ?_) U)
    first|refine A9 (Ls U U sizeOf59) U Ac ?_
    rintro _ _ ⟨rfl,rfl⟩;refine rO tb 5 U (As U (.cellA (Aa U) isAgg59 sizeOf59 U (by first|exact A2) (Ll U)) ?_);have h1:dtrW n m.way e (p:Nat)=(wZ,2):=dtr_lim qom c37;have h2:(buildF leastF e).2=2:=(build_err e).resolve_left c37;refine⟨_,⟨⟨wZ,none,0⟩,[],⟨by rw[h1,h2];rfl,by rw[h1],fun X i x hi=>by simp at hi⟩,rfl⟩,sbt⟩
   ·have hb0:(buildF leastF e).2=0:=Decidable.byContradiction c37;have hb:=build_ok hx.lv hb0;have hbn:(buildF leastF e).1.names.length<=64:=by rw[build_names hb0];exact letF_few hx.lv
    refine rC tb 4 U (y_ (Lp U isAgg26 sizeOf26 U (by first|exact A2)) ?_ U);refine y_ (Lp U isAgg59 sizeOf59 U (by first|exact A2)) ?_ U;refine e_ (A1 (qe2 U U) call74 (Jb n (hn.mono (by exact sbt)) m (hm.mono (by exact sbt)) hw.inr qom)) ?_ U;rintro _ _ ⟨d12,⟨rfl,hd12⟩,rfl⟩;have hcap:=Jg hd12;refine rO tb 13 U (y_ (Ft  (T U) (T U) runUnderlying41 sizeOf3 qom) ?_ U);refine kO tb 4 [3,4,5,8,10,12,13,45,46,47] rfl U (rG tb 1 U ?_);refine Bz (X:=Nat × Sl) (V:=fun ⟨i,dN⟩=>[(13,slV dN (dNms n m.way i).length),(47, .int .i64 (i:Nat))]) (C:=[(3,_),(4,_),(5,_),(8,_),(10,_),(12,_),(45,_),(46,_)]) (G:=fun ⟨i,dN⟩=>slH dN ((dNms n m.way i).flatMap encS) 9++(slH d12 ((nodesF n.links m.way).flatMap encI) 3++((n10,Cl (encMc mc) 135)::(M1++((n8,Cl [.int .i64 0, .slice none 0 0, .int .i64 0, .int .i64 0, .int .i64 0] 59)::(n6,Cl (encRx mx) 32)::(n5,Cl (encW m) 59)::(n4,Cl (encNm n) 26)::H))))) (φ:=fun ⟨i,dN⟩=>i<=p/\SlOk dN (dNms n m.way i).length 1) (μ:=fun ⟨i,dN⟩=>p - i) (x0:=(0, .nil)) ?_ (kg U) ⟨atd,atd,trivial⟩ (by exact List.Sublist.refl _) ?_
    ·exact⟨Nat.zero_le _,rfl⟩
    rintro⟨i,dN⟩ ⟨hi,hdN⟩;refine rD tb 6 U ?_
    first|refine Ak (Aa U) (fun c48=> ?_) (fun c48=> ?_)|refine Au (Aa U) (fun c48=> ?_) (fun c48=> ?_)
    ·have hi2:i<p:=by have h9:((i:Nat):Int)<(p:Nat):=c48;omega
     have hng:=hw.node (p:=i) qom;refine rC tb 6 U (y_ (Lq U U runUnderlying41 sizeOf3 qom (by first|exact rfl|exact(show Arr w0 (slH d12 ((nodesF n.links m.way).flatMap encI) 3++((n10,Cl (encMc mc) 135)::(M1++((n8,Cl [.int .i64 0, .slice none 0 0, .int .i64 0, .int .i64 0, .int .i64 0] 59)::(n6,Cl (encRx mx) 32)::(n5,Cl (encW m) 59)::(n4,Cl (encNm n) 26)::H)))) (slQ d12) 1 encI (nodesF n.links m.way) from A5 (fun _=>rfl) hd12).b (i:=i) qom|exact hn.nodes.b (i:=(gd (nodesF n.links m.way) i).toNat) qom|exact(show Arr w0 (slH d12 ((nodesF n.links m.way).flatMap encI) 3++((n10,Cl (encMc mc) 135)::(M1++((n8,Cl [.int .i64 0, .slice none 0 0, .int .i64 0, .int .i64 0, .int .i64 0] 59)::(n6,Cl (encRx mx) 32)::(n5,Cl (encW m) 59)::(n4,Cl (encNm n) 26)::H)))) (slQ d12) 1 encI (nodesF n.links m.way) from A5 (fun _=>rfl) hd12).b (i:=p) qom|exact hm.links.b (i:=p) qom|exact hd98.bas (Nat.lt_of_le_of_lt (Nat.zero_le _) hi2))) ?_ U);refine y_ (Lo U isAgg3 (by first|exact c_o|exact((show Arr w0 (slH d12 ((nodesF n.links m.way).flatMap encI) 3++((n10,Cl (encMc mc) 135)::(M1++((n8,Cl [.int .i64 0, .slice none 0 0, .int .i64 0, .int .i64 0, .int .i64 0] 59)::(n6,Cl (encRx mx) 32)::(n5,Cl (encW m) 59)::(n4,Cl (encNm n) 26)::H)))) (slQ d12) 1 encI (nodesF n.links m.way) from A5 (fun _=>rfl) hd12).mono (by exact sbt)).f0 (i:=i) qom U)) ?_ U;refine rO tb 6 U (y_ (Lo U isAgg22 (by first|exact c_o)) ?_ U);refine rO tb 1 U (y_ (Bl (T U) (T U) runUnderlying22 sizeOf140 qom (by first|exact rfl|exact(show Arr w0 (slH d12 ((nodesF n.links m.way).flatMap encI) 3++((n10,Cl (encMc mc) 135)::(M1++((n8,Cl [.int .i64 0, .slice none 0 0, .int .i64 0, .int .i64 0, .int .i64 0] 59)::(n6,Cl (encRx mx) 32)::(n5,Cl (encW m) 59)::(n4,Cl (encNm n) 26)::H)))) (slQ d12) 1 encI (nodesF n.links m.way) from A5 (fun _=>rfl) hd12).b (i:=i) qom|exact hn.nodes.b (i:=(gd (nodesF n.links m.way) i).toNat) qom|exact(show Arr w0 (slH d12 ((nodesF n.links m.way).flatMap encI) 3++((n10,Cl (encMc mc) 135)::(M1++((n8,Cl [.int .i64 0, .slice none 0 0, .int .i64 0, .int .i64 0, .int .i64 0] 59)::(n6,Cl (encRx mx) 32)::(n5,Cl (encW m) 59)::(n4,Cl (encNm n) 26)::H)))) (slQ d12) 1 encI (nodesF n.links m.way) from A5 (fun _=>rfl) hd12).b (i:=p) qom|exact hm.links.b (i:=p) qom|exact hd98.bas (Nat.lt_of_le_of_lt (Nat.zero_le _) hi2))) ?_ U);refine rO tb 1 U (y_ (Lo U isAgg9 (by first|exact c_o|exact(show Cell w0 _ _ (.string (gd n.nodes (gd (nodesF n.links m.way) i).toNat).name) from (hn.nodes.mono (by exact sbt)).f0 (i:=(gd (nodesF n.links m.way) i).toNat) qom U))) ?_ U);refine e_ (A7 (.cons (T U) .nil) (Kc3 _)) ?_ U;rintro _ _ ⟨n58,rfl,rfl⟩;refine e_ (Dk ((gd n.nodes (gd (nodesF n.links m.way) i).toNat).name) (by':=16) (enc:=encS) (d:=dN) (l:=(dNms n m.way i)) qlc (T U) (T U) runUnderlying68 runUnderlying68 sizeOf9 typeInfo9 U zeroValue9 U (fun _=>rfl) U hdN qde (by rw[names_enc qom];omega)) ?_ U;rintro _ _ ⟨d2,rfl,hd2,rfl⟩;rw[<- names_succ (show i<=m.way.links.length by omega)] at hd2 ⊢;refine rO tb 5 U (y_ (Bd (T U) An qom) ?_ U);refine rO tb 2 U ?_;refine A8 ((i+1,d2)) ?_ ?_ ⟨atd,atd,trivial⟩ (kg U) ?_
     ·exact⟨hi2,hd2⟩
     ·first|omega|(simp only[];omega)
     ·exact sbt
    ·obtain rfl:p=i:=by have h9: ¬ ((i:Nat):Int)<(p:Nat):=c48;omega
     refine rC tb 2 U (Aq (rX tb 4 U (y_ (Lp U isAgg59 sizeOf59 U (by first|exact A2)) ?_ U)));refine e_ (Ap zeroValue59 cs_) ?_ U;rintro _ _ ⟨n16,rfl,rfl⟩
     first|refine A9 (Ls U U sizeOf59) U Ac ?_
     rintro _ _ ⟨rfl,rfl⟩;refine rO tb 6 U (y_ (Bl (T U) (T U) runUnderlying41 sizeOf3 qom (by first|exact rfl|exact(show Arr w0 (slH d12 ((nodesF n.links m.way).flatMap encI) 3++((n10,Cl (encMc mc) 135)::(M1++((n8,Cl [.int .i64 0, .slice none 0 0, .int .i64 0, .int .i64 0, .int .i64 0] 59)::(n6,Cl (encRx mx) 32)::(n5,Cl (encW m) 59)::(n4,Cl (encNm n) 26)::H)))) (slQ d12) 1 encI (nodesF n.links m.way) from A5 (fun _=>rfl) hd12).b (i:=i) qom|exact hn.nodes.b (i:=(gd (nodesF n.links m.way) i).toNat) qom|exact(show Arr w0 (slH d12 ((nodesF n.links m.way).flatMap encI) 3++((n10,Cl (encMc mc) 135)::(M1++((n8,Cl [.int .i64 0, .slice none 0 0, .int .i64 0, .int .i64 0, .int .i64 0] 59)::(n6,Cl (encRx mx) 32)::(n5,Cl (encW m) 59)::(n4,Cl (encNm n) 26)::H)))) (slQ d12) 1 encI (nodesF n.links m.way) from A5 (fun _=>rfl) hd12).b (i:=p) qom|exact hm.links.b (i:=p) qom|exact hd98.bas (Nat.lt_of_le_of_lt (Nat.zero_le _) hi2))) ?_ U);refine y_ (Lo U isAgg3 (by first|exact c_o|exact((show Arr w0 (slH d12 ((nodesF n.links m.way).flatMap encI) 3++((n10,Cl (encMc mc) 135)::(M1++((n8,Cl [.int .i64 0, .slice none 0 0, .int .i64 0, .int .i64 0, .int .i64 0] 59)::(n6,Cl (encRx mx) 32)::(n5,Cl (encW m) 59)::(n4,Cl (encNm n) 26)::H)))) (slQ d12) 1 encI (nodesF n.links m.way) from A5 (fun _=>rfl) hd12).mono (by exact sbt)).f0 (i:=p) qom U)) ?_ U;refine rO tb 1 U ?_
     first|refine A9 (Ls U U sizeOf3) U Ac ?_|refine A9 (B1 (T U) (T U) U sizeOf3) U Ac ?_|refine A9 (Bu (T U) (T U) U sizeOf3) U Ac ?_
     rintro _ _ ⟨rfl,rfl⟩;refine rO tb 5 U (y_ (Lo U isAgg41 (by first|exact c_o)) ?_ U);refine rO tb 1 U (y_ (Bl (T U) (T U) runUnderlying41 sizeOf3 qom (by first|exact rfl|exact(show Arr w0 (slH d12 ((nodesF n.links m.way).flatMap encI) 3++((n10,Cl (encMc mc) 135)::(M1++((n8,Cl [.int .i64 0, .slice none 0 0, .int .i64 0, .int .i64 0, .int .i64 0] 59)::(n6,Cl (encRx mx) 32)::(n5,Cl (encW m) 59)::(n4,Cl (encNm n) 26)::H)))) (slQ d12) 1 encI (nodesF n.links m.way) from A5 (fun _=>rfl) hd12).b (i:=i) qom|exact hn.nodes.b (i:=(gd (nodesF n.links m.way) i).toNat) qom|exact(show Arr w0 (slH d12 ((nodesF n.links m.way).flatMap encI) 3++((n10,Cl (encMc mc) 135)::(M1++((n8,Cl [.int .i64 0, .slice none 0 0, .int .i64 0, .int .i64 0, .int .i64 0] 59)::(n6,Cl (encRx mx) 32)::(n5,Cl (encW m) 59)::(n4,Cl (encNm n) 26)::H)))) (slQ d12) 1 encI (nodesF n.links m.way) from A5 (fun _=>rfl) hd12).b (i:=p) qom|exact hm.links.b (i:=p) qom|exact hd98.bas (Nat.lt_of_le_of_lt (Nat.zero_le _) hi2))) ?_ U);refine y_ (Lo U isAgg3 (by first|exact c_o|exact(hm.links.mono (by exact sbt)).f0 (i:=p) qom U)) ?_ U;refine e_ (A7 (.cons (T U) .nil) (C9)) ?_ U;rintro _ _ ⟨n72,rfl,rfl⟩;refine y_ (Bg (.cons (T U) (.cons An .nil)) (Hq _ _ _ _)) (e_ (Ap zeroValue64 cs_) ?_ U) U;rintro _ _ ⟨n17,rfl,rfl⟩
     first|refine A9 (Ls U U sizeOf64) U Ac ?_
     rintro _ _ ⟨rfl,rfl⟩;refine rO tb 4 U (Jm 17 19 ((n17,Cl [.slice (some ⟨n72,0,none⟩) 1 1, .int .i64 (-1)] 64)::(n72,Cl [.int .i64 (gd m.way.links p)] 3)::(slH dN ((dNms n m.way p).flatMap encS) 9++(slH d12 ((nodesF n.links m.way).flatMap encI) 3++((n10,Cl (encMc mc) 135)::(M1++((n8,Cl [.int .i64 0, .slice none 0 0, .int .i64 0, .int .i64 0, .int .i64 0] 59)::(n6,Cl (encRx mx) 32)::(n5,Cl (encW m) 59)::(n4,Cl (encNm n) 26)::H)))))) ((n17,Cl [.slice (some ⟨n72,0,none⟩) 1 1, .int .i64 (-1)] 64)::(n72,Cl [.int .i64 (gd m.way.links p)] 3)::(n16,Cl [.int .i64 (gd (nodesF n.links m.way) p), .slice m.q m.way.links.length m.cap, .int .i64 m.way.port, .int .i64 m.way.tag, .int .i64 m.way.step] 59)::(slH dN ((dNms n m.way p).flatMap encS) 9++(slH d12 ((nodesF n.links m.way).flatMap encI) 3++((n10,Cl (encMc mc) 135)::(M1++((n8,Cl [.int .i64 0, .slice none 0 0, .int .i64 0, .int .i64 0, .int .i64 0] 59)::(n6,Cl (encRx mx) 32)::(n5,Cl (encW m) 59)::(n4,Cl (encNm n) 26)::H)))))) mixd qkr (by exact sbt) (by exact sbt) ?_ By);refine Ch [0] qkr U (i:=0) U qkr (Lp U isAgg26 sizeOf26 U (by first|exact A2)) ?_ U Ac;refine Ch [1] qkr U (i:=1) U qkr (Lp U isAgg64 sizeOf64 U (by first|exact A2)) ?_ U Ac;refine Ch [2] qkr U (i:=2) U qkr (Lp U isAgg135 sizeOf135 U (by first|exact A2)) ?_ U Ac;refine Ch [3] qkr U (i:=3) U qkr (Lp U isAgg135 sizeOf135 U (by first|exact A2)) ?_ U Ac;refine Ch [4] qkr U (i:=4) U qkr (Af (T U)) ?_ U Ac;refine Ch [5] qkr U (i:=5) U qkr (Bb (qe2 U U) call77 (fun H' hs=>run_s mc ((hmc _).mono (stn hs)) (by rw[hmp];exact hb.1) (by rw[show mc.names=mc.pl.names from rfl,hmp];exact hb.2) (by rw[show mc.names=mc.pl.names from rfl,hmp];omega) (dNms n m.way p) (slQ dN) (slC dN) ((show Arr w0 (slH dN ((dNms n m.way p).flatMap encS) 9++(slH d12 ((nodesF n.links m.way).flatMap encI) 3++((n10,Cl (encMc mc) 135)::(M1++((n8,Cl [.int .i64 0, .slice none 0 0, .int .i64 0, .int .i64 0, .int .i64 0] 59)::(n6,Cl (encRx mx) 32)::(n5,Cl (encW m) 59)::(n4,Cl (encNm n) 26)::H))))) (slQ dN) 1 encS (dNms n m.way p) from A5 (fun _=>rfl) hdN).mono (stn hs)) (by rw[names_enc qom];omega))) ?_ U Ac;refine Ch [7] qkr U (i:=7) U qkr (Cj (T U) Gt) ?_ U Ac;refine Ch [8] qkr U (i:=8) U qkr (Lo U isAgg3 (by first|exact c_o)) ?_ U Ac;refine Ch [9] qkr U (i:=9) U qkr (Lp U isAgg26 sizeOf26 U (by first|exact A2)) ?_ U Ac;refine Ch [10] qkr U (i:=10) U qkr (Lp U isAgg59 sizeOf59 U (by first|exact A2)) ?_ U Ac;refine De (i:=6) qkr qkr ?_;refine Eo U (A1 (qe2 U U) call76 (from_g mc ((hmc _).mono (by exact sbt)) (by rw[hmp];exact hb.1) (by rw[show mc.names=mc.pl.names from rfl,hmp];omega) (runM mc.pl (dNms n m.way p)) (I9 (by rw[hmp];exact hb.1) _))) ?_ U Ac qkr;rintro _ _ ⟨mc2,M2,⟨rfl,hmc2,hmp2⟩,rfl⟩;refine⟨sbt,(Ch [11] qkr U (i:=11) U qkr (Bb (qe2 U U) call78 (fun H' hs=>last_g n (hn.mono (stn hs)) m (hm.mono (stn hs)) qom)) ?_ U Ac)⟩;refine De (i:=12) qkr qkr ?_;refine Eo U (A1 (.cons (T U) (.cons (T U) (.cons (T U) (.cons (T U) (.cons (T U) .nil))))) call75 (dfind_g n (hn.mono (by exact sbt)) m.way hw mc2 ((hmc2 _ ((hmc _).mono (by exact sbt))).mono (by exact sbt)) (buildF leastF e).1 hb.1 hb.2 qom p hpl (by rw[hmp2,hmp]) (some ⟨n72,0,none⟩) 1 (Cq (fun _=>rfl) U fdd))) ?_ U Ac qkr;rintro _ _ ⟨dL,⟨rfl,hdL⟩,rfl⟩;refine⟨sbt,(Ch [13] qkr U (i:=13) U qkr (Af (T U)) ?_ U Ac)⟩;refine Ch [14] qkr U (i:=14) U qkr (Bx (T U) U) ?_ U Ac;refine w_y (i:=15) U qkr (Bx (T U) U) ?_ U Ac;refine Ch [16] qkr U (i:=16) U qkr (Bt (T U) Fq) ?_ U Ac;refine De (i:=17) qkr qkr ?_
     first|refine Fj U (Ls U U sizeOf41) ?_ U Ac qkr|refine Fj U (B1 (T U) (T U) U sizeOf41) ?_ U Ac qkr|refine Fj U (Bu (T U) (T U) U sizeOf41) ?_ U Ac qkr
     rintro _ _ ⟨rfl,rfl⟩;refine⟨sbt,(w_y (i:=18) U qkr (Ag (T U)) ?_ U Ac)⟩;refine H8 qkr U ?_;refine kO tb 2 [4,8,11,16] rfl U (rG tb 6 U ?_)
     first|refine Ak (Aa U) (fun c92=> ?_) (fun c92=> ?_)|refine Au (Aa U) (fun c92=> ?_) (fun c92=> ?_)
     ·have hf18:(dFnd n m.way (buildF leastF e).1 p).2=18:=(find_two _ _ _ _ _).resolve_left c92;refine rC tb 2 U (y_ (Bg .nil (Jf)) (rO tb 1 U ?_) U)
      first|refine A9 (Ls U U sizeOf59) U Ac ?_
      rintro _ _ ⟨rfl,rfl⟩;refine rO tb 5 U (As U (.cellA (Aa U) isAgg59 sizeOf59 U (by first|exact A2) (Ll U)) ?_);have h1:=dtr_nof hpl hb0 c92;refine⟨_,⟨⟨wZ,none,0⟩,[],⟨by rw[h1,hf18];rfl,by rw[h1],fun X i x hi=>by simp at hi⟩,rfl⟩,sbt⟩
     ·have hf0:(dFnd n m.way (buildF leastF e).1 p).2=0:=Decidable.byContradiction c92;have hfw:=dFnd_walk hw hb.1 hpl hf0;have hfl:(toInts (dFnd n m.way (buildF leastF e).1 p).1).length<=2401:=by unfold toInts;rw[List.length_map];exact hfw.2.2
      have hn2:(nodesF n.links (dWay n m.way p (toInts (dFnd n m.way (buildF leastF e).1 p).1))).length=(toInts (dFnd n m.way (buildF leastF e).1 p).1).length+1:=Co n.links (dWay n m.way p (toInts (dFnd n m.way (buildF leastF e).1 p).1));refine rC tb 4 U (e_ Dd ?_ U);rintro _ _ ⟨n95,rfl,rfl⟩;refine rO tb 6 U (y_ (Lp U isAgg26 sizeOf26 U (by first|exact A2)) ?_ U);refine y_ (Lp U isAgg59 sizeOf59 U (by first|exact A2)) ?_ U;refine e_ (A1 (qe2 U U) call74 (Jb n (hn.mono (by exact sbt)) ⟨(dWay n m.way p (toInts (dFnd n m.way (buildF leastF e).1 p).1)),slQ dL,slC dL⟩ ⟨(show Arr w0 (slH dL ((toInts (dFnd n m.way (buildF leastF e).1 p).1).flatMap encI) 3++(M2++((n17,Cl [.slice (some ⟨n72,0,none⟩) 1 1, .int .i64 (-1)] 64)::(n72,Cl [.int .i64 (gd m.way.links p)] 3)::(n16,Cl (encW ⟨(dWay n m.way p (toInts (dFnd n m.way (buildF leastF e).1 p).1)),slQ dL,slC dL⟩) 59)::(slH dN ((dNms n m.way p).flatMap encS) 9++(slH d12 ((nodesF n.links m.way).flatMap encI) 3++((n10,Cl (encMc mc) 135)::(M1++((n8,Cl [.int .i64 0, .slice none 0 0, .int .i64 0, .int .i64 0, .int .i64 0] 59)::(n6,Cl (encRx mx) 32)::(n5,Cl (encW m) 59)::(n4,Cl (encNm n) 26)::H)))))))) (slQ dL) 1 encI (toInts (dFnd n m.way (buildF leastF e).1 p).1) from A5 (fun _=>rfl) hdL).mono (by exact sbt),by show (toInts (dFnd n m.way (buildF leastF e).1 p).1).length<=_;omega,hm.pb⟩ hfw.2.1 (by show (toInts (dFnd n m.way (buildF leastF e).1 p).1).length<=_;omega))) ?_ U;rintro _ _ ⟨d98,⟨rfl,hd98⟩,rfl⟩;refine rO tb 5 U ?_;refine Bz (X:=Nat) (V:=fun i=>[(100, .int .i64 (i:Nat))]) (C:=[(8,_),(16,_),(18,_),(98,_),(99,_)]) (G:=fun i=>slH d98 ((nodesF n.links (dWay n m.way p (toInts (dFnd n m.way (buildF leastF e).1 p).1))).flatMap encI) 3++((n95,mapO encK1 encBv (trueL ((nodesF n.links (dWay n m.way p (toInts (dFnd n m.way (buildF leastF e).1 p).1))).take i)))::(slH dL ((toInts (dFnd n m.way (buildF leastF e).1 p).1).flatMap encI) 3++(M2++((n17,Cl [.slice (some ⟨n72,0,none⟩) 1 1, .int .i64 (-1)] 64)::(n72,Cl [.int .i64 (gd m.way.links p)] 3)::(n16,Cl (encW ⟨(dWay n m.way p (toInts (dFnd n m.way (buildF leastF e).1 p).1)),slQ dL,slC dL⟩) 59)::(slH dN ((dNms n m.way p).flatMap encS) 9++(slH d12 ((nodesF n.links m.way).flatMap encI) 3++((n10,Cl (encMc mc) 135)::(M1++((n8,Cl [.int .i64 0, .slice none 0 0, .int .i64 0, .int .i64 0, .int .i64 0] 59)::(n6,Cl (encRx mx) 32)::(n5,Cl (encW m) 59)::(n4,Cl (encNm n) 26)::H)))))))))) (φ:=fun i=>i<=(nodesF n.links (dWay n m.way p (toInts (dFnd n m.way (buildF leastF e).1 p).1))).length/\((nodesF n.links (dWay n m.way p (toInts (dFnd n m.way (buildF leastF e).1 p).1))).take i).Nodup) (μ:=fun i=>(nodesF n.links (dWay n m.way p (toInts (dFnd n m.way (buildF leastF e).1 p).1))).length - i) (x0:=0) ?_ (kg U) ⟨atd,trivial⟩ (by exact List.Sublist.refl _) ?_
      ·exact⟨Nat.zero_le _,List.nodup_nil⟩
      rintro i ⟨hi,hnd⟩;refine rD tb 6 U ?_
      first|refine Ak (Aa U) (fun c101=> ?_) (fun c101=> ?_)|refine Au (Aa U) (fun c101=> ?_) (fun c101=> ?_)
      ·have hi2:i<(nodesF n.links (dWay n m.way p (toInts (dFnd n m.way (buildF leastF e).1 p).1))).length:=by have h9:((i:Nat):Int)<((nodesF n.links (dWay n m.way p (toInts (dFnd n m.way (buildF leastF e).1 p).1))).length:Nat):=c101;omega
       refine rC tb 6 U (y_ (Lq U U runUnderlying41 sizeOf3 qom (by first|exact rfl|exact(show Arr w0 (slH d12 ((nodesF n.links m.way).flatMap encI) 3++((n10,Cl (encMc mc) 135)::(M1++((n8,Cl [.int .i64 0, .slice none 0 0, .int .i64 0, .int .i64 0, .int .i64 0] 59)::(n6,Cl (encRx mx) 32)::(n5,Cl (encW m) 59)::(n4,Cl (encNm n) 26)::H)))) (slQ d12) 1 encI (nodesF n.links m.way) from A5 (fun _=>rfl) hd12).b (i:=i) qom|exact hn.nodes.b (i:=(gd (nodesF n.links m.way) i).toNat) qom|exact(show Arr w0 (slH d12 ((nodesF n.links m.way).flatMap encI) 3++((n10,Cl (encMc mc) 135)::(M1++((n8,Cl [.int .i64 0, .slice none 0 0, .int .i64 0, .int .i64 0, .int .i64 0] 59)::(n6,Cl (encRx mx) 32)::(n5,Cl (encW m) 59)::(n4,Cl (encNm n) 26)::H)))) (slQ d12) 1 encI (nodesF n.links m.way) from A5 (fun _=>rfl) hd12).b (i:=p) qom|exact hm.links.b (i:=p) qom|exact hd98.bas (Nat.lt_of_le_of_lt (Nat.zero_le _) hi2))) ?_ U);refine y_ (Lo U isAgg3 (by first|exact c_o|exact(show Cell w0 _ _ (.int .i64 (gd (nodesF n.links (dWay n m.way p (toInts (dFnd n m.way (buildF leastF e).1 p).1))) i)) from ((show Arr w0 (slH d98 ((nodesF n.links (dWay n m.way p (toInts (dFnd n m.way (buildF leastF e).1 p).1))).flatMap encI) 3++((n95,mapO encK1 encBv (trueL ((nodesF n.links (dWay n m.way p (toInts (dFnd n m.way (buildF leastF e).1 p).1))).take i)))::(slH dL ((toInts (dFnd n m.way (buildF leastF e).1 p).1).flatMap encI) 3++(M2++((n17,Cl [.slice (some ⟨n72,0,none⟩) 1 1, .int .i64 (-1)] 64)::(n72,Cl [.int .i64 (gd m.way.links p)] 3)::(n16,Cl (encW ⟨(dWay n m.way p (toInts (dFnd n m.way (buildF leastF e).1 p).1)),slQ dL,slC dL⟩) 59)::(slH dN ((dNms n m.way p).flatMap encS) 9++(slH d12 ((nodesF n.links m.way).flatMap encI) 3++((n10,Cl (encMc mc) 135)::(M1++((n8,Cl [.int .i64 0, .slice none 0 0, .int .i64 0, .int .i64 0, .int .i64 0] 59)::(n6,Cl (encRx mx) 32)::(n5,Cl (encW m) 59)::(n4,Cl (encNm n) 26)::H)))))))))) (slQ d98) 1 encI (nodesF n.links (dWay n m.way p (toInts (dFnd n m.way (buildF leastF e).1 p).1))) from A5 (fun _=>rfl) hd98).mono (by exact sbt)).f0 (i:=i) hi2 U))) ?_ U;refine rO tb 8 U ?_;refine y_ (yl_seenL (l:=(nodesF n.links (dWay n m.way p (toInts (dFnd n m.way (buildF leastF e).1 p).1))).take i) (p:=gd (nodesF n.links (dWay n m.way p (toInts (dFnd n m.way (buildF leastF e).1 p).1))) i) keyIT (T U) (T U) U runUnderlying144 zeroValue4 fdd) ?_ U;refine rO tb 2 U ?_
       first|refine Ak (Aa U) (fun c106=> ?_) (fun c106=> ?_)|refine Au (Aa U) (fun c106=> ?_) (fun c106=> ?_)
       ·refine rC tb 2 U (y_ (Bg .nil (Jf)) ?_ U)
        first|refine A9 (Ls U U sizeOf59) U Ac ?_
        rintro _ _ ⟨rfl,rfl⟩;refine rO tb 7 U (Bc (rX tb 2 U (As U (.cellA (Aa U) isAgg59 sizeOf59 U (by first|exact A2) (Ll U)) ?_)));have h1:=dtr_two hpl hb0 hf0 (nd_no hi2 c106);refine⟨_,⟨⟨wZ,none,0⟩,[],⟨by rw[h1];rfl,by rw[h1],fun X i x hi=>by simp at hi⟩,rfl⟩,sbt⟩
       ·refine rC tb 5 U (e_ (C5 (l:=trueL ((nodesF n.links (dWay n m.way p (toInts (dFnd n m.way (buildF leastF e).1 p).1))).take i)) (encV:=encBv) (gd (nodesF n.links (dWay n m.way p (toInts (dFnd n m.way (buildF leastF e).1 p).1))) i) true (keyIT (V:=Bool)) (T U) (T U) U An U runUnderlying144) ?_ U);rintro _ _ ⟨rfl,rfl⟩;rw[upsert_trueL c106,<- C6 hi2];refine rO tb 4 U (y_ (Bd (T U) An qom) ?_ U);refine rO tb 2 U ?_;refine A8 (i+1) ?_ ?_ ⟨atd,trivial⟩ (kg U) ?_
        ·exact⟨hi2,nd_take hi2 hnd c106⟩
        ·first|omega|(simp only[];omega)
        ·exact sbt
      ·obtain rfl:i=(nodesF n.links (dWay n m.way p (toInts (dFnd n m.way (buildF leastF e).1 p).1))).length:=by have h9: ¬ ((i:Nat):Int)<((nodesF n.links (dWay n m.way p (toInts (dFnd n m.way (buildF leastF e).1 p).1))).length:Nat):=c101;omega
       rw[List.take_length] at hnd;refine rC tb 2 U (Aq (rX tb 4 U (y_ (Lp U isAgg59 sizeOf59 U (by first|exact A2)) ?_ U)))
       first|refine A9 (Ls U U sizeOf59) U Ac ?_
       rintro _ _ ⟨rfl,rfl⟩;refine rO tb 4 U (As U (.cellA (Aa U) isAgg59 sizeOf59 U (by first|exact A2) (Ll U)) ?_);have h1:=Ks hpl hb0 hf0 hnd;refine⟨_,⟨⟨(dWay n m.way p (toInts (dFnd n m.way (buildF leastF e).1 p).1)),slQ dL,slC dL⟩,slH dL ((toInts (dFnd n m.way (buildF leastF e).1 p).1).flatMap encI) 3,⟨by rw[h1];rfl,by rw[h1],fun X=>A5 (fun _=>rfl) hdL⟩,rfl⟩,sbt⟩
section
variable {P:Program} {w0:World} {L:Fm} {ty t:TypeId} {H:List (Nat × Obj)} {x y z:Operand}
theorem yl_sliceA {e:TypeId}{n b sz:Nat}(hx:Ev L x (.pointer (some ⟨b,0,none⟩)))(ht:∀ w,(underlying t).run P w= .ok (.array n e) w)(hs:∀ w,(sizeOf e).run P w= .ok sz w):
  Yl P w0 (.slice t x none none none) ty L H (.slice (some ⟨b,0,none⟩) n n):=B3 U fun b w=>by
 simp[exO,execOp,Instr.sliceAt,Instr.sureAddr,Instr.sliceBounds,Instr.sliceBound,asIntOf,hx b,ht,hs,Sem.run_bind,Result.andThen,Addr.add]
theorem yl_ssL {s:ByteArray}{k:Nat}(hx:Ev L x (.string s))(hz:Ev L z (.int .i64 (k:Int)))(ht:∀ w,(underlying t).run P w= .ok .string w)(h:k<=s.size):
  Yl P w0 (.slice t x (some z) none none) ty L H (.string (s.extract k s.size)):=B3 U fun b w=>by
 simp[exO,execOp,Instr.sliceAt,Instr.slice,Instr.sliceBounds,Instr.sliceBound,asIntOf,hx b,hz b,ht,Sem.run_bind,Result.andThen,show (k:Int)<=s.size by omega];rw[if_pos h]
theorem yl_ssH {s:ByteArray}{k:Nat}(hx:Ev L x (.string s))(hz:Ev L z (.int .i64 (k:Int)))(ht:∀ w,(underlying t).run P w= .ok .string w)(h:k<=s.size):
  Yl P w0 (.slice t x none (some z) none) ty L H (.string (s.extract 0 k)):=B3 U fun b w=>by
 simp[exO,execOp,Instr.sliceAt,Instr.slice,Instr.sliceBounds,Instr.sliceBound,asIntOf,hx b,hz b,ht,Sem.run_bind,Result.andThen,show (k:Int)<=s.size by omega];rw[if_pos h]
end
theorem ext_byte {s:ByteArray}{k:Nat}(h:k<s.size):0<(s.extract k s.size).size/\∀ h0,(s.extract k s.size)[0]'h0=s[k]:=by
 have e:(s.extract k s.size).size=s.size - k:=by rw[ByteArray.size_extract];omega
 refine⟨by omega,fun h0=> ?_⟩;rw[ByteArray.getElem_extract];simp
theorem ext_all (s:ByteArray):s.extract 0 s.size=s:=by
 apply ByteArray.ext;simp
theorem Kc4 (a0:Int)(a1:Int)(w:World):(Instr.build 179 #[(0, .int .i64 a0),(1, .int .i64 a1)]).run prog w= .ok (.agg #[.int .i64 a0, .int .i64 a1]) w:=by kernel_rfl
theorem words_srt:Srt wordsL:=by
 unfold Srt;exact of_decide_eq_true qkr
abbrev F106:Value:= .func (.func 101) #[] #[]
abbrev F202:Value:= .func (.func 209) #[] #[]
theorem pwi_s {w0:World}{H:List (Nat × Obj)}(a b c:Int):
  FSpec prog w0 233 #[.int .u8 a, .int .u8 b, .int .u8 c] H (Still (.bool (decide (b<=a/\a<=c))) H):=by
 refine Az func233 U ntmps233 U (rD tb 11 U ?_)
 first|refine Bi (s:=10) (Aa U) (fun c10=> ?_) (fun c10=> ?_)|refine B2 (s:=10) (Aa U) (fun c10=> ?_) (fun c10=> ?_)
 ·refine rO tb 8 U (As U (Ll U) ?_);exact⟨_,⟨vbool (by first|exact decide_eq_decide.2 (by constructor<;>intro h<;>omega)|exact(decide_eq_false qom).symm),rfl⟩,sbt⟩
 ·refine rO tb 8 U (As U (Ll U) ?_);exact⟨_,⟨vbool (by first|exact decide_eq_decide.2 (by constructor<;>intro h<;>omega)|exact(decide_eq_false qom).symm),rfl⟩,sbt⟩
theorem plet_s {w0:World}{H:List (Nat × Obj)}(c:Int):
  FSpec prog w0 207 #[.int .u8 c] H (Still (.bool (chB c)) H):=by
 refine Az func207 U ntmps207 U (rD tb 8 U (y_ (Bb (.cons (T U) (.cons An (.cons An .nil))) call233 (fun H' hs=>pwi_s _ _ _)) (rO tb 4 U (As U (Ll U) ?_)) U));exact⟨_,⟨rfl,rfl⟩,sbt⟩
theorem pdig_s {w0:World}{H:List (Nat × Obj)}(c:Int):
  FSpec prog w0 234 #[.int .u8 c] H (Still (.bool (dgB c)) H):=by
 refine Az func234 U ntmps234 U (rD tb 8 U (y_ (Bb (.cons (T U) (.cons An (.cons An .nil))) call233 (fun H' hs=>pwi_s _ _ _)) (rO tb 4 U (As U (Ll U) ?_)) U));exact⟨_,⟨rfl,rfl⟩,sbt⟩
theorem pwb_s {w0:World}{H:List (Nat × Obj)}(c:Int):
  FSpec prog w0 210 #[.int .u8 c] H (Still (.bool (wbB c)) H):=by
 refine Az func210 U ntmps210 U (rD tb 8 U (y_ (Bb (qe1 U) call207 (fun H' hs=>plet_s _)) (rO tb 1 U ?_) U))
 first|refine Bi (s:=5) (Aa U) (fun c5=> ?_) (fun c5=> ?_)|refine B2 (s:=5) (Aa U) (fun c5=> ?_) (fun c5=> ?_)
 ·refine rO tb 11 U (As U (Ll U) ?_);exact⟨_,⟨vbool (by unfold wbB chB dgB;simp[*]),rfl⟩,sbt⟩
 ·refine rO tb 1 U (A3 (Bb (qe1 U) call234 (fun H' hs=>pdig_s _)) U (Ax U U (Aa U)) (rO tb 2 U ?_))
  first|refine Bi (s:=9) (Aa U) (fun c9=> ?_) (fun c9=> ?_)|refine B2 (s:=9) (Aa U) (fun c9=> ?_) (fun c9=> ?_)
  ·refine rO tb 7 U (As U (Ll U) ?_);exact⟨_,⟨vbool (by unfold wbB chB dgB;simp[*]),rfl⟩,sbt⟩
  ·refine rO tb 7 U (As U (Ll U) ?_);exact⟨_,⟨vbool (by unfold wbB chB dgB;simp[*]),rfl⟩,sbt⟩
theorem pnm1_s {w0:World}{H:List (Nat × Obj)}(s:ByteArray)(hz:0<s.size)(c:Int)(hc:(s[0].toNat:Int)=c):
  FSpec prog w0 209 #[.string s] H (Still (.bool (wbB c)) H):=by
 refine Az func209 U ntmps209 U (rD tb 8 U (y_ (Fk (T U) An runUnderlying9 (by exact hz)) ?_ U));refine y_ (Bb (qe1 U) call210 (fun H' hs=>pwb_s _)) (rO tb 4 U (As U (Ll U) ?_)) U;exact⟨_,⟨by rw[<- hc];rfl,rfl⟩,sbt⟩
theorem ppre_s {w0:World}{H:List (Nat × Obj)}(s:ByteArray)(hs:s.size<=9223372036854775807)(hw:∀ j,j<s.size->wbB (bz s j)=true):
  FSpec prog w0 208 #[.string s,F202] H (Still (.string s) H):=by
 refine Az func208 U ntmps208 U (rD tb 12 U ?_);refine Cb (X:=Nat) (V:=fun i=>[(5, .int .i64 (i:Nat))]) (C:=[(0,_),(1,_)]) (φ:=fun i=>i<=s.size) (μ:=fun i=>s.size - i) (x0:=0) ?_ (kg U) ⟨atd,trivial⟩ ?_
 ·exact Nat.zero_le _
 rintro i hi;refine rD tb 5 U (y_ (Gn (T U) runUnderlying9) (rO tb 2 U ?_) U)
 first|refine Bi (s:=10) (Aa U) (fun c10=> ?_) (fun c10=> ?_)|refine B2 (s:=10) (Aa U) (fun c10=> ?_) (fun c10=> ?_)
 ·refine rO tb 3 U (A3 (yl_ssL (T U) (T U) runUnderlying9 qom) U (Ax U U (Aa U)) ?_);refine A3 (C1 (T U) (qe1 U) call209 (fun H' hs=>(by have h:=pnm1_s (w0:=w0) (H:=H') (s.extract i s.size) (ext_byte qom).1 (bz s i) (by rw[(ext_byte qom).2,bz_eq qom]);rw[hw i qom] at h;exact h))) U (Ax U U (Aa U)) ?_;refine rO tb 3 U ?_
  first|refine Ak (Aa U) (fun c16=> ?_) (fun c16=> ?_)|refine Au (Aa U) (fun c16=> ?_) (fun c16=> ?_)
  ·refine rC tb 5 U (y_ (Bd (T U) An qom) ?_ U);refine rO tb 3 U ?_;refine A8 (i+1) ?_ ?_ ⟨atd,trivial⟩ (kg U) ?_
   ·show i+1<=_;omega
   ·first|omega|(simp only[];omega)
   ·exact sbt
  ·refine rC tb 2 U (Aq (rX tb 6 U (y_ (yl_ssH (T U) (T U) runUnderlying9 qom) ?_ U)));refine rO tb 4 U (As U (Ll U) ?_);cases c16
 ·refine rO tb 11 U (Aq (rX tb 6 U (y_ (yl_ssH (T U) (T U) runUnderlying9 qom) ?_ U)));refine rO tb 4 U (As U (Ll U) ?_);obtain rfl:i=s.size:=by omega
  rw[ext_all];exact⟨_,⟨rfl,rfl⟩,sbt⟩
theorem pnam_s {w0:World}{H:List (Nat × Obj)}(s:ByteArray)(hk:NmOk s)(hW:Arr w0 [] (some ⟨0,0,none⟩) 1 encS wordsL):
  FSpec prog w0 188 #[.string s] H (Still (.bool true) H):=by
 refine Az func188 U ntmps188 U ?_;have hz:=hk.z;have hn:=hk.n;have hz0:0<s.size:=by omega
 have hch:chB (s[0].toNat:Int)=true:=by rw[<- bz_eq hz0];exact hk.c
 refine rD tb 9 U (y_ (Fn (T U) An) (rO tb 1 U ?_) U)
 first|refine Bi (s:=7) (Aa U) (fun c7=> ?_) (fun c7=> ?_)|refine B2 (s:=7) (Aa U) (fun c7=> ?_) (fun c7=> ?_)
 ·refine rO tb 20 U (As U (Ll U) ?_);exact absurd (nd_nil (s:=s) (b:=true) (by rw[decide_eq_true c7]) U) (fun e=>hz (by rw[e];rfl))
 ·refine rO tb 1 U (A3 (Gn (T U) runUnderlying9) U (Ax U U (Aa U)) (rO tb 3 U ?_))
  first|refine Bi (s:=12) (Aa U) (fun c12=> ?_) (fun c12=> ?_)|refine B2 (s:=12) (Aa U) (fun c12=> ?_) (fun c12=> ?_)
  ·refine rO tb 15 U (As U (Ll U) ?_);exfalso;omega
  ·refine rO tb 1 U (A3 (Fk (T U) An runUnderlying9 (by exact hz0)) U (Ax U U (Aa U)) ?_);refine A3 (Bb (qe1 U) call207 (fun H' hs=>plet_s _)) U (Ax U U (Aa U)) ?_
   first|refine A3 (B7 (T U)) U (Ax U U (Aa U)) ?_|refine A3 (Cc (T U)) U (Ax U U (Aa U)) ?_
   refine rO tb 3 U ?_
   first|refine Ak (Aa U) (fun c17=> ?_) (fun c17=> ?_)|refine Au (Aa U) (fun c17=> ?_) (fun c17=> ?_)
   ·refine rC tb 7 U (As U (Ll U) ?_);exact absurd (of_decide_eq_true hch) c17
   ·refine rC tb 4 U (y_ (yl_sliceA ev_g runUnderlying291 sizeOf9) (rO tb 1 U (y_ (Bb (qe2 U U) call174 (fun H' hs=>bs_s wordsL (some ⟨0,0,none⟩) 49 s (hW.mono (List.nil_sublist _)) words_srt qde)) ?_ U)) U);refine rO tb 10 U ?_
    first|refine A3 (B7 (T U)) U Ac ?_|refine A3 (Cc (T U)) U Ac ?_
    refine rO tb 1 U ?_
    first|refine Bi (s:=26) (Aa U) (fun c26=> ?_) (fun c26=> ?_)|refine B2 (s:=26) (Aa U) (fun c26=> ?_) (fun c26=> ?_)
    ·refine rO tb 1 U (A3 (Bb (.cons (T U) (.cons Ku .nil)) call208 (fun H' hs=>ppre_s s qom hk.w)) U (Ax U U (Aa U)) ?_);refine rO tb 1 U (A3 (Fn (T U) (T U)) U (Ax U U (Aa U)) (kO tb 4 [2] rfl U (rG tb 1 U (As U (Ll U) ?_))));exact⟨_,⟨vbool (decide_eq_true U),rfl⟩,sbt⟩
    ·refine kO tb 8 [2] rfl U (rG tb 1 U (As U (Ll U) ?_));obtain⟨h1,h2⟩:=Classical.not_not.1 c26;exact absurd (toL_inj h2 ▸ Ao h1) hk.k
theorem ppl_s {w0:World}{H:List (Nat × Obj)}(s:ByteArray)(hk:NmOk s)(hW:Arr w0 [] (some ⟨0,0,none⟩) 1 encS wordsL):
  FSpec prog w0 155 #[.string s] H (Still (.bool true) H):=by
 refine Az func155 U ntmps155 U (rD tb 8 U (y_ (Bb (qe1 U) call188 (fun H' hs=>pnam_s s hk hW)) (rO tb 4 U (As U (Ll U) ?_)) U));exact⟨_,⟨rfl,rfl⟩,sbt⟩
theorem pwith_s {w0:World}{H:List (Nat × Obj)}(a b c d:Nat)(h:a+b+c+d<=1000000000):
  FSpec prog w0 187 #[.agg #[.int .i64 (a:Nat), .int .i64 (b:Nat)], .agg #[.int .i64 (c:Nat), .int .i64 (d:Nat)]] H (Still (.agg #[.int .i64 ((a+c:Nat):Int), .int .i64 ((max b (d+1):Nat):Int)]) H):=by
 refine Az func187 U ntmps187 U (rD tb 2 U (e_ (Lt U cs_) ?_ U));rintro _ _ ⟨n2,rfl,rfl⟩;refine e_ (Lt U cs_) ?_ U;rintro _ _ ⟨n3,rfl,rfl⟩;refine e_ (Ap zeroValue179 cs_) ?_ U;rintro _ _ ⟨n4,rfl,rfl⟩;refine rO tb 5 U (y_ (Lo U isAgg3 (by first|exact c_o)) ?_ U);refine rO tb 1 U (y_ (Lo U isAgg3 (by first|exact c_o)) ?_ U);refine y_ (Bd (T U) (T U) qom) ?_ U;refine rO tb 1 U (y_ (Lo U isAgg3 (by first|exact c_o)) ?_ U);refine rO tb 1 U (y_ (Lo U isAgg3 (by first|exact c_o)) ?_ U);refine y_ (Bd (T U) An qom) ?_ U;refine y_ (Kg (T U) (T U)) (y_ (Bg (.cons (T U) (.cons (T U) .nil)) (Kc4 _ _)) ?_ U) U
 first|refine A9 (Ls U U sizeOf179) U Ac ?_
 rintro _ _ ⟨rfl,rfl⟩;refine rO tb 3 U (As U (.cellA (Aa U) isAgg179 sizeOf179 U (by first|exact A2) .nil) ?_);exact⟨_,⟨by rw[show ((a+c:Nat):Int)=a+c by omega,show ((max b (d+1):Nat):Int)=max (b:Int) ((d:Int)+1) by omega];rfl,rfl⟩,sbt⟩
def psizS (w0:World) (m:Rxm):Prop:=∀ H:List (Nat × Obj),RxM w0 H m->m.sz<=8388608->FSpec prog w0 101 #[.agg (encRx m).toArray] H (Still (.agg #[.int .i64 (m.sz:Nat), .int .i64 (m.dp:Nat)]) H)
theorem pall_s {w0:World}{H:List (Nat × Obj)}(l:List Rxm)(q:Option Addr)(c:Nat)(hA:Arr w0 H q 3 encRx l)(hlz:szL l<=8388608)(hlM:∀ a∈l,RxM w0 H a)(ih:∀ a∈l,psizS w0 a):
  FSpec prog w0 153 #[.slice q l.length c,F106] H (Still (.agg #[.int .i64 ((1+szL l:Nat):Int), .int .i64 ((dpL l:Nat):Int)]) H):=by
 refine Az func153 U ntmps153 U ?_;have hln:=szL_len l;refine rD tb 2 U (e_ (Ap zeroValue179 cs_) ?_ U);rintro _ _ ⟨n4,rfl,rfl⟩;refine rO tb 4 U (y_ (Bg (.cons An (.cons An .nil)) (Kc4 _ _)) (e_ (Ap zeroValue179 cs_) ?_ U) U);rintro _ _ ⟨n5,rfl,rfl⟩
 first|refine A9 (Ls U U sizeOf179) U Ac ?_
 rintro _ _ ⟨rfl,rfl⟩;refine rO tb 11 U ?_;refine Bz (X:=Nat) (V:=fun i=>[(11, .int .i64 (i:Nat))]) (C:=[(1,_),(4,_),(5,_),(9,_),(10,_)]) (G:=fun i=>(n5,Cl [.int .i64 ((1+szL (l.take i):Nat):Int), .int .i64 ((dpL (l.take i):Nat):Int)] 179)::(n4,Cl [.int .i64 0, .int .i64 0] 179)::H) (φ:=fun i=>i<=l.length) (μ:=fun i=>l.length - i) (x0:=0) ?_ (kg U) ⟨atd,trivial⟩ sb0 ?_
 ·exact Nat.zero_le _
 rintro i hi;have htl:=szL_le l (i+1);have htl0:=szL_le l i;have hdl:=dpL_le (l.take i) fun x _=>dp_le x
 have hdg:=dp_le (gd l i);refine rD tb 6 U ?_
 first|refine Ak (Aa U) (fun c12=> ?_) (fun c12=> ?_)|refine Au (Aa U) (fun c12=> ?_) (fun c12=> ?_)
 ·have htk:=szL_take (l:=l) (i:=i) qom;refine rC tb 6 U (y_ (Lq U U runUnderlying28 sizeOf32 qom (by first|exact rfl|exact hA.b (i:=i) qom)) ?_ U);refine y_ (Lp U isAgg32 sizeOf32 U (by first|exact(hA.mono sbt).cs (i:=i) qom|exact A2)) ?_ U;refine e_ (Ap zeroValue32 cs_) ?_ U;rintro _ _ ⟨n7,rfl,rfl⟩
  first|refine A9 (Ls U U sizeOf32) U Ac ?_
  rintro _ _ ⟨rfl,rfl⟩;refine rO tb 2 U (B9 5 [(0,true),(1,true),(2,true),(3,true),(4,true)] _ mixd qkr sb0 ?_ By);refine o_y U (Lp U isAgg179 sizeOf179 U (by first|exact A2)) ?_ U Ac;refine rP tb 1 U (o_y U (Lp U isAgg32 sizeOf32 U (by first|exact A2)) ?_ U Ac);refine o_y U (C1 (T U) (qe1 U) call101 (fun H' hs=>ih _ (Ao (i:=i) qom) _ ((hlM _ (Ao (i:=i) qom)).mono (stn hs)) qom)) ?_ U Ac;refine o_y U (Bb (qe2 U U) call187 (fun H' hs=>pwith_s (1+szL (l.take i)) (dpL (l.take i)) (gd l i).sz (gd l i).dp qom)) ?_ U Ac;refine Bj U ?_
  first|refine A9 (Ls U U sizeOf179) U Ac ?_
  rintro _ _ ⟨rfl,rfl⟩;refine rO tb 4 U (y_ (Bd (T U) An qom) ?_ U);refine rO tb 2 U ?_;have htk:=szL_take (l:=l) (i:=i) qom;rw[show 1+szL (l.take i)+(gd l i).sz=1+szL (l.take (i+1)) by omega,<- dpL_take qom];refine A8 (i+1) ?_ ?_ ⟨atd,trivial⟩ (kg U) ?_
  ·show i+1<=_;omega
  ·first|omega|(simp only[];omega)
  ·exact sbt
 ·refine rC tb 2 U (Aq (rX tb 4 U (y_ (Lp U isAgg179 sizeOf179 U (by first|exact A2)) ?_ U)))
  first|refine A9 (Ls U U sizeOf179) U Ac ?_
  rintro _ _ ⟨rfl,rfl⟩;refine rO tb 3 U (As U (.cellA (Aa U) isAgg179 sizeOf179 U (by first|exact A2) .nil) ?_);rw[List.take_of_length_le qom];exact⟨_,⟨rfl,rfl⟩,sbt⟩
theorem psiz_step {w0:World}{H:List (Nat × Obj)}(m:Rxm)(hM:RxM w0 H m)(hz:m.sz<=8388608)(ih:∀ a∈m.args,psizS w0 a):
  FSpec prog w0 101 #[.agg (encRx m).toArray] H (Still (.agg #[.int .i64 (m.sz:Nat), .int .i64 (m.dp:Nat)]) H):=by
 refine Az func101 U ntmps101 U ?_;have hse:=Kq m;have hln:=szL_len m.args;have hA:=hM.arr;refine rD tb 2 U (e_ (Lt U cs_) ?_ U);rintro _ _ ⟨n1,rfl,rfl⟩;refine e_ (Ap zeroValue179 cs_) ?_ U;rintro _ _ ⟨n2,rfl,rfl⟩;refine rO tb 5 U (y_ (Lo U isAgg28 (by first|exact c_o)) ?_ U);refine y_ (Bb (.cons (T U) (.cons Ku .nil)) call153 (fun H' hs=>pall_s m.args m.q _ (hA.mono (stn hs)) qom (fun a ha=>(hM.arg ha).mono (stn hs)) ih)) ?_ U
 first|refine A9 (Ls U U sizeOf179) U Ac ?_
 rintro _ _ ⟨rfl,rfl⟩;refine rO tb 3 U (As U (.cellA (Aa U) isAgg179 sizeOf179 U (by first|exact A2) .nil) ?_);exact⟨_,⟨by rw[Kq,dp_eq];rfl,rfl⟩,sbt⟩
theorem psiz_s {w0:World}{H:List (Nat × Obj)}(m:Rxm)(hM:RxM w0 H m)(hz:m.sz<=8388608):FSpec prog w0 101 #[.agg (encRx m).toArray] H (Still (.agg #[.int .i64 (m.sz:Nat), .int .i64 (m.dp:Nat)]) H):=
 rx_ind (Q:=psizS w0) (fun m ih H hM hz=>psiz_step m hM hz ih) m H hM hz
theorem plrg_s {w0:World}{H:List (Nat × Obj)}(a b:Nat)(ha:a<=200)(hb:b<=20):
  FSpec prog w0 154 #[.agg #[.int .i64 (a:Nat), .int .i64 (b:Nat)]] H (Still (.int .i64 0) H):=by
 refine Az func154 U ntmps154 U (rD tb 2 U (e_ (Lt U cs_) ?_ U));rintro _ _ ⟨n1,rfl,rfl⟩;refine rO tb 7 U (y_ (Lo U isAgg3 (by first|exact c_o)) ?_ U);refine rO tb 2 U ?_
 first|refine Bi (s:=6) (Aa U) (fun c6=> ?_) (fun c6=> ?_)|refine B2 (s:=6) (Aa U) (fun c6=> ?_) (fun c6=> ?_)
 ·refine rO tb 14 U (As U (Ll U) ?_);exfalso;omega
 ·refine rO tb 1 U (A3 (Lo U isAgg3 (by first|exact c_o)) U (Ax U U (Aa U)) ?_);refine rO tb 4 U ?_
  first|refine Ak (Aa U) (fun c10=> ?_) (fun c10=> ?_)|refine Au (Aa U) (fun c10=> ?_) (fun c10=> ?_)
  ·refine rC tb 7 U (As U (Ll U) ?_);exfalso;omega
  ·refine rC tb 8 U (As U (Ll U) ?_);exact⟨_,⟨rfl,rfl⟩,sbt⟩
def fmS (w0:World) (m:Rxm):Prop:=∀ H:List (Nat × Obj),RxM w0 H m->FmOk m->FSpec prog w0 104 #[.agg (encRx m).toArray] H (Still (.bool true) H)
theorem pevc_s {w0:World}{H:List (Nat × Obj)}(m:Rxm)(hM:RxM w0 H m)(hf:FmOk m)(ih:fmS w0 m)(b:Nat)(hb:Fnd H b (Cl [.func (.func 104) #[] #[]] 33)):
  FSpec prog w0 190 #[.agg (encRx m).toArray, .pointer (some ⟨b,0,none⟩)] H (Still (.bool false) H):=by
 refine Az func190 U ntmps190 U (rD tb 2 U (e_ (Lt U cs_) ?_ U));rintro _ _ ⟨n2,rfl,rfl⟩;refine rO tb 5 U ?_;refine y_ (Lo U isAgg33 (by first|exact c_o|exact(B6 (i:=0) (by repeat (first|exact hb|refine Av ?_|refine A6 ?_)) U))) ?_ U;refine y_ (Lp U isAgg32 sizeOf32 U (by first|exact A2)) ?_ U;refine y_ (C1 (T U) (qe1 U) call104 (fun H' hs=>ih _ (hM.mono (stn hs)) hf)) ?_ U
 first|refine A3 (B7 (T U)) U Ac ?_|refine A3 (Cc (T U)) U Ac ?_
 refine rO tb 4 U (As U (Ll U) ?_);exact⟨_,⟨rfl,rfl⟩,sbt⟩
theorem pixf_s {w0:World}{H:List (Nat × Obj)}(l:List Rxm)(q:Option Addr)(c:Nat)(hA:Arr w0 H q 3 encRx l)(hln:l.length<=8388608)(hlM:∀ a∈l,RxM w0 H a)(hlf:∀ a∈l,FmOk a)(ih:∀ a∈l,fmS w0 a)(b:Nat)(hb:Fnd H b (Cl [.func (.func 104) #[] #[]] 33)):
  FSpec prog w0 211 #[.slice q l.length c,(.func (.func 190) #[] #[.pointer (some ⟨b,0,none⟩)])] H (Still (.int .i64 (-1)) H):=by
 refine Az func211 U ntmps211 U (rD tb 14 U ?_);refine Cb (X:=Nat) (V:=fun i=>[(8, .int .i64 (i:Nat))]) (C:=[(0,_),(1,_),(7,_)]) (φ:=fun i=>i<=l.length) (μ:=fun i=>l.length - i) (x0:=0) ?_ (kg U) ⟨(by first|exact Aa U|(refine Ae (Aa U) (vint ?_);omega)|(refine Ae (Aa U) ?_;simp;done)|(refine Ae (Aa U) ?_;exact by omega)),trivial⟩ ?_
 ·exact Nat.zero_le _
 rintro i hi;refine rD tb 6 U ?_
 first|refine Ak (Aa U) (fun c9=> ?_) (fun c9=> ?_)|refine Au (Aa U) (fun c9=> ?_) (fun c9=> ?_)
 ·refine rC tb 15 U (y_ (Lq U U runUnderlying28 sizeOf32 qom (by first|exact rfl|exact hA.b (i:=i) qom)) ?_ U);refine y_ (Lp U isAgg32 sizeOf32 U (by first|exact(hA.mono sbt).cs (i:=i) qom|exact A2)) ?_ U;refine y_ (C1 (T U) (qe1 U) call190 (fun H' hs=>pevc_s (gd l i) ((hlM _ (Ao (i:=i) qom)).mono (stn hs)) (hlf _ (Ao (i:=i) qom)) (ih _ (Ao (i:=i) qom)) b ((stn hs).subset hb))) ?_ U;refine rO tb 2 U ?_
  first|refine Ak (Aa U) (fun c16=> ?_) (fun c16=> ?_)|refine Au (Aa U) (fun c16=> ?_) (fun c16=> ?_)
  ·refine rC tb 9 U (Bc (rX tb 2 U (As U (Ll U) ?_)));cases c16
  ·refine rC tb 4 U (y_ (Bd (T U) An qom) ?_ U);refine rO tb 2 U ?_;refine A8 (i+1) ?_ ?_ ⟨(by first|exact Aa U|(refine Ae (Aa U) (vint ?_);omega)|(refine Ae (Aa U) ?_;simp;done)|(refine Ae (Aa U) ?_;exact by omega)),trivial⟩ (kg U) ?_
   ·show i+1<=_;omega
   ·first|omega|(simp only[];omega)
   ·exact sbt
 ·refine rC tb 2 U (Aq (rX tb 8 U (As U (Ll U) ?_)));exact⟨_,⟨rfl,rfl⟩,sbt⟩
theorem pctf_s {w0:World}{H:List (Nat × Obj)}(l:List Rxm)(q:Option Addr)(c:Nat)(hA:Arr w0 H q 3 encRx l)(hln:l.length<=8388608)(hlM:∀ a∈l,RxM w0 H a)(hlf:∀ a∈l,FmOk a)(ih:∀ a∈l,fmS w0 a)(b:Nat)(hb:Fnd H b (Cl [.func (.func 104) #[] #[]] 33)):
  FSpec prog w0 189 #[.slice q l.length c,(.func (.func 190) #[] #[.pointer (some ⟨b,0,none⟩)])] H (Still (.bool false) H):=by
 refine Az func189 U ntmps189 U (rD tb 9 U (y_ (Bb (qe2 U U) call211 (fun H' hs=>pixf_s l q c (hA.mono (stn hs)) hln (fun a ha=>(hlM a ha).mono (stn hs)) hlf ih b ((stn hs).subset hb))) (rO tb 5 U (As U (Ll U) ?_)) U));exact⟨_,⟨rfl,rfl⟩,sbt⟩
theorem pevr_s {w0:World}{H:List (Nat × Obj)}(l:List Rxm)(q:Option Addr)(c:Nat)(hA:Arr w0 H q 3 encRx l)(hln:l.length<=8388608)(hlM:∀ a∈l,RxM w0 H a)(hlf:∀ a∈l,FmOk a)(ih:∀ a∈l,fmS w0 a)(k:Nat)(hk:l.length=k):
  FSpec prog w0 156 #[.slice q l.length c, .int .i64 (k:Nat), .func (.func 104) #[] #[]] H (Still (.bool true) H):=by
 refine Az func156 U ntmps156 U (rD tb 2 U (e_ (Lt U cs_) ?_ U));rintro _ _ ⟨n5,rfl,rfl⟩;refine rO tb 10 U ?_
 first|refine Bi (s:=11) (Aa U) (fun c11=> ?_) (fun c11=> ?_)|refine B2 (s:=11) (Aa U) (fun c11=> ?_) (fun c11=> ?_)
 ·refine rO tb 1 U (A3 (Cg (.cons (T U) .nil)) U (Ax U U (Aa U)) (A3 (Bb (qe2 U U) call189 (fun H' hs=>pctf_s l q c (hA.mono (stn hs)) hln (fun a ha=>(hlM a ha).mono (stn hs)) hlf ih n5 (hs.subset Ba))) U (Ax U U (Aa U)) ?_))
  first|refine A3 (B7 (T U)) U (Ax U U (Aa U)) ?_|refine A3 (Cc (T U)) U (Ax U U (Aa U)) ?_
  refine rO tb 5 U (As U (Ll U) ?_);exact⟨_,⟨rfl,rfl⟩,sbt⟩
 ·refine rO tb 9 U (As U (Ll U) ?_);exfalso;omega
theorem pfm_step {w0:World}{H:List (Nat × Obj)}(m:Rxm)(hM:RxM w0 H m)(hf:FmOk m)(ih:∀ a∈m.args,fmS w0 a)(hW:Arr w0 [] (some ⟨0,0,none⟩) 1 encS wordsL):
  FSpec prog w0 104 #[.agg (encRx m).toArray] H (Still (.bool true) H):=by
 refine Az func104 U ntmps104 U ?_;have hA:=hM.arr;have hfc:=fm_cases hf;have hal:m.args.length<=2:=by rcases hfc with h|h|h|h<;>first|omega|(rw[h.2.2];decide)
 have hne:m.kind≠2->m.node=⟨#[]⟩:=fun e=>by rcases hfc with h|h|h|h<;>first|exact absurd h.1 e|exact h.2.1
 have hn0:m.kind=2\/m.kind=1\/m.kind=3->m.args.length=0:=fun e=>by rcases hfc with h|h|h|h<;>first|(rw[h.2.2];rfl)|(exfalso;omega)
 have hn1:m.kind=6->m.args.length=1:=fun e=>by rcases hfc with h|h|h|h<;>first|(exfalso;omega)|exact h.2.2.1
 have hn2:m.kind=4\/m.kind=5->m.args.length=2:=fun e=>by rcases hfc with h|h|h|h<;>first|(exfalso;omega)|exact h.2.2.1
 have hkk:m.kind=2\/m.kind=1\/m.kind=3\/m.kind=6\/m.kind=4\/m.kind=5:=by rcases hfc with h|h|h|h<;>omega
 refine rD tb 2 U (e_ (Lt U cs_) ?_ U);rintro _ _ ⟨n1,rfl,rfl⟩;refine rO tb 7 U (y_ (Lo U isAgg3 (by first|exact c_o)) ?_ U);refine rO tb 9 U ?_
 first|refine Ak (Aa U) (fun c5=> ?_) (fun c5=> ?_)|refine Au (Aa U) (fun c5=> ?_) (fun c5=> ?_)
 ·refine rC tb 3 U (y_ (Lo U isAgg9 (by first|exact c_o)) ?_ U);refine y_ (Bb (qe1 rfl) call155 (fun H' hs=>ppl_s m.node (by rcases hfc with h|h|h|h<;>first|exact h.2.1|(exfalso;omega)) hW)) ?_ rfl;refine rO tb 1 U ?_
  first|refine Bi (s:=10) (Aa U) (fun c10=> ?_) (fun c10=> ?_)|refine B2 (s:=10) (Aa U) (fun c10=> ?_) (fun c10=> ?_)
  ·refine rO tb 1 U (A3 (Lo U isAgg28 (by first|exact c_o)) U (Ax U U (Aa U)) ?_);refine rO tb 9 U (As U (Ll U) ?_)
   first|exact⟨_,⟨rfl,rfl⟩,sbt⟩|exact⟨_,⟨vbool (decide_eq_true qom),rfl⟩,sbt⟩|(exfalso;omega)|exact absurd (by assumption:true=false) qde|exact absurd (congrArg (fun s:ByteArray=>s.data.toList) (hne qom)) (by assumption)
  ·refine rO tb 11 U (As U (Ll U) ?_)
   first|exact⟨_,⟨rfl,rfl⟩,sbt⟩|exact⟨_,⟨vbool (decide_eq_true qom),rfl⟩,sbt⟩|(exfalso;omega)|exact absurd (by assumption:true=false) qde|exact absurd (congrArg (fun s:ByteArray=>s.data.toList) (hne qom)) (by assumption)
 ·refine rC tb 7 U ?_
  first|refine Ak (Aa U) (fun c16=> ?_) (fun c16=> ?_)|refine Au (Aa U) (fun c16=> ?_) (fun c16=> ?_)
  ·refine rC tb 2 U ?_
   first|refine Cf (Aa U) ?_|refine Cf (Ae (Aa U) (vbool (decide_eq_true c16))) ?_
   refine rC tb 3 U (y_ (Lo U isAgg9 (by first|exact c_o)) ?_ U);refine y_ (Fn (T U) An) (rO tb 1 U ?_) U
   first|refine Bi (s:=22) (Aa U) (fun c22=> ?_) (fun c22=> ?_)|refine B2 (s:=22) (Aa U) (fun c22=> ?_) (fun c22=> ?_)
   ·refine rO tb 1 U (A3 (Lo U isAgg28 (by first|exact c_o)) U (Ax U U (Aa U)) ?_);refine rO tb 9 U (As U (Ll U) ?_)
    first|exact⟨_,⟨rfl,rfl⟩,sbt⟩|exact⟨_,⟨vbool (decide_eq_true qom),rfl⟩,sbt⟩|(exfalso;omega)|exact absurd (by assumption:true=false) qde|exact absurd (congrArg (fun s:ByteArray=>s.data.toList) (hne qom)) (by assumption)
   ·refine rO tb 11 U (As U (Ll U) ?_)
    first|exact⟨_,⟨rfl,rfl⟩,sbt⟩|exact⟨_,⟨vbool (decide_eq_true qom),rfl⟩,sbt⟩|(exfalso;omega)|exact absurd (by assumption:true=false) qde|exact absurd (congrArg (fun s:ByteArray=>s.data.toList) (hne qom)) (by assumption)
  ·refine rC tb 5 U ?_
   first|refine Ak (Aa U) (fun c16=> ?_) (fun c16=> ?_)|refine Au (Aa U) (fun c16=> ?_) (fun c16=> ?_)
   ·refine rC tb 3 U (y_ (Lo U isAgg9 (by first|exact c_o)) ?_ U);refine y_ (Fn (T U) An) (rO tb 1 U ?_) U
    first|refine Bi (s:=22) (Aa U) (fun c22=> ?_) (fun c22=> ?_)|refine B2 (s:=22) (Aa U) (fun c22=> ?_) (fun c22=> ?_)
    ·refine rO tb 1 U (A3 (Lo U isAgg28 (by first|exact c_o)) U (Ax U U (Aa U)) ?_);refine rO tb 9 U (As U (Ll U) ?_)
     first|exact⟨_,⟨rfl,rfl⟩,sbt⟩|exact⟨_,⟨vbool (decide_eq_true qom),rfl⟩,sbt⟩|(exfalso;omega)|exact absurd (by assumption:true=false) qde|exact absurd (congrArg (fun s:ByteArray=>s.data.toList) (hne qom)) (by assumption)
    ·refine rO tb 11 U (As U (Ll U) ?_)
     first|exact⟨_,⟨rfl,rfl⟩,sbt⟩|exact⟨_,⟨vbool (decide_eq_true qom),rfl⟩,sbt⟩|(exfalso;omega)|exact absurd (by assumption:true=false) qde|exact absurd (congrArg (fun s:ByteArray=>s.data.toList) (hne qom)) (by assumption)
   ·refine rC tb 6 U ?_
    first|refine Ak (Aa U) (fun c28=> ?_) (fun c28=> ?_)|refine Au (Aa U) (fun c28=> ?_) (fun c28=> ?_)
    ·refine rC tb 3 U (y_ (Lo U isAgg9 (by first|exact c_o)) ?_ U);refine y_ (Fn (T U) An) (rO tb 1 U ?_) U
     first|refine Bi (s:=33) (Aa U) (fun c33=> ?_) (fun c33=> ?_)|refine B2 (s:=33) (Aa U) (fun c33=> ?_) (fun c33=> ?_)
     ·refine rO tb 1 U (A3 (Lo U isAgg28 (by first|exact c_o)) U (Ax U U (Aa U)) ?_);refine A3 (Bb (.cons (T rfl) (.cons An (.cons Ku .nil))) call156 (fun H' hs=>pevr_s m.args m.q _ (hA.mono (stn hs)) qom (fun a ha=>(hM.arg ha).mono (stn hs)) (by rcases hfc with h|h|h|h<;>first|exact h.2.2.2|(exfalso;omega)) ih 1 qom)) rfl (Ax rfl rfl (Aa rfl)) ?_;refine rO tb 7 U (As U (Ll U) ?_)
      first|exact⟨_,⟨rfl,rfl⟩,sbt⟩|exact⟨_,⟨vbool (decide_eq_true qom),rfl⟩,sbt⟩|(exfalso;omega)|exact absurd (by assumption:true=false) qde|exact absurd (congrArg (fun s:ByteArray=>s.data.toList) (hne qom)) (by assumption)
     ·refine rO tb 10 U (As U (Ll U) ?_)
      first|exact⟨_,⟨rfl,rfl⟩,sbt⟩|exact⟨_,⟨vbool (decide_eq_true qom),rfl⟩,sbt⟩|(exfalso;omega)|exact absurd (by assumption:true=false) qde|exact absurd (congrArg (fun s:ByteArray=>s.data.toList) (hne qom)) (by assumption)
    ·refine rC tb 7 U ?_
     first|refine Ak (Aa U) (fun c38=> ?_) (fun c38=> ?_)|refine Au (Aa U) (fun c38=> ?_) (fun c38=> ?_)
     ·refine rC tb 2 U ?_
      first|refine Cf (Aa U) ?_|refine Cf (Ae (Aa U) (vbool (decide_eq_true c38))) ?_
      refine rC tb 3 U (y_ (Lo U isAgg9 (by first|exact c_o)) ?_ U);refine y_ (Fn (T U) An) (rO tb 1 U ?_) U
      first|refine Bi (s:=44) (Aa U) (fun c44=> ?_) (fun c44=> ?_)|refine B2 (s:=44) (Aa U) (fun c44=> ?_) (fun c44=> ?_)
      ·refine rO tb 1 U (A3 (Lo U isAgg28 (by first|exact c_o)) U (Ax U U (Aa U)) ?_);refine A3 (Bb (.cons (T rfl) (.cons An (.cons Ku .nil))) call156 (fun H' hs=>pevr_s m.args m.q _ (hA.mono (stn hs)) qom (fun a ha=>(hM.arg ha).mono (stn hs)) (by rcases hfc with h|h|h|h<;>first|exact h.2.2.2|(exfalso;omega)) ih 2 qom)) rfl (Ax rfl rfl (Aa rfl)) ?_;refine rO tb 7 U (As U (Ll U) ?_)
       first|exact⟨_,⟨rfl,rfl⟩,sbt⟩|exact⟨_,⟨vbool (decide_eq_true qom),rfl⟩,sbt⟩|(exfalso;omega)|exact absurd (by assumption:true=false) qde|exact absurd (congrArg (fun s:ByteArray=>s.data.toList) (hne qom)) (by assumption)
      ·refine rO tb 10 U (As U (Ll U) ?_)
       first|exact⟨_,⟨rfl,rfl⟩,sbt⟩|exact⟨_,⟨vbool (decide_eq_true qom),rfl⟩,sbt⟩|(exfalso;omega)|exact absurd (by assumption:true=false) qde|exact absurd (congrArg (fun s:ByteArray=>s.data.toList) (hne qom)) (by assumption)
     ·refine rC tb 5 U ?_
      first|refine Ak (Aa U) (fun c38=> ?_) (fun c38=> ?_)|refine Au (Aa U) (fun c38=> ?_) (fun c38=> ?_)
      ·refine rC tb 3 U (y_ (Lo U isAgg9 (by first|exact c_o)) ?_ U);refine y_ (Fn (T U) An) (rO tb 1 U ?_) U
       first|refine Bi (s:=44) (Aa U) (fun c44=> ?_) (fun c44=> ?_)|refine B2 (s:=44) (Aa U) (fun c44=> ?_) (fun c44=> ?_)
       ·refine rO tb 1 U (A3 (Lo U isAgg28 (by first|exact c_o)) U (Ax U U (Aa U)) ?_);refine A3 (Bb (.cons (T rfl) (.cons An (.cons Ku .nil))) call156 (fun H' hs=>pevr_s m.args m.q _ (hA.mono (stn hs)) qom (fun a ha=>(hM.arg ha).mono (stn hs)) (by rcases hfc with h|h|h|h<;>first|exact h.2.2.2|(exfalso;omega)) ih 2 qom)) rfl (Ax rfl rfl (Aa rfl)) ?_;refine rO tb 7 U (As U (Ll U) ?_)
        first|exact⟨_,⟨rfl,rfl⟩,sbt⟩|exact⟨_,⟨vbool (decide_eq_true qom),rfl⟩,sbt⟩|(exfalso;omega)|exact absurd (by assumption:true=false) qde|exact absurd (congrArg (fun s:ByteArray=>s.data.toList) (hne qom)) (by assumption)
       ·refine rO tb 10 U (As U (Ll U) ?_)
        first|exact⟨_,⟨rfl,rfl⟩,sbt⟩|exact⟨_,⟨vbool (decide_eq_true qom),rfl⟩,sbt⟩|(exfalso;omega)|exact absurd (by assumption:true=false) qde|exact absurd (congrArg (fun s:ByteArray=>s.data.toList) (hne qom)) (by assumption)
      ·refine rC tb 9 U (As U (Ll U) ?_)
       first|exact⟨_,⟨rfl,rfl⟩,sbt⟩|exact⟨_,⟨vbool (decide_eq_true qom),rfl⟩,sbt⟩|(exfalso;omega)|exact absurd (by assumption:true=false) qde|exact absurd (congrArg (fun s:ByteArray=>s.data.toList) (hne qom)) (by assumption)
theorem pfm_s {w0:World}(hW:Arr w0 [] (some ⟨0,0,none⟩) 1 encS wordsL)(m:Rxm):m.sz<=8388608->fmS w0 m:=
 rx_ind (Q:=fun m=>m.sz<=8388608->fmS w0 m) (fun m ih hz H hM hf=>pfm_step m hM hf (fun a ha=>ih a ha (by have:=sz_mem ha;omega)) hW) m
theorem pchk1_s {w0:World}{H:List (Nat × Obj)}(m:Rxm)(hM:RxM w0 H m)(hz:m.sz<=200)(hf:FmOk m)(hW:Arr w0 [] (some ⟨0,0,none⟩) 1 encS wordsL)(b:Nat)(hb:Fnd H b (Cl (encRx m) 32)):
  FSpec prog w0 103 #[.pointer (some ⟨b,0,none⟩)] H (Still (.bool true) H):=by
 refine Az func103 U ntmps103 U (rD tb 7 U ?_);refine y_ (Lp U isAgg32 sizeOf32 U (by first|exact Dn (by repeat (first|exact hb|refine Av ?_|refine A6 ?_))|exact A2)) ?_ U;refine y_ (Bb (qe1 U) call104 (fun H' hs=>pfm_s hW m qom _ (hM.mono (stn hs)) hf)) ?_ U;refine rO tb 4 U (As U (Ll U) ?_);exact⟨_,⟨rfl,rfl⟩,sbt⟩
theorem pchk2_s {w0:World}{H:List (Nat × Obj)}(m:Rxm)(hM:RxM w0 H m)(hz:m.sz<=200)(hd:m.dp<=20)(hf:FmOk m)(hW:Arr w0 [] (some ⟨0,0,none⟩) 1 encS wordsL)(b:Nat)(hb:Fnd H b (Cl (encRx m) 32)):
  FSpec prog w0 102 #[.agg #[.int .i64 (m.sz:Nat), .int .i64 (m.dp:Nat)], .func (.func 103) #[] #[.pointer (some ⟨b,0,none⟩)]] H (Still (.int .i64 0) H):=by
 refine Az func102 U ntmps102 U (rD tb 2 U (e_ (Lt U cs_) ?_ U));rintro _ _ ⟨n2,rfl,rfl⟩;refine rO tb 6 U (y_ (Lp U isAgg179 sizeOf179 U (by first|exact A2)) ?_ U);refine y_ (Bb (qe1 U) call154 (fun H' hs=>plrg_s m.sz m.dp hz hd)) (rO tb 9 U ?_) U
 first|refine Ak (Aa U) (fun c9=> ?_) (fun c9=> ?_)|refine Au (Aa U) (fun c9=> ?_) (fun c9=> ?_)
 ·refine rC tb 8 U (As U (Ll U) ?_)
  first|exact⟨_,⟨rfl,rfl⟩,sbt⟩|(exfalso;omega)|exact absurd c13 qde
 ·refine rC tb 6 U (y_ (C1 (T U) .nil call103 (fun H' hs=>pchk1_s m (hM.mono (stn hs)) hz hf hW b ((stn hs).subset hb))) ?_ U)
  first|refine A3 (B7 (T U)) U Ac ?_|refine A3 (Cc (T U)) U Ac ?_
  refine rO tb 2 U ?_
  first|refine Ak (Aa U) (fun c13=> ?_) (fun c13=> ?_)|refine Au (Aa U) (fun c13=> ?_) (fun c13=> ?_)
  ·refine rC tb 7 U (As U (Ll U) ?_)
   first|exact⟨_,⟨rfl,rfl⟩,sbt⟩|(exfalso;omega)|exact absurd c13 qde
  ·refine rC tb 8 U (As U (Ll U) ?_)
   first|exact⟨_,⟨rfl,rfl⟩,sbt⟩|(exfalso;omega)|exact absurd c13 qde
theorem pchk_s {w0:World}{H:List (Nat × Obj)}(m:Rxm)(hM:RxM w0 H m)(hz:m.sz<=200)(hd:m.dp<=20)(hf:FmOk m)(hW:Arr w0 [] (some ⟨0,0,none⟩) 1 encS wordsL):
  FSpec prog w0 47 #[.agg (encRx m).toArray] H (Still (.int .i64 0) H):=by
 refine Az func47 U ntmps47 U (rD tb 2 U (e_ (Lt U cs_) ?_ U));rintro _ _ ⟨n1,rfl,rfl⟩;refine rO tb 5 U (y_ (Lp U isAgg32 sizeOf32 U (by first|exact A2)) ?_ U);refine y_ (Bb (qe1 U) call101 (fun H' hs=>psiz_s m (hM.mono (stn hs)) qom)) ?_ U;refine y_ (Cg (.cons (T U) .nil)) (y_ (Bb (qe2 U U) call102 (fun H' hs=>pchk2_s m (hM.mono (stn hs)) hz hd hf hW n1 (hs.subset Ba))) (rO tb 4 U (As U (Ll U) ?_)) U) U;exact⟨_,⟨rfl,rfl⟩,sbt⟩
theorem Kb5 (a0:Int)(a1:Int)(a2:Int)(a3:Option Addr)(a3n a3c:Nat)(a4:Int)(a5:Int)(a6:Int)(w:World):(Instr.build 93 #[(0, .int .i64 a0),(1, .int .i64 a1),(2, .agg #[.int .i64 a2, .slice a3 a3n a3c, .int .i64 a4, .int .i64 a5, .int .i64 a6])]).run prog w= .ok (.agg #[.int .i64 a0, .int .i64 a1, .int .i64 a2, .slice a3 a3n a3c, .int .i64 a4, .int .i64 a5, .int .i64 a6]) w:=by kernel_rfl
theorem Kc1 (a0:Int)(a1:Int)(a2:Int)(a3:Option Addr)(a3n a3c:Nat)(a4:Int)(a5:Int)(a6:Int)(w:World):(Instr.buildSlice 34 1 #[(0, .agg #[.int .i64 a0, .int .i64 a1, .int .i64 a2, .slice a3 a3n a3c, .int .i64 a4, .int .i64 a5, .int .i64 a6])]).run prog w= .ok (.slice (some ⟨w.heap.size,0,none⟩) 1 1) (w.alloc (Cl [.int .i64 a0, .int .i64 a1, .int .i64 a2, .slice a3 a3n a3c, .int .i64 a4, .int .i64 a5, .int .i64 a6] 93)):=by kernel_rfl
instance:Inhabited Re:=⟨.any⟩
def prtW (n:Nm) (w:Way) (e:Re) (i k:Nat):List (Int × Int × Way):=(List.range k).filterMap fun (p:Nat)=>if (dtrW n w e (p:Int)).2=0 then some ((i:Int),(p:Int),(dtrW n w e (p:Int)).1) else none
theorem prtW_zero (n:Nm)(w:Way)(e:Re)(i:Nat):prtW n w e i 0=[]:=rfl
theorem prtW_yes {n:Nm}{w:Way}{e:Re}{i k:Nat}(h:(dtrW n w e (k:Int)).2=0):prtW n w e i (k+1)=prtW n w e i k++[((i:Int),(k:Int),(dtrW n w e (k:Int)).1)]:=by
 unfold prtW;rw[List.range_succ,List.filterMap_append];simp[h]
theorem prtW_no {n:Nm}{w:Way}{e:Re}{i k:Nat}(h: ¬ (dtrW n w e (k:Int)).2=0):prtW n w e i (k+1)=prtW n w e i k:=by
 unfold prtW;rw[List.range_succ,List.filterMap_append];simp[h]
theorem prtW_len (n:Nm)(w:Way)(e:Re)(i k:Nat):(prtW n w e i k).length<=k:=by
 unfold prtW;exact Nat.le_trans (List.length_filterMap_le _ _) (by rw[List.length_range];exact Nat.le_refl _)
def prtA (n:Nm) (ws:List Wm) (es:List Re) (i:Nat):List (Int × Int × Way):=(List.range i).flatMap fun j=>prtW n (gd ws j).way (gd es j) j (gd ws j).way.links.length
theorem prtA_succ (n:Nm)(ws:List Wm)(es:List Re)(i:Nat):prtA n ws es (i+1)=prtA n ws es i++prtW n (gd ws i).way (gd es i) i (gd ws i).way.links.length:=by
 unfold prtA;rw[List.range_succ,List.flatMap_append,List.flatMap_singleton]
def prtF (n:Nm) (ws:List Wm) (es:List Re):List (Int × Int × Way) × Int:=
 if (List.range ws.length).any (fun i=>decide (0<(gd ws i).way.links.length/\¬ (buildF leastF (gd es i)).2=0)) then ([],2)
 else if 2000<(prtA n ws es ws.length).length then ([],2) else (prtA n ws es ws.length,0)
theorem prt_lim {n:Nm}{ws:List Wm}{es:List Re}{i:Nat}(hi:i<ws.length)(h:0<(gd ws i).way.links.length)(h2: ¬ (buildF leastF (gd es i)).2=0):prtF n ws es=([],2):=by
 unfold prtF;rw[if_pos];rw[List.any_eq_true];exact⟨i,List.mem_range.2 hi,decide_eq_true ⟨h,h2⟩⟩
theorem prt_all {n:Nm}{ws:List Wm}{es:List Re}(h:∀ i,i<ws.length->0<(gd ws i).way.links.length->(buildF leastF (gd es i)).2=0):prtF n ws es=if 2000<(prtA n ws es ws.length).length then ([],2) else (prtA n ws es ws.length,0):=by
 unfold prtF;rw[if_neg];rw[List.any_eq_true];rintro⟨i,hi,hd⟩;have:=of_decide_eq_true hd;exact this.2 (h i (List.mem_range.1 hi) this.1)
theorem dtr_err {n:Nm}{w:Way}{e:Re}{k:Nat}(hk:k<w.links.length):((dtrW n w e (k:Int)).2=0/\(buildF leastF e).2=0)\/((dtrW n w e (k:Int)).2=18/\(buildF leastF e).2=0)\/((dtrW n w e (k:Int)).2=2/\¬ (buildF leastF e).2=0):=by
 by_cases h1:(buildF leastF e).2=0
 ·by_cases h2:(dFnd n w (buildF leastF e).1 k).2=0
  ·by_cases h3:(nodesF n.links (dWay n w k (toInts (dFnd n w (buildF leastF e).1 k).1))).Nodup
   ·rw[Ks hk h1 h2 h3];exact .inl ⟨rfl,h1⟩
   ·rw[dtr_two hk h1 h2 h3];exact .inr (.inl ⟨rfl,h1⟩)
  ·rw[dtr_nof hk h1 h2];exact .inr (.inl ⟨rfl,h1⟩)
 ·rw[dtr_lim qom h1];exact .inr (.inr ⟨rfl,h1⟩)
def dkey (d:Dtm):Int × Int × Way:=(d.way,d.place,d.m.way)
structure RlA (w0:World) (H:List (Nat × Obj)) (rs:List Rxm) (es:List Re):Prop where
 len:es.length=rs.length
 x:∀ i,i<rs.length->RxA w0 H (gd rs i) (gd es i)
 f:∀ i,i<rs.length->FmOk (gd rs i)/\(gd rs i).sz<=200/\(gd rs i).dp<=20
theorem protect_g {w0:World}{H:List (Nat × Obj)}(n:Nm)(hn:NetM w0 H n)(ws:List Wm)(qw:Option Addr)(cw:Nat)(hw:WaysM w0 H qw ws)(hd:∀ m∈ws,DwOk n m.way)(hwl:ws.length<=100)(rs:List Rxm)(qr:Option Addr)(cr:Nat)(hA:Arr w0 H qr 3 encRx rs)(es:List Re)(hr:RlA w0 H rs es)(hrl:rs.length=ws.length)(hW:Arr w0 [] (some ⟨0,0,none⟩) 1 encS wordsL):
  FSpec prog w0 11 #[.agg (encNm n).toArray, .slice qw ws.length cw, .slice qr rs.length cr] H (fun v H'=>∃ (d:Sl) (l:List Dtm) (e:Int) (M:List (Nat × Obj)),(v= .tuple #[slV d l.length, .int .i64 e]/\(l.map dkey,e)=prtF n ws es/\SlOk d l.length 7/\∀ x∈l,∀ X,IntArr w0 (M++X) x.m.q x.m.way.links)/\H'=slH d (l.flatMap encDt) 93++(M++H)):=by
 refine Az func11 U ntmps11 U (rD tb 2 U (e_ (Lt U cs_) ?_ U));rintro _ _ ⟨n3,rfl,rfl⟩;refine rO tb 14 U ?_
 first|refine Ak (Aa U) (fun c19=> ?_) (fun c19=> ?_)|refine Au (Aa U) (fun c19=> ?_) (fun c19=> ?_)
 ·exfalso;exact c19 (by rw[hrl])
 ·skip
  refine rC tb 16 U ?_;refine Bz (X:=Nat × Sl × List Dtm × List (Nat × Obj)) (V:=fun ⟨i,d,l,M⟩=>[(22, .int .i64 (i:Nat)),(8,slV d l.length)]) (C:=[(2,_),(3,_),(20,_),(21,_)]) (G:=fun ⟨i,d,l,M⟩=>slH d (l.flatMap encDt) 93++(M++((n3,Cl (encNm n) 26)::H))) (φ:=fun ⟨i,d,l,M⟩=>i<=ws.length/\l.length<=100*i/\SlOk d l.length 7/\(∀ x∈l,∀ X,IntArr w0 (M++X) x.m.q x.m.way.links)/\l.map dkey=prtA n ws es i/\∀ j,j<i->0<(gd ws j).way.links.length->(buildF leastF (gd es j)).2=0) (μ:=fun ⟨i,d,l,M⟩=>ws.length - i) (x0:=(0, .nil,[],[])) ?_ (kg U) ⟨atd,atd,trivial⟩ (by exact List.Sublist.refl _) ?_
  ·exact⟨Nat.zero_le _,Nat.zero_le _,rfl,fun x hx=>(by cases hx),rfl,fun j hj=>absurd hj (Nat.not_lt_zero j)⟩
  rintro⟨i,d,l,M⟩ ⟨hi,hll,hdl,hlm,hlk,hlb⟩;refine rD tb 6 U ?_
  first|refine Ak (Aa U) (fun c23=> ?_) (fun c23=> ?_)|refine Au (Aa U) (fun c23=> ?_) (fun c23=> ?_)
  ·have hi2:i<ws.length:=by have h9:((i:Nat):Int)<(ws.length:Nat):=c23;omega
   have hwk:=(hd _ (Ao hi2)).len;refine rC tb 7 U (y_ (Lq U U runUnderlying27 sizeOf59 qom (by first|exact rfl|exact hw.arr.b (i:=i) hi2|exact hA.b (i:=i) qom)) ?_ U);refine y_ (Lp U isAgg59 sizeOf59 U (by first|exact(hw.arr.mono (by exact sbt)).cs (i:=i) hi2|exact A2)) ?_ U;refine e_ (Ap zeroValue59 cs_) ?_ U;rintro _ _ ⟨n10,rfl,rfl⟩;refine rO tb 1 U ?_
   first|refine A9 (Ls U U sizeOf59) U Ac ?_
   rintro _ _ ⟨rfl,rfl⟩;refine rO tb 7 U (y_ (Lq U U runUnderlying28 sizeOf32 qom (by first|exact rfl|exact hw.arr.b (i:=i) hi2|exact hA.b (i:=i) qom)) ?_ U);refine y_ (Lp U isAgg32 sizeOf32 U (by first|exact(hA.mono (by exact sbt)).cs (i:=i) qom|exact A2)) ?_ U;refine y_ (Bb (qe1 U) call47 (fun H' hs=>pchk_s (gd rs i) ((hr.x i qom).m.mono (stn hs)) (hr.f i qom).2.1 (hr.f i qom).2.2 (hr.f i qom).1 hW)) ?_ U;refine rO tb 9 U ?_
   first|refine Ak (Aa U) (fun c33=> ?_) (fun c33=> ?_)|refine Au (Aa U) (fun c33=> ?_) (fun c33=> ?_)
   ·exact absurd U c33
   ·skip
    refine rC tb 5 U (y_ (Lo U isAgg41 (by first|exact c_o)) ?_ U);refine y_ (Cd (T U) runUnderlying41) (J1 (List.perm_middle.symm.trans (List.Perm.append_left _ List.perm_middle.symm)) (rO tb 4 U ?_)) U;refine Bz (X:=Nat × Sl × List Dtm × List (Nat × Obj)) (V:=fun ⟨k,d,l,M⟩=>[(38, .int .i64 (k:Nat)),(8,slV d l.length)]) (C:=[(2,_),(3,_),(9,_),(10,_),(20,_),(21,_),(22,_),(37,_)]) (G:=fun ⟨k,d,l,M⟩=>slH d (l.flatMap encDt) 93++(M++((n10,Cl (encW (gd ws i)) 59)::((n3,Cl (encNm n) 26)::H)))) (φ:=fun ⟨k,d,l,M⟩=>k<=(gd ws i).way.links.length/\l.length<=100*i+k/\SlOk d l.length 7/\(∀ x∈l,∀ X,IntArr w0 (M++X) x.m.q x.m.way.links)/\l.map dkey=prtA n ws es i++prtW n (gd ws i).way (gd es i) i k/\(0<k->(buildF leastF (gd es i)).2=0)) (μ:=fun ⟨k,d,l,M⟩=>(gd ws i).way.links.length - k) (x0:=(0,d,l,M)) ?_ (kg U) ⟨atd,atd,trivial⟩ (by exact List.Sublist.refl _) ?_
    ·exact⟨Nat.zero_le _,hll,hdl,hlm,by rw[prtW_zero,List.append_nil];exact hlk,fun h=>absurd h (Nat.lt_irrefl 0)⟩
    rintro⟨k,d,l,M⟩ ⟨hk,hll,hdl,hlm,hlk,hb0⟩;refine rD tb 6 U ?_
    first|refine Ak (Aa U) (fun c39=> ?_) (fun c39=> ?_)|refine Au (Aa U) (fun c39=> ?_) (fun c39=> ?_)
    ·have hk2:k<(gd ws i).way.links.length:=by have h9:((k:Nat):Int)<((gd ws i).way.links.length:Nat):=c39;omega
     have hde:=dtr_err (n:=n) (e:=gd es i) hk2;have hpw:=prtW_len n (gd ws i).way (gd es i) i k;refine rC tb 10 U ?_;refine Fp (X:=Nat × Wm × List (Nat × Obj)) (V:=fun ⟨b13,y,M2⟩=>[(13,Pt b13 0),(14, .int .i64 (dtrW n (gd ws i).way (gd es i) (k:Nat)).2)]) (C:=[(2,_),(3,_),(8,_),(9,_),(10,_),(12,_),(20,_),(21,_),(22,_),(37,_),(38,_)]) (G:=fun ⟨b13,y,M2⟩=>(b13,Cl (encW y) 59)::(M2++(slH d (l.flatMap encDt) 93++(M++((n10,Cl (encW (gd ws i)) 59)::((n3,Cl (encNm n) 26)::H)))))) (φ:=fun ⟨b13,y,M2⟩=>y.way=(dtrW n (gd ws i).way (gd es i) (k:Nat)).1/\∀ X,IntArr w0 (M2++X) y.q y.way.links) (kg U) ?_ ?_
     ·refine rD tb 0 U (Gs 14 _ mixd qkr sb0 ?_ By);refine x_y (i:=0) U qkr (Lp U isAgg26 sizeOf26 U (by first|exact A2)) ?_ U Ac;refine x_y (i:=1) U qkr (Lp U isAgg59 sizeOf59 U (by first|exact A2)) ?_ U Ac;refine x_y (i:=2) U qkr (Af (T U)) ?_ U Ac;refine x_y (i:=3) U qkr (Af (T U)) ?_ U Ac;refine x_y (i:=4) U qkr (Bl (T U) (T U) runUnderlying28 sizeOf32 qom (by first|exact rfl|exact hw.arr.b (i:=i) hi2|exact hA.b (i:=i) qom)) ?_ U Ac;refine x_y (i:=5) U qkr (Lp U isAgg32 sizeOf32 U (by first|exact(hA.mono (by exact sbt)).cs (i:=i) qom|exact A2)) ?_ U Ac;refine x_y (i:=6) U qkr (Af (T U)) ?_ U Ac;refine Dh (i:=7) (j:=11) qkr qkr ?_ ?_
      ·refine Ca U (A1 (qe4 U U U U) call25 (detour_g n (hn.mono (by exact sbt)) (gd ws i) ((hw.at hi2).mono (by exact sbt)) (hd _ (Ao hi2)) (gd rs i) (gd es i) ((hr.x i qom).mono (by exact sbt)) (k:Nat))) ?_ U Ac;rintro _ _ ⟨y,M2,⟨rfl,hyw,hyl⟩,rfl⟩;refine⟨sbt,(x_y (i:=8) U qkr (Af (T U)) ?_ U Ac)⟩;refine x_y (i:=9) U qkr (Bx (T U) U) ?_ U Ac;refine x_y (i:=10) U qkr (Bx (T U) U) ?_ U Ac;refine Cn (i:=11) qkr qkr ?_;refine Ca U (Ap zeroValue59 cs_) ?_ U Ac;rintro _ _ ⟨n13,rfl,rfl⟩;refine⟨sbt,(Cn (i:=12) qkr qkr ?_)⟩
       first|refine Ca U (Ls U U sizeOf59) ?_ U Ac
       rintro _ _ ⟨rfl,rfl⟩;refine⟨sbt,(x_y (i:=13) U qkr (Ag (T U)) ?_ U Ac)⟩;refine Cv qkr U ?_;refine rO tb 1 U ?_
       first|(refine Be ((n13,y,M2)) ?_ ⟨atd,atd,trivial⟩ (kg U) (List.Sublist.refl _))|(refine Bn List.perm_middle ?_;refine Be ((n13,y,M2)) ?_ ⟨atd,atd,trivial⟩ (kg U) (List.Sublist.refl _))
       exact⟨hyw,hyl⟩
      ·refine Ca U (Ap zeroValue59 cs_) ?_ U Ac;rintro _ _ ⟨n13,rfl,rfl⟩;refine⟨sbt,(Cn (i:=7) qkr qkr ?_)⟩;refine Ca U (A1 (qe4 U U U U) call25 (detour_g n (hn.mono (by exact sbt)) (gd ws i) ((hw.at hi2).mono (by exact sbt)) (hd _ (Ao hi2)) (gd rs i) (gd es i) ((hr.x i qom).mono (by exact sbt)) (k:Nat))) ?_ U Ac;rintro _ _ ⟨y,M2,⟨rfl,hyw,hyl⟩,rfl⟩;refine⟨sbt,(x_y (i:=8) U qkr (Af (T U)) ?_ U Ac)⟩;refine x_y (i:=9) U qkr (Bx (T U) U) ?_ U Ac;refine x_y (i:=10) U qkr (Bx (T U) U) ?_ U Ac;refine Cn (i:=12) qkr qkr ?_
       first|refine Ca U (Ls U U sizeOf59) ?_ U Ac
       rintro _ _ ⟨rfl,rfl⟩;refine⟨sbt,(x_y (i:=13) U qkr (Ag (T U)) ?_ U Ac)⟩;refine Cv qkr U ?_;refine rO tb 1 U ?_
       first|(refine Be ((n13,y,M2)) ?_ ⟨atd,atd,trivial⟩ (kg U) (List.Sublist.refl _))|(refine Bn List.perm_middle ?_;refine Be ((n13,y,M2)) ?_ ⟨atd,atd,trivial⟩ (kg U) (List.Sublist.refl _))
       exact⟨hyw,hyl⟩
     rintro⟨b13,y,M2⟩ ⟨hyw,hyl⟩;refine rC tb 12 U ?_
     first|refine Ak (Aa U) (fun c54=> ?_) (fun c54=> ?_)|refine Au (Aa U) (fun c54=> ?_) (fun c54=> ?_)
     ·refine rC tb 4 U (y_ (Lp U isAgg59 sizeOf59 U (by first|exact A2)) ?_ U);refine y_ (Bg (.cons (T U) (.cons (T U) (.cons (T U) .nil))) (Kb5 _ _ _ _ _ _ _ _ _)) (e_ (A7 (.cons (T U) .nil) (Kc1 _ _ _ _ _ _ _ _ _)) ?_ U) U;rintro _ _ ⟨n61,rfl,rfl⟩;refine e_ (Dk ((⟨(i:Nat),(k:Nat),y⟩:Dtm)) (by':=72) (enc:=encDt) (d:=d) (l:=l) qlc (T U) (T U) runUnderlying34 runUnderlying34 sizeOf93 typeInfo93 U zeroValue93 U (fun _=>rfl) U hdl qde qom) ?_ U;rintro _ _ ⟨d2,rfl,hd2,rfl⟩;refine J1 (List.Perm.cons _ (List.Perm.cons _ (List.perm_append_comm_assoc _ _ _))) (rO tb 6 U (y_ (Bd (T U) An qom) ?_ U));refine rO tb 2 U ?_;refine A8 ((k+1,d2,l++[(⟨(i:Nat),(k:Nat),y⟩:Dtm)],M2++M)) ?_ ?_ ⟨atd,atd,trivial⟩ (kg U) ?_
      ·refine⟨hk2,by rw[List.length_append,List.length_singleton];omega,hd2,fun x hx X=> ?_,?_,fun _=> ?_⟩
       ·rw[List.append_assoc];rcases List.mem_append.1 hx with h|h
        ·exact(hlm x h X).mono (List.sublist_append_right _ _)
        ·rw[List.mem_singleton.1 h];exact hyl (M++X)
       ·rw[List.map_append,hlk,prtW_yes c54,List.append_assoc,List.map_singleton];unfold dkey;rw[hyw]
       ·rcases hde with ⟨_,h⟩|⟨_,h⟩|⟨h,_⟩
        ·exact h
        ·exact h
        ·omega
      ·first|omega|(simp only[];omega)
      ·(try simp only[List.append_assoc]);exact sbt
     ·refine rC tb 6 U ?_
      first|refine Ak (Aa U) (fun c63=> ?_) (fun c63=> ?_)|refine Au (Aa U) (fun c63=> ?_) (fun c63=> ?_)
      ·refine rC tb 5 U (y_ (Bd (T U) An qom) ?_ U);refine rO tb 2 U ?_;refine A8 ((k+1,d,l,M)) ?_ ?_ ⟨atd,atd,trivial⟩ (kg U) ?_
       ·refine⟨hk2,by omega,hdl,hlm,by rw[prtW_no c54];exact hlk,fun _=> ?_⟩;rcases hde with ⟨_,h⟩|⟨_,h⟩|⟨h,_⟩
        ·exact h
        ·exact h
        ·omega
       ·first|omega|(simp only[];omega)
       ·(try simp only[List.append_assoc]);exact sbt
      ·refine rC tb 11 U (Bc (rX tb 3 U (Bc (rX tb 2 U (As U (.tmp (Aa U) (Ll U)) ?_)))));obtain⟨h1,h2⟩:(dtrW n (gd ws i).way (gd es i) (k:Nat)).2=2/\¬ (buildF leastF (gd es i)).2=0:=by
        rcases hde with h|h|h
        ·exact absurd h.1 c54
        ·exact absurd h.1 c63
        ·exact h
       rw[h1];exact⟨_,⟨.nil,[],2,[],⟨rfl,by rw[prt_lim hi2 qom h2];rfl,rfl,fun x hx=>by cases hx⟩,rfl⟩,sbt⟩
    ·obtain rfl:k=(gd ws i).way.links.length:=by have h9: ¬ ((k:Nat):Int)<((gd ws i).way.links.length:Nat):=c39;omega
     refine rC tb 2 U (Aq (rX tb 4 U (y_ (Bd (T U) An qom) ?_ U)));refine rO tb 2 U ?_;refine A8 ((i+1,d,l,M)) ?_ ?_ ⟨atd,atd,trivial⟩ (kg U) ?_
     ·refine⟨hi2,by omega,hdl,hlm,by rw[prtA_succ];exact hlk,fun j hj h0=> ?_⟩;rcases Nat.lt_succ_iff_lt_or_eq.1 hj with h3|rfl
      ·exact hlb j h3 h0
      ·exact hb0 h0
     ·first|omega|(simp only[];omega)
     ·exact sbt
  ·obtain rfl:i=ws.length:=by have h9: ¬ ((i:Nat):Int)<(ws.length:Nat):=c23;omega
   refine rC tb 2 U (Aq (rX tb 10 U ?_))
   first|refine Ak (Aa U) (fun c69=> ?_) (fun c69=> ?_)|refine Au (Aa U) (fun c69=> ?_) (fun c69=> ?_)
   ·refine rC tb 8 U (As U (.tmp (Aa U) (Ll U)) ?_);have hlen:l.length=(prtA n ws es ws.length).length:=by rw[<- hlk,List.length_map]
    exact⟨_,⟨.nil,[],2,[],⟨rfl,by rw[prt_all hlb,if_pos qom];rfl,rfl,fun x hx=>by cases hx⟩,rfl⟩,sbt⟩
   ·refine rC tb 10 U (As U (.tmp (Aa U) (Ll U)) ?_);have hlen:l.length=(prtA n ws es ws.length).length:=by rw[<- hlk,List.length_map]
    exact⟨_,⟨d,l,0,M,⟨rfl,by rw[prt_all hlb,if_neg qom,hlk],hdl,hlm⟩,rfl⟩,sbt⟩
theorem Jt {n:Nm}(hok:NetOk n){w:Way}(h:WayOk n w):InR n.links w.links/\∀ p∈hops n.links w,0<=p.1/\p.1<n.nodes.length:=
 ⟨Fu h.walk,hopsF_node n.links n.nodes.length w (fun l hl=>⟨(hok.links l hl).d0,(hok.links l hl).d1⟩) w.links w.src h.s0 h.s1 h.walk⟩
theorem net_gw {n:Nm}{steps:Int}{l:List Wm}(hok:NetOk n)(hw:∀ m∈l,oneF n steps m.way=0)(h20:∀ i,i<l.length->(gd l i).way.links.length<=20):Gw n l where
 nd:=fun m hm=>(Dw (hw m hm)).nd
 inr:=fun m hm=>(Jt hok (Dw (hw m hm))).1
 at':=fun m hm=>(Jt hok (Dw (hw m hm))).2
 len:=fun m hm=>by
  obtain⟨i,hi,rfl⟩:=List.getElem_of_mem hm;rw[<- Ay hi];have:=h20 i hi;omega
end Go.Proofs.YtnafbfbfmgfcfaaGreatDoor
