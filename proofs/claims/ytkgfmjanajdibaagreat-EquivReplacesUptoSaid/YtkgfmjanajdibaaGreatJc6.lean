/-
  A part of what LawC rests on: the logic, walks and plain laws. No condition.
-/
import Derived.Test.YtkgfmjanajdibaaGreatJc5
import Derived.Test.YtkgfmjanajdibaaGreatRows
import Derived.WalkKit
import Derived.ProofKit
import Derived.OpenShut
import Derived.Lib.SmallJoins
import Derived.Deep.SlicePairs
import Derived.Deep.DeepHandedRow
namespace Go.Proofs.YtkgfmjanajdibaaGreat
open _root_.Go.Proofs.Tryz
open Go.RowKit
set_option linter.unusedVariables false
set_option linter.unusedSimpArgs false
set_option linter.unusedSectionVars false
set_option maxRecDepth 100000
theorem y_at {P:Program}{w0:World}{l:Nat}{args:List Value}{M XX Hz:List (Nat × Obj)}{F:List (Nat × Obj)→List (Nat × Obj)}{C:Value→List (Nat × Obj)→Prop}(e:M=XX++Hz)(eb:∀ H1,XX++H1=F H1)(hy:YSpec P w0 l args (XX++Hz) fun v H'=>∃ H1,H'=XX++H1∧C v H1):YSpec P w0 l args M fun v H'=>∃ H1,H'=F H1∧C v H1:=by
 rw[e];exact hy.mono fun v H' ⟨H1,h1,h2⟩=>⟨H1,h1.trans (eb H1),h2⟩
def gPr (p:Pom):List Pdm:=if p.kind=1 then prtP p.pr else []
def prdF (m:Pom):List Pdm:=(prtO m).flatMap gPr
def offP (m:Pom) (k:Nat):Nat:=(((prtO m).take k).flatMap gPr).length
theorem offP_next {m x:Pom}{k:Nat}(hx:(prtO m)[k]? =some x):offP m (k+1)=offP m k+(gPr x).length:=by
 obtain⟨hk,e⟩:=List.getElem?_eq_some_iff.1 hx;unfold offP;rw[List.take_succ_eq_append_getElem hk,List.flatMap_append,List.length_append,e];simp
theorem offP_all (m:Pom):offP m (prtO m).length=(prdF m).length:=by unfold offP prdF;rw[List.take_length]
theorem offP_at {m x:Pom}{k j:Nat}(hx:(prtO m)[k]? =some x){y:Pdm}(hy:(gPr x)[j]? =some y):(prdF m)[offP m k+j]? =some y:=by
 obtain⟨hk,e⟩:=List.getElem?_eq_some_iff.1 hx;have hj:=(List.getElem?_eq_some_iff.1 hy).1;have e2:prdF m=((prtO m).take k).flatMap gPr++(gPr x++((prtO m).drop (k+1)).flatMap gPr):=by
  unfold prdF
  conv=>lhs;rw[← List.take_append_drop (k+1) (prtO m),List.flatMap_append,List.take_succ_eq_append_getElem hk,List.flatMap_append,e]
  simp
 unfold offP;rw[e2,List.getElem?_append_right qom,show ((prtO m).take k |>.flatMap gPr).length+j - ((prtO m).take k |>.flatMap gPr).length=j by omega,List.getElem?_append_left hj];exact hy
theorem prd_it {w0:World}{Hc:List (Nat × Obj)}{b1:Nat}(m:Pom)(hm:m.sz≤1000000000)(hM:PoM w0 Hc m)(f1:Fnd Hc b1 (Cl (encPo m) 28)):IterSpec Tryz.prog w0 153 [.pointer (some ⟨b1,0,none⟩)] Hc (fun x=>[.agg (encPd x).toArray]) (prdF m):=by
 intro ly S Sx hS hY H hS0;show FSpec Tryz.prog w0 153 #[.func (.yield ly) #[] #[], .pointer (some ⟨b1,0,none⟩)] H _;refine Au Tryz.func153 U ntmps153 U (rD tb 2 U (e_ (Nb U cs_) ?_ U));rintro _ _ ⟨n2,rfl,rfl⟩;refine rO tb 4 U (y_ (M8 U isAgg28 sizeOf28 U (by first|exact Ag (Fnd.mono f1 (List.Sublist.trans (hS _ _ hS0) (by exact sbt)))|exact As)) ?_ U);refine e_ (Aj (qe1 U) call154 (prs_mk m)) ?_ U;rintro _ _ ⟨b9,rfl,rfl⟩;refine rO tb 3 U ?_;refine j_rangeM (Z:=List (Nat × Obj)) (T U) call187 (prs_it (Hc:=(b9,Cl (encPo m) 28)::Hc) m hm (hM.mono (List.Sublist.cons _ (List.Sublist.refl _))) Am) (fun _=>rfl) U (fun z=>(b9,Cl (encPo m) 28)::(n2,Cl [.func (.yield ly) #[] #[]] 207)::z) (fun k z=>S (offP m k) z) (fun z=>Sx z) (fun _ z=>False) (H) ?_ sbt ?_ ?_ ?_ ?_ ?_
 ·exact hS0
 ·exact fun k z hz=>List.Sublist.cons_cons _ (List.Sublist.cons _ (hS _ _ hz))
 ·rintro l lr Y X k x z hl hx hz;have hxm:=List.mem_of_getElem? hx;have hxM:=(prtO_M hM x hxm).pred;have hxs:x.pr.sz≤1000000000:=by have h8:=prtO_sz x hxm;have h9:=Ef x;omega
  refine Im [(2,_),(7,_)] ⟨Aa U,Aa U,trivial⟩ (rD tb 1 U (e_ (Ah zeroValue28 cs_) ?_ U));rintro _ _ ⟨n3,rfl,rfl⟩
  first|refine A3 (Na U U sizeOf28) U Ac ?_
  rintro _ _ ⟨rfl,rfl⟩;refine rO tb 1 U (Hv hl ?_);refine rD tb 5 U (y_ (M7 U isAgg3 (by first|exact c_o)) ?_ U);refine rO tb 3 U ?_
  first|refine Ae (Aa U) (fun c10=> ?_) (fun c10=> ?_)|refine Ai (Aa U) (fun c10=> ?_) (fun c10=> ?_)
  ·have hgx:gPr x=[]:=if_neg (fun e=>c10 e);refine rC tb 3 U (Hw (z) ?_ sbt);show S (offP m (k+1)) z;rw[offP_next hx,hgx];exact hz
  ·have hgx:gPr x=prtP x.pr:=if_pos (Classical.not_not.1 c10);refine rC tb 5 U ?_;refine y_ (M8 U isAgg25 sizeOf25 U (by first|exact po_pr (.int .i64 x.kind) x.pr [.string x.nm, .int .i64 x.n, .slice x.q x.subs.length x.cap] fdd|exact As)) ?_ U;refine e_ (Aj (qe1 U) call155 (tst_mk x.pr)) ?_ U;rintro _ _ ⟨b8,rfl,rfl⟩;refine rO tb 3 U ?_;refine j_rangeN (Z:=List (Nat × Obj)) (r0:=lr .busy none) (by simp) (T U) call189 (tst_it (Hc:=(b8,Cl (encPd x.pr) 25)::Hc) x.pr hxs (hxM.mono (List.Sublist.cons _ (List.Sublist.refl _))) Am) (fun _=>rfl) U (fun z2=>(b8,Cl (encPd x.pr) 25)::(n3,Cl (encPo x) 28)::(X++((l, .loop (lr .busy none))::(Y++((b9,Cl (encPo m) 28)::(n2,Cl [.func (.yield ly) #[] #[]] 207)::z2))))) (fun j z2=>S (offP m k+j) z2) (fun z2=>Sx z2) (fun _ z2=>False) (z) ?_ sbt ?_ ?_ ?_ ?_ ?_
   ·exact hz
   ·exact fun k9 z2 hz2=>List.Sublist.cons_cons _ ((hS _ _ hz2).trans (by exact sbt))
   ·rintro l2 lr2 Y2 X2 j y z2 hl2 hy hz2;refine Im [(2,_),(14,_)] ⟨Aa U,Aa U,trivial⟩ (rD tb 1 U (e_ (Ah zeroValue25 cs_) ?_ U));rintro _ _ ⟨n4,rfl,rfl⟩
    first|refine A3 (Na U U sizeOf25) U Ac ?_
    rintro _ _ ⟨rfl,rfl⟩;refine rO tb 1 U (Hv hl2 ?_);refine rD tb 3 U ?_;refine y_ (M7 U isAgg207 (by first|exact c_o|exact Ag fdd 0 _ U)) ?_ U;refine y_ (M8 U isAgg25 sizeOf25 U (by first|exact Ag fdd|exact As)) ?_ U;refine e_ (Hu (T U) (.cons (T U) .nil) (y_at (F:=fun H1=>(n4,Cl (encPd y) 25)::(X2++((l2, .loop (lr2 .busy none))::(Y2++((b8,Cl (encPd x.pr) 25)::(n3,Cl (encPo x) 28)::(X++((l, .loop (lr .busy none))::(Y++((b9,Cl (encPo m) 28)::(n2,Cl [.func (.yield ly) #[] #[]] 207)::H1))))))))) (XX:=((n4,Cl (encPd y) 25)::(X2++((l2, .loop (lr2 .busy none))::(Y2++((b8,Cl (encPd x.pr) 25)::(n3,Cl (encPo x) 28)::(X++((l, .loop (lr .busy none))::(Y++[(b9,Cl (encPo m) 28),(n2,Cl [.func (.yield ly) #[] #[]] 207)]))))))))) (Hz:=z2) (by simp) (fun H1=>by simp) (hY _ y z2 _ (offP_at hx (by rw[hgx];exact hy)) hz2))) ?_ U;rintro _ _ ⟨H1,rfl,⟨rfl,hS1⟩|⟨rfl,hS1⟩⟩
    ·refine y_ (B0 (T U)) (rO tb 2 U ?_) U
     first|refine Cn (Aa U) ?_|refine Cn (Af (Aa U) (vbool (decide_eq_false c18))) ?_
     refine rC tb 2 U (Hw (H1) ?_ sbt);exact hS1
    ·refine y_ (B0 (T U)) (rO tb 2 U ?_) U
     first|refine B9 (Aa U) ?_|refine B9 (Af (Aa U) (vbool (decide_eq_true c18))) ?_
     refine rC tb 2 U (q_round_ret (H1) ?_ sbt);exact hS1
   ·rintro  z2 hz2;refine rX tb 2 U (Hw (z2) ?_ sbt);show S (offP m (k+1)) z2;rw[offP_next hx,hgx];exact hz2
   ·rintro  z2 hz2;refine rX tb 2 U (q_round_ret (z2) ?_ sbt);exact hz2
   ·exact fun _ _ h=>h.elim
 ·rintro D0 z hz;refine rX tb 1 U (q_mark_end ?_);refine J4 U .nil ?_;exact⟨z, .inl (by rw[← offP_all];exact hz),by exact sbt⟩
 ·rintro D0 z hz;refine rX tb 1 U (q_mark_ret ?_);refine Al U .nil ?_;exact⟨z, .inr hz,by exact sbt⟩
 ·exact fun _ _ _ h=>h.elim
theorem prd_mk {w0:World}{H:List (Nat × Obj)}(m:Pom):
  FSpec Tryz.prog w0 114 #[.agg (encPo m).toArray] H (fun u H'=>∃ b:Nat,u= .func (.func 153) #[] #[.pointer (some ⟨b,0,none⟩)]∧H'=(b,Cl (encPo m) 28)::H):=by
 refine Au Tryz.func114 U ntmps114 U (rD tb 2 U (e_ (Nb U cs_) ?_ U));rintro _ _ ⟨n1,rfl,rfl⟩;refine rO tb 5 U (y_ (Bn (.cons (T U) .nil)) (rO tb 4 U (Al U (M6 U) ?_)) U);exact⟨_,⟨n1,rfl,rfl⟩,by exact sbt⟩
theorem ybs109_1_0 (a0:Int)(w:World):(Instr.buildSlice 109 1 #[(0, .int .i64 a0)]).run Tryz.prog w= .ok (.slice (some ⟨w.heap.size,0,none⟩) 1 1) (w.alloc (Cl [.int .i64 a0] 3)):=by kernel_rfl
abbrev encZI (k:Int):Value:= .int .i64 k
abbrev encTB (b:Bool):Value:= .bool b
theorem keyZ {V:Type}:KeyOk (V:=V) Tryz.prog 3 encZI:=keyOk_now runUnderlying3 (fun b k w=>by cases b<;>kernel_rfl) (fun k k'=>by
 by_cases h:k'=k
 ·subst h;simp[Instr.sameNow]
 ·have: ¬ k=k':=fun e=>h e.symm
  simp[Instr.sameNow,h,this]) (fun k=>by simp[Instr.sameBits])
abbrev TkL:=List (Int × Bool)
def tkAt (pl:TkL) (seen:List Nat):List Int:=seen.map fun i=>(gd pl i).1
def TkSt (pl:TkL) (k:List Int) (_:Int):Prop:=k.length<pl.length
def TkEn (pl:TkL) (k:List Int):Prop:=∃ seen:List Nat,seen.Nodup∧(∀ i,i∈seen↔i<pl.length)∧k=tkAt pl seen
theorem Kl:∀ {n:Nat} {seen:List Nat},seen.Nodup→(∀ i∈seen,i<n)→seen.length≤n
 |0,seen,_,hs=>by
  cases seen with
  |nil=>simp
  |cons a l=>have:=hs a (by simp);omega
 |n+1,seen,hn,hs=>by
  by_cases hm:n∈seen
  ·have h1:=Kl (n:=n) (seen:=seen.erase n) (hn.erase n) (fun i hi=>by
    have h2:=hs i (List.mem_of_mem_erase hi);have h3:i≠n:=by rintro rfl;exact(List.Nodup.not_mem_erase hn) hi
    omega)
   rw[List.length_erase_of_mem hm] at h1;omega
  ·have:=Kl (n:=n) hn (fun i hi=>by
    have h2:=hs i hi;have h3:i≠n:=by rintro rfl;exact hm hi
    omega)
   omega
theorem seen_lt {n i:Nat}{seen:List Nat}(hn:seen.Nodup)(hs:∀ i∈seen,i<n)(hi:i∉seen)(hl:i<n):seen.length<n:=by
 have:=Kl (n:=n) (seen:=i::seen) (List.nodup_cons.2 ⟨hi,hn⟩) (fun j hj=>by rcases List.mem_cons.1 hj with rfl|h;exact hl;exact hs j h);simp at this;omega
theorem tkeys_s {w0:World}{H:List (Nat × Obj)}(r:Nat):
  FSpec Tryz.prog w0 116 #[.map (some r)] H (fun v H'=>∃ n1:Nat,v= .func (.func 157) #[] #[.pointer (some ⟨n1,0,none⟩)]∧H'=(n1,Cl [.map (some r)] 167)::H):=by
 refine Au Tryz.func116 U ntmps116 U (rD tb 2 U (e_ (Nb U cs_) ?_ U));rintro _ _ ⟨n1,rfl,rfl⟩;refine rO tb 5 U (y_ (Bn (.cons (T U) .nil)) (rO tb 4 U (Al U (M6 U) ?_)) U);exact⟨_,⟨n1,rfl,rfl⟩,by exact sbt⟩
theorem tkeys_it {w0:World}{Hc:List (Nat × Obj)}(n1 r:Nat)(pl:TkL)(h1:Fnd Hc n1 (Cl [.map (some r)] 167))(h2:Fnd Hc r (mapO encZI encTB pl)):
  IterSpecD Tryz.prog w0 157 [.pointer (some ⟨n1,0,none⟩)] Hc encI (TkSt pl) (TkEn pl):=by
 intro l S Sx hHc hY H0 hS0;have hY0:=fun k x H a b hx hS=>YSpec.mono (hY k x H [a,b] hx hS) (K':=fun v H'=>∃ H1,H'=a::b::H1∧((v= .bool true∧S (k++[x]) H1)∨(v= .bool false∧Sx H1))) (by rintro v _ ⟨H1,rfl,h⟩;exact⟨H1,rfl,h⟩)
 have hY1:=fun k x H a hx hS=>YSpec.mono (hY k x H [a] hx hS) (K':=fun v H'=>∃ H1,H'=a::H1∧((v= .bool true∧S (k++[x]) H1)∨(v= .bool false∧Sx H1))) (by rintro v _ ⟨H1,rfl,h⟩;exact⟨H1,rfl,h⟩)
 show FSpec Tryz.prog w0 157 #[.func (.yield l) #[] #[], .pointer (some ⟨n1,0,none⟩)] H0 _;refine Au Tryz.func157 U ntmps157 U (rD tb 2 U (y_ (M7 U isAgg167 (by first|exact c_o|exact(Cell.mono (w0:=w0) (c_o (i:=0) (hf:=h1)) (List.Sublist.trans (hHc _ _ hS0) sbt)))) ?_ U));refine e_ (eff_rangeMap (m:=r) (l:=pl) (encK:=encZI) (encV:=encTB) (T U) ((hHc _ _ hS0).subset h2) runUnderlying167) ?_ U;rintro _ _ ⟨n5,rfl,rfl⟩;refine rO tb 3 U ?_;refine Bl (X:=List Nat × List (Nat × Obj)) (V:=fun ⟨seen,Hx⟩=>[]) (C:=[(0,_),(5,_)]) (G:=fun ⟨seen,Hx⟩=>(n5,itO r pl.length seen pl.length)::Hx) (φ:=fun ⟨seen,Hx⟩=>S (tkAt pl seen) Hx∧seen.Nodup∧∀ i∈seen,i<pl.length) (μ:=fun ⟨seen,Hx⟩=>pl.length - seen.length) (x0:=([],H0)) ?_ ⟨Aa rfl,Aa rfl,trivial⟩ trivial (List.Sublist.refl _) ?_
 ·exact⟨hS0,by simp,by simp⟩
 rintro⟨seen,Hx⟩ ⟨hS,hnd,hlt⟩;have hr:Fnd Hx r (mapO encZI encTB pl):=(hHc _ _ hS).subset h2;refine rD tb 2 U ?_;refine e_ (eff_next (m:=r) (l:=pl) (encK:=encZI) (encV:=encTB) (T U) (by repeat (first|exact hr|exact Am|refine Aq ?_)) (by repeat (first|exact Loc.h|apply Loc.t))) ?_ U;rintro _ _ (⟨i,p,hip,hni,rfl,rfl⟩|⟨hall,rfl,rfl⟩)
 ·refine rO tb 4 U ?_
  first|refine B9 (Aa U) ?_|refine B9 (Af (Aa U) (vbool (decide_eq_true c7))) ?_
  refine rC tb 5 U ?_;refine y_ (yl_entry (m:=r) (l:=pl) (encK:=encZI) (encV:=encTB) (T U) (by repeat (first|exact hr|exact Am|refine Aq ?_)) (by repeat (first|exact Am|refine Aq ?_)) hip) ?_ U;refine rO tb 8 U ?_;refine e_ (Hu (T U) (.cons (T U) .nil) (hY1 (tkAt pl seen) p.1 Hx _ (by have:=seen_lt hnd hlt hni (List.getElem?_eq_some_iff.1 hip).1;simpa[TkSt,tkAt] using this) hS)) ?_ U;rintro _ _ ⟨H1,rfl,(⟨rfl,hS1⟩|⟨rfl,hSx⟩)⟩
  ·refine y_ (B0 (T U)) (rO tb 2 U ?_) U
   first|refine Cn (Aa U) ?_|refine Cn (Af (Aa U) (vbool (decide_eq_false c13))) ?_
   refine rC tb 2 U ?_;have hil:=(List.getElem?_eq_some_iff.1 hip).1;have hgp:(gd pl i).1=p.1:=by rw[Cg hil] at hip;simp at hip;rw[hip]
   have hsl:=seen_lt hnd hlt hni hil;refine A5 ((seen++[i],H1)) ?_ ?_ trivial ⟨Aa U,Aa U,trivial⟩ ?_
   ·refine⟨by unfold tkAt at *;rw[List.map_append];simpa[hgp] using hS1,?_,fun j hj=> ?_⟩
    ·rw[List.nodup_append];exact⟨hnd,by simp,by intro a ha b hb;simp at hb;subst hb;rintro rfl;exact hni ha⟩
    ·rcases List.mem_append.1 hj with h|h
     ·exact hlt j h
     ·simp at h;subst h;exact hil
   ·show pl.length - (seen++[i]).length<_;simp;omega
   ·exact sbt
  ·refine y_ (B0 (T U)) (rO tb 2 U ?_) U
   first|refine B9 (Aa U) ?_|refine B9 (Af (Aa U) (vbool (decide_eq_true c13))) ?_
   refine rC tb 2 U (Bm (rX tb 1 U (Al U .nil ?_)));exact⟨H1, .inr hSx,by exact sbt⟩
 ·refine rO tb 4 U ?_
  first|refine Cn (Aa U) ?_|refine Cn (Af (Aa U) (vbool (decide_eq_false c7))) ?_
  refine rC tb 2 U (Az (rX tb 1 U (J4 U .nil ?_)));exact⟨Hx, .inl ⟨_,⟨seen,hnd,fun i=>⟨fun h=>hlt i h,hall i⟩,rfl⟩,hS⟩,by exact sbt⟩
theorem tapp_s {w0:World}{H:List (Nat × Obj)}(n1 r:Nat)(pl:TkL)(h1:Fnd H n1 (Cl [.map (some r)] 167))(h2:Fnd H r (mapO encZI encTB pl))(hpl:pl.length≤100000):
  FSpec Tryz.prog w0 191 #[.slice none 0 0, .func (.func 157) #[] #[.pointer (some ⟨n1,0,none⟩)]] H (fun v H'=>∃ (d:Sl) (ks:List Int),v=slV d ks.length∧SlOk d ks.length 1∧TkEn pl ks∧H'=slH d (ks.flatMap encI) 3++H):=by
 refine Au Tryz.func191 U ntmps191 U (rD tb 2 U (e_ (Nb U cs_) ?_ U));rintro _ _ ⟨n2,rfl,rfl⟩;refine rO tb 10 U ?_;refine j_rangeD (Z:=Sl × Nat × List Int) (T rfl) call157 (tkeys_it n1 r pl h1 h2) (fun _=>rfl) rfl (fun ⟨d,c,l⟩=>slH d (l.flatMap encI) 3++((n2,Cl [slV d c] 109)::H)) (fun k ⟨d,c,l⟩=>c=l.length∧l=k∧SlOk d l.length 1) (fun ⟨d,c,l⟩=>False) (fun _ ⟨d,c,l⟩=>False) ((.nil,0,[])) ?_ sbt ?_ ?_ ?_ ?_ ?_
 ·exact⟨rfl,rfl,rfl⟩
 ·rintro⟨d,c,l⟩;exact sbt
 ·rintro l lr Y X k x1 ⟨d,c,l⟩ hl hx ⟨rfl,hll,hok⟩;have hlb:l.length<pl.length:=by rw[hll];exact hx
  refine Im [(2,_),(7,_)] ⟨Aa U,Aa U,trivial⟩ (rD tb 3 U (Hv hl ?_));refine rD tb 2 U (y_ (M7 U isAgg109 (by first|exact c_o)) ?_ U);refine rO tb 1 U (e_ (Bv (.cons (T U) .nil) (ybs109_1_0 _)) ?_ U);rintro _ _ ⟨n10,rfl,rfl⟩;refine e_ (C4 (x1) (by':=8) qlc (T U) (T U) runUnderlying109 runUnderlying109 sizeOf3 typeInfo3 U zeroValue3 U (fun _=>rfl) U hok qde qom) ?_ U;rintro _ _ ⟨d',rfl,hok',rfl⟩
  first|refine A3 (Na U U sizeOf109) U Ac ?_|refine A3 (B6 (T U) (T U) U sizeOf109) U Ac ?_|refine A3 (Bg (T U) (T U) U sizeOf109) U Ac ?_
  rintro _ _ ⟨rfl,rfl⟩;refine rO tb 2 U (Hw ((d',l.length+1,l++[x1])) ?_ sbt);exact⟨by simp,by rw[hll],by simpa using hok'⟩
 ·rintro D0 ⟨d,c,l⟩ kk hEn ⟨rfl,hll,hok⟩;refine rX tb 4 U (y_ (M7 U isAgg109 (by first|exact c_o)) ?_ U);refine rO tb 4 U (q_mark_ret ?_);refine Al U (M6 U) ?_;exact⟨_,⟨d,l,rfl,hok,hll ▸ hEn,rfl⟩,by exact sbt⟩
 ·exact fun _ _ h=>h.elim
 ·exact fun _ _ _ h=>h.elim
theorem tcoll_s {w0:World}{H:List (Nat × Obj)}(n1 r:Nat)(pl:TkL)(h1:Fnd H n1 (Cl [.map (some r)] 167))(h2:Fnd H r (mapO encZI encTB pl))(hpl:pl.length≤100000):
  FSpec Tryz.prog w0 156 #[.func (.func 157) #[] #[.pointer (some ⟨n1,0,none⟩)]] H (fun v H'=>∃ (d:Sl) (ks:List Int),v=slV d ks.length∧SlOk d ks.length 1∧TkEn pl ks∧H'=slH d (ks.flatMap encI) 3++H):=by
 refine Au Tryz.func156 U ntmps156 U (rD tb 8 U (e_ (Aj (.cons An (.cons (T U) .nil)) call191 (tapp_s _ r pl h1 h2 hpl)) ?_ U));rintro _ _ ⟨d,ks,rfl,hok,hen,rfl⟩;refine rO tb 4 U (Al U (M6 U) ?_);exact⟨_,⟨d,ks,rfl,hok,hen,rfl⟩,by exact sbt⟩
theorem tk_len {pl:TkL}{ks:List Int}(h:TkEn pl ks):ks.length≤pl.length:=by
 obtain⟨seen,h1,h2,rfl⟩:=h;unfold tkAt;rw[List.length_map];exact Kl h1 fun i hi=>(h2 i).1 hi
theorem tk_mem {pl:TkL}{ks:List Int}(h:TkEn pl ks)(x:Int):x∈ks↔∃ b,(x,b)∈pl:=by
 obtain⟨seen,h1,h2,rfl⟩:=h;unfold tkAt;rw[List.mem_map]
 constructor
 ·rintro⟨i,hi,rfl⟩;exact⟨(gd pl i).2,Bo ((h2 i).1 hi)⟩
 ·rintro⟨b,hb⟩;obtain⟨i,hi,e⟩:=List.getElem_of_mem hb;exact⟨i,(h2 i).2 hi,by rw[A4 hi,e]⟩
theorem tsorted_s {w0:World}{H:List (Nat × Obj)}(n1 r:Nat)(pl:TkL)(h1:Fnd H n1 (Cl [.map (some r)] 167))(h2:Fnd H r (mapO encZI encTB pl))(hpl:pl.length≤100000):
  FSpec Tryz.prog w0 115 #[.func (.func 157) #[] #[.pointer (some ⟨n1,0,none⟩)]] H (fun v H'=>∃ (d:Sl) (ks:List Int),v=slV d (srtI ks).length∧SlOk d (srtI ks).length 1∧TkEn pl ks∧H'=slH d ((srtI ks).flatMap encI) 3++H):=by
 refine Au Tryz.func115 U ntmps115 U (rD tb 8 U (e_ (Aj (qe1 U) call156 (tcoll_s _ r pl h1 h2 hpl)) ?_ U));rintro _ _ ⟨d,ks,rfl,hok,hen,rfl⟩;have hkl:=tk_len hen;have hsl:(srtI ks).length=ks.length:=by simp[srtI]
 refine rO tb 6 U (e_ (Aj (qe1 U) call134 (sort_s d ks hok qom)) ?_ U);rintro _ _ ⟨rfl,rfl⟩;refine rO tb 9 U (Al U (M6 U) ?_);exact⟨_,⟨d,ks,by rw[hsl];rfl,by rw[hsl];exact hok,hen,rfl⟩,by exact sbt⟩
def loopDQ (w0:World) {X:Type} (V:X→Fm) (G:X→List (Nat × Obj)) (D:X→List Deferred) (φ:X→Prop) (μ:X→Nat) (m:Nat) (Q:Post):Post
 | .normal,σ,ds',w=>∃ x b,ds'=D x∧φ x∧μ x<m∧σ=lk (V x) b∧Own w0 (G x) w
 |e,σ,ds',w=>Q e σ ds' w
section
variable {P:Program} {r:Option Nat} {N:Nat} {w0:World} {Q:Post} {L:Fm} {ds:List Deferred} {H:List (Nat × Obj)}
theorem j_loopD {c:Code}{X:Type}(V:X→Fm)(G:X→List (Nat × Obj))(D:X→List Deferred)(φ:X→Prop)(μ:X→Nat)(x0:X)(h0:φ x0)(hV:Agree (V x0) L)(hG:(G x0).Sublist H)(hD:D x0=ds)
  (round:∀ x,φ x→J P r N w0 c (loopDQ w0 V G D φ μ (μ x) Q) (V x) (D x) (G x)):J P r N w0 (.loop c) Q L ds H:=fun b w hO a hs hf hd=>by
 classical
 let I:Nat→Act→World→Prop:=fun m a w=>a.tmps.size=N∧∃ x b,a.defers=D x∧φ x∧μ x=m∧fr a=lk (V x) b∧Own w0 (G x) w
 have hle:∀ {a w},(∃ m,I m a w)→∃ m,I m a w∧∀ m',I m' a w→m≤m':=fun ⟨_,h⟩=>least_ex (I:=fun m=>I m _ _) h
 let μ':Act→World→Nat:=fun a w=>if h:∃ m,I m a w then (hle h).choose else 0
 refine wpIn_loop (fun a w=>∃ m,I m a w) μ' ⟨μ x0,hs,x0,lk L b,by rw[hd,hD],h0,rfl,by rw[hf,De hV],hO.sub hG⟩ ?_;intro a w hI;have hm:I (μ' a w) a w:=by
  have:μ' a w=(hle hI).choose:=dif_pos hI;rw[this];exact(hle hI).choose_spec.1
 obtain⟨hs',x,b',hd',hx,hmx,hfx,hOx⟩:=hm;refine wpIn_mono (round x hx b' w hOx a hs' hfx hd') ?_;intro e a' w' hq;cases e with
 |normal=>
  obtain⟨hs2,x2,b2,hd2,h2,hlt,hf2,hO2⟩:=hq;have hI2:∃ m,I m a' w':=⟨μ x2,hs2,x2,b2,hd2,h2,rfl,hf2,hO2⟩;refine⟨hI2,?_⟩;have e2:μ' a' w'=(hle hI2).choose:=dif_pos hI2;have:=(hle hI2).choose_spec.2 (μ x2) ⟨hs2,x2,b2,hd2,h2,rfl,hf2,hO2⟩;rw[e2];omega
 |_=>exact hq
theorem j_loopDC {c:Code}{X:Type}(V:X→Fm)(C:Fm)(G:X→List (Nat × Obj))(D:X→List Deferred)(φ:X→Prop)(μ:X→Nat)(x0:X)(h0:φ x0)(hC:Agree C L)(hV:Agree (V x0) L)(hG:(G x0).Sublist H)
  (round:∀ x,φ x→J P r N w0 c (loopDQ w0 (fun x=>V x++C) G D φ μ (μ x) Q) (V x++C) (D x) (G x)) (hD:D x0=ds:=by rfl):J P r N w0 (.loop c) Q L ds H:=
 j_loopD (fun x=>V x++C) G D φ μ x0 h0 (E6 hV hC) hG hD round
theorem q_loopDC {X:Type}{V:X→Fm}{C:Fm}{G:X→List (Nat × Obj)}{D:X→List Deferred}{φ:X→Prop}{μ:X→Nat}{m:Nat}(x:X)(hφ:φ x)(hμ:μ x<m)(hV:Agree (V x) L)(hC:Agree C L)(hG:(G x).Sublist H)(hD:ds=D x:=by rfl):JQ w0 (loopDQ w0 (fun x=>V x++C) G D φ μ m Q) .normal L ds H:=
 fun b w hO=>⟨x,lk L b,hD,hφ,hμ,(De (E6 hV hC)).symm,hO.sub hG⟩
theorem q_loopD_exit {X:Type}{V:X→Fm}{G:X→List (Nat × Obj)}{D:X→List Deferred}{φ:X→Prop}{μ:X→Nat}{m:Nat}{id:Nat}(h:JQ w0 Q (.exit id) L ds H):JQ w0 (loopDQ w0 V G D φ μ m Q) (.exit id) L ds H:=h
abbrev mkD (Ds:List Nat):List Deferred:=Ds.map fun D=>{target:= .collected D,args:= #[]}
abbrev mkM (Ds:List Nat):List (Nat × Obj):=Ds.map fun D=>(D,Obj.deferred (some []))
theorem q_retM {fn:Func}{K:Value→List (Nat × Obj)→Prop}{rs:List ResultVar}{vs:List Value}(hr:fn.results=rs.toArray)(h:ResV P w0 L H rs vs)(hK:∃ H',K (resOf vs) H'∧H'.Sublist H):∀ (Ds:List Nat),JQ w0 (retQ P fn w0 K) .ret L (mkD Ds) (mkM Ds++H)
 |[]=>Al hr h hK
 |D::Ds=>q_mark_ret (H':=(D,Obj.deferred none)::(mkM Ds++H)) (fun b w hO=>q_retM hr h hK Ds b w (hO.sub (List.Sublist.cons _ (List.Sublist.refl _)))) .h
theorem perm_mk {A B C:List (Nat × Obj)}{x:Nat × Obj}:(A++(x::(B++C))).Perm (B++(A++(x::C))):=by
 have h1:(x::(B++C)).Perm (B++(x::C)):=(List.perm_middle (l₁:=B) (a:=x) (l₂:=C)).symm;have h2:(A++(B++(x::C))).Perm (B++(A++(x::C))):=by
  rw[← List.append_assoc,← List.append_assoc];exact List.Perm.append_right _ List.perm_append_comm
 exact(List.Perm.append_left A h1).trans h2
theorem q_retMP {fn:Func}{K:Value→List (Nat × Obj)→Prop}{rs:List ResultVar}{vs:List Value}{A C:List (Nat × Obj)}{x:Nat × Obj}(Ds:List Nat)(hr:fn.results=rs.toArray)(h:ResV P w0 L (A++(x::C)) rs vs)(hK:∃ H',K (resOf vs) H'∧H'.Sublist (A++(x::C))):JQ w0 (retQ P fn w0 K) .ret L (mkD Ds) (A++(x::(mkM Ds++C))):=
 jq_perm perm_mk (q_retM hr h hK Ds)
end
abbrev encSt (m:Pom):List Value:=encPo m++[.int .i64 0, .string ⟨#[]⟩, .slice none 0 0, .string ⟨#[]⟩, .int .i64 0, .int .i64 0]
def stepB (l:TkL) (x:Pdm):TkL:=if x.kind=9 then upsert (upsert l x.val true) x.to true else l
def tickB (ms:List Pom):TkL:=(ms.flatMap prdF).foldl stepB []
theorem ups_len {l:TkL}{k:Int}{v:Bool}:(upsert l k v).length≤l.length+1:=by
 induction l with
 |nil=>simp[upsert,findI]
 |cons e l ih=>rw[Et];split<;>simp<;>omega
theorem ups_mem {l:TkL}{k:Int}{v:Bool}(x:Int):(∃ b,(x,b)∈upsert l k v)↔x=k∨∃ b,(x,b)∈l:=by
 induction l with
 |nil=>simp[upsert,findI]
 |cons e l ih=>
  rw[Et];obtain⟨e1,e2⟩:=e
  by_cases h:e1=k
  ·subst h;simp only[if_true,List.mem_cons,Prod.mk.injEq]
   constructor
   ·rintro⟨b,⟨rfl,_⟩|hb⟩
    ·exact .inl U
    ·exact .inr ⟨b, .inr hb⟩
   ·rintro(rfl|⟨b,⟨rfl,_⟩|hb⟩)
    ·exact⟨v, .inl ⟨rfl,rfl⟩⟩
    ·exact⟨v, .inl ⟨rfl,rfl⟩⟩
    ·exact⟨b, .inr hb⟩
  ·simp only[if_neg h,List.mem_cons,Prod.mk.injEq]
   constructor
   ·rintro⟨b,⟨rfl,rfl⟩|hb⟩
    ·exact .inr ⟨_, .inl ⟨rfl,rfl⟩⟩
    ·rcases ih.1 ⟨b,hb⟩ with rfl|⟨b2,hb2⟩
     ·exact .inl U
     ·exact .inr ⟨b2, .inr hb2⟩
   ·rintro(rfl|⟨b,⟨rfl,rfl⟩|hb⟩)
    ·obtain⟨b,hb⟩:=ih.2 (.inl rfl);exact⟨b, .inr hb⟩
    ·exact⟨_, .inl ⟨rfl,rfl⟩⟩
    ·obtain⟨b2,hb2⟩:=ih.2 (.inr ⟨b,hb⟩);exact⟨b2, .inr hb2⟩
theorem ups_nd {l:TkL}{k:Int}{v:Bool}(h:(l.map (·.1)).Nodup):((upsert l k v).map (·.1)).Nodup:=by
 induction l with
 |nil=>simp[upsert,findI]
 |cons e l ih=>
  rw[Et];obtain⟨e1,e2⟩:=e;rw[List.map_cons,List.nodup_cons] at h
  by_cases hk:e1=k
  ·subst hk;rw[if_pos rfl,List.map_cons,List.nodup_cons];exact h
  ·rw[if_neg hk,List.map_cons,List.nodup_cons];refine⟨fun hm=> ?_,ih h.2⟩;obtain⟨⟨a,b⟩,hb,e⟩:=List.mem_map.1 hm;have e:a=e1:=e;subst e;rcases(ups_mem a).1 ⟨b,hb⟩ with rfl|⟨b2,hb2⟩
   ·exact hk U
   ·exact h.1 (List.mem_map.2 ⟨_,hb2,rfl⟩)
theorem fold_len:∀ (xs:List Pdm) (l:TkL),(xs.foldl stepB l).length≤l.length+2*xs.length
 |[],l=>by simp
 |x::xs,l=>by
  rw[List.foldl_cons];have h1:=fold_len xs (stepB l x);have h2:(stepB l x).length≤l.length+2:=by
   unfold stepB
   split
   ·have a:=ups_len (l:=l) (k:=x.val) (v:=true);have b:=ups_len (l:=upsert l x.val true) (k:=x.to) (v:=true);omega
   ·omega
  rw[List.length_cons];omega
theorem fold_nd:∀ (xs:List Pdm) {l:TkL},(l.map (·.1)).Nodup→((xs.foldl stepB l).map (·.1)).Nodup
 |[],l,h=>h
 |x::xs,l,h=>by
  rw[List.foldl_cons];refine fold_nd xs ?_;unfold stepB
  split
  ·exact ups_nd (ups_nd h)
  ·exact h
theorem fold_mem:∀ (xs:List Pdm) (l:TkL) (x:Int),(∃ b,(x,b)∈xs.foldl stepB l)↔(∃ t∈xs,t.kind=9∧(x=t.val∨x=t.to))∨∃ b,(x,b)∈l
 |[],l,x=>by simp
 |t::xs,l,x=>by
  rw[List.foldl_cons,fold_mem xs];have e:(∃ b,(x,b)∈stepB l t)↔(t.kind=9∧(x=t.val∨x=t.to))∨∃ b,(x,b)∈l:=by
   unfold stepB
   split
   ·rename_i h;rw[ups_mem,ups_mem]
    constructor
    ·rintro(rfl|rfl|h2)
     ·exact .inl ⟨h, .inr U⟩
     ·exact .inl ⟨h, .inl U⟩
     ·exact .inr h2
    ·rintro(⟨_,rfl|rfl⟩|h2)
     ·exact .inr (.inl U)
     ·exact .inl U
     ·exact .inr (.inr h2)
   ·rename_i h;exact⟨.inr,fun k=>k.elim (fun k=>absurd k.1 h) id⟩
  rw[e]
  constructor
  ·rintro(⟨s,hs,k⟩|k|k)
   ·exact .inl ⟨s,by simp[hs],k⟩
   ·exact .inl ⟨t,by simp,k⟩
   ·exact .inr k
  ·rintro(⟨s,hs,k⟩|k)
   ·rcases List.mem_cons.1 hs with rfl|hs
    ·exact .inr (.inl k)
    ·exact .inl ⟨s,hs,k⟩
   ·exact .inr (.inr k)
mutual
theorem prd_len:∀ m:Pom,(prdF m).length≤m.nd
 | .mk k p s n q c xs=>by
  have h:=prdL_len xs;rw[Ld];unfold prdF;rw[Dp,List.flatMap_cons,List.length_append];show (gPr _).length+((prtOL xs).flatMap gPr).length≤1+(if k=1 then p.sz else 0)+ndOL xs;have h2:(gPr (.mk k p s n q c xs)).length=if k=1 then p.sz else 0:=by
   unfold gPr;show (if k=1 then prtP p else []).length=_
   split
   ·exact Jk p
   ·rfl
  rw[h2];omega
theorem prdL_len:∀ l:List Pom,((prtOL l).flatMap gPr).length≤ndOL l
 |[]=>by simp[prtOL]
 |x::l=>by
  have h1:=prd_len x;have h2:=prdL_len l;rw[prtOL,List.flatMap_append,List.length_append,ndOL];unfold prdF at h1;omega
end
theorem prds_len {ms:List Pom}(h:∀ m∈ms,m.nd≤1000):(ms.flatMap prdF).length≤1000*ms.length:=by
 induction ms with
 |nil=>simp
 |cons m ms ih=>
  have h1:=h m (by simp);have h2:=prd_len m;have h3:=ih fun x hx=>h x (by simp[hx])
  rw[List.flatMap_cons,List.length_append,List.length_cons];omega
structure Tks (ms:List Pom) (l:List Int):Prop where
 up:l.Pairwise (· < ·)
 mem:∀ x,x∈l↔∃ t∈ms.flatMap prdF,t.kind=9∧(x=t.val∨x=t.to)
 len:l.length≤32000
theorem tks_of {ms:List Pom}{ks:List Int}(h:TkEn (tickB ms) ks)(hl:(tickB ms).length≤32000):Tks ms (srtI ks):=by
 have hnd:ks.Nodup:=by
  obtain⟨seen,h1,h2,rfl⟩:=h;have h3:((tickB ms).map (·.1)).Nodup:=fold_nd _ (by simp);refine List.pairwise_map.2 (List.Pairwise.imp_of_mem ?_ h1);intro i j hi hj hne e;have hi:=(h2 i).1 hi;have hj:=(h2 j).1 hj;have h4:=List.pairwise_iff_getElem.1 h3;rw[A4 hi,A4 hj] at e;rcases Nat.lt_trichotomy i j with k|k|k
  ·exact h4 i j (by simpa using hi) (by simpa using hj) k (by simpa using e)
  ·exact hne k
  ·exact h4 j i (by simpa using hj) (by simpa using hi) k (by simpa using e.symm)
 refine⟨?_,fun x=> ?_,?_⟩
 ·have h1:=List.pairwise_mergeSort (le:=fun (x y:Int)=>decide (x≤y)) (fun a b c h1 h2=>by simp at *;omega) (fun a b=>by simp;omega) ks;have h2:(srtI ks).Nodup:=(List.mergeSort_perm ks _).nodup_iff.2 hnd;exact(h1.and h2).imp fun ⟨a,b⟩=>by simp at a;omega
 ·rw[List.mem_mergeSort,tk_mem h,tickB,fold_mem];simp
 ·have:=tk_len h;show (ks.mergeSort _).length≤_;rw[List.length_mergeSort];omega
theorem st_po {w0:World}{H:List (Nat × Obj)}{n:Nat}{t:TypeId}{m:Pom}(h:Fnd H n (Cl (encSt m) t)):Cells w0 H n 0 (encPo m):=fun i v hi=>Ag h i v (by rw[List.getElem?_append_left (by exact(List.getElem?_eq_some_iff.1 hi).1)];exact hi)
theorem take_next {α:Type}{l:List α}{k:Nat}{x:α}(hx:l[k]? =some x):l.take (k+1)=l.take k++[x]:=by
 obtain⟨hk,e⟩:=List.getElem?_eq_some_iff.1 hx;rw[List.take_succ_eq_append_getElem hk,e]
theorem bnds_s {w0:World}{H:List (Nat × Obj)}(ms:List Pom)(q:Option Addr)(c:Nat)(hA:Arr w0 H q 15 encSt ms)(hM:∀ m∈ms,PoM w0 H m∧m.sz≤1000000000∧m.nd≤1000)(hlen:ms.length≤16):
  FSpec Tryz.prog w0 73 #[.slice q ms.length c] H (fun u H'=>∃ (d:Sl) (l:List Int),u=slV d l.length∧SlOk d l.length 1∧Tks ms l∧H'=slH d (l.flatMap encI) 3++H):=by
 refine Au Tryz.func73 U ntmps73 U (rD tb 7 U (e_ Df ?_ U));rintro _ _ ⟨n7,rfl,rfl⟩;refine e_ (Ah zeroValue167 cs_) ?_ U;rintro _ _ ⟨n3,rfl,rfl⟩
 first|refine A3 (Na U U sizeOf167) U Ac ?_|refine A3 (B6 (T U) (T U) U sizeOf167) U Ac ?_|refine A3 (Bg (T U) (T U) U sizeOf167) U Ac ?_
 rintro _ _ ⟨rfl,rfl⟩;refine rO tb 11 U ?_;refine j_loopDC (D:=fun ⟨i,l,Ds⟩=>mkD Ds) (X:=Nat × TkL × List Nat) (V:=fun ⟨i,l,Ds⟩=>[(10, .int .i64 (i:Nat))]) (C:=[(2,_),(3,_),(8,_),(9,_)]) (G:=fun ⟨i,l,Ds⟩=>mkM Ds++((n3,Cl [.map (some n7)] 167)::(n7,mapO encZI encTB l)::H)) (φ:=fun ⟨i,l,Ds⟩=>i≤ms.length∧l=((ms.take i).flatMap prdF).foldl stepB []) (μ:=fun ⟨i,l,Ds⟩=>ms.length - i) (x0:=(0,[],[])) ?_ ⟨Aa rfl,Aa rfl,Aa rfl,Aa rfl,trivial⟩ ⟨atd,trivial⟩ (List.Sublist.refl _) ?_
 ·exact⟨Nat.zero_le _,rfl⟩
 rintro⟨i,l,Ds⟩ ⟨hi,hl⟩;refine rD tb 6 U ?_
 first|refine Ae (Aa U) (fun c11=> ?_) (fun c11=> ?_)|refine Ai (Aa U) (fun c11=> ?_) (fun c11=> ?_)
 ·have hi2:i<ms.length:=by have h9:((i:Nat):Int)<(ms.length:Nat):=c11;omega
  have hmi:=hM _ (Bo hi2);refine rC tb 6 U (y_ (M9 U U runUnderlying117 sizeOf115 (by have h9:((i:Nat):Int)<(ms.length:Nat):=c11;omega) (by first|exact rfl|exact hA.b (i:=i) hi2)) ?_ U);refine y_ (M8 U isAgg115 sizeOf115 U (by first|exact(hA.mono (by exact sbt)).cs (i:=i) hi2|exact As)) ?_ U;refine e_ (Ah zeroValue115 cs_) ?_ U;rintro _ _ ⟨n5,rfl,rfl⟩
  first|refine A3 (Na U U sizeOf115) U Ac ?_
  rintro _ _ ⟨rfl,rfl⟩;refine rO tb 5 U ?_;refine y_ (M8 U isAgg28 sizeOf28 U (by first|exact st_po fdd|exact As)) ?_ U;refine e_ (Aj (qe1 U) call114 (prd_mk (gd ms i))) ?_ U;rintro _ _ ⟨b,rfl,rfl⟩;refine rO tb 3 U ?_;refine j_range (Z:=TkL) (T U) call153 (prd_it (Hc:=(b,Cl (encPo (gd ms i)) 28)::H) (gd ms i) hmi.2.1 (hmi.1.mono (List.Sublist.cons _ (List.Sublist.refl _))) Am) (fun _=>rfl) U (fun z=>(b,Cl (encPo (gd ms i)) 28)::(n5,Cl (encSt (gd ms i)) 115)::(mkM Ds++((n3,Cl [.map (some n7)] 167)::(n7,mapO encZI encTB z)::H))) (fun k z=>z=((prdF (gd ms i)).take k).foldl stepB l) (fun z=>False) (fun _ z=>False) (l) ?_ sbt ?_ ?_ ?_ ?_ ?_
  ·rfl
  ·exact fun z=>List.Sublist.cons_cons _ (by exact sbt)
  ·rintro l lr Y X k y z hl hx hz;refine Im [(3,_),(17,_)] ⟨Aa U,Aa U,trivial⟩ (rD tb 1 U (e_ (Ah zeroValue25 cs_) ?_ U));rintro _ _ ⟨n6,rfl,rfl⟩
   first|refine A3 (Na U U sizeOf25) U Ac ?_
   rintro _ _ ⟨rfl,rfl⟩;refine rO tb 1 U (Hv hl ?_);refine rD tb 4 U ?_;refine y_ (M7 U isAgg3 (by first|exact c_o|exact Ag fdd 0 _ U)) ?_ U;refine rO tb 3 U ?_
   first|refine Ae (Aa U) (fun c20=> ?_) (fun c20=> ?_)|refine Ai (Aa U) (fun c20=> ?_) (fun c20=> ?_)
   ·refine Bp 7 [(0,true),(1,true),(2,true),(3,true),(4,true),(5,true),(6,false)] ((n6,Cl (encPd y) 25)::(n3,Cl [.map (some n7)] 167)::H) mixd qkr (by exact sbt) ?_ By;refine o_y U (M7 U isAgg167 (by first|exact c_o|exact Ag fdd 0 _ U)) ?_ U Ac;refine rP tb 1 U ?_;refine o_y U (M7 U isAgg3 (by first|exact c_o|exact Ag fdd 2 _ U)) ?_ U Ac;refine o_y U (M7 U isAgg167 (by first|exact c_o|exact Ag fdd 0 _ U)) ?_ U Ac;refine rP tb 1 U ?_;refine o_y U (M7 U isAgg3 (by first|exact c_o|exact Ag fdd 3 _ U)) ?_ U Ac;refine o_e U (Cp (l:=z) (encK:=encZI) (encV:=encTB) y.val true keyZ (T U) (T U) U An U runUnderlying167) ?_ U Ac;rintro _ _ ⟨rfl,rfl⟩;refine⟨sbt,(Bd U (e_ (Cp (l:=upsert z y.val true) (encK:=encZI) (encV:=encTB) y.to true keyZ (T U) (T U) U An U runUnderlying167) ?_ U))⟩;rintro _ _ ⟨rfl,rfl⟩;refine rO tb 2 U (Hw (upsert (upsert z y.val true) y.to true) ?_ sbt);rw[take_next hx,List.foldl_append,← hz];show _=stepB z y;unfold stepB;rw[if_pos c20]
   ·refine rC tb 2 U (Hw (z) ?_ sbt);rw[take_next hx,List.foldl_append,← hz];show _=stepB z y;unfold stepB;rw[if_neg c20]
  ·rintro D0 z hz;refine rX tb 4 U (y_ (A8 (T U) An qom) ?_ U);refine rO tb 2 U ?_;refine q_loopDC ((i+1,z,D0::Ds)) ?_ ?_ ⟨atd,trivial⟩ ⟨Aa U,Aa U,Aa U,Aa U,trivial⟩ ?_
   ·refine⟨hi2,?_⟩;rw[List.take_succ_eq_append_getElem hi2,← A4 hi2,List.flatMap_append,List.foldl_append,← hl];show z=(([gd ms i]:List Pom).flatMap prdF).foldl stepB l;rw[hz,List.take_length];simp
   ·first|omega|(simp only[];omega)
   ·exact(show ((D0,Obj.deferred (some []))::(mkM Ds++((n3,Cl [.map (some n7)] 167)::(n7,mapO encZI encTB z)::H))).Sublist _ from by exact sbt)
  ·exact fun _ _ h=>h.elim
  ·exact fun _ _ _ h=>h.elim
 ·obtain rfl:i=ms.length:=by have h9: ¬ ((i:Nat):Int)<(ms.length:Nat):=c11;omega
  rw[List.take_length] at hl;obtain rfl:l=tickB ms:=hl;have hpl:(tickB ms).length≤100000:=by have h8:=fold_len (ms.flatMap prdF) [];have h9:=prds_len (fun m hm=>(hM m hm).2.2);simp only[List.length_nil,Nat.zero_add] at h8;unfold tickB;omega
  refine rC tb 2 U (q_loopD_exit (rX tb 4 U ?_));refine y_ (M7 U isAgg167 (by first|exact c_o|exact Ag fdd 0 _ U)) ?_ U;refine e_ (Aj (qe1 U) call116 (tkeys_s n7)) ?_ U;rintro _ _ ⟨n29,rfl,rfl⟩;refine e_ (Aj (qe1 U) call115 (tsorted_s n29 n7 (tickB ms) fdd fdd hpl)) ?_ U;rintro _ _ ⟨d,ks,rfl,hok,hen,rfl⟩;refine rO tb 4 U (q_retMP Ds U (M6 U) ?_);exact⟨_,⟨d,srtI ks,rfl,hok,tks_of hen (by have h8:=fold_len (ms.flatMap prdF) [];have h9:=prds_len (fun m hm=>(hM m hm).2.2);simp only[List.length_nil,Nat.zero_add] at h8;unfold tickB;omega),rfl⟩,by exact sbt⟩
theorem ybd115_0 (a0:Int)(a1:Int)(a2:ByteArray)(a3:Int)(a4:Int)(a5:Option Addr)(a5n a5c:Nat)(a6:ByteArray)(a7:Int)(a8:Option Addr)(a8n a8c:Nat)(w:World):(Instr.build 115 #[(0, .agg #[.int .i64 a0, .int .i64 a1, .string a2, .int .i64 a3, .int .i64 a4, .slice a5 a5n a5c, .string a6, .int .i64 a7, .slice a8 a8n a8c])]).run Tryz.prog w= .ok (.agg #[.int .i64 a0, .int .i64 a1, .string a2, .int .i64 a3, .int .i64 a4, .slice a5 a5n a5c, .string a6, .int .i64 a7, .slice a8 a8n a8c, .int .i64 0, .string ⟨#[]⟩, .slice none 0 0, .string ⟨#[]⟩, .int .i64 0, .int .i64 0]) w:=by kernel_rfl
theorem ybs117_2_0_1 (a0:Int)(a1:Int)(a2:ByteArray)(a3:Int)(a4:Int)(a5:Option Addr)(a5n a5c:Nat)(a6:ByteArray)(a7:Int)(a8:Option Addr)(a8n a8c:Nat)(a9:Int)(a10:ByteArray)(a11:Option Addr)(a11n a11c:Nat)(a12:ByteArray)(a13:Int)(a14:Int)(a15:Int)(a16:Int)(a17:ByteArray)(a18:Int)(a19:Int)(a20:Option Addr)(a20n a20c:Nat)(a21:ByteArray)(a22:Int)(a23:Option Addr)(a23n a23c:Nat)(a24:Int)(a25:ByteArray)(a26:Option Addr)(a26n a26c:Nat)(a27:ByteArray)(a28:Int)(a29:Int)(w:World):(Instr.buildSlice 117 2 #[(0, .agg #[.int .i64 a0, .int .i64 a1, .string a2, .int .i64 a3, .int .i64 a4, .slice a5 a5n a5c, .string a6, .int .i64 a7, .slice a8 a8n a8c, .int .i64 a9, .string a10, .slice a11 a11n a11c, .string a12, .int .i64 a13, .int .i64 a14]),(1, .agg #[.int .i64 a15, .int .i64 a16, .string a17, .int .i64 a18, .int .i64 a19, .slice a20 a20n a20c, .string a21, .int .i64 a22, .slice a23 a23n a23c, .int .i64 a24, .string a25, .slice a26 a26n a26c, .string a27, .int .i64 a28, .int .i64 a29])]).run Tryz.prog w= .ok (.slice (some ⟨w.heap.size,0,none⟩) 2 2) (w.alloc (Cl [.int .i64 a0, .int .i64 a1, .string a2, .int .i64 a3, .int .i64 a4, .slice a5 a5n a5c, .string a6, .int .i64 a7, .slice a8 a8n a8c, .int .i64 a9, .string a10, .slice a11 a11n a11c, .string a12, .int .i64 a13, .int .i64 a14, .int .i64 a15, .int .i64 a16, .string a17, .int .i64 a18, .int .i64 a19, .slice a20 a20n a20c, .string a21, .int .i64 a22, .slice a23 a23n a23c, .int .i64 a24, .string a25, .slice a26 a26n a26c, .string a27, .int .i64 a28, .int .i64 a29] 115)):=by kernel_rfl
theorem arrSt2 {w0:World}{R:List (Nat × Obj)}{n:Nat}{a b:Pom}{t:TypeId}(hf:Fnd R n (Cl (encSt a++encSt b) t)):Arr w0 R (some ⟨n,0,none⟩) 15 encSt [a,b]:=fun j x hj=>by
 match j with
 |0=>
  obtain rfl:a=x:=by simpa using hj
  exact⟨rfl,fun k v hk=>Ag hf k v (by rw[List.getElem?_append_left (List.getElem?_eq_some_iff.1 hk).1];exact hk)⟩
 |1=>
  obtain rfl:b=x:=by simpa using hj
  refine⟨rfl,fun k v hk=> ?_⟩;have:=Ag (w0:=w0) hf (15+k) v (by rw[List.getElem?_append_right (by simp)];simpa using hk);rw[show (0:Nat)+(15+k)=0+1*15+k by omega] at this;exact this
 |j+2=>simp at hj
def AlwR (fl:List Fd) (p1 p2:Po) (L:List Int) (t:Int) (h:Hd) (is:Bool) (e:Int):Prop:=
 (e=12∧t=0∧h=hd0∧is=false∧∃ t'∈L,Gn fl t' p1 p2)∨
 (e=0∧t=0∧h=hd0∧is=true∧∀ t'∈L,∀ g,HdOk g→AskP t' 1 p1 p2 g)∨
 (e=0∧is=false∧Ans (AskP t 1 p1 p2) h false∧∃ A B,L=A++t::B∧∀ t'∈A,∀ g,HdOk g→AskP t' 1 p1 p2 g)
theorem alw_hit {fl:List Fd}{p1 p2:Po}{L:List Int}{i:Nat}(hi:i<L.length)(hn:∀ j,j<i→∀ g,HdOk g→AskP (gd L j) 1 p1 p2 g){h:Hd}(ha:Ans (AskP (gd L i) 1 p1 p2) h false):AlwR fl p1 p2 L (gd L i) h false 0:=by
 refine .inr (.inr ⟨rfl,rfl,ha,L.take i,L.drop (i+1),?_,fun t ht=> ?_⟩)
 ·conv=>lhs;rw[← List.take_append_drop i L,List.drop_eq_getElem_cons hi,← A4 hi]
 ·obtain⟨j,hj,rfl⟩:=List.getElem_of_mem ht;rw[List.length_take] at hj;rw[List.getElem_take,← A4 qom];exact hn j qom
theorem ealways_s {w0:World}{H:List (Nat × Obj)}{fl:List Fd}(hfl:FlOk fl)(q:Option Addr)(c:Nat)(hA:Arr w0 H q 3 encF fl){m1:Pom}{p1:Po}(hI1:IsO fl m1 p1)(hF1:p1.Fit (bsF fl))(hM1:PoM w0 H m1){m2:Pom}{p2:Po}(hI2:IsO fl m2 p2)(hF2:p2.Fit (bsF fl))(hM2:PoM w0 H m2)(hs1:m1.sz≤1000000000∧m1.nd≤1000)(hs2:m2.sz≤1000000000∧m2.nd≤1000):
  FSpec Tryz.prog w0 25 #[.slice q fl.length c, .agg (encPo m1).toArray, .agg (encPo m2).toArray] H (fun u H'=>(∃ (bl:List Int) (t:Int) (h:Hd) (is:Bool) (e:Int),u= .tuple #[.int .i64 t, .agg (hdC h).toArray, .bool is, .int .i64 e]∧HdOk h∧Tks [m1,m2] bl∧AlwR fl p1 p2 (0::bl) t h is e)∧H'=H):=by
 refine Au Tryz.func25 U ntmps25 U (rD tb 2 U (e_ (Nb U cs_) ?_ U));rintro _ _ ⟨n4,rfl,rfl⟩;refine e_ (Nb U cs_) ?_ U;rintro _ _ ⟨n5,rfl,rfl⟩;refine rO tb 1 U (e_ (Ah zeroValue32 cs_) ?_ U);rintro _ _ ⟨n7,rfl,rfl⟩;refine rO tb 6 U (e_ (Bv (.cons An .nil) (ybs109_1_0 _)) ?_ U);rintro _ _ ⟨n16,rfl,rfl⟩;refine y_ (M8 U isAgg28 sizeOf28 U (by first|exact Ag fdd|exact As)) ?_ U;refine y_ (Ba (.cons (T U) .nil) (ybd115_0 _ _ _ _ _ _ _ _ _ _ _ _ _)) ?_ U;refine y_ (M8 U isAgg28 sizeOf28 U (by first|exact Ag fdd|exact As)) ?_ U;refine y_ (Ba (.cons (T U) .nil) (ybd115_0 _ _ _ _ _ _ _ _ _ _ _ _ _)) (e_ (Bv (.cons (T U) (.cons (T U) .nil)) (ybs117_2_0_1 _ _ _ _ _ _ _ _ _ _ _ _ _ _ _ _ _ _ _ _ _ _ _ _ _ _ _ _ _ _ _ _ _ _ _ _ _ _ _ _ _ _)) ?_ U) U;rintro _ _ ⟨n21,rfl,rfl⟩;refine e_ (Aj (qe1 rfl) call73 (bnds_s [m1,m2] (some ⟨n21,0,none⟩) 2 (arrSt2 Am) (fun m hm=>by rcases List.mem_cons.1 hm with rfl|hm;exact⟨hM1.mono (by exact sbt),hs1⟩;rw[List.mem_singleton.1 hm];exact⟨hM2.mono (by exact sbt),hs2⟩) (by show 2≤16;omega))) ?_ rfl;rintro _ _ ⟨d8,bl,rfl,hd8,hT,rfl⟩;have hbl:=hT.len;refine e_ (Eu (enc:=encI) (d:= .blk n16 1 []) (l:=[0]) bl (by':=8) (by repeat (first|exact loc_1|apply LocL.t|apply LocL.a)) (T U) (T U) runUnderlying109 runUnderlying109 sizeOf3 typeInfo3 U zeroValue3 U (fun _=>rfl) (fun _=>rfl) ⟨Nat.le_refl _,rfl⟩ qde (by simp only[List.length_cons,List.length_nil];omega) ((Cu (w0:=w0) (e:=3) (X:=((n21,Cl (encSt m1++encSt m2) 115)::(n16,Cl [.int .i64 0] 3)::(n7,Cl [.int .i64 0, .int .i64 0, .int .i64 0, .int .i64 0, .int .i64 0, .int .i64 0, .int .i64 0, .int .i64 0, .int .i64 0, .int .i64 0] 32)::(n5,Cl (encPo m2) 28)::(n4,Cl (encPo m1) 28)::H)) (enc:=encI) (fun _=>rfl) hd8).mono (by exact sbt))) ?_ U;rintro _ _ ⟨d9,rfl,hd9,rfl⟩;have hd9:SlOk d9 ((0:Int)::bl).length 1:=by have:=hd9;rw[List.length_singleton] at this;rw[List.length_cons,Nat.add_comm];exact this
 have hI9:=Cu (w0:=w0) (e:=3) (X:=[]) (enc:=encI) (l:=((0:Int)::bl)) (fun _=>rfl) hd9;rw[List.append_nil] at hI9;refine rO tb 12 U ?_;refine Bl (X:=Nat) (V:=fun i=>[(26, .int .i64 (i:Nat))]) (C:=[(0,_),(4,_),(5,_),(7,_),(24,_),(25,_)]) (G:=fun i=>((n21,Cl (encSt m1++encSt m2) 115)::(slH d9 ((0::bl).flatMap encI) 3++((n7,Cl [.int .i64 0, .int .i64 0, .int .i64 0, .int .i64 0, .int .i64 0, .int .i64 0, .int .i64 0, .int .i64 0, .int .i64 0, .int .i64 0] 32)::(n5,Cl (encPo m2) 28)::(n4,Cl (encPo m1) 28)::H)))) (φ:=fun i=>i≤(0::bl).length∧∀ j,j<i→∀ g,HdOk g→AskP (gd ((0:Int)::bl) j) 1 p1 p2 g) (μ:=fun i=>(0::bl).length - i) (x0:=0) ?_ ⟨Aa U,Aa U,Aa U,Aa U,Aa U,Aa U,trivial⟩ ⟨atd,trivial⟩ (by exact sbt) ?_
 ·exact⟨Nat.zero_le _,fun j hj=>absurd hj (Nat.not_lt_zero _)⟩
 rintro i ⟨hi,hn⟩;have hI9m:Arr w0 ((n21,Cl (encSt m1++encSt m2) 115)::(slH d9 ((0::bl).flatMap encI) 3++((n7,Cl [.int .i64 0, .int .i64 0, .int .i64 0, .int .i64 0, .int .i64 0, .int .i64 0, .int .i64 0, .int .i64 0, .int .i64 0, .int .i64 0] 32)::(n5,Cl (encPo m2) 28)::(n4,Cl (encPo m1) 28)::H))) (slQ d9) 1 encI (0::bl):=hI9.mono (.cons _ (List.sublist_append_left _ _));refine rD tb 6 U ?_
 first|refine Ae (Aa U) (fun c27=> ?_) (fun c27=> ?_)|refine Ai (Aa U) (fun c27=> ?_) (fun c27=> ?_)
 ·have hi2:i<(0::bl).length:=by have h9:=c27;simp only[List.length_cons,List.length_nil] at h9 ⊢;omega
  have hi3:i≤32000:=by have h9:=hi2;rw[List.length_cons] at h9;omega
  refine rC tb 6 U (y_ (M9 U U runUnderlying109 sizeOf3 (by have h9:=c27;simp only[List.length_cons,List.length_nil] at h9 ⊢;omega) (by first|exact rfl|exact hI9.b (i:=i) hi2)) ?_ U);refine y_ (M7 U isAgg3 (by first|exact c_o|exact(Arr.f0 hI9m (i:=i) hi2 U))) ?_ U;refine rO tb 6 U ?_;refine y_ (M8 U isAgg28 sizeOf28 U (by first|exact Ag fdd|exact As)) ?_ U;refine y_ (M8 U isAgg28 sizeOf28 U (by first|exact Ag fdd|exact As)) ?_ U;refine rO tb 1 U (e_ (Aj (qe4 U U U U) call13 (Dl hfl q c (hA.mono (by exact sbt)) (gd ((0:Int)::bl) i) hI1 hF1 (hM1.mono (by exact sbt)) hI2 hF2 (hM2.mono (by exact sbt)))) ?_ U);rintro _ _ ⟨⟨h,is,e9,rfl,hh,hR⟩,rfl⟩;refine rO tb 4 U (e_ (Ah zeroValue32 cs_) ?_ U);rintro _ _ ⟨n13,rfl,rfl⟩;refine e_ (Na U U sizeOf32 .agg (Be _) (Ak hh) (by repeat (first|exact Upd.h|apply Upd.t|apply Bh)) (by rw[Ak hh];rfl)) ?_ U;rintro _ _ ⟨rfl,rfl⟩;refine rO tb 11 U ?_
  first|refine Ae (Aa U) (fun c40=> ?_) (fun c40=> ?_)|refine Ai (Aa U) (fun c40=> ?_) (fun c40=> ?_)
  ·obtain⟨h12,rfl,rfl,hno⟩:=hR.resolve_left fun k=>c40 k.1
   refine rC tb 1 U (Bp 6 [(0,true),(1,true),(2,true),(3,false),(4,true),(5,true)] _ mixd qkr sb0 ?_ By);refine o_y U (M8 U isAgg32 sizeOf32 (Ak hh) (by first|exact Ag fdd|exact As)) ?_ U Ac;refine rP tb 2 U (o_e U (Na U U sizeOf32 .agg (Be _) (Ak hh) (by repeat (first|exact Upd.h|apply Upd.t|apply Bh)) (by rw[Ak hh];rfl)) ?_ U Ac);rintro _ _ ⟨rfl,rfl⟩;refine⟨sbt,(rP tb 2 U (Bd U (kO tb 2 [6,7,8,9] rfl U (rG tb 4 U (Bm (rX tb 2 U (Al U (.tmp (Aa U) (.cellA (Aa U) isAgg32 sizeOf32 (Ak hh) (by first|exact As) (.tmp (Aa U) (M6 U)))) ?_)))))))⟩;exact⟨_,⟨⟨bl,0,hd0,false,e9,rfl,Br,hT, .inl ⟨h12,rfl,rfl,rfl,_,Bo hi2,hno⟩⟩,rfl⟩,by exact sbt⟩
  ·have h0:e9=0:=Classical.not_not.1 c40;have hans:=(hR.resolve_right fun k=>absurd (k.1.symm.trans h0) qde).2;refine rC tb 5 U ?_
   first|refine A7 (B5 (T U)) U Ac ?_|refine A7 (B0 (T U)) U Ac ?_
   refine rO tb 2 U ?_
   first|refine Ae (Aa U) (fun c44=> ?_) (fun c44=> ?_)|refine Ai (Aa U) (fun c44=> ?_) (fun c44=> ?_)
   ·obtain rfl:is=false:=by simpa using c44
    refine rC tb 1 U (Bp 3 [(0,true),(1,true),(2,true)] _ mixd qkr sb0 ?_ By);refine rP tb 1 U ?_;refine o_y U (M8 U isAgg32 sizeOf32 (Ak hh) (by first|exact Ag fdd|exact As)) ?_ U Ac;refine rP tb 1 U (Bd U (e_ (Na U U sizeOf32 .agg (Be _) (Ak hh) (by repeat (first|exact Upd.h|apply Upd.t|apply Bh)) (by rw[Ak hh];rfl)) ?_ U));rintro _ _ ⟨rfl,rfl⟩;refine kO tb 4 [6,7,8,9] rfl U (rG tb 3 U (Bm (rX tb 2 U (Al U (.tmp (Aa U) (.cellA (Aa U) isAgg32 sizeOf32 (Ak hh) (by first|exact As) (.tmp (Aa U) (M6 U)))) ?_))));exact⟨_,⟨⟨bl,gd ((0:Int)::bl) i,h,false,0,rfl,hh,hT,alw_hit hi2 hn hans⟩,rfl⟩,by exact sbt⟩
   ·obtain rfl:is=true:=by simpa using c44
    have hk2:=hans.true;refine rC tb 4 U (y_ (A8 (T U) An qom) ?_ U);refine rO tb 2 U ?_;refine A5 (i+1) ?_ ?_ ⟨atd,trivial⟩ ⟨Aa U,Aa U,Aa U,Aa U,Aa U,Aa U,trivial⟩ ?_
    ·refine⟨hi2,fun j hj=> ?_⟩;rcases Nat.lt_or_ge j i with h9|h9
     ·exact hn j h9
     ·obtain rfl:j=i:=by omega
      exact hk2
    ·first|omega|(simp only[];omega)
    ·exact sbt
 ·obtain rfl:i=(0::bl).length:=by have h9:=c27;simp only[List.length_cons,List.length_nil] at h9 hi ⊢;omega
  refine rC tb 2 U (Az (rX tb 4 U (y_ (Ba .nil (Kj)) (rO tb 1 U (e_ (Na U U sizeOf32) ?_ U)) U)));rintro _ _ ⟨rfl,rfl⟩;refine rO tb 5 U (Al U (.tmp (Aa U) (.cellA (Aa U) isAgg32 sizeOf32 U (by first|exact As) (.tmp (Aa U) (M6 U)))) ?_);exact⟨_,⟨⟨bl,0,hd0,true,0,rfl,Br,hT, .inr (.inl ⟨rfl,rfl,rfl,rfl,fun t ht=>by obtain⟨j,hj,rfl⟩:=List.getElem_of_mem ht;rw[← A4 hj];exact hn j hj⟩)⟩,rfl⟩,by exact sbt⟩
abbrev xK7:Hd:=[0,0,28672,0,0,0,0,0,0,0]
abbrev xDS:Hd:=[0,772,0,0,0,0,0,0,0,0]
abbrev xD1:Hd:=[0,256,0,0,0,0,0,0,0,0]
section
variable {P:Hd→Prop} {h:Hd} {is:Bool}
theorem L3 (a:Ans P h is)(e:∀ g,HdOk g→P g):is=true∧h=hd0:=let b:=ans_uniq a (.inl ⟨rfl,rfl,e⟩);⟨b.2,b.1⟩
theorem ans_f (a:Ans P h is){x:Hd}(hx:HdOk x)(n: ¬ P x):is=false:=by
 cases is
 ·rfl
 ·exact absurd (a.true x hx) n
theorem L7 (a:Ans P h is){x:Hd}(hx:HdOk x)(n: ¬ P x)(l:∀ g,HdOk g→¬ P g→x=g∨hLt x g):is=false∧h=x:=by
 have b:=ans_uniq a (h':=x) (is':=false) (.inr ⟨rfl,hx,n,fun g hg hl=>Classical.byContradiction fun c=>by
  rcases l g hg c with rfl|k
  ·exact hl.irr
  ·exact(hl.trans k).irr⟩)
 exact⟨b.2,b.1⟩
end
theorem Mz {x h:Hd}(hx:HdOk x)(c:((List.range 160).all fun b=>decide (16≤b∧b<24)||decide (24≤b∧b<32)||decide (33≤b∧b<36)|| !hbit x b)=true)(hh:HdOk h)(d:fget exD x≤fget exD h)(s:fget exS x≤fget exS h)(k:fget exK x≤fget exK h):x=h∨hLt x h:=
 hd_le (F:=exF) hx hh (fun f hf=>by
  simp only[exF,List.mem_cons,List.not_mem_nil,or_false] at hf;rcases hf with rfl|rfl|rfl
  ·exact d
  ·exact s
  ·exact k) (fun b hb o=>by
  have t:=List.all_eq_true.1 c b (List.mem_range.2 hb);have o1: ¬ (16≤b∧b<24):=o exD (by simp[exF]);have o2: ¬ (24≤b∧b<32):=o exS (by simp[exF]);have o3: ¬ (33≤b∧b<36):=o exK (by simp[exF]);rw[decide_eq_false o1,decide_eq_false o2,decide_eq_false o3] at t
  simpa using t)
theorem Mr (f:Fd):fget f hd0=0:=Nat.eq_of_testBit_eq fun i=>by rw[Eb,Jb];simp
theorem le_0 {h:Hd}(hh:HdOk h):hd0=h∨hLt hd0 h:=Mz Br qkr hh (by rw[Mr];exact Nat.zero_le _) (by rw[Mr];exact Nat.zero_le _) (by rw[Mr];exact Nat.zero_le _)
theorem okD:FdOk exD:=inD.ok
theorem okS:FdOk exS:=inS.ok
theorem okK:FdOk exK:=inK.ok
theorem Ml:HdOk xK7:=by refine⟨rfl,fun w hw=> ?_⟩;simp at hw;omega
theorem J7:HdOk xDS:=by refine⟨rfl,fun w hw=> ?_⟩;simp at hw;omega
theorem Mm:HdOk xD1:=by refine⟨rfl,fun w hw=> ?_⟩;simp at hw;omega
theorem k7_k:fget exK xK7=7:=by kernel_rfl
theorem k7_d:fget exD xK7=0:=by kernel_rfl
theorem k7_s:fget exS xK7=0:=by kernel_rfl
theorem ds_k:fget exK xDS=0:=by kernel_rfl
theorem ds_d:fget exD xDS=3:=by kernel_rfl
theorem ds_s:fget exS xDS=4:=by kernel_rfl
theorem d1_k:fget exK xD1=0:=by kernel_rfl
theorem d1_d:fget exD xD1=1:=by kernel_rfl
theorem d1_s:fget exS xD1=0:=by kernel_rfl
section
variable {h:Hd} {is:Bool}
theorem q1_a (a:Ans (AskP 0 1 q1_1 q1_2) h is):is=true∧h=hd0:=L3 a fun g _=>by
 show ∀ x,(∃ m,m=fset exK g 1∧x=fset exK m 2)↔x=fset exK g 2;intro x
 constructor
 ·rintro⟨m,rfl,rfl⟩;exact fset_fset
 ·rintro rfl;exact⟨_,rfl,fset_fset.symm⟩
theorem q2_a (a:Ans (AskP 0 1 q2_1 q2_2) h is):is=false∧h=hd0:=L7 a Br (fun k=>by
 have k:∀ x,(x=hd0∧(fget exK hd0==1)=true)↔(x=hd0∧true=true):=k;have:=((k hd0).2 ⟨rfl,rfl⟩).2;rw[Mr] at this;cases this) fun g hg _=>le_0 hg
theorem q3_0 (g:Hd):AskP 0 1 Lz L0 g:=by
 show ∀ x,(x=g∧_)↔(x=g∧true=true);exact fun x=>⟨fun k=>⟨k.1,rfl⟩,fun k=>⟨k.1,(by show (!(decide ((3:Int)≤0)&&decide ((0:Int)<7)))=true;decide)⟩⟩
theorem q3_3: ¬ AskP 3 1 Lz L0 hd0:=fun k=>by
 have k:∀ x,(x=hd0∧holdsP 3 (.no (.time 3 7)) hd0=true)↔(x=hd0∧true=true):=k;have:=((k hd0).2 ⟨rfl,rfl⟩).2;exact absurd this qde
theorem q3_a {bl:List Int}{t e:Int}(hT:bl.Pairwise (· < ·))(hm:∀ x,x∈bl↔x=3∨x=7)(a:AlwR exF Lz L0 (0::bl) t h is e):e=0∧t=3∧is=false∧h=hd0:=by
 have hall:∀ t'∈(0:Int)::bl,t'=0∨t'=3∨t'=7:=fun t' h'=>by
  rcases List.mem_cons.1 h' with h'|h'
  ·exact .inl h'
  ·exact .inr ((hm t').1 h')
 have h3:(3:Int)∈bl:=(hm 3).2 (.inl U);rcases a with ⟨_,_,_,_,t',ht,hn⟩|⟨_,_,_,_,k⟩|⟨he,hi,k,A,B,hL,hA⟩
 ·exfalso;rcases hall t' ht with rfl|rfl|rfl
  ·exact q3a_no hn
  ·exact q3b_no hn
  ·exact q3c_no hn
 ·exact absurd (k 3 (List.mem_cons_of_mem _ h3) hd0 Br) q3_3
 ·subst hi;have ht:t∈(0:Int)::bl:=by rw[hL];simp
  rcases hall t ht with rfl|rfl|rfl
  ·exact absurd (q3_0 h) k.false.2.1
  ·obtain⟨_,rfl⟩:=L7 k Br q3_3 fun g hg _=>le_0 hg
   exact⟨he,rfl,rfl,rfl⟩
  ·exfalso
   match A,hL with
   |[],hL=>simp at hL
   |b::A',hL=>
    obtain⟨rfl,rfl⟩:=List.cons.inj hL;rcases List.mem_append.1 h3 with h4|h4
    ·exact q3_3 (hA 3 (List.mem_cons_of_mem _ h4) hd0 Br)
    ·rcases List.mem_cons.1 h4 with h4|h4
     ·exact absurd h4 qde
     ·have:=(List.pairwise_cons.1 (List.pairwise_append.1 hT).2.1).1 3 h4;exact absurd this qde
theorem q4_a (a:Ans (AskP 0 2 q4_1 Mw) h is):is=true∧h=hd0:=L3 a fun g _=>by
 show ∀ x,den 0 Mw g x→den 0 (.fil .tru) g x∨den 0 (.set exK 1) g x;exact fun x d=> .inr d
theorem q5_a (a:Ans (AskP 0 2 q5_1 q5_2) h is):is=false:=ans_f a Br fun k=>by
 have k:∀ x,(x=hd0∧true=true)∨x=fset exK hd0 1→x=fset exK hd0 1:=k;have:=congrArg (fget exK) (k hd0 (.inl ⟨rfl,rfl⟩));rw[Gg okK qde,Mr] at this;cases this
theorem q6_a (a:Ans (AskP 0 3 Mx Mx) h is):is=true∧h=hd0:=L3 a fun g _=>by
 show ∀ x,¬ ∃ m,(m=g∧(fget exK g==1)=true)∧x=m∧(fget exK m==2)=true;rintro x ⟨m,⟨rfl,e1⟩,_,e2⟩;rw[beq_iff_eq.1 e1] at e2;cases e2
theorem q7_a (a:Ans (AskP 0 4 My My) h is):is=false∧h=xK7:=L7 a Ml (fun k=>by
 obtain⟨g,k⟩:∃ g,g=xK7∧(decide (0≤fget exK xK7)&&decide (fget exK xK7≤6))=true:=k;rw[k7_k] at k;exact absurd k.2 qde) fun g hg n=>by
 have n: ¬ ∃ x,x=g∧(decide (0≤fget exK g)&&decide (fget exK g≤6))=true:=n;have h6: ¬ fget exK g≤6:=fun c=>n ⟨g,rfl,by rw[decide_eq_true c,decide_eq_true (Nat.zero_le _)];rfl⟩
 exact Mz Ml qkr hg (by rw[k7_d];exact Nat.zero_le _) (by rw[k7_s];exact Nat.zero_le _) (by rw[k7_k];omega)
theorem q8_a (a:Ans (AskP 0 5 Mt Mt) h is):is=false:=ans_f a Br fun k=>by
 have k:∀ g g',((g=hd0∧true=true)∨g=fset exK hd0 3)→((g'=hd0∧true=true)∨g'=fset exK hd0 3)→g=g':=k;have:=congrArg (fget exK) (k hd0 _ (.inl ⟨rfl,rfl⟩) (.inr U));rw[Gg okK qde,Mr] at this;cases this
theorem q9_a (a:Ans (AskP 0 6 q9_1 q9_2) h is):is=true∧h=hd0:=L3 a fun g _=>by
 show (∀ x,¬ (x=g∧(fget exD g==1)=true))∨∀ x,¬ (x=g∧(fget exD g==2)=true)
 by_cases e:fget exD g=1
 ·right;rintro x ⟨_,k⟩;rw[e] at k;cases k
 ·left;rintro x ⟨_,k⟩;exact e (beq_iff_eq.1 k)
theorem q10_a (a:Ans (DstP 0 Mi Mj) h is):is=false∧h=xDS:=L7 a J7 (fun k=>by
 have k: ¬ ((∃ h,HdOk h∧xDS=fset exD h 3)∧∃ h,HdOk h∧xDS=fset exS h 4):=k;have e1:=fset_self okD J7;have e2:=fset_self okS J7;rw[ds_d] at e1;rw[ds_s] at e2;exact k ⟨⟨xDS,J7,e1.symm⟩,xDS,J7,e2.symm⟩) fun g hg n=>by
 have n: ¬ ¬ ((∃ h,HdOk h∧g=fset exD h 3)∧∃ h,HdOk h∧g=fset exS h 4):=n;obtain⟨⟨x,_,e1⟩,y,_,e2⟩:=Classical.not_not.1 n;have f1:fget exD g=3:=by rw[e1];exact Gg okD qde
 have f2:fget exS g=4:=by rw[e2];exact Gg okS qde
 exact Mz J7 qkr hg (by rw[ds_d,f1];exact Nat.le_refl _) (by rw[ds_s,f2];exact Nat.le_refl _) (by rw[ds_k];exact Nat.zero_le _)
theorem q11_a (a:Ans (SlcP 0 q11_1 q11_2) h is):is=false∧h=xD1:=L7 a Mm (fun k=>by
 refine k.1 (fset exD (fset exD xD1 2) 3) ?_;refine⟨fset exD xD1 2,⟨xD1,⟨rfl,?_⟩,rfl⟩,fset exD xD1 2,⟨rfl,?_⟩,rfl⟩
 ·show (fget exD xD1==1)=true;rw[d1_d];rfl
 ·show (fget exD (fset exD xD1 2)==2)=true;rw[Gg okD qde];rfl) fun g hg n=>by
 by_cases f1:fget exD g=1
 ·exact Mz Mm qkr hg (by rw[d1_d,f1];exact Nat.le_refl _) (by rw[d1_s];exact Nat.zero_le _) (by rw[d1_k];exact Nat.zero_le _)
 ·refine absurd ⟨fun x k=> ?_,fun x k=> ?_⟩ n
  ·obtain⟨m,⟨m2,⟨_,e⟩,_⟩,_⟩:=k;have e:(fget exD g==1)=true:=e;exact f1 (beq_iff_eq.1 e)
  ·obtain⟨m,⟨m2,⟨_,_⟩,e2⟩,m3,⟨_,e⟩,_⟩:=k;have e:(fget exD m==1)=true:=e;have e2:m=fset exD m2 3:=e2;rw[e2,Gg okD qde] at e;cases e
theorem q12_a (a:Ans (SlcP 0 q12_1 q12_2) h is):is=true∧h=hd0:=L3 a fun g _=>by
 refine⟨fun x k=> ?_,fun x k=> ?_⟩
 ·obtain⟨m,⟨e1,e2⟩,e3,e4⟩:=k;have e2:(fget exD g==1)=true:=e2;have e4:(fget exD m==2)=true:=e4;have e1:m=g:=e1;rw[e1,beq_iff_eq.1 e2] at e4;cases e4
 ·obtain⟨m,⟨e1,e2⟩,e3,e4⟩:=k;have e2:(fget exD g==2)=true:=e2;have e4:(fget exD m==1)=true:=e4;have e1:m=g:=e1;rw[e1,beq_iff_eq.1 e2] at e4;cases e4
end
theorem ybd127_0_1_2 (a0:ByteArray)(a1:Int)(a2:Int)(w:World):(Instr.build 127 #[(0, .string a0),(1, .int .i64 a1),(2, .int .i64 a2)]).run Tryz.prog w= .ok (.agg #[.string a0, .int .i64 a1, .int .i64 a2]) w:=by kernel_rfl
theorem ybd25_0_1_2 (a0:Int)(a1:ByteArray)(a2:Int)(w:World):(Instr.build 25 #[(0, .int .i64 a0),(1, .string a1),(2, .int .i64 a2)]).run Tryz.prog w= .ok (.agg #[.int .i64 a0, .string a1, .int .i64 a2, .int .i64 0, .slice none 0 0]) w:=by kernel_rfl
theorem ybd28_0_1 (a0:Int)(a1:Int)(a2:ByteArray)(a3:Int)(a4:Int)(a5:Option Addr)(a5n a5c:Nat)(w:World):(Instr.build 28 #[(0, .int .i64 a0),(1, .agg #[.int .i64 a1, .string a2, .int .i64 a3, .int .i64 a4, .slice a5 a5n a5c])]).run Tryz.prog w= .ok (.agg #[.int .i64 a0, .int .i64 a1, .string a2, .int .i64 a3, .int .i64 a4, .slice a5 a5n a5c, .string ⟨#[]⟩, .int .i64 0, .slice none 0 0]) w:=by kernel_rfl
theorem ybd28_0_2_3 (a0:Int)(a1:ByteArray)(a2:Int)(w:World):(Instr.build 28 #[(0, .int .i64 a0),(2, .string a1),(3, .int .i64 a2)]).run Tryz.prog w= .ok (.agg #[.int .i64 a0, .int .i64 0, .string ⟨#[]⟩, .int .i64 0, .int .i64 0, .slice none 0 0, .string a1, .int .i64 a2, .slice none 0 0]) w:=by kernel_rfl
theorem ybd28_0_4 (a0:Int)(a1:Option Addr)(a1n a1c:Nat)(w:World):(Instr.build 28 #[(0, .int .i64 a0),(4, .slice a1 a1n a1c)]).run Tryz.prog w= .ok (.agg #[.int .i64 a0, .int .i64 0, .string ⟨#[]⟩, .int .i64 0, .int .i64 0, .slice none 0 0, .string ⟨#[]⟩, .int .i64 0, .slice a1 a1n a1c]) w:=by kernel_rfl
theorem ybd32_0_1_2 (a0:Int)(a1:Int)(a2:Int)(w:World):(Instr.build 32 #[(0, .int .i64 a0),(1, .int .i64 a1),(2, .int .i64 a2)]).run Tryz.prog w= .ok (.agg #[.int .i64 a0, .int .i64 a1, .int .i64 a2, .int .i64 0, .int .i64 0, .int .i64 0, .int .i64 0, .int .i64 0, .int .i64 0, .int .i64 0]) w:=by kernel_rfl
theorem ybs22_3_0_1_2 (a0:ByteArray)(a1:Int)(a2:Int)(a3:ByteArray)(a4:Int)(a5:Int)(a6:ByteArray)(a7:Int)(a8:Int)(w:World):(Instr.buildSlice 22 3 #[(0, .agg #[.string a0, .int .i64 a1, .int .i64 a2]),(1, .agg #[.string a3, .int .i64 a4, .int .i64 a5]),(2, .agg #[.string a6, .int .i64 a7, .int .i64 a8])]).run Tryz.prog w= .ok (.slice (some ⟨w.heap.size,0,none⟩) 3 3) (w.alloc (Cl [.string a0, .int .i64 a1, .int .i64 a2, .string a3, .int .i64 a4, .int .i64 a5, .string a6, .int .i64 a7, .int .i64 a8] 127)):=by kernel_rfl
theorem ybs26_1_0 (a0:Int)(a1:Int)(a2:ByteArray)(a3:Int)(a4:Int)(a5:Option Addr)(a5n a5c:Nat)(a6:ByteArray)(a7:Int)(a8:Option Addr)(a8n a8c:Nat)(w:World):(Instr.buildSlice 26 1 #[(0, .agg #[.int .i64 a0, .int .i64 a1, .string a2, .int .i64 a3, .int .i64 a4, .slice a5 a5n a5c, .string a6, .int .i64 a7, .slice a8 a8n a8c])]).run Tryz.prog w= .ok (.slice (some ⟨w.heap.size,0,none⟩) 1 1) (w.alloc (Cl [.int .i64 a0, .int .i64 a1, .string a2, .int .i64 a3, .int .i64 a4, .slice a5 a5n a5c, .string a6, .int .i64 a7, .slice a8 a8n a8c] 28)):=by kernel_rfl
theorem ybs26_2_0_1 (a0:Int)(a1:Int)(a2:ByteArray)(a3:Int)(a4:Int)(a5:Option Addr)(a5n a5c:Nat)(a6:ByteArray)(a7:Int)(a8:Option Addr)(a8n a8c:Nat)(a9:Int)(a10:Int)(a11:ByteArray)(a12:Int)(a13:Int)(a14:Option Addr)(a14n a14c:Nat)(a15:ByteArray)(a16:Int)(a17:Option Addr)(a17n a17c:Nat)(w:World):(Instr.buildSlice 26 2 #[(0, .agg #[.int .i64 a0, .int .i64 a1, .string a2, .int .i64 a3, .int .i64 a4, .slice a5 a5n a5c, .string a6, .int .i64 a7, .slice a8 a8n a8c]),(1, .agg #[.int .i64 a9, .int .i64 a10, .string a11, .int .i64 a12, .int .i64 a13, .slice a14 a14n a14c, .string a15, .int .i64 a16, .slice a17 a17n a17c])]).run Tryz.prog w= .ok (.slice (some ⟨w.heap.size,0,none⟩) 2 2) (w.alloc (Cl [.int .i64 a0, .int .i64 a1, .string a2, .int .i64 a3, .int .i64 a4, .slice a5 a5n a5c, .string a6, .int .i64 a7, .slice a8 a8n a8c, .int .i64 a9, .int .i64 a10, .string a11, .int .i64 a12, .int .i64 a13, .slice a14 a14n a14c, .string a15, .int .i64 a16, .slice a17 a17n a17c] 28)):=by kernel_rfl
theorem khead1_s {w0:World}{H:List (Nat × Obj)}  :
  FSpec Tryz.prog w0 42 #[.int .i64 0, .int .i64 0, .int .i64 7] H (Still (.agg (hdC xK7).toArray) H):=by
 refine Au Tryz.func42 U ntmps42 U (rD tb 2 U (e_ (Ah zeroValue32 cs_) ?_ U));rintro _ _ ⟨n6,rfl,rfl⟩;refine rO tb 5 U (y_ (Gs An (T U) qom) ?_ U);refine rO tb 1 U (y_ (A8 (T U) (T U) qom) ?_ U);refine rO tb 1 U (y_ (Gs An (T U) qom) ?_ U);refine y_ (Ba (.cons An (.cons (T U) (.cons (T U) .nil))) (ybd32_0_1_2 _ _ _)) ?_ U
 first|refine A3 (Na U U sizeOf32) U Ac ?_
 rintro _ _ ⟨rfl,rfl⟩;refine rO tb 3 U (Al U (.cellA (Aa U) isAgg32 sizeOf32 U (by first|exact As) .nil) ?_);exact⟨_,⟨rfl,rfl⟩,by exact sbt⟩
theorem khead2_s {w0:World}{H:List (Nat × Obj)}  :
  FSpec Tryz.prog w0 42 #[.int .i64 3, .int .i64 4, .int .i64 0] H (Still (.agg (hdC xDS).toArray) H):=by
 refine Au Tryz.func42 U ntmps42 U (rD tb 2 U (e_ (Ah zeroValue32 cs_) ?_ U));rintro _ _ ⟨n6,rfl,rfl⟩;refine rO tb 5 U (y_ (Gs An (T U) qom) ?_ U);refine rO tb 1 U (y_ (A8 (T U) (T U) qom) ?_ U);refine rO tb 1 U (y_ (Gs An (T U) qom) ?_ U);refine y_ (Ba (.cons An (.cons (T U) (.cons (T U) .nil))) (ybd32_0_1_2 _ _ _)) ?_ U
 first|refine A3 (Na U U sizeOf32) U Ac ?_
 rintro _ _ ⟨rfl,rfl⟩;refine rO tb 3 U (Al U (.cellA (Aa U) isAgg32 sizeOf32 U (by first|exact As) .nil) ?_);exact⟨_,⟨rfl,rfl⟩,by exact sbt⟩
theorem khead3_s {w0:World}{H:List (Nat × Obj)}  :
  FSpec Tryz.prog w0 42 #[.int .i64 1, .int .i64 0, .int .i64 0] H (Still (.agg (hdC xD1).toArray) H):=by
 refine Au Tryz.func42 U ntmps42 U (rD tb 2 U (e_ (Ah zeroValue32 cs_) ?_ U));rintro _ _ ⟨n6,rfl,rfl⟩;refine rO tb 5 U (y_ (Gs An (T U) qom) ?_ U);refine rO tb 1 U (y_ (A8 (T U) (T U) qom) ?_ U);refine rO tb 1 U (y_ (Gs An (T U) qom) ?_ U);refine y_ (Ba (.cons An (.cons (T U) (.cons (T U) .nil))) (ybd32_0_1_2 _ _ _)) ?_ U
 first|refine A3 (Na U U sizeOf32) U Ac ?_
 rintro _ _ ⟨rfl,rfl⟩;refine rO tb 3 U (Al U (.cellA (Aa U) isAgg32 sizeOf32 U (by first|exact As) .nil) ?_);exact⟨_,⟨rfl,rfl⟩,by exact sbt⟩
theorem K8 {w0:World}{H:List (Nat × Obj)}(m:Pdm):
  FSpec Tryz.prog w0 39 #[.agg (encPd m).toArray] H (Still (.agg (encPo (mFil m)).toArray) H):=by
 refine Au Tryz.func39 U ntmps39 U (rD tb 2 U (e_ (Nb U cs_) ?_ U));rintro _ _ ⟨n1,rfl,rfl⟩;refine e_ (Ah zeroValue28 cs_) ?_ U;rintro _ _ ⟨n2,rfl,rfl⟩;refine rO tb 4 U (y_ (M8 U isAgg25 sizeOf25 U (by first|exact As)) ?_ U);refine y_ (Ba (.cons An (.cons (T U) .nil)) (ybd28_0_1 _ _ _ _ _ _ _ _)) ?_ U
 first|refine A3 (Na U U sizeOf28) U Ac ?_
 rintro _ _ ⟨rfl,rfl⟩;refine rO tb 3 U (Al U (.cellA (Aa U) isAgg28 sizeOf28 U (by first|exact As) .nil) ?_);exact⟨_,⟨rfl,rfl⟩,by exact sbt⟩
theorem He {w0:World}{H:List (Nat × Obj)}(nm:ByteArray)(n:Int):
  FSpec Tryz.prog w0 40 #[.string nm, .int .i64 n] H (Still (.agg (encPo (mSet nm n)).toArray) H):=by
 refine Au Tryz.func40 U ntmps40 U (rD tb 2 U (e_ (Ah zeroValue28 cs_) ?_ U));rintro _ _ ⟨n4,rfl,rfl⟩;refine rO tb 6 U (y_ (Ba (.cons An (.cons (T U) (.cons (T U) .nil))) (ybd28_0_2_3 _ _ _)) ?_ U)
 first|refine A3 (Na U U sizeOf28) U Ac ?_
 rintro _ _ ⟨rfl,rfl⟩;refine rO tb 3 U (Al U (.cellA (Aa U) isAgg28 sizeOf28 U (by first|exact As) .nil) ?_);exact⟨_,⟨rfl,rfl⟩,by exact sbt⟩
theorem Jr {w0:World}{H:List (Nat × Obj)}(nm:ByteArray)(n:Int):
  FSpec Tryz.prog w0 41 #[.string nm, .int .i64 n] H (Still (.agg (encPo (mFil (mEq nm n))).toArray) H):=by
 refine Au Tryz.func41 U ntmps41 U (rD tb 2 U (e_ (Ah zeroValue28 cs_) ?_ U));rintro _ _ ⟨n4,rfl,rfl⟩;refine rO tb 6 U (y_ (Ba (.cons An (.cons (T U) (.cons (T U) .nil))) (ybd25_0_1_2 _ _ _)) (y_ (Ay (qe1 U) call39 (fun H' hs=>K8 (mEq nm n))) ?_ U) U)
 first|refine A3 (Na U U sizeOf28) U Ac ?_
 rintro _ _ ⟨rfl,rfl⟩;refine rO tb 3 U (Al U (.cellA (Aa U) isAgg28 sizeOf28 U (by first|exact As) .nil) ?_);exact⟨_,⟨rfl,rfl⟩,by exact sbt⟩
theorem kex_s {w0:World}{H:List (Nat × Obj)}  :
  FSpec Tryz.prog w0 38 #[] H (fun u H'=>∃ n:Nat,u= .slice (some ⟨n,0,none⟩) 3 3∧H'=(n,Cl (exF.flatMap encF) 127)::H):=by
 refine Au Tryz.func38 U ntmps38 U (rD tb 7 U (y_ (Ba (.cons An (.cons An (.cons An .nil))) (ybd127_0_1_2 _ _ _)) (y_ (Ba (.cons An (.cons An (.cons An .nil))) (ybd127_0_1_2 _ _ _)) (y_ (Ba (.cons An (.cons An (.cons An .nil))) (ybd127_0_1_2 _ _ _)) (e_ (Bv (.cons (T U) (.cons (T U) (.cons (T U) .nil))) (ybs22_3_0_1_2 _ _ _ _ _ _ _ _ _)) ?_ U) U) U) U));rintro _ _ ⟨n4,rfl,rfl⟩;refine rO tb 4 U (Al U (M6 U) ?_);exact⟨_,⟨_,rfl,rfl⟩,by exact sbt⟩
theorem Gb {w0:World}{H:List (Nat × Obj)}(x y:Pom):
  FSpec Tryz.prog w0 32 #[.agg (encPo x).toArray, .agg (encPo y).toArray] H (fun u H'=>∃ b:Nat,u= .agg (encPo (mOp2 3 b x y)).toArray∧H'=(b,Cl (encPo x++encPo y) 28)::H):=by
 refine Au Tryz.func32 U ntmps32 U (rD tb 2 U (e_ (Nb U cs_) ?_ U));rintro _ _ ⟨n2,rfl,rfl⟩;refine e_ (Nb U cs_) ?_ U;rintro _ _ ⟨n3,rfl,rfl⟩;refine e_ (Ah zeroValue28 cs_) ?_ U;rintro _ _ ⟨n4,rfl,rfl⟩;refine rO tb 4 U (y_ (M8 U isAgg28 sizeOf28 U (by first|exact As)) ?_ U);refine y_ (M8 U isAgg28 sizeOf28 U (by first|exact As)) ?_ U;refine e_ (Bv (.cons (T U) (.cons (T U) .nil)) (ybs26_2_0_1 _ _ _ _ _ _ _ _ _ _ _ _ _ _ _ _ _ _ _ _ _ _ _ _ _ _)) ?_ U;rintro _ _ ⟨n7,rfl,rfl⟩;refine y_ (Ba (.cons An (.cons (T U) .nil)) (ybd28_0_4 _ _ _ _)) ?_ U
 first|refine A3 (Na U U sizeOf28) U Ac ?_
 rintro _ _ ⟨rfl,rfl⟩;refine rO tb 3 U (Al U (.cellA (Aa U) isAgg28 sizeOf28 U (by first|exact As) .nil) ?_);exact⟨_,⟨_,rfl,rfl⟩,by exact sbt⟩
theorem El {w0:World}{H:List (Nat × Obj)}(x y:Pom):
  FSpec Tryz.prog w0 33 #[.agg (encPo x).toArray, .agg (encPo y).toArray] H (fun u H'=>∃ b:Nat,u= .agg (encPo (mOp2 4 b x y)).toArray∧H'=(b,Cl (encPo x++encPo y) 28)::H):=by
 refine Au Tryz.func33 U ntmps33 U (rD tb 2 U (e_ (Nb U cs_) ?_ U));rintro _ _ ⟨n2,rfl,rfl⟩;refine e_ (Nb U cs_) ?_ U;rintro _ _ ⟨n3,rfl,rfl⟩;refine e_ (Ah zeroValue28 cs_) ?_ U;rintro _ _ ⟨n4,rfl,rfl⟩;refine rO tb 4 U (y_ (M8 U isAgg28 sizeOf28 U (by first|exact As)) ?_ U);refine y_ (M8 U isAgg28 sizeOf28 U (by first|exact As)) ?_ U;refine e_ (Bv (.cons (T U) (.cons (T U) .nil)) (ybs26_2_0_1 _ _ _ _ _ _ _ _ _ _ _ _ _ _ _ _ _ _ _ _ _ _ _ _ _ _)) ?_ U;rintro _ _ ⟨n7,rfl,rfl⟩;refine y_ (Ba (.cons An (.cons (T U) .nil)) (ybd28_0_4 _ _ _ _)) ?_ U
 first|refine A3 (Na U U sizeOf28) U Ac ?_
 rintro _ _ ⟨rfl,rfl⟩;refine rO tb 3 U (Al U (.cellA (Aa U) isAgg28 sizeOf28 U (by first|exact As) .nil) ?_);exact⟨_,⟨_,rfl,rfl⟩,by exact sbt⟩
theorem Km {w0:World}{H:List (Nat × Obj)}(x:Pom):
  FSpec Tryz.prog w0 34 #[.agg (encPo x).toArray] H (fun u H'=>∃ b:Nat,u= .agg (encPo (mOp1 5 b x)).toArray∧H'=(b,Cl (encPo x) 28)::H):=by
 refine Au Tryz.func34 U ntmps34 U (rD tb 2 U (e_ (Nb U cs_) ?_ U));rintro _ _ ⟨n1,rfl,rfl⟩;refine e_ (Ah zeroValue28 cs_) ?_ U;rintro _ _ ⟨n2,rfl,rfl⟩;refine rO tb 4 U (y_ (M8 U isAgg28 sizeOf28 U (by first|exact As)) ?_ U);refine e_ (Bv (.cons (T U) .nil) (ybs26_1_0 _ _ _ _ _ _ _ _ _ _ _ _ _)) ?_ U;rintro _ _ ⟨n4,rfl,rfl⟩;refine y_ (Ba (.cons An (.cons (T U) .nil)) (ybd28_0_4 _ _ _ _)) ?_ U
 first|refine A3 (Na U U sizeOf28) U Ac ?_
 rintro _ _ ⟨rfl,rfl⟩;refine rO tb 3 U (Al U (.cellA (Aa U) isAgg28 sizeOf28 U (by first|exact As) .nil) ?_);exact⟨_,⟨_,rfl,rfl⟩,by exact sbt⟩
theorem ybd25_0_1_3 (a0:Int)(a1:ByteArray)(a2:Int)(w:World):(Instr.build 25 #[(0, .int .i64 a0),(1, .string a1),(3, .int .i64 a2)]).run Tryz.prog w= .ok (.agg #[.int .i64 a0, .string a1, .int .i64 0, .int .i64 a2, .slice none 0 0]) w:=by kernel_rfl
theorem ybd25_0_2_3 (a0:Int)(a1:Int)(a2:Int)(w:World):(Instr.build 25 #[(0, .int .i64 a0),(2, .int .i64 a1),(3, .int .i64 a2)]).run Tryz.prog w= .ok (.agg #[.int .i64 a0, .string ⟨#[]⟩, .int .i64 a1, .int .i64 a2, .slice none 0 0]) w:=by kernel_rfl
theorem ybd25_0_4 (a0:Int)(a1:Option Addr)(a1n a1c:Nat)(w:World):(Instr.build 25 #[(0, .int .i64 a0),(4, .slice a1 a1n a1c)]).run Tryz.prog w= .ok (.agg #[.int .i64 a0, .string ⟨#[]⟩, .int .i64 0, .int .i64 0, .slice a1 a1n a1c]) w:=by kernel_rfl
theorem ybs23_1_0 (a0:Int)(a1:ByteArray)(a2:Int)(a3:Int)(a4:Option Addr)(a4n a4c:Nat)(w:World):(Instr.buildSlice 23 1 #[(0, .agg #[.int .i64 a0, .string a1, .int .i64 a2, .int .i64 a3, .slice a4 a4n a4c])]).run Tryz.prog w= .ok (.slice (some ⟨w.heap.size,0,none⟩) 1 1) (w.alloc (Cl [.int .i64 a0, .string a1, .int .i64 a2, .int .i64 a3, .slice a4 a4n a4c] 25)):=by kernel_rfl
abbrev mTim:Pdm:= .mk 9 ⟨#[]⟩ 3 7 none 0 []
abbrev mRng:Pdm:= .mk 5 nK 0 6 none 0 []
theorem fndS:(fndFd exF ⟨#[115,114,99]⟩).1=exS:=by kernel_rfl
theorem Gp {w0:World}{H:List (Nat × Obj)}{f:FuncId}{args:Array Value}{Φ:Hd→Bool→Prop}{e:Int}{Ψ:Prop}(h:FSpec Tryz.prog w0 f args H (AskK Φ e Ψ H))(no: ¬ Ψ):FSpec Tryz.prog w0 f args H (fun u H'=>(∃ (h:Hd) (is:Bool),u= .tuple #[.agg (hdC h).toArray, .bool is, .int .i64 0]∧HdOk h∧Φ h is)∧H'=H):=by
 intro w hO;refine(h w hO).mono ?_;rintro e w' ⟨u,H',he,hO',⟨⟨h1,is,e1,rfl,hh,hR⟩,rfl⟩⟩;rcases hR with ⟨rfl,k⟩|⟨_,_,_,k⟩
 ·exact⟨_,_,he,hO',⟨h1,is,rfl,hh,k⟩,rfl⟩
 ·exact absurd k no
theorem errIs_ex (fl:List Fd)(t:Int)(p:Po):∃ e,ErrIs fl t p e:=by
 cases h:PF fl t p (N0 fl) with
 |none=>exact⟨12,(fun _=>rfl),(fun a n e=>by rw[h] at e;cases e)⟩
 |some x=>exact⟨2,(fun e=>by rw[h] at e;cases e),(fun _ _ _ _=>rfl)⟩
theorem errN_ex (fl:List Fd)(t:Int)(p:Po)(ns:Ns):∃ e,ErrN fl t p ns e:=by
 cases h:PF fl t p ns with
 |none=>exact⟨12,(fun _=>rfl),(fun a n e=>by rw[h] at e;cases e)⟩
 |some x=>exact⟨2,(fun e=>by rw[h] at e;cases e),(fun _ _ _ _=>rfl)⟩
theorem errD_ex (fl:List Fd)(t:Int)(p q:Po):∃ e,ErrD fl t p q e:=by
 obtain⟨e,h⟩:=errN_ex fl t q (N0 fl);cases h1:PF fl t q (N0 fl) with
 |none=>exact⟨e,h,(fun a n e1=>by rw[h1] at e1;cases e1)⟩
 |some x=>
  by_cases c:(rulesP x.2 (bsF fl) x.1).length≤4000
  ·obtain⟨e2,h2⟩:=errN_ex fl t p x.2;refine⟨e2,⟨(fun e3=>by rw[h1] at e3;cases e3),(fun a n e3 e4=> ?_)⟩,(fun a n e3 _=> ?_)⟩
   ·rw[h1] at e3;cases e3;exact absurd c (by show ¬ (rulesP n (bsF fl) a).length≤4000;omega)
   ·rw[h1] at e3;cases e3;exact h2
  ·refine⟨e,h,fun a n e3 e4=> ?_⟩;rw[h1] at e3;cases e3;exact absurd e4 c
theorem Il {nm:ByteArray}{n:Nat}{f:Fd}(h:(fndFd exF nm).1=f):IsO exF (mFil (mEq nm n)) (.fil (.eq f n)):= .fil U (is_eq h)
theorem prd_ex (b:Nat):[mFil (mNo b mTim),mFil mTru].flatMap prdF=[mNo b mTim,mTim,mTru]:=by rfl
theorem sz_ex (b:Nat):(mFil (mNo b mTim)).sz≤1000000000∧(mFil (mNo b mTim)).nd≤1000:=⟨by show (3:Nat)≤_;decide,by show (3:Nat)≤_;decide⟩
theorem sz_ex2:(mFil mTru).sz≤1000000000∧(mFil mTru).nd≤1000:=⟨by show (2:Nat)≤_;decide,by show (2:Nat)≤_;decide⟩
theorem tk_ex {b:Nat}{bl:List Int}(h:Tks [mFil (mNo b mTim),mFil mTru] bl)(x:Int):x∈bl↔x=3∨x=7:=by
 rw[h.mem,prd_ex]
 constructor
 ·rintro⟨t,ht,hk,hx⟩;simp only[List.mem_cons,List.not_mem_nil,or_false] at ht;rcases ht with rfl|rfl|rfl
  ·exact absurd hk (by show ¬ (6:Int)=9;decide)
  ·exact hx
  ·exact absurd hk (by show ¬ (1:Int)=9;decide)
 ·intro hx;exact⟨mTim,by simp,rfl,hx⟩
theorem eqX1 (w:World):(Op.equal 32 (.agg (hdC xK7).toArray) (.agg (hdC xK7).toArray)).run Tryz.prog w= .ok (decide True) w:=by kernel_rfl
theorem eqX2 (w:World):(Op.equal 32 (.agg (hdC xDS).toArray) (.agg (hdC xDS).toArray)).run Tryz.prog w= .ok (decide True) w:=by kernel_rfl
theorem eqX3 (w:World):(Op.equal 32 (.agg (hdC xD1).toArray) (.agg (hdC xD1).toArray)).run Tryz.prog w= .ok (decide True) w:=by kernel_rfl
theorem sanity_s {w0:World}{H:List (Nat × Obj)}  :
  FSpec Tryz.prog w0 11 #[] H (Still (.bool true) H):=by
 refine Au Tryz.func11 U ntmps11 U ?_;obtain⟨e8,hE8⟩:=errIs_ex exF 0 Mt;obtain⟨e10,hE10⟩:=errD_ex exF 0 Mi Mj;refine rD tb 7 U (e_ (Aj .nil call38 (kex_s)) ?_ U);rintro _ _ ⟨n44,rfl,rfl⟩;have hA0:Arr w0 ((n44,Cl (exF.flatMap encF) 127)::H) (some ⟨n44,0,none⟩) 3 encF exF:=Cu (w0:=w0) (e:=127) (X:=H) (enc:=encF) (d:= .blk n44 3 []) (fun _=>rfl) ⟨Nat.le_refl _,rfl⟩;refine rO tb 5 U (y_ (Ba (.cons An .nil) (ybd25_0 _)) (y_ (Ay (qe1 U) call39 (fun H' hs=>K8 mTru)) (e_ (Ah zeroValue28 cs_) ?_ U) U) U);rintro _ _ ⟨n2,rfl,rfl⟩
 first|refine A3 (Na U U sizeOf28) U Ac ?_
 rintro _ _ ⟨rfl,rfl⟩;refine rO tb 4 U (y_ (Ay (.cons An (.cons An .nil)) call40 (fun H' hs=>He nK 1)) (e_ (Ah zeroValue28 cs_) ?_ U) U);rintro _ _ ⟨n3,rfl,rfl⟩
 first|refine A3 (Na U U sizeOf28) U Ac ?_
 rintro _ _ ⟨rfl,rfl⟩;refine rO tb 4 U (y_ (Ba (.cons An (.cons An (.cons An .nil))) (ybd25_0_2_3 _ _ _)) (e_ (Ah zeroValue25 cs_) ?_ U) U);rintro _ _ ⟨n4,rfl,rfl⟩
 first|refine A3 (Na U U sizeOf25) U Ac ?_
 rintro _ _ ⟨rfl,rfl⟩;refine rO tb 2 U ?_;refine Gq (X:=Unit) (V:=fun z=>[(6, .bool true),(7, .int .i64 0)]) (C:=[(1,_),(2,_),(3,_),(4,_)]) (G:=fun z=>(n4,Cl (encPd mTim) 25)::(n3,Cl (encPo (mSet nK 1)) 28)::(n2,Cl (encPo (mFil mTru)) 28)::(n44,Cl (exF.flatMap encF) 127)::H) (φ:=fun z=>True) ⟨Aa U,Aa U,Aa U,Aa U,trivial⟩ ?_ ?_
 ·refine rD tb 0 U (Hl 14 _ mixd qkr sb0 ?_ By);refine x_y (i:=0) U qkr (Bz (T U)) ?_ U Ac;refine x_y (i:=1) U qkr (M8 U isAgg28 sizeOf28 U (by first|exact As)) ?_ U Ac;refine x_y (i:=2) U qkr (Ay (.cons An (.cons An .nil)) call40 (fun H' hs=>He nK 2)) ?_ U Ac;refine Gh (i:=3) (j:=10) qkr qkr ?_ ?_
  ·refine Cb U (Aj (qe2 U U) call33 (El (mSet nK 1) (mSet nK 2))) ?_ U Ac;rintro _ _ ⟨n53,rfl,rfl⟩;refine⟨sbt,(x_y (i:=4) U qkr (Ay (.cons An (.cons An .nil)) call40 (fun H' hs=>He nK 2)) ?_ U Ac)⟩;refine Gh (i:=5) (j:=10) qkr qkr ?_ ?_
   ·refine Cb U (Aj (.cons (T U) (.cons (T U) (.cons (T U) (.cons An .nil)))) call13 (Gp (Dl C5 (some ⟨n44,0,none⟩) 3 (hA0.mono (by exact sbt)) 0 (.seq U U (Cj (n:=1) fndK) (Cj (n:=2) fndK)) (by rw[Bu];exact⟨⟨inK,(pin 1 qde).2⟩,⟨inK,(pin 2 qde).2⟩⟩) (Di (by repeat (first|exact Am|refine Aq ?_)) (B7 Cz) (B7 Cz)) (Cj (n:=2) fndK) (by rw[Bu];exact⟨inK,(pin 2 qde).2⟩) (B7 Cz)) q1_no)) ?_ U Ac;rintro _ _ ⟨⟨h1,is1,rfl,o1,a1⟩,rfl⟩;obtain⟨rfl,rfl⟩:=q1_a a1;refine⟨sbt,(x_y (i:=6) U qkr (Bz (T U)) ?_ U Ac)⟩;refine x_y (i:=7) U qkr (Ax (T U) U) ?_ U Ac;refine x_y (i:=8) U qkr (Ax (T U) U) ?_ U Ac;refine x_y (i:=9) U qkr (Ax (T U) U) ?_ U Ac;refine Ce (i:=10) qkr qkr ?_;refine Cb U (Ah zeroValue32 cs_) ?_ U Ac;rintro _ _ ⟨n5,rfl,rfl⟩;refine⟨sbt,(Ce (i:=11) qkr qkr ?_)⟩;refine Cb U (Na U U sizeOf32 .agg (Be _) (Ak Br) (by repeat (first|exact Upd.h|apply Upd.t|apply Bh)) (by rw[Ak Br];rfl)) ?_ U Ac;rintro _ _ ⟨rfl,rfl⟩;refine⟨sbt,(x_y (i:=12) U qkr (Bf (T U)) ?_ U Ac)⟩;refine x_y (i:=13) U qkr (Bf (T U)) ?_ U Ac;refine Dr qkr U ?_;refine rO tb 1 U ?_;refine Bc (()) ?_ ⟨atd,atd,trivial⟩ ⟨Aa U,Aa U,Aa U,Aa U,trivial⟩ sbt
    trivial
   ·refine Cb U (Ah zeroValue32 cs_) ?_ U Ac;rintro _ _ ⟨n5,rfl,rfl⟩;refine⟨sbt,(Ce (i:=5) qkr qkr ?_)⟩;refine Cb U (Aj (.cons (T U) (.cons (T U) (.cons (T U) (.cons An .nil)))) call13 (Gp (Dl C5 (some ⟨n44,0,none⟩) 3 (hA0.mono (by exact sbt)) 0 (.seq U U (Cj (n:=1) fndK) (Cj (n:=2) fndK)) (by rw[Bu];exact⟨⟨inK,(pin 1 qde).2⟩,⟨inK,(pin 2 qde).2⟩⟩) (Di (by repeat (first|exact Am|refine Aq ?_)) (B7 Cz) (B7 Cz)) (Cj (n:=2) fndK) (by rw[Bu];exact⟨inK,(pin 2 qde).2⟩) (B7 Cz)) q1_no)) ?_ U Ac;rintro _ _ ⟨⟨h1,is1,rfl,o1,a1⟩,rfl⟩;obtain⟨rfl,rfl⟩:=q1_a a1;refine⟨sbt,(x_y (i:=6) U qkr (Bz (T U)) ?_ U Ac)⟩;refine x_y (i:=7) U qkr (Ax (T U) U) ?_ U Ac;refine x_y (i:=8) U qkr (Ax (T U) U) ?_ U Ac;refine x_y (i:=9) U qkr (Ax (T U) U) ?_ U Ac;refine Ce (i:=11) qkr qkr ?_;refine Cb U (Na U U sizeOf32 .agg (Be _) (Ak Br) (by repeat (first|exact Upd.h|apply Upd.t|apply Bh)) (by rw[Ak Br];rfl)) ?_ U Ac;rintro _ _ ⟨rfl,rfl⟩;refine⟨sbt,(x_y (i:=12) U qkr (Bf (T U)) ?_ U Ac)⟩;refine x_y (i:=13) U qkr (Bf (T U)) ?_ U Ac;refine Dr qkr U ?_;refine rO tb 1 U ?_;refine Bc (()) ?_ ⟨atd,atd,trivial⟩ ⟨Aa U,Aa U,Aa U,Aa U,trivial⟩ sbt
    trivial
  ·refine Cb U (Ah zeroValue32 cs_) ?_ U Ac;rintro _ _ ⟨n5,rfl,rfl⟩;refine⟨sbt,(Ce (i:=3) qkr qkr ?_)⟩;refine Cb U (Aj (qe2 U U) call33 (El (mSet nK 1) (mSet nK 2))) ?_ U Ac;rintro _ _ ⟨n53,rfl,rfl⟩;refine⟨sbt,(x_y (i:=4) U qkr (Ay (.cons An (.cons An .nil)) call40 (fun H' hs=>He nK 2)) ?_ U Ac)⟩;refine Ce (i:=5) qkr qkr ?_;refine Cb U (Aj (.cons (T U) (.cons (T U) (.cons (T U) (.cons An .nil)))) call13 (Gp (Dl C5 (some ⟨n44,0,none⟩) 3 (hA0.mono (by exact sbt)) 0 (.seq U U (Cj (n:=1) fndK) (Cj (n:=2) fndK)) (by rw[Bu];exact⟨⟨inK,(pin 1 qde).2⟩,⟨inK,(pin 2 qde).2⟩⟩) (Di (by repeat (first|exact Am|refine Aq ?_)) (B7 Cz) (B7 Cz)) (Cj (n:=2) fndK) (by rw[Bu];exact⟨inK,(pin 2 qde).2⟩) (B7 Cz)) q1_no)) ?_ U Ac;rintro _ _ ⟨⟨h1,is1,rfl,o1,a1⟩,rfl⟩;obtain⟨rfl,rfl⟩:=q1_a a1;refine⟨sbt,(x_y (i:=6) U qkr (Bz (T U)) ?_ U Ac)⟩;refine x_y (i:=7) U qkr (Ax (T U) U) ?_ U Ac;refine x_y (i:=8) U qkr (Ax (T U) U) ?_ U Ac;refine x_y (i:=9) U qkr (Ax (T U) U) ?_ U Ac;refine Ce (i:=11) qkr qkr ?_;refine Cb U (Na U U sizeOf32 .agg (Be _) (Ak Br) (by repeat (first|exact Upd.h|apply Upd.t|apply Bh)) (by rw[Ak Br];rfl)) ?_ U Ac;rintro _ _ ⟨rfl,rfl⟩;refine⟨sbt,(x_y (i:=12) U qkr (Bf (T U)) ?_ U Ac)⟩;refine x_y (i:=13) U qkr (Bf (T U)) ?_ U Ac;refine Dr qkr U ?_;refine rO tb 1 U ?_;refine Bc (()) ?_ ⟨atd,atd,trivial⟩ ⟨Aa U,Aa U,Aa U,Aa U,trivial⟩ sbt
   trivial
 rintro z -;refine Gq (X:=Nat) (V:=fun n8=>[(8, .pointer (some ⟨n8,0,none⟩)),(9, .bool false),(10, .int .i64 0)]) (C:=[(1,_),(2,_),(3,_),(4,_),(6,_),(7,_)]) (G:=fun n8=>(n8,Cl (hdC hd0) 32)::(n4,Cl (encPd mTim) 25)::(n3,Cl (encPo (mSet nK 1)) 28)::(n2,Cl (encPo (mFil mTru)) 28)::(n44,Cl (exF.flatMap encF) 127)::H) (φ:=fun n8=>True) ⟨Aa U,Aa U,Aa U,Aa U,Aa U,Aa U,trivial⟩ ?_ ?_
 ·refine rD tb 0 U (Hl 12 _ mixd qkr sb0 ?_ By);refine x_y (i:=0) U qkr (Bz (T U)) ?_ U Ac;refine x_y (i:=1) U qkr (Ay (.cons An (.cons An .nil)) call41 (fun H' hs=>Jr nK 1)) ?_ U Ac;refine x_y (i:=2) U qkr (M8 U isAgg28 sizeOf28 U (by first|exact As)) ?_ U Ac;refine Gh (i:=3) (j:=8) qkr qkr ?_ ?_
  ·refine Cb U (Aj (.cons (T U) (.cons (T U) (.cons (T U) (.cons An .nil)))) call13 (Gp (Dl C5 (some ⟨n44,0,none⟩) 3 (hA0.mono (by exact sbt)) 0 (Il (n:=1) fndK) (by rw[Bu];exact⟨inK,(pin 1 qde).2⟩) (B7 C0) (.fil U (.tru U)) (by rw[Bu];exact trivial) (B7 C0)) q2_no)) ?_ U Ac;rintro _ _ ⟨⟨h2,is2,rfl,o2,a2⟩,rfl⟩;obtain⟨rfl,rfl⟩:=q2_a a2;refine⟨sbt,(x_y (i:=4) U qkr (Bz (T U)) ?_ U Ac)⟩;refine x_y (i:=5) U qkr (Ax (T U) U) ?_ U Ac;refine x_y (i:=6) U qkr (Ax (T U) U) ?_ U Ac;refine x_y (i:=7) U qkr (Ax (T U) U) ?_ U Ac;refine Ce (i:=8) qkr qkr ?_;refine Cb U (Ah zeroValue32 cs_) ?_ U Ac;rintro _ _ ⟨n8,rfl,rfl⟩;refine⟨sbt,(Ce (i:=9) qkr qkr ?_)⟩;refine Cb U (Na U U sizeOf32 .agg (Be _) (Ak Br) (by repeat (first|exact Upd.h|apply Upd.t|apply Bh)) (by rw[Ak Br];rfl)) ?_ U Ac;rintro _ _ ⟨rfl,rfl⟩;refine⟨sbt,(x_y (i:=10) U qkr (Bf (T U)) ?_ U Ac)⟩;refine x_y (i:=11) U qkr (Bf (T U)) ?_ U Ac;refine Dr qkr U ?_;refine rO tb 1 U ?_;refine Bc (_) ?_ ⟨atd,atd,atd,trivial⟩ ⟨Aa U,Aa U,Aa U,Aa U,Aa U,Aa U,trivial⟩ sbt
   trivial
  ·refine Cb U (Ah zeroValue32 cs_) ?_ U Ac;rintro _ _ ⟨n8,rfl,rfl⟩;refine⟨sbt,(Ce (i:=3) qkr qkr ?_)⟩;refine Cb U (Aj (.cons (T U) (.cons (T U) (.cons (T U) (.cons An .nil)))) call13 (Gp (Dl C5 (some ⟨n44,0,none⟩) 3 (hA0.mono (by exact sbt)) 0 (Il (n:=1) fndK) (by rw[Bu];exact⟨inK,(pin 1 qde).2⟩) (B7 C0) (.fil U (.tru U)) (by rw[Bu];exact trivial) (B7 C0)) q2_no)) ?_ U Ac;rintro _ _ ⟨⟨h2,is2,rfl,o2,a2⟩,rfl⟩;obtain⟨rfl,rfl⟩:=q2_a a2;refine⟨sbt,(x_y (i:=4) U qkr (Bz (T U)) ?_ U Ac)⟩;refine x_y (i:=5) U qkr (Ax (T U) U) ?_ U Ac;refine x_y (i:=6) U qkr (Ax (T U) U) ?_ U Ac;refine x_y (i:=7) U qkr (Ax (T U) U) ?_ U Ac;refine Ce (i:=9) qkr qkr ?_;refine Cb U (Na U U sizeOf32 .agg (Be _) (Ak Br) (by repeat (first|exact Upd.h|apply Upd.t|apply Bh)) (by rw[Ak Br];rfl)) ?_ U Ac;rintro _ _ ⟨rfl,rfl⟩;refine⟨sbt,(x_y (i:=10) U qkr (Bf (T U)) ?_ U Ac)⟩;refine x_y (i:=11) U qkr (Bf (T U)) ?_ U Ac;refine Dr qkr U ?_;refine rO tb 1 U ?_;refine Bc (_) ?_ ⟨atd,atd,atd,trivial⟩ ⟨Aa U,Aa U,Aa U,Aa U,Aa U,Aa U,trivial⟩ sbt
   trivial
 rintro n8 -;refine Gq (X:=Nat) (V:=fun n12=>[(12, .pointer (some ⟨n12,0,none⟩)),(11, .int .i64 3),(13, .bool false),(14, .int .i64 0)]) (C:=[(1,_),(2,_),(3,_),(6,_),(7,_),(8,_),(9,_),(10,_)]) (G:=fun n12=>(n12,Cl (hdC hd0) 32)::(n8,Cl (hdC hd0) 32)::(n4,Cl (encPd mTim) 25)::(n3,Cl (encPo (mSet nK 1)) 28)::(n2,Cl (encPo (mFil mTru)) 28)::(n44,Cl (exF.flatMap encF) 127)::H) (φ:=fun n12=>True) ⟨Aa U,Aa U,Aa U,Aa U,Aa U,Aa U,Aa U,Aa U,trivial⟩ ?_ ?_
 ·refine rD tb 0 U (Hl 17 _ mixd qkr sb0 ?_ By);refine x_y (i:=0) U qkr (Bz (T U)) ?_ U Ac;refine x_y (i:=1) U qkr (M8 U isAgg25 sizeOf25 U (by first|exact As)) ?_ U Ac;refine x_y (i:=5) U qkr (M8 U isAgg28 sizeOf28 U (by first|exact As)) ?_ U Ac;refine Gh (i:=2) (j:=12) qkr qkr ?_ ?_
  ·refine Cb U (Bv (.cons (T U) .nil) (ybs23_1_0 _ _ _ _ _ _ _)) ?_ U Ac;rintro _ _ ⟨n70,rfl,rfl⟩;refine⟨sbt,(x_y (i:=3) U qkr (Ba (.cons An (.cons (T U) .nil)) (ybd25_0_4 _ _ _ _)) ?_ U Ac)⟩;refine x_y (i:=4) U qkr (Ay (qe1 U) call39 (fun H' hs=>K8 (mNo n70 mTim))) ?_ U Ac;refine Gh (i:=6) (j:=12) qkr qkr ?_ ?_
   ·refine Cb U (Aj (qe3 U U U) call25 (ealways_s C5 (some ⟨n44,0,none⟩) 3 (hA0.mono (by exact sbt)) (.fil U (.no U U (.tim U U U))) (by rw[Bu];exact trivial) (B7 (pd_no (by repeat (first|exact Am|refine Aq ?_)) C0)) (.fil U (.tru U)) (by rw[Bu];exact trivial) (B7 C0) (sz_ex _) sz_ex2)) ?_ U Ac;rintro _ _ ⟨⟨bl3,t3,h3,is3,e3,rfl,o3,T3,a3⟩,rfl⟩;obtain⟨rfl,rfl,rfl,rfl⟩:=q3_a T3.up (tk_ex T3) a3;refine⟨sbt,(x_y (i:=7) U qkr (Bz (T U)) ?_ U Ac)⟩;refine x_y (i:=8) U qkr (Ax (T U) U) ?_ U Ac;refine x_y (i:=9) U qkr (Ax (T U) U) ?_ U Ac;refine x_y (i:=10) U qkr (Ax (T U) U) ?_ U Ac;refine x_y (i:=11) U qkr (Ax (T U) U) ?_ U Ac;refine Ce (i:=12) qkr qkr ?_;refine Cb U (Ah zeroValue32 cs_) ?_ U Ac;rintro _ _ ⟨n12,rfl,rfl⟩;refine⟨sbt,(x_y (i:=13) U qkr (Bf (T U)) ?_ U Ac)⟩;refine Ce (i:=14) qkr qkr ?_;refine Cb U (Na U U sizeOf32 .agg (Be _) (Ak Br) (by repeat (first|exact Upd.h|apply Upd.t|apply Bh)) (by rw[Ak Br];rfl)) ?_ U Ac;rintro _ _ ⟨rfl,rfl⟩;refine⟨sbt,(x_y (i:=15) U qkr (Bf (T U)) ?_ U Ac)⟩;refine x_y (i:=16) U qkr (Bf (T U)) ?_ U Ac;refine Dr qkr U ?_;refine rO tb 1 U ?_;refine Bc (_) ?_ ⟨atd,atd,atd,atd,trivial⟩ ⟨Aa U,Aa U,Aa U,Aa U,Aa U,Aa U,Aa U,Aa U,trivial⟩ sbt
    trivial
   ·refine Cb U (Ah zeroValue32 cs_) ?_ U Ac;rintro _ _ ⟨n12,rfl,rfl⟩;refine⟨sbt,(Ce (i:=6) qkr qkr ?_)⟩;refine Cb U (Aj (qe3 U U U) call25 (ealways_s C5 (some ⟨n44,0,none⟩) 3 (hA0.mono (by exact sbt)) (.fil U (.no U U (.tim U U U))) (by rw[Bu];exact trivial) (B7 (pd_no (by repeat (first|exact Am|refine Aq ?_)) C0)) (.fil U (.tru U)) (by rw[Bu];exact trivial) (B7 C0) (sz_ex _) sz_ex2)) ?_ U Ac;rintro _ _ ⟨⟨bl3,t3,h3,is3,e3,rfl,o3,T3,a3⟩,rfl⟩;obtain⟨rfl,rfl,rfl,rfl⟩:=q3_a T3.up (tk_ex T3) a3;refine⟨sbt,(x_y (i:=7) U qkr (Bz (T U)) ?_ U Ac)⟩;refine x_y (i:=8) U qkr (Ax (T U) U) ?_ U Ac;refine x_y (i:=9) U qkr (Ax (T U) U) ?_ U Ac;refine x_y (i:=10) U qkr (Ax (T U) U) ?_ U Ac;refine x_y (i:=11) U qkr (Ax (T U) U) ?_ U Ac;refine x_y (i:=13) U qkr (Bf (T U)) ?_ U Ac;refine Ce (i:=14) qkr qkr ?_;refine Cb U (Na U U sizeOf32 .agg (Be _) (Ak Br) (by repeat (first|exact Upd.h|apply Upd.t|apply Bh)) (by rw[Ak Br];rfl)) ?_ U Ac;rintro _ _ ⟨rfl,rfl⟩;refine⟨sbt,(x_y (i:=15) U qkr (Bf (T U)) ?_ U Ac)⟩;refine x_y (i:=16) U qkr (Bf (T U)) ?_ U Ac;refine Dr qkr U ?_;refine rO tb 1 U ?_;refine Bc (_) ?_ ⟨atd,atd,atd,atd,trivial⟩ ⟨Aa U,Aa U,Aa U,Aa U,Aa U,Aa U,Aa U,Aa U,trivial⟩ sbt
    trivial
  ·refine Cb U (Ah zeroValue32 cs_) ?_ U Ac;rintro _ _ ⟨n12,rfl,rfl⟩;refine⟨sbt,(Ce (i:=2) qkr qkr ?_)⟩;refine Cb U (Bv (.cons (T U) .nil) (ybs23_1_0 _ _ _ _ _ _ _)) ?_ U Ac;rintro _ _ ⟨n70,rfl,rfl⟩;refine⟨sbt,(x_y (i:=3) U qkr (Ba (.cons An (.cons (T U) .nil)) (ybd25_0_4 _ _ _ _)) ?_ U Ac)⟩;refine x_y (i:=4) U qkr (Ay (qe1 U) call39 (fun H' hs=>K8 (mNo n70 mTim))) ?_ U Ac;refine Ce (i:=6) qkr qkr ?_;refine Cb U (Aj (qe3 U U U) call25 (ealways_s C5 (some ⟨n44,0,none⟩) 3 (hA0.mono (by exact sbt)) (.fil U (.no U U (.tim U U U))) (by rw[Bu];exact trivial) (B7 (pd_no (by repeat (first|exact Am|refine Aq ?_)) C0)) (.fil U (.tru U)) (by rw[Bu];exact trivial) (B7 C0) (sz_ex _) sz_ex2)) ?_ U Ac;rintro _ _ ⟨⟨bl3,t3,h3,is3,e3,rfl,o3,T3,a3⟩,rfl⟩;obtain⟨rfl,rfl,rfl,rfl⟩:=q3_a T3.up (tk_ex T3) a3;refine⟨sbt,(x_y (i:=7) U qkr (Bz (T U)) ?_ U Ac)⟩;refine x_y (i:=8) U qkr (Ax (T U) U) ?_ U Ac;refine x_y (i:=9) U qkr (Ax (T U) U) ?_ U Ac;refine x_y (i:=10) U qkr (Ax (T U) U) ?_ U Ac;refine x_y (i:=11) U qkr (Ax (T U) U) ?_ U Ac;refine x_y (i:=13) U qkr (Bf (T U)) ?_ U Ac;refine Ce (i:=14) qkr qkr ?_;refine Cb U (Na U U sizeOf32 .agg (Be _) (Ak Br) (by repeat (first|exact Upd.h|apply Upd.t|apply Bh)) (by rw[Ak Br];rfl)) ?_ U Ac;rintro _ _ ⟨rfl,rfl⟩;refine⟨sbt,(x_y (i:=15) U qkr (Bf (T U)) ?_ U Ac)⟩;refine x_y (i:=16) U qkr (Bf (T U)) ?_ U Ac;refine Dr qkr U ?_;refine rO tb 1 U ?_;refine Bc (_) ?_ ⟨atd,atd,atd,atd,trivial⟩ ⟨Aa U,Aa U,Aa U,Aa U,Aa U,Aa U,Aa U,Aa U,trivial⟩ sbt
   trivial
 rintro n12 -;refine Gq (X:=Unit) (V:=fun z=>[(16, .bool true),(17, .int .i64 0)]) (C:=[(1,_),(2,_),(3,_),(6,_),(7,_),(8,_),(9,_),(10,_),(11,_),(12,_),(13,_),(14,_)]) (G:=fun z=>(n12,Cl (hdC hd0) 32)::(n8,Cl (hdC hd0) 32)::(n4,Cl (encPd mTim) 25)::(n3,Cl (encPo (mSet nK 1)) 28)::(n2,Cl (encPo (mFil mTru)) 28)::(n44,Cl (exF.flatMap encF) 127)::H) (φ:=fun z=>True) ⟨Aa U,Aa U,Aa U,Aa U,Aa U,Aa U,Aa U,Aa U,Aa U,Aa U,Aa U,Aa U,trivial⟩ ?_ ?_
 ·refine rD tb 0 U (Hl 14 _ mixd qkr sb0 ?_ By);refine x_y (i:=0) U qkr (Bz (T U)) ?_ U Ac;refine x_y (i:=1) U qkr (M8 U isAgg28 sizeOf28 U (by first|exact As)) ?_ U Ac;refine x_y (i:=2) U qkr (M8 U isAgg28 sizeOf28 U (by first|exact As)) ?_ U Ac;refine x_y (i:=4) U qkr (M8 U isAgg28 sizeOf28 U (by first|exact As)) ?_ U Ac;refine Gh (i:=3) (j:=10) qkr qkr ?_ ?_
  ·refine Cb U (Aj (qe2 U U) call32 (Gb (mFil mTru) (mSet nK 1))) ?_ U Ac;rintro _ _ ⟨n83,rfl,rfl⟩;refine⟨sbt,?_⟩;refine Gh (i:=5) (j:=10) qkr qkr ?_ ?_
   ·refine Cb U (Aj (.cons (T U) (.cons (T U) (.cons (T U) (.cons An .nil)))) call14 (Gp (Fz C5 (some ⟨n44,0,none⟩) 3 (hA0.mono (by exact sbt)) 0 (.uni U U (.fil U (.tru U)) (Cj (n:=1) fndK)) (by rw[Bu];exact⟨trivial,⟨inK,(pin 1 qde).2⟩⟩) (Di (by repeat (first|exact Am|refine Aq ?_)) (B7 C0) (B7 Cz)) (Cj (n:=1) fndK) (by rw[Bu];exact⟨inK,(pin 1 qde).2⟩) (B7 Cz)) q4_no)) ?_ U Ac;rintro _ _ ⟨⟨h4,is4,rfl,o4,a4⟩,rfl⟩;obtain⟨rfl,rfl⟩:=q4_a a4;refine⟨sbt,(x_y (i:=6) U qkr (Bz (T U)) ?_ U Ac)⟩;refine x_y (i:=7) U qkr (Ax (T U) U) ?_ U Ac;refine x_y (i:=8) U qkr (Ax (T U) U) ?_ U Ac;refine x_y (i:=9) U qkr (Ax (T U) U) ?_ U Ac;refine Ce (i:=10) qkr qkr ?_;refine Cb U (Ah zeroValue32 cs_) ?_ U Ac;rintro _ _ ⟨n15,rfl,rfl⟩;refine⟨sbt,(Ce (i:=11) qkr qkr ?_)⟩;refine Cb U (Na U U sizeOf32 .agg (Be _) (Ak Br) (by repeat (first|exact Upd.h|apply Upd.t|apply Bh)) (by rw[Ak Br];rfl)) ?_ U Ac;rintro _ _ ⟨rfl,rfl⟩;refine⟨sbt,(x_y (i:=12) U qkr (Bf (T U)) ?_ U Ac)⟩;refine x_y (i:=13) U qkr (Bf (T U)) ?_ U Ac;refine Dr qkr U ?_;refine rO tb 1 U ?_;refine Bc (()) ?_ ⟨atd,atd,trivial⟩ ⟨Aa U,Aa U,Aa U,Aa U,Aa U,Aa U,Aa U,Aa U,Aa U,Aa U,Aa U,Aa U,trivial⟩ sbt
    trivial
   ·refine Cb U (Ah zeroValue32 cs_) ?_ U Ac;rintro _ _ ⟨n15,rfl,rfl⟩;refine⟨sbt,(Ce (i:=5) qkr qkr ?_)⟩;refine Cb U (Aj (.cons (T U) (.cons (T U) (.cons (T U) (.cons An .nil)))) call14 (Gp (Fz C5 (some ⟨n44,0,none⟩) 3 (hA0.mono (by exact sbt)) 0 (.uni U U (.fil U (.tru U)) (Cj (n:=1) fndK)) (by rw[Bu];exact⟨trivial,⟨inK,(pin 1 qde).2⟩⟩) (Di (by repeat (first|exact Am|refine Aq ?_)) (B7 C0) (B7 Cz)) (Cj (n:=1) fndK) (by rw[Bu];exact⟨inK,(pin 1 qde).2⟩) (B7 Cz)) q4_no)) ?_ U Ac;rintro _ _ ⟨⟨h4,is4,rfl,o4,a4⟩,rfl⟩;obtain⟨rfl,rfl⟩:=q4_a a4;refine⟨sbt,(x_y (i:=6) U qkr (Bz (T U)) ?_ U Ac)⟩;refine x_y (i:=7) U qkr (Ax (T U) U) ?_ U Ac;refine x_y (i:=8) U qkr (Ax (T U) U) ?_ U Ac;refine x_y (i:=9) U qkr (Ax (T U) U) ?_ U Ac;refine Ce (i:=11) qkr qkr ?_;refine Cb U (Na U U sizeOf32 .agg (Be _) (Ak Br) (by repeat (first|exact Upd.h|apply Upd.t|apply Bh)) (by rw[Ak Br];rfl)) ?_ U Ac;rintro _ _ ⟨rfl,rfl⟩;refine⟨sbt,(x_y (i:=12) U qkr (Bf (T U)) ?_ U Ac)⟩;refine x_y (i:=13) U qkr (Bf (T U)) ?_ U Ac;refine Dr qkr U ?_;refine rO tb 1 U ?_;refine Bc (()) ?_ ⟨atd,atd,trivial⟩ ⟨Aa U,Aa U,Aa U,Aa U,Aa U,Aa U,Aa U,Aa U,Aa U,Aa U,Aa U,Aa U,trivial⟩ sbt
    trivial
  ·refine Cb U (Ah zeroValue32 cs_) ?_ U Ac;rintro _ _ ⟨n15,rfl,rfl⟩;refine⟨sbt,(Ce (i:=3) qkr qkr ?_)⟩;refine Cb U (Aj (qe2 U U) call32 (Gb (mFil mTru) (mSet nK 1))) ?_ U Ac;rintro _ _ ⟨n83,rfl,rfl⟩;refine⟨sbt,(Ce (i:=5) qkr qkr ?_)⟩;refine Cb U (Aj (.cons (T U) (.cons (T U) (.cons (T U) (.cons An .nil)))) call14 (Gp (Fz C5 (some ⟨n44,0,none⟩) 3 (hA0.mono (by exact sbt)) 0 (.uni U U (.fil U (.tru U)) (Cj (n:=1) fndK)) (by rw[Bu];exact⟨trivial,⟨inK,(pin 1 qde).2⟩⟩) (Di (by repeat (first|exact Am|refine Aq ?_)) (B7 C0) (B7 Cz)) (Cj (n:=1) fndK) (by rw[Bu];exact⟨inK,(pin 1 qde).2⟩) (B7 Cz)) q4_no)) ?_ U Ac;rintro _ _ ⟨⟨h4,is4,rfl,o4,a4⟩,rfl⟩;obtain⟨rfl,rfl⟩:=q4_a a4;refine⟨sbt,(x_y (i:=6) U qkr (Bz (T U)) ?_ U Ac)⟩;refine x_y (i:=7) U qkr (Ax (T U) U) ?_ U Ac;refine x_y (i:=8) U qkr (Ax (T U) U) ?_ U Ac;refine x_y (i:=9) U qkr (Ax (T U) U) ?_ U Ac;refine Ce (i:=11) qkr qkr ?_;refine Cb U (Na U U sizeOf32 .agg (Be _) (Ak Br) (by repeat (first|exact Upd.h|apply Upd.t|apply Bh)) (by rw[Ak Br];rfl)) ?_ U Ac;rintro _ _ ⟨rfl,rfl⟩;refine⟨sbt,(x_y (i:=12) U qkr (Bf (T U)) ?_ U Ac)⟩;refine x_y (i:=13) U qkr (Bf (T U)) ?_ U Ac;refine Dr qkr U ?_;refine rO tb 1 U ?_;refine Bc (()) ?_ ⟨atd,atd,trivial⟩ ⟨Aa U,Aa U,Aa U,Aa U,Aa U,Aa U,Aa U,Aa U,Aa U,Aa U,Aa U,Aa U,trivial⟩ sbt
   trivial
 rintro z -;refine Gq (X:=Unit) (V:=fun z=>[(19, .bool false),(20, .int .i64 0)]) (C:=[(1,_),(2,_),(6,_),(7,_),(8,_),(9,_),(10,_),(11,_),(12,_),(13,_),(14,_),(16,_),(17,_)]) (G:=fun z=>(n12,Cl (hdC hd0) 32)::(n8,Cl (hdC hd0) 32)::(n4,Cl (encPd mTim) 25)::(n3,Cl (encPo (mSet nK 1)) 28)::(n2,Cl (encPo (mFil mTru)) 28)::(n44,Cl (exF.flatMap encF) 127)::H) (φ:=fun z=>True) ⟨Aa U,Aa U,Aa U,Aa U,Aa U,Aa U,Aa U,Aa U,Aa U,Aa U,Aa U,Aa U,Aa U,trivial⟩ ?_ ?_
 ·refine rD tb 0 U (Hl 14 _ mixd qkr sb0 ?_ By);refine x_y (i:=0) U qkr (Bz (T U)) ?_ U Ac;refine x_y (i:=1) U qkr (M8 U isAgg28 sizeOf28 U (by first|exact As)) ?_ U Ac;refine x_y (i:=2) U qkr (M8 U isAgg28 sizeOf28 U (by first|exact As)) ?_ U Ac;refine x_y (i:=3) U qkr (M8 U isAgg28 sizeOf28 U (by first|exact As)) ?_ U Ac;refine Gh (i:=4) (j:=10) qkr qkr ?_ ?_
  ·refine Cb U (Aj (qe2 U U) call32 (Gb (mFil mTru) (mSet nK 1))) ?_ U Ac;rintro _ _ ⟨n94,rfl,rfl⟩;refine⟨sbt,?_⟩;refine Gh (i:=5) (j:=10) qkr qkr ?_ ?_
   ·refine Cb U (Aj (.cons (T U) (.cons (T U) (.cons (T U) (.cons An .nil)))) call14 (Gp (Fz C5 (some ⟨n44,0,none⟩) 3 (hA0.mono (by exact sbt)) 0 (Cj (n:=1) fndK) (by rw[Bu];exact⟨inK,(pin 1 qde).2⟩) (B7 Cz) (.uni U U (.fil U (.tru U)) (Cj (n:=1) fndK)) (by rw[Bu];exact⟨trivial,⟨inK,(pin 1 qde).2⟩⟩) (Di (by repeat (first|exact Am|refine Aq ?_)) (B7 C0) (B7 Cz))) q5_no)) ?_ U Ac;rintro _ _ ⟨⟨h5,is5,rfl,o5,a5⟩,rfl⟩;obtain rfl:=q5_a a5;refine⟨sbt,(x_y (i:=6) U qkr (Bz (T U)) ?_ U Ac)⟩;refine x_y (i:=7) U qkr (Ax (T U) U) ?_ U Ac;refine x_y (i:=8) U qkr (Ax (T U) U) ?_ U Ac;refine x_y (i:=9) U qkr (Ax (T U) U) ?_ U Ac;refine Ce (i:=10) qkr qkr ?_;refine Cb U (Ah zeroValue32 cs_) ?_ U Ac;rintro _ _ ⟨n18,rfl,rfl⟩;refine⟨sbt,(Ce (i:=11) qkr qkr ?_)⟩;refine Cb U (Na U U sizeOf32 .agg (Be _) (Ak o5) (by repeat (first|exact Upd.h|apply Upd.t|apply Bh)) (by rw[Ak o5];rfl)) ?_ U Ac;rintro _ _ ⟨rfl,rfl⟩;refine⟨sbt,(x_y (i:=12) U qkr (Bf (T U)) ?_ U Ac)⟩;refine x_y (i:=13) U qkr (Bf (T U)) ?_ U Ac;refine Dr qkr U ?_;refine rO tb 1 U ?_;refine Bc (()) ?_ ⟨atd,atd,trivial⟩ ⟨Aa U,Aa U,Aa U,Aa U,Aa U,Aa U,Aa U,Aa U,Aa U,Aa U,Aa U,Aa U,Aa U,trivial⟩ sbt
    trivial
   ·refine Cb U (Ah zeroValue32 cs_) ?_ U Ac;rintro _ _ ⟨n18,rfl,rfl⟩;refine⟨sbt,(Ce (i:=5) qkr qkr ?_)⟩;refine Cb U (Aj (.cons (T U) (.cons (T U) (.cons (T U) (.cons An .nil)))) call14 (Gp (Fz C5 (some ⟨n44,0,none⟩) 3 (hA0.mono (by exact sbt)) 0 (Cj (n:=1) fndK) (by rw[Bu];exact⟨inK,(pin 1 qde).2⟩) (B7 Cz) (.uni U U (.fil U (.tru U)) (Cj (n:=1) fndK)) (by rw[Bu];exact⟨trivial,⟨inK,(pin 1 qde).2⟩⟩) (Di (by repeat (first|exact Am|refine Aq ?_)) (B7 C0) (B7 Cz))) q5_no)) ?_ U Ac;rintro _ _ ⟨⟨h5,is5,rfl,o5,a5⟩,rfl⟩;obtain rfl:=q5_a a5;refine⟨sbt,(x_y (i:=6) U qkr (Bz (T U)) ?_ U Ac)⟩;refine x_y (i:=7) U qkr (Ax (T U) U) ?_ U Ac;refine x_y (i:=8) U qkr (Ax (T U) U) ?_ U Ac;refine x_y (i:=9) U qkr (Ax (T U) U) ?_ U Ac;refine Ce (i:=11) qkr qkr ?_;refine Cb U (Na U U sizeOf32 .agg (Be _) (Ak o5) (by repeat (first|exact Upd.h|apply Upd.t|apply Bh)) (by rw[Ak o5];rfl)) ?_ U Ac;rintro _ _ ⟨rfl,rfl⟩;refine⟨sbt,(x_y (i:=12) U qkr (Bf (T U)) ?_ U Ac)⟩;refine x_y (i:=13) U qkr (Bf (T U)) ?_ U Ac;refine Dr qkr U ?_;refine rO tb 1 U ?_;refine Bc (()) ?_ ⟨atd,atd,trivial⟩ ⟨Aa U,Aa U,Aa U,Aa U,Aa U,Aa U,Aa U,Aa U,Aa U,Aa U,Aa U,Aa U,Aa U,trivial⟩ sbt
    trivial
  ·refine Cb U (Ah zeroValue32 cs_) ?_ U Ac;rintro _ _ ⟨n18,rfl,rfl⟩;refine⟨sbt,(Ce (i:=4) qkr qkr ?_)⟩;refine Cb U (Aj (qe2 U U) call32 (Gb (mFil mTru) (mSet nK 1))) ?_ U Ac;rintro _ _ ⟨n94,rfl,rfl⟩;refine⟨sbt,(Ce (i:=5) qkr qkr ?_)⟩;refine Cb U (Aj (.cons (T U) (.cons (T U) (.cons (T U) (.cons An .nil)))) call14 (Gp (Fz C5 (some ⟨n44,0,none⟩) 3 (hA0.mono (by exact sbt)) 0 (Cj (n:=1) fndK) (by rw[Bu];exact⟨inK,(pin 1 qde).2⟩) (B7 Cz) (.uni U U (.fil U (.tru U)) (Cj (n:=1) fndK)) (by rw[Bu];exact⟨trivial,⟨inK,(pin 1 qde).2⟩⟩) (Di (by repeat (first|exact Am|refine Aq ?_)) (B7 C0) (B7 Cz))) q5_no)) ?_ U Ac;rintro _ _ ⟨⟨h5,is5,rfl,o5,a5⟩,rfl⟩;obtain rfl:=q5_a a5;refine⟨sbt,(x_y (i:=6) U qkr (Bz (T U)) ?_ U Ac)⟩;refine x_y (i:=7) U qkr (Ax (T U) U) ?_ U Ac;refine x_y (i:=8) U qkr (Ax (T U) U) ?_ U Ac;refine x_y (i:=9) U qkr (Ax (T U) U) ?_ U Ac;refine Ce (i:=11) qkr qkr ?_;refine Cb U (Na U U sizeOf32 .agg (Be _) (Ak o5) (by repeat (first|exact Upd.h|apply Upd.t|apply Bh)) (by rw[Ak o5];rfl)) ?_ U Ac;rintro _ _ ⟨rfl,rfl⟩;refine⟨sbt,(x_y (i:=12) U qkr (Bf (T U)) ?_ U Ac)⟩;refine x_y (i:=13) U qkr (Bf (T U)) ?_ U Ac;refine Dr qkr U ?_;refine rO tb 1 U ?_;refine Bc (()) ?_ ⟨atd,atd,trivial⟩ ⟨Aa U,Aa U,Aa U,Aa U,Aa U,Aa U,Aa U,Aa U,Aa U,Aa U,Aa U,Aa U,Aa U,trivial⟩ sbt
   trivial
 rintro z -;refine rC tb 3 U (y_ (Ay (.cons An (.cons An .nil)) call41 (fun H' hs=>Jr nK 1)) (y_ (Ay (.cons An (.cons An .nil)) call41 (fun H' hs=>Jr nK 2)) (e_ (Aj (qe2 U U) call33 (El (mFil (mEq nK 1)) (mFil (mEq nK 2)))) ?_ U) U) U);rintro _ _ ⟨n103,rfl,rfl⟩;refine e_ (Aj (.cons (T U) (.cons (T U) (.cons An .nil))) call17 (Gp (eempty_s C5 (some ⟨n44,0,none⟩) 3 (hA0.mono (by exact sbt)) 0 (.seq U U (Il (n:=1) fndK) (Il (n:=2) fndK)) (by rw[Bu];exact⟨⟨inK,(pin 1 qde).2⟩,⟨inK,(pin 2 qde).2⟩⟩) (Di (by repeat (first|exact Am|refine Aq ?_)) (B7 C0) (B7 C0))) q6_no)) ?_ U;rintro _ _ ⟨⟨h6,is6,rfl,o6,a6⟩,rfl⟩;obtain⟨rfl,rfl⟩:=q6_a a6;refine rO tb 4 U (e_ (Ah zeroValue32 cs_) ?_ U);rintro _ _ ⟨n21,rfl,rfl⟩;refine e_ (Na U U sizeOf32 .agg (Be _) (Ak Br) (by repeat (first|exact Upd.h|apply Upd.t|apply Bh)) (by rw[Ak Br];rfl)) ?_ U;rintro _ _ ⟨rfl,rfl⟩;refine rO tb 7 U (y_ (Ba (.cons An (.cons An (.cons An .nil))) (ybd25_0_1_3 _ _ _)) (y_ (Ay (qe1 U) call39 (fun H' hs=>K8 mRng)) (e_ (Aj (.cons (T U) (.cons (T U) (.cons An .nil))) call18 (Gp (etotal_s C5 (some ⟨n44,0,none⟩) 3 (hA0.mono (by exact sbt)) 0 (.fil U (fndK ▸ .rng (n:=0) (k:=6) U U U)) (by rw[Bu];exact⟨inK,by decide,by decide⟩) (B7 C0)) q7_no)) ?_ U) U) U);rintro _ _ ⟨⟨h7,is7,rfl,o7,a7⟩,rfl⟩;obtain⟨rfl,rfl⟩:=q7_a a7;refine rO tb 4 U (e_ (Ah zeroValue32 cs_) ?_ U);rintro _ _ ⟨n24,rfl,rfl⟩;refine e_ (Na U U sizeOf32 .agg (Be _) (Ak Ml) (by repeat (first|exact Upd.h|apply Upd.t|apply Bh)) (by rw[Ak Ml];rfl)) ?_ U;rintro _ _ ⟨rfl,rfl⟩;refine kO tb 4 [1,2,6,7,8,9,10,11,12,13,14,16,17,19,20,22,23,24,25,26] rfl U ?_;refine Gq (X:=Unit) (V:=fun z=>[(28, .bool false),(29, .int .i64 0)]) (C:=[(1,_),(6,_),(7,_),(8,_),(9,_),(10,_),(11,_),(12,_),(13,_),(14,_),(16,_),(17,_),(19,_),(20,_),(22,_),(23,_),(24,_),(25,_),(26,_)]) (G:=fun z=>(n24,Cl (hdC xK7) 32)::(n12,Cl (hdC hd0) 32)::(n8,Cl (hdC hd0) 32)::(n4,Cl (encPd mTim) 25)::(n3,Cl (encPo (mSet nK 1)) 28)::(n2,Cl (encPo (mFil mTru)) 28)::(n44,Cl (exF.flatMap encF) 127)::H) (φ:=fun z=>True) ⟨Aa U,Aa U,Aa U,Aa U,Aa U,Aa U,Aa U,Aa U,Aa U,Aa U,Aa U,Aa U,Aa U,Aa U,Aa U,Aa U,Aa U,Aa U,Aa U,trivial⟩ ?_ ?_
 ·refine rD tb 0 U (Hl 13 _ mixd qkr sb0 ?_ By);refine x_y (i:=0) U qkr (Bz (T U)) ?_ U Ac;refine x_y (i:=1) U qkr (M8 U isAgg28 sizeOf28 U (by first|exact As)) ?_ U Ac;refine x_y (i:=2) U qkr (Ay (.cons An (.cons An .nil)) call40 (fun H' hs=>He nK 3)) ?_ U Ac;refine Gh (i:=3) (j:=9) qkr qkr ?_ ?_
  ·refine Cb U (Aj (qe2 U U) call32 (Gb (mFil mTru) (mSet nK 3))) ?_ U Ac;rintro _ _ ⟨n120,rfl,rfl⟩;refine⟨sbt,?_⟩;refine Gh (i:=4) (j:=9) qkr qkr ?_ ?_
   ·refine Cb U (Aj (.cons (T U) (.cons (T U) (.cons An .nil))) call19 (Gp (esingle_s C5 (some ⟨n44,0,none⟩) 3 (hA0.mono (by exact sbt)) 0 (.uni U U (.fil U (.tru U)) (Cj (n:=3) fndK)) (by rw[Bu];exact⟨trivial,⟨inK,(pin 3 qde).2⟩⟩) (Di (by repeat (first|exact Am|refine Aq ?_)) (B7 C0) (B7 Cz)) (by show (4:Nat)≤62;decide) e8 hE8) q8_no)) ?_ U Ac;rintro _ _ ⟨⟨h8,is8,rfl,o8,a8⟩,rfl⟩;obtain rfl:=q8_a a8;refine⟨sbt,(x_y (i:=5) U qkr (Bz (T U)) ?_ U Ac)⟩;refine x_y (i:=6) U qkr (Ax (T U) U) ?_ U Ac;refine x_y (i:=7) U qkr (Ax (T U) U) ?_ U Ac;refine x_y (i:=8) U qkr (Ax (T U) U) ?_ U Ac;refine Ce (i:=9) qkr qkr ?_;refine Cb U (Ah zeroValue32 cs_) ?_ U Ac;rintro _ _ ⟨n27,rfl,rfl⟩;refine⟨sbt,(Ce (i:=10) qkr qkr ?_)⟩;refine Cb U (Na U U sizeOf32 .agg (Be _) (Ak o8) (by repeat (first|exact Upd.h|apply Upd.t|apply Bh)) (by rw[Ak o8];rfl)) ?_ U Ac;rintro _ _ ⟨rfl,rfl⟩;refine⟨sbt,(x_y (i:=11) U qkr (Bf (T U)) ?_ U Ac)⟩;refine x_y (i:=12) U qkr (Bf (T U)) ?_ U Ac;refine Dr qkr U ?_;refine rO tb 1 U ?_;refine Bc (()) ?_ ⟨atd,atd,trivial⟩ ⟨Aa U,Aa U,Aa U,Aa U,Aa U,Aa U,Aa U,Aa U,Aa U,Aa U,Aa U,Aa U,Aa U,Aa U,Aa U,Aa U,Aa U,Aa U,Aa U,trivial⟩ sbt
    trivial
   ·refine Cb U (Ah zeroValue32 cs_) ?_ U Ac;rintro _ _ ⟨n27,rfl,rfl⟩;refine⟨sbt,(Ce (i:=4) qkr qkr ?_)⟩;refine Cb U (Aj (.cons (T U) (.cons (T U) (.cons An .nil))) call19 (Gp (esingle_s C5 (some ⟨n44,0,none⟩) 3 (hA0.mono (by exact sbt)) 0 (.uni U U (.fil U (.tru U)) (Cj (n:=3) fndK)) (by rw[Bu];exact⟨trivial,⟨inK,(pin 3 qde).2⟩⟩) (Di (by repeat (first|exact Am|refine Aq ?_)) (B7 C0) (B7 Cz)) (by show (4:Nat)≤62;decide) e8 hE8) q8_no)) ?_ U Ac;rintro _ _ ⟨⟨h8,is8,rfl,o8,a8⟩,rfl⟩;obtain rfl:=q8_a a8;refine⟨sbt,(x_y (i:=5) U qkr (Bz (T U)) ?_ U Ac)⟩;refine x_y (i:=6) U qkr (Ax (T U) U) ?_ U Ac;refine x_y (i:=7) U qkr (Ax (T U) U) ?_ U Ac;refine x_y (i:=8) U qkr (Ax (T U) U) ?_ U Ac;refine Ce (i:=10) qkr qkr ?_;refine Cb U (Na U U sizeOf32 .agg (Be _) (Ak o8) (by repeat (first|exact Upd.h|apply Upd.t|apply Bh)) (by rw[Ak o8];rfl)) ?_ U Ac;rintro _ _ ⟨rfl,rfl⟩;refine⟨sbt,(x_y (i:=11) U qkr (Bf (T U)) ?_ U Ac)⟩;refine x_y (i:=12) U qkr (Bf (T U)) ?_ U Ac;refine Dr qkr U ?_;refine rO tb 1 U ?_;refine Bc (()) ?_ ⟨atd,atd,trivial⟩ ⟨Aa U,Aa U,Aa U,Aa U,Aa U,Aa U,Aa U,Aa U,Aa U,Aa U,Aa U,Aa U,Aa U,Aa U,Aa U,Aa U,Aa U,Aa U,Aa U,trivial⟩ sbt
    trivial
  ·refine Cb U (Ah zeroValue32 cs_) ?_ U Ac;rintro _ _ ⟨n27,rfl,rfl⟩;refine⟨sbt,(Ce (i:=3) qkr qkr ?_)⟩;refine Cb U (Aj (qe2 U U) call32 (Gb (mFil mTru) (mSet nK 3))) ?_ U Ac;rintro _ _ ⟨n120,rfl,rfl⟩;refine⟨sbt,(Ce (i:=4) qkr qkr ?_)⟩;refine Cb U (Aj (.cons (T U) (.cons (T U) (.cons An .nil))) call19 (Gp (esingle_s C5 (some ⟨n44,0,none⟩) 3 (hA0.mono (by exact sbt)) 0 (.uni U U (.fil U (.tru U)) (Cj (n:=3) fndK)) (by rw[Bu];exact⟨trivial,⟨inK,(pin 3 qde).2⟩⟩) (Di (by repeat (first|exact Am|refine Aq ?_)) (B7 C0) (B7 Cz)) (by show (4:Nat)≤62;decide) e8 hE8) q8_no)) ?_ U Ac;rintro _ _ ⟨⟨h8,is8,rfl,o8,a8⟩,rfl⟩;obtain rfl:=q8_a a8;refine⟨sbt,(x_y (i:=5) U qkr (Bz (T U)) ?_ U Ac)⟩;refine x_y (i:=6) U qkr (Ax (T U) U) ?_ U Ac;refine x_y (i:=7) U qkr (Ax (T U) U) ?_ U Ac;refine x_y (i:=8) U qkr (Ax (T U) U) ?_ U Ac;refine Ce (i:=10) qkr qkr ?_;refine Cb U (Na U U sizeOf32 .agg (Be _) (Ak o8) (by repeat (first|exact Upd.h|apply Upd.t|apply Bh)) (by rw[Ak o8];rfl)) ?_ U Ac;rintro _ _ ⟨rfl,rfl⟩;refine⟨sbt,(x_y (i:=11) U qkr (Bf (T U)) ?_ U Ac)⟩;refine x_y (i:=12) U qkr (Bf (T U)) ?_ U Ac;refine Dr qkr U ?_;refine rO tb 1 U ?_;refine Bc (()) ?_ ⟨atd,atd,trivial⟩ ⟨Aa U,Aa U,Aa U,Aa U,Aa U,Aa U,Aa U,Aa U,Aa U,Aa U,Aa U,Aa U,Aa U,Aa U,Aa U,Aa U,Aa U,Aa U,Aa U,trivial⟩ sbt
   trivial
 rintro z -;refine rC tb 3 U (y_ (Ay (.cons An (.cons An .nil)) call41 (fun H' hs=>Jr nD 1)) (y_ (Ay (.cons An (.cons An .nil)) call41 (fun H' hs=>Jr nD 2)) (e_ (Aj (.cons (T U) (.cons (T U) (.cons (T U) (.cons An .nil)))) call20 (Gp (eapart_s C5 (some ⟨n44,0,none⟩) 3 (hA0.mono (by exact sbt)) 0 (Il (n:=1) fndD) (by rw[Bu];exact⟨inD,(pin 1 qde).1⟩) (B7 C0) (Il (n:=2) fndD) (by rw[Bu];exact⟨inD,(pin 2 qde).1⟩) (B7 C0)) q9_no)) ?_ U) U) U);rintro _ _ ⟨⟨h9,is9,rfl,o9,a9⟩,rfl⟩;obtain⟨rfl,rfl⟩:=q9_a a9;refine rO tb 4 U (e_ (Ah zeroValue32 cs_) ?_ U);rintro _ _ ⟨n30,rfl,rfl⟩;refine e_ (Na U U sizeOf32 .agg (Be _) (Ak Br) (by repeat (first|exact Upd.h|apply Upd.t|apply Bh)) (by rw[Ak Br];rfl)) ?_ U;rintro _ _ ⟨rfl,rfl⟩;refine kO tb 4 [1,6,7,8,9,10,11,12,13,14,16,17,19,20,22,23,24,25,26,28,29,31,32] rfl U (rG tb 3 U (y_ (Ay (.cons An (.cons An .nil)) call40 (fun H' hs=>He nD 3)) (y_ (Ay (.cons An (.cons An .nil)) call40 (fun H' hs=>He ⟨#[115,114,99]⟩ 4)) (e_ (Aj (.cons (T U) (.cons (T U) (.cons (T U) (.cons An .nil)))) call21 (Gp (edistinct_s C5 (some ⟨n44,0,none⟩) 3 (hA0.mono (by exact sbt)) 0 (Cj (n:=3) fndD) (by rw[Bu];exact⟨inD,(pin 3 qde).1⟩) (B7 Cz) (Cj (n:=4) fndS) (by rw[Bu];exact⟨inS,(by decide:(4:Nat)<2 ^ 8)⟩) (B7 Cz) (by show (1:Nat)≤30;decide) (by show (1:Nat)≤30;decide) e10 hE10) q10_no)) ?_ U) U) U));rintro _ _ ⟨⟨h10,is10,rfl,o10,a10⟩,rfl⟩;obtain⟨rfl,rfl⟩:=q10_a a10;refine rO tb 4 U (e_ (Ah zeroValue32 cs_) ?_ U);rintro _ _ ⟨n33,rfl,rfl⟩;refine e_ (Na U U sizeOf32 .agg (Be _) (Ak J7) (by repeat (first|exact Upd.h|apply Upd.t|apply Bh)) (by rw[Ak J7];rfl)) ?_ U;rintro _ _ ⟨rfl,rfl⟩;refine kO tb 4 [1,6,7,8,9,10,11,12,13,14,16,17,19,20,22,23,24,25,26,28,29,31,32,33,34,35] rfl U (rG tb 3 U (y_ (Ay (.cons An (.cons An .nil)) call41 (fun H' hs=>Jr nD 1)) (y_ (Ay (.cons An (.cons An .nil)) call40 (fun H' hs=>He nD 2)) (e_ (Aj (qe2 U U) call33 (El (mFil (mEq nD 1)) (mSet nD 2))) ?_ U) U) U));rintro _ _ ⟨n145,rfl,rfl⟩;refine y_ (Ay (.cons An (.cons An .nil)) call41 (fun H' hs=>Jr nD 2)) (y_ (Ay (.cons An (.cons An .nil)) call40 (fun H' hs=>He nD 3)) (e_ (Aj (qe2 U U) call33 (El (mFil (mEq nD 2)) (mSet nD 3))) ?_ U) U) U;rintro _ _ ⟨n148,rfl,rfl⟩;refine e_ (Aj (.cons (T U) (.cons (T U) (.cons (T U) (.cons An .nil)))) call22 (Gp (eslices_s C5 (some ⟨n44,0,none⟩) 3 (hA0.mono (by exact sbt)) 0 (.seq U U (Il (n:=1) fndD) (Cj (n:=2) fndD)) (by rw[Bu];exact⟨⟨inD,(pin 1 qde).1⟩,⟨inD,(pin 2 qde).1⟩⟩) (Di (by repeat (first|exact Am|refine Aq ?_)) (B7 C0) (B7 Cz)) (.seq U U (Il (n:=2) fndD) (Cj (n:=3) fndD)) (by rw[Bu];exact⟨⟨inD,(pin 2 qde).1⟩,⟨inD,(pin 3 qde).1⟩⟩) (Di (by repeat (first|exact Am|refine Aq ?_)) (B7 C0) (B7 Cz))) q11_no)) ?_ U;rintro _ _ ⟨⟨h11,is11,rfl,o11,a11⟩,rfl⟩;obtain⟨rfl,rfl⟩:=q11_a a11;refine rO tb 4 U (e_ (Ah zeroValue32 cs_) ?_ U);rintro _ _ ⟨n36,rfl,rfl⟩;refine e_ (Na U U sizeOf32 .agg (Be _) (Ak Mm) (by repeat (first|exact Upd.h|apply Upd.t|apply Bh)) (by rw[Ak Mm];rfl)) ?_ U;rintro _ _ ⟨rfl,rfl⟩;refine kO tb 4 [1,6,7,8,9,10,11,12,13,14,16,17,19,20,22,23,24,25,26,28,29,31,32,33,34,35,36,37,38] rfl U (rG tb 3 U (y_ (Ay (.cons An (.cons An .nil)) call41 (fun H' hs=>Jr nD 1)) (y_ (Ay (.cons An (.cons An .nil)) call41 (fun H' hs=>Jr nD 2)) (e_ (Aj (.cons (T U) (.cons (T U) (.cons (T U) (.cons An .nil)))) call22 (Gp (eslices_s C5 (some ⟨n44,0,none⟩) 3 (hA0.mono (by exact sbt)) 0 (Il (n:=1) fndD) (by rw[Bu];exact⟨inD,(pin 1 qde).1⟩) (B7 C0) (Il (n:=2) fndD) (by rw[Bu];exact⟨inD,(pin 2 qde).1⟩) (B7 C0)) q12_no)) ?_ U) U) U));rintro _ _ ⟨⟨h12,is12,rfl,o12,a12⟩,rfl⟩;obtain⟨rfl,rfl⟩:=q12_a a12;refine rO tb 4 U (e_ (Ah zeroValue32 cs_) ?_ U);rintro _ _ ⟨n39,rfl,rfl⟩;refine e_ (Na U U sizeOf32 .agg (Be _) (Ak Br) (by repeat (first|exact Upd.h|apply Upd.t|apply Bh)) (by rw[Ak Br];rfl)) ?_ U;rintro _ _ ⟨rfl,rfl⟩;refine kO tb 4 [6,7,8,9,10,11,12,13,14,16,17,19,20,22,23,24,25,26,28,29,31,32,33,34,35,36,37,38,40,41] rfl U (rG tb 5 U (y_ (A8 (T U) (T U) qom) ?_ U));refine rO tb 1 U (y_ (A8 (T U) (T U) qom) ?_ U);refine rO tb 1 U (y_ (A8 (T U) (T U) qom) ?_ U);refine rO tb 1 U (y_ (A8 (T U) (T U) qom) ?_ U);refine rO tb 1 U (y_ (A8 (T U) (T U) qom) ?_ U);refine rO tb 1 U (y_ (A8 (T U) (T U) qom) ?_ U);refine rO tb 1 U (y_ (A8 (T U) (T U) qom) ?_ U);refine rO tb 1 U (y_ (A8 (T U) (T U) qom) ?_ U);refine rO tb 1 U (y_ (A8 (T U) (T U) qom) ?_ U);refine rO tb 1 U (y_ (A8 (T U) (T U) qom) ?_ U);refine rO tb 1 U (y_ (A8 (T U) (T U) qom) ?_ U);refine y_ (yl_neF (T U) An qde) ?_ U;refine kO tb 2 [6,8,9,11,12,13,16,19,22,24,25,28,31,33,34,36,37,40,184] rfl U (rG tb 8 U ?_)
 first|refine A7 (B0 (T U)) U (Bi U U (Aa U)) ?_
 refine rO tb 2 U (A7 (M8 U isAgg32 sizeOf32 U (by first|exact As)) U (Bi U U (Aa U)) ?_);refine A7 (Ba .nil (Kj)) U (Bi U U (Aa U)) (A7 (Js (T U) (T U) qkr eqH0) U (Bi U U (Aa U)) ?_);refine rO tb 3 U (A7 (yl_eqT (T U) An U) U (Bi U U (Aa U)) (rO tb 2 U (A7 (M8 U isAgg32 sizeOf32 U (by first|exact As)) U (Bi U U (Aa U)) ?_)));refine A7 (Ba .nil (Kj)) U (Bi U U (Aa U)) (A7 (Js (T U) (T U) qkr eqH0) U (Bi U U (Aa U)) ?_);refine rO tb 3 U ?_
 first|refine A7 (B0 (T U)) U (Bi U U (Aa U)) ?_
 refine rO tb 6 U ?_
 first|refine A7 (B0 (T U)) U (Bi U U (Aa U)) ?_
 refine kO tb 7 [24,25,28,31,33,34,36,37,40,42] rfl U (rG tb 1 U (Bp 36 [(0,true),(1,true),(2,true),(3,true),(4,true),(5,true),(6,true),(7,true),(8,true),(9,true),(10,true),(11,true),(12,true),(13,true),(14,true),(15,true),(16,true),(17,true),(18,true),(19,true),(20,true),(21,true),(22,true),(23,true),(24,true),(25,true),(26,true),(27,true),(28,true),(29,true),(30,true),(31,true),(32,true),(33,true),(34,true),(35,true)] _ mixd qkr sb0 ?_ By));refine rP tb 1 U ?_
 first|refine o_y U (B0 (T U)) ?_ U Ac
 refine rP tb 1 U (o_y U (M8 U isAgg32 sizeOf32 U (by first|exact As)) ?_ U (Bi U U (Aa U)));refine o_y U (Ay (.cons An (.cons An (.cons An .nil))) call42 (fun H' hs=>khead1_s)) (o_y U (Js (T U) (T U) qkr eqX1) ?_ U (Bi U U (Aa U))) U (Bi U U (Aa U));refine rP tb 3 U ?_
 first|refine o_y U (B0 (T U)) ?_ U (Bi U U (Aa U))
 refine rP tb 6 U ?_
 first|refine o_y U (B0 (T U)) ?_ U (Bi U U (Aa U))
 refine rP tb 2 U (o_y U (M8 U isAgg32 sizeOf32 U (by first|exact As)) ?_ U (Bi U U (Aa U)));refine o_y U (Ay (.cons An (.cons An (.cons An .nil))) call42 (fun H' hs=>khead2_s)) (o_y U (Js (T U) (T U) qkr eqX2) ?_ U (Bi U U (Aa U))) U (Bi U U (Aa U));refine rP tb 3 U ?_
 first|refine o_y U (B0 (T U)) ?_ U (Bi U U (Aa U))
 refine rP tb 2 U (o_y U (M8 U isAgg32 sizeOf32 U (by first|exact As)) ?_ U (Bi U U (Aa U)));refine o_y U (Ay (.cons An (.cons An (.cons An .nil))) call42 (fun H' hs=>khead3_s)) (o_y U (Js (T U) (T U) qkr eqX3) ?_ U (Bi U U (Aa U))) U (Bi U U (Aa U));refine rP tb 5 U (Bd U (kO tb 2 [42,43] rfl U (rG tb 10 U (Al U (M6 U) ?_))));exact⟨_,⟨rfl,rfl⟩,by exact sbt⟩
theorem fis_arr {w0:World}{H:List (Nat × Obj)}{q:Option Addr}{fi:List Fi}(h:FisOk fi)(hA:Arr w0 H q 3 encFi fi):Arr w0 H q 3 encF (fi.map Fi.fd):=fun i u hi=>by
 have he:=h.enc;rw[List.getElem?_map] at hi;cases hf:fi[i]? with
 |none=>rw[hf] at hi;cases hi
 |some f=>
  rw[hf] at hi;obtain rfl:f.fd=u:=Option.some.inj hi;have h2:encFi f=encF f.fd:=by
   have h3:(fi.map encFi)[i]? =((fi.map Fi.fd).map encF)[i]? :=by rw[he]
   rw[List.getElem?_map,List.getElem?_map,List.getElem?_map,hf] at h3;exact Option.some.inj h3
  have:=hA i f hf;rw[h2] at this;exact this
theorem rpol_n {w0:World}{H:List (Nat × Obj)}(fl:List Fd)(hfl:FlOk fl)(q:Option Addr)(n c:Nat)(hn:n=fl.length)(hA:FlA w0 H q fl){m:Pom}(hM:PoM w0 H m)(hm:m.sz≤1000000000)(hz:NmO m):
  FSpec Tryz.prog w0 80 #[.slice q n c, .agg (encPo m).toArray] H (SayE (m.nd≤200∧FmO m∧∀ a∈prtO m,FitO fl a) H):=by
 subst hn;exact rpolicy_s fl hfl q c hA hM hm hz
def FitM (fl:List Fd) (m:Pom) (most:Nat):Prop:=m.nd≤most∧∃ p,IsO fl m p∧p.Fit (bsF fl)
theorem chk_n {w0:World}{H:List (Nat × Obj)}(fi:List Fi)(q:Option Addr)(n c:Nat)(hn:n=fi.length)(hA:Arr w0 H q 3 encFi fi)(hnm:∀ f∈fi,f.nm.size≤9223372036854775807):FSpec Tryz.prog w0 76 #[.slice q n c] H (SayE (FisOk fi) H):=by
 subst hn;exact check_s fi q c hA hnm
theorem eright_s {w0:World}{H:List (Nat × Obj)}(fi:List Fi)(q:Option Addr)(n c:Nat)(hn:n=fi.length)(hA:Arr w0 H q 3 encFi fi)(hnm:∀ f∈fi,f.nm.size≤9223372036854775807){m:Pom}(hM:PoM w0 H m)(hm:m.sz≤1000000000)(hz:NmO m)(most:Nat):
  FSpec Tryz.prog w0 31 #[.slice q n c, .agg (encPo m).toArray, .int .i64 (most:Nat)] H (SayB (FisOk fi∧FitM (fi.map Fi.fd) m most) H):=by
 refine Au Tryz.func31 U ntmps31 U (rD tb 2 U (e_ (Nb U cs_) ?_ U));rintro _ _ ⟨n4,rfl,rfl⟩;refine rO tb 5 U (y_ (M8 U isAgg28 sizeOf28 U (by first|exact As)) ?_ U);refine e_ (Aj (qe1 U) call75 (fewO_s (hM.mono (by exact sbt)) hm)) ?_ U;rintro _ _ ⟨b1,rfl,rfl⟩;refine rO tb 7 U ?_
 first|refine A7 (B5 (T U)) U Ac ?_|refine A7 (B0 (T U)) U Ac ?_
 refine rO tb 1 U ?_
 first|refine Av (s:=12) (Aa U) (fun c12=> ?_) (fun c12=> ?_)|refine A6 (s:=12) (Aa U) (fun c12=> ?_) (fun c12=> ?_)
 ·refine kO tb 29 [6] rfl U (rG tb 2 U (Al U (M6 U) ?_))
  first|exact⟨_,⟨false,⟨rfl,fun h=>by cases h⟩,rfl⟩,by exact sbt⟩|exact⟨_,⟨_,⟨rfl,fun h=>⟨hfi,by omega,Jz hfi.fl (he1 (of_decide_eq_true h)).2.1 (he1 (of_decide_eq_true h)).2.2⟩⟩,rfl⟩,by exact sbt⟩
 ·refine rO tb 1 U (A3 (Aj (qe1 U) call76 (chk_n fi q n c hn (hA.mono (by exact sbt)) hnm)) U (Bi U U (Aa U)) ?_);rintro _ _ ⟨e0,⟨rfl,he0⟩,rfl⟩;refine rO tb 3 U ?_
  first|refine Av (s:=17) (Aa U) (fun c17=> ?_) (fun c17=> ?_)|refine A6 (s:=17) (Aa U) (fun c17=> ?_) (fun c17=> ?_)
  ·skip
   refine kO tb 24 [6] rfl U (rG tb 2 U (Al U (M6 U) ?_))
   first|exact⟨_,⟨false,⟨rfl,fun h=>by cases h⟩,rfl⟩,by exact sbt⟩|exact⟨_,⟨_,⟨rfl,fun h=>⟨hfi,by omega,Jz hfi.fl (he1 (of_decide_eq_true h)).2.1 (he1 (of_decide_eq_true h)).2.2⟩⟩,rfl⟩,by exact sbt⟩
  ·have hfi:FisOk fi:=he0 (by simpa using c17);refine A7 (M8 U isAgg28 sizeOf28 U (by first|exact As)) U (Bi U U (Aa U)) ?_;refine A3 (Aj (qe1 U) call77 (szO_s _ hm (hM.mono (by exact sbt)) (Nat.le_refl _))) U (Bi U U (Aa U)) ?_;rintro _ _ ⟨z1,⟨rfl,y1,x1⟩,rfl⟩;refine A7 (yl_field (T U) (field84 _ _)) U (Bi U U (Aa U)) (rO tb 4 U ?_)
   first|refine Av (s:=24) (Aa U) (fun c24=> ?_) (fun c24=> ?_)|refine A6 (s:=24) (Aa U) (fun c24=> ?_) (fun c24=> ?_)
   ·refine kO tb 17 [6] rfl U (rG tb 2 U (Al U (M6 U) ?_))
    first|exact⟨_,⟨false,⟨rfl,fun h=>by cases h⟩,rfl⟩,by exact sbt⟩|exact⟨_,⟨_,⟨rfl,fun h=>⟨hfi,by omega,Jz hfi.fl (he1 (of_decide_eq_true h)).2.1 (he1 (of_decide_eq_true h)).2.2⟩⟩,rfl⟩,by exact sbt⟩
   ·refine A7 (M8 U isAgg28 sizeOf28 U (by first|exact As)) U (Bi U U (Aa U)) ?_;refine A3 (Aj (qe1 U) call78 (stO_s _ hm (hM.mono (by exact sbt)) (Nat.le_refl _))) U (Bi U U (Aa U)) ?_;rintro _ _ ⟨z2,⟨rfl,y2,x2⟩,rfl⟩;refine rO tb 3 U ?_
    first|refine Av (s:=29) (Aa U) (fun c29=> ?_) (fun c29=> ?_)|refine A6 (s:=29) (Aa U) (fun c29=> ?_) (fun c29=> ?_)
    ·refine kO tb 12 [6] rfl U (rG tb 2 U (Al U (M6 U) ?_))
     first|exact⟨_,⟨false,⟨rfl,fun h=>by cases h⟩,rfl⟩,by exact sbt⟩|exact⟨_,⟨_,⟨rfl,fun h=>⟨hfi,by omega,Jz hfi.fl (he1 (of_decide_eq_true h)).2.1 (he1 (of_decide_eq_true h)).2.2⟩⟩,rfl⟩,by exact sbt⟩
    ·refine A7 (M8 U isAgg28 sizeOf28 U (by first|exact As)) U (Bi U U (Aa U)) ?_;refine A3 (Aj (qe1 U) call79 (light_s (hM.mono (by exact sbt)) hm)) U (Bi U U (Aa U)) ?_;rintro _ _ ⟨b4,rfl,rfl⟩
     first|refine A7 (B5 (T U)) U (Bi U U (Aa U)) ?_|refine A7 (B0 (T U)) U (Bi U U (Aa U)) ?_
     refine rO tb 3 U ?_
     first|refine Ae (Aa U) (fun c33=> ?_) (fun c33=> ?_)|refine Ai (Aa U) (fun c33=> ?_) (fun c33=> ?_)
     ·refine kC tb 5 [6] rfl U (rG tb 2 U (Al U (M6 U) ?_))
      first|exact⟨_,⟨false,⟨rfl,fun h=>by cases h⟩,rfl⟩,by exact sbt⟩|exact⟨_,⟨_,⟨rfl,fun h=>⟨hfi,by omega,Jz hfi.fl (he1 (of_decide_eq_true h)).2.1 (he1 (of_decide_eq_true h)).2.2⟩⟩,rfl⟩,by exact sbt⟩
     ·refine rC tb 5 U (y_ (M8 U isAgg28 sizeOf28 U (by first|exact As)) ?_ U);refine e_ (Aj (qe2 U U) call80 (rpol_n (fi.map Fi.fd) hfi.fl q n c (hn.trans (List.length_map _).symm) ((fis_arr hfi hA).mono (by exact sbt)) (hM.mono (by exact sbt)) hm hz)) ?_ U;rintro _ _ ⟨e1,⟨rfl,he1⟩,rfl⟩;refine kO tb 4 [6] rfl U (rG tb 1 U (Al U (M6 U) ?_))
      first|exact⟨_,⟨false,⟨rfl,fun h=>by cases h⟩,rfl⟩,by exact sbt⟩|exact⟨_,⟨_,⟨rfl,fun h=>⟨hfi,by omega,Jz hfi.fl (he1 (of_decide_eq_true h)).2.1 (he1 (of_decide_eq_true h)).2.2⟩⟩,rfl⟩,by exact sbt⟩
theorem both_s {w0:World}{H:List (Nat × Obj)}(fi:List Fi)(q:Option Addr)(n c:Nat)(hn:n=fi.length)(hA:Arr w0 H q 3 encFi fi)(hnm:∀ f∈fi,f.nm.size≤9223372036854775807){m1:Pom}(hM1:PoM w0 H m1)(hm1:m1.sz≤1000000000)(hz1:NmO m1){m2:Pom}(hM2:PoM w0 H m2)(hm2:m2.sz≤1000000000)(hz2:NmO m2)(most:Nat)(tick:Int):
  FSpec Tryz.prog w0 12 #[.slice q n c, .agg (encPo m1).toArray, .agg (encPo m2).toArray, .int .i64 (most:Nat), .int .i64 tick] H (SayB ((0≤tick∧tick≤1073741824)∧FisOk fi∧FitM (fi.map Fi.fd) m1 most∧FitM (fi.map Fi.fd) m2 most) H):=by
 refine Au Tryz.func12 U ntmps12 U (rD tb 2 U (e_ (Nb U cs_) ?_ U));rintro _ _ ⟨n6,rfl,rfl⟩;refine e_ (Nb U cs_) ?_ U;rintro _ _ ⟨n7,rfl,rfl⟩;refine rO tb 8 U ?_
 first|refine Av (s:=13) (Aa U) (fun c13=> ?_) (fun c13=> ?_)|refine A6 (s:=13) (Aa U) (fun c13=> ?_) (fun c13=> ?_)
 ·refine rO tb 4 U ?_
  first|refine Av (s:=17) (Aa U) (fun c17=> ?_) (fun c17=> ?_)|refine A6 (s:=17) (Aa U) (fun c17=> ?_) (fun c17=> ?_)
  ·refine rO tb 1 U (A7 (M8 U isAgg28 sizeOf28 U (by first|exact As)) U (Bi U U (Aa U)) ?_);refine rO tb 1 U (A3 (Aj (qe3 U U U) call31 (eright_s fi q n c hn (hA.mono (by exact sbt)) hnm (hM1.mono (by exact sbt)) hm1 hz1 most)) U (Bi U U (Aa U)) ?_);rintro _ _ ⟨b1,⟨rfl,hb1⟩,rfl⟩;refine rO tb 2 U ?_
   first|refine Av (s:=23) (Aa U) (fun c23=> ?_) (fun c23=> ?_)|refine A6 (s:=23) (Aa U) (fun c23=> ?_) (fun c23=> ?_)
   ·have h1:=hb1 (by simpa using c23);refine rO tb 1 U (A7 (M8 U isAgg28 sizeOf28 U (by first|exact As)) U (Bi U U (Aa U)) ?_);refine rO tb 1 U (A3 (Aj (qe3 U U U) call31 (eright_s fi q n c hn (hA.mono (by exact sbt)) hnm (hM2.mono (by exact sbt)) hm2 hz2 most)) U (Bi U U (Aa U)) ?_);rintro _ _ ⟨b2,⟨rfl,hb2⟩,rfl⟩;refine rO tb 5 U (Al U (M6 U) ?_)
    first|exact⟨_,⟨false,⟨rfl,fun h=>by cases h⟩,rfl⟩,by exact sbt⟩|exact⟨_,⟨_,⟨rfl,fun h=>⟨by omega,h1.1,h1.2,(hb2 h).2⟩⟩,rfl⟩,by exact sbt⟩|exact⟨_,⟨_,⟨rfl,fun h=>by first|cases h|(exfalso;simp_all;done)⟩,rfl⟩,by exact sbt⟩
   ·skip
    refine rO tb 9 U (Al U (M6 U) ?_)
    first|exact⟨_,⟨false,⟨rfl,fun h=>by cases h⟩,rfl⟩,by exact sbt⟩|exact⟨_,⟨_,⟨rfl,fun h=>⟨by omega,h1.1,h1.2,(hb2 h).2⟩⟩,rfl⟩,by exact sbt⟩|exact⟨_,⟨_,⟨rfl,fun h=>by first|cases h|(exfalso;simp_all;done)⟩,rfl⟩,by exact sbt⟩
  ·refine rO tb 15 U (Al U (M6 U) ?_)
   first|exact⟨_,⟨false,⟨rfl,fun h=>by cases h⟩,rfl⟩,by exact sbt⟩|exact⟨_,⟨_,⟨rfl,fun h=>⟨by omega,h1.1,h1.2,(hb2 h).2⟩⟩,rfl⟩,by exact sbt⟩|exact⟨_,⟨_,⟨rfl,fun h=>by first|cases h|(exfalso;simp_all;done)⟩,rfl⟩,by exact sbt⟩
 ·refine rO tb 19 U (Al U (M6 U) ?_)
  first|exact⟨_,⟨false,⟨rfl,fun h=>by cases h⟩,rfl⟩,by exact sbt⟩|exact⟨_,⟨_,⟨rfl,fun h=>⟨by omega,h1.1,h1.2,(hb2 h).2⟩⟩,rfl⟩,by exact sbt⟩|exact⟨_,⟨_,⟨rfl,fun h=>by first|cases h|(exfalso;simp_all;done)⟩,rfl⟩,by exact sbt⟩
end Go.Proofs.YtkgfmjanajdibaaGreat
namespace Go.Proofs.YtkgfmjanajdibaaGreat
open _root_.Go.Proofs.Tryz
open Go.ChangeShapes Go.WideShapes Go.ChangeAt Go.RowKit Go.Joins Go.Deep
set_option linter.unusedVariables false
set_option linter.unusedSimpArgs false
set_option linter.unusedSectionVars false
set_option maxRecDepth 100000
theorem below_cell {W w:World}{p:Addr}{v:Value}(hb:Below W.heap.size W w)(h:W.cell? p=some v):w.cell? p=some v:=by
 have hlt:=World.block_lt_of_cell? _ _ h;have:=hb.block p.block hlt;unfold World.cell? at h ⊢;rw[this];exact h
theorem cell_arg {W:World}{p:Addr}{v:Value}(h:W.cell? p=some v):Cell W [] p v:=fun w hO=>below_cell hO.below h
theorem E5 {H:Type}(d:DataW H):1≤Rows.uptoBulk d:=by
 cases d with
 |lit l=>cases l<;>simp[Rows.uptoBulk]
 |nil=>simp[Rows.uptoBulk]
 |ptr d=>simp[Rows.uptoBulk]
 |slice elems spare=>simp[Rows.uptoBulk]
 |agg parts=>simp[Rows.uptoBulk]
 |iface t d=>simp[Rows.uptoBulk]
 |map entries=>simp[Rows.uptoBulk]
 |held h=>simp[Rows.uptoBulk]
theorem blk_sum {H:Type}{f:Nat→Nat}{D:Nat→DataW H}:∀ (l:List Nat),(∀ i∈l,f i≤Rows.uptoBulk (D i))→(l.map f).sum≤Rows.uptoBulkAll (l.map D)
 |[],_=>Nat.le_refl _
 |x::l,h=>by
  have h1:=h x (by simp);have h2:=blk_sum l fun i hi=>h i (by simp[hi])
  simp only[List.map_cons,List.sum_cons,Rows.uptoBulkAll];omega
theorem blk_mem {H:Type}{D:Nat→DataW H}:∀ {l:List Nat} {i:Nat},i∈l→Rows.uptoBulk (D i)≤Rows.uptoBulkAll (l.map D)
 |x::l,i,h=>by
  simp only[List.map_cons,Rows.uptoBulkAll];rcases List.mem_cons.1 h with rfl|h
  ·exact Nat.le_add_right _ _
  ·have:=blk_mem (D:=D) h;omega
section
variable {H:Type} {enc:TypeId × Value→H} {P:Program} {W:World} {b0:Nat} {sp1:Nat→Bool} {held:Bool}
theorem open_arr {α:Type}{t e sz fuel:Nat}{cs:List Value}{x:DataW H × List MemPlace}{el:α→List Value}{φ:α→Prop}{szf:α→Nat}(ht:P.underlying t=some (.slice e))(hc:P.cellsOf e=sz)(hsz:0<sz)
  (hel:∀ n cs y,Rows.uptoBulk y.1<Rows.uptoBulk x.1→DataW.trod enc P W b0 sp1 held n e cs=some y→∃ u:α,cs=el u∧φ u∧szf u≤Rows.uptoBulk y.1) (h:DataW.trod enc P W b0 sp1 held fuel t cs=some x):
  ∃ (q:Option Addr) (l:List α) (cap:Nat),cs=[.slice q l.length cap]∧Arr W [] q sz el l∧l.length≤cap∧l.length≤9223372036854775807∧(∀ u∈l,φ u)∧(l.map szf).sum+1≤Rows.uptoBulk x.1:=by
 rcases open_slice ht h with ⟨rfl,rfl⟩|⟨a,len,cap,m,n,D,Pl,rfl,hb,hl,hm,hmm,rfl,hx⟩
 ·exact⟨none,[],0,rfl,fun i u hi=>by simp at hi,by simp,by simp,by simp,by simp[Rows.uptoBulk]⟩
 have hlm:len≤m:=by rw[hmm];split<;>omega
 have hlen:len≤9223372036854775807:=by unfold maxLen at hm;omega
 cases len with
 |zero=>exact⟨some a,[],cap,rfl,fun i u hi=>by simp at hi,by simp,by simp,by simp,by simp[Rows.uptoBulk]⟩
 |succ k=>
  have hbk:Rows.uptoBulkAll ((List.range (k+1)).map D)+1≤Rows.uptoBulk (DataW.slice ((List.range (k+1)).map D) ((List.range (m - (k+1))).map fun j=>D (k+1+j))):=by
   simp only[Rows.uptoBulk];omega
  have each:∀ i,i<k+1→∃ u:α,W.cells? b0 (a.add (i*sz)) sz=some (el u)∧φ u∧szf u≤Rows.uptoBulk (D i):=fun i hi=>by
   obtain⟨cs',h1,h2⟩:=hx i qom;rw[hc] at h1;have h3:=blk_mem (D:=D) (List.mem_range.2 hi);obtain⟨u,rfl,hu⟩:=hel _ _ _ (by simp only[];omega) h2;exact⟨u,h1,hu⟩
  obtain⟨u0,h00,hu0⟩:=each 0 qom
  letI:Inhabited α:=⟨u0⟩
  obtain⟨f,hf⟩:=choose_lt each;refine⟨some a,(List.range (k+1)).map f,cap,by simp,fun i u hi=> ?_,by simpa using hl,by simpa using hlen,fun u hu=> ?_,?_⟩
  ·have hik:i<k+1:=by have:=(List.getElem?_eq_some_iff.1 hi).1;simpa using this
   have hfu:f i=u:=by simpa[hik] using hi
   obtain⟨sb,so,spot⟩:=a;obtain⟨_,hl0,hc0⟩:=World.cells?_some h00;have hspot:spot=none:=by
    have h6:=(hc0 0 hsz).trans (List.getElem?_eq_getElem qom)
    simpa[Addr.add] using World.cell?_spot h6
   subst hspot;refine⟨rfl,fun j v hj=>cell_arg ?_⟩;obtain⟨_,hl1,hc1⟩:=World.cells?_some (hf i hik).1;rw[hfu] at hl1 hc1;have hjl:=(List.getElem?_eq_some_iff.1 hj).1;have h5:=hc1 j qom;rw[add_add,add_plain] at h5;have h6:=h5.trans hj;rw[← Nat.add_assoc] at h6;exact h6
  ·obtain⟨i,hi,rfl⟩:=List.mem_map.1 hu;exact(hf i (List.mem_range.1 hi)).2.1
  ·have:=blk_sum (f:=fun i=>szf (f i)) (D:=D) (List.range (k+1)) fun i hi=>(hf i (List.mem_range.1 hi)).2.2
   rw[List.map_map];have e:(szf ∘ f)=fun i=>szf (f i):=rfl
   rw[e];simp only[] at hbk ⊢;omega
end
theorem cells3:Tryz.prog.cellsOf 3=1:=by kernel_rfl
theorem cells9:Tryz.prog.cellsOf 9=1:=by kernel_rfl
theorem cells67:Tryz.prog.cellsOf 127=3:=by kernel_rfl
theorem cells25:Tryz.prog.cellsOf 25=5:=by kernel_rfl
theorem cells23:Tryz.prog.cellsOf 23=1:=by kernel_rfl
theorem cells28:Tryz.prog.cellsOf 28=9:=by kernel_rfl
theorem cells26:Tryz.prog.cellsOf 26=1:=by kernel_rfl
theorem own_knob:ownKnob Tryz.prog.godebug=none:=by kernel_rfl
theorem i64_bd {n:Int}(h:(Lit.int .i64 n).wf=true): -9223372036854775808≤n∧n≤9223372036854775807:=by
 have:=bounds_i64 h;exact this
theorem szPL_sum:∀ l:List Pdm,szPL l=(l.map Pdm.sz).sum
 |[]=>by simp[szPL]
 |x::l=>by simp only[szPL,List.map_cons,List.sum_cons,szPL_sum l]
theorem szOL_sum:∀ l:List Pom,szOL l=(l.map Pom.sz).sum
 |[]=>by simp[szOL]
 |x::l=>by simp only[szOL,List.map_cons,List.sum_cons,szOL_sum l]
theorem prtPL_in {l:List Pdm}{a:Pdm}(h:a∈prtPL l):∃ x∈l,a∈prtP x:=by
 induction l with
 |nil=>simp[prtPL] at h
 |cons x l ih=>
  rw[prtPL] at h;rcases List.mem_append.1 h with h|h
  ·exact⟨x,by simp,h⟩
  ·obtain⟨y,h1,h2⟩:=ih h;exact⟨y,by simp[h1],h2⟩
theorem prtOL_in {l:List Pom}{a:Pom}(h:a∈prtOL l):∃ x∈l,a∈prtO x:=by
 induction l with
 |nil=>simp[prtOL] at h
 |cons x l ih=>
  rw[prtOL] at h;rcases List.mem_append.1 h with h|h
  ·exact⟨x,by simp,h⟩
  ·obtain⟨y,h1,h2⟩:=ih h;exact⟨y,by simp[h1],h2⟩
section
variable {H:Type} {enc:TypeId × Value→H} {W:World} {b0 n:Nat} {sp1:Nat→Bool} {held:Bool} {y:DataW H × List MemPlace} {cs:List Value}
abbrev encSv (s:ByteArray):List Value:=[.string s]
theorem Iy {c:Value}(h:DataW.trod enc Tryz.prog W b0 sp1 held n 3 [c]=some y):∃ a:Int,c= .int .i64 a∧(-9223372036854775808≤a∧a≤9223372036854775807):=by
 obtain⟨a,e0,_,wa⟩:=DataW.trod_int underlying3 h;simp at e0;exact⟨a,e0,i64_bd wa⟩
theorem rd_str (h:DataW.trod enc Tryz.prog W b0 sp1 held n 9 cs=some y):∃ u:ByteArray,cs=encSv u∧u.size≤9223372036854775807:=by
 obtain⟨s,e0,_,ws⟩:=DataW.trod_string underlying9 h;exact⟨s,e0,by unfold maxLen at ws;omega⟩
theorem rd_fi (h:DataW.trod enc Tryz.prog W b0 sp1 held n 127 cs=some y):∃ u:Fi,cs=encFi u∧u.nm.size≤9223372036854775807:=by
 obtain⟨xs,m,rfl,rfl,hlen,hxl,hall⟩:=DataW.trod_struct underlying127 h;rw[cells67] at hlen
 match xs,hxl,cs,hlen with
 |[x0,x1,x2],_,[c0,c1,c2],_=>
  have f0:DataW.trod enc Tryz.prog W b0 sp1 held m 9 [c0]=some x0:=by have:=hall 0 _ rfl;simpa[cells9] using this
  have f1:DataW.trod enc Tryz.prog W b0 sp1 held m 3 [c1]=some x1:=by have:=hall 1 _ rfl;simpa[cells9,cells3] using this
  have f2:DataW.trod enc Tryz.prog W b0 sp1 held m 3 [c2]=some x2:=by have:=hall 2 _ rfl;simpa[cells9,cells3] using this
  obtain⟨s,e1,hs⟩:=rd_str f0;obtain⟨a,rfl,_⟩:=Iy f1;obtain⟨b,rfl,_⟩:=Iy f2;simp at e1;exact⟨⟨s,a,b⟩,by rw[e1],hs⟩
theorem rd_pd:∀ (N:Nat) {n:Nat} {y:DataW H × List MemPlace} {cs:List Value},Rows.uptoBulk y.1≤N→DataW.trod enc Tryz.prog W b0 sp1 held n 25 cs=some y→∃ u:Pdm,cs=encPd u∧(PdM W [] u∧NmP u)∧u.sz≤Rows.uptoBulk y.1
 |0,n,y,cs,hN,_=>by have:=E5 y.1;omega
 |N+1,n,y,cs,hN,h=>by
  obtain⟨xs,m,rfl,rfl,hlen,hxl,hall⟩:=DataW.trod_struct underlying25 h;rw[cells25] at hlen
  match xs,hxl,cs,hlen with
  |[x0,x1,x2,x3,x4],_,[c0,c1,c2,c3,c4],_=>
   have f0:DataW.trod enc Tryz.prog W b0 sp1 held m 3 [c0]=some x0:=by have:=hall 0 _ rfl;simpa[cells3] using this
   have f1:DataW.trod enc Tryz.prog W b0 sp1 held m 9 [c1]=some x1:=by have:=hall 1 _ rfl;simpa[cells3,cells9] using this
   have f2:DataW.trod enc Tryz.prog W b0 sp1 held m 3 [c2]=some x2:=by have:=hall 2 _ rfl;simpa[cells3,cells9] using this
   have f3:DataW.trod enc Tryz.prog W b0 sp1 held m 3 [c3]=some x3:=by have:=hall 3 _ rfl;simpa[cells3,cells9] using this
   have f4:DataW.trod enc Tryz.prog W b0 sp1 held m 23 [c4]=some x4:=by have:=hall 4 _ rfl;simpa[cells3,cells9,cells23] using this
   have hb:Rows.uptoBulk x4.1+4≤Rows.uptoBulk (DataW.agg (H:=H) ([x0,x1,x2,x3,x4].map (·.1))):=by
    have:=E5 x0.1;have:=E5 x1.1;have:=E5 x2.1;have:=E5 x3.1;simp only[Rows.uptoBulk,Rows.uptoBulkAll,List.map_cons,List.map_nil] at *;omega
   have hN':Rows.uptoBulk (DataW.agg (H:=H) ([x0,x1,x2,x3,x4].map (·.1)))≤N+1:=hN;obtain⟨k,rfl,_⟩:=Iy f0;obtain⟨s,e1,hs⟩:=rd_str f1;obtain⟨a,rfl,_⟩:=Iy f2;obtain⟨b,rfl,_⟩:=Iy f3;obtain⟨q,l,cap,e2,ha,hc,hl,hf,hsum⟩:=open_arr (el:=encPd) (φ:=fun u=>PdM W [] u∧NmP u) (szf:=Pdm.sz) underlying23 cells25 qom (fun n cs y hy h=>rd_pd N qom h) f4;simp at e1 e2;refine⟨.mk k s a b q cap l,by rw[e1,e2];rfl,⟨.mk ha fun a h=>(hf a h).1,fun a ha=> ?_⟩,?_⟩
   ·rw[Dv] at ha;rcases List.mem_cons.1 ha with rfl|ha
    ·exact hs
    ·obtain⟨x,hx,hax⟩:=prtPL_in ha;exact(hf x hx).2 a hax
   rw[Ik,show (Pdm.mk k s a b q cap l).subs=l from rfl,szPL_sum];exact Nat.le_trans (by omega:(l.map Pdm.sz).sum+1≤Rows.uptoBulk x4.1+4) hb
theorem rd_po:∀ (N:Nat) {n:Nat} {y:DataW H × List MemPlace} {cs:List Value},Rows.uptoBulk y.1≤N→DataW.trod enc Tryz.prog W b0 sp1 held n 28 cs=some y→∃ u:Pom,cs=encPo u∧(PoM W [] u∧NmO u)∧u.sz≤Rows.uptoBulk y.1
 |0,n,y,cs,hN,_=>by have:=E5 y.1;omega
 |N+1,n,y,cs,hN,h=>by
  obtain⟨xs,m,rfl,rfl,hlen,hxl,hall⟩:=DataW.trod_struct underlying28 h;rw[cells28] at hlen
  match xs,hxl,cs,hlen with
  |[x0,x1,x2,x3,x4],_,[c0,c1,c2,c3,c4,c5,c6,c7,c8],_=>
   have f0:DataW.trod enc Tryz.prog W b0 sp1 held m 3 [c0]=some x0:=by have:=hall 0 _ rfl;simpa[cells3] using this
   have f1:DataW.trod enc Tryz.prog W b0 sp1 held m 25 [c1,c2,c3,c4,c5]=some x1:=by have:=hall 1 _ rfl;simpa[cells3,cells25] using this
   have f2:DataW.trod enc Tryz.prog W b0 sp1 held m 9 [c6]=some x2:=by have:=hall 2 _ rfl;simpa[cells3,cells25,cells9] using this
   have f3:DataW.trod enc Tryz.prog W b0 sp1 held m 3 [c7]=some x3:=by have:=hall 3 _ rfl;simpa[cells3,cells25,cells9] using this
   have f4:DataW.trod enc Tryz.prog W b0 sp1 held m 26 [c8]=some x4:=by have:=hall 4 _ rfl;simpa[cells3,cells25,cells9,cells26] using this
   have hb:Rows.uptoBulk x4.1+Rows.uptoBulk x1.1+3≤Rows.uptoBulk (DataW.agg (H:=H) ([x0,x1,x2,x3,x4].map (·.1))):=by
    have:=E5 x0.1;have:=E5 x2.1;have:=E5 x3.1;simp only[Rows.uptoBulk,Rows.uptoBulkAll,List.map_cons,List.map_nil] at *;omega
   have hN':Rows.uptoBulk (DataW.agg (H:=H) ([x0,x1,x2,x3,x4].map (·.1)))≤N+1:=hN;obtain⟨k,rfl,_⟩:=Iy f0;obtain⟨pm,ep,⟨hp1,hp2⟩,hpz⟩:=rd_pd _ (Nat.le_refl _) f1;obtain⟨s,e1,hs⟩:=rd_str f2;obtain⟨a,rfl,_⟩:=Iy f3;obtain⟨q,l,cap,e2,ha,hc,hl,hf,hsum⟩:=open_arr (el:=encPo) (φ:=fun u=>PoM W [] u∧NmO u) (szf:=Pom.sz) underlying26 cells28 qom (fun n cs y hy h=>rd_po N qom h) f4;simp only[List.cons.injEq,and_true] at e1 e2;refine⟨.mk k pm s a q cap l,?_,⟨.mk hp1 ha fun a h=>(hf a h).1,fun a ha=> ?_⟩,?_⟩
   ·rw[e1,e2];show Value.int .i64 k::([c1,c2,c3,c4,c5]++[.string s, .int .i64 a, .slice q l.length cap])=_;rw[ep];rfl
   ·rw[Dp] at ha;rcases List.mem_cons.1 ha with rfl|ha
    ·exact⟨hs,hp2⟩
    ·obtain⟨x,hx,hax⟩:=prtOL_in ha;exact(hf x hx).2 a hax
   rw[Ef,show (Pom.mk k pm s a q cap l).subs=l from rfl,show (Pom.mk k pm s a q cap l).pr=pm from rfl,szOL_sum];exact Nat.le_trans (by omega:(l.map Pom.sz).sum+pm.sz+1≤Rows.uptoBulk x4.1+Rows.uptoBulk x1.1+3) hb
theorem Id {base:Nat}{r:_root_.Go.Reach}{v:Value}{d:DataW H}{p:List MemPlace}(hv:Value.okWide Tryz.prog W r base 28 v)(h:DataW.Trod enc Tryz.prog W b0 sp1 held 28 v d p):∃ u:Pom,v= .agg (encPo u).toArray∧PoM W [] u∧NmO u∧u.sz≤Rows.uptoBulk d:=by
 obtain⟨cs,rfl,hsz⟩:=okWide_struct underlying28 hv;obtain⟨fuel,hf⟩:=h;obtain⟨l⟩:=cs;obtain⟨u,e,⟨h1,h2⟩,hu⟩:=rd_po _ (Nat.le_refl _) hf;simp only[Value.cells] at e;exact⟨u,by rw[← e],h1,h2,hu⟩
theorem open_fis {base:Nat}{r:_root_.Go.Reach}{v:Value}{d:DataW H}{p:List MemPlace}(hv:Value.okWide Tryz.prog W r base 22 v)(h:DataW.Trod enc Tryz.prog W b0 sp1 held 22 v d p):∃ (q:Option Addr) (l:List Fi) (cap:Nat),v= .slice q l.length cap∧Arr W [] q 3 encFi l∧∀ f∈l,f.nm.size≤9223372036854775807:=by
 obtain⟨a0,len0,cap0,rfl⟩:=okWide_slice underlying22 hv;obtain⟨fuel,hf⟩:=h;obtain⟨q,l,cap,e,a,c,b,f,_⟩:=open_arr (el:=encFi) (φ:=fun u=>u.nm.size≤9223372036854775807) (szf:=fun _=>0) underlying22 cells67 qom (fun n cs y _ h=>by obtain⟨u,h1,h2⟩:=rd_fi h;exact⟨u,h1,h2,Nat.zero_le _⟩) hf;simp only[Value.cells,List.cons.injEq,and_true] at e;exact⟨q,l,cap,e,a,f⟩
end
end Go.Proofs.YtkgfmjanajdibaaGreat
namespace Go.Proofs.YtkgfmjanajdibaaGreat
open _root_.Go.Proofs.Tryz
open Go.RowKit
set_option linter.unusedVariables false
set_option linter.unusedSimpArgs false
set_option linter.unusedSectionVars false
set_option maxRecDepth 100000
abbrev AnsK (Φ:Hd→Bool→Prop) (H:List (Nat × Obj)):Value→List (Nat × Obj)→Prop:=fun u H'=>∃ (h:Hd) (is:Bool) (e:Int),(u= .tuple #[.agg (hdC h).toArray, .bool is, .int .i64 e]∧HdOk h∧(e=0∨(e=12∨e=2)∧h=hd0∧is=false)∧(e=0→Φ h is))∧H'=H
theorem nzx {e:Int}(h:e=12∨e=2):e≠0:=by omega
theorem ansK {w0:World}{H:List (Nat × Obj)}{f:FuncId}{args:Array Value}{Φ:Hd→Bool→Prop}{e:Int}{Ψ:Prop}(h:FSpec Tryz.prog w0 f args H (AskK Φ e Ψ H))(nz:e=12∨e=2):FSpec Tryz.prog w0 f args H (AnsK Φ H):=by
 intro w hO;refine(h w hO).mono ?_;rintro e w' ⟨u,H',he,hO',⟨⟨h1,is,e1,rfl,hh,hR⟩,rfl⟩⟩;rcases hR with ⟨rfl,k⟩|⟨rfl,rfl,rfl,k⟩
 ·exact⟨_,_,he,hO',h1,is,0,⟨rfl,hh, .inl U,fun _=>k⟩,rfl⟩
 ·exact⟨_,_,he,hO',_,_,_,⟨rfl,hh, .inr ⟨nz,rfl,rfl⟩,fun e9=>absurd e9 (nzx nz)⟩,rfl⟩
theorem eqBB (a c:Bool)(w:World):(Op.equal 4 (.bool a) (.bool c)).run Tryz.prog w= .ok (a==c) w:=by cases a<;>cases c<;>kernel_rfl
theorem yl_neB {w0:World}{L:Fm}{H:List (Nat × Obj)}{ty yt:TypeId}{x y:Operand}{a c:Bool}(hx:Ev L x (.bool a))(hy:Ev L y (.bool c)):Yl Tryz.prog w0 (.binOp .neq 4 x y yt) ty L H (.bool (a !=c)):=Bk U fun b w=>by
 have hx':=hx b;have hy':=hy b;simp[exO,execOp,hx',hy',binOp,eqGuard,eqBB,Sem.run_bind,Result.andThen,bne]
theorem nm_op2 {k:Int}{b:Nat}{x y:Pom}(hx:NmO x)(hy:NmO y):NmO (mOp2 k b x y):=fun a ha=>by
 rw[Dp] at ha;rcases List.mem_cons.1 ha with h|h
 ·subst h;refine⟨Nat.zero_le _,fun b hb=> ?_⟩;rw[show (mOp2 k _ x y).pr=pd0 from rfl,Dv] at hb;rcases List.mem_cons.1 hb with h|h
  ·subst h;exact Nat.zero_le _
  ·rw[show pd0.subs=[] from rfl,prtPL] at h;cases h
 ·have h:a∈prtOL [x,y]:=h;obtain⟨z,hz,h7⟩:=prtOL_in h;simp only[List.mem_cons,List.not_mem_nil,or_false] at hz;rcases hz with rfl|rfl
  ·exact hx a h7
  ·exact hy a h7
theorem nm_op1 {k:Int}{b:Nat}{x:Pom}(hx:NmO x):NmO (mOp1 k b x):=fun a ha=>by
 rw[Dp] at ha;rcases List.mem_cons.1 ha with h|h
 ·subst h;refine⟨Nat.zero_le _,fun b hb=> ?_⟩;rw[show (mOp1 k _ x).pr=pd0 from rfl,Dv] at hb;rcases List.mem_cons.1 hb with h|h
  ·subst h;exact Nat.zero_le _
  ·rw[show pd0.subs=[] from rfl,prtPL] at h;cases h
 ·have h:a∈prtOL [x]:=h;obtain⟨z,hz,h7⟩:=prtOL_in h;obtain rfl:=List.mem_singleton.1 hz;exact hx a h7
theorem sz_op2 {k:Int}{b:Nat}{x y:Pom}:(mOp2 k b x y).sz=x.sz+y.sz+2:=by
 rw[Ef];show szOL [x,y]+(szPL []+1)+1=_;simp[szOL,szPL]
theorem sz_op1 {k:Int}{b:Nat}{x:Pom}:(mOp1 k b x).sz=x.sz+2:=by
 rw[Ef];show szOL [x]+(szPL []+1)+1=_;simp[szOL,szPL]
section
variable {k:Nat} {x y l:List Hd}
theorem len0 {α:Type}{x:List α}:((x.length:Nat):Int)=0↔x=[]:=by rw[← List.length_eq_zero_iff];omega
end
theorem Dw (a0:Int)(a1:Int)(a2:ByteArray)(a3:Int)(a4:Int)(a5:Option Addr)(a5n a5c:Nat)(a6:ByteArray)(a7:Int)(a8:Option Addr)(a8n a8c:Nat)(a9:Int)(a10:Int)(a11:ByteArray)(a12:Int)(a13:Int)(a14:Option Addr)(a14n a14c:Nat)(a15:ByteArray)(a16:Int)(a17:Option Addr)(a17n a17c:Nat)(a18:Int)(a19:Int)(a20:ByteArray)(a21:Int)(a22:Int)(a23:Option Addr)(a23n a23c:Nat)(a24:ByteArray)(a25:Int)(a26:Option Addr)(a26n a26c:Nat)(a27:Int)(a28:Int)(a29:ByteArray)(a30:Int)(a31:Int)(a32:Option Addr)(a32n a32c:Nat)(a33:ByteArray)(a34:Int)(a35:Option Addr)(a35n a35c:Nat)(w:World):(Instr.buildSlice 26 4 #[(0, .agg #[.int .i64 a0, .int .i64 a1, .string a2, .int .i64 a3, .int .i64 a4, .slice a5 a5n a5c, .string a6, .int .i64 a7, .slice a8 a8n a8c]),(1, .agg #[.int .i64 a9, .int .i64 a10, .string a11, .int .i64 a12, .int .i64 a13, .slice a14 a14n a14c, .string a15, .int .i64 a16, .slice a17 a17n a17c]),(2, .agg #[.int .i64 a18, .int .i64 a19, .string a20, .int .i64 a21, .int .i64 a22, .slice a23 a23n a23c, .string a24, .int .i64 a25, .slice a26 a26n a26c]),(3, .agg #[.int .i64 a27, .int .i64 a28, .string a29, .int .i64 a30, .int .i64 a31, .slice a32 a32n a32c, .string a33, .int .i64 a34, .slice a35 a35n a35c])]).run Tryz.prog w= .ok (.slice (some ⟨w.heap.size,0,none⟩) 4 4) (w.alloc (Cl [.int .i64 a0, .int .i64 a1, .string a2, .int .i64 a3, .int .i64 a4, .slice a5 a5n a5c, .string a6, .int .i64 a7, .slice a8 a8n a8c, .int .i64 a9, .int .i64 a10, .string a11, .int .i64 a12, .int .i64 a13, .slice a14 a14n a14c, .string a15, .int .i64 a16, .slice a17 a17n a17c, .int .i64 a18, .int .i64 a19, .string a20, .int .i64 a21, .int .i64 a22, .slice a23 a23n a23c, .string a24, .int .i64 a25, .slice a26 a26n a26c, .int .i64 a27, .int .i64 a28, .string a29, .int .i64 a30, .int .i64 a31, .slice a32 a32n a32c, .string a33, .int .i64 a34, .slice a35 a35n a35c] 28)):=by kernel_rfl
section
variable {t:Int} {p q r:Po} {bs:List Nat} {h1 h2 h3:Hd} {i1 i2 i3:Bool}
theorem rep_1 (a:Ans (AskP t 1 p q) h1 i1)(b:Ans (AskP t 2 p q) h2 i2)(c:Ans (AskP t 2 q p) h3 i3):i1=(i2&&i3):=by
 rw[Bool.eq_iff_iff,Bool.and_eq_true,a.sure,b.sure,c.sure]
 constructor
 ·intro k;exact⟨fun g hg=>(show ∀ x,den t q g x→den t p g x from fun x=>((show ∀ x,den t p g x↔den t q g x from k g hg) x).2),fun g hg=>(show ∀ x,den t p g x→den t q g x from fun x=>((show ∀ x,den t p g x↔den t q g x from k g hg) x).1)⟩
 ·rintro⟨k,k2⟩ g hg;show ∀ x,den t p g x↔den t q g x;exact fun x=>⟨(show ∀ x,den t p g x→den t q g x from k2 g hg) x,(show ∀ x,den t q g x→den t p g x from k g hg) x⟩
def Peq (t:Int) (p q:Po):Prop:=∀ g,HdOk g→∀ x,den t p g x↔den t q g x
theorem peq_of (a:Ans (AskP t 1 p q) h1 true):Peq t p q:=fun g hg=>a.true g hg
theorem Peq.ans (a:Peq t p q)(b:Ans (AskP t 1 p q) h1 i1):i1=true:=b.sure.2 fun g hg=>(show ∀ x,den t p g x↔den t q g x from a g hg)
theorem Peq.uni (a:Peq t p q):Peq t (.uni p r) (.uni q r):=fun g hg x=>by
 show (den t p g x∨den t r g x)↔(den t q g x∨den t r g x);rw[a g hg]
theorem Peq.seq (a:Peq t p q):Peq t (.seq p r) (.seq q r):=fun g hg x=>by
 show (∃ m,den t p g m∧den t r m x)↔∃ m,den t q g m∧den t r m x;exact⟨fun ⟨m,h1,h2⟩=>⟨m,(a g hg m).1 h1,h2⟩,fun ⟨m,h1,h2⟩=>⟨m,(a g hg m).2 h1,h2⟩⟩
theorem Peq.seq2 (a:Peq t p q)(hr:r.Fit bs):Peq t (.seq r p) (.seq r q):=fun g hg x=>by
 show (∃ m,den t r g m∧den t p m x)↔∃ m,den t r g m∧den t q m x;exact⟨fun ⟨m,h1,h2⟩=>⟨m,h1,(a m (Ed hr hg h1).1 x).1 h2⟩,fun ⟨m,h1,h2⟩=>⟨m,h1,(a m (Ed hr hg h1).1 x).2 h2⟩⟩
theorem star_to (a:Peq t p q)(hp:p.Fit bs){g x:Hd}(hg:HdOk g)(d:Cl' (den t p) g x):Cl' (den t q) g x:=by
 induction d with
 |base=>exact .base _
 |step e _ ih=>exact .step ((a _ hg _).1 e) (ih (Ed hp hg e).1)
theorem Peq.star (a:Peq t p q)(hp:p.Fit bs)(hq:q.Fit bs):Peq t (.star p) (.star q):=fun g hg x=>⟨fun d=>star_to a hp hg d,fun d=>star_to (fun g hg x=>(a g hg x).symm) hq hg d⟩
end
structure PoQ (w0:World) (H:List (Nat × Obj)) (fl:List Fd) (m:Pom) (p:Po):Prop where
 pi:IsO fl m p
 pf:p.Fit (bsF fl)
 pm:PoM w0 H m
 ps:m.sz≤1000000000
 pz:NmO m
instance:Inhabited Po:=⟨.fil .tru⟩
theorem Mn {w0:World}{H:List (Nat × Obj)}{fl:List Fd}{b:Nat}{m1 m2:Pom}{p1 p2:Po}(hf:Fnd H b (Cl (encPo m1++encPo m2) 28))(h1:PoQ w0 H fl m1 p1)(h2:PoQ w0 H fl m2 p2)(s1:m1.sz≤1048576)(s2:m2.sz≤1048576):PoQ w0 H fl (mOp2 3 b m1 m2) (.uni p1 p2):=⟨.uni U U h1.pi h2.pi,⟨h1.pf,h2.pf⟩,Di hf h1.pm h2.pm,by rw[sz_op2];omega,nm_op2 h1.pz h2.pz⟩
theorem J8 {w0:World}{H:List (Nat × Obj)}{fl:List Fd}{b:Nat}{m1 m2:Pom}{p1 p2:Po}(hf:Fnd H b (Cl (encPo m1++encPo m2) 28))(h1:PoQ w0 H fl m1 p1)(h2:PoQ w0 H fl m2 p2)(s1:m1.sz≤1048576)(s2:m2.sz≤1048576):PoQ w0 H fl (mOp2 4 b m1 m2) (.seq p1 p2):=⟨.seq U U h1.pi h2.pi,⟨h1.pf,h2.pf⟩,Di hf h1.pm h2.pm,by rw[sz_op2];omega,nm_op2 h1.pz h2.pz⟩
theorem Lv {w0:World}{H:List (Nat × Obj)}{fl:List Fd}{b:Nat}{m1:Pom}{p1:Po}(hf:Fnd H b (Cl (encPo m1) 28))(h1:PoQ w0 H fl m1 p1)(s1:m1.sz≤1048576):PoQ w0 H fl (mOp1 5 b m1) (.star p1):=⟨.star U U h1.pi,h1.pf,po_op1 hf h1.pm,by rw[sz_op1];omega,nm_op1 h1.pz⟩
theorem Mo {w0:World}{H:List (Nat × Obj)}{fl:List Fd}{a b c d:Pom}{p q r s:Po}(ha:PoQ w0 H fl a p)(hb:PoQ w0 H fl b q)(hc:PoQ w0 H fl c r)(hd:PoQ w0 H fl d s):∀ i,i<4→PoQ w0 H fl (gd [a,b,c,d] i) (gd [p,q,r,s] i)
 |0,_=>ha
 |1,_=>hb
 |2,_=>hc
 |3,_=>hd
 |i+4,h=>by omega
theorem peq_all {t:Int}{bs:List Nat}{p q r:Po}(a:Peq t p q)(hp:p.Fit bs)(hq:q.Fit bs)(hr:r.Fit bs):∀ i,i<4→Peq t (gd [.uni p r, .seq p r, .seq r p, .star p] i) (gd [.uni q r, .seq q r, .seq r q, .star q] i)
 |0,_=>a.uni
 |1,_=>a.seq
 |2,_=>a.seq2 hr
 |3,_=>a.star hp hq
 |i+4,h=>by omega
theorem Ko {α:Type}{enc:α→List Value}{sz:Nat}{w0:World}{H:List (Nat × Obj)}{n:Nat}{t:TypeId}{l:List α}(he:∀ a,(enc a).length=sz)(hf:Fnd H n (Cl (l.flatMap enc) t)):Arr w0 H (some ⟨n,0,none⟩) sz enc l:=by
 have h:Arr w0 (slH (.blk n l.length []) (l.flatMap enc) t++[]) (slQ (.blk n l.length [])) sz enc l:=Cu (w0:=w0) (e:=t) (X:=[]) (enc:=enc) (l:=l) (d:= .blk n l.length []) he ⟨Nat.le_refl _,(by simp)⟩;have e:slH (.blk n l.length []) (l.flatMap enc) t++[]=[(n,Cl (l.flatMap enc) t)]:=by simp[slH]
 rw[e] at h;exact h.mono (List.singleton_sublist.2 hf)
theorem pos9 (m:Pom):(encPo m).length=9:=by cases m with|mk k p=>rfl
theorem replace_s {w0:World}{H:List (Nat × Obj)}(fi:List Fi)(q:Option Addr)(n c:Nat)(hn:n=fi.length)(hA:Arr w0 H q 3 encFi fi)(hnm:∀ f∈fi,f.nm.size≤9223372036854775807){m1:Pom}(hM1:PoM w0 H m1)(hm1:m1.sz≤1048576)(hz1:NmO m1){m2:Pom}(hM2:PoM w0 H m2)(hm2:m2.sz≤1048576)(hz2:NmO m2){m3:Pom}(hM3:PoM w0 H m3)(hm3:m3.sz≤1048576)(hz3:NmO m3)(tick:Int):
  FSpec Tryz.prog w0 8 #[.slice q n c, .agg (encPo m1).toArray, .agg (encPo m2).toArray, .agg (encPo m3).toArray, .int .i64 tick] H (Still (.bool true) H):=by
 refine Au Tryz.func8 U ntmps8 U (rD tb 2 U (e_ (Nb U cs_) ?_ U));rintro _ _ ⟨n6,rfl,rfl⟩;refine e_ (Nb U cs_) ?_ U;rintro _ _ ⟨n7,rfl,rfl⟩;refine e_ (Nb U cs_) ?_ U;rintro _ _ ⟨n8,rfl,rfl⟩;refine rO tb 5 U (y_ (Ay .nil call11 (fun H' hs=>sanity_s)) (rO tb 7 U (y_ (M8 U isAgg28 sizeOf28 U (by first|exact As)) ?_ U)) U);refine y_ (M8 U isAgg28 sizeOf28 U (by first|exact As)) ?_ U;refine rO tb 1 U (e_ (Aj (.cons (T U) (.cons (T U) (.cons (T U) (.cons An (.cons (T U) .nil))))) call12 (both_s fi q n c hn (hA.mono (by exact sbt)) hnm (hM1.mono (by exact sbt)) qom hz1 (hM2.mono (by exact sbt)) qom hz2 30 tick)) ?_ U);rintro _ _ ⟨b,⟨rfl,hb⟩,rfl⟩
 first|refine A7 (B5 (T U)) U Ac ?_|refine A7 (B0 (T U)) U Ac ?_
 refine rO tb 1 U ?_
 first|refine Av (s:=34) (Aa U) (fun c34=> ?_) (fun c34=> ?_)|refine A6 (s:=34) (Aa U) (fun c34=> ?_) (fun c34=> ?_)
 ·skip
  refine rO tb 16 U (Al U (M6 U) ?_);exact⟨_,⟨rfl,rfl⟩,by exact sbt⟩
 ·skip
  refine rO tb 1 U (A7 (M8 U isAgg28 sizeOf28 U (by first|exact As)) U (Bi U U (Aa U)) ?_);refine A3 (Aj (.cons (T U) (.cons (T U) (.cons An .nil))) call31 (eright_s fi q n c hn (hA.mono (by exact sbt)) hnm (hM3.mono (by exact sbt)) qom hz3 30)) U (Bi U U (Aa U)) ?_;rintro _ _ ⟨b3,⟨rfl,hb3⟩,rfl⟩
  first|refine A7 (B5 (T U)) U (Bi U U (Aa U)) ?_|refine A7 (B0 (T U)) U (Bi U U (Aa U)) ?_
  refine rO tb 3 U ?_
  first|refine Ae (Aa U) (fun c39=> ?_) (fun c39=> ?_)|refine Ai (Aa U) (fun c39=> ?_) (fun c39=> ?_)
  ·skip
   refine rC tb 8 U (Al U (M6 U) ?_);exact⟨_,⟨rfl,rfl⟩,by exact sbt⟩
  ·obtain⟨⟨ht0,ht1⟩,hfi,⟨hd1,p1,hI1,hF1⟩,hd2,p2,hI2,hF2⟩:=hb (by simpa using c34);obtain⟨-,hd3,p3,hI3,hF3⟩:=hb3 (by simpa using c39);have hfl:=hfi.fl;have hAf:=fis_arr hfi hA;have hln:n=(fi.map Fi.fd).length:=hn.trans (List.length_map _).symm;obtain⟨fl,hfe⟩:∃ fl,fi.map Fi.fd=fl:=⟨_,rfl⟩;rw[hfe] at hI1 hF1 hI2 hF2 hI3 hF3 hfl hAf hln;subst hln;refine rC tb 5 U (y_ (M8 U isAgg28 sizeOf28 U (by first|exact As)) ?_ U);refine y_ (M8 U isAgg28 sizeOf28 U (by first|exact As)) ?_ U;refine rO tb 1 U (e_ (Aj (qe4 U U U U) call13 (ansK (Dl hfl q c (hAf.mono (by exact sbt)) tick hI1 hF1 (hM1.mono (by exact sbt)) hI2 hF2 (hM2.mono (by exact sbt))) (.inl U))) ?_ U);rintro _ _ ⟨h1,is1,e1,⟨rfl,o1,z1,k1⟩,rfl⟩;refine rO tb 4 U (e_ (Ah zeroValue32 cs_) ?_ U);rintro _ _ ⟨n12,rfl,rfl⟩;refine e_ (Na U U sizeOf32 .agg (Be _) (Ak o1) (by repeat (first|exact Upd.h|apply Upd.t|apply Bh)) (by rw[Ak o1];rfl)) ?_ U;rintro _ _ ⟨rfl,rfl⟩;refine kO tb 4 [0,4,6,7,8,11,13,14] rfl U (rG tb 3 U (y_ (M8 U isAgg28 sizeOf28 U (by first|exact As)) ?_ U));refine y_ (M8 U isAgg28 sizeOf28 U (by first|exact As)) ?_ U;refine rO tb 1 U (e_ (Aj (qe4 U U U U) call14 (ansK (Fz hfl q c (hAf.mono (by exact sbt)) tick hI1 hF1 (hM1.mono (by exact sbt)) hI2 hF2 (hM2.mono (by exact sbt))) (.inl U))) ?_ U);rintro _ _ ⟨h2,is2,e2,⟨rfl,o2,z2,k2⟩,rfl⟩;refine rO tb 4 U (e_ (Ah zeroValue32 cs_) ?_ U);rintro _ _ ⟨n15,rfl,rfl⟩;refine e_ (Na U U sizeOf32 .agg (Be _) (Ak o2) (by repeat (first|exact Upd.h|apply Upd.t|apply Bh)) (by rw[Ak o2];rfl)) ?_ U;rintro _ _ ⟨rfl,rfl⟩;refine rO tb 7 U (y_ (M8 U isAgg28 sizeOf28 U (by first|exact As)) ?_ U);refine y_ (M8 U isAgg28 sizeOf28 U (by first|exact As)) ?_ U;refine rO tb 1 U (e_ (Aj (qe4 U U U U) call14 (ansK (Fz hfl q c (hAf.mono (by exact sbt)) tick hI2 hF2 (hM2.mono (by exact sbt)) hI1 hF1 (hM1.mono (by exact sbt))) (.inl U))) ?_ U);rintro _ _ ⟨h3,is3,e3,⟨rfl,o3,z3,k3⟩,rfl⟩;refine rO tb 4 U (e_ (Ah zeroValue32 cs_) ?_ U);rintro _ _ ⟨n18,rfl,rfl⟩;refine e_ (Na U U sizeOf32 .agg (Be _) (Ak o3) (by repeat (first|exact Upd.h|apply Upd.t|apply Bh)) (by rw[Ak o3];rfl)) ?_ U;rintro _ _ ⟨rfl,rfl⟩;refine kO tb 4 [0,4,6,7,8,11,13,14,16,17,19,20] rfl U (rG tb 5 U (y_ (A8 (T U) (T U) qom) ?_ U));refine rO tb 1 U (y_ (A8 (T U) (T U) qom) ?_ U);refine rO tb 3 U ?_
   first|refine Ae (Aa U) (fun c73=> ?_) (fun c73=> ?_)|refine Ai (Aa U) (fun c73=> ?_) (fun c73=> ?_)
   ·skip
    refine rC tb 8 U (Al U (M6 U) ?_);exact⟨_,⟨rfl,rfl⟩,by exact sbt⟩
   ·have he1:e1=0:=by omega
    have he2:e2=0:=by omega
    have he3:e3=0:=by omega
    have hr1:=rep_1 (k1 he1) (k2 he2) (k3 he3);refine rC tb 8 U ?_
    first|refine Av (s:=77) (Aa U) (fun c77=> ?_) (fun c77=> ?_)|refine A6 (s:=77) (Aa U) (fun c77=> ?_) (fun c77=> ?_)
    ·have hi9:is2=true:=c77;refine rO tb 2 U (y_ (yl_neB (T U) (T U)) (rO tb 2 U ?_) U)
     first|refine Ae (Aa U) (fun c80=> ?_) (fun c80=> ?_)|refine Ai (Aa U) (fun c80=> ?_) (fun c80=> ?_)
     ·exact absurd c80 (by rw[hr1,hi9];simp)
     ·skip
      refine rC tb 6 U ?_
      first|refine A7 (B5 (T U)) U Ac ?_|refine A7 (B0 (T U)) U Ac ?_
      refine rO tb 2 U ?_
      first|refine Ae (Aa U) (fun c82=> ?_) (fun c82=> ?_)|refine Ai (Aa U) (fun c82=> ?_) (fun c82=> ?_)
      ·skip
       refine rC tb 8 U (Al U (M6 U) ?_);exact⟨_,⟨rfl,rfl⟩,by exact sbt⟩
      ·obtain rfl:is1=true:=by simpa using c82
       skip
       refine rC tb 3 U (Bp 10 [(0,true),(1,true),(3,true),(4,true),(6,true),(7,true),(9,true),(2,false),(5,false),(8,false)] _ mixd qkr sb0 ?_ By);refine o_y U (M8 U isAgg28 sizeOf28 U (by first|exact As)) ?_ U Ac;refine o_y U (M8 U isAgg28 sizeOf28 U (by first|exact As)) ?_ U Ac;refine o_y U (M8 U isAgg28 sizeOf28 U (by first|exact As)) ?_ U Ac;refine o_y U (M8 U isAgg28 sizeOf28 U (by first|exact As)) ?_ U Ac;refine o_y U (M8 U isAgg28 sizeOf28 U (by first|exact As)) ?_ U Ac;refine o_y U (M8 U isAgg28 sizeOf28 U (by first|exact As)) ?_ U Ac;refine o_y U (M8 U isAgg28 sizeOf28 U (by first|exact As)) ?_ U Ac;refine o_e U (Aj (qe2 U U) call32 (Gb m1 m3)) ?_ U Ac;rintro _ _ ⟨n86,rfl,rfl⟩;refine⟨sbt,(o_e U (Aj (qe2 U U) call33 (El m1 m3)) ?_ U Ac)⟩;rintro _ _ ⟨n89,rfl,rfl⟩;refine⟨sbt,(o_e U (Aj (qe2 U U) call33 (El m3 m1)) ?_ U Ac)⟩;rintro _ _ ⟨n92,rfl,rfl⟩;refine⟨sbt,(Bd U (e_ (Aj (qe1 U) call34 (Km m1)) ?_ U))⟩;rintro _ _ ⟨n94,rfl,rfl⟩;refine e_ (Bv (.cons (T U) (.cons (T U) (.cons (T U) (.cons (T U) .nil)))) (Dw _ _ _ _ _ _ _ _ _ _ _ _ _ _ _ _ _ _ _ _ _ _ _ _ _ _ _ _ _ _ _ _ _ _ _ _ _ _ _ _ _ _ _ _ _ _ _ _ _ _ _ _)) ?_ U;rintro _ _ ⟨n95,rfl,rfl⟩;refine kO tb 3 [0,4,7,8,11,21] rfl U (rG tb 1 U (Bp 10 [(0,true),(1,true),(3,true),(4,true),(6,true),(7,true),(9,true),(2,false),(5,false),(8,false)] _ mixd qkr sb0 ?_ By));refine o_y U (M8 U isAgg28 sizeOf28 U (by first|exact As)) ?_ U Ac;refine o_y U (M8 U isAgg28 sizeOf28 U (by first|exact As)) ?_ U Ac;refine o_y U (M8 U isAgg28 sizeOf28 U (by first|exact As)) ?_ U Ac;refine o_y U (M8 U isAgg28 sizeOf28 U (by first|exact As)) ?_ U Ac;refine o_y U (M8 U isAgg28 sizeOf28 U (by first|exact As)) ?_ U Ac;refine o_y U (M8 U isAgg28 sizeOf28 U (by first|exact As)) ?_ U Ac;refine o_y U (M8 U isAgg28 sizeOf28 U (by first|exact As)) ?_ U Ac;refine o_e U (Aj (qe2 U U) call32 (Gb m2 m3)) ?_ U Ac;rintro _ _ ⟨n98,rfl,rfl⟩;refine⟨sbt,(o_e U (Aj (qe2 U U) call33 (El m2 m3)) ?_ U Ac)⟩;rintro _ _ ⟨n101,rfl,rfl⟩;refine⟨sbt,(o_e U (Aj (qe2 U U) call33 (El m3 m2)) ?_ U Ac)⟩;rintro _ _ ⟨n104,rfl,rfl⟩;refine⟨sbt,(Bd U (e_ (Aj (qe1 U) call34 (Km m2)) ?_ U))⟩;rintro _ _ ⟨n106,rfl,rfl⟩;refine e_ (Bv (.cons (T U) (.cons (T U) (.cons (T U) (.cons (T U) .nil)))) (Dw _ _ _ _ _ _ _ _ _ _ _ _ _ _ _ _ _ _ _ _ _ _ _ _ _ _ _ _ _ _ _ _ _ _ _ _ _ _ _ _ _ _ _ _ _ _ _ _ _ _ _ _)) ?_ U;rintro _ _ ⟨n107,rfl,rfl⟩;refine rO tb 10 U ?_;refine Bl (X:=Nat) (V:=fun i=>[(23, .int .i64 (i:Nat))]) (C:=[(0,_),(4,_),(11,_),(21,_),(22,_)]) (G:=fun i=>((n107,Cl ([mOp2 3 n98 m2 m3,mOp2 4 n101 m2 m3,mOp2 4 n104 m3 m2,mOp1 5 n106 m2].flatMap encPo) 28)::(n106,Cl (encPo m2) 28)::(n104,Cl (encPo m3++encPo m2) 28)::(n101,Cl (encPo m2++encPo m3) 28)::(n98,Cl (encPo m2++encPo m3) 28)::(n95,Cl ([mOp2 3 n86 m1 m3,mOp2 4 n89 m1 m3,mOp2 4 n92 m3 m1,mOp1 5 n94 m1].flatMap encPo) 28)::(n94,Cl (encPo m1) 28)::(n92,Cl (encPo m3++encPo m1) 28)::(n89,Cl (encPo m1++encPo m3) 28)::(n86,Cl (encPo m1++encPo m3) 28)::H)) (φ:=fun i=>i≤4) (μ:=fun i=>4 - i) (x0:=0) ?_ ⟨Aa U,Aa U,Aa U,Aa U,Aa U,trivial⟩ ⟨atd,trivial⟩ (by exact sbt) ?_
       ·exact Nat.zero_le _
       rintro i hi4;have hq1:=(show PoQ w0 ((n107,Cl ([mOp2 3 n98 m2 m3,mOp2 4 n101 m2 m3,mOp2 4 n104 m3 m2,mOp1 5 n106 m2].flatMap encPo) 28)::(n106,Cl (encPo m2) 28)::(n104,Cl (encPo m3++encPo m2) 28)::(n101,Cl (encPo m2++encPo m3) 28)::(n98,Cl (encPo m2++encPo m3) 28)::(n95,Cl ([mOp2 3 n86 m1 m3,mOp2 4 n89 m1 m3,mOp2 4 n92 m3 m1,mOp1 5 n94 m1].flatMap encPo) 28)::(n94,Cl (encPo m1) 28)::(n92,Cl (encPo m3++encPo m1) 28)::(n89,Cl (encPo m1++encPo m3) 28)::(n86,Cl (encPo m1++encPo m3) 28)::H) fl m1 p1 from ⟨hI1,hF1,hM1.mono (by exact sbt),by omega,hz1⟩);have hq2:=(show PoQ w0 ((n107,Cl ([mOp2 3 n98 m2 m3,mOp2 4 n101 m2 m3,mOp2 4 n104 m3 m2,mOp1 5 n106 m2].flatMap encPo) 28)::(n106,Cl (encPo m2) 28)::(n104,Cl (encPo m3++encPo m2) 28)::(n101,Cl (encPo m2++encPo m3) 28)::(n98,Cl (encPo m2++encPo m3) 28)::(n95,Cl ([mOp2 3 n86 m1 m3,mOp2 4 n89 m1 m3,mOp2 4 n92 m3 m1,mOp1 5 n94 m1].flatMap encPo) 28)::(n94,Cl (encPo m1) 28)::(n92,Cl (encPo m3++encPo m1) 28)::(n89,Cl (encPo m1++encPo m3) 28)::(n86,Cl (encPo m1++encPo m3) 28)::H) fl m2 p2 from ⟨hI2,hF2,hM2.mono (by exact sbt),by omega,hz2⟩);have hq3:=(show PoQ w0 ((n107,Cl ([mOp2 3 n98 m2 m3,mOp2 4 n101 m2 m3,mOp2 4 n104 m3 m2,mOp1 5 n106 m2].flatMap encPo) 28)::(n106,Cl (encPo m2) 28)::(n104,Cl (encPo m3++encPo m2) 28)::(n101,Cl (encPo m2++encPo m3) 28)::(n98,Cl (encPo m2++encPo m3) 28)::(n95,Cl ([mOp2 3 n86 m1 m3,mOp2 4 n89 m1 m3,mOp2 4 n92 m3 m1,mOp1 5 n94 m1].flatMap encPo) 28)::(n94,Cl (encPo m1) 28)::(n92,Cl (encPo m3++encPo m1) 28)::(n89,Cl (encPo m1++encPo m3) 28)::(n86,Cl (encPo m1++encPo m3) 28)::H) fl m3 p3 from ⟨hI3,hF3,hM3.mono (by exact sbt),by omega,hz3⟩);have hLq:∀ i,i<4→PoQ w0 ((n107,Cl ([mOp2 3 n98 m2 m3,mOp2 4 n101 m2 m3,mOp2 4 n104 m3 m2,mOp1 5 n106 m2].flatMap encPo) 28)::(n106,Cl (encPo m2) 28)::(n104,Cl (encPo m3++encPo m2) 28)::(n101,Cl (encPo m2++encPo m3) 28)::(n98,Cl (encPo m2++encPo m3) 28)::(n95,Cl ([mOp2 3 n86 m1 m3,mOp2 4 n89 m1 m3,mOp2 4 n92 m3 m1,mOp1 5 n94 m1].flatMap encPo) 28)::(n94,Cl (encPo m1) 28)::(n92,Cl (encPo m3++encPo m1) 28)::(n89,Cl (encPo m1++encPo m3) 28)::(n86,Cl (encPo m1++encPo m3) 28)::H) fl (gd [mOp2 3 n86 m1 m3,mOp2 4 n89 m1 m3,mOp2 4 n92 m3 m1,mOp1 5 n94 m1] i) (gd ([.uni p1 p3, .seq p1 p3, .seq p3 p1, .star p1]:List Po) i):=Mo (Mn (by repeat (first|exact Am|refine Aq ?_)) hq1 hq3 hm1 hm3) (J8 (by repeat (first|exact Am|refine Aq ?_)) hq1 hq3 hm1 hm3) (J8 (by repeat (first|exact Am|refine Aq ?_)) hq3 hq1 hm3 hm1) (Lv (by repeat (first|exact Am|refine Aq ?_)) hq1 hm1);have hRq:∀ i,i<4→PoQ w0 ((n107,Cl ([mOp2 3 n98 m2 m3,mOp2 4 n101 m2 m3,mOp2 4 n104 m3 m2,mOp1 5 n106 m2].flatMap encPo) 28)::(n106,Cl (encPo m2) 28)::(n104,Cl (encPo m3++encPo m2) 28)::(n101,Cl (encPo m2++encPo m3) 28)::(n98,Cl (encPo m2++encPo m3) 28)::(n95,Cl ([mOp2 3 n86 m1 m3,mOp2 4 n89 m1 m3,mOp2 4 n92 m3 m1,mOp1 5 n94 m1].flatMap encPo) 28)::(n94,Cl (encPo m1) 28)::(n92,Cl (encPo m3++encPo m1) 28)::(n89,Cl (encPo m1++encPo m3) 28)::(n86,Cl (encPo m1++encPo m3) 28)::H) fl (gd [mOp2 3 n98 m2 m3,mOp2 4 n101 m2 m3,mOp2 4 n104 m3 m2,mOp1 5 n106 m2] i) (gd ([.uni p2 p3, .seq p2 p3, .seq p3 p2, .star p2]:List Po) i):=Mo (Mn (by repeat (first|exact Am|refine Aq ?_)) hq2 hq3 hm2 hm3) (J8 (by repeat (first|exact Am|refine Aq ?_)) hq2 hq3 hm2 hm3) (J8 (by repeat (first|exact Am|refine Aq ?_)) hq3 hq2 hm3 hm2) (Lv (by repeat (first|exact Am|refine Aq ?_)) hq2 hm2);have hPe:=peq_all (peq_of (k1 he1)) hF1 hF2 hF3;have hLA:Arr w0 ((n107,Cl ([mOp2 3 n98 m2 m3,mOp2 4 n101 m2 m3,mOp2 4 n104 m3 m2,mOp1 5 n106 m2].flatMap encPo) 28)::(n106,Cl (encPo m2) 28)::(n104,Cl (encPo m3++encPo m2) 28)::(n101,Cl (encPo m2++encPo m3) 28)::(n98,Cl (encPo m2++encPo m3) 28)::(n95,Cl ([mOp2 3 n86 m1 m3,mOp2 4 n89 m1 m3,mOp2 4 n92 m3 m1,mOp1 5 n94 m1].flatMap encPo) 28)::(n94,Cl (encPo m1) 28)::(n92,Cl (encPo m3++encPo m1) 28)::(n89,Cl (encPo m1++encPo m3) 28)::(n86,Cl (encPo m1++encPo m3) 28)::H) (some ⟨n95,0,none⟩) 9 encPo [mOp2 3 n86 m1 m3,mOp2 4 n89 m1 m3,mOp2 4 n92 m3 m1,mOp1 5 n94 m1]:=Ko (l:=[mOp2 3 n86 m1 m3,mOp2 4 n89 m1 m3,mOp2 4 n92 m3 m1,mOp1 5 n94 m1]) pos9 (by repeat (first|exact Am|refine Aq ?_));have hRA:Arr w0 ((n107,Cl ([mOp2 3 n98 m2 m3,mOp2 4 n101 m2 m3,mOp2 4 n104 m3 m2,mOp1 5 n106 m2].flatMap encPo) 28)::(n106,Cl (encPo m2) 28)::(n104,Cl (encPo m3++encPo m2) 28)::(n101,Cl (encPo m2++encPo m3) 28)::(n98,Cl (encPo m2++encPo m3) 28)::(n95,Cl ([mOp2 3 n86 m1 m3,mOp2 4 n89 m1 m3,mOp2 4 n92 m3 m1,mOp1 5 n94 m1].flatMap encPo) 28)::(n94,Cl (encPo m1) 28)::(n92,Cl (encPo m3++encPo m1) 28)::(n89,Cl (encPo m1++encPo m3) 28)::(n86,Cl (encPo m1++encPo m3) 28)::H) (some ⟨n107,0,none⟩) 9 encPo [mOp2 3 n98 m2 m3,mOp2 4 n101 m2 m3,mOp2 4 n104 m3 m2,mOp1 5 n106 m2]:=Ko (l:=[mOp2 3 n98 m2 m3,mOp2 4 n101 m2 m3,mOp2 4 n104 m3 m2,mOp1 5 n106 m2]) pos9 (by repeat (first|exact Am|refine Aq ?_));refine rD tb 9 U ?_
       first|refine Ae (Aa U) (fun c111=> ?_) (fun c111=> ?_)|refine Ai (Aa U) (fun c111=> ?_) (fun c111=> ?_)
       ·have hi2:i<4:=by have h9:((i:Nat):Int)<4:=c111;omega
        refine rC tb 6 U (Bp 10 [(0,true),(1,true),(2,true),(3,true),(4,true),(5,true),(6,true),(7,true),(8,true),(9,true)] _ mixd qkr sb0 ?_ By);refine rP tb 3 U (o_y U (M9 U U runUnderlying26 sizeOf28 qom (by first|exact rfl|exact hLA.b (i:=i) hi2|exact hRA.b (i:=i) hi2)) ?_ U Ac);refine o_y U (M8 U isAgg28 sizeOf28 U (by first|exact hLA.cs (i:=i) hi2|exact As)) ?_ U Ac;refine rP tb 2 U (o_y U (M9 U U runUnderlying26 sizeOf28 qom (by first|exact rfl|exact hLA.b (i:=i) hi2|exact hRA.b (i:=i) hi2)) ?_ U Ac);refine o_y U (M8 U isAgg28 sizeOf28 U (by first|exact hRA.cs (i:=i) hi2|exact As)) ?_ U Ac;refine rP tb 1 U (Bd U (e_ (Aj (.cons (T U) (.cons (T U) (.cons (T U) (.cons An (.cons (T U) .nil))))) call12 (both_s fi q fl.length c hn (hA.mono (by exact sbt)) hnm (hLq i hi2).pm (hLq i hi2).ps (hLq i hi2).pz (hRq i hi2).pm (hRq i hi2).ps (hRq i hi2).pz 62 tick)) ?_ U));rintro _ _ ⟨b7,⟨rfl,hb7⟩,rfl⟩
        first|refine A7 (B5 (T U)) U Ac ?_|refine A7 (B0 (T U)) U Ac ?_
        refine rO tb 2 U ?_
        first|refine Ae (Aa U) (fun c125=> ?_) (fun c125=> ?_)|refine Ai (Aa U) (fun c125=> ?_) (fun c125=> ?_)
        ·refine rC tb 6 U (y_ (A8 (T U) An qom) ?_ U);refine rO tb 2 U ?_;refine A5 (i+1) ?_ ?_ ⟨atd,trivial⟩ ⟨Aa U,Aa U,Aa U,Aa U,Aa U,trivial⟩ ?_
         ·exact hi2
         ·first|omega|(simp only[];omega)
         ·exact sbt
        ·refine rC tb 2 U ?_;refine Ei (X:=Bool × Int) (V:=fun ⟨is7,e7⟩=>[(25, .bool is7),(26, .int .i64 e7)]) (C:=[(0,_),(4,_),(11,_),(21,_),(22,_),(23,_)]) (φ:=fun ⟨is7,e7⟩=>e7=0→is7=true) ⟨Aa rfl,Aa rfl,Aa rfl,Aa rfl,Aa rfl,Aa rfl,trivial⟩ ?_ ?_
         ·refine rD tb 0 U (Hl 19 _ mixd qkr sb0 ?_ By);refine x_y (i:=0) U qkr (Bz (T U)) ?_ U Ac;refine x_y (i:=1) U qkr (Bz (T U)) ?_ U Ac;refine x_y (i:=2) U qkr (Bz (T U)) ?_ U Ac;refine x_y (i:=3) U qkr (M9 U U runUnderlying26 sizeOf28 qom (by first|exact rfl|exact hLA.b (i:=i) hi2|exact hRA.b (i:=i) hi2)) ?_ U Ac;refine x_y (i:=4) U qkr (M8 U isAgg28 sizeOf28 U (by first|exact(hLA.mono (by exact sbt)).cs (i:=i) hi2|exact As)) ?_ U Ac;refine x_y (i:=5) U qkr (Bz (T U)) ?_ U Ac;refine x_y (i:=6) U qkr (Bz (T U)) ?_ U Ac;refine x_y (i:=7) U qkr (M9 U U runUnderlying26 sizeOf28 qom (by first|exact rfl|exact hLA.b (i:=i) hi2|exact hRA.b (i:=i) hi2)) ?_ U Ac;refine x_y (i:=8) U qkr (M8 U isAgg28 sizeOf28 U (by first|exact(hRA.mono (by exact sbt)).cs (i:=i) hi2|exact As)) ?_ U Ac;refine x_y (i:=9) U qkr (Bz (T U)) ?_ U Ac;refine Gh (i:=10) (j:=15) qkr qkr ?_ ?_
          ·refine Cb U (Aj (qe4 U U U U) call13 (ansK (Dl hfl q c (hAf.mono (by exact sbt)) tick (hLq i hi2).pi (hLq i hi2).pf ((hLq i hi2).pm.mono (by exact sbt)) (hRq i hi2).pi (hRq i hi2).pf ((hRq i hi2).pm.mono (by exact sbt))) (.inl U))) ?_ U Ac;rintro _ _ ⟨h7,is7,e7,⟨rfl,o7,z7,k7⟩,rfl⟩;refine⟨sbt,(x_y (i:=11) U qkr (Bz (T U)) ?_ U Ac)⟩;refine x_y (i:=12) U qkr (Ax (T U) U) ?_ U Ac;refine x_y (i:=13) U qkr (Ax (T U) U) ?_ U Ac;refine x_y (i:=14) U qkr (Ax (T U) U) ?_ U Ac;refine Ce (i:=15) qkr qkr ?_;refine Cb U (Ah zeroValue32 cs_) ?_ U Ac;rintro _ _ ⟨n24,rfl,rfl⟩;refine⟨sbt,(Ce (i:=16) qkr qkr ?_)⟩;refine Cb U (Na U U sizeOf32 .agg (Be _) (Ak o7) (by repeat (first|exact Upd.h|apply Upd.t|apply Bh)) (by rw[Ak o7];rfl)) ?_ U Ac;rintro _ _ ⟨rfl,rfl⟩;refine⟨sbt,(x_y (i:=17) U qkr (Bf (T U)) ?_ U Ac)⟩;refine x_y (i:=18) U qkr (Bf (T U)) ?_ U Ac;refine Dr qkr U ?_;refine rO tb 1 U ?_;refine Bc ((_,_)) ?_ ⟨atd,atd,trivial⟩ ⟨Aa U,Aa U,Aa U,Aa U,Aa U,Aa U,trivial⟩ sbt;exact fun e=>(hPe i hi2).ans (k7 e)
          ·refine Cb U (Ah zeroValue32 cs_) ?_ U Ac;rintro _ _ ⟨n24,rfl,rfl⟩;refine⟨sbt,(Ce (i:=10) qkr qkr ?_)⟩;refine Cb U (Aj (qe4 U U U U) call13 (ansK (Dl hfl q c (hAf.mono (by exact sbt)) tick (hLq i hi2).pi (hLq i hi2).pf ((hLq i hi2).pm.mono (by exact sbt)) (hRq i hi2).pi (hRq i hi2).pf ((hRq i hi2).pm.mono (by exact sbt))) (.inl U))) ?_ U Ac;rintro _ _ ⟨h7,is7,e7,⟨rfl,o7,z7,k7⟩,rfl⟩;refine⟨sbt,(x_y (i:=11) U qkr (Bz (T U)) ?_ U Ac)⟩;refine x_y (i:=12) U qkr (Ax (T U) U) ?_ U Ac;refine x_y (i:=13) U qkr (Ax (T U) U) ?_ U Ac;refine x_y (i:=14) U qkr (Ax (T U) U) ?_ U Ac;refine Ce (i:=16) qkr qkr ?_;refine Cb U (Na U U sizeOf32 .agg (Be _) (Ak o7) (by repeat (first|exact Upd.h|apply Upd.t|apply Bh)) (by rw[Ak o7];rfl)) ?_ U Ac;rintro _ _ ⟨rfl,rfl⟩;refine⟨sbt,(x_y (i:=17) U qkr (Bf (T U)) ?_ U Ac)⟩;refine x_y (i:=18) U qkr (Bf (T U)) ?_ U Ac;refine Dr qkr U ?_;refine rO tb 1 U ?_;refine Bc ((_,_)) ?_ ⟨atd,atd,trivial⟩ ⟨Aa U,Aa U,Aa U,Aa U,Aa U,Aa U,trivial⟩ sbt;exact fun e=>(hPe i hi2).ans (k7 e)
         rintro⟨is7,e7⟩ hz7;refine rC tb 5 U ?_
         first|refine Av (s:=143) (Aa U) (fun c143=> ?_) (fun c143=> ?_)|refine A6 (s:=143) (Aa U) (fun c143=> ?_) (fun c143=> ?_)
         ·have h97:is7=true:=hz7 (by simpa using c143);refine rO tb 1 U ?_
          first|refine A7 (B5 (T U)) U (Bi U U (Aa U)) ?_|refine A7 (B0 (T U)) U (Bi U U (Aa U)) ?_
          refine rO tb 3 U ?_
          first|refine Ae (Aa U) (fun c146=> ?_) (fun c146=> ?_)|refine Ai (Aa U) (fun c146=> ?_) (fun c146=> ?_)
          ·exact absurd c146 (by rw[h97];simp)
          ·skip
           refine rC tb 5 U (y_ (A8 (T U) An qom) ?_ U);refine rO tb 2 U ?_;refine A5 (i+1) ?_ ?_ ⟨atd,trivial⟩ ⟨Aa U,Aa U,Aa U,Aa U,Aa U,trivial⟩ ?_
           ·exact hi2
           ·first|omega|(simp only[];omega)
           ·exact sbt
         ·skip
          refine rO tb 11 U (y_ (A8 (T U) An qom) ?_ U);refine rO tb 2 U ?_;refine A5 (i+1) ?_ ?_ ⟨atd,trivial⟩ ⟨Aa U,Aa U,Aa U,Aa U,Aa U,trivial⟩ ?_
          ·exact hi2
          ·first|omega|(simp only[];omega)
          ·exact sbt
       ·skip
        refine rC tb 2 U (Az (rX tb 9 U (Al U (M6 U) ?_)));exact⟨_,⟨rfl,rfl⟩,by exact sbt⟩
    ·have hi9:is2=false:=by simpa using c77
     refine rO tb 2 U (y_ (yl_neB (T U) (T U)) (rO tb 2 U ?_) U)
     first|refine Ae (Aa U) (fun c80=> ?_) (fun c80=> ?_)|refine Ai (Aa U) (fun c80=> ?_) (fun c80=> ?_)
     ·exact absurd c80 (by rw[hr1,hi9];simp)
     ·skip
      refine rC tb 6 U ?_
      first|refine A7 (B5 (T U)) U Ac ?_|refine A7 (B0 (T U)) U Ac ?_
      refine rO tb 2 U ?_
      first|refine Ae (Aa U) (fun c82=> ?_) (fun c82=> ?_)|refine Ai (Aa U) (fun c82=> ?_) (fun c82=> ?_)
      ·skip
       refine rC tb 8 U (Al U (M6 U) ?_);exact⟨_,⟨rfl,rfl⟩,by exact sbt⟩
      ·obtain rfl:is1=true:=by simpa using c82
       skip
       refine rC tb 3 U (Bp 10 [(0,true),(1,true),(3,true),(4,true),(6,true),(7,true),(9,true),(2,false),(5,false),(8,false)] _ mixd qkr sb0 ?_ By);refine o_y U (M8 U isAgg28 sizeOf28 U (by first|exact As)) ?_ U Ac;refine o_y U (M8 U isAgg28 sizeOf28 U (by first|exact As)) ?_ U Ac;refine o_y U (M8 U isAgg28 sizeOf28 U (by first|exact As)) ?_ U Ac;refine o_y U (M8 U isAgg28 sizeOf28 U (by first|exact As)) ?_ U Ac;refine o_y U (M8 U isAgg28 sizeOf28 U (by first|exact As)) ?_ U Ac;refine o_y U (M8 U isAgg28 sizeOf28 U (by first|exact As)) ?_ U Ac;refine o_y U (M8 U isAgg28 sizeOf28 U (by first|exact As)) ?_ U Ac;refine o_e U (Aj (qe2 U U) call32 (Gb m1 m3)) ?_ U Ac;rintro _ _ ⟨n86,rfl,rfl⟩;refine⟨sbt,(o_e U (Aj (qe2 U U) call33 (El m1 m3)) ?_ U Ac)⟩;rintro _ _ ⟨n89,rfl,rfl⟩;refine⟨sbt,(o_e U (Aj (qe2 U U) call33 (El m3 m1)) ?_ U Ac)⟩;rintro _ _ ⟨n92,rfl,rfl⟩;refine⟨sbt,(Bd U (e_ (Aj (qe1 U) call34 (Km m1)) ?_ U))⟩;rintro _ _ ⟨n94,rfl,rfl⟩;refine e_ (Bv (.cons (T U) (.cons (T U) (.cons (T U) (.cons (T U) .nil)))) (Dw _ _ _ _ _ _ _ _ _ _ _ _ _ _ _ _ _ _ _ _ _ _ _ _ _ _ _ _ _ _ _ _ _ _ _ _ _ _ _ _ _ _ _ _ _ _ _ _ _ _ _ _)) ?_ U;rintro _ _ ⟨n95,rfl,rfl⟩;refine kO tb 3 [0,4,7,8,11,21] rfl U (rG tb 1 U (Bp 10 [(0,true),(1,true),(3,true),(4,true),(6,true),(7,true),(9,true),(2,false),(5,false),(8,false)] _ mixd qkr sb0 ?_ By));refine o_y U (M8 U isAgg28 sizeOf28 U (by first|exact As)) ?_ U Ac;refine o_y U (M8 U isAgg28 sizeOf28 U (by first|exact As)) ?_ U Ac;refine o_y U (M8 U isAgg28 sizeOf28 U (by first|exact As)) ?_ U Ac;refine o_y U (M8 U isAgg28 sizeOf28 U (by first|exact As)) ?_ U Ac;refine o_y U (M8 U isAgg28 sizeOf28 U (by first|exact As)) ?_ U Ac;refine o_y U (M8 U isAgg28 sizeOf28 U (by first|exact As)) ?_ U Ac;refine o_y U (M8 U isAgg28 sizeOf28 U (by first|exact As)) ?_ U Ac;refine o_e U (Aj (qe2 U U) call32 (Gb m2 m3)) ?_ U Ac;rintro _ _ ⟨n98,rfl,rfl⟩;refine⟨sbt,(o_e U (Aj (qe2 U U) call33 (El m2 m3)) ?_ U Ac)⟩;rintro _ _ ⟨n101,rfl,rfl⟩;refine⟨sbt,(o_e U (Aj (qe2 U U) call33 (El m3 m2)) ?_ U Ac)⟩;rintro _ _ ⟨n104,rfl,rfl⟩;refine⟨sbt,(Bd U (e_ (Aj (qe1 U) call34 (Km m2)) ?_ U))⟩;rintro _ _ ⟨n106,rfl,rfl⟩;refine e_ (Bv (.cons (T U) (.cons (T U) (.cons (T U) (.cons (T U) .nil)))) (Dw _ _ _ _ _ _ _ _ _ _ _ _ _ _ _ _ _ _ _ _ _ _ _ _ _ _ _ _ _ _ _ _ _ _ _ _ _ _ _ _ _ _ _ _ _ _ _ _ _ _ _ _)) ?_ U;rintro _ _ ⟨n107,rfl,rfl⟩;refine rO tb 10 U ?_;refine Bl (X:=Nat) (V:=fun i=>[(23, .int .i64 (i:Nat))]) (C:=[(0,_),(4,_),(11,_),(21,_),(22,_)]) (G:=fun i=>((n107,Cl ([mOp2 3 n98 m2 m3,mOp2 4 n101 m2 m3,mOp2 4 n104 m3 m2,mOp1 5 n106 m2].flatMap encPo) 28)::(n106,Cl (encPo m2) 28)::(n104,Cl (encPo m3++encPo m2) 28)::(n101,Cl (encPo m2++encPo m3) 28)::(n98,Cl (encPo m2++encPo m3) 28)::(n95,Cl ([mOp2 3 n86 m1 m3,mOp2 4 n89 m1 m3,mOp2 4 n92 m3 m1,mOp1 5 n94 m1].flatMap encPo) 28)::(n94,Cl (encPo m1) 28)::(n92,Cl (encPo m3++encPo m1) 28)::(n89,Cl (encPo m1++encPo m3) 28)::(n86,Cl (encPo m1++encPo m3) 28)::H)) (φ:=fun i=>i≤4) (μ:=fun i=>4 - i) (x0:=0) ?_ ⟨Aa U,Aa U,Aa U,Aa U,Aa U,trivial⟩ ⟨atd,trivial⟩ (by exact sbt) ?_
       ·exact Nat.zero_le _
       rintro i hi4;have hq1:=(show PoQ w0 ((n107,Cl ([mOp2 3 n98 m2 m3,mOp2 4 n101 m2 m3,mOp2 4 n104 m3 m2,mOp1 5 n106 m2].flatMap encPo) 28)::(n106,Cl (encPo m2) 28)::(n104,Cl (encPo m3++encPo m2) 28)::(n101,Cl (encPo m2++encPo m3) 28)::(n98,Cl (encPo m2++encPo m3) 28)::(n95,Cl ([mOp2 3 n86 m1 m3,mOp2 4 n89 m1 m3,mOp2 4 n92 m3 m1,mOp1 5 n94 m1].flatMap encPo) 28)::(n94,Cl (encPo m1) 28)::(n92,Cl (encPo m3++encPo m1) 28)::(n89,Cl (encPo m1++encPo m3) 28)::(n86,Cl (encPo m1++encPo m3) 28)::H) fl m1 p1 from ⟨hI1,hF1,hM1.mono (by exact sbt),by omega,hz1⟩);have hq2:=(show PoQ w0 ((n107,Cl ([mOp2 3 n98 m2 m3,mOp2 4 n101 m2 m3,mOp2 4 n104 m3 m2,mOp1 5 n106 m2].flatMap encPo) 28)::(n106,Cl (encPo m2) 28)::(n104,Cl (encPo m3++encPo m2) 28)::(n101,Cl (encPo m2++encPo m3) 28)::(n98,Cl (encPo m2++encPo m3) 28)::(n95,Cl ([mOp2 3 n86 m1 m3,mOp2 4 n89 m1 m3,mOp2 4 n92 m3 m1,mOp1 5 n94 m1].flatMap encPo) 28)::(n94,Cl (encPo m1) 28)::(n92,Cl (encPo m3++encPo m1) 28)::(n89,Cl (encPo m1++encPo m3) 28)::(n86,Cl (encPo m1++encPo m3) 28)::H) fl m2 p2 from ⟨hI2,hF2,hM2.mono (by exact sbt),by omega,hz2⟩);have hq3:=(show PoQ w0 ((n107,Cl ([mOp2 3 n98 m2 m3,mOp2 4 n101 m2 m3,mOp2 4 n104 m3 m2,mOp1 5 n106 m2].flatMap encPo) 28)::(n106,Cl (encPo m2) 28)::(n104,Cl (encPo m3++encPo m2) 28)::(n101,Cl (encPo m2++encPo m3) 28)::(n98,Cl (encPo m2++encPo m3) 28)::(n95,Cl ([mOp2 3 n86 m1 m3,mOp2 4 n89 m1 m3,mOp2 4 n92 m3 m1,mOp1 5 n94 m1].flatMap encPo) 28)::(n94,Cl (encPo m1) 28)::(n92,Cl (encPo m3++encPo m1) 28)::(n89,Cl (encPo m1++encPo m3) 28)::(n86,Cl (encPo m1++encPo m3) 28)::H) fl m3 p3 from ⟨hI3,hF3,hM3.mono (by exact sbt),by omega,hz3⟩);have hLq:∀ i,i<4→PoQ w0 ((n107,Cl ([mOp2 3 n98 m2 m3,mOp2 4 n101 m2 m3,mOp2 4 n104 m3 m2,mOp1 5 n106 m2].flatMap encPo) 28)::(n106,Cl (encPo m2) 28)::(n104,Cl (encPo m3++encPo m2) 28)::(n101,Cl (encPo m2++encPo m3) 28)::(n98,Cl (encPo m2++encPo m3) 28)::(n95,Cl ([mOp2 3 n86 m1 m3,mOp2 4 n89 m1 m3,mOp2 4 n92 m3 m1,mOp1 5 n94 m1].flatMap encPo) 28)::(n94,Cl (encPo m1) 28)::(n92,Cl (encPo m3++encPo m1) 28)::(n89,Cl (encPo m1++encPo m3) 28)::(n86,Cl (encPo m1++encPo m3) 28)::H) fl (gd [mOp2 3 n86 m1 m3,mOp2 4 n89 m1 m3,mOp2 4 n92 m3 m1,mOp1 5 n94 m1] i) (gd ([.uni p1 p3, .seq p1 p3, .seq p3 p1, .star p1]:List Po) i):=Mo (Mn (by repeat (first|exact Am|refine Aq ?_)) hq1 hq3 hm1 hm3) (J8 (by repeat (first|exact Am|refine Aq ?_)) hq1 hq3 hm1 hm3) (J8 (by repeat (first|exact Am|refine Aq ?_)) hq3 hq1 hm3 hm1) (Lv (by repeat (first|exact Am|refine Aq ?_)) hq1 hm1);have hRq:∀ i,i<4→PoQ w0 ((n107,Cl ([mOp2 3 n98 m2 m3,mOp2 4 n101 m2 m3,mOp2 4 n104 m3 m2,mOp1 5 n106 m2].flatMap encPo) 28)::(n106,Cl (encPo m2) 28)::(n104,Cl (encPo m3++encPo m2) 28)::(n101,Cl (encPo m2++encPo m3) 28)::(n98,Cl (encPo m2++encPo m3) 28)::(n95,Cl ([mOp2 3 n86 m1 m3,mOp2 4 n89 m1 m3,mOp2 4 n92 m3 m1,mOp1 5 n94 m1].flatMap encPo) 28)::(n94,Cl (encPo m1) 28)::(n92,Cl (encPo m3++encPo m1) 28)::(n89,Cl (encPo m1++encPo m3) 28)::(n86,Cl (encPo m1++encPo m3) 28)::H) fl (gd [mOp2 3 n98 m2 m3,mOp2 4 n101 m2 m3,mOp2 4 n104 m3 m2,mOp1 5 n106 m2] i) (gd ([.uni p2 p3, .seq p2 p3, .seq p3 p2, .star p2]:List Po) i):=Mo (Mn (by repeat (first|exact Am|refine Aq ?_)) hq2 hq3 hm2 hm3) (J8 (by repeat (first|exact Am|refine Aq ?_)) hq2 hq3 hm2 hm3) (J8 (by repeat (first|exact Am|refine Aq ?_)) hq3 hq2 hm3 hm2) (Lv (by repeat (first|exact Am|refine Aq ?_)) hq2 hm2);have hPe:=peq_all (peq_of (k1 he1)) hF1 hF2 hF3;have hLA:Arr w0 ((n107,Cl ([mOp2 3 n98 m2 m3,mOp2 4 n101 m2 m3,mOp2 4 n104 m3 m2,mOp1 5 n106 m2].flatMap encPo) 28)::(n106,Cl (encPo m2) 28)::(n104,Cl (encPo m3++encPo m2) 28)::(n101,Cl (encPo m2++encPo m3) 28)::(n98,Cl (encPo m2++encPo m3) 28)::(n95,Cl ([mOp2 3 n86 m1 m3,mOp2 4 n89 m1 m3,mOp2 4 n92 m3 m1,mOp1 5 n94 m1].flatMap encPo) 28)::(n94,Cl (encPo m1) 28)::(n92,Cl (encPo m3++encPo m1) 28)::(n89,Cl (encPo m1++encPo m3) 28)::(n86,Cl (encPo m1++encPo m3) 28)::H) (some ⟨n95,0,none⟩) 9 encPo [mOp2 3 n86 m1 m3,mOp2 4 n89 m1 m3,mOp2 4 n92 m3 m1,mOp1 5 n94 m1]:=Ko (l:=[mOp2 3 n86 m1 m3,mOp2 4 n89 m1 m3,mOp2 4 n92 m3 m1,mOp1 5 n94 m1]) pos9 (by repeat (first|exact Am|refine Aq ?_));have hRA:Arr w0 ((n107,Cl ([mOp2 3 n98 m2 m3,mOp2 4 n101 m2 m3,mOp2 4 n104 m3 m2,mOp1 5 n106 m2].flatMap encPo) 28)::(n106,Cl (encPo m2) 28)::(n104,Cl (encPo m3++encPo m2) 28)::(n101,Cl (encPo m2++encPo m3) 28)::(n98,Cl (encPo m2++encPo m3) 28)::(n95,Cl ([mOp2 3 n86 m1 m3,mOp2 4 n89 m1 m3,mOp2 4 n92 m3 m1,mOp1 5 n94 m1].flatMap encPo) 28)::(n94,Cl (encPo m1) 28)::(n92,Cl (encPo m3++encPo m1) 28)::(n89,Cl (encPo m1++encPo m3) 28)::(n86,Cl (encPo m1++encPo m3) 28)::H) (some ⟨n107,0,none⟩) 9 encPo [mOp2 3 n98 m2 m3,mOp2 4 n101 m2 m3,mOp2 4 n104 m3 m2,mOp1 5 n106 m2]:=Ko (l:=[mOp2 3 n98 m2 m3,mOp2 4 n101 m2 m3,mOp2 4 n104 m3 m2,mOp1 5 n106 m2]) pos9 (by repeat (first|exact Am|refine Aq ?_));refine rD tb 9 U ?_
       first|refine Ae (Aa U) (fun c111=> ?_) (fun c111=> ?_)|refine Ai (Aa U) (fun c111=> ?_) (fun c111=> ?_)
       ·have hi2:i<4:=by have h9:((i:Nat):Int)<4:=c111;omega
        refine rC tb 6 U (Bp 10 [(0,true),(1,true),(2,true),(3,true),(4,true),(5,true),(6,true),(7,true),(8,true),(9,true)] _ mixd qkr sb0 ?_ By);refine rP tb 3 U (o_y U (M9 U U runUnderlying26 sizeOf28 qom (by first|exact rfl|exact hLA.b (i:=i) hi2|exact hRA.b (i:=i) hi2)) ?_ U Ac);refine o_y U (M8 U isAgg28 sizeOf28 U (by first|exact hLA.cs (i:=i) hi2|exact As)) ?_ U Ac;refine rP tb 2 U (o_y U (M9 U U runUnderlying26 sizeOf28 qom (by first|exact rfl|exact hLA.b (i:=i) hi2|exact hRA.b (i:=i) hi2)) ?_ U Ac);refine o_y U (M8 U isAgg28 sizeOf28 U (by first|exact hRA.cs (i:=i) hi2|exact As)) ?_ U Ac;refine rP tb 1 U (Bd U (e_ (Aj (.cons (T U) (.cons (T U) (.cons (T U) (.cons An (.cons (T U) .nil))))) call12 (both_s fi q fl.length c hn (hA.mono (by exact sbt)) hnm (hLq i hi2).pm (hLq i hi2).ps (hLq i hi2).pz (hRq i hi2).pm (hRq i hi2).ps (hRq i hi2).pz 62 tick)) ?_ U));rintro _ _ ⟨b7,⟨rfl,hb7⟩,rfl⟩
        first|refine A7 (B5 (T U)) U Ac ?_|refine A7 (B0 (T U)) U Ac ?_
        refine rO tb 2 U ?_
        first|refine Ae (Aa U) (fun c125=> ?_) (fun c125=> ?_)|refine Ai (Aa U) (fun c125=> ?_) (fun c125=> ?_)
        ·refine rC tb 6 U (y_ (A8 (T U) An qom) ?_ U);refine rO tb 2 U ?_;refine A5 (i+1) ?_ ?_ ⟨atd,trivial⟩ ⟨Aa U,Aa U,Aa U,Aa U,Aa U,trivial⟩ ?_
         ·exact hi2
         ·first|omega|(simp only[];omega)
         ·exact sbt
        ·refine rC tb 2 U ?_;refine Ei (X:=Bool × Int) (V:=fun ⟨is7,e7⟩=>[(25, .bool is7),(26, .int .i64 e7)]) (C:=[(0,_),(4,_),(11,_),(21,_),(22,_),(23,_)]) (φ:=fun ⟨is7,e7⟩=>e7=0→is7=true) ⟨Aa rfl,Aa rfl,Aa rfl,Aa rfl,Aa rfl,Aa rfl,trivial⟩ ?_ ?_
         ·refine rD tb 0 U (Hl 19 _ mixd qkr sb0 ?_ By);refine x_y (i:=0) U qkr (Bz (T U)) ?_ U Ac;refine x_y (i:=1) U qkr (Bz (T U)) ?_ U Ac;refine x_y (i:=2) U qkr (Bz (T U)) ?_ U Ac;refine x_y (i:=3) U qkr (M9 U U runUnderlying26 sizeOf28 qom (by first|exact rfl|exact hLA.b (i:=i) hi2|exact hRA.b (i:=i) hi2)) ?_ U Ac;refine x_y (i:=4) U qkr (M8 U isAgg28 sizeOf28 U (by first|exact(hLA.mono (by exact sbt)).cs (i:=i) hi2|exact As)) ?_ U Ac;refine x_y (i:=5) U qkr (Bz (T U)) ?_ U Ac;refine x_y (i:=6) U qkr (Bz (T U)) ?_ U Ac;refine x_y (i:=7) U qkr (M9 U U runUnderlying26 sizeOf28 qom (by first|exact rfl|exact hLA.b (i:=i) hi2|exact hRA.b (i:=i) hi2)) ?_ U Ac;refine x_y (i:=8) U qkr (M8 U isAgg28 sizeOf28 U (by first|exact(hRA.mono (by exact sbt)).cs (i:=i) hi2|exact As)) ?_ U Ac;refine x_y (i:=9) U qkr (Bz (T U)) ?_ U Ac;refine Gh (i:=10) (j:=15) qkr qkr ?_ ?_
          ·refine Cb U (Aj (qe4 U U U U) call13 (ansK (Dl hfl q c (hAf.mono (by exact sbt)) tick (hLq i hi2).pi (hLq i hi2).pf ((hLq i hi2).pm.mono (by exact sbt)) (hRq i hi2).pi (hRq i hi2).pf ((hRq i hi2).pm.mono (by exact sbt))) (.inl U))) ?_ U Ac;rintro _ _ ⟨h7,is7,e7,⟨rfl,o7,z7,k7⟩,rfl⟩;refine⟨sbt,(x_y (i:=11) U qkr (Bz (T U)) ?_ U Ac)⟩;refine x_y (i:=12) U qkr (Ax (T U) U) ?_ U Ac;refine x_y (i:=13) U qkr (Ax (T U) U) ?_ U Ac;refine x_y (i:=14) U qkr (Ax (T U) U) ?_ U Ac;refine Ce (i:=15) qkr qkr ?_;refine Cb U (Ah zeroValue32 cs_) ?_ U Ac;rintro _ _ ⟨n24,rfl,rfl⟩;refine⟨sbt,(Ce (i:=16) qkr qkr ?_)⟩;refine Cb U (Na U U sizeOf32 .agg (Be _) (Ak o7) (by repeat (first|exact Upd.h|apply Upd.t|apply Bh)) (by rw[Ak o7];rfl)) ?_ U Ac;rintro _ _ ⟨rfl,rfl⟩;refine⟨sbt,(x_y (i:=17) U qkr (Bf (T U)) ?_ U Ac)⟩;refine x_y (i:=18) U qkr (Bf (T U)) ?_ U Ac;refine Dr qkr U ?_;refine rO tb 1 U ?_;refine Bc ((_,_)) ?_ ⟨atd,atd,trivial⟩ ⟨Aa U,Aa U,Aa U,Aa U,Aa U,Aa U,trivial⟩ sbt;exact fun e=>(hPe i hi2).ans (k7 e)
          ·refine Cb U (Ah zeroValue32 cs_) ?_ U Ac;rintro _ _ ⟨n24,rfl,rfl⟩;refine⟨sbt,(Ce (i:=10) qkr qkr ?_)⟩;refine Cb U (Aj (qe4 U U U U) call13 (ansK (Dl hfl q c (hAf.mono (by exact sbt)) tick (hLq i hi2).pi (hLq i hi2).pf ((hLq i hi2).pm.mono (by exact sbt)) (hRq i hi2).pi (hRq i hi2).pf ((hRq i hi2).pm.mono (by exact sbt))) (.inl U))) ?_ U Ac;rintro _ _ ⟨h7,is7,e7,⟨rfl,o7,z7,k7⟩,rfl⟩;refine⟨sbt,(x_y (i:=11) U qkr (Bz (T U)) ?_ U Ac)⟩;refine x_y (i:=12) U qkr (Ax (T U) U) ?_ U Ac;refine x_y (i:=13) U qkr (Ax (T U) U) ?_ U Ac;refine x_y (i:=14) U qkr (Ax (T U) U) ?_ U Ac;refine Ce (i:=16) qkr qkr ?_;refine Cb U (Na U U sizeOf32 .agg (Be _) (Ak o7) (by repeat (first|exact Upd.h|apply Upd.t|apply Bh)) (by rw[Ak o7];rfl)) ?_ U Ac;rintro _ _ ⟨rfl,rfl⟩;refine⟨sbt,(x_y (i:=17) U qkr (Bf (T U)) ?_ U Ac)⟩;refine x_y (i:=18) U qkr (Bf (T U)) ?_ U Ac;refine Dr qkr U ?_;refine rO tb 1 U ?_;refine Bc ((_,_)) ?_ ⟨atd,atd,trivial⟩ ⟨Aa U,Aa U,Aa U,Aa U,Aa U,Aa U,trivial⟩ sbt;exact fun e=>(hPe i hi2).ans (k7 e)
         rintro⟨is7,e7⟩ hz7;refine rC tb 5 U ?_
         first|refine Av (s:=143) (Aa U) (fun c143=> ?_) (fun c143=> ?_)|refine A6 (s:=143) (Aa U) (fun c143=> ?_) (fun c143=> ?_)
         ·have h97:is7=true:=hz7 (by simpa using c143);refine rO tb 1 U ?_
          first|refine A7 (B5 (T U)) U (Bi U U (Aa U)) ?_|refine A7 (B0 (T U)) U (Bi U U (Aa U)) ?_
          refine rO tb 3 U ?_
          first|refine Ae (Aa U) (fun c146=> ?_) (fun c146=> ?_)|refine Ai (Aa U) (fun c146=> ?_) (fun c146=> ?_)
          ·exact absurd c146 (by rw[h97];simp)
          ·skip
           refine rC tb 5 U (y_ (A8 (T U) An qom) ?_ U);refine rO tb 2 U ?_;refine A5 (i+1) ?_ ?_ ⟨atd,trivial⟩ ⟨Aa U,Aa U,Aa U,Aa U,Aa U,trivial⟩ ?_
           ·exact hi2
           ·first|omega|(simp only[];omega)
           ·exact sbt
         ·skip
          refine rO tb 11 U (y_ (A8 (T U) An qom) ?_ U);refine rO tb 2 U ?_;refine A5 (i+1) ?_ ?_ ⟨atd,trivial⟩ ⟨Aa U,Aa U,Aa U,Aa U,Aa U,trivial⟩ ?_
          ·exact hi2
          ·first|omega|(simp only[];omega)
          ·exact sbt
       ·skip
        refine rC tb 2 U (Az (rX tb 9 U (Al U (M6 U) ?_)));exact⟨_,⟨rfl,rfl⟩,by exact sbt⟩
end Go.Proofs.YtkgfmjanajdibaaGreat
namespace Go.Proofs.YtkgfmjanajdibaaGreat
open _root_.Go.Proofs.Tryz
open Go.ChangeShapes Go.WideShapes Go.ChangeAt Go.RowKit Go.Joins
set_option linter.unusedVariables false
set_option linter.unusedSimpArgs false
set_option linter.unusedSectionVars false
set_option maxRecDepth 100000
section
variable {H:Type} {enc:TypeId × Value→H} {W:World}
theorem laid_out:laidOutB Tryz.prog=true:=by kernel_rfl
theorem trodAll_stays:∀ {ts:List TypeId} {vs:List Value} {ds:List (DataW H)} {ps:List MemPlace} {W':World},(∀ t∈ts,Tryz.prog.readableRec t=true∧t<Tryz.prog.types.size)→DataW.TrodAll enc Tryz.prog W 0 (fun _=>true) true ts vs ds ps→Below W.heap.size W W'→(∀ x∈ps,x.block<W.heap.size)→
  DataW.TrodAll enc Tryz.prog W' 0 (fun b=>decide (b<W.heap.size)) true ts vs ds ps
 |[],_,_,_,_,_,h,_,_=>by obtain⟨rfl,rfl,rfl⟩:=trodAll_nil h;exact trodAll_mk0
 |t::ts,_,_,_,_,hr,h,hb,hlt=>by
  obtain⟨v,vs,d,ds,p,q,rfl,rfl,rfl,h0,r0⟩:=trodAll_cons h;exact trodAll_cons_mk (Below.trod laid_out (hr t (by simp)).1 (hr t (by simp)).2 h0 hb (fun x hx=>hlt x (by simp[hx]))) (trodAll_stays (fun t ht=>hr t (by simp[ht])) r0 hb (fun x hx=>hlt x (by simp[hx])))
end
theorem calls_true {f:FuncId}{args:Array Value}{W:World}(h:FSpec Tryz.prog W f args [] (Still (.bool true) [])):Calls Tryz.prog f args W fun e W'=>e= .returned (.bool true)∧Below W.heap.size W W':=
 (h W (Own.start W)).mono fun e W' ⟨v,H',he,hO,hv,_⟩=>⟨by rw[he,hv],hO.below⟩
noncomputable def laidWorld (os:Os):World:=World.holding Tryz.prog os ⟨#[],#[],[]⟩
end Go.Proofs.YtkgfmjanajdibaaGreat
