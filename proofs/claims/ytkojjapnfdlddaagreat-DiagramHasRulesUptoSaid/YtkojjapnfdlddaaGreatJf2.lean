/-
  A part of what LawF rests on: the logic, walks and plain laws. No condition.
-/
import Derived.Test.YtkojjapnfdlddaaGreatJf1
namespace Go.Proofs.YtkojjapnfdlddaaGreat
open _root_.Go.Proofs.Tryz
open Go.RowKit
set_option linter.unusedVariables false
set_option linter.unusedSimpArgs false
set_option linter.unusedSectionVars false
set_option maxRecDepth 100000
section
variable {P:Program} {w0:World} {L:Fm} {H:List (Nat × Obj)} {ty xt yt:TypeId} {x y:Operand}
theorem Hl {m n:Nat}(hm:m<9223372036854775808)(hn:n<9223372036854775808)(hx:Ev L x (.int .i64 (m:Int)))(hy:Ev L y (.int .i64 (n:Int))):Yl P w0 (.binOp .and xt x y yt) ty L H (.int .i64 ((m &&& n:Nat):Int)):=Bb U fun b w=>by
 have t64:=two64;have e:(BitVec.ofInt 64 (m:Int) &&& BitVec.ofInt 64 (n:Int)).toNat=m &&& n:=by
  rw[D7,D7,BitVec.toNat_and,BitVec.toNat_ofNat,BitVec.toNat_ofNat,Nat.mod_eq_of_lt qom,Nat.mod_eq_of_lt qom]
 have hl:m &&& n≤m:=Nat.and_le_left;have e2:IntKind.i64.wrap ((m &&& n:Nat):Int)=((m &&& n:Nat):Int):=IntWalk.i64_in _ qom;have e3:(Op.intBits .and .i64 (m:Int) (n:Int)).run P w= .ok (.int .i64 ((m &&& n:Nat):Int)) w:=by
  show Result.ok (Value.int .i64 (IntKind.i64.wrap ((BitVec.ofInt 64 (m:Int) &&& BitVec.ofInt 64 (n:Int)).toNat:Int))) w=_;rw[e,e2]
 simp[exO,execOp,hx b,hy b,binOp,eqGuard,Sem.run_bind,Result.andThen,e3]
theorem yl_shrI {m n:Nat}(hn:n<64)(hx:Ev L x (.int .i64 (m:Int)))(hy:Ev L y (.int .i64 (n:Int))):Yl P w0 (.binOp .shr xt x y yt) ty L H (.int .i64 ((m / 2 ^ n:Nat):Int)):=Bb U fun b w=>by
 have e1: ¬ (n:Int)<0:=by omega
 have e2:min n 64=n:=by omega
 have e3:(Op.shift .shr .i64 (m:Int) .i64 (n:Int)).run P w= .ok (.int .i64 ((m / 2 ^ n:Nat):Int)) w:=by
  unfold Op.shift;rw[if_neg e1];simp only[Int.toNat_natCast,IntKind.bits,e2];show Result.ok (Value.int .i64 ((m:Int).fdiv (2 ^ n))) w=_;rw[Int.fdiv_eq_ediv_of_nonneg _ (by exact_mod_cast Nat.zero_le _)]
  congr 2
 simp[exO,execOp,hx b,hy b,binOp,eqGuard,Sem.run_bind,Result.andThen,e3]
theorem C5 {a c:Nat}(hx:Ev L x (.int .i64 (a:Nat)))(hy:Ev L y (.int .i64 (c:Nat)))(h:a≤1000000000∧1≤c):Yl P w0 (.binOp .quo xt x y yt) ty L H (.int .i64 ((a / c:Nat):Int)):=by
 have h:=yl_quo (P:=P) (w0:=w0) (H:=H) (ty:=ty) (xt:=xt) (yt:=yt) hx hy qom
 rwa [show (a:Int) / c=((a / c:Nat):Int) by omega] at h
theorem Es {a c:Nat}(hx:Ev L x (.int .i64 (a:Nat)))(hy:Ev L y (.int .i64 (c:Nat)))(h:1≤c):Yl P w0 (.binOp .rem xt x y yt) ty L H (.int .i64 ((a % c:Nat):Int)):=by
 have h:=yl_rem (P:=P) (w0:=w0) (H:=H) (ty:=ty) (xt:=xt) (yt:=yt) hx hy qom
 rwa [show (a:Int) % c=((a % c:Nat):Int) by omega] at h
theorem Cy {a c:Nat}(hx:Ev L x (.int .i64 (a:Nat)))(hy:Ev L y (.int .i64 (c:Nat)))(h:c≤a∧a≤1000000000):Yl P w0 (.binOp .sub xt x y yt) ty L H (.int .i64 ((a - c:Nat):Int)):=by
 have h:=Hz (P:=P) (w0:=w0) (H:=H) (ty:=ty) (xt:=xt) (yt:=yt) hx hy qom
 rwa [show (a:Int) - c=((a - c:Nat):Int) by omega] at h
theorem Hm {a c:Nat}(hx:Ev L x (.int .i64 (a:Nat)))(hy:Ev L y (.int .i64 (c:Nat)))(h:a*c≤1000000000):Yl P w0 (.binOp .mul xt x y yt) ty L H (.int .i64 ((a*c:Nat):Int)):=by
 have e:(a:Int)*c=((a*c:Nat):Int):=by simp
 have h:=Jj (P:=P) (w0:=w0) (H:=H) (ty:=ty) (xt:=xt) (yt:=yt) hx hy (by rw[e];omega)
 rwa [e] at h
end
abbrev hdC (h:Hd):List Value:=h.map fun (x:Nat)=>(encNI x)
theorem hdC_nth {h:Hd}{k:Nat}(hk:k<h.length):(hdC h)[k]? =some (encNI (gd h k)):=by
 rw[List.getElem?_map,List.getElem?_eq_getElem hk,Ay hk];rfl
theorem Cg {w0:World}{H:List (Nat × Obj)}{n o:Nat}{h:Hd}(hc:Cells w0 H n o (hdC h)){k:Nat}(hk:k<h.length):Cell w0 H ⟨n,o+((k:Nat):Int).toNat*1,none⟩ (.int .i64 (gd h k:Nat)):=by
 have:=hc k _ (hdC_nth hk)
 rwa [show ((k:Nat):Int).toNat*1=k by omega]
theorem Im (n:Nat):n &&& 1=n % 2:=Nat.and_one_is_mod n
theorem bit_eq {h:Hd}{i:Nat}:((gd h (i / 16) / 2 ^ (15 - i % 16) &&& 1:Nat):Int)=b2i (hbit h i):=by
 rw[Im];unfold hbit;rw[Nat.testBit_eq_decide_div_mod_eq];unfold b2i
 by_cases e:gd h (i / 16) / 2 ^ (15 - i % 16) % 2=1
 ·rw[e];simp
 ·have:gd h (i / 16) / 2 ^ (15 - i % 16) % 2=0:=by omega
  rw[this];simp
theorem Je {w0:World}{H:List (Nat × Obj)}(h:Hd)(hh:HdOk h)(i:Nat)(hi:i<160):
  FSpec Tryz.prog w0 64 #[.agg (hdC h).toArray, .int .i64 (i:Nat)] H (Still (.int .i64 (b2i (hbit h i))) H):=by
 refine An Tryz.func64 U ntmps64 U ?_;have hlen:=hh.len;have hlt:=Db hh (i / 16);have hdl:gd h (i / 16) / 2 ^ (15 - i % 16)≤gd h (i / 16):=Nat.div_le_self _ _;refine rD tb 2 U (e_ (Kw U cs_) ?_ U);rintro _ _ ⟨n2,rfl,rfl⟩;refine rO tb 6 U (y_ (C5 (c:=16) (T U) Aj qom) ?_ U);refine y_ (Bi (T U) (T U) runUnderlying30 sizeOf3 qom) ?_ U;refine y_ (Kr U isAgg3 (by first|exact c_o|exact Cg (Ah As) qom)) ?_ U;refine rO tb 1 U (y_ (Es (c:=16) (T U) Aj qom) ?_ U);refine y_ (Cy (a:=15) Aj (T U) qom) ?_ U;refine y_ (yl_shrI qom (T U) (T U)) ?_ U;refine y_ (Hl (n:=1) qom qom (T U) Aj) ?_ U;refine rO tb 4 U (Ai U (Kq U) ?_);exact⟨_,⟨vint bit_eq,rfl⟩,sbt⟩
def bkL (bs:List Nat):List (Nat × Nat):=(List.range bs.length).map fun k=>(bs.length - 1 - k,gd bs (bs.length - 1 - k))
theorem Io (bs:List Nat):(bkL bs).length=bs.length:=by simp[bkL]
theorem bkL_get {bs:List Nat}{k:Nat}(h:k<bs.length):(bkL bs)[k]? =some (bs.length - 1 - k,gd bs (bs.length - 1 - k)):=by
 unfold bkL;rw[List.getElem?_map,List.getElem?_range h];rfl
theorem bkL_inv {bs:List Nat}{k:Nat}{x:Nat × Nat}(h:(bkL bs)[k]? =some x):k<bs.length∧x=(bs.length - 1 - k,gd bs (bs.length - 1 - k)):=by
 have hk:k<bs.length:=by
  have:=(List.getElem?_eq_some_iff.1 h).1
  rwa [Io] at this
 rw[bkL_get hk] at h;exact⟨hk,(Option.some.inj h).symm⟩
abbrev encBk (x:Nat × Nat):List Value:=[.int .i64 (x.1:Nat), .int .i64 (x.2:Nat)]
abbrev encB1 (x:Nat):List Value:=[.int .i64 (x:Nat)]
theorem back_s {w0:World}{H:List (Nat × Obj)}(q:Option Addr)(n c:Nat):
  FSpec Tryz.prog w0 138 #[.slice q n c] H (fun u H'=>∃ m,u= .func (.func 170) #[] #[.pointer (some ⟨m,0,none⟩)]∧H'=(m,Cl [.slice q n c] 65)::H):=by
 refine An Tryz.func138 U ntmps138 U (rD tb 2 U (e_ (Kw U cs_) ?_ U));rintro _ _ ⟨n1,rfl,rfl⟩;refine rO tb 5 U (y_ (B9 (.cons (T U) .nil)) (rO tb 4 U (Ai U (Kq U) ?_)) U);exact⟨_,⟨_,rfl,rfl⟩,sbt⟩
theorem ix_cell {w0:World}{H:List (Nat × Obj)}{q:Option Addr}{bs:List Nat}(hA:Arr w0 H q 1 encB1 bs){i:Int}(hi:0≤i∧i<bs.length):Cell w0 H ⟨bq q,oq q+i.toNat*1,none⟩ (.int .i64 (gd bs i.toNat:Nat)):=
 (hA i.toNat (gd bs i.toNat) (B1 qom)).2 0 _ U
theorem back_it {w0:World}{H:List (Nat × Obj)}{q:Option Addr}{c m:Nat}{bs:List Nat}(fv:Value)(hm:Fnd H m (Cl [.slice q bs.length c] 65))(hA:Arr w0 H q 1 encB1 bs)(hl:bs.length≤100000):IterSpecP Tryz.prog w0 170 [.pointer (some ⟨m,0,none⟩)] H encBk (bkL bs) fv:=by
 intro l S B hHc hY H0 hS0;have hY0:=fun k x H hx hS=>YSpecP.mono (hY k x H [] hx hS) (K':=fun v H1=>v= .bool true∧S (k+1) H1) (by rintro v _ ⟨H1,rfl,h⟩;exact h)
 refine Bv Tryz.func170 U ntmps170 U ?_;have hS:=hS0;refine rD tb 2 U (y_ (Kr U isAgg65 (by first|exact c_o|exact Cell.mono (Ah hm 0 _ U) (hHc _ _ hS0))) ?_ U);refine rO tb 1 U (y_ (Hz (T U) Aj qom) ?_ U);refine rO tb 4 U ?_;refine A9 (X:=Nat × List (Nat × Obj)) (V:=fun ⟨k,Hx⟩=>[(3, .int .i64 ((bs.length:Int) - 1 - k))]) (C:=[(0,_),(1,_)]) (G:=fun ⟨k,Hx⟩=>Hx) (φ:=fun ⟨k,Hx⟩=>k≤bs.length∧S k Hx) (μ:=fun ⟨k,Hx⟩=>bs.length - k) (x0:=(0,H0)) ?_ ⟨Aa rfl,Aa rfl,trivial⟩ ⟨atd,trivial⟩ sb0 ?_
 ·exact⟨Nat.zero_le _,hS0⟩
 rintro⟨k,Hx⟩ ⟨hk,hS1⟩;refine rD tb 7 U ?_
 first|refine Ac (Aa U) (fun c8=> ?_) (fun c8=> ?_)|refine Ag (Aa U) (fun c8=> ?_) (fun c8=> ?_)
 ·refine rC tb 8 U (y_ (Kr U isAgg65 (by first|exact c_o|exact Cell.mono (Ah hm 0 _ U) (hHc _ _ hS1))) ?_ U);refine rO tb 1 U (y_ (Ch (T U) (T U) runUnderlying65 sizeOf3 qom (by first|exact rfl|exact(hA (bs.length - 1 - k) (gd bs (bs.length - 1 - k)) (B1 qom)).1)) ?_ U);refine y_ (Kr U isAgg3 (by first|exact c_o|exact Cell.mono (ix_cell hA qom) (hHc _ _ hS1))) ?_ U;refine p_ (effP_yield (T rfl) (.cons (Ad (Aa rfl) (vint (show ((bs.length:Int) - 1 - (k:Nat))=((bs.length - 1 - k:Nat):Int) by omega))) (.cons (Ad (Aa rfl) (vint (show ((gd bs ((bs.length:Int) - 1 - (k:Nat)).toNat:Nat):Int)=((gd bs (bs.length - 1 - k):Nat):Int) by rw[show ((bs.length:Int) - 1 - (k:Nat)).toNat=bs.length - 1 - k by omega]))) .nil)) (hY0 k (bs.length - 1 - k,gd bs (bs.length - 1 - k)) Hx (bkL_get qom) hS1)) ?_ (by rintro _ hB;(repeat (first|refine Ca ?_|refine Bu ?_));exact Bo hB sb0) rfl;rintro _ H1 ⟨rfl,hS2⟩
  first|refine Az (B2 (T U)) U Ae ?_
  refine rO tb 8 U (y_ (Hz (T U) Aj qom) ?_ U);refine rO tb 2 U ?_;refine A0 ((k+1,H1)) ?_ ?_ ⟨atd,trivial⟩ ⟨Aa U,Aa U,trivial⟩ ?_
  ·exact⟨by omega,hS2⟩
  ·first|omega|(simp only[];omega)
  ·exact sbt
 ·obtain rfl:k=bs.length:=by omega
  refine rC tb 2 U (Ao (rX tb 1 U (qp_end U .nil ?_)));exact⟨_,by rw[Io];exact hS1,sb0⟩
section
variable {most:Nat} {mk vl:Nat→Bool} {ns ns1 ns2 ns3:Ns} {j id id' z o:Nat}
theorem rl_n1 (h1:mkF most ns (2*j+1) id 0=none):rlF most mk vl (j+1) ns id=none:=by rw[rlF,h1]
theorem rl_n2 (h1:mkF most ns (2*j+1) id 0=some (z,ns1))(h2:mkF most ns1 (2*j+1) 0 id=none):rlF most mk vl (j+1) ns id=none:=by rw[rlF,h1];simp only[h2]
theorem rl_n3 (h1:mkF most ns (2*j+1) id 0=some (z,ns1))(h2:mkF most ns1 (2*j+1) 0 id=some (o,ns2))(hm:mk j=false)(h3:mkF most ns2 (2*j) z o=none):rlF most mk vl (j+1) ns id=none:=by rw[rlF,h1];simp only[h2,hm,h3,if_true]
theorem rl_y0 (h1:mkF most ns (2*j+1) id 0=some (z,ns1))(h2:mkF most ns1 (2*j+1) 0 id=some (o,ns2))(hm:mk j=false)(h3:mkF most ns2 (2*j) z o=some (id',ns3)):rlF most mk vl (j+1) ns id=rlF most mk vl j ns3 id':=by rw[rlF,h1];simp only[h2,hm,h3,if_true]
theorem rl_y1 (h1:mkF most ns (2*j+1) id 0=some (z,ns1))(h2:mkF most ns1 (2*j+1) 0 id=some (o,ns2))(hm:mk j=true)(hv:vl j=false):rlF most mk vl (j+1) ns id=rlF most mk vl j ns2 z:=by rw[rlF,h1];simp[h2,hm,hv]
theorem rl_y2 (h1:mkF most ns (2*j+1) id 0=some (z,ns1))(h2:mkF most ns1 (2*j+1) 0 id=some (o,ns2))(hm:mk j=true)(hv:vl j=true):rlF most mk vl (j+1) ns id=rlF most mk vl j ns2 o:=by rw[rlF,h1];simp[h2,hm,hv]
theorem st_s (hm:mk j=false):stF most mk vl (j+1) ns id=stF most mk vl j ns id:=by rw[stF,if_pos hm]
theorem st_n0 (hm:mk j=true)(hv:vl j=false)(h1:mkF most ns (2*j) id 0=none):stF most mk vl (j+1) ns id=none:=by rw[stF];simp[hm,hv,h1]
theorem st_y0 (hm:mk j=true)(hv:vl j=false)(h1:mkF most ns (2*j) id 0=some (id',ns1)):stF most mk vl (j+1) ns id=stF most mk vl j ns1 id':=by rw[stF];simp[hm,hv,h1]
theorem st_n1 (hm:mk j=true)(hv:vl j=true)(h1:mkF most ns (2*j) 0 id=none):stF most mk vl (j+1) ns id=none:=by rw[stF];simp[hm,hv,h1]
theorem st_y1 (hm:mk j=true)(hv:vl j=true)(h1:mkF most ns (2*j) 0 id=some (id',ns1)):stF most mk vl (j+1) ns id=stF most mk vl j ns1 id':=by rw[stF];simp[hm,hv,h1]
end
theorem b2i_n0 {b:Bool}: ¬ b2i b=0↔b=true:=by cases b<;>simp[b2i]
theorem Aw {h:Hd}(hh:HdOk h):(hdC h).length=10:=by rw[List.length_map,hh.len]
abbrev mdC (m:Md):List Value:=hdC m.1++hdC m.2
theorem Et {w0:World}{H:List (Nat × Obj)}{n:Nat}{t:TypeId}{m:Md}(h:Fnd H n (Cl (mdC m) t)):Cells w0 H n 0 (hdC m.1):=fun i v hi=>Ah h i v (by rw[List.getElem?_append_left (by exact(List.getElem?_eq_some_iff.1 hi).1)];exact hi)
theorem Ed {w0:World}{H:List (Nat × Obj)}{n:Nat}{t:TypeId}{m:Md}(hm:HdOk m.1)(h:Fnd H n (Cl (mdC m) t)):Cells w0 H n (0+10) (hdC m.2):=fun i v hi=>by
 have:=Ah (w0:=w0) h (10+i) v (by rw[List.getElem?_append_right (by simp[hm.len])];simp[hm.len];simpa using hi)
 rwa [← Nat.add_assoc] at this
theorem relation_s {w0:World}{D:Sd}{v:Sv}{ns:Ns}{R:List (Nat × Obj)}(hB:Arr w0 R D.qb 1 encB1 D.bs)(hbs:BsOk D.bs)(hst:StOk D v ns)(mo:Md)(h1:HdOk mo.1)(h2:HdOk mo.2):
  FSpecP Tryz.prog w0 96 #[.pointer (some ⟨D.p,0,none⟩), .agg (mdC mo).toArray] (SM D v ns++R) (OpK D (relF D.most.toNat D.bs.length (xh D.bs mo.1) (xh D.bs mo.2) ns) R) (.iface 148 (.agg #[])) (OpB D (relF D.most.toNat D.bs.length (xh D.bs mo.1) (xh D.bs mo.2) ns) ns R):=by
 refine fn_specA Tryz.func96 U ntmps96 U ?_;have hbl:=hst.bl;have hw:=hst.w;refine E1 (Jb (rD tb 1 U (e_ (Kw U cs_) ?_ U)));rintro _ _ ⟨n2,rfl,rfl⟩;refine e_ (Kw U cs_) ?_ U;rintro _ _ ⟨n3,rfl,rfl⟩;refine rO tb 2 U (Du (E1 (Jb (rD tb 1 U (e_ (Al zeroValue3 cs_) ?_ U)))));rintro _ _ ⟨n5,rfl,rfl⟩
 first|refine A6 (Au (T U) Aj sizeOf3) U Ae ?_|refine A6 (Bz (T U) Aj U sizeOf3) U Ae ?_|refine A6 (Bj (T U) Aj U sizeOf3) U Ae ?_
 rintro _ _ ⟨rfl,rfl⟩;refine rO tb 1 U (Du (E1 (E1 (Jb (rD tb 1 U (y_ (Kr U isAgg34 (by first|exact c_o)) ?_ U))))));refine rO tb 2 U ?_;refine y_ (Kr U isAgg65 (by first|exact c_o|exact B7 (by repeat (first|exact Dl|exact sb0|refine List.Sublist.cons _ ?_)) U)) ?_ U;refine e_ (Ar (qe1 U) call138 (back_s D.qb D.bs.length D.cb)) ?_ U;rintro _ _ ⟨m,rfl,rfl⟩;refine rO tb 1 U (Du (ja_block ?_));refine ja_range (Z:=Nat × Sv × Ns) Tryz.func96 (T rfl) call170 (back_it (.iface 148 (.agg #[])) (H:=(m,Cl [.slice D.qb D.bs.length D.cb] 65)::R) As (hB.mono (by exact sbt)) qom) (fun _=>rfl) rfl (fun ⟨id,vi,nsi⟩=>(m,Cl [.slice D.qb D.bs.length D.cb] 65)::(n5,Cl [.int .i64 (id:Nat)] 3)::(n3,Cl (mdC mo) 107)::(n2,Cl [.pointer (some ⟨D.p,0,none⟩)] 34)::(SM D vi nsi++R)) (fun k ⟨id,vi,nsi⟩=>k≤D.bs.length∧StOk D vi nsi∧Gr (2*D.bs.length) ns nsi∧id<nsi.length∧2*(D.bs.length - k)≤lvl nsi id∧(relF D.most.toNat D.bs.length (xh D.bs mo.1) (xh D.bs mo.2) ns)=rlF D.most.toNat (xh D.bs mo.1) (xh D.bs mo.2) (D.bs.length - k) nsi id) (OpB D (relF D.most.toNat D.bs.length (xh D.bs mo.1) (xh D.bs mo.2) ns) ns R) ((1,v,ns)) ?_ sbt ?_ ?_ ?_ ?_
 ·exact⟨Nat.zero_le _,hst, .refl hw,by have:=hw.two;omega,by rw[hw.lv1];omega,rfl⟩
 ·intro _;exact sbt
 ·rintro l lr Y X k x ⟨id,vi,nsi⟩ hl hx ⟨hk,hsti,gi,hid,hlv,hF⟩;obtain⟨hkl,rfl⟩:=bkL_inv hx;obtain⟨j,hj⟩:∃ j,D.bs.length - 1 - k=j:=⟨_,rfl⟩;rw[hj];have hj1:D.bs.length - k=j+1:=by omega
  have hj2:D.bs.length - (k+1)=j:=by omega
  rw[hj1] at hlv hF;have hwi:=hsti.w;have ht:=hwi.two;have hl0:=hwi.lv0;have hjb:gd D.bs j<160:=hbs.lt _ (A2 qom);refine j_keep [(2,_),(3,_),(5,_),(15,_),(16,_)] ⟨Aa U,Aa U,Aa U,Aa U,Aa U,trivial⟩ (rD tb 8 U (q_begin hl ?_));refine rD tb 2 U (Bl 11 [(0,true),(1,true),(2,true),(3,true),(4,true),(6,true),(7,true),(8,true),(9,true),(10,true),(5,false)] ((n5,Cl [.int .i64 (id:Nat)] 3)::(n3,Cl (mdC mo) 107)::(n2,Cl [.pointer (some ⟨D.p,0,none⟩)] 34)::R) mixd qkr (by exact sbt) ?_ np_allR);refine o_y U (Kr U isAgg34 (by first|exact c_o)) ?_ U Ae;refine rP tb 1 U (o_y U (Hm (a:=2) Aj (T U) qom) ?_ U Ae);refine o_y U (B8 (c:=1) (T U) Aj qom) ?_ U Ae;refine o_y U (Kr U isAgg3 (by first|exact c_o)) ?_ U Ae;refine o_y U (Kr U isAgg34 (by first|exact c_o)) ?_ U Ae;refine rP tb 1 U (o_y U (Hm (a:=2) Aj (T U) qom) ?_ U Ae);refine o_y U (B8 (c:=1) (T U) Aj qom) ?_ U Ae;refine o_y U (Kr U isAgg3 (by first|exact c_o)) ?_ U Ae;refine o_p rfl (A5 (.cons (T rfl) (.cons (T rfl) (.cons (T rfl) (.cons Aj .nil)))) call75 (Bc (M:=SM D vi nsi) (Fz hsti _ (2*j+1) id 0 hid qom qom qom qom) (by repeat (first|exact Bw|exact LocL.h|apply LocL.t|apply LocL.a)))) ?_ (by rintro _ ⟨⟨v1,ns1⟩,⟨e1,g1,hst1⟩,rfl⟩;(repeat refine Ca ?_);exact F0 (H1:=SM D v1 ns1++R) ⟨(v1,ns1),⟨by rw[hF];exact rl_n1 e1,gi.trans g1,hst1⟩,rfl⟩ (by exact sbt)) rfl Ae;rintro _ _ ⟨⟨r1,v1,ns1⟩,⟨rfl,e1,hst1⟩,rfl⟩
  dsimp only at e1 hst1
  obtain⟨g1,i1⟩:=El hwi hid qom qom qom qom e1;have hid1:=Nat.lt_of_lt_of_le hid g1.le;have ht1:=g1.w.two;have hl1:=g1.lvl hid;have hl01:=g1.w.lv0;refine⟨sbt,(A7 U ?_)⟩;refine p_ (A5 (.cons (T rfl) (.cons (T rfl) (.cons Aj (.cons (T rfl) .nil)))) call75 (Bc (M:=SM D v1 ns1) (Fz hst1 _ (2*j+1) 0 id qom hid1 qom qom qom) (by repeat (first|exact Bw|exact LocL.h|apply LocL.t|apply LocL.a)))) ?_ (by rintro _ ⟨⟨v2,ns2⟩,⟨e2,g2,hst2⟩,rfl⟩;(repeat refine Ca ?_);exact F0 (H1:=SM D v2 ns2++R) ⟨(v2,ns2),⟨by rw[hF];exact rl_n2 e1 e2,(gi.trans g1).trans g2,hst2⟩,rfl⟩ (by exact sbt)) rfl;rintro _ _ ⟨⟨r2,v2,ns2⟩,⟨rfl,e2,hst2⟩,rfl⟩
  dsimp only at e2 hst2
  obtain⟨g2,i2⟩:=El g1.w qom hid1 qom qom qom e2;have j1:=i1.gr g1.w g2;have l1:=j1.lv;have l2:=i2.lv;refine rO tb 8 U ?_;refine y_ (Ks U isAgg30 sizeOf30 (Aw h1) (by first|exact Et fdd|exact Av)) ?_ U;refine rO tb 1 U (y_ (Ak (qe2 U U) call64 (fun H' hs=>Je mo.1 h1 (gd D.bs j) hjb)) (rO tb 4 U ?_) U)
  first|refine Ac (Aa U) (fun c30=> ?_) (fun c30=> ?_)|refine Ag (Aa U) (fun c30=> ?_) (fun c30=> ?_)
  ·have hm:xh D.bs mo.1 j=false:=b2i_0.1 c30;refine rC tb 1 U (y_ (Kr U isAgg34 (by first|exact c_o)) ?_ U);refine rO tb 1 U (y_ (Hm (a:=2) Aj (T U) qom) ?_ U);refine rO tb 2 U ?_;refine p_ (A5 (.cons (T rfl) (.cons (T rfl) (.cons (T rfl) (.cons (T rfl) .nil)))) call75 (Bc (M:=SM D v2 ns2) (Fz hst2 _ (2*j) r1 r2 j1.lt i2.lt qom qom qom) (by repeat (first|exact Bw|exact LocL.h|apply LocL.t|apply LocL.a)))) ?_ (by rintro _ ⟨⟨v3,ns3⟩,⟨e3,g3,hst3⟩,rfl⟩;(repeat refine Ca ?_);exact F0 (H1:=SM D v3 ns3++R) ⟨(v3,ns3),⟨by rw[hF];exact rl_n3 e1 e2 hm e3,((gi.trans g1).trans g2).trans g3,hst3⟩,rfl⟩ (by exact sbt)) rfl;rintro _ _ ⟨⟨r3,v3,ns3⟩,⟨rfl,e3,hst3⟩,rfl⟩
   dsimp only at e3 hst3
   obtain⟨g3,i3⟩:=El g2.w j1.lt i2.lt qom qom qom e3
   first|refine A6 (Kv U U sizeOf3) U Ae ?_|refine A6 (Bz (T U) (T U) U sizeOf3) U Ae ?_|refine A6 (Bj (T U) (T U) U sizeOf3) U Ae ?_
   rintro _ _ ⟨rfl,rfl⟩;refine rO tb 3 U (E8 ((r3,v3,ns3)) ?_ sbt);exact⟨by omega,hst3,((gi.trans g1).trans g2).trans g3,i3.lt,by rw[hj2];exact i3.lv,by rw[hj2,hF];exact rl_y0 e1 e2 hm e3⟩
  ·have hm:xh D.bs mo.1 j=true:=b2i_n0.1 c30;refine rC tb 3 U ?_;refine y_ (Ks U isAgg30 sizeOf30 (Aw h2) (by first|exact Ed h1 fdd|exact Av)) ?_ U;refine rO tb 1 U (y_ (Ak (qe2 U U) call64 (fun H' hs=>Je mo.2 h2 (gd D.bs j) hjb)) (kO tb 4 [5,8,9,42] rfl U ?_) U)
   first|refine Ac (Aa U) (fun c42=> ?_) (fun c42=> ?_)|refine Ag (Aa U) (fun c42=> ?_) (fun c42=> ?_)
   ·have hv:xh D.bs mo.2 j=false:=b2i_0.1 c42;refine rC tb 2 U ?_
    first|refine A6 (Kv U U sizeOf3) U Ae ?_|refine A6 (Bz (T U) (T U) U sizeOf3) U Ae ?_|refine A6 (Bj (T U) (T U) U sizeOf3) U Ae ?_
    rintro _ _ ⟨rfl,rfl⟩;refine rO tb 3 U (E8 ((r1,v2,ns2)) ?_ sbt);exact⟨by omega,hst2,(gi.trans g1).trans g2,j1.lt,by rw[hj2];omega,by rw[hj2,hF];exact rl_y1 e1 e2 hm hv⟩
   ·have hv:xh D.bs mo.2 j=true:=b2i_n0.1 c42;refine rC tb 2 U ?_
    first|refine A6 (Kv U U sizeOf3) U Ae ?_|refine A6 (Bz (T U) (T U) U sizeOf3) U Ae ?_|refine A6 (Bj (T U) (T U) U sizeOf3) U Ae ?_
    rintro _ _ ⟨rfl,rfl⟩;refine rO tb 3 U (E8 ((r2,v2,ns2)) ?_ sbt);exact⟨by omega,hst2,(gi.trans g1).trans g2,i2.lt,by rw[hj2];omega,by rw[hj2,hF];exact rl_y2 e1 e2 hm hv⟩
 ·rintro D0 ⟨id,vi,nsi⟩ ⟨hk,hsti,gi,hid,hlv,hF⟩;rw[Io,Nat.sub_self] at hF;refine q_blockA (Du (E1 (Jb (rD tb 1 U (y_ (Kr U isAgg3 (by first|exact c_o)) ?_ U)))));refine rO tb 2 U (Du (Jb (rD tb 1 U (qm_mark_ret (qm_ret U (Kq U) ?_)))));exact⟨_,⟨(id,vi,nsi),⟨rfl,hF,hsti⟩,rfl⟩,by exact sbt⟩
 ·intro D9 H9 hB9
  repeat (first|refine pq_thenA ?_|refine pq_blockA ?_)
  exact pm_mark hB9
theorem set_s {w0:World}{D:Sd}{v:Sv}{ns:Ns}{R:List (Nat × Obj)}(hB:Arr w0 R D.qb 1 encB1 D.bs)(hbs:BsOk D.bs)(hst:StOk D v ns)(mo:Md)(h1:HdOk mo.1)(h2:HdOk mo.2):
  FSpecP Tryz.prog w0 133 #[.pointer (some ⟨D.p,0,none⟩), .agg (mdC mo).toArray] (SM D v ns++R) (OpK D (setF D.most.toNat D.bs.length (xh D.bs mo.1) (xh D.bs mo.2) ns) R) (.iface 148 (.agg #[])) (OpB D (setF D.most.toNat D.bs.length (xh D.bs mo.1) (xh D.bs mo.2) ns) ns R):=by
 refine fn_specA Tryz.func133 U ntmps133 U ?_;have hbl:=hst.bl;have hw:=hst.w;refine E1 (Jb (rD tb 1 U (e_ (Kw U cs_) ?_ U)));rintro _ _ ⟨n2,rfl,rfl⟩;refine e_ (Kw U cs_) ?_ U;rintro _ _ ⟨n3,rfl,rfl⟩;refine rO tb 2 U (Du (E1 (Jb (rD tb 1 U (e_ (Al zeroValue3 cs_) ?_ U)))));rintro _ _ ⟨n5,rfl,rfl⟩
 first|refine A6 (Au (T U) Aj sizeOf3) U Ae ?_|refine A6 (Bz (T U) Aj U sizeOf3) U Ae ?_|refine A6 (Bj (T U) Aj U sizeOf3) U Ae ?_
 rintro _ _ ⟨rfl,rfl⟩;refine rO tb 1 U (Du (E1 (E1 (Jb (rD tb 1 U (y_ (Kr U isAgg34 (by first|exact c_o)) ?_ U))))));refine rO tb 2 U ?_;refine y_ (Kr U isAgg65 (by first|exact c_o|exact B7 (by repeat (first|exact Dl|exact sb0|refine List.Sublist.cons _ ?_)) U)) ?_ U;refine e_ (Ar (qe1 U) call138 (back_s D.qb D.bs.length D.cb)) ?_ U;rintro _ _ ⟨m,rfl,rfl⟩;refine rO tb 1 U (Du (ja_block ?_));refine ja_range (Z:=Nat × Sv × Ns) Tryz.func133 (T rfl) call170 (back_it (.iface 148 (.agg #[])) (H:=(m,Cl [.slice D.qb D.bs.length D.cb] 65)::R) As (hB.mono (by exact sbt)) qom) (fun _=>rfl) rfl (fun ⟨id,vi,nsi⟩=>(m,Cl [.slice D.qb D.bs.length D.cb] 65)::(n5,Cl [.int .i64 (id:Nat)] 3)::(n3,Cl (mdC mo) 78)::(n2,Cl [.pointer (some ⟨D.p,0,none⟩)] 34)::(SM D vi nsi++R)) (fun k ⟨id,vi,nsi⟩=>k≤D.bs.length∧StOk D vi nsi∧Gr (2*D.bs.length) ns nsi∧id<nsi.length∧2*(D.bs.length - k)≤lvl nsi id∧(setF D.most.toNat D.bs.length (xh D.bs mo.1) (xh D.bs mo.2) ns)=stF D.most.toNat (xh D.bs mo.1) (xh D.bs mo.2) (D.bs.length - k) nsi id) (OpB D (setF D.most.toNat D.bs.length (xh D.bs mo.1) (xh D.bs mo.2) ns) ns R) ((1,v,ns)) ?_ sbt ?_ ?_ ?_ ?_
 ·exact⟨Nat.zero_le _,hst, .refl hw,by have:=hw.two;omega,by rw[hw.lv1];omega,rfl⟩
 ·intro _;exact sbt
 ·rintro l lr Y X k x ⟨id,vi,nsi⟩ hl hx ⟨hk,hsti,gi,hid,hlv,hF⟩;obtain⟨hkl,rfl⟩:=bkL_inv hx;obtain⟨j,hj⟩:∃ j,D.bs.length - 1 - k=j:=⟨_,rfl⟩;rw[hj];have hj1:D.bs.length - k=j+1:=by omega
  have hj2:D.bs.length - (k+1)=j:=by omega
  rw[hj1] at hlv hF;have hwi:=hsti.w;have ht:=hwi.two;have hl0:=hwi.lv0;have hjb:gd D.bs j<160:=hbs.lt _ (A2 qom);refine j_keep [(2,_),(3,_),(5,_),(13,_),(14,_)] ⟨Aa U,Aa U,Aa U,Aa U,Aa U,trivial⟩ (rD tb 8 U (q_begin hl ?_));refine rD tb 5 U ?_;refine y_ (Ks U isAgg30 sizeOf30 (Aw h1) (by first|exact Et fdd|exact Av)) ?_ U;refine rO tb 1 U (y_ (Ak (qe2 U U) call64 (fun H' hs=>Je mo.1 h1 (gd D.bs j) hjb)) (rO tb 4 U ?_) U)
  first|refine Ac (Aa U) (fun c20=> ?_) (fun c20=> ?_)|refine Ag (Aa U) (fun c20=> ?_) (fun c20=> ?_)
  ·have hm:xh D.bs mo.1 j=false:=b2i_0.1 c20;refine rC tb 3 U (E8 ((id,vi,nsi)) ?_ sbt);exact⟨by omega,hsti,gi,hid,by rw[hj2];omega,by rw[hj2,hF];exact st_s hm⟩
  ·have hm:xh D.bs mo.1 j=true:=b2i_n0.1 c20;refine rC tb 3 U ?_;refine y_ (Ks U isAgg30 sizeOf30 (Aw h2) (by first|exact Ed h1 fdd|exact Av)) ?_ U;refine rO tb 1 U (y_ (Ak (qe2 U U) call64 (fun H' hs=>Je mo.2 h2 (gd D.bs j) hjb)) (rO tb 4 U ?_) U)
   first|refine Ac (Aa U) (fun c26=> ?_) (fun c26=> ?_)|refine Ag (Aa U) (fun c26=> ?_) (fun c26=> ?_)
   ·have hv:xh D.bs mo.2 j=false:=b2i_0.1 c26;refine rC tb 1 U (y_ (Kr U isAgg34 (by first|exact c_o)) ?_ U);refine rO tb 1 U (y_ (Hm (a:=2) Aj (T U) qom) ?_ U);refine y_ (Kr U isAgg3 (by first|exact c_o)) ?_ U;refine p_ (A5 (.cons (T rfl) (.cons (T rfl) (.cons (T rfl) (.cons Aj .nil)))) call75 (Bc (M:=SM D vi nsi) (Fz hsti _ (2*j) id 0 hid qom qom qom qom) (by repeat (first|exact Bw|exact LocL.h|apply LocL.t|apply LocL.a)))) ?_ (by rintro _ ⟨⟨v1,ns1⟩,⟨e1,g1,hst1⟩,rfl⟩;(repeat refine Ca ?_);exact F0 (H1:=SM D v1 ns1++R) ⟨(v1,ns1),⟨by rw[hF];exact st_n0 hm hv e1,gi.trans g1,hst1⟩,rfl⟩ (by exact sbt)) rfl;rintro _ _ ⟨⟨r1,v1,ns1⟩,⟨rfl,e1,hst1⟩,rfl⟩
    dsimp only at e1 hst1
    obtain⟨g1,i1⟩:=El hwi hid qom qom qom qom e1
    first|refine A6 (Kv U U sizeOf3) U Ae ?_|refine A6 (Bz (T U) (T U) U sizeOf3) U Ae ?_|refine A6 (Bj (T U) (T U) U sizeOf3) U Ae ?_
    rintro _ _ ⟨rfl,rfl⟩;refine rO tb 3 U (E8 ((r1,v1,ns1)) ?_ sbt);exact⟨by omega,hst1,gi.trans g1,i1.lt,by rw[hj2];exact i1.lv,by rw[hj2,hF];exact st_y0 hm hv e1⟩
   ·have hv:xh D.bs mo.2 j=true:=b2i_n0.1 c26;refine rC tb 1 U (y_ (Kr U isAgg34 (by first|exact c_o)) ?_ U);refine rO tb 1 U (y_ (Hm (a:=2) Aj (T U) qom) ?_ U);refine y_ (Kr U isAgg3 (by first|exact c_o)) ?_ U;refine p_ (A5 (.cons (T rfl) (.cons (T rfl) (.cons Aj (.cons (T rfl) .nil)))) call75 (Bc (M:=SM D vi nsi) (Fz hsti _ (2*j) 0 id qom hid qom qom qom) (by repeat (first|exact Bw|exact LocL.h|apply LocL.t|apply LocL.a)))) ?_ (by rintro _ ⟨⟨v1,ns1⟩,⟨e1,g1,hst1⟩,rfl⟩;(repeat refine Ca ?_);exact F0 (H1:=SM D v1 ns1++R) ⟨(v1,ns1),⟨by rw[hF];exact st_n1 hm hv e1,gi.trans g1,hst1⟩,rfl⟩ (by exact sbt)) rfl;rintro _ _ ⟨⟨r1,v1,ns1⟩,⟨rfl,e1,hst1⟩,rfl⟩
    dsimp only at e1 hst1
    obtain⟨g1,i1⟩:=El hwi qom hid qom qom qom e1
    first|refine A6 (Kv U U sizeOf3) U Ae ?_|refine A6 (Bz (T U) (T U) U sizeOf3) U Ae ?_|refine A6 (Bj (T U) (T U) U sizeOf3) U Ae ?_
    rintro _ _ ⟨rfl,rfl⟩;refine rO tb 3 U (E8 ((r1,v1,ns1)) ?_ sbt);exact⟨by omega,hst1,gi.trans g1,i1.lt,by rw[hj2];exact i1.lv,by rw[hj2,hF];exact st_y1 hm hv e1⟩
 ·rintro D0 ⟨id,vi,nsi⟩ ⟨hk,hsti,gi,hid,hlv,hF⟩;rw[Io,Nat.sub_self] at hF;refine q_blockA (Du (E1 (Jb (rD tb 1 U (y_ (Kr U isAgg3 (by first|exact c_o)) ?_ U)))));refine rO tb 2 U (Du (Jb (rD tb 1 U (qm_mark_ret (qm_ret U (Kq U) ?_)))));exact⟨_,⟨(id,vi,nsi),⟨rfl,hF,hsti⟩,rfl⟩,by exact sbt⟩
 ·intro D9 H9 hB9
  repeat (first|refine pq_thenA ?_|refine pq_blockA ?_)
  exact pm_mark hB9
theorem zbd107_z  (w:World):(Instr.build 107 #[]).run Tryz.prog w= .ok (.agg #[.int .i64 0, .int .i64 0, .int .i64 0, .int .i64 0, .int .i64 0, .int .i64 0, .int .i64 0, .int .i64 0, .int .i64 0, .int .i64 0, .int .i64 0, .int .i64 0, .int .i64 0, .int .i64 0, .int .i64 0, .int .i64 0, .int .i64 0, .int .i64 0, .int .i64 0, .int .i64 0]) w:=by kernel_rfl
theorem perm_sq {α:Type}{a b c d:α}{S R:List α}:(a::b::c::d::(S++R)).Perm ((c::S)++(a::b::d::R)):=by
 have h1:(a::b::c::d::(S++R)).Perm (c::(a::b::d::(S++R))):=List.perm_middle (l₁:=[a,b]) (a:=c);have h2:([a,b,d]++(S++R)).Perm (S++([a,b,d]++R)):=List.perm_append_comm_assoc _ _ _;exact h1.trans (h2.cons c)
theorem seA_some {most:Nat}{ns ms:Ns}{a b id:Nat}{kn:Kn}{k:Nat}(hk:lvl ns 0+1=k)(h:seF most k [] ns a b=some (id,kn,ms)):seA most ns a b=some (id,ms):=by subst hk;unfold seA;rw[h];rfl
theorem seA_none {most:Nat}{ns:Ns}{a b:Nat}{k:Nat}(hk:lvl ns 0+1=k)(h:seF most k [] ns a b=none):seA most ns a b=none:=by subst hk;unfold seA;rw[h];rfl
theorem ks_nil {N:Nat}{ns:Ns}:KsOk N ns []:=fun a b id h=>by cases h
theorem gd_hd0 (i:Nat):gd hd0 i=0:=by
 by_cases h:i<10
 ·have:i=0∨i=1∨i=2∨i=3∨i=4∨i=5∨i=6∨i=7∨i=8∨i=9:=by omega
  rcases this with rfl|rfl|rfl|rfl|rfl|rfl|rfl|rfl|rfl|rfl<;>rfl
 ·unfold gd List.getD;rw[List.getElem?_eq_none (by simp;omega)];rfl
theorem Js (bs:List Nat):xh bs hd0=fun _=>false:=by
 funext k
 unfold xh hbit;rw[gd_hd0];simp
def lack (N:Nat) (ns:Ns) (id:Nat):Nat:=(List.range (2 ^ N)).countP fun c=> !sem ns id (fun k=>c.testBit k)
theorem lack_le (N:Nat)(ns:Ns)(id:Nat):lack N ns id≤2 ^ N:=by
 have:=List.countP_le_length (p:=fun c=> !sem ns id (fun k=>c.testBit k)) (l:=List.range (2 ^ N))
 simpa[lack] using this
theorem countP_lt {α:Type}{p q:α→Bool}:∀ {l:List α},(∀ x∈l,p x=true→q x=true)→(∃ x∈l,p x=false∧q x=true)→l.countP p<l.countP q
 |[],_,⟨x,h,_⟩=>by cases h
 |y::l,hpq,⟨x,hx,h1,h2⟩=>by
  rw[List.countP_cons,List.countP_cons];have hle:l.countP p≤l.countP q:=List.countP_mono_left fun x hx=>hpq x (by simp[hx])
  by_cases e:p y=true
  ·have e2:=hpq y (by simp) e;rw[if_pos e,if_pos e2];have hx':x∈l:=by
    rcases List.mem_cons.1 hx with rfl|h
    ·rw[h1] at e;cases e
    ·exact h
   have:=countP_lt (fun x hx=>hpq x (by simp[hx])) ⟨x,hx',h1,h2⟩;omega
  ·rw[if_neg e]
   by_cases e2:q y=true
   ·rw[if_pos e2];omega
   ·rw[if_neg e2];have hx':x∈l:=by
     rcases List.mem_cons.1 hx with rfl|h
     ·exact absurd h2 e2
     ·exact h
    have:=countP_lt (fun x hx=>hpq x (by simp[hx])) ⟨x,hx',h1,h2⟩;omega
theorem lack_lt {N:Nat}{ns ms:Ns}{i j:Nat}(hn:Wf N ns)(hm:Wf N ms)(g:Gr N ns ms)(hi:i<ns.length)(hj:j<ms.length)(hs:∀ α,sem ns i α=true→sem ms j α=true)(hne:i≠j):lack N ms j<lack N ns i:=by
 have him:=Nat.lt_of_lt_of_le hi g.le;have hex:∃ α,sem ms i α≠sem ms j α:=Classical.byContradiction fun h=>hne (sem_inj hm him hj fun α=>Classical.byContradiction fun h2=>h ⟨α,h2⟩)
 obtain⟨α,hα⟩:=hex;obtain⟨c,hc,hb⟩:∃ c,c<2 ^ N∧∀ k,k<N→c.testBit k=α k:=⟨ofB α N,I0 α N,fun k hk=>by rw[Hi];simp[hk]⟩;have e1:∀ {ns:Ns} (hw:Wf N ns) {i:Nat},i<ns.length→sem ns i (fun k=>c.testBit k)=sem ns i α:=fun {ns} hw {i} hi=>Cx hw i hi _ _ fun k _ hk=>hb k hk
 refine countP_lt (fun x _ h=> ?_) ⟨c,by simpa using hc,?_,?_⟩
 ·simp only[Bool.not_eq_true'] at h ⊢;cases h2:sem ns i (fun k=>x.testBit k)
  ·rfl
  ·rw[hs _ h2] at h;cases h
 ·rw[e1 hm hj];cases h2:sem ms j α
  ·rw[h2] at hα;have h3:sem ms i α=true:=by simpa using hα
   rw[g.sem hn hi] at h3;rw[hs _ h3] at h2;cases h2
  ·rfl
 ·rw[e1 hn hi,← g.sem hn hi];cases h2:sem ms i α
  ·rfl
  ·rw[h2] at hα;have h3:sem ms j α=false:=by
    cases h4:sem ms j α
    ·rfl
    ·rw[h4] at hα;exact absurd U hα
   rw[g.sem hn hi] at h2;rw[hs _ h2] at h3;cases h3
def rdN (bs:List Nat):Nat:=2 ^ (2*bs.length)+1
theorem seq_s {w0:World}{D:Sd}{v:Sv}{ns:Ns}(hst:StOk D v ns)(R:List (Nat × Obj))(a b:Nat)(ha:a<ns.length)(hb:b<ns.length):
  FSpecP Tryz.prog w0 73 #[.pointer (some ⟨D.p,0,none⟩), .int .i64 (a:Nat), .int .i64 (b:Nat)] (SM D v ns++R) (OpK D (seA D.most.toNat ns a b) R) (.iface 148 (.agg #[])) (OpB D (seA D.most.toNat ns a b) ns R):=by
 refine Bv Tryz.func73 U ntmps73 U (rD tb 2 U (e_ (Kw U cs_) ?_ U));rintro _ _ ⟨n3,rfl,rfl⟩;refine rO tb 5 U (e_ C8 ?_ U);rintro _ _ ⟨n9,rfl,rfl⟩;refine e_ (Al zeroValue166 cs_) ?_ U;rintro _ _ ⟨n7,rfl,rfl⟩
 first|refine A6 (Kv U U sizeOf166) U Ae ?_|refine A6 (Bz (T U) (T U) U sizeOf166) U Ae ?_|refine A6 (Bj (T U) (T U) U sizeOf166) U Ae ?_
 rintro _ _ ⟨rfl,rfl⟩;refine rO tb 4 U (e_ (Al zeroValue129 cs_) ?_ U);rintro _ _ ⟨n8,rfl,rfl⟩;refine rO tb 4 U (y_ (B9 (.cons (T U) (.cons (T U) (.cons (T U) .nil)))) ?_ U)
 first|refine A6 (Kv U U sizeOf129) U Ae ?_|refine A6 (Bz (T U) (T U) U sizeOf129) U Ae ?_|refine A6 (Bj (T U) (T U) U sizeOf129) U Ae ?_
 rintro _ _ ⟨rfl,rfl⟩;refine rO tb 4 U (y_ (Kr U isAgg129 (by first|exact c_o)) ?_ U);have hO:SqOk D ⟨(n8,Cl [.func (.func 113) #[] #[.pointer (some ⟨n7,0,none⟩), .pointer (some ⟨n3,0,none⟩), .pointer (some ⟨n8,0,none⟩)]] 129)::(n7,Cl [.map (some n9)] 166)::(n3,Cl [.pointer (some ⟨D.p,0,none⟩)] 34)::R,n7,n3,n8,n9⟩:=⟨Ax As,Ax (Ax As),As⟩;refine rO tb 2 U ?_;refine p_ (C7 (T rfl) (.cons (T rfl) (.cons (T rfl) .nil)) call113 (spec_permP (se_s (A:=⟨(n8,Cl [.func (.func 113) #[] #[.pointer (some ⟨n7,0,none⟩), .pointer (some ⟨n3,0,none⟩), .pointer (some ⟨n8,0,none⟩)]] 129)::(n7,Cl [.map (some n9)] 166)::(n3,Cl [.pointer (some ⟨D.p,0,none⟩)] 34)::R,n7,n3,n8,n9⟩) hO (2*D.bs.length+1) (R:=(n8,Cl [.func (.func 113) #[] #[.pointer (some ⟨n7,0,none⟩), .pointer (some ⟨n3,0,none⟩), .pointer (some ⟨n8,0,none⟩)]] 129)::(n7,Cl [.map (some n9)] 166)::(n3,Cl [.pointer (some ⟨D.p,0,none⟩)] 34)::R) (kn:=[]) sb0 hst ks_nil ha hb qom) perm_sq)) ?_ (by rintro _ ⟨⟨kn1,v1,ns1⟩,⟨e1,g1,hst1⟩,rfl⟩;(repeat refine Ca ?_);exact Bo ⟨(v1,ns1),⟨seA_none (by rw[hst.w.lv0]) e1,g1,hst1⟩,rfl⟩ (by exact sbt)) rfl;rintro _ _ ⟨⟨id,kn,v1,ns1⟩,⟨rfl,e1,hst1⟩,rfl⟩
 dsimp only at e1 hst1
 refine rO tb 4 U (By U (Kq U) ?_);exact⟨_,⟨(id,v1,ns1),⟨rfl,seA_some (by rw[hst.w.lv0]) e1,hst1⟩,rfl⟩,by exact sbt⟩
theorem filter_s {w0:World}{D:Sd}{v:Sv}{ns:Ns}{R:List (Nat × Obj)}(hB:Arr w0 R D.qb 1 encB1 D.bs)(hbs:BsOk D.bs)(hst:StOk D v ns)(a:Nat)(ha:a<ns.length):
  FSpecP Tryz.prog w0 77 #[.pointer (some ⟨D.p,0,none⟩), .int .i64 (a:Nat)] (SM D v ns++R) (OpK D (filF D.most.toNat D.bs ns a) R) (.iface 148 (.agg #[])) (OpB D (filF D.most.toNat D.bs ns a) ns R):=by
 refine Bv Tryz.func77 U ntmps77 U (rD tb 10 U (y_ (A8 .nil (zbd107_z)) ?_ U));refine p_ (A5 (.cons (T rfl) (.cons (T rfl) .nil)) call96 (Bc (M:=SM D v ns) (relation_s (R:=R) hB hbs hst (hd0,hd0) B6 B6) (by repeat (first|exact Bw|exact LocL.h|apply LocL.t|apply LocL.a)))) ?_ (by rintro _ ⟨⟨v1,ns1⟩,⟨e1,g1,hst1⟩,rfl⟩;(repeat (first|refine Ca ?_|refine Bu ?_));exact Bo ⟨(v1,ns1),⟨by rw[Js] at e1;unfold filF;rw[e1],g1,hst1⟩,rfl⟩ (by exact sbt)) rfl;rintro _ _ ⟨⟨r1,v1,ns1⟩,⟨rfl,e1,hst1⟩,rfl⟩
 dsimp only at e1 hst1
 rw[Js] at e1;obtain⟨g1,i1⟩:=Iz hst.w e1;refine p_ (A5 (.cons (T rfl) (.cons (T rfl) (.cons (T rfl) .nil))) call115 (Bc (M:=SM D v1 ns1) (and_s hst1 _ a r1 (Nat.lt_of_lt_of_le ha g1.le) i1.lt) (by repeat (first|exact Bw|exact LocL.h|apply LocL.t|apply LocL.a)))) ?_ (by rintro _ ⟨⟨v2,ns2⟩,⟨e2,g2,hst2⟩,rfl⟩;(repeat (first|refine Ca ?_|refine Bu ?_));exact Bo ⟨(v2,ns2),⟨by unfold filF;rw[e1];exact e2,g1.trans g2,hst2⟩,rfl⟩ (by exact sbt)) rfl;rintro _ _ ⟨⟨r2,v2,ns2⟩,⟨rfl,e2,hst2⟩,rfl⟩
 dsimp only at e2 hst2
 refine rO tb 4 U (By U (Kq U) ?_);exact⟨_,⟨(r2,v2,ns2),⟨rfl,by unfold filF;rw[e1];exact e2,hst2⟩,rfl⟩,by exact sbt⟩
theorem star_s {w0:World}{D:Sd}{v:Sv}{ns:Ns}{R:List (Nat × Obj)}(hB:Arr w0 R D.qb 1 encB1 D.bs)(hbs:BsOk D.bs)(hst:StOk D v ns)(a:Nat)(ha:a<ns.length):
  FSpecP Tryz.prog w0 98 #[.pointer (some ⟨D.p,0,none⟩), .int .i64 (a:Nat)] (SM D v ns++R) (OpK D (starF D.most.toNat D.bs.length (rdN D.bs) ns a) R) (.iface 148 (.agg #[])) (OpB D (starF D.most.toNat D.bs.length (rdN D.bs) ns a) ns R):=by
 refine Bv Tryz.func98 U ntmps98 U ?_;have hw:=hst.w;refine rD tb 9 U (y_ (A8 .nil (zbd107_z)) ?_ U);refine p_ (A5 (.cons (T rfl) (.cons (T rfl) .nil)) call96 (Bc (M:=SM D v ns) (relation_s (R:=R) hB hbs hst (hd0,hd0) B6 B6) (by repeat (first|exact Bw|exact LocL.h|apply LocL.t|apply LocL.a)))) ?_ (by rintro _ ⟨⟨v1,ns1⟩,⟨e1,g1,hst1⟩,rfl⟩;(repeat (first|refine Ca ?_|refine Bu ?_));exact Bo ⟨(v1,ns1),⟨by rw[Js] at e1;unfold starF;rw[e1],g1,hst1⟩,rfl⟩ (by exact sbt)) rfl;rintro _ _ ⟨⟨r1,v1,ns1⟩,⟨rfl,e1,hst1⟩,rfl⟩
 dsimp only at e1 hst1
 rw[Js] at e1;obtain⟨g1,i1⟩:=Iz hst.w e1;refine rO tb 1 U ?_;refine p_ (A5 (.cons (T rfl) (.cons (T rfl) (.cons (T rfl) .nil))) call71 (Bc (M:=SM D v1 ns1) (Kl hst1 _ r1 a i1.lt (Nat.lt_of_lt_of_le ha g1.le)) (by repeat (first|exact Bw|exact LocL.h|apply LocL.t|apply LocL.a)))) ?_ (by rintro _ ⟨⟨v2,ns2⟩,⟨e2,g2,hst2⟩,rfl⟩;(repeat (first|refine Ca ?_|refine Bu ?_));exact Bo ⟨(v2,ns2),⟨by unfold starF;rw[e1];simp only[];rw[e2],g1.trans g2,hst2⟩,rfl⟩ (by exact sbt)) rfl;rintro _ _ ⟨⟨r2,v2,ns2⟩,⟨rfl,e2,hst2⟩,rfl⟩
 dsimp only at e2 hst2
 obtain⟨g2,i2⟩:=E0 Em g1.w i1.lt (Nat.lt_of_lt_of_le ha g1.le) e2;have hs2:=sta_0 hw ha g1 i1 g2 i2;refine rO tb 4 U ?_;refine A9 (X:=Nat × Nat × Sv × Ns) (V:=fun ⟨r,id,vi,nsi⟩=>[(5, .int .i64 (id:Nat))]) (C:=[(0,_)]) (G:=fun ⟨r,id,vi,nsi⟩=>SM D vi nsi++R) (φ:=fun ⟨r,id,vi,nsi⟩=>StOk D vi nsi∧Gr (2*D.bs.length) ns nsi∧Stq D.bs.length nsi id (sem ns a)∧starF D.most.toNat D.bs.length (rdN D.bs) ns a=srF D.most.toNat (r+1) nsi id∧lack (2*D.bs.length) nsi id≤r) (μ:=fun ⟨r,id,vi,nsi⟩=>lack (2*D.bs.length) nsi id) (x0:=(2 ^ (2*D.bs.length),r2,v2,ns2)) ?_ ⟨Aa rfl,trivial⟩ ⟨atd,trivial⟩ sb0 ?_
 ·exact⟨hst2,g1.trans g2,hs2,by unfold starF;rw[e1];simp only[];rw[e2];rfl,lack_le _ _ _⟩
 rintro⟨r,id,vi,nsi⟩ ⟨hsti,gi,hq,hF,hla⟩;refine rD tb 6 U ?_;refine p_ (A5 (.cons (T rfl) (.cons (T rfl) (.cons (T rfl) .nil))) call73 (Bc (M:=SM D vi nsi) (seq_s hsti _ id id hq.lt hq.lt) (by repeat (first|exact Bw|exact LocL.h|apply LocL.t|apply LocL.a)))) ?_ (by rintro _ ⟨⟨v3,ns3⟩,⟨e3,g3,hst3⟩,rfl⟩;(repeat (first|refine Ca ?_|refine Bu ?_));exact Bo ⟨(v3,ns3),⟨by rw[hF,srF,e3],gi.trans g3,hst3⟩,rfl⟩ (by exact sbt)) rfl;rintro _ _ ⟨⟨r3,v3,ns3⟩,⟨rfl,e3,hst3⟩,rfl⟩
 dsimp only at e3 hst3
 obtain⟨g3,i3⟩:=seA_ok qom hsti.w hq.lt hq.lt e3;obtain⟨hq3,hmo⟩:=hq.next (sem_mixes hw ha) i3;refine rO tb 11 U ?_
 first|refine Ac (Aa U) (fun c19=> ?_) (fun c19=> ?_)|refine Ag (Aa U) (fun c19=> ?_) (fun c19=> ?_)
 ·have hri:r3=id:=by omega
  refine rC tb 9 U (Ba (rX tb 1 U (By U (Kq U) ?_)));exact⟨_,⟨(id,v3,ns3),⟨rfl,by rw[hF,srF,e3];simp only[];rw[if_pos hri],hst3⟩,rfl⟩,by exact sbt⟩
 ·have hri: ¬ r3=id:=fun e=>c19 (by rw[e])
  refine rC tb 7 U ?_;have hlt:=lack_lt hsti.w g3.w g3 hq.lt hq3.lt hmo (fun e=>hri e.symm);refine A0 ((r - 1,r3,v3,ns3)) ?_ ?_ ⟨atd,trivial⟩ ⟨Aa U,trivial⟩ ?_
  ·exact⟨hst3,gi.trans g3,hq3,by rw[hF,srF,e3];simp only[];rw[if_neg hri];rw[show r - 1+1=r by omega],by omega⟩
  ·exact hlt
  ·exact sbt
def andN (a b:Nat):Nat:=a ^^^ (a &&& b)
theorem Cw (a b i:Nat):(andN a b).testBit i=(a.testBit i&& !b.testBit i):=by
 unfold andN;rw[Nat.testBit_xor,Nat.testBit_and];cases a.testBit i<;>cases b.testBit i<;>rfl
theorem Fn {a b k:Nat}(h:a<2 ^ k):andN a b<2 ^ k:=Nat.xor_lt_two_pow h (Nat.lt_of_le_of_lt Nat.and_le_left h)
theorem two63:(2:Nat) ^ 63=9223372036854775808:=by decide
section
variable {P:Program} {w0:World} {L:Fm} {H:List (Nat × Obj)} {ty xt yt:TypeId} {x y:Operand}
theorem Fo {m n:Nat}(hm:m<9223372036854775808)(hn:n<9223372036854775808)(hx:Ev L x (.int .i64 (m:Int)))(hy:Ev L y (.int .i64 (n:Int))):Yl P w0 (.binOp .andNot xt x y yt) ty L H (.int .i64 ((andN m n:Nat):Int)):=Bb U fun b w=>by
 have t64:=two64;have e:(BitVec.ofInt 64 (m:Int) &&& ~~~ BitVec.ofInt 64 (n:Int)).toNat=andN m n:=by
  refine Nat.eq_of_testBit_eq fun i=> ?_
  rw[D7,D7,Cw];rw[BitVec.toNat_and,Nat.testBit_and,BitVec.toNat_ofNat,Nat.mod_eq_of_lt qom]
  by_cases hi:i<64
  ·have h9:(BitVec.ofNat 64 n).getLsbD i=n.testBit i:=by rw[← BitVec.testBit_toNat,BitVec.toNat_ofNat,Nat.mod_eq_of_lt qom]
   rw[BitVec.testBit_toNat,BitVec.getLsbD_not,h9];simp[hi]
  ·have:m.testBit i=false:=Nat.testBit_lt_two_pow (Nat.lt_of_lt_of_le (by omega:m<2 ^ 64) (Nat.pow_le_pow_right qde qom));rw[this];simp
 have hl:andN m n<2 ^ 63:=Fn (by rw[two63];exact hm);rw[two63] at hl;have e2:IntKind.i64.wrap ((andN m n:Nat):Int)=((andN m n:Nat):Int):=IntWalk.i64_in _ qom;have e3:(Op.intBits .andNot .i64 (m:Int) (n:Int)).run P w= .ok (.int .i64 ((andN m n:Nat):Int)) w:=by
  show Result.ok (Value.int .i64 (IntKind.i64.wrap ((BitVec.ofInt 64 (m:Int) &&& ~~~ BitVec.ofInt 64 (n:Int)).toNat:Int))) w=_;rw[e,e2]
 simp[exO,execOp,hx b,hy b,binOp,eqGuard,Sem.run_bind,Result.andThen,e3]
theorem Jt {m n:Nat}(hm:m<9223372036854775808)(hn:n<9223372036854775808)(hx:Ev L x (.int .i64 (m:Int)))(hy:Ev L y (.int .i64 (n:Int))):Yl P w0 (.binOp .or xt x y yt) ty L H (.int .i64 ((m|||n:Nat):Int)):=Bb U fun b w=>by
 have t64:=two64;have e:(BitVec.ofInt 64 (m:Int)|||BitVec.ofInt 64 (n:Int)).toNat=m|||n:=by
  rw[D7,D7,BitVec.toNat_or,BitVec.toNat_ofNat,BitVec.toNat_ofNat,Nat.mod_eq_of_lt qom,Nat.mod_eq_of_lt qom]
 have hl:m|||n<2 ^ 63:=Nat.or_lt_two_pow (by rw[two63];exact hm) (by rw[two63];exact hn)
 rw[two63] at hl;have e2:IntKind.i64.wrap ((m|||n:Nat):Int)=((m|||n:Nat):Int):=IntWalk.i64_in _ qom;have e3:(Op.intBits .or .i64 (m:Int) (n:Int)).run P w= .ok (.int .i64 ((m|||n:Nat):Int)) w:=by
  show Result.ok (Value.int .i64 (IntKind.i64.wrap ((BitVec.ofInt 64 (m:Int)|||BitVec.ofInt 64 (n:Int)).toNat:Int))) w=_;rw[e,e2]
 simp[exO,execOp,hx b,hy b,binOp,eqGuard,Sem.run_bind,Result.andThen,e3]
theorem D4 {m n:Nat}(hn:n<64)(h:m*2 ^ n<9223372036854775808)(hx:Ev L x (.int .i64 (m:Int)))(hy:Ev L y (.int .i64 (n:Int))):Yl P w0 (.binOp .shl xt x y yt) ty L H (.int .i64 ((m*2 ^ n:Nat):Int)):=Bb U fun b w=>by
 have e1: ¬ (n:Int)<0:=by omega
 have e2:min n 64=n:=by omega
 have e5:(m:Int)*2 ^ n=((m*2 ^ n:Nat):Int):=by simp
 have e6:IntKind.i64.wrap ((m*2 ^ n:Nat):Int)=((m*2 ^ n:Nat):Int):=IntWalk.i64_in _ qom;have e3:(Op.shift .shl .i64 (m:Int) .i64 (n:Int)).run P w= .ok (.int .i64 ((m*2 ^ n:Nat):Int)) w:=by
  unfold Op.shift;rw[if_neg e1];simp only[Int.toNat_natCast,IntKind.bits,e2];show Result.ok (Value.int .i64 (IntKind.i64.wrap ((m:Int)*2 ^ n))) w=_;rw[e5,e6]
 have e7:IntKind.i64.wrap ((m:Int)*2 ^ n)=(m:Int)*2 ^ n:=by rw[e5,e6]
 simp[exO,execOp,hx b,hy b,binOp,eqGuard,Sem.run_bind,Result.andThen,e3,e7]
end
theorem Co {n:Nat}(h:n≤16):2 ^ n≤65536:=Nat.pow_le_pow_right (n:=2) qde h
theorem hbit_set {h:Hd}{i x b:Nat}(hi:i<h.length):hbit (h.set i x) b=if b / 16=i then x.testBit (15 - b % 16) else hbit h b:=by
 unfold hbit gd List.getD
 by_cases e:b / 16=i
 ·subst e;simp[hi]
 ·rw[if_neg e,List.getElem?_set_ne (fun e2=>e e2.symm)]
theorem Dd {h:Hd}(hh:HdOk h){i x:Nat}(hx:x<65536):HdOk (h.set i x):=⟨by rw[List.length_set,hh.len],fun w hw=>by
 rcases List.mem_or_eq_of_mem_set hw with h1|rfl
 ·exact hh.lt _ h1
 ·exact hx⟩
theorem hdC_set (h:Hd)(i x:Nat):(hdC h).set i (encNI x)=hdC (h.set i x):=(List.map_set ..).symm
theorem setN_hd {h:Hd}{i x:Nat}(hi:i<h.length)(r:List Value):setN? (hdC h++r) (0+((i:Nat):Int).toNat*1) (.int .i64 (x:Nat))=some (hdC (h.set i x)++r):=by
 have e:0+((i:Nat):Int).toNat*1=i:=by omega
 rw[e];have:∀ (l r:List Value) (k:Nat) (v:Value),k<l.length→setN? (l++r) k v=some (l.set k v++r):=by
  intro l
  induction l with
  |nil=>intro r k v h;simp at h
  |cons y l ih=>
   intro r k v h;cases k with
   |zero=>rfl
   |succ k=>
    have:=ih r k v (by simpa using h);show (match setN? (l++r) k v with|some l'=>some (y::l')|none=>none)=_;rw[this];rfl
 rw[this _ _ _ _ (by simpa using hi),hdC_set]
theorem Dv (h:Hd):(hdC h).all oneB=true:=by
 rw[List.all_eq_true];intro v hv;obtain⟨x,_,rfl⟩:=List.mem_map.1 hv
 rfl
theorem F8 {h:Hd}{i x:Nat}(hi:i<h.length):setN? (hdC h) (0+((i:Nat):Int).toNat*1) (.int .i64 (x:Nat))=some (hdC (h.set i x)):=by
 have:=setN_hd (x:=x) hi []
 simpa using this
theorem hd10 {h:Hd}(hh:HdOk h):∃ a b c d e f g i j k,h=[a,b,c,d,e,f,g,i,j,k]:=by
 have:=hh.len
 match h,this with
 |[a,b,c,d,e,f,g,i,j,k],_=>exact⟨a,b,c,d,e,f,g,i,j,k,rfl⟩
abbrev encF (f:Fd):List Value:=[.string f.nm, .int .i64 (f.pos:Nat), .int .i64 (f.w:Nat)]
theorem set_word {f:Fd}(hf:FdOk f){h:Hd}(hh:HdOk h){n:Nat}(hn:n<2 ^ f.w):h.set (f.pos / 16) (andN (gd h (f.pos / 16)) ((2 ^ f.w - 1)*2 ^ (16 - f.pos % 16 - f.w))|||n*2 ^ (16 - f.pos % 16 - f.w))=fset f h n:=by
 have h1:=hf.fit;have h2:=hf.lt;have hp:f.pos / 16<h.length:=by rw[hh.len];omega
 generalize hs:16 - f.pos % 16 - f.w=s;have hx:andN (gd h (f.pos / 16)) ((2 ^ f.w - 1)*2 ^ s)|||n*2 ^ s<2 ^ 16:=by
  refine Nat.or_lt_two_pow (Fn (Db hh _)) ?_;have:n*2 ^ s<2 ^ f.w*2 ^ s:=Nat.mul_lt_mul_of_pos_right hn (Nat.two_pow_pos s);rw[← Nat.pow_add] at this;exact Nat.lt_of_lt_of_le this (Nat.pow_le_pow_right qde qom)
 refine Cp (Dd hh hx) (Ct _ _ _) fun b hb=> ?_
 rw[hbit_set hp];unfold fset;rw[Bm _ hb]
 by_cases e:b / 16=f.pos / 16
 ·rw[if_pos e,Nat.testBit_or,Cw,Nat.testBit_mul_two_pow,Nat.testBit_mul_two_pow,Nat.testBit_two_pow_sub_one]
  by_cases hin:f.pos≤b∧b<f.pos+f.w
  ·rw[if_pos hin];have e1:s≤15 - b % 16:=by omega
   have e2:15 - b % 16 - s<f.w:=by omega
   have e3:15 - b % 16 - s=f.pos+f.w - 1 - b:=by omega
   rw[← e3];simp[e1,e2]
  ·rw[if_neg hin];have e4: ¬ (s≤15 - b % 16∧15 - b % 16 - s<f.w):=by omega
   have e5:(decide (s≤15 - b % 16)&&n.testBit (15 - b % 16 - s))=false:=by
    by_cases e6:s≤15 - b % 16
    ·have:f.w≤15 - b % 16 - s:=by omega
     rw[Nat.testBit_lt_two_pow (Nat.lt_of_lt_of_le hn (Nat.pow_le_pow_right qde this))];simp
    ·simp[e6]
   have e6:(decide (s≤15 - b % 16)&&decide (15 - b % 16 - s<f.w))=false:=by
    by_cases e7:s≤15 - b % 16
    ·have: ¬ 15 - b % 16 - s<f.w:=fun h=>e4 ⟨e7,h⟩
     simp[this]
    ·simp[e7]
   rw[e5,e6];unfold hbit;rw[e];simp
 ·rw[if_neg e,if_neg qom]
theorem put_word {h:Hd}(hh:HdOk h){b:Nat}(hb:b<160)(v:Bool):h.set (b / 16) (if v=true then andN (gd h (b / 16)) (1*2 ^ (15 - b % 16))|||1*2 ^ (15 - b % 16) else andN (gd h (b / 16)) (1*2 ^ (15 - b % 16)))=hput h b v:=by
 have hp:b / 16<h.length:=by rw[hh.len];omega
 have h1:1*2 ^ (15 - b % 16)<2 ^ 16:=by rw[Nat.one_mul];exact Nat.pow_lt_pow_right qde qom
 have hx:(if v=true then andN (gd h (b / 16)) (1*2 ^ (15 - b % 16))|||1*2 ^ (15 - b % 16) else andN (gd h (b / 16)) (1*2 ^ (15 - b % 16)))<2 ^ 16:=by
  have h3:andN (gd h (b / 16)) (1*2 ^ (15 - b % 16))<2 ^ 16:=Fn (Db hh _)
  split
  ·exact Nat.or_lt_two_pow h3 h1
  ·exact h3
 refine Cp (Dd hh hx) (Bt _ _ _) fun k hk=> ?_
 rw[hbit_set hp,Cc _ _ _ hk]
 by_cases e:k / 16=b / 16
 ·rw[if_pos e]
  by_cases ek:k=b
  ·subst ek;cases v
   ·simp[Cw,Nat.testBit_two_pow_self]
   ·simp[Cw,Nat.testBit_or,Nat.testBit_two_pow_self]
  ·rw[if_neg ek];have hne: ¬ 15 - b % 16=15 - k % 16:=by omega
   have h4:(2 ^ (15 - b % 16)).testBit (15 - k % 16)=false:=by rw[Nat.testBit_two_pow];simp[hne]
   have h5:hbit h k=(gd h (b / 16)).testBit (15 - k % 16):=by unfold hbit;rw[e]
   rw[h5];cases v<;>simp[Cw,Nat.testBit_or,h4]
 ·rw[if_neg e,if_neg (fun ek=>e (by rw[ek]))]
theorem max_s {w0:World}{H:List (Nat × Obj)}(f:Fd)(hf:FdOk f):
  FSpec Tryz.prog w0 166 #[.agg (encF f).toArray] H (Still (.int .i64 ((2 ^ f.w - 1:Nat):Int)) H):=by
 refine An Tryz.func166 U ntmps166 U ?_;have h16:=Co hf.w16;have hw1:=hf.w16;refine rD tb 2 U (e_ (Kw U cs_) ?_ U);rintro _ _ ⟨n1,rfl,rfl⟩;refine rO tb 6 U (y_ (Kr U isAgg3 (by first|exact c_o)) ?_ U);refine y_ (D4 (m:=1) qom qom Aj (T U)) ?_ U;refine y_ (Cy (c:=1) (T U) Aj (by have:=Nat.two_pow_pos f.w;omega)) ?_ U;refine rO tb 4 U (Ai U (Kq U) ?_);exact⟨_,⟨vint (by rw[Nat.one_mul]),rfl⟩,sbt⟩
theorem shift_s {w0:World}{H:List (Nat × Obj)}(f:Fd)(hf:FdOk f):
  FSpec Tryz.prog w0 176 #[.agg (encF f).toArray] H (Still (.int .i64 ((16 - f.pos % 16 - f.w:Nat):Int)) H):=by
 refine An Tryz.func176 U ntmps176 U ?_;have h1:=hf.fit;have h2:=hf.lt;refine rD tb 2 U (e_ (Kw U cs_) ?_ U);rintro _ _ ⟨n1,rfl,rfl⟩;refine rO tb 6 U (y_ (Kr U isAgg3 (by first|exact c_o)) ?_ U);refine y_ (Es (c:=16) (T U) Aj qom) ?_ U;refine y_ (Cy (a:=16) Aj (T U) qom) ?_ U;refine rO tb 1 U (y_ (Kr U isAgg3 (by first|exact c_o)) ?_ U);refine y_ (Cy (T U) (T U) qom) ?_ U;refine rO tb 4 U (Ai U (Kq U) ?_);exact⟨_,⟨rfl,rfl⟩,sbt⟩
theorem value_s {w0:World}{H:List (Nat × Obj)}(i:Nat):
  FSpec Tryz.prog w0 180 #[.int .i64 (i:Nat)] H (Still (.int .i64 ((1*2 ^ (15 - i % 16):Nat):Int)) H):=by
 refine An Tryz.func180 U ntmps180 U ?_;have h16:=Co (n:=15 - i % 16) qom;refine rD tb 8 U (y_ (Es (c:=16) (T U) Aj qom) ?_ U);refine y_ (Cy (a:=15) Aj (T U) qom) ?_ U;refine y_ (D4 (m:=1) qom qom Aj (T U)) ?_ U;refine rO tb 4 U (Ai U (Kq U) ?_);exact⟨_,⟨rfl,rfl⟩,sbt⟩
theorem fset_s {w0:World}{H:List (Nat × Obj)}(f:Fd)(hf:FdOk f)(h:Hd)(hh:HdOk h)(n:Nat)(hn:n<2 ^ f.w):
  FSpec Tryz.prog w0 167 #[.agg (encF f).toArray, .agg (hdC h).toArray, .int .i64 (n:Nat)] H (Still (.agg (hdC (fset f h n)).toArray) H):=by
 refine An Tryz.func167 U ntmps167 U ?_;have h1:=hf.fit;have h2:=hf.lt;have h16:=Co hf.w16;have hlen:=hh.len;have hp:f.pos / 16<h.length:=by omega
 have hgl:=Db hh (f.pos / 16);have hsl:2 ^ f.w*2 ^ (16 - f.pos % 16 - f.w)≤65536:=by rw[← Nat.pow_add];exact Co qom
 have hml:(2 ^ f.w - 1)*2 ^ (16 - f.pos % 16 - f.w)≤2 ^ f.w*2 ^ (16 - f.pos % 16 - f.w):=Nat.mul_le_mul_right _ qom;have hnl:n*2 ^ (16 - f.pos % 16 - f.w)≤2 ^ f.w*2 ^ (16 - f.pos % 16 - f.w):=Nat.mul_le_mul_right _ qom;have hal:andN (gd h (f.pos / 16)) ((2 ^ f.w - 1)*2 ^ (16 - f.pos % 16 - f.w))<65536:=Fn (k:=16) hgl;have hnl2:n*2 ^ (16 - f.pos % 16 - f.w)<2 ^ f.w*2 ^ (16 - f.pos % 16 - f.w):=Nat.mul_lt_mul_of_pos_right hn (Nat.two_pow_pos _);have hso:=Dd hh (i:=f.pos / 16) (x:=andN (gd h (f.pos / 16)) ((2 ^ f.w - 1)*2 ^ (16 - f.pos % 16 - f.w))|||n*2 ^ (16 - f.pos % 16 - f.w)) (Nat.or_lt_two_pow (n:=16) hal qom);refine rD tb 2 U (e_ (Kw U cs_) ?_ U);rintro _ _ ⟨n3,rfl,rfl⟩;refine e_ (Kw U cs_) ?_ U;rintro _ _ ⟨n4,rfl,rfl⟩;refine e_ (Al zeroValue30 cs_) ?_ U;rintro _ _ ⟨n6,rfl,rfl⟩;refine rO tb 5 U (y_ (Kr U isAgg3 (by first|exact c_o)) ?_ U);refine y_ (C5 (c:=16) (T U) Aj qom) ?_ U;refine y_ (Bi (T U) (T U) runUnderlying30 sizeOf3 qom) ?_ U;refine rO tb 4 U (Bl 16 [(0,true),(1,true),(2,true),(3,true),(4,true),(5,true),(6,true),(7,true),(8,true),(9,true),(10,true),(11,true),(12,true),(13,true),(14,true),(15,true)] _ mixd qkr sb0 ?_ Bp);refine rP tb 3 U ?_;refine o_y U (Kr U isAgg3 (by first|exact c_o|exact Cg (Ah fdd) qom)) ?_ U Ae;refine o_y U (Ks U isAgg67 sizeOf67 U (by first|exact Av)) ?_ U Ae;refine o_y U (Ak (qe1 U) call166 (fun H' hs=>max_s f hf)) (o_y U (Ks U isAgg67 sizeOf67 U (by first|exact Av)) ?_ U Ae) U Ae;refine o_y U (Ak (qe1 U) call176 (fun H' hs=>shift_s f hf)) (o_y U (D4 qom qom (T U) (T U)) ?_ U Ae) U Ae;refine o_y U (Fo qom qom (T U) (T U)) ?_ U Ae;refine rP tb 1 U (o_y U (Ks U isAgg67 sizeOf67 U (by first|exact Av)) ?_ U Ae);refine o_y U (Ak (qe1 U) call176 (fun H' hs=>shift_s f hf)) (o_y U (D4 qom qom (T U) (T U)) ?_ U Ae) U Ae;refine o_y U (Jt qom qom (T U) (T U)) ?_ U Ae;refine rP tb 1 U (A7 U (e_ (Bj (T U) (T U) U sizeOf3 (hs:=F8 hp)) ?_ U));rintro _ _ ⟨rfl,rfl⟩;refine rO tb 4 U ?_;refine y_ (Ks U isAgg30 sizeOf30 (Aw hso) (by first|exact Ah fdd|exact Av)) ?_ U;refine e_ (Kv U U sizeOf30 .agg (Dv _) (Aw hso) (by repeat (first|exact Upd.h|apply Upd.t|apply Cb)) (by rw[Aw hso];rfl)) ?_ U;rintro _ _ ⟨rfl,rfl⟩;refine rO tb 3 U (Ai U (.cellA (Aa U) isAgg30 sizeOf30 (Aw hso) (by first|exact Av) .nil) ?_);exact⟨_,⟨by show Value.agg (hdC _).toArray=_;rw[set_word hf hh hn],rfl⟩,sbt⟩
theorem zbd78_0_1 (a0:Int)(a1:Int)(a2:Int)(a3:Int)(a4:Int)(a5:Int)(a6:Int)(a7:Int)(a8:Int)(a9:Int)(a10:Int)(a11:Int)(a12:Int)(a13:Int)(a14:Int)(a15:Int)(a16:Int)(a17:Int)(a18:Int)(a19:Int)(w:World):(Instr.build 78 #[(0, .agg #[.int .i64 a0, .int .i64 a1, .int .i64 a2, .int .i64 a3, .int .i64 a4, .int .i64 a5, .int .i64 a6, .int .i64 a7, .int .i64 a8, .int .i64 a9]),(1, .agg #[.int .i64 a10, .int .i64 a11, .int .i64 a12, .int .i64 a13, .int .i64 a14, .int .i64 a15, .int .i64 a16, .int .i64 a17, .int .i64 a18, .int .i64 a19])]).run Tryz.prog w= .ok (.agg #[.int .i64 a0, .int .i64 a1, .int .i64 a2, .int .i64 a3, .int .i64 a4, .int .i64 a5, .int .i64 a6, .int .i64 a7, .int .i64 a8, .int .i64 a9, .int .i64 a10, .int .i64 a11, .int .i64 a12, .int .i64 a13, .int .i64 a14, .int .i64 a15, .int .i64 a16, .int .i64 a17, .int .i64 a18, .int .i64 a19]) w:=by kernel_rfl
theorem or_andN (x y:Nat):andN x y|||y=x|||y:=by
 refine Nat.eq_of_testBit_eq fun i=> ?_
 rw[Nat.testBit_or,Nat.testBit_or,Cw];cases x.testBit i<;>cases y.testBit i<;>rfl
theorem gd_set {h:Hd}{i x:Nat}(hi:i<h.length):gd (h.set i x) i=x:=by unfold gd List.getD;simp[hi]
abbrev bitv (i:Nat):Nat:=1*2 ^ (15 - i % 16)
theorem bitv_lt (i:Nat):bitv i<65536:=by
 have:=Co (n:=15 - i % 16) qom;have h2:2 ^ (15 - i % 16)<2 ^ 16:=Nat.pow_lt_pow_right qde qom;unfold bitv;omega
theorem put_f {h:Hd}(hh:HdOk h){b:Nat}(hb:b<160):h.set (b / 16) (andN (gd h (b / 16)) (bitv b))=hput h b false:=by
 have:=put_word hh hb false
 simpa using this
theorem put_t {h:Hd}(hh:HdOk h){b:Nat}(hb:b<160):h.set (b / 16) (gd h (b / 16)|||bitv b)=hput h b true:=by
 have:=put_word hh hb true;rw[if_pos U,or_andN] at this;exact this
theorem put_ft {h:Hd}(hh:HdOk h){b:Nat}(hb:b<160):(h.set (b / 16) (andN (gd h (b / 16)) (bitv b))).set (b / 16) (gd (h.set (b / 16) (andN (gd h (b / 16)) (bitv b))) (b / 16)|||bitv b)=hput h b true:=by
 have hp:b / 16<h.length:=by rw[hh.len];omega
 rw[gd_set hp,List.set_set,or_andN,put_t hh hb]
theorem setN_hi {a b:Hd}(ha:HdOk a){i x:Nat}(hi:i<b.length):setN? (hdC a++hdC b) (0+10+((i:Nat):Int).toNat*1) (.int .i64 (x:Nat))=some (hdC a++hdC (b.set i x)):=by
 have h1:=F8 (x:=x) hi;rw[show 0+((i:Nat):Int).toNat*1=i by omega] at h1;have e:0+10+((i:Nat):Int).toNat*1=(hdC a).length+i:=by rw[Aw ha];omega
 rw[e];have:∀ (l r r':List Value) (k:Nat) (v:Value),setN? r k v=some r'→setN? (l++r) (l.length+k) v=some (l++r'):=by
  intro l
  induction l with
  |nil=>intro r r' k v h;simpa using h
  |cons y l ih=>
   intro r r' k v h;have h2:=ih r r' k v h;rw[show (y::l).length+k=(l.length+k)+1 by simp;omega];show (match setN? (l++r) (l.length+k) v with|some l'=>some (y::l')|none=>none)=_;rw[h2];rfl
 exact this _ _ _ _ _ h1
theorem b2i_1 {b:Bool}:b2i b=1↔b=true:=by cases b<;>simp[b2i]
theorem Ci (a b:Hd):(hdC a++hdC b).all oneB=true:=by rw[List.all_append,Dv,Dv];rfl
theorem Bf {a b:Hd}(ha:HdOk a)(hb:HdOk b):(hdC a++hdC b).length=20:=by rw[List.length_append,Aw ha,Aw hb]
theorem mk78 {a b:Hd}(ha:HdOk a)(hb:HdOk b)(w:World):(Instr.build 78 #[(0, .agg (hdC a).toArray),(1, .agg (hdC b).toArray)]).run Tryz.prog w= .ok (.agg (hdC a++hdC b).toArray) w:=by
 obtain⟨a0,a1,a2,a3,a4,a5,a6,a7,a8,a9,rfl⟩:=hd10 ha;obtain⟨b0,b1,b2,b3,b4,b5,b6,b7,b8,b9,rfl⟩:=hd10 hb;exact zbd78_0_1 _ _ _ _ _ _ _ _ _ _ _ _ _ _ _ _ _ _ _ _ w
theorem put_s {w0:World}{H:List (Nat × Obj)}(h:Hd)(hh:HdOk h)(i:Nat)(hi:i<160)(v:Bool):
  FSpec Tryz.prog w0 53 #[.agg (hdC h).toArray, .int .i64 (i:Nat), .int .i64 (b2i v)] H (Still (.agg (hdC (hput h i v)).toArray) H):=by
 refine An Tryz.func53 U ntmps53 U ?_;have hlen:=hh.len;have hp:i / 16<h.length:=by omega
 have hgl:=Db hh (i / 16);have hbv:=bitv_lt i;have hp16:=Co (n:=15 - i % 16) qom;have hal:andN (gd h (i / 16)) (bitv i)<65536:=Fn (k:=16) hgl;have hs1:=Dd hh (i:=i / 16) hal;have hol:gd (h.set (i / 16) (andN (gd h (i / 16)) (bitv i))) (i / 16)|||bitv i<65536:=Nat.or_lt_two_pow (n:=16) (Db hs1 _) hbv
 have hg1:=Db hs1 (i / 16);have hs2:=Dd hs1 (i:=i / 16) hol;have hp1:i / 16<(h.set (i / 16) (andN (gd h (i / 16)) (bitv i))).length:=by rw[List.length_set];exact hp
 refine rD tb 2 U (e_ (Kw U cs_) ?_ U);rintro _ _ ⟨n3,rfl,rfl⟩;refine e_ (Al zeroValue30 cs_) ?_ U;rintro _ _ ⟨n6,rfl,rfl⟩;refine rO tb 5 U (y_ (Es (c:=16) (T U) Aj qom) ?_ U);refine y_ (Cy (a:=15) Aj (T U) qom) ?_ U;refine y_ (D4 (m:=1) qom qom Aj (T U)) ?_ U;refine rO tb 6 U (y_ (C5 (c:=16) (T U) Aj qom) ?_ U);refine y_ (Bi (T U) (T U) runUnderlying30 sizeOf3 qom) ?_ U;refine y_ (Kr U isAgg3 (by first|exact c_o|exact Cg (Ah fdd) hp)) ?_ U;refine rO tb 1 U (y_ (Fo (n:=bitv i) qom qom (T U) (T U)) ?_ U);refine y_ (Bi (T U) (T U) runUnderlying30 sizeOf3 qom) ?_ U;refine e_ (Bj (T U) (T U) U sizeOf3 (hs:=F8 hp)) ?_ U;rintro _ _ ⟨rfl,rfl⟩;refine rO tb 9 U ?_
 first|refine Ac (Aa U) (fun c20=> ?_) (fun c20=> ?_)|refine Ag (Aa U) (fun c20=> ?_) (fun c20=> ?_)
 ·obtain rfl:v=true:=b2i_1.1 c20;have hsR:=hs2;refine rC tb 2 U (y_ (C5 (c:=16) (T U) Aj qom) ?_ U);refine y_ (Bi (T U) (T U) runUnderlying30 sizeOf3 qom) ?_ U;refine y_ (Kr U isAgg3 (by first|exact c_o|exact Cg (Ah fdd) hp1)) ?_ U;refine rO tb 1 U (y_ (Jt (n:=bitv i) qom qom (T U) (T U)) ?_ U);refine y_ (Bi (T U) (T U) runUnderlying30 sizeOf3 qom) ?_ U;refine e_ (Bj (T U) (T U) U sizeOf3 (hs:=F8 hp1)) ?_ U;rintro _ _ ⟨rfl,rfl⟩;refine rO tb 4 U ?_;refine y_ (Ks U isAgg30 sizeOf30 (Aw hsR) (by first|exact Ah fdd|exact Av)) ?_ U;refine e_ (Kv U U sizeOf30 .agg (Dv _) (Aw hsR) (by repeat (first|exact Upd.h|apply Upd.t|apply Cb)) (by rw[Aw hsR];rfl)) ?_ U;rintro _ _ ⟨rfl,rfl⟩;refine rO tb 3 U (Ai U (.cellA (Aa U) isAgg30 sizeOf30 (Aw hsR) (by first|exact Av) .nil) ?_);exact⟨_,⟨by show Value.agg (hdC _).toArray=_;rw[put_ft hh hi],rfl⟩,sbt⟩
 ·obtain rfl:v=false:=by cases v with
   |false=>rfl
   |true=>exact absurd rfl c20
  have hsR:=hs1;refine rC tb 4 U ?_;refine y_ (Ks U isAgg30 sizeOf30 (Aw hsR) (by first|exact Ah fdd|exact Av)) ?_ U;refine e_ (Kv U U sizeOf30 .agg (Dv _) (Aw hsR) (by repeat (first|exact Upd.h|apply Upd.t|apply Cb)) (by rw[Aw hsR];rfl)) ?_ U;rintro _ _ ⟨rfl,rfl⟩;refine rO tb 3 U (Ai U (.cellA (Aa U) isAgg30 sizeOf30 (Aw hsR) (by first|exact Av) .nil) ?_);exact⟨_,⟨by show Value.agg (hdC _).toArray=_;rw[put_f hh hi],rfl⟩,sbt⟩
theorem Eu  (w:World):(Instr.build 30 #[]).run Tryz.prog w= .ok (.agg #[.int .i64 0, .int .i64 0, .int .i64 0, .int .i64 0, .int .i64 0, .int .i64 0, .int .i64 0, .int .i64 0, .int .i64 0, .int .i64 0]) w:=by kernel_rfl
theorem hb0 (b:Nat):hbit hd0 b=false:=by unfold hbit;rw[gd_hd0];simp
abbrev mskN (w k:Nat):Nat:=andN (2 ^ w - 1) (1*2 ^ (w - k) - 1)
theorem mskN_bit (w k i:Nat):(mskN w k).testBit i=(decide (i<w)&& !decide (i<w - k)):=by
 unfold mskN;rw[Cw,Nat.one_mul,Nat.testBit_two_pow_sub_one,Nat.testBit_two_pow_sub_one]
theorem mskN_lt (w k:Nat):mskN w k<2 ^ w:=Fn (by have:=Nat.two_pow_pos w;omega)
theorem fset_msk {f:Fd}{k:Nat}(hk:k≤f.w):fset f hd0 (mskN f.w k)=hdOf (mkP f k):=Fv fun b hb=>by
 unfold mkP
 by_cases h:f.pos≤b∧b<f.pos+f.w
 ·rw[if_pos h,mskN_bit]
  by_cases h2:b<f.pos+k
  ·simp[h.1,h2];omega
  ·simp[h2];omega
 ·rw[if_neg h,hb0]
  by_cases h1:f.pos≤b
  ·have: ¬ b<f.pos+k:=by omega
   simp[this]
  ·simp[h1]
theorem fset_val {f:Fd}{n k:Nat}(hk:k≤f.w):fset f hd0 (n &&& mskN f.w k)=hdOf (vlP f n k):=Fv fun b hb=>by
 unfold vlP mkP
 by_cases h:f.pos≤b∧b<f.pos+f.w
 ·rw[if_pos h,Nat.testBit_and,mskN_bit]
  by_cases h2:b<f.pos+k
  ·have h3:f.pos+f.w - 1 - b<f.w:=by omega
   have h4: ¬ f.pos+f.w - 1 - b<f.w - k:=by omega
   simp[h.1,h2,h3,h4]
  ·have h4:f.pos+f.w - 1 - b<f.w - k:=by omega
   simp[h2,h4]
 ·rw[if_neg h,hb0]
  by_cases h1:f.pos≤b
  ·have: ¬ b<f.pos+k:=by omega
   simp[this]
  ·simp[h1]
def preM (f:Fd) (n k:Nat):Md:=(hdOf (mkP f k),hdOf (vlP f n k))
theorem Bn (f:Fd)(n k:Nat):HdOk (preM f n k).1∧HdOk (preM f n k).2:=⟨Cf _,Cf _⟩
theorem fix_s {w0:World}{H:List (Nat × Obj)}(m:Md)(h1:HdOk m.1)(h2:HdOk m.2)(i:Nat)(hi:i<160)(v:Bool):
  FSpec Tryz.prog w0 177 #[.agg (mdC m).toArray, .int .i64 (i:Nat), .int .i64 (b2i v)] H (Still (.agg (mdC (chg m i v)).toArray) H):=by
 refine An Tryz.func177 U ntmps177 U ?_;have hl1:=h1.len;have hl2:=h2.len;have hp:i / 16<m.1.length:=by omega
 have hp2:i / 16<m.2.length:=by omega
 have hg1:=Db h1 (i / 16);have hg2:=Db h2 (i / 16);have hbv:=bitv_lt i;have ho:gd m.1 (i / 16)|||bitv i<65536:=Nat.or_lt_two_pow (n:=16) hg1 hbv
 have hal:andN (gd m.2 (i / 16)) (bitv i)<65536:=Fn (k:=16) hg2;have hsA:=Dd h1 (i:=i / 16) ho;have hsB:=Dd h2 (i:=i / 16) hal;have hg3:=Db hsB (i / 16);have ho2:gd (m.2.set (i / 16) (andN (gd m.2 (i / 16)) (bitv i))) (i / 16)|||bitv i<65536:=Nat.or_lt_two_pow (n:=16) hg3 hbv
 have hsC:=Dd hsB (i:=i / 16) ho2;have hp3:i / 16<(m.2.set (i / 16) (andN (gd m.2 (i / 16)) (bitv i))).length:=by rw[List.length_set];exact hp2
 refine rD tb 2 U (e_ (Kw U cs_) ?_ U);rintro _ _ ⟨n3,rfl,rfl⟩;refine e_ (Al zeroValue78 cs_) ?_ U;rintro _ _ ⟨n6,rfl,rfl⟩;refine rO tb 3 U (Bl 10 [(0,true),(1,true),(2,true),(3,true),(4,true),(5,true),(6,true),(7,true),(8,true),(9,true)] _ mixd qkr sb0 ?_ Bp);refine rP tb 1 U (o_y U (C5 (c:=16) (T U) Aj qom) ?_ U Ae);refine rP tb 1 U (o_y U (Bi (T U) (T U) runUnderlying30 sizeOf3 qom) ?_ U Ae);refine o_y U (Kr U isAgg3 (by first|exact c_o|exact Cg (Et fdd) hp)) ?_ U Ae;refine rP tb 1 U (o_y U (Ak (qe1 U) call180 (fun H' hs=>value_s i)) (o_y U (Jt (n:=bitv i) qom qom (T U) (T U)) ?_ U Ae) U Ae);refine rP tb 1 U (o_y U (Bi (T U) (T U) runUnderlying30 sizeOf3 qom) ?_ U Ae);refine A7 U (e_ (Bj (T U) (T U) U sizeOf3 (hs:=setN_hd hp (hdC m.2))) ?_ U);rintro _ _ ⟨rfl,rfl⟩;refine rO tb 3 U (Bl 10 [(0,true),(1,true),(2,true),(3,true),(4,true),(5,true),(6,true),(7,true),(8,true),(9,true)] _ mixd qkr sb0 ?_ Bp);refine rP tb 1 U (o_y U (C5 (c:=16) (T U) Aj qom) ?_ U Ae);refine rP tb 1 U (o_y U (Bi (T U) (T U) runUnderlying30 sizeOf3 qom) ?_ U Ae);refine o_y U (Kr U isAgg3 (by first|exact c_o|exact Cg (Ed (m:=((m.1.set (i / 16) (gd m.1 (i / 16)|||bitv i)),m.2)) hsA fdd) hp2)) ?_ U Ae;refine rP tb 1 U (o_y U (Ak (qe1 U) call180 (fun H' hs=>value_s i)) (o_y U (Fo (m:=gd m.2 (i / 16)) (n:=bitv i) qom qom (T U) (T U)) ?_ U Ae) U Ae);refine rP tb 1 U (o_y U (Bi (T U) (T U) runUnderlying30 sizeOf3 qom) ?_ U Ae);refine A7 U (e_ (Bj (T U) (T U) U sizeOf3 (hs:=setN_hi hsA hp2)) ?_ U);rintro _ _ ⟨rfl,rfl⟩;refine rO tb 9 U ?_
 first|refine Ac (Aa U) (fun c28=> ?_) (fun c28=> ?_)|refine Ag (Aa U) (fun c28=> ?_) (fun c28=> ?_)
 ·obtain rfl:v=true:=b2i_1.1 c28;have hsR:=hsC;refine Bl 10 [(0,true),(1,true),(2,true),(3,true),(4,true),(5,true),(6,true),(7,true),(8,true),(9,true)] _ mixd qkr sb0 ?_ Bp;refine rP tb 1 U (o_y U (C5 (c:=16) (T U) Aj qom) ?_ U Ae);refine rP tb 1 U (o_y U (Bi (T U) (T U) runUnderlying30 sizeOf3 qom) ?_ U Ae);refine o_y U (Kr U isAgg3 (by first|exact c_o|exact Cg (Ed (m:=((m.1.set (i / 16) (gd m.1 (i / 16)|||bitv i)),(m.2.set (i / 16) (andN (gd m.2 (i / 16)) (bitv i))))) hsA fdd) hp3)) ?_ U Ae;refine rP tb 1 U (o_y U (Ak (qe1 U) call180 (fun H' hs=>value_s i)) (o_y U (Jt (m:=gd (m.2.set (i / 16) (andN (gd m.2 (i / 16)) (bitv i))) (i / 16)) (n:=bitv i) qom qom (T U) (T U)) ?_ U Ae) U Ae);refine rP tb 1 U (o_y U (Bi (T U) (T U) runUnderlying30 sizeOf3 qom) ?_ U Ae);refine A7 U (e_ (Bj (T U) (T U) U sizeOf3 (hs:=setN_hi hsA hp3)) ?_ U);rintro _ _ ⟨rfl,rfl⟩;refine kO tb 2 [3,6] rfl U (rG tb 2 U ?_);refine y_ (Ks U isAgg78 sizeOf78 (Bf hsA hsR) (by first|exact Ah fdd|exact Av)) ?_ U;refine e_ (Kv U U sizeOf78 .agg (Ci _ _) (Bf hsA hsR) (by repeat (first|exact Upd.h|apply Upd.t|apply Cb)) (by rw[Bf hsA hsR];rfl)) ?_ U;rintro _ _ ⟨rfl,rfl⟩;refine rO tb 3 U (Ai U (.cellA (Aa U) isAgg78 sizeOf78 (Bf hsA hsR) (by first|exact Av) .nil) ?_);exact⟨_,⟨by show Value.agg (hdC _++hdC _).toArray=_;rw[put_ft h2 hi,put_t h1 hi];rfl,rfl⟩,sbt⟩
 ·obtain rfl:v=false:=by cases v with
   |false=>rfl
   |true=>exact absurd rfl c28
  have hsR:=hsB;refine rC tb 4 U ?_;refine y_ (Ks U isAgg78 sizeOf78 (Bf hsA hsR) (by first|exact Ah fdd|exact Av)) ?_ U;refine e_ (Kv U U sizeOf78 .agg (Ci _ _) (Bf hsA hsR) (by repeat (first|exact Upd.h|apply Upd.t|apply Cb)) (by rw[Bf hsA hsR];rfl)) ?_ U;rintro _ _ ⟨rfl,rfl⟩;refine rO tb 3 U (Ai U (.cellA (Aa U) isAgg78 sizeOf78 (Bf hsA hsR) (by first|exact Av) .nil) ?_);exact⟨_,⟨by show Value.agg (hdC _++hdC _).toArray=_;rw[put_f h2 hi,put_t h1 hi];rfl,rfl⟩,sbt⟩
theorem prefix_s {w0:World}{H:List (Nat × Obj)}(f:Fd)(hf:FdOk f)(n k:Nat)(hn:n<2 ^ f.w)(hk:k≤f.w):
  FSpec Tryz.prog w0 135 #[.agg (encF f).toArray, .int .i64 (n:Nat), .int .i64 (k:Nat)] H (Still (.agg (mdC (preM f n k)).toArray) H):=by
 refine An Tryz.func135 U ntmps135 U ?_;have h16:=Co hf.w16;have hw16:=hf.w16;have h17:=Co (n:=f.w - k) qom;have hpp:=Nat.two_pow_pos (f.w - k);have hml:=mskN_lt f.w k;have hnl:n &&& mskN f.w k<2 ^ f.w:=Nat.lt_of_le_of_lt Nat.and_le_left hn;refine rD tb 2 U (e_ (Kw U cs_) ?_ U);rintro _ _ ⟨n3,rfl,rfl⟩;refine e_ (Al zeroValue78 cs_) ?_ U;rintro _ _ ⟨n6,rfl,rfl⟩;refine rO tb 3 U (Bl 10 [(0,true),(1,true),(2,true),(3,true),(4,true),(5,true),(6,true),(7,true),(8,true),(9,true)] _ mixd qkr sb0 ?_ Bp);refine o_y U (Ks U isAgg67 sizeOf67 U (by first|exact Av)) ?_ U Ae;refine o_y U (Ak (qe1 U) call166 (fun H' hs=>max_s f hf)) (rP tb 1 U (o_y U (Kr U isAgg3 (by first|exact c_o)) ?_ U Ae)) U Ae;refine rP tb 1 U (o_y U (Cy (T U) (T U) qom) ?_ U Ae);refine o_y U (D4 (m:=1) qom qom Aj (T U)) ?_ U Ae;refine o_y U (Cy (c:=1) (T U) Aj qom) ?_ U Ae;refine o_y U (Fo qom qom (T U) (T U)) ?_ U Ae;refine rP tb 1 U (A7 U (rO tb 3 U (Bl 11 [(0,true),(1,true),(2,true),(3,true),(4,true),(5,true),(6,true),(7,true),(8,true),(9,true),(10,true)] _ mixd qkr sb0 ?_ Bp)));refine o_y U (Ks U isAgg67 sizeOf67 U (by first|exact Av)) ?_ U Ae;refine o_y U (A8 .nil (Eu)) (rP tb 1 U (o_y U (Ak (qe3 U U U) call167 (fun H' hs=>fset_s f hf hd0 B6 (mskN f.w k) hml)) (o_y U (Ks U isAgg67 sizeOf67 U (by first|exact Av)) ?_ U Ae) U Ae)) U Ae;refine o_y U (A8 .nil (Eu)) (rP tb 2 U (o_y U (Hl (n:=mskN f.w k) qom qom (T U) (T U)) ?_ U Ae)) U Ae;refine o_y U (Ak (qe3 U U U) call167 (fun H' hs=>fset_s f hf hd0 B6 (n &&& mskN f.w k) hnl)) (o_y U (A8 (.cons (T U) (.cons (T U) .nil)) (mk78 (Ct _ _ _) (Ct _ _ _))) (A7 U (e_ (Kv U U sizeOf78 .agg (Ci _ _) (Bf (Ct _ _ _) (Ct _ _ _)) (by repeat (first|exact Upd.h|apply Upd.t|apply Cb)) (by rw[Bf (Ct _ _ _) (Ct _ _ _)];rfl)) ?_ U)) U Ae) U Ae;rintro _ _ ⟨rfl,rfl⟩;refine rO tb 3 U (Ai U (.cellA (Aa U) isAgg78 sizeOf78 (Bf (Ct _ _ _) (Ct _ _ _)) (by first|exact Av) .nil) ?_);exact⟨_,⟨by show Value.agg (hdC _++hdC _).toArray=_;rw[fset_msk hk,fset_val hk];rfl,rfl⟩,sbt⟩
theorem equal_s {w0:World}{H:List (Nat × Obj)}(f:Fd)(hf:FdOk f)(n:Nat)(hn:n<2 ^ f.w):
  FSpec Tryz.prog w0 134 #[.agg (encF f).toArray, .int .i64 (n:Nat)] H (Still (.agg (mdC (preM f n f.w)).toArray) H):=by
 refine An Tryz.func134 U ntmps134 U (rD tb 2 U (e_ (Kw U cs_) ?_ U));rintro _ _ ⟨n2,rfl,rfl⟩;refine e_ (Al zeroValue78 cs_) ?_ U;rintro _ _ ⟨n4,rfl,rfl⟩;refine rO tb 4 U (y_ (Ks U isAgg67 sizeOf67 U (by first|exact Av)) ?_ U);refine rO tb 2 U (y_ (Kr U isAgg3 (by first|exact c_o)) ?_ U);refine y_ (Ak (qe3 U U U) call135 (fun H' hs=>prefix_s f hf n f.w hn (Nat.le_refl _))) (e_ (Kv U U sizeOf78 .agg (Ci _ _) (Bf (Bn _ _ _).1 (Bn _ _ _).2) (by repeat (first|exact Upd.h|apply Upd.t|apply Cb)) (by rw[Bf (Bn _ _ _).1 (Bn _ _ _).2];rfl)) ?_ U) U;rintro _ _ ⟨rfl,rfl⟩;refine rO tb 3 U (Ai U (.cellA (Aa U) isAgg78 sizeOf78 (Bf (Bn _ _ _).1 (Bn _ _ _).2) (by first|exact Av) .nil) ?_);exact⟨_,⟨rfl,rfl⟩,sbt⟩
theorem mod_s {w0:World}{H:List (Nat × Obj)}(f:Fd)(hf:FdOk f)(n:Nat)(hn:n<2 ^ f.w):
  FSpec Tryz.prog w0 97 #[.agg (encF f).toArray, .int .i64 (n:Nat)] H (Still (.agg (mdC (preM f n f.w)).toArray) H):=by
 refine An Tryz.func97 U ntmps97 U (rD tb 2 U (e_ (Kw U cs_) ?_ U));rintro _ _ ⟨n2,rfl,rfl⟩;refine e_ (Al zeroValue107 cs_) ?_ U;rintro _ _ ⟨n4,rfl,rfl⟩;refine rO tb 4 U (y_ (Ks U isAgg67 sizeOf67 U (by first|exact Av)) ?_ U);refine rO tb 1 U (y_ (Ak (qe2 U U) call134 (fun H' hs=>equal_s f hf n hn)) (e_ (Kv U U sizeOf107 .agg (Ci _ _) (Bf (Bn _ _ _).1 (Bn _ _ _).2) (by repeat (first|exact Upd.h|apply Upd.t|apply Cb)) (by rw[Bf (Bn _ _ _).1 (Bn _ _ _).2];rfl)) ?_ U) U);rintro _ _ ⟨rfl,rfl⟩;refine rO tb 3 U (Ai U (.cellA (Aa U) isAgg107 sizeOf107 (Bf (Bn _ _ _).1 (Bn _ _ _).2) (by first|exact Av) .nil) ?_);exact⟨_,⟨rfl,rfl⟩,sbt⟩
theorem zbs184_1_0 (a0:Int)(a1:Int)(a2:Int)(a3:Int)(a4:Int)(a5:Int)(a6:Int)(a7:Int)(a8:Int)(a9:Int)(a10:Int)(a11:Int)(a12:Int)(a13:Int)(a14:Int)(a15:Int)(a16:Int)(a17:Int)(a18:Int)(a19:Int)(w:World):(Instr.buildSlice 184 1 #[(0, .agg #[.int .i64 a0, .int .i64 a1, .int .i64 a2, .int .i64 a3, .int .i64 a4, .int .i64 a5, .int .i64 a6, .int .i64 a7, .int .i64 a8, .int .i64 a9, .int .i64 a10, .int .i64 a11, .int .i64 a12, .int .i64 a13, .int .i64 a14, .int .i64 a15, .int .i64 a16, .int .i64 a17, .int .i64 a18, .int .i64 a19])]).run Tryz.prog w= .ok (.slice (some ⟨w.heap.size,0,none⟩) 1 1) (w.alloc (Cl [.int .i64 a0, .int .i64 a1, .int .i64 a2, .int .i64 a3, .int .i64 a4, .int .i64 a5, .int .i64 a6, .int .i64 a7, .int .i64 a8, .int .i64 a9, .int .i64 a10, .int .i64 a11, .int .i64 a12, .int .i64 a13, .int .i64 a14, .int .i64 a15, .int .i64 a16, .int .i64 a17, .int .i64 a18, .int .i64 a19] 78)):=by kernel_rfl
theorem bit_i {x j:Nat}:((x / 2 ^ j &&& 1:Nat):Int)=b2i (x.testBit j):=by
 rw[Im,Nat.testBit_eq_decide_div_mod_eq];unfold b2i
 by_cases e:x / 2 ^ j % 2=1
 ·rw[e];simp
 ·have:x / 2 ^ j % 2=0:=by omega
  rw[this];simp
theorem yl_bit {P:Program}{w0:World}{L:Fm}{H:List (Nat × Obj)}{ty xt yt:TypeId}{x y:Operand}{m j:Nat}(hm:m<9223372036854775808)(hx:Ev L x (.int .i64 ((m / 2 ^ j:Nat):Int)))(hy:Ev L y (.int .i64 1)):Yl P w0 (.binOp .and xt x y yt) ty L H (.int .i64 (b2i (m.testBit j))):=by
 have h:=Hl (P:=P) (w0:=w0) (H:=H) (ty:=ty) (xt:=xt) (yt:=yt) (n:=1) (Nat.lt_of_le_of_lt (Nat.div_le_self m (2 ^ j)) hm) qom hx hy
 rwa [bit_i] at h
theorem hput_of (g:Nat→Bool)(b:Nat)(v:Bool):hput (hdOf g) b v=hdOf fun k=>if k=b then v else g k:=Fv fun k hk=>by rw[Bm _ hk]
theorem preM_0 (f:Fd)(n:Nat):preM f n 0=(hd0,hd0):=by
 have e:hdOf (fun _=>false)=hd0:=Cp (Cf _) B6 fun b hb=>by rw[Bm _ hb,hb0]
 have e1:mkP f 0=fun _=>false:=by
  funext b;unfold mkP
  by_cases h:f.pos≤b
  ·have: ¬ b<f.pos+0:=by omega
   simp[this]
  ·simp[h]
 have e2:vlP f n 0=fun _=>false:=by funext b;unfold vlP;rw[e1];rfl
 unfold preM;rw[e1,e2,e]
theorem preM_succ {f:Fd}{n k:Nat}(hk:k<f.w):chg (preM f n k) (f.pos+k) (n.testBit (f.w - 1 - k))=preM f n (k+1):=by
 have ext2:∀ {a b c d:Hd},a=c→b=d→(a,b)=(c,d):=fun h1 h2=>by rw[h1,h2]
 refine ext2 ((hput_of _ _ _).trans ?_) ((hput_of _ _ _).trans ?_)
 ·refine Fv fun b hb=> ?_
  unfold mkP
  by_cases e:b=f.pos+k
  ·subst e;simp
  ·rw[if_neg e]
   by_cases h:f.pos≤b
   ·by_cases h2:b<f.pos+k
    ·have:b<f.pos+(k+1):=by omega
     simp[h,h2,this]
    ·have: ¬ b<f.pos+(k+1):=by omega
     simp[h2,this]
   ·simp[h]
 ·refine Fv fun b hb=> ?_
  unfold vlP mkP
  by_cases e:b=f.pos+k
  ·subst e;have:f.pos+f.w - 1 - (f.pos+k)=f.w - 1 - k:=by omega
   simp[this]
  ·rw[if_neg e]
   by_cases h:f.pos≤b
   ·by_cases h2:b<f.pos+k
    ·have:b<f.pos+(k+1):=by omega
     simp[h,h2,this]
    ·have: ¬ b<f.pos+(k+1):=by omega
     simp[h2,this]
   ·simp[h]
abbrev encRg (f:Fd) (x:Nat × Nat):List Value:=mdC (preM f x.1 x.2)
theorem bs78 {m:Md}(h1:HdOk m.1)(h2:HdOk m.2)(w:World):(Instr.buildSlice 184 1 #[(0, .agg (mdC m).toArray)]).run Tryz.prog w= .ok (.slice (some ⟨w.heap.size,0,none⟩) 1 1) (w.alloc (Cl (mdC m) 78)):=by
 obtain⟨a,b⟩:=m;obtain⟨a0,a1,a2,a3,a4,a5,a6,a7,a8,a9,rfl⟩:=hd10 h1;obtain⟨b0,b1,b2,b3,b4,b5,b6,b7,b8,b9,rfl⟩:=hd10 h2;exact zbs184_1_0 _ _ _ _ _ _ _ _ _ _ _ _ _ _ _ _ _ _ _ _ w
theorem fr_y {w l h n k:Nat}(hc:k<w∧l % 2 ^ (k+1)=0∧l+2 ^ (k+1) - 1≤h):frF w l h (n+1) k=frF w l h n (k+1):=by rw[frF,if_pos hc]
theorem fr_n {w l h n k:Nat}(hc: ¬ (k<w∧l % 2 ^ (k+1)=0∧l+2 ^ (k+1) - 1≤h)):frF w l h (n+1) k=k:=by rw[frF,if_neg hc]
theorem mod_up {l k:Nat}(h:l % 2 ^ k=0):l % 2 ^ (k+1)=0↔l / 2 ^ k % 2=0:=by
 have h1:=Nat.div_add_mod l (2 ^ k);rw[h,Nat.add_zero] at h1;have hp:=Nat.two_pow_pos k
 constructor
 ·intro h2;obtain⟨c,hc⟩:=Nat.dvd_of_mod_eq_zero h2;rw[hc,Nat.pow_succ,Nat.mul_assoc,Nat.mul_div_cancel_left _ hp];omega
 ·intro h2;obtain⟨c,hc⟩:=Nat.dvd_of_mod_eq_zero h2;rw[← h1,hc,Nat.pow_succ,← Nat.mul_assoc];exact Nat.mul_mod_right _ _
theorem bitsRange_s {w0:World}{H:List (Nat × Obj)}(f:Fd)(hf:FdOk f)(lo hi:Nat)(hlo:lo≤hi)(hhi:hi<2 ^ f.w):
  FSpec Tryz.prog w0 168 #[.int .i64 (f.pos:Nat), .int .i64 (f.w:Nat), .int .i64 (lo:Nat), .int .i64 (hi:Nat)] H (fun u H'=>∃ d,(u= .tuple #[slV d (rgF f.w hi (hi+1) lo).length, .int .i64 0]∧SlOk d (rgF f.w hi (hi+1) lo).length 20)∧H'=slH d ((rgF f.w hi (hi+1) lo).flatMap (encRg f)) 78++H):=by
 refine An Tryz.func168 U ntmps168 U ?_;have h1:=hf.fit;have h2:=hf.lt;have h3:=hf.w1;have hw16:=hf.w16;have h16:=Co hf.w16;refine rD tb 12 U ?_
 first|refine Am (s:=16) (Aa U) (fun c16=> ?_) (fun c16=> ?_)|refine A1 (s:=16) (Aa U) (fun c16=> ?_) (fun c16=> ?_)
 ·exfalso;omega
 ·refine rO tb 4 U ?_
  first|refine Am (s:=20) (Aa U) (fun c20=> ?_) (fun c20=> ?_)|refine A1 (s:=20) (Aa U) (fun c20=> ?_) (fun c20=> ?_)
  ·exfalso;omega
  ·refine rO tb 4 U ?_
   first|refine Am (s:=24) (Aa U) (fun c24=> ?_) (fun c24=> ?_)|refine A1 (s:=24) (Aa U) (fun c24=> ?_) (fun c24=> ?_)
   ·exfalso;omega
   ·refine rO tb 4 U ?_
    first|refine Am (s:=28) (Aa U) (fun c28=> ?_) (fun c28=> ?_)|refine A1 (s:=28) (Aa U) (fun c28=> ?_) (fun c28=> ?_)
    ·exfalso;omega
    ·refine rO tb 1 U (Az (Es (c:=16) (T U) Aj qom) U (A3 U U (Aa U)) ?_);refine rO tb 1 U (Az (A4 (T U) (T U) qom) U (A3 U U (Aa U)) ?_);refine rO tb 3 U ?_
     first|refine Am (s:=35) (Aa U) (fun c35=> ?_) (fun c35=> ?_)|refine A1 (s:=35) (Aa U) (fun c35=> ?_) (fun c35=> ?_)
     ·exfalso;omega
     ·refine rO tb 4 U ?_
      first|refine Am (s:=39) (Aa U) (fun c39=> ?_) (fun c39=> ?_)|refine A1 (s:=39) (Aa U) (fun c39=> ?_) (fun c39=> ?_)
      ·exfalso;omega
      ·refine rO tb 5 U ?_
       first|refine Am (s:=44) (Aa U) (fun c44=> ?_) (fun c44=> ?_)|refine A1 (s:=44) (Aa U) (fun c44=> ?_) (fun c44=> ?_)
       ·exfalso;omega
       ·refine rO tb 2 U (Az (D4 (m:=1) qom qom Aj (T U)) U (A3 U U (Aa U)) ?_);refine kO tb 4 [0,1,2,3,49] rfl U ?_
        first|refine Ac (Aa U) (fun c49=> ?_) (fun c49=> ?_)|refine Ag (Aa U) (fun c49=> ?_) (fun c49=> ?_)
        ·exfalso;omega
        ·refine rC tb 9 U ?_;refine A9 (X:=Nat × List (Nat × Nat) × Nat × Sl) (V:=fun ⟨cur,dn,r,d⟩=>[(2, .int .i64 (cur:Nat)),(10,slV d dn.length)]) (C:=[(0,_),(1,_),(3,_)]) (G:=fun ⟨cur,dn,r,d⟩=>slH d (dn.flatMap (encRg f)) 78++H) (φ:=fun ⟨cur,dn,r,d⟩=>rgF f.w hi (hi+1) lo=dn++rgF f.w hi r cur∧hi+1≤cur+r∧cur≤hi+1∧dn.length≤cur∧SlOk d dn.length 20) (μ:=fun ⟨cur,dn,r,d⟩=>hi+1 - cur) (x0:=(lo,[],hi+1, .nil)) ?_ ⟨Aa rfl,Aa rfl,Aa rfl,trivial⟩ ⟨atd,atd,trivial⟩ sb0 ?_
         ·exact⟨rfl,by omega,by omega,Nat.zero_le _,rfl⟩
         rintro⟨cur,dn,r,d⟩ ⟨hrg,hcr,hcu,hdl,hok⟩;refine rD tb 8 U ?_
         first|refine Ac (Aa U) (fun c52=> ?_) (fun c52=> ?_)|refine Ag (Aa U) (fun c52=> ?_) (fun c52=> ?_)
         ·obtain⟨r,rfl⟩:∃ r9,r=r9+1:=⟨r - 1,by omega⟩;refine rC tb 10 U ?_;refine G7 (X:=Nat) (V:=fun k=>[(11, .int .i64 (k:Nat))]) (C:=[(0,_),(1,_),(2,_),(3,_),(10,_)]) (φ:=fun k=>frF f.w cur hi (f.w+1) 0=frF f.w cur hi (f.w+1 - k) k∧k≤f.w∧cur % 2 ^ k=0∧cur+2 ^ k - 1≤hi) (μ:=fun k=>f.w - k) (x0:=0) ?_ ⟨Aa U,Aa U,Aa U,Aa U,Aa U,trivial⟩ ⟨atd,trivial⟩ ?_
          ·exact⟨rfl,Nat.zero_le _,Nat.mod_one _,by omega⟩
          rintro k ⟨hfr,hkw,hkm,hkl⟩;refine rD tb 1 U ?_;refine Ea (X:=Bool) (V:=fun x71=>[(71, .bool x71)]) (C:=[(0,_),(1,_),(2,_),(3,_),(10,_),(11,_)]) (φ:=fun x71=>x71=decide (k<f.w∧cur / 2 ^ k % 2=0∧cur+2*2 ^ k - 1≤hi)) ⟨Aa U,Aa U,Aa U,Aa U,Aa U,Aa U,trivial⟩ ?_ ?_
          ·refine rD tb 5 U ?_
           first|refine Am (s:=56) (Aa U) (fun c56=> ?_) (fun c56=> ?_)|refine A1 (s:=56) (Aa U) (fun c56=> ?_) (fun c56=> ?_)
           ·have hk16:=Co (n:=k) qom;refine rO tb 2 U (Az (yl_shrI qom (T U) (T U)) U (A3 U U (Aa U)) ?_);refine Az (Hl (n:=1) (by have:=Nat.div_le_self cur (2 ^ k);omega) qom (T U) Aj) U (A3 U U (Aa U)) ?_;refine rO tb 3 U ?_
            first|refine Am (s:=63) (Aa U) (fun c63=> ?_) (fun c63=> ?_)|refine A1 (s:=63) (Aa U) (fun c63=> ?_) (fun c63=> ?_)
            ·have hb6:cur / 2 ^ k % 2=0:=by rw[Im] at c63;omega
             refine rO tb 2 U (Az (D4 (m:=2) qom qom Aj (T U)) U (A3 U U (Aa U)) ?_);refine Az (B8 (T U) (T U) qom) U (A3 U U (Aa U)) ?_;refine Az (Cy (c:=1) (T U) Aj qom) U (A3 U U (Aa U)) ?_;refine rO tb 4 U ?_;refine Bd (decide (((cur+2*2 ^ k - 1:Nat):Int)≤(hi:Int))) ?_ ⟨atd,trivial⟩ ⟨Aa U,Aa U,Aa U,Aa U,Aa U,Aa U,trivial⟩ sbt;refine Bool.eq_iff_iff.2 ?_;simp only[decide_eq_true_eq,Bool.false_eq_true,false_iff];omega
            ·have hb6: ¬ cur / 2 ^ k % 2=0:=fun e=>c63 (by rw[Im];omega)
             refine rO tb 9 U ?_;refine Bd (false) ?_ ⟨atd,trivial⟩ ⟨Aa U,Aa U,Aa U,Aa U,Aa U,Aa U,trivial⟩ sbt;refine Bool.eq_iff_iff.2 ?_;simp only[decide_eq_true_eq,Bool.false_eq_true,false_iff];omega
           ·refine rO tb 16 U ?_;refine Bd (false) ?_ ⟨atd,trivial⟩ ⟨Aa U,Aa U,Aa U,Aa U,Aa U,Aa U,trivial⟩ sbt;refine Bool.eq_iff_iff.2 ?_;simp only[decide_eq_true_eq,Bool.false_eq_true,false_iff];omega
          rintro x71 hx71
          first|refine Ac (Aa U) (fun c71=> ?_) (fun c71=> ?_)|refine Ag (Aa U) (fun c71=> ?_) (fun c71=> ?_)
          ·have hc:k<f.w∧cur / 2 ^ k % 2=0∧cur+2*2 ^ k - 1≤hi:=by simpa[hx71] using c71
           refine rC tb 5 U (y_ (B8 (c:=1) (T U) Aj qom) ?_ U);refine rO tb 3 U ?_;refine A0 (k+1) ?_ ?_ ⟨atd,trivial⟩ ⟨Aa U,Aa U,Aa U,Aa U,Aa U,trivial⟩ ?_
           ·exact⟨by rw[hfr,show f.w+1 - k=(f.w+1 - (k+1))+1 by omega];exact fr_y ⟨hc.1,(mod_up hkm).2 hc.2.1,by rw[Nat.pow_succ];omega⟩,by omega,(mod_up hkm).2 hc.2.1,by rw[Nat.pow_succ];omega⟩
           ·first|omega|(simp only[];omega)
           ·exact sbt
          ·have hc: ¬ (k<f.w∧cur / 2 ^ k % 2=0∧cur+2*2 ^ k - 1≤hi):=by simpa[hx71] using c71
           have hk16:=Co (n:=k) qom;have hk1:=Nat.two_pow_pos k;have hfk:frF f.w cur hi (f.w+1) 0=k:=by
            rw[hfr,show f.w+1 - k=(f.w - k)+1 by omega];exact fr_n fun h=>hc ⟨h.1,(mod_up hkm).1 h.2.1,by have:=h.2.2;rw[Nat.pow_succ] at this;omega⟩
           refine rC tb 2 U (Ao (rX tb 4 U (e_ (Al zeroValue78 cs_) ?_ U)));rintro _ _ ⟨n12,rfl,rfl⟩;refine rO tb 7 U (y_ (Cy (T U) (T U) qom) ?_ U);refine rO tb 4 U ?_;refine A9 (X:=Nat) (V:=fun i=>[(77, .int .i64 (i:Nat))]) (C:=[(0,_),(1,_),(2,_),(3,_),(10,_),(11,_),(12,_),(76,_)]) (G:=fun i=>(n12,Cl (encRg f (cur,i)) 78)::(slH d (dn.flatMap (encRg f)) 78++H)) (φ:=fun i=>i≤f.w - k) (μ:=fun i=>f.w - k - i) (x0:=0) ?_ ⟨Aa U,Aa U,Aa U,Aa U,Aa U,Aa U,Aa U,Aa U,trivial⟩ ⟨atd,trivial⟩ (by show ((n12,Cl (mdC (preM f cur 0)) 78)::_).Sublist _;rw[preM_0];exact sbt) ?_
           ·exact Nat.zero_le _
           rintro i hik;refine rD tb 6 U ?_
           first|refine Ac (Aa U) (fun c78=> ?_) (fun c78=> ?_)|refine Ag (Aa U) (fun c78=> ?_) (fun c78=> ?_)
           ·refine rC tb 10 U (Bl 12 [(0,true),(1,true),(2,true),(3,true),(4,true),(5,true),(6,true),(7,true),(8,true),(9,true),(10,true),(11,true)] _ mixd qkr sb0 ?_ Bp);refine o_y U (Ks U isAgg78 sizeOf78 (Bf (Bn _ _ _).1 (Bn _ _ _).2) (by first|exact Av)) ?_ U Ae;refine rP tb 2 U (o_y U (B8 (T U) (T U) qom) ?_ U Ae);refine rP tb 2 U (o_y U (Cy (c:=1) (T U) Aj qom) ?_ U Ae);refine rP tb 1 U (o_y U (Cy (T U) (T U) qom) ?_ U Ae);refine o_y U (yl_shrI qom (T U) (T U)) ?_ U Ae;refine o_y U (yl_bit qom (T U) Aj) ?_ U Ae;refine o_y U (Ak (qe3 U U U) call177 (fun H' hs=>fix_s _ (Bn _ _ _).1 (Bn _ _ _).2 (f.pos+i) qom _)) ?_ U Ae;refine A7 U (e_ (Kv U U sizeOf78 .agg (Ci _ _) (Bf (Bt _ _ _) (Bt _ _ _)) (by repeat (first|exact Upd.h|apply Upd.t|apply Cb)) ((Bf (Bn _ _ _).1 (Bn _ _ _).2).trans (Bf (Bt _ _ _) (Bt _ _ _)).symm)) ?_ U);rintro _ _ ⟨rfl,rfl⟩;refine rO tb 4 U (y_ (B8 (c:=1) (T U) Aj qom) ?_ U);refine rO tb 2 U ?_;refine A0 (i+1) ?_ ?_ ⟨atd,trivial⟩ ⟨Aa U,Aa U,Aa U,Aa U,Aa U,Aa U,Aa U,Aa U,trivial⟩ ?_
            ·omega
            ·first|omega|(simp only[];omega)
            ·have e9:=preM_succ (f:=f) (n:=cur) (show i<f.w by omega);show ((n12,Cl (mdC (preM f cur (i+1))) 78)::_).Sublist ((n12,Cl (mdC (chg (preM f cur i) (f.pos+i) (cur.testBit (f.w - 1 - i)))) 78)::_);rw[e9];exact sb0
           ·obtain rfl:i=f.w - k:=by omega
            refine rC tb 2 U (Ao (rX tb 5 U (y_ (Ks U isAgg78 sizeOf78 (Bf (Bn _ _ _).1 (Bn _ _ _).2) (by first|exact Av)) ?_ U)));refine e_ (Bh (.cons (T U) .nil) (bs78 (Bn _ _ _).1 (Bn _ _ _).2)) ?_ U;rintro _ _ ⟨n95,rfl,rfl⟩;refine e_ (B5 (enc:=encRg f) ((cur,f.w - k)) (by':=160) qlc (T U) (T U) runUnderlying184 runUnderlying184 sizeOf78 typeInfo78 U zeroValue78 U (fun _=>Bf (Cf _) (Cf _)) (Ci _ _) hok qde qom) ?_ U;rintro _ _ ⟨d',rfl,hok',rfl⟩;refine rO tb 6 U (y_ (D4 (m:=1) qom qom Aj (T U)) ?_ U);refine y_ (B8 (T U) (T U) qom) ?_ U;refine rO tb 3 U ?_;refine A0 ((cur+1*2 ^ k,dn++[(cur,f.w - k)],r,d')) ?_ ?_ ⟨atd,atd,trivial⟩ ⟨Aa U,Aa U,Aa U,trivial⟩ ?_
            ·exact⟨by rw[hrg,rgF,if_pos qom,hfk,Nat.one_mul];simp,by omega,by omega,by simp;omega,by simpa using hok'⟩
            ·first|omega|(simp only[];omega)
            ·exact sbt
         ·have hre:rgF f.w hi (hi+1) lo=dn:=by
           rw[hrg];cases r with
           |zero=>simp[rgF]
           |succ r=>rw[rgF,if_neg qom];simp
          refine rC tb 2 U (Ao (rX tb 10 U (Ai U (.tmp (Aa U) (Kq U)) ?_)));rw[hre];exact⟨_,⟨d,⟨rfl,hok⟩,rfl⟩,sbt⟩
theorem zbd67_0_2 (a0:ByteArray)(a1:Int)(w:World):(Instr.build 67 #[(0, .string a0),(2, .int .i64 a1)]).run Tryz.prog w= .ok (.agg #[.string a0, .int .i64 0, .int .i64 a1]) w:=by kernel_rfl
theorem zbd67_z  (w:World):(Instr.build 67 #[]).run Tryz.prog w= .ok (.agg #[.string ⟨#[]⟩, .int .i64 0, .int .i64 0]) w:=by kernel_rfl
theorem yl_field {P:Program}{w0:World}{L:Fm}{H:List (Nat × Obj)}{ty t:TypeId}{x:Operand}{v u:Value}{i:Nat}(hx:Ev L x v)(h:∀ w,(Instr.field t v i).run P w= .ok u w):Yl P w0 (.field t x i) ty L H u:=Bb U fun b w=>by
 simp[exO,execOp,hx b,h,Sem.run_bind,Result.andThen]
theorem field67 (s:ByteArray)(a b:Int)(w:World):(Instr.field 67 (.agg #[.string s, .int .i64 a, .int .i64 b]) 0).run Tryz.prog w= .ok (.string s) w:=by kernel_rfl
theorem nm_eq {a b:ByteArray}:a.data.toList=b.data.toList↔a=b:=⟨fun h=>by
 obtain⟨⟨a⟩⟩:=a;obtain⟨⟨b⟩⟩:=b;simp only[] at h;rw[h],fun h=>by rw[h]⟩
def portN:ByteArray:=⟨#[112,111,114,116]⟩
def portFd:Fd:=⟨portN,0,16⟩
def idxF (nm:ByteArray):List Fd→Nat→Option Nat
 |[],_=>none
 |f::l,k=>if f.nm=nm then some k else idxF nm l (k+1)
theorem Gl {nm:ByteArray}{fl:List Fd}{k:Nat}(h:k<fl.length):idxF nm (fl.drop k) k=if (gd fl k).nm=nm then some k else idxF nm (fl.drop (k+1)) (k+1):=by
 rw[List.drop_eq_getElem_cons h,idxF,Ay h]
theorem idxF_lt {nm:ByteArray}:∀ {l:List Fd} {k i:Nat},idxF nm l k=some i→k≤i∧i<k+l.length
 |[],_,_,h=>by cases h
 |f::l,k,i,h=>by
  rw[idxF] at h
  split at h
  ·obtain rfl:=Option.some.inj h;simp
  ·have:=idxF_lt h;simp only[List.length_cons];omega
def fndFd (fl:List Fd) (nm:ByteArray):Fd × Bool:=
 if nm=portN then (portFd,true) else match idxF nm fl 0 with
 |some i=>(gd fl i,true)
 |none=>(⟨⟨#[]⟩,0,0⟩,false)
theorem range_s {w0:World}{H:List (Nat × Obj)}(f:Fd)(hf:FdOk f)(lo hi:Nat)(hlo:lo≤hi)(hhi:hi<2 ^ f.w):
  FSpec Tryz.prog w0 136 #[.agg (encF f).toArray, .int .i64 (lo:Nat), .int .i64 (hi:Nat)] H (fun u H'=>∃ d,(u=slV d (rgF f.w hi (hi+1) lo).length∧SlOk d (rgF f.w hi (hi+1) lo).length 20)∧H'=slH d ((rgF f.w hi (hi+1) lo).flatMap (encRg f)) 78++H):=by
 refine An Tryz.func136 U ntmps136 U (rD tb 2 U (e_ (Kw U cs_) ?_ U));rintro _ _ ⟨n3,rfl,rfl⟩;refine rO tb 6 U (y_ (Kr U isAgg3 (by first|exact c_o)) ?_ U);refine rO tb 1 U (y_ (Kr U isAgg3 (by first|exact c_o)) ?_ U);refine rO tb 2 U (e_ (Ar (qe4 U U U U) call168 (bitsRange_s f hf lo hi hlo hhi)) ?_ U);rintro _ _ ⟨d,⟨rfl,hok⟩,rfl⟩;refine rO tb 14 U (Ai U (Kq U) ?_);exact⟨_,⟨d,⟨rfl,hok⟩,rfl⟩,sbt⟩
theorem port_s {w0:World}{H:List (Nat × Obj)}  :
  FSpec Tryz.prog w0 89 #[] H (Still (.agg (encF portFd).toArray) H):=by
 refine An Tryz.func89 U ntmps89 U (rD tb 2 U (e_ (Al zeroValue67 cs_) ?_ U));rintro _ _ ⟨n0,rfl,rfl⟩;refine rO tb 4 U (y_ (A8 (.cons Aj (.cons Aj .nil)) (zbd67_0_2 _ _)) ?_ U)
 first|refine A6 (Kv U U sizeOf67) U Ae ?_
 rintro _ _ ⟨rfl,rfl⟩;refine rO tb 3 U (Ai U (.cellA (Aa U) isAgg67 sizeOf67 U (by first|exact Av) .nil) ?_);exact⟨_,⟨rfl,rfl⟩,sbt⟩
theorem finds_s {w0:World}{H:List (Nat × Obj)}(nm:ByteArray)(n3:Nat)(hn:Fnd H n3 (Cl [.string nm] 9))(f:Fd):
  FSpec Tryz.prog w0 91 #[.agg (encF f).toArray, .pointer (some ⟨n3,0,none⟩)] H (Still (.bool (decide (f.nm=nm))) H):=by
 refine An Tryz.func91 U ntmps91 U (rD tb 2 U (e_ (Kw U cs_) ?_ U));rintro _ _ ⟨n2,rfl,rfl⟩;refine rO tb 6 U (y_ (Kr U isAgg9 (by first|exact c_o)) ?_ U);refine y_ (Kr U isAgg9 (by first|exact c_o|exact Cell.mono (w0:=w0) (Ah hn 0 _ U) (by exact sbt))) ?_ U;refine y_ (D2 (T U) (T U)) (rO tb 4 U (Ai U (Kq U) ?_)) U;exact⟨_,⟨by show Value.bool (decide (f.nm.data.toList=nm.data.toList))=_;simp only[nm_eq],rfl⟩,sbt⟩
theorem index_s {w0:World}{H:List (Nat × Obj)}(fl:List Fd)(q:Option Addr)(c:Nat)(hA:Arr w0 H q 3 encF fl)(hl:fl.length≤1000000)(nm:ByteArray)(n3:Nat)(hn:Fnd H n3 (Cl [.string nm] 9)):
  FSpec Tryz.prog w0 90 #[.slice q fl.length c, .func (.func 91) #[] #[.pointer (some ⟨n3,0,none⟩)]] H (Still (.int .i64 (e2i (idxF nm fl 0))) H):=by
 refine An Tryz.func90 U ntmps90 U (rD tb 14 U ?_);refine G7 (X:=Nat) (V:=fun k=>[(8, .int .i64 (k:Nat))]) (C:=[(0,_),(1,_),(7,_)]) (φ:=fun k=>k≤fl.length∧idxF nm fl 0=idxF nm (fl.drop k) k) (μ:=fun k=>fl.length - k) (x0:=0) ?_ ⟨Aa U,Aa U,Aa U,trivial⟩ ⟨atd,trivial⟩ ?_
 ·exact⟨Nat.zero_le _,rfl⟩
 rintro k ⟨hk,hix⟩;refine rD tb 6 U ?_
 first|refine Ac (Aa U) (fun c9=> ?_) (fun c9=> ?_)|refine Ag (Aa U) (fun c9=> ?_) (fun c9=> ?_)
 ·refine rC tb 15 U (y_ (Ku U U runUnderlying22 sizeOf67 qom (by first|exact rfl|exact(hA k (gd fl k) (B1 qom)).1)) ?_ U);refine y_ (Ks U isAgg67 sizeOf67 U (by first|exact(hA.mono (by exact sbt)).cs (i:=k) qom|exact Av)) ?_ U;refine y_ (G8 (T U) (qe1 U) call91 (fun H' hs=>finds_s (H:=H') nm n3 (Fnd.mono hn hs) (gd fl k))) (rO tb 2 U ?_) U
  first|refine Ac (Aa U) (fun c16=> ?_) (fun c16=> ?_)|refine Ag (Aa U) (fun c16=> ?_) (fun c16=> ?_)
  ·have heq:(gd fl k).nm=nm:=by simpa using c16
   refine rC tb 9 U (Ba (rX tb 2 U (Ai U (Kq U) ?_)));exact⟨_,⟨vint (by rw[hix,Gl qom,if_pos heq];rfl),rfl⟩,sbt⟩
  ·have hne: ¬ (gd fl k).nm=nm:=by simpa using c16
   refine rC tb 4 U (y_ (B8 (c:=1) (T U) Aj qom) ?_ U);refine rO tb 2 U ?_;refine A0 (k+1) ?_ ?_ ⟨atd,trivial⟩ ⟨Aa U,Aa U,Aa U,trivial⟩ ?_
   ·exact⟨by omega,by rw[hix,Gl qom,if_neg hne]⟩
   ·first|omega|(simp only[];omega)
   ·exact sbt
 ·obtain rfl:k=fl.length:=by omega
  refine rC tb 2 U (Ao (rX tb 8 U (Ai U (Kq U) ?_)));exact⟨_,⟨vint (by rw[hix,List.drop_length];rfl),rfl⟩,sbt⟩
theorem Ee {w0:World}{H:List (Nat × Obj)}(fl:List Fd)(q:Option Addr)(c:Nat)(hA:Arr w0 H q 3 encF fl)(hl:fl.length≤1000000)(nm:ByteArray):
  FSpec Tryz.prog w0 46 #[.slice q fl.length c, .string nm] H (Still (.tuple #[.agg (encF (fndFd fl nm).1).toArray, .bool (fndFd fl nm).2]) H):=by
 refine An Tryz.func46 U ntmps46 U (rD tb 2 U (e_ (Kw U cs_) ?_ U));rintro _ _ ⟨n3,rfl,rfl⟩;refine e_ (Al zeroValue67 cs_) ?_ U;rintro _ _ ⟨n4,rfl,rfl⟩;refine rO tb 5 U (Bl 4 [(0,true),(1,true),(2,true),(3,true)] _ mixd qkr sb0 ?_ Bp);refine o_y U (Kr U isAgg9 (by first|exact c_o)) ?_ U Ae;refine o_y U (Ak .nil call89 (fun H' hs=>port_s)) (o_y U (yl_field (T U) (field67 _ _ _)) (o_y U (D2 (T U) (T U)) (A7 U (rO tb 2 U ?_)) U Ae) U Ae) U Ae
 first|refine Ac (Aa U) (fun c10=> ?_) (fun c10=> ?_)|refine Ag (Aa U) (fun c10=> ?_) (fun c10=> ?_)
 ·have hp:nm=portN:=nm_eq.1 c10;refine rC tb 2 U (y_ (Ak .nil call89 (fun H' hs=>port_s)) ?_ U)
  first|refine A6 (Kv U U sizeOf67) U Ae ?_
  rintro _ _ ⟨rfl,rfl⟩;refine rO tb 5 U (Ai U (.cellA (Aa U) isAgg67 sizeOf67 U (by first|exact Av) (Kq U)) ?_);exact⟨_,⟨by unfold fndFd;rw[if_pos hp];rfl,rfl⟩,sbt⟩
 ·have hp: ¬ nm=portN:=fun e=>c10 (nm_eq.2 e)
  refine rC tb 5 U (y_ (B9 (.cons (T U) .nil)) (y_ (Ak (qe2 U U) call90 (fun H' hs=>index_s fl q c (hA.mono (List.Sublist.trans (by exact sbt) hs)) hl nm n3 (Fnd.mono As (List.Sublist.trans (by exact sbt) hs)))) ?_ U) U);refine rO tb 10 U ?_
  first|refine Ac (Aa U) (fun c16=> ?_) (fun c16=> ?_)|refine Ag (Aa U) (fun c16=> ?_) (fun c16=> ?_)
  ·have hno:idxF nm fl 0=none:=e2i_none qom;refine rC tb 2 U (y_ (A8 .nil (zbd67_z)) ?_ U)
   first|refine A6 (Kv U U sizeOf67) U Ae ?_
   rintro _ _ ⟨rfl,rfl⟩;refine rO tb 5 U (Ai U (.cellA (Aa U) isAgg67 sizeOf67 U (by first|exact Av) (Kq U)) ?_);exact⟨_,⟨by unfold fndFd;rw[if_neg hp,hno];rfl,rfl⟩,sbt⟩
  ·obtain⟨i,hi0⟩:=e2i_some (o:=idxF nm fl 0) qom;have hi:=(idxF_lt hi0).2;rw[Nat.zero_add] at hi;rw[hi0];refine rC tb 6 U (y_ (Ku U U runUnderlying22 sizeOf67 qom (by first|exact rfl|exact(hA i (gd fl i) (B1 hi)).1)) ?_ U);refine y_ (Ks U isAgg67 sizeOf67 U (by first|exact(hA.mono (by exact sbt)).cs (i:=i) hi|exact Av)) ?_ U
   first|refine A6 (Kv U U sizeOf67) U Ae ?_
   rintro _ _ ⟨rfl,rfl⟩;refine rO tb 4 U (Ai U (.cellA (Aa U) isAgg67 sizeOf67 U (by first|exact Av) (Kq U)) ?_);exact⟨_,⟨by unfold fndFd;rw[if_neg hp,hi0];rfl,rfl⟩,sbt⟩
inductive Pdm
 |mk (kind:Int) (nm:ByteArray) (val to:Int) (q:Option Addr) (cap:Nat) (subs:List Pdm)
instance:Inhabited Pdm:=⟨.mk 0 ⟨#[]⟩ 0 0 none 0 []⟩
def Pdm.kind:Pdm→Int
 | .mk k _ _ _ _ _ _=>k
def Pdm.nm:Pdm→ByteArray
 | .mk _ s _ _ _ _ _=>s
def Pdm.val:Pdm→Int
 | .mk _ _ v _ _ _ _=>v
def Pdm.to:Pdm→Int
 | .mk _ _ _ t _ _ _=>t
def Pdm.q:Pdm→Option Addr
 | .mk _ _ _ _ q _ _=>q
def Pdm.cap:Pdm→Nat
 | .mk _ _ _ _ _ c _=>c
def Pdm.subs:Pdm→List Pdm
 | .mk _ _ _ _ _ _ xs=>xs
abbrev encPd (m:Pdm):List Value:=[.int .i64 m.kind, .string m.nm, .int .i64 m.val, .int .i64 m.to, .slice m.q m.subs.length m.cap]
inductive PdM (w0:World) (H:List (Nat × Obj)):Pdm→Prop
 |mk {k:Int} {s:ByteArray} {v t:Int} {q:Option Addr} {c:Nat} {xs:List Pdm}:Arr w0 H q 5 encPd xs→(∀ a,a∈xs→PdM w0 H a)→PdM w0 H (.mk k s v t q c xs)
theorem PdM.mono {w0:World}{H H':List (Nat × Obj)}{m:Pdm}(h:PdM w0 H m)(hs:H.Sublist H'):PdM w0 H' m:=by
 induction h with
 |mk h1 _ ih=>exact .mk (h1.mono hs) ih
theorem PdM.arr {w0:World}{H:List (Nat × Obj)}{m:Pdm}(h:PdM w0 H m):Arr w0 H m.q 5 encPd m.subs:=by cases h;assumption
theorem PdM.sub {w0:World}{H:List (Nat × Obj)}{m a:Pdm}(h:PdM w0 H m)(ha:a∈m.subs):PdM w0 H a:=by cases h;rename_i h1 h2;exact h2 _ ha
inductive IsP (fl:List Fd):Pdm→Pd→Prop
 |tru {m:Pdm}:m.kind=1→IsP fl m .tru
 |fls {m:Pdm}:m.kind=2→IsP fl m .fls
 |eq {m:Pdm} {n:Nat}:m.kind=3→m.val=(n:Int)→IsP fl m (.eq (fndFd fl m.nm).1 n)
 |pre {m:Pdm} {n k:Nat}:m.kind=4→m.val=(n:Int)→m.to=(k:Int)→IsP fl m (.pre (fndFd fl m.nm).1 n k)
 |rng {m:Pdm} {n k:Nat}:m.kind=5→m.val=(n:Int)→m.to=(k:Int)→IsP fl m (.rng (fndFd fl m.nm).1 n k)
 |no {m a:Pdm} {p:Pd}:m.kind=6→m.subs=[a]→IsP fl a p→IsP fl m (.no p)
 |and {m a b:Pdm} {p q:Pd}:m.kind=7→m.subs=[a,b]→IsP fl a p→IsP fl b q→IsP fl m (.and p q)
 |or {m a b:Pdm} {p q:Pd}:m.kind=8→m.subs=[a,b]→IsP fl a p→IsP fl b q→IsP fl m (.or p q)
 |tim {m:Pdm} {n k:Int}:m.kind=9→m.val=(n:Int)→m.to=(k:Int)→IsP fl m (.time n k)
structure En (w0:World) (R:List (Nat × Obj)) (D:Sd) (fl:List Fd):Prop where
 bits:Arr w0 R D.qb 1 encB1 D.bs
 ok:BsOk D.bs
 flds:Arr w0 R D.qf 3 encF fl
 nf:D.nf=fl.length
 few:fl.length≤1000000
theorem En.mono {w0:World}{R R':List (Nat × Obj)}{D:Sd}{fl:List Fd}(h:En w0 R D fl)(hs:R.Sublist R'):En w0 R' D fl:=⟨h.bits.mono hs,h.ok,h.flds.mono hs,h.nf,h.few⟩
theorem Kf (bs:List Nat)(hb:BsOk bs)(g:Nat→Bool):xh bs (hdOf g)=fun k=>g (gd bs k):=by
 funext k
 unfold xh;refine Bm _ ?_
 by_cases h:k<bs.length
 ·exact hb.lt _ (A2 h)
 ·unfold gd List.getD;rw[List.getElem?_eq_none qom];decide
theorem E9 {most:Nat}{bs:List Nat}(hb:BsOk bs)(f:Fd)(n k:Nat)(ns:Ns):setF most bs.length (xh bs (preM f n k).1) (xh bs (preM f n k).2) ns=setPF most bs f n k ns:=by
 unfold preM setPF;rw[Kf bs hb,Kf bs hb]
theorem relF_pre {most:Nat}{bs:List Nat}(hb:BsOk bs)(f:Fd)(n:Nat)(ns:Ns):relF most bs.length (xh bs (preM f n f.w).1) (xh bs (preM f n f.w).2) ns=relPF most bs f n ns:=by
 unfold preM relPF;rw[Kf bs hb,Kf bs hb]
def TruS (w0:World) (D:Sd) (fl:List Fd) (tick:Int) (p:Pd):Prop:=∀ {R:List (Nat × Obj)} {v:Sv} {ns:Ns} {m:Pdm},En w0 R D fl→IsP fl m p→p.Fit D.bs→PdM w0 R m→StOk D v ns→
 FSpecP Tryz.prog w0 95 #[.pointer (some ⟨D.p,0,none⟩), .agg (encPd m).toArray, .int .i64 tick] (SM D v ns++R) (OpK D (truF D.most.toNat D.bs tick p ns) R) (.iface 148 (.agg #[])) (OpB D (truF D.most.toNat D.bs tick p ns) ns R)
theorem rgF_len (w h:Nat):∀ (n l:Nat),(rgF w h n l).length≤n
 |0,_=>Nat.le_refl _
 |n+1,l=>by
  rw[rgF]
  split
  ·simp only[List.length_cons];have:=rgF_len w h n (l+2 ^ frF w l h (w+1) 0);omega
  ·simp
theorem G0 {w0:World}{D:Sd}{v:Sv}{ns:Ns}{H:List (Nat × Obj)}{fl:List Fd}(h:D.nf=fl.length)(hs:(SM D v ns).Sublist H):Cell w0 H ⟨D.p,0,none⟩ (.slice D.qf fl.length D.cf):=by
 have:=B7 (w0:=w0) (D:=D) (v:=v) (ns:=ns) (j:=0) hs U;rw[h] at this;exact this
theorem rn_drop {most:Nat}{bs:List Nat}{f:Fd}{l:List (Nat × Nat)}{i:Nat}(hi:i<l.length)(ns:Ns)(id:Nat):rnF most bs f (l.drop i) ns id=match setPF most bs f (gd l i).1 (gd l i).2 ns with
  |none=>none
  |some (s,ns1)=>match orF most ns1 id s with
   |none=>none
   |some (id',ns2)=>rnF most bs f (l.drop (i+1)) ns2 id':=by
 rw[List.drop_eq_getElem_cons hi,rnF,Ay hi]
 rfl
theorem truT_s {w0:World}{D:Sd}{v:Sv}{ns:Ns}{R:List (Nat × Obj)}{fl:List Fd}(hE:En w0 R D fl)(hst:StOk D v ns)(nm:ByteArray)(q:Option Addr)(c:Nat)(tick:Int)(vv tt:Int)(xl:Nat):
  FSpecP Tryz.prog w0 95 #[.pointer (some ⟨D.p,0,none⟩), .agg #[.int .i64 1, .string nm, .int .i64 vv, .int .i64 tt, .slice q xl c], .int .i64 tick] (SM D v ns++R) (OpK D (some ((1:Nat),ns)) R) (.iface 148 (.agg #[])) (OpB D (some ((1:Nat),ns)) ns R):=by
 refine Bv Tryz.func95 U ntmps95 U (rD tb 2 U (e_ (Kw U cs_) ?_ U));rintro _ _ ⟨n4,rfl,rfl⟩;refine rO tb 4 U (Bl 13 [(0,true),(1,true),(2,true),(3,true),(4,true),(5,true),(6,true),(7,true),(8,true),(9,true),(10,false),(11,false),(12,true)] _ mixd qkr sb0 ?_ B4);refine rP tb 3 U ?_;refine o_y U (Kr U isAgg22 (by exact G0 hE.nf (by repeat (first|exact Dl|exact sb0|refine List.Sublist.cons _ ?_)))) ?_ U Ae;refine rP tb 1 U (o_y U (Kr U isAgg9 (by first|exact c_o)) ?_ U Ae);refine o_y U (Ak (qe2 U U) call46 (fun H' hs=>Ee fl D.qf D.cf (hE.flds.mono (List.Sublist.trans (by exact sbt) hs)) hE.few nm)) ?_ U Ae;refine rP tb 3 U (o_e U (Al zeroValue67 cs_) ?_ U Ae);rintro _ _ ⟨n7,rfl,rfl⟩;refine⟨sbt,?_⟩
 first|refine o_e U (Kv U U sizeOf67) ?_ U Ae
 rintro _ _ ⟨rfl,rfl⟩;refine⟨sbt,(rP tb 1 U (A7 U (rO tb 6 U (y_ (Kr U isAgg3 (by first|exact c_o)) ?_ U))))⟩;refine rO tb 9 U ?_
 first|refine Ac (Aa U) (fun c24=> ?_) (fun c24=> ?_)|refine Ag (Aa U) (fun c24=> ?_) (fun c24=> ?_)
 ·refine rC tb 8 U (By U (Kq U) ?_);exact⟨_,⟨(1,v,ns),⟨rfl,rfl,hst⟩,rfl⟩,by exact sbt⟩
 ·exfalso;omega
theorem truF_s {w0:World}{D:Sd}{v:Sv}{ns:Ns}{R:List (Nat × Obj)}{fl:List Fd}(hE:En w0 R D fl)(hst:StOk D v ns)(nm:ByteArray)(q:Option Addr)(c:Nat)(tick:Int)(vv tt:Int)(xl:Nat):
  FSpecP Tryz.prog w0 95 #[.pointer (some ⟨D.p,0,none⟩), .agg #[.int .i64 2, .string nm, .int .i64 vv, .int .i64 tt, .slice q xl c], .int .i64 tick] (SM D v ns++R) (OpK D (some ((0:Nat),ns)) R) (.iface 148 (.agg #[])) (OpB D (some ((0:Nat),ns)) ns R):=by
 refine Bv Tryz.func95 U ntmps95 U (rD tb 2 U (e_ (Kw U cs_) ?_ U));rintro _ _ ⟨n4,rfl,rfl⟩;refine rO tb 4 U (Bl 13 [(0,true),(1,true),(2,true),(3,true),(4,true),(5,true),(6,true),(7,true),(8,true),(9,true),(10,false),(11,false),(12,true)] _ mixd qkr sb0 ?_ B4);refine rP tb 3 U ?_;refine o_y U (Kr U isAgg22 (by exact G0 hE.nf (by repeat (first|exact Dl|exact sb0|refine List.Sublist.cons _ ?_)))) ?_ U Ae;refine rP tb 1 U (o_y U (Kr U isAgg9 (by first|exact c_o)) ?_ U Ae);refine o_y U (Ak (qe2 U U) call46 (fun H' hs=>Ee fl D.qf D.cf (hE.flds.mono (List.Sublist.trans (by exact sbt) hs)) hE.few nm)) ?_ U Ae;refine rP tb 3 U (o_e U (Al zeroValue67 cs_) ?_ U Ae);rintro _ _ ⟨n7,rfl,rfl⟩;refine⟨sbt,?_⟩
 first|refine o_e U (Kv U U sizeOf67) ?_ U Ae
 rintro _ _ ⟨rfl,rfl⟩;refine⟨sbt,(rP tb 1 U (A7 U (rO tb 6 U (y_ (Kr U isAgg3 (by first|exact c_o)) ?_ U))))⟩;refine rO tb 9 U ?_
 first|refine Ac (Aa U) (fun c24=> ?_) (fun c24=> ?_)|refine Ag (Aa U) (fun c24=> ?_) (fun c24=> ?_)
 ·exfalso;omega
 ·refine rC tb 6 U ?_
  first|refine Ac (Aa U) (fun c26=> ?_) (fun c26=> ?_)|refine Ag (Aa U) (fun c26=> ?_) (fun c26=> ?_)
  ·exfalso;omega
  ·refine rC tb 6 U ?_
   first|refine Ac (Aa U) (fun c34=> ?_) (fun c34=> ?_)|refine Ag (Aa U) (fun c34=> ?_) (fun c34=> ?_)
   ·exfalso;omega
   ·refine rC tb 6 U ?_
    first|refine Ac (Aa U) (fun c44=> ?_) (fun c44=> ?_)|refine Ag (Aa U) (fun c44=> ?_) (fun c44=> ?_)
    ·exfalso;omega
    ·refine rC tb 6 U ?_
     first|refine Ac (Aa U) (fun c65=> ?_) (fun c65=> ?_)|refine Ag (Aa U) (fun c65=> ?_) (fun c65=> ?_)
     ·exfalso;omega
     ·refine rC tb 6 U ?_
      first|refine Ac (Aa U) (fun c76=> ?_) (fun c76=> ?_)|refine Ag (Aa U) (fun c76=> ?_) (fun c76=> ?_)
      ·exfalso;omega
      ·refine kC tb 6 [0,2,4,23,94] rfl U ?_
       first|refine Ac (Aa U) (fun c94=> ?_) (fun c94=> ?_)|refine Ag (Aa U) (fun c94=> ?_) (fun c94=> ?_)
       ·exfalso;omega
       ·refine rC tb 6 U ?_
        first|refine Ac (Aa U) (fun c112=> ?_) (fun c112=> ?_)|refine Ag (Aa U) (fun c112=> ?_) (fun c112=> ?_)
        ·exfalso;omega
        ·refine rC tb 9 U (By U (Kq U) ?_);exact⟨_,⟨(0,v,ns),⟨rfl,rfl,hst⟩,rfl⟩,by exact sbt⟩
theorem truTime_s {w0:World}{D:Sd}{v:Sv}{ns:Ns}{R:List (Nat × Obj)}{fl:List Fd}(hE:En w0 R D fl)(hst:StOk D v ns)(nm:ByteArray)(q:Option Addr)(c:Nat)(tick:Int)(vv tt:Int)(xl:Nat):
  FSpecP Tryz.prog w0 95 #[.pointer (some ⟨D.p,0,none⟩), .agg #[.int .i64 9, .string nm, .int .i64 vv, .int .i64 tt, .slice q xl c], .int .i64 tick] (SM D v ns++R) (OpK D (some ((if vv≤tick∧tick<tt then 1 else 0:Nat),ns)) R) (.iface 148 (.agg #[])) (OpB D (some ((if vv≤tick∧tick<tt then 1 else 0:Nat),ns)) ns R):=by
 refine Bv Tryz.func95 U ntmps95 U (rD tb 2 U (e_ (Kw U cs_) ?_ U));rintro _ _ ⟨n4,rfl,rfl⟩;refine rO tb 4 U (Bl 13 [(0,true),(1,true),(2,true),(3,true),(4,true),(5,true),(6,true),(7,true),(8,true),(9,true),(10,false),(11,false),(12,true)] _ mixd qkr sb0 ?_ B4);refine rP tb 3 U ?_;refine o_y U (Kr U isAgg22 (by exact G0 hE.nf (by repeat (first|exact Dl|exact sb0|refine List.Sublist.cons _ ?_)))) ?_ U Ae;refine rP tb 1 U (o_y U (Kr U isAgg9 (by first|exact c_o)) ?_ U Ae);refine o_y U (Ak (qe2 U U) call46 (fun H' hs=>Ee fl D.qf D.cf (hE.flds.mono (List.Sublist.trans (by exact sbt) hs)) hE.few nm)) ?_ U Ae;refine rP tb 3 U (o_e U (Al zeroValue67 cs_) ?_ U Ae);rintro _ _ ⟨n7,rfl,rfl⟩;refine⟨sbt,?_⟩
 first|refine o_e U (Kv U U sizeOf67) ?_ U Ae
 rintro _ _ ⟨rfl,rfl⟩;refine⟨sbt,(rP tb 1 U (A7 U (rO tb 6 U (y_ (Kr U isAgg3 (by first|exact c_o)) ?_ U))))⟩;refine rO tb 9 U ?_
 first|refine Ac (Aa U) (fun c24=> ?_) (fun c24=> ?_)|refine Ag (Aa U) (fun c24=> ?_) (fun c24=> ?_)
 ·exfalso;omega
 ·refine rC tb 6 U ?_
  first|refine Ac (Aa U) (fun c26=> ?_) (fun c26=> ?_)|refine Ag (Aa U) (fun c26=> ?_) (fun c26=> ?_)
  ·exfalso;omega
  ·refine rC tb 6 U ?_
   first|refine Ac (Aa U) (fun c34=> ?_) (fun c34=> ?_)|refine Ag (Aa U) (fun c34=> ?_) (fun c34=> ?_)
   ·exfalso;omega
   ·refine rC tb 6 U ?_
    first|refine Ac (Aa U) (fun c44=> ?_) (fun c44=> ?_)|refine Ag (Aa U) (fun c44=> ?_) (fun c44=> ?_)
    ·exfalso;omega
    ·refine rC tb 6 U ?_
     first|refine Ac (Aa U) (fun c65=> ?_) (fun c65=> ?_)|refine Ag (Aa U) (fun c65=> ?_) (fun c65=> ?_)
     ·exfalso;omega
     ·refine rC tb 6 U ?_
      first|refine Ac (Aa U) (fun c76=> ?_) (fun c76=> ?_)|refine Ag (Aa U) (fun c76=> ?_) (fun c76=> ?_)
      ·exfalso;omega
      ·refine kC tb 6 [0,2,4,23,94] rfl U ?_
       first|refine Ac (Aa U) (fun c94=> ?_) (fun c94=> ?_)|refine Ag (Aa U) (fun c94=> ?_) (fun c94=> ?_)
       ·exfalso;omega
       ·refine rC tb 6 U ?_
        first|refine Ac (Aa U) (fun c112=> ?_) (fun c112=> ?_)|refine Ag (Aa U) (fun c112=> ?_) (fun c112=> ?_)
        ·refine rC tb 4 U (y_ (Kr U isAgg3 (by first|exact c_o)) ?_ U);refine rO tb 2 U ?_
         first|refine Am (s:=118) (Aa U) (fun c118=> ?_) (fun c118=> ?_)|refine A1 (s:=118) (Aa U) (fun c118=> ?_) (fun c118=> ?_)
         ·refine rO tb 2 U (Az (Kr U isAgg3 (by first|exact c_o)) U (A3 U U (Aa U)) ?_);refine rO tb 4 U ?_
          first|refine Ac (Aa U) (fun c123=> ?_) (fun c123=> ?_)|refine Ag (Aa U) (fun c123=> ?_) (fun c123=> ?_)
          ·refine rC tb 8 U (By U (Kq U) ?_);exact⟨_,⟨(1,v,ns),⟨rfl,by rw[if_pos ⟨by omega,by omega⟩],hst⟩,rfl⟩,by exact sbt⟩
          ·refine rC tb 9 U (By U (Kq U) ?_);exact⟨_,⟨(0,v,ns),⟨rfl,by rw[if_neg qom],hst⟩,rfl⟩,by exact sbt⟩
         ·refine rO tb 17 U (By U (Kq U) ?_);exact⟨_,⟨(0,v,ns),⟨rfl,by rw[if_neg qom],hst⟩,rfl⟩,by exact sbt⟩
        ·exfalso;omega
theorem truEq_s {w0:World}{D:Sd}{v:Sv}{ns:Ns}{R:List (Nat × Obj)}{fl:List Fd}(hE:En w0 R D fl)(hst:StOk D v ns)(nm:ByteArray)(q:Option Addr)(c:Nat)(tick:Int)(n:Nat)(tt:Int)(xl:Nat)(hf:FdOk (fndFd fl nm).1)(hn:n<2 ^ (fndFd fl nm).1.w):
  FSpecP Tryz.prog w0 95 #[.pointer (some ⟨D.p,0,none⟩), .agg #[.int .i64 3, .string nm, .int .i64 (n:Nat), .int .i64 tt, .slice q xl c], .int .i64 tick] (SM D v ns++R) (OpK D (setPF D.most.toNat D.bs (fndFd fl nm).1 n (fndFd fl nm).1.w ns) R) (.iface 148 (.agg #[])) (OpB D (setPF D.most.toNat D.bs (fndFd fl nm).1 n (fndFd fl nm).1.w ns) ns R):=by
 refine Bv Tryz.func95 U ntmps95 U (rD tb 2 U (e_ (Kw U cs_) ?_ U));rintro _ _ ⟨n4,rfl,rfl⟩;refine rO tb 4 U (Bl 13 [(0,true),(1,true),(2,true),(3,true),(4,true),(5,true),(6,true),(7,true),(8,true),(9,true),(10,false),(11,false),(12,true)] _ mixd qkr sb0 ?_ B4);refine rP tb 3 U ?_;refine o_y U (Kr U isAgg22 (by exact G0 hE.nf (by repeat (first|exact Dl|exact sb0|refine List.Sublist.cons _ ?_)))) ?_ U Ae;refine rP tb 1 U (o_y U (Kr U isAgg9 (by first|exact c_o)) ?_ U Ae);refine o_y U (Ak (qe2 U U) call46 (fun H' hs=>Ee fl D.qf D.cf (hE.flds.mono (List.Sublist.trans (by exact sbt) hs)) hE.few nm)) ?_ U Ae;refine rP tb 3 U (o_e U (Al zeroValue67 cs_) ?_ U Ae);rintro _ _ ⟨n7,rfl,rfl⟩;refine⟨sbt,?_⟩
 first|refine o_e U (Kv U U sizeOf67) ?_ U Ae
 rintro _ _ ⟨rfl,rfl⟩;refine⟨sbt,(rP tb 1 U (A7 U (rO tb 6 U (y_ (Kr U isAgg3 (by first|exact c_o)) ?_ U))))⟩;refine rO tb 9 U ?_
 first|refine Ac (Aa U) (fun c24=> ?_) (fun c24=> ?_)|refine Ag (Aa U) (fun c24=> ?_) (fun c24=> ?_)
 ·exfalso;omega
 ·refine rC tb 6 U ?_
  first|refine Ac (Aa U) (fun c26=> ?_) (fun c26=> ?_)|refine Ag (Aa U) (fun c26=> ?_) (fun c26=> ?_)
  ·refine rC tb 3 U (y_ (Ks U isAgg67 sizeOf67 U (by first|exact Av)) ?_ U);refine rO tb 1 U (y_ (Kr U isAgg3 (by first|exact c_o)) ?_ U);refine y_ (Ak (qe2 U U) call134 (fun H' hs=>equal_s _ hf n hn)) ?_ U;refine p_ (A5 (.cons (T rfl) (.cons (T rfl) .nil)) call133 (Bc (M:=SM D v ns) (set_s (R:=((n7,Cl (encF (fndFd fl nm).1) 67)::(n4,Cl [.int .i64 3, .string nm, .int .i64 (n:Nat), .int .i64 tt, .slice q xl c] 25)::R)) (hE.bits.mono (by exact sbt)) hE.ok hst (preM (fndFd fl nm).1 n (fndFd fl nm).1.w) (Bn _ _ _).1 (Bn _ _ _).2) (by repeat (first|exact Bw|exact LocL.h|apply LocL.t|apply LocL.a)))) ?_ (by rintro _ ⟨⟨v1,ns1⟩,⟨e1,g1,hst1⟩,rfl⟩;(repeat (first|refine Ca ?_|refine Bu ?_));exact Bo ⟨(v1,ns1),⟨by rw[E9 hE.ok] at e1;exact e1,g1,hst1⟩,rfl⟩ (by exact sbt)) rfl;rintro _ _ ⟨⟨r1,v1,ns1⟩,⟨rfl,e1,hst1⟩,rfl⟩
   dsimp only at e1 hst1
   rw[E9 hE.ok] at e1;refine rO tb 6 U (By U (Kq U) ?_);exact⟨_,⟨(r1,v1,ns1),⟨rfl,e1,hst1⟩,rfl⟩,by exact sbt⟩
  ·exfalso;omega
theorem truPre_s {w0:World}{D:Sd}{v:Sv}{ns:Ns}{R:List (Nat × Obj)}{fl:List Fd}(hE:En w0 R D fl)(hst:StOk D v ns)(nm:ByteArray)(q:Option Addr)(c:Nat)(tick:Int)(n k:Nat)(xl:Nat)(hf:FdOk (fndFd fl nm).1)(hn:n<2 ^ (fndFd fl nm).1.w)(hk:k≤(fndFd fl nm).1.w):
  FSpecP Tryz.prog w0 95 #[.pointer (some ⟨D.p,0,none⟩), .agg #[.int .i64 4, .string nm, .int .i64 (n:Nat), .int .i64 (k:Nat), .slice q xl c], .int .i64 tick] (SM D v ns++R) (OpK D (setPF D.most.toNat D.bs (fndFd fl nm).1 n k ns) R) (.iface 148 (.agg #[])) (OpB D (setPF D.most.toNat D.bs (fndFd fl nm).1 n k ns) ns R):=by
 refine Bv Tryz.func95 U ntmps95 U (rD tb 2 U (e_ (Kw U cs_) ?_ U));rintro _ _ ⟨n4,rfl,rfl⟩;refine rO tb 4 U (Bl 13 [(0,true),(1,true),(2,true),(3,true),(4,true),(5,true),(6,true),(7,true),(8,true),(9,true),(10,false),(11,false),(12,true)] _ mixd qkr sb0 ?_ B4);refine rP tb 3 U ?_;refine o_y U (Kr U isAgg22 (by exact G0 hE.nf (by repeat (first|exact Dl|exact sb0|refine List.Sublist.cons _ ?_)))) ?_ U Ae;refine rP tb 1 U (o_y U (Kr U isAgg9 (by first|exact c_o)) ?_ U Ae);refine o_y U (Ak (qe2 U U) call46 (fun H' hs=>Ee fl D.qf D.cf (hE.flds.mono (List.Sublist.trans (by exact sbt) hs)) hE.few nm)) ?_ U Ae;refine rP tb 3 U (o_e U (Al zeroValue67 cs_) ?_ U Ae);rintro _ _ ⟨n7,rfl,rfl⟩;refine⟨sbt,?_⟩
 first|refine o_e U (Kv U U sizeOf67) ?_ U Ae
 rintro _ _ ⟨rfl,rfl⟩;refine⟨sbt,(rP tb 1 U (A7 U (rO tb 6 U (y_ (Kr U isAgg3 (by first|exact c_o)) ?_ U))))⟩;refine rO tb 9 U ?_
 first|refine Ac (Aa U) (fun c24=> ?_) (fun c24=> ?_)|refine Ag (Aa U) (fun c24=> ?_) (fun c24=> ?_)
 ·exfalso;omega
 ·refine rC tb 6 U ?_
  first|refine Ac (Aa U) (fun c26=> ?_) (fun c26=> ?_)|refine Ag (Aa U) (fun c26=> ?_) (fun c26=> ?_)
  ·exfalso;omega
  ·refine rC tb 6 U ?_
   first|refine Ac (Aa U) (fun c34=> ?_) (fun c34=> ?_)|refine Ag (Aa U) (fun c34=> ?_) (fun c34=> ?_)
   ·refine rC tb 3 U (y_ (Ks U isAgg67 sizeOf67 U (by first|exact Av)) ?_ U);refine rO tb 1 U (y_ (Kr U isAgg3 (by first|exact c_o)) ?_ U);refine rO tb 1 U (y_ (Kr U isAgg3 (by first|exact c_o)) ?_ U);refine y_ (Ak (qe3 U U U) call135 (fun H' hs=>prefix_s _ hf n k hn hk)) ?_ U;refine p_ (A5 (.cons (T rfl) (.cons (T rfl) .nil)) call133 (Bc (M:=SM D v ns) (set_s (R:=((n7,Cl (encF (fndFd fl nm).1) 67)::(n4,Cl [.int .i64 4, .string nm, .int .i64 (n:Nat), .int .i64 (k:Nat), .slice q xl c] 25)::R)) (hE.bits.mono (by exact sbt)) hE.ok hst (preM (fndFd fl nm).1 n k) (Bn _ _ _).1 (Bn _ _ _).2) (by repeat (first|exact Bw|exact LocL.h|apply LocL.t|apply LocL.a)))) ?_ (by rintro _ ⟨⟨v1,ns1⟩,⟨e1,g1,hst1⟩,rfl⟩;(repeat (first|refine Ca ?_|refine Bu ?_));exact Bo ⟨(v1,ns1),⟨by rw[E9 hE.ok] at e1;exact e1,g1,hst1⟩,rfl⟩ (by exact sbt)) rfl;rintro _ _ ⟨⟨r1,v1,ns1⟩,⟨rfl,e1,hst1⟩,rfl⟩
    dsimp only at e1 hst1
    rw[E9 hE.ok] at e1;refine kO tb 3 [6] rfl U (rG tb 3 U (By U (Kq U) ?_));exact⟨_,⟨(r1,v1,ns1),⟨rfl,e1,hst1⟩,rfl⟩,by exact sbt⟩
   ·exfalso;omega
theorem truNo_s {w0:World}{D:Sd}{v:Sv}{ns:Ns}{R:List (Nat × Obj)}{fl:List Fd}(hE:En w0 R D fl)(hst:StOk D v ns)(nm:ByteArray)(q:Option Addr)(c:Nat)(tick:Int)(vv tt:Int)(a:Pdm)(hA:Arr w0 R q 5 encPd [a])(hMa:PdM w0 R a)(p:Pd)(hIa:IsP fl a p)(hFa:p.Fit D.bs)(iha:TruS w0 D fl tick p):
  FSpecP Tryz.prog w0 95 #[.pointer (some ⟨D.p,0,none⟩), .agg #[.int .i64 6, .string nm, .int .i64 vv, .int .i64 tt, .slice q [a].length c], .int .i64 tick] (SM D v ns++R) (OpK D (truF D.most.toNat D.bs tick (.no p) ns) R) (.iface 148 (.agg #[])) (OpB D (truF D.most.toNat D.bs tick (.no p) ns) ns R):=by
 refine Bv Tryz.func95 U ntmps95 U (rD tb 2 U (e_ (Kw U cs_) ?_ U));rintro _ _ ⟨n4,rfl,rfl⟩;refine rO tb 4 U (Bl 13 [(0,true),(1,true),(2,true),(3,true),(4,true),(5,true),(6,true),(7,true),(8,true),(9,true),(10,false),(11,false),(12,true)] _ mixd qkr sb0 ?_ B4);refine rP tb 3 U ?_;refine o_y U (Kr U isAgg22 (by exact G0 hE.nf (by repeat (first|exact Dl|exact sb0|refine List.Sublist.cons _ ?_)))) ?_ U Ae;refine rP tb 1 U (o_y U (Kr U isAgg9 (by first|exact c_o)) ?_ U Ae);refine o_y U (Ak (qe2 U U) call46 (fun H' hs=>Ee fl D.qf D.cf (hE.flds.mono (List.Sublist.trans (by exact sbt) hs)) hE.few nm)) ?_ U Ae;refine rP tb 3 U (o_e U (Al zeroValue67 cs_) ?_ U Ae);rintro _ _ ⟨n7,rfl,rfl⟩;refine⟨sbt,?_⟩
 first|refine o_e U (Kv U U sizeOf67) ?_ U Ae
 rintro _ _ ⟨rfl,rfl⟩;refine⟨sbt,(rP tb 1 U (A7 U (rO tb 6 U (y_ (Kr U isAgg3 (by first|exact c_o)) ?_ U))))⟩;refine rO tb 9 U ?_
 first|refine Ac (Aa U) (fun c24=> ?_) (fun c24=> ?_)|refine Ag (Aa U) (fun c24=> ?_) (fun c24=> ?_)
 ·exfalso;omega
 ·refine rC tb 6 U ?_
  first|refine Ac (Aa U) (fun c26=> ?_) (fun c26=> ?_)|refine Ag (Aa U) (fun c26=> ?_) (fun c26=> ?_)
  ·exfalso;omega
  ·refine rC tb 6 U ?_
   first|refine Ac (Aa U) (fun c34=> ?_) (fun c34=> ?_)|refine Ag (Aa U) (fun c34=> ?_) (fun c34=> ?_)
   ·exfalso;omega
   ·refine rC tb 6 U ?_
    first|refine Ac (Aa U) (fun c44=> ?_) (fun c44=> ?_)|refine Ag (Aa U) (fun c44=> ?_) (fun c44=> ?_)
    ·exfalso;omega
    ·refine rC tb 6 U ?_
     first|refine Ac (Aa U) (fun c65=> ?_) (fun c65=> ?_)|refine Ag (Aa U) (fun c65=> ?_) (fun c65=> ?_)
     ·refine rC tb 5 U (y_ (Kr U isAgg23 (by first|exact c_o)) ?_ U);refine y_ (Ch (T U) Aj runUnderlying23 sizeOf25 (by simp) (by first|exact rfl|exact(hA 0 a U).1)) ?_ U;refine y_ (Ks U isAgg25 sizeOf25 U (by first|exact(hA.mono (by exact sbt)).cs (i:=0) (by simp)|exact Av)) ?_ U;refine rO tb 1 U ?_;refine p_ (A5 (.cons (T rfl) (.cons (T rfl) (.cons (T rfl) .nil))) call95 (Bc (M:=SM D v ns) (iha (R:=((n7,Cl (encF (fndFd fl nm).1) 67)::(n4,Cl [.int .i64 6, .string nm, .int .i64 vv, .int .i64 tt, .slice q [a].length c] 25)::R)) (hE.mono (by exact sbt)) hIa hFa (hMa.mono (by exact sbt)) hst) (by repeat (first|exact Bw|exact LocL.h|apply LocL.t|apply LocL.a)))) ?_ (by rintro _ ⟨⟨v1,ns1⟩,⟨e1,g1,hst1⟩,rfl⟩;(repeat (first|refine Ca ?_|refine Bu ?_));exact Bo ⟨(v1,ns1),⟨by rw[truF,e1],g1,hst1⟩,rfl⟩ (by exact sbt)) rfl;rintro _ _ ⟨⟨r1,v1,ns1⟩,⟨rfl,e1,hst1⟩,rfl⟩
      dsimp only at e1 hst1
      obtain⟨g1,l1,_⟩:=Dz hE.ok tick _ hFa hst.w e1;refine p_ (A5 (.cons (T rfl) (.cons (T rfl) .nil)) call137 (Bc (M:=SM D v1 ns1) (not_s hst1 _ r1 l1) (by repeat (first|exact Bw|exact LocL.h|apply LocL.t|apply LocL.a)))) ?_ (by rintro _ ⟨⟨v2,ns2⟩,⟨e2,g2,hst2⟩,rfl⟩;(repeat refine Ca ?_);exact Bo ⟨(v2,ns2),⟨by rw[truF,e1];exact e2,g1.trans g2,hst2⟩,rfl⟩ (by exact sbt)) rfl;rintro _ _ ⟨⟨r2,v2,ns2⟩,⟨rfl,e2,hst2⟩,rfl⟩
      dsimp only at e2 hst2
      refine kO tb 3 [6] rfl U (rG tb 3 U (By U (Kq U) ?_));exact⟨_,⟨(r2,v2,ns2),⟨rfl,by rw[truF,e1];exact e2,hst2⟩,rfl⟩,by exact sbt⟩
     ·exfalso;omega
theorem truAnd_s {w0:World}{D:Sd}{v:Sv}{ns:Ns}{R:List (Nat × Obj)}{fl:List Fd}(hE:En w0 R D fl)(hst:StOk D v ns)(nm:ByteArray)(q:Option Addr)(c:Nat)(tick:Int)(vv tt:Int)(a b:Pdm)(hA:Arr w0 R q 5 encPd [a,b])(hMa:PdM w0 R a)(hMb:PdM w0 R b)(p1 p2:Pd)(hIa:IsP fl a p1)(hIb:IsP fl b p2)(hFa:p1.Fit D.bs)(hFb:p2.Fit D.bs)(iha:TruS w0 D fl tick p1)(ihb:TruS w0 D fl tick p2):
  FSpecP Tryz.prog w0 95 #[.pointer (some ⟨D.p,0,none⟩), .agg #[.int .i64 7, .string nm, .int .i64 vv, .int .i64 tt, .slice q [a,b].length c], .int .i64 tick] (SM D v ns++R) (OpK D (truF D.most.toNat D.bs tick (.and p1 p2) ns) R) (.iface 148 (.agg #[])) (OpB D (truF D.most.toNat D.bs tick (.and p1 p2) ns) ns R):=by
 refine Bv Tryz.func95 U ntmps95 U (rD tb 2 U (e_ (Kw U cs_) ?_ U));rintro _ _ ⟨n4,rfl,rfl⟩;refine rO tb 4 U (Bl 13 [(0,true),(1,true),(2,true),(3,true),(4,true),(5,true),(6,true),(7,true),(8,true),(9,true),(10,false),(11,false),(12,true)] _ mixd qkr sb0 ?_ B4);refine rP tb 3 U ?_;refine o_y U (Kr U isAgg22 (by exact G0 hE.nf (by repeat (first|exact Dl|exact sb0|refine List.Sublist.cons _ ?_)))) ?_ U Ae;refine rP tb 1 U (o_y U (Kr U isAgg9 (by first|exact c_o)) ?_ U Ae);refine o_y U (Ak (qe2 U U) call46 (fun H' hs=>Ee fl D.qf D.cf (hE.flds.mono (List.Sublist.trans (by exact sbt) hs)) hE.few nm)) ?_ U Ae;refine rP tb 3 U (o_e U (Al zeroValue67 cs_) ?_ U Ae);rintro _ _ ⟨n7,rfl,rfl⟩;refine⟨sbt,?_⟩
 first|refine o_e U (Kv U U sizeOf67) ?_ U Ae
 rintro _ _ ⟨rfl,rfl⟩;refine⟨sbt,(rP tb 1 U (A7 U (rO tb 6 U (y_ (Kr U isAgg3 (by first|exact c_o)) ?_ U))))⟩;refine rO tb 9 U ?_
 first|refine Ac (Aa U) (fun c24=> ?_) (fun c24=> ?_)|refine Ag (Aa U) (fun c24=> ?_) (fun c24=> ?_)
 ·exfalso;omega
 ·refine rC tb 6 U ?_
  first|refine Ac (Aa U) (fun c26=> ?_) (fun c26=> ?_)|refine Ag (Aa U) (fun c26=> ?_) (fun c26=> ?_)
  ·exfalso;omega
  ·refine rC tb 6 U ?_
   first|refine Ac (Aa U) (fun c34=> ?_) (fun c34=> ?_)|refine Ag (Aa U) (fun c34=> ?_) (fun c34=> ?_)
   ·exfalso;omega
   ·refine rC tb 6 U ?_
    first|refine Ac (Aa U) (fun c44=> ?_) (fun c44=> ?_)|refine Ag (Aa U) (fun c44=> ?_) (fun c44=> ?_)
    ·exfalso;omega
    ·refine rC tb 6 U ?_
     first|refine Ac (Aa U) (fun c65=> ?_) (fun c65=> ?_)|refine Ag (Aa U) (fun c65=> ?_) (fun c65=> ?_)
     ·exfalso;omega
     ·refine rC tb 6 U ?_
      first|refine Ac (Aa U) (fun c76=> ?_) (fun c76=> ?_)|refine Ag (Aa U) (fun c76=> ?_) (fun c76=> ?_)
      ·refine rC tb 1 U (Bl 15 [(0,true),(1,true),(2,true),(3,true),(4,true),(5,true),(6,true),(8,true),(9,true),(10,true),(11,true),(12,true),(13,true),(7,false),(14,false)] ((n7,Cl (encF (fndFd fl nm).1) 67)::(n4,Cl [.int .i64 7, .string nm, .int .i64 vv, .int .i64 tt, .slice q [a,b].length c] 25)::R) mixd qkr (by exact sbt) ?_ B4);refine rP tb 3 U (o_y U (Kr U isAgg23 (by first|exact c_o)) ?_ U Ae);refine o_y U (Ch (T U) Aj runUnderlying23 sizeOf25 (by simp) (by first|exact rfl|exact(hA 0 a U).1)) ?_ U Ae;refine o_y U (Ks U isAgg25 sizeOf25 U (by first|exact(hA.mono (by exact sbt)).cs (i:=0) (by simp)|exact Av)) ?_ U Ae;refine rP tb 3 U (o_y U (Kr U isAgg23 (by first|exact c_o)) ?_ U Ae);refine o_y U (Ch (T U) Aj runUnderlying23 sizeOf25 (by simp) (by first|exact rfl|exact(hA 0 a U).1)) ?_ U Ae;refine o_y U (Ks U isAgg25 sizeOf25 U (by first|exact(hA.mono (by exact sbt)).cs (i:=1) (by simp)|exact Av)) ?_ U Ae;refine rP tb 1 U ?_;refine o_p rfl (A5 (.cons (T rfl) (.cons (T rfl) (.cons (T rfl) .nil))) call95 (Bc (M:=SM D v ns) (iha (R:=((n7,Cl (encF (fndFd fl nm).1) 67)::(n4,Cl [.int .i64 7, .string nm, .int .i64 vv, .int .i64 tt, .slice q [a,b].length c] 25)::R)) (hE.mono (by exact sbt)) hIa hFa (hMa.mono (by exact sbt)) hst) (by repeat (first|exact Bw|exact LocL.h|apply LocL.t|apply LocL.a)))) ?_ (by rintro _ ⟨⟨v1,ns1⟩,⟨e1,g1,hst1⟩,rfl⟩;(repeat (first|refine Ca ?_|refine Bu ?_));exact Bo ⟨(v1,ns1),⟨by rw[truF,e1],g1,hst1⟩,rfl⟩ (by exact sbt)) rfl Ae;rintro _ _ ⟨⟨r1,v1,ns1⟩,⟨rfl,e1,hst1⟩,rfl⟩
       dsimp only at e1 hst1
       obtain⟨g1,l1,_⟩:=Dz hE.ok tick _ hFa hst.w e1;refine⟨sbt,?_⟩;refine o_p rfl (A5 (.cons (T rfl) (.cons (T rfl) (.cons (T rfl) .nil))) call95 (Bc (M:=SM D v1 ns1) (ihb (R:=((n7,Cl (encF (fndFd fl nm).1) 67)::(n4,Cl [.int .i64 7, .string nm, .int .i64 vv, .int .i64 tt, .slice q [a,b].length c] 25)::R)) (hE.mono (by exact sbt)) hIb hFb (hMb.mono (by exact sbt)) hst1) (by repeat (first|exact Bw|exact LocL.h|apply LocL.t|apply LocL.a)))) ?_ (by rintro _ ⟨⟨v2,ns2⟩,⟨e2,g2,hst2⟩,rfl⟩;(repeat (first|refine Ca ?_|refine Bu ?_));exact Bo ⟨(v2,ns2),⟨by rw[truF,e1];simp only[e2],g1.trans g2,hst2⟩,rfl⟩ (by exact sbt)) rfl Ae;rintro _ _ ⟨⟨r2,v2,ns2⟩,⟨rfl,e2,hst2⟩,rfl⟩
       dsimp only at e2 hst2
       obtain⟨g2,l2,_⟩:=Dz hE.ok tick _ hFb hst1.w e2;refine⟨sbt,(A7 U ?_)⟩;refine p_ (A5 (.cons (T rfl) (.cons (T rfl) (.cons (T rfl) .nil))) call115 (Bc (M:=SM D v2 ns2) (and_s hst2 _ r1 r2 (Nat.lt_of_lt_of_le l1 g2.le) l2) (by repeat (first|exact Bw|exact LocL.h|apply LocL.t|apply LocL.a)))) ?_ (by rintro _ ⟨⟨v3,ns3⟩,⟨e3,g3,hst3⟩,rfl⟩;(repeat refine Ca ?_);exact Bo ⟨(v3,ns3),⟨by rw[truF,e1];simp only[e2];exact e3,(g1.trans g2).trans g3,hst3⟩,rfl⟩ (by exact sbt)) rfl;rintro _ _ ⟨⟨r3,v3,ns3⟩,⟨rfl,e3,hst3⟩,rfl⟩
       dsimp only at e3 hst3
       refine kO tb 3 [6] rfl U (rG tb 3 U (By U (Kq U) ?_));exact⟨_,⟨(r3,v3,ns3),⟨rfl,by rw[truF,e1];simp only[e2];exact e3,hst3⟩,rfl⟩,by exact sbt⟩
      ·exfalso;omega
theorem truOr_s {w0:World}{D:Sd}{v:Sv}{ns:Ns}{R:List (Nat × Obj)}{fl:List Fd}(hE:En w0 R D fl)(hst:StOk D v ns)(nm:ByteArray)(q:Option Addr)(c:Nat)(tick:Int)(vv tt:Int)(a b:Pdm)(hA:Arr w0 R q 5 encPd [a,b])(hMa:PdM w0 R a)(hMb:PdM w0 R b)(p1 p2:Pd)(hIa:IsP fl a p1)(hIb:IsP fl b p2)(hFa:p1.Fit D.bs)(hFb:p2.Fit D.bs)(iha:TruS w0 D fl tick p1)(ihb:TruS w0 D fl tick p2):
  FSpecP Tryz.prog w0 95 #[.pointer (some ⟨D.p,0,none⟩), .agg #[.int .i64 8, .string nm, .int .i64 vv, .int .i64 tt, .slice q [a,b].length c], .int .i64 tick] (SM D v ns++R) (OpK D (truF D.most.toNat D.bs tick (.or p1 p2) ns) R) (.iface 148 (.agg #[])) (OpB D (truF D.most.toNat D.bs tick (.or p1 p2) ns) ns R):=by
 refine Bv Tryz.func95 U ntmps95 U (rD tb 2 U (e_ (Kw U cs_) ?_ U));rintro _ _ ⟨n4,rfl,rfl⟩;refine rO tb 4 U (Bl 13 [(0,true),(1,true),(2,true),(3,true),(4,true),(5,true),(6,true),(7,true),(8,true),(9,true),(10,false),(11,false),(12,true)] _ mixd qkr sb0 ?_ B4);refine rP tb 3 U ?_;refine o_y U (Kr U isAgg22 (by exact G0 hE.nf (by repeat (first|exact Dl|exact sb0|refine List.Sublist.cons _ ?_)))) ?_ U Ae;refine rP tb 1 U (o_y U (Kr U isAgg9 (by first|exact c_o)) ?_ U Ae);refine o_y U (Ak (qe2 U U) call46 (fun H' hs=>Ee fl D.qf D.cf (hE.flds.mono (List.Sublist.trans (by exact sbt) hs)) hE.few nm)) ?_ U Ae;refine rP tb 3 U (o_e U (Al zeroValue67 cs_) ?_ U Ae);rintro _ _ ⟨n7,rfl,rfl⟩;refine⟨sbt,?_⟩
 first|refine o_e U (Kv U U sizeOf67) ?_ U Ae
 rintro _ _ ⟨rfl,rfl⟩;refine⟨sbt,(rP tb 1 U (A7 U (rO tb 6 U (y_ (Kr U isAgg3 (by first|exact c_o)) ?_ U))))⟩;refine rO tb 9 U ?_
 first|refine Ac (Aa U) (fun c24=> ?_) (fun c24=> ?_)|refine Ag (Aa U) (fun c24=> ?_) (fun c24=> ?_)
 ·exfalso;omega
 ·refine rC tb 6 U ?_
  first|refine Ac (Aa U) (fun c26=> ?_) (fun c26=> ?_)|refine Ag (Aa U) (fun c26=> ?_) (fun c26=> ?_)
  ·exfalso;omega
  ·refine rC tb 6 U ?_
   first|refine Ac (Aa U) (fun c34=> ?_) (fun c34=> ?_)|refine Ag (Aa U) (fun c34=> ?_) (fun c34=> ?_)
   ·exfalso;omega
   ·refine rC tb 6 U ?_
    first|refine Ac (Aa U) (fun c44=> ?_) (fun c44=> ?_)|refine Ag (Aa U) (fun c44=> ?_) (fun c44=> ?_)
    ·exfalso;omega
    ·refine rC tb 6 U ?_
     first|refine Ac (Aa U) (fun c65=> ?_) (fun c65=> ?_)|refine Ag (Aa U) (fun c65=> ?_) (fun c65=> ?_)
     ·exfalso;omega
     ·refine rC tb 6 U ?_
      first|refine Ac (Aa U) (fun c76=> ?_) (fun c76=> ?_)|refine Ag (Aa U) (fun c76=> ?_) (fun c76=> ?_)
      ·exfalso;omega
      ·refine kC tb 6 [0,2,4,23,94] rfl U ?_
       first|refine Ac (Aa U) (fun c94=> ?_) (fun c94=> ?_)|refine Ag (Aa U) (fun c94=> ?_) (fun c94=> ?_)
       ·refine rC tb 1 U (Bl 15 [(0,true),(1,true),(2,true),(3,true),(4,true),(5,true),(6,true),(8,true),(9,true),(10,true),(11,true),(12,true),(13,true),(7,false),(14,false)] ((n7,Cl (encF (fndFd fl nm).1) 67)::(n4,Cl [.int .i64 8, .string nm, .int .i64 vv, .int .i64 tt, .slice q [a,b].length c] 25)::R) mixd qkr (by exact sbt) ?_ B4);refine rP tb 3 U (o_y U (Kr U isAgg23 (by first|exact c_o)) ?_ U Ae);refine o_y U (Ch (T U) Aj runUnderlying23 sizeOf25 (by simp) (by first|exact rfl|exact(hA 0 a U).1)) ?_ U Ae;refine o_y U (Ks U isAgg25 sizeOf25 U (by first|exact(hA.mono (by exact sbt)).cs (i:=0) (by simp)|exact Av)) ?_ U Ae;refine rP tb 3 U (o_y U (Kr U isAgg23 (by first|exact c_o)) ?_ U Ae);refine o_y U (Ch (T U) Aj runUnderlying23 sizeOf25 (by simp) (by first|exact rfl|exact(hA 0 a U).1)) ?_ U Ae;refine o_y U (Ks U isAgg25 sizeOf25 U (by first|exact(hA.mono (by exact sbt)).cs (i:=1) (by simp)|exact Av)) ?_ U Ae;refine rP tb 1 U ?_;refine o_p rfl (A5 (.cons (T rfl) (.cons (T rfl) (.cons (T rfl) .nil))) call95 (Bc (M:=SM D v ns) (iha (R:=((n7,Cl (encF (fndFd fl nm).1) 67)::(n4,Cl [.int .i64 8, .string nm, .int .i64 vv, .int .i64 tt, .slice q [a,b].length c] 25)::R)) (hE.mono (by exact sbt)) hIa hFa (hMa.mono (by exact sbt)) hst) (by repeat (first|exact Bw|exact LocL.h|apply LocL.t|apply LocL.a)))) ?_ (by rintro _ ⟨⟨v1,ns1⟩,⟨e1,g1,hst1⟩,rfl⟩;(repeat (first|refine Ca ?_|refine Bu ?_));exact Bo ⟨(v1,ns1),⟨by rw[truF,e1],g1,hst1⟩,rfl⟩ (by exact sbt)) rfl Ae;rintro _ _ ⟨⟨r1,v1,ns1⟩,⟨rfl,e1,hst1⟩,rfl⟩
        dsimp only at e1 hst1
        obtain⟨g1,l1,_⟩:=Dz hE.ok tick _ hFa hst.w e1;refine⟨sbt,?_⟩;refine o_p rfl (A5 (.cons (T rfl) (.cons (T rfl) (.cons (T rfl) .nil))) call95 (Bc (M:=SM D v1 ns1) (ihb (R:=((n7,Cl (encF (fndFd fl nm).1) 67)::(n4,Cl [.int .i64 8, .string nm, .int .i64 vv, .int .i64 tt, .slice q [a,b].length c] 25)::R)) (hE.mono (by exact sbt)) hIb hFb (hMb.mono (by exact sbt)) hst1) (by repeat (first|exact Bw|exact LocL.h|apply LocL.t|apply LocL.a)))) ?_ (by rintro _ ⟨⟨v2,ns2⟩,⟨e2,g2,hst2⟩,rfl⟩;(repeat (first|refine Ca ?_|refine Bu ?_));exact Bo ⟨(v2,ns2),⟨by rw[truF,e1];simp only[e2],g1.trans g2,hst2⟩,rfl⟩ (by exact sbt)) rfl Ae;rintro _ _ ⟨⟨r2,v2,ns2⟩,⟨rfl,e2,hst2⟩,rfl⟩
        dsimp only at e2 hst2
        obtain⟨g2,l2,_⟩:=Dz hE.ok tick _ hFb hst1.w e2;refine⟨sbt,(A7 U ?_)⟩;refine p_ (A5 (.cons (T rfl) (.cons (T rfl) (.cons (T rfl) .nil))) call71 (Bc (M:=SM D v2 ns2) (Kl hst2 _ r1 r2 (Nat.lt_of_lt_of_le l1 g2.le) l2) (by repeat (first|exact Bw|exact LocL.h|apply LocL.t|apply LocL.a)))) ?_ (by rintro _ ⟨⟨v3,ns3⟩,⟨e3,g3,hst3⟩,rfl⟩;(repeat refine Ca ?_);exact Bo ⟨(v3,ns3),⟨by rw[truF,e1];simp only[e2];exact e3,(g1.trans g2).trans g3,hst3⟩,rfl⟩ (by exact sbt)) rfl;rintro _ _ ⟨⟨r3,v3,ns3⟩,⟨rfl,e3,hst3⟩,rfl⟩
        dsimp only at e3 hst3
        refine rO tb 6 U (By U (Kq U) ?_);exact⟨_,⟨(r3,v3,ns3),⟨rfl,by rw[truF,e1];simp only[e2];exact e3,hst3⟩,rfl⟩,by exact sbt⟩
       ·exfalso;omega
theorem truRng_s {w0:World}{D:Sd}{v:Sv}{ns:Ns}{R:List (Nat × Obj)}{fl:List Fd}(hE:En w0 R D fl)(hst:StOk D v ns)(nm:ByteArray)(q:Option Addr)(c:Nat)(tick:Int)(n k:Nat)(xl:Nat)(hf:FdOk (fndFd fl nm).1)(hnk:n≤k)(hk:k<2 ^ (fndFd fl nm).1.w):
  FSpecP Tryz.prog w0 95 #[.pointer (some ⟨D.p,0,none⟩), .agg #[.int .i64 5, .string nm, .int .i64 (n:Nat), .int .i64 (k:Nat), .slice q xl c], .int .i64 tick] (SM D v ns++R) (OpK D (rnF D.most.toNat D.bs (fndFd fl nm).1 (rgF (fndFd fl nm).1.w k (k+1) n) ns 0) R) (.iface 148 (.agg #[])) (OpB D (rnF D.most.toNat D.bs (fndFd fl nm).1 (rgF (fndFd fl nm).1.w k (k+1) n) ns 0) ns R):=by
 refine Bv Tryz.func95 U ntmps95 U ?_;have hll:=rgF_len (fndFd fl nm).1.w k (k+1) n;have h16:=Co hf.w16;refine rD tb 2 U (e_ (Kw U cs_) ?_ U);rintro _ _ ⟨n4,rfl,rfl⟩;refine rO tb 4 U (Bl 13 [(0,true),(1,true),(2,true),(3,true),(4,true),(5,true),(6,true),(7,true),(8,true),(9,true),(10,false),(11,false),(12,true)] _ mixd qkr sb0 ?_ B4);refine rP tb 3 U ?_;refine o_y U (Kr U isAgg22 (by exact G0 hE.nf (by repeat (first|exact Dl|exact sb0|refine List.Sublist.cons _ ?_)))) ?_ U Ae;refine rP tb 1 U (o_y U (Kr U isAgg9 (by first|exact c_o)) ?_ U Ae);refine o_y U (Ak (qe2 U U) call46 (fun H' hs=>Ee fl D.qf D.cf (hE.flds.mono (List.Sublist.trans (by exact sbt) hs)) hE.few nm)) ?_ U Ae;refine rP tb 3 U (o_e U (Al zeroValue67 cs_) ?_ U Ae);rintro _ _ ⟨n7,rfl,rfl⟩;refine⟨sbt,?_⟩
 first|refine o_e U (Kv U U sizeOf67) ?_ U Ae
 rintro _ _ ⟨rfl,rfl⟩;refine⟨sbt,(rP tb 1 U (A7 U (rO tb 6 U (y_ (Kr U isAgg3 (by first|exact c_o)) ?_ U))))⟩;refine rO tb 9 U ?_
 first|refine Ac (Aa U) (fun c24=> ?_) (fun c24=> ?_)|refine Ag (Aa U) (fun c24=> ?_) (fun c24=> ?_)
 ·exfalso;omega
 ·refine rC tb 6 U ?_
  first|refine Ac (Aa U) (fun c26=> ?_) (fun c26=> ?_)|refine Ag (Aa U) (fun c26=> ?_) (fun c26=> ?_)
  ·exfalso;omega
  ·refine rC tb 6 U ?_
   first|refine Ac (Aa U) (fun c34=> ?_) (fun c34=> ?_)|refine Ag (Aa U) (fun c34=> ?_) (fun c34=> ?_)
   ·exfalso;omega
   ·refine rC tb 6 U ?_
    first|refine Ac (Aa U) (fun c44=> ?_) (fun c44=> ?_)|refine Ag (Aa U) (fun c44=> ?_) (fun c44=> ?_)
    ·refine rC tb 8 U (y_ (Ks U isAgg67 sizeOf67 U (by first|exact Av)) ?_ U);refine rO tb 1 U (y_ (Kr U isAgg3 (by first|exact c_o)) ?_ U);refine rO tb 1 U (y_ (Kr U isAgg3 (by first|exact c_o)) ?_ U);refine e_ (Ar (qe3 U U U) call136 (range_s _ hf n k hnk hk)) ?_ U;rintro _ _ ⟨d,⟨rfl,hok⟩,rfl⟩;refine kO tb 4 [0,9,51,52,53] rfl U (rG tb 1 U ?_);refine A9 (X:=Nat × Nat × Sv × Ns) (V:=fun ⟨i,id,vi,nsi⟩=>[(53, .int .i64 (i:Nat)),(9, .int .i64 (id:Nat))]) (C:=[(0,_),(51,_),(52,_)]) (G:=fun ⟨i,id,vi,nsi⟩=>slH d ((rgF (fndFd fl nm).1.w k (k+1) n).flatMap (encRg (fndFd fl nm).1)) 78++((n7,Cl (encF (fndFd fl nm).1) 67)::(n4,Cl [.int .i64 5, .string nm, .int .i64 (n:Nat), .int .i64 (k:Nat), .slice q xl c] 25)::(SM D vi nsi++R))) (φ:=fun ⟨i,id,vi,nsi⟩=>i≤(rgF (fndFd fl nm).1.w k (k+1) n).length∧StOk D vi nsi∧Gr (2*D.bs.length) ns nsi∧id<nsi.length∧(rnF D.most.toNat D.bs (fndFd fl nm).1 (rgF (fndFd fl nm).1.w k (k+1) n) ns 0)=rnF D.most.toNat D.bs (fndFd fl nm).1 ((rgF (fndFd fl nm).1.w k (k+1) n).drop i) nsi id) (μ:=fun ⟨i,id,vi,nsi⟩=>(rgF (fndFd fl nm).1.w k (k+1) n).length - i) (x0:=(0,0,v,ns)) ?_ ⟨Aa rfl,Aa rfl,Aa rfl,trivial⟩ ⟨atd,atd,trivial⟩ sb0 ?_
     ·exact⟨Nat.zero_le _,hst, .refl hst.w,by have:=hst.w.two;omega,rfl⟩
     rintro⟨i,id,vi,nsi⟩ ⟨hi0,hsti,gi,hid,hF⟩;refine rD tb 6 U ?_
     first|refine Ac (Aa U) (fun c54=> ?_) (fun c54=> ?_)|refine Ag (Aa U) (fun c54=> ?_) (fun c54=> ?_)
     ·have hi:i<(rgF (fndFd fl nm).1.w k (k+1) n).length:=by omega
      refine rC tb 6 U (y_ (Ku U U runUnderlying184 sizeOf78 qom (by first|exact rfl|exact hok.bas qom)) ?_ U);refine y_ (Ks U isAgg78 sizeOf78 (Bf (Bn _ _ _).1 (Bn _ _ _).2) (by first|exact((Ck (w0:=w0) (e:=78) (X:=[]) (enc:=encRg (fndFd fl nm).1) (l:=(rgF (fndFd fl nm).1.w k (k+1) n)) (fun _=>Bf (Cf _) (Cf _)) hok).mono (by rw[List.append_nil];exact List.sublist_append_left _ _)).cs (i:=i) hi|exact Av)) ?_ U;refine e_ (Al zeroValue78 cs_) ?_ U;rintro _ _ ⟨n11,rfl,rfl⟩;refine e_ (Kv U U sizeOf78 .agg (Ci _ _) (Bf (Bn _ _ _).1 (Bn _ _ _).2) (by repeat (first|exact Upd.h|apply Upd.t|apply Cb)) (by rw[Bf (Bn _ _ _).1 (Bn _ _ _).2];rfl)) ?_ U;rintro _ _ ⟨rfl,rfl⟩;refine rO tb 6 U ?_;refine y_ (Ks U isAgg78 sizeOf78 (Bf (Bn _ _ _).1 (Bn _ _ _).2) (by first|exact Ah fdd|exact Av)) ?_ U;refine p_ (A5 (.cons (T rfl) (.cons (T rfl) .nil)) call133 (Bc (M:=SM D vi nsi) (set_s (R:=((n11,Cl (encRg (fndFd fl nm).1 (gd (rgF (fndFd fl nm).1.w k (k+1) n) i)) 78)::(slH d ((rgF (fndFd fl nm).1.w k (k+1) n).flatMap (encRg (fndFd fl nm).1)) 78++((n7,Cl (encF (fndFd fl nm).1) 67)::(n4,Cl [.int .i64 5, .string nm, .int .i64 (n:Nat), .int .i64 (k:Nat), .slice q xl c] 25)::R)))) (hE.bits.mono (by exact sbt)) hE.ok hsti (preM (fndFd fl nm).1 (gd (rgF (fndFd fl nm).1.w k (k+1) n) i).1 (gd (rgF (fndFd fl nm).1.w k (k+1) n) i).2) (Bn _ _ _).1 (Bn _ _ _).2) (by repeat (first|exact Bw|exact LocL.h|apply LocL.t|apply LocL.a)))) ?_ (by rintro _ ⟨⟨v1,ns1⟩,⟨e1,g1,hst1⟩,rfl⟩;(repeat (first|refine Ca ?_|refine Bu ?_));exact Bo ⟨(v1,ns1),⟨by rw[E9 hE.ok] at e1;rw[hF,rn_drop hi,e1],gi.trans g1,hst1⟩,rfl⟩ (by exact sbt)) rfl;rintro _ _ ⟨⟨r1,v1,ns1⟩,⟨rfl,e1,hst1⟩,rfl⟩
      dsimp only at e1 hst1
      obtain⟨g1,i1⟩:=set_ok hsti.w e1;rw[E9 hE.ok] at e1;refine p_ (A5 (.cons (T rfl) (.cons (T rfl) (.cons (T rfl) .nil))) call71 (Bc (M:=SM D v1 ns1) (Kl hst1 _ id r1 (Nat.lt_of_lt_of_le hid g1.le) i1.lt) (by repeat (first|exact Bw|exact LocL.h|apply LocL.t|apply LocL.a)))) ?_ (by rintro _ ⟨⟨v2,ns2⟩,⟨e2,g2,hst2⟩,rfl⟩;(repeat (first|refine Ca ?_|refine Bu ?_));exact Bo ⟨(v2,ns2),⟨by rw[hF,rn_drop hi,e1];simp only[e2],(gi.trans g1).trans g2,hst2⟩,rfl⟩ (by exact sbt)) rfl;rintro _ _ ⟨⟨r2,v2,ns2⟩,⟨rfl,e2,hst2⟩,rfl⟩
      dsimp only at e2 hst2
      obtain⟨g2,i2⟩:=E0 Em g1.w (Nat.lt_of_lt_of_le hid g1.le) i1.lt e2;refine rO tb 5 U (y_ (B8 (c:=1) (T U) Aj qom) ?_ U);refine rO tb 2 U ?_;refine A0 ((i+1,r2,v2,ns2)) ?_ ?_ ⟨atd,atd,trivial⟩ ⟨Aa U,Aa U,Aa U,trivial⟩ ?_
      ·exact⟨by omega,hst2,(gi.trans g1).trans g2,i2.lt,by rw[hF,rn_drop hi,e1];simp only[e2]⟩
      ·first|omega|(simp only[];omega)
      ·exact sbt
     ·obtain rfl:i=(rgF (fndFd fl nm).1.w k (k+1) n).length:=by omega
      refine rC tb 2 U (Ao (rX tb 11 U (By U (Kq U) ?_)));exact⟨_,⟨(id,vi,nsi),⟨rfl,by rw[hF,List.drop_length];rfl,hsti⟩,rfl⟩,by exact sbt⟩
    ·exfalso;omega
theorem tru_s {w0:World}{D:Sd}{fl:List Fd}{tick:Int}:∀ p,TruS w0 D fl tick p:=by
 intro p
 induction p with
 |tru=>
  intro R v ns m hE hI hF hM hst;obtain⟨k,s,va,t,q,c,xs⟩:=m;cases hI with
  |tru hk=>obtain rfl:k=1:=hk;exact truT_s hE hst s q c tick va t xs.length
 |fls=>
  intro R v ns m hE hI hF hM hst;obtain⟨k,s,va,t,q,c,xs⟩:=m;cases hI with
  |fls hk=>obtain rfl:k=2:=hk;exact truF_s hE hst s q c tick va t xs.length
 |eq f n=>
  intro R v ns m hE hI hF hM hst;obtain⟨k,s,va,t,q,c,xs⟩:=m;cases hI with
  |eq hk hv=>obtain rfl:k=3:=hk;obtain rfl:va=(n:Int):=hv;exact truEq_s hE hst s q c tick n t xs.length hF.1.ok hF.2
 |pre f n j=>
  intro R v ns m hE hI hF hM hst;obtain⟨k,s,va,t,q,c,xs⟩:=m;cases hI with
  |pre hk hv ht=>obtain rfl:k=4:=hk;obtain rfl:va=(n:Int):=hv;obtain rfl:t=(j:Int):=ht;exact truPre_s hE hst s q c tick n j xs.length hF.1.ok hF.2.1 hF.2.2
 |rng f n j=>
  intro R v ns m hE hI hF hM hst;obtain⟨k,s,va,t,q,c,xs⟩:=m;cases hI with
  |rng hk hv ht=>obtain rfl:k=5:=hk;obtain rfl:va=(n:Int):=hv;obtain rfl:t=(j:Int):=ht;exact truRng_s hE hst s q c tick n j xs.length hF.1.ok hF.2.1 hF.2.2
 |no a iha=>
  intro R v ns m hE hI hF hM hst;obtain⟨k,s,va,t,q,c,xs⟩:=m;cases hI with
  |no hk hs h1=>obtain rfl:k=6:=hk;obtain rfl:xs=[_]:=hs;exact truNo_s hE hst s q c tick va t _ hM.arr (hM.sub (by simp[Pdm.subs])) a h1 hF iha
 |and a b iha ihb=>
  intro R v ns m hE hI hF hM hst;obtain⟨k,s,va,t,q,c,xs⟩:=m;cases hI with
  |and hk hs h1 h2=>obtain rfl:k=7:=hk;obtain rfl:xs=[_,_]:=hs;exact truAnd_s hE hst s q c tick va t _ _ hM.arr (hM.sub (by simp[Pdm.subs])) (hM.sub (by simp[Pdm.subs])) a b h1 h2 hF.1 hF.2 iha ihb
 |or a b iha ihb=>
  intro R v ns m hE hI hF hM hst;obtain⟨k,s,va,t,q,c,xs⟩:=m;cases hI with
  |or hk hs h1 h2=>obtain rfl:k=8:=hk;obtain rfl:xs=[_,_]:=hs;exact truOr_s hE hst s q c tick va t _ _ hM.arr (hM.sub (by simp[Pdm.subs])) (hM.sub (by simp[Pdm.subs])) a b h1 h2 hF.1 hF.2 iha ihb
 |time n j=>
  intro R v ns m hE hI hF hM hst;obtain⟨k,s,va,t,q,c,xs⟩:=m;cases hI with
  |tim hk hv ht=>obtain rfl:k=9:=hk;obtain rfl:va=n:=hv;obtain rfl:t=j:=ht;exact truTime_s hE hst s q c tick va t xs.length
inductive Pom
 |mk (kind:Int) (pr:Pdm) (nm:ByteArray) (n:Int) (q:Option Addr) (cap:Nat) (subs:List Pom)
instance:Inhabited Pom:=⟨.mk 0 default ⟨#[]⟩ 0 none 0 []⟩
def Pom.kind:Pom→Int
 | .mk k _ _ _ _ _ _=>k
def Pom.pr:Pom→Pdm
 | .mk _ p _ _ _ _ _=>p
def Pom.nm:Pom→ByteArray
 | .mk _ _ s _ _ _ _=>s
def Pom.n:Pom→Int
 | .mk _ _ _ n _ _ _=>n
def Pom.q:Pom→Option Addr
 | .mk _ _ _ _ q _ _=>q
def Pom.cap:Pom→Nat
 | .mk _ _ _ _ _ c _=>c
def Pom.subs:Pom→List Pom
 | .mk _ _ _ _ _ _ xs=>xs
abbrev encPo (m:Pom):List Value:=[.int .i64 m.kind, .int .i64 m.pr.kind, .string m.pr.nm, .int .i64 m.pr.val, .int .i64 m.pr.to, .slice m.pr.q m.pr.subs.length m.pr.cap, .string m.nm, .int .i64 m.n, .slice m.q m.subs.length m.cap]
inductive PoM (w0:World) (H:List (Nat × Obj)):Pom→Prop
 |mk {k:Int} {p:Pdm} {s:ByteArray} {n:Int} {q:Option Addr} {c:Nat} {xs:List Pom}:PdM w0 H p→Arr w0 H q 9 encPo xs→(∀ a,a∈xs→PoM w0 H a)→PoM w0 H (.mk k p s n q c xs)
theorem PoM.mono {w0:World}{H H':List (Nat × Obj)}{m:Pom}(h:PoM w0 H m)(hs:H.Sublist H'):PoM w0 H' m:=by
 induction h with
 |mk h0 h1 _ ih=>exact .mk (h0.mono hs) (h1.mono hs) ih
theorem PoM.pred {w0:World}{H:List (Nat × Obj)}{m:Pom}(h:PoM w0 H m):PdM w0 H m.pr:=by cases h;assumption
theorem PoM.arr {w0:World}{H:List (Nat × Obj)}{m:Pom}(h:PoM w0 H m):Arr w0 H m.q 9 encPo m.subs:=by cases h;assumption
theorem PoM.sub {w0:World}{H:List (Nat × Obj)}{m a:Pom}(h:PoM w0 H m)(ha:a∈m.subs):PoM w0 H a:=by cases h;rename_i h1 h2 h3;exact h3 _ ha
inductive IsO (fl:List Fd):Pom→Po→Prop
 |fil {m:Pom} {p:Pd}:m.kind=1→IsP fl m.pr p→IsO fl m (.fil p)
 |set {m:Pom} {n:Nat}:m.kind=2→m.n=(n:Int)→IsO fl m (.set (fndFd fl m.nm).1 n)
 |uni {m a b:Pom} {p q:Po}:m.kind=3→m.subs=[a,b]→IsO fl a p→IsO fl b q→IsO fl m (.uni p q)
 |seq {m a b:Pom} {p q:Po}:m.kind=4→m.subs=[a,b]→IsO fl a p→IsO fl b q→IsO fl m (.seq p q)
 |star {m a:Pom} {p:Po}:m.kind=5→m.subs=[a]→IsO fl a p→IsO fl m (.star p)
def PolS (w0:World) (D:Sd) (fl:List Fd) (tick:Int) (p:Po):Prop:=∀ {R:List (Nat × Obj)} {v:Sv} {ns:Ns} {m:Pom},En w0 R D fl→IsO fl m p→p.Fit D.bs→PoM w0 R m→StOk D v ns→
 FSpecP Tryz.prog w0 50 #[.pointer (some ⟨D.p,0,none⟩), .agg (encPo m).toArray, .int .i64 tick] (SM D v ns++R) (OpK D (polF D.most.toNat D.bs tick (rdN D.bs) p ns) R) (.iface 148 (.agg #[])) (OpB D (polF D.most.toNat D.bs tick (rdN D.bs) p ns) ns R)
theorem po_pr {w0:World}{H:List (Nat × Obj)}{n:Nat}{t:TypeId}(a:Value)(pm:Pdm)(r:List Value)(h:Fnd H n (Cl (a::(encPd pm++r)) t)):Cells w0 H n (0+1) (encPd pm):=fun i v hi=>by
 have:=Ah (w0:=w0) h (1+i) v (by rw[show 1+i=i+1 by omega,List.getElem?_cons_succ,List.getElem?_append_left (List.getElem?_eq_some_iff.1 hi).1];exact hi)
 rwa [← Nat.add_assoc] at this
theorem polFil_s {w0:World}{D:Sd}{v:Sv}{ns:Ns}{R:List (Nat × Obj)}{fl:List Fd}(hE:En w0 R D fl)(hst:StOk D v ns)(pm:Pdm)(nm:ByteArray)(q:Option Addr)(c:Nat)(tick:Int)(vv:Int)(xl:Nat)(hM:PdM w0 R pm)(p:Pd)(hI:IsP fl pm p)(hF:p.Fit D.bs):
  FSpecP Tryz.prog w0 50 #[.pointer (some ⟨D.p,0,none⟩), .agg #[.int .i64 1, .int .i64 pm.kind, .string pm.nm, .int .i64 pm.val, .int .i64 pm.to, .slice pm.q pm.subs.length pm.cap, .string nm, .int .i64 vv, .slice q xl c], .int .i64 tick] (SM D v ns++R) (OpK D (polF D.most.toNat D.bs tick (rdN D.bs) (.fil p) ns) R) (.iface 148 (.agg #[])) (OpB D (polF D.most.toNat D.bs tick (rdN D.bs) (.fil p) ns) ns R):=by
 refine Bv Tryz.func50 U ntmps50 U (rD tb 2 U (e_ (Kw U cs_) ?_ U));rintro _ _ ⟨n4,rfl,rfl⟩;refine rO tb 7 U (y_ (Kr U isAgg3 (by first|exact c_o)) ?_ U);refine rO tb 9 U ?_
 first|refine Ac (Aa U) (fun c11=> ?_) (fun c11=> ?_)|refine Ag (Aa U) (fun c11=> ?_) (fun c11=> ?_)
 ·refine rC tb 5 U (y_ (Ks U isAgg25 sizeOf25 U (by first|exact po_pr (.int .i64 1) pm [.string nm, .int .i64 vv, .slice q xl c] As|exact Av)) ?_ U);refine rO tb 1 U ?_;refine p_ (A5 (.cons (T rfl) (.cons (T rfl) (.cons (T rfl) .nil))) call95 (Bc (M:=SM D v ns) (tru_s p (R:=((n4,Cl [.int .i64 1, .int .i64 pm.kind, .string pm.nm, .int .i64 pm.val, .int .i64 pm.to, .slice pm.q pm.subs.length pm.cap, .string nm, .int .i64 vv, .slice q xl c] 28)::R)) (hE.mono (by exact sbt)) hI hF (hM.mono (by exact sbt)) hst) (by repeat (first|exact Bw|exact LocL.h|apply LocL.t|apply LocL.a)))) ?_ (by rintro _ ⟨⟨v1,ns1⟩,⟨e1,g1,hst1⟩,rfl⟩;(repeat (first|refine Ca ?_|refine Bu ?_));exact Bo ⟨(v1,ns1),⟨by rw[polF,e1],g1,hst1⟩,rfl⟩ (by exact sbt)) rfl;rintro _ _ ⟨⟨r1,v1,ns1⟩,⟨rfl,e1,hst1⟩,rfl⟩
  dsimp only at e1 hst1
  obtain⟨g1,l1,_⟩:=Dz hE.ok tick _ hF hst.w e1;refine p_ (A5 (.cons (T rfl) (.cons (T rfl) .nil)) call77 (Bc (M:=SM D v1 ns1) (filter_s (R:=((n4,Cl [.int .i64 1, .int .i64 pm.kind, .string pm.nm, .int .i64 pm.val, .int .i64 pm.to, .slice pm.q pm.subs.length pm.cap, .string nm, .int .i64 vv, .slice q xl c] 28)::R)) (hE.bits.mono (by exact sbt)) hE.ok hst1 r1 l1) (by repeat (first|exact Bw|exact LocL.h|apply LocL.t|apply LocL.a)))) ?_ (by rintro _ ⟨⟨v2,ns2⟩,⟨e2,g2,hst2⟩,rfl⟩;(repeat (first|refine Ca ?_|refine Bu ?_));exact Bo ⟨(v2,ns2),⟨by rw[polF,e1];exact e2,g1.trans g2,hst2⟩,rfl⟩ (by exact sbt)) rfl;rintro _ _ ⟨⟨r2,v2,ns2⟩,⟨rfl,e2,hst2⟩,rfl⟩
  dsimp only at e2 hst2
  refine rO tb 6 U (By U (Kq U) ?_);exact⟨_,⟨(r2,v2,ns2),⟨rfl,by rw[polF,e1];exact e2,hst2⟩,rfl⟩,by exact sbt⟩
 ·exfalso;omega
theorem polSet_s {w0:World}{D:Sd}{v:Sv}{ns:Ns}{R:List (Nat × Obj)}{fl:List Fd}(hE:En w0 R D fl)(hst:StOk D v ns)(pm:Pdm)(nm:ByteArray)(q:Option Addr)(c:Nat)(tick:Int)(n:Nat)(xl:Nat)(hf:FdOk (fndFd fl nm).1)(hn:n<2 ^ (fndFd fl nm).1.w):
  FSpecP Tryz.prog w0 50 #[.pointer (some ⟨D.p,0,none⟩), .agg #[.int .i64 2, .int .i64 pm.kind, .string pm.nm, .int .i64 pm.val, .int .i64 pm.to, .slice pm.q pm.subs.length pm.cap, .string nm, .int .i64 (n:Nat), .slice q xl c], .int .i64 tick] (SM D v ns++R) (OpK D (polF D.most.toNat D.bs tick (rdN D.bs) (.set (fndFd fl nm).1 n) ns) R) (.iface 148 (.agg #[])) (OpB D (polF D.most.toNat D.bs tick (rdN D.bs) (.set (fndFd fl nm).1 n) ns) ns R):=by
 refine Bv Tryz.func50 U ntmps50 U (rD tb 2 U (e_ (Kw U cs_) ?_ U));rintro _ _ ⟨n4,rfl,rfl⟩;refine rO tb 7 U (y_ (Kr U isAgg3 (by first|exact c_o)) ?_ U);refine rO tb 9 U ?_
 first|refine Ac (Aa U) (fun c11=> ?_) (fun c11=> ?_)|refine Ag (Aa U) (fun c11=> ?_) (fun c11=> ?_)
 ·exfalso;omega
 ·refine rC tb 6 U ?_
  first|refine Ac (Aa U) (fun c20=> ?_) (fun c20=> ?_)|refine Ag (Aa U) (fun c20=> ?_) (fun c20=> ?_)
  ·refine rC tb 1 U (Bl 13 [(0,true),(1,true),(2,true),(3,true),(4,true),(5,true),(6,true),(7,true),(8,true),(9,true),(10,false),(11,false),(12,true)] _ mixd qkr sb0 ?_ B4);refine rP tb 3 U ?_;refine o_y U (Kr U isAgg22 (by exact G0 hE.nf (by repeat (first|exact Dl|exact sb0|refine List.Sublist.cons _ ?_)))) ?_ U Ae;refine rP tb 1 U (o_y U (Kr U isAgg9 (by first|exact c_o)) ?_ U Ae);refine o_y U (Ak (qe2 U U) call46 (fun H' hs=>Ee fl D.qf D.cf (hE.flds.mono (List.Sublist.trans (by exact sbt) hs)) hE.few nm)) ?_ U Ae;refine rP tb 3 U (o_e U (Al zeroValue67 cs_) ?_ U Ae);rintro _ _ ⟨n7,rfl,rfl⟩;refine⟨sbt,?_⟩
   first|refine o_e U (Kv U U sizeOf67) ?_ U Ae
   rintro _ _ ⟨rfl,rfl⟩;refine⟨sbt,(rP tb 1 U (A7 U (rO tb 5 U (y_ (Ks U isAgg67 sizeOf67 U (by first|exact Av)) ?_ U))))⟩;refine rO tb 1 U (y_ (Kr U isAgg3 (by first|exact c_o)) ?_ U);refine y_ (Ak (qe2 U U) call97 (fun H' hs=>mod_s _ hf n hn)) ?_ U;refine p_ (A5 (.cons (T rfl) (.cons (T rfl) .nil)) call96 (Bc (M:=SM D v ns) (relation_s (R:=((n7,Cl (encF (fndFd fl nm).1) 67)::(n4,Cl [.int .i64 2, .int .i64 pm.kind, .string pm.nm, .int .i64 pm.val, .int .i64 pm.to, .slice pm.q pm.subs.length pm.cap, .string nm, .int .i64 (n:Nat), .slice q xl c] 28)::R)) (hE.bits.mono (by exact sbt)) hE.ok hst (preM (fndFd fl nm).1 n (fndFd fl nm).1.w) (Bn _ _ _).1 (Bn _ _ _).2) (by repeat (first|exact Bw|exact LocL.h|apply LocL.t|apply LocL.a)))) ?_ (by rintro _ ⟨⟨v1,ns1⟩,⟨e1,g1,hst1⟩,rfl⟩;(repeat (first|refine Ca ?_|refine Bu ?_));exact Bo ⟨(v1,ns1),⟨by rw[relF_pre hE.ok] at e1;exact e1,g1,hst1⟩,rfl⟩ (by exact sbt)) rfl;rintro _ _ ⟨⟨r1,v1,ns1⟩,⟨rfl,e1,hst1⟩,rfl⟩
   dsimp only at e1 hst1
   rw[relF_pre hE.ok] at e1;refine rO tb 6 U (By U (Kq U) ?_);exact⟨_,⟨(r1,v1,ns1),⟨rfl,e1,hst1⟩,rfl⟩,by exact sbt⟩
  ·exfalso;omega
theorem polUni_s {w0:World}{D:Sd}{v:Sv}{ns:Ns}{R:List (Nat × Obj)}{fl:List Fd}(hE:En w0 R D fl)(hst:StOk D v ns)(pm:Pdm)(nm:ByteArray)(q:Option Addr)(c:Nat)(tick:Int)(vv:Int)(a b:Pom)(hA:Arr w0 R q 9 encPo [a,b])(hMa:PoM w0 R a)(hMb:PoM w0 R b)(p1 p2:Po)(hIa:IsO fl a p1)(hIb:IsO fl b p2)(hFa:p1.Fit D.bs)(hFb:p2.Fit D.bs)(iha:PolS w0 D fl tick p1)(ihb:PolS w0 D fl tick p2):
  FSpecP Tryz.prog w0 50 #[.pointer (some ⟨D.p,0,none⟩), .agg #[.int .i64 3, .int .i64 pm.kind, .string pm.nm, .int .i64 pm.val, .int .i64 pm.to, .slice pm.q pm.subs.length pm.cap, .string nm, .int .i64 vv, .slice q [a,b].length c], .int .i64 tick] (SM D v ns++R) (OpK D (polF D.most.toNat D.bs tick (rdN D.bs) (.uni p1 p2) ns) R) (.iface 148 (.agg #[])) (OpB D (polF D.most.toNat D.bs tick (rdN D.bs) (.uni p1 p2) ns) ns R):=by
 refine Bv Tryz.func50 U ntmps50 U (rD tb 2 U (e_ (Kw U cs_) ?_ U));rintro _ _ ⟨n4,rfl,rfl⟩;refine rO tb 7 U (y_ (Kr U isAgg3 (by first|exact c_o)) ?_ U);refine rO tb 9 U ?_
 first|refine Ac (Aa U) (fun c11=> ?_) (fun c11=> ?_)|refine Ag (Aa U) (fun c11=> ?_) (fun c11=> ?_)
 ·exfalso;omega
 ·refine rC tb 6 U ?_
  first|refine Ac (Aa U) (fun c20=> ?_) (fun c20=> ?_)|refine Ag (Aa U) (fun c20=> ?_) (fun c20=> ?_)
  ·exfalso;omega
  ·refine rC tb 6 U ?_
   first|refine Ac (Aa U) (fun c38=> ?_) (fun c38=> ?_)|refine Ag (Aa U) (fun c38=> ?_) (fun c38=> ?_)
   ·refine rC tb 1 U (Bl 15 [(0,true),(1,true),(2,true),(3,true),(4,true),(5,true),(6,true),(8,true),(9,true),(10,true),(11,true),(12,true),(13,true),(7,false),(14,false)] ((n4,Cl [.int .i64 3, .int .i64 pm.kind, .string pm.nm, .int .i64 pm.val, .int .i64 pm.to, .slice pm.q pm.subs.length pm.cap, .string nm, .int .i64 vv, .slice q [a,b].length c] 28)::R) mixd qkr (by exact sbt) ?_ B4);refine rP tb 3 U (o_y U (Kr U isAgg26 (by first|exact c_o)) ?_ U Ae);refine o_y U (Ch (T U) Aj runUnderlying26 sizeOf28 (by simp) (by first|exact rfl|exact(hA 0 a U).1)) ?_ U Ae;refine o_y U (Ks U isAgg28 sizeOf28 U (by first|exact(hA.mono (by exact sbt)).cs (i:=0) (by simp)|exact Av)) ?_ U Ae;refine rP tb 3 U (o_y U (Kr U isAgg26 (by first|exact c_o)) ?_ U Ae);refine o_y U (Ch (T U) Aj runUnderlying26 sizeOf28 (by simp) (by first|exact rfl|exact(hA 0 a U).1)) ?_ U Ae;refine o_y U (Ks U isAgg28 sizeOf28 U (by first|exact(hA.mono (by exact sbt)).cs (i:=1) (by simp)|exact Av)) ?_ U Ae;refine rP tb 1 U ?_;refine o_p rfl (A5 (.cons (T rfl) (.cons (T rfl) (.cons (T rfl) .nil))) call50 (Bc (M:=SM D v ns) (iha (R:=((n4,Cl [.int .i64 3, .int .i64 pm.kind, .string pm.nm, .int .i64 pm.val, .int .i64 pm.to, .slice pm.q pm.subs.length pm.cap, .string nm, .int .i64 vv, .slice q [a,b].length c] 28)::R)) (hE.mono (by exact sbt)) hIa hFa (hMa.mono (by exact sbt)) hst) (by repeat (first|exact Bw|exact LocL.h|apply LocL.t|apply LocL.a)))) ?_ (by rintro _ ⟨⟨v1,ns1⟩,⟨e1,g1,hst1⟩,rfl⟩;(repeat (first|refine Ca ?_|refine Bu ?_));exact Bo ⟨(v1,ns1),⟨by rw[polF,e1],g1,hst1⟩,rfl⟩ (by exact sbt)) rfl Ae;rintro _ _ ⟨⟨r1,v1,ns1⟩,⟨rfl,e1,hst1⟩,rfl⟩
    dsimp only at e1 hst1
    obtain⟨g1,l1,_⟩:=Cq hE.ok tick _ _ hFa hst.w e1;refine⟨sbt,?_⟩;refine o_p rfl (A5 (.cons (T rfl) (.cons (T rfl) (.cons (T rfl) .nil))) call50 (Bc (M:=SM D v1 ns1) (ihb (R:=((n4,Cl [.int .i64 3, .int .i64 pm.kind, .string pm.nm, .int .i64 pm.val, .int .i64 pm.to, .slice pm.q pm.subs.length pm.cap, .string nm, .int .i64 vv, .slice q [a,b].length c] 28)::R)) (hE.mono (by exact sbt)) hIb hFb (hMb.mono (by exact sbt)) hst1) (by repeat (first|exact Bw|exact LocL.h|apply LocL.t|apply LocL.a)))) ?_ (by rintro _ ⟨⟨v2,ns2⟩,⟨e2,g2,hst2⟩,rfl⟩;(repeat (first|refine Ca ?_|refine Bu ?_));exact Bo ⟨(v2,ns2),⟨by rw[polF,e1];simp only[e2],g1.trans g2,hst2⟩,rfl⟩ (by exact sbt)) rfl Ae;rintro _ _ ⟨⟨r2,v2,ns2⟩,⟨rfl,e2,hst2⟩,rfl⟩
    dsimp only at e2 hst2
    obtain⟨g2,l2,_⟩:=Cq hE.ok tick _ _ hFb hst1.w e2;refine⟨sbt,(A7 U ?_)⟩;refine p_ (A5 (.cons (T rfl) (.cons (T rfl) (.cons (T rfl) .nil))) call71 (Bc (M:=SM D v2 ns2) (Kl hst2 _ r1 r2 (Nat.lt_of_lt_of_le l1 g2.le) l2) (by repeat (first|exact Bw|exact LocL.h|apply LocL.t|apply LocL.a)))) ?_ (by rintro _ ⟨⟨v3,ns3⟩,⟨e3,g3,hst3⟩,rfl⟩;(repeat (first|refine Ca ?_|refine Bu ?_));exact Bo ⟨(v3,ns3),⟨by rw[polF,e1];simp only[e2];exact e3,(g1.trans g2).trans g3,hst3⟩,rfl⟩ (by exact sbt)) rfl;rintro _ _ ⟨⟨r3,v3,ns3⟩,⟨rfl,e3,hst3⟩,rfl⟩
    dsimp only at e3 hst3
    refine rO tb 6 U (By U (Kq U) ?_);exact⟨_,⟨(r3,v3,ns3),⟨rfl,by rw[polF,e1];simp only[e2];exact e3,hst3⟩,rfl⟩,by exact sbt⟩
   ·exfalso;omega
theorem polSeq_s {w0:World}{D:Sd}{v:Sv}{ns:Ns}{R:List (Nat × Obj)}{fl:List Fd}(hE:En w0 R D fl)(hst:StOk D v ns)(pm:Pdm)(nm:ByteArray)(q:Option Addr)(c:Nat)(tick:Int)(vv:Int)(a b:Pom)(hA:Arr w0 R q 9 encPo [a,b])(hMa:PoM w0 R a)(hMb:PoM w0 R b)(p1 p2:Po)(hIa:IsO fl a p1)(hIb:IsO fl b p2)(hFa:p1.Fit D.bs)(hFb:p2.Fit D.bs)(iha:PolS w0 D fl tick p1)(ihb:PolS w0 D fl tick p2):
  FSpecP Tryz.prog w0 50 #[.pointer (some ⟨D.p,0,none⟩), .agg #[.int .i64 4, .int .i64 pm.kind, .string pm.nm, .int .i64 pm.val, .int .i64 pm.to, .slice pm.q pm.subs.length pm.cap, .string nm, .int .i64 vv, .slice q [a,b].length c], .int .i64 tick] (SM D v ns++R) (OpK D (polF D.most.toNat D.bs tick (rdN D.bs) (.seq p1 p2) ns) R) (.iface 148 (.agg #[])) (OpB D (polF D.most.toNat D.bs tick (rdN D.bs) (.seq p1 p2) ns) ns R):=by
 refine Bv Tryz.func50 U ntmps50 U (rD tb 2 U (e_ (Kw U cs_) ?_ U));rintro _ _ ⟨n4,rfl,rfl⟩;refine rO tb 7 U (y_ (Kr U isAgg3 (by first|exact c_o)) ?_ U);refine rO tb 9 U ?_
 first|refine Ac (Aa U) (fun c11=> ?_) (fun c11=> ?_)|refine Ag (Aa U) (fun c11=> ?_) (fun c11=> ?_)
 ·exfalso;omega
 ·refine rC tb 6 U ?_
  first|refine Ac (Aa U) (fun c20=> ?_) (fun c20=> ?_)|refine Ag (Aa U) (fun c20=> ?_) (fun c20=> ?_)
  ·exfalso;omega
  ·refine rC tb 6 U ?_
   first|refine Ac (Aa U) (fun c38=> ?_) (fun c38=> ?_)|refine Ag (Aa U) (fun c38=> ?_) (fun c38=> ?_)
   ·exfalso;omega
   ·refine rC tb 6 U ?_
    first|refine Ac (Aa U) (fun c56=> ?_) (fun c56=> ?_)|refine Ag (Aa U) (fun c56=> ?_) (fun c56=> ?_)
    ·refine rC tb 1 U (Bl 15 [(0,true),(1,true),(2,true),(3,true),(4,true),(5,true),(6,true),(8,true),(9,true),(10,true),(11,true),(12,true),(13,true),(7,false),(14,false)] ((n4,Cl [.int .i64 4, .int .i64 pm.kind, .string pm.nm, .int .i64 pm.val, .int .i64 pm.to, .slice pm.q pm.subs.length pm.cap, .string nm, .int .i64 vv, .slice q [a,b].length c] 28)::R) mixd qkr (by exact sbt) ?_ B4);refine rP tb 3 U (o_y U (Kr U isAgg26 (by first|exact c_o)) ?_ U Ae);refine o_y U (Ch (T U) Aj runUnderlying26 sizeOf28 (by simp) (by first|exact rfl|exact(hA 0 a U).1)) ?_ U Ae;refine o_y U (Ks U isAgg28 sizeOf28 U (by first|exact(hA.mono (by exact sbt)).cs (i:=0) (by simp)|exact Av)) ?_ U Ae;refine rP tb 3 U (o_y U (Kr U isAgg26 (by first|exact c_o)) ?_ U Ae);refine o_y U (Ch (T U) Aj runUnderlying26 sizeOf28 (by simp) (by first|exact rfl|exact(hA 0 a U).1)) ?_ U Ae;refine o_y U (Ks U isAgg28 sizeOf28 U (by first|exact(hA.mono (by exact sbt)).cs (i:=1) (by simp)|exact Av)) ?_ U Ae;refine rP tb 1 U ?_;refine o_p rfl (A5 (.cons (T rfl) (.cons (T rfl) (.cons (T rfl) .nil))) call50 (Bc (M:=SM D v ns) (iha (R:=((n4,Cl [.int .i64 4, .int .i64 pm.kind, .string pm.nm, .int .i64 pm.val, .int .i64 pm.to, .slice pm.q pm.subs.length pm.cap, .string nm, .int .i64 vv, .slice q [a,b].length c] 28)::R)) (hE.mono (by exact sbt)) hIa hFa (hMa.mono (by exact sbt)) hst) (by repeat (first|exact Bw|exact LocL.h|apply LocL.t|apply LocL.a)))) ?_ (by rintro _ ⟨⟨v1,ns1⟩,⟨e1,g1,hst1⟩,rfl⟩;(repeat (first|refine Ca ?_|refine Bu ?_));exact Bo ⟨(v1,ns1),⟨by rw[polF,e1],g1,hst1⟩,rfl⟩ (by exact sbt)) rfl Ae;rintro _ _ ⟨⟨r1,v1,ns1⟩,⟨rfl,e1,hst1⟩,rfl⟩
     dsimp only at e1 hst1
     obtain⟨g1,l1,_⟩:=Cq hE.ok tick _ _ hFa hst.w e1;refine⟨sbt,?_⟩;refine o_p rfl (A5 (.cons (T rfl) (.cons (T rfl) (.cons (T rfl) .nil))) call50 (Bc (M:=SM D v1 ns1) (ihb (R:=((n4,Cl [.int .i64 4, .int .i64 pm.kind, .string pm.nm, .int .i64 pm.val, .int .i64 pm.to, .slice pm.q pm.subs.length pm.cap, .string nm, .int .i64 vv, .slice q [a,b].length c] 28)::R)) (hE.mono (by exact sbt)) hIb hFb (hMb.mono (by exact sbt)) hst1) (by repeat (first|exact Bw|exact LocL.h|apply LocL.t|apply LocL.a)))) ?_ (by rintro _ ⟨⟨v2,ns2⟩,⟨e2,g2,hst2⟩,rfl⟩;(repeat (first|refine Ca ?_|refine Bu ?_));exact Bo ⟨(v2,ns2),⟨by rw[polF,e1];simp only[e2],g1.trans g2,hst2⟩,rfl⟩ (by exact sbt)) rfl Ae;rintro _ _ ⟨⟨r2,v2,ns2⟩,⟨rfl,e2,hst2⟩,rfl⟩
     dsimp only at e2 hst2
     obtain⟨g2,l2,_⟩:=Cq hE.ok tick _ _ hFb hst1.w e2;refine⟨sbt,(A7 U ?_)⟩;refine p_ (A5 (.cons (T rfl) (.cons (T rfl) (.cons (T rfl) .nil))) call73 (Bc (M:=SM D v2 ns2) (seq_s hst2 _ r1 r2 (Nat.lt_of_lt_of_le l1 g2.le) l2) (by repeat (first|exact Bw|exact LocL.h|apply LocL.t|apply LocL.a)))) ?_ (by rintro _ ⟨⟨v3,ns3⟩,⟨e3,g3,hst3⟩,rfl⟩;(repeat (first|refine Ca ?_|refine Bu ?_));exact Bo ⟨(v3,ns3),⟨by rw[polF,e1];simp only[e2];exact e3,(g1.trans g2).trans g3,hst3⟩,rfl⟩ (by exact sbt)) rfl;rintro _ _ ⟨⟨r3,v3,ns3⟩,⟨rfl,e3,hst3⟩,rfl⟩
     dsimp only at e3 hst3
     refine rO tb 6 U (By U (Kq U) ?_);exact⟨_,⟨(r3,v3,ns3),⟨rfl,by rw[polF,e1];simp only[e2];exact e3,hst3⟩,rfl⟩,by exact sbt⟩
    ·exfalso;omega
theorem polStar_s {w0:World}{D:Sd}{v:Sv}{ns:Ns}{R:List (Nat × Obj)}{fl:List Fd}(hE:En w0 R D fl)(hst:StOk D v ns)(pm:Pdm)(nm:ByteArray)(q:Option Addr)(c:Nat)(tick:Int)(vv:Int)(a:Pom)(hA:Arr w0 R q 9 encPo [a])(hMa:PoM w0 R a)(p:Po)(hIa:IsO fl a p)(hFa:p.Fit D.bs)(iha:PolS w0 D fl tick p):
  FSpecP Tryz.prog w0 50 #[.pointer (some ⟨D.p,0,none⟩), .agg #[.int .i64 5, .int .i64 pm.kind, .string pm.nm, .int .i64 pm.val, .int .i64 pm.to, .slice pm.q pm.subs.length pm.cap, .string nm, .int .i64 vv, .slice q [a].length c], .int .i64 tick] (SM D v ns++R) (OpK D (polF D.most.toNat D.bs tick (rdN D.bs) (.star p) ns) R) (.iface 148 (.agg #[])) (OpB D (polF D.most.toNat D.bs tick (rdN D.bs) (.star p) ns) ns R):=by
 refine Bv Tryz.func50 U ntmps50 U (rD tb 2 U (e_ (Kw U cs_) ?_ U));rintro _ _ ⟨n4,rfl,rfl⟩;refine rO tb 7 U (y_ (Kr U isAgg3 (by first|exact c_o)) ?_ U);refine rO tb 9 U ?_
 first|refine Ac (Aa U) (fun c11=> ?_) (fun c11=> ?_)|refine Ag (Aa U) (fun c11=> ?_) (fun c11=> ?_)
 ·exfalso;omega
 ·refine rC tb 6 U ?_
  first|refine Ac (Aa U) (fun c20=> ?_) (fun c20=> ?_)|refine Ag (Aa U) (fun c20=> ?_) (fun c20=> ?_)
  ·exfalso;omega
  ·refine rC tb 6 U ?_
   first|refine Ac (Aa U) (fun c38=> ?_) (fun c38=> ?_)|refine Ag (Aa U) (fun c38=> ?_) (fun c38=> ?_)
   ·exfalso;omega
   ·refine rC tb 6 U ?_
    first|refine Ac (Aa U) (fun c56=> ?_) (fun c56=> ?_)|refine Ag (Aa U) (fun c56=> ?_) (fun c56=> ?_)
    ·exfalso;omega
    ·refine rC tb 8 U (y_ (Kr U isAgg26 (by first|exact c_o)) ?_ U);refine y_ (Ch (T U) Aj runUnderlying26 sizeOf28 (by simp) (by first|exact rfl|exact(hA 0 a U).1)) ?_ U;refine y_ (Ks U isAgg28 sizeOf28 U (by first|exact(hA.mono (by exact sbt)).cs (i:=0) (by simp)|exact Av)) ?_ U;refine rO tb 1 U ?_;refine p_ (A5 (.cons (T rfl) (.cons (T rfl) (.cons (T rfl) .nil))) call50 (Bc (M:=SM D v ns) (iha (R:=((n4,Cl [.int .i64 5, .int .i64 pm.kind, .string pm.nm, .int .i64 pm.val, .int .i64 pm.to, .slice pm.q pm.subs.length pm.cap, .string nm, .int .i64 vv, .slice q [a].length c] 28)::R)) (hE.mono (by exact sbt)) hIa hFa (hMa.mono (by exact sbt)) hst) (by repeat (first|exact Bw|exact LocL.h|apply LocL.t|apply LocL.a)))) ?_ (by rintro _ ⟨⟨v1,ns1⟩,⟨e1,g1,hst1⟩,rfl⟩;(repeat (first|refine Ca ?_|refine Bu ?_));exact Bo ⟨(v1,ns1),⟨by rw[polF,e1],g1,hst1⟩,rfl⟩ (by exact sbt)) rfl;rintro _ _ ⟨⟨r1,v1,ns1⟩,⟨rfl,e1,hst1⟩,rfl⟩
     dsimp only at e1 hst1
     obtain⟨g1,l1,_⟩:=Cq hE.ok tick _ _ hFa hst.w e1;refine p_ (A5 (.cons (T rfl) (.cons (T rfl) .nil)) call98 (Bc (M:=SM D v1 ns1) (star_s (R:=((n4,Cl [.int .i64 5, .int .i64 pm.kind, .string pm.nm, .int .i64 pm.val, .int .i64 pm.to, .slice pm.q pm.subs.length pm.cap, .string nm, .int .i64 vv, .slice q [a].length c] 28)::R)) (hE.bits.mono (by exact sbt)) hE.ok hst1 r1 l1) (by repeat (first|exact Bw|exact LocL.h|apply LocL.t|apply LocL.a)))) ?_ (by rintro _ ⟨⟨v2,ns2⟩,⟨e2,g2,hst2⟩,rfl⟩;(repeat (first|refine Ca ?_|refine Bu ?_));exact Bo ⟨(v2,ns2),⟨by rw[polF,e1];exact e2,g1.trans g2,hst2⟩,rfl⟩ (by exact sbt)) rfl;rintro _ _ ⟨⟨r2,v2,ns2⟩,⟨rfl,e2,hst2⟩,rfl⟩
     dsimp only at e2 hst2
     refine rO tb 4 U (By U (Kq U) ?_);exact⟨_,⟨(r2,v2,ns2),⟨rfl,by rw[polF,e1];exact e2,hst2⟩,rfl⟩,by exact sbt⟩
theorem pol_s {w0:World}{D:Sd}{fl:List Fd}{tick:Int}:∀ p,PolS w0 D fl tick p:=by
 intro p
 induction p with
 |fil p=>
  intro R v ns m hE hI hF hM hst;obtain⟨k,pm,s,va,q,c,xs⟩:=m;cases hI with
  |fil hk h1=>obtain rfl:k=1:=hk;exact polFil_s hE hst pm s q c tick va xs.length hM.pred p h1 hF
 |set f n=>
  intro R v ns m hE hI hF hM hst;obtain⟨k,pm,s,va,q,c,xs⟩:=m;cases hI with
  |set hk hv=>obtain rfl:k=2:=hk;obtain rfl:va=(n:Int):=hv;exact polSet_s hE hst pm s q c tick n xs.length hF.1.ok hF.2
 |uni a b iha ihb=>
  intro R v ns m hE hI hF hM hst;obtain⟨k,pm,s,va,q,c,xs⟩:=m;cases hI with
  |uni hk hs h1 h2=>obtain rfl:k=3:=hk;obtain rfl:xs=[_,_]:=hs;exact polUni_s hE hst pm s q c tick va _ _ hM.arr (hM.sub (by simp[Pom.subs])) (hM.sub (by simp[Pom.subs])) a b h1 h2 hF.1 hF.2 iha ihb
 |seq a b iha ihb=>
  intro R v ns m hE hI hF hM hst;obtain⟨k,pm,s,va,q,c,xs⟩:=m;cases hI with
  |seq hk hs h1 h2=>obtain rfl:k=4:=hk;obtain rfl:xs=[_,_]:=hs;exact polSeq_s hE hst pm s q c tick va _ _ hM.arr (hM.sub (by simp[Pom.subs])) (hM.sub (by simp[Pom.subs])) a b h1 h2 hF.1 hF.2 iha ihb
 |star a iha=>
  intro R v ns m hE hI hF hM hst;obtain⟨k,pm,s,va,q,c,xs⟩:=m;cases hI with
  |star hk hs h1=>obtain rfl:k=5:=hk;obtain rfl:xs=[_]:=hs;exact polStar_s hE hst pm s q c tick va _ hM.arr (hM.sub (by simp[Pom.subs])) a h1 hF iha
abbrev dCall (f:FuncId) (cap:List Value):Deferred:={target:= .fn (.func f) cap.toArray,args:= #[]}
def dQ (P:Program) (fn:Func) (w0:World) (f2:FuncId) (K:Value→List (Nat × Obj)→Prop) (fv:Value):Post
 | .normal,σ,ds,w=>∃ cap,ds=[dCall f2 cap]∧CallsD P f2 cap.toArray .returning w fun e u' w'=>∃ v,e= .returned v∧u'= .returning∧RetW P fn w0 K σ [] w'
 | .ret,σ,ds,w=>∃ cap,ds=[dCall f2 cap]∧CallsD P f2 cap.toArray .returning w fun e u' w'=>∃ v,e= .returned v∧u'= .returning∧RetW P fn w0 K σ [] w'
 | .panic c,σ,ds,w=>∃ cap,ds=[dCall f2 cap]∧c=[{v:=fv,recovered:=false}]∧CallsD P f2 cap.toArray (.panicking [{v:=fv,recovered:=false}]) w fun e u' w'=>∃ v,e= .returned v∧u'= .panicking [{v:=fv,recovered:=true}]∧RetW P fn w0 K σ [] w'
 |_,_,_,_=>False
theorem fn_specD {P:Program}{w0:World}{f:FuncId}{fn:Func}{c:Code}{vs:List Value}{H:List (Nat × Obj)}{K:Value→List (Nat × Obj)→Prop}{N:Nat}{f2:FuncId}{fv:Value}(hf:P.funcs[f]? =some fn)(hb:fn.body=some c)(hN:fn.ntmps=N)(hv:Nat.ble vs.length N=true)(hc:∀ args w,(callFunc f2 args).run P w= .ok (.enter f2 args) w)
  (h:J P none N w0 c (dQ P fn w0 f2 K fv) (ini 0 vs) [] H):FSpec P w0 f vs.toArray H K:=fun w hO=>by
 have hv':vs.length≤N:=by simpa using hv
 refine calls_of_wp_defers hf hb ?_;have h1:=h (fun _=>undef) w hO {tmps:=vs.toArray++Array.replicate (fn.ntmps - vs.toArray.size) undef,defers:=[]} (by simp[hN];omega) (by
  funext k
  rw[H3];unfold fr;simp only[Nat.zero_le,if_true,Nat.sub_zero,Array.getD_eq_getD_getElem?]
  by_cases hk:k<vs.length
  ·simp[Array.getElem?_append,hk]
  ·simp only[List.size_toArray,Array.getElem?_append,hk,if_false];rw[List.getElem?_eq_none qom];simp only[Array.getElem?_replicate]
   split<;>rfl) U
 have key:∀ (cap:List Value) (a:Act) (w':World) (u:FrameMode),u≠.run→∀ (R:FrameMode→World→Prop),CallsD P f2 cap.toArray u w' (fun e u' w''=>∃ v,e= .returned v∧R u' w'')→(∀ u' w'',R u' w''→settle u'= .returning∧RetW P fn w0 K (fr a) [] w'')→
   Leaves P fn a.tmps (fun e w'=>∃ v H',e= .returned v∧Own w0 H' w'∧K v H') [dCall f2 cap] u w':=fun cap a w' u hu R hcall hR=>by
  unfold Leaves;refine⟨hu, .func f2,cap.toArray,f2,cap.toArray,rfl,by simp[dCall,invoke,hc],hcall.mono fun e u' w'' he=> ?_⟩;obtain⟨v,rfl,hr⟩:=he;obtain⟨h1,v2,H',h3,h4,h5⟩:=hR _ _ hr;simp only[h1];unfold Leaves;exact⟨v2,h3 _ U,v2,H',rfl,h4,h5⟩
 refine(wpIn_wide (n:=0)).1 (wpIn_mono h1 fun e a w' hq=> ?_);obtain⟨hs,hq⟩:=hq;cases e with
 |normal=>
  obtain⟨cap,hd,hcall⟩:=hq;show Leaves P fn a.tmps _ a.defers .returning w';rw[hd];exact key cap a w' .returning (by simp) (fun u' w''=>u'= .returning∧RetW P fn w0 K (fr a) [] w'') hcall fun u' w'' hr=>⟨by rw[hr.1];rfl,hr.2⟩
 |ret=>
  obtain⟨cap,hd,hcall⟩:=hq;show Leaves P fn a.tmps _ a.defers .returning w';rw[hd];exact key cap a w' .returning (by simp) (fun u' w''=>u'= .returning∧RetW P fn w0 K (fr a) [] w'') hcall fun u' w'' hr=>⟨by rw[hr.1];rfl,hr.2⟩
 |panic ch=>
  obtain⟨cap,hd,rfl,hcall⟩:=hq;show Leaves P fn a.tmps _ a.defers (.panicking _) w';rw[hd];exact key cap a w' _ (by simp) (fun u' w''=>u'= .panicking [{v:=fv,recovered:=true}]∧RetW P fn w0 K (fr a) [] w'') hcall fun u' w'' hr=>⟨by rw[hr.1];rfl,hr.2⟩
 |_=>exact hq.elim
section
variable {P:Program} {N:Nat} {w0:World} {Q:Post} {L:Fm} {ds:List Deferred} {H:List (Nat × Obj)} {ops:Array Oper} {l:List Oper} {ty:TypeId} {p:String} {af:Array Edge} {x:Operand} {f2:FuncId} {cap:List Value} {ts:Array TypeId}
theorem jl_defer (hx:Ev L x (.func (.func f2) #[] cap.toArray))(k:JL P none N w0 ops l Q L (dCall f2 cap::ds) H):JL P none N w0 ops (⟨none, .defer {callee:= .value x,args:= #[],argTypes:=ts},ty,p,af,none⟩::l) Q L ds H:=fun b w hO a hs hf hd=>by
 unfold wpListIn;rw[if_pos (J7 (Ae (ops:=ops) (L:=L) (N:=N)) hs hf)];refine⟨fun f _=>Ih none f,?_⟩;have hxe:a.eval x= .func (.func f2) #[] cap.toArray:=by rw[Fe,hf];exact hx b
 have hr:(Oper.semAt (rd none).round a.eval ⟨none, .defer {callee:= .value x,args:= #[],argTypes:=ts},ty,p,af,none⟩).run P w= .ok (.defer (dCall f2 cap)) w:=by
  simp[Oper.semAt,rd,Fence.wide,execOp,resolve,Deferred.ofValue,hxe,Sem.run_bind,Result.andThen]
 rw[hr];exact k b w hO {a with defers:=dCall f2 cap::a.defers} hs hf (by rw[hd])
end
def retQ0 (P:Program) (fn:Func) (w0:World) (K:Value→List (Nat × Obj)→Prop):Post
 | .normal,σ,ds,w=>ds=[]∧∃ v H,Res P fn σ w v∧Own w0 H w∧K v H
 | .ret,σ,ds,w=>ds=[]∧∃ v H,Res P fn σ w v∧Own w0 H w∧K v H
 |_,_,_,_=>False
theorem q0_end {P:Program}{w0:World}{L:Fm}{H:List (Nat × Obj)}{fn:Func}{K:Value→List (Nat × Obj)→Prop}{rs:List ResultVar}{vs:List Value}(hr:fn.results=rs.toArray)(h:ResV P w0 L H rs vs)(hK:∃ H',K (resOf vs) H'∧H'.Sublist H):JQ w0 (retQ0 P fn w0 K) .normal L [] H:=fun b w hO=>⟨rfl,_,hK.choose,Fr hr h hO,hO.sub hK.choose_spec.2,hK.choose_spec.1⟩
theorem np_ret0 {P:Program}{w0:World}{fn:Func}{K:Value→List (Nat × Obj)→Prop}:NoPanic (retQ0 P fn w0 K):=⟨fun _ _ _ _ _ h=>h⟩
theorem np_all0 {Q:Post}(h:NoPanic Q:=by repeat (first|exact np_ret0|exact Iu|exact Ft|exact E5|apply Fk|apply G9|apply Iv|apply Fy|apply Gh|apply E4)):NoPanic Q:=h
theorem d_spec {P:Program}{w0:World}{f2:FuncId}{fn:Func}{id d1 d2:Nat}{ts:Array TypeId}{ty1 ty2:TypeId}{p1 p2:String}{af1 af2:Array Edge}{rest:Code}{vs:List Value}{N:Nat}{u u':FrameMode}{val:Value}{H:List (Nat × Obj)}{K:Value→List (Nat × Obj)→Prop}
  (hf:P.funcs[f2]? =some fn) (hb:fn.body=some (.seq (.region id #[⟨some d1, .call {callee:= .builtin .recover,args:= #[],argTypes:=ts},ty1,p1,af1,none⟩,⟨some d2, .assign (.tmp d1),ty2,p2,af2,none⟩] false) rest)) (hN:fn.ntmps=N) (hv:Nat.ble vs.length N=true) (h1:Nat.blt d1 N=true) (h2:Nat.blt d2 N=true)
  (hu:∀ (c₀:Frame) (cs:List Frame),c₀.mode=u→(match recoverD (c₀::cs) with|some (v,cs')=>v=val∧cs'={c₀ with mode:=u'}::cs|none=> .nilIface=val∧c₀::cs={c₀ with mode:=u'}::cs))
  (h:J P none N w0 rest (retQ0 P fn w0 K) ((d2,val)::(d1,val)::ini 0 vs) [] H) {w:World} (hO:Own w0 H w):
  CallsD P f2 vs.toArray u w fun e u'' w'=>∃ v,e= .returned v∧u''=u'∧∃ H',Own w0 H' w'∧K v H':=by
 have hv':vs.length≤N:=by simpa using hv
 refine callsD_of_wpS hf hb fun c₀ cs hm=>wpS_seq (wpS_region ?_)
 obtain⟨a0,ha0⟩:∃ a0:Act,a0={tmps:=vs.toArray++Array.replicate (fn.ntmps - vs.toArray.size) undef,defers:=[]}:=⟨_,rfl⟩;rw[← ha0];have hsz:a0.tmps.size=N:=by subst ha0;simp[hN];omega
 have hfr:fr a0=lk (ini 0 vs) (fun _=>undef):=by
  subst ha0
  funext k
  rw[H3];unfold fr;simp only[Nat.zero_le,if_true,Nat.sub_zero,Array.getD_eq_getD_getElem?]
  by_cases hk:k<vs.length
  ·simp[Array.getElem?_append,hk]
  ·simp only[List.size_toArray,Array.getElem?_append,hk,if_false];rw[List.getElem?_eq_none qom];simp only[Array.getElem?_replicate]
   split<;>rfl
 have hdf:a0.defers=[]:=by subst ha0;rfl
 have hf1:=Ii (d:=some d1) (v:=val) (N:=N) h1 hsz hfr;have hs1:(a0.put (some d1) val).tmps.size=N:=by rw[Dg];exact hsz
 have hf2:=Ii (d:=some d2) (v:=val) (N:=N) h2 hs1 hf1;have hev:(a0.put (some d1) val).eval (.tmp d1)=val:=by
  rw[Fe,hf1];exact(T (L:=pt (some d1) val (ini 0 vs)) (k:=d1) (v:=val) (by simp[pt,fnd?,Nat.beq_refl])) _
 have hrest:=h (fun _=>undef) w hO ((a0.put (some d1) val).put (some d2) val) (by rw[Dg];exact hs1) hf2 (by rw[Cj,Cj];exact hdf);have hrec:(execOp a0.eval ⟨some d1, .call {callee:= .builtin .recover,args:= #[],argTypes:=ts},ty1,p1,af1,none⟩).run P w= .ok .recover w:=by
  simp[execOp,resolve,invoke,builtin,Sem.run_bind,Result.andThen]
 have hasg:∀ a:Act,(execOp a.eval ⟨some d2, .assign (.tmp d1),ty2,p2,af2,none⟩).run P w= .ok (.value (a.eval (.tmp d1))) w:=fun a=>rfl
 have fin:∀ a:Act,a=(a0.put (some d1) val).put (some d2) val→rest.wpS P (bodyPostS P fn c₀ cs fun e u'' w'=>∃ v,e= .returned v∧u''=u'∧∃ H',Own w0 H' w'∧K v H') a ({c₀ with mode:=u'}::cs) w:=fun a ha=>by
  subst ha;refine wpS_of_wp ((wpIn_wide (n:=0)).1 (wpIn_mono hrest fun e a' w' hq=> ?_));obtain⟨_,hq⟩:=hq;cases e with
  |normal=>
   obtain⟨hd,v,H',hr,hO',hK⟩:=hq;exact⟨hd,u',rfl,v,hr _ U,v,rfl,rfl,H',hO',hK⟩
  |ret=>
   obtain⟨hd,v,H',hr,hO',hK⟩:=hq;exact⟨hd,u',rfl,v,hr _ U,v,rfl,rfl,H',hO',hK⟩
  |_=>exact hq.elim
 have hrd:=hu c₀ cs hm;show wpOpsS P _ _ [0,1] a0 (c₀::cs) w;unfold wpOpsS;simp only[List.getElem?_toArray,List.getElem?_cons_zero,Region.wanted,if_true,hrec];cases hc:recoverD (c₀::cs) with
 |none=>
  rw[hc] at hrd;obtain⟨hv2,hcs⟩:=hrd;simp only[];rw[hv2,hcs];unfold wpOpsS;simp only[List.getElem?_toArray,List.getElem?_cons_succ,List.getElem?_cons_zero,Region.wanted,if_true,hasg,hev];unfold wpOpsS;exact fin _ U
 |some y=>
  obtain⟨v,cs'⟩:=y;rw[hc] at hrd;obtain⟨rfl,rfl⟩:=hrd;simp only[];unfold wpOpsS;simp only[List.getElem?_toArray,List.getElem?_cons_succ,List.getElem?_cons_zero,Region.wanted,if_true,hasg,hev];unfold wpOpsS;exact fin _ U
section
variable {K V:Type} [DecidableEq K] {P:Program} {kt:TypeId} {encK:K→Value} {encV:V→Value} {w0:World} {L:Fm} {H:List (Nat × Obj)} {ty t t2 et:TypeId} {x y:Operand}
theorem eff_mapDel {r c i:Nat}{es:List MapEntry}{l:List (K × V)}(k:K){u:V}{v:Value}{H':List (Nat × Obj)}(hk:KeyG (V:=V) P kt encK)(he:Ents encK encV es l)(hn:findI k l 0=some (i,u))(hx:Ev L x (.map (some r)))(hy:Ev L y v)(hv:v=encK k)(ht:∀ w,(underlying t).run P w= .ok (.map kt et) w)
  (hu:Upd H r (.map es.toArray c) (.map (es.eraseIdx i).toArray c) H'):Eff P w0 (.call {callee:= .builtin .delete,args:= #[x,y],argTypes:= #[t,t2]}) ty L H (fun _ H2=>H2=H'):=
 ⟨rfl,fun b w hO=>by
  subst hv;have hh:=hO.has _ hu.mem;have hg:=Cm (P:=P) hh;have hf:=hk.find encV es l k w he;have hs:=Ff (P:=P) (.map (es.eraseIdx i).toArray c) hh;have hgo:(getObj r).run P w= .ok (.map es.toArray c) w:=hg;have hso:(setObj r (.map (es.eraseIdx i).toArray c)).run P w= .ok () (w.putObj r (.map (es.eraseIdx i).toArray c)):=hs;have hil:i<es.length:=by
   have h1:=(findI_lt hn).2.1;rw[he.len];simpa using h1
  have her:es.toArray.eraseIdxIfInBounds i=(es.eraseIdx i).toArray:=by
   unfold Array.eraseIdxIfInBounds;simp[hil]
  have h1:(exO (ev (lk L b)) (.call {callee:= .builtin .delete,args:= #[x,y],argTypes:= #[t,t2]}) ty).run P w= .ok (.value (.tuple #[])) (w.putObj r (.map (es.eraseIdx i).toArray c)):=by
   simp[exO,execOp,resolve,invoke,builtin,Builtin.delete_,hx b,hy b,ht,Sem.run_bind,Result.andThen,hgo,hk.chk,hf,hn,her,hso]
  rw[h1];exact⟨_,hO.put hu,rfl⟩⟩
end
theorem eq20_nil (w:World):(Op.equal 20 .nilIface .nilIface).run Tryz.prog w= .ok true w:=by kernel_rfl
theorem eq20_full (w:World):(Op.equal 20 (.iface 148 (.agg #[])) .nilIface).run Tryz.prog w= .ok false w:=by kernel_rfl
section
variable {w0:World} {L:Fm} {H:List (Nat × Obj)} {ty yt:TypeId} {x:Operand}
theorem yl_neqN0 (hx:Ev L x .nilIface):Yl Tryz.prog w0 (.binOp .neq 20 x (.const .nilIface) yt) ty L H (.bool false):=Bb U fun b w=>by
 have hc:ev (lk L b) (.const .nilIface)= .nilIface:=rfl;have hx':=hx b;simp[exO,execOp,hx',hc,binOp,eqGuard,eq20_nil,Sem.run_bind,Result.andThen]
theorem yl_neqN1 (hx:Ev L x (.iface 148 (.agg #[]))):Yl Tryz.prog w0 (.binOp .neq 20 x (.const .nilIface) yt) ty L H (.bool true):=Bb U fun b w=>by
 have hc:ev (lk L b) (.const .nilIface)= .nilIface:=rfl;have hx':=hx b;simp[exO,execOp,hx',hc,binOp,eqGuard,eq20_full,Sem.run_bind,Result.andThen]
theorem ta_full (w:World):(Instr.typeAssert (.iface 148 (.agg #[])) 20 148 true).run Tryz.prog w= .ok (.tuple #[.agg #[], .bool true]) w:=by kernel_rfl
end
abbrev tryCap (b2 b6 b4 b5:Nat):List Value:=[.pointer (some ⟨b2,0,none⟩), .pointer (some ⟨b6,0,none⟩), .pointer (some ⟨b4,0,none⟩), .pointer (some ⟨b5,0,none⟩)]
theorem tryR_s {w0:World}{H:List (Nat × Obj)}(b2 b6 b4 b5:Nat){w:World}(hO:Own w0 H w):CallsD Tryz.prog 94 (tryCap b2 b6 b4 b5).toArray .returning w (fun e u'' w'=>∃ v,e= .returned v∧u''= .returning∧∃ H',Own w0 H' w'∧H'=H):=by
 refine d_spec (val:= .nilIface) (K:=fun _ H'=>H'=H) (N:=46) Tryz.func94 U ntmps94 U U U (fun c₀ cs hm=> ?_) ?_ hO
 ·have:recoverD (c₀::cs)=none:=by simp[recoverD,hm]
  rw[this];refine⟨rfl,?_⟩;obtain⟨_,_⟩:=c₀;simp only at hm;subst hm
  rfl
 ·skip
  refine rD tb 3 U (y_ (yl_neqN0 (T U)) (rO tb 4 U (q0_end U .nil ?_)) U);exact⟨H,rfl,sbt⟩
def cutS:Sl→List Value→Sl
 | .nil,_=> .nil
 | .blk n c j,m=> .blk n c (m++j)
theorem slH_cut {d:Sl}{a m:List Value}{e:TypeId}:slH d (a++m) e=slH (cutS d m) a e:=by
 cases d with
 |nil=>rfl
 |blk n c j=>simp[slH,cutS]
theorem cut_ok {d:Sl}{k j sz:Nat}{m:List Value}(h:SlOk d (k+j) sz)(hm:m.length=j*sz)(hk:0<k):SlOk (cutS d m) k sz:=by
 cases d with
 |nil=>have:k+j=0:=h;omega
 |blk n c jk=>
  obtain⟨h1,h2⟩:k+j≤c∧jk.length=(c - (k+j))*sz:=h;refine⟨by omega,?_⟩;rw[List.length_append,hm,h2,← Nat.add_mul]
  congr 1;omega
theorem slV_cut (d:Sl)(m:List Value)(k:Nat):slV (cutS d m) k=slV d k:=by cases d<;>rfl
theorem idL_app {ns m:Ns}(h:2≤ns.length):idL (ns++m)=idL ns++m.zipIdx ns.length:=by
 unfold idL;rw[List.drop_append_of_le_length h,List.zipIdx_append]
 congr 1
 rw[List.length_drop]
 congr 1;omega
theorem findI_app {K V:Type}[DecidableEq K] {k:K}{u:V}:∀ {a:List (K × V)} {b:List (K × V)} {i:Nat},(∀ x∈a,x.1≠k)→findI k (a++(k,u)::b) i=some (i+a.length,u)
 |[],b,i,_=>by simp[findI]
 |x::a,b,i,h=>by
  rw[List.cons_append,findI,if_neg (h x (by simp)),findI_app fun y hy=>h y (by simp[hy])];simp only[List.length_cons]
  congr 2;omega
theorem idL_key {ns:Ns}{x:Nd × Nat}(h:x∈idL ns):x.1∈ns.drop 2:=by
 unfold idL at h;have:=List.mem_map_of_mem (f:=Prod.fst) h
 rwa [List.zipIdx_map_fst] at this
theorem erase_mid {α:Type}{a b:List α}{x:α}:(a++x::b).eraseIdx a.length=a++b:=by
 rw[List.eraseIdx_append_of_length_le (Nat.le_refl _)];simp
theorem yl_ta {P:Program}{w0:World}{L:Fm}{H:List (Nat × Obj)}{ty a b:TypeId}{c:Bool}{x:Operand}{v u:Value}(hx:Ev L x v)(h:∀ w,(Instr.typeAssert v a b c).run P w= .ok u w):Yl P w0 (.typeAssert x a b c) ty L H u:=Bb U fun b' w=>by
 simp[exO,execOp,hx b',h,Sem.run_bind,Result.andThen]
theorem SlOk.cells {d:Sl}{k sz:Nat}(h:SlOk d k sz):k≤slC d:=by cases d with
 |nil=>exact Nat.le_of_eq h
 |blk n c j=>exact h.1
theorem tryP_s {w0:World}{D:Sd}{v:Sv}{ns0 m:Ns}{R:List (Nat × Obj)}(hst:StOk D v (ns0++m))(hw0:Wf (2*D.bs.length) ns0)(b2 b6 b4 b5:Nat)(e4 e5:Int){w:World}(hO:Own w0 ((b6,Cl [.int .i64 (ns0.length:Nat)] 3)::(b5,Cl [.int .i64 e5] 36)::(b4,Cl [.int .i64 e4] 3)::(b2,Cl [.pointer (some ⟨D.p,0,none⟩)] 34)::(D.p,Cl [.slice D.qf D.nf D.cf, .slice D.qb D.bs.length D.cb,slV v.d (ns0++m).length, .map (some D.m), .int .i64 D.most] 92)::(slH v.d ((ns0++m).flatMap encNd) 97++((D.m, .map v.es.toArray v.c)::R))) w):CallsD Tryz.prog 94 (tryCap b2 b6 b4 b5).toArray (.panicking [{v:=(.iface 148 (.agg #[])),recovered:=false}]) w (fun e u'' w'=>∃ u9,e= .returned u9∧u''= .panicking [{v:=(.iface 148 (.agg #[])),recovered:=true}]∧∃ H',Own w0 H' w'∧(fun H'=>∃ es,Ents encNdK encNI es (idL ns0)∧H'=(b6,Cl [.int .i64 (ns0.length:Nat)] 3)::(b5,Cl [.int .i64 12] 36)::(b4,Cl [.int .i64 0] 3)::(b2,Cl [.pointer (some ⟨D.p,0,none⟩)] 34)::(D.p,Cl [.slice D.qf D.nf D.cf, .slice D.qb D.bs.length D.cb,slV v.d ns0.length, .map (some D.m), .int .i64 D.most] 92)::(slH v.d ((ns0++m).flatMap encNd) 97++((D.m, .map es.toArray v.c)::R))) H'):=by
 have ht:=hw0.two;have hw:=hst.w;have hml:m.length≤1000002:=by
  have h9:=hst.len;have h8:=hst.mo;rw[List.length_append] at h9;omega
 have hAr:Arr w0 (slH v.d ((ns0++m).flatMap encNd) 97) (slD (slQ v.d) (slC v.d) ns0.length 3) 3 encNd m:=by
  have:=(Ck (w0:=w0) (e:=97) (X:=[]) (enc:=encNd) (l:=ns0++m) (fun _=>rfl) hst.sl).drop hst.sl.cells ns0.length;rw[List.append_nil,List.drop_left] at this;exact this
 have hfi:∀ (j:Nat) (es:List MapEntry),Ents encNdK encNI es (idL ns0++(m.drop j).zipIdx (ns0.length+j))→j<m.length→findI (gd m j) (idL ns0++(m.drop j).zipIdx (ns0.length+j)) 0=some ((idL ns0).length,ns0.length+j):=fun j es he hj=>by
  rw[List.drop_eq_getElem_cons hj,List.zipIdx_cons,Ay hj,findI_app fun x hx e=> ?_,Nat.zero_add];have h1:=idL_key hx;rw[e] at h1;obtain⟨i,hi,hg⟩:=List.mem_iff_getElem.1 h1;rw[List.length_drop] at hi;rw[List.getElem_drop] at hg;have:=hw.un (2+i) (ns0.length+j) qom (by simp;omega) qom (by simp;omega) (by
   unfold nd List.getD;rw[List.getElem?_append_left qom,List.getElem?_append_right qom,List.getElem?_eq_getElem qom,Nat.add_sub_cancel_left,List.getElem?_eq_getElem hj,hg])
  omega
 have hen:∀ (j:Nat) (es:List MapEntry),Ents encNdK encNI es (idL ns0++(m.drop j).zipIdx (ns0.length+j))→j<m.length→Ents encNdK encNI (es.eraseIdx (idL ns0).length) (idL ns0++(m.drop (j+1)).zipIdx (ns0.length+(j+1))):=fun j es he hj=>by
  have:=he.erase (idL ns0).length;rw[List.drop_eq_getElem_cons hj,List.zipIdx_cons,erase_mid] at this;exact this
 refine d_spec (vs:=tryCap b2 b6 b4 b5) (val:=(.iface 148 (.agg #[]))) (K:=fun _ H'=>∃ es,Ents encNdK encNI es (idL ns0)∧H'=(b6,Cl [.int .i64 (ns0.length:Nat)] 3)::(b5,Cl [.int .i64 12] 36)::(b4,Cl [.int .i64 0] 3)::(b2,Cl [.pointer (some ⟨D.p,0,none⟩)] 34)::(D.p,Cl [.slice D.qf D.nf D.cf, .slice D.qb D.bs.length D.cb,slV v.d ns0.length, .map (some D.m), .int .i64 D.most] 92)::(slH v.d ((ns0++m).flatMap encNd) 97++((D.m, .map es.toArray v.c)::R))) (N:=46) Tryz.func94 U ntmps94 U U U (fun c₀ cs hm=> ?_) ?_ hO
 ·have:recoverD (c₀::cs)=some ((.iface 148 (.agg #[])),{c₀ with mode:= .panicking [{v:=(.iface 148 (.agg #[])),recovered:=true}]}::cs):=by simp[recoverD,hm]
  rw[this];exact⟨rfl,rfl⟩
 ·skip
  refine rD tb 3 U (y_ (yl_neqN1 (T U)) (rO tb 7 U (y_ (yl_ta (T U) ta_full) (rO tb 3 U (e_ (Al zeroValue148 cs_) ?_ U)) U)) U);rintro _ _ ⟨n5,rfl,rfl⟩
  first|refine A6 (Kv U U sizeOf148) U Ae ?_
  rintro _ _ ⟨rfl,rfl⟩;refine rO tb 6 U ?_
  first|refine Az (B2 (T U)) U Ae ?_
  refine rO tb 7 U (Bl 8 [(0,true),(1,true),(2,true),(3,true),(4,true),(5,true),(6,true),(7,true)] _ mixd qkr sb0 ?_ np_all0);refine o_y U (Kr U isAgg34 (by first|exact c_o)) ?_ U Ae;refine rP tb 2 U (o_y U (Kr U isAgg90 (by first|exact c_o)) ?_ U Ae);refine o_y U (Kr U isAgg3 (by first|exact c_o)) ?_ U Ae;refine o_y U (yl_sliceL  (T U) (T U) runUnderlying90 sizeOf97 (by rw[List.length_append];omega)) ?_ U Ae;refine rP tb 2 U (A7 U (rO tb 3 U ?_));refine A9 (X:=Nat × List MapEntry) (V:=fun ⟨j,es⟩=>[(27, .int .i64 (j:Nat))]) (C:=[(0,_),(1,_),(2,_),(3,_),(25,_),(26,_)]) (G:=fun ⟨j,es⟩=>(b6,Cl [.int .i64 (ns0.length:Nat)] 3)::(b5,Cl [.int .i64 e5] 36)::(b4,Cl [.int .i64 e4] 3)::(b2,Cl [.pointer (some ⟨D.p,0,none⟩)] 34)::(D.p,Cl [.slice D.qf D.nf D.cf, .slice D.qb D.bs.length D.cb,slV v.d (ns0++m).length, .map (some D.m), .int .i64 D.most] 92)::(slH v.d ((ns0++m).flatMap encNd) 97++((D.m, .map es.toArray v.c)::R))) (φ:=fun ⟨j,es⟩=>j≤m.length∧Ents encNdK encNI es (idL ns0++(m.drop j).zipIdx (ns0.length+j))) (μ:=fun ⟨j,es⟩=>m.length - j) (x0:=(0,v.es)) ?_ ⟨Aa rfl,Aa rfl,Aa rfl,Aa rfl,Aa rfl,Aa rfl,trivial⟩ ⟨atd,trivial⟩ (List.Sublist.cons _ sb0) ?_
  ·exact⟨Nat.zero_le _,by simpa[idL_app ht] using hst.es⟩
  rintro⟨j,es⟩ ⟨hj0,he⟩;refine rD tb 6 U ?_
  first|refine Ac (Aa U) (fun c28=> ?_) (fun c28=> ?_)|refine Ag (Aa U) (fun c28=> ?_) (fun c28=> ?_)
  ·have hj:j<m.length:=by simp at c28;omega
   refine rC tb 6 U (y_ (Ku U U runUnderlying90 sizeOf97 qom (by first|exact rfl|exact(hAr j (gd m j) (B1 hj)).1)) ?_ U);refine y_ (Ks U isAgg97 sizeOf97 U (by first|exact(hAr.mono (by repeat (first|exact List.sublist_append_left _ _|refine List.Sublist.cons _ ?_))).cs (i:=j) hj|exact Av)) ?_ U;refine e_ (Al zeroValue97 cs_) ?_ U;rintro _ _ ⟨n8,rfl,rfl⟩
   first|refine A6 (Kv U U sizeOf97) U Ae ?_
   rintro _ _ ⟨rfl,rfl⟩;refine rO tb 2 U (Bl 5 [(0,true),(1,true),(2,true),(3,true),(4,true)] _ mixd qkr sb0 ?_ np_all0);refine o_y U (Kr U isAgg34 (by first|exact c_o)) ?_ U Ae;refine rP tb 2 U (o_y U (Kr U isAgg89 (by first|exact c_o)) ?_ U Ae);refine o_y U (Ks U isAgg97 sizeOf97 U (by first|exact Av)) ?_ U Ae;refine A7 U (e_ (eff_mapDel (gd m j) keyNd he (hfi j es he hj) (T U) (T U) U runUnderlying89 (by(repeat (first|exact Upd.h|apply Upd.t|apply Cb));done)) ?_ U);rintro _ _ rfl;refine rO tb 4 U (y_ (B8 (c:=1) (T U) Aj qom) ?_ U);refine rO tb 2 U ?_;refine A0 ((j+1,es.eraseIdx (idL ns0).length)) ?_ ?_ ⟨atd,trivial⟩ ⟨Aa U,Aa U,Aa U,Aa U,Aa U,Aa U,trivial⟩ ?_
   ·exact⟨by omega,hen j es he hj⟩
   ·first|omega|(simp only[];omega)
   ·exact sbt
  ·obtain rfl:j=m.length:=by simp at c28;omega
   have he2:Ents encNdK encNI es (idL ns0):=by simpa using he
   refine rC tb 2 U (Ao (rX tb 3 U (Bl 9 [(0,true),(1,true),(2,true),(3,true),(4,true),(5,true),(6,true),(7,true),(8,true)] _ mixd qkr sb0 ?_ np_all0)));refine o_y U (Kr U isAgg34 (by first|exact c_o)) ?_ U Ae;refine o_y U (Kr U isAgg34 (by first|exact c_o)) ?_ U Ae;refine rP tb 2 U (o_y U (Kr U isAgg90 (by first|exact c_o)) ?_ U Ae);refine o_y U (Kr U isAgg3 (by first|exact c_o)) ?_ U Ae;refine o_y U (yl_sliceH  (T U) (T U) runUnderlying90 sizeOf97 (by have h9:=hst.sl.cells;rw[List.length_append] at h9;omega)) ?_ U Ae;refine rP tb 2 U (A7 U ?_)
   first|refine A6 (Kv U U sizeOf90) U Ae ?_|refine A6 (Bz (T U) (T U) U sizeOf90) U Ae ?_|refine A6 (Bj (T U) (T U) U sizeOf90) U Ae ?_
   rintro _ _ ⟨rfl,rfl⟩;refine rO tb 3 U ?_
   first|refine A6 (Au (T U) Aj sizeOf3) U Ae ?_|refine A6 (Bz (T U) Aj U sizeOf3) U Ae ?_|refine A6 (Bj (T U) Aj U sizeOf3) U Ae ?_
   rintro _ _ ⟨rfl,rfl⟩
   first|refine A6 (Au (T U) Aj sizeOf36) U Ae ?_|refine A6 (Bz (T U) Aj U sizeOf36) U Ae ?_|refine A6 (Bj (T U) Aj U sizeOf36) U Ae ?_
   rintro _ _ ⟨rfl,rfl⟩;refine rO tb 1 U (q0_end U .nil ?_);exact⟨_,⟨es,he2,rfl⟩,sbt⟩
abbrev TryK (D:Sd) (F:Option (Nat × Ns)) (ns:Ns) (R:List (Nat × Obj)):Value→List (Nat × Obj)→Prop:=fun u H'=>∃ x:Nat × Int × Sv × Ns,(u= .tuple #[.int .i64 (x.1:Nat), .int .i64 x.2.1]∧((F=some (x.1,x.2.2.2)∧x.2.1=0)∨(F=none∧x.1=0∧x.2.1=12∧x.2.2.2=ns))∧StOk D x.2.2.1 x.2.2.2)∧H'=SM D x.2.2.1 x.2.2.2++R
theorem st_cut {D:Sd}{v:Sv}{ns0 m:Ns}(hst:StOk D v (ns0++m))(hw0:Wf (2*D.bs.length) ns0){es:List MapEntry}(he:Ents encNdK encNI es (idL ns0)):StOk D ⟨cutS v.d (m.flatMap encNd),es,v.c⟩ ns0:=by
 have h1:=hst.sl;rw[List.length_append] at h1;have h2:=hst.len;rw[List.length_append] at h2;exact⟨cut_ok h1 (Dw (enc:=encNd) (sz:=3) (fun _=>rfl) m) (by have:=hw0.two;omega),he,by omega,hst.mo,hw0,hst.bl⟩
section
variable {P:Program} {w0:World} {L:Fm} {H:List (Nat × Obj)} {fn:Func} {f2:FuncId} {K:Value→List (Nat × Obj)→Prop} {fv:Value} {rs:List ResultVar} {vs:List Value} {cap:List Value}
theorem dq_end (hr:fn.results=rs.toArray)(hres:ResV P w0 L H rs vs)(hK:∃ H',K (resOf vs) H'∧H'.Sublist H)(hc:∀ w,Own w0 H w→CallsD P f2 cap.toArray .returning w fun e u'' w'=>∃ v,e= .returned v∧u''= .returning∧∃ H',Own w0 H' w'∧H'=H):JQ w0 (dQ P fn w0 f2 K fv) .normal L [dCall f2 cap] H:=fun b w hO=>⟨cap,rfl,(hc w hO).mono fun e u w' ⟨v,he,hu,H',hO',hH⟩=>⟨v,he,hu,by
 subst hH;exact⟨_,hK.choose,Fr hr hres hO',hO'.sub hK.choose_spec.2,hK.choose_spec.1⟩⟩⟩
theorem dq_panic {KK:List (Nat × Obj)→Prop}(hr:fn.results=rs.toArray)(hK:∀ H',KK H'→ResV P w0 L H' rs vs∧∃ H'',K (resOf vs) H''∧H''.Sublist H')(hc:∀ w,Own w0 H w→CallsD P f2 cap.toArray (.panicking [{v:=fv,recovered:=false}]) w fun e u'' w'=>∃ u9,e= .returned u9∧u''= .panicking [{v:=fv,recovered:=true}]∧∃ H',Own w0 H' w'∧KK H'):JQ w0 (dQ P fn w0 f2 K fv) (.panic [{v:=fv,recovered:=false}]) L [dCall f2 cap] H:=fun b w hO=>⟨cap,rfl,rfl,(hc w hO).mono fun e u w' ⟨v,he,hu,H',hO',hH⟩=>⟨v,he,hu,by
 obtain⟨h1,h2⟩:=hK H' hH;exact⟨_,h2.choose,Fr hr h1 hO',hO'.sub h2.choose_spec.2,h2.choose_spec.1⟩⟩⟩
end
theorem sm_cut {D:Sd}{v:Sv}{ns0 m:Ns}{es:List MapEntry}{R:List (Nat × Obj)}:((D.p,Cl [.slice D.qf D.nf D.cf, .slice D.qb D.bs.length D.cb,slV v.d ns0.length, .map (some D.m), .int .i64 D.most] 92)::(slH v.d ((ns0++m).flatMap encNd) 97++((D.m, .map es.toArray v.c)::R)))=SM D ⟨cutS v.d (m.flatMap encNd),es,v.c⟩ ns0++R:=by
 unfold SM;rw[List.flatMap_append,slH_cut];simp only[sdC,slV_cut,List.cons_append,List.append_assoc,List.nil_append]
theorem try_x {w0:World}{D:Sd}{v:Sv}{ns:Ns}{M0 R:List (Nat × Obj)}(hst:StOk D v ns)(hM:(SM D v ns).Sublist M0){g:FuncId}{cap:List Value}{F:Option (Nat × Ns)}(hcg:∀ args w,(callFunc g args).run Tryz.prog w= .ok (.enter g args) w)
  (hG:∀ R',R.Sublist R'→FSpecP Tryz.prog w0 g ([]++cap).toArray (M0++R') (OpK D F R') (.iface 148 (.agg #[])) (OpB D F ns R')):
  FSpec Tryz.prog w0 48 #[.pointer (some ⟨D.p,0,none⟩), .func (.func g) #[] cap.toArray] (M0++R) (TryK D F ns R):=by
 refine fn_specD (fv:=(.iface 148 (.agg #[]))) Tryz.func48 U ntmps48 U call94 (rD tb 2 U (e_ (Kw U cs_) ?_ U));rintro _ _ ⟨n2,rfl,rfl⟩;refine e_ (Al zeroValue3 cs_) ?_ U;rintro _ _ ⟨n4,rfl,rfl⟩;refine e_ (Al zeroValue36 cs_) ?_ U;rintro _ _ ⟨n5,rfl,rfl⟩;refine rO tb 4 U (y_ (Kr U isAgg34 (by first|exact c_o)) ?_ U);refine rO tb 2 U ?_;refine y_ (Kr U isAgg90 (by first|exact c_o|exact B7 (List.Sublist.trans hM (by repeat (first|exact List.sublist_append_left _ _|refine List.Sublist.cons _ ?_))) U)) ?_ U;refine rO tb 1 U (e_ (Al zeroValue3 cs_) ?_ U);rintro _ _ ⟨n6,rfl,rfl⟩
 first|refine A6 (Kv U U sizeOf3) U Ae ?_|refine A6 (Bz (T U) (T U) U sizeOf3) U Ae ?_|refine A6 (Bj (T U) (T U) U sizeOf3) U Ae ?_
 rintro _ _ ⟨rfl,rfl⟩;refine rO tb 4 U (y_ (B9 (.cons (T U) (.cons (T U) (.cons (T U) (.cons (T U) .nil))))) (jl_defer (T U) (rO tb 5 U ?_)) U);refine p_ (C7 (cap:=cap) (T rfl) .nil hcg (Bc (M:=M0) (hG ((n6,Cl [.int .i64 (ns.length:Nat)] 3)::(n5,Cl [.int .i64 0] 36)::(n4,Cl [.int .i64 0] 3)::(n2,Cl [.pointer (some ⟨D.p,0,none⟩)] 34)::R) (by exact sbt)) (by repeat (first|exact Bw|exact LocL.h|apply LocL.t|apply LocL.a)))) ?_ (by rintro _ ⟨⟨v1,ns1⟩,⟨e1,g1,hst1⟩,rfl⟩;obtain⟨m,hm⟩:=g1.p;simp only at hm;subst hm;(repeat refine Ca ?_);refine dq_panic (cap:=tryCap n2 n6 n4 n5) (vs:=[.int .i64 0, .int .i64 12]) rfl ?_ fun w hO=>tryP_s (R:=R) hst1 hst.w n2 n6 n4 n5 0 0 (by rw[G2] at hO;exact hO);rintro H2 ⟨es,he,rfl⟩;exact⟨.cell (Aa rfl) isAgg3 qco (.cell (Aa rfl) isAgg36 qco .nil),_,⟨(0,12,_,ns),⟨rfl, .inr ⟨e1,rfl,rfl,rfl⟩,st_cut hst1 hst.w he⟩,rfl⟩,by rw[← sm_cut];exact sbt⟩) rfl;rintro _ _ ⟨⟨id,v1,ns1⟩,⟨rfl,e1,hst1⟩,rfl⟩
 dsimp only at e1 hst1
 first|refine A6 (Kv U U sizeOf3) U Ae ?_|refine A6 (Bz (T U) (T U) U sizeOf3) U Ae ?_|refine A6 (Bj (T U) (T U) U sizeOf3) U Ae ?_
 rintro _ _ ⟨rfl,rfl⟩
 first|refine A6 (Au (T U) Aj sizeOf36) U Ae ?_|refine A6 (Bz (T U) Aj U sizeOf36) U Ae ?_|refine A6 (Bj (T U) Aj U sizeOf36) U Ae ?_
 rintro _ _ ⟨rfl,rfl⟩;refine rO tb 3 U ?_;refine dq_end (fv:=(.iface 148 (.agg #[]))) (cap:=tryCap n2 n6 n4 n5) (vs:=[.int .i64 (id:Nat), .int .i64 0]) U (.cell (Aa U) isAgg3 qco (.cell (Aa U) isAgg36 qco .nil)) ⟨_,⟨(id,0,v1,ns1),⟨rfl, .inl ⟨e1,rfl⟩,hst1⟩,rfl⟩,by exact sbt⟩ fun w hO=>tryR_s n2 n6 n4 n5 hO
theorem try_s {w0:World}{D:Sd}{v:Sv}{ns:Ns}{R:List (Nat × Obj)}(hst:StOk D v ns){g:FuncId}{cap:List Value}{F:Option (Nat × Ns)}(hcg:∀ args w,(callFunc g args).run Tryz.prog w= .ok (.enter g args) w)
  (hG:∀ R',R.Sublist R'→FSpecP Tryz.prog w0 g ([]++cap).toArray (SM D v ns++R') (OpK D F R') (.iface 148 (.agg #[])) (OpB D F ns R')):
  FSpec Tryz.prog w0 48 #[.pointer (some ⟨D.p,0,none⟩), .func (.func g) #[] cap.toArray] (SM D v ns++R) (TryK D F ns R):=try_x hst (List.Sublist.refl _) hcg hG
theorem policy_sC {w0:World}{D:Sd}{v:Sv}{ns:Ns}{R:List (Nat × Obj)}(hst:StOk D v ns){fl:List Fd}(hE:En w0 R D fl)(m:Pom)(p:Po)(hI:IsO fl m p)(hF:p.Fit D.bs)(hM:PoM w0 R m)(tick:Int)(b0:Nat)(f0:Fnd R b0 (Cl [.pointer (some ⟨D.p,0,none⟩)] 34))(b1:Nat)(f1:Fnd R b1 (Cl [.int .i64 m.kind, .int .i64 m.pr.kind, .string m.pr.nm, .int .i64 m.pr.val, .int .i64 m.pr.to, .slice m.pr.q m.pr.subs.length m.pr.cap, .string m.nm, .int .i64 m.n, .slice m.q m.subs.length m.cap] 28))(b2:Nat)(f2:Fnd R b2 (Cl [.int .i64 tick] 3))  :
  FSpecP Tryz.prog w0 49 #[.pointer (some ⟨b0,0,none⟩), .pointer (some ⟨b1,0,none⟩), .pointer (some ⟨b2,0,none⟩)] (SM D v ns++R) (OpK D (polF D.most.toNat D.bs tick (rdN D.bs) p ns) R) (.iface 148 (.agg #[])) (OpB D (polF D.most.toNat D.bs tick (rdN D.bs) p ns) ns R):=by
 refine Bv Tryz.func49 U ntmps49 U (rD tb 7 U (y_ (Kr U isAgg34 (by first|exact c_o|exact Ah (Fnd.mono f0 (List.sublist_append_right _ _)) 0 _ U)) ?_ U));refine y_ (Ks U isAgg28 sizeOf28 U (by first|exact Ah (Fnd.mono f1 (List.sublist_append_right _ _))|exact Av)) ?_ U;refine y_ (Kr U isAgg3 (by first|exact c_o|exact Ah (Fnd.mono f2 (List.sublist_append_right _ _)) 0 _ U)) ?_ U;refine p_ (A5 (.cons (T rfl) (.cons (T rfl) (.cons (T rfl) .nil))) call50 (pol_s p hE hI hF hM hst)) ?_ (by rintro _ ⟨⟨v1,ns1⟩,⟨e1,g1,hst1⟩,rfl⟩;(repeat (first|refine Ca ?_|refine Bu ?_));exact Bo ⟨(v1,ns1),⟨e1,g1,hst1⟩,rfl⟩ (by exact sbt)) rfl;rintro _ _ ⟨⟨r1,v1,ns1⟩,⟨rfl,e1,hst1⟩,rfl⟩
 dsimp only at e1 hst1
 refine rO tb 4 U (By U (Kq U) ?_);exact⟨_,⟨(r1,v1,ns1),⟨rfl,e1,hst1⟩,rfl⟩,by exact sbt⟩
theorem Hn {w0:World}{D:Sd}{v:Sv}{ns:Ns}{R:List (Nat × Obj)}(hst:StOk D v ns){fl:List Fd}(hE:En w0 R D fl)(m:Pom)(p:Po)(hI:IsO fl m p)(hF:p.Fit D.bs)(hM:PoM w0 R m)(tick:Int)  :
  FSpec Tryz.prog w0 14 #[.pointer (some ⟨D.p,0,none⟩), .agg (encPo m).toArray, .int .i64 tick] (SM D v ns++R) (TryK D (polF D.most.toNat D.bs tick (rdN D.bs) p ns) ns R):=by
 refine An Tryz.func14 U ntmps14 U (rD tb 2 U (e_ (Kw U cs_) ?_ U));rintro _ _ ⟨n3,rfl,rfl⟩;refine e_ (Kw U cs_) ?_ U;rintro _ _ ⟨n4,rfl,rfl⟩;refine e_ (Kw U cs_) ?_ U;rintro _ _ ⟨n5,rfl,rfl⟩;refine rO tb 6 U (y_ (Kr U isAgg34 (by first|exact c_o)) ?_ U);refine y_ (B9 (.cons (T U) (.cons (T U) (.cons (T U) .nil)))) (e_ (Ar (qe2 U U) call48 (B3 (M:=SM D v ns) (try_s (R:=((n5,Cl [.int .i64 tick] 3)::(n4,Cl [.int .i64 m.kind, .int .i64 m.pr.kind, .string m.pr.nm, .int .i64 m.pr.val, .int .i64 m.pr.to, .slice m.pr.q m.pr.subs.length m.pr.cap, .string m.nm, .int .i64 m.n, .slice m.q m.subs.length m.cap] 28)::(n3,Cl [.pointer (some ⟨D.p,0,none⟩)] 34)::R)) hst call49 (fun R9 hs9=>policy_sC hst (hE.mono (List.Sublist.trans (by exact sbt) hs9)) m p hI hF (hM.mono (List.Sublist.trans (by exact sbt) hs9)) tick n3 (Fnd.mono (H:=((n5,Cl [.int .i64 tick] 3)::(n4,Cl [.int .i64 m.kind, .int .i64 m.pr.kind, .string m.pr.nm, .int .i64 m.pr.val, .int .i64 m.pr.to, .slice m.pr.q m.pr.subs.length m.pr.cap, .string m.nm, .int .i64 m.n, .slice m.q m.subs.length m.cap] 28)::(n3,Cl [.pointer (some ⟨D.p,0,none⟩)] 34)::R)) (by exact Ax (Ax (As))) hs9) n4 (Fnd.mono (H:=((n5,Cl [.int .i64 tick] 3)::(n4,Cl [.int .i64 m.kind, .int .i64 m.pr.kind, .string m.pr.nm, .int .i64 m.pr.val, .int .i64 m.pr.to, .slice m.pr.q m.pr.subs.length m.pr.cap, .string m.nm, .int .i64 m.n, .slice m.q m.subs.length m.cap] 28)::(n3,Cl [.pointer (some ⟨D.p,0,none⟩)] 34)::R)) (by exact Ax (As)) hs9) n5 (Fnd.mono (H:=((n5,Cl [.int .i64 tick] 3)::(n4,Cl [.int .i64 m.kind, .int .i64 m.pr.kind, .string m.pr.nm, .int .i64 m.pr.val, .int .i64 m.pr.to, .slice m.pr.q m.pr.subs.length m.pr.cap, .string m.nm, .int .i64 m.n, .slice m.q m.subs.length m.cap] 28)::(n3,Cl [.pointer (some ⟨D.p,0,none⟩)] 34)::R)) (by exact As) hs9))) (by repeat (first|exact Bw|exact LocL.h|apply LocL.t|apply LocL.a)))) ?_ U) U;rintro _ _ ⟨⟨id,ee,v1,ns1⟩,⟨rfl,hc,hst1⟩,rfl⟩
 dsimp only at hc hst1
 refine rO tb 7 U (Ai U (.tmp (Aa U) (Kq U)) ?_);exact⟨_,⟨(id,ee,v1,ns1),⟨rfl,hc,hst1⟩,rfl⟩,by exact sbt⟩
theorem keyN {V:Type}:KeyOk (V:=V) Tryz.prog 3 encNI:=keyOk_now runUnderlying3 (fun b k w=>by cases b<;>kernel_rfl) (fun k k'=>by
 by_cases h:k=k'
 ·subst h;simp[Instr.sameNow]
 ·have h2: ¬ k'=k:=fun e=>h e.symm
  have h3: ¬ (k:Int)=(k':Int):=by omega
  simp[Instr.sameNow,h,h2,h3]) (fun k=>by simp[Instr.sameBits])
def pd0:Pdm:= .mk 0 ⟨#[]⟩ 0 0 none 0 []
theorem Ho {w0:World}{H:List (Nat × Obj)}:PdM w0 H pd0:= .mk (fun i u hi=>by simp at hi) (fun a ha=>by simp at ha)
theorem F9 {w0:World}{H:List (Nat × Obj)}{k n:Int}{pm:Pdm}{s:ByteArray}(h:PdM w0 H pm):PoM w0 H (.mk k pm s n none 0 []):= .mk h (fun i u hi=>by simp at hi) (fun a ha=>by simp at ha)
theorem spec_perm {P:Program}{w0:World}{f:FuncId}{args:Array Value}{H M:List (Nat × Obj)}{K:Value→List (Nat × Obj)→Prop}(h:FSpec P w0 f args M K)(hp:H.Perm M):FSpec P w0 f args H K:=fun w hO=>h w (B0 hO hp)
theorem zbd28_0_1 (a0:Int)(a1:Int)(a2:ByteArray)(a3:Int)(a4:Int)(a5:Option Addr)(a5n a5c:Nat)(w:World):(Instr.build 28 #[(0, .int .i64 a0),(1, .agg #[.int .i64 a1, .string a2, .int .i64 a3, .int .i64 a4, .slice a5 a5n a5c])]).run Tryz.prog w= .ok (.agg #[.int .i64 a0, .int .i64 a1, .string a2, .int .i64 a3, .int .i64 a4, .slice a5 a5n a5c, .string ⟨#[]⟩, .int .i64 0, .slice none 0 0]) w:=by kernel_rfl
theorem zbd28_0_2_3 (a0:Int)(a1:ByteArray)(a2:Int)(w:World):(Instr.build 28 #[(0, .int .i64 a0),(2, .string a1),(3, .int .i64 a2)]).run Tryz.prog w= .ok (.agg #[.int .i64 a0, .int .i64 0, .string ⟨#[]⟩, .int .i64 0, .int .i64 0, .slice none 0 0, .string a1, .int .i64 a2, .slice none 0 0]) w:=by kernel_rfl
theorem setm_s {w0:World}{D:Sd}{v:Sv}{ns:Ns}{R:List (Nat × Obj)}(hst:StOk D v ns){fl:List Fd}(hE:En w0 R D fl)(nm:ByteArray)(n:Nat)(hF:Po.Fit D.bs (.set (fndFd fl nm).1 n)):
  FSpec Tryz.prog w0 38 #[.pointer (some ⟨D.p,0,none⟩), .string nm, .int .i64 (n:Nat)] (SM D v ns++R) (TryK D (polF D.most.toNat D.bs 0 (rdN D.bs) (.set (fndFd fl nm).1 n) ns) ns R):=by
 refine An Tryz.func38 U ntmps38 U (rD tb 11 U (y_ (A8 (.cons Aj (.cons (T U) (.cons (T U) .nil))) (zbd28_0_2_3 _ _ _)) (e_ (Ar (.cons (T U) (.cons (T U) (.cons Aj .nil))) call14 (Hn hst hE (.mk 2 pd0 nm (n:Nat) none 0 []) (.set (fndFd fl nm).1 n) (.set U U) hF (F9 Ho) 0)) ?_ U) U));rintro _ _ ⟨⟨id,ee,v1,ns1⟩,⟨rfl,hc,hst1⟩,rfl⟩
 dsimp only at hc hst1
 refine rO tb 7 U (Ai U (.tmp (Aa U) (Kq U)) ?_);exact⟨_,⟨(id,ee,v1,ns1),⟨rfl,hc,hst1⟩,rfl⟩,by exact sbt⟩
theorem filterm_s {w0:World}{D:Sd}{v:Sv}{ns:Ns}{R:List (Nat × Obj)}(hst:StOk D v ns){fl:List Fd}(hE:En w0 R D fl)(pm:Pdm)(p:Pd)(hI:IsP fl pm p)(hF:Po.Fit D.bs (.fil p))(hM:PdM w0 R pm)(tick:Int):
  FSpec Tryz.prog w0 39 #[.pointer (some ⟨D.p,0,none⟩), .agg (encPd pm).toArray, .int .i64 tick] (SM D v ns++R) (TryK D (polF D.most.toNat D.bs tick (rdN D.bs) (.fil p) ns) ns R):=by
 refine An Tryz.func39 U ntmps39 U (rD tb 2 U (e_ (Kw U cs_) ?_ U));rintro _ _ ⟨n4,rfl,rfl⟩;refine rO tb 7 U (y_ (Ks U isAgg25 sizeOf25 U (by first|exact Av)) ?_ U);refine y_ (A8 (.cons Aj (.cons (T U) .nil)) (zbd28_0_1 _ _ _ _ _ _ _ _)) (rO tb 1 U (e_ (Ar (qe3 U U U) call14 (B3 (M:=SM D v ns) (Hn (R:=(n4,Cl (encPd pm) 25)::R) hst (hE.mono (by exact sbt)) (.mk 1 pm ⟨#[]⟩ 0 none 0 []) (.fil p) (.fil U hI) hF (F9 (hM.mono (by exact sbt))) tick) (by repeat (first|exact Bw|exact LocL.h|apply LocL.t|apply LocL.a)))) ?_ U)) U;rintro _ _ ⟨⟨id,ee,v1,ns1⟩,⟨rfl,hc,hst1⟩,rfl⟩
 dsimp only at hc hst1
 refine rO tb 7 U (Ai U (.tmp (Aa U) (Kq U)) ?_);exact⟨_,⟨(id,ee,v1,ns1),⟨rfl,hc,hst1⟩,rfl⟩,by exact sbt⟩
abbrev encBl (b:Bool):Value:= .bool b
structure KgOk (ns:Ns) (x:Nat→Bool) (kn:List (Nat × Bool)):Prop where
 k0:look kn 0=some false
 k1:look kn 1=some true
 ok:∀ a b,look kn a=some b→a<ns.length∧b=gvF ns x a
theorem kg_0 {N:Nat}{ns:Ns}(hw:Wf N ns)(x:Nat→Bool):KgOk ns x [(0,false),(1,true)]:=⟨rfl,rfl,fun a b e=>by
 have:=hw.two;rw[C9] at e
 split at e
 ·rename_i h;subst h;cases e;exact⟨by omega,rfl⟩
 ·rw[C9] at e
  split at e
  ·rename_i h;subst h;cases e;exact⟨by omega,rfl⟩
  ·cases e⟩
theorem KgOk.put {ns:Ns}{x:Nat→Bool}{kn:List (Nat × Bool)}(h:KgOk ns x kn){a:Nat}(h2:2≤a)(ha:a<ns.length){b:Bool}(hb:b=gvF ns x a):KgOk ns x (upsert kn a b):=⟨by rw[Da,if_neg qom];exact h.k0,by rw[Da,if_neg qom];exact h.k1,fun c d e=>by
 rw[Da] at e
 split at e
 ·rename_i h3;subst h3;cases e;exact⟨ha,hb⟩
 ·exact h.ok c d e⟩
structure Gv where
 R:List (Nat × Obj)
 b1:Nat
 b2:Nat
 b3:Nat
 b4:Nat
 mp:Nat
abbrev Gv.cap (A:Gv):List Value:=[.pointer (some ⟨A.b1,0,none⟩), .pointer (some ⟨A.b2,0,none⟩), .pointer (some ⟨A.b3,0,none⟩), .pointer (some ⟨A.b4,0,none⟩)]
structure GvOk (D:Sd) (h:Hd) (A:Gv):Prop where
 f1:Fnd A.R A.b1 (Cl [.map (some A.mp)] 162)
 f2:Fnd A.R A.b2 (Cl [.pointer (some ⟨D.p,0,none⟩)] 34)
 f3:Fnd A.R A.b3 (Cl [.func (.func 107) #[] A.cap.toArray] 120)
 f4:Fnd A.R A.b4 (Cl (hdC h) 30)
def GvS (D:Sd) (h:Hd) (A:Gv) (v:Sv) (ns:Ns) (k:Nat) (w0:World):Prop:=∀ {R:List (Nat × Obj)} {kn:List (Nat × Bool)} {a:Nat},A.R.Sublist R→(SM D v ns).Sublist R→Arr w0 R D.qb 1 encB1 D.bs→KgOk ns (xh D.bs h) kn→a<ns.length→a<k→
 FSpec Tryz.prog w0 107 (.int .i64 (a:Nat)::A.cap).toArray ((A.mp,mapO encNI encBl kn)::R) (fun u H'=>∃ kn',(u= .bool (gvF ns (xh D.bs h) a)∧KgOk ns (xh D.bs h) kn')∧H'=(A.mp,mapO encNI encBl kn')::R)
theorem gv_step {w0:World}{D:Sd}{h:Hd}(hh:HdOk h){A:Gv}(hO:GvOk D h A){v:Sv}{ns:Ns}(hst:StOk D v ns)(hbs:BsOk D.bs){k:Nat}(ih:GvS D h A v ns k w0){R:List (Nat × Obj)}{kn:List (Nat × Bool)}{a:Nat}(hR:A.R.Sublist R)(hS:(SM D v ns).Sublist R)(hB:Arr w0 R D.qb 1 encB1 D.bs)(hk:KgOk ns (xh D.bs h) kn)(ha:a<ns.length)(hak:a<k+1):
  FSpec Tryz.prog w0 107 #[.int .i64 (a:Nat), .pointer (some ⟨A.b1,0,none⟩), .pointer (some ⟨A.b2,0,none⟩), .pointer (some ⟨A.b3,0,none⟩), .pointer (some ⟨A.b4,0,none⟩)] ((A.mp,mapO encNI encBl kn)::R) (fun u H'=>∃ kn',(u= .bool (gvF ns (xh D.bs h) a)∧KgOk ns (xh D.bs h) kn')∧H'=(A.mp,mapO encNI encBl kn')::R):=by
 refine An Tryz.func107 U ntmps107 U ?_;have hw:=hst.w;have hbl:=hst.bl;have hlN:=hw.lvN ha;refine rD tb 8 U (y_ (Kr U isAgg162 (by first|exact c_o|exact Ah (Fnd.mono hO.f1 (List.Sublist.trans hR (by exact sbt))) 0 _ U)) ?_ U);refine rO tb 1 U (y_ (yl_lookup2 (l:=kn) (k:=a) keyN (T U) (T U) U runUnderlying162 zeroValue4) (rO tb 12 U ?_) U)
 first|refine Ac (Aa U) (fun c17=> ?_) (fun c17=> ?_)|refine Ag (Aa U) (fun c17=> ?_) (fun c17=> ?_)
 ·obtain⟨x,hx⟩:=Option.isSome_iff_exists.1 c17;refine rC tb 8 U (Ai U (Kq U) ?_);exact⟨_,⟨kn,⟨by show resOf [((look kn a).map encBl).getD _]=_;rw[hx,(hk.ok _ _ hx).2];rfl,hk⟩,rfl⟩,by exact sbt⟩
 ·have hl:look kn a=none:=by simpa using c17
  have h2:2≤a:=Nat.le_of_not_lt fun h2=>by
   have:a=0∨a=1:=by omega
   rcases this with rfl|rfl
   ·rw[hk.k0] at hl;cases hl
   ·rw[hk.k1] at hl;cases hl
  obtain⟨c1,c2,c3⟩:=hw.lt a h2 ha;have hl2:lvl ns a / 2<D.bs.length:=by omega
  have hgv:=gv_nd (x:=xh D.bs h) hw h2 ha;refine rC tb 4 U (y_ (Kr U isAgg34 (by first|exact c_o|exact Ah (Fnd.mono hO.f2 (List.Sublist.trans hR (by exact sbt))) 0 _ U)) ?_ U);refine rO tb 2 U (y_ (Kr U isAgg90 (by first|exact c_o|exact B7 (List.Sublist.trans hS (by exact sbt)) U)) ?_ U);refine rO tb 1 U (y_ (Ku U U runUnderlying90 sizeOf97 qom (by first|exact rfl|exact(Cv (w0:=w0) hst).b (i:=a) ha|exact(hB (lvl ns a / 2) _ (B1 hl2)).1)) ?_ U);refine y_ (Ks U isAgg97 sizeOf97 U (by first|exact((Cv hst).mono (List.Sublist.trans hS (by exact sbt))).cs (i:=a) ha|exact Av)) ?_ U;refine e_ (Al zeroValue97 cs_) ?_ U;rintro _ _ ⟨n9,rfl,rfl⟩
  first|refine A6 (Kv U U sizeOf97) U Ae ?_
  rintro _ _ ⟨rfl,rfl⟩;refine rO tb 11 U (y_ (Kr U isAgg3 (by first|exact c_o)) ?_ U);refine y_ (Es (c:=2) (T U) Aj qom) ?_ U;refine rO tb 3 U ?_
  first|refine Ac (Aa U) (fun c29=> ?_) (fun c29=> ?_)|refine Ag (Aa U) (fun c29=> ?_) (fun c29=> ?_)
  ·have he:lvl ns a % 2=0:=by have h9:(((lvl ns a % 2:Nat):Nat):Int)=0:=c29;omega
   rw[if_pos he] at hgv;have hch:=ch_y (ns:=ns) (i:=a) (b:=xh D.bs h (lvl ns a / 2)) U;have hcl:ch ns a (lvl ns a) (xh D.bs h (lvl ns a / 2))<k:=by rw[hch];split<;>omega
   rw[← hch] at hgv;refine Bl 17 [(0,true),(1,true),(2,true),(3,true),(4,true),(5,true),(6,true),(7,true),(8,true),(9,true),(10,true),(11,true),(12,true),(13,true),(14,true),(15,true),(16,true)] ((n9,Cl (encNd (gd ns a)) 97)::R) mixd qkr (by exact sbt) ?_ Bp;refine o_y U (Kr U isAgg120 (by first|exact c_o|exact Ah (Fnd.mono hO.f3 (List.Sublist.trans hR (by exact sbt))) 0 _ U)) ?_ U Ae;refine o_y U (Kr U isAgg34 (by first|exact c_o|exact Ah (Fnd.mono hO.f2 (List.Sublist.trans hR (by exact sbt))) 0 _ U)) ?_ U Ae;refine rP tb 2 U (o_y U (Kr U isAgg3 (by first|exact c_o)) ?_ U Ae);refine o_y U (Ks U isAgg30 sizeOf30 (Aw hh) (by first|exact Ah (Fnd.mono hO.f4 (List.Sublist.trans hR (by exact sbt)))|exact Av)) ?_ U Ae;refine o_y U (Kr U isAgg34 (by first|exact c_o|exact Ah (Fnd.mono hO.f2 (List.Sublist.trans hR (by exact sbt))) 0 _ U)) ?_ U Ae;refine rP tb 2 U (o_y U (Kr U isAgg65 (by first|exact c_o|exact B7 (List.Sublist.trans hS (by exact sbt)) U)) ?_ U Ae);refine rP tb 1 U (o_y U (Kr U isAgg3 (by first|exact c_o)) ?_ U Ae);refine o_y U (yl_quo2 (T U) Aj (show lvl ns a≤_ by omega)) (o_y U (Ku U U runUnderlying65 sizeOf3 (by have h9:(gd ns a).1 / 2<D.bs.length:=hl2;omega) (by first|exact rfl|exact(Cv (w0:=w0) hst).b (i:=a) ha|exact(hB (lvl ns a / 2) _ (B1 hl2)).1)) ?_ U Ae) U Ae;refine o_y U (Kr U isAgg3 (by first|exact c_o|exact(hB.mono (by exact sbt)).cs (i:=lvl ns a / 2) hl2 0 _ U)) ?_ U Ae;refine o_y U (Ak (qe2 U U) call64 (fun H' hs=>Je h hh (gd D.bs (lvl ns a / 2)) (Cn hbs hl2))) (o_y U (Ak (qe4 U U U U) call52 (fun H' hs=>D3 (D:=D) (v:=v) (ns:=ns) (List.Sublist.trans (List.Sublist.trans hS (by exact sbt)) hs) hst a (lvl ns a) (xh D.bs h (lvl ns a / 2)) ha)) ?_ U Ae) U Ae;refine A7 U (e_ (Br (T U) (qe1 U) call107 (Ha (ih (R:=(n9,Cl (encNd (gd ns a)) 97)::R) (List.Sublist.trans hR (by exact sbt)) (List.Sublist.trans hS (by exact sbt)) (hB.mono (by exact sbt)) hk (a:=ch ns a (lvl ns a) (xh D.bs h (lvl ns a / 2))) (Bs hw ha _) qom))) ?_ U);rintro _ _ ⟨kn1,⟨rfl,k1⟩,rfl⟩;refine kO tb 3 [0,1,10] rfl U (rG tb 2 U (y_ (Kr U isAgg162 (by first|exact c_o|exact Ah (Fnd.mono hO.f1 (List.Sublist.trans hR (by exact sbt))) 0 _ U)) ?_ U));refine rO tb 2 U (e_ (Ce (l:=_) (encK:=encNI) (encV:=encBl) a _ keyN (T U) (T U) U (T U) U runUnderlying162) ?_ U);rintro _ _ ⟨rfl,rfl⟩;refine rO tb 9 U (Ai U (Kq U) ?_);exact⟨_,⟨_,⟨by rw[hgv];rfl,k1.put h2 ha hgv.symm⟩,rfl⟩,by exact sbt⟩
  ·have he: ¬ lvl ns a % 2=0:=fun h8=>c29 (show (((lvl ns a % 2:Nat):Nat):Int)=0 by omega)
   rw[if_neg he] at hgv;refine rC tb 1 U (y_ (Kr U isAgg120 (by first|exact c_o|exact Ah (Fnd.mono hO.f3 (List.Sublist.trans hR (by exact sbt))) 0 _ U)) ?_ U);refine rO tb 1 U (y_ (Kr U isAgg3 (by first|exact c_o)) ?_ U);refine e_ (Br (T U) (qe1 U) call107 (Ha (ih (R:=(n9,Cl (encNd (gd ns a)) 97)::R) (List.Sublist.trans hR (by exact sbt)) (List.Sublist.trans hS (by exact sbt)) (hB.mono (by exact sbt)) hk (a:=low ns a) (show low ns a<ns.length by omega) (show low ns a<k by omega)))) ?_ U;rintro _ _ ⟨kn1,⟨rfl,k1⟩,rfl⟩;refine rO tb 1 U ?_
   first|refine Am (s:=52) (Aa U) (fun c52=> ?_) (fun c52=> ?_)|refine A1 (s:=52) (Aa U) (fun c52=> ?_) (fun c52=> ?_)
   ·refine kO tb 8 [0,1,10] rfl U (rG tb 2 U (y_ (Kr U isAgg162 (by first|exact c_o|exact Ah (Fnd.mono hO.f1 (List.Sublist.trans hR (by exact sbt))) 0 _ U)) ?_ U));refine rO tb 2 U (e_ (Ce (l:=_) (encK:=encNI) (encV:=encBl) a _ keyN (T U) (T U) U (T U) U runUnderlying162) ?_ U);rintro _ _ ⟨rfl,rfl⟩;refine rO tb 9 U (Ai U (Kq U) ?_);exact⟨_,⟨_,⟨by rw[hgv,c52];rfl,k1.put h2 ha (b:=true) (by rw[hgv,c52];rfl)⟩,rfl⟩,by exact sbt⟩
   ·refine Az (Kr U isAgg120 (by first|exact c_o|exact Ah (Fnd.mono hO.f3 (List.Sublist.trans hR (by exact sbt))) 0 _ U)) U (A3 U U (Aa U)) ?_;refine rO tb 1 U (Az (Kr U isAgg3 (by first|exact c_o)) U (A3 U U (Aa U)) ?_);refine A6 (Br (T U) (qe1 U) call107 (Ha (ih (R:=(n9,Cl (encNd (gd ns a)) 97)::R) (List.Sublist.trans hR (by exact sbt)) (List.Sublist.trans hS (by exact sbt)) (hB.mono (by exact sbt)) k1 (a:=hig ns a) (show hig ns a<ns.length by omega) (show hig ns a<k by omega)))) U (A3 U U (Aa U)) ?_;rintro _ _ ⟨kn2,⟨rfl,k2⟩,rfl⟩;refine kO tb 4 [0,1,10] rfl U (rG tb 2 U (y_ (Kr U isAgg162 (by first|exact c_o|exact Ah (Fnd.mono hO.f1 (List.Sublist.trans hR (by exact sbt))) 0 _ U)) ?_ U));refine rO tb 2 U (e_ (Ce (l:=_) (encK:=encNI) (encV:=encBl) a _ keyN (T U) (T U) U (T U) U runUnderlying162) ?_ U);rintro _ _ ⟨rfl,rfl⟩;refine rO tb 9 U (Ai U (Kq U) ?_);exact⟨_,⟨_,⟨by rw[hgv,c52];rfl,k2.put h2 ha (b:=gvF ns (xh D.bs h) (hig ns a)) (by rw[hgv,c52];rfl)⟩,rfl⟩,by exact sbt⟩
theorem gv_s {D:Sd}{h:Hd}(hh:HdOk h){A:Gv}(hO:GvOk D h A){v:Sv}{ns:Ns}(hst:StOk D v ns)(hbs:BsOk D.bs){w0:World}(k:Nat):GvS D h A v ns k w0:=by
 induction k with
 |zero=>intro R kn a _ _ _ _ _ h;exact absurd h (Nat.not_lt_zero _)
 |succ k ih=>
  intro R kn a hR hS hB hk ha hak;exact gv_step hh hO hst hbs ih hR hS hB hk ha hak
theorem zbs42_1_0 (a0:Int)(a1:Int)(a2:Int)(a3:Int)(a4:Int)(a5:Int)(a6:Int)(a7:Int)(a8:Int)(a9:Int)(w:World):(Instr.buildSlice 42 1 #[(0, .agg #[.int .i64 a0, .int .i64 a1, .int .i64 a2, .int .i64 a3, .int .i64 a4, .int .i64 a5, .int .i64 a6, .int .i64 a7, .int .i64 a8, .int .i64 a9])]).run Tryz.prog w= .ok (.slice (some ⟨w.heap.size,0,none⟩) 1 1) (w.alloc (Cl [.int .i64 a0, .int .i64 a1, .int .i64 a2, .int .i64 a3, .int .i64 a4, .int .i64 a5, .int .i64 a6, .int .i64 a7, .int .i64 a8, .int .i64 a9] 30)):=by kernel_rfl
abbrev gvR (D:Sd) (h:Hd) (b1 b2 b3 b4 mp:Nat):List (Nat × Obj):=[(b3,Cl [.func (.func 107) #[] #[.pointer (some ⟨b1,0,none⟩), .pointer (some ⟨b2,0,none⟩), .pointer (some ⟨b3,0,none⟩), .pointer (some ⟨b4,0,none⟩)]] 120),(b1,Cl [.map (some mp)] 162),(b4,Cl (hdC h) 30),(b2,Cl [.pointer (some ⟨D.p,0,none⟩)] 34)]
theorem gv_ok {D:Sd}{h:Hd}{b1 b2 b3 b4 mp:Nat}{R:List (Nat × Obj)}(hs:(gvR D h b1 b2 b3 b4 mp).Sublist R):GvOk D h ⟨R,b1,b2,b3,b4,mp⟩:=
 ⟨Fnd.mono (Ax As) hs,Fnd.mono (Ax (Ax (Ax As))) hs,Fnd.mono As hs,Fnd.mono (Ax (Ax As)) hs⟩
abbrev encHd (h:Hd):List Value:=(List.range 10).map fun i=>encNI (gd h i)
theorem Dk {h:Hd}(hh:HdOk h):encHd h=hdC h:=by
 obtain⟨a,b,c,d,e,f,g,i,j,k,rfl⟩:=hd10 hh
 rfl
theorem De (h:Hd):(encHd h).length=10:=by simp
theorem Df (h:Hd):(encHd h).all oneB=true:=by simp[encHd,oneB]
theorem arr_hd {w0:World}{H:List (Nat × Obj)}{q:Option Addr}{l:List Hd}(h:Arr w0 H q 10 encHd l)(hl:∀ x∈l,HdOk x):Arr w0 H q 10 hdC l:=fun i u hi=>by
 have h1:=h i u hi;rw[Dk (hl u (List.mem_of_getElem? hi))] at h1;exact h1
theorem bs42 {h:Hd}(hh:HdOk h)(w:World):(Instr.buildSlice 42 1 #[(0, .agg (hdC h).toArray)]).run Tryz.prog w= .ok (.slice (some ⟨w.heap.size,0,none⟩) 1 1) (w.alloc (Cl (hdC h) 30)):=by
 obtain⟨a0,a1,a2,a3,a4,a5,a6,a7,a8,a9,rfl⟩:=hd10 hh;exact zbs42_1_0 _ _ _ _ _ _ _ _ _ _ w
abbrev GvN (D:Sd) (h:Hd) (H:List (Nat × Obj)):Value→List (Nat × Obj)→Prop:=fun u H'=>∃ b1 b2 b3 b4 mp:Nat,u= .func (.func 107) #[] #[.pointer (some ⟨b1,0,none⟩), .pointer (some ⟨b2,0,none⟩), .pointer (some ⟨b3,0,none⟩), .pointer (some ⟨b4,0,none⟩)]∧H'=(b3,Cl [.func (.func 107) #[] #[.pointer (some ⟨b1,0,none⟩), .pointer (some ⟨b2,0,none⟩), .pointer (some ⟨b3,0,none⟩), .pointer (some ⟨b4,0,none⟩)]] 120)::(b1,Cl [.map (some mp)] 162)::(mp,mapO encNI encBl [(0,false),(1,true)])::(b4,Cl (hdC h) 30)::(b2,Cl [.pointer (some ⟨D.p,0,none⟩)] 34)::H
theorem gives_s {w0:World}{H:List (Nat × Obj)}{D:Sd}(h:Hd):
  FSpec Tryz.prog w0 62 #[.pointer (some ⟨D.p,0,none⟩), .agg (hdC h).toArray] H (GvN D h H):=by
 refine An Tryz.func62 U ntmps62 U (rD tb 2 U (e_ (Kw U cs_) ?_ U));rintro _ _ ⟨n2,rfl,rfl⟩;refine e_ (Kw U cs_) ?_ U;rintro _ _ ⟨n3,rfl,rfl⟩;refine rO tb 5 U (e_ C8 ?_ U);rintro _ _ ⟨n7,rfl,rfl⟩;refine e_ (eff_insert (encK:=encNI) (encV:=encBl) (l:=([]:List (Nat × Bool))) 0 false keyN (T U) Aj U Aj U runUnderlying162) ?_ U;rintro _ _ ⟨rfl,rfl⟩;refine e_ (eff_insert (encK:=encNI) (encV:=encBl) (l:=[(0,false)]) 1 true keyN (T U) Aj U Aj U runUnderlying162) ?_ U;rintro _ _ ⟨rfl,rfl⟩;refine rO tb 1 U (e_ (Al zeroValue162 cs_) ?_ U);rintro _ _ ⟨n5,rfl,rfl⟩
 first|refine A6 (Kv U U sizeOf162) U Ae ?_|refine A6 (Bz (T U) (T U) U sizeOf162) U Ae ?_|refine A6 (Bj (T U) (T U) U sizeOf162) U Ae ?_
 rintro _ _ ⟨rfl,rfl⟩;refine rO tb 4 U (e_ (Al zeroValue120 cs_) ?_ U);rintro _ _ ⟨n6,rfl,rfl⟩;refine rO tb 4 U (y_ (B9 (.cons (T U) (.cons (T U) (.cons (T U) (.cons (T U) .nil))))) ?_ U)
 first|refine A6 (Kv U U sizeOf120) U Ae ?_|refine A6 (Bz (T U) (T U) U sizeOf120) U Ae ?_|refine A6 (Bj (T U) (T U) U sizeOf120) U Ae ?_
 rintro _ _ ⟨rfl,rfl⟩;refine rO tb 4 U (y_ (Kr U isAgg120 (by first|exact c_o)) ?_ U);refine rO tb 4 U (Ai U (Kq U) ?_);exact⟨_,⟨n5,n2,n6,n3,n7,rfl,rfl⟩,sbt⟩
theorem givesm_s {w0:World}{H:List (Nat × Obj)}{D:Sd}{v:Sv}{ns:Ns}{h:Hd}(hh:HdOk h)(hst:StOk D v ns)(hbs:BsOk D.bs)(hS:(SM D v ns).Sublist H)(hB:Arr w0 H D.qb 1 encB1 D.bs)(a:Nat)(ha:a<ns.length):
  FSpec Tryz.prog w0 34 #[.pointer (some ⟨D.p,0,none⟩), .int .i64 (a:Nat), .agg (hdC h).toArray] H (Still (.bool (gvF ns (xh D.bs h) a)) H):=by
 refine An Tryz.func34 U ntmps34 U (rD tb 2 U (e_ (Kw U cs_) ?_ U));rintro _ _ ⟨n5,rfl,rfl⟩;refine rO tb 6 U (y_ (Ks U isAgg30 sizeOf30 (Aw hh) (by first|exact Av)) ?_ U);refine e_ (Ar (qe2 U U) call62 (gives_s (D:=D) h)) ?_ U;rintro _ _ ⟨b1,b2,b3,b4,mp,rfl,rfl⟩;refine rO tb 1 U (e_ (Br (cap:=[.pointer (some ⟨b1,0,none⟩), .pointer (some ⟨b2,0,none⟩), .pointer (some ⟨b3,0,none⟩), .pointer (some ⟨b4,0,none⟩)]) (T U) (.cons (T U) .nil) call107 (Ha (gv_s hh (A:=⟨gvR D h b1 b2 b3 b4 mp,b1,b2,b3,b4,mp⟩) (gv_ok (List.Sublist.refl _)) hst hbs (a+1) (R:=gvR D h b1 b2 b3 b4 mp++((n5,Cl (hdC h) 30)::H)) (List.sublist_append_left _ _) (List.Sublist.trans hS ((List.sublist_cons_self _ _).trans (List.sublist_append_right _ _))) (hB.mono ((List.sublist_cons_self _ _).trans (List.sublist_append_right _ _))) (kg_0 hst.w _) ha (Nat.lt_succ_self a)))) ?_ U);rintro _ _ ⟨kn,⟨rfl,k1⟩,rfl⟩;refine rO tb 4 U (Ai U (Kq U) ?_);exact⟨_,⟨rfl,rfl⟩,sbt⟩
end Go.Proofs.YtkojjapnfdlddaaGreat
