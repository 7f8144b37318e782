/-
  A part of what LawB rests on: the logic, walks and plain laws. No condition.
-/
import Derived.Test.YtkojjapnfdlddaaGreatJb3
import Derived.KernelRfl
namespace Go.Proofs.YtkojjapnfdlddaaGreat
open _root_.Go.Proofs.Tryz
open Go.RowKit
set_option linter.unusedVariables false
set_option linter.unusedSimpArgs false
set_option linter.unusedSectionVars false
set_option maxRecDepth 100000
theorem zbd84_0_1 (a0:Int)(a1:Int)(w:World):(Instr.build 84 #[(0, .int .i64 a0),(1, .int .i64 a1)]).run Tryz.prog w= .ok (.agg #[.int .i64 a0, .int .i64 a1]) w:=by kernel_rfl
theorem Jq {w0:World}{H:List (Nat × Obj)}{n:Nat}{t:TypeId}{m:Pom}(h:Fnd H n (Cl (encPo m) t)):Cells w0 H n (0+1) (encPd m.pr):=po_pr (.int .i64 m.kind) m.pr [.string m.nm, .int .i64 m.n, .slice m.q m.subs.length m.cap] h
abbrev szV (a:Nat) (d:Int):Value:= .agg #[.int .i64 (a:Nat), .int .i64 d]
abbrev SzK (n b:Nat) (H:List (Nat × Obj)):Value→List (Nat × Obj)→Prop:=fun u H'=>∃ d:Int,(u=szV n d∧0≤d∧d≤b)∧H'=H
abbrev IntK (b:Nat) (H:List (Nat × Obj)):Value→List (Nat × Obj)→Prop:=fun u H'=>∃ n:Int,(u= .int .i64 n∧0≤n∧n≤b)∧H'=H
def SzPS (w0:World) (N:Nat):Prop:=∀ {H:List (Nat × Obj)} {m:Pdm},PdM w0 H m→m.sz≤N→FSpec Tryz.prog w0 81 #[.agg (encPd m).toArray] H (SzK m.sz m.sz H)
def SzOS (w0:World) (N:Nat):Prop:=∀ {H:List (Nat × Obj)} {m:Pom},PoM w0 H m→m.sz≤N→FSpec Tryz.prog w0 41 #[.agg (encPo m).toArray] H (SzK m.nd m.sz H)
def StS (w0:World) (N:Nat):Prop:=∀ {H:List (Nat × Obj)} {m:Pom},PoM w0 H m→m.sz≤N→FSpec Tryz.prog w0 42 #[.agg (encPo m).toArray] H (IntK m.sz H)
def PuS (w0:World) (N:Nat):Prop:=∀ {H:List (Nat × Obj)} {m:Pom},PoM w0 H m→m.sz≤N→FSpec Tryz.prog w0 83 #[.agg (encPo m).toArray] H (IntK m.sz H)
theorem yl_addL {P:Program}{w0:World}{L:Fm}{H:List (Nat × Obj)}{ty xt yt:TypeId}{x y:Operand}{a c:Nat}(hx:Ev L x (.int .i64 (a:Nat)))(hy:Ev L y (.int .i64 (c:Nat)))(h:a+c≤4000000000):Yl P w0 (.binOp .add xt x y yt) ty L H (.int .i64 ((a+c:Nat):Int)):=by
 have h:=Bf (P:=P) (w0:=w0) (H:=H) (ty:=ty) (xt:=xt) (yt:=yt) hx hy qom
 rwa [show (a:Int)+c=((a+c:Nat):Int) by omega] at h
theorem more_s {w0:World}{H:List (Nat × Obj)}(a c:Nat)(b d:Int)(h:a+c≤4000000000∧0≤b∧b≤4000000000∧0≤d∧d≤4000000000):
  FSpec Tryz.prog w0 82 #[szV a b,szV c d] H (Still (szV (a+c) (max b (d+1))) H):=by
 refine Ao Tryz.func82 U ntmps82 U (rD tb 2 U (e_ (Kg U cs_) ?_ U));rintro _ _ ⟨n2,rfl,rfl⟩;refine e_ (Kg U cs_) ?_ U;rintro _ _ ⟨n3,rfl,rfl⟩;refine e_ (Al zeroValue84 cs_) ?_ U;rintro _ _ ⟨n4,rfl,rfl⟩;refine rO tb 5 U (y_ (Ka U isAgg3 (by first|exact c_o)) ?_ U);refine rO tb 1 U (y_ (Ka U isAgg3 (by first|exact c_o)) ?_ U);refine y_ (yl_addL (T U) (T U) qom) ?_ U;refine rO tb 1 U (y_ (Ka U isAgg3 (by first|exact c_o)) ?_ U);refine rO tb 1 U (y_ (Ka U isAgg3 (by first|exact c_o)) ?_ U);refine y_ (Bf (T U) Aj qom) ?_ U;refine y_ (yl_max (T U) (T U)) (y_ (A2 (.cons (T U) (.cons (T U) .nil)) (zbd84_0_1 _ _)) ?_ U) U
 first|refine A1 (Kf U U sizeOf84) U Ad ?_
 rintro _ _ ⟨rfl,rfl⟩;refine rO tb 3 U (Ah U (.cellA (Aa U) isAgg84 sizeOf84 U (by first|exact Ax) .nil) ?_);exact⟨_,⟨rfl,rfl⟩,sbt⟩
theorem szP_step {w0:World}{H:List (Nat × Obj)}{N:Nat}(hN:N≤1000000000)(ih:SzPS w0 N){m:Pdm}(hM:PdM w0 H m)(hm:m.sz≤N+1):
  FSpec Tryz.prog w0 81 #[.agg (encPd m).toArray] H (SzK m.sz m.sz H):=by
 refine Ao Tryz.func81 U ntmps81 U ?_;have hsz:=Hh m;have hln:=szPL_len m.subs;refine rD tb 2 U (e_ (Kg U cs_) ?_ U);rintro _ _ ⟨n1,rfl,rfl⟩;refine e_ (Al zeroValue84 cs_) ?_ U;rintro _ _ ⟨n2,rfl,rfl⟩;refine rO tb 4 U (y_ (A2 (.cons Aj (.cons Aj .nil)) (zbd84_0_1 _ _)) (e_ (Al zeroValue84 cs_) ?_ U) U);rintro _ _ ⟨n3,rfl,rfl⟩
 first|refine A1 (Kf U U sizeOf84) U Ad ?_
 rintro _ _ ⟨rfl,rfl⟩;refine rO tb 9 U ?_;refine Bg (X:=Nat × Int) (V:=fun ⟨i,dd⟩=>[(4, .int .i64 (i:Nat))]) (C:=[(1,_),(2,_),(3,_)]) (G:=fun ⟨i,dd⟩=>(n3,Cl [.int .i64 ((1+szPL (m.subs.take i):Nat):Int), .int .i64 dd] 84)::(n2,Cl [.int .i64 0, .int .i64 0] 84)::(n1,Cl (encPd m) 25)::H) (φ:=fun ⟨i,dd⟩=>i≤m.subs.length∧0≤dd∧dd≤szPL m.subs+1) (μ:=fun ⟨i,dd⟩=>m.subs.length - i) (x0:=(0,1)) ?_ ⟨Aa rfl,Aa rfl,Aa rfl,trivial⟩ ⟨atd,trivial⟩ (by exact sbt) ?_
 ·exact⟨Nat.zero_le _,by omega,by omega⟩
 rintro⟨i,dd⟩ ⟨hi,hd1,hd2⟩;refine rD tb 5 U (y_ (Ka U isAgg23 (by first|exact c_o)) ?_ U);refine rO tb 4 U ?_
 first|refine Ac (Aa U) (fun c10=> ?_) (fun c10=> ?_)|refine Af (Aa U) (fun c10=> ?_) (fun c10=> ?_)
 ·have hi2:i<m.subs.length:=by have h9:((i:Nat):Int)<(m.subs.length:Nat):=c10;omega
  have htk:=szPL_take hi2;have hal:=szPL_all (l:=m.subs) (i+1);refine rC tb 4 U (Bm 8 [(0,true),(1,true),(2,true),(3,true),(4,true),(5,true),(6,false),(7,true)] ((n3,Cl [.int .i64 ((1+szPL (m.subs.take i):Nat):Int), .int .i64 dd] 84)::(n1,Cl (encPd m) 25)::H) mixd qkr (by exact sbt) ?_ Bz);refine o_y U (Kb U isAgg84 sizeOf84 U (by first|exact Ax)) ?_ U Ad;refine rP tb 1 U (o_y U (Ka U isAgg23 (by first|exact c_o)) ?_ U Ad);refine rP tb 1 U (o_y U (Ke U U runUnderlying23 sizeOf25 qom (by first|exact rfl|exact hM.arr.b (i:=i) hi2)) ?_ U Ad);refine o_y U (Kb U isAgg25 sizeOf25 U (by first|exact(hM.arr.mono (by exact sbt)).cs (i:=i) hi2|exact Ax)) ?_ U Ad;refine o_e U (An (qe1 U) call81 (ih ((hM.sub (Bj hi2)).mono (by exact sbt)) qom)) ?_ U Ad;rintro _ _ ⟨d1,⟨rfl,d2,d3⟩,rfl⟩;refine⟨sbt,(o_y U (Ak (qe2 U U) call82 (fun H' hs=>more_s _ _ _ _ qom)) ?_ U Ad)⟩;refine A9 U ?_
  first|refine A1 (Kf U U sizeOf84) U Ad ?_
  rintro _ _ ⟨rfl,rfl⟩;refine rO tb 5 U (y_ (Bf (T U) Aj qom) ?_ U);refine rO tb 2 U ?_;refine A4 ((i+1,max dd (d1+1))) ?_ ?_ ⟨atd,trivial⟩ ⟨Aa U,Aa U,Aa U,trivial⟩ ?_
  ·exact⟨hi2,by omega,by omega⟩
  ·first|omega|(simp only[];omega)
  ·dsimp only;rw[htk,← Nat.add_assoc];exact sbt
 ·obtain rfl:i=m.subs.length:=by have h9: ¬ ((i:Nat):Int)<(m.subs.length:Nat):=c10;omega
  have htl:m.subs.take m.subs.length=m.subs:=List.take_length;refine rC tb 2 U (As (rX tb 4 U (y_ (Kb U isAgg84 sizeOf84 U (by first|exact Ax)) ?_ U)))
  first|refine A1 (Kf U U sizeOf84) U Ad ?_
  rintro _ _ ⟨rfl,rfl⟩;refine rO tb 3 U (Ah U (.cellA (Aa U) isAgg84 sizeOf84 U (by first|exact Ax) .nil) ?_);exact⟨_,⟨dd,⟨by rw[hsz,htl,Nat.add_comm];rfl,hd1,by omega⟩,rfl⟩,sbt⟩
theorem szO_step {w0:World}{H:List (Nat × Obj)}{N:Nat}(hN:N≤1000000000)(ih:SzOS w0 N)(ihP:SzPS w0 N){m:Pom}(hM:PoM w0 H m)(hm:m.sz≤N+1):
  FSpec Tryz.prog w0 41 #[.agg (encPo m).toArray] H (SzK m.nd m.sz H):=by
 refine Ao Tryz.func41 U ntmps41 U ?_;have hsz:=Ef m;have hln:=Fx m.subs;have hnd:=nd_po m;have hns:=J1 m;refine rD tb 2 U (e_ (Kg U cs_) ?_ U);rintro _ _ ⟨n1,rfl,rfl⟩;refine e_ (Al zeroValue84 cs_) ?_ U;rintro _ _ ⟨n2,rfl,rfl⟩;refine rO tb 4 U (y_ (A2 (.cons Aj (.cons Aj .nil)) (zbd84_0_1 _ _)) (e_ (Al zeroValue84 cs_) ?_ U) U);rintro _ _ ⟨n3,rfl,rfl⟩
 first|refine A1 (Kf U U sizeOf84) U Ad ?_
 rintro _ _ ⟨rfl,rfl⟩;refine rO tb 2 U ?_;refine I7 (X:=Int) (V:=fun e0=>[]) (C:=[(1,_),(2,_),(3,_)]) (G:=fun e0=>(n3,Cl [.int .i64 ((1+(if m.kind=1 then m.pr.sz else 0):Nat):Int), .int .i64 e0] 84)::(n2,Cl [.int .i64 0, .int .i64 0] 84)::(n1,Cl (encPo m) 28)::H) (φ:=fun e0=>0≤e0∧e0≤m.pr.sz+1) ⟨Aa U,Aa U,Aa U,trivial⟩ ?_ ?_
 ·refine rD tb 3 U (y_ (Ka U isAgg3 (by first|exact c_o)) ?_ U);refine rO tb 3 U ?_
  first|refine Ac (Aa U) (fun c8=> ?_) (fun c8=> ?_)|refine Af (Aa U) (fun c8=> ?_) (fun c8=> ?_)
  ·refine Bm 5 [(0,true),(1,true),(2,true),(3,false),(4,true)] ((n3,Cl [.int .i64 1, .int .i64 1] 84)::(n2,Cl [.int .i64 0, .int .i64 0] 84)::(n1,Cl (encPo m) 28)::H) mixd qkr (by exact sbt) ?_ Bz;refine o_y U (Kb U isAgg84 sizeOf84 U (by first|exact Ax)) ?_ U Ad;refine rP tb 1 U ?_;refine o_y U (Kb U isAgg25 sizeOf25 U (by first|exact Jq (by repeat (first|exact Au|refine Ay ?_))|exact Ax)) ?_ U Ad;refine o_e U (An (qe1 U) call81 (ihP (hM.pred.mono (by exact sbt)) qom)) ?_ U Ad;rintro _ _ ⟨d0,⟨rfl,d5,d6⟩,rfl⟩;refine⟨sbt,(o_y U (Ak (qe2 U U) call82 (fun H' hs=>more_s 1 _ 1 _ qom)) ?_ U Ad)⟩;refine A9 U ?_
   first|refine A1 (Kf U U sizeOf84) U Ad ?_
   rintro _ _ ⟨rfl,rfl⟩;refine rO tb 1 U (A6 (max 1 (d0+1)) ?_ trivial ⟨Aa U,Aa U,Aa U,trivial⟩ (by first|(rw[if_pos (show m.kind=1 from c8)];exact sbt)|(rw[if_neg (show ¬ m.kind=1 from c8)];exact sbt)));exact⟨by omega,by omega⟩
  ·refine rC tb 1 U (A6 (1) ?_ trivial ⟨Aa U,Aa U,Aa U,trivial⟩ (by first|(rw[if_pos (show m.kind=1 from c8)];exact sbt)|(rw[if_neg (show ¬ m.kind=1 from c8)];exact sbt)));exact⟨by omega,by omega⟩
 rintro e0 ⟨he1,he2⟩;refine rC tb 7 U ?_;refine Bg (X:=Nat × Int) (V:=fun ⟨i,dd⟩=>[(4, .int .i64 (i:Nat))]) (C:=[(1,_),(2,_),(3,_)]) (G:=fun ⟨i,dd⟩=>(n3,Cl [.int .i64 ((1+(if m.kind=1 then m.pr.sz else 0)+ndOL (m.subs.take i):Nat):Int), .int .i64 dd] 84)::(n2,Cl [.int .i64 0, .int .i64 0] 84)::(n1,Cl (encPo m) 28)::H) (φ:=fun ⟨i,dd⟩=>i≤m.subs.length∧0≤dd∧dd≤szOL m.subs+m.pr.sz+1) (μ:=fun ⟨i,dd⟩=>m.subs.length - i) (x0:=(0,e0)) ?_ ⟨Aa rfl,Aa rfl,Aa rfl,trivial⟩ ⟨atd,trivial⟩ (by exact sbt) ?_
 ·exact⟨Nat.zero_le _,by omega,by omega⟩
 rintro⟨i,dd⟩ ⟨hi,hd1,hd2⟩;refine rD tb 5 U (y_ (Ka U isAgg26 (by first|exact c_o)) ?_ U);refine rO tb 4 U ?_
 first|refine Ac (Aa U) (fun c18=> ?_) (fun c18=> ?_)|refine Af (Aa U) (fun c18=> ?_) (fun c18=> ?_)
 ·have hi2:i<m.subs.length:=by have h9:((i:Nat):Int)<(m.subs.length:Nat):=c18;omega
  have htk:=ndOL_take hi2;have hss:=szOL_mem (Bj hi2);have hn1:=J1 (gd m.subs i);have hn2:ndOL (m.subs.take i)≤szOL m.subs:=Nat.le_trans (ndOL_sz _) (Fw i);have hn3:(if m.kind=1 then m.pr.sz else 0)≤m.pr.sz:=by split<;>omega
  refine rC tb 4 U (Bm 8 [(0,true),(1,true),(2,true),(3,true),(4,true),(5,true),(6,false),(7,true)] ((n3,Cl [.int .i64 ((1+(if m.kind=1 then m.pr.sz else 0)+ndOL (m.subs.take i):Nat):Int), .int .i64 dd] 84)::(n1,Cl (encPo m) 28)::H) mixd qkr (by exact sbt) ?_ Bz);refine o_y U (Kb U isAgg84 sizeOf84 U (by first|exact Ax)) ?_ U Ad;refine rP tb 1 U (o_y U (Ka U isAgg26 (by first|exact c_o)) ?_ U Ad);refine rP tb 1 U (o_y U (Ke U U runUnderlying26 sizeOf28 qom (by first|exact rfl|exact hM.arr.b (i:=i) hi2)) ?_ U Ad);refine o_y U (Kb U isAgg28 sizeOf28 U (by first|exact(hM.arr.mono (by exact sbt)).cs (i:=i) hi2|exact Ax)) ?_ U Ad;refine o_e U (An (qe1 U) call41 (ih ((hM.sub (Bj hi2)).mono (by exact sbt)) qom)) ?_ U Ad;rintro _ _ ⟨d1,⟨rfl,d2,d3⟩,rfl⟩;refine⟨sbt,(o_y U (Ak (qe2 U U) call82 (fun H' hs=>more_s _ _ _ _ qom)) ?_ U Ad)⟩;refine A9 U ?_
  first|refine A1 (Kf U U sizeOf84) U Ad ?_
  rintro _ _ ⟨rfl,rfl⟩;refine rO tb 5 U (y_ (Bf (T U) Aj qom) ?_ U);refine rO tb 2 U ?_;refine A4 ((i+1,max dd (d1+1))) ?_ ?_ ⟨atd,trivial⟩ ⟨Aa U,Aa U,Aa U,trivial⟩ ?_
  ·exact⟨hi2,by omega,by omega⟩
  ·first|omega|(simp only[];omega)
  ·dsimp only;rw[htk,← Nat.add_assoc];exact sbt
 ·obtain rfl:i=m.subs.length:=by have h9: ¬ ((i:Nat):Int)<(m.subs.length:Nat):=c18;omega
  have htl:m.subs.take m.subs.length=m.subs:=List.take_length;refine rC tb 2 U (As (rX tb 4 U (y_ (Kb U isAgg84 sizeOf84 U (by first|exact Ax)) ?_ U)))
  first|refine A1 (Kf U U sizeOf84) U Ad ?_
  rintro _ _ ⟨rfl,rfl⟩;refine rO tb 3 U (Ah U (.cellA (Aa U) isAgg84 sizeOf84 U (by first|exact Ax) .nil) ?_);exact⟨_,⟨dd,⟨by rw[hnd,htl];rfl,hd1,by omega⟩,rfl⟩,sbt⟩
theorem st_step {w0:World}{H:List (Nat × Obj)}{N:Nat}(hN:N≤1000000000)(ih:StS w0 N){m:Pom}(hM:PoM w0 H m)(hm:m.sz≤N+1):
  FSpec Tryz.prog w0 42 #[.agg (encPo m).toArray] H (IntK m.sz H):=by
 refine Ao Tryz.func42 U ntmps42 U ?_;have hsz:=Ef m;have hln:=Fx m.subs;refine rD tb 2 U (e_ (Kg U cs_) ?_ U);rintro _ _ ⟨n1,rfl,rfl⟩;refine rO tb 15 U ?_;refine Bg (X:=Nat × Int) (V:=fun ⟨i,s⟩=>[(3, .int .i64 s),(4, .int .i64 (i:Nat))]) (C:=[(1,_)]) (G:=fun ⟨i,s⟩=>(n1,Cl (encPo m) 28)::H) (φ:=fun ⟨i,s⟩=>i≤m.subs.length∧0≤s∧s≤szOL m.subs) (μ:=fun ⟨i,s⟩=>m.subs.length - i) (x0:=(0,0)) ?_ ⟨Aa rfl,trivial⟩ ⟨atd,atd,trivial⟩ sb0 ?_
 ·exact⟨Nat.zero_le _,by omega,by omega⟩
 rintro⟨i,s⟩ ⟨hi,hs1,hs2⟩;refine rD tb 5 U (y_ (Ka U isAgg26 (by first|exact c_o)) ?_ U);refine rO tb 4 U ?_
 first|refine Ac (Aa U) (fun c9=> ?_) (fun c9=> ?_)|refine Af (Aa U) (fun c9=> ?_) (fun c9=> ?_)
 ·have hi2:i<m.subs.length:=by have h9:((i:Nat):Int)<(m.subs.length:Nat):=c9;omega
  have htk:=szOL_take hi2;have hal:=Fw (l:=m.subs) (i+1);refine rC tb 7 U (y_ (Ka U isAgg26 (by first|exact c_o)) ?_ U);refine rO tb 1 U (y_ (Ke U U runUnderlying26 sizeOf28 qom (by first|exact rfl|exact hM.arr.b (i:=i) hi2)) ?_ U);refine y_ (Kb U isAgg28 sizeOf28 U (by first|exact(hM.arr.mono (by exact sbt)).cs (i:=i) hi2|exact Ax)) ?_ U;refine e_ (An (qe1 U) call42 (ih ((hM.sub (Bj hi2)).mono (by exact sbt)) qom)) ?_ U;rintro _ _ ⟨d1,⟨rfl,d2,d3⟩,rfl⟩;refine y_ (yl_max (T U) (T U)) (rO tb 6 U (y_ (Bf (T U) Aj qom) ?_ U)) U;refine rO tb 2 U ?_;refine A4 ((i+1,max s d1)) ?_ ?_ ⟨atd,atd,trivial⟩ ⟨Aa U,trivial⟩ ?_
  ·exact⟨hi2,by omega,by omega⟩
  ·first|omega|(simp only[];omega)
  ·exact sbt
 ·obtain rfl:i=m.subs.length:=by have h9: ¬ ((i:Nat):Int)<(m.subs.length:Nat):=c9;omega
  have htl:m.subs.take m.subs.length=m.subs:=List.take_length;refine rC tb 2 U (As (rX tb 6 U (y_ (Ka U isAgg3 (by first|exact c_o)) ?_ U)));refine rO tb 3 U ?_
  first|refine Ac (Aa U) (fun c22=> ?_) (fun c22=> ?_)|refine Af (Aa U) (fun c22=> ?_) (fun c22=> ?_)
  ·refine rC tb 2 U (y_ (Bf (T U) Aj qom) ?_ U);refine rO tb 10 U (Ah U (J9 U) ?_);exact⟨_,⟨_,⟨rfl,by omega,by omega⟩,rfl⟩,sbt⟩
  ·refine rC tb 9 U (Ah U (J9 U) ?_);exact⟨_,⟨_,⟨rfl,by omega,by omega⟩,rfl⟩,sbt⟩
theorem pu_step {w0:World}{H:List (Nat × Obj)}{N:Nat}(hN:N≤1000000000)(ih:PuS w0 N){m:Pom}(hM:PoM w0 H m)(hm:m.sz≤N+1):
  FSpec Tryz.prog w0 83 #[.agg (encPo m).toArray] H (IntK m.sz H):=by
 refine Ao Tryz.func83 U ntmps83 U ?_;have hsz:=Ef m;have hln:=Fx m.subs;refine rD tb 2 U (e_ (Kg U cs_) ?_ U);rintro _ _ ⟨n1,rfl,rfl⟩;refine rO tb 15 U ?_;refine Bg (X:=Nat × Int) (V:=fun ⟨i,s⟩=>[(3, .int .i64 s),(4, .int .i64 (i:Nat))]) (C:=[(1,_)]) (G:=fun ⟨i,s⟩=>(n1,Cl (encPo m) 28)::H) (φ:=fun ⟨i,s⟩=>i≤m.subs.length∧0≤s∧s≤szOL (m.subs.take i)) (μ:=fun ⟨i,s⟩=>m.subs.length - i) (x0:=(0,0)) ?_ ⟨Aa rfl,trivial⟩ ⟨atd,atd,trivial⟩ sb0 ?_
 ·exact⟨Nat.zero_le _,by omega,by simp[szOL]⟩
 rintro⟨i,s⟩ ⟨hi,hs1,hs2⟩;have hal0:=Fw (l:=m.subs) i;refine rD tb 5 U (y_ (Ka U isAgg26 (by first|exact c_o)) ?_ U);refine rO tb 4 U ?_
 first|refine Ac (Aa U) (fun c9=> ?_) (fun c9=> ?_)|refine Af (Aa U) (fun c9=> ?_) (fun c9=> ?_)
 ·have hi2:i<m.subs.length:=by have h9:((i:Nat):Int)<(m.subs.length:Nat):=c9;omega
  have htk:=szOL_take hi2;have hal:=Fw (l:=m.subs) (i+1);refine rC tb 7 U (y_ (Ka U isAgg26 (by first|exact c_o)) ?_ U);refine rO tb 1 U (y_ (Ke U U runUnderlying26 sizeOf28 qom (by first|exact rfl|exact hM.arr.b (i:=i) hi2)) ?_ U);refine y_ (Kb U isAgg28 sizeOf28 U (by first|exact(hM.arr.mono (by exact sbt)).cs (i:=i) hi2|exact Ax)) ?_ U;refine e_ (An (qe1 U) call83 (ih ((hM.sub (Bj hi2)).mono (by exact sbt)) qom)) ?_ U;rintro _ _ ⟨d1,⟨rfl,d2,d3⟩,rfl⟩;refine y_ (Bf (T U) (T U) qom) ?_ U;refine rO tb 6 U (y_ (Bf (T U) Aj qom) ?_ U);refine rO tb 2 U ?_;refine A4 ((i+1,s+d1)) ?_ ?_ ⟨atd,atd,trivial⟩ ⟨Aa U,trivial⟩ ?_
  ·exact⟨hi2,by omega,by omega⟩
  ·first|omega|(simp only[];omega)
  ·exact sbt
 ·obtain rfl:i=m.subs.length:=by have h9: ¬ ((i:Nat):Int)<(m.subs.length:Nat):=c9;omega
  have htl:m.subs.take m.subs.length=m.subs:=List.take_length;refine rC tb 2 U (As (rX tb 6 U (y_ (Ka U isAgg3 (by first|exact c_o)) ?_ U)));refine rO tb 3 U ?_
  first|refine Ac (Aa U) (fun c22=> ?_) (fun c22=> ?_)|refine Af (Aa U) (fun c22=> ?_) (fun c22=> ?_)
  ·refine rC tb 2 U (y_ (Bf (T U) Aj qom) ?_ U);refine rO tb 10 U (Ah U (J9 U) ?_);rw[htl] at hs2;exact⟨_,⟨_,⟨rfl,by omega,by omega⟩,rfl⟩,sbt⟩
  ·refine rC tb 9 U (Ah U (J9 U) ?_);rw[htl] at hs2;exact⟨_,⟨_,⟨rfl,by omega,by omega⟩,rfl⟩,sbt⟩
theorem szP_s {w0:World}(N:Nat)(hN:N≤1000000000):SzPS w0 N:=by
 induction N with
 |zero=>intro H m _ h;have:=Hh m;omega
 |succ N ih=>
  have hN:N≤1000000000:=by omega
  have ih:SzPS w0 N:=ih hN;intro H m hM hm;exact szP_step hN ih hM hm
theorem szO_s {w0:World}(N:Nat)(hN:N≤1000000000):SzOS w0 N:=by
 induction N with
 |zero=>intro H m _ h;have:=Ef m;omega
 |succ N ih=>
  have hN:N≤1000000000:=by omega
  have ih:SzOS w0 N:=ih hN;intro H m hM hm;exact szO_step hN ih (szP_s N hN) hM hm
theorem stO_s {w0:World}(N:Nat)(hN:N≤1000000000):StS w0 N:=by
 induction N with
 |zero=>intro H m _ h;have:=Ef m;omega
 |succ N ih=>
  have hN:N≤1000000000:=by omega
  have ih:StS w0 N:=ih hN;intro H m hM hm;exact st_step hN ih hM hm
theorem pu_s {w0:World}(N:Nat)(hN:N≤1000000000):PuS w0 N:=by
 induction N with
 |zero=>intro H m _ h;have:=Ef m;omega
 |succ N ih=>
  have hN:N≤1000000000:=by omega
  have ih:PuS w0 N:=ih hN;intro H m hM hm;exact pu_step hN ih hM hm
theorem fewO_s {w0:World}{H:List (Nat × Obj)}{m:Pom}(hM:PoM w0 H m)(hm:m.sz≤1000000000)  :
  FSpec Tryz.prog w0 40 #[.agg (encPo m).toArray] H (SomB H):=by
 refine Ao Tryz.func40 U ntmps40 U ?_;have hns:=J1 m;have hsz:=Ef m;refine rD tb 2 U (e_ (Kg U cs_) ?_ U);rintro _ _ ⟨n1,rfl,rfl⟩;refine rO tb 5 U (y_ (Kb U isAgg28 sizeOf28 U (by first|exact Ax)) ?_ U);refine e_ (An (qe1 U) call41 (szO_s _ (Nat.le_refl _) (hM.mono (by exact sbt)) hm)) ?_ U;rintro _ _ ⟨z1,⟨rfl,y1,x1⟩,rfl⟩;refine e_ (Al zeroValue84 cs_) ?_ U;rintro _ _ ⟨n3,rfl,rfl⟩
 first|refine A1 (Kf U U sizeOf84) U Ad ?_
 rintro _ _ ⟨rfl,rfl⟩;refine rO tb 5 U ?_;refine y_ (Kb U isAgg25 sizeOf25 U (by first|exact Jq (by repeat (first|exact Au|refine Ay ?_))|exact Ax)) ?_ U;refine e_ (An (qe1 U) call81 (szP_s _ (Nat.le_refl _) (hM.pred.mono (by exact sbt)) qom)) ?_ U;rintro _ _ ⟨z2,⟨rfl,y2,x2⟩,rfl⟩;refine e_ (Al zeroValue84 cs_) ?_ U;rintro _ _ ⟨n4,rfl,rfl⟩
 first|refine A1 (Kf U U sizeOf84) U Ad ?_
 rintro _ _ ⟨rfl,rfl⟩;refine rO tb 5 U (y_ (Ka U isAgg3 (by first|exact c_o)) ?_ U);refine rO tb 2 U ?_
 first|refine Am (s:=13) (Aa U) (fun c13=> ?_) (fun c13=> ?_)|refine Aw (s:=13) (Aa U) (fun c13=> ?_) (fun c13=> ?_)
 ·refine rO tb 1 U (Av (Ka U isAgg3 (by first|exact c_o)) U (Az U U (Aa U)) ?_);refine rO tb 3 U ?_
  first|refine Am (s:=18) (Aa U) (fun c18=> ?_) (fun c18=> ?_)|refine Aw (s:=18) (Aa U) (fun c18=> ?_) (fun c18=> ?_)
  ·refine rO tb 1 U (Av (Ka U isAgg3 (by first|exact c_o)) U (Az U U (Aa U)) ?_);refine rO tb 6 U (Ah U (J9 U) ?_);exact⟨_,⟨_,rfl,rfl⟩,sbt⟩
  ·refine rO tb 8 U (Ah U (J9 U) ?_);exact⟨_,⟨_,rfl,rfl⟩,sbt⟩
 ·refine rO tb 13 U (Ah U (J9 U) ?_);exact⟨_,⟨_,rfl,rfl⟩,sbt⟩
theorem light_s {w0:World}{H:List (Nat × Obj)}{m:Pom}(hM:PoM w0 H m)(hm:m.sz≤1000000000)  :
  FSpec Tryz.prog w0 43 #[.agg (encPo m).toArray] H (SomB H):=by
 refine Ao Tryz.func43 U ntmps43 U (rD tb 2 U (e_ (Kg U cs_) ?_ U));rintro _ _ ⟨n1,rfl,rfl⟩;refine rO tb 5 U (y_ (Kb U isAgg28 sizeOf28 U (by first|exact Ax)) ?_ U);refine e_ (An (qe1 U) call42 (stO_s _ (Nat.le_refl _) (hM.mono (by exact sbt)) hm)) ?_ U;rintro _ _ ⟨z1,⟨rfl,y1,x1⟩,rfl⟩;refine rO tb 5 U (y_ (Kb U isAgg28 sizeOf28 U (by first|exact Ax)) ?_ U);refine e_ (An (qe1 U) call83 (pu_s _ (Nat.le_refl _) (hM.mono (by exact sbt)) hm)) ?_ U;rintro _ _ ⟨z2,⟨rfl,y2,x2⟩,rfl⟩;refine rO tb 8 U ?_
 first|refine Am (s:=11) (Aa U) (fun c11=> ?_) (fun c11=> ?_)|refine Aw (s:=11) (Aa U) (fun c11=> ?_) (fun c11=> ?_)
 ·refine kO tb 34 [2] rfl U (rG tb 1 U (Ah U (J9 U) ?_));exact⟨_,⟨_,rfl,rfl⟩,sbt⟩
 ·refine rO tb 3 U ?_
  first|refine Am (s:=14) (Aa U) (fun c14=> ?_) (fun c14=> ?_)|refine Aw (s:=14) (Aa U) (fun c14=> ?_) (fun c14=> ?_)
  ·refine rO tb 5 U ?_
   first|refine Am (s:=19) (Aa U) (fun c19=> ?_) (fun c19=> ?_)|refine Aw (s:=19) (Aa U) (fun c19=> ?_) (fun c19=> ?_)
   ·refine kO tb 26 [2] rfl U (rG tb 1 U (Ah U (J9 U) ?_));exact⟨_,⟨_,rfl,rfl⟩,sbt⟩
   ·refine rO tb 3 U ?_
    first|refine Am (s:=22) (Aa U) (fun c22=> ?_) (fun c22=> ?_)|refine Aw (s:=22) (Aa U) (fun c22=> ?_) (fun c22=> ?_)
    ·refine rO tb 5 U ?_
     first|refine Am (s:=27) (Aa U) (fun c27=> ?_) (fun c27=> ?_)|refine Aw (s:=27) (Aa U) (fun c27=> ?_) (fun c27=> ?_)
     ·refine kO tb 18 [2] rfl U (rG tb 1 U (Ah U (J9 U) ?_));exact⟨_,⟨_,rfl,rfl⟩,sbt⟩
     ·refine rO tb 3 U ?_
      first|refine Am (s:=30) (Aa U) (fun c30=> ?_) (fun c30=> ?_)|refine Aw (s:=30) (Aa U) (fun c30=> ?_) (fun c30=> ?_)
      ·refine rO tb 5 U ?_
       first|refine Am (s:=35) (Aa U) (fun c35=> ?_) (fun c35=> ?_)|refine Aw (s:=35) (Aa U) (fun c35=> ?_) (fun c35=> ?_)
       ·refine kO tb 10 [2] rfl U (rG tb 1 U (Ah U (J9 U) ?_));exact⟨_,⟨_,rfl,rfl⟩,sbt⟩
       ·refine rO tb 3 U ?_
        first|refine Am (s:=38) (Aa U) (fun c38=> ?_) (fun c38=> ?_)|refine Aw (s:=38) (Aa U) (fun c38=> ?_) (fun c38=> ?_)
        ·refine kO tb 7 [2] rfl U (rG tb 1 U (Ah U (J9 U) ?_));exact⟨_,⟨_,rfl,rfl⟩,sbt⟩
        ·refine kO tb 7 [2] rfl U (rG tb 1 U (Ah U (J9 U) ?_));exact⟨_,⟨_,rfl,rfl⟩,sbt⟩
      ·refine rO tb 8 U ?_
       first|refine Am (s:=38) (Aa U) (fun c38=> ?_) (fun c38=> ?_)|refine Aw (s:=38) (Aa U) (fun c38=> ?_) (fun c38=> ?_)
       ·refine kO tb 7 [2] rfl U (rG tb 1 U (Ah U (J9 U) ?_));exact⟨_,⟨_,rfl,rfl⟩,sbt⟩
       ·refine kO tb 7 [2] rfl U (rG tb 1 U (Ah U (J9 U) ?_));exact⟨_,⟨_,rfl,rfl⟩,sbt⟩
    ·refine rO tb 8 U ?_
     first|refine Am (s:=30) (Aa U) (fun c30=> ?_) (fun c30=> ?_)|refine Aw (s:=30) (Aa U) (fun c30=> ?_) (fun c30=> ?_)
     ·refine rO tb 5 U ?_
      first|refine Am (s:=35) (Aa U) (fun c35=> ?_) (fun c35=> ?_)|refine Aw (s:=35) (Aa U) (fun c35=> ?_) (fun c35=> ?_)
      ·refine kO tb 10 [2] rfl U (rG tb 1 U (Ah U (J9 U) ?_));exact⟨_,⟨_,rfl,rfl⟩,sbt⟩
      ·refine rO tb 3 U ?_
       first|refine Am (s:=38) (Aa U) (fun c38=> ?_) (fun c38=> ?_)|refine Aw (s:=38) (Aa U) (fun c38=> ?_) (fun c38=> ?_)
       ·refine kO tb 7 [2] rfl U (rG tb 1 U (Ah U (J9 U) ?_));exact⟨_,⟨_,rfl,rfl⟩,sbt⟩
       ·refine kO tb 7 [2] rfl U (rG tb 1 U (Ah U (J9 U) ?_));exact⟨_,⟨_,rfl,rfl⟩,sbt⟩
     ·refine rO tb 8 U ?_
      first|refine Am (s:=38) (Aa U) (fun c38=> ?_) (fun c38=> ?_)|refine Aw (s:=38) (Aa U) (fun c38=> ?_) (fun c38=> ?_)
      ·refine kO tb 7 [2] rfl U (rG tb 1 U (Ah U (J9 U) ?_));exact⟨_,⟨_,rfl,rfl⟩,sbt⟩
      ·refine kO tb 7 [2] rfl U (rG tb 1 U (Ah U (J9 U) ?_));exact⟨_,⟨_,rfl,rfl⟩,sbt⟩
  ·refine rO tb 8 U ?_
   first|refine Am (s:=22) (Aa U) (fun c22=> ?_) (fun c22=> ?_)|refine Aw (s:=22) (Aa U) (fun c22=> ?_) (fun c22=> ?_)
   ·refine rO tb 5 U ?_
    first|refine Am (s:=27) (Aa U) (fun c27=> ?_) (fun c27=> ?_)|refine Aw (s:=27) (Aa U) (fun c27=> ?_) (fun c27=> ?_)
    ·refine kO tb 18 [2] rfl U (rG tb 1 U (Ah U (J9 U) ?_));exact⟨_,⟨_,rfl,rfl⟩,sbt⟩
    ·refine rO tb 3 U ?_
     first|refine Am (s:=30) (Aa U) (fun c30=> ?_) (fun c30=> ?_)|refine Aw (s:=30) (Aa U) (fun c30=> ?_) (fun c30=> ?_)
     ·refine rO tb 5 U ?_
      first|refine Am (s:=35) (Aa U) (fun c35=> ?_) (fun c35=> ?_)|refine Aw (s:=35) (Aa U) (fun c35=> ?_) (fun c35=> ?_)
      ·refine kO tb 10 [2] rfl U (rG tb 1 U (Ah U (J9 U) ?_));exact⟨_,⟨_,rfl,rfl⟩,sbt⟩
      ·refine rO tb 3 U ?_
       first|refine Am (s:=38) (Aa U) (fun c38=> ?_) (fun c38=> ?_)|refine Aw (s:=38) (Aa U) (fun c38=> ?_) (fun c38=> ?_)
       ·refine kO tb 7 [2] rfl U (rG tb 1 U (Ah U (J9 U) ?_));exact⟨_,⟨_,rfl,rfl⟩,sbt⟩
       ·refine kO tb 7 [2] rfl U (rG tb 1 U (Ah U (J9 U) ?_));exact⟨_,⟨_,rfl,rfl⟩,sbt⟩
     ·refine rO tb 8 U ?_
      first|refine Am (s:=38) (Aa U) (fun c38=> ?_) (fun c38=> ?_)|refine Aw (s:=38) (Aa U) (fun c38=> ?_) (fun c38=> ?_)
      ·refine kO tb 7 [2] rfl U (rG tb 1 U (Ah U (J9 U) ?_));exact⟨_,⟨_,rfl,rfl⟩,sbt⟩
      ·refine kO tb 7 [2] rfl U (rG tb 1 U (Ah U (J9 U) ?_));exact⟨_,⟨_,rfl,rfl⟩,sbt⟩
   ·refine rO tb 8 U ?_
    first|refine Am (s:=30) (Aa U) (fun c30=> ?_) (fun c30=> ?_)|refine Aw (s:=30) (Aa U) (fun c30=> ?_) (fun c30=> ?_)
    ·refine rO tb 5 U ?_
     first|refine Am (s:=35) (Aa U) (fun c35=> ?_) (fun c35=> ?_)|refine Aw (s:=35) (Aa U) (fun c35=> ?_) (fun c35=> ?_)
     ·refine kO tb 10 [2] rfl U (rG tb 1 U (Ah U (J9 U) ?_));exact⟨_,⟨_,rfl,rfl⟩,sbt⟩
     ·refine rO tb 3 U ?_
      first|refine Am (s:=38) (Aa U) (fun c38=> ?_) (fun c38=> ?_)|refine Aw (s:=38) (Aa U) (fun c38=> ?_) (fun c38=> ?_)
      ·refine kO tb 7 [2] rfl U (rG tb 1 U (Ah U (J9 U) ?_));exact⟨_,⟨_,rfl,rfl⟩,sbt⟩
      ·refine kO tb 7 [2] rfl U (rG tb 1 U (Ah U (J9 U) ?_));exact⟨_,⟨_,rfl,rfl⟩,sbt⟩
    ·refine rO tb 8 U ?_
     first|refine Am (s:=38) (Aa U) (fun c38=> ?_) (fun c38=> ?_)|refine Aw (s:=38) (Aa U) (fun c38=> ?_) (fun c38=> ?_)
     ·refine kO tb 7 [2] rfl U (rG tb 1 U (Ah U (J9 U) ?_));exact⟨_,⟨_,rfl,rfl⟩,sbt⟩
     ·refine kO tb 7 [2] rfl U (rG tb 1 U (Ah U (J9 U) ?_));exact⟨_,⟨_,rfl,rfl⟩,sbt⟩
theorem zbd25_z  (w:World):(Instr.build 25 #[]).run Tryz.prog w= .ok (.agg #[.int .i64 0, .string ⟨#[]⟩, .int .i64 0, .int .i64 0, .slice none 0 0]) w:=by kernel_rfl
theorem sameP0_s {w0:World}{H:List (Nat × Obj)}(m:Pdm):
  FSpec Tryz.prog w0 158 #[.agg (encPd m).toArray, .agg #[.int .i64 0, .string ⟨#[]⟩, .int .i64 0, .int .i64 0, .slice none 0 0]] H (SomB H):=by
 refine Ao Tryz.func158 U ntmps158 U (rD tb 2 U (e_ (Kg U cs_) ?_ U));rintro _ _ ⟨n2,rfl,rfl⟩;refine e_ (Kg U cs_) ?_ U;rintro _ _ ⟨n3,rfl,rfl⟩;refine rO tb 7 U (y_ (Ka U isAgg3 (by first|exact c_o)) ?_ U);refine rO tb 1 U (y_ (Ka U isAgg3 (by first|exact c_o)) ?_ U);refine rO tb 2 U ?_
 first|refine Am (s:=12) (Aa U) (fun c12=> ?_) (fun c12=> ?_)|refine Aw (s:=12) (Aa U) (fun c12=> ?_) (fun c12=> ?_)
 ·refine kO tb 31 [2,3,41] rfl U (rG tb 8 U (Ah U (J9 U) ?_));exact⟨_,⟨_,rfl,rfl⟩,sbt⟩
 ·refine rO tb 1 U (Av (Ka U isAgg9 (by first|exact c_o)) U (Az U U (Aa U)) ?_);refine rO tb 1 U (Av (Ka U isAgg9 (by first|exact c_o)) U (Az U U (Aa U)) ?_);refine Av (yl_neSD (T U) (T U)) U (Az U U (Aa U)) (rO tb 2 U ?_)
  first|refine Am (s:=19) (Aa U) (fun c19=> ?_) (fun c19=> ?_)|refine Aw (s:=19) (Aa U) (fun c19=> ?_) (fun c19=> ?_)
  ·refine kO tb 24 [2,3,41] rfl U (rG tb 8 U (Ah U (J9 U) ?_));exact⟨_,⟨_,rfl,rfl⟩,sbt⟩
  ·refine rO tb 1 U (Av (Ka U isAgg3 (by first|exact c_o)) U (Az U U (Aa U)) ?_);refine rO tb 1 U (Av (Ka U isAgg3 (by first|exact c_o)) U (Az U U (Aa U)) ?_);refine rO tb 3 U ?_
   first|refine Am (s:=26) (Aa U) (fun c26=> ?_) (fun c26=> ?_)|refine Aw (s:=26) (Aa U) (fun c26=> ?_) (fun c26=> ?_)
   ·refine kO tb 17 [2,3,41] rfl U (rG tb 8 U (Ah U (J9 U) ?_));exact⟨_,⟨_,rfl,rfl⟩,sbt⟩
   ·refine rO tb 1 U (Av (Ka U isAgg3 (by first|exact c_o)) U (Az U U (Aa U)) ?_);refine rO tb 1 U (Av (Ka U isAgg3 (by first|exact c_o)) U (Az U U (Aa U)) ?_);refine rO tb 3 U ?_
    first|refine Am (s:=33) (Aa U) (fun c33=> ?_) (fun c33=> ?_)|refine Aw (s:=33) (Aa U) (fun c33=> ?_) (fun c33=> ?_)
    ·refine kO tb 10 [2,3,41] rfl U (rG tb 8 U (Ah U (J9 U) ?_));exact⟨_,⟨_,rfl,rfl⟩,sbt⟩
    ·refine rO tb 1 U (Av (Ka U isAgg23 (by first|exact c_o)) U (Az U U (Aa U)) ?_);refine rO tb 2 U (Av (Ka U isAgg23 (by first|exact c_o)) U (Az U U (Aa U)) ?_);refine kO tb 5 [2,3,41] rfl U ?_
     first|refine Ac (Aa U) (fun c41=> ?_) (fun c41=> ?_)|refine Af (Aa U) (fun c41=> ?_) (fun c41=> ?_)
     ·refine rC tb 7 U (Ah U (J9 U) ?_);exact⟨_,⟨_,rfl,rfl⟩,sbt⟩
     ·refine rC tb 9 U ?_;refine Bg (X:=Nat) (V:=fun i=>[(5, .int .i64 (i:Nat))]) (C:=[(2,_),(3,_)]) (G:=fun i=>(n3,Cl [.int .i64 0, .string ⟨#[]⟩, .int .i64 0, .int .i64 0, .slice none 0 0] 25)::(n2,Cl (encPd m) 25)::H) (φ:=fun i=>True) (μ:=fun i=>0) (x0:=0) ?_ ⟨Aa U,Aa U,trivial⟩ ⟨atd,trivial⟩ sb0 ?_
      ·trivial
      rintro i _;refine rD tb 5 U (y_ (Ka U isAgg23 (by first|exact c_o)) ?_ U);refine rO tb 4 U ?_
      first|refine Ac (Aa U) (fun c46=> ?_) (fun c46=> ?_)|refine Af (Aa U) (fun c46=> ?_) (fun c46=> ?_)
      ·exfalso;have h9:((i:Nat):Int)<(m.subs.length:Nat):=c46;omega
      ·refine rC tb 2 U (As (rX tb 8 U (Ah U (J9 U) ?_)));exact⟨_,⟨_,rfl,rfl⟩,sbt⟩
def NmP (m:Pdm):Prop:=∀ a∈prtP m,a.nm.size≤9223372036854775807
def NmO (m:Pom):Prop:=∀ a∈prtO m,a.nm.size≤9223372036854775807∧NmP a.pr
theorem prtPL_mem {l:List Pdm}{a b:Pdm}(ha:a∈l)(hb:b∈prtP a):b∈prtPL l:=by
 induction l with
 |nil=>cases ha
 |cons x l ih=>
  rw[prtPL];rcases List.mem_cons.1 ha with rfl|ha
  ·exact List.mem_append.2 (.inl hb)
  ·exact List.mem_append.2 (.inr (ih ha))
theorem prtOL_mem {l:List Pom}{a b:Pom}(ha:a∈l)(hb:b∈prtO a):b∈prtOL l:=by
 induction l with
 |nil=>cases ha
 |cons x l ih=>
  rw[prtOL];rcases List.mem_cons.1 ha with rfl|ha
  ·exact List.mem_append.2 (.inl hb)
  ·exact List.mem_append.2 (.inr (ih ha))
theorem NmP.self {m:Pdm}(h:NmP m):m.nm.size≤9223372036854775807:=h m (by rw[Fj];simp)
theorem NmO.self {m:Pom}(h:NmO m):m.nm.size≤9223372036854775807∧NmP m.pr:=h m (by rw[Fk];simp)
theorem NmP.sub {m a:Pdm}(h:NmP m)(ha:a∈m.subs):NmP a:=fun b hb=>h b (by rw[Fj];exact List.mem_cons_of_mem _ (prtPL_mem ha hb))
theorem NmO.sub {m a:Pom}(h:NmO m)(ha:a∈m.subs):NmO a:=fun b hb=>h b (by rw[Fk];exact List.mem_cons_of_mem _ (prtOL_mem ha hb))
abbrev SayB (p:Prop) (H:List (Nat × Obj)):Value→List (Nat × Obj)→Prop:=fun u H'=>∃ b:Bool,(u= .bool b∧(b=true→p))∧H'=H
theorem C8 {α:Type}[Inhabited α] {l:List α}{p:α→Prop}(h:∀ j,j<l.length→p (gd l j)):∀ a∈l,p a:=fun a ha=>by
 obtain⟨i,hi,e⟩:=List.getElem_of_mem ha;have:=h i hi
 rwa [A0 hi,e] at this
def FmPS (w0:World) (N:Nat):Prop:=∀ {H:List (Nat × Obj)} {m:Pdm},PdM w0 H m→m.sz≤N→NmP m→FSpec Tryz.prog w0 159 #[.agg (encPd m).toArray] H (SayB (FmP m) H)
def FmOS (w0:World) (N:Nat):Prop:=∀ {H:List (Nat × Obj)} {m:Pom},PoM w0 H m→m.sz≤N→NmO m→FSpec Tryz.prog w0 117 #[.agg (encPo m).toArray] H (SayB (FmO m) H)
theorem fmP_step {w0:World}{H:List (Nat × Obj)}{N:Nat}(hN:N≤1000000000)(ih:FmPS w0 N){m:Pdm}(hM:PdM w0 H m)(hm:m.sz≤N+1)(hz:NmP m):
  FSpec Tryz.prog w0 159 #[.agg (encPd m).toArray] H (SayB (FmP m) H):=by
 refine Ao Tryz.func159 U ntmps159 U ?_;have hsz:=Hh m;have hln:=szPL_len m.subs;refine rD tb 2 U (e_ (Kg U cs_) ?_ U);rintro _ _ ⟨n1,rfl,rfl⟩;refine rO tb 6 U (y_ (Ka U isAgg9 (by first|exact c_o)) ?_ U);refine e_ (An (qe1 U) call157 (named_s m.nm hz.self)) ?_ U;rintro _ _ ⟨b9,rfl,rfl⟩;refine rO tb 3 U ?_;refine D6 (X:=Bool) (V:=fun x4=>[(4, .bool x4)]) (C:=[(1,_),(3,_)]) (φ:=fun x4=>(x4=true→0≤m.val)) ⟨Aa U,Aa U,trivial⟩ ?_ ?_
 ·refine rD tb 2 U (y_ (Ka U isAgg3 (by first|exact c_o)) ?_ U);refine rO tb 2 U ?_
  first|refine Am (s:=16) (Aa U) (fun c16=> ?_) (fun c16=> ?_)|refine Aw (s:=16) (Aa U) (fun c16=> ?_) (fun c16=> ?_)
  ·refine rO tb 1 U (Av (Ka U isAgg3 (by first|exact c_o)) U (Az U U (Aa U)) ?_);refine rO tb 4 U ?_;refine A6 (decide (m.val≤65535)) ?_ ⟨atd,trivial⟩ ⟨Aa U,Aa U,trivial⟩ sbt;intro h;first|exact c16|cases h
  ·refine rO tb 6 U ?_;refine A6 (false) ?_ ⟨atd,trivial⟩ ⟨Aa U,Aa U,trivial⟩ sbt;intro h;first|exact c16|cases h
 rintro x4 hv4;refine D6 (X:=Bool) (V:=fun x5=>[(5, .bool x5)]) (C:=[(1,_),(3,_),(4,_)]) (φ:=fun x5=>True) ⟨Aa U,Aa U,Aa U,trivial⟩ ?_ ?_
 ·refine rD tb 2 U (y_ (Ka U isAgg9 (by first|exact c_o)) ?_ U);refine y_ (Dx (T U) Aj) (rO tb 1 U ?_) U
  first|refine Am (s:=24) (Aa U) (fun c24=> ?_) (fun c24=> ?_)|refine Aw (s:=24) (Aa U) (fun c24=> ?_) (fun c24=> ?_)
  ·refine rO tb 1 U (Av (Ka U isAgg3 (by first|exact c_o)) U (Az U U (Aa U)) ?_);refine rO tb 3 U ?_
   first|refine Am (s:=29) (Aa U) (fun c29=> ?_) (fun c29=> ?_)|refine Aw (s:=29) (Aa U) (fun c29=> ?_) (fun c29=> ?_)
   ·refine rO tb 1 U (Av (Ka U isAgg3 (by first|exact c_o)) U (Az U U (Aa U)) ?_);refine rO tb 4 U ?_;refine A6 (decide (m.to=0)) ?_ ⟨atd,trivial⟩ ⟨Aa U,Aa U,Aa U,trivial⟩ sbt
    trivial
   ·refine rO tb 6 U ?_;refine A6 (false) ?_ ⟨atd,trivial⟩ ⟨Aa U,Aa U,Aa U,trivial⟩ sbt
    trivial
  ·refine rO tb 11 U ?_;refine A6 (false) ?_ ⟨atd,trivial⟩ ⟨Aa U,Aa U,Aa U,trivial⟩ sbt
   trivial
 rintro x5 _;refine rC tb 10 U ?_;refine D6 (X:=Bool × Nat) (V:=fun ⟨b6,n6⟩=>[(6, .int .i64 (n6:Nat)),(7, .bool b6)]) (C:=[(1,_)]) (φ:=fun ⟨b6,n6⟩=>(b6=true→LcP m n6)) ⟨Aa rfl,trivial⟩ ?_ ?_
 ·refine rD tb 3 U (y_ (Ka U isAgg3 (by first|exact c_o)) ?_ U);refine rO tb 10 U ?_
  first|refine Ac (Aa U) (fun c36=> ?_) (fun c36=> ?_)|refine Af (Aa U) (fun c36=> ?_) (fun c36=> ?_)
  ·refine rC tb 2 U ?_
   first|refine C2 (Aa U) ?_|refine C2 (Ae (Aa U) (vbool (decide_eq_true c36))) ?_
   refine rC tb 5 U ?_;refine A6 ((x5,0)) ?_ ⟨atd,atd,trivial⟩ ⟨Aa U,trivial⟩ sbt;intro h;unfold LcP
   first|(exact absurd h qde)|omega|(have:=hv4 c46;omega)|(have:=hv4 c57;omega)
  ·refine rC tb 5 U ?_
   first|refine Ac (Aa U) (fun c36=> ?_) (fun c36=> ?_)|refine Af (Aa U) (fun c36=> ?_) (fun c36=> ?_)
   ·refine rC tb 5 U ?_;refine A6 ((x5,0)) ?_ ⟨atd,atd,trivial⟩ ⟨Aa U,trivial⟩ sbt;intro h;unfold LcP
    first|(exact absurd h qde)|omega|(have:=hv4 c46;omega)|(have:=hv4 c57;omega)
   ·refine rC tb 6 U ?_
    first|refine Ac (Aa U) (fun c40=> ?_) (fun c40=> ?_)|refine Af (Aa U) (fun c40=> ?_) (fun c40=> ?_)
    ·refine rC tb 3 U ?_
     first|refine Am (s:=43) (Aa U) (fun c43=> ?_) (fun c43=> ?_)|refine Aw (s:=43) (Aa U) (fun c43=> ?_) (fun c43=> ?_)
     ·refine rO tb 3 U ?_
      first|refine Am (s:=46) (Aa U) (fun c46=> ?_) (fun c46=> ?_)|refine Aw (s:=46) (Aa U) (fun c46=> ?_) (fun c46=> ?_)
      ·refine rO tb 1 U (Av (Ka U isAgg3 (by first|exact c_o)) U (Az U U (Aa U)) ?_);refine rO tb 5 U ?_;refine A6 ((decide (m.to=0),0)) ?_ ⟨atd,atd,trivial⟩ ⟨Aa U,trivial⟩ sbt;intro h;unfold LcP
       first|(exact absurd h qde)|omega|(have:=hv4 c46;omega)|(have:=hv4 c57;omega)
      ·refine rO tb 7 U ?_;refine A6 ((false,0)) ?_ ⟨atd,atd,trivial⟩ ⟨Aa U,trivial⟩ sbt;intro h;unfold LcP
       first|(exact absurd h qde)|omega|(have:=hv4 c46;omega)|(have:=hv4 c57;omega)
     ·refine rO tb 10 U ?_;refine A6 ((false,0)) ?_ ⟨atd,atd,trivial⟩ ⟨Aa U,trivial⟩ sbt;intro h;unfold LcP
      first|(exact absurd h qde)|omega|(have:=hv4 c46;omega)|(have:=hv4 c57;omega)
    ·refine rC tb 6 U ?_
     first|refine Ac (Aa U) (fun c51=> ?_) (fun c51=> ?_)|refine Af (Aa U) (fun c51=> ?_) (fun c51=> ?_)
     ·refine rC tb 3 U ?_
      first|refine Am (s:=54) (Aa U) (fun c54=> ?_) (fun c54=> ?_)|refine Aw (s:=54) (Aa U) (fun c54=> ?_) (fun c54=> ?_)
      ·refine rO tb 3 U ?_
       first|refine Am (s:=57) (Aa U) (fun c57=> ?_) (fun c57=> ?_)|refine Aw (s:=57) (Aa U) (fun c57=> ?_) (fun c57=> ?_)
       ·refine rO tb 1 U (Av (Ka U isAgg3 (by first|exact c_o)) U (Az U U (Aa U)) ?_);refine rO tb 3 U ?_
        first|refine Am (s:=62) (Aa U) (fun c62=> ?_) (fun c62=> ?_)|refine Aw (s:=62) (Aa U) (fun c62=> ?_) (fun c62=> ?_)
        ·refine rO tb 1 U (Av (Ka U isAgg3 (by first|exact c_o)) U (Az U U (Aa U)) ?_);refine rO tb 5 U ?_;refine A6 ((decide (m.to≤16),0)) ?_ ⟨atd,atd,trivial⟩ ⟨Aa U,trivial⟩ sbt;intro h;unfold LcP
         first|(exact absurd h qde)|omega|(have:=hv4 c46;omega)|(have:=hv4 c57;omega)
        ·refine rO tb 7 U ?_;refine A6 ((false,0)) ?_ ⟨atd,atd,trivial⟩ ⟨Aa U,trivial⟩ sbt;intro h;unfold LcP
         first|(exact absurd h qde)|omega|(have:=hv4 c46;omega)|(have:=hv4 c57;omega)
       ·refine rO tb 12 U ?_;refine A6 ((false,0)) ?_ ⟨atd,atd,trivial⟩ ⟨Aa U,trivial⟩ sbt;intro h;unfold LcP
        first|(exact absurd h qde)|omega|(have:=hv4 c46;omega)|(have:=hv4 c57;omega)
      ·refine rO tb 15 U ?_;refine A6 ((false,0)) ?_ ⟨atd,atd,trivial⟩ ⟨Aa U,trivial⟩ sbt;intro h;unfold LcP
       first|(exact absurd h qde)|omega|(have:=hv4 c46;omega)|(have:=hv4 c57;omega)
     ·refine rC tb 6 U ?_
      first|refine Ac (Aa U) (fun c67=> ?_) (fun c67=> ?_)|refine Af (Aa U) (fun c67=> ?_) (fun c67=> ?_)
      ·refine rC tb 3 U ?_
       first|refine Am (s:=70) (Aa U) (fun c70=> ?_) (fun c70=> ?_)|refine Aw (s:=70) (Aa U) (fun c70=> ?_) (fun c70=> ?_)
       ·refine rO tb 1 U (Av (Ka U isAgg3 (by first|exact c_o)) U (Az U U (Aa U)) ?_);refine rO tb 3 U ?_
        first|refine Am (s:=75) (Aa U) (fun c75=> ?_) (fun c75=> ?_)|refine Aw (s:=75) (Aa U) (fun c75=> ?_) (fun c75=> ?_)
        ·refine rO tb 1 U (Av (Ka U isAgg3 (by first|exact c_o)) U (Az U U (Aa U)) ?_);refine rO tb 1 U (Av (Ka U isAgg3 (by first|exact c_o)) U (Az U U (Aa U)) ?_);refine rO tb 3 U ?_
         first|refine Am (s:=82) (Aa U) (fun c82=> ?_) (fun c82=> ?_)|refine Aw (s:=82) (Aa U) (fun c82=> ?_) (fun c82=> ?_)
         ·refine rO tb 1 U (Av (Ka U isAgg3 (by first|exact c_o)) U (Az U U (Aa U)) ?_);refine rO tb 5 U ?_;refine A6 ((decide (m.to≤65535),0)) ?_ ⟨atd,atd,trivial⟩ ⟨Aa U,trivial⟩ sbt;intro h;unfold LcP
          first|(exact absurd h qde)|omega|(have:=hv4 c46;omega)|(have:=hv4 c57;omega)
         ·refine rO tb 7 U ?_;refine A6 ((false,0)) ?_ ⟨atd,atd,trivial⟩ ⟨Aa U,trivial⟩ sbt;intro h;unfold LcP
          first|(exact absurd h qde)|omega|(have:=hv4 c46;omega)|(have:=hv4 c57;omega)
        ·refine rO tb 14 U ?_;refine A6 ((false,0)) ?_ ⟨atd,atd,trivial⟩ ⟨Aa U,trivial⟩ sbt;intro h;unfold LcP
         first|(exact absurd h qde)|omega|(have:=hv4 c46;omega)|(have:=hv4 c57;omega)
       ·refine rO tb 19 U ?_;refine A6 ((false,0)) ?_ ⟨atd,atd,trivial⟩ ⟨Aa U,trivial⟩ sbt;intro h;unfold LcP
        first|(exact absurd h qde)|omega|(have:=hv4 c46;omega)|(have:=hv4 c57;omega)
      ·refine rC tb 6 U ?_
       first|refine Ac (Aa U) (fun c87=> ?_) (fun c87=> ?_)|refine Af (Aa U) (fun c87=> ?_) (fun c87=> ?_)
       ·refine rC tb 10 U ?_;refine A6 ((x5,1)) ?_ ⟨atd,atd,trivial⟩ ⟨Aa U,trivial⟩ sbt;intro h;unfold LcP
        first|(exact absurd h qde)|omega|(have:=hv4 c46;omega)|(have:=hv4 c57;omega)
       ·refine rC tb 7 U ?_
        first|refine Ac (Aa U) (fun c90=> ?_) (fun c90=> ?_)|refine Af (Aa U) (fun c90=> ?_) (fun c90=> ?_)
        ·refine rC tb 2 U ?_
         first|refine C2 (Aa U) ?_|refine C2 (Ae (Aa U) (vbool (decide_eq_true c90))) ?_
         refine rC tb 10 U ?_;refine A6 ((x5,2)) ?_ ⟨atd,atd,trivial⟩ ⟨Aa U,trivial⟩ sbt;intro h;unfold LcP
         first|(exact absurd h qde)|omega|(have:=hv4 c46;omega)|(have:=hv4 c57;omega)
        ·refine rC tb 5 U ?_
         first|refine Ac (Aa U) (fun c90=> ?_) (fun c90=> ?_)|refine Af (Aa U) (fun c90=> ?_) (fun c90=> ?_)
         ·refine rC tb 10 U ?_;refine A6 ((x5,2)) ?_ ⟨atd,atd,trivial⟩ ⟨Aa U,trivial⟩ sbt;intro h;unfold LcP
          first|(exact absurd h qde)|omega|(have:=hv4 c46;omega)|(have:=hv4 c57;omega)
         ·refine rC tb 6 U ?_
          first|refine Ac (Aa U) (fun c94=> ?_) (fun c94=> ?_)|refine Af (Aa U) (fun c94=> ?_) (fun c94=> ?_)
          ·refine rC tb 2 U (y_ (Ka U isAgg9 (by first|exact c_o)) ?_ U);refine y_ (Dx (T U) Aj) (rO tb 1 U ?_) U
           first|refine Am (s:=99) (Aa U) (fun c99=> ?_) (fun c99=> ?_)|refine Aw (s:=99) (Aa U) (fun c99=> ?_) (fun c99=> ?_)
           ·refine rO tb 1 U (Av (Ka U isAgg3 (by first|exact c_o)) U (Az U U (Aa U)) ?_);refine rO tb 3 U ?_
            first|refine Am (s:=104) (Aa U) (fun c104=> ?_) (fun c104=> ?_)|refine Aw (s:=104) (Aa U) (fun c104=> ?_) (fun c104=> ?_)
            ·refine rO tb 1 U (Av (Ka U isAgg3 (by first|exact c_o)) U (Az U U (Aa U)) ?_);refine rO tb 1 U (Av (Ka U isAgg3 (by first|exact c_o)) U (Az U U (Aa U)) ?_);refine rO tb 3 U ?_
             first|refine Am (s:=111) (Aa U) (fun c111=> ?_) (fun c111=> ?_)|refine Aw (s:=111) (Aa U) (fun c111=> ?_) (fun c111=> ?_)
             ·refine rO tb 1 U (Av (Ka U isAgg3 (by first|exact c_o)) U (Az U U (Aa U)) ?_);refine rO tb 5 U ?_;refine A6 ((decide (m.to≤1073741824),0)) ?_ ⟨atd,atd,trivial⟩ ⟨Aa U,trivial⟩ sbt;intro h;unfold LcP
              first|(exact absurd h qde)|omega|(have:=hv4 c46;omega)|(have:=hv4 c57;omega)
             ·refine rO tb 7 U ?_;refine A6 ((false,0)) ?_ ⟨atd,atd,trivial⟩ ⟨Aa U,trivial⟩ sbt;intro h;unfold LcP
              first|(exact absurd h qde)|omega|(have:=hv4 c46;omega)|(have:=hv4 c57;omega)
            ·refine rO tb 14 U ?_;refine A6 ((false,0)) ?_ ⟨atd,atd,trivial⟩ ⟨Aa U,trivial⟩ sbt;intro h;unfold LcP
             first|(exact absurd h qde)|omega|(have:=hv4 c46;omega)|(have:=hv4 c57;omega)
           ·refine rO tb 19 U ?_;refine A6 ((false,0)) ?_ ⟨atd,atd,trivial⟩ ⟨Aa U,trivial⟩ sbt;intro h;unfold LcP
            first|(exact absurd h qde)|omega|(have:=hv4 c46;omega)|(have:=hv4 c57;omega)
          ·refine rC tb 2 U ?_;refine A6 ((false,0)) ?_ ⟨atd,atd,trivial⟩ ⟨Aa U,trivial⟩ sbt;intro h;unfold LcP
           first|(exact absurd h qde)|omega|(have:=hv4 c46;omega)|(have:=hv4 c57;omega)
 rintro⟨b6,n6⟩ hx6;refine rC tb 4 U ?_
 first|refine Av (Bo (T U)) U Ad ?_|refine Av (B4 (T U)) U Ad ?_
 refine rO tb 1 U ?_
 first|refine Am (s:=118) (Aa U) (fun c118=> ?_) (fun c118=> ?_)|refine Aw (s:=118) (Aa U) (fun c118=> ?_) (fun c118=> ?_)
 ·skip
  refine rO tb 16 U (Ah U (J9 U) ?_);exact⟨_,⟨false,⟨rfl,fun h=>by cases h⟩,rfl⟩,sbt⟩
 ·have hb6:=hx6 (by simpa using c118);refine rO tb 1 U (Av (Ka U isAgg23 (by first|exact c_o)) U (Az U U (Aa U)) ?_);refine rO tb 6 U ?_
  first|refine Ac (Aa U) (fun c124=> ?_) (fun c124=> ?_)|refine Af (Aa U) (fun c124=> ?_) (fun c124=> ?_)
  ·skip
   refine rC tb 7 U (Ah U (J9 U) ?_);exact⟨_,⟨false,⟨rfl,fun h=>by cases h⟩,rfl⟩,sbt⟩
  ·have hn6:m.subs.length=n6:=by have h9: ¬ ¬ ((m.subs.length:Nat):Int)=(n6:Nat):=c124;omega
   refine rC tb 9 U ?_;refine Bg (X:=Nat) (V:=fun i=>[(8, .int .i64 (i:Nat))]) (C:=[(1,_),(6,_)]) (G:=fun i=>(n1,Cl (encPd m) 25)::H) (φ:=fun i=>i≤n6∧∀ j,j<i→FmP (gd m.subs j)) (μ:=fun i=>n6 - i) (x0:=0) ?_ ⟨Aa U,Aa U,trivial⟩ ⟨atd,trivial⟩ sb0 ?_
   ·exact⟨Nat.zero_le _,fun j hj=>absurd hj (Nat.not_lt_zero _)⟩
   rintro i ⟨hi,hfm⟩;refine rD tb 8 U ?_
   first|refine Ac (Aa U) (fun c127=> ?_) (fun c127=> ?_)|refine Af (Aa U) (fun c127=> ?_) (fun c127=> ?_)
   ·have hin:i<n6:=by have h9:((i:Nat):Int)<(n6:Nat):=c127;omega
    have hi2:i<m.subs.length:=by omega
    have hss:=szPL_mem (Bj hi2);refine rC tb 7 U (y_ (Ka U isAgg23 (by first|exact c_o)) ?_ U);refine rO tb 1 U (y_ (Ke U U runUnderlying23 sizeOf25 qom (by first|exact rfl|exact hM.arr.b (i:=i) hi2)) ?_ U);refine y_ (Kb U isAgg25 sizeOf25 U (by first|exact(hM.arr.mono (by exact sbt)).cs (i:=i) hi2|exact Ax)) ?_ U;refine e_ (An (qe1 U) call159 (ih ((hM.sub (Bj hi2)).mono (by exact sbt)) qom (hz.sub (Bj hi2)))) ?_ U;rintro _ _ ⟨b1,⟨rfl,hb1⟩,rfl⟩;refine rO tb 6 U ?_
    first|refine Av (Bo (T U)) U Ad ?_|refine Av (B4 (T U)) U Ad ?_
    refine rO tb 2 U ?_
    first|refine Ac (Aa U) (fun c137=> ?_) (fun c137=> ?_)|refine Af (Aa U) (fun c137=> ?_) (fun c137=> ?_)
    ·skip
     refine rC tb 8 U (Ba (rX tb 2 U (Ah U (J9 U) ?_)));exact⟨_,⟨false,⟨rfl,fun h=>by cases h⟩,rfl⟩,sbt⟩
    ·have hbt:b1=true:=by simpa using c137
     refine rC tb 5 U (y_ (Bf (T U) Aj qom) ?_ U);refine rO tb 2 U ?_;refine A4 (i+1) ?_ ?_ ⟨atd,trivial⟩ ⟨Aa U,Aa U,trivial⟩ ?_
     ·refine⟨hin,fun j hj=> ?_⟩
      by_cases e:j=i
      ·subst e;exact hb1 hbt
      ·exact hfm j qom
     ·first|omega|(simp only[];omega)
     ·exact sbt
   ·obtain rfl:i=n6:=by have h9: ¬ ((i:Nat):Int)<(n6:Nat):=c127;omega
    refine rC tb 2 U (As (rX tb 8 U (Ah U (J9 U) ?_)));exact⟨_,⟨true,⟨rfl,fun _=> .mk (by rw[hn6];exact hb6) (C8 (by rw[hn6];exact hfm))⟩,rfl⟩,sbt⟩
theorem fmO_step {w0:World}{H:List (Nat × Obj)}{N:Nat}(hN:N≤1000000000)(ih:FmOS w0 N)(ihP:FmPS w0 N){m:Pom}(hM:PoM w0 H m)(hm:m.sz≤N+1)(hz:NmO m):
  FSpec Tryz.prog w0 117 #[.agg (encPo m).toArray] H (SayB (FmO m) H):=by
 refine Ao Tryz.func117 U ntmps117 U ?_;have hsz:=Ef m;have hln:=Fx m.subs;refine rD tb 2 U (e_ (Kg U cs_) ?_ U);rintro _ _ ⟨n1,rfl,rfl⟩;refine rO tb 6 U (y_ (Ka U isAgg9 (by first|exact c_o)) ?_ U);refine e_ (An (qe1 U) call157 (named_s m.nm hz.self.1)) ?_ U;rintro _ _ ⟨b9,rfl,rfl⟩;refine rO tb 6 U ?_;refine y_ (Kb U isAgg25 sizeOf25 U (by first|exact Jq (by repeat (first|exact Au|refine Ay ?_))|exact Ax)) ?_ U;refine y_ (A2 .nil (zbd25_z)) (e_ (An (qe2 U U) call158 (sameP0_s m.pr)) ?_ U) U;rintro _ _ ⟨b8,rfl,rfl⟩;refine rO tb 3 U ?_;refine D6 (X:=Bool) (V:=fun x5=>[(5, .bool x5)]) (C:=[(1,_),(3,_),(4,_)]) (φ:=fun x5=>True) ⟨Aa U,Aa U,Aa U,trivial⟩ ?_ ?_
 ·refine rD tb 2 U (y_ (Ka U isAgg9 (by first|exact c_o)) ?_ U);refine y_ (Dx (T U) Aj) (rO tb 1 U ?_) U
  first|refine Am (s:=20) (Aa U) (fun c20=> ?_) (fun c20=> ?_)|refine Aw (s:=20) (Aa U) (fun c20=> ?_) (fun c20=> ?_)
  ·refine rO tb 1 U (Av (Ka U isAgg3 (by first|exact c_o)) U (Az U U (Aa U)) ?_);refine rO tb 4 U ?_;refine A6 (decide (m.n=0)) ?_ ⟨atd,trivial⟩ ⟨Aa U,Aa U,Aa U,trivial⟩ sbt
   trivial
  ·refine rO tb 6 U ?_;refine A6 (false) ?_ ⟨atd,trivial⟩ ⟨Aa U,Aa U,Aa U,trivial⟩ sbt
   trivial
 rintro x5 _;refine rC tb 10 U ?_;refine D6 (X:=Bool × Nat) (V:=fun ⟨b6,n6⟩=>[(6, .int .i64 (n6:Nat)),(7, .bool b6)]) (C:=[(1,_)]) (φ:=fun ⟨b6,n6⟩=>(b6=true→LcO m n6)) ⟨Aa rfl,trivial⟩ ?_ ?_
 ·refine rD tb 3 U (y_ (Ka U isAgg3 (by first|exact c_o)) ?_ U);refine rO tb 9 U ?_
  first|refine Ac (Aa U) (fun c27=> ?_) (fun c27=> ?_)|refine Af (Aa U) (fun c27=> ?_) (fun c27=> ?_)
  ·refine rC tb 2 U ?_;refine y_ (Kb U isAgg25 sizeOf25 U (by first|exact Jq (by repeat (first|exact Au|refine Ay ?_))|exact Ax)) ?_ U;refine e_ (An (qe1 U) call159 (ihP (hM.pred.mono (by exact sbt)) qom hz.self.2)) ?_ U;rintro _ _ ⟨b2,⟨rfl,hb2⟩,rfl⟩;refine rO tb 1 U ?_
   first|refine Am (s:=32) (Aa U) (fun c32=> ?_) (fun c32=> ?_)|refine Aw (s:=32) (Aa U) (fun c32=> ?_) (fun c32=> ?_)
   ·refine rO tb 5 U ?_;refine A6 ((x5,0)) ?_ ⟨atd,atd,trivial⟩ ⟨Aa U,trivial⟩ sbt;intro h;unfold LcO
    first|(exact absurd h qde)|omega|(have:=hb2 c32;exact .inl ⟨rfl, .inl ⟨c27,this⟩⟩)
   ·refine rO tb 5 U ?_;refine A6 ((false,0)) ?_ ⟨atd,atd,trivial⟩ ⟨Aa U,trivial⟩ sbt;intro h;unfold LcO
    first|(exact absurd h qde)|omega|(have:=hb2 c32;exact .inl ⟨rfl, .inl ⟨c27,this⟩⟩)
  ·refine rC tb 6 U ?_
   first|refine Ac (Aa U) (fun c35=> ?_) (fun c35=> ?_)|refine Af (Aa U) (fun c35=> ?_) (fun c35=> ?_)
   ·refine rC tb 3 U ?_
    first|refine Am (s:=38) (Aa U) (fun c38=> ?_) (fun c38=> ?_)|refine Aw (s:=38) (Aa U) (fun c38=> ?_) (fun c38=> ?_)
    ·refine rO tb 3 U ?_
     first|refine Am (s:=41) (Aa U) (fun c41=> ?_) (fun c41=> ?_)|refine Aw (s:=41) (Aa U) (fun c41=> ?_) (fun c41=> ?_)
     ·refine rO tb 1 U (Av (Ka U isAgg3 (by first|exact c_o)) U (Az U U (Aa U)) ?_);refine rO tb 3 U ?_
      first|refine Am (s:=46) (Aa U) (fun c46=> ?_) (fun c46=> ?_)|refine Aw (s:=46) (Aa U) (fun c46=> ?_) (fun c46=> ?_)
      ·refine rO tb 1 U (Av (Ka U isAgg3 (by first|exact c_o)) U (Az U U (Aa U)) ?_);refine rO tb 5 U ?_;refine A6 ((decide (m.n≤65535),0)) ?_ ⟨atd,atd,trivial⟩ ⟨Aa U,trivial⟩ sbt;intro h;unfold LcO
       first|(exact absurd h qde)|omega|(have:=hb2 c32;exact .inl ⟨rfl, .inl ⟨c27,this⟩⟩)
      ·refine rO tb 7 U ?_;refine A6 ((false,0)) ?_ ⟨atd,atd,trivial⟩ ⟨Aa U,trivial⟩ sbt;intro h;unfold LcO
       first|(exact absurd h qde)|omega|(have:=hb2 c32;exact .inl ⟨rfl, .inl ⟨c27,this⟩⟩)
     ·refine rO tb 12 U ?_;refine A6 ((false,0)) ?_ ⟨atd,atd,trivial⟩ ⟨Aa U,trivial⟩ sbt;intro h;unfold LcO
      first|(exact absurd h qde)|omega|(have:=hb2 c32;exact .inl ⟨rfl, .inl ⟨c27,this⟩⟩)
    ·refine rO tb 15 U ?_;refine A6 ((false,0)) ?_ ⟨atd,atd,trivial⟩ ⟨Aa U,trivial⟩ sbt;intro h;unfold LcO
     first|(exact absurd h qde)|omega|(have:=hb2 c32;exact .inl ⟨rfl, .inl ⟨c27,this⟩⟩)
   ·refine rC tb 7 U ?_
    first|refine Ac (Aa U) (fun c51=> ?_) (fun c51=> ?_)|refine Af (Aa U) (fun c51=> ?_) (fun c51=> ?_)
    ·refine rC tb 2 U ?_
     first|refine C2 (Aa U) ?_|refine C2 (Ae (Aa U) (vbool (decide_eq_true c51))) ?_
     refine rC tb 4 U ?_
     first|refine Am (s:=55) (Aa U) (fun c55=> ?_) (fun c55=> ?_)|refine Aw (s:=55) (Aa U) (fun c55=> ?_) (fun c55=> ?_)
     ·refine rO tb 9 U ?_;refine A6 ((x5,2)) ?_ ⟨atd,atd,trivial⟩ ⟨Aa U,trivial⟩ sbt;intro h;unfold LcO
      first|(exact absurd h qde)|omega|(have:=hb2 c32;exact .inl ⟨rfl, .inl ⟨c27,this⟩⟩)
     ·refine rO tb 9 U ?_;refine A6 ((false,2)) ?_ ⟨atd,atd,trivial⟩ ⟨Aa U,trivial⟩ sbt;intro h;unfold LcO
      first|(exact absurd h qde)|omega|(have:=hb2 c32;exact .inl ⟨rfl, .inl ⟨c27,this⟩⟩)
    ·refine rC tb 5 U ?_
     first|refine Ac (Aa U) (fun c51=> ?_) (fun c51=> ?_)|refine Af (Aa U) (fun c51=> ?_) (fun c51=> ?_)
     ·refine rC tb 4 U ?_
      first|refine Am (s:=55) (Aa U) (fun c55=> ?_) (fun c55=> ?_)|refine Aw (s:=55) (Aa U) (fun c55=> ?_) (fun c55=> ?_)
      ·refine rO tb 9 U ?_;refine A6 ((x5,2)) ?_ ⟨atd,atd,trivial⟩ ⟨Aa U,trivial⟩ sbt;intro h;unfold LcO
       first|(exact absurd h qde)|omega|(have:=hb2 c32;exact .inl ⟨rfl, .inl ⟨c27,this⟩⟩)
      ·refine rO tb 9 U ?_;refine A6 ((false,2)) ?_ ⟨atd,atd,trivial⟩ ⟨Aa U,trivial⟩ sbt;intro h;unfold LcO
       first|(exact absurd h qde)|omega|(have:=hb2 c32;exact .inl ⟨rfl, .inl ⟨c27,this⟩⟩)
     ·refine rC tb 6 U ?_
      first|refine Ac (Aa U) (fun c58=> ?_) (fun c58=> ?_)|refine Af (Aa U) (fun c58=> ?_) (fun c58=> ?_)
      ·refine rC tb 4 U ?_
       first|refine Am (s:=61) (Aa U) (fun c61=> ?_) (fun c61=> ?_)|refine Aw (s:=61) (Aa U) (fun c61=> ?_) (fun c61=> ?_)
       ·refine rO tb 9 U ?_;refine A6 ((x5,1)) ?_ ⟨atd,atd,trivial⟩ ⟨Aa U,trivial⟩ sbt;intro h;unfold LcO
        first|(exact absurd h qde)|omega|(have:=hb2 c32;exact .inl ⟨rfl, .inl ⟨c27,this⟩⟩)
       ·refine rO tb 9 U ?_;refine A6 ((false,1)) ?_ ⟨atd,atd,trivial⟩ ⟨Aa U,trivial⟩ sbt;intro h;unfold LcO
        first|(exact absurd h qde)|omega|(have:=hb2 c32;exact .inl ⟨rfl, .inl ⟨c27,this⟩⟩)
      ·refine rC tb 2 U ?_;refine A6 ((false,0)) ?_ ⟨atd,atd,trivial⟩ ⟨Aa U,trivial⟩ sbt;intro h;unfold LcO
       first|(exact absurd h qde)|omega|(have:=hb2 c32;exact .inl ⟨rfl, .inl ⟨c27,this⟩⟩)
 rintro⟨b6,n6⟩ hx6;refine rC tb 4 U ?_
 first|refine Av (Bo (T U)) U Ad ?_|refine Av (B4 (T U)) U Ad ?_
 refine rO tb 1 U ?_
 first|refine Am (s:=66) (Aa U) (fun c66=> ?_) (fun c66=> ?_)|refine Aw (s:=66) (Aa U) (fun c66=> ?_) (fun c66=> ?_)
 ·skip
  refine rO tb 16 U (Ah U (J9 U) ?_);exact⟨_,⟨false,⟨rfl,fun h=>by cases h⟩,rfl⟩,sbt⟩
 ·have hb6:=hx6 (by simpa using c66);refine rO tb 1 U (Av (Ka U isAgg26 (by first|exact c_o)) U (Az U U (Aa U)) ?_);refine rO tb 6 U ?_
  first|refine Ac (Aa U) (fun c72=> ?_) (fun c72=> ?_)|refine Af (Aa U) (fun c72=> ?_) (fun c72=> ?_)
  ·skip
   refine rC tb 7 U (Ah U (J9 U) ?_);exact⟨_,⟨false,⟨rfl,fun h=>by cases h⟩,rfl⟩,sbt⟩
  ·have hn6:m.subs.length=n6:=by have h9: ¬ ¬ ((m.subs.length:Nat):Int)=(n6:Nat):=c72;omega
   refine rC tb 9 U ?_;refine Bg (X:=Nat) (V:=fun i=>[(8, .int .i64 (i:Nat))]) (C:=[(1,_),(6,_)]) (G:=fun i=>(n1,Cl (encPo m) 28)::H) (φ:=fun i=>i≤n6∧∀ j,j<i→FmO (gd m.subs j)) (μ:=fun i=>n6 - i) (x0:=0) ?_ ⟨Aa U,Aa U,trivial⟩ ⟨atd,trivial⟩ sb0 ?_
   ·exact⟨Nat.zero_le _,fun j hj=>absurd hj (Nat.not_lt_zero _)⟩
   rintro i ⟨hi,hfm⟩;refine rD tb 8 U ?_
   first|refine Ac (Aa U) (fun c75=> ?_) (fun c75=> ?_)|refine Af (Aa U) (fun c75=> ?_) (fun c75=> ?_)
   ·have hin:i<n6:=by have h9:((i:Nat):Int)<(n6:Nat):=c75;omega
    have hi2:i<m.subs.length:=by omega
    have hss:=szOL_mem (Bj hi2);refine rC tb 7 U (y_ (Ka U isAgg26 (by first|exact c_o)) ?_ U);refine rO tb 1 U (y_ (Ke U U runUnderlying26 sizeOf28 qom (by first|exact rfl|exact hM.arr.b (i:=i) hi2)) ?_ U);refine y_ (Kb U isAgg28 sizeOf28 U (by first|exact(hM.arr.mono (by exact sbt)).cs (i:=i) hi2|exact Ax)) ?_ U;refine e_ (An (qe1 U) call117 (ih ((hM.sub (Bj hi2)).mono (by exact sbt)) qom (hz.sub (Bj hi2)))) ?_ U;rintro _ _ ⟨b1,⟨rfl,hb1⟩,rfl⟩;refine rO tb 6 U ?_
    first|refine Av (Bo (T U)) U Ad ?_|refine Av (B4 (T U)) U Ad ?_
    refine rO tb 2 U ?_
    first|refine Ac (Aa U) (fun c85=> ?_) (fun c85=> ?_)|refine Af (Aa U) (fun c85=> ?_) (fun c85=> ?_)
    ·skip
     refine rC tb 8 U (Ba (rX tb 2 U (Ah U (J9 U) ?_)));exact⟨_,⟨false,⟨rfl,fun h=>by cases h⟩,rfl⟩,sbt⟩
    ·have hbt:b1=true:=by simpa using c85
     refine rC tb 5 U (y_ (Bf (T U) Aj qom) ?_ U);refine rO tb 2 U ?_;refine A4 (i+1) ?_ ?_ ⟨atd,trivial⟩ ⟨Aa U,Aa U,trivial⟩ ?_
     ·refine⟨hin,fun j hj=> ?_⟩
      by_cases e:j=i
      ·subst e;exact hb1 hbt
      ·exact hfm j qom
     ·first|omega|(simp only[];omega)
     ·exact sbt
   ·obtain rfl:i=n6:=by have h9: ¬ ((i:Nat):Int)<(n6:Nat):=c75;omega
    refine rC tb 2 U (As (rX tb 8 U (Ah U (J9 U) ?_)));exact⟨_,⟨true,⟨rfl,fun _=> .mk (by rw[hn6];exact hb6) (C8 (by rw[hn6];exact hfm))⟩,rfl⟩,sbt⟩
theorem fmP_s {w0:World}(N:Nat)(hN:N≤1000000000):FmPS w0 N:=by
 induction N with
 |zero=>intro H m _ h _;have:=Hh m;omega
 |succ N ih=>
  have ih:FmPS w0 N:=ih qom;intro H m hM hm hz;exact fmP_step qom ih hM hm hz
theorem fmO_s {w0:World}(N:Nat)(hN:N≤1000000000):FmOS w0 N:=by
 induction N with
 |zero=>intro H m _ h _;have:=Ef m;omega
 |succ N ih=>
  have ih:FmOS w0 N:=ih qom;intro H m hM hm hz;exact fmO_step qom ih (fmP_s N qom) hM hm hz
theorem limit_s {w0:World}{H:List (Nat × Obj)}(n:Nat)(d:Int):
  FSpec Tryz.prog w0 156 #[szV n d] H (fun u H'=>∃ e:Int,(u= .int .i64 e∧(e=0→n≤200))∧H'=H):=by
 refine Ao Tryz.func156 U ntmps156 U (rD tb 2 U (e_ (Kg U cs_) ?_ U));rintro _ _ ⟨n1,rfl,rfl⟩;refine rO tb 7 U (y_ (Ka U isAgg3 (by first|exact c_o)) ?_ U);refine rO tb 2 U ?_
 first|refine Am (s:=6) (Aa U) (fun c6=> ?_) (fun c6=> ?_)|refine Aw (s:=6) (Aa U) (fun c6=> ?_) (fun c6=> ?_)
 ·skip
  refine rO tb 14 U (Ah U (J9 U) ?_);exact⟨_,⟨2,⟨rfl,fun h=>absurd h qde⟩,rfl⟩,sbt⟩
 ·have hn:n≤200:=by have h9: ¬ ((n:Nat):Int)>200:=c6;omega
  refine rO tb 1 U (Av (Ka U isAgg3 (by first|exact c_o)) U (Az U U (Aa U)) ?_);refine rO tb 4 U ?_
  first|refine Ac (Aa U) (fun c10=> ?_) (fun c10=> ?_)|refine Af (Aa U) (fun c10=> ?_) (fun c10=> ?_)
  ·refine rC tb 7 U (Ah U (J9 U) ?_);exact⟨_,⟨2,⟨rfl,fun h=>absurd h qde⟩,rfl⟩,sbt⟩
  ·refine rC tb 8 U (Ah U (J9 U) ?_);exact⟨_,⟨0,⟨rfl,fun h=>hn⟩,rfl⟩,sbt⟩
theorem formed_s {w0:World}{H:List (Nat × Obj)}(n:Nat)(d:Int)(b:Bool):
  FSpec Tryz.prog w0 116 #[szV n d, .bool b] H (fun u H'=>∃ e:Int,(u= .int .i64 e∧(e=0→n≤200∧b=true))∧H'=H):=by
 refine Ao Tryz.func116 U ntmps116 U (rD tb 2 U (e_ (Kg U cs_) ?_ U));rintro _ _ ⟨n2,rfl,rfl⟩;refine rO tb 5 U (y_ (Kb U isAgg84 sizeOf84 U (by first|exact Ax)) ?_ U);refine e_ (An (qe1 U) call156 (limit_s n d)) ?_ U;rintro _ _ ⟨e1,⟨rfl,he1⟩,rfl⟩;refine rO tb 9 U ?_
 first|refine Am (s:=10) (Aa U) (fun c10=> ?_) (fun c10=> ?_)|refine Aw (s:=10) (Aa U) (fun c10=> ?_) (fun c10=> ?_)
 ·refine rO tb 1 U ?_
  first|refine Av (Bo (T U)) U (Az U U (Aa U)) ?_|refine Av (B4 (T U)) U (Az U U (Aa U)) ?_
  refine rO tb 3 U ?_
  first|refine Ac (Aa U) (fun c13=> ?_) (fun c13=> ?_)|refine Af (Aa U) (fun c13=> ?_) (fun c13=> ?_)
  ·refine rC tb 7 U (Ah U (J9 U) ?_);exact⟨_,⟨1,⟨rfl,fun h=>absurd h qde⟩,rfl⟩,sbt⟩
  ·refine rC tb 9 U (Ah U (J9 U) ?_);exact⟨_,⟨e1,⟨rfl,fun h=>⟨he1 h,by simpa using c13⟩⟩,rfl⟩,sbt⟩
 ·refine rO tb 15 U (Ah U (J9 U) ?_);exact⟨_,⟨e1,⟨rfl,fun h=>absurd h c10⟩,rfl⟩,sbt⟩
theorem checkO_s {w0:World}{H:List (Nat × Obj)}{m:Pom}(hM:PoM w0 H m)(hm:m.sz≤1000000000)(hz:NmO m):
  FSpec Tryz.prog w0 84 #[.agg (encPo m).toArray] H (fun u H'=>∃ e:Int,(u= .int .i64 e∧(e=0→m.nd≤200∧FmO m))∧H'=H):=by
 refine Ao Tryz.func84 U ntmps84 U (rD tb 2 U (e_ (Kg U cs_) ?_ U));rintro _ _ ⟨n1,rfl,rfl⟩;refine rO tb 4 U (Bm 3 [(0,true),(2,true),(1,false)] ((n1,Cl (encPo m) 28)::H) mixd qkr sb0 ?_ Bz);refine o_y U (Kb U isAgg28 sizeOf28 U (by first|exact Ax)) ?_ U Ad;refine o_y U (Kb U isAgg28 sizeOf28 U (by first|exact Ax)) ?_ U Ad;refine o_e U (An (qe1 U) call41 (szO_s _ hm (hM.mono (by exact sbt)) (Nat.le_refl _))) ?_ U Ad;rintro _ _ ⟨z1,⟨rfl,y1,x1⟩,rfl⟩;refine⟨sbt,(A9 U (e_ (An (qe1 U) call117 (fmO_s _ hm (hM.mono (by exact sbt)) (Nat.le_refl _) hz)) ?_ U))⟩;rintro _ _ ⟨b1,⟨rfl,hb1⟩,rfl⟩;refine e_ (An (qe2 U U) call116 (formed_s _ _ _)) ?_ U;rintro _ _ ⟨e1,⟨rfl,he1⟩,rfl⟩;refine rO tb 4 U (Ah U (J9 U) ?_);exact⟨_,⟨e1,⟨rfl,fun h=>⟨(he1 h).1,hb1 (he1 h).2⟩⟩,rfl⟩,by exact sbt⟩
theorem zbs23_1_0 (a0:Int)(a1:ByteArray)(a2:Int)(a3:Int)(a4:Option Addr)(a4n a4c:Nat)(w:World):(Instr.buildSlice 23 1 #[(0, .agg #[.int .i64 a0, .string a1, .int .i64 a2, .int .i64 a3, .slice a4 a4n a4c])]).run Tryz.prog w= .ok (.slice (some ⟨w.heap.size,0,none⟩) 1 1) (w.alloc (Cl [.int .i64 a0, .string a1, .int .i64 a2, .int .i64 a3, .slice a4 a4n a4c] 25)):=by kernel_rfl
theorem zbs26_1_0 (a0:Int)(a1:Int)(a2:ByteArray)(a3:Int)(a4:Int)(a5:Option Addr)(a5n a5c:Nat)(a6:ByteArray)(a7:Int)(a8:Option Addr)(a8n a8c:Nat)(w:World):(Instr.buildSlice 26 1 #[(0, .agg #[.int .i64 a0, .int .i64 a1, .string a2, .int .i64 a3, .int .i64 a4, .slice a5 a5n a5c, .string a6, .int .i64 a7, .slice a8 a8n a8c])]).run Tryz.prog w= .ok (.slice (some ⟨w.heap.size,0,none⟩) 1 1) (w.alloc (Cl [.int .i64 a0, .int .i64 a1, .string a2, .int .i64 a3, .int .i64 a4, .slice a5 a5n a5c, .string a6, .int .i64 a7, .slice a8 a8n a8c] 28)):=by kernel_rfl
def PrP (w0:World) (N:Nat):Prop:=∀ {H:List (Nat × Obj)} {m:Pdm},PdM w0 H m→m.sz≤N→FSpec Tryz.prog w0 118 #[.agg (encPd m).toArray] H (fun u H'=>∃ d:Sl,(u=slV d (prtP m).length∧SlOk d (prtP m).length 5)∧H'=slH d ((prtP m).flatMap encPd) 25++H)
theorem prtP_step {w0:World}{H:List (Nat × Obj)}{N:Nat}(hN:N≤1000000000)(ih:PrP w0 N){m:Pdm}(hM:PdM w0 H m)(hm:m.sz≤N+1):
  FSpec Tryz.prog w0 118 #[.agg (encPd m).toArray] H (fun u H'=>∃ d:Sl,(u=slV d (prtP m).length∧SlOk d (prtP m).length 5)∧H'=slH d ((prtP m).flatMap encPd) 25++H):=by
 refine Ao Tryz.func118 U ntmps118 U ?_;have hsz:=Hh m;have hln:=szPL_len m.subs;have hpm:=Fj m;refine rD tb 2 U (e_ (Kg U cs_) ?_ U);rintro _ _ ⟨n1,rfl,rfl⟩;refine rO tb 5 U (y_ (Kb U isAgg25 sizeOf25 U (by first|exact Ax)) ?_ U);refine e_ (A8 (.cons (T U) .nil) (zbs23_1_0 _ _ _ _ _ _ _)) ?_ U;rintro _ _ ⟨n6,rfl,rfl⟩;refine rO tb 10 U ?_;refine Bg (X:=Nat × Sl) (V:=fun ⟨i,d⟩=>[(3,slV d (m::prtPL (m.subs.take i)).length),(4, .int .i64 (i:Nat))]) (C:=[(1,_)]) (G:=fun ⟨i,d⟩=>slH d ((m::prtPL (m.subs.take i)).flatMap encPd) 25++((n1,Cl (encPd m) 25)::H)) (φ:=fun ⟨i,d⟩=>i≤m.subs.length∧SlOk d (m::prtPL (m.subs.take i)).length 5) (μ:=fun ⟨i,d⟩=>m.subs.length - i) (x0:=(0, .blk n6 1 [])) ?_ ⟨Aa rfl,trivial⟩ ⟨(by first|exact Aa rfl|(refine Ae (Aa rfl) (vint ?_);omega)|(refine Ae (Aa rfl) ?_;simp;done)|(refine Ae (Aa rfl) ?_;exact(by rw[e9,List.length_append]))),(by first|exact Aa rfl|(refine Ae (Aa rfl) (vint ?_);omega)|(refine Ae (Aa rfl) ?_;simp;done)|(refine Ae (Aa rfl) ?_;exact(by rw[e9,List.length_append]))),trivial⟩ (by exact List.Sublist.refl _) ?_
 ·exact⟨Nat.zero_le _,Nat.le_refl _,rfl⟩
 rintro⟨i,d⟩ ⟨hi,hd⟩;refine rD tb 5 U (y_ (Ka U isAgg23 (by first|exact c_o|exact Ai (by exact Bv Au:Fnd _ n1 (Cl (encPd m) 25)) 4 _ U)) ?_ U);refine rO tb 4 U ?_
 first|refine Ac (Aa U) (fun c11=> ?_) (fun c11=> ?_)|refine Af (Aa U) (fun c11=> ?_) (fun c11=> ?_)
 ·have hi2:i<m.subs.length:=by have h9:((i:Nat):Int)<(m.subs.length:Nat):=c11;omega
  have htk:=prtPL_take hi2;have hss:=szPL_mem (Bj hi2);have hl1:=prtPL_len (m.subs.take i);have hl2:=szPL_all (l:=m.subs) i;have hl3:=prtP_len (gd m.subs i);have e9:(m::prtPL (m.subs.take (i+1)))=(m::prtPL (m.subs.take i))++prtP (gd m.subs i):=by rw[htk];rfl
  refine rC tb 7 U (y_ (Ka U isAgg23 (by first|exact c_o|exact Ai (by exact Bv Au:Fnd _ n1 (Cl (encPd m) 25)) 4 _ U)) ?_ U);refine rO tb 1 U (y_ (Ke U U runUnderlying23 sizeOf25 qom (by first|exact rfl|exact hM.arr.b (i:=i) hi2)) ?_ U);refine y_ (Kb U isAgg25 sizeOf25 U (by first|exact(hM.arr.mono (by exact sbt)).cs (i:=i) hi2|exact Ax)) ?_ U;refine e_ (An (qe1 U) call118 (ih ((hM.sub (Bj hi2)).mono (by exact sbt)) qom)) ?_ U;rintro _ _ ⟨d2,⟨rfl,hd2⟩,rfl⟩;refine e_ (Em (enc:=encPd) (l:=m::prtPL (m.subs.take i)) (prtP (gd m.subs i)) (by':=64) (.a .h) (T U) (T U) runUnderlying23 runUnderlying23 sizeOf25 typeInfo25 U zeroValue25 U (fun _=>rfl) (fun _=>rfl) hd qde (by rw[List.length_cons];omega) ((C0 (w0:=w0) (e:=25) (X:=[]) (enc:=encPd) (fun _=>rfl) hd2).mono (by rw[List.append_nil];exact List.sublist_append_left _ _))) ?_ U;rintro _ _ ⟨d3,rfl,hd3,rfl⟩;refine rO tb 6 U (y_ (Bf (T U) Aj qom) ?_ U);refine rO tb 2 U ?_;refine A4 ((i+1,d3)) ?_ ?_ ⟨(by first|exact Aa U|(refine Ae (Aa U) (vint ?_);omega)|(refine Ae (Aa U) ?_;simp;done)|(refine Ae (Aa U) ?_;exact(by rw[e9,List.length_append]))),(by first|exact Aa U|(refine Ae (Aa U) (vint ?_);omega)|(refine Ae (Aa U) ?_;simp;done)|(refine Ae (Aa U) ?_;exact(by rw[e9,List.length_append]))),trivial⟩ ⟨Aa U,trivial⟩ ?_
  ·exact⟨hi2,by rw[e9,List.length_append];exact hd3⟩
  ·first|omega|(simp only[];omega)
  ·dsimp only;rw[e9];exact List.sublist_append_right _ _
 ·obtain rfl:i=m.subs.length:=by have h9: ¬ ((i:Nat):Int)<(m.subs.length:Nat):=c11;omega
  have htl:m.subs.take m.subs.length=m.subs:=List.take_length;refine rC tb 2 U (As (rX tb 9 U (Ah U (J9 U) ?_)));exact⟨_,⟨d,⟨by rw[hpm,htl] at *;rfl,by rw[hpm];rw[htl] at hd;exact hd⟩,rfl⟩,by dsimp only;rw[hpm,htl];exact sbt⟩
theorem prtP_s {w0:World}(N:Nat)(hN:N≤1000000000):PrP w0 N:=by
 induction N with
 |zero=>intro H m _ h;have:=Hh m;omega
 |succ N ih=>
  have ih:PrP w0 N:=ih qom;intro H m hM hm;exact prtP_step qom ih hM hm
def PrO (w0:World) (N:Nat):Prop:=∀ {H:List (Nat × Obj)} {m:Pom},PoM w0 H m→m.sz≤N→FSpec Tryz.prog w0 85 #[.agg (encPo m).toArray] H (fun u H'=>∃ d:Sl,(u=slV d (prtO m).length∧SlOk d (prtO m).length 9)∧H'=slH d ((prtO m).flatMap encPo) 28++H)
theorem prtO_step {w0:World}{H:List (Nat × Obj)}{N:Nat}(hN:N≤1000000000)(ih:PrO w0 N){m:Pom}(hM:PoM w0 H m)(hm:m.sz≤N+1):
  FSpec Tryz.prog w0 85 #[.agg (encPo m).toArray] H (fun u H'=>∃ d:Sl,(u=slV d (prtO m).length∧SlOk d (prtO m).length 9)∧H'=slH d ((prtO m).flatMap encPo) 28++H):=by
 refine Ao Tryz.func85 U ntmps85 U ?_;have hsz:=Ef m;have hln:=Fx m.subs;have hpm:=Fk m;refine rD tb 2 U (e_ (Kg U cs_) ?_ U);rintro _ _ ⟨n1,rfl,rfl⟩;refine rO tb 5 U (y_ (Kb U isAgg28 sizeOf28 U (by first|exact Ax)) ?_ U);refine e_ (A8 (.cons (T U) .nil) (zbs26_1_0 _ _ _ _ _ _ _ _ _ _ _ _ _)) ?_ U;rintro _ _ ⟨n6,rfl,rfl⟩;refine rO tb 10 U ?_;refine Bg (X:=Nat × Sl) (V:=fun ⟨i,d⟩=>[(3,slV d (m::prtOL (m.subs.take i)).length),(4, .int .i64 (i:Nat))]) (C:=[(1,_)]) (G:=fun ⟨i,d⟩=>slH d ((m::prtOL (m.subs.take i)).flatMap encPo) 28++((n1,Cl (encPo m) 28)::H)) (φ:=fun ⟨i,d⟩=>i≤m.subs.length∧SlOk d (m::prtOL (m.subs.take i)).length 9) (μ:=fun ⟨i,d⟩=>m.subs.length - i) (x0:=(0, .blk n6 1 [])) ?_ ⟨Aa rfl,trivial⟩ ⟨(by first|exact Aa rfl|(refine Ae (Aa rfl) (vint ?_);omega)|(refine Ae (Aa rfl) ?_;simp;done)|(refine Ae (Aa rfl) ?_;exact(by rw[e9,List.length_append]))),(by first|exact Aa rfl|(refine Ae (Aa rfl) (vint ?_);omega)|(refine Ae (Aa rfl) ?_;simp;done)|(refine Ae (Aa rfl) ?_;exact(by rw[e9,List.length_append]))),trivial⟩ (by exact List.Sublist.refl _) ?_
 ·exact⟨Nat.zero_le _,Nat.le_refl _,rfl⟩
 rintro⟨i,d⟩ ⟨hi,hd⟩;refine rD tb 5 U (y_ (Ka U isAgg26 (by first|exact c_o|exact Ai (by exact Bv Au:Fnd _ n1 (Cl (encPo m) 28)) 8 _ U)) ?_ U);refine rO tb 4 U ?_
 first|refine Ac (Aa U) (fun c11=> ?_) (fun c11=> ?_)|refine Af (Aa U) (fun c11=> ?_) (fun c11=> ?_)
 ·have hi2:i<m.subs.length:=by have h9:((i:Nat):Int)<(m.subs.length:Nat):=c11;omega
  have htk:=prtOL_take hi2;have hss:=szOL_mem (Bj hi2);have hl1:=prtOL_len (m.subs.take i);have hl2:=Fw (l:=m.subs) i;have hl3:=prtO_len (gd m.subs i);have e9:(m::prtOL (m.subs.take (i+1)))=(m::prtOL (m.subs.take i))++prtO (gd m.subs i):=by rw[htk];rfl
  refine rC tb 7 U (y_ (Ka U isAgg26 (by first|exact c_o|exact Ai (by exact Bv Au:Fnd _ n1 (Cl (encPo m) 28)) 8 _ U)) ?_ U);refine rO tb 1 U (y_ (Ke U U runUnderlying26 sizeOf28 qom (by first|exact rfl|exact hM.arr.b (i:=i) hi2)) ?_ U);refine y_ (Kb U isAgg28 sizeOf28 U (by first|exact(hM.arr.mono (by exact sbt)).cs (i:=i) hi2|exact Ax)) ?_ U;refine e_ (An (qe1 U) call85 (ih ((hM.sub (Bj hi2)).mono (by exact sbt)) qom)) ?_ U;rintro _ _ ⟨d2,⟨rfl,hd2⟩,rfl⟩;refine e_ (Em (enc:=encPo) (l:=m::prtOL (m.subs.take i)) (prtO (gd m.subs i)) (by':=120) (.a .h) (T U) (T U) runUnderlying26 runUnderlying26 sizeOf28 typeInfo28 U zeroValue28 U (fun _=>rfl) (fun _=>rfl) hd qde (by rw[List.length_cons];omega) ((C0 (w0:=w0) (e:=28) (X:=[]) (enc:=encPo) (fun _=>rfl) hd2).mono (by rw[List.append_nil];exact List.sublist_append_left _ _))) ?_ U;rintro _ _ ⟨d3,rfl,hd3,rfl⟩;refine rO tb 6 U (y_ (Bf (T U) Aj qom) ?_ U);refine rO tb 2 U ?_;refine A4 ((i+1,d3)) ?_ ?_ ⟨(by first|exact Aa U|(refine Ae (Aa U) (vint ?_);omega)|(refine Ae (Aa U) ?_;simp;done)|(refine Ae (Aa U) ?_;exact(by rw[e9,List.length_append]))),(by first|exact Aa U|(refine Ae (Aa U) (vint ?_);omega)|(refine Ae (Aa U) ?_;simp;done)|(refine Ae (Aa U) ?_;exact(by rw[e9,List.length_append]))),trivial⟩ ⟨Aa U,trivial⟩ ?_
  ·exact⟨hi2,by rw[e9,List.length_append];exact hd3⟩
  ·first|omega|(simp only[];omega)
  ·dsimp only;rw[e9];exact List.sublist_append_right _ _
 ·obtain rfl:i=m.subs.length:=by have h9: ¬ ((i:Nat):Int)<(m.subs.length:Nat):=c11;omega
  have htl:m.subs.take m.subs.length=m.subs:=List.take_length;refine rC tb 2 U (As (rX tb 9 U (Ah U (J9 U) ?_)));exact⟨_,⟨d,⟨by rw[hpm,htl] at *;rfl,by rw[hpm];rw[htl] at hd;exact hd⟩,rfl⟩,by dsimp only;rw[hpm,htl];exact sbt⟩
theorem prtO_s {w0:World}(N:Nat)(hN:N≤1000000000):PrO w0 N:=by
 induction N with
 |zero=>intro H m _ h;have:=Ef m;omega
 |succ N ih=>
  have ih:PrO w0 N:=ih qom;intro H m hM hm;exact prtO_step qom ih hM hm
theorem Eo (a0:ByteArray)(a1:Int)(a2:Int)(w:World):(Instr.build 67 #[(0, .string a0),(1, .int .i64 a1),(2, .int .i64 a2)]).run Tryz.prog w= .ok (.agg #[.string a0, .int .i64 a1, .int .i64 a2]) w:=by kernel_rfl
theorem rport_s {w0:World}{H:List (Nat × Obj)}  :
  FSpec Tryz.prog w0 120 #[] H (Still (.agg (encF portFd).toArray) H):=by
 refine Ao Tryz.func120 U ntmps120 U (rD tb 2 U (e_ (Al zeroValue67 cs_) ?_ U));rintro _ _ ⟨n0,rfl,rfl⟩;refine rO tb 4 U (y_ (A2 (.cons Aj (.cons Aj (.cons Aj .nil))) (Eo _ _ _)) ?_ U)
 first|refine A1 (Kf U U sizeOf67) U Ad ?_
 rintro _ _ ⟨rfl,rfl⟩;refine rO tb 3 U (Ah U (.cellA (Aa U) isAgg67 sizeOf67 U (by first|exact Ax) .nil) ?_);exact⟨_,⟨rfl,rfl⟩,sbt⟩
theorem Hi {w0:World}{H:List (Nat × Obj)}(fl:List Fd)(q:Option Addr)(c:Nat)(hA:Arr w0 H q 3 encF fl)(hl:fl.length≤1000000)(nm:ByteArray):
  FSpec Tryz.prog w0 87 #[.slice q fl.length c, .string nm] H (Still (.tuple #[.agg (encF (fndFd fl nm).1).toArray, .bool (fndFd fl nm).2]) H):=by
 refine Ao Tryz.func87 U ntmps87 U (rD tb 2 U (e_ (Al zeroValue67 cs_) ?_ U));rintro _ _ ⟨n4,rfl,rfl⟩;refine rO tb 7 U (y_ (Dx (T U) Aj) (rO tb 2 U ?_) U)
 first|refine Ac (Aa U) (fun c8=> ?_) (fun c8=> ?_)|refine Af (Aa U) (fun c8=> ?_) (fun c8=> ?_)
 ·have hp:nm=portN:=nm_eq.1 c8;refine rC tb 2 U (y_ (Ak .nil call120 (fun H' hs=>rport_s)) ?_ U)
  first|refine A1 (Kf U U sizeOf67) U Ad ?_
  rintro _ _ ⟨rfl,rfl⟩;refine rO tb 5 U (Ah U (.cellA (Aa U) isAgg67 sizeOf67 U (by first|exact Ax) (J9 U)) ?_);exact⟨_,⟨by unfold fndFd;rw[if_pos hp];rfl,rfl⟩,sbt⟩
 ·have hp: ¬ nm=portN:=fun e=>c8 (nm_eq.2 e)
  refine rC tb 9 U ?_;refine Bg (X:=Nat) (V:=fun k=>[(6, .int .i64 (k:Nat))]) (C:=[(0,_),(1,_),(4,_)]) (G:=fun k=>(n4,Cl [.string ⟨#[]⟩, .int .i64 0, .int .i64 0] 67)::H) (φ:=fun k=>k≤fl.length∧idxF nm fl 0=idxF nm (fl.drop k) k) (μ:=fun k=>fl.length - k) (x0:=0) ?_ ⟨Aa U,Aa U,Aa U,trivial⟩ ⟨atd,trivial⟩ sb0 ?_
  ·exact⟨Nat.zero_le _,rfl⟩
  rintro k ⟨hk,hix⟩;refine rD tb 9 U ?_
  first|refine Ac (Aa U) (fun c13=> ?_) (fun c13=> ?_)|refine Af (Aa U) (fun c13=> ?_) (fun c13=> ?_)
  ·have hk2:k<fl.length:=by have h9:((k:Nat):Int)<(fl.length:Nat):=c13;omega
   refine rC tb 8 U (y_ (Ke U U runUnderlying22 sizeOf67 qom (by first|exact rfl|exact(hA k (gd fl k) (B3 qom)).1)) ?_ U);refine rO tb 1 U (y_ (Ka U isAgg9 (by first|exact c_o|exact(hA.mono (by exact sbt)).cs (i:=k) qom 0 _ U)) ?_ U);refine rO tb 1 U (y_ (Dx (T U) (T U)) (rO tb 2 U ?_) U)
   first|refine Ac (Aa U) (fun c22=> ?_) (fun c22=> ?_)|refine Af (Aa U) (fun c22=> ?_) (fun c22=> ?_)
   ·have heq:(gd fl k).nm=nm:=nm_eq.1 c22;refine rC tb 4 U (y_ (Ke U U runUnderlying22 sizeOf67 qom (by first|exact rfl|exact(hA k (gd fl k) (B3 qom)).1)) ?_ U);refine y_ (Kb U isAgg67 sizeOf67 U (by first|exact(hA.mono (by exact sbt)).cs (i:=k) qom|exact Ax)) ?_ U
    first|refine A1 (Kf U U sizeOf67) U Ad ?_
    rintro _ _ ⟨rfl,rfl⟩;refine rO tb 6 U (Ba (rX tb 2 U (Ah U (.cellA (Aa U) isAgg67 sizeOf67 U (by first|exact Ax) (J9 U)) ?_)));exact⟨_,⟨by unfold fndFd;rw[if_neg hp,hix,Gc qom,if_pos heq];rfl,rfl⟩,sbt⟩
   ·have hne: ¬ (gd fl k).nm=nm:=fun e=>c22 (nm_eq.2 e)
    refine rC tb 5 U (y_ (Bf (T U) Aj qom) ?_ U);refine rO tb 2 U ?_;refine A4 (k+1) ?_ ?_ ⟨atd,trivial⟩ ⟨Aa U,Aa U,Aa U,trivial⟩ ?_
    ·exact⟨by omega,by rw[hix,Gc qom,if_neg hne]⟩
    ·first|omega|(simp only[];omega)
    ·exact sbt
  ·obtain rfl:k=fl.length:=by have h9: ¬ ((k:Nat):Int)<(fl.length:Nat):=c13;omega
   refine rC tb 2 U (As (rX tb 4 U (y_ (A2 .nil (zbd67_z)) ?_ U)))
   first|refine A1 (Kf U U sizeOf67) U Ad ?_
   rintro _ _ ⟨rfl,rfl⟩;refine rO tb 4 U (Ah U (.cellA (Aa U) isAgg67 sizeOf67 U (by first|exact Ax) (J9 U)) ?_);exact⟨_,⟨by unfold fndFd;rw[if_neg hp,hix,List.drop_length];rfl,rfl⟩,sbt⟩
theorem pow_step (k:Nat):2 ^ k*2=2 ^ (k+1):=(Nat.pow_succ 2 k).symm
theorem yl_dbl {P:Program}{w0:World}{L:Fm}{H:List (Nat × Obj)}{ty xt yt:TypeId}{x y:Operand}{k:Nat}(hx:Ev L x (.int .i64 ((2 ^ k:Nat):Int)))(hy:Ev L y (.int .i64 2))(hk:k<16):Yl P w0 (.binOp .mul xt x y yt) ty L H (.int .i64 ((2 ^ (k+1):Nat):Int)):=by
 have h1:2 ^ k≤2 ^ 16:=Nat.pow_le_pow_right qom qom;have h:=yl_mul2 (P:=P) (w0:=w0) (H:=H) (ty:=ty) (xt:=xt) (yt:=yt) hx hy qom
 rwa [pow_step] at h
theorem rpower_s {w0:World}{H:List (Nat × Obj)}(n:Nat)(hn:n≤16):
  FSpec Tryz.prog w0 121 #[.int .i64 (n:Nat)] H (Still (.int .i64 ((2 ^ n:Nat):Int)) H):=by
 refine Ao Tryz.func121 U ntmps121 U (rD tb 17 U ?_);refine Gx (X:=Nat) (V:=fun k=>[(3, .int .i64 ((2 ^ k:Nat):Int)),(4, .int .i64 (k:Nat))]) (C:=[(0,_)]) (φ:=fun k=>k≤n) (μ:=fun k=>n - k) (x0:=0) ?_ ⟨Aa U,trivial⟩ ⟨atd,atd,trivial⟩ ?_
 ·exact Nat.zero_le _
 rintro k hk;refine rD tb 8 U ?_
 first|refine Ac (Aa U) (fun c7=> ?_) (fun c7=> ?_)|refine Af (Aa U) (fun c7=> ?_) (fun c7=> ?_)
 ·have hk2:k<n:=by have h9:((k:Nat):Int)<(n:Nat):=c7;omega
  refine rC tb 6 U (y_ (yl_dbl (T U) Aj (by have h9:((k:Nat):Int)<(n:Nat):=c7;omega)) ?_ U);refine rO tb 6 U (y_ (Bf (T U) Aj qom) ?_ U);refine rO tb 2 U ?_;refine A4 (k+1) ?_ ?_ ⟨atd,atd,trivial⟩ ⟨Aa U,trivial⟩ ?_
  ·omega
  ·first|omega|(simp only[];omega)
  ·exact sbt
 ·obtain rfl:k=n:=by have h9: ¬ ((k:Nat):Int)<(n:Nat):=c7;omega
  refine rC tb 2 U (As (rX tb 9 U (Ah U (J9 U) ?_)));exact⟨_,⟨rfl,rfl⟩,sbt⟩
theorem Fy {w0:World}{H:List (Nat × Obj)}(f:Fd)(hf:f.w≤16):
  FSpec Tryz.prog w0 88 #[.agg (encF f).toArray] H (Still (.int .i64 (((2 ^ f.w:Nat):Int) - 1)) H):=by
 refine Ao Tryz.func88 U ntmps88 U (rD tb 2 U (e_ (Kg U cs_) ?_ U));rintro _ _ ⟨n1,rfl,rfl⟩;refine rO tb 6 U (y_ (Ka U isAgg3 (by first|exact c_o)) ?_ U);refine y_ (Ak (qe1 U) call121 (fun H' hs=>rpower_s f.w hf)) (y_ (Ig (T U) Aj (by have h1:2 ^ f.w≤2 ^ 16:=Nat.pow_le_pow_right qom hf;revert h1;generalize 2 ^ f.w=p;intro h1;omega)) ?_ U) U;refine rO tb 4 U (Ah U (J9 U) ?_);exact⟨_,⟨rfl,rfl⟩,sbt⟩
theorem pow_c (w:Nat):((2 ^ w:Nat):Int)=(2:Int) ^ w:=by simp
abbrev SayE (p:Prop) (H:List (Nat × Obj)):Value→List (Nat × Obj)→Prop:=fun u H'=>∃ e:Int,(u= .int .i64 e∧(e=0→p))∧H'=H
abbrev FlA (w0:World) (H:List (Nat × Obj)) (q:Option Addr) (fl:List Fd):Prop:=Arr w0 H q 3 encF fl
theorem Bw {fl:List Fd}{m:Pdm}(hfd:(fndFd fl m.nm).2=true)(h1: ¬ m.kind=5→m.val≤((2 ^ (fndFd fl m.nm).1.w:Nat):Int) - 1)(h2:m.kind=5→m.to≤((2 ^ (fndFd fl m.nm).1.w:Nat):Int) - 1)(h4:m.kind=4→m.to≤(fndFd fl m.nm).1.w):FitP fl m:=by
 rw[pow_c] at h1 h2;exact⟨fun hk=>⟨hfd,h1 qom,h4⟩,fun hk=>⟨hfd,h2 hk⟩⟩
theorem fitsP_s {w0:World}{H:List (Nat × Obj)}(fl:List Fd)(hfl:FlOk fl)(q:Option Addr)(c:Nat)(hA:FlA w0 H q fl)(m:Pdm):
  FSpec Tryz.prog w0 119 #[.slice q fl.length c, .agg (encPd m).toArray] H (SayE (FitP fl m) H):=by
 refine Ao Tryz.func119 U ntmps119 U ?_;have hfew:=hfl.few;refine rD tb 2 U (e_ (Kg U cs_) ?_ U);rintro _ _ ⟨n3,rfl,rfl⟩;refine rO tb 7 U (y_ (Ka U isAgg3 (by first|exact c_o)) ?_ U);refine rO tb 2 U ?_
 first|refine Am (s:=11) (Aa U) (fun c11=> ?_) (fun c11=> ?_)|refine Aw (s:=11) (Aa U) (fun c11=> ?_) (fun c11=> ?_)
 ·refine rO tb 1 U (Av (Ka U isAgg3 (by first|exact c_o)) U (Az U U (Aa U)) ?_);refine rO tb 3 U ?_
  first|refine Am (s:=16) (Aa U) (fun c16=> ?_) (fun c16=> ?_)|refine Aw (s:=16) (Aa U) (fun c16=> ?_) (fun c16=> ?_)
  ·refine rO tb 1 U (Av (Ka U isAgg3 (by first|exact c_o)) U (Az U U (Aa U)) ?_);refine rO tb 4 U ?_
   first|refine Ac (Aa U) (fun c20=> ?_) (fun c20=> ?_)|refine Af (Aa U) (fun c20=> ?_) (fun c20=> ?_)
   ·refine rC tb 7 U (Ah U (J9 U) ?_)
    first|exact⟨_,⟨_,⟨rfl,fun h=>absurd h qde⟩,rfl⟩,sbt⟩|exact⟨_,⟨_,⟨rfl,fun _=>⟨fun hk=>by exfalso;omega,fun hk=>by exfalso;omega⟩⟩,rfl⟩,sbt⟩|exact⟨_,⟨_,⟨rfl,fun _=>Bw hfd (fun h5=>by generalize ((2 ^ (fndFd fl m.nm).1.w:Nat):Int)=P at *;omega) (fun h5=>by generalize ((2 ^ (fndFd fl m.nm).1.w:Nat):Int)=P at *;omega) (fun h4=>by omega)⟩,rfl⟩,sbt⟩
   ·refine rC tb 6 U (y_ (Ka U isAgg9 (by first|exact c_o)) ?_ U);refine y_ (Ak (qe2 U U) call87 (fun H' hs=>Hi fl q c (hA.mono (List.Sublist.trans (by exact sbt) hs)) qom m.nm)) ?_ U;refine rO tb 3 U (e_ (Al zeroValue67 cs_) ?_ U);rintro _ _ ⟨n5,rfl,rfl⟩
    first|refine A1 (Kf U U sizeOf67) U Ad ?_
    rintro _ _ ⟨rfl,rfl⟩;refine rO tb 7 U ?_
    first|refine Av (Bo (T U)) U Ad ?_|refine Av (B4 (T U)) U Ad ?_
    refine rO tb 2 U ?_
    first|refine Ac (Aa U) (fun c29=> ?_) (fun c29=> ?_)|refine Af (Aa U) (fun c29=> ?_) (fun c29=> ?_)
    ·skip
     refine rC tb 7 U (Ah U (J9 U) ?_)
     first|exact⟨_,⟨_,⟨rfl,fun h=>absurd h qde⟩,rfl⟩,sbt⟩|exact⟨_,⟨_,⟨rfl,fun _=>⟨fun hk=>by exfalso;omega,fun hk=>by exfalso;omega⟩⟩,rfl⟩,sbt⟩|exact⟨_,⟨_,⟨rfl,fun _=>Bw hfd (fun h5=>by generalize ((2 ^ (fndFd fl m.nm).1.w:Nat):Int)=P at *;omega) (fun h5=>by generalize ((2 ^ (fndFd fl m.nm).1.w:Nat):Int)=P at *;omega) (fun h4=>by omega)⟩,rfl⟩,sbt⟩
    ·have hfd:(fndFd fl m.nm).2=true:=by simpa using c29
     refine rC tb 5 U (y_ (Ka U isAgg3 (by first|exact c_o)) ?_ U);refine kO tb 3 [3,5,7] rfl U (rG tb 4 U (y_ (Ka U isAgg3 (by first|exact c_o)) ?_ U));refine rO tb 3 U ?_
     first|refine Ac (Aa U) (fun c34=> ?_) (fun c34=> ?_)|refine Af (Aa U) (fun c34=> ?_) (fun c34=> ?_)
     ·refine rC tb 2 U (y_ (Ka U isAgg3 (by first|exact c_o)) ?_ U);refine rO tb 7 U (y_ (Kb U isAgg67 sizeOf67 U (by first|exact Ax)) ?_ U);refine y_ (Ak (qe1 U) call88 (fun H' hs=>Fy _ (hfl.all _ (Dv hfd)).w16)) (rO tb 2 U ?_) U
      first|refine Am (s:=41) (Aa U) (fun c41=> ?_) (fun c41=> ?_)|refine Aw (s:=41) (Aa U) (fun c41=> ?_) (fun c41=> ?_)
      ·refine rO tb 21 U (Ah U (J9 U) ?_)
       first|exact⟨_,⟨_,⟨rfl,fun h=>absurd h qde⟩,rfl⟩,sbt⟩|exact⟨_,⟨_,⟨rfl,fun _=>⟨fun hk=>by exfalso;omega,fun hk=>by exfalso;omega⟩⟩,rfl⟩,sbt⟩|exact⟨_,⟨_,⟨rfl,fun _=>Bw hfd (fun h5=>by generalize ((2 ^ (fndFd fl m.nm).1.w:Nat):Int)=P at *;omega) (fun h5=>by generalize ((2 ^ (fndFd fl m.nm).1.w:Nat):Int)=P at *;omega) (fun h4=>by omega)⟩,rfl⟩,sbt⟩
      ·refine rO tb 1 U (Av (Ka U isAgg3 (by first|exact c_o)) U (Az U U (Aa U)) ?_);refine rO tb 2 U ?_
       first|refine Am (s:=45) (Aa U) (fun c45=> ?_) (fun c45=> ?_)|refine Aw (s:=45) (Aa U) (fun c45=> ?_) (fun c45=> ?_)
       ·refine rO tb 1 U (Av (Ka U isAgg3 (by first|exact c_o)) U (Az U U (Aa U)) ?_);refine rO tb 1 U (Av (Ka U isAgg3 (by first|exact c_o)) U (Az U U (Aa U)) ?_);refine rO tb 5 U ?_
        first|refine Ac (Aa U) (fun c52=> ?_) (fun c52=> ?_)|refine Af (Aa U) (fun c52=> ?_) (fun c52=> ?_)
        ·refine rC tb 7 U (Ah U (J9 U) ?_)
         first|exact⟨_,⟨_,⟨rfl,fun h=>absurd h qde⟩,rfl⟩,sbt⟩|exact⟨_,⟨_,⟨rfl,fun _=>⟨fun hk=>by exfalso;omega,fun hk=>by exfalso;omega⟩⟩,rfl⟩,sbt⟩|exact⟨_,⟨_,⟨rfl,fun _=>Bw hfd (fun h5=>by generalize ((2 ^ (fndFd fl m.nm).1.w:Nat):Int)=P at *;omega) (fun h5=>by generalize ((2 ^ (fndFd fl m.nm).1.w:Nat):Int)=P at *;omega) (fun h4=>by omega)⟩,rfl⟩,sbt⟩
        ·refine rC tb 8 U (Ah U (J9 U) ?_)
         first|exact⟨_,⟨_,⟨rfl,fun h=>absurd h qde⟩,rfl⟩,sbt⟩|exact⟨_,⟨_,⟨rfl,fun _=>⟨fun hk=>by exfalso;omega,fun hk=>by exfalso;omega⟩⟩,rfl⟩,sbt⟩|exact⟨_,⟨_,⟨rfl,fun _=>Bw hfd (fun h5=>by generalize ((2 ^ (fndFd fl m.nm).1.w:Nat):Int)=P at *;omega) (fun h5=>by generalize ((2 ^ (fndFd fl m.nm).1.w:Nat):Int)=P at *;omega) (fun h4=>by omega)⟩,rfl⟩,sbt⟩
       ·refine rO tb 18 U (Ah U (J9 U) ?_)
        first|exact⟨_,⟨_,⟨rfl,fun h=>absurd h qde⟩,rfl⟩,sbt⟩|exact⟨_,⟨_,⟨rfl,fun _=>⟨fun hk=>by exfalso;omega,fun hk=>by exfalso;omega⟩⟩,rfl⟩,sbt⟩|exact⟨_,⟨_,⟨rfl,fun _=>Bw hfd (fun h5=>by generalize ((2 ^ (fndFd fl m.nm).1.w:Nat):Int)=P at *;omega) (fun h5=>by generalize ((2 ^ (fndFd fl m.nm).1.w:Nat):Int)=P at *;omega) (fun h4=>by omega)⟩,rfl⟩,sbt⟩
     ·refine rC tb 6 U (y_ (Kb U isAgg67 sizeOf67 U (by first|exact Ax)) ?_ U);refine y_ (Ak (qe1 U) call88 (fun H' hs=>Fy _ (hfl.all _ (Dv hfd)).w16)) (rO tb 2 U ?_) U
      first|refine Am (s:=41) (Aa U) (fun c41=> ?_) (fun c41=> ?_)|refine Aw (s:=41) (Aa U) (fun c41=> ?_) (fun c41=> ?_)
      ·refine rO tb 21 U (Ah U (J9 U) ?_)
       first|exact⟨_,⟨_,⟨rfl,fun h=>absurd h qde⟩,rfl⟩,sbt⟩|exact⟨_,⟨_,⟨rfl,fun _=>⟨fun hk=>by exfalso;omega,fun hk=>by exfalso;omega⟩⟩,rfl⟩,sbt⟩|exact⟨_,⟨_,⟨rfl,fun _=>Bw hfd (fun h5=>by generalize ((2 ^ (fndFd fl m.nm).1.w:Nat):Int)=P at *;omega) (fun h5=>by generalize ((2 ^ (fndFd fl m.nm).1.w:Nat):Int)=P at *;omega) (fun h4=>by omega)⟩,rfl⟩,sbt⟩
      ·refine rO tb 1 U (Av (Ka U isAgg3 (by first|exact c_o)) U (Az U U (Aa U)) ?_);refine rO tb 2 U ?_
       first|refine Am (s:=45) (Aa U) (fun c45=> ?_) (fun c45=> ?_)|refine Aw (s:=45) (Aa U) (fun c45=> ?_) (fun c45=> ?_)
       ·refine rO tb 1 U (Av (Ka U isAgg3 (by first|exact c_o)) U (Az U U (Aa U)) ?_);refine rO tb 1 U (Av (Ka U isAgg3 (by first|exact c_o)) U (Az U U (Aa U)) ?_);refine rO tb 5 U ?_
        first|refine Ac (Aa U) (fun c52=> ?_) (fun c52=> ?_)|refine Af (Aa U) (fun c52=> ?_) (fun c52=> ?_)
        ·refine rC tb 7 U (Ah U (J9 U) ?_)
         first|exact⟨_,⟨_,⟨rfl,fun h=>absurd h qde⟩,rfl⟩,sbt⟩|exact⟨_,⟨_,⟨rfl,fun _=>⟨fun hk=>by exfalso;omega,fun hk=>by exfalso;omega⟩⟩,rfl⟩,sbt⟩|exact⟨_,⟨_,⟨rfl,fun _=>Bw hfd (fun h5=>by generalize ((2 ^ (fndFd fl m.nm).1.w:Nat):Int)=P at *;omega) (fun h5=>by generalize ((2 ^ (fndFd fl m.nm).1.w:Nat):Int)=P at *;omega) (fun h4=>by omega)⟩,rfl⟩,sbt⟩
        ·refine rC tb 8 U (Ah U (J9 U) ?_)
         first|exact⟨_,⟨_,⟨rfl,fun h=>absurd h qde⟩,rfl⟩,sbt⟩|exact⟨_,⟨_,⟨rfl,fun _=>⟨fun hk=>by exfalso;omega,fun hk=>by exfalso;omega⟩⟩,rfl⟩,sbt⟩|exact⟨_,⟨_,⟨rfl,fun _=>Bw hfd (fun h5=>by generalize ((2 ^ (fndFd fl m.nm).1.w:Nat):Int)=P at *;omega) (fun h5=>by generalize ((2 ^ (fndFd fl m.nm).1.w:Nat):Int)=P at *;omega) (fun h4=>by omega)⟩,rfl⟩,sbt⟩
       ·refine rO tb 18 U (Ah U (J9 U) ?_)
        first|exact⟨_,⟨_,⟨rfl,fun h=>absurd h qde⟩,rfl⟩,sbt⟩|exact⟨_,⟨_,⟨rfl,fun _=>⟨fun hk=>by exfalso;omega,fun hk=>by exfalso;omega⟩⟩,rfl⟩,sbt⟩|exact⟨_,⟨_,⟨rfl,fun _=>Bw hfd (fun h5=>by generalize ((2 ^ (fndFd fl m.nm).1.w:Nat):Int)=P at *;omega) (fun h5=>by generalize ((2 ^ (fndFd fl m.nm).1.w:Nat):Int)=P at *;omega) (fun h4=>by omega)⟩,rfl⟩,sbt⟩
  ·refine rO tb 13 U (y_ (Ka U isAgg9 (by first|exact c_o)) ?_ U);refine y_ (Ak (qe2 U U) call87 (fun H' hs=>Hi fl q c (hA.mono (List.Sublist.trans (by exact sbt) hs)) qom m.nm)) ?_ U;refine rO tb 3 U (e_ (Al zeroValue67 cs_) ?_ U);rintro _ _ ⟨n5,rfl,rfl⟩
   first|refine A1 (Kf U U sizeOf67) U Ad ?_
   rintro _ _ ⟨rfl,rfl⟩;refine rO tb 7 U ?_
   first|refine Av (Bo (T U)) U Ad ?_|refine Av (B4 (T U)) U Ad ?_
   refine rO tb 2 U ?_
   first|refine Ac (Aa U) (fun c29=> ?_) (fun c29=> ?_)|refine Af (Aa U) (fun c29=> ?_) (fun c29=> ?_)
   ·skip
    refine rC tb 7 U (Ah U (J9 U) ?_)
    first|exact⟨_,⟨_,⟨rfl,fun h=>absurd h qde⟩,rfl⟩,sbt⟩|exact⟨_,⟨_,⟨rfl,fun _=>⟨fun hk=>by exfalso;omega,fun hk=>by exfalso;omega⟩⟩,rfl⟩,sbt⟩|exact⟨_,⟨_,⟨rfl,fun _=>Bw hfd (fun h5=>by generalize ((2 ^ (fndFd fl m.nm).1.w:Nat):Int)=P at *;omega) (fun h5=>by generalize ((2 ^ (fndFd fl m.nm).1.w:Nat):Int)=P at *;omega) (fun h4=>by omega)⟩,rfl⟩,sbt⟩
   ·have hfd:(fndFd fl m.nm).2=true:=by simpa using c29
    refine rC tb 5 U (y_ (Ka U isAgg3 (by first|exact c_o)) ?_ U);refine kO tb 3 [3,5,7] rfl U (rG tb 4 U (y_ (Ka U isAgg3 (by first|exact c_o)) ?_ U));refine rO tb 3 U ?_
    first|refine Ac (Aa U) (fun c34=> ?_) (fun c34=> ?_)|refine Af (Aa U) (fun c34=> ?_) (fun c34=> ?_)
    ·refine rC tb 2 U (y_ (Ka U isAgg3 (by first|exact c_o)) ?_ U);refine rO tb 7 U (y_ (Kb U isAgg67 sizeOf67 U (by first|exact Ax)) ?_ U);refine y_ (Ak (qe1 U) call88 (fun H' hs=>Fy _ (hfl.all _ (Dv hfd)).w16)) (rO tb 2 U ?_) U
     first|refine Am (s:=41) (Aa U) (fun c41=> ?_) (fun c41=> ?_)|refine Aw (s:=41) (Aa U) (fun c41=> ?_) (fun c41=> ?_)
     ·refine rO tb 21 U (Ah U (J9 U) ?_)
      first|exact⟨_,⟨_,⟨rfl,fun h=>absurd h qde⟩,rfl⟩,sbt⟩|exact⟨_,⟨_,⟨rfl,fun _=>⟨fun hk=>by exfalso;omega,fun hk=>by exfalso;omega⟩⟩,rfl⟩,sbt⟩|exact⟨_,⟨_,⟨rfl,fun _=>Bw hfd (fun h5=>by generalize ((2 ^ (fndFd fl m.nm).1.w:Nat):Int)=P at *;omega) (fun h5=>by generalize ((2 ^ (fndFd fl m.nm).1.w:Nat):Int)=P at *;omega) (fun h4=>by omega)⟩,rfl⟩,sbt⟩
     ·refine rO tb 1 U (Av (Ka U isAgg3 (by first|exact c_o)) U (Az U U (Aa U)) ?_);refine rO tb 2 U ?_
      first|refine Am (s:=45) (Aa U) (fun c45=> ?_) (fun c45=> ?_)|refine Aw (s:=45) (Aa U) (fun c45=> ?_) (fun c45=> ?_)
      ·refine rO tb 1 U (Av (Ka U isAgg3 (by first|exact c_o)) U (Az U U (Aa U)) ?_);refine rO tb 1 U (Av (Ka U isAgg3 (by first|exact c_o)) U (Az U U (Aa U)) ?_);refine rO tb 5 U ?_
       first|refine Ac (Aa U) (fun c52=> ?_) (fun c52=> ?_)|refine Af (Aa U) (fun c52=> ?_) (fun c52=> ?_)
       ·refine rC tb 7 U (Ah U (J9 U) ?_)
        first|exact⟨_,⟨_,⟨rfl,fun h=>absurd h qde⟩,rfl⟩,sbt⟩|exact⟨_,⟨_,⟨rfl,fun _=>⟨fun hk=>by exfalso;omega,fun hk=>by exfalso;omega⟩⟩,rfl⟩,sbt⟩|exact⟨_,⟨_,⟨rfl,fun _=>Bw hfd (fun h5=>by generalize ((2 ^ (fndFd fl m.nm).1.w:Nat):Int)=P at *;omega) (fun h5=>by generalize ((2 ^ (fndFd fl m.nm).1.w:Nat):Int)=P at *;omega) (fun h4=>by omega)⟩,rfl⟩,sbt⟩
       ·refine rC tb 8 U (Ah U (J9 U) ?_)
        first|exact⟨_,⟨_,⟨rfl,fun h=>absurd h qde⟩,rfl⟩,sbt⟩|exact⟨_,⟨_,⟨rfl,fun _=>⟨fun hk=>by exfalso;omega,fun hk=>by exfalso;omega⟩⟩,rfl⟩,sbt⟩|exact⟨_,⟨_,⟨rfl,fun _=>Bw hfd (fun h5=>by generalize ((2 ^ (fndFd fl m.nm).1.w:Nat):Int)=P at *;omega) (fun h5=>by generalize ((2 ^ (fndFd fl m.nm).1.w:Nat):Int)=P at *;omega) (fun h4=>by omega)⟩,rfl⟩,sbt⟩
      ·refine rO tb 18 U (Ah U (J9 U) ?_)
       first|exact⟨_,⟨_,⟨rfl,fun h=>absurd h qde⟩,rfl⟩,sbt⟩|exact⟨_,⟨_,⟨rfl,fun _=>⟨fun hk=>by exfalso;omega,fun hk=>by exfalso;omega⟩⟩,rfl⟩,sbt⟩|exact⟨_,⟨_,⟨rfl,fun _=>Bw hfd (fun h5=>by generalize ((2 ^ (fndFd fl m.nm).1.w:Nat):Int)=P at *;omega) (fun h5=>by generalize ((2 ^ (fndFd fl m.nm).1.w:Nat):Int)=P at *;omega) (fun h4=>by omega)⟩,rfl⟩,sbt⟩
    ·refine rC tb 6 U (y_ (Kb U isAgg67 sizeOf67 U (by first|exact Ax)) ?_ U);refine y_ (Ak (qe1 U) call88 (fun H' hs=>Fy _ (hfl.all _ (Dv hfd)).w16)) (rO tb 2 U ?_) U
     first|refine Am (s:=41) (Aa U) (fun c41=> ?_) (fun c41=> ?_)|refine Aw (s:=41) (Aa U) (fun c41=> ?_) (fun c41=> ?_)
     ·refine rO tb 21 U (Ah U (J9 U) ?_)
      first|exact⟨_,⟨_,⟨rfl,fun h=>absurd h qde⟩,rfl⟩,sbt⟩|exact⟨_,⟨_,⟨rfl,fun _=>⟨fun hk=>by exfalso;omega,fun hk=>by exfalso;omega⟩⟩,rfl⟩,sbt⟩|exact⟨_,⟨_,⟨rfl,fun _=>Bw hfd (fun h5=>by generalize ((2 ^ (fndFd fl m.nm).1.w:Nat):Int)=P at *;omega) (fun h5=>by generalize ((2 ^ (fndFd fl m.nm).1.w:Nat):Int)=P at *;omega) (fun h4=>by omega)⟩,rfl⟩,sbt⟩
     ·refine rO tb 1 U (Av (Ka U isAgg3 (by first|exact c_o)) U (Az U U (Aa U)) ?_);refine rO tb 2 U ?_
      first|refine Am (s:=45) (Aa U) (fun c45=> ?_) (fun c45=> ?_)|refine Aw (s:=45) (Aa U) (fun c45=> ?_) (fun c45=> ?_)
      ·refine rO tb 1 U (Av (Ka U isAgg3 (by first|exact c_o)) U (Az U U (Aa U)) ?_);refine rO tb 1 U (Av (Ka U isAgg3 (by first|exact c_o)) U (Az U U (Aa U)) ?_);refine rO tb 5 U ?_
       first|refine Ac (Aa U) (fun c52=> ?_) (fun c52=> ?_)|refine Af (Aa U) (fun c52=> ?_) (fun c52=> ?_)
       ·refine rC tb 7 U (Ah U (J9 U) ?_)
        first|exact⟨_,⟨_,⟨rfl,fun h=>absurd h qde⟩,rfl⟩,sbt⟩|exact⟨_,⟨_,⟨rfl,fun _=>⟨fun hk=>by exfalso;omega,fun hk=>by exfalso;omega⟩⟩,rfl⟩,sbt⟩|exact⟨_,⟨_,⟨rfl,fun _=>Bw hfd (fun h5=>by generalize ((2 ^ (fndFd fl m.nm).1.w:Nat):Int)=P at *;omega) (fun h5=>by generalize ((2 ^ (fndFd fl m.nm).1.w:Nat):Int)=P at *;omega) (fun h4=>by omega)⟩,rfl⟩,sbt⟩
       ·refine rC tb 8 U (Ah U (J9 U) ?_)
        first|exact⟨_,⟨_,⟨rfl,fun h=>absurd h qde⟩,rfl⟩,sbt⟩|exact⟨_,⟨_,⟨rfl,fun _=>⟨fun hk=>by exfalso;omega,fun hk=>by exfalso;omega⟩⟩,rfl⟩,sbt⟩|exact⟨_,⟨_,⟨rfl,fun _=>Bw hfd (fun h5=>by generalize ((2 ^ (fndFd fl m.nm).1.w:Nat):Int)=P at *;omega) (fun h5=>by generalize ((2 ^ (fndFd fl m.nm).1.w:Nat):Int)=P at *;omega) (fun h4=>by omega)⟩,rfl⟩,sbt⟩
      ·refine rO tb 18 U (Ah U (J9 U) ?_)
       first|exact⟨_,⟨_,⟨rfl,fun h=>absurd h qde⟩,rfl⟩,sbt⟩|exact⟨_,⟨_,⟨rfl,fun _=>⟨fun hk=>by exfalso;omega,fun hk=>by exfalso;omega⟩⟩,rfl⟩,sbt⟩|exact⟨_,⟨_,⟨rfl,fun _=>Bw hfd (fun h5=>by generalize ((2 ^ (fndFd fl m.nm).1.w:Nat):Int)=P at *;omega) (fun h5=>by generalize ((2 ^ (fndFd fl m.nm).1.w:Nat):Int)=P at *;omega) (fun h4=>by omega)⟩,rfl⟩,sbt⟩
 ·refine rO tb 18 U (y_ (Ka U isAgg9 (by first|exact c_o)) ?_ U);refine y_ (Ak (qe2 U U) call87 (fun H' hs=>Hi fl q c (hA.mono (List.Sublist.trans (by exact sbt) hs)) qom m.nm)) ?_ U;refine rO tb 3 U (e_ (Al zeroValue67 cs_) ?_ U);rintro _ _ ⟨n5,rfl,rfl⟩
  first|refine A1 (Kf U U sizeOf67) U Ad ?_
  rintro _ _ ⟨rfl,rfl⟩;refine rO tb 7 U ?_
  first|refine Av (Bo (T U)) U Ad ?_|refine Av (B4 (T U)) U Ad ?_
  refine rO tb 2 U ?_
  first|refine Ac (Aa U) (fun c29=> ?_) (fun c29=> ?_)|refine Af (Aa U) (fun c29=> ?_) (fun c29=> ?_)
  ·skip
   refine rC tb 7 U (Ah U (J9 U) ?_)
   first|exact⟨_,⟨_,⟨rfl,fun h=>absurd h qde⟩,rfl⟩,sbt⟩|exact⟨_,⟨_,⟨rfl,fun _=>⟨fun hk=>by exfalso;omega,fun hk=>by exfalso;omega⟩⟩,rfl⟩,sbt⟩|exact⟨_,⟨_,⟨rfl,fun _=>Bw hfd (fun h5=>by generalize ((2 ^ (fndFd fl m.nm).1.w:Nat):Int)=P at *;omega) (fun h5=>by generalize ((2 ^ (fndFd fl m.nm).1.w:Nat):Int)=P at *;omega) (fun h4=>by omega)⟩,rfl⟩,sbt⟩
  ·have hfd:(fndFd fl m.nm).2=true:=by simpa using c29
   refine rC tb 5 U (y_ (Ka U isAgg3 (by first|exact c_o)) ?_ U);refine kO tb 3 [3,5,7] rfl U (rG tb 4 U (y_ (Ka U isAgg3 (by first|exact c_o)) ?_ U));refine rO tb 3 U ?_
   first|refine Ac (Aa U) (fun c34=> ?_) (fun c34=> ?_)|refine Af (Aa U) (fun c34=> ?_) (fun c34=> ?_)
   ·refine rC tb 2 U (y_ (Ka U isAgg3 (by first|exact c_o)) ?_ U);refine rO tb 7 U (y_ (Kb U isAgg67 sizeOf67 U (by first|exact Ax)) ?_ U);refine y_ (Ak (qe1 U) call88 (fun H' hs=>Fy _ (hfl.all _ (Dv hfd)).w16)) (rO tb 2 U ?_) U
    first|refine Am (s:=41) (Aa U) (fun c41=> ?_) (fun c41=> ?_)|refine Aw (s:=41) (Aa U) (fun c41=> ?_) (fun c41=> ?_)
    ·refine rO tb 21 U (Ah U (J9 U) ?_)
     first|exact⟨_,⟨_,⟨rfl,fun h=>absurd h qde⟩,rfl⟩,sbt⟩|exact⟨_,⟨_,⟨rfl,fun _=>⟨fun hk=>by exfalso;omega,fun hk=>by exfalso;omega⟩⟩,rfl⟩,sbt⟩|exact⟨_,⟨_,⟨rfl,fun _=>Bw hfd (fun h5=>by generalize ((2 ^ (fndFd fl m.nm).1.w:Nat):Int)=P at *;omega) (fun h5=>by generalize ((2 ^ (fndFd fl m.nm).1.w:Nat):Int)=P at *;omega) (fun h4=>by omega)⟩,rfl⟩,sbt⟩
    ·refine rO tb 1 U (Av (Ka U isAgg3 (by first|exact c_o)) U (Az U U (Aa U)) ?_);refine rO tb 2 U ?_
     first|refine Am (s:=45) (Aa U) (fun c45=> ?_) (fun c45=> ?_)|refine Aw (s:=45) (Aa U) (fun c45=> ?_) (fun c45=> ?_)
     ·refine rO tb 1 U (Av (Ka U isAgg3 (by first|exact c_o)) U (Az U U (Aa U)) ?_);refine rO tb 1 U (Av (Ka U isAgg3 (by first|exact c_o)) U (Az U U (Aa U)) ?_);refine rO tb 5 U ?_
      first|refine Ac (Aa U) (fun c52=> ?_) (fun c52=> ?_)|refine Af (Aa U) (fun c52=> ?_) (fun c52=> ?_)
      ·refine rC tb 7 U (Ah U (J9 U) ?_)
       first|exact⟨_,⟨_,⟨rfl,fun h=>absurd h qde⟩,rfl⟩,sbt⟩|exact⟨_,⟨_,⟨rfl,fun _=>⟨fun hk=>by exfalso;omega,fun hk=>by exfalso;omega⟩⟩,rfl⟩,sbt⟩|exact⟨_,⟨_,⟨rfl,fun _=>Bw hfd (fun h5=>by generalize ((2 ^ (fndFd fl m.nm).1.w:Nat):Int)=P at *;omega) (fun h5=>by generalize ((2 ^ (fndFd fl m.nm).1.w:Nat):Int)=P at *;omega) (fun h4=>by omega)⟩,rfl⟩,sbt⟩
      ·refine rC tb 8 U (Ah U (J9 U) ?_)
       first|exact⟨_,⟨_,⟨rfl,fun h=>absurd h qde⟩,rfl⟩,sbt⟩|exact⟨_,⟨_,⟨rfl,fun _=>⟨fun hk=>by exfalso;omega,fun hk=>by exfalso;omega⟩⟩,rfl⟩,sbt⟩|exact⟨_,⟨_,⟨rfl,fun _=>Bw hfd (fun h5=>by generalize ((2 ^ (fndFd fl m.nm).1.w:Nat):Int)=P at *;omega) (fun h5=>by generalize ((2 ^ (fndFd fl m.nm).1.w:Nat):Int)=P at *;omega) (fun h4=>by omega)⟩,rfl⟩,sbt⟩
     ·refine rO tb 18 U (Ah U (J9 U) ?_)
      first|exact⟨_,⟨_,⟨rfl,fun h=>absurd h qde⟩,rfl⟩,sbt⟩|exact⟨_,⟨_,⟨rfl,fun _=>⟨fun hk=>by exfalso;omega,fun hk=>by exfalso;omega⟩⟩,rfl⟩,sbt⟩|exact⟨_,⟨_,⟨rfl,fun _=>Bw hfd (fun h5=>by generalize ((2 ^ (fndFd fl m.nm).1.w:Nat):Int)=P at *;omega) (fun h5=>by generalize ((2 ^ (fndFd fl m.nm).1.w:Nat):Int)=P at *;omega) (fun h4=>by omega)⟩,rfl⟩,sbt⟩
   ·refine rC tb 6 U (y_ (Kb U isAgg67 sizeOf67 U (by first|exact Ax)) ?_ U);refine y_ (Ak (qe1 U) call88 (fun H' hs=>Fy _ (hfl.all _ (Dv hfd)).w16)) (rO tb 2 U ?_) U
    first|refine Am (s:=41) (Aa U) (fun c41=> ?_) (fun c41=> ?_)|refine Aw (s:=41) (Aa U) (fun c41=> ?_) (fun c41=> ?_)
    ·refine rO tb 21 U (Ah U (J9 U) ?_)
     first|exact⟨_,⟨_,⟨rfl,fun h=>absurd h qde⟩,rfl⟩,sbt⟩|exact⟨_,⟨_,⟨rfl,fun _=>⟨fun hk=>by exfalso;omega,fun hk=>by exfalso;omega⟩⟩,rfl⟩,sbt⟩|exact⟨_,⟨_,⟨rfl,fun _=>Bw hfd (fun h5=>by generalize ((2 ^ (fndFd fl m.nm).1.w:Nat):Int)=P at *;omega) (fun h5=>by generalize ((2 ^ (fndFd fl m.nm).1.w:Nat):Int)=P at *;omega) (fun h4=>by omega)⟩,rfl⟩,sbt⟩
    ·refine rO tb 1 U (Av (Ka U isAgg3 (by first|exact c_o)) U (Az U U (Aa U)) ?_);refine rO tb 2 U ?_
     first|refine Am (s:=45) (Aa U) (fun c45=> ?_) (fun c45=> ?_)|refine Aw (s:=45) (Aa U) (fun c45=> ?_) (fun c45=> ?_)
     ·refine rO tb 1 U (Av (Ka U isAgg3 (by first|exact c_o)) U (Az U U (Aa U)) ?_);refine rO tb 1 U (Av (Ka U isAgg3 (by first|exact c_o)) U (Az U U (Aa U)) ?_);refine rO tb 5 U ?_
      first|refine Ac (Aa U) (fun c52=> ?_) (fun c52=> ?_)|refine Af (Aa U) (fun c52=> ?_) (fun c52=> ?_)
      ·refine rC tb 7 U (Ah U (J9 U) ?_)
       first|exact⟨_,⟨_,⟨rfl,fun h=>absurd h qde⟩,rfl⟩,sbt⟩|exact⟨_,⟨_,⟨rfl,fun _=>⟨fun hk=>by exfalso;omega,fun hk=>by exfalso;omega⟩⟩,rfl⟩,sbt⟩|exact⟨_,⟨_,⟨rfl,fun _=>Bw hfd (fun h5=>by generalize ((2 ^ (fndFd fl m.nm).1.w:Nat):Int)=P at *;omega) (fun h5=>by generalize ((2 ^ (fndFd fl m.nm).1.w:Nat):Int)=P at *;omega) (fun h4=>by omega)⟩,rfl⟩,sbt⟩
      ·refine rC tb 8 U (Ah U (J9 U) ?_)
       first|exact⟨_,⟨_,⟨rfl,fun h=>absurd h qde⟩,rfl⟩,sbt⟩|exact⟨_,⟨_,⟨rfl,fun _=>⟨fun hk=>by exfalso;omega,fun hk=>by exfalso;omega⟩⟩,rfl⟩,sbt⟩|exact⟨_,⟨_,⟨rfl,fun _=>Bw hfd (fun h5=>by generalize ((2 ^ (fndFd fl m.nm).1.w:Nat):Int)=P at *;omega) (fun h5=>by generalize ((2 ^ (fndFd fl m.nm).1.w:Nat):Int)=P at *;omega) (fun h4=>by omega)⟩,rfl⟩,sbt⟩
     ·refine rO tb 18 U (Ah U (J9 U) ?_)
      first|exact⟨_,⟨_,⟨rfl,fun h=>absurd h qde⟩,rfl⟩,sbt⟩|exact⟨_,⟨_,⟨rfl,fun _=>⟨fun hk=>by exfalso;omega,fun hk=>by exfalso;omega⟩⟩,rfl⟩,sbt⟩|exact⟨_,⟨_,⟨rfl,fun _=>Bw hfd (fun h5=>by generalize ((2 ^ (fndFd fl m.nm).1.w:Nat):Int)=P at *;omega) (fun h5=>by generalize ((2 ^ (fndFd fl m.nm).1.w:Nat):Int)=P at *;omega) (fun h4=>by omega)⟩,rfl⟩,sbt⟩
theorem fitsAll_s {w0:World}{H:List (Nat × Obj)}(fl:List Fd)(hfl:FlOk fl)(q:Option Addr)(c:Nat)(hA:FlA w0 H q fl){m:Pdm}(hM:PdM w0 H m)(hm:m.sz≤1000000000):
  FSpec Tryz.prog w0 86 #[.slice q fl.length c, .agg (encPd m).toArray] H (SayE (∀ a∈prtP m,FitP fl a) H):=by
 refine Ao Tryz.func86 U ntmps86 U ?_;have hpl:=prtP_len m;refine rD tb 2 U (e_ (Kg U cs_) ?_ U);rintro _ _ ⟨n3,rfl,rfl⟩;refine rO tb 5 U (y_ (Kb U isAgg25 sizeOf25 U (by first|exact Ax)) ?_ U);refine e_ (An (qe1 U) call118 (prtP_s _ hm (hM.mono (by exact sbt)) (Nat.le_refl _))) ?_ U;rintro _ _ ⟨d,⟨rfl,hd⟩,rfl⟩;have hdA:Arr w0 (slH d ((prtP m).flatMap encPd) 25) (slQ d) 5 encPd (prtP m):=by have:=C0 (w0:=w0) (e:=25) (X:=[]) (enc:=encPd) (fun _=>rfl) hd;rwa [List.append_nil] at this
 refine rO tb 10 U ?_;refine Bg (X:=Nat) (V:=fun i=>[(6, .int .i64 (i:Nat))]) (C:=[(0,_),(5,_)]) (G:=fun i=>slH d ((prtP m).flatMap encPd) 25++((n3,Cl (encPd m) 25)::H)) (φ:=fun i=>i≤(prtP m).length∧∀ j,j<i→FitP fl (gd (prtP m) j)) (μ:=fun i=>(prtP m).length - i) (x0:=0) ?_ ⟨Aa U,Aa U,trivial⟩ ⟨atd,trivial⟩ sb0 ?_
 ·exact⟨Nat.zero_le _,fun j hj=>absurd hj (Nat.not_lt_zero _)⟩
 rintro i ⟨hi,hf⟩;refine rD tb 9 U ?_
 first|refine Ac (Aa U) (fun c13=> ?_) (fun c13=> ?_)|refine Af (Aa U) (fun c13=> ?_) (fun c13=> ?_)
 ·have hi2:i<(prtP m).length:=by have h9:((i:Nat):Int)<((prtP m).length:Nat):=c13;omega
  refine rC tb 9 U (y_ (Ke U U runUnderlying23 sizeOf25 qom (by first|exact rfl|exact hdA.b (i:=i) hi2)) ?_ U);refine y_ (Kb U isAgg25 sizeOf25 U (by first|exact(hdA.mono (by repeat (first|exact List.sublist_append_left _ _|refine List.Sublist.cons _ ?_))).cs (i:=i) hi2|exact Ax)) ?_ U;refine e_ (An (qe2 U U) call119 (fitsP_s fl hfl q c (hA.mono (by exact sbt)) (gd (prtP m) i))) ?_ U;rintro _ _ ⟨e1,⟨rfl,he1⟩,rfl⟩;refine rO tb 9 U ?_
  first|refine Ac (Aa U) (fun c23=> ?_) (fun c23=> ?_)|refine Af (Aa U) (fun c23=> ?_) (fun c23=> ?_)
  ·skip
   refine rC tb 9 U (Ba (rX tb 2 U (Ah U (J9 U) ?_)));exact⟨_,⟨e1,⟨rfl,fun h=>absurd h c23⟩,rfl⟩,by exact sbt⟩
  ·have he0:e1=0:=Classical.not_not.1 c23;refine rC tb 5 U (y_ (Bf (T U) Aj qom) ?_ U);refine rO tb 2 U ?_;refine A4 (i+1) ?_ ?_ ⟨atd,trivial⟩ ⟨Aa U,Aa U,trivial⟩ ?_
   ·refine⟨hi2,fun j hj=> ?_⟩
    by_cases e:j=i
    ·subst e;exact he1 he0
    ·exact hf j qom
   ·first|omega|(simp only[];omega)
   ·exact sbt
 ·obtain rfl:i=(prtP m).length:=by have h9: ¬ ((i:Nat):Int)<((prtP m).length:Nat):=c13;omega
  refine rC tb 2 U (As (rX tb 8 U (Ah U (J9 U) ?_)));exact⟨_,⟨0,⟨rfl,fun _=>C8 hf⟩,rfl⟩,by exact sbt⟩
theorem Ep {fl:List Fd}{m:Pom}(h1:m.kind=1→∀ a∈prtP m.pr,FitP fl a)(h2:m.kind=2→(fndFd fl m.nm).2=true∧m.n≤((2 ^ (fndFd fl m.nm).1.w:Nat):Int) - 1):FitO fl m:=⟨h1,fun hk=>by have:=h2 hk;rw[pow_c] at this;exact this⟩
theorem po_prc {w0:World}{H:List (Nat × Obj)}{b o:Nat}{m:Pom}(h:Cells w0 H b o (encPo m)):Cells w0 H b (o+1) (encPd m.pr):=fun i v hi=>by
 have hl:=(List.getElem?_eq_some_iff.1 hi).1;have:=h (1+i) v (by
  show (.int .i64 m.kind::(encPd m.pr++[.string m.nm, .int .i64 m.n, .slice m.q m.subs.length m.cap]):List Value)[1+i]? =some v;rw[show 1+i=i+1 by omega,List.getElem?_cons_succ,List.getElem?_append_left hl];exact hi)
 rwa [← Nat.add_assoc] at this
theorem rpolicy_s {w0:World}{H:List (Nat × Obj)}(fl:List Fd)(hfl:FlOk fl)(q:Option Addr)(c:Nat)(hA:FlA w0 H q fl){m:Pom}(hM:PoM w0 H m)(hm:m.sz≤1000000000)(hz:NmO m):
  FSpec Tryz.prog w0 44 #[.slice q fl.length c, .agg (encPo m).toArray] H (SayE (m.nd≤200∧FmO m∧∀ a∈prtO m,FitO fl a) H):=by
 refine Ao Tryz.func44 U ntmps44 U ?_;have hpl:=prtO_len m;have hfew:=hfl.few;refine rD tb 2 U (e_ (Kg U cs_) ?_ U);rintro _ _ ⟨n3,rfl,rfl⟩;refine rO tb 5 U (y_ (Kb U isAgg28 sizeOf28 U (by first|exact Ax)) ?_ U);refine e_ (An (qe1 U) call84 (checkO_s (hM.mono (by exact sbt)) hm hz)) ?_ U;rintro _ _ ⟨e1,⟨rfl,he1⟩,rfl⟩;refine rO tb 10 U ?_
 first|refine Ac (Aa U) (fun c13=> ?_) (fun c13=> ?_)|refine Af (Aa U) (fun c13=> ?_) (fun c13=> ?_)
 ·skip
  refine rC tb 8 U (Ah U (J9 U) ?_)
  first|exact⟨_,⟨_,⟨rfl,fun h=>absurd h qde⟩,rfl⟩,by exact sbt⟩|exact⟨_,⟨_,⟨rfl,fun h=>absurd h (by assumption)⟩,rfl⟩,by exact sbt⟩|exact⟨_,⟨0,⟨rfl,fun _=>⟨hnd,hfo,C8 hf⟩⟩,rfl⟩,by exact sbt⟩
 ·obtain⟨hnd,hfo⟩:=he1 (Classical.not_not.1 c13);refine rC tb 4 U (y_ (Kb U isAgg28 sizeOf28 U (by first|exact Ax)) ?_ U);refine e_ (An (qe1 U) call85 (prtO_s _ hm (hM.mono (by exact sbt)) (Nat.le_refl _))) ?_ U;rintro _ _ ⟨d,⟨rfl,hd⟩,rfl⟩;have hdA:Arr w0 (slH d ((prtO m).flatMap encPo) 28) (slQ d) 9 encPo (prtO m):=by have:=C0 (w0:=w0) (e:=28) (X:=[]) (enc:=encPo) (fun _=>rfl) hd;rwa [List.append_nil] at this
  refine rO tb 10 U ?_;refine Bg (X:=Nat) (V:=fun i=>[(7, .int .i64 (i:Nat)),(5, .int .i64 0)]) (C:=[(0,_),(6,_)]) (G:=fun i=>slH d ((prtO m).flatMap encPo) 28++((n3,Cl (encPo m) 28)::H)) (φ:=fun i=>i≤(prtO m).length∧∀ j,j<i→FitO fl (gd (prtO m) j)) (μ:=fun i=>(prtO m).length - i) (x0:=0) ?_ ⟨Aa U,Aa U,trivial⟩ ⟨(by first|exact Aa U|(refine Ae (Aa U) (vint ?_);omega)|(refine Ae (Aa U) ?_;simp;done)|(refine Ae (Aa U) ?_;exact vint (by first|omega|exact(Classical.not_not.1 c63)))),(by first|exact Aa U|(refine Ae (Aa U) (vint ?_);omega)|(refine Ae (Aa U) ?_;simp;done)|(refine Ae (Aa U) ?_;exact vint (by first|omega|exact(Classical.not_not.1 c63)))),trivial⟩ sb0 ?_
  ·exact⟨Nat.zero_le _,fun j hj=>absurd hj (Nat.not_lt_zero _)⟩
  rintro i ⟨hi,hf⟩;refine rD tb 9 U ?_
  first|refine Ac (Aa U) (fun c20=> ?_) (fun c20=> ?_)|refine Af (Aa U) (fun c20=> ?_) (fun c20=> ?_)
  ·have hi2:i<(prtO m).length:=by have h9:((i:Nat):Int)<((prtO m).length:Nat):=c20;omega
   have hmi:=prtO_M hM _ (Bj hi2);have hms:=prtO_sz _ (Bj hi2);have hmz:=Ef (gd (prtO m) i);refine rC tb 9 U (y_ (Ke U U runUnderlying26 sizeOf28 qom (by first|exact rfl|exact hdA.b (i:=i) hi2)) ?_ U);refine rO tb 1 U ?_;refine y_ (Ka U isAgg3 (by first|exact c_o|exact(hdA.mono (by repeat (first|exact List.sublist_append_left _ _|refine List.Sublist.cons _ ?_))).cs (i:=i) hi2 0 _ U)) ?_ U;refine rO tb 3 U ?_
   first|refine Ac (Aa U) (fun c28=> ?_) (fun c28=> ?_)|refine Af (Aa U) (fun c28=> ?_) (fun c28=> ?_)
   ·refine rC tb 4 U (y_ (Ke U U runUnderlying26 sizeOf28 qom (by first|exact rfl|exact hdA.b (i:=i) hi2)) ?_ U);refine rO tb 1 U ?_;refine y_ (Kb U isAgg25 sizeOf25 U (by first|exact po_prc ((hdA.mono (by repeat (first|exact List.sublist_append_left _ _|refine List.Sublist.cons _ ?_))).cs (i:=i) hi2)|exact Ax)) ?_ U;refine e_ (An (qe2 U U) call86 (fitsAll_s fl hfl q c (hA.mono (by exact sbt)) (m:=(gd (prtO m) i).pr) ((hmi.pred).mono (by exact sbt)) qom)) ?_ U;rintro _ _ ⟨e2,⟨rfl,he2⟩,rfl⟩;refine rO tb 8 U (y_ (Ke U U runUnderlying26 sizeOf28 qom (by first|exact rfl|exact hdA.b (i:=i) hi2)) ?_ U);refine rO tb 1 U ?_;refine y_ (Ka U isAgg3 (by first|exact c_o|exact(hdA.mono (by repeat (first|exact List.sublist_append_left _ _|refine List.Sublist.cons _ ?_))).cs (i:=i) hi2 0 _ U)) ?_ U;refine rO tb 3 U ?_
    first|refine Ac (Aa U) (fun c41=> ?_) (fun c41=> ?_)|refine Af (Aa U) (fun c41=> ?_) (fun c41=> ?_)
    ·refine rC tb 5 U (y_ (Ke U U runUnderlying26 sizeOf28 qom (by first|exact rfl|exact hdA.b (i:=i) hi2)) ?_ U);refine rO tb 1 U ?_;refine y_ (Ka U isAgg9 (by first|exact c_o|exact(hdA.mono (by repeat (first|exact List.sublist_append_left _ _|refine List.Sublist.cons _ ?_))).cs (i:=i) hi2 6 _ U)) ?_ U;refine y_ (Ak (qe2 U U) call87 (fun H' hs=>Hi fl q c (hA.mono (List.Sublist.trans (by exact sbt) hs)) qom (gd (prtO m) i).nm)) ?_ U;refine rO tb 3 U (e_ (Al zeroValue67 cs_) ?_ U);rintro _ _ ⟨n8,rfl,rfl⟩
     first|refine A1 (Kf U U sizeOf67) U Ad ?_
     rintro _ _ ⟨rfl,rfl⟩;refine kO tb 3 [0,5,6,7,8,9] rfl U (rG tb 3 U ?_)
     first|refine Av (Bo (T U)) U Ad ?_|refine Av (B4 (T U)) U Ad ?_
     refine rO tb 2 U ?_
     first|refine Ac (Aa U) (fun c53=> ?_) (fun c53=> ?_)|refine Af (Aa U) (fun c53=> ?_) (fun c53=> ?_)
     ·skip
      refine rC tb 10 U ?_
      first|refine Ac (Aa U) (fun c63=> ?_) (fun c63=> ?_)|refine Af (Aa U) (fun c63=> ?_) (fun c63=> ?_)
      ·skip
       refine rC tb 9 U (Ba (rX tb 2 U (Ah U (J9 U) ?_)))
       first|exact⟨_,⟨_,⟨rfl,fun h=>absurd h qde⟩,rfl⟩,by exact sbt⟩|exact⟨_,⟨_,⟨rfl,fun h=>absurd h (by assumption)⟩,rfl⟩,by exact sbt⟩|exact⟨_,⟨0,⟨rfl,fun _=>⟨hnd,hfo,C8 hf⟩⟩,rfl⟩,by exact sbt⟩
      ·have he0:=Classical.not_not.1 c63;refine rC tb 5 U (y_ (Bf (T U) Aj qom) ?_ U);refine rO tb 2 U ?_;refine A4 (i+1) ?_ ?_ ⟨(by first|exact Aa U|(refine Ae (Aa U) (vint ?_);omega)|(refine Ae (Aa U) ?_;simp;done)|(refine Ae (Aa U) ?_;exact vint (by first|omega|exact(Classical.not_not.1 c63)))),(by first|exact Aa U|(refine Ae (Aa U) (vint ?_);omega)|(refine Ae (Aa U) ?_;simp;done)|(refine Ae (Aa U) ?_;exact vint (by first|omega|exact(Classical.not_not.1 c63)))),trivial⟩ ⟨Aa U,Aa U,trivial⟩ ?_
       ·refine⟨hi2,fun j hj=> ?_⟩
        by_cases e:j=i
        ·subst e;exact Ep (fun hk=>by first|exact he2 (by first|assumption|omega)|(exfalso;omega)) (fun hk=>by first|(exact⟨hfd,by generalize ((2 ^ (fndFd fl (gd (prtO m) j).nm).1.w:Nat):Int)=P at *;omega⟩)|(exfalso;omega))
        ·exact hf j qom
       ·first|omega|(simp only[];omega)
       ·exact sbt
     ·have hfd:(fndFd fl (gd (prtO m) i).nm).2=true:=by simpa using c53
      refine rC tb 1 U (Bm 8 [(0,true),(1,true),(2,true),(3,true),(4,true),(5,true),(6,true),(7,true)] ((n8,Cl (encF (fndFd fl (gd (prtO m) i).nm).1) 67)::(slH d ((prtO m).flatMap encPo) 28++((n3,Cl (encPo m) 28)::H))) mixd qkr (by exact sbt) ?_ Bz);refine rP tb 2 U (o_y U (Ke U U runUnderlying26 sizeOf28 qom (by first|exact rfl|exact hdA.b (i:=i) hi2)) ?_ U Ad);refine rP tb 1 U ?_;refine o_y U (Ka U isAgg3 (by first|exact c_o|exact(hdA.mono (by repeat (first|exact List.sublist_append_left _ _|refine List.Sublist.cons _ ?_))).cs (i:=i) hi2 7 _ U)) ?_ U Ad;refine o_y U (Kb U isAgg67 sizeOf67 U (by first|exact Ax)) ?_ U Ad;refine o_y U (Ak (qe1 U) call88 (fun H' hs=>Fy _ (hfl.all _ (Dv hfd)).w16)) (rP tb 1 U (A9 U (rO tb 2 U ?_))) U Ad
      first|refine Ac (Aa U) (fun c61=> ?_) (fun c61=> ?_)|refine Af (Aa U) (fun c61=> ?_) (fun c61=> ?_)
      ·refine rC tb 10 U ?_
       first|refine Ac (Aa U) (fun c63=> ?_) (fun c63=> ?_)|refine Af (Aa U) (fun c63=> ?_) (fun c63=> ?_)
       ·skip
        refine rC tb 9 U (Ba (rX tb 2 U (Ah U (J9 U) ?_)))
        first|exact⟨_,⟨_,⟨rfl,fun h=>absurd h qde⟩,rfl⟩,by exact sbt⟩|exact⟨_,⟨_,⟨rfl,fun h=>absurd h (by assumption)⟩,rfl⟩,by exact sbt⟩|exact⟨_,⟨0,⟨rfl,fun _=>⟨hnd,hfo,C8 hf⟩⟩,rfl⟩,by exact sbt⟩
       ·have he0:=Classical.not_not.1 c63;refine rC tb 5 U (y_ (Bf (T U) Aj qom) ?_ U);refine rO tb 2 U ?_;refine A4 (i+1) ?_ ?_ ⟨(by first|exact Aa U|(refine Ae (Aa U) (vint ?_);omega)|(refine Ae (Aa U) ?_;simp;done)|(refine Ae (Aa U) ?_;exact vint (by first|omega|exact(Classical.not_not.1 c63)))),(by first|exact Aa U|(refine Ae (Aa U) (vint ?_);omega)|(refine Ae (Aa U) ?_;simp;done)|(refine Ae (Aa U) ?_;exact vint (by first|omega|exact(Classical.not_not.1 c63)))),trivial⟩ ⟨Aa U,Aa U,trivial⟩ ?_
        ·refine⟨hi2,fun j hj=> ?_⟩
         by_cases e:j=i
         ·subst e;exact Ep (fun hk=>by first|exact he2 (by first|assumption|omega)|(exfalso;omega)) (fun hk=>by first|(exact⟨hfd,by generalize ((2 ^ (fndFd fl (gd (prtO m) j).nm).1.w:Nat):Int)=P at *;omega⟩)|(exfalso;omega))
         ·exact hf j qom
        ·first|omega|(simp only[];omega)
        ·exact sbt
      ·refine rC tb 8 U ?_
       first|refine Ac (Aa U) (fun c63=> ?_) (fun c63=> ?_)|refine Af (Aa U) (fun c63=> ?_) (fun c63=> ?_)
       ·skip
        refine rC tb 9 U (Ba (rX tb 2 U (Ah U (J9 U) ?_)))
        first|exact⟨_,⟨_,⟨rfl,fun h=>absurd h qde⟩,rfl⟩,by exact sbt⟩|exact⟨_,⟨_,⟨rfl,fun h=>absurd h (by assumption)⟩,rfl⟩,by exact sbt⟩|exact⟨_,⟨0,⟨rfl,fun _=>⟨hnd,hfo,C8 hf⟩⟩,rfl⟩,by exact sbt⟩
       ·have he0:=Classical.not_not.1 c63;refine rC tb 5 U (y_ (Bf (T U) Aj qom) ?_ U);refine rO tb 2 U ?_;refine A4 (i+1) ?_ ?_ ⟨(by first|exact Aa U|(refine Ae (Aa U) (vint ?_);omega)|(refine Ae (Aa U) ?_;simp;done)|(refine Ae (Aa U) ?_;exact vint (by first|omega|exact(Classical.not_not.1 c63)))),(by first|exact Aa U|(refine Ae (Aa U) (vint ?_);omega)|(refine Ae (Aa U) ?_;simp;done)|(refine Ae (Aa U) ?_;exact vint (by first|omega|exact(Classical.not_not.1 c63)))),trivial⟩ ⟨Aa U,Aa U,trivial⟩ ?_
        ·refine⟨hi2,fun j hj=> ?_⟩
         by_cases e:j=i
         ·subst e;exact Ep (fun hk=>by first|exact he2 (by first|assumption|omega)|(exfalso;omega)) (fun hk=>by first|(exact⟨hfd,by generalize ((2 ^ (fndFd fl (gd (prtO m) j).nm).1.w:Nat):Int)=P at *;omega⟩)|(exfalso;omega))
         ·exact hf j qom
        ·first|omega|(simp only[];omega)
        ·exact sbt
    ·refine kC tb 8 [0,5,6,7,63] rfl U ?_
     first|refine Ac (Aa U) (fun c63=> ?_) (fun c63=> ?_)|refine Af (Aa U) (fun c63=> ?_) (fun c63=> ?_)
     ·skip
      refine rC tb 9 U (Ba (rX tb 2 U (Ah U (J9 U) ?_)))
      first|exact⟨_,⟨_,⟨rfl,fun h=>absurd h qde⟩,rfl⟩,by exact sbt⟩|exact⟨_,⟨_,⟨rfl,fun h=>absurd h (by assumption)⟩,rfl⟩,by exact sbt⟩|exact⟨_,⟨0,⟨rfl,fun _=>⟨hnd,hfo,C8 hf⟩⟩,rfl⟩,by exact sbt⟩
     ·have he0:=Classical.not_not.1 c63;refine rC tb 5 U (y_ (Bf (T U) Aj qom) ?_ U);refine rO tb 2 U ?_;refine A4 (i+1) ?_ ?_ ⟨(by first|exact Aa U|(refine Ae (Aa U) (vint ?_);omega)|(refine Ae (Aa U) ?_;simp;done)|(refine Ae (Aa U) ?_;exact vint (by first|omega|exact(Classical.not_not.1 c63)))),(by first|exact Aa U|(refine Ae (Aa U) (vint ?_);omega)|(refine Ae (Aa U) ?_;simp;done)|(refine Ae (Aa U) ?_;exact vint (by first|omega|exact(Classical.not_not.1 c63)))),trivial⟩ ⟨Aa U,Aa U,trivial⟩ ?_
      ·refine⟨hi2,fun j hj=> ?_⟩
       by_cases e:j=i
       ·subst e;exact Ep (fun hk=>by first|exact he2 (by first|assumption|omega)|(exfalso;omega)) (fun hk=>by first|(exact⟨hfd,by generalize ((2 ^ (fndFd fl (gd (prtO m) j).nm).1.w:Nat):Int)=P at *;omega⟩)|(exfalso;omega))
       ·exact hf j qom
      ·first|omega|(simp only[];omega)
      ·exact sbt
   ·refine rC tb 7 U (y_ (Ke U U runUnderlying26 sizeOf28 qom (by first|exact rfl|exact hdA.b (i:=i) hi2)) ?_ U);refine rO tb 1 U ?_;refine y_ (Ka U isAgg3 (by first|exact c_o|exact(hdA.mono (by repeat (first|exact List.sublist_append_left _ _|refine List.Sublist.cons _ ?_))).cs (i:=i) hi2 0 _ U)) ?_ U;refine rO tb 3 U ?_
    first|refine Ac (Aa U) (fun c41=> ?_) (fun c41=> ?_)|refine Af (Aa U) (fun c41=> ?_) (fun c41=> ?_)
    ·refine rC tb 5 U (y_ (Ke U U runUnderlying26 sizeOf28 qom (by first|exact rfl|exact hdA.b (i:=i) hi2)) ?_ U);refine rO tb 1 U ?_;refine y_ (Ka U isAgg9 (by first|exact c_o|exact(hdA.mono (by repeat (first|exact List.sublist_append_left _ _|refine List.Sublist.cons _ ?_))).cs (i:=i) hi2 6 _ U)) ?_ U;refine y_ (Ak (qe2 U U) call87 (fun H' hs=>Hi fl q c (hA.mono (List.Sublist.trans (by exact sbt) hs)) qom (gd (prtO m) i).nm)) ?_ U;refine rO tb 3 U (e_ (Al zeroValue67 cs_) ?_ U);rintro _ _ ⟨n8,rfl,rfl⟩
     first|refine A1 (Kf U U sizeOf67) U Ad ?_
     rintro _ _ ⟨rfl,rfl⟩;refine kO tb 3 [0,5,6,7,8,9] rfl U (rG tb 3 U ?_)
     first|refine Av (Bo (T U)) U Ad ?_|refine Av (B4 (T U)) U Ad ?_
     refine rO tb 2 U ?_
     first|refine Ac (Aa U) (fun c53=> ?_) (fun c53=> ?_)|refine Af (Aa U) (fun c53=> ?_) (fun c53=> ?_)
     ·skip
      refine rC tb 10 U ?_
      first|refine Ac (Aa U) (fun c63=> ?_) (fun c63=> ?_)|refine Af (Aa U) (fun c63=> ?_) (fun c63=> ?_)
      ·skip
       refine rC tb 9 U (Ba (rX tb 2 U (Ah U (J9 U) ?_)))
       first|exact⟨_,⟨_,⟨rfl,fun h=>absurd h qde⟩,rfl⟩,by exact sbt⟩|exact⟨_,⟨_,⟨rfl,fun h=>absurd h (by assumption)⟩,rfl⟩,by exact sbt⟩|exact⟨_,⟨0,⟨rfl,fun _=>⟨hnd,hfo,C8 hf⟩⟩,rfl⟩,by exact sbt⟩
      ·have he0:=Classical.not_not.1 c63;refine rC tb 5 U (y_ (Bf (T U) Aj qom) ?_ U);refine rO tb 2 U ?_;refine A4 (i+1) ?_ ?_ ⟨(by first|exact Aa U|(refine Ae (Aa U) (vint ?_);omega)|(refine Ae (Aa U) ?_;simp;done)|(refine Ae (Aa U) ?_;exact vint (by first|omega|exact(Classical.not_not.1 c63)))),(by first|exact Aa U|(refine Ae (Aa U) (vint ?_);omega)|(refine Ae (Aa U) ?_;simp;done)|(refine Ae (Aa U) ?_;exact vint (by first|omega|exact(Classical.not_not.1 c63)))),trivial⟩ ⟨Aa U,Aa U,trivial⟩ ?_
       ·refine⟨hi2,fun j hj=> ?_⟩
        by_cases e:j=i
        ·subst e;exact Ep (fun hk=>by first|exact he2 (by first|assumption|omega)|(exfalso;omega)) (fun hk=>by first|(exact⟨hfd,by generalize ((2 ^ (fndFd fl (gd (prtO m) j).nm).1.w:Nat):Int)=P at *;omega⟩)|(exfalso;omega))
        ·exact hf j qom
       ·first|omega|(simp only[];omega)
       ·exact sbt
     ·have hfd:(fndFd fl (gd (prtO m) i).nm).2=true:=by simpa using c53
      refine rC tb 1 U (Bm 8 [(0,true),(1,true),(2,true),(3,true),(4,true),(5,true),(6,true),(7,true)] ((n8,Cl (encF (fndFd fl (gd (prtO m) i).nm).1) 67)::(slH d ((prtO m).flatMap encPo) 28++((n3,Cl (encPo m) 28)::H))) mixd qkr (by exact sbt) ?_ Bz);refine rP tb 2 U (o_y U (Ke U U runUnderlying26 sizeOf28 qom (by first|exact rfl|exact hdA.b (i:=i) hi2)) ?_ U Ad);refine rP tb 1 U ?_;refine o_y U (Ka U isAgg3 (by first|exact c_o|exact(hdA.mono (by repeat (first|exact List.sublist_append_left _ _|refine List.Sublist.cons _ ?_))).cs (i:=i) hi2 7 _ U)) ?_ U Ad;refine o_y U (Kb U isAgg67 sizeOf67 U (by first|exact Ax)) ?_ U Ad;refine o_y U (Ak (qe1 U) call88 (fun H' hs=>Fy _ (hfl.all _ (Dv hfd)).w16)) (rP tb 1 U (A9 U (rO tb 2 U ?_))) U Ad
      first|refine Ac (Aa U) (fun c61=> ?_) (fun c61=> ?_)|refine Af (Aa U) (fun c61=> ?_) (fun c61=> ?_)
      ·refine rC tb 10 U ?_
       first|refine Ac (Aa U) (fun c63=> ?_) (fun c63=> ?_)|refine Af (Aa U) (fun c63=> ?_) (fun c63=> ?_)
       ·skip
        refine rC tb 9 U (Ba (rX tb 2 U (Ah U (J9 U) ?_)))
        first|exact⟨_,⟨_,⟨rfl,fun h=>absurd h qde⟩,rfl⟩,by exact sbt⟩|exact⟨_,⟨_,⟨rfl,fun h=>absurd h (by assumption)⟩,rfl⟩,by exact sbt⟩|exact⟨_,⟨0,⟨rfl,fun _=>⟨hnd,hfo,C8 hf⟩⟩,rfl⟩,by exact sbt⟩
       ·have he0:=Classical.not_not.1 c63;refine rC tb 5 U (y_ (Bf (T U) Aj qom) ?_ U);refine rO tb 2 U ?_;refine A4 (i+1) ?_ ?_ ⟨(by first|exact Aa U|(refine Ae (Aa U) (vint ?_);omega)|(refine Ae (Aa U) ?_;simp;done)|(refine Ae (Aa U) ?_;exact vint (by first|omega|exact(Classical.not_not.1 c63)))),(by first|exact Aa U|(refine Ae (Aa U) (vint ?_);omega)|(refine Ae (Aa U) ?_;simp;done)|(refine Ae (Aa U) ?_;exact vint (by first|omega|exact(Classical.not_not.1 c63)))),trivial⟩ ⟨Aa U,Aa U,trivial⟩ ?_
        ·refine⟨hi2,fun j hj=> ?_⟩
         by_cases e:j=i
         ·subst e;exact Ep (fun hk=>by first|exact he2 (by first|assumption|omega)|(exfalso;omega)) (fun hk=>by first|(exact⟨hfd,by generalize ((2 ^ (fndFd fl (gd (prtO m) j).nm).1.w:Nat):Int)=P at *;omega⟩)|(exfalso;omega))
         ·exact hf j qom
        ·first|omega|(simp only[];omega)
        ·exact sbt
      ·refine rC tb 8 U ?_
       first|refine Ac (Aa U) (fun c63=> ?_) (fun c63=> ?_)|refine Af (Aa U) (fun c63=> ?_) (fun c63=> ?_)
       ·skip
        refine rC tb 9 U (Ba (rX tb 2 U (Ah U (J9 U) ?_)))
        first|exact⟨_,⟨_,⟨rfl,fun h=>absurd h qde⟩,rfl⟩,by exact sbt⟩|exact⟨_,⟨_,⟨rfl,fun h=>absurd h (by assumption)⟩,rfl⟩,by exact sbt⟩|exact⟨_,⟨0,⟨rfl,fun _=>⟨hnd,hfo,C8 hf⟩⟩,rfl⟩,by exact sbt⟩
       ·have he0:=Classical.not_not.1 c63;refine rC tb 5 U (y_ (Bf (T U) Aj qom) ?_ U);refine rO tb 2 U ?_;refine A4 (i+1) ?_ ?_ ⟨(by first|exact Aa U|(refine Ae (Aa U) (vint ?_);omega)|(refine Ae (Aa U) ?_;simp;done)|(refine Ae (Aa U) ?_;exact vint (by first|omega|exact(Classical.not_not.1 c63)))),(by first|exact Aa U|(refine Ae (Aa U) (vint ?_);omega)|(refine Ae (Aa U) ?_;simp;done)|(refine Ae (Aa U) ?_;exact vint (by first|omega|exact(Classical.not_not.1 c63)))),trivial⟩ ⟨Aa U,Aa U,trivial⟩ ?_
        ·refine⟨hi2,fun j hj=> ?_⟩
         by_cases e:j=i
         ·subst e;exact Ep (fun hk=>by first|exact he2 (by first|assumption|omega)|(exfalso;omega)) (fun hk=>by first|(exact⟨hfd,by generalize ((2 ^ (fndFd fl (gd (prtO m) j).nm).1.w:Nat):Int)=P at *;omega⟩)|(exfalso;omega))
         ·exact hf j qom
        ·first|omega|(simp only[];omega)
        ·exact sbt
    ·refine rC tb 8 U ?_
     first|refine Ac (Aa U) (fun c63=> ?_) (fun c63=> ?_)|refine Af (Aa U) (fun c63=> ?_) (fun c63=> ?_)
     ·skip
      refine rC tb 9 U (Ba (rX tb 2 U (Ah U (J9 U) ?_)))
      first|exact⟨_,⟨_,⟨rfl,fun h=>absurd h qde⟩,rfl⟩,by exact sbt⟩|exact⟨_,⟨_,⟨rfl,fun h=>absurd h (by assumption)⟩,rfl⟩,by exact sbt⟩|exact⟨_,⟨0,⟨rfl,fun _=>⟨hnd,hfo,C8 hf⟩⟩,rfl⟩,by exact sbt⟩
     ·have he0:=Classical.not_not.1 c63;refine rC tb 5 U (y_ (Bf (T U) Aj qom) ?_ U);refine rO tb 2 U ?_;refine A4 (i+1) ?_ ?_ ⟨(by first|exact Aa U|(refine Ae (Aa U) (vint ?_);omega)|(refine Ae (Aa U) ?_;simp;done)|(refine Ae (Aa U) ?_;exact vint (by first|omega|exact(Classical.not_not.1 c63)))),(by first|exact Aa U|(refine Ae (Aa U) (vint ?_);omega)|(refine Ae (Aa U) ?_;simp;done)|(refine Ae (Aa U) ?_;exact vint (by first|omega|exact(Classical.not_not.1 c63)))),trivial⟩ ⟨Aa U,Aa U,trivial⟩ ?_
      ·refine⟨hi2,fun j hj=> ?_⟩
       by_cases e:j=i
       ·subst e;exact Ep (fun hk=>by first|exact he2 (by first|assumption|omega)|(exfalso;omega)) (fun hk=>by first|(exact⟨hfd,by generalize ((2 ^ (fndFd fl (gd (prtO m) j).nm).1.w:Nat):Int)=P at *;omega⟩)|(exfalso;omega))
       ·exact hf j qom
      ·first|omega|(simp only[];omega)
      ·exact sbt
  ·obtain rfl:i=(prtO m).length:=by have h9: ¬ ((i:Nat):Int)<((prtO m).length:Nat):=c20;omega
   refine rC tb 2 U (As (rX tb 8 U (Ah U (J9 U) ?_)))
   first|exact⟨_,⟨_,⟨rfl,fun h=>absurd h qde⟩,rfl⟩,by exact sbt⟩|exact⟨_,⟨_,⟨rfl,fun h=>absurd h (by assumption)⟩,rfl⟩,by exact sbt⟩|exact⟨_,⟨0,⟨rfl,fun _=>⟨hnd,hfo,C8 hf⟩⟩,rfl⟩,by exact sbt⟩
theorem field84 (a:Nat)(d:Int)(w:World):(Instr.field 84 (szV a d) 0).run Tryz.prog w= .ok (.int .i64 (a:Nat)) w:=by kernel_rfl
theorem Ib {w0:World}{H:List (Nat × Obj)}(fl:List Fd)(hfl:FlOk fl)(q:Option Addr)(c:Nat)(hA:FlA w0 H q fl){m:Pom}(hM:PoM w0 H m)(hm:m.sz≤1000000000)(hz:NmO m)(most:Nat):
  FSpec Tryz.prog w0 12 #[.slice q fl.length c, .agg (encPo m).toArray, .int .i64 (most:Nat)] H (SayB (m.nd≤most∧FmO m∧∀ a∈prtO m,FitO fl a) H):=by
 refine Ao Tryz.func12 U ntmps12 U (rD tb 2 U (e_ (Kg U cs_) ?_ U));rintro _ _ ⟨n4,rfl,rfl⟩;refine rO tb 5 U (y_ (Kb U isAgg28 sizeOf28 U (by first|exact Ax)) ?_ U);refine e_ (An (qe1 U) call40 (fewO_s (hM.mono (by exact sbt)) hm)) ?_ U;rintro _ _ ⟨b1,rfl,rfl⟩;refine rO tb 7 U ?_
 first|refine Av (Bo (T U)) U Ad ?_|refine Av (B4 (T U)) U Ad ?_
 refine rO tb 1 U ?_
 first|refine Am (s:=13) (Aa U) (fun c13=> ?_) (fun c13=> ?_)|refine Aw (s:=13) (Aa U) (fun c13=> ?_) (fun c13=> ?_)
 ·refine rO tb 26 U (Ah U (J9 U) ?_)
  first|exact⟨_,⟨false,⟨rfl,fun h=>by cases h⟩,rfl⟩,by exact sbt⟩|exact⟨_,⟨_,⟨rfl,fun h=>⟨by omega,(he1 (of_decide_eq_true h)).2⟩⟩,rfl⟩,by exact sbt⟩
 ·refine Av (Kb U isAgg28 sizeOf28 U (by first|exact Ax)) U (Az U U (Aa U)) ?_;refine A1 (An (qe1 U) call41 (szO_s _ hm (hM.mono (by exact sbt)) (Nat.le_refl _))) U (Az U U (Aa U)) ?_;rintro _ _ ⟨z1,⟨rfl,y1,x1⟩,rfl⟩;refine Av (yl_field (T U) (field84 _ _)) U (Az U U (Aa U)) (rO tb 4 U ?_)
  first|refine Am (s:=20) (Aa U) (fun c20=> ?_) (fun c20=> ?_)|refine Aw (s:=20) (Aa U) (fun c20=> ?_) (fun c20=> ?_)
  ·refine rO tb 19 U (Ah U (J9 U) ?_)
   first|exact⟨_,⟨false,⟨rfl,fun h=>by cases h⟩,rfl⟩,by exact sbt⟩|exact⟨_,⟨_,⟨rfl,fun h=>⟨by omega,(he1 (of_decide_eq_true h)).2⟩⟩,rfl⟩,by exact sbt⟩
  ·refine Av (Kb U isAgg28 sizeOf28 U (by first|exact Ax)) U (Az U U (Aa U)) ?_;refine A1 (An (qe1 U) call42 (stO_s _ hm (hM.mono (by exact sbt)) (Nat.le_refl _))) U (Az U U (Aa U)) ?_;rintro _ _ ⟨z2,⟨rfl,y2,x2⟩,rfl⟩;refine rO tb 3 U ?_
   first|refine Am (s:=25) (Aa U) (fun c25=> ?_) (fun c25=> ?_)|refine Aw (s:=25) (Aa U) (fun c25=> ?_) (fun c25=> ?_)
   ·refine rO tb 14 U (Ah U (J9 U) ?_)
    first|exact⟨_,⟨false,⟨rfl,fun h=>by cases h⟩,rfl⟩,by exact sbt⟩|exact⟨_,⟨_,⟨rfl,fun h=>⟨by omega,(he1 (of_decide_eq_true h)).2⟩⟩,rfl⟩,by exact sbt⟩
   ·refine Av (Kb U isAgg28 sizeOf28 U (by first|exact Ax)) U (Az U U (Aa U)) ?_;refine A1 (An (qe1 U) call43 (light_s (hM.mono (by exact sbt)) hm)) U (Az U U (Aa U)) ?_;rintro _ _ ⟨b4,rfl,rfl⟩
    first|refine Av (Bo (T U)) U (Az U U (Aa U)) ?_|refine Av (B4 (T U)) U (Az U U (Aa U)) ?_
    refine rO tb 3 U ?_
    first|refine Ac (Aa U) (fun c29=> ?_) (fun c29=> ?_)|refine Af (Aa U) (fun c29=> ?_) (fun c29=> ?_)
    ·refine rC tb 7 U (Ah U (J9 U) ?_)
     first|exact⟨_,⟨false,⟨rfl,fun h=>by cases h⟩,rfl⟩,by exact sbt⟩|exact⟨_,⟨_,⟨rfl,fun h=>⟨by omega,(he1 (of_decide_eq_true h)).2⟩⟩,rfl⟩,by exact sbt⟩
    ·refine rC tb 5 U (y_ (Kb U isAgg28 sizeOf28 U (by first|exact Ax)) ?_ U);refine e_ (An (qe2 U U) call44 (rpolicy_s fl hfl q c (hA.mono (by exact sbt)) (hM.mono (by exact sbt)) hm hz)) ?_ U;rintro _ _ ⟨e1,⟨rfl,he1⟩,rfl⟩;refine kO tb 10 [6] rfl U (rG tb 1 U (Ah U (J9 U) ?_))
     first|exact⟨_,⟨false,⟨rfl,fun h=>by cases h⟩,rfl⟩,by exact sbt⟩|exact⟨_,⟨_,⟨rfl,fun h=>⟨by omega,(he1 (of_decide_eq_true h)).2⟩⟩,rfl⟩,by exact sbt⟩
structure Fi where
 nm:ByteArray
 pos:Int
 w:Int
instance:Inhabited Fi:=⟨⟨default,0,0⟩⟩
abbrev encFi (f:Fi):List Value:=[.string f.nm, .int .i64 f.pos, .int .i64 f.w]
structure PlOk (f:Fi):Prop where
 w1:1≤f.w
 w16:f.w≤16
 a1:16≤f.pos
 a2:f.pos≤143
 fit:f.pos % 16+f.w≤16
def Dj (f g:Fi):Prop:=f.pos+f.w≤g.pos∨g.pos+g.w≤f.pos
structure FisOk (l:List Fi):Prop where
 few:l.length≤16
 pl:∀ j,j<l.length→PlOk (gd l j)
 dj:∀ i j,i<j→j<l.length→Dj (gd l i) (gd l j)
def Fi.fd (f:Fi):Fd:=⟨f.nm,f.pos.toNat,f.w.toNat⟩
theorem FisOk.fl {l:List Fi}(h:FisOk l):FlOk (l.map Fi.fd):=by
 have hall:∀ f∈l,PlOk f:=C8 h.pl;refine⟨fun f hf=> ?_,?_,by rw[List.length_map];exact h.few⟩
 ·obtain⟨g,hg,rfl⟩:=List.mem_map.1 hf;have p:=hall g hg;obtain⟨p1,p2,p3,p4,p5⟩:=p;obtain⟨nm,pos,w⟩:=g
  dsimp only at p1 p2 p3 p4 p5
  obtain⟨a,rfl⟩:=Int.eq_ofNat_of_zero_le (show 0≤pos by omega);obtain⟨b,rfl⟩:=Int.eq_ofNat_of_zero_le (show 0≤w by omega);refine⟨⟨?_,?_,?_,?_⟩,?_,?_⟩<;>dsimp only[Fi.fd]<;>simp only[Int.toNat_natCast]<;>omega
 ·rw[List.pairwise_map,List.pairwise_iff_getElem];intro i j hi hj hij;have hd:=h.dj i j hij hj;have p:=h.pl i hi;have q:=h.pl j hj;rw[A0 hi] at hd p;rw[A0 hj] at hd q
  revert hd p q
  generalize l[i]=f
  generalize l[j]=g;intro hd p q;obtain⟨p1,p2,p3,p4,p5⟩:=p;obtain⟨q1,q2,q3,q4,q5⟩:=q;unfold Dj at hd
  dsimp only[Fi.fd]
  omega
theorem FisOk.enc {l:List Fi}(h:FisOk l):l.map encFi=(l.map Fi.fd).map encF:=by
 have hall:∀ f∈l,PlOk f:=C8 h.pl;rw[List.map_map];refine List.map_congr_left fun f hf=> ?_
 have p:=hall f hf;obtain⟨p1,p2,p3,p4,p5⟩:=p;obtain⟨nm,pos,w⟩:=f
 dsimp only at p1 p2 p3 p4 p5
 obtain⟨a,rfl⟩:=Int.eq_ofNat_of_zero_le (show 0≤pos by omega);obtain⟨b,rfl⟩:=Int.eq_ofNat_of_zero_le (show 0≤w by omega)
 rfl
theorem fname_s {w0:World}{H:List (Nat × Obj)}(s:ByteArray)(hs9:s.size≤9223372036854775807):
  FSpec Tryz.prog w0 78 #[.string s] H (SomB H):=by
 refine Ao Tryz.func78 U ntmps78 U (rD tb 12 U ?_);refine Bg (X:=Nat) (V:=fun i=>[(3, .int .i64 (i:Nat))]) (C:=[(0,_)]) (G:=fun i=>H) (φ:=fun i=>i≤s.size) (μ:=fun i=>s.size - i) (x0:=0) ?_ ⟨Aa U,trivial⟩ ⟨atd,trivial⟩ sb0 ?_
 ·exact Nat.zero_le _
 rintro i hi;refine rD tb 5 U (y_ (D7 (T U) runUnderlying9) (rO tb 3 U ?_) U)
 first|refine Ac (Aa U) (fun c9=> ?_) (fun c9=> ?_)|refine Af (Aa U) (fun c9=> ?_) (fun c9=> ?_)
 ·refine rC tb 4 U ?_;refine D6 (X:=Bool) (V:=fun b4=>[(4, .bool b4)]) (C:=[(0,_),(3,_)]) (φ:=fun b4=>True) ⟨Aa U,Aa U,trivial⟩ ?_ ?_
  ·refine rD tb 3 U (y_ (Eg (T U) (T U) runUnderlying9 (by have h9:((i:Nat):Int)<(s.size:Nat):=c9;omega)) ?_ U);refine rO tb 2 U ?_
   first|refine Am (s:=16) (Aa U) (fun c16=> ?_) (fun c16=> ?_)|refine Aw (s:=16) (Aa U) (fun c16=> ?_) (fun c16=> ?_)
   ·refine rO tb 2 U (Av (Eg (T U) (T U) runUnderlying9 (by have h9:((i:Nat):Int)<(s.size:Nat):=c9;omega)) U (Az U U (Aa U)) ?_);refine rO tb 4 U ?_;refine A6 (_) ?_ ⟨atd,trivial⟩ ⟨Aa U,Aa U,trivial⟩ sbt
    trivial
   ·refine rO tb 7 U ?_;refine A6 (_) ?_ ⟨atd,trivial⟩ ⟨Aa U,Aa U,trivial⟩ sbt
    trivial
  rintro b4 _;refine D6 (X:=Bool) (V:=fun b5=>[(5, .bool b5)]) (C:=[(0,_),(3,_),(4,_)]) (φ:=fun b5=>True) ⟨Aa U,Aa U,Aa U,trivial⟩ ?_ ?_
  ·refine rD tb 3 U (y_ (Eg (T U) (T U) runUnderlying9 (by have h9:((i:Nat):Int)<(s.size:Nat):=c9;omega)) ?_ U);refine rO tb 2 U ?_
   first|refine Am (s:=26) (Aa U) (fun c26=> ?_) (fun c26=> ?_)|refine Aw (s:=26) (Aa U) (fun c26=> ?_) (fun c26=> ?_)
   ·refine rO tb 2 U (Av (Eg (T U) (T U) runUnderlying9 (by have h9:((i:Nat):Int)<(s.size:Nat):=c9;omega)) U (Az U U (Aa U)) ?_);refine rO tb 3 U ?_
    first|refine Am (s:=32) (Aa U) (fun c32=> ?_) (fun c32=> ?_)|refine Aw (s:=32) (Aa U) (fun c32=> ?_) (fun c32=> ?_)
    ·refine rO tb 7 U ?_;refine A6 (_) ?_ ⟨atd,trivial⟩ ⟨Aa U,Aa U,Aa U,trivial⟩ sbt
     trivial
    ·refine rO tb 2 U (Av (Eg (T U) (T U) runUnderlying9 (by have h9:((i:Nat):Int)<(s.size:Nat):=c9;omega)) U (Az U U (Aa U)) ?_);refine rO tb 4 U ?_;refine A6 (_) ?_ ⟨atd,trivial⟩ ⟨Aa U,Aa U,Aa U,trivial⟩ sbt
     trivial
   ·refine rO tb 8 U (Av (Eg (T U) (T U) runUnderlying9 (by have h9:((i:Nat):Int)<(s.size:Nat):=c9;omega)) U (Az U U (Aa U)) ?_);refine rO tb 4 U ?_;refine A6 (_) ?_ ⟨atd,trivial⟩ ⟨Aa U,Aa U,Aa U,trivial⟩ sbt
    trivial
  rintro b5 _;refine rC tb 3 U ?_
  first|refine Av (Bo (T U)) U Ad ?_|refine Av (B4 (T U)) U Ad ?_
  refine rO tb 1 U ?_
  first|refine Am (s:=40) (Aa U) (fun c40=> ?_) (fun c40=> ?_)|refine Aw (s:=40) (Aa U) (fun c40=> ?_) (fun c40=> ?_)
  ·refine rO tb 1 U ?_
   first|refine Av (Bo (T U)) U (Az U U (Aa U)) ?_|refine Av (B4 (T U)) U (Az U U (Aa U)) ?_
   refine rO tb 1 U ?_
   first|refine Am (s:=43) (Aa U) (fun c43=> ?_) (fun c43=> ?_)|refine Aw (s:=43) (Aa U) (fun c43=> ?_) (fun c43=> ?_)
   ·refine rO tb 15 U (Ba (rX tb 2 U (Ah U (J9 U) ?_)));exact⟨_,⟨_,rfl,rfl⟩,sbt⟩
   ·refine rO tb 6 U ?_
    first|refine Ac (Aa U) (fun c47=> ?_) (fun c47=> ?_)|refine Af (Aa U) (fun c47=> ?_) (fun c47=> ?_)
    ·refine rC tb 8 U (Ba (rX tb 2 U (Ah U (J9 U) ?_)));exact⟨_,⟨_,rfl,rfl⟩,sbt⟩
    ·refine rC tb 5 U (y_ (Bf (T U) Aj (by have h9:((i:Nat):Int)<(s.size:Nat):=c9;omega)) ?_ U);refine rO tb 2 U ?_;refine A4 (i+1) ?_ ?_ ⟨atd,trivial⟩ ⟨Aa U,trivial⟩ ?_
     ·have h9:((i:Nat):Int)<(s.size:Nat):=c9;omega
     ·have h9:((i:Nat):Int)<(s.size:Nat):=c9;omega
     ·exact sbt
  ·refine rO tb 15 U (y_ (Bf (T U) Aj (by have h9:((i:Nat):Int)<(s.size:Nat):=c9;omega)) ?_ U);refine rO tb 2 U ?_;refine A4 (i+1) ?_ ?_ ⟨atd,trivial⟩ ⟨Aa U,trivial⟩ ?_
   ·have h9:((i:Nat):Int)<(s.size:Nat):=c9;omega
   ·have h9:((i:Nat):Int)<(s.size:Nat):=c9;omega
   ·exact sbt
 ·refine rC tb 2 U (As (rX tb 5 U (y_ (D7 (T U) runUnderlying9) (rO tb 2 U ?_) U)))
  first|refine Am (s:=51) (Aa U) (fun c51=> ?_) (fun c51=> ?_)|refine Aw (s:=51) (Aa U) (fun c51=> ?_) (fun c51=> ?_)
  ·refine rO tb 1 U (Av (D7 (T U) runUnderlying9) U (Az U U (Aa U)) (rO tb 6 U (Ah U (J9 U) ?_)));exact⟨_,⟨_,rfl,rfl⟩,sbt⟩
  ·refine rO tb 8 U (Ah U (J9 U) ?_);exact⟨_,⟨_,rfl,rfl⟩,sbt⟩
theorem place_s {w0:World}{H:List (Nat × Obj)}(f:Fi):
  FSpec Tryz.prog w0 79 #[.agg (encFi f).toArray] H (SayB (PlOk f) H):=by
 refine Ao Tryz.func79 U ntmps79 U (rD tb 2 U (e_ (Kg U cs_) ?_ U));rintro _ _ ⟨n1,rfl,rfl⟩;refine rO tb 6 U (y_ (Ka U isAgg3 (by first|exact c_o)) ?_ U);refine rO tb 2 U ?_
 first|refine Am (s:=6) (Aa U) (fun c6=> ?_) (fun c6=> ?_)|refine Aw (s:=6) (Aa U) (fun c6=> ?_) (fun c6=> ?_)
 ·refine rO tb 1 U (Av (Ka U isAgg3 (by first|exact c_o)) U (Az U U (Aa U)) ?_);refine rO tb 3 U ?_
  first|refine Am (s:=11) (Aa U) (fun c11=> ?_) (fun c11=> ?_)|refine Aw (s:=11) (Aa U) (fun c11=> ?_) (fun c11=> ?_)
  ·refine rO tb 1 U (Av (Ka U isAgg3 (by first|exact c_o)) U (Az U U (Aa U)) ?_);refine rO tb 3 U ?_
   first|refine Am (s:=16) (Aa U) (fun c16=> ?_) (fun c16=> ?_)|refine Aw (s:=16) (Aa U) (fun c16=> ?_) (fun c16=> ?_)
   ·refine rO tb 1 U (Av (Ka U isAgg3 (by first|exact c_o)) U (Az U U (Aa U)) ?_);refine rO tb 3 U ?_
    first|refine Am (s:=21) (Aa U) (fun c21=> ?_) (fun c21=> ?_)|refine Aw (s:=21) (Aa U) (fun c21=> ?_) (fun c21=> ?_)
    ·refine rO tb 1 U (Av (Ka U isAgg3 (by first|exact c_o)) U (Az U U (Aa U)) ?_);refine Av (yl_rem (T U) Aj qom) U (Az U U (Aa U)) ?_;refine rO tb 1 U (Av (Ka U isAgg3 (by first|exact c_o)) U (Az U U (Aa U)) ?_);refine Av (Bf (T U) (T U) qom) U (Az U U (Aa U)) ?_;refine kO tb 5 [2] rfl U (rG tb 1 U (Ah U (J9 U) ?_))
     first|exact⟨_,⟨false,⟨rfl,fun h=>by cases h⟩,rfl⟩,sbt⟩|exact⟨_,⟨_,⟨rfl,fun h=>⟨by omega,by omega,by omega,by omega,of_decide_eq_true h⟩⟩,rfl⟩,sbt⟩
    ·refine kO tb 11 [2] rfl U (rG tb 1 U (Ah U (J9 U) ?_))
     first|exact⟨_,⟨false,⟨rfl,fun h=>by cases h⟩,rfl⟩,sbt⟩|exact⟨_,⟨_,⟨rfl,fun h=>⟨by omega,by omega,by omega,by omega,of_decide_eq_true h⟩⟩,rfl⟩,sbt⟩
   ·refine kO tb 16 [2] rfl U (rG tb 1 U (Ah U (J9 U) ?_))
    first|exact⟨_,⟨false,⟨rfl,fun h=>by cases h⟩,rfl⟩,sbt⟩|exact⟨_,⟨_,⟨rfl,fun h=>⟨by omega,by omega,by omega,by omega,of_decide_eq_true h⟩⟩,rfl⟩,sbt⟩
  ·refine kO tb 21 [2] rfl U (rG tb 1 U (Ah U (J9 U) ?_))
   first|exact⟨_,⟨false,⟨rfl,fun h=>by cases h⟩,rfl⟩,sbt⟩|exact⟨_,⟨_,⟨rfl,fun h=>⟨by omega,by omega,by omega,by omega,of_decide_eq_true h⟩⟩,rfl⟩,sbt⟩
 ·refine kO tb 26 [2] rfl U (rG tb 1 U (Ah U (J9 U) ?_))
  first|exact⟨_,⟨false,⟨rfl,fun h=>by cases h⟩,rfl⟩,sbt⟩|exact⟨_,⟨_,⟨rfl,fun h=>⟨by omega,by omega,by omega,by omega,of_decide_eq_true h⟩⟩,rfl⟩,sbt⟩
theorem common_s {w0:World}{H:List (Nat × Obj)}(f g:Fi)(hf:PlOk f)(hg:PlOk g):
  FSpec Tryz.prog w0 80 #[.agg (encFi f).toArray, .agg (encFi g).toArray] H (fun u H'=>∃ b:Bool,(u= .bool b∧(b=false→Dj f g))∧H'=H):=by
 refine Ao Tryz.func80 U ntmps80 U ?_;obtain⟨f1,f2,f3,f4,f5⟩:=hf;obtain⟨g1,g2,g3,g4,g5⟩:=hg;refine rD tb 2 U (e_ (Kg U cs_) ?_ U);rintro _ _ ⟨n2,rfl,rfl⟩;refine e_ (Kg U cs_) ?_ U;rintro _ _ ⟨n3,rfl,rfl⟩;refine rO tb 6 U (y_ (Ka U isAgg3 (by first|exact c_o)) ?_ U);refine rO tb 1 U (y_ (Ka U isAgg3 (by first|exact c_o)) ?_ U);refine rO tb 1 U (y_ (Ka U isAgg3 (by first|exact c_o)) ?_ U);refine y_ (Bf (T U) (T U) qom) ?_ U;refine rO tb 2 U ?_
 first|refine Am (s:=13) (Aa U) (fun c13=> ?_) (fun c13=> ?_)|refine Aw (s:=13) (Aa U) (fun c13=> ?_) (fun c13=> ?_)
 ·refine rO tb 1 U (Av (Ka U isAgg3 (by first|exact c_o)) U (Az U U (Aa U)) ?_);refine rO tb 1 U (Av (Ka U isAgg3 (by first|exact c_o)) U (Az U U (Aa U)) ?_);refine rO tb 1 U (Av (Ka U isAgg3 (by first|exact c_o)) U (Az U U (Aa U)) ?_);refine Av (Bf (T U) (T U) qom) U (Az U U (Aa U)) ?_;refine rO tb 6 U (Ah U (J9 U) ?_)
  first|exact⟨_,⟨_,⟨rfl,fun h=>by unfold Dj;omega⟩,rfl⟩,sbt⟩|exact⟨_,⟨_,⟨rfl,fun h=>by unfold Dj;have h9:=of_decide_eq_false h;omega⟩,rfl⟩,sbt⟩
 ·refine rO tb 13 U (Ah U (J9 U) ?_)
  first|exact⟨_,⟨_,⟨rfl,fun h=>by unfold Dj;omega⟩,rfl⟩,sbt⟩|exact⟨_,⟨_,⟨rfl,fun h=>by unfold Dj;have h9:=of_decide_eq_false h;omega⟩,rfl⟩,sbt⟩
theorem check_s {w0:World}{H:List (Nat × Obj)}(fl:List Fi)(q:Option Addr)(c:Nat)(hA:Arr w0 H q 3 encFi fl)(hnm:∀ f∈fl,f.nm.size≤9223372036854775807):
  FSpec Tryz.prog w0 36 #[.slice q fl.length c] H (SayE (FisOk fl) H):=by
 refine Ao Tryz.func36 U ntmps36 U (rD tb 13 U ?_)
 first|refine Ac (Aa U) (fun c11=> ?_) (fun c11=> ?_)|refine Af (Aa U) (fun c11=> ?_) (fun c11=> ?_)
 ·skip
  refine rC tb 7 U (Ah U (J9 U) ?_)
  first|exact⟨_,⟨_,⟨rfl,fun h=>absurd h qde⟩,rfl⟩,sbt⟩|exact⟨_,⟨0,⟨rfl,fun _=>⟨hfew,hpl,hdj⟩⟩,rfl⟩,sbt⟩
 ·have hfew:fl.length≤16:=by have h9: ¬ ((fl.length:Nat):Int)>16:=c11;omega
  refine rC tb 9 U ?_;refine Bg (X:=Nat) (V:=fun k=>[(3, .int .i64 (k:Nat))]) (C:=[(0,_)]) (G:=fun k=>H) (φ:=fun k=>k≤fl.length∧(∀ j,j<k→PlOk (gd fl j))∧∀ a b,a<b→b<k→Dj (gd fl a) (gd fl b)) (μ:=fun k=>fl.length - k) (x0:=0) ?_ ⟨Aa U,trivial⟩ ⟨atd,trivial⟩ sb0 ?_
  ·exact⟨Nat.zero_le _,fun j hj=>absurd hj (Nat.not_lt_zero _),fun a b _ hj=>absurd hj (Nat.not_lt_zero _)⟩
  rintro k ⟨hk,hpl,hdj⟩;refine rD tb 9 U ?_
  first|refine Ac (Aa U) (fun c15=> ?_) (fun c15=> ?_)|refine Af (Aa U) (fun c15=> ?_) (fun c15=> ?_)
  ·have hk2:k<fl.length:=by have h9:((k:Nat):Int)<(fl.length:Nat):=c15;omega
   refine rC tb 8 U (y_ (Ke U U runUnderlying22 sizeOf67 qom (by first|exact rfl|exact(hA k (gd fl k) (B3 qom)).1|exact(hA i (gd fl i) (B3 qom)).1)) ?_ U);refine rO tb 1 U (y_ (Ka U isAgg9 (by first|exact c_o|exact(hA.mono (by exact sbt)).cs (i:=k) qom 0 _ U)) ?_ U);refine e_ (An (qe1 U) call78 (fname_s (gd fl k).nm (hnm _ (Bj qom)))) ?_ U;rintro _ _ ⟨b1,rfl,hh⟩;obtain rfl:=hh.symm;refine rO tb 7 U ?_
   first|refine Av (Bo (T U)) U Ad ?_|refine Av (B4 (T U)) U Ad ?_
   refine rO tb 1 U ?_
   first|refine Am (s:=26) (Aa U) (fun c26=> ?_) (fun c26=> ?_)|refine Aw (s:=26) (Aa U) (fun c26=> ?_) (fun c26=> ?_)
   ·refine rO tb 19 U (Ba (rX tb 2 U (Ah U (J9 U) ?_)))
    first|exact⟨_,⟨_,⟨rfl,fun h=>absurd h qde⟩,rfl⟩,sbt⟩|exact⟨_,⟨0,⟨rfl,fun _=>⟨hfew,hpl,hdj⟩⟩,rfl⟩,sbt⟩
   ·refine rO tb 2 U (Av (Ke U U runUnderlying22 sizeOf67 qom (by first|exact rfl|exact(hA k (gd fl k) (B3 qom)).1|exact(hA i (gd fl i) (B3 qom)).1)) U (Az U U (Aa U)) ?_);refine rO tb 1 U (Av (Ka U isAgg9 (by first|exact c_o|exact(hA.mono (by exact sbt)).cs (i:=k) qom 0 _ U)) U (Az U U (Aa U)) ?_);refine Av (Dx (T U) Aj) U (Az U U (Aa U)) (rO tb 3 U ?_)
    first|refine Ac (Aa U) (fun c33=> ?_) (fun c33=> ?_)|refine Af (Aa U) (fun c33=> ?_) (fun c33=> ?_)
    ·refine rC tb 9 U (Ba (rX tb 2 U (Ah U (J9 U) ?_)))
     first|exact⟨_,⟨_,⟨rfl,fun h=>absurd h qde⟩,rfl⟩,sbt⟩|exact⟨_,⟨0,⟨rfl,fun _=>⟨hfew,hpl,hdj⟩⟩,rfl⟩,sbt⟩
    ·refine rC tb 9 U ?_;refine Bg (X:=Nat) (V:=fun i=>[(5, .int .i64 (i:Nat))]) (C:=[(0,_),(3,_)]) (G:=fun i=>H) (φ:=fun i=>i≤k) (μ:=fun i=>k - i) (x0:=0) ?_ ⟨Aa U,Aa U,trivial⟩ ⟨atd,trivial⟩ sb0 ?_
     ·exact Nat.zero_le _
     rintro i hi;refine rD tb 8 U ?_
     first|refine Ac (Aa U) (fun c36=> ?_) (fun c36=> ?_)|refine Af (Aa U) (fun c36=> ?_) (fun c36=> ?_)
     ·have hi2:i<k:=by have h9:((i:Nat):Int)<(k:Nat):=c36;omega
      refine rC tb 5 U (Bm 11 [(0,true),(1,true),(2,true),(3,true),(4,true),(5,true),(6,true),(7,true),(8,true),(9,true),(10,true)] _ mixd qkr sb0 ?_ Bz);refine rP tb 2 U (o_y U (Ke U U runUnderlying22 sizeOf67 qom (by first|exact rfl|exact(hA k (gd fl k) (B3 qom)).1|exact(hA i (gd fl i) (B3 qom)).1)) ?_ U Ad);refine rP tb 1 U (o_y U (Ka U isAgg9 (by first|exact c_o|exact(hA.mono (by exact sbt)).cs (i:=i) qom 0 _ U)) ?_ U Ad);refine rP tb 2 U (o_y U (C6 (T U) (T U) runUnderlying22 sizeOf67 qom (by first|exact rfl|exact(hA k (gd fl k) (B3 qom)).1|exact(hA i (gd fl i) (B3 qom)).1)) ?_ U Ad);refine rP tb 1 U (o_y U (Ka U isAgg9 (by first|exact c_o|exact(hA.mono (by exact sbt)).cs (i:=k) qom 0 _ U)) ?_ U Ad);refine o_y U (Dx (T U) (T U)) (A9 U (rO tb 2 U ?_)) U Ad
      first|refine Ac (Aa U) (fun c49=> ?_) (fun c49=> ?_)|refine Af (Aa U) (fun c49=> ?_) (fun c49=> ?_)
      ·refine rC tb 8 U (Ba (rX tb 4 U (Ba (rX tb 2 U (Ah U (J9 U) ?_)))))
       first|exact⟨_,⟨_,⟨rfl,fun h=>absurd h qde⟩,rfl⟩,sbt⟩|exact⟨_,⟨0,⟨rfl,fun _=>⟨hfew,hpl,hdj⟩⟩,rfl⟩,sbt⟩
      ·refine rC tb 5 U (y_ (Bf (T U) Aj qom) ?_ U);refine rO tb 2 U ?_;refine A4 (i+1) ?_ ?_ ⟨atd,trivial⟩ ⟨Aa U,Aa U,trivial⟩ ?_
       ·omega
       ·first|omega|(simp only[];omega)
       ·exact sbt
     ·skip
      refine rC tb 2 U (As (rX tb 6 U (y_ (C6 (T U) (T U) runUnderlying22 sizeOf67 qom (by first|exact rfl|exact(hA k (gd fl k) (B3 qom)).1|exact(hA i (gd fl i) (B3 qom)).1)) ?_ U)));refine y_ (Kb U isAgg67 sizeOf67 U (by first|exact(hA.mono (by exact sbt)).cs (i:=k) qom|exact Ax)) ?_ U;refine e_ (An (qe1 U) call79 (place_s (gd fl k))) ?_ U;rintro _ _ ⟨b2,⟨rfl,hp2⟩,hh⟩;obtain rfl:=hh.symm;refine rO tb 7 U ?_
      first|refine Av (Bo (T U)) U Ad ?_|refine Av (B4 (T U)) U Ad ?_
      refine rO tb 2 U ?_
      first|refine Ac (Aa U) (fun c56=> ?_) (fun c56=> ?_)|refine Af (Aa U) (fun c56=> ?_) (fun c56=> ?_)
      ·skip
       refine rC tb 9 U (Ba (rX tb 2 U (Ah U (J9 U) ?_)))
       first|exact⟨_,⟨_,⟨rfl,fun h=>absurd h qde⟩,rfl⟩,sbt⟩|exact⟨_,⟨0,⟨rfl,fun _=>⟨hfew,hpl,hdj⟩⟩,rfl⟩,sbt⟩
      ·have hpk:PlOk (gd fl k):=hp2 (by simpa using c56);refine rC tb 8 U ?_;refine Bg (X:=Nat) (V:=fun i=>[(7, .int .i64 (i:Nat))]) (C:=[(0,_),(3,_)]) (G:=fun i=>H) (φ:=fun i=>i≤k∧∀ j,j<i→Dj (gd fl j) (gd fl k)) (μ:=fun i=>k - i) (x0:=0) ?_ ⟨Aa U,Aa U,trivial⟩ ⟨atd,trivial⟩ sb0 ?_
       ·exact⟨Nat.zero_le _,fun j hj=>absurd hj (Nat.not_lt_zero _)⟩
       rintro i ⟨hi,hdi2⟩;refine rD tb 8 U ?_
       first|refine Ac (Aa U) (fun c59=> ?_) (fun c59=> ?_)|refine Af (Aa U) (fun c59=> ?_) (fun c59=> ?_)
       ·have hi2:i<k:=by have h9:((i:Nat):Int)<(k:Nat):=c59;omega
        refine rC tb 5 U (Bm 8 [(0,true),(1,true),(2,true),(3,true),(4,true),(5,true),(6,true),(7,true)] _ mixd qkr sb0 ?_ Bz);refine rP tb 2 U (o_y U (Ke U U runUnderlying22 sizeOf67 qom (by first|exact rfl|exact(hA k (gd fl k) (B3 qom)).1|exact(hA i (gd fl i) (B3 qom)).1)) ?_ U Ad);refine o_y U (Kb U isAgg67 sizeOf67 U (by first|exact(hA.mono (by exact sbt)).cs (i:=i) qom|exact Ax)) ?_ U Ad;refine rP tb 2 U (o_y U (C6 (T U) (T U) runUnderlying22 sizeOf67 qom (by first|exact rfl|exact(hA k (gd fl k) (B3 qom)).1|exact(hA i (gd fl i) (B3 qom)).1)) ?_ U Ad);refine o_y U (Kb U isAgg67 sizeOf67 U (by first|exact(hA.mono (by exact sbt)).cs (i:=k) qom|exact Ax)) ?_ U Ad;refine A9 U (e_ (An (qe2 U U) call80 (common_s (gd fl i) (gd fl k) (hpl i qom) hpk)) ?_ U);rintro _ _ ⟨b3,⟨rfl,hd3⟩,hh⟩;obtain rfl:=hh.symm;refine rO tb 8 U ?_
        first|refine Ac (Aa U) (fun c71=> ?_) (fun c71=> ?_)|refine Af (Aa U) (fun c71=> ?_) (fun c71=> ?_)
        ·skip
         refine rC tb 8 U (Ba (rX tb 3 U (Ba (rX tb 2 U (Ah U (J9 U) ?_)))))
         first|exact⟨_,⟨_,⟨rfl,fun h=>absurd h qde⟩,rfl⟩,sbt⟩|exact⟨_,⟨0,⟨rfl,fun _=>⟨hfew,hpl,hdj⟩⟩,rfl⟩,sbt⟩
        ·have hdi:Dj (gd fl i) (gd fl k):=hd3 (by simpa using c71);refine rC tb 5 U (y_ (Bf (T U) Aj qom) ?_ U);refine rO tb 2 U ?_;refine A4 (i+1) ?_ ?_ ⟨atd,trivial⟩ ⟨Aa U,Aa U,trivial⟩ ?_
         ·refine⟨hi2,fun j hj=> ?_⟩
          by_cases e:j=i
          ·rw[e];exact hdi
          ·exact hdi2 j qom
         ·first|omega|(simp only[];omega)
         ·exact sbt
       ·obtain rfl:k=i:=by have h9: ¬ ((i:Nat):Int)<(k:Nat):=c59;omega
        refine rC tb 2 U (As (rX tb 5 U (y_ (Bf (T U) Aj qom) ?_ U)));refine rO tb 2 U ?_;refine A4 (k+1) ?_ ?_ ⟨atd,trivial⟩ ⟨Aa U,trivial⟩ ?_
        ·refine⟨hk2,fun j hj=> ?_,fun a b hab hb=> ?_⟩
         ·by_cases e:j=k
          ·rw[e];exact hpk
          ·exact hpl j qom
         ·by_cases e:b=k
          ·rw[e];exact hdi2 a qom
          ·exact hdj a b hab qom
        ·first|omega|(simp only[];omega)
        ·exact sbt
  ·obtain rfl:k=fl.length:=by have h9: ¬ ((k:Nat):Int)<(fl.length:Nat):=c15;omega
   refine rC tb 2 U (As (rX tb 8 U (Ah U (J9 U) ?_)))
   first|exact⟨_,⟨_,⟨rfl,fun h=>absurd h qde⟩,rfl⟩,sbt⟩|exact⟨_,⟨0,⟨rfl,fun _=>⟨hfew,hpl,hdj⟩⟩,rfl⟩,sbt⟩
theorem zbd25_0 (a0:Int)(w:World):(Instr.build 25 #[(0, .int .i64 a0)]).run Tryz.prog w= .ok (.agg #[.int .i64 a0, .string ⟨#[]⟩, .int .i64 0, .int .i64 0, .slice none 0 0]) w:=by kernel_rfl
theorem zbd25_0_1_2 (a0:Int)(a1:ByteArray)(a2:Int)(w:World):(Instr.build 25 #[(0, .int .i64 a0),(1, .string a1),(2, .int .i64 a2)]).run Tryz.prog w= .ok (.agg #[.int .i64 a0, .string a1, .int .i64 a2, .int .i64 0, .slice none 0 0]) w:=by kernel_rfl
theorem zbd28_0_4 (a0:Int)(a1:Option Addr)(a1n a1c:Nat)(w:World):(Instr.build 28 #[(0, .int .i64 a0),(4, .slice a1 a1n a1c)]).run Tryz.prog w= .ok (.agg #[.int .i64 a0, .int .i64 0, .string ⟨#[]⟩, .int .i64 0, .int .i64 0, .slice none 0 0, .string ⟨#[]⟩, .int .i64 0, .slice a1 a1n a1c]) w:=by kernel_rfl
theorem zbs22_3_0_1_2 (a0:ByteArray)(a1:Int)(a2:Int)(a3:ByteArray)(a4:Int)(a5:Int)(a6:ByteArray)(a7:Int)(a8:Int)(w:World):(Instr.buildSlice 22 3 #[(0, .agg #[.string a0, .int .i64 a1, .int .i64 a2]),(1, .agg #[.string a3, .int .i64 a4, .int .i64 a5]),(2, .agg #[.string a6, .int .i64 a7, .int .i64 a8])]).run Tryz.prog w= .ok (.slice (some ⟨w.heap.size,0,none⟩) 3 3) (w.alloc (Cl [.string a0, .int .i64 a1, .int .i64 a2, .string a3, .int .i64 a4, .int .i64 a5, .string a6, .int .i64 a7, .int .i64 a8] 67)):=by kernel_rfl
abbrev encII (x:Int):Value:= .int .i64 x
abbrev hwC (h:List Int):List Value:=h.map encII
theorem hwC_len {h:List Int}(hl:h.length=10):(hwC h).length=10:=by rw[List.length_map,hl]
theorem hi_cell {w0:World}{H:List (Nat × Obj)}{n o:Nat}{h:List Int}(hc:Cells w0 H n o (hwC h)){k:Nat}(hk:k<h.length):Cell w0 H ⟨n,o+((k:Nat):Int).toNat*1,none⟩ (.int .i64 (gd h k)):=by
 have:=hc k (.int .i64 (gd h k)) (by rw[List.getElem?_map,List.getElem?_eq_getElem hk,A0 hk];rfl)
 rwa [show o+((k:Nat):Int).toNat*1=o+k by omega]
theorem rhead_s {w0:World}{H:List (Nat × Obj)}(h:List Int)(hl:h.length=10):
  FSpec Tryz.prog w0 16 #[.agg (hwC h).toArray] H (SayB (∀ k,k<10→0≤gd h k∧gd h k≤65535) H):=by
 refine Ao Tryz.func16 U ntmps16 U (rD tb 2 U (e_ (Kg U cs_) ?_ U));rintro _ _ ⟨n1,rfl,rfl⟩;refine rO tb 10 U ?_;refine Bg (X:=Nat) (V:=fun i=>[(3, .int .i64 (i:Nat))]) (C:=[(1,_)]) (G:=fun i=>(n1,Cl (hwC h) 30)::H) (φ:=fun i=>i≤10∧∀ k,k<i→0≤gd h k∧gd h k≤65535) (μ:=fun i=>10 - i) (x0:=0) ?_ ⟨Aa U,trivial⟩ ⟨atd,trivial⟩ sb0 ?_
 ·exact⟨Nat.zero_le _,fun k hk=>absurd hk (Nat.not_lt_zero _)⟩
 rintro i ⟨hi,hr⟩;refine rD tb 7 U ?_
 first|refine Ac (Aa U) (fun c5=> ?_) (fun c5=> ?_)|refine Af (Aa U) (fun c5=> ?_) (fun c5=> ?_)
 ·have hi2:i<10:=by have h9:((i:Nat):Int)<10:=c5;omega
  refine rC tb 7 U (y_ (Bk (T U) (T U) runUnderlying30 sizeOf3 (by have h9:((i:Nat):Int)<10:=c5;omega)) ?_ U);refine y_ (Ka U isAgg3 (by first|exact c_o|exact hi_cell (Ai fdd) (by have h9:((i:Nat):Int)<10:=c5;omega))) ?_ U;refine rO tb 2 U ?_
  first|refine Am (s:=12) (Aa U) (fun c12=> ?_) (fun c12=> ?_)|refine Aw (s:=12) (Aa U) (fun c12=> ?_) (fun c12=> ?_)
  ·refine rO tb 16 U (Ba (rX tb 2 U (Ah U (J9 U) ?_)))
   first|exact⟨_,⟨false,⟨rfl,fun h=>by cases h⟩,rfl⟩,sbt⟩|exact⟨_,⟨true,⟨rfl,fun _=>hr⟩,rfl⟩,sbt⟩
  ·refine rO tb 1 U (Av (Bk (T U) (T U) runUnderlying30 sizeOf3 (by have h9:((i:Nat):Int)<10:=c5;omega)) U (Az U U (Aa U)) ?_);refine Av (Ka U isAgg3 (by first|exact c_o|exact hi_cell (Ai fdd) (by have h9:((i:Nat):Int)<10:=c5;omega))) U (Az U U (Aa U)) ?_;refine rO tb 4 U ?_
   first|refine Ac (Aa U) (fun c17=> ?_) (fun c17=> ?_)|refine Af (Aa U) (fun c17=> ?_) (fun c17=> ?_)
   ·skip
    refine rC tb 8 U (Ba (rX tb 2 U (Ah U (J9 U) ?_)))
    first|exact⟨_,⟨false,⟨rfl,fun h=>by cases h⟩,rfl⟩,sbt⟩|exact⟨_,⟨true,⟨rfl,fun _=>hr⟩,rfl⟩,sbt⟩
   ·have hw2:gd h i≤65535:=by have h9: ¬ gd h i>65535:=c17;omega
    refine rC tb 5 U (y_ (Bf (T U) Aj qom) ?_ U);refine rO tb 2 U ?_;refine A4 (i+1) ?_ ?_ ⟨atd,trivial⟩ ⟨Aa U,trivial⟩ ?_
    ·refine⟨hi2,fun k hk=> ?_⟩
     by_cases e:k=i
     ·subst e;exact⟨by omega,hw2⟩
     ·exact hr k qom
    ·first|omega|(simp only[];omega)
    ·exact sbt
 ·obtain rfl:i=10:=by have h9: ¬ ((i:Nat):Int)<10:=c5;omega
  refine rC tb 2 U (As (rX tb 8 U (Ah U (J9 U) ?_)))
  first|exact⟨_,⟨false,⟨rfl,fun h=>by cases h⟩,rfl⟩,sbt⟩|exact⟨_,⟨true,⟨rfl,fun _=>hr⟩,rfl⟩,sbt⟩
theorem lright_s {w0:World}{H:List (Nat × Obj)}(fi:List Fi)(q:Option Addr)(c:Nat)(hA:Arr w0 H q 3 encFi fi)(hnm:∀ f∈fi,f.nm.size≤9223372036854775807)(h:List Int)(hl:h.length=10)(tick:Int):
  FSpec Tryz.prog w0 10 #[.slice q fi.length c, .agg (hwC h).toArray, .int .i64 tick] H (SayB (FisOk fi∧(∀ k,k<10→0≤gd h k∧gd h k≤65535)∧0≤tick∧tick≤1073741824) H):=by
 refine Ao Tryz.func10 U ntmps10 U (rD tb 2 U (e_ (Kg U cs_) ?_ U));rintro _ _ ⟨n4,rfl,rfl⟩;refine rO tb 6 U (e_ (An (qe1 U) call36 (check_s fi q c (hA.mono (by exact sbt)) hnm)) ?_ U);rintro _ _ ⟨e1,⟨rfl,he1⟩,rfl⟩;refine rO tb 5 U (y_ (Kb U isAgg30 sizeOf30 (hwC_len hl) (by first|exact Ax)) ?_ U);refine e_ (An (qe1 U) call16 (rhead_s h hl)) ?_ U;rintro _ _ ⟨b2,⟨rfl,hb2⟩,rfl⟩;refine rO tb 8 U ?_
 first|refine Am (s:=15) (Aa U) (fun c15=> ?_) (fun c15=> ?_)|refine Aw (s:=15) (Aa U) (fun c15=> ?_) (fun c15=> ?_)
 ·refine rO tb 3 U ?_
  first|refine Am (s:=18) (Aa U) (fun c18=> ?_) (fun c18=> ?_)|refine Aw (s:=18) (Aa U) (fun c18=> ?_) (fun c18=> ?_)
  ·refine rO tb 4 U ?_
   first|refine Am (s:=22) (Aa U) (fun c22=> ?_) (fun c22=> ?_)|refine Aw (s:=22) (Aa U) (fun c22=> ?_) (fun c22=> ?_)
   ·refine rO tb 7 U (Ah U (J9 U) ?_)
    first|exact⟨_,⟨false,⟨rfl,fun h=>by cases h⟩,rfl⟩,by exact sbt⟩|exact⟨_,⟨_,⟨rfl,fun h=>⟨he1 (by assumption),hb2 (by assumption),by omega,of_decide_eq_true h⟩⟩,rfl⟩,by exact sbt⟩
   ·refine rO tb 7 U (Ah U (J9 U) ?_)
    first|exact⟨_,⟨false,⟨rfl,fun h=>by cases h⟩,rfl⟩,by exact sbt⟩|exact⟨_,⟨_,⟨rfl,fun h=>⟨he1 (by assumption),hb2 (by assumption),by omega,of_decide_eq_true h⟩⟩,rfl⟩,by exact sbt⟩
  ·refine rO tb 11 U (Ah U (J9 U) ?_)
   first|exact⟨_,⟨false,⟨rfl,fun h=>by cases h⟩,rfl⟩,by exact sbt⟩|exact⟨_,⟨_,⟨rfl,fun h=>⟨he1 (by assumption),hb2 (by assumption),by omega,of_decide_eq_true h⟩⟩,rfl⟩,by exact sbt⟩
 ·refine rO tb 14 U (Ah U (J9 U) ?_)
  first|exact⟨_,⟨false,⟨rfl,fun h=>by cases h⟩,rfl⟩,by exact sbt⟩|exact⟨_,⟨_,⟨rfl,fun h=>⟨he1 (by assumption),hb2 (by assumption),by omega,of_decide_eq_true h⟩⟩,rfl⟩,by exact sbt⟩
theorem It {w0:World}{H:List (Nat × Obj)}(nm:ByteArray)(n:Int):
  FSpec Tryz.prog w0 30 #[.string nm, .int .i64 n] H (Still (.agg (encPd (.mk 3 nm n 0 none 0 [])).toArray) H):=by
 refine Ao Tryz.func30 U ntmps30 U (rD tb 2 U (e_ (Al zeroValue25 cs_) ?_ U));rintro _ _ ⟨n4,rfl,rfl⟩;refine rO tb 6 U (y_ (A2 (.cons Aj (.cons (T U) (.cons (T U) .nil))) (zbd25_0_1_2 _ _ _)) ?_ U)
 first|refine A1 (Kf U U sizeOf25) U Ad ?_
 rintro _ _ ⟨rfl,rfl⟩;refine rO tb 3 U (Ah U (.cellA (Aa U) isAgg25 sizeOf25 U (by first|exact Ax) .nil) ?_);exact⟨_,⟨rfl,rfl⟩,sbt⟩
theorem Dg {w0:World}{H:List (Nat × Obj)}(m:Pdm):
  FSpec Tryz.prog w0 28 #[.agg (encPd m).toArray] H (Still (.agg (encPo (.mk 1 m ⟨#[]⟩ 0 none 0 [])).toArray) H):=by
 refine Ao Tryz.func28 U ntmps28 U (rD tb 2 U (e_ (Kg U cs_) ?_ U));rintro _ _ ⟨n1,rfl,rfl⟩;refine e_ (Al zeroValue28 cs_) ?_ U;rintro _ _ ⟨n2,rfl,rfl⟩;refine rO tb 4 U (y_ (Kb U isAgg25 sizeOf25 U (by first|exact Ax)) ?_ U);refine y_ (A2 (.cons Aj (.cons (T U) .nil)) (zbd28_0_1 _ _ _ _ _ _ _ _)) ?_ U
 first|refine A1 (Kf U U sizeOf28) U Ad ?_
 rintro _ _ ⟨rfl,rfl⟩;refine rO tb 3 U (Ah U (.cellA (Aa U) isAgg28 sizeOf28 U (by first|exact Ax) .nil) ?_);exact⟨_,⟨rfl,rfl⟩,sbt⟩
theorem Dh {w0:World}{H:List (Nat × Obj)}(nm:ByteArray)(n:Int):
  FSpec Tryz.prog w0 29 #[.string nm, .int .i64 n] H (Still (.agg (encPo (.mk 2 pd0 nm n none 0 [])).toArray) H):=by
 refine Ao Tryz.func29 U ntmps29 U (rD tb 2 U (e_ (Al zeroValue28 cs_) ?_ U));rintro _ _ ⟨n4,rfl,rfl⟩;refine rO tb 6 U (y_ (A2 (.cons Aj (.cons (T U) (.cons (T U) .nil))) (zbd28_0_2_3 _ _ _)) ?_ U)
 first|refine A1 (Kf U U sizeOf28) U Ad ?_
 rintro _ _ ⟨rfl,rfl⟩;refine rO tb 3 U (Ah U (.cellA (Aa U) isAgg28 sizeOf28 U (by first|exact Ax) .nil) ?_);exact⟨_,⟨rfl,rfl⟩,sbt⟩
theorem lid_s {w0:World}{H:List (Nat × Obj)}  :
  FSpec Tryz.prog w0 27 #[] H (Still (.agg (encPo (.mk 1 (.mk 1 ⟨#[]⟩ 0 0 none 0 []) ⟨#[]⟩ 0 none 0 [])).toArray) H):=by
 refine Ao Tryz.func27 U ntmps27 U (rD tb 2 U (e_ (Al zeroValue28 cs_) ?_ U));rintro _ _ ⟨n0,rfl,rfl⟩;refine rO tb 4 U (y_ (A2 (.cons Aj .nil) (zbd25_0 _)) (y_ (Ak (qe1 U) call28 (fun H' hs=>Dg (.mk 1 ⟨#[]⟩ 0 0 none 0 []))) ?_ U) U)
 first|refine A1 (Kf U U sizeOf28) U Ad ?_
 rintro _ _ ⟨rfl,rfl⟩;refine rO tb 3 U (Ah U (.cellA (Aa U) isAgg28 sizeOf28 U (by first|exact Ax) .nil) ?_);exact⟨_,⟨rfl,rfl⟩,sbt⟩
theorem ldrop_s {w0:World}{H:List (Nat × Obj)}  :
  FSpec Tryz.prog w0 26 #[] H (Still (.agg (encPo (.mk 1 (.mk 2 ⟨#[]⟩ 0 0 none 0 []) ⟨#[]⟩ 0 none 0 [])).toArray) H):=by
 refine Ao Tryz.func26 U ntmps26 U (rD tb 2 U (e_ (Al zeroValue28 cs_) ?_ U));rintro _ _ ⟨n0,rfl,rfl⟩;refine rO tb 4 U (y_ (A2 (.cons Aj .nil) (zbd25_0 _)) (y_ (Ak (qe1 U) call28 (fun H' hs=>Dg (.mk 2 ⟨#[]⟩ 0 0 none 0 []))) ?_ U) U)
 first|refine A1 (Kf U U sizeOf28) U Ad ?_
 rintro _ _ ⟨rfl,rfl⟩;refine rO tb 3 U (Ah U (.cellA (Aa U) isAgg28 sizeOf28 U (by first|exact Ax) .nil) ?_);exact⟨_,⟨rfl,rfl⟩,sbt⟩
theorem Gl {w0:World}{H:List (Nat × Obj)}(k:Int)(q:Option Addr)(l:List Pom)(c:Nat):
  FSpec Tryz.prog w0 24 #[.int .i64 k, .slice q l.length c] H (Still (.agg (encPo (.mk k pd0 ⟨#[]⟩ 0 q c l)).toArray) H):=by
 refine Ao Tryz.func24 U ntmps24 U (rD tb 2 U (e_ (Al zeroValue28 cs_) ?_ U));rintro _ _ ⟨n4,rfl,rfl⟩;refine rO tb 6 U (y_ (A2 (.cons (T U) (.cons (T U) .nil)) (zbd28_0_4 _ _ _ _)) ?_ U)
 first|refine A1 (Kf U U sizeOf28) U Ad ?_
 rintro _ _ ⟨rfl,rfl⟩;refine rO tb 3 U (Ah U (.cellA (Aa U) isAgg28 sizeOf28 U (by first|exact Ax) .nil) ?_);exact⟨_,⟨rfl,rfl⟩,sbt⟩
def exF:List Fd:=[⟨⟨#[100,115,116]⟩,16,8⟩,⟨⟨#[115,114,99]⟩,24,8⟩,⟨⟨#[107,105,110,100]⟩,33,3⟩]
theorem lex_s {w0:World}{H:List (Nat × Obj)}  :
  FSpec Tryz.prog w0 37 #[] H (fun u H'=>∃ n:Nat,u= .slice (some ⟨n,0,none⟩) 3 3∧H'=(n,Cl (exF.flatMap encF) 67)::H):=by
 refine Ao Tryz.func37 U ntmps37 U (rD tb 7 U (y_ (A2 (.cons Aj (.cons Aj (.cons Aj .nil))) (Eo _ _ _)) (y_ (A2 (.cons Aj (.cons Aj (.cons Aj .nil))) (Eo _ _ _)) (y_ (A2 (.cons Aj (.cons Aj (.cons Aj .nil))) (Eo _ _ _)) (e_ (A8 (.cons (T U) (.cons (T U) (.cons (T U) .nil))) (zbs22_3_0_1_2 _ _ _ _ _ _ _ _ _)) ?_ U) U) U) U));rintro _ _ ⟨n4,rfl,rfl⟩;refine rO tb 4 U (Ah U (J9 U) ?_);exact⟨_,⟨_,rfl,rfl⟩,sbt⟩
def PEq (bs:List Nat) (tick:Int) (p q:Po):Prop:=∀ h g,HdOk h→HdOk g→Out bs h g→(den tick p h g↔den tick q h g)
theorem eq_ids {bs:List Nat}(hb:BsOk bs){most:Nat}{tick:Int}{r:Nat}{p q:Po}(hp:p.Fit bs)(hq:q.Fit bs){ns n1 n2:Ns}(hw:Wf (2*bs.length) ns){a b:Nat}(h1:polF most bs tick r p ns=some (a,n1))(h2:polF most bs tick r q n1=some (b,n2)):a=b↔PEq bs tick p q:=by
 obtain⟨g1,l1,r1⟩:=Ck hb tick r p hp hw h1;obtain⟨g2,l2,r2⟩:=Ck hb tick r q hq g1.w h2;exact rep_eq hb g2.w (Nat.lt_of_lt_of_le l1 g2.le) l2 (r1.gr g1.w l1 g2) r2
theorem eq_fin {bs:List Nat}(hb:BsOk bs){most:Nat}{tick:Int}{r:Nat}{p q:Po}(hp:p.Fit bs)(hq:q.Fit bs){ns n1 n2:Ns}(hw:Wf (2*bs.length) ns){a b:Nat}{e1 e2:Int}{X Y:Prop}(h1:(polF most bs tick r p ns=some (a,n1)∧e1=0)∨(polF most bs tick r p ns=none∧a=0∧e1=12∧X))(h2:(polF most bs tick r q n1=some (b,n2)∧e2=0)∨(polF most bs tick r q n1=none∧b=0∧e2=12∧Y))(z1:e1=0)(z2:e2=0)(h:PEq bs tick p q):decide ((a:Int)=(b:Int))=true:=by
 refine decide_eq_true ?_;rcases h1 with ⟨f1, -⟩|⟨-, -,h9, -⟩
 ·rcases h2 with ⟨f2, -⟩|⟨-, -,h9, -⟩
  ·rw[(eq_ids hb hp hq hw f1 f2).2 h]
  ·omega
 ·omega
theorem en_new {w0:World}{H:List (Nat × Obj)}{fl:List Fd}(hfl:FlOk fl){dx db:Sl}(hdx:SlOk dx fl.length 3)(hdb:SlOk db (bsF fl).length 1)(most:Int)(p m:Nat):En w0 (slH db ((bsF fl).flatMap encB1) 3++(slH dx (fl.flatMap encF) 67++H)) (NewD fl most dx db p m) fl:=
 ⟨C0 (w0:=w0) (e:=3) (enc:=encB1) (fun _=>rfl) hdb,Hr hfl,(C0 (w0:=w0) (e:=67) (X:=H) (enc:=encF) (fun _=>rfl) hdx).mono (List.sublist_append_right _ _),rfl,by have:=hfl.few;show fl.length≤1000000;omega⟩
theorem Hj {w0:World}{H:List (Nat × Obj)}(fl:List Fd)(hfl:FlOk fl)(q:Option Addr)(c:Nat)(hA:Arr w0 H q 3 encF fl){m1 m2:Pom}{p1 p2:Po}(hI1:IsO fl m1 p1)(hF1:p1.Fit (bsF fl))(hM1:PoM w0 H m1)(hI2:IsO fl m2 p2)(hF2:p2.Fit (bsF fl))(hM2:PoM w0 H m2)(tick:Int):
  FSpec Tryz.prog w0 25 #[.slice q fl.length c, .agg (encPo m1).toArray, .agg (encPo m2).toArray, .int .i64 tick] H (fun u H'=>∃ b:Bool,(u= .bool b∧(PEq (bsF fl) tick p1 p2→b=true))∧H'=H):=by
 refine Ao Tryz.func25 U ntmps25 U (rD tb 2 U (e_ (Kg U cs_) ?_ U));rintro _ _ ⟨n5,rfl,rfl⟩;refine e_ (Kg U cs_) ?_ U;rintro _ _ ⟨n6,rfl,rfl⟩;refine rO tb 6 U (e_ (An (.cons (T U) (.cons Aj .nil)) call13 (new_s fl hfl q c (hA.mono (by exact sbt)) 200000 qom)) ?_ U);rintro _ _ ⟨⟨dx,db,p,mp,v⟩,⟨rfl,hdx,hdb,hst⟩,rfl⟩;refine rO tb 6 U (y_ (Kb U isAgg28 sizeOf28 U (by first|exact Ax)) ?_ U);refine rO tb 1 U (e_ (An (qe3 U U U) call14 ((Fv (R:=slH db ((bsF fl).flatMap encB1) 3++(slH dx (fl.flatMap encF) 67++((n6,Cl (encPo m2) 28)::(n5,Cl (encPo m1) 28)::H))) hst ((en_new hfl hdx hdb 200000 p mp).mono (by exact sbt)) m1 p1 hI1 hF1 (hM1.mono (by exact sbt)) tick))) ?_ U);rintro _ _ ⟨⟨id1,e1,v1,ns1⟩,⟨rfl,hc1,hst1⟩,rfl⟩;refine rO tb 10 U (y_ (Kb U isAgg28 sizeOf28 U (by first|exact Ax)) ?_ U);refine rO tb 1 U (e_ (An (qe3 U U U) call14 ((Fv (R:=slH db ((bsF fl).flatMap encB1) 3++(slH dx (fl.flatMap encF) 67++((n6,Cl (encPo m2) 28)::(n5,Cl (encPo m1) 28)::H))) hst1 ((en_new hfl hdx hdb 200000 p mp).mono (by exact sbt)) m2 p2 hI2 hF2 (hM2.mono (by exact sbt)) tick))) ?_ U);rintro _ _ ⟨⟨id2,e2,v2,ns2⟩,⟨rfl,hc2,hst2⟩,rfl⟩;refine rO tb 12 U ?_
 first|refine Am (s:=32) (Aa U) (fun c32=> ?_) (fun c32=> ?_)|refine Aw (s:=32) (Aa U) (fun c32=> ?_) (fun c32=> ?_)
 ·refine kO tb 11 [8] rfl U (rG tb 1 U (Ah U (J9 U) ?_))
  first|exact⟨_,⟨true,⟨rfl,fun _=>rfl⟩,rfl⟩,by exact sbt⟩|exact⟨_,⟨_,⟨rfl,fun hp=>eq_fin (Hr hfl) hF1 hF2 (J4 _) hc1 hc2 qom qom hp⟩,rfl⟩,by exact sbt⟩
 ·refine rO tb 4 U ?_
  first|refine Am (s:=36) (Aa U) (fun c36=> ?_) (fun c36=> ?_)|refine Aw (s:=36) (Aa U) (fun c36=> ?_) (fun c36=> ?_)
  ·refine kO tb 7 [8] rfl U (rG tb 1 U (Ah U (J9 U) ?_))
   first|exact⟨_,⟨true,⟨rfl,fun _=>rfl⟩,rfl⟩,by exact sbt⟩|exact⟨_,⟨_,⟨rfl,fun hp=>eq_fin (Hr hfl) hF1 hF2 (J4 _) hc1 hc2 qom qom hp⟩,rfl⟩,by exact sbt⟩
  ·refine kO tb 7 [8] rfl U (rG tb 1 U (Ah U (J9 U) ?_))
   first|exact⟨_,⟨true,⟨rfl,fun _=>rfl⟩,rfl⟩,by exact sbt⟩|exact⟨_,⟨_,⟨rfl,fun hp=>eq_fin (Hr hfl) hF1 hF2 (J4 _) hc1 hc2 qom qom hp⟩,rfl⟩,by exact sbt⟩
theorem Cl'.one {D:Hd→Hd→Prop}{h g:Hd}(a:D h g):Cl' D h g:= .step a (.base _)
section
variable {bs:List Nat} {t:Int} {x y z:Po}
theorem PEq.of (h:∀ h g,den t x h g↔den t y h g):PEq bs t x y:=fun a b _ _ _=>h a b
variable {p q:Pd}
theorem e_pcomm:PEq bs t (.seq (.fil p) (.fil q)) (.seq (.fil q) (.fil p)):= .of fun h g=>by
 simp only[den]
 constructor
 ·rintro⟨m,⟨rfl,a⟩,rfl,b⟩;exact⟨_,⟨rfl,b⟩,rfl,a⟩
 ·rintro⟨m,⟨rfl,a⟩,rfl,b⟩;exact⟨_,⟨rfl,b⟩,rfl,a⟩
theorem e_pand:PEq bs t (.seq (.fil p) (.fil q)) (.fil (.and p q)):= .of fun h g=>by
 simp only[den,holdsP,Bool.and_eq_true]
 constructor
 ·rintro⟨m,⟨rfl,a⟩,rfl,b⟩;exact⟨rfl,a,b⟩
 ·rintro⟨rfl,a,b⟩;exact⟨_,⟨rfl,a⟩,rfl,b⟩
theorem e_por:PEq bs t (.uni (.fil p) (.fil q)) (.fil (.or p q)):= .of fun h g=>by
 simp only[den,holdsP,Bool.or_eq_true]
 constructor
 ·rintro(⟨rfl,a⟩|⟨rfl,a⟩)
  ·exact⟨rfl, .inl a⟩
  ·exact⟨rfl, .inr a⟩
 ·rintro⟨rfl,a|a⟩
  ·exact .inl ⟨rfl,a⟩
  ·exact .inr ⟨rfl,a⟩
theorem e_pnot:PEq bs t (.uni (.fil p) (.fil (.no p))) (.fil .tru):= .of fun h g=>by
 simp only[den,holdsP];cases holdsP t p h<;>simp
theorem e_pno:PEq bs t (.seq (.fil p) (.fil (.no p))) (.fil .fls):= .of fun h g=>by
 simp only[den,holdsP]
 constructor
 ·rintro⟨m,⟨rfl,a⟩,rfl,b⟩;rw[a] at b;cases b
 ·rintro⟨_,a⟩;cases a
theorem e_pp:PEq bs t (.seq (.fil p) (.fil p)) (.fil p):= .of fun h g=>by
 simp only[den]
 constructor
 ·rintro⟨m,⟨rfl,a⟩,rfl,b⟩;exact⟨rfl,a⟩
 ·rintro⟨rfl,a⟩;exact⟨_,⟨rfl,a⟩,rfl,a⟩
theorem Gg {f:Fd}{h:Hd}{n b:Nat}(hb:b<160):hbit (fset f h n) b=if f.pos≤b∧b<f.pos+f.w then n.testBit (f.pos+f.w - 1 - b) else hbit h b:=by
 unfold fset;exact Bx _ hb
theorem fset_fset {f:Fd}{h:Hd}{n m:Nat}:fset f (fset f h n) m=fset f h m:=Et (Cr _ _ _) (Cr _ _ _) fun b hb=>by
 rw[Gg hb,Gg hb,Gg hb]
 split<;>rfl
theorem fset_self {f:Fd}(hf:FdOk f){h:Hd}(hh:HdOk h):fset f h (fget f h)=h:=Et (Cr _ _ _) hh fun b hb=>by
 rw[Gg hb]
 split
 ·rename_i h1;rw[G6,decide_eq_true qom,Bool.true_and]
  congr 1;omega
 ·rfl
theorem e_ss {f:Fd}{n m:Nat}:PEq bs t (.seq (.set f n) (.set f m)) (.set f m):= .of fun h g=>by
 simp only[den]
 constructor
 ·rintro⟨k,rfl,rfl⟩;exact fset_fset
 ·rintro rfl;exact⟨_,rfl,fset_fset.symm⟩
theorem e_sf {f:Fd}{n:Nat}(hf:FdOk f)(hn:n<2 ^ f.w):PEq bs t (.seq (.set f n) (.fil (.eq f n))) (.set f n):= .of fun h g=>by
 simp only[den,holdsP]
 constructor
 ·rintro⟨k,rfl,rfl,_⟩;rfl
 ·rintro rfl;exact⟨_,rfl,rfl,by rw[fset_get hf hn,beq_self_eq_true]⟩
theorem e_fs {f:Fd}{n:Nat}(hf:FdOk f):PEq bs t (.seq (.fil (.eq f n)) (.set f n)) (.fil (.eq f n)):=fun h g hh _ _=>by
 simp only[den,holdsP,beq_iff_eq]
 constructor
 ·rintro⟨k,⟨rfl,rfl⟩,rfl⟩;exact⟨fset_self hf hh,rfl⟩
 ·rintro⟨rfl,rfl⟩;exact⟨_,⟨rfl,rfl⟩,(fset_self hf hh).symm⟩
end
def bsE:List Nat:=[0,1,2,3,4,5,6,7,8,9,10,11,12,13,14,15,16,17,18,19,20,21,22,23,24,25,26,27,28,29,30,31,33,34,35]
abbrev exD:Fd:=⟨⟨#[100,115,116]⟩,16,8⟩
abbrev exK:Fd:=⟨⟨#[107,105,110,100]⟩,33,3⟩
theorem raw_ex:rawF (portFd::exF)=bsE:=by kernel_rfl
theorem Iu:bsF exF=bsE:=by
 unfold bsF;rw[raw_ex];refine List.mergeSort_of_pairwise ?_;have:(bsE.Pairwise fun x y=>x≤y):=by unfold bsE;decide
 exact this.imp fun h=>decide_eq_true h
theorem Ju:FlOk exF:=by
 refine⟨fun f hf=> ?_,by unfold exF;simp,by decide⟩;simp only[exF,List.mem_cons,List.not_mem_nil,or_false] at hf;rcases hf with rfl|rfl|rfl<;>exact⟨⟨by decide,by decide,by decide,by decide⟩,by decide,by decide⟩
theorem Gs:BsOk bsE:=Iu ▸ Hr Ju
theorem inD:FIn bsE exD:=Iu ▸ Ht Ju (by unfold exF;simp)
theorem inK:FIn bsE exK:=Iu ▸ Ht Ju (by unfold exF;simp)
def trE:List Nat:=[2,3,4,5,6,7,8,9,10,11,12,13,14,15,16,17,18,19,20,21,22,23,24,25,26,27,28,29,30,31,32,33,34,35,36,37,38,39,40,41,42,43,44,45,46,47,48,49,50,51,52,53,54,55,56,57,58,59,60,61,62,63,64,65,66,67,68,69,70,71,72,73,74,75,76,77,78,79,80,81,82,83,84,85,86,87,88,89,90,91,92,93,94,95,96,97,98,2,3,4,5,6,7,8,9,10,11,12,13,14,15,16,17,18,19,20,21,22,23,24,25,26,27,28,29,30,31,32,33,34,35,36,99,100,101,102,103,104,105,106,107,108,109,110,111,112,113,114,115,116,117,118,119,120,121,122,123,124,125,126,127,128,129,130,131,132,133,134,135,136,137,138,139,140,141,142,143,144,145,146,147,148,149,150,151,152,153,154,155,156,157,158,159,160,2,3,4,5,6,7,8,9,10,11,12,13,14,15,16,17,18,19,20,21,22,23,24,25,26,27,28,29,30,31,32,33,34,35,35,100,100,101,101,103,103,105,105,107,107,109,109,111,111,113,114,115,116,117,118,119,120,121,122,123,124,125,126,127,128,129,130,131,132,133,134,135,136,137,138,139,140,141,142,143,144,145,146,147,148,149,150,151,152,153,154,155,156,157,158,159,160,2,3,4,5,6,7,8,9,10,11,12,13,14,15,16,17,18,19,20,21,22,23,24,25,26,27,28,29,30,31,32,33,34,35,36,99,100,101,102,103,104,105,106,107,108,109,110,111,112,113,114,115,116,117,118,119,120,121,122,123,124,125,126,127,128,129,130,131,132,133,134,135,136,137,138,139,140,141,142,143,144,145,146,147,148,149,150,151,152,153,154,155,156,157,158,159,160,161,162,163,164,165,166,167,168,2,3,4,5,6,7,8,9,10,11,12,13,14,15,16,17,18,19,20,21,22,23,24,25,26,27,28,29,30,31,32,33,34,35,36,169,170,171,172,173,174,175,176,177,178,179,180,181,182,183,184,185,186,187,188,189,190,191,192,193,194,195,196,197,198,199,200,201,202,203,204,205,206,207,208,209,210,211,212,213,214,215,216,217,218,219,220,221,222,223,224,225,226,227,228,229,230,231,232,233,234,235,236,237,238,239,240,241,242,243,244,245,246,247,248,249,250,251,252,253,254,255,256,257,258,259,260,261,262,263,264,265,266,267,268,269,270,271,272,273,274,275,276,277,278,279,280,281,282,283,284,285,286,287,288,289,290,291,292,293,294,295,296,297,298,299,300,301,161,162,163,164,165,166,167,168,302,303,304,305,306,307,308,309,2,3,4,5,6,7,8,9,10,11,12,13,14,15,16,17,18,19,20,21,22,23,24,25,26,27,28,29,30,31,32,33,34,35,36,169,170,171,172,173,174,175,176,177,178,179,180,181,182,183,184,185,186,187,188,189,190,191,192,193,194,195,196,197,198,199,200,201,202,203,204,205,206,207,208,209,210,211,212,213,214,215,216,217,218,219,220,221,222,223,224,225,226,227,228,229,230,231,232,233,234,235,236,237,238,310,311,312,313,314,315,316,317,318,319,320,321,322,323,324,325,326,327,328,329,330,331,332,333,334,335,336,337,338,339,340,341,342,343,344,345,346,347,348,349,350,351,352,353,354,355,356,357,358,359,360,361,362,363,364,365,366,367,368,369,370,371,372,169,170,172,173,175,176,178,179,181,182,184,185,187,188,190,191,192,193,194,195,196,197,198,199,200,201,202,203,204,205,206,207,208,209,210,211,212,213,214,215,216,217,218,219,220,221,222,223,224,225,226,227,228,229,230,231,232,233,234,235,236,237,238,2,3,4,5,6,7,8,9,10,11,12,13,14,15,16,17,18,19,20,21,22,23,24,25,26,27,28,29,30,31,32,33,34,35,36,169,170,171,172,173,174,175,176,177,178,179,180,181,182,183,184,185,186,187,188,189,190,191,192,193,194,195,196,197,198,199,200,201,202,203,204,205,206,207,208,209,210,211,212,213,214,215,216,217,218,219,220,221,222,223,224,225,226,227,228,229,230,231,232,233,234,235,236,237,238,2,3,373,374,375,376,377,378,379,380,381,382,383,384,385,386,387,388,389,390,391,392,393,394,395,396,397,398,399,400,401,402,403,404,405,406,407,408,409,410,411,412,413,414,415,416,417,418,419,420,421,422,423,424,425,426,427,428,429,430,431,432,433,434,435,436,437,438,439,440,441,442,443,444,445,446,447,448,449,450,451,452,453,454,455,456,457,458,459,460,461,462,463,464,465,466,467,468,469,470,471,472,2,3,473,474,475,476,477,478,479,480,481,482,483,484,485,486,487,488,489,490,491,492,493,494,495,496,497,498,499,500,501,502,503,504,505,506,507,508,509,510,511,512,513,514,515,516,517,518,519,520,521,522,523,524,525,526,527,528,529,530,531,532,533,534,535,536,537,538,539,540,541,542,543,544,545,546,547,548,549,550,551,552,553,554,555,556,557,558,559,560,561,562,563,564,565,566,567,568,569,570,571,572,573,574,575,576,577,578,579,580,581,582,583,584,585,586,587,588,589,590,591,592,593,594,595,596,597,598,599,600,601,602,603,604,605,606,607,608,609,610,611,612,613,614,615,616,617,618,619,620,621,622,623,624,625,626,627,628,629,630,631,632,633,634,635,636,637,638,639,640,641,642,643,644,645,646,647,648,649,650,651,652,653,654,655,656,657,658,659,660,661,662,663,664,665,666,667,668,669,670,2,3,4,5,6,7,8,9,10,11,12,13,14,15,16,17,18,19,20,21,22,23,24,25,26,27,28,29,30,31,32,33,34,35,36,169,170,171,172,173,174,175,176,177,178,179,180,181,182,183,184,185,186,187,188,189,190,191,192,193,194,195,196,197,198,199,200,201,202,203,204,205,206,207,208,209,210,211,212,213,214,215,216,217,218,219,220,221,222,223,224,225,226,227,228,229,230,231,232,233,234,235,236,237,238,671,672,673,674,675,676,677,678,679,680,681,682,683,684,685,686,687,688,689,690,691,692,693,694,695,696,697,698,699,700,701,702,703,704,705,706,707,708,709,710,711,712,713,714,715,716,717,718,719,720,721,722,723,724,725,726,727,728,729,730,731,732,733,734,735,736,737,738,739,740,741,742,743,744,745,746,747,748,749,750,751,752,753,754,755,756,757,758,759,760,761,762,763,764,765,766,767,768,769,770,771,772,773,774,3,671,3,3,671,2,2,2,2,672,3,3,3,3,2,2,2,673,673,674,675,676,573,573,3,3,2,2,573,573,2,3,4,5,6,7,677,678,679,680,681,682,683,684,685,686,687,688,689,690,691,692,693,694,695,696,697,698,699,700,701,702,703,704,705,706,707,708,709,710,711,712,713,714,715,716,717,718,719,720,721,722,723,724,725,726,727,728,729,730,731,732,733,734,735,736,737,738,739,740,741,742,743,744,745,746,747,748,749,750,751,752,753,754,755,756,757,758,759,760,761,762,763,764,765,766,767,768,769,770,771,772,773,774,161,775,776,777,778,779,780,781,2,3,4,5,6,7,8,9,10,11,12,13,14,15,16,17,18,19,20,21,22,23,24,25,26,27,28,29,30,31,32,33,34,35,36,169,170,171,172,173,174,175,176,177,178,179,180,181,182,183,184,185,186,187,188,189,190,191,192,193,194,195,196,197,198,199,200,201,202,203,204,205,206,207,208,209,210,211,212,213,214,215,216,217,218,219,220,221,222,223,224,225,226,227,228,229,230,231,232,233,234,235,236,237,238,239,782,783,784,785,786,787,788,789,790,791,792,793,794,795,796,797,798,799,800,801,802,803,804,805,806,807,808,809,810,811,812,813,814,815,816,817,818,819,820,821,822,823,824,825,826,827,828,829,830,831,832,833,834,835,836,837,838,839,840,841,842,843,161,775,776,777,778,779,780,781,2,3,4,5,6,7,8,9,10,11,12,13,14,15,16,17,18,19,20,21,22,23,24,25,26,27,28,29,30,31,32,33,34,35,36,169,170,171,172,173,174,175,176,177,178,179,180,181,182,183,184,185,186,187,188,189,190,191,192,193,194,195,196,197,198,199,200,201,202,203,204,205,206,207,208,209,210,211,212,213,214,215,216,217,218,219,220,221,222,223,224,225,226,227,228,229,230,231,232,233,234,235,236,237,238,239,782,783,784,785,786,787,788,789,790,791,792,793,794,795,796,797,798,799,800,801,802,803,804,805,806,807,808,809,810,811,812,813,814,815,816,817,818,819,820,821,822,823,824,825,826,827,828,829,830,831,832,833,834,835,836,837,838,839,840,841,842,843,2,3,373,374,375,376,377,378,379,380,381,382,383,384,385,386,387,388,389,390,391,392,393,394,395,396,397,398,399,400,401,402,403,404,405,406,407,408,409,410,411,412,413,414,415,416,417,418,419,420,421,422,423,424,425,426,427,428,429,430,431,432,433,434,435,436,437,438,439,440,441,442,443,444,445,446,447,448,449,450,451,452,453,454,455,456,457,458,459,460,461,462,463,464,465,466,467,468,469,470,471,472,2,3,473,474,475,476,477,478,479,480,481,482,483,484,485,486,487,488,489,490,491,492,493,494,495,496,497,498,499,500,501,502,503,504,505,506,507,508,509,510,511,512,513,514,515,516,517,518,519,520,521,522,523,524,525,526,527,528,529,530,531,532,533,534,535,536,537,538,539,540,541,542,543,544,545,546,547,548,549,550,551,552,553,554,555,556,557,558,559,560,561,562,563,564,565,566,567,568,569,570,571,572,573,574,575,576,577,578,579,580,581,582,583,584,585,586,587,588,589,590,591,592,593,594,595,596,597,598,599,600,601,602,603,604,605,606,607,608,609,610,611,612,613,614,615,616,617,618,619,620,621,622,623,624,625,626,627,628,629,630,631,632,633,634,635,636,637,638,639,640,641,642,643,644,645,646,647,648,649,650,651,652,653,654,655,656,657,658,659,660,661,662,663,664,665,666,667,668,669,670,3,3,2,2,573,573,574,574,575,576,577,578,579,580,581,582,583,584,585,586,587,588,589,590,591,592,593,594,595,596,597,598,600,844,845,846,847,848,849,850,851,852,853,854,855,856,857,858,859,860,861,862,863,864,865,866,867,868,869,870,871,872,873,874,875,876,877,878,879,880,881,882,883,884,885,886,887,888,889,890,891,892,893,894,895,896,897,898,899,900,901,902,903,904,905,906]
def sE:Fs:=⟨4810363371590,2,0,trE⟩
abbrev Q1:Po:= .seq (.set exD 1) (.set exD 2)
abbrev Q2:Po:= .set exD 2
abbrev Q3:Po:= .uni (.fil (.eq exD 1)) (.fil (.no (.eq exD 1)))
abbrev Q4:Po:= .fil .tru
abbrev Q5:Po:= .star (.uni (.set exK 1) (.set exK 2))
abbrev Q6:Po:= .fil (.eq exD 3)
abbrev Q7:Po:= .seq (.fil (.eq exD 3)) (.uni (.set exK 1) (.set exK 2))
theorem rs0:Rs 70 (nsE 70) sE:=⟨J4 70,rfl,by show 4810363371590<2 ^ (36*2);decide,fun i=>by
  match i with
  |0=>rfl
  |1=>rfl
  |i+2=>
   rw[gN_eq,Nat.div_eq_of_lt]
   ·rfl
   ·have:2 ^ (36*2)≤2 ^ (36*(i+2)):=Nat.pow_le_pow_right qde qom;exact Nat.lt_of_lt_of_le (by show 4810363371590<2 ^ (36*2);decide) this,fun i=>by
  match i with
  |0=>decide
  |1=>decide
  |i+2=>exact⟨by show (0:Nat)<128;decide,by show (0:Nat)<16384;decide,by show (0:Nat)<16384;decide⟩,fun x hx=>by cases hx⟩
noncomputable def runE:Option (List Nat × List Nat):=bO (polC 70 bsE (rdN bsE) Q1 sE) fun a=>bO (polC 70 bsE (rdN bsE) Q2 a.2) fun b=>bO (polC 70 bsE (rdN bsE) Q3 b.2) fun c=>bO (polC 70 bsE (rdN bsE) Q4 c.2) fun d=>bO (polC 70 bsE (rdN bsE) Q5 d.2) fun e=>bO (polC 70 bsE (rdN bsE) Q6 e.2) fun f=>bO (polC 70 bsE (rdN bsE) Q7 f.2) fun g=>bO (rdC g.2 35 0 [g.1]) fun L=>some ([a.1,b.1,c.1,d.1,e.1,f.1,g.1],L)
theorem run_ex:runE=some ([160,160,238,238,774,843,906],[2]):=by kernel_rfl
abbrev hk1:Hd:=[0,0,4096,0,0,0,0,0,0,0]
abbrev hk2:Hd:=[0,0,8192,0,0,0,0,0,0,0]
theorem ex_all:∃ n1 n2 n3 n4 n5 n6 n7 s7,polF 200000 bsE 0 (rdN bsE) Q1 (nsE 70)=some (160,n1)∧polF 200000 bsE 0 (rdN bsE) Q2 n1=some (160,n2)∧polF 200000 bsE 0 (rdN bsE) Q3 n2=some (238,n3)∧polF 200000 bsE 0 (rdN bsE) Q4 n3=some (238,n4)∧polF 200000 bsE 0 (rdN bsE) Q5 n4=some (774,n5)∧polF 200000 bsE 0 (rdN bsE) Q6 n5=some (843,n6)∧polF 200000 bsE 0 (rdN bsE) Q7 n6=some (906,n7)∧Rs 70 n7 s7∧rdC s7 35 0 [906]=some [2]:=by
 have h:=run_ex;unfold runE at h;obtain⟨⟨a,s1⟩,h1,h⟩:=Be h;obtain⟨⟨b,s2⟩,h2,h⟩:=Be h;obtain⟨⟨c,s3⟩,h3,h⟩:=Be h;obtain⟨⟨d,s4⟩,h4,h⟩:=Be h;obtain⟨⟨e,s5⟩,h5,h⟩:=Be h;obtain⟨⟨f,s6⟩,h6,h⟩:=Be h;obtain⟨⟨g,s7⟩,h7,h⟩:=Be h;obtain⟨L,h8,h⟩:=Be h
 dsimp only at h1 h2 h3 h4 h5 h6 h7 h8 h
 have h9:=Option.some.inj h;simp only[Prod.mk.injEq,List.cons.injEq,and_true] at h9;obtain⟨⟨rfl,rfl,rfl,rfl,rfl,rfl,rfl⟩,rfl⟩:=h9;obtain⟨n1,f1,r1⟩:=C4 (most:=200000) qom qom 0 _ _ rs0 h1;obtain⟨n2,f2,r2⟩:=C4 (most:=200000) qom qom 0 _ _ r1 h2;obtain⟨n3,f3,r3⟩:=C4 (most:=200000) qom qom 0 _ _ r2 h3;obtain⟨n4,f4,r4⟩:=C4 (most:=200000) qom qom 0 _ _ r3 h4;obtain⟨n5,f5,r5⟩:=C4 (most:=200000) qom qom 0 _ _ r4 h5;obtain⟨n6,f6,r6⟩:=C4 (most:=200000) qom qom 0 _ _ r5 h6;obtain⟨n7,f7,r7⟩:=C4 (most:=200000) qom qom 0 _ _ r6 h7;exact⟨n1,n2,n3,n4,n5,n6,n7,s7,f1,f2,f3,f4,f5,f6,f7,r7,h8⟩
theorem fs1:fset exK hd0 1=hk1:=by kernel_rfl
theorem fs2:fset exK hd0 2=hk2:=by kernel_rfl
theorem fg0:fget exD hd0=0:=by kernel_rfl
theorem bit2 (w b:Nat):hbit [0,0,w,0,0,0,0,0,0,0] b=if b / 16=2 then w.testBit (15 - b % 16) else false:=by
 have h:∀ i,gd ([0,0,w,0,0,0,0,0,0,0]:List Nat) i=if i=2 then w else 0:=fun i=>by
  match i with
  |0=>rfl
  |1=>rfl
  |2=>rfl
  |3=>rfl
  |4=>rfl
  |5=>rfl
  |6=>rfl
  |7=>rfl
  |8=>rfl
  |9=>rfl
  |i+10=>rw[if_neg qom];rfl
 unfold hbit;rw[h]
 split
 ·rfl
 ·simp
theorem lt01:hLt hd0 hk1:=⟨35,by decide,fun j hj=>by
 rw[H5,bit2]
 split
 ·rename_i e;have h:j=32∨j=33∨j=34:=by omega
  rcases h with rfl|rfl|rfl<;>decide
 ·rfl,H5 _,by rw[bit2];decide⟩
theorem lt12:hLt hk1 hk2:=⟨34,by decide,fun j hj=>by
 rw[bit2,bit2]
 split
 ·have h:j=32∨j=33:=by omega
  rcases h with rfl|rfl<;>decide
 ·rfl,by rw[bit2];decide,by rw[bit2];decide⟩
theorem den5 (g:Hd):den 0 Q5 hd0 g↔g=hd0∨g=hk1∨g=hk2:=by
 show Cl' (fun h g=>den 0 (.set exK 1) h g∨den 0 (.set exK 2) h g) hd0 g↔_;simp only[den]
 constructor
 ·intro a;have key:∀ {h g:Hd},Cl' (fun h g=>g=fset exK h 1∨g=fset exK h 2) h g→g=h∨g=fset exK h 1∨g=fset exK h 2:=by
   intro h g a
   induction a with
   |base=>exact .inl rfl
   | @step h m g a _ ih=>
    rcases a with rfl|rfl
    ·rcases ih with rfl|rfl|rfl
     ·exact .inr (.inl U)
     ·exact .inr (.inl fset_fset)
     ·exact .inr (.inr fset_fset)
    ·rcases ih with rfl|rfl|rfl
     ·exact .inr (.inr U)
     ·exact .inr (.inl fset_fset)
     ·exact .inr (.inr fset_fset)
  have:=key a
  rwa [fs1,fs2] at this
 ·rintro(rfl|rfl|rfl)
  ·exact .base _
  ·exact .one (.inl fs1.symm)
  ·exact .one (.inr fs2.symm)
structure ExOk (ns:Ns):Prop where
 w:Wf 70 ns
 len:906<ns.length
 ev5:evA' ns bsE hd0 774=[hd0,hk1,hk2]
 ev6:evA' ns bsE hd0 843=[]
 df:dfH ns bsE 843 238=hd0
 g4:gvF ns (xh bsE hd0) 238=true
 g6:gvF ns (xh bsE hd0) 843=false
theorem ex_fin {n1 n2 n3 n4 n5 n6 n7:Ns}(f1:polF 200000 bsE 0 (rdN bsE) Q1 (nsE 70)=some (160,n1))(f2:polF 200000 bsE 0 (rdN bsE) Q2 n1=some (160,n2))(f3:polF 200000 bsE 0 (rdN bsE) Q3 n2=some (238,n3))(f4:polF 200000 bsE 0 (rdN bsE) Q4 n3=some (238,n4))(f5:polF 200000 bsE 0 (rdN bsE) Q5 n4=some (774,n5))(f6:polF 200000 bsE 0 (rdN bsE) Q6 n5=some (843,n6))(f7:polF 200000 bsE 0 (rdN bsE) Q7 n6=some (906,n7)):ExOk n7:=by
 have hb:=Gs;have d1:(1:Nat)<2 ^ exD.w:=by decide
 have d2:(2:Nat)<2 ^ exD.w:=by decide
 have d3:(3:Nat)<2 ^ exD.w:=by decide
 have k1:(1:Nat)<2 ^ exK.w:=by decide
 have k2:(2:Nat)<2 ^ exK.w:=by decide
 have F1:Q1.Fit bsE:=⟨⟨inD,d1⟩,inD,d2⟩;have F2:Q2.Fit bsE:=⟨inD,d2⟩;have F3:Q3.Fit bsE:=⟨⟨inD,d1⟩,inD,d1⟩;have F4:Q4.Fit bsE:=trivial;have F5:Q5.Fit bsE:=⟨⟨inK,k1⟩,inK,k2⟩;have F6:Q6.Fit bsE:=⟨inD,d3⟩;have F7:Q7.Fit bsE:=⟨⟨inD,d3⟩,⟨inK,k1⟩,inK,k2⟩;obtain⟨g1,l1,r1⟩:=Ck hb 0 _ Q1 F1 (J4 70) f1;obtain⟨g2,l2,r2⟩:=Ck hb 0 _ Q2 F2 g1.w f2;obtain⟨g3,l3,r3⟩:=Ck hb 0 _ Q3 F3 g2.w f3;obtain⟨g4,l4,r4⟩:=Ck hb 0 _ Q4 F4 g3.w f4;obtain⟨g5,l5,r5⟩:=Ck hb 0 _ Q5 F5 g4.w f5;obtain⟨g6,l6,r6⟩:=Ck hb 0 _ Q6 F6 g5.w f6;obtain⟨g7,l7,r7⟩:=Ck hb 0 _ Q7 F7 g6.w f7;have R4:=r4.gr g4.w l4 (g5.trans (g6.trans g7));have R5:=r5.gr g5.w l5 (g6.trans g7);have R6:=r6.gr g6.w l6 g7;have L4:=Nat.lt_of_lt_of_le l4 (g5.trans (g6.trans g7)).le;have L5:=Nat.lt_of_lt_of_le l5 (g6.trans g7).le;have L6:=Nat.lt_of_lt_of_le l6 g7.le;have O4:∀ {h g:Hd},HdOk h→den 0 Q4 h g→HdOk g∧Out bsE h g:=fun h1 h2=>Dn F4 h1 h2
 have O5:∀ {h g:Hd},HdOk h→den 0 Q5 h g→HdOk g∧Out bsE h g:=fun h1 h2=>Dn F5 h1 h2
 have O6:∀ {h g:Hd},HdOk h→den 0 Q6 h g→HdOk g∧Out bsE h g:=fun h1 h2=>Dn F6 h1 h2
 have n6:∀ g,¬ den 0 Q6 hd0 g:=fun g ⟨_,e⟩=>by
  have e:(fget exD hd0==3)=true:=e;rw[fg0] at e;cases e
 refine⟨g7.w,l7,?_,?_,?_,?_,?_⟩
 ·refine sorted_eq (evA_up hb g7.w Ca L5) ?_ fun f=> ?_
  ·exact .cons (fun x hx=>by simp only[List.mem_cons,List.not_mem_nil,or_false] at hx;rcases hx with rfl|rfl;exact lt01;exact lt01.trans lt12) (.cons (fun x hx=>by simp only[List.mem_cons,List.not_mem_nil,or_false] at hx;subst hx;exact lt12) (List.pairwise_singleton ..))
  ·rw[evA_mem hb g7.w Ca L5 R5 O5,den5];simp
 ·refine List.eq_nil_iff_forall_not_mem.2 fun f hf=>n6 f ((evA_mem hb g7.w Ca L6 R6 O6 f).1 hf)
 ·unfold dfH;rw[if_neg qom];obtain⟨e1,e2⟩:=differ_ok hb g7.w L6 L4 qom R6 R4 O6 O4;have hdh:HdOk (dhF n7 bsE 843 238):=by
   unfold dhF bhF;exact Cq _
  rcases hLt_or hdh Ca with h|h|h
  ·obtain⟨i,hi,_,_,t⟩:=h;rw[H5] at t;cases t
  ·exact h
  ·have:=(e2 hd0 Ca h hd0).2 ⟨rfl,rfl⟩;exact(n6 _ this).elim
 ·exact(gv_rep hb g7.w Ca L4 R4 O4).2 ⟨hd0,rfl,rfl⟩
 ·refine Bool.eq_false_iff.2 fun e=> ?_
  obtain⟨g,hg⟩:=(gv_rep hb g7.w Ca L6 R6 O6).1 e;exact n6 g hg
theorem ex_rules {ns:Ns}{s:Fs}(h:Rs 70 ns s)(e:rdC s 35 0 [906]=some [2]):(rulesP ns bsE 906).map (fun c=>c.2.length)=[2]:=by
 unfold rulesP;rw[if_neg qde];have h1:=Jm h bsE 35 0 (hd0,hd0) [pt0 906] [2] e;unfold rsP;rw[List.map_map];have h2:((fun c:Md × List Md=>c.2.length) ∘ fun c:Md × List Md=>(c.1,srtM c.2))=fun c:Md × List Md=>c.2.length:=by
  funext c
  show (srtM c.2).length=_;unfold srtM;rw[List.length_mergeSort]
 refine Eq.trans ?_ h1;exact congrFun (congrArg List.map h2) _
theorem beq_r (n:Nat):Nat.beq n n=true:=Nat.beq_refl n
section
variable {P:Program} {r:Option Nat} {N:Nat} {w0:World} {ops:Array Oper} {t:Nat} {Q:Post} {L:Fm} {ds:List Deferred} {H0 H:List (Nat × Obj)} {Φ:PdI}
def opG (ops:Array Oper) (N:Nat) (keys gs:List Nat) (i:Nat):Bool:=
 match ops[i]? with
 |some ⟨some d,_,_,_,af,g⟩=>Nat.blt d N&& !(keys.contains d)&&(af.toList.all fun e=> !(Region.binds md e)||Nat.blt e.on i)&&(match g with|none=>true|some (j,w)=>w&&gs.contains j&&af.toList.any fun e=>Region.binds md e&&Nat.beq e.on j)
 |_=>false
def invG (ops:Array Oper) (t N:Nat) (keys gs:List Nat) (sel:List (Nat × Nat)):Bool:=
 tailB ops t&&noDefer ops&&Region.noSelect ops&&((List.range t).all fun i=>opG ops N keys gs i)&&decide ((allOf ops t).map Prod.snd).Nodup&&tailOk ops (ops.size - t) t ((List.range ops.size).map fun j=>Nat.blt j t).toArray&&sel.all fun e=>Nat.blt e.1 t&&(dstI ops e.1==some e)
theorem wpO_invG (gs:List Nat)(hgs:∀ j,j∈gs→∀ v H,Φ j v H→v= .bool true)(hN:(List.range t).all (fun i=>opG ops N (L.map Prod.fst) gs i)=true)(hnd:((allOf ops t).map Prod.snd).Nodup)(htl:t≤ops.size)(htk:tailOk ops (ops.size - t) t ((List.range ops.size).map fun j=>Nat.blt j t).toArray=true)
  (mono:∀ i v H H',Φ i v H→H.Sublist H'→Φ i v H') (hst:∀ i,i<t→StepI P w0 ops H0 L Φ i)
  (k:∀ (a:Act) H,a.tmps.size=N→a.defers=ds→Agr L (fr a)→H0.Sublist H→(∀ j d,j<t→dstI ops j=some (j,d)→Φ j (fr a d) H)→∀ w,Own w0 H w→wpListIn (rd r) 0 P ops (LQ N Q) (ops.toList.drop t) a w):
  ∀ (f:Nat) (listed:Array Bool) (a:Act) (H:List (Nat × Obj)),HeadInv md ops t listed→(List.range t).countP (fun j=> !(listed.getD j false))=f→H0.Sublist H→a.tmps.size=N→a.defers=ds→Agr L (fr a)→(∀ j d,j<t→listed.getD j false=true→dstI ops j=some (j,d)→Φ j (fr a d) H)→
   wpO P r ops (LQ N Q) w0 H0 t f listed a H:=by
 have hop:∀ i,i<t→∃ d op ty p af g,ops[i]? =some ⟨some d,op,ty,p,af,g⟩∧d<N∧d∉L.map Prod.fst∧(∀ e∈af,Region.binds md e=true→e.on<i)∧∀ j w,g=some (j,w)→w=true∧j∈gs∧∃ e∈af,Region.binds md e=true∧e.on=j:=fun i hi=>by
  have h1:=List.all_eq_true.1 hN i (by simpa using hi);unfold opG at h1
  split at h1
  ·rename_i d op ty p af g h2;simp only[Bool.and_eq_true,Nat.blt_eq,Bool.not_eq_true',List.all_eq_true,Bool.or_eq_true] at h1;obtain⟨⟨⟨h3,h4⟩,h5⟩,h7⟩:=h1;refine⟨d,op,ty,p,af,g,h2,h3,by simpa using h4,fun e he hb=> ?_,fun j w hg=> ?_⟩
   ·rcases h5 e (by simpa using he) with h6|h6
    ·rw[hb] at h6;cases h6
    ·exact h6
   ·subst hg;simp only[Bool.and_eq_true,List.any_eq_true] at h7;obtain⟨⟨h8,h9⟩,e,h10,h11,h12⟩:=h7;exact⟨h8,by simpa using h9,e,by simpa using h10,h11,Nat.eq_of_beq_eq_true h12⟩
  ·cases h1
 have hdd:∀ i j d d',i<t→j<t→i≠j→dstI ops i=some (i,d)→dstI ops j=some (j,d')→d≠d':=by
  intro i j d d' hi hj hij h1 h2 e;subst e;have key:∀ l:List Nat,l.Nodup→i∈l→j∈l→((l.filterMap fun j=>dstI ops j).map Prod.snd).Nodup→False:=by
   intro l
   induction l with
   |nil=>intro _ h;cases h
   |cons x l ih=>
    intro hl hi hj hn;simp only[List.nodup_cons] at hl
    by_cases ex:x=i
    ·subst ex;have hj':j∈l:=by simpa[Ne.symm hij] using hj
     rw[List.filterMap_cons,h1] at hn;simp only[List.map_cons,List.nodup_cons] at hn;exact hn.1 (List.mem_map.2 ⟨(j,d),List.mem_filterMap.2 ⟨j,hj',h2⟩,rfl⟩)
    ·by_cases ey:x=j
     ·subst ey;have hi':i∈l:=by simpa[Ne.symm ex] using hi
      rw[List.filterMap_cons,h2] at hn;simp only[List.map_cons,List.nodup_cons] at hn;exact hn.1 (List.mem_map.2 ⟨(i,d),List.mem_filterMap.2 ⟨i,hi',h1⟩,rfl⟩)
     ·refine ih hl.2 (by simpa[Ne.symm ex] using hi) (by simpa[Ne.symm ey] using hj) ?_;rw[List.filterMap_cons] at hn;cases hx:dstI ops x with
      |none=>rw[hx] at hn;exact hn
      |some y=>rw[hx] at hn;simp only[List.map_cons,List.nodup_cons] at hn;exact hn.2
  exact key _ List.nodup_range (by simpa using hi) (by simpa using hj) hnd
 intro f
 induction f with
 |zero=>
  intro listed a H inv hc hs hsz hd hA hall;have hl:∀ j,j<t→listed.getD j false=true:=fun j hj=>by
   have:=List.countP_eq_zero.1 hc j (by simpa using hj)
   simpa using this
  have he:listed=((List.range ops.size).map fun j=>Nat.blt j t).toArray:=by
   apply Array.ext
   ·simp[inv.size]
   ·intro j h1 h2;simp only[List.getElem_toArray,List.getElem_map,List.getElem_range]
    by_cases hj:j<t
    ·have:=hl j hj;simp[h1] at this;rw[this];exact(by simpa[Nat.blt_eq] using hj:Nat.blt j t=true).symm
    ·have:=inv.tail j qom (by rw[← inv.size];exact h1);simp[h1] at this;rw[this];cases hb:Nat.blt j t
     ·rfl
     ·rw[Nat.blt_eq] at hb;omega
  refine⟨by rw[he];exact htk,fun w hO=> ?_⟩;exact k a H hsz hd hA hs (fun j d hj hd=>hall j d hj (hl j hj) hd) w hO
 |succ f ih=>
  intro listed a H inv hc hs hsz hd hA hall;have hex:∃ i,i<t∧listed.getD i false=false∧∀ j,j<i→listed.getD j false=true:=by
   have h1:∃ i,i<t∧listed.getD i false=false:=by
    by_cases h:∃ i,i<t∧listed.getD i false=false
    ·exact h
    ·exfalso;have:(List.range t).countP (fun j=> !(listed.getD j false))=0:=List.countP_eq_zero.2 fun j hj=>by
      have hj':j<t:=by simpa using hj
      cases hb:listed.getD j false
      ·exact absurd ⟨j,hj',hb⟩ h
      ·simp[hb]
     omega
   obtain⟨i,hi1,hi2⟩:=h1;have:∀ n,∀ i,i≤n→i<t→listed.getD i false=false→∃ i,i<t∧listed.getD i false=false∧∀ j,j<i→listed.getD j false=true:=by
    intro n
    induction n with
    |zero=>intro i h0 h1 h2;exact⟨i,h1,h2,fun j hj=>by omega⟩
    |succ n ihn=>
     intro i h0 h1 h2
     by_cases h:∃ j,j<i∧listed.getD j false=false
     ·obtain⟨j,hj1,hj2⟩:=h;exact ihn j qom qom hj2
     ·refine⟨i,h1,h2,fun j hj=> ?_⟩;cases hb:listed.getD j false
      ·exact absurd ⟨j,hj,hb⟩ h
      ·rfl
   exact this i i (Nat.le_refl _) hi1 hi2
  obtain⟨i0,hi1,hi2,hi3⟩:=hex;refine⟨⟨i0,mem_ready.2 ⟨getD_in (by rw[inv.size];omega) hi2,?_⟩,hi1⟩,fun i hi hit w hO=> ?_⟩
  ·obtain⟨d,op,ty,p,af,g,h1,_,_,h2,_⟩:=hop i0 hi1;exact⟨_,h1,fun e he hb=>hi3 _ (h2 e he hb)⟩
  ·obtain⟨d,op,ty,p,af,g,h1,h2,h3,h4,h5⟩:=hop i hit;obtain⟨hun,o',ho',hall'⟩:=mem_ready.1 hi;rw[h1] at ho';obtain rfl:=Option.some.inj ho';have hdst:dstI ops i=some (i,d):=by unfold dstI;rw[h1];rfl
   have hdep:∀ e∈depsOf ops ⟨some d,op,ty,p,af,none⟩,Φ e.1 (fr a e.2) H:=fun e he=>by
    unfold depsOf at he;obtain⟨x,hx,hxe⟩:=List.mem_filterMap.1 he
    by_cases hb:Region.binds md x=true
    ·rw[if_pos hb] at hxe;have hx':x∈af:=by simpa using hx
     have hd1:dstI ops x.on=some (x.on,e.2)∧e.1=x.on:=by
      unfold dstI at hxe ⊢;cases ho:ops[x.on]? with
      |none=>rw[ho] at hxe;cases hxe
      |some o=>
       rw[ho] at hxe;simp only[Option.bind_some] at hxe ⊢;cases hod:o.dst with
       |none=>rw[hod] at hxe;cases hxe
       |some d'=>rw[hod] at hxe;simp only[Option.map_some,Option.some.injEq] at hxe ⊢;subst hxe;exact⟨rfl,rfl⟩
     rw[hd1.2];exact hall x.on e.2 (Nat.lt_trans (h4 x hx' hb) hit) (hall' x hx' hb) hd1.1
    ·rw[if_neg hb] at hxe;cases hxe
   have he:=hst i hit _ h1 H _ hs (depF_of _ hdep);unfold wpOpIn;simp only[h1];have hw:Region.wanted ⟨some d,op,ty,p,af,g⟩ (yielded ops a.tmps)=true:=by
    cases g with
    |none=>exact I8 (L:=L) (b:=fr a) (N:=N) Ad hsz (Jf hA).symm
    |some g=>
     obtain⟨j,w⟩:=g;obtain⟨rfl,hj,e,he1,he2,rfl⟩:=h5 j w rfl;have hji:=h4 e he1 he2;obtain⟨d1,op1,ty1,p1,af1,g1,k1,k2,_⟩:=hop e.on (Nat.lt_trans hji hit);have hd1:dstI ops e.on=some (e.on,d1):=by unfold dstI;rw[k1];rfl
     have hv:=hgs _ hj _ _ (hall e.on d1 (Nat.lt_trans hji hit) (hall' e he1 he2) hd1);have hag:Agr [(d1,Value.bool true)] (fr a):=fun k v hk=>by
      rw[fnd?] at hk;cases hb:Nat.beq d1 k
      ·simp only[hb] at hk;cases hk
      ·simp only[hb] at hk;have:=Nat.eq_of_beq_eq_true hb;subst this;rw[hv];exact Option.some.inj hk
     exact I8 (L:=[(d1,Value.bool true)]) (b:=fr a) (N:=N) (Az (s:=d1) (by rw[k1];rfl) (by rw[Nat.blt_eq];exact k2) (Aa (by rw[fnd?,beq_r]))) hsz (Jf hag).symm
   rw[if_pos hw];refine eff_wpIn (Jf (agr_dep hA _)).symm he hO fun v H' w' hk hO'=> ?_
   refine⟨H',hs.trans hk.1,hO',ih _ _ H' (inv.set hi hit) ?_ (hs.trans hk.1) (by rw[C1];exact hsz) (by rw[Ch];exact hd) (agr_put hA h3) fun j d' hj hl hdj=> ?_⟩
   ·have:=countP_one (p:=fun j=> !(listed.getD j false)) (q:=fun j=> !((listed.setIfInBounds i true).getD j false)) (i:=i) (by simp only[getD_both hun];rfl)
     (by simp[show i<listed.size from by rw[inv.size];omega]) (fun j hj=>by rw[getD_set_ne false (Ne.symm hj)]) (l:=List.range t) List.nodup_range (by simpa using hit)
    omega
   ·by_cases hji:j=i
    ·subst hji;rw[hdst] at hdj;obtain rfl:d=d':=(Prod.mk.inj (Option.some.inj hdj)).2;rw[fr_same (by rw[hsz];exact h2)];exact hk.2
    ·rw[fr_other (hdd i j d d' hit hj (Ne.symm hji) hdst hdj)];rw[getD_set_ne false (Ne.symm hji)] at hl;exact mono _ _ _ _ (hall j d' hj hl hdj) hk.1
theorem j_invG {id:Nat}(t:Nat)(Φ:PdI)(sel:List (Nat × Nat))(gs:List Nat)(hm:P.follows .mixedOrders=true)(hb:invG ops t N (L.map Prod.fst) gs sel=true)(hgs:∀ j,j∈gs→∀ v H,Φ j v H→v= .bool true)(mono:∀ i v H H',Φ i v H→H.Sublist H'→Φ i v H')(hst:∀ i,i<t→StepI P w0 ops H L Φ i)
  (k:∀ H' F,H.Sublist H'→DepF Φ H' sel F→JL P r N w0 ops (ops.toList.drop t) Q (F++L) ds H') (hP:NoPanic Q:=by repeat (first|exact Hm|exact Ey|exact D3|apply E7|apply D8|apply F8|apply Hn)):J P r N w0 (.region id ops true) Q L ds H:=fun b w hO a hsz hf hd=>by
 simp only[invG,Bool.and_eq_true,decide_eq_true_eq] at hb;obtain⟨⟨⟨⟨⟨⟨h1,h2⟩,h3⟩,h4⟩,h5⟩,h6⟩,h7⟩:=hb;obtain⟨hT,htl⟩:=tailB_spec h1;have inv:HeadInv md ops t (Array.replicate ops.size false):=by
  refine⟨by simp,fun j oj _ hl=>(by rw[getD_replicate_false] at hl;cases hl),fun k _ hk=> ?_⟩;simp[hk]
 have hc:(List.range t).countP (fun j=> !((Array.replicate ops.size false).getD j false))=t:=by
  rw[List.countP_eq_length.2]
  ·simp
  ·intro j _;rw[getD_replicate_false];rfl
 have h8:=wpO_invG gs hgs (r:=r) (Q:=Q) (ds:=ds) h4 h5 htl h6 mono hst (fun a' H' hsz' hd' hA' hs' hall w' hO'=>by
  have hF:∀ e∈sel,Φ e.1 (fr a' e.2) H':=fun e he=>by
   have:=List.all_eq_true.1 h7 e he;simp only[Bool.and_eq_true,Nat.blt_eq,beq_iff_eq] at this;exact hall e.1 e.2 this.1 (by rw[this.2])
  exact k H' _ hs' (depF_of sel hF) (fr a') w' hO' a' hsz' (Jf (agr_dep hA' sel)).symm hd') t _ a H inv hc (List.Sublist.refl _) hsz hd (by rw[hf];exact agr_lk) (fun j d _ hl=>(by rw[getD_replicate_false] at hl;cases hl))
 have h9:=wpAny_of_wpO hT htl t _ a H {w with drawn:=w.drawn+1} inv hO.drawn h8;rw[show t+(ops.size - t)=ops.size by omega] at h9;exact wpIn_region_any hm h9
end
theorem dep_skip {Φ:PdI}{H:List (Nat × Obj)}{ds:List (Nat × Nat)}{F L:Fm}{s:Nat}(h:DepF Φ H ds F)(hg:dget? ds s=none):fnd? (F++L) s=fnd? L s:=by
 induction h with
 |nil=>rfl
 | @cons j' s' v ds F hv hr ih=>
  rw[dget?] at hg;rw[List.cons_append,fnd?];cases hb:Nat.beq s' s
  ·simp only[hb] at hg ⊢;exact ih hg
  ·simp only[hb] at hg;cases hg
theorem Co {P:Program}{w0:World}{ops:Array Oper}{H0:List (Nat × Obj)}{L:Fm}{Φ:PdI}{i:Nat}{o:Oper}(hi:ops[i]? =some o)
  (h:∀ H F,H0.Sublist H→DepF Φ H (depsOf ops o) F→Eff P w0 o.op o.type (F++L) H (fun v H'=>H.Sublist H'∧Φ i v H')):StepI P w0 ops H0 L Φ i:=fun o' ho=>by
 rw[hi] at ho;obtain rfl:=Option.some.inj ho;exact h
inductive Sp
 |po (p:Po)
 |sl (ps:List Po)
 |val (v:Value)
def IsOs (fl:List Fd):List Pom→List Po→Prop
 |[],[]=>True
 |m::ms,p::ps=>IsO fl m p∧IsOs fl ms ps
 |_,_=>False
def denS (w0:World) (fl:List Fd):Sp→Value→List (Nat × Obj)→Prop
 | .po p,v,H=>∃ m,v= .agg (encPo m).toArray∧IsO fl m p∧PoM w0 H m
 | .sl ps,v,H=>∃ (n:Nat) (ms:List Pom),v= .slice (some ⟨n,0,none⟩) ms.length ms.length∧Arr w0 H (some ⟨n,0,none⟩) 9 encPo ms∧(∀ a∈ms,PoM w0 H a)∧IsOs fl ms ps
 | .val u,v,_=>v=u
theorem denS_mono {w0:World}{fl:List Fd}{sp:Sp}{v:Value}{H H':List (Nat × Obj)}(h:denS w0 fl sp v H)(hs:H.Sublist H'):denS w0 fl sp v H':=by
 cases sp with
 |po p=>obtain⟨m,h1,h2,h3⟩:=h;exact⟨m,h1,h2,h3.mono hs⟩
 |sl ps=>obtain⟨n,ms,h1,h2,h3,h4⟩:=h;exact⟨n,ms,h1,h2.mono hs,fun a ha=>(h3 a ha).mono hs,h4⟩
 |val u=>exact h
def denT (w0:World) (fl:List Fd) (tbl:List Sp):PdI:=fun i v H=>match tbl[i]? with
 |some sp=>denS w0 fl sp v H
 |none=>True
theorem Bu {w0:World}{fl:List Fd}{tbl:List Sp}{i:Nat}{sp:Sp}{v:Value}{H:List (Nat × Obj)}(h:tbl[i]? =some sp):denT w0 fl tbl i v H↔denS w0 fl sp v H:=by unfold denT;rw[h]
theorem denT_mono {w0:World}{fl:List Fd}{tbl:List Sp}:∀ i v H H',denT w0 fl tbl i v H→H.Sublist H'→denT w0 fl tbl i v H':=fun i v H H' h hs=>by
 unfold denT at *;cases hb:tbl[i]? with
 |none=>trivial
 |some sp=>rw[hb] at h;exact denS_mono h hs
theorem denT_tt {w0:World}{fl:List Fd}{tbl:List Sp}{gs:List Nat}(h:∀ j∈gs,tbl[j]? =some (.val (.bool true))):∀ j,j∈gs→∀ v H,denT w0 fl tbl j v H→v= .bool true:=fun j hj v H hv=>(Bu (h j hj)).1 hv
theorem arrPo1 {w0:World}{n:Nat}{a:Pom}{t:TypeId}{H:List (Nat × Obj)}(hf:Fnd H n (Cl (encPo a) t)):Arr w0 H (some ⟨n,0,none⟩) 9 encPo [a]:=fun j x hj=>by
 refine⟨rfl,fun k v hk=> ?_⟩
 match j,hj with
 |0,hj=>
  have:a=x:=by simpa using hj
  subst this;exact Cv hf (by show (encPo a)[0+0*9+k]? =some v;rw[show (0:Nat)+0*9+k=k by omega];exact hk)
theorem arrPo2 {w0:World}{n:Nat}{a b:Pom}{t:TypeId}{H:List (Nat × Obj)}(hf:Fnd H n (Cl (encPo a++encPo b) t)):Arr w0 H (some ⟨n,0,none⟩) 9 encPo [a,b]:=fun j x hj=>by
 refine⟨rfl,fun k v hk=> ?_⟩
 match j,hj with
 |0,hj=>
  have:a=x:=by simpa using hj
  subst this;exact Cv hf (by show (encPo a++encPo b)[0+0*9+k]? =some v;rw[show (0:Nat)+0*9+k=k by omega,List.getElem?_append_left (by exact(List.getElem?_eq_some_iff.1 hk).1)];exact hk)
 |1,hj=>
  have:b=x:=by simpa using hj
  subst this;exact Cv hf (by show (encPo a++encPo b)[0+1*9+k]? =some v;rw[show (0:Nat)+1*9+k=(encPo a).length+k by show 0+1*9+k=9+k;omega,List.getElem?_append_right qom,Nat.add_sub_cancel_left];exact hk)
theorem Cg (a0:Int)(a1:Int)(a2:ByteArray)(a3:Int)(a4:Int)(a5:Option Addr)(a5n a5c:Nat)(a6:ByteArray)(a7:Int)(a8:Option Addr)(a8n a8c:Nat)(a9:Int)(a10:Int)(a11:ByteArray)(a12:Int)(a13:Int)(a14:Option Addr)(a14n a14c:Nat)(a15:ByteArray)(a16:Int)(a17:Option Addr)(a17n a17c:Nat)(w:World):(Instr.buildSlice 26 2 #[(0, .agg #[.int .i64 a0, .int .i64 a1, .string a2, .int .i64 a3, .int .i64 a4, .slice a5 a5n a5c, .string a6, .int .i64 a7, .slice a8 a8n a8c]),(1, .agg #[.int .i64 a9, .int .i64 a10, .string a11, .int .i64 a12, .int .i64 a13, .slice a14 a14n a14c, .string a15, .int .i64 a16, .slice a17 a17n a17c])]).run Tryz.prog w= .ok (.slice (some ⟨w.heap.size,0,none⟩) 2 2) (w.alloc (Cl [.int .i64 a0, .int .i64 a1, .string a2, .int .i64 a3, .int .i64 a4, .slice a5 a5n a5c, .string a6, .int .i64 a7, .slice a8 a8n a8c, .int .i64 a9, .int .i64 a10, .string a11, .int .i64 a12, .int .i64 a13, .slice a14 a14n a14c, .string a15, .int .i64 a16, .slice a17 a17n a17c] 28)):=by kernel_rfl
section
variable {w0:World} {fl:List Fd} {ops:Array Oper} {H0:List (Nat × Obj)} {L:Fm} {tbl:List Sp} {i:Nat} {d:Option Tmp} {ty:TypeId} {p:String} {af:Array Edge} {g:Option (Nat × Bool)}
theorem Cm {s b:Nat}{m:Pom}{x:Po}(hi:ops[i]? =some ⟨d, .load 28 (.tmp s),ty,p,af,g⟩)(hd:dget? (depsOf ops ⟨d, .load 28 (.tmp s),ty,p,af,g⟩) s=none)(hL:fnd? L s=some (.pointer (some ⟨b,0,none⟩)))(ht:tbl[i]? =some (.po x))(hf:Fnd H0 b (Cl (encPo m) 28))(hI:IsO fl m x)(hM:PoM w0 H0 m):StepI Tryz.prog w0 ops H0 L (denT w0 fl tbl) i:=Co hi fun H F hs hF=>by
 refine(Ag (T ((dep_skip hF hd).trans hL)) isAgg28 sizeOf28 U (cs_m (Ai hf) hs)).eff.imp ?_;rintro _ _ ⟨rfl,rfl⟩;exact⟨List.Sublist.refl _,(Bu ht).2 ⟨m,rfl,hI,hM.mono hs⟩⟩
theorem Ci {s:Nat}{u:Value}(hi:ops[i]? =some ⟨d, .move (.tmp s),ty,p,af,g⟩)(hd:dget? (depsOf ops ⟨d, .move (.tmp s),ty,p,af,g⟩) s=none)(hL:fnd? L s=some u)(ht:tbl[i]? =some (.val u)):StepI Tryz.prog w0 ops H0 L (denT w0 fl tbl) i:=Co hi fun H F hs hF=>by
 refine(H4 (T ((dep_skip hF hd).trans hL))).eff.imp ?_;rintro _ _ ⟨rfl,rfl⟩;exact⟨List.Sublist.refl _,(Bu ht).2 U⟩
theorem J2 {s j:Nat}{sp:Sp}(hi:ops[i]? =some ⟨d, .move (.tmp s),ty,p,af,g⟩)(hg:dget? (depsOf ops ⟨d, .move (.tmp s),ty,p,af,g⟩) s=some j)(tj:tbl[j]? =some sp)(ht:tbl[i]? =some sp):StepI Tryz.prog w0 ops H0 L (denT w0 fl tbl) i:=Co hi fun H F hs hF=>by
 obtain⟨v1,f1,d1⟩:=Ct (L:=L) hF hg;refine(H4 (T f1)).eff.imp ?_;rintro _ _ ⟨rfl,rfl⟩;exact⟨List.Sublist.refl _,(Bu ht).2 ((Bu tj).1 d1)⟩
theorem st_asg {s j:Nat}{sp:Sp}(hi:ops[i]? =some ⟨d, .assign (.tmp s),ty,p,af,g⟩)(hg:dget? (depsOf ops ⟨d, .assign (.tmp s),ty,p,af,g⟩) s=some j)(tj:tbl[j]? =some sp)(ht:tbl[i]? =some sp):StepI Tryz.prog w0 ops H0 L (denT w0 fl tbl) i:=Co hi fun H F hs hF=>by
 obtain⟨v1,f1,d1⟩:=Ct (L:=L) hF hg;refine(yl_assign (T f1)).eff.imp ?_;rintro _ _ ⟨rfl,rfl⟩;exact⟨List.Sublist.refl _,(Bu ht).2 ((Bu tj).1 d1)⟩
theorem Ic {s1 s2 j1 j2:Nat}{c:Operand}(hi:ops[i]? =some ⟨d, .pick (.tmp s1) (.tmp s2) c,ty,p,af,g⟩)(g1:dget? (depsOf ops ⟨d, .pick (.tmp s1) (.tmp s2) c,ty,p,af,g⟩) s1=some j1)(g2:dget? (depsOf ops ⟨d, .pick (.tmp s1) (.tmp s2) c,ty,p,af,g⟩) s2=some j2)(t1:tbl[j1]? =some (.val (.bool true)))(t2:tbl[j2]? =some (.val (.bool true)))(ht:tbl[i]? =some (.val (.bool true))):StepI Tryz.prog w0 ops H0 L (denT w0 fl tbl) i:=Co hi fun H F hs hF=>by
 obtain⟨v1,f1,d1⟩:=Ct (L:=L) hF g1;obtain⟨v2,f2,d2⟩:=Ct (L:=L) hF g2;rw[Bu t1] at d1;rw[Bu t2] at d2;obtain rfl:v1= .bool true:=d1;obtain rfl:v2= .bool true:=d2;refine(yl_pick_t (T f1) (T f2)).eff.imp ?_;rintro _ _ ⟨rfl,rfl⟩;exact⟨List.Sublist.refl _,(Bu ht).2 U⟩
theorem Iv {s1 s2 j1 j2:Nat}{x y:Po}(hi:ops[i]? =some ⟨d, .buildSlice 26 2 #[(0, .tmp s1),(1, .tmp s2)],ty,p,af,g⟩)(g1:dget? (depsOf ops ⟨d, .buildSlice 26 2 #[(0, .tmp s1),(1, .tmp s2)],ty,p,af,g⟩) s1=some j1)(g2:dget? (depsOf ops ⟨d, .buildSlice 26 2 #[(0, .tmp s1),(1, .tmp s2)],ty,p,af,g⟩) s2=some j2)(t1:tbl[j1]? =some (.po x))(t2:tbl[j2]? =some (.po y))(ti:tbl[i]? =some (.sl [x,y])):StepI Tryz.prog w0 ops H0 L (denT w0 fl tbl) i:=Co hi fun H F hs hF=>by
 obtain⟨v1,f1,d1⟩:=Ct (L:=L) hF g1;obtain⟨v2,f2,d2⟩:=Ct (L:=L) hF g2;rw[Bu t1] at d1;rw[Bu t2] at d2;obtain⟨m1,rfl,I1,M1⟩:=d1;obtain⟨m2,rfl,I2,M2⟩:=d2;refine(A8 (.cons (T f1) (.cons (T f2) .nil)) (Cg _ _ _ _ _ _ _ _ _ _ _ _ _ _ _ _ _ _ _ _ _ _ _ _ _ _)).imp ?_;rintro _ _ ⟨n,rfl,rfl⟩;have hs1:=List.sublist_cons_self (n,Cl (encPo m1++encPo m2) 28) H;exact⟨hs1,(Bu ti).2 ⟨n,[m1,m2],rfl,arrPo2 Au,fun a ha=>by simp only[List.mem_cons,List.not_mem_nil,or_false] at ha;rcases ha with rfl|rfl<;>first|exact M1.mono hs1|exact M2.mono hs1,I1,I2,trivial⟩⟩
def Mk (fl:List Fd) (k:Int) (ps:List Po) (x:Po):Prop:=∀ q c ms,IsOs fl ms ps→IsO fl (.mk k pd0 ⟨#[]⟩ 0 q c ms) x
theorem mk3 {x y:Po}:Mk fl 3 [x,y] (.uni x y):=fun q c ms h=>by
 match ms,h with
 |[a,b],⟨h1,h2,_⟩=>exact .uni rfl rfl h1 h2
theorem mk4 {x y:Po}:Mk fl 4 [x,y] (.seq x y):=fun q c ms h=>by
 match ms,h with
 |[a,b],⟨h1,h2,_⟩=>exact .seq rfl rfl h1 h2
theorem Gt {s j sk jk:Nat}{k:Int}{ps:List Po}{x:Po}{ts:Array TypeId}(hi:ops[i]? =some ⟨d, .call {callee:= .value (.func 24),args:= #[.tmp sk, .tmp s],argTypes:=ts},ty,p,af,g⟩)(hg:dget? (depsOf ops ⟨d, .call {callee:= .value (.func 24),args:= #[.tmp sk, .tmp s],argTypes:=ts},ty,p,af,g⟩) s=some j)(hgk:dget? (depsOf ops ⟨d, .call {callee:= .value (.func 24),args:= #[.tmp sk, .tmp s],argTypes:=ts},ty,p,af,g⟩) sk=some jk)(tj:tbl[j]? =some (.sl ps))(tk:tbl[jk]? =some (.val (.int .i64 k)))(ti:tbl[i]? =some (.po x))(hk:Mk fl k ps x):StepI Tryz.prog w0 ops H0 L (denT w0 fl tbl) i:=Co hi fun H F hs hF=>by
 obtain⟨v,f,dd⟩:=Ct (L:=L) hF hg;obtain⟨v2,f2,d2⟩:=Ct (L:=L) hF hgk;rw[Bu tj] at dd;rw[Bu tk] at d2;obtain⟨n,ms,rfl,A,M,I⟩:=dd;obtain rfl:v2= .int .i64 k:=d2;refine(An (.cons (T f2) (.cons (T f) .nil)) call24 (Gl k (some ⟨n,0,none⟩) ms ms.length)).imp ?_;rintro _ _ ⟨rfl,rfl⟩;exact⟨List.Sublist.refl _,(Bu ti).2 ⟨_,rfl,hk _ _ _ I, .mk Dk A M⟩⟩
theorem st_drop {ts:Array TypeId}(hi:ops[i]? =some ⟨d, .call {callee:= .value (.func 26),args:= #[],argTypes:=ts},ty,p,af,g⟩)(ti:tbl[i]? =some (.po (.fil .fls))):StepI Tryz.prog w0 ops H0 L (denT w0 fl tbl) i:=Co hi fun H F hs hF=>by
 refine(An .nil call26 ldrop_s).imp ?_;rintro _ _ ⟨rfl,rfl⟩;exact⟨List.Sublist.refl _,(Bu ti).2 ⟨_,rfl, .fil U (.fls U),Ce (.mk (fun i u hi=>by simp at hi) (fun a ha=>by simp at ha))⟩⟩
theorem st_id {ts:Array TypeId}(hi:ops[i]? =some ⟨d, .call {callee:= .value (.func 27),args:= #[],argTypes:=ts},ty,p,af,g⟩)(ti:tbl[i]? =some (.po (.fil .tru))):StepI Tryz.prog w0 ops H0 L (denT w0 fl tbl) i:=Co hi fun H F hs hF=>by
 refine(An .nil call27 lid_s).imp ?_;rintro _ _ ⟨rfl,rfl⟩;exact⟨List.Sublist.refl _,(Bu ti).2 ⟨_,rfl, .fil U (.tru U),Ce (.mk (fun i u hi=>by simp at hi) (fun a ha=>by simp at ha))⟩⟩
theorem I5 {s0 s1 s2 s3 j0 j1 j2 j3:Nat}{x y:Po}{ts:Array TypeId}{q:Option Addr}{c:Nat}{tick:Int}(hi:ops[i]? =some ⟨d, .call {callee:= .value (.func 25),args:= #[.tmp s0, .tmp s1, .tmp s2, .tmp s3],argTypes:=ts},ty,p,af,g⟩)
  (g0:dget? (depsOf ops ⟨d, .call {callee:= .value (.func 25),args:= #[.tmp s0, .tmp s1, .tmp s2, .tmp s3],argTypes:=ts},ty,p,af,g⟩) s0=some j0) (g1:dget? (depsOf ops ⟨d, .call {callee:= .value (.func 25),args:= #[.tmp s0, .tmp s1, .tmp s2, .tmp s3],argTypes:=ts},ty,p,af,g⟩) s1=some j1) (g2:dget? (depsOf ops ⟨d, .call {callee:= .value (.func 25),args:= #[.tmp s0, .tmp s1, .tmp s2, .tmp s3],argTypes:=ts},ty,p,af,g⟩) s2=some j2) (g3:dget? (depsOf ops ⟨d, .call {callee:= .value (.func 25),args:= #[.tmp s0, .tmp s1, .tmp s2, .tmp s3],argTypes:=ts},ty,p,af,g⟩) s3=some j3)
  (t0:tbl[j0]? =some (.val (.slice q fl.length c))) (t1:tbl[j1]? =some (.po x)) (t2:tbl[j2]? =some (.po y)) (t3:tbl[j3]? =some (.val (.int .i64 tick))) (ti:tbl[i]? =some (.val (.bool true)))
  (hfl:FlOk fl) (hA:Arr w0 H0 q 3 encF fl) (hx:x.Fit (bsF fl)) (hy:y.Fit (bsF fl)) (he:PEq (bsF fl) tick x y):StepI Tryz.prog w0 ops H0 L (denT w0 fl tbl) i:=Co hi fun H F hs hF=>by
 obtain⟨v0,f0,d0⟩:=Ct (L:=L) hF g0;obtain⟨v1,f1,d1⟩:=Ct (L:=L) hF g1;obtain⟨v2,f2,d2⟩:=Ct (L:=L) hF g2;obtain⟨v3,f3,d3⟩:=Ct (L:=L) hF g3;rw[Bu t0] at d0;rw[Bu t1] at d1;rw[Bu t2] at d2;rw[Bu t3] at d3;obtain rfl:v0= .slice q fl.length c:=d0;obtain rfl:v3= .int .i64 tick:=d3;obtain⟨m1,rfl,I1,M1⟩:=d1;obtain⟨m2,rfl,I2,M2⟩:=d2;refine(An (.cons (T f0) (.cons (T f1) (.cons (T f2) (.cons (T f3) .nil)))) call25 (Hj fl hfl q c (hA.mono hs) I1 hx M1 I2 hy M2 tick)).imp ?_;rintro _ _ ⟨b,⟨rfl,hb⟩,rfl⟩;rw[hb he];exact⟨List.Sublist.refl _,(Bu ti).2 U⟩
end
abbrev nD:ByteArray:=⟨#[100,115,116]⟩
abbrev nK:ByteArray:=⟨#[107,105,110,100]⟩
abbrev mSet (nm:ByteArray) (n:Int):Pom:= .mk 2 pd0 nm n none 0 []
abbrev mFil (m:Pdm):Pom:= .mk 1 m ⟨#[]⟩ 0 none 0 []
abbrev mEq (nm:ByteArray) (n:Int):Pdm:= .mk 3 nm n 0 none 0 []
abbrev mNo (b:Nat) (m:Pdm):Pdm:= .mk 6 ⟨#[]⟩ 0 0 (some ⟨b,0,none⟩) 1 [m]
abbrev mTru:Pdm:= .mk 1 ⟨#[]⟩ 0 0 none 0 []
abbrev mOp2 (k:Int) (b:Nat) (x y:Pom):Pom:= .mk k pd0 ⟨#[]⟩ 0 (some ⟨b,0,none⟩) 2 [x,y]
abbrev mOp1 (k:Int) (b:Nat) (x:Pom):Pom:= .mk k pd0 ⟨#[]⟩ 0 (some ⟨b,0,none⟩) 1 [x]
section
variable {w0:World} {H R:List (Nat × Obj)}
theorem Fz {k:Int}{b:Nat}{x y:Pom}(hf:Fnd R b (Cl (encPo x++encPo y) 28))(hx:PoM w0 R x)(hy:PoM w0 R y):PoM w0 R (mOp2 k b x y):= .mk Dk (arrPo2 hf) fun a ha=>by
 simp only[List.mem_cons,List.not_mem_nil,or_false] at ha;rcases ha with rfl|rfl
 ·exact hx
 ·exact hy
theorem po_op1 {k:Int}{b:Nat}{x:Pom}(hf:Fnd R b (Cl (encPo x) 28))(hx:PoM w0 R x):PoM w0 R (mOp1 k b x):= .mk Dk (arrPo1 hf) fun a ha=>by
 simp only[List.mem_singleton] at ha;subst ha;exact hx
theorem H3 {k:Int}{s:ByteArray}{v t:Int}:PdM w0 R (.mk k s v t none 0 []):= .mk (fun i u hi=>by simp at hi) (fun a ha=>by simp at ha)
theorem arrPd1 {n:Nat}{a:Pdm}{t:TypeId}(hf:Fnd R n (Cl (encPd a) t)):Arr w0 R (some ⟨n,0,none⟩) 5 encPd [a]:=fun j x hj=>by
 refine⟨rfl,fun k v hk=> ?_⟩
 match j,hj with
 |0,hj=>
  have:a=x:=by simpa using hj
  subst this;exact Cv hf (by show (encPd a)[0+0*5+k]? =some v;rw[show (0:Nat)+0*5+k=k by omega];exact hk)
theorem pd_no {b:Nat}{m:Pdm}(hf:Fnd R b (Cl (encPd m) 25))(hx:PdM w0 R m):PdM w0 R (mNo b m):= .mk (arrPd1 hf) fun a ha=>by
 simp only[List.mem_singleton] at ha;subst ha;exact hx
theorem fndD:(fndFd exF nD).1=exD:=by kernel_rfl
theorem fndK:(fndFd exF nK).1=exK:=by kernel_rfl
theorem Hu {nm:ByteArray}{n:Nat}{f:Fd}(h:(fndFd exF nm).1=f):IsO exF (mSet nm n) (.set f n):=h ▸ .set U U
theorem J3 {nm:ByteArray}{n:Nat}{f:Fd}(h:(fndFd exF nm).1=f):IsP exF (mEq nm n) (.eq f n):=h ▸ .eq U U
theorem pin (n:Nat)(h:n<4):(n:Nat)<2 ^ exD.w∧n<2 ^ exK.w:=⟨by show n<2 ^ 8;omega,by show n<2 ^ 3;omega⟩
structure ExD (w0:World) (R:List (Nat × Obj)) (D:Sd):Prop where
 bs:D.bs=bsE
 mo:D.most=200000
 en:En w0 R D exF
theorem ExD.mono {R':List (Nat × Obj)}{D:Sd}(h:ExD w0 R D)(hs:R.Sublist R'):ExD w0 R' D:=⟨h.bs,h.mo,h.en.mono hs⟩
theorem new_ex {b:Nat}:FSpec Tryz.prog w0 13 #[.slice (some ⟨b,0,none⟩) 3 3, .int .i64 200000] ((b,Cl (exF.flatMap encF) 67)::H) (fun u H'=>∃ (D:Sd) (v:Sv) (R:List (Nat × Obj)),(u= .pointer (some ⟨D.p,0,none⟩)∧StOk D v (nsE 70)∧ExD w0 R D∧H.Sublist R)∧H'=SM D v (nsE 70)++R):=by
 have hA:Arr w0 ((b,Cl (exF.flatMap encF) 67)::H) (some ⟨b,0,none⟩) 3 encF exF:=C0 (w0:=w0) (e:=67) (X:=H) (enc:=encF) (d:= .blk b 3 []) (fun _=>rfl) ⟨Nat.le_refl _,rfl⟩;intro w hO;refine(new_s exF Ju (some ⟨b,0,none⟩) 3 hA 200000 qom w hO).mono ?_;rintro e w' ⟨u,H',he,hO',⟨dx,db,p,mp,v⟩,⟨rfl,hdx,hdb,hst⟩,rfl⟩;have hN:nsE (2*(bsF exF).length)=nsE 70:=by rw[Iu];rfl
 dsimp only at *
 rw[hN] at hst hO';exact⟨_,_,he,hO',NewD exF 200000 dx db p mp,v,slH db ((bsF exF).flatMap encB1) 3++(slH dx (exF.flatMap encF) 67++((b,Cl (exF.flatMap encF) 67)::H)),⟨rfl,hst,⟨Iu,rfl,en_new Ju hdx hdb 200000 p mp⟩,by exact sbt⟩,rfl⟩
abbrev PxK (D:Sd) (id:Nat) (ns:Ns) (R:List (Nat × Obj)):Value→List (Nat × Obj)→Prop:=fun u H'=>∃ v:Sv,(u= .tuple #[.int .i64 (id:Nat), .int .i64 0]∧StOk D v ns)∧H'=SM D v ns++R
theorem px_of {f:FuncId}{args:Array Value}{D:Sd}{v:Sv}{ns ns':Ns}{id:Nat}{p:Po}(hD:ExD w0 R D)(hf:polF 200000 bsE 0 (rdN bsE) p ns=some (id,ns'))(h:FSpec Tryz.prog w0 f args (SM D v ns++R) (TryK D (polF D.most.toNat D.bs 0 (rdN D.bs) p ns) ns R)):FSpec Tryz.prog w0 f args (SM D v ns++R) (PxK D id ns' R):=by
 rw[hD.bs,hD.mo] at h;rw[show ((200000:Int)).toNat=200000 from rfl,hf] at h;intro w hO;refine(h w hO).mono ?_;rintro e w' ⟨u,H',he,hO',⟨id1,e1,v1,ns1⟩,⟨rfl,hc,hst1⟩,rfl⟩
 dsimp only at *
 rcases hc with ⟨h1,rfl⟩|⟨h1,_⟩
 ·obtain⟨rfl,rfl⟩:=Prod.mk.inj (Option.some.inj h1);exact⟨_,_,he,hO',v1,⟨rfl,hst1⟩,rfl⟩
 ·cases h1
theorem Jr {D:Sd}{v:Sv}{ns ns':Ns}{id:Nat}{p:Po}(hst:StOk D v ns)(hD:ExD w0 R D)(hf:polF 200000 bsE 0 (rdN bsE) p ns=some (id,ns'))(m:Pom)(hI:IsO exF m p)(hM:PoM w0 R m)(hF:p.Fit bsE):FSpec Tryz.prog w0 14 #[.pointer (some ⟨D.p,0,none⟩), .agg (encPo m).toArray, .int .i64 0] (SM D v ns++R) (PxK D id ns' R):=px_of hD hf (Fv hst hD.en m p hI (hD.bs ▸ hF) hM 0)
theorem set_ex {D:Sd}{v:Sv}{ns ns':Ns}{id:Nat}(hst:StOk D v ns)(hD:ExD w0 R D)(hf:polF 200000 bsE 0 (rdN bsE) (.set exD 2) ns=some (id,ns')):FSpec Tryz.prog w0 38 #[.pointer (some ⟨D.p,0,none⟩), .string nD, .int .i64 2] (SM D v ns++R) (PxK D id ns' R):=by
 have h:=setm_s (R:=R) hst hD.en nD 2 (by rw[fndD,hD.bs];exact⟨inD,by decide⟩);rw[fndD] at h;exact px_of hD hf h
theorem fil_ex {D:Sd}{v:Sv}{ns ns':Ns}{id:Nat}{p:Pd}(hst:StOk D v ns)(hD:ExD w0 R D)(hf:polF 200000 bsE 0 (rdN bsE) (.fil p) ns=some (id,ns'))(m:Pdm)(hI:IsP exF m p)(hM:PdM w0 R m)(hF:p.Fit bsE):FSpec Tryz.prog w0 39 #[.pointer (some ⟨D.p,0,none⟩), .agg (encPd m).toArray, .int .i64 0] (SM D v ns++R) (PxK D id ns' R):=px_of hD hf (filterm_s hst hD.en m p hI (by rw[hD.bs];exact hF) hM 0)
end
instance:Inhabited Chm:=⟨⟨(hd0,hd0), .blk 0 0 [],[]⟩⟩
section
variable {w0:World} {H:List (Nat × Obj)}
structure ExM (w0:World) (H:List (Nat × Obj)) (D:Sd) (v:Sv) (ns:Ns):Prop where
 st:StOk D v ns
 bs:D.bs=bsE
 S:(SM D v ns).Sublist H
 B:Arr w0 H D.qb 1 encB1 D.bs
 ex:ExOk ns
theorem ExM.mono {H':List (Nat × Obj)}{D:Sd}{v:Sv}{ns:Ns}(h:ExM w0 H D v ns)(hs:H.Sublist H'):ExM w0 H' D v ns:=⟨h.st,h.bs,h.S.trans hs,h.B.mono hs,h.ex⟩
variable {D:Sd} {v:Sv} {ns:Ns}
theorem ev5_ex (h:ExM w0 H D v ns):FSpec Tryz.prog w0 21 #[.pointer (some ⟨D.p,0,none⟩), .int .i64 774, .agg (hdC hd0).toArray] H (fun u H'=>∃ d:Sl,(SlOk d [hd0,hk1,hk2].length 10∧u= .tuple #[slV d [hd0,hk1,hk2].length, .int .i64 0])∧H'=slH d ([hd0,hk1,hk2].flatMap encHd) 30++H):=by
 have hl:=h.ex.len;have e:=eval_s Ca h.st (h.bs ▸ Gs) h.S h.B 774 qom;rw[h.bs,h.ex.ev5] at e;intro w hO;refine(e w hO).mono ?_;rintro _ w' ⟨u,H',he,hO',⟨d,⟨_,h2,rfl⟩,rfl⟩|⟨h1,_⟩⟩
 ·exact⟨_,_,he,hO',d,⟨h2,rfl⟩,rfl⟩
 ·simp at h1
theorem ev6_ex (h:ExM w0 H D v ns):FSpec Tryz.prog w0 21 #[.pointer (some ⟨D.p,0,none⟩), .int .i64 843, .agg (hdC hd0).toArray] H (fun u H'=>∃ d:Sl,(u= .tuple #[slV d 0, .int .i64 0])∧H'=slH d [] 30++H):=by
 have hl:=h.ex.len;have e:=eval_s Ca h.st (h.bs ▸ Gs) h.S h.B 843 qom;rw[h.bs,h.ex.ev6] at e;intro w hO;refine(e w hO).mono ?_;rintro _ w' ⟨u,H',he,hO',⟨d,⟨_,h2,rfl⟩,rfl⟩|⟨h1,_⟩⟩
 ·exact⟨_,_,he,hO',d,rfl,rfl⟩
 ·simp at h1
theorem df1_ex (h:ExM w0 H D v ns):FSpec Tryz.prog w0 15 #[.pointer (some ⟨D.p,0,none⟩), .int .i64 843, .int .i64 238] H (Still (.tuple #[.agg (hdC hd0).toArray, .bool true]) H):=by
 have hl:=h.ex.len;have e:=differ_s h.st (h.bs ▸ Gs) h.S h.B 843 238 qom qom;rw[h.bs,h.ex.df] at e;exact e
theorem df2_ex (h:ExM w0 H D v ns):FSpec Tryz.prog w0 15 #[.pointer (some ⟨D.p,0,none⟩), .int .i64 160, .int .i64 160] H (Still (.tuple #[.agg (hdC hd0).toArray, .bool false]) H):=by
 have hl:=h.ex.len;have e:=differ_s h.st (h.bs ▸ Gs) h.S h.B 160 160 qom qom;rw[show dfH ns D.bs 160 160=hd0 from if_pos rfl] at e;exact e
theorem gv_ex (h:ExM w0 H D v ns){a:Nat}{b:Bool}(ha:a<906)(hg:gvF ns (xh bsE hd0) a=b):FSpec Tryz.prog w0 34 #[.pointer (some ⟨D.p,0,none⟩), .int .i64 (a:Nat), .agg (hdC hd0).toArray] H (Still (.bool b) H):=by
 have hl:=h.ex.len;have e:=givesm_s Ca h.st (h.bs ▸ Gs) h.S h.B a qom;rw[h.bs,hg] at e;exact e
theorem rl_ex (h:ExM w0 H D v ns){s:Fs}(hs:Rs 70 ns s)(hr:rdC s 35 0 [906]=some [2]):FSpec Tryz.prog w0 20 #[.pointer (some ⟨D.p,0,none⟩), .int .i64 906] H (fun u H'=>∃ (d:Sl) (c:Chm) (X:List (Nat × Obj)),(c.ms.length=2∧SlOk d [c].length 21∧u= .tuple #[slV d [c].length, .int .i64 0])∧H'=slH d ([c].flatMap encCh) 81++(X++H)):=by
 have hl:=h.ex.len;have hbdd:Bdd ns D.bs (QC s bsE):=by rw[h.bs];exact qc_bdd hs
 have e:=rules_s h.st (h.bs ▸ Gs) h.S h.B hbdd 906 qom (fun _=>⟨[2],hr⟩);have hR:=ex_rules hs hr;rw[h.bs] at e;intro w hO;refine(e w hO).mono ?_;rintro _ w' ⟨u,H',he,hO',⟨⟨d,cs⟩,⟨_,h2,h3,_,rfl⟩,rfl⟩|⟨h1,_⟩⟩
 ·dsimp only at *
  rw[← h2,List.map_map] at hR
  match cs,hR with
  |[c],hR=>
   have hc:c.ms.length=2:=by simpa[Chm.pl] using hR
   exact⟨_,_,he,hO',d,c,chM [c],⟨hc,h3,rfl⟩,by rw[List.append_assoc]⟩
  |[],hR=>simp at hR
  |_::_::_,hR=>simp at hR
 ·have:=congrArg List.length hR;rw[List.length_map] at this;simp at this;omega
end
theorem eq34_nil (a:Nat)(w:World):(Op.equal 34 (.pointer (some ⟨a,0,none⟩)) (.pointer none)).run Tryz.prog w= .ok false w:=by kernel_rfl
theorem yl_ptrN {w0:World}{L:Fm}{H:List (Nat × Obj)}{ty yt:TypeId}{x:Operand}{a:Nat}(hx:Ev L x (.pointer (some ⟨a,0,none⟩))):Yl Tryz.prog w0 (.binOp .eql 34 x (.const (.pointer none)) yt) ty L H (.bool false):=A7 U fun b w=>by
 have hc:ev (lk L b) (.const (.pointer none))= .pointer none:=rfl;have hx':=hx b;simp[exO,execOp,hx',hc,binOp,eqGuard,eq34_nil,Sem.run_bind,Result.andThen]
theorem Ew {P:Program}{w0:World}{L:Fm}{H:List (Nat × Obj)}{ty xt yt:TypeId}{x y:Operand}{k:IntKind}{a c:Int}(hx:Ev L x (.int k a))(hy:Ev L y (.int k c))(h:a=c):Yl P w0 (.binOp .neq xt x y yt) ty L H (.bool false):=by
 have:=yl_neq (P:=P) (w0:=w0) (H:=H) (ty:=ty) (xt:=xt) (yt:=yt) hx hy
 rwa [decide_eq_false (fun e=>e h)] at this
theorem Hv {P:Program}{w0:World}{L:Fm}{H:List (Nat × Obj)}{ty xt yt:TypeId}{x y:Operand}{k:IntKind}{a c:Int}(hx:Ev L x (.int k a))(hy:Ev L y (.int k c))(h:a=c):Yl P w0 (.binOp .eql xt x y yt) ty L H (.bool true):=by
 have:=yl_eql (P:=P) (w0:=w0) (H:=H) (ty:=ty) (xt:=xt) (yt:=yt) hx hy
 rwa [decide_eq_true h] at this
theorem yl_eqF {P:Program}{w0:World}{L:Fm}{H:List (Nat × Obj)}{ty xt yt:TypeId}{x y:Operand}{k:IntKind}{a c:Int}(hx:Ev L x (.int k a))(hy:Ev L y (.int k c))(h: ¬ a=c):Yl P w0 (.binOp .eql xt x y yt) ty L H (.bool false):=by
 have:=yl_eql (P:=P) (w0:=w0) (H:=H) (ty:=ty) (xt:=xt) (yt:=yt) hx hy
 rwa [decide_eq_false h] at this
theorem yl_geT {P:Program}{w0:World}{L:Fm}{H:List (Nat × Obj)}{ty xt yt:TypeId}{x y:Operand}{k:IntKind}{a c:Int}(hx:Ev L x (.int k a))(hy:Ev L y (.int k c))(h:c≤a):Yl P w0 (.binOp .geq xt x y yt) ty L H (.bool true):=by
 have:=yl_geq (P:=P) (w0:=w0) (H:=H) (ty:=ty) (xt:=xt) (yt:=yt) hx hy
 rwa [decide_eq_true h] at this
theorem eqH0 (w:World):(Op.equal 30 (.agg (hdC hd0).toArray) (.agg (hdC hd0).toArray)).run Tryz.prog w= .ok (decide True) w:=by kernel_rfl
end Go.Proofs.YtkojjapnfdlddaaGreat
